/-
  An abstract machine over the model's code and its soundness; what the functions compute, as plain functions (printed by a program of this repo's own, checked here by the kernel); plain laws of them: part 6. Helper text, no statement of the claim stands here.
-/
import Derived.Test.YtdgenbliehokjaaGreatDoorTxtOe
import Derived.Lib.IndexMore
open BitVec renaming ofInt → wG
open Bool renaming and_eq_true → wz, false_eq_true → wM, not_eq_true' → wUa
open ByteArray renaming empty → wD, toList → wO
open Go.IntKind renaming wrap → wd
open Int renaming eq_ofNat_of_zero_le → whb, fdiv → wX, le_refl → wVa, ofNat → wi, ofNat_eq_natCast → wj, tdiv → wFa, tmod → wob, toNat → wn, toNat_natCast → wv
open List renaming all_cons → wub, append_assoc → wy, append_nil → wS, cons_append → wea, drop → wW, drop_drop → wja, drop_eq_getElem_cons → wAa, drop_eq_nil_of_le → wI, drop_zero → wca, getD → wk, getD_cons_zero → wpb, getD_eq_getElem?_getD → wu, getElem?_eq_getElem → wx, getElem?_eq_none → wrb, getElem?_map → wxa, length_append → wm, length_cons → wB, length_drop → wda, length_nil → wT, length_replicate → wfa, length_set → wia, length_singleton → wC, length_take → wP, map_cons → wL, mem_append → wba, mem_cons → waa, mem_map → wY, mem_singleton → wV, nil_append → wU, replicate → wo, replicate_succ → wIa, set → wF, take → wK, take_append_of_le_length → wLa, take_of_length_le → wN, take_succ_eq_append_getElem → wPa
open Nat renaming le_refl → wt, zero_add → wQ
open Option renaming bind_some → wq, getD_some → wSa, map_some → wya
/-
  What the law leans on, of several chains of plain texts.
-/
set_option linter.unusedVariables false
set_option linter.unusedSimpArgs false
set_option maxHeartbeats 1000000
set_option maxRecDepth 100000
namespace Go.Ab
open Go
attribute [local irreducible] IntKind.wrap
def Tot {α:Type} (x:Option α) (P:α→Prop):Prop:=∃r,x=some r∧P r
theorem ub {α:Type} {r:α} {P:α→Prop} (h:P r):Tot (some r) P:=⟨r,rfl,h⟩
theorem ul {α:Type} {x:Option α} {r:α} {P:α→Prop} (e:x=some r) (h:P r):Tot x P:=⟨r,e,h⟩
theorem Tot.mono {α:Type} {x:Option α} {P Q:α→Prop} (h:Tot x P) (k:∀r,P r→Q r):Tot x Q:=by
 obtain ⟨r,e,p⟩:=h;exact ⟨r,e,k r p⟩
theorem Tot.b {α β:Type} {x:Option α} {f:α→Option β} {P:α→Prop} {Q:β→Prop} (h:Tot x P) (k:∀r,P r→Tot (f r) Q):Tot (x.bind f) Q:=by
 obtain ⟨r,e,p⟩:=h;obtain ⟨s,e',q⟩:=k r p;exact ⟨s,by rw [e,wq,e'],q⟩
theorem ue {α β:Type} {x:Option α} {f:α→Option β} {v:α} {Q:β→Prop} (h:x=some v) (k:Tot (f v) Q):Tot (x.bind f) Q:=by
 subst h;exact k
theorem ua {α:Type} {p:Prop} {x:Option α} {Q:α→Prop} (h:p) (k:Tot x Q):Tot (gd p x) Q:=by rw [qda h];exact k
theorem uj {α:Type} {c:Prop} {i:Decidable c} {x y:Option α} {Q:α→Prop} (h1:c→Tot x Q) (h2:¬c→Tot y Q):Tot (@ite _ c i x y) Q:=by
 by_cases h:c
 ·rw [if_pos h];exact h1 h
 ·rw [if_neg h];exact h2 h
theorem ug {α:Type} {p:Prop} {d:Decidable p} {i:Decidable (@decide p d=true)} {x y:Option α} {Q:α→Prop} (h1:p→Tot x Q) (h2:¬p→Tot y Q):Tot (@ite _ (@decide p d=true) i x y) Q:=
 uj (fun h=>h1 (of_decide_eq_true h)) (fun h=>h2 (fun hp=>h (decide_eq_true hp)))
theorem uf {α:Type} {p:Prop} {d:Decidable p} {i:Decidable (@decide p d=true)} {x y:Option α} {Q:α→Prop} (h:p) (h1:Tot x Q):Tot (@ite _ (@decide p d=true) i x y) Q:=
 ug (fun _=>h1) (fun k=>absurd h k)
theorem uc {α:Type} {p:Prop} {d:Decidable p} {i:Decidable (@decide p d=true)} {x y:Option α} {Q:α→Prop} (h:¬p) (h1:Tot y Q):Tot (@ite _ (@decide p d=true) i x y) Q:=
 ug (fun k=>absurd k h) (fun _=>h1)
theorem uh {α:Type} {a b:Int} {i:Decidable ((a != b)=true)} {x y:Option α} {Q:α→Prop} (h1:a≠b→Tot x Q) (h2:a=b→Tot y Q):Tot (@ite _ ((a != b)=true) i x y) Q:=
 uj (fun h=>h1 (by simpa using h)) (fun h=>h2 (by simpa using h))
theorem uA {α:Type} {a b:Int} {i:Decidable ((a != b)=true)} {x y:Option α} {Q:α→Prop} (h:a≠b) (h1:Tot x Q):Tot (@ite _ ((a != b)=true) i x y) Q:=
 uh (fun _=>h1) (fun k=>absurd k h)
theorem ud {α:Type} {a b:Int} {i:Decidable ((a != b)=true)} {x y:Option α} {Q:α→Prop} (h:a=b) (h1:Tot y Q):Tot (@ite _ ((a != b)=true) i x y) Q:=
 uh (fun k=>absurd h k) (fun _=>h1)
theorem uk {α:Type} {a b:Int} {i:Decidable ((a==b)=true)} {x y:Option α} {Q:α→Prop} (h1:a=b→Tot x Q) (h2:a≠b→Tot y Q):Tot (@ite _ ((a==b)=true) i x y) Q:=
 uj (fun h=>h1 (by simpa using h)) (fun h=>h2 (by simpa using h))
theorem ux {α:Type} {a b:Int} {i:Decidable ((a==b)=true)} {x y:Option α} {Q:α→Prop} (h:a=b) (h1:Tot x Q):Tot (@ite _ ((a==b)=true) i x y) Q:=
 uk (fun _=>h1) (fun k=>absurd h k)
theorem uy {α:Type} {a b:Int} {i:Decidable ((a==b)=true)} {x y:Option α} {Q:α→Prop} (h:a≠b) (h1:Tot y Q):Tot (@ite _ ((a==b)=true) i x y) Q:=
 uk (fun k=>absurd k h) (fun _=>h1)
theorem uo {α:Type} {i:Decidable (false=true)} {x y:Option α} {Q:α→Prop} (h:Tot y Q):Tot (@ite _ (false=true) i x y) Q:=uj (fun k=>absurd k Bool.false_ne_true) (fun _=>h)
theorem um {α:Type} {b:Bool} {i:Decidable ((not b)=true)} {x y:Option α} {Q:α→Prop} (h1:b=false→Tot x Q) (h2:b=true→Tot y Q):Tot (@ite _ ((not b)=true) i x y) Q:=
 uj (fun h=>h1 (by simpa using h)) (fun h=>h2 (by simpa using h))
theorem Tot.eq {α:Type} {x:Option α} {v:α} (h:Tot x fun r=>r=v):x=some v:=by obtain ⟨r,e,p⟩:=h;rw [e,p]
theorem qgd {P:Int→Prop} (n:Int) (base:∀i,n≤i→P i) (step:∀i,i<n→P (i+1)→P i):∀i,P i:=by
 intro i
 generalize hm:(n - i).toNat=m
 induction m generalizing i with
 |zero=>exact base i (by omega)
 |succ m ih=>exact step i (by omega) (ih (i+1) (by omega))
theorem qmO (x:Int):0≤wd .u32 x∧wd .u32 x<4294967296:=by rw [qkz];omega
theorem qqQ (x:Int):0≤wd .u64 x∧wd .u64 x<18446744073709551616:=by rw [qyR];omega
theorem qfv (x:Int):0≤wd .u8 x∧wd .u8 x<256:=by rw [wu8];omega
theorem qae (n:Nat) (m:Int) (h0:0≤m) (h1:m<2 ^ n):(wG n m).toNat=m.toNat:=by
 rw [BitVec.toNat_ofInt];congr 1;exact Int.emod_eq_of_lt h0 (by exact_mod_cast h1)
theorem qaO (x m:Int) (h0:0≤m) (h1:m<9223372036854775808):0≤qeb .i64 x m∧qeb .i64 x m≤m:=by
 have hh:(wG 64 x &&& wG 64 m).toNat≤m.toNat:=by
  rw [BitVec.toNat_and,qae 64 m h0 (by omega)];exact Nat.and_le_right
 have e:qeb .i64 x m=((wG 64 x &&& wG 64 m).toNat:Int):=by
  show wd .i64 ((wG 64 x &&& wG 64 m).toNat:Int)=_
  exact w64 (by omega) (by omega)
 rw [e];omega
theorem qUR (x m:Int) (h0:0≤m) (h1:m<2147483648):0≤qeb .i32 x m∧qeb .i32 x m≤m:=by
 have hh:(wG 32 x &&& wG 32 m).toNat≤m.toNat:=by
  rw [BitVec.toNat_and,qae 32 m h0 (by omega)];exact Nat.and_le_right
 have e:qeb .i32 x m=((wG 32 x &&& wG 32 m).toNat:Int):=by
  show wd .i32 ((wG 32 x &&& wG 32 m).toNat:Int)=_
  exact w32 (by omega) (by omega)
 rw [e];omega
theorem qxR (x:Int) (k:Nat) (hk:k≤20) (h1:1≤k) (h0:0≤x) (hx:x<2 ^ k):0≤qAb .i64 x 1∧qAb .i64 x 1<2 ^ k:=by
 have hp:(2:Int) ^ k≤2 ^ 20:=by exact_mod_cast Nat.pow_le_pow_right (by decide) hk
 have hp':(2:Int) ^ 20=1048576:=by decide
 have hc:((2 ^ k:Nat):Int)=(2:Int) ^ k:=by norm_cast
 have hh:(wG 64 x ^^^ wG 64 1).toNat<2 ^ k:=by
  rw [BitVec.toNat_xor,qae 64 x h0 (by omega),qae 64 1 (by omega) (by omega)]
  refine Nat.xor_lt_two_pow (by omega) ?_
  show 1<2 ^ k
  exact Nat.one_lt_two_pow (by omega)
 have hz:((wG 64 x ^^^ wG 64 1).toNat:Int)<2 ^ k:=by rw [←hc];exact_mod_cast hh
 have e:qAb .i64 x 1=((wG 64 x ^^^ wG 64 1).toNat:Int):=by
  show wd .i64 ((wG 64 x ^^^ wG 64 1).toNat:Int)=_
  exact w64 (by omega) (by omega)
 rw [e];omega
theorem qmQ {l:Int} (h0:0≤l) (h1:l≤7):l=0∨l=1∨l=2∨l=3∨l=4∨l=5∨l=6∨l=7:=by omega
def plR (l:Int):Int:=2 ^ (6+l.toNat)
def plT (l:Int):Int:=2 ^ (4+l.toNat)
theorem qPu {l:Int} (h0:0≤l) (h1:l≤7):64≤plR l∧plR l≤8192:=by
 rcases qmQ h0 h1 with rfl|rfl|rfl|rfl|rfl|rfl|rfl|rfl <;> decide
theorem qmx {l:Int} (h0:0≤l) (h1:l≤7):16≤plT l∧plT l≤2048:=by
 rcases qmQ h0 h1 with rfl|rfl|rfl|rfl|rfl|rfl|rfl|rfl <;> decide
theorem qos {l:Int} (h0:0≤l) (h1:l≤7):qpn l=some (plR l):=by
 rw [quz,qda h0]
 rcases qmQ h0 h1 with rfl|rfl|rfl|rfl|rfl|rfl|rfl|rfl <;> exact congrArg some (by kernel_rfl)
theorem qpp {l:Int} (h0:0≤l) (h1:l≤7):qZj l=some (plR l):=by
 rw [qJv,qda h0]
 rcases qmQ h0 h1 with rfl|rfl|rfl|rfl|rfl|rfl|rfl|rfl <;> exact congrArg some (by kernel_rfl)
theorem qEu {l:Int} (h0:0≤l) (h1:l≤7):qbq l=some (plT l):=by
 rw [qoB,qda h0]
 rcases qmQ h0 h1 with rfl|rfl|rfl|rfl|rfl|rfl|rfl|rfl <;> exact congrArg some (by kernel_rfl)
theorem qZN:∀k:Fin 21,qeb .i64 ((2 ^ k.val:Nat):Int) (((2 ^ k.val:Nat):Int) - 1)=0:=by decide+kernel
theorem qmm (a:Int) {len:Int} (k:Nat) (hk:k≤20) (hl:len=2 ^ k):Tot (quj a len) fun r=>r.2=0∧0≤r.1∧r.1<len:=by
 have hp:(2:Int) ^ k≤2 ^ 20:=by exact_mod_cast Nat.pow_le_pow_right (by decide) hk
 have hp':(2:Int) ^ 20=1048576:=by decide
 have h1:(1:Int)≤2 ^ k:=by exact_mod_cast Nat.one_le_two_pow
 have hz:=qZN ⟨k,by omega⟩
 have hc:((2 ^ k:Nat):Int)=(2:Int) ^ k:=by norm_cast
 rw [hc,←hl] at hz
 rw [qky,w64 (x:=len - 1) (by omega) (by omega)]
 have hb:=qaO (wd .i64 a) (len - 1) (by omega) (by omega)
 refine uc (by omega) (uc (by omega) (ud hz (ub ⟨rfl,?_⟩)))
 simp only
 omega
theorem qUz (a:Int):Tot (qlp a) fun r=>True:=by
 rw [qly]
 exact ua (by decide) (ub trivial)
theorem qTk {α:Type} (l:List α) (s:Nat) (hs:s≤64) (hl:l.length≤1048576):
  (qkF (fun (r1:Bool)=>r1=true→l=[]) fun (r1:Bool)=>
   if r1=true then some ([]) else gd ((List.length ([]++l))*s≤140737488355328)<|some ([]++l))=some l:=by
 refine qaz false (by simp) (fun r hr=>?_)
 by_cases h:r=true
 ·rw [if_pos h,hr h]
 ·rw [if_neg h,qda (by
   rw [wU]
   exact Nat.le_trans (Nat.mul_le_mul hl hs) (by decide)),wU]
theorem qhk (l:List Int) (h:l.length≤1048576):qLi l=some l:=by rw [qdr];exact qTk l 1 (by decide) h
theorem qcb (l:List Int) (h:l.length≤1048576):qVa l=some l:=by rw [qxk];exact qTk l 4 (by decide) h
theorem qdc (l:List Int) (h:l.length≤1048576):qub l=some l:=by rw [qgm];exact qTk l 1 (by decide) h
theorem qvi (l:List Int) (h:l.length≤1048576):qde l=some l:=by rw [qln];exact qTk l 8 (by decide) h
theorem qOg (l:List qye) (h:l.length≤1048576):qpb l=some l:=by rw [qDh];exact qTk l 16 (by decide) h
theorem qMj (l:List qta) (h:l.length≤1048576):qBb l=some l:=by rw [qLg];exact qTk l 32 (by decide) h
theorem qNj (l:List qra) (h:l.length≤1048576):qCb l=some l:=by rw [qNg];exact qTk l 56 (by decide) h
theorem qOa {α:Type} {P:α→Prop} {l:List α} {d:α} (h:∀x∈l,P x) (i:Nat) (hi:i<l.length):P (l.getD i d):=by
 rw [wu,wx hi];exact h _ (List.getElem_mem hi)
theorem qmy {α:Type} {P:α→Prop} {l:List α} {d:α} (h:∀x∈l,P x) (hd:P d) (i:Nat):P (l.getD i d):=by
 by_cases hi:i<l.length
 ·exact qOa h i hi
 ·rw [wu,wrb (by omega)];exact hd
theorem qCf {α:Type} {P:α→Prop} {l:List α} {v:α} (h:∀x∈l,P x) (hv:P v) (i:Nat):∀x∈l.set i v,P x:=by
 intro x hx
 rcases List.mem_or_eq_of_mem_set hx with h'|rfl
 ·exact h x h'
 ·exact hv
theorem qLj {α:Type} {P:α→Prop} {l:List α} {v:α} (h:∀x∈l,P x) (hv:P v):∀x∈l++[v],P x:=by
 intro x hx
 rcases wba.1 hx with h'|h'
 ·exact h x h'
 ·rw [wV.1 h'];exact hv
theorem qnH {α:Type} (l:List α) (i:Nat) (d:α):l.set i (l.getD i d)=l:=by
 by_cases hi:i<l.length
 ·rw [wu,wx hi,wSa,List.set_getElem_self]
 ·rw [List.set_eq_of_length_le (by omega)]
def qxe (l:Int) (r:qdb):Prop:=r.1=l∧(0≤l∧l≤7)∧(r.2.1.length:Int)=plR l∧Bts r.2.1∧0≤r.2.2.1∧r.2.2.1≤1073741824∧∀x∈r.2.1.drop r.2.2.1.toNat,x=0
theorem qjz (x:Int) (l:List Int) (hx:x=0) (hl:(x::l).length≤1048576):qCe (x::l)=some (0,1):=by
 subst hx
 rw [qal,qHj]
 simp only [wj,wB] at*
 have e:(0::l).getD (wn 0) 0=(0:Int):=rfl
 rw [if_pos (by simp),qda (by omega),qda (by omega),e,if_pos (by decide),w32 (by decide) (by decide)]
theorem qRz (l:List Int) (hl:l.length≤1048576) (hz:∀x∈l,x=0):∀i:Int,0≤i→qPd l true i=some (-1):=by
 intro i
 refine qgd (P:=fun i=>0≤i→qPd l true i=some (-1)) l.length ?_ ?_ i
 ·intro i hi h0
  rw [qBj]
  simp only [wj]
  rw [if_neg (by simp;omega)]
 ·intro i hi ih h0
  rw [qBj]
  simp only [wj]
  rw [if_pos (by simpa using hi),qda h0,qda (by omega)]
  have hd:l.drop i.toNat=l[i.toNat]'(by omega)::l.drop (i.toNat+1):=wAa (by omega)
  rw [hd,qjz _ _ (hz _ (List.getElem_mem _)) (by rw [←hd,wda];omega),wq,qWw,wq,if_neg (by decide)]
  simp only
  rw [w64 (by omega) (by omega)]
  exact ih (by omega)
theorem qAu (l:List Int) (hl:l.length≤1048576) (hz:∀x∈l,x=0):qZh l=some false:=by
 rw [qEp,qft,qet,qRz l hl hz 0 (by omega)]
 rfl
theorem qMd {l:Int} {r:qdb} (h:qxe l r):qne r=some 0:=by
 obtain ⟨h1,⟨h2,h3⟩,h4,h5,h6,h7,h8⟩:=h
 have hp:=qPu h2 h3
 rw [quB,h1,qos h2 h3]
 simp only [wj]
 rw [if_neg (by simpa using h2),if_neg (by simpa using h3),wq,if_neg (by simpa using h4),if_neg (by simpa using h6),if_neg (by simpa using h7)]
 by_cases hc:r.2.2.1<(r.2.1.length:Int)
 ·rw [if_pos (by simpa using hc),qda h6,qda (by omega),qAu _ (by rw [wda];omega) h8,wq,if_neg (by decide)]
 ·rw [if_neg (by simpa using hc)]
theorem qIA {l:Int} {r:qdb} (h:qxe l r) (a:Int):Tot (qew r a) fun x=>0≤x∧x<256:=by
 obtain ⟨h1,⟨h2,h3⟩,h4,h5,h6,h7,h8⟩:=h
 have hp:=qPu h2 h3
 rw [qPF]
 simp only [wj]
 rw [w64 (x:=(r.2.1.length:Int) - 1) (by omega) (by omega)]
 have hb:=qaO (wd .i64 (r.2.2.1 - a)) ((r.2.1.length:Int) - 1) (by omega) (by omega)
 refine ua hb.1 (ua (by omega) (ub ?_))
 exact qOa (P:=fun x=>0≤x∧x<256) h5 _ (by omega)
theorem qXw {l:Int} {r:qdb} (h:qxe l r) (a:Int):Tot (qps r a) fun x=>0≤x.1∧x.1<256:=by
 rw [quD]
 refine ue (qMd h) (ud rfl (ug (fun _=>ub (by decide)) (fun _=>ug (fun _=>ub (by decide)) (fun _=>ug (fun _=>ub (by decide)) (fun _=>?_)))))
 exact Tot.b (qIA h a) (fun x hx=>ub hx)
theorem qAK {l:Int} {r:qdb} (h:qxe l r) (a:Int):Tot (qRF r a) fun x=>0≤x.1∧x.1<256:=by
 rw [qXI]
 refine ue (qMd h) (ud rfl (ug (fun _=>ub (by decide)) (fun _=>ug (fun _=>ub (by decide)) (fun _=>ug (fun _=>ub (by decide)) (fun _=>?_)))))
 exact Tot.b (qIA h _) (fun x hx=>ub hx)
theorem qbu (b:List Int) (hl:b.length≤1048576):∀(i:Int) (a:Int),0≤i→Tot (qMf a b b.length i) fun _=>True:=by
 intro i
 refine qgd (P:=fun i=>∀a,0≤i→Tot (qMf a b b.length i) fun _=>True) b.length ?_ ?_ i
 ·intro i hi a h0
  rw [qGl]
  exact uc (by omega) (ub trivial)
 ·intro i hi ih a h0
  rw [qGl]
  simp only [wj]
  rw [w64 (x:=i+1) (by omega) (by omega)]
  exact uf (by omega) (ua h0 (ua (by omega) (ua (by decide) (ih _ (by omega)))))
theorem qWq (a:Int) (b:List Int) (hl:b.length≤1048576):Tot (qHl a b) fun _=>True:=by
 rw [qiy];exact qbu b hl 0 a (by omega)
theorem qGn (a:Int) (b:List Int) (hl:b.length≤1048576):Tot (qTm a b) fun _=>True:=by
 rw [qsE]
 refine Tot.b (P:=fun _=>True) ?_ (fun r _=>uh (fun _=>ub trivial) (fun _=>ug (fun _=>ub trivial) (fun _=>Tot.b (qWq _ _ hl) (fun _ _=>ub trivial))))
 rw [qjy]
 exact ug (fun _=>ub trivial) (fun _=>ug (fun _=>ub trivial) (fun _=>ub trivial))
theorem qdC (a b:Int):Tot (qGr a b) fun _=>True:=by
 rw [qTz];exact Tot.b (qWq _ _ (by show 1≤_;decide)) (fun _ _=>ub trivial)
theorem qan {l:Int} {r:qdb} (h:qxe l r):∀(n:Nat) (hs:List Int),n+hs.length≤1000→Bts hs→Tot (qWh n r hs) fun x=>x.length=hs.length+n∧Bts x
 |0,hs,hn,hb=>by
  rw [qPl]
  exact uc (by simp) (ub ⟨rfl,hb⟩)
 |n+1,hs,hn,hb=>by
  rw [qPl]
  refine uf (by omega) (Tot.b (qXw h _) (fun x hx=>ua (by simp;omega) ?_))
  rw [w64 (by omega) (by omega)]
  have e:((n+1:Nat):Int) - 1=(n:Int):=by omega
  rw [e]
  exact Tot.mono (qan h n (hs++[x.1]) (by simp;omega) (qLj hb hx)) (fun y hy=>⟨by simp at hy;omega,hy.2⟩)
theorem qsm {l:Int} {r:qdb} (h:qxe l r) (n:Nat) (hn:n≤1000):Tot (qAj r n) fun x=>x.length=n∧Bts x:=by
 rw [qPy]
 exact Tot.mono (qan h n [] (by simpa using hn) Bts.nil) (fun y hy=>⟨by simpa using hy.1,hy.2⟩)
theorem qyp (a:Int):Tot (qfk a) fun _=>True:=by
 rw [qRv]
 repeat (first|exact ub trivial|refine ug (fun _=>?_) (fun _=>?_))
theorem qYm (h9:List Int) (o n:Nat) (hn:n≤1000):∀(i:Int) (hs:List Int),0≤i→i≤n→hs.length=i.toNat→Tot (que o n n i hs h9) fun x=>x.length≤1000:=by
 intro i
 refine qgd (P:=fun i=>∀(hs:List Int),0≤i→i≤n→hs.length=i.toNat→Tot (que o n n i hs h9) fun x=>x.length≤1000) n ?_ ?_ i
 ·intro i hi hs h0 h1 h2
  rw [qNl]
  exact uc (by omega) (ub (by omega))
 ·intro i hi ih hs h0 h1 h2
  rw [qNl]
  simp only [wj]
  rw [w64 (x:=i+1) (by omega) (by omega)]
  refine uf (by omega) (ua h0 (ua (by omega) (Tot.b (qyp _) (fun x _=>ua (by simp;omega) (ih _ (by omega) (by omega) ?_)))))
  simp;omega
theorem qZm (hs:List Int) (hl:hs.length≤1000):∀n:Nat,n≤hs.length→Tot (qVh n hs) fun x=>x.length≤1000
 |0,hn=>by
  rw [qOl]
  exact uc (by simp) (ua (by omega) (ua (by simp only [wj];omega) (qYm hs _ _ (by omega) 0 [] (by omega) (by omega) rfl)))
 |n+1,hn=>by
  rw [qOl]
  simp only [wj]
  have e:((n+1:Nat):Int) - 1=(n:Int):=by omega
  rw [w64 (x:=((n+1:Nat):Int) - 1) (by omega) (by omega),e]
  refine uf (by omega) (ua (by omega) (ua (by omega) (Tot.b (qyp _) (fun x _=>uh (fun _=>qZm hs hl n (by omega)) (fun _=>ua (by omega) (ua (by omega) ?_))))))
  exact qYm hs _ _ (by omega) 0 [] (by omega) (by omega) rfl
theorem qpA {l:Int} {r:qdb} (h:qxe l r):Tot (qxp r) fun x=>x.length≤1000:=by
 rw [qOy]
 exact Tot.b (qsm h 16 (by decide)) (fun x hx=>qZm x (by omega) x.length (wt _))
theorem qQy {l:Int} {r:qdb} (h:qxe l r) (v b9:List Int) (hv:v=[1,2,3,4,6]) (hs:List Int) (hl:hs.length=6):∀(i:Int) (b10:List Int),0≤i→i≤5→Tot (qXh v i r b9 b10 hs) fun x=>x.2=0:=by
 intro i
 refine qgd (P:=fun i=>∀(b10:List Int),0≤i→i≤5→Tot (qXh v i r b9 b10 hs) fun x=>x.2=0) 5 ?_ ?_ i
 ·intro i hi b10 h0 h1
  rw [qno]
  refine uc (by omega) (Tot.b (qpA h) (fun x hx=>Tot.b (qGn 5 x (by omega)) (fun y _=>ua (by decide) (ua (by decide) (ub rfl)))))
 ·intro i hi ih b10 h0 h1
  rw [qno]
  have hg:1≤v.getD i.toNat 0∧v.getD i.toNat 0≤6:=by
   subst hv
   have:i=0∨i=1∨i=2∨i=3∨i=4:=by omega
   rcases this with rfl|rfl|rfl|rfl|rfl <;> decide
  simp only [wj]
  rw [w64 (x:=i+1) (by omega) (by omega),w64 (x:=6 - v.getD i.toNat 0) (by omega) (by omega)]
  refine uf (by omega) (ua h0 (ua (by omega) (ua (by omega) (ua (by omega) (Tot.b (qGn _ _ ?_) (fun y _=>ua h0 (ua (by omega) (ih _ (by omega) (by omega)))))))))
  rw [wP];omega
theorem qbv {l:Int} {r:qdb} (h:qxe l r):Tot (qXf r) fun x=>x.2=0:=by
 rw [qLC]
 refine ue (qMd h) (ud rfl (Tot.b (qsm h 6 (by decide)) (fun x hx=>?_)))
 exact qQy h _ _ rfl x hx.1 0 _ (by omega) (by omega)
theorem qmo {l:Int} {r:qdb} (h:qxe l r):Tot (qtm r) fun x=>0≤x.1∧x.1<256∧0≤x.2.1∧x.2.1<256:=by
 rw [qpu]
 refine ue (qMd h) (ud rfl (Tot.b (qsm h 2 (by decide)) (fun x hx=>?_)))
 simp only [wj]
 have h1:=qOa (P:=fun x=>0≤x∧x<256) (d:=0) hx.2 1 (by omega)
 have h2:=qOa (P:=fun x=>0≤x∧x<256) (d:=0) hx.2 0 (by omega)
 exact ua (by omega) (ua (by omega) (ua (by omega) (ua (by omega) (ub ⟨h1.1,h1.2,h2.1,h2.2⟩))))
theorem qqA (a b:Int):Tot (qzp a b) fun _=>True:=by
 rw [qRy]
 exact ug (fun _=>ub trivial) (fun _=>ug (fun _=>ub trivial) (fun _=>Tot.b (qdC _ _) (fun _ _=>ub trivial)))
theorem qmJ {m:Int} (l:List Int) (hl:l.length≤1048576) (h:∀x∈l,0≤x∧x≤m):∀(i:Int) (v:Int),0≤i→0≤v→v≤m→Tot (qPb l v i) fun r=>0≤r∧r≤m:=by
 intro i
 refine qgd (P:=fun i=>∀v,0≤i→0≤v→v≤m→Tot (qPb l v i) fun r=>0≤r∧r≤m) l.length ?_ ?_ i
 ·intro i hi v h0 h1 h2
  rw [qdf]
  exact uc (by simp only [wj];omega) (ub ⟨h1,h2⟩)
 ·intro i hi ih v h0 h1 h2
  rw [qdf]
  simp only [wj]
  rw [w64 (x:=i+1) (by omega) (by omega)]
  have hd:=qOa (P:=fun x=>0≤x∧x≤m) (d:=0) h i.toNat (by omega)
  refine uf (by omega) (ua h0 (ua (by omega) (ih _ (by omega) ?_ ?_)))
  ·split <;> omega
  ·split <;> omega
theorem qrL {m:Int} (l:List Int) (hl:l.length≤1048576) (h1:1≤l.length) (h:∀x∈l,0≤x∧x≤m):Tot (qsd l) fun r=>0≤r∧r≤m:=by
 rw [qem]
 simp only [wj]
 have hd:=qOa (P:=fun x=>0≤x∧x≤m) (d:=0) h 0 (by omega)
 exact uc (by omega) (ua (by omega) (ua (by omega) (qmJ l hl h 1 _ (by omega) hd.1 hd.2)))
theorem qjG {m n:Int} (l:List Int) (hl:l.length≤1048576) (h:∀x∈l,n≤x∧x≤m):∀(i:Int) (v:Int),0≤i→n≤v→v≤m→Tot (qQb l v i) fun r=>n≤r∧r≤m:=by
 intro i
 refine qgd (P:=fun i=>∀v,0≤i→n≤v→v≤m→Tot (qQb l v i) fun r=>n≤r∧r≤m) l.length ?_ ?_ i
 ·intro i hi v h0 h1 h2
  rw [qef]
  exact uc (by simp only [wj];omega) (ub ⟨h1,h2⟩)
 ·intro i hi ih v h0 h1 h2
  rw [qef]
  simp only [wj]
  rw [w64 (x:=i+1) (by omega) (by omega)]
  have hd:=qOa (P:=fun x=>n≤x∧x≤m) (d:=0) h i.toNat (by omega)
  refine uf (by omega) (ua h0 (ua (by omega) (ih _ (by omega) ?_ ?_)))
  ·split <;> omega
  ·split <;> omega
theorem qWH {m n:Int} (l:List Int) (hl:l.length≤1048576) (h1:1≤l.length) (h:∀x∈l,n≤x∧x≤m):Tot (qtd l) fun r=>n≤r∧r≤m:=by
 rw [qfm]
 simp only [wj]
 have hd:=qOa (P:=fun x=>n≤x∧x≤m) (d:=0) h 0 (by omega)
 exact uc (by omega) (ua (by omega) (ua (by omega) (qjG l hl h 1 _ (by omega) hd.1 hd.2)))
theorem qhG {m n:Int} (l:List Int) (hl:l.length≤1048576) (h:∀x∈l,n≤x∧x≤m):∀(i:Int) (v:Int),0≤i→n≤v→v≤m→Tot (qOb l v i) fun r=>n≤r∧r≤m:=by
 intro i
 refine qgd (P:=fun i=>∀v,0≤i→n≤v→v≤m→Tot (qOb l v i) fun r=>n≤r∧r≤m) l.length ?_ ?_ i
 ·intro i hi v h0 h1 h2
  rw [qcf]
  exact uc (by simp only [wj];omega) (ub ⟨h1,h2⟩)
 ·intro i hi ih v h0 h1 h2
  rw [qcf]
  simp only [wj]
  rw [w64 (x:=i+1) (by omega) (by omega)]
  have hd:=qOa (P:=fun x=>n≤x∧x≤m) (d:=0) h i.toNat (by omega)
  refine uf (by omega) (ua h0 (ua (by omega) (ih _ (by omega) ?_ ?_)))
  ·split <;> omega
  ·split <;> omega
theorem qVH {m n:Int} (l:List Int) (hl:l.length≤1048576) (h1:1≤l.length) (h:∀x∈l,n≤x∧x≤m):Tot (qrd l) fun r=>n≤r∧r≤m:=by
 rw [qdm]
 simp only [wj]
 have hd:=qOa (P:=fun x=>n≤x∧x≤m) (d:=0) h 0 (by omega)
 exact uc (by omega) (ua (by omega) (ua (by omega) (qhG l hl h 1 _ (by omega) hd.1 hd.2)))
def WfC (c:qhb):Prop:=(c.1=0∧c.2.1=0∧c.2.2.1=0)∨(c.2.2.1=0∧1≤c.1∧c.1≤12∧0≤c.2.1∧c.2.1≤7)∨(c.2.2.1=1∧1≤c.2.1∧c.2.1≤12∧0≤c.1∧c.1≤7)
theorem qaN (x y d:Int):wk (wF (wF (wo 2 (0:Int)) 0 x) 1 y) 0 d=x:=rfl
theorem qZM (x y d:Int):wk (wF (wF (wo 2 (0:Int)) 0 x) 1 y) 1 d=y:=rfl
theorem qDq {a:Int} (h0:0≤a) (h1:a≤192):Tot (qgl a) fun r=>r.2=0∧WfC r.1:=by
 rw [qCw,qoz]
 refine ue rfl (uc (by rw [w64 (by omega) (by omega)];omega) (uk (fun h=>ub ⟨rfl,Or.inl ⟨rfl,rfl,rfl⟩⟩) (fun h=>?_)))
 simp (disch:=omega) only [wu8,w32,qbm,qfg]
 have hv:(a - 1)%256/8/12=0∨(a - 1)%256/8/12=1:=by omega
 have hx:0≤(a - 1)%256/8%12∧(a - 1)%256/8%12<12:=by omega
 have hy:0≤(a - 1)%256%8∧(a - 1)%256%8<8:=by omega
 generalize (a - 1)%256/8%12=x at*
 generalize (a - 1)%256%8=y at*
 generalize (a - 1)%256/8/12=v at*
 rcases hv with rfl|rfl
 ·refine ua (by decide) (ua (by decide) (ua (by decide) (ua (by decide) (ua (by decide) (ua (by decide) (ua (by decide) (ua (by decide) (ua (by decide) (ua (by decide) (ua (by decide) (ua (by decide) (ua (by decide) (ub ⟨rfl,Or.inr (Or.inl ?_)⟩)))))))))))))
  refine ⟨rfl,?_,?_,hy.1,?_⟩
  ·show 1≤x+1;omega
  ·show x+1≤12;omega
  ·show y≤7;omega
 ·refine ua (by decide) (ua (by decide) (ua (by decide) (ua (by decide) (ua (by decide) (ua (by decide) (ua (by decide) (ua (by decide) (ua (by decide) (ua (by decide) (ua (by decide) (ua (by decide) (ua (by decide) (ub ⟨rfl,Or.inr (Or.inr ?_)⟩)))))))))))))
  refine ⟨rfl,?_,?_,hy.1,?_⟩
  ·show 1≤x+1;omega
  ·show x+1≤12;omega
  ·show y≤7;omega
theorem qnz {a:Int} (h0:0≤a) (h1:a≤192):Tot (qAo a) fun r=>True:=by
 rw [qzw]
 exact Tot.b (qDq h0 h1) (fun r _=>ub trivial)
theorem qoA {c:qhb} (h:WfC c):qwp c=some 0:=by
 obtain ⟨x,y,v,u⟩:=c
 rw [qNy]
 by_cases hp:peq qkb (x,y,v,u) (0,(0,(0,())))=true
 ·rw [if_pos hp]
 ·rw [if_neg hp]
  simp only [WfC] at h
  have e0:¬(x=0∧y=0∧v=0):=by
   intro ⟨h1,h2,h3⟩
   subst h1 h2 h3
   exact hp rfl
  rcases h with h|h|h
  ·exact absurd h e0
  ·obtain ⟨rfl,h⟩:=h
   have e1:(1 - 0:Int)%256=1:=by decide
   have e2:wn 1=1:=rfl
   simp only [wu8,e1,e2,Int.toNat_zero,qaN,qZM]
   exact Tot.eq (uc (by omega) (ua (by decide) (ua (by decide) (ua (by decide) (ua (by decide) (uc (by omega) (uc (by omega) (uc (by omega) (uc (by omega) (ub rfl))))))))))
  ·obtain ⟨rfl,h⟩:=h
   have e1:(1 - 1:Int)%256=0:=by decide
   have e2:wn 1=1:=rfl
   simp only [wu8,e1,e2,Int.toNat_zero,qaN,qZM]
   exact Tot.eq (uc (by omega) (ua (by decide) (ua (by decide) (ua (by decide) (ua (by decide) (uc (by omega) (uc (by omega) (uc (by omega) (uc (by omega) (ub rfl))))))))))
theorem qaI (z:Int):(if (12:Int)<z then 12 else z)=min 12 z:=by split <;> omega
theorem qJC {c:qhb} (h:WfC c) {b:Int} (hb:b=0∨b=1):Tot (qPr c b) WfC:=by
 obtain ⟨x,y,v,u⟩:=c
 have hr:0≤x∧x≤12∧0≤y∧y≤12:=by
  simp only [WfC] at h;omega
 rw [qnA]
 rcases hb with rfl|rfl
 ·have e1:(1 - 0:Int)%256=1:=by decide
  have e2:wn 1=1:=rfl
  simp only [wu8,e1,e2,Int.toNat_zero,qaI]
  have a1:wk (wF (wF (wo 2 (0:Int)) 0 x) 1 y) 0 0=x:=rfl
  rw [a1,w32 (x:=x+1) (by omega) (by omega)]
  have a2:wk (wF (wF (wF (wo 2 (0:Int)) 0 x) 1 y) 0 (min 12 (x+1))) 1 0=y:=rfl
  rw [a2,qbm (by omega),w32 (x:=y/2) (by omega) (by omega),w32 (x:=y/2+1) (by omega) (by omega)]
  refine ua (by decide) (ua (by decide) (ua (by decide) (ua (by decide) (ua (by decide) (ua (by decide) (ug (fun k=>?_) (fun k=>?_)))))))
  ·refine ua (by decide) (ua (by decide) (ua (by decide) (ua (by decide) (ua (by decide) (ub (Or.inr (Or.inl ⟨rfl,?_,?_,?_,?_⟩)))))))
   ·show 1≤min 12 (x+1);omega
   ·show min 12 (x+1)≤12;omega
   ·show 0≤y/2+1;omega
   ·show y/2+1≤7;omega
  ·refine ua (by decide) (ua (by decide) (ua (by decide) (ua (by decide) (ub (Or.inr (Or.inl ⟨rfl,?_,?_,?_,?_⟩))))))
   ·show 1≤min 12 (x+1);omega
   ·show min 12 (x+1)≤12;omega
   ·show 0≤y;omega
   ·show y≤7;omega
 ·have e1:(1 - 1:Int)%256=0:=by decide
  have e2:wn 1=1:=rfl
  simp only [wu8,e1,e2,Int.toNat_zero,qaI]
  have a1:wk (wF (wF (wo 2 (0:Int)) 0 x) 1 y) 1 0=y:=rfl
  rw [a1,w32 (x:=y+1) (by omega) (by omega)]
  have a2:wk (wF (wF (wF (wo 2 (0:Int)) 0 x) 1 y) 1 (min 12 (y+1))) 0 0=x:=rfl
  rw [a2,qbm (by omega),w32 (x:=x/2) (by omega) (by omega),w32 (x:=x/2+1) (by omega) (by omega)]
  refine ua (by decide) (ua (by decide) (ua (by decide) (ua (by decide) (ua (by decide) (ua (by decide) (ug (fun k=>?_) (fun k=>?_)))))))
  ·refine ua (by decide) (ua (by decide) (ua (by decide) (ua (by decide) (ua (by decide) (ub (Or.inr (Or.inr ⟨rfl,?_,?_,?_,?_⟩)))))))
   ·show 1≤min 12 (y+1);omega
   ·show min 12 (y+1)≤12;omega
   ·show 0≤x/2+1;omega
   ·show x/2+1≤7;omega
  ·refine ua (by decide) (ua (by decide) (ua (by decide) (ua (by decide) (ub (Or.inr (Or.inr ⟨rfl,?_,?_,?_,?_⟩))))))
   ·show 1≤min 12 (y+1);omega
   ·show min 12 (y+1)≤12;omega
   ·show 0≤x;omega
   ·show x≤7;omega
theorem qWE {c:qhb} (h:WfC c) {b:Int} (hb:b=0∨b=1):Tot (qou c [b]) fun r=>r.2=0∧WfC r.1:=by
 rw [qKC]
 have e:(wi [b].length)=1:=rfl
 rw [e]
 refine ue (qoA h) (ud rfl (uc (by decide) (uf (by decide) (Tot.b (qrL (m:=1) [b] (by show 1≤_;decide) (by show 1≤1;decide) (fun x hx=>by rw [wV.1 hx];omega)) (fun r hr=>uc (by omega) ?_)))))
 rw [qlo]
 have eb:[b].getD (wn 0) 0=b:=rfl
 rw [e,eb,w64 (x:=0+1) (by decide) (by decide)]
 refine uf (by decide) (ua (by decide) (ua (by decide) (Tot.b (qJC h hb) (fun r hr=>?_))))
 rw [qlo]
 exact uc (by decide) (ub ⟨rfl,hr⟩)
theorem qyw {c:qhb} (h:WfC c):Tot (qfn c) fun r=>0≤r∧r≤192:=by
 obtain ⟨x,y,v,u⟩:=c
 rw [qhv]
 refine uj (fun _=>ub (by decide)) (fun hp=>?_)
 simp only [WfC] at h
 have e0:¬(x=0∧y=0∧v=0):=by
  intro ⟨h1,h2,h3⟩
  subst h1 h2 h3
  exact hp rfl
 rcases h with h|h|h
 ·exact absurd h e0
 ·obtain ⟨rfl,h⟩:=h
  have e1:(1 - 0:Int)%256=1:=by decide
  have e2:wn 1=1:=rfl
  simp (disch:=omega) only [wu8,e1,e2,Int.toNat_zero,qaN,qZM,w32]
  refine ua (by decide) (ua (by decide) (ua (by decide) (ua (by decide) (ub ?_))))
  omega
 ·obtain ⟨rfl,h⟩:=h
  have e1:(1 - 1:Int)%256=0:=by decide
  have e2:wn 1=1:=rfl
  simp (disch:=omega) only [wu8,e1,e2,Int.toNat_zero,qaN,qZM,w32]
  refine ua (by decide) (ua (by decide) (ua (by decide) (ua (by decide) (ub ?_))))
  omega
theorem qmB {a b:Int} (h0:0≤a) (h1:a≤192) (hb:b=0∨b=1):Tot (qhr a b) fun r=>r.2=0∧0≤r.1∧r.1≤192:=by
 rw [qpz,qlB]
 refine Tot.b (P:=fun r=>r.2=0∧0≤r.1∧r.1≤192) (Tot.b (qDq h0 h1) (fun r hr=>ud hr.1 (uc (by show ¬(1:Int)>20000;decide) ?_))) (fun r hr=>ub hr)
 have hc:qxc [b]=some false:=by
  have e:(wi [b].length)=1:=rfl
  have eb:[b].getD (wn 0) 0=b:=rfl
  rw [qsh,qAi,qCd,e,eb,w64 (x:=0+1) (by decide) (by decide),if_pos (by decide),qda (by decide),qda (by decide),qBw,wq,if_neg (by simp;omega),qCd,if_neg (by decide)]
  rfl
 refine ue hc (uo (Tot.b (qWE hr.2 hb) (fun s hs=>ud hs.1 (Tot.b (qyw hs.2) (fun t ht=>ub ⟨rfl,ht⟩)))))
def WfSlot (s:qye):Prop:=s.2.1.length=15∧∀x∈s.2.1,0≤x∧x≤192
def qSn (l:Int) (t:qta):Prop:=t.1=l∧(0≤l∧l≤7)∧(t.2.1.length:Int)=plT l∧∀s∈t.2.1,WfSlot s
theorem qnv (l:List qye) (hl:l.length≤1048576) (h:∀s∈l,WfSlot s):∀i:Int,0≤i→Tot (qpg l l.length i) fun r=>r=0:=by
 intro i
 refine qgd (P:=fun i=>0≤i→Tot (qpg l l.length i) fun r=>r=0) l.length ?_ ?_ i
 ·intro i hi h0
  rw [qBm]
  exact uc (by omega) (ub rfl)
 ·intro i hi ih h0
  rw [qBm]
  simp only [wj]
  rw [w64 (x:=i+1) (by omega) (by omega)]
  have hd:=qOa (P:=WfSlot) (d:=qqa qAc) h i.toNat (by omega)
  refine uf (by omega) (ua h0 (ua (by omega) (Tot.b (qrL (m:=192) _ ?_ ?_ ?_) (fun r hr=>uc (by omega) (ih (by omega))))))
  ·have:=hd.1;simp only [wP,wda];omega
  ·have:=hd.1;simp only [wP,wda];omega
  ·exact fun x hx=>hd.2 x (List.mem_of_mem_drop (List.mem_of_mem_take hx))
theorem qjn {l:Int} {t:qta} (h:qSn l t):qvk t=some 0:=by
 obtain ⟨h1,⟨h2,h3⟩,h4,h5⟩:=h
 have hp:=qmx h2 h3
 rw [qsz,h1,qEu h2 h3]
 simp only [wj]
 exact Tot.eq (uc (by omega) (uc (by omega) (ue rfl (ud h4 (qnv _ (by omega) h5 0 (by omega))))))
theorem qWn {s:qye} (h:WfSlot s):Tot (qUi s) fun _=>True:=by
 rw [qyt]
 have hd:=qOa (P:=fun x=>0≤x∧x≤192) (d:=0) h.2 0 (by rw [h.1];decide)
 exact ua (by decide) (ua (by decide) (Tot.b (qnz hd.1 hd.2) (fun r _=>ub trivial)))
theorem WfSlot.zero (c:Int):WfSlot (c,((wo 15 0),())):=⟨rfl,fun x hx=>by rw [List.eq_of_mem_replicate hx];omega⟩
theorem qmD {l:Int} {t:qta} (h:qSn l t) (a:Int):Tot (qzt t a) fun r=>qSn l r.1∧0≤r.2.1∧r.2.1<plT l∧r.2.2=0:=by
 have hh:=h
 obtain ⟨h1,⟨h2,h3⟩,h4,h5⟩:=h
 have hp:=qmx h2 h3
 rw [qpB]
 simp only [wj]
 refine ue (qjn hh) (ud rfl (Tot.b (qmm a (4+l.toNat) (by omega) h4) (fun r hr=>ud hr.1 (Tot.b (qUz a) (fun c _=>ue (qOg _ (by omega)) ?_)))))
 have hx:=qxR r.1 (4+l.toNat) (by omega) (by omega) hr.2.1 (by rw [h4] at hr;exact hr.2.2)
 have hx2:qAb .i64 r.1 1<plT l:=hx.2
 have hd1:=qOa (P:=WfSlot) (d:=qqa qAc) h5 r.1.toNat (by omega)
 have hd2:=qOa (P:=WfSlot) (d:=qqa qAc) h5 (qAb .i64 r.1 1).toNat (by omega)
 refine ua hr.2.1 (ua hr.2.2 (uk (fun _=>ub ⟨⟨h1,⟨h2,h3⟩,h4,h5⟩,hr.2.1,by rw [←h4];exact hr.2.2,rfl⟩) (fun _=>ua hx.1 (ua (by rw [h4];exact hx2) (uk (fun _=>ub ⟨⟨h1,⟨h2,h3⟩,h4,h5⟩,hx.1,hx2,rfl⟩) (fun _=>?_))))))
 refine ua hx.1 (ua (by omega) (Tot.b (qWn hd2) (fun _ _=>ua hr.2.1 (ua hr.2.2 (Tot.b (qWn hd1) (fun _ _=>ug (fun _=>?_) (fun _=>?_)))))))
 ·exact ua hx.1 (ua (by omega) (ub ⟨⟨h1,⟨h2,h3⟩,by simpa using h4,qCf h5 (WfSlot.zero _) _⟩,hx.1,hx2,rfl⟩))
 ·exact ua hr.2.1 (ua hr.2.2 (ub ⟨⟨h1,⟨h2,h3⟩,by simpa using h4,qCf h5 (WfSlot.zero _) _⟩,hr.2.1,by rw [←h4];exact hr.2.2,rfl⟩))
theorem qCA {l:Int} {t:qta} (h:qSn l t) {i n:Int} (h0:0≤i) (h1:i<plT l) (h2:1≤n) (h3:n≤15):qbw t i n=some 0:=by
 rw [qFF]
 simp only [wj]
 exact Tot.eq (ue (qjn h) (ud rfl (uc (by omega) (uc (by rw [h.2.2.1];omega) (uc (by omega) (uc (by omega) (ub rfl)))))))
theorem qkr {l:Int} {t:qta} (h:qSn l t) {i n:Int} (h0:0≤i) (h1:i<plT l) (h2:1≤n) (h3:n≤15):Tot (qhs t i n) fun r=>r.2=0∧0≤r.1∧r.1≤192:=by
 rw [qlD]
 simp only [wj]
 have h4:=h.2.2.1
 rw [w64 (x:=n - 1) (by omega) (by omega)]
 have hd:=qOa (P:=WfSlot) (d:=qqa qAc) h.2.2.2 i.toNat (by omega)
 have he:=qOa (P:=fun x=>0≤x∧x≤192) (d:=0) hd.2 (n - 1).toNat (by rw [hd.1];omega)
 exact ue (qCA h h0 h1 h2 h3) (ud rfl (ua h0 (ua (by omega) (ua (by omega) (ua (by omega) (ub ⟨rfl,he.1,he.2⟩))))))
theorem qGF {l:Int} {t:qta} (h:qSn l t) {i n v:Int} (h0:0≤i) (h1:i<plT l) (h2:1≤n) (h3:n≤15) (hv0:0≤v) (hv1:v≤192):Tot (qIw t i n v) fun r=>r.2=0∧qSn l r.1:=by
 rw [qjD]
 simp only [wj]
 have h4:=h.2.2.1
 have hp:=qmx h.2.1.1 h.2.1.2
 rw [w64 (x:=n - 1) (by omega) (by omega)]
 have hd:=qOa (P:=WfSlot) (d:=qqa qAc) h.2.2.2 (0+i.toNat) (by omega)
 refine ue (qCA h h0 h1 h2 h3) (ud rfl (uc (by omega) (ue (qOg _ (by omega)) (ua h0 (ua (by omega) (ua (by omega) (ua (by omega) (ub ⟨rfl,h.1,h.2.1,by simpa using h4,qCf h.2.2.2 ?_ _⟩))))))))
 exact ⟨by simpa using hd.1,qCf hd.2 ⟨hv0,hv1⟩ _⟩
theorem qIF {l:Int} {t:qta} (h:qSn l t) {i n b:Int} (h0:0≤i) (h1:i<plT l) (h2:1≤n) (h3:n≤15) (hb:b=0∨b=1):Tot (qKw t i n b) fun r=>r.2=0∧qSn l r.1:=by
 rw [qnD]
 exact Tot.b (qkr h h0 h1 h2 h3) (fun r hr=>ud hr.1 (Tot.b (qmB hr.2.1 hr.2.2 hb) (fun s hs=>ud hs.1 (Tot.b (qGF h h0 h1 h2 h3 hs.2.1 hs.2.2) (fun u hu=>ub hu)))))
def qyF (a:qra):Prop:=a.1=255∧(a.2.1.length=193∧∀x∈a.2.1,0≤x∧x≤65535)∧a.2.2.1.length=193∧∀x∈a.2.2.1,0≤x∧x≤255
theorem qVp {l:List Int} {m:Int} (hl:l.length=193) (h:∀x∈l,0≤x∧x≤m):qjk l m=some false:=by
 rw [qWv]
 simp only [wj]
 exact Tot.eq (ud (by omega) (Tot.b (qVH l (by omega) (by omega) h) (fun r hr=>uc (by omega) (Tot.b (qWH l (by omega) (by omega) h) (fun s hs=>ub (by simp;omega))))))
theorem qnt {a:qra} (h:qyF a):qRn a=some 0:=by
 rw [qyA]
 have e:G_targets.getD 1 0=65535:=rfl
 rw [e,h.1]
 exact Tot.eq (uc (by omega) (uc (by omega) (ua (by omega) (ua (by omega) (ue (qVp h.2.1.1 h.2.1.2) (uo (ue (qVp h.2.2.1 h.2.2.2) (uo (ub rfl)))))))))
theorem qfB {a:qra} (h:qyF a) {s:Int} (h1:s≤192):qow a s=some 0:=by
 rw [qWG]
 exact Tot.eq (ue (qnt h) (ud rfl (uc (by omega) (ub rfl))))
theorem qoF {a:qra} (h:qyF a) {s:Int} (h0:0≤s) (h1:s≤192):Tot (qXG a s) fun r=>r.2=0∧0≤r.1∧r.1≤65535:=by
 rw [qUJ]
 simp only [wj]
 have hd:=qOa (P:=fun x=>0≤x∧x≤65535) (d:=0) h.2.1.2 s.toNat (by rw [h.2.1.1];omega)
 exact ue (qfB h h1) (ud rfl (ua h0 (ua (by rw [h.2.1.1];omega) (ub ⟨rfl,hd⟩))))
theorem qdJ {n:Int} (h0:1≤n) (h1:n≤1024):Tot (qAB n) fun r=>r.2=0∧0≤r.1∧r.1≤65536:=by
 rw [qVF,qbm (by omega)]
 have h3:0≤65536/n:=Int.ediv_nonneg (by omega) (by omega)
 have h4:65536/n≤65536:=Int.ediv_le_self _ (by omega)
 rw [w32 (by omega) (by omega)]
 exact uc (by omega) (uc (by omega) (ua (by omega) (ub ⟨rfl,h3,h4⟩)))
theorem qDD {p t n:Int} (hp0:0≤p) (hp1:p≤65535) (ht:t=0∨t=65535) (h0:1≤n) (h1:n≤1024):Tot (qHt p t n) fun r=>r.2=0∧0≤r.1∧r.1≤65535:=by
 rw [qzB,qED]
 have e1:wd .i32 (t - p)=t - p:=w32 (by omega) (by omega)
 rw [e1]
 refine uc (by split <;> omega) (uc (by split <;> omega) (Tot.b (P:=fun r=>r.2=0∧-p≤r.1∧r.1≤65535 - p) ?_ (fun r hr=>ud hr.1 (ub ?_))))
 ·refine Tot.b (qdJ h0 h1) (fun q hq=>ud hq.1 (ua (by decide) (ub ?_)))
  rw [w64 (x:=t - p) (by omega) (by omega),w64 (x:=q.1) (by omega) (by omega)]
  have hm:-(p*65536)≤(t - p)*q.1∧(t - p)*q.1≤(65535 - p)*65536:=by
   rcases ht with rfl|rfl
   ·have a1:p*q.1≤p*65536:=Int.mul_le_mul_of_nonneg_left hq.2.2 hp0
    have a2:0≤p*q.1:=Int.mul_nonneg hp0 hq.2.1
    have a3:(0 - p)*q.1=-(p*q.1):=by rw [Int.zero_sub,Int.neg_mul]
    rw [a3];omega
   ·have a1:(65535 - p)*q.1≤(65535 - p)*65536:=Int.mul_le_mul_of_nonneg_left hq.2.2 (by omega)
    have a2:0≤(65535 - p)*q.1:=Int.mul_nonneg (by omega) hq.2.1
    omega
  generalize (t - p)*q.1=z at*
  rw [w64 (x:=z) (by omega) (by omega),qIg _ (by omega),w32 (by omega) (by omega)]
  refine ⟨rfl,?_,?_⟩
  ·show -p≤z/65536;omega
  ·show z/65536≤65535 - p;omega
 ·rw [w32 (by omega) (by omega)]
  exact ⟨rfl,by simp only;omega,by simp only;omega⟩
theorem qnF {a:qra} (h:qyF a):qzu a=some a:=by
 rw [qYC,qcb _ (by rw [h.2.1.1];decide),wq,qcb _ (by rw [h.2.2.1];decide),wq]
theorem qvA {p q:List Int} {u:Unit} {s b:Int} (h0:0≤s) (h1:s≤192) (hb:b=0∨b=1) (hp:p.length=193∧∀x∈p,0≤x∧x≤65535) (hq:q.length=193∧∀x∈q,0≤x∧x≤255):
  Tot (qWp 255 u s b p q) fun r=>r.1=0∧(r.2.1.length=193∧∀x∈r.2.1,0≤x∧x≤65535)∧r.2.2.length=193∧∀x∈r.2.2,0≤x∧x≤255:=by
 rw [qez]
 simp only [wj]
 have hd:=qOa (P:=fun x=>0≤x∧x≤65535) (d:=0) hp.2 (0+s.toNat) (by rw [hp.1];omega)
 have he:=qOa (P:=fun x=>0≤x∧x≤255) (d:=0) hq.2 (0+s.toNat) (by rw [hq.1];omega)
 generalize p.getD (0+s.toNat) 0=x at*
 generalize q.getD (0+s.toNat) 0=y at*
 rw [w32 (x:=y+1) (by omega) (by omega)]
 have hn:1≤(if 255<y+1 then 255 else y+1)∧(if 255<y+1 then 255 else y+1)≤255:=by split <;> omega
 generalize (if 255<y+1 then 255 else y+1)=n at*
 rw [w32 (x:=n+1) (by omega) (by omega)]
 have ht:G_targets.getD b.toNat 0=0∨G_targets.getD b.toNat 0=65535:=by
  rcases hb with rfl|rfl
  ·exact Or.inl rfl
  ·exact Or.inr rfl
 refine ua h0 (ua (by omega) (ua h0 (ua (by omega) (ua (by omega) (ua (by omega) (Tot.b (qDD hd.1 hd.2 ht (by omega) (by omega)) (fun r hr=>ua h0 (ua (by omega) (ua h0 (ua (by omega) (ub ?_)))))))))))
 exact ⟨hr.1,⟨by simpa using hp.1,qCf hp.2 hr.2 _⟩,by simpa using hq.1,qCf hq.2 ⟨by omega,by omega⟩ _⟩
theorem qxA {a:qra} (h:qyF a) {s b:Int} (h0:0≤s) (h1:s≤192) (hb:b=0∨b=1):Tot (qXp a s b) fun r=>r.2=0∧qyF r.1:=by
 rw [qfz]
 refine ue (qfB h h1) (ud rfl (uc (by omega) (ue (qnF h) ?_)))
 rw [h.1]
 exact Tot.b (qvA h0 h1 hb h.2.1 h.2.2) (fun r hr=>ud hr.1 (ub ⟨rfl,rfl,hr.2.1,hr.2.2⟩))
def qZp (l:Int) (f:qIa):Prop:=f.1=l∧(0≤l∧l≤7)∧(f.2.1.length:Int)=plR l∧∀x∈f.2.1,-1≤x∧x≤1073741824
theorem qMC (l:List Int) (hl:l.length≤1048576) (h:∀x∈l,-1≤x∧x≤1073741824):qFc l=some false:=by
 have key:∀i:Int,0≤i→Tot (qob l l.length i) fun r=>r=-1:=by
  intro i
  refine qgd (P:=fun i=>0≤i→Tot (qob l l.length i) fun r=>r=-1) l.length ?_ ?_ i
  ·intro i hi h0
   rw [qLd]
   exact uc (by omega) (ub rfl)
  ·intro i hi ih h0
   rw [qLd]
   simp only [wj]
   rw [w64 (x:=i+1) (by omega) (by omega)]
   have hd:=qOa (P:=fun x=>-1≤x∧x≤1073741824) (d:=0) h i.toNat (by omega)
   refine uf (by omega) (ua h0 (ua (by omega) (ue (v:=false) ?_ (uo (ih (by omega))))))
   rw [qfu]
   exact Tot.eq (uc (by omega) (ub (decide_eq_false (by omega))))
 rw [qCh,qjj]
 exact Tot.eq (Tot.b (key 0 (by omega)) (fun r hr=>ub (by rw [hr];rfl)))
theorem qnm {l:Int} {f:qIa} (h:qZp l f):qwj f=some 0:=by
 obtain ⟨h1,⟨h2,h3⟩,h4,h5⟩:=h
 have hp:=qPu h2 h3
 rw [quy,h1,qpp h2 h3]
 simp only [wj]
 exact Tot.eq (uc (by omega) (uc (by omega) (ue rfl (ud h4 (ue (qMC _ (by omega) h5) (uo (ub rfl)))))))
theorem qXq {l:Int} {f:qIa} (h:qZp l f) (a:Int):Tot (qJl f a) fun r=>r.2=0∧0≤r.1∧r.1<f.2.1.length:=by
 rw [qty]
 exact ue (qnm h) (ud rfl (Tot.b (qmm a (6+l.toNat) (by have:=h.2.1;omega) h.2.2.1) (fun r hr=>ub hr)))
theorem qak {l:Int} {f:qIa} (h:qZp l f) (a:Int):Tot (qHi f a) fun r=>r.2=0∧-1≤r.1∧r.1≤1073741824:=by
 rw [qXz]
 simp only [wj]
 refine Tot.b (qXq h a) (fun r hr=>ud hr.1 (ua hr.2.1 (ua hr.2.2 (ub ⟨rfl,?_⟩))))
 exact qOa (P:=fun x=>-1≤x∧x≤1073741824) h.2.2.2 _ (by omega)
theorem qBE {l:Int} {f:qIa} (h:qZp l f) (a:Int) {v:Int} (h0:0≤v) (h1:v≤1073741824):Tot (qGi f a v) fun r=>r.2=0∧qZp l r.1:=by
 rw [qfC]
 simp only [wj]
 have hp:=qPu h.2.1.1 h.2.1.2
 refine Tot.b (qXq h a) (fun r hr=>ud hr.1 (uc (by omega) (uc (by omega) (ue (qvi _ (by have:=h.2.2.1;omega)) (ua hr.2.1 (ua hr.2.2 (ub ⟨rfl,h.1,h.2.1,by simpa using h.2.2.1,qCf h.2.2.2 ⟨by omega,h1⟩ _⟩)))))))
theorem qKl {l:Int} {r:qdb} (h:qxe l r) (v1 v2 v10:Int) (M:Int) (hM:M=if v2<v10 then v2 else v10) (hM1:M≤1073741824) (P:Int→Prop)
  (hP:∀v,0≤v→v≤max M 0→P v):∀(n:Nat) (k:Int) (v11:Int),(4 - k).toNat=n→0≤k→k≤4→0≤v11→v11≤max M 0→(∀v,v11+(4 - k)=v→v≤max M 0→Tot (qKd v1 v2 r.2.1.length v10 v r) fun x=>P x.1)→
  Tot (qHg v1 v2 r.2.1.length v10 v11 k r) fun x=>P x.1
 |0,k,v11,hn,h0,h4,hv0,hv1,ih=>by
  rw [qNk]
  exact uc (by omega) (ih v11 (by omega) hv1)
 |n+1,k,v11,hn,h0,h4,hv0,hv1,ih=>by
  rw [qNk,←hM]
  simp only [wj]
  have hp:=qPu h.2.1.1 h.2.1.2
  have hl:=h.2.2.1
  rw [w64 (x:=v11+1) (by omega) (by omega),w64 (x:=k+1) (by omega) (by omega),w64 (x:=(r.2.1.length:Int) - 1) (by omega) (by omega)]
  have b1:=qaO (wd .i64 (v1 - (v11+1))) ((r.2.1.length:Int) - 1) (by omega) (by omega)
  have b2:=qaO (wd .i64 (r.2.2.1 - (v11+1))) ((r.2.1.length:Int) - 1) (by omega) (by omega)
  refine uf (by omega) (ug (fun _=>ub (hP _ hv0 hv1)) (fun hle=>ua b1.1 (ua (by omega) (ua b2.1 (ua (by omega) (uh (fun _=>ub (hP _ hv0 hv1)) (fun _=>?_)))))))
  exact qKl h v1 v2 v10 M hM hM1 P hP n (k+1) (v11+1) (by omega) (by omega) (by omega) (by omega) (by omega) (fun v e hv=>ih v (by omega) hv)
theorem qRs {l:Int} {r:qdb} (h:qxe l r) (v1 v2 v10:Int) (M:Int) (hM:M=if v2<v10 then v2 else v10) (hM1:M≤1073741824):
  ∀(v11:Int),0≤v11→v11≤max M 0→Tot (qKd v1 v2 r.2.1.length v10 v11 r) fun x=>0≤x.1∧x.1≤max M 0:=by
 have key:∀(m:Nat) (v11:Int),(M - v11).toNat≤m→0≤v11→v11≤max M 0→Tot (qKd v1 v2 r.2.1.length v10 v11 r) fun x=>0≤x.1∧x.1≤max M 0:=by
  intro m
  induction m with
  |zero=>
   intro v11 hm h0 h1
   rw [qOk,←hM]
   exact uc (by omega) (ub ⟨h0,h1⟩)
  |succ m ih=>
   intro v11 hm h0 h1
   rw [qOk,←hM]
   refine ug (fun hlt=>?_) (fun _=>ub ⟨h0,h1⟩)
   exact qKl h v1 v2 v10 M hM hM1 (fun x=>0≤x∧x≤max M 0) (fun v a b=>⟨a,b⟩) 4 0 v11 rfl (by omega) (by omega) h0 h1 (fun v e hv=>ih v (by omega) (by omega) hv)
 intro v11
 exact key _ v11 (wt _)
theorem qPk {l:Int} {r:qdb} (h:qxe l r) (a:Int):Tot (qWf r a 40) fun x=>0≤x.1∧x.1≤40:=by
 rw [qKv]
 simp only [wj]
 refine ue (qMd h) (ud rfl (ug (fun _=>ub (by decide)) (fun _=>ug (fun _=>ub (by decide)) (fun _=>ug (fun _=>ub (by decide)) (fun _=>?_)))))
 refine Tot.mono (qRs h a 40 _ _ rfl (by split <;> omega) 0 (by omega) (by omega)) (fun x hx=>⟨hx.1,?_⟩)
 refine Int.le_trans hx.2 ?_
 split <;> omega
theorem quQ:∀i:Fin 32,1≤G_row.getD i.val 0∧G_row.getD i.val 0≤G_row.getD (i.val+1) 0∧G_row.getD (i.val+1) 0≤4094:=by decide+kernel
theorem qnB (a:Int):Tot (qxh a) fun r=>0≤r∧r≤4095:=by
 rw [qiv]
 refine ug (fun _=>ub (by decide)) (fun h1=>ug (fun _=>ub (by decide)) (fun h2=>?_))
 rw [qIg a (by decide)]
 have hi:0≤a/128+16∧a/128+16≤31:=by omega
 generalize a/128+16=i at*
 rw [w32 (x:=i) (by omega) (by omega),w32 (x:=i+1) (by omega) (by omega)]
 have hr:=quQ ⟨i.toNat,by omega⟩
 simp only at hr
 have e:(i+1).toNat=i.toNat+1:=by omega
 rw [e]
 generalize G_row.getD i.toNat 0=L at*
 generalize G_row.getD (i.toNat+1) 0=H at*
 have hw:=qUR a 127 (by decide) (by decide)
 generalize qeb .i32 a 127=w at*
 rw [w32 (x:=L*128) (by omega) (by omega),w32 (x:=H - L) (by omega) (by omega)]
 have m1:(H - L)*w≤(H - L)*127:=Int.mul_le_mul_of_nonneg_left hw.2 (by omega)
 have m2:0≤(H - L)*w:=Int.mul_nonneg (by omega) hw.1
 generalize (H - L)*w=z at*
 rw [w32 (x:=z) (by omega) (by omega),w32 (x:=L*128+z) (by omega) (by omega),w32 (by omega) (by omega),qIg _ (by decide)]
 refine ua (by decide) (ua (by omega) (ua (by omega) (ua (by omega) (ua (by omega) (ua (by omega) (ua (by omega) (ua (by decide) (ub ?_))))))))
 omega
theorem qmv (b:Int):∀(m:Nat) (x y:Int),(y - x).toNat≤m→0≤x→x≤y→y≤4094→Tot (qog x y b) fun r=>0≤r.1∧r.1≤4094:=by
 intro m
 induction m with
 |zero=>
  intro x y hm h0 h1 h2
  rw [qAm]
  exact uc (by omega) (ub ⟨h0,by simp only;omega⟩)
 |succ m ih=>
  intro x y hm h0 h1 h2
  rw [qAm]
  refine ug (fun hlt=>?_) (fun _=>ub ⟨h0,by simp only;omega⟩)
  rw [w64 (x:=x+y) (by omega) (by omega),qyR,qIg _ (by decide)]
  have e:(x+y)%18446744073709551616=x+y:=by omega
  rw [e,w64 (x:=(x+y)/2) (by omega) (by omega),w64 (x:=(x+y)/2+1) (by omega) (by omega),qir]
  refine ua (by decide) (Tot.b (P:=fun r=>r.2=b) (Tot.b (qnB _) (fun r _=>ub rfl)) (fun r hr=>?_))
  rw [hr]
  exact um (fun _=>ih _ _ (by omega) (by omega) (by omega) (by omega)) (fun _=>ih _ _ (by omega) (by omega) (by omega) (by omega))
theorem qgD (a:Int):Tot (qcm a) fun r=>-2047≤r∧r≤2047:=by
 rw [qwt,qrz]
 refine Tot.b (qmv a 4094 0 4094 (by decide) (by decide) (by decide) (by decide)) (fun r hr=>ub ?_)
 rw [w32 (x:=r.1) (by omega) (by omega),w32 (by omega) (by omega)]
 omega
def qZr (m:qAa):Prop:=m.1.length=256∧∀r∈m.1,r.length=8
theorem qMG (l:List (List Int)) (hl:l.length≤1048576) (h:∀r∈l,r.length=8):qyc l=some false:=by
 have key:∀i:Int,0≤i→Tot (qjb l l.length i) fun r=>r=-1:=by
  intro i
  refine qgd (P:=fun i=>0≤i→Tot (qjb l l.length i) fun r=>r=-1) l.length ?_ ?_ i
  ·intro i hi h0
   rw [qDd]
   exact uc (by omega) (ub rfl)
  ·intro i hi ih h0
   rw [qDd]
   simp only [wj]
   rw [w64 (x:=i+1) (by omega) (by omega)]
   have hd:=qOa (P:=fun r:List Int=>r.length=8) (d:=[]) h i.toNat (by omega)
   refine uf (by omega) (ua h0 (ua (by omega) (ue (v:=false) ?_ (uo (ih (by omega))))))
   rw [qyv,hd]
   rfl
 rw [qth,qBi]
 exact Tot.eq (Tot.b (key 0 (by omega)) (fun r hr=>ub (by rw [hr];rfl)))
theorem qEs {m:qAa} (h:qZr m):qxn m=some 0:=by
 rw [qIz]
 simp only [wj]
 have:=h.1
 exact Tot.eq (uc (by omega) (uc (by omega) (ue (qMG _ (by omega) h.2) (uo (ub rfl)))))
theorem qNq (a:Int):Tot (qiq a) fun r=>-2047≤r∧r≤2047∧(-2047≤a→a≤2047→r=a):=by
 rw [qKB]
 refine ub ?_
 split <;> split at*<;> omega
theorem qNG (l:List Int) (hl:l.length≤1048576) (h:∀x∈l,-2047≤x∧x≤2047):qjc l=some false:=by
 have key:∀i:Int,0≤i→Tot (qfb l l.length i) fun r=>r=-1:=by
  intro i
  refine qgd (P:=fun i=>0≤i→Tot (qfb l l.length i) fun r=>r=-1) l.length ?_ ?_ i
  ·intro i hi h0
   rw [qYc]
   exact uc (by omega) (ub rfl)
  ·intro i hi ih h0
   rw [qYc]
   simp only [wj]
   rw [w64 (x:=i+1) (by omega) (by omega)]
   have hd:=qOa (P:=fun x=>-2047≤x∧x≤2047) (d:=0) h i.toNat (by omega)
   refine uf (by omega) (ua h0 (ua (by omega) (ue (v:=false) ?_ (uo (ih (by omega))))))
   rw [qvv]
   exact Tot.eq (Tot.b (qNq _) (fun r hr=>ub (by rw [hr.2.2 hd.1 hd.2];simp)))
 rw [qjg,qrh]
 exact Tot.eq (Tot.b (key 0 (by omega)) (fun r hr=>ub (by rw [hr];rfl)))
theorem qCs {m:qAa} (h:qZr m) {s:Int} (h0:0≤s) (h1:s≤255) {l:List Int} (hl:l.length=8) (hb:∀x∈l,-2047≤x∧x≤2047):qwn m s l=some 0:=by
 rw [qFz]
 simp only [wj]
 have:=h.1
 exact Tot.eq (ue (qEs h) (ud rfl (uc (by omega) (uc (by omega) (ud (by omega) (ue (qNG _ (by omega) hb) (uo (ub rfl))))))))
theorem qqy (a:Int):Tot (qQs a) fun _=>True:=by
 rw [qxE];exact ub trivial
theorem qsG (a b:List Int) (hl:a.length=b.length) (h16:a.length≤16):Tot (qry a b) fun _=>True:=by
 have key:∀i:Int,0≤i→∀v6 v7,0≤v7→Tot (qvj b v6 v7 a a.length i) fun r=>True:=by
  intro i
  refine qgd (P:=fun i=>0≤i→∀v6 v7,0≤v7→Tot (qvj b v6 v7 a a.length i) fun r=>True) a.length ?_ ?_ i
  ·intro i hi h0 v6 v7 h7
   rw [qop]
   refine uc (by omega) ?_
   repeat (first|exact ub trivial|exact Tot.b (qqy _) (fun _ _=>ub trivial)|refine uj (fun _=>?_) (fun _=>?_))
  ·intro i hi ih h0 v6 v7 h7
   rw [qop]
   simp only [wj]
   rw [w64 (x:=i+1) (by omega) (by omega)]
   refine uf (by omega) (ua h0 (ua (by omega) (ua h0 (ua (by omega) (Tot.b (P:=fun r=>0≤r.1) ?_ (fun r hr=>ua (by decide) (ih (by omega) _ _ hr)))))))
   unfold qqq
   have hw:=qqQ (wd .i64 ((wd .i64 (wk a (wn i) 0))*(wd .i64 (wk b (wn i) 0))))
   rw [if_pos ⟨h7,hw.1,by omega,by omega⟩]
   exact ub (by simp only;omega)
 rw [qyE]
 simp only [wj]
 exact uc (by split <;> omega) (ud (by omega) (key 0 (by omega) 0 0 (by omega)))
theorem qGx {m:qAa} (h:qZr m) {s:Int} (h0:0≤s) (h1:s≤255) {l:List Int} (hl:l.length=8) (hb:∀x∈l,-2047≤x∧x≤2047):
  Tot (qHx m s l) fun r=>-2047≤r.1∧r.1≤2047∧0≤r.2.1∧r.2.1≤4095:=by
 rw [qbE]
 simp only [wj]
 have hl':=h.1
 have hd:=qOa (P:=fun r:List Int=>r.length=8) (d:=[]) h.2 s.toNat (by omega)
 exact ue (qCs h h0 h1 hl hb) (ud rfl (ua h0 (ua (by omega) (Tot.b (qsG _ _ (by omega) (by omega)) (fun r _=>ua (by decide) (Tot.b (qNq _) (fun q hq=>Tot.b (qnB _) (fun t ht=>ub ⟨hq.1,hq.2.1,ht⟩))))))))
theorem qeC (a:Int):Tot (qHr a 14) fun _=>True:=by
 rw [qVz,w64 (x:=14 - 1) (by decide) (by decide)]
 exact uc (by decide) (uc (by decide) (uy (by decide) (ua (by decide) (ua (by decide) (ub trivial)))))
theorem qtG (a b:Int):Tot (qsy a b) fun _=>True:=by
 rw [qzE]
 exact Tot.b (qqy _) (fun _ _=>ub trivial)
theorem qwv {s:Int} (h0:0≤s) (h1:s≤255) {l:List Int} (hl:l.length=8) (v16:Int) (u u':Unit) (h10:List (List Int)):∀i:Int,0≤i→∀h11:List (List Int),h11.length=256→(∀r∈h11,r.length=8)→
  Tot (qsg s v16 l 8 i u u' h10 h11) fun r=>r.2=0∧qZr r.1:=by
 intro i
 refine qgd (P:=fun i=>0≤i→∀h11:List (List Int),h11.length=256→(∀r∈h11,r.length=8)→Tot (qsg s v16 l 8 i u u' h10 h11) fun r=>r.2=0∧qZr r.1) 8 ?_ ?_ i
 ·intro i hi h0' h11 hh hr
  rw [qJm]
  exact uc (by omega) (ub ⟨rfl,hh,hr⟩)
 ·intro i hi ih h0' h11 hh hr
  rw [qJm]
  simp only [wj]
  have hd:=qOa (P:=fun r:List Int=>r.length=8) (d:=[]) hr (0+s.toNat) (by omega)
  rw [w64 (x:=i+1) (by omega) (by omega),hd]
  refine uf (by omega) (ua h0' (ua (by omega) (Tot.b (qeC _) (fun r _=>ua h0 (ua (by omega) (ua (by decide) (ua h0 (ua (by omega) (ua (by decide) (ua h0' (ua (by omega) (Tot.b (qtG _ _) (fun q _=>ua h0' (ua (by omega) (ih (by omega) _ (by simpa using hh) (qCf hr ?_ _))))))))))))))))
  simpa using hd
theorem qxv {s:Int} (h0:0≤s) (h1:s≤255) {l:List Int} (hl:l.length=8) (v3:Int) (v4:Bool) (m:List (List Int)) (hm:m.length=256) (hr:∀r∈m,r.length=8) (u u':Unit) (h10:List (List Int)):∀i:Int,0≤i→i≤256→∀h11:List (List Int),h11.length=i.toNat→(∀r∈h11,r.length=8)→
  Tot (qtg s l v3 v4 m 256 i u u' h10 h11) fun r=>r.2=0∧qZr r.1:=by
 intro i
 refine qgd (P:=fun i=>0≤i→i≤256→∀h11:List (List Int),h11.length=i.toNat→(∀r∈h11,r.length=8)→Tot (qtg s l v3 v4 m 256 i u u' h10 h11) fun r=>r.2=0∧qZr r.1) 256 ?_ ?_ i
 ·intro i hi h0' hi' h11 hh hr'
  rw [qKm]
  simp only [wj]
  rw [hl]
  refine uc (by omega) (Tot.b (P:=fun _=>True) ?_ (fun q _=>qwv h0 h1 hl _ u u' h10 0 (by omega) h11 (by omega) hr'))
  rw [qEz]
  exact uj (fun _=>ub trivial) (fun _=>ub trivial)
 ·intro i hi ih h0' hi' h11 hh hr'
  rw [qKm]
  simp only [wj]
  have hd:=qOa (P:=fun r:List Int=>r.length=8) (d:=[]) hr i.toNat (by omega)
  rw [w64 (x:=i+1) (by omega) (by omega)]
  refine uf (by omega) (ua h0' (ua (by omega) (ue (qcb _ (by omega)) (ua (by rw [wm,wC];omega) (ih (by omega) (by omega) _ (by rw [wm,wC];omega) (qLj hr' hd))))))
theorem qLB {m:qAa} (h:qZr m) {s:Int} (h0:0≤s) (h1:s≤255) {l:List Int} (hl:l.length=8) (hb:∀x∈l,-2047≤x∧x≤2047) {p:Int} (hp0:0≤p) (hp1:p≤4095) (b:Bool):
  Tot (qyr m s l p b) fun r=>r.2=0∧qZr r.1:=by
 rw [qHz]
 simp only [wj]
 rw [h.1]
 exact ue (qCs h h0 h1 hl hb) (ud rfl (uc (by omega) (uc (by omega) (qxv h0 h1 hl p b m.1 h.1 h.2 () () [] 0 (by omega) (by omega) [] rfl (fun r hr=>by cases hr)))))
def qYv (r:List Int):Prop:=r.length=33∧∀x∈r,0≤x∧x≤65535
def qpt (m:qAa):Prop:=m.1.length=256∧∀r∈m.1,qYv r
theorem qFt (l:List (List Int)) (hl:l.length≤1048576) (h:∀r∈l,qYv r):∀i:Int,0≤i→Tot (qEf l l.length i) fun r=>r=0:=by
 intro i
 refine qgd (P:=fun i=>0≤i→Tot (qEf l l.length i) fun r=>r=0) l.length ?_ ?_ i
 ·intro i hi h0
  rw [qrl]
  exact uc (by omega) (ub rfl)
 ·intro i hi ih h0
  rw [qrl]
  simp only [wj]
  rw [w64 (x:=i+1) (by omega) (by omega)]
  have hd:=qOa (P:=qYv) (d:=[]) h i.toNat (by omega)
  have hd1:=hd.1
  exact uf (by omega) (ua h0 (ua (by omega) (ud (by omega) (Tot.b (qVH _ (by omega) (by omega) hd.2) (fun r hr=>uc (by omega) (Tot.b (qWH _ (by omega) (by omega) hd.2) (fun s hs=>uc (by omega) (ih (by omega)))))))))
theorem qhm {m:qAa} (h:qpt m):qsl m=some 0:=by
 rw [qdx]
 simp only [wj]
 have:=h.1
 exact Tot.eq (uc (by omega) (uc (by omega) (qFt _ (by omega) h.2 0 (by omega))))
theorem qHq {m:qAa} (h:qpt m) {s:Int} (h0:0≤s) (h1:s≤255):qol m s=some 0:=by
 rw [qZw]
 simp only [wj]
 have:=h.1
 exact Tot.eq (ue (qhm h) (ud rfl (uc (by omega) (uc (by omega) (ub rfl)))))
theorem qVj {m:qAa} (h:qpt m) {s:Int} (h0:0≤s) (h1:s≤255) {a:Int} (ha0:-2047≤a) (ha1:a≤2047):Tot (qqn m s a) fun r=>r.2.2=0∧0≤r.2.1∧r.2.1≤32:=by
 rw [qwz]
 simp only [wj]
 have hl:=h.1
 have hd:=qOa (P:=qYv) (d:=[]) h.2 s.toNat (by omega)
 rw [hd.1]
 simp (disch:=omega) only [w32 (x:=a+2048),w64 (x:=a+2048),qbm,qfg,w64 (x:=(a+2048)/128),w64 (x:=(a+2048)/128+1),w32 (x:=(a+2048)%128/64),w64 (x:=(a+2048)%128/64),w64 (x:=(a+2048)/128+(a+2048)%128/64)]
 refine ue (qHq h h0 h1) (ud rfl (uc (by omega) (uc (by omega) (ua (by decide) (ua (by decide) (ua h0 (ua (by omega) (ua (by omega) (ua (by omega) (ua (by omega) (ua (by omega) (ua (by decide) (ua (by decide) (ub ⟨rfl,?_,?_⟩))))))))))))))
 ·simp only;omega
 ·simp only;omega
theorem qEt {s n:Int} (h0:0≤s) (h1:s≤255) (hn0:0≤n) (hn1:n≤32) (b:Bool) (m:List (List Int)) (hm:m.length=256) (hr:∀r∈m,qYv r) (u u':Unit) (h10:List (List Int)):∀i:Int,0≤i→i≤256→∀h11:List (List Int),h11.length=i.toNat→(∀r∈h11,qYv r)→
  Tot (qDf s n b m 256 i u u' h10 h11) fun r=>r.2=0∧qpt r.1:=by
 intro i
 refine qgd (P:=fun i=>0≤i→i≤256→∀h11:List (List Int),h11.length=i.toNat→(∀r∈h11,qYv r)→Tot (qDf s n b m 256 i u u' h10 h11) fun r=>r.2=0∧qpt r.1) 256 ?_ ?_ i
 ·intro i hi h0' hi' h11 hh hr'
  rw [qpl]
  simp only [wj]
  have hd:=qOa (P:=qYv) (d:=[]) hr' (0+s.toNat) (by omega)
  have hv:=qOa (P:=fun x=>0≤x∧x≤65535) (d:=0) hd.2 (0+n.toNat) (by rw [hd.1];omega)
  have hd1:=hd.1
  rw [hd1]
  generalize hz:(h11.getD (0+s.toNat) []).getD (0+n.toNat) 0=z at*
  have q1:(65535 - z).tdiv 64=(65535 - z)/64:=qbm (by omega)
  have q2:wFa (0 - z) 64=-(z/64):=by rw [Int.zero_sub,Int.neg_tdiv,qbm hv.1]
  rw [w32 (x:=65535 - z) (by omega) (by omega),w32 (x:=0 - z) (by omega) (by omega),q1,q2,w32 (x:=(65535 - z)/64) (by omega) (by omega),w32 (x:=-(z/64)) (by omega) (by omega),w32 (x:=z+(65535 - z)/64) (by omega) (by omega),w32 (x:=z+-(z/64)) (by omega) (by omega)]
  refine uc (by omega) (uj (fun _=>?_) (fun _=>?_))
  ·exact ua h0 (ua (by omega) (ua (by decide) (ua hn0 (ua (by omega) (ua (by decide) (ub ⟨rfl,by simp;omega,qCf hr' ⟨by simpa using hd.1,qCf hd.2 (by omega) _⟩ _⟩))))))
  ·exact ua h0 (ua (by omega) (ua (by decide) (ua hn0 (ua (by omega) (ua (by decide) (ub ⟨rfl,by simp;omega,qCf hr' ⟨by simpa using hd.1,qCf hd.2 (by omega) _⟩ _⟩))))))
 ·intro i hi ih h0' hi' h11 hh hr'
  rw [qpl]
  simp only [wj]
  have hd:=qOa (P:=qYv) (d:=[]) hr i.toNat (by omega)
  have hd1:=hd.1
  rw [w64 (x:=i+1) (by omega) (by omega)]
  refine uf (by omega) (ua h0' (ua (by omega) (ue (qcb _ (by omega)) (ua (by rw [wm,wC];omega) (ih (by omega) (by omega) _ (by rw [wm,wC];omega) (qLj hr' hd))))))
theorem qIq {m:qAa} (h:qpt m) {s n:Int} (h0:0≤s) (h1:s≤255) (hn0:0≤n) (hn1:n≤32) (b:Bool):Tot (qql m s n b) fun r=>r.2=0∧qpt r.1:=by
 rw [qcx]
 simp only [wj]
 rw [h.1]
 exact ue (qHq h h0 h1) (ud rfl (uc (by omega) (uc (by omega) (qEt h0 h1 hn0 hn1 b m.1 h.1 h.2 () () [] 0 (by omega) (by omega) [] rfl (fun r hr=>by cases hr)))))
def qZC (f:qUa):Prop:=qpt f.1∧qpt f.2.1
theorem qbk {f:qUa} (h:qZC f):qQk f=some 0:=by
 have l1:=h.1.1
 have l2:=h.2.1
 rw [qZz,qIi]
 simp only [wj]
 have e1:([f.1,f.2.1]:List qAa).getD (0+wn 0) (qqa qCa)=f.1:=rfl
 rw [e1,w64 (x:=0+1) (by decide) (by decide)]
 refine Tot.eq (uf (by decide) (ua (by decide) (ua (by simp) (ue (qhm h.1) (ud rfl (ud (by omega) ?_))))))
 rw [qIi]
 simp only [wj]
 have e2:([f.1,f.2.1]:List qAa).getD (0+wn (0+1)) (qqa qCa)=f.2.1:=rfl
 rw [e2,w64 (x:=0+1+1) (by decide) (by decide)]
 refine (uf (by decide) (ua (by decide) (ua (by simp) (ue (qhm h.2) (ud rfl (ud (by omega) ?_))))))
 rw [qIi]
 exact uc (by decide) (ub rfl)
theorem qYu (a b:Int) {w:Int} (h0:1≤w) (h1:w≤255):Tot (qhu a b w) fun r=>∃x,r.1=[w,x]∧0≤x∧x≤255:=by
 rw [qjC]
 exact uc (by omega) (uc (by omega) (Tot.b (qGn _ _ (by show 3≤_;decide)) (fun r _=>Tot.b (qmm _ 8 (by decide) (by decide)) (fun q hq=>ub ⟨q.1,rfl,hq.2.1,by omega⟩))))
theorem qXu (a:Int):Tot (qgu a) fun r=>0≤a→a≤4095→r=true:=by
 rw [qiC]
 exact ug (fun h=>ub (fun _ h1=>decide_eq_true h1)) (fun h=>ub (fun h0 _=>absurd h0 h))
def qvR (c:qrc):Prop:=∃a b x y:Int,c.1=[a,b]∧c.2.1=[x,y]∧0≤a∧a≤255∧0≤b∧b≤255∧0≤x∧x≤32∧0≤y∧y≤32
theorem qFE {f:qUa} (h:qZC f) {a b st p:Int} (ha:0≤a∧a≤255) (hb:0≤b∧b≤255) (hs:-2047≤st∧st≤2047) (hp:0≤p∧p≤4095):Tot (qkq f [a,b] st p) fun r=>qvR r.2.1:=by
 rw [qTs]
 have e0:([a,b]:List Int).getD 0 0=a:=rfl
 have e1:([a,b]:List Int).getD 1 0=b:=rfl
 rw [e0,e1]
 refine ue (qbk h) (ud rfl (ua (by decide) (ua (by decide) (Tot.b (qVj h.1 ha.1 ha.2 hs.1 hs.2) (fun r hr=>ua (by decide) (ua (by decide) (Tot.b (qVj h.2 hb.1 hb.2 hs.1 hs.2) (fun q hq=>ud hr.1 (ud hq.1 (Tot.b (qXu p) (fun t ht=>um (fun k=>?_) (fun _=>?_))))))))))))
 ·rw [ht hp.1 hp.2] at k;exact absurd k (by decide)
 ·refine Tot.b (P:=fun _=>True) ?_ (fun z _=>ub ⟨a,b,r.2.1,q.2.1,rfl,rfl,ha.1,ha.2,hb.1,hb.2,hr.2.1,hr.2.2,hq.2.1,hq.2.2⟩)
  rw [qSs]
  exact ua (by decide) (ua (by decide) (ua (by decide) (ub trivial)))
theorem qkC {f:qUa} (h:qZC f) {c:qrc} (hc:qvR c) (b:Bool):Tot (qIr f c b) fun r=>r.2=0∧qZC r.1:=by
 obtain ⟨x,y,u,v,h1,h2,h3,h4,h5,h6,h7,h8,h9,h10⟩:=hc
 rw [qYz,h1,h2]
 have e0:([x,y]:List Int).getD 0 0=x:=rfl
 have e1:([x,y]:List Int).getD 1 0=y:=rfl
 have e2:([u,v]:List Int).getD 0 0=u:=rfl
 have e3:([u,v]:List Int).getD 1 0=v:=rfl
 rw [e0,e1,e2,e3]
 exact ue (qbk h) (ud rfl (ua (by decide) (ua (by decide) (ua (by decide) (ua (by decide) (Tot.b (qIq h.1 h3 h4 h7 h8 b) (fun r hr=>ua (by decide) (ua (by decide) (ua (by decide) (ua (by decide) (Tot.b (qIq h.2 h5 h6 h9 h10 b) (fun q hq=>ud hr.1 (ud hq.1 (ub ⟨rfl,hr.2,hq.2⟩))))))))))))))
def qlE (T:ByteArray):Bool:=decide (T.size=256)&&(List.range 256).all fun i=>decide (i=0∨(1≤qlw T i∧qlw T i≤8∧(i:Int)<2 ^ (qlw T i).toNat))
theorem qvL {T:ByteArray} (h:qlE T=true) {i:Nat} (h0:1≤i) (h1:i<256):1≤qlw T i∧qlw T i≤8∧(i:Int)<2 ^ (qlw T i).toNat:=by
 unfold qlE at h
 rw [wz,List.all_eq_true] at h
 have:=of_decide_eq_true (h.2 i (List.mem_range.2 h1))
 rcases this with rfl|h
 ·omega
 ·exact h
theorem qlG {T:ByteArray} (h:qlE T=true):T.size=256:=by
 unfold qlE at h
 rw [wz] at h
 exact of_decide_eq_true h.1
theorem qdQ {T:ByteArray} (hT:qlE T=true) {a:Int} (h0:1≤a) (h1:a≤255):Tot (gd (0≤wd .u8 a)<|gd (wd .u8 a<wi T.size)<|some (wd .i64 (0+wd .i64 (qlw T (wn (wd .u8 a)))))) fun r=>1≤r∧r≤8∧a<2 ^ r.toNat:=by
 have e:wd .u8 a=a:=by rw [wu8];omega
 have hs:=qlG hT
 have ht:=qvL hT (i:=a.toNat) (by omega) (by omega)
 rw [e,hs,w64 (x:=qlw T a.toNat) (by omega) (by omega),w64 (by omega) (by omega)]
 refine ua (by omega) (ua (by show a<256;omega) (ub ?_))
 rw [Int.zero_add]
 refine ⟨ht.1,ht.2.1,?_⟩
 have e2:((a.toNat:Nat):Int)=a:=by omega
 rw [e2] at ht
 exact ht.2.2
theorem qjO {a:Int} (h0:1≤a) (h1:a≤255):Tot (qHe (wd .u64 a)) fun r=>1≤r∧r≤8∧a<2 ^ r.toNat:=by
 have e:wd .u64 a=a:=by rw [qyR];omega
 rw [qdo,e,qBl]
 refine Tot.b (uc (by omega) (uc (by omega) (uc (by omega) (qdQ ?_ h0 h1)))) (fun r hr=>ub hr)
 decide+kernel
def qdv (w:qxa):Prop:=1≤w.1∧w.1≤255
theorem qrg {w:qxa} (h:qdv w):qIf w=some 0:=by
 rw [qBx]
 have:=h.1
 have:=h.2
 exact Tot.eq (uc (by omega) (uc (by omega) (ub rfl)))
theorem qys {w:qxa} (h:qdv w):Tot (qur w) fun r=>1≤r.1∧r.1≤15:=by
 rw [qCz,qAz]
 refine ue (qrg h) (ud rfl (Tot.b (P:=fun r=>1≤r∧r≤15) (Tot.b (qjO h.1 h.2) (fun r hr=>?_)) (fun r hr=>ub hr)))
 rw [w64 (x:=r - 1) (by omega) (by omega)]
 refine ug (fun h4=>ub ⟨h.1,?_⟩) (fun h4=>?_)
 ·have h5:r=1∨r=2∨r=3∨r=4:=by omega
  have:=hr.2.2
  rcases h5 with rfl|rfl|rfl|rfl
  ·have e:(2:Int) ^ (wn 1)=2:=by decide
   omega
  ·have e:(2:Int) ^ (wn 2)=4:=by decide
   omega
  ·have e:(2:Int) ^ (wn 3)=8:=by decide
   omega
  ·have e:(2:Int) ^ (wn 4)=16:=by decide
   omega
 ·rw [w64 (x:=r - 1 - 4) (by omega) (by omega)]
  have h5:r=5∨r=6∨r=7∨r=8:=by omega
  have h6:=h.1
  rcases h5 with rfl|rfl|rfl|rfl
  ·have e:wd .i64 (qLw .i64 1 (5 - 1 - 4))=1:=by kernel_rfl
   rw [e,qfg (by omega),w64 (by omega) (by omega)]
   exact ua (by decide) (ua (by decide) (ub ⟨by omega,by omega⟩))
  ·have e:wd .i64 (qLw .i64 1 (6 - 1 - 4))=2:=by kernel_rfl
   rw [e,qfg (by omega),w64 (by omega) (by omega)]
   exact ua (by decide) (ua (by decide) (ub ⟨by omega,by omega⟩))
  ·have e:wd .i64 (qLw .i64 1 (7 - 1 - 4))=4:=by kernel_rfl
   rw [e,qfg (by omega),w64 (by omega) (by omega)]
   exact ua (by decide) (ua (by decide) (ub ⟨by omega,by omega⟩))
  ·have e:wd .i64 (qLw .i64 1 (8 - 1 - 4))=8:=by kernel_rfl
   rw [e,qfg (by omega),w64 (by omega) (by omega)]
   exact ua (by decide) (ua (by decide) (ub ⟨by omega,by omega⟩))
theorem qbo (w:qxa):∀(n:Nat) (hs:List Bool),n+hs.length≤100→Tot (qXi ((n:Int) - 1) w hs) fun r=>r.1.length=hs.length+n
 |0,hs,hn=>by
  rw [qIm]
  exact uc (by omega) (ub rfl)
 |n+1,hs,hn=>by
  rw [qIm]
  have e:((n+1:Nat):Int) - 1=(n:Int):=by omega
  rw [e,w64 (x:=(n:Int) - 1) (by omega) (by omega)]
  refine uf (by omega) (ua (by omega) (ua (by rw [wm,wC];omega) ?_))
  exact Tot.mono (qbo w n _ (by rw [wm,wC];omega)) (fun r hr=>by rw [hr,wm,wC];omega)
theorem qJB {w:qxa} (h:qdv w):Tot (qvr w) fun r=>r.1.length≤7:=by
 rw [qDz]
 refine ue (qrg h) (ud rfl (Tot.b (qjO h.1 h.2) (fun r hr=>?_)))
 have e:r - 2=(((r - 1).toNat:Nat):Int) - 1:=by omega
 rw [w64 (x:=r - 2) (by omega) (by omega),e]
 exact Tot.mono (qbo w _ [] (by rw [wT];omega)) (fun q hq=>by rw [hq,wT];omega)
theorem qIB {w:qxa} (h:qdv w) (b:Bool):Tot (qtr w b) fun r=>qdv r.1∧0≤r.2.2.1∧r.2.2.1<256:=by
 rw [qBz,qzz,qzs]
 have h0:=h.1
 have h1:=h.2
 rw [w64 (x:=2*w.1) (by omega) (by omega),w64 (x:=2*w.1+1) (by omega) (by omega)]
 refine ue (qrg h) (ud rfl (Tot.b (P:=fun r=>2≤r) (uj (fun _=>ub (by omega)) (fun _=>ub (by omega))) (fun r hr=>ug (fun hk=>?_) (fun hk=>ub ⟨⟨by simp only;omega,by simp only;omega⟩,wVa 0,by show (0:Int)<256;decide⟩))))
 exact ue rfl (ub ⟨⟨wVa 1,by show (1:Int)≤255;decide⟩,qfv r⟩)
def qTn (m:qbc):Prop:=(m.1=-1∧m.2.1=0)∨(0≤m.1∧m.1≤1073741824∧1≤m.2.1∧m.2.1≤40)
theorem qAn {m:qbc} (h:qTn m):qIk m=some 0:=by
 rw [qMz,qep]
 simp only [qTn] at h
 refine Tot.eq (ue rfl (uj (fun _=>ub rfl) (fun hp=>?_)))
 rcases h with ⟨h1,h2⟩|h
 ·obtain ⟨a,n,u⟩:=m
  simp only at h1 h2
  subst h1 h2
  exact absurd rfl hp
 ·exact uf (by omega) (uf (by omega) (uf (by omega) (uf (by omega) (ub rfl))))
theorem qOq {l:Int} {m:qbc} {r:qdb} (h:qxe l r):Tot (qDl m r) fun x=>(0≤x.1∧x.1<256)∧(m.1<0→x.2=false):=by
 rw [qPx]
 exact ug (fun _=>ub ⟨by decide,fun _=>rfl⟩) (fun k=>Tot.b (qAK h _) (fun x hx=>ub ⟨hx,fun q=>absurd q k⟩))
theorem qLs {l:Int} {m:qbc} {r:qdb} {w:qxa} (hm:qTn m) (h:qxe l r) (hw:qdv w):Tot (qAr m r w) fun x=>-2047≤x.1∧x.1≤2047:=by
 rw [qLz]
 have hl:0≤m.2.1∧m.2.1≤40:=by
  rcases hm with h|h <;> omega
 rw [w64 (x:=50*m.2.1) (by omega) (by omega),w64 (x:=-50*m.2.1) (by omega) (by omega),w32 (x:=50*m.2.1) (by omega) (by omega),w32 (x:=-50*m.2.1) (by omega) (by omega)]
 refine ue (qAn hm) (ud rfl (ue (qMd h) (ud rfl (ue (qrg hw) (ud rfl (Tot.b (qOq h) (fun x _=>Tot.b (qJB hw) (fun q hq=>um (fun _=>ub (by decide)) (fun _=>?_)))))))))
 simp (disch:=omega) only [wj,w64 (x:=8 - (q.1.length:Int)),w64 (x:=7 - (q.1.length:Int))]
 exact ua (by omega) (uh (fun _=>ub (by decide)) (fun _=>ua (by omega) (uj (fun _=>ub ⟨by simp only;omega,by simp only;omega⟩) (fun _=>ub ⟨by simp only;omega,by simp only;omega⟩))))
theorem qOI (h:List Int) (i:Nat) (x:Int) (hi:i<h.length):qKb h i [x]=h.set i x:=by
 unfold qKb
 rw [List.set_eq_take_append_cons_drop,if_pos hi]
 simp
theorem qwC {h:List Int} {n:Nat} {x:Int} {i:Nat} (hz:∀y∈h.drop n,y=0) (hi:i≤n):∀y∈(h.set i x).drop (n+1),y=0:=by
 intro y hy
 rw [List.drop_set,if_pos (by omega)] at hy
 rw [←wja] at hy
 exact hz y (List.mem_of_mem_drop hy)
theorem qfq {l:Int} {r:qdb} (h:qxe l r) {x:Int} (hx:0≤x∧x<256) (hN:r.2.2.1<1073741824):Tot (qsB r [x]) fun s=>s.2=0∧qxe l s.1∧s.1.2.2.1=r.2.2.1+1:=by
 have hh:=h
 obtain ⟨h1,⟨h2,h3⟩,h4,h5,h6,h7,h8⟩:=h
 have hp:=qPu h2 h3
 rw [qQF]
 have e1:(wi [x].length)=1:=rfl
 rw [e1]
 rw [w64 (x:=1073741824 - r.2.2.1) (by omega) (by omega)]
 refine ue (qMd hh) (ud rfl (uc (by decide) (uc (by omega) (ue (qhk _ (by omega)) ?_))))
 rw [qGq]
 simp only [wj]
 rw [qfg h6]
 have hm0:0≤r.2.2.1%(r.2.1.length:Int):=Int.emod_nonneg _ (by omega)
 have hm1:r.2.2.1%(r.2.1.length:Int)<(r.2.1.length:Int):=Int.emod_lt_of_pos _ (by omega)
 have hle:r.2.2.1%(r.2.1.length:Int)≤r.2.2.1:=by
  rcases Int.lt_or_le r.2.2.1 (r.2.1.length:Int) with k|k
  ·rw [Int.emod_eq_of_lt h6 k];exact wVa _
  ·omega
 generalize r.2.2.1%(r.2.1.length:Int)=i at*
 have emin:min [x].length (r.2.1.length - i.toNat)=1:=by
  show min 1 _=1
  omega
 rw [emin]
 have e2:wW 1 [x]=[]:=rfl
 have e3:wK 1 [x]=[x]:=rfl
 rw [e2,e3,wQ,qOI _ _ _ (by omega),w64 (x:=r.2.2.1+((1:Nat):Int)) (by omega) (by omega)]
 refine uf (by show 0<1;decide) (ua (by omega) (ua hm0 (ua (by omega) (ua (by decide) (ua (by show (1:Int)≤1;decide) ?_)))))
 rw [qGq]
 refine uc (by decide) (ub ⟨rfl,⟨h1,⟨h2,h3⟩,by simpa using h4,qCf h5 hx _,by simp only;omega,by simp only;omega,?_⟩,rfl⟩)
 have e4:(r.2.2.1+((1:Nat):Int)).toNat=r.2.2.1.toNat+1:=by omega
 simp only
 rw [e4]
 exact qwC h8 (by omega)
theorem qaj {l:Int} {r:qdb} (h:qxe l r):Tot (qZg r) fun _=>True:=by
 have key:∀(n:Nat) (hs:List Int),n+hs.length≤100→Tot (qMh n r hs) fun _=>True:=by
  intro n
  induction n with
  |zero=>
   intro hs hn
   rw [qCl]
   exact uc (by simp) (Tot.b (qGn _ _ (by omega)) (fun _ _=>ub trivial))
  |succ n ih=>
   intro hs hn
   rw [qCl]
   have e:((n+1:Nat):Int) - 1=(n:Int):=by omega
   rw [w64 (x:=((n+1:Nat):Int) - 1) (by omega) (by omega),e]
   exact uf (by omega) (Tot.b (qXw h _) (fun x hx=>ua (by rw [wm,wC];omega) (ih _ (by rw [wm,wC];omega))))
 rw [qOx]
 exact key 4 [] (by decide)
def qcS (l:Int) (N:Int) (r:qbc×qdb×qIa×Int):Prop:=r.2.2.2=0∧qTn r.1∧qxe l r.2.1∧r.2.1.2.2.1=N+1∧qZp l r.2.2.1
theorem qfE {l:Int} {m:qbc} {r:qdb} {f:qIa} {x:Int} (hm:qTn m) (h:qxe l r) (hf:qZp l f) (hx:0≤x∧x<256) (hN:r.2.2.1<1073741824):Tot (qVt m r f x) (qcS l r.2.2.1):=by
 have hput:∀(s:qdb) (k:Int),qxe l s→s.2.2.1=r.2.2.1+1→Tot (qGi f k s.2.2.1) fun q=>q.2=0∧qZp l q.1:=fun s k hs e=>qBE hf k hs.2.2.2.2.1 hs.2.2.2.2.2.1
 have hnew:qTn (-1,(0,())):=Or.inl ⟨rfl,rfl⟩
 rw [qQB,qep]
 refine ue (qAn hm) (ud rfl (ue (qMd h) (ud rfl (ue (qnm hf) (ud rfl (ue rfl (Tot.b (qOq h) (fun e he=>?_))))))))
 refine uj (fun he2=>?_) (fun he2=>?_)
 ·have hm0:0≤m.1∧m.1≤1073741824∧1≤m.2.1∧m.2.1≤40:=by
   rcases hm with k|k
   ·have:=he.2 (by omega);rw [this] at he2;exact absurd he2 (by decide)
   ·exact k
  refine uk (fun _=>?_) (fun _=>?_)
  ·refine ug (fun hlt=>?_) (fun _=>?_)
   ·rw [w64 (x:=m.1+1) (by omega) (by omega),w64 (x:=m.2.1+1) (by omega) (by omega)]
    have hm1:qTn (m.1+1,((if 40<m.2.1+1 then 40 else m.2.1+1),())):=Or.inr ⟨by simp only;omega,by simp only;omega,by simp only;split <;> omega,by simp only;split <;> omega⟩
    refine Tot.b (qfq h hx hN) (fun s hs=>ud hs.1 (Tot.b (qaj hs.2.1) (fun k _=>Tot.b (qak hf k) (fun q hq=>?_))))
    exact uc (by omega) (Tot.b (hput s.1 k hs.2.1 hs.2.2) (fun t ht=>ub ⟨rfl,hm1,hs.2.1,hs.2.2,ht.2⟩))
   ·refine Tot.b (qfq h hx hN) (fun s hs=>ud hs.1 (Tot.b (qaj hs.2.1) (fun k _=>Tot.b (qak hf k) (fun q hq=>?_))))
    refine uf (by decide) (ug (fun hq0=>ug (fun hq1=>Tot.b (qPk hs.2.1 q.1) (fun n hn=>ug (fun hn3=>?_) (fun _=>?_))) (fun _=>?_)) (fun _=>?_))
    ·exact Tot.b (hput s.1 k hs.2.1 hs.2.2) (fun t ht=>ub ⟨rfl,Or.inr ⟨hq0,hq.2.2,by simp only;omega,hn.2⟩,hs.2.1,hs.2.2,ht.2⟩)
    all_goals exact Tot.b (hput s.1 k hs.2.1 hs.2.2) (fun t ht=>ub ⟨rfl,hnew,hs.2.1,hs.2.2,ht.2⟩)
  ·refine Tot.b (qfq h hx hN) (fun s hs=>ud hs.1 (Tot.b (qaj hs.2.1) (fun k _=>Tot.b (qak hf k) (fun q hq=>?_))))
   refine uf (by decide) (ug (fun hq0=>ug (fun hq1=>Tot.b (qPk hs.2.1 q.1) (fun n hn=>ug (fun hn3=>?_) (fun _=>?_))) (fun _=>?_)) (fun _=>?_))
   ·exact Tot.b (hput s.1 k hs.2.1 hs.2.2) (fun t ht=>ub ⟨rfl,Or.inr ⟨hq0,hq.2.2,by simp only;omega,hn.2⟩,hs.2.1,hs.2.2,ht.2⟩)
   all_goals exact Tot.b (hput s.1 k hs.2.1 hs.2.2) (fun t ht=>ub ⟨rfl,hnew,hs.2.1,hs.2.2,ht.2⟩)
 ·refine Tot.b (qfq h hx hN) (fun s hs=>ud hs.1 (Tot.b (qaj hs.2.1) (fun k _=>Tot.b (qak hf k) (fun q hq=>?_))))
  refine uf (by decide) (ug (fun hq0=>ug (fun hq1=>Tot.b (qPk hs.2.1 q.1) (fun n hn=>ug (fun hn3=>?_) (fun _=>?_))) (fun _=>?_)) (fun _=>?_))
  ·exact Tot.b (hput s.1 k hs.2.1 hs.2.2) (fun t ht=>ub ⟨rfl,Or.inr ⟨hq0,hq.2.2,by simp only;omega,hn.2⟩,hs.2.1,hs.2.2,ht.2⟩)
  all_goals exact Tot.b (hput s.1 k hs.2.1 hs.2.2) (fun t ht=>ub ⟨rfl,hnew,hs.2.1,hs.2.2,ht.2⟩)
def qot (l:Int) (h:List qta):Prop:=h.length=6∧∀t∈h,qSn l t
def qVJ (h:List qra):Prop:=h.length=6∧∀a∈h,qyF a
def WfSl (l:Int) (s:List Int):Prop:=∀x∈s,0≤x∧x<plT l
@[reducible] def qbP:Type:=(qAa×(qUa×(qIa×(qbc×(qxa×((List Int)×((List Int)×Unit)))))))
def qyI (l:Int) (b:qbP):Prop:=qZr b.1∧qZC b.2.1∧qZp l b.2.2.1∧qTn b.2.2.2.1∧qdv b.2.2.2.2.1∧WfSl l b.2.2.2.2.2.2.1
def WfP (l N:Int) (p:qja):Prop:=
 p.1=l∧(qxe l p.2.1∧p.2.1.2.2.1≤N)∧qot l p.2.2.1∧qVJ p.2.2.2.1∧qyI l p.2.2.2.2∧qXf p.2.1=some (p.2.2.2.2.2.2.2.2.2.1,0)
theorem WfSl.at {l:Int} {s:List Int} (h:WfSl l s) (h2:0≤l∧l≤7) (i:Nat):0≤s.getD i 0∧s.getD i 0<plT l:=
 qmy (P:=fun x=>0≤x∧x<plT l) h ⟨by omega,by have:=qmx h2.1 h2.2;omega⟩ i
theorem WfSl.zero {l:Int} (h2:0≤l∧l≤7):WfSl l (wo 6 0):=fun x hx=>by
 rw [List.eq_of_mem_replicate hx];have:=qmx h2.1 h2.2;omega
def qkO (l:Int) (a:Int) (g:qdb) (b:qbP) (h2:List qra) (r:qja×List qta×List qra):Prop:=
 r.1.1=a∧r.1.2.1=g∧qot l r.2.1∧r.2.2=h2∧r.1.2.2.2.2.1=b.1∧r.1.2.2.2.2.2.1=b.2.1∧r.1.2.2.2.2.2.2.1=b.2.2.1∧r.1.2.2.2.2.2.2.2.1=b.2.2.2.1∧r.1.2.2.2.2.2.2.2.2.1=b.2.2.2.2.1∧r.1.2.2.2.2.2.2.2.2.2.1=b.2.2.2.2.2.1∧WfSl l r.1.2.2.2.2.2.2.2.2.2.2.1
theorem qML {l:Int} (v a:_) (g:qdb) (h2:List qra):∀i:Int,0≤i→∀(b:qbP) (h1:List qta),qot l h1→WfSl l b.2.2.2.2.2.2.1→Tot (qNd v i a g b h1 h2) (qkO l a g b h2):=by
 intro i
 refine qgd (P:=fun i=>0≤i→∀(b:qbP) (h1:List qta),qot l h1→WfSl l b.2.2.2.2.2.2.1→Tot (qNd v i a g b h1 h2) (qkO l a g b h2)) 6 ?_ ?_ i
 ·intro i hi h0 b h1 ht hs
  rw [qnj]
  exact uc (by omega) (ub ⟨rfl,rfl,ht,rfl,rfl,rfl,rfl,rfl,rfl,rfl,hs⟩)
 ·intro i hi ih h0 b h1 ht hs
  rw [qnj]
  simp only [wj]
  have hl:=ht.1
  rw [w64 (x:=i+1) (by omega) (by omega)]
  have hd:=qOa (P:=qSn l) (d:=qqa qEa) ht.2 (0+i.toNat) (by omega)
  refine uf (by omega) (ua h0 (ua (by omega) (ua h0 (ua (by omega) (Tot.b (qmD hd _) (fun r hr=>ua h0 (ua (by omega) (ua h0 (ua (by omega) ?_)))))))))
  exact Tot.mono (ih (by omega) _ _ ⟨by rw [wia];exact ht.1,qCf ht.2 hr.1 _⟩ (qCf hs ⟨hr.2.1,hr.2.2.1⟩ _)) (fun q hq=>hq)
theorem qNL {l:Int} (v a:_) (g:qdb) (h2:List qra) (b:qbP) (h1:List qta) (ht:qot l h1) (hs:WfSl l b.2.2.2.2.2.2.1):Tot (qHf v a g b h1 h2) (qkO l a g b h2):=by
 rw [qts]
 exact qML v a g h2 0 (by omega) b h1 ht hs
theorem qYE (l:List qra) (hl:l.length≤1048576) (h:∀a∈l,qyF a):qEb l=some false:=by
 have key:∀i:Int,0≤i→Tot (qZa l l.length i) fun r=>r=-1:=by
  intro i
  refine qgd (P:=fun i=>0≤i→Tot (qZa l l.length i) fun r=>r=-1) l.length ?_ ?_ i
  ·intro i hi h0
   rw [qqc]
   exact uc (by omega) (ub rfl)
  ·intro i hi ih h0
   rw [qqc]
   simp only [wj]
   rw [w64 (x:=i+1) (by omega) (by omega)]
   have hd:=qOa (P:=qyF) (d:=qqa qDa) h i.toNat (by omega)
   refine uf (by omega) (ua h0 (ua (by omega) (ue (v:=false) ?_ (uo (ih (by omega))))))
   rw [qrs]
   exact Tot.eq (ue (qnt hd) (ud rfl (ub (by rw [hd.1];rfl))))
 rw [qRe,qzf]
 exact Tot.eq (Tot.b (key 0 (by omega)) (fun r hr=>ub (by rw [hr];rfl)))
theorem qgJ {l N:Int} {p:qja} (h:WfP l N p):∀i:Int,0≤i→Tot (qTe p.2.2.1 p.2.2.1.length i p) fun r=>r=true:=by
 obtain ⟨h1,h2,h3,h4,h5,h6⟩:=h
 have hl:=h3.1
 intro i
 refine qgd (P:=fun i=>0≤i→Tot (qTe p.2.2.1 p.2.2.1.length i p) fun r=>r=true) p.2.2.1.length ?_ ?_ i
 ·intro i hi h0
  rw [qBk]
  exact uc (by omega) (ue (qYE _ (by rw [h4.1];decide) h4.2) (ub rfl))
 ·intro i hi ih h0
  rw [qBk]
  simp only [wj]
  have hd:=qOa (P:=qSn l) (d:=qqa qEa) h3.2 i.toNat (by omega)
  have hs:=h5.2.2.2.2.2.at hd.2.1 i.toNat
  have hd2:=hd.2.2.1
  rw [w64 (x:=i+1) (by omega) (by omega)]
  exact uf (by omega) (ua h0 (ua (by omega) (ue (qjn hd) (ud rfl (ud (by rw [hd.1,h1]) (ua h0 (ua (by omega) (uc (by omega) (ua h0 (ua (by omega) (uc (by omega) (ih (by omega)))))))))))))
theorem qAP {l N:Int} {p:qja} (h:WfP l N p):qsn p=some true:=by
 have hc:=qgJ h 0 (by omega)
 obtain ⟨h1,h2,h3,h4,h5,h6⟩:=h
 rw [qtv]
 simp only [wj]
 have hl:=h2.1.2.1
 have hl1:=h3.1
 have hl2:=h4.1
 exact Tot.eq (uc (by omega) (uc (by omega) (ud (by omega) (ud (by omega) (ue (qMd h2.1) (ud rfl (ud (by rw [h2.1.1,h1]) (ue (qnm h5.2.2.1) (ud rfl (ud (by rw [h5.2.2.1.1,h1]) hc))))))))))
theorem qvs {α:Type} {eq:α→α→Bool} (h:∀x,eq x x=true):∀l:List α,qbD eq l l=true
 |[]=>rfl
 |x::l=>by rw [qbD,h,qvs h l];rfl
theorem qDk {l N:Int} {p:qja} (h:WfP l N p):qWj p=some 0:=by
 rw [quv]
 simp only [wj]
 have hp:=qAP h
 obtain ⟨h1,h2,h3,h4,h5,h6⟩:=h
 have hm:=h5.1.1
 refine Tot.eq (ue hp (um (fun k=>absurd k (by decide)) (fun _=>ue (qEs h5.1) (ud rfl (ud (by omega) (ue (qbk h5.2.1) (ud rfl (ue (qAn h5.2.2.2.1) (ud rfl (ue (qrg h5.2.2.2.2.1) (ud rfl (ue h6 (um (fun k=>?_) (fun _=>ub rfl))))))))))))))
 have:peq (.arr 6 (.int .u32)) p.2.2.2.2.2.2.2.2.2.1 p.2.2.2.2.2.2.2.2.2.1=true:=by
  rw [peq];exact qvs (fun x=>by rw [peq];exact decide_eq_true rfl) _
 exact absurd (this.symm.trans k) (by decide)
def qev (s:qEc):Prop:=(1≤s.1∧s.1≤15)∧(s.2.1.length=6∧∀x∈s.2.1,0≤x∧x≤192)∧(s.2.2.1.length=8∧∀x∈s.2.2.1,-2047≤x∧x≤2047)∧(0≤s.2.2.2.1∧s.2.2.2.1≤4095)∧qvR s.2.2.2.2.2.1
theorem qfN {l N:Int} {p:qja} (h:WfP l N p) (b9a:Int) (b9 b10:(Int×(Int×(qrc×Unit)))) {nd:Int} (hn:1≤nd∧nd≤15) (h11 h12:List Int):∀i:Int,0≤i→i≤6→∀(h13 h14:List Int),(h13.length=i.toNat∧∀x∈h13,0≤x∧x≤192)→(h14.length=i.toNat∧∀x∈h14,-2047≤x∧x≤2047)→
  Tot (qYd p.2.2.1 6 i p b9a b9 nd b10 h11 h12 h13 h14) qev:=by
 obtain ⟨h1,h2,h3,h4,h5,h6⟩:=h
 have hl3:=h3.1
 have hl4:=h4.1
 have hw:=h5.2.2.2.2.1
 intro i
 refine qgd (P:=fun i=>0≤i→i≤6→∀(h13 h14:List Int),(h13.length=i.toNat∧∀x∈h13,0≤x∧x≤192)→(h14.length=i.toNat∧∀x∈h14,-2047≤x∧x≤2047)→Tot (qYd p.2.2.1 6 i p b9a b9 nd b10 h11 h12 h13 h14) qev) 6 ?_ ?_ i
 ·intro i hi h0 h06 h13 h14 k13 k14
  rw [qUf]
  have e6:i.toNat=6:=by omega
  rw [e6] at k13 k14
  refine uc (by omega) (Tot.b (qLs h5.2.2.2.1 h2.1 hw) (fun m hm=>?_))
  have hL:(h14++[m.1,256]).length=8:=by rw [wm,k14.1];rfl
  have hA:∀x∈h14++[m.1,256],-2047≤x∧x≤2047:=by
   intro x hx
   rcases wba.1 hx with q|q
   ·exact k14.2 x q
   ·rcases waa.1 q with rfl|q
    ·exact hm
    ·rw [wV.1 q];omega
  refine ua (by rw [hL];decide) (Tot.b (qGx h5.1 (by have:=hw.1;omega) hw.2 hL hA) (fun x hx=>Tot.b (qmo h2.1) (fun y _=>Tot.b (qYu _ _ hw.1 hw.2) (fun z hz=>?_))))
  obtain ⟨c,hz1,hz2⟩:=hz
  rw [hz1]
  exact Tot.b (qFE h5.2.1 ⟨by have:=hw.1;omega,hw.2⟩ hz2 ⟨hx.1,hx.2.1⟩ ⟨hx.2.2.1,hx.2.2.2⟩) (fun t ht=>ub ⟨hn,k13,⟨hL,hA⟩,⟨hx.2.2.1,hx.2.2.2⟩,ht⟩)
 ·intro i hi ih h0 h06 h13 h14 k13 k14
  rw [qUf]
  simp only [wj]
  have hd:=qOa (P:=qSn l) (d:=qqa qEa) h3.2 i.toNat (by omega)
  have ha:=qOa (P:=qyF) (d:=qqa qDa) h4.2 i.toNat (by omega)
  have hs:=h5.2.2.2.2.2.at hd.2.1 i.toNat
  rw [w64 (x:=i+1) (by omega) (by omega)]
  refine uf (by omega) (ua h0 (ua (by omega) (ua h0 (ua (by omega) (Tot.b (qkr hd hs.1 hs.2 hn.1 hn.2) (fun r hr=>ua h0 (ua (by omega) (Tot.b (qoF ha hr.2.1 hr.2.2) (fun q hq=>ua ?_ (ua (by decide) (Tot.b (qgD _) (fun s hs'=>ua ?_ ?_))))))))))))
  ·rw [wm,wC];omega
  ·rw [wm,wC];omega
  ·exact ih (by omega) (by omega) _ _ ⟨by rw [wm,wC];omega,qLj k13.2 hr.2⟩ ⟨by rw [wm,wC];omega,qLj k14.2 hs'⟩
theorem qBR {l N:Int} {p:qja} (h:WfP l N p):Tot (qCi p) qev:=by
 rw [qJq]
 have e:wi p.2.2.1.length=6:=by rw [h.2.2.1.1];rfl
 rw [e]
 exact Tot.b (qys h.2.2.2.2.1.2.2.2.2.1) (fun r hr=>qfN h _ _ _ hr _ _ 0 (by omega) (by omega) [] [] ⟨rfl,fun x hx=>by cases hx⟩ ⟨rfl,fun x hx=>by cases hx⟩)
theorem qhC {l N:Int} {g:qdb} {b:qbP} {h2:List qra} {r:qja×List qta×List qra} (h:qkO l l g b h2 r) (hg:qxe l g∧g.2.2.1≤N) (ha:qVJ h2)
  (hb:qZr b.1∧qZC b.2.1∧qZp l b.2.2.1∧qTn b.2.2.2.1∧qdv b.2.2.2.2.1) (hc:qXf g=some (b.2.2.2.2.2.1,0)):WfP l N (r.1.1,(r.1.2.1,(r.2.1,(r.2.2,r.1.2.2.2.2)))):=by
 obtain ⟨e1,e2,t,e4,e5,e6,e7,e8,e9,e10,s⟩:=h
 refine ⟨e1,?_,t,?_,⟨?_,?_,?_,?_,?_,s⟩,?_⟩
 ·simp only;rw [e2];exact hg
 ·simp only;rw [e4];exact ha
 ·simp only;rw [e5];exact hb.1
 ·simp only;rw [e6];exact hb.2.1
 ·simp only;rw [e7];exact hb.2.2.1
 ·simp only;rw [e8];exact hb.2.2.2.1
 ·simp only;rw [e9];exact hb.2.2.2.2
 ·simp only;rw [e2,e10];exact hc
def qcQ (l N:Int) (r:qja×Int):Prop:=r.2=0∧WfP l N r.1
theorem qAF {l N:Int} (v:List Int) (g:qdb) (m:qAa) (f:qUa) (b:(qIa×(qbc×(qxa×((List Int)×((List Int)×Unit)))))) (w:qxa)
  (b10a b10baa:Int) (b10babb:qxa) (u1 u2 u3 u4:Unit) (b10bbbbbbaa:Int) (u5:Unit) (b10bbbbbbb:(qbc×(qxa×((List Int)×((List Int)×Unit)))))
  (h12:List qta) (h13:List qra) (h14:List Int) (h15:List qta) (h16:List qra) (h17 h18 h19:List (List Int)) (h20:List Int)
  (hg:qxe l g∧g.2.2.1≤N) (ht:qot l h12) (ha:qVJ h13) (hr:qyI l (m,(f,b))) (hc:qXf g=some (b.2.2.2.1,0)):∀i:Int,0≤i→∀b11:List Int,
  Tot (qoe v i l g m f b b10a b10baa b10babb u1 u2 u3 u4 b10bbbbbbaa u5 b10bbbbbbb w b11 h12 h13 h14 h15 h16 h17 h18 h19 h20) (qcQ l N):=by
 intro i
 refine qgd (P:=fun i=>0≤i→∀b11:List Int,Tot (qoe v i l g m f b b10a b10baa b10babb u1 u2 u3 u4 b10bbbbbbaa u5 b10bbbbbbb w b11 h12 h13 h14 h15 h16 h17 h18 h19 h20) (qcQ l N)) 6 ?_ ?_ i
 ·intro i hi h0 b11
  rw [qPj]
  refine uc (by omega) (Tot.b (qNL b11 l g h13 (m,(f,b)) h12 ht hr.2.2.2.2.2) (fun r hq=>ub ⟨rfl,qhC hq hg ha ⟨hr.1,hr.2.1,hr.2.2.1,hr.2.2.2.1,hr.2.2.2.2.1⟩ hc⟩))
 ·intro i hi ih h0 b11
  rw [qPj,w64 (x:=i+1) (by omega) (by omega)]
  exact uf (by omega) (ua h0 (ua (by omega) (Tot.b (qqA _ _) (fun r _=>ua h0 (ua (by omega) (ih (by omega) _))))))
theorem qqw {l N:Int} (v2:Bool) {v8:Int} (h8:v8=0∨v8=1) (g:qdb) (b:qbP) (s:qEc)
  (b10a b10baa:Int) (b10babb:qxa) (u1 u2 u3 u4:Unit) (b10bbbbbbaa:Int) (u5:Unit) (b10bbbbbbb:(qbc×(qxa×((List Int)×((List Int)×Unit)))))
  (h13:List Int) (h14:List qta) (h15:List qra) (h16 h17 h18:List (List Int)) (h19:List Int)
  (hg:qxe l g∧g.2.2.1≤N) (hN:N<1073741824) (hb:qyI l b) (hc:qXf g=some (b.2.2.2.2.2.1,0)) (hs:qev s):∀i:Int,0≤i→∀(h11:List qta) (h12:List qra),qot l h11→qVJ h12→
  Tot (qkd v2 v8 b.2.2.2.2.1.1 i l g b s b10a b10baa b10babb u1 u2 u3 u4 b10bbbbbbaa u5 b10bbbbbbb h11 h12 h13 h14 h15 h16 h17 h18 h19) (qcQ l (N+1)):=by
 obtain ⟨s1,s2,s3,s4,s5⟩:=hs
 obtain ⟨b1,b2,b3,b4,b5,b6⟩:=hb
 intro i
 refine qgd (P:=fun i=>0≤i→∀(h11:List qta) (h12:List qra),qot l h11→qVJ h12→Tot (qkd v2 v8 b.2.2.2.2.1.1 i l g b s b10a b10baa b10babb u1 u2 u3 u4 b10bbbbbbaa u5 b10bbbbbbb h11 h12 h13 h14 h15 h16 h17 h18 h19) (qcQ l (N+1))) 6 ?_ ?_ i
 ·intro i hi h0 h11 h12 t a
  rw [qQj]
  have w0:=b5.1
  have w1:=b5.2
  refine uc (by omega) (Tot.b (qLB b1 (by omega) w1 s3.1 s3.2 s4.1 s4.2 v2) (fun r7 k7=>Tot.b (qkC b2 s5 v2) (fun r8 k8=>Tot.b (qIB b5 v2) (fun r9 k9=>uj (fun _=>?_) (fun _=>?_)))))
  ·refine Tot.b (qfE b4 hg.1 b3 k9.2 (by omega)) (fun r10 k10=>ud k10.1 ?_)
   obtain ⟨z1,z2,z3,z4,z5⟩:=k10
   obtain ⟨q,e,hq⟩:=qbv z3
   refine ue e ?_
   refine Tot.b (qNL q.1 l r10.2.1 h12 (r7.1,(r8.1,(r10.2.2.1,(r10.1,(r9.1,(q.1,b.2.2.2.2.2.2)))))) h11 t b6) (fun r12 k12=>ub ⟨rfl,?_⟩)
   exact qhC k12 ⟨z3,by rw [z4];omega⟩ a ⟨k7.2,k8.2,z5,z2,k9.1⟩ (by rw [e];exact congrArg some (Prod.ext rfl hq))
  ·refine ug (fun _=>?_) (fun _=>ug (fun _=>?_) (fun _=>?_))
   ·exact ub ⟨rfl,rfl,⟨hg.1,by simp only;omega⟩,t,a,⟨k7.2,k8.2,b3,b4,k9.1,b6⟩,hc⟩
   ·exact ub ⟨rfl,rfl,⟨hg.1,by simp only;omega⟩,t,a,⟨k7.2,k8.2,b3,b4,k9.1,b6⟩,hc⟩
   ·exact qAF _ g r7.1 r8.1 (b.2.2.1,(b.2.2.2.1,(r9.1,b.2.2.2.2.2))) r9.1 b10a b10baa b10babb u1 u2 u3 u4 b10bbbbbbaa u5 b10bbbbbbb h11 h12 h13 h14 h15 h16 h17 h18 h19 ⟨hg.1,by omega⟩ t a ⟨k7.2,k8.2,b3,b4,k9.1,b6⟩ hc 0 (by omega) _
 ·intro i hi ih h0 h11 h12 t a
  rw [qQj]
  simp only [wj]
  have hl1:=t.1
  have hl2:=a.1
  have hl3:=s2.1
  have hd:=qOa (P:=qSn l) (d:=qqa qEa) t.2 (0+i.toNat) (by omega)
  have ha:=qOa (P:=qyF) (d:=qqa qDa) a.2 (0+i.toNat) (by omega)
  have hst:=qOa (P:=fun x=>0≤x∧x≤192) (d:=0) s2.2 i.toNat (by omega)
  have hsl:=b6.at hd.2.1 i.toNat
  rw [w64 (x:=i+1) (by omega) (by omega)]
  refine uf (by omega) (ua h0 (ua (by omega) (ua h0 (ua (by omega) (Tot.b (qxA ha hst.1 hst.2 h8) (fun r5 k5=>ua h0 (ua (by omega) (ua h0 (ua (by omega) (ua h0 (ua (by omega) (Tot.b (qIF hd hsl.1 hsl.2 s1.1 s1.2 h8) (fun r6 k6=>ua h0 (ua (by omega) ?_))))))))))))))
  exact ih (by omega) _ _ ⟨by rw [wia];exact hl1,qCf t.2 k6.2 _⟩ ⟨by rw [wia];exact hl2,qCf a.2 k5.2 _⟩
theorem qhB {l N:Int} {p:qja} (h:WfP l N p) (hN:N<1073741824) {s:qEc} (hs:qev s) (b:Bool):Tot (qWi p s b) (qcQ l (N+1)):=by
 obtain ⟨h1,h2,h3,h4,h5,h6⟩:=h
 rw [qJt,h1]
 have k1:=qMj p.2.2.1 (by rw [h3.1];decide)
 have k2:=qNj p.2.2.2.1 (by rw [h4.1];decide)
 refine uj (fun _=>ue k1 (ue k2 ?_)) (fun _=>ue k1 (ue k2 ?_))
 ·exact qqw b (Or.inr rfl) p.2.1 p.2.2.2.2 s _ _ _ _ _ _ _ _ _ _ _ _ _ _ _ _ _ h2 hN h5 h6 hs 0 (by omega) _ _ h3 h4
 ·exact qqw b (Or.inl rfl) p.2.1 p.2.2.2.2 s _ _ _ _ _ _ _ _ _ _ _ _ _ _ _ _ _ h2 hN h5 h6 hs 0 (by omega) _ _ h3 h4
theorem qzK (l:List (List Int)) (hl:l.length≤1048576) (hr:∀r∈l,r.length≤1048576):qmj l=some l:=by
 have key:∀i:Int,0≤i→i≤l.length→Tot (qGf l l.length i (l.take i.toNat)) fun r=>r=l:=by
  intro i
  refine qgd (P:=fun i=>0≤i→i≤l.length→Tot (qGf l l.length i (l.take i.toNat)) fun r=>r=l) l.length ?_ ?_ i
  ·intro i hi h0 h1
   rw [qvl]
   exact uc (by omega) (ub (wN (by omega)))
  ·intro i hi ih h0 h1
   rw [qvl]
   simp only [wj]
   have hd:=qOa (P:=fun r:List Int=>r.length≤1048576) (d:=[]) hr i.toNat (by omega)
   rw [w64 (x:=i+1) (by omega) (by omega)]
   refine uf (by omega) (ua h0 (ua (by omega) (ue (qcb _ hd) (ua (by rw [wm,wC,wP];omega) ?_))))
   have e:l.take i.toNat++[l.getD i.toNat []]=l.take (i+1).toNat:=by
    have e2:(i+1).toNat=i.toNat+1:=by omega
    rw [e2,wPa (by omega),wu,wx (by omega)]
    rfl
   rw [e]
   exact ih (by omega) (by omega)
 rw [qkx]
 exact Tot.eq (key 0 (by omega) (by omega))
theorem qiK {l:Int} (t:List qta) (a:List qra) (ht:qot l t) (ha:qVJ a) (b8a b8baa:Int) (b8babb:qxa) (m:qAa) (f:qUa) (hm:qZr m) (hf:qZC f) (b8bbbbbbaa:Int) (u:Unit) (b8bbbbbbb:(qbc×(qxa×((List Int)×((List Int)×Unit)))))
  (b10a b10baa:Int) (b10babb:qxa) (u1 u2 u3 u4:Unit) (b10bbbbbbaa:Int) (u5:Unit) (b10bbbbbbb:(qbc×(qxa×((List Int)×((List Int)×Unit)))))
  (h10 h13 h14:List Int) (h15:List qta) (h16:List qra) (h17 h18 h19:List (List Int)) (h20:List Int):∀i:Int,0≤i→
  Tot (qFf 6 i b8a b8baa b8babb m f b8bbbbbbaa u b8bbbbbbb b10a b10baa b10babb u1 u2 u3 u4 b10bbbbbbaa u5 b10bbbbbbb h10 t a h13 h14 h15 h16 h17 h18 h19 h20) fun r=>r=(b8a,((b8baa,(h10,b8babb)),(t,(a,(m,(f,((b8bbbbbbaa,(h13,u)),b8bbbbbbb))))))):=by
 intro i
 refine qgd (P:=fun i=>0≤i→Tot (qFf 6 i b8a b8baa b8babb m f b8bbbbbbaa u b8bbbbbbb b10a b10baa b10babb u1 u2 u3 u4 b10bbbbbbaa u5 b10bbbbbbb h10 t a h13 h14 h15 h16 h17 h18 h19 h20) fun r=>r=(b8a,((b8baa,(h10,b8babb)),(t,(a,(m,(f,((b8bbbbbbaa,(h13,u)),b8bbbbbbb)))))))) 6 ?_ ?_ i
 ·intro i hi h0
  rw [qul]
  refine uc (by omega) (ue (qzK _ (by rw [hm.1];decide) (fun r hr=>by rw [hm.2 r hr];decide)) (ue (qzK _ (by rw [hf.1.1];decide) (fun r hr=>by rw [(hf.1.2 r hr).1];decide)) (ue (qzK _ (by rw [hf.2.1];decide) (fun r hr=>by rw [(hf.2.2 r hr).1];decide)) (ub rfl))))
 ·intro i hi ih h0
  rw [qul]
  simp only [wj]
  have hl1:=ht.1
  have hl2:=ha.1
  have hd:=qOa (P:=qSn l) (d:=qqa qEa) ht.2 (0+i.toNat) (by omega)
  have hq:=qOa (P:=qyF) (d:=qqa qDa) ha.2 (0+i.toNat) (by omega)
  have hp:=qmx hd.2.1.1 hd.2.1.2
  have hd2:=hd.2.2.1
  rw [w64 (x:=i+1) (by omega) (by omega)]
  refine uf (by omega) (ua h0 (ua (by omega) (ue (qOg _ (by omega)) (ua h0 (ua (by omega) (ua h0 (ua (by omega) (ue (qcb _ (by rw [hq.2.1.1];decide)) (ua h0 (ua (by omega) (ue (qcb _ (by rw [hq.2.2.1];decide)) (ua h0 (ua (by omega) (ua h0 (ua (by omega) ?_)))))))))))))))
  have s1:=qnH t (0+i.toNat) (qqa qEa)
  have s2:=qnH a (0+i.toNat) (qqa qDa)
  have s1':t.set (0+i.toNat) ((t.getD (0+i.toNat) (qqa qEa)).1,((t.getD (0+i.toNat) (qqa qEa)).2.1,(t.getD (0+i.toNat) (qqa qEa)).2.2))=t:=s1
  have s2':a.set (0+i.toNat) ((a.getD (0+i.toNat) (qqa qDa)).1,((a.getD (0+i.toNat) (qqa qDa)).2.1,(a.getD (0+i.toNat) (qqa qDa)).2.2))=a:=s2
  have s3':a.set (0+i.toNat) ((a.getD (0+i.toNat) (qqa qDa)).1,((a.getD (0+i.toNat) (qqa qDa)).2.1,((a.getD (0+i.toNat) (qqa qDa)).2.2.1,(a.getD (0+i.toNat) (qqa qDa)).2.2.2)))=a:=s2
  rw [s1',s2',s3']
  exact ih (by omega)
theorem qnO {l N:Int} {p:qja} (h:WfP l N p):qVo p=some p:=by
 obtain ⟨h1,h2,h3,h4,h5,h6⟩:=h
 have hp:=qPu h2.1.2.1.1 h2.1.2.1.2
 have e1:=h2.1.2.2.1
 have e2:=h5.2.2.1.2.2.1
 rw [qjx]
 refine Tot.eq (ue (qdc _ (by omega)) (ue (qvi _ (by omega)) (ue (qMj _ (by rw [h3.1];decide)) (ue (qNj _ (by rw [h4.1];decide)) ?_))))
 have e:wi p.2.2.1.length=6:=by rw [h3.1];rfl
 rw [e]
 exact Tot.mono (qiK p.2.2.1 p.2.2.2.1 h3 h4 _ _ _ _ _ h5.1 h5.2.1 _ _ _ _ _ _ _ _ _ _ _ _ _ _ _ _ _ _ _ _ _ _ 0 (by omega)) (fun r hr=>hr)
def qXR (l N:Int) (n:Nat) (r:qja×List Int×Int):Prop:=r.2.2=0∧WfP l N r.1∧r.2.1.length=n
theorem qeO {l N:Int} (v:List Bool) (hv:v.length≤2000) (hN:N+v.length<1073741824) (b9a b9baa:Int) (b9babb:qxa) (u1 u2 u3 u4:Unit) (b9bbbbbbaa:Int) (u5:Unit) (b9bbbbbbb:(qbc×(qxa×((List Int)×((List Int)×Unit)))))
  (h11:List Int) (h12:List qta) (h13:List qra) (h14 h15 h16:List (List Int)) (h17:List Int):∀i:Int,0≤i→i≤v.length→∀(p:qja) (h10:List Int),WfP l (N+i) p→h10.length=i.toNat→
  Tot (qZd v v.length i p b9a b9baa b9babb u1 u2 u3 u4 b9bbbbbbaa u5 b9bbbbbbb h10 h11 h12 h13 h14 h15 h16 h17) (qXR l (N+v.length) v.length):=by
 intro i
 refine qgd (P:=fun i=>0≤i→i≤v.length→∀(p:qja) (h10:List Int),WfP l (N+i) p→h10.length=i.toNat→Tot (qZd v v.length i p b9a b9baa b9babb u1 u2 u3 u4 b9bbbbbbaa u5 b9bbbbbbb h10 h11 h12 h13 h14 h15 h16 h17) (qXR l (N+v.length) v.length)) v.length ?_ ?_ i
 ·intro i hi h0 h1 p h10 hp hh
  rw [qVf]
  have e:i=(v.length:Int):=by omega
  rw [e] at hp
  exact uc (by omega) (ub ⟨rfl,hp,by simp only;omega⟩)
 ·intro i hi ih h0 h1 p h10 hp hh
  rw [qVf]
  simp only [wj]
  rw [w64 (x:=i+1) (by omega) (by omega)]
  refine uf (by omega) (ua h0 (ua (by omega) (Tot.b (qBR hp) (fun s hs=>Tot.b (qhB hp (by omega) hs _) (fun r hr=>ud hr.1 (ua (by rw [wm,wC];omega) ?_))))))
  exact ih (by omega) (by omega) r.1 _ (by have:=hr.2;rw [Int.add_assoc] at this;exact this) (by rw [wm,wC];omega)
theorem qWR {l N:Int} {p:qja} (h:WfP l N p) (v:List Bool) (hv:v.length≤2000) (hN:N+v.length<1073741824):Tot (qCk p v) (qXR l (N+v.length) v.length):=by
 rw [qKq]
 simp only [wj]
 refine ue (qDk h) (ud rfl (uc (by omega) (ue (qnO h) ?_)))
 exact qeO v hv hN _ _ _ _ _ _ _ _ _ _ _ _ _ _ _ _ _ 0 (by omega) (by omega) p [] (by rw [Int.add_zero];exact h) rfl
theorem qdP:∀n∈([8,64,128,193,256,512,1024,2048,4096,8192]:List Int),qXj (wd .u64 1) (wd .u64 n)=some (0,n):=by
 intro n hn
 simp only [waa,List.not_mem_nil,or_false] at hn
 rw [qGv,qJs,qda (by decide),qda (by decide),qda (by decide),qda (by decide),qda (by decide),wq]
 rcases hn with rfl|rfl|rfl|rfl|rfl|rfl|rfl|rfl|rfl|rfl <;> exact congrArg some (by kernel_rfl)
theorem qvw {α:Type} (l:List α) (v c:Nat) (hv:v+c≤l.length) (hc:c≤v):(qKb l v (wK c (wK v l))).take (v+c)=l.take v++l.take c∧(qKb l v (wK c (wK v l))).length=l.length:=by
 have e:wK c (wK v l)=l.take c:=by rw [List.take_take,Nat.min_eq_left hc]
 rw [e]
 unfold qKb
 have h1:(l.take v++l.take c).length=v+c:=by rw [wm,wP,wP];omega
 constructor
 ·rw [wLa (by omega),wN (by omega)]
 ·rw [wm,h1,wda,wP];omega
theorem qvD (x:Int) (n:Nat) (hn:n≤1048576):∀(m:Nat) (v:Nat) (h:List Int),n - v≤m→1≤v→v≤n→h.length=n→(∀y∈h.take v,y=x)→Tot (qQc v h) fun r=>r.length=n∧∀y∈r,y=x:=by
 intro m
 induction m with
 |zero=>
  intro v h hm h1 h2 hl ha
  rw [qvf]
  simp only [wj]
  refine uc (by omega) (ub ⟨hl,?_⟩)
  rw [wN (by omega)] at ha
  exact ha
 |succ m ih=>
  intro v h hm h1 h2 hl ha
  rw [qvf]
  simp only [wj]
  refine ug (fun hlt=>?_) (fun hge=>ub ⟨hl,?_⟩)
  ·have e1:(v:Int).toNat=v:=wv v
   rw [e1,Nat.sub_zero,wca,wQ]
   have e2:min (wK v h).length (h.length - v)=min v (n - v):=by rw [wP];omega
   rw [e2]
   have e3:=qvw h v (min v (n - v)) (by omega) (by omega)
   rw [w64 (by omega) (by omega)]
   have e4:(v:Int)+((min v (n - v):Nat):Int)=((v+min v (n - v):Nat):Int):=by omega
   rw [e4]
   refine ua (by omega) (ua (by omega) (ua (by omega) (ua (by omega) (ih _ _ (by omega) (by omega) (by omega) (by rw [e3.2,hl]) ?_))))
   rw [e3.1]
   intro y hy
   rcases wba.1 hy with q|q
   ·exact ha y q
   ·refine ha y ?_
    have:h.take (min v (n - v))=(h.take v).take (min v (n - v)):=by rw [List.take_take,Nat.min_eq_left (Nat.min_le_left _ _)]
    rw [this] at q
    exact List.mem_of_mem_take q
  ·rw [wN (by omega)] at ha
   exact ha
theorem qwD (x:Int) (n:Nat) (hn:n≤1048576):∀(m:Nat) (v:Nat) (h:List Int),n - v≤m→1≤v→v≤n→h.length=n→(∀y∈h.take v,y=x)→Tot (qic v h) fun r=>r.length=n∧∀y∈r,y=x:=by
 intro m
 induction m with
 |zero=>
  intro v h hm h1 h2 hl ha
  rw [qke]
  simp only [wj]
  refine uc (by omega) (ub ⟨hl,?_⟩)
  rw [wN (by omega)] at ha
  exact ha
 |succ m ih=>
  intro v h hm h1 h2 hl ha
  rw [qke]
  simp only [wj]
  refine ug (fun hlt=>?_) (fun hge=>ub ⟨hl,?_⟩)
  ·have e1:(v:Int).toNat=v:=wv v
   rw [e1,Nat.sub_zero,wca,wQ]
   have e2:min (wK v h).length (h.length - v)=min v (n - v):=by rw [wP];omega
   rw [e2]
   have e3:=qvw h v (min v (n - v)) (by omega) (by omega)
   rw [w64 (by omega) (by omega)]
   have e4:(v:Int)+((min v (n - v):Nat):Int)=((v+min v (n - v):Nat):Int):=by omega
   rw [e4]
   refine ua (by omega) (ua (by omega) (ua (by omega) (ua (by omega) (ih _ _ (by omega) (by omega) (by omega) (by rw [e3.2,hl]) ?_))))
   rw [e3.1]
   intro y hy
   rcases wba.1 hy with q|q
   ·exact ha y q
   ·refine ha y ?_
    have:h.take (min v (n - v))=(h.take v).take (min v (n - v)):=by rw [List.take_take,Nat.min_eq_left (Nat.min_le_left _ _)]
    rw [this] at q
    exact List.mem_of_mem_take q
  ·rw [wN (by omega)] at ha
   exact ha
theorem qyD (x:Int) {n:Nat} (hn:1≤n):(qKb (wo n 0) 0 (wK (min [x].length (wo n (0:Int)).length) [x])).length=n∧∀y∈(qKb (wo n 0) 0 (wK (min [x].length (wo n (0:Int)).length) [x])).take 1,y=x:=by
 have e:min [x].length (wo n (0:Int)).length=1:=by rw [wfa];show min 1 n=1;omega
 rw [e]
 have e3:wK 1 [x]=[x]:=rfl
 rw [e3]
 constructor
 ·unfold qKb
  simp
  omega
 ·unfold qKb
  simp
theorem qCK (x:Int) (n:Nat) (hn:(n:Int)∈([8,64,128,193,256,512,1024,2048,4096,8192]:List Int)):Tot (qwf [x] n) fun r=>r.length=n∧∀y∈r,y=x:=by
 have hm:=qdP n hn
 have hb:8≤n∧n≤8192:=by
  simp only [waa,List.not_mem_nil,or_false] at hn
  omega
 rw [qCm]
 have e1:(wi [x].length)=1:=rfl
 rw [e1]
 refine uc (by omega) (ue hm (uc (by simp only;omega) (uc (by simp only;omega) ?_)))
 simp only
 rw [w64 (x:=(n:Int)) (by omega) (by omega),wv]
 have hr:=qyD x (n:=n) (by omega)
 refine ua trivial (ua (by omega) (ua (by omega) (ua (by omega) ?_)))
 have e:wi (min [x].length (wo n (0:Int)).length)=((1:Nat):Int):=by rw [wfa];show ((min 1 n:Nat):Int)=1;omega
 rw [e]
 exact qvD x n (by omega) _ 1 _ (wt _) (by omega) (by omega) hr.1 hr.2
theorem qxD (x:Int) (n:Nat) (hn:(n:Int)∈([8,64,128,193,256,512,1024,2048,4096,8192]:List Int)):Tot (qBc [x] n) fun r=>r.length=n∧∀y∈r,y=x:=by
 have hm:=qdP n hn
 have hb:8≤n∧n≤8192:=by
  simp only [waa,List.not_mem_nil,or_false] at hn
  omega
 rw [qUj]
 have e1:(wi [x].length)=1:=rfl
 rw [e1]
 refine uc (by omega) (ue hm (uc (by simp only;omega) (uc (by simp only;omega) ?_)))
 simp only
 rw [w64 (x:=(n:Int)) (by omega) (by omega),wv]
 have hr:=qyD x (n:=n) (by omega)
 refine ua trivial (ua (by omega) (ua (by omega) (ua (by omega) ?_)))
 have e:wi (min [x].length (wo n (0:Int)).length)=((1:Nat):Int):=by rw [wfa];show ((min 1 n:Nat):Int)=1;omega
 rw [e]
 exact qwD x n (by omega) _ 1 _ (wt _) (by omega) (by omega) hr.1 hr.2
theorem qyP {l:Int} (h0:0≤l) (h1:l≤7):∃n:Nat,plR l=n∧(n:Int)∈([8,64,128,193,256,512,1024,2048,4096,8192]:List Int):=by
 rcases qmQ h0 h1 with rfl|rfl|rfl|rfl|rfl|rfl|rfl|rfl
 ·exact ⟨64,by decide⟩
 ·exact ⟨128,by decide⟩
 ·exact ⟨256,by decide⟩
 ·exact ⟨512,by decide⟩
 ·exact ⟨1024,by decide⟩
 ·exact ⟨2048,by decide⟩
 ·exact ⟨4096,by decide⟩
 ·exact ⟨8192,by decide⟩
theorem qWI {l:Int} (h0:0≤l) (h1:l≤7):Tot (qtB l) fun r=>r.2=0∧qxe l r.1∧r.1.2.2.1=0:=by
 have hp:=qPu h0 h1
 rw [qVw]
 refine uc (by omega) (uc (by omega) (ue (qos h0 h1) (ua rfl (ua (by omega) (ua (by omega) (ua (by omega) (ub ⟨rfl,⟨rfl,⟨h0,h1⟩,?_,?_,wVa 0,by show (0:Int)≤1073741824;decide,?_⟩,rfl⟩)))))))
 ·simp only [wfa];omega
 ·intro x hx;rw [List.eq_of_mem_replicate hx];omega
 ·intro x hx;exact List.eq_of_mem_replicate (List.mem_of_mem_drop hx)
theorem qCE {l:Int} (h0:0≤l) (h1:l≤7):Tot (qeu l) fun r=>qZp l r.1:=by
 obtain ⟨n,hn,hm⟩:=qyP h0 h1
 rw [qgC]
 refine uc (by omega) (uc (by omega) (ue (qpp h0 h1) ?_))
 rw [hn]
 exact Tot.b (qCK (-1) n hm) (fun r hr=>ub ⟨rfl,⟨h0,h1⟩,by simp only;rw [hr.1,hn],fun x hx=>by rw [hr.2 x hx];omega⟩)
theorem qHF {l:Int} (h0:0≤l) (h1:l≤7):Tot (qJw l) fun r=>qSn l r.1:=by
 have hp:=qmx h0 h1
 rw [qkD]
 refine uc (by omega) (uc (by omega) (ue (qEu h0 h1) (ua rfl (ua (by omega) (ua (by omega) (ua (by omega) (ub ⟨rfl,⟨h0,h1⟩,?_,?_⟩)))))))
 ·simp only [wfa];omega
 ·intro s hs;rw [List.eq_of_mem_replicate hs];exact WfSlot.zero 0
theorem qYG:Tot (qgz 255) fun r=>qyF r.1:=by
 rw [qpF,w32 (x:=255) (by decide) (by decide)]
 refine uc (by decide) (uc (by decide) (Tot.b (qxD 32768 193 (by decide)) (fun r hr=>ua rfl (ua (by decide) (ua (by decide) (ua (by decide) (ub ⟨rfl,⟨hr.1,?_⟩,wfa,?_⟩)))))))
 ·intro x hx;rw [hr.2 x hx];omega
 ·intro x hx;rw [List.eq_of_mem_replicate hx];omega
theorem qax (u u':Unit) (h9:List Int) (hr:qYv h9) (h11:List (List Int)):∀i:Int,0≤i→i≤256→∀h12:List (List Int),h12.length=i.toNat→(∀r∈h12,qYv r)→Tot (qHh 256 i u h9 u' h11 h12) fun r=>qpt r.1:=by
 intro i
 refine qgd (P:=fun i=>0≤i→i≤256→∀h12:List (List Int),h12.length=i.toNat→(∀r∈h12,qYv r)→Tot (qHh 256 i u h9 u' h11 h12) fun r=>qpt r.1) 256 ?_ ?_ i
 ·intro i hi h0 h1 h12 hl ha
  rw [qXn]
  exact uc (by omega) (ub ⟨by simp only;omega,ha⟩)
 ·intro i hi ih h0 h1 h12 hl ha
  rw [qXn,w64 (x:=i+1) (by omega) (by omega)]
  exact uf (by omega) (ue (qcb _ (by rw [hr.1];decide)) (ua (by rw [wm,wC];omega) (ih (by omega) (by omega) _ (by rw [wm,wC];omega) (qLj ha hr))))
theorem qbx (u:Unit) (h10:List (List Int)):∀i:Int,0≤i→i≤33→∀h9:List Int,h9.length=i.toNat→(∀x∈h9,0≤x∧x≤65535)→Tot (qIh 256 i u h9 h10) fun r=>qpt r.1:=by
 intro i
 refine qgd (P:=fun i=>0≤i→i≤33→∀h9:List Int,h9.length=i.toNat→(∀x∈h9,0≤x∧x≤65535)→Tot (qIh 256 i u h9 h10) fun r=>qpt r.1) 33 ?_ ?_ i
 ·intro i hi h0 h1 h9 hl ha
  rw [qYn]
  exact uc (by omega) (qax u () h9 ⟨by omega,ha⟩ h10 0 (by omega) (by omega) [] rfl (fun r hr=>by cases hr))
 ·intro i hi ih h0 h1 h9 hl ha
  rw [qYn,w32 (x:=i+1) (by omega) (by omega)]
  refine uf (by omega) (Tot.b (qnB _) (fun r hr=>ua (by rw [wm,wC];omega) ?_))
  rw [w32 (x:=16*r) (by omega) (by omega)]
  exact ih (by omega) (by omega) _ (by rw [wm,wC];omega) (qLj ha ⟨by omega,by omega⟩)
theorem qMu:Tot (qDt 256) fun r=>qpt r.1:=by
 rw [qvB]
 exact uc (by decide) (uc (by decide) (qbx () [] 0 (by decide) (by decide) [] rfl (fun x hx=>by cases hx)))
theorem qvG:Tot qwy qZC:=by
 rw [qDE]
 exact Tot.b qMu (fun r hr=>Tot.b qMu (fun q hq=>ub ⟨hr,hq⟩))
theorem qGz (u u':Unit) (h10:List (List Int)):∀i:Int,0≤i→i≤256→∀h11:List (List Int),h11.length=i.toNat→(∀r∈h11,r.length=8)→Tot (qqj 16384 256 i u u' h10 h11) fun r=>qZr r.1:=by
 intro i
 refine qgd (P:=fun i=>0≤i→i≤256→∀h11:List (List Int),h11.length=i.toNat→(∀r∈h11,r.length=8)→Tot (qqj 16384 256 i u u' h10 h11) fun r=>qZr r.1) 256 ?_ ?_ i
 ·intro i hi h0 h1 h11 hl ha
  rw [qYo]
  exact uc (by omega) (ub ⟨by simp only;omega,ha⟩)
 ·intro i hi ih h0 h1 h11 hl ha
  rw [qYo,w64 (x:=i+1) (by omega) (by omega),qxr]
  refine uf (by omega) (Tot.b (Tot.b (qxD 16384 8 (by decide)) (fun r hr=>ub hr)) (fun r hr=>ua (by rw [wm,wC];omega) (ih (by omega) (by omega) _ (by rw [wm,wC];omega) (qLj ha hr.1))))
theorem qgG:Tot (qFx 256 16384) fun r=>qZr r.1:=by
 rw [qaE]
 exact uc (by decide) (uc (by decide) (qGz () () [] 0 (by decide) (by decide) [] rfl (fun x hx=>by cases hx)))
theorem qiO {l:Int} (hl0:0≤l) (hl1:l≤7) (b8a b8baa:Int) (b8babb:qxa) (u1 u2 u3 u4:Unit) (b8bbbbbbaa:Int) (u5:Unit) (b8bbbbbbb:(qbc×(qxa×((List Int)×((List Int)×Unit)))))
  (g:qdb) (b:qbP) (hg:qxe l g∧g.2.2.1=0) (hb:qyI l b) (h11:List Int) (h12:List qta) (h13:List qra) (h14 h15 h16:List (List Int)) (h17:List Int):∀i:Int,0≤i→i≤6→∀(h18:List qta) (h19:List qra),(h18.length=i.toNat∧∀t∈h18,qSn l t)→(h19.length=i.toNat∧∀t∈h19,qyF t)→
  Tot (qqg l i b8a b8baa b8babb u1 u2 u3 u4 b8bbbbbbaa u5 b8bbbbbbb g l g b h11 h12 h13 h14 h15 h16 h17 h18 h19) (qcQ l 0):=by
 intro i
 refine qgd (P:=fun i=>0≤i→i≤6→∀(h18:List qta) (h19:List qra),(h18.length=i.toNat∧∀t∈h18,qSn l t)→(h19.length=i.toNat∧∀t∈h19,qyF t)→Tot (qqg l i b8a b8baa b8babb u1 u2 u3 u4 b8bbbbbbaa u5 b8bbbbbbb g l g b h11 h12 h13 h14 h15 h16 h17 h18 h19) (qcQ l 0)) 6 ?_ ?_ i
 ·intro i hi h0 h1 h18 h19 t a
  rw [qGm]
  have e6:i.toNat=6:=by omega
  rw [e6] at t a
  obtain ⟨q,e,hq⟩:=qbv hg.1
  refine uc (by omega) (ue e ?_)
  refine Tot.b (qNL q.1 l g h19 (b.1,(b.2.1,(b.2.2.1,(b.2.2.2.1,(b.2.2.2.2.1,(q.1,b.2.2.2.2.2.2)))))) h18 t hb.2.2.2.2.2) (fun r12 k12=>ub ⟨rfl,?_⟩)
  exact qhC k12 ⟨hg.1,by rw [hg.2];decide⟩ a ⟨hb.1,hb.2.1,hb.2.2.1,hb.2.2.2.1,hb.2.2.2.2.1⟩ (by rw [e];exact congrArg some (Prod.ext rfl hq))
 ·intro i hi ih h0 h1 h18 h19 t a
  rw [qGm,w64 (x:=i+1) (by omega) (by omega)]
  refine uf (by omega) (Tot.b (qHF hl0 hl1) (fun r7 k7=>Tot.b qYG (fun r8 k8=>ua ?_ (ua ?_ ?_))))
  ·rw [wm,wC];omega
  ·rw [wm,wC];omega
  ·exact ih (by omega) (by omega) _ _ ⟨by rw [wm,wC];omega,qLj t.2 k7⟩ ⟨by rw [wm,wC];omega,qLj a.2 k8⟩
theorem qlR (l:Int):Tot (qrr l) fun r=>r.2=0→WfP l 0 r.1:=by
 rw [qyz]
 by_cases hl:0≤l∧l≤7
 ·obtain ⟨hl0,hl1⟩:=hl
  refine Tot.b (qWI hl0 hl1) (fun r1 k1=>ud k1.1 (Tot.b qvG (fun r2 k2=>ue qep (ue qzs (Tot.b (qCE hl0 hl1) (fun r5 k5=>Tot.b qgG (fun r6 k6=>?_)))))))
  refine Tot.mono (qiO hl0 hl1 _ _ _ _ _ _ _ _ _ _ r1.1 (r6.1,(r2,(r5.1,((-1,(0,())),((1,()),((wo 6 0),((wo 6 0),()))))))) k1.2 ⟨k6,k2,k5,Or.inl ⟨rfl,rfl⟩,⟨wVa 1,by show (1:Int)≤255;decide⟩,WfSl.zero ⟨hl0,hl1⟩⟩ _ _ _ _ _ _ _ 0 (by omega) (by omega) [] [] ⟨rfl,fun x hx=>by cases hx⟩ ⟨rfl,fun x hx=>by cases hx⟩) (fun r hr _=>hr.2)
 ·refine Tot.b (P:=fun r=>r.2≠0) ?_ (fun r hr=>uA hr (ub (fun h=>absurd h (by decide))))
  rw [qVw]
  by_cases h0:l<0
  ·exact uf h0 (ub (by decide))
  ·exact uc h0 (uf (by omega) (ub (by decide)))
def WfEnc (e:qBa):Prop:=(0≤e.1∧e.1<4294967296)∧(0≤e.2.1∧e.2.1<4294967296)∧Bts e.2.2.1
theorem qwN {y:Int} (h0:0≤y) (h1:y<4294967296) (hm:y%256=0):qlc .u32 y 255=y+255:=by
 have e:qlc .u32 y 255=((wG 32 y ||| wG 32 255).toNat:Int):=by
  show wd .u32 ((wG 32 y ||| wG 32 255).toNat:Int)=_
  rw [qkz]
  have:=(wG 32 y ||| wG 32 255).isLt
  omega
 rw [e,BitVec.toNat_or,qae 32 y h0 (by omega),qae 32 255 (by omega) (by omega)]
 have h2:y.toNat=2 ^ 8*(y.toNat/256):=by omega
 have h3:(255:Int).toNat=255:=rfl
 rw [h3,h2,←Nat.two_pow_add_eq_or_of_lt (by decide:255<2 ^ 8)]
 omega
theorem qup (e:qBa):Tot (qdk e) fun r=>r=0→(e.2.2.1.length:Int)≤20000:=by
 rw [qNv]
 simp only [wj]
 exact ug (fun _=>ub (fun k=>absurd k (by decide))) (fun _=>ua (by decide) (ua (by decide) (uk (fun _=>ub (fun k=>absurd k (by decide))) (fun _=>ug (fun _=>ub (fun k=>absurd k (by decide))) (fun k=>ub (fun _=>by omega))))))
theorem qcA (a:Int):Tot (qzj a) fun _=>True:=by
 rw [qtp]
 exact ug (fun _=>ub trivial) (fun _=>ub trivial)
theorem qzy (a b c:Int):Tot (qTh a b c) fun r=>0≤r∧r<4294967296:=by
 rw [qjo]
 exact ua (by decide) (ua (by decide) (ub (qmO _)))
theorem qzH (u:Unit):∀(k m:Nat),k+m=4→∀(a b:Int) (h:List Int),0≤a→a<4294967296→0≤b→b<4294967296→a%256 ^ k=0→b%256 ^ k=256 ^ k - 1→h.length≤20001+k→Bts h→
  Tot (qse a b u h) WfEnc:=by
 intro k m
 induction m generalizing k with
 |zero=>
  intro hk a b h a0 a1 b0 b1 ha hb hl hB
  have e:k=4:=by omega
  subst e
  have e4:(256:Int) ^ 4=4294967296:=by decide
  rw [e4] at ha hb
  have ea:a=0:=by omega
  have eb:b=4294967295:=by omega
  subst ea eb
  rw [qRj]
  exact ua (by decide) (ua (by decide) (uy (by decide) (ub ⟨⟨by simp only;omega,by simp only;omega⟩,⟨by simp only;omega,by simp only;omega⟩,hB⟩)))
 |succ m ih=>
  intro hk a b h a0 a1 b0 b1 ha hb hl hB
  have wa:wd .u32 (a*256)=a*256%4294967296:=qkz _
  have wb:wd .u32 (b*256)=b*256%4294967296:=qkz _
  have ho:qlc .u32 (b*256%4294967296) 255=b*256%4294967296+255:=qwN (by omega) (by omega) (by omega)
  rw [qRj,wa,wb,ho]
  refine ua (by decide) (ua (by decide) (uk (fun _=>?_) (fun _=>ub ⟨⟨a0,a1⟩,⟨b0,b1⟩,hB⟩)))
  refine ua (by decide) (ua (by rw [wm,wC];omega) (ua (by decide) (ua (by decide) ?_)))
  refine ih (k+1) (by omega) _ _ _ (by omega) (by omega) (by omega) (by omega) ?_ ?_ (by rw [wm,wC];omega) (Bts.append hB (Bts.cons (qfv _) Bts.nil))
  ·have h4:k=0∨k=1∨k=2∨k=3:=by omega
   rcases h4 with rfl|rfl|rfl|rfl
   ·have e1:(256:Int) ^ (0+1)=256:=by decide
    rw [e1];omega
   ·have e0:(256:Int) ^ 1=256:=by decide
    have e1:(256:Int) ^ (1+1)=65536:=by decide
    rw [e0] at ha;rw [e1];omega
   ·have e0:(256:Int) ^ 2=65536:=by decide
    have e1:(256:Int) ^ (2+1)=16777216:=by decide
    rw [e0] at ha;rw [e1];omega
   ·have e0:(256:Int) ^ 3=16777216:=by decide
    have e1:(256:Int) ^ (3+1)=4294967296:=by decide
    rw [e0] at ha;rw [e1];omega
  ·have h4:k=0∨k=1∨k=2∨k=3:=by omega
   rcases h4 with rfl|rfl|rfl|rfl
   ·have e1:(256:Int) ^ (0+1)=256:=by decide
    rw [e1];omega
   ·have e0:(256:Int) ^ 1=256:=by decide
    have e1:(256:Int) ^ (1+1)=65536:=by decide
    rw [e0] at hb;rw [e1];omega
   ·have e0:(256:Int) ^ 2=65536:=by decide
    have e1:(256:Int) ^ (2+1)=16777216:=by decide
    rw [e0] at hb;rw [e1];omega
   ·have e0:(256:Int) ^ 3=16777216:=by decide
    have e1:(256:Int) ^ (3+1)=4294967296:=by decide
    rw [e0] at hb;rw [e1];omega
theorem qnN (p:Int) (t:Bool) (a b:Int) (u:Unit) (h:List Int) (a0:0≤a) (a1:a<4294967296) (b0:0≤b) (b1:b<4294967296) (hl:h.length≤20000) (hB:Bts h):Tot (qpm p t a b u h) WfEnc:=by
 rw [qku]
 have p0:(256:Int) ^ 0=1:=by decide
 refine Tot.b (qzy a b p) (fun r hr=>uj (fun _=>?_) (fun _=>?_))
 ·refine ua (by decide) (ua (by decide) (uk (fun _=>?_) (fun _=>ub ⟨⟨a0,a1⟩,hr,hB⟩)))
  have wa:wd .u32 (a*256)=a*256%4294967296:=qkz _
  have wb:wd .u32 (r*256)=r*256%4294967296:=qkz _
  have ho:qlc .u32 (r*256%4294967296) 255=r*256%4294967296+255:=qwN (by omega) (by omega) (by omega)
  rw [wa,wb,ho]
  refine ua (by decide) (ua (by rw [wm,wC];omega) (ua (by decide) (ua (by decide) ?_)))
  refine qzH u 0 4 rfl _ _ _ (by omega) (by omega) (by omega) (by omega) ?_ ?_ (by rw [wm,wC];omega) (Bts.append hB (Bts.cons (qfv _) Bts.nil))
  ·rw [p0];omega
  ·rw [p0];omega
 ·have hq:=qmO (r+1)
  generalize wd .u32 (r+1)=q at*
  refine ua (by decide) (ua (by decide) (uk (fun _=>?_) (fun _=>ub ⟨hq,⟨b0,b1⟩,hB⟩)))
  have wa:wd .u32 (q*256)=q*256%4294967296:=qkz _
  have wb:wd .u32 (b*256)=b*256%4294967296:=qkz _
  have ho:qlc .u32 (b*256%4294967296) 255=b*256%4294967296+255:=qwN (by omega) (by omega) (by omega)
  rw [wa,wb,ho]
  refine ua (by decide) (ua (by rw [wm,wC];omega) (ua (by decide) (ua (by decide) ?_)))
  refine qzH u 0 4 rfl _ _ _ (by omega) (by omega) (by omega) (by omega) ?_ ?_ (by rw [wm,wC];omega) (Bts.append hB (Bts.cons (qfv _) Bts.nil))
  ·rw [p0];omega
  ·rw [p0];omega
theorem WfEnc.zero:WfEnc (0,(0,([],()))):=⟨⟨by decide,by decide⟩,⟨by decide,by decide⟩,Bts.nil⟩
theorem qsC {e:qBa} (h:WfEnc e) (p:Int) (t:Bool):Tot (qKr e p t) fun r=>WfEnc r.1:=by
 rw [qeA]
 refine Tot.b (qup e) (fun c hc=>uh (fun _=>ub WfEnc.zero) (fun k=>Tot.b (qcA p) (fun z _=>um (fun _=>ub WfEnc.zero) (fun _=>?_))))
 have hl:=hc k
 refine ue (qdc _ (by omega)) (Tot.b (qnN p t _ _ _ _ h.1.1 h.1.2 h.2.1.1 h.2.1.2 (by omega) h.2.2) (fun r hr=>ug (fun _=>ub WfEnc.zero) (fun _=>ub hr)))
theorem qtC {e:qBa} (h:WfEnc e):Tot (qLr e) fun r=>Bts r.1∧(r.2=0→4≤r.1.length∧r.1.length≤20000):=by
 rw [qgA]
 simp only [wj]
 refine Tot.b (qup e) (fun c hc=>uh (fun k=>ub ⟨Bts.nil,fun q=>absurd q k⟩) (fun k=>ug (fun _=>ub ⟨Bts.nil,fun q=>absurd q (by decide)⟩) (fun k2=>?_)))
 refine Tot.b (P:=fun r=>Bts r∧4≤r.length∧r.length≤20000) ?_ (fun r hr=>ub ⟨hr.1,fun _=>hr.2⟩)
 rw [qdA]
 have hL:∀a b c d:Int,(e.2.2.1++[a,b,c,d]).length=e.2.2.1.length+4:=fun a b c d=>by rw [wm];rfl
 refine ue (qdc _ (by omega)) (ua (by decide) (ua (by decide) (ua (by decide) (ua (by rw [hL];omega) (ub ⟨?_,by rw [hL];omega,by rw [hL];omega⟩)))))
 exact Bts.append h.2.2 (Bts.cons (qfv _) (Bts.cons (qfv _) (Bts.cons (qfv _) (Bts.cons (qfv _) Bts.nil))))
theorem qYJ (a:Int) (t:Bool) (e:Int) {c:qBa} (h:WfEnc c):Tot (qum a t e c) fun r=>WfEnc r.2:=by
 rw [qru]
 exact uj (fun _=>Tot.b (qsC h a t) (fun r hr=>ub hr)) (fun _=>ub h)
theorem qGG (v:List Bool) (hv:v.length≤2000) (b0 b8:qja) (h9:List Int) (hl:h9.length=v.length):∀i:Int,0≤i→∀(e:Int) (c:qBa),WfEnc c→
  Tot (qOf v v.length i b0 v e c b8 h9) fun r=>r.1=b8∧r.2.1=[]∧WfEnc r.2.2.2.2:=by
 intro i
 refine qgd (P:=fun i=>0≤i→∀(e:Int) (c:qBa),WfEnc c→Tot (qOf v v.length i b0 v e c b8 h9) fun r=>r.1=b8∧r.2.1=[]∧WfEnc r.2.2.2.2) v.length ?_ ?_ i
 ·intro i hi h0 e c hc
  rw [qQl]
  exact uc (by omega) (ub ⟨rfl,rfl,hc⟩)
 ·intro i hi ih h0 e c hc
  rw [qQl]
  simp only [wj]
  rw [w64 (x:=i+1) (by omega) (by omega)]
  exact uf (by omega) (ua h0 (ua (by omega) (ua h0 (ua (by omega) (Tot.b (qYJ _ _ e hc) (fun r hr=>ih (by omega) _ _ hr))))))
theorem qmI {l N:Int} {p:qja} (h:WfP l N p) (v:List Bool) (hv:v.length≤2000) (hN:N+v.length<1073741824) (e:Int) {c:qBa} (hc:WfEnc c):
  Tot (qeh p v e c) fun r=>WfP l (N+v.length) r.1∧r.2.1=[]∧WfEnc r.2.2.2.2:=by
 rw [qSy]
 refine Tot.b (qWR h v hv hN) (fun r hr=>?_)
 exact Tot.mono (qGG v hv p r.1 r.2.1 hr.2.2 0 (by omega) e c hc) (fun q hq=>⟨by rw [hq.1];exact hr.2.1,hq.2⟩)
def WfS (l M:Int) (s:qMl):Prop:=(∃N,WfP l N s.1∧0≤N∧N+s.2.1.length≤M)∧s.2.1.length<2000∧WfEnc s.2.2.2
theorem qCG {l M:Int} {s:qMl} (h:WfS l M s) (hM:M<1073741000) (b:Bool):Tot (qUh s b) (WfS l (M+1)):=by
 obtain ⟨⟨N,h1,h2,h3⟩,h4,h5⟩:=h
 unfold qUh
 have hL:(s.2.1++[b]).length=s.2.1.length+1:=by rw [wm,wC]
 refine ua (by rw [hL];omega) (uk (fun k=>?_) (fun k=>?_))
 ·refine Tot.b (qmI h1 (s.2.1++[b]) (by rw [hL];omega) (by rw [hL];omega) s.2.2.1 h5) (fun r hr=>ub ⟨⟨N+((s.2.1++[b]).length:Int),hr.1,by omega,?_⟩,?_,hr.2.2⟩)
  ·simp only;rw [hr.2.1,hL];simp only [wT];omega
  ·simp only;rw [hr.2.1];decide
 ·refine ub ⟨⟨N,h1,h2,?_⟩,?_,h5⟩
  ·simp only;rw [hL];omega
  ·simp only;rw [hL]
   have e:wi (s.2.1++[b]).length=((s.2.1++[b]).length:Int):=rfl
   rw [e,hL] at k
   omega
theorem qlu {l:Int}:∀(v:List Bool) (M:Int) (s:qMl),WfS l M s→M+v.length<1073741000→Tot (qgj v s) (WfS l (M+v.length))
 |[],M,s,h,hM=>ub (by simpa using h)
 |b::v,M,s,h,hM=>by
  unfold qgj
  simp only [wB] at*
  refine Tot.b (qCG h (by omega) b) (fun t ht=>Tot.mono (qlu v (M+1) t ht (by omega)) (fun r hr=>?_))
  have e:M+1+(v.length:Int)=M+((v.length+1:Nat):Int):=by omega
  rw [e] at hr
  exact hr
theorem qaF {l:Int} {p:qja} (h:WfP l 0 p) (b:List Int) (hb:b.length≤4096) (e:Int) {c:qBa} (hc:WfEnc c):Tot (qmk p b e c) fun r=>WfEnc r.2:=by
 have h0:WfS l 0 (p,[],e,c):=⟨⟨0,h,wVa 0,by show (0:Int)+0≤0;decide⟩,by show 0<2000;decide,hc⟩
 unfold qmk
 refine ua (by omega) (ua (fun l' hl'=>?_) ?_)
 ·obtain ⟨r,e1,_⟩:=qlu l' 0 (p,[],e,c) h0 (by omega)
  rw [e1];rfl
 ·have hL:=qZy b
  refine Tot.b (qlu (qVv b) 0 (p,[],e,c) h0 (by omega)) (fun s hs=>?_)
  obtain ⟨⟨N,h1,h2,h3⟩,h4,h5⟩:=hs
  exact Tot.b (qmI h1 s.2.1 (by omega) (by omega) s.2.2.1 h5) (fun r hr=>ub hr.2.2)
theorem qrA (l:Int) (b:List Int):Tot (qAp l b) fun r=>Bts r.1∧(r.2=0→4≤r.1.length∧r.1.length≤20000):=by
 rw [qTy]
 simp only [wj]
 refine Tot.b (P:=fun r=>r.2=0→WfP l 0 r.1∧b.length≤4096) ?_ (fun r hr=>uh (fun k=>ub ⟨Bts.nil,fun q=>absurd q k⟩) (fun k=>?_))
 ·rw [qcr]
  refine Tot.b (qlR l) (fun r hr=>uk (fun k=>ug (fun _=>ub (fun q=>absurd q (by show ¬((4:Int)=0);decide))) (fun k2=>ub (fun _=>⟨hr k,by omega⟩))) (fun k=>ub (fun q=>absurd q k)))
 ·have hp:=hr k
  refine ue qfA (Tot.b (qaF hp.1 b hp.2 _ ⟨⟨by decide,by decide⟩,⟨by decide,by decide⟩,Bts.nil⟩) (fun q hq=>uh (fun _=>ub ⟨Bts.nil,fun q=>absurd q (by decide)⟩) (fun _=>Tot.b (qtC hq) (fun t ht=>ub ht))))
def Shp4 (k:Nat) (a b:Int):Prop:=(0≤a∧a≤b∧b<4294967296)∧((k=4)∨(k=3∧a%256=0∧b%256=255)∨(k=2∧a%65536=0∧b%65536=65535)∨(k=1∧a%16777216=0∧b%16777216=16777215)∨(k=0∧a=0∧b=4294967295))
theorem Shp4.step {k:Nat} {a b:Int} (h:Shp4 (k+1) a b) (e:a/16777216=b/16777216):Shp4 k (a*256%4294967296) (b*256%4294967296+255):=by
 obtain ⟨⟨h1,h2,h3⟩,h4⟩:=h
 refine ⟨⟨by omega,by omega,by omega⟩,?_⟩
 rcases h4 with h|⟨h,ha,hb⟩|⟨h,ha,hb⟩|⟨h,ha,hb⟩|⟨h,_⟩
 ·exact Or.inr (Or.inl ⟨by omega,by omega,by omega⟩)
 ·exact Or.inr (Or.inr (Or.inl ⟨by omega,by omega,by omega⟩))
 ·exact Or.inr (Or.inr (Or.inr (Or.inl ⟨by omega,by omega,by omega⟩)))
 ·exact Or.inr (Or.inr (Or.inr (Or.inr ⟨by omega,by omega,by omega⟩)))
 ·omega
def qlO (a b:Int):Prop:=0≤a∧a<b∧b<4294967296∧a/16777216≠b/16777216
def at4 (c:List Int) (i:Nat):Int:=c.getD i 0*16777216+c.getD (i+1) 0*65536+c.getD (i+2) 0*256+c.getD (i+3) 0
theorem qai {xs:List Int} (h:Bts xs) (i:Nat):0≤xs.getD i 0∧xs.getD i 0<256:=
 qmy (P:=fun x=>0≤x∧x<256) h (by omega) i
theorem qXN {c:List Int} (h:Bts c) (i:Nat):at4 c i*256%4294967296+c.getD (i+4) 0=at4 c (i+1)∧at4 c i=c.getD i 0*16777216+at4 c (i+1)/256∧0≤at4 c i∧at4 c i<4294967296:=by
 have h0:=qai h i
 have h1:=qai h (i+1)
 have h2:=qai h (i+2)
 have h3:=qai h (i+3)
 have h4:=qai h (i+4)
 have e:at4 c (i+1)=c.getD (i+1) 0*16777216+c.getD (i+2) 0*65536+c.getD (i+3) 0*256+c.getD (i+4) 0:=rfl
 rw [e]
 unfold at4
 omega
def spl (a b p:Int):Int:=a+(b - a)/4096*p+(b - a)%4096*p/4096
theorem qhR {x:Int} (h0:0≤x) (h1:x<4294967296):qeb .u32 x 4095=x%4096:=by
 have e:qeb .u32 x 4095=((wG 32 x &&& wG 32 4095).toNat:Int):=by
  show wd .u32 ((wG 32 x &&& wG 32 4095).toNat:Int)=_
  rw [qkz]
  have:=(wG 32 x &&& wG 32 4095).isLt
  omega
 rw [e,BitVec.toNat_and,qae 32 x h0 (by omega),qae 32 4095 (by omega) (by omega)]
 have h3:(4095:Int).toNat=2 ^ 12 - 1:=rfl
 rw [h3,Nat.and_two_pow_sub_one_eq_mod]
 omega
theorem qqK {a b p:Int} (h:qlO a b) (hp0:0≤p) (hp1:p≤4095):a≤spl a b p∧spl a b p<b∧0≤(b - a)/4096*p∧(b - a)/4096*p<4294967296∧0≤(b - a)%4096*p∧(b - a)%4096*p<4294967296:=by
 obtain ⟨h1,h2,h3,h4⟩:=h
 unfold spl
 have q0:0≤(b - a)/4096:=by omega
 have r0:0≤(b - a)%4096∧(b - a)%4096<4096:=by omega
 have hd:(b - a)=(b - a)/4096*4096+(b - a)%4096:=by omega
 have m1:(b - a)/4096*p≤(b - a)/4096*4095:=Int.mul_le_mul_of_nonneg_left hp1 q0
 have m2:0≤(b - a)/4096*p:=Int.mul_nonneg q0 hp0
 have m3:(b - a)%4096*p≤(b - a)%4096*4095:=Int.mul_le_mul_of_nonneg_left hp1 r0.1
 have m4:0≤(b - a)%4096*p:=Int.mul_nonneg r0.1 hp0
 generalize (b - a)/4096*p=z at*
 generalize (b - a)%4096*p=y at*
 generalize (b - a)/4096=q at*
 generalize (b - a)%4096=r at*
 refine ⟨by omega,by omega,m2,by omega,m4,by omega⟩
theorem qNI {a b p:Int} (h:qlO a b) (hp0:0≤p) (hp1:p≤4095):qTh a b p=some (spl a b p):=by
 have hs:=qqK h hp0 hp1
 obtain ⟨h1,h2,h3,h4⟩:=h
 rw [qjo,qda (by decide),qda (by decide)]
 simp only [qkz,qIg _ (show (0:Int)<4096 by decide)]
 have e1:(b - a)%4294967296=b - a:=by omega
 have e2:p%4294967296=p:=by omega
 rw [e1,e2,qhR (by omega) (by omega)]
 unfold spl at*
 generalize (b - a)/4096*p=z at*
 generalize (b - a)%4096*p=y at*
 have e3:z%4294967296=z:=by omega
 have e4:y%4294967296=y:=by omega
 rw [e3,e4]
 have e5:(a+z)%4294967296=a+z:=by omega
 rw [e5]
 exact congrArg some (by omega)
def quR (t:Bool) (a b p:Int):Int:=if t=true then a else spl a b p+1
def qsR (t:Bool) (a b p:Int):Int:=if t=true then spl a b p else b
theorem qCM {t:Bool} {a b p:Int} (h:qlO a b) (hp0:0≤p) (hp1:p≤4095):Shp4 4 (quR t a b p) (qsR t a b p):=by
 have hs:=qqK h hp0 hp1
 obtain ⟨h1,h2,h3,h4⟩:=h
 refine ⟨?_,Or.inl rfl⟩
 unfold quR qsR
 cases t
 ·rw [if_neg (by decide),if_neg (by decide)];omega
 ·rw [if_pos rfl,if_pos rfl];omega
theorem qEE {f:qUa} (h:qZC f) {a b st p:Int} (ha:0≤a∧a≤255) (hb:0≤b∧b≤255) (hs:-2047≤st∧st≤2047) (hp:0≤p∧p≤4095):Tot (qkq f [a,b] st p) fun r=>qvR r.2.1∧1≤r.1∧r.1≤4095:=by
 rw [qTs]
 have e0:([a,b]:List Int).getD 0 0=a:=rfl
 have e1:([a,b]:List Int).getD 1 0=b:=rfl
 rw [e0,e1]
 refine ue (qbk h) (ud rfl (ua (by decide) (ua (by decide) (Tot.b (qVj h.1 ha.1 ha.2 hs.1 hs.2) (fun r hr=>ua (by decide) (ua (by decide) (Tot.b (qVj h.2 hb.1 hb.2 hs.1 hs.2) (fun q hq=>ud hr.1 (ud hq.1 (Tot.b (qXu p) (fun t ht=>um (fun k=>?_) (fun _=>?_))))))))))))
 ·rw [ht hp.1 hp.2] at k;exact absurd k (by decide)
 ·refine Tot.b (P:=fun z=>1≤z∧z≤4095) ?_ (fun z hz=>ub ⟨⟨a,b,r.2.1,q.2.1,rfl,rfl,ha.1,ha.2,hb.1,hb.2,hr.2.1,hr.2.2,hq.2.1,hq.2.2⟩,hz⟩)
  rw [qSs]
  refine ua (by decide) (ua (by decide) (ua (by decide) (ub ?_)))
  split <;> split at*<;> omega
theorem qeN {l N:Int} {p:qja} (h:WfP l N p) (b9a:Int) (b9 b10:(Int×(Int×(qrc×Unit)))) {nd:Int} (hn:1≤nd∧nd≤15) (h11 h12:List Int):∀i:Int,0≤i→i≤6→∀(h13 h14:List Int),(h13.length=i.toNat∧∀x∈h13,0≤x∧x≤192)→(h14.length=i.toNat∧∀x∈h14,-2047≤x∧x≤2047)→
  Tot (qYd p.2.2.1 6 i p b9a b9 nd b10 h11 h12 h13 h14) fun s=>qev s∧1≤s.2.2.2.2.1∧s.2.2.2.2.1≤4095:=by
 obtain ⟨h1,h2,h3,h4,h5,h6⟩:=h
 have hl3:=h3.1
 have hl4:=h4.1
 have hw:=h5.2.2.2.2.1
 intro i
 refine qgd (P:=fun i=>0≤i→i≤6→∀(h13 h14:List Int),(h13.length=i.toNat∧∀x∈h13,0≤x∧x≤192)→(h14.length=i.toNat∧∀x∈h14,-2047≤x∧x≤2047)→Tot (qYd p.2.2.1 6 i p b9a b9 nd b10 h11 h12 h13 h14) fun s=>qev s∧1≤s.2.2.2.2.1∧s.2.2.2.2.1≤4095) 6 ?_ ?_ i
 ·intro i hi h0 h06 h13 h14 k13 k14
  rw [qUf]
  have e6:i.toNat=6:=by omega
  rw [e6] at k13 k14
  refine uc (by omega) (Tot.b (qLs h5.2.2.2.1 h2.1 hw) (fun m hm=>?_))
  have hL:(h14++[m.1,256]).length=8:=by rw [wm,k14.1];rfl
  have hA:∀x∈h14++[m.1,256],-2047≤x∧x≤2047:=by
   intro x hx
   rcases wba.1 hx with q|q
   ·exact k14.2 x q
   ·rcases waa.1 q with rfl|q
    ·exact hm
    ·rw [wV.1 q];omega
  refine ua (by rw [hL];decide) (Tot.b (qGx h5.1 (by have:=hw.1;omega) hw.2 hL hA) (fun x hx=>Tot.b (qmo h2.1) (fun y _=>Tot.b (qYu _ _ hw.1 hw.2) (fun z hz=>?_))))
  obtain ⟨c,hz1,hz2⟩:=hz
  rw [hz1]
  exact Tot.b (qEE h5.2.1 ⟨by have:=hw.1;omega,hw.2⟩ hz2 ⟨hx.1,hx.2.1⟩ ⟨hx.2.2.1,hx.2.2.2⟩) (fun t ht=>ub ⟨⟨hn,k13,⟨hL,hA⟩,⟨hx.2.2.1,hx.2.2.2⟩,ht.1⟩,ht.2⟩)
 ·intro i hi ih h0 h06 h13 h14 k13 k14
  rw [qUf]
  simp only [wj]
  have hd:=qOa (P:=qSn l) (d:=qqa qEa) h3.2 i.toNat (by omega)
  have ha:=qOa (P:=qyF) (d:=qqa qDa) h4.2 i.toNat (by omega)
  have hs:=h5.2.2.2.2.2.at hd.2.1 i.toNat
  rw [w64 (x:=i+1) (by omega) (by omega)]
  refine uf (by omega) (ua h0 (ua (by omega) (ua h0 (ua (by omega) (Tot.b (qkr hd hs.1 hs.2 hn.1 hn.2) (fun r hr=>ua h0 (ua (by omega) (Tot.b (qoF ha hr.2.1 hr.2.2) (fun q hq=>ua ?_ (ua (by decide) (Tot.b (qgD _) (fun s hs'=>ua ?_ ?_))))))))))))
  ·rw [wm,wC];omega
  ·rw [wm,wC];omega
  ·exact ih (by omega) (by omega) _ _ ⟨by rw [wm,wC];omega,qLj k13.2 hr.2⟩ ⟨by rw [wm,wC];omega,qLj k14.2 hs'⟩
theorem qkP {l N:Int} {p:qja} (h:WfP l N p):Tot (qCi p) fun s=>qev s∧1≤s.2.2.2.2.1∧s.2.2.2.2.1≤4095:=by
 rw [qJq]
 have e:wi p.2.2.1.length=6:=by rw [h.2.2.1.1];rfl
 rw [e]
 exact Tot.b (qys h.2.2.2.2.1.2.2.2.2.1) (fun r hr=>qeN h _ _ _ hr _ _ 0 (by omega) (by omega) [] [] ⟨rfl,fun x hx=>by cases hx⟩ ⟨rfl,fun x hx=>by cases hx⟩)
def qhO (p:qja) (b:Bool) (q:qja) (P:Int):Prop:=∃s,qCi p=some s∧P=wd .i64 s.2.2.2.2.1∧qWi p s b=some (q,0)
def qwR:List Bool→qja→qja→List Int→Prop
 |[],p,q,Ps=>q=p∧Ps=[]
 |b::bs,p,q,Ps=>∃p1 P Ps',qhO p b p1 P∧qwR bs p1 q Ps'∧Ps=P::Ps'
theorem qgO {l N:Int} {p:qja} (h:WfP l N p) (hN:N<1073741824) (b:Bool):∃q P,qhO p b q P:=by
 obtain ⟨s,e,hs⟩:=qkP h
 obtain ⟨r,e',hr⟩:=qhB h hN hs.1 b
 exact ⟨r.1,_,s,e,rfl,by rw [e'];exact congrArg some (Prod.ext rfl hr.1)⟩
theorem qfO {l N:Int} {p q:qja} {b:Bool} {P:Int} (h:WfP l N p) (hN:N<1073741824) (k:qhO p b q P):WfP l (N+1) q∧1≤P∧P≤4095:=by
 obtain ⟨s,e,hP,hu⟩:=k
 obtain ⟨s',e',hs⟩:=qkP h
 obtain rfl:=Option.some.inj (e.symm.trans e')
 obtain ⟨r,e'',hr⟩:=qhB h hN hs.1 b
 obtain rfl:=Option.some.inj (hu.symm.trans e'')
 rw [w64 (by omega) (by omega)] at hP
 exact ⟨hr.2,by omega,by omega⟩
theorem qbH (v:List Bool) (hv:v.length≤2000) (b9a b9baa:Int) (b9babb:qxa) (u1 u2 u3 u4:Unit) (b9bbbbbbaa:Int) (u5:Unit) (b9bbbbbbb:(qbc×(qxa×((List Int)×((List Int)×Unit)))))
  (h11:List Int) (h12:List qta) (h13:List qra) (h14 h15 h16:List (List Int)) (h17:List Int) (q:qja):∀i:Int,0≤i→i≤v.length→∀(p:qja) (h10 Ps:List Int),h10.length=i.toNat→qwR (v.drop i.toNat) p q Ps→
  qZd v v.length i p b9a b9baa b9babb u1 u2 u3 u4 b9bbbbbbaa u5 b9bbbbbbb h10 h11 h12 h13 h14 h15 h16 h17=some (q,(h10++Ps,0)):=by
 intro i
 refine qgd (P:=fun i=>0≤i→i≤v.length→∀(p:qja) (h10 Ps:List Int),h10.length=i.toNat→qwR (v.drop i.toNat) p q Ps→qZd v v.length i p b9a b9baa b9babb u1 u2 u3 u4 b9bbbbbbaa u5 b9bbbbbbb h10 h11 h12 h13 h14 h15 h16 h17=some (q,(h10++Ps,0))) v.length ?_ ?_ i
 ·intro i hi h0 h1 p h10 Ps hh hr
  rw [List.drop_of_length_le (by omega)] at hr
  obtain ⟨rfl,rfl⟩:=hr
  rw [qVf,if_neg (by rw [decide_eq_true_eq];omega),wS]
 ·intro i hi ih h0 h1 p h10 Ps hh hr
  have hd:v.drop i.toNat=v[i.toNat]'(by omega)::v.drop (i.toNat+1):=wAa (by omega)
  rw [hd] at hr
  obtain ⟨p1,P,Ps',⟨s,e1,e2,e3⟩,hr,rfl⟩:=hr
  have hg:v.getD i.toNat false=v[i.toNat]'(by omega):=by rw [wu,wx (by omega)];rfl
  rw [qVf]
  simp only [wj]
  rw [w64 (x:=i+1) (by omega) (by omega),hg,←hg]
  refine Tot.eq (uf (by omega) (ua h0 (ua (by omega) (ue e1 (ue (by rw [hg];exact e3) (ud rfl (ua (by rw [wm,wC];omega) ?_)))))))
  have e:(i+1).toNat=i.toNat+1:=by omega
  have:=ih (by omega) (by omega) p1 (h10++[P]) Ps' (by rw [wm,wC];omega) (by rw [e];exact hr)
  rw [←e2]
  simp only
  rw [this,wy]
  exact ub rfl
theorem qdO {l N:Int} {p q:qja} {v:List Bool} {Ps:List Int} (h:WfP l N p) (hv:v.length≤2000) (hr:qwR v p q Ps):qCk p v=some (q,(Ps,0)):=by
 rw [qKq]
 simp only [wj]
 refine Tot.eq (ue (qDk h) (ud rfl (uc (by omega) (ue (qnO h) ?_))))
 have:=qbH v hv 0 0 (0,()) () () () () 0 () ((0,(0,())),((0,()),((wo 6 0),((wo 6 0),())))) [] [] [] [] [] [] [] q 0 (by omega) (by omega) p [] Ps rfl hr
 rw [this]
 exact ub rfl
theorem qZG {l N:Int} {p q:qja} {b:Bool} {P:Int} (h:WfP l N p) (k:qhO p b q P):qim p b=some (q,0):=by
 rw [qKt]
 exact Tot.eq (ue (qdO h (v:=[b]) (Ps:=[P]) (by show 1≤2000;decide) ⟨q,P,[],k,⟨rfl,rfl⟩,rfl⟩) (ub rfl))
def e0:qBa:=(0,(4294967295,([],())))
theorem qzQ {y z:Int} (h0:0≤y) (h1:y<4294967296) (hm:y%256=0) (z0:0≤z) (z1:z<256):qlc .u32 y z=y+z:=by
 have e:qlc .u32 y z=((wG 32 y ||| wG 32 z).toNat:Int):=by
  show wd .u32 ((wG 32 y ||| wG 32 z).toNat:Int)=_
  rw [qkz]
  have:=(wG 32 y ||| wG 32 z).isLt
  omega
 rw [e,BitVec.toNat_or,qae 32 y h0 (by omega),qae 32 z (by omega) (by omega)]
 have h2:y.toNat=2 ^ 8*(y.toNat/256):=by omega
 rw [h2,←Nat.two_pow_add_eq_or_of_lt (show z.toNat<2 ^ 8 by omega)]
 omega
theorem qJy {c:List Int} (i:Nat):qnq c i=some (c.getD i 0):=by
 rw [qEC]
 simp only [wj]
 by_cases h:(i:Int)<c.length
 ·exact Tot.eq (uf h (ua (by omega) (ua h (ub (by rw [wv])))))
 ·refine Tot.eq (uc h (ub ?_))
  rw [wu,wrb (by omega)]
  rfl
theorem qhj {c:List Int} (hc:Bts c) (b8a b8ba b8bba:Int) (b8b:qxa) (h10:List Int) (x1 x2 x:Int) (cc:List Int) (u:Unit) (k:Nat) (hk:k<4) (hx0:0≤x) (hx1:x<4294967296):
  qXe c b8a b8ba b8bba b8b (x1,(x2,(x,(cc,((k:Int),u))))) h10=qXe c b8a b8ba b8bba b8b (x1,(x2,(x*256%4294967296+c.getD k 0,(cc,(((k+1:Nat):Int),u))))) h10:=by
 have hb:=qai hc k
 rw [qSk,if_pos (by rw [decide_eq_true_eq];simp only;omega),qda (by decide)]
 simp only
 rw [qJy,wq,qkz,qkz,w64 (x:=(k:Int)+1) (by omega) (by omega)]
 have e:c.getD k 0%4294967296=c.getD k 0:=by omega
 rw [e,qzQ (by omega) (by omega) (by omega) hb.1 hb.2]
 rfl
def qXP (e:qBa) (c:List Int):qNa:=(e.1,(e.2.1,(at4 c e.2.2.1.length,(c,(((e.2.2.1.length+4:Nat):Int),())))))
theorem qVE {c:List Int} (hc:Bts c) (hl:c.length≤20000):qMr c=some (qXP e0 c,0):=by
 have h0:=qai hc 0
 have h1:=qai hc 1
 have h2:=qai hc 2
 have h3:=qai hc 3
 rw [qbr]
 simp only [wj]
 refine Tot.eq (uc (by omega) (ue (qdc _ (by omega)) (ue (v:=qXP e0 c) ?_ (ub rfl))))
 rw [qPv]
 have s0:=qhj hc 0 0 0 (0,()) [] 0 4294967295 0 c () 0 (by decide) (by omega) (by omega)
 rw [show ((0:Nat):Int)=0 from rfl] at s0
 rw [s0]
 have e0':(0:Int)*256%4294967296+c.getD 0 0=c.getD 0 0:=by omega
 rw [e0',qhj hc 0 0 0 (0,()) [] 0 4294967295 _ c () 1 (by decide) (by omega) (by omega),qhj hc 0 0 0 (0,()) [] 0 4294967295 _ c () 2 (by decide) (by omega) (by omega),qhj hc 0 0 0 (0,()) [] 0 4294967295 _ c () 3 (by decide) (by omega) (by omega)]
 rw [qSk,if_neg (by simp)]
 have e:((c.getD 0 0*256%4294967296+c.getD 1 0)*256%4294967296+c.getD 2 0)*256%4294967296+c.getD 3 0=at4 c 0:=by
  unfold at4
  simp only [wQ]
  omega
 rw [e]
 rfl
def WfDec (d:qNa):Prop:=(0≤d.1∧d.1<4294967296)∧(0≤d.2.1∧d.2.1<4294967296)∧(0≤d.2.2.1∧d.2.2.1<4294967296)∧Bts d.2.2.2.1∧0≤d.2.2.2.2.1∧d.2.2.2.2.1≤1000000
theorem qvp {c:List Int} (hc:Bts c) (v:Bool) (u:Unit):∀(k:Nat) (a b x:Int) (i:Nat),Shp4 k a b→(0≤x∧x<4294967296)→i+k≤2000000→
  Tot (qvg v (a,(b,(x,(c,((i:Int),u)))))) fun r=>(0≤r.2.1∧r.2.1<4294967296)∧(0≤r.2.2.1∧r.2.2.1<4294967296)∧(0≤r.2.2.2.1∧r.2.2.2.1<4294967296)∧Bts r.2.2.2.2.1∧0≤r.2.2.2.2.2.1
 |0,a,b,x,i,hs,hx,hi=>by
  obtain ⟨_,hs⟩:=hs
  have:a=0∧b=4294967295:=by omega
  obtain ⟨rfl,rfl⟩:=this
  rw [qXm,qda (by decide),qda (by decide),if_neg (by show ¬((wX 0 16777216==wX 4294967295 16777216)=true);decide)]
  exact ub ⟨⟨by simp only;omega,by simp only;omega⟩,⟨by simp only;omega,by simp only;omega⟩,hx,hc,by simp only;omega⟩
 |k+1,a,b,x,i,hs,hx,hi=>by
  have hr:=hs.1
  have hb:=qai hc i
  rw [qXm,qda (by decide),qda (by decide)]
  simp only [qIg _ (show (0:Int)<16777216 by decide),beq_iff_eq]
  by_cases e:a/16777216=b/16777216
  ·rw [if_pos e,qda (by decide),qda (by decide),qda (by decide),qJy,wq]
   have ho:qlc .u32 (b*256%4294967296) 255=b*256%4294967296+255:=qwN (by omega) (by omega) (by omega)
   have e1:c.getD i 0%4294967296=c.getD i 0:=by omega
   rw [qkz,qkz,qkz,qkz,ho,e1,qzQ (by omega) (by omega) (by omega) hb.1 hb.2,w64 (by omega) (by omega)]
   have e2:(i:Int)+1=((i+1:Nat):Int):=by omega
   rw [e2]
   exact qvp hc v u k _ _ _ (i+1) (hs.step e) (by omega) (by omega)
  ·rw [if_neg e]
   exact ub ⟨⟨by simp only;omega,by simp only;omega⟩,⟨by simp only;omega,by simp only;omega⟩,hx,hc,by simp only;omega⟩
theorem WfDec.zero:WfDec (0,(0,(0,([],(0,()))))):=⟨⟨by decide,by decide⟩,⟨by decide,by decide⟩,⟨by decide,by decide⟩,Bts.nil,by decide,by decide⟩
theorem qaS {d:qNa} (h:WfDec d) (p:Int):Tot (qNr d p) fun r=>WfDec r.1:=by
 obtain ⟨h1,h2,h3,h4,h5,h6⟩:=h
 rw [qmA]
 refine Tot.b (P:=fun r=>r=0→qlO d.1 d.2.1∧d.2.2.2.1.length≤20000) ?_ (fun r hr=>uh (fun _=>ub WfDec.zero) (fun k=>?_))
 ·rw [qQv]
  simp only [wj,qIg _ (show (0:Int)<16777216 by decide)]
  refine ug (fun _=>ub (fun k=>absurd k (by decide))) (fun q1=>ua (by decide) (ua (by decide) (uk (fun _=>ub (fun k=>absurd k (by decide))) (fun q2=>?_))))
  refine ug (fun _=>ub (fun k=>absurd k (by decide))) (fun _=>ug (fun _=>ub (fun k=>absurd k (by decide))) (fun _=>ug (fun _=>ub (fun k=>absurd k (by decide))) (fun q3=>ug (fun _=>ub (fun k=>absurd k (by decide))) (fun _=>ug (fun _=>ub (fun k=>absurd k (by decide))) (fun _=>ub (fun _=>⟨⟨h1.1,by omega,h2.2,q2⟩,by omega⟩))))))
 ·obtain ⟨hE,hl⟩:=hr k
  refine Tot.b (P:=fun r=>r=false→0≤p∧p≤4095) ?_ (fun w hw=>uj (fun _=>ub WfDec.zero) (fun hw2=>?_))
  ·rw [qOv]
   exact ug (fun _=>ub (fun k=>absurd k (by decide))) (fun q=>ub (fun k=>by have:=of_decide_eq_false k;omega))
  ·have hp:=hw (by cases w with
    |true=>exact absurd rfl hw2
    |false=>rfl)
   refine ue (qdc _ (by omega)) (Tot.b (P:=fun r=>(0≤r.2.1∧r.2.1<4294967296)∧(0≤r.2.2.1∧r.2.2.1<4294967296)∧(0≤r.2.2.2.1∧r.2.2.2.1<4294967296)∧Bts r.2.2.2.2.1∧0≤r.2.2.2.2.2.1) ?_ (fun r hr=>ug (fun _=>ub WfDec.zero) (fun q=>ub ⟨hr.1,hr.2.1,hr.2.2.1,hr.2.2.2.1,hr.2.2.2.2,by simp only;omega⟩)))
   have hsplit:qIn d.1 d.2.1 p=some (spl d.1 d.2.1 p,0):=by
    have hp':qzj p=some true:=by
     rw [qtp]
     exact Tot.eq (uf hp.1 (ub (decide_eq_true hp.2)))
    rw [qMv]
    exact Tot.eq (uc (by have:=hE.2.1;omega) (ue hp' (um (fun k=>absurd k (by decide)) (fun _=>ue (qNI hE hp.1 hp.2) (ub rfl)))))
   have hs:=qqK hE hp.1 hp.2
   obtain ⟨i,hi⟩:=whb h5
   rw [qlA]
   refine ue hsplit ?_
   simp only
   have e2:d.2.2.2.2=((i:Int),d.2.2.2.2.2):=Prod.ext hi rfl
   refine ug (fun q=>?_) (fun q=>?_)
   ·have:=qvp h4 (decide (d.2.2.1≤spl d.1 d.2.1 p)) d.2.2.2.2.2 4 (quR true d.1 d.2.1 p) (qsR true d.1 d.2.1 p) d.2.2.1 i (qCM hE hp.1 hp.2) h3 (by omega)
    rw [←e2] at this
    exact this
   ·have w1:wd .u32 (spl d.1 d.2.1 p+1)=spl d.1 d.2.1 p+1:=by rw [qkz];omega
    have:=qvp h4 (decide (d.2.2.1≤spl d.1 d.2.1 p)) d.2.2.2.2.2 4 (quR false d.1 d.2.1 p) (qsR false d.1 d.2.1 p) d.2.2.1 i (qCM hE hp.1 hp.2) h3 (by omega)
    rw [←e2] at this
    rw [w1]
    exact this
theorem qFC {l:Int} (v2:Int) (hv:v2≤4096) (h10:List Int) (hh:h10.length≤4096) (N:Int) (Q:List Int×Int→Prop)
  (next:∀(v:Int) (p:qja) (d:qNa),0≤v→v<256→WfP l (N+8) p→WfDec d→Tot (qQf v2 p d (h10++[v])) Q) (hN:N+8<1073741824):∀(m j:Nat),j+m=8→∀(v:Int) (p:qja) (d:qNa),0≤v→v<256→WfP l (N+j) p→WfDec d→Tot (qPf v2 v (j:Int) p d h10) Q
 |0,j,hj,v,p,d,h0,h1,hp,hd=>by
  obtain rfl:j=8:=by omega
  rw [qRl]
  exact uc (by omega) (ua (by rw [wm,wC];omega) (next v p d h0 h1 hp hd))
 |m+1,j,hj,v,p,d,h0,h1,hp,hd=>by
  obtain ⟨s,es,hs⟩:=qkP hp
  have eP:qlx p=some (wd .i64 s.2.2.2.2.1,0):=by
   rw [qKD]
   exact Tot.eq (ue (qDk hp) (ud rfl (ue es (ub rfl))))
  rw [qRl]
  refine uf (by omega) (ue eP (Tot.b (qaS hd _) (fun r hr=>?_)))
  obtain ⟨q,P,k⟩:=qgO hp (by omega) r.2.1
  refine ue (qZG hp k) ?_
  have hw:=(qfO hp (by omega) k).1
  have e3:(j:Int)+1=((j+1:Nat):Int):=by omega
  have e4:N+(j:Int)+1=N+((j+1:Nat):Int):=by omega
  rw [e4] at hw
  rw [w64 (x:=(j:Int)+1) (by omega) (by omega),e3]
  refine uj (fun _=>?_) (fun _=>?_)
  ·exact qFC v2 hv h10 hh N Q next hN m (j+1) (by omega) _ _ _ (qfv _).1 (qfv _).2 hw hr
  ·exact qFC v2 hv h10 hh N Q next hN m (j+1) (by omega) _ _ _ (qfv _).1 (qfv _).2 hw hr
theorem qoI {l:Int} (v2:Int) (h0:0≤v2) (hv:v2≤4096):∀(m:Nat) (hs:List Int) (N:Int) (p:qja) (d:qNa),v2 - hs.length≤m→(hs.length:Int)≤v2→Bts hs→WfP l N p→N+8*m<1073741824→WfDec d→
  Tot (qQf v2 p d hs) fun r=>Bts r.1∧(r.1.length:Int)=v2∧r.2=0
 |0,hs,N,p,d,hm,hl,hb,hp,hN,hd=>by
  rw [qSl]
  simp only [wj]
  exact uc (by omega) (ub ⟨hb,by simp only;omega,rfl⟩)
 |m+1,hs,N,p,d,hm,hl,hb,hp,hN,hd=>by
  rw [qSl]
  simp only [wj]
  refine ug (fun hlt=>?_) (fun _=>ub ⟨hb,by simp only;omega,rfl⟩)
  have e:((0:Nat):Int)=0:=rfl
  have:=qFC (l:=l) v2 hv hs (by omega) N (fun r=>Bts r.1∧(r.1.length:Int)=v2∧r.2=0) (fun v p' d' q0 q1 hp' hd'=>qoI v2 h0 hv m (hs++[v]) (N+8) p' d' (by rw [wm,wC];omega) (by rw [wm,wC];omega) (Bts.append hb (Bts.cons ⟨q0,q1⟩ Bts.nil)) hp' (by omega) hd') (by omega) 8 0 rfl 0 p d (by omega) (by omega) (by rw [e,Int.add_zero];exact hp) hd
  rw [e] at this
  exact this
theorem qsA (l:Int) {c:List Int} (hc:Bts c) (n:Int):Tot (qBp l c n) fun r=>Bts r.1∧(r.2=0→(r.1.length:Int)=n):=by
 rw [qUy,qcr]
 refine Tot.b (P:=fun r=>r.2=0→WfP l 0 r.1) (Tot.b (qlR l) (fun r hr=>uk (fun k=>uc (by decide) (ub hr)) (fun k=>ub (fun q=>absurd q k)))) (fun r hr=>uh (fun _=>ub ⟨Bts.nil,fun q=>absurd q (by decide)⟩) (fun k=>?_))
 refine ug (fun _=>ub ⟨Bts.nil,fun q=>absurd q (by decide)⟩) (fun h0=>ug (fun _=>ub ⟨Bts.nil,fun q=>absurd q (by decide)⟩) (fun h1=>?_))
 by_cases hl:c.length≤20000
 ·refine ue (qVE hc hl) (ud rfl ?_)
  have h4:=qXN hc 0
  have hd:WfDec (qXP e0 c):=⟨⟨by show (0:Int)≤0;decide,by show (0:Int)<4294967296;decide⟩,⟨by show (0:Int)≤4294967295;decide,by show (4294967295:Int)<4294967296;decide⟩,⟨h4.2.2.1,h4.2.2.2⟩,hc,by show (0:Int)≤4;decide,by show (4:Int)≤1000000;decide⟩
  exact Tot.mono (qoI n (by omega) (by omega) n.toNat [] 0 r.1 _ (by rw [wT];omega) (by rw [wT];omega) Bts.nil (hr k) (by omega) hd) (fun q hq=>⟨hq.1,fun _=>hq.2.1⟩)
 ·refine ue (v:=((0,(0,(0,([],(0,()))))),4)) ?_ (uA (by decide) (ub ⟨Bts.nil,fun q=>absurd q (by show ¬((4:Int)=0);decide)⟩))
  rw [qbr]
  simp only [wj]
  exact Tot.eq (uf (by omega) (ub rfl))
def U32 (x:Int):Prop:=0≤x∧x<4294967296
theorem qRC (v:BitVec 32):wd .u32 (v.toNat:Int)=v.toNat:=by
 have:=v.isLt
 rw [qkz];omega
theorem qZQ (v:BitVec 32):wG 32 (v.toNat:Int)=v:=by
 apply BitVec.eq_of_toNat_eq
 rw [BitVec.toNat_ofInt]
 have:=v.isLt
 omega
theorem bX (x y:Int):qAb .u32 x y=((wG 32 x ^^^ wG 32 y).toNat:Int):=qRC _
theorem bO (x y:Int):qlc .u32 x y=((wG 32 x ||| wG 32 y).toNat:Int):=qRC _
theorem bA (x y:Int):qeb .u32 x y=((wG 32 x &&& wG 32 y).toNat:Int):=qRC _
theorem w_u (x:Int):U32 (wd .u32 x):=by rw [qkz];unfold U32;omega
theorem qQR (b c d:Int):qAb .u32 d (qeb .u32 b (qAb .u32 c d))=qlc .u32 (qeb .u32 b c) (qeb .u32 (qAb .u32 4294967295 b) d):=by
 simp only [bX,bO,bA,qZQ]
 congr 2
 have h1:wG 32 4294967295=BitVec.allOnes 32:=by decide
 rw [h1]
 ext i hi
 simp only [BitVec.getElem_xor,BitVec.getElem_and,BitVec.getElem_or,BitVec.getElem_allOnes]
 cases (wG 32 b)[i] <;> cases (wG 32 c)[i] <;> cases (wG 32 d)[i] <;> rfl
theorem qFQ (b c d:Int):qlc .u32 (qeb .u32 b c) (qeb .u32 d (qlc .u32 b c))=qlc .u32 (qlc .u32 (qeb .u32 b c) (qeb .u32 b d)) (qeb .u32 c d):=by
 simp only [bX,bO,bA,qZQ]
 congr 2
 ext i hi
 simp only [BitVec.getElem_xor,BitVec.getElem_and,BitVec.getElem_or]
 cases (wG 32 b)[i] <;> cases (wG 32 c)[i] <;> cases (wG 32 d)[i] <;> rfl
def rot (a:Int) (s:Int):Int:=qlc .u32 (wd .u32 (qLw .u32 a s)) (qcl .u32 a (32 - s))
theorem qDP {x b:Int} (hx:U32 x) (hb:0≤b∧b<256):qlc .u32 (wd .u32 (x*256)) (wd .u32 b)=wd .u32 (wd .u32 (x*256)+wd .u32 b):=by
 rw [bO]
 simp only [qkz]
 have h1:b%4294967296=b:=by omega
 rw [h1]
 obtain ⟨n,rfl⟩:=whb hb.1
 obtain ⟨q,hq⟩:∃q:Nat,(x*256)%4294967296=((2 ^ 8*q:Nat):Int)∧2 ^ 8*q<4294967296:=by
  refine ⟨(x%16777216).toNat,?_,?_⟩ <;> simp <;> omega
 have hn:n<2 ^ 8:=by omega
 rw [hq.1]
 have e:∀m:Nat,m<4294967296→(wG 32 (m:Int)).toNat=m:=fun m hm=>by
  rw [BitVec.toNat_ofInt];omega
 rw [BitVec.toNat_or,e _ hq.2,e n (by omega),←Nat.two_pow_add_eq_or_of_lt hn]
 have:=hq.2
 omega
theorem qUw (a:Int):qvb a 1=some (rot a 1)∧qvb a 5=some (rot a 5)∧qvb a 30=some (rot a 30):=by
 have h1:qeb .u64 (wd .u64 1) 31=1:=by kernel_rfl
 have h5:qeb .u64 (wd .u64 5) 31=5:=by kernel_rfl
 have h30:qeb .u64 (wd .u64 30) 31=30:=by kernel_rfl
 have w1:wd .u64 ((32:Int) - 1)=32 - 1:=by kernel_rfl
 have w5:wd .u64 ((32:Int) - 5)=32 - 5:=by kernel_rfl
 have w30:wd .u64 ((32:Int) - 30)=32 - 30:=by kernel_rfl
 refine ⟨?_,?_,?_⟩ <;> rw [qkm]
 ·rw [h1,w1,qda (by omega),qda (by omega)];rfl
 ·rw [h5,w5,qda (by omega),qda (by omega)];rfl
 ·rw [h30,w30,qda (by omega),qda (by omega)];rfl
theorem qsw (a s:Int) (h:0≤s∧s≤32):qwe a s=some (rot a s):=by
 rw [qzq,w64 (by omega) (by omega),qda (by omega),qda (by omega)];rfl
def qTR (n:Int):Int:=wd .u64 (wd .u64 n*8)
def qgv (n:Int):Nat→List Int
 |0=>[]
 |k+1=>wd .u8 (qcl .u64 (qTR n) (8*(k:Int)))::qgv n k
def qIH (n:Int):List Int:=[128]++wo ((119 - n%64)%64).toNat 0++qgv n 8
theorem qdD (n:Int):∀k,(qgv n k).length=k
 |0=>rfl
 |k+1=>by simp [qgv,qdD n k]
theorem qgQ (x:Int):0≤wd .u8 x∧wd .u8 x<256:=by rw [wu8];omega
theorem qeD (n:Int):∀k,Bts (qgv n k)
 |0=>Bts.nil
 |k+1=>Bts.cons (qgQ _) (qeD n k)
theorem qtN (n:Int):Bts (qIH n):=by
 refine Bts.append (Bts.append (Bts.cons (by omega) Bts.nil) (fun x hx=>?_)) (qeD n 8)
 have:=(List.mem_replicate.1 hx).2;omega
theorem qHH (n:Int) (h:0≤n):((n+(qIH n).length)%64=0∧(qIH n).length≤72):=by
 simp only [qIH,wm,wB,wT,wfa,qdD]
 omega
theorem qGo (n:Int):∀(k:Nat) (h:List Int),k≤8→h.length+k≤1000→qcq n (8*(k:Int) - 8) h=some (h++qgv n k)
 |0,h,hk,hl=>by
  rw [qjs,if_neg (by simp)]
  simp [qgv]
 |k+1,h,hk,hl=>by
  have e:8*((k+1:Nat):Int) - 8=8*(k:Int):=by omega
  rw [e,qjs,if_pos (by simp;omega),qda (by omega),qda (by simp;omega),w64 (by omega) (by omega),qGo n k _ (by omega) (by simp;omega)]
  simp [qgv,qTR]
theorem qpD (n:Int) (h:0≤n):qJF n=some (qIH n):=by
 rw [qPI,qda (by omega),qda (by omega),qfg h,w64 (by omega) (by omega),qfg (by omega),qda (by omega),qda (by omega),qda (by omega),qda (by simp;omega)]
 have:=qGo n 8 ([128]++wo ((119 - n%64)%64).toNat 0) (by omega) (by simp;omega)
 exact this
theorem qqx (n:Int):∀(k:Nat) (h:List Int),k≤8→h.length+k≤1000→qed n ((k:Int) - 1) h=some (h++qgv n k)
 |0,h,hk,hl=>by
  rw [qdg,if_neg (by simp)]
  simp [qgv]
 |k+1,h,hk,hl=>by
  have e:((k+1:Nat):Int) - 1=(k:Int):=by omega
  rw [e,qdg,if_pos (by simp),w64 (x:=8*(k:Int)) (by omega) (by omega),qda (by omega),qda (by simp;omega),w64 (x:=(k:Int) - 1) (by omega) (by omega),qqx n k _ (by omega) (by simp;omega)]
  have e2:(8:Int)*wd .u64 n=wd .u64 n*8:=Int.mul_comm _ _
  simp [qgv,qTR,e2]
theorem qrx (n:Int) (hn:0≤n∧n≤1000000000):∀(j:Nat) (h:List Int),j<64→h.length+j≤200→(n+h.length+8+j)%64=0→qfd n h=some (h++wo j 0++qgv n 8)
 |0,h,hj,hl,hm=>by
  rw [qeg,qda (by omega)]
  have hl':wi h.length=(h.length:Int):=rfl
  rw [hl',w64 (x:=n+(h.length:Int)) (by omega) (by omega),w64 (by omega) (by omega),qfg (by omega),if_neg (by simp;omega)]
  have:=qqx n 8 h (by omega) (by omega)
  simpa using this
 |j+1,h,hj,hl,hm=>by
  rw [qeg,qda (by omega)]
  have hl':wi h.length=(h.length:Int):=rfl
  rw [hl',w64 (x:=n+(h.length:Int)) (by omega) (by omega),w64 (by omega) (by omega),qfg (by omega),if_pos (by simp;omega),qda (by simp;omega),qrx n hn j (h++[0]) (by omega) (by simp;omega) (by simp;omega)]
  simp [wIa]
theorem qRD (n:Int) (hn:0≤n∧n≤1000000000):qmg n=some (qIH n):=by
 rw [qQn,qrx n hn ((119 - n%64)%64).toNat [128] (by omega) (by simp;omega) (by simp;omega)]
 rfl
theorem qLJ (a b:List Int) (h:a.length+b.length≤1000000):qFe [a,b]=some (a++b):=by
 have ha:wi a.length=(a.length:Int):=rfl
 have hb:wi b.length=(b.length:Int):=rfl
 rw [qbl]
 rw [qTc,if_pos (by simp),qda (by omega),qda (by simp)]
 simp only [wpb,Int.toNat_zero,ha]
 rw [w64 (x:=0+(a.length:Int)) (by omega) (by omega),if_neg (by simp),w64 (x:=0+1) (by omega) (by omega)]
 rw [qTc,if_pos (by simp),qda (by omega),qda (by simp)]
 simp only [show (0+1:Int).toNat=1 from rfl,List.getD_cons_succ,wpb,hb]
 rw [w64 (x:=0+(a.length:Int)+(b.length:Int)) (by omega) (by omega),if_neg (by simp <;> omega),w64 (x:=0+1+1) (by omega) (by omega)]
 rw [qTc,if_neg (by simp)]
 have hg:∃r,qAf (0+(a.length:Int)+(b.length:Int))=some (r,0,0):=by
  rw [qDm,if_neg (by simp;omega),w64 (by omega) (by omega)]
  by_cases hz:(0+(a.length:Int)+(b.length:Int)) - 0>0
  ·rw [if_pos (by simpa using hz),qda (by omega),qda (by omega),qda (by omega),qda (by omega),qda (by omega),qda (by simp;omega),qda (by omega),qda (by simp;omega)]
   exact ⟨_,rfl⟩
  ·rw [if_neg (by simpa using hz)];exact ⟨_,rfl⟩
 obtain ⟨r,hr⟩:=hg
 rw [hr]
 simp only [wq]
 rw [qIj,if_pos (by simp),qda (by omega),qda (by simp),qda (by simp;omega),w64 (by omega) (by omega)]
 simp only [wpb,Int.toNat_zero,List.take_zero,wU]
 rw [qSe,if_pos (by simp),qda (by omega),qda (by simp),qda (by simp;omega),w64 (by omega) (by omega)]
 rw [qSe,if_neg (by simp)]
 rfl
def bt (x b:Int):Int:=wd .u32 (wd .u32 (x*256)+wd .u32 b)
theorem qRR (x b:Int):U32 (bt x b):=w_u _
def qgP (b:List Int) (t:Nat):Int:=bt (bt (bt (wd .u32 (b.getD (4*t) 0)) (b.getD (4*t+1) 0)) (b.getD (4*t+2) 0)) (b.getD (4*t+3) 0)
def qUn (b:List Int) (t:Nat):Nat→List Int
 |0=>[]
 |k+1=>qgP b t::qUn b (t+1) k
theorem qYg (b:List Int):∀(k t:Nat),(qUn b t k).length=k
 |0,t=>rfl
 |k+1,t=>by simp [qUn,qYg b k]
theorem qdM (b:List Int) (hb:b.length=64) (x y:List Int):∀(k t:Nat) (h:List Int),t+k=16→h.length=t→qje b (t:Int) x y h=qcd 16 x y (h++qUn b t k)
 |0,t,h,e,hl=>by
  rw [qsi,if_neg (by simp;omega)]
  simp [qUn]
 |k+1,t,h,e,hl=>by
  have hb':wi b.length=64:=by rw [hb];rfl
  have e0:((4:Int)*(t:Int)).toNat=4*t:=by omega
  have e1:((4:Int)*(t:Int)+1).toNat=4*t+1:=by omega
  have e2:((4:Int)*(t:Int)+2).toNat=4*t+2:=by omega
  have e3:((4:Int)*(t:Int)+3).toNat=4*t+3:=by omega
  rw [qsi,if_pos (by simp;omega),hb']
  simp only [w64 (x:=4*(t:Int)) (by omega) (by omega),w64 (x:=4*(t:Int)+1) (by omega) (by omega),w64 (x:=4*(t:Int)+2) (by omega) (by omega),w64 (x:=4*(t:Int)+3) (by omega) (by omega),w64 (x:=(t:Int)+1) (by omega) (by omega),e0,e1,e2,e3]
  rw [qda (by omega),qda (by omega),qda (by omega),qda (by omega),qda (by omega),qda (by omega),qda (by omega),qda (by omega),qda (by simp;omega)]
  have ih:=qdM b hb x y k (t+1) (h++[qgP b t]) (by omega) (by simp;omega)
  have ec:((t+1:Nat):Int)=(t:Int)+1:=by omega
  rw [ec] at ih
  simp only [wy,List.singleton_append] at ih
  exact ih
theorem qBt (W:List Int) (x v:Int) (R:List Int):(W++x::R).set W.length v=W++v::R:=by
 induction W with
 |nil=>rfl
 |cons a W ih=>simp [ih]
theorem qHL (W:List Int) (x:Int) (R:List Int):(W++x::R).getD W.length 0=x:=by
 induction W with
 |nil=>rfl
 |cons a W ih=>simp
theorem qyM {b:List Int} (h:Bts b) (i:Nat):0≤b.getD i 0∧b.getD i 0<256:=by
 rw [wu]
 cases hi:b[i]? with
 |none=>simp
 |some x=>exact h x (List.mem_of_getElem? hi)
theorem qDC (b:List Int) (hb:b.length=64) (hB:Bts b) (x y W R:List Int) (i t:Nat) (v:Int) (hv:U32 v) (hi:i<64) (ht:i/4=t) (hW:W.length=t):
  qyk b 64 (i:Int) x y (W++v::R)=qyk b 64 ((i:Int)+1) x y (W++bt v (b.getD i 0)::R):=by
 have hb':wi b.length=64:=by rw [hb];rfl
 have e:(wd .i64 (wFa (i:Int) 4))=(t:Int):=by
  rw [qbm (by omega),w64 (by omega) (by omega)];omega
 rw [qGu,if_pos (by simp;omega),hb',e]
 rw [qda (by omega),qda (by omega),qda (by omega),qda (by omega),qda (by omega),qda (by omega),qda (by omega),qda (by omega),qda (by omega)]
 have et:((t:Int)).toNat=W.length:=by omega
 have ei:((i:Int)).toNat=i:=by omega
 rw [et,ei,qHL,qBt,qDP hv (qyM hB i),w64 (x:=(i:Int)+1) (by omega) (by omega)]
 rfl
theorem qWQ (b:List Int) (hb:b.length=64) (hB:Bts b) (x y:List Int):∀(k t:Nat) (W:List Int),t+k=16→W.length=t→
  qyk b 64 (4*(t:Int)) x y (W++wo k 0)=qyk b 64 64 x y (W++qUn b t k)
 |0,t,W,e,hl=>by
  have:4*(t:Int)=64:=by omega
  rw [this];rfl
 |k+1,t,W,e,hl=>by
  have c:∀j:Nat,((4*t+j:Nat):Int)=4*(t:Int)+(j:Int):=fun j=>by omega
  have s0:=qDC b hb hB x y W (wo k 0) (4*t) t 0 (by unfold U32;omega) (by omega) (by omega) hl
  have s1:=qDC b hb hB x y W (wo k 0) (4*t+1) t (bt 0 (b.getD (4*t) 0)) (qRR _ _) (by omega) (by omega) hl
  have s2:=qDC b hb hB x y W (wo k 0) (4*t+2) t (bt (bt 0 (b.getD (4*t) 0)) (b.getD (4*t+1) 0)) (qRR _ _) (by omega) (by omega) hl
  have s3:=qDC b hb hB x y W (wo k 0) (4*t+3) t (bt (bt (bt 0 (b.getD (4*t) 0)) (b.getD (4*t+1) 0)) (b.getD (4*t+2) 0)) (qRR _ _) (by omega) (by omega) hl
  rw [show ((4*t:Nat):Int)=4*(t:Int) by omega] at s0
  rw [show ((4*t+1:Nat):Int)=4*(t:Int)+1 by omega] at s1
  rw [show ((4*t+2:Nat):Int)=4*(t:Int)+1+1 by omega] at s2
  rw [show ((4*t+3:Nat):Int)=4*(t:Int)+1+1+1 by omega] at s3
  have h0:bt 0 (b.getD (4*t) 0)=wd .u32 (b.getD (4*t) 0):=by
   have:=qyM hB (4*t)
   simp only [bt,qkz];omega
  rw [wIa,s0,s1,s2,s3,h0]
  have ih:=qWQ b hb hB x y k (t+1) (W++[qgP b t]) (by omega) (by simp;omega)
  rw [show 4*((t+1:Nat):Int)=4*(t:Int)+1+1+1+1 by omega] at ih
  simp only [wy,List.singleton_append] at ih
  exact ih
def qBN (a b c d:Int):Int:=rot (qAb .u32 (qAb .u32 (qAb .u32 a b) c) d) 1
def sch:Nat→List Int→List Int
 |0,h=>h
 |k+1,h=>sch k (h++[qBN (h.getD (h.length - 3) 0) (h.getD (h.length - 8) 0) (h.getD (h.length - 14) 0) (h.getD (h.length - 16) 0)])
theorem qvK:∀(k:Nat) (h:List Int),(sch k h).length=h.length+k
 |0,h=>rfl
 |k+1,h=>by rw [sch,qvK k];simp;omega
theorem qmp {h r:List Int} {t:Nat} (ht:t<h.length):(h++r).getD t 0=h.getD t 0:=by
 simp [wu,List.getElem?_append_left ht]
theorem qmr:∀(k:Nat) (h:List Int) (t:Nat),t<h.length→(sch k h).getD t 0=h.getD t 0
 |0,h,t,ht=>rfl
 |k+1,h,t,ht=>by
  rw [sch,qmr k _ t (by simp;omega),qmp ht]
theorem qrO:∀(k:Nat) (h:List Int) (t:Nat),16≤h.length→h.length≤t→t<h.length+k→
  (sch k h).getD t 0=qBN ((sch k h).getD (t - 3) 0) ((sch k h).getD (t - 8) 0) ((sch k h).getD (t - 14) 0) ((sch k h).getD (t - 16) 0)
 |0,h,t,h1,h2,h3=>by omega
 |k+1,h,t,h1,h2,h3=>by
  by_cases he:t=h.length
  ·subst he
   rw [sch]
   rw [qmr k _ h.length (by simp),qmr k _ (h.length - 3) (by simp;omega),qmr k _ (h.length - 8) (by simp;omega),qmr k _ (h.length - 14) (by simp;omega),qmr k _ (h.length - 16) (by simp;omega)]
   rw [qHL,qmp (by omega),qmp (by omega),qmp (by omega),qmp (by omega)]
  ·rw [sch]
   exact qrO k _ t (by simp;omega) (by simp;omega) (by simp;omega)
theorem qcM (x y:List Int):∀(k t:Nat) (h:List Int),t+k=80→16≤t→h.length=t→qcd (t:Int) x y h=qbd 0 x y (sch k h) x
 |0,t,h,e,h1,hl=>by
  rw [qri,if_neg (by simp;omega)];rfl
 |k+1,t,h,e,h1,hl=>by
  have hl':wi h.length=(t:Int):=by rw [hl];rfl
  rw [qri,if_pos (by simp;omega),hl']
  simp only [w64 (x:=(t:Int) - 3) (by omega) (by omega),w64 (x:=(t:Int) - 8) (by omega) (by omega),w64 (x:=(t:Int) - 14) (by omega) (by omega),w64 (x:=(t:Int) - 16) (by omega) (by omega),w64 (x:=(t:Int)+1) (by omega) (by omega)]
  rw [qda (by omega),qda (by omega),qda (by omega),qda (by omega),qda (by omega),qda (by omega),qda (by omega),qda (by omega)]
  rw [show 0+((t:Int) - 3).toNat=h.length - 3 by omega,show 0+((t:Int) - 8).toNat=h.length - 8 by omega,show 0+((t:Int) - 14).toNat=h.length - 14 by omega,show 0+((t:Int) - 16).toNat=h.length - 16 by omega]
  rw [qsw _ 1 (by omega)]
  simp only [wq]
  rw [qda (by simp;omega)]
  have ih:=qcM x y k (t+1) (h++[qBN (h.getD (h.length - 3) 0) (h.getD (h.length - 8) 0) (h.getD (h.length - 14) 0) (h.getD (h.length - 16) 0)]) (by omega) (by omega) (by simp;omega)
  rw [show ((t+1:Nat):Int)=(t:Int)+1 by omega] at ih
  exact ih
def ff (t:Nat) (b c d:Int):Int×Int:=
 if t<20 then (qlc .u32 (qeb .u32 b c) (qeb .u32 (qAb .u32 4294967295 b) d),1518500249)
 else if t<40 then (qAb .u32 (qAb .u32 b c) d,1859775393)
 else if t<60 then (qlc .u32 (qlc .u32 (qeb .u32 b c) (qeb .u32 b d)) (qeb .u32 c d),2400959708)
 else (qAb .u32 (qAb .u32 b c) d,3395469782)
theorem qZK (t:Nat) (b c d:Int):qRi (t:Int) b c d=some (ff t b c d):=by
 rw [qAq]
 unfold ff
 by_cases h1:t<20
 ·rw [if_pos (by simp;omega),if_pos h1]
 ·rw [if_neg (by simp;omega),if_neg h1]
  by_cases h2:t<40
  ·rw [if_pos (by simp;omega),if_pos h2]
  ·rw [if_neg (by simp;omega),if_neg h2]
   by_cases h3:t<60
   ·rw [if_pos (by simp;omega),if_pos h3]
   ·rw [if_neg (by simp;omega),if_neg h3]
theorem qCN (t:Nat) (b c d:Int) (ht:t<80):qKF (wd .i64 (wFa (t:Int) 20)) b c d=some (ff t b c d).1∧G_quarters.getD (wd .i64 (wFa (t:Int) 20)).toNat 0=(ff t b c d).2∧0≤wd .i64 (wFa (t:Int) 20)∧wd .i64 (wFa (t:Int) 20)<4:=by
 have e:wd .i64 (wFa (t:Int) 20)=((t/20:Nat):Int):=by
  rw [qbm (by omega),w64 (by omega) (by omega)];omega
 rw [e,qQI]
 unfold ff
 by_cases h1:t<20
 ·have:t/20=0:=by omega
  rw [this,if_pos (by simp),if_pos h1,qQR]
  exact ⟨rfl,rfl,by omega,by omega⟩
 ·rw [if_neg h1]
  by_cases h2:t<40
  ·have:t/20=1:=by omega
   rw [this,if_neg (by simp),if_neg (by simp),if_pos h2]
   exact ⟨rfl,rfl,by omega,by omega⟩
  ·rw [if_neg h2]
   by_cases h3:t<60
   ·have:t/20=2:=by omega
    rw [this,if_neg (by simp),if_pos (by simp),if_pos h3,qFQ]
    exact ⟨rfl,rfl,by omega,by omega⟩
   ·have:t/20=3:=by omega
    rw [this,if_neg (by simp),if_neg (by simp),if_neg h3]
    exact ⟨rfl,rfl,by omega,by omega⟩
structure S5 where
 a:Int
 b:Int
 c:Int
 d:Int
 e:Int
def S5.l (s:S5):List Int:=[s.a,s.b,s.c,s.d,s.e]
def rd (t:Nat) (w:Int) (s:S5):S5:=
 ⟨wd .u32 (wd .u32 (wd .u32 (wd .u32 (rot s.a 5+(ff t s.b s.c s.d).1)+s.e)+(ff t s.b s.c s.d).2)+w),s.a,rot s.b 30,s.c,s.d⟩
def qmR (W:List Int):Nat→Nat→S5→S5
 |0,_,s=>s
 |k+1,t,s=>qmR W k (t+1) (rd t (W.getD t 0) s)
theorem qbM (x y W:List Int) (hW:W.length=80):∀(k t:Nat) (s:S5),t+k=80→qbd (t:Int) x y W s.l=qad 0 x y (qmR W k t s).l
 |0,t,s,e=>by
  rw [qqi,if_neg (by simp;omega)];rfl
 |k+1,t,s,e=>by
  have hl':wi W.length=80:=by rw [hW];rfl
  have g0:s.l.getD 0 0=s.a:=rfl
  have g1:s.l.getD 1 0=s.b:=rfl
  have g2:s.l.getD 2 0=s.c:=rfl
  have g3:s.l.getD 3 0=s.d:=rfl
  have g4:s.l.getD 4 0=s.e:=rfl
  rw [qqi,if_pos (by simp;omega),hl']
  simp only [g0,g1,g2,g3,g4,qZK,qsw _ 5 (by omega),qsw _ 30 (by omega),wq,w64 (x:=(t:Int)+1) (by omega) (by omega),show 0+((t:Int)).toNat=t by omega]
  repeat rw [qda (by omega)]
  have ih:=qbM x y W hW k (t+1) (rd t (W.getD t 0) s) (by omega)
  rw [show ((t+1:Nat):Int)=(t:Int)+1 by omega] at ih
  exact ih
def qnS (x:List Int) (s:S5):List Int:=[wd .u32 (x.getD 0 0+s.a),wd .u32 (x.getD 1 0+s.b),wd .u32 (x.getD 2 0+s.c),wd .u32 (x.getD 3 0+s.d),wd .u32 (x.getD 4 0+s.e)]
theorem qTP (y:List Int) (x s:S5):qad 0 x.l y s.l=some (qnS x.l s):=by
 have g:∀s:S5,s.l.getD 0 0=s.a∧s.l.getD 1 0=s.b∧s.l.getD 2 0=s.c∧s.l.getD 3 0=s.d∧s.l.getD 4 0=s.e:=fun s=>⟨rfl,rfl,rfl,rfl,rfl⟩
 have n1:wd .i64 (0+1)=1:=by kernel_rfl
 have n2:wd .i64 (1+1)=2:=by kernel_rfl
 have n3:wd .i64 (2+1)=3:=by kernel_rfl
 have n4:wd .i64 (3+1)=4:=by kernel_rfl
 have n5:wd .i64 (4+1)=5:=by kernel_rfl
 rw [qIb,if_pos (by simp),n1]
 repeat rw [qda (by omega)]
 rw [qIb,if_pos (by simp),n2]
 repeat rw [qda (by omega)]
 rw [qIb,if_pos (by simp),n3]
 repeat rw [qda (by omega)]
 rw [qIb,if_pos (by simp),n4]
 repeat rw [qda (by omega)]
 rw [qIb,if_pos (by simp),n5]
 repeat rw [qda (by omega)]
 rw [qIb,if_neg (by simp)]
 rfl
def blk (x:S5) (b:List Int):S5:=
 let s:=qmR (sch 64 (qUn b 0 16)) 80 0 x
 ⟨wd .u32 (x.a+s.a),wd .u32 (x.b+s.b),wd .u32 (x.c+s.c),wd .u32 (x.d+s.d),wd .u32 (x.e+s.e)⟩
theorem qRM (x:S5) (b:List Int) (hb:b.length=64):qSi x.l b=some (blk x b).l:=by
 have h1:=qdM b hb x.l (wo 5 0) 16 0 [] rfl rfl
 have h2:=qcM x.l (wo 5 0) 64 16 (qUn b 0 16) rfl (by omega) (qYg b 16 0)
 have h3:=qbM x.l (wo 5 0) (sch 64 (qUn b 0 16)) (by rw [qvK,qYg]) 80 0 x rfl
 rw [qBq]
 refine h1.trans ?_
 rw [wU]
 refine Eq.trans h2 (Eq.trans h3 ?_)
 rw [qTP];rfl
def qYR (W:List Int) (t:Nat) (r:List Int):Prop:=r.length=16∧∀i,i<max t 16→max t 16≤i+16→r.getD (i%16) 0=W.getD i 0
theorem qcI {r:List Int} {i j:Nat} {v:Int} (hi:i<r.length):(r.set i v).getD j 0=if i=j then v else r.getD j 0:=by
 simp only [wu,List.getElem?_set]
 by_cases h:i=j
 ·subst h;simp [hi]
 ·simp [h]
theorem qVP (x y W:List Int) (hW:∀t,16≤t→t<80→W.getD t 0=qBN (W.getD (t - 3) 0) (W.getD (t - 8) 0) (W.getD (t - 14) 0) (W.getD (t - 16) 0)):
  ∀(k t:Nat) (s:S5) (r:List Int),t+k=80→qYR W t r→qHo s.a s.b s.c s.d s.e (t:Int) x y r=some (qnS x (qmR W k t s))
 |0,t,s,r,e,hr=>by
  rw [qFu,if_neg (by simp;omega)]
  repeat rw [qda (by omega)]
  rfl
 |k+1,t,s,r,e,hr=>by
  obtain ⟨m1,m2,m3,m4⟩:=qCN t s.b s.c s.d (by omega)
  obtain ⟨r1,r5,r30⟩:=qUw s.a
  obtain ⟨_,_,q30⟩:=qUw s.b
  have et:(wob (t:Int) 16)=((t%16:Nat):Int):=by rw [qfg (by omega)];omega
  have ett:(((t%16:Nat):Int)).toNat=t%16:=by omega
  rw [qFu,if_pos (by simp;omega)]
  by_cases h16:16≤t
  ·have e13:(wob (wd .i64 ((t:Int)+13)) 16)=(((t - 3)%16:Nat):Int):=by rw [w64 (by omega) (by omega),qfg (by omega)];omega
   have e8:(wob (wd .i64 ((t:Int)+8)) 16)=(((t - 8)%16:Nat):Int):=by rw [w64 (by omega) (by omega),qfg (by omega)];omega
   have e2:(wob (wd .i64 ((t:Int)+2)) 16)=(((t - 14)%16:Nat):Int):=by rw [w64 (by omega) (by omega),qfg (by omega)];omega
   have e0:t%16=(t - 16)%16:=by omega
   have v13:=hr.2 (t - 3) (by omega) (by omega)
   have v8:=hr.2 (t - 8) (by omega) (by omega)
   have v2:=hr.2 (t - 14) (by omega) (by omega)
   have v0:=hr.2 (t - 16) (by omega) (by omega)
   rw [←e0] at v0
   have hn:rot (qAb .u32 (qAb .u32 (qAb .u32 (r.getD ((t - 3)%16) 0) (r.getD ((t - 8)%16) 0)) (r.getD ((t - 14)%16) 0)) (r.getD (t%16) 0)) 1=W.getD t 0:=by
    rw [v13,v8,v2,v0,hW t h16 (by omega)];rfl
   rw [if_pos (by simp;omega)]
   simp only [et,e13,e8,e2,(qUw _).1,r5,q30,m1,m2,wq,w64 (x:=(t:Int)+1) (by omega) (by omega),wv,hn]
   repeat rw [qda (by omega)]
   have hr':qYR W (t+1) (r.set (t%16) (W.getD t 0)):=by
    refine ⟨by simp [hr.1],fun i h1 h2=>?_⟩
    rw [qcI (by rw [hr.1];omega)]
    by_cases hi:i=t
    ·subst hi;rw [if_pos rfl]
    ·rw [if_neg (by omega)]
     exact hr.2 i (by omega) (by omega)
   have hg:(r.set (t%16) (W.getD t 0)).getD (t%16) 0=W.getD t 0:=by
    rw [qcI (by rw [hr.1];omega),if_pos rfl]
   have ih:=qVP x y W hW k (t+1) (rd t (W.getD t 0) s) _ (by omega) hr'
   rw [show ((t+1:Nat):Int)=(t:Int)+1 by omega] at ih
   rw [hg]
   exact ih
  ·have v0:=hr.2 t (by omega) (by omega)
   rw [if_neg (by simp;omega)]
   simp only [et,r5,q30,m1,m2,wq,w64 (x:=(t:Int)+1) (by omega) (by omega),wv,v0]
   repeat rw [qda (by omega)]
   have hr':qYR W (t+1) r:=⟨hr.1,fun i h1 h2=>hr.2 i (by omega) (by omega)⟩
   have ih:=qVP x y W hW k (t+1) (rd t (W.getD t 0) s) _ (by omega) hr'
   rw [show ((t+1:Nat):Int)=(t:Int)+1 by omega] at ih
   exact ih
theorem qUP (x:S5) (b:List Int) (hb:64≤b.length) (hB:Bts b):quK x.l b=some (blk x (b.take 64)).l:=by
 have hl:(b.take 64).length=64:=by simp;omega
 have hl':wi (b.take 64).length=64:=by rw [hl];rfl
 rw [qtK,qda (by omega),qda (by simp;omega),hl']
 have h1:=qWQ (b.take 64) hl (hB.take 64) x.l (wo 5 0) 16 0 [] rfl rfl
 refine Eq.trans h1 ?_
 rw [wU,qGu,if_neg (by simp)]
 repeat rw [qda (by omega)]
 have hW:∀t,16≤t→t<80→_:=fun t h1 h2=>qrO 64 (qUn (b.take 64) 0 16) t (by rw [qYg];omega) (by rw [qYg];exact h1) (by rw [qYg];omega)
 have h2:=qVP x.l (wo 5 0) (sch 64 (qUn (b.take 64) 0 16)) hW 80 0 x (qUn (b.take 64) 0 16) rfl ⟨qYg _ _ _,fun i h1 h2=>by
  have hi:i<16:=by omega
  rw [qmr 64 _ i (by rw [qYg];exact hi),Nat.mod_eq_of_lt hi]⟩
 refine Eq.trans h2 ?_
 rfl
def qFk (l:List Int) (i:Nat):Int:=wd .u8 (qcl .u32 (l.getD (i/4) 0) (24 - 8*((i%4:Nat):Int)))
def quN (l:List Int) (t:Nat):Nat→List Int
 |0=>[]
 |k+1=>qFk l t::quN l (t+1) k
theorem qJH (l:List Int):∀(k t:Nat),(quN l t k).length=k
 |0,t=>rfl
 |k+1,t=>by simp [quN,qJH l k]
theorem qKH (l:List Int):∀(k t:Nat),Bts (quN l t k)
 |0,t=>Bts.nil
 |k+1,t=>Bts.cons (qgQ _) (qKH l k _)
theorem qCQ (x l:List Int):∀(k t:Nat) (P:List Int),t+k=20→P.length=t→qnf (t:Int) x l (P++wo k 0)=some (P++quN l t k)
 |0,t,P,e,hl=>by
  rw [qEj,if_neg (by simp;omega)];rfl
 |k+1,t,P,e,hl=>by
  have e1:wd .i64 (wFa (t:Int) 4)=((t/4:Nat):Int):=by
   rw [qbm (by omega),w64 (by omega) (by omega)];omega
  have e2:wd .i64 (8*(wob (t:Int) 4))=8*((t%4:Nat):Int):=by
   rw [qfg (by omega),w64 (by omega) (by omega)];omega
  have e3:wd .i64 (24 - 8*((t%4:Nat):Int))=24 - 8*((t%4:Nat):Int):=w64 (by omega) (by omega)
  rw [qEj,if_pos (by simp;omega),e1,e2,e3,w64 (x:=(t:Int)+1) (by omega) (by omega)]
  repeat rw [qda (by omega)]
  rw [show ((t:Int)).toNat=P.length by omega,show (((t/4:Nat):Int)).toNat=t/4 by omega,wIa,qBt]
  have ih:=qCQ x l k (t+1) (P++[qFk l t]) (by omega) (by simp;omega)
  rw [show ((t+1:Nat):Int)=(t:Int)+1 by omega] at ih
  simp only [wy,List.singleton_append] at ih
  exact ih
theorem qoO (l:List Int):∀(k t:Nat) (P:List Int),t+k=5→P.length=4*t→qdq l (t:Int) (P++wo (4*k) 0)=some (P++quN l (4*t) (4*k),0)
 |0,t,P,e,hl=>by
  rw [qks,if_neg (by simp;omega)];rfl
 |k+1,t,P,e,hl=>by
  rw [qks,if_pos (by simp;omega)]
  simp only [w64 (x:=4*(t:Int)) (by omega) (by omega),w64 (x:=4*(t:Int)+1) (by omega) (by omega),w64 (x:=4*(t:Int)+2) (by omega) (by omega),w64 (x:=4*(t:Int)+3) (by omega) (by omega),w64 (x:=(t:Int)+1) (by omega) (by omega)]
  repeat rw [qda (by omega)]
  rw [show ((t:Int)).toNat=t by omega,show (4*(t:Int)).toNat=P.length by omega]
  have s0:wd .u8 (wX (l.getD t 0) 16777216)=qFk l (4*t):=by
   unfold qFk qcl
   rw [show 4*t/4=t by omega,show 4*t%4=0 by omega];rfl
  have s1:wd .u8 (wX (l.getD t 0) 65536)=qFk l (4*t+1):=by
   unfold qFk qcl
   rw [show (4*t+1)/4=t by omega,show (4*t+1)%4=1 by omega];rfl
  have s2:wd .u8 (wX (l.getD t 0) 256)=qFk l (4*t+2):=by
   unfold qFk qcl
   rw [show (4*t+2)/4=t by omega,show (4*t+2)%4=2 by omega];rfl
  have s3:wd .u8 (l.getD t 0)=qFk l (4*t+3):=by
   unfold qFk qcl
   rw [show (4*t+3)/4=t by omega,show (4*t+3)%4=3 by omega]
   have:(2:Int) ^ (min ((24:Int) - 8*((3:Nat):Int)).toNat (IntKind.bits .u32))=1:=rfl
   rw [this,Int.fdiv_one]
  rw [s0,s1,s2,s3,show 4*(k+1)=4*k+1+1+1+1 by omega,wIa,wIa,wIa,wIa,qBt]
  have a1:=qBt (P++[qFk l (4*t)]) 0 (qFk l (4*t+1)) (0::0::wo (4*k) 0)
  have a2:=qBt (P++[qFk l (4*t),qFk l (4*t+1)]) 0 (qFk l (4*t+2)) (0::wo (4*k) 0)
  have a3:=qBt (P++[qFk l (4*t),qFk l (4*t+1),qFk l (4*t+2)]) 0 (qFk l (4*t+3)) (wo (4*k) 0)
  simp only [wy,wea,wU,wm,wB,wT] at a1 a2 a3
  rw [show (4*(t:Int)+1).toNat=P.length+(0+1) by omega,a1,show (4*(t:Int)+2).toNat=P.length+(0+1+1) by omega,a2,show (4*(t:Int)+3).toNat=P.length+(0+1+1+1) by omega,a3]
  have ih:=qoO l k (t+1) (P++[qFk l (4*t),qFk l (4*t+1),qFk l (4*t+2),qFk l (4*t+3)]) (by omega) (by simp;omega)
  rw [show ((t+1:Nat):Int)=(t:Int)+1 by omega] at ih
  simp only [wy,wea,wU] at ih
  exact ih
def qdR:Nat→S5→List Int→S5
 |0,x,_=>x
 |k+1,x,m=>qdR k (blk x (m.take 64)) (m.drop 64)
theorem qpO:∀(k:Nat) (x:S5) (m:List Int),m.length=64*k→Bts m→qeq m (wo 20 0) x.l=some (quN (qdR k x m).l 0 20,0)
 |0,x,m,hl,hB=>by
  obtain rfl:m=[]:=List.eq_nil_of_length_eq_zero (by omega)
  rw [qls,if_neg (by simp)]
  exact qoO x.l 5 0 [] rfl rfl
 |k+1,x,m,hl,hB=>by
  rw [qls,if_pos (by rw [decide_eq_true_eq];have:wi m.length=(m.length:Int):=rfl;omega),qUP x m (by omega) hB]
  simp only [wq]
  rw [qda (by omega),qda (by simp;omega)]
  exact qpO k _ (m.drop 64) (by simp;omega) (hB.drop 64)
theorem qDQ (x0 m:List Int) (K:Nat) (hm:m.length=64*K) (hK:K≤100000):∀(k t:Nat) (x:S5),t+k=K→qof (64*(t:Int)) x0 m x.l=some (quN (qdR k x (m.drop (64*t))).l 0 20)
 |0,t,x,e=>by
  have hl:wi m.length=(64*K:Nat):=by rw [hm];rfl
  rw [qFj,hl,if_neg (by simp;omega)]
  exact qCQ x0 x.l 20 0 [] rfl rfl
 |k+1,t,x,e=>by
  have hl:wi m.length=(64*K:Nat):=by rw [hm];rfl
  rw [qFj,hl,if_pos (by simp;omega),w64 (by omega) (by omega)]
  repeat rw [qda (by omega)]
  rw [show (64*(t:Int)+64).toNat - (64*(t:Int)).toNat=64 by omega,show 0+(64*(t:Int)).toNat=64*t by omega,qRM x _ (by simp;omega)]
  simp only [wq]
  have ih:=qDQ x0 m K hm hK k (t+1) (blk x ((m.drop (64*t)).take 64)) (by omega)
  rw [show 64*((t+1:Nat):Int)=64*(t:Int)+64 by omega] at ih
  rw [ih]
  simp only [qdR,wja]
  rw [show 64*(t+1)=64*t+64 by omega]
def iv:S5:=⟨1732584193,4023233417,2562383102,271733878,3285377520⟩
def qkk (a:List Int):List Int:=quN (qdR ((a++qIH a.length).length/64) iv (a++qIH a.length)).l 0 20
theorem qFh (a:List Int):(qkk a).length=20:=qJH _ _ _
theorem qqB (a:List Int):Bts (qkk a):=qKH _ _ _
theorem qiz (a:List Int) (h:a.length≤1000000):qKc a=some (qkk a):=by
 have hp:=qHH (a.length:Int) (by omega)
 have ha:wi a.length=(a.length:Int):=rfl
 rw [qlt,qda (by simp;omega),ha,qRD _ ⟨by omega,by omega⟩]
 simp only [wq,qTp,wU]
 rw [qda (by simp;omega)]
 have hm:(a++qIH a.length).length=64*((a++qIH a.length).length/64):=by
  simp only [wm];omega
 exact qDQ (wo 20 0) (a++qIH a.length) _ hm (by simp only [wm];omega) _ 0 iv (by omega)
theorem qpw (a:List Int) (hB:Bts a):qAt a=some (if a.length≤20000 then (qkk a,0) else (wo 20 0,4)):=by
 have ha:wi a.length=(a.length:Int):=rfl
 rw [qRI,ha]
 by_cases h:a.length≤20000
 ·have hp:=qHH (a.length:Int) (by omega)
  rw [if_neg (by simp;omega),if_pos h,qpD _ (by omega)]
  simp only [wq]
  rw [qLJ _ _ (by omega)]
  simp only [wq]
  have hm:(a++qIH a.length).length=64*((a++qIH a.length).length/64):=by
   simp only [wm];omega
  exact qpO _ iv (a++qIH a.length) hm (hB.append (qtN _))
 ·rw [if_pos (by simp;omega),if_neg h]
def hOK (h:qga):Prop:=0≤h.2.1∧h.2.1<16∧1≤h.2.2.2.1∧h.2.2.2.1≤4096∧0≤h.2.2.1∧h.2.2.1+h.2.2.2.1≤8192∧((h.1=1∧h.2.2.2.2.1=h.2.2.2.1)∨(h.1=2∧0<h.2.2.2.2.1∧h.2.2.2.2.1<h.2.2.2.1))
instance (h:qga):Decidable (hOK h):=by unfold hOK;infer_instance
def hC (h:qga):Int:=if hOK h then 0 else 8
theorem qre (h:qga):qch h=some (hC h):=by
 rw [qhy]
 obtain ⟨m,mem,off,raw,len,sum,u⟩:=h
 simp only [hC,decide_eq_true_eq,beq_iff_eq]
 by_cases hr:1≤raw∧raw≤4096
 ·rw [w64 (by omega) (by omega)]
  by_cases ok:hOK (m,mem,off,raw,len,sum,u)
  ·rw [if_pos ok];simp only [hOK] at ok
   rw [if_neg (by omega),if_neg (by omega),if_neg (by omega),if_neg (by omega),if_neg (by omega),if_neg (by omega)]
   rcases ok.2.2.2.2.2.2 with ⟨h1,h2⟩|⟨h1,h2,h3⟩
   ·rw [if_pos h1,if_pos h2,if_pos h2]
   ·rw [if_neg (by omega),if_pos h1,if_pos h2,if_pos h3]
  ·rw [if_neg ok];simp only [hOK] at ok
   by_cases h1:mem<0
   ·rw [if_pos h1]
   by_cases h2:mem≥16
   ·rw [if_neg h1,if_pos h2,if_pos h2]
   by_cases h3:off<0
   ·rw [if_neg h1,if_neg h2,if_neg (by omega),if_neg (by omega),if_pos h3]
   by_cases h4:off>8192 - raw
   ·rw [if_neg h1,if_neg h2,if_neg (by omega),if_neg (by omega),if_neg h3,if_pos h4]
   rw [if_neg h1,if_neg h2,if_neg (by omega),if_neg (by omega),if_neg h3,if_neg h4]
   by_cases h5:m=1
   ·rw [if_pos h5,if_neg (by omega),if_neg (by omega)]
   by_cases h6:m=2
   ·rw [if_neg h5,if_pos h6]
    by_cases h7:len>0
    ·rw [if_pos h7,if_neg (by omega)]
    ·rw [if_neg h7]
   ·rw [if_neg h5,if_neg h6]
 ·rw [if_neg (show ¬hOK (m,mem,off,raw,len,sum,u) from fun ok=>hr (by simp only [hOK] at ok;omega))]
  by_cases h1:mem<0
  ·rw [if_pos h1]
  by_cases h2:mem≥16
  ·rw [if_neg h1,if_pos h2,if_pos h2]
  by_cases h3:raw<1
  ·rw [if_neg h1,if_neg h2,if_pos h3]
  ·rw [if_neg h1,if_neg h2,if_neg h3,if_pos (by omega),if_pos (by omega)]
theorem qrv (h:qga):qoi h=some (hC h):=by
 rw [qQp]
 obtain ⟨m,mem,off,raw,len,sum,u⟩:=h
 simp only [hC,decide_eq_true_eq,beq_iff_eq,wUa,decide_eq_false_iff_not,beq_eq_false_iff_ne]
 by_cases hr:1≤raw∧raw≤4096
 ·rw [w64 (by omega) (by omega)]
  by_cases ok:hOK (m,mem,off,raw,len,sum,u)
  ·rw [if_pos ok];simp only [hOK] at ok
   rw [if_neg (by omega),if_neg (by omega),if_neg (by omega),if_neg (by omega),if_neg (by omega),if_neg (by omega)]
   rcases ok.2.2.2.2.2.2 with ⟨h1,h2⟩|⟨h1,h2,h3⟩
   ·rw [if_pos h1,if_neg (by omega),if_neg (by omega)]
   ·rw [if_neg (by omega),if_pos h1,if_pos (by omega),if_neg (by omega)]
  ·rw [if_neg ok];simp only [hOK] at ok
   by_cases h1:mem<0
   ·rw [if_pos h1]
   by_cases h2:mem≥16
   ·rw [if_neg h1,if_pos h2]
   by_cases h3:off<0
   ·rw [if_neg h1,if_neg h2,if_neg (by omega),if_neg (by omega),if_pos h3]
   by_cases h4:off>8192 - raw
   ·rw [if_neg h1,if_neg h2,if_neg (by omega),if_neg (by omega),if_neg h3,if_pos h4]
   rw [if_neg h1,if_neg h2,if_neg (by omega),if_neg (by omega),if_neg h3,if_neg h4]
   by_cases h5:m=1
   ·rw [if_pos h5,if_neg (by omega),if_pos (by omega)]
   by_cases h6:m=2
   ·rw [if_neg h5,if_pos h6]
    by_cases h7:len≥1
    ·rw [if_pos h7,if_pos (by omega)]
    ·rw [if_neg h7]
   ·rw [if_neg h5,if_neg h6]
 ·rw [if_neg (show ¬hOK (m,mem,off,raw,len,sum,u) from fun ok=>hr (by simp only [hOK] at ok;omega))]
  by_cases h1:mem<0
  ·rw [if_pos h1]
  by_cases h2:mem≥16
  ·rw [if_neg h1,if_pos h2]
  by_cases h3:raw<1
  ·rw [if_neg h1,if_neg h2,if_pos h3]
  ·rw [if_neg h1,if_neg h2,if_neg h3,if_pos (by omega)]
def bC (b:qca):Int:=if hOK b.1∧(b.2.1.length:Int)=b.1.2.2.2.2.1 then 0 else 8
theorem qLN (h:qga):(hC h != 0)=true↔¬hOK h:=by
 unfold hC;split <;> simp_all
theorem qoo (b:qca):qTr b=some (bC b):=by
 rw [qtA,qre]
 simp only [wq,qLN]
 simp only [bC,bne_iff_ne,ne_eq,wj]
 by_cases h1:hOK b.1 <;> by_cases h2:(b.2.1.length:Int)=b.1.2.2.2.2.1 <;> simp [h1,h2]
def fr8 (h:qga):List Int:=[h.1%256,h.2.1%256,(h.2.2.1/256)%256,h.2.2.1%256,(h.2.2.2.1/256)%256,h.2.2.2.1%256,(h.2.2.2.2.1/256)%256,h.2.2.2.2.1%256]
theorem qeS (a:Int):qcl .i64 a 0=a:=by rw [qsK _ _ (by omega) (by omega)];simp
theorem qoS (a:Int):qcl .i64 a 8=a/256:=by rw [qsK _ _ (by omega) (by omega)];rfl
theorem qZJ (n:Int) (h:-9223372036854775808≤n∧n≤9223372036854775807):wd .i64 n=n:=w64 h.1 h.2
theorem qvE (v18:List Int) (v19:Int) (h8:List Int) (v:Int) (h0:0≤v19) (h4:v19<5) (hw:G_widths.getD v19.toNat 0=1) (hv:v18.getD v19.toNat 0=v) (hl:h8.length≤100):
  qod v18 v19 h8=qod v18 (v19+1) (h8++[v%256]):=by
 rw [qOh,if_pos (by simpa using h4),qda h0,qda h4,qda h0,qda h4,hw,hv]
 rw [qOd,if_pos (by decide),qda h0,qda h4,hw]
 rw [qZJ ((1:Int) - 1) (by omega),qZJ ((1:Int) - 1 - 0) (by omega),qZJ ((8:Int)*(1 - 1 - 0)) (by omega),qZJ ((0:Int)+1) (by omega)]
 rw [qda (by omega),qda (by simp;omega)]
 rw [qOd,if_neg (by decide),w64 (x:=v19+1) (by omega) (by omega),wu8]
 rw [show (8*(1 - 1 - 0):Int)=0 by decide,qeS]
theorem qoy (v18:List Int) (v19:Int) (h8:List Int) (v:Int) (h0:0≤v19) (h4:v19<5) (hw:G_widths.getD v19.toNat 0=2) (hv:v18.getD v19.toNat 0=v) (hl:h8.length≤100):
  qod v18 v19 h8=qod v18 (v19+1) (h8++[(v/256)%256,v%256]):=by
 rw [qOh,if_pos (by simpa using h4),qda h0,qda h4,qda h0,qda h4,hw,hv]
 rw [qOd,if_pos (by decide),qda h0,qda h4,hw]
 rw [qZJ ((2:Int) - 1) (by omega),qZJ ((2:Int) - 1 - 0) (by omega),qZJ ((8:Int)*(2 - 1 - 0)) (by omega),qZJ ((0:Int)+1) (by omega)]
 rw [qda (by omega),qda (by simp;omega)]
 rw [qOd,if_pos (by decide),qda h0,qda h4,hw]
 rw [qZJ ((2:Int) - 1) (by omega),qZJ ((2:Int) - 1 - (0+1)) (by omega),qZJ ((8:Int)*(2 - 1 - (0+1))) (by omega),qZJ ((0:Int)+1+1) (by omega)]
 rw [qda (by omega),qda (by simp;omega)]
 rw [qOd,if_neg (by decide),w64 (x:=v19+1) (by omega) (by omega),wu8,wu8]
 rw [show (8*(2 - 1 - 0):Int)=8 by decide,show (8*(2 - 1 - (0+1)):Int)=0 by decide,qeS,qoS]
 simp
theorem qau (h:qga) (hm:0≤h.1∧h.1<256):qip h=some (fr8 h):=by
 rw [qfy,w64 (by omega) (by omega)]
 simp only [wo,List.set_cons_zero,List.set_cons_succ]
 rw [qvE _ 0 _ h.1 (by decide) (by decide) (by decide) rfl (by decide)]
 rw [qvE _ (0+1) _ h.2.1 (by decide) (by decide) (by decide) rfl (by simp)]
 rw [qoy _ (0+1+1) _ h.2.2.1 (by decide) (by decide) (by decide) rfl (by simp)]
 rw [qoy _ (0+1+1+1) _ h.2.2.2.1 (by decide) (by decide) (by decide) rfl (by simp)]
 rw [qoy _ (0+1+1+1+1) _ h.2.2.2.2.1 (by decide) (by decide) (by decide) rfl (by simp)]
 rw [qOh,if_neg (by decide)]
 simp [fr8]
theorem qZn (h:qga) (hm:0≤h.1∧h.1<256):qlf h=some (fr8 h):=by
 rw [qPp]
 simp only [qUr,wu8,qIg _ (show (0:Int)<256 by decide)]
 rw [qda (by decide)]
 simp only [wq]
 rw [qda (by simp),qda (by decide)]
 simp only [wq]
 rw [qda (by simp),qda (by decide)]
 simp only [wq]
 rw [qda (by simp)]
 simp only [fr8,wea,wU]
 rw [Int.emod_eq_of_lt hm.1 hm.2]
def mark:List Int:=[183,98,105,116,108,111,102,116,32,98,108,107,10]
theorem qWt:qfp=some mark:=by rw [qRx,qda (by decide)];rfl
theorem qao:qmf=some mark:=by rw [qSp];rfl
def hB (h:qga):List Int:=fr8 h++h.2.2.2.2.2.1
theorem qdu (h:qga):(fr8 h).length=8:=rfl
def bB (b:qca):List Int:=mark++hB b.1++b.2.1
def bWf (b:qca):Prop:=(0≤b.1.1∧b.1.1<256)∧b.1.2.2.2.2.2.1.length=20
theorem qLH (a b:Nat) (ha:a<4294967296) (hb:b<256):qlc .i64 ((a:Int)*256) (b:Int)=(a:Int)*256+b:=by
 unfold qlc
 have h1:wG 64 ((a:Int)*256)=BitVec.ofNat 64 (a*256):=by
  rw [show (a:Int)*256=((a*256:Nat):Int) by omega];exact BitVec.ofInt_natCast _ _
 have h2:wG 64 (b:Int)=BitVec.ofNat 64 b:=BitVec.ofInt_natCast _ _
 show wd .i64 ((wG 64 ((a:Int)*256) ||| wG 64 (b:Int)).toNat:Int)=_
 rw [h1,h2,BitVec.toNat_or,BitVec.toNat_ofNat,BitVec.toNat_ofNat,Nat.mod_eq_of_lt (by omega),Nat.mod_eq_of_lt (by omega)]
 have h3:=Nat.two_pow_add_eq_or_of_lt (i:=8) (b:=b) (by omega) a
 rw [show a*256=2 ^ 8*a by omega,←h3,w64 (by omega) (by omega)]
 omega
theorem qvN {x y:Int} (hx:0≤x∧x<4294967296) (hy:0≤y∧y<256):qlc .i64 (x*256) y=x*256+y:=by
 obtain ⟨a,rfl⟩:=whb hx.1
 obtain ⟨b,rfl⟩:=whb hy.1
 exact qLH a b (by omega) (by omega)
theorem quE {α:Type} (xs:List α) (i:Nat) (x d:α) (h:i<xs.length):(xs.set i x).getD i d=x:=by
 simp [wk,h]
theorem Bts.getD {xs:List Int} (h:Bts xs) (i:Nat):0≤xs.getD i 0∧xs.getD i 0<256:=by
 by_cases hi:i<xs.length
 ·simp only [wu,wx hi,wSa];exact h _ (List.getElem_mem hi)
 ·simp [wu,wrb (by omega:xs.length≤i)]
theorem qMt (v0:List Int) (v5 v17 v18:Int) (b8:qga) (b9:List Int) (h0:0≤v5) (h5:v5<5) (hlt:v18<v17) (h18:0≤v18) (h17:v17≤2) (hb:Bts v0) (hl:0<v0.length) (hx:0≤b9.getD v5.toNat 0∧b9.getD v5.toNat 0<256):
  qLf v0 v5 G_widths v5 v17 v18 b8 b9=qLf (v0.drop 1) v5 G_widths v5 v17 (v18+1) b8 (b9.set v5.toNat (b9.getD v5.toNat 0*256+v0.getD 0 0)):=by
 have hy:=hb.getD 0
 rw [qPh,if_pos (by simpa using hlt)]
 rw [qda h0,qda h5,qda (by decide),qda (by decide),qda (by simp only [wj];omega),qda h0,qda h5,qda (by decide),qda (by simp only [wj];omega)]
 rw [w64 (x:=v18+1) (by omega) (by omega),w64 (x:=b9.getD v5.toNat 0*256) (by omega) (by omega),w64 (x:=v0.getD 0 0) (by omega) (by omega),qvN ⟨hx.1,by omega⟩ hy]
theorem qQD (v0:List Int) (v5:Int) (b8:qga) (b9:List Int) (h0:0≤v5) (h5:v5<5) (hw:G_widths.getD v5.toNat 0=1) (hb:Bts v0) (hl:0<v0.length) (hx:b9.getD v5.toNat 0=0) (hn:b9.length=5):
  qpd v0 G_widths v5 b8 b9=qpd (v0.drop 1) G_widths (v5+1) b8 (b9.set v5.toNat (v0.getD 0 0)):=by
 rw [qQh,if_pos (by simpa using h5),qda h0,qda h5,hw,qMt v0 v5 1 0 b8 b9 h0 h5 (by decide) (by decide) (by decide) hb hl (by rw [hx];decide)]
 rw [qPh,if_neg (by decide),w64 (x:=v5+1) (by omega) (by omega),hx,Int.zero_mul,Int.zero_add]
theorem qpx (v0:List Int) (v5:Int) (b8:qga) (b9:List Int) (h0:0≤v5) (h5:v5<5) (hw:G_widths.getD v5.toNat 0=2) (hb:Bts v0) (hl:1<v0.length) (hx:b9.getD v5.toNat 0=0) (hn:b9.length=5):
  qpd v0 G_widths v5 b8 b9=qpd (v0.drop 2) G_widths (v5+1) b8 (b9.set v5.toNat (v0.getD 0 0*256+v0.getD 1 0)):=by
 have hy:=hb.getD 0
 have hi:v5.toNat<b9.length:=by omega
 have hg:(v0.drop 1).getD 0 0=v0.getD 1 0:=by simp [wu]
 rw [qQh,if_pos (by simpa using h5),qda h0,qda h5,hw,qMt v0 v5 2 0 b8 b9 h0 h5 (by decide) (by decide) (by decide) hb (by omega) (by rw [hx];decide)]
 rw [hx,Int.zero_mul,Int.zero_add (v0.getD 0 0)]
 rw [qMt (v0.drop 1) v5 2 (0+1) b8 _ h0 h5 (by decide) (by decide) (by decide) (hb.drop 1) (by simp;omega) (by rw [quE _ _ _ _ hi];exact hy)]
 rw [qPh,if_neg (by decide),w64 (x:=v5+1) (by omega) (by omega),quE _ _ _ _ hi,List.set_set,wja,hg]
def zH:qga:=(0,(0,(0,(0,(0,(wo 20 0,()))))))
def pH (a:List Int):qga:=(a.getD 0 0,(a.getD 1 0,(a.getD 2 0*256+a.getD 3 0,(a.getD 4 0*256+a.getD 5 0,(a.getD 6 0*256+a.getD 7 0,(a.drop 8,()))))))
def pP (a:List Int):qga×Int:=if a.length=28∧hOK (pH a) then (pH a,0) else (zH,12)
theorem qZL (a:List Int) (k i:Nat):(a.drop k).getD i 0=a.getD (k+i) 0:=by simp [wu]
theorem qSm (a:List Int) (hb:Bts a):qkp a=some (pP a):=by
 rw [qgy]
 by_cases hl:a.length=28
 ·rw [if_neg (by simp [hl])]
  have hrep:(wo 5 (0:Int))=[0,0,0,0,0]:=rfl
  rw [hrep]
  rw [qQD a 0 _ _ (by decide) (by decide) (by decide) hb (by omega) (by decide) (by decide)]
  rw [qQD (a.drop 1) (0+1) _ _ (by decide) (by decide) (by decide) (hb.drop 1) (by simp;omega) (by simp) (by simp)]
  rw [qpx _ (0+1+1) _ _ (by decide) (by decide) (by decide) ((hb.drop 1).drop 1) (by simp;omega) (by simp) (by simp)]
  rw [qpx _ (0+1+1+1) _ _ (by decide) (by decide) (by decide) (((hb.drop 1).drop 1).drop 2) (by simp;omega) (by simp) (by simp)]
  rw [qpx _ (0+1+1+1+1) _ _ (by decide) (by decide) (by decide) ((((hb.drop 1).drop 1).drop 2).drop 2) (by simp;omega) (by simp) (by simp)]
  rw [qQh,if_neg (by decide)]
  iterate 10 rw [qda (by decide)]
  simp only [wja,qZL]
  have h0:=hb.getD 0
  have hsp:qKb (wo 20 (0:Int)) 0 (wK (min (wW (1+1+2+2+2) a).length 20) (wW (1+1+2+2+2) a))=a.drop 8:=by
   have hln:(a.drop 8).length=20:=by simp [hl]
   show qKb (wo 20 (0:Int)) 0 (wK (min (a.drop 8).length 20) (a.drop 8))=a.drop 8
   rw [hln,wN (by omega)]
   unfold qKb
   simp [hl]
  rw [hsp]
  have e0:(([0,0,0,0,0]:List Int).set (wn 0) (a.getD 0 0) |>.set (wn (0+1)) (a.getD (1+0) 0) |>.set (wn (0+1+1)) (a.getD (1+1+0) 0*256+a.getD (1+1+1) 0) |>.set (wn (0+1+1+1)) (a.getD (1+1+2+0) 0*256+a.getD (1+1+2+1) 0) |>.set (wn (0+1+1+1+1)) (a.getD (1+1+2+2+0) 0*256+a.getD (1+1+2+2+1) 0))=[a.getD 0 0,a.getD 1 0,a.getD 2 0*256+a.getD 3 0,a.getD 4 0*256+a.getD 5 0,a.getD 6 0*256+a.getD 7 0]:=rfl
  rw [e0]
  simp only [wpb,List.getD_cons_succ,wu8,Int.emod_eq_of_lt h0.1 h0.2]
  rw [qre]
  show (some (hC (pH a))).bind _=_
  simp only [wq,qLN]
  unfold pP
  by_cases ok:hOK (pH a)
  ·rw [if_neg (by simpa using ok),if_pos ⟨hl,ok⟩];rfl
  ·rw [if_pos ok,if_neg (fun h=>ok h.2)];rfl
 ·rw [if_pos (by simp;omega)]
  unfold pP
  rw [if_neg (fun h=>hl h.1)];rfl
theorem qDN:Bts mark:=by
 intro x hx
 simp [mark] at hx
 omega
theorem qbj:mark.length=13:=rfl
theorem qPq (a:List Int) (hb:Bts a) (h1:41≤a.length) (h2:a.length≤50000):qSx a 0=some (decide (a.take 13=mark),0):=by
 rw [qgE,qQx,if_neg (by simp;omega),if_neg (by decide),if_neg (by simp)]
 simp only [wq]
 rw [if_neg (by decide),qda (by decide),qda (by simp),qWt]
 simp only [wq]
 rw [qTl,if_pos (by simp [qbj];omega),qda (by simp),qda (by simp [qbj];omega),qwm]
 simp only [wq]
 rw [qNN ((hb.drop _).take _) qDN]
 rfl
def rdK (a:List Int):qca×Int×Int:=
 if a.length>50000 then ((zH,([],())),(0,4)) else if a.length<41 then ((zH,([],())),(0,18))
 else if a.take 13≠mark∨¬hOK (pH ((a.drop 13).take 28)) then ((zH,([],())),(0,12))
 else if (a.length:Int)<41+(pH ((a.drop 13).take 28)).2.2.2.2.1 then ((zH,([],())),(0,18))
 else ((pH ((a.drop 13).take 28),((a.drop 41).take (pH ((a.drop 13).take 28)).2.2.2.2.1.toNat,())),(41+(pH ((a.drop 13).take 28)).2.2.2.2.1,0))
theorem qMk {h:qga} (ok:hOK h):1≤h.2.2.2.2.1∧h.2.2.2.2.1≤4096:=by unfold hOK at ok;omega
theorem qCP (a:List Int) (h:41≤a.length):pP ((a.drop 13).take 28)=if hOK (pH ((a.drop 13).take 28)) then (pH ((a.drop 13).take 28),0) else (zH,12):=by
 have hl:((a.drop 13).take 28).length=28:=by simp;omega
 unfold pP
 simp only [hl,true_and]
theorem qYy (a:List Int) (hb:Bts a):qdn a=some (rdK a):=by
 rw [qgt]
 unfold rdK
 by_cases h1:a.length>50000
 ·rw [if_pos (by simp;omega),if_pos h1];rfl
 rw [if_neg (by simp;omega),if_neg h1]
 by_cases h2:a.length<41
 ·rw [if_pos (by simp;omega),if_pos h2];rfl
 rw [if_neg (by simp;omega),if_neg h2,qda (by decide),qda (by decide),qda (by simp only [wj];omega),qSm _ ((hb.drop _).take _),qCP a (by omega),qPq a hb (by omega) (by omega)]
 simp only [wq]
 by_cases h3:a.take 13=mark
 ·by_cases ok:hOK (pH ((a.drop 13).take 28))
  ·have hlen:=qMk ok
   rw [if_pos ok,if_neg (by simp [h3]),if_neg (by simp),if_neg (show ¬(a.take 13≠mark∨¬hOK (pH ((a.drop 13).take 28))) from fun h=>h.elim (fun h=>h h3) (fun h=>h ok))]
   generalize pH ((a.drop 13).take 28)=h at ok hlen ⊢
   simp only
   rw [w64 (x:=41+h.2.2.2.2.1) (by omega) (by omega)]
   by_cases h4:(a.length:Int)<41+h.2.2.2.2.1
   ·rw [if_pos (by simpa using h4),if_pos h4];rfl
   ·rw [if_neg (by simpa using h4),if_neg h4,qda (by decide),qda (by omega),qda (by simp only [wj];omega),qhk _ (by simp;omega)]
    have e:wn (41+h.2.2.2.2.1) - 41=h.2.2.2.2.1.toNat:=by omega
    simp only [wq,e]
  ·rw [if_neg ok,if_neg (by simp [h3]),if_pos (by simp),if_pos (show (a.take 13≠mark∨¬hOK (pH ((a.drop 13).take 28))) from .inr ok)];rfl
 ·rw [if_pos (by simp [h3]),if_pos (show (a.take 13≠mark∨¬hOK (pH ((a.drop 13).take 28))) from .inl h3)];rfl
theorem qIP (h:qga):Bts (fr8 h):=by
 intro x hx
 simp only [fr8,waa,List.not_mem_nil,or_false] at hx
 omega
theorem qFl (h:qga) (hm:0≤h.1∧h.1<256) (raw:List Int) (hb:Bts raw) (hl:raw.length≤19000):qFn h raw=some (qkk (fr8 h++raw)):=by
 rw [qIv,qau h hm,wq]
 have hL:(fr8 h++raw).length=raw.length+8:=by rw [wm,qdu];omega
 rw [qda (by rw [hL];omega),qpw _ (Bts.append (qIP h) hb),if_pos (by rw [hL];omega),wq]
def qtQ (m a1 a2 raw len:Int) (z:List Int):qga:=(m,(a1,(a2,(raw,(len,(qkk (fr8 (m,(a1,(a2,(raw,(len,(wo 20 0,()))))))++z),()))))))
def qen (a1 a2:Int) (z:List Int):qca:=(qtQ 1 a1 a2 z.length z.length z,(z,()))
def mOK (a1 a2:Int) (z:List Int):Prop:=0≤a1∧a1<16∧1≤z.length∧z.length≤4096∧0≤a2∧a2+z.length≤8192
instance (a1 a2:Int) (z:List Int):Decidable (mOK a1 a2 z):=by unfold mOK;infer_instance
theorem qoJ {a1 a2:Int} {z:List Int} (h:mOK a1 a2 z) (s:List Int):hOK (1,(a1,(a2,((z.length:Int),((z.length:Int),(s,())))))):=by
 unfold mOK at h
 exact ⟨h.1,h.2.1,by simp only;omega,by simp only;omega,h.2.2.2.2.1,h.2.2.2.2.2,Or.inl ⟨rfl,rfl⟩⟩
theorem qUu (l:Int):qOn l=some (decide (0≤l∧l≤7)):=by
 rw [qUv]
 by_cases h:0≤l
 ·rw [if_pos (by simpa using h)]
  exact congrArg some (by simp [h])
 ·rw [if_neg (by simpa using h)]
  exact congrArg some (by simp [h])
theorem qnK {a1 a2:Int} {z:List Int} (hm:mOK a1 a2 z):bC (qen a1 a2 z)=0:=if_pos ⟨qoJ hm _,rfl⟩
theorem qvt (a1 a2:Int) (z:List Int):bWf (qen a1 a2 z):=⟨⟨by show (0:Int)≤1;decide,by show (1:Int)<256;decide⟩,qFh _⟩
theorem qVK {xs ys:List Int}:qbD (peq (.int .u8)) xs ys=true→xs=ys:=by
 intro h
 induction xs generalizing ys with
 |nil=>cases ys with
  |nil=>rfl
  |cons y ys=>exact absurd h (by simp [qbD])
 |cons x xs ih=>cases ys with
  |nil=>exact absurd h (by simp [qbD])
  |cons y ys=>
   rw [qbD,wz] at h
   have h1:x=y:=by have:=h.1;rw [peq] at this;exact of_decide_eq_true this
   rw [h1,ih h.2]
theorem qrN (xs ys:List Int):qbD (peq (.int .u8)) xs ys=decide (xs=ys):=by
 by_cases h:xs=ys
 ·subst h
  rw [decide_eq_true rfl]
  exact qvs (fun x=>by rw [peq];exact decide_eq_true rfl) _
 ·rw [decide_eq_false h]
  cases hq:qbD (peq (.int .u8)) xs ys with
  |false=>rfl
  |true=>exact absurd (qVK hq) h
theorem qSz {h:qga} (ok:hOK h) (hm:0≤h.1∧h.1<256) {z:List Int} (hb:Bts z) (hl:(z.length:Int)=h.2.2.2.1):qtj h z=some (decide (qkk (fr8 h++z)=h.2.2.2.2.2.1),0):=by
 have hz:z.length≤4096:=by unfold hOK at ok;omega
 have hc:hC h=0:=if_pos ok
 rw [qjp]
 refine Tot.eq (ue (qre h) (ud hc (ux hl (ue (qFl h hm z hb (by omega)) (ub ?_)))))
 rw [peq,qrN]
theorem qWJ {l:Int} {b:qca} (hl:0≤l∧l≤7) (h1:b.1.1=1) (hc:bC b=0) (hb:Bts b.2.1):qxg l b=some (if qkk (fr8 b.1++b.2.1)=b.1.2.2.2.2.2.1 then (b.2.1,0) else ([],22)):=by
 have ok:hOK b.1∧(b.2.1.length:Int)=b.1.2.2.2.2.1:=by
  unfold bC at hc;split at hc
  ·assumption
  ·cases hc
 have hlen:b.1.2.2.2.2.1=b.1.2.2.2.1:=by
  rcases ok.1.2.2.2.2.2.2 with h|h
  ·exact h.2
  ·omega
 have hz:b.2.1.length≤4096:=by have:=ok.1.2.2.2.1;omega
 rw [qcv]
 refine Tot.eq (ue (qoo b) (ud hc (ue (qUu l) ?_)))
 rw [decide_eq_true hl]
 refine um (fun k=>absurd k (by decide)) (fun _=>ue (qhk _ (by omega)) (uy (by omega) (ue (qSz ok.1 (by omega) hb (by omega)) ?_)))
 by_cases hs:qkk (fr8 b.1++b.2.1)=b.1.2.2.2.2.2.1
 ·rw [if_pos hs,decide_eq_true hs]
  exact um (fun k=>absurd k (by decide)) (fun _=>ub rfl)
 ·rw [if_neg hs,decide_eq_false hs]
  exact um (fun _=>ub rfl) (fun k=>absurd k (by decide))
theorem qxB (h:qga) (hm:0≤h.1∧h.1<256) {z:List Int} (hl:z.length≤100000):qni h z=some (qkk (fr8 h++z)):=by
 have hL:(fr8 h++z).length=z.length+8:=by rw [wm,qdu];omega
 rw [qkt]
 exact Tot.eq (ue (qZn h hm) (ua (by rw [hL];omega) (ue (qiz _ (by rw [hL];omega)) (ub rfl))))
instance (h:qga):Decidable (hOK h):=by unfold hOK;infer_instance
instance (a1 a2:Int) (z:List Int):Decidable (mOK a1 a2 z):=by unfold mOK;infer_instance
theorem qsv (h:qga) (hm:0≤h.1∧h.1<256) (hs:h.2.2.2.2.2.1.length=20):qpi h=some (hB h):=by
 rw [qRp,qZn h hm]
 simp only [wq]
 rw [qda (by simp [qdu];omega)]
 simp only [hB,wca]
 rw [wN (by omega)]
def qqR (s:List Int):Prop:=s.take 13=mark
instance (s:List Int):Decidable (qqR s):=by unfold qqR;infer_instance
theorem qFR {h:qga} (ok:hOK h) (hs:h.2.2.2.2.2.1.length=20):pH (hB h)=h:=by
 obtain ⟨m,mem,off,raw,len,sum,u⟩:=h
 have e:pH (hB (m,mem,off,raw,len,sum,u))=(m%256,(mem%256,(off/256%256*256+off%256,(raw/256%256*256+raw%256,(len/256%256*256+len%256,(sum,())))))):=rfl
 rw [e]
 unfold hOK at ok
 simp only at ok
 have e1:m%256=m:=by omega
 have e2:mem%256=mem:=by omega
 have e3:off/256%256*256+off%256=off:=by omega
 have e4:raw/256%256*256+raw%256=raw:=by omega
 have e5:len/256%256*256+len%256=len:=by omega
 rw [e1,e2,e3,e4,e5]
theorem qCR {b:qca} {more:List Int} (hc:bC b=0) (hw:bWf b) (hl:more.length≤40000):rdK (bB b++more)=(b,(b.1.2.2.2.2.1+41,0)):=by
 have ok:hOK b.1∧(b.2.1.length:Int)=b.1.2.2.2.2.1:=by
  unfold bC at hc;split at hc
  ·assumption
  ·cases hc
 have hlen:=qMk ok.1
 have hhl:(hB b.1).length=28:=by unfold hB;rw [wm,qdu,hw.2]
 have hL:(bB b++more).length=41+b.2.1.length+more.length:=by
  unfold bB;simp only [wm,qbj,hhl]
 have hw13:(bB b++more).take 13=mark:=by
  unfold bB
  rw [wy,wy,wLa (by rw [qbj];omega)]
  rfl
 have qqR:((bB b++more).drop 13).take 28=hB b.1:=by
  unfold bB
  rw [wy,wy,List.drop_append_of_le_length (by rw [qbj];omega),List.drop_of_length_le (by rw [qbj];omega),wU,wLa (by omega),wN (by omega)]
 have hd41:(bB b++more).drop 41=b.2.1++more:=by
  have e:bB b++more=(mark++hB b.1)++(b.2.1++more):=by unfold bB;simp only [wy]
  have e2:(mark++hB b.1).length=41:=by rw [wm,qbj,hhl]
  rw [e,List.drop_append_of_le_length (by omega),List.drop_of_length_le (by omega),wU]
 unfold rdK
 rw [qqR,qFR ok.1 hw.2,if_neg (show ¬(bB b++more).length>50000 by omega),if_neg (show ¬(bB b++more).length<41 by omega),if_neg (fun h=>h.elim (fun h=>h hw13) (fun h=>h ok.1)),if_neg (by omega),hd41]
 have e:b.1.2.2.2.2.1.toNat=b.2.1.length:=by omega
 rw [e,wLa (wt _),List.take_length,Int.add_comm]
theorem b7:Bts [7]:=Bts.cons (by decide) Bts.nil
theorem qes (S:List Int) (n:Nat) (x:Int) (h:n<S.length):(S.set n x).take (n+1)=S.take n++[x]:=by
 rw [wPa (by simpa using h),List.take_set,List.set_eq_of_length_le (by simp;omega)]
 simp
theorem qLR (a b:ByteArray):(wO a==wO b)=decide (a=b):=by
 rw [Bool.eq_iff_iff,beq_iff_eq,decide_eq_true_eq]
 exact ⟨fun h=>toList_inj h,fun h=>by rw [h]⟩
theorem qoj (s:ByteArray):(qld s).length=s.size:=by
 unfold qld
 rw [List.length_map,Array.length_toList];rfl
def okC (x:Int):Bool:=decide (33≤x)&&decide (x≤126)
def qjJ (s:ByteArray):Bool:=(qld s).all okC&&decide (1≤s.size)&&decide (s.size≤40)
theorem qaM {xs:List Int} {i:Nat} (h:i<xs.length):xs.drop i=xs.getD i 0::xs.drop (i+1):=by
 rw [wAa h,wu,wx h];rfl
theorem qqE (s:ByteArray) (hs:s.size≤9223372036854775807):∀(k i:Nat),i+k=s.size→qGg s (s.size:Int) (i:Int)=some (((qld s).drop i).all okC&&decide (1≤s.size)&&decide (s.size≤40))
 |0,i,e=>by
  have hd:(qld s).drop i=[]:=wI (by rw [qoj];omega)
  rw [qHk,if_neg (by simp;omega),hd]
  have hl:wi s.size=(s.size:Int):=rfl
  rw [hl]
  by_cases h:1≤s.size
  ·rw [if_pos (by simp;omega)]
   simp [h];omega
  ·rw [if_neg (by rw [decide_eq_true_eq];omega)]
   simp [h]
 |k+1,i,e=>by
  have hi:i<(qld s).length:=by rw [qoj];omega
  have hb:qlw s ((i:Int)).toNat=(qld s).getD i 0:=by rw [wv];rfl
  rw [qHk,if_pos (by simp;omega),qda (by omega),qda (by omega),hb,qaM hi,w64 (by omega) (by omega)]
  have ih:=qqE s hs k (i+1) (by omega)
  rw [show ((i+1:Nat):Int)=(i:Int)+1 by omega] at ih
  by_cases h1:(qld s).getD i 0≤32
  ·rw [if_pos (by simpa using h1)]
   have:okC ((qld s).getD i 0)=false:=by simp only [okC,Bool.and_eq_false_iff,decide_eq_false_iff_not];left;omega
   simp only [wub,this,Bool.false_and]
  ·rw [if_neg (by simpa using h1),qda (by omega),qda (by omega)]
   by_cases h2:(qld s).getD i 0>126
   ·rw [if_pos (by simpa using h2)]
    have:okC ((qld s).getD i 0)=false:=by simp only [okC,Bool.and_eq_false_iff,decide_eq_false_iff_not];right;omega
    simp only [wub,this,Bool.false_and]
   ·rw [if_neg (by simpa using h2),ih]
    have:okC ((qld s).getD i 0)=true:=by simp only [okC,wz,decide_eq_true_eq];omega
    simp only [wub,this,Bool.true_and]
theorem qIs (s:ByteArray) (hs:s.size≤9223372036854775807):qyn s=some (qjJ s):=by
 rw [qCv]
 exact qqE s hs s.size 0 (by omega)
theorem qNM (s:ByteArray) (hs:s.size≤9223372036854775807):∀(k i:Nat),i+k=s.size→qie s (i:Int)=some (((qld s).drop i).all okC)
 |0,i,e=>by
  have hd:(qld s).drop i=[]:=wI (by rw [qoj];omega)
  rw [qii,if_neg (by simp;omega),hd]
  rfl
 |k+1,i,e=>by
  have hi:i<(qld s).length:=by rw [qoj];omega
  have hb:qlw s ((i:Int)).toNat=(qld s).getD i 0:=by rw [wv];rfl
  rw [qii,if_pos (by simp;omega),qda (by omega),qda (by omega),hb,qaM hi,w64 (by omega) (by omega)]
  have ih:=qNM s hs k (i+1) (by omega)
  rw [show ((i+1:Nat):Int)=(i:Int)+1 by omega] at ih
  by_cases h1:(qld s).getD i 0<33
  ·rw [if_pos (by simpa using h1)]
   have:okC ((qld s).getD i 0)=false:=by simp only [okC,Bool.and_eq_false_iff,decide_eq_false_iff_not];left;omega
   simp only [wub,this,Bool.false_and]
  ·rw [if_neg (by simpa using h1),qda (by omega),qda (by omega)]
   by_cases h2:(qld s).getD i 0>126
   ·rw [if_pos (by simpa using h2)]
    have:okC ((qld s).getD i 0)=false:=by simp only [okC,Bool.and_eq_false_iff,decide_eq_false_iff_not];right;omega
    simp only [wub,this,Bool.false_and]
   ·rw [if_neg (by simpa using h2),ih]
    have:okC ((qld s).getD i 0)=true:=by simp only [okC,wz,decide_eq_true_eq];omega
    simp only [wub,this,Bool.true_and]
theorem qSo (s:ByteArray) (hs:s.size≤9223372036854775807):qag s=some (qjJ s):=by
 have hl:wi s.size=(s.size:Int):=rfl
 rw [qwq,hl]
 unfold qjJ
 by_cases h1:s.size<1
 ·rw [if_pos (by simp;omega)]
  have:¬1≤s.size:=by omega
  simp [this]
 ·rw [if_neg (by simp;omega)]
  by_cases h2:s.size>40
  ·rw [if_pos (by simp;omega)]
   have:¬s.size≤40:=by omega
   simp [this]
  ·rw [if_neg (by simp;omega)]
   have:=qNM s hs s.size 0 (by omega)
   refine this.trans ?_
   have h3:1≤s.size:=by omega
   have h4:s.size≤40:=by omega
   simp [h3,h4]
theorem qIx {α β:Type} {eq:α→α→Bool} (h:∀a b,eq a b=true↔a=b) (x y:α) (v:β):∀m:List (α×β),qAv eq x (qZD eq y v m)=if eq x y then some v else qAv eq x m
 |[]=>by simp [qZD,qAv]
 |e::r=>by
  simp only [qZD]
  by_cases hy:eq y e.1=true
  ·have:=(h _ _).1 hy
   simp only [hy,if_true,qAv]
   by_cases hx:eq x y=true
   ·simp [hx]
   ·have:eq x e.1=false:=by rw [←this];simpa using hx
    simp [hx,this]
  ·simp only [hy,wM,if_false,qAv,qIx h x y v r]
   by_cases hx:eq x y=true
   ·have e1:=(h _ _).1 hx
    subst e1
    simp [hx,hy]
   ·simp [hx]
theorem qUK (a b:ByteArray):peq .str a b=decide (a=b):=qLR a b
def qeE (x:ByteArray) (xs:List ByteArray):Bool:=xs.any fun y=>decide (x=y)
theorem qiG (x y:ByteArray) (xs:List ByteArray):qeE x (xs++[y])=(qeE x xs||decide (x=y)):=by simp [qeE]
def qXA (seen:List ByteArray):List ByteArray→Bool
 |[]=>false
 |x::r=>qeE x seen||qXA (seen++[x]) r
theorem qxC {xs:List ByteArray} {i:Nat} (h:i<xs.length):xs.drop i=xs.getD i wD::xs.drop (i+1)∧xs.take (i+1)=xs.take i++[xs.getD i wD]:=by
 have e:xs.getD i wD=xs[i]:=by rw [wu,wx h];rfl
 rw [e]
 exact ⟨wAa h,by rw [List.take_add_one,wx h];rfl⟩
theorem qjH (xs:List ByteArray) (hx:xs.length≤9223372036854775807):∀(k i:Nat) (m:List (ByteArray×Bool)),i+k=xs.length→(∀x,Option.getD (qAv (peq .str) x m) false=qeE x (xs.take i))→qJh xs (xs.length:Int) (i:Int) m=some (qXA (xs.take i) (xs.drop i))
 |0,i,m,e,hm=>by
  rw [qyl,if_neg (by simp;omega),wI (by omega)];rfl
 |k+1,i,m,e,hm=>by
  have hl:wi xs.length=(xs.length:Int):=rfl
  obtain ⟨d1,d2⟩:=qxC (xs:=xs) (i:=i) (by omega)
  rw [qyl,if_pos (by simp;omega),qda (by omega),qda (by rw [hl];omega),wv,hm,d1,qXA]
  by_cases h:qeE (xs.getD i wD) (xs.take i)=true
  ·rw [if_pos h,h];rfl
  ·rw [if_neg h,w64 (by omega) (by omega)]
   have ih:=qjH xs hx k (i+1) (qZD (peq .str) (xs.getD i wD) true m) (by omega) (fun x=>by
    rw [qIx (fun a b=>by rw [qUK];simp),d2,qUK,qiG,←hm]
    by_cases hx:x=xs.getD i wD
    ·rw [if_pos (by simp [hx])];simp [hx]
    ·rw [decide_eq_false hx,if_neg (by simp),Bool.or_false])
   rw [show ((i+1:Nat):Int)=(i:Int)+1 by omega] at ih
   rw [ih,d2,Bool.eq_false_iff.2 h];rfl
theorem qTt (xs:List ByteArray) (hx:xs.length≤9223372036854775807):qZo xs=some (qXA [] xs):=by
 rw [qJx]
 exact qjH xs hx xs.length 0 [] (by omega) (fun x=>by simp [qAv,qeE])
def qeB (r:qaa):Bool:=!qjJ r.1||decide (r.2.1<0)||decide (r.2.1>8192)||(r.2.1==0&&!peq (.arr 20 (.int .u8)) r.2.2.1 (qkk []))
def vld (acc:Int) (nm:List ByteArray):List qaa→Int
 |[]=>if acc>8192 then 4 else if qXA [] nm then 14 else 0
 |r::rest=>if qeB r then 8 else vld (acc+r.2.1) (nm++[r.1]) rest
def qBe (rs:List qaa):Int:=if rs.length>16 then 4 else vld 0 [] rs
def RecsOK (rs:List qaa):Prop:=rs.length≤9223372036854775807∧∀r∈rs,r.1.size≤9223372036854775807
theorem qTa {α:Type} {xs:List α} {i:Nat} (d:α) (h:i<xs.length):xs.drop i=xs.getD i d::xs.drop (i+1)∧xs.take (i+1)=xs.take i++[xs.getD i d]∧xs.getD i d∈xs:=by
 have e:xs.getD i d=xs[i]:=by rw [wu,wx h];rfl
 rw [e]
 exact ⟨wAa h,by rw [List.take_add_one,wx h];rfl,List.getElem_mem h⟩
theorem qJJ:qzn []=some (qkk []):=by
 rw [qDv,qpw [] Bts.nil];rfl
theorem qkR:qKc []=some (qkk []):=qiz [] (by simp)
theorem qBI (rs:List qaa) (hR:RecsOK rs) (hn:rs.length≤16):∀(k i:Nat) (acc:Int) (nm:List ByteArray),i+k=rs.length→nm.length=i→0≤acc→acc≤8192*i→qJf acc rs (rs.length:Int) (i:Int) nm=some (vld acc nm (rs.drop i))
 |0,i,acc,nm,e,hl,a0,a1=>by
  rw [qAl,if_neg (by simp;omega),wI (by omega),vld]
  by_cases h:acc>8192
  ·rw [if_pos (by simpa using h),if_pos h]
  ·rw [if_neg (by simpa using h),if_neg h,qTt _ (by omega)]
   simp only [wq]
   by_cases h:qXA [] nm=true
   ·rw [if_pos h,if_pos h]
   ·rw [if_neg h,if_neg h]
 |k+1,i,acc,nm,e,hl,a0,a1=>by
  have hl':wi rs.length=(rs.length:Int):=rfl
  obtain ⟨d1,d2,d3⟩:=qTa (qqa qfa:qaa) (xs:=rs) (i:=i) (by omega)
  rw [qAl,if_pos (by simp;omega),qda (by omega),qda (by rw [hl'];omega),wv,d1,vld]
  generalize hr:(wk rs i (qqa qfa):qaa)=r at d3 ⊢
  rw [qIs _ (hR.2 r d3)]
  simp only [wq,qJJ]
  by_cases h1:qjJ r.1=true
  ·rw [if_neg (by simp [h1])]
   by_cases h2:r.2.1<0
   ·rw [if_pos (by simpa using h2),if_pos (by simp [qeB,h2])]
   ·rw [if_neg (by simpa using h2)]
    by_cases h3:r.2.1>8192
    ·rw [if_pos (by simpa using h3),if_pos (by simp [qeB,h3])]
    ·rw [if_neg (by simpa using h3)]
     have ih:=qBI rs hR hn k (i+1) (acc+r.2.1) (nm++[r.1]) (by omega) (by simp;omega) (by omega) (by omega)
     rw [show ((i+1:Nat):Int)=(i:Int)+1 by omega] at ih
     rw [w64 (x:=(i:Int)+1) (by omega) (by omega),w64 (x:=acc+r.2.1) (by omega) (by omega),ih]
     by_cases h4:r.2.1=0
     ·rw [if_pos (by simp [h4])]
      by_cases h5:peq (.arr 20 (.int .u8)) r.2.2.1 (qkk [])=true
      ·rw [if_neg (by simp [h5]),qda (by simp;omega),if_neg (by simp [qeB,h1,h4,h5])]
      ·rw [if_pos (by simpa using h5),if_pos (by simp [qeB,h4,h5])]
     ·rw [if_neg (by simpa using h4),qda (by simp;omega),if_neg (by simp [qeB,h1,h4];omega)]
  ·rw [if_pos (by simpa using h1),if_pos (by simp [qeB,h1])]
theorem qpe (rs:List qaa) (hR:RecsOK rs):qKf rs=some (qBe rs):=by
 have hl:wi rs.length=(rs.length:Int):=rfl
 rw [qLx,hl,qBe]
 by_cases h:rs.length>16
 ·rw [if_pos (by simp;omega),if_pos h]
 ·rw [if_neg (by simp;omega),if_neg h]
  exact qBI rs hR (by omega) rs.length 0 0 [] (by omega) rfl (by omega) (by omega)
def names (rs:List qaa):List ByteArray:=rs.map (·.1)
theorem qYD (rs:List qaa) (i:Nat) (h:i<rs.length):(rs.getD i (qqa qfa)).1=(names rs).getD i wD:=by
 unfold names
 simp only [wu,wxa,wx h,wya,wSa]
theorem qdE {x:ByteArray} {xs:List ByteArray} {j i:Nat} (h:j<i) (hi:i≤xs.length):qeE x ((xs.take i).drop j)=(decide (x=xs.getD j wD)||qeE x ((xs.take i).drop (j+1))):=by
 have hl:j<(xs.take i).length:=by rw [wP];omega
 have e:xs.getD j wD=(xs.take i)[j]:=by
  rw [wu,List.getElem_take,wx (by omega)];rfl
 rw [wAa hl,e]
 simp [qeE]
theorem qzI (rs:List qaa) (hn:rs.length≤16) (i:Nat) (hi:i<rs.length):∀(k j:Nat),j+k=i→qRd rs (i:Int) (j:Int)=if qeE ((names rs).getD i wD) (((names rs).take i).drop j) then some 14 else qHc rs ((i:Int)+1)
 |0,j,e=>by
  have hd:((names rs).take i).drop j=[]:=wI (by rw [wP];omega)
  rw [qhh,if_neg (by simp;omega),hd,w64 (by omega) (by omega)]
  simp [qeE]
 |k+1,j,e=>by
  have hl':wi rs.length=(rs.length:Int):=rfl
  have hnl:(names rs).length=rs.length:=by simp [names]
  have ih:=qzI rs hn i hi k (j+1) (by omega)
  rw [show ((j+1:Nat):Int)=(j:Int)+1 by omega] at ih
  rw [qhh,if_pos (by simp;omega),qda (by omega),qda (by rw [hl'];omega),qda (by omega),qda (by rw [hl'];omega),wv,wv,qYD rs j (by omega),qYD rs i hi,w64 (x:=(j:Int)+1) (by omega) (by omega),ih,qdE (j:=j) (i:=i) (by omega) (by omega),qLR]
  by_cases h:(names rs).getD j wD=(names rs).getD i wD
  ·rw [decide_eq_true h,decide_eq_true h.symm];simp
  ·rw [decide_eq_false h,decide_eq_false (fun e=>h e.symm)];simp
theorem qAI (rs:List qaa) (hn:rs.length≤16):∀(k i:Nat),i+k=rs.length→qHc rs (i:Int)=some (if qXA ((names rs).take i) ((names rs).drop i) then 14 else 0)
 |0,i,e=>by
  have hnl:(names rs).length=rs.length:=by simp [names]
  rw [qih,if_neg (by simp;omega),wI (by omega)];rfl
 |k+1,i,e=>by
  have hnl:(names rs).length=rs.length:=by simp [names]
  obtain ⟨d1,d2⟩:=qxC (xs:=names rs) (i:=i) (by omega)
  have ih:=qAI rs hn k (i+1) (by omega)
  rw [show ((i+1:Nat):Int)=(i:Int)+1 by omega] at ih
  have h3:=qzI rs hn i (by omega) i 0 (by omega)
  rw [qih,if_pos (by simp;omega)]
  refine Eq.trans h3 ?_
  rw [ih,wca,d1,qXA,←d2]
  cases qeE ((names rs).getD i wD) ((names rs).take i) <;> simp
theorem qNu (rs:List qaa) (hR:RecsOK rs) (hn:rs.length≤16):∀(k i:Nat) (acc:Int),i+k=rs.length→0≤acc→acc≤8192*i→qIc rs acc (i:Int)=some (vld acc (names (rs.take i)) (rs.drop i))
 |0,i,acc,e,a0,a1=>by
  have hl':wi rs.length=(rs.length:Int):=rfl
  rw [qjh,if_neg (by simp;omega),wI (by omega),vld,wN (by omega)]
  by_cases h:acc>8192
  ·rw [if_pos (by simpa using h),if_pos h]
  ·rw [if_neg (by simpa using h),if_neg h]
   exact qAI rs hn rs.length 0 (by omega)
 |k+1,i,acc,e,a0,a1=>by
  have hl':wi rs.length=(rs.length:Int):=rfl
  obtain ⟨d1,d2,d3⟩:=qTa (qqa qfa:qaa) (xs:=rs) (i:=i) (by omega)
  have ih:=fun a h0 h1=>qNu rs hR hn k (i+1) a (by omega) h0 h1
  rw [show ((i+1:Nat):Int)=(i:Int)+1 by omega,d2] at ih
  rw [qjh,if_pos (by simp;omega),qda (by omega),qda (by rw [hl'];omega),wv,d1,vld]
  have hnm:names (wK i rs++[wk rs i (qqa qfa)])=names (wK i rs)++[(wk rs i (qqa qfa)).1]:=by simp [names]
  rw [hnm] at ih
  generalize hr:(wk rs i (qqa qfa):qaa)=r at d3 ih ⊢
  rw [qSo _ (hR.2 r d3)]
  simp only [wq,qkR]
  by_cases h1:qjJ r.1=true
  ·rw [if_neg (by simp [h1])]
   by_cases h2:r.2.1<0
   ·rw [if_pos (by simpa using h2),if_pos (by simp [qeB,h2])]
   ·rw [if_neg (by simpa using h2)]
    by_cases h3:r.2.1>8192
    ·rw [if_pos (by simpa using h3),if_pos (by simp [qeB,h3])]
    ·rw [if_neg (by simpa using h3)]
     rw [w64 (x:=(i:Int)+1) (by omega) (by omega),w64 (x:=acc+r.2.1) (by omega) (by omega),ih _ (by omega) (by omega)]
     by_cases h4:r.2.1=0
     ·rw [if_pos (by simp [h4])]
      by_cases h5:peq (.arr 20 (.int .u8)) r.2.2.1 (qkk [])=true
      ·rw [if_neg (by simp [h5]),if_neg (by simp [qeB,h1,h4,h5])]
      ·rw [if_pos (by simpa using h5),if_pos (by simp [qeB,h4,h5])]
     ·rw [if_neg (by simpa using h4),if_neg (by simp [qeB,h1,h4];omega)]
  ·rw [if_pos (by simpa using h1),if_pos (by simp [qeB,h1])]
theorem qpv (rs:List qaa) (hR:RecsOK rs):qfi rs=some (qBe rs):=by
 have hl:wi rs.length=(rs.length:Int):=rfl
 rw [qKp,hl,qBe]
 by_cases h:rs.length>16
 ·rw [if_pos (by simp;omega),if_pos h]
 ·rw [if_neg (by simp;omega),if_neg h]
  exact qNu rs hR (by omega) rs.length 0 0 (by omega) (by omega) (by omega)
def tot:List qaa→Int
 |[]=>0
 |r::rest=>r.2.1+tot rest
structure RecsV (rs:List qaa):Prop where
 len:rs.length≤16
 each:∀r∈rs,0≤r.2.1∧r.2.1≤8192∧r.1.size≤40
 tot:tot rs≤8192
theorem qhH:∀(rs:List qaa) (acc:Int) (nm:List ByteArray),vld acc nm rs=0→(∀r∈rs,0≤r.2.1∧r.2.1≤8192∧r.1.size≤40)∧acc+tot rs≤8192
 |[],acc,nm,h=>by
  simp only [vld] at h
  by_cases h1:acc>8192
  ·rw [if_pos h1] at h;omega
  ·exact ⟨fun r hr=>(by cases hr),by simp only [tot];omega⟩
 |r::rest,acc,nm,h=>by
  simp only [vld] at h
  by_cases hb:qeB r=true
  ·rw [if_pos hb] at h;omega
  ·rw [if_neg hb] at h
   obtain ⟨h1,h2⟩:=qhH rest _ _ h
   simp only [qeB,qjJ,Bool.or_eq_true,wUa,Bool.and_eq_false_iff,decide_eq_true_eq,decide_eq_false_iff_not,not_or] at hb
   refine ⟨fun q hq=>?_,by simp only [tot];omega⟩
   rcases waa.1 hq with rfl|hq
   ·have:=hb.1.1.1.2
    exact ⟨by omega,by omega,by omega⟩
   ·exact h1 q hq
theorem qNc {rs:List qaa} (h:qBe rs=0):RecsV rs:=by
 unfold qBe at h
 split at h
 ·omega
 ·obtain ⟨h1,h2⟩:=qhH rs 0 [] h
  exact ⟨by omega,h1,by omega⟩
instance (h:qga):Decidable (hOK h):=by unfold hOK;infer_instance
def isP (h:qga) (p:qea):Prop:=h.2.1=p.1∧h.2.2.1=p.2.1∧h.2.2.2.1=p.2.2.1
instance (h:qga) (p:qea):Decidable (isP h p):=by unfold isP;infer_instance
open Classical
open Classical
abbrev iEq:Int→Int→Bool:=peq (.int .i64)
theorem qcC (a b:Int):iEq a b=true↔a=b:=by simp [peq]
def Rt (m:List (Int×Bool)) (t:List Bool):Prop:=(∀x:Int,(qAv iEq x m).isSome=true↔0≤x∧x<(t.length:Int)∧t.getD x.toNat false=true)∧m.length=t.countP id
theorem qUH {α β:Type} {eq:α→α→Bool} (h:∀a b,eq a b=true↔a=b) (x:α) (v:β):∀m:List (α×β),(qZD eq x v m).length=m.length+if (qAv eq x m).isSome then 0 else 1
 |[]=>by simp [qZD,qAv]
 |e::r=>by
  have ih:=qUH h x v r
  by_cases hx:eq x e.1=true
  ·have h1:qZD eq x v (e::r)=(x,v)::r:=if_pos hx
   have h2:qAv eq x (e::r)=some e.2:=if_pos hx
   rw [h1,h2];simp
  ·have h1:qZD eq x v (e::r)=e::qZD eq x v r:=if_neg hx
   have h2:qAv eq x (e::r)=qAv eq x r:=if_neg hx
   rw [h1,h2]
   simp only [wB,ih];omega
theorem qXE:∀(t:List Bool) (i:Nat),i<t.length→(t.set i true).countP id=t.countP id+if t.getD i false then 0 else 1
 |[],i,h=>by simp at h
 |b::t,0,h=>by cases b <;> simp
 |b::t,i+1,h=>by
  have:=qXE t i (by simpa using h)
  simp only [List.set_cons_succ,List.countP_cons,List.getD_cons_succ,this];omega
theorem Rt.set {m:List (Int×Bool)} {t:List Bool} (h:Rt m t) {i:Nat} (hi:i<t.length):Rt (qZD iEq (i:Int) true m) (t.set i true):=by
 refine ⟨fun x=>?_,?_⟩
 ·rw [qIx qcC,wia]
  by_cases hx:x=(i:Int)
  ·rw [if_pos ((qcC _ _).2 hx),hx,wv,wu,List.getElem?_set_self hi]
   simp;omega
  ·rw [if_neg (fun k=>hx ((qcC _ _).1 k)),h.1 x]
   constructor
   ·rintro ⟨a,b,c⟩
    refine ⟨a,b,?_⟩
    rw [wu,List.getElem?_set_ne (by omega),←wu];exact c
   ·rintro ⟨a,b,c⟩
    refine ⟨a,b,?_⟩
    rw [wu,List.getElem?_set_ne (by omega),←wu] at c;exact c
 ·rw [qUH qcC,qXE t i hi,h.2]
  congr 1
  have:=h.1 (i:Int)
  rw [wv] at this
  by_cases hs:t.getD i false=true
  ·rw [if_pos (this.2 ⟨by omega,by omega,hs⟩),if_pos hs]
  ·rw [if_neg (fun k=>hs (this.1 k).2.2),if_neg hs]
theorem Rt.nil (n:Nat):Rt [] (wo n false):=by
 refine ⟨fun x=>?_,by simp [List.countP_replicate]⟩
 simp only [qAv,Option.isSome_none,wM,false_iff,not_and,wfa]
 intro _ _
 rw [wu,List.getElem?_replicate]
 split <;> simp
open Classical
theorem qbN (a:List Int):peq (.arr 20 (.int .u8)) a a=true:=by
 simp only [peq]
 exact qvs (fun y=>by simp) _
def chk (a:qia):Int:=if 0≤a.1∧a.1≤7∧16≤a.2.1∧a.2.1≤4096 then 0 else 2
theorem qEk (a:qia):qHm a=some (chk a):=by
 rw [qDB,chk]
 by_cases h1:a.1<0
 ·rw [if_pos (by simpa using h1),if_neg (by omega)]
 ·rw [if_neg (by simpa using h1)]
  by_cases h2:a.1>7
  ·rw [if_pos (by simpa using h2),if_neg (by omega)]
  ·rw [if_neg (by simpa using h2)]
   by_cases h3:a.2.1<16
   ·rw [if_pos (by simpa using h3),if_neg (by omega)]
   ·rw [if_neg (by simpa using h3)]
    by_cases h4:a.2.1>4096
    ·rw [if_pos (by simpa using h4),if_neg (by omega)]
    ·rw [if_neg (by simpa using h4),if_pos (by omega)]
theorem qov (a:qia):qci a=some (chk a):=by
 rw [qHp,chk,qCj]
 by_cases h1:a.1<0
 ·rw [if_pos (by simpa using h1),if_neg (by omega)]
 ·rw [if_neg (by simpa using h1)]
  by_cases h2:a.1>7
  ·rw [if_pos (by simpa using h2),if_neg (by omega)]
  ·rw [if_neg (by simpa using h2)]
   by_cases h3:a.2.1≥16
   ·rw [if_pos (by simpa using h3)]
    simp only [wq]
    by_cases h4:a.2.1≤4096
    ·rw [if_neg (by simpa using h4),if_pos (by omega)]
    ·rw [if_pos (by simpa using h4),if_neg (by omega)]
   ·rw [if_neg (by simpa using h3)]
    simp only [wq]
    rw [if_pos (by simp),if_neg (by omega)]
def ask (a:qia) (rs:List qaa):Int:=if chk a≠0 then chk a else qBe rs
theorem qjK:∀(rs:List qaa),(∀r∈rs,0≤r.2.1∧r.2.1≤8192∧r.1.size≤40)→0≤tot rs
 |[],_=>by simp [tot]
 |r::rest,h=>by
  have h1:=h r (by simp)
  have h2:=qjK rest (fun q hq=>h q (by simp [hq]))
  simp only [tot];omega
def pcs (i n s:Int):Nat→Int→List qea
 |0,_=>[]
 |k+1,off=>if off<n then (i,(off,((if s<n - off then s else n - off),())))::pcs i n s k (off+s) else []
theorem qLt (i n s:Int) (hs:1≤s):∀(k:Nat) (off:Int),0≤n→off≤n→((pcs i n s k off).length:Int)≤n - off
 |0,off,_,h=>by simp [pcs];omega
 |k+1,off,hn,h=>by
  simp only [pcs]
  by_cases h1:off<n
  ·rw [if_pos h1]
   by_cases h2:off+s≤n
   ·have:=qLt i n s hs k (off+s) hn h2
    simp only [wB];omega
   ·have:pcs i n s k (off+s)=[]:=by
     cases k with
     |zero=>rfl
     |succ k=>simp only [pcs];rw [if_neg (by omega)]
    rw [this];simp;omega
  ·rw [if_neg h1];simp;omega
def ap (s:Int):Int→List qaa→List qea
 |_,[]=>[]
 |i,r::rest=>pcs i r.2.1 s 8200 0++ap s (i+1) rest
def szs (rs:List qaa):List Int:=rs.map (·.2.1)
theorem qww (rs:List qaa) (i:Nat) (h:i<rs.length):(szs rs).getD i 0=(rs.getD i (qqa qfa)).2.1:=by
 unfold szs
 simp only [wu,wxa,wx h,wya,wSa]
theorem qgg (rs:List qaa):(szs rs).length=rs.length:=by simp [szs]
theorem qJM (s i n:Int) (xs:List Int) (v23 v24:Int) (hs:16≤s∧s≤4096) (hn:0≤n∧n≤8192) (k:Nat):∀(off:Int) (h:List qea),n - off≤k→0≤off→off≤13000→(h.length:Int)+(k:Int)≤1000000→
  qyh s i n off xs v23 v24 h=qtf s xs v23 (wd .i64 (v24+1)) (h++pcs i n s k off):=by
 induction k with
 |zero=>
  intro off h e h0 h1 hl
  have hc:¬off<n:=by omega
  rw [qil,if_neg (by simpa using hc)]
  simp only [pcs,wS]
 |succ k ih=>
  intro off h e h0 h1 hl
  rw [qil]
  by_cases hc:off<n
  ·rw [if_pos (by simpa using hc),qda (by simp;omega),w64 (x:=n - off) (by omega) (by omega),w64 (x:=off+s) (by omega) (by omega)]
   rw [ih (off+s) _ (by omega) (by omega) (by omega) (by simp;omega)]
   simp only [pcs,if_pos hc,wy,List.singleton_append]
  ·rw [if_neg (by simpa using hc)]
   simp only [pcs,if_neg hc,wS]
theorem qsF (s:Int) (rs:List qaa) (hs:16≤s∧s≤4096) (hR:RecsV rs):∀(k i:Nat) (h:List qea),i+k=rs.length→(h.length:Int)≤8192*i→
  qtf s (szs rs) (rs.length:Int) (i:Int) h=some (h++ap s i (rs.drop i),0)
 |0,i,h,e,hl=>by
  rw [qjl,if_neg (by simp;omega),wI (by omega)]
  simp [ap]
 |k+1,i,h,e,hl=>by
  have hlen:=hR.len
  obtain ⟨d1,d2,d3⟩:=qTa (qqa qfa:qaa) (xs:=rs) (i:=i) (by omega)
  have hl':wi (szs rs).length=(rs.length:Int):=by rw [qgg];rfl
  have hv:=hR.each _ d3
  rw [qjl,if_pos (by simp;omega),qda (by omega),qda (by rw [hl'];omega),wv,qww rs i (by omega)]
  rw [qJM s i _ (szs rs) _ _ hs ⟨hv.1,hv.2.1⟩ 8200 0 h (by omega) (by omega) (by omega) (by omega),w64 (by omega) (by omega)]
  have hp:=qLt (i:Int) (rs.getD i (qqa qfa)).2.1 s (by omega) 8200 0 hv.1 hv.1
  have ih:=qsF s rs hs hR k (i+1) (h++pcs (i:Int) (rs.getD i (qqa qfa)).2.1 s 8200 0) (by omega) (by rw [wm];omega)
  rw [show ((i+1:Nat):Int)=(i:Int)+1 by omega] at ih
  rw [ih,d1,ap,wy]
theorem qDI (xs:List Int) (hx:∀x∈xs,0≤x) (hl:xs.length≤1000):∀(k i:Nat),i+k=xs.length→qnc xs (xs.length:Int) (i:Int)=some (-1)
 |0,i,e=>by rw [qAe,if_neg (by simp;omega)]
 |k+1,i,e=>by
  have hl':wi xs.length=(xs.length:Int):=rfl
  obtain ⟨d1,d2,d3⟩:=qTa (0:Int) (xs:=xs) (i:=i) (by omega)
  have:=hx _ d3
  have ih:=qDI xs hx hl k (i+1) (by omega)
  rw [show ((i+1:Nat):Int)=(i:Int)+1 by omega] at ih
  rw [qAe,if_pos (by simp;omega),qda (by omega),qda (by rw [hl'];omega),wv,qlv]
  simp only [wq]
  rw [if_neg (by simp only [decide_eq_true_eq];omega),w64 (by omega) (by omega),ih]
theorem qrI (rs:List qaa) (hR:RecsV rs):∀(k i:Nat) (acc:Int),i+k=rs.length→0≤acc→acc+tot (rs.drop i)≤8192→qTi acc (szs rs) (rs.length:Int) (i:Int)=some 0
 |0,i,acc,e,h0,h1=>by rw [qzm,if_neg (by simp;omega)]
 |k+1,i,acc,e,h0,h1=>by
  have hlen:=hR.len
  have hl':wi (szs rs).length=(rs.length:Int):=by rw [qgg];rfl
  obtain ⟨d1,d2,d3⟩:=qTa (qqa qfa:qaa) (xs:=rs) (i:=i) (by omega)
  have hv:=hR.each _ d3
  have ht:=qjK (rs.drop (i+1)) (fun r hr=>hR.each r (List.mem_of_mem_drop hr))
  rw [d1,tot] at h1
  rw [qzm,if_pos (by simp;omega),qda (by omega),qda (by rw [hl'];omega),wv,qww rs i (by omega)]
  rw [if_neg (show ¬(8193:Int)<(rs.getD i (qqa qfa)).2.1 by omega),w64 (by omega) (by omega),if_neg (by simp only [decide_eq_true_eq];omega),w64 (by omega) (by omega)]
  have ih:=qrI rs hR k (i+1) (acc+(rs.getD i (qqa qfa)).2.1) (by omega) (by omega) (by omega)
  rw [show ((i+1:Nat):Int)=(i:Int)+1 by omega] at ih
  exact ih
theorem qdH (s:Int) (rs:List qaa) (hs:16≤s∧s≤4096) (hR:RecsV rs):qFo (szs rs) s=some (ap s 0 rs,0):=by
 have hlen:=hR.len
 have hl':wi (szs rs).length=(rs.length:Int):=by rw [qgg];rfl
 have hc:qjr (szs rs)=some 0:=by
  have hi:=qDI (szs rs) (fun x hx=>by
   obtain ⟨r,hr,rfl⟩:=wY.1 hx
   exact (hR.each r hr).1) (by rw [qgg];omega) (szs rs).length 0 (by omega)
  have hi':qle (szs rs)=some (-1):=by rw [qwk];exact hi
  rw [qqz,qkj,hi']
  simp only [wq]
  rw [if_neg (by simp),hl',if_neg (by simp;omega)]
  exact qrI rs hR rs.length 0 0 (by omega) (by omega) (by have:=hR.tot;simp;omega)
 rw [qGw,hc]
 simp only [wq]
 rw [if_neg (by simp),if_neg (by simp;omega),if_neg (by simp;omega),hl']
 exact qsF s rs hs hR rs.length 0 [] (by omega) (by simp)
theorem qYK (i n s:Int):∀(k:Nat) (off:Int),(pcs i n s k off).length=(pcs 0 n s k off).length
 |0,off=>rfl
 |k+1,off=>by
  simp only [pcs]
  by_cases h:off<n
  ·rw [if_pos h,if_pos h];simp only [wB,qYK i n s k]
  ·rw [if_neg h,if_neg h]
def pcn (s:Int) (r:qaa):Int:=((pcs 0 r.2.1 s 8200 0).length:Int)
def qFP (s:Int) (rs:List qaa):List Int:=rs.map (pcn s)
def qcN:List Int→Int
 |[]=>0
 |x::r=>x+qcN r
theorem qYO (s:Int):∀(rs:List qaa) (i:Int),((ap s i rs).length:Int)=qcN (qFP s rs)
 |[],i=>rfl
 |r::rest,i=>by
  have:=qYO s rest (i+1)
  simp only [ap,wm,qFP,wL,qcN,qYK i,pcn] at this ⊢
  omega
theorem qIQ (s:Int) (hs:16≤s) (rs:List qaa) (hR:RecsV rs):∀x∈qFP s rs,0≤x∧x≤9000:=by
 intro x hx
 obtain ⟨r,hr,rfl⟩:=wY.1 hx
 have hv:=hR.each r hr
 have:=qLt 0 r.2.1 s (by omega) 8200 0 hv.1 hv.1
 unfold pcn
 omega
theorem qnw (s:Int) (hs:16≤s) (rs:List qaa) (hR:RecsV rs):((ap s 0 rs).length:Int)≤100000:=by
 have h1:=qYO s rs 0
 have h2:∀xs:List Int,(∀x∈xs,0≤x∧x≤9000)→qcN xs≤9000*(xs.length:Int):=by
  intro xs
  induction xs with
  |nil=>intro _;simp [qcN]
  |cons x xs ih=>
   intro h
   have:=h x (by simp)
   have:=ih (fun y hy=>h y (by simp [hy]))
   simp only [qcN,wB];omega
 have h3:=h2 (qFP s rs) (qIQ s hs rs hR)
 have h4:=hR.tot
 have h5:∀rs:List qaa,(∀r∈rs,0≤r.2.1∧r.2.1≤8192∧r.1.size≤40)→qcN (qFP s rs)≤tot rs:=by
  intro rs
  induction rs with
  |nil=>intro _;simp [qFP,qcN,tot]
  |cons r rs ih=>
   intro h
   have hv:=h r (by simp)
   have:=ih (fun y hy=>h y (by simp [hy]))
   have hp:=qLt 0 r.2.1 s (by omega) 8200 0 hv.1 hv.1
   simp only [qFP,wL,qcN,tot,pcn] at this ⊢
   omega
 have:=h5 rs hR.each
 omega
def qrE:List qaa→Int
 |[]=>0
 |r::rest=>23+(r.1.size:Int)+qrE rest
theorem qbI:∀(rs:List qaa),(∀r∈rs,0≤r.2.1∧r.2.1≤8192∧r.1.size≤40)→0≤qrE rs∧qrE rs≤100*(rs.length:Int)
 |[],_=>by simp [qrE]
 |r::rest,h=>by
  have h1:=h r (by simp)
  have h2:=qbI rest (fun q hq=>h q (by simp [hq]))
  simp only [qrE,wB];omega
def qGD (r:qaa):List Int:=(([wd .u8 (r.1.size:Int)]++qld r.1)++[wd .u8 (wX r.2.1 256),wd .u8 r.2.1])++wK 20 (wW 0 r.2.2.1)
def qDc:List qaa→List Int
 |[]=>[]
 |r::rest=>qGD r++qDc rest
def qpy (a:qia) (n:Int):List Int:=[66,76,70,1,wd .u8 a.1,wd .u8 (wX a.2.1 256),wd .u8 a.2.1,wd .u8 n]
def quh (a:qia) (rs:List qaa):List Int:=qpy a rs.length++qDc rs
def qLk (a:qia) (rs:List qaa):List Int:=quh a rs++qkk (quh a rs)
def SumsOK (rs:List qaa):Prop:=∀r∈rs,r.2.2.1.length=20∧Bts r.2.2.1
theorem qVD (s:ByteArray):Bts (qld s):=by
 intro x hx
 obtain ⟨b,_,rfl⟩:=wY.1 hx
 have:=b.toNat_lt
 omega
theorem qrn (r:qaa) (h:r.2.2.1.length=20):(qGD r).length=23+r.1.size:=by
 simp only [qGD,wm,wB,wT,qoj,wP,wca,h]
 omega
theorem qkN (r:qaa) (h:Bts r.2.2.1):Bts (qGD r):=
 Bts.append (Bts.append (Bts.append (Bts.cons (qgQ _) Bts.nil) (qVD _)) (Bts.cons (qgQ _) (Bts.cons (qgQ _) Bts.nil))) ((h.drop 0).take 20)
theorem qTo:∀(rs:List qaa),SumsOK rs→((qDc rs).length:Int)=qrE rs
 |[],_=>rfl
 |r::rest,h=>by
  have h1:=qrn r (h r (by simp)).1
  have h2:=qTo rest (fun q hq=>h q (by simp [hq]))
  simp only [qDc,qrE,wm]
  omega
theorem qCD:∀(rs:List qaa),SumsOK rs→Bts (qDc rs)
 |[],_=>Bts.nil
 |r::rest,h=>(qkN r (h r (by simp)).2).append (qCD rest (fun q hq=>h q (by simp [hq])))
theorem qwJ (a:qia) (n:Int):Bts (qpy a n):=by
 unfold qpy
 repeat first|exact Bts.nil|refine Bts.cons (qgQ _) ?_|refine Bts.cons (by omega) ?_
theorem qfF (a:qia) (rs:List qaa) (h:SumsOK rs):Bts (quh a rs):=(qwJ _ _).append (qCD rs h)
theorem qEL (a:qia) (rs:List qaa) (h:SumsOK rs):Bts (qLk a rs):=(qfF a rs h).append (qqB _)
theorem qDL (a:qia) (rs:List qaa) (h:SumsOK rs):((qLk a rs).length:Int)=28+qrE rs:=by
 have:=qTo rs h
 simp only [qLk,quh,wm,qFh]
 have:(qpy a rs.length).length=8:=rfl
 omega
theorem qxI (rs:List qaa) (hR:RecsV rs) (hS:SumsOK rs):∀(k i:Nat) (h:List Int),i+k=rs.length→(h.length:Int)≤100*i→qLh rs (rs.length:Int) (i:Int) h=some (h++qDc (rs.drop i),0)
 |0,i,h,e,hl=>by
  rw [qzl,if_neg (by simp;omega),wI (by omega)];simp [qDc]
 |k+1,i,h,e,hl=>by
  have hlen:=hR.len
  have hl':wi rs.length=(rs.length:Int):=rfl
  obtain ⟨d1,d2,d3⟩:=qTa (qqa qfa:qaa) (xs:=rs) (i:=i) (by omega)
  have hv:=hR.each _ d3
  have hs:=hS _ d3
  have hb:=qrn _ hs.1
  rw [qzl,if_pos (by simp;omega),qda (by omega),qda (by rw [hl'];omega),wv]
  generalize (rs.getD i (qqa qfa):qaa)=r at*
  have e1:(((h++[wd .u8 (wi r.1.size)])++qld r.1)++[wd .u8 (wX r.2.1 256),wd .u8 r.2.1])++wK 20 (wW 0 r.2.2.1)=h++qGD r:=by
   simp only [qGD,wy];rfl
  have ho:=qoj r.1
  rw [qda (by simp only [wm,wB,wT];omega),qda (by simp only [wm,wB,wT];omega),qda (by omega),qda (by simp only [wm,wB,wT];omega),e1,qda (by rw [wm];omega),w64 (by omega) (by omega)]
  have ih:=qxI rs hR hS k (i+1) (h++qGD r) (by omega) (by rw [wm];omega)
  rw [show ((i+1:Nat):Int)=(i:Int)+1 by omega] at ih
  rw [ih,d1,qDc,wy]
theorem qUt (rs:List qaa) (hR:RecsOK rs) (hS:SumsOK rs):qbp rs=some (if qBe rs≠0 then ([],qBe rs) else (qDc rs,0)):=by
 rw [qKx,qpe rs hR]
 simp only [wq]
 by_cases h:qBe rs=0
 ·rw [if_neg (by simp [h]),if_neg (by simp [h])]
  exact qxI rs (qNc h) hS rs.length 0 [] (by omega) (by simp)
 ·rw [if_pos (by simpa using h),if_pos h]
theorem qLq (a:qia) (rs:List qaa) (hR:RecsOK rs) (hS:SumsOK rs):qxs a rs=some (if ask a rs≠0 then ([],ask a rs) else (qLk a rs,0)):=by
 rw [qSD,qEk,qUt rs hR hS]
 simp only [wq]
 by_cases h:chk a=0
 ·rw [if_neg (by simp [h])]
  have ha:ask a rs=qBe rs:=by unfold ask;rw [if_neg (by simp [h])]
  by_cases hv:qBe rs=0
  ·rw [if_neg (show ¬qBe rs≠0 by simp [hv]),if_neg (by simp),if_neg (by rw [ha];simp [hv])]
   have hV:=qNc hv
   have hlen:=hV.len
   have hb:=qbI rs hV.each
   have hr:=qTo rs hS
   have hbl:(quh a rs).length=8+(qDc rs).length:=by simp only [quh,wm];rfl
   have e1:[(66:Int),76,70,1,wd .u8 a.1,wd .u8 (wX a.2.1 256),wd .u8 a.2.1,wd .u8 (wi rs.length)]++qDc rs=quh a rs:=rfl
   simp only
   rw [qda (by omega),e1,qda (by omega),qpw _ (qfF a rs hS),if_pos (by omega)]
   simp only [wq]
   have e2:wK 20 (wW 0 (qkk (quh a rs)))=qkk (quh a rs):=by
    rw [wca,wN (by rw [qFh];omega)]
   rw [e2,qda (by rw [wm,qFh];omega)]
   rfl
  ·rw [if_pos hv,if_pos (by simpa using hv),if_pos (by rw [ha];exact hv),ha]
 ·have ha:ask a rs=chk a:=by unfold ask;rw [if_pos h]
  rw [if_pos (by simpa using h),if_pos (by rw [ha];exact h),ha]
theorem qII (rs:List qaa) (hR:RecsV rs) (hS:SumsOK rs):∀(k i:Nat) (h:List Int),i+k=rs.length→(h.length:Int)≤100*i→qUd rs (i:Int) h=some (h++qDc (rs.drop i))
 |0,i,h,e,hl=>by
  have hl':wi rs.length=(rs.length:Int):=rfl
  rw [qoh,if_neg (by simp;omega),wI (by omega)];simp [qDc]
 |k+1,i,h,e,hl=>by
  have hlen:=hR.len
  have hl':wi rs.length=(rs.length:Int):=rfl
  obtain ⟨d1,d2,d3⟩:=qTa (qqa qfa:qaa) (xs:=rs) (i:=i) (by omega)
  have hv:=hR.each _ d3
  have hs:=hS _ d3
  have hb:=qrn _ hs.1
  rw [qoh,if_pos (by simp;omega),qda (by omega),qda (by rw [hl'];omega),wv]
  generalize (rs.getD i (qqa qfa):qaa)=r at*
  have e1:(((h++[wd .u8 (wi r.1.size)])++qld r.1)++[wd .u8 (wX r.2.1 256),wd .u8 r.2.1])++wK 20 (wW 0 r.2.2.1)=h++qGD r:=by
   simp only [qGD,wy];rfl
  have ho:=qoj r.1
  rw [qda (by simp only [wm,wB,wT];omega),qda (by simp only [wm,wB,wT];omega),qda (by omega),qda (by simp only [wm,wB,wT];omega),e1,qda (by rw [wm];omega),w64 (by omega) (by omega)]
  have ih:=qII rs hR hS k (i+1) (h++qGD r) (by omega) (by rw [wm];omega)
  rw [show ((i+1:Nat):Int)=(i:Int)+1 by omega] at ih
  rw [ih,d1,qDc,wy]
theorem qXF (a:qia) (rs:List qaa) (hR:RecsV rs) (hS:SumsOK rs):qjf a rs=some (qLk a rs):=by
 have hb:=qbI rs hR.each
 have hlen:=hR.len
 have hr:=qTo rs hS
 have hbl:(quh a rs).length=8+(qDc rs).length:=by simp only [quh,wm];rfl
 have h1:qki rs=some (qDc rs):=by
  rw [qMp];exact qII rs hR hS rs.length 0 [] (by omega) (by simp)
 rw [qIp,qGp,qda (by omega),h1]
 simp only [wq]
 have e1:[(66:Int),76,70,1,wd .u8 a.1,wd .u8 (wX a.2.1 256),wd .u8 a.2.1,wd .u8 (wi rs.length)]++qDc rs=quh a rs:=rfl
 rw [e1,qda (by omega),qiz _ (by omega)]
 simp only [wq]
 have e2:wK 20 (wW 0 (qkk (quh a rs)))=qkk (quh a rs):=by
  rw [wca,wN (by rw [qFh];omega)]
 rw [e2,qda (by rw [wm,qFh];omega)]
 rfl
theorem qwO (xs:List Int) (hx:∀x∈xs,0≤x) (hl:xs.length≤16):∀(k i:Nat),i+k=xs.length→qQd xs (i:Int)=qGc xs 8192 0
 |0,i,e=>by
  have hl':wi xs.length=(xs.length:Int):=rfl
  rw [qgh,hl',if_neg (by simp;omega),if_neg (by simp;omega)]
 |k+1,i,e=>by
  have hl':wi xs.length=(xs.length:Int):=rfl
  obtain ⟨d1,d2,d3⟩:=qTa (0:Int) (xs:=xs) (i:=i) (by omega)
  have:=hx _ d3
  have ih:=qwO xs hx hl k (i+1) (by omega)
  rw [show ((i+1:Nat):Int)=(i:Int)+1 by omega] at ih
  rw [qgh,hl',if_pos (by simp;omega),qda (by omega),qda (by omega),wv,if_neg (by rw [decide_eq_true_eq];omega),w64 (by omega) (by omega),ih]
theorem qvO (rs:List qaa) (hR:RecsV rs):∀(k i:Nat) (left:Int),i+k=rs.length→left≤8192→tot (rs.drop i)≤left→qGc (szs rs) left (i:Int)=some 0
 |0,i,left,e,h0,h1=>by
  have hl':wi (szs rs).length=(rs.length:Int):=by rw [qgg];rfl
  rw [qfh,hl',if_neg (by simp;omega)]
 |k+1,i,left,e,h0,h1=>by
  have hlen:=hR.len
  have hl':wi (szs rs).length=(rs.length:Int):=by rw [qgg];rfl
  obtain ⟨d1,d2,d3⟩:=qTa (qqa qfa:qaa) (xs:=rs) (i:=i) (by omega)
  have hv:=hR.each _ d3
  have ht:=qjK (rs.drop (i+1)) (fun r hr=>hR.each r (List.mem_of_mem_drop hr))
  rw [d1,tot] at h1
  rw [qfh,hl',if_pos (by simp;omega),qda (by omega),qda (by omega),wv,qww rs i (by omega),if_neg (by rw [decide_eq_true_eq];omega),qda (by omega),qda (by omega),w64 (x:=(i:Int)+1) (by omega) (by omega),w64 (by omega) (by omega)]
  have ih:=qvO rs hR k (i+1) (left - (rs.getD i (qqa qfa)).2.1) (by omega) (by omega) (by omega)
  rw [show ((i+1:Nat):Int)=(i:Int)+1 by omega] at ih
  exact ih
theorem qnP (s:Int) (rs:List qaa) (hs:16≤s∧s≤4096) (hl:rs.length≤16) (i:Nat) (hi:i<rs.length) (hn:0≤(rs.getD i (qqa qfa)).2.1∧(rs.getD i (qqa qfa)).2.1≤8192) (k:Nat):∀(off:Int) (h:List qea),(rs.getD i (qqa qfa)).2.1 - off≤k→0≤off→off≤13000→(h.length:Int)+(k:Int)≤1000000→
  qwd (szs rs) s (i:Int) off h=qtc (szs rs) s ((i:Int)+1) (h++pcs (i:Int) (rs.getD i (qqa qfa)).2.1 s k off):=by
 have hl':wi (szs rs).length=(rs.length:Int):=by rw [qgg];rfl
 induction k with
 |zero=>
  intro off h e h0 h1 h2
  have hc:¬off<(rs.getD i (qqa qfa)).2.1:=by omega
  rw [qAg,hl',qda (by omega),qda (by omega),wv,qww rs i hi,if_neg (by simpa using hc),w64 (by omega) (by omega)]
  simp only [pcs,wS]
 |succ k ih=>
  intro off h e h0 h1 h2
  rw [qAg,hl',qda (by omega),qda (by omega),wv,qww rs i hi]
  by_cases hc:off<(rs.getD i (qqa qfa)).2.1
  ·have hm:(if (rs.getD i (qqa qfa)).2.1 - off<s then (rs.getD i (qqa qfa)).2.1 - off else s)=(if s<(rs.getD i (qqa qfa)).2.1 - off then s else (rs.getD i (qqa qfa)).2.1 - off):=by
    split <;> split <;> omega
   rw [if_pos (by simpa using hc),qda (by omega),qda (by omega),w64 (x:=(rs.getD i (qqa qfa)).2.1 - off) (by omega) (by omega),hm,qda (by rw [wm];simp only [wB,wT];omega),w64 (x:=off+s) (by omega) (by omega)]
   rw [ih (off+s) _ (by omega) (by omega) (by omega) (by rw [wm];simp only [wB,wT];omega)]
   simp only [pcs,if_pos hc,wy,List.singleton_append]
  ·rw [if_neg (by simpa using hc),w64 (by omega) (by omega)]
   simp only [pcs,if_neg hc,wS]
theorem qyK (s:Int) (rs:List qaa) (hs:16≤s∧s≤4096) (hR:RecsV rs):∀(k i:Nat) (h:List qea),i+k=rs.length→(h.length:Int)≤8192*i→qtc (szs rs) s (i:Int) h=some (h++ap s (i:Int) (rs.drop i))
 |0,i,h,e,hl=>by
  have hl':wi (szs rs).length=(rs.length:Int):=by rw [qgg];rfl
  rw [qBg,hl',if_neg (by simp;omega),wI (by omega)];simp [ap]
 |k+1,i,h,e,hl=>by
  have hlen:=hR.len
  have hl':wi (szs rs).length=(rs.length:Int):=by rw [qgg];rfl
  obtain ⟨d1,d2,d3⟩:=qTa (qqa qfa:qaa) (xs:=rs) (i:=i) (by omega)
  have hv:=hR.each _ d3
  have hp:=qLt (i:Int) (rs.getD i (qqa qfa)).2.1 s (by omega) 8200 0 hv.1 hv.1
  have e2:=qnP s rs hs hlen i (by omega) ⟨hv.1,hv.2.1⟩ 8200 0 h (by omega) (by omega) (by omega) (by omega)
  rw [qBg,hl',if_pos (by simp;omega),e2]
  have ih:=qyK s rs hs hR k (i+1) (h++pcs (i:Int) (rs.getD i (qqa qfa)).2.1 s 8200 0) (by omega) (by rw [wm];omega)
  rw [show ((i+1:Nat):Int)=(i:Int)+1 by omega] at ih
  rw [ih,d1,ap,wy]
theorem qGt (s:Int) (rs:List qaa) (hs:16≤s∧s≤4096) (hR:RecsV rs):qVg (szs rs) s=some (ap s 0 rs,0):=by
 have hlen:=hR.len
 have hz:qdi (szs rs)=some 0:=by
  have h1:=qwO (szs rs) (fun x hx=>by
   obtain ⟨r,hr,rfl⟩:=wY.1 hx
   exact (hR.each r hr).1) (by rw [qgg];omega) (szs rs).length 0 (by omega)
  have h2:=qvO rs hR rs.length 0 8192 (by omega) (by omega) (by have:=hR.tot;simpa using this)
  rw [qJp]
  exact h1.trans h2
 have hp:qUg (szs rs) s=some (ap s 0 rs):=by
  rw [qro]
  exact qyK s rs hs hR rs.length 0 [] (by omega) (by simp)
 rw [qso,hz,qCj,if_pos (by simp;omega),hp]
 simp only [wq]
 rw [if_neg (by simp),if_neg (by simp;omega)]
instance (h:qga):Decidable (hOK h):=by unfold hOK;infer_instance
theorem qRq (a:qia) (rs:List qaa) (hs:16≤a.2.1∧a.2.1≤4096) (hR:RecsV rs):∀(k i:Nat),i+k=rs.length→qcj rs (rs.length:Int) (i:Int) a (szs (rs.take i))=some (ap a.2.1 0 rs)
 |0,i,e=>by
  rw [qQm,if_neg (by simp;omega),wN (by omega),qdH _ rs hs hR];rfl
 |k+1,i,e=>by
  have hlen:=hR.len
  have hl':wi rs.length=(rs.length:Int):=rfl
  obtain ⟨d1,d2,d3⟩:=qTa (qqa qfa:qaa) (xs:=rs) (i:=i) (by omega)
  have hz:szs (wK i rs)++[(wk rs i (qqa qfa)).2.1]=szs (wK (i+1) rs):=by rw [d2];simp [szs]
  have ih:=qRq a rs hs hR k (i+1) (by omega)
  rw [show ((i+1:Nat):Int)=(i:Int)+1 by omega] at ih
  rw [qQm,if_pos (by simp;omega),qda (by omega),qda (by rw [hl'];omega),wv,hz,qda (by rw [qgg,wP];omega),w64 (by omega) (by omega),ih]
theorem qeo (a:qia) (rs:List qaa) (hs:16≤a.2.1∧a.2.1≤4096) (hR:RecsV rs):qBn a rs=some (ap a.2.1 0 rs):=by
 rw [qNz];exact qRq a rs hs hR rs.length 0 (by omega)
theorem qMA (a:qia) (rs:List qaa) (hs:16≤a.2.1∧a.2.1≤4096) (hR:RecsV rs):∀(k i:Nat),i+k=rs.length→qud rs (i:Int) a (szs (rs.take i))=some (ap a.2.1 0 rs)
 |0,i,e=>by
  have hl':wi rs.length=(rs.length:Int):=rfl
  rw [qyg,if_neg (by simp;omega),wN (by omega),qGt _ rs hs hR];rfl
 |k+1,i,e=>by
  have hlen:=hR.len
  have hl':wi rs.length=(rs.length:Int):=rfl
  obtain ⟨d1,d2,d3⟩:=qTa (qqa qfa:qaa) (xs:=rs) (i:=i) (by omega)
  have hz:szs (wK i rs)++[(wk rs i (qqa qfa)).2.1]=szs (wK (i+1) rs):=by rw [d2];simp [szs]
  have ih:=qMA a rs hs hR k (i+1) (by omega)
  rw [show ((i+1:Nat):Int)=(i:Int)+1 by omega] at ih
  rw [qyg,if_pos (by simp;omega),qda (by omega),qda (by rw [hl'];omega),wv,hz,qda (by rw [qgg,wP];omega),w64 (by omega) (by omega),ih]
theorem qHD (a:qia) (rs:List qaa) (hs:16≤a.2.1∧a.2.1≤4096) (hR:RecsV rs):qSg a rs=some (ap a.2.1 0 rs):=by
 rw [qpo];exact qMA a rs hs hR rs.length 0 (by omega)
theorem qVy {a:qia} (h:chk a=0):16≤a.2.1∧a.2.1≤4096:=by
 unfold chk at h
 split at h <;> omega
instance (h:qga) (p:qea):Decidable (isP h p):=by unfold isP;infer_instance
theorem qTu (h:qga) (p:qea):qTB h p=some (decide (isP h p)):=by
 rw [qpJ]
 congr 1
 simp only [peq,Bool.and_true]
 rw [Bool.eq_iff_iff,decide_eq_true_eq]
 simp only [wz,decide_eq_true_eq]
 exact Iff.rfl
theorem qwB (h:qga) (p:qea):qUk h p=some (decide (isP h p)):=by
 rw [qit]
 unfold isP
 by_cases h1:h.2.1=p.1 <;> by_cases h2:h.2.2.1=p.2.1 <;> by_cases h3:h.2.2.2.1=p.2.2.1 <;> simp [h1,h2,h3]
def ckL:List qga→List qea→Int
 |h::hs,p::ps=>if hOK h∧isP h p then ckL hs ps else 8
 |_,_=>0
def lck (l:qza):Int:=
 if chk l.1≠0 then 8 else if qBe l.2.1≠0 then 8 else if (ap l.1.2.1 0 l.2.1).length≠l.2.2.1.length then 8 else ckL l.2.2.1 (ap l.1.2.1 0 l.2.1)
theorem qoE (hs:List qga) (ps:List qea) (hl:hs.length=ps.length) (hb:hs.length≤1000000):∀(k i:Nat),i+k=hs.length→qYj hs (hs.length:Int) (i:Int) ps=some (ckL (hs.drop i) (ps.drop i))
 |0,i,e=>by
  rw [qgo,if_neg (by simp;omega),wI (by omega)];rfl
 |k+1,i,e=>by
  have hl':wi hs.length=(hs.length:Int):=rfl
  have hl2:wi ps.length=(ps.length:Int):=rfl
  obtain ⟨d1,d2,d3⟩:=qTa (qqa qsa:qga) (xs:=hs) (i:=i) (by omega)
  obtain ⟨p1,p2,p3⟩:=qTa (qqa qka:qea) (xs:=ps) (i:=i) (by omega)
  have ih:=qoE hs ps hl hb k (i+1) (by omega)
  rw [show ((i+1:Nat):Int)=(i:Int)+1 by omega] at ih
  rw [qgo,if_pos (by simp;omega),qda (by omega),qda (by rw [hl'];omega),wv,wQ,qre]
  simp only [wq,qLN]
  rw [d1,p1,ckL]
  generalize hs.getD i (qqa qsa)=h0
  generalize ps.getD i (qqa qka)=p0
  by_cases h1:hOK h0
  ·rw [if_neg (by simpa using h1),qda (by omega),qda (by rw [hl2];omega),qTu]
   simp only [wq]
   by_cases h2:isP h0 p0
   ·rw [if_neg (by simp [h2]),if_pos ⟨h1,h2⟩,w64 (by omega) (by omega),ih]
   ·rw [if_pos (by simp [h2]),if_neg (fun h=>h2 h.2)]
  ·rw [if_pos h1,if_neg (fun h=>h1 h.1)]
theorem qZx (l:qza) (hR:RecsOK l.2.1):qZt l=some (lck l):=by
 rw [qWB,qEk,qpe _ hR]
 simp only [wq,lck]
 by_cases hc:chk l.1=0
 ·rw [if_neg (by simp [hc]),if_neg (show ¬chk l.1≠0 by simp [hc])]
  by_cases hv:qBe l.2.1=0
  ·have h16:=qVy hc
   have hV:=qNc hv
   rw [if_neg (by simp [hv]),if_neg (show ¬qBe l.2.1≠0 by simp [hv]),qeo l.1 l.2.1 h16 hV]
   simp only [wq]
   have hsm:=qnw l.1.2.1 h16.1 l.2.1 hV
   by_cases hl:(ap l.1.2.1 0 l.2.1).length=l.2.2.1.length
   ·rw [if_neg (by simp [hl]),if_neg (show ¬(ap l.1.2.1 0 l.2.1).length≠l.2.2.1.length by simp [hl])]
    exact qoE l.2.2.1 _ hl.symm (by omega) l.2.2.1.length 0 (by omega)
   ·rw [if_pos (by simp;omega),if_pos hl]
  ·rw [if_pos (by simpa using hv),if_pos hv]
 ·rw [if_pos (by simpa using hc),if_pos hc]
theorem qqI:∀(hs:List qga) (ps:List qea),hs.length=ps.length→ckL hs ps=0→∀h∈hs,hOK h
 |[],_,_,_,h,hh=>by cases hh
 |h::hs,[],hl,_,_,_=>by simp at hl
 |h::hs,p::ps,hl,hc,x,hx=>by
  simp only [ckL] at hc
  split at hc
  ·rename_i hok
   rcases waa.1 hx with rfl|hx
   ·exact hok.1
   ·exact qqI hs ps (by simpa using hl) hc x hx
  ·omega
structure LstV (l:qza):Prop where
 blk:16≤l.1.2.1∧l.1.2.1≤4096
 chk:chk l.1=0
 val:qBe l.2.1=0
 recs:RecsV l.2.1
 len:l.2.2.1.length=(ap l.1.2.1 0 l.2.1).length
 hds:∀h∈l.2.2.1,hOK h
 ck:ckL l.2.2.1 (ap l.1.2.1 0 l.2.1)=0
theorem qHN {l:qza} (h:lck l=0):LstV l:=by
 unfold lck at h
 split at h
 ·omega
 ·rename_i hc
  split at h
  ·omega
  ·rename_i hv
   split at h
   ·omega
   ·rename_i hl
    simp only [ne_eq,Decidable.not_not] at hc hv hl
    exact ⟨qVy hc,hc,hv,qNc hv,hl.symm,qqI _ _ hl.symm h,h⟩
theorem qJQ {l:qza}:lck l=0∨lck l=8:=by
 have h:∀hs ps,ckL hs ps=0∨ckL hs ps=8:=by
  intro hs
  induction hs with
  |nil=>intro ps;left;rfl
  |cons x xs ih=>
   intro ps
   cases ps with
   |nil=>left;rfl
   |cons p ps=>simp only [ckL];split;exact ih ps;right;rfl
 unfold lck
 split;right;rfl
 split;right;rfl
 split;right;rfl
 exact h _ _
def plc:Int→List qga→List Int
 |_,[]=>[]
 |at_,h::r=>at_::plc (at_+(41+h.2.2.2.2.1)) r
theorem qKN {h:qga} (ok:hOK h):1≤h.2.2.2.2.1∧h.2.2.2.2.1≤4096:=by unfold hOK at ok;omega
theorem qSA (hs:List qga) (hh:∀h∈hs,hOK h) (hb:hs.length≤1000000):∀(k i:Nat) (at_:Int) (out:List Int),i+k=hs.length→0≤at_→at_≤100000+5000*i→out.length=i→qdj at_ hs (hs.length:Int) (i:Int) out=some (out++plc at_ (hs.drop i),0)
 |0,i,at_,out,e,h0,h1,ho=>by
  rw [qRm,if_neg (by simp;omega),wI (by omega)];simp [plc]
 |k+1,i,at_,out,e,h0,h1,ho=>by
  have hl':wi hs.length=(hs.length:Int):=rfl
  obtain ⟨d1,d2,d3⟩:=qTa (qqa qsa:qga) (xs:=hs) (i:=i) (by omega)
  have hv:=qKN (hh _ d3)
  have ih:=qSA hs hh hb k (i+1) (at_+(41+(hs.getD i (qqa qsa)).2.2.2.2.1)) (out++[at_]) (by omega) (by omega) (by omega) (by simp;omega)
  rw [show ((i+1:Nat):Int)=(i:Int)+1 by omega] at ih
  rw [qRm,if_pos (by simp;omega),qda (by omega),qda (by rw [hl'];omega),qda (by simp only [wm,wB,wT];omega),wv,w64 (x:=41+_) (by omega) (by omega),w64 (x:=(i:Int)+1) (by omega) (by omega),w64 (by omega) (by omega),ih,d1,plc,wy]
  rfl
def qLD (l:qza):List Int:=plc (28+qrE l.2.1) l.2.2.1
theorem qfo (l:qza) (hR:RecsOK l.2.1) (hS:SumsOK l.2.1):qDn l=some (if lck l=0 then (qLD l,0) else ([],8)):=by
 rw [qOz,qZx l hR]
 simp only [wq]
 rcases qJQ (l:=l) with h|h
 ·have hL:=qHN h
  have hsm:=qnw l.1.2.1 hL.blk.1 l.2.1 hL.recs
  have hb:=qbI l.2.1 hL.recs.each
  have hlen:=hL.recs.len
  have hll:=hL.len
  rw [if_neg (by simp [h]),if_pos h,qLq _ _ hR hS]
  have ha:ask l.1 l.2.1=0:=by unfold ask;rw [if_neg (by simp [hL.chk]),hL.val]
  rw [ha,if_neg (by simp)]
  simp only [wq]
  have hh:=qDL l.1 l.2.1 hS
  have hh':wi (qLk l.1 l.2.1).length=28+qrE l.2.1:=hh
  rw [hh']
  exact qSA l.2.2.1 hL.hds (by omega) l.2.2.1.length 0 _ [] (by omega) (by omega) (by omega) rfl
 ·rw [if_pos (by simp [h]),h,if_neg (by decide)]
theorem qMH {x y:Int} (hx:0≤x∧x<4294967296) (hy:0≤y∧y<256):qlc .i64 (x*256) y=x*256+y:=by
 obtain ⟨a,rfl⟩:=whb hx.1
 obtain ⟨b,rfl⟩:=whb hy.1
 exact qLH a b (by omega) (by omega)
theorem qRu (v0:List Int) (hl:v0.length=28) (b8:qga) (m mem off raw len:Int):∀(d n:Nat) (S:List Int),20 - n=d→n≤20→S.length=20→S.take n=(v0.drop 8).take n→
  qVd v0 (n:Int) b8 (m,(mem,(off,(raw,(len,(S,()))))))=some (if hOK (m,(mem,(off,(raw,(len,(v0.drop 8,())))))) then ((m,(mem,(off,(raw,(len,(v0.drop 8,())))))),0) else (zH,12))
 |0,n,S,hd,hn,hS,ht=>by
  have hS':S=v0.drop 8:=by
   rw [wN (by omega),wN (by simp;omega)] at ht;exact ht
  subst hS'
  rw [qph,if_neg (by simp;omega),qrv]
  simp only [wq,qLN]
  by_cases ok:hOK (m,(mem,(off,(raw,(len,(v0.drop 8,()))))))
  ·rw [if_neg (by simpa using ok),if_pos ok]
  ·rw [if_pos ok,if_neg ok];rfl
 |d+1,n,S,hd,hn,hS,ht=>by
  rw [qph,if_pos (by simp;omega),w64 (x:=8+(n:Int)) (by omega) (by omega),qda (by omega),qda (by simp only [wj];omega),qda (by omega),qda (by omega),w64 (x:=(n:Int)+1) (by omega) (by omega)]
  have e1:wn (8+(n:Int))=8+n:=by omega
  simp only [e1,wv]
  have:=qRu v0 hl b8 m mem off raw len d (n+1) (S.set n (v0.getD (8+n) 0)) (by omega) (by omega) (by simpa using hS) (by
   rw [qes _ _ _ (by omega),ht,wPa (by simp;omega)]
   have h8:8+n<v0.length:=by omega
   simp [wu,h8])
  exact this
theorem qqv (a:List Int) (hb:Bts a):qmi a=some (pP a):=by
 rw [qOp]
 by_cases hl:a.length=28
 ·rw [if_neg (by simp [hl])]
  repeat rw [qda (by first|decide|(simp only [wj];omega))]
  have h1:=hb.getD 1;have h2:=hb.getD 2;have h3:=hb.getD 3;have h4:=hb.getD 4;have h5:=hb.getD 5;have h6:=hb.getD 6;have h7:=hb.getD 7
  rw [w64 (x:=a.getD 1 0) (by omega) (by omega),w64 (x:=a.getD 2 0) (by omega) (by omega),w64 (x:=a.getD 3 0) (by omega) (by omega),w64 (x:=a.getD 4 0) (by omega) (by omega),w64 (x:=a.getD 5 0) (by omega) (by omega),w64 (x:=a.getD 6 0) (by omega) (by omega),w64 (x:=a.getD 7 0) (by omega) (by omega)]
  rw [w64 (x:=a.getD 2 0*256) (by omega) (by omega),w64 (x:=a.getD 4 0*256) (by omega) (by omega),w64 (x:=a.getD 6 0*256) (by omega) (by omega)]
  rw [w64 (x:=a.getD 2 0*256+a.getD 3 0) (by omega) (by omega),w64 (x:=a.getD 4 0*256+a.getD 5 0) (by omega) (by omega),w64 (x:=a.getD 6 0*256+a.getD 7 0) (by omega) (by omega)]
  have:=qRu a hl zH (a.getD 0 0) (a.getD 1 0) (a.getD 2 0*256+a.getD 3 0) (a.getD 4 0*256+a.getD 5 0) (a.getD 6 0*256+a.getD 7 0) 20 0 (wo 20 0) rfl (by omega) (by simp) (by simp)
  refine Eq.trans this ?_
  show some (if hOK (pH a) then (pH a,(0:Int)) else (zH,12))=_
  unfold pP
  by_cases ok:hOK (pH a)
  ·rw [if_pos (show hOK (pH a) from ok),if_pos ⟨hl,ok⟩]
  ·rw [if_neg (show ¬hOK (pH a) from ok),if_neg (fun h=>ok h.2)]
 ·rw [if_pos (by simp;omega)]
  unfold pP
  rw [if_neg (fun h=>hl h.1)];rfl
theorem qDw (v0:List Int) (h1:41≤v0.length) (h2:v0.length≤50000):∀(d n:Nat),13 - n=d→n≤13→qxd v0 0 (n:Int) mark=some (decide ((v0.drop n).take (13 - n)=mark.drop n))
 |0,n,hd,hn=>by
  have:n=13:=by omega
  subst this
  rw [qCg,if_neg (by decide)]
  simp [mark]
 |d+1,n,hd,hn=>by
  have hlt:n<v0.length:=by omega
  have hm:n<mark.length:=by rw [qbj];omega
  rw [qCg,if_pos (by simp;omega),w64 (x:=0+(n:Int)) (by omega) (by omega),qda (by omega),qda (by simp only [wj];omega),qda (by omega),qda (by simp only [wj];omega),w64 (x:=(n:Int)+1) (by omega) (by omega)]
  have e1:wn (0+(n:Int))=n:=by omega
  have ih:=qDw v0 h1 h2 d (n+1) (by omega) (by omega)
  simp only [Int.natCast_add,show ((1:Nat):Int)=1 from rfl] at ih
  simp only [e1,wv,wQ]
  rw [ih]
  have g1:v0.getD n 0=v0[n]:=by simp [wu,hlt]
  have g2:mark.getD n 0=mark[n]:=by simp [wu,hm]
  rw [g1,g2,wAa hlt,wAa hm,show 13 - n=(13 - (n+1))+1 by omega,List.take_succ_cons]
  by_cases he:v0[n]=mark[n]
  ·rw [if_neg (by simp [he]),he]
   congr 1
   rw [decide_eq_decide]
   exact ⟨fun h=>by rw [h],fun h=>(List.cons.inj h).2⟩
  ·rw [if_pos (by simpa using he)]
   have:¬(v0[n]::wK (13 - (n+1)) (wW (n+1) v0)=mark[n]::wW (n+1) mark):=fun h=>he (List.cons.inj h).1
   rw [decide_eq_false this]
theorem qaH (a:List Int) (h1:41≤a.length) (h2:a.length≤50000):qXg a 0=some (decide (a.take 13=mark)):=by
 rw [qwo,qao]
 simp only [wq]
 rw [if_neg (by decide),if_neg (by simp),if_neg (by simp only [decide_eq_true_eq,wj];rw [w64 (by omega) (by omega)];omega)]
 have:=qDw a h1 h2 13 0 rfl (by omega)
 rw [show ((0:Nat):Int)=0 from rfl] at this
 rw [this]
 rfl
theorem qTv (xs:List Int) (h:xs.length≤1000000):qLi xs=some xs:=by
 rw [qdr]
 refine qaz false (by simp) (fun b hb=>?_)
 cases b with
 |true=>rw [if_pos rfl,hb rfl]
 |false=>rw [if_neg (by simp),qda (by simp;omega)];simp
def rdB (a:List Int):qca×Int×Int:=
 if a.length>50000 then ((zH,([],())),(0,4)) else if a.length<41 then ((zH,([],())),(0,18))
 else if a.take 13≠mark∨¬hOK (pH ((a.drop 13).take 28)) then ((zH,([],())),(0,12))
 else if (a.length:Int)<41+(pH ((a.drop 13).take 28)).2.2.2.2.1 then ((zH,([],())),(0,18))
 else ((pH ((a.drop 13).take 28),((a.drop 41).take (pH ((a.drop 13).take 28)).2.2.2.2.1.toNat,())),(41+(pH ((a.drop 13).take 28)).2.2.2.2.1,0))
theorem qwu (a:List Int) (hb:Bts a):qdn a=some (rdB a):=by
 rw [qgt]
 unfold rdB
 by_cases h1:a.length>50000
 ·rw [if_pos (by simp;omega),if_pos h1];rfl
 rw [if_neg (by simp;omega),if_neg h1]
 by_cases h2:a.length<41
 ·rw [if_pos (by simp;omega),if_pos h2];rfl
 rw [if_neg (by simp;omega),if_neg h2,qda (by decide),qda (by decide),qda (by simp only [wj];omega),qSm _ ((hb.drop _).take _),qCP a (by omega),qPq a hb (by omega) (by omega)]
 simp only [wq]
 by_cases h3:a.take 13=mark
 ·by_cases ok:hOK (pH ((a.drop 13).take 28))
  ·have hlen:=qMk ok
   rw [if_pos ok,if_neg (by simp [h3]),if_neg (by simp),if_neg (show ¬(a.take 13≠mark∨¬hOK (pH ((a.drop 13).take 28))) from fun h=>h.elim (fun h=>h h3) (fun h=>h ok))]
   generalize pH ((a.drop 13).take 28)=h at ok hlen ⊢
   simp only
   rw [w64 (x:=41+h.2.2.2.2.1) (by omega) (by omega)]
   by_cases h4:(a.length:Int)<41+h.2.2.2.2.1
   ·rw [if_pos (by simpa using h4),if_pos h4];rfl
   ·rw [if_neg (by simpa using h4),if_neg h4,qda (by decide),qda (by omega),qda (by simp only [wj];omega),qTv _ (by simp;omega)]
    have e:wn (41+h.2.2.2.2.1) - 41=h.2.2.2.2.1.toNat:=by omega
    simp only [wq,e]
  ·rw [if_neg ok,if_neg (by simp [h3]),if_pos (by simp),if_pos (show (a.take 13≠mark∨¬hOK (pH ((a.drop 13).take 28))) from .inr ok)];rfl
 ·rw [if_pos (by simp [h3]),if_pos (show (a.take 13≠mark∨¬hOK (pH ((a.drop 13).take 28))) from .inl h3)];rfl
theorem qfx (a:List Int) (hb:Bts a):qPi a=some (rdB a):=by
 rw [qxq]
 unfold rdB
 by_cases h1:a.length>50000
 ·rw [if_pos (by simp;omega),if_pos h1];rfl
 rw [if_neg (by simp;omega),if_neg h1,qvo]
 by_cases h2:a.length<41
 ·rw [if_pos (by simp;omega),if_pos h2];rfl
 rw [if_neg (by simp;omega),if_neg h2,qda (by decide),qda (by decide),qda (by simp only [wj];omega),qqv _ ((hb.drop _).take _),qCP a (by omega),qaH a (by omega) (by omega)]
 simp only [wq]
 by_cases h3:a.take 13=mark
 ·by_cases ok:hOK (pH ((a.drop 13).take 28))
  ·have hlen:=qMk ok
   rw [if_pos ok,if_neg (by simp [h3]),if_neg (by simp),if_neg (show ¬(a.take 13≠mark∨¬hOK (pH ((a.drop 13).take 28))) from fun h=>h.elim (fun h=>h h3) (fun h=>h ok))]
   generalize pH ((a.drop 13).take 28)=h at ok hlen ⊢
   simp only [wj,decide_eq_true_eq]
   rw [w64 (x:=41+h.2.2.2.2.1) (by omega) (by omega),w64 (x:=(a.length:Int) - 41) (by omega) (by omega)]
   by_cases h4:(a.length:Int)<41+h.2.2.2.2.1
   ·rw [if_pos (by omega),if_pos h4];rfl
   ·rw [if_neg (by omega),if_neg h4,qda (by decide),qda (by omega),qda (by omega),qda (by simp;omega)]
    have e:wn (41+h.2.2.2.2.1) - 41=h.2.2.2.2.1.toNat:=by omega
    simp only [wq,e,wU]
  ·rw [if_neg ok,if_neg (by simp [h3]),if_pos (by simp),if_pos (show (a.take 13≠mark∨¬hOK (pH ((a.drop 13).take 28))) from .inr ok)];rfl
 ·rw [if_pos (by simp [h3]),if_pos (show (a.take 13≠mark∨¬hOK (pH ((a.drop 13).take 28))) from .inl h3)];rfl
def rK (a:List Int) (p:Nat):Nat:=(a.getD p 0).toNat
def rF (a:List Int) (p:Nat):Prop:=p<a.length∧p+1+rK a p+22≤a.length
instance (a:List Int) (p:Nat):Decidable (rF a p):=by unfold rF;infer_instance
def rR (a:List Int) (p:Nat):qaa:=
 (qng ((a.drop (p+1)).take (rK a p)),(a.getD (p+1+rK a p) 0*256+a.getD (p+2+rK a p) 0,((a.drop (p+3+rK a p)).take 20,())))
def qBB (a:List Int):Nat→Nat→List qaa→List qaa×Int×Int
 |0,p,acc=>if qBe acc≠0 then ([],(0,12)) else (acc,((p:Int),0))
 |n+1,p,acc=>if rF a p then qBB a n (p+rK a p+23) (acc++[rR a p]) else ([],(0,18))
theorem qeJ {a:List Int} (hb:Bts a) (p:Nat):a.getD p 0=(rK a p:Int)∧rK a p<256:=by
 have:=hb.getD p
 unfold rK;omega
theorem qjB (a:List Int) (p n i:Nat) (h:i<n):((a.drop p).take n).getD i 0=a.getD (p+i) 0:=by
 simp only [wu,List.getElem?_take,List.getElem?_drop,if_pos h]
theorem qds (a:List Int) (hl:a.length≤100000) (p n:Nat) (hp:p≤a.length) (hn:n≤1000):
  qRc (n:Int) ((a,((p:Int),())),())=some (if p+n≤a.length then ((a.drop p).take n,(none,((a,(((p+n:Nat):Int),())),()))) else ([],(some 18,((a,((p:Int),())),())))):=by
 have hl':wi a.length=(a.length:Int):=rfl
 rw [qap]
 simp only [hl']
 rw [w64 (x:=(a.length:Int) - p) (by omega) (by omega),w64 (x:=(p:Int)+n) (by omega) (by omega),w64 (x:=(p:Int)+n - n) (by omega) (by omega)]
 by_cases h:p+n≤a.length
 ·have e1:((p:Int)+n).toNat=p+n:=by omega
  have e2:((p:Int)+n - n).toNat=p:=by omega
  rw [if_neg (by simp;omega),qda (by omega),qda (by omega),qda (by omega),if_pos h,e1,e2,Nat.add_sub_cancel_left]
  rfl
 ·rw [if_pos (by simp;omega),if_neg h]
theorem qGK (a:List Int) (hb:Bts a) (hl:a.length≤100000) (p:Nat) (hf:rF a p):
  qfe ((a,((p:Int),())),())=some (rR a p,(none,((a,(((p+rK a p+23:Nat):Int),())),()))):=by
 obtain ⟨h1,h2⟩:=hf
 obtain ⟨ek,hk⟩:=qeJ hb p
 have t1:qRc (1:Int) ((a,((p:Int),())),())=_:=qds a hl p 1 (by omega) (by omega)
 have t2:=qds a hl (p+1) (rK a p+22) (by omega) (by omega)
 rw [if_pos (by omega)] at t1
 rw [if_pos (by omega)] at t2
 rw [qKh,t1]
 simp only [wq]
 have l1:((a.drop p).take 1).length=1:=by simp;omega
 have g1:((a.drop p).take 1).getD 0 0=(rK a p:Int):=by rw [qjB _ _ _ _ (by omega)];exact ek
 rw [if_neg (by simp),qda (by omega),qda (by rw [l1];decide),g1,w64 (x:=(rK a p:Int)) (by omega) (by omega),w64 (x:=(rK a p:Int)+22) (by omega) (by omega),show (rK a p:Int)+22=((rK a p+22:Nat):Int) by omega,t2]
 simp only [wq]
 have l2:wi ((a.drop (p+1)).take (rK a p+22)).length=(rK a p:Int)+22:=by
  have:((a.drop (p+1)).take (rK a p+22)).length=rK a p+22:=by simp;omega
  rw [this];simp
 rw [l2,w64 (x:=(rK a p:Int)+1) (by omega) (by omega),w64 (x:=(rK a p:Int)+2) (by omega) (by omega)]
 rw [if_neg (by simp),qda (by omega),qda (by rw [l1];decide),qda (by omega),qda (by omega),qda (by omega),qda (by omega),qda (by omega),qda (by omega),qda (by omega),qda (by omega),qda (by omega)]
 have n1:((rK a p:Int)).toNat=rK a p:=by omega
 have n2:((rK a p:Int)+1).toNat=rK a p+1:=by omega
 have n3:((rK a p:Int)+2).toNat=rK a p+2:=by omega
 rw [n1,n2,n3,qjB _ _ _ _ (by omega),qjB _ _ _ _ (by omega)]
 have b1:=hb.getD (p+1+rK a p)
 have b2:=hb.getD (p+1+(rK a p+1))
 rw [w64 (x:=a.getD (p+1+rK a p) 0) (by omega) (by omega),w64 (x:=a.getD (p+1+(rK a p+1)) 0) (by omega) (by omega),w64 (x:=a.getD (p+1+rK a p) 0*256) (by omega) (by omega),qMH (by omega) b2]
 have e1:wK (rK a p) ((a.drop (p+1)).take (rK a p+22))=(a.drop (p+1)).take (rK a p):=by rw [List.take_take,Nat.min_eq_left (by omega)]
 have e2:wW (rK a p+2) ((a.drop (p+1)).take (rK a p+22))=(a.drop (p+3+rK a p)).take 20:=by
  rw [List.drop_take,wja,show rK a p+22 - (rK a p+2)=20 by omega,show p+1+(rK a p+2)=p+3+rK a p by omega]
 have l3:((a.drop (p+3+rK a p)).take 20).length=20:=by simp;omega
 rw [e1,e2,l3]
 have e3:qKb (wo 20 (0:Int)) 0 (wK (min 20 20) ((a.drop (p+3+rK a p)).take 20))=(a.drop (p+3+rK a p)).take 20:=by
  rw [show min 20 20=20 from rfl,wN (by omega),qKb,l3]
  simp
 rw [e3]
 unfold rR
 rw [show p+1+(rK a p+1)=p+2+rK a p by omega,show p+1+(rK a p+22)=p+rK a p+23 by omega]
theorem qHK (a:List Int) (hb:Bts a) (hl:a.length≤100000) (p:Nat) (hp:p≤a.length) (hf:¬rF a p):
  ∃x s,qfe ((a,((p:Int),())),())=some (x,(some 18,s)):=by
 obtain ⟨ek,hk⟩:=qeJ hb p
 have t1:qRc (1:Int) ((a,((p:Int),())),())=_:=qds a hl p 1 (by omega) (by omega)
 rw [qKh,t1]
 simp only [wq]
 by_cases h1:p+1≤a.length
 ·have t2:=qds a hl (p+1) (rK a p+22) (by omega) (by omega)
  rw [if_neg (by unfold rF at hf;omega)] at t2
  have l1:((a.drop p).take 1).length=1:=by simp;omega
  have g1:((a.drop p).take 1).getD 0 0=(rK a p:Int):=by rw [qjB _ _ _ _ (by omega)];exact ek
  rw [if_pos h1]
  simp only
  rw [if_neg (by simp),qda (by omega),qda (by rw [l1];decide),g1,w64 (x:=(rK a p:Int)) (by omega) (by omega),w64 (x:=(rK a p:Int)+22) (by omega) (by omega),show (rK a p:Int)+22=((rK a p+22:Nat):Int) by omega,t2]
  exact ⟨_,_,rfl⟩
 ·rw [if_neg h1]
  exact ⟨_,_,rfl⟩
end Go.Ab
