/-
  An abstract machine over the model's code and its soundness; what the functions compute, as plain functions (printed by a program of this repo's own, checked here by the kernel); plain laws of them: part 6. Helper text, no statement of the claim stands here.
-/
import Derived.Test.YtdgenbliehokjaaGreatDoorTxtPe
import Derived.Lib.IndexMore
open BitVec renaming ofInt → wF
open Bool renaming and_eq_true → wA, false_eq_true → wN, not_eq_true' → wRa
open ByteArray renaming empty → wD, toList → wja
open Go.IntKind renaming wrap → wd
open Int renaming eq_ofNat_of_zero_le → whb, fdiv → wR, le_refl → wSa, ofNat → wi, ofNat_eq_natCast → wj, tdiv → wFa, tmod → wnb, toNat → wo, toNat_natCast → wv
open List renaming all_cons → wsb, append_assoc → wB, append_nil → wW, cons_append → wca, drop → wY, drop_drop → wda, drop_eq_getElem_cons → wka, drop_eq_nil_of_le → wK, drop_zero → wea, getD → wm, getD_eq_getElem?_getD → wu, getElem?_eq_getElem → wx, length → we, length_append → wn, length_cons → wz, length_drop → wS, length_nil → wX, length_replicate → wP, length_set → wia, length_singleton → wy, length_take → wM, map_cons → wI, mem_append → wba, mem_cons → wZ, mem_map → waa, mem_singleton → wU, nil_append → wV, replicate → wl, replicate_succ → wKa, set → wC, take → wL, take_append_of_le_length → wNa, take_of_length_le → wQ
open Nat renaming le_refl → ws, min_eq_left → wfb, zero_add → wJ
open Option renaming bind_some → wq, getD_some → wcb
open Prod renaming ext → wrb
/-
  What the law leans on, of several chains of plain texts.
-/
set_option linter.unusedVariables false
set_option linter.unusedSimpArgs false
set_option maxHeartbeats 1000000
set_option maxRecDepth 100000
namespace Go.Ab
open Go
attribute [local irreducible] IntKind.wrap
def Tot {α:Type} (x:Option α) (P:α→Prop):Prop:=∃r,x=some r∧P r
theorem ub {α:Type} {r:α} {P:α→Prop} (h:P r):Tot (some r) P:=⟨r,rfl,h⟩
theorem uh {α:Type} {x:Option α} {r:α} {P:α→Prop} (e:x=some r) (h:P r):Tot x P:=⟨r,e,h⟩
theorem Tot.mono {α:Type} {x:Option α} {P Q:α→Prop} (h:Tot x P) (k:∀r,P r→Q r):Tot x Q:=by
 obtain ⟨r,e,p⟩:=h;exact ⟨r,e,k r p⟩
theorem Tot.b {α β:Type} {x:Option α} {f:α→Option β} {P:α→Prop} {Q:β→Prop} (h:Tot x P) (k:∀r,P r→Tot (f r) Q):Tot (x.bind f) Q:=by
 obtain ⟨r,e,p⟩:=h;obtain ⟨s,e',q⟩:=k r p;exact ⟨s,by rw [e,wq,e'],q⟩
theorem ud {α β:Type} {x:Option α} {f:α→Option β} {v:α} {Q:β→Prop} (h:x=some v) (k:Tot (f v) Q):Tot (x.bind f) Q:=by
 subst h;exact k
theorem ua {α:Type} {p:Prop} {x:Option α} {Q:α→Prop} (h:p) (k:Tot x Q):Tot (gd p x) Q:=by rw [qfa h];exact k
theorem uk {α:Type} {c:Prop} {i:Decidable c} {x y:Option α} {Q:α→Prop} (h1:c→Tot x Q) (h2:¬c→Tot y Q):Tot (@ite _ c i x y) Q:=by
 by_cases h:c
 ·rw [if_pos h];exact h1 h
 ·rw [if_neg h];exact h2 h
theorem ug {α:Type} {p:Prop} {d:Decidable p} {i:Decidable (@decide p d=true)} {x y:Option α} {Q:α→Prop} (h1:p→Tot x Q) (h2:¬p→Tot y Q):Tot (@ite _ (@decide p d=true) i x y) Q:=
 uk (fun h=>h1 (of_decide_eq_true h)) (fun h=>h2 (fun hp=>h (decide_eq_true hp)))
theorem uf {α:Type} {p:Prop} {d:Decidable p} {i:Decidable (@decide p d=true)} {x y:Option α} {Q:α→Prop} (h:p) (h1:Tot x Q):Tot (@ite _ (@decide p d=true) i x y) Q:=
 ug (fun _=>h1) (fun k=>absurd h k)
theorem uc {α:Type} {p:Prop} {d:Decidable p} {i:Decidable (@decide p d=true)} {x y:Option α} {Q:α→Prop} (h:¬p) (h1:Tot y Q):Tot (@ite _ (@decide p d=true) i x y) Q:=
 ug (fun k=>absurd k h) (fun _=>h1)
theorem ui {α:Type} {a b:Int} {i:Decidable ((a != b)=true)} {x y:Option α} {Q:α→Prop} (h1:a≠b→Tot x Q) (h2:a=b→Tot y Q):Tot (@ite _ ((a != b)=true) i x y) Q:=
 uk (fun h=>h1 (by simpa using h)) (fun h=>h2 (by simpa using h))
theorem uz {α:Type} {a b:Int} {i:Decidable ((a != b)=true)} {x y:Option α} {Q:α→Prop} (h:a≠b) (h1:Tot x Q):Tot (@ite _ ((a != b)=true) i x y) Q:=
 ui (fun _=>h1) (fun k=>absurd k h)
theorem ue {α:Type} {a b:Int} {i:Decidable ((a != b)=true)} {x y:Option α} {Q:α→Prop} (h:a=b) (h1:Tot y Q):Tot (@ite _ ((a != b)=true) i x y) Q:=
 ui (fun k=>absurd h k) (fun _=>h1)
theorem ul {α:Type} {a b:Int} {i:Decidable ((a==b)=true)} {x y:Option α} {Q:α→Prop} (h1:a=b→Tot x Q) (h2:a≠b→Tot y Q):Tot (@ite _ ((a==b)=true) i x y) Q:=
 uk (fun h=>h1 (by simpa using h)) (fun h=>h2 (by simpa using h))
theorem uy {α:Type} {a b:Int} {i:Decidable ((a==b)=true)} {x y:Option α} {Q:α→Prop} (h:a=b) (h1:Tot x Q):Tot (@ite _ ((a==b)=true) i x y) Q:=
 ul (fun _=>h1) (fun k=>absurd h k)
theorem ux {α:Type} {a b:Int} {i:Decidable ((a==b)=true)} {x y:Option α} {Q:α→Prop} (h:a≠b) (h1:Tot y Q):Tot (@ite _ ((a==b)=true) i x y) Q:=
 ul (fun k=>absurd k h) (fun _=>h1)
theorem uo {α:Type} {i:Decidable (false=true)} {x y:Option α} {Q:α→Prop} (h:Tot y Q):Tot (@ite _ (false=true) i x y) Q:=uk (fun k=>absurd k Bool.false_ne_true) (fun _=>h)
theorem um {α:Type} {b:Bool} {i:Decidable ((not b)=true)} {x y:Option α} {Q:α→Prop} (h1:b=false→Tot x Q) (h2:b=true→Tot y Q):Tot (@ite _ ((not b)=true) i x y) Q:=
 uk (fun h=>h1 (by simpa using h)) (fun h=>h2 (by simpa using h))
theorem Tot.eq {α:Type} {x:Option α} {v:α} (h:Tot x fun r=>r=v):x=some v:=by obtain ⟨r,e,p⟩:=h;rw [e,p]
theorem qld {P:Int→Prop} (n:Int) (base:∀i,n≤i→P i) (step:∀i,i<n→P (i+1)→P i):∀i,P i:=by
 intro i
 generalize hm:(n - i).toNat=m
 induction m generalizing i with
 |zero=>exact base i (by omega)
 |succ m ih=>exact step i (by omega) (ih (i+1) (by omega))
theorem qwO (x:Int):0≤wd .u32 x∧wd .u32 x<4294967296:=by rw [qXy];omega
theorem qNQ (x:Int):0≤wd .u64 x∧wd .u64 x<18446744073709551616:=by rw [qNR];omega
theorem qYu (x:Int):0≤wd .u8 x∧wd .u8 x<256:=by rw [wu8];omega
theorem qde (n:Nat) (m:Int) (h0:0≤m) (h1:m<2 ^ n):(wF n m).toNat=m.toNat:=by
 rw [BitVec.toNat_ofInt];congr 1;exact Int.emod_eq_of_lt h0 (by exact_mod_cast h1)
theorem qjO (x m:Int) (h0:0≤m) (h1:m<9223372036854775808):0≤qUa .i64 x m∧qUa .i64 x m≤m:=by
 have hh:(wF 64 x &&& wF 64 m).toNat≤m.toNat:=by
  rw [BitVec.toNat_and,qde 64 m h0 (by omega)];exact Nat.and_le_right
 have e:qUa .i64 x m=((wF 64 x &&& wF 64 m).toNat:Int):=by
  show wd .i64 ((wF 64 x &&& wF 64 m).toNat:Int)=_
  exact w64 (by omega) (by omega)
 rw [e];omega
theorem qFS (x m:Int) (h0:0≤m) (h1:m<2147483648):0≤qUa .i32 x m∧qUa .i32 x m≤m:=by
 have hh:(wF 32 x &&& wF 32 m).toNat≤m.toNat:=by
  rw [BitVec.toNat_and,qde 32 m h0 (by omega)];exact Nat.and_le_right
 have e:qUa .i32 x m=((wF 32 x &&& wF 32 m).toNat:Int):=by
  show wd .i32 ((wF 32 x &&& wF 32 m).toNat:Int)=_
  exact w32 (by omega) (by omega)
 rw [e];omega
theorem qYR (x:Int) (k:Nat) (hk:k≤20) (h1:1≤k) (h0:0≤x) (hx:x<2 ^ k):0≤qDb .i64 x 1∧qDb .i64 x 1<2 ^ k:=by
 have hp:(2:Int) ^ k≤2 ^ 20:=by exact_mod_cast Nat.pow_le_pow_right (by decide) hk
 have hp':(2:Int) ^ 20=1048576:=by decide
 have hc:((2 ^ k:Nat):Int)=(2:Int) ^ k:=by norm_cast
 have hh:(wF 64 x ^^^ wF 64 1).toNat<2 ^ k:=by
  rw [BitVec.toNat_xor,qde 64 x h0 (by omega),qde 64 1 (by omega) (by omega)]
  refine Nat.xor_lt_two_pow (by omega) ?_
  show 1<2 ^ k
  exact Nat.one_lt_two_pow (by omega)
 have hz:((wF 64 x ^^^ wF 64 1).toNat:Int)<2 ^ k:=by rw [←hc];exact_mod_cast hh
 have e:qDb .i64 x 1=((wF 64 x ^^^ wF 64 1).toNat:Int):=by
  show wd .i64 ((wF 64 x ^^^ wF 64 1).toNat:Int)=_
  exact w64 (by omega) (by omega)
 rw [e];omega
theorem qHQ {l:Int} (h0:0≤l) (h1:l≤7):l=0∨l=1∨l=2∨l=3∨l=4∨l=5∨l=6∨l=7:=by omega
def plR (l:Int):Int:=2 ^ (6+l.toNat)
def plT (l:Int):Int:=2 ^ (4+l.toNat)
theorem qJu {l:Int} (h0:0≤l) (h1:l≤7):64≤plR l∧plR l≤8192:=by
 rcases qHQ h0 h1 with rfl|rfl|rfl|rfl|rfl|rfl|rfl|rfl <;> decide
theorem qbx {l:Int} (h0:0≤l) (h1:l≤7):16≤plT l∧plT l≤2048:=by
 rcases qHQ h0 h1 with rfl|rfl|rfl|rfl|rfl|rfl|rfl|rfl <;> decide
theorem qls {l:Int} (h0:0≤l) (h1:l≤7):qvn l=some (plR l):=by
 rw [qhz,qfa h0]
 rcases qHQ h0 h1 with rfl|rfl|rfl|rfl|rfl|rfl|rfl|rfl <;> exact congrArg some (by kernel_rfl)
theorem qrp {l:Int} (h0:0≤l) (h1:l≤7):qTj l=some (plR l):=by
 rw [qzv,qfa h0]
 rcases qHQ h0 h1 with rfl|rfl|rfl|rfl|rfl|rfl|rfl|rfl <;> exact congrArg some (by kernel_rfl)
theorem qzu {l:Int} (h0:0≤l) (h1:l≤7):qaq l=some (plT l):=by
 rw [qcB,qfa h0]
 rcases qHQ h0 h1 with rfl|rfl|rfl|rfl|rfl|rfl|rfl|rfl <;> exact congrArg some (by kernel_rfl)
theorem qiO:∀k:Fin 21,qUa .i64 ((2 ^ k.val:Nat):Int) (((2 ^ k.val:Nat):Int) - 1)=0:=by decide+kernel
theorem qqm (a:Int) {len:Int} (k:Nat) (hk:k≤20) (hl:len=2 ^ k):Tot (qmj a len) fun r=>r.2=0∧0≤r.1∧r.1<len:=by
 have hp:(2:Int) ^ k≤2 ^ 20:=by exact_mod_cast Nat.pow_le_pow_right (by decide) hk
 have hp':(2:Int) ^ 20=1048576:=by decide
 have h1:(1:Int)≤2 ^ k:=by exact_mod_cast Nat.one_le_two_pow
 have hz:=qiO ⟨k,by omega⟩
 have hc:((2 ^ k:Nat):Int)=(2:Int) ^ k:=by norm_cast
 rw [hc,←hl] at hz
 rw [qXx,w64 (x:=len - 1) (by omega) (by omega)]
 have hb:=qjO (wd .i64 a) (len - 1) (by omega) (by omega)
 refine uc (by omega) (uc (by omega) (ue hz (ub ⟨rfl,?_⟩)))
 simp only
 omega
theorem qIz (a:Int):Tot (qop a) fun r=>True:=by
 rw [qYx]
 exact ua (by decide) (ub trivial)
theorem qSk {α:Type} (l:List α) (s:Nat) (hs:s≤64) (hl:l.length≤1048576):
  (qaF (fun (r1:Bool)=>r1=true→l=[]) fun (r1:Bool)=>
   if r1=true then some ([]) else gd ((we ([]++l))*s≤140737488355328)<|some ([]++l))=some l:=by
 refine qMy false (by simp) (fun r hr=>?_)
 by_cases h:r=true
 ·rw [if_pos h,hr h]
 ·rw [if_neg h,qfa (by
   rw [wV]
   exact Nat.le_trans (Nat.mul_le_mul hl hs) (by decide)),wV]
theorem qak (l:List Int) (h:l.length≤1048576):qDi l=some l:=by rw [qcr];exact qSk l 1 (by decide) h
theorem qdb (l:List Int) (h:l.length≤1048576):qTa l=some l:=by rw [qtk];exact qSk l 4 (by decide) h
theorem qic (l:List Int) (h:l.length≤1048576):qxb l=some l:=by rw [qkm];exact qSk l 1 (by decide) h
theorem qni (l:List Int) (h:l.length≤1048576):qge l=some l:=by rw [qrn];exact qSk l 8 (by decide) h
theorem qQg (l:List qCe) (h:l.length≤1048576):qpb l=some l:=by rw [qyh];exact qSk l 16 (by decide) h
theorem qEj (l:List qta) (h:l.length≤1048576):qEb l=some l:=by rw [qNg];exact qSk l 32 (by decide) h
theorem qFj (l:List qqa) (h:l.length≤1048576):qFb l=some l:=by rw [qPg];exact qSk l 56 (by decide) h
theorem qPa {α:Type} {P:α→Prop} {l:List α} {d:α} (h:∀x∈l,P x) (i:Nat) (hi:i<l.length):P (l.getD i d):=by
 rw [wu,wx hi];exact h _ (List.getElem_mem hi)
theorem qZx {α:Type} {P:α→Prop} {l:List α} {d:α} (h:∀x∈l,P x) (hd:P d) (i:Nat):P (l.getD i d):=by
 by_cases hi:i<l.length
 ·exact qPa h i hi
 ·rw [wu,List.getElem?_eq_none (by omega)];exact hd
theorem qHf {α:Type} {P:α→Prop} {l:List α} {v:α} (h:∀x∈l,P x) (hv:P v) (i:Nat):∀x∈l.set i v,P x:=by
 intro x hx
 rcases List.mem_or_eq_of_mem_set hx with h'|rfl
 ·exact h x h'
 ·exact hv
theorem qDj {α:Type} {P:α→Prop} {l:List α} {v:α} (h:∀x∈l,P x) (hv:P v):∀x∈l++[v],P x:=by
 intro x hx
 rcases wba.1 hx with h'|h'
 ·exact h x h'
 ·rw [wU.1 h'];exact hv
theorem qlH {α:Type} (l:List α) (i:Nat) (d:α):l.set i (l.getD i d)=l:=by
 by_cases hi:i<l.length
 ·rw [wu,wx hi,wcb,List.set_getElem_self]
 ·rw [List.set_eq_of_length_le (by omega)]
def qBe (l:Int) (r:qeb):Prop:=r.1=l∧(0≤l∧l≤7)∧(r.2.1.length:Int)=plR l∧Bts r.2.1∧0≤r.2.2.1∧r.2.2.1≤1073741824∧∀x∈r.2.1.drop r.2.2.1.toNat,x=0
theorem qWy (x:Int) (l:List Int) (hx:x=0) (hl:(x::l).length≤1048576):qGe (x::l)=some (0,1):=by
 subst hx
 rw [qXk,qxj]
 simp only [wj,wz] at*
 have e:(0::l).getD (wo 0) 0=(0:Int):=rfl
 rw [if_pos (by simp),qfa (by omega),qfa (by omega),e,if_pos (by decide),w32 (by decide) (by decide)]
theorem qFz (l:List Int) (hl:l.length≤1048576) (hz:∀x∈l,x=0):∀i:Int,0≤i→qTd l true i=some (-1):=by
 intro i
 refine qld (P:=fun i=>0≤i→qTd l true i=some (-1)) l.length ?_ ?_ i
 ·intro i hi h0
  rw [qsj]
  simp only [wj]
  rw [if_neg (by simp;omega)]
 ·intro i hi ih h0
  rw [qsj]
  simp only [wj]
  rw [if_pos (by simpa using hi),qfa h0,qfa (by omega)]
  have hd:l.drop i.toNat=l[i.toNat]'(by omega)::l.drop (i.toNat+1):=wka (by omega)
  rw [hd,qWy _ _ (hz _ (List.getElem_mem _)) (by rw [←hd,wS];omega),wq,qKw,wq,if_neg (by decide)]
  simp only
  rw [w64 (by omega) (by omega)]
  exact ih (by omega)
theorem quu (l:List Int) (hl:l.length≤1048576) (hz:∀x∈l,x=0):qUh l=some false:=by
 rw [qFp,qbt,qat,qFz l hl hz 0 (by omega)]
 rfl
theorem qPd {l:Int} {r:qeb} (h:qBe l r):qqe r=some 0:=by
 obtain ⟨h1,⟨h2,h3⟩,h4,h5,h6,h7,h8⟩:=h
 have hp:=qJu h2 h3
 rw [qhB,h1,qls h2 h3]
 simp only [wj]
 rw [if_neg (by simpa using h2),if_neg (by simpa using h3),wq,if_neg (by simpa using h4),if_neg (by simpa using h6),if_neg (by simpa using h7)]
 by_cases hc:r.2.2.1<(r.2.1.length:Int)
 ·rw [if_pos (by simpa using hc),qfa h6,qfa (by omega),quu _ (by rw [wS];omega) h8,wq,if_neg (by decide)]
 ·rw [if_neg (by simpa using hc)]
theorem qyA {l:Int} {r:qeb} (h:qBe l r) (a:Int):Tot (qVv r a) fun x=>0≤x∧x<256:=by
 obtain ⟨h1,⟨h2,h3⟩,h4,h5,h6,h7,h8⟩:=h
 have hp:=qJu h2 h3
 rw [qHF]
 simp only [wj]
 rw [w64 (x:=(r.2.1.length:Int) - 1) (by omega) (by omega)]
 have hb:=qjO (wd .i64 (r.2.2.1 - a)) ((r.2.1.length:Int) - 1) (by omega) (by omega)
 refine ua hb.1 (ua (by omega) (ub ?_))
 exact qPa (P:=fun x=>0≤x∧x<256) h5 _ (by omega)
theorem qLw {l:Int} {r:qeb} (h:qBe l r) (a:Int):Tot (qms r a) fun x=>0≤x.1∧x.1<256:=by
 rw [qjD]
 refine ud (qPd h) (ue rfl (ug (fun _=>ub (by decide)) (fun _=>ug (fun _=>ub (by decide)) (fun _=>ug (fun _=>ub (by decide)) (fun _=>?_)))))
 exact Tot.b (qyA h a) (fun x hx=>ub hx)
theorem qKK {l:Int} {r:qeb} (h:qBe l r) (a:Int):Tot (qJF r a) fun x=>0≤x.1∧x.1<256:=by
 rw [qdJ]
 refine ud (qPd h) (ue rfl (ug (fun _=>ub (by decide)) (fun _=>ug (fun _=>ub (by decide)) (fun _=>ug (fun _=>ub (by decide)) (fun _=>?_)))))
 exact Tot.b (qyA h _) (fun x hx=>ub hx)
theorem qVt (b:List Int) (hl:b.length≤1048576):∀(i:Int) (a:Int),0≤i→Tot (qSf a b b.length i) fun _=>True:=by
 intro i
 refine qld (P:=fun i=>∀a,0≤i→Tot (qSf a b b.length i) fun _=>True) b.length ?_ ?_ i
 ·intro i hi a h0
  rw [qHl]
  exact uc (by omega) (ub trivial)
 ·intro i hi ih a h0
  rw [qHl]
  simp only [wj]
  rw [w64 (x:=i+1) (by omega) (by omega)]
  exact uf (by omega) (ua h0 (ua (by omega) (ua (by decide) (ih _ (by omega)))))
theorem qWq (a:Int) (b:List Int) (hl:b.length≤1048576):Tot (qIl a b) fun _=>True:=by
 rw [qVx];exact qVt b hl 0 a (by omega)
theorem qMn (a:Int) (b:List Int) (hl:b.length≤1048576):Tot (qYm a b) fun _=>True:=by
 rw [qeE]
 refine Tot.b (P:=fun _=>True) ?_ (fun r _=>ui (fun _=>ub trivial) (fun _=>ug (fun _=>ub trivial) (fun _=>Tot.b (qWq _ _ hl) (fun _ _=>ub trivial))))
 rw [qWx]
 exact ug (fun _=>ub trivial) (fun _=>ug (fun _=>ub trivial) (fun _=>ub trivial))
theorem qSB (a b:Int):Tot (qFr a b) fun _=>True:=by
 rw [qHz];exact Tot.b (qWq _ _ (by show 1≤_;decide)) (fun _ _=>ub trivial)
theorem qfn {l:Int} {r:qeb} (h:qBe l r):∀(n:Nat) (hs:List Int),n+hs.length≤1000→Bts hs→Tot (qRh n r hs) fun x=>x.length=hs.length+n∧Bts x
 |0,hs,hn,hb=>by
  rw [qSl]
  exact uc (by simp) (ub ⟨rfl,hb⟩)
 |n+1,hs,hn,hb=>by
  rw [qSl]
  refine uf (by omega) (Tot.b (qLw h _) (fun x hx=>ua (by simp;omega) ?_))
  rw [w64 (by omega) (by omega)]
  have e:((n+1:Nat):Int) - 1=(n:Int):=by omega
  rw [e]
  exact Tot.mono (qfn h n (hs++[x.1]) (by simp;omega) (qDj hb hx)) (fun y hy=>⟨by simp at hy;omega,hy.2⟩)
theorem qwm {l:Int} {r:qeb} (h:qBe l r) (n:Nat) (hn:n≤1000):Tot (qrj r n) fun x=>x.length=n∧Bts x:=by
 rw [qCy]
 exact Tot.mono (qfn h n [] (by simpa using hn) Bts.nil) (fun y hy=>⟨by simpa using hy.1,hy.2⟩)
theorem qzp (a:Int):Tot (qYj a) fun _=>True:=by
 rw [qIv]
 repeat (first|exact ub trivial|refine ug (fun _=>?_) (fun _=>?_))
theorem qdn (h9:List Int) (o n:Nat) (hn:n≤1000):∀(i:Int) (hs:List Int),0≤i→i≤n→hs.length=i.toNat→Tot (qxe o n n i hs h9) fun x=>x.length≤1000:=by
 intro i
 refine qld (P:=fun i=>∀(hs:List Int),0≤i→i≤n→hs.length=i.toNat→Tot (qxe o n n i hs h9) fun x=>x.length≤1000) n ?_ ?_ i
 ·intro i hi hs h0 h1 h2
  rw [qQl]
  exact uc (by omega) (ub (by omega))
 ·intro i hi ih hs h0 h1 h2
  rw [qQl]
  simp only [wj]
  rw [w64 (x:=i+1) (by omega) (by omega)]
  refine uf (by omega) (ua h0 (ua (by omega) (Tot.b (qzp _) (fun x _=>ua (by simp;omega) (ih _ (by omega) (by omega) ?_)))))
  simp;omega
theorem qen (hs:List Int) (hl:hs.length≤1000):∀n:Nat,n≤hs.length→Tot (qQh n hs) fun x=>x.length≤1000
 |0,hn=>by
  rw [qRl]
  exact uc (by simp) (ua (by omega) (ua (by simp only [wj];omega) (qdn hs _ _ (by omega) 0 [] (by omega) (by omega) rfl)))
 |n+1,hn=>by
  rw [qRl]
  simp only [wj]
  have e:((n+1:Nat):Int) - 1=(n:Int):=by omega
  rw [w64 (x:=((n+1:Nat):Int) - 1) (by omega) (by omega),e]
  refine uf (by omega) (ua (by omega) (ua (by omega) (Tot.b (qzp _) (fun x _=>ui (fun _=>qen hs hl n (by omega)) (fun _=>ua (by omega) (ua (by omega) ?_))))))
  exact qdn hs _ _ (by omega) 0 [] (by omega) (by omega) rfl
theorem qeA {l:Int} {r:qeb} (h:qBe l r):Tot (qyp r) fun x=>x.length≤1000:=by
 rw [qBy]
 exact Tot.b (qwm h 16 (by decide)) (fun x hx=>qen x (by omega) x.length (ws _))
theorem qDy {l:Int} {r:qeb} (h:qBe l r) (v b9:List Int) (hv:v=[1,2,3,4,6]) (hs:List Int) (hl:hs.length=6):∀(i:Int) (b10:List Int),0≤i→i≤5→Tot (qSh v i r b9 b10 hs) fun x=>x.2=0:=by
 intro i
 refine qld (P:=fun i=>∀(b10:List Int),0≤i→i≤5→Tot (qSh v i r b9 b10 hs) fun x=>x.2=0) 5 ?_ ?_ i
 ·intro i hi b10 h0 h1
  rw [qyo]
  refine uc (by omega) (Tot.b (qeA h) (fun x hx=>Tot.b (qMn 5 x (by omega)) (fun y _=>ua (by decide) (ua (by decide) (ub rfl)))))
 ·intro i hi ih b10 h0 h1
  rw [qyo]
  have hg:1≤v.getD i.toNat 0∧v.getD i.toNat 0≤6:=by
   subst hv
   have:i=0∨i=1∨i=2∨i=3∨i=4:=by omega
   rcases this with rfl|rfl|rfl|rfl|rfl <;> decide
  simp only [wj]
  rw [w64 (x:=i+1) (by omega) (by omega),w64 (x:=6 - v.getD i.toNat 0) (by omega) (by omega)]
  refine uf (by omega) (ua h0 (ua (by omega) (ua (by omega) (ua (by omega) (Tot.b (qMn _ _ ?_) (fun y _=>ua h0 (ua (by omega) (ih _ (by omega) (by omega)))))))))
  rw [wM];omega
theorem qUu {l:Int} {r:qeb} (h:qBe l r):Tot (qgg r) fun x=>x.2=0:=by
 rw [qAC]
 refine ud (qPd h) (ue rfl (Tot.b (qwm h 6 (by decide)) (fun x hx=>?_)))
 exact qDy h _ _ rfl x hx.1 0 _ (by omega) (by omega)
theorem qxo {l:Int} {r:qeb} (h:qBe l r):Tot (qxm r) fun x=>0≤x.1∧x.1<256∧0≤x.2.1∧x.2.1<256:=by
 rw [qju]
 refine ud (qPd h) (ue rfl (Tot.b (qwm h 2 (by decide)) (fun x hx=>?_)))
 simp only [wj]
 have h1:=qPa (P:=fun x=>0≤x∧x<256) (d:=0) hx.2 1 (by omega)
 have h2:=qPa (P:=fun x=>0≤x∧x<256) (d:=0) hx.2 0 (by omega)
 exact ua (by omega) (ua (by omega) (ua (by omega) (ua (by omega) (ub ⟨h1.1,h1.2,h2.1,h2.2⟩))))
theorem qfA (a b:Int):Tot (qAp a b) fun _=>True:=by
 rw [qEy]
 exact ug (fun _=>ub trivial) (fun _=>ug (fun _=>ub trivial) (fun _=>Tot.b (qSB _ _) (fun _ _=>ub trivial)))
theorem qqJ {m:Int} (l:List Int) (hl:l.length≤1048576) (h:∀x∈l,0≤x∧x≤m):∀(i:Int) (v:Int),0≤i→0≤v→v≤m→Tot (qVb l v i) fun r=>0≤r∧r≤m:=by
 intro i
 refine qld (P:=fun i=>∀v,0≤i→0≤v→v≤m→Tot (qVb l v i) fun r=>0≤r∧r≤m) l.length ?_ ?_ i
 ·intro i hi v h0 h1 h2
  rw [qif]
  exact uc (by simp only [wj];omega) (ub ⟨h1,h2⟩)
 ·intro i hi ih v h0 h1 h2
  rw [qif]
  simp only [wj]
  rw [w64 (x:=i+1) (by omega) (by omega)]
  have hd:=qPa (P:=fun x=>0≤x∧x≤m) (d:=0) h i.toNat (by omega)
  refine uf (by omega) (ua h0 (ua (by omega) (ih _ (by omega) ?_ ?_)))
  ·split <;> omega
  ·split <;> omega
theorem qBL {m:Int} (l:List Int) (hl:l.length≤1048576) (h1:1≤l.length) (h:∀x∈l,0≤x∧x≤m):Tot (qyd l) fun r=>0≤r∧r≤m:=by
 rw [qim]
 simp only [wj]
 have hd:=qPa (P:=fun x=>0≤x∧x≤m) (d:=0) h 0 (by omega)
 exact uc (by omega) (ua (by omega) (ua (by omega) (qqJ l hl h 1 _ (by omega) hd.1 hd.2)))
theorem qbG {m n:Int} (l:List Int) (hl:l.length≤1048576) (h:∀x∈l,n≤x∧x≤m):∀(i:Int) (v:Int),0≤i→n≤v→v≤m→Tot (qWb l v i) fun r=>n≤r∧r≤m:=by
 intro i
 refine qld (P:=fun i=>∀v,0≤i→n≤v→v≤m→Tot (qWb l v i) fun r=>n≤r∧r≤m) l.length ?_ ?_ i
 ·intro i hi v h0 h1 h2
  rw [qjf]
  exact uc (by simp only [wj];omega) (ub ⟨h1,h2⟩)
 ·intro i hi ih v h0 h1 h2
  rw [qjf]
  simp only [wj]
  rw [w64 (x:=i+1) (by omega) (by omega)]
  have hd:=qPa (P:=fun x=>n≤x∧x≤m) (d:=0) h i.toNat (by omega)
  refine uf (by omega) (ua h0 (ua (by omega) (ih _ (by omega) ?_ ?_)))
  ·split <;> omega
  ·split <;> omega
theorem qVH {m n:Int} (l:List Int) (hl:l.length≤1048576) (h1:1≤l.length) (h:∀x∈l,n≤x∧x≤m):Tot (qzd l) fun r=>n≤r∧r≤m:=by
 rw [qjm]
 simp only [wj]
 have hd:=qPa (P:=fun x=>n≤x∧x≤m) (d:=0) h 0 (by omega)
 exact uc (by omega) (ua (by omega) (ua (by omega) (qbG l hl h 1 _ (by omega) hd.1 hd.2)))
theorem qZF {m n:Int} (l:List Int) (hl:l.length≤1048576) (h:∀x∈l,n≤x∧x≤m):∀(i:Int) (v:Int),0≤i→n≤v→v≤m→Tot (qUb l v i) fun r=>n≤r∧r≤m:=by
 intro i
 refine qld (P:=fun i=>∀v,0≤i→n≤v→v≤m→Tot (qUb l v i) fun r=>n≤r∧r≤m) l.length ?_ ?_ i
 ·intro i hi v h0 h1 h2
  rw [qhf]
  exact uc (by simp only [wj];omega) (ub ⟨h1,h2⟩)
 ·intro i hi ih v h0 h1 h2
  rw [qhf]
  simp only [wj]
  rw [w64 (x:=i+1) (by omega) (by omega)]
  have hd:=qPa (P:=fun x=>n≤x∧x≤m) (d:=0) h i.toNat (by omega)
  refine uf (by omega) (ua h0 (ua (by omega) (ih _ (by omega) ?_ ?_)))
  ·split <;> omega
  ·split <;> omega
theorem qTH {m n:Int} (l:List Int) (hl:l.length≤1048576) (h1:1≤l.length) (h:∀x∈l,n≤x∧x≤m):Tot (qxd l) fun r=>n≤r∧r≤m:=by
 rw [qhm]
 simp only [wj]
 have hd:=qPa (P:=fun x=>n≤x∧x≤m) (d:=0) h 0 (by omega)
 exact uc (by omega) (ua (by omega) (ua (by omega) (qZF l hl h 1 _ (by omega) hd.1 hd.2)))
def WfC (c:qhb):Prop:=(c.1=0∧c.2.1=0∧c.2.2.1=0)∨(c.2.2.1=0∧1≤c.1∧c.1≤12∧0≤c.2.1∧c.2.1≤7)∨(c.2.2.1=1∧1≤c.2.1∧c.2.1≤12∧0≤c.1∧c.1≤7)
theorem qkN (x y d:Int):wm (wC (wC (wl 2 (0:Int)) 0 x) 1 y) 0 d=x:=rfl
theorem qjN (x y d:Int):wm (wC (wC (wl 2 (0:Int)) 0 x) 1 y) 1 d=y:=rfl
theorem qDq {a:Int} (h0:0≤a) (h1:a≤192):Tot (qfl a) fun r=>r.2=0∧WfC r.1:=by
 rw [qqw,qbz]
 refine ud rfl (uc (by rw [w64 (by omega) (by omega)];omega) (ul (fun h=>ub ⟨rfl,Or.inl ⟨rfl,rfl,rfl⟩⟩) (fun h=>?_)))
 simp (disch:=omega) only [wu8,w32,qfm,qng]
 have hv:(a - 1)%256/8/12=0∨(a - 1)%256/8/12=1:=by omega
 have hx:0≤(a - 1)%256/8%12∧(a - 1)%256/8%12<12:=by omega
 have hy:0≤(a - 1)%256%8∧(a - 1)%256%8<8:=by omega
 generalize (a - 1)%256/8%12=x at*
 generalize (a - 1)%256%8=y at*
 generalize (a - 1)%256/8/12=v at*
 rcases hv with rfl|rfl
 ·refine ua (by decide) (ua (by decide) (ua (by decide) (ua (by decide) (ua (by decide) (ua (by decide) (ua (by decide) (ua (by decide) (ua (by decide) (ua (by decide) (ua (by decide) (ua (by decide) (ua (by decide) (ub ⟨rfl,Or.inr (Or.inl ?_)⟩)))))))))))))
  refine ⟨rfl,?_,?_,hy.1,?_⟩
  ·show 1≤x+1;omega
  ·show x+1≤12;omega
  ·show y≤7;omega
 ·refine ua (by decide) (ua (by decide) (ua (by decide) (ua (by decide) (ua (by decide) (ua (by decide) (ua (by decide) (ua (by decide) (ua (by decide) (ua (by decide) (ua (by decide) (ua (by decide) (ua (by decide) (ub ⟨rfl,Or.inr (Or.inr ?_)⟩)))))))))))))
  refine ⟨rfl,?_,?_,hy.1,?_⟩
  ·show 1≤x+1;omega
  ·show x+1≤12;omega
  ·show y≤7;omega
theorem qaz {a:Int} (h0:0≤a) (h1:a≤192):Tot (qFo a) fun r=>True:=by
 rw [qnw]
 exact Tot.b (qDq h0 h1) (fun r _=>ub trivial)
theorem qdA {c:qhb} (h:WfC c):qxp c=some 0:=by
 obtain ⟨x,y,v,u⟩:=c
 rw [qAy]
 by_cases hp:peq qkb (x,y,v,u) (0,(0,(0,())))=true
 ·rw [if_pos hp]
 ·rw [if_neg hp]
  simp only [WfC] at h
  have e0:¬(x=0∧y=0∧v=0):=by
   intro ⟨h1,h2,h3⟩
   subst h1 h2 h3
   exact hp rfl
  rcases h with h|h|h
  ·exact absurd h e0
  ·obtain ⟨rfl,h⟩:=h
   have e1:(1 - 0:Int)%256=1:=by decide
   have e2:wo 1=1:=rfl
   simp only [wu8,e1,e2,Int.toNat_zero,qkN,qjN]
   exact Tot.eq (uc (by omega) (ua (by decide) (ua (by decide) (ua (by decide) (ua (by decide) (uc (by omega) (uc (by omega) (uc (by omega) (uc (by omega) (ub rfl))))))))))
  ·obtain ⟨rfl,h⟩:=h
   have e1:(1 - 1:Int)%256=0:=by decide
   have e2:wo 1=1:=rfl
   simp only [wu8,e1,e2,Int.toNat_zero,qkN,qjN]
   exact Tot.eq (uc (by omega) (ua (by decide) (ua (by decide) (ua (by decide) (ua (by decide) (uc (by omega) (uc (by omega) (uc (by omega) (uc (by omega) (ub rfl))))))))))
theorem qaI (z:Int):(if (12:Int)<z then 12 else z)=min 12 z:=by split <;> omega
theorem qyC {c:qhb} (h:WfC c) {b:Int} (hb:b=0∨b=1):Tot (qPr c b) WfC:=by
 obtain ⟨x,y,v,u⟩:=c
 have hr:0≤x∧x≤12∧0≤y∧y≤12:=by
  simp only [WfC] at h;omega
 rw [qcA]
 rcases hb with rfl|rfl
 ·have e1:(1 - 0:Int)%256=1:=by decide
  have e2:wo 1=1:=rfl
  simp only [wu8,e1,e2,Int.toNat_zero,qaI]
  have a1:wm (wC (wC (wl 2 (0:Int)) 0 x) 1 y) 0 0=x:=rfl
  rw [a1,w32 (x:=x+1) (by omega) (by omega)]
  have a2:wm (wC (wC (wC (wl 2 (0:Int)) 0 x) 1 y) 0 (min 12 (x+1))) 1 0=y:=rfl
  rw [a2,qfm (by omega),w32 (x:=y/2) (by omega) (by omega),w32 (x:=y/2+1) (by omega) (by omega)]
  refine ua (by decide) (ua (by decide) (ua (by decide) (ua (by decide) (ua (by decide) (ua (by decide) (ug (fun k=>?_) (fun k=>?_)))))))
  ·refine ua (by decide) (ua (by decide) (ua (by decide) (ua (by decide) (ua (by decide) (ub (Or.inr (Or.inl ⟨rfl,?_,?_,?_,?_⟩)))))))
   ·show 1≤min 12 (x+1);omega
   ·show min 12 (x+1)≤12;omega
   ·show 0≤y/2+1;omega
   ·show y/2+1≤7;omega
  ·refine ua (by decide) (ua (by decide) (ua (by decide) (ua (by decide) (ub (Or.inr (Or.inl ⟨rfl,?_,?_,?_,?_⟩))))))
   ·show 1≤min 12 (x+1);omega
   ·show min 12 (x+1)≤12;omega
   ·show 0≤y;omega
   ·show y≤7;omega
 ·have e1:(1 - 1:Int)%256=0:=by decide
  have e2:wo 1=1:=rfl
  simp only [wu8,e1,e2,Int.toNat_zero,qaI]
  have a1:wm (wC (wC (wl 2 (0:Int)) 0 x) 1 y) 1 0=y:=rfl
  rw [a1,w32 (x:=y+1) (by omega) (by omega)]
  have a2:wm (wC (wC (wC (wl 2 (0:Int)) 0 x) 1 y) 1 (min 12 (y+1))) 0 0=x:=rfl
  rw [a2,qfm (by omega),w32 (x:=x/2) (by omega) (by omega),w32 (x:=x/2+1) (by omega) (by omega)]
  refine ua (by decide) (ua (by decide) (ua (by decide) (ua (by decide) (ua (by decide) (ua (by decide) (ug (fun k=>?_) (fun k=>?_)))))))
  ·refine ua (by decide) (ua (by decide) (ua (by decide) (ua (by decide) (ua (by decide) (ub (Or.inr (Or.inr ⟨rfl,?_,?_,?_,?_⟩)))))))
   ·show 1≤min 12 (y+1);omega
   ·show min 12 (y+1)≤12;omega
   ·show 0≤x/2+1;omega
   ·show x/2+1≤7;omega
  ·refine ua (by decide) (ua (by decide) (ua (by decide) (ua (by decide) (ub (Or.inr (Or.inr ⟨rfl,?_,?_,?_,?_⟩))))))
   ·show 1≤min 12 (y+1);omega
   ·show min 12 (y+1)≤12;omega
   ·show 0≤x;omega
   ·show x≤7;omega
theorem qKE {c:qhb} (h:WfC c) {b:Int} (hb:b=0∨b=1):Tot (qiu c [b]) fun r=>r.2=0∧WfC r.1:=by
 rw [qzC]
 have e:(wi [b].length)=1:=rfl
 rw [e]
 refine ud (qdA h) (ue rfl (uc (by decide) (uf (by decide) (Tot.b (qBL (m:=1) [b] (by show 1≤_;decide) (by show 1≤1;decide) (fun x hx=>by rw [wU.1 hx];omega)) (fun r hr=>uc (by omega) ?_)))))
 rw [qwo]
 have eb:[b].getD (wo 0) 0=b:=rfl
 rw [e,eb,w64 (x:=0+1) (by decide) (by decide)]
 refine uf (by decide) (ua (by decide) (ua (by decide) (Tot.b (qyC h hb) (fun r hr=>?_))))
 rw [qwo]
 exact uc (by decide) (ub ⟨rfl,hr⟩)
theorem qmw {c:qhb} (h:WfC c):Tot (qln c) fun r=>0≤r∧r≤192:=by
 obtain ⟨x,y,v,u⟩:=c
 rw [qav]
 refine uk (fun _=>ub (by decide)) (fun hp=>?_)
 simp only [WfC] at h
 have e0:¬(x=0∧y=0∧v=0):=by
  intro ⟨h1,h2,h3⟩
  subst h1 h2 h3
  exact hp rfl
 rcases h with h|h|h
 ·exact absurd h e0
 ·obtain ⟨rfl,h⟩:=h
  have e1:(1 - 0:Int)%256=1:=by decide
  have e2:wo 1=1:=rfl
  simp (disch:=omega) only [wu8,e1,e2,Int.toNat_zero,qkN,qjN,w32]
  refine ua (by decide) (ua (by decide) (ua (by decide) (ua (by decide) (ub ?_))))
  omega
 ·obtain ⟨rfl,h⟩:=h
  have e1:(1 - 1:Int)%256=0:=by decide
  have e2:wo 1=1:=rfl
  simp (disch:=omega) only [wu8,e1,e2,Int.toNat_zero,qkN,qjN,w32]
  refine ua (by decide) (ua (by decide) (ua (by decide) (ua (by decide) (ub ?_))))
  omega
theorem qaB {a b:Int} (h0:0≤a) (h1:a≤192) (hb:b=0∨b=1):Tot (qgr a b) fun r=>r.2=0∧0≤r.1∧r.1≤192:=by
 rw [qcz,qZA]
 refine Tot.b (P:=fun r=>r.2=0∧0≤r.1∧r.1≤192) (Tot.b (qDq h0 h1) (fun r hr=>ue hr.1 (uc (by show ¬(1:Int)>20000;decide) ?_))) (fun r hr=>ub hr)
 have hc:qEc [b]=some false:=by
  have e:(wi [b].length)=1:=rfl
  have eb:[b].getD (wo 0) 0=b:=rfl
  rw [qnh,qti,qEd,e,eb,w64 (x:=0+1) (by decide) (by decide),if_pos (by decide),qfa (by decide),qfa (by decide),qpw,wq,if_neg (by simp;omega),qEd,if_neg (by decide)]
  rfl
 refine ud hc (uo (Tot.b (qKE hr.2 hb) (fun s hs=>ue hs.1 (Tot.b (qmw hs.2) (fun t ht=>ub ⟨rfl,ht⟩)))))
def WfSlot (s:qCe):Prop:=s.2.1.length=15∧∀x∈s.2.1,0≤x∧x≤192
def qao (l:Int) (t:qta):Prop:=t.1=l∧(0≤l∧l≤7)∧(t.2.1.length:Int)=plT l∧∀s∈t.2.1,WfSlot s
theorem qgv (l:List qCe) (hl:l.length≤1048576) (h:∀s∈l,WfSlot s):∀i:Int,0≤i→Tot (qwg l l.length i) fun r=>r=0:=by
 intro i
 refine qld (P:=fun i=>0≤i→Tot (qwg l l.length i) fun r=>r=0) l.length ?_ ?_ i
 ·intro i hi h0
  rw [qGm]
  exact uc (by omega) (ub rfl)
 ·intro i hi ih h0
  rw [qGm]
  simp only [wj]
  rw [w64 (x:=i+1) (by omega) (by omega)]
  have hd:=qPa (P:=WfSlot) (d:=qra qHc) h i.toNat (by omega)
  refine uf (by omega) (ua h0 (ua (by omega) (Tot.b (qBL (m:=192) _ ?_ ?_ ?_) (fun r hr=>uc (by omega) (ih (by omega))))))
  ·have:=hd.1;simp only [wM,wS];omega
  ·have:=hd.1;simp only [wM,wS];omega
  ·exact fun x hx=>hd.2 x (List.mem_of_mem_drop (List.mem_of_mem_take hx))
theorem qpn {l:Int} {t:qta} (h:qao l t):qrk t=some 0:=by
 obtain ⟨h1,⟨h2,h3⟩,h4,h5⟩:=h
 have hp:=qbx h2 h3
 rw [qfz,h1,qzu h2 h3]
 simp only [wj]
 exact Tot.eq (uc (by omega) (uc (by omega) (ud rfl (ue h4 (qgv _ (by omega) h5 0 (by omega))))))
theorem qgo {s:qCe} (h:WfSlot s):Tot (qKi s) fun _=>True:=by
 rw [qvt]
 have hd:=qPa (P:=fun x=>0≤x∧x≤192) (d:=0) h.2 0 (by rw [h.1];decide)
 exact ua (by decide) (ua (by decide) (Tot.b (qaz hd.1 hd.2) (fun r _=>ub trivial)))
theorem WfSlot.zero (c:Int):WfSlot (c,((wl 15 0),())):=⟨rfl,fun x hx=>by rw [List.eq_of_mem_replicate hx];omega⟩
theorem qbD {l:Int} {t:qta} (h:qao l t) (a:Int):Tot (qwt t a) fun r=>qao l r.1∧0≤r.2.1∧r.2.1<plT l∧r.2.2=0:=by
 have hh:=h
 obtain ⟨h1,⟨h2,h3⟩,h4,h5⟩:=h
 have hp:=qbx h2 h3
 rw [qdB]
 simp only [wj]
 refine ud (qpn hh) (ue rfl (Tot.b (qqm a (4+l.toNat) (by omega) h4) (fun r hr=>ue hr.1 (Tot.b (qIz a) (fun c _=>ud (qQg _ (by omega)) ?_)))))
 have hx:=qYR r.1 (4+l.toNat) (by omega) (by omega) hr.2.1 (by rw [h4] at hr;exact hr.2.2)
 have hx2:qDb .i64 r.1 1<plT l:=hx.2
 have hd1:=qPa (P:=WfSlot) (d:=qra qHc) h5 r.1.toNat (by omega)
 have hd2:=qPa (P:=WfSlot) (d:=qra qHc) h5 (qDb .i64 r.1 1).toNat (by omega)
 refine ua hr.2.1 (ua hr.2.2 (ul (fun _=>ub ⟨⟨h1,⟨h2,h3⟩,h4,h5⟩,hr.2.1,by rw [←h4];exact hr.2.2,rfl⟩) (fun _=>ua hx.1 (ua (by rw [h4];exact hx2) (ul (fun _=>ub ⟨⟨h1,⟨h2,h3⟩,h4,h5⟩,hx.1,hx2,rfl⟩) (fun _=>?_))))))
 refine ua hx.1 (ua (by omega) (Tot.b (qgo hd2) (fun _ _=>ua hr.2.1 (ua hr.2.2 (Tot.b (qgo hd1) (fun _ _=>ug (fun _=>?_) (fun _=>?_)))))))
 ·exact ua hx.1 (ua (by omega) (ub ⟨⟨h1,⟨h2,h3⟩,by simpa using h4,qHf h5 (WfSlot.zero _) _⟩,hx.1,hx2,rfl⟩))
 ·exact ua hr.2.1 (ua hr.2.2 (ub ⟨⟨h1,⟨h2,h3⟩,by simpa using h4,qHf h5 (WfSlot.zero _) _⟩,hr.2.1,by rw [←h4];exact hr.2.2,rfl⟩))
theorem qsA {l:Int} {t:qta} (h:qao l t) {i n:Int} (h0:0≤i) (h1:i<plT l) (h2:1≤n) (h3:n≤15):qSv t i n=some 0:=by
 rw [qxF]
 simp only [wj]
 exact Tot.eq (ud (qpn h) (ue rfl (uc (by omega) (uc (by rw [h.2.2.1];omega) (uc (by omega) (uc (by omega) (ub rfl)))))))
theorem qjr {l:Int} {t:qta} (h:qao l t) {i n:Int} (h0:0≤i) (h1:i<plT l) (h2:1≤n) (h3:n≤15):Tot (qes t i n) fun r=>r.2=0∧0≤r.1∧r.1≤192:=by
 rw [qaD]
 simp only [wj]
 have h4:=h.2.2.1
 rw [w64 (x:=n - 1) (by omega) (by omega)]
 have hd:=qPa (P:=WfSlot) (d:=qra qHc) h.2.2.2 i.toNat (by omega)
 have he:=qPa (P:=fun x=>0≤x∧x≤192) (d:=0) hd.2 (n - 1).toNat (by rw [hd.1];omega)
 exact ud (qsA h h0 h1 h2 h3) (ue rfl (ua h0 (ua (by omega) (ua (by omega) (ua (by omega) (ub ⟨rfl,he.1,he.2⟩))))))
theorem qyF {l:Int} {t:qta} (h:qao l t) {i n v:Int} (h0:0≤i) (h1:i<plT l) (h2:1≤n) (h3:n≤15) (hv0:0≤v) (hv1:v≤192):Tot (qww t i n v) fun r=>r.2=0∧qao l r.1:=by
 rw [qYC]
 simp only [wj]
 have h4:=h.2.2.1
 have hp:=qbx h.2.1.1 h.2.1.2
 rw [w64 (x:=n - 1) (by omega) (by omega)]
 have hd:=qPa (P:=WfSlot) (d:=qra qHc) h.2.2.2 (0+i.toNat) (by omega)
 refine ud (qsA h h0 h1 h2 h3) (ue rfl (uc (by omega) (ud (qQg _ (by omega)) (ua h0 (ua (by omega) (ua (by omega) (ua (by omega) (ub ⟨rfl,h.1,h.2.1,by simpa using h4,qHf h.2.2.2 ?_ _⟩))))))))
 exact ⟨by simpa using hd.1,qHf hd.2 ⟨hv0,hv1⟩ _⟩
theorem qAF {l:Int} {t:qta} (h:qao l t) {i n b:Int} (h0:0≤i) (h1:i<plT l) (h2:1≤n) (h3:n≤15) (hb:b=0∨b=1):Tot (qyw t i n b) fun r=>r.2=0∧qao l r.1:=by
 rw [qcD]
 exact Tot.b (qjr h h0 h1 h2 h3) (fun r hr=>ue hr.1 (Tot.b (qaB hr.2.1 hr.2.2 hb) (fun s hs=>ue hs.1 (Tot.b (qyF h h0 h1 h2 h3 hs.2.1 hs.2.2) (fun u hu=>ub hu)))))
def qpF (a:qqa):Prop:=a.1=255∧(a.2.1.length=193∧∀x∈a.2.1,0≤x∧x≤65535)∧a.2.2.1.length=193∧∀x∈a.2.2.1,0≤x∧x≤255
theorem qUp {l:List Int} {m:Int} (hl:l.length=193) (h:∀x∈l,0≤x∧x≤m):qck l m=some false:=by
 rw [qNv]
 simp only [wj]
 exact Tot.eq (ue (by omega) (Tot.b (qTH l (by omega) (by omega) h) (fun r hr=>uc (by omega) (Tot.b (qVH l (by omega) (by omega) h) (fun s hs=>ub (by simp;omega))))))
theorem qit {a:qqa} (h:qpF a):qZn a=some 0:=by
 rw [qoA]
 have e:G_targets.getD 1 0=65535:=rfl
 rw [e,h.1]
 exact Tot.eq (uc (by omega) (uc (by omega) (ua (by omega) (ua (by omega) (ud (qUp h.2.1.1 h.2.1.2) (uo (ud (qUp h.2.2.1 h.2.2.2) (uo (ub rfl)))))))))
theorem qSA {a:qqa} (h:qpF a) {s:Int} (h1:s≤192):qdw a s=some 0:=by
 rw [qRG]
 exact Tot.eq (ud (qit h) (ue rfl (uc (by omega) (ub rfl))))
theorem qeF {a:qqa} (h:qpF a) {s:Int} (h0:0≤s) (h1:s≤192):Tot (qSG a s) fun r=>r.2=0∧0≤r.1∧r.1≤65535:=by
 rw [qbK]
 simp only [wj]
 have hd:=qPa (P:=fun x=>0≤x∧x≤65535) (d:=0) h.2.1.2 s.toNat (by rw [h.2.1.1];omega)
 exact ud (qSA h h1) (ue rfl (ua h0 (ua (by rw [h.2.1.1];omega) (ub ⟨rfl,hd⟩))))
theorem qjJ {n:Int} (h0:1≤n) (h1:n≤1024):Tot (qlB n) fun r=>r.2=0∧0≤r.1∧r.1≤65536:=by
 rw [qNF,qfm (by omega)]
 have h3:0≤65536/n:=Int.ediv_nonneg (by omega) (by omega)
 have h4:65536/n≤65536:=Int.ediv_le_self _ (by omega)
 rw [w32 (by omega) (by omega)]
 exact uc (by omega) (uc (by omega) (ua (by omega) (ub ⟨rfl,h3,h4⟩)))
theorem qsD {p t n:Int} (hp0:0≤p) (hp1:p≤65535) (ht:t=0∨t=65535) (h0:1≤n) (h1:n≤1024):Tot (qDt p t n) fun r=>r.2=0∧0≤r.1∧r.1≤65535:=by
 rw [qkB,qtD]
 have e1:wd .i32 (t - p)=t - p:=w32 (by omega) (by omega)
 rw [e1]
 refine uc (by split <;> omega) (uc (by split <;> omega) (Tot.b (P:=fun r=>r.2=0∧-p≤r.1∧r.1≤65535 - p) ?_ (fun r hr=>ue hr.1 (ub ?_))))
 ·refine Tot.b (qjJ h0 h1) (fun q hq=>ue hq.1 (ua (by decide) (ub ?_)))
  rw [w64 (x:=t - p) (by omega) (by omega),w64 (x:=q.1) (by omega) (by omega)]
  have hm:-(p*65536)≤(t - p)*q.1∧(t - p)*q.1≤(65535 - p)*65536:=by
   rcases ht with rfl|rfl
   ·have a1:p*q.1≤p*65536:=Int.mul_le_mul_of_nonneg_left hq.2.2 hp0
    have a2:0≤p*q.1:=Int.mul_nonneg hp0 hq.2.1
    have a3:(0 - p)*q.1=-(p*q.1):=by rw [Int.zero_sub,Int.neg_mul]
    rw [a3];omega
   ·have a1:(65535 - p)*q.1≤(65535 - p)*65536:=Int.mul_le_mul_of_nonneg_left hq.2.2 (by omega)
    have a2:0≤(65535 - p)*q.1:=Int.mul_nonneg (by omega) hq.2.1
    omega
  generalize (t - p)*q.1=z at*
  rw [w64 (x:=z) (by omega) (by omega),qJg _ (by omega),w32 (by omega) (by omega)]
  refine ⟨rfl,?_,?_⟩
  ·show -p≤z/65536;omega
  ·show z/65536≤65535 - p;omega
 ·rw [w32 (by omega) (by omega)]
  exact ⟨rfl,by simp only;omega,by simp only;omega⟩
theorem qdF {a:qqa} (h:qpF a):qtu a=some a:=by
 rw [qPC,qdb _ (by rw [h.2.1.1];decide),wq,qdb _ (by rw [h.2.2.1];decide),wq]
theorem qlA {p q:List Int} {u:Unit} {s b:Int} (h0:0≤s) (h1:s≤192) (hb:b=0∨b=1) (hp:p.length=193∧∀x∈p,0≤x∧x≤65535) (hq:q.length=193∧∀x∈q,0≤x∧x≤255):
  Tot (qVp 255 u s b p q) fun r=>r.1=0∧(r.2.1.length=193∧∀x∈r.2.1,0≤x∧x≤65535)∧r.2.2.length=193∧∀x∈r.2.2,0≤x∧x≤255:=by
 rw [qQy]
 simp only [wj]
 have hd:=qPa (P:=fun x=>0≤x∧x≤65535) (d:=0) hp.2 (0+s.toNat) (by rw [hp.1];omega)
 have he:=qPa (P:=fun x=>0≤x∧x≤255) (d:=0) hq.2 (0+s.toNat) (by rw [hq.1];omega)
 generalize p.getD (0+s.toNat) 0=x at*
 generalize q.getD (0+s.toNat) 0=y at*
 rw [w32 (x:=y+1) (by omega) (by omega)]
 have hn:1≤(if 255<y+1 then 255 else y+1)∧(if 255<y+1 then 255 else y+1)≤255:=by split <;> omega
 generalize (if 255<y+1 then 255 else y+1)=n at*
 rw [w32 (x:=n+1) (by omega) (by omega)]
 have ht:G_targets.getD b.toNat 0=0∨G_targets.getD b.toNat 0=65535:=by
  rcases hb with rfl|rfl
  ·exact Or.inl rfl
  ·exact Or.inr rfl
 refine ua h0 (ua (by omega) (ua h0 (ua (by omega) (ua (by omega) (ua (by omega) (Tot.b (qsD hd.1 hd.2 ht (by omega) (by omega)) (fun r hr=>ua h0 (ua (by omega) (ua h0 (ua (by omega) (ub ?_)))))))))))
 exact ⟨hr.1,⟨by simpa using hp.1,qHf hp.2 hr.2 _⟩,by simpa using hq.1,qHf hq.2 ⟨by omega,by omega⟩ _⟩
theorem qnA {a:qqa} (h:qpF a) {s b:Int} (h0:0≤s) (h1:s≤192) (hb:b=0∨b=1):Tot (qWp a s b) fun r=>r.2=0∧qpF r.1:=by
 rw [qRy]
 refine ud (qSA h h1) (ue rfl (uc (by omega) (ud (qdF h) ?_)))
 rw [h.1]
 exact Tot.b (qlA h0 h1 hb h.2.1 h.2.2) (fun r hr=>ue hr.1 (ub ⟨rfl,rfl,hr.2.1,hr.2.2⟩))
def qYp (l:Int) (f:qIa):Prop:=f.1=l∧(0≤l∧l≤7)∧(f.2.1.length:Int)=plR l∧∀x∈f.2.1,-1≤x∧x≤1073741824
theorem qBC (l:List Int) (hl:l.length≤1048576) (h:∀x∈l,-1≤x∧x≤1073741824):qNc l=some false:=by
 have key:∀i:Int,0≤i→Tot (qob l l.length i) fun r=>r=-1:=by
  intro i
  refine qld (P:=fun i=>0≤i→Tot (qob l l.length i) fun r=>r=-1) l.length ?_ ?_ i
  ·intro i hi h0
   rw [qOd]
   exact uc (by omega) (ub rfl)
  ·intro i hi ih h0
   rw [qOd]
   simp only [wj]
   rw [w64 (x:=i+1) (by omega) (by omega)]
   have hd:=qPa (P:=fun x=>-1≤x∧x≤1073741824) (d:=0) h i.toNat (by omega)
   refine uf (by omega) (ua h0 (ua (by omega) (ud (v:=false) ?_ (uo (ih (by omega))))))
   rw [qZt]
   exact Tot.eq (uc (by omega) (ub (decide_eq_false (by omega))))
 rw [qxh,qbj]
 exact Tot.eq (Tot.b (key 0 (by omega)) (fun r hr=>ub (by rw [hr];rfl)))
theorem qrm {l:Int} {f:qIa} (h:qYp l f):qoj f=some 0:=by
 obtain ⟨h1,⟨h2,h3⟩,h4,h5⟩:=h
 have hp:=qJu h2 h3
 rw [qhy,h1,qrp h2 h3]
 simp only [wj]
 exact Tot.eq (uc (by omega) (uc (by omega) (ud rfl (ue h4 (ud (qBC _ (by omega) h5) (uo (ub rfl)))))))
theorem qXq {l:Int} {f:qIa} (h:qYp l f) (a:Int):Tot (qKl f a) fun r=>r.2=0∧0≤r.1∧r.1<f.2.1.length:=by
 rw [qgy]
 exact ud (qrm h) (ue rfl (Tot.b (qqm a (6+l.toNat) (by have:=h.2.1;omega) h.2.2.1) (fun r hr=>ub hr)))
theorem qUj {l:Int} {f:qIa} (h:qYp l f) (a:Int):Tot (qyi f a) fun r=>r.2=0∧-1≤r.1∧r.1≤1073741824:=by
 rw [qLz]
 simp only [wj]
 refine Tot.b (qXq h a) (fun r hr=>ue hr.1 (ua hr.2.1 (ua hr.2.2 (ub ⟨rfl,?_⟩))))
 exact qPa (P:=fun x=>-1≤x∧x≤1073741824) h.2.2.2 _ (by omega)
theorem qoE {l:Int} {f:qIa} (h:qYp l f) (a:Int) {v:Int} (h0:0≤v) (h1:v≤1073741824):Tot (qxi f a v) fun r=>r.2=0∧qYp l r.1:=by
 rw [qVB]
 simp only [wj]
 have hp:=qJu h.2.1.1 h.2.1.2
 refine Tot.b (qXq h a) (fun r hr=>ue hr.1 (uc (by omega) (uc (by omega) (ud (qni _ (by have:=h.2.2.1;omega)) (ua hr.2.1 (ua hr.2.2 (ub ⟨rfl,h.1,h.2.1,by simpa using h.2.2.1,qHf h.2.2.2 ⟨by omega,h1⟩ _⟩)))))))
theorem qLl {l:Int} {r:qeb} (h:qBe l r) (v1 v2 v10:Int) (M:Int) (hM:M=if v2<v10 then v2 else v10) (hM1:M≤1073741824) (P:Int→Prop)
  (hP:∀v,0≤v→v≤max M 0→P v):∀(n:Nat) (k:Int) (v11:Int),(4 - k).toNat=n→0≤k→k≤4→0≤v11→v11≤max M 0→(∀v,v11+(4 - k)=v→v≤max M 0→Tot (qMd v1 v2 r.2.1.length v10 v r) fun x=>P x.1)→
  Tot (qIg v1 v2 r.2.1.length v10 v11 k r) fun x=>P x.1
 |0,k,v11,hn,h0,h4,hv0,hv1,ih=>by
  rw [qMk]
  exact uc (by omega) (ih v11 (by omega) hv1)
 |n+1,k,v11,hn,h0,h4,hv0,hv1,ih=>by
  rw [qMk,←hM]
  simp only [wj]
  have hp:=qJu h.2.1.1 h.2.1.2
  have hl:=h.2.2.1
  rw [w64 (x:=v11+1) (by omega) (by omega),w64 (x:=k+1) (by omega) (by omega),w64 (x:=(r.2.1.length:Int) - 1) (by omega) (by omega)]
  have b1:=qjO (wd .i64 (v1 - (v11+1))) ((r.2.1.length:Int) - 1) (by omega) (by omega)
  have b2:=qjO (wd .i64 (r.2.2.1 - (v11+1))) ((r.2.1.length:Int) - 1) (by omega) (by omega)
  refine uf (by omega) (ug (fun _=>ub (hP _ hv0 hv1)) (fun hle=>ua b1.1 (ua (by omega) (ua b2.1 (ua (by omega) (ui (fun _=>ub (hP _ hv0 hv1)) (fun _=>?_)))))))
  exact qLl h v1 v2 v10 M hM hM1 P hP n (k+1) (v11+1) (by omega) (by omega) (by omega) (by omega) (by omega) (fun v e hv=>ih v (by omega) hv)
theorem qNs {l:Int} {r:qeb} (h:qBe l r) (v1 v2 v10:Int) (M:Int) (hM:M=if v2<v10 then v2 else v10) (hM1:M≤1073741824):
  ∀(v11:Int),0≤v11→v11≤max M 0→Tot (qMd v1 v2 r.2.1.length v10 v11 r) fun x=>0≤x.1∧x.1≤max M 0:=by
 have key:∀(m:Nat) (v11:Int),(M - v11).toNat≤m→0≤v11→v11≤max M 0→Tot (qMd v1 v2 r.2.1.length v10 v11 r) fun x=>0≤x.1∧x.1≤max M 0:=by
  intro m
  induction m with
  |zero=>
   intro v11 hm h0 h1
   rw [qNk,←hM]
   exact uc (by omega) (ub ⟨h0,h1⟩)
  |succ m ih=>
   intro v11 hm h0 h1
   rw [qNk,←hM]
   refine ug (fun hlt=>?_) (fun _=>ub ⟨h0,h1⟩)
   exact qLl h v1 v2 v10 M hM hM1 (fun x=>0≤x∧x≤max M 0) (fun v a b=>⟨a,b⟩) 4 0 v11 rfl (by omega) (by omega) h0 h1 (fun v e hv=>ih v (by omega) (by omega) hv)
 intro v11
 exact key _ v11 (ws _)
theorem qOk {l:Int} {r:qeb} (h:qBe l r) (a:Int):Tot (qfg r a 40) fun x=>0≤x.1∧x.1≤40:=by
 rw [qAv]
 simp only [wj]
 refine ud (qPd h) (ue rfl (ug (fun _=>ub (by decide)) (fun _=>ug (fun _=>ub (by decide)) (fun _=>ug (fun _=>ub (by decide)) (fun _=>?_)))))
 refine Tot.mono (qNs h a 40 _ _ rfl (by split <;> omega) 0 (by omega) (by omega)) (fun x hx=>⟨hx.1,?_⟩)
 refine Int.le_trans hx.2 ?_
 split <;> omega
theorem qSQ:∀i:Fin 32,1≤G_row.getD i.val 0∧G_row.getD i.val 0≤G_row.getD (i.val+1) 0∧G_row.getD (i.val+1) 0≤4094:=by decide+kernel
theorem qbB (a:Int):Tot (qsh a) fun r=>0≤r∧r≤4095:=by
 rw [qbv]
 refine ug (fun _=>ub (by decide)) (fun h1=>ug (fun _=>ub (by decide)) (fun h2=>?_))
 rw [qJg a (by decide)]
 have hi:0≤a/128+16∧a/128+16≤31:=by omega
 generalize a/128+16=i at*
 rw [w32 (x:=i) (by omega) (by omega),w32 (x:=i+1) (by omega) (by omega)]
 have hr:=qSQ ⟨i.toNat,by omega⟩
 simp only at hr
 have e:(i+1).toNat=i.toNat+1:=by omega
 rw [e]
 generalize G_row.getD i.toNat 0=L at*
 generalize G_row.getD (i.toNat+1) 0=H at*
 have hw:=qFS a 127 (by decide) (by decide)
 generalize qUa .i32 a 127=w at*
 rw [w32 (x:=L*128) (by omega) (by omega),w32 (x:=H - L) (by omega) (by omega)]
 have m1:(H - L)*w≤(H - L)*127:=Int.mul_le_mul_of_nonneg_left hw.2 (by omega)
 have m2:0≤(H - L)*w:=Int.mul_nonneg (by omega) hw.1
 generalize (H - L)*w=z at*
 rw [w32 (x:=z) (by omega) (by omega),w32 (x:=L*128+z) (by omega) (by omega),w32 (by omega) (by omega),qJg _ (by decide)]
 refine ua (by decide) (ua (by omega) (ua (by omega) (ua (by omega) (ua (by omega) (ua (by omega) (ua (by omega) (ua (by decide) (ub ?_))))))))
 omega
theorem qfv (b:Int):∀(m:Nat) (x y:Int),(y - x).toNat≤m→0≤x→x≤y→y≤4094→Tot (qvg x y b) fun r=>0≤r.1∧r.1≤4094:=by
 intro m
 induction m with
 |zero=>
  intro x y hm h0 h1 h2
  rw [qFm]
  exact uc (by omega) (ub ⟨h0,by simp only;omega⟩)
 |succ m ih=>
  intro x y hm h0 h1 h2
  rw [qFm]
  refine ug (fun hlt=>?_) (fun _=>ub ⟨h0,by simp only;omega⟩)
  rw [w64 (x:=x+y) (by omega) (by omega),qNR,qJg _ (by decide)]
  have e:(x+y)%18446744073709551616=x+y:=by omega
  rw [e,w64 (x:=(x+y)/2) (by omega) (by omega),w64 (x:=(x+y)/2+1) (by omega) (by omega),qhr]
  refine ua (by decide) (Tot.b (P:=fun r=>r.2=b) (Tot.b (qbB _) (fun r _=>ub rfl)) (fun r hr=>?_))
  rw [hr]
  exact um (fun _=>ih _ _ (by omega) (by omega) (by omega) (by omega)) (fun _=>ih _ _ (by omega) (by omega) (by omega) (by omega))
theorem qWC (a:Int):Tot (qgm a) fun r=>-2047≤r∧r≤2047:=by
 rw [qtt,qez]
 refine Tot.b (qfv a 4094 0 4094 (by decide) (by decide) (by decide) (by decide)) (fun r hr=>ub ?_)
 rw [w32 (x:=r.1) (by omega) (by omega),w32 (by omega) (by omega)]
 omega
def qXr (m:qza):Prop:=m.1.length=256∧∀r∈m.1,r.length=8
theorem qGG (l:List (List Int)) (hl:l.length≤1048576) (h:∀r∈l,r.length=8):qFc l=some false:=by
 have key:∀i:Int,0≤i→Tot (qjb l l.length i) fun r=>r=-1:=by
  intro i
  refine qld (P:=fun i=>0≤i→Tot (qjb l l.length i) fun r=>r=-1) l.length ?_ ?_ i
  ·intro i hi h0
   rw [qFd]
   exact uc (by omega) (ub rfl)
  ·intro i hi ih h0
   rw [qFd]
   simp only [wj]
   rw [w64 (x:=i+1) (by omega) (by omega)]
   have hd:=qPa (P:=fun r:List Int=>r.length=8) (d:=[]) h i.toNat (by omega)
   refine uf (by omega) (ua h0 (ua (by omega) (ud (v:=false) ?_ (uo (ih (by omega))))))
   rw [qpv,hd]
   rfl
 rw [qoh,qui]
 exact Tot.eq (Tot.b (key 0 (by omega)) (fun r hr=>ub (by rw [hr];rfl)))
theorem qBs {m:qza} (h:qXr m):qDn m=some 0:=by
 rw [qwz]
 simp only [wj]
 have:=h.1
 exact Tot.eq (uc (by omega) (uc (by omega) (ud (qGG _ (by omega) h.2) (uo (ub rfl)))))
theorem qNq (a:Int):Tot (qhq a) fun r=>-2047≤r∧r≤2047∧(-2047≤a→a≤2047→r=a):=by
 rw [qxB]
 refine ub ?_
 split <;> split at*<;> omega
theorem qHG (l:List Int) (hl:l.length≤1048576) (h:∀x∈l,-2047≤x∧x≤2047):qpc l=some false:=by
 have key:∀i:Int,0≤i→Tot (qfb l l.length i) fun r=>r=-1:=by
  intro i
  refine qld (P:=fun i=>0≤i→Tot (qfb l l.length i) fun r=>r=-1) l.length ?_ ?_ i
  ·intro i hi h0
   rw [qed]
   exact uc (by omega) (ub rfl)
  ·intro i hi ih h0
   rw [qed]
   simp only [wj]
   rw [w64 (x:=i+1) (by omega) (by omega)]
   have hd:=qPa (P:=fun x=>-2047≤x∧x≤2047) (d:=0) h i.toNat (by omega)
   refine uf (by omega) (ua h0 (ua (by omega) (ud (v:=false) ?_ (uo (ih (by omega))))))
   rw [qmv]
   exact Tot.eq (Tot.b (qNq _) (fun r hr=>ub (by rw [hr.2.2 hd.1 hd.2];simp)))
 rw [qqg,qmh]
 exact Tot.eq (Tot.b (key 0 (by omega)) (fun r hr=>ub (by rw [hr];rfl)))
theorem qzs {m:qza} (h:qXr m) {s:Int} (h0:0≤s) (h1:s≤255) {l:List Int} (hl:l.length=8) (hb:∀x∈l,-2047≤x∧x≤2047):qCn m s l=some 0:=by
 rw [qtz]
 simp only [wj]
 have:=h.1
 exact Tot.eq (ud (qBs h) (ue rfl (uc (by omega) (uc (by omega) (ue (by omega) (ud (qHG _ (by omega) hb) (uo (ub rfl))))))))
theorem qdy (a:Int):Tot (qMs a) fun _=>True:=by
 rw [qkE];exact ub trivial
theorem qmG (a b:List Int) (hl:a.length=b.length) (h16:a.length≤16):Tot (qey a b) fun _=>True:=by
 have key:∀i:Int,0≤i→∀v6 v7,0≤v7→Tot (qnj b v6 v7 a a.length i) fun r=>True:=by
  intro i
  refine qld (P:=fun i=>0≤i→∀v6 v7,0≤v7→Tot (qnj b v6 v7 a a.length i) fun r=>True) a.length ?_ ?_ i
  ·intro i hi h0 v6 v7 h7
   rw [qqp]
   refine uc (by omega) ?_
   repeat (first|exact ub trivial|exact Tot.b (qdy _) (fun _ _=>ub trivial)|refine uk (fun _=>?_) (fun _=>?_))
  ·intro i hi ih h0 v6 v7 h7
   rw [qqp]
   simp only [wj]
   rw [w64 (x:=i+1) (by omega) (by omega)]
   refine uf (by omega) (ua h0 (ua (by omega) (ua h0 (ua (by omega) (Tot.b (P:=fun r=>0≤r.1) ?_ (fun r hr=>ua (by decide) (ih (by omega) _ _ hr)))))))
   unfold qqq
   have hw:=qNQ (wd .i64 ((wd .i64 (wm a (wo i) 0))*(wd .i64 (wm b (wo i) 0))))
   rw [if_pos ⟨h7,hw.1,by omega,by omega⟩]
   exact ub (by simp only;omega)
 rw [qlE]
 simp only [wj]
 exact uc (by split <;> omega) (ue (by omega) (key 0 (by omega) 0 0 (by omega)))
theorem qvx {m:qza} (h:qXr m) {s:Int} (h0:0≤s) (h1:s≤255) {l:List Int} (hl:l.length=8) (hb:∀x∈l,-2047≤x∧x≤2047):
  Tot (qwx m s l) fun r=>-2047≤r.1∧r.1≤2047∧0≤r.2.1∧r.2.1≤4095:=by
 rw [qOD]
 simp only [wj]
 have hl':=h.1
 have hd:=qPa (P:=fun r:List Int=>r.length=8) (d:=[]) h.2 s.toNat (by omega)
 exact ud (qzs h h0 h1 hl hb) (ue rfl (ua h0 (ua (by omega) (Tot.b (qmG _ _ (by omega) (by omega)) (fun r _=>ua (by decide) (Tot.b (qNq _) (fun q hq=>Tot.b (qbB _) (fun t ht=>ub ⟨hq.1,hq.2.1,ht⟩))))))))
theorem qUB (a:Int):Tot (qGr a 14) fun _=>True:=by
 rw [qJz,w64 (x:=14 - 1) (by decide) (by decide)]
 exact uc (by decide) (uc (by decide) (ux (by decide) (ua (by decide) (ua (by decide) (ub trivial)))))
theorem qnG (a b:Int):Tot (qfy a b) fun _=>True:=by
 rw [qmE]
 exact Tot.b (qdy _) (fun _ _=>ub trivial)
theorem qnv {s:Int} (h0:0≤s) (h1:s≤255) {l:List Int} (hl:l.length=8) (v16:Int) (u u':Unit) (h10:List (List Int)):∀i:Int,0≤i→∀h11:List (List Int),h11.length=256→(∀r∈h11,r.length=8)→
  Tot (qzg s v16 l 8 i u u' h10 h11) fun r=>r.2=0∧qXr r.1:=by
 intro i
 refine qld (P:=fun i=>0≤i→∀h11:List (List Int),h11.length=256→(∀r∈h11,r.length=8)→Tot (qzg s v16 l 8 i u u' h10 h11) fun r=>r.2=0∧qXr r.1) 8 ?_ ?_ i
 ·intro i hi h0' h11 hh hr
  rw [qNm]
  exact uc (by omega) (ub ⟨rfl,hh,hr⟩)
 ·intro i hi ih h0' h11 hh hr
  rw [qNm]
  simp only [wj]
  have hd:=qPa (P:=fun r:List Int=>r.length=8) (d:=[]) hr (0+s.toNat) (by omega)
  rw [w64 (x:=i+1) (by omega) (by omega),hd]
  refine uf (by omega) (ua h0' (ua (by omega) (Tot.b (qUB _) (fun r _=>ua h0 (ua (by omega) (ua (by decide) (ua h0 (ua (by omega) (ua (by decide) (ua h0' (ua (by omega) (Tot.b (qnG _ _) (fun q _=>ua h0' (ua (by omega) (ih (by omega) _ (by simpa using hh) (qHf hr ?_ _))))))))))))))))
  simpa using hd
theorem qov {s:Int} (h0:0≤s) (h1:s≤255) {l:List Int} (hl:l.length=8) (v3:Int) (v4:Bool) (m:List (List Int)) (hm:m.length=256) (hr:∀r∈m,r.length=8) (u u':Unit) (h10:List (List Int)):∀i:Int,0≤i→i≤256→∀h11:List (List Int),h11.length=i.toNat→(∀r∈h11,r.length=8)→
  Tot (qAg s l v3 v4 m 256 i u u' h10 h11) fun r=>r.2=0∧qXr r.1:=by
 intro i
 refine qld (P:=fun i=>0≤i→i≤256→∀h11:List (List Int),h11.length=i.toNat→(∀r∈h11,r.length=8)→Tot (qAg s l v3 v4 m 256 i u u' h10 h11) fun r=>r.2=0∧qXr r.1) 256 ?_ ?_ i
 ·intro i hi h0' hi' h11 hh hr'
  rw [qOm]
  simp only [wj]
  rw [hl]
  refine uc (by omega) (Tot.b (P:=fun _=>True) ?_ (fun q _=>qnv h0 h1 hl _ u u' h10 0 (by omega) h11 (by omega) hr'))
  rw [qsz]
  exact uk (fun _=>ub trivial) (fun _=>ub trivial)
 ·intro i hi ih h0' hi' h11 hh hr'
  rw [qOm]
  simp only [wj]
  have hd:=qPa (P:=fun r:List Int=>r.length=8) (d:=[]) hr i.toNat (by omega)
  rw [w64 (x:=i+1) (by omega) (by omega)]
  refine uf (by omega) (ua h0' (ua (by omega) (ud (qdb _ (by omega)) (ua (by rw [wn,wy];omega) (ih (by omega) (by omega) _ (by rw [wn,wy];omega) (qDj hr' hd))))))
theorem qyB {m:qza} (h:qXr m) {s:Int} (h0:0≤s) (h1:s≤255) {l:List Int} (hl:l.length=8) (hb:∀x∈l,-2047≤x∧x≤2047) {p:Int} (hp0:0≤p) (hp1:p≤4095) (b:Bool):
  Tot (qxr m s l p b) fun r=>r.2=0∧qXr r.1:=by
 rw [qvz]
 simp only [wj]
 rw [h.1]
 exact ud (qzs h h0 h1 hl hb) (ue rfl (uc (by omega) (uc (by omega) (qov h0 h1 hl p b m.1 h.1 h.2 () () [] 0 (by omega) (by omega) [] rfl (fun r hr=>by cases hr)))))
def qPv (r:List Int):Prop:=r.length=33∧∀x∈r,0≤x∧x≤65535
def qkt (m:qza):Prop:=m.1.length=256∧∀r∈m.1,qPv r
theorem qCt (l:List (List Int)) (hl:l.length≤1048576) (h:∀r∈l,qPv r):∀i:Int,0≤i→Tot (qJf l l.length i) fun r=>r=0:=by
 intro i
 refine qld (P:=fun i=>0≤i→Tot (qJf l l.length i) fun r=>r=0) l.length ?_ ?_ i
 ·intro i hi h0
  rw [qql]
  exact uc (by omega) (ub rfl)
 ·intro i hi ih h0
  rw [qql]
  simp only [wj]
  rw [w64 (x:=i+1) (by omega) (by omega)]
  have hd:=qPa (P:=qPv) (d:=[]) h i.toNat (by omega)
  have hd1:=hd.1
  exact uf (by omega) (ua h0 (ua (by omega) (ue (by omega) (Tot.b (qTH _ (by omega) (by omega) hd.2) (fun r hr=>uc (by omega) (Tot.b (qVH _ (by omega) (by omega) hd.2) (fun s hs=>uc (by omega) (ih (by omega)))))))))
theorem qlm {m:qza} (h:qkt m):qrl m=some 0:=by
 rw [qRw]
 simp only [wj]
 have:=h.1
 exact Tot.eq (uc (by omega) (uc (by omega) (qCt _ (by omega) h.2 0 (by omega))))
theorem qHq {m:qza} (h:qkt m) {s:Int} (h0:0≤s) (h1:s≤255):qnl m s=some 0:=by
 rw [qNw]
 simp only [wj]
 have:=h.1
 exact Tot.eq (ud (qlm h) (ue rfl (uc (by omega) (uc (by omega) (ub rfl)))))
theorem qPj {m:qza} (h:qkt m) {s:Int} (h0:0≤s) (h1:s≤255) {a:Int} (ha0:-2047≤a) (ha1:a≤2047):Tot (qwn m s a) fun r=>r.2.2=0∧0≤r.2.1∧r.2.1≤32:=by
 rw [qjz]
 simp only [wj]
 have hl:=h.1
 have hd:=qPa (P:=qPv) (d:=[]) h.2 s.toNat (by omega)
 rw [hd.1]
 simp (disch:=omega) only [w32 (x:=a+2048),w64 (x:=a+2048),qfm,qng,w64 (x:=(a+2048)/128),w64 (x:=(a+2048)/128+1),w32 (x:=(a+2048)%128/64),w64 (x:=(a+2048)%128/64),w64 (x:=(a+2048)/128+(a+2048)%128/64)]
 refine ud (qHq h h0 h1) (ue rfl (uc (by omega) (uc (by omega) (ua (by decide) (ua (by decide) (ua h0 (ua (by omega) (ua (by omega) (ua (by omega) (ua (by omega) (ua (by omega) (ua (by decide) (ua (by decide) (ub ⟨rfl,?_,?_⟩))))))))))))))
 ·simp only;omega
 ·simp only;omega
theorem qBt {s n:Int} (h0:0≤s) (h1:s≤255) (hn0:0≤n) (hn1:n≤32) (b:Bool) (m:List (List Int)) (hm:m.length=256) (hr:∀r∈m,qPv r) (u u':Unit) (h10:List (List Int)):∀i:Int,0≤i→i≤256→∀h11:List (List Int),h11.length=i.toNat→(∀r∈h11,qPv r)→
  Tot (qIf s n b m 256 i u u' h10 h11) fun r=>r.2=0∧qkt r.1:=by
 intro i
 refine qld (P:=fun i=>0≤i→i≤256→∀h11:List (List Int),h11.length=i.toNat→(∀r∈h11,qPv r)→Tot (qIf s n b m 256 i u u' h10 h11) fun r=>r.2=0∧qkt r.1) 256 ?_ ?_ i
 ·intro i hi h0' hi' h11 hh hr'
  rw [qol]
  simp only [wj]
  have hd:=qPa (P:=qPv) (d:=[]) hr' (0+s.toNat) (by omega)
  have hv:=qPa (P:=fun x=>0≤x∧x≤65535) (d:=0) hd.2 (0+n.toNat) (by rw [hd.1];omega)
  have hd1:=hd.1
  rw [hd1]
  generalize hz:(h11.getD (0+s.toNat) []).getD (0+n.toNat) 0=z at*
  have q1:(65535 - z).tdiv 64=(65535 - z)/64:=qfm (by omega)
  have q2:wFa (0 - z) 64=-(z/64):=by rw [Int.zero_sub,Int.neg_tdiv,qfm hv.1]
  rw [w32 (x:=65535 - z) (by omega) (by omega),w32 (x:=0 - z) (by omega) (by omega),q1,q2,w32 (x:=(65535 - z)/64) (by omega) (by omega),w32 (x:=-(z/64)) (by omega) (by omega),w32 (x:=z+(65535 - z)/64) (by omega) (by omega),w32 (x:=z+-(z/64)) (by omega) (by omega)]
  refine uc (by omega) (uk (fun _=>?_) (fun _=>?_))
  ·exact ua h0 (ua (by omega) (ua (by decide) (ua hn0 (ua (by omega) (ua (by decide) (ub ⟨rfl,by simp;omega,qHf hr' ⟨by simpa using hd.1,qHf hd.2 (by omega) _⟩ _⟩))))))
  ·exact ua h0 (ua (by omega) (ua (by decide) (ua hn0 (ua (by omega) (ua (by decide) (ub ⟨rfl,by simp;omega,qHf hr' ⟨by simpa using hd.1,qHf hd.2 (by omega) _⟩ _⟩))))))
 ·intro i hi ih h0' hi' h11 hh hr'
  rw [qol]
  simp only [wj]
  have hd:=qPa (P:=qPv) (d:=[]) hr i.toNat (by omega)
  have hd1:=hd.1
  rw [w64 (x:=i+1) (by omega) (by omega)]
  refine uf (by omega) (ua h0' (ua (by omega) (ud (qdb _ (by omega)) (ua (by rw [wn,wy];omega) (ih (by omega) (by omega) _ (by rw [wn,wy];omega) (qDj hr' hd))))))
theorem qIq {m:qza} (h:qkt m) {s n:Int} (h0:0≤s) (h1:s≤255) (hn0:0≤n) (hn1:n≤32) (b:Bool):Tot (qpl m s n b) fun r=>r.2=0∧qkt r.1:=by
 rw [qQw]
 simp only [wj]
 rw [h.1]
 exact ud (qHq h h0 h1) (ue rfl (uc (by omega) (uc (by omega) (qBt h0 h1 hn0 hn1 b m.1 h.1 h.2 () () [] 0 (by omega) (by omega) [] rfl (fun r hr=>by cases hr)))))
def qQC (f:qSa):Prop:=qkt f.1∧qkt f.2.1
theorem qVj {f:qSa} (h:qQC f):qPk f=some 0:=by
 have l1:=h.1.1
 have l2:=h.2.1
 rw [qNz,qzi]
 simp only [wj]
 have e1:([f.1,f.2.1]:List qza).getD (0+wo 0) (qra qBa)=f.1:=rfl
 rw [e1,w64 (x:=0+1) (by decide) (by decide)]
 refine Tot.eq (uf (by decide) (ua (by decide) (ua (by simp) (ud (qlm h.1) (ue rfl (ue (by omega) ?_))))))
 rw [qzi]
 simp only [wj]
 have e2:([f.1,f.2.1]:List qza).getD (0+wo (0+1)) (qra qBa)=f.2.1:=rfl
 rw [e2,w64 (x:=0+1+1) (by decide) (by decide)]
 refine (uf (by decide) (ua (by decide) (ua (by simp) (ud (qlm h.2) (ue rfl (ue (by omega) ?_))))))
 rw [qzi]
 exact uc (by decide) (ub rfl)
theorem qRu (a b:Int) {w:Int} (h0:1≤w) (h1:w≤255):Tot (qbu a b w) fun r=>∃x,r.1=[w,x]∧0≤x∧x≤255:=by
 rw [qZB]
 exact uc (by omega) (uc (by omega) (Tot.b (qMn _ _ (by show 3≤_;decide)) (fun r _=>Tot.b (qqm _ 8 (by decide) (by decide)) (fun q hq=>ub ⟨q.1,rfl,hq.2.1,by omega⟩))))
theorem qQu (a:Int):Tot (qau a) fun r=>0≤a→a≤4095→r=true:=by
 rw [qYB]
 exact ug (fun h=>ub (fun _ h1=>decide_eq_true h1)) (fun h=>ub (fun h0 _=>absurd h0 h))
def qWR (c:qxc):Prop:=∃a b x y:Int,c.1=[a,b]∧c.2.1=[x,y]∧0≤a∧a≤255∧0≤b∧b≤255∧0≤x∧x≤32∧0≤y∧y≤32
theorem qtE {f:qSa} (h:qQC f) {a b st p:Int} (ha:0≤a∧a≤255) (hb:0≤b∧b≤255) (hs:-2047≤st∧st≤2047) (hp:0≤p∧p≤4095):Tot (qkq f [a,b] st p) fun r=>qWR r.2.1:=by
 rw [qPs]
 have e0:([a,b]:List Int).getD 0 0=a:=rfl
 have e1:([a,b]:List Int).getD 1 0=b:=rfl
 rw [e0,e1]
 refine ud (qVj h) (ue rfl (ua (by decide) (ua (by decide) (Tot.b (qPj h.1 ha.1 ha.2 hs.1 hs.2) (fun r hr=>ua (by decide) (ua (by decide) (Tot.b (qPj h.2 hb.1 hb.2 hs.1 hs.2) (fun q hq=>ue hr.1 (ue hq.1 (Tot.b (qQu p) (fun t ht=>um (fun k=>?_) (fun _=>?_))))))))))))
 ·rw [ht hp.1 hp.2] at k;exact absurd k (by decide)
 ·refine Tot.b (P:=fun _=>True) ?_ (fun z _=>ub ⟨a,b,r.2.1,q.2.1,rfl,rfl,ha.1,ha.2,hb.1,hb.2,hr.2.1,hr.2.2,hq.2.1,hq.2.2⟩)
  rw [qOs]
  exact ua (by decide) (ua (by decide) (ua (by decide) (ub trivial)))
theorem qaC {f:qSa} (h:qQC f) {c:qxc} (hc:qWR c) (b:Bool):Tot (qHr f c b) fun r=>r.2=0∧qQC r.1:=by
 obtain ⟨x,y,u,v,h1,h2,h3,h4,h5,h6,h7,h8,h9,h10⟩:=hc
 rw [qMz,h1,h2]
 have e0:([x,y]:List Int).getD 0 0=x:=rfl
 have e1:([x,y]:List Int).getD 1 0=y:=rfl
 have e2:([u,v]:List Int).getD 0 0=u:=rfl
 have e3:([u,v]:List Int).getD 1 0=v:=rfl
 rw [e0,e1,e2,e3]
 exact ud (qVj h) (ue rfl (ua (by decide) (ua (by decide) (ua (by decide) (ua (by decide) (Tot.b (qIq h.1 h3 h4 h7 h8 b) (fun r hr=>ua (by decide) (ua (by decide) (ua (by decide) (ua (by decide) (Tot.b (qIq h.2 h5 h6 h9 h10 b) (fun q hq=>ue hr.1 (ue hq.1 (ub ⟨rfl,hr.2,hq.2⟩))))))))))))))
def qXD (T:ByteArray):Bool:=decide (T.size=256)&&(List.range 256).all fun i=>decide (i=0∨(1≤qbw T i∧qbw T i≤8∧(i:Int)<2 ^ (qbw T i).toNat))
theorem qFL {T:ByteArray} (h:qXD T=true) {i:Nat} (h0:1≤i) (h1:i<256):1≤qbw T i∧qbw T i≤8∧(i:Int)<2 ^ (qbw T i).toNat:=by
 unfold qXD at h
 rw [wA,List.all_eq_true] at h
 have:=of_decide_eq_true (h.2 i (List.mem_range.2 h1))
 rcases this with rfl|h
 ·omega
 ·exact h
theorem qeG {T:ByteArray} (h:qXD T=true):T.size=256:=by
 unfold qXD at h
 rw [wA] at h
 exact of_decide_eq_true h.1
theorem qtQ {T:ByteArray} (hT:qXD T=true) {a:Int} (h0:1≤a) (h1:a≤255):Tot (gd (0≤wd .u8 a)<|gd (wd .u8 a<wi T.size)<|some (wd .i64 (0+wd .i64 (qbw T (wo (wd .u8 a)))))) fun r=>1≤r∧r≤8∧a<2 ^ r.toNat:=by
 have e:wd .u8 a=a:=by rw [wu8];omega
 have hs:=qeG hT
 have ht:=qFL hT (i:=a.toNat) (by omega) (by omega)
 rw [e,hs,w64 (x:=qbw T a.toNat) (by omega) (by omega),w64 (by omega) (by omega)]
 refine ua (by omega) (ua (by show a<256;omega) (ub ?_))
 rw [Int.zero_add]
 refine ⟨ht.1,ht.2.1,?_⟩
 have e2:((a.toNat:Nat):Int)=a:=by omega
 rw [e2] at ht
 exact ht.2.2
theorem qsO {a:Int} (h0:1≤a) (h1:a≤255):Tot (qLe (wd .u64 a)) fun r=>1≤r∧r≤8∧a<2 ^ r.toNat:=by
 have e:wd .u64 a=a:=by rw [qNR];omega
 rw [qno,e,qAl]
 refine Tot.b (uc (by omega) (uc (by omega) (uc (by omega) (qtQ ?_ h0 h1)))) (fun r hr=>ub hr)
 decide+kernel
def qWu (w:qua):Prop:=1≤w.1∧w.1≤255
theorem qyg {w:qua} (h:qWu w):qNf w=some 0:=by
 rw [qqx]
 have:=h.1
 have:=h.2
 exact Tot.eq (uc (by omega) (uc (by omega) (ub rfl)))
theorem qxs {w:qua} (h:qWu w):Tot (qtr w) fun r=>1≤r.1∧r.1≤15:=by
 rw [qpz,qnz]
 refine ud (qyg h) (ue rfl (Tot.b (P:=fun r=>1≤r∧r≤15) (Tot.b (qsO h.1 h.2) (fun r hr=>?_)) (fun r hr=>ub hr)))
 rw [w64 (x:=r - 1) (by omega) (by omega)]
 refine ug (fun h4=>ub ⟨h.1,?_⟩) (fun h4=>?_)
 ·have h5:r=1∨r=2∨r=3∨r=4:=by omega
  have:=hr.2.2
  rcases h5 with rfl|rfl|rfl|rfl
  ·have e:(2:Int) ^ (wo 1)=2:=by decide
   omega
  ·have e:(2:Int) ^ (wo 2)=4:=by decide
   omega
  ·have e:(2:Int) ^ (wo 3)=8:=by decide
   omega
  ·have e:(2:Int) ^ (wo 4)=16:=by decide
   omega
 ·rw [w64 (x:=r - 1 - 4) (by omega) (by omega)]
  have h5:r=5∨r=6∨r=7∨r=8:=by omega
  have h6:=h.1
  rcases h5 with rfl|rfl|rfl|rfl
  ·have e:wd .i64 (qzw .i64 1 (5 - 1 - 4))=1:=by kernel_rfl
   rw [e,qng (by omega),w64 (by omega) (by omega)]
   exact ua (by decide) (ua (by decide) (ub ⟨by omega,by omega⟩))
  ·have e:wd .i64 (qzw .i64 1 (6 - 1 - 4))=2:=by kernel_rfl
   rw [e,qng (by omega),w64 (by omega) (by omega)]
   exact ua (by decide) (ua (by decide) (ub ⟨by omega,by omega⟩))
  ·have e:wd .i64 (qzw .i64 1 (7 - 1 - 4))=4:=by kernel_rfl
   rw [e,qng (by omega),w64 (by omega) (by omega)]
   exact ua (by decide) (ua (by decide) (ub ⟨by omega,by omega⟩))
  ·have e:wd .i64 (qzw .i64 1 (8 - 1 - 4))=8:=by kernel_rfl
   rw [e,qng (by omega),w64 (by omega) (by omega)]
   exact ua (by decide) (ua (by decide) (ub ⟨by omega,by omega⟩))
theorem qko (w:qua):∀(n:Nat) (hs:List Bool),n+hs.length≤100→Tot (qOi ((n:Int) - 1) w hs) fun r=>r.1.length=hs.length+n
 |0,hs,hn=>by
  rw [qMm]
  exact uc (by omega) (ub rfl)
 |n+1,hs,hn=>by
  rw [qMm]
  have e:((n+1:Nat):Int) - 1=(n:Int):=by omega
  rw [e,w64 (x:=(n:Int) - 1) (by omega) (by omega)]
  refine uf (by omega) (ua (by omega) (ua (by rw [wn,wy];omega) ?_))
  exact Tot.mono (qko w n _ (by rw [wn,wy];omega)) (fun r hr=>by rw [hr,wn,wy];omega)
theorem qvB {w:qua} (h:qWu w):Tot (qur w) fun r=>r.1.length≤7:=by
 rw [qqz]
 refine ud (qyg h) (ue rfl (Tot.b (qsO h.1 h.2) (fun r hr=>?_)))
 have e:r - 2=(((r - 1).toNat:Nat):Int) - 1:=by omega
 rw [w64 (x:=r - 2) (by omega) (by omega),e]
 exact Tot.mono (qko w _ [] (by rw [wX];omega)) (fun q hq=>by rw [hq,wX];omega)
theorem quB {w:qua} (h:qWu w) (b:Bool):Tot (qsr w b) fun r=>qWu r.1∧0≤r.2.2.1∧r.2.2.1<256:=by
 rw [qoz,qmz,qys]
 have h0:=h.1
 have h1:=h.2
 rw [w64 (x:=2*w.1) (by omega) (by omega),w64 (x:=2*w.1+1) (by omega) (by omega)]
 refine ud (qyg h) (ue rfl (Tot.b (P:=fun r=>2≤r) (uk (fun _=>ub (by omega)) (fun _=>ub (by omega))) (fun r hr=>ug (fun hk=>?_) (fun hk=>ub ⟨⟨by simp only;omega,by simp only;omega⟩,wSa 0,by show (0:Int)<256;decide⟩))))
 exact ud rfl (ub ⟨⟨wSa 1,by show (1:Int)≤255;decide⟩,qYu r⟩)
def qbo (m:qgc):Prop:=(m.1=-1∧m.2.1=0)∨(0≤m.1∧m.1≤1073741824∧1≤m.2.1∧m.2.1≤40)
theorem qGn {m:qgc} (h:qbo m):qFk m=some 0:=by
 rw [qAz,qip]
 simp only [qbo] at h
 refine Tot.eq (ud rfl (uk (fun _=>ub rfl) (fun hp=>?_)))
 rcases h with ⟨h1,h2⟩|h
 ·obtain ⟨a,n,u⟩:=m
  simp only at h1 h2
  subst h1 h2
  exact absurd rfl hp
 ·exact uf (by omega) (uf (by omega) (uf (by omega) (uf (by omega) (ub rfl))))
theorem qOq {l:Int} {m:qgc} {r:qeb} (h:qBe l r):Tot (qCl m r) fun x=>(0≤x.1∧x.1<256)∧(m.1<0→x.2=false):=by
 rw [qEx]
 exact ug (fun _=>ub ⟨by decide,fun _=>rfl⟩) (fun k=>Tot.b (qKK h _) (fun x hx=>ub ⟨hx,fun q=>absurd q k⟩))
theorem qHs {l:Int} {m:qgc} {r:qeb} {w:qua} (hm:qbo m) (h:qBe l r) (hw:qWu w):Tot (qzr m r w) fun x=>-2047≤x.1∧x.1≤2047:=by
 rw [qzz]
 have hl:0≤m.2.1∧m.2.1≤40:=by
  rcases hm with h|h <;> omega
 rw [w64 (x:=50*m.2.1) (by omega) (by omega),w64 (x:=-50*m.2.1) (by omega) (by omega),w32 (x:=50*m.2.1) (by omega) (by omega),w32 (x:=-50*m.2.1) (by omega) (by omega)]
 refine ud (qGn hm) (ue rfl (ud (qPd h) (ue rfl (ud (qyg hw) (ue rfl (Tot.b (qOq h) (fun x _=>Tot.b (qvB hw) (fun q hq=>um (fun _=>ub (by decide)) (fun _=>?_)))))))))
 simp (disch:=omega) only [wj,w64 (x:=8 - (q.1.length:Int)),w64 (x:=7 - (q.1.length:Int))]
 exact ua (by omega) (ui (fun _=>ub (by decide)) (fun _=>ua (by omega) (uk (fun _=>ub ⟨by simp only;omega,by simp only;omega⟩) (fun _=>ub ⟨by simp only;omega,by simp only;omega⟩))))
theorem qUI (h:List Int) (i:Nat) (x:Int) (hi:i<h.length):qsb h i [x]=h.set i x:=by
 unfold qsb
 rw [List.set_eq_take_append_cons_drop,if_pos hi]
 simp
theorem qmC {h:List Int} {n:Nat} {x:Int} {i:Nat} (hz:∀y∈h.drop n,y=0) (hi:i≤n):∀y∈(h.set i x).drop (n+1),y=0:=by
 intro y hy
 rw [List.drop_set,if_pos (by omega)] at hy
 rw [←wda] at hy
 exact hz y (List.mem_of_mem_drop hy)
theorem qeq {l:Int} {r:qeb} (h:qBe l r) {x:Int} (hx:0≤x∧x<256) (hN:r.2.2.1<1073741824):Tot (qfB r [x]) fun s=>s.2=0∧qBe l s.1∧s.1.2.2.1=r.2.2.1+1:=by
 have hh:=h
 obtain ⟨h1,⟨h2,h3⟩,h4,h5,h6,h7,h8⟩:=h
 have hp:=qJu h2 h3
 rw [qIF]
 have e1:(wi [x].length)=1:=rfl
 rw [e1]
 rw [w64 (x:=1073741824 - r.2.2.1) (by omega) (by omega)]
 refine ud (qPd hh) (ue rfl (uc (by decide) (uc (by omega) (ud (qak _ (by omega)) ?_))))
 rw [qGq]
 simp only [wj]
 rw [qng h6]
 have hm0:0≤r.2.2.1%(r.2.1.length:Int):=Int.emod_nonneg _ (by omega)
 have hm1:r.2.2.1%(r.2.1.length:Int)<(r.2.1.length:Int):=Int.emod_lt_of_pos _ (by omega)
 have hle:r.2.2.1%(r.2.1.length:Int)≤r.2.2.1:=by
  rcases Int.lt_or_le r.2.2.1 (r.2.1.length:Int) with k|k
  ·rw [Int.emod_eq_of_lt h6 k];exact wSa _
  ·omega
 generalize r.2.2.1%(r.2.1.length:Int)=i at*
 have emin:min [x].length (r.2.1.length - i.toNat)=1:=by
  show min 1 _=1
  omega
 rw [emin]
 have e2:wY 1 [x]=[]:=rfl
 have e3:wL 1 [x]=[x]:=rfl
 rw [e2,e3,wJ,qUI _ _ _ (by omega),w64 (x:=r.2.2.1+((1:Nat):Int)) (by omega) (by omega)]
 refine uf (by show 0<1;decide) (ua (by omega) (ua hm0 (ua (by omega) (ua (by decide) (ua (by show (1:Int)≤1;decide) ?_)))))
 rw [qGq]
 refine uc (by decide) (ub ⟨rfl,⟨h1,⟨h2,h3⟩,by simpa using h4,qHf h5 hx _,by simp only;omega,by simp only;omega,?_⟩,rfl⟩)
 have e4:(r.2.2.1+((1:Nat):Int)).toNat=r.2.2.1.toNat+1:=by omega
 simp only
 rw [e4]
 exact qmC h8 (by omega)
theorem qRi {l:Int} {r:qeb} (h:qBe l r):Tot (qYg r) fun _=>True:=by
 have key:∀(n:Nat) (hs:List Int),n+hs.length≤100→Tot (qGh n r hs) fun _=>True:=by
  intro n
  induction n with
  |zero=>
   intro hs hn
   rw [qBl]
   exact uc (by simp) (Tot.b (qMn _ _ (by omega)) (fun _ _=>ub trivial))
  |succ n ih=>
   intro hs hn
   rw [qBl]
   have e:((n+1:Nat):Int) - 1=(n:Int):=by omega
   rw [w64 (x:=((n+1:Nat):Int) - 1) (by omega) (by omega),e]
   exact uf (by omega) (Tot.b (qLw h _) (fun x hx=>ua (by rw [wn,wy];omega) (ih _ (by rw [wn,wy];omega))))
 rw [qDx]
 exact key 4 [] (by decide)
def qOS (l:Int) (N:Int) (r:qgc×qeb×qIa×Int):Prop:=r.2.2.2=0∧qbo r.1∧qBe l r.2.1∧r.2.1.2.2.1=N+1∧qYp l r.2.2.1
theorem qQD {l:Int} {m:qgc} {r:qeb} {f:qIa} {x:Int} (hm:qbo m) (h:qBe l r) (hf:qYp l f) (hx:0≤x∧x<256) (hN:r.2.2.1<1073741824):Tot (qPt m r f x) (qOS l r.2.2.1):=by
 have hput:∀(s:qeb) (k:Int),qBe l s→s.2.2.1=r.2.2.1+1→Tot (qxi f k s.2.2.1) fun q=>q.2=0∧qYp l q.1:=fun s k hs e=>qoE hf k hs.2.2.2.2.1 hs.2.2.2.2.2.1
 have hnew:qbo (-1,(0,())):=Or.inl ⟨rfl,rfl⟩
 rw [qDB,qip]
 refine ud (qGn hm) (ue rfl (ud (qPd h) (ue rfl (ud (qrm hf) (ue rfl (ud rfl (Tot.b (qOq h) (fun e he=>?_))))))))
 refine uk (fun he2=>?_) (fun he2=>?_)
 ·have hm0:0≤m.1∧m.1≤1073741824∧1≤m.2.1∧m.2.1≤40:=by
   rcases hm with k|k
   ·have:=he.2 (by omega);rw [this] at he2;exact absurd he2 (by decide)
   ·exact k
  refine ul (fun _=>?_) (fun _=>?_)
  ·refine ug (fun hlt=>?_) (fun _=>?_)
   ·rw [w64 (x:=m.1+1) (by omega) (by omega),w64 (x:=m.2.1+1) (by omega) (by omega)]
    have hm1:qbo (m.1+1,((if 40<m.2.1+1 then 40 else m.2.1+1),())):=Or.inr ⟨by simp only;omega,by simp only;omega,by simp only;split <;> omega,by simp only;split <;> omega⟩
    refine Tot.b (qeq h hx hN) (fun s hs=>ue hs.1 (Tot.b (qRi hs.2.1) (fun k _=>Tot.b (qUj hf k) (fun q hq=>?_))))
    exact uc (by omega) (Tot.b (hput s.1 k hs.2.1 hs.2.2) (fun t ht=>ub ⟨rfl,hm1,hs.2.1,hs.2.2,ht.2⟩))
   ·refine Tot.b (qeq h hx hN) (fun s hs=>ue hs.1 (Tot.b (qRi hs.2.1) (fun k _=>Tot.b (qUj hf k) (fun q hq=>?_))))
    refine uf (by decide) (ug (fun hq0=>ug (fun hq1=>Tot.b (qOk hs.2.1 q.1) (fun n hn=>ug (fun hn3=>?_) (fun _=>?_))) (fun _=>?_)) (fun _=>?_))
    ·exact Tot.b (hput s.1 k hs.2.1 hs.2.2) (fun t ht=>ub ⟨rfl,Or.inr ⟨hq0,hq.2.2,by simp only;omega,hn.2⟩,hs.2.1,hs.2.2,ht.2⟩)
    all_goals exact Tot.b (hput s.1 k hs.2.1 hs.2.2) (fun t ht=>ub ⟨rfl,hnew,hs.2.1,hs.2.2,ht.2⟩)
  ·refine Tot.b (qeq h hx hN) (fun s hs=>ue hs.1 (Tot.b (qRi hs.2.1) (fun k _=>Tot.b (qUj hf k) (fun q hq=>?_))))
   refine uf (by decide) (ug (fun hq0=>ug (fun hq1=>Tot.b (qOk hs.2.1 q.1) (fun n hn=>ug (fun hn3=>?_) (fun _=>?_))) (fun _=>?_)) (fun _=>?_))
   ·exact Tot.b (hput s.1 k hs.2.1 hs.2.2) (fun t ht=>ub ⟨rfl,Or.inr ⟨hq0,hq.2.2,by simp only;omega,hn.2⟩,hs.2.1,hs.2.2,ht.2⟩)
   all_goals exact Tot.b (hput s.1 k hs.2.1 hs.2.2) (fun t ht=>ub ⟨rfl,hnew,hs.2.1,hs.2.2,ht.2⟩)
 ·refine Tot.b (qeq h hx hN) (fun s hs=>ue hs.1 (Tot.b (qRi hs.2.1) (fun k _=>Tot.b (qUj hf k) (fun q hq=>?_))))
  refine uf (by decide) (ug (fun hq0=>ug (fun hq1=>Tot.b (qOk hs.2.1 q.1) (fun n hn=>ug (fun hn3=>?_) (fun _=>?_))) (fun _=>?_)) (fun _=>?_))
  ·exact Tot.b (hput s.1 k hs.2.1 hs.2.2) (fun t ht=>ub ⟨rfl,Or.inr ⟨hq0,hq.2.2,by simp only;omega,hn.2⟩,hs.2.1,hs.2.2,ht.2⟩)
  all_goals exact Tot.b (hput s.1 k hs.2.1 hs.2.2) (fun t ht=>ub ⟨rfl,hnew,hs.2.1,hs.2.2,ht.2⟩)
def qjt (l:Int) (h:List qta):Prop:=h.length=6∧∀t∈h,qao l t
def qcK (h:List qqa):Prop:=h.length=6∧∀a∈h,qpF a
def WfSl (l:Int) (s:List Int):Prop:=∀x∈s,0≤x∧x<plT l
@[reducible] def qoP:Type:=(qza×(qSa×(qIa×(qgc×(qua×((List Int)×((List Int)×Unit)))))))
def qFI (l:Int) (b:qoP):Prop:=qXr b.1∧qQC b.2.1∧qYp l b.2.2.1∧qbo b.2.2.2.1∧qWu b.2.2.2.2.1∧WfSl l b.2.2.2.2.2.2.1
def WfP (l N:Int) (p:qia):Prop:=
 p.1=l∧(qBe l p.2.1∧p.2.1.2.2.1≤N)∧qjt l p.2.2.1∧qcK p.2.2.2.1∧qFI l p.2.2.2.2∧qgg p.2.1=some (p.2.2.2.2.2.2.2.2.2.1,0)
theorem WfSl.at {l:Int} {s:List Int} (h:WfSl l s) (h2:0≤l∧l≤7) (i:Nat):0≤s.getD i 0∧s.getD i 0<plT l:=
 qZx (P:=fun x=>0≤x∧x<plT l) h ⟨by omega,by have:=qbx h2.1 h2.2;omega⟩ i
theorem WfSl.zero {l:Int} (h2:0≤l∧l≤7):WfSl l (wl 6 0):=fun x hx=>by
 rw [List.eq_of_mem_replicate hx];have:=qbx h2.1 h2.2;omega
def qtO (l:Int) (a:Int) (g:qeb) (b:qoP) (h2:List qqa) (r:qia×List qta×List qqa):Prop:=
 r.1.1=a∧r.1.2.1=g∧qjt l r.2.1∧r.2.2=h2∧r.1.2.2.2.2.1=b.1∧r.1.2.2.2.2.2.1=b.2.1∧r.1.2.2.2.2.2.2.1=b.2.2.1∧r.1.2.2.2.2.2.2.2.1=b.2.2.2.1∧r.1.2.2.2.2.2.2.2.2.1=b.2.2.2.2.1∧r.1.2.2.2.2.2.2.2.2.2.1=b.2.2.2.2.2.1∧WfSl l r.1.2.2.2.2.2.2.2.2.2.2.1
theorem qXL {l:Int} (v a:_) (g:qeb) (h2:List qqa):∀i:Int,0≤i→∀(b:qoP) (h1:List qta),qjt l h1→WfSl l b.2.2.2.2.2.2.1→Tot (qQd v i a g b h1 h2) (qtO l a g b h2):=by
 intro i
 refine qld (P:=fun i=>0≤i→∀(b:qoP) (h1:List qta),qjt l h1→WfSl l b.2.2.2.2.2.2.1→Tot (qQd v i a g b h1 h2) (qtO l a g b h2)) 6 ?_ ?_ i
 ·intro i hi h0 b h1 ht hs
  rw [qfj]
  exact uc (by omega) (ub ⟨rfl,rfl,ht,rfl,rfl,rfl,rfl,rfl,rfl,rfl,hs⟩)
 ·intro i hi ih h0 b h1 ht hs
  rw [qfj]
  simp only [wj]
  have hl:=ht.1
  rw [w64 (x:=i+1) (by omega) (by omega)]
  have hd:=qPa (P:=qao l) (d:=qra qEa) ht.2 (0+i.toNat) (by omega)
  refine uf (by omega) (ua h0 (ua (by omega) (ua h0 (ua (by omega) (Tot.b (qbD hd _) (fun r hr=>ua h0 (ua (by omega) (ua h0 (ua (by omega) ?_)))))))))
  exact Tot.mono (ih (by omega) _ _ ⟨by rw [wia];exact ht.1,qHf ht.2 hr.1 _⟩ (qHf hs ⟨hr.2.1,hr.2.2.1⟩ _)) (fun q hq=>hq)
theorem qYL {l:Int} (v a:_) (g:qeb) (h2:List qqa) (b:qoP) (h1:List qta) (ht:qjt l h1) (hs:WfSl l b.2.2.2.2.2.2.1):Tot (qMf v a g b h1 h2) (qtO l a g b h2):=by
 rw [qrs]
 exact qXL v a g h2 0 (by omega) b h1 ht hs
theorem qME (l:List qqa) (hl:l.length≤1048576) (h:∀a∈l,qpF a):qHb l=some false:=by
 have key:∀i:Int,0≤i→Tot (qZa l l.length i) fun r=>r=-1:=by
  intro i
  refine qld (P:=fun i=>0≤i→Tot (qZa l l.length i) fun r=>r=-1) l.length ?_ ?_ i
  ·intro i hi h0
   rw [qwc]
   exact uc (by omega) (ub rfl)
  ·intro i hi ih h0
   rw [qwc]
   simp only [wj]
   rw [w64 (x:=i+1) (by omega) (by omega)]
   have hd:=qPa (P:=qpF) (d:=qra qDa) h i.toNat (by omega)
   refine uf (by omega) (ua h0 (ua (by omega) (ud (v:=false) ?_ (uo (ih (by omega))))))
   rw [qqs]
   exact Tot.eq (ud (qit hd) (ue rfl (ub (by rw [hd.1];rfl))))
 rw [qUe,qEf]
 exact Tot.eq (Tot.b (key 0 (by omega)) (fun r hr=>ub (by rw [hr];rfl)))
theorem qlJ {l N:Int} {p:qia} (h:WfP l N p):∀i:Int,0≤i→Tot (qWe p.2.2.1 p.2.2.1.length i p) fun r=>r=true:=by
 obtain ⟨h1,h2,h3,h4,h5,h6⟩:=h
 have hl:=h3.1
 intro i
 refine qld (P:=fun i=>0≤i→Tot (qWe p.2.2.1 p.2.2.1.length i p) fun r=>r=true) p.2.2.1.length ?_ ?_ i
 ·intro i hi h0
  rw [qxk]
  exact uc (by omega) (ud (qME _ (by rw [h4.1];decide) h4.2) (ub rfl))
 ·intro i hi ih h0
  rw [qxk]
  simp only [wj]
  have hd:=qPa (P:=qao l) (d:=qra qEa) h3.2 i.toNat (by omega)
  have hs:=h5.2.2.2.2.2.at hd.2.1 i.toNat
  have hd2:=hd.2.2.1
  rw [w64 (x:=i+1) (by omega) (by omega)]
  exact uf (by omega) (ua h0 (ua (by omega) (ud (qpn hd) (ue rfl (ue (by rw [hd.1,h1]) (ua h0 (ua (by omega) (uc (by omega) (ua h0 (ua (by omega) (uc (by omega) (ih (by omega)))))))))))))
theorem qQP {l N:Int} {p:qia} (h:WfP l N p):qyn p=some true:=by
 have hc:=qlJ h 0 (by omega)
 obtain ⟨h1,h2,h3,h4,h5,h6⟩:=h
 rw [qkv]
 simp only [wj]
 have hl:=h2.1.2.1
 have hl1:=h3.1
 have hl2:=h4.1
 exact Tot.eq (uc (by omega) (uc (by omega) (ue (by omega) (ue (by omega) (ud (qPd h2.1) (ue rfl (ue (by rw [h2.1.1,h1]) (ud (qrm h5.2.2.1) (ue rfl (ue (by rw [h5.2.2.1.1,h1]) hc))))))))))
theorem qus {α:Type} {eq:α→α→Bool} (h:∀x,eq x x=true):∀l:List α,qSC eq l l=true
 |[]=>rfl
 |x::l=>by rw [qSC,h,qus h l];rfl
theorem qzk {l N:Int} {p:qia} (h:WfP l N p):qQj p=some 0:=by
 rw [qlv]
 simp only [wj]
 have hp:=qQP h
 obtain ⟨h1,h2,h3,h4,h5,h6⟩:=h
 have hm:=h5.1.1
 refine Tot.eq (ud hp (um (fun k=>absurd k (by decide)) (fun _=>ud (qBs h5.1) (ue rfl (ue (by omega) (ud (qVj h5.2.1) (ue rfl (ud (qGn h5.2.2.2.1) (ue rfl (ud (qyg h5.2.2.2.2.1) (ue rfl (ud h6 (um (fun k=>?_) (fun _=>ub rfl))))))))))))))
 have:peq (.arr 6 (.int .u32)) p.2.2.2.2.2.2.2.2.2.1 p.2.2.2.2.2.2.2.2.2.1=true:=by
  rw [peq];exact qus (fun x=>by rw [peq];exact decide_eq_true rfl) _
 exact absurd (this.symm.trans k) (by decide)
def qXu (s:qMc):Prop:=(1≤s.1∧s.1≤15)∧(s.2.1.length=6∧∀x∈s.2.1,0≤x∧x≤192)∧(s.2.2.1.length=8∧∀x∈s.2.2.1,-2047≤x∧x≤2047)∧(0≤s.2.2.2.1∧s.2.2.2.1≤4095)∧qWR s.2.2.2.2.2.1
theorem qpN {l N:Int} {p:qia} (h:WfP l N p) (b9a:Int) (b9 b10:(Int×(Int×(qxc×Unit)))) {nd:Int} (hn:1≤nd∧nd≤15) (h11 h12:List Int):∀i:Int,0≤i→i≤6→∀(h13 h14:List Int),(h13.length=i.toNat∧∀x∈h13,0≤x∧x≤192)→(h14.length=i.toNat∧∀x∈h14,-2047≤x∧x≤2047)→
  Tot (qbe p.2.2.1 6 i p b9a b9 nd b10 h11 h12 h13 h14) qXu:=by
 obtain ⟨h1,h2,h3,h4,h5,h6⟩:=h
 have hl3:=h3.1
 have hl4:=h4.1
 have hw:=h5.2.2.2.2.1
 intro i
 refine qld (P:=fun i=>0≤i→i≤6→∀(h13 h14:List Int),(h13.length=i.toNat∧∀x∈h13,0≤x∧x≤192)→(h14.length=i.toNat∧∀x∈h14,-2047≤x∧x≤2047)→Tot (qbe p.2.2.1 6 i p b9a b9 nd b10 h11 h12 h13 h14) qXu) 6 ?_ ?_ i
 ·intro i hi h0 h06 h13 h14 k13 k14
  rw [qcg]
  have e6:i.toNat=6:=by omega
  rw [e6] at k13 k14
  refine uc (by omega) (Tot.b (qHs h5.2.2.2.1 h2.1 hw) (fun m hm=>?_))
  have hL:(h14++[m.1,256]).length=8:=by rw [wn,k14.1];rfl
  have hA:∀x∈h14++[m.1,256],-2047≤x∧x≤2047:=by
   intro x hx
   rcases wba.1 hx with q|q
   ·exact k14.2 x q
   ·rcases wZ.1 q with rfl|q
    ·exact hm
    ·rw [wU.1 q];omega
  refine ua (by rw [hL];decide) (Tot.b (qvx h5.1 (by have:=hw.1;omega) hw.2 hL hA) (fun x hx=>Tot.b (qxo h2.1) (fun y _=>Tot.b (qRu _ _ hw.1 hw.2) (fun z hz=>?_))))
  obtain ⟨c,hz1,hz2⟩:=hz
  rw [hz1]
  exact Tot.b (qtE h5.2.1 ⟨by have:=hw.1;omega,hw.2⟩ hz2 ⟨hx.1,hx.2.1⟩ ⟨hx.2.2.1,hx.2.2.2⟩) (fun t ht=>ub ⟨hn,k13,⟨hL,hA⟩,⟨hx.2.2.1,hx.2.2.2⟩,ht⟩)
 ·intro i hi ih h0 h06 h13 h14 k13 k14
  rw [qcg]
  simp only [wj]
  have hd:=qPa (P:=qao l) (d:=qra qEa) h3.2 i.toNat (by omega)
  have ha:=qPa (P:=qpF) (d:=qra qDa) h4.2 i.toNat (by omega)
  have hs:=h5.2.2.2.2.2.at hd.2.1 i.toNat
  rw [w64 (x:=i+1) (by omega) (by omega)]
  refine uf (by omega) (ua h0 (ua (by omega) (ua h0 (ua (by omega) (Tot.b (qjr hd hs.1 hs.2 hn.1 hn.2) (fun r hr=>ua h0 (ua (by omega) (Tot.b (qeF ha hr.2.1 hr.2.2) (fun q hq=>ua ?_ (ua (by decide) (Tot.b (qWC _) (fun s hs'=>ua ?_ ?_))))))))))))
  ·rw [wn,wy];omega
  ·rw [wn,wy];omega
  ·exact ih (by omega) (by omega) _ _ ⟨by rw [wn,wy];omega,qDj k13.2 hr.2⟩ ⟨by rw [wn,wy];omega,qDj k14.2 hs'⟩
theorem qfS {l N:Int} {p:qia} (h:WfP l N p):Tot (qvi p) qXu:=by
 rw [qJq]
 have e:wi p.2.2.1.length=6:=by rw [h.2.2.1.1];rfl
 rw [e]
 exact Tot.b (qxs h.2.2.2.2.1.2.2.2.2.1) (fun r hr=>qpN h _ _ _ hr _ _ 0 (by omega) (by omega) [] [] ⟨rfl,fun x hx=>by cases hx⟩ ⟨rfl,fun x hx=>by cases hx⟩)
theorem qXB {l N:Int} {g:qeb} {b:qoP} {h2:List qqa} {r:qia×List qta×List qqa} (h:qtO l l g b h2 r) (hg:qBe l g∧g.2.2.1≤N) (ha:qcK h2)
  (hb:qXr b.1∧qQC b.2.1∧qYp l b.2.2.1∧qbo b.2.2.2.1∧qWu b.2.2.2.2.1) (hc:qgg g=some (b.2.2.2.2.2.1,0)):WfP l N (r.1.1,(r.1.2.1,(r.2.1,(r.2.2,r.1.2.2.2.2)))):=by
 obtain ⟨e1,e2,t,e4,e5,e6,e7,e8,e9,e10,s⟩:=h
 refine ⟨e1,?_,t,?_,⟨?_,?_,?_,?_,?_,s⟩,?_⟩
 ·simp only;rw [e2];exact hg
 ·simp only;rw [e4];exact ha
 ·simp only;rw [e5];exact hb.1
 ·simp only;rw [e6];exact hb.2.1
 ·simp only;rw [e7];exact hb.2.2.1
 ·simp only;rw [e8];exact hb.2.2.2.1
 ·simp only;rw [e9];exact hb.2.2.2.2
 ·simp only;rw [e2,e10];exact hc
def qsQ (l N:Int) (r:qia×Int):Prop:=r.2=0∧WfP l N r.1
theorem qrF {l N:Int} (v:List Int) (g:qeb) (m:qza) (f:qSa) (b:(qIa×(qgc×(qua×((List Int)×((List Int)×Unit)))))) (w:qua)
  (b10a b10baa:Int) (b10babb:qua) (u1 u2 u3 u4:Unit) (b10bbbbbbaa:Int) (u5:Unit) (b10bbbbbbb:(qgc×(qua×((List Int)×((List Int)×Unit)))))
  (h12:List qta) (h13:List qqa) (h14:List Int) (h15:List qta) (h16:List qqa) (h17 h18 h19:List (List Int)) (h20:List Int)
  (hg:qBe l g∧g.2.2.1≤N) (ht:qjt l h12) (ha:qcK h13) (hr:qFI l (m,(f,b))) (hc:qgg g=some (b.2.2.2.1,0)):∀i:Int,0≤i→∀b11:List Int,
  Tot (qre v i l g m f b b10a b10baa b10babb u1 u2 u3 u4 b10bbbbbbaa u5 b10bbbbbbb w b11 h12 h13 h14 h15 h16 h17 h18 h19 h20) (qsQ l N):=by
 intro i
 refine qld (P:=fun i=>0≤i→∀b11:List Int,Tot (qre v i l g m f b b10a b10baa b10babb u1 u2 u3 u4 b10bbbbbbaa u5 b10bbbbbbb w b11 h12 h13 h14 h15 h16 h17 h18 h19 h20) (qsQ l N)) 6 ?_ ?_ i
 ·intro i hi h0 b11
  rw [qHj]
  refine uc (by omega) (Tot.b (qYL b11 l g h13 (m,(f,b)) h12 ht hr.2.2.2.2.2) (fun r hq=>ub ⟨rfl,qXB hq hg ha ⟨hr.1,hr.2.1,hr.2.2.1,hr.2.2.2.1,hr.2.2.2.2.1⟩ hc⟩))
 ·intro i hi ih h0 b11
  rw [qHj,w64 (x:=i+1) (by omega) (by omega)]
  exact uf (by omega) (ua h0 (ua (by omega) (Tot.b (qfA _ _) (fun r _=>ua h0 (ua (by omega) (ih (by omega) _))))))
theorem qfw {l N:Int} (v2:Bool) {v8:Int} (h8:v8=0∨v8=1) (g:qeb) (b:qoP) (s:qMc)
  (b10a b10baa:Int) (b10babb:qua) (u1 u2 u3 u4:Unit) (b10bbbbbbaa:Int) (u5:Unit) (b10bbbbbbb:(qgc×(qua×((List Int)×((List Int)×Unit)))))
  (h13:List Int) (h14:List qta) (h15:List qqa) (h16 h17 h18:List (List Int)) (h19:List Int)
  (hg:qBe l g∧g.2.2.1≤N) (hN:N<1073741824) (hb:qFI l b) (hc:qgg g=some (b.2.2.2.2.2.1,0)) (hs:qXu s):∀i:Int,0≤i→∀(h11:List qta) (h12:List qqa),qjt l h11→qcK h12→
  Tot (qod v2 v8 b.2.2.2.2.1.1 i l g b s b10a b10baa b10babb u1 u2 u3 u4 b10bbbbbbaa u5 b10bbbbbbb h11 h12 h13 h14 h15 h16 h17 h18 h19) (qsQ l (N+1)):=by
 obtain ⟨s1,s2,s3,s4,s5⟩:=hs
 obtain ⟨b1,b2,b3,b4,b5,b6⟩:=hb
 intro i
 refine qld (P:=fun i=>0≤i→∀(h11:List qta) (h12:List qqa),qjt l h11→qcK h12→Tot (qod v2 v8 b.2.2.2.2.1.1 i l g b s b10a b10baa b10babb u1 u2 u3 u4 b10bbbbbbaa u5 b10bbbbbbb h11 h12 h13 h14 h15 h16 h17 h18 h19) (qsQ l (N+1))) 6 ?_ ?_ i
 ·intro i hi h0 h11 h12 t a
  rw [qIj]
  have w0:=b5.1
  have w1:=b5.2
  refine uc (by omega) (Tot.b (qyB b1 (by omega) w1 s3.1 s3.2 s4.1 s4.2 v2) (fun r7 k7=>Tot.b (qaC b2 s5 v2) (fun r8 k8=>Tot.b (quB b5 v2) (fun r9 k9=>uk (fun _=>?_) (fun _=>?_)))))
  ·refine Tot.b (qQD b4 hg.1 b3 k9.2 (by omega)) (fun r10 k10=>ue k10.1 ?_)
   obtain ⟨z1,z2,z3,z4,z5⟩:=k10
   obtain ⟨q,e,hq⟩:=qUu z3
   refine ud e ?_
   refine Tot.b (qYL q.1 l r10.2.1 h12 (r7.1,(r8.1,(r10.2.2.1,(r10.1,(r9.1,(q.1,b.2.2.2.2.2.2)))))) h11 t b6) (fun r12 k12=>ub ⟨rfl,?_⟩)
   exact qXB k12 ⟨z3,by rw [z4];omega⟩ a ⟨k7.2,k8.2,z5,z2,k9.1⟩ (by rw [e];exact congrArg some (wrb rfl hq))
  ·refine ug (fun _=>?_) (fun _=>ug (fun _=>?_) (fun _=>?_))
   ·exact ub ⟨rfl,rfl,⟨hg.1,by simp only;omega⟩,t,a,⟨k7.2,k8.2,b3,b4,k9.1,b6⟩,hc⟩
   ·exact ub ⟨rfl,rfl,⟨hg.1,by simp only;omega⟩,t,a,⟨k7.2,k8.2,b3,b4,k9.1,b6⟩,hc⟩
   ·exact qrF _ g r7.1 r8.1 (b.2.2.1,(b.2.2.2.1,(r9.1,b.2.2.2.2.2))) r9.1 b10a b10baa b10babb u1 u2 u3 u4 b10bbbbbbaa u5 b10bbbbbbb h11 h12 h13 h14 h15 h16 h17 h18 h19 ⟨hg.1,by omega⟩ t a ⟨k7.2,k8.2,b3,b4,k9.1,b6⟩ hc 0 (by omega) _
 ·intro i hi ih h0 h11 h12 t a
  rw [qIj]
  simp only [wj]
  have hl1:=t.1
  have hl2:=a.1
  have hl3:=s2.1
  have hd:=qPa (P:=qao l) (d:=qra qEa) t.2 (0+i.toNat) (by omega)
  have ha:=qPa (P:=qpF) (d:=qra qDa) a.2 (0+i.toNat) (by omega)
  have hst:=qPa (P:=fun x=>0≤x∧x≤192) (d:=0) s2.2 i.toNat (by omega)
  have hsl:=b6.at hd.2.1 i.toNat
  rw [w64 (x:=i+1) (by omega) (by omega)]
  refine uf (by omega) (ua h0 (ua (by omega) (ua h0 (ua (by omega) (Tot.b (qnA ha hst.1 hst.2 h8) (fun r5 k5=>ua h0 (ua (by omega) (ua h0 (ua (by omega) (ua h0 (ua (by omega) (Tot.b (qAF hd hsl.1 hsl.2 s1.1 s1.2 h8) (fun r6 k6=>ua h0 (ua (by omega) ?_))))))))))))))
  exact ih (by omega) _ _ ⟨by rw [wia];exact hl1,qHf t.2 k6.2 _⟩ ⟨by rw [wia];exact hl2,qHf a.2 k5.2 _⟩
theorem qUA {l N:Int} {p:qia} (h:WfP l N p) (hN:N<1073741824) {s:qMc} (hs:qXu s) (b:Bool):Tot (qNi p s b) (qsQ l (N+1)):=by
 obtain ⟨h1,h2,h3,h4,h5,h6⟩:=h
 rw [qEt,h1]
 have k1:=qEj p.2.2.1 (by rw [h3.1];decide)
 have k2:=qFj p.2.2.2.1 (by rw [h4.1];decide)
 refine uk (fun _=>ud k1 (ud k2 ?_)) (fun _=>ud k1 (ud k2 ?_))
 ·exact qfw b (Or.inr rfl) p.2.1 p.2.2.2.2 s _ _ _ _ _ _ _ _ _ _ _ _ _ _ _ _ _ h2 hN h5 h6 hs 0 (by omega) _ _ h3 h4
 ·exact qfw b (Or.inl rfl) p.2.1 p.2.2.2.2 s _ _ _ _ _ _ _ _ _ _ _ _ _ _ _ _ _ h2 hN h5 h6 hs 0 (by omega) _ _ h3 h4
theorem qJK (l:List (List Int)) (hl:l.length≤1048576) (hr:∀r∈l,r.length≤1048576):qej l=some l:=by
 have key:∀i:Int,0≤i→i≤l.length→Tot (qLf l l.length i (l.take i.toNat)) fun r=>r=l:=by
  intro i
  refine qld (P:=fun i=>0≤i→i≤l.length→Tot (qLf l l.length i (l.take i.toNat)) fun r=>r=l) l.length ?_ ?_ i
  ·intro i hi h0 h1
   rw [qtl]
   exact uc (by omega) (ub (wQ (by omega)))
  ·intro i hi ih h0 h1
   rw [qtl]
   simp only [wj]
   have hd:=qPa (P:=fun r:List Int=>r.length≤1048576) (d:=[]) hr i.toNat (by omega)
   rw [w64 (x:=i+1) (by omega) (by omega)]
   refine uf (by omega) (ua h0 (ua (by omega) (ud (qdb _ hd) (ua (by rw [wn,wy,wM];omega) ?_))))
   have e:l.take i.toNat++[l.getD i.toNat []]=l.take (i+1).toNat:=by
    have e2:(i+1).toNat=i.toNat+1:=by omega
    rw [e2,List.take_succ_eq_append_getElem (by omega),wu,wx (by omega)]
    rfl
   rw [e]
   exact ih (by omega) (by omega)
 rw [qZw]
 exact Tot.eq (key 0 (by omega) (by omega))
theorem qsK {l:Int} (t:List qta) (a:List qqa) (ht:qjt l t) (ha:qcK a) (b8a b8baa:Int) (b8babb:qua) (m:qza) (f:qSa) (hm:qXr m) (hf:qQC f) (b8bbbbbbaa:Int) (u:Unit) (b8bbbbbbb:(qgc×(qua×((List Int)×((List Int)×Unit)))))
  (b10a b10baa:Int) (b10babb:qua) (u1 u2 u3 u4:Unit) (b10bbbbbbaa:Int) (u5:Unit) (b10bbbbbbb:(qgc×(qua×((List Int)×((List Int)×Unit)))))
  (h10 h13 h14:List Int) (h15:List qta) (h16:List qqa) (h17 h18 h19:List (List Int)) (h20:List Int):∀i:Int,0≤i→
  Tot (qKf 6 i b8a b8baa b8babb m f b8bbbbbbaa u b8bbbbbbb b10a b10baa b10babb u1 u2 u3 u4 b10bbbbbbaa u5 b10bbbbbbb h10 t a h13 h14 h15 h16 h17 h18 h19 h20) fun r=>r=(b8a,((b8baa,(h10,b8babb)),(t,(a,(m,(f,((b8bbbbbbaa,(h13,u)),b8bbbbbbb))))))):=by
 intro i
 refine qld (P:=fun i=>0≤i→Tot (qKf 6 i b8a b8baa b8babb m f b8bbbbbbaa u b8bbbbbbb b10a b10baa b10babb u1 u2 u3 u4 b10bbbbbbaa u5 b10bbbbbbb h10 t a h13 h14 h15 h16 h17 h18 h19 h20) fun r=>r=(b8a,((b8baa,(h10,b8babb)),(t,(a,(m,(f,((b8bbbbbbaa,(h13,u)),b8bbbbbbb)))))))) 6 ?_ ?_ i
 ·intro i hi h0
  rw [qsl]
  refine uc (by omega) (ud (qJK _ (by rw [hm.1];decide) (fun r hr=>by rw [hm.2 r hr];decide)) (ud (qJK _ (by rw [hf.1.1];decide) (fun r hr=>by rw [(hf.1.2 r hr).1];decide)) (ud (qJK _ (by rw [hf.2.1];decide) (fun r hr=>by rw [(hf.2.2 r hr).1];decide)) (ub rfl))))
 ·intro i hi ih h0
  rw [qsl]
  simp only [wj]
  have hl1:=ht.1
  have hl2:=ha.1
  have hd:=qPa (P:=qao l) (d:=qra qEa) ht.2 (0+i.toNat) (by omega)
  have hq:=qPa (P:=qpF) (d:=qra qDa) ha.2 (0+i.toNat) (by omega)
  have hp:=qbx hd.2.1.1 hd.2.1.2
  have hd2:=hd.2.2.1
  rw [w64 (x:=i+1) (by omega) (by omega)]
  refine uf (by omega) (ua h0 (ua (by omega) (ud (qQg _ (by omega)) (ua h0 (ua (by omega) (ua h0 (ua (by omega) (ud (qdb _ (by rw [hq.2.1.1];decide)) (ua h0 (ua (by omega) (ud (qdb _ (by rw [hq.2.2.1];decide)) (ua h0 (ua (by omega) (ua h0 (ua (by omega) ?_)))))))))))))))
  have s1:=qlH t (0+i.toNat) (qra qEa)
  have s2:=qlH a (0+i.toNat) (qra qDa)
  have s1':t.set (0+i.toNat) ((t.getD (0+i.toNat) (qra qEa)).1,((t.getD (0+i.toNat) (qra qEa)).2.1,(t.getD (0+i.toNat) (qra qEa)).2.2))=t:=s1
  have s2':a.set (0+i.toNat) ((a.getD (0+i.toNat) (qra qDa)).1,((a.getD (0+i.toNat) (qra qDa)).2.1,(a.getD (0+i.toNat) (qra qDa)).2.2))=a:=s2
  have s3':a.set (0+i.toNat) ((a.getD (0+i.toNat) (qra qDa)).1,((a.getD (0+i.toNat) (qra qDa)).2.1,((a.getD (0+i.toNat) (qra qDa)).2.2.1,(a.getD (0+i.toNat) (qra qDa)).2.2.2)))=a:=s2
  rw [s1',s2',s3']
  exact ih (by omega)
theorem qxO {l N:Int} {p:qia} (h:WfP l N p):qZo p=some p:=by
 obtain ⟨h1,h2,h3,h4,h5,h6⟩:=h
 have hp:=qJu h2.1.2.1.1 h2.1.2.1.2
 have e1:=h2.1.2.2.1
 have e2:=h5.2.2.1.2.2.1
 rw [qYw]
 refine Tot.eq (ud (qic _ (by omega)) (ud (qni _ (by omega)) (ud (qEj _ (by rw [h3.1];decide)) (ud (qFj _ (by rw [h4.1];decide)) ?_))))
 have e:wi p.2.2.1.length=6:=by rw [h3.1];rfl
 rw [e]
 exact Tot.mono (qsK p.2.2.1 p.2.2.2.1 h3 h4 _ _ _ _ _ h5.1 h5.2.1 _ _ _ _ _ _ _ _ _ _ _ _ _ _ _ _ _ _ _ _ _ _ 0 (by omega)) (fun r hr=>hr)
def qIS (l N:Int) (n:Nat) (r:qia×List Int×Int):Prop:=r.2.2=0∧WfP l N r.1∧r.2.1.length=n
theorem qnO {l N:Int} (v:List Bool) (hv:v.length≤2000) (hN:N+v.length<1073741824) (b9a b9baa:Int) (b9babb:qua) (u1 u2 u3 u4:Unit) (b9bbbbbbaa:Int) (u5:Unit) (b9bbbbbbb:(qgc×(qua×((List Int)×((List Int)×Unit)))))
  (h11:List Int) (h12:List qta) (h13:List qqa) (h14 h15 h16:List (List Int)) (h17:List Int):∀i:Int,0≤i→i≤v.length→∀(p:qia) (h10:List Int),WfP l (N+i) p→h10.length=i.toNat→
  Tot (qce v v.length i p b9a b9baa b9babb u1 u2 u3 u4 b9bbbbbbaa u5 b9bbbbbbb h10 h11 h12 h13 h14 h15 h16 h17) (qIS l (N+v.length) v.length):=by
 intro i
 refine qld (P:=fun i=>0≤i→i≤v.length→∀(p:qia) (h10:List Int),WfP l (N+i) p→h10.length=i.toNat→Tot (qce v v.length i p b9a b9baa b9babb u1 u2 u3 u4 b9bbbbbbaa u5 b9bbbbbbb h10 h11 h12 h13 h14 h15 h16 h17) (qIS l (N+v.length) v.length)) v.length ?_ ?_ i
 ·intro i hi h0 h1 p h10 hp hh
  rw [qdg]
  have e:i=(v.length:Int):=by omega
  rw [e] at hp
  exact uc (by omega) (ub ⟨rfl,hp,by simp only;omega⟩)
 ·intro i hi ih h0 h1 p h10 hp hh
  rw [qdg]
  simp only [wj]
  rw [w64 (x:=i+1) (by omega) (by omega)]
  refine uf (by omega) (ua h0 (ua (by omega) (Tot.b (qfS hp) (fun s hs=>Tot.b (qUA hp (by omega) hs _) (fun r hr=>ue hr.1 (ua (by rw [wn,wy];omega) ?_))))))
  exact ih (by omega) (by omega) r.1 _ (by have:=hr.2;rw [Int.add_assoc] at this;exact this) (by rw [wn,wy];omega)
theorem qHS {l N:Int} {p:qia} (h:WfP l N p) (v:List Bool) (hv:v.length≤2000) (hN:N+v.length<1073741824):Tot (qyk p v) (qIS l (N+v.length) v.length):=by
 rw [qKq]
 simp only [wj]
 refine ud (qzk h) (ue rfl (uc (by omega) (ud (qxO h) ?_)))
 exact qnO v hv hN _ _ _ _ _ _ _ _ _ _ _ _ _ _ _ _ _ 0 (by omega) (by omega) p [] (by rw [Int.add_zero];exact h) rfl
theorem qqP:∀n∈([8,64,128,193,256,512,1024,2048,4096,8192]:List Int),qeg (wd .u64 1) (wd .u64 n)=some (0,n):=by
 intro n hn
 simp only [wZ,List.not_mem_nil,or_false] at hn
 rw [qmo,qzl,qfa (by decide),qfa (by decide),qfa (by decide),qfa (by decide),qfa (by decide),wq]
 rcases hn with rfl|rfl|rfl|rfl|rfl|rfl|rfl|rfl|rfl|rfl <;> exact congrArg some (by kernel_rfl)
theorem qkw {α:Type} (l:List α) (v c:Nat) (hv:v+c≤l.length) (hc:c≤v):(qsb l v (wL c (wL v l))).take (v+c)=l.take v++l.take c∧(qsb l v (wL c (wL v l))).length=l.length:=by
 have e:wL c (wL v l)=l.take c:=by rw [List.take_take,wfb hc]
 rw [e]
 unfold qsb
 have h1:(l.take v++l.take c).length=v+c:=by rw [wn,wM,wM];omega
 constructor
 ·rw [wNa (by omega),wQ (by omega)]
 ·rw [wn,h1,wS,wM];omega
theorem qkD (x:Int) (n:Nat) (hn:n≤1048576):∀(m:Nat) (v:Nat) (h:List Int),n - v≤m→1≤v→v≤n→h.length=n→(∀y∈h.take v,y=x)→Tot (qUc v h) fun r=>r.length=n∧∀y∈r,y=x:=by
 intro m
 induction m with
 |zero=>
  intro v h hm h1 h2 hl ha
  rw [qAf]
  simp only [wj]
  refine uc (by omega) (ub ⟨hl,?_⟩)
  rw [wQ (by omega)] at ha
  exact ha
 |succ m ih=>
  intro v h hm h1 h2 hl ha
  rw [qAf]
  simp only [wj]
  refine ug (fun hlt=>?_) (fun hge=>ub ⟨hl,?_⟩)
  ·have e1:(v:Int).toNat=v:=wv v
   rw [e1,Nat.sub_zero,wea,wJ]
   have e2:min (wL v h).length (h.length - v)=min v (n - v):=by rw [wM];omega
   rw [e2]
   have e3:=qkw h v (min v (n - v)) (by omega) (by omega)
   rw [w64 (by omega) (by omega)]
   have e4:(v:Int)+((min v (n - v):Nat):Int)=((v+min v (n - v):Nat):Int):=by omega
   rw [e4]
   refine ua (by omega) (ua (by omega) (ua (by omega) (ua (by omega) (ih _ _ (by omega) (by omega) (by omega) (by rw [e3.2,hl]) ?_))))
   rw [e3.1]
   intro y hy
   rcases wba.1 hy with q|q
   ·exact ha y q
   ·refine ha y ?_
    have:h.take (min v (n - v))=(h.take v).take (min v (n - v)):=by rw [List.take_take,wfb (Nat.min_le_left _ _)]
    rw [this] at q
    exact List.mem_of_mem_take q
  ·rw [wQ (by omega)] at ha
   exact ha
theorem qlD (x:Int) (n:Nat) (hn:n≤1048576):∀(m:Nat) (v:Nat) (h:List Int),n - v≤m→1≤v→v≤n→h.length=n→(∀y∈h.take v,y=x)→Tot (qoc v h) fun r=>r.length=n∧∀y∈r,y=x:=by
 intro m
 induction m with
 |zero=>
  intro v h hm h1 h2 hl ha
  rw [qme]
  simp only [wj]
  refine uc (by omega) (ub ⟨hl,?_⟩)
  rw [wQ (by omega)] at ha
  exact ha
 |succ m ih=>
  intro v h hm h1 h2 hl ha
  rw [qme]
  simp only [wj]
  refine ug (fun hlt=>?_) (fun hge=>ub ⟨hl,?_⟩)
  ·have e1:(v:Int).toNat=v:=wv v
   rw [e1,Nat.sub_zero,wea,wJ]
   have e2:min (wL v h).length (h.length - v)=min v (n - v):=by rw [wM];omega
   rw [e2]
   have e3:=qkw h v (min v (n - v)) (by omega) (by omega)
   rw [w64 (by omega) (by omega)]
   have e4:(v:Int)+((min v (n - v):Nat):Int)=((v+min v (n - v):Nat):Int):=by omega
   rw [e4]
   refine ua (by omega) (ua (by omega) (ua (by omega) (ua (by omega) (ih _ _ (by omega) (by omega) (by omega) (by rw [e3.2,hl]) ?_))))
   rw [e3.1]
   intro y hy
   rcases wba.1 hy with q|q
   ·exact ha y q
   ·refine ha y ?_
    have:h.take (min v (n - v))=(h.take v).take (min v (n - v)):=by rw [List.take_take,wfb (Nat.min_le_left _ _)]
    rw [this] at q
    exact List.mem_of_mem_take q
  ·rw [wQ (by omega)] at ha
   exact ha
theorem qnD (x:Int) {n:Nat} (hn:1≤n):(qsb (wl n 0) 0 (wL (min [x].length (wl n (0:Int)).length) [x])).length=n∧∀y∈(qsb (wl n 0) 0 (wL (min [x].length (wl n (0:Int)).length) [x])).take 1,y=x:=by
 have e:min [x].length (wl n (0:Int)).length=1:=by rw [wP];show min 1 n=1;omega
 rw [e]
 have e3:wL 1 [x]=[x]:=rfl
 rw [e3]
 constructor
 ·unfold qsb
  simp
  omega
 ·unfold qsb
  simp
theorem qMK (x:Int) (n:Nat) (hn:(n:Int)∈([8,64,128,193,256,512,1024,2048,4096,8192]:List Int)):Tot (qBf [x] n) fun r=>r.length=n∧∀y∈r,y=x:=by
 have hm:=qqP n hn
 have hb:8≤n∧n≤8192:=by
  simp only [wZ,List.not_mem_nil,or_false] at hn
  omega
 rw [qHm]
 have e1:(wi [x].length)=1:=rfl
 rw [e1]
 refine uc (by omega) (ud hm (uc (by simp only;omega) (uc (by simp only;omega) ?_)))
 simp only
 rw [w64 (x:=(n:Int)) (by omega) (by omega),wv]
 have hr:=qnD x (n:=n) (by omega)
 refine ua trivial (ua (by omega) (ua (by omega) (ua (by omega) ?_)))
 have e:wi (min [x].length (wl n (0:Int)).length)=((1:Nat):Int):=by rw [wP];show ((min 1 n:Nat):Int)=1;omega
 rw [e]
 exact qkD x n (by omega) _ 1 _ (ws _) (by omega) (by omega) hr.1 hr.2
theorem qmD (x:Int) (n:Nat) (hn:(n:Int)∈([8,64,128,193,256,512,1024,2048,4096,8192]:List Int)):Tot (qJc [x] n) fun r=>r.length=n∧∀y∈r,y=x:=by
 have hm:=qqP n hn
 have hb:8≤n∧n≤8192:=by
  simp only [wZ,List.not_mem_nil,or_false] at hn
  omega
 rw [qOj]
 have e1:(wi [x].length)=1:=rfl
 rw [e1]
 refine uc (by omega) (ud hm (uc (by simp only;omega) (uc (by simp only;omega) ?_)))
 simp only
 rw [w64 (x:=(n:Int)) (by omega) (by omega),wv]
 have hr:=qnD x (n:=n) (by omega)
 refine ua trivial (ua (by omega) (ua (by omega) (ua (by omega) ?_)))
 have e:wi (min [x].length (wl n (0:Int)).length)=((1:Nat):Int):=by rw [wP];show ((min 1 n:Nat):Int)=1;omega
 rw [e]
 exact qlD x n (by omega) _ 1 _ (ws _) (by omega) (by omega) hr.1 hr.2
theorem qOP {l:Int} (h0:0≤l) (h1:l≤7):∃n:Nat,plR l=n∧(n:Int)∈([8,64,128,193,256,512,1024,2048,4096,8192]:List Int):=by
 rcases qHQ h0 h1 with rfl|rfl|rfl|rfl|rfl|rfl|rfl|rfl
 ·exact ⟨64,by decide⟩
 ·exact ⟨128,by decide⟩
 ·exact ⟨256,by decide⟩
 ·exact ⟨512,by decide⟩
 ·exact ⟨1024,by decide⟩
 ·exact ⟨2048,by decide⟩
 ·exact ⟨4096,by decide⟩
 ·exact ⟨8192,by decide⟩
theorem qcJ {l:Int} (h0:0≤l) (h1:l≤7):Tot (qgB l) fun r=>r.2=0∧qBe l r.1∧r.1.2.2.1=0:=by
 have hp:=qJu h0 h1
 rw [qJw]
 refine uc (by omega) (uc (by omega) (ud (qls h0 h1) (ua rfl (ua (by omega) (ua (by omega) (ua (by omega) (ub ⟨rfl,⟨rfl,⟨h0,h1⟩,?_,?_,wSa 0,by show (0:Int)≤1073741824;decide,?_⟩,rfl⟩)))))))
 ·simp only [wP];omega
 ·intro x hx;rw [List.eq_of_mem_replicate hx];omega
 ·intro x hx;exact List.eq_of_mem_replicate (List.mem_of_mem_drop hx)
theorem qpE {l:Int} (h0:0≤l) (h1:l≤7):Tot (qYt l) fun r=>qYp l r.1:=by
 obtain ⟨n,hn,hm⟩:=qOP h0 h1
 rw [qWB]
 refine uc (by omega) (uc (by omega) (ud (qrp h0 h1) ?_))
 rw [hn]
 exact Tot.b (qMK (-1) n hm) (fun r hr=>ub ⟨rfl,⟨h0,h1⟩,by simp only;rw [hr.1,hn],fun x hx=>by rw [hr.2 x hx];omega⟩)
theorem qzF {l:Int} (h0:0≤l) (h1:l≤7):Tot (qxw l) fun r=>qao l r.1:=by
 have hp:=qbx h0 h1
 rw [qZC]
 refine uc (by omega) (uc (by omega) (ud (qzu h0 h1) (ua rfl (ua (by omega) (ua (by omega) (ua (by omega) (ub ⟨rfl,⟨h0,h1⟩,?_,?_⟩)))))))
 ·simp only [wP];omega
 ·intro s hs;rw [List.eq_of_mem_replicate hs];exact WfSlot.zero 0
theorem qTG:Tot (qSy 255) fun r=>qpF r.1:=by
 rw [qfF,w32 (x:=255) (by decide) (by decide)]
 refine uc (by decide) (uc (by decide) (Tot.b (qmD 32768 193 (by decide)) (fun r hr=>ua rfl (ua (by decide) (ua (by decide) (ua (by decide) (ub ⟨rfl,⟨hr.1,?_⟩,wP,?_⟩)))))))
 ·intro x hx;rw [hr.2 x hx];omega
 ·intro x hx;rw [List.eq_of_mem_replicate hx];omega
theorem qOw (u u':Unit) (h9:List Int) (hr:qPv h9) (h11:List (List Int)):∀i:Int,0≤i→i≤256→∀h12:List (List Int),h12.length=i.toNat→(∀r∈h12,qPv r)→Tot (qBh 256 i u h9 u' h11 h12) fun r=>qkt r.1:=by
 intro i
 refine qld (P:=fun i=>0≤i→i≤256→∀h12:List (List Int),h12.length=i.toNat→(∀r∈h12,qPv r)→Tot (qBh 256 i u h9 u' h11 h12) fun r=>qkt r.1) 256 ?_ ?_ i
 ·intro i hi h0 h1 h12 hl ha
  rw [qho]
  exact uc (by omega) (ub ⟨by simp only;omega,ha⟩)
 ·intro i hi ih h0 h1 h12 hl ha
  rw [qho,w64 (x:=i+1) (by omega) (by omega)]
  exact uf (by omega) (ud (qdb _ (by rw [hr.1];decide)) (ua (by rw [wn,wy];omega) (ih (by omega) (by omega) _ (by rw [wn,wy];omega) (qDj ha hr))))
theorem qPw (u:Unit) (h10:List (List Int)):∀i:Int,0≤i→i≤33→∀h9:List Int,h9.length=i.toNat→(∀x∈h9,0≤x∧x≤65535)→Tot (qCh 256 i u h9 h10) fun r=>qkt r.1:=by
 intro i
 refine qld (P:=fun i=>0≤i→i≤33→∀h9:List Int,h9.length=i.toNat→(∀x∈h9,0≤x∧x≤65535)→Tot (qCh 256 i u h9 h10) fun r=>qkt r.1) 33 ?_ ?_ i
 ·intro i hi h0 h1 h9 hl ha
  rw [qio]
  exact uc (by omega) (qOw u () h9 ⟨by omega,ha⟩ h10 0 (by omega) (by omega) [] rfl (fun r hr=>by cases hr))
 ·intro i hi ih h0 h1 h9 hl ha
  rw [qio,w32 (x:=i+1) (by omega) (by omega)]
  refine uf (by omega) (Tot.b (qbB _) (fun r hr=>ua (by rw [wn,wy];omega) ?_))
  rw [w32 (x:=16*r) (by omega) (by omega)]
  exact ih (by omega) (by omega) _ (by rw [wn,wy];omega) (qDj ha ⟨by omega,by omega⟩)
theorem qHu:Tot (qAt 256) fun r=>qkt r.1:=by
 rw [qiB]
 exact uc (by decide) (uc (by decide) (qPw () [] 0 (by decide) (by decide) [] rfl (fun x hx=>by cases hx)))
theorem qpG:Tot qiy qQC:=by
 rw [qrE]
 exact Tot.b qHu (fun r hr=>Tot.b qHu (fun q hq=>ub ⟨hr,hq⟩))
theorem quz (u u':Unit) (h10:List (List Int)):∀i:Int,0≤i→i≤256→∀h11:List (List Int),h11.length=i.toNat→(∀r∈h11,r.length=8)→Tot (qij 16384 256 i u u' h10 h11) fun r=>qXr r.1:=by
 intro i
 refine qld (P:=fun i=>0≤i→i≤256→∀h11:List (List Int),h11.length=i.toNat→(∀r∈h11,r.length=8)→Tot (qij 16384 256 i u u' h10 h11) fun r=>qXr r.1) 256 ?_ ?_ i
 ·intro i hi h0 h1 h11 hl ha
  rw [qcp]
  exact uc (by omega) (ub ⟨by simp only;omega,ha⟩)
 ·intro i hi ih h0 h1 h11 hl ha
  rw [qcp,w64 (x:=i+1) (by omega) (by omega),qwr]
  refine uf (by omega) (Tot.b (Tot.b (qmD 16384 8 (by decide)) (fun r hr=>ub hr)) (fun r hr=>ua (by rw [wn,wy];omega) (ih (by omega) (by omega) _ (by rw [wn,wy];omega) (qDj ha hr.1))))
theorem qYF:Tot (qux 256 16384) fun r=>qXr r.1:=by
 rw [qND]
 exact uc (by decide) (uc (by decide) (quz () () [] 0 (by decide) (by decide) [] rfl (fun x hx=>by cases hx)))
theorem qrO {l:Int} (hl0:0≤l) (hl1:l≤7) (b8a b8baa:Int) (b8babb:qua) (u1 u2 u3 u4:Unit) (b8bbbbbbaa:Int) (u5:Unit) (b8bbbbbbb:(qgc×(qua×((List Int)×((List Int)×Unit)))))
  (g:qeb) (b:qoP) (hg:qBe l g∧g.2.2.1=0) (hb:qFI l b) (h11:List Int) (h12:List qta) (h13:List qqa) (h14 h15 h16:List (List Int)) (h17:List Int):∀i:Int,0≤i→i≤6→∀(h18:List qta) (h19:List qqa),(h18.length=i.toNat∧∀t∈h18,qao l t)→(h19.length=i.toNat∧∀t∈h19,qpF t)→
  Tot (qxg l i b8a b8baa b8babb u1 u2 u3 u4 b8bbbbbbaa u5 b8bbbbbbb g l g b h11 h12 h13 h14 h15 h16 h17 h18 h19) (qsQ l 0):=by
 intro i
 refine qld (P:=fun i=>0≤i→i≤6→∀(h18:List qta) (h19:List qqa),(h18.length=i.toNat∧∀t∈h18,qao l t)→(h19.length=i.toNat∧∀t∈h19,qpF t)→Tot (qxg l i b8a b8baa b8babb u1 u2 u3 u4 b8bbbbbbaa u5 b8bbbbbbb g l g b h11 h12 h13 h14 h15 h16 h17 h18 h19) (qsQ l 0)) 6 ?_ ?_ i
 ·intro i hi h0 h1 h18 h19 t a
  rw [qKm]
  have e6:i.toNat=6:=by omega
  rw [e6] at t a
  obtain ⟨q,e,hq⟩:=qUu hg.1
  refine uc (by omega) (ud e ?_)
  refine Tot.b (qYL q.1 l g h19 (b.1,(b.2.1,(b.2.2.1,(b.2.2.2.1,(b.2.2.2.2.1,(q.1,b.2.2.2.2.2.2)))))) h18 t hb.2.2.2.2.2) (fun r12 k12=>ub ⟨rfl,?_⟩)
  exact qXB k12 ⟨hg.1,by rw [hg.2];decide⟩ a ⟨hb.1,hb.2.1,hb.2.2.1,hb.2.2.2.1,hb.2.2.2.2.1⟩ (by rw [e];exact congrArg some (wrb rfl hq))
 ·intro i hi ih h0 h1 h18 h19 t a
  rw [qKm,w64 (x:=i+1) (by omega) (by omega)]
  refine uf (by omega) (Tot.b (qzF hl0 hl1) (fun r7 k7=>Tot.b qTG (fun r8 k8=>ua ?_ (ua ?_ ?_))))
  ·rw [wn,wy];omega
  ·rw [wn,wy];omega
  ·exact ih (by omega) (by omega) _ _ ⟨by rw [wn,wy];omega,qDj t.2 k7⟩ ⟨by rw [wn,wy];omega,qDj a.2 k8⟩
theorem qMR (l:Int):Tot (qqr l) fun r=>r.2=0→WfP l 0 r.1:=by
 rw [qlz]
 by_cases hl:0≤l∧l≤7
 ·obtain ⟨hl0,hl1⟩:=hl
  refine Tot.b (qcJ hl0 hl1) (fun r1 k1=>ue k1.1 (Tot.b qpG (fun r2 k2=>ud qip (ud qys (Tot.b (qpE hl0 hl1) (fun r5 k5=>Tot.b qYF (fun r6 k6=>?_)))))))
  refine Tot.mono (qrO hl0 hl1 _ _ _ _ _ _ _ _ _ _ r1.1 (r6.1,(r2,(r5.1,((-1,(0,())),((1,()),((wl 6 0),((wl 6 0),()))))))) k1.2 ⟨k6,k2,k5,Or.inl ⟨rfl,rfl⟩,⟨wSa 1,by show (1:Int)≤255;decide⟩,WfSl.zero ⟨hl0,hl1⟩⟩ _ _ _ _ _ _ _ 0 (by omega) (by omega) [] [] ⟨rfl,fun x hx=>by cases hx⟩ ⟨rfl,fun x hx=>by cases hx⟩) (fun r hr _=>hr.2)
 ·refine Tot.b (P:=fun r=>r.2≠0) ?_ (fun r hr=>uz hr (ub (fun h=>absurd h (by decide))))
  rw [qJw]
  by_cases h0:l<0
  ·exact uf h0 (ub (by decide))
  ·exact uc h0 (uf (by omega) (ub (by decide)))
def WfEnc (e:qAa):Prop:=(0≤e.1∧e.1<4294967296)∧(0≤e.2.1∧e.2.1<4294967296)∧Bts e.2.2.1
theorem qGN {y:Int} (h0:0≤y) (h1:y<4294967296) (hm:y%256=0):qrc .u32 y 255=y+255:=by
 have e:qrc .u32 y 255=((wF 32 y ||| wF 32 255).toNat:Int):=by
  show wd .u32 ((wF 32 y ||| wF 32 255).toNat:Int)=_
  rw [qXy]
  have:=(wF 32 y ||| wF 32 255).isLt
  omega
 rw [e,BitVec.toNat_or,qde 32 y h0 (by omega),qde 32 255 (by omega) (by omega)]
 have h2:y.toNat=2 ^ 8*(y.toNat/256):=by omega
 have h3:(255:Int).toNat=255:=rfl
 rw [h3,h2,←Nat.two_pow_add_eq_or_of_lt (by decide:255<2 ^ 8)]
 omega
theorem qvp (e:qAa):Tot (qWj e) fun r=>r=0→(e.2.2.1.length:Int)≤20000:=by
 rw [qEv]
 simp only [wj]
 exact ug (fun _=>ub (fun k=>absurd k (by decide))) (fun _=>ua (by decide) (ua (by decide) (ul (fun _=>ub (fun k=>absurd k (by decide))) (fun _=>ug (fun _=>ub (fun k=>absurd k (by decide))) (fun k=>ub (fun _=>by omega))))))
theorem qRz (a:Int):Tot (qqj a) fun _=>True:=by
 rw [qup]
 exact ug (fun _=>ub trivial) (fun _=>ub trivial)
theorem qmy (a b c:Int):Tot (qOh a b c) fun r=>0≤r∧r<4294967296:=by
 rw [qto]
 exact ua (by decide) (ua (by decide) (ub (qwO _)))
theorem qwH (u:Unit):∀(k m:Nat),k+m=4→∀(a b:Int) (h:List Int),0≤a→a<4294967296→0≤b→b<4294967296→a%256 ^ k=0→b%256 ^ k=256 ^ k - 1→h.length≤20001+k→Bts h→
  Tot (qve a b u h) WfEnc:=by
 intro k m
 induction m generalizing k with
 |zero=>
  intro hk a b h a0 a1 b0 b1 ha hb hl hB
  have e:k=4:=by omega
  subst e
  have e4:(256:Int) ^ 4=4294967296:=by decide
  rw [e4] at ha hb
  have ea:a=0:=by omega
  have eb:b=4294967295:=by omega
  subst ea eb
  rw [qJj]
  exact ua (by decide) (ua (by decide) (ux (by decide) (ub ⟨⟨by simp only;omega,by simp only;omega⟩,⟨by simp only;omega,by simp only;omega⟩,hB⟩)))
 |succ m ih=>
  intro hk a b h a0 a1 b0 b1 ha hb hl hB
  have wa:wd .u32 (a*256)=a*256%4294967296:=qXy _
  have wb:wd .u32 (b*256)=b*256%4294967296:=qXy _
  have ho:qrc .u32 (b*256%4294967296) 255=b*256%4294967296+255:=qGN (by omega) (by omega) (by omega)
  rw [qJj,wa,wb,ho]
  refine ua (by decide) (ua (by decide) (ul (fun _=>?_) (fun _=>ub ⟨⟨a0,a1⟩,⟨b0,b1⟩,hB⟩)))
  refine ua (by decide) (ua (by rw [wn,wy];omega) (ua (by decide) (ua (by decide) ?_)))
  refine ih (k+1) (by omega) _ _ _ (by omega) (by omega) (by omega) (by omega) ?_ ?_ (by rw [wn,wy];omega) (Bts.append hB (Bts.cons (qYu _) Bts.nil))
  ·have h4:k=0∨k=1∨k=2∨k=3:=by omega
   rcases h4 with rfl|rfl|rfl|rfl
   ·have e1:(256:Int) ^ (0+1)=256:=by decide
    rw [e1];omega
   ·have e0:(256:Int) ^ 1=256:=by decide
    have e1:(256:Int) ^ (1+1)=65536:=by decide
    rw [e0] at ha;rw [e1];omega
   ·have e0:(256:Int) ^ 2=65536:=by decide
    have e1:(256:Int) ^ (2+1)=16777216:=by decide
    rw [e0] at ha;rw [e1];omega
   ·have e0:(256:Int) ^ 3=16777216:=by decide
    have e1:(256:Int) ^ (3+1)=4294967296:=by decide
    rw [e0] at ha;rw [e1];omega
  ·have h4:k=0∨k=1∨k=2∨k=3:=by omega
   rcases h4 with rfl|rfl|rfl|rfl
   ·have e1:(256:Int) ^ (0+1)=256:=by decide
    rw [e1];omega
   ·have e0:(256:Int) ^ 1=256:=by decide
    have e1:(256:Int) ^ (1+1)=65536:=by decide
    rw [e0] at hb;rw [e1];omega
   ·have e0:(256:Int) ^ 2=65536:=by decide
    have e1:(256:Int) ^ (2+1)=16777216:=by decide
    rw [e0] at hb;rw [e1];omega
   ·have e0:(256:Int) ^ 3=16777216:=by decide
    have e1:(256:Int) ^ (3+1)=4294967296:=by decide
    rw [e0] at hb;rw [e1];omega
theorem qwN (p:Int) (t:Bool) (a b:Int) (u:Unit) (h:List Int) (a0:0≤a) (a1:a<4294967296) (b0:0≤b) (b1:b<4294967296) (hl:h.length≤20000) (hB:Bts h):Tot (qtm p t a b u h) WfEnc:=by
 rw [qeu]
 have p0:(256:Int) ^ 0=1:=by decide
 refine Tot.b (qmy a b p) (fun r hr=>uk (fun _=>?_) (fun _=>?_))
 ·refine ua (by decide) (ua (by decide) (ul (fun _=>?_) (fun _=>ub ⟨⟨a0,a1⟩,hr,hB⟩)))
  have wa:wd .u32 (a*256)=a*256%4294967296:=qXy _
  have wb:wd .u32 (r*256)=r*256%4294967296:=qXy _
  have ho:qrc .u32 (r*256%4294967296) 255=r*256%4294967296+255:=qGN (by omega) (by omega) (by omega)
  rw [wa,wb,ho]
  refine ua (by decide) (ua (by rw [wn,wy];omega) (ua (by decide) (ua (by decide) ?_)))
  refine qwH u 0 4 rfl _ _ _ (by omega) (by omega) (by omega) (by omega) ?_ ?_ (by rw [wn,wy];omega) (Bts.append hB (Bts.cons (qYu _) Bts.nil))
  ·rw [p0];omega
  ·rw [p0];omega
 ·have hq:=qwO (r+1)
  generalize wd .u32 (r+1)=q at*
  refine ua (by decide) (ua (by decide) (ul (fun _=>?_) (fun _=>ub ⟨hq,⟨b0,b1⟩,hB⟩)))
  have wa:wd .u32 (q*256)=q*256%4294967296:=qXy _
  have wb:wd .u32 (b*256)=b*256%4294967296:=qXy _
  have ho:qrc .u32 (b*256%4294967296) 255=b*256%4294967296+255:=qGN (by omega) (by omega) (by omega)
  rw [wa,wb,ho]
  refine ua (by decide) (ua (by rw [wn,wy];omega) (ua (by decide) (ua (by decide) ?_)))
  refine qwH u 0 4 rfl _ _ _ (by omega) (by omega) (by omega) (by omega) ?_ ?_ (by rw [wn,wy];omega) (Bts.append hB (Bts.cons (qYu _) Bts.nil))
  ·rw [p0];omega
  ·rw [p0];omega
theorem WfEnc.zero:WfEnc (0,(0,([],()))):=⟨⟨by decide,by decide⟩,⟨by decide,by decide⟩,Bts.nil⟩
theorem qiC {e:qAa} (h:WfEnc e) (p:Int) (t:Bool):Tot (qKr e p t) fun r=>WfEnc r.1:=by
 rw [qTz]
 refine Tot.b (qvp e) (fun c hc=>ui (fun _=>ub WfEnc.zero) (fun k=>Tot.b (qRz p) (fun z _=>um (fun _=>ub WfEnc.zero) (fun _=>?_))))
 have hl:=hc k
 refine ud (qic _ (by omega)) (Tot.b (qwN p t _ _ _ _ h.1.1 h.1.2 h.2.1.1 h.2.1.2 (by omega) h.2.2) (fun r hr=>ug (fun _=>ub WfEnc.zero) (fun _=>ub hr)))
theorem qjC {e:qAa} (h:WfEnc e):Tot (qLr e) fun r=>Bts r.1∧(r.2=0→4≤r.1.length∧r.1.length≤20000):=by
 rw [qVz]
 simp only [wj]
 refine Tot.b (qvp e) (fun c hc=>ui (fun k=>ub ⟨Bts.nil,fun q=>absurd q k⟩) (fun k=>ug (fun _=>ub ⟨Bts.nil,fun q=>absurd q (by decide)⟩) (fun k2=>?_)))
 refine Tot.b (P:=fun r=>Bts r∧4≤r.length∧r.length≤20000) ?_ (fun r hr=>ub ⟨hr.1,fun _=>hr.2⟩)
 rw [qSz]
 have hL:∀a b c d:Int,(e.2.2.1++[a,b,c,d]).length=e.2.2.1.length+4:=fun a b c d=>by rw [wn];rfl
 refine ud (qic _ (by omega)) (ua (by decide) (ua (by decide) (ua (by decide) (ua (by rw [hL];omega) (ub ⟨?_,by rw [hL];omega,by rw [hL];omega⟩)))))
 exact Bts.append h.2.2 (Bts.cons (qYu _) (Bts.cons (qYu _) (Bts.cons (qYu _) (Bts.cons (qYu _) Bts.nil))))
theorem qfK (a:Int) (t:Bool) (e:Int) {c:qAa} (h:WfEnc c):Tot (qym a t e c) fun r=>WfEnc r.2:=by
 rw [qlu]
 exact uk (fun _=>Tot.b (qiC h a t) (fun r hr=>ub hr)) (fun _=>ub h)
theorem qAG (v:List Bool) (hv:v.length≤2000) (b0 b8:qia) (h9:List Int) (hl:h9.length=v.length):∀i:Int,0≤i→∀(e:Int) (c:qAa),WfEnc c→
  Tot (qUf v v.length i b0 v e c b8 h9) fun r=>r.1=b8∧r.2.1=[]∧WfEnc r.2.2.2.2:=by
 intro i
 refine qld (P:=fun i=>0≤i→∀(e:Int) (c:qAa),WfEnc c→Tot (qUf v v.length i b0 v e c b8 h9) fun r=>r.1=b8∧r.2.1=[]∧WfEnc r.2.2.2.2) v.length ?_ ?_ i
 ·intro i hi h0 e c hc
  rw [qTl]
  exact uc (by omega) (ub ⟨rfl,rfl,hc⟩)
 ·intro i hi ih h0 e c hc
  rw [qTl]
  simp only [wj]
  rw [w64 (x:=i+1) (by omega) (by omega)]
  exact uf (by omega) (ua h0 (ua (by omega) (ua h0 (ua (by omega) (Tot.b (qfK _ _ e hc) (fun r hr=>ih (by omega) _ _ hr))))))
theorem qoI {l N:Int} {p:qia} (h:WfP l N p) (v:List Bool) (hv:v.length≤2000) (hN:N+v.length<1073741824) (e:Int) {c:qAa} (hc:WfEnc c):
  Tot (qdh p v e c) fun r=>WfP l (N+v.length) r.1∧r.2.1=[]∧WfEnc r.2.2.2.2:=by
 rw [qFy]
 refine Tot.b (qHS h v hv hN) (fun r hr=>?_)
 exact Tot.mono (qAG v hv p r.1 r.2.1 hr.2.2 0 (by omega) e c hc) (fun q hq=>⟨by rw [hq.1];exact hr.2.1,hq.2⟩)
def WfS (l M:Int) (s:qPl):Prop:=(∃N,WfP l N s.1∧0≤N∧N+s.2.1.length≤M)∧s.2.1.length<2000∧WfEnc s.2.2.2
theorem qwG {l M:Int} {s:qPl} (h:WfS l M s) (hM:M<1073741000) (b:Bool):Tot (qPh s b) (WfS l (M+1)):=by
 obtain ⟨⟨N,h1,h2,h3⟩,h4,h5⟩:=h
 unfold qPh
 have hL:(s.2.1++[b]).length=s.2.1.length+1:=by rw [wn,wy]
 refine ua (by rw [hL];omega) (ul (fun k=>?_) (fun k=>?_))
 ·refine Tot.b (qoI h1 (s.2.1++[b]) (by rw [hL];omega) (by rw [hL];omega) s.2.2.1 h5) (fun r hr=>ub ⟨⟨N+((s.2.1++[b]).length:Int),hr.1,by omega,?_⟩,?_,hr.2.2⟩)
  ·simp only;rw [hr.2.1,hL];simp only [wX];omega
  ·simp only;rw [hr.2.1];decide
 ·refine ub ⟨⟨N,h1,h2,?_⟩,?_,h5⟩
  ·simp only;rw [hL];omega
  ·simp only;rw [hL]
   have e:wi (s.2.1++[b]).length=((s.2.1++[b]).length:Int):=rfl
   rw [e,hL] at k
   omega
theorem qfu {l:Int}:∀(v:List Bool) (M:Int) (s:qPl),WfS l M s→M+v.length<1073741000→Tot (qWi v s) (WfS l (M+v.length))
 |[],M,s,h,hM=>ub (by simpa using h)
 |b::v,M,s,h,hM=>by
  unfold qWi
  simp only [wz] at*
  refine Tot.b (qwG h (by omega) b) (fun t ht=>Tot.mono (qfu v (M+1) t ht (by omega)) (fun r hr=>?_))
  have e:M+1+(v.length:Int)=M+((v.length+1:Nat):Int):=by omega
  rw [e] at hr
  exact hr
theorem qOE {l:Int} {p:qia} (h:WfP l 0 p) (b:List Int) (hb:b.length≤4096) (e:Int) {c:qAa} (hc:WfEnc c):Tot (qek p b e c) fun r=>WfEnc r.2:=by
 have h0:WfS l 0 (p,[],e,c):=⟨⟨0,h,wSa 0,by show (0:Int)+0≤0;decide⟩,by show 0<2000;decide,hc⟩
 unfold qek
 refine ua (by omega) (ua (fun l' hl'=>?_) ?_)
 ·obtain ⟨r,e1,_⟩:=qfu l' 0 (p,[],e,c) h0 (by omega)
  rw [e1];rfl
 ·have hL:=qLy b
  refine Tot.b (qfu (qMv b) 0 (p,[],e,c) h0 (by omega)) (fun s hs=>?_)
  obtain ⟨⟨N,h1,h2,h3⟩,h4,h5⟩:=hs
  exact Tot.b (qoI h1 s.2.1 (by omega) (by omega) s.2.2.1 h5) (fun r hr=>ub hr.2.2)
theorem qgA (l:Int) (b:List Int):Tot (qBp l b) fun r=>Bts r.1∧(r.2=0→4≤r.1.length∧r.1.length≤20000):=by
 rw [qGy]
 simp only [wj]
 refine Tot.b (P:=fun r=>r.2=0→WfP l 0 r.1∧b.length≤4096) ?_ (fun r hr=>ui (fun k=>ub ⟨Bts.nil,fun q=>absurd q k⟩) (fun k=>?_))
 ·rw [qbr]
  refine Tot.b (qMR l) (fun r hr=>ul (fun k=>ug (fun _=>ub (fun q=>absurd q (by show ¬((4:Int)=0);decide))) (fun k2=>ub (fun _=>⟨hr k,by omega⟩))) (fun k=>ub (fun q=>absurd q k)))
 ·have hp:=hr k
  refine ud qUz (Tot.b (qOE hp.1 b hp.2 _ ⟨⟨by decide,by decide⟩,⟨by decide,by decide⟩,Bts.nil⟩) (fun q hq=>ui (fun _=>ub ⟨Bts.nil,fun q=>absurd q (by decide)⟩) (fun _=>Tot.b (qjC hq) (fun t ht=>ub ht))))
def Shp4 (k:Nat) (a b:Int):Prop:=(0≤a∧a≤b∧b<4294967296)∧((k=4)∨(k=3∧a%256=0∧b%256=255)∨(k=2∧a%65536=0∧b%65536=65535)∨(k=1∧a%16777216=0∧b%16777216=16777215)∨(k=0∧a=0∧b=4294967295))
theorem Shp4.step {k:Nat} {a b:Int} (h:Shp4 (k+1) a b) (e:a/16777216=b/16777216):Shp4 k (a*256%4294967296) (b*256%4294967296+255):=by
 obtain ⟨⟨h1,h2,h3⟩,h4⟩:=h
 refine ⟨⟨by omega,by omega,by omega⟩,?_⟩
 rcases h4 with h|⟨h,ha,hb⟩|⟨h,ha,hb⟩|⟨h,ha,hb⟩|⟨h,_⟩
 ·exact Or.inr (Or.inl ⟨by omega,by omega,by omega⟩)
 ·exact Or.inr (Or.inr (Or.inl ⟨by omega,by omega,by omega⟩))
 ·exact Or.inr (Or.inr (Or.inr (Or.inl ⟨by omega,by omega,by omega⟩)))
 ·exact Or.inr (Or.inr (Or.inr (Or.inr ⟨by omega,by omega,by omega⟩)))
 ·omega
def quO (a b:Int):Prop:=0≤a∧a<b∧b<4294967296∧a/16777216≠b/16777216
def at4 (c:List Int) (i:Nat):Int:=c.getD i 0*16777216+c.getD (i+1) 0*65536+c.getD (i+2) 0*256+c.getD (i+3) 0
theorem qVh {xs:List Int} (h:Bts xs) (i:Nat):0≤xs.getD i 0∧xs.getD i 0<256:=
 qZx (P:=fun x=>0≤x∧x<256) h (by omega) i
theorem qfO {c:List Int} (h:Bts c) (i:Nat):at4 c i*256%4294967296+c.getD (i+4) 0=at4 c (i+1)∧at4 c i=c.getD i 0*16777216+at4 c (i+1)/256∧0≤at4 c i∧at4 c i<4294967296:=by
 have h0:=qVh h i
 have h1:=qVh h (i+1)
 have h2:=qVh h (i+2)
 have h3:=qVh h (i+3)
 have h4:=qVh h (i+4)
 have e:at4 c (i+1)=c.getD (i+1) 0*16777216+c.getD (i+2) 0*65536+c.getD (i+3) 0*256+c.getD (i+4) 0:=rfl
 rw [e]
 unfold at4
 omega
def spl (a b p:Int):Int:=a+(b - a)/4096*p+(b - a)%4096*p/4096
theorem qJR {x:Int} (h0:0≤x) (h1:x<4294967296):qUa .u32 x 4095=x%4096:=by
 have e:qUa .u32 x 4095=((wF 32 x &&& wF 32 4095).toNat:Int):=by
  show wd .u32 ((wF 32 x &&& wF 32 4095).toNat:Int)=_
  rw [qXy]
  have:=(wF 32 x &&& wF 32 4095).isLt
  omega
 rw [e,BitVec.toNat_and,qde 32 x h0 (by omega),qde 32 4095 (by omega) (by omega)]
 have h3:(4095:Int).toNat=2 ^ 12 - 1:=rfl
 rw [h3,Nat.and_two_pow_sub_one_eq_mod]
 omega
theorem qBK {a b p:Int} (h:quO a b) (hp0:0≤p) (hp1:p≤4095):a≤spl a b p∧spl a b p<b∧0≤(b - a)/4096*p∧(b - a)/4096*p<4294967296∧0≤(b - a)%4096*p∧(b - a)%4096*p<4294967296:=by
 obtain ⟨h1,h2,h3,h4⟩:=h
 unfold spl
 have q0:0≤(b - a)/4096:=by omega
 have r0:0≤(b - a)%4096∧(b - a)%4096<4096:=by omega
 have hd:(b - a)=(b - a)/4096*4096+(b - a)%4096:=by omega
 have m1:(b - a)/4096*p≤(b - a)/4096*4095:=Int.mul_le_mul_of_nonneg_left hp1 q0
 have m2:0≤(b - a)/4096*p:=Int.mul_nonneg q0 hp0
 have m3:(b - a)%4096*p≤(b - a)%4096*4095:=Int.mul_le_mul_of_nonneg_left hp1 r0.1
 have m4:0≤(b - a)%4096*p:=Int.mul_nonneg r0.1 hp0
 generalize (b - a)/4096*p=z at*
 generalize (b - a)%4096*p=y at*
 generalize (b - a)/4096=q at*
 generalize (b - a)%4096=r at*
 refine ⟨by omega,by omega,m2,by omega,m4,by omega⟩
theorem qTI {a b p:Int} (h:quO a b) (hp0:0≤p) (hp1:p≤4095):qOh a b p=some (spl a b p):=by
 have hs:=qBK h hp0 hp1
 obtain ⟨h1,h2,h3,h4⟩:=h
 rw [qto,qfa (by decide),qfa (by decide)]
 simp only [qXy,qJg _ (show (0:Int)<4096 by decide)]
 have e1:(b - a)%4294967296=b - a:=by omega
 have e2:p%4294967296=p:=by omega
 rw [e1,e2,qJR (by omega) (by omega)]
 unfold spl at*
 generalize (b - a)/4096*p=z at*
 generalize (b - a)%4096*p=y at*
 have e3:z%4294967296=z:=by omega
 have e4:y%4294967296=y:=by omega
 rw [e3,e4]
 have e5:(a+z)%4294967296=a+z:=by omega
 rw [e5]
 exact congrArg some (by omega)
def qVR (t:Bool) (a b p:Int):Int:=if t=true then a else spl a b p+1
def qTR (t:Bool) (a b p:Int):Int:=if t=true then spl a b p else b
theorem qKM {t:Bool} {a b p:Int} (h:quO a b) (hp0:0≤p) (hp1:p≤4095):Shp4 4 (qVR t a b p) (qTR t a b p):=by
 have hs:=qBK h hp0 hp1
 obtain ⟨h1,h2,h3,h4⟩:=h
 refine ⟨?_,Or.inl rfl⟩
 unfold qVR qTR
 cases t
 ·rw [if_neg (by decide),if_neg (by decide)];omega
 ·rw [if_pos rfl,if_pos rfl];omega
theorem qsE {f:qSa} (h:qQC f) {a b st p:Int} (ha:0≤a∧a≤255) (hb:0≤b∧b≤255) (hs:-2047≤st∧st≤2047) (hp:0≤p∧p≤4095):Tot (qkq f [a,b] st p) fun r=>qWR r.2.1∧1≤r.1∧r.1≤4095:=by
 rw [qPs]
 have e0:([a,b]:List Int).getD 0 0=a:=rfl
 have e1:([a,b]:List Int).getD 1 0=b:=rfl
 rw [e0,e1]
 refine ud (qVj h) (ue rfl (ua (by decide) (ua (by decide) (Tot.b (qPj h.1 ha.1 ha.2 hs.1 hs.2) (fun r hr=>ua (by decide) (ua (by decide) (Tot.b (qPj h.2 hb.1 hb.2 hs.1 hs.2) (fun q hq=>ue hr.1 (ue hq.1 (Tot.b (qQu p) (fun t ht=>um (fun k=>?_) (fun _=>?_))))))))))))
 ·rw [ht hp.1 hp.2] at k;exact absurd k (by decide)
 ·refine Tot.b (P:=fun z=>1≤z∧z≤4095) ?_ (fun z hz=>ub ⟨⟨a,b,r.2.1,q.2.1,rfl,rfl,ha.1,ha.2,hb.1,hb.2,hr.2.1,hr.2.2,hq.2.1,hq.2.2⟩,hz⟩)
  rw [qOs]
  refine ua (by decide) (ua (by decide) (ua (by decide) (ub ?_)))
  split <;> split at*<;> omega
theorem qoN {l N:Int} {p:qia} (h:WfP l N p) (b9a:Int) (b9 b10:(Int×(Int×(qxc×Unit)))) {nd:Int} (hn:1≤nd∧nd≤15) (h11 h12:List Int):∀i:Int,0≤i→i≤6→∀(h13 h14:List Int),(h13.length=i.toNat∧∀x∈h13,0≤x∧x≤192)→(h14.length=i.toNat∧∀x∈h14,-2047≤x∧x≤2047)→
  Tot (qbe p.2.2.1 6 i p b9a b9 nd b10 h11 h12 h13 h14) fun s=>qXu s∧1≤s.2.2.2.2.1∧s.2.2.2.2.1≤4095:=by
 obtain ⟨h1,h2,h3,h4,h5,h6⟩:=h
 have hl3:=h3.1
 have hl4:=h4.1
 have hw:=h5.2.2.2.2.1
 intro i
 refine qld (P:=fun i=>0≤i→i≤6→∀(h13 h14:List Int),(h13.length=i.toNat∧∀x∈h13,0≤x∧x≤192)→(h14.length=i.toNat∧∀x∈h14,-2047≤x∧x≤2047)→Tot (qbe p.2.2.1 6 i p b9a b9 nd b10 h11 h12 h13 h14) fun s=>qXu s∧1≤s.2.2.2.2.1∧s.2.2.2.2.1≤4095) 6 ?_ ?_ i
 ·intro i hi h0 h06 h13 h14 k13 k14
  rw [qcg]
  have e6:i.toNat=6:=by omega
  rw [e6] at k13 k14
  refine uc (by omega) (Tot.b (qHs h5.2.2.2.1 h2.1 hw) (fun m hm=>?_))
  have hL:(h14++[m.1,256]).length=8:=by rw [wn,k14.1];rfl
  have hA:∀x∈h14++[m.1,256],-2047≤x∧x≤2047:=by
   intro x hx
   rcases wba.1 hx with q|q
   ·exact k14.2 x q
   ·rcases wZ.1 q with rfl|q
    ·exact hm
    ·rw [wU.1 q];omega
  refine ua (by rw [hL];decide) (Tot.b (qvx h5.1 (by have:=hw.1;omega) hw.2 hL hA) (fun x hx=>Tot.b (qxo h2.1) (fun y _=>Tot.b (qRu _ _ hw.1 hw.2) (fun z hz=>?_))))
  obtain ⟨c,hz1,hz2⟩:=hz
  rw [hz1]
  exact Tot.b (qsE h5.2.1 ⟨by have:=hw.1;omega,hw.2⟩ hz2 ⟨hx.1,hx.2.1⟩ ⟨hx.2.2.1,hx.2.2.2⟩) (fun t ht=>ub ⟨⟨hn,k13,⟨hL,hA⟩,⟨hx.2.2.1,hx.2.2.2⟩,ht.1⟩,ht.2⟩)
 ·intro i hi ih h0 h06 h13 h14 k13 k14
  rw [qcg]
  simp only [wj]
  have hd:=qPa (P:=qao l) (d:=qra qEa) h3.2 i.toNat (by omega)
  have ha:=qPa (P:=qpF) (d:=qra qDa) h4.2 i.toNat (by omega)
  have hs:=h5.2.2.2.2.2.at hd.2.1 i.toNat
  rw [w64 (x:=i+1) (by omega) (by omega)]
  refine uf (by omega) (ua h0 (ua (by omega) (ua h0 (ua (by omega) (Tot.b (qjr hd hs.1 hs.2 hn.1 hn.2) (fun r hr=>ua h0 (ua (by omega) (Tot.b (qeF ha hr.2.1 hr.2.2) (fun q hq=>ua ?_ (ua (by decide) (Tot.b (qWC _) (fun s hs'=>ua ?_ ?_))))))))))))
  ·rw [wn,wy];omega
  ·rw [wn,wy];omega
  ·exact ih (by omega) (by omega) _ _ ⟨by rw [wn,wy];omega,qDj k13.2 hr.2⟩ ⟨by rw [wn,wy];omega,qDj k14.2 hs'⟩
theorem qAP {l N:Int} {p:qia} (h:WfP l N p):Tot (qvi p) fun s=>qXu s∧1≤s.2.2.2.2.1∧s.2.2.2.2.1≤4095:=by
 rw [qJq]
 have e:wi p.2.2.1.length=6:=by rw [h.2.2.1.1];rfl
 rw [e]
 exact Tot.b (qxs h.2.2.2.2.1.2.2.2.2.1) (fun r hr=>qoN h _ _ _ hr _ _ 0 (by omega) (by omega) [] [] ⟨rfl,fun x hx=>by cases hx⟩ ⟨rfl,fun x hx=>by cases hx⟩)
def qqO (p:qia) (b:Bool) (q:qia) (P:Int):Prop:=∃s,qvi p=some s∧P=wd .i64 s.2.2.2.2.1∧qNi p s b=some (q,0)
def qXR:List Bool→qia→qia→List Int→Prop
 |[],p,q,Ps=>q=p∧Ps=[]
 |b::bs,p,q,Ps=>∃p1 P Ps',qqO p b p1 P∧qXR bs p1 q Ps'∧Ps=P::Ps'
theorem qpO {l N:Int} {p:qia} (h:WfP l N p) (hN:N<1073741824) (b:Bool):∃q P,qqO p b q P:=by
 obtain ⟨s,e,hs⟩:=qAP h
 obtain ⟨r,e',hr⟩:=qUA h hN hs.1 b
 exact ⟨r.1,_,s,e,rfl,by rw [e'];exact congrArg some (wrb rfl hr.1)⟩
theorem qoO {l N:Int} {p q:qia} {b:Bool} {P:Int} (h:WfP l N p) (hN:N<1073741824) (k:qqO p b q P):WfP l (N+1) q∧1≤P∧P≤4095:=by
 obtain ⟨s,e,hP,hu⟩:=k
 obtain ⟨s',e',hs⟩:=qAP h
 obtain rfl:=Option.some.inj (e.symm.trans e')
 obtain ⟨r,e'',hr⟩:=qUA h hN hs.1 b
 obtain rfl:=Option.some.inj (hu.symm.trans e'')
 rw [w64 (by omega) (by omega)] at hP
 exact ⟨hr.2,by omega,by omega⟩
theorem qWG (v:List Bool) (hv:v.length≤2000) (b9a b9baa:Int) (b9babb:qua) (u1 u2 u3 u4:Unit) (b9bbbbbbaa:Int) (u5:Unit) (b9bbbbbbb:(qgc×(qua×((List Int)×((List Int)×Unit)))))
  (h11:List Int) (h12:List qta) (h13:List qqa) (h14 h15 h16:List (List Int)) (h17:List Int) (q:qia):∀i:Int,0≤i→i≤v.length→∀(p:qia) (h10 Ps:List Int),h10.length=i.toNat→qXR (v.drop i.toNat) p q Ps→
  qce v v.length i p b9a b9baa b9babb u1 u2 u3 u4 b9bbbbbbaa u5 b9bbbbbbb h10 h11 h12 h13 h14 h15 h16 h17=some (q,(h10++Ps,0)):=by
 intro i
 refine qld (P:=fun i=>0≤i→i≤v.length→∀(p:qia) (h10 Ps:List Int),h10.length=i.toNat→qXR (v.drop i.toNat) p q Ps→qce v v.length i p b9a b9baa b9babb u1 u2 u3 u4 b9bbbbbbaa u5 b9bbbbbbb h10 h11 h12 h13 h14 h15 h16 h17=some (q,(h10++Ps,0))) v.length ?_ ?_ i
 ·intro i hi h0 h1 p h10 Ps hh hr
  rw [List.drop_of_length_le (by omega)] at hr
  obtain ⟨rfl,rfl⟩:=hr
  rw [qdg,if_neg (by rw [decide_eq_true_eq];omega),wW]
 ·intro i hi ih h0 h1 p h10 Ps hh hr
  have hd:v.drop i.toNat=v[i.toNat]'(by omega)::v.drop (i.toNat+1):=wka (by omega)
  rw [hd] at hr
  obtain ⟨p1,P,Ps',⟨s,e1,e2,e3⟩,hr,rfl⟩:=hr
  have hg:v.getD i.toNat false=v[i.toNat]'(by omega):=by rw [wu,wx (by omega)];rfl
  rw [qdg]
  simp only [wj]
  rw [w64 (x:=i+1) (by omega) (by omega),hg,←hg]
  refine Tot.eq (uf (by omega) (ua h0 (ua (by omega) (ud e1 (ud (by rw [hg];exact e3) (ue rfl (ua (by rw [wn,wy];omega) ?_)))))))
  have e:(i+1).toNat=i.toNat+1:=by omega
  have:=ih (by omega) (by omega) p1 (h10++[P]) Ps' (by rw [wn,wy];omega) (by rw [e];exact hr)
  rw [←e2]
  simp only
  rw [this,wB]
  exact ub rfl
theorem qmO {l N:Int} {p q:qia} {v:List Bool} {Ps:List Int} (h:WfP l N p) (hv:v.length≤2000) (hr:qXR v p q Ps):qyk p v=some (q,(Ps,0)):=by
 rw [qKq]
 simp only [wj]
 refine Tot.eq (ud (qzk h) (ue rfl (uc (by omega) (ud (qxO h) ?_))))
 have:=qWG v hv 0 0 (0,()) () () () () 0 () ((0,(0,())),((0,()),((wl 6 0),((wl 6 0),())))) [] [] [] [] [] [] [] q 0 (by omega) (by omega) p [] Ps rfl hr
 rw [this]
 exact ub rfl
theorem qUG {l N:Int} {p q:qia} {b:Bool} {P:Int} (h:WfP l N p) (k:qqO p b q P):qmm p b=some (q,0):=by
 rw [qFt]
 exact Tot.eq (ud (qmO h (v:=[b]) (Ps:=[P]) (by show 1≤2000;decide) ⟨q,P,[],k,⟨rfl,rfl⟩,rfl⟩) (ub rfl))
def e0:qAa:=(0,(4294967295,([],())))
theorem qXQ {y z:Int} (h0:0≤y) (h1:y<4294967296) (hm:y%256=0) (z0:0≤z) (z1:z<256):qrc .u32 y z=y+z:=by
 have e:qrc .u32 y z=((wF 32 y ||| wF 32 z).toNat:Int):=by
  show wd .u32 ((wF 32 y ||| wF 32 z).toNat:Int)=_
  rw [qXy]
  have:=(wF 32 y ||| wF 32 z).isLt
  omega
 rw [e,BitVec.toNat_or,qde 32 y h0 (by omega),qde 32 z (by omega) (by omega)]
 have h2:y.toNat=2 ^ 8*(y.toNat/256):=by omega
 rw [h2,←Nat.two_pow_add_eq_or_of_lt (show z.toNat<2 ^ 8 by omega)]
 omega
theorem qwy {c:List Int} (i:Nat):qnq c i=some (c.getD i 0):=by
 rw [qtC]
 simp only [wj]
 by_cases h:(i:Int)<c.length
 ·exact Tot.eq (uf h (ua (by omega) (ua h (ub (by rw [wv])))))
 ·refine Tot.eq (uc h (ub ?_))
  rw [wu,List.getElem?_eq_none (by omega)]
  rfl
theorem qXi {c:List Int} (hc:Bts c) (b8a b8ba b8bba:Int) (b8b:qua) (h10:List Int) (x1 x2 x:Int) (cc:List Int) (u:Unit) (k:Nat) (hk:k<4) (hx0:0≤x) (hx1:x<4294967296):
  qaf c b8a b8ba b8bba b8b (x1,(x2,(x,(cc,((k:Int),u))))) h10=qaf c b8a b8ba b8bba b8b (x1,(x2,(x*256%4294967296+c.getD k 0,(cc,(((k+1:Nat):Int),u))))) h10:=by
 have hb:=qVh hc k
 rw [qRk,if_pos (by rw [decide_eq_true_eq];simp only;omega),qfa (by decide)]
 simp only
 rw [qwy,wq,qXy,qXy,w64 (x:=(k:Int)+1) (by omega) (by omega)]
 have e:c.getD k 0%4294967296=c.getD k 0:=by omega
 rw [e,qXQ (by omega) (by omega) (by omega) hb.1 hb.2]
 rfl
def qoQ (e:qAa) (c:List Int):qMa:=(e.1,(e.2.1,(at4 c e.2.2.1.length,(c,(((e.2.2.1.length+4:Nat):Int),())))))
theorem qJE {c:List Int} (hc:Bts c) (hl:c.length≤20000):qMr c=some (qoQ e0 c,0):=by
 have h0:=qVh hc 0
 have h1:=qVh hc 1
 have h2:=qVh hc 2
 have h3:=qVh hc 3
 rw [qar]
 simp only [wj]
 refine Tot.eq (uc (by omega) (ud (qic _ (by omega)) (ud (v:=qoQ e0 c) ?_ (ub rfl))))
 rw [qGv]
 have s0:=qXi hc 0 0 0 (0,()) [] 0 4294967295 0 c () 0 (by decide) (by omega) (by omega)
 rw [show ((0:Nat):Int)=0 from rfl] at s0
 rw [s0]
 have e0':(0:Int)*256%4294967296+c.getD 0 0=c.getD 0 0:=by omega
 rw [e0',qXi hc 0 0 0 (0,()) [] 0 4294967295 _ c () 1 (by decide) (by omega) (by omega),qXi hc 0 0 0 (0,()) [] 0 4294967295 _ c () 2 (by decide) (by omega) (by omega),qXi hc 0 0 0 (0,()) [] 0 4294967295 _ c () 3 (by decide) (by omega) (by omega)]
 rw [qRk,if_neg (by simp)]
 have e:((c.getD 0 0*256%4294967296+c.getD 1 0)*256%4294967296+c.getD 2 0)*256%4294967296+c.getD 3 0=at4 c 0:=by
  unfold at4
  simp only [wJ]
  omega
 rw [e]
 rfl
def WfDec (d:qMa):Prop:=(0≤d.1∧d.1<4294967296)∧(0≤d.2.1∧d.2.1<4294967296)∧(0≤d.2.2.1∧d.2.2.1<4294967296)∧Bts d.2.2.2.1∧0≤d.2.2.2.2.1∧d.2.2.2.2.1≤1000000
theorem qwp {c:List Int} (hc:Bts c) (v:Bool) (u:Unit):∀(k:Nat) (a b x:Int) (i:Nat),Shp4 k a b→(0≤x∧x<4294967296)→i+k≤2000000→
  Tot (qCg v (a,(b,(x,(c,((i:Int),u)))))) fun r=>(0≤r.2.1∧r.2.1<4294967296)∧(0≤r.2.2.1∧r.2.2.1<4294967296)∧(0≤r.2.2.2.1∧r.2.2.2.1<4294967296)∧Bts r.2.2.2.2.1∧0≤r.2.2.2.2.2.1
 |0,a,b,x,i,hs,hx,hi=>by
  obtain ⟨_,hs⟩:=hs
  have:a=0∧b=4294967295:=by omega
  obtain ⟨rfl,rfl⟩:=this
  rw [qcn,qfa (by decide),qfa (by decide),if_neg (by show ¬((wR 0 16777216==wR 4294967295 16777216)=true);decide)]
  exact ub ⟨⟨by simp only;omega,by simp only;omega⟩,⟨by simp only;omega,by simp only;omega⟩,hx,hc,by simp only;omega⟩
 |k+1,a,b,x,i,hs,hx,hi=>by
  have hr:=hs.1
  have hb:=qVh hc i
  rw [qcn,qfa (by decide),qfa (by decide)]
  simp only [qJg _ (show (0:Int)<16777216 by decide),beq_iff_eq]
  by_cases e:a/16777216=b/16777216
  ·rw [if_pos e,qfa (by decide),qfa (by decide),qfa (by decide),qwy,wq]
   have ho:qrc .u32 (b*256%4294967296) 255=b*256%4294967296+255:=qGN (by omega) (by omega) (by omega)
   have e1:c.getD i 0%4294967296=c.getD i 0:=by omega
   rw [qXy,qXy,qXy,qXy,ho,e1,qXQ (by omega) (by omega) (by omega) hb.1 hb.2,w64 (by omega) (by omega)]
   have e2:(i:Int)+1=((i+1:Nat):Int):=by omega
   rw [e2]
   exact qwp hc v u k _ _ _ (i+1) (hs.step e) (by omega) (by omega)
  ·rw [if_neg e]
   exact ub ⟨⟨by simp only;omega,by simp only;omega⟩,⟨by simp only;omega,by simp only;omega⟩,hx,hc,by simp only;omega⟩
theorem WfDec.zero:WfDec (0,(0,(0,([],(0,()))))):=⟨⟨by decide,by decide⟩,⟨by decide,by decide⟩,⟨by decide,by decide⟩,Bts.nil,by decide,by decide⟩
theorem qMS {d:qMa} (h:WfDec d) (p:Int):Tot (qNr d p) fun r=>WfDec r.1:=by
 obtain ⟨h1,h2,h3,h4,h5,h6⟩:=h
 rw [qbA]
 refine Tot.b (P:=fun r=>r=0→quO d.1 d.2.1∧d.2.2.2.1.length≤20000) ?_ (fun r hr=>ui (fun _=>ub WfDec.zero) (fun k=>?_))
 ·rw [qHv]
  simp only [wj,qJg _ (show (0:Int)<16777216 by decide)]
  refine ug (fun _=>ub (fun k=>absurd k (by decide))) (fun q1=>ua (by decide) (ua (by decide) (ul (fun _=>ub (fun k=>absurd k (by decide))) (fun q2=>?_))))
  refine ug (fun _=>ub (fun k=>absurd k (by decide))) (fun _=>ug (fun _=>ub (fun k=>absurd k (by decide))) (fun _=>ug (fun _=>ub (fun k=>absurd k (by decide))) (fun q3=>ug (fun _=>ub (fun k=>absurd k (by decide))) (fun _=>ug (fun _=>ub (fun k=>absurd k (by decide))) (fun _=>ub (fun _=>⟨⟨h1.1,by omega,h2.2,q2⟩,by omega⟩))))))
 ·obtain ⟨hE,hl⟩:=hr k
  refine Tot.b (P:=fun r=>r=false→0≤p∧p≤4095) ?_ (fun w hw=>uk (fun _=>ub WfDec.zero) (fun hw2=>?_))
  ·rw [qFv]
   exact ug (fun _=>ub (fun k=>absurd k (by decide))) (fun q=>ub (fun k=>by have:=of_decide_eq_false k;omega))
  ·have hp:=hw (by cases w with
    |true=>exact absurd rfl hw2
    |false=>rfl)
   refine ud (qic _ (by omega)) (Tot.b (P:=fun r=>(0≤r.2.1∧r.2.1<4294967296)∧(0≤r.2.2.1∧r.2.2.1<4294967296)∧(0≤r.2.2.2.1∧r.2.2.2.1<4294967296)∧Bts r.2.2.2.2.1∧0≤r.2.2.2.2.2.1) ?_ (fun r hr=>ug (fun _=>ub WfDec.zero) (fun q=>ub ⟨hr.1,hr.2.1,hr.2.2.1,hr.2.2.2.1,hr.2.2.2.2,by simp only;omega⟩)))
   have hsplit:qPn d.1 d.2.1 p=some (spl d.1 d.2.1 p,0):=by
    have hp':qqj p=some true:=by
     rw [qup]
     exact Tot.eq (uf hp.1 (ub (decide_eq_true hp.2)))
    rw [qDv]
    exact Tot.eq (uc (by have:=hE.2.1;omega) (ud hp' (um (fun k=>absurd k (by decide)) (fun _=>ud (qTI hE hp.1 hp.2) (ub rfl)))))
   have hs:=qBK hE hp.1 hp.2
   obtain ⟨i,hi⟩:=whb h5
   rw [qaA]
   refine ud hsplit ?_
   simp only
   have e2:d.2.2.2.2=((i:Int),d.2.2.2.2.2):=wrb hi rfl
   refine ug (fun q=>?_) (fun q=>?_)
   ·have:=qwp h4 (decide (d.2.2.1≤spl d.1 d.2.1 p)) d.2.2.2.2.2 4 (qVR true d.1 d.2.1 p) (qTR true d.1 d.2.1 p) d.2.2.1 i (qKM hE hp.1 hp.2) h3 (by omega)
    rw [←e2] at this
    exact this
   ·have w1:wd .u32 (spl d.1 d.2.1 p+1)=spl d.1 d.2.1 p+1:=by rw [qXy];omega
    have:=qwp h4 (decide (d.2.2.1≤spl d.1 d.2.1 p)) d.2.2.2.2.2 4 (qVR false d.1 d.2.1 p) (qTR false d.1 d.2.1 p) d.2.2.1 i (qKM hE hp.1 hp.2) h3 (by omega)
    rw [←e2] at this
    rw [w1]
    exact this
theorem quC {l:Int} (v2:Int) (hv:v2≤4096) (h10:List Int) (hh:h10.length≤4096) (N:Int) (Q:List Int×Int→Prop)
  (next:∀(v:Int) (p:qia) (d:qMa),0≤v→v<256→WfP l (N+8) p→WfDec d→Tot (qWf v2 p d (h10++[v])) Q) (hN:N+8<1073741824):∀(m j:Nat),j+m=8→∀(v:Int) (p:qia) (d:qMa),0≤v→v<256→WfP l (N+j) p→WfDec d→Tot (qVf v2 v (j:Int) p d h10) Q
 |0,j,hj,v,p,d,h0,h1,hp,hd=>by
  obtain rfl:j=8:=by omega
  rw [qUl]
  exact uc (by omega) (ua (by rw [wn,wy];omega) (next v p d h0 h1 hp hd))
 |m+1,j,hj,v,p,d,h0,h1,hp,hd=>by
  obtain ⟨s,es,hs⟩:=qAP hp
  have eP:qax p=some (wd .i64 s.2.2.2.2.1,0):=by
   rw [qxD]
   exact Tot.eq (ud (qzk hp) (ue rfl (ud es (ub rfl))))
  rw [qUl]
  refine uf (by omega) (ud eP (Tot.b (qMS hd _) (fun r hr=>?_)))
  obtain ⟨q,P,k⟩:=qpO hp (by omega) r.2.1
  refine ud (qUG hp k) ?_
  have hw:=(qoO hp (by omega) k).1
  have e3:(j:Int)+1=((j+1:Nat):Int):=by omega
  have e4:N+(j:Int)+1=N+((j+1:Nat):Int):=by omega
  rw [e4] at hw
  rw [w64 (x:=(j:Int)+1) (by omega) (by omega),e3]
  refine uk (fun _=>?_) (fun _=>?_)
  ·exact quC v2 hv h10 hh N Q next hN m (j+1) (by omega) _ _ _ (qYu _).1 (qYu _).2 hw hr
  ·exact quC v2 hv h10 hh N Q next hN m (j+1) (by omega) _ _ _ (qYu _).1 (qYu _).2 hw hr
theorem qsI {l:Int} (v2:Int) (h0:0≤v2) (hv:v2≤4096):∀(m:Nat) (hs:List Int) (N:Int) (p:qia) (d:qMa),v2 - hs.length≤m→(hs.length:Int)≤v2→Bts hs→WfP l N p→N+8*m<1073741824→WfDec d→
  Tot (qWf v2 p d hs) fun r=>Bts r.1∧(r.1.length:Int)=v2∧r.2=0
 |0,hs,N,p,d,hm,hl,hb,hp,hN,hd=>by
  rw [qVl]
  simp only [wj]
  exact uc (by omega) (ub ⟨hb,by simp only;omega,rfl⟩)
 |m+1,hs,N,p,d,hm,hl,hb,hp,hN,hd=>by
  rw [qVl]
  simp only [wj]
  refine ug (fun hlt=>?_) (fun _=>ub ⟨hb,by simp only;omega,rfl⟩)
  have e:((0:Nat):Int)=0:=rfl
  have:=quC (l:=l) v2 hv hs (by omega) N (fun r=>Bts r.1∧(r.1.length:Int)=v2∧r.2=0) (fun v p' d' q0 q1 hp' hd'=>qsI v2 h0 hv m (hs++[v]) (N+8) p' d' (by rw [wn,wy];omega) (by rw [wn,wy];omega) (Bts.append hb (Bts.cons ⟨q0,q1⟩ Bts.nil)) hp' (by omega) hd') (by omega) 8 0 rfl 0 p d (by omega) (by omega) (by rw [e,Int.add_zero];exact hp) hd
  rw [e] at this
  exact this
theorem qhA (l:Int) {c:List Int} (hc:Bts c) (n:Int):Tot (qCp l c n) fun r=>Bts r.1∧(r.2=0→(r.1.length:Int)=n):=by
 rw [qHy,qbr]
 refine Tot.b (P:=fun r=>r.2=0→WfP l 0 r.1) (Tot.b (qMR l) (fun r hr=>ul (fun k=>uc (by decide) (ub hr)) (fun k=>ub (fun q=>absurd q k)))) (fun r hr=>ui (fun _=>ub ⟨Bts.nil,fun q=>absurd q (by decide)⟩) (fun k=>?_))
 refine ug (fun _=>ub ⟨Bts.nil,fun q=>absurd q (by decide)⟩) (fun h0=>ug (fun _=>ub ⟨Bts.nil,fun q=>absurd q (by decide)⟩) (fun h1=>?_))
 by_cases hl:c.length≤20000
 ·refine ud (qJE hc hl) (ue rfl ?_)
  have h4:=qfO hc 0
  have hd:WfDec (qoQ e0 c):=⟨⟨by show (0:Int)≤0;decide,by show (0:Int)<4294967296;decide⟩,⟨by show (0:Int)≤4294967295;decide,by show (4294967295:Int)<4294967296;decide⟩,⟨h4.2.2.1,h4.2.2.2⟩,hc,by show (0:Int)≤4;decide,by show (4:Int)≤1000000;decide⟩
  exact Tot.mono (qsI n (by omega) (by omega) n.toNat [] 0 r.1 _ (by rw [wX];omega) (by rw [wX];omega) Bts.nil (hr k) (by omega) hd) (fun q hq=>⟨hq.1,fun _=>hq.2.1⟩)
 ·refine ud (v:=((0,(0,(0,([],(0,()))))),4)) ?_ (uz (by decide) (ub ⟨Bts.nil,fun q=>absurd q (by show ¬((4:Int)=0);decide)⟩))
  rw [qar]
  simp only [wj]
  exact Tot.eq (uf (by omega) (ub rfl))
def U32 (x:Int):Prop:=0≤x∧x<4294967296
theorem qHC (v:BitVec 32):wd .u32 (v.toNat:Int)=v.toNat:=by
 have:=v.isLt
 rw [qXy];omega
theorem qAR (v:BitVec 32):wF 32 (v.toNat:Int)=v:=by
 apply BitVec.eq_of_toNat_eq
 rw [BitVec.toNat_ofInt]
 have:=v.isLt
 omega
theorem bX (x y:Int):qDb .u32 x y=((wF 32 x ^^^ wF 32 y).toNat:Int):=qHC _
theorem bO (x y:Int):qrc .u32 x y=((wF 32 x ||| wF 32 y).toNat:Int):=qHC _
theorem bA (x y:Int):qUa .u32 x y=((wF 32 x &&& wF 32 y).toNat:Int):=qHC _
theorem w_u (x:Int):U32 (wd .u32 x):=by rw [qXy];unfold U32;omega
theorem qBS (b c d:Int):qDb .u32 d (qUa .u32 b (qDb .u32 c d))=qrc .u32 (qUa .u32 b c) (qUa .u32 (qDb .u32 4294967295 b) d):=by
 simp only [bX,bO,bA,qAR]
 congr 2
 have h1:wF 32 4294967295=BitVec.allOnes 32:=by decide
 rw [h1]
 ext i hi
 simp only [BitVec.getElem_xor,BitVec.getElem_and,BitVec.getElem_or,BitVec.getElem_allOnes]
 cases (wF 32 b)[i] <;> cases (wF 32 c)[i] <;> cases (wF 32 d)[i] <;> rfl
theorem qdR (b c d:Int):qrc .u32 (qUa .u32 b c) (qUa .u32 d (qrc .u32 b c))=qrc .u32 (qrc .u32 (qUa .u32 b c) (qUa .u32 b d)) (qUa .u32 c d):=by
 simp only [bX,bO,bA,qAR]
 congr 2
 ext i hi
 simp only [BitVec.getElem_xor,BitVec.getElem_and,BitVec.getElem_or]
 cases (wF 32 b)[i] <;> cases (wF 32 c)[i] <;> cases (wF 32 d)[i] <;> rfl
def rot (a:Int) (s:Int):Int:=qrc .u32 (wd .u32 (qzw .u32 a s)) (qZk .u32 a (32 - s))
theorem qTP {x b:Int} (hx:U32 x) (hb:0≤b∧b<256):qrc .u32 (wd .u32 (x*256)) (wd .u32 b)=wd .u32 (wd .u32 (x*256)+wd .u32 b):=by
 rw [bO]
 simp only [qXy]
 have h1:b%4294967296=b:=by omega
 rw [h1]
 obtain ⟨n,rfl⟩:=whb hb.1
 obtain ⟨q,hq⟩:∃q:Nat,(x*256)%4294967296=((2 ^ 8*q:Nat):Int)∧2 ^ 8*q<4294967296:=by
  refine ⟨(x%16777216).toNat,?_,?_⟩ <;> simp <;> omega
 have hn:n<2 ^ 8:=by omega
 rw [hq.1]
 have e:∀m:Nat,m<4294967296→(wF 32 (m:Int)).toNat=m:=fun m hm=>by
  rw [BitVec.toNat_ofInt];omega
 rw [BitVec.toNat_or,e _ hq.2,e n (by omega),←Nat.two_pow_add_eq_or_of_lt hn]
 have:=hq.2
 omega
theorem qIw (a:Int):qyb a 1=some (rot a 1)∧qyb a 5=some (rot a 5)∧qyb a 30=some (rot a 30):=by
 have h1:qUa .u64 (wd .u64 1) 31=1:=by kernel_rfl
 have h5:qUa .u64 (wd .u64 5) 31=5:=by kernel_rfl
 have h30:qUa .u64 (wd .u64 30) 31=30:=by kernel_rfl
 have w1:wd .u64 ((32:Int) - 1)=32 - 1:=by kernel_rfl
 have w5:wd .u64 ((32:Int) - 5)=32 - 5:=by kernel_rfl
 have w30:wd .u64 ((32:Int) - 30)=32 - 30:=by kernel_rfl
 refine ⟨?_,?_,?_⟩ <;> rw [qom]
 ·rw [h1,w1,qfa (by omega),qfa (by omega)];rfl
 ·rw [h5,w5,qfa (by omega),qfa (by omega)];rfl
 ·rw [h30,w30,qfa (by omega),qfa (by omega)];rfl
theorem qhw (a s:Int) (h:0≤s∧s≤32):qAe a s=some (rot a s):=by
 rw [qxq,w64 (by omega) (by omega),qfa (by omega),qfa (by omega)];rfl
def qES (n:Int):Int:=wd .u64 (wd .u64 n*8)
def qZu (n:Int):Nat→List Int
 |0=>[]
 |k+1=>wd .u8 (qZk .u64 (qES n) (8*(k:Int)))::qZu n k
def qGH (n:Int):List Int:=[128]++wl ((119 - n%64)%64).toNat 0++qZu n 8
theorem qUC (n:Int):∀k,(qZu n k).length=k
 |0=>rfl
 |k+1=>by simp [qZu,qUC n k]
theorem qBQ (x:Int):0≤wd .u8 x∧wd .u8 x<256:=by rw [wu8];omega
theorem qVC (n:Int):∀k,Bts (qZu n k)
 |0=>Bts.nil
 |k+1=>Bts.cons (qBQ _) (qVC n k)
theorem qDN (n:Int):Bts (qGH n):=by
 refine Bts.append (Bts.append (Bts.cons (by omega) Bts.nil) (fun x hx=>?_)) (qVC n 8)
 have:=(List.mem_replicate.1 hx).2;omega
theorem qFH (n:Int) (h:0≤n):((n+(qGH n).length)%64=0∧(qGH n).length≤72):=by
 simp only [qGH,wn,wz,wX,wP,qUC]
 omega
theorem qKo (n:Int):∀(k:Nat) (h:List Int),k≤8→h.length+k≤1000→qbq n (8*(k:Int) - 8) h=some (h++qZu n k)
 |0,h,hk,hl=>by
  rw [qgs,if_neg (by simp)]
  simp [qZu]
 |k+1,h,hk,hl=>by
  have e:8*((k+1:Nat):Int) - 8=8*(k:Int):=by omega
  rw [e,qgs,if_pos (by simp;omega),qfa (by omega),qfa (by simp;omega),w64 (by omega) (by omega),qKo n k _ (by omega) (by simp;omega)]
  simp [qZu,qES]
theorem qeD (n:Int) (h:0≤n):qBF n=some (qGH n):=by
 rw [qVI,qfa (by omega),qfa (by omega),qng h,w64 (by omega) (by omega),qng (by omega),qfa (by omega),qfa (by omega),qfa (by omega),qfa (by simp;omega)]
 have:=qKo n 8 ([128]++wl ((119 - n%64)%64).toNat 0) (by omega) (by simp;omega)
 exact this
theorem qfx (n:Int):∀(k:Nat) (h:List Int),k≤8→h.length+k≤1000→qid n ((k:Int) - 1) h=some (h++qZu n k)
 |0,h,hk,hl=>by
  rw [qlg,if_neg (by simp)]
  simp [qZu]
 |k+1,h,hk,hl=>by
  have e:((k+1:Nat):Int) - 1=(k:Int):=by omega
  rw [e,qlg,if_pos (by simp),w64 (x:=8*(k:Int)) (by omega) (by omega),qfa (by omega),qfa (by simp;omega),w64 (x:=(k:Int) - 1) (by omega) (by omega),qfx n k _ (by omega) (by simp;omega)]
  have e2:(8:Int)*wd .u64 n=wd .u64 n*8:=Int.mul_comm _ _
  simp [qZu,qES,e2]
theorem qgx (n:Int) (hn:0≤n∧n≤1000000000):∀(j:Nat) (h:List Int),j<64→h.length+j≤200→(n+h.length+8+j)%64=0→qjd n h=some (h++wl j 0++qZu n 8)
 |0,h,hj,hl,hm=>by
  rw [qmg,qfa (by omega)]
  have hl':wi h.length=(h.length:Int):=rfl
  rw [hl',w64 (x:=n+(h.length:Int)) (by omega) (by omega),w64 (by omega) (by omega),qng (by omega),if_neg (by simp;omega)]
  have:=qfx n 8 h (by omega) (by omega)
  simpa using this
 |j+1,h,hj,hl,hm=>by
  rw [qmg,qfa (by omega)]
  have hl':wi h.length=(h.length:Int):=rfl
  rw [hl',w64 (x:=n+(h.length:Int)) (by omega) (by omega),w64 (by omega) (by omega),qng (by omega),if_pos (by simp;omega),qfa (by simp;omega),qgx n hn j (h++[0]) (by omega) (by simp;omega) (by simp;omega)]
  simp [wKa]
theorem qFD (n:Int) (hn:0≤n∧n≤1000000000):qtg n=some (qGH n):=by
 rw [qXn,qgx n hn ((119 - n%64)%64).toNat [128] (by omega) (by simp;omega) (by simp;omega)]
 rfl
theorem qSJ (a b:List Int) (h:a.length+b.length≤1000000):qJe [a,b]=some (a++b):=by
 have ha:wi a.length=(a.length:Int):=rfl
 have hb:wi b.length=(b.length:Int):=rfl
 rw [qYk]
 rw [qYc,if_pos (by simp),qfa (by omega),qfa (by simp)]
 simp only [List.getD_cons_zero,Int.toNat_zero,ha]
 rw [w64 (x:=0+(a.length:Int)) (by omega) (by omega),if_neg (by simp),w64 (x:=0+1) (by omega) (by omega)]
 rw [qYc,if_pos (by simp),qfa (by omega),qfa (by simp)]
 simp only [show (0+1:Int).toNat=1 from rfl,List.getD_cons_succ,List.getD_cons_zero,hb]
 rw [w64 (x:=0+(a.length:Int)+(b.length:Int)) (by omega) (by omega),if_neg (by simp <;> omega),w64 (x:=0+1+1) (by omega) (by omega)]
 rw [qYc,if_neg (by simp)]
 have hg:∃r,qFf (0+(a.length:Int)+(b.length:Int))=some (r,0,0):=by
  rw [qIm,if_neg (by simp;omega),w64 (by omega) (by omega)]
  by_cases hz:(0+(a.length:Int)+(b.length:Int)) - 0>0
  ·rw [if_pos (by simpa using hz),qfa (by omega),qfa (by omega),qfa (by omega),qfa (by omega),qfa (by omega),qfa (by simp;omega),qfa (by omega),qfa (by simp;omega)]
   exact ⟨_,rfl⟩
  ·rw [if_neg (by simpa using hz)];exact ⟨_,rfl⟩
 obtain ⟨r,hr⟩:=hg
 rw [hr]
 simp only [wq]
 rw [qyj,if_pos (by simp),qfa (by omega),qfa (by simp),qfa (by simp;omega),w64 (by omega) (by omega)]
 simp only [List.getD_cons_zero,Int.toNat_zero,List.take_zero,wV]
 rw [qVe,if_pos (by simp),qfa (by omega),qfa (by simp),qfa (by simp;omega),w64 (by omega) (by omega)]
 rw [qVe,if_neg (by simp)]
 rfl
def bt (x b:Int):Int:=wd .u32 (wd .u32 (x*256)+wd .u32 b)
theorem qCS (x b:Int):U32 (bt x b):=w_u _
def quP (b:List Int) (t:Nat):Int:=bt (bt (bt (wd .u32 (b.getD (4*t) 0)) (b.getD (4*t+1) 0)) (b.getD (4*t+2) 0)) (b.getD (4*t+3) 0)
def qco (b:List Int) (t:Nat):Nat→List Int
 |0=>[]
 |k+1=>quP b t::qco b (t+1) k
theorem qXg (b:List Int):∀(k t:Nat),(qco b t k).length=k
 |0,t=>rfl
 |k+1,t=>by simp [qco,qXg b k]
theorem qnM (b:List Int) (hb:b.length=64) (x y:List Int):∀(k t:Nat) (h:List Int),t+k=16→h.length=t→qle b (t:Int) x y h=qhd 16 x y (h++qco b t k)
 |0,t,h,e,hl=>by
  rw [qji,if_neg (by simp;omega)]
  simp [qco]
 |k+1,t,h,e,hl=>by
  have hb':wi b.length=64:=by rw [hb];rfl
  have e0:((4:Int)*(t:Int)).toNat=4*t:=by omega
  have e1:((4:Int)*(t:Int)+1).toNat=4*t+1:=by omega
  have e2:((4:Int)*(t:Int)+2).toNat=4*t+2:=by omega
  have e3:((4:Int)*(t:Int)+3).toNat=4*t+3:=by omega
  rw [qji,if_pos (by simp;omega),hb']
  simp only [w64 (x:=4*(t:Int)) (by omega) (by omega),w64 (x:=4*(t:Int)+1) (by omega) (by omega),w64 (x:=4*(t:Int)+2) (by omega) (by omega),w64 (x:=4*(t:Int)+3) (by omega) (by omega),w64 (x:=(t:Int)+1) (by omega) (by omega),e0,e1,e2,e3]
  rw [qfa (by omega),qfa (by omega),qfa (by omega),qfa (by omega),qfa (by omega),qfa (by omega),qfa (by omega),qfa (by omega),qfa (by simp;omega)]
  have ih:=qnM b hb x y k (t+1) (h++[quP b t]) (by omega) (by simp;omega)
  have ec:((t+1:Nat):Int)=(t:Int)+1:=by omega
  rw [ec] at ih
  simp only [wB,List.singleton_append] at ih
  exact ih
theorem qyt (W:List Int) (x v:Int) (R:List Int):(W++x::R).set W.length v=W++v::R:=by
 induction W with
 |nil=>rfl
 |cons a W ih=>simp [ih]
theorem qTL (W:List Int) (x:Int) (R:List Int):(W++x::R).getD W.length 0=x:=by
 induction W with
 |nil=>rfl
 |cons a W ih=>simp
theorem qHM {b:List Int} (h:Bts b) (i:Nat):0≤b.getD i 0∧b.getD i 0<256:=by
 rw [wu]
 cases hi:b[i]? with
 |none=>simp
 |some x=>exact h x (List.mem_of_getElem? hi)
theorem qsC (b:List Int) (hb:b.length=64) (hB:Bts b) (x y W R:List Int) (i t:Nat) (v:Int) (hv:U32 v) (hi:i<64) (ht:i/4=t) (hW:W.length=t):
  quk b 64 (i:Int) x y (W++v::R)=quk b 64 ((i:Int)+1) x y (W++bt v (b.getD i 0)::R):=by
 have hb':wi b.length=64:=by rw [hb];rfl
 have e:(wd .i64 (wFa (i:Int) 4))=(t:Int):=by
  rw [qfm (by omega),w64 (by omega) (by omega)];omega
 rw [qBu,if_pos (by simp;omega),hb',e]
 rw [qfa (by omega),qfa (by omega),qfa (by omega),qfa (by omega),qfa (by omega),qfa (by omega),qfa (by omega),qfa (by omega),qfa (by omega)]
 have et:((t:Int)).toNat=W.length:=by omega
 have ei:((i:Int)).toNat=i:=by omega
 rw [et,ei,qTL,qyt,qTP hv (qHM hB i),w64 (x:=(i:Int)+1) (by omega) (by omega)]
 rfl
theorem qxR (b:List Int) (hb:b.length=64) (hB:Bts b) (x y:List Int):∀(k t:Nat) (W:List Int),t+k=16→W.length=t→
  quk b 64 (4*(t:Int)) x y (W++wl k 0)=quk b 64 64 x y (W++qco b t k)
 |0,t,W,e,hl=>by
  have:4*(t:Int)=64:=by omega
  rw [this];rfl
 |k+1,t,W,e,hl=>by
  have c:∀j:Nat,((4*t+j:Nat):Int)=4*(t:Int)+(j:Int):=fun j=>by omega
  have s0:=qsC b hb hB x y W (wl k 0) (4*t) t 0 (by unfold U32;omega) (by omega) (by omega) hl
  have s1:=qsC b hb hB x y W (wl k 0) (4*t+1) t (bt 0 (b.getD (4*t) 0)) (qCS _ _) (by omega) (by omega) hl
  have s2:=qsC b hb hB x y W (wl k 0) (4*t+2) t (bt (bt 0 (b.getD (4*t) 0)) (b.getD (4*t+1) 0)) (qCS _ _) (by omega) (by omega) hl
  have s3:=qsC b hb hB x y W (wl k 0) (4*t+3) t (bt (bt (bt 0 (b.getD (4*t) 0)) (b.getD (4*t+1) 0)) (b.getD (4*t+2) 0)) (qCS _ _) (by omega) (by omega) hl
  rw [show ((4*t:Nat):Int)=4*(t:Int) by omega] at s0
  rw [show ((4*t+1:Nat):Int)=4*(t:Int)+1 by omega] at s1
  rw [show ((4*t+2:Nat):Int)=4*(t:Int)+1+1 by omega] at s2
  rw [show ((4*t+3:Nat):Int)=4*(t:Int)+1+1+1 by omega] at s3
  have h0:bt 0 (b.getD (4*t) 0)=wd .u32 (b.getD (4*t) 0):=by
   have:=qHM hB (4*t)
   simp only [bt,qXy];omega
  rw [wKa,s0,s1,s2,s3,h0]
  have ih:=qxR b hb hB x y k (t+1) (W++[quP b t]) (by omega) (by simp;omega)
  rw [show 4*((t+1:Nat):Int)=4*(t:Int)+1+1+1+1 by omega] at ih
  simp only [wB,List.singleton_append] at ih
  exact ih
def qLN (a b c d:Int):Int:=rot (qDb .u32 (qDb .u32 (qDb .u32 a b) c) d) 1
def sch:Nat→List Int→List Int
 |0,h=>h
 |k+1,h=>sch k (h++[qLN (h.getD (h.length - 3) 0) (h.getD (h.length - 8) 0) (h.getD (h.length - 14) 0) (h.getD (h.length - 16) 0)])
theorem qGK:∀(k:Nat) (h:List Int),(sch k h).length=h.length+k
 |0,h=>rfl
 |k+1,h=>by rw [sch,qGK k];simp;omega
theorem qpp {h r:List Int} {t:Nat} (ht:t<h.length):(h++r).getD t 0=h.getD t 0:=by
 simp [wu,List.getElem?_append_left ht]
theorem qlr:∀(k:Nat) (h:List Int) (t:Nat),t<h.length→(sch k h).getD t 0=h.getD t 0
 |0,h,t,ht=>rfl
 |k+1,h,t,ht=>by
  rw [sch,qlr k _ t (by simp;omega),qpp ht]
theorem qCO:∀(k:Nat) (h:List Int) (t:Nat),16≤h.length→h.length≤t→t<h.length+k→
  (sch k h).getD t 0=qLN ((sch k h).getD (t - 3) 0) ((sch k h).getD (t - 8) 0) ((sch k h).getD (t - 14) 0) ((sch k h).getD (t - 16) 0)
 |0,h,t,h1,h2,h3=>by omega
 |k+1,h,t,h1,h2,h3=>by
  by_cases he:t=h.length
  ·subst he
   rw [sch]
   rw [qlr k _ h.length (by simp),qlr k _ (h.length - 3) (by simp;omega),qlr k _ (h.length - 8) (by simp;omega),qlr k _ (h.length - 14) (by simp;omega),qlr k _ (h.length - 16) (by simp;omega)]
   rw [qTL,qpp (by omega),qpp (by omega),qpp (by omega),qpp (by omega)]
  ·rw [sch]
   exact qCO k _ t (by simp;omega) (by simp;omega) (by simp;omega)
theorem qmM (x y:List Int):∀(k t:Nat) (h:List Int),t+k=80→16≤t→h.length=t→qhd (t:Int) x y h=qgd 0 x y (sch k h) x
 |0,t,h,e,h1,hl=>by
  rw [qii,if_neg (by simp;omega)];rfl
 |k+1,t,h,e,h1,hl=>by
  have hl':wi h.length=(t:Int):=by rw [hl];rfl
  rw [qii,if_pos (by simp;omega),hl']
  simp only [w64 (x:=(t:Int) - 3) (by omega) (by omega),w64 (x:=(t:Int) - 8) (by omega) (by omega),w64 (x:=(t:Int) - 14) (by omega) (by omega),w64 (x:=(t:Int) - 16) (by omega) (by omega),w64 (x:=(t:Int)+1) (by omega) (by omega)]
  rw [qfa (by omega),qfa (by omega),qfa (by omega),qfa (by omega),qfa (by omega),qfa (by omega),qfa (by omega),qfa (by omega)]
  rw [show 0+((t:Int) - 3).toNat=h.length - 3 by omega,show 0+((t:Int) - 8).toNat=h.length - 8 by omega,show 0+((t:Int) - 14).toNat=h.length - 14 by omega,show 0+((t:Int) - 16).toNat=h.length - 16 by omega]
  rw [qhw _ 1 (by omega)]
  simp only [wq]
  rw [qfa (by simp;omega)]
  have ih:=qmM x y k (t+1) (h++[qLN (h.getD (h.length - 3) 0) (h.getD (h.length - 8) 0) (h.getD (h.length - 14) 0) (h.getD (h.length - 16) 0)]) (by omega) (by omega) (by simp;omega)
  rw [show ((t+1:Nat):Int)=(t:Int)+1 by omega] at ih
  exact ih
def ff (t:Nat) (b c d:Int):Int×Int:=
 if t<20 then (qrc .u32 (qUa .u32 b c) (qUa .u32 (qDb .u32 4294967295 b) d),1518500249)
 else if t<40 then (qDb .u32 (qDb .u32 b c) d,1859775393)
 else if t<60 then (qrc .u32 (qrc .u32 (qUa .u32 b c) (qUa .u32 b d)) (qUa .u32 c d),2400959708)
 else (qDb .u32 (qDb .u32 b c) d,3395469782)
theorem qhL (t:Nat) (b c d:Int):qHi (t:Int) b c d=some (ff t b c d):=by
 rw [qyq]
 unfold ff
 by_cases h1:t<20
 ·rw [if_pos (by simp;omega),if_pos h1]
 ·rw [if_neg (by simp;omega),if_neg h1]
  by_cases h2:t<40
  ·rw [if_pos (by simp;omega),if_pos h2]
  ·rw [if_neg (by simp;omega),if_neg h2]
   by_cases h3:t<60
   ·rw [if_pos (by simp;omega),if_pos h3]
   ·rw [if_neg (by simp;omega),if_neg h3]
theorem qMN (t:Nat) (b c d:Int) (ht:t<80):qCF (wd .i64 (wFa (t:Int) 20)) b c d=some (ff t b c d).1∧G_quarters.getD (wd .i64 (wFa (t:Int) 20)).toNat 0=(ff t b c d).2∧0≤wd .i64 (wFa (t:Int) 20)∧wd .i64 (wFa (t:Int) 20)<4:=by
 have e:wd .i64 (wFa (t:Int) 20)=((t/20:Nat):Int):=by
  rw [qfm (by omega),w64 (by omega) (by omega)];omega
 rw [e,qWI]
 unfold ff
 by_cases h1:t<20
 ·have:t/20=0:=by omega
  rw [this,if_pos (by simp),if_pos h1,qBS]
  exact ⟨rfl,rfl,by omega,by omega⟩
 ·rw [if_neg h1]
  by_cases h2:t<40
  ·have:t/20=1:=by omega
   rw [this,if_neg (by simp),if_neg (by simp),if_pos h2]
   exact ⟨rfl,rfl,by omega,by omega⟩
  ·rw [if_neg h2]
   by_cases h3:t<60
   ·have:t/20=2:=by omega
    rw [this,if_neg (by simp),if_pos (by simp),if_pos h3,qdR]
    exact ⟨rfl,rfl,by omega,by omega⟩
   ·have:t/20=3:=by omega
    rw [this,if_neg (by simp),if_neg (by simp),if_neg h3]
    exact ⟨rfl,rfl,by omega,by omega⟩
structure S5 where
 a:Int
 b:Int
 c:Int
 d:Int
 e:Int
def S5.l (s:S5):List Int:=[s.a,s.b,s.c,s.d,s.e]
def rd (t:Nat) (w:Int) (s:S5):S5:=
 ⟨wd .u32 (wd .u32 (wd .u32 (wd .u32 (rot s.a 5+(ff t s.b s.c s.d).1)+s.e)+(ff t s.b s.c s.d).2)+w),s.a,rot s.b 30,s.c,s.d⟩
def qOR (W:List Int):Nat→Nat→S5→S5
 |0,_,s=>s
 |k+1,t,s=>qOR W k (t+1) (rd t (W.getD t 0) s)
theorem qlM (x y W:List Int) (hW:W.length=80):∀(k t:Nat) (s:S5),t+k=80→qgd (t:Int) x y W s.l=qfd 0 x y (qOR W k t s).l
 |0,t,s,e=>by
  rw [qhi,if_neg (by simp;omega)];rfl
 |k+1,t,s,e=>by
  have hl':wi W.length=80:=by rw [hW];rfl
  have g0:s.l.getD 0 0=s.a:=rfl
  have g1:s.l.getD 1 0=s.b:=rfl
  have g2:s.l.getD 2 0=s.c:=rfl
  have g3:s.l.getD 3 0=s.d:=rfl
  have g4:s.l.getD 4 0=s.e:=rfl
  rw [qhi,if_pos (by simp;omega),hl']
  simp only [g0,g1,g2,g3,g4,qhL,qhw _ 5 (by omega),qhw _ 30 (by omega),wq,w64 (x:=(t:Int)+1) (by omega) (by omega),show 0+((t:Int)).toNat=t by omega]
  repeat rw [qfa (by omega)]
  have ih:=qlM x y W hW k (t+1) (rd t (W.getD t 0) s) (by omega)
  rw [show ((t+1:Nat):Int)=(t:Int)+1 by omega] at ih
  exact ih
def qXS (x:List Int) (s:S5):List Int:=[wd .u32 (x.getD 0 0+s.a),wd .u32 (x.getD 1 0+s.b),wd .u32 (x.getD 2 0+s.c),wd .u32 (x.getD 3 0+s.d),wd .u32 (x.getD 4 0+s.e)]
theorem qkQ (y:List Int) (x s:S5):qfd 0 x.l y s.l=some (qXS x.l s):=by
 have g:∀s:S5,s.l.getD 0 0=s.a∧s.l.getD 1 0=s.b∧s.l.getD 2 0=s.c∧s.l.getD 3 0=s.d∧s.l.getD 4 0=s.e:=fun s=>⟨rfl,rfl,rfl,rfl,rfl⟩
 have n1:wd .i64 (0+1)=1:=by kernel_rfl
 have n2:wd .i64 (1+1)=2:=by kernel_rfl
 have n3:wd .i64 (2+1)=3:=by kernel_rfl
 have n4:wd .i64 (3+1)=4:=by kernel_rfl
 have n5:wd .i64 (4+1)=5:=by kernel_rfl
 rw [qNb,if_pos (by simp),n1]
 repeat rw [qfa (by omega)]
 rw [qNb,if_pos (by simp),n2]
 repeat rw [qfa (by omega)]
 rw [qNb,if_pos (by simp),n3]
 repeat rw [qfa (by omega)]
 rw [qNb,if_pos (by simp),n4]
 repeat rw [qfa (by omega)]
 rw [qNb,if_pos (by simp),n5]
 repeat rw [qfa (by omega)]
 rw [qNb,if_neg (by simp)]
 rfl
def blk (x:S5) (b:List Int):S5:=
 let s:=qOR (sch 64 (qco b 0 16)) 80 0 x
 ⟨wd .u32 (x.a+s.a),wd .u32 (x.b+s.b),wd .u32 (x.c+s.c),wd .u32 (x.d+s.d),wd .u32 (x.e+s.e)⟩
theorem qaN (x:S5) (b:List Int) (hb:b.length=64):qIi x.l b=some (blk x b).l:=by
 have h1:=qnM b hb x.l (wl 5 0) 16 0 [] rfl rfl
 have h2:=qmM x.l (wl 5 0) 64 16 (qco b 0 16) rfl (by omega) (qXg b 16 0)
 have h3:=qlM x.l (wl 5 0) (sch 64 (qco b 0 16)) (by rw [qGK,qXg]) 80 0 x rfl
 rw [qzq]
 refine h1.trans ?_
 rw [wV]
 refine Eq.trans h2 (Eq.trans h3 ?_)
 rw [qkQ];rfl
def qJS (W:List Int) (t:Nat) (r:List Int):Prop:=r.length=16∧∀i,i<max t 16→max t 16≤i+16→r.getD (i%16) 0=W.getD i 0
theorem qdI {r:List Int} {i j:Nat} {v:Int} (hi:i<r.length):(r.set i v).getD j 0=if i=j then v else r.getD j 0:=by
 simp only [wu,List.getElem?_set]
 by_cases h:i=j
 ·subst h;simp [hi]
 ·simp [h]
theorem qmQ (x y W:List Int) (hW:∀t,16≤t→t<80→W.getD t 0=qLN (W.getD (t - 3) 0) (W.getD (t - 8) 0) (W.getD (t - 14) 0) (W.getD (t - 16) 0)):
  ∀(k t:Nat) (s:S5) (r:List Int),t+k=80→qJS W t r→qLo s.a s.b s.c s.d s.e (t:Int) x y r=some (qXS x (qOR W k t s))
 |0,t,s,r,e,hr=>by
  rw [qAu,if_neg (by simp;omega)]
  repeat rw [qfa (by omega)]
  rfl
 |k+1,t,s,r,e,hr=>by
  obtain ⟨m1,m2,m3,m4⟩:=qMN t s.b s.c s.d (by omega)
  obtain ⟨r1,r5,r30⟩:=qIw s.a
  obtain ⟨_,_,q30⟩:=qIw s.b
  have et:(wnb (t:Int) 16)=((t%16:Nat):Int):=by rw [qng (by omega)];omega
  have ett:(((t%16:Nat):Int)).toNat=t%16:=by omega
  rw [qAu,if_pos (by simp;omega)]
  by_cases h16:16≤t
  ·have e13:(wnb (wd .i64 ((t:Int)+13)) 16)=(((t - 3)%16:Nat):Int):=by rw [w64 (by omega) (by omega),qng (by omega)];omega
   have e8:(wnb (wd .i64 ((t:Int)+8)) 16)=(((t - 8)%16:Nat):Int):=by rw [w64 (by omega) (by omega),qng (by omega)];omega
   have e2:(wnb (wd .i64 ((t:Int)+2)) 16)=(((t - 14)%16:Nat):Int):=by rw [w64 (by omega) (by omega),qng (by omega)];omega
   have e0:t%16=(t - 16)%16:=by omega
   have v13:=hr.2 (t - 3) (by omega) (by omega)
   have v8:=hr.2 (t - 8) (by omega) (by omega)
   have v2:=hr.2 (t - 14) (by omega) (by omega)
   have v0:=hr.2 (t - 16) (by omega) (by omega)
   rw [←e0] at v0
   have hn:rot (qDb .u32 (qDb .u32 (qDb .u32 (r.getD ((t - 3)%16) 0) (r.getD ((t - 8)%16) 0)) (r.getD ((t - 14)%16) 0)) (r.getD (t%16) 0)) 1=W.getD t 0:=by
    rw [v13,v8,v2,v0,hW t h16 (by omega)];rfl
   rw [if_pos (by simp;omega)]
   simp only [et,e13,e8,e2,(qIw _).1,r5,q30,m1,m2,wq,w64 (x:=(t:Int)+1) (by omega) (by omega),wv,hn]
   repeat rw [qfa (by omega)]
   have hr':qJS W (t+1) (r.set (t%16) (W.getD t 0)):=by
    refine ⟨by simp [hr.1],fun i h1 h2=>?_⟩
    rw [qdI (by rw [hr.1];omega)]
    by_cases hi:i=t
    ·subst hi;rw [if_pos rfl]
    ·rw [if_neg (by omega)]
     exact hr.2 i (by omega) (by omega)
   have hg:(r.set (t%16) (W.getD t 0)).getD (t%16) 0=W.getD t 0:=by
    rw [qdI (by rw [hr.1];omega),if_pos rfl]
   have ih:=qmQ x y W hW k (t+1) (rd t (W.getD t 0) s) _ (by omega) hr'
   rw [show ((t+1:Nat):Int)=(t:Int)+1 by omega] at ih
   rw [hg]
   exact ih
  ·have v0:=hr.2 t (by omega) (by omega)
   rw [if_neg (by simp;omega)]
   simp only [et,r5,q30,m1,m2,wq,w64 (x:=(t:Int)+1) (by omega) (by omega),wv,v0]
   repeat rw [qfa (by omega)]
   have hr':qJS W (t+1) r:=⟨hr.1,fun i h1 h2=>hr.2 i (by omega) (by omega)⟩
   have ih:=qmQ x y W hW k (t+1) (rd t (W.getD t 0) s) _ (by omega) hr'
   rw [show ((t+1:Nat):Int)=(t:Int)+1 by omega] at ih
   exact ih
theorem qlQ (x:S5) (b:List Int) (hb:64≤b.length) (hB:Bts b):qFK x.l b=some (blk x (b.take 64)).l:=by
 have hl:(b.take 64).length=64:=by simp;omega
 have hl':wi (b.take 64).length=64:=by rw [hl];rfl
 rw [qEK,qfa (by omega),qfa (by simp;omega),hl']
 have h1:=qxR (b.take 64) hl (hB.take 64) x.l (wl 5 0) 16 0 [] rfl rfl
 refine Eq.trans h1 ?_
 rw [wV,qBu,if_neg (by simp)]
 repeat rw [qfa (by omega)]
 have hW:∀t,16≤t→t<80→_:=fun t h1 h2=>qCO 64 (qco (b.take 64) 0 16) t (by rw [qXg];omega) (by rw [qXg];exact h1) (by rw [qXg];omega)
 have h2:=qmQ x.l (wl 5 0) (sch 64 (qco (b.take 64) 0 16)) hW 80 0 x (qco (b.take 64) 0 16) rfl ⟨qXg _ _ _,fun i h1 h2=>by
  have hi:i<16:=by omega
  rw [qlr 64 _ i (by rw [qXg];exact hi),Nat.mod_eq_of_lt hi]⟩
 refine Eq.trans h2 ?_
 rfl
def qBk (l:List Int) (i:Nat):Int:=wd .u8 (qZk .u32 (l.getD (i/4) 0) (24 - 8*((i%4:Nat):Int)))
def qEN (l:List Int) (t:Nat):Nat→List Int
 |0=>[]
 |k+1=>qBk l t::qEN l (t+1) k
theorem qHH (l:List Int):∀(k t:Nat),(qEN l t k).length=k
 |0,t=>rfl
 |k+1,t=>by simp [qEN,qHH l k]
theorem qIH (l:List Int):∀(k t:Nat),Bts (qEN l t k)
 |0,t=>Bts.nil
 |k+1,t=>Bts.cons (qBQ _) (qIH l k _)
theorem qaR (x l:List Int):∀(k t:Nat) (P:List Int),t+k=20→P.length=t→qrf (t:Int) x l (P++wl k 0)=some (P++qEN l t k)
 |0,t,P,e,hl=>by
  rw [quj,if_neg (by simp;omega)];rfl
 |k+1,t,P,e,hl=>by
  have e1:wd .i64 (wFa (t:Int) 4)=((t/4:Nat):Int):=by
   rw [qfm (by omega),w64 (by omega) (by omega)];omega
  have e2:wd .i64 (8*(wnb (t:Int) 4))=8*((t%4:Nat):Int):=by
   rw [qng (by omega),w64 (by omega) (by omega)];omega
  have e3:wd .i64 (24 - 8*((t%4:Nat):Int))=24 - 8*((t%4:Nat):Int):=w64 (by omega) (by omega)
  rw [quj,if_pos (by simp;omega),e1,e2,e3,w64 (x:=(t:Int)+1) (by omega) (by omega)]
  repeat rw [qfa (by omega)]
  rw [show ((t:Int)).toNat=P.length by omega,show (((t/4:Nat):Int)).toNat=t/4 by omega,wKa,qyt]
  have ih:=qaR x l k (t+1) (P++[qBk l t]) (by omega) (by simp;omega)
  rw [show ((t+1:Nat):Int)=(t:Int)+1 by omega] at ih
  simp only [wB,List.singleton_append] at ih
  exact ih
theorem qzO (l:List Int):∀(k t:Nat) (P:List Int),t+k=5→P.length=4*t→qcq l (t:Int) (P++wl (4*k) 0)=some (P++qEN l (4*t) (4*k),0)
 |0,t,P,e,hl=>by
  rw [qhs,if_neg (by simp;omega)];rfl
 |k+1,t,P,e,hl=>by
  rw [qhs,if_pos (by simp;omega)]
  simp only [w64 (x:=4*(t:Int)) (by omega) (by omega),w64 (x:=4*(t:Int)+1) (by omega) (by omega),w64 (x:=4*(t:Int)+2) (by omega) (by omega),w64 (x:=4*(t:Int)+3) (by omega) (by omega),w64 (x:=(t:Int)+1) (by omega) (by omega)]
  repeat rw [qfa (by omega)]
  rw [show ((t:Int)).toNat=t by omega,show (4*(t:Int)).toNat=P.length by omega]
  have s0:wd .u8 (wR (l.getD t 0) 16777216)=qBk l (4*t):=by
   unfold qBk qZk
   rw [show 4*t/4=t by omega,show 4*t%4=0 by omega];rfl
  have s1:wd .u8 (wR (l.getD t 0) 65536)=qBk l (4*t+1):=by
   unfold qBk qZk
   rw [show (4*t+1)/4=t by omega,show (4*t+1)%4=1 by omega];rfl
  have s2:wd .u8 (wR (l.getD t 0) 256)=qBk l (4*t+2):=by
   unfold qBk qZk
   rw [show (4*t+2)/4=t by omega,show (4*t+2)%4=2 by omega];rfl
  have s3:wd .u8 (l.getD t 0)=qBk l (4*t+3):=by
   unfold qBk qZk
   rw [show (4*t+3)/4=t by omega,show (4*t+3)%4=3 by omega]
   have:(2:Int) ^ (min ((24:Int) - 8*((3:Nat):Int)).toNat (IntKind.bits .u32))=1:=rfl
   rw [this,Int.fdiv_one]
  rw [s0,s1,s2,s3,show 4*(k+1)=4*k+1+1+1+1 by omega,wKa,wKa,wKa,wKa,qyt]
  have a1:=qyt (P++[qBk l (4*t)]) 0 (qBk l (4*t+1)) (0::0::wl (4*k) 0)
  have a2:=qyt (P++[qBk l (4*t),qBk l (4*t+1)]) 0 (qBk l (4*t+2)) (0::wl (4*k) 0)
  have a3:=qyt (P++[qBk l (4*t),qBk l (4*t+1),qBk l (4*t+2)]) 0 (qBk l (4*t+3)) (wl (4*k) 0)
  simp only [wB,wca,wV,wn,wz,wX] at a1 a2 a3
  rw [show (4*(t:Int)+1).toNat=P.length+(0+1) by omega,a1,show (4*(t:Int)+2).toNat=P.length+(0+1+1) by omega,a2,show (4*(t:Int)+3).toNat=P.length+(0+1+1+1) by omega,a3]
  have ih:=qzO l k (t+1) (P++[qBk l (4*t),qBk l (4*t+1),qBk l (4*t+2),qBk l (4*t+3)]) (by omega) (by simp;omega)
  rw [show ((t+1:Nat):Int)=(t:Int)+1 by omega] at ih
  simp only [wB,wca,wV] at ih
  exact ih
def qER:Nat→S5→List Int→S5
 |0,x,_=>x
 |k+1,x,m=>qER k (blk x (m.take 64)) (m.drop 64)
theorem qAO:∀(k:Nat) (x:S5) (m:List Int),m.length=64*k→Bts m→qdq m (wl 20 0) x.l=some (qEN (qER k x m).l 0 20,0)
 |0,x,m,hl,hB=>by
  obtain rfl:m=[]:=List.eq_nil_of_length_eq_zero (by omega)
  rw [qis,if_neg (by simp)]
  exact qzO x.l 5 0 [] rfl rfl
 |k+1,x,m,hl,hB=>by
  rw [qis,if_pos (by rw [decide_eq_true_eq];have:wi m.length=(m.length:Int):=rfl;omega),qlQ x m (by omega) hB]
  simp only [wq]
  rw [qfa (by omega),qfa (by simp;omega)]
  exact qAO k _ (m.drop 64) (by simp;omega) (hB.drop 64)
theorem qbR (x0 m:List Int) (K:Nat) (hm:m.length=64*K) (hK:K≤100000):∀(k t:Nat) (x:S5),t+k=K→qsf (64*(t:Int)) x0 m x.l=some (qEN (qER k x (m.drop (64*t))).l 0 20)
 |0,t,x,e=>by
  have hl:wi m.length=(64*K:Nat):=by rw [hm];rfl
  rw [qvj,hl,if_neg (by simp;omega)]
  exact qaR x0 x.l 20 0 [] rfl rfl
 |k+1,t,x,e=>by
  have hl:wi m.length=(64*K:Nat):=by rw [hm];rfl
  rw [qvj,hl,if_pos (by simp;omega),w64 (by omega) (by omega)]
  repeat rw [qfa (by omega)]
  rw [show (64*(t:Int)+64).toNat - (64*(t:Int)).toNat=64 by omega,show 0+(64*(t:Int)).toNat=64*t by omega,qaN x _ (by simp;omega)]
  simp only [wq]
  have ih:=qbR x0 m K hm hK k (t+1) (blk x ((m.drop (64*t)).take 64)) (by omega)
  rw [show 64*((t+1:Nat):Int)=64*(t:Int)+64 by omega] at ih
  rw [ih]
  simp only [qER,wda]
  rw [show 64*(t+1)=64*t+64 by omega]
def iv:S5:=⟨1732584193,4023233417,2562383102,271733878,3285377520⟩
def qCm (a:List Int):List Int:=qEN (qER ((a++qGH a.length).length/64) iv (a++qGH a.length)).l 0 20
theorem qLi (a:List Int):(qCm a).length=20:=qHH _ _ _
theorem qkH (a:List Int):Bts (qCm a):=qIH _ _ _
theorem qYG (a:List Int) (h:a.length≤1000000):qZf a=some (qCm a):=by
 have hp:=qFH (a.length:Int) (by omega)
 have ha:wi a.length=(a.length:Int):=rfl
 rw [qgt,qfa (by simp;omega),ha,qFD _ ⟨by omega,by omega⟩]
 simp only [wq,qSp,wV]
 rw [qfa (by simp;omega)]
 have hm:(a++qGH a.length).length=64*((a++qGH a.length).length/64):=by
  simp only [wn];omega
 exact qbR (wl 20 0) (a++qGH a.length) _ hm (by simp only [wn];omega) _ 0 iv (by omega)
theorem qew (a:List Int) (hB:Bts a):qxt a=some (if a.length≤20000 then (qCm a,0) else (wl 20 0,4)):=by
 have ha:wi a.length=(a.length:Int):=rfl
 rw [qXI,ha]
 by_cases h:a.length≤20000
 ·have hp:=qFH (a.length:Int) (by omega)
  rw [if_neg (by simp;omega),if_pos h,qeD _ (by omega)]
  simp only [wq]
  rw [qSJ _ _ (by omega)]
  simp only [wq]
  have hm:(a++qGH a.length).length=64*((a++qGH a.length).length/64):=by
   simp only [wn];omega
  exact qAO _ iv (a++qGH a.length) hm (hB.append (qDN _))
 ·rw [if_pos (by simp;omega),if_neg h]
def hOK (h:qga):Prop:=0≤h.2.1∧h.2.1<16∧1≤h.2.2.2.1∧h.2.2.2.1≤4096∧0≤h.2.2.1∧h.2.2.1+h.2.2.2.1≤8192∧((h.1=1∧h.2.2.2.2.1=h.2.2.2.1)∨(h.1=2∧0<h.2.2.2.2.1∧h.2.2.2.2.1<h.2.2.2.1))
instance (h:qga):Decidable (hOK h):=by unfold hOK;infer_instance
def hC (h:qga):Int:=if hOK h then 0 else 8
theorem que (h:qga):qch h=some (hC h):=by
 rw [qUx]
 obtain ⟨m,mem,off,raw,len,sum,u⟩:=h
 simp only [hC,decide_eq_true_eq,beq_iff_eq]
 by_cases hr:1≤raw∧raw≤4096
 ·rw [w64 (by omega) (by omega)]
  by_cases ok:hOK (m,mem,off,raw,len,sum,u)
  ·rw [if_pos ok];simp only [hOK] at ok
   rw [if_neg (by omega),if_neg (by omega),if_neg (by omega),if_neg (by omega),if_neg (by omega),if_neg (by omega)]
   rcases ok.2.2.2.2.2.2 with ⟨h1,h2⟩|⟨h1,h2,h3⟩
   ·rw [if_pos h1,if_pos h2,if_pos h2]
   ·rw [if_neg (by omega),if_pos h1,if_pos h2,if_pos h3]
  ·rw [if_neg ok];simp only [hOK] at ok
   by_cases h1:mem<0
   ·rw [if_pos h1]
   by_cases h2:mem≥16
   ·rw [if_neg h1,if_pos h2,if_pos h2]
   by_cases h3:off<0
   ·rw [if_neg h1,if_neg h2,if_neg (by omega),if_neg (by omega),if_pos h3]
   by_cases h4:off>8192 - raw
   ·rw [if_neg h1,if_neg h2,if_neg (by omega),if_neg (by omega),if_neg h3,if_pos h4]
   rw [if_neg h1,if_neg h2,if_neg (by omega),if_neg (by omega),if_neg h3,if_neg h4]
   by_cases h5:m=1
   ·rw [if_pos h5,if_neg (by omega),if_neg (by omega)]
   by_cases h6:m=2
   ·rw [if_neg h5,if_pos h6]
    by_cases h7:len>0
    ·rw [if_pos h7,if_neg (by omega)]
    ·rw [if_neg h7]
   ·rw [if_neg h5,if_neg h6]
 ·rw [if_neg (show ¬hOK (m,mem,off,raw,len,sum,u) from fun ok=>hr (by simp only [hOK] at ok;omega))]
  by_cases h1:mem<0
  ·rw [if_pos h1]
  by_cases h2:mem≥16
  ·rw [if_neg h1,if_pos h2,if_pos h2]
  by_cases h3:raw<1
  ·rw [if_neg h1,if_neg h2,if_pos h3]
  ·rw [if_neg h1,if_neg h2,if_neg h3,if_pos (by omega),if_pos (by omega)]
theorem qiv (h:qga):qfi h=some (hC h):=by
 rw [qPp]
 obtain ⟨m,mem,off,raw,len,sum,u⟩:=h
 simp only [hC,decide_eq_true_eq,beq_iff_eq,wRa,decide_eq_false_iff_not,beq_eq_false_iff_ne]
 by_cases hr:1≤raw∧raw≤4096
 ·rw [w64 (by omega) (by omega)]
  by_cases ok:hOK (m,mem,off,raw,len,sum,u)
  ·rw [if_pos ok];simp only [hOK] at ok
   rw [if_neg (by omega),if_neg (by omega),if_neg (by omega),if_neg (by omega),if_neg (by omega),if_neg (by omega)]
   rcases ok.2.2.2.2.2.2 with ⟨h1,h2⟩|⟨h1,h2,h3⟩
   ·rw [if_pos h1,if_neg (by omega),if_neg (by omega)]
   ·rw [if_neg (by omega),if_pos h1,if_pos (by omega),if_neg (by omega)]
  ·rw [if_neg ok];simp only [hOK] at ok
   by_cases h1:mem<0
   ·rw [if_pos h1]
   by_cases h2:mem≥16
   ·rw [if_neg h1,if_pos h2]
   by_cases h3:off<0
   ·rw [if_neg h1,if_neg h2,if_neg (by omega),if_neg (by omega),if_pos h3]
   by_cases h4:off>8192 - raw
   ·rw [if_neg h1,if_neg h2,if_neg (by omega),if_neg (by omega),if_neg h3,if_pos h4]
   rw [if_neg h1,if_neg h2,if_neg (by omega),if_neg (by omega),if_neg h3,if_neg h4]
   by_cases h5:m=1
   ·rw [if_pos h5,if_neg (by omega),if_pos (by omega)]
   by_cases h6:m=2
   ·rw [if_neg h5,if_pos h6]
    by_cases h7:len≥1
    ·rw [if_pos h7,if_pos (by omega)]
    ·rw [if_neg h7]
   ·rw [if_neg h5,if_neg h6]
 ·rw [if_neg (show ¬hOK (m,mem,off,raw,len,sum,u) from fun ok=>hr (by simp only [hOK] at ok;omega))]
  by_cases h1:mem<0
  ·rw [if_pos h1]
  by_cases h2:mem≥16
  ·rw [if_neg h1,if_pos h2]
  by_cases h3:raw<1
  ·rw [if_neg h1,if_neg h2,if_pos h3]
  ·rw [if_neg h1,if_neg h2,if_neg h3,if_pos (by omega)]
def bC (b:qda):Int:=if hOK b.1∧(b.2.1.length:Int)=b.1.2.2.2.2.1 then 0 else 8
theorem qUN (h:qga):(hC h != 0)=true↔¬hOK h:=by
 unfold hC;split <;> simp_all
theorem qzo (b:qda):qTr b=some (bC b):=by
 rw [qjA,que]
 simp only [wq,qUN]
 simp only [bC,bne_iff_ne,ne_eq,wj]
 by_cases h1:hOK b.1 <;> by_cases h2:(b.2.1.length:Int)=b.1.2.2.2.2.1 <;> simp [h1,h2]
def fr8 (h:qga):List Int:=[h.1%256,h.2.1%256,(h.2.2.1/256)%256,h.2.2.1%256,(h.2.2.2.1/256)%256,h.2.2.2.1%256,(h.2.2.2.2.1/256)%256,h.2.2.2.2.1%256]
theorem qQS (a:Int):qZk .i64 a 0=a:=by rw [qDK _ _ (by omega) (by omega)];simp
theorem qZS (a:Int):qZk .i64 a 8=a/256:=by rw [qDK _ _ (by omega) (by omega)];rfl
theorem qgK (n:Int) (h:-9223372036854775808≤n∧n≤9223372036854775807):wd .i64 n=n:=w64 h.1 h.2
theorem qhE (v18:List Int) (v19:Int) (h8:List Int) (v:Int) (h0:0≤v19) (h4:v19<5) (hw:G_widths.getD v19.toNat 0=1) (hv:v18.getD v19.toNat 0=v) (hl:h8.length≤100):
  qsd v18 v19 h8=qsd v18 (v19+1) (h8++[v%256]):=by
 rw [qJh,if_pos (by simpa using h4),qfa h0,qfa h4,qfa h0,qfa h4,hw,hv]
 rw [qRd,if_pos (by decide),qfa h0,qfa h4,hw]
 rw [qgK ((1:Int) - 1) (by omega),qgK ((1:Int) - 1 - 0) (by omega),qgK ((8:Int)*(1 - 1 - 0)) (by omega),qgK ((0:Int)+1) (by omega)]
 rw [qfa (by omega),qfa (by simp;omega)]
 rw [qRd,if_neg (by decide),w64 (x:=v19+1) (by omega) (by omega),wu8]
 rw [show (8*(1 - 1 - 0):Int)=0 by decide,qQS]
theorem qby (v18:List Int) (v19:Int) (h8:List Int) (v:Int) (h0:0≤v19) (h4:v19<5) (hw:G_widths.getD v19.toNat 0=2) (hv:v18.getD v19.toNat 0=v) (hl:h8.length≤100):
  qsd v18 v19 h8=qsd v18 (v19+1) (h8++[(v/256)%256,v%256]):=by
 rw [qJh,if_pos (by simpa using h4),qfa h0,qfa h4,qfa h0,qfa h4,hw,hv]
 rw [qRd,if_pos (by decide),qfa h0,qfa h4,hw]
 rw [qgK ((2:Int) - 1) (by omega),qgK ((2:Int) - 1 - 0) (by omega),qgK ((8:Int)*(2 - 1 - 0)) (by omega),qgK ((0:Int)+1) (by omega)]
 rw [qfa (by omega),qfa (by simp;omega)]
 rw [qRd,if_pos (by decide),qfa h0,qfa h4,hw]
 rw [qgK ((2:Int) - 1) (by omega),qgK ((2:Int) - 1 - (0+1)) (by omega),qgK ((8:Int)*(2 - 1 - (0+1))) (by omega),qgK ((0:Int)+1+1) (by omega)]
 rw [qfa (by omega),qfa (by simp;omega)]
 rw [qRd,if_neg (by decide),w64 (x:=v19+1) (by omega) (by omega),wu8,wu8]
 rw [show (8*(2 - 1 - 0):Int)=8 by decide,show (8*(2 - 1 - (0+1)):Int)=0 by decide,qQS,qZS]
 simp
theorem qTt (h:qga) (hm:0≤h.1∧h.1<256):qlp h=some (fr8 h):=by
 rw [qSx,w64 (by omega) (by omega)]
 simp only [wl,List.set_cons_zero,List.set_cons_succ]
 rw [qhE _ 0 _ h.1 (by decide) (by decide) (by decide) rfl (by decide)]
 rw [qhE _ (0+1) _ h.2.1 (by decide) (by decide) (by decide) rfl (by simp)]
 rw [qby _ (0+1+1) _ h.2.2.1 (by decide) (by decide) (by decide) rfl (by simp)]
 rw [qby _ (0+1+1+1) _ h.2.2.2.1 (by decide) (by decide) (by decide) rfl (by simp)]
 rw [qby _ (0+1+1+1+1) _ h.2.2.2.2.1 (by decide) (by decide) (by decide) rfl (by simp)]
 rw [qJh,if_neg (by decide)]
 simp [fr8]
theorem qjo (h:qga) (hm:0≤h.1∧h.1<256):qpf h=some (fr8 h):=by
 rw [qOp]
 simp only [qUr,wu8,qJg _ (show (0:Int)<256 by decide)]
 rw [qfa (by decide)]
 simp only [wq]
 rw [qfa (by simp),qfa (by decide)]
 simp only [wq]
 rw [qfa (by simp),qfa (by decide)]
 simp only [wq]
 rw [qfa (by simp)]
 simp only [fr8,wca,wV]
 rw [Int.emod_eq_of_lt hm.1 hm.2]
def mark:List Int:=[183,98,105,116,108,111,102,116,32,98,108,107,10]
theorem qRm:qDl=some mark:=by rw [qFx,qfa (by decide)];rfl
theorem qzj:qqf=some mark:=by rw [qRp];rfl
def hB (h:qga):List Int:=fr8 h++h.2.2.2.2.2.1
theorem qXt (h:qga):(fr8 h).length=8:=rfl
def bB (b:qda):List Int:=mark++hB b.1++b.2.1
def bWf (b:qda):Prop:=(0≤b.1.1∧b.1.1<256)∧b.1.2.2.2.2.2.1.length=20
theorem qJH (a b:Nat) (ha:a<4294967296) (hb:b<256):qrc .i64 ((a:Int)*256) (b:Int)=(a:Int)*256+b:=by
 unfold qrc
 have h1:wF 64 ((a:Int)*256)=BitVec.ofNat 64 (a*256):=by
  rw [show (a:Int)*256=((a*256:Nat):Int) by omega];exact BitVec.ofInt_natCast _ _
 have h2:wF 64 (b:Int)=BitVec.ofNat 64 b:=BitVec.ofInt_natCast _ _
 show wd .i64 ((wF 64 ((a:Int)*256) ||| wF 64 (b:Int)).toNat:Int)=_
 rw [h1,h2,BitVec.toNat_or,BitVec.toNat_ofNat,BitVec.toNat_ofNat,Nat.mod_eq_of_lt (by omega),Nat.mod_eq_of_lt (by omega)]
 have h3:=Nat.two_pow_add_eq_or_of_lt (i:=8) (b:=b) (by omega) a
 rw [show a*256=2 ^ 8*a by omega,←h3,w64 (by omega) (by omega)]
 omega
theorem qFN {x y:Int} (hx:0≤x∧x<4294967296) (hy:0≤y∧y<256):qrc .i64 (x*256) y=x*256+y:=by
 obtain ⟨a,rfl⟩:=whb hx.1
 obtain ⟨b,rfl⟩:=whb hy.1
 exact qJH a b (by omega) (by omega)
theorem qgE {α:Type} (xs:List α) (i:Nat) (x d:α) (h:i<xs.length):(xs.set i x).getD i d=x:=by
 simp [wm,h]
theorem Bts.getD {xs:List Int} (h:Bts xs) (i:Nat):0≤xs.getD i 0∧xs.getD i 0<256:=by
 by_cases hi:i<xs.length
 ·simp only [wu,wx hi,wcb];exact h _ (List.getElem_mem hi)
 ·simp [wu,List.getElem?_eq_none (by omega:xs.length≤i)]
theorem qGt (v0:List Int) (v5 v17 v18:Int) (b8:qga) (b9:List Int) (h0:0≤v5) (h5:v5<5) (hlt:v18<v17) (h18:0≤v18) (h17:v17≤2) (hb:Bts v0) (hl:0<v0.length) (hx:0≤b9.getD v5.toNat 0∧b9.getD v5.toNat 0<256):
  qRf v0 v5 G_widths v5 v17 v18 b8 b9=qRf (v0.drop 1) v5 G_widths v5 v17 (v18+1) b8 (b9.set v5.toNat (b9.getD v5.toNat 0*256+v0.getD 0 0)):=by
 have hy:=hb.getD 0
 rw [qKh,if_pos (by simpa using hlt)]
 rw [qfa h0,qfa h5,qfa (by decide),qfa (by decide),qfa (by simp only [wj];omega),qfa h0,qfa h5,qfa (by decide),qfa (by simp only [wj];omega)]
 rw [w64 (x:=v18+1) (by omega) (by omega),w64 (x:=b9.getD v5.toNat 0*256) (by omega) (by omega),w64 (x:=v0.getD 0 0) (by omega) (by omega),qFN ⟨hx.1,by omega⟩ hy]
theorem qED (v0:List Int) (v5:Int) (b8:qga) (b9:List Int) (h0:0≤v5) (h5:v5<5) (hw:G_widths.getD v5.toNat 0=1) (hb:Bts v0) (hl:0<v0.length) (hx:b9.getD v5.toNat 0=0) (hn:b9.length=5):
  qtd v0 G_widths v5 b8 b9=qtd (v0.drop 1) G_widths (v5+1) b8 (b9.set v5.toNat (v0.getD 0 0)):=by
 rw [qLh,if_pos (by simpa using h5),qfa h0,qfa h5,hw,qGt v0 v5 1 0 b8 b9 h0 h5 (by decide) (by decide) (by decide) hb hl (by rw [hx];decide)]
 rw [qKh,if_neg (by decide),w64 (x:=v5+1) (by omega) (by omega),hx,Int.zero_mul,Int.zero_add]
theorem qex (v0:List Int) (v5:Int) (b8:qga) (b9:List Int) (h0:0≤v5) (h5:v5<5) (hw:G_widths.getD v5.toNat 0=2) (hb:Bts v0) (hl:1<v0.length) (hx:b9.getD v5.toNat 0=0) (hn:b9.length=5):
  qtd v0 G_widths v5 b8 b9=qtd (v0.drop 2) G_widths (v5+1) b8 (b9.set v5.toNat (v0.getD 0 0*256+v0.getD 1 0)):=by
 have hy:=hb.getD 0
 have hi:v5.toNat<b9.length:=by omega
 have hg:(v0.drop 1).getD 0 0=v0.getD 1 0:=by simp [wu]
 rw [qLh,if_pos (by simpa using h5),qfa h0,qfa h5,hw,qGt v0 v5 2 0 b8 b9 h0 h5 (by decide) (by decide) (by decide) hb (by omega) (by rw [hx];decide)]
 rw [hx,Int.zero_mul,Int.zero_add (v0.getD 0 0)]
 rw [qGt (v0.drop 1) v5 2 (0+1) b8 _ h0 h5 (by decide) (by decide) (by decide) (hb.drop 1) (by simp;omega) (by rw [qgE _ _ _ _ hi];exact hy)]
 rw [qKh,if_neg (by decide),w64 (x:=v5+1) (by omega) (by omega),qgE _ _ _ _ hi,List.set_set,wda,hg]
def zH:qga:=(0,(0,(0,(0,(0,(wl 20 0,()))))))
def pH (a:List Int):qga:=(a.getD 0 0,(a.getD 1 0,(a.getD 2 0*256+a.getD 3 0,(a.getD 4 0*256+a.getD 5 0,(a.getD 6 0*256+a.getD 7 0,(a.drop 8,()))))))
def pP (a:List Int):qga×Int:=if a.length=28∧hOK (pH a) then (pH a,0) else (zH,12)
theorem qjM (a:List Int) (k i:Nat):(a.drop k).getD i 0=a.getD (k+i) 0:=by simp [wu]
theorem qXm (a:List Int) (hb:Bts a):qnp a=some (pP a):=by
 rw [qTx]
 by_cases hl:a.length=28
 ·rw [if_neg (by simp [hl])]
  have hrep:(wl 5 (0:Int))=[0,0,0,0,0]:=rfl
  rw [hrep]
  rw [qED a 0 _ _ (by decide) (by decide) (by decide) hb (by omega) (by decide) (by decide)]
  rw [qED (a.drop 1) (0+1) _ _ (by decide) (by decide) (by decide) (hb.drop 1) (by simp;omega) (by simp) (by simp)]
  rw [qex _ (0+1+1) _ _ (by decide) (by decide) (by decide) ((hb.drop 1).drop 1) (by simp;omega) (by simp) (by simp)]
  rw [qex _ (0+1+1+1) _ _ (by decide) (by decide) (by decide) (((hb.drop 1).drop 1).drop 2) (by simp;omega) (by simp) (by simp)]
  rw [qex _ (0+1+1+1+1) _ _ (by decide) (by decide) (by decide) ((((hb.drop 1).drop 1).drop 2).drop 2) (by simp;omega) (by simp) (by simp)]
  rw [qLh,if_neg (by decide)]
  iterate 10 rw [qfa (by decide)]
  simp only [wda,qjM]
  have h0:=hb.getD 0
  have hsp:qsb (wl 20 (0:Int)) 0 (wL (min (wY (1+1+2+2+2) a).length 20) (wY (1+1+2+2+2) a))=a.drop 8:=by
   have hln:(a.drop 8).length=20:=by simp [hl]
   show qsb (wl 20 (0:Int)) 0 (wL (min (a.drop 8).length 20) (a.drop 8))=a.drop 8
   rw [hln,wQ (by omega)]
   unfold qsb
   simp [hl]
  rw [hsp]
  have e0:(([0,0,0,0,0]:List Int).set (wo 0) (a.getD 0 0) |>.set (wo (0+1)) (a.getD (1+0) 0) |>.set (wo (0+1+1)) (a.getD (1+1+0) 0*256+a.getD (1+1+1) 0) |>.set (wo (0+1+1+1)) (a.getD (1+1+2+0) 0*256+a.getD (1+1+2+1) 0) |>.set (wo (0+1+1+1+1)) (a.getD (1+1+2+2+0) 0*256+a.getD (1+1+2+2+1) 0))=[a.getD 0 0,a.getD 1 0,a.getD 2 0*256+a.getD 3 0,a.getD 4 0*256+a.getD 5 0,a.getD 6 0*256+a.getD 7 0]:=rfl
  rw [e0]
  simp only [List.getD_cons_zero,List.getD_cons_succ,wu8,Int.emod_eq_of_lt h0.1 h0.2]
  rw [que]
  show (some (hC (pH a))).bind _=_
  simp only [wq,qUN]
  unfold pP
  by_cases ok:hOK (pH a)
  ·rw [if_neg (by simpa using ok),if_pos ⟨hl,ok⟩];rfl
  ·rw [if_pos ok,if_neg (fun h=>ok h.2)];rfl
 ·rw [if_pos (by simp;omega)]
  unfold pP
  rw [if_neg (fun h=>hl h.1)];rfl
theorem qFB:Bts mark:=by
 intro x hx
 simp [mark] at hx
 omega
theorem qAd:mark.length=13:=rfl
theorem qPq (a:List Int) (hb:Bts a) (h1:41≤a.length) (h2:a.length≤50000):qGx a 0=some (decide (a.take 13=mark),0):=by
 rw [qRD,qGk,if_neg (by simp;omega),if_neg (by decide),if_neg (by simp)]
 simp only [wq]
 rw [if_neg (by decide),qfa (by decide),qfa (by simp),qRm]
 simp only [wq]
 rw [qWl,if_pos (by simp [qAd];omega),qfa (by simp),qfa (by simp [qAd];omega),qAm]
 simp only [wq]
 rw [quR ((hb.drop _).take _) qFB]
 rfl
def rdK (a:List Int):qda×Int×Int:=
 if a.length>50000 then ((zH,([],())),(0,4)) else if a.length<41 then ((zH,([],())),(0,18))
 else if a.take 13≠mark∨¬hOK (pH ((a.drop 13).take 28)) then ((zH,([],())),(0,12))
 else if (a.length:Int)<41+(pH ((a.drop 13).take 28)).2.2.2.2.1 then ((zH,([],())),(0,18))
 else ((pH ((a.drop 13).take 28),((a.drop 41).take (pH ((a.drop 13).take 28)).2.2.2.2.1.toNat,())),(41+(pH ((a.drop 13).take 28)).2.2.2.2.1,0))
theorem qKk {h:qga} (ok:hOK h):1≤h.2.2.2.2.1∧h.2.2.2.2.1≤4096:=by unfold hOK at ok;omega
theorem qSP (a:List Int) (h:41≤a.length):pP ((a.drop 13).take 28)=if hOK (pH ((a.drop 13).take 28)) then (pH ((a.drop 13).take 28),0) else (zH,12):=by
 have hl:((a.drop 13).take 28).length=28:=by simp;omega
 unfold pP
 simp only [hl,true_and]
theorem qGp (a:List Int) (hb:Bts a):qfk a=some (rdK a):=by
 rw [qct]
 unfold rdK
 by_cases h1:a.length>50000
 ·rw [if_pos (by simp;omega),if_pos h1];rfl
 rw [if_neg (by simp;omega),if_neg h1]
 by_cases h2:a.length<41
 ·rw [if_pos (by simp;omega),if_pos h2];rfl
 rw [if_neg (by simp;omega),if_neg h2,qfa (by decide),qfa (by decide),qfa (by simp only [wj];omega),qXm _ ((hb.drop _).take _),qSP a (by omega),qPq a hb (by omega) (by omega)]
 simp only [wq]
 by_cases h3:a.take 13=mark
 ·by_cases ok:hOK (pH ((a.drop 13).take 28))
  ·have hlen:=qKk ok
   rw [if_pos ok,if_neg (by simp [h3]),if_neg (by simp),if_neg (show ¬(a.take 13≠mark∨¬hOK (pH ((a.drop 13).take 28))) from fun h=>h.elim (fun h=>h h3) (fun h=>h ok))]
   generalize pH ((a.drop 13).take 28)=h at ok hlen ⊢
   simp only
   rw [w64 (x:=41+h.2.2.2.2.1) (by omega) (by omega)]
   by_cases h4:(a.length:Int)<41+h.2.2.2.2.1
   ·rw [if_pos (by simpa using h4),if_pos h4];rfl
   ·rw [if_neg (by simpa using h4),if_neg h4,qfa (by decide),qfa (by omega),qfa (by simp only [wj];omega),qak _ (by simp;omega)]
    have e:wo (41+h.2.2.2.2.1) - 41=h.2.2.2.2.1.toNat:=by omega
    simp only [wq,e]
  ·rw [if_neg ok,if_neg (by simp [h3]),if_pos (by simp),if_pos (show (a.take 13≠mark∨¬hOK (pH ((a.drop 13).take 28))) from .inr ok)];rfl
 ·rw [if_pos (by simp [h3]),if_pos (show (a.take 13≠mark∨¬hOK (pH ((a.drop 13).take 28))) from .inl h3)];rfl
theorem qaQ (h:qga):Bts (fr8 h):=by
 intro x hx
 simp only [fr8,wZ,List.not_mem_nil,or_false] at hx
 omega
theorem qFl (h:qga) (hm:0≤h.1∧h.1<256) (raw:List Int) (hb:Bts raw) (hl:raw.length≤19000):qLn h raw=some (qCm (fr8 h++raw)):=by
 rw [qyv,qTt h hm,wq]
 have hL:(fr8 h++raw).length=raw.length+8:=by rw [wn,qXt];omega
 rw [qfa (by rw [hL];omega),qew _ (Bts.append (qaQ h) hb),if_pos (by rw [hL];omega),wq]
def qRQ (m a1 a2 raw len:Int) (z:List Int):qga:=(m,(a1,(a2,(raw,(len,(qCm (fr8 (m,(a1,(a2,(raw,(len,(wl 20 0,()))))))++z),()))))))
def qkk (a1 a2:Int) (z:List Int):qda:=(qRQ 1 a1 a2 z.length z.length z,(z,()))
def mOK (a1 a2:Int) (z:List Int):Prop:=0≤a1∧a1<16∧1≤z.length∧z.length≤4096∧0≤a2∧a2+z.length≤8192
instance (a1 a2:Int) (z:List Int):Decidable (mOK a1 a2 z):=by unfold mOK;infer_instance
theorem qtJ {a1 a2:Int} {z:List Int} (h:mOK a1 a2 z) (s:List Int):hOK (1,(a1,(a2,((z.length:Int),((z.length:Int),(s,())))))):=by
 unfold mOK at h
 exact ⟨h.1,h.2.1,by simp only;omega,by simp only;omega,h.2.2.2.2.1,h.2.2.2.2.2,Or.inl ⟨rfl,rfl⟩⟩
theorem qNu (l:Int):qVn l=some (decide (0≤l∧l≤7)):=by
 rw [qLv]
 by_cases h:0≤l
 ·rw [if_pos (by simpa using h)]
  exact congrArg some (by simp [h])
 ·rw [if_neg (by simpa using h)]
  exact congrArg some (by simp [h])
theorem qxK {a1 a2:Int} {z:List Int} (hm:mOK a1 a2 z):bC (qkk a1 a2 z)=0:=if_pos ⟨qtJ hm _,rfl⟩
theorem qst (a1 a2:Int) (z:List Int):bWf (qkk a1 a2 z):=⟨⟨by show (0:Int)≤1;decide,by show (1:Int)<256;decide⟩,qLi _⟩
theorem qdL {xs ys:List Int}:qSC (peq (.int .u8)) xs ys=true→xs=ys:=by
 intro h
 induction xs generalizing ys with
 |nil=>cases ys with
  |nil=>rfl
  |cons y ys=>exact absurd h (by simp [qSC])
 |cons x xs ih=>cases ys with
  |nil=>exact absurd h (by simp [qSC])
  |cons y ys=>
   rw [qSC,wA] at h
   have h1:x=y:=by have:=h.1;rw [peq] at this;exact of_decide_eq_true this
   rw [h1,ih h.2]
theorem qBN (xs ys:List Int):qSC (peq (.int .u8)) xs ys=decide (xs=ys):=by
 by_cases h:xs=ys
 ·subst h
  rw [decide_eq_true rfl]
  exact qus (fun x=>by rw [peq];exact decide_eq_true rfl) _
 ·rw [decide_eq_false h]
  cases hq:qSC (peq (.int .u8)) xs ys with
  |false=>rfl
  |true=>exact absurd (qdL hq) h
theorem qGz {h:qga} (ok:hOK h) (hm:0≤h.1∧h.1<256) {z:List Int} (hb:Bts z) (hl:(z.length:Int)=h.2.2.2.1):qlj h z=some (decide (qCm (fr8 h++z)=h.2.2.2.2.2.1),0):=by
 have hz:z.length≤4096:=by unfold hOK at ok;omega
 have hc:hC h=0:=if_pos ok
 rw [qmp]
 refine Tot.eq (ud (que h) (ue hc (uy hl (ud (qFl h hm z hb (by omega)) (ub ?_)))))
 rw [peq,qBN]
theorem qdK {l:Int} {b:qda} (hl:0≤l∧l≤7) (h1:b.1.1=1) (hc:bC b=0) (hb:Bts b.2.1):qYf l b=some (if qCm (fr8 b.1++b.2.1)=b.1.2.2.2.2.2.1 then (b.2.1,0) else ([],22)):=by
 have ok:hOK b.1∧(b.2.1.length:Int)=b.1.2.2.2.2.1:=by
  unfold bC at hc;split at hc
  ·assumption
  ·cases hc
 have hlen:b.1.2.2.2.2.1=b.1.2.2.2.1:=by
  rcases ok.1.2.2.2.2.2.2 with h|h
  ·exact h.2
  ·omega
 have hz:b.2.1.length≤4096:=by have:=ok.1.2.2.2.1;omega
 rw [qVu]
 refine Tot.eq (ud (qzo b) (ue hc (ud (qNu l) ?_)))
 rw [decide_eq_true hl]
 refine um (fun k=>absurd k (by decide)) (fun _=>ud (qak _ (by omega)) (ux (by omega) (ud (qGz ok.1 (by omega) hb (by omega)) ?_)))
 by_cases hs:qCm (fr8 b.1++b.2.1)=b.1.2.2.2.2.2.1
 ·rw [if_pos hs,decide_eq_true hs]
  exact um (fun k=>absurd k (by decide)) (fun _=>ub rfl)
 ·rw [if_neg hs,decide_eq_false hs]
  exact um (fun _=>ub rfl) (fun k=>absurd k (by decide))
theorem qjB (h:qga) (hm:0≤h.1∧h.1<256) {z:List Int} (hl:z.length≤100000):qei h z=some (qCm (fr8 h++z)):=by
 have hL:(fr8 h++z).length=z.length+8:=by rw [wn,qXt];omega
 rw [qft]
 exact Tot.eq (ud (qjo h hm) (ua (by rw [hL];omega) (ud (qYG _ (by rw [hL];omega)) (ub rfl))))
instance (h:qga):Decidable (hOK h):=by unfold hOK;infer_instance
instance (a1 a2:Int) (z:List Int):Decidable (mOK a1 a2 z):=by unfold mOK;infer_instance
theorem qjv (h:qga) (hm:0≤h.1∧h.1<256) (hs:h.2.2.2.2.2.1.length=20):qgi h=some (hB h):=by
 rw [qQp,qjo h hm]
 simp only [wq]
 rw [qfa (by simp [qXt];omega)]
 simp only [hB,wea]
 rw [wQ (by omega)]
def qUt (s:List Int):Prop:=s.take 13=mark
instance (s:List Int):Decidable (qUt s):=by unfold qUt;infer_instance
theorem qiS {h:qga} (ok:hOK h) (hs:h.2.2.2.2.2.1.length=20):pH (hB h)=h:=by
 obtain ⟨m,mem,off,raw,len,sum,u⟩:=h
 have e:pH (hB (m,mem,off,raw,len,sum,u))=(m%256,(mem%256,(off/256%256*256+off%256,(raw/256%256*256+raw%256,(len/256%256*256+len%256,(sum,())))))):=rfl
 rw [e]
 unfold hOK at ok
 simp only at ok
 have e1:m%256=m:=by omega
 have e2:mem%256=mem:=by omega
 have e3:off/256%256*256+off%256=off:=by omega
 have e4:raw/256%256*256+raw%256=raw:=by omega
 have e5:len/256%256*256+len%256=len:=by omega
 rw [e1,e2,e3,e4,e5]
theorem qgS {b:qda} {more:List Int} (hc:bC b=0) (hw:bWf b) (hl:more.length≤40000):rdK (bB b++more)=(b,(b.1.2.2.2.2.1+41,0)):=by
 have ok:hOK b.1∧(b.2.1.length:Int)=b.1.2.2.2.2.1:=by
  unfold bC at hc;split at hc
  ·assumption
  ·cases hc
 have hlen:=qKk ok.1
 have hhl:(hB b.1).length=28:=by unfold hB;rw [wn,qXt,hw.2]
 have hL:(bB b++more).length=41+b.2.1.length+more.length:=by
  unfold bB;simp only [wn,qAd,hhl]
 have hw13:(bB b++more).take 13=mark:=by
  unfold bB
  rw [wB,wB,wNa (by rw [qAd];omega)]
  rfl
 have qUt:((bB b++more).drop 13).take 28=hB b.1:=by
  unfold bB
  rw [wB,wB,List.drop_append_of_le_length (by rw [qAd];omega),List.drop_of_length_le (by rw [qAd];omega),wV,wNa (by omega),wQ (by omega)]
 have hd41:(bB b++more).drop 41=b.2.1++more:=by
  have e:bB b++more=(mark++hB b.1)++(b.2.1++more):=by unfold bB;simp only [wB]
  have e2:(mark++hB b.1).length=41:=by rw [wn,qAd,hhl]
  rw [e,List.drop_append_of_le_length (by omega),List.drop_of_length_le (by omega),wV]
 unfold rdK
 rw [qUt,qiS ok.1 hw.2,if_neg (show ¬(bB b++more).length>50000 by omega),if_neg (show ¬(bB b++more).length<41 by omega),if_neg (fun h=>h.elim (fun h=>h hw13) (fun h=>h ok.1)),if_neg (by omega),hd41]
 have e:b.1.2.2.2.2.1.toNat=b.2.1.length:=by omega
 rw [e,wNa (ws _),List.take_length,Int.add_comm]
theorem b7:Bts [7]:=Bts.cons (by decide) Bts.nil
theorem qXA (S:List Int) (n:Nat) (x:Int) (h:n<S.length):(S.set n x).take (n+1)=S.take n++[x]:=by
 rw [List.take_succ_eq_append_getElem (by simpa using h),List.take_set,List.set_eq_of_length_le (by simp;omega)]
 simp
theorem qUS (a b:ByteArray):(wja a==wja b)=decide (a=b):=by
 rw [Bool.eq_iff_iff,beq_iff_eq,decide_eq_true_eq]
 exact ⟨fun h=>toList_inj h,fun h=>by rw [h]⟩
theorem qgj (s:ByteArray):(qpd s).length=s.size:=by
 unfold qpd
 rw [List.length_map,Array.length_toList];rfl
def okC (x:Int):Bool:=decide (33≤x)&&decide (x≤126)
def qiK (s:ByteArray):Bool:=(qpd s).all okC&&decide (1≤s.size)&&decide (s.size≤40)
theorem qkM {xs:List Int} {i:Nat} (h:i<xs.length):xs.drop i=xs.getD i 0::xs.drop (i+1):=by
 rw [wka h,wu,wx h];rfl
theorem qcE (s:ByteArray) (hs:s.size≤9223372036854775807):∀(k i:Nat),i+k=s.size→qHg s (s.size:Int) (i:Int)=some (((qpd s).drop i).all okC&&decide (1≤s.size)&&decide (s.size≤40))
 |0,i,e=>by
  have hd:(qpd s).drop i=[]:=wK (by rw [qgj];omega)
  rw [qDk,if_neg (by simp;omega),hd]
  have hl:wi s.size=(s.size:Int):=rfl
  rw [hl]
  by_cases h:1≤s.size
  ·rw [if_pos (by simp;omega)]
   simp [h];omega
  ·rw [if_neg (by rw [decide_eq_true_eq];omega)]
   simp [h]
 |k+1,i,e=>by
  have hi:i<(qpd s).length:=by rw [qgj];omega
  have hb:qbw s ((i:Int)).toNat=(qpd s).getD i 0:=by rw [wv];rfl
  rw [qDk,if_pos (by simp;omega),qfa (by omega),qfa (by omega),hb,qkM hi,w64 (by omega) (by omega)]
  have ih:=qcE s hs k (i+1) (by omega)
  rw [show ((i+1:Nat):Int)=(i:Int)+1 by omega] at ih
  by_cases h1:(qpd s).getD i 0≤32
  ·rw [if_pos (by simpa using h1)]
   have:okC ((qpd s).getD i 0)=false:=by simp only [okC,Bool.and_eq_false_iff,decide_eq_false_iff_not];left;omega
   simp only [wsb,this,Bool.false_and]
  ·rw [if_neg (by simpa using h1),qfa (by omega),qfa (by omega)]
   by_cases h2:(qpd s).getD i 0>126
   ·rw [if_pos (by simpa using h2)]
    have:okC ((qpd s).getD i 0)=false:=by simp only [okC,Bool.and_eq_false_iff,decide_eq_false_iff_not];right;omega
    simp only [wsb,this,Bool.false_and]
   ·rw [if_neg (by simpa using h2),ih]
    have:okC ((qpd s).getD i 0)=true:=by simp only [okC,wA,decide_eq_true_eq];omega
    simp only [wsb,this,Bool.true_and]
theorem qFs (s:ByteArray) (hs:s.size≤9223372036854775807):qEn s=some (qiK s):=by
 rw [qtv]
 exact qcE s hs s.size 0 (by omega)
theorem qUM (s:ByteArray) (hs:s.size≤9223372036854775807):∀(k i:Nat),i+k=s.size→qke s (i:Int)=some (((qpd s).drop i).all okC)
 |0,i,e=>by
  have hd:(qpd s).drop i=[]:=wK (by rw [qgj];omega)
  rw [qZh,if_neg (by simp;omega),hd]
  rfl
 |k+1,i,e=>by
  have hi:i<(qpd s).length:=by rw [qgj];omega
  have hb:qbw s ((i:Int)).toNat=(qpd s).getD i 0:=by rw [wv];rfl
  rw [qZh,if_pos (by simp;omega),qfa (by omega),qfa (by omega),hb,qkM hi,w64 (by omega) (by omega)]
  have ih:=qUM s hs k (i+1) (by omega)
  rw [show ((i+1:Nat):Int)=(i:Int)+1 by omega] at ih
  by_cases h1:(qpd s).getD i 0<33
  ·rw [if_pos (by simpa using h1)]
   have:okC ((qpd s).getD i 0)=false:=by simp only [okC,Bool.and_eq_false_iff,decide_eq_false_iff_not];left;omega
   simp only [wsb,this,Bool.false_and]
  ·rw [if_neg (by simpa using h1),qfa (by omega),qfa (by omega)]
   by_cases h2:(qpd s).getD i 0>126
   ·rw [if_pos (by simpa using h2)]
    have:okC ((qpd s).getD i 0)=false:=by simp only [okC,Bool.and_eq_false_iff,decide_eq_false_iff_not];right;omega
    simp only [wsb,this,Bool.false_and]
   ·rw [if_neg (by simpa using h2),ih]
    have:okC ((qpd s).getD i 0)=true:=by simp only [okC,wA,decide_eq_true_eq];omega
    simp only [wsb,this,Bool.true_and]
theorem qSw (s:ByteArray) (hs:s.size≤9223372036854775807):qFi s=some (qiK s):=by
 have hl:wi s.size=(s.size:Int):=rfl
 rw [qvq,hl]
 unfold qiK
 by_cases h1:s.size<1
 ·rw [if_pos (by simp;omega)]
  have:¬1≤s.size:=by omega
  simp [this]
 ·rw [if_neg (by simp;omega)]
  by_cases h2:s.size>40
  ·rw [if_pos (by simp;omega)]
   have:¬s.size≤40:=by omega
   simp [this]
  ·rw [if_neg (by simp;omega)]
   have:=qUM s hs s.size 0 (by omega)
   refine this.trans ?_
   have h3:1≤s.size:=by omega
   have h4:s.size≤40:=by omega
   simp [h3,h4]
theorem qxx {α β:Type} {eq:α→α→Bool} (h:∀a b,eq a b=true↔a=b) (x y:α) (v:β):∀m:List (α×β),qrv eq x (qMD eq y v m)=if eq x y then some v else qrv eq x m
 |[]=>by simp [qMD,qrv]
 |e::r=>by
  simp only [qMD]
  by_cases hy:eq y e.1=true
  ·have:=(h _ _).1 hy
   simp only [hy,if_true,qrv]
   by_cases hx:eq x y=true
   ·simp [hx]
   ·have:eq x e.1=false:=by rw [←this];simpa using hx
    simp [hx,this]
  ·simp only [hy,wN,if_false,qrv,qxx h x y v r]
   by_cases hx:eq x y=true
   ·have e1:=(h _ _).1 hx
    subst e1
    simp [hx,hy]
   ·simp [hx]
theorem qcL (a b:ByteArray):peq .str a b=decide (a=b):=qUS a b
def qUH (x:ByteArray) (xs:List ByteArray):Bool:=xs.any fun y=>decide (x=y)
theorem qaG (x y:ByteArray) (xs:List ByteArray):qUH x (xs++[y])=(qUH x xs||decide (x=y)):=by simp [qUH]
def qpI (seen:List ByteArray):List ByteArray→Bool
 |[]=>false
 |x::r=>qUH x seen||qpI (seen++[x]) r
theorem qqI {xs:List ByteArray} {i:Nat} (h:i<xs.length):xs.drop i=xs.getD i wD::xs.drop (i+1)∧xs.take (i+1)=xs.take i++[xs.getD i wD]:=by
 have e:xs.getD i wD=xs[i]:=by rw [wu,wx h];rfl
 rw [e]
 exact ⟨wka h,by rw [List.take_add_one,wx h];rfl⟩
theorem qfH (xs:List ByteArray) (hx:xs.length≤9223372036854775807):∀(k i:Nat) (m:List (ByteArray×Bool)),i+k=xs.length→(∀x,Option.getD (qrv (peq .str) x m) false=qUH x (xs.take i))→qDh xs (xs.length:Int) (i:Int) m=some (qpI (xs.take i) (xs.drop i))
 |0,i,m,e,hm=>by
  rw [qwl,if_neg (by simp;omega),wK (by omega)];rfl
 |k+1,i,m,e,hm=>by
  have hl:wi xs.length=(xs.length:Int):=rfl
  obtain ⟨d1,d2⟩:=qqI (xs:=xs) (i:=i) (by omega)
  rw [qwl,if_pos (by simp;omega),qfa (by omega),qfa (by rw [hl];omega),wv,hm,d1,qpI]
  by_cases h:qUH (xs.getD i wD) (xs.take i)=true
  ·rw [if_pos h,h];rfl
  ·rw [if_neg h,w64 (by omega) (by omega)]
   have ih:=qfH xs hx k (i+1) (qMD (peq .str) (xs.getD i wD) true m) (by omega) (fun x=>by
    rw [qxx (fun a b=>by rw [qcL];simp),d2,qcL,qaG,←hm]
    by_cases hx:x=xs.getD i wD
    ·rw [if_pos (by simp [hx])];simp [hx]
    ·rw [decide_eq_false hx,if_neg (by simp),Bool.or_false])
   rw [show ((i+1:Nat):Int)=(i:Int)+1 by omega] at ih
   rw [ih,d2,Bool.eq_false_iff.2 h];rfl
theorem qNt (xs:List ByteArray) (hx:xs.length≤9223372036854775807):qdp xs=some (qpI [] xs):=by
 rw [qyx]
 exact qfH xs hx xs.length 0 [] (by omega) (fun x=>by simp [qrv,qUH])
def qAI (r:qba):Bool:=!qiK r.1||decide (r.2.1<0)||decide (r.2.1>8192)||(r.2.1==0&&!peq (.arr 20 (.int .u8)) r.2.2.1 (qCm []))
def vld (acc:Int) (nm:List ByteArray):List qba→Int
 |[]=>if acc>8192 then 4 else if qpI [] nm then 14 else 0
 |r::rest=>if qAI r then 8 else vld (acc+r.2.1) (nm++[r.1]) rest
def qtf (rs:List qba):Int:=if rs.length>16 then 4 else vld 0 [] rs
def RecsOK (rs:List qba):Prop:=rs.length≤9223372036854775807∧∀r∈rs,r.1.size≤9223372036854775807
theorem qVa {α:Type} {xs:List α} {i:Nat} (d:α) (h:i<xs.length):xs.drop i=xs.getD i d::xs.drop (i+1)∧xs.take (i+1)=xs.take i++[xs.getD i d]∧xs.getD i d∈xs:=by
 have e:xs.getD i d=xs[i]:=by rw [wu,wx h];rfl
 rw [e]
 exact ⟨wka h,by rw [List.take_add_one,wx h];rfl,List.getElem_mem h⟩
theorem qQJ:qFn []=some (qCm []):=by
 rw [quv,qew [] Bts.nil];rfl
theorem qGI (rs:List qba) (hR:RecsOK rs) (hn:rs.length≤16):∀(k i:Nat) (acc:Int) (nm:List ByteArray),i+k=rs.length→nm.length=i→0≤acc→acc≤8192*i→qOf acc rs (rs.length:Int) (i:Int) nm=some (vld acc nm (rs.drop i))
 |0,i,acc,nm,e,hl,a0,a1=>by
  rw [qyl,if_neg (by simp;omega),wK (by omega),vld]
  by_cases h:acc>8192
  ·rw [if_pos (by simpa using h),if_pos h]
  ·rw [if_neg (by simpa using h),if_neg h,qNt _ (by omega)]
   simp only [wq]
   by_cases h:qpI [] nm=true
   ·rw [if_pos h,if_pos h]
   ·rw [if_neg h,if_neg h]
 |k+1,i,acc,nm,e,hl,a0,a1=>by
  have hl':wi rs.length=(rs.length:Int):=rfl
  obtain ⟨d1,d2,d3⟩:=qVa (qra qla:qba) (xs:=rs) (i:=i) (by omega)
  rw [qyl,if_pos (by simp;omega),qfa (by omega),qfa (by rw [hl'];omega),wv,d1,vld]
  generalize hr:(wm rs i (qra qla):qba)=r at d3 ⊢
  rw [qFs _ (hR.2 r d3)]
  simp only [wq,qQJ]
  by_cases h1:qiK r.1=true
  ·rw [if_neg (by simp [h1])]
   by_cases h2:r.2.1<0
   ·rw [if_pos (by simpa using h2),if_pos (by simp [qAI,h2])]
   ·rw [if_neg (by simpa using h2)]
    by_cases h3:r.2.1>8192
    ·rw [if_pos (by simpa using h3),if_pos (by simp [qAI,h3])]
    ·rw [if_neg (by simpa using h3)]
     have ih:=qGI rs hR hn k (i+1) (acc+r.2.1) (nm++[r.1]) (by omega) (by simp;omega) (by omega) (by omega)
     rw [show ((i+1:Nat):Int)=(i:Int)+1 by omega] at ih
     rw [w64 (x:=(i:Int)+1) (by omega) (by omega),w64 (x:=acc+r.2.1) (by omega) (by omega),ih]
     by_cases h4:r.2.1=0
     ·rw [if_pos (by simp [h4])]
      by_cases h5:peq (.arr 20 (.int .u8)) r.2.2.1 (qCm [])=true
      ·rw [if_neg (by simp [h5]),qfa (by simp;omega),if_neg (by simp [qAI,h1,h4,h5])]
      ·rw [if_pos (by simpa using h5),if_pos (by simp [qAI,h4,h5])]
     ·rw [if_neg (by simpa using h4),qfa (by simp;omega),if_neg (by simp [qAI,h1,h4];omega)]
  ·rw [if_pos (by simpa using h1),if_pos (by simp [qAI,h1])]
theorem qse (rs:List qba) (hR:RecsOK rs):qPf rs=some (qtf rs):=by
 have hl:wi rs.length=(rs.length:Int):=rfl
 rw [qAx,hl,qtf]
 by_cases h:rs.length>16
 ·rw [if_pos (by simp;omega),if_pos h]
 ·rw [if_neg (by simp;omega),if_neg h]
  exact qGI rs hR (by omega) rs.length 0 0 [] (by omega) rfl (by omega) (by omega)
def names (rs:List qba):List ByteArray:=rs.map (·.1)
theorem qAL {x:ByteArray} {xs:List ByteArray} {j i:Nat} (h:j<i) (hi:i≤xs.length):qUH x ((xs.take i).drop j)=(decide (x=xs.getD j wD)||qUH x ((xs.take i).drop (j+1))):=by
 have hl:j<(xs.take i).length:=by rw [wM];omega
 have e:xs.getD j wD=(xs.take i)[j]:=by
  rw [wu,List.getElem_take,wx (by omega)];rfl
 rw [wka hl,e]
 simp [qUH]
def tot:List qba→Int
 |[]=>0
 |r::rest=>r.2.1+tot rest
structure RecsV (rs:List qba):Prop where
 len:rs.length≤16
 each:∀r∈rs,0≤r.2.1∧r.2.1≤8192∧r.1.size≤40
 tot:tot rs≤8192
theorem qdH:∀(rs:List qba) (acc:Int) (nm:List ByteArray),vld acc nm rs=0→(∀r∈rs,0≤r.2.1∧r.2.1≤8192∧r.1.size≤40)∧acc+tot rs≤8192
 |[],acc,nm,h=>by
  simp only [vld] at h
  by_cases h1:acc>8192
  ·rw [if_pos h1] at h;omega
  ·exact ⟨fun r hr=>(by cases hr),by simp only [tot];omega⟩
 |r::rest,acc,nm,h=>by
  simp only [vld] at h
  by_cases hb:qAI r=true
  ·rw [if_pos hb] at h;omega
  ·rw [if_neg hb] at h
   obtain ⟨h1,h2⟩:=qdH rest _ _ h
   simp only [qAI,qiK,Bool.or_eq_true,wRa,Bool.and_eq_false_iff,decide_eq_true_eq,decide_eq_false_iff_not,not_or] at hb
   refine ⟨fun q hq=>?_,by simp only [tot];omega⟩
   rcases wZ.1 hq with rfl|hq
   ·have:=hb.1.1.1.2
    exact ⟨by omega,by omega,by omega⟩
   ·exact h1 q hq
theorem qCc {rs:List qba} (h:qtf rs=0):RecsV rs:=by
 unfold qtf at h
 split at h
 ·omega
 ·obtain ⟨h1,h2⟩:=qdH rs 0 [] h
  exact ⟨by omega,h1,by omega⟩
instance (h:qga):Decidable (hOK h):=by unfold hOK;infer_instance
def isP (h:qga) (p:qca):Prop:=h.2.1=p.1∧h.2.2.1=p.2.1∧h.2.2.2.1=p.2.2.1
instance (h:qga) (p:qca):Decidable (isP h p):=by unfold isP;infer_instance
open Classical
open Classical
abbrev iEq:Int→Int→Bool:=peq (.int .i64)
theorem qQB (a b:Int):iEq a b=true↔a=b:=by simp [peq]
def Rt (m:List (Int×Bool)) (t:List Bool):Prop:=(∀x:Int,(qrv iEq x m).isSome=true↔0≤x∧x<(t.length:Int)∧t.getD x.toNat false=true)∧m.length=t.countP id
theorem qSH {α β:Type} {eq:α→α→Bool} (h:∀a b,eq a b=true↔a=b) (x:α) (v:β):∀m:List (α×β),(qMD eq x v m).length=m.length+if (qrv eq x m).isSome then 0 else 1
 |[]=>by simp [qMD,qrv]
 |e::r=>by
  have ih:=qSH h x v r
  by_cases hx:eq x e.1=true
  ·have h1:qMD eq x v (e::r)=(x,v)::r:=if_pos hx
   have h2:qrv eq x (e::r)=some e.2:=if_pos hx
   rw [h1,h2];simp
  ·have h1:qMD eq x v (e::r)=e::qMD eq x v r:=if_neg hx
   have h2:qrv eq x (e::r)=qrv eq x r:=if_neg hx
   rw [h1,h2]
   simp only [wz,ih];omega
theorem qLE:∀(t:List Bool) (i:Nat),i<t.length→(t.set i true).countP id=t.countP id+if t.getD i false then 0 else 1
 |[],i,h=>by simp at h
 |b::t,0,h=>by cases b <;> simp
 |b::t,i+1,h=>by
  have:=qLE t i (by simpa using h)
  simp only [List.set_cons_succ,List.countP_cons,List.getD_cons_succ,this];omega
theorem Rt.set {m:List (Int×Bool)} {t:List Bool} (h:Rt m t) {i:Nat} (hi:i<t.length):Rt (qMD iEq (i:Int) true m) (t.set i true):=by
 refine ⟨fun x=>?_,?_⟩
 ·rw [qxx qQB,wia]
  by_cases hx:x=(i:Int)
  ·rw [if_pos ((qQB _ _).2 hx),hx,wv,wu,List.getElem?_set_self hi]
   simp;omega
  ·rw [if_neg (fun k=>hx ((qQB _ _).1 k)),h.1 x]
   constructor
   ·rintro ⟨a,b,c⟩
    refine ⟨a,b,?_⟩
    rw [wu,List.getElem?_set_ne (by omega),←wu];exact c
   ·rintro ⟨a,b,c⟩
    refine ⟨a,b,?_⟩
    rw [wu,List.getElem?_set_ne (by omega),←wu] at c;exact c
 ·rw [qSH qQB,qLE t i hi,h.2]
  congr 1
  have:=h.1 (i:Int)
  rw [wv] at this
  by_cases hs:t.getD i false=true
  ·rw [if_pos (this.2 ⟨by omega,by omega,hs⟩),if_pos hs]
  ·rw [if_neg (fun k=>hs (this.1 k).2.2),if_neg hs]
theorem Rt.nil (n:Nat):Rt [] (wl n false):=by
 refine ⟨fun x=>?_,by simp [List.countP_replicate]⟩
 simp only [qrv,Option.isSome_none,wN,false_iff,not_and,wP]
 intro _ _
 rw [wu,List.getElem?_replicate]
 split <;> simp
open Classical
theorem qlN (a:List Int):peq (.arr 20 (.int .u8)) a a=true:=by
 simp only [peq]
 exact qus (fun y=>by simp) _
def chk (a:qha):Int:=if 0≤a.1∧a.1≤7∧16≤a.2.1∧a.2.1≤4096 then 0 else 2
theorem qAk (a:qha):qLm a=some (chk a):=by
 rw [qpB,chk]
 by_cases h1:a.1<0
 ·rw [if_pos (by simpa using h1),if_neg (by omega)]
 ·rw [if_neg (by simpa using h1)]
  by_cases h2:a.1>7
  ·rw [if_pos (by simpa using h2),if_neg (by omega)]
  ·rw [if_neg (by simpa using h2)]
   by_cases h3:a.2.1<16
   ·rw [if_pos (by simpa using h3),if_neg (by omega)]
   ·rw [if_neg (by simpa using h3)]
    by_cases h4:a.2.1>4096
    ·rw [if_pos (by simpa using h4),if_neg (by omega)]
    ·rw [if_neg (by simpa using h4),if_pos (by omega)]
def ask (a:qha) (rs:List qba):Int:=if chk a≠0 then chk a else qtf rs
theorem qyO:∀(rs:List qba),(∀r∈rs,0≤r.2.1∧r.2.1≤8192∧r.1.size≤40)→0≤tot rs
 |[],_=>by simp [tot]
 |r::rest,h=>by
  have h1:=h r (by simp)
  have h2:=qyO rest (fun q hq=>h q (by simp [hq]))
  simp only [tot];omega
def pcs (i n s:Int):Nat→Int→List qca
 |0,_=>[]
 |k+1,off=>if off<n then (i,(off,((if s<n - off then s else n - off),())))::pcs i n s k (off+s) else []
theorem qoB (i n s:Int) (hs:1≤s):∀(k:Nat) (off:Int),0≤n→off≤n→((pcs i n s k off).length:Int)≤n - off
 |0,off,_,h=>by simp [pcs];omega
 |k+1,off,hn,h=>by
  simp only [pcs]
  by_cases h1:off<n
  ·rw [if_pos h1]
   by_cases h2:off+s≤n
   ·have:=qoB i n s hs k (off+s) hn h2
    simp only [wz];omega
   ·have:pcs i n s k (off+s)=[]:=by
     cases k with
     |zero=>rfl
     |succ k=>simp only [pcs];rw [if_neg (by omega)]
    rw [this];simp;omega
  ·rw [if_neg h1];simp;omega
def ap (s:Int):Int→List qba→List qca
 |_,[]=>[]
 |i,r::rest=>pcs i r.2.1 s 8200 0++ap s (i+1) rest
def szs (rs:List qba):List Int:=rs.map (·.2.1)
theorem quK (rs:List qba) (i:Nat) (h:i<rs.length):(szs rs).getD i 0=(rs.getD i (qra qla)).2.1:=by
 unfold szs
 simp only [wu,List.getElem?_map,wx h,Option.map_some,wcb]
theorem qkn (rs:List qba):(szs rs).length=rs.length:=by simp [szs]
theorem qQM (s i n:Int) (xs:List Int) (v23 v24:Int) (hs:16≤s∧s≤4096) (hn:0≤n∧n≤8192) (k:Nat):∀(off:Int) (h:List qca),n - off≤k→0≤off→off≤13000→(h.length:Int)+(k:Int)≤1000000→
  qth s i n off xs v23 v24 h=qyf s xs v23 (wd .i64 (v24+1)) (h++pcs i n s k off):=by
 induction k with
 |zero=>
  intro off h e h0 h1 hl
  have hc:¬off<n:=by omega
  rw [qhl,if_neg (by simpa using hc)]
  simp only [pcs,wW]
 |succ k ih=>
  intro off h e h0 h1 hl
  rw [qhl]
  by_cases hc:off<n
  ·rw [if_pos (by simpa using hc),qfa (by simp;omega),w64 (x:=n - off) (by omega) (by omega),w64 (x:=off+s) (by omega) (by omega)]
   rw [ih (off+s) _ (by omega) (by omega) (by omega) (by simp;omega)]
   simp only [pcs,if_pos hc,wB,List.singleton_append]
  ·rw [if_neg (by simpa using hc)]
   simp only [pcs,if_neg hc,wW]
theorem qiF (s:Int) (rs:List qba) (hs:16≤s∧s≤4096) (hR:RecsV rs):∀(k i:Nat) (h:List qca),i+k=rs.length→(h.length:Int)≤8192*i→
  qyf s (szs rs) (rs.length:Int) (i:Int) h=some (h++ap s i (rs.drop i),0)
 |0,i,h,e,hl=>by
  rw [qil,if_neg (by simp;omega),wK (by omega)]
  simp [ap]
 |k+1,i,h,e,hl=>by
  have hlen:=hR.len
  obtain ⟨d1,d2,d3⟩:=qVa (qra qla:qba) (xs:=rs) (i:=i) (by omega)
  have hl':wi (szs rs).length=(rs.length:Int):=by rw [qkn];rfl
  have hv:=hR.each _ d3
  rw [qil,if_pos (by simp;omega),qfa (by omega),qfa (by rw [hl'];omega),wv,quK rs i (by omega)]
  rw [qQM s i _ (szs rs) _ _ hs ⟨hv.1,hv.2.1⟩ 8200 0 h (by omega) (by omega) (by omega) (by omega),w64 (by omega) (by omega)]
  have hp:=qoB (i:Int) (rs.getD i (qra qla)).2.1 s (by omega) 8200 0 hv.1 hv.1
  have ih:=qiF s rs hs hR k (i+1) (h++pcs (i:Int) (rs.getD i (qra qla)).2.1 s 8200 0) (by omega) (by rw [wn];omega)
  rw [show ((i+1:Nat):Int)=(i:Int)+1 by omega] at ih
  rw [ih,d1,ap,wB]
theorem qII (xs:List Int) (hx:∀x∈xs,0≤x) (hl:xs.length≤1000):∀(k i:Nat),i+k=xs.length→qtc xs (xs.length:Int) (i:Int)=some (-1)
 |0,i,e=>by rw [qEe,if_neg (by simp;omega)]
 |k+1,i,e=>by
  have hl':wi xs.length=(xs.length:Int):=rfl
  obtain ⟨d1,d2,d3⟩:=qVa (0:Int) (xs:=xs) (i:=i) (by omega)
  have:=hx _ d3
  have ih:=qII xs hx hl k (i+1) (by omega)
  rw [show ((i+1:Nat):Int)=(i:Int)+1 by omega] at ih
  rw [qEe,if_pos (by simp;omega),qfa (by omega),qfa (by rw [hl'];omega),wv,qev]
  simp only [wq]
  rw [if_neg (by simp only [decide_eq_true_eq];omega),w64 (by omega) (by omega),ih]
theorem qvI (rs:List qba) (hR:RecsV rs):∀(k i:Nat) (acc:Int),i+k=rs.length→0≤acc→acc+tot (rs.drop i)≤8192→qJi acc (szs rs) (rs.length:Int) (i:Int)=some 0
 |0,i,acc,e,h0,h1=>by rw [qEm,if_neg (by simp;omega)]
 |k+1,i,acc,e,h0,h1=>by
  have hlen:=hR.len
  have hl':wi (szs rs).length=(rs.length:Int):=by rw [qkn];rfl
  obtain ⟨d1,d2,d3⟩:=qVa (qra qla:qba) (xs:=rs) (i:=i) (by omega)
  have hv:=hR.each _ d3
  have ht:=qyO (rs.drop (i+1)) (fun r hr=>hR.each r (List.mem_of_mem_drop hr))
  rw [d1,tot] at h1
  rw [qEm,if_pos (by simp;omega),qfa (by omega),qfa (by rw [hl'];omega),wv,quK rs i (by omega)]
  rw [if_neg (show ¬(8193:Int)<(rs.getD i (qra qla)).2.1 by omega),w64 (by omega) (by omega),if_neg (by simp only [decide_eq_true_eq];omega),w64 (by omega) (by omega)]
  have ih:=qvI rs hR k (i+1) (acc+(rs.getD i (qra qla)).2.1) (by omega) (by omega) (by omega)
  rw [show ((i+1:Nat):Int)=(i:Int)+1 by omega] at ih
  exact ih
theorem qUy (s:Int) (rs:List qba) (hs:16≤s∧s≤4096) (hR:RecsV rs):qaj (szs rs) s=some (ap s 0 rs,0):=by
 have hlen:=hR.len
 have hl':wi (szs rs).length=(rs.length:Int):=by rw [qkn];rfl
 have hc:qir (szs rs)=some 0:=by
  have hi:=qII (szs rs) (fun x hx=>by
   obtain ⟨r,hr,rfl⟩:=waa.1 hx
   exact (hR.each r hr).1) (by rw [qkn];omega) (szs rs).length 0 (by omega)
  have hi':qoe (szs rs)=some (-1):=by rw [qsk];exact hi
  rw [qdz,qcj,hi']
  simp only [wq]
  rw [if_neg (by simp),hl',if_neg (by simp;omega)]
  exact qvI rs hR rs.length 0 0 (by omega) (by omega) (by have:=hR.tot;simp;omega)
 rw [quw,hc]
 simp only [wq]
 rw [if_neg (by simp),if_neg (by simp;omega),if_neg (by simp;omega),hl']
 exact qiF s rs hs hR rs.length 0 [] (by omega) (by simp)
theorem qgL (i n s:Int):∀(k:Nat) (off:Int),(pcs i n s k off).length=(pcs 0 n s k off).length
 |0,off=>rfl
 |k+1,off=>by
  simp only [pcs]
  by_cases h:off<n
  ·rw [if_pos h,if_pos h];simp only [wz,qgL i n s k]
  ·rw [if_neg h,if_neg h]
def pcn (s:Int) (r:qba):Int:=((pcs 0 r.2.1 s 8200 0).length:Int)
def qWP (s:Int) (rs:List qba):List Int:=rs.map (pcn s)
def qmN:List Int→Int
 |[]=>0
 |x::r=>x+qmN r
theorem qmP (s:Int):∀(rs:List qba) (i:Int),((ap s i rs).length:Int)=qmN (qWP s rs)
 |[],i=>rfl
 |r::rest,i=>by
  have:=qmP s rest (i+1)
  simp only [ap,wn,qWP,wI,qmN,qgL i,pcn] at this ⊢
  omega
theorem qhR (s:Int) (hs:16≤s) (rs:List qba) (hR:RecsV rs):∀x∈qWP s rs,0≤x∧x≤9000:=by
 intro x hx
 obtain ⟨r,hr,rfl⟩:=waa.1 hx
 have hv:=hR.each r hr
 have:=qoB 0 r.2.1 s (by omega) 8200 0 hv.1 hv.1
 unfold pcn
 omega
theorem qMC (s:Int) (hs:16≤s) (rs:List qba) (hR:RecsV rs):((ap s 0 rs).length:Int)≤100000:=by
 have h1:=qmP s rs 0
 have h2:∀xs:List Int,(∀x∈xs,0≤x∧x≤9000)→qmN xs≤9000*(xs.length:Int):=by
  intro xs
  induction xs with
  |nil=>intro _;simp [qmN]
  |cons x xs ih=>
   intro h
   have:=h x (by simp)
   have:=ih (fun y hy=>h y (by simp [hy]))
   simp only [qmN,wz];omega
 have h3:=h2 (qWP s rs) (qhR s hs rs hR)
 have h4:=hR.tot
 have h5:∀rs:List qba,(∀r∈rs,0≤r.2.1∧r.2.1≤8192∧r.1.size≤40)→qmN (qWP s rs)≤tot rs:=by
  intro rs
  induction rs with
  |nil=>intro _;simp [qWP,qmN,tot]
  |cons r rs ih=>
   intro h
   have hv:=h r (by simp)
   have:=ih (fun y hy=>h y (by simp [hy]))
   have hp:=qoB 0 r.2.1 s (by omega) 8200 0 hv.1 hv.1
   simp only [qWP,wI,qmN,tot,pcn] at this ⊢
   omega
 have:=h5 rs hR.each
 omega
def qdE:List qba→Int
 |[]=>0
 |r::rest=>23+(r.1.size:Int)+qdE rest
theorem qbI:∀(rs:List qba),(∀r∈rs,0≤r.2.1∧r.2.1≤8192∧r.1.size≤40)→0≤qdE rs∧qdE rs≤100*(rs.length:Int)
 |[],_=>by simp [qdE]
 |r::rest,h=>by
  have h1:=h r (by simp)
  have h2:=qbI rest (fun q hq=>h q (by simp [hq]))
  simp only [qdE,wz];omega
def qvD (r:qba):List Int:=(([wd .u8 (r.1.size:Int)]++qpd r.1)++[wd .u8 (wR r.2.1 256),wd .u8 r.2.1])++wL 20 (wY 0 r.2.2.1)
def qOc:List qba→List Int
 |[]=>[]
 |r::rest=>qvD r++qOc rest
def qcy (a:qha) (n:Int):List Int:=[66,76,70,1,wd .u8 a.1,wd .u8 (wR a.2.1 256),wd .u8 a.2.1,wd .u8 n]
def qph (a:qha) (rs:List qba):List Int:=qcy a rs.length++qOc rs
def qSj (a:qha) (rs:List qba):List Int:=qph a rs++qCm (qph a rs)
def SumsOK (rs:List qba):Prop:=∀r∈rs,r.2.2.1.length=20∧Bts r.2.2.1
theorem qJD (s:ByteArray):Bts (qpd s):=by
 intro x hx
 obtain ⟨b,_,rfl⟩:=waa.1 hx
 have:=b.toNat_lt
 omega
theorem qxn (r:qba) (h:r.2.2.1.length=20):(qvD r).length=23+r.1.size:=by
 simp only [qvD,wn,wz,wX,qgj,wM,wea,h]
 omega
theorem quN (r:qba) (h:Bts r.2.2.1):Bts (qvD r):=
 Bts.append (Bts.append (Bts.append (Bts.cons (qBQ _) Bts.nil) (qJD _)) (Bts.cons (qBQ _) (Bts.cons (qBQ _) Bts.nil))) ((h.drop 0).take 20)
theorem qWo:∀(rs:List qba),SumsOK rs→((qOc rs).length:Int)=qdE rs
 |[],_=>rfl
 |r::rest,h=>by
  have h1:=qxn r (h r (by simp)).1
  have h2:=qWo rest (fun q hq=>h q (by simp [hq]))
  simp only [qOc,qdE,wn]
  omega
theorem qrD:∀(rs:List qba),SumsOK rs→Bts (qOc rs)
 |[],_=>Bts.nil
 |r::rest,h=>(quN r (h r (by simp)).2).append (qrD rest (fun q hq=>h q (by simp [hq])))
theorem qDJ (a:qha) (n:Int):Bts (qcy a n):=by
 unfold qcy
 repeat first|exact Bts.nil|refine Bts.cons (qBQ _) ?_|refine Bts.cons (by omega) ?_
theorem qUE (a:qha) (rs:List qba) (h:SumsOK rs):Bts (qph a rs):=(qDJ _ _).append (qrD rs h)
theorem qQL (a:qha) (rs:List qba) (h:SumsOK rs):Bts (qSj a rs):=(qUE a rs h).append (qkH _)
theorem qPL (a:qha) (rs:List qba) (h:SumsOK rs):((qSj a rs).length:Int)=28+qdE rs:=by
 have:=qWo rs h
 simp only [qSj,qph,wn,qLi]
 have:(qcy a rs.length).length=8:=rfl
 omega
theorem qEI (rs:List qba) (hR:RecsV rs) (hS:SumsOK rs):∀(k i:Nat) (h:List Int),i+k=rs.length→(h.length:Int)≤100*i→qFh rs (rs.length:Int) (i:Int) h=some (h++qOc (rs.drop i),0)
 |0,i,h,e,hl=>by
  rw [qxl,if_neg (by simp;omega),wK (by omega)];simp [qOc]
 |k+1,i,h,e,hl=>by
  have hlen:=hR.len
  have hl':wi rs.length=(rs.length:Int):=rfl
  obtain ⟨d1,d2,d3⟩:=qVa (qra qla:qba) (xs:=rs) (i:=i) (by omega)
  have hv:=hR.each _ d3
  have hs:=hS _ d3
  have hb:=qxn _ hs.1
  rw [qxl,if_pos (by simp;omega),qfa (by omega),qfa (by rw [hl'];omega),wv]
  generalize (rs.getD i (qra qla):qba)=r at*
  have e1:(((h++[wd .u8 (wi r.1.size)])++qpd r.1)++[wd .u8 (wR r.2.1 256),wd .u8 r.2.1])++wL 20 (wY 0 r.2.2.1)=h++qvD r:=by
   simp only [qvD,wB];rfl
  have ho:=qgj r.1
  rw [qfa (by simp only [wn,wz,wX];omega),qfa (by simp only [wn,wz,wX];omega),qfa (by omega),qfa (by simp only [wn,wz,wX];omega),e1,qfa (by rw [wn];omega),w64 (by omega) (by omega)]
  have ih:=qEI rs hR hS k (i+1) (h++qvD r) (by omega) (by rw [wn];omega)
  rw [show ((i+1:Nat):Int)=(i:Int)+1 by omega] at ih
  rw [ih,d1,qOc,wB]
theorem qOt (rs:List qba) (hR:RecsOK rs) (hS:SumsOK rs):qfp rs=some (if qtf rs≠0 then ([],qtf rs) else (qOc rs,0)):=by
 rw [qzx,qse rs hR]
 simp only [wq]
 by_cases h:qtf rs=0
 ·rw [if_neg (by simp [h]),if_neg (by simp [h])]
  exact qEI rs (qCc h) hS rs.length 0 [] (by omega) (by simp)
 ·rw [if_pos (by simpa using h),if_pos h]
theorem qLq (a:qha) (rs:List qba) (hR:RecsOK rs) (hS:SumsOK rs):qws a rs=some (if ask a rs≠0 then ([],ask a rs) else (qSj a rs,0)):=by
 rw [qGD,qAk,qOt rs hR hS]
 simp only [wq]
 by_cases h:chk a=0
 ·rw [if_neg (by simp [h])]
  have ha:ask a rs=qtf rs:=by unfold ask;rw [if_neg (by simp [h])]
  by_cases hv:qtf rs=0
  ·rw [if_neg (show ¬qtf rs≠0 by simp [hv]),if_neg (by simp),if_neg (by rw [ha];simp [hv])]
   have hV:=qCc hv
   have hlen:=hV.len
   have hb:=qbI rs hV.each
   have hr:=qWo rs hS
   have hbl:(qph a rs).length=8+(qOc rs).length:=by simp only [qph,wn];rfl
   have e1:[(66:Int),76,70,1,wd .u8 a.1,wd .u8 (wR a.2.1 256),wd .u8 a.2.1,wd .u8 (wi rs.length)]++qOc rs=qph a rs:=rfl
   simp only
   rw [qfa (by omega),e1,qfa (by omega),qew _ (qUE a rs hS),if_pos (by omega)]
   simp only [wq]
   have e2:wL 20 (wY 0 (qCm (qph a rs)))=qCm (qph a rs):=by
    rw [wea,wQ (by rw [qLi];omega)]
   rw [e2,qfa (by rw [wn,qLi];omega)]
   rfl
  ·rw [if_pos hv,if_pos (by simpa using hv),if_pos (by rw [ha];exact hv),ha]
 ·have ha:ask a rs=chk a:=by unfold ask;rw [if_pos h]
  rw [if_pos (by simpa using h),if_pos (by rw [ha];exact h),ha]
theorem qOI (rs:List qba) (hR:RecsV rs) (hS:SumsOK rs):∀(k i:Nat) (h:List Int),i+k=rs.length→(h.length:Int)≤100*i→qXd rs (i:Int) h=some (h++qOc (rs.drop i))
 |0,i,h,e,hl=>by
  have hl':wi rs.length=(rs.length:Int):=rfl
  rw [qih,if_neg (by simp;omega),wK (by omega)];simp [qOc]
 |k+1,i,h,e,hl=>by
  have hlen:=hR.len
  have hl':wi rs.length=(rs.length:Int):=rfl
  obtain ⟨d1,d2,d3⟩:=qVa (qra qla:qba) (xs:=rs) (i:=i) (by omega)
  have hv:=hR.each _ d3
  have hs:=hS _ d3
  have hb:=qxn _ hs.1
  rw [qih,if_pos (by simp;omega),qfa (by omega),qfa (by rw [hl'];omega),wv]
  generalize (rs.getD i (qra qla):qba)=r at*
  have e1:(((h++[wd .u8 (wi r.1.size)])++qpd r.1)++[wd .u8 (wR r.2.1 256),wd .u8 r.2.1])++wL 20 (wY 0 r.2.2.1)=h++qvD r:=by
   simp only [qvD,wB];rfl
  have ho:=qgj r.1
  rw [qfa (by simp only [wn,wz,wX];omega),qfa (by simp only [wn,wz,wX];omega),qfa (by omega),qfa (by simp only [wn,wz,wX];omega),e1,qfa (by rw [wn];omega),w64 (by omega) (by omega)]
  have ih:=qOI rs hR hS k (i+1) (h++qvD r) (by omega) (by rw [wn];omega)
  rw [show ((i+1:Nat):Int)=(i:Int)+1 by omega] at ih
  rw [ih,d1,qOc,wB]
theorem qWw (a:qha) (rs:List qba) (hR:RecsV rs) (hS:SumsOK rs):qUd a rs=some (qSj a rs):=by
 have hb:=qbI rs hR.each
 have hlen:=hR.len
 have hr:=qWo rs hS
 have hbl:(qph a rs).length=8+(qOc rs).length:=by simp only [qph,wn];rfl
 have h1:qbi rs=some (qOc rs):=by
  rw [qLp];exact qOI rs hR hS rs.length 0 [] (by omega) (by simp)
 rw [qJp,qIp,qfa (by omega),h1]
 simp only [wq]
 have e1:[(66:Int),76,70,1,wd .u8 a.1,wd .u8 (wR a.2.1 256),wd .u8 a.2.1,wd .u8 (wi rs.length)]++qOc rs=qph a rs:=rfl
 rw [e1,qfa (by omega),qYG _ (by omega)]
 simp only [wq]
 have e2:wL 20 (wY 0 (qCm (qph a rs)))=qCm (qph a rs):=by
  rw [wea,wQ (by rw [qLi];omega)]
 rw [e2,qfa (by rw [wn,qLi];omega)]
 rfl
instance (h:qga):Decidable (hOK h):=by unfold hOK;infer_instance
theorem qRq (a:qha) (rs:List qba) (hs:16≤a.2.1∧a.2.1≤4096) (hR:RecsV rs):∀(k i:Nat),i+k=rs.length→qSi rs (rs.length:Int) (i:Int) a (szs (rs.take i))=some (ap a.2.1 0 rs)
 |0,i,e=>by
  rw [qVm,if_neg (by simp;omega),wQ (by omega),qUy _ rs hs hR];rfl
 |k+1,i,e=>by
  have hlen:=hR.len
  have hl':wi rs.length=(rs.length:Int):=rfl
  obtain ⟨d1,d2,d3⟩:=qVa (qra qla:qba) (xs:=rs) (i:=i) (by omega)
  have hz:szs (wL i rs)++[(wm rs i (qra qla)).2.1]=szs (wL (i+1) rs):=by rw [d2];simp [szs]
  have ih:=qRq a rs hs hR k (i+1) (by omega)
  rw [show ((i+1:Nat):Int)=(i:Int)+1 by omega] at ih
  rw [qVm,if_pos (by simp;omega),qfa (by omega),qfa (by rw [hl'];omega),wv,hz,qfa (by rw [qkn,wM];omega),w64 (by omega) (by omega),ih]
theorem qpo (a:qha) (rs:List qba) (hs:16≤a.2.1∧a.2.1≤4096) (hR:RecsV rs):qHn a rs=some (ap a.2.1 0 rs):=by
 rw [qCz];exact qRq a rs hs hR rs.length 0 (by omega)
theorem qIy {a:qha} (h:chk a=0):16≤a.2.1∧a.2.1≤4096:=by
 unfold chk at h
 split at h <;> omega
instance (h:qga) (p:qca):Decidable (isP h p):=by unfold isP;infer_instance
theorem qMu (h:qga) (p:qca):qIB h p=some (decide (isP h p)):=by
 rw [qvJ]
 congr 1
 simp only [peq,Bool.and_true]
 rw [Bool.eq_iff_iff,decide_eq_true_eq]
 simp only [wA,decide_eq_true_eq]
 exact Iff.rfl
def ckL:List qga→List qca→Int
 |h::hs,p::ps=>if hOK h∧isP h p then ckL hs ps else 8
 |_,_=>0
def lck (l:qCa):Int:=
 if chk l.1≠0 then 8 else if qtf l.2.1≠0 then 8 else if (ap l.1.2.1 0 l.2.1).length≠l.2.2.1.length then 8 else ckL l.2.2.1 (ap l.1.2.1 0 l.2.1)
theorem qaE (hs:List qga) (ps:List qca) (hl:hs.length=ps.length) (hb:hs.length≤1000000):∀(k i:Nat),i+k=hs.length→qRj hs (hs.length:Int) (i:Int) ps=some (ckL (hs.drop i) (ps.drop i))
 |0,i,e=>by
  rw [qro,if_neg (by simp;omega),wK (by omega)];rfl
 |k+1,i,e=>by
  have hl':wi hs.length=(hs.length:Int):=rfl
  have hl2:wi ps.length=(ps.length:Int):=rfl
  obtain ⟨d1,d2,d3⟩:=qVa (qra qva:qga) (xs:=hs) (i:=i) (by omega)
  obtain ⟨p1,p2,p3⟩:=qVa (qra qja:qca) (xs:=ps) (i:=i) (by omega)
  have ih:=qaE hs ps hl hb k (i+1) (by omega)
  rw [show ((i+1:Nat):Int)=(i:Int)+1 by omega] at ih
  rw [qro,if_pos (by simp;omega),qfa (by omega),qfa (by rw [hl'];omega),wv,wJ,que]
  simp only [wq,qUN]
  rw [d1,p1,ckL]
  generalize hs.getD i (qra qva)=h0
  generalize ps.getD i (qra qja)=p0
  by_cases h1:hOK h0
  ·rw [if_neg (by simpa using h1),qfa (by omega),qfa (by rw [hl2];omega),qMu]
   simp only [wq]
   by_cases h2:isP h0 p0
   ·rw [if_neg (by simp [h2]),if_pos ⟨h1,h2⟩,w64 (by omega) (by omega),ih]
   ·rw [if_pos (by simp [h2]),if_neg (fun h=>h2 h.2)]
  ·rw [if_pos h1,if_neg (fun h=>h1 h.1)]
theorem qMx (l:qCa) (hR:RecsOK l.2.1):qSt l=some (lck l):=by
 rw [qLB,qAk,qse _ hR]
 simp only [wq,lck]
 by_cases hc:chk l.1=0
 ·rw [if_neg (by simp [hc]),if_neg (show ¬chk l.1≠0 by simp [hc])]
  by_cases hv:qtf l.2.1=0
  ·have h16:=qIy hc
   have hV:=qCc hv
   rw [if_neg (by simp [hv]),if_neg (show ¬qtf l.2.1≠0 by simp [hv]),qpo l.1 l.2.1 h16 hV]
   simp only [wq]
   have hsm:=qMC l.1.2.1 h16.1 l.2.1 hV
   by_cases hl:(ap l.1.2.1 0 l.2.1).length=l.2.2.1.length
   ·rw [if_neg (by simp [hl]),if_neg (show ¬(ap l.1.2.1 0 l.2.1).length≠l.2.2.1.length by simp [hl])]
    exact qaE l.2.2.1 _ hl.symm (by omega) l.2.2.1.length 0 (by omega)
   ·rw [if_pos (by simp;omega),if_pos hl]
  ·rw [if_pos (by simpa using hv),if_pos hv]
 ·rw [if_pos (by simpa using hc),if_pos hc]
theorem quI:∀(hs:List qga) (ps:List qca),hs.length=ps.length→ckL hs ps=0→∀h∈hs,hOK h
 |[],_,_,_,h,hh=>by cases hh
 |h::hs,[],hl,_,_,_=>by simp at hl
 |h::hs,p::ps,hl,hc,x,hx=>by
  simp only [ckL] at hc
  split at hc
  ·rename_i hok
   rcases wZ.1 hx with rfl|hx
   ·exact hok.1
   ·exact quI hs ps (by simpa using hl) hc x hx
  ·omega
structure LstV (l:qCa):Prop where
 blk:16≤l.1.2.1∧l.1.2.1≤4096
 chk:chk l.1=0
 val:qtf l.2.1=0
 recs:RecsV l.2.1
 len:l.2.2.1.length=(ap l.1.2.1 0 l.2.1).length
 hds:∀h∈l.2.2.1,hOK h
 ck:ckL l.2.2.1 (ap l.1.2.1 0 l.2.1)=0
theorem qPN {l:qCa} (h:lck l=0):LstV l:=by
 unfold lck at h
 split at h
 ·omega
 ·rename_i hc
  split at h
  ·omega
  ·rename_i hv
   split at h
   ·omega
   ·rename_i hl
    simp only [ne_eq,Decidable.not_not] at hc hv hl
    exact ⟨qIy hc,hc,hv,qCc hv,hl.symm,quI _ _ hl.symm h,h⟩
theorem qiR {l:qCa}:lck l=0∨lck l=8:=by
 have h:∀hs ps,ckL hs ps=0∨ckL hs ps=8:=by
  intro hs
  induction hs with
  |nil=>intro ps;left;rfl
  |cons x xs ih=>
   intro ps
   cases ps with
   |nil=>left;rfl
   |cons p ps=>simp only [ckL];split;exact ih ps;right;rfl
 unfold lck
 split;right;rfl
 split;right;rfl
 split;right;rfl
 exact h _ _
def plc:Int→List qga→List Int
 |_,[]=>[]
 |at_,h::r=>at_::plc (at_+(41+h.2.2.2.2.1)) r
theorem qTN {h:qga} (ok:hOK h):1≤h.2.2.2.2.1∧h.2.2.2.2.1≤4096:=by unfold hOK at ok;omega
theorem qHA (hs:List qga) (hh:∀h∈hs,hOK h) (hb:hs.length≤1000000):∀(k i:Nat) (at_:Int) (out:List Int),i+k=hs.length→0≤at_→at_≤100000+5000*i→out.length=i→qTi at_ hs (hs.length:Int) (i:Int) out=some (out++plc at_ (hs.drop i),0)
 |0,i,at_,out,e,h0,h1,ho=>by
  rw [qWm,if_neg (by simp;omega),wK (by omega)];simp [plc]
 |k+1,i,at_,out,e,h0,h1,ho=>by
  have hl':wi hs.length=(hs.length:Int):=rfl
  obtain ⟨d1,d2,d3⟩:=qVa (qra qva:qga) (xs:=hs) (i:=i) (by omega)
  have hv:=qTN (hh _ d3)
  have ih:=qHA hs hh hb k (i+1) (at_+(41+(hs.getD i (qra qva)).2.2.2.2.1)) (out++[at_]) (by omega) (by omega) (by omega) (by simp;omega)
  rw [show ((i+1:Nat):Int)=(i:Int)+1 by omega] at ih
  rw [qWm,if_pos (by simp;omega),qfa (by omega),qfa (by rw [hl'];omega),qfa (by simp only [wn,wz,wX];omega),wv,w64 (x:=41+_) (by omega) (by omega),w64 (x:=(i:Int)+1) (by omega) (by omega),w64 (by omega) (by omega),ih,d1,plc,wB]
  rfl
def qyD (l:qCa):List Int:=plc (28+qdE l.2.1) l.2.2.1
theorem qqo (l:qCa) (hR:RecsOK l.2.1) (hS:SumsOK l.2.1):qJn l=some (if lck l=0 then (qyD l,0) else ([],8)):=by
 rw [qDz,qMx l hR]
 simp only [wq]
 rcases qiR (l:=l) with h|h
 ·have hL:=qPN h
  have hsm:=qMC l.1.2.1 hL.blk.1 l.2.1 hL.recs
  have hb:=qbI l.2.1 hL.recs.each
  have hlen:=hL.recs.len
  have hll:=hL.len
  rw [if_neg (by simp [h]),if_pos h,qLq _ _ hR hS]
  have ha:ask l.1 l.2.1=0:=by unfold ask;rw [if_neg (by simp [hL.chk]),hL.val]
  rw [ha,if_neg (by simp)]
  simp only [wq]
  have hh:=qPL l.1 l.2.1 hS
  have hh':wi (qSj l.1 l.2.1).length=28+qdE l.2.1:=hh
  rw [hh']
  exact qHA l.2.2.1 hL.hds (by omega) l.2.2.1.length 0 _ [] (by omega) (by omega) (by omega) rfl
 ·rw [if_pos (by simp [h]),h,if_neg (by decide)]
theorem qKH {x y:Int} (hx:0≤x∧x<4294967296) (hy:0≤y∧y<256):qrc .i64 (x*256) y=x*256+y:=by
 obtain ⟨a,rfl⟩:=whb hx.1
 obtain ⟨b,rfl⟩:=whb hy.1
 exact qJH a b (by omega) (by omega)
theorem qLu (v0:List Int) (hl:v0.length=28) (b8:qga) (m mem off raw len:Int):∀(d n:Nat) (S:List Int),20 - n=d→n≤20→S.length=20→S.take n=(v0.drop 8).take n→
  qYd v0 (n:Int) b8 (m,(mem,(off,(raw,(len,(S,()))))))=some (if hOK (m,(mem,(off,(raw,(len,(v0.drop 8,())))))) then ((m,(mem,(off,(raw,(len,(v0.drop 8,())))))),0) else (zH,12))
 |0,n,S,hd,hn,hS,ht=>by
  have hS':S=v0.drop 8:=by
   rw [wQ (by omega),wQ (by simp;omega)] at ht;exact ht
  subst hS'
  rw [qjh,if_neg (by simp;omega),qiv]
  simp only [wq,qUN]
  by_cases ok:hOK (m,(mem,(off,(raw,(len,(v0.drop 8,()))))))
  ·rw [if_neg (by simpa using ok),if_pos ok]
  ·rw [if_pos ok,if_neg ok];rfl
 |d+1,n,S,hd,hn,hS,ht=>by
  rw [qjh,if_pos (by simp;omega),w64 (x:=8+(n:Int)) (by omega) (by omega),qfa (by omega),qfa (by simp only [wj];omega),qfa (by omega),qfa (by omega),w64 (x:=(n:Int)+1) (by omega) (by omega)]
  have e1:wo (8+(n:Int))=8+n:=by omega
  simp only [e1,wv]
  have:=qLu v0 hl b8 m mem off raw len d (n+1) (S.set n (v0.getD (8+n) 0)) (by omega) (by omega) (by simpa using hS) (by
   rw [qXA _ _ _ (by omega),ht,List.take_succ_eq_append_getElem (by simp;omega)]
   have h8:8+n<v0.length:=by omega
   simp [wu,h8])
  exact this
theorem qhv (a:List Int) (hb:Bts a):qdi a=some (pP a):=by
 rw [qNp]
 by_cases hl:a.length=28
 ·rw [if_neg (by simp [hl])]
  repeat rw [qfa (by first|decide|(simp only [wj];omega))]
  have h1:=hb.getD 1;have h2:=hb.getD 2;have h3:=hb.getD 3;have h4:=hb.getD 4;have h5:=hb.getD 5;have h6:=hb.getD 6;have h7:=hb.getD 7
  rw [w64 (x:=a.getD 1 0) (by omega) (by omega),w64 (x:=a.getD 2 0) (by omega) (by omega),w64 (x:=a.getD 3 0) (by omega) (by omega),w64 (x:=a.getD 4 0) (by omega) (by omega),w64 (x:=a.getD 5 0) (by omega) (by omega),w64 (x:=a.getD 6 0) (by omega) (by omega),w64 (x:=a.getD 7 0) (by omega) (by omega)]
  rw [w64 (x:=a.getD 2 0*256) (by omega) (by omega),w64 (x:=a.getD 4 0*256) (by omega) (by omega),w64 (x:=a.getD 6 0*256) (by omega) (by omega)]
  rw [w64 (x:=a.getD 2 0*256+a.getD 3 0) (by omega) (by omega),w64 (x:=a.getD 4 0*256+a.getD 5 0) (by omega) (by omega),w64 (x:=a.getD 6 0*256+a.getD 7 0) (by omega) (by omega)]
  have:=qLu a hl zH (a.getD 0 0) (a.getD 1 0) (a.getD 2 0*256+a.getD 3 0) (a.getD 4 0*256+a.getD 5 0) (a.getD 6 0*256+a.getD 7 0) 20 0 (wl 20 0) rfl (by omega) (by simp) (by simp)
  refine Eq.trans this ?_
  show some (if hOK (pH a) then (pH a,(0:Int)) else (zH,12))=_
  unfold pP
  by_cases ok:hOK (pH a)
  ·rw [if_pos (show hOK (pH a) from ok),if_pos ⟨hl,ok⟩]
  ·rw [if_neg (show ¬hOK (pH a) from ok),if_neg (fun h=>ok h.2)]
 ·rw [if_pos (by simp;omega)]
  unfold pP
  rw [if_neg (fun h=>hl h.1)];rfl
theorem qrw (v0:List Int) (h1:41≤v0.length) (h2:v0.length≤50000):∀(d n:Nat),13 - n=d→n≤13→qAc v0 0 (n:Int) mark=some (decide ((v0.drop n).take (13 - n)=mark.drop n))
 |0,n,hd,hn=>by
  have:n=13:=by omega
  subst this
  rw [qLc,if_neg (by decide)]
  simp [mark]
 |d+1,n,hd,hn=>by
  have hlt:n<v0.length:=by omega
  have hm:n<mark.length:=by rw [qAd];omega
  rw [qLc,if_pos (by simp;omega),w64 (x:=0+(n:Int)) (by omega) (by omega),qfa (by omega),qfa (by simp only [wj];omega),qfa (by omega),qfa (by simp only [wj];omega),w64 (x:=(n:Int)+1) (by omega) (by omega)]
  have e1:wo (0+(n:Int))=n:=by omega
  have ih:=qrw v0 h1 h2 d (n+1) (by omega) (by omega)
  simp only [Int.natCast_add,show ((1:Nat):Int)=1 from rfl] at ih
  simp only [e1,wv,wJ]
  rw [ih]
  have g1:v0.getD n 0=v0[n]:=by simp [wu,hlt]
  have g2:mark.getD n 0=mark[n]:=by simp [wu,hm]
  rw [g1,g2,wka hlt,wka hm,show 13 - n=(13 - (n+1))+1 by omega,List.take_succ_cons]
  by_cases he:v0[n]=mark[n]
  ·rw [if_neg (by simp [he]),he]
   congr 1
   rw [decide_eq_decide]
   exact ⟨fun h=>by rw [h],fun h=>(List.cons.inj h).2⟩
  ·rw [if_pos (by simpa using he)]
   have:¬(v0[n]::wL (13 - (n+1)) (wY (n+1) v0)=mark[n]::wY (n+1) mark):=fun h=>he (List.cons.inj h).1
   rw [decide_eq_false this]
theorem qVG (a:List Int) (h1:41≤a.length) (h2:a.length≤50000):qvd a 0=some (decide (a.take 13=mark)):=by
 rw [qoi,qzj]
 simp only [wq]
 rw [if_neg (by decide),if_neg (by simp),if_neg (by simp only [decide_eq_true_eq,wj];rw [w64 (by omega) (by omega)];omega)]
 have:=qrw a h1 h2 13 0 rfl (by omega)
 rw [show ((0:Nat):Int)=0 from rfl] at this
 rw [this]
 rfl
theorem qKv (xs:List Int) (h:xs.length≤1000000):qDi xs=some xs:=by
 rw [qcr]
 refine qMy false (by simp) (fun b hb=>?_)
 cases b with
 |true=>rw [if_pos rfl,hb rfl]
 |false=>rw [if_neg (by simp),qfa (by simp;omega)];simp
def rdB (a:List Int):qda×Int×Int:=
 if a.length>50000 then ((zH,([],())),(0,4)) else if a.length<41 then ((zH,([],())),(0,18))
 else if a.take 13≠mark∨¬hOK (pH ((a.drop 13).take 28)) then ((zH,([],())),(0,12))
 else if (a.length:Int)<41+(pH ((a.drop 13).take 28)).2.2.2.2.1 then ((zH,([],())),(0,18))
 else ((pH ((a.drop 13).take 28),((a.drop 41).take (pH ((a.drop 13).take 28)).2.2.2.2.1.toNat,())),(41+(pH ((a.drop 13).take 28)).2.2.2.2.1,0))
theorem qqu (a:List Int) (hb:Bts a):qfk a=some (rdB a):=by
 rw [qct]
 unfold rdB
 by_cases h1:a.length>50000
 ·rw [if_pos (by simp;omega),if_pos h1];rfl
 rw [if_neg (by simp;omega),if_neg h1]
 by_cases h2:a.length<41
 ·rw [if_pos (by simp;omega),if_pos h2];rfl
 rw [if_neg (by simp;omega),if_neg h2,qfa (by decide),qfa (by decide),qfa (by simp only [wj];omega),qXm _ ((hb.drop _).take _),qSP a (by omega),qPq a hb (by omega) (by omega)]
 simp only [wq]
 by_cases h3:a.take 13=mark
 ·by_cases ok:hOK (pH ((a.drop 13).take 28))
  ·have hlen:=qKk ok
   rw [if_pos ok,if_neg (by simp [h3]),if_neg (by simp),if_neg (show ¬(a.take 13≠mark∨¬hOK (pH ((a.drop 13).take 28))) from fun h=>h.elim (fun h=>h h3) (fun h=>h ok))]
   generalize pH ((a.drop 13).take 28)=h at ok hlen ⊢
   simp only
   rw [w64 (x:=41+h.2.2.2.2.1) (by omega) (by omega)]
   by_cases h4:(a.length:Int)<41+h.2.2.2.2.1
   ·rw [if_pos (by simpa using h4),if_pos h4];rfl
   ·rw [if_neg (by simpa using h4),if_neg h4,qfa (by decide),qfa (by omega),qfa (by simp only [wj];omega),qKv _ (by simp;omega)]
    have e:wo (41+h.2.2.2.2.1) - 41=h.2.2.2.2.1.toNat:=by omega
    simp only [wq,e]
  ·rw [if_neg ok,if_neg (by simp [h3]),if_pos (by simp),if_pos (show (a.take 13≠mark∨¬hOK (pH ((a.drop 13).take 28))) from .inr ok)];rfl
 ·rw [if_pos (by simp [h3]),if_pos (show (a.take 13≠mark∨¬hOK (pH ((a.drop 13).take 28))) from .inl h3)];rfl
theorem qTw (a:List Int) (hb:Bts a):qin a=some (rdB a):=by
 rw [qLj]
 unfold rdB
 by_cases h1:a.length>50000
 ·rw [if_pos (by simp;omega),if_pos h1];rfl
 rw [if_neg (by simp;omega),if_neg h1,qBo]
 by_cases h2:a.length<41
 ·rw [if_pos (by simp;omega),if_pos h2];rfl
 rw [if_neg (by simp;omega),if_neg h2,qfa (by decide),qfa (by decide),qfa (by simp only [wj];omega),qhv _ ((hb.drop _).take _),qSP a (by omega),qVG a (by omega) (by omega)]
 simp only [wq]
 by_cases h3:a.take 13=mark
 ·by_cases ok:hOK (pH ((a.drop 13).take 28))
  ·have hlen:=qKk ok
   rw [if_pos ok,if_neg (by simp [h3]),if_neg (by simp),if_neg (show ¬(a.take 13≠mark∨¬hOK (pH ((a.drop 13).take 28))) from fun h=>h.elim (fun h=>h h3) (fun h=>h ok))]
   generalize pH ((a.drop 13).take 28)=h at ok hlen ⊢
   simp only [wj,decide_eq_true_eq]
   rw [w64 (x:=41+h.2.2.2.2.1) (by omega) (by omega),w64 (x:=(a.length:Int) - 41) (by omega) (by omega)]
   by_cases h4:(a.length:Int)<41+h.2.2.2.2.1
   ·rw [if_pos (by omega),if_pos h4];rfl
   ·rw [if_neg (by omega),if_neg h4,qfa (by decide),qfa (by omega),qfa (by omega),qfa (by simp;omega)]
    have e:wo (41+h.2.2.2.2.1) - 41=h.2.2.2.2.1.toNat:=by omega
    simp only [wq,e,wV]
  ·rw [if_neg ok,if_neg (by simp [h3]),if_pos (by simp),if_pos (show (a.take 13≠mark∨¬hOK (pH ((a.drop 13).take 28))) from .inr ok)];rfl
 ·rw [if_pos (by simp [h3]),if_pos (show (a.take 13≠mark∨¬hOK (pH ((a.drop 13).take 28))) from .inl h3)];rfl
def rK (a:List Int) (p:Nat):Nat:=(a.getD p 0).toNat
def rF (a:List Int) (p:Nat):Prop:=p<a.length∧p+1+rK a p+22≤a.length
instance (a:List Int) (p:Nat):Decidable (rF a p):=by unfold rF;infer_instance
def rR (a:List Int) (p:Nat):qba:=
 (qjn ((a.drop (p+1)).take (rK a p)),(a.getD (p+1+rK a p) 0*256+a.getD (p+2+rK a p) 0,((a.drop (p+3+rK a p)).take 20,())))
def qoF (a:List Int):Nat→Nat→List qba→List qba×Int×Int
 |0,p,acc=>if qtf acc≠0 then ([],(0,12)) else (acc,((p:Int),0))
 |n+1,p,acc=>if rF a p then qoF a n (p+rK a p+23) (acc++[rR a p]) else ([],(0,18))
theorem qXK {a:List Int} (hb:Bts a) (p:Nat):a.getD p 0=(rK a p:Int)∧rK a p<256:=by
 have:=hb.getD p
 unfold rK;omega
theorem qWA (a:List Int) (p n i:Nat) (h:i<n):((a.drop p).take n).getD i 0=a.getD (p+i) 0:=by
 simp only [wu,List.getElem?_take,List.getElem?_drop,if_pos h]
theorem qbs (a:List Int) (hl:a.length≤100000) (p n:Nat) (hp:p≤a.length) (hn:n≤1000):
  qWc (n:Int) ((a,((p:Int),())),())=some (if p+n≤a.length then ((a.drop p).take n,(none,((a,(((p+n:Nat):Int),())),()))) else ([],(some 18,((a,((p:Int),())),())))):=by
 have hl':wi a.length=(a.length:Int):=rfl
 rw [qep]
 simp only [hl']
 rw [w64 (x:=(a.length:Int) - p) (by omega) (by omega),w64 (x:=(p:Int)+n) (by omega) (by omega),w64 (x:=(p:Int)+n - n) (by omega) (by omega)]
 by_cases h:p+n≤a.length
 ·have e1:((p:Int)+n).toNat=p+n:=by omega
  have e2:((p:Int)+n - n).toNat=p:=by omega
  rw [if_neg (by simp;omega),qfa (by omega),qfa (by omega),qfa (by omega),if_pos h,e1,e2,Nat.add_sub_cancel_left]
  rfl
 ·rw [if_pos (by simp;omega),if_neg h]
theorem qQK (a:List Int) (hb:Bts a) (hl:a.length≤100000) (p:Nat) (hf:rF a p):
  qie ((a,((p:Int),())),())=some (rR a p,(none,((a,(((p+rK a p+23:Nat):Int),())),()))):=by
 obtain ⟨h1,h2⟩:=hf
 obtain ⟨ek,hk⟩:=qXK hb p
 have t1:qWc (1:Int) ((a,((p:Int),())),())=_:=qbs a hl p 1 (by omega) (by omega)
 have t2:=qbs a hl (p+1) (rK a p+22) (by omega) (by omega)
 rw [if_pos (by omega)] at t1
 rw [if_pos (by omega)] at t2
 rw [qEh,t1]
 simp only [wq]
 have l1:((a.drop p).take 1).length=1:=by simp;omega
 have g1:((a.drop p).take 1).getD 0 0=(rK a p:Int):=by rw [qWA _ _ _ _ (by omega)];exact ek
 rw [if_neg (by simp),qfa (by omega),qfa (by rw [l1];decide),g1,w64 (x:=(rK a p:Int)) (by omega) (by omega),w64 (x:=(rK a p:Int)+22) (by omega) (by omega),show (rK a p:Int)+22=((rK a p+22:Nat):Int) by omega,t2]
 simp only [wq]
 have l2:wi ((a.drop (p+1)).take (rK a p+22)).length=(rK a p:Int)+22:=by
  have:((a.drop (p+1)).take (rK a p+22)).length=rK a p+22:=by simp;omega
  rw [this];simp
 rw [l2,w64 (x:=(rK a p:Int)+1) (by omega) (by omega),w64 (x:=(rK a p:Int)+2) (by omega) (by omega)]
 rw [if_neg (by simp),qfa (by omega),qfa (by rw [l1];decide),qfa (by omega),qfa (by omega),qfa (by omega),qfa (by omega),qfa (by omega),qfa (by omega),qfa (by omega),qfa (by omega),qfa (by omega)]
 have n1:((rK a p:Int)).toNat=rK a p:=by omega
 have n2:((rK a p:Int)+1).toNat=rK a p+1:=by omega
 have n3:((rK a p:Int)+2).toNat=rK a p+2:=by omega
 rw [n1,n2,n3,qWA _ _ _ _ (by omega),qWA _ _ _ _ (by omega)]
 have b1:=hb.getD (p+1+rK a p)
 have b2:=hb.getD (p+1+(rK a p+1))
 rw [w64 (x:=a.getD (p+1+rK a p) 0) (by omega) (by omega),w64 (x:=a.getD (p+1+(rK a p+1)) 0) (by omega) (by omega),w64 (x:=a.getD (p+1+rK a p) 0*256) (by omega) (by omega),qKH (by omega) b2]
 have e1:wL (rK a p) ((a.drop (p+1)).take (rK a p+22))=(a.drop (p+1)).take (rK a p):=by rw [List.take_take,wfb (by omega)]
 have e2:wY (rK a p+2) ((a.drop (p+1)).take (rK a p+22))=(a.drop (p+3+rK a p)).take 20:=by
  rw [List.drop_take,wda,show rK a p+22 - (rK a p+2)=20 by omega,show p+1+(rK a p+2)=p+3+rK a p by omega]
 have l3:((a.drop (p+3+rK a p)).take 20).length=20:=by simp;omega
 rw [e1,e2,l3]
 have e3:qsb (wl 20 (0:Int)) 0 (wL (min 20 20) ((a.drop (p+3+rK a p)).take 20))=(a.drop (p+3+rK a p)).take 20:=by
  rw [show min 20 20=20 from rfl,wQ (by omega),qsb,l3]
  simp
 rw [e3]
 unfold rR
 rw [show p+1+(rK a p+1)=p+2+rK a p by omega,show p+1+(rK a p+22)=p+rK a p+23 by omega]
theorem qRK (a:List Int) (hb:Bts a) (hl:a.length≤100000) (p:Nat) (hp:p≤a.length) (hf:¬rF a p):
  ∃x s,qie ((a,((p:Int),())),())=some (x,(some 18,s)):=by
 obtain ⟨ek,hk⟩:=qXK hb p
 have t1:qWc (1:Int) ((a,((p:Int),())),())=_:=qbs a hl p 1 (by omega) (by omega)
 rw [qEh,t1]
 simp only [wq]
 by_cases h1:p+1≤a.length
 ·have t2:=qbs a hl (p+1) (rK a p+22) (by omega) (by omega)
  rw [if_neg (by unfold rF at hf;omega)] at t2
  have l1:((a.drop p).take 1).length=1:=by simp;omega
  have g1:((a.drop p).take 1).getD 0 0=(rK a p:Int):=by rw [qWA _ _ _ _ (by omega)];exact ek
  rw [if_pos h1]
  simp only
  rw [if_neg (by simp),qfa (by omega),qfa (by rw [l1];decide),g1,w64 (x:=(rK a p:Int)) (by omega) (by omega),w64 (x:=(rK a p:Int)+22) (by omega) (by omega),show (rK a p:Int)+22=((rK a p+22:Nat):Int) by omega,t2]
  exact ⟨_,_,rfl⟩
 ·rw [if_neg h1]
  exact ⟨_,_,rfl⟩
theorem qIP (a:List Int) (hb:Bts a) (p:Nat) (hf:rF a p):(rR a p).1.size=rK a p∧(rR a p).2.2.1.length=20∧Bts (rR a p).2.2.1:=by
 obtain ⟨h1,h2⟩:=hf
 refine ⟨?_,?_,(hb.drop _).take _⟩
 ·unfold rR;rw [qSI];simp;omega
 ·unfold rR;simp;omega
theorem RecsOK.snoc {l:List qba} {r:qba} (h:RecsOK l) (hl:l.length<9223372036854775807) (hr:r.1.size≤9223372036854775807):RecsOK (l++[r]):=
 ⟨by simp;omega,fun q hq=>by
  rcases wba.1 hq with hq|hq
  ·exact h.2 q hq
  ·rw [wU.1 hq];exact hr⟩
theorem SumsOK.snoc {l:List qba} {r:qba} (h:SumsOK l) (hr:r.2.2.1.length=20∧Bts r.2.2.1):SumsOK (l++[r]):=fun q hq=>by
 rcases wba.1 hq with hq|hq
 ·exact h q hq
 ·rw [wU.1 hq];exact hr
theorem qXH (a:List Int) (hb:Bts a) (hl:a.length≤100000) (N:Nat) (hN:N≤16):∀(n i p:Nat) (acc:List qba),i+n=N→acc.length=i→p≤a.length→RecsOK acc→
  qPi (N:Int) (i:Int) ((a,((p:Int),())),()) acc=some (qoF a n p acc)
 |0,i,p,acc,e,hi,hp,hR=>by
  rw [qPm,if_neg (by simp;omega),qse acc hR]
  simp only [wq,qoF]
  by_cases h:qtf acc=0
  ·rw [if_neg (by simp [h]),if_neg (by simp [h])]
  ·rw [if_pos (by simpa using h),if_pos h]
 |n+1,i,p,acc,e,hi,hp,hR=>by
  rw [qPm,if_pos (by simp;omega),qoF]
  by_cases hf:rF a p
  ·have hr:=qIP a hb p hf
   have hk:=qXK hb p
   rw [qQK a hb hl p hf,if_pos hf]
   simp only [wq,qQz]
   rw [if_neg (by simp),qfa (by simp;omega),w64 (by omega) (by omega)]
   have ih:=qXH a hb hl N hN n (i+1) (p+rK a p+23) (acc++[rR a p]) (by omega) (by simp;omega) (by unfold rF at hf;omega) (hR.snoc (by omega) (by omega))
   rw [show ((i+1:Nat):Int)=(i:Int)+1 by omega] at ih
   exact ih
  ·obtain ⟨x,s,hx⟩:=qRK a hb hl p hp hf
   rw [hx,if_neg hf]
   simp only [wq,qPz]
   rw [if_pos trivial]
def rdM (a:List Int) (n:Int):List qba×Int×Int:=if n<0∨n>16 then ([],(0,2)) else if a.length>50000 then ([],(0,4)) else qoF a n.toNat 0 []
theorem RecsOK.nil:RecsOK []:=⟨by simp,fun _ h=>by cases h⟩
theorem SumsOK.nil:SumsOK []:=fun _ h=>by cases h
theorem qvv (a:List Int) (hb:Bts a) (n:Int):qyr a n=some (rdM a n):=by
 rw [qxz,rdM]
 by_cases h1:n<0
 ·rw [if_pos (by simpa using h1),if_pos (.inl h1)]
 ·rw [if_neg (by simpa using h1)]
  by_cases h2:n>16
  ·rw [if_pos (by simpa using h2),if_pos (.inr h2)]
  ·rw [if_neg (by simpa using h2),if_neg (show ¬(n<0∨n>16) by omega)]
   by_cases h3:a.length>50000
   ·rw [if_pos (by simp;omega),if_pos h3]
   ·rw [if_neg (by simp;omega),if_neg h3]
    have:=qXH a hb (by omega) n.toNat (by omega) n.toNat 0 0 [] (by omega) rfl (by omega) .nil
    rw [show ((n.toNat:Nat):Int)=n by omega] at this
    exact this
theorem qwf {α:Type} (l:List α) (m n:Nat):l.take (m+n)=l.take m++(l.drop m).take n:=List.take_add
theorem qCi (a:List Int) (p:Nat) (h:p<a.length):(a.drop p).take 1=[a.getD p 0]:=by
 rw [(qVa (0:Int) h).1];rfl
theorem qFP (a:List Int) (hb:Bts a) (p:Nat) (hf:rF a p):qvD (rR a p)=(a.drop p).take (rK a p+23):=by
 obtain ⟨h1,h2⟩:=hf
 obtain ⟨ek,hk⟩:=qXK hb p
 have hs:=(qIP a hb p ⟨h1,h2⟩).1
 have b1:=hb.getD (p+1+rK a p)
 have b2:=hb.getD (p+2+rK a p)
 have e1:wd .u8 ((rR a p).1.size:Int)=(rK a p:Int):=by rw [hs,wu8];omega
 have e2:qpd (rR a p).1=(a.drop (p+1)).take (rK a p):=qAn ((hb.drop _).take _)
 have e3:wd .u8 (wR (rR a p).2.1 256)=a.getD (p+1+rK a p) 0:=by
  show wd .u8 (wR (a.getD (p+1+rK a p) 0*256+a.getD (p+2+rK a p) 0) 256)=_
  rw [wu8,qJg _ (by omega)];omega
 have e4:wd .u8 (rR a p).2.1=a.getD (p+2+rK a p) 0:=by
  show wd .u8 (a.getD (p+1+rK a p) 0*256+a.getD (p+2+rK a p) 0)=_
  rw [wu8];omega
 have e5:wL 20 (wY 0 (rR a p).2.2.1)=(a.drop (p+3+rK a p)).take 20:=by
  show wL 20 (wY 0 ((a.drop (p+3+rK a p)).take 20))=_
  rw [wea,List.take_take];rfl
 unfold qvD
 rw [e1,e2,e3,e4,e5,show rK a p+23=1+(rK a p+(1+(1+20))) by omega,qwf,qwf,qwf,qwf,wda,wda,wda,wda,qCi a p h1,qCi a (p+1+rK a p) (by omega),show p+1+rK a p+1=p+2+rK a p by omega,qCi a (p+2+rK a p) (by omega),show p+2+rK a p+1=p+3+rK a p by omega,ek]
 simp only [wB,wca,wV]
theorem qIu:∀(l m:List qba),qOc (l++m)=qOc l++qOc m
 |[],m=>rfl
 |r::l,m=>by simp only [wca,qOc,qIu l m,wB]
structure ReadOK (a:List Int) (n:Nat) (l:List qba) (q:Nat):Prop where
 le:q≤a.length
 bytes:qOc l=a.take q
 val:qtf l=0
 sums:SumsOK l
 recs:RecsOK l
 len:l.length=n
theorem qVK (a:List Int) (hb:Bts a):∀(n p:Nat) (acc l:List qba) (q:Int),qoF a n p acc=(l,(q,0))→p≤a.length→qOc acc=a.take p→SumsOK acc→RecsOK acc→acc.length+n≤1000→
  ∃q':Nat,q=q'∧ReadOK a (acc.length+n) l q'∧p≤q'
 |0,p,acc,l,q,h,hp,hB,hS,hR,hn=>by
  simp only [qoF] at h
  split at h
  ·simp at h
  ·rename_i hv
   simp only [Prod.mk.injEq] at h
   obtain ⟨rfl,rfl,_⟩:=h
   exact ⟨p,rfl,⟨hp,hB,by simpa using hv,hS,hR,rfl⟩,ws _⟩
 |n+1,p,acc,l,q,h,hp,hB,hS,hR,hn=>by
  simp only [qoF] at h
  split at h
  ·rename_i hf
   have hr:=qIP a hb p hf
   have hk:=qXK hb p
   obtain ⟨h1,h2⟩:=id hf
   obtain ⟨q',e,hO,hle⟩:=qVK a hb n _ _ l q h (by omega) (by
    rw [qIu,hB,show qOc [rR a p]=qvD (rR a p)++[] from rfl,wW,qFP a hb p hf,show p+rK a p+23=p+(rK a p+23) by omega,qwf a p]) (hS.snoc hr.2) (hR.snoc (by omega) (by omega)) (by simp;omega)
   rw [show (acc++[rR a p]).length+n=acc.length+(n+1) by simp;omega] at hO
   exact ⟨q',e,hO,by omega⟩
  ·simp at h
def sH (a:List Int):qha:=(a.getD 4 0,(a.getD 5 0*256+a.getD 6 0,()))
def hdE (e:Int):qha×List qba×Int×Int:=((0,(0,())),([],(0,e)))
def magic:List Int:=[66,76,70,1]
def hdP (a:List Int):qha×List qba×Int×Int:=
 if a.length>50000 then hdE 4 else if a.length<8 then hdE 18
 else if a.take 4≠magic∨chk (sH a)≠0∨a.getD 7 0>16 then hdE 12
 else if (rdM (a.drop 8) (a.getD 7 0)).2.2≠0 then hdE (rdM (a.drop 8) (a.getD 7 0)).2.2
 else if (a.length:Int) - 8 - (rdM (a.drop 8) (a.getD 7 0)).2.1<20 then hdE 18
 else if (a.drop (8+(rdM (a.drop 8) (a.getD 7 0)).2.1.toNat)).take 20≠qCm (a.take (8+(rdM (a.drop 8) (a.getD 7 0)).2.1.toNat)) then hdE 22
 else (sH a,((rdM (a.drop 8) (a.getD 7 0)).1,(28+(rdM (a.drop 8) (a.getD 7 0)).2.1,0)))
theorem qdr (a b:List Int) (ha:Bts a) (hb:Bts b):qXf a b=some (decide (a.take b.length=b)):=by
 rw [qWl]
 by_cases h:b.length≤a.length
 ·rw [if_pos (by simp;omega),qfa (by simp),qfa (by simp;omega),qAm,quR (ha.take _) hb];rfl
 ·rw [if_neg (by simp;omega)]
  have:¬a.take b.length=b:=fun e=>by
   have:=congrArg we e
   simp at this;omega
  simp [this]
theorem qGO {a:List Int} (hb:Bts a) (hl:a.length≤50000) {n:Int} (hn:0≤n∧n≤16) (h:(rdM a n).2.2=0):∃q:Nat,(rdM a n).2.1=q∧ReadOK a n.toNat (rdM a n).1 q:=by
 have e:rdM a n=qoF a n.toNat 0 []:=by unfold rdM;rw [if_neg (by omega),if_neg (by omega)]
 rw [e] at h ⊢
 obtain ⟨q,e1,e2,_⟩:=qVK a hb n.toNat 0 [] (qoF a n.toNat 0 []).1 (qoF a n.toNat 0 []).2.1 (by rw [←h]) (by omega) rfl .nil .nil (by simp;omega)
 rw [show ([]:List qba).length+n.toNat=n.toNat by simp] at e2
 exact ⟨q,e1,e2⟩
theorem qWJ {a:List Int} (hb:Bts a) (h8:8≤a.length) (hm:a.take 4=magic) (hc:chk (sH a)=0) (h7:a.getD 7 0≤16) {l:List qba} {q:Nat} (hO:ReadOK (a.drop 8) (a.getD 7 0).toNat l q):qph (sH a) l=a.take (8+q):=by
 have b4:=hb.getD 4
 have b5:=hb.getD 5
 have b6:=hb.getD 6
 have b7:=hb.getD 7
 have e1:wd .u8 (sH a).1=a.getD 4 0:=by show wd .u8 (a.getD 4 0)=_;rw [wu8];omega
 have e2:wd .u8 (wR (sH a).2.1 256)=a.getD 5 0:=by
  show wd .u8 (wR (a.getD 5 0*256+a.getD 6 0) 256)=_
  rw [wu8,qJg _ (by omega)];omega
 have e3:wd .u8 (sH a).2.1=a.getD 6 0:=by
  show wd .u8 (a.getD 5 0*256+a.getD 6 0)=_
  rw [wu8];omega
 have e4:wd .u8 (l.length:Int)=a.getD 7 0:=by rw [hO.len,wu8];omega
 unfold qph qcy
 rw [e1,e2,e3,e4,hO.bytes,qwf,show (8:Nat)=4+(1+(1+(1+1))) from rfl,qwf a 4,qwf,qwf,qwf,wda,wda,wda,qCi a 4 (by omega),qCi a (4+1) (by omega),qCi a (4+1+1) (by omega),qCi a (4+1+1+1) (by omega),hm]
 rfl
theorem qdf (a:List Int) (hb:Bts a):qHk a=some (hdP a):=by
 have hl':wi a.length=(a.length:Int):=rfl
 rw [qWD,hl']
 unfold hdP
 by_cases h1:a.length>50000
 ·rw [if_pos (by simp;omega),if_pos h1];rfl
 rw [if_neg (by simp;omega),if_neg h1]
 by_cases h2:a.length<8
 ·rw [if_pos (by simp;omega),if_pos h2];rfl
 have b4:=hb.getD 4
 have b5:=hb.getD 5
 have b6:=hb.getD 6
 have b7:=hb.getD 7
 rw [if_neg (by simp;omega),if_neg h2,qfa (by decide),qfa (by omega),qfa (by decide),qfa (by omega),qfa (by decide),qfa (by decide),qfa (by omega),qdr a _ hb (by intro x hx;simp at hx;omega)]
 simp only [wq]
 rw [w64 (x:=a.getD 4 0) (by omega) (by omega),w64 (x:=a.getD 5 0) (by omega) (by omega),w64 (x:=a.getD 6 0) (by omega) (by omega),w64 (x:=a.getD 7 0) (by omega) (by omega),w64 (x:=a.getD 5 0*256) (by omega) (by omega),qKH (by omega) b6]
 have es:((a.getD 4 0,(a.getD 5 0*256+a.getD 6 0,())):qha)=sH a:=rfl
 have em:([66,76,70,1]:List Int)=magic:=rfl
 rw [es,em,show magic.length=4 from rfl]
 by_cases hm:a.take 4=magic
 ·rw [if_neg (by simp [hm]),qAk]
  simp only [wq]
  by_cases hc:chk (sH a)=0
  ·rw [if_neg (by simp [hc]),qfa (by decide),qfa (by omega)]
   by_cases h7:a.getD 7 0>16
   ·rw [if_pos (by simpa using h7),if_pos (.inr (.inr h7))];rfl
   ·rw [if_neg (by simpa using h7),if_neg (show ¬(a.take 4≠magic∨chk (sH a)≠0∨a.getD 7 0>16) from fun h=>by rcases h with h|h|h;exact h hm;exact h hc;exact h7 h),qfa (by decide),qfa (by omega),qfa (by decide),qfa (by omega),qvv _ (hb.drop 8)]
    simp only [wq]
    by_cases hr:(rdM (a.drop 8) (a.getD 7 0)).2.2=0
    ·obtain ⟨q,hq,hO⟩:=qGO (hb.drop 8) (by simp;omega) ⟨b7.1,by omega⟩ hr
     have hle:=hO.le
     rw [wS] at hle
     have hbody:=qWJ hb (by omega) hm hc (by omega) hO
     have ha:ask (sH a) (rdM (a.drop 8) (a.getD 7 0)).1=0:=by unfold ask;rw [if_neg (by simp [hc]),hO.val]
     rw [if_neg (by rw [hr];decide),if_neg (show ¬(rdM (a.drop 8) (a.getD 7 0)).2.2≠0 from fun h=>h hr),qLq _ _ hO.recs hO.sums,ha,if_neg (by simp)]
     simp only [wq]
     rw [hq,w64 (x:=(a.length:Int) - 8) (by omega) (by omega),w64 (x:=(a.length:Int) - 8 - q) (by omega) (by omega),wv]
     by_cases h20:(a.length:Int) - 8 - q<20
     ·rw [if_pos (by simpa using h20),if_pos h20];rfl
     ·rw [if_neg (by simpa using h20),if_neg h20,qdr a _ hb (qQL _ _ hO.sums)]
      simp only [wq]
      have hhl:(qSj (sH a) (rdM (a.drop 8) (a.getD 7 0)).1).length=8+q+20:=by
       unfold qSj;rw [wn,qLi,hbody];simp;omega
      have hiff:a.take (qSj (sH a) (rdM (a.drop 8) (a.getD 7 0)).1).length=qSj (sH a) (rdM (a.drop 8) (a.getD 7 0)).1↔(a.drop (8+q)).take 20=qCm (a.take (8+q)):=by
       rw [hhl,qwf]
       unfold qSj
       rw [hbody]
       constructor
       ·intro h;exact List.append_cancel_left h
       ·intro h;rw [h]
      by_cases hs:(a.drop (8+q)).take 20=qCm (a.take (8+q))
      ·rw [if_neg (by rw [decide_eq_true (hiff.2 hs)];decide),if_neg (show ¬(a.drop (8+q)).take 20≠qCm (a.take (8+q)) by simp [hs]),hhl]
       congr 3
       simp;omega
      ·rw [if_pos (by rw [decide_eq_false (fun h=>hs (hiff.1 h))];rfl),if_pos hs];rfl
    ·rw [if_pos (bne_iff_ne.2 hr),if_pos hr];rfl
  ·rw [if_pos (by simpa using hc),if_pos (.inr (.inl hc))];rfl
 ·rw [if_pos (by simp [hm]),if_pos (.inl hm)];rfl
end Go.Ab
