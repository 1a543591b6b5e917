/-
  An abstract machine over the model's code and its soundness; what the functions compute, as plain functions (printed by a program of this repo's own, checked here by the kernel); plain laws of them: part 6. Helper text, no statement of the claim stands here.
-/
import Derived.Test.YtbpfanppapbdpaaGreatDoorTxtTe
import Derived.Lib.IndexMore
open BitVec renaming ofInt → wC
open Bool renaming and_eq_true → wz, false_eq_true → wI
open ByteArray renaming empty → wD, toList → wW
open Go.IntKind renaming wrap → wd
open Int renaming fdiv → wV, le_refl → wza, ofNat → wi, ofNat_eq_natCast → wj, tdiv → wIa, toNat → wo, toNat_natCast → wA
open List renaming all_cons → wnb, append_assoc → wB, append_nil → wQ, cons_append → wba, drop → wea, drop_drop → wka, drop_eq_getElem_cons → woa, drop_eq_nil_of_le → wta, drop_of_length_le → wgb, drop_zero → wla, flatten_cons → wsb, getD → wm, getD_eq_getElem?_getD → wt, getElem?_append_left → wha, getElem?_append_right → wda, getElem?_eq_getElem → wx, length → we, length_append → wl, length_cons → ww, length_drop → wga, length_nil → wN, length_replicate → wX, length_set → wsa, length_singleton → wv, length_take → wS, map_cons → wJ, mem_append → wR, mem_cons → wU, mem_cons_of_mem → wH, mem_cons_self → wK, mem_map → wP, mem_singleton → wT, nil_append → waa, not_mem_nil → wlb, replicate → wn, set → wF, take → wM, take_length → wOa, take_of_length_le → wL
open Nat renaming add_assoc → wxa, le_refl → ws, sub_zero → wYa, zero_add → wO
open Option renaming bind_some → wy, getD_some → wJa
open Option.some renaming inj → wMa
open Or renaming inr → wZa
open Prod renaming ext → wmb
/-
  What the law leans on, of several chains of plain texts.
-/
set_option linter.unusedVariables false
set_option linter.unusedSimpArgs false
set_option maxHeartbeats 1000000
set_option maxRecDepth 100000
namespace Go.Ab
open Go
attribute [local irreducible] IntKind.wrap
def Tot {α:Type} (x:Option α) (P:α→Prop):Prop:=∃r,x=some r∧P r
theorem uc {α:Type} {r:α} {P:α→Prop} (h:P r):Tot (some r) P:=⟨r,rfl,h⟩
theorem uj {α:Type} {x:Option α} {r:α} {P:α→Prop} (e:x=some r) (h:P r):Tot x P:=⟨r,e,h⟩
theorem Tot.mono {α:Type} {x:Option α} {P Q:α→Prop} (h:Tot x P) (k:∀r,P r→Q r):Tot x Q:=by
 obtain ⟨r,e,p⟩:=h;exact ⟨r,e,k r p⟩
theorem Tot.b {α β:Type} {x:Option α} {f:α→Option β} {P:α→Prop} {Q:β→Prop} (h:Tot x P) (k:∀r,P r→Tot (f r) Q):Tot (x.bind f) Q:=by
 obtain ⟨r,e,p⟩:=h;obtain ⟨s,e',q⟩:=k r p;exact ⟨s,by rw [e,wy,e'],q⟩
theorem ue {α β:Type} {x:Option α} {f:α→Option β} {v:α} {Q:β→Prop} (h:x=some v) (k:Tot (f v) Q):Tot (x.bind f) Q:=by
 subst h;exact k
theorem ua {α:Type} {p:Prop} {x:Option α} {Q:α→Prop} (h:p) (k:Tot x Q):Tot (gd p x) Q:=by rw [qha h];exact k
theorem um {α:Type} {c:Prop} {i:Decidable c} {x y:Option α} {Q:α→Prop} (h1:c→Tot x Q) (h2:¬c→Tot y Q):Tot (@ite _ c i x y) Q:=by
 by_cases h:c
 ·rw [if_pos h];exact h1 h
 ·rw [if_neg h];exact h2 h
theorem uh {α:Type} {p:Prop} {d:Decidable p} {i:Decidable (@decide p d=true)} {x y:Option α} {Q:α→Prop} (h1:p→Tot x Q) (h2:¬p→Tot y Q):Tot (@ite _ (@decide p d=true) i x y) Q:=
 um (fun h=>h1 (of_decide_eq_true h)) (fun h=>h2 (fun hp=>h (decide_eq_true hp)))
theorem uf {α:Type} {p:Prop} {d:Decidable p} {i:Decidable (@decide p d=true)} {x y:Option α} {Q:α→Prop} (h:p) (h1:Tot x Q):Tot (@ite _ (@decide p d=true) i x y) Q:=
 uh (fun _=>h1) (fun k=>absurd h k)
theorem ub {α:Type} {p:Prop} {d:Decidable p} {i:Decidable (@decide p d=true)} {x y:Option α} {Q:α→Prop} (h:¬p) (h1:Tot y Q):Tot (@ite _ (@decide p d=true) i x y) Q:=
 uh (fun k=>absurd k h) (fun _=>h1)
theorem uo {α:Type} {a b:Int} {i:Decidable ((a != b)=true)} {x y:Option α} {Q:α→Prop} (h1:a≠b→Tot x Q) (h2:a=b→Tot y Q):Tot (@ite _ ((a != b)=true) i x y) Q:=
 um (fun h=>h1 (by simpa using h)) (fun h=>h2 (by simpa using h))
theorem uz {α:Type} {a b:Int} {i:Decidable ((a != b)=true)} {x y:Option α} {Q:α→Prop} (h:a≠b) (h1:Tot x Q):Tot (@ite _ ((a != b)=true) i x y) Q:=
 uo (fun _=>h1) (fun k=>absurd k h)
theorem ud {α:Type} {a b:Int} {i:Decidable ((a != b)=true)} {x y:Option α} {Q:α→Prop} (h:a=b) (h1:Tot y Q):Tot (@ite _ ((a != b)=true) i x y) Q:=
 uo (fun k=>absurd h k) (fun _=>h1)
theorem ul {α:Type} {a b:Int} {i:Decidable ((a==b)=true)} {x y:Option α} {Q:α→Prop} (h1:a=b→Tot x Q) (h2:a≠b→Tot y Q):Tot (@ite _ ((a==b)=true) i x y) Q:=
 um (fun h=>h1 (by simpa using h)) (fun h=>h2 (by simpa using h))
theorem ux {α:Type} {a b:Int} {i:Decidable ((a==b)=true)} {x y:Option α} {Q:α→Prop} (h:a=b) (h1:Tot x Q):Tot (@ite _ ((a==b)=true) i x y) Q:=
 ul (fun _=>h1) (fun k=>absurd h k)
theorem ut {α:Type} {a b:Int} {i:Decidable ((a==b)=true)} {x y:Option α} {Q:α→Prop} (h:a≠b) (h1:Tot y Q):Tot (@ite _ ((a==b)=true) i x y) Q:=
 ul (fun k=>absurd k h) (fun _=>h1)
theorem up {α:Type} {i:Decidable (false=true)} {x y:Option α} {Q:α→Prop} (h:Tot y Q):Tot (@ite _ (false=true) i x y) Q:=um (fun k=>absurd k Bool.false_ne_true) (fun _=>h)
theorem uk {α:Type} {b:Bool} {i:Decidable ((not b)=true)} {x y:Option α} {Q:α→Prop} (h1:b=false→Tot x Q) (h2:b=true→Tot y Q):Tot (@ite _ ((not b)=true) i x y) Q:=
 um (fun h=>h1 (by simpa using h)) (fun h=>h2 (by simpa using h))
theorem ug {α:Type} {x:Option α} {v:α} (h:Tot x fun r=>r=v):x=some v:=by obtain ⟨r,e,p⟩:=h;rw [e,p]
theorem qyc {P:Int→Prop} (n:Int) (base:∀i,n≤i→P i) (step:∀i,i<n→P (i+1)→P i):∀i,P i:=by
 intro i
 generalize hm:(n - i).toNat=m
 induction m generalizing i with
 |zero=>exact base i (by omega)
 |succ m ih=>exact step i (by omega) (ih (i+1) (by omega))
theorem qgK (x:Int):0≤wd .u32 x∧wd .u32 x<4294967296:=by rw [qAs];omega
theorem qgM (x:Int):0≤wd .u64 x∧wd .u64 x<18446744073709551616:=by rw [qmN];omega
theorem qgA (x:Int):0≤wd .u8 x∧wd .u8 x<256:=by rw [wu8];omega
theorem qsd (n:Nat) (m:Int) (h0:0≤m) (h1:m<2 ^ n):(wC n m).toNat=m.toNat:=by
 rw [BitVec.toNat_ofInt];congr 1;exact Int.emod_eq_of_lt h0 (by exact_mod_cast h1)
theorem qUJ (x m:Int) (h0:0≤m) (h1:m<9223372036854775808):0≤qUa .i64 x m∧qUa .i64 x m≤m:=by
 have hh:(wC 64 x &&& wC 64 m).toNat≤m.toNat:=by
  rw [BitVec.toNat_and,qsd 64 m h0 (by omega)];exact Nat.and_le_right
 have e:qUa .i64 x m=((wC 64 x &&& wC 64 m).toNat:Int):=by
  show wd .i64 ((wC 64 x &&& wC 64 m).toNat:Int)=_
  exact w64 (by omega) (by omega)
 rw [e];omega
theorem qMN (x m:Int) (h0:0≤m) (h1:m<2147483648):0≤qUa .i32 x m∧qUa .i32 x m≤m:=by
 have hh:(wC 32 x &&& wC 32 m).toNat≤m.toNat:=by
  rw [BitVec.toNat_and,qsd 32 m h0 (by omega)];exact Nat.and_le_right
 have e:qUa .i32 x m=((wC 32 x &&& wC 32 m).toNat:Int):=by
  show wd .i32 ((wC 32 x &&& wC 32 m).toNat:Int)=_
  exact w32 (by omega) (by omega)
 rw [e];omega
theorem qlN (x:Int) (k:Nat) (hk:k≤20) (h1:1≤k) (h0:0≤x) (hx:x<2 ^ k):0≤qSb .i64 x 1∧qSb .i64 x 1<2 ^ k:=by
 have hp:(2:Int) ^ k≤2 ^ 20:=by exact_mod_cast Nat.pow_le_pow_right (by decide) hk
 have hp':(2:Int) ^ 20=1048576:=by decide
 have hc:((2 ^ k:Nat):Int)=(2:Int) ^ k:=by norm_cast
 have hh:(wC 64 x ^^^ wC 64 1).toNat<2 ^ k:=by
  rw [BitVec.toNat_xor,qsd 64 x h0 (by omega),qsd 64 1 (by omega) (by omega)]
  refine Nat.xor_lt_two_pow (by omega) ?_
  show 1<2 ^ k
  exact Nat.one_lt_two_pow (by omega)
 have hz:((wC 64 x ^^^ wC 64 1).toNat:Int)<2 ^ k:=by rw [←hc];exact_mod_cast hh
 have e:qSb .i64 x 1=((wC 64 x ^^^ wC 64 1).toNat:Int):=by
  show wd .i64 ((wC 64 x ^^^ wC 64 1).toNat:Int)=_
  exact w64 (by omega) (by omega)
 rw [e];omega
theorem qcM {l:Int} (h0:0≤l) (h1:l≤7):l=0∨l=1∨l=2∨l=3∨l=4∨l=5∨l=6∨l=7:=by omega
def plR (l:Int):Int:=2 ^ (6+l.toNat)
def plT (l:Int):Int:=2 ^ (4+l.toNat)
theorem qks {l:Int} (h0:0≤l) (h1:l≤7):64≤plR l∧plR l≤8192:=by
 rcases qcM h0 h1 with rfl|rfl|rfl|rfl|rfl|rfl|rfl|rfl <;> decide
theorem qzu {l:Int} (h0:0≤l) (h1:l≤7):16≤plT l∧plT l≤2048:=by
 rcases qcM h0 h1 with rfl|rfl|rfl|rfl|rfl|rfl|rfl|rfl <;> decide
theorem qdq {l:Int} (h0:0≤l) (h1:l≤7):qWl l=some (plR l):=by
 rw [qGw,qha h0]
 rcases qcM h0 h1 with rfl|rfl|rfl|rfl|rfl|rfl|rfl|rfl <;> exact congrArg some (by kernel_rfl)
theorem qDn {l:Int} (h0:0≤l) (h1:l≤7):qti l=some (plR l):=by
 rw [qYs,qha h0]
 rcases qcM h0 h1 with rfl|rfl|rfl|rfl|rfl|rfl|rfl|rfl <;> exact congrArg some (by kernel_rfl)
theorem qbs {l:Int} (h0:0≤l) (h1:l≤7):qfo l=some (plT l):=by
 rw [qpy,qha h0]
 rcases qcM h0 h1 with rfl|rfl|rfl|rfl|rfl|rfl|rfl|rfl <;> exact congrArg some (by kernel_rfl)
theorem qTJ:∀k:Fin 21,qUa .i64 ((2 ^ k.val:Nat):Int) (((2 ^ k.val:Nat):Int) - 1)=0:=by decide+kernel
theorem qQk (a:Int) {len:Int} (k:Nat) (hk:k≤20) (hl:len=2 ^ k):Tot (qQh a len) fun r=>r.2=0∧0≤r.1∧r.1<len:=by
 have hp:(2:Int) ^ k≤2 ^ 20:=by exact_mod_cast Nat.pow_le_pow_right (by decide) hk
 have hp':(2:Int) ^ 20=1048576:=by decide
 have h1:(1:Int)≤2 ^ k:=by exact_mod_cast Nat.one_le_two_pow
 have hz:=qTJ ⟨k,by omega⟩
 have hc:((2 ^ k:Nat):Int)=(2:Int) ^ k:=by norm_cast
 rw [hc,←hl] at hz
 rw [qvv,w64 (x:=len - 1) (by omega) (by omega)]
 have hb:=qUJ (wd .i64 a) (len - 1) (by omega) (by omega)
 refine ub (by omega) (ub (by omega) (ud hz (uc ⟨rfl,?_⟩)))
 simp only
 omega
theorem qdx (a:Int):Tot (qAn a) fun r=>True:=by
 rw [qwv]
 exact ua (by decide) (uc trivial)
theorem qrj {α:Type} (l:List α) (s:Nat) (hs:s≤64) (hl:l.length≤1048576):
  (qeA (fun (r1:Bool)=>r1=true→l=[]) fun (r1:Bool)=>
   if r1=true then some ([]) else gd ((we ([]++l))*s≤140737488355328)<|some ([]++l))=some l:=by
 refine qiw false (by simp) (fun r hr=>?_)
 by_cases h:r=true
 ·rw [if_pos h,hr h]
 ·rw [if_neg h,qha (by
   rw [waa]
   exact Nat.le_trans (Nat.mul_le_mul hl hs) (by decide)),waa]
theorem qZd (l:List Int) (h:l.length≤1048576):qLf l=some l:=by rw [qzx];exact qrj l 1 (by decide) h
theorem qSa (l:List Int) (h:l.length≤1048576):qKa l=some l:=by rw [qSi];exact qrj l 4 (by decide) h
theorem qZa (l:List Int) (h:l.length≤1048576):qkb l=some l:=by rw [qKk];exact qrj l 1 (by decide) h
theorem qUg (l:List Int) (h:l.length≤1048576):qvd l=some l:=by rw [qRl];exact qrj l 8 (by decide) h
theorem qIf (l:List qNd) (h:l.length≤1048576):qfb l=some l:=by rw [qng];exact qrj l 16 (by decide) h
theorem qgi (l:List qna) (h:l.length≤1048576):qob l=some l:=by rw [qFf];exact qrj l 32 (by decide) h
theorem qhi (l:List qma) (h:l.length≤1048576):qpb l=some l:=by rw [qHf];exact qrj l 56 (by decide) h
theorem qIa {α:Type} {P:α→Prop} {l:List α} {d:α} (h:∀x∈l,P x) (i:Nat) (hi:i<l.length):P (l.getD i d):=by
 rw [wt,wx hi];exact h _ (List.getElem_mem hi)
theorem qyv {α:Type} {P:α→Prop} {l:List α} {d:α} (h:∀x∈l,P x) (hd:P d) (i:Nat):P (l.getD i d):=by
 by_cases hi:i<l.length
 ·exact qIa h i hi
 ·rw [wt,List.getElem?_eq_none (by omega)];exact hd
theorem qEe {α:Type} {P:α→Prop} {l:List α} {v:α} (h:∀x∈l,P x) (hv:P v) (i:Nat):∀x∈l.set i v,P x:=by
 intro x hx
 rcases List.mem_or_eq_of_mem_set hx with h'|rfl
 ·exact h x h'
 ·exact hv
theorem qei {α:Type} {P:α→Prop} {l:List α} {v:α} (h:∀x∈l,P x) (hv:P v):∀x∈l++[v],P x:=by
 intro x hx
 rcases wR.1 hx with h'|h'
 ·exact h x h'
 ·rw [wT.1 h'];exact hv
theorem qaE {α:Type} (l:List α) (i:Nat) (d:α):l.set i (l.getD i d)=l:=by
 by_cases hi:i<l.length
 ·rw [wt,wx hi,wJa,List.set_getElem_self]
 ·rw [List.set_eq_of_length_le (by omega)]
def qMd (l:Int) (r:qoa):Prop:=r.1=l∧(0≤l∧l≤7)∧(r.2.1.length:Int)=plR l∧Bts r.2.1∧0≤r.2.2.1∧r.2.2.1≤1073741824∧∀x∈r.2.1.drop r.2.2.1.toNat,x=0
theorem qsw (x:Int) (l:List Int) (hx:x=0) (hl:(x::l).length≤1048576):qTd (x::l)=some (0,1):=by
 subst hx
 rw [qzj,qYh]
 simp only [wj,ww] at*
 have e:(0::l).getD (wo 0) 0=(0:Int):=rfl
 rw [if_pos (by simp),qha (by omega),qha (by omega),e,if_pos (by decide),w32 (by decide) (by decide)]
theorem qax (l:List Int) (hl:l.length≤1048576) (hz:∀x∈l,x=0):∀i:Int,0≤i→qjd l true i=some (-1):=by
 intro i
 refine qyc (P:=fun i=>0≤i→qjd l true i=some (-1)) l.length ?_ ?_ i
 ·intro i hi h0
  rw [qWh]
  simp only [wj]
  rw [if_neg (by simp;omega)]
 ·intro i hi ih h0
  rw [qWh]
  simp only [wj]
  rw [if_pos (by simpa using hi),qha h0,qha (by omega)]
  have hd:l.drop i.toNat=l[i.toNat]'(by omega)::l.drop (i.toNat+1):=woa (by omega)
  rw [hd,qsw _ _ (hz _ (List.getElem_mem _)) (by rw [←hd,wga];omega),wy,qju,wy,if_neg (by decide)]
  simp only
  rw [w64 (by omega) (by omega)]
  exact ih (by omega)
theorem qWr (l:List Int) (hl:l.length≤1048576) (hz:∀x∈l,x=0):qJg l=some false:=by
 rw [qPn,qOq,qNq,qax l hl hz 0 (by omega)]
 rfl
theorem qgd {l:Int} {r:qoa} (h:qMd l r):qDd r=some 0:=by
 obtain ⟨h1,⟨h2,h3⟩,h4,h5,h6,h7,h8⟩:=h
 have hp:=qks h2 h3
 rw [qvy,h1,qdq h2 h3]
 simp only [wj]
 rw [if_neg (by simpa using h2),if_neg (by simpa using h3),wy,if_neg (by simpa using h4),if_neg (by simpa using h6),if_neg (by simpa using h7)]
 by_cases hc:r.2.2.1<(r.2.1.length:Int)
 ·rw [if_pos (by simpa using hc),qha h6,qha (by omega),qWr _ (by rw [wga];omega) h8,wy,if_neg (by decide)]
 ·rw [if_neg (by simpa using hc)]
theorem qOx {l:Int} {r:qoa} (h:qMd l r) (a:Int):Tot (qrt r a) fun x=>0≤x∧x<256:=by
 obtain ⟨h1,⟨h2,h3⟩,h4,h5,h6,h7,h8⟩:=h
 have hp:=qks h2 h3
 rw [qCC]
 simp only [wj]
 rw [w64 (x:=(r.2.1.length:Int) - 1) (by omega) (by omega)]
 have hb:=qUJ (wd .i64 (r.2.2.1 - a)) ((r.2.1.length:Int) - 1) (by omega) (by omega)
 refine ua hb.1 (ua (by omega) (uc ?_))
 exact qIa (P:=fun x=>0≤x∧x<256) h5 _ (by omega)
theorem qku {l:Int} {r:qoa} (h:qMd l r) (a:Int):Tot (qeq r a) fun x=>0≤x.1∧x.1<256:=by
 rw [qBA]
 refine ue (qgd h) (ud rfl (uh (fun _=>uc (by decide)) (fun _=>uh (fun _=>uc (by decide)) (fun _=>uh (fun _=>uc (by decide)) (fun _=>?_)))))
 exact Tot.b (qOx h a) (fun x hx=>uc hx)
theorem qUG {l:Int} {r:qoa} (h:qMd l r) (a:Int):Tot (qEC r a) fun x=>0≤x.1∧x.1<256:=by
 rw [qxF]
 refine ue (qgd h) (ud rfl (uh (fun _=>uc (by decide)) (fun _=>uh (fun _=>uc (by decide)) (fun _=>uh (fun _=>uc (by decide)) (fun _=>?_)))))
 exact Tot.b (qOx h _) (fun x hx=>uc hx)
theorem qyr (b:List Int) (hl:b.length≤1048576):∀(i:Int) (a:Int),0≤i→Tot (qRe a b b.length i) fun _=>True:=by
 intro i
 refine qyc (P:=fun i=>∀a,0≤i→Tot (qRe a b b.length i) fun _=>True) b.length ?_ ?_ i
 ·intro i hi a h0
  rw [qok]
  exact ub (by omega) (uc trivial)
 ·intro i hi ih a h0
  rw [qok]
  simp only [wj]
  rw [w64 (x:=i+1) (by omega) (by omega)]
  exact uf (by omega) (ua h0 (ua (by omega) (ua (by decide) (ih _ (by omega)))))
theorem qUo (a:Int) (b:List Int) (hl:b.length≤1048576):Tot (qpk a b) fun _=>True:=by
 rw [qtv];exact qyr b hl 0 a (by omega)
theorem qhm (a:Int) (b:List Int) (hl:b.length≤1048576):Tot (qwl a b) fun _=>True:=by
 rw [qiB]
 refine Tot.b (P:=fun _=>True) ?_ (fun r _=>uo (fun _=>uc trivial) (fun _=>uh (fun _=>uc trivial) (fun _=>Tot.b (qUo _ _ hl) (fun _ _=>uc trivial))))
 rw [quv]
 exact uh (fun _=>uc trivial) (fun _=>uh (fun _=>uc trivial) (fun _=>uc trivial))
theorem qZy (a b:Int):Tot (qEp a b) fun _=>True:=by
 rw [qcx];exact Tot.b (qUo _ _ (by show 1≤_;decide)) (fun _ _=>uc trivial)
theorem qCl {l:Int} {r:qoa} (h:qMd l r):∀(n:Nat) (hs:List Int),n+hs.length≤1000→Bts hs→Tot (qFg n r hs) fun x=>x.length=hs.length+n∧Bts x
 |0,hs,hn,hb=>by
  rw [qvk]
  exact ub (by simp) (uc ⟨rfl,hb⟩)
 |n+1,hs,hn,hb=>by
  rw [qvk]
  refine uf (by omega) (Tot.b (qku h _) (fun x hx=>ua (by simp;omega) ?_))
  rw [w64 (by omega) (by omega)]
  have e:((n+1:Nat):Int) - 1=(n:Int):=by omega
  rw [e]
  exact Tot.mono (qCl h n (hs++[x.1]) (by simp;omega) (qei hb hx)) (fun y hy=>⟨by simp at hy;omega,hy.2⟩)
theorem qWk {l:Int} {r:qoa} (h:qMd l r) (n:Nat) (hn:n≤1000):Tot (qVh r n) fun x=>x.length=n∧Bts x:=by
 rw [qZv]
 exact Tot.mono (qCl h n [] (by simpa using hn) Bts.nil) (fun y hy=>⟨by simpa using hy.1,hy.2⟩)
theorem qJn (a:Int):Tot (qzi a) fun _=>True:=by
 rw [qft]
 repeat (first|exact uc trivial|refine uh (fun _=>?_) (fun _=>?_))
theorem qAl (h9:List Int) (o n:Nat) (hn:n≤1000):∀(i:Int) (hs:List Int),0≤i→i≤n→hs.length=i.toNat→Tot (qHd o n n i hs h9) fun x=>x.length≤1000:=by
 intro i
 refine qyc (P:=fun i=>∀(hs:List Int),0≤i→i≤n→hs.length=i.toNat→Tot (qHd o n n i hs h9) fun x=>x.length≤1000) n ?_ ?_ i
 ·intro i hi hs h0 h1 h2
  rw [qtk]
  exact ub (by omega) (uc (by omega))
 ·intro i hi ih hs h0 h1 h2
  rw [qtk]
  simp only [wj]
  rw [w64 (x:=i+1) (by omega) (by omega)]
  refine uf (by omega) (ua h0 (ua (by omega) (Tot.b (qJn _) (fun x _=>ua (by simp;omega) (ih _ (by omega) (by omega) ?_)))))
  simp;omega
theorem qBl (hs:List Int) (hl:hs.length≤1000):∀n:Nat,n≤hs.length→Tot (qEg n hs) fun x=>x.length≤1000
 |0,hn=>by
  rw [quk]
  exact ub (by simp) (ua (by omega) (ua (by simp only [wj];omega) (qAl hs _ _ (by omega) 0 [] (by omega) (by omega) rfl)))
 |n+1,hn=>by
  rw [quk]
  simp only [wj]
  have e:((n+1:Nat):Int) - 1=(n:Int):=by omega
  rw [w64 (x:=((n+1:Nat):Int) - 1) (by omega) (by omega),e]
  refine uf (by omega) (ua (by omega) (ua (by omega) (Tot.b (qJn _) (fun x _=>uo (fun _=>qBl hs hl n (by omega)) (fun _=>ua (by omega) (ua (by omega) ?_))))))
  exact qAl hs _ _ (by omega) 0 [] (by omega) (by omega) rfl
theorem qwx {l:Int} {r:qoa} (h:qMd l r):Tot (qIn r) fun x=>x.length≤1000:=by
 rw [qYv]
 exact Tot.b (qWk h 16 (by decide)) (fun x hx=>qBl x (by omega) x.length (ws _))
theorem qaw {l:Int} {r:qoa} (h:qMd l r) (v b9:List Int) (hv:v=[1,2,3,4,6]) (hs:List Int) (hl:hs.length=6):∀(i:Int) (b10:List Int),0≤i→i≤5→Tot (qGg v i r b9 b10 hs) fun x=>x.2=0:=by
 intro i
 refine qyc (P:=fun i=>∀(b10:List Int),0≤i→i≤5→Tot (qGg v i r b9 b10 hs) fun x=>x.2=0) 5 ?_ ?_ i
 ·intro i hi b10 h0 h1
  rw [qMm]
  refine ub (by omega) (Tot.b (qwx h) (fun x hx=>Tot.b (qhm 5 x (by omega)) (fun y _=>ua (by decide) (ua (by decide) (uc rfl)))))
 ·intro i hi ih b10 h0 h1
  rw [qMm]
  have hg:1≤v.getD i.toNat 0∧v.getD i.toNat 0≤6:=by
   subst hv
   have:i=0∨i=1∨i=2∨i=3∨i=4:=by omega
   rcases this with rfl|rfl|rfl|rfl|rfl <;> decide
  simp only [wj]
  rw [w64 (x:=i+1) (by omega) (by omega),w64 (x:=6 - v.getD i.toNat 0) (by omega) (by omega)]
  refine uf (by omega) (ua h0 (ua (by omega) (ua (by omega) (ua (by omega) (Tot.b (qhm _ _ ?_) (fun y _=>ua h0 (ua (by omega) (ih _ (by omega) (by omega)))))))))
  rw [wS];omega
theorem qvs {l:Int} {r:qoa} (h:qMd l r):Tot (qgf r) fun x=>x.2=0:=by
 rw [qGz]
 refine ue (qgd h) (ud rfl (Tot.b (qWk h 6 (by decide)) (fun x hx=>?_)))
 exact qaw h _ _ rfl x hx.1 0 _ (by omega) (by omega)
theorem qLm {l:Int} {r:qoa} (h:qMd l r):Tot (qXk r) fun x=>0≤x.1∧x.1<256∧0≤x.2.1∧x.2.1<256:=by
 rw [qMr]
 refine ue (qgd h) (ud rfl (Tot.b (qWk h 2 (by decide)) (fun x hx=>?_)))
 simp only [wj]
 have h1:=qIa (P:=fun x=>0≤x∧x<256) (d:=0) hx.2 1 (by omega)
 have h2:=qIa (P:=fun x=>0≤x∧x<256) (d:=0) hx.2 0 (by omega)
 exact ua (by omega) (ua (by omega) (ua (by omega) (ua (by omega) (uc ⟨h1.1,h1.2,h2.1,h2.2⟩))))
theorem qxx (a b:Int):Tot (qKn a b) fun _=>True:=by
 rw [qbw]
 exact uh (fun _=>uc trivial) (fun _=>uh (fun _=>uc trivial) (fun _=>Tot.b (qZy _ _) (fun _ _=>uc trivial)))
theorem qLF {m:Int} (l:List Int) (hl:l.length≤1048576) (h:∀x∈l,0≤x∧x≤m):∀(i:Int) (v:Int),0≤i→0≤v→v≤m→Tot (qDb l v i) fun r=>0≤r∧r≤m:=by
 intro i
 refine qyc (P:=fun i=>∀v,0≤i→0≤v→v≤m→Tot (qDb l v i) fun r=>0≤r∧r≤m) l.length ?_ ?_ i
 ·intro i hi v h0 h1 h2
  rw [qme]
  exact ub (by simp only [wj];omega) (uc ⟨h1,h2⟩)
 ·intro i hi ih v h0 h1 h2
  rw [qme]
  simp only [wj]
  rw [w64 (x:=i+1) (by omega) (by omega)]
  have hd:=qIa (P:=fun x=>0≤x∧x≤m) (d:=0) h i.toNat (by omega)
  refine uf (by omega) (ua h0 (ua (by omega) (ih _ (by omega) ?_ ?_)))
  ·split <;> omega
  ·split <;> omega
theorem qFH {m:Int} (l:List Int) (hl:l.length≤1048576) (h1:1≤l.length) (h:∀x∈l,0≤x∧x≤m):Tot (qPc l) fun r=>0≤r∧r≤m:=by
 rw [qIk]
 simp only [wj]
 have hd:=qIa (P:=fun x=>0≤x∧x≤m) (d:=0) h 0 (by omega)
 exact ub (by omega) (ua (by omega) (ua (by omega) (qLF l hl h 1 _ (by omega) hd.1 hd.2)))
theorem qWC {m n:Int} (l:List Int) (hl:l.length≤1048576) (h:∀x∈l,n≤x∧x≤m):∀(i:Int) (v:Int),0≤i→n≤v→v≤m→Tot (qEb l v i) fun r=>n≤r∧r≤m:=by
 intro i
 refine qyc (P:=fun i=>∀v,0≤i→n≤v→v≤m→Tot (qEb l v i) fun r=>n≤r∧r≤m) l.length ?_ ?_ i
 ·intro i hi v h0 h1 h2
  rw [qne]
  exact ub (by simp only [wj];omega) (uc ⟨h1,h2⟩)
 ·intro i hi ih v h0 h1 h2
  rw [qne]
  simp only [wj]
  rw [w64 (x:=i+1) (by omega) (by omega)]
  have hd:=qIa (P:=fun x=>n≤x∧x≤m) (d:=0) h i.toNat (by omega)
  refine uf (by omega) (ua h0 (ua (by omega) (ih _ (by omega) ?_ ?_)))
  ·split <;> omega
  ·split <;> omega
theorem qAE {m n:Int} (l:List Int) (hl:l.length≤1048576) (h1:1≤l.length) (h:∀x∈l,n≤x∧x≤m):Tot (qQc l) fun r=>n≤r∧r≤m:=by
 rw [qJk]
 simp only [wj]
 have hd:=qIa (P:=fun x=>n≤x∧x≤m) (d:=0) h 0 (by omega)
 exact ub (by omega) (ua (by omega) (ua (by omega) (qWC l hl h 1 _ (by omega) hd.1 hd.2)))
theorem qTC {m n:Int} (l:List Int) (hl:l.length≤1048576) (h:∀x∈l,n≤x∧x≤m):∀(i:Int) (v:Int),0≤i→n≤v→v≤m→Tot (qCb l v i) fun r=>n≤r∧r≤m:=by
 intro i
 refine qyc (P:=fun i=>∀v,0≤i→n≤v→v≤m→Tot (qCb l v i) fun r=>n≤r∧r≤m) l.length ?_ ?_ i
 ·intro i hi v h0 h1 h2
  rw [qle]
  exact ub (by simp only [wj];omega) (uc ⟨h1,h2⟩)
 ·intro i hi ih v h0 h1 h2
  rw [qle]
  simp only [wj]
  rw [w64 (x:=i+1) (by omega) (by omega)]
  have hd:=qIa (P:=fun x=>n≤x∧x≤m) (d:=0) h i.toNat (by omega)
  refine uf (by omega) (ua h0 (ua (by omega) (ih _ (by omega) ?_ ?_)))
  ·split <;> omega
  ·split <;> omega
theorem qzE {m n:Int} (l:List Int) (hl:l.length≤1048576) (h1:1≤l.length) (h:∀x∈l,n≤x∧x≤m):Tot (qOc l) fun r=>n≤r∧r≤m:=by
 rw [qHk]
 simp only [wj]
 have hd:=qIa (P:=fun x=>n≤x∧x≤m) (d:=0) h 0 (by omega)
 exact ub (by omega) (ua (by omega) (ua (by omega) (qTC l hl h 1 _ (by omega) hd.1 hd.2)))
def WfC (c:qWa):Prop:=(c.1=0∧c.2.1=0∧c.2.2.1=0)∨(c.2.2.1=0∧1≤c.1∧c.1≤12∧0≤c.2.1∧c.2.1≤7)∨(c.2.2.1=1∧1≤c.2.1∧c.2.1≤12∧0≤c.1∧c.1≤7)
theorem qfJ (x y d:Int):wm (wF (wF (wn 2 (0:Int)) 0 x) 1 y) 0 d=x:=rfl
theorem qeJ (x y d:Int):wm (wF (wF (wn 2 (0:Int)) 0 x) 1 y) 1 d=y:=rfl
theorem qEo {a:Int} (h0:0≤a) (h1:a≤192):Tot (qFj a) fun r=>r.2=0∧WfC r.1:=by
 rw [qOt,qzw]
 refine ue rfl (ub (by rw [w64 (by omega) (by omega)];omega) (ul (fun h=>uc ⟨rfl,Or.inl ⟨rfl,rfl,rfl⟩⟩) (fun h=>?_)))
 simp (disch:=omega) only [wu8,w32,qJl,qYg]
 have hv:(a - 1)%256/8/12=0∨(a - 1)%256/8/12=1:=by omega
 have hx:0≤(a - 1)%256/8%12∧(a - 1)%256/8%12<12:=by omega
 have hy:0≤(a - 1)%256%8∧(a - 1)%256%8<8:=by omega
 generalize (a - 1)%256/8%12=x at*
 generalize (a - 1)%256%8=y at*
 generalize (a - 1)%256/8/12=v at*
 rcases hv with rfl|rfl
 ·refine ua (by decide) (ua (by decide) (ua (by decide) (ua (by decide) (ua (by decide) (ua (by decide) (ua (by decide) (ua (by decide) (ua (by decide) (ua (by decide) (ua (by decide) (ua (by decide) (ua (by decide) (uc ⟨rfl,wZa (Or.inl ?_)⟩)))))))))))))
  refine ⟨rfl,?_,?_,hy.1,?_⟩
  ·show 1≤x+1;omega
  ·show x+1≤12;omega
  ·show y≤7;omega
 ·refine ua (by decide) (ua (by decide) (ua (by decide) (ua (by decide) (ua (by decide) (ua (by decide) (ua (by decide) (ua (by decide) (ua (by decide) (ua (by decide) (ua (by decide) (ua (by decide) (ua (by decide) (uc ⟨rfl,wZa (wZa ?_)⟩)))))))))))))
  refine ⟨rfl,?_,?_,hy.1,?_⟩
  ·show 1≤x+1;omega
  ·show x+1≤12;omega
  ·show y≤7;omega
theorem qyw {a:Int} (h0:0≤a) (h1:a≤192):Tot (qSm a) fun r=>True:=by
 rw [qLt]
 exact Tot.b (qEo h0 h1) (fun r _=>uc trivial)
theorem qvx {c:qWa} (h:WfC c):qHn c=some 0:=by
 obtain ⟨x,y,v,u⟩:=c
 rw [qXv]
 by_cases hp:peq qab (x,y,v,u) (0,(0,(0,())))=true
 ·rw [if_pos hp]
 ·rw [if_neg hp]
  simp only [WfC] at h
  have e0:¬(x=0∧y=0∧v=0):=by
   intro ⟨h1,h2,h3⟩
   subst h1 h2 h3
   exact hp rfl
  rcases h with h|h|h
  ·exact absurd h e0
  ·obtain ⟨rfl,h⟩:=h
   have e1:(1 - 0:Int)%256=1:=by decide
   have e2:wo 1=1:=rfl
   simp only [wu8,e1,e2,Int.toNat_zero,qfJ,qeJ]
   exact ug (ub (by omega) (ua (by decide) (ua (by decide) (ua (by decide) (ua (by decide) (ub (by omega) (ub (by omega) (ub (by omega) (ub (by omega) (uc rfl))))))))))
  ·obtain ⟨rfl,h⟩:=h
   have e1:(1 - 1:Int)%256=0:=by decide
   have e2:wo 1=1:=rfl
   simp only [wu8,e1,e2,Int.toNat_zero,qfJ,qeJ]
   exact ug (ub (by omega) (ua (by decide) (ua (by decide) (ua (by decide) (ua (by decide) (ub (by omega) (ub (by omega) (ub (by omega) (ub (by omega) (uc rfl))))))))))
theorem qFE (z:Int):(if (12:Int)<z then 12 else z)=min 12 z:=by split <;> omega
theorem qEz {c:qWa} (h:WfC c) {b:Int} (hb:b=0∨b=1):Tot (qLp c b) WfC:=by
 obtain ⟨x,y,v,u⟩:=c
 have hr:0≤x∧x≤12∧0≤y∧y≤12:=by
  simp only [WfC] at h;omega
 rw [qux]
 rcases hb with rfl|rfl
 ·have e1:(1 - 0:Int)%256=1:=by decide
  have e2:wo 1=1:=rfl
  simp only [wu8,e1,e2,Int.toNat_zero,qFE]
  have a1:wm (wF (wF (wn 2 (0:Int)) 0 x) 1 y) 0 0=x:=rfl
  rw [a1,w32 (x:=x+1) (by omega) (by omega)]
  have a2:wm (wF (wF (wF (wn 2 (0:Int)) 0 x) 1 y) 0 (min 12 (x+1))) 1 0=y:=rfl
  rw [a2,qJl (by omega),w32 (x:=y/2) (by omega) (by omega),w32 (x:=y/2+1) (by omega) (by omega)]
  refine ua (by decide) (ua (by decide) (ua (by decide) (ua (by decide) (ua (by decide) (ua (by decide) (uh (fun k=>?_) (fun k=>?_)))))))
  ·refine ua (by decide) (ua (by decide) (ua (by decide) (ua (by decide) (ua (by decide) (uc (wZa (Or.inl ⟨rfl,?_,?_,?_,?_⟩)))))))
   ·show 1≤min 12 (x+1);omega
   ·show min 12 (x+1)≤12;omega
   ·show 0≤y/2+1;omega
   ·show y/2+1≤7;omega
  ·refine ua (by decide) (ua (by decide) (ua (by decide) (ua (by decide) (uc (wZa (Or.inl ⟨rfl,?_,?_,?_,?_⟩))))))
   ·show 1≤min 12 (x+1);omega
   ·show min 12 (x+1)≤12;omega
   ·show 0≤y;omega
   ·show y≤7;omega
 ·have e1:(1 - 1:Int)%256=0:=by decide
  have e2:wo 1=1:=rfl
  simp only [wu8,e1,e2,Int.toNat_zero,qFE]
  have a1:wm (wF (wF (wn 2 (0:Int)) 0 x) 1 y) 1 0=y:=rfl
  rw [a1,w32 (x:=y+1) (by omega) (by omega)]
  have a2:wm (wF (wF (wF (wn 2 (0:Int)) 0 x) 1 y) 1 (min 12 (y+1))) 0 0=x:=rfl
  rw [a2,qJl (by omega),w32 (x:=x/2) (by omega) (by omega),w32 (x:=x/2+1) (by omega) (by omega)]
  refine ua (by decide) (ua (by decide) (ua (by decide) (ua (by decide) (ua (by decide) (ua (by decide) (uh (fun k=>?_) (fun k=>?_)))))))
  ·refine ua (by decide) (ua (by decide) (ua (by decide) (ua (by decide) (ua (by decide) (uc (wZa (wZa ⟨rfl,?_,?_,?_,?_⟩)))))))
   ·show 1≤min 12 (y+1);omega
   ·show min 12 (y+1)≤12;omega
   ·show 0≤x/2+1;omega
   ·show x/2+1≤7;omega
  ·refine ua (by decide) (ua (by decide) (ua (by decide) (ua (by decide) (uc (wZa (wZa ⟨rfl,?_,?_,?_,?_⟩))))))
   ·show 1≤min 12 (y+1);omega
   ·show min 12 (y+1)≤12;omega
   ·show 0≤x;omega
   ·show x≤7;omega
theorem qLB {c:qWa} (h:WfC c) {b:Int} (hb:b=0∨b=1):Tot (qLr c [b]) fun r=>r.2=0∧WfC r.1:=by
 rw [qFz]
 have e:(wi [b].length)=1:=rfl
 rw [e]
 refine ue (qvx h) (ud rfl (ub (by decide) (uf (by decide) (Tot.b (qFH (m:=1) [b] (by show 1≤_;decide) (by show 1≤1;decide) (fun x hx=>by rw [wT.1 hx];omega)) (fun r hr=>ub (by omega) ?_)))))
 rw [qKm]
 have eb:[b].getD (wo 0) 0=b:=rfl
 rw [e,eb,w64 (x:=0+1) (by decide) (by decide)]
 refine uf (by decide) (ua (by decide) (ua (by decide) (Tot.b (qEz h hb) (fun r hr=>?_))))
 rw [qKm]
 exact ub (by decide) (uc ⟨rfl,hr⟩)
theorem qKt {c:qWa} (h:WfC c):Tot (qLl c) fun r=>0≤r∧r≤192:=by
 obtain ⟨x,y,v,u⟩:=c
 rw [qBs]
 refine um (fun _=>uc (by decide)) (fun hp=>?_)
 simp only [WfC] at h
 have e0:¬(x=0∧y=0∧v=0):=by
  intro ⟨h1,h2,h3⟩
  subst h1 h2 h3
  exact hp rfl
 rcases h with h|h|h
 ·exact absurd h e0
 ·obtain ⟨rfl,h⟩:=h
  have e1:(1 - 0:Int)%256=1:=by decide
  have e2:wo 1=1:=rfl
  simp (disch:=omega) only [wu8,e1,e2,Int.toNat_zero,qfJ,qeJ,w32]
  refine ua (by decide) (ua (by decide) (ua (by decide) (ua (by decide) (uc ?_))))
  omega
 ·obtain ⟨rfl,h⟩:=h
  have e1:(1 - 1:Int)%256=0:=by decide
  have e2:wo 1=1:=rfl
  simp (disch:=omega) only [wu8,e1,e2,Int.toNat_zero,qfJ,qeJ,w32]
  refine ua (by decide) (ua (by decide) (ua (by decide) (ua (by decide) (uc ?_))))
  omega
theorem qny {a b:Int} (h0:0≤a) (h1:a≤192) (hb:b=0∨b=1):Tot (qfp a b) fun r=>r.2=0∧0≤r.1∧r.1≤192:=by
 rw [qAw,qmy]
 refine Tot.b (P:=fun r=>r.2=0∧0≤r.1∧r.1≤192) (Tot.b (qEo h0 h1) (fun r hr=>ud hr.1 (ub (by show ¬(1:Int)>20000;decide) ?_))) (fun r hr=>uc hr)
 have hc:qbc [b]=some false:=by
  have e:(wi [b].length)=1:=rfl
  have eb:[b].getD (wo 0) 0=b:=rfl
  rw [qdg,qZg,qUc,e,eb,w64 (x:=0+1) (by decide) (by decide),if_pos (by decide),qha (by decide),qha (by decide),qNt,wy,if_neg (by simp;omega),qUc,if_neg (by decide)]
  rfl
 refine ue hc (up (Tot.b (qLB hr.2 hb) (fun s hs=>ud hs.1 (Tot.b (qKt hs.2) (fun t ht=>uc ⟨rfl,ht⟩)))))
def WfSlot (s:qNd):Prop:=s.2.1.length=15∧∀x∈s.2.1,0≤x∧x≤192
def qxm (l:Int) (t:qna):Prop:=t.1=l∧(0≤l∧l≤7)∧(t.2.1.length:Int)=plT l∧∀s∈t.2.1,WfSlot s
theorem qHs (l:List qNd) (hl:l.length≤1048576) (h:∀s∈l,WfSlot s):∀i:Int,0≤i→Tot (qsf l l.length i) fun r=>r=0:=by
 intro i
 refine qyc (P:=fun i=>0≤i→Tot (qsf l l.length i) fun r=>r=0) l.length ?_ ?_ i
 ·intro i hi h0
  rw [qhl]
  exact ub (by omega) (uc rfl)
 ·intro i hi ih h0
  rw [qhl]
  simp only [wj]
  rw [w64 (x:=i+1) (by omega) (by omega)]
  have hd:=qIa (P:=WfSlot) (d:=qua qfc) h i.toNat (by omega)
  refine uf (by omega) (ua h0 (ua (by omega) (Tot.b (qFH (m:=192) _ ?_ ?_ ?_) (fun r hr=>ub (by omega) (ih (by omega))))))
  ·have:=hd.1;simp only [wS,wga];omega
  ·have:=hd.1;simp only [wS,wga];omega
  ·exact fun x hx=>hd.2 x (List.mem_of_mem_drop (List.mem_of_mem_take hx))
theorem qPl {l:Int} {t:qna} (h:qxm l t):qQi t=some 0:=by
 obtain ⟨h1,⟨h2,h3⟩,h4,h5⟩:=h
 have hp:=qzu h2 h3
 rw [qDw,h1,qbs h2 h3]
 simp only [wj]
 exact ug (ub (by omega) (ub (by omega) (ue rfl (ud h4 (qHs _ (by omega) h5 0 (by omega))))))
theorem qAm {s:qNd} (h:WfSlot s):Tot (qph s) fun _=>True:=by
 rw [qer]
 have hd:=qIa (P:=fun x=>0≤x∧x≤192) (d:=0) h.2 0 (by rw [h.1];decide)
 exact ua (by decide) (ua (by decide) (Tot.b (qyw hd.1 hd.2) (fun r _=>uc trivial)))
theorem WfSlot.zero (c:Int):WfSlot (c,((wn 15 0),())):=⟨rfl,fun x hx=>by rw [List.eq_of_mem_replicate hx];omega⟩
theorem qsA {l:Int} {t:qna} (h:qxm l t) (a:Int):Tot (qfr t a) fun r=>qxm l r.1∧0≤r.2.1∧r.2.1<plT l∧r.2.2=0:=by
 have hh:=h
 obtain ⟨h1,⟨h2,h3⟩,h4,h5⟩:=h
 have hp:=qzu h2 h3
 rw [qqy]
 simp only [wj]
 refine ue (qPl hh) (ud rfl (Tot.b (qQk a (4+l.toNat) (by omega) h4) (fun r hr=>ud hr.1 (Tot.b (qdx a) (fun c _=>ue (qIf _ (by omega)) ?_)))))
 have hx:=qlN r.1 (4+l.toNat) (by omega) (by omega) hr.2.1 (by rw [h4] at hr;exact hr.2.2)
 have hx2:qSb .i64 r.1 1<plT l:=hx.2
 have hd1:=qIa (P:=WfSlot) (d:=qua qfc) h5 r.1.toNat (by omega)
 have hd2:=qIa (P:=WfSlot) (d:=qua qfc) h5 (qSb .i64 r.1 1).toNat (by omega)
 refine ua hr.2.1 (ua hr.2.2 (ul (fun _=>uc ⟨⟨h1,⟨h2,h3⟩,h4,h5⟩,hr.2.1,by rw [←h4];exact hr.2.2,rfl⟩) (fun _=>ua hx.1 (ua (by rw [h4];exact hx2) (ul (fun _=>uc ⟨⟨h1,⟨h2,h3⟩,h4,h5⟩,hx.1,hx2,rfl⟩) (fun _=>?_))))))
 refine ua hx.1 (ua (by omega) (Tot.b (qAm hd2) (fun _ _=>ua hr.2.1 (ua hr.2.2 (Tot.b (qAm hd1) (fun _ _=>uh (fun _=>?_) (fun _=>?_)))))))
 ·exact ua hx.1 (ua (by omega) (uc ⟨⟨h1,⟨h2,h3⟩,by simpa using h4,qEe h5 (WfSlot.zero _) _⟩,hx.1,hx2,rfl⟩))
 ·exact ua hr.2.1 (ua hr.2.2 (uc ⟨⟨h1,⟨h2,h3⟩,by simpa using h4,qEe h5 (WfSlot.zero _) _⟩,hr.2.1,by rw [←h4];exact hr.2.2,rfl⟩))
theorem qIx {l:Int} {t:qna} (h:qxm l t) {i n:Int} (h0:0≤i) (h1:i<plT l) (h2:1≤n) (h3:n≤15):qnt t i n=some 0:=by
 rw [qsC]
 simp only [wj]
 exact ug (ue (qPl h) (ud rfl (ub (by omega) (ub (by rw [h.2.2.1];omega) (ub (by omega) (ub (by omega) (uc rfl)))))))
theorem qip {l:Int} {t:qna} (h:qxm l t) {i n:Int} (h0:0≤i) (h1:i<plT l) (h2:1≤n) (h3:n≤15):Tot (qWp t i n) fun r=>r.2=0∧0≤r.1∧r.1≤192:=by
 rw [qrA]
 simp only [wj]
 have h4:=h.2.2.1
 rw [w64 (x:=n - 1) (by omega) (by omega)]
 have hd:=qIa (P:=WfSlot) (d:=qua qfc) h.2.2.2 i.toNat (by omega)
 have he:=qIa (P:=fun x=>0≤x∧x≤192) (d:=0) hd.2 (n - 1).toNat (by rw [hd.1];omega)
 exact ue (qIx h h0 h1 h2 h3) (ud rfl (ua h0 (ua (by omega) (ua (by omega) (ua (by omega) (uc ⟨rfl,he.1,he.2⟩))))))
theorem qtC {l:Int} {t:qna} (h:qxm l t) {i n v:Int} (h0:0≤i) (h1:i<plT l) (h2:1≤n) (h3:n≤15) (hv0:0≤v) (hv1:v≤192):Tot (qUt t i n v) fun r=>r.2=0∧qxm l r.1:=by
 rw [qpA]
 simp only [wj]
 have h4:=h.2.2.1
 have hp:=qzu h.2.1.1 h.2.1.2
 rw [w64 (x:=n - 1) (by omega) (by omega)]
 have hd:=qIa (P:=WfSlot) (d:=qua qfc) h.2.2.2 (0+i.toNat) (by omega)
 refine ue (qIx h h0 h1 h2 h3) (ud rfl (ub (by omega) (ue (qIf _ (by omega)) (ua h0 (ua (by omega) (ua (by omega) (ua (by omega) (uc ⟨rfl,h.1,h.2.1,by simpa using h4,qEe h.2.2.2 ?_ _⟩))))))))
 exact ⟨by simpa using hd.1,qEe hd.2 ⟨hv0,hv1⟩ _⟩
theorem qvC {l:Int} {t:qna} (h:qxm l t) {i n b:Int} (h0:0≤i) (h1:i<plT l) (h2:1≤n) (h3:n≤15) (hb:b=0∨b=1):Tot (qWt t i n b) fun r=>r.2=0∧qxm l r.1:=by
 rw [qtA]
 exact Tot.b (qip h h0 h1 h2 h3) (fun r hr=>ud hr.1 (Tot.b (qny hr.2.1 hr.2.2 hb) (fun s hs=>ud hs.1 (Tot.b (qtC h h0 h1 h2 h3 hs.2.1 hs.2.2) (fun u hu=>uc hu)))))
def qjC (a:qma):Prop:=a.1=255∧(a.2.1.length=193∧∀x∈a.2.1,0≤x∧x≤65535)∧a.2.2.1.length=193∧∀x∈a.2.2.1,0≤x∧x≤255
theorem qZn {l:List Int} {m:Int} (hl:l.length=193) (h:∀x∈l,0≤x∧x≤m):qEi l m=some false:=by
 rw [qit]
 simp only [wj]
 exact ug (ud (by omega) (Tot.b (qzE l (by omega) (by omega) h) (fun r hr=>ub (by omega) (Tot.b (qAE l (by omega) (by omega) h) (fun s hs=>uc (by simp;omega))))))
theorem qRq {a:qma} (h:qjC a):qwm a=some 0:=by
 rw [qFx]
 have e:G_targets.getD 1 0=65535:=rfl
 rw [e,h.1]
 exact ug (ub (by omega) (ub (by omega) (ua (by omega) (ua (by omega) (ue (qZn h.2.1.1 h.2.1.2) (up (ue (qZn h.2.2.1 h.2.2.2) (up (uc rfl)))))))))
theorem qgy {a:qma} (h:qjC a) {s:Int} (h1:s≤192):qCt a s=some 0:=by
 rw [qJD]
 exact ug (ue (qRq h) (ud rfl (ub (by omega) (uc rfl))))
theorem qbC {a:qma} (h:qjC a) {s:Int} (h0:0≤s) (h1:s≤192):Tot (qKD a s) fun r=>r.2=0∧0≤r.1∧r.1≤65535:=by
 rw [qsG]
 simp only [wj]
 have hd:=qIa (P:=fun x=>0≤x∧x≤65535) (d:=0) h.2.1.2 s.toNat (by rw [h.2.1.1];omega)
 exact ue (qgy h h1) (ud rfl (ua h0 (ua (by rw [h.2.1.1];omega) (uc ⟨rfl,hd⟩))))
theorem qEF {n:Int} (h0:1≤n) (h1:n≤1024):Tot (qzy n) fun r=>r.2=0∧0≤r.1∧r.1≤65536:=by
 rw [qIC,qJl (by omega)]
 have h3:0≤65536/n:=Int.ediv_nonneg (by omega) (by omega)
 have h4:65536/n≤65536:=Int.ediv_le_self _ (by omega)
 rw [w32 (by omega) (by omega)]
 exact ub (by omega) (ub (by omega) (ua (by omega) (uc ⟨rfl,h3,h4⟩)))
theorem qKA {p t n:Int} (hp0:0≤p) (hp1:p≤65535) (ht:t=0∨t=65535) (h0:1≤n) (h1:n≤1024):Tot (qkr p t n) fun r=>r.2=0∧0≤r.1∧r.1≤65535:=by
 rw [qyy,qLA]
 have e1:wd .i32 (t - p)=t - p:=w32 (by omega) (by omega)
 rw [e1]
 refine ub (by split <;> omega) (ub (by split <;> omega) (Tot.b (P:=fun r=>r.2=0∧-p≤r.1∧r.1≤65535 - p) ?_ (fun r hr=>ud hr.1 (uc ?_))))
 ·refine Tot.b (qEF h0 h1) (fun q hq=>ud hq.1 (ua (by decide) (uc ?_)))
  rw [w64 (x:=t - p) (by omega) (by omega),w64 (x:=q.1) (by omega) (by omega)]
  have hm:-(p*65536)≤(t - p)*q.1∧(t - p)*q.1≤(65535 - p)*65536:=by
   rcases ht with rfl|rfl
   ·have a1:p*q.1≤p*65536:=Int.mul_le_mul_of_nonneg_left hq.2.2 hp0
    have a2:0≤p*q.1:=Int.mul_nonneg hp0 hq.2.1
    have a3:(0 - p)*q.1=-(p*q.1):=by rw [Int.zero_sub,Int.neg_mul]
    rw [a3];omega
   ·have a1:(65535 - p)*q.1≤(65535 - p)*65536:=Int.mul_le_mul_of_nonneg_left hq.2.2 (by omega)
    have a2:0≤(65535 - p)*q.1:=Int.mul_nonneg (by omega) hq.2.1
    omega
  generalize (t - p)*q.1=z at*
  rw [w64 (x:=z) (by omega) (by omega),qyd _ (by omega),w32 (by omega) (by omega)]
  refine ⟨rfl,?_,?_⟩
  ·show -p≤z/65536;omega
  ·show z/65536≤65535 - p;omega
 ·rw [w32 (by omega) (by omega)]
  exact ⟨rfl,by simp only;omega,by simp only;omega⟩
theorem qaC {a:qma} (h:qjC a):qVr a=some a:=by
 rw [qVz,qSa _ (by rw [h.2.1.1];decide),wy,qSa _ (by rw [h.2.2.1];decide),wy]
theorem qCx {p q:List Int} {u:Unit} {s b:Int} (h0:0≤s) (h1:s≤192) (hb:b=0∨b=1) (hp:p.length=193∧∀x∈p,0≤x∧x≤65535) (hq:q.length=193∧∀x∈q,0≤x∧x≤255):
  Tot (qao 255 u s b p q) fun r=>r.1=0∧(r.2.1.length=193∧∀x∈r.2.1,0≤x∧x≤65535)∧r.2.2.length=193∧∀x∈r.2.2,0≤x∧x≤255:=by
 rw [qmw]
 simp only [wj]
 have hd:=qIa (P:=fun x=>0≤x∧x≤65535) (d:=0) hp.2 (0+s.toNat) (by rw [hp.1];omega)
 have he:=qIa (P:=fun x=>0≤x∧x≤255) (d:=0) hq.2 (0+s.toNat) (by rw [hq.1];omega)
 generalize p.getD (0+s.toNat) 0=x at*
 generalize q.getD (0+s.toNat) 0=y at*
 rw [w32 (x:=y+1) (by omega) (by omega)]
 have hn:1≤(if 255<y+1 then 255 else y+1)∧(if 255<y+1 then 255 else y+1)≤255:=by split <;> omega
 generalize (if 255<y+1 then 255 else y+1)=n at*
 rw [w32 (x:=n+1) (by omega) (by omega)]
 have ht:G_targets.getD b.toNat 0=0∨G_targets.getD b.toNat 0=65535:=by
  rcases hb with rfl|rfl
  ·exact Or.inl rfl
  ·exact wZa rfl
 refine ua h0 (ua (by omega) (ua h0 (ua (by omega) (ua (by omega) (ua (by omega) (Tot.b (qKA hd.1 hd.2 ht (by omega) (by omega)) (fun r hr=>ua h0 (ua (by omega) (ua h0 (ua (by omega) (uc ?_)))))))))))
 exact ⟨hr.1,⟨by simpa using hp.1,qEe hp.2 hr.2 _⟩,by simpa using hq.1,qEe hq.2 ⟨by omega,by omega⟩ _⟩
theorem qEx {a:qma} (h:qjC a) {s b:Int} (h0:0≤s) (h1:s≤192) (hb:b=0∨b=1):Tot (qbo a s b) fun r=>r.2=0∧qjC r.1:=by
 rw [qnw]
 refine ue (qgy h h1) (ud rfl (ub (by omega) (ue (qaC h) ?_)))
 rw [h.1]
 exact Tot.b (qCx h0 h1 hb h.2.1 h.2.2) (fun r hr=>ud hr.1 (uc ⟨rfl,rfl,hr.2.1,hr.2.2⟩))
def qdo (l:Int) (f:qBa):Prop:=f.1=l∧(0≤l∧l≤7)∧(f.2.1.length:Int)=plR l∧∀x∈f.2.1,-1≤x∧x≤1073741824
theorem qHz (l:List Int) (hl:l.length≤1048576) (h:∀x∈l,-1≤x∧x≤1073741824):qKc l=some false:=by
 have key:∀i:Int,0≤i→Tot (qqb l l.length i) fun r=>r=-1:=by
  intro i
  refine qyc (P:=fun i=>0≤i→Tot (qqb l l.length i) fun r=>r=-1) l.length ?_ ?_ i
  ·intro i hi h0
   rw [qPd]
   exact ub (by omega) (uc rfl)
  ·intro i hi ih h0
   rw [qPd]
   simp only [wj]
   rw [w64 (x:=i+1) (by omega) (by omega)]
   have hd:=qIa (P:=fun x=>-1≤x∧x≤1073741824) (d:=0) h i.toNat (by omega)
   refine uf (by omega) (ua h0 (ua (by omega) (ue (v:=false) ?_ (up (ih (by omega))))))
   rw [qCr]
   exact ug (ub (by omega) (uc (decide_eq_false (by omega))))
 rw [qEh,qRi]
 exact ug (Tot.b (key 0 (by omega)) (fun r hr=>uc (by rw [hr];rfl)))
theorem qRk {l:Int} {f:qBa} (h:qdo l f):qSh f=some 0:=by
 obtain ⟨h1,⟨h2,h3⟩,h4,h5⟩:=h
 have hp:=qks h2 h3
 rw [qGv,h1,qDn h2 h3]
 simp only [wj]
 exact ug (ub (by omega) (ub (by omega) (ue rfl (ud h4 (ue (qHz _ (by omega) h5) (up (uc rfl)))))))
theorem qVo {l:Int} {f:qBa} (h:qdo l f) (a:Int):Tot (qrk f a) fun r=>r.2=0∧0≤r.1∧r.1<f.2.1.length:=by
 rw [qFv]
 exact ue (qRk h) (ud rfl (Tot.b (qQk a (6+l.toNat) (by have:=h.2.1;omega) h.2.2.1) (fun r hr=>uc hr)))
theorem qui {l:Int} {f:qBa} (h:qdo l f) (a:Int):Tot (qhh f a) fun r=>r.2=0∧-1≤r.1∧r.1≤1073741824:=by
 rw [qgx]
 simp only [wj]
 refine Tot.b (qVo h a) (fun r hr=>ud hr.1 (ua hr.2.1 (ua hr.2.2 (uc ⟨rfl,?_⟩))))
 exact qIa (P:=fun x=>-1≤x∧x≤1073741824) h.2.2.2 _ (by omega)
theorem qrB {l:Int} {f:qBa} (h:qdo l f) (a:Int) {v:Int} (h0:0≤v) (h1:v≤1073741824):Tot (qgh f a v) fun r=>r.2=0∧qdo l r.1:=by
 rw [qbz]
 simp only [wj]
 have hp:=qks h.2.1.1 h.2.1.2
 refine Tot.b (qVo h a) (fun r hr=>ud hr.1 (ub (by omega) (ub (by omega) (ue (qUg _ (by have:=h.2.2.1;omega)) (ua hr.2.1 (ua hr.2.2 (uc ⟨rfl,h.1,h.2.1,by simpa using h.2.2.1,qEe h.2.2.2 ⟨by omega,h1⟩ _⟩)))))))
theorem qsk {l:Int} {r:qoa} (h:qMd l r) (v1 v2 v10:Int) (M:Int) (hM:M=if v2<v10 then v2 else v10) (hM1:M≤1073741824) (P:Int→Prop)
  (hP:∀v,0≤v→v≤max M 0→P v):∀(n:Nat) (k:Int) (v11:Int),(4 - k).toNat=n→0≤k→k≤4→0≤v11→v11≤max M 0→(∀v,v11+(4 - k)=v→v≤max M 0→Tot (qed v1 v2 r.2.1.length v10 v r) fun x=>P x.1)→
  Tot (qCf v1 v2 r.2.1.length v10 v11 k r) fun x=>P x.1
 |0,k,v11,hn,h0,h4,hv0,hv1,ih=>by
  rw [qij]
  exact ub (by omega) (ih v11 (by omega) hv1)
 |n+1,k,v11,hn,h0,h4,hv0,hv1,ih=>by
  rw [qij,←hM]
  simp only [wj]
  have hp:=qks h.2.1.1 h.2.1.2
  have hl:=h.2.2.1
  rw [w64 (x:=v11+1) (by omega) (by omega),w64 (x:=k+1) (by omega) (by omega),w64 (x:=(r.2.1.length:Int) - 1) (by omega) (by omega)]
  have b1:=qUJ (wd .i64 (v1 - (v11+1))) ((r.2.1.length:Int) - 1) (by omega) (by omega)
  have b2:=qUJ (wd .i64 (r.2.2.1 - (v11+1))) ((r.2.1.length:Int) - 1) (by omega) (by omega)
  refine uf (by omega) (uh (fun _=>uc (hP _ hv0 hv1)) (fun hle=>ua b1.1 (ua (by omega) (ua b2.1 (ua (by omega) (uo (fun _=>uc (hP _ hv0 hv1)) (fun _=>?_)))))))
  exact qsk h v1 v2 v10 M hM hM1 P hP n (k+1) (v11+1) (by omega) (by omega) (by omega) (by omega) (by omega) (fun v e hv=>ih v (by omega) hv)
theorem qEq {l:Int} {r:qoa} (h:qMd l r) (v1 v2 v10:Int) (M:Int) (hM:M=if v2<v10 then v2 else v10) (hM1:M≤1073741824):
  ∀(v11:Int),0≤v11→v11≤max M 0→Tot (qed v1 v2 r.2.1.length v10 v11 r) fun x=>0≤x.1∧x.1≤max M 0:=by
 have key:∀(m:Nat) (v11:Int),(M - v11).toNat≤m→0≤v11→v11≤max M 0→Tot (qed v1 v2 r.2.1.length v10 v11 r) fun x=>0≤x.1∧x.1≤max M 0:=by
  intro m
  induction m with
  |zero=>
   intro v11 hm h0 h1
   rw [qjj,←hM]
   exact ub (by omega) (uc ⟨h0,h1⟩)
  |succ m ih=>
   intro v11 hm h0 h1
   rw [qjj,←hM]
   refine uh (fun hlt=>?_) (fun _=>uc ⟨h0,h1⟩)
   exact qsk h v1 v2 v10 M hM hM1 (fun x=>0≤x∧x≤max M 0) (fun v a b=>⟨a,b⟩) 4 0 v11 rfl (by omega) (by omega) h0 h1 (fun v e hv=>ih v (by omega) (by omega) hv)
 intro v11
 exact key _ v11 (ws _)
theorem qkj {l:Int} {r:qoa} (h:qMd l r) (a:Int):Tot (qef r a 40) fun x=>0≤x.1∧x.1≤40:=by
 rw [qZs]
 simp only [wj]
 refine ue (qgd h) (ud rfl (uh (fun _=>uc (by decide)) (fun _=>uh (fun _=>uc (by decide)) (fun _=>uh (fun _=>uc (by decide)) (fun _=>?_)))))
 refine Tot.mono (qEq h a 40 _ _ rfl (by split <;> omega) 0 (by omega) (by omega)) (fun x hx=>⟨hx.1,?_⟩)
 refine Int.le_trans hx.2 ?_
 split <;> omega
theorem qmM:∀i:Fin 32,1≤G_row.getD i.val 0∧G_row.getD i.val 0≤G_row.getD (i.val+1) 0∧G_row.getD (i.val+1) 0≤4094:=by decide+kernel
theorem qoy (a:Int):Tot (qhg a) fun r=>0≤r∧r≤4095:=by
 rw [qCs]
 refine uh (fun _=>uc (by decide)) (fun h1=>uh (fun _=>uc (by decide)) (fun h2=>?_))
 rw [qyd a (by decide)]
 have hi:0≤a/128+16∧a/128+16≤31:=by omega
 generalize a/128+16=i at*
 rw [w32 (x:=i) (by omega) (by omega),w32 (x:=i+1) (by omega) (by omega)]
 have hr:=qmM ⟨i.toNat,by omega⟩
 simp only at hr
 have e:(i+1).toNat=i.toNat+1:=by omega
 rw [e]
 generalize G_row.getD i.toNat 0=L at*
 generalize G_row.getD (i.toNat+1) 0=H at*
 have hw:=qMN a 127 (by decide) (by decide)
 generalize qUa .i32 a 127=w at*
 rw [w32 (x:=L*128) (by omega) (by omega),w32 (x:=H - L) (by omega) (by omega)]
 have m1:(H - L)*w≤(H - L)*127:=Int.mul_le_mul_of_nonneg_left hw.2 (by omega)
 have m2:0≤(H - L)*w:=Int.mul_nonneg (by omega) hw.1
 generalize (H - L)*w=z at*
 rw [w32 (x:=z) (by omega) (by omega),w32 (x:=L*128+z) (by omega) (by omega),w32 (by omega) (by omega),qyd _ (by decide)]
 refine ua (by decide) (ua (by omega) (ua (by omega) (ua (by omega) (ua (by omega) (ua (by omega) (ua (by omega) (ua (by decide) (uc ?_))))))))
 omega
theorem qGs (b:Int):∀(m:Nat) (x y:Int),(y - x).toNat≤m→0≤x→x≤y→y≤4094→Tot (qrf x y b) fun r=>0≤r.1∧r.1≤4094:=by
 intro m
 induction m with
 |zero=>
  intro x y hm h0 h1 h2
  rw [qgl]
  exact ub (by omega) (uc ⟨h0,by simp only;omega⟩)
 |succ m ih=>
  intro x y hm h0 h1 h2
  rw [qgl]
  refine uh (fun hlt=>?_) (fun _=>uc ⟨h0,by simp only;omega⟩)
  rw [w64 (x:=x+y) (by omega) (by omega),qmN,qyd _ (by decide)]
  have e:(x+y)%18446744073709551616=x+y:=by omega
  rw [e,w64 (x:=(x+y)/2) (by omega) (by omega),w64 (x:=(x+y)/2+1) (by omega) (by omega),qgp]
  refine ua (by decide) (Tot.b (P:=fun r=>r.2=b) (Tot.b (qoy _) (fun r _=>uc rfl)) (fun r hr=>?_))
  rw [hr]
  exact uk (fun _=>ih _ _ (by omega) (by omega) (by omega) (by omega)) (fun _=>ih _ _ (by omega) (by omega) (by omega) (by omega))
theorem qkA (a:Int):Tot (qGk a) fun r=>-2047≤r∧r≤2047:=by
 rw [qbr,qCw]
 refine Tot.b (qGs a 4094 0 4094 (by decide) (by decide) (by decide) (by decide)) (fun r hr=>uc ?_)
 rw [w32 (x:=r.1) (by omega) (by omega),w32 (by omega) (by omega)]
 omega
def qPp (m:qta):Prop:=m.1.length=256∧∀r∈m.1,r.length=8
theorem qyD (l:List (List Int)) (hl:l.length≤1048576) (h:∀r∈l,r.length=8):qcc l=some false:=by
 have key:∀i:Int,0≤i→Tot (qYa l l.length i) fun r=>r=-1:=by
  intro i
  refine qyc (P:=fun i=>0≤i→Tot (qYa l l.length i) fun r=>r=-1) l.length ?_ ?_ i
  ·intro i hi h0
   rw [qVc]
   exact ub (by omega) (uc rfl)
  ·intro i hi ih h0
   rw [qVc]
   simp only [wj]
   rw [w64 (x:=i+1) (by omega) (by omega)]
   have hd:=qIa (P:=fun r:List Int=>r.length=8) (d:=[]) h i.toNat (by omega)
   refine uf (by omega) (ua h0 (ua (by omega) (ue (v:=false) ?_ (up (ih (by omega))))))
   rw [qNs,hd]
   rfl
 rw [qeg,qah]
 exact ug (Tot.b (key 0 (by omega)) (fun r hr=>uc (by rw [hr];rfl)))
theorem qpq {m:qta} (h:qPp m):qdm m=some 0:=by
 rw [qTw]
 simp only [wj]
 have:=h.1
 exact ug (ub (by omega) (ub (by omega) (ue (qyD _ (by omega) h.2) (up (uc rfl)))))
theorem qOo (a:Int):Tot (qno a) fun r=>-2047≤r∧r≤2047∧(-2047≤a→a≤2047→r=a):=by
 rw [qKy]
 refine uc ?_
 split <;> split at*<;> omega
theorem qzD (l:List Int) (hl:l.length≤1048576) (h:∀x∈l,-2047≤x∧x≤2047):qRb l=some false:=by
 have key:∀i:Int,0≤i→Tot (qTa l l.length i) fun r=>r=-1:=by
  intro i
  refine qyc (P:=fun i=>0≤i→Tot (qTa l l.length i) fun r=>r=-1) l.length ?_ ?_ i
  ·intro i hi h0
   rw [qAc]
   exact ub (by omega) (uc rfl)
  ·intro i hi ih h0
   rw [qAc]
   simp only [wj]
   rw [w64 (x:=i+1) (by omega) (by omega)]
   have hd:=qIa (P:=fun x=>-2047≤x∧x≤2047) (d:=0) h i.toNat (by omega)
   refine uf (by omega) (ua h0 (ua (by omega) (ue (v:=false) ?_ (up (ih (by omega))))))
   rw [qKs]
   exact ug (Tot.b (qOo _) (fun r hr=>uc (by rw [hr.2.2 hd.1 hd.2];simp)))
 rw [qnf,qcg]
 exact ug (Tot.b (key 0 (by omega)) (fun r hr=>uc (by rw [hr];rfl)))
theorem qnq {m:qta} (h:qPp m) {s:Int} (h0:0≤s) (h1:s≤255) {l:List Int} (hl:l.length=8) (hb:∀x∈l,-2047≤x∧x≤2047):qcm m s l=some 0:=by
 rw [qQw]
 simp only [wj]
 have:=h.1
 exact ug (ue (qpq h) (ud rfl (ub (by omega) (ub (by omega) (ud (by omega) (ue (qzD _ (by omega) hb) (up (uc rfl))))))))
theorem qCv (a:Int):Tot (qDq a) fun _=>True:=by
 rw [qnB];exact uc trivial
theorem qfD (a b:List Int) (hl:a.length=b.length) (h16:a.length≤16):Tot (qDv a b) fun _=>True:=by
 have key:∀i:Int,0≤i→∀v6 v7,0≤v7→Tot (qRh b v6 v7 a a.length i) fun r=>True:=by
  intro i
  refine qyc (P:=fun i=>0≤i→∀v6 v7,0≤v7→Tot (qRh b v6 v7 a a.length i) fun r=>True) a.length ?_ ?_ i
  ·intro i hi h0 v6 v7 h7
   rw [qCn]
   refine ub (by omega) ?_
   repeat (first|exact uc trivial|exact Tot.b (qCv _) (fun _ _=>uc trivial)|refine um (fun _=>?_) (fun _=>?_))
  ·intro i hi ih h0 v6 v7 h7
   rw [qCn]
   simp only [wj]
   rw [w64 (x:=i+1) (by omega) (by omega)]
   refine uf (by omega) (ua h0 (ua (by omega) (ua h0 (ua (by omega) (Tot.b (P:=fun r=>0≤r.1) ?_ (fun r hr=>ua (by decide) (ih (by omega) _ _ hr)))))))
   unfold qyo
   have hw:=qgM (wd .i64 ((wd .i64 (wm a (wo i) 0))*(wd .i64 (wm b (wo i) 0))))
   rw [if_pos ⟨h7,hw.1,by omega,by omega⟩]
   exact uc (by simp only;omega)
 rw [qoB]
 simp only [wj]
 exact ub (by split <;> omega) (ud (by omega) (key 0 (by omega) 0 0 (by omega)))
theorem qSu {m:qta} (h:qPp m) {s:Int} (h0:0≤s) (h1:s≤255) {l:List Int} (hl:l.length=8) (hb:∀x∈l,-2047≤x∧x≤2047):
  Tot (qTu m s l) fun r=>-2047≤r.1∧r.1≤2047∧0≤r.2.1∧r.2.1≤4095:=by
 rw [qXA]
 simp only [wj]
 have hl':=h.1
 have hd:=qIa (P:=fun r:List Int=>r.length=8) (d:=[]) h.2 s.toNat (by omega)
 exact ue (qnq h h0 h1 hl hb) (ud rfl (ua h0 (ua (by omega) (Tot.b (qfD _ _ (by omega) (by omega)) (fun r _=>ua (by decide) (Tot.b (qOo _) (fun q hq=>Tot.b (qoy _) (fun t ht=>uc ⟨hq.1,hq.2.1,ht⟩))))))))
theorem qaz (a:Int):Tot (qFp a 14) fun _=>True:=by
 rw [qex,w64 (x:=14 - 1) (by decide) (by decide)]
 exact ub (by decide) (ub (by decide) (ut (by decide) (ua (by decide) (ua (by decide) (uc trivial)))))
theorem qgD (a b:Int):Tot (qEv a b) fun _=>True:=by
 rw [qpB]
 exact Tot.b (qCv _) (fun _ _=>uc trivial)
theorem qLs {s:Int} (h0:0≤s) (h1:s≤255) {l:List Int} (hl:l.length=8) (v16:Int) (u u':Unit) (h10:List (List Int)):∀i:Int,0≤i→∀h11:List (List Int),h11.length=256→(∀r∈h11,r.length=8)→
  Tot (qvf s v16 l 8 i u u' h10 h11) fun r=>r.2=0∧qPp r.1:=by
 intro i
 refine qyc (P:=fun i=>0≤i→∀h11:List (List Int),h11.length=256→(∀r∈h11,r.length=8)→Tot (qvf s v16 l 8 i u u' h10 h11) fun r=>r.2=0∧qPp r.1) 8 ?_ ?_ i
 ·intro i hi h0' h11 hh hr
  rw [qnl]
  exact ub (by omega) (uc ⟨rfl,hh,hr⟩)
 ·intro i hi ih h0' h11 hh hr
  rw [qnl]
  simp only [wj]
  have hd:=qIa (P:=fun r:List Int=>r.length=8) (d:=[]) hr (0+s.toNat) (by omega)
  rw [w64 (x:=i+1) (by omega) (by omega),hd]
  refine uf (by omega) (ua h0' (ua (by omega) (Tot.b (qaz _) (fun r _=>ua h0 (ua (by omega) (ua (by decide) (ua h0 (ua (by omega) (ua (by decide) (ua h0' (ua (by omega) (Tot.b (qgD _ _) (fun q _=>ua h0' (ua (by omega) (ih (by omega) _ (by simpa using hh) (qEe hr ?_ _))))))))))))))))
  simpa using hd
theorem qMs {s:Int} (h0:0≤s) (h1:s≤255) {l:List Int} (hl:l.length=8) (v3:Int) (v4:Bool) (m:List (List Int)) (hm:m.length=256) (hr:∀r∈m,r.length=8) (u u':Unit) (h10:List (List Int)):∀i:Int,0≤i→i≤256→∀h11:List (List Int),h11.length=i.toNat→(∀r∈h11,r.length=8)→
  Tot (qwf s l v3 v4 m 256 i u u' h10 h11) fun r=>r.2=0∧qPp r.1:=by
 intro i
 refine qyc (P:=fun i=>0≤i→i≤256→∀h11:List (List Int),h11.length=i.toNat→(∀r∈h11,r.length=8)→Tot (qwf s l v3 v4 m 256 i u u' h10 h11) fun r=>r.2=0∧qPp r.1) 256 ?_ ?_ i
 ·intro i hi h0' hi' h11 hh hr'
  rw [qol]
  simp only [wj]
  rw [hl]
  refine ub (by omega) (Tot.b (P:=fun _=>True) ?_ (fun q _=>qLs h0 h1 hl _ u u' h10 0 (by omega) h11 (by omega) hr'))
  rw [qPw]
  exact um (fun _=>uc trivial) (fun _=>uc trivial)
 ·intro i hi ih h0' hi' h11 hh hr'
  rw [qol]
  simp only [wj]
  have hd:=qIa (P:=fun r:List Int=>r.length=8) (d:=[]) hr i.toNat (by omega)
  rw [w64 (x:=i+1) (by omega) (by omega)]
  refine uf (by omega) (ua h0' (ua (by omega) (ue (qSa _ (by omega)) (ua (by rw [wl,wv];omega) (ih (by omega) (by omega) _ (by rw [wl,wv];omega) (qei hr' hd))))))
theorem qLy {m:qta} (h:qPp m) {s:Int} (h0:0≤s) (h1:s≤255) {l:List Int} (hl:l.length=8) (hb:∀x∈l,-2047≤x∧x≤2047) {p:Int} (hp0:0≤p) (hp1:p≤4095) (b:Bool):
  Tot (qwp m s l p b) fun r=>r.2=0∧qPp r.1:=by
 rw [qSw]
 simp only [wj]
 rw [h.1]
 exact ue (qnq h h0 h1 hl hb) (ud rfl (ub (by omega) (ub (by omega) (qMs h0 h1 hl p b m.1 h.1 h.2 () () [] 0 (by omega) (by omega) [] rfl (fun r hr=>by cases hr)))))
def qkt (r:List Int):Prop:=r.length=33∧∀x∈r,0≤x∧x≤65535
def qTq (m:qta):Prop:=m.1.length=256∧∀r∈m.1,qkt r
theorem qjr (l:List (List Int)) (hl:l.length≤1048576) (h:∀r∈l,qkt r):∀i:Int,0≤i→Tot (qGe l l.length i) fun r=>r=0:=by
 intro i
 refine qyc (P:=fun i=>0≤i→Tot (qGe l l.length i) fun r=>r=0) l.length ?_ ?_ i
 ·intro i hi h0
  rw [qSj]
  exact ub (by omega) (uc rfl)
 ·intro i hi ih h0
  rw [qSj]
  simp only [wj]
  rw [w64 (x:=i+1) (by omega) (by omega)]
  have hd:=qIa (P:=qkt) (d:=[]) h i.toNat (by omega)
  have hd1:=hd.1
  exact uf (by omega) (ua h0 (ua (by omega) (ud (by omega) (Tot.b (qzE _ (by omega) (by omega) hd.2) (fun r hr=>ub (by omega) (Tot.b (qAE _ (by omega) (by omega) hd.2) (fun s hs=>ub (by omega) (ih (by omega)))))))))
theorem qLk {m:qta} (h:qTq m):qTj m=some 0:=by
 rw [qqu]
 simp only [wj]
 have:=h.1
 exact ug (ub (by omega) (ub (by omega) (qjr _ (by omega) h.2 0 (by omega))))
theorem qIo {m:qta} (h:qTq m) {s:Int} (h0:0≤s) (h1:s≤255):qPj m s=some 0:=by
 rw [qmu]
 simp only [wj]
 have:=h.1
 exact ug (ue (qLk h) (ud rfl (ub (by omega) (ub (by omega) (uc rfl)))))
theorem qoi {m:qta} (h:qTq m) {s:Int} (h0:0≤s) (h1:s≤255) {a:Int} (ha0:-2047≤a) (ha1:a≤2047):Tot (qXl m s a) fun r=>r.2.2=0∧0≤r.2.1∧r.2.1≤32:=by
 rw [qIw]
 simp only [wj]
 have hl:=h.1
 have hd:=qIa (P:=qkt) (d:=[]) h.2 s.toNat (by omega)
 rw [hd.1]
 simp (disch:=omega) only [w32 (x:=a+2048),w64 (x:=a+2048),qJl,qYg,w64 (x:=(a+2048)/128),w64 (x:=(a+2048)/128+1),w32 (x:=(a+2048)%128/64),w64 (x:=(a+2048)%128/64),w64 (x:=(a+2048)/128+(a+2048)%128/64)]
 refine ue (qIo h h0 h1) (ud rfl (ub (by omega) (ub (by omega) (ua (by decide) (ua (by decide) (ua h0 (ua (by omega) (ua (by omega) (ua (by omega) (ua (by omega) (ua (by omega) (ua (by decide) (ua (by decide) (uc ⟨rfl,?_,?_⟩))))))))))))))
 ·simp only;omega
 ·simp only;omega
theorem qir {s n:Int} (h0:0≤s) (h1:s≤255) (hn0:0≤n) (hn1:n≤32) (b:Bool) (m:List (List Int)) (hm:m.length=256) (hr:∀r∈m,qkt r) (u u':Unit) (h10:List (List Int)):∀i:Int,0≤i→i≤256→∀h11:List (List Int),h11.length=i.toNat→(∀r∈h11,qkt r)→
  Tot (qFe s n b m 256 i u u' h10 h11) fun r=>r.2=0∧qTq r.1:=by
 intro i
 refine qyc (P:=fun i=>0≤i→i≤256→∀h11:List (List Int),h11.length=i.toNat→(∀r∈h11,qkt r)→Tot (qFe s n b m 256 i u u' h10 h11) fun r=>r.2=0∧qTq r.1) 256 ?_ ?_ i
 ·intro i hi h0' hi' h11 hh hr'
  rw [qQj]
  simp only [wj]
  have hd:=qIa (P:=qkt) (d:=[]) hr' (0+s.toNat) (by omega)
  have hv:=qIa (P:=fun x=>0≤x∧x≤65535) (d:=0) hd.2 (0+n.toNat) (by rw [hd.1];omega)
  have hd1:=hd.1
  rw [hd1]
  generalize hz:(h11.getD (0+s.toNat) []).getD (0+n.toNat) 0=z at*
  have q1:(65535 - z).tdiv 64=(65535 - z)/64:=qJl (by omega)
  have q2:wIa (0 - z) 64=-(z/64):=by rw [Int.zero_sub,Int.neg_tdiv,qJl hv.1]
  rw [w32 (x:=65535 - z) (by omega) (by omega),w32 (x:=0 - z) (by omega) (by omega),q1,q2,w32 (x:=(65535 - z)/64) (by omega) (by omega),w32 (x:=-(z/64)) (by omega) (by omega),w32 (x:=z+(65535 - z)/64) (by omega) (by omega),w32 (x:=z+-(z/64)) (by omega) (by omega)]
  refine ub (by omega) (um (fun _=>?_) (fun _=>?_))
  ·exact ua h0 (ua (by omega) (ua (by decide) (ua hn0 (ua (by omega) (ua (by decide) (uc ⟨rfl,by simp;omega,qEe hr' ⟨by simpa using hd.1,qEe hd.2 (by omega) _⟩ _⟩))))))
  ·exact ua h0 (ua (by omega) (ua (by decide) (ua hn0 (ua (by omega) (ua (by decide) (uc ⟨rfl,by simp;omega,qEe hr' ⟨by simpa using hd.1,qEe hd.2 (by omega) _⟩ _⟩))))))
 ·intro i hi ih h0' hi' h11 hh hr'
  rw [qQj]
  simp only [wj]
  have hd:=qIa (P:=qkt) (d:=[]) hr i.toNat (by omega)
  have hd1:=hd.1
  rw [w64 (x:=i+1) (by omega) (by omega)]
  refine uf (by omega) (ua h0' (ua (by omega) (ue (qSa _ (by omega)) (ua (by rw [wl,wv];omega) (ih (by omega) (by omega) _ (by rw [wl,wv];omega) (qei hr' hd))))))
theorem qJo {m:qta} (h:qTq m) {s n:Int} (h0:0≤s) (h1:s≤255) (hn0:0≤n) (hn1:n≤32) (b:Bool):Tot (qRj m s n b) fun r=>r.2=0∧qTq r.1:=by
 rw [qpu]
 simp only [wj]
 rw [h.1]
 exact ue (qIo h h0 h1) (ud rfl (ub (by omega) (ub (by omega) (qir h0 h1 hn0 hn1 b m.1 h.1 h.2 () () [] 0 (by omega) (by omega) [] rfl (fun r hr=>by cases hr)))))
def qWz (f:qJa):Prop:=qTq f.1∧qTq f.2.1
theorem qvi {f:qJa} (h:qWz f):qlj f=some 0:=by
 have l1:=h.1.1
 have l2:=h.2.1
 rw [qix,qih]
 simp only [wj]
 have e1:([f.1,f.2.1]:List qta).getD (0+wo 0) (qua qva)=f.1:=rfl
 rw [e1,w64 (x:=0+1) (by decide) (by decide)]
 refine ug (uf (by decide) (ua (by decide) (ua (by simp) (ue (qLk h.1) (ud rfl (ud (by omega) ?_))))))
 rw [qih]
 simp only [wj]
 have e2:([f.1,f.2.1]:List qta).getD (0+wo (0+1)) (qua qva)=f.2.1:=rfl
 rw [e2,w64 (x:=0+1+1) (by decide) (by decide)]
 refine (uf (by decide) (ua (by decide) (ua (by simp) (ue (qLk h.2) (ud rfl (ud (by omega) ?_))))))
 rw [qih]
 exact ub (by decide) (uc rfl)
theorem qrs (a b:Int) {w:Int} (h0:1≤w) (h1:w≤255):Tot (qEr a b w) fun r=>∃x,r.1=[w,x]∧0≤x∧x≤255:=by
 rw [qfz]
 exact ub (by omega) (ub (by omega) (Tot.b (qhm _ _ (by show 3≤_;decide)) (fun r _=>Tot.b (qQk _ 8 (by decide) (by decide)) (fun q hq=>uc ⟨q.1,rfl,hq.2.1,by omega⟩))))
theorem qqs (a:Int):Tot (qDr a) fun r=>0≤a→a≤4095→r=true:=by
 rw [qez]
 exact uh (fun h=>uc (fun _ h1=>decide_eq_true h1)) (fun h=>uc (fun h0 _=>absurd h0 h))
def qkN (c:qXb):Prop:=∃a b x y:Int,c.1=[a,b]∧c.2.1=[x,y]∧0≤a∧a≤255∧0≤b∧b≤255∧0≤x∧x≤32∧0≤y∧y≤32
theorem quB {f:qJa} (h:qWz f) {a b st p:Int} (ha:0≤a∧a≤255) (hb:0≤b∧b≤255) (hs:-2047≤st∧st≤2047) (hp:0≤p∧p≤4095):Tot (qqo f [a,b] st p) fun r=>qkN r.2.1:=by
 rw [qGq]
 have e0:([a,b]:List Int).getD 0 0=a:=rfl
 have e1:([a,b]:List Int).getD 1 0=b:=rfl
 rw [e0,e1]
 refine ue (qvi h) (ud rfl (ua (by decide) (ua (by decide) (Tot.b (qoi h.1 ha.1 ha.2 hs.1 hs.2) (fun r hr=>ua (by decide) (ua (by decide) (Tot.b (qoi h.2 hb.1 hb.2 hs.1 hs.2) (fun q hq=>ud hr.1 (ud hq.1 (Tot.b (qqs p) (fun t ht=>uk (fun k=>?_) (fun _=>?_))))))))))))
 ·rw [ht hp.1 hp.2] at k;exact absurd k (by decide)
 ·refine Tot.b (P:=fun _=>True) ?_ (fun z _=>uc ⟨a,b,r.2.1,q.2.1,rfl,rfl,ha.1,ha.2,hb.1,hb.2,hr.2.1,hr.2.2,hq.2.1,hq.2.2⟩)
  rw [qFq]
  exact ua (by decide) (ua (by decide) (ua (by decide) (uc trivial)))
theorem qgz {f:qJa} (h:qWz f) {c:qXb} (hc:qkN c) (b:Bool):Tot (qGp f c b) fun r=>r.2=0∧qWz r.1:=by
 obtain ⟨x,y,u,v,h1,h2,h3,h4,h5,h6,h7,h8,h9,h10⟩:=hc
 rw [qhx,h1,h2]
 have e0:([x,y]:List Int).getD 0 0=x:=rfl
 have e1:([x,y]:List Int).getD 1 0=y:=rfl
 have e2:([u,v]:List Int).getD 0 0=u:=rfl
 have e3:([u,v]:List Int).getD 1 0=v:=rfl
 rw [e0,e1,e2,e3]
 exact ue (qvi h) (ud rfl (ua (by decide) (ua (by decide) (ua (by decide) (ua (by decide) (Tot.b (qJo h.1 h3 h4 h7 h8 b) (fun r hr=>ua (by decide) (ua (by decide) (ua (by decide) (ua (by decide) (Tot.b (qJo h.2 h5 h6 h9 h10 b) (fun q hq=>ud hr.1 (ud hq.1 (uc ⟨rfl,hr.2,hq.2⟩))))))))))))))
def qdB (T:ByteArray):Bool:=decide (T.size=256)&&(List.range 256).all fun i=>decide (i=0∨(1≤qzt T i∧qzt T i≤8∧(i:Int)<2 ^ (qzt T i).toNat))
theorem qIH {T:ByteArray} (h:qdB T=true) {i:Nat} (h0:1≤i) (h1:i<256):1≤qzt T i∧qzt T i≤8∧(i:Int)<2 ^ (qzt T i).toNat:=by
 unfold qdB at h
 rw [wz,List.all_eq_true] at h
 have:=of_decide_eq_true (h.2 i (List.mem_range.2 h1))
 rcases this with rfl|h
 ·omega
 ·exact h
theorem qXC {T:ByteArray} (h:qdB T=true):T.size=256:=by
 unfold qdB at h
 rw [wz] at h
 exact of_decide_eq_true h.1
theorem qQL {T:ByteArray} (hT:qdB T=true) {a:Int} (h0:1≤a) (h1:a≤255):Tot (gd (0≤wd .u8 a)<|gd (wd .u8 a<wi T.size)<|some (wd .i64 (0+wd .i64 (qzt T (wo (wd .u8 a)))))) fun r=>1≤r∧r≤8∧a<2 ^ r.toNat:=by
 have e:wd .u8 a=a:=by rw [wu8];omega
 have hs:=qXC hT
 have ht:=qIH hT (i:=a.toNat) (by omega) (by omega)
 rw [e,hs,w64 (x:=qzt T a.toNat) (by omega) (by omega),w64 (by omega) (by omega)]
 refine ua (by omega) (ua (by show a<256;omega) (uc ?_))
 rw [Int.zero_add]
 refine ⟨ht.1,ht.2.1,?_⟩
 have e2:((a.toNat:Nat):Int)=a:=by omega
 rw [e2] at ht
 exact ht.2.2
theorem qaK {a:Int} (h0:1≤a) (h1:a≤255):Tot (qXd (wd .u64 a)) fun r=>1≤r∧r≤8∧a<2 ^ r.toNat:=by
 have e:wd .u64 a=a:=by rw [qmN];omega
 rw [qGm,e,qgk]
 refine Tot.b (ub (by omega) (ub (by omega) (ub (by omega) (qQL ?_ h0 h1)))) (fun r hr=>uc hr)
 decide+kernel
def qys (w:qqa):Prop:=1≤w.1∧w.1≤255
theorem quf {w:qqa} (h:qys w):qKe w=some 0:=by
 rw [qMu]
 have:=h.1
 have:=h.2
 exact ug (ub (by omega) (ub (by omega) (uc rfl)))
theorem qmq {w:qqa} (h:qys w):Tot (qsp w) fun r=>1≤r.1∧r.1≤15:=by
 rw [qNw,qLw]
 refine ue (quf h) (ud rfl (Tot.b (P:=fun r=>1≤r∧r≤15) (Tot.b (qaK h.1 h.2) (fun r hr=>?_)) (fun r hr=>uc hr)))
 rw [w64 (x:=r - 1) (by omega) (by omega)]
 refine uh (fun h4=>uc ⟨h.1,?_⟩) (fun h4=>?_)
 ·have h5:r=1∨r=2∨r=3∨r=4:=by omega
  have:=hr.2.2
  rcases h5 with rfl|rfl|rfl|rfl
  ·have e:(2:Int) ^ (wo 1)=2:=by decide
   omega
  ·have e:(2:Int) ^ (wo 2)=4:=by decide
   omega
  ·have e:(2:Int) ^ (wo 3)=8:=by decide
   omega
  ·have e:(2:Int) ^ (wo 4)=16:=by decide
   omega
 ·rw [w64 (x:=r - 1 - 4) (by omega) (by omega)]
  have h5:r=5∨r=6∨r=7∨r=8:=by omega
  have h6:=h.1
  rcases h5 with rfl|rfl|rfl|rfl
  ·have e:wd .i64 (qEw .i64 1 (5 - 1 - 4))=1:=by kernel_rfl
   rw [e,qYg (by omega),w64 (by omega) (by omega)]
   exact ua (by decide) (ua (by decide) (uc ⟨by omega,by omega⟩))
  ·have e:wd .i64 (qEw .i64 1 (6 - 1 - 4))=2:=by kernel_rfl
   rw [e,qYg (by omega),w64 (by omega) (by omega)]
   exact ua (by decide) (ua (by decide) (uc ⟨by omega,by omega⟩))
  ·have e:wd .i64 (qEw .i64 1 (7 - 1 - 4))=4:=by kernel_rfl
   rw [e,qYg (by omega),w64 (by omega) (by omega)]
   exact ua (by decide) (ua (by decide) (uc ⟨by omega,by omega⟩))
  ·have e:wd .i64 (qEw .i64 1 (8 - 1 - 4))=8:=by kernel_rfl
   rw [e,qYg (by omega),w64 (by omega) (by omega)]
   exact ua (by decide) (ua (by decide) (uc ⟨by omega,by omega⟩))
theorem qDm (w:qqa):∀(n:Nat) (hs:List Bool),n+hs.length≤100→Tot (qsh ((n:Int) - 1) w hs) fun r=>r.1.length=hs.length+n
 |0,hs,hn=>by
  rw [qml]
  exact ub (by omega) (uc rfl)
 |n+1,hs,hn=>by
  rw [qml]
  have e:((n+1:Nat):Int) - 1=(n:Int):=by omega
  rw [e,w64 (x:=(n:Int) - 1) (by omega) (by omega)]
  refine uf (by omega) (ua (by omega) (ua (by rw [wl,wv];omega) ?_))
  exact Tot.mono (qDm w n _ (by rw [wl,wv];omega)) (fun r hr=>by rw [hr,wl,wv];omega)
theorem qHy {w:qqa} (h:qys w):Tot (qtp w) fun r=>r.1.length≤7:=by
 rw [qOw]
 refine ue (quf h) (ud rfl (Tot.b (qaK h.1 h.2) (fun r hr=>?_)))
 have e:r - 2=(((r - 1).toNat:Nat):Int) - 1:=by omega
 rw [w64 (x:=r - 2) (by omega) (by omega),e]
 exact Tot.mono (qDm w _ [] (by rw [wN];omega)) (fun q hq=>by rw [hq,wN];omega)
theorem qGy {w:qqa} (h:qys w) (b:Bool):Tot (qrp w b) fun r=>qys r.1∧0≤r.2.2.1∧r.2.2.1<256:=by
 rw [qMw,qKw,qam]
 have h0:=h.1
 have h1:=h.2
 rw [w64 (x:=2*w.1) (by omega) (by omega),w64 (x:=2*w.1+1) (by omega) (by omega)]
 refine ue (quf h) (ud rfl (Tot.b (P:=fun r=>2≤r) (um (fun _=>uc (by omega)) (fun _=>uc (by omega))) (fun r hr=>uh (fun hk=>?_) (fun hk=>uc ⟨⟨by simp only;omega,by simp only;omega⟩,wza 0,by show (0:Int)<256;decide⟩))))
 exact ue rfl (uc ⟨⟨wza 1,by show (1:Int)≤255;decide⟩,qgA r⟩)
def qym (m:qKb):Prop:=(m.1=-1∧m.2.1=0)∨(0≤m.1∧m.1≤1073741824∧1≤m.2.1∧m.2.1≤40)
theorem qem {m:qKb} (h:qym m):qdj m=some 0:=by
 rw [qWw,qjk]
 simp only [qym] at h
 refine ug (ue rfl (um (fun _=>uc rfl) (fun hp=>?_)))
 rcases h with ⟨h1,h2⟩|h
 ·obtain ⟨a,n,u⟩:=m
  simp only at h1 h2
  subst h1 h2
  exact absurd rfl hp
 ·exact uf (by omega) (uf (by omega) (uf (by omega) (uf (by omega) (uc rfl))))
theorem qQo {l:Int} {m:qKb} {r:qoa} (h:qMd l r):Tot (qik m r) fun x=>(0≤x.1∧x.1<256)∧(m.1<0→x.2=false):=by
 rw [qev]
 exact uh (fun _=>uc ⟨by decide,fun _=>rfl⟩) (fun k=>Tot.b (qUG h _) (fun x hx=>uc ⟨hx,fun q=>absurd q k⟩))
theorem qvq {l:Int} {m:qKb} {r:qoa} {w:qqa} (hm:qym m) (h:qMd l r) (hw:qys w):Tot (qyp m r w) fun x=>-2047≤x.1∧x.1≤2047:=by
 rw [qVw]
 have hl:0≤m.2.1∧m.2.1≤40:=by
  rcases hm with h|h <;> omega
 rw [w64 (x:=50*m.2.1) (by omega) (by omega),w64 (x:=-50*m.2.1) (by omega) (by omega),w32 (x:=50*m.2.1) (by omega) (by omega),w32 (x:=-50*m.2.1) (by omega) (by omega)]
 refine ue (qem hm) (ud rfl (ue (qgd h) (ud rfl (ue (quf hw) (ud rfl (Tot.b (qQo h) (fun x _=>Tot.b (qHy hw) (fun q hq=>uk (fun _=>uc (by decide)) (fun _=>?_)))))))))
 simp (disch:=omega) only [wj,w64 (x:=8 - (q.1.length:Int)),w64 (x:=7 - (q.1.length:Int))]
 exact ua (by omega) (uo (fun _=>uc (by decide)) (fun _=>ua (by omega) (um (fun _=>uc ⟨by simp only;omega,by simp only;omega⟩) (fun _=>uc ⟨by simp only;omega,by simp only;omega⟩))))
theorem qpF (h:List Int) (i:Nat) (x:Int) (hi:i<h.length):qwb h i [x]=h.set i x:=by
 unfold qwb
 rw [List.set_eq_take_append_cons_drop,if_pos hi]
 simp
theorem qsz {h:List Int} {n:Nat} {x:Int} {i:Nat} (hz:∀y∈h.drop n,y=0) (hi:i≤n):∀y∈(h.set i x).drop (n+1),y=0:=by
 intro y hy
 rw [List.drop_set,if_pos (by omega)] at hy
 rw [←wka] at hy
 exact hz y (List.mem_of_mem_drop hy)
theorem qjo {l:Int} {r:qoa} (h:qMd l r) {x:Int} (hx:0≤x∧x<256) (hN:r.2.2.1<1073741824):Tot (qty r [x]) fun s=>s.2=0∧qMd l s.1∧s.1.2.2.1=r.2.2.1+1:=by
 have hh:=h
 obtain ⟨h1,⟨h2,h3⟩,h4,h5,h6,h7,h8⟩:=h
 have hp:=qks h2 h3
 rw [qDC]
 have e1:(wi [x].length)=1:=rfl
 rw [e1]
 rw [w64 (x:=1073741824 - r.2.2.1) (by omega) (by omega)]
 refine ue (qgd hh) (ud rfl (ub (by decide) (ub (by omega) (ue (qZd _ (by omega)) ?_))))
 rw [qHo]
 simp only [wj]
 rw [qYg h6]
 have hm0:0≤r.2.2.1%(r.2.1.length:Int):=Int.emod_nonneg _ (by omega)
 have hm1:r.2.2.1%(r.2.1.length:Int)<(r.2.1.length:Int):=Int.emod_lt_of_pos _ (by omega)
 have hle:r.2.2.1%(r.2.1.length:Int)≤r.2.2.1:=by
  rcases Int.lt_or_le r.2.2.1 (r.2.1.length:Int) with k|k
  ·rw [Int.emod_eq_of_lt h6 k];exact wza _
  ·omega
 generalize r.2.2.1%(r.2.1.length:Int)=i at*
 have emin:min [x].length (r.2.1.length - i.toNat)=1:=by
  show min 1 _=1
  omega
 rw [emin]
 have e2:wea 1 [x]=[]:=rfl
 have e3:wM 1 [x]=[x]:=rfl
 rw [e2,e3,wO,qpF _ _ _ (by omega),w64 (x:=r.2.2.1+((1:Nat):Int)) (by omega) (by omega)]
 refine uf (by show 0<1;decide) (ua (by omega) (ua hm0 (ua (by omega) (ua (by decide) (ua (by show (1:Int)≤1;decide) ?_)))))
 rw [qHo]
 refine ub (by decide) (uc ⟨rfl,⟨h1,⟨h2,h3⟩,by simpa using h4,qEe h5 hx _,by simp only;omega,by simp only;omega,?_⟩,rfl⟩)
 have e4:(r.2.2.1+((1:Nat):Int)).toNat=r.2.2.1.toNat+1:=by omega
 simp only
 rw [e4]
 exact qsz h8 (by omega)
theorem quh {l:Int} {r:qoa} (h:qMd l r):Tot (qOf r) fun _=>True:=by
 have key:∀(n:Nat) (hs:List Int),n+hs.length≤100→Tot (qwg n r hs) fun _=>True:=by
  intro n
  induction n with
  |zero=>
   intro hs hn
   rw [qhk]
   exact ub (by simp) (Tot.b (qhm _ _ (by omega)) (fun _ _=>uc trivial))
  |succ n ih=>
   intro hs hn
   rw [qhk]
   have e:((n+1:Nat):Int) - 1=(n:Int):=by omega
   rw [w64 (x:=((n+1:Nat):Int) - 1) (by omega) (by omega),e]
   exact uf (by omega) (Tot.b (qku h _) (fun x hx=>ua (by rw [wl,wv];omega) (ih _ (by rw [wl,wv];omega))))
 rw [qdv]
 exact key 4 [] (by decide)
def qVN (l:Int) (N:Int) (r:qKb×qoa×qBa×Int):Prop:=r.2.2.2=0∧qym r.1∧qMd l r.2.1∧r.2.1.2.2.1=N+1∧qdo l r.2.2.1
theorem qaB {l:Int} {m:qKb} {r:qoa} {f:qBa} {x:Int} (hm:qym m) (h:qMd l r) (hf:qdo l f) (hx:0≤x∧x<256) (hN:r.2.2.1<1073741824):Tot (qvr m r f x) (qVN l r.2.2.1):=by
 have hput:∀(s:qoa) (k:Int),qMd l s→s.2.2.1=r.2.2.1+1→Tot (qgh f k s.2.2.1) fun q=>q.2=0∧qdo l q.1:=fun s k hs e=>qrB hf k hs.2.2.2.2.1 hs.2.2.2.2.2.1
 have hnew:qym (-1,(0,())):=Or.inl ⟨rfl,rfl⟩
 rw [qPy,qjk]
 refine ue (qem hm) (ud rfl (ue (qgd h) (ud rfl (ue (qRk hf) (ud rfl (ue rfl (Tot.b (qQo h) (fun e he=>?_))))))))
 refine um (fun he2=>?_) (fun he2=>?_)
 ·have hm0:0≤m.1∧m.1≤1073741824∧1≤m.2.1∧m.2.1≤40:=by
   rcases hm with k|k
   ·have:=he.2 (by omega);rw [this] at he2;exact absurd he2 (by decide)
   ·exact k
  refine ul (fun _=>?_) (fun _=>?_)
  ·refine uh (fun hlt=>?_) (fun _=>?_)
   ·rw [w64 (x:=m.1+1) (by omega) (by omega),w64 (x:=m.2.1+1) (by omega) (by omega)]
    have hm1:qym (m.1+1,((if 40<m.2.1+1 then 40 else m.2.1+1),())):=wZa ⟨by simp only;omega,by simp only;omega,by simp only;split <;> omega,by simp only;split <;> omega⟩
    refine Tot.b (qjo h hx hN) (fun s hs=>ud hs.1 (Tot.b (quh hs.2.1) (fun k _=>Tot.b (qui hf k) (fun q hq=>?_))))
    exact ub (by omega) (Tot.b (hput s.1 k hs.2.1 hs.2.2) (fun t ht=>uc ⟨rfl,hm1,hs.2.1,hs.2.2,ht.2⟩))
   ·refine Tot.b (qjo h hx hN) (fun s hs=>ud hs.1 (Tot.b (quh hs.2.1) (fun k _=>Tot.b (qui hf k) (fun q hq=>?_))))
    refine uf (by decide) (uh (fun hq0=>uh (fun hq1=>Tot.b (qkj hs.2.1 q.1) (fun n hn=>uh (fun hn3=>?_) (fun _=>?_))) (fun _=>?_)) (fun _=>?_))
    ·exact Tot.b (hput s.1 k hs.2.1 hs.2.2) (fun t ht=>uc ⟨rfl,wZa ⟨hq0,hq.2.2,by simp only;omega,hn.2⟩,hs.2.1,hs.2.2,ht.2⟩)
    all_goals exact Tot.b (hput s.1 k hs.2.1 hs.2.2) (fun t ht=>uc ⟨rfl,hnew,hs.2.1,hs.2.2,ht.2⟩)
  ·refine Tot.b (qjo h hx hN) (fun s hs=>ud hs.1 (Tot.b (quh hs.2.1) (fun k _=>Tot.b (qui hf k) (fun q hq=>?_))))
   refine uf (by decide) (uh (fun hq0=>uh (fun hq1=>Tot.b (qkj hs.2.1 q.1) (fun n hn=>uh (fun hn3=>?_) (fun _=>?_))) (fun _=>?_)) (fun _=>?_))
   ·exact Tot.b (hput s.1 k hs.2.1 hs.2.2) (fun t ht=>uc ⟨rfl,wZa ⟨hq0,hq.2.2,by simp only;omega,hn.2⟩,hs.2.1,hs.2.2,ht.2⟩)
   all_goals exact Tot.b (hput s.1 k hs.2.1 hs.2.2) (fun t ht=>uc ⟨rfl,hnew,hs.2.1,hs.2.2,ht.2⟩)
 ·refine Tot.b (qjo h hx hN) (fun s hs=>ud hs.1 (Tot.b (quh hs.2.1) (fun k _=>Tot.b (qui hf k) (fun q hq=>?_))))
  refine uf (by decide) (uh (fun hq0=>uh (fun hq1=>Tot.b (qkj hs.2.1 q.1) (fun n hn=>uh (fun hn3=>?_) (fun _=>?_))) (fun _=>?_)) (fun _=>?_))
  ·exact Tot.b (hput s.1 k hs.2.1 hs.2.2) (fun t ht=>uc ⟨rfl,wZa ⟨hq0,hq.2.2,by simp only;omega,hn.2⟩,hs.2.1,hs.2.2,ht.2⟩)
  all_goals exact Tot.b (hput s.1 k hs.2.1 hs.2.2) (fun t ht=>uc ⟨rfl,hnew,hs.2.1,hs.2.2,ht.2⟩)
def qSq (l:Int) (h:List qna):Prop:=h.length=6∧∀t∈h,qxm l t
def qtG (h:List qma):Prop:=h.length=6∧∀a∈h,qjC a
def WfSl (l:Int) (s:List Int):Prop:=∀x∈s,0≤x∧x<plT l
@[reducible] def qUK:Type:=(qta×(qJa×(qBa×(qKb×(qqa×((List Int)×((List Int)×Unit)))))))
def qaF (l:Int) (b:qUK):Prop:=qPp b.1∧qWz b.2.1∧qdo l b.2.2.1∧qym b.2.2.2.1∧qys b.2.2.2.2.1∧WfSl l b.2.2.2.2.2.2.1
def WfP (l N:Int) (p:qba):Prop:=
 p.1=l∧(qMd l p.2.1∧p.2.1.2.2.1≤N)∧qSq l p.2.2.1∧qtG p.2.2.2.1∧qaF l p.2.2.2.2∧qgf p.2.1=some (p.2.2.2.2.2.2.2.2.2.1,0)
theorem WfSl.at {l:Int} {s:List Int} (h:WfSl l s) (h2:0≤l∧l≤7) (i:Nat):0≤s.getD i 0∧s.getD i 0<plT l:=
 qyv (P:=fun x=>0≤x∧x<plT l) h ⟨by omega,by have:=qzu h2.1 h2.2;omega⟩ i
theorem WfSl.zero {l:Int} (h2:0≤l∧l≤7):WfSl l (wn 6 0):=fun x hx=>by
 rw [List.eq_of_mem_replicate hx];have:=qzu h2.1 h2.2;omega
def qdK (l:Int) (a:Int) (g:qoa) (b:qUK) (h2:List qma) (r:qba×List qna×List qma):Prop:=
 r.1.1=a∧r.1.2.1=g∧qSq l r.2.1∧r.2.2=h2∧r.1.2.2.2.2.1=b.1∧r.1.2.2.2.2.2.1=b.2.1∧r.1.2.2.2.2.2.2.1=b.2.2.1∧r.1.2.2.2.2.2.2.2.1=b.2.2.2.1∧r.1.2.2.2.2.2.2.2.2.1=b.2.2.2.2.1∧r.1.2.2.2.2.2.2.2.2.2.1=b.2.2.2.2.2.1∧WfSl l r.1.2.2.2.2.2.2.2.2.2.2.1
theorem qZH {l:Int} (v a:_) (g:qoa) (h2:List qma):∀i:Int,0≤i→∀(b:qUK) (h1:List qna),qSq l h1→WfSl l b.2.2.2.2.2.2.1→Tot (qhd v i a g b h1 h2) (qdK l a g b h2):=by
 intro i
 refine qyc (P:=fun i=>0≤i→∀(b:qUK) (h1:List qna),qSq l h1→WfSl l b.2.2.2.2.2.2.1→Tot (qhd v i a g b h1 h2) (qdK l a g b h2)) 6 ?_ ?_ i
 ·intro i hi h0 b h1 ht hs
  rw [qHh]
  exact ub (by omega) (uc ⟨rfl,rfl,ht,rfl,rfl,rfl,rfl,rfl,rfl,rfl,hs⟩)
 ·intro i hi ih h0 b h1 ht hs
  rw [qHh]
  simp only [wj]
  have hl:=ht.1
  rw [w64 (x:=i+1) (by omega) (by omega)]
  have hd:=qIa (P:=qxm l) (d:=qua qya) ht.2 (0+i.toNat) (by omega)
  refine uf (by omega) (ua h0 (ua (by omega) (ua h0 (ua (by omega) (Tot.b (qsA hd _) (fun r hr=>ua h0 (ua (by omega) (ua h0 (ua (by omega) ?_)))))))))
  exact Tot.mono (ih (by omega) _ _ ⟨by rw [wsa];exact ht.1,qEe ht.2 hr.1 _⟩ (qEe hs ⟨hr.2.1,hr.2.2.1⟩ _)) (fun q hq=>hq)
theorem qaI {l:Int} (v a:_) (g:qoa) (h2:List qma) (b:qUK) (h1:List qna) (ht:qSq l h1) (hs:WfSl l b.2.2.2.2.2.2.1):Tot (qJe v a g b h1 h2) (qdK l a g b h2):=by
 rw [qjq]
 exact qZH v a g h2 0 (by omega) b h1 ht hs
theorem qNB (l:List qma) (hl:l.length≤1048576) (h:∀a∈l,qjC a):qrb l=some false:=by
 have key:∀i:Int,0≤i→Tot (qPa l l.length i) fun r=>r=-1:=by
  intro i
  refine qyc (P:=fun i=>0≤i→Tot (qPa l l.length i) fun r=>r=-1) l.length ?_ ?_ i
  ·intro i hi h0
   rw [qWb]
   exact ub (by omega) (uc rfl)
  ·intro i hi ih h0
   rw [qWb]
   simp only [wj]
   rw [w64 (x:=i+1) (by omega) (by omega)]
   have hd:=qIa (P:=qjC) (d:=qua qxa) h i.toNat (by omega)
   refine uf (by omega) (ua h0 (ua (by omega) (ue (v:=false) ?_ (up (ih (by omega))))))
   rw [qiq]
   exact ug (ue (qRq hd) (ud rfl (uc (by rw [hd.1];rfl))))
 rw [qbe,qCe]
 exact ug (Tot.b (key 0 (by omega)) (fun r hr=>uc (by rw [hr];rfl)))
theorem qFF {l N:Int} {p:qba} (h:WfP l N p):∀i:Int,0≤i→Tot (qde p.2.2.1 p.2.2.1.length i p) fun r=>r=true:=by
 obtain ⟨h1,h2,h3,h4,h5,h6⟩:=h
 have hl:=h3.1
 intro i
 refine qyc (P:=fun i=>0≤i→Tot (qde p.2.2.1 p.2.2.1.length i p) fun r=>r=true) p.2.2.1.length ?_ ?_ i
 ·intro i hi h0
  rw [qXi]
  exact ub (by omega) (ue (qNB _ (by rw [h4.1];decide) h4.2) (uc rfl))
 ·intro i hi ih h0
  rw [qXi]
  simp only [wj]
  have hd:=qIa (P:=qxm l) (d:=qua qya) h3.2 i.toNat (by omega)
  have hs:=h5.2.2.2.2.2.at hd.2.1 i.toNat
  have hd2:=hd.2.2.1
  rw [w64 (x:=i+1) (by omega) (by omega)]
  exact uf (by omega) (ua h0 (ua (by omega) (ue (qPl hd) (ud rfl (ud (by rw [hd.1,h1]) (ua h0 (ua (by omega) (ub (by omega) (ua h0 (ua (by omega) (ub (by omega) (ih (by omega)))))))))))))
theorem qnL {l N:Int} {p:qba} (h:WfP l N p):qYl p=some true:=by
 have hc:=qFF h 0 (by omega)
 obtain ⟨h1,h2,h3,h4,h5,h6⟩:=h
 rw [qIs]
 simp only [wj]
 have hl:=h2.1.2.1
 have hl1:=h3.1
 have hl2:=h4.1
 exact ug (ub (by omega) (ub (by omega) (ud (by omega) (ud (by omega) (ue (qgd h2.1) (ud rfl (ud (by rw [h2.1.1,h1]) (ue (qRk h5.2.2.1) (ud rfl (ud (by rw [h5.2.2.1.1,h1]) hc))))))))))
theorem qIh {α:Type} {eq:α→α→Bool} (h:∀x,eq x x=true):∀l:List α,qdA eq l l=true
 |[]=>rfl
 |x::l=>by rw [qdA,h,qIh h l];rfl
theorem qZi {l N:Int} {p:qba} (h:WfP l N p):qpi p=some 0:=by
 rw [qJs]
 simp only [wj]
 have hp:=qnL h
 obtain ⟨h1,h2,h3,h4,h5,h6⟩:=h
 have hm:=h5.1.1
 refine ug (ue hp (uk (fun k=>absurd k (by decide)) (fun _=>ue (qpq h5.1) (ud rfl (ud (by omega) (ue (qvi h5.2.1) (ud rfl (ue (qem h5.2.2.2.1) (ud rfl (ue (quf h5.2.2.2.2.1) (ud rfl (ue h6 (uk (fun k=>?_) (fun _=>uc rfl))))))))))))))
 have:peq (.arr 6 (.int .u32)) p.2.2.2.2.2.2.2.2.2.1 p.2.2.2.2.2.2.2.2.2.1=true:=by
  rw [peq];exact qIh (fun x=>by rw [peq];exact decide_eq_true rfl) _
 exact absurd (this.symm.trans k) (by decide)
def qzs (s:qkc):Prop:=(1≤s.1∧s.1≤15)∧(s.2.1.length=6∧∀x∈s.2.1,0≤x∧x≤192)∧(s.2.2.1.length=8∧∀x∈s.2.2.1,-2047≤x∧x≤2047)∧(0≤s.2.2.2.1∧s.2.2.2.1≤4095)∧qkN s.2.2.2.2.2.1
theorem qlJ {l N:Int} {p:qba} (h:WfP l N p) (b9a:Int) (b9 b10:(Int×(Int×(qXb×Unit)))) {nd:Int} (hn:1≤nd∧nd≤15) (h11 h12:List Int):∀i:Int,0≤i→i≤6→∀(h13 h14:List Int),(h13.length=i.toNat∧∀x∈h13,0≤x∧x≤192)→(h14.length=i.toNat∧∀x∈h14,-2047≤x∧x≤2047)→
  Tot (qqd p.2.2.1 6 i p b9a b9 nd b10 h11 h12 h13 h14) qzs:=by
 obtain ⟨h1,h2,h3,h4,h5,h6⟩:=h
 have hl3:=h3.1
 have hl4:=h4.1
 have hw:=h5.2.2.2.2.1
 intro i
 refine qyc (P:=fun i=>0≤i→i≤6→∀(h13 h14:List Int),(h13.length=i.toNat∧∀x∈h13,0≤x∧x≤192)→(h14.length=i.toNat∧∀x∈h14,-2047≤x∧x≤2047)→Tot (qqd p.2.2.1 6 i p b9a b9 nd b10 h11 h12 h13 h14) qzs) 6 ?_ ?_ i
 ·intro i hi h0 h06 h13 h14 k13 k14
  rw [qbf]
  have e6:i.toNat=6:=by omega
  rw [e6] at k13 k14
  refine ub (by omega) (Tot.b (qvq h5.2.2.2.1 h2.1 hw) (fun m hm=>?_))
  have hL:(h14++[m.1,256]).length=8:=by rw [wl,k14.1];rfl
  have hA:∀x∈h14++[m.1,256],-2047≤x∧x≤2047:=by
   intro x hx
   rcases wR.1 hx with q|q
   ·exact k14.2 x q
   ·rcases wU.1 q with rfl|q
    ·exact hm
    ·rw [wT.1 q];omega
  refine ua (by rw [hL];decide) (Tot.b (qSu h5.1 (by have:=hw.1;omega) hw.2 hL hA) (fun x hx=>Tot.b (qLm h2.1) (fun y _=>Tot.b (qrs _ _ hw.1 hw.2) (fun z hz=>?_))))
  obtain ⟨c,hz1,hz2⟩:=hz
  rw [hz1]
  exact Tot.b (quB h5.2.1 ⟨by have:=hw.1;omega,hw.2⟩ hz2 ⟨hx.1,hx.2.1⟩ ⟨hx.2.2.1,hx.2.2.2⟩) (fun t ht=>uc ⟨hn,k13,⟨hL,hA⟩,⟨hx.2.2.1,hx.2.2.2⟩,ht⟩)
 ·intro i hi ih h0 h06 h13 h14 k13 k14
  rw [qbf]
  simp only [wj]
  have hd:=qIa (P:=qxm l) (d:=qua qya) h3.2 i.toNat (by omega)
  have ha:=qIa (P:=qjC) (d:=qua qxa) h4.2 i.toNat (by omega)
  have hs:=h5.2.2.2.2.2.at hd.2.1 i.toNat
  rw [w64 (x:=i+1) (by omega) (by omega)]
  refine uf (by omega) (ua h0 (ua (by omega) (ua h0 (ua (by omega) (Tot.b (qip hd hs.1 hs.2 hn.1 hn.2) (fun r hr=>ua h0 (ua (by omega) (Tot.b (qbC ha hr.2.1 hr.2.2) (fun q hq=>ua ?_ (ua (by decide) (Tot.b (qkA _) (fun s hs'=>ua ?_ ?_))))))))))))
  ·rw [wl,wv];omega
  ·rw [wl,wv];omega
  ·exact ih (by omega) (by omega) _ _ ⟨by rw [wl,wv];omega,qei k13.2 hr.2⟩ ⟨by rw [wl,wv];omega,qei k14.2 hs'⟩
theorem qpN {l N:Int} {p:qba} (h:WfP l N p):Tot (qbh p) qzs:=by
 rw [qKo]
 have e:wi p.2.2.1.length=6:=by rw [h.2.2.1.1];rfl
 rw [e]
 exact Tot.b (qmq h.2.2.2.2.1.2.2.2.2.1) (fun r hr=>qlJ h _ _ _ hr _ _ 0 (by omega) (by omega) [] [] ⟨rfl,fun x hx=>by cases hx⟩ ⟨rfl,fun x hx=>by cases hx⟩)
theorem qdz {l N:Int} {g:qoa} {b:qUK} {h2:List qma} {r:qba×List qna×List qma} (h:qdK l l g b h2 r) (hg:qMd l g∧g.2.2.1≤N) (ha:qtG h2)
  (hb:qPp b.1∧qWz b.2.1∧qdo l b.2.2.1∧qym b.2.2.2.1∧qys b.2.2.2.2.1) (hc:qgf g=some (b.2.2.2.2.2.1,0)):WfP l N (r.1.1,(r.1.2.1,(r.2.1,(r.2.2,r.1.2.2.2.2)))):=by
 obtain ⟨e1,e2,t,e4,e5,e6,e7,e8,e9,e10,s⟩:=h
 refine ⟨e1,?_,t,?_,⟨?_,?_,?_,?_,?_,s⟩,?_⟩
 ·simp only;rw [e2];exact hg
 ·simp only;rw [e4];exact ha
 ·simp only;rw [e5];exact hb.1
 ·simp only;rw [e6];exact hb.2.1
 ·simp only;rw [e7];exact hb.2.2.1
 ·simp only;rw [e8];exact hb.2.2.2.1
 ·simp only;rw [e9];exact hb.2.2.2.2
 ·simp only;rw [e2,e10];exact hc
def qPL (l N:Int) (r:qba×Int):Prop:=r.2=0∧WfP l N r.1
theorem qmC {l N:Int} (v:List Int) (g:qoa) (m:qta) (f:qJa) (b:(qBa×(qKb×(qqa×((List Int)×((List Int)×Unit)))))) (w:qqa)
  (b10a b10baa:Int) (b10babb:qqa) (u1 u2 u3 u4:Unit) (b10bbbbbbaa:Int) (u5:Unit) (b10bbbbbbb:(qKb×(qqa×((List Int)×((List Int)×Unit)))))
  (h12:List qna) (h13:List qma) (h14:List Int) (h15:List qna) (h16:List qma) (h17 h18 h19:List (List Int)) (h20:List Int)
  (hg:qMd l g∧g.2.2.1≤N) (ht:qSq l h12) (ha:qtG h13) (hr:qaF l (m,(f,b))) (hc:qgf g=some (b.2.2.2.1,0)):∀i:Int,0≤i→∀b11:List Int,
  Tot (qEd v i l g m f b b10a b10baa b10babb u1 u2 u3 u4 b10bbbbbbaa u5 b10bbbbbbb w b11 h12 h13 h14 h15 h16 h17 h18 h19 h20) (qPL l N):=by
 intro i
 refine qyc (P:=fun i=>0≤i→∀b11:List Int,Tot (qEd v i l g m f b b10a b10baa b10babb u1 u2 u3 u4 b10bbbbbbaa u5 b10bbbbbbb w b11 h12 h13 h14 h15 h16 h17 h18 h19 h20) (qPL l N)) 6 ?_ ?_ i
 ·intro i hi h0 b11
  rw [qji]
  refine ub (by omega) (Tot.b (qaI b11 l g h13 (m,(f,b)) h12 ht hr.2.2.2.2.2) (fun r hq=>uc ⟨rfl,qdz hq hg ha ⟨hr.1,hr.2.1,hr.2.2.1,hr.2.2.2.1,hr.2.2.2.2.1⟩ hc⟩))
 ·intro i hi ih h0 b11
  rw [qji,w64 (x:=i+1) (by omega) (by omega)]
  exact uf (by omega) (ua h0 (ua (by omega) (Tot.b (qxx _ _) (fun r _=>ua h0 (ua (by omega) (ih (by omega) _))))))
theorem qEt {l N:Int} (v2:Bool) {v8:Int} (h8:v8=0∨v8=1) (g:qoa) (b:qUK) (s:qkc)
  (b10a b10baa:Int) (b10babb:qqa) (u1 u2 u3 u4:Unit) (b10bbbbbbaa:Int) (u5:Unit) (b10bbbbbbb:(qKb×(qqa×((List Int)×((List Int)×Unit)))))
  (h13:List Int) (h14:List qna) (h15:List qma) (h16 h17 h18:List (List Int)) (h19:List Int)
  (hg:qMd l g∧g.2.2.1≤N) (hN:N<1073741824) (hb:qaF l b) (hc:qgf g=some (b.2.2.2.2.2.1,0)) (hs:qzs s):∀i:Int,0≤i→∀(h11:List qna) (h12:List qma),qSq l h11→qtG h12→
  Tot (qFc v2 v8 b.2.2.2.2.1.1 i l g b s b10a b10baa b10babb u1 u2 u3 u4 b10bbbbbbaa u5 b10bbbbbbb h11 h12 h13 h14 h15 h16 h17 h18 h19) (qPL l (N+1)):=by
 obtain ⟨s1,s2,s3,s4,s5⟩:=hs
 obtain ⟨b1,b2,b3,b4,b5,b6⟩:=hb
 intro i
 refine qyc (P:=fun i=>0≤i→∀(h11:List qna) (h12:List qma),qSq l h11→qtG h12→Tot (qFc v2 v8 b.2.2.2.2.1.1 i l g b s b10a b10baa b10babb u1 u2 u3 u4 b10bbbbbbaa u5 b10bbbbbbb h11 h12 h13 h14 h15 h16 h17 h18 h19) (qPL l (N+1))) 6 ?_ ?_ i
 ·intro i hi h0 h11 h12 t a
  rw [qki]
  have w0:=b5.1
  have w1:=b5.2
  refine ub (by omega) (Tot.b (qLy b1 (by omega) w1 s3.1 s3.2 s4.1 s4.2 v2) (fun r7 k7=>Tot.b (qgz b2 s5 v2) (fun r8 k8=>Tot.b (qGy b5 v2) (fun r9 k9=>um (fun _=>?_) (fun _=>?_)))))
  ·refine Tot.b (qaB b4 hg.1 b3 k9.2 (by omega)) (fun r10 k10=>ud k10.1 ?_)
   obtain ⟨z1,z2,z3,z4,z5⟩:=k10
   obtain ⟨q,e,hq⟩:=qvs z3
   refine ue e ?_
   refine Tot.b (qaI q.1 l r10.2.1 h12 (r7.1,(r8.1,(r10.2.2.1,(r10.1,(r9.1,(q.1,b.2.2.2.2.2.2)))))) h11 t b6) (fun r12 k12=>uc ⟨rfl,?_⟩)
   exact qdz k12 ⟨z3,by rw [z4];omega⟩ a ⟨k7.2,k8.2,z5,z2,k9.1⟩ (by rw [e];exact congrArg some (wmb rfl hq))
  ·refine uh (fun _=>?_) (fun _=>uh (fun _=>?_) (fun _=>?_))
   ·exact uc ⟨rfl,rfl,⟨hg.1,by simp only;omega⟩,t,a,⟨k7.2,k8.2,b3,b4,k9.1,b6⟩,hc⟩
   ·exact uc ⟨rfl,rfl,⟨hg.1,by simp only;omega⟩,t,a,⟨k7.2,k8.2,b3,b4,k9.1,b6⟩,hc⟩
   ·exact qmC _ g r7.1 r8.1 (b.2.2.1,(b.2.2.2.1,(r9.1,b.2.2.2.2.2))) r9.1 b10a b10baa b10babb u1 u2 u3 u4 b10bbbbbbaa u5 b10bbbbbbb h11 h12 h13 h14 h15 h16 h17 h18 h19 ⟨hg.1,by omega⟩ t a ⟨k7.2,k8.2,b3,b4,k9.1,b6⟩ hc 0 (by omega) _
 ·intro i hi ih h0 h11 h12 t a
  rw [qki]
  simp only [wj]
  have hl1:=t.1
  have hl2:=a.1
  have hl3:=s2.1
  have hd:=qIa (P:=qxm l) (d:=qua qya) t.2 (0+i.toNat) (by omega)
  have ha:=qIa (P:=qjC) (d:=qua qxa) a.2 (0+i.toNat) (by omega)
  have hst:=qIa (P:=fun x=>0≤x∧x≤192) (d:=0) s2.2 i.toNat (by omega)
  have hsl:=b6.at hd.2.1 i.toNat
  rw [w64 (x:=i+1) (by omega) (by omega)]
  refine uf (by omega) (ua h0 (ua (by omega) (ua h0 (ua (by omega) (Tot.b (qEx ha hst.1 hst.2 h8) (fun r5 k5=>ua h0 (ua (by omega) (ua h0 (ua (by omega) (ua h0 (ua (by omega) (Tot.b (qvC hd hsl.1 hsl.2 s1.1 s1.2 h8) (fun r6 k6=>ua h0 (ua (by omega) ?_))))))))))))))
  exact ih (by omega) _ _ ⟨by rw [wsa];exact hl1,qEe t.2 k6.2 _⟩ ⟨by rw [wsa];exact hl2,qEe a.2 k5.2 _⟩
theorem qhy {l N:Int} {p:qba} (h:WfP l N p) (hN:N<1073741824) {s:qkc} (hs:qzs s) (b:Bool):Tot (qrh p s b) (qPL l (N+1)):=by
 obtain ⟨h1,h2,h3,h4,h5,h6⟩:=h
 rw [qlr,h1]
 have k1:=qgi p.2.2.1 (by rw [h3.1];decide)
 have k2:=qhi p.2.2.2.1 (by rw [h4.1];decide)
 refine um (fun _=>ue k1 (ue k2 ?_)) (fun _=>ue k1 (ue k2 ?_))
 ·exact qEt b (wZa rfl) p.2.1 p.2.2.2.2 s _ _ _ _ _ _ _ _ _ _ _ _ _ _ _ _ _ h2 hN h5 h6 hs 0 (by omega) _ _ h3 h4
 ·exact qEt b (Or.inl rfl) p.2.1 p.2.2.2.2 s _ _ _ _ _ _ _ _ _ _ _ _ _ _ _ _ _ h2 hN h5 h6 hs 0 (by omega) _ _ h3 h4
theorem qTG (l:List (List Int)) (hl:l.length≤1048576) (hr:∀r∈l,r.length≤1048576):qGh l=some l:=by
 have key:∀i:Int,0≤i→i≤l.length→Tot (qIe l l.length i (l.take i.toNat)) fun r=>r=l:=by
  intro i
  refine qyc (P:=fun i=>0≤i→i≤l.length→Tot (qIe l l.length i (l.take i.toNat)) fun r=>r=l) l.length ?_ ?_ i
  ·intro i hi h0 h1
   rw [qVj]
   exact ub (by omega) (uc (wL (by omega)))
  ·intro i hi ih h0 h1
   rw [qVj]
   simp only [wj]
   have hd:=qIa (P:=fun r:List Int=>r.length≤1048576) (d:=[]) hr i.toNat (by omega)
   rw [w64 (x:=i+1) (by omega) (by omega)]
   refine uf (by omega) (ua h0 (ua (by omega) (ue (qSa _ hd) (ua (by rw [wl,wv,wS];omega) ?_))))
   have e:l.take i.toNat++[l.getD i.toNat []]=l.take (i+1).toNat:=by
    have e2:(i+1).toNat=i.toNat+1:=by omega
    rw [e2,List.take_succ_eq_append_getElem (by omega),wt,wx (by omega)]
    rfl
   rw [e]
   exact ih (by omega) (by omega)
 rw [qxu]
 exact ug (key 0 (by omega) (by omega))
theorem qGG {l:Int} (t:List qna) (a:List qma) (ht:qSq l t) (ha:qtG a) (b8a b8baa:Int) (b8babb:qqa) (m:qta) (f:qJa) (hm:qPp m) (hf:qWz f) (b8bbbbbbaa:Int) (u:Unit) (b8bbbbbbb:(qKb×(qqa×((List Int)×((List Int)×Unit)))))
  (b10a b10baa:Int) (b10babb:qqa) (u1 u2 u3 u4:Unit) (b10bbbbbbaa:Int) (u5:Unit) (b10bbbbbbb:(qKb×(qqa×((List Int)×((List Int)×Unit)))))
  (h10 h13 h14:List Int) (h15:List qna) (h16:List qma) (h17 h18 h19:List (List Int)) (h20:List Int):∀i:Int,0≤i→
  Tot (qHe 6 i b8a b8baa b8babb m f b8bbbbbbaa u b8bbbbbbb b10a b10baa b10babb u1 u2 u3 u4 b10bbbbbbaa u5 b10bbbbbbb h10 t a h13 h14 h15 h16 h17 h18 h19 h20) fun r=>r=(b8a,((b8baa,(h10,b8babb)),(t,(a,(m,(f,((b8bbbbbbaa,(h13,u)),b8bbbbbbb))))))):=by
 intro i
 refine qyc (P:=fun i=>0≤i→Tot (qHe 6 i b8a b8baa b8babb m f b8bbbbbbaa u b8bbbbbbb b10a b10baa b10babb u1 u2 u3 u4 b10bbbbbbaa u5 b10bbbbbbb h10 t a h13 h14 h15 h16 h17 h18 h19 h20) fun r=>r=(b8a,((b8baa,(h10,b8babb)),(t,(a,(m,(f,((b8bbbbbbaa,(h13,u)),b8bbbbbbb)))))))) 6 ?_ ?_ i
 ·intro i hi h0
  rw [qUj]
  refine ub (by omega) (ue (qTG _ (by rw [hm.1];decide) (fun r hr=>by rw [hm.2 r hr];decide)) (ue (qTG _ (by rw [hf.1.1];decide) (fun r hr=>by rw [(hf.1.2 r hr).1];decide)) (ue (qTG _ (by rw [hf.2.1];decide) (fun r hr=>by rw [(hf.2.2 r hr).1];decide)) (uc rfl))))
 ·intro i hi ih h0
  rw [qUj]
  simp only [wj]
  have hl1:=ht.1
  have hl2:=ha.1
  have hd:=qIa (P:=qxm l) (d:=qua qya) ht.2 (0+i.toNat) (by omega)
  have hq:=qIa (P:=qjC) (d:=qua qxa) ha.2 (0+i.toNat) (by omega)
  have hp:=qzu hd.2.1.1 hd.2.1.2
  have hd2:=hd.2.2.1
  rw [w64 (x:=i+1) (by omega) (by omega)]
  refine uf (by omega) (ua h0 (ua (by omega) (ue (qIf _ (by omega)) (ua h0 (ua (by omega) (ua h0 (ua (by omega) (ue (qSa _ (by rw [hq.2.1.1];decide)) (ua h0 (ua (by omega) (ue (qSa _ (by rw [hq.2.2.1];decide)) (ua h0 (ua (by omega) (ua h0 (ua (by omega) ?_)))))))))))))))
  have s1:=qaE t (0+i.toNat) (qua qya)
  have s2:=qaE a (0+i.toNat) (qua qxa)
  have s1':t.set (0+i.toNat) ((t.getD (0+i.toNat) (qua qya)).1,((t.getD (0+i.toNat) (qua qya)).2.1,(t.getD (0+i.toNat) (qua qya)).2.2))=t:=s1
  have s2':a.set (0+i.toNat) ((a.getD (0+i.toNat) (qua qxa)).1,((a.getD (0+i.toNat) (qua qxa)).2.1,(a.getD (0+i.toNat) (qua qxa)).2.2))=a:=s2
  have s3':a.set (0+i.toNat) ((a.getD (0+i.toNat) (qua qxa)).1,((a.getD (0+i.toNat) (qua qxa)).2.1,((a.getD (0+i.toNat) (qua qxa)).2.2.1,(a.getD (0+i.toNat) (qua qxa)).2.2.2)))=a:=s2
  rw [s1',s2',s3']
  exact ih (by omega)
theorem qhK {l N:Int} {p:qba} (h:WfP l N p):qmn p=some p:=by
 obtain ⟨h1,h2,h3,h4,h5,h6⟩:=h
 have hp:=qks h2.1.2.1.1 h2.1.2.1.2
 have e1:=h2.1.2.2.1
 have e2:=h5.2.2.1.2.2.1
 rw [qwu]
 refine ug (ue (qZa _ (by omega)) (ue (qUg _ (by omega)) (ue (qgi _ (by rw [h3.1];decide)) (ue (qhi _ (by rw [h4.1];decide)) ?_))))
 have e:wi p.2.2.1.length=6:=by rw [h3.1];rfl
 rw [e]
 exact Tot.mono (qGG p.2.2.1 p.2.2.2.1 h3 h4 _ _ _ _ _ h5.1 h5.2.1 _ _ _ _ _ _ _ _ _ _ _ _ _ _ _ _ _ _ _ _ _ _ 0 (by omega)) (fun r hr=>hr)
def qPN (l N:Int) (n:Nat) (r:qba×List Int×Int):Prop:=r.2.2=0∧WfP l N r.1∧r.2.1.length=n
theorem qXJ {l N:Int} (v:List Bool) (hv:v.length≤2000) (hN:N+v.length<1073741824) (b9a b9baa:Int) (b9babb:qqa) (u1 u2 u3 u4:Unit) (b9bbbbbbaa:Int) (u5:Unit) (b9bbbbbbb:(qKb×(qqa×((List Int)×((List Int)×Unit)))))
  (h11:List Int) (h12:List qna) (h13:List qma) (h14 h15 h16:List (List Int)) (h17:List Int):∀i:Int,0≤i→i≤v.length→∀(p:qba) (h10:List Int),WfP l (N+i) p→h10.length=i.toNat→
  Tot (qrd v v.length i p b9a b9baa b9babb u1 u2 u3 u4 b9bbbbbbaa u5 b9bbbbbbb h10 h11 h12 h13 h14 h15 h16 h17) (qPN l (N+v.length) v.length):=by
 intro i
 refine qyc (P:=fun i=>0≤i→i≤v.length→∀(p:qba) (h10:List Int),WfP l (N+i) p→h10.length=i.toNat→Tot (qrd v v.length i p b9a b9baa b9babb u1 u2 u3 u4 b9bbbbbbaa u5 b9bbbbbbb h10 h11 h12 h13 h14 h15 h16 h17) (qPN l (N+v.length) v.length)) v.length ?_ ?_ i
 ·intro i hi h0 h1 p h10 hp hh
  rw [qcf]
  have e:i=(v.length:Int):=by omega
  rw [e] at hp
  exact ub (by omega) (uc ⟨rfl,hp,by simp only;omega⟩)
 ·intro i hi ih h0 h1 p h10 hp hh
  rw [qcf]
  simp only [wj]
  rw [w64 (x:=i+1) (by omega) (by omega)]
  refine uf (by omega) (ua h0 (ua (by omega) (Tot.b (qpN hp) (fun s hs=>Tot.b (qhy hp (by omega) hs _) (fun r hr=>ud hr.1 (ua (by rw [wl,wv];omega) ?_))))))
  exact ih (by omega) (by omega) r.1 _ (by have:=hr.2;rw [Int.add_assoc] at this;exact this) (by rw [wl,wv];omega)
theorem qON {l N:Int} {p:qba} (h:WfP l N p) (v:List Bool) (hv:v.length≤2000) (hN:N+v.length<1073741824):Tot (qYi p v) (qPN l (N+v.length) v.length):=by
 rw [qLo]
 simp only [wj]
 refine ue (qZi h) (ud rfl (ub (by omega) (ue (qhK h) ?_)))
 exact qXJ v hv hN _ _ _ _ _ _ _ _ _ _ _ _ _ _ _ _ _ 0 (by omega) (by omega) p [] (by rw [Int.add_zero];exact h) rfl
theorem qVK:∀n∈([8,64,128,193,256,512,1024,2048,4096,8192]:List Int),qri (wd .u64 1) (wd .u64 n)=some (0,n):=by
 intro n hn
 simp only [wU,wlb,or_false] at hn
 rw [qTs,qtq,qha (by decide),qha (by decide),qha (by decide),qha (by decide),qha (by decide),wy]
 rcases hn with rfl|rfl|rfl|rfl|rfl|rfl|rfl|rfl|rfl|rfl <;> exact congrArg some (by kernel_rfl)
theorem qIt {α:Type} (l:List α) (v c:Nat) (hv:v+c≤l.length) (hc:c≤v):(qwb l v (wM c (wM v l))).take (v+c)=l.take v++l.take c∧(qwb l v (wM c (wM v l))).length=l.length:=by
 have e:wM c (wM v l)=l.take c:=by rw [List.take_take,Nat.min_eq_left hc]
 rw [e]
 unfold qwb
 have h1:(l.take v++l.take c).length=v+c:=by rw [wl,wS,wS];omega
 constructor
 ·rw [List.take_append_of_le_length (by omega),wL (by omega)]
 ·rw [wl,h1,wga,wS];omega
theorem qCA (x:Int) (n:Nat) (hn:n≤1048576):∀(m:Nat) (v:Nat) (h:List Int),n - v≤m→1≤v→v≤n→h.length=n→(∀y∈h.take v,y=x)→Tot (qrc v h) fun r=>r.length=n∧∀y∈r,y=x:=by
 intro m
 induction m with
 |zero=>
  intro v h hm h1 h2 hl ha
  rw [qAe]
  simp only [wj]
  refine ub (by omega) (uc ⟨hl,?_⟩)
  rw [wL (by omega)] at ha
  exact ha
 |succ m ih=>
  intro v h hm h1 h2 hl ha
  rw [qAe]
  simp only [wj]
  refine uh (fun hlt=>?_) (fun hge=>uc ⟨hl,?_⟩)
  ·have e1:(v:Int).toNat=v:=wA v
   rw [e1,wYa,wla,wO]
   have e2:min (wM v h).length (h.length - v)=min v (n - v):=by rw [wS];omega
   rw [e2]
   have e3:=qIt h v (min v (n - v)) (by omega) (by omega)
   rw [w64 (by omega) (by omega)]
   have e4:(v:Int)+((min v (n - v):Nat):Int)=((v+min v (n - v):Nat):Int):=by omega
   rw [e4]
   refine ua (by omega) (ua (by omega) (ua (by omega) (ua (by omega) (ih _ _ (by omega) (by omega) (by omega) (by rw [e3.2,hl]) ?_))))
   rw [e3.1]
   intro y hy
   rcases wR.1 hy with q|q
   ·exact ha y q
   ·refine ha y ?_
    have:h.take (min v (n - v))=(h.take v).take (min v (n - v)):=by rw [List.take_take,Nat.min_eq_left (Nat.min_le_left _ _)]
    rw [this] at q
    exact List.mem_of_mem_take q
  ·rw [wL (by omega)] at ha
   exact ha
theorem qDA (x:Int) (n:Nat) (hn:n≤1048576):∀(m:Nat) (v:Nat) (h:List Int),n - v≤m→1≤v→v≤n→h.length=n→(∀y∈h.take v,y=x)→Tot (qQb v h) fun r=>r.length=n∧∀y∈r,y=x:=by
 intro m
 induction m with
 |zero=>
  intro v h hm h1 h2 hl ha
  rw [qBd]
  simp only [wj]
  refine ub (by omega) (uc ⟨hl,?_⟩)
  rw [wL (by omega)] at ha
  exact ha
 |succ m ih=>
  intro v h hm h1 h2 hl ha
  rw [qBd]
  simp only [wj]
  refine uh (fun hlt=>?_) (fun hge=>uc ⟨hl,?_⟩)
  ·have e1:(v:Int).toNat=v:=wA v
   rw [e1,wYa,wla,wO]
   have e2:min (wM v h).length (h.length - v)=min v (n - v):=by rw [wS];omega
   rw [e2]
   have e3:=qIt h v (min v (n - v)) (by omega) (by omega)
   rw [w64 (by omega) (by omega)]
   have e4:(v:Int)+((min v (n - v):Nat):Int)=((v+min v (n - v):Nat):Int):=by omega
   rw [e4]
   refine ua (by omega) (ua (by omega) (ua (by omega) (ua (by omega) (ih _ _ (by omega) (by omega) (by omega) (by rw [e3.2,hl]) ?_))))
   rw [e3.1]
   intro y hy
   rcases wR.1 hy with q|q
   ·exact ha y q
   ·refine ha y ?_
    have:h.take (min v (n - v))=(h.take v).take (min v (n - v)):=by rw [List.take_take,Nat.min_eq_left (Nat.min_le_left _ _)]
    rw [this] at q
    exact List.mem_of_mem_take q
  ·rw [wL (by omega)] at ha
   exact ha
theorem qFA (x:Int) {n:Nat} (hn:1≤n):(qwb (wn n 0) 0 (wM (min [x].length (wn n (0:Int)).length) [x])).length=n∧∀y∈(qwb (wn n 0) 0 (wM (min [x].length (wn n (0:Int)).length) [x])).take 1,y=x:=by
 have e:min [x].length (wn n (0:Int)).length=1:=by rw [wX];show min 1 n=1;omega
 rw [e]
 have e3:wM 1 [x]=[x]:=rfl
 rw [e3]
 constructor
 ·unfold qwb
  simp
  omega
 ·unfold qwb
  simp
theorem qWG (x:Int) (n:Nat) (hn:(n:Int)∈([8,64,128,193,256,512,1024,2048,4096,8192]:List Int)):Tot (qBe [x] n) fun r=>r.length=n∧∀y∈r,y=x:=by
 have hm:=qVK n hn
 have hb:8≤n∧n≤8192:=by
  simp only [wU,wlb,or_false] at hn
  omega
 rw [qil]
 have e1:(wi [x].length)=1:=rfl
 rw [e1]
 refine ub (by omega) (ue hm (ub (by simp only;omega) (ub (by simp only;omega) ?_)))
 simp only
 rw [w64 (x:=(n:Int)) (by omega) (by omega),wA]
 have hr:=qFA x (n:=n) (by omega)
 refine ua trivial (ua (by omega) (ua (by omega) (ua (by omega) ?_)))
 have e:wi (min [x].length (wn n (0:Int)).length)=((1:Nat):Int):=by rw [wX];show ((min 1 n:Nat):Int)=1;omega
 rw [e]
 exact qCA x n (by omega) _ 1 _ (ws _) (by omega) (by omega) hr.1 hr.2
theorem qEA (x:Int) (n:Nat) (hn:(n:Int)∈([8,64,128,193,256,512,1024,2048,4096,8192]:List Int)):Tot (qhc [x] n) fun r=>r.length=n∧∀y∈r,y=x:=by
 have hm:=qVK n hn
 have hb:8≤n∧n≤8192:=by
  simp only [wU,wlb,or_false] at hn
  omega
 rw [qni]
 have e1:(wi [x].length)=1:=rfl
 rw [e1]
 refine ub (by omega) (ue hm (ub (by simp only;omega) (ub (by simp only;omega) ?_)))
 simp only
 rw [w64 (x:=(n:Int)) (by omega) (by omega),wA]
 have hr:=qFA x (n:=n) (by omega)
 refine ua trivial (ua (by omega) (ua (by omega) (ua (by omega) ?_)))
 have e:wi (min [x].length (wn n (0:Int)).length)=((1:Nat):Int):=by rw [wX];show ((min 1 n:Nat):Int)=1;omega
 rw [e]
 exact qDA x n (by omega) _ 1 _ (ws _) (by omega) (by omega) hr.1 hr.2
theorem qlL {l:Int} (h0:0≤l) (h1:l≤7):∃n:Nat,plR l=n∧(n:Int)∈([8,64,128,193,256,512,1024,2048,4096,8192]:List Int):=by
 rcases qcM h0 h1 with rfl|rfl|rfl|rfl|rfl|rfl|rfl|rfl
 ·exact ⟨64,by decide⟩
 ·exact ⟨128,by decide⟩
 ·exact ⟨256,by decide⟩
 ·exact ⟨512,by decide⟩
 ·exact ⟨1024,by decide⟩
 ·exact ⟨2048,by decide⟩
 ·exact ⟨4096,by decide⟩
 ·exact ⟨8192,by decide⟩
theorem qPx {l:Int} (h0:0≤l) (h1:l≤7):Tot (quy l) fun r=>r.2=0∧qMd l r.1∧r.1.2.2.1=0:=by
 have hp:=qks h0 h1
 rw [qiu]
 refine ub (by omega) (ub (by omega) (ue (qdq h0 h1) (ua rfl (ua (by omega) (ua (by omega) (ua (by omega) (uc ⟨rfl,⟨rfl,⟨h0,h1⟩,?_,?_,wza 0,by show (0:Int)≤1073741824;decide,?_⟩,rfl⟩)))))))
 ·simp only [wX];omega
 ·intro x hx;rw [List.eq_of_mem_replicate hx];omega
 ·intro x hx;exact List.eq_of_mem_replicate (List.mem_of_mem_drop hx)
theorem qps {l:Int} (h0:0≤l) (h1:l≤7):Tot (qBr l) fun r=>qdo l r.1:=by
 obtain ⟨n,hn,hm⟩:=qlL h0 h1
 rw [qcz]
 refine ub (by omega) (ub (by omega) (ue (qDn h0 h1) ?_))
 rw [hn]
 exact Tot.b (qWG (-1) n hm) (fun r hr=>uc ⟨rfl,⟨h0,h1⟩,by simp only;rw [hr.1,hn],fun x hx=>by rw [hr.2 x hx];omega⟩)
theorem quC {l:Int} (h0:0≤l) (h1:l≤7):Tot (qVt l) fun r=>qxm l r.1:=by
 have hp:=qzu h0 h1
 rw [qqA]
 refine ub (by omega) (ub (by omega) (ue (qbs h0 h1) (ua rfl (ua (by omega) (ua (by omega) (ua (by omega) (uc ⟨rfl,⟨h0,h1⟩,?_,?_⟩)))))))
 ·simp only [wX];omega
 ·intro s hs;rw [List.eq_of_mem_replicate hs];exact WfSlot.zero 0
theorem qLD:Tot (qow 255) fun r=>qjC r.1:=by
 rw [qcC,w32 (x:=255) (by decide) (by decide)]
 refine ub (by decide) (ub (by decide) (Tot.b (qEA 32768 193 (by decide)) (fun r hr=>ua rfl (ua (by decide) (ua (by decide) (ua (by decide) (uc ⟨rfl,⟨hr.1,?_⟩,wX,?_⟩)))))))
 ·intro x hx;rw [hr.2 x hx];omega
 ·intro x hx;rw [List.eq_of_mem_replicate hx];omega
theorem qnu (u u':Unit) (h9:List Int) (hr:qkt h9) (h11:List (List Int)):∀i:Int,0≤i→i≤256→∀h12:List (List Int),h12.length=i.toNat→(∀r∈h12,qkt r)→Tot (qqg 256 i u h9 u' h11 h12) fun r=>qTq r.1:=by
 intro i
 refine qyc (P:=fun i=>0≤i→i≤256→∀h12:List (List Int),h12.length=i.toNat→(∀r∈h12,qkt r)→Tot (qqg 256 i u h9 u' h11 h12) fun r=>qTq r.1) 256 ?_ ?_ i
 ·intro i hi h0 h1 h12 hl ha
  rw [qBm]
  exact ub (by omega) (uc ⟨by simp only;omega,ha⟩)
 ·intro i hi ih h0 h1 h12 hl ha
  rw [qBm,w64 (x:=i+1) (by omega) (by omega)]
  exact uf (by omega) (ue (qSa _ (by rw [hr.1];decide)) (ua (by rw [wl,wv];omega) (ih (by omega) (by omega) _ (by rw [wl,wv];omega) (qei ha hr))))
theorem qou (u:Unit) (h10:List (List Int)):∀i:Int,0≤i→i≤33→∀h9:List Int,h9.length=i.toNat→(∀x∈h9,0≤x∧x≤65535)→Tot (qrg 256 i u h9 h10) fun r=>qTq r.1:=by
 intro i
 refine qyc (P:=fun i=>0≤i→i≤33→∀h9:List Int,h9.length=i.toNat→(∀x∈h9,0≤x∧x≤65535)→Tot (qrg 256 i u h9 h10) fun r=>qTq r.1) 33 ?_ ?_ i
 ·intro i hi h0 h1 h9 hl ha
  rw [qCm]
  exact ub (by omega) (qnu u () h9 ⟨by omega,ha⟩ h10 0 (by omega) (by omega) [] rfl (fun r hr=>by cases hr))
 ·intro i hi ih h0 h1 h9 hl ha
  rw [qCm,w32 (x:=i+1) (by omega) (by omega)]
  refine uf (by omega) (Tot.b (qoy _) (fun r hr=>ua (by rw [wl,wv];omega) ?_))
  rw [w32 (x:=16*r) (by omega) (by omega)]
  exact ih (by omega) (by omega) _ (by rw [wl,wv];omega) (qei ha ⟨by omega,by omega⟩)
theorem qjs:Tot (qhr 256) fun r=>qTq r.1:=by
 rw [qwy]
 exact ub (by decide) (ub (by decide) (qou () [] 0 (by decide) (by decide) [] rfl (fun x hx=>by cases hx)))
theorem qHv:Tot qIv qWz:=by
 rw [qsB]
 exact Tot.b qjs (fun r hr=>Tot.b qjs (fun q hq=>uc ⟨hr,hq⟩))
theorem qRw (u u':Unit) (h10:List (List Int)):∀i:Int,0≤i→i≤256→∀h11:List (List Int),h11.length=i.toNat→(∀r∈h11,r.length=8)→Tot (qKh 16384 256 i u u' h10 h11) fun r=>qPp r.1:=by
 intro i
 refine qyc (P:=fun i=>0≤i→i≤256→∀h11:List (List Int),h11.length=i.toNat→(∀r∈h11,r.length=8)→Tot (qKh 16384 256 i u u' h10 h11) fun r=>qPp r.1) 256 ?_ ?_ i
 ·intro i hi h0 h1 h11 hl ha
  rw [qpn]
  exact ub (by omega) (uc ⟨by simp only;omega,ha⟩)
 ·intro i hi ih h0 h1 h11 hl ha
  rw [qpn,w64 (x:=i+1) (by omega) (by omega),qvp]
  refine uf (by omega) (Tot.b (Tot.b (qEA 16384 8 (by decide)) (fun r hr=>uc hr)) (fun r hr=>ua (by rw [wl,wv];omega) (ih (by omega) (by omega) _ (by rw [wl,wv];omega) (qei ha hr.1))))
theorem qQu:Tot (qRu 256 16384) fun r=>qPp r.1:=by
 rw [qWA]
 exact ub (by decide) (ub (by decide) (qRw () () [] 0 (by decide) (by decide) [] rfl (fun x hx=>by cases hx)))
theorem qdF {l:Int} (hl0:0≤l) (hl1:l≤7) (b8a b8baa:Int) (b8babb:qqa) (u1 u2 u3 u4:Unit) (b8bbbbbbaa:Int) (u5:Unit) (b8bbbbbbb:(qKb×(qqa×((List Int)×((List Int)×Unit)))))
  (g:qoa) (b:qUK) (hg:qMd l g∧g.2.2.1=0) (hb:qaF l b) (h11:List Int) (h12:List qna) (h13:List qma) (h14 h15 h16:List (List Int)) (h17:List Int):∀i:Int,0≤i→i≤6→∀(h18:List qna) (h19:List qma),(h18.length=i.toNat∧∀t∈h18,qxm l t)→(h19.length=i.toNat∧∀t∈h19,qjC t)→
  Tot (qtf l i b8a b8baa b8babb u1 u2 u3 u4 b8bbbbbbaa u5 b8bbbbbbb g l g b h11 h12 h13 h14 h15 h16 h17 h18 h19) (qPL l 0):=by
 intro i
 refine qyc (P:=fun i=>0≤i→i≤6→∀(h18:List qna) (h19:List qma),(h18.length=i.toNat∧∀t∈h18,qxm l t)→(h19.length=i.toNat∧∀t∈h19,qjC t)→Tot (qtf l i b8a b8baa b8babb u1 u2 u3 u4 b8bbbbbbaa u5 b8bbbbbbb g l g b h11 h12 h13 h14 h15 h16 h17 h18 h19) (qPL l 0)) 6 ?_ ?_ i
 ·intro i hi h0 h1 h18 h19 t a
  rw [qll]
  have e6:i.toNat=6:=by omega
  rw [e6] at t a
  obtain ⟨q,e,hq⟩:=qvs hg.1
  refine ub (by omega) (ue e ?_)
  refine Tot.b (qaI q.1 l g h19 (b.1,(b.2.1,(b.2.2.1,(b.2.2.2.1,(b.2.2.2.2.1,(q.1,b.2.2.2.2.2.2)))))) h18 t hb.2.2.2.2.2) (fun r12 k12=>uc ⟨rfl,?_⟩)
  exact qdz k12 ⟨hg.1,by rw [hg.2];decide⟩ a ⟨hb.1,hb.2.1,hb.2.2.1,hb.2.2.2.1,hb.2.2.2.2.1⟩ (by rw [e];exact congrArg some (wmb rfl hq))
 ·intro i hi ih h0 h1 h18 h19 t a
  rw [qll,w64 (x:=i+1) (by omega) (by omega)]
  refine uf (by omega) (Tot.b (quC hl0 hl1) (fun r7 k7=>Tot.b qLD (fun r8 k8=>ua ?_ (ua ?_ ?_))))
  ·rw [wl,wv];omega
  ·rw [wl,wv];omega
  ·exact ih (by omega) (by omega) _ _ ⟨by rw [wl,wv];omega,qei t.2 k7⟩ ⟨by rw [wl,wv];omega,qei a.2 k8⟩
theorem qcN (l:Int):Tot (qch l) fun r=>r.2=0→WfP l 0 r.1:=by
 rw [qMo]
 by_cases hl:0≤l∧l≤7
 ·obtain ⟨hl0,hl1⟩:=hl
  refine Tot.b (qPx hl0 hl1) (fun r1 k1=>ud k1.1 (Tot.b qHv (fun r2 k2=>ue qjk (ue qam (Tot.b (qps hl0 hl1) (fun r5 k5=>Tot.b qQu (fun r6 k6=>?_)))))))
  refine Tot.mono (qdF hl0 hl1 _ _ _ _ _ _ _ _ _ _ r1.1 (r6.1,(r2,(r5.1,((-1,(0,())),((1,()),((wn 6 0),((wn 6 0),()))))))) k1.2 ⟨k6,k2,k5,Or.inl ⟨rfl,rfl⟩,⟨wza 1,by show (1:Int)≤255;decide⟩,WfSl.zero ⟨hl0,hl1⟩⟩ _ _ _ _ _ _ _ 0 (by omega) (by omega) [] [] ⟨rfl,fun x hx=>by cases hx⟩ ⟨rfl,fun x hx=>by cases hx⟩) (fun r hr _=>hr.2)
 ·refine Tot.b (P:=fun r=>r.2≠0) ?_ (fun r hr=>uz hr (uc (fun h=>absurd h (by decide))))
  rw [qiu]
  by_cases h0:l<0
  ·exact uf h0 (uc (by decide))
  ·exact ub h0 (uf (by omega) (uc (by decide)))
def WfEnc (e:qka):Prop:=(0≤e.1∧e.1<4294967296)∧(0≤e.2.1∧e.2.1<4294967296)∧Bts e.2.2.1
theorem qsH {y:Int} (h0:0≤y) (h1:y<4294967296) (hm:y%256=0):qgc .u32 y 255=y+255:=by
 have e:qgc .u32 y 255=((wC 32 y ||| wC 32 255).toNat:Int):=by
  show wd .u32 ((wC 32 y ||| wC 32 255).toNat:Int)=_
  rw [qAs]
  have:=(wC 32 y ||| wC 32 255).isLt
  omega
 rw [e,BitVec.toNat_or,qsd 32 y h0 (by omega),qsd 32 255 (by omega) (by omega)]
 have h2:y.toNat=2 ^ 8*(y.toNat/256):=by omega
 have h3:(255:Int).toNat=255:=rfl
 rw [h3,h2,←Nat.two_pow_add_eq_or_of_lt (by decide:255<2 ^ 8)]
 omega
theorem qFn (e:qka):Tot (qff e) fun r=>r=0→(e.2.2.1.length:Int)≤20000:=by
 rw [qbi]
 simp only [wj]
 exact uh (fun _=>uc (fun k=>absurd k (by decide))) (fun _=>ua (by decide) (ua (by decide) (ul (fun _=>uc (fun k=>absurd k (by decide))) (fun _=>uh (fun _=>uc (fun k=>absurd k (by decide))) (fun k=>uc (fun _=>by omega))))))
theorem qlx (a:Int):Tot (qSf a) fun _=>True:=by
 rw [qmj]
 exact uh (fun _=>uc trivial) (fun _=>uc trivial)
theorem qLv (a b c:Int):Tot (qDg a b c) fun r=>0≤r∧r<4294967296:=by
 rw [qIm]
 exact ua (by decide) (ua (by decide) (uc (qgK _)))
theorem qlE (u:Unit):∀(k m:Nat),k+m=4→∀(a b:Int) (h:List Int),0≤a→a<4294967296→0≤b→b<4294967296→a%256 ^ k=0→b%256 ^ k=256 ^ k - 1→h.length≤20001+k→Bts h→
  Tot (qGc a b u h) WfEnc:=by
 intro k m
 induction m generalizing k with
 |zero=>
  intro hk a b h a0 a1 b0 b1 ha hb hl hB
  have e:k=4:=by omega
  subst e
  have e4:(256:Int) ^ 4=4294967296:=by decide
  rw [e4] at ha hb
  have ea:a=0:=by omega
  have eb:b=4294967295:=by omega
  subst ea eb
  rw [qBc]
  exact ua (by decide) (ua (by decide) (ut (by decide) (uc ⟨⟨by simp only;omega,by simp only;omega⟩,⟨by simp only;omega,by simp only;omega⟩,hB⟩)))
 |succ m ih=>
  intro hk a b h a0 a1 b0 b1 ha hb hl hB
  have wa:wd .u32 (a*256)=a*256%4294967296:=qAs _
  have wb:wd .u32 (b*256)=b*256%4294967296:=qAs _
  have ho:qgc .u32 (b*256%4294967296) 255=b*256%4294967296+255:=qsH (by omega) (by omega) (by omega)
  rw [qBc,wa,wb,ho]
  refine ua (by decide) (ua (by decide) (ul (fun _=>?_) (fun _=>uc ⟨⟨a0,a1⟩,⟨b0,b1⟩,hB⟩)))
  refine ua (by decide) (ua (by rw [wl,wv];omega) (ua (by decide) (ua (by decide) ?_)))
  refine ih (k+1) (by omega) _ _ _ (by omega) (by omega) (by omega) (by omega) ?_ ?_ (by rw [wl,wv];omega) (Bts.append hB (Bts.cons (qgA _) Bts.nil))
  ·have h4:k=0∨k=1∨k=2∨k=3:=by omega
   rcases h4 with rfl|rfl|rfl|rfl
   ·have e1:(256:Int) ^ (0+1)=256:=by decide
    rw [e1];omega
   ·have e0:(256:Int) ^ 1=256:=by decide
    have e1:(256:Int) ^ (1+1)=65536:=by decide
    rw [e0] at ha;rw [e1];omega
   ·have e0:(256:Int) ^ 2=65536:=by decide
    have e1:(256:Int) ^ (2+1)=16777216:=by decide
    rw [e0] at ha;rw [e1];omega
   ·have e0:(256:Int) ^ 3=16777216:=by decide
    have e1:(256:Int) ^ (3+1)=4294967296:=by decide
    rw [e0] at ha;rw [e1];omega
  ·have h4:k=0∨k=1∨k=2∨k=3:=by omega
   rcases h4 with rfl|rfl|rfl|rfl
   ·have e1:(256:Int) ^ (0+1)=256:=by decide
    rw [e1];omega
   ·have e0:(256:Int) ^ 1=256:=by decide
    have e1:(256:Int) ^ (1+1)=65536:=by decide
    rw [e0] at hb;rw [e1];omega
   ·have e0:(256:Int) ^ 2=65536:=by decide
    have e1:(256:Int) ^ (2+1)=16777216:=by decide
    rw [e0] at hb;rw [e1];omega
   ·have e0:(256:Int) ^ 3=16777216:=by decide
    have e1:(256:Int) ^ (3+1)=4294967296:=by decide
    rw [e0] at hb;rw [e1];omega
theorem qqJ (p:Int) (t:Bool) (a b:Int) (u:Unit) (h:List Int) (a0:0≤a) (a1:a<4294967296) (b0:0≤b) (b1:b<4294967296) (hl:h.length≤20000) (hB:Bts h):Tot (qxh p t a b u h) WfEnc:=by
 rw [qyl]
 have p0:(256:Int) ^ 0=1:=by decide
 refine Tot.b (qLv a b p) (fun r hr=>um (fun _=>?_) (fun _=>?_))
 ·refine ua (by decide) (ua (by decide) (ul (fun _=>?_) (fun _=>uc ⟨⟨a0,a1⟩,hr,hB⟩)))
  have wa:wd .u32 (a*256)=a*256%4294967296:=qAs _
  have wb:wd .u32 (r*256)=r*256%4294967296:=qAs _
  have ho:qgc .u32 (r*256%4294967296) 255=r*256%4294967296+255:=qsH (by omega) (by omega) (by omega)
  rw [wa,wb,ho]
  refine ua (by decide) (ua (by rw [wl,wv];omega) (ua (by decide) (ua (by decide) ?_)))
  refine qlE u 0 4 rfl _ _ _ (by omega) (by omega) (by omega) (by omega) ?_ ?_ (by rw [wl,wv];omega) (Bts.append hB (Bts.cons (qgA _) Bts.nil))
  ·rw [p0];omega
  ·rw [p0];omega
 ·have hq:=qgK (r+1)
  generalize wd .u32 (r+1)=q at*
  refine ua (by decide) (ua (by decide) (ul (fun _=>?_) (fun _=>uc ⟨hq,⟨b0,b1⟩,hB⟩)))
  have wa:wd .u32 (q*256)=q*256%4294967296:=qAs _
  have wb:wd .u32 (b*256)=b*256%4294967296:=qAs _
  have ho:qgc .u32 (b*256%4294967296) 255=b*256%4294967296+255:=qsH (by omega) (by omega) (by omega)
  rw [wa,wb,ho]
  refine ua (by decide) (ua (by rw [wl,wv];omega) (ua (by decide) (ua (by decide) ?_)))
  refine qlE u 0 4 rfl _ _ _ (by omega) (by omega) (by omega) (by omega) ?_ ?_ (by rw [wl,wv];omega) (Bts.append hB (Bts.cons (qgA _) Bts.nil))
  ·rw [p0];omega
  ·rw [p0];omega
theorem WfEnc.zero:WfEnc (0,(0,([],()))):=⟨⟨by decide,by decide⟩,⟨by decide,by decide⟩,Bts.nil⟩
theorem qoz {e:qka} (h:WfEnc e) (p:Int) (t:Bool):Tot (qSe e p t) fun r=>WfEnc r.1:=by
 rw [qYo]
 refine Tot.b (qFn e) (fun c hc=>uo (fun _=>uc WfEnc.zero) (fun k=>Tot.b (qlx p) (fun z _=>uk (fun _=>uc WfEnc.zero) (fun _=>?_))))
 have hl:=hc k
 refine ue (qZa _ (by omega)) (Tot.b (qqJ p t _ _ _ _ h.1.1 h.1.2 h.2.1.1 h.2.1.2 (by omega) h.2.2) (fun r hr=>uh (fun _=>uc WfEnc.zero) (fun _=>uc hr)))
theorem qpz {e:qka} (h:WfEnc e):Tot (qkm e) fun r=>Bts r.1∧(r.2=0→4≤r.1.length∧r.1.length≤20000):=by
 rw [qZo]
 simp only [wj]
 refine Tot.b (qFn e) (fun c hc=>uo (fun k=>uc ⟨Bts.nil,fun q=>absurd q k⟩) (fun k=>uh (fun _=>uc ⟨Bts.nil,fun q=>absurd q (by decide)⟩) (fun k2=>?_)))
 refine Tot.b (P:=fun r=>Bts r∧4≤r.length∧r.length≤20000) ?_ (fun r hr=>uc ⟨hr.1,fun _=>hr.2⟩)
 rw [qXo]
 have hL:∀a b c d:Int,(e.2.2.1++[a,b,c,d]).length=e.2.2.1.length+4:=fun a b c d=>by rw [wl];rfl
 refine ue (qZa _ (by omega)) (ua (by decide) (ua (by decide) (ua (by decide) (ua (by rw [hL];omega) (uc ⟨?_,by rw [hL];omega,by rw [hL];omega⟩)))))
 exact Bts.append h.2.2 (Bts.cons (qgA _) (Bts.cons (qgA _) (Bts.cons (qgA _) (Bts.cons (qgA _) Bts.nil))))
theorem qyG (a:Int) (t:Bool) (e:Int) {c:qka} (h:WfEnc c):Tot (qzh a t e c) fun r=>WfEnc r.2:=by
 rw [qDl]
 exact um (fun _=>Tot.b (qoz h a t) (fun r hr=>uc hr)) (fun _=>uc h)
theorem qtD (v:List Bool) (hv:v.length≤2000) (b0 b8:qba) (h9:List Int) (hl:h9.length=v.length):∀i:Int,0≤i→∀(e:Int) (c:qka),WfEnc c→
  Tot (qNc v v.length i b0 v e c b8 h9) fun r=>r.1=b8∧r.2.1=[]∧WfEnc r.2.2.2.2:=by
 intro i
 refine qyc (P:=fun i=>0≤i→∀(e:Int) (c:qka),WfEnc c→Tot (qNc v v.length i b0 v e c b8 h9) fun r=>r.1=b8∧r.2.1=[]∧WfEnc r.2.2.2.2) v.length ?_ ?_ i
 ·intro i hi h0 e c hc
  rw [qse]
  exact ub (by omega) (uc ⟨rfl,rfl,hc⟩)
 ·intro i hi ih h0 e c hc
  rw [qse]
  simp only [wj]
  rw [w64 (x:=i+1) (by omega) (by omega)]
  exact uf (by omega) (ua h0 (ua (by omega) (ua h0 (ua (by omega) (Tot.b (qyG _ _ e hc) (fun r hr=>ih (by omega) _ _ hr))))))
theorem qQE {l N:Int} {p:qba} (h:WfP l N p) (v:List Bool) (hv:v.length≤2000) (hN:N+v.length<1073741824) (e:Int) {c:qka} (hc:WfEnc c):
  Tot (qVe p v e c) fun r=>WfP l (N+v.length) r.1∧r.2.1=[]∧WfEnc r.2.2.2.2:=by
 rw [qLn]
 refine Tot.b (qON h v hv hN) (fun r hr=>?_)
 exact Tot.mono (qtD v hv p r.1 r.2.1 hr.2.2 0 (by omega) e c hc) (fun q hq=>⟨by rw [hq.1];exact hr.2.1,hq.2⟩)
def WfS (l M:Int) (s:qUh):Prop:=(∃N,WfP l N s.1∧0≤N∧N+s.2.1.length≤M)∧s.2.1.length<2000∧WfEnc s.2.2.2
theorem qoD {l M:Int} {s:qUh} (h:WfS l M s) (hM:M<1073741000) (b:Bool):Tot (qTe s b) (WfS l (M+1)):=by
 obtain ⟨⟨N,h1,h2,h3⟩,h4,h5⟩:=h
 unfold qTe
 have hL:(s.2.1++[b]).length=s.2.1.length+1:=by rw [wl,wv]
 refine ua (by rw [hL];omega) (ul (fun k=>?_) (fun k=>?_))
 ·refine Tot.b (qQE h1 (s.2.1++[b]) (by rw [hL];omega) (by rw [hL];omega) s.2.2.1 h5) (fun r hr=>uc ⟨⟨N+((s.2.1++[b]).length:Int),hr.1,by omega,?_⟩,?_,hr.2.2⟩)
  ·simp only;rw [hr.2.1,hL];simp only [wN];omega
  ·simp only;rw [hr.2.1];decide
 ·refine uc ⟨⟨N,h1,h2,?_⟩,?_,h5⟩
  ·simp only;rw [hL];omega
  ·simp only;rw [hL]
   have e:wi (s.2.1++[b]).length=((s.2.1++[b]).length:Int):=rfl
   rw [e,hL] at k
   omega
theorem qGr {l:Int}:∀(v:List Bool) (M:Int) (s:qUh),WfS l M s→M+v.length<1073741000→Tot (qDf v s) (WfS l (M+v.length))
 |[],M,s,h,hM=>uc (by simpa using h)
 |b::v,M,s,h,hM=>by
  unfold qDf
  simp only [ww] at*
  refine Tot.b (qoD h (by omega) b) (fun t ht=>Tot.mono (qGr v (M+1) t ht (by omega)) (fun r hr=>?_))
  have e:M+1+(v.length:Int)=M+((v.length+1:Nat):Int):=by omega
  rw [e] at hr
  exact hr
theorem qPB {l:Int} {p:qba} (h:WfP l 0 p) (b:List Int) (hb:b.length≤4096) (e:Int) {c:qka} (hc:WfEnc c):Tot (qTf p b e c) fun r=>WfEnc r.2:=by
 have h0:WfS l 0 (p,[],e,c):=⟨⟨0,h,wza 0,by show (0:Int)+0≤0;decide⟩,by show 0<2000;decide,hc⟩
 unfold qTf
 refine ua (by omega) (ua (fun l' hl'=>?_) ?_)
 ·obtain ⟨r,e1,_⟩:=qGr l' 0 (p,[],e,c) h0 (by omega)
  rw [e1];rfl
 ·have hL:=qHl b
  refine Tot.b (qGr (quj b) 0 (p,[],e,c) h0 (by omega)) (fun s hs=>?_)
  obtain ⟨⟨N,h1,h2,h3⟩,h4,h5⟩:=hs
  exact Tot.b (qQE h1 s.2.1 (by omega) (by omega) s.2.2.1 h5) (fun r hr=>uc hr.2.2)
theorem qbp (l:Int) (b:List Int):Tot (qlc l b) fun r=>Bts r.1∧(r.2=0→4≤r.1.length∧r.1.length≤20000):=by
 rw [qqj]
 simp only [wj]
 refine Tot.b (P:=fun r=>r.2=0→WfP l 0 r.1∧b.length≤4096) ?_ (fun r hr=>uo (fun k=>uc ⟨Bts.nil,fun q=>absurd q k⟩) (fun k=>?_))
 ·rw [qYk]
  refine Tot.b (qcN l) (fun r hr=>ul (fun k=>uh (fun _=>uc (fun q=>absurd q (by show ¬((4:Int)=0);decide))) (fun k2=>uc (fun _=>⟨hr k,by omega⟩))) (fun k=>uc (fun q=>absurd q k)))
 ·have hp:=hr k
  refine ue qTk (Tot.b (qPB hp.1 b hp.2 _ ⟨⟨by decide,by decide⟩,⟨by decide,by decide⟩,Bts.nil⟩) (fun q hq=>uo (fun _=>uc ⟨Bts.nil,fun q=>absurd q (by decide)⟩) (fun _=>Tot.b (qpz hq) (fun t ht=>uc ht))))
def nrm:Nat→Int→Int→Int×Int×List Int
 |0,a,b=>(a,b,[])
 |k+1,a,b=>if a/16777216=b/16777216 then
   ((nrm k (a*256%4294967296) (b*256%4294967296+255)).1,(nrm k (a*256%4294967296) (b*256%4294967296+255)).2.1,(b/16777216)::(nrm k (a*256%4294967296) (b*256%4294967296+255)).2.2)
  else (a,b,[])
def Shp4 (k:Nat) (a b:Int):Prop:=(0≤a∧a≤b∧b<4294967296)∧((k=4)∨(k=3∧a%256=0∧b%256=255)∨(k=2∧a%65536=0∧b%65536=65535)∨(k=1∧a%16777216=0∧b%16777216=16777215)∨(k=0∧a=0∧b=4294967295))
theorem Shp4.step {k:Nat} {a b:Int} (h:Shp4 (k+1) a b) (e:a/16777216=b/16777216):Shp4 k (a*256%4294967296) (b*256%4294967296+255):=by
 obtain ⟨⟨h1,h2,h3⟩,h4⟩:=h
 refine ⟨⟨by omega,by omega,by omega⟩,?_⟩
 rcases h4 with h|⟨h,ha,hb⟩|⟨h,ha,hb⟩|⟨h,ha,hb⟩|⟨h,_⟩
 ·exact wZa (Or.inl ⟨by omega,by omega,by omega⟩)
 ·exact wZa (wZa (Or.inl ⟨by omega,by omega,by omega⟩))
 ·exact wZa (wZa (wZa (Or.inl ⟨by omega,by omega,by omega⟩)))
 ·exact wZa (wZa (wZa (wZa ⟨by omega,by omega,by omega⟩)))
 ·omega
def qhC (a b:Int):Prop:=0≤a∧a<b∧b<4294967296∧a/16777216≠b/16777216
theorem qEy:∀(k:Nat) (a b:Int),Shp4 k a b→qhC (nrm k a b).1 (nrm k a b).2.1∧(nrm k a b).2.2.length≤k∧Bts (nrm k a b).2.2
 |0,a,b,h=>by
  obtain ⟨_,h⟩:=h
  have:a=0∧b=4294967295:=by omega
  obtain ⟨rfl,rfl⟩:=this
  exact ⟨by unfold qhC nrm;decide,ws _,Bts.nil⟩
 |k+1,a,b,h=>by
  unfold nrm
  by_cases e:a/16777216=b/16777216
  ·rw [if_pos e]
   have ih:=qEy k _ _ (h.step e)
   obtain ⟨⟨h1,h2,h3⟩,h4⟩:=h
   exact ⟨ih.1,by simp only [ww];omega,Bts.cons (by omega) ih.2.2⟩
  ·rw [if_neg e]
   obtain ⟨⟨h1,h2,h3⟩,h4⟩:=h
   refine ⟨⟨h1,?_,h3,e⟩,Nat.zero_le _,Bts.nil⟩
   show a<b
   rcases Int.lt_or_le a b with h|h
   ·exact h
   ·have:a=b:=by omega
    exact absurd (by rw [this]) e
def at4 (c:List Int) (i:Nat):Int:=c.getD i 0*16777216+c.getD (i+1) 0*65536+c.getD (i+2) 0*256+c.getD (i+3) 0
theorem qKg {xs:List Int} (h:Bts xs) (i:Nat):0≤xs.getD i 0∧xs.getD i 0<256:=
 qyv (P:=fun x=>0≤x∧x<256) h (by omega) i
theorem qXE {c:List Int} (h:Bts c) (i:Nat):at4 c i*256%4294967296+c.getD (i+4) 0=at4 c (i+1)∧at4 c i=c.getD i 0*16777216+at4 c (i+1)/256∧0≤at4 c i∧at4 c i<4294967296:=by
 have h0:=qKg h i
 have h1:=qKg h (i+1)
 have h2:=qKg h (i+2)
 have h3:=qKg h (i+3)
 have h4:=qKg h (i+4)
 have e:at4 c (i+1)=c.getD (i+1) 0*16777216+c.getD (i+2) 0*65536+c.getD (i+3) 0*256+c.getD (i+4) 0:=rfl
 rw [e]
 unfold at4
 omega
theorem qFy {c:List Int} (hc:Bts c):∀(k:Nat) (a b:Int) (i:Nat),Shp4 k a b→(∀j,j<(nrm k a b).2.2.length→c.getD (i+j) 0=(nrm k a b).2.2.getD j 0)→
  (nrm k a b).1≤at4 c (i+(nrm k a b).2.2.length)→at4 c (i+(nrm k a b).2.2.length)≤(nrm k a b).2.1→a≤at4 c i∧at4 c i≤b
 |0,a,b,i,h,hj,h1,h2=>⟨h1,h2⟩
 |k+1,a,b,i,h,hj,h1,h2=>by
  unfold nrm at hj h1 h2
  by_cases e:a/16777216=b/16777216
  ·rw [if_pos e] at hj h1 h2
   simp only [ww] at hj h1 h2
   have hs:=h.step e
   have h0:=hj 0 (by omega)
   rw [List.getD_cons_zero,Nat.add_zero] at h0
   have ih:=qFy hc k _ _ (i+1) hs (fun j hlt=>by
    have:=hj (j+1) (by omega)
    rw [List.getD_cons_succ] at this
    rw [←this,wxa,Nat.add_comm 1 j]) (by rw [wxa,Nat.add_comm 1];exact h1) (by rw [wxa,Nat.add_comm 1];exact h2)
   obtain ⟨⟨g1,g2,g3⟩,g4⟩:=h
   have hw:=(qXE hc i).2.1
   rw [h0] at hw
   omega
  ·rw [if_neg e] at h1 h2
   exact ⟨h1,h2⟩
def spl (a b p:Int):Int:=a+(b - a)/4096*p+(b - a)%4096*p/4096
theorem qWM {x:Int} (h0:0≤x) (h1:x<4294967296):qUa .u32 x 4095=x%4096:=by
 have e:qUa .u32 x 4095=((wC 32 x &&& wC 32 4095).toNat:Int):=by
  show wd .u32 ((wC 32 x &&& wC 32 4095).toNat:Int)=_
  rw [qAs]
  have:=(wC 32 x &&& wC 32 4095).isLt
  omega
 rw [e,BitVec.toNat_and,qsd 32 x h0 (by omega),qsd 32 4095 (by omega) (by omega)]
 have h3:(4095:Int).toNat=2 ^ 12 - 1:=rfl
 rw [h3,Nat.and_two_pow_sub_one_eq_mod]
 omega
theorem qoA {a b p:Int} (h:qhC a b) (hp0:0≤p) (hp1:p≤4095):a≤spl a b p∧spl a b p<b∧0≤(b - a)/4096*p∧(b - a)/4096*p<4294967296∧0≤(b - a)%4096*p∧(b - a)%4096*p<4294967296:=by
 obtain ⟨h1,h2,h3,h4⟩:=h
 unfold spl
 have q0:0≤(b - a)/4096:=by omega
 have r0:0≤(b - a)%4096∧(b - a)%4096<4096:=by omega
 have hd:(b - a)=(b - a)/4096*4096+(b - a)%4096:=by omega
 have m1:(b - a)/4096*p≤(b - a)/4096*4095:=Int.mul_le_mul_of_nonneg_left hp1 q0
 have m2:0≤(b - a)/4096*p:=Int.mul_nonneg q0 hp0
 have m3:(b - a)%4096*p≤(b - a)%4096*4095:=Int.mul_le_mul_of_nonneg_left hp1 r0.1
 have m4:0≤(b - a)%4096*p:=Int.mul_nonneg r0.1 hp0
 generalize (b - a)/4096*p=z at*
 generalize (b - a)%4096*p=y at*
 generalize (b - a)/4096=q at*
 generalize (b - a)%4096=r at*
 refine ⟨by omega,by omega,m2,by omega,m4,by omega⟩
theorem qHx {a b p:Int} (h:qhC a b) (hp0:0≤p) (hp1:p≤4095):qDg a b p=some (spl a b p):=by
 have hs:=qoA h hp0 hp1
 obtain ⟨h1,h2,h3,h4⟩:=h
 rw [qIm,qha (by decide),qha (by decide)]
 simp only [qAs,qyd _ (show (0:Int)<4096 by decide)]
 have e1:(b - a)%4294967296=b - a:=by omega
 have e2:p%4294967296=p:=by omega
 rw [e1,e2,qWM (by omega) (by omega)]
 unfold spl at*
 generalize (b - a)/4096*p=z at*
 generalize (b - a)%4096*p=y at*
 have e3:z%4294967296=z:=by omega
 have e4:y%4294967296=y:=by omega
 rw [e3,e4]
 have e5:(a+z)%4294967296=a+z:=by omega
 rw [e5]
 exact congrArg some (by omega)
theorem qvu (u:Unit):∀(k:Nat) (a b:Int) (h:List Int),Shp4 k a b→h.length+k≤30000→qGc a b u h=some ((nrm k a b).1,((nrm k a b).2.1,(h++(nrm k a b).2.2,u)))
 |0,a,b,h,hs,hl=>by
  obtain ⟨_,hs⟩:=hs
  have:a=0∧b=4294967295:=by omega
  obtain ⟨rfl,rfl⟩:=this
  rw [qBc,qha (by decide),qha (by decide),if_neg (by decide)]
  exact congrArg some (by unfold nrm;rw [wQ])
 |k+1,a,b,h,hs,hl=>by
  have hr:=hs.1
  rw [qBc,qha (by decide),qha (by decide)]
  simp only [qyd _ (show (0:Int)<16777216 by decide),beq_iff_eq]
  unfold nrm
  by_cases e:a/16777216=b/16777216
  ·rw [if_pos e,if_pos e,qha (by decide),qha (by rw [wl,wv];omega),qha (by decide),qha (by decide)]
   have ho:qgc .u32 (b*256%4294967296) 255=b*256%4294967296+255:=qsH (by omega) (by omega) (by omega)
   have hb8:wd .u8 (b/16777216)=b/16777216:=by rw [wu8];omega
   rw [qAs,qAs,ho,hb8,qvu u k _ _ _ (hs.step e) (by rw [wl,wv];omega)]
   exact congrArg some (by rw [wB];rfl)
  ·rw [if_neg e,if_neg e,wQ]
def qqG (t:Bool) (a b p:Int):Int:=if t=true then a else spl a b p+1
def qpG (t:Bool) (a b p:Int):Int:=if t=true then spl a b p else b
theorem qhw {t:Bool} {a b p:Int} (h:qhC a b) (hp0:0≤p) (hp1:p≤4095):Shp4 4 (qqG t a b p) (qpG t a b p):=by
 have hs:=qoA h hp0 hp1
 obtain ⟨h1,h2,h3,h4⟩:=h
 refine ⟨?_,Or.inl rfl⟩
 unfold qqG qpG
 cases t
 ·rw [if_neg (by decide),if_neg (by decide)];omega
 ·rw [if_pos rfl,if_pos rfl];omega
def stp (t:Bool) (a b p:Int):Int×Int×List Int:=nrm 4 (qqG t a b p) (qpG t a b p)
theorem qJC (p:Int) (t:Bool) (a b:Int) (u:Unit) (h:List Int) (hE:qhC a b) (hp0:0≤p) (hp1:p≤4095) (hl:h.length≤20000):
  qxh p t a b u h=some ((stp t a b p).1,((stp t a b p).2.1,(h++(stp t a b p).2.2,u))):=by
 have hs:=qoA hE hp0 hp1
 have hsh:=qhw (t:=t) hE hp0 hp1
 obtain ⟨h1,h2,h3,h4⟩:=hE
 rw [qyl,qHx ⟨h1,h2,h3,h4⟩ hp0 hp1,wy]
 have w1:wd .u32 (spl a b p+1)=spl a b p+1:=by rw [qAs];omega
 rw [w1]
 simp only [qyd _ (show (0:Int)<16777216 by decide),beq_iff_eq]
 have key:=qvu u 4 (qqG t a b p) (qpG t a b p) h hsh (by omega)
 rw [qBc,qha (by decide),qha (by decide)] at key
 simp only [qyd _ (show (0:Int)<16777216 by decide),beq_iff_eq] at key
 cases t with
 |true=>
  have ea:qqG true a b p=a:=rfl
  have ez:qpG true a b p=spl a b p:=rfl
  rw [if_pos rfl,qha (by decide),qha (by decide)]
  unfold stp
  rw [←key,ea,ez]
 |false=>
  have ea:qqG false a b p=spl a b p+1:=rfl
  have ez:qpG false a b p=b:=rfl
  rw [if_neg (by decide),qha (by decide),qha (by decide)]
  unfold stp
  rw [←key,ea,ez]
def qbK (e:qka):Prop:=qhC e.1 e.2.1∧Bts e.2.2.1
theorem qYJ {e:qka} (h:qbK e) {p:Int} (t:Bool) (hp0:0≤p) (hp1:p≤4095) (hl:e.2.2.1.length≤20000):
  qSe e p t=some (if (e.2.2.1++(stp t e.1 e.2.1 p).2.2).length>20000 then ((0,(0,([],()))),4) else (((stp t e.1 e.2.1 p).1,((stp t e.1 e.2.1 p).2.1,(e.2.2.1++(stp t e.1 e.2.1 p).2.2,()))),0)):=by
 obtain ⟨hE,hB⟩:=h
 have hc:qff e=some 0:=by
  rw [qbi]
  simp only [wj,qyd _ (show (0:Int)<16777216 by decide)]
  exact ug (ub (by have:=hE.2.1;omega) (ua (by decide) (ua (by decide) (ut hE.2.2.2 (ub (by omega) (uc rfl))))))
 have hp:qSf p=some true:=by
  rw [qmj]
  exact ug (uf hp0 (uc (decide_eq_true hp1)))
 rw [qYo]
 simp only [wj]
 refine ug (ue hc (ud rfl (ue hp (uk (fun k=>absurd k (by decide)) (fun _=>ue (qZa _ (by omega)) (ue (qJC p t _ _ _ _ hE hp0 hp1 hl) ?_))))))
 by_cases hg:(e.2.2.1++(stp t e.1 e.2.1 p).2.2).length>20000
 ·rw [if_pos hg]
  exact uf (by simp only;omega) (uc rfl)
 ·rw [if_neg hg]
  exact ub (by simp only;omega) (uc rfl)
theorem qiJ {e:qka} (h:qbK e) {p:Int} (t:Bool) (hp0:0≤p) (hp1:p≤4095):qbK ((stp t e.1 e.2.1 p).1,((stp t e.1 e.2.1 p).2.1,(e.2.2.1++(stp t e.1 e.2.1 p).2.2,())))∧(stp t e.1 e.2.1 p).2.2.length≤4:=by
 have:=qEy 4 _ _ (qhw (t:=t) h.1 hp0 hp1)
 exact ⟨⟨this.1,Bts.append h.2 this.2.2⟩,this.2.1⟩
theorem qtB {f:qJa} (h:qWz f) {a b st p:Int} (ha:0≤a∧a≤255) (hb:0≤b∧b≤255) (hs:-2047≤st∧st≤2047) (hp:0≤p∧p≤4095):Tot (qqo f [a,b] st p) fun r=>qkN r.2.1∧1≤r.1∧r.1≤4095:=by
 rw [qGq]
 have e0:([a,b]:List Int).getD 0 0=a:=rfl
 have e1:([a,b]:List Int).getD 1 0=b:=rfl
 rw [e0,e1]
 refine ue (qvi h) (ud rfl (ua (by decide) (ua (by decide) (Tot.b (qoi h.1 ha.1 ha.2 hs.1 hs.2) (fun r hr=>ua (by decide) (ua (by decide) (Tot.b (qoi h.2 hb.1 hb.2 hs.1 hs.2) (fun q hq=>ud hr.1 (ud hq.1 (Tot.b (qqs p) (fun t ht=>uk (fun k=>?_) (fun _=>?_))))))))))))
 ·rw [ht hp.1 hp.2] at k;exact absurd k (by decide)
 ·refine Tot.b (P:=fun z=>1≤z∧z≤4095) ?_ (fun z hz=>uc ⟨⟨a,b,r.2.1,q.2.1,rfl,rfl,ha.1,ha.2,hb.1,hb.2,hr.2.1,hr.2.2,hq.2.1,hq.2.2⟩,hz⟩)
  rw [qFq]
  refine ua (by decide) (ua (by decide) (ua (by decide) (uc ?_)))
  split <;> split at*<;> omega
theorem qkJ {l N:Int} {p:qba} (h:WfP l N p) (b9a:Int) (b9 b10:(Int×(Int×(qXb×Unit)))) {nd:Int} (hn:1≤nd∧nd≤15) (h11 h12:List Int):∀i:Int,0≤i→i≤6→∀(h13 h14:List Int),(h13.length=i.toNat∧∀x∈h13,0≤x∧x≤192)→(h14.length=i.toNat∧∀x∈h14,-2047≤x∧x≤2047)→
  Tot (qqd p.2.2.1 6 i p b9a b9 nd b10 h11 h12 h13 h14) fun s=>qzs s∧1≤s.2.2.2.2.1∧s.2.2.2.2.1≤4095:=by
 obtain ⟨h1,h2,h3,h4,h5,h6⟩:=h
 have hl3:=h3.1
 have hl4:=h4.1
 have hw:=h5.2.2.2.2.1
 intro i
 refine qyc (P:=fun i=>0≤i→i≤6→∀(h13 h14:List Int),(h13.length=i.toNat∧∀x∈h13,0≤x∧x≤192)→(h14.length=i.toNat∧∀x∈h14,-2047≤x∧x≤2047)→Tot (qqd p.2.2.1 6 i p b9a b9 nd b10 h11 h12 h13 h14) fun s=>qzs s∧1≤s.2.2.2.2.1∧s.2.2.2.2.1≤4095) 6 ?_ ?_ i
 ·intro i hi h0 h06 h13 h14 k13 k14
  rw [qbf]
  have e6:i.toNat=6:=by omega
  rw [e6] at k13 k14
  refine ub (by omega) (Tot.b (qvq h5.2.2.2.1 h2.1 hw) (fun m hm=>?_))
  have hL:(h14++[m.1,256]).length=8:=by rw [wl,k14.1];rfl
  have hA:∀x∈h14++[m.1,256],-2047≤x∧x≤2047:=by
   intro x hx
   rcases wR.1 hx with q|q
   ·exact k14.2 x q
   ·rcases wU.1 q with rfl|q
    ·exact hm
    ·rw [wT.1 q];omega
  refine ua (by rw [hL];decide) (Tot.b (qSu h5.1 (by have:=hw.1;omega) hw.2 hL hA) (fun x hx=>Tot.b (qLm h2.1) (fun y _=>Tot.b (qrs _ _ hw.1 hw.2) (fun z hz=>?_))))
  obtain ⟨c,hz1,hz2⟩:=hz
  rw [hz1]
  exact Tot.b (qtB h5.2.1 ⟨by have:=hw.1;omega,hw.2⟩ hz2 ⟨hx.1,hx.2.1⟩ ⟨hx.2.2.1,hx.2.2.2⟩) (fun t ht=>uc ⟨⟨hn,k13,⟨hL,hA⟩,⟨hx.2.2.1,hx.2.2.2⟩,ht.1⟩,ht.2⟩)
 ·intro i hi ih h0 h06 h13 h14 k13 k14
  rw [qbf]
  simp only [wj]
  have hd:=qIa (P:=qxm l) (d:=qua qya) h3.2 i.toNat (by omega)
  have ha:=qIa (P:=qjC) (d:=qua qxa) h4.2 i.toNat (by omega)
  have hs:=h5.2.2.2.2.2.at hd.2.1 i.toNat
  rw [w64 (x:=i+1) (by omega) (by omega)]
  refine uf (by omega) (ua h0 (ua (by omega) (ua h0 (ua (by omega) (Tot.b (qip hd hs.1 hs.2 hn.1 hn.2) (fun r hr=>ua h0 (ua (by omega) (Tot.b (qbC ha hr.2.1 hr.2.2) (fun q hq=>ua ?_ (ua (by decide) (Tot.b (qkA _) (fun s hs'=>ua ?_ ?_))))))))))))
  ·rw [wl,wv];omega
  ·rw [wl,wv];omega
  ·exact ih (by omega) (by omega) _ _ ⟨by rw [wl,wv];omega,qei k13.2 hr.2⟩ ⟨by rw [wl,wv];omega,qei k14.2 hs'⟩
theorem qlM {l N:Int} {p:qba} (h:WfP l N p):Tot (qbh p) fun s=>qzs s∧1≤s.2.2.2.2.1∧s.2.2.2.2.1≤4095:=by
 rw [qKo]
 have e:wi p.2.2.1.length=6:=by rw [h.2.2.1.1];rfl
 rw [e]
 exact Tot.b (qmq h.2.2.2.2.1.2.2.2.2.1) (fun r hr=>qkJ h _ _ _ hr _ _ 0 (by omega) (by omega) [] [] ⟨rfl,fun x hx=>by cases hx⟩ ⟨rfl,fun x hx=>by cases hx⟩)
def qRI (p:qba) (b:Bool) (q:qba) (P:Int):Prop:=∃s,qbh p=some s∧P=wd .i64 s.2.2.2.2.1∧qrh p s b=some (q,0)
def qkC:List Bool→qba→qba→List Int→Prop
 |[],p,q,Ps=>q=p∧Ps=[]
 |b::bs,p,q,Ps=>∃p1 P Ps',qRI p b p1 P∧qkC bs p1 q Ps'∧Ps=P::Ps'
theorem qZJ {l N:Int} {p:qba} (h:WfP l N p) (hN:N<1073741824) (b:Bool):∃q P,qRI p b q P:=by
 obtain ⟨s,e,hs⟩:=qlM h
 obtain ⟨r,e',hr⟩:=qhy h hN hs.1 b
 exact ⟨r.1,_,s,e,rfl,by rw [e'];exact congrArg some (wmb rfl hr.1)⟩
theorem qYz {l N:Int} {p q:qba} {b:Bool} {P:Int} (h:WfP l N p) (hN:N<1073741824) (k:qRI p b q P):WfP l (N+1) q∧1≤P∧P≤4095:=by
 obtain ⟨s,e,hP,hu⟩:=k
 obtain ⟨s',e',hs⟩:=qlM h
 obtain rfl:=wMa (e.symm.trans e')
 obtain ⟨r,e'',hr⟩:=qhy h hN hs.1 b
 obtain rfl:=wMa (hu.symm.trans e'')
 rw [w64 (by omega) (by omega)] at hP
 exact ⟨hr.2,by omega,by omega⟩
theorem qPD {l:Int}:∀(bs:List Bool) (N:Int) (p:qba),WfP l N p→N+bs.length<1073741824→∃q Ps,qkC bs p q Ps
 |[],N,p,h,hN=>⟨p,[],rfl,rfl⟩
 |b::bs,N,p,h,hN=>by
  simp only [ww] at hN
  obtain ⟨p1,P,k⟩:=qZJ h (by omega) b
  obtain ⟨q,Ps,hr⟩:=qPD bs (N+1) p1 (qYz h (by omega) k).1 (by omega)
  exact ⟨q,P::Ps,p1,P,Ps,k,hr,rfl⟩
theorem qqw {l:Int}:∀(bs:List Bool) (N:Int) (p q:qba) (Ps:List Int),WfP l N p→N+bs.length<1073741824→qkC bs p q Ps→WfP l (N+bs.length) q∧Ps.length=bs.length∧∀P∈Ps,1≤P∧P≤4095
 |[],N,p,q,Ps,h,hN,hr=>by
  obtain ⟨rfl,rfl⟩:=hr
  exact ⟨by simpa using h,rfl,fun P hP=>by cases hP⟩
 |b::bs,N,p,q,Ps,h,hN,hr=>by
  simp only [ww] at hN
  obtain ⟨p1,P,Ps',k,hr,rfl⟩:=hr
  have hw:=qYz h (by omega) k
  have ih:=qqw bs (N+1) p1 q Ps' hw.1 (by omega) hr
  refine ⟨?_,by rw [ww,ww,ih.2.1],fun x hx=>?_⟩
  ·have e:N+1+(bs.length:Int)=N+((b::bs).length:Int):=by rw [ww];omega
   rw [←e];exact ih.1
  ·rcases wU.1 hx with rfl|hx
   ·exact hw.2
   ·exact ih.2.2 x hx
theorem qZz:∀(a b:List Bool) (p q:qba) (Ps:List Int) (r:qba) (Qs:List Int),qkC a p q Ps→qkC b q r Qs→qkC (a++b) p r (Ps++Qs)
 |[],b,p,q,Ps,r,Qs,h,k=>by
  obtain ⟨rfl,rfl⟩:=h
  exact k
 |x::a,b,p,q,Ps,r,Qs,h,k=>by
  obtain ⟨p1,P,Ps',s,h,rfl⟩:=h
  exact ⟨p1,P,Ps'++Qs,s,qZz a b p1 q Ps' r Qs h k,rfl⟩
theorem qND (v:List Bool) (hv:v.length≤2000) (b9a b9baa:Int) (b9babb:qqa) (u1 u2 u3 u4:Unit) (b9bbbbbbaa:Int) (u5:Unit) (b9bbbbbbb:(qKb×(qqa×((List Int)×((List Int)×Unit)))))
  (h11:List Int) (h12:List qna) (h13:List qma) (h14 h15 h16:List (List Int)) (h17:List Int) (q:qba):∀i:Int,0≤i→i≤v.length→∀(p:qba) (h10 Ps:List Int),h10.length=i.toNat→qkC (v.drop i.toNat) p q Ps→
  qrd v v.length i p b9a b9baa b9babb u1 u2 u3 u4 b9bbbbbbaa u5 b9bbbbbbb h10 h11 h12 h13 h14 h15 h16 h17=some (q,(h10++Ps,0)):=by
 intro i
 refine qyc (P:=fun i=>0≤i→i≤v.length→∀(p:qba) (h10 Ps:List Int),h10.length=i.toNat→qkC (v.drop i.toNat) p q Ps→qrd v v.length i p b9a b9baa b9babb u1 u2 u3 u4 b9bbbbbbaa u5 b9bbbbbbb h10 h11 h12 h13 h14 h15 h16 h17=some (q,(h10++Ps,0))) v.length ?_ ?_ i
 ·intro i hi h0 h1 p h10 Ps hh hr
  rw [wgb (by omega)] at hr
  obtain ⟨rfl,rfl⟩:=hr
  rw [qcf,if_neg (by rw [decide_eq_true_eq];omega),wQ]
 ·intro i hi ih h0 h1 p h10 Ps hh hr
  have hd:v.drop i.toNat=v[i.toNat]'(by omega)::v.drop (i.toNat+1):=woa (by omega)
  rw [hd] at hr
  obtain ⟨p1,P,Ps',⟨s,e1,e2,e3⟩,hr,rfl⟩:=hr
  have hg:v.getD i.toNat false=v[i.toNat]'(by omega):=by rw [wt,wx (by omega)];rfl
  rw [qcf]
  simp only [wj]
  rw [w64 (x:=i+1) (by omega) (by omega),hg,←hg]
  refine ug (uf (by omega) (ua h0 (ua (by omega) (ue e1 (ue (by rw [hg];exact e3) (ud rfl (ua (by rw [wl,wv];omega) ?_)))))))
  have e:(i+1).toNat=i.toNat+1:=by omega
  have:=ih (by omega) (by omega) p1 (h10++[P]) Ps' (by rw [wl,wv];omega) (by rw [e];exact hr)
  rw [←e2]
  simp only
  rw [this,wB]
  exact uc rfl
theorem qcF {l N:Int} {p q:qba} {v:List Bool} {Ps:List Int} (h:WfP l N p) (hv:v.length≤2000) (hr:qkC v p q Ps):qYi p v=some (q,(Ps,0)):=by
 rw [qLo]
 simp only [wj]
 refine ug (ue (qZi h) (ud rfl (ub (by omega) (ue (qhK h) ?_))))
 have:=qND v hv 0 0 (0,()) () () () () 0 () ((0,(0,())),((0,()),((wn 6 0),((wn 6 0),())))) [] [] [] [] [] [] [] q 0 (by omega) (by omega) p [] Ps rfl hr
 rw [this]
 exact uc rfl
theorem qZM {l N:Int} {p q:qba} {b:Bool} {P:Int} (h:WfP l N p) (k:qRI p b q P):qyu p=some (P,0):=by
 obtain ⟨s,e1,e2,e3⟩:=k
 rw [qNA]
 exact ug (ue (qZi h) (ud rfl (ue e1 (uc (by rw [e2])))))
theorem qMD {l N:Int} {p q:qba} {b:Bool} {P:Int} (h:WfP l N p) (k:qRI p b q P):qMk p b=some (q,0):=by
 rw [qmr]
 exact ug (ue (qcF h (v:=[b]) (Ps:=[P]) (by show 1≤2000;decide) ⟨q,P,[],k,⟨rfl,rfl⟩,rfl⟩) (uc rfl))
def qfi (e:qka):Prop:=qbK e∧e.2.2.1.length≤20000
def qgF:List Bool→List Int→qka→qka→Prop
 |[],_,e,e'=>e'=e
 |b::bs,Ps,e,e'=>∃P Ps' e1,Ps=P::Ps'∧qSe e P b=some (e1,0)∧qgF bs Ps' e1 e'
theorem qbA:∀(a b:List Bool) (Ps Qs:List Int) (e f g:qka),Ps.length=a.length→qgF a Ps e f→qgF b Qs f g→qgF (a++b) (Ps++Qs) e g
 |[],b,Ps,Qs,e,f,g,hl,h,k=>by
  obtain rfl:Ps=[]:=List.length_eq_zero_iff.1 hl
  have h':f=e:=h
  subst h'
  exact k
 |x::a,b,Ps,Qs,e,f,g,hl,h,k=>by
  obtain ⟨P,Ps',e1,rfl,hp,h⟩:=h
  simp only [ww,Nat.add_right_cancel_iff] at hl
  exact ⟨P,Ps'++Qs,e1,rfl,hp,qbA a b Ps' Qs e1 f g hl h k⟩
theorem qXz {e:qka} (h:qfi e) {p:Int} (t:Bool) (hp0:0≤p) (hp1:p≤4095):
  Tot (qSe e p t) fun r=>(r.2=0→qfi r.1∧r.1=((stp t e.1 e.2.1 p).1,((stp t e.1 e.2.1 p).2.1,(e.2.2.1++(stp t e.1 e.2.1 p).2.2,()))))∧(e.2.2.1.length+4≤20000→r.2=0∧r.1.2.2.1.length≤e.2.2.1.length+4):=by
 have hg:=qiJ h.1 t hp0 hp1
 refine uj (qYJ h.1 t hp0 hp1 h.2) ?_
 by_cases hl:(e.2.2.1++(stp t e.1 e.2.1 p).2.2).length>20000
 ·rw [if_pos hl]
  refine ⟨fun k=>absurd k (by decide),fun k=>?_⟩
  rw [wl] at hl
  omega
 ·rw [if_neg hl]
  refine ⟨fun _=>⟨⟨hg.1,by simp only;omega⟩,rfl⟩,fun k=>⟨rfl,?_⟩⟩
  simp only
  rw [wl]
  omega
theorem qaA {a:Int} (ha0:0≤a) (ha1:a≤4095) (t:Bool) (e:Int) {c:qka} (h:e=0→qfi c):
  Tot (qzh a t e c) fun r=>(r.1=0→e=0∧qfi r.2∧qSe c a t=some (r.2,0))∧(e=0→c.2.2.1.length+4≤20000→r.1=0∧r.2.2.2.1.length≤c.2.2.1.length+4):=by
 rw [qDl]
 refine ul (fun he=>?_) (fun he=>uc ⟨fun k=>absurd k he,fun k=>absurd k he⟩)
 obtain ⟨r,er,hr⟩:=qXz (h he) t ha0 ha1
 refine ue er (uc ⟨fun k=>⟨he,(hr.1 k).1,?_⟩,fun _ k=>hr.2 k⟩)
 rw [er]
 exact congrArg some (wmb rfl k)
theorem qmx (v:List Bool) (hv:v.length≤2000) (b0 b8:qba) (Ps:List Int) (hl:Ps.length=v.length) (hP:∀P∈Ps,1≤P∧P≤4095):∀i:Int,0≤i→i≤v.length→∀(e:Int) (c:qka),(e=0→qfi c)→
  Tot (qNc v v.length i b0 v e c b8 Ps) fun r=>r.1=b8∧r.2.1=[]∧(r.2.2.2.1=0→e=0∧qfi r.2.2.2.2∧qgF (v.drop i.toNat) (Ps.drop i.toNat) c r.2.2.2.2)∧
   (e=0→(c.2.2.1.length:Int)+4*(v.length - i)≤20000→r.2.2.2.1=0∧(r.2.2.2.2.2.2.1.length:Int)≤c.2.2.1.length+4*(v.length - i)):=by
 intro i
 refine qyc (P:=fun i=>0≤i→i≤v.length→∀(e:Int) (c:qka),(e=0→qfi c)→Tot (qNc v v.length i b0 v e c b8 Ps) fun r=>r.1=b8∧r.2.1=[]∧(r.2.2.2.1=0→e=0∧qfi r.2.2.2.2∧qgF (v.drop i.toNat) (Ps.drop i.toNat) c r.2.2.2.2)∧
   (e=0→(c.2.2.1.length:Int)+4*(v.length - i)≤20000→r.2.2.2.1=0∧(r.2.2.2.2.2.2.1.length:Int)≤c.2.2.1.length+4*(v.length - i))) v.length ?_ ?_ i
 ·intro i hi h0 h1 e c hc
  rw [qse]
  refine ub (by omega) (uc ⟨rfl,rfl,fun k=>⟨k,hc k,?_⟩,fun k _=>⟨k,by simp only;omega⟩⟩)
  rw [wgb (by omega)]
  rfl
 ·intro i hi ih h0 h1 e c hc
  have hp:=qIa (P:=fun P=>1≤P∧P≤4095) (d:=0) hP i.toNat (by omega)
  have hd:v.drop i.toNat=v[i.toNat]'(by omega)::v.drop (i.toNat+1):=woa (by omega)
  have hd2:Ps.drop i.toNat=Ps[i.toNat]'(by omega)::Ps.drop (i.toNat+1):=woa (by omega)
  have hg:v.getD i.toNat false=v[i.toNat]'(by omega):=by rw [wt,wx (by omega)];rfl
  have hg2:Ps.getD i.toNat 0=Ps[i.toNat]'(by omega):=by rw [wt,wx (by omega)];rfl
  rw [qse]
  simp only [wj]
  rw [w64 (x:=i+1) (by omega) (by omega),wO]
  refine uf (by omega) (ua h0 (ua (by omega) (ua h0 (ua (by omega) (Tot.b (qaA (by omega) hp.2 _ e hc) (fun r hr=>Tot.mono (ih (by omega) (by omega) r.1 r.2 (fun k=>(hr.1 k).2.1)) (fun q hq=>⟨hq.1,hq.2.1,fun k=>?_,fun k1 k2=>?_⟩)))))))
  ·have hq3:=hq.2.2.1 k
   have hr1:=hr.1 hq3.1
   refine ⟨hr1.1,hq3.2.1,?_⟩
   rw [hd,hd2]
   refine ⟨_,_,r.2,rfl,?_,?_⟩
   ·rw [←hg,←hg2];exact hr1.2.2
   ·have e:(i+1).toNat=i.toNat+1:=by omega
    rw [e] at hq3
    exact hq3.2.2
  ·have hr2:=hr.2 k1 (by omega)
   have hq4:=hq.2.2.2 hr2.1 (by omega)
   exact ⟨hq4.1,by omega⟩
theorem qRv {l N:Int} {p q:qba} {v:List Bool} {Ps:List Int} (h:WfP l N p) (hv:v.length≤2000) (hN:N+v.length<1073741824) (hr:qkC v p q Ps) (e:Int) {c:qka} (hc:e=0→qfi c):
  Tot (qVe p v e c) fun r=>r.1=q∧r.2.1=[]∧(r.2.2.2.1=0→e=0∧qfi r.2.2.2.2∧qgF v Ps c r.2.2.2.2)∧(e=0→c.2.2.1.length+4*v.length≤20000→r.2.2.2.1=0∧r.2.2.2.2.2.2.1.length≤c.2.2.1.length+4*v.length):=by
 have hw:=qqw v N p q Ps h hN hr
 rw [qLn]
 refine ue (qcF h hv hr) (Tot.mono (qmx v hv p q Ps hw.2.1 hw.2.2 0 (by omega) (by omega) e c hc) (fun r k=>⟨k.1,k.2.1,fun z=>k.2.2.1 z,fun z1 z2=>?_⟩))
 have:=k.2.2.2 z1 (by omega)
 exact ⟨this.1,by omega⟩
theorem qbN {l:Int} (hl:0≤l∧l≤7):Tot (qch l) fun r=>r.2=0:=by
 obtain ⟨hl0,hl1⟩:=hl
 rw [qMo]
 refine Tot.b (qPx hl0 hl1) (fun r1 k1=>ud k1.1 (Tot.b qHv (fun r2 k2=>ue qjk (ue qam (Tot.b (qps hl0 hl1) (fun r5 k5=>Tot.b qQu (fun r6 k6=>?_)))))))
 refine Tot.mono (qdF hl0 hl1 _ _ _ _ _ _ _ _ _ _ r1.1 (r6.1,(r2,(r5.1,((-1,(0,())),((1,()),((wn 6 0),((wn 6 0),()))))))) k1.2 ⟨k6,k2,k5,Or.inl ⟨rfl,rfl⟩,⟨wza 1,by show (1:Int)≤255;decide⟩,WfSl.zero ⟨hl0,hl1⟩⟩ _ _ _ _ _ _ _ 0 (by omega) (by omega) [] [] ⟨rfl,fun x hx=>by cases hx⟩ ⟨rfl,fun x hx=>by cases hx⟩) (fun r hr=>hr.1)
def e0:qka:=(0,(4294967295,([],())))
theorem qlI:qfi e0:=⟨⟨by unfold qhC e0;decide,Bts.nil⟩,by decide⟩
def WfR (l:Int) (p0:qba) (done:List Bool) (s:qUh):Prop:=
 ∃pre Ps,done=pre++s.2.1∧s.2.1.length<2000∧qkC pre p0 s.1 Ps∧(s.2.2.1=0→qfi s.2.2.2∧qgF pre Ps e0 s.2.2.2)∧(4*done.length≤20000→s.2.2.1=0∧s.2.2.2.2.2.1.length≤4*pre.length)
theorem qpD {l:Int} {p0:qba} (hp:WfP l 0 p0) {done:List Bool} {s:qUh} (h:WfR l p0 done s) (hD:done.length<1000000) (b:Bool):Tot (qTe s b) (WfR l p0 (done++[b])):=by
 obtain ⟨pre,Ps,hd,hw,hr,hg,hs⟩:=h
 have hdl:done.length=pre.length+s.2.1.length:=by rw [hd,wl]
 have hpl:=qqw pre 0 p0 s.1 Ps hp (by omega) hr
 unfold qTe
 have hL:(s.2.1++[b]).length=s.2.1.length+1:=by rw [wl,wv]
 have hDL:(done++[b]).length=done.length+1:=by rw [wl,wv]
 refine ua (by rw [hL];omega) (ul (fun k=>?_) (fun k=>?_))
 ·obtain ⟨q,Qs,hq⟩:=qPD (s.2.1++[b]) (0+pre.length) s.1 hpl.1 (by rw [hL];omega)
  refine Tot.b (qRv hpl.1 (by rw [hL];omega) (by rw [hL];omega) hq s.2.2.1 (fun z=>(hg z).1)) (fun r k2=>uc ⟨pre++(s.2.1++[b]),Ps++Qs,?_,?_,?_,?_,?_⟩)
  ·simp only;rw [k2.2.1,hd,wQ,wB]
  ·simp only;rw [k2.2.1];decide
  ·simp only;rw [k2.1];exact qZz _ _ _ _ _ _ _ hr hq
  ·simp only
   intro z
   have a:=k2.2.2.1 z
   exact ⟨a.2.1,qbA _ _ _ _ _ _ _ hpl.2.1 (hg a.1).2 a.2.2⟩
  ·simp only
   intro z
   rw [hDL] at z
   have a:=hs (by omega)
   have c:=k2.2.2.2 a.1 (by rw [hL];omega)
   exact ⟨c.1,by rw [wl];omega⟩
 ·have e:wi (s.2.1++[b]).length=((s.2.1++[b]).length:Int):=rfl
  rw [e,hL] at k
  refine uc ⟨pre,Ps,?_,?_,hr,hg,fun z=>hs (by rw [hDL] at z;omega)⟩
  ·simp only;rw [hd,wB]
  ·simp only;rw [hL];omega
theorem qHr {l:Int} {p0:qba} (hp:WfP l 0 p0):∀(v done:List Bool) (s:qUh),WfR l p0 done s→done.length+v.length<1000000→Tot (qDf v s) (WfR l p0 (done++v))
 |[],done,s,h,hM=>uc (by rw [wQ];exact h)
 |b::v,done,s,h,hM=>by
  unfold qDf
  simp only [ww] at hM
  refine Tot.b (qpD hp h (by omega) b) (fun t ht=>Tot.mono (qHr hp v (done++[b]) t ht (by rw [wl,wv];omega)) (fun r hr=>?_))
  rw [wB] at hr
  exact hr
def qAj (x:Int):List Int:=[x/16777216%256,x/65536%256,x/256%256,x%256]
theorem qJt (x:Int):Bts (qAj x):=by
 intro y hy
 simp only [qAj,wU,wlb,or_false] at hy
 omega
theorem qeK {e:qka} (h:qfi e):qkm e=some (if e.2.2.1.length>19996 then ([],4) else (e.2.2.1++qAj e.1,0)):=by
 obtain ⟨⟨hE,hB⟩,hl⟩:=h
 have hc:qff e=some 0:=by
  rw [qbi]
  simp only [wj,qyd _ (show (0:Int)<16777216 by decide)]
  exact ug (ub (by have:=hE.2.1;omega) (ua (by decide) (ua (by decide) (ut hE.2.2.2 (ub (by omega) (uc rfl))))))
 rw [qZo]
 simp only [wj]
 refine ug (ue hc (ud rfl ?_))
 by_cases hg:e.2.2.1.length>19996
 ·rw [if_pos hg]
  exact uf (by omega) (uc rfl)
 ·rw [if_neg hg]
  refine ub (by omega) ?_
  rw [qXo]
  have hL:∀a b c d:Int,(e.2.2.1++[a,b,c,d]).length=e.2.2.1.length+4:=fun a b c d=>by rw [wl];rfl
  refine Tot.b (P:=fun r=>r=e.2.2.1++qAj e.1) (ue (qZa _ (by omega)) (ua (by decide) (ua (by decide) (ua (by decide) (ua (by rw [hL];omega) (uc ?_)))))) (fun r hr=>uc (by rw [hr]))
  simp only [wu8,qyd _ (show (0:Int)<16777216 by decide),qyd _ (show (0:Int)<65536 by decide),qyd _ (show (0:Int)<256 by decide)]
  rfl
theorem qQD {l:Int} (hl:0≤l∧l≤7) {b:List Int} (hb:b.length≤4096):∃p0 q Ps r,qch l=some (p0,0)∧WfP l 0 p0∧qkC (quj b) p0 q Ps∧qlc l b=some r∧
  (r.2=0→∃ef,qfi ef∧qgF (quj b) Ps e0 ef∧r.1=ef.2.2.1++qAj ef.1∧ef.2.2.1.length≤19996)∧(b.length≤600→r.2=0):=by
 obtain ⟨rn,en,hn⟩:Tot (qch l) fun r=>r.2=0∧WfP l 0 r.1:=by
  obtain ⟨r,e,hr⟩:=qcN l
  refine ⟨r,e,?_⟩
  have h2:r.2=0:=by
   have:=qbN hl
   rw [e] at this
   obtain ⟨r',e',h'⟩:=this
   obtain rfl:=wMa e'
   exact h'
  exact ⟨h2,hr h2⟩
 have hp:=hn.2
 have hL:=qHl b
 have h0:WfR l rn.1 [] (rn.1,[],0,e0):=⟨[],[],rfl,by show 0<2000;decide,⟨rfl,rfl⟩,fun _=>⟨qlI,rfl⟩,fun _=>⟨rfl,by show 0≤0;decide⟩⟩
 obtain ⟨s,es,hs⟩:=qHr hp (quj b) [] _ h0 (by rw [wN];omega)
 rw [waa] at hs
 obtain ⟨pre,Ps,hd,hw,hr,hg,hsm⟩:=hs
 have hdl:(quj b).length=pre.length+s.2.1.length:=by
  have e9:(quj b).length=(pre++s.2.1).length:=congrArg we hd
  rw [wl] at e9
  exact e9
 have hpl:=qqw pre 0 rn.1 s.1 Ps hp (by omega) hr
 obtain ⟨q,Qs,hq⟩:=qPD s.2.1 (0+pre.length) s.1 hpl.1 (by omega)
 obtain ⟨f,ef,hf⟩:=qRv hpl.1 (by omega) (by omega) hq s.2.2.1 (fun z=>(hg z).1)
 have hstart:qpj l b.length=some (rn.1,0):=by
  rw [qYk]
  exact ug (ue en (ux hn.1 (ub (by omega) (uc (wmb rfl hn.1)))))
 have heach:qTf rn.1 b 0 e0=some (f.2.2.2.1,f.2.2.2.2):=by
  unfold qTf
  refine ug (ua (by omega) (ua (fun l' hl'=>?_) (ue es (ue ef (uc rfl)))))
  obtain ⟨r,e1,_⟩:=qHr hp l' [] _ h0 (by rw [wN];omega)
  rw [e1];rfl
 have hrun:qkC (quj b) rn.1 q (Ps++Qs):=by rw [hd];exact qZz _ _ _ _ _ _ _ hr hq
 by_cases hz:f.2.2.2.1=0
 ·have a:=hf.2.2.1 hz
  refine ⟨rn.1,q,Ps++Qs,if f.2.2.2.2.2.2.1.length>19996 then ([],4) else (f.2.2.2.2.2.2.1++qAj f.2.2.2.2.1,0),?_,hp,hrun,?_,?_,?_⟩
  ·rw [en];exact congrArg some (wmb rfl hn.1)
  ·rw [qqj]
   simp only [wj]
   exact ug (ue hstart (ud rfl (ue qTk (ue heach (ud hz (ue (qeK a.2.1) (uc rfl)))))))
  ·intro k
   by_cases hbig:f.2.2.2.2.2.2.1.length>19996
   ·rw [if_pos hbig] at k;exact absurd k (by decide)
   ·rw [if_neg hbig]
    refine ⟨f.2.2.2.2,a.2.1,?_,rfl,by omega⟩
    rw [hd];exact qbA _ _ _ _ _ _ _ hpl.2.1 (hg a.1).2 a.2.2
  ·intro k
   have a1:=hsm (by omega)
   have a2:=hf.2.2.2 a1.1 (by omega)
   rw [if_neg (by omega)]
 ·refine ⟨rn.1,q,Ps++Qs,([],4),?_,hp,hrun,?_,fun k=>absurd k (by decide),fun k=>?_⟩
  ·rw [en];exact congrArg some (wmb rfl hn.1)
  ·rw [qqj]
   simp only [wj]
   exact ug (ue hstart (ud rfl (ue qTk (ue heach (uz hz (uc rfl))))))
  ·have a1:=hsm (by omega)
   exact absurd (hf.2.2.2 a1.1 (by omega)).1 hz
theorem qtM {y z:Int} (h0:0≤y) (h1:y<4294967296) (hm:y%256=0) (z0:0≤z) (z1:z<256):qgc .u32 y z=y+z:=by
 have e:qgc .u32 y z=((wC 32 y ||| wC 32 z).toNat:Int):=by
  show wd .u32 ((wC 32 y ||| wC 32 z).toNat:Int)=_
  rw [qAs]
  have:=(wC 32 y ||| wC 32 z).isLt
  omega
 rw [e,BitVec.toNat_or,qsd 32 y h0 (by omega),qsd 32 z (by omega) (by omega)]
 have h2:y.toNat=2 ^ 8*(y.toNat/256):=by omega
 rw [h2,←Nat.two_pow_add_eq_or_of_lt (show z.toNat<2 ^ 8 by omega)]
 omega
theorem qVv {c:List Int} (i:Nat):qto c i=some (c.getD i 0):=by
 rw [qzz]
 simp only [wj]
 by_cases h:(i:Int)<c.length
 ·exact ug (uf h (ua (by omega) (ua h (uc (by rw [wA])))))
 ·refine ug (ub h (uc ?_))
  rw [wt,List.getElem?_eq_none (by omega)]
  rfl
theorem qyh {c:List Int} (hc:Bts c) (b8a b8ba b8bba:Int) (b8b:qqa) (h10:List Int) (x1 x2 x:Int) (cc:List Int) (u:Unit) (k:Nat) (hk:k<4) (hx0:0≤x) (hx1:x<4294967296):
  qfe c b8a b8ba b8bba b8b (x1,(x2,(x,(cc,((k:Int),u))))) h10=qfe c b8a b8ba b8bba b8b (x1,(x2,(x*256%4294967296+c.getD k 0,(cc,(((k+1:Nat):Int),u))))) h10:=by
 have hb:=qKg hc k
 rw [qnj,if_pos (by rw [decide_eq_true_eq];simp only;omega),qha (by decide)]
 simp only
 rw [qVv,wy,qAs,qAs,w64 (x:=(k:Int)+1) (by omega) (by omega)]
 have e:c.getD k 0%4294967296=c.getD k 0:=by omega
 rw [e,qtM (by omega) (by omega) (by omega) hb.1 hb.2]
 rfl
def qGn (e:qka) (c:List Int):qOa:=(e.1,(e.2.1,(at4 c e.2.2.1.length,(c,(((e.2.2.1.length+4:Nat):Int),())))))
theorem qKB {c:List Int} (hc:Bts c) (hl:c.length≤20000):qJp c=some (qGn e0 c,0):=by
 have h0:=qKg hc 0
 have h1:=qKg hc 1
 have h2:=qKg hc 2
 have h3:=qKg hc 3
 rw [qsx]
 simp only [wj]
 refine ug (ub (by omega) (ue (qZa _ (by omega)) (ue (v:=qGn e0 c) ?_ (uc rfl))))
 rw [qdt]
 have s0:=qyh hc 0 0 0 (0,()) [] 0 4294967295 0 c () 0 (by decide) (by omega) (by omega)
 rw [show ((0:Nat):Int)=0 from rfl] at s0
 rw [s0]
 have e0':(0:Int)*256%4294967296+c.getD 0 0=c.getD 0 0:=by omega
 rw [e0',qyh hc 0 0 0 (0,()) [] 0 4294967295 _ c () 1 (by decide) (by omega) (by omega),qyh hc 0 0 0 (0,()) [] 0 4294967295 _ c () 2 (by decide) (by omega) (by omega),qyh hc 0 0 0 (0,()) [] 0 4294967295 _ c () 3 (by decide) (by omega) (by omega)]
 rw [qnj,if_neg (by simp)]
 have e:((c.getD 0 0*256%4294967296+c.getD 1 0)*256%4294967296+c.getD 2 0)*256%4294967296+c.getD 3 0=at4 c 0:=by
  unfold at4
  simp only [wO]
  omega
 rw [e]
 rfl
theorem qxv {c:List Int} (hc:Bts c) (v:Bool) (u:Unit):∀(k:Nat) (a b:Int) (i:Nat),Shp4 k a b→i+k≤100000→
  qxf v (a,(b,(at4 c i,(c,(((i+4:Nat):Int),u)))))=some (v,((nrm k a b).1,((nrm k a b).2.1,(at4 c (i+(nrm k a b).2.2.length),(c,(((i+(nrm k a b).2.2.length+4:Nat):Int),u))))))
 |0,a,b,i,hs,hi=>by
  obtain ⟨_,hs⟩:=hs
  have:a=0∧b=4294967295:=by omega
  obtain ⟨rfl,rfl⟩:=this
  rw [qzl,qha (by decide),qha (by decide),if_neg (by show ¬((wV 0 16777216==wV 4294967295 16777216)=true);decide)]
  rfl
 |k+1,a,b,i,hs,hi=>by
  have hr:=hs.1
  have hb:=qKg hc (i+4)
  have h4:=qXE hc i
  rw [qzl,qha (by decide),qha (by decide)]
  simp only [qyd _ (show (0:Int)<16777216 by decide),beq_iff_eq]
  unfold nrm
  by_cases e:a/16777216=b/16777216
  ·rw [if_pos e,if_pos e,qha (by decide),qha (by decide),qha (by decide),qVv,wy]
   have ho:qgc .u32 (b*256%4294967296) 255=b*256%4294967296+255:=qsH (by omega) (by omega) (by omega)
   have e1:c.getD (i+4) 0%4294967296=c.getD (i+4) 0:=by omega
   rw [qAs,qAs,qAs,qAs,ho,e1,qtM (by omega) (by omega) (by omega) hb.1 hb.2,h4.1,w64 (by omega) (by omega)]
   have e2:((i+4:Nat):Int)+1=((i+1+4:Nat):Int):=by omega
   rw [e2,qxv hc v u k _ _ (i+1) (hs.step e) (by omega)]
   simp only [ww]
   have e3:i+1+(nrm k (a*256%4294967296) (b*256%4294967296+255)).2.2.length=i+((nrm k (a*256%4294967296) (b*256%4294967296+255)).2.2.length+1):=by omega
   rw [e3]
  ·rw [if_neg e,if_neg e]
   rfl
theorem qcK {c:List Int} (hc:Bts c) (hl:c.length≤20000) {e:qka} (h:qfi e) (hx1:e.1≤at4 c e.2.2.1.length) (hx2:at4 c e.2.2.1.length≤e.2.1) {p:Int} (hp0:0≤p) (hp1:p≤4095) (t:Bool)
  (ht:t=decide (at4 c e.2.2.1.length≤spl e.1 e.2.1 p)):
  qoj (qGn e c) p=some (qGn ((stp t e.1 e.2.1 p).1,((stp t e.1 e.2.1 p).2.1,(e.2.2.1++(stp t e.1 e.2.1 p).2.2,()))) c,(t,0)):=by
 obtain ⟨⟨hE,hB⟩,hn⟩:=h
 have hs:=qoA hE hp0 hp1
 have hsh:=qhw (t:=t) hE hp0 hp1
 have hlen:=(qEy 4 _ _ hsh).2.1
 have hcheck:qnm (qGn e c)=some 0:=by
  rw [qet]
  simp only [wj,qyd _ (show (0:Int)<16777216 by decide),qGn]
  exact ug (ub (by have:=hE.2.1;omega) (ua (by decide) (ua (by decide) (ut hE.2.2.2 (ub (by omega) (ub (by omega) (ub (by omega) (ub (by omega) (ub (by omega) (uc rfl))))))))))
 have hwrong:qmm p=some false:=by
  rw [qct]
  exact ug (ub (by omega) (uc (decide_eq_false (by omega))))
 have hsplit:qjm e.1 e.2.1 p=some (spl e.1 e.2.1 p,0):=by
  have hp:qSf p=some true:=by
   rw [qmj]
   exact ug (uf hp0 (uc (decide_eq_true hp1)))
  rw [qbt]
  exact ug (ub (by have:=hE.2.1;omega) (ue hp (uk (fun k=>absurd k (by decide)) (fun _=>ue (qHx hE hp0 hp1) (uc rfl)))))
 have hget:qIp p (qGn e c)=some (t,qGn ((stp t e.1 e.2.1 p).1,((stp t e.1 e.2.1 p).2.1,(e.2.2.1++(stp t e.1 e.2.1 p).2.2,()))) c):=by
  have key:=qxv hc t () 4 (qqG t e.1 e.2.1 p) (qpG t e.1 e.2.1 p) e.2.2.1.length hsh (by omega)
  have hfin:(t,((nrm 4 (qqG t e.1 e.2.1 p) (qpG t e.1 e.2.1 p)).1,((nrm 4 (qqG t e.1 e.2.1 p) (qpG t e.1 e.2.1 p)).2.1,(at4 c (e.2.2.1.length+(nrm 4 (qqG t e.1 e.2.1 p) (qpG t e.1 e.2.1 p)).2.2.length),(c,(((e.2.2.1.length+(nrm 4 (qqG t e.1 e.2.1 p) (qpG t e.1 e.2.1 p)).2.2.length+4:Nat):Int),()))))))=
    (t,qGn ((stp t e.1 e.2.1 p).1,((stp t e.1 e.2.1 p).2.1,(e.2.2.1++(stp t e.1 e.2.1 p).2.2,()))) c):=by
   unfold qGn stp
   simp only [wl]
  rw [hfin] at key
  rw [qrx]
  refine ug (ue hsplit ?_)
  have e1:(qGn e c).2.2.1=at4 c e.2.2.1.length:=rfl
  simp only
  rw [e1,←ht]
  refine um (fun k=>?_) (fun k=>?_)
  ·rw [k] at key ⊢
   refine uj ?_ rfl
   exact key
  ·have k':t=false:=by cases t with
    |true=>exact absurd rfl k
    |false=>rfl
   rw [k'] at key ⊢
   have w1:wd .u32 (spl e.1 e.2.1 p+1)=spl e.1 e.2.1 p+1:=by rw [qAs];have:=hE.1;have:=hE.2.2.1;omega
   rw [w1]
   refine uj ?_ rfl
   exact key
 rw [qtx]
 refine ug (ue hcheck (ud rfl (ue hwrong (up (ue (qZa _ (by show c.length≤1048576;omega)) (ue hget (ub ?_ (uc rfl))))))))
 show ¬(((e.2.2.1++(stp t e.1 e.2.1 p).2.2).length+4:Nat):Int)>1000000
 have hlen':(stp t e.1 e.2.1 p).2.2.length≤4:=hlen
 rw [wl]
 omega
theorem qCN:∀(bs:List Bool) (Ps:List Int) (e ef:qka),qfi e→(∀P∈Ps,1≤P∧P≤4095)→qgF bs Ps e ef→qfi ef→
  (∃rest,ef.2.2.1++qAj ef.1=e.2.2.1++rest)∧e.1≤at4 (ef.2.2.1++qAj ef.1) e.2.2.1.length∧at4 (ef.2.2.1++qAj ef.1) e.2.2.1.length≤e.2.1
 |[],Ps,e,ef,h,hP,hr,hf=>by
  have he:ef=e:=hr
  subst he
  refine ⟨⟨_,rfl⟩,?_⟩
  have hE:=h.1.1
  have e4:at4 (ef.2.2.1++qAj ef.1) ef.2.2.1.length=ef.1:=by
   have g:∀j,(ef.2.2.1++qAj ef.1).getD (ef.2.2.1.length+j) 0=(qAj ef.1).getD j 0:=fun j=>by
    rw [wt,wda (by omega),Nat.add_sub_cancel_left,←wt]
   have g0:=g 0
   rw [Nat.add_zero] at g0
   unfold at4
   rw [g0,g 1,g 2,g 3]
   show ef.1/16777216%256*16777216+ef.1/65536%256*65536+ef.1/256%256*256+ef.1%256=ef.1
   have:=hE.1
   have:=hE.2.1
   have:=hE.2.2.1
   omega
  rw [e4]
  exact ⟨wza _,by have:=hE.2.1;omega⟩
 |b::bs,Ps,e,ef,h,hP,hr,hf=>by
  obtain ⟨P,Ps',e1,rfl,hp,hr⟩:=hr
  have hPP:=hP P wK
  obtain ⟨r,er,hr1,_⟩:=qXz h (p:=P) b (by omega) hPP.2
  rw [hp] at er
  obtain rfl:=wMa er
  obtain ⟨hg,he⟩:=hr1 rfl
  simp only at hg he
  obtain ⟨⟨rest,h1⟩,h2,h3⟩:=qCN bs Ps' e1 ef hg (fun x hx=>hP x (wH _ hx)) hr hf
  have ho:e1.2.2.1=e.2.2.1++(stp b e.1 e.2.1 P).2.2:=by rw [he]
  have ha:e1.1=(stp b e.1 e.2.1 P).1:=by rw [he]
  have hb:e1.2.1=(stp b e.1 e.2.1 P).2.1:=by rw [he]
  have hcB:Bts (ef.2.2.1++qAj ef.1):=Bts.append hf.1.2 (qJt _)
  have hsh:=qhw (t:=b) h.1.1 (p:=P) (by omega) hPP.2
  have hlo:e1.2.2.1.length=e.2.2.1.length+(stp b e.1 e.2.1 P).2.2.length:=by rw [ho,wl]
  rw [ha,hlo] at h2
  rw [hb,hlo] at h3
  have hin:=qFy hcB 4 _ _ e.2.2.1.length hsh (fun j hj=>by
   have hj':j<(stp b e.1 e.2.1 P).2.2.length:=hj
   rw [h1,ho,wB]
   rw [wt,wda (by omega),Nat.add_sub_cancel_left,wha hj',←wt]
   rfl) h2 h3
  refine ⟨⟨(stp b e.1 e.2.1 P).2.2++rest,by rw [h1,ho,wB]⟩,?_⟩
  have hs:=qoA h.1.1 (p:=P) (by omega) hPP.2
  unfold qqG qpG at hin
  cases b with
  |true=>rw [if_pos rfl,if_pos rfl] at hin;omega
  |false=>rw [if_neg (by decide),if_neg (by decide)] at hin;omega
theorem qbL {bs:List Bool} {b:Bool} {P:Int} {Ps:List Int} {e e1 ef:qka} (h:qfi e) (hP:∀x∈P::Ps,1≤x∧x≤4095) (hp:qSe e P b=some (e1,0)) (hr:qgF bs Ps e1 ef) (hf:qfi ef):
  qfi e1∧qoj (qGn e (ef.2.2.1++qAj ef.1)) P=(if (ef.2.2.1++qAj ef.1).length≤20000 then some (qGn e1 (ef.2.2.1++qAj ef.1),(b,0)) else qoj (qGn e (ef.2.2.1++qAj ef.1)) P):=by
 have hPP:=hP P wK
 obtain ⟨r,er,hr1,_⟩:=qXz h (p:=P) b (by omega) hPP.2
 rw [hp] at er
 obtain rfl:=wMa er
 obtain ⟨hg,he⟩:=hr1 rfl
 simp only at hg he
 refine ⟨hg,?_⟩
 by_cases hl:(ef.2.2.1++qAj ef.1).length≤20000
 rotate_left
 ·rw [if_neg hl]
 rw [if_pos hl]
 have hcB:Bts (ef.2.2.1++qAj ef.1):=Bts.append hf.1.2 (qJt _)
 have hen:=qCN (b::bs) (P::Ps) e ef h hP ⟨P,Ps,e1,rfl,hp,hr⟩ hf
 have hbit:b=decide (at4 (ef.2.2.1++qAj ef.1) e.2.2.1.length≤spl e.1 e.2.1 P):=by
  obtain ⟨⟨rest,h1⟩,h2,h3⟩:=qCN bs Ps e1 ef hg (fun x hx=>hP x (wH _ hx)) hr hf
  have ho:e1.2.2.1=e.2.2.1++(stp b e.1 e.2.1 P).2.2:=by rw [he]
  have ha:e1.1=(stp b e.1 e.2.1 P).1:=by rw [he]
  have hb:e1.2.1=(stp b e.1 e.2.1 P).2.1:=by rw [he]
  have hsh:=qhw (t:=b) h.1.1 (p:=P) (by omega) hPP.2
  have hlo:e1.2.2.1.length=e.2.2.1.length+(stp b e.1 e.2.1 P).2.2.length:=by rw [ho,wl]
  rw [ha,hlo] at h2
  rw [hb,hlo] at h3
  have hin:=qFy hcB 4 _ _ e.2.2.1.length hsh (fun j hj=>by
   have hj':j<(stp b e.1 e.2.1 P).2.2.length:=hj
   rw [h1,ho,wB]
   rw [wt,wda (by omega),Nat.add_sub_cancel_left,wha hj',←wt]
   rfl) h2 h3
  unfold qqG qpG at hin
  cases b with
  |true=>rw [if_pos rfl,if_pos rfl] at hin;rw [decide_eq_true hin.2]
  |false=>rw [if_neg (by decide),if_neg (by decide)] at hin;rw [decide_eq_false (by omega)]
 have:=qcK hcB hl h hen.2.1 hen.2.2 (p:=P) (by omega) hPP.2 b hbit
 rw [this,he]
def qYM (v:Int) (b:Bool):Int:=if b=true then wd .u8 (wd .u8 (v*2)+1) else wd .u8 (v*2)
theorem qVJ:∀z:Fin 256,(qNp (z.val:Int)).foldl qYM 0=(z.val:Int):=by decide+kernel
theorem qMI {z:Int} (h:0≤z∧z<256):(qNp z).foldl qYM 0=z:=by
 have:=qVJ ⟨z.toNat,by omega⟩
 have e:((z.toNat:Nat):Int)=z:=by omega
 simp only [e] at this
 exact this
theorem qIK {l:Int} (c:List Int) (ef:qka) (hf:qfi ef) (hcd:c=ef.2.2.1++qAj ef.1) (hcl:c.length≤20000) (v2:Int) (h10:List Int):∀(bs:List Bool) (rest:List Bool) (N:Int) (j:Nat) (v:Int) (p q:qba) (e:qka) (Ps:List Int),
  j+bs.length=8→WfP l N p→N+((bs++rest).length:Int)<1073741824→qfi e→qkC (bs++rest) p q Ps→qgF (bs++rest) Ps e ef→
  ∃p' e' Ps',qId v2 v (j:Int) p (qGn e c) h10=qId v2 (bs.foldl qYM v) 8 p' (qGn e' c) h10∧WfP l (N+bs.length) p'∧qfi e'∧qkC rest p' q Ps'∧qgF rest Ps' e' ef
 |[],rest,N,j,v,p,q,e,Ps,hj,hp,hN,he,hr,hE=>by
  obtain rfl:j=8:=by simpa using hj
  exact ⟨p,e,Ps,rfl,by simpa using hp,he,hr,hE⟩
 |b::bs,rest,N,j,v,p,q,e,Ps,hj,hp,hN,he,hr,hE=>by
  simp only [ww] at hj
  rw [wba] at hr hE hN
  simp only [ww] at hN
  have hw:=qqw (b::(bs++rest)) N p q Ps hp (by rw [ww];omega) hr
  obtain ⟨p1,P,Ps',k,hr,rfl⟩:=hr
  obtain ⟨P',Ps'',e1,hPe,hput,hE⟩:=hE
  obtain ⟨rfl,rfl⟩:=List.cons.inj hPe
  have hs:=qYz hp (by omega) k
  have hb:=qbL he hw.2.2 hput hE hf
  have hget:=hb.2
  rw [←hcd,if_pos hcl] at hget
  have ih:=qIK c ef hf hcd hcl v2 h10 bs rest (N+1) (j+1) (qYM v b) p1 q e1 Ps' (by omega) hs.1 (by omega) hb.1 hr hE
  obtain ⟨p',e',Ps2,h1,h2,h3,h4,h5⟩:=ih
  refine ⟨p',e',Ps2,?_,?_,h3,h4,h5⟩
  ·rw [List.foldl_cons,←h1,qwk,if_pos (by rw [decide_eq_true_eq];omega),qZM hp k,wy]
   simp only
   rw [hget,wy]
   simp only
   rw [qMD hp k,wy,w64 (x:=(j:Int)+1) (by omega) (by omega)]
   have e3:(j:Int)+1=((j+1:Nat):Int):=by omega
   rw [e3]
   unfold qYM
   cases b with
   |true=>rw [if_pos rfl,if_pos rfl]
   |false=>rw [if_neg (by decide),if_neg (by decide)]
  ·have e4:N+1+(bs.length:Int)=N+((b::bs).length:Int):=by rw [ww];omega
   rw [←e4];exact h2
theorem qnG (z:Int) (zs:List Int):quj (z::zs)=qNp z++quj zs:=rfl
theorem qJK {l:Int} (c:List Int) (ef:qka) (hf:qfi ef) (hcd:c=ef.2.2.1++qAj ef.1) (hcl:c.length≤20000):∀(zs:List Int) (hs:List Int) (N:Int) (p q:qba) (e:qka) (Ps:List Int),Bts zs→hs.length+zs.length≤4096→
  WfP l N p→N+8*(zs.length:Int)<1073741824→qfi e→qkC (quj zs) p q Ps→qgF (quj zs) Ps e ef→qHg ((hs.length+zs.length:Nat):Int) p (qGn e c) hs=some (hs++zs,0)
 |[],hs,N,p,q,e,Ps,hz,hl,hp,hN,he,hr,hE=>by
  rw [qxk,if_neg (by simp),wQ]
 |z::zs,hs,N,p,q,e,Ps,hz,hl,hp,hN,he,hr,hE=>by
  simp only [ww] at hl hN
  have hb8:=qRn z
  have hL:=qHl zs
  rw [qnG] at hr hE
  obtain ⟨p',e',Ps',h1,h2,h3,h4,h5⟩:=qIK c ef hf hcd hcl ((hs.length+(z::zs).length:Nat):Int) hs (qNp z) (quj zs) N 0 0 p q e Ps (by omega) hp (by rw [wl];omega) he hr hE
  rw [qMI (hz z wK)] at h1
  rw [show ((0:Nat):Int)=0 from rfl] at h1
  rw [qxk,if_pos (by simp;omega),h1,qwk,if_neg (by decide),qha (by rw [wl,wv];omega)]
  have ih:=qJK c ef hf hcd hcl zs (hs++[z]) (N+(qNp z).length) p' q e' Ps' (fun x hx=>hz x (wH _ hx)) (by rw [wl,wv];omega) h2 (by omega) h3 h4 h5
  have e6:(hs++[z]).length+zs.length=hs.length+(z::zs).length:=by rw [wl,wv,ww];omega
  rw [e6] at ih
  rw [ih,wB]
  rfl
theorem qxw {l:Int} (hl:0≤l∧l≤7) {b:List Int} (hB:Bts b) (hb:b.length≤4096) {c:List Int} (h:qlc l b=some (c,0)):qMn l c b.length=some (b,0):=by
 obtain ⟨p0,q,Ps,r,hn,hp,hr,he,hr0,_⟩:=qQD hl hb
 rw [h] at he
 obtain rfl:=wMa he
 obtain ⟨ef,hf,hE,hc,hlen⟩:=hr0 rfl
 simp only at hc
 have hcB:Bts c:=by rw [hc];exact Bts.append hf.1.2 (qJt _)
 have hcl:c.length≤20000:=by rw [hc,wl];show _+4≤_;omega
 have hstart:qpj l 0=some (p0,0):=by
  rw [qYk]
  exact ug (ue hn (ux rfl (ub (by decide) (uc rfl))))
 have hL:=qHl b
 have:=qJK c ef hf hc hcl b [] 0 p0 q e0 Ps hB (by rw [wN];omega) hp (by omega) qlI hr hE
 rw [wN,wO,waa] at this
 rw [qdw]
 refine ug (ue hstart (ud rfl (ub (by omega) (ub (by omega) (ue (qKB hcB hcl) (ud rfl ?_))))))
 exact uj this rfl
def U32 (x:Int):Prop:=0≤x∧x<4294967296
theorem qOz (v:BitVec 32):wd .u32 (v.toNat:Int)=v.toNat:=by
 have:=v.isLt
 rw [qAs];omega
theorem qRM (v:BitVec 32):wC 32 (v.toNat:Int)=v:=by
 apply BitVec.eq_of_toNat_eq
 rw [BitVec.toNat_ofInt]
 have:=v.isLt
 omega
theorem bX (x y:Int):qSb .u32 x y=((wC 32 x ^^^ wC 32 y).toNat:Int):=qOz _
theorem bO (x y:Int):qgc .u32 x y=((wC 32 x ||| wC 32 y).toNat:Int):=qOz _
theorem bA (x y:Int):qUa .u32 x y=((wC 32 x &&& wC 32 y).toNat:Int):=qOz _
theorem w_u (x:Int):U32 (wd .u32 x):=by rw [qAs];unfold U32;omega
theorem qHN (b c d:Int):qSb .u32 d (qUa .u32 b (qSb .u32 c d))=qgc .u32 (qUa .u32 b c) (qUa .u32 (qSb .u32 4294967295 b) d):=by
 simp only [bX,bO,bA,qRM]
 congr 2
 have h1:wC 32 4294967295=BitVec.allOnes 32:=by decide
 rw [h1]
 ext i hi
 simp only [BitVec.getElem_xor,BitVec.getElem_and,BitVec.getElem_or,BitVec.getElem_allOnes]
 cases (wC 32 b)[i] <;> cases (wC 32 c)[i] <;> cases (wC 32 d)[i] <;> rfl
theorem qxM (b c d:Int):qgc .u32 (qUa .u32 b c) (qUa .u32 d (qgc .u32 b c))=qgc .u32 (qgc .u32 (qUa .u32 b c) (qUa .u32 b d)) (qUa .u32 c d):=by
 simp only [bX,bO,bA,qRM]
 congr 2
 ext i hi
 simp only [BitVec.getElem_xor,BitVec.getElem_and,BitVec.getElem_or]
 cases (wC 32 b)[i] <;> cases (wC 32 c)[i] <;> cases (wC 32 d)[i] <;> rfl
def rot (a:Int) (s:Int):Int:=qgc .u32 (wd .u32 (qEw .u32 a s)) (qTl .u32 a (32 - s))
theorem qqL {x b:Int} (hx:U32 x) (hb:0≤b∧b<256):qgc .u32 (wd .u32 (x*256)) (wd .u32 b)=wd .u32 (wd .u32 (x*256)+wd .u32 b):=by
 rw [bO]
 simp only [qAs]
 have h1:b%4294967296=b:=by omega
 rw [h1]
 obtain ⟨n,rfl⟩:=Int.eq_ofNat_of_zero_le hb.1
 obtain ⟨q,hq⟩:∃q:Nat,(x*256)%4294967296=((2 ^ 8*q:Nat):Int)∧2 ^ 8*q<4294967296:=by
  refine ⟨(x%16777216).toNat,?_,?_⟩ <;> simp <;> omega
 have hn:n<2 ^ 8:=by omega
 rw [hq.1]
 have e:∀m:Nat,m<4294967296→(wC 32 (m:Int)).toNat=m:=fun m hm=>by
  rw [BitVec.toNat_ofInt];omega
 rw [BitVec.toNat_or,e _ hq.2,e n (by omega),←Nat.two_pow_add_eq_or_of_lt hn]
 have:=hq.2
 omega
theorem qhu (a:Int):qlb a 1=some (rot a 1)∧qlb a 5=some (rot a 5)∧qlb a 30=some (rot a 30):=by
 have h1:qUa .u64 (wd .u64 1) 31=1:=by kernel_rfl
 have h5:qUa .u64 (wd .u64 5) 31=5:=by kernel_rfl
 have h30:qUa .u64 (wd .u64 30) 31=30:=by kernel_rfl
 have w1:wd .u64 ((32:Int) - 1)=32 - 1:=by kernel_rfl
 have w5:wd .u64 ((32:Int) - 5)=32 - 5:=by kernel_rfl
 have w30:wd .u64 ((32:Int) - 30)=32 - 30:=by kernel_rfl
 refine ⟨?_,?_,?_⟩ <;> rw [qOk]
 ·rw [h1,w1,qha (by omega),qha (by omega)];rfl
 ·rw [h5,w5,qha (by omega),qha (by omega)];rfl
 ·rw [h30,w30,qha (by omega),qha (by omega)];rfl
def qgO (n:Int):Int:=wd .u64 (wd .u64 n*8)
def qjA (n:Int):Nat→List Int
 |0=>[]
 |k+1=>wd .u8 (qTl .u64 (qgO n) (8*(k:Int)))::qjA n k
def qZI (n:Int):List Int:=[128]++wn ((119 - n%64)%64).toNat 0++qjA n 8
theorem qhA (n:Int):∀k,(qjA n k).length=k
 |0=>rfl
 |k+1=>by simp [qjA,qhA n k]
theorem qiM (x:Int):0≤wd .u8 x∧wd .u8 x<256:=by rw [wu8];omega
theorem qiA (n:Int):∀k,Bts (qjA n k)
 |0=>Bts.nil
 |k+1=>Bts.cons (qiM _) (qiA n k)
theorem qwJ (n:Int):Bts (qZI n):=by
 refine Bts.append (Bts.append (Bts.cons (by omega) Bts.nil) (fun x hx=>?_)) (qiA n 8)
 have:=(List.mem_replicate.1 hx).2;omega
theorem qvJ (n:Int) (h:0≤n):((n+(qZI n).length)%64=0∧(qZI n).length≤72):=by
 simp only [qZI,wl,ww,wN,wX,qhA]
 omega
theorem qZm (n:Int):∀(k:Nat) (h:List Int),k≤8→h.length+k≤1000→qgo n (8*(k:Int) - 8) h=some (h++qjA n k)
 |0,h,hk,hl=>by
  rw [qYp,if_neg (by simp)]
  simp [qjA]
 |k+1,h,hk,hl=>by
  have e:8*((k+1:Nat):Int) - 8=8*(k:Int):=by omega
  rw [e,qYp,if_pos (by simp;omega),qha (by omega),qha (by simp;omega),w64 (by omega) (by omega),qZm n k _ (by omega) (by simp;omega)]
  simp [qjA,qgO]
theorem qvA (n:Int) (h:0≤n):qwC n=some (qZI n):=by
 rw [qqF,qha (by omega),qha (by omega),qYg h,w64 (by omega) (by omega),qYg (by omega),qha (by omega),qha (by omega),qha (by omega),qha (by simp;omega)]
 have:=qZm n 8 ([128]++wn ((119 - n%64)%64).toNat 0) (by omega) (by simp;omega)
 exact this
theorem qhG (a b:List Int) (h:a.length+b.length≤1000000):qVd [a,b]=some (a++b):=by
 have ha:wi a.length=(a.length:Int):=rfl
 have hb:wi b.length=(b.length:Int):=rfl
 rw [qBj]
 rw [qwc,if_pos (by simp),qha (by omega),qha (by simp)]
 simp only [List.getD_cons_zero,Int.toNat_zero,ha]
 rw [w64 (x:=0+(a.length:Int)) (by omega) (by omega),if_neg (by simp),w64 (x:=0+1) (by omega) (by omega)]
 rw [qwc,if_pos (by simp),qha (by omega),qha (by simp)]
 simp only [show (0+1:Int).toNat=1 from rfl,List.getD_cons_succ,List.getD_cons_zero,hb]
 rw [w64 (x:=0+(a.length:Int)+(b.length:Int)) (by omega) (by omega),if_neg (by simp <;> omega),w64 (x:=0+1+1) (by omega) (by omega)]
 rw [qwc,if_neg (by simp)]
 have hg:∃r,qDe (0+(a.length:Int)+(b.length:Int))=some (r,0,0):=by
  rw [qjl,if_neg (by simp;omega),w64 (by omega) (by omega)]
  by_cases hz:(0+(a.length:Int)+(b.length:Int)) - 0>0
  ·rw [if_pos (by simpa using hz),qha (by omega),qha (by omega),qha (by omega),qha (by omega),qha (by omega),qha (by simp;omega),qha (by omega),qha (by simp;omega)]
   exact ⟨_,rfl⟩
  ·rw [if_neg (by simpa using hz)];exact ⟨_,rfl⟩
 obtain ⟨r,hr⟩:=hg
 rw [hr]
 simp only [wy]
 rw [qZh,if_pos (by simp),qha (by omega),qha (by simp),qha (by simp;omega),w64 (by omega) (by omega)]
 simp only [List.getD_cons_zero,Int.toNat_zero,List.take_zero,waa]
 rw [qce,if_pos (by simp),qha (by omega),qha (by simp),qha (by simp;omega),w64 (by omega) (by omega)]
 rw [qce,if_neg (by simp)]
 rfl
def bt (x b:Int):Int:=wd .u32 (wd .u32 (x*256)+wd .u32 b)
theorem qIN (x b:Int):U32 (bt x b):=w_u _
def qhM (b:List Int) (t:Nat):Int:=bt (bt (bt (wd .u32 (b.getD (4*t) 0)) (b.getD (4*t+1) 0)) (b.getD (4*t+2) 0)) (b.getD (4*t+3) 0)
def qXr (b:List Int) (t:Nat):Nat→List Int
 |0=>[]
 |k+1=>qhM b t::qXr b (t+1) k
theorem qFi (b:List Int):∀(k t:Nat),(qXr b t k).length=k
 |0,t=>rfl
 |k+1,t=>by simp [qXr,qFi b k]
theorem qYt (W:List Int) (x v:Int) (R:List Int):(W++x::R).set W.length v=W++v::R:=by
 induction W with
 |nil=>rfl
 |cons a W ih=>simp [ih]
theorem qTH (W:List Int) (x:Int) (R:List Int):(W++x::R).getD W.length 0=x:=by
 induction W with
 |nil=>rfl
 |cons a W ih=>simp
theorem qGI {b:List Int} (h:Bts b) (i:Nat):0≤b.getD i 0∧b.getD i 0<256:=by
 rw [wt]
 cases hi:b[i]? with
 |none=>simp
 |some x=>exact h x (List.mem_of_getElem? hi)
theorem qyz (b:List Int) (hb:b.length=64) (hB:Bts b) (x y W R:List Int) (i t:Nat) (v:Int) (hv:U32 v) (hi:i<64) (ht:i/4=t) (hW:W.length=t):
  qTi b 64 (i:Int) x y (W++v::R)=qTi b 64 ((i:Int)+1) x y (W++bt v (b.getD i 0)::R):=by
 have hb':wi b.length=64:=by rw [hb];rfl
 have e:(wd .i64 (wIa (i:Int) 4))=(t:Int):=by
  rw [qJl (by omega),w64 (by omega) (by omega)];omega
 rw [qds,if_pos (by simp;omega),hb',e]
 rw [qha (by omega),qha (by omega),qha (by omega),qha (by omega),qha (by omega),qha (by omega),qha (by omega),qha (by omega),qha (by omega)]
 have et:((t:Int)).toNat=W.length:=by omega
 have ei:((i:Int)).toNat=i:=by omega
 rw [et,ei,qTH,qYt,qqL hv (qGI hB i),w64 (x:=(i:Int)+1) (by omega) (by omega)]
 rfl
theorem qOM (b:List Int) (hb:b.length=64) (hB:Bts b) (x y:List Int):∀(k t:Nat) (W:List Int),t+k=16→W.length=t→
  qTi b 64 (4*(t:Int)) x y (W++wn k 0)=qTi b 64 64 x y (W++qXr b t k)
 |0,t,W,e,hl=>by
  have:4*(t:Int)=64:=by omega
  rw [this];rfl
 |k+1,t,W,e,hl=>by
  have c:∀j:Nat,((4*t+j:Nat):Int)=4*(t:Int)+(j:Int):=fun j=>by omega
  have s0:=qyz b hb hB x y W (wn k 0) (4*t) t 0 (by unfold U32;omega) (by omega) (by omega) hl
  have s1:=qyz b hb hB x y W (wn k 0) (4*t+1) t (bt 0 (b.getD (4*t) 0)) (qIN _ _) (by omega) (by omega) hl
  have s2:=qyz b hb hB x y W (wn k 0) (4*t+2) t (bt (bt 0 (b.getD (4*t) 0)) (b.getD (4*t+1) 0)) (qIN _ _) (by omega) (by omega) hl
  have s3:=qyz b hb hB x y W (wn k 0) (4*t+3) t (bt (bt (bt 0 (b.getD (4*t) 0)) (b.getD (4*t+1) 0)) (b.getD (4*t+2) 0)) (qIN _ _) (by omega) (by omega) hl
  rw [show ((4*t:Nat):Int)=4*(t:Int) by omega] at s0
  rw [show ((4*t+1:Nat):Int)=4*(t:Int)+1 by omega] at s1
  rw [show ((4*t+2:Nat):Int)=4*(t:Int)+1+1 by omega] at s2
  rw [show ((4*t+3:Nat):Int)=4*(t:Int)+1+1+1 by omega] at s3
  have h0:bt 0 (b.getD (4*t) 0)=wd .u32 (b.getD (4*t) 0):=by
   have:=qGI hB (4*t)
   simp only [bt,qAs];omega
  rw [List.replicate_succ,s0,s1,s2,s3,h0]
  have ih:=qOM b hb hB x y k (t+1) (W++[qhM b t]) (by omega) (by simp;omega)
  rw [show 4*((t+1:Nat):Int)=4*(t:Int)+1+1+1+1 by omega] at ih
  simp only [wB,List.singleton_append] at ih
  exact ih
def qtL (a b c d:Int):Int:=rot (qSb .u32 (qSb .u32 (qSb .u32 a b) c) d) 1
def sch:Nat→List Int→List Int
 |0,h=>h
 |k+1,h=>sch k (h++[qtL (h.getD (h.length - 3) 0) (h.getD (h.length - 8) 0) (h.getD (h.length - 14) 0) (h.getD (h.length - 16) 0)])
theorem qBn {h r:List Int} {t:Nat} (ht:t<h.length):(h++r).getD t 0=h.getD t 0:=by
 simp [wt,wha ht]
theorem qkp:∀(k:Nat) (h:List Int) (t:Nat),t<h.length→(sch k h).getD t 0=h.getD t 0
 |0,h,t,ht=>rfl
 |k+1,h,t,ht=>by
  rw [sch,qkp k _ t (by simp;omega),qBn ht]
theorem qnK:∀(k:Nat) (h:List Int) (t:Nat),16≤h.length→h.length≤t→t<h.length+k→
  (sch k h).getD t 0=qtL ((sch k h).getD (t - 3) 0) ((sch k h).getD (t - 8) 0) ((sch k h).getD (t - 14) 0) ((sch k h).getD (t - 16) 0)
 |0,h,t,h1,h2,h3=>by omega
 |k+1,h,t,h1,h2,h3=>by
  by_cases he:t=h.length
  ·subst he
   rw [sch]
   rw [qkp k _ h.length (by simp),qkp k _ (h.length - 3) (by simp;omega),qkp k _ (h.length - 8) (by simp;omega),qkp k _ (h.length - 14) (by simp;omega),qkp k _ (h.length - 16) (by simp;omega)]
   rw [qTH,qBn (by omega),qBn (by omega),qBn (by omega),qBn (by omega)]
  ·rw [sch]
   exact qnK k _ t (by simp;omega) (by simp;omega) (by simp;omega)
def ff (t:Nat) (b c d:Int):Int×Int:=
 if t<20 then (qgc .u32 (qUa .u32 b c) (qUa .u32 (qSb .u32 4294967295 b) d),1518500249)
 else if t<40 then (qSb .u32 (qSb .u32 b c) d,1859775393)
 else if t<60 then (qgc .u32 (qgc .u32 (qUa .u32 b c) (qUa .u32 b d)) (qUa .u32 c d),2400959708)
 else (qSb .u32 (qSb .u32 b c) d,3395469782)
theorem qCJ (t:Nat) (b c d:Int) (ht:t<80):qxC (wd .i64 (wIa (t:Int) 20)) b c d=some (ff t b c d).1∧G_quarters.getD (wd .i64 (wIa (t:Int) 20)).toNat 0=(ff t b c d).2∧0≤wd .i64 (wIa (t:Int) 20)∧wd .i64 (wIa (t:Int) 20)<4:=by
 have e:wd .i64 (wIa (t:Int) 20)=((t/20:Nat):Int):=by
  rw [qJl (by omega),w64 (by omega) (by omega)];omega
 rw [e,qrF]
 unfold ff
 by_cases h1:t<20
 ·have:t/20=0:=by omega
  rw [this,if_pos (by simp),if_pos h1,qHN]
  exact ⟨rfl,rfl,by omega,by omega⟩
 ·rw [if_neg h1]
  by_cases h2:t<40
  ·have:t/20=1:=by omega
   rw [this,if_neg (by simp),if_neg (by simp),if_pos h2]
   exact ⟨rfl,rfl,by omega,by omega⟩
  ·rw [if_neg h2]
   by_cases h3:t<60
   ·have:t/20=2:=by omega
    rw [this,if_neg (by simp),if_pos (by simp),if_pos h3,qxM]
    exact ⟨rfl,rfl,by omega,by omega⟩
   ·have:t/20=3:=by omega
    rw [this,if_neg (by simp),if_neg (by simp),if_neg h3]
    exact ⟨rfl,rfl,by omega,by omega⟩
structure S5 where
 a:Int
 b:Int
 c:Int
 d:Int
 e:Int
def S5.l (s:S5):List Int:=[s.a,s.b,s.c,s.d,s.e]
def rd (t:Nat) (w:Int) (s:S5):S5:=
 ⟨wd .u32 (wd .u32 (wd .u32 (wd .u32 (rot s.a 5+(ff t s.b s.c s.d).1)+s.e)+(ff t s.b s.c s.d).2)+w),s.a,rot s.b 30,s.c,s.d⟩
def qsN (W:List Int):Nat→Nat→S5→S5
 |0,_,s=>s
 |k+1,t,s=>qsN W k (t+1) (rd t (W.getD t 0) s)
def qoO (x:List Int) (s:S5):List Int:=[wd .u32 (x.getD 0 0+s.a),wd .u32 (x.getD 1 0+s.b),wd .u32 (x.getD 2 0+s.c),wd .u32 (x.getD 3 0+s.d),wd .u32 (x.getD 4 0+s.e)]
def blk (x:S5) (b:List Int):S5:=
 let s:=qsN (sch 64 (qXr b 0 16)) 80 0 x
 ⟨wd .u32 (x.a+s.a),wd .u32 (x.b+s.b),wd .u32 (x.c+s.c),wd .u32 (x.d+s.d),wd .u32 (x.e+s.e)⟩
def qQN (W:List Int) (t:Nat) (r:List Int):Prop:=r.length=16∧∀i,i<max t 16→max t 16≤i+16→r.getD (i%16) 0=W.getD i 0
theorem qGE {r:List Int} {i j:Nat} {v:Int} (hi:i<r.length):(r.set i v).getD j 0=if i=j then v else r.getD j 0:=by
 simp only [wt,List.getElem?_set]
 by_cases h:i=j
 ·subst h;simp [hi]
 ·simp [h]
theorem qHL (x y W:List Int) (hW:∀t,16≤t→t<80→W.getD t 0=qtL (W.getD (t - 3) 0) (W.getD (t - 8) 0) (W.getD (t - 14) 0) (W.getD (t - 16) 0)):
  ∀(k t:Nat) (s:S5) (r:List Int),t+k=80→qQN W t r→qan s.a s.b s.c s.d s.e (t:Int) x y r=some (qoO x (qsN W k t s))
 |0,t,s,r,e,hr=>by
  rw [qcs,if_neg (by simp;omega)]
  repeat rw [qha (by omega)]
  rfl
 |k+1,t,s,r,e,hr=>by
  obtain ⟨m1,m2,m3,m4⟩:=qCJ t s.b s.c s.d (by omega)
  obtain ⟨r1,r5,r30⟩:=qhu s.a
  obtain ⟨_,_,q30⟩:=qhu s.b
  have et:(Int.tmod (t:Int) 16)=((t%16:Nat):Int):=by rw [qYg (by omega)];omega
  have ett:(((t%16:Nat):Int)).toNat=t%16:=by omega
  rw [qcs,if_pos (by simp;omega)]
  by_cases h16:16≤t
  ·have e13:(Int.tmod (wd .i64 ((t:Int)+13)) 16)=(((t - 3)%16:Nat):Int):=by rw [w64 (by omega) (by omega),qYg (by omega)];omega
   have e8:(Int.tmod (wd .i64 ((t:Int)+8)) 16)=(((t - 8)%16:Nat):Int):=by rw [w64 (by omega) (by omega),qYg (by omega)];omega
   have e2:(Int.tmod (wd .i64 ((t:Int)+2)) 16)=(((t - 14)%16:Nat):Int):=by rw [w64 (by omega) (by omega),qYg (by omega)];omega
   have e0:t%16=(t - 16)%16:=by omega
   have v13:=hr.2 (t - 3) (by omega) (by omega)
   have v8:=hr.2 (t - 8) (by omega) (by omega)
   have v2:=hr.2 (t - 14) (by omega) (by omega)
   have v0:=hr.2 (t - 16) (by omega) (by omega)
   rw [←e0] at v0
   have hn:rot (qSb .u32 (qSb .u32 (qSb .u32 (r.getD ((t - 3)%16) 0) (r.getD ((t - 8)%16) 0)) (r.getD ((t - 14)%16) 0)) (r.getD (t%16) 0)) 1=W.getD t 0:=by
    rw [v13,v8,v2,v0,hW t h16 (by omega)];rfl
   rw [if_pos (by simp;omega)]
   simp only [et,e13,e8,e2,(qhu _).1,r5,q30,m1,m2,wy,w64 (x:=(t:Int)+1) (by omega) (by omega),wA,hn]
   repeat rw [qha (by omega)]
   have hr':qQN W (t+1) (r.set (t%16) (W.getD t 0)):=by
    refine ⟨by simp [hr.1],fun i h1 h2=>?_⟩
    rw [qGE (by rw [hr.1];omega)]
    by_cases hi:i=t
    ·subst hi;rw [if_pos rfl]
    ·rw [if_neg (by omega)]
     exact hr.2 i (by omega) (by omega)
   have hg:(r.set (t%16) (W.getD t 0)).getD (t%16) 0=W.getD t 0:=by
    rw [qGE (by rw [hr.1];omega),if_pos rfl]
   have ih:=qHL x y W hW k (t+1) (rd t (W.getD t 0) s) _ (by omega) hr'
   rw [show ((t+1:Nat):Int)=(t:Int)+1 by omega] at ih
   rw [hg]
   exact ih
  ·have v0:=hr.2 t (by omega) (by omega)
   rw [if_neg (by simp;omega)]
   simp only [et,r5,q30,m1,m2,wy,w64 (x:=(t:Int)+1) (by omega) (by omega),wA,v0]
   repeat rw [qha (by omega)]
   have hr':qQN W (t+1) r:=⟨hr.1,fun i h1 h2=>hr.2 i (by omega) (by omega)⟩
   have ih:=qHL x y W hW k (t+1) (rd t (W.getD t 0) s) _ (by omega) hr'
   rw [show ((t+1:Nat):Int)=(t:Int)+1 by omega] at ih
   exact ih
theorem qGL (x:S5) (b:List Int) (hb:64≤b.length) (hB:Bts b):qOG x.l b=some (blk x (b.take 64)).l:=by
 have hl:(b.take 64).length=64:=by simp;omega
 have hl':wi (b.take 64).length=64:=by rw [hl];rfl
 rw [qNG,qha (by omega),qha (by simp;omega),hl']
 have h1:=qOM (b.take 64) hl (hB.take 64) x.l (wn 5 0) 16 0 [] rfl rfl
 refine Eq.trans h1 ?_
 rw [waa,qds,if_neg (by simp)]
 repeat rw [qha (by omega)]
 have hW:∀t,16≤t→t<80→_:=fun t h1 h2=>qnK 64 (qXr (b.take 64) 0 16) t (by rw [qFi];omega) (by rw [qFi];exact h1) (by rw [qFi];omega)
 have h2:=qHL x.l (wn 5 0) (sch 64 (qXr (b.take 64) 0 16)) hW 80 0 x (qXr (b.take 64) 0 16) rfl ⟨qFi _ _ _,fun i h1 h2=>by
  have hi:i<16:=by omega
  rw [qkp 64 _ i (by rw [qFi];exact hi),Nat.mod_eq_of_lt hi]⟩
 refine Eq.trans h2 ?_
 rfl
def qCj (l:List Int) (i:Nat):Int:=wd .u8 (qTl .u32 (l.getD (i/4) 0) (24 - 8*((i%4:Nat):Int)))
def qpL (l:List Int) (t:Nat):Nat→List Int
 |0=>[]
 |k+1=>qCj l t::qpL l (t+1) k
theorem qpE (l:List Int):∀(k t:Nat),(qpL l t k).length=k
 |0,t=>rfl
 |k+1,t=>by simp [qpL,qpE l k]
theorem qqE (l:List Int):∀(k t:Nat),Bts (qpL l t k)
 |0,t=>Bts.nil
 |k+1,t=>Bts.cons (qiM _) (qqE l k _)
theorem qlK (l:List Int):∀(k t:Nat) (P:List Int),t+k=5→P.length=4*t→qho l (t:Int) (P++wn (4*k) 0)=some (P++qpL l (4*t) (4*k),0)
 |0,t,P,e,hl=>by
  rw [qZp,if_neg (by simp;omega)];rfl
 |k+1,t,P,e,hl=>by
  rw [qZp,if_pos (by simp;omega)]
  simp only [w64 (x:=4*(t:Int)) (by omega) (by omega),w64 (x:=4*(t:Int)+1) (by omega) (by omega),w64 (x:=4*(t:Int)+2) (by omega) (by omega),w64 (x:=4*(t:Int)+3) (by omega) (by omega),w64 (x:=(t:Int)+1) (by omega) (by omega)]
  repeat rw [qha (by omega)]
  rw [show ((t:Int)).toNat=t by omega,show (4*(t:Int)).toNat=P.length by omega]
  have s0:wd .u8 (wV (l.getD t 0) 16777216)=qCj l (4*t):=by
   unfold qCj qTl
   rw [show 4*t/4=t by omega,show 4*t%4=0 by omega];rfl
  have s1:wd .u8 (wV (l.getD t 0) 65536)=qCj l (4*t+1):=by
   unfold qCj qTl
   rw [show (4*t+1)/4=t by omega,show (4*t+1)%4=1 by omega];rfl
  have s2:wd .u8 (wV (l.getD t 0) 256)=qCj l (4*t+2):=by
   unfold qCj qTl
   rw [show (4*t+2)/4=t by omega,show (4*t+2)%4=2 by omega];rfl
  have s3:wd .u8 (l.getD t 0)=qCj l (4*t+3):=by
   unfold qCj qTl
   rw [show (4*t+3)/4=t by omega,show (4*t+3)%4=3 by omega]
   have:(2:Int) ^ (min ((24:Int) - 8*((3:Nat):Int)).toNat (IntKind.bits .u32))=1:=rfl
   rw [this,Int.fdiv_one]
  rw [s0,s1,s2,s3,show 4*(k+1)=4*k+1+1+1+1 by omega,List.replicate_succ,List.replicate_succ,List.replicate_succ,List.replicate_succ,qYt]
  have a1:=qYt (P++[qCj l (4*t)]) 0 (qCj l (4*t+1)) (0::0::wn (4*k) 0)
  have a2:=qYt (P++[qCj l (4*t),qCj l (4*t+1)]) 0 (qCj l (4*t+2)) (0::wn (4*k) 0)
  have a3:=qYt (P++[qCj l (4*t),qCj l (4*t+1),qCj l (4*t+2)]) 0 (qCj l (4*t+3)) (wn (4*k) 0)
  simp only [wB,wba,waa,wl,ww,wN] at a1 a2 a3
  rw [show (4*(t:Int)+1).toNat=P.length+(0+1) by omega,a1,show (4*(t:Int)+2).toNat=P.length+(0+1+1) by omega,a2,show (4*(t:Int)+3).toNat=P.length+(0+1+1+1) by omega,a3]
  have ih:=qlK l k (t+1) (P++[qCj l (4*t),qCj l (4*t+1),qCj l (4*t+2),qCj l (4*t+3)]) (by omega) (by simp;omega)
  rw [show ((t+1:Nat):Int)=(t:Int)+1 by omega] at ih
  simp only [wB,wba,waa] at ih
  exact ih
def qJN:Nat→S5→List Int→S5
 |0,x,_=>x
 |k+1,x,m=>qJN k (blk x (m.take 64)) (m.drop 64)
theorem qmK:∀(k:Nat) (x:S5) (m:List Int),m.length=64*k→Bts m→qio m (wn 20 0) x.l=some (qpL (qJN k x m).l 0 20,0)
 |0,x,m,hl,hB=>by
  obtain rfl:m=[]:=List.eq_nil_of_length_eq_zero (by omega)
  rw [qaq,if_neg (by simp)]
  exact qlK x.l 5 0 [] rfl rfl
 |k+1,x,m,hl,hB=>by
  rw [qaq,if_pos (by rw [decide_eq_true_eq];have:wi m.length=(m.length:Int):=rfl;omega),qGL x m (by omega) hB]
  simp only [wy]
  rw [qha (by omega),qha (by simp;omega)]
  exact qmK k _ (m.drop 64) (by simp;omega) (hB.drop 64)
def iv:S5:=⟨1732584193,4023233417,2562383102,271733878,3285377520⟩
def qtw (a:List Int):List Int:=qpL (qJN ((a++qZI a.length).length/64) iv (a++qZI a.length)).l 0 20
theorem qot (a:List Int):(qtw a).length=20:=qpE _ _ _
theorem qry (a:List Int):Bts (qtw a):=qqE _ _ _
theorem qDt (a:List Int) (hB:Bts a):qXt a=some (if a.length≤20000 then (qtw a,0) else (wn 20 0,4)):=by
 have ha:wi a.length=(a.length:Int):=rfl
 rw [qsF,ha]
 by_cases h:a.length≤20000
 ·have hp:=qvJ (a.length:Int) (by omega)
  rw [if_neg (by simp;omega),if_pos h,qvA _ (by omega)]
  simp only [wy]
  rw [qhG _ _ (by omega)]
  simp only [wy]
  have hm:(a++qZI a.length).length=64*((a++qZI a.length).length/64):=by
   simp only [wl];omega
  exact qmK _ iv (a++qZI a.length) hm (hB.append (qwJ _))
 ·rw [if_pos (by simp;omega),if_neg h]
def hOK (h:qla):Prop:=0≤h.2.1∧h.2.1<16∧1≤h.2.2.2.1∧h.2.2.2.1≤4096∧0≤h.2.2.1∧h.2.2.1+h.2.2.2.1≤8192∧((h.1=1∧h.2.2.2.2.1=h.2.2.2.1)∨(h.1=2∧0<h.2.2.2.2.1∧h.2.2.2.2.1<h.2.2.2.1))
instance (h:qla):Decidable (hOK h):=by unfold hOK;infer_instance
def hC (h:qla):Int:=if hOK h then 0 else 8
theorem qec (h:qla):qRd h=some (hC h):=by
 rw [qsv]
 obtain ⟨m,mem,off,raw,len,sum,u⟩:=h
 simp only [hC,decide_eq_true_eq,beq_iff_eq]
 by_cases hr:1≤raw∧raw≤4096
 ·rw [w64 (by omega) (by omega)]
  by_cases ok:hOK (m,mem,off,raw,len,sum,u)
  ·rw [if_pos ok];simp only [hOK] at ok
   rw [if_neg (by omega),if_neg (by omega),if_neg (by omega),if_neg (by omega),if_neg (by omega),if_neg (by omega)]
   rcases ok.2.2.2.2.2.2 with ⟨h1,h2⟩|⟨h1,h2,h3⟩
   ·rw [if_pos h1,if_pos h2,if_pos h2]
   ·rw [if_neg (by omega),if_pos h1,if_pos h2,if_pos h3]
  ·rw [if_neg ok];simp only [hOK] at ok
   by_cases h1:mem<0
   ·rw [if_pos h1]
   by_cases h2:mem≥16
   ·rw [if_neg h1,if_pos h2,if_pos h2]
   by_cases h3:off<0
   ·rw [if_neg h1,if_neg h2,if_neg (by omega),if_neg (by omega),if_pos h3]
   by_cases h4:off>8192 - raw
   ·rw [if_neg h1,if_neg h2,if_neg (by omega),if_neg (by omega),if_neg h3,if_pos h4]
   rw [if_neg h1,if_neg h2,if_neg (by omega),if_neg (by omega),if_neg h3,if_neg h4]
   by_cases h5:m=1
   ·rw [if_pos h5,if_neg (by omega),if_neg (by omega)]
   by_cases h6:m=2
   ·rw [if_neg h5,if_pos h6]
    by_cases h7:len>0
    ·rw [if_pos h7,if_neg (by omega)]
    ·rw [if_neg h7]
   ·rw [if_neg h5,if_neg h6]
 ·rw [if_neg (show ¬hOK (m,mem,off,raw,len,sum,u) from fun ok=>hr (by simp only [hOK] at ok;omega))]
  by_cases h1:mem<0
  ·rw [if_pos h1]
  by_cases h2:mem≥16
  ·rw [if_neg h1,if_pos h2,if_pos h2]
  by_cases h3:raw<1
  ·rw [if_neg h1,if_neg h2,if_pos h3]
  ·rw [if_neg h1,if_neg h2,if_neg h3,if_pos (by omega),if_pos (by omega)]
def bC (b:qza):Int:=if hOK b.1∧(b.2.1.length:Int)=b.1.2.2.2.2.1 then 0 else 8
theorem qyL (h:qla):(hC h != 0)=true↔¬hOK h:=by
 unfold hC;split <;> simp_all
theorem qdi (b:qza):qum b=some (bC b):=by
 rw [qBx,qec]
 simp only [wy,qyL]
 simp only [bC,bne_iff_ne,ne_eq,wj]
 by_cases h1:hOK b.1 <;> by_cases h2:(b.2.1.length:Int)=b.1.2.2.2.2.1 <;> simp [h1,h2]
def fr8 (h:qla):List Int:=[h.1%256,h.2.1%256,(h.2.2.1/256)%256,h.2.2.1%256,(h.2.2.2.1/256)%256,h.2.2.2.1%256,(h.2.2.2.2.1/256)%256,h.2.2.2.2.1%256]
theorem qXN (a:Int):qTl .i64 a 0=a:=by rw [qMG _ _ (by omega) (by omega)];simp
theorem qiO (a:Int):qTl .i64 a 8=a/256:=by rw [qMG _ _ (by omega) (by omega)];rfl
theorem qzG (n:Int) (h:-9223372036854775808≤n∧n≤9223372036854775807):wd .i64 n=n:=w64 h.1 h.2
theorem qlB (v18:List Int) (v19:Int) (h8:List Int) (v:Int) (h0:0≤v19) (h4:v19<5) (hw:G_widths.getD v19.toNat 0=1) (hv:v18.getD v19.toNat 0=v) (hl:h8.length≤100):
  qLc v18 v19 h8=qLc v18 (v19+1) (h8++[v%256]):=by
 rw [qAg,if_pos (by simpa using h4),qha h0,qha h4,qha h0,qha h4,hw,hv]
 rw [qid,if_pos (by decide),qha h0,qha h4,hw]
 rw [qzG ((1:Int) - 1) (by omega),qzG ((1:Int) - 1 - 0) (by omega),qzG ((8:Int)*(1 - 1 - 0)) (by omega),qzG ((0:Int)+1) (by omega)]
 rw [qha (by omega),qha (by simp;omega)]
 rw [qid,if_neg (by decide),w64 (x:=v19+1) (by omega) (by omega),wu8]
 rw [show (8*(1 - 1 - 0):Int)=0 by decide,qXN]
theorem qAv (v18:List Int) (v19:Int) (h8:List Int) (v:Int) (h0:0≤v19) (h4:v19<5) (hw:G_widths.getD v19.toNat 0=2) (hv:v18.getD v19.toNat 0=v) (hl:h8.length≤100):
  qLc v18 v19 h8=qLc v18 (v19+1) (h8++[(v/256)%256,v%256]):=by
 rw [qAg,if_pos (by simpa using h4),qha h0,qha h4,qha h0,qha h4,hw,hv]
 rw [qid,if_pos (by decide),qha h0,qha h4,hw]
 rw [qzG ((2:Int) - 1) (by omega),qzG ((2:Int) - 1 - 0) (by omega),qzG ((8:Int)*(2 - 1 - 0)) (by omega),qzG ((0:Int)+1) (by omega)]
 rw [qha (by omega),qha (by simp;omega)]
 rw [qid,if_pos (by decide),qha h0,qha h4,hw]
 rw [qzG ((2:Int) - 1) (by omega),qzG ((2:Int) - 1 - (0+1)) (by omega),qzG ((8:Int)*(2 - 1 - (0+1))) (by omega),qzG ((0:Int)+1+1) (by omega)]
 rw [qha (by omega),qha (by simp;omega)]
 rw [qid,if_neg (by decide),w64 (x:=v19+1) (by omega) (by omega),wu8,wu8]
 rw [show (8*(2 - 1 - 0):Int)=8 by decide,show (8*(2 - 1 - (0+1)):Int)=0 by decide,qXN,qiO]
 simp
theorem qul (h:qla) (hm:0≤h.1∧h.1<256):qmk h=some (fr8 h):=by
 rw [qpv,w64 (by omega) (by omega)]
 simp only [wn,List.set_cons_zero,List.set_cons_succ]
 rw [qlB _ 0 _ h.1 (by decide) (by decide) (by decide) rfl (by decide)]
 rw [qlB _ (0+1) _ h.2.1 (by decide) (by decide) (by decide) rfl (by simp)]
 rw [qAv _ (0+1+1) _ h.2.2.1 (by decide) (by decide) (by decide) rfl (by simp)]
 rw [qAv _ (0+1+1+1) _ h.2.2.2.1 (by decide) (by decide) (by decide) rfl (by simp)]
 rw [qAv _ (0+1+1+1+1) _ h.2.2.2.2.1 (by decide) (by decide) (by decide) rfl (by simp)]
 rw [qAg,if_neg (by decide)]
 simp [fr8]
def mark:List Int:=[183,98,105,116,108,111,102,116,32,98,108,107,10]
theorem qdf:qMh=some mark:=by rw [qfv,qha (by decide)];rfl
def hB (h:qla):List Int:=fr8 h++h.2.2.2.2.2.1
theorem qAr (h:qla):(fr8 h).length=8:=rfl
theorem qAq (h:qla) (hm:0≤h.1∧h.1<256) (hs:h.2.2.2.2.2.1.length=20):qgm h=some (if hOK h then (hB h,0) else ([],8)):=by
 rw [qWs,qec]
 simp only [wy,qyL]
 by_cases ok:hOK h
 ·rw [if_neg (by simpa using ok),if_pos ok,qul h hm]
  simp only [wy]
  rw [qha (by simp [qAr];omega)]
  simp only [hB,wla]
  rw [wL (by omega)]
 ·rw [if_pos ok,if_neg ok];simp [hC,ok]
theorem qxn (v0 v42:List (List Int)) (v5 v44:Int) (n:Nat) (hn:v44=n) (hlt:n<v42.length) (h5:0≤v5) (hl:v5+(v42.getD n []).length≤140737488355328) (hb:v42.length≤1000):
  qif v0 [] v5 v42 (wi v42.length) v44=qif v0 [] (v5+(v42.getD n []).length) v42 (wi v42.length) (n+1:Nat):=by
 subst hn
 rw [qOm]
 simp only [wj,wA]
 rw [if_pos (by simp;omega),qha (by omega),qha (by omega),if_neg (by simp only [decide_eq_true_eq];rw [w64 (by omega) (by omega)];omega),w64 (by omega) (by omega),w64 (by omega) (by omega)]
 rfl
theorem qdr (a b c:List Int) (o:Nat) (h:o=a.length) (hl:b.length≤c.length):qwb (a++c) o b=a++b++c.drop b.length:=by
 subst h
 unfold qwb
 simp [List.drop_append]
theorem qMH (N:Nat) (v70:List (List Int)):∀(d n:Nat) (pre rest:List Int),v70.length - n=d→n≤v70.length→pre.length+rest.length=N→(v70.drop n).flatten.length≤rest.length→v70.length≤1000→N≤140737488355328→
  qBi [] 0 N (pre.length:Int) v70 (wi v70.length) (n:Int) (pre++rest)=some (pre++(v70.drop n).flatten++rest.drop (v70.drop n).flatten.length,(0,N))
 |0,n,pre,rest,hd,hn,hN,hl,hb,hN2=>by
  rw [qNm,if_neg (by simp;omega)]
  have:v70.drop n=[]:=List.drop_eq_nil_iff.2 (by omega)
  rw [this]
  simp only [List.flatten_nil,wN,wla,wQ]
 |d+1,n,pre,rest,hd,hn,hN,hl,hb,hN2=>by
  have hlt:n<v70.length:=by omega
  have hdr:v70.drop n=v70[n]::v70.drop (n+1):=woa hlt
  rw [hdr,wsb,wl] at hl
  have hg:v70.getD n []=v70[n]:=by simp [wm,hlt]
  rw [qNm]
  simp only [wj,wA,wN,Nat.zero_min,wO,hg]
  rw [if_pos (by simp;omega),qha (by omega),qha (by omega),qha (by omega),qha (by omega)]
  rw [w64 (x:=(pre.length:Int)+((0:Nat):Int)) (by omega) (by omega)]
  rw [qha (by omega),qha (by omega)]
  rw [show ((0:Nat):Int)=0 from rfl,Int.add_zero,wA]
  have hmin:min v70[n].length (N - pre.length)=v70[n].length:=by omega
  rw [hmin,wOa,List.take_nil]
  have hs1:qwb (pre++rest) pre.length []=pre++rest:=by rw [qdr _ _ _ _ rfl (by simp)];simp
  rw [hs1,qdr _ _ _ _ rfl (by omega)]
  rw [w64 (x:=(pre.length:Int)+(v70[n].length:Int)) (by omega) (by omega),w64 (x:=(n:Int)+1) (by omega) (by omega)]
  have:=qMH N v70 d (n+1) (pre++v70[n]) (rest.drop v70[n].length) (by omega) (by omega) (by simp only [wl,wga];omega) (by simp only [wga];omega) hb hN2
  simp only [wl,Int.natCast_add,wj,show ((1:Nat):Int)=1 from rfl] at this
  rw [this,hdr,wsb]
  simp [wka]
theorem qFD (a b c:List Int) (ha:a.length≤100000) (hb:b.length≤100000) (hc:c.length≤100000):qSr [a,b,c] []=some (a++(b++c),(0,(a++(b++c)).length)):=by
 rw [qMz,if_neg (by simp),if_neg (by simp),if_neg (by simp)]
 rw [show wi (we [a,b,c])=wi [a,b,c].length from rfl]
 rw [qxn [a,b,c] [a,b,c] 0 0 0 rfl (by simp) (by simp) (by first|(simp;omega)|simp) (by simp)]
 rw [qxn [a,b,c] [a,b,c] _ _ 1 rfl (by simp) (by first|(simp;omega)|simp) (by first|(simp;omega)|simp) (by simp)]
 rw [qxn [a,b,c] [a,b,c] _ _ 2 rfl (by simp) (by first|(simp;omega)|simp) (by first|(simp;omega)|simp) (by simp)]
 rw [qOm,if_neg (by simp)]
 simp only [List.getD_cons_zero,List.getD_cons_succ,List.drop_succ_cons,wla,wYa]
 generalize hN:(0+(a.length:Int)+(b.length:Int)+(c.length:Int))=N
 rw [qha (by omega),qha (by omega)]
 have hNn:N.toNat=a.length+b.length+c.length:=by omega
 refine qiw (wn N.toNat 0) (by simp) (fun r hr=>?_)
 rw [qha (by omega),qha (by omega),qha (by simp only [wj];omega),qha (by simp),qha (by simp),qha (by simp),qha (by simp)]
 have hmin:min a.length N.toNat=a.length:=by omega
 rw [hmin,wOa]
 have hs:qwb r 0 a=a++r.drop a.length:=by
  have:=qdr [] a r 0 rfl (by omega)
  simpa using this
 rw [hs]
 have:=qMH N.toNat [b,c] 2 0 a (r.drop a.length) rfl (by simp) (by simp only [wga];omega) (by first|(simp;omega)|simp) (by simp) (by omega)
 simp only [wj] at this ⊢
 rw [show ((0:Nat):Int)=0 from rfl] at this
 rw [this]
 simp only [wla,wsb,List.flatten_nil,wQ]
 rw [wgb (by first|(simp;omega)|simp)]
 simp
 omega
def bB (b:qza):List Int:=mark++hB b.1++b.2.1
def bWf (b:qza):Prop:=(0≤b.1.1∧b.1.1<256)∧b.1.2.2.2.2.2.1.length=20
theorem qLN (b:qza):(bC b != 0)=true↔bC b=8:=by unfold bC;split <;> simp
theorem qPm (b:qza) (hw:bWf b):qtm b=some (if bC b=0 then ((bB b,(0,(bB b).length)),0) else (([],(0,0)),8)):=by
 rw [qAx,qdi]
 simp only [wy,qLN]
 by_cases h0:bC b=0
 ·rw [if_neg (by omega),if_pos h0,qAq _ hw.1 hw.2]
  have hok:hOK b.1∧(b.2.1.length:Int)=b.1.2.2.2.2.1:=by
   unfold bC at h0
   split at h0
   ·assumption
   ·cases h0
  simp only [wy,if_pos hok.1,qdf]
  have hl:(hB b.1).length=28:=by simp [hB,qAr,hw.2]
  have hlen:b.2.1.length≤5000:=by have:=hok.1;unfold hOK at this;omega
  rw [qFD _ _ _ (by decide) (by omega) (by omega)]
  simp [bB]
 ·have h8:bC b=8:=by unfold bC at h0 ⊢;split <;> simp_all
  rw [if_pos h8,if_neg h0,h8]
theorem qrE (a b:Nat) (ha:a<4294967296) (hb:b<256):qgc .i64 ((a:Int)*256) (b:Int)=(a:Int)*256+b:=by
 unfold qgc
 have h1:wC 64 ((a:Int)*256)=BitVec.ofNat 64 (a*256):=by
  rw [show (a:Int)*256=((a*256:Nat):Int) by omega];exact BitVec.ofInt_natCast _ _
 have h2:wC 64 (b:Int)=BitVec.ofNat 64 b:=BitVec.ofInt_natCast _ _
 show wd .i64 ((wC 64 ((a:Int)*256) ||| wC 64 (b:Int)).toNat:Int)=_
 rw [h1,h2,BitVec.toNat_or,BitVec.toNat_ofNat,BitVec.toNat_ofNat,Nat.mod_eq_of_lt (by omega),Nat.mod_eq_of_lt (by omega)]
 have h3:=Nat.two_pow_add_eq_or_of_lt (i:=8) (b:=b) (by omega) a
 rw [show a*256=2 ^ 8*a by omega,←h3,w64 (by omega) (by omega)]
 omega
theorem qxJ {x y:Int} (hx:0≤x∧x<4294967296) (hy:0≤y∧y<256):qgc .i64 (x*256) y=x*256+y:=by
 obtain ⟨a,rfl⟩:=Int.eq_ofNat_of_zero_le hx.1
 obtain ⟨b,rfl⟩:=Int.eq_ofNat_of_zero_le hy.1
 exact qrE a b (by omega) (by omega)
theorem qkB {α:Type} (xs:List α) (i:Nat) (x d:α) (h:i<xs.length):(xs.set i x).getD i d=x:=by
 simp [wm,h]
theorem Bts.getD {xs:List Int} (h:Bts xs) (i:Nat):0≤xs.getD i 0∧xs.getD i 0<256:=by
 by_cases hi:i<xs.length
 ·simp only [wt,wx hi,wJa];exact h _ (List.getElem_mem hi)
 ·simp [wt,List.getElem?_eq_none (by omega:xs.length≤i)]
theorem qnr (v0:List Int) (v5 v17 v18:Int) (b8:qla) (b9:List Int) (h0:0≤v5) (h5:v5<5) (hlt:v18<v17) (h18:0≤v18) (h17:v17≤2) (hb:Bts v0) (hl:0<v0.length) (hx:0≤b9.getD v5.toNat 0∧b9.getD v5.toNat 0<256):
  qQe v0 v5 G_widths v5 v17 v18 b8 b9=qQe (v0.drop 1) v5 G_widths v5 v17 (v18+1) b8 (b9.set v5.toNat (b9.getD v5.toNat 0*256+v0.getD 0 0)):=by
 have hy:=hb.getD 0
 rw [qBg,if_pos (by simpa using hlt)]
 rw [qha h0,qha h5,qha (by decide),qha (by decide),qha (by simp only [wj];omega),qha h0,qha h5,qha (by decide),qha (by simp only [wj];omega)]
 rw [w64 (x:=v18+1) (by omega) (by omega),w64 (x:=b9.getD v5.toNat 0*256) (by omega) (by omega),w64 (x:=v0.getD 0 0) (by omega) (by omega),qxJ ⟨hx.1,by omega⟩ hy]
theorem qQA (v0:List Int) (v5:Int) (b8:qla) (b9:List Int) (h0:0≤v5) (h5:v5<5) (hw:G_widths.getD v5.toNat 0=1) (hb:Bts v0) (hl:0<v0.length) (hx:b9.getD v5.toNat 0=0) (hn:b9.length=5):
  qMc v0 G_widths v5 b8 b9=qMc (v0.drop 1) G_widths (v5+1) b8 (b9.set v5.toNat (v0.getD 0 0)):=by
 rw [qCg,if_pos (by simpa using h5),qha h0,qha h5,hw,qnr v0 v5 1 0 b8 b9 h0 h5 (by decide) (by decide) (by decide) hb hl (by rw [hx];decide)]
 rw [qBg,if_neg (by decide),w64 (x:=v5+1) (by omega) (by omega),hx,Int.zero_mul,Int.zero_add]
theorem qDu (v0:List Int) (v5:Int) (b8:qla) (b9:List Int) (h0:0≤v5) (h5:v5<5) (hw:G_widths.getD v5.toNat 0=2) (hb:Bts v0) (hl:1<v0.length) (hx:b9.getD v5.toNat 0=0) (hn:b9.length=5):
  qMc v0 G_widths v5 b8 b9=qMc (v0.drop 2) G_widths (v5+1) b8 (b9.set v5.toNat (v0.getD 0 0*256+v0.getD 1 0)):=by
 have hy:=hb.getD 0
 have hi:v5.toNat<b9.length:=by omega
 have hg:(v0.drop 1).getD 0 0=v0.getD 1 0:=by simp [wt]
 rw [qCg,if_pos (by simpa using h5),qha h0,qha h5,hw,qnr v0 v5 2 0 b8 b9 h0 h5 (by decide) (by decide) (by decide) hb (by omega) (by rw [hx];decide)]
 rw [hx,Int.zero_mul,Int.zero_add (v0.getD 0 0)]
 rw [qnr (v0.drop 1) v5 2 (0+1) b8 _ h0 h5 (by decide) (by decide) (by decide) (hb.drop 1) (by simp;omega) (by rw [qkB _ _ _ _ hi];exact hy)]
 rw [qBg,if_neg (by decide),w64 (x:=v5+1) (by omega) (by omega),qkB _ _ _ _ hi,List.set_set,wka,hg]
def zH:qla:=(0,(0,(0,(0,(0,(wn 20 0,()))))))
def pH (a:List Int):qla:=(a.getD 0 0,(a.getD 1 0,(a.getD 2 0*256+a.getD 3 0,(a.getD 4 0*256+a.getD 5 0,(a.getD 6 0*256+a.getD 7 0,(a.drop 8,()))))))
def pP (a:List Int):qla×Int:=if a.length=28∧hOK (pH a) then (pH a,0) else (zH,12)
theorem qmI (a:List Int) (k i:Nat):(a.drop k).getD i 0=a.getD (k+i) 0:=by simp [wt]
theorem qvl (a:List Int) (hb:Bts a):qPh a=some (pP a):=by
 rw [qrv]
 by_cases hl:a.length=28
 ·rw [if_neg (by simp [hl])]
  have hrep:(wn 5 (0:Int))=[0,0,0,0,0]:=rfl
  rw [hrep]
  rw [qQA a 0 _ _ (by decide) (by decide) (by decide) hb (by omega) (by decide) (by decide)]
  rw [qQA (a.drop 1) (0+1) _ _ (by decide) (by decide) (by decide) (hb.drop 1) (by simp;omega) (by simp) (by simp)]
  rw [qDu _ (0+1+1) _ _ (by decide) (by decide) (by decide) ((hb.drop 1).drop 1) (by simp;omega) (by simp) (by simp)]
  rw [qDu _ (0+1+1+1) _ _ (by decide) (by decide) (by decide) (((hb.drop 1).drop 1).drop 2) (by simp;omega) (by simp) (by simp)]
  rw [qDu _ (0+1+1+1+1) _ _ (by decide) (by decide) (by decide) ((((hb.drop 1).drop 1).drop 2).drop 2) (by simp;omega) (by simp) (by simp)]
  rw [qCg,if_neg (by decide)]
  iterate 10 rw [qha (by decide)]
  simp only [wka,qmI]
  have h0:=hb.getD 0
  have hsp:qwb (wn 20 (0:Int)) 0 (wM (min (wea (1+1+2+2+2) a).length 20) (wea (1+1+2+2+2) a))=a.drop 8:=by
   have hln:(a.drop 8).length=20:=by simp [hl]
   show qwb (wn 20 (0:Int)) 0 (wM (min (a.drop 8).length 20) (a.drop 8))=a.drop 8
   rw [hln,wL (by omega)]
   unfold qwb
   simp [hl]
  rw [hsp]
  have e0:(([0,0,0,0,0]:List Int).set (wo 0) (a.getD 0 0) |>.set (wo (0+1)) (a.getD (1+0) 0) |>.set (wo (0+1+1)) (a.getD (1+1+0) 0*256+a.getD (1+1+1) 0) |>.set (wo (0+1+1+1)) (a.getD (1+1+2+0) 0*256+a.getD (1+1+2+1) 0) |>.set (wo (0+1+1+1+1)) (a.getD (1+1+2+2+0) 0*256+a.getD (1+1+2+2+1) 0))=[a.getD 0 0,a.getD 1 0,a.getD 2 0*256+a.getD 3 0,a.getD 4 0*256+a.getD 5 0,a.getD 6 0*256+a.getD 7 0]:=rfl
  rw [e0]
  simp only [List.getD_cons_zero,List.getD_cons_succ,wu8,Int.emod_eq_of_lt h0.1 h0.2]
  rw [qec]
  show (some (hC (pH a))).bind _=_
  simp only [wy,qyL]
  unfold pP
  by_cases ok:hOK (pH a)
  ·rw [if_neg (by simpa using ok),if_pos ⟨hl,ok⟩];rfl
  ·rw [if_pos ok,if_neg (fun h=>ok h.2)];rfl
 ·rw [if_pos (by simp;omega)]
  unfold pP
  rw [if_neg (fun h=>hl h.1)];rfl
theorem qvt:Bts mark:=by
 intro x hx
 simp [mark] at hx
 omega
theorem qre:mark.length=13:=rfl
theorem qYw (a:List Int) (hb:Bts a) (h1:41≤a.length) (h2:a.length≤50000):qvn a 0=some (decide (a.take 13=mark),0):=by
 rw [qms,qxg,if_neg (by simp;omega),if_neg (by decide),if_neg (by simp)]
 simp only [wy]
 rw [if_neg (by decide),qha (by decide),qha (by simp),qdf]
 simp only [wy]
 rw [qyk,if_pos (by simp [qre];omega),qha (by simp),qha (by simp [qre];omega),qal]
 simp only [wy]
 rw [qLM ((hb.drop _).take _) qvt]
 rfl
def rdK (a:List Int):qza×Int×Int:=
 if a.length>50000 then ((zH,([],())),(0,4)) else if a.length<41 then ((zH,([],())),(0,18))
 else if a.take 13≠mark∨¬hOK (pH ((a.drop 13).take 28)) then ((zH,([],())),(0,12))
 else if (a.length:Int)<41+(pH ((a.drop 13).take 28)).2.2.2.2.1 then ((zH,([],())),(0,18))
 else ((pH ((a.drop 13).take 28),((a.drop 41).take (pH ((a.drop 13).take 28)).2.2.2.2.1.toNat,())),(41+(pH ((a.drop 13).take 28)).2.2.2.2.1,0))
theorem qRH {h:qla} (ok:hOK h):1≤h.2.2.2.2.1∧h.2.2.2.2.1≤4096:=by unfold hOK at ok;omega
theorem qvN (a:List Int) (h:41≤a.length):pP ((a.drop 13).take 28)=if hOK (pH ((a.drop 13).take 28)) then (pH ((a.drop 13).take 28),0) else (zH,12):=by
 have hl:((a.drop 13).take 28).length=28:=by simp;omega
 unfold pP
 simp only [hl,true_and]
theorem qgw (a:List Int) (hb:Bts a):qxo a=some (rdK a):=by
 rw [qRz]
 unfold rdK
 by_cases h1:a.length>50000
 ·rw [if_pos (by simp;omega),if_pos h1];rfl
 rw [if_neg (by simp;omega),if_neg h1]
 by_cases h2:a.length<41
 ·rw [if_pos (by simp;omega),if_pos h2];rfl
 rw [if_neg (by simp;omega),if_neg h2,qha (by decide),qha (by decide),qha (by simp only [wj];omega),qvl _ ((hb.drop _).take _),qvN a (by omega),qYw a hb (by omega) (by omega)]
 simp only [wy]
 by_cases h3:a.take 13=mark
 ·by_cases ok:hOK (pH ((a.drop 13).take 28))
  ·have hlen:=qRH ok
   rw [if_pos ok,if_neg (by simp [h3]),if_neg (by simp),if_neg (show ¬(a.take 13≠mark∨¬hOK (pH ((a.drop 13).take 28))) from fun h=>h.elim (fun h=>h h3) (fun h=>h ok))]
   generalize pH ((a.drop 13).take 28)=h at ok hlen ⊢
   simp only
   rw [w64 (x:=41+h.2.2.2.2.1) (by omega) (by omega)]
   by_cases h4:(a.length:Int)<41+h.2.2.2.2.1
   ·rw [if_pos (by simpa using h4),if_pos h4];rfl
   ·rw [if_neg (by simpa using h4),if_neg h4,qha (by decide),qha (by omega),qha (by simp only [wj];omega),qZd _ (by simp;omega)]
    have e:wo (41+h.2.2.2.2.1) - 41=h.2.2.2.2.1.toNat:=by omega
    simp only [wy,e]
  ·rw [if_neg ok,if_neg (by simp [h3]),if_pos (by simp),if_pos (show (a.take 13≠mark∨¬hOK (pH ((a.drop 13).take 28))) from .inr ok)];rfl
 ·rw [if_pos (by simp [h3]),if_pos (show (a.take 13≠mark∨¬hOK (pH ((a.drop 13).take 28))) from .inl h3)];rfl
theorem qWH (h:qla):Bts (fr8 h):=by
 intro x hx
 simp only [fr8,wU,wlb,or_false] at hx
 omega
theorem qnk (h:qla) (hm:0≤h.1∧h.1<256) (raw:List Int) (hb:Bts raw) (hl:raw.length≤19000):qsi h raw=some (qtw (fr8 h++raw)):=by
 rw [qVs,qul h hm,wy]
 have hL:(fr8 h++raw).length=raw.length+8:=by rw [wl,qAr];omega
 rw [qha (by rw [hL];omega),qDt _ (Bts.append (qWH h) hb),if_pos (by rw [hL];omega),wy]
def qPG (m a1 a2 raw len:Int) (z:List Int):qla:=(m,(a1,(a2,(raw,(len,(qtw (fr8 (m,(a1,(a2,(raw,(len,(wn 20 0,()))))))++z),()))))))
theorem qdd {m a1 a2 len:Int} {z:List Int} (hm:0≤m∧m<256) (hb:Bts z) (ok:hOK (m,(a1,(a2,((z.length:Int),(len,(wn 20 0,()))))))):
  qgj (m,(a1,(a2,((z.length:Int),(len,((wn 20 0),())))))) z=some (qPG m a1 a2 z.length len z,0):=by
 have hl:z.length≤4096:=by unfold hOK at ok;simp only at ok;omega
 have hc:hC (m,(a1,(a2,((z.length:Int),(len,(wn 20 0,()))))))=0:=if_pos ok
 rw [qbx,qXs,qec,hc,wy]
 simp only [wj]
 rw [if_neg (by decide),if_neg (by simp),qnk _ hm z hb (by omega),wy,wy,if_neg (by simp)]
 rfl
def qJi (a1 a2:Int) (z:List Int):qza:=(qPG 1 a1 a2 z.length z.length z,(z,()))
def qws (a1 a2:Int) (z c:List Int):qza:=(qPG 2 a1 a2 z.length c.length z,(c,()))
def mOK (a1 a2:Int) (z:List Int):Prop:=0≤a1∧a1<16∧1≤z.length∧z.length≤4096∧0≤a2∧a2+z.length≤8192
instance (a1 a2:Int) (z:List Int):Decidable (mOK a1 a2 z):=by unfold mOK;infer_instance
theorem qPf {a1 a2:Int} {z:List Int} (h:mOK a1 a2 z) (s:List Int):hOK (1,(a1,(a2,((z.length:Int),((z.length:Int),(s,())))))):=by
 unfold mOK at h
 exact ⟨h.1,h.2.1,by simp only;omega,by simp only;omega,h.2.2.2.2.1,h.2.2.2.2.2,Or.inl ⟨rfl,rfl⟩⟩
theorem qwn {a1 a2:Int} {z c:List Int} (h:mOK a1 a2 z) (h1:4≤c.length) (h2:c.length<z.length) (s:List Int):hOK (2,(a1,(a2,((z.length:Int),((c.length:Int),(s,())))))):=by
 unfold mOK at h
 exact ⟨h.1,h.2.1,by simp only;omega,by simp only;omega,h.2.2.2.2.1,h.2.2.2.2.2,wZa ⟨rfl,by simp only;omega,by simp only;omega⟩⟩
theorem qkk (l:Int):qCi l=some (decide (0≤l∧l≤7)):=by
 rw [qht]
 by_cases h:0≤l
 ·rw [if_pos (by simpa using h)]
  exact congrArg some (by simp [h])
 ·rw [if_neg (by simpa using h)]
  exact congrArg some (by simp [h])
theorem qdN {l a1 a2:Int} {z:List Int} (hl:0≤l∧l≤7) (hm:mOK a1 a2 z) (hb:Bts z):
  Tot (qkh l a1 a2 z) fun r=>r.2=0∧(r.1=qJi a1 a2 z∨∃c,qlc l z=some (c,0)∧Bts c∧4≤c.length∧c.length<z.length∧r.1=qws a1 a2 z c):=by
 rw [qPq]
 simp only [wj]
 have hc:hC (1,(a1,(a2,((z.length:Int),((z.length:Int),(wn 20 0,()))))))=0:=if_pos (qPf hm _)
 have hz:z.length≤4096:=by unfold mOK at hm;omega
 refine ue (qkk l) ?_
 rw [decide_eq_true hl]
 obtain ⟨r,e,hr⟩:=qbp l z
 refine uk (fun k=>absurd k (by decide)) (fun _=>ue (qec _) (ud hc (ue (qZd z (by omega)) (ue e ?_))))
 refine ul (fun h0=>uh (fun h1=>?_) (fun _=>?_)) (fun _=>?_)
 ·have h2:=hr.2 h0
  refine ue (qdd (by decide) hb (qwn hm h2.1 (by omega) _)) (uc ⟨rfl,wZa ⟨r.1,?_,hr.1,h2.1,by omega,rfl⟩⟩)
  rw [e];exact congrArg some (wmb rfl h0)
 ·exact ue (qdd (by decide) hb (qPf hm _)) (uc ⟨rfl,Or.inl rfl⟩)
 ·exact ue (qdd (by decide) hb (qPf hm _)) (uc ⟨rfl,Or.inl rfl⟩)
theorem qxG {l a1 a2:Int} {z:List Int} (hl:0≤l∧l≤7) (hm:mOK a1 a2 z) (hb:Bts z) (h4:z.length≤4):qkh l a1 a2 z=some (qJi a1 a2 z,0):=by
 refine ug (Tot.mono (qdN hl hm hb) (fun r hr=>?_))
 rcases hr.2 with h|⟨c,_,_,h1,h2,_⟩
 ·exact wmb h hr.1
 ·omega
theorem qlA {a1 a2:Int} {z:List Int} (hm:mOK a1 a2 z):bC (qJi a1 a2 z)=0:=if_pos ⟨qPf hm _,rfl⟩
theorem qar (a1 a2:Int) (z:List Int):bWf (qJi a1 a2 z):=⟨⟨by show (0:Int)≤1;decide,by show (1:Int)<256;decide⟩,qot _⟩
theorem qlH {xs ys:List Int}:qdA (peq (.int .u8)) xs ys=true→xs=ys:=by
 intro h
 induction xs generalizing ys with
 |nil=>cases ys with
  |nil=>rfl
  |cons y ys=>exact absurd h (by simp [qdA])
 |cons x xs ih=>cases ys with
  |nil=>exact absurd h (by simp [qdA])
  |cons y ys=>
   rw [qdA,wz] at h
   have h1:x=y:=by have:=h.1;rw [peq] at this;exact of_decide_eq_true this
   rw [h1,ih h.2]
theorem qtJ (xs ys:List Int):qdA (peq (.int .u8)) xs ys=decide (xs=ys):=by
 by_cases h:xs=ys
 ·subst h
  rw [decide_eq_true rfl]
  exact qIh (fun x=>by rw [peq];exact decide_eq_true rfl) _
 ·rw [decide_eq_false h]
  cases hq:qdA (peq (.int .u8)) xs ys with
  |false=>rfl
  |true=>exact absurd (qlH hq) h
theorem qvh {h:qla} (ok:hOK h) (hm:0≤h.1∧h.1<256) {z:List Int} (hb:Bts z) (hl:(z.length:Int)=h.2.2.2.1):qPe h z=some (decide (qtw (fr8 h++z)=h.2.2.2.2.2.1),0):=by
 have hz:z.length≤4096:=by unfold hOK at ok;omega
 have hc:hC h=0:=if_pos ok
 rw [qqv]
 refine ug (ue (qec h) (ud hc (ux hl (ue (qnk h hm z hb (by omega)) (uc ?_)))))
 rw [peq,qtJ]
theorem qvG {l:Int} {b:qza} (hl:0≤l∧l≤7) (h1:b.1.1=1) (hc:bC b=0) (hb:Bts b.2.1):qGl l b=some (if qtw (fr8 b.1++b.2.1)=b.1.2.2.2.2.2.1 then (b.2.1,0) else ([],22)):=by
 have ok:hOK b.1∧(b.2.1.length:Int)=b.1.2.2.2.2.1:=by
  unfold bC at hc;split at hc
  ·assumption
  ·cases hc
 have hlen:b.1.2.2.2.2.1=b.1.2.2.2.1:=by
  rcases ok.1.2.2.2.2.2.2 with h|h
  ·exact h.2
  ·omega
 have hz:b.2.1.length≤4096:=by have:=ok.1.2.2.2.1;omega
 rw [qxs]
 refine ug (ue (qdi b) (ud hc (ue (qkk l) ?_)))
 rw [decide_eq_true hl]
 refine uk (fun k=>absurd k (by decide)) (fun _=>ue (qZd _ (by omega)) (ut (by omega) (ue (qvh ok.1 (by omega) hb (by omega)) ?_)))
 by_cases hs:qtw (fr8 b.1++b.2.1)=b.1.2.2.2.2.2.1
 ·rw [if_pos hs,decide_eq_true hs]
  exact uk (fun k=>absurd k (by decide)) (fun _=>uc rfl)
 ·rw [if_neg hs,decide_eq_false hs]
  exact uk (fun _=>uc rfl) (fun k=>absurd k (by decide))
theorem qUL {l a1 a2:Int} {z:List Int} (hl:0≤l∧l≤7) (hm:mOK a1 a2 z) (hb:Bts z):
  Tot (qkh l a1 a2 z) fun r=>r.2=0∧((r.1=qJi a1 a2 z∧∀c,qlc l z=some (c,0)→z.length≤c.length)∨∃c,qlc l z=some (c,0)∧Bts c∧4≤c.length∧c.length<z.length∧r.1=qws a1 a2 z c):=by
 rw [qPq]
 simp only [wj]
 have hc:hC (1,(a1,(a2,((z.length:Int),((z.length:Int),(wn 20 0,()))))))=0:=if_pos (qPf hm _)
 have hz:z.length≤4096:=by unfold mOK at hm;omega
 refine ue (qkk l) ?_
 rw [decide_eq_true hl]
 obtain ⟨r,e,hr⟩:=qbp l z
 refine uk (fun k=>absurd k (by decide)) (fun _=>ue (qec _) (ud hc (ue (qZd z (by omega)) (ue e ?_))))
 refine ul (fun h0=>uh (fun h1=>?_) (fun h1=>?_)) (fun h0=>?_)
 ·have h2:=hr.2 h0
  refine ue (qdd (by decide) hb (qwn hm h2.1 (by omega) _)) (uc ⟨rfl,wZa ⟨r.1,?_,hr.1,h2.1,by omega,rfl⟩⟩)
  rw [e];exact congrArg some (wmb rfl h0)
 ·refine ue (qdd (by decide) hb (qPf hm _)) (uc ⟨rfl,Or.inl ⟨rfl,fun c k=>?_⟩⟩)
  rw [e] at k
  have e2:=wMa k
  rw [e2] at h1
  simp only at h1
  omega
 ·refine ue (qdd (by decide) hb (qPf hm _)) (uc ⟨rfl,Or.inl ⟨rfl,fun c k=>?_⟩⟩)
  rw [e] at k
  have e2:=wMa k
  rw [e2] at h0
  exact absurd rfl h0
theorem qTE {a1 a2:Int} {z c:List Int} (hm:mOK a1 a2 z) (h1:4≤c.length) (h2:c.length<z.length):bC (qws a1 a2 z c)=0:=if_pos ⟨qwn hm h1 h2 _,rfl⟩
theorem qcw (a1 a2:Int) (z c:List Int):bWf (qws a1 a2 z c):=⟨⟨by show (0:Int)≤2;decide,by show (2:Int)<256;decide⟩,qot _⟩
theorem qPI {l a1 a2:Int} {z c:List Int} (hl:0≤l∧l≤7) (hm:mOK a1 a2 z) (hb:Bts z) (hc:Bts c) (he:qlc l z=some (c,0)) (h1:4≤c.length) (h2:c.length<z.length):qGl l (qws a1 a2 z c)=some (z,0):=by
 have hz:z.length≤4096:=by unfold mOK at hm;omega
 have hbk:=qxw hl hb hz he
 have hR:=qvh (h:=(qws a1 a2 z c).1) (qwn hm h1 h2 _) (qcw a1 a2 z c).1 hb rfl
 have hRt:qPe (qws a1 a2 z c).1 z=some (true,0):=by
  rw [hR];exact congrArg some (wmb (decide_eq_true rfl) rfl)
 have hE:qsm c c=some true:=by rw [qal];exact congrArg some (by simp)
 rw [qxs]
 refine ug (ue (qdi _) (ud (qTE hm h1 h2) (ue (qkk l) ?_)))
 rw [decide_eq_true hl]
 exact uk (fun k=>absurd k (by decide)) (fun _=>ue (qZd _ (by show c.length≤1048576;omega)) (ux rfl (ue hbk (ud rfl (ue he (ud rfl (ue hE (uk (fun k=>absurd k (by decide)) (fun _=>ue hRt (uk (fun k=>absurd k (by decide)) (fun _=>uc rfl)))))))))))
theorem qsM {h:qla} (ok:hOK h) (hs:h.2.2.2.2.2.1.length=20):pH (hB h)=h:=by
 obtain ⟨m,mem,off,raw,len,sum,u⟩:=h
 have e:pH (hB (m,mem,off,raw,len,sum,u))=(m%256,(mem%256,(off/256%256*256+off%256,(raw/256%256*256+raw%256,(len/256%256*256+len%256,(sum,())))))):=rfl
 rw [e]
 unfold hOK at ok
 simp only at ok
 have e1:m%256=m:=by omega
 have e2:mem%256=mem:=by omega
 have e3:off/256%256*256+off%256=off:=by omega
 have e4:raw/256%256*256+raw%256=raw:=by omega
 have e5:len/256%256*256+len%256=len:=by omega
 rw [e1,e2,e3,e4,e5]
theorem qSL {b:qza} {more:List Int} (hc:bC b=0) (hw:bWf b) (hs:Bts b.1.2.2.2.2.2.1) (hb:Bts b.2.1) (hm:Bts more) (hl:more.length≤40000):
  qxo (bB b++more)=some (b,(b.1.2.2.2.2.1+41,0)):=by
 have ok:hOK b.1∧(b.2.1.length:Int)=b.1.2.2.2.2.1:=by
  unfold bC at hc;split at hc
  ·assumption
  ·cases hc
 have hlen:=qRH ok.1
 have hhl:(hB b.1).length=28:=by unfold hB;rw [wl,qAr,hw.2]
 have hBB:Bts (bB b++more):=Bts.append (Bts.append (Bts.append qvt (Bts.append (qWH _) hs)) hb) hm
 have hL:(bB b++more).length=41+b.2.1.length+more.length:=by
  unfold bB;simp only [wl,qre,hhl]
 have hw13:(bB b++more).take 13=mark:=by
  unfold bB
  rw [wB,wB,List.take_append_of_le_length (by rw [qre];omega)]
  rfl
 have qbD:((bB b++more).drop 13).take 28=hB b.1:=by
  unfold bB
  rw [wB,wB,List.drop_append_of_le_length (by rw [qre];omega),wgb (by rw [qre];omega),waa,List.take_append_of_le_length (by omega),wL (by omega)]
 have hd41:(bB b++more).drop 41=b.2.1++more:=by
  have e:bB b++more=(mark++hB b.1)++(b.2.1++more):=by unfold bB;simp only [wB]
  have e2:(mark++hB b.1).length=41:=by rw [wl,qre,hhl]
  rw [e,List.drop_append_of_le_length (by omega),wgb (by omega),waa]
 rw [qgw _ hBB]
 unfold rdK
 rw [qbD,qsM ok.1 hw.2,if_neg (show ¬(bB b++more).length>50000 by omega),if_neg (show ¬(bB b++more).length<41 by omega),if_neg (fun h=>h.elim (fun h=>h hw13) (fun h=>h ok.1)),if_neg (by omega),hd41]
 have e:b.1.2.2.2.2.1.toNat=b.2.1.length:=by omega
 rw [e,List.take_append_of_le_length (ws _),wOa,Int.add_comm]
structure MadeB (l a1 a2:Int) (z:List Int) (b:qza):Prop where
 ok:bC b=0
 wf:bWf b
 sums:Bts b.1.2.2.2.2.2.1
 bts:Bts b.2.1
 mem:b.1.2.1=a1
 off:b.1.2.2.1=a2
 raw:b.1.2.2.2.1=z.length
 len:b.1.2.2.2.2.1≤z.length
 back:qGl l b=some (z,0)
 right:qPe b.1 z=some (true,0)
 mode:∀c,qlc l z=some (c,0)→(b.1.1=2↔c.length<z.length)
theorem qfC {l a1 a2:Int} {z:List Int} (hl:0≤l∧l≤7) (hm:mOK a1 a2 z) (hb:Bts z):Tot (qkh l a1 a2 z) fun r=>r.2=0∧MadeB l a1 a2 z r.1:=by
 refine Tot.mono (qUL hl hm hb) (fun r hr=>⟨hr.1,?_⟩)
 rcases hr.2 with ⟨h,hc⟩|⟨c,he,hcB,h1,h2,h⟩
 ·rw [h]
  refine ⟨qlA hm,qar _ _ _,qry _,hb,rfl,rfl,rfl,wza _,?_,?_,fun c k=>?_⟩
  ·rw [qvG hl rfl (qlA hm) hb];exact congrArg some (if_pos rfl)
  ·rw [qvh (h:=(qJi a1 a2 z).1) (qPf hm _) (qar a1 a2 z).1 hb rfl];exact congrArg some (wmb (decide_eq_true rfl) rfl)
  ·have:=hc c k
   constructor
   ·intro q;exact absurd q (by show ¬((1:Int)=2);decide)
   ·intro q;omega
 ·rw [h]
  refine ⟨qTE hm h1 h2,qcw _ _ _ _,qry _,hcB,rfl,rfl,rfl,?_,qPI hl hm hb hcB he h1 h2,?_,fun c' k=>?_⟩
  ·show (c.length:Int)≤z.length;omega
  ·rw [qvh (h:=(qws a1 a2 z c).1) (qwn hm h1 h2 _) (qcw a1 a2 z c).1 hb rfl];exact congrArg some (wmb (decide_eq_true rfl) rfl)
  ·rw [he] at k
   have e2:c=c':=congrArg Prod.fst (wMa k)
   subst e2
   exact ⟨fun _=>h2,fun _=>rfl⟩
instance (h:qla):Decidable (hOK h):=by unfold hOK;infer_instance
instance (a1 a2:Int) (z:List Int):Decidable (mOK a1 a2 z):=by unfold mOK;infer_instance
instance (h:qla):Decidable (hOK h):=by unfold hOK;infer_instance
instance (a1 a2:Int) (z:List Int):Decidable (mOK a1 a2 z):=by unfold mOK;infer_instance
def qbD (s:List Int):Prop:=s.take 13=mark
instance (s:List Int):Decidable (qbD s):=by unfold qbD;infer_instance
theorem qbO (a b:ByteArray):(wW a==wW b)=decide (a=b):=by
 rw [Bool.eq_iff_iff,beq_iff_eq,decide_eq_true_eq]
 exact ⟨fun h=>toList_inj h,fun h=>by rw [h]⟩
theorem qaj (s:ByteArray):(qZc s).length=s.size:=by
 unfold qZc
 rw [List.length_map,Array.length_toList];rfl
def okC (x:Int):Bool:=decide (33≤x)&&decide (x≤126)
def qwE (s:ByteArray):Bool:=(qZc s).all okC&&decide (1≤s.size)&&decide (s.size≤40)
theorem qnI {xs:List Int} {i:Nat} (h:i<xs.length):xs.drop i=xs.getD i 0::xs.drop (i+1):=by
 rw [woa h,wt,wx h];rfl
theorem qhB (s:ByteArray) (hs:s.size≤9223372036854775807):∀(k i:Nat),i+k=s.size→qBf s (s.size:Int) (i:Int)=some (((qZc s).drop i).all okC&&decide (1≤s.size)&&decide (s.size≤40))
 |0,i,e=>by
  have hd:(qZc s).drop i=[]:=wta (by rw [qaj];omega)
  rw [qcj,if_neg (by simp;omega),hd]
  have hl:wi s.size=(s.size:Int):=rfl
  rw [hl]
  by_cases h:1≤s.size
  ·rw [if_pos (by simp;omega)]
   simp [h];omega
  ·rw [if_neg (by rw [decide_eq_true_eq];omega)]
   simp [h]
 |k+1,i,e=>by
  have hi:i<(qZc s).length:=by rw [qaj];omega
  have hb:qzt s ((i:Int)).toNat=(qZc s).getD i 0:=by rw [wA];rfl
  rw [qcj,if_pos (by simp;omega),qha (by omega),qha (by omega),hb,qnI hi,w64 (by omega) (by omega)]
  have ih:=qhB s hs k (i+1) (by omega)
  rw [show ((i+1:Nat):Int)=(i:Int)+1 by omega] at ih
  by_cases h1:(qZc s).getD i 0≤32
  ·rw [if_pos (by simpa using h1)]
   have:okC ((qZc s).getD i 0)=false:=by simp only [okC,Bool.and_eq_false_iff,decide_eq_false_iff_not];left;omega
   simp only [wnb,this,Bool.false_and]
  ·rw [if_neg (by simpa using h1),qha (by omega),qha (by omega)]
   by_cases h2:(qZc s).getD i 0>126
   ·rw [if_pos (by simpa using h2)]
    have:okC ((qZc s).getD i 0)=false:=by simp only [okC,Bool.and_eq_false_iff,decide_eq_false_iff_not];right;omega
    simp only [wnb,this,Bool.false_and]
   ·rw [if_neg (by simpa using h2),ih]
    have:okC ((qZc s).getD i 0)=true:=by simp only [okC,wz,decide_eq_true_eq];omega
    simp only [wnb,this,Bool.true_and]
theorem qak (s:ByteArray) (hs:s.size≤9223372036854775807):qqi s=some (qwE s):=by
 rw [qRs]
 exact qhB s hs s.size 0 (by omega)
theorem qSI (s:ByteArray) (hs:s.size≤9223372036854775807):∀(k i:Nat),i+k=s.size→qAd s (i:Int)=some (((qZc s).drop i).all okC)
 |0,i,e=>by
  have hd:(qZc s).drop i=[]:=wta (by rw [qaj];omega)
  rw [qQg,if_neg (by simp;omega),hd]
  rfl
 |k+1,i,e=>by
  have hi:i<(qZc s).length:=by rw [qaj];omega
  have hb:qzt s ((i:Int)).toNat=(qZc s).getD i 0:=by rw [wA];rfl
  rw [qQg,if_pos (by simp;omega),qha (by omega),qha (by omega),hb,qnI hi,w64 (by omega) (by omega)]
  have ih:=qSI s hs k (i+1) (by omega)
  rw [show ((i+1:Nat):Int)=(i:Int)+1 by omega] at ih
  by_cases h1:(qZc s).getD i 0<33
  ·rw [if_pos (by simpa using h1)]
   have:okC ((qZc s).getD i 0)=false:=by simp only [okC,Bool.and_eq_false_iff,decide_eq_false_iff_not];left;omega
   simp only [wnb,this,Bool.false_and]
  ·rw [if_neg (by simpa using h1),qha (by omega),qha (by omega)]
   by_cases h2:(qZc s).getD i 0>126
   ·rw [if_pos (by simpa using h2)]
    have:okC ((qZc s).getD i 0)=false:=by simp only [okC,Bool.and_eq_false_iff,decide_eq_false_iff_not];right;omega
    simp only [wnb,this,Bool.false_and]
   ·rw [if_neg (by simpa using h2),ih]
    have:okC ((qZc s).getD i 0)=true:=by simp only [okC,wz,decide_eq_true_eq];omega
    simp only [wnb,this,Bool.true_and]
theorem qru (s:ByteArray) (hs:s.size≤9223372036854775807):qnh s=some (qwE s):=by
 have hl:wi s.size=(s.size:Int):=rfl
 rw [qCo,hl]
 unfold qwE
 by_cases h1:s.size<1
 ·rw [if_pos (by simp;omega)]
  have:¬1≤s.size:=by omega
  simp [this]
 ·rw [if_neg (by simp;omega)]
  by_cases h2:s.size>40
  ·rw [if_pos (by simp;omega)]
   have:¬s.size≤40:=by omega
   simp [this]
  ·rw [if_neg (by simp;omega)]
   have:=qSI s hs s.size 0 (by omega)
   refine this.trans ?_
   have h3:1≤s.size:=by omega
   have h4:s.size≤40:=by omega
   simp [h3,h4]
theorem qUu {α β:Type} {eq:α→α→Bool} (h:∀a b,eq a b=true↔a=b) (x y:α) (v:β):∀m:List (α×β),qPs eq x (qVA eq y v m)=if eq x y then some v else qPs eq x m
 |[]=>by simp [qVA,qPs]
 |e::r=>by
  simp only [qVA]
  by_cases hy:eq y e.1=true
  ·have:=(h _ _).1 hy
   simp only [hy,if_true,qPs]
   by_cases hx:eq x y=true
   ·simp [hx]
   ·have:eq x e.1=false:=by rw [←this];simpa using hx
    simp [hx,this]
  ·simp only [hy,wI,if_false,qPs,qUu h x y v r]
   by_cases hx:eq x y=true
   ·have e1:=(h _ _).1 hx
    subst e1
    simp [hx,hy]
   ·simp [hx]
theorem qkH (a b:ByteArray):peq .str a b=decide (a=b):=qbO a b
def qKF (x:ByteArray) (xs:List ByteArray):Bool:=xs.any fun y=>decide (x=y)
theorem qVC (x y:ByteArray) (xs:List ByteArray):qKF x (xs++[y])=(qKF x xs||decide (x=y)):=by simp [qKF]
def qiC (seen:List ByteArray):List ByteArray→Bool
 |[]=>false
 |x::r=>qKF x seen||qiC (seen++[x]) r
theorem qRE {xs:List ByteArray} {i:Nat} (h:i<xs.length):xs.drop i=xs.getD i wD::xs.drop (i+1)∧xs.take (i+1)=xs.take i++[xs.getD i wD]:=by
 have e:xs.getD i wD=xs[i]:=by rw [wt,wx h];rfl
 rw [e]
 exact ⟨woa h,by rw [List.take_add_one,wx h];rfl⟩
theorem qUD (xs:List ByteArray) (hx:xs.length≤9223372036854775807):∀(k i:Nat) (m:List (ByteArray×Bool)),i+k=xs.length→(∀x,Option.getD (qPs (peq .str) x m) false=qKF x (xs.take i))→qsg xs (xs.length:Int) (i:Int) m=some (qiC (xs.take i) (xs.drop i))
 |0,i,m,e,hm=>by
  rw [qYj,if_neg (by simp;omega),wta (by omega)];rfl
 |k+1,i,m,e,hm=>by
  have hl:wi xs.length=(xs.length:Int):=rfl
  obtain ⟨d1,d2⟩:=qRE (xs:=xs) (i:=i) (by omega)
  rw [qYj,if_pos (by simp;omega),qha (by omega),qha (by rw [hl];omega),wA,hm,d1,qiC]
  by_cases h:qKF (xs.getD i wD) (xs.take i)=true
  ·rw [if_pos h,h];rfl
  ·rw [if_neg h,w64 (by omega) (by omega)]
   have ih:=qUD xs hx k (i+1) (qVA (peq .str) (xs.getD i wD) true m) (by omega) (fun x=>by
    rw [qUu (fun a b=>by rw [qkH];simp),d2,qkH,qVC,←hm]
    by_cases hx:x=xs.getD i wD
    ·rw [if_pos (by simp [hx])];simp [hx]
    ·rw [decide_eq_false hx,if_neg (by simp),Bool.or_false])
   rw [show ((i+1:Nat):Int)=(i:Int)+1 by omega] at ih
   rw [ih,d2,Bool.eq_false_iff.2 h];rfl
theorem qpl (xs:List ByteArray) (hx:xs.length≤9223372036854775807):qZj xs=some (qiC [] xs):=by
 rw [qVu]
 exact qUD xs hx xs.length 0 [] (by omega) (fun x=>by simp [qPs,qKF])
def qBG (r:qca):Bool:=!qwE r.1||decide (r.2.1<0)||decide (r.2.1>8192)||(r.2.1==0&&!peq (.arr 20 (.int .u8)) r.2.2.1 (qtw []))
def vld (acc:Int) (nm:List ByteArray):List qca→Int
 |[]=>if acc>8192 then 4 else if qiC [] nm then 14 else 0
 |r::rest=>if qBG r then 8 else vld (acc+r.2.1) (nm++[r.1]) rest
def qdp (rs:List qca):Int:=if rs.length>16 then 4 else vld 0 [] rs
def RecsOK (rs:List qca):Prop:=rs.length≤9223372036854775807∧∀r∈rs,r.1.size≤9223372036854775807
theorem qtc {α:Type} {xs:List α} {i:Nat} (d:α) (h:i<xs.length):xs.drop i=xs.getD i d::xs.drop (i+1)∧xs.take (i+1)=xs.take i++[xs.getD i d]∧xs.getD i d∈xs:=by
 have e:xs.getD i d=xs[i]:=by rw [wt,wx h];rfl
 rw [e]
 exact ⟨woa h,by rw [List.take_add_one,wx h];rfl,List.getElem_mem h⟩
theorem qfG:qug []=some (qtw []):=by
 rw [qFm,qDt [] Bts.nil];rfl
theorem qbF (rs:List qca) (hR:RecsOK rs) (hn:rs.length≤16):∀(k i:Nat) (acc:Int) (nm:List ByteArray),i+k=rs.length→nm.length=i→0≤acc→acc≤8192*i→qLe acc rs (rs.length:Int) (i:Int) nm=some (vld acc nm (rs.drop i))
 |0,i,acc,nm,e,hl,a0,a1=>by
  rw [qck,if_neg (by simp;omega),wta (by omega),vld]
  by_cases h:acc>8192
  ·rw [if_pos (by simpa using h),if_pos h]
  ·rw [if_neg (by simpa using h),if_neg h,qpl _ (by omega)]
   simp only [wy]
   by_cases h:qiC [] nm=true
   ·rw [if_pos h,if_pos h]
   ·rw [if_neg h,if_neg h]
 |k+1,i,acc,nm,e,hl,a0,a1=>by
  have hl':wi rs.length=(rs.length:Int):=rfl
  obtain ⟨d1,d2,d3⟩:=qtc (qua qra:qca) (xs:=rs) (i:=i) (by omega)
  rw [qck,if_pos (by simp;omega),qha (by omega),qha (by rw [hl'];omega),wA,d1,vld]
  generalize hr:(wm rs i (qua qra):qca)=r at d3 ⊢
  rw [qak _ (hR.2 r d3)]
  simp only [wy,qfG]
  by_cases h1:qwE r.1=true
  ·rw [if_neg (by simp [h1])]
   by_cases h2:r.2.1<0
   ·rw [if_pos (by simpa using h2),if_pos (by simp [qBG,h2])]
   ·rw [if_neg (by simpa using h2)]
    by_cases h3:r.2.1>8192
    ·rw [if_pos (by simpa using h3),if_pos (by simp [qBG,h3])]
    ·rw [if_neg (by simpa using h3)]
     have ih:=qbF rs hR hn k (i+1) (acc+r.2.1) (nm++[r.1]) (by omega) (by simp;omega) (by omega) (by omega)
     rw [show ((i+1:Nat):Int)=(i:Int)+1 by omega] at ih
     rw [w64 (x:=(i:Int)+1) (by omega) (by omega),w64 (x:=acc+r.2.1) (by omega) (by omega),ih]
     by_cases h4:r.2.1=0
     ·rw [if_pos (by simp [h4])]
      by_cases h5:peq (.arr 20 (.int .u8)) r.2.2.1 (qtw [])=true
      ·rw [if_neg (by simp [h5]),qha (by simp;omega),if_neg (by simp [qBG,h1,h4,h5])]
      ·rw [if_pos (by simpa using h5),if_pos (by simp [qBG,h4,h5])]
     ·rw [if_neg (by simpa using h4),qha (by simp;omega),if_neg (by simp [qBG,h1,h4];omega)]
  ·rw [if_pos (by simpa using h1),if_pos (by simp [qBG,h1])]
theorem qdh (rs:List qca) (hR:RecsOK rs):qLh rs=some (qdp rs):=by
 have hl:wi rs.length=(rs.length:Int):=rfl
 rw [qXu,hl,qdp]
 by_cases h:rs.length>16
 ·rw [if_pos (by simp;omega),if_pos h]
 ·rw [if_neg (by simp;omega),if_neg h]
  exact qbF rs hR (by omega) rs.length 0 0 [] (by omega) rfl (by omega) (by omega)
def names (rs:List qca):List ByteArray:=rs.map (·.1)
theorem qEH {x:ByteArray} {xs:List ByteArray} {j i:Nat} (h:j<i) (hi:i≤xs.length):qKF x ((xs.take i).drop j)=(decide (x=xs.getD j wD)||qKF x ((xs.take i).drop (j+1))):=by
 have hl:j<(xs.take i).length:=by rw [wS];omega
 have e:xs.getD j wD=(xs.take i)[j]:=by
  rw [wt,List.getElem_take,wx (by omega)];rfl
 rw [woa hl,e]
 simp [qKF]
def tot:List qca→Int
 |[]=>0
 |r::rest=>r.2.1+tot rest
structure RecsV (rs:List qca):Prop where
 len:rs.length≤16
 each:∀r∈rs,0≤r.2.1∧r.2.1≤8192∧r.1.size≤40
 tot:tot rs≤8192
theorem qSD:∀(rs:List qca) (acc:Int) (nm:List ByteArray),vld acc nm rs=0→(∀r∈rs,0≤r.2.1∧r.2.1≤8192∧r.1.size≤40)∧acc+tot rs≤8192
 |[],acc,nm,h=>by
  simp only [vld] at h
  by_cases h1:acc>8192
  ·rw [if_pos h1] at h;omega
  ·exact ⟨fun r hr=>(by cases hr),by simp only [tot];omega⟩
 |r::rest,acc,nm,h=>by
  simp only [vld] at h
  by_cases hb:qBG r=true
  ·rw [if_pos hb] at h;omega
  ·rw [if_neg hb] at h
   obtain ⟨h1,h2⟩:=qSD rest _ _ h
   simp only [qBG,qwE,Bool.or_eq_true,Bool.not_eq_true',Bool.and_eq_false_iff,decide_eq_true_eq,decide_eq_false_iff_not,not_or] at hb
   refine ⟨fun q hq=>?_,by simp only [tot];omega⟩
   rcases wU.1 hq with rfl|hq
   ·have:=hb.1.1.1.2
    exact ⟨by omega,by omega,by omega⟩
   ·exact h1 q hq
theorem qWg {rs:List qca} (h:qdp rs=0):RecsV rs:=by
 unfold qdp at h
 split at h
 ·omega
 ·obtain ⟨h1,h2⟩:=qSD rs 0 [] h
  exact ⟨by omega,h1,by omega⟩
instance (h:qla):Decidable (hOK h):=by unfold hOK;infer_instance
open Classical
open Classical
abbrev iEq:Int→Int→Bool:=peq (.int .i64)
theorem qXy (a b:Int):iEq a b=true↔a=b:=by simp [peq]
def Rt (m:List (Int×Bool)) (t:List Bool):Prop:=(∀x:Int,(qPs iEq x m).isSome=true↔0≤x∧x<(t.length:Int)∧t.getD x.toNat false=true)∧m.length=t.countP id
theorem qyE {α β:Type} {eq:α→α→Bool} (h:∀a b,eq a b=true↔a=b) (x:α) (v:β):∀m:List (α×β),(qVA eq x v m).length=m.length+if (qPs eq x m).isSome then 0 else 1
 |[]=>by simp [qVA,qPs]
 |e::r=>by
  have ih:=qyE h x v r
  by_cases hx:eq x e.1=true
  ·have h1:qVA eq x v (e::r)=(x,v)::r:=if_pos hx
   have h2:qPs eq x (e::r)=some e.2:=if_pos hx
   rw [h1,h2];simp
  ·have h1:qVA eq x v (e::r)=e::qVA eq x v r:=if_neg hx
   have h2:qPs eq x (e::r)=qPs eq x r:=if_neg hx
   rw [h1,h2]
   simp only [ww,ih];omega
theorem qMB:∀(t:List Bool) (i:Nat),i<t.length→(t.set i true).countP id=t.countP id+if t.getD i false then 0 else 1
 |[],i,h=>by simp at h
 |b::t,0,h=>by cases b <;> simp
 |b::t,i+1,h=>by
  have:=qMB t i (by simpa using h)
  simp only [List.set_cons_succ,List.countP_cons,List.getD_cons_succ,this];omega
theorem Rt.set {m:List (Int×Bool)} {t:List Bool} (h:Rt m t) {i:Nat} (hi:i<t.length):Rt (qVA iEq (i:Int) true m) (t.set i true):=by
 refine ⟨fun x=>?_,?_⟩
 ·rw [qUu qXy,wsa]
  by_cases hx:x=(i:Int)
  ·rw [if_pos ((qXy _ _).2 hx),hx,wA,wt,List.getElem?_set_self hi]
   simp;omega
  ·rw [if_neg (fun k=>hx ((qXy _ _).1 k)),h.1 x]
   constructor
   ·rintro ⟨a,b,c⟩
    refine ⟨a,b,?_⟩
    rw [wt,List.getElem?_set_ne (by omega),←wt];exact c
   ·rintro ⟨a,b,c⟩
    refine ⟨a,b,?_⟩
    rw [wt,List.getElem?_set_ne (by omega),←wt] at c;exact c
 ·rw [qyE qXy,qMB t i hi,h.2]
  congr 1
  have:=h.1 (i:Int)
  rw [wA] at this
  by_cases hs:t.getD i false=true
  ·rw [if_pos (this.2 ⟨by omega,by omega,hs⟩),if_pos hs]
  ·rw [if_neg (fun k=>hs (this.1 k).2.2),if_neg hs]
theorem Rt.nil (n:Nat):Rt [] (wn n false):=by
 refine ⟨fun x=>?_,by simp [List.countP_replicate]⟩
 simp only [qPs,Option.isSome_none,wI,false_iff,not_and,wX]
 intro _ _
 rw [wt,List.getElem?_replicate]
 split <;> simp
open Classical
theorem qhJ (a:List Int):peq (.arr 20 (.int .u8)) a a=true:=by
 simp only [peq]
 exact qIh (fun y=>by simp) _
def chk (a:qpa):Int:=if 0≤a.1∧a.1≤7∧16≤a.2.1∧a.2.1≤4096 then 0 else 2
theorem qiK:∀(rs:List qca),(∀r∈rs,0≤r.2.1∧r.2.1≤8192∧r.1.size≤40)→0≤tot rs
 |[],_=>by simp [tot]
 |r::rest,h=>by
  have h1:=h r (by simp)
  have h2:=qiK rest (fun q hq=>h q (by simp [hq]))
  simp only [tot];omega
def pcs (i n s:Int):Nat→Int→List qea
 |0,_=>[]
 |k+1,off=>if off<n then (i,(off,((if s<n - off then s else n - off),())))::pcs i n s k (off+s) else []
theorem qoH (i n s:Int) (hs:1≤s):∀(k:Nat) (off:Int),0≤n→off≤n→((pcs i n s k off).length:Int)≤n - off
 |0,off,_,h=>by simp [pcs];omega
 |k+1,off,hn,h=>by
  simp only [pcs]
  by_cases h1:off<n
  ·rw [if_pos h1]
   by_cases h2:off+s≤n
   ·have:=qoH i n s hs k (off+s) hn h2
    simp only [ww];omega
   ·have:pcs i n s k (off+s)=[]:=by
     cases k with
     |zero=>rfl
     |succ k=>simp only [pcs];rw [if_neg (by omega)]
    rw [this];simp;omega
  ·rw [if_neg h1];simp;omega
def ap (s:Int):Int→List qca→List qea
 |_,[]=>[]
 |i,r::rest=>pcs i r.2.1 s 8200 0++ap s (i+1) rest
def szs (rs:List qca):List Int:=rs.map (·.2.1)
theorem qIG (rs:List qca) (i:Nat) (h:i<rs.length):(szs rs).getD i 0=(rs.getD i (qua qra)).2.1:=by
 unfold szs
 simp only [wt,List.getElem?_map,wx h,Option.map_some,wJa]
theorem qKl (rs:List qca):(szs rs).length=rs.length:=by simp [szs]
theorem qQI (s i n:Int) (xs:List Int) (v23 v24:Int) (hs:16≤s∧s≤4096) (hn:0≤n∧n≤8192) (k:Nat):∀(off:Int) (h:List qea),n - off≤k→0≤off→off≤13000→(h.length:Int)+(k:Int)≤1000000→
  qig s i n off xs v23 v24 h=qye s xs v23 (wd .i64 (v24+1)) (h++pcs i n s k off):=by
 induction k with
 |zero=>
  intro off h e h0 h1 hl
  have hc:¬off<n:=by omega
  rw [qHj,if_neg (by simpa using hc)]
  simp only [pcs,wQ]
 |succ k ih=>
  intro off h e h0 h1 hl
  rw [qHj]
  by_cases hc:off<n
  ·rw [if_pos (by simpa using hc),qha (by simp;omega),w64 (x:=n - off) (by omega) (by omega),w64 (x:=off+s) (by omega) (by omega)]
   rw [ih (off+s) _ (by omega) (by omega) (by omega) (by simp;omega)]
   simp only [pcs,if_pos hc,wB,List.singleton_append]
  ·rw [if_neg (by simpa using hc)]
   simp only [pcs,if_neg hc,wQ]
theorem qeC (s:Int) (rs:List qca) (hs:16≤s∧s≤4096) (hR:RecsV rs):∀(k i:Nat) (h:List qea),i+k=rs.length→(h.length:Int)≤8192*i→
  qye s (szs rs) (rs.length:Int) (i:Int) h=some (h++ap s i (rs.drop i),0)
 |0,i,h,e,hl=>by
  rw [qIj,if_neg (by simp;omega),wta (by omega)]
  simp [ap]
 |k+1,i,h,e,hl=>by
  have hlen:=hR.len
  obtain ⟨d1,d2,d3⟩:=qtc (qua qra:qca) (xs:=rs) (i:=i) (by omega)
  have hl':wi (szs rs).length=(rs.length:Int):=by rw [qKl];rfl
  have hv:=hR.each _ d3
  rw [qIj,if_pos (by simp;omega),qha (by omega),qha (by rw [hl'];omega),wA,qIG rs i (by omega)]
  rw [qQI s i _ (szs rs) _ _ hs ⟨hv.1,hv.2.1⟩ 8200 0 h (by omega) (by omega) (by omega) (by omega),w64 (by omega) (by omega)]
  have hp:=qoH (i:Int) (rs.getD i (qua qra)).2.1 s (by omega) 8200 0 hv.1 hv.1
  have ih:=qeC s rs hs hR k (i+1) (h++pcs (i:Int) (rs.getD i (qua qra)).2.1 s 8200 0) (by omega) (by rw [wl];omega)
  rw [show ((i+1:Nat):Int)=(i:Int)+1 by omega] at ih
  rw [ih,d1,ap,wB]
theorem qfF (xs:List Int) (hx:∀x∈xs,0≤x) (hl:xs.length≤1000):∀(k i:Nat),i+k=xs.length→qxb xs (xs.length:Int) (i:Int)=some (-1)
 |0,i,e=>by rw [qfd,if_neg (by simp;omega)]
 |k+1,i,e=>by
  have hl':wi xs.length=(xs.length:Int):=rfl
  obtain ⟨d1,d2,d3⟩:=qtc (0:Int) (xs:=xs) (i:=i) (by omega)
  have:=hx _ d3
  have ih:=qfF xs hx hl k (i+1) (by omega)
  rw [show ((i+1:Nat):Int)=(i:Int)+1 by omega] at ih
  rw [qfd,if_pos (by simp;omega),qha (by omega),qha (by rw [hl'];omega),wA,qFs]
  simp only [wy]
  rw [if_neg (by simp only [decide_eq_true_eq];omega),w64 (by omega) (by omega),ih]
theorem qUE (rs:List qca) (hR:RecsV rs):∀(k i:Nat) (acc:Int),i+k=rs.length→0≤acc→acc+tot (rs.drop i)≤8192→qoh acc (szs rs) (rs.length:Int) (i:Int)=some 0
 |0,i,acc,e,h0,h1=>by rw [qel,if_neg (by simp;omega)]
 |k+1,i,acc,e,h0,h1=>by
  have hlen:=hR.len
  have hl':wi (szs rs).length=(rs.length:Int):=by rw [qKl];rfl
  obtain ⟨d1,d2,d3⟩:=qtc (qua qra:qca) (xs:=rs) (i:=i) (by omega)
  have hv:=hR.each _ d3
  have ht:=qiK (rs.drop (i+1)) (fun r hr=>hR.each r (List.mem_of_mem_drop hr))
  rw [d1,tot] at h1
  rw [qel,if_pos (by simp;omega),qha (by omega),qha (by rw [hl'];omega),wA,qIG rs i (by omega)]
  rw [if_neg (show ¬(8193:Int)<(rs.getD i (qua qra)).2.1 by omega),w64 (by omega) (by omega),if_neg (by simp only [decide_eq_true_eq];omega),w64 (by omega) (by omega)]
  have ih:=qUE rs hR k (i+1) (acc+(rs.getD i (qua qra)).2.1) (by omega) (by omega) (by omega)
  rw [show ((i+1:Nat):Int)=(i:Int)+1 by omega] at ih
  exact ih
theorem qOD (s:Int) (rs:List qca) (hs:16≤s∧s≤4096) (hR:RecsV rs):qJj (szs rs) s=some (ap s 0 rs,0):=by
 have hlen:=hR.len
 have hl':wi (szs rs).length=(rs.length:Int):=by rw [qKl];rfl
 have hc:qhp (szs rs)=some 0:=by
  have hi:=qfF (szs rs) (fun x hx=>by
   obtain ⟨r,hr,rfl⟩:=wP.1 hx
   exact (hR.each r hr).1) (by rw [qKl];omega) (szs rs).length 0 (by omega)
  have hi':qJc (szs rs)=some (-1):=by rw [qDh];exact hi
  rw [qBw,qmg,hi']
  simp only [wy]
  rw [if_neg (by simp),hl',if_neg (by simp;omega)]
  exact qUE rs hR rs.length 0 0 (by omega) (by omega) (by have:=hR.tot;simp;omega)
 rw [qRt,hc]
 simp only [wy]
 rw [if_neg (by simp),if_neg (by simp;omega),if_neg (by simp;omega),hl']
 exact qeC s rs hs hR rs.length 0 [] (by omega) (by simp)
def qdH (r:qca):List Int:=(([wd .u8 (r.1.size:Int)]++qZc r.1)++[wd .u8 (wV r.2.1 256),wd .u8 r.2.1])++wM 20 (wea 0 r.2.2.1)
def qVi:List qca→List Int
 |[]=>[]
 |r::rest=>qdH r++qVi rest
def qEM (a:qpa) (n:Int):List Int:=[66,76,70,1,wd .u8 a.1,wd .u8 (wV a.2.1 256),wd .u8 a.2.1,wd .u8 n]
def qML (a:qpa) (rs:List qca):List Int:=qEM a rs.length++qVi rs
def qxL (a:qpa) (rs:List qca):List Int:=qML a rs++qtw (qML a rs)
def SumsOK (rs:List qca):Prop:=∀r∈rs,r.2.2.1.length=20∧Bts r.2.2.1
theorem qTA (s:ByteArray):Bts (qZc s):=by
 intro x hx
 obtain ⟨b,_,rfl⟩:=wP.1 hx
 have:=b.toNat_lt
 omega
theorem qgq (r:qca) (h:r.2.2.1.length=20):(qdH r).length=23+r.1.size:=by
 simp only [qdH,wl,ww,wN,qaj,wS,wla,h]
 omega
theorem qZE (rs:List qca) (hR:RecsV rs) (hS:SumsOK rs):∀(k i:Nat) (h:List Int),i+k=rs.length→(h.length:Int)≤100*i→qvg rs (rs.length:Int) (i:Int) h=some (h++qVi (rs.drop i),0)
 |0,i,h,e,hl=>by
  rw [qbk,if_neg (by simp;omega),wta (by omega)];simp [qVi]
 |k+1,i,h,e,hl=>by
  have hlen:=hR.len
  have hl':wi rs.length=(rs.length:Int):=rfl
  obtain ⟨d1,d2,d3⟩:=qtc (qua qra:qca) (xs:=rs) (i:=i) (by omega)
  have hv:=hR.each _ d3
  have hs:=hS _ d3
  have hb:=qgq _ hs.1
  rw [qbk,if_pos (by simp;omega),qha (by omega),qha (by rw [hl'];omega),wA]
  generalize (rs.getD i (qua qra):qca)=r at*
  have e1:(((h++[wd .u8 (wi r.1.size)])++qZc r.1)++[wd .u8 (wV r.2.1 256),wd .u8 r.2.1])++wM 20 (wea 0 r.2.2.1)=h++qdH r:=by
   simp only [qdH,wB];rfl
  have ho:=qaj r.1
  rw [qha (by simp only [wl,ww,wN];omega),qha (by simp only [wl,ww,wN];omega),qha (by omega),qha (by simp only [wl,ww,wN];omega),e1,qha (by rw [wl];omega),w64 (by omega) (by omega)]
  have ih:=qZE rs hR hS k (i+1) (h++qdH r) (by omega) (by rw [wl];omega)
  rw [show ((i+1:Nat):Int)=(i:Int)+1 by omega] at ih
  rw [ih,d1,qVi,wB]
theorem qur (rs:List qca) (hR:RecsOK rs) (hS:SumsOK rs):qrn rs=some (if qdp rs≠0 then ([],qdp rs) else (qVi rs,0)):=by
 rw [qWu,qdh rs hR]
 simp only [wy]
 by_cases h:qdp rs=0
 ·rw [if_neg (by simp [h]),if_neg (by simp [h])]
  exact qZE rs (qWg h) hS rs.length 0 [] (by omega) (by simp)
 ·rw [if_pos (by simpa using h),if_pos h]
instance (h:qla):Decidable (hOK h):=by unfold hOK;infer_instance
theorem qyJ {x y:Int} (hx:0≤x∧x<4294967296) (hy:0≤y∧y<256):qgc .i64 (x*256) y=x*256+y:=by
 obtain ⟨a,rfl⟩:=Int.eq_ofNat_of_zero_le hx.1
 obtain ⟨b,rfl⟩:=Int.eq_ofNat_of_zero_le hy.1
 exact qrE a b (by omega) (by omega)
def rK (a:List Int) (p:Nat):Nat:=(a.getD p 0).toNat
def rF (a:List Int) (p:Nat):Prop:=p<a.length∧p+1+rK a p+22≤a.length
instance (a:List Int) (p:Nat):Decidable (rF a p):=by unfold rF;infer_instance
def rR (a:List Int) (p:Nat):qca:=
 (qFk ((a.drop (p+1)).take (rK a p)),(a.getD (p+1+rK a p) 0*256+a.getD (p+2+rK a p) 0,((a.drop (p+3+rK a p)).take 20,())))
def qqK (a:List Int):Nat→Nat→List qca→List qca×Int×Int
 |0,p,acc=>if qdp acc≠0 then ([],(0,12)) else (acc,((p:Int),0))
 |n+1,p,acc=>if rF a p then qqK a n (p+rK a p+23) (acc++[rR a p]) else ([],(0,18))
theorem qiL {a:List Int} (hb:Bts a) (p:Nat):a.getD p 0=(rK a p:Int)∧rK a p<256:=by
 have:=hb.getD p
 unfold rK;omega
theorem qky (a:List Int) (p n i:Nat) (h:i<n):((a.drop p).take n).getD i 0=a.getD (p+i) 0:=by
 simp only [wt,List.getElem?_take,List.getElem?_drop,if_pos h]
theorem qTp (a:List Int) (hl:a.length≤100000) (p n:Nat) (hp:p≤a.length) (hn:n≤1000):
  qsc (n:Int) ((a,((p:Int),())),())=some (if p+n≤a.length then ((a.drop p).take n,(none,((a,(((p+n:Nat):Int),())),()))) else ([],(some 18,((a,((p:Int),())),())))):=by
 have hl':wi a.length=(a.length:Int):=rfl
 rw [qqn]
 simp only [hl']
 rw [w64 (x:=(a.length:Int) - p) (by omega) (by omega),w64 (x:=(p:Int)+n) (by omega) (by omega),w64 (x:=(p:Int)+n - n) (by omega) (by omega)]
 by_cases h:p+n≤a.length
 ·have e1:((p:Int)+n).toNat=p+n:=by omega
  have e2:((p:Int)+n - n).toNat=p:=by omega
  rw [if_neg (by simp;omega),qha (by omega),qha (by omega),qha (by omega),if_pos h,e1,e2,Nat.add_sub_cancel_left]
  rfl
 ·rw [if_pos (by simp;omega),if_neg h]
theorem qaH (a:List Int) (hb:Bts a) (hl:a.length≤100000) (p:Nat) (hf:rF a p):
  qxd ((a,((p:Int),())),())=some (rR a p,(none,((a,(((p+rK a p+23:Nat):Int),())),()))):=by
 obtain ⟨h1,h2⟩:=hf
 obtain ⟨ek,hk⟩:=qiL hb p
 have t1:qsc (1:Int) ((a,((p:Int),())),())=_:=qTp a hl p 1 (by omega) (by omega)
 have t2:=qTp a hl (p+1) (rK a p+22) (by omega) (by omega)
 rw [if_pos (by omega)] at t1
 rw [if_pos (by omega)] at t2
 rw [qtg,t1]
 simp only [wy]
 have l1:((a.drop p).take 1).length=1:=by simp;omega
 have g1:((a.drop p).take 1).getD 0 0=(rK a p:Int):=by rw [qky _ _ _ _ (by omega)];exact ek
 rw [if_neg (by simp),qha (by omega),qha (by rw [l1];decide),g1,w64 (x:=(rK a p:Int)) (by omega) (by omega),w64 (x:=(rK a p:Int)+22) (by omega) (by omega),show (rK a p:Int)+22=((rK a p+22:Nat):Int) by omega,t2]
 simp only [wy]
 have l2:wi ((a.drop (p+1)).take (rK a p+22)).length=(rK a p:Int)+22:=by
  have:((a.drop (p+1)).take (rK a p+22)).length=rK a p+22:=by simp;omega
  rw [this];simp
 rw [l2,w64 (x:=(rK a p:Int)+1) (by omega) (by omega),w64 (x:=(rK a p:Int)+2) (by omega) (by omega)]
 rw [if_neg (by simp),qha (by omega),qha (by rw [l1];decide),qha (by omega),qha (by omega),qha (by omega),qha (by omega),qha (by omega),qha (by omega),qha (by omega),qha (by omega),qha (by omega)]
 have n1:((rK a p:Int)).toNat=rK a p:=by omega
 have n2:((rK a p:Int)+1).toNat=rK a p+1:=by omega
 have n3:((rK a p:Int)+2).toNat=rK a p+2:=by omega
 rw [n1,n2,n3,qky _ _ _ _ (by omega),qky _ _ _ _ (by omega)]
 have b1:=hb.getD (p+1+rK a p)
 have b2:=hb.getD (p+1+(rK a p+1))
 rw [w64 (x:=a.getD (p+1+rK a p) 0) (by omega) (by omega),w64 (x:=a.getD (p+1+(rK a p+1)) 0) (by omega) (by omega),w64 (x:=a.getD (p+1+rK a p) 0*256) (by omega) (by omega),qyJ (by omega) b2]
 have e1:wM (rK a p) ((a.drop (p+1)).take (rK a p+22))=(a.drop (p+1)).take (rK a p):=by rw [List.take_take,Nat.min_eq_left (by omega)]
 have e2:wea (rK a p+2) ((a.drop (p+1)).take (rK a p+22))=(a.drop (p+3+rK a p)).take 20:=by
  rw [List.drop_take,wka,show rK a p+22 - (rK a p+2)=20 by omega,show p+1+(rK a p+2)=p+3+rK a p by omega]
 have l3:((a.drop (p+3+rK a p)).take 20).length=20:=by simp;omega
 rw [e1,e2,l3]
 have e3:qwb (wn 20 (0:Int)) 0 (wM (min 20 20) ((a.drop (p+3+rK a p)).take 20))=(a.drop (p+3+rK a p)).take 20:=by
  rw [show min 20 20=20 from rfl,wL (by omega),qwb,l3]
  simp
 rw [e3]
 unfold rR
 rw [show p+1+(rK a p+1)=p+2+rK a p by omega,show p+1+(rK a p+22)=p+rK a p+23 by omega]
theorem qbH (a:List Int) (hb:Bts a) (hl:a.length≤100000) (p:Nat) (hp:p≤a.length) (hf:¬rF a p):
  ∃x s,qxd ((a,((p:Int),())),())=some (x,(some 18,s)):=by
 obtain ⟨ek,hk⟩:=qiL hb p
 have t1:qsc (1:Int) ((a,((p:Int),())),())=_:=qTp a hl p 1 (by omega) (by omega)
 rw [qtg,t1]
 simp only [wy]
 by_cases h1:p+1≤a.length
 ·have t2:=qTp a hl (p+1) (rK a p+22) (by omega) (by omega)
  rw [if_neg (by unfold rF at hf;omega)] at t2
  have l1:((a.drop p).take 1).length=1:=by simp;omega
  have g1:((a.drop p).take 1).getD 0 0=(rK a p:Int):=by rw [qky _ _ _ _ (by omega)];exact ek
  rw [if_pos h1]
  simp only
  rw [if_neg (by simp),qha (by omega),qha (by rw [l1];decide),g1,w64 (x:=(rK a p:Int)) (by omega) (by omega),w64 (x:=(rK a p:Int)+22) (by omega) (by omega),show (rK a p:Int)+22=((rK a p+22:Nat):Int) by omega,t2]
  exact ⟨_,_,rfl⟩
 ·rw [if_neg h1]
  exact ⟨_,_,rfl⟩
theorem quN (a:List Int) (hb:Bts a) (p:Nat) (hf:rF a p):(rR a p).1.size=rK a p∧(rR a p).2.2.1.length=20∧Bts (rR a p).2.2.1:=by
 obtain ⟨h1,h2⟩:=hf
 refine ⟨?_,?_,(hb.drop _).take _⟩
 ·unfold rR;rw [qoF];simp;omega
 ·unfold rR;simp;omega
theorem RecsOK.snoc {l:List qca} {r:qca} (h:RecsOK l) (hl:l.length<9223372036854775807) (hr:r.1.size≤9223372036854775807):RecsOK (l++[r]):=
 ⟨by simp;omega,fun q hq=>by
  rcases wR.1 hq with hq|hq
  ·exact h.2 q hq
  ·rw [wT.1 hq];exact hr⟩
theorem SumsOK.snoc {l:List qca} {r:qca} (h:SumsOK l) (hr:r.2.2.1.length=20∧Bts r.2.2.1):SumsOK (l++[r]):=fun q hq=>by
 rcases wR.1 hq with hq|hq
 ·exact h q hq
 ·rw [wT.1 hq];exact hr
theorem qCE (a:List Int) (hb:Bts a) (hl:a.length≤100000) (N:Nat) (hN:N≤16):∀(n i p:Nat) (acc:List qca),i+n=N→acc.length=i→p≤a.length→RecsOK acc→
  qth (N:Int) (i:Int) ((a,((p:Int),())),()) acc=some (qqK a n p acc)
 |0,i,p,acc,e,hi,hp,hR=>by
  rw [qql,if_neg (by simp;omega),qdh acc hR]
  simp only [wy,qqK]
  by_cases h:qdp acc=0
  ·rw [if_neg (by simp [h]),if_neg (by simp [h])]
  ·rw [if_pos (by simpa using h),if_pos h]
 |n+1,i,p,acc,e,hi,hp,hR=>by
  rw [qql,if_pos (by simp;omega),qqK]
  by_cases hf:rF a p
  ·have hr:=quN a hb p hf
   have hk:=qiL hb p
   rw [qaH a hb hl p hf,if_pos hf]
   simp only [wy,qkx]
   rw [if_neg (by simp),qha (by simp;omega),w64 (by omega) (by omega)]
   have ih:=qCE a hb hl N hN n (i+1) (p+rK a p+23) (acc++[rR a p]) (by omega) (by simp;omega) (by unfold rF at hf;omega) (hR.snoc (by omega) (by omega))
   rw [show ((i+1:Nat):Int)=(i:Int)+1 by omega] at ih
   exact ih
  ·obtain ⟨x,s,hx⟩:=qbH a hb hl p hp hf
   rw [hx,if_neg hf]
   simp only [wy,qjx]
   rw [if_pos trivial]
def rdM (a:List Int) (n:Int):List qca×Int×Int:=if n<0∨n>16 then ([],(0,2)) else if a.length>50000 then ([],(0,4)) else qqK a n.toNat 0 []
theorem RecsOK.nil:RecsOK []:=⟨by simp,fun _ h=>by cases h⟩
theorem SumsOK.nil:SumsOK []:=fun _ h=>by cases h
theorem qSs (a:List Int) (hb:Bts a) (n:Int):qxp a n=some (rdM a n):=by
 rw [qUw,rdM]
 by_cases h1:n<0
 ·rw [if_pos (by simpa using h1),if_pos (.inl h1)]
 ·rw [if_neg (by simpa using h1)]
  by_cases h2:n>16
  ·rw [if_pos (by simpa using h2),if_pos (.inr h2)]
  ·rw [if_neg (by simpa using h2),if_neg (show ¬(n<0∨n>16) by omega)]
   by_cases h3:a.length>50000
   ·rw [if_pos (by simp;omega),if_pos h3]
   ·rw [if_neg (by simp;omega),if_neg h3]
    have:=qCE a hb (by omega) n.toNat (by omega) n.toNat 0 0 [] (by omega) rfl (by omega) .nil
    rw [show ((n.toNat:Nat):Int)=n by omega] at this
    exact this
def s2:qpa:=(2,(16,()))
theorem qpC (s:ByteArray):qFk (qZc s)=s:=by
 have h:=qpp (xs:=qZc s) (qTA s)
 have e:(qZc s).map (fun n=>UInt8.ofNat n.toNat)=s.data.toList:=by
  unfold qZc
  rw [List.map_map]
  refine (List.map_congr_left (fun b _=>?_)).trans (List.map_id _)
  simp
 unfold qFk
 rw [e]
theorem qzr (a:List Int) (p i:Nat):(a.drop p).getD i 0=a.getD (p+i) 0:=by simp [wt]
theorem qhL {r:qca} (h1:r.1.size≤40) (h2:0≤r.2.1∧r.2.1≤8192) (h3:r.2.2.1.length=20):qdH r=(r.1.size:Int)::(qZc r.1++(r.2.1/256::r.2.1%256::r.2.2.1)):=by
 unfold qdH
 rw [wla,wL (by omega),wu8,wu8,wu8,qyd _ (by omega)]
 have e1:(r.1.size:Int)%256=r.1.size:=by omega
 have e2:r.2.1/256%256=r.2.1/256:=by omega
 rw [e1,e2]
 simp only [wB,wba,waa]
theorem qoJ {r:qca} (h1:r.1.size≤40) (h2:0≤r.2.1∧r.2.1≤8192) (h3:r.2.2.1.length=20) {a post:List Int} {p:Nat} (ha:a.drop p=qdH r++post):rF a p∧rK a p=r.1.size∧rR a p=r:=by
 have hB:=qhL h1 h2 h3
 have hl:(qZc r.1).length=r.1.size:=qaj _
 have hal:=congrArg we ha
 rw [wga,wl,qgq r h3] at hal
 have g0:a.getD p 0=r.1.size:=by
  have e:=qzr a p 0
  rw [ha,hB] at e
  exact e.symm
 have hk:rK a p=r.1.size:=by unfold rK;rw [g0];omega
 have d1:a.drop (p+1)=qZc r.1++(r.2.1/256::r.2.1%256::(r.2.2.1++post)):=by
  rw [←wka,ha,hB]
  simp only [wba,List.drop_succ_cons,wla,wB]
 have d2:a.drop (p+1+r.1.size)=r.2.1/256::r.2.1%256::(r.2.2.1++post):=by
  rw [←wka,d1,←hl,List.drop_left]
 have g1:a.getD (p+1+r.1.size) 0=r.2.1/256:=by
  have e:=qzr a (p+1+r.1.size) 0
  rw [d2] at e
  exact e.symm
 have g2:a.getD (p+2+r.1.size) 0=r.2.1%256:=by
  have:=qzr a (p+1+r.1.size) 1
  rw [show p+2+r.1.size=p+1+r.1.size+1 by omega,←this,d2];rfl
 have d3:a.drop (p+3+r.1.size)=r.2.2.1++post:=by
  rw [show p+3+r.1.size=p+1+r.1.size+2 by omega,←wka,d2];rfl
 refine ⟨⟨by omega,by rw [hk];omega⟩,hk,?_⟩
 unfold rR
 rw [hk,d1,g1,g2,d3,←hl,List.take_left,qpC,show r.2.1/256*256+r.2.1%256=r.2.1 by omega,←h3,List.take_left]
theorem qIA (a post:List Int):∀(rs acc:List qca) (p:Nat),(∀r∈rs,r.1.size≤40∧(0≤r.2.1∧r.2.1≤8192))→SumsOK rs→qdp (acc++rs)=0→a.drop p=qVi rs++post→
  qqK a rs.length p acc=(acc++rs,(((p+(qVi rs).length:Nat):Int),0))
 |[],acc,p,h,hS,hv,ha=>by
  rw [wQ] at hv
  rw [wN,qqK,if_neg (fun k=>k hv),wQ]
  rfl
 |r::rs,acc,p,h,hS,hv,ha=>by
  have h1:=h r wK
  have h3:=hS r wK
  rw [qVi,wB] at ha
  obtain ⟨hf,hk,hR⟩:=qoJ h1.1 h1.2 h3.1 ha
  have hl:=qgq r h3.1
  have e:a.drop (p+rK a p+23)=qVi rs++post:=by
   rw [hk,show p+r.1.size+23=p+(qdH r).length by omega,←wka,ha,List.drop_left]
  have e2:acc++r::rs=(acc++[r])++rs:=by rw [wB];rfl
  have ih:=qIA a post rs (acc++[r]) (p+rK a p+23) (fun q hq=>h q (wH _ hq)) (fun q hq=>hS q (wH _ hq)) (by rw [←e2];exact hv) e
  rw [ww,qqK,if_pos hf,hR,ih,e2]
  refine wmb rfl (wmb ?_ rfl)
  simp only
  rw [qVi,wl]
  omega
def qqf:List qza→List Int
 |[]=>[]
 |b::bs=>bB b++qqf bs
theorem qSK {b:qza} (h:bWf b):(bB b).length=41+b.2.1.length:=by
 unfold bB hB
 simp only [wl,qre,qAr,h.2]
def qUM (s:qpa) (rs:List qca) (bs:List qza):List Int:=qxL s rs++qqf bs
theorem qGJ {s:qpa} {rs:List qca}:(qxL s rs).length=28+(qVi rs).length:=by
 unfold qxL qML
 rw [wl,wl,qot]
 show 8+_+20=_
 omega
open Classical
def Gen (D:Nat→List Int) (q:qja):Prop:=0≤q.1.1∧0≤q.1.2.1∧q.1.2.1.toNat+q.2.1.length≤(D q.1.1.toNat).length∧q.2.1=((D q.1.1.toNat).drop q.1.2.1.toNat).take q.2.1.length
def InP (rs:List qca) (i0:Int) (p:qea):Prop:=i0≤p.1∧p.1<i0+rs.length∧0≤p.2.1∧1≤p.2.2.1∧p.2.1+p.2.2.1≤(rs.getD (p.1 - i0).toNat (qua qra)).2.1
theorem qxK (i n s:Int) (hs:1≤s):∀(k:Nat) (off:Int),0≤off→∀p∈pcs i n s k off,p.1=i∧off≤p.2.1∧1≤p.2.2.1∧p.2.2.1≤s∧p.2.1+p.2.2.1≤n
 |0,off,h0,p,hp=>by cases hp
 |k+1,off,h0,p,hp=>by
  rw [pcs] at hp
  by_cases h:off<n
  ·rw [if_pos h] at hp
   rcases wU.1 hp with rfl|hp
   ·refine ⟨rfl,wza _,?_⟩
    simp only
    split <;> omega
   ·obtain ⟨a,b,c,d,e⟩:=qxK i n s hs k (off+s) (by omega) p hp
    exact ⟨a,by omega,c,d,e⟩
  ·rw [if_neg h] at hp;cases hp
theorem qII (s:Int) (hs:1≤s):∀(rs:List qca) (i0:Int),∀p∈ap s i0 rs,InP rs i0 p∧p.2.2.1≤s
 |[],i0,p,hp=>by cases hp
 |r::rs,i0,p,hp=>by
  rw [ap] at hp
  rcases wR.1 hp with hp|hp
  ·obtain ⟨a,b,c,d,e⟩:=qxK i0 r.2.1 s hs 8200 0 (wza _) p hp
   refine ⟨⟨by omega,by rw [ww];omega,by omega,c,?_⟩,d⟩
   rw [show (p.1 - i0).toNat=0 by omega]
   exact e
  ·obtain ⟨⟨a,b,c,d,e⟩,f⟩:=qII s hs rs (i0+1) p hp
   refine ⟨⟨by omega,by rw [ww];omega,c,d,?_⟩,f⟩
   rw [show (p.1 - i0).toNat=(p.1 - (i0+1)).toNat+1 by omega,List.getD_cons_succ]
   exact e
def ptD (D:Nat→List Int) (p:qea):qja:=(p,((((D p.1.toNat).drop p.2.1.toNat).take p.2.2.1.toNat),()))
theorem qMC {D:Nat→List Int} {rs:List qca} (hD:∀i,i<rs.length→((D i).length:Int)=(rs.getD i (qua qra)).2.1) {p:qea} (h:InP rs 0 p):Gen D (ptD D p)∧((ptD D p).2.1.length:Int)=p.2.2.1:=by
 obtain ⟨a,b,c,d,e⟩:=h
 rw [Int.sub_zero] at e
 have hl:=hD p.1.toNat (by omega)
 have hlen:(ptD D p).2.1.length=p.2.2.1.toNat:=by
  unfold ptD
  simp only [wS,wga]
  omega
 refine ⟨⟨a,c,?_,?_⟩,by omega⟩
 ·rw [hlen]
  show p.2.1.toNat+p.2.2.1.toNat≤(D p.1.toNat).length
  omega
 ·rw [hlen];rfl
def stB (D:Nat→List Int) (p:qea):qza:=qJi p.1 p.2.1 (ptD D p).2.1
open Classical
structure Arc (D:Nat→List Int) (rs:List qca):Prop where
 val:qdp rs=0
 sums:SumsOK rs
 sz:∀i,i<rs.length→((D i).length:Int)=(rs.getD i (qua qra)).2.1
 sum:∀i,i<rs.length→(rs.getD i (qua qra)).2.2.1=qtw (D i)
 bts:∀i,Bts (D i)
def psA (rs:List qca):List qea:=ap 16 0 rs
def bsA (D:Nat→List Int) (rs:List qca):List qza:=(psA rs).map (stB D)
def sA:qpa:=(0,(16,()))
def qjN (D:Nat→List Int) (rs:List qca):List Int:=qUM sA rs (bsA D rs)
theorem Arc.piece {D:Nat→List Int} {rs:List qca} (h:Arc D rs) {p:qea} (hp:p∈psA rs):InP rs 0 p∧p.2.2.1≤16∧mOK p.1 p.2.1 (ptD D p).2.1∧Bts (ptD D p).2.1∧((ptD D p).2.1.length:Int)=p.2.2.1∧Gen D (ptD D p):=by
 have hV:=qWg h.val
 obtain ⟨hi,h16⟩:=qII 16 (by decide) rs 0 p hp
 obtain ⟨g,gl⟩:=qMC h.sz hi
 have hl:=hV.len
 obtain ⟨a,b,c,d,e⟩:=id hi
 have hm:rs.getD (p.1 - 0).toNat (qua qra)∈rs:=qIa (P:=fun r=>r∈rs) (fun r hr=>hr) _ (by omega)
 have hr:=(hV.each _ hm).2.1
 refine ⟨hi,h16,?_,((h.bts _).drop _).take _,gl,g⟩
 unfold mOK
 refine ⟨?_,?_,?_,?_,?_,?_⟩ <;> omega
theorem qVE (D:Nat→List Int):∀ps:List qea,(∀p∈ps,1≤(ptD D p).2.1.length∧((ptD D p).2.1.length:Int)=p.2.2.1)→((qqf (ps.map (stB D))).length:Int)≤42*(ps.map (fun p=>p.2.2.1)).foldr (·+·) 0
 |[],_=>by show (0:Int)≤42*0;decide
 |p::ps,h=>by
  have h1:=h p wK
  have ih:=qVE D ps (fun q hq=>h q (wH _ hq))
  have hb:=qSK (b:=stB D p) (qar _ _ _)
  have hz:(stB D p).2.1.length=(ptD D p).2.1.length:=rfl
  rw [wJ,qqf,wl,hb,hz,wJ,List.foldr_cons]
  omega
end Go.Ab
