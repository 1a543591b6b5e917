/-
  An abstract machine over the model's code and its soundness; what the functions compute, as plain functions (printed by a program of this repo's own, checked here by the kernel); plain laws of them: part 7. Helper text, no statement of the claim stands here.
-/
import Derived.Test.YtdgenbliehokjaaGreatDoorTxtOf
open Bool renaming and_eq_true → wz, not_eq_true' → wUa
open ByteArray renaming empty → wD, mk → wDa, toList → wO
open Go.IntKind renaming wrap → wd
open Int renaming fdiv → wX, le_refl → wVa, ofNat → wi, ofNat_eq_natCast → wj, toNat_natCast → wv
open List renaming all_cons → wub, all_eq_true → wra, append_assoc → wy, append_nil → wS, cons_append → wea, drop → wW, drop_drop → wja, drop_eq_nil_of_le → wI, drop_zero → wca, eq_nil_of_length_eq_zero → wH, flatMap_cons → wXa, flatten_cons → wzb, getD_cons_zero → wpb, getD_eq_getElem?_getD → wu, getElem?_append_right → woa, getElem?_eq_getElem → wx, getElem?_map → wxa, getElem?_set → wAb, length → we, length_append → wm, length_cons → wB, length_drop → wda, length_map → wla, length_nil → wT, length_replicate → wfa, length_set → wia, length_singleton → wC, length_take → wP, map_append → wEa, map_cons → wL, map_nil → wua, mem_append → wba, mem_cons → waa, mem_cons_of_mem → wR, mem_cons_self → wZ, mem_map → wY, mem_singleton → wV, nil_append → wU, replicate → wo, replicate_succ → wIa, set_append_right → wfb, set_cons_zero → wdb, take → wK, take_append_of_le_length → wLa, take_of_length_le → wN
open Nat renaming add_zero → wtb, le_refl → wt, sub_self → wQa, sub_zero → wRa, zero_add → wQ
open Option renaming bind_some → wq
set_option linter.unusedVariables false
set_option linter.unusedSimpArgs false
set_option maxHeartbeats 1000000
set_option maxRecDepth 100000
namespace Go.Ab
open Go
attribute [local irreducible] IntKind.wrap
theorem qmN (a:List Int) (hb:Bts a) (p:Nat) (hf:rF a p):(rR a p).1.size=rK a p∧(rR a p).2.2.1.length=20∧Bts (rR a p).2.2.1:=by
 obtain ⟨h1,h2⟩:=hf
 refine ⟨?_,?_,(hb.drop _).take _⟩
 ·unfold rR;rw [qMI];simp;omega
 ·unfold rR;simp;omega
theorem RecsOK.snoc {l:List qaa} {r:qaa} (h:RecsOK l) (hl:l.length<9223372036854775807) (hr:r.1.size≤9223372036854775807):RecsOK (l++[r]):=
 ⟨by simp;omega,fun q hq=>by
  rcases wba.1 hq with hq|hq
  ·exact h.2 q hq
  ·rw [wV.1 hq];exact hr⟩
theorem SumsOK.snoc {l:List qaa} {r:qaa} (h:SumsOK l) (hr:r.2.2.1.length=20∧Bts r.2.2.1):SumsOK (l++[r]):=fun q hq=>by
 rcases wba.1 hq with hq|hq
 ·exact h q hq
 ·rw [wV.1 hq];exact hr
theorem qYH (a:List Int) (hb:Bts a) (hl:a.length≤100000) (N:Nat) (hN:N≤16):∀(n i p:Nat) (acc:List qaa),i+n=N→acc.length=i→p≤a.length→RecsOK acc→
  qYi (N:Int) (i:Int) ((a,((p:Int),())),()) acc=some (qBB a n p acc)
 |0,i,p,acc,e,hi,hp,hR=>by
  rw [qLm,if_neg (by simp;omega),qpe acc hR]
  simp only [wq,qBB]
  by_cases h:qBe acc=0
  ·rw [if_neg (by simp [h]),if_neg (by simp [h])]
  ·rw [if_pos (by simpa using h),if_pos h]
 |n+1,i,p,acc,e,hi,hp,hR=>by
  rw [qLm,if_pos (by simp;omega),qBB]
  by_cases hf:rF a p
  ·have hr:=qmN a hb p hf
   have hk:=qeJ hb p
   rw [qGK a hb hl p hf,if_pos hf]
   simp only [wq,qbA]
   rw [if_neg (by simp),qda (by simp;omega),w64 (by omega) (by omega)]
   have ih:=qYH a hb hl N hN n (i+1) (p+rK a p+23) (acc++[rR a p]) (by omega) (by simp;omega) (by unfold rF at hf;omega) (hR.snoc (by omega) (by omega))
   rw [show ((i+1:Nat):Int)=(i:Int)+1 by omega] at ih
   exact ih
  ·obtain ⟨x,s,hx⟩:=qHK a hb hl p hp hf
   rw [hx,if_neg hf]
   simp only [wq,qaA]
   rw [if_pos trivial]
def rdM (a:List Int) (n:Int):List qaa×Int×Int:=if n<0∨n>16 then ([],(0,2)) else if a.length>50000 then ([],(0,4)) else qBB a n.toNat 0 []
theorem RecsOK.nil:RecsOK []:=⟨by simp,fun _ h=>by cases h⟩
theorem SumsOK.nil:SumsOK []:=fun _ h=>by cases h
theorem qEv (a:List Int) (hb:Bts a) (n:Int):qzr a n=some (rdM a n):=by
 rw [qJz,rdM]
 by_cases h1:n<0
 ·rw [if_pos (by simpa using h1),if_pos (.inl h1)]
 ·rw [if_neg (by simpa using h1)]
  by_cases h2:n>16
  ·rw [if_pos (by simpa using h2),if_pos (.inr h2)]
  ·rw [if_neg (by simpa using h2),if_neg (show ¬(n<0∨n>16) by omega)]
   by_cases h3:a.length>50000
   ·rw [if_pos (by simp;omega),if_pos h3]
   ·rw [if_neg (by simp;omega),if_neg h3]
    have:=qYH a hb (by omega) n.toNat (by omega) n.toNat 0 0 [] (by omega) rfl (by omega) .nil
    rw [show ((n.toNat:Nat):Int)=n by omega] at this
    exact this
theorem qvH (a:List Int) (hl:a.length≤100000) (N i:Int) (p k:Nat) (hp:p+1+k+22≤a.length) (hk:k<256) (acc:List qaa) (hacc:acc.length≤1000) (nm:ByteArray) (sz:Int) (hi:0≤i∧i≤1000):∀(d j:Nat) (S:List Int),20 - j=d→j≤20→S.length=20→S.take j=((a.drop (p+3+k)).take 20).take j→
  qhe a N (p:Int) i (k:Int) (j:Int) acc (nm,(sz,(S,())))=qZc a N ((p+k+23:Nat):Int) (i+1) (acc++[(nm,(sz,((a.drop (p+3+k)).take 20,())))])
 |0,j,S,hd,hj,hS,ht=>by
  have:j=20:=by omega
  subst this
  have l3:((a.drop (p+3+k)).take 20).length=20:=by simp;omega
  rw [wN (by omega),wN (by omega)] at ht
  rw [qgi,if_neg (by simp),qda (by simp;omega),w64 (x:=(k:Int)+23) (by omega) (by omega),w64 (x:=(p:Int)+(k+23)) (by omega) (by omega),w64 (x:=i+1) (by omega) (by omega),ht]
  congr 1
 |d+1,j,S,hd,hj,hS,ht=>by
  have hl':wi a.length=(a.length:Int):=rfl
  rw [qgi,if_pos (by simp;omega),w64 (x:=(p:Int)+3) (by omega) (by omega),w64 (x:=(p:Int)+3+k) (by omega) (by omega),w64 (x:=(p:Int)+3+k+j) (by omega) (by omega),w64 (x:=(j:Int)+1) (by omega) (by omega),qda (by omega),qda (by rw [hl'];omega),qda (by omega),qda (by omega)]
  have e1:((p:Int)+3+k+j).toNat=p+3+k+j:=by omega
  rw [e1,wv]
  have ih:=qvH a hl N i p k hp hk acc hacc nm sz hi d (j+1) (S.set j (a.getD (p+3+k+j) 0)) (by omega) (by omega) (by simpa using hS) (by
   rw [qes _ _ _ (by omega),ht,List.take_succ_eq_append_getElem (l:=(a.drop (p+3+k)).take 20) (by simp;omega)]
   congr 2
   rw [List.getElem_take,List.getElem_drop,wu,wx (by omega)]
   rfl)
  rw [show ((j+1:Nat):Int)=(j:Int)+1 by omega] at ih
  exact ih
theorem qwH (a:List Int) (hb:Bts a) (hl:a.length≤100000) (N:Nat) (hN:N≤16):∀(n i p:Nat) (acc:List qaa),i+n=N→acc.length=i→p≤a.length→RecsOK acc→
  qZc a (N:Int) (p:Int) (i:Int) acc=some (qBB a n p acc)
 |0,i,p,acc,e,hi,hp,hR=>by
  rw [qhi,if_neg (by simp;omega),qpv acc hR]
  simp only [wq,qBB]
  by_cases h:qBe acc=0
  ·rw [if_neg (by simp [h]),if_neg (by simp [h])]
  ·rw [if_pos (by simpa using h),if_pos h]
 |n+1,i,p,acc,e,hi,hp,hR=>by
  have hl':wi a.length=(a.length:Int):=rfl
  obtain ⟨ek,hk⟩:=qeJ hb p
  rw [qhi,if_pos (by simp;omega),qBB,hl']
  by_cases h1:p<a.length
  ·rw [if_neg (by simp;omega),qda (by omega),qda (by omega),wv,ek]
   rw [w64 (x:=(rK a p:Int)) (by omega) (by omega),w64 (x:=(a.length:Int) - p) (by omega) (by omega),w64 (x:=(a.length:Int) - p - 1) (by omega) (by omega),w64 (x:=(rK a p:Int)+22) (by omega) (by omega)]
   by_cases hf:rF a p
   ·have h2:p+1+rK a p+22≤a.length:=hf.2
    have hr:=qmN a hb p hf
    have b1:=hb.getD (p+1+rK a p)
    have b2:=hb.getD (p+2+rK a p)
    rw [if_neg (by simp;omega),if_pos hf,w64 (x:=(p:Int)+1) (by omega) (by omega),w64 (x:=(p:Int)+1+rK a p) (by omega) (by omega),w64 (x:=(p:Int)+2) (by omega) (by omega),w64 (x:=(p:Int)+2+rK a p) (by omega) (by omega)]
    have n1:((p:Int)+1+rK a p).toNat=p+1+rK a p:=by omega
    have n2:((p:Int)+2+rK a p).toNat=p+2+rK a p:=by omega
    have n3:((p:Int)+1).toNat=p+1:=by omega
    rw [qda (by omega),qda (by omega),qda (by omega),qda (by omega),qda (by omega),qda (by omega),qda (by omega),qda (by omega),qda (by omega),qda (by omega),n1,n2,n3,Nat.add_sub_cancel_left]
    rw [w64 (x:=a.getD (p+1+rK a p) 0) (by omega) (by omega),w64 (x:=a.getD (p+2+rK a p) 0) (by omega) (by omega),w64 (x:=a.getD (p+1+rK a p) 0*256) (by omega) (by omega),w64 (x:=a.getD (p+1+rK a p) 0*256+a.getD (p+2+rK a p) 0) (by omega) (by omega)]
    have e2:=qvH a hl (N:Int) (i:Int) p (rK a p) h2 hk acc (by omega) (qng ((a.drop (p+1)).take (rK a p))) (a.getD (p+1+rK a p) 0*256+a.getD (p+2+rK a p) 0) (by omega) 20 0 (wo 20 0) (by omega) (by omega) (by simp) (by simp)
    refine Eq.trans e2 ?_
    have ih:=qwH a hb hl N hN n (i+1) (p+rK a p+23) (acc++[rR a p]) (by omega) (by simp;omega) (by omega) (hR.snoc (by omega) (by omega))
    rw [show ((i+1:Nat):Int)=(i:Int)+1 by omega] at ih
    exact ih
   ·rw [if_pos (by unfold rF at hf;simp;omega),if_neg hf]
  ·rw [if_pos (by simp;omega),if_neg (by unfold rF;omega)]
theorem qex (a:List Int) (hb:Bts a) (n:Int):qOi a n=some (rdM a n):=by
 rw [qvq,rdM]
 by_cases h1:n<0
 ·rw [if_pos (by simpa using h1),if_pos (.inl h1)]
 ·rw [if_neg (by simpa using h1)]
  by_cases h2:n>16
  ·rw [if_pos (by simpa using h2),if_pos (.inr h2)]
  ·rw [if_neg (by simpa using h2),if_neg (show ¬(n<0∨n>16) by omega)]
   by_cases h3:a.length>50000
   ·rw [if_pos (by simp;omega),if_pos h3]
   ·rw [if_neg (by simp;omega),if_neg h3]
    have:=qwH a hb (by omega) n.toNat (by omega) n.toNat 0 0 [] (by omega) rfl (by omega) .nil
    rw [show ((n.toNat:Nat):Int)=n by omega] at this
    exact this
theorem qrf {α:Type} (l:List α) (m n:Nat):l.take (m+n)=l.take m++(l.drop m).take n:=List.take_add
theorem qKi (a:List Int) (p:Nat) (h:p<a.length):(a.drop p).take 1=[a.getD p 0]:=by
 rw [(qTa (0:Int) h).1];rfl
theorem qqP (a:List Int) (hb:Bts a) (p:Nat) (hf:rF a p):qGD (rR a p)=(a.drop p).take (rK a p+23):=by
 obtain ⟨h1,h2⟩:=hf
 obtain ⟨ek,hk⟩:=qeJ hb p
 have hs:=(qmN a hb p ⟨h1,h2⟩).1
 have b1:=hb.getD (p+1+rK a p)
 have b2:=hb.getD (p+2+rK a p)
 have e1:wd .u8 ((rR a p).1.size:Int)=(rK a p:Int):=by rw [hs,wu8];omega
 have e2:qld (rR a p).1=(a.drop (p+1)).take (rK a p):=qun ((hb.drop _).take _)
 have e3:wd .u8 (wX (rR a p).2.1 256)=a.getD (p+1+rK a p) 0:=by
  show wd .u8 (wX (a.getD (p+1+rK a p) 0*256+a.getD (p+2+rK a p) 0) 256)=_
  rw [wu8,qIg _ (by omega)];omega
 have e4:wd .u8 (rR a p).2.1=a.getD (p+2+rK a p) 0:=by
  show wd .u8 (a.getD (p+1+rK a p) 0*256+a.getD (p+2+rK a p) 0)=_
  rw [wu8];omega
 have e5:wK 20 (wW 0 (rR a p).2.2.1)=(a.drop (p+3+rK a p)).take 20:=by
  show wK 20 (wW 0 ((a.drop (p+3+rK a p)).take 20))=_
  rw [wca,List.take_take];rfl
 unfold qGD
 rw [e1,e2,e3,e4,e5,show rK a p+23=1+(rK a p+(1+(1+20))) by omega,qrf,qrf,qrf,qrf,wja,wja,wja,wja,qKi a p h1,qKi a (p+1+rK a p) (by omega),show p+1+rK a p+1=p+2+rK a p by omega,qKi a (p+2+rK a p) (by omega),show p+2+rK a p+1=p+3+rK a p by omega,ek]
 simp only [wy,wea,wU]
theorem qOu:∀(l m:List qaa),qDc (l++m)=qDc l++qDc m
 |[],m=>rfl
 |r::l,m=>by simp only [wea,qDc,qOu l m,wy]
structure ReadOK (a:List Int) (n:Nat) (l:List qaa) (q:Nat):Prop where
 le:q≤a.length
 bytes:qDc l=a.take q
 val:qBe l=0
 sums:SumsOK l
 recs:RecsOK l
 len:l.length=n
theorem qKK (a:List Int) (hb:Bts a):∀(n p:Nat) (acc l:List qaa) (q:Int),qBB a n p acc=(l,(q,0))→p≤a.length→qDc acc=a.take p→SumsOK acc→RecsOK acc→acc.length+n≤1000→
  ∃q':Nat,q=q'∧ReadOK a (acc.length+n) l q'∧p≤q'
 |0,p,acc,l,q,h,hp,hB,hS,hR,hn=>by
  simp only [qBB] at h
  split at h
  ·simp at h
  ·rename_i hv
   simp only [Prod.mk.injEq] at h
   obtain ⟨rfl,rfl,_⟩:=h
   exact ⟨p,rfl,⟨hp,hB,by simpa using hv,hS,hR,rfl⟩,wt _⟩
 |n+1,p,acc,l,q,h,hp,hB,hS,hR,hn=>by
  simp only [qBB] at h
  split at h
  ·rename_i hf
   have hr:=qmN a hb p hf
   have hk:=qeJ hb p
   obtain ⟨h1,h2⟩:=id hf
   obtain ⟨q',e,hO,hle⟩:=qKK a hb n _ _ l q h (by omega) (by
    rw [qOu,hB,show qDc [rR a p]=qGD (rR a p)++[] from rfl,wS,qqP a hb p hf,show p+rK a p+23=p+(rK a p+23) by omega,qrf a p]) (hS.snoc hr.2) (hR.snoc (by omega) (by omega)) (by simp;omega)
   rw [show (acc++[rR a p]).length+n=acc.length+(n+1) by simp;omega] at hO
   exact ⟨q',e,hO,by omega⟩
  ·simp at h
def sH (a:List Int):qia:=(a.getD 4 0,(a.getD 5 0*256+a.getD 6 0,()))
def hdE (e:Int):qia×List qaa×Int×Int:=((0,(0,())),([],(0,e)))
def magic:List Int:=[66,76,70,1]
def hdP (a:List Int):qia×List qaa×Int×Int:=
 if a.length>50000 then hdE 4 else if a.length<8 then hdE 18
 else if a.take 4≠magic∨chk (sH a)≠0∨a.getD 7 0>16 then hdE 12
 else if (rdM (a.drop 8) (a.getD 7 0)).2.2≠0 then hdE (rdM (a.drop 8) (a.getD 7 0)).2.2
 else if (a.length:Int) - 8 - (rdM (a.drop 8) (a.getD 7 0)).2.1<20 then hdE 18
 else if (a.drop (8+(rdM (a.drop 8) (a.getD 7 0)).2.1.toNat)).take 20≠qkk (a.take (8+(rdM (a.drop 8) (a.getD 7 0)).2.1.toNat)) then hdE 22
 else (sH a,((rdM (a.drop 8) (a.getD 7 0)).1,(28+(rdM (a.drop 8) (a.getD 7 0)).2.1,0)))
theorem qer (a b:List Int) (ha:Bts a) (hb:Bts b):qRf a b=some (decide (a.take b.length=b)):=by
 rw [qTl]
 by_cases h:b.length≤a.length
 ·rw [if_pos (by simp;omega),qda (by simp),qda (by simp;omega),qwm,qNN (ha.take _) hb];rfl
 ·rw [if_neg (by simp;omega)]
  have:¬a.take b.length=b:=fun e=>by
   have:=congrArg we e
   simp at this;omega
  simp [this]
theorem qFN (a:List Int) (hb:Bts a):(wO (qng (wK 4 a))==wO (wDa #[66,76,70,1]))=decide (a.take 4=magic):=by
 have:wDa #[66,76,70,1]=qng magic:=rfl
 rw [this,qNN (hb.take _) (by intro x hx;simp [magic] at hx;omega)]
theorem qLK {a:List Int} (hb:Bts a) (hl:a.length≤50000) {n:Int} (hn:0≤n∧n≤16) (h:(rdM a n).2.2=0):∃q:Nat,(rdM a n).2.1=q∧ReadOK a n.toNat (rdM a n).1 q:=by
 have e:rdM a n=qBB a n.toNat 0 []:=by unfold rdM;rw [if_neg (by omega),if_neg (by omega)]
 rw [e] at h ⊢
 obtain ⟨q,e1,e2,_⟩:=qKK a hb n.toNat 0 [] (qBB a n.toNat 0 []).1 (qBB a n.toNat 0 []).2.1 (by rw [←h]) (by omega) rfl .nil .nil (by simp;omega)
 rw [show ([]:List qaa).length+n.toNat=n.toNat by simp] at e2
 exact ⟨q,e1,e2⟩
theorem qPJ {a:List Int} (hb:Bts a) (h8:8≤a.length) (hm:a.take 4=magic) (hc:chk (sH a)=0) (h7:a.getD 7 0≤16) {l:List qaa} {q:Nat} (hO:ReadOK (a.drop 8) (a.getD 7 0).toNat l q):quh (sH a) l=a.take (8+q):=by
 have b4:=hb.getD 4
 have b5:=hb.getD 5
 have b6:=hb.getD 6
 have b7:=hb.getD 7
 have e1:wd .u8 (sH a).1=a.getD 4 0:=by show wd .u8 (a.getD 4 0)=_;rw [wu8];omega
 have e2:wd .u8 (wX (sH a).2.1 256)=a.getD 5 0:=by
  show wd .u8 (wX (a.getD 5 0*256+a.getD 6 0) 256)=_
  rw [wu8,qIg _ (by omega)];omega
 have e3:wd .u8 (sH a).2.1=a.getD 6 0:=by
  show wd .u8 (a.getD 5 0*256+a.getD 6 0)=_
  rw [wu8];omega
 have e4:wd .u8 (l.length:Int)=a.getD 7 0:=by rw [hO.len,wu8];omega
 unfold quh qpy
 rw [e1,e2,e3,e4,hO.bytes,qrf,show (8:Nat)=4+(1+(1+(1+1))) from rfl,qrf a 4,qrf,qrf,qrf,wja,wja,wja,qKi a 4 (by omega),qKi a (4+1) (by omega),qKi a (4+1+1) (by omega),qKi a (4+1+1+1) (by omega),hm]
 rfl
theorem qPz (a:List Int) (hb:Bts a):qYx a=some (hdP a):=by
 have hl':wi a.length=(a.length:Int):=rfl
 rw [qkE,hl']
 unfold hdP
 by_cases h1:a.length>50000
 ·rw [if_pos (by simp;omega),if_pos h1];rfl
 rw [if_neg (by simp;omega),if_neg h1]
 by_cases h2:a.length<8
 ·rw [if_pos (by simp;omega),if_pos h2];rfl
 have b4:=hb.getD 4
 have b5:=hb.getD 5
 have b6:=hb.getD 6
 have b7:=hb.getD 7
 rw [if_neg (by simp;omega),if_neg h2,qda (by decide),qda (by omega),qda (by decide),qda (by omega),qda (by decide),qda (by decide),qda (by omega),qer a _ hb (by intro x hx;simp at hx;omega)]
 simp only [wq]
 rw [w64 (x:=a.getD 4 0) (by omega) (by omega),w64 (x:=a.getD 5 0) (by omega) (by omega),w64 (x:=a.getD 6 0) (by omega) (by omega),w64 (x:=a.getD 7 0) (by omega) (by omega),w64 (x:=a.getD 5 0*256) (by omega) (by omega),qMH (by omega) b6]
 have es:((a.getD 4 0,(a.getD 5 0*256+a.getD 6 0,())):qia)=sH a:=rfl
 have em:([66,76,70,1]:List Int)=magic:=rfl
 rw [es,em,show magic.length=4 from rfl]
 by_cases hm:a.take 4=magic
 ·rw [if_neg (by simp [hm]),qEk]
  simp only [wq]
  by_cases hc:chk (sH a)=0
  ·rw [if_neg (by simp [hc]),qda (by decide),qda (by omega)]
   by_cases h7:a.getD 7 0>16
   ·rw [if_pos (by simpa using h7),if_pos (.inr (.inr h7))];rfl
   ·rw [if_neg (by simpa using h7),if_neg (show ¬(a.take 4≠magic∨chk (sH a)≠0∨a.getD 7 0>16) from fun h=>by rcases h with h|h|h;exact h hm;exact h hc;exact h7 h),qda (by decide),qda (by omega),qda (by decide),qda (by omega),qEv _ (hb.drop 8)]
    simp only [wq]
    by_cases hr:(rdM (a.drop 8) (a.getD 7 0)).2.2=0
    ·obtain ⟨q,hq,hO⟩:=qLK (hb.drop 8) (by simp;omega) ⟨b7.1,by omega⟩ hr
     have hle:=hO.le
     rw [wda] at hle
     have hbody:=qPJ hb (by omega) hm hc (by omega) hO
     have ha:ask (sH a) (rdM (a.drop 8) (a.getD 7 0)).1=0:=by unfold ask;rw [if_neg (by simp [hc]),hO.val]
     rw [if_neg (by rw [hr];decide),if_neg (show ¬(rdM (a.drop 8) (a.getD 7 0)).2.2≠0 from fun h=>h hr),qLq _ _ hO.recs hO.sums,ha,if_neg (by simp)]
     simp only [wq]
     rw [hq,w64 (x:=(a.length:Int) - 8) (by omega) (by omega),w64 (x:=(a.length:Int) - 8 - q) (by omega) (by omega),wv]
     by_cases h20:(a.length:Int) - 8 - q<20
     ·rw [if_pos (by simpa using h20),if_pos h20];rfl
     ·rw [if_neg (by simpa using h20),if_neg h20,qer a _ hb (qEL _ _ hO.sums)]
      simp only [wq]
      have hhl:(qLk (sH a) (rdM (a.drop 8) (a.getD 7 0)).1).length=8+q+20:=by
       unfold qLk;rw [wm,qFh,hbody];simp;omega
      have hiff:a.take (qLk (sH a) (rdM (a.drop 8) (a.getD 7 0)).1).length=qLk (sH a) (rdM (a.drop 8) (a.getD 7 0)).1↔(a.drop (8+q)).take 20=qkk (a.take (8+q)):=by
       rw [hhl,qrf]
       unfold qLk
       rw [hbody]
       constructor
       ·intro h;exact List.append_cancel_left h
       ·intro h;rw [h]
      by_cases hs:(a.drop (8+q)).take 20=qkk (a.take (8+q))
      ·rw [if_neg (by rw [decide_eq_true (hiff.2 hs)];decide),if_neg (show ¬(a.drop (8+q)).take 20≠qkk (a.take (8+q)) by simp [hs]),hhl]
       congr 3
       simp;omega
      ·rw [if_pos (by rw [decide_eq_false (fun h=>hs (hiff.1 h))];rfl),if_pos hs];rfl
    ·rw [if_pos (bne_iff_ne.2 hr),if_pos hr];rfl
  ·rw [if_pos (by simpa using hc),if_pos (.inr (.inl hc))];rfl
 ·rw [if_pos (by simp [hm]),if_pos (.inl hm)];rfl
theorem qID (a:List Int) (hb:Bts a):qNi a=some (hdP a):=by
 have hl':wi a.length=(a.length:Int):=rfl
 rw [qtq,hl']
 unfold hdP
 by_cases h1:a.length>50000
 ·rw [if_pos (by simp;omega),if_pos h1];rfl
 rw [if_neg (by simp;omega),if_neg h1]
 by_cases h2:a.length<8
 ·rw [if_pos (by simp;omega),if_pos h2];rfl
 have b4:=hb.getD 4
 have b5:=hb.getD 5
 have b6:=hb.getD 6
 have b7:=hb.getD 7
 rw [if_neg (by simp;omega),if_neg h2,qda (by decide),qda (by omega),qda (by decide),qda (by omega),qda (by decide),qda (by decide),qda (by omega),qda (by decide),qda (by omega),qFN a hb]
 rw [w64 (x:=a.getD 4 0) (by omega) (by omega),w64 (x:=a.getD 5 0) (by omega) (by omega),w64 (x:=a.getD 6 0) (by omega) (by omega),w64 (x:=a.getD 7 0) (by omega) (by omega),w64 (x:=a.getD 5 0*256) (by omega) (by omega),w64 (x:=a.getD 5 0*256+a.getD 6 0) (by omega) (by omega)]
 have es:((a.getD 4 0,(a.getD 5 0*256+a.getD 6 0,())):qia)=sH a:=rfl
 rw [es]
 by_cases hm:a.take 4=magic
 ·rw [if_neg (by simp [hm]),qov]
  simp only [wq]
  by_cases hc:chk (sH a)=0
  ·rw [if_neg (by simp [hc]),qda (by decide),qda (by omega)]
   by_cases h7:a.getD 7 0>16
   ·rw [if_pos (by simpa using h7),if_pos (.inr (.inr h7))];rfl
   ·rw [if_neg (by simpa using h7),if_neg (show ¬(a.take 4≠magic∨chk (sH a)≠0∨a.getD 7 0>16) from fun h=>by rcases h with h|h|h;exact h hm;exact h hc;exact h7 h),qda (by decide),qda (by omega),qda (by decide),qda (by omega),qex _ (hb.drop 8)]
    simp only [wq]
    by_cases hr:(rdM (a.drop 8) (a.getD 7 0)).2.2=0
    ·obtain ⟨q,hq,hO⟩:=qLK (hb.drop 8) (by simp;omega) ⟨b7.1,by omega⟩ hr
     have hle:=hO.le
     rw [wda] at hle
     rw [if_neg (by rw [hr];decide),if_neg (show ¬(rdM (a.drop 8) (a.getD 7 0)).2.2≠0 from fun h=>h hr)]
     rw [hq,w64 (x:=(a.length:Int) - 8) (by omega) (by omega),w64 (x:=(a.length:Int) - 8 - q) (by omega) (by omega),wv]
     by_cases h20:(a.length:Int) - 8 - q<20
     ·rw [if_pos (by simpa using h20),if_pos h20];rfl
     ·rw [if_neg (by simpa using h20),if_neg h20,w64 (x:=(8:Int)+q) (by omega) (by omega),w64 (x:=(28:Int)+q) (by omega) (by omega),qda (by omega),qda (by omega)]
      have n1:((8:Int)+q).toNat=8+q:=by omega
      have n2:((28:Int)+q).toNat - (8+q)=20:=by omega
      rw [n1,n2,qiz _ (by simp;omega)]
      simp only [wq]
      have e0:wK 20 (wW 0 (qkk (a.take (8+q))))=qkk (a.take (8+q)):=by
       rw [wca,wN (by rw [qFh];omega)]
      rw [qda (by omega),qda (by omega),qda (by omega),e0,qNN (qqB _) ((hb.drop _).take _)]
      by_cases hs:(a.drop (8+q)).take 20=qkk (a.take (8+q))
      ·rw [if_neg (by simp [hs]),if_neg (show ¬(a.drop (8+q)).take 20≠qkk (a.take (8+q)) by simp [hs])]
      ·rw [if_pos (by simp only [wUa,decide_eq_false_iff_not];exact fun h=>hs h.symm),if_pos hs];rfl
    ·rw [if_pos (bne_iff_ne.2 hr),if_pos hr];rfl
  ·rw [if_pos (by simpa using hc),if_pos (.inr (.inl hc))];rfl
 ·rw [if_pos (by simp [hm]),if_pos (.inl hm)];rfl
def zL:qza:=((0,(0,())),([],([],())))
def qUC (a:List Int) (s:qia) (rs:List qaa):List qea→Nat→List qga→List qca→qza×List qca×Int
 |[],p,hs,bs=>if p<a.length then (zL,([],12)) else ((s,(rs,(hs,()))),(bs,0))
 |x::ps,p,hs,bs=>if (rdB (a.drop p)).2.2≠0 then (zL,([],(rdB (a.drop p)).2.2)) else if ¬isP (rdB (a.drop p)).1.1 x then (zL,([],32))
  else qUC a s rs ps (p+(rdB (a.drop p)).2.1.toNat) (hs++[(rdB (a.drop p)).1.1]) (bs++[(rdB (a.drop p)).1])
def qXr (a:List Int):qza×List qca×Int:=
 if (hdP a).2.2.2≠0 then (zL,([],(hdP a).2.2.2)) else qUC a (hdP a).1 (hdP a).2.1 (ap (hdP a).1.2.1 0 (hdP a).2.1) (hdP a).2.2.1.toNat [] []
theorem qtH {c:List Int} (h:(rdB c).2.2=0):hOK (rdB c).1.1∧(rdB c).2.1=41+(rdB c).1.1.2.2.2.2.1∧(rdB c).2.1≤c.length∧41≤c.length∧c.length≤50000∧c.take 13=mark∧
  rdB c=((pH ((c.drop 13).take 28),((c.drop 41).take (pH ((c.drop 13).take 28)).2.2.2.2.1.toNat,())),(41+(pH ((c.drop 13).take 28)).2.2.2.2.1,0)):=by
 unfold rdB at h ⊢
 by_cases h1:c.length>50000
 ·rw [if_pos h1] at h;simp at h
 ·rw [if_neg h1] at h ⊢
  by_cases h2:c.length<41
  ·rw [if_pos h2] at h;simp at h
  ·rw [if_neg h2] at h ⊢
   by_cases h3:c.take 13≠mark∨¬hOK (pH ((c.drop 13).take 28))
   ·rw [if_pos h3] at h;simp at h
   ·rw [if_neg h3] at h ⊢
    by_cases h4:(c.length:Int)<41+(pH ((c.drop 13).take 28)).2.2.2.2.1
    ·rw [if_pos h4] at h;simp at h
    ·rw [if_neg h4]
     simp only [ne_eq,not_or,Decidable.not_not] at h3
     exact ⟨h3.2,rfl,by simp only;omega,by omega,by omega,h3.1,rfl⟩
structure HeadOK (a:List Int) (l:List qaa) (q:Nat):Prop where
 eq:hdP a=(sH a,(l,(28+(q:Int),0)))
 le:28+q≤a.length
 big:a.length≤50000
 magic:a.take 4=magic
 chk:chk (sH a)=0
 seven:a.getD 7 0≤16
 nn:0≤a.getD 7 0
 read:ReadOK (a.drop 8) (a.getD 7 0).toNat l q
 sum:(a.drop (8+q)).take 20=qkk (a.take (8+q))
 rd:qBB (a.drop 8) (a.getD 7 0).toNat 0 []=(l,((q:Int),0))
theorem qFL {a:List Int} (hb:Bts a) (h:(hdP a).2.2.2=0):∃l q,HeadOK a l q:=by
 have b7:=hb.getD 7
 unfold hdP at h
 by_cases h1:a.length>50000
 ·rw [if_pos h1] at h;simp [hdE] at h
 rw [if_neg h1] at h
 by_cases h2:a.length<8
 ·rw [if_pos h2] at h;simp [hdE] at h
 rw [if_neg h2] at h
 by_cases h3:a.take 4≠magic∨chk (sH a)≠0∨a.getD 7 0>16
 ·rw [if_pos h3] at h;simp [hdE] at h
 rw [if_neg h3] at h
 have h3':=h3
 simp only [ne_eq,not_or,Decidable.not_not] at h3'
 obtain ⟨m1,m2,m3⟩:=h3'
 by_cases hr:(rdM (a.drop 8) (a.getD 7 0)).2.2=0
 ·obtain ⟨q,hq,hO⟩:=qLK (hb.drop 8) (by simp;omega) ⟨b7.1,by omega⟩ hr
  have hle:=hO.le
  rw [wda] at hle
  rw [if_neg (fun h=>h hr)] at h
  by_cases h20:(a.length:Int) - 8 - (rdM (a.drop 8) (a.getD 7 0)).2.1<20
  ·rw [if_pos h20] at h;simp [hdE] at h
  rw [if_neg h20] at h
  have hqn:(rdM (a.drop 8) (a.getD 7 0)).2.1.toNat=q:=by omega
  by_cases hs:(a.drop (8+(rdM (a.drop 8) (a.getD 7 0)).2.1.toNat)).take 20≠qkk (a.take (8+(rdM (a.drop 8) (a.getD 7 0)).2.1.toNat))
  ·rw [if_pos hs] at h;simp [hdE] at h
  refine ⟨_,q,?_,by omega,by omega,m1,m2,by omega,b7.1,hO,?_,?_⟩
  ·unfold hdP
   rw [if_neg h1,if_neg h2,if_neg h3,if_neg (fun h=>h hr),if_neg h20,if_neg hs,hq]
  ·rw [hqn] at hs;simpa using hs
  ·have e:rdM (a.drop 8) (a.getD 7 0)=qBB (a.drop 8) (a.getD 7 0).toNat 0 []:=by unfold rdM;rw [if_neg (by omega),if_neg (by simp;omega)]
   rw [←e,←hq]
   exact Prod.ext rfl (Prod.ext rfl hr)
 ·rw [if_pos hr] at h;exact absurd h hr
theorem HeadOK.recsV {a l q} (h:HeadOK a l q):RecsV l:=qNc h.read.val
theorem HeadOK.blk {a l q} (h:HeadOK a l q):16≤(sH a).2.1∧(sH a).2.1≤4096:=qVy h.chk
theorem qaP (a:List Int) (hb:Bts a) (hl:a.length≤50000) (s t:qia) (rs x1:List qaa) (x2:List qga) (ps:List qea) (hps:ps.length≤100000):∀(k i p:Nat) (hs:List qga) (bs:List qca),i+k=ps.length→p≤a.length→hs.length=i→bs.length=i→
  qCn a (p:Int) (ps.length:Int) (i:Int) t () s () bs ps x1 x2 rs hs=some (qUC a s rs (ps.drop i) p hs bs)
 |0,i,p,hs,bs,e,hp,h1,h2=>by
  have hl':wi a.length=(a.length:Int):=rfl
  rw [qSq,if_neg (by simp;omega),wI (by omega),qUC,hl']
  by_cases h:p<a.length
  ·rw [if_pos (by simp;omega),if_pos h];rfl
  ·rw [if_neg (by simp;omega),if_neg h]
 |k+1,i,p,hs,bs,e,hp,h1,h2=>by
  have hl':wi a.length=(a.length:Int):=rfl
  have hl2:wi ps.length=(ps.length:Int):=rfl
  obtain ⟨d1,d2,d3⟩:=qTa (qqa qka:qea) (xs:=ps) (i:=i) (by omega)
  rw [qSq,if_pos (by simp;omega),qda (by omega),qda (by omega),qda (by omega),qda (by omega),wv,wv,qwu _ (hb.drop p),wQ]
  simp only [wq]
  rw [d1,qUC]
  generalize ps.getD i (qqa qka)=pc
  by_cases hr:(rdB (a.drop p)).2.2=0
  ·have hk:=qtH hr
   have hlen:=qMk hk.1
   have hle:=hk.2.2.1
   rw [wda] at hle
   rw [if_neg (by rw [hr];decide),if_neg (fun h=>h hr),qTu]
   simp only [wq]
   by_cases hi:isP (rdB (a.drop p)).1.1 pc
   ·rw [if_neg (by rw [decide_eq_true hi];decide),if_neg (fun h=>h hi),qda (by simp;omega),qda (by simp;omega),w64 (by omega) (by omega),w64 (by omega) (by omega)]
    have ih:=qaP a hb hl s t rs x1 x2 ps hps k (i+1) (p+(rdB (a.drop p)).2.1.toNat) (hs++[(rdB (a.drop p)).1.1]) (bs++[(rdB (a.drop p)).1]) (by omega) (by omega) (by simp;omega) (by simp;omega)
    rw [show ((i+1:Nat):Int)=(i:Int)+1 by omega,show ((p+(rdB (a.drop p)).2.1.toNat:Nat):Int)=(p:Int)+(rdB (a.drop p)).2.1 by omega] at ih
    exact ih
   ·rw [if_pos (by rw [decide_eq_false hi];rfl),if_pos hi];rfl
  ·rw [if_pos (bne_iff_ne.2 hr),if_pos hr];rfl
theorem qUB (a:List Int) (hb:Bts a):qVB a=some (qXr a):=by
 rw [qkG,qPz a hb]
 simp only [wq,qXr]
 by_cases h:(hdP a).2.2.2=0
 ·obtain ⟨l,q,hO⟩:=qFL hb h
  rw [if_neg (by rw [h];decide),if_neg (fun k=>k h),hO.eq]
  simp only
  have hle:=hO.le
  have hsm:=qnw (sH a).2.1 hO.blk.1 l hO.recsV
  rw [qeo _ _ hO.blk hO.recsV]
  simp only [wq]
  have:=qaP a hb hO.big (sH a) (0,(0,())) l [] [] (ap (sH a).2.1 0 l) (by omega) _ 0 (28+q) [] [] (wQ _) (by omega) rfl rfl
  rw [show ((28+(q:Int))).toNat=28+q by omega]
  exact this
 ·rw [if_pos (bne_iff_ne.2 h),if_pos h];rfl
theorem qPK (a:List Int) (hb:Bts a) (hl:a.length≤50000) (s t:qia) (rs x1:List qaa) (x2:List qga) (ps:List qea) (hps:ps.length≤100000):∀(k i p:Nat) (hs:List qga) (bs:List qca),i+k=ps.length→p≤a.length→hs.length=i→bs.length=i→
  qvd a (p:Int) (i:Int) t () s () bs ps x1 x2 rs hs=some (qUC a s rs (ps.drop i) p hs bs)
 |0,i,p,hs,bs,e,hp,h1,h2=>by
  have hl':wi a.length=(a.length:Int):=rfl
  have hl2:wi ps.length=(ps.length:Int):=rfl
  rw [qzg,if_neg (by simp;omega),wI (by omega),qUC,hl']
  by_cases h:p<a.length
  ·rw [if_pos (by simp;omega),if_pos h];rfl
  ·rw [if_neg (by simp;omega),if_neg h]
 |k+1,i,p,hs,bs,e,hp,h1,h2=>by
  have hl':wi a.length=(a.length:Int):=rfl
  have hl2:wi ps.length=(ps.length:Int):=rfl
  obtain ⟨d1,d2,d3⟩:=qTa (qqa qka:qea) (xs:=ps) (i:=i) (by omega)
  rw [qzg,if_pos (by simp;omega),qda (by omega),qda (by omega),wv,wv,qfx _ (hb.drop p),wQ]
  simp only [wq]
  rw [d1,qUC]
  generalize ps.getD i (qqa qka)=pc
  by_cases hr:(rdB (a.drop p)).2.2=0
  ·have hk:=qtH hr
   have hlen:=qMk hk.1
   have hle:=hk.2.2.1
   rw [wda] at hle
   rw [if_neg (by rw [hr];decide),if_neg (fun h=>h hr),qda (by omega),qda (by omega),qwB]
   simp only [wq]
   by_cases hi:isP (rdB (a.drop p)).1.1 pc
   ·rw [if_neg (by rw [decide_eq_true hi];decide),if_neg (fun h=>h hi),qda (by simp;omega),qda (by simp;omega),w64 (by omega) (by omega),w64 (by omega) (by omega)]
    have ih:=qPK a hb hl s t rs x1 x2 ps hps k (i+1) (p+(rdB (a.drop p)).2.1.toNat) (hs++[(rdB (a.drop p)).1.1]) (bs++[(rdB (a.drop p)).1]) (by omega) (by omega) (by simp;omega) (by simp;omega)
    rw [show ((i+1:Nat):Int)=(i:Int)+1 by omega,show ((p+(rdB (a.drop p)).2.1.toNat:Nat):Int)=(p:Int)+(rdB (a.drop p)).2.1 by omega] at ih
    exact ih
   ·rw [if_pos (by rw [decide_eq_false hi];rfl),if_pos hi];rfl
  ·rw [if_pos (bne_iff_ne.2 hr),if_pos hr];rfl
theorem qJD (a:List Int) (hb:Bts a):qTg a=some (qXr a):=by
 rw [qqo,qID a hb]
 simp only [wq,qXr]
 by_cases h:(hdP a).2.2.2=0
 ·obtain ⟨l,q,hO⟩:=qFL hb h
  rw [if_neg (by rw [h];decide),if_neg (fun k=>k h),hO.eq]
  simp only
  have hle:=hO.le
  have hsm:=qnw (sH a).2.1 hO.blk.1 l hO.recsV
  rw [qHD _ _ hO.blk hO.recsV]
  simp only [wq]
  have:=qPK a hb hO.big (sH a) (0,(0,())) l [] [] (ap (sH a).2.1 0 l) (by omega) _ 0 (28+q) [] [] (wQ _) (by omega) rfl rfl
  rw [show ((28+(q:Int))).toNat=28+q by omega]
  exact this
 ·rw [if_pos (bne_iff_ne.2 h),if_pos h];rfl
theorem qTq (a:List Int) (hb:Bts a):qXx a=some ((qXr a).1,(qXr a).2.2):=by rw [qjE,qUB a hb];rfl
def Std (a:List Int) (e:Nat):Nat→List qga→List qca→Prop
 |p,h::hs,x::bs=>rdB (a.drop p)=(x,(41+h.2.2.2.2.1,0))∧x.1=h∧hOK h∧p≤a.length∧Std a e (p+(41+h.2.2.2.2.1).toNat) hs bs
 |p,[],[]=>p=e
 |_,_,_=>False
theorem qAM (a:List Int) (s:qia) (rs:List qaa):∀(ps:List qea) (p:Nat) (hs:List qga) (bs:List qca),p≤a.length→(qUC a s rs ps p hs bs).2.2=0→
  ∃hs' bs',qUC a s rs ps p hs bs=((s,(rs,(hs++hs',()))),(bs++bs',0))∧Std a a.length p hs' bs'∧hs'.length=ps.length∧bs'.length=ps.length∧ckL hs' ps=0
 |[],p,hs,bs,hp,h=>by
  simp only [qUC] at h ⊢
  by_cases hlt:p<a.length
  ·rw [if_pos hlt] at h;simp at h
  ·rw [if_neg hlt]
   exact ⟨[],[],by simp,by unfold Std;omega,rfl,rfl,rfl⟩
 |x::ps,p,hs,bs,hp,h=>by
  simp only [qUC] at h ⊢
  by_cases hr:(rdB (a.drop p)).2.2=0
  ·have hk:=qtH hr
   have hlen:=qMk hk.1
   have hle:=hk.2.2.1
   rw [wda] at hle
   rw [if_neg (fun k=>k hr)] at h ⊢
   by_cases hi:isP (rdB (a.drop p)).1.1 x
   ·rw [if_neg (fun k=>k hi)] at h ⊢
    obtain ⟨hs',bs',e1,e2,e3,e4,e5⟩:=qAM a s rs ps _ _ _ (by omega) h
    refine ⟨(rdB (a.drop p)).1.1::hs',(rdB (a.drop p)).1::bs',by rw [e1];simp,?_,by simp [e3],by simp [e4],?_⟩
    ·refine ⟨Prod.ext rfl (Prod.ext hk.2.1 hr),rfl,hk.1,hp,?_⟩
     rw [←hk.2.1];exact e2
    ·simp only [ckL];rw [if_pos ⟨hk.1,hi⟩];exact e5
   ·rw [if_pos hi] at h;simp at h
  ·rw [if_pos hr] at h;exact absurd h hr
structure AllOK (a:List Int) (rs:List qaa) (q:Nat) (hs:List qga) (bs:List qca):Prop where
 head:HeadOK a rs q
 eq:qXr a=((sH a,(rs,(hs,()))),(bs,0))
 std:Std a a.length (28+q) hs bs
 hlen:hs.length=(ap (sH a).2.1 0 rs).length
 blen:bs.length=(ap (sH a).2.1 0 rs).length
 ck:ckL hs (ap (sH a).2.1 0 rs)=0
theorem qGM {a:List Int} (hb:Bts a) (h:(qXr a).2.2=0):∃rs q hs bs,AllOK a rs q hs bs:=by
 unfold qXr at h
 by_cases hh:(hdP a).2.2.2=0
 ·obtain ⟨l,q,hO⟩:=qFL hb hh
  rw [if_neg (fun k=>k hh),hO.eq] at h
  simp only at h
  rw [show ((28+(q:Int))).toNat=28+q by omega] at h
  obtain ⟨hs,bs,e1,e2,e3,e4,e5⟩:=qAM a _ _ _ _ _ _ hO.le h
  refine ⟨l,q,hs,bs,hO,?_,e2,e3,e4,e5⟩
  unfold qXr
  rw [if_neg (fun k=>k hh),hO.eq]
  simp only
  rw [show ((28+(q:Int))).toNat=28+q by omega,e1]
  simp
 ·rw [if_pos hh] at h;exact absurd h hh
def s2:qia:=(2,(16,()))
theorem qbO {a:List Int} {rs q hs bs} (h:AllOK a rs q hs bs):lck (sH a,(rs,(hs,())))=0:=by
 unfold lck
 rw [if_neg (fun k=>k h.head.chk),if_neg (fun k=>k h.head.read.val),if_neg (fun k=>k h.hlen.symm)]
 exact h.ck
theorem qDF (s:ByteArray):qng (qld s)=s:=by
 have h:=qun (xs:=qld s) (qVD s)
 have e:(qld s).map (fun n=>UInt8.ofNat n.toNat)=s.data.toList:=by
  unfold qld
  rw [List.map_map]
  refine (List.map_congr_left (fun b _=>?_)).trans (List.map_id _)
  simp
 unfold qng
 rw [e]
theorem qcu (a:List Int) (p i:Nat):(a.drop p).getD i 0=a.getD (p+i) 0:=by simp [wu]
theorem qrP {r:qaa} (h1:r.1.size≤40) (h2:0≤r.2.1∧r.2.1≤8192) (h3:r.2.2.1.length=20):qGD r=(r.1.size:Int)::(qld r.1++(r.2.1/256::r.2.1%256::r.2.2.1)):=by
 unfold qGD
 rw [wca,wN (by omega),wu8,wu8,wu8,qIg _ (by omega)]
 have e1:(r.1.size:Int)%256=r.1.size:=by omega
 have e2:r.2.1/256%256=r.2.1/256:=by omega
 rw [e1,e2]
 simp only [wy,wea,wU]
theorem qjN {r:qaa} (h1:r.1.size≤40) (h2:0≤r.2.1∧r.2.1≤8192) (h3:r.2.2.1.length=20) {a post:List Int} {p:Nat} (ha:a.drop p=qGD r++post):rF a p∧rK a p=r.1.size∧rR a p=r:=by
 have hB:=qrP h1 h2 h3
 have hl:(qld r.1).length=r.1.size:=qoj _
 have hal:=congrArg we ha
 rw [wda,wm,qrn r h3] at hal
 have g0:a.getD p 0=r.1.size:=by
  have e:=qcu a p 0
  rw [ha,hB] at e
  exact e.symm
 have hk:rK a p=r.1.size:=by unfold rK;rw [g0];omega
 have d1:a.drop (p+1)=qld r.1++(r.2.1/256::r.2.1%256::(r.2.2.1++post)):=by
  rw [←wja,ha,hB]
  simp only [wea,List.drop_succ_cons,wca,wy]
 have d2:a.drop (p+1+r.1.size)=r.2.1/256::r.2.1%256::(r.2.2.1++post):=by
  rw [←wja,d1,←hl,List.drop_left]
 have g1:a.getD (p+1+r.1.size) 0=r.2.1/256:=by
  have e:=qcu a (p+1+r.1.size) 0
  rw [d2] at e
  exact e.symm
 have g2:a.getD (p+2+r.1.size) 0=r.2.1%256:=by
  have:=qcu a (p+1+r.1.size) 1
  rw [show p+2+r.1.size=p+1+r.1.size+1 by omega,←this,d2];rfl
 have d3:a.drop (p+3+r.1.size)=r.2.2.1++post:=by
  rw [show p+3+r.1.size=p+1+r.1.size+2 by omega,←wja,d2];rfl
 refine ⟨⟨by omega,by rw [hk];omega⟩,hk,?_⟩
 unfold rR
 rw [hk,d1,g1,g2,d3,←hl,List.take_left,qDF,show r.2.1/256*256+r.2.1%256=r.2.1 by omega,←h3,List.take_left]
theorem qBD (a post:List Int):∀(rs acc:List qaa) (p:Nat),(∀r∈rs,r.1.size≤40∧(0≤r.2.1∧r.2.1≤8192))→SumsOK rs→qBe (acc++rs)=0→a.drop p=qDc rs++post→
  qBB a rs.length p acc=(acc++rs,(((p+(qDc rs).length:Nat):Int),0))
 |[],acc,p,h,hS,hv,ha=>by
  rw [wS] at hv
  rw [wT,qBB,if_neg (fun k=>k hv),wS]
  rfl
 |r::rs,acc,p,h,hS,hv,ha=>by
  have h1:=h r wZ
  have h3:=hS r wZ
  rw [qDc,wy] at ha
  obtain ⟨hf,hk,hR⟩:=qjN h1.1 h1.2 h3.1 ha
  have hl:=qrn r h3.1
  have e:a.drop (p+rK a p+23)=qDc rs++post:=by
   rw [hk,show p+r.1.size+23=p+(qGD r).length by omega,←wja,ha,List.drop_left]
  have e2:acc++r::rs=(acc++[r])++rs:=by rw [wy];rfl
  have ih:=qBD a post rs (acc++[r]) (p+rK a p+23) (fun q hq=>h q (wR _ hq)) (fun q hq=>hS q (wR _ hq)) (by rw [←e2];exact hv) e
  rw [wB,qBB,if_pos hf,hR,ih,e2]
  refine Prod.ext rfl (Prod.ext ?_ rfl)
  simp only
  rw [qDc,wm]
  omega
theorem qCL {s:qia} {rs:List qaa} {post:List Int} (hc:chk s=0) (hv:qBe rs=0) (hS:SumsOK rs) (hl:post.length≤40000):hdP (qLk s rs++post)=(s,(rs,(28+((qDc rs).length:Int),0))):=by
 have hRV:=qNc hv
 have h16:=hRV.len
 have hchk:0≤s.1∧s.1≤7∧16≤s.2.1∧s.2.1≤4096:=by
  unfold chk at hc;split at hc
  ·assumption
  ·cases hc
 have key:∀(rs:List qaa),SumsOK rs→(∀r∈rs,r.1.size≤40)→(qDc rs).length≤63*rs.length:=by
  intro rs
  induction rs with
  |nil=>intro _ _;exact wt _
  |cons r rs ih=>
   intro hS h
   have h1:=qrn r (hS r wZ).1
   have h2:=h r wZ
   have h3:=ih (fun q hq=>hS q (wR _ hq)) (fun q hq=>h q (wR _ hq))
   rw [qDc,wm,wB]
   omega
 have hrl:=key rs hS (fun r hr=>(hRV.each r hr).2.2)
 have eF:qpy s rs.length=[66,76,70,1,s.1,s.2.1/256,s.2.1%256,(rs.length:Int)]:=by
  unfold qpy
  rw [wu8,wu8,wu8,wu8,qIg _ (by omega)]
  have e1:s.1%256=s.1:=by omega
  have e2:s.2.1/256%256=s.2.1/256:=by omega
  have e3:(rs.length:Int)%256=rs.length:=by omega
  rw [e1,e2,e3]
 have hbl:(quh s rs).length=8+(qDc rs).length:=by unfold quh;rw [wm,eF];rfl
 have ea:qLk s rs++post=[66,76,70,1,s.1,s.2.1/256,s.2.1%256,(rs.length:Int)]++(qDc rs++(qkk (quh s rs)++post)):=by
  have hB:quh s rs=[66,76,70,1,s.1,s.2.1/256,s.2.1%256,(rs.length:Int)]++qDc rs:=by unfold quh;rw [eF]
  unfold qLk
  rw [wy]
  generalize qkk (quh s rs)=hh
  rw [hB,wy]
 have eb:qLk s rs++post=quh s rs++(qkk (quh s rs)++post):=by unfold qLk;rw [wy]
 have hsl:(qkk (quh s rs)).length=20:=qFh _
 generalize ha:qLk s rs++post=a at*
 have hal:a.length=28+(qDc rs).length+post.length:=by rw [eb,wm,wm,hbl,hsl];omega
 have g4:a.getD 4 0=s.1:=by rw [ea];rfl
 have g5:a.getD 5 0=s.2.1/256:=by rw [ea];rfl
 have g6:a.getD 6 0=s.2.1%256:=by rw [ea];rfl
 have g7:a.getD 7 0=rs.length:=by rw [ea];rfl
 have d8:a.drop 8=qDc rs++(qkk (quh s rs)++post):=by rw [ea];rfl
 have t4:a.take 4=magic:=by rw [ea];rfl
 have esH:sH a=s:=by
  unfold sH
  rw [g4,g5,g6,show s.2.1/256*256+s.2.1%256=s.2.1 by omega]
 have hrd:rdM (a.drop 8) (a.getD 7 0)=(rs,(((qDc rs).length:Int),0)):=by
  have h8:(a.drop 8).length≤50000:=by rw [wda];omega
  have:=qBD (a.drop 8) (qkk (quh s rs)++post) rs [] 0 (fun r hr=>⟨(hRV.each r hr).2.2,(hRV.each r hr).1,(hRV.each r hr).2.1⟩) hS hv (by rw [wca,d8])
  unfold rdM
  rw [if_neg (by omega),if_neg (by omega),g7,show ((rs.length:Int)).toNat=rs.length by omega,this,wQ,wU]
 have e8:a.take (8+(qDc rs).length)=quh s rs:=by rw [eb,←hbl,List.take_left]
 have e9:(a.drop (8+(qDc rs).length)).take 20=qkk (quh s rs):=by rw [eb,←hbl,List.drop_left,←hsl,List.take_left]
 unfold hdP
 rw [hrd,esH]
 simp only
 rw [if_neg (by omega),if_neg (by omega),if_neg (fun h=>by
  rcases h with h|h|h
  ·exact h t4
  ·exact h hc
  ·omega),if_neg (fun h=>h rfl),if_neg (by omega),show ((((qDc rs).length:Nat):Int)).toNat=(qDc rs).length by omega,e8,e9,if_neg (fun h=>h rfl)]
def qxF:List qca→List Int
 |[]=>[]
 |b::bs=>bB b++qxF bs
def Fit:List qca→List qea→Prop
 |[],[]=>True
 |b::bs,p::ps=>(bC b=0∧bWf b∧isP b.1 p)∧Fit bs ps
 |_,_=>False
theorem qvI {b:qca} (h:bWf b):(bB b).length=41+b.2.1.length:=by
 unfold bB hB
 simp only [wm,qbj,qdu,h.2]
theorem qsI (s:qia) (rs:List qaa) (a:List Int) (hal:a.length≤40000):∀(bs:List qca) (ps:List qea) (p:Nat) (hs:List qga) (cs:List qca),Fit bs ps→p≤a.length→a.drop p=qxF bs→
  qUC a s rs ps p hs cs=((s,(rs,(hs++bs.map (·.1),()))),(cs++bs,0))
 |[],[],p,hs,cs,hF,hp,ha=>by
  have:=congrArg we ha
  rw [wda] at this
  have h0:(qxF []).length=0:=rfl
  unfold qUC
  rw [if_neg (by omega),wua,wS,wS]
 |[],p0::ps,p,hs,cs,hF,hp,ha=>by cases hF
 |b::bs,[],p,hs,cs,hF,hp,ha=>by cases hF
 |b::bs,p0::ps,p,hs,cs,hF,hp,ha=>by
  obtain ⟨⟨h1,h2,h3⟩,hF'⟩:=hF
  have hlen:=congrArg we ha
  rw [wda,qxF,wm,qvI h2] at hlen
  have hrd:rdB (a.drop p)=(b,(b.1.2.2.2.2.1+41,0)):=by
   rw [ha,qxF]
   exact qCR h1 h2 (by omega)
  have ok:hOK b.1∧(b.2.1.length:Int)=b.1.2.2.2.2.1:=by
   unfold bC at h1;split at h1
   ·assumption
   ·cases h1
  have ih:=qsI s rs a hal bs ps (p+(b.1.2.2.2.2.1+41).toNat) (hs++[b.1]) (cs++[b]) hF' (by omega) (by
   rw [←wja,ha,qxF,show (b.1.2.2.2.2.1+41).toNat=(bB b).length by rw [qvI h2];omega,List.drop_left])
  unfold qUC
  rw [hrd,if_neg (fun k=>k rfl),if_neg (fun k=>k h3),ih,wL,wy,wy]
  rfl
def qWr (s:qia) (rs:List qaa) (bs:List qca):List Int:=qLk s rs++qxF bs
theorem qjw {s:qia} {rs:List qaa}:(qLk s rs).length=28+(qDc rs).length:=by
 unfold qLk quh
 rw [wm,wm,qFh]
 show 8+_+20=_
 omega
theorem qjF {s:qia} {rs:List qaa} {bs:List qca} (hc:chk s=0) (hv:qBe rs=0) (hS:SumsOK rs) (hF:Fit bs (ap s.2.1 0 rs)) (hl:(qWr s rs bs).length≤40000):qXr (qWr s rs bs)=((s,(rs,(bs.map (·.1),()))),(bs,0)):=by
 have hl2:(qWr s rs bs).length=28+(qDc rs).length+(qxF bs).length:=by unfold qWr;rw [wm,qjw]
 have hh:hdP (qWr s rs bs)=(s,(rs,(28+((qDc rs).length:Int),0))):=qCL hc hv hS (by omega)
 have hd:(qWr s rs bs).drop (28+(qDc rs).length)=qxF bs:=by unfold qWr;rw [←qjw (s:=s),List.drop_left]
 have:=qsI s rs (qWr s rs bs) hl bs (ap s.2.1 0 rs) (28+(qDc rs).length) [] [] hF (by omega) hd
 unfold qXr
 rw [hh,if_neg (fun k=>k rfl)]
 simp only
 rw [show (28+((qDc rs).length:Int)).toNat=28+(qDc rs).length by omega,this,wU,wU]
open Classical
def Gen (D:Nat→List Int) (q:qoa):Prop:=0≤q.1.1∧0≤q.1.2.1∧q.1.2.1.toNat+q.2.1.length≤(D q.1.1.toNat).length∧q.2.1=((D q.1.1.toNat).drop q.1.2.1.toNat).take q.2.1.length
def InP (rs:List qaa) (i0:Int) (p:qea):Prop:=i0≤p.1∧p.1<i0+rs.length∧0≤p.2.1∧1≤p.2.2.1∧p.2.1+p.2.2.1≤(rs.getD (p.1 - i0).toNat (qqa qfa)).2.1
theorem qCO (i n s:Int) (hs:1≤s):∀(k:Nat) (off:Int),0≤off→∀p∈pcs i n s k off,p.1=i∧off≤p.2.1∧1≤p.2.2.1∧p.2.2.1≤s∧p.2.1+p.2.2.1≤n
 |0,off,h0,p,hp=>by cases hp
 |k+1,off,h0,p,hp=>by
  rw [pcs] at hp
  by_cases h:off<n
  ·rw [if_pos h] at hp
   rcases waa.1 hp with rfl|hp
   ·refine ⟨rfl,wVa _,?_⟩
    simp only
    split <;> omega
   ·obtain ⟨a,b,c,d,e⟩:=qCO i n s hs k (off+s) (by omega) p hp
    exact ⟨a,by omega,c,d,e⟩
  ·rw [if_neg h] at hp;cases hp
theorem qgR (s:Int) (hs:1≤s):∀(rs:List qaa) (i0:Int),∀p∈ap s i0 rs,InP rs i0 p∧p.2.2.1≤s
 |[],i0,p,hp=>by cases hp
 |r::rs,i0,p,hp=>by
  rw [ap] at hp
  rcases wba.1 hp with hp|hp
  ·obtain ⟨a,b,c,d,e⟩:=qCO i0 r.2.1 s hs 8200 0 (wVa _) p hp
   refine ⟨⟨by omega,by rw [wB];omega,by omega,c,?_⟩,d⟩
   rw [show (p.1 - i0).toNat=0 by omega]
   exact e
  ·obtain ⟨⟨a,b,c,d,e⟩,f⟩:=qgR s hs rs (i0+1) p hp
   refine ⟨⟨by omega,by rw [wB];omega,c,d,?_⟩,f⟩
   rw [show (p.1 - i0).toNat=(p.1 - (i0+1)).toNat+1 by omega,List.getD_cons_succ]
   exact e
def ptD (D:Nat→List Int) (p:qea):qoa:=(p,((((D p.1.toNat).drop p.2.1.toNat).take p.2.2.1.toNat),()))
theorem qxP {D:Nat→List Int} {rs:List qaa} (hD:∀i,i<rs.length→((D i).length:Int)=(rs.getD i (qqa qfa)).2.1) {p:qea} (h:InP rs 0 p):Gen D (ptD D p)∧((ptD D p).2.1.length:Int)=p.2.2.1:=by
 obtain ⟨a,b,c,d,e⟩:=h
 rw [Int.sub_zero] at e
 have hl:=hD p.1.toNat (by omega)
 have hlen:(ptD D p).2.1.length=p.2.2.1.toNat:=by
  unfold ptD
  simp only [wP,wda]
  omega
 refine ⟨⟨a,c,?_,?_⟩,by omega⟩
 ·rw [hlen]
  show p.2.1.toNat+p.2.2.1.toNat≤(D p.1.toNat).length
  omega
 ·rw [hlen];rfl
def stB (D:Nat→List Int) (p:qea):qca:=qen p.1 p.2.1 (ptD D p).2.1
open Classical
structure Arc (D:Nat→List Int) (rs:List qaa):Prop where
 val:qBe rs=0
 sums:SumsOK rs
 sz:∀i,i<rs.length→((D i).length:Int)=(rs.getD i (qqa qfa)).2.1
 sum:∀i,i<rs.length→(rs.getD i (qqa qfa)).2.2.1=qkk (D i)
 bts:∀i,Bts (D i)
def psA (rs:List qaa):List qea:=ap 16 0 rs
def bsA (D:Nat→List Int) (rs:List qaa):List qca:=(psA rs).map (stB D)
def sA:qia:=(0,(16,()))
def qDM (D:Nat→List Int) (rs:List qaa):List Int:=qWr sA rs (bsA D rs)
theorem Arc.piece {D:Nat→List Int} {rs:List qaa} (h:Arc D rs) {p:qea} (hp:p∈psA rs):InP rs 0 p∧p.2.2.1≤16∧mOK p.1 p.2.1 (ptD D p).2.1∧Bts (ptD D p).2.1∧((ptD D p).2.1.length:Int)=p.2.2.1∧Gen D (ptD D p):=by
 have hV:=qNc h.val
 obtain ⟨hi,h16⟩:=qgR 16 (by decide) rs 0 p hp
 obtain ⟨g,gl⟩:=qxP h.sz hi
 have hl:=hV.len
 obtain ⟨a,b,c,d,e⟩:=id hi
 have hm:rs.getD (p.1 - 0).toNat (qqa qfa)∈rs:=qOa (P:=fun r=>r∈rs) (fun r hr=>hr) _ (by omega)
 have hr:=(hV.each _ hm).2.1
 refine ⟨hi,h16,?_,((h.bts _).drop _).take _,gl,g⟩
 unfold mOK
 refine ⟨?_,?_,?_,?_,?_,?_⟩ <;> omega
theorem Arc.fit {D:Nat→List Int} {rs:List qaa} (h:Arc D rs):∀ps:List qea,(∀p∈ps,p∈psA rs)→Fit (ps.map (stB D)) ps
 |[],_=>trivial
 |p::ps,hp=>by
  obtain ⟨a,b,c,d,e,f⟩:=h.piece (hp p wZ)
  exact ⟨⟨qnK c,qvt _ _ _,rfl,rfl,e⟩,h.fit ps (fun q hq=>hp q (wR _ hq))⟩
theorem qtI (D:Nat→List Int):∀ps:List qea,(∀p∈ps,1≤(ptD D p).2.1.length∧((ptD D p).2.1.length:Int)=p.2.2.1)→((qxF (ps.map (stB D))).length:Int)≤42*(ps.map (fun p=>p.2.2.1)).foldr (·+·) 0
 |[],_=>by show (0:Int)≤42*0;decide
 |p::ps,h=>by
  have h1:=h p wZ
  have ih:=qtI D ps (fun q hq=>h q (wR _ hq))
  have hb:=qvI (b:=stB D p) (qvt _ _ _)
  have hz:(stB D p).2.1.length=(ptD D p).2.1.length:=rfl
  rw [wL,qxF,wm,hb,hz,wL,List.foldr_cons]
  omega
theorem qXK (i n s:Int) (hs:1≤s):∀(k:Nat) (off:Int),0≤off→off≤n→((pcs i n s k off).map (fun p=>p.2.2.1)).foldr (·+·) 0≤n - off
 |0,off,_,h=>by show (0:Int)≤n - off;omega
 |k+1,off,h0,h=>by
  rw [pcs]
  by_cases hlt:off<n
  ·rw [if_pos hlt,wL,List.foldr_cons]
   by_cases h2:s<n - off
   ·have:=qXK i n s hs k (off+s) (by omega) (by omega)
    simp only
    rw [if_pos h2]
    omega
   ·have hn:pcs i n s k (off+s)=[]:=by
     cases k with
     |zero=>rfl
     |succ k=>rw [pcs,if_neg (by omega)]
    simp only
    rw [if_neg h2,hn]
    show (n - off)+0≤n - off
    omega
  ·rw [if_neg hlt]
   show (0:Int)≤n - off
   omega
theorem qKL (a b:List Int):(a++b).foldr (·+·) 0=a.foldr (·+·) 0+b.foldr (·+·) 0:=by
 induction a with
 |nil=>show b.foldr (·+·) 0=0+b.foldr (·+·) 0;omega
 |cons x a ih=>rw [wea,List.foldr_cons,List.foldr_cons,ih];omega
theorem qXO (s:Int) (hs:1≤s):∀(rs:List qaa) (i:Int),(∀r∈rs,0≤r.2.1)→((ap s i rs).map (fun p=>p.2.2.1)).foldr (·+·) 0≤tot rs
 |[],i,_=>by show (0:Int)≤0;decide
 |r::rs,i,h=>by
  have h1:=qXK i r.2.1 s hs 8200 0 (wVa _) (h r wZ)
  have ih:=qXO s hs rs (i+1) (fun q hq=>h q (wR _ hq))
  rw [ap,wEa,qKL,tot]
  omega
theorem qgx:∀(rs:List qaa),SumsOK rs→(∀r∈rs,r.1.size≤40)→(qDc rs).length≤63*rs.length
 |[],_,_=>wt _
 |r::rs,hS,h=>by
  have h1:=qrn r (hS r wZ).1
  have h2:=h r wZ
  have h3:=qgx rs (fun q hq=>hS q (wR _ hq)) (fun q hq=>h q (wR _ hq))
  rw [qDc,wm,wB]
  omega
theorem Arc.len {D:Nat→List Int} {rs:List qaa} (h:Arc D rs) (ht:tot rs≤80):(qDM D rs).length≤5000∧(qDM D rs).length=28+(qDc rs).length+(qxF (bsA D rs)).length∧(psA rs).length≤80:=by
 have hV:=qNc h.val
 have hl:=hV.len
 have h1:=qgx rs h.sums (fun r hr=>(hV.each r hr).2.2)
 have h2:=qtI D (psA rs) (fun p hp=>by
  obtain ⟨a,b,c,d,e,f⟩:=h.piece hp
  exact ⟨c.2.2.1,e⟩)
 have h3:=qXO 16 (by decide) rs 0 (fun r hr=>(hV.each r hr).1)
 have e:(qDM D rs).length=28+(qDc rs).length+(qxF (bsA D rs)).length:=by unfold qDM qWr;rw [wm,qjw]
 have key:∀ps:List qea,(∀p∈ps,1≤p.2.2.1)→(ps.length:Int)≤(ps.map (fun p=>p.2.2.1)).foldr (·+·) 0:=by
  intro ps
  induction ps with
  |nil=>intro _;show (0:Int)≤0;decide
  |cons p ps ih=>
   intro hp
   have:=ih (fun q hq=>hp q (wR _ hq))
   have:=hp p wZ
   rw [wL,List.foldr_cons,wB]
   omega
 have h4:=key (psA rs) (fun p hp=>(h.piece hp).1.2.2.2.1)
 unfold bsA at e
 have e3:((psA rs).map (fun p=>p.2.2.1)).foldr (·+·) 0≤tot rs:=h3
 refine ⟨?_,e,?_⟩ <;> omega
theorem Arc.read {D:Nat→List Int} {rs:List qaa} (h:Arc D rs) (ht:tot rs≤80):qXr (qDM D rs)=((sA,(rs,((bsA D rs).map (·.1),()))),(bsA D rs,0)):=
 qjF (s:=sA) (by decide) h.val h.sums (h.fit (psA rs) (fun p hp=>hp)) (by have:=(h.len ht).1;unfold qDM at this;omega)
def qIK (m:qva):qaa:=(m.1,((m.2.1.length:Int),(qkk m.2.1,())))
def recs (l:List qva):List qaa:=l.map qIK
structure MemsOK (l:List qva):Prop where
 nm:∀m∈l,m.1.size≤9223372036854775807
 ln:∀m∈l,m.2.1.length≤140737488355328
 bt:∀m∈l,Bts m.2.1
theorem qMB (l:List qva) {i:Nat} (h:i<l.length):l.drop i=l.getD i (qqa qua)::l.drop (i+1)∧l.getD i (qqa qua)∈l∧l.take (i+1)=l.take i++[l.getD i (qqa qua)]:=
 ⟨(qTa (qqa qua) h).1,(qTa (qqa qua) h).2.2,(qTa (qqa qua) h).2.1⟩
theorem qtl (l:List qva):(recs l).length=l.length:=wla ..
theorem qgr:∀l:List qva,0≤tot (recs l)
 |[]=>wVa _
 |m::l=>by
  have:=qgr l
  show 0≤(m.2.1.length:Int)+tot (recs l)
  omega
theorem qPA (l:List qva) (i:Nat) (h:i<l.length):(l.getD i (qqa qua)).1=(names (recs l)).getD i wD:=by
 unfold names recs
 rw [List.map_map,wu,wu,wxa,wx h]
 rfl
theorem qSt (l:List qva):(names (recs l)).length=l.length:=by unfold names;rw [wla,qtl]
theorem qEI (l:List qva) (hn:l.length≤16) (i:Nat) (hi:i<l.length):∀(k j:Nat),j+k=i→qSd l (i:Int) (j:Int)=if qeE ((names (recs l)).getD i wD) (((names (recs l)).take i).drop j) then some 14 else qhc l ((i:Int)+1)
 |0,j,e=>by
  have hd:((names (recs l)).take i).drop j=[]:=wI (by rw [wP];omega)
  rw [qkh,if_neg (by simp;omega),hd,w64 (by omega) (by omega)]
  simp [qeE]
 |k+1,j,e=>by
  have hl':wi l.length=(l.length:Int):=rfl
  have hnl:=qSt l
  have ih:=qEI l hn i hi k (j+1) (by omega)
  rw [show ((j+1:Nat):Int)=(j:Int)+1 by omega] at ih
  rw [qkh,if_pos (by simp;omega),qda (by omega),qda (by rw [hl'];omega),qda (by omega),qda (by rw [hl'];omega),wv,wv,qPA l j (by omega),qPA l i hi,w64 (x:=(j:Int)+1) (by omega) (by omega),ih,qdE (j:=j) (i:=i) (by omega) (by omega),qLR]
  by_cases h:(names (recs l)).getD j wD=(names (recs l)).getD i wD
  ·rw [decide_eq_true h,decide_eq_true h.symm];simp
  ·rw [decide_eq_false h,decide_eq_false (fun e=>h e.symm)];simp
theorem qFI (l:List qva) (hn:l.length≤16):∀(k i:Nat),i+k=l.length→qhc l (i:Int)=some (if qXA ((names (recs l)).take i) ((names (recs l)).drop i) then 14 else 0)
 |0,i,e=>by
  have hnl:=qSt l
  rw [qlh,if_neg (by simp;omega),wI (by omega)];rfl
 |k+1,i,e=>by
  have hnl:=qSt l
  obtain ⟨d1,d2⟩:=qxC (xs:=names (recs l)) (i:=i) (by omega)
  have ih:=qFI l hn k (i+1) (by omega)
  rw [show ((i+1:Nat):Int)=(i:Int)+1 by omega] at ih
  have h3:=qEI l hn i (by omega) i 0 (by omega)
  rw [qlh,if_pos (by simp;omega)]
  refine Eq.trans h3 ?_
  rw [ih,wca,d1,qXA,←d2]
  cases qeE ((names (recs l)).getD i wD) ((names (recs l)).take i) <;> simp
theorem qGI (l:List qva) (hM:MemsOK l) (hn:l.length≤16):∀(k i:Nat),i+k=l.length→qJc l (i:Int)=if (l.drop i).all (fun m=>qjJ m.1)=true then qhc l 0 else some 8
 |0,i,e=>by
  rw [qmh,if_neg (by simp;omega),wI (by omega)]
  rfl
 |k+1,i,e=>by
  have hl':wi l.length=(l.length:Int):=rfl
  obtain ⟨d1,d2,d3⟩:=qMB l (i:=i) (by omega)
  have ih:=qGI l hM hn k (i+1) (by omega)
  rw [show ((i+1:Nat):Int)=(i:Int)+1 by omega] at ih
  rw [qmh,if_pos (by simp;omega),qda (by omega),qda (by rw [hl'];omega),wv,d1,qSo _ (hM.nm _ d2),wq,w64 (x:=(i:Int)+1) (by omega) (by omega),ih,wub]
  cases qjJ (l.getD i (qqa qua)).1 with
  |false=>rfl
  |true=>rw [Bool.true_and];rfl
theorem qHI (l:List qva) (hM:MemsOK l) (hn:l.length≤16):∀(k i:Nat) (acc:Int),i+k=l.length→0≤acc→acc≤140737488355328*i→qTd l acc (i:Int)=if acc+tot (recs (l.drop i))>8192 then some 4 else qJc l 0
 |0,i,acc,e,a0,a1=>by
  rw [qnh,if_neg (by simp;omega),wI (by omega)]
  have:tot (recs [])=0:=rfl
  rw [this,Int.add_zero]
  by_cases h:acc>8192
  ·rw [if_pos (by simpa using h),if_pos h]
  ·rw [if_neg (by simpa using h),if_neg h]
 |k+1,i,acc,e,a0,a1=>by
  have hl':wi l.length=(l.length:Int):=rfl
  obtain ⟨d1,d2,d3⟩:=qMB l (i:=i) (by omega)
  have hln:=hM.ln _ d2
  have ih:=fun a h0 h1=>qHI l hM hn k (i+1) a (by omega) h0 h1
  rw [show ((i+1:Nat):Int)=(i:Int)+1 by omega] at ih
  rw [qnh,if_pos (by simp;omega),qda (by omega),qda (by rw [hl'];omega),wv,d1]
  simp only [wj]
  rw [w64 (x:=(i:Int)+1) (by omega) (by omega),w64 (by omega) (by omega),ih _ (by omega) (by omega)]
  have e2:tot (recs (l.getD i (qqa qua)::l.drop (i+1)))=((l.getD i (qqa qua)).2.1.length:Int)+tot (recs (l.drop (i+1))):=rfl
  rw [e2,Int.add_assoc]
def mck (l:List qva):Int:=if l.length>16 then 4 else if tot (recs l)>8192 then 4 else if l.all (fun m=>qjJ m.1)=true then (if qXA [] (names (recs l)) then 14 else 0) else 8
theorem qvF (l:List qva) (hM:MemsOK l):qji l=some (mck l):=by
 have hl':wi l.length=(l.length:Int):=rfl
 rw [qLp,hl',mck]
 by_cases h:l.length>16
 ·rw [if_pos (by simp;omega),if_pos h]
 ·have h1:=qHI l hM (by omega) l.length 0 0 (by omega) (wVa _) (wVa _)
  have h2:=qGI l hM (by omega) l.length 0 (by omega)
  have h3:=qFI l (by omega) l.length 0 (by omega)
  rw [wca] at h1 h2 h3
  rw [if_neg (by simp;omega),if_neg h]
  refine Eq.trans h1 ?_
  rw [Int.zero_add]
  by_cases ht:tot (recs l)>8192
  ·rw [if_pos ht,if_pos ht]
  ·rw [if_neg ht,if_neg ht]
   refine Eq.trans h2 ?_
   by_cases ha:l.all (fun m=>qjJ m.1)=true
   ·rw [if_pos ha,if_pos ha]
    exact h3
   ·rw [if_neg ha,if_neg ha]
theorem qiH:∀(l:List qva) (acc:Int) (nm:List ByteArray),l.all (fun m=>qjJ m.1)=true→0≤acc→acc+tot (recs l)≤8192→qXA [] (nm++names (recs l))=false→vld acc nm (recs l)=0
 |[],acc,nm,h1,h2,h3,h4=>by
  have e:tot (recs [])=0:=rfl
  have e2:names (recs [])=[]:=rfl
  rw [e] at h3
  rw [e2,wS] at h4
  show (if acc>8192 then 4 else if qXA [] nm then 14 else 0)=0
  rw [if_neg (by omega),if_neg (by rw [h4];decide)]
 |m::l,acc,nm,h1,h2,h3,h4=>by
  rw [wub,wz] at h1
  have e:tot (recs (m::l))=(m.2.1.length:Int)+tot (recs l):=rfl
  have hn:=qgr l
  rw [e] at h3
  have hb:¬qeB (qIK m)=true:=by
   unfold qeB
   have hs:(qIK m).2.1=(m.2.1.length:Int):=rfl
   rw [show (qIK m).1=m.1 from rfl,h1.1,hs,decide_eq_false (by omega),decide_eq_false (by omega)]
   by_cases h0:m.2.1.length=0
   ·have:m.2.1=[]:=List.length_eq_zero_iff.1 h0
    have e3:(qIK m).2.2.1=qkk []:=by show qkk m.2.1=_;rw [this]
    rw [e3]
    have:peq (.arr 20 (.int .u8)) (qkk []) (qkk [])=true:=qbN _
    rw [this];simp
   ·have:(((m.2.1.length:Nat):Int)==0)=false:=by rw [beq_eq_false_iff_ne];omega
    rw [this];simp
  show (if qeB (qIK m) then 8 else vld (acc+(qIK m).2.1) (nm++[(qIK m).1]) (recs l))=0
  rw [if_neg hb]
  refine qiH l _ _ h1.2 (by show 0≤acc+(m.2.1.length:Int);omega) (by show acc+(m.2.1.length:Int)+tot (recs l)≤8192;omega) ?_
  rw [wy]
  exact h4
def qyo (l:List qva) (i:Nat):List Int:=(l.getD i (qqa qua)).2.1
theorem qyB (l:List qva) (i:Nat) (h:i<l.length):(recs l).getD i (qqa qfa)=qIK (l.getD i (qqa qua)):=by
 unfold recs
 rw [wu,wxa,wx h,wu,wx h]
 rfl
theorem qWO {l:List qva} (hM:MemsOK l) (h:mck l=0):Arc (qyo l) (recs l)∧l.length≤16∧tot (recs l)≤8192:=by
 unfold mck at h
 by_cases h1:l.length>16
 ·rw [if_pos h1] at h;cases h
 rw [if_neg h1] at h
 by_cases h2:tot (recs l)>8192
 ·rw [if_pos h2] at h;cases h
 rw [if_neg h2] at h
 by_cases h3:l.all (fun m=>qjJ m.1)=true
 ·rw [if_pos h3] at h
  have h4:qXA [] (names (recs l))=false:=by
   cases hd:qXA [] (names (recs l)) with
   |false=>rfl
   |true=>rw [hd] at h;cases h
  refine ⟨⟨?_,fun r hr=>?_,fun i hi=>?_,fun i hi=>?_,fun i=>?_⟩,by omega,by omega⟩
  ·unfold qBe
   rw [qtl,if_neg h1]
   exact qiH l 0 [] h3 (wVa _) (by omega) h4
  ·obtain ⟨m,hm,rfl⟩:=wY.1 hr
   exact ⟨qFh _,qqB _⟩
  ·rw [qtl] at hi
   rw [qyB l i hi];rfl
  ·rw [qtl] at hi
   rw [qyB l i hi];rfl
  ·exact qmy (P:=fun m:qva=>Bts m.2.1) hM.bt Bts.nil i
 ·rw [if_neg h3] at h;cases h
theorem qMM (l:List qva) (hM:MemsOK l) (hn:l.length≤16) (hs:tot (recs l)≤8192):∀(k i:Nat),i+k=l.length→qkf l (i:Int) (recs (l.take i))=some (recs l,0)
 |0,i,e=>by
  rw [qDj,if_neg (by simp;omega),wN (by omega)]
 |k+1,i,e=>by
  have hl':wi l.length=(l.length:Int):=rfl
  obtain ⟨d1,d2,d3⟩:=qMB l (i:=i) (by omega)
  have ih:=qMM l hM hn hs k (i+1) (by omega)
  have hmem:∀(l:List qva) (m:qva),m∈l→(m.2.1.length:Int)≤tot (recs l):=by
   intro l
   induction l with
   |nil=>intro m hm;cases hm
   |cons x l ih=>
    intro m hm
    have e:tot (recs (x::l))=(x.2.1.length:Int)+tot (recs l):=rfl
    have hnn:=qgr l
    rw [e]
    rcases waa.1 hm with rfl|hm
    ·omega
    ·have:=ih m hm;omega
  have hml:=hmem l _ d2
  have hrec:qWg (l.getD i (qqa qua))=some (qIK (l.getD i (qqa qua))):=by
   rw [qto,qiz _ (by omega)];rfl
  have ht:recs (l.take (i+1))=recs (l.take i)++[qIK (l.getD i (qqa qua))]:=by
   rw [d3];unfold recs;rw [wEa];rfl
  have hrl:(recs (l.take i)).length=i:=by rw [qtl,wP];omega
  rw [ht,show ((i+1:Nat):Int)=(i:Int)+1 by omega] at ih
  rw [qDj,if_pos (by simp;omega),qda (by omega),qda (by rw [hl'];omega),wv,hrec,wq,qda (by rw [wm,hrl];show (i+1)*48≤_;omega),w64 (x:=(i:Int)+1) (by omega) (by omega),ih]
theorem qLM (l:List qva) (hM:MemsOK l) (h:mck l=0):qVk l=some (recs l,0):=by
 obtain ⟨_,hn,hs⟩:=qWO hM h
 rw [qjt,qvF l hM,wq,if_neg (by rw [h];decide)]
 exact qMM l hM hn hs l.length 0 (by omega)
theorem qOM {a1 a2:Int} {z:List Int} (hl:z.length≤5000):qQi a1 a2 z z=some (qen a1 a2 z):=by
 rw [qyq]
 simp only [wj,wU]
 exact Tot.eq (ua (by omega) (uc (by omega) (ue (qxB _ ⟨by show (0:Int)≤1;decide,by show (1:Int)<256;decide⟩ (by omega)) (ub rfl))))
theorem qwF {b:qca} (hw:bWf b) (hl:b.2.1.length≤5000):qli b=some (bB b):=by
 have h1:(mark++hB b.1).length=41:=by unfold hB;simp only [wm,qbj,qdu,hw.2]
 rw [qNp]
 exact Tot.eq (ue qao (ue (qsv b.1 hw.1 hw.2) (ua (by omega) (ua (by rw [wm];omega) (ub rfl)))))
theorem qPM (bs:List qca) (hb:∀b∈bs,bWf b∧b.2.1.length≤5000) (hl:bs.length≤10000):∀(k i:Nat) (out:List Int),i+k=bs.length→out.length≤10000+6000*i→qge bs (i:Int) out=some (out++qxF (bs.drop i))
 |0,i,out,e,ho=>by
  rw [qbi,if_neg (by simp;omega),wI (by omega),qxF,wS]
 |k+1,i,out,e,ho=>by
  have hd:=qTa (qqa qpa:qca) (xs:=bs) (i:=i) (by omega)
  have hx:=hb _ hd.2.2
  have ih:=fun out ho=>qPM bs hb hl k (i+1) out (by omega) ho
  rw [show ((i+1:Nat):Int)=(i:Int)+1 by omega] at ih
  rw [qbi]
  simp only [wj,wv]
  rw [hd.1,qxF,w64 (x:=(i:Int)+1) (by omega) (by omega)]
  generalize bs.getD i (qqa qpa)=x at*
  have hxl:=qvI hx.1
  refine Tot.eq (uf (by omega) (ua (by omega) (ua (by omega) (ue (qwF hx.1 hx.2) (ua (by rw [wm];omega) (ul (ih _ (by rw [wm];omega)) ?_))))))
  rw [wy]
instance (h:qga):Decidable (hOK h):=by unfold hOK;infer_instance
instance (h:qga) (p:qea):Decidable (isP h p):=by unfold isP;infer_instance
instance (a:List Int) (p:Nat):Decidable (rF a p):=by unfold rF;infer_instance
theorem qhL (a:List Int) (hb:Bts a) (s:qia) (l:qza) (P:List Int) (hP:∀x∈P,0≤x∧x≤a.length) (hPl:P.length≤10000) (h12:List qaa) (h13:List qga):
  ∀(k i:Nat) (out:List qca),i+k=P.length→out.length=i→qRh a (P.length:Int) (i:Int) s () l out P h12 h13=some (l,(out++(P.drop i).map (fun x=>(rdK (a.drop x.toNat)).1),0))
 |0,i,out,e,ho=>by
  rw [qLl,if_neg (by simp;omega),wI (by omega),wua,wS]
 |k+1,i,out,e,ho=>by
  have hd:=qTa (0:Int) (xs:=P) (i:=i) (by omega)
  have hx:=hP _ hd.2.2
  have ih:=fun out ho=>qhL a hb s l P hP hPl h12 h13 k (i+1) out (by omega) ho
  rw [show ((i+1:Nat):Int)=(i:Int)+1 by omega] at ih
  rw [qLl]
  simp only [wj,wv,wQ]
  rw [hd.1,wL,w64 (x:=(i:Int)+1) (by omega) (by omega)]
  generalize P.getD i 0=x at*
  refine Tot.eq (uf (by omega) (ua (by omega) (ua (by omega) (ua (by omega) (ua (by omega) (ue (qYy _ (hb.drop _)) (ua (by rw [wm,wC];omega) (ul (ih _ (by simp [ho])) ?_))))))))
  rw [wy];rfl
theorem qgL {a:List Int} (hb:Bts a) {l:qza} {bs:List qca} (h:qXr a=(l,(bs,0))) (hR:RecsOK l.2.1) (hS:SumsOK l.2.1) (hL:lck l=0) (hP:∀x∈qLD l,0≤x∧x≤a.length) (hPl:(qLD l).length≤10000):
  qid a=some (l,((qLD l).map (fun x=>(rdK (a.drop x.toNat)).1),0)):=by
 have hp:=qfo l hR hS
 rw [if_pos hL] at hp
 rw [qqp,qTq a hb,h]
 refine Tot.eq (ue rfl (ud rfl (ue hp ?_)))
 have:=qhL a hb (0,(0,())) l (qLD l) hP hPl [] [] (qLD l).length 0 [] (by omega) rfl
 exact ul this rfl
def qMK (b:qca):List Int×Int:=if qkk (fr8 b.1++b.2.1)=b.1.2.2.2.2.2.1 then (b.2.1,0) else ([],22)
def StB (b:qca):Prop:=b.1.1=1∧bC b=0∧Bts b.2.1
theorem StB.raw {lv:Int} (hl:0≤lv∧lv≤7) {b:qca} (h:StB b):qxg lv b=some (qMK b):=qWJ hl h.1 h.2.1 h.2.2
def rsl:List qca→Nat→List qma
 |[],_=>[]
 |b::r,i=>((i:Int),((qMK b).1,((qMK b).2,())))::rsl r (i+1)
def prt (b:qca):qoa:=((b.1.2.1,(b.1.2.2.1,(b.1.2.2.2.1,()))),(b.2.1,()))
def qpN:List qca→Option (List qoa)
 |[]=>some []
 |b::r=>if (qMK b).2≠0 then none else (qpN r).map (prt b::·)
def qfS:Option (List qoa)→List qoa×Int
 |some l=>(l,0)
 |none=>([],22)
theorem qtP {b:qca} (h:(qMK b).2=0):(qMK b).1=b.2.1:=by
 unfold qMK at h ⊢
 split
 ·rfl
 ·rename_i hh;rw [if_neg hh] at h;cases h
theorem qlN {b:qca} (h:(qMK b).2≠0):(qMK b).2=22:=by
 unfold qMK at h ⊢
 split
 ·rename_i hh;rw [if_pos hh] at h;exact absurd rfl h
 ·rfl
theorem qFH (bs:List qca) (n8:Nat) (hl:bs.length≤10000):∀(k i:Nat) (dn:List qoa),i+k=bs.length→dn.length=i→
  qUc bs (bs.length:Int) (i:Int) n8 (rsl (bs.drop i) i) (dn++wo k (qqa qKa))=some (match qpN (bs.drop i) with
   |some l=>(dn++l,0)
   |none=>([],22))
 |0,i,dn,e,hd=>by
  rw [qIe,if_neg (by simp;omega),wI (by omega)]
  rfl
 |k+1,i,dn,e,hdn=>by
  have hd:=qTa (qqa qpa:qca) (xs:=bs) (i:=i) (by omega)
  have ih:=fun dn hdn=>qFH bs n8 hl k (i+1) dn (by omega) hdn
  rw [show ((i+1:Nat):Int)=(i:Int)+1 by omega] at ih
  rw [qIe,hd.1]
  simp only [rsl,wj,wv,wQ,wpb,List.drop_succ_cons,wca]
  rw [w64 (x:=(i:Int)+1) (by omega) (by omega)]
  generalize bs.getD i (qqa qpa)=x at*
  have hset:∀y:qoa,(dn++wo (k+1) (qqa qKa)).set i y=(dn++[y])++wo k (qqa qKa):=fun y=>by
   rw [wfb _ _ (by omega),hdn,wQa,wIa,wdb,wy];rfl
  rw [hset]
  refine Tot.eq (uf (by omega) (ua (by simp) (uh (fun h=>ub ?_) (fun h=>ua (by omega) (ua (by omega) (ua (by omega) (ua (by simp [hdn];omega) (ul (ih _ (by simp [hdn])) ?_))))))))
  ·rw [qpN,if_pos h,qlN h]
  ·rw [qpN,if_neg (by simpa using h),qtP h]
   cases qpN (bs.drop (i+1)) with
   |none=>rfl
   |some l=>show (_,_)=(_,_);rw [wy];rfl
theorem qGH (lv:Int) (hlv:0≤lv∧lv≤7) (bs:List qca) (hl:bs.length≤10000) (hs:∀b∈bs,StB b):∀(k i:Nat),i+k=bs.length→
  ∀(h8:List qma),h8.length=i→qVe lv bs bs (bs.length:Int) (i:Int) bs.length h8=qUc bs (bs.length:Int) 0 bs.length (h8++rsl (bs.drop i) i) (wo bs.length (qqa qKa))
 |0,i,e,h8,h=>by
  rw [qJe,if_neg (by simp;omega),wI (by omega),rsl,wS]
  simp only [wj]
  rw [qda trivial,qda (by omega),qda (by omega),qda (by omega)]
 |k+1,i,e,h8,h=>by
  have hd:=qTa (qqa qpa:qca) (xs:=bs) (i:=i) (by omega)
  have ih:=qGH lv hlv bs hl hs k (i+1) (by omega)
  rw [show ((i+1:Nat):Int)=(i:Int)+1 by omega] at ih
  rw [qJe,hd.1,if_pos (by simp;omega)]
  simp only [wj,wv]
  rw [w64 (x:=(i:Int)+1) (by omega) (by omega)]
  have hx:=hs _ hd.2.2
  generalize bs.getD i (qqa qpa)=x at*
  rw [qda (by omega),qda (by omega),hx.raw hlv,wq,qda (by omega),ih _ (by simp [h]),rsl,wy]
  rfl
theorem qfJ (lv:Int) (hlv:0≤lv∧lv≤7) (bs:List qca) (hl:bs.length≤10000) (hs:∀b∈bs,StB b):qVb lv bs=some (qfS (qpN bs)):=by
 rw [qho]
 simp only [wj]
 rw [qda (by omega),qda (by omega),qda (by omega)]
 have h1:=qGH lv hlv bs hl hs bs.length 0 (by omega) [] rfl
 have h2:=qFH bs bs.length hl bs.length 0 [] (by omega) rfl
 simp only [wca,wU,Int.natCast_zero] at h1 h2
 rw [h1,h2]
 cases qpN bs <;> rfl
def wr {α:Type}:List α→Nat→List α→List α
 |xs,_,[]=>xs
 |xs,i,y::ys=>wr (xs.set i y) (i+1) ys
theorem getD_set_ne {α:Type} {xs:List α} {i j:Nat} {y d:α} (h:i≠j):(xs.set i y).getD j d=xs.getD j d:=by
 simp [wu,wAb,h]
theorem qFi {α:Type} {xs:List α} {i:Nat} {y d:α} (h:i<xs.length):(xs.set i y).getD i d=y:=by
 simp [wu,wAb,h]
theorem qpH {α:Type} {xs:List α} {i:Nat} {d:α} (h:i<xs.length):xs.set i (xs.getD i d)=xs:=by
 apply List.ext_getElem?;intro j
 rw [wAb]
 by_cases h1:i=j
 ·subst h1;simp [h,wu]
 ·simp [h1]
theorem qbK {α:Type}:∀{ys dn:List α} {zs:List α},ys.length≤zs.length→wr (dn++zs) dn.length ys=dn++ys++zs.drop ys.length
 |[],dn,zs,_=>by simp [wr]
 |y::ys,dn,[],h=>by simp at h
 |y::ys,dn,z::zs,h=>by
  have:(dn++z::zs).set dn.length y=(dn++[y])++zs:=by
   rw [wfb _ _ (wt _),wQa,wdb,wy];rfl
  rw [wr,this]
  have h2:=qbK (ys:=ys) (dn:=dn++[y]) (zs:=zs) (by simpa using h)
  rw [wm,wC] at h2
  rw [h2]
  simp
theorem qPL (v32:List qoa) (v33 v34:Int) (dat:List Int) (m off:Nat) (raw:Int) (hb:off+dat.length≤1000000):∀(rest:List Int) (k:Nat) (h0:List (ByteArray×List Int)) (h8:List (List Bool)),dat.drop k=rest→k+rest.length=dat.length→
  m<h0.length→h8.length=h0.length→h0.length≤100000→(h8.getD m []).length=(h0.getD m (wD,[])).2.length→off+dat.length≤(h8.getD m []).length→(∀j,off+k≤j→j<off+dat.length→(h8.getD m []).getD j false=false)→
  qNe v32 v33 v34 dat (dat.length:Int) (k:Int) h0 h8 ((m:Int),((off:Int),(raw,())))=
   qJd v32 v33 (wd .i64 (v34+1)) (h0.set m ((h0.getD m (wD,[])).1,wr (h0.getD m (wD,[])).2 (off+k) rest)) (h8.set m (wr (h8.getD m []) (off+k) (rest.map fun _=>true)))
 |[],k,h0,h8,hr,hk,hm,hl,hl2,hs,ho,hf=>by
  simp only [wT] at hk
  rw [qsk,if_neg (by simp;omega)]
  simp only [wua,wr]
  have t2:h8.set m (h8.getD m [])=h8:=qpH (by omega)
  have:h0.set m ((h0.getD m (wD,[])).1,(h0.getD m (wD,[])).2)=h0:=qpH hm
  rw [this,t2]
 |b::rest,k,h0,h8,hr,hk,hm,hl,hl2,hs,ho,hf=>by
  simp only [wB] at hk
  have hd:=qTa (0:Int) (xs:=dat) (i:=k) (by omega)
  rw [hr] at hd
  obtain ⟨hd1,_⟩:=hd
  injection hd1 with hd1 hd2
  have hw:wd .i64 ((off:Int)+(k:Int))=((off+k:Nat):Int):=by rw [w64 (by omega) (by omega)];omega
  have hm8:m<h8.length:=by omega
  have hfl:=hf (off+k) (wt _) (by omega)
  have hfv:(qdh (a:= .str) (e:=(.int .u8)) h0).length=h0.length:=qck (a:= .str) (e:= .int .u8) h0
  have ih:=qPL v32 v33 v34 dat m off raw hb rest (k+1) (h0.set m ((h0.getD m (wD,[])).1,(h0.getD m (wD,[])).2.set (off+k) b)) (h8.set m ((h8.getD m []).set (off+k) true)) hd2.symm (by omega)
   (by rw [wia];exact hm) (by rw [wia,wia];exact hl) (by rw [wia];exact hl2) (by rw [qFi hm8,qFi hm,wia,wia];exact hs) (by rw [qFi hm8,wia];exact ho)
   (fun j h1 h2=>by rw [qFi hm8,getD_set_ne (by omega)];exact hf j (by omega) h2)
  rw [qFi hm8,qFi hm,List.set_set,List.set_set] at ih
  rw [show ((k+1:Nat):Int)=(k:Int)+1 by omega] at ih
  rw [qsk]
  simp only [hw,hfv,wj,wv,wQ]
  rw [if_pos (by simp;omega),qda (by omega),qda (by omega),qda (by omega),qda (by omega),qda (by omega),qda (by omega),qda (by omega),if_neg (by rw [hfl];decide),
   qda (by omega),qda (by omega),qda (by omega),qda (by omega),qda (by omega),qda (by omega),qda (by omega),qda (by omega),qda (by omega),qda (by omega),
   ←hd1,w64 (x:=(k:Int)+1) (by omega) (by omega),ih,wL,wr,wr]
  rfl
abbrev Mm:=List (ByteArray×List Int)
def pM (p:qoa):Nat:=p.1.1.toNat
def pO (p:qoa):Nat:=p.1.2.1.toNat
def qwP (p:qoa) (h0:Mm):Mm:=h0.set (pM p) ((h0.getD (pM p) (wD,[])).1,wr (h0.getD (pM p) (wD,[])).2 (pO p) p.2.1)
def qxQ (p:qoa) (h8:List (List Bool)):List (List Bool):=h8.set (pM p) (wr (h8.getD (pM p) []) (pO p) (p.2.1.map fun _=>true))
def qxS (p:qoa) (h0:Mm) (h8:List (List Bool)):Prop:=
 0≤p.1.1∧pM p<h0.length∧0≤p.1.2.1∧pO p+p.2.1.length≤1000000∧(h8.getD (pM p) []).length=(h0.getD (pM p) (wD,[])).2.length∧pO p+p.2.1.length≤(h8.getD (pM p) []).length∧∀j,pO p≤j→j<pO p+p.2.1.length→(h8.getD (pM p) []).getD j false=false
def qtF:List qoa→Mm→List (List Bool)→Prop
 |[],_,_=>True
 |p::r,h0,h8=>qxS p h0 h8∧qtF r (qwP p h0) (qxQ p h8)
def putL:List qoa→Mm→Mm
 |[],h0=>h0
 |p::r,h0=>putL r (qwP p h0)
theorem qQL (ps:List qoa) (hps:ps.length≤100000):∀(k i:Nat) (h0:Mm) (h8:List (List Bool)),i+k=ps.length→h8.length=h0.length→h0.length≤100000→qtF (ps.drop i) h0 h8→
  qJd ps (ps.length:Int) (i:Int) h0 h8=some (true,putL (ps.drop i) h0)
 |0,i,h0,h8,e,hl,hl2,hf=>by
  rw [qtk,if_neg (by simp;omega),wI (by omega)];rfl
 |k+1,i,h0,h8,e,hl,hl2,hf=>by
  have hd:=qTa (qqa qKa:qoa) (xs:=ps) (i:=i) (by omega)
  rw [hd.1] at hf ⊢
  have ih:=fun h0 h8=>qQL ps hps k (i+1) h0 h8 (by omega)
  rw [show ((i+1:Nat):Int)=(i:Int)+1 by omega] at ih
  rw [qtk]
  simp only [wj,wv]
  rw [if_pos (by simp;omega),qda (by omega),qda (by omega)]
  generalize ps.getD i (qqa qKa)=x at*
  obtain ⟨⟨f1,f2,f3,f4,f5,f6,f7⟩,hf⟩:=hf
  have h3:=qPL ps (ps.length:Int) (i:Int) x.2.1 (pM x) (pO x) x.1.2.2.1 f4 x.2.1 0 h0 h8 rfl (by omega) f2 hl hl2 f5 f6 (by simpa using f7)
  have hx:x.1=(((pM x:Nat):Int),(((pO x:Nat):Int),(x.1.2.2.1,()))):=by
   unfold pM pO
   rw [Int.toNat_of_nonneg f1,Int.toNat_of_nonneg f3]
  rw [hx]
  simp only [wtb] at h3
  refine h3.trans ?_
  rw [w64 (x:=(i:Int)+1) (by omega) (by omega)]
  exact ih (qwP x h0) (qxQ x h8) (by unfold qwP qxQ;rw [wia,wia];exact hl) (by unfold qwP;rw [wia];exact hl2) hf
def qFp (h0:Mm):List (List Bool):=h0.map fun x=>wo x.2.length false
theorem qRL (ps:List qoa) (h0:Mm) (hl:h0.length≤100000) (hm:∀x∈h0,x.2.length≤1000000):∀(k i:Nat),i+k=h0.length→
  qFg ps (h0.length:Int) (i:Int) h0 ((qFp h0).take i++wo k [])=qJd ps (ps.length:Int) 0 h0 (qFp h0)
 |0,i,e=>by
  rw [quk,if_neg (by simp;omega),wN (by unfold qFp;simp;omega),List.replicate_zero,wS]
  rfl
 |k+1,i,e=>by
  have hd:=qTa ((wD,[]):ByteArray×List Int) (xs:=h0) (i:=i) (by omega)
  have ih:=qRL ps h0 hl hm k (i+1) (by omega)
  rw [show ((i+1:Nat):Int)=(i:Int)+1 by omega] at ih
  have hfv:(qdh (a:= .str) (e:= .int .u8) h0).length=h0.length:=qck (a:= .str) (e:= .int .u8) h0
  have hx:=hm _ hd.2.2
  have hbl:(qFp h0).length=h0.length:=wla ..
  have hset:((qFp h0).take i++wo (k+1) []).set i (wo (h0.getD i (wD,[])).2.length false)=(qFp h0).take (i+1)++wo k []:=by
   have h1:((qFp h0).take i).length=i:=by rw [wP];omega
   rw [wfb _ _ (by omega),h1,wQa,wIa,wdb]
   have h2:(qFp h0).take (i+1)=(qFp h0).take i++[wo (h0.getD i (wD,[])).2.length false]:=by
    unfold qFp
    rw [←List.map_take,←List.map_take,hd.2.1,wEa];rfl
   rw [h2,wy];rfl
  rw [quk]
  simp only [hfv,wj,wv,wQ]
  rw [if_pos (by simp;omega),qda (by omega),qda (by omega),qda trivial,qda (by omega),qda (by omega),qda (by omega),qda (by omega),qda (by simp;omega),hset,w64 (x:=(i:Int)+1) (by omega) (by omega),ih]
theorem qOL (ps:List qoa) (h0:Mm) (hps:ps.length≤100000) (hl:h0.length≤100000) (hm:∀x∈h0,x.2.length≤1000000) (hf:qtF ps h0 (qFp h0)):qhn ps h0=some (true,putL ps h0):=by
 have hfv:(qdh (a:= .str) (e:= .int .u8) h0).length=h0.length:=qck (a:= .str) (e:= .int .u8) h0
 have h1:=qRL ps h0 hl hm h0.length 0 (by omega)
 have h2:=qQL ps hps ps.length 0 h0 (qFp h0) (by omega) (wla ..) hl hf
 rw [qkv]
 simp only [hfv,wj,wv]
 rw [qda trivial,qda (by omega),qda (by omega),qda (by omega)]
 simp only [List.take_zero,wU,Int.natCast_zero] at h1 h2
 exact h1.trans h2
def leP (a b:qea):Prop:=a.1<b.1∨(a.1=b.1∧a.2.1≤b.2.1)
theorem qlS (a b:Int):∃r,qYh a b=some r∧(r<0↔a<b)∧(r=0↔a=b):=by
 have hn:∀x:Int,qgk x=some false:=fun x=>by rw [qSv];simp
 rw [qbt,hn,hn]
 simp only [wq,Bool.false_eq_true,if_false,decide_eq_true_eq]
 by_cases h1:a<b
 ·rw [if_pos h1];exact ⟨-1,rfl,by omega,by omega⟩
 ·rw [if_neg h1]
  by_cases h2:a>b
  ·rw [if_pos h2];exact ⟨1,rfl,by omega,by omega⟩
  ·rw [if_neg h2];exact ⟨0,rfl,by omega,by omega⟩
theorem qPR (x y:Int):qsu [x,y]=some (if x≠0 then x else y):=by
 have h0:qYf 0 [x,y] (wi 2) 2=some 0:=by rw [qJj,if_neg (by decide)]
 have h1:qYf 0 [x,y] (wi 2) 1=some y:=by
  rw [qJj,if_pos (by decide),qda (by decide),qda (by show _<(2:Int);decide)]
  show (if (y != 0)=true then some y else _)=_
  rw [show wd .i64 ((1:Int)+1)=2 by decide+kernel,h0]
  by_cases h:y=0
  ·subst h;rfl
  ·rw [if_pos (by simpa using h)]
 rw [qQC]
 show qYf 0 [x,y] (wi 2) 0=_
 rw [qJj,if_pos (by decide),qda (by decide),qda (by show _<(2:Int);decide)]
 show (if (x != 0)=true then some x else _)=_
 rw [show wd .i64 ((0:Int)+1)=1 by decide+kernel,h1]
 by_cases h:x=0
 ·subst h;rfl
 ·rw [if_pos (by simpa using h),if_pos h]
theorem qOR (a b:qea):∃r,qnd a b=some r∧(leP b a→¬r<0):=by
 obtain ⟨r1,h1,h2,h3⟩:=qlS a.1 b.1
 obtain ⟨r2,g1,g2,g3⟩:=qlS a.2.1 b.2.1
 refine ⟨if r1≠0 then r1 else r2,?_,fun h=>?_⟩
 ·rw [qfs,h1,wq,g1,wq,qPR,wq]
 ·unfold leP at h
  split <;> omega
def Ord (l:List qea):Prop:=∀i j,i≤j→j<l.length→leP (l.getD i (qqa qka)) (l.getD j (qqa qka))
theorem qLO (l:List qea) (hl:l.length≤100000) (ho:Ord l):∀(k i:Nat),i+k=l.length→1≤i→qWa 0 (l.length:Int) (i:Int) l=some l
 |0,i,e,h=>by rw [qqb,if_neg (by simp;omega)]
 |k+1,i,e,h=>by
  have ih:=qLO l hl ho k (i+1) (by omega) (by omega)
  rw [show ((i+1:Nat):Int)=(i:Int)+1 by omega] at ih
  obtain ⟨r,h1,h2⟩:=qOR (l.getD i (qqa qka)) (l.getD (i - 1) (qqa qka))
  have h3:=h2 (ho (i - 1) i (by omega) (by omega))
  have hw:wd .i64 ((i:Int) - 1)=((i - 1:Nat):Int):=by rw [w64 (by omega) (by omega)];omega
  rw [qqb,if_pos (by simp;omega),qDe]
  simp only [hw,wj,wv,wQ]
  rw [if_pos (by simp;omega),qda (by omega),qda (by omega),qda (by omega),qda (by omega),h1,wq,if_neg (by simpa using h3),w64 (x:=(i:Int)+1) (by omega) (by omega),ih]
theorem qZR:qHe 0=some 0:=by
 rw [qdo,qBl]
 refine Tot.eq (ue (Tot.eq (uc (by decide) (uc (by decide) (uc (by decide) (ua (by decide+kernel) (ua (by decide+kernel) (ub (show _=(0:Int) by decide+kernel)))))))) (ub rfl))
theorem qCI {l:List qea} (hl:l.length≤12) (ho:Ord l):qQa l=some l:=by
 have hins:qJb 0 (l.length:Int) l=some l:=by
  rw [qqf,show wd .i64 ((0:Int)+1)=1 by decide+kernel]
  by_cases h0:l.length=0
  ·rw [qqb,if_neg (by simp;omega)]
  ·exact qLO l (by omega) ho (l.length - 1) 1 (by omega) (wt _)
 have hp:∀r,qHb 0 (l.length:Int) r l=some l:=fun r=>by
  rw [qAd,qXc,w64 (x:=(l.length:Int) - 0) (by omega) (by omega)]
  exact Tot.eq (uf (by omega) (ue hins (ub rfl)))
 have hlen:∃r,qHe (wd .u64 (wi l.length))=some r:=by
  by_cases h0:l.length=0
  ·rw [h0,show wd .u64 (wi 0)=0 by decide+kernel];exact ⟨0,qZR⟩
  ·obtain ⟨r,h,_⟩:=qjO (a:=wi l.length) (by simp;omega) (by simp;omega)
   exact ⟨r,h⟩
 obtain ⟨r,hr⟩:=hlen
 rw [qPc,hr]
 exact Tot.eq (ue rfl (ue (hp r) (ub rfl)))
theorem qfQ {l:List qea} (hl:l.length≤100000):qsc l=some l:=by
 rw [qMg]
 refine qaz false (fun h=>by cases h) (fun x hx=>?_)
 cases x
 ·exact Tot.eq (uj (fun h=>by cases h) (fun _=>ua (by simp;omega) (ub (wU _))))
 ·exact Tot.eq (uj (fun h=>ub (hx rfl).symm) (fun h=>absurd rfl h))
def qqG (i:Int):List qea→Int→Prop
 |[],_=>True
 |p::r,e=>if p.1≠i then qqG i r e else p.2.1≤e∧qqG i r (if p.2.1+p.2.2.1>e then p.2.1+p.2.2.1 else e)
def Sml (p:qea):Prop:=0≤p.2.1∧p.2.1≤1000000∧0≤p.2.2.1∧p.2.2.1≤1000000
theorem qpL (n:Nat) (v15:List Int) (v16 i:Int) (h9:List qea) (L:List qea) (hL:L.length≤100000) (hS:∀p∈L,Sml p):∀(k j:Nat) (e:Int),j+k=L.length→0≤e→e≤2000000→qqG i (L.drop j) e→
  qId n i e v15 v16 i (L.length:Int) (j:Int) L h9=qSc n v15 v16 (wd .i64 (i+1)) L h9
 |0,j,e,hj,h1,h2,ho=>by rw [qqk,if_neg (by simp;omega)]
 |k+1,j,e,hj,h1,h2,ho=>by
  have hd:=qTa (qqa qka:qea) (xs:=L) (i:=j) (by omega)
  rw [hd.1] at ho
  have hs:=hS _ hd.2.2
  have ih:=fun e=>qpL n v15 v16 i h9 L hL hS k (j+1) e (by omega)
  rw [show ((j+1:Nat):Int)=(j:Int)+1 by omega] at ih
  rw [qqk]
  simp only [wj,wv,wQ]
  rw [if_pos (by simp;omega),qda (by omega),qda (by omega),w64 (x:=(j:Int)+1) (by omega) (by omega)]
  generalize L.getD j (qqa qka)=x at*
  obtain ⟨s1,s2,s3,s4⟩:=hs
  rw [qqG] at ho
  by_cases hx:x.1=i
  ·rw [if_neg (by simpa using hx)] at ho
   rw [if_neg (by simpa using hx),if_neg (by have:=ho.1;simp;omega),w64 (x:=x.2.1+x.2.2.1) (by omega) (by omega)]
   exact ih _ (by split <;> omega) (by split <;> omega) ho.2
  ·rw [if_pos hx] at ho
   rw [if_pos (by simpa using hx)]
   exact ih e h1 h2 ho
theorem qoL (n:Nat) (v15:List Int) (v16 i:Int) (h8 h9:List qea) (L:List qea) (hL:L.length≤100000) (hS:∀p∈L,Sml p):∀(k j:Nat) (e:Int),j+k=L.length→0≤e→e≤2000000→qqG i (L.drop j) e→
  qHd n i e v15 v16 i (L.length:Int) (j:Int) h8 h9 L=qSc n v15 v16 (wd .i64 (i+1)) h8 h9
 |0,j,e,hj,h1,h2,ho=>by rw [qpk,if_neg (by simp;omega)]
 |k+1,j,e,hj,h1,h2,ho=>by
  have hd:=qTa (qqa qka:qea) (xs:=L) (i:=j) (by omega)
  rw [hd.1] at ho
  have hs:=hS _ hd.2.2
  have ih:=fun e=>qoL n v15 v16 i h8 h9 L hL hS k (j+1) e (by omega)
  rw [show ((j+1:Nat):Int)=(j:Int)+1 by omega] at ih
  rw [qpk]
  simp only [wj,wv,wQ]
  rw [if_pos (by simp;omega),qda (by omega),qda (by omega),w64 (x:=(j:Int)+1) (by omega) (by omega)]
  generalize L.getD j (qqa qka)=x at*
  obtain ⟨s1,s2,s3,s4⟩:=hs
  rw [qqG] at ho
  by_cases hx:x.1=i
  ·rw [if_neg (by simpa using hx)] at ho
   rw [if_neg (by simpa using hx),if_neg (by have:=ho.1;simp;omega),w64 (x:=x.2.1+x.2.2.1) (by omega) (by omega)]
   exact ih _ (by split <;> omega) (by split <;> omega) ho.2
  ·rw [if_pos hx] at ho
   rw [if_pos (by simpa using hx)]
   exact ih e h1 h2 ho
def Cov (sz:List Int) (xs:List qea):Prop:=∀i:Nat,i<sz.length→qqG (i:Int) (xs++[((i:Int),(sz.getD i 0,(0,())))]) 0
theorem qqL (sz:List Int) (hsz:sz.length≤10000) (hz:∀x∈sz,0≤x∧x≤1000000) (xs:List qea) (hx:xs.length≤10000) (hS:∀p∈xs,Sml p) (hC:Cov sz xs) (h9:List qea):∀(k i:Nat) (h8:List qea),i+k=sz.length→h8.take xs.length=xs→
  qSc xs.length sz (sz.length:Int) (i:Int) h8 h9=some h9
 |0,i,h8,e,h=>by rw [qrk,if_neg (by simp;omega)]
 |k+1,i,h8,e,h=>by
  have hd:=qTa (0:Int) (xs:=sz) (i:=i) (by omega)
  have hzi:=hz _ hd.2.2
  have ih:=fun h8=>qqL sz hsz hz xs hx hS hC h9 k (i+1) h8 (by omega)
  rw [show ((i+1:Nat):Int)=(i:Int)+1 by omega] at ih
  have hc:=hC i (by omega)
  have hS':∀p∈xs++[((i:Int),(sz.getD i 0,((0:Int),())))],Sml p:=fun p hp=>by
   rcases wba.1 hp with hp|hp
   ·exact hS p hp
   ·rw [wV.1 hp];exact ⟨hzi.1,hzi.2,wVa 0,(show (0:Int)≤1000000 by decide)⟩
  have hlen:(xs++[((i:Int),(sz.getD i 0,((0:Int),())))]).length=xs.length+1:=by simp
  have g2:=qpL xs.length sz (sz.length:Int) (i:Int) h9 _ (by rw [hlen];omega) hS' _ 0 0 (wQ _) (by omega) (by omega) hc
  have g3:=qoL xs.length sz (sz.length:Int) (i:Int) h8 h9 _ (by rw [hlen];omega) hS' _ 0 0 (wQ _) (by omega) (by omega) hc
  rw [w64 (x:=(i:Int)+1) (by omega) (by omega)] at g2 g3
  rw [qrk]
  simp only [wj,wv,h]
  rw [if_pos (by simp;omega),qda (by omega),qda (by omega)]
  refine qaz true trivial (fun b _=>?_)
  cases b
  ·rw [if_neg (by decide),qda (by rw [hlen];omega)]
   exact g3.trans (ih h8 h)
  ·rw [if_pos rfl,qda (by rw [hlen];omega),qda (by rw [hlen];omega)]
   exact g2.trans (ih _ (List.take_left' rfl))
theorem qcE {sz:List Int} (hsz:sz.length≤10000) (hz:∀x∈sz,0≤x∧x≤1000000) {xs:List qea} (hx:xs.length≤10000) (hso:qQa xs=some xs) (hS:∀p∈xs,Sml p) (hC:Cov sz xs):qgn sz xs=some []:=by
 have h1:=qqL sz hsz hz xs hx hS hC [] sz.length 0 xs (by omega) (List.take_length)
 rw [qjv]
 exact Tot.eq (ue (qfQ (by omega)) (ue hso (ul h1 rfl)))
def qjd (rs:List qaa):Mm:=rs.map fun r=>(r.1,wo r.2.1.toNat 0)
theorem qAO (rs:List qaa) (ps:List qoa) (hl:rs.length≤10000) (hs:∀r∈rs,0≤r.2.1∧r.2.1≤1000000):∀(k i:Nat),i+k=rs.length→
  qhl rs ps rs (rs.length:Int) (i:Int) (szs (rs.take i)) (qjd (rs.take i))=qsf rs ps ps (ps.length:Int) 0 (szs rs) (qjd rs) []
 |0,i,e=>by rw [qEo,if_neg (by simp;omega),wN (by omega)];rfl
 |k+1,i,e=>by
  have hd:=qTa (qqa qfa:qaa) (xs:=rs) (i:=i) (by omega)
  have ih:=qAO rs ps hl hs k (i+1) (by omega)
  have hx:=hs _ hd.2.2
  have hti:(rs.take i).length=i:=by rw [wP];omega
  rw [show ((i+1:Nat):Int)=(i:Int)+1 by omega,hd.2.1] at ih
  have e1:szs (rs.take i++[rs.getD i (qqa qfa)])=szs (rs.take i)++[(rs.getD i (qqa qfa)).2.1]:=by unfold szs;rw [wEa];rfl
  have e2:qjd (rs.take i++[rs.getD i (qqa qfa)])=qjd (rs.take i)++[((rs.getD i (qqa qfa)).1,wo (rs.getD i (qqa qfa)).2.1.toNat 0)]:=by unfold qjd;rw [wEa];rfl
  rw [e1,e2] at ih
  have l1:(szs (rs.take i)).length=i:=by rw [qgg,hti]
  have l2:(qjd (rs.take i)).length=i:=by unfold qjd;rw [wla,hti]
  rw [qEo]
  simp only [wj,wv]
  rw [if_pos (by simp;omega),qda (by omega),qda (by omega),w64 (x:=(i:Int)+1) (by omega) (by omega)]
  generalize rs.getD i (qqa qfa)=x at*
  rw [qda (by rw [wm,l1,wC];omega),qda trivial,qda (by omega),qda (by omega),qda (by omega),qda (by rw [wm,l2,wC];omega),ih]
def qxw (rs:List qaa) (ms:List qva):Nat→Nat→Bool
 |0,_=>true
 |k+1,i=>peq (.arr 20 (.int .u8)) (qkk (ms.getD i (qqa qua)).2.1) (rs.getD i (qqa qfa)).2.2.1&&qxw rs ms k (i+1)
theorem qyO (rs:List qaa) (ms:List qva) (hl:ms.length≤10000) (hr:ms.length≤rs.length) (hm:∀m∈ms,Bts m.2.1∧m.2.1.length≤20000):∀(k i:Nat),i+k=ms.length→
  qij rs (ms.length:Int) (i:Int) ms=some (if qxw rs ms k i=true then (ms,0) else ([],22))
 |0,i,e=>by rw [qCo,if_neg (by simp;omega)];rfl
 |k+1,i,e=>by
  have hd:=qTa (qqa qua:qva) (xs:=ms) (i:=i) (by omega)
  have ih:=qyO rs ms hl hr hm k (i+1) (by omega)
  have hx:=hm _ hd.2.2
  rw [show ((i+1:Nat):Int)=(i:Int)+1 by omega] at ih
  rw [qCo]
  simp only [wj,wv,wQ]
  rw [if_pos (by simp;omega),qda (by omega),qda (by omega),qpw _ hx.1,if_pos hx.2,wq,qda (by omega),qda (by omega),w64 (x:=(i:Int)+1) (by omega) (by omega),ih,qxw]
  by_cases hp:peq (.arr 20 (.int .u8)) (qkk (ms.getD i (qqa qua)).2.1) (rs.getD i (qqa qfa)).2.2.1=true
  ·rw [if_neg (by rw [hp];decide),hp,Bool.true_and]
  ·rw [Bool.not_eq_true] at hp
   rw [if_pos (by rw [hp];rfl),hp,Bool.false_and,if_neg (by decide)]
def Win (sz:List Int) (p:qea):Prop:=0≤p.1∧p.1<sz.length∧0≤p.2.1∧0<p.2.2.1∧p.2.1+p.2.2.1≤sz.getD p.1.toNat 0∧sz.getD p.1.toNat 0≤1000000
theorem qVM {sz:List Int} {p:qea} (h:Win sz p):qBo sz p=some true:=by
 obtain ⟨h1,h2,h3,h4,h5,h6⟩:=h
 rw [qEw]
 simp only [wj]
 rw [w64 (x:=sz.getD p.1.toNat 0 - p.2.1) (by omega) (by omega)]
 refine Tot.eq (uf h1 (uf h2 (uf h3 (uf h4 (ua h1 (ua h2 (uf (by omega) (ua h1 (ua h2 (ub ?_))))))))))
 rw [decide_eq_true_eq];omega
theorem qzO (rs:List qaa) (ps:List qoa) (sz:List Int) (h0:Mm) (hps:ps.length≤600) (hw:∀p∈ps,Win sz p.1∧(p.2.1.length:Int)=p.1.2.2.1):∀(k i:Nat),i+k=ps.length→
  qsf rs ps ps (ps.length:Int) (i:Int) sz h0 ((ps.take i).map (·.1))=qsf rs ps ps (ps.length:Int) (ps.length:Int) sz h0 (ps.map (·.1))
 |0,i,e=>by
  have:i=ps.length:=by omega
  subst this
  rw [List.take_length]
 |k+1,i,e=>by
  have hd:=qTa (qqa qKa:qoa) (xs:=ps) (i:=i) (by omega)
  have ih:=qzO rs ps sz h0 hps hw k (i+1) (by omega)
  have hx:=hw _ hd.2.2
  have hti:(ps.take i).length=i:=by rw [wP];omega
  rw [show ((i+1:Nat):Int)=(i:Int)+1 by omega,hd.2.1,wEa,List.map_singleton] at ih
  rw [qDo]
  simp only [wj,wv]
  rw [if_pos (by simp;omega),qda (by omega),qda (by omega),w64 (x:=(i:Int)+1) (by omega) (by omega)]
  generalize ps.getD i (qqa qKa)=x at*
  rw [qVM hx.1,wq,if_neg (by decide),if_neg (by simpa using hx.2),qda (by rw [wm,wla,hti,wC];omega),ih]
theorem qdB (rs:List qaa):(qjd rs).length=rs.length:=wla ..
theorem qXJ {rs:List qaa} {ps:List qoa} (hR:RecsOK rs) (hv:qBe rs=0) (hl:rs.length≤10000) (hs:∀r∈rs,0≤r.2.1∧r.2.1≤20000) (hps:ps.length≤600) (hw:∀p∈ps,Win (szs rs) p.1∧(p.2.1.length:Int)=p.1.2.2.1)
  (hf:qtF ps (qjd rs) (qFp (qjd rs))) (hso:qQa (ps.map (·.1))=some (ps.map (·.1))) (hS:∀p∈ps,Sml p.1) (hC:Cov (szs rs) (ps.map (·.1)))
  (hln:(putL ps (qjd rs)).length=rs.length) (hm:∀m∈putL ps (qjd rs),Bts m.2∧m.2.length≤20000):
  qWc rs ps=some (if qxw rs (qdh (a:= .str) (e:= .int .u8) (putL ps (qjd rs))) rs.length 0=true then (qdh (a:= .str) (e:= .int .u8) (putL ps (qjd rs)),0) else ([],22)):=by
 have hbl:∀x∈qjd rs,x.2.length≤1000000:=fun x hx=>by
  obtain ⟨r,hr,rfl⟩:=wY.1 hx
  have:=hs r hr
  simp;omega
 have hfill:=qOL ps (qjd rs) (by omega) (by rw [qdB];omega) hbl hf
 have hmis:=qcE (sz:=szs rs) (by rw [qgg];omega) (fun x hx=>by obtain ⟨r,hr,rfl⟩:=wY.1 hx;have:=hs r hr;omega) (xs:=ps.map (·.1)) (by simp;omega) hso (fun p hp=>by obtain ⟨q,hq,rfl⟩:=wY.1 hp;exact hS q hq) hC
 have h1:=qAO rs ps hl (fun r hr=>by have:=hs r hr;omega) rs.length 0 (by omega)
 have h2:=qzO rs ps (szs rs) (qjd rs) hps hw ps.length 0 (by omega)
 have hfl:(qdh (a:= .str) (e:= .int .u8) (putL ps (qjd rs))).length=rs.length:=(qck (a:= .str) (e:= .int .u8) _).trans hln
 have hfb:(qdh (a:= .str) (e:= .int .u8) (qjd rs)).length=rs.length:=(qck (a:= .str) (e:= .int .u8) _).trans (qdB rs)
 have h3:=qyO rs (qdh (a:= .str) (e:= .int .u8) (putL ps (qjd rs))) (by rw [hfl];exact hl) (by rw [hfl];exact wt _) (fun m hmm=>by
  obtain ⟨x,hx,rfl⟩:=wY.1 hmm
  exact hm x hx) rs.length 0 (by rw [hfl];omega)
 rw [hfl] at h3
 have h4:qsf rs ps ps (ps.length:Int) (ps.length:Int) (szs rs) (qjd rs) (ps.map (·.1))=qij rs (rs.length:Int) 0 (qdh (a:= .str) (e:= .int .u8) (putL ps (qjd rs))):=by
  rw [qDo,if_neg (by simp),hfill,wq,if_neg (show ¬((!true)=true) by decide),hmis,wq,if_neg (by decide),hfb]
  rfl
 rw [qiD,qpe rs hR,hv]
 refine Tot.eq (ue rfl (ud rfl (uc (by simp;omega) ?_)))
 exact ul ((h1.trans h2).trans (h4.trans h3)) rfl
theorem qOO (b:qca) (i:Int):qej b i=some ((b.1.2.1 != i),i):=qiu b i
def ofM (i:Int) (bs:List qca):List qca:=bs.filter fun b=>b.1.2.1==i
theorem qMO (bs:List qca) (hl:bs.length≤100000) (i:Int):∀(k j:Nat),j+k=bs.length→(∃m,j≤m∧m<bs.length∧qHa bs (bs.length:Int) (j:Int) i=some ((m:Int),i)∧ofM i ((bs.drop j).take (m - j))=(bs.drop j).take (m - j)∧(bs.getD m (qqa qpa)).1.2.1≠i)∨
  (qHa bs (bs.length:Int) (j:Int) i=some (-1,i)∧ofM i (bs.drop j)=bs.drop j)
 |0,j,e=>by
  refine .inr ⟨by rw [qpc,if_neg (by simp;omega)],?_⟩
  rw [wI (by omega)];rfl
 |k+1,j,e=>by
  have hd:=qTa (qqa qpa:qca) (xs:=bs) (i:=j) (by omega)
  have ih:=qMO bs hl i k (j+1) (by omega)
  rw [show ((j+1:Nat):Int)=(j:Int)+1 by omega] at ih
  have hun:qHa bs (bs.length:Int) (j:Int) i=if ((bs.getD j (qqa qpa)).1.2.1 != i)=true then some ((j:Int),i) else qHa bs (bs.length:Int) ((j:Int)+1) i:=by
   rw [qpc]
   simp only [wj,wv]
   rw [if_pos (by simp;omega),qda (by omega),qda (by omega),qOO,wq,w64 (x:=(j:Int)+1) (by omega) (by omega)]
  rw [hun,hd.1]
  generalize hgx:bs.getD j (qqa qpa)=x at*
  by_cases hx:x.1.2.1=i
  ·rw [if_neg (by simpa using hx)]
   have hk:∀r:List qca,ofM i (x::r)=x::ofM i r:=fun r=>by unfold ofM;rw [List.filter_cons_of_pos (by simpa using hx)]
   rcases ih with ⟨m,h1,h2,h3,h4,h5⟩|⟨h3,h4⟩
   ·refine .inl ⟨m,by omega,h2,h3,?_,h5⟩
    rw [show m - j=(m - (j+1))+1 by omega,List.take_succ_cons,hk,h4]
   ·exact .inr ⟨h3,by rw [hk,h4]⟩
  ·rw [if_pos (by simpa using hx)]
   exact .inl ⟨j,wt _,by omega,rfl,by rw [wQa];rfl,by rw [hgx];exact hx⟩
theorem qkM (i:Int):∀(k j m:Nat) (h0:List qca),h0.length≤100000→j+k=h0.length→m<j→∃n h',qSa (m:Int) (j:Int) h0 i=some ((0,n),(h',i))∧h'.take n=h0.take m++ofM i (h0.drop j)∧n≤h0.length∧n≤h'.length
 |0,j,m,h0,hl,e,hm=>by
  refine ⟨m,qKb h0 m (wo (h0.length - m) (qqa qpa)),?_,?_,by omega,by unfold qKb;rw [wm,wm,wP];omega⟩
  ·rw [qXb,if_neg (by simp;omega),qda (by omega),qda (by simp;omega),qda (by omega),qda (by simp;omega)]
   simp only [wv,wRa,wQ]
  rw [wI (by omega)]
  unfold qKb
  rw [wy,wLa (by rw [wP];omega),List.take_take,Nat.min_self]
  exact (wS _).symm
 |k+1,j,m,h0,hl,e,hm=>by
  have hd:=qTa (qqa qpa:qca) (xs:=h0) (i:=j) (by omega)
  rw [qXb]
  simp only [wj,wv,wQ]
  rw [if_pos (by simp;omega),qda (by omega),qda (by omega),qOO,wq,w64 (x:=(j:Int)+1) (by omega) (by omega),w64 (x:=(m:Int)+1) (by omega) (by omega),hd.1]
  generalize hx0:h0.getD j (qqa qpa)=x at*
  by_cases hx:x.1.2.1=i
  ·rw [if_pos (by simp [hx]),qda (by omega),qda (by omega)]
   obtain ⟨n,h',h1,h2,h3⟩:=qkM i k (j+1) (m+1) (h0.set m x) (by rw [wia];exact hl) (by rw [wia];omega) (by omega)
   rw [show ((j+1:Nat):Int)=(j:Int)+1 by omega,show ((m+1:Nat):Int)=(m:Int)+1 by omega] at h1
   refine ⟨n,h',h1,?_,by rw [wia] at h3;exact h3⟩
   have hk:ofM i (x::h0.drop (j+1))=x::ofM i (h0.drop (j+1)):=by unfold ofM;rw [List.filter_cons_of_pos (by simpa using hx)]
   have ht:(h0.set m x).take (m+1)=h0.take m++[x]:=by
    rw [List.take_set,List.take_add_one,wx (by omega)]
    rw [wfb _ _ (by rw [wP];omega),wP,Nat.min_eq_left (by omega),wQa];rfl
   rw [h2,hk,List.drop_set_of_lt (by omega),ht,wy];rfl
  ·rw [if_neg (by simp [hx])]
   obtain ⟨n,h',h1,h2,h3⟩:=qkM i k (j+1) m h0 hl (by omega) (by omega)
   rw [show ((j+1:Nat):Int)=(j:Int)+1 by omega] at h1
   have hk:ofM i (x::h0.drop (j+1))=ofM i (h0.drop (j+1)):=by unfold ofM;rw [List.filter_cons_of_neg (by simpa using hx)]
   exact ⟨n,h',h1,by rw [h2,hk],h3⟩
theorem qfH {bs:List qca} (hl:bs.length≤100000) (i:Int):∃n h',qzb bs i=some ((0,n),(h',i))∧h'.take n=ofM i bs∧n≤h'.length:=by
 have hi:qRb bs i=qHa bs (bs.length:Int) ((0:Nat):Int) i:=qyf bs i
 rcases qMO bs hl i bs.length 0 (by omega) with ⟨m,h1,h2,h3,h4,hx⟩|⟨h3,h4⟩
 ·simp only [wca,wRa] at h4
  obtain ⟨n,h',g1,g2,g3⟩:=qkM i (bs.length - (m+1)) (m+1) m bs hl (by omega) (by omega)
  rw [show ((m+1:Nat):Int)=(m:Int)+1 by omega] at g1
  have hd:=qTa (qqa qpa:qca) (xs:=bs) (i:=m) h2
  refine ⟨n,h',?_,?_,g3.2⟩
  ·rw [qoc,hi,h3,wq,if_neg (by simp),w64 (x:=(m:Int)+1) (by omega) (by omega)]
   exact g1
  ·rw [g2]
   conv=>rhs;rw [←List.take_append_drop m bs,hd.1]
   unfold ofM at h4 ⊢
   rw [List.filter_append,h4,List.filter_cons_of_neg (by simpa using hx)]
 ·simp only [wca] at h4
  refine ⟨bs.length,bs,?_,by rw [List.take_length,h4],wt _⟩
  rw [qoc,hi,h3]
  exact Tot.eq (ue rfl (ux rfl (ub rfl)))
def nmI (nm:ByteArray):List qaa→Nat→Option Nat
 |[],_=>none
 |r::rs,i=>if r.1.toList=nm.toList then some i else nmI nm rs (i+1)
def nmR:Option Nat→Int×Int
 |some i=>(i,0)
 |none=>(0,6)
theorem qQM (nm:ByteArray) (rs:List qaa) (hl:rs.length≤100000):∀(k i:Nat),i+k=rs.length→qZi nm rs (rs.length:Int) (i:Int)=some (nmR (nmI nm (rs.drop i) i))
 |0,i,e=>by rw [qMm,if_neg (by simp;omega),wI (by omega)];rfl
 |k+1,i,e=>by
  have hd:=qTa (qqa qfa:qaa) (xs:=rs) (i:=i) (by omega)
  have ih:=qQM nm rs hl k (i+1) (by omega)
  rw [show ((i+1:Nat):Int)=(i:Int)+1 by omega] at ih
  rw [qMm,hd.1,nmI]
  simp only [wj,wv]
  rw [if_pos (by simp;omega),qda (by omega),qda (by omega),w64 (x:=(i:Int)+1) (by omega) (by omega),ih]
  by_cases hx:(rs.getD i (qqa qfa)).1.toList=nm.toList
  ·rw [if_pos (beq_iff_eq.2 hx),if_pos hx];rfl
  ·rw [if_neg (fun h=>hx (beq_iff_eq.1 h)),if_neg hx]
theorem qFv {rs:List qaa} (hR:RecsOK rs) (hl:rs.length≤100000) (hv:qBe rs=0) (nm:ByteArray):qDi rs nm=some (nmR (nmI nm rs 0)):=by
 rw [qKz,qpe rs hR,hv]
 exact Tot.eq (ue rfl (ud rfl (ul (qQM nm rs hl rs.length 0 (by omega)) rfl)))
theorem qLL {a:List Int} {l:qza} {bs:List qca} (h:qid a=some (l,(bs,0))) {nm:ByteArray} (hf:qDi l.2.1 nm=some (nmR none)):qxj a nm=some (((0,(0,())),([],([],()))),(0,(([],(0,0)),6))):=by
 rw [qrp,h]
 exact Tot.eq (ue rfl (ud rfl (ue hf (uh (fun _=>ub rfl) (fun k=>by cases k)))))
theorem qvy {a:List Int} {l:qza} {bs:List qca} (hl:bs.length≤100000) (h:qid a=some (l,(bs,0))) {nm:ByteArray} {i:Nat} (hf:qDi l.2.1 nm=some (nmR (some i))):
  ∃n h',qxj a nm=some (l,((i:Int),((h',(0,n)),0)))∧h'.take n=ofM i bs∧n≤h'.length:=by
 obtain ⟨n,h',h1,h2,h3⟩:=qfH hl (i:Int)
 refine ⟨n,h',?_,h2,h3⟩
 rw [qrp,h]
 exact Tot.eq (ue rfl (ud rfl (ue hf (ud rfl (ue h1 (ub rfl))))))
def z0 (p:qoa):qoa:=((0,p.1.2),p.2)
theorem qcP (i:Nat) (l:qza) (hi:i<l.2.1.length) (hll:l.2.1.length≤100000) (ps:List qoa) (hl:ps.length≤100000) (ba:ByteArray) (h11:List Int):∀(k j:Nat),j+k=ps.length→
  qug (i:Int) (ps.length:Int) (j:Int) ba () l ((ps.take j).map z0++ps.drop j) h11=(qWc [l.2.1.getD i (qqa qfa)] (ps.map z0)).bind fun r=>if (r.2 != (0:Int))=true then some ((wD,([],())),r.2) else gd ((0:Int)<wi r.1.length) (some (r.1.getD 0 (qqa qua),0))
 |0,j,e=>by
  have hd:=qTa (qqa qfa:qaa) (xs:=l.2.1) (i:=i) hi
  have e1:(ps.take j).map z0++ps.drop j=ps.map z0:=by rw [wN (by omega),wI (by omega),wS]
  rw [e1,qVm,if_neg (by simp;omega)]
  simp only [wj,wv]
  rw [w64 (x:=(i:Int)+1) (by omega) (by omega),qda (by omega),qda (by omega),qda (by omega),hd.1,show ((i:Int)+1).toNat - i=1 by omega]
  show (qWc [l.2.1.getD i (qqa qfa)] (ps.map z0)).bind _=_
  congr 1
  funext r
  by_cases hr:(r.2 != (0:Int))=true
  ·rw [if_pos hr,if_pos hr]
  ·rw [if_neg hr,if_neg hr,qda (by omega)]
 |k+1,j,e=>by
  have hd:=qTa (qqa qKa:qoa) (xs:=ps) (i:=j) (by omega)
  have ih:=qcP i l hi hll ps hl ba h11 k (j+1) (by omega)
  rw [show ((j+1:Nat):Int)=(j:Int)+1 by omega,hd.2.1,wEa,List.map_singleton] at ih
  have hlen:((ps.take j).map z0).length=j:=by rw [wla,wP];omega
  have hget:((ps.take j).map z0++ps.drop j).getD j (qqa qKa)=ps.getD j (qqa qKa):=by
   rw [wu,woa (by omega),hlen,wQa,hd.1];rfl
  have hset:((ps.take j).map z0++ps.drop j).set j (z0 (ps.getD j (qqa qKa)))=((ps.take j).map z0++[z0 (ps.getD j (qqa qKa))])++ps.drop (j+1):=by
   rw [wfb _ _ (by omega),hlen,wQa]
   conv=>lhs;rw [hd.1]
   rw [wdb,wy];rfl
  have htl:((ps.take j).map z0++ps.drop j).length=ps.length:=by rw [wm,hlen,wda];omega
  rw [qVm]
  simp only [wj,wv,wQ]
  rw [if_pos (by simp;omega),qda (by omega),qda (by rw [htl];omega),w64 (x:=(j:Int)+1) (by omega) (by omega),hget]
  show qug _ _ _ _ _ _ (((ps.take j).map z0++ps.drop j).set j (z0 (ps.getD j (qqa qKa)))) _=_
  rw [hset]
  exact ih
def SmB (b:qca):Prop:=0≤b.1.2.2.1∧b.1.2.2.1≤1000000∧0≤b.1.2.2.2.1∧b.1.2.2.2.1≤1000000
def qFO (f t:Int) (b:qca):Bool:=decide ((if f>b.1.2.2.1 then f else b.1.2.2.1)≥(if t<b.1.2.2.1+b.1.2.2.2.1 then t else b.1.2.2.1+b.1.2.2.2.1))
theorem qOK {b:qca} (h:SmB b) (f t:Int):qSh b f t=some (qFO f t b,(f,t)):=by
 obtain ⟨h1,h2,h3,h4⟩:=h
 rw [qUs,w64 (x:=b.1.2.2.1+b.1.2.2.2.1) (by omega) (by omega)];rfl
def onR (f t:Int) (bs:List qca):List qca:=bs.filter fun b=>!qFO f t b
theorem qHB {f t:Int} {x:qca} {r:List qca} (h:qFO f t x=false):onR f t (x::r)=x::onR f t r:=by unfold onR;rw [List.filter_cons_of_pos (by rw [h];rfl)]
theorem qQH {f t:Int} {x:qca} {r:List qca} (h:qFO f t x=true):onR f t (x::r)=onR f t r:=by unfold onR;rw [List.filter_cons_of_neg (by rw [h];decide)]
theorem qBL (bs:List qca) (hl:bs.length≤100000) (hs:∀b∈bs,SmB b) (f t:Int):∀(k j:Nat),j+k=bs.length→(∃m,j≤m∧m<bs.length∧qFa bs (bs.length:Int) (j:Int) f t=some ((m:Int),(f,t))∧onR f t ((bs.drop j).take (m - j))=(bs.drop j).take (m - j)∧qFO f t (bs.getD m (qqa qpa))=true)∨
  (qFa bs (bs.length:Int) (j:Int) f t=some (-1,(f,t))∧onR f t (bs.drop j)=bs.drop j)
 |0,j,e=>by
  refine .inr ⟨by rw [qcc,if_neg (by simp;omega)],?_⟩
  rw [wI (by omega)];rfl
 |k+1,j,e=>by
  have hd:=qTa (qqa qpa:qca) (xs:=bs) (i:=j) (by omega)
  have hsx:=hs _ hd.2.2
  have ih:=qBL bs hl hs f t k (j+1) (by omega)
  rw [show ((j+1:Nat):Int)=(j:Int)+1 by omega] at ih
  have hun:qFa bs (bs.length:Int) (j:Int) f t=if qFO f t (bs.getD j (qqa qpa))=true then some ((j:Int),(f,t)) else qFa bs (bs.length:Int) ((j:Int)+1) f t:=by
   rw [qcc]
   simp only [wj,wv]
   rw [if_pos (by simp;omega),qda (by omega),qda (by omega),qOK hsx,wq,w64 (x:=(j:Int)+1) (by omega) (by omega)]
  rw [hun,hd.1]
  generalize hgx:bs.getD j (qqa qpa)=x at*
  cases hx:qFO f t x with
  |false=>
   rw [if_neg (by decide)]
   rcases ih with ⟨m,h1,h2,h3,h4,h5⟩|⟨h3,h4⟩
   ·refine .inl ⟨m,by omega,h2,h3,?_,h5⟩
    rw [show m - j=(m - (j+1))+1 by omega,List.take_succ_cons,qHB hx,h4]
   ·exact .inr ⟨h3,by rw [qHB hx,h4]⟩
  |true=>
   rw [if_pos rfl]
   exact .inl ⟨j,wt _,by omega,rfl,by rw [wQa];rfl,by rw [hgx];exact hx⟩
theorem qKG (f t:Int) (n:Nat) (hn:n≤100000):∀(k j m:Nat) (h0:List qca),n≤h0.length→j+k=n→m<j→(∀b∈h0.take n,SmB b)→
  ∃n' h',qRa 0 n (m:Int) (j:Int) h0 f t=some ((0,n'),(h',(f,t)))∧h'.take n'=h0.take m++onR f t ((h0.take n).drop j)
 |0,j,m,h0,hl,e,hm,hs=>by
  refine ⟨m,qKb h0 m (wo (n - m) (qqa qpa)),?_,?_⟩
  ·rw [qWb,if_neg (by simp;omega),qda (by omega),qda (by simp;omega),qda (by omega),qda (by simp;omega)]
   simp only [wv,wRa,wQ]
  rw [wI (by rw [wP];omega)]
  unfold qKb
  rw [wy,wLa (by rw [wP];omega),List.take_take,Nat.min_self]
  exact (wS _).symm
 |k+1,j,m,h0,hl,e,hm,hs=>by
  have hd:=qTa (qqa qpa:qca) (xs:=h0.take n) (i:=j) (by rw [wP];omega)
  have hg:(h0.take n).getD j (qqa qpa)=h0.getD j (qqa qpa):=by
   simp only [wu,List.getElem?_take];rw [if_pos (by omega)]
  rw [hg] at hd
  have hsx:=hs _ hd.2.2
  rw [qWb]
  simp only [wj,wv,wQ]
  rw [if_pos (by simp;omega),qda (by omega),qda (by omega),qOK hsx,wq,w64 (x:=(j:Int)+1) (by omega) (by omega),w64 (x:=(m:Int)+1) (by omega) (by omega),hd.1]
  generalize hx0:h0.getD j (qqa qpa)=x at*
  cases hx:qFO f t x with
  |false=>
   rw [if_pos (show (!false)=true from rfl),qda (by omega),qda (by omega)]
   have hst:(h0.set m x).take n=(h0.take n).set m x:=List.take_set ..
   obtain ⟨n',h',h1,h2⟩:=qKG f t n hn k (j+1) (m+1) (h0.set m x) (by rw [wia];exact hl) (by omega) (by omega) (fun b hb=>by
    rw [hst] at hb
    rcases List.mem_or_eq_of_mem_set hb with hb|rfl
    ·exact hs b hb
    ·exact hsx)
   rw [show ((j+1:Nat):Int)=(j:Int)+1 by omega,show ((m+1:Nat):Int)=(m:Int)+1 by omega] at h1
   refine ⟨n',h',h1,?_⟩
   have ht:(h0.set m x).take (m+1)=h0.take m++[x]:=by
    rw [List.take_set,List.take_add_one,wx (by omega)]
    rw [wfb _ _ (by rw [wP];omega),wP,Nat.min_eq_left (by omega),wQa];rfl
   rw [h2,qHB hx,hst,List.drop_set_of_lt (by omega),ht,wy];rfl
  |true=>
   rw [if_neg (show ¬((!true)=true) by decide)]
   obtain ⟨n',h',h1,h2⟩:=qKG f t n hn k (j+1) m h0 hl (by omega) (by omega) hs
   rw [show ((j+1:Nat):Int)=(j:Int)+1 by omega] at h1
   exact ⟨n',h',h1,by rw [h2,qQH hx]⟩
theorem quF {n:Nat} (hn:n≤100000) {h0:List qca} (hl:n≤h0.length) (hs:∀b∈h0.take n,SmB b) (f t:Int):∃n' h',qyb 0 n h0 f t=some ((0,n'),(h',(f,t)))∧h'.take n'=onR f t (h0.take n):=by
 have hln:(h0.take n).length=n:=by rw [wP];omega
 have hi:qDb (wK n (wW 0 h0)) f t=qFa (h0.take n) ((h0.take n).length:Int) ((0:Nat):Int) f t:=qOe (h0.take n) f t
 rw [qEe,hi]
 rcases qBL (h0.take n) (by omega) hs f t (h0.take n).length 0 (by omega) with ⟨m,h1,h2,h3,h4,hx⟩|⟨h3,h4⟩
 ·simp only [wca,wRa] at h4
  rw [hln] at h2
  obtain ⟨n',h',g1,g2⟩:=qKG f t n hn (n - (m+1)) (m+1) m h0 hl (by omega) (by omega) hs
  rw [show ((m+1:Nat):Int)=(m:Int)+1 by omega] at g1
  have hd:=qTa (qqa qpa:qca) (xs:=h0.take n) (i:=m) (by omega)
  refine ⟨n',h',?_,?_⟩
  ·rw [h3,wq,if_neg (by simp),w64 (x:=(m:Int)+1) (by omega) (by omega)]
   exact g1
  ·rw [g2]
   conv=>rhs;rw [←List.take_append_drop m (h0.take n),hd.1]
   have ht:(h0.take n).take m=h0.take m:=by rw [List.take_take,Nat.min_eq_left (by omega)]
   have hap:∀a b:List qca,onR f t (a++b)=onR f t a++onR f t b:=fun a b=>List.filter_append ..
   rw [hap,h4,qQH hx,ht]
 ·simp only [wca] at h4
  refine ⟨n,h0,?_,h4.symm⟩
  rw [h3]
  exact Tot.eq (ue rfl (ux rfl (ub rfl)))
def loR (f o:Int):Int:=if 0>f - o then 0 else f - o
def hiR (t o n:Int):Int:=if n<t - o then n else t - o
def qpI (f t:Int) (p:qoa):List Int:=(p.2.1.drop (loR f p.1.2.1).toNat).take ((hiR t p.1.2.1 p.2.1.length).toNat - (loR f p.1.2.1).toNat)
def InR (f t:Int) (p:qoa):Prop:=0≤f∧f≤1000000∧0≤t∧t≤1000000∧0≤p.1.2.1∧p.1.2.1≤1000000∧p.2.1.length≤1000000∧loR f p.1.2.1≤hiR t p.1.2.1 p.2.1.length
theorem quH (f t:Int) (ps:List qoa) (hl:ps.length≤10000) (hs:∀p∈ps,InR f t p):∀(k i:Nat) (out:List Int),i+k=ps.length→out.length≤1000000*i→qWe (ps.length:Int) (i:Int) f t out ps=some (out++(ps.drop i).flatMap (qpI f t),0)
 |0,i,out,e,ho=>by
  rw [qRk,if_neg (by simp;omega),wI (by omega),List.flatMap_nil,wS]
 |k+1,i,out,e,ho=>by
  have hd:=qTa (qqa qKa:qoa) (xs:=ps) (i:=i) (by omega)
  have hsx:=hs _ hd.2.2
  have ih:=fun out ho=>quH f t ps hl hs k (i+1) out (by omega) ho
  rw [show ((i+1:Nat):Int)=(i:Int)+1 by omega] at ih
  rw [qRk]
  simp only [wj,wv,wQ]
  rw [if_pos (by simp;omega),qda (by omega),qda (by omega),hd.1,wXa]
  generalize ps.getD i (qqa qKa)=x at*
  obtain ⟨h1,h2,h3,h4,h5,h6,h7,h8⟩:=hsx
  rw [w64 (x:=f - x.1.2.1) (by omega) (by omega),w64 (x:=t - x.1.2.1) (by omega) (by omega),w64 (x:=(i:Int)+1) (by omega) (by omega)]
  have hlo:0≤loR f x.1.2.1:=by unfold loR;split <;> omega
  have hhi:hiR t x.1.2.1 x.2.1.length≤x.2.1.length:=by unfold hiR;split <;> omega
  have hcl:(qpI f t x).length≤1000000:=by unfold qpI;rw [wP,wda];omega
  have qrE:(out++qpI f t x).length≤1000000*(i+1):=by rw [wm];omega
  refine Tot.eq (ua hlo (ua h8 (ua hhi (ua ?_ (ul (ih (out++qpI f t x) qrE) ?_)))))
  ·show (out++qpI f t x).length*1≤140737488355328
   omega
  ·rw [wy]
theorem qIM {ps:List qoa} {f t:Int} (hl:ps.length≤10000) (hs:∀p∈ps,InR f t p):qWe (ps.length:Int) 0 f t [] ps=some (ps.flatMap (qpI f t),0):=
 quH f t ps hl hs ps.length 0 [] (by omega) (by simp)
def Chn (i:Nat):Nat→List qoa→Prop
 |_,[]=>True
 |off,p::r=>p.1.1=(i:Int)∧p.1.2.1=(off:Int)∧p.1.2.2.1=(p.2.1.length:Int)∧0<p.2.1.length∧Chn i (off+p.2.1.length) r
def dat (qs:List qoa):List Int:=qs.flatMap fun p=>p.2.1
theorem qOr:dat []=[]:=rfl
theorem qat (p:qoa) (r:List qoa):dat (p::r)=p.2.1++dat r:=wXa
theorem qLy (p:qoa) (r:List qoa):(dat (p::r)).length=p.2.1.length+(dat r).length:=by rw [qat,wm]
def ChnL:Nat→List (List qoa)→Prop
 |_,[]=>True
 |i,q::r=>Chn i 0 q∧ChnL (i+1) r
def SzL:List qaa→List (List qoa)→Prop
 |[],[]=>True
 |r::rs,q::qs=>r.2.1=((dat q).length:Int)∧(dat q).length≤20000∧SzL rs qs
 |_,_=>False
def qBs:List qaa→List (List qoa)→Mm
 |r::rs,q::qs=>(r.1,dat q)::qBs rs qs
 |_,_=>[]
theorem qUm {α:Type} {dn tl:List α} {e d:α}:(dn++e::tl).getD dn.length d=e:=by
 rw [wu,woa (wt _),wQa];rfl
theorem qoH {α:Type} {dn tl:List α} {e f:α}:(dn++e::tl).set dn.length f=dn++f::tl:=by
 rw [wfb _ _ (wt _),wQa,wdb]
theorem qRK (nm:ByteArray) (dn:Mm) (dn8:List (List Bool)) (tl:Mm) (tl8:List (List Bool)) (h8:dn8.length=dn.length) (rest:List qoa) (n:Nat) (hn:n≤1000000):
  ∀(qs:List qoa) (pre:List Int),Chn dn.length pre.length qs→pre.length+(dat qs).length=n→
   (qtF rest (dn++(nm,pre++dat qs)::tl) (dn8++wo n true::tl8)→qtF (qs++rest) (dn++(nm,pre++wo (n - pre.length) 0)::tl) (dn8++(wo pre.length true++wo (n - pre.length) false)::tl8))∧
   putL (qs++rest) (dn++(nm,pre++wo (n - pre.length) 0)::tl)=putL rest (dn++(nm,pre++dat qs)::tl)
 |[],pre,_,hl=>by
  rw [qOr,wT,wtb] at hl
  subst hl
  rw [wQa,qOr]
  simp only [List.replicate_zero,wS,wU]
  exact ⟨id,trivial⟩
 |p::qs,pre,hc,hl=>by
  obtain ⟨c1,c2,c3,c4,c5⟩:=hc
  rw [qLy] at hl
  have ih:=qRK nm dn dn8 tl tl8 h8 rest n hn qs (pre++p.2.1) (by rw [wm];exact c5) (by rw [wm];omega)
  rw [wm] at ih
  have hM:pM p=dn.length:=by unfold pM;rw [c1];rfl
  have hO:pO p=pre.length:=by unfold pO;rw [c2];rfl
  have e0:qwP p (dn++(nm,pre++wo (n - pre.length) 0)::tl)=dn++(nm,(pre++p.2.1)++wo (n - (pre.length+p.2.1.length)) 0)::tl:=by
   unfold qwP
   rw [hM,hO,qUm,qoH,qbK (by rw [wfa];omega),List.drop_replicate,Nat.sub_sub]
  have e8:qxQ p (dn8++(wo pre.length true++wo (n - pre.length) false)::tl8)=dn8++(wo (pre.length+p.2.1.length) true++wo (n - (pre.length+p.2.1.length)) false)::tl8:=by
   unfold qxQ
   rw [hM,hO,←h8,qUm,qoH]
   have:=qbK (ys:=p.2.1.map fun _=>true) (dn:=wo pre.length true) (zs:=wo (n - pre.length) false) (by rw [wla,wfa];omega)
   rw [wfa] at this
   rw [this,List.drop_replicate,wla,Nat.sub_sub,List.map_const',List.replicate_append_replicate]
  have e9:pre++dat (p::qs)=(pre++p.2.1)++dat qs:=by rw [qat,wy]
  rw [wea,e9]
  refine ⟨fun h=>⟨⟨by rw [c1];omega,by rw [hM,wm,wB];omega,by rw [c2];omega,by rw [hO];omega,?_,?_,?_⟩,?_⟩,?_⟩
  ·rw [hM,qUm,←h8,qUm];simp
  ·rw [hM,hO,←h8,qUm];simp;omega
  ·rw [hM,hO,←h8,qUm]
   intro j h1 h2
   rw [wu,woa (by rw [wfa];exact h1),wfa,List.getElem?_replicate]
   split <;> rfl
  ·rw [e0,e8];exact ih.1 h
  ·rw [putL,e0];exact ih.2
theorem qAH:∀(qss:List (List qoa)) (rs:List qaa) (dn:Mm) (dn8:List (List Bool)),dn8.length=dn.length→ChnL dn.length qss→SzL rs qss→
  qtF qss.flatten (dn++qjd rs) (dn8++qFp (qjd rs))∧putL qss.flatten (dn++qjd rs)=dn++qBs rs qss
 |[],[],dn,dn8,h8,_,_=>by simp [qjd,qBs,putL,qtF]
 |[],_::_,_,_,_,_,h=>h.elim
 |_::_,[],_,_,_,_,h=>h.elim
 |q::qss,r::rs,dn,dn8,h8,hc,hs=>by
  obtain ⟨s1,s2,s3⟩:=hs
  have h:=qRK r.1 dn dn8 (qjd rs) (qFp (qjd rs)) h8 qss.flatten (dat q).length (by omega) q [] hc.1 (by simp)
  simp only [wU,wT,wRa,List.replicate_zero] at h
  have ih:=qAH qss rs (dn++[(r.1,dat q)]) (dn8++[wo (dat q).length true]) (by simp [h8]) (by simpa using hc.2) s3
  have e1:qjd (r::rs)=(r.1,wo (dat q).length 0)::qjd rs:=by
   show (r.1,wo r.2.1.toNat 0)::_=_
   rw [s1];rfl
  have e2:qFp (qjd (r::rs))=wo (dat q).length false::qFp (qjd rs):=by
   rw [e1]
   show wo (wo (dat q).length (0:Int)).length false::_=_
   rw [wfa];rfl
  rw [wzb,e2,e1,qBs]
  rw [wy,wy,wy] at ih
  exact ⟨h.1 ih.1,h.2.trans ih.2⟩
theorem qAs:∀{rs:List qaa} {qss:List (List qoa)},SzL rs qss→(qBs rs qss).length=rs.length
 |[],[],_=>rfl
 |[],_::_,h=>h.elim
 |_::_,[],h=>h.elim
 |_::rs,_::qss,h=>by rw [qBs,wB,wB,qAs h.2.2]
theorem Chn.at:∀{qs:List qoa} {i off:Nat},Chn i off qs→∀p∈qs,p.1.1=(i:Int)∧(off:Int)≤p.1.2.1∧0<p.1.2.2.1∧p.1.2.2.1=(p.2.1.length:Int)∧p.1.2.1+p.1.2.2.1≤(off:Int)+((dat qs).length:Int)
 |[],_,_,_,p,hp=>by cases hp
 |x::qs,i,off,⟨c1,c2,c3,c4,c5⟩,p,hp=>by
  rw [qLy]
  rcases waa.1 hp with rfl|hp
  ·exact ⟨c1,by omega,by omega,c3,by omega⟩
  ·obtain ⟨h1,h2,h3,h4,h5⟩:=Chn.at c5 p hp
   exact ⟨h1,by omega,h3,h4,by omega⟩
theorem ChnL.at:∀{qss:List (List qoa)} {rs:List qaa} {k:Nat},ChnL k qss→SzL rs qss→∀p∈qss.flatten,(k:Int)≤p.1.1∧p.1.1<(k:Int)+(rs.length:Int)∧0≤p.1.2.1∧0<p.1.2.2.1∧p.1.2.2.1=(p.2.1.length:Int)∧p.1.2.1+p.1.2.2.1≤(szs rs).getD (p.1.1.toNat - k) 0∧(szs rs).getD (p.1.1.toNat - k) 0≤20000
 |[],_,_,_,_,p,hp=>by simp at hp
 |_::_,[],_,_,h,_,_=>h.elim
 |q::qss,r::rs,k,⟨c1,c2⟩,⟨s1,s2,s3⟩,p,hp=>by
  rw [wzb,wba] at hp
  rw [wB]
  rcases hp with hp|hp
  ·obtain ⟨h1,h2,h3,h4,h5⟩:=Chn.at c1 p hp
   rw [h1]
   have e:(szs (r::rs)).getD ((k:Int).toNat - k) 0=r.2.1:=by rw [wv,wQa];rfl
   rw [e]
   exact ⟨by omega,by omega,by omega,h3,h4,by omega,by omega⟩
  ·obtain ⟨h1,h2,h3,h4,h5,h6,h7⟩:=ChnL.at c2 s3 p hp
   have e:(szs (r::rs)).getD (p.1.1.toNat - k) 0=(szs rs).getD (p.1.1.toNat - (k+1)) 0:=by
    rw [show p.1.1.toNat - k=(p.1.1.toNat - (k+1))+1 by omega];rfl
   rw [e]
   exact ⟨by omega,by omega,h3,h4,h5,h6,h7⟩
theorem qny {i:Int} {ys:List qea} {e:Int}:∀{xs:List qea},(∀p∈xs,p.1≠i)→(qqG i (xs++ys) e↔qqG i ys e)
 |[],_=>Iff.rfl
 |x::xs,h=>by
  rw [wea,qqG,if_pos (h x (wZ ..))]
  exact qny fun p hp=>h p (wR _ hp)
theorem qdI {i:Nat} {ys:List qea}:∀{qs:List qoa} {off:Nat},Chn i off qs→(qqG (i:Int) (qs.map (·.1)++ys) (off:Int)↔qqG (i:Int) ys ((off+(dat qs).length:Nat):Int))
 |[],off,_=>by simp [qOr]
 |x::qs,off,⟨c1,c2,c3,c4,c5⟩=>by
  rw [wL,wea,qqG,if_neg (by rw [c1];exact fun h=>h rfl),c2,c3,if_pos (by omega),qLy]
  have:=qdI (ys:=ys) c5
  rw [show (off:Int)+(x.2.1.length:Int)=((off+x.2.1.length:Nat):Int) by omega,this,Nat.add_assoc]
  exact ⟨fun h=>h.2,fun h=>⟨wVa _,h⟩⟩
theorem qIL:∀{qss:List (List qoa)} {rs:List qaa} {k:Nat},ChnL k qss→SzL rs qss→∀i:Nat,i<rs.length→qqG ((k+i:Nat):Int) (qss.flatten.map (·.1)++[(((k+i:Nat):Int),((szs rs).getD i 0,(0,())))]) 0
 |[],[],_,_,_,i,h=>by simp at h
 |[],_::_,_,_,h,_,_=>h.elim
 |_::_,[],_,_,h,_,_=>h.elim
 |q::qss,r::rs,k,⟨c1,c2⟩,⟨s1,s2,s3⟩,i,hi=>by
  rw [wzb,wEa,wy]
  cases i with
  |zero=>
   rw [wtb]
   rw [show (0:Int)=((0:Nat):Int) from rfl,qdI c1,qny (fun p hp=>by
    obtain ⟨x,hx,rfl⟩:=wY.1 hp
    have:=(ChnL.at c2 s3 x hx).1
    omega)]
   rw [qqG,if_neg (fun h=>h rfl)]
   refine ⟨?_,trivial⟩
   show r.2.1≤_
   rw [s1];omega
  |succ i=>
   rw [qny (fun p hp=>by
    obtain ⟨x,hx,rfl⟩:=wY.1 hp
    have:=(Chn.at c1 x hx).1
    omega)]
   have ih:=qIL c2 s3 i (by simpa using hi)
   rw [show k+1+i=k+(i+1) by omega] at ih
   exact ih
theorem qeQ {qss:List (List qoa)} {rs:List qaa} (hc:ChnL 0 qss) (hs:SzL rs qss):Cov (szs rs) (qss.flatten.map (·.1)):=fun i hi=>by
 have:=qIL hc hs i (by rwa [qgg] at hi)
 rwa [wQ] at this
theorem qxO:∀{qs:List qoa} {i off:Nat},Chn i off qs→(qs.map (·.1)).Pairwise leP
 |[],_,_,_=>List.Pairwise.nil
 |x::qs,i,off,⟨c1,c2,c3,c4,c5⟩=>by
  rw [wL,List.pairwise_cons]
  refine ⟨fun p hp=>?_,qxO c5⟩
  obtain ⟨y,hy,rfl⟩:=wY.1 hp
  have:=Chn.at c5 y hy
  exact .inr ⟨by omega,by omega⟩
theorem qxH:∀{qss:List (List qoa)} {rs:List qaa} {k:Nat},ChnL k qss→SzL rs qss→(qss.flatten.map (·.1)).Pairwise leP
 |[],_,_,_,_=>List.Pairwise.nil
 |_::_,[],_,_,h=>h.elim
 |q::qss,r::rs,k,⟨c1,c2⟩,⟨s1,s2,s3⟩=>by
  rw [wzb,wEa,List.pairwise_append]
  refine ⟨qxO c1,qxH c2 s3,fun a ha b hb=>?_⟩
  obtain ⟨x,hx,rfl⟩:=wY.1 ha
  obtain ⟨y,hy,rfl⟩:=wY.1 hb
  have h1:=(Chn.at c1 x hx).1
  have h2:=(ChnL.at c2 s3 y hy).1
  exact .inl (by omega)
theorem qKM {l:List qea} (h:l.Pairwise leP):Ord l:=fun i j hij hj=>by
 simp only [wu,wx hj,wx (Nat.lt_of_le_of_lt hij hj),Option.getD_some]
 rcases Nat.lt_or_eq_of_le hij with h1|h1
 ·exact List.pairwise_iff_getElem.1 h i j _ hj h1
 ·subst h1;exact .inr ⟨rfl,wVa _⟩
theorem qcH {rs:List qaa} {qss:List (List qoa)} (hR:RecsOK rs) (hv:qBe rs=0) (hl:rs.length≤10000) (hc:ChnL 0 qss) (hs:SzL rs qss) (hps:qss.flatten.length≤600)
  (hso:qQa (qss.flatten.map (·.1))=some (qss.flatten.map (·.1))) (hb:∀q∈qss,Bts (dat q)):
  qWc rs qss.flatten=some (if qxw rs (qdh (a:= .str) (e:= .int .u8) (qBs rs qss)) rs.length 0=true then (qdh (a:= .str) (e:= .int .u8) (qBs rs qss),0) else ([],22)):=by
 have hsz:∀(rs:List qaa) (qss:List (List qoa)),SzL rs qss→∀r∈rs,0≤r.2.1∧r.2.1≤20000:=by
  intro rs
  induction rs with
  |nil=>intro _ _ r hr;cases hr
  |cons r rs ih=>
   intro qss h x hx
   cases qss with
   |nil=>exact h.elim
   |cons q qss=>
    rcases waa.1 hx with rfl|hx
    ·have:=h.1;have:=h.2.1;omega
    ·exact ih qss h.2.2 x hx
 have hpa:=qAH qss rs [] [] rfl hc hs
 simp only [wU] at hpa
 have hat:=fun p hp=>ChnL.at hc hs p hp
 have hmm:∀(rs:List qaa) (qss:List (List qoa)),SzL rs qss→(∀q∈qss,Bts (dat q))→∀m∈qBs rs qss,Bts m.2∧m.2.length≤20000:=by
  intro rs
  induction rs with
  |nil=>intro qss h _ m hm;cases qss <;> simp [qBs] at hm
  |cons r rs ih=>
   intro qss h hb m hm
   cases qss with
   |nil=>exact h.elim
   |cons q qss=>
    rw [qBs] at hm
    rcases waa.1 hm with rfl|hm
    ·exact ⟨hb q (wZ ..),h.2.1⟩
    ·exact ih qss h.2.2 (fun q hq=>hb q (wR _ hq)) m hm
 have h:=qXJ (rs:=rs) (ps:=qss.flatten) hR hv hl (hsz rs qss hs) hps (fun p hp=>by
  obtain ⟨h1,h2,h3,h4,h5,h6,h7⟩:=hat p hp
  rw [wRa] at h6 h7
  exact ⟨⟨by omega,by rw [qgg];omega,h3,h4,h6,by omega⟩,h5.symm⟩) hpa.1 hso (fun p hp=>by
  obtain ⟨h1,h2,h3,h4,h5,h6,h7⟩:=hat p hp
  exact ⟨h3,by omega,by omega,by omega⟩) (qeQ hc hs) (by rw [hpa.2];exact qAs hs) (by rw [hpa.2];exact hmm rs qss hs hb)
 rw [hpa.2] at h
 exact h
structure Opn (a:List Int) (l:qza) (bs:List qca):Prop where
 op:qid a=some (l,(bs,0))
 lv:0≤l.1.1∧l.1.1≤7
 st:∀b∈bs,StB b
 ln:bs.length≤600
 rk:RecsOK l.2.1
 vl:qBe l.2.1=0
 rn:l.2.1.length≤16
theorem qWF {a1 a2:Int} {z:List Int}:qMK (qen a1 a2 z)=(z,0):=if_pos rfl
theorem qwx {i:Int} {bs:List qca} {b:qca} (h:b∈ofM i bs):b∈bs:=(List.mem_filter.1 h).1
theorem qjL {f t:Int} {bs:List qca} {b:qca} (h:b∈onR f t bs):b∈bs:=(List.mem_filter.1 h).1
section
variable {a:List Int} {l:qza} {bs:List qca}
theorem Opn.parts (o:Opn a l bs) {cs:List qca} (hc:∀b∈cs,b∈bs) (hl:cs.length≤10000):qVb l.1.1 cs=some (qfS (qpN cs)):=qfJ _ o.lv cs hl fun b hb=>o.st b (hc b hb)
theorem Opn.some {ps:List qoa} (o:Opn a l bs) (h:qpN bs=some ps):qTb a=qWc l.2.1 ps:=by
 have hp:=o.parts (cs:=bs) (fun b hb=>hb) (by have:=o.ln;omega)
 rw [h] at hp
 rw [qif,o.op,wq]
 refine (if_neg (show ¬((0:Int) != 0)=true by decide)).trans ?_
 show (qVb l.1.1 bs).bind _=_
 rw [hp,wq]
 refine (if_neg (show ¬((0:Int) != 0)=true by decide)).trans ?_
 show (qWc l.2.1 ps).bind _=_
 cases qWc l.2.1 ps <;> rfl
def zM:qva:=(wD,([],()))
theorem qOA {nm:ByteArray}:∀{rs:List qaa} {i j:Nat},nmI nm rs i=Option.some j→i≤j∧j<i+rs.length
 |[],i,j,h=>by cases h
 |r::rs,i,j,h=>by
  rw [nmI] at h
  split at h
  ·cases h;simp
  ·have:=qOA h
   rw [wB];omega
end
noncomputable def qkS (rs:List qaa) (X:List qca):Option (List Int):=(qjf ((0:Int),((16:Int),())) rs).bind fun r2=>(qZf r2 X).bind fun r3=>some r3
theorem qjP (l:List qva) (hl:l.length≤16) (i:Nat) (hi:i<l.length) (hn:(qyo l i).length≤8192) (rs:List qaa):∀(k:Nat) (off:Int) (h9:List qca),((qyo l i).length:Int) - off≤16*(k:Int)→0≤off→off≤200000 - 16*(k:Int)→h9.length+k≤1000000→
  qyd l (i:Int) off rs h9=quc l ((i:Int)+1) rs (h9++(pcs (i:Int) (qyo l i).length 16 k off).map (stB (qyo l))):=by
 intro k
 induction k with
 |zero=>
  intro off h9 e h0 h1 h2
  rw [qDg,qda (by omega),qda (by simp;omega)]
  have hm:(l.getD i (qqa qua)).2.1=qyo l i:=rfl
  simp only [wv,wj,hm,decide_eq_true_eq]
  rw [if_neg (by omega),w64 (by omega) (by omega),pcs,wua,wS]
 |succ k ih=>
  intro off h9 e h0 h1 h2
  rw [qDg,qda (by omega),qda (by simp;omega)]
  have hm:(l.getD i (qqa qua)).2.1=qyo l i:=rfl
  simp only [wv,wj,hm,decide_eq_true_eq]
  rw [w64 (x:=off+16) (by omega) (by omega),pcs]
  by_cases ho:off<((qyo l i).length:Int)
  ·have ih:=fun h9 h2=>ih (off+16) h9 (by omega) (by omega) (by omega) h2
   rw [if_pos ho,if_pos ho]
   have hz:(if off+16<((qyo l i).length:Int) then off+16 else ((qyo l i).length:Int)).toNat - off.toNat=(if (16:Int)<((qyo l i).length:Int) - off then (16:Int) else ((qyo l i).length:Int) - off).toNat:=by
    split <;> split <;> omega
   rw [hz]
   have hzl:((qyo l i).drop off.toNat).length≤8192:=by rw [wda];omega
   have hmd:=qOM (a1:=(i:Int)) (a2:=off) (z:=((qyo l i).drop off.toNat).take (if (16:Int)<((qyo l i).length:Int) - off then (16:Int) else ((qyo l i).length:Int) - off).toNat) (by rw [wP];split <;> omega)
   rw [qda (by omega),qda (by omega),qda (by omega),qda (by omega),qda (by omega),qda (by split <;> omega),qda (by split <;> omega),hmd,wq,qda (by rw [wm,wC];omega),ih _ (by rw [wm,wC];omega),wy]
   rfl
  ·rw [if_neg ho,if_neg ho,wua,wS,w64 (by omega) (by omega)]
theorem qpK (l:List qva) (hl:l.length≤16) (hn:∀i,(qyo l i).length≤8192) (rs:List qaa):∀(k i:Nat) (h9:List qca),i+k=l.length→h9.length≤10000*i→
  quc l (i:Int) rs h9=qkS rs (h9++(ap 16 (i:Int) ((recs l).drop i)).map (stB (qyo l)))
 |0,i,h9,e,h1=>by
  rw [qEg,if_neg (by simp;omega),wI (by rw [qtl];omega),ap,wua,wS]
  rfl
 |k+1,i,h9,e,h1=>by
  have hd:=qTa (qqa qfa:qaa) (xs:=recs l) (i:=i) (by rw [qtl];omega)
  have hg:=qyB l i (by omega)
  have hsz:((recs l).getD i (qqa qfa)).2.1=((qyo l i).length:Int):=by rw [hg];rfl
  have hpl:=qLt (i:Int) ((qyo l i).length:Int) 16 (by omega) 8200 0 (by omega) (by omega)
  have hni:=hn i
  have ih:=qpK l hl hn rs k (i+1) (h9++(pcs (i:Int) (qyo l i).length 16 8200 0).map (stB (qyo l))) (by omega) (by rw [wm,wla];omega)
  rw [show ((i+1:Nat):Int)=(i:Int)+1 by omega] at ih
  rw [qEg,if_pos (by simp;omega),qjP l hl i (by omega) (hn i) rs 8200 0 h9 (by omega) (by omega) (by omega) (by omega),ih,hd.1,ap,hsz,wEa,wy]
theorem qhD (l:List qva) (hM:MemsOK l) (hc:mck l=0) (ht:tot (recs l)≤80):qZb l=some (qDM (qyo l) (recs l)):=by
 obtain ⟨h,hn,hs⟩:=qWO hM hc
 have hV:=qNc h.val
 have hlen:=h.len ht
 have hh:=qXF sA (recs l) hV h.sums
 have hhl:(qLk sA (recs l)).length=28+(qDc (recs l)).length:=qjw
 have hbw:∀b∈(psA (recs l)).map (stB (qyo l)),bWf b∧b.2.1.length≤5000:=fun b hb=>by
  obtain ⟨p,hp,rfl⟩:=wY.1 hb
  obtain ⟨a,b,c,d,f,g⟩:=h.piece hp
  exact ⟨qvt _ _ _,by have:=c.2.2.2.1;show (ptD (qyo l) p).2.1.length≤5000;omega⟩
 have hj:=qPM ((psA (recs l)).map (stB (qyo l))) hbw (by rw [wla];omega) ((psA (recs l)).map (stB (qyo l))).length 0 (qLk sA (recs l)) (by omega) (by omega)
 have hJ:qZf (qLk sA (recs l)) ((psA (recs l)).map (stB (qyo l)))=some (qDM (qyo l) (recs l)):=by
  rw [quq,wU]
  refine Tot.eq (ua (by omega) (ul hj ?_))
  rw [wca];rfl
 have hml:∀i,(qyo l i).length≤8192:=fun i=>by
  by_cases hi:i<(recs l).length
  ·have h1:=h.sz i hi
   have hm:(recs l).getD i (qqa qfa)∈recs l:=qOa (P:=fun r=>r∈recs l) (fun r hr=>hr) i hi
   have h2:=(hV.each _ hm).2.1
   omega
  ·have:qyo l i=[]:=by
    unfold qyo
    rw [wu,List.getElem?_eq_none (by rw [qtl] at hi;omega)]
    rfl
   rw [this];exact Nat.zero_le _
 have h1:=qpK l hn hml (recs l) l.length 0 [] (by omega) (by simp)
 rw [wca,wU] at h1
 have h2:qkS (recs l) ((ap 16 ((0:Nat):Int) (recs l)).map (stB (qyo l)))=some (qDM (qyo l) (recs l)):=Tot.eq (ue hh (ue hJ (ub rfl)))
 rw [qxo]
 exact Tot.eq (ue (qLM l hM hc) (ul (h1.trans h2) rfl))
theorem qsP (a:List Int):rdK a=rdB a:=rfl
theorem qAA {a:List Int} {e:Nat}:∀{hs:List qga} {bs:List qca} {p:Nat},Std a e p hs bs→(plc (p:Int) hs).map (fun x=>(rdK (a.drop x.toNat)).1)=bs∧(∀x∈plc (p:Int) hs,0≤x∧x≤(a.length:Int))∧bs.map (·.1)=hs
 |[],[],p,h=>⟨rfl,fun x hx=>(by cases hx),rfl⟩
 |[],_::_,p,h=>h.elim
 |_::_,[],p,h=>h.elim
 |g::hs,x::bs,p,⟨h1,h2,h3,h4,h5⟩=>by
  have hl:=qMk h3
  obtain ⟨i1,i2,i3⟩:=qAA h5
  have e:((p+(41+g.2.2.2.2.1).toNat:Nat):Int)=(p:Int)+(41+g.2.2.2.2.1):=by omega
  rw [e] at i1 i2
  refine ⟨?_,?_,?_⟩
  ·rw [plc,wL,i1,wv,qsP,h1]
  ·intro y hy
   rw [plc] at hy
   rcases waa.1 hy with rfl|hy
   ·omega
   ·exact i2 y hy
  ·rw [wL,i3,h2]
theorem qCH:∀(hs:List qga) (a:Int),(plc a hs).length=hs.length
 |[],_=>rfl
 |_::hs,a=>by rw [plc,wB,wB,qCH hs]
theorem qqO {a:List Int} (hb:Bts a) {e:Nat}:∀{hs:List qga} {bs:List qca} {p:Nat},Std a e p hs bs→∀x∈bs,hOK x.1∧bC x=0∧Bts x.2.1
 |[],[],p,h,x,hx=>by cases hx
 |[],_::_,p,h,_,_=>h.elim
 |_::_,[],p,h,_,_=>h.elim
 |g::hs,x::bs,p,⟨h1,h2,h3,h4,h5⟩,y,hy=>by
  rcases waa.1 hy with rfl|hy
  ·obtain ⟨k1,k2,k3,k4,k5,k6,k7⟩:=qtH (c:=a.drop p) (by rw [h1])
   have e1:(rdB (a.drop p)).1=y:=by rw [h1]
   have hl:=qMk k1
   rw [k2] at k3
   have hy:y=(pH (((a.drop p).drop 13).take 28),(((a.drop p).drop 41).take (pH (((a.drop p).drop 13).take 28)).2.2.2.2.1.toNat,())):=by rw [←e1,k7]
   rw [e1] at k1 k3 hl
   have hlen:((y.2.1.length:Nat):Int)=y.1.2.2.2.2.1:=by
    have h0:y.2.1=((a.drop p).drop 41).take y.1.2.2.2.2.1.toNat:=by
     conv=>lhs;rw [hy]
     conv=>rhs;rw [hy]
    rw [h0,wP,wda]
    omega
   refine ⟨k1,?_,?_⟩
   ·unfold bC;rw [if_pos ⟨k1,hlen⟩]
   ·rw [hy];exact ((hb.drop _).drop _).take _
  ·exact qqO hb h5 y hy
theorem qEH (i n s:Int) (hs:16≤s):∀(k:Nat) (off:Int),16*((pcs i n s k off).length:Int)≤(if off<n then n - off+15 else 0)
 |0,off=>by simp only [pcs];split <;> simp;omega
 |k+1,off=>by
  have ih:=qEH i n s hs k (off+s)
  simp only [pcs]
  split
  ·rw [wB]
   split at ih <;> omega
  ·simp
theorem qZO (s:Int) (hs:16≤s):∀(rs:List qaa) (i:Int),(∀r∈rs,0≤r.2.1)→16*((ap s i rs).length:Int)≤tot rs+15*(rs.length:Int)
 |[],i,_=>by simp [ap,tot]
 |r::rs,i,h=>by
  have ih:=qZO s hs rs (i+1) fun x hx=>h x (wR _ hx)
  have h1:=qEH i r.2.1 s hs 8200 0
  have h2:=h r (wZ ..)
  rw [ap,wm,wB]
  have e:tot (r::rs)=r.2.1+tot rs:=rfl
  split at h1 <;> omega
structure Opd (a:List Int) (l:qza) (bs:List qca):Prop where
 eq:qXr a=(l,(bs,0))
 op:qid a=some (l,(bs,0))
 lv:0≤l.1.1∧l.1.1≤7
 ok:∀b∈bs,hOK b.1∧bC b=0∧Bts b.2.1
 ln:bs.length≤600
 rk:RecsOK l.2.1
 vl:qBe l.2.1=0
 sm:SumsOK l.2.1
 hd:bs.map (·.1)=l.2.2.1
 ck:lck l=0
 pl:qDn l=some (plc (28+qrE l.2.1) l.2.2.1,0)
 bk:16≤l.1.2.1∧l.1.2.1≤4096
theorem qiL {a:List Int} (hb:Bts a) (h:(qXr a).2.2=0):Opd a (qXr a).1 (qXr a).2.1:=by
 obtain ⟨rs,q,hs,bs,hO⟩:=qGM hb h
 have hV:=hO.head.recsV
 have hl:=qbO hO
 have hq:(q:Int)=qrE rs:=by
  rw [←qTo rs hO.head.read.sums,hO.head.read.bytes,wP]
  have:=hO.head.read.le
  omega
 obtain ⟨s1,s2,s3⟩:=qAA hO.std
 have hplen:=qCH hs ((28+q:Nat):Int)
 have hcnt:=qZO (sH a).2.1 hO.head.blk.1 rs 0 (fun r hr=>(hV.each r hr).1)
 have hbl:=hO.blen
 have hhl:=hO.hlen
 have h6:bs.length≤600:=by
  have:=hV.len;have:=hV.tot;omega
 have hpe:qLD (sH a,(rs,(hs,())))=plc ((28+q:Nat):Int) hs:=by
  unfold qLD
  rw [show ((28+q:Nat):Int)=28+qrE rs by omega]
 have hop:=qgL hb (l:=(sH a,(rs,(hs,())))) hO.eq hO.head.read.recs hO.head.read.sums hl (by rw [hpe];exact s2) (by rw [hpe,hplen];omega)
 rw [hpe,s1] at hop
 have hp:=qfo (sH a,(rs,(hs,()))) hO.head.read.recs hO.head.read.sums
 rw [if_pos hl] at hp
 rw [hO.eq]
 exact ⟨hO.eq,hop,(show 0≤(sH a).1∧(sH a).1≤7 by have:=hO.head.chk;unfold chk at this;split at this <;> omega),qqO hb hO.std,h6,hO.head.read.recs,hO.head.read.val,hO.head.read.sums,s3,hl,hp,hO.head.blk⟩
theorem qyN {a:List Int} (hb:Bts a) (h:(qXr a).2.2≠0):qid a=some ((((0:Int),((0:Int),())),([],([],()))),([],(qXr a).2.2)):=by
 rw [qqp,qTq a hb]
 exact Tot.eq (ue rfl (uh (fun _=>ub rfl) (fun k=>absurd k h)))
theorem qNH {s:qia} {rs:List qaa} {bs:List qca} (hc:chk s=0) (hv:qBe rs=0) (hS:SumsOK rs) (hF:Fit bs (ap s.2.1 0 rs)) (hl:(qWr s rs bs).length≤40000) (hb:Bts (qWr s rs bs)):Opd (qWr s rs bs) (s,(rs,(bs.map (·.1),()))) bs:=by
 have h:=qjF hc hv hS hF hl
 have:=qiL hb (by rw [h])
 rw [h] at this
 exact this
theorem qcR {l:List Int} (h:l.all (fun x=>decide (0≤x∧x<256))=true):Bts l:=fun x hx=>of_decide_eq_true (wra.1 h x hx)
def dN:List Int:=[48,49,50,51,52,53,54,55,56,57,97,98,99,100,101,102,88,89,90]
def lA:List qva:=[((wDa #[97]),([7,8],()))]
def rAa:List qaa:=recs lA
def b0:qca:=qen 0 0 (dN.take 16)
def b1:qca:=qen 0 16 (dN.drop 16)
def b2:qca:=qen 2 0 [33]
def kA:qca:=qen 0 0 [7,8]
def wA:List Int:=qWr sA rAa [kA]
def wE:List Int:=qWr sA [] []
theorem qjS {l:List qva} (h:l.all (fun m=>decide (m.1.size≤100)&&decide (m.2.1.length≤100)&&m.2.1.all (fun x=>decide (0≤x∧x<256)))=true):MemsOK l:=by
 have h1:∀m∈l,(m.1.size≤100∧m.2.1.length≤100)∧m.2.1.all (fun x=>decide (0≤x∧x<256))=true:=fun m hm=>by
  have:=wra.1 h m hm
  simpa [wz] using this
 exact ⟨fun m hm=>by have:=(h1 m hm).1.1;omega,fun m hm=>by have:=(h1 m hm).1.2;omega,fun m hm=>qcR (h1 m hm).2⟩
theorem stA:qZb lA=some wA:=by
 have h:=qhD lA (qjS (by decide+kernel)) (by decide+kernel) (by decide+kernel)
 have e:qDM (qyo lA) (recs lA)=wA:=by decide+kernel
 rw [e] at h;exact h
theorem stE:qZb []=some wE:=by
 have h:=qhD [] (qjS (by decide+kernel)) (by decide+kernel) (by decide+kernel)
 have e:qDM (qyo []) (recs [])=wE:=by decide+kernel
 rw [e] at h;exact h
theorem qbR:Bts wA:=qcR (by decide+kernel)
theorem qaR:Bts wE:=qcR (by decide+kernel)
theorem qsQ {rs:List qaa} (h:rs.all (fun r=>decide (r.2.2.1.length=20)&&r.2.2.1.all (fun x=>decide (0≤x∧x<256)))=true):SumsOK rs:=fun r hr=>by
 have:=wra.1 h r hr
 rw [wz,decide_eq_true_eq] at this
 exact ⟨this.1,qcR this.2⟩
theorem quS {b:qca} {p:qea} (h:bC b=0∧((0≤b.1.1∧b.1.1<256)∧b.1.2.2.2.2.2.1.length=20)∧isP b.1 p):bC b=0∧bWf b∧isP b.1 p:=h
theorem apA:ap 16 0 rAa=[(0,(0,(2,())))]:=by kernel_rfl
theorem opdA:Opd wA (sA,(rAa,([kA].map (·.1),()))) [kA]:=
 qNH (by decide) (by decide+kernel) (qsQ (by decide+kernel)) (by rw [show sA.2.1=16 from rfl,apA];exact ⟨quS (by decide+kernel),trivial⟩) (by decide+kernel) qbR
theorem opdE:Opd wE (sA,([],([],()))) []:=
 qNH (bs:=[]) (by decide) (by decide+kernel) (qsQ (by decide+kernel)) (by show Fit [] (ap 16 0 []);exact trivial) (by decide+kernel) qaR
def qQO (i:Nat):∀(off:Nat) (qs:List qoa),Decidable (Chn i off qs)
 |_,[]=>isTrue trivial
 |off,p::r=>@instDecidableAnd _ _ _ (@instDecidableAnd _ _ _ (@instDecidableAnd _ _ _ (@instDecidableAnd _ _ _ (qQO i (off+p.2.1.length) r))))
instance (i off:Nat) (qs:List qoa):Decidable (Chn i off qs):=qQO i off qs
def qlM:∀(i:Nat) (qs:List (List qoa)),Decidable (ChnL i qs)
 |_,[]=>isTrue trivial
 |i,q::r=>@instDecidableAnd _ _ _ (qlM (i+1) r)
instance (i:Nat) (qs:List (List qoa)):Decidable (ChnL i qs):=qlM i qs
def qPO:∀(rs:List qaa) (qs:List (List qoa)),Decidable (SzL rs qs)
 |[],[]=>isTrue trivial
 |_::rs,_::qs=>@instDecidableAnd _ _ _ (@instDecidableAnd _ _ _ (qPO rs qs))
 |[],_::_=>isFalse id
 |_::_,[]=>isFalse id
instance (rs:List qaa) (qs:List (List qoa)):Decidable (SzL rs qs):=qPO rs qs
theorem qvP {rs:List qaa} {qss:List (List qoa)} (hR:RecsOK rs) (hv:qBe rs=0) (hl:rs.length≤10000) (hc:ChnL 0 qss) (hs:SzL rs qss) (hps:qss.flatten.length≤12) (hb:∀q∈qss,Bts (dat q)):
  qWc rs qss.flatten=some (if qxw rs (qdh (a:= .str) (e:= .int .u8) (qBs rs qss)) rs.length 0=true then (qdh (a:= .str) (e:= .int .u8) (qBs rs qss),0) else ([],22)):=
 qcH hR hv hl hc hs (by omega) (qCI (by rw [wla];exact hps) (qKM (qxH hc hs))) hb
theorem qiN {rs:List qaa} (h:rs.all (fun r=>decide (r.1.size≤100))=true) (hl:rs.length≤100):RecsOK rs:=⟨by omega,fun r hr=>by
 have:=of_decide_eq_true (wra.1 h r hr);omega⟩
theorem qDR:qWc [] []=some ([],0):=by
 have h:=qvP (rs:=[]) (qss:=[]) (qiN (by decide+kernel) (by decide+kernel)) (by decide+kernel) (by decide+kernel) trivial trivial (by decide+kernel) (fun q hq=>by cases hq)
 exact h
theorem qiS:nmI (wDa #[97]) rAa 0=some 0:=by decide+kernel
theorem qrS:ofM (0:Nat) [kA]=[kA]:=by kernel_rfl
instance (f t:Int) (p:qoa):Decidable (InR f t p):=by unfold InR;infer_instance
theorem uz {α:Type} {c:Bool} {i:Decidable (c=true)} {x y:Option α} {Q:α→Prop} (h:c=true) (h1:Tot x Q):Tot (@ite _ (c=true) i x y) Q:=by rw [if_pos h];exact h1
theorem qcK:∀(rs:List qaa) (acc:Int) (nm:List ByteArray),vld acc nm rs=0→qXA [] (nm++names rs)=false
 |[],acc,nm,h=>by
  rw [vld] at h
  split at h
  ·cases h
  ·rw [show nm++names []=nm by unfold names;simp]
   cases hd:qXA [] nm with
   |false=>rfl
   |true=>rw [hd] at h;cases h
 |r::rs,acc,nm,h=>by
  rw [vld] at h
  split at h
  ·cases h
  ·have:=qcK rs _ _ h
   rw [wy] at this
   exact this
theorem qYL:∀(l seen:List ByteArray),qXA seen l=false→l.Pairwise (·≠·)∧∀x∈l,∀y∈seen,x≠y
 |[],seen,_=>⟨List.Pairwise.nil,fun x hx=>by cases hx⟩
 |x::l,seen,h=>by
  rw [qXA,Bool.or_eq_false_iff] at h
  obtain ⟨h1,h2⟩:=qYL l (seen++[x]) h.2
  have h3:∀y∈seen,x≠y:=fun y hy e=>by
   have:=List.any_eq_false.1 h.1 y hy
   simp [e] at this
  refine ⟨List.pairwise_cons.2 ⟨fun y hy e=>?_,h1⟩,fun y hy z hz=>?_⟩
  ·exact h2 y hy x (by simp) e.symm
  ·rcases waa.1 hy with rfl|hy
   ·exact h3 z hz
   ·exact h2 y hy z (List.mem_append_left _ hz)
theorem qWD {d:qaa}:∀(rs:List qaa) (i0 k:Nat),(names rs).Pairwise (·≠·)→k<rs.length→nmI (rs.getD k d).1 rs i0=some (i0+k)
 |[],_,_,_,h=>by cases h
 |r::rs,i0,0,_,_=>by
  rw [nmI,wpb,if_pos rfl];rfl
 |r::rs,i0,k+1,hp,h=>by
  have hp':(r.1::names rs).Pairwise (·≠·):=hp
  rw [List.pairwise_cons] at hp'
  have hk:k<rs.length:=by simpa using h
  have hm:(rs.getD k d).1∈names rs:=by
   unfold names
   exact wY.2 ⟨_,qOa (P:=fun x=>x∈rs) (fun x hx=>hx) k hk,rfl⟩
  rw [nmI,List.getD_cons_succ,if_neg (fun e=>hp'.1 _ hm (toList_inj e)),qWD rs (i0+1) k hp'.2 hk]
  congr 1;omega
theorem qEQ {rs:List qaa} (hv:qBe rs=0) {k:Nat} (hk:k<rs.length):nmI (rs.getD k (qqa qfa)).1 rs 0=some k:=by
 unfold qBe at hv
 split at hv
 ·cases hv
 ·have h:=qWD (d:=qqa qfa) rs 0 k (qYL _ _ (qcK rs 0 [] hv)).1 hk
  rw [wQ] at h
  exact h
def pcB (b:qca):qea:=(b.1.2.1,(b.1.2.2.1,(b.1.2.2.2.1,())))
theorem un {α:Type} {c:Prop} {i:Decidable c} {x y:Option α} {Q:α→Prop} (h:c) (h1:Tot x Q):Tot (@ite _ c i x y) Q:=by rw [if_pos h];exact h1
theorem uv {α:Type} {c:Prop} {i:Decidable c} {x y:Option α} {Q:α→Prop} (h:¬c) (h1:Tot y Q):Tot (@ite _ c i x y) Q:=by rw [if_neg h];exact h1
end Go.Ab

/-
  Extracting, whatever the blocks' modes: what Extract, One and Range answer where an archive was opened.
-/
set_option linter.unusedVariables false
set_option linter.unusedSimpArgs false
set_option maxRecDepth 100000
namespace Go.Ab
open Go
attribute [local irreducible] IntKind.wrap
theorem qsL {α β:Type} {f:α→β} {xs:List α} {i:Nat} {d:α} {e:β} (h:i<xs.length):(xs.map f).getD i e=f (xs.getD i d):=by
 rw [wu,wxa,wx h,wu,wx h];rfl
theorem qKy:∀(qs:List qoa),dat (qs.map z0)=dat qs
 |[]=>rfl
 |q::qs=>by rw [wL,qat,qat,qKy qs];rfl
theorem qdK:∀(rs:List qaa) (acc:Int) (nm:List ByteArray),vld acc nm rs=0→∀r∈rs,qeB r=false
 |[],_,_,_,r,hr=>by cases hr
 |x::rs,acc,nm,h,r,hr=>by
  rw [vld] at h
  by_cases hb:qeB x=true
  ·rw [if_pos hb] at h;cases h
  ·rw [if_neg hb] at h
   rcases waa.1 hr with rfl|hr
   ·simpa using hb
   ·exact qdK rs _ _ h r hr
theorem qfK {rs:List qaa} (hv:qBe rs=0) {r:qaa} (hr:r∈rs):qBe [r]=0:=by
 have hV:=(qNc hv).each r hr
 unfold qBe at hv
 split at hv
 ·cases hv
 ·have hb:=qdK rs 0 [] hv r hr
  unfold qBe
  rw [if_neg (by simp),vld,if_neg (by rw [hb];decide),vld,if_neg (by omega),if_neg (by simp [qXA,qeE])]
theorem qgB {h:qga} (hm:0≤h.1∧h.1<256) {z:List Int} (hb:Bts z) (hl:z.length≤19000):Tot (qtj h z) fun _=>True:=by
 rw [qjp]
 exact ue (qre h) (uh (fun _=>ub trivial) (fun _=>uk (fun _=>ue (qFl h hm z hb hl) (ub trivial)) (fun _=>ub trivial)))
theorem qjR (l:Int) {b:qca} (hm:0≤b.1.1∧b.1.1<256) (hb:Bts b.2.1):Tot (qxg l b) fun r=>Bts r.1∧(r.2=0→(r.1.length:Int)=b.1.2.2.2.1):=by
 have no:∀e:Int,e≠0→Bts (([]:List Int),e).1∧((([]:List Int),e).2=0→((([]:List Int),e).1.length:Int)=b.1.2.2.2.1):=fun e he=>⟨Bts.nil,fun k=>absurd k he⟩
 rw [qcv]
 refine ue (qoo b) (uh (fun k=>ub (no _ k)) (fun hc=>?_))
 have ok:hOK b.1∧(b.2.1.length:Int)=b.1.2.2.2.2.1:=by
  unfold bC at hc;split at hc
  ·assumption
  ·cases hc
 have hlen:=qMk ok.1
 have hraw:1≤b.1.2.2.2.1∧b.1.2.2.2.1≤4096:=⟨ok.1.2.2.1,ok.1.2.2.2.1⟩
 have hmd:=ok.1.2.2.2.2.2.2
 refine ue (qUu l) (um (fun _=>ub (no _ (by decide))) (fun _=>ue (qhk _ (by omega)) (uk (fun _=>?_) (fun hn2=>?_))))
 ·refine Tot.b (qsA l hb _) (fun r hr=>uh (fun _=>ub (no _ (by decide))) (fun k=>Tot.b (qrA l r.1) (fun s hs=>uh (fun _=>ub (no _ (by decide))) (fun _=>?_))))
  have h2:=hr.2 k
  refine Tot.b (P:=fun _=>True) (by rw [qwm];exact ub trivial) (fun t _=>um (fun _=>ub (no _ (by decide))) (fun _=>Tot.b (qgB hm hr.1 (by omega)) (fun u _=>um (fun _=>ub (no _ (by decide))) (fun _=>ub ⟨hr.1,fun _=>h2⟩))))
 ·exact Tot.b (qgB hm hb (by omega)) (fun u _=>um (fun _=>ub (no _ (by decide))) (fun _=>ub ⟨hb,fun _=>hmd.elim (fun k=>ok.2.trans k.2) (fun k=>absurd k.1 hn2)⟩))
section
variable (raw:qca→List Int×Int)
def qiQ:List qca→Nat→List qma
 |[],_=>[]
 |b::r,i=>((i:Int),((raw b).1,((raw b).2,())))::qiQ r (i+1)
def qUM (b:qca):qoa:=((b.1.2.1,(b.1.2.2.1,(b.1.2.2.2.1,()))),((raw b).1,()))
def qPg:List qca→List qoa×Int
 |[]=>([],0)
 |b::r=>if (raw b).2≠0 then ([],(raw b).2) else if (qPg r).2≠0 then ([],(qPg r).2) else (qUM raw b::(qPg r).1,0)
theorem qEm:∀{bs:List qca},(∀b∈bs,(raw b).2=0)→qPg raw bs=(bs.map (qUM raw),0)
 |[],_=>rfl
 |b::r,h=>by
  rw [qPg,if_neg (fun k=>k (h b (wZ ..))),qEm fun x hx=>h x (wR _ hx),if_neg (fun k=>k rfl)]
  rfl
theorem qBH:∀{bs:List qca},(qPg raw bs).2=0→∀b∈bs,(raw b).2=0
 |[],_,b,hb=>by cases hb
 |x::r,h,b,hb=>by
  rw [qPg] at h
  by_cases hx:(raw x).2=0
  ·rw [if_neg (fun k=>k hx)] at h
   by_cases hr:(qPg raw r).2=0
   ·rcases waa.1 hb with rfl|hb
    ·exact hx
    ·exact qBH hr b hb
   ·rw [if_pos hr] at h;exact absurd h hr
  ·rw [if_pos hx] at h;exact absurd h hx
theorem qND (bs:List qca) (n8:Nat) (hl:bs.length≤10000):∀(k i:Nat) (dn:List qoa),i+k=bs.length→dn.length=i→
  qUc bs (bs.length:Int) (i:Int) n8 (qiQ raw (bs.drop i) i) (dn++wo k (qqa qKa))=some (if (qPg raw (bs.drop i)).2≠0 then ([],(qPg raw (bs.drop i)).2) else (dn++(qPg raw (bs.drop i)).1,0))
 |0,i,dn,e,hd=>by
  rw [qIe,if_neg (by simp;omega),wI (by omega)]
  rfl
 |k+1,i,dn,e,hdn=>by
  have hd:=qTa (qqa qpa:qca) (xs:=bs) (i:=i) (by omega)
  have ih:=fun dn hdn=>qND bs n8 hl k (i+1) dn (by omega) hdn
  rw [show ((i+1:Nat):Int)=(i:Int)+1 by omega] at ih
  rw [qIe,hd.1]
  simp only [qiQ,wj,wv,wQ,wpb,List.drop_succ_cons,wca]
  rw [w64 (x:=(i:Int)+1) (by omega) (by omega)]
  generalize bs.getD i (qqa qpa)=x at*
  have hset:∀y:qoa,(dn++wo (k+1) (qqa qKa)).set i y=(dn++[y])++wo k (qqa qKa):=fun y=>by
   rw [wfb _ _ (by omega),hdn,wQa,wIa,wdb,wy];rfl
  rw [hset]
  refine Tot.eq (uf (by omega) (ua (by simp) (uh (fun h=>ub ?_) (fun h=>ua (by omega) (ua (by omega) (ua (by omega) (ua (by simp [hdn];omega) (ul (ih _ (by simp [hdn])) ?_))))))))
  ·rw [qPg,if_pos h,if_pos h]
  ·have e0:qPg raw (x::bs.drop (i+1))=if (qPg raw (bs.drop (i+1))).2≠0 then ([],(qPg raw (bs.drop (i+1))).2) else (qUM raw x::(qPg raw (bs.drop (i+1))).1,0):=by rw [qPg,if_neg (fun k=>k h)]
   by_cases hr:(qPg raw (bs.drop (i+1))).2=0
   ·have e1:=e0.trans (if_neg (fun k=>k hr))
    rw [e1,if_neg (fun k=>k hr)]
    refine Eq.trans ?_ (if_neg (show ¬((0:Int)≠0) from fun k=>k rfl)).symm
    rw [wy];rfl
   ·have e1:=e0.trans (if_pos hr)
    rw [e1,if_pos hr]
    exact (if_pos hr).symm
theorem qOD (lv:Int) (bs:List qca) (hl:bs.length≤10000) (hs:∀b∈bs,qxg lv b=some (raw b)):∀(k i:Nat),i+k=bs.length→
  ∀(h8:List qma),h8.length=i→qVe lv bs bs (bs.length:Int) (i:Int) bs.length h8=qUc bs (bs.length:Int) 0 bs.length (h8++qiQ raw (bs.drop i) i) (wo bs.length (qqa qKa))
 |0,i,e,h8,h=>by
  rw [qJe,if_neg (by simp;omega),wI (by omega),qiQ,wS]
  simp only [wj]
  rw [qda trivial,qda (by omega),qda (by omega),qda (by omega)]
 |k+1,i,e,h8,h=>by
  have hd:=qTa (qqa qpa:qca) (xs:=bs) (i:=i) (by omega)
  have ih:=qOD lv bs hl hs k (i+1) (by omega)
  rw [show ((i+1:Nat):Int)=(i:Int)+1 by omega] at ih
  rw [qJe,hd.1,if_pos (by simp;omega)]
  simp only [wj,wv]
  rw [w64 (x:=(i:Int)+1) (by omega) (by omega)]
  have hx:=hs _ hd.2.2
  generalize bs.getD i (qqa qpa)=x at*
  rw [qda (by omega),qda (by omega),hx,wq,qda (by omega),ih _ (by simp [h]),qiQ,wy]
  rfl
theorem qbG (lv:Int) (bs:List qca) (hl:bs.length≤10000) (hs:∀b∈bs,qxg lv b=some (raw b)):qVb lv bs=some (qPg raw bs):=by
 rw [qho]
 simp only [wj]
 rw [qda (by omega),qda (by omega),qda (by omega)]
 have h1:=qOD raw lv bs hl hs bs.length 0 (by omega) [] rfl
 have h2:=qND raw bs bs.length hl bs.length 0 [] (by omega) rfl
 simp only [wca,wU,Int.natCast_zero] at h1 h2
 rw [h1,h2]
 have he:∀bs,(qPg raw bs).2≠0→(qPg raw bs).1=[]:=fun bs=>by
  cases bs with
  |nil=>intro k;exact absurd rfl k
  |cons b r=>
   intro k
   rw [qPg] at k ⊢
   split
   ·rfl
   ·rename_i h0
    rw [if_neg h0] at k
    split
    ·rfl
    ·rename_i h1;rw [if_neg h1] at k;exact absurd rfl k
 by_cases h:(qPg raw bs).2=0
 ·rw [if_neg (fun k=>k h),←h]
 ·rw [if_pos h,←he bs h]
end
structure OpG (raw:qca→List Int×Int) (a:List Int) (l:qza) (bs:List qca):Prop where
 opd:Opd a l bs
 rw_:∀b∈bs,qxg l.1.1 b=some (raw b)
section
variable {raw:qca→List Int×Int} {a:List Int} {l:qza} {bs:List qca}
theorem OpG.parts (o:OpG raw a l bs) {cs:List qca} (hc:∀b∈cs,b∈bs) (hl:cs.length≤10000):qVb l.1.1 cs=some (qPg raw cs):=qbG raw _ cs hl fun b hb=>o.rw_ b (hc b hb)
theorem OpG.ext_err (o:OpG raw a l bs) (h:(qPg raw bs).2≠0):∃z e,e≠0∧qTb a=some (z,e):=by
 have hp:=o.parts (cs:=bs) (fun b hb=>hb) (by have:=o.opd.ln;omega)
 refine ⟨[],(qPg raw bs).2,h,?_⟩
 rw [qif,o.opd.op]
 exact Tot.eq (ue rfl (ud rfl (ue hp (uh (fun _=>ub rfl) (fun k=>absurd k h)))))
theorem OpG.ext_ok (o:OpG raw a l bs) {ps:List qoa} (h:qPg raw bs=(ps,0)):qTb a=qWc l.2.1 ps:=by
 have hp:=o.parts (cs:=bs) (fun b hb=>hb) (by have:=o.opd.ln;omega)
 rw [h] at hp
 rw [qif,o.opd.op,wq]
 refine (if_neg (show ¬((0:Int) != 0)=true by decide)).trans ?_
 show (qVb l.1.1 bs).bind _=_
 rw [hp,wq]
 refine (if_neg (show ¬((0:Int) != 0)=true by decide)).trans ?_
 show (qWc l.2.1 ps).bind _=_
 cases qWc l.2.1 ps <;> rfl
theorem OpG.rn (o:OpG raw a l bs):l.2.1.length≤16:=(qNc o.opd.vl).len
theorem OpG.find (o:OpG raw a l bs) (nm:ByteArray):qDi l.2.1 nm=some (nmR (nmI nm l.2.1 0)):=qFv o.opd.rk (by have:=o.rn;omega) o.opd.vl nm
theorem OpG.one_no (o:OpG raw a l bs) {nm:ByteArray} (h:nmI nm l.2.1 0=none):qKe a nm=some (zM,6):=by
 have hf:=o.find nm
 rw [h] at hf
 rw [qZq,qLL o.opd.op hf]
 exact Tot.eq (ue rfl (uh (fun _=>ub rfl) (fun k=>by cases k)))
theorem OpG.one_ok (o:OpG raw a l bs) {nm:ByteArray} {i:Nat} (h:nmI nm l.2.1 0=some i) {ps:List qoa} (hp:qPg raw (ofM i bs)=(ps,0)) (hl:ps.length≤10000):
  qKe a nm=(qWc [l.2.1.getD i (qqa qfa)] (ps.map z0)).bind fun r=>if (r.2 != (0:Int))=true then some (zM,r.2) else gd ((0:Int)<wi r.1.length) (some (r.1.getD 0 (qqa qua),0)):=by
 have hf:=o.find nm
 rw [h] at hf
 have hi:=qOA h
 have hln:=o.opd.ln
 obtain ⟨n,h',h1,h2,hnn⟩:=qvy (by omega) o.opd.op hf
 have hlen:(ofM (i:Int) bs).length≤bs.length:=List.length_filter_le ..
 have hpa:=o.parts (cs:=ofM i bs) (fun b hb=>qwx hb) (by omega)
 rw [hp,←h2] at hpa
 have h3:=qcP i l (by omega) (by have:=o.rn;omega) ps (by omega) wD [] ps.length 0 (by omega)
 rw [List.take_zero,wua,wU,wca] at h3
 rw [qZq,h1,wq]
 refine (if_neg (show ¬((0:Int) != 0)=true by decide)).trans ?_
 show (qVb l.1.1 (wK n (wW 0 h'))).bind _=_
 rw [wca,hpa,wq]
 refine (if_neg (show ¬((0:Int) != 0)=true by decide)).trans ?_
 exact h3
theorem OpG.range_arg (o:OpG raw a l bs) {nm:ByteArray} {i:Nat} (h:nmI nm l.2.1 0=some i) {f t:Int} (hx:f<0∨t<f∨t>(l.2.1.getD i (qqa qfa)).2.1):qdd a nm f t=some ([],2):=by
 have hf:=o.find nm
 rw [h] at hf
 have hi:=qOA h
 obtain ⟨n,h',h1,h2⟩:=qvy (by have:=o.opd.ln;omega) o.opd.op hf
 rw [qio,h1]
 refine Tot.eq (ue rfl (ud rfl (ug (fun _=>ub rfl) (fun k1=>ug (fun _=>ub rfl) (fun k2=>ua (by show (0:Int)≤(i:Int);omega) (ua (by show (i:Int)<(l.2.1.length:Int);omega) (uf ?_ (ub rfl))))))))
 show t>(l.2.1.getD ((i:Int).toNat) (qqa qfa)).2.1
 rw [wv]
 omega
theorem OpG.range_ok (o:OpG raw a l bs) (hs:∀b∈bs,SmB b) {nm:ByteArray} {i:Nat} (h:nmI nm l.2.1 0=some i) {f t:Int} (h1:0≤f) (h2:f≤t) (h3:t≤(l.2.1.getD i (qqa qfa)).2.1) {ps:List qoa} (hp:qPg raw (onR f t (ofM i bs))=(ps,0))
  (hl:ps.length≤10000) (hR:∀p∈ps,InR f t p):qdd a nm f t=some (ps.flatMap (qpI f t),0):=by
 have hf:=o.find nm
 rw [h] at hf
 have hi:=qOA h
 obtain ⟨n,h',g1,g2,hnn⟩:=qvy (by have:=o.opd.ln;omega) o.opd.op hf
 have hlen:(ofM (i:Int) bs).length≤bs.length:=List.length_filter_le ..
 have hln:=o.opd.ln
 have hnl:(h'.take n).length=n:=by rw [wP];omega
 have hn6:n≤600:=by rw [←hnl,g2];omega
 obtain ⟨n',h'',k1,k2⟩:=quF (n:=n) (by omega) (h0:=h') hnn (fun b hb=>hs b (by rw [g2] at hb;exact qwx hb)) f t
 rw [g2] at k2
 have hlen2:(onR f t (ofM (i:Int) bs)).length≤(ofM (i:Int) bs).length:=List.length_filter_le ..
 have hpa:=o.parts (cs:=onR f t (ofM i bs)) (fun b hb=>qwx (qjL hb)) (by omega)
 have hpa2:qVb l.1.1 (h''.take n')=some (ps,0):=by rw [k2,hpa,hp]
 rw [qio,g1]
 refine Tot.eq (ue rfl (ud rfl (uc (by omega) (uc (by omega) (ua (by show (0:Int)≤(i:Int);omega) (ua (by show (i:Int)<(l.2.1.length:Int);omega) (uc ?_ (ue k1 (ue (by rw [wca];exact hpa2) (ud rfl (ul (qIM hl hR) rfl)))))))))))
 show ¬t>(l.2.1.getD ((i:Int).toNat) (qqa qfa)).2.1
 rw [wv]
 omega
end
end Go.Ab

/-
  Sorting what is in order, of up to 255 pieces.
-/
set_option linter.unusedVariables false
set_option linter.unusedSimpArgs false
set_option maxRecDepth 100000
namespace Go.Ab
open Go
attribute [local irreducible] IntKind.wrap
theorem qFB (l:List qea) (ho:Ord l) (i j:Nat) (h:i≤j) (hj:j<l.length):qmb (i:Int) (j:Int) l 0=some ((i:Int),((j:Int),(l,0))):=by
 obtain ⟨r,h1,h2⟩:=qOR (l.getD j (qqa qka)) (l.getD i (qqa qka))
 have h3:=h2 (ho i j h hj)
 rw [qAh]
 simp only [wj,wv,wQ]
 exact Tot.eq (ua (by omega) (ua (by omega) (ua (by omega) (ua (by omega) (ue h1 (uc h3 (ub rfl)))))))
theorem qNB (l:List qea) (ho:Ord l) (i j k:Nat) (h1:i≤j) (h2:j≤k) (hk:k<l.length):qnb (i:Int) (j:Int) (k:Int) l 0=some ((j:Int),(l,0)):=by
 rw [qBh]
 exact Tot.eq (ue (qFB l ho i j h1 (by omega)) (ue (qFB l ho j k h2 hk) (ue (qFB l ho i j h1 (by omega)) (ub rfl))))
theorem qOB (l:List qea) (ho:Ord l) (hl:l.length≤255) (i:Nat) (h1:1≤i) (hk:i+1<l.length):qab (i:Int) l 0=some ((i:Int),(l,0)):=by
 rw [qZe,w64 (x:=(i:Int) - 1) (by omega) (by omega),w64 (x:=(i:Int)+1) (by omega) (by omega),show (i:Int) - 1=((i - 1:Nat):Int) by omega,show (i:Int)+1=((i+1:Nat):Int) by omega]
 exact Tot.eq (ue (qNB l ho (i - 1) i (i+1) (by omega) (by omega) hk) (ub rfl))
theorem qzP (l:List qea) (ho:Ord l) (hl:l.length≤255) (h12:12<l.length):∃p,qYb 0 (l.length:Int) l=some (p,(1,l)):=by
 rw [qSf]
 have hq:Int.tdiv (l.length:Int) 4=((l.length/4:Nat):Int):=by rw [Int.tdiv_eq_ediv_of_nonneg (by omega)];omega
 rw [w64 (x:=(l.length:Int) - 0) (by omega) (by omega),Int.sub_zero,hq,w64 (x:=((l.length/4:Nat):Int)) (by omega) (by omega),w64 (x:=((l.length/4:Nat):Int)*1) (by omega) (by omega),w64 (x:=((l.length/4:Nat):Int)*2) (by omega) (by omega),w64 (x:=((l.length/4:Nat):Int)*3) (by omega) (by omega),
  w64 (x:=0+((l.length/4:Nat):Int)*1) (by omega) (by omega),w64 (x:=0+((l.length/4:Nat):Int)*2) (by omega) (by omega),w64 (x:=0+((l.length/4:Nat):Int)*3) (by omega) (by omega),
  show 0+((l.length/4:Nat):Int)*1=((l.length/4:Nat):Int) by omega,show 0+((l.length/4:Nat):Int)*2=((l.length/4*2:Nat):Int) by omega,show 0+((l.length/4:Nat):Int)*3=((l.length/4*3:Nat):Int) by omega]
 refine ⟨((l.length/4*2:Nat):Int),Tot.eq (ua (by decide) (ua (by decide) (ua (by decide) (uf (by omega) (ug (fun _=>?_) (fun _=>?_))))))⟩
 ·exact ue (qOB l ho hl _ (by omega) (by omega)) (ue (qOB l ho hl _ (by omega) (by omega)) (ue (qOB l ho hl _ (by omega) (by omega)) (ue (qNB l ho _ _ _ (by omega) (by omega) (by omega)) (un rfl (ub rfl)))))
 ·exact ue (qNB l ho _ _ _ (by omega) (by omega) (by omega)) (un rfl (ub rfl))
theorem qNA (l:List qea) (ho:Ord l) (hl:l.length≤255):∀(k i:Nat),i+k=l.length→1≤i→qXa 0 (l.length:Int) (i:Int) 0 l=some (true,l)
 |0,i,e,h=>by
  rw [qGb,if_neg (by simp;omega),if_pos (by rw [beq_iff_eq];omega)]
 |k+1,i,e,h=>by
  have ih:=qNA l ho hl k (i+1) (by omega) (by omega)
  rw [show ((i+1:Nat):Int)=(i:Int)+1 by omega] at ih
  obtain ⟨r,h1,h2⟩:=qOR (l.getD i (qqa qka)) (l.getD (i - 1) (qqa qka))
  have h3:=h2 (ho (i - 1) i (by omega) (by omega))
  rw [qGb]
  simp only [wj,wv,wQ]
  rw [w64 (x:=(i:Int) - 1) (by omega) (by omega),w64 (x:=(i:Int)+1) (by omega) (by omega),show ((i:Int) - 1).toNat=i - 1 by omega]
  exact Tot.eq (uf (by omega) (ua (by omega) (ua (by omega) (ua (by omega) (ua (by omega) (ue h1 (un (by rw [decide_eq_false h3];rfl) (ul ih rfl))))))))
theorem qqF {l:List qea} (hl:l.length≤255) (ho:Ord l):qQa l=some l:=by
 by_cases h12:l.length≤12
 ·exact qCI h12 ho
 ·obtain ⟨r,hr,hr1,hr2,_⟩:=qjO (a:=wi l.length) (by simp;omega) (by simp;omega)
  obtain ⟨p,hp⟩:=qzP l ho hl (by omega)
  have hpart:qlb 0 (l.length:Int) l=some (true,l):=by
   rw [qXd,show wd .i64 ((0:Int)+1)=1 by decide+kernel,qzd]
   exact Tot.eq (uf (by decide) (ul (qNA l ho hl (l.length - 1) 1 (by omega) (by omega)) rfl))
  have hs:qHb 0 (l.length:Int) r l=some l:=by
   rw [qAd,qXc,w64 (x:=(l.length:Int) - 0) (by omega) (by omega)]
   exact Tot.eq (uc (by omega) (uv (by rw [beq_iff_eq];omega) (uv (by decide) (ue hp (uv (show ¬((1:Int)==2)=true by decide) (un rfl (un rfl (un rfl (ue hpart (un rfl (ub rfl)))))))))))
  rw [qPc,hr]
  exact Tot.eq (ue rfl (ue hs (ub rfl)))
end Go.Ab

/-
  ExtractOne: members and their parts.
-/
set_option linter.unusedVariables false
set_option linter.unusedSimpArgs false
set_option maxRecDepth 100000
namespace Go.Ab
open Go
attribute [local irreducible] IntKind.wrap
theorem qRO:∀{hs:List qga} {ps:List qea},hs.length=ps.length→ckL hs ps=0→hs.map (fun g=>(g.2.1,(g.2.2.1,(g.2.2.2.1,()))))=ps
 |[],[],_,_=>rfl
 |[],_::_,h,_=>by cases h
 |_::_,[],h,_=>by cases h
 |h::hs,p::ps,hl,hc=>by
  rw [ckL] at hc
  split at hc
  ·rename_i hk
   obtain ⟨_,k1,k2,k3⟩:=hk
   rw [wL,qRO (by simpa using hl) hc,k1,k2,k3]
  ·cases hc
theorem Opd.pcs_ {a:List Int} {l:qza} {bs:List qca} (h:Opd a l bs):bs.map pcB=ap l.1.2.1 0 l.2.1:=by
 have hck:=h.ck
 unfold lck at hck
 split at hck
 ·cases hck
 split at hck
 ·cases hck
 split at hck
 ·cases hck
 ·rename_i h3
  have:=qRO (by omega) hck
  rw [←h.hd,List.map_map] at this
  exact this
theorem qUO:∀(k:Nat) (i:Nat) (n s:Int) (off:Nat) (ps:List qoa),16≤s→ps.map (·.1)=pcs (i:Int) n s k (off:Int)→(∀p∈ps,(p.2.1.length:Int)=p.1.2.2.1)→n - off≤16*(k:Int)→Chn i off ps∧((off:Int)≤n→((dat ps).length:Int)=n - off)
 |0,i,n,s,off,ps,hs,hm,hl,hk=>by
  rw [pcs,List.map_eq_nil_iff] at hm
  subst hm
  refine ⟨trivial,fun h=>?_⟩
  rw [qOr,wT];omega
 |k+1,i,n,s,off,ps,hs,hm,hl,hk=>by
  rw [pcs] at hm
  split at hm
  ·rename_i ho
   cases ps with
   |nil=>cases hm
   |cons p r=>
    rw [wL,List.cons.injEq] at hm
    obtain ⟨h1,h2⟩:=hm
    have hpl:=hl p (wZ ..)
    rw [h1] at hpl
    have hpl2:(p.2.1.length:Int)=if s<n - (off:Int) then s else n - (off:Int):=hpl
    by_cases hs2:s<n - (off:Int)
    ·rw [if_pos hs2] at hpl2
     have e:(off:Int)+s=((off+p.2.1.length:Nat):Int):=by omega
     rw [e] at h2
     obtain ⟨c1,c2⟩:=qUO k i n s (off+p.2.1.length) r hs h2 (fun q hq=>hl q (wR _ hq)) (by omega)
     refine ⟨⟨by rw [h1],by rw [h1],(hl p (wZ ..)).symm,by omega,c1⟩,fun _=>?_⟩
     have:=c2 (by omega)
     rw [qLy];omega
    ·rw [if_neg hs2] at hpl2
     have hr:r=[]:=by
      have h0:pcs (i:Int) n s k ((off:Int)+s)=[]:=by
       cases k with
       |zero=>rfl
       |succ k=>rw [pcs,if_neg (by omega)]
      rw [h0,List.map_eq_nil_iff] at h2;exact h2
     subst hr
     refine ⟨⟨by rw [h1],by rw [h1],(hl p (wZ ..)).symm,by omega,trivial⟩,fun _=>?_⟩
     rw [qLy,qOr,wT];omega
  ·rename_i ho
   rw [List.map_eq_nil_iff] at hm
   subst hm
   refine ⟨trivial,fun h=>?_⟩
   rw [qOr,wT];omega
theorem qSO (s:Int) (hs:16≤s):∀(rs:List qaa) (i:Nat) (ps:List qoa),ps.map (·.1)=ap s (i:Int) rs→(∀p∈ps,(p.2.1.length:Int)=p.1.2.2.1)→(∀r∈rs,0≤r.2.1∧r.2.1≤8192)→∃qss,qss.flatten=ps∧ChnL i qss∧SzL rs qss
 |[],i,ps,hm,_,_=>by
  rw [ap,List.map_eq_nil_iff] at hm
  exact ⟨[],by rw [hm];rfl,trivial,trivial⟩
 |r::rs,i,ps,hm,hl,hz=>by
  rw [ap] at hm
  obtain ⟨p1,p2,rfl,h1,h2⟩:=List.map_eq_append_iff.1 hm
  have hr:=hz r (wZ ..)
  obtain ⟨c1,c2⟩:=qUO 8200 i r.2.1 s 0 p1 hs h1 (fun p hp=>hl p (List.mem_append_left _ hp)) (by omega)
  have e:(i:Int)+1=((i+1:Nat):Int):=by omega
  rw [e] at h2
  obtain ⟨qss,q1,q2,q3⟩:=qSO s hs rs (i+1) p2 h2 (fun p hp=>hl p (List.mem_append_right _ hp)) (fun x hx=>hz x (wR _ hx))
  have:=c2 (by omega)
  exact ⟨p1::qss,by rw [wzb,q1],⟨c1,q2⟩,by omega,by omega,q3⟩
theorem qaB:∀{qss:List (List qoa)} {rs:List qaa} {i j:Nat},ChnL i qss→SzL rs qss→j<qss.length→qss.flatten.filter (fun p=>p.1.1==((i+j:Nat):Int))=qss.getD j []
 |[],_,_,_,_,_,h=>by cases h
 |q::qss,[],_,_,_,h,_=>h.elim
 |q::qss,r::rs,i,j,⟨c1,c2⟩,⟨s1,s2,s3⟩,hj=>by
  rw [wzb,List.filter_append]
  cases j with
  |zero=>
   have h1:q.filter (fun p=>p.1.1==((i+0:Nat):Int))=q:=List.filter_eq_self.2 fun p hp=>by
    rw [beq_iff_eq];exact (Chn.at c1 p hp).1
   have h2:qss.flatten.filter (fun p=>p.1.1==((i+0:Nat):Int))=[]:=List.filter_eq_nil_iff.2 fun p hp hc=>by
    have:=(ChnL.at c2 s3 p hp).1
    have:=eq_of_beq hc
    omega
   rw [h1,h2,wS];rfl
  |succ j=>
   have h1:q.filter (fun p=>p.1.1==((i+(j+1):Nat):Int))=[]:=List.filter_eq_nil_iff.2 fun p hp hc=>by
    have:=(Chn.at c1 p hp).1
    have:=eq_of_beq hc
    omega
   have ih:=qaB (j:=j) c2 s3 (by simpa using hj)
   rw [show i+1+j=i+(j+1) by omega] at ih
   rw [h1,wU,ih];rfl
theorem qfD:∀{rs:List qaa} {qss:List (List qoa)} {j:Nat},SzL rs qss→j<rs.length→rs.length=qss.length∧(rs.getD j (qqa qfa)).2.1=((dat (qss.getD j [])).length:Int)∧(dat (qss.getD j [])).length≤20000∧(qBs rs qss).getD j (wD,[])=((rs.getD j (qqa qfa)).1,dat (qss.getD j []))
 |[],_,_,_,h=>by cases h
 |_::_,[],_,h,_=>h.elim
 |r::rs,q::qss,0,⟨s1,s2,s3⟩,_=>by
  have hlen:∀{rs:List qaa} {qss:List (List qoa)},SzL rs qss→rs.length=qss.length:=by
   intro rs
   induction rs with
   |nil=>intro qss h;cases qss with
    |nil=>rfl
    |cons _ _=>exact h.elim
   |cons r rs ih=>intro qss h;cases qss with
    |nil=>exact h.elim
    |cons q qss=>rw [wB,wB,ih h.2.2]
  exact ⟨by rw [wB,wB,hlen s3],s1,s2,rfl⟩
 |r::rs,q::qss,j+1,⟨s1,s2,s3⟩,h=>by
  obtain ⟨k1,k2,k3,k4⟩:=qfD (j:=j) s3 (by simpa using h)
  exact ⟨by rw [wB,wB,k1],k2,k3,k4⟩
theorem qQG:∀{qss:List (List qoa)} {i j:Nat},ChnL i qss→j<qss.length→Chn (i+j) 0 (qss.getD j [])
 |[],_,_,_,h=>by cases h
 |q::qss,i,0,h,_=>h.1
 |q::qss,i,j+1,h,hj=>by
  have:=qQG (j:=j) h.2 (by simpa using hj)
  rw [show i+1+j=i+(j+1) by omega] at this
  exact this
theorem qTO:∀{q:List qoa} {i off:Nat},Chn i off q→Chn 0 off (q.map z0)
 |[],_,_,_=>trivial
 |p::q,i,off,⟨c1,c2,c3,c4,c5⟩=>⟨rfl,c2,c3,c4,qTO c5⟩
theorem qlK {rs:List qaa} {ms:List qva}:∀{k i j:Nat},qxw rs ms k i=true→i≤j→j<i+k→peq (.arr 20 (.int .u8)) (qkk (ms.getD j (qqa qua)).2.1) (rs.getD j (qqa qfa)).2.2.1=true
 |0,i,j,_,h1,h2=>by omega
 |k+1,i,j,h,h1,h2=>by
  rw [qxw,wz] at h
  rcases Nat.eq_or_lt_of_le h1 with rfl|h3
  ·exact h.1
  ·exact qlK h.2 (by omega) (by omega)
def onP (f t:Int) (p:qoa):Bool:=!decide ((if f>p.1.2.1 then f else p.1.2.1)≥(if t<p.1.2.1+p.1.2.2.1 then t else p.1.2.1+p.1.2.2.1))
theorem qmM (f t:Int):∀{q:List qoa} {i off:Nat},Chn i off q→(q.filter (onP f t)).flatMap (qpI f t)=((dat q).drop (f - off).toNat).take ((t - off).toNat - (f - off).toNat)
 |[],_,_,_=>by rw [qOr];simp
 |x::q,i,off,⟨c1,c2,c3,c4,c5⟩=>by
  have ih:=qmM f t c5
  have hx:((if onP f t x=true then qpI f t x else []):List Int)=(x.2.1.drop (f - off).toNat).take ((t - off).toNat - (f - off).toNat):=by
   have hlo:(loR f x.1.2.1).toNat=(f - off).toNat:=by unfold loR;rw [c2];split <;> omega
   unfold onP qpI
   rw [c2,c3]
   by_cases ho:(if f>(off:Int) then f else (off:Int))≥(if t<(off:Int)+(x.2.1.length:Int) then t else (off:Int)+(x.2.1.length:Int))
   ·rw [decide_eq_true ho,if_neg (by decide)]
    symm
    apply wH
    rw [wP,wda]
    split at ho <;> split at ho <;> omega
   ·rw [decide_eq_false ho,if_pos (by decide),←c2,hlo]
    rw [←c2] at ho
    have hhi:min ((hiR t x.1.2.1 x.2.1.length).toNat - (f - off).toNat) (x.2.1.length - (f - off).toNat)=min ((t - off).toNat - (f - off).toNat) (x.2.1.length - (f - off).toNat):=by
     unfold hiR;rw [c2];split <;> omega
    have e:∀(n m:Nat) (l:List Int),min n l.length=min m l.length→l.take n=l.take m:=fun n m l h=>by
     rw [List.take_eq_take_iff];exact h
    have h3:=e ((hiR t x.1.2.1 x.2.1.length).toNat - (f - off).toNat) ((t - off).toNat - (f - off).toNat) (x.2.1.drop (f - off).toNat) (by rw [wda];exact hhi)
    rw [c2] at h3 ⊢
    exact h3
  have e1:((x::q).filter (onP f t)).flatMap (qpI f t)=(if onP f t x=true then qpI f t x else [])++(q.filter (onP f t)).flatMap (qpI f t):=by
   rw [List.filter_cons]
   split
   ·rw [wXa]
   ·rfl
  rw [e1,hx,ih,qat,List.drop_append,List.take_append,wda]
  congr 1
  have a1:(f - ((off+x.2.1.length:Nat):Int)).toNat=(f - off).toNat - x.2.1.length:=by omega
  have a2:(t - ((off+x.2.1.length:Nat):Int)).toNat=(t - off).toNat - x.2.1.length:=by omega
  rw [a1,a2]
  congr 1
  omega
end Go.Ab

/-
  ExtractOne: the law.
-/
set_option linter.unusedVariables false
set_option linter.unusedSimpArgs false
set_option maxRecDepth 100000
namespace Go.Ab
open Go
attribute [local irreducible] IntKind.wrap
theorem qeH {a:List Int} {l:qza} {bs:List qca} {e:Int} (h:qid a=some (l,(bs,e))) (he:e≠0):qTb a=some ([],e):=by
 rw [qif,h]
 exact Tot.eq (ue rfl (uh (fun _=>ub rfl) (fun k=>absurd k he)))
theorem Opd.smb {a:List Int} {l:qza} {bs:List qca} (h:Opd a l bs):∀b∈bs,SmB b:=fun b hb=>by
 have:=(h.ok b hb).1
 unfold hOK at this
 unfold SmB
 omega
theorem qzM (a:List Int) (s:qia) (rs:List qaa):∀(ps:List qea) (p:Nat) (hs:List qga) (bs:List qca),(qUC a s rs ps p hs bs).2.2≠0→(qUC a s rs ps p hs bs).1=zL
 |[],p,hs,bs,h=>by
  rw [qUC] at h ⊢
  split at h
  ·rename_i hp;rw [if_pos hp]
  ·exact absurd rfl h
 |x::ps,p,hs,bs,h=>by
  rw [qUC] at h ⊢
  split
  ·rfl
  ·rename_i h1
   rw [if_neg h1] at h
   split
   ·rfl
   ·rename_i h2
    rw [if_neg h2] at h
    exact qzM a s rs ps _ _ _ h
theorem qaQ {a:List Int} (h:(qXr a).2.2≠0):(qXr a).1=zL:=by
 unfold qXr at h ⊢
 split
 ·rfl
 ·rename_i h1
  rw [if_neg h1] at h
  exact qzM _ _ _ _ _ _ _ h
theorem qhI (a:List Int) (L:qza) (hL:L.2.2.1.length≤1000):∀(k i:Nat) (acc:Int),i+k=L.2.2.1.length→Tot (qqd a acc (i:Int) L) fun g=>g=true→a.length≤3000
 |0,i,acc,e=>by
  rw [qwi]
  simp only [wj]
  exact uc (by omega) (ug (fun h=>ub (fun _=>by omega)) (fun _=>ub (fun h=>by cases h)))
 |k+1,i,acc,e=>by
  have ih:=fun acc=>qhI a L hL k (i+1) acc (by omega)
  rw [show ((i+1:Nat):Int)=(i:Int)+1 by omega] at ih
  rw [qwi]
  simp only [wj,wv]
  rw [w64 (x:=(i:Int)+1) (by omega) (by omega)]
  exact uf (by omega) (ua (by omega) (ua (by omega) (uj (fun _=>ua (by omega) (ua (by omega) (ih _))) (fun _=>ih _))))
theorem qKP {a:List Int} (hb:Bts a):Tot (qKj a) fun g=>g=true→a.length≤3000:=by
 have hl:(qXr a).1.2.2.1.length≤1000:=by
  by_cases h:(qXr a).2.2=0
  ·have o:=qiL hb h
   rw [←o.hd,wla]
   have:=o.ln;omega
  ·rw [qaQ h];decide
 have hr:qMi a=some ((qXr a).1,(qXr a).2.2):=by rw [qsq,qJD a hb];rfl
 rw [qVr]
 exact ue hr (qhI a _ hl _ 0 0 (wQ _))
noncomputable def qIt (lv:Int) (b:qca):List Int×Int:=(qxg lv b).getD ([],0)
theorem qNK {lv:Int} {b:qca} (h:hOK b.1∧bC b=0∧Bts b.2.1):qxg lv b=some (qIt lv b)∧Bts (qIt lv b).1∧((qIt lv b).2=0→((qIt lv b).1.length:Int)=b.1.2.2.2.1):=by
 have hm:0≤b.1.1∧b.1.1<256:=by
  have:=h.1.2.2.2.2.2.2
  omega
 obtain ⟨r,h1,h2,h3⟩:=qjR lv hm h.2.2
 have e:qIt lv b=r:=by unfold qIt;rw [h1];rfl
 rw [e]
 exact ⟨h1,h2,h3⟩
theorem Opd.opG {a:List Int} {l:qza} {bs:List qca} (h:Opd a l bs):OpG (qIt l.1.1) a l bs:=⟨h,fun b hb=>(qNK (h.ok b hb)).1⟩
theorem Opd.cnt {a:List Int} {l:qza} {bs:List qca} (hb:Bts a) (h:Opd a l bs):42*bs.length≤a.length:=by
 have h0:(qXr a).2.2=0:=by rw [h.eq]
 obtain ⟨rs,q,hs,bs',hO⟩:=qGM hb h0
 have he:=hO.eq
 rw [h.eq] at he
 have hbs:bs=bs':=(Prod.mk.inj (Prod.mk.inj he).2).1
 subst hbs
 have key:∀{hs:List qga} {bs:List qca} {p:Nat},Std a a.length p hs bs→p+42*bs.length≤a.length:=by
  intro hs
  induction hs with
  |nil=>intro bs p h;cases bs with
   |nil=>have h:p=a.length:=h;rw [wT];omega
   |cons _ _=>exact h.elim
  |cons g hs ih=>intro bs p h;cases bs with
   |nil=>exact h.elim
   |cons x bs=>
    obtain ⟨_,_,h3,_,h5⟩:=h
    have:=ih h5
    have:=qMk h3
    rw [wB];omega
 have:=key hO.std
 omega
structure ExtP (a:List Int) (l:qza) (bs:List qca) (qss:List (List qoa)):Prop where
 o:OpG (qIt l.1.1) a l bs
 ok:∀b∈bs,(qIt l.1.1 b).2=0
 fl:qss.flatten=bs.map (qUM (qIt l.1.1))
 ch:ChnL 0 qss
 sz:SzL l.2.1 qss
 sm:qxw l.2.1 (qdh (a:= .str) (e:= .int .u8) (qBs l.2.1 qss)) l.2.1.length 0=true
 bt:∀q∈qss,Bts (dat q)
 fw:bs.length≤255
theorem qOP {a:List Int} (hb:Bts a) (hl:a.length≤3000):(∃z e,e≠0∧qTb a=some (z,e))∨∃l bs qss,ExtP a l bs qss∧qTb a=some (qdh (a:= .str) (e:= .int .u8) (qBs l.2.1 qss),0):=by
 by_cases h0:(qXr a).2.2=0
 ·have h:=qiL hb h0
  generalize (qXr a).1=l at h
  generalize (qXr a).2.1=bs at h
  have o:=h.opG
  by_cases hp:(qPg (qIt l.1.1) bs).2=0
  ·have hok:=qBH _ hp
   have hps:=qEm (qIt l.1.1) hok
   have hV:=qNc h.vl
   have hmap:(bs.map (qUM (qIt l.1.1))).map (·.1)=ap l.1.2.1 ((0:Nat):Int) l.2.1:=by rw [List.map_map];exact h.pcs_
   obtain ⟨qss,q1,q2,q3⟩:=qSO l.1.2.1 h.bk.1 l.2.1 0 (bs.map (qUM (qIt l.1.1))) hmap (fun p hp=>by
    obtain ⟨b,hb,rfl⟩:=wY.1 hp
    exact (qNK (h.ok b hb)).2.2 (hok b hb)) (fun r hr=>⟨(hV.each r hr).1,(hV.each r hr).2.1⟩)
   have hbt:∀q∈qss,Bts (dat q):=fun q hq x hx=>by
    obtain ⟨p,hp,hx⟩:=List.mem_flatMap.1 hx
    have:p∈qss.flatten:=List.mem_flatten.2 ⟨q,hq,hp⟩
    rw [q1] at this
    obtain ⟨b,hb,rfl⟩:=wY.1 this
    exact (qNK (lv:=l.1.1) (h.ok b hb)).2.1 x hx
   have hc:=h.cnt hb
   have hfl:qss.flatten.length≤255:=by rw [q1,wla];omega
   have hput:=qcH h.rk h.vl (by have:=hV.len;omega) q2 q3 (by omega) (qqF (by rw [wla];exact hfl) (qKM (qxH q2 q3))) hbt
   have hext:=o.ext_ok hps
   rw [←q1,hput] at hext
   by_cases hs:qxw l.2.1 (qdh (a:= .str) (e:= .int .u8) (qBs l.2.1 qss)) l.2.1.length 0=true
   ·rw [if_pos hs] at hext
    exact .inr ⟨l,bs,qss,⟨o,hok,q1,q2,q3,hs,hbt,by omega⟩,hext⟩
   ·rw [if_neg hs] at hext
    exact .inl ⟨[],22,by decide,hext⟩
  ·exact .inl (o.ext_err hp)
 ·exact .inl ⟨[],_,h0,qeH (qyN hb h0) h0⟩
section
variable {a:List Int} {l:qza} {bs:List qca} {qss:List (List qoa)}
theorem ExtP.part (h:ExtP a l bs qss) {j:Nat} (hj:j<l.2.1.length):qPg (qIt l.1.1) (ofM (j:Int) bs)=(qss.getD j [],0)∧(qss.getD j []).length≤255:=by
 have hz:=qfD h.sz hj
 have hf:=qaB (j:=j) h.ch h.sz (by omega)
 have hok:∀b∈ofM (j:Int) bs,(qIt l.1.1 b).2=0:=fun b hb=>h.ok b (qwx hb)
 have e:(ofM (j:Int) bs).map (qUM (qIt l.1.1))=qss.getD j []:=by
  rw [←hf,h.fl,List.filter_map,wQ]
  rfl
 refine ⟨by rw [qEm _ hok,e],?_⟩
 rw [←e,wla]
 have:(ofM (j:Int) bs).length≤bs.length:=List.length_filter_le ..
 have:=h.fw
 omega
theorem ExtP.one (h:ExtP a l bs qss) {nm:ByteArray} {j:Nat} (hn:nmI nm l.2.1 0=some j):qKe a nm=some (((l.2.1.getD j (qqa qfa)).1,(dat (qss.getD j []),())),0):=by
 have hj:=(qOA hn).2
 rw [wQ] at hj
 obtain ⟨p1,p2⟩:=h.part hj
 obtain ⟨z1,z2,z3,z4⟩:=qfD h.sz hj
 have hm:l.2.1.getD j (qqa qfa)∈l.2.1:=qOa (P:=fun r=>r∈l.2.1) (fun r hr=>hr) j hj
 have hV:=qNc h.o.opd.vl
 have hc:=qTO (qQG h.ch (j:=j) (by omega))
 have hq:qss.getD j []∈qss:=qOa (P:=fun r=>r∈qss) (fun r hr=>hr) j (by omega)
 have hput:=qcH (rs:=[l.2.1.getD j (qqa qfa)]) (qss:=[(qss.getD j []).map z0]) ⟨by show 1≤9223372036854775807;decide,fun r hr=>by rw [wV.1 hr];have:=(hV.each _ hm).2.2;omega⟩ (qfK h.o.opd.vl hm) (by show 1≤10000;decide) ⟨hc,trivial⟩ ⟨by rw [qKy];exact z2,by rw [qKy];exact z3,trivial⟩
  (by simp only [wzb,List.flatten_nil,wS,wla];omega) (qqF (by simp only [wzb,List.flatten_nil,wS,wla];exact p2) (qKM (qxH (rs:=[l.2.1.getD j (qqa qfa)]) (k:=0) ⟨hc,trivial⟩ ⟨by rw [qKy];exact z2,by rw [qKy];exact z3,trivial⟩))) (fun q hq'=>by rw [wV.1 hq',qKy];exact h.bt _ hq)
 have hfl:[(qss.getD j []).map z0].flatten=(qss.getD j []).map z0:=by simp
 have hmk:qBs [l.2.1.getD j (qqa qfa)] [(qss.getD j []).map z0]=[((l.2.1.getD j (qqa qfa)).1,dat (qss.getD j []))]:=by
  show [(_,dat _)]=_
  rw [qKy]
 rw [hfl,hmk] at hput
 have hml:=qAs h.sz
 have qrE:qxw [l.2.1.getD j (qqa qfa)] (qdh (a:= .str) (e:= .int .u8) [((l.2.1.getD j (qqa qfa)).1,dat (qss.getD j []))]) [l.2.1.getD j (qqa qfa)].length 0=true:=by
  have:=qlK h.sm (Nat.zero_le j) (by omega)
  have e:((qdh (a:= .str) (e:= .int .u8) (qBs l.2.1 qss)).getD j (qqa qua)).2.1=dat (qss.getD j []):=by
   have:(qdh (a:= .str) (e:= .int .u8) (qBs l.2.1 qss)).getD j (qqa qua)=((qBs l.2.1 qss).map fun x=>(x.1,(x.2,()))).getD j (qqa qua):=rfl
   rw [this,qsL (d:=((wD,[]):ByteArray×List Int)) (by omega),z4]
  rw [e] at this
  show (peq (.arr 20 (.int .u8)) (qkk (dat (qss.getD j []))) (l.2.1.getD j (qqa qfa)).2.2.1&&true)=true
  rw [this];rfl
 rw [if_pos qrE] at hput
 rw [h.o.one_ok hn p1 (by omega),hput]
 exact Tot.eq (ue rfl (ud rfl (ua (by show (0:Int)<1;decide) (ub rfl))))
theorem ExtP.one_any (h:ExtP a l bs qss) (nm:ByteArray):∃r,qKe a nm=some r:=by
 cases hn:nmI nm l.2.1 0 with
 |none=>exact ⟨_,h.o.one_no hn⟩
 |some j=>exact ⟨_,h.one hn⟩
theorem ExtP.range (h:ExtP a l bs qss) {nm:ByteArray} {j:Nat} (hn:nmI nm l.2.1 0=some j) {f t:Int} (h1:0≤f) (h2:f≤t) (h3:t≤((dat (qss.getD j [])).length:Int)):qdd a nm f t=some (((dat (qss.getD j [])).drop f.toNat).take (t.toNat - f.toNat),0):=by
 have hj:=(qOA hn).2
 rw [wQ] at hj
 obtain ⟨p1,p2⟩:=h.part hj
 obtain ⟨z1,z2,z3,z4⟩:=qfD h.sz hj
 have hc:=qQG h.ch (j:=j) (by omega)
 have hok:∀b∈ofM (j:Int) bs,(qIt l.1.1 b).2=0:=fun b hb=>h.ok b (qwx hb)
 have hon:(onR f t (ofM (j:Int) bs)).map (qUM (qIt l.1.1))=(qss.getD j []).filter (onP f t):=by
  have e1:=qEm (qIt l.1.1) hok
  rw [p1] at e1
  rw [(Prod.mk.inj e1).1,List.filter_map]
  rfl
 have hpp:=qEm (qIt l.1.1) (bs:=onR f t (ofM (j:Int) bs)) (fun b hb=>hok b (qjL hb))
 rw [hon] at hpp
 have hlen:((qss.getD j []).filter (onP f t)).length≤(qss.getD j []).length:=List.length_filter_le ..
 have hR:=h.o.range_ok h.o.opd.smb hn (f:=f) (t:=t) h1 h2 (by rw [z2];exact h3) hpp (by omega) (fun p hp=>by
  obtain ⟨hp1,hp2⟩:=List.mem_filter.1 hp
  obtain ⟨k1,k2,k3,k4,k5⟩:=Chn.at hc p hp1
  unfold onP at hp2
  rw [wUa,decide_eq_false_iff_not] at hp2
  unfold InR loR hiR
  refine ⟨h1,by omega,by omega,by omega,by omega,by omega,by omega,?_⟩
  split at hp2 <;> split at hp2 <;> split <;> split <;> omega)
 rw [hR,qmM f t hc]
 simp
end
end Go.Ab

/-
  ExtractOne: the chapter's examples; the law.
-/
set_option linter.unusedVariables false
set_option linter.unusedSimpArgs false
set_option maxRecDepth 100000
namespace Go.Ab
open Go
attribute [local irreducible] IntKind.wrap
theorem quO:qIt 0 kA=([7,8],0):=by
 have h:StB kA:=⟨by decide+kernel,by decide+kernel,qcR (by decide+kernel)⟩
 unfold qIt
 rw [h.raw (by decide)]
 exact qWF
theorem gA:OpG (qIt 0) wA (sA,(rAa,([kA].map (·.1),()))) [kA]:=opdA.opG
theorem gE:OpG (qIt 0) wE (sA,([],([],()))) []:=opdE.opG
theorem qER:qUM (qIt 0) kA=((0,(0,(2,()))),([7,8],())):=by
 unfold qUM
 rw [quO];rfl
theorem Q_9:qdd wA (wDa #[97]) 1 2=some ([8],0):=by
 have hp:=qEm (qIt 0) (bs:=[kA]) (fun b hb=>by rw [wV.1 hb,quO])
 rw [List.map_singleton,qER] at hp
 have h:=gA.range_ok opdA.smb qiS (f:=1) (t:=2) (by decide) (by decide) (by decide+kernel) (ps:=[((0,(0,(2,()))),([7,8],()))]) (by
  rw [qrS,show onR 1 2 [kA]=[kA] by kernel_rfl];exact hp) (by decide) (fun y hy=>by rw [wV.1 hy];unfold InR;decide+kernel)
 exact h
theorem qwS:qdd wA (wDa #[97]) 1 3=some ([],2):=gA.range_arg qiS (.inr (.inr (by decide+kernel)))
theorem Q_E:qTb wE=some ([],0):=(gE.ext_ok (ps:=[]) rfl).trans qDR
theorem Q_O:qKe wE (wDa #[97])=some (zM,6):=gE.one_no (by decide+kernel)
theorem qcO:qti=some true:=by
 rw [qUp]
 exact Tot.eq (ue stA (ue Q_9 (ue qwS (ue stE (ue Q_E (ue stE (ue Q_O (uz rfl (uz (by decide+kernel) (uz rfl (uz rfl (uz rfl (ub rfl)))))))))))))
theorem qQP (a:List Int) (at_ f t:Int) (hb:Bts a):qMe a at_ f t=some true:=by
 rw [qdl]
 refine Tot.eq (ue qcO (Tot.b (qKP hb) (fun g hg=>um (fun _=>ub rfl) (fun hg1=>uv (by decide) ?_))))
 rcases qOP hb (hg hg1) with ⟨z,e,he,hx⟩|⟨l,bs,qss,h,hx⟩
 ·exact ue hx (uh (fun _=>ub rfl) (fun k=>absurd k he))
 ·have hml:(qdh (a:= .str) (e:= .int .u8) (qBs l.2.1 qss)).length=l.2.1.length:=(qck (a:= .str) (e:= .int .u8) _).trans (qAs h.sz)
  refine ue hx (ud rfl (ug (fun _=>ub rfl) (fun h0=>ug (fun _=>ub rfl) (fun h1=>?_))))
  obtain ⟨j,rfl⟩:∃j:Nat,at_=(j:Int):=⟨at_.toNat,by omega⟩
  have h1':¬(j:Int)≥((qdh (a:= .str) (e:= .int .u8) (qBs l.2.1 qss)).length:Int):=h1
  have hj:j<l.2.1.length:=by omega
  obtain ⟨z1,z2,z3,z4⟩:=qfD h.sz hj
  have hV:=qNc h.o.opd.vl
  have hm:l.2.1.getD j (qqa qfa)∈l.2.1:=qOa (P:=fun r=>r∈l.2.1) (fun r hr=>hr) j hj
  have hnsz:=(hV.each _ hm).2.2
  have hn:=qEQ h.o.opd.vl hj
  have hget:(qdh (a:= .str) (e:= .int .u8) (qBs l.2.1 qss)).getD j (qqa qua)=((l.2.1.getD j (qqa qfa)).1,(dat (qss.getD j []),())):=by
   have:(qdh (a:= .str) (e:= .int .u8) (qBs l.2.1 qss)).getD j (qqa qua)=((qBs l.2.1 qss).map fun x=>(x.1,(x.2,()))).getD j (qqa qua):=rfl
   rw [this,qsL (d:=((wD,[]):ByteArray×List Int)) (by rw [qAs h.sz];exact hj),z4]
  have g0:(0:Int)≤(j:Int):=by omega
  have g1:(j:Int)<wi (qdh (a:= .str) (e:= .int .u8) (qBs l.2.1 qss)).length:=by show (j:Int)<((qdh (a:= .str) (e:= .int .u8) (qBs l.2.1 qss)).length:Int);omega
  have hone:=h.one hn
  obtain ⟨r5,h5⟩:=h.one_any ((l.2.1.getD j (qqa qfa)).1++(wDa #[63]))
  have h56:(qdh (a:= .str) (e:= .int .u8) (qBs l.2.1 qss)).length=1→r5.2=6:=fun hl1=>by
   rw [hml] at hl1
   have hj0:j=0:=by omega
   have hno:nmI ((l.2.1.getD j (qqa qfa)).1++(wDa #[63])) l.2.1 0=none:=by
    subst hj0
    generalize l.2.1=rs at*
    cases rs with
    |nil=>cases hl1
    |cons r rs=>
     have:rs=[]:=wH (by simpa using hl1)
     subst this
     rw [nmI,if_neg,nmI]
     intro hc
     have h2:=congrArg ByteArray.size (toList_inj hc)
     rw [wpb,ByteArray.size_append] at h2
     have:(wDa #[63]).size=1:=by decide
     omega
   have:=h.o.one_no hno
   rw [h5] at this
   rw [Option.some.inj this]
  simp only [wv,wQ,hget]
  refine ua g0 (ua g1 (ue hone (ua g0 (ua g1 (ua ?_ (ue h5 (ua g0 (ua g1 (ua g0 (ua g1 ?_))))))))))
  ·have:(wDa #[63]).size=1:=by decide
   show (l.2.1.getD j (qqa qfa)).1.size+(wDa #[63]).size≤_
   omega
  ·have e1:(wO (l.2.1.getD j (qqa qfa)).1==wO (l.2.1.getD j (qqa qfa)).1)=true:=beq_self_eq_true _
   have e2:(wO (qng (dat (qss.getD j [])))==wO (qng (dat (qss.getD j []))))=true:=beq_self_eq_true _
   by_cases hx3:f<0∨t<f∨t>((dat (qss.getD j [])).length:Int)
   ·have hr6:=h.o.range_arg hn (f:=f) (t:=t) (by rw [z2];exact hx3)
    refine ue hr6 (ud rfl (ua g0 (ua g1 (uv (by rw [e1];decide) (ua g0 (ua g1 (uv (by rw [e2];decide) (uj (fun k=>uh (fun k5=>absurd (h56 ?_) k5) (fun _=>?_)) (fun _=>?_)))))))))
    ·have k':=eq_of_beq k
     exact Int.ofNat.inj k'
    ·exact ug (fun _=>un (by trivial) (ub rfl)) (fun k1=>ug (fun _=>un (by trivial) (ub rfl)) (fun k2=>ug (fun _=>un (by trivial) (ub rfl)) (fun k3=>absurd hx3 (by rintro (k|k|k);exact k1 k;exact k2 k;exact k3 k))))
    ·exact ug (fun _=>un (by trivial) (ub rfl)) (fun k1=>ug (fun _=>un (by trivial) (ub rfl)) (fun k2=>ug (fun _=>un (by trivial) (ub rfl)) (fun k3=>absurd hx3 (by rintro (k|k|k);exact k1 k;exact k2 k;exact k3 k))))
   ·have f0:¬f<0:=fun k=>hx3 (.inl k)
    have f1:¬t<f:=fun k=>hx3 (.inr (.inl k))
    have f2:¬t>((dat (qss.getD j [])).length:Int):=fun k=>hx3 (.inr (.inr k))
    have hr6:=h.range hn (f:=f) (t:=t) (by omega) (by omega) (by omega)
    have e3:(wO (qng (((dat (qss.getD j [])).drop f.toNat).take (t.toNat - f.toNat)))==wO (qng (((dat (qss.getD j [])).drop f.toNat).take (t.toNat - f.toNat))))=true:=beq_self_eq_true _
    have f2':t≤wi (dat (qss.getD j [])).length:=by show t≤((dat (qss.getD j [])).length:Int);omega
    refine ue hr6 (ud rfl (ua g0 (ua g1 (uv (by rw [e1];decide) (ua g0 (ua g1 (uv (by rw [e2];decide) (uj (fun k=>uh (fun k5=>absurd (h56 ?_) k5) (fun _=>?_)) (fun _=>?_)))))))))
    ·have k':=eq_of_beq k
     exact Int.ofNat.inj k'
    ·exact uc f0 (uc f1 (uc f2 (un (by trivial) (un rfl (ua g0 (ua g1 (ua (by omega) (ua (by omega) (ua f2' (ub e3))))))))))
    ·exact uc f0 (uc f1 (uc f2 (un (by trivial) (un rfl (ua g0 (ua g1 (ua (by omega) (ua (by omega) (ua f2' (ub e3))))))))))
theorem bitloftlaw32_ExtractOne_true (x0:pden (.slice (.int .u8))) (z0:wfP (.slice (.int .u8)) x0) (x1:pden (.int .i64)) (z1:wfP (.int .i64) x1) (x2:pden (.int .i64)) (z2:wfP (.int .i64) x2) (x3:pden (.int .i64)) (z3:wfP (.int .i64) x3):qMe x0 x1 x2 x3=some true:=qQP x0 x1 x2 x3 (uI z0.2)
end Go.Ab
