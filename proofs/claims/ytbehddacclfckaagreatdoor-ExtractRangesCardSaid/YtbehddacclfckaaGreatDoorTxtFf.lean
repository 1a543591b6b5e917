/-
  An abstract machine over the model's code and its soundness; what the functions compute, as plain functions (printed by a program of this repo's own, checked here by the kernel); plain laws of them: part 6. Helper text, no statement of the claim stands here.
-/
import Derived.Test.YtbehddacclfckaaGreatDoorTxtFe
/-
  ExtractRanges: the loops.
-/
set_option linter.unusedVariables false
set_option linter.unusedSimpArgs false
set_option maxRecDepth 100000
namespace Go.Ab
open Go
attribute [local irreducible] IntKind.wrap
def qcG (at_ by_:Int) (L:qua) (P:List Int) (q:Nat):Prop:=by_≠0∧P.getD q 0+41≤at_∧at_<P.getD q 0+41+(L.2.2.1.getD q (qja qka)).2.2.2.2.1
def qsF (at_ by_:Int) (W:List Int) (L:qua) (P:List Int) (n:Nat) (hit:Int) (sp:List Int):Prop:=
 (hit=-1∧sp=W)∨∃q:Nat,q<n∧hit=(q:Int)∧qcG at_ by_ L P q∧sp=W.set at_.toNat (qVa .u8 (W.getD at_.toNat 0) by_)
structure PlcP (W:List Int) (L:qua) (P:List Int):Prop where
 wl:W.length≤100000
 len:P.length=L.2.2.1.length
 sm:P.length≤1000
 bd:∀i,i<P.length→0≤P.getD i 0∧0≤(L.2.2.1.getD i (qja qka)).2.2.2.2.1∧P.getD i 0+41+(L.2.2.1.getD i (qja qka)).2.2.2.2.1≤(W.length:Int)
 inc:∀q i,q<i→i<P.length→P.getD q 0+41+(L.2.2.1.getD q (qja qka)).2.2.2.2.1≤P.getD i 0
theorem qbF (l:List qna) (at_ by_ which:Int) (r1:Bool) {W:List Int} {L:qua} {P:List Int} (hP:PlcP W L P):∀(k i:Nat) (hit:Int) (sp:List Int),i+k=P.length→qsF at_ by_ W L P i hit sp→
  ∃hit' sp',qAa l at_ by_ which r1 hit (i:Int) W L P sp=qqa l which r1 hit' (ByteArray.mk #[]) 0 W L sp'∧qsF at_ by_ W L P P.length hit' sp'
 |0,i,hit,sp,e,hI=>by
  rw [qJc,if_neg (by simp;omega)]
  have:i=P.length:=by omega
  subst this
  exact ⟨hit,sp,rfl,hI⟩
 |k+1,i,hit,sp,e,hI=>by
  have hlen:=hP.len
  have hsm:=hP.sm
  have hwl:=hP.wl
  obtain ⟨b1,b2,b3⟩:=hP.bd i (by omega)
  have hmore:¬qcG at_ by_ L P i→qsF at_ by_ W L P (i+1) hit sp:=fun _=>hI.imp id (fun ⟨q,h1,h2⟩=>⟨q,by omega,h2⟩)
  have ih:=fun hit sp=>qbF l at_ by_ which r1 hP k (i+1) hit sp (by omega)
  rw [show ((i+1:Nat):Int)=(i:Int)+1 by omega] at ih
  have key:∀X:Option Bool,X=qAa l at_ by_ which r1 hit ((i:Int)+1) W L P sp→¬qcG at_ by_ L P i→∃hit' sp',X=qqa l which r1 hit' (ByteArray.mk #[]) 0 W L sp'∧qsF at_ by_ W L P P.length hit' sp':=fun X hX hn=>by
   rw [hX];exact ih hit sp (hmore hn)
  rw [qJc]
  simp only [Int.ofNat_eq_natCast,Int.toNat_natCast,Nat.zero_add,decide_eq_true_eq]
  rw [if_pos (by omega),qea (by omega),qea (by omega),w64 (x:=(i:Int)+1) (by omega) (by omega),w64 (x:=P.getD i 0+41) (by omega) (by omega),w64 (x:=P.getD i 0+41+_) (by omega) (by omega)]
  by_cases h1:by_=0
  ·rw [if_neg (by simp [h1])]
   exact key _ rfl (fun h=>h.1 h1)
  ·rw [if_pos (by simp [h1]),qea (by omega),qea (by omega)]
   by_cases h2:at_≥P.getD i 0+41
   ·rw [if_pos h2,qea (by omega),qea (by omega)]
    by_cases h3:at_<P.getD i 0+41+(L.2.2.1.getD i (qja qka)).2.2.2.2.1
    ·have hsp:sp=W:=by
      rcases hI with ⟨_,h⟩|⟨q,h4,h5,⟨_,h6,h7⟩,h8⟩
      ·exact h
      ·have:=hP.inc q i h4 (by omega)
       omega
     subst hsp
     rw [if_pos h3,if_pos (by omega),qea (by omega),qea (by omega),qea (by omega),qea (by omega)]
     exact ih _ _ (.inr ⟨i,by omega,rfl,⟨h1,h2,h3⟩,rfl⟩)
    ·rw [if_neg h3]
     exact key _ rfl (fun h=>h3 h.2.2)
   ·rw [if_neg h2]
    exact key _ rfl (fun h=>h2 h.2.1)
end Go.Ab

/-
  ExtractRanges: the ranges, one behind the other.
-/
set_option linter.unusedVariables false
set_option linter.unusedSimpArgs false
set_option maxRecDepth 100000
namespace Go.Ab
open Go
attribute [local irreducible] IntKind.wrap
theorem Tot.ip {α:Type} {c:Prop} {i:Decidable c} {x y:Option α} {Q:α→Prop} (h:c) (h1:Tot x Q):Tot (@ite _ c i x y) Q:=by rw [if_pos h];exact h1
theorem Tot.inn {α:Type} {c:Prop} {i:Decidable c} {x y:Option α} {Q:α→Prop} (h:¬c) (h1:Tot y Q):Tot (@ite _ c i x y) Q:=by rw [if_neg h];exact h1
theorem qrz (a b:List Int):qPb a++qPb b=qPb (a++b):=by
 apply ByteArray.ext
 rw [ByteArray.data_append]
 unfold qPb
 simp
structure RngP (l:List qna) (which:Nat) (hit:Int) (W c:List Int) (L:qua) (bs:List qda) (d:List Int):Prop where
 hw:which<l.length
 ll:l.length≤100
 hd:L.2.2.1=bs.map (·.1)
 ln:bs.length≤1000
 sm:∀b∈bs,SmB b∧b.2.1.length≤5000
 ht:hit<(bs.length:Int)
 bd:Bts d
 rng:∀i,i<bs.length→(bs.getD i (qja qfa)).1.2.1=(which:Int)→hit≠(i:Int)→qRa c (l.getD which (qja T_api_Member)).1 (bs.getD i (qja qfa)).1.2.2.1 ((bs.getD i (qja qfa)).1.2.2.1+(bs.getD i (qja qfa)).1.2.2.2.1)=some ((bs.getD i (qja qfa)).2.1,0)
 rhit:∀i,i<bs.length→(bs.getD i (qja qfa)).1.2.1=(which:Int)→hit=(i:Int)→qRa c (l.getD which (qja T_api_Member)).1 (bs.getD i (qja qfa)).1.2.2.1 ((bs.getD i (qja qfa)).1.2.2.1+(bs.getD i (qja qfa)).1.2.2.2.1)=some ([],22)∨
  (∃z,qRa c (l.getD which (qja T_api_Member)).1 (bs.getD i (qja qfa)).1.2.2.1 ((bs.getD i (qja qfa)).1.2.2.1+(bs.getD i (qja qfa)).1.2.2.2.1)=some (z,0))∧qBd W c hit L=some true
 one:(∀q:Nat,hit=(q:Int)→(bs.getD q (qja qfa)).1.2.1≠(which:Int))→dat ((ofM (which:Int) bs).map prt)=d∧(l.getD which (qja T_api_Member)).2.1=d∧∃nm,qFc c (l.getD which (qja T_api_Member)).1=some ((nm,(d,())),0)
theorem qkw {bs:List qda} {i:Nat} (h:i<bs.length):(bs.map (·.1)).getD i (qja qka)=(bs.getD i (qja qfa)).1:=by
 rw [List.getD_eq_getElem?_getD,List.getElem?_map,List.getElem?_eq_getElem h,List.getD_eq_getElem?_getD,List.getElem?_eq_getElem h];rfl
theorem qaF {l:List qna} {which:Nat} {hit:Int} {W c:List Int} {L:qua} {bs:List qda} {d:List Int} (h:RngP l which hit W c L bs d):∀(k i:Nat) (acc:ByteArray),i+k=bs.length→acc.size≤10000*i→
  ((∀q:Nat,hit=(q:Int)→(bs.getD q (qja qfa)).1.2.1≠(which:Int))→acc=qPb (dat ((ofM (which:Int) (bs.take i)).map prt)))→qqa l (which:Int) true hit acc (i:Int) W L c=some true
 |0,i,acc,e,ha,hA=>by
  have hll:=h.ll
  have hw:=h.hw
  have hlen:L.2.2.1.length=bs.length:=by rw [h.hd,List.length_map]
  rw [List.take_of_length_le (by omega)] at hA
  have fin:(∀q:Nat,hit=(q:Int)→(bs.getD q (qja qfa)).1.2.1≠(which:Int))→∃nm,qFc c (l.getD which (qja T_api_Member)).1=some ((nm,(d,())),0)∧(ByteArray.toList acc==ByteArray.toList (qPb (l.getD which (qja T_api_Member)).2.1))=true∧(ByteArray.toList (qPb d)==ByteArray.toList acc)=true:=fun hq=>by
   obtain ⟨o1,o2,nm,o3⟩:=h.one hq
   have h1:=hA hq
   rw [o1] at h1
   exact ⟨nm,o3,by rw [h1,o2];exact beq_self_eq_true _,by rw [h1];exact beq_self_eq_true _⟩
  rw [qIc]
  simp only [Int.ofNat_eq_natCast,Int.toNat_natCast]
  rw [if_neg (by simp;omega)]
  by_cases h0:hit≥0
  ·have hht:=h.ht
   have hth:(hit.toNat:Int)=hit:=Int.toNat_of_nonneg h0
   rw [if_pos (by simpa using h0),qea h0,qea (by omega),h.hd,qkw (by omega)]
   by_cases hm:(bs.getD hit.toNat (qja qfa)).1.2.1=(which:Int)
   ·rw [if_pos (by rw [hm];exact beq_self_eq_true _)]
   ·rw [if_neg (fun k=>hm (eq_of_beq k))]
    obtain ⟨nm,f1,f2,f3⟩:=fin (fun q hq=>by
     have:hit.toNat=q:=by omega
     rw [←this];exact hm)
    refine Tot.eq (Tot.g (by omega) (Tot.g (by omega) (Tot.be f1 (Tot.ip (by trivial) (Tot.g (by omega) (Tot.g (by omega) (Tot.ip f2 (Tot.ip (by rfl) (Tot.so f3)))))))))
  ·rw [if_neg (by simpa using h0)]
   obtain ⟨nm,f1,f2,f3⟩:=fin (fun q hq=>by omega)
   refine Tot.eq (Tot.g (by omega) (Tot.g (by omega) (Tot.be f1 (Tot.ip (by trivial) (Tot.g (by omega) (Tot.g (by omega) (Tot.ip f2 (Tot.ip (by rfl) (Tot.so f3)))))))))
 |k+1,i,acc,e,ha,hA=>by
  have hll:=h.ll
  have hw:=h.hw
  have hln:=h.ln
  have hlen:L.2.2.1.length=bs.length:=by rw [h.hd,List.length_map]
  have hd:=qBa (qja qfa:qda) (xs:=bs) (i:=i) (by omega)
  obtain ⟨s1,s2⟩:=h.sm _ hd.2.2
  obtain ⟨s3,s4,s5,s6⟩:=s1
  have hap:∀a b:List qda,ofM (which:Int) (a++b)=ofM (which:Int) a++ofM (which:Int) b:=fun a b=>List.filter_append ..
  have ih:=fun acc=>qaF h k (i+1) acc (by omega)
  rw [show ((i+1:Nat):Int)=(i:Int)+1 by omega,hd.2.1,hap] at ih
  rw [qIc]
  simp only [Int.ofNat_eq_natCast,Int.toNat_natCast]
  rw [if_pos (by simp;omega),qea (by omega),qea (by omega),w64 (x:=(i:Int)+1) (by omega) (by omega),h.hd,qkw (by omega)]
  have hr1:=h.rng i (by omega)
  have hr2:=h.rhit i (by omega)
  have hself:∀q:Nat,hit=(q:Int)→(bs.getD q (qja qfa)).1.2.1≠(which:Int)→q=i→(bs.getD i (qja qfa)).1.2.1≠(which:Int):=fun q _ h1 h2=>h2▸h1
  generalize hxx:bs.getD i (qja qfa)=x at*
  by_cases hm:x.1.2.1=(which:Int)
  ·rw [if_neg (by simp [hm]),qea (by omega),qea (by omega),w64 (x:=x.1.2.2.1+x.1.2.2.2.1) (by omega) (by omega)]
   by_cases hh:hit=(i:Int)
   ·have keep:qqa l (which:Int) true hit acc ((i:Int)+1) W L c=some true:=ih acc (by omega) (fun hq=>absurd hm (by have:=hq i hh;rw [hxx] at this;exact this))
    have e1:((i:Int)==hit)=true:=by rw [hh];exact beq_self_eq_true _
    have e2:((i:Int) != hit)=false:=by rw [bne,e1];rfl
    rcases hr2 hm hh with hr|⟨⟨z,hr⟩,hg⟩
    ·refine Tot.eq (Tot.be hr ?_)
     rw [e1,e2]
     exact Tot.inn (show ¬(!(true==((22:Int)==22)))=true by decide) (Tot.inn (show ¬false=true by decide) (Tot.inn (show ¬((22:Int)==0)=true by decide) (Tot.of_eq keep rfl)))
    ·refine Tot.eq (Tot.be hr ?_)
     rw [e1,e2]
     exact Tot.ip (show (!(true==((0:Int)==22)))=true by decide) (Tot.be hg (Tot.inn (show ¬(!true)=true by decide) (Tot.inn (show ¬false=true by decide) (Tot.ip (show ((0:Int)==0)=true by decide) (Tot.inn (show ¬false=true by decide) (Tot.of_eq keep rfl))))))
   ·have hr:=hr1 hm hh
    have e1:((i:Int)==hit)=false:=by rw [beq_eq_false_iff_ne];exact fun k=>hh k.symm
    have e2:((i:Int) != hit)=true:=by rw [bne,e1];rfl
    have hsz:(qPb x.2.1).size=x.2.1.length:=qps _
    have go:qqa l (which:Int) true hit (acc++qPb x.2.1) ((i:Int)+1) W L c=some true:=ih _ (by rw [ByteArray.size_append,hsz];omega) (fun hq=>by
     have hof:ofM (which:Int) [x]=[x]:=by unfold ofM;rw [List.filter_cons_of_pos (by rw [beq_iff_eq];exact hm)];rfl
     rw [hA hq,qrz,hof,List.map_append]
     unfold dat
     rw [List.flatMap_append]
     congr 2
     show x.2.1=[prt x].flatMap _
     simp [prt])
    refine Tot.eq (Tot.be hr ?_)
    rw [e1,e2]
    exact Tot.inn (show ¬(!(false==((0:Int)==22)))=true by decide) (Tot.ip (show true=true from rfl) (Tot.inn (show ¬((0:Int) != 0)=true by decide) (Tot.ip (show ((0:Int)==0)=true by decide) (Tot.ip (show true=true from rfl) (Tot.g (by show acc.size+(qPb x.2.1).size≤_;omega) (Tot.of_eq go rfl))))))
  ·rw [if_pos (by simp [hm])]
   exact ih acc (by omega) (fun hq=>by
    have hof:ofM (which:Int) [x]=[]:=by unfold ofM;rw [List.filter_cons_of_neg (by simpa using hm)];rfl
    rw [hof,List.append_nil]
    exact hA hq)
end Go.Ab

/-
  ExtractRanges: the changed archive; the law.
-/
set_option linter.unusedVariables false
set_option linter.unusedSimpArgs false
set_option maxRecDepth 100000
namespace Go.Ab
open Go
attribute [local irreducible] IntKind.wrap
theorem qLB:∀{bs:List qda} {ps:List qia} {k:Nat} {x:qda},Fit bs ps→k<bs.length→bC x=0→bWf x→x.1=(bs.getD k (qja qfa)).1→Fit (bs.set k x) ps
 |[],_,_,_,_,h,_,_,_=>by cases h
 |_::_,[],_,_,h,_,_,_,_=>h.elim
 |b::bs,p::ps,0,x,h,_,hc,hw,hx=>⟨⟨hc,hw,by rw [hx];exact h.1.2.2⟩,h.2⟩
 |b::bs,p::ps,k+1,x,h,hk,hc,hw,hx=>⟨h.1,qLB h.2 (by simpa using hk) hc hw hx⟩
theorem qXB {bs:List qda} {k:Nat} {x:qda} (hk:k<bs.length) (hx:x.1=(bs.getD k (qja qfa)).1):(bs.set k x).map (·.1)=bs.map (·.1):=by
 apply List.ext_getElem?
 intro j
 rw [List.getElem?_map,List.getElem?_set,List.getElem?_map]
 by_cases h:k=j
 ·subst h
  rw [if_pos rfl,if_pos hk,List.getElem?_eq_getElem hk]
  rw [List.getD_eq_getElem?_getD,List.getElem?_eq_getElem hk] at hx
  exact congrArg some hx
 ·rw [if_neg h]
theorem qUD {α β:Type} {f:α→β} {xs:List α} {i:Nat} {d:α} {e:β} (h:i<xs.length):(xs.map f).getD i e=f (xs.getD i d):=by
 rw [List.getD_eq_getElem?_getD,List.getElem?_map,List.getElem?_eq_getElem h,List.getD_eq_getElem?_getD,List.getElem?_eq_getElem h];rfl
structure ChgA (D:Nat→List Int) (rs:List qaa) (hit:Int) (sp:List Int) (bs':List qda):Prop where
 opd:Opd sp (sA,(rs,((bsA D rs).map (·.1),()))) bs'
 bts:Bts sp
 len:bs'.length=(psA rs).length
 hds:bs'.map (·.1)=(bsA D rs).map (·.1)
 md:∀b∈bs',b.1.1=1
 old:∀i:Nat,i<bs'.length→hit≠(i:Int)→bs'.getD i (qja qfa)=stB D ((psA rs).getD i (qja qca))
 new:∀i:Nat,hit=(i:Int)→i<bs'.length∧(bs'.getD i (qja qfa)).2.1≠(stB D ((psA rs).getD i (qja qca))).2.1
section
variable {D:Nat→List Int} {rs:List qaa}
theorem qNg:(bsA D rs).length=(psA rs).length:=List.length_map ..
theorem qAr {i:Nat} (h:i<(psA rs).length):(bsA D rs).getD i (qja qfa)=stB D ((psA rs).getD i (qja qca)):=qUD h
theorem Arc.bts32 (h:Arc D rs):Bts (qMm D rs):=by
 have key:∀ps:List qia,Bts (qbh (ps.map (stB D))):=fun ps=>by
  induction ps with
  |nil=>exact Bts.nil
  |cons p ps ih=>exact Bts.append (Bts.append (Bts.append qxx (Bts.append (qIA _) (qBp _))) (((h.bts _).drop _).take _)) ih
 exact Bts.append (qWu _ _ h.sums) (key _)
theorem ChgA.none (h:Arc D rs) (ht:tot rs≤80):ChgA D rs (-1) (qMm D rs) (bsA D rs):=by
 have hr:=h.read ht
 have ho:=qdD h.bts32 (by rw [hr])
 rw [hr] at ho
 refine ⟨ho,h.bts32,qNg,rfl,fun b hb=>?_,fun i hi _=>qAr (by rw [←qNg (D:=D)];exact hi),fun i hi=>by omega⟩
 obtain ⟨p,hp,rfl⟩:=List.mem_map.1 hb
 rfl
theorem ChgA.one (h:Arc D rs) (ht:tot rs≤80) {q j:Nat} {v:Int} (hq:q<(psA rs).length) (hj:j<(stB D ((psA rs).getD q (qja qca))).2.1.length) (hv:0≤v∧v<256) {n:Nat} (hn:n=(qAf sA rs).length+((qbh ((bsA D rs).take q)).length+41+j)) (hne:(qMm D rs).getD n 0≠v):
  ChgA D rs (q:Int) ((qMm D rs).set n v) ((bsA D rs).set q ((stB D ((psA rs).getD q (qja qca))).1,((stB D ((psA rs).getD q (qja qca))).2.1.set j v,()))):=by
 have hg:=qAr (D:=D) hq
 have hqb:q<(bsA D rs).length:=by rw [qNg];exact hq
 have hm:(psA rs).getD q (qja qca)∈psA rs:=qZg (P:=fun p=>p∈psA rs) (fun p hp=>hp) q hq
 obtain ⟨a1,a2,a3,a4,a5,a6⟩:=h.piece hm
 have hF:=h.fit (psA rs) (fun p hp=>hp)
 have hw:bWf (stB D ((psA rs).getD q (qja qca))):=qdh _ _ _
 have hset:(qMm D rs).set n v=qWk sA rs ((bsA D rs).set q ((stB D ((psA rs).getD q (qja qca))).1,((stB D ((psA rs).getD q (qja qca))).2.1.set j v,()))):=by
  unfold qMm qWk
  rw [hn,List.set_append_right _ _ (by omega),show (qAf sA rs).length+((qbh ((bsA D rs).take q)).length+41+j) - (qAf sA rs).length=(qbh ((bsA D rs).take q)).length+41+j by omega,qFC hqb (by rw [hg];exact hw) (by rw [hg];exact hj),hg]
 have hlen:=h.len ht
 have hbC:bC ((stB D ((psA rs).getD q (qja qca))).1,((stB D ((psA rs).getD q (qja qca))).2.1.set j v,()))=0:=by
  have:=qcu a3
  unfold bC at this ⊢
  show (if _∧((((stB D ((psA rs).getD q (qja qca))).2.1.set j v).length:Nat):Int)=_ then (0:Int) else 8)=0
  rw [List.length_set]
  exact this
 have hFs:Fit ((bsA D rs).set q ((stB D ((psA rs).getD q (qja qca))).1,((stB D ((psA rs).getD q (qja qca))).2.1.set j v,()))) (ap sA.2.1 0 rs):=qLB hF hqb hbC hw (by rw [hg])
 have hmp:=qXB (bs:=bsA D rs) (k:=q) (x:=((stB D ((psA rs).getD q (qja qca))).1,((stB D ((psA rs).getD q (qja qca))).2.1.set j v,()))) hqb (by rw [hg])
 have hb:Bts ((qMm D rs).set n v):=fun y hy=>(List.mem_or_eq_of_mem_set hy).elim (fun k=>h.bts32 y k) (fun k=>k▸hv)
 have hl:((qMm D rs).set n v).length≤40000:=by rw [List.length_set];omega
 have ho:=qft (s:=sA) (rs:=rs) (by decide) h.val h.sums hFs (by rw [←hset];exact hl) (by rw [←hset];exact hb)
 rw [←hset,hmp] at ho
 have hnl:n<(qMm D rs).length:=by
  have e:=(h.len ht).2.1
  have e2:(qAf sA rs).length=28+(qtb rs).length:=qhl
  have hsp:bsA D rs=(bsA D rs).take q++(bsA D rs).getD q (qja qfa)::(bsA D rs).drop (q+1):=by
   rw [←(qBa (qja qfa:qda) hqb).1,List.take_append_drop]
  have e3:=congrArg (fun l=>(qbh l).length) hsp
  simp only [qll,qbh,List.length_append] at e3
  rw [hg,qZo hw] at e3
  omega
 refine ⟨ho,hb,by rw [List.length_set,qNg],hmp,fun b hb=>?_,fun i hi hne=>?_,fun i hi=>?_⟩
 ·rcases List.mem_or_eq_of_mem_set hb with k|k
  ·obtain ⟨p,hp,rfl⟩:=List.mem_map.1 k;rfl
  ·rw [k];rfl
 ·rw [List.length_set,qNg] at hi
  rw [List.getD_eq_getElem?_getD,List.getElem?_set,if_neg (by omega),←List.getD_eq_getElem?_getD]
  exact qAr hi
 ·have:i=q:=by omega
  subst this
  refine ⟨by rw [List.length_set];exact hqb,?_⟩
  rw [List.getD_eq_getElem?_getD,List.getElem?_set,if_pos rfl,if_pos hqb]
  show (stB D ((psA rs).getD i (qja qca))).2.1.set j v≠(stB D ((psA rs).getD i (qja qca))).2.1
  intro hc
  have e1:(bsA D rs).set i ((stB D ((psA rs).getD i (qja qca))).1,((stB D ((psA rs).getD i (qja qca))).2.1.set j v,()))=bsA D rs:=by
   rw [hc]
   show (bsA D rs).set i (stB D ((psA rs).getD i (qja qca)))=_
   rw [←hg,qUs hqb]
  rw [e1] at hset
  have e2:((qMm D rs).set n v).getD n 0=v:=qJe hnl
  rw [hset] at e2
  exact hne e2
end
end Go.Ab

/-
  ExtractRanges: what the calls answer for a changed archive.
-/
set_option linter.unusedVariables false
set_option linter.unusedSimpArgs false
set_option maxRecDepth 100000
namespace Go.Ab
open Go
attribute [local irreducible] IntKind.wrap
theorem qmr {α:Type} {P:α→Bool} {d:α}:∀{xs ys:List α},xs.length=ys.length→(∀i,i<xs.length→xs.getD i d=ys.getD i d∨(P (xs.getD i d)=false∧P (ys.getD i d)=false))→xs.filter P=ys.filter P
 |[],[],_,_=>rfl
 |[],_::_,h,_=>by cases h
 |_::_,[],h,_=>by cases h
 |x::xs,y::ys,h,hi=>by
  have ih:=qmr (xs:=xs) (ys:=ys) (by simpa using h) (fun i k=>hi (i+1) (by rw [List.length_cons];omega))
  rcases hi 0 (by simp) with h0|⟨h1,h2⟩
  ·have h0':x=y:=h0
   rw [h0',List.filter_cons,List.filter_cons,ih]
  ·have h1':P x=false:=h1
   have h2':P y=false:=h2
   rw [List.filter_cons_of_neg (by rw [h1'];decide),List.filter_cons_of_neg (by rw [h2'];decide),ih]
theorem qoD:∀(qs:List qpa),dat (qs.map z0)=dat qs
 |[]=>rfl
 |q::qs=>by rw [List.map_cons,qyn,qyn,qoD qs];rfl
theorem qjz:∀(rs:List qaa) (acc:Int) (nm:List ByteArray),vld acc nm rs=0→∀r∈rs,qOs r=false
 |[],_,_,_,r,hr=>by cases hr
 |x::rs,acc,nm,h,r,hr=>by
  rw [vld] at h
  by_cases hb:qOs x=true
  ·rw [if_pos hb] at h;cases h
  ·rw [if_neg hb] at h
   rcases List.mem_cons.1 hr with rfl|hr
   ·simpa using hb
   ·exact qjz rs _ _ h r hr
theorem qlz {rs:List qaa} (hv:qZc rs=0) {r:qaa} (hr:r∈rs):qZc [r]=0:=by
 have hV:=(qoc hv).each r hr
 unfold qZc at hv
 split at hv
 ·cases hv
 ·have hb:=qjz rs 0 [] hv r hr
  unfold qZc
  rw [if_neg (by simp),vld,if_neg (by rw [hb];decide),vld,if_neg (by omega),if_neg (by simp [qJs,qHu])]
theorem qpz:∀{rs:List qaa},(∀r∈rs,0≤r.2.1)→∀r∈rs,r.2.1≤tot rs∧0≤tot rs
 |[],_,r,hr=>by cases hr
 |x::rs,h,r,hr=>by
  have hx:=h x (List.mem_cons_self ..)
  have e:tot (x::rs)=x.2.1+tot rs:=rfl
  have hn:0≤tot rs:=by
   cases rs with
   |nil=>exact Int.le_refl _
   |cons y rs=>exact (qpz (fun z hz=>h z (List.mem_cons_of_mem _ hz)) y (List.mem_cons_self ..)).2
  rcases List.mem_cons.1 hr with rfl|hr
  ·omega
  ·have:=qpz (fun z hz=>h z (List.mem_cons_of_mem _ hz)) r hr
   omega
section
variable {D:Nat→List Int} {rs:List qaa} {hit:Int} {sp:List Int} {bs':List qda}
theorem ChgA.at_ (C:ChgA D rs hit sp bs') (h:Arc D rs) {i:Nat} (hi:i<bs'.length):∃p,p∈psA rs∧(psA rs).getD i (qja qca)=p∧InP rs 0 p∧(bs'.getD i (qja qfa)).1=(stB D p).1∧(bs'.getD i (qja qfa)).1.2.1=p.1∧(bs'.getD i (qja qfa)).1.2.2.1=p.2.1∧(bs'.getD i (qja qfa)).1.2.2.2.1=p.2.2.1∧((bs'.getD i (qja qfa)).2.1.length:Int)=p.2.2.1∧p.2.1+p.2.2.1≤8192∧p.2.2.1≤16∧bs'.getD i (qja qfa)∈bs':=by
 have hi2:i<(psA rs).length:=by rw [←C.len];exact hi
 have hm:(psA rs).getD i (qja qca)∈psA rs:=qZg (P:=fun p=>p∈psA rs) (fun p hp=>hp) i hi2
 obtain ⟨a1,a2,a3,a4,a5,a6⟩:=h.piece hm
 have hb:bs'.getD i (qja qfa)∈bs':=qZg (P:=fun p=>p∈bs') (fun p hp=>hp) i hi
 have e1:(bs'.getD i (qja qfa)).1=(stB D ((psA rs).getD i (qja qca))).1:=by
  rw [←qkw hi,C.hds,qkw (by rw [qNg];exact hi2),qAr hi2]
 have hok:=(C.opd.ok _ hb).2.1
 have hln:((bs'.getD i (qja qfa)).2.1.length:Int)=(bs'.getD i (qja qfa)).1.2.2.2.2.1:=by
  unfold bC at hok
  split at hok
  ·rename_i hk;exact hk.2
  ·cases hok
 rw [e1] at hln
 have e5:(stB D ((psA rs).getD i (qja qca))).1.2.2.2.2.1=((ptD D ((psA rs).getD i (qja qca))).2.1.length:Int):=rfl
 unfold mOK at a3
 refine ⟨_,hm,rfl,a1,e1,by rw [e1];rfl,by rw [e1];rfl,by rw [e1];exact a5,by rw [hln,e5];exact a5,by omega,a2,hb⟩
theorem ChgA.pw (C:ChgA D rs hit sp bs') (h:Arc D rs):(bs'.map pcB).Pairwise ltP:=by
 have e:bs'.map pcB=psA rs:=by
  have e1:bs'.map pcB=(bs'.map (·.1)).map fun g=>(g.2.1,(g.2.2.1,(g.2.2.2.1,()))):=by rw [List.map_map];rfl
  have e2:(psA rs).map (fun p=>pcB (stB D p))=(psA rs).map id:=List.map_congr_left fun p hp=>by
   obtain ⟨a1,a2,a3,a4,a5,a6⟩:=h.piece hp
   show (p.1,(p.2.1,(((ptD D p).2.1.length:Int),())))=p
   rw [a5]
  rw [List.map_id] at e2
  rw [e1,C.hds]
  unfold bsA
  rw [List.map_map,List.map_map]
  exact e2
 rw [e]
 exact qoF 16 (by decide) rs 0
theorem ChgA.range (C:ChgA D rs hit sp bs') (h:Arc D rs) {nm:ByteArray} {which:Nat} (hn:nmI nm rs 0=some which) {i:Nat} (hi:i<bs'.length) (hw:(bs'.getD i (qja qfa)).1.2.1=(which:Int)):
  qRa sp nm (bs'.getD i (qja qfa)).1.2.2.1 ((bs'.getD i (qja qfa)).1.2.2.1+(bs'.getD i (qja qfa)).1.2.2.2.1)=some (if (qLr (bs'.getD i (qja qfa))).2=0 then ((bs'.getD i (qja qfa)).2.1,0) else ([],22)):=by
 obtain ⟨p,p1,p2,p3,p4,p5,p6,p7,p8,p9,p10,p11⟩:=C.at_ h hi
 have hob:=qkA (C.pw h) hi (by rw [p7];exact p3.2.2.2.1)
 have o:=C.opd.opn C.md
 obtain ⟨i1,i2,i3,i4,i5⟩:=p3
 have hpw:p.1=(which:Int):=by rw [←p5];exact hw
 have hsz:p.2.1+p.2.2.1≤(rs.getD which (qja qba)).2.1:=by
  rw [hpw,show (((which:Int) - 0).toNat)=which by omega] at i5
  exact i5
 rw [hw] at hob
 rw [p6,p7] at hob ⊢
 generalize bs'.getD i (qja qfa)=x at*
 by_cases hr:(qLr x).2=0
 ·rw [if_pos hr]
  have hpr:qFp (onR p.2.1 (p.2.1+p.2.2.1) (ofM (which:Int) bs'))=some [prt x]:=by rw [hob];exact qbn (fun y hy=>by rw [List.mem_singleton.1 hy];exact hr)
  have hlo:loR p.2.1 x.1.2.2.1=0:=by unfold loR;rw [p6];split <;> omega
  have hhi:hiR (p.2.1+p.2.2.1) x.1.2.2.1 x.2.1.length=(x.2.1.length:Int):=by unfold hiR;rw [p6];split <;> omega
  have hR:=o.range_some C.opd.smb hn (f:=p.2.1) (t:=p.2.1+p.2.2.1) (by omega) (by omega) hsz hpr (by show 1≤10000;decide) (fun y hy=>by
   rw [List.mem_singleton.1 hy]
   show 0≤p.2.1∧p.2.1≤1000000∧0≤p.2.1+p.2.2.1∧p.2.1+p.2.2.1≤1000000∧0≤x.1.2.2.1∧x.1.2.2.1≤1000000∧x.2.1.length≤1000000∧loR p.2.1 x.1.2.2.1≤hiR (p.2.1+p.2.2.1) x.1.2.2.1 x.2.1.length
   rw [hlo,hhi]
   omega)
  rw [hR]
  have hcut:qBC p.2.1 (p.2.1+p.2.2.1) (prt x)=x.2.1:=by
   show (x.2.1.drop (loR p.2.1 x.1.2.2.1).toNat).take ((hiR (p.2.1+p.2.2.1) x.1.2.2.1 x.2.1.length).toNat - (loR p.2.1 x.1.2.2.1).toNat)=x.2.1
   rw [hlo,hhi]
   show (x.2.1.drop 0).take (x.2.1.length - 0)=_
   rw [List.drop_zero,Nat.sub_zero,List.take_length]
  rw [List.flatMap_cons,List.flatMap_nil,List.append_nil,hcut]
 ·rw [if_neg hr]
  exact o.range_none C.opd.smb hn (by omega) (by omega) hsz (by rw [hob];exact qfx ⟨x,List.mem_singleton.2 rfl,hr⟩)
theorem ChgA.member (C:ChgA D rs hit sp bs') (h:Arc D rs) {which:Nat} (hw:which<rs.length) (hq:∀q:Nat,hit=(q:Int)→(bs'.getD q (qja qfa)).1.2.1≠(which:Int)):
  ofM (which:Int) bs'=(pcs (which:Int) ((D which).length:Int) 16 8200 0).map (stB D):=by
 have e:=qeD D which rs 0 (Nat.zero_le _) (by omega)
 rw [Nat.sub_zero,←h.sz which hw] at e
 rw [←e]
 refine qmr (d:=qja qfa) (by rw [C.len];exact (List.length_map ..).symm) (fun i hi=>?_)
 obtain ⟨p,p1,p2,p3,p4,p5,p6,p7,p8,p9,p10,p11⟩:=C.at_ h hi
 have eb:((ap 16 ((0:Nat):Int) rs).map (stB D)).getD i (qja qfa)=stB D p:=by
  rw [←p2]
  exact qAr (D:=D) (by rw [←C.len];exact hi)
 rw [eb]
 by_cases hh:hit=(i:Int)
 ·refine .inr ⟨?_,?_⟩
  ·rw [beq_eq_false_iff_ne];exact hq i hh
  ·rw [beq_eq_false_iff_ne]
   have:=hq i hh
   rw [p5] at this
   exact this
 ·left
  rw [C.old i hi hh,p2]
end
end Go.Ab

/-
  ExtractRanges: the law.
-/
set_option linter.unusedVariables false
set_option linter.unusedSimpArgs false
set_option maxRecDepth 100000
namespace Go.Ab
open Go
attribute [local irreducible] IntKind.wrap
theorem qNx {bs:List qda} {a b:Nat} (h:a≤b):(qbh (bs.take a)).length≤(qbh (bs.take b)).length:=by
 have e:bs.take b=bs.take a++(bs.take b).drop a:=by
  conv=>lhs;rw [←List.take_append_drop a (bs.take b),List.take_take,Nat.min_eq_left h]
 rw [e,qll,List.length_append]
 omega
theorem qEC {bs:List qda} {i:Nat} (hi:i<bs.length) (hw:bWf (bs.getD i (qja qfa))):(qbh (bs.take (i+1))).length=(qbh (bs.take i)).length+(41+(bs.getD i (qja qfa)).2.1.length):=by
 have hd:=qBa (qja qfa:qda) (xs:=bs) (i:=i) hi
 rw [hd.2.1,qll,List.length_append,qbh,qbh,List.append_nil,qZo hw]
section
variable {l:List qna}
theorem qOD (h:Arc (qnb l) (recs l)) (ht:tot (recs l)≤80):PlcP (qMm (qnb l) (recs l)) (sA,(recs l,((bsA (qnb l) (recs l)).map (·.1),()))) (plc (28+qqn (recs l)) ((bsA (qnb l) (recs l)).map (·.1))):=by
 have hlen:=h.len ht
 have hb:∀b∈bsA (qnb l) (recs l),bWf b∧(b.2.1.length:Int)=b.1.2.2.2.2.1:=fun b hb=>by
  obtain ⟨p,hp,rfl⟩:=List.mem_map.1 hb
  exact ⟨qdh _ _ _,rfl⟩
 have hrl:=qoh (recs l) h.sums
 have hpl:=qdn ((bsA (qnb l) (recs l)).map (·.1)) (28+qqn (recs l))
 have hml:((bsA (qnb l) (recs l)).map (·.1)).length=(bsA (qnb l) (recs l)).length:=List.length_map ..
 have hal:=qNg (D:=qnb l) (rs:=recs l)
 have at_:∀i,i<(bsA (qnb l) (recs l)).length→(plc (28+qqn (recs l)) ((bsA (qnb l) (recs l)).map (·.1))).getD i 0=28+qqn (recs l)+((qbh ((bsA (qnb l) (recs l)).take i)).length:Int)∧@Eq Int (((bsA (qnb l) (recs l)).map (·.1)).getD i (qja qka)).2.2.2.2.1 (((bsA (qnb l) (recs l)).getD i (qja qfa)).2.1.length:Int)∧
   (qbh ((bsA (qnb l) (recs l)).take (i+1))).length=(qbh ((bsA (qnb l) (recs l)).take i)).length+(41+((bsA (qnb l) (recs l)).getD i (qja qfa)).2.1.length)∧(qbh ((bsA (qnb l) (recs l)).take (i+1))).length≤(qbh (bsA (qnb l) (recs l))).length:=fun i hi=>by
  have hmm:(bsA (qnb l) (recs l)).getD i (qja qfa)∈bsA (qnb l) (recs l):=qZg (P:=fun b=>b∈bsA (qnb l) (recs l)) (fun b hb=>hb) i hi
  have hm:=hb _ hmm
  refine ⟨qUz _ _ i hb hi,by rw [qkw hi];exact hm.2.symm,qEC hi hm.1,?_⟩
  have:=qNx (bs:=bsA (qnb l) (recs l)) (show i+1≤(bsA (qnb l) (recs l)).length by omega)
  rwa [List.take_length] at this
 refine ⟨by omega,hpl,by omega,fun i hi=>?_,fun q i hqi hi=>?_⟩
 ·rw [hpl,hml] at hi
  obtain ⟨a1,a2,a3,a4⟩:=at_ i hi
  refine ⟨by omega,?_,?_⟩
  ·show @LE.le Int _ 0 (((bsA (qnb l) (recs l)).map (·.1)).getD i (qja qka)).2.2.2.2.1
   omega
  ·show (plc (28+qqn (recs l)) ((bsA (qnb l) (recs l)).map (·.1))).getD i 0+41+(((bsA (qnb l) (recs l)).map (·.1)).getD i (qja qka)).2.2.2.2.1≤((qMm (qnb l) (recs l)).length:Int)
   omega
 ·rw [hpl,hml] at hi
  obtain ⟨a1,a2,a3,a4⟩:=at_ i hi
  obtain ⟨c1,c2,c3,c4⟩:=at_ q (by omega)
  have:=qNx (bs:=bsA (qnb l) (recs l)) (show q+1≤i by omega)
  show (plc (28+qqn (recs l)) ((bsA (qnb l) (recs l)).map (·.1))).getD q 0+41+(((bsA (qnb l) (recs l)).map (·.1)).getD q (qja qka)).2.2.2.2.1≤(plc (28+qqn (recs l)) ((bsA (qnb l) (recs l)).map (·.1))).getD i 0
  omega
theorem qfF (h:Arc (qnb l) (recs l)) (ht:tot (recs l)≤80) {at_ by_:Int} (hby:0≤by_∧by_<256) {hit:Int} {sp:List Int}
  (hI:qsF at_ by_ (qMm (qnb l) (recs l)) (sA,(recs l,((bsA (qnb l) (recs l)).map (·.1),()))) (plc (28+qqn (recs l)) ((bsA (qnb l) (recs l)).map (·.1))) (plc (28+qqn (recs l)) ((bsA (qnb l) (recs l)).map (·.1))).length hit sp):∃bs',ChgA (qnb l) (recs l) hit sp bs':=by
 rcases hI with ⟨rfl,rfl⟩|⟨q,hq,rfl,⟨h0,h1,h2⟩,rfl⟩
 ·exact ⟨_,ChgA.none h ht⟩
 ·have hpl:=qdn ((bsA (qnb l) (recs l)).map (·.1)) (28+qqn (recs l))
  rw [hpl,List.length_map,qNg] at hq
  have hb:∀b∈bsA (qnb l) (recs l),bWf b∧(b.2.1.length:Int)=b.1.2.2.2.2.1:=fun b hb=>by
   obtain ⟨p,hp,rfl⟩:=List.mem_map.1 hb
   exact ⟨qdh _ _ _,rfl⟩
  have hqb:q<(bsA (qnb l) (recs l)).length:=by rw [qNg];exact hq
  have e1:=qUz _ (28+qqn (recs l)) q hb hqb
  have e2:(((bsA (qnb l) (recs l)).map (·.1)).getD q (qja qka)).2.2.2.2.1=((stB (qnb l) ((psA (recs l)).getD q (qja qca))).2.1.length:Int):=by rw [qkw hqb,qAr hq];rfl
  have h2':at_<_+41+(((bsA (qnb l) (recs l)).map (·.1)).getD q (qja qka)).2.2.2.2.1:=h2
  rw [e1,e2] at h2'
  rw [e1] at h1
  have hrl:=qoh (recs l) h.sums
  have hhl:(qAf sA (recs l)).length=28+(qtb (recs l)).length:=qhl
  have hx:0≤(qMm (qnb l) (recs l)).getD at_.toNat 0∧(qMm (qnb l) (recs l)).getD at_.toNat 0<256:=qZu (P:=fun x:Int=>0≤x∧x<256) h.bts32 (by decide) _
  exact ⟨_,ChgA.one h ht hq (j:=at_.toNat - ((qAf sA (recs l)).length+(qbh ((bsA (qnb l) (recs l)).take q)).length+41)) (by omega) (qcy _ _) (by omega) (fun k=>qEF hx hby h0 k.symm)⟩
theorem qmE (h:Arc (qnb l) (recs l)) (ht:tot (recs l)≤80) {q:Nat} {sp:List Int} {bs':List qda} (C:ChgA (qnb l) (recs l) (q:Int) sp bs') (hr:(qLr (bs'.getD q (qja qfa))).2=0):
  qBd (qMm (qnb l) (recs l)) sp (q:Int) (sA,(recs l,((bsA (qnb l) (recs l)).map (·.1),())))=some true:=by
 obtain ⟨n1,n2⟩:=C.new q rfl
 obtain ⟨p,p1,p2,p3,p4,p5,p6,p7,p8,p9,p10,p11⟩:=C.at_ h n1
 have hq:q<(psA (recs l)).length:=by rw [←C.len];exact n1
 have hW:=h.read ht
 have k1:qZy sp (q:Int)=(bs'.getD q (qja qfa),0):=by
  unfold qZy
  rw [C.opd.eq]
  show (if (0:Int)≠0 then _ else _)=_
  rw [if_neg (fun k=>k rfl),if_neg (by omega),if_neg (by show ¬(q:Int)≥(bs'.length:Int);omega),Int.toNat_natCast]
 have k2:qZy (qMm (qnb l) (recs l)) (q:Int)=(stB (qnb l) p,0):=by
  unfold qZy
  rw [hW]
  show (if (0:Int)≠0 then _ else _)=_
  rw [if_neg (fun k=>k rfl),if_neg (by omega),if_neg (by show ¬(q:Int)≥((bsA (qnb l) (recs l)).length:Int);rw [qNg];omega),Int.toNat_natCast]
  show ((bsA (qnb l) (recs l)).getD q (qja qfa),(0:Int))=_
  rw [qAr hq,p2]
 have r1:=qan sp C.bts (q:Int)
 have r2:=qan _ h.bts32 (q:Int)
 rw [k1] at r1
 rw [k2] at r2
 have hok:=C.opd.ok _ p11
 have r3:=qAv (C.md _ p11) hok.2.1
 have hgd:((bsA (qnb l) (recs l)).map (·.1)).getD q (qja qka)=(bs'.getD q (qja qfa)).1:=by
  rw [←C.hds,qkw n1]
 rw [p2] at n2
 generalize bs'.getD q (qja qfa)=x at*
 have hsh:qLg (fr8 x.1++x.2.1)=x.1.2.2.2.2.2.1:=by
  unfold qLr at hr
  split at hr
  ·assumption
  ·cases hr
 rw [if_pos hsh] at r3
 have hne:(ByteArray.toList (qPb x.2.1)==ByteArray.toList (qPb (stB (qnb l) p).2.1))=false:=by
  have h1:Bts (stB (qnb l) p).2.1:=(h.piece p1).2.2.2.1
  rw [qSA hok.2.2 h1]
  exact decide_eq_false n2
 rw [qVk]
 refine Tot.eq (Tot.ifd_neg (by omega) (Tot.be r1 (Tot.be r2 (Tot.ifne_neg rfl (Tot.ifne_neg rfl (Tot.inn (by rw [hne];decide) (Tot.be r3 (Tot.ip rfl (Tot.g (by omega) (Tot.g ?_ (Tot.so ?_)))))))))))
 ·show (q:Int)<(((bsA (qnb l) (recs l)).map (·.1)).length:Int)
  rw [List.length_map,qNg];omega
 ·show peq qka (((bsA (qnb l) (recs l)).map (·.1)).getD ((q:Int).toNat) (qja qka)) x.1=true
  rw [Int.toNat_natCast,hgd]
  exact qzA _
theorem qLF (h:Arc (qnb l) (recs l)) (ht:tot (recs l)≤80) {hit:Int} {sp:List Int} {bs':List qda} (C:ChgA (qnb l) (recs l) hit sp bs') {which:Nat} (hw:which<(recs l).length) (hq:∀q:Nat,hit=(q:Int)→(bs'.getD q (qja qfa)).1.2.1≠(which:Int)):
  dat ((ofM (which:Int) bs').map prt)=qnb l which∧∃nm,qFc sp ((recs l).getD which (qja qba)).1=some ((nm,(qnb l which,())),0):=by
 have hof:=C.member h hw hq
 have hV:=qoc h.val
 have hm:(recs l).getD which (qja qba)∈recs l:=qZg (P:=fun p=>p∈recs l) (fun p hp=>hp) which hw
 have hsz:=h.sz which hw
 have htg:=qpz (fun r hr=>(hV.each r hr).1) _ hm
 have hcn:=qbt (which:Int) ((qnb l which).length:Int) 16 (by omega) 8200 0
 obtain ⟨c1,c2⟩:=qpB (qnb l) which 8200 0 (by omega)
 rw [List.drop_zero] at c2
 have emap:((pcs (which:Int) ((qnb l which).length:Int) 16 8200 ((0:Nat):Int)).map fun p=>z0 (prt (stB (qnb l) p)))=((ofM (which:Int) bs').map prt).map z0:=by rw [hof,List.map_map,List.map_map];rfl
 rw [emap] at c1 c2
 have hd:dat ((ofM (which:Int) bs').map prt)=qnb l which:=by rw [←qoD];exact c2
 refine ⟨hd,?_⟩
 have o:=C.opd.opn C.md
 have hl5:((ofM (which:Int) bs').map prt).length≤12:=by
  rw [hof,List.length_map,List.length_map]
  split at hcn <;> omega
 have hps:qFp (ofM (which:Int) bs')=some ((ofM (which:Int) bs').map prt):=qbn fun b hb=>by
  rw [hof] at hb
  obtain ⟨p,hp,rfl⟩:=List.mem_map.1 hb
  rw [show stB (qnb l) p=qIg p.1 p.2.1 (ptD (qnb l) p).2.1 from rfl,qmm]
 have hput:=qRz (rs:=[(recs l).getD which (qja qba)]) (qss:=[((ofM (which:Int) bs').map prt).map z0]) ⟨by show 1≤9223372036854775807;decide,fun r hr=>by rw [List.mem_singleton.1 hr];have:=(hV.each _ hm).2.2;omega⟩ (qlz h.val hm) (by show 1≤10000;decide) ⟨c1,trivial⟩ ⟨by rw [c2];exact hsz.symm,by rw [c2];omega,trivial⟩ (by simp only [List.flatten_cons,List.flatten_nil,List.append_nil,List.length_map] at hl5 ⊢;exact hl5) (fun q hq=>by rw [List.mem_singleton.1 hq,c2];exact h.bts which)
 have hfl:[((ofM (which:Int) bs').map prt).map z0].flatten=((ofM (which:Int) bs').map prt).map z0:=by simp
 rw [hfl] at hput
 have hmk:qwx [(recs l).getD which (qja qba)] [((ofM (which:Int) bs').map prt).map z0]=[(((recs l).getD which (qja qba)).1,qnb l which)]:=by
  show [(_,dat _)]=_
  rw [c2]
 rw [hmk] at hput
 have qqn:qKv [(recs l).getD which (qja qba)] (qRg (a:= .str) (e:= .int .u8) [(((recs l).getD which (qja qba)).1,qnb l which)]) [(recs l).getD which (qja qba)].length 0=true:=by
  show (peq (.arr 20 (.int .u8)) (qLg (qnb l which)) ((recs l).getD which (qja qba)).2.2.1&&true)=true
  rw [h.sum which hw,Bool.and_true]
  exact qbk (fun y=>by simp [peq]) _
 rw [if_pos qqn] at hput
 refine ⟨((recs l).getD which (qja qba)).1,?_⟩
 have hnm:=qfD h.val hw
 rw [o.one_some (l:=(sA,(recs l,((bsA (qnb l) (recs l)).map (·.1),())))) hnm hps (by omega)]
 show (quc [(recs l).getD which (qja qba)] _).bind _=_
 rw [hput]
 exact Tot.eq (Tot.be rfl (Tot.ifne_neg rfl (Tot.g (by show (0:Int)<1;decide) (Tot.so rfl))))
end
theorem qbE (l:List qna) (at_ by_ which:Int) (hnm:∀m∈l,m.1.size≤9223372036854775807) (hbt:∀m∈l,Bts m.2.1) (hby:0≤by_∧by_<256):qnc l at_ by_ which=some true:=by
 obtain ⟨g,hg,hgs⟩:=qcz l hnm hbt
 rw [qPg]
 refine Tot.eq (Tot.be qkE (Tot.be hg (Tot.ifn (fun _=>Tot.so rfl) (fun hg1=>?_))))
 obtain ⟨hM,hT⟩:=hgs hg1
 refine Tot.be (qZk l hM) (Tot.ifne (fun _=>Tot.so rfl) (fun hc=>Tot.ifd (fun _=>Tot.so rfl) (fun h0=>Tot.ifd (fun _=>Tot.so rfl) (fun h1=>Tot.inn (by decide) ?_))))
 have ht:=hT hc
 obtain ⟨h,hn,hs8⟩:=qxB hM hc
 obtain ⟨w,rfl⟩:∃w:Nat,which=(w:Int):=⟨which.toNat,by omega⟩
 have hw:w<l.length:=by
  have h1':¬(w:Int)≥(l.length:Int):=h1
  omega
 have hwr:w<(recs l).length:=by rw [qXg];exact hw
 have hO:=(ChgA.none h ht).opd
 have hL:=qXl _ h.bts32
 rw [h.read ht] at hL
 have hP:=qOD h ht
 have hal:=qNg (D:=qnb l) (rs:=recs l)
 have hlen:=h.len ht
 refine Tot.be (qWp l hM hc ht) (Tot.be hL (Tot.be hO.pl (Tot.ifne_neg rfl (Tot.ifne_neg rfl (Tot.inn ?_ (Tot.g ?_ ?_))))))
 ·rw [show Int.ofNat (plc (28+qqn (recs l)) ((bsA (qnb l) (recs l)).map (·.1))).length=Int.ofNat ((bsA (qnb l) (recs l)).map (·.1)).length from congrArg Int.ofNat (qdn _ _)]
  show ¬(_ != _)=true
  rw [bne_self_eq_false];decide
 ·rw [List.nil_append];omega
 ·rw [List.nil_append]
  obtain ⟨hit,sp,e1,hI⟩:=qbF l at_ by_ (w:Int) true hP _ 0 (-1) (qMm (qnb l) (recs l)) (Nat.zero_add _) (.inl ⟨rfl,rfl⟩)
  obtain ⟨bs',C⟩:=qfF h ht hby hI
  have hnm2:(l.getD w (qja T_api_Member)).1=((recs l).getD w (qja qba)).1:=by rw [qEp l w hw];rfl
  have hni:=qfD h.val hwr
  have hRng:RngP l w hit (qMm (qnb l) (recs l)) sp (sA,(recs l,((bsA (qnb l) (recs l)).map (·.1),()))) bs' (qnb l w):=by
   refine ⟨hw,by omega,C.hds.symm,by have:=C.len;omega,fun b hb=>⟨C.opd.smb b hb,?_⟩,?_,h.bts w,fun i hi hm hh=>?_,fun i hi hm hh=>?_,fun hq=>?_⟩
   ·obtain ⟨k1,k2,k3⟩:=C.opd.ok b hb
    have:=qxh k1
    unfold bC at k2
    split at k2
    ·rename_i hk;omega
    ·cases k2
   ·rcases hI with ⟨h3,_⟩|⟨q,h4,h5,_⟩
    ·omega
    ·have:=(C.new q h5).1;omega
   ·have hr:=C.range h hni hi hm
    rw [hnm2,hr]
    obtain ⟨p,p1,p2,p3,p4,p5,p6,p7,p8,p9,p10,p11⟩:=C.at_ h hi
    have e3:=C.old i hi hh
    rw [p2] at e3
    have hz:(qLr (bs'.getD i (qja qfa))).2=0:=by
     rw [e3,show stB (qnb l) p=qIg p.1 p.2.1 (ptD (qnb l) p).2.1 from rfl,qmm]
    rw [if_pos hz]
   ·have hr:=C.range h hni hi hm
    rw [hnm2]
    by_cases hz:(qLr (bs'.getD i (qja qfa))).2=0
    ·rw [if_pos hz] at hr
     refine .inr ⟨⟨_,hr⟩,?_⟩
     subst hh
     exact qmE h ht C hz
    ·rw [if_neg hz] at hr
     exact .inl hr
   ·obtain ⟨o1,nm,o2⟩:=qLF h ht C hwr hq
    exact ⟨o1,rfl,nm,by rw [hnm2];exact o2⟩
  have e2:=qaF hRng bs'.length 0 (ByteArray.mk #[]) (Nat.zero_add _) (by decide) (fun _=>by rw [List.take_zero];rfl)
  exact Tot.of_eq (e1.trans e2) rfl
theorem bitloftlaw32_ExtractRanges_true (x0:pden (.slice T_api_Member)) (z0:wfP (.slice T_api_Member) x0) (x1:pden (.int .i64)) (z1:wfP (.int .i64) x1) (x2:pden (.int .u8)) (z2:wfP (.int .u8) x2) (x3:pden (.int .i64)) (z3:wfP (.int .i64) x3):qnc x0 x1 x2 x3=some true:=by
 refine qbE x0 x1 x2 x3 (fun m hm=>?_) (fun m hm=>Bts.of_wf (z0.2 m hm).2.1.2) ?_
 ·have:=(z0.2 m hm).1
  simp [wfP,Go.maxLen] at this
  omega
 ·exact qAE z2
end Go.Ab
