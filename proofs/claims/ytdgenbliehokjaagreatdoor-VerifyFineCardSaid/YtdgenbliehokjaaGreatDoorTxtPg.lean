/-
  An abstract machine over the model's code and its soundness; what the functions compute, as plain functions (printed by a program of this repo's own, checked here by the kernel); plain laws of them: part 7. Helper text, no statement of the claim stands here.
-/
import Derived.Test.YtdgenbliehokjaaGreatDoorTxtPf
import Derived.Lib.IndexMore
open Bool renaming and_eq_true → wA, not_eq_true' → wRa
open ByteArray renaming empty → wD, toList → wja
open Go.IntKind renaming wrap → wd
open Go.Lib renaming bytesOf → wqa
open Int renaming fdiv → wR, le_refl → wSa, ofNat → wi, ofNat_eq_natCast → wj, toNat_natCast → wv
open List renaming all_cons → wsb, all_eq_true → wwa, append_assoc → wB, append_nil → wW, cons_append → wca, drop → wY, drop_drop → wda, drop_eq_getElem_cons → wka, drop_eq_nil_of_le → wK, drop_zero → wea, flatMap_cons → wUa, flatten_cons → wwb, getD_eq_getElem?_getD → wu, getElem?_append_right → woa, getElem?_eq_getElem → wx, getElem?_map → wxa, getElem?_set → wxb, length → we, length_append → wn, length_cons → wz, length_drop → wS, length_map → wha, length_nil → wX, length_replicate → wP, length_set → wia, length_singleton → wy, length_take → wM, map_append → wBa, map_cons → wI, map_nil → wDa, mem_append → wba, mem_cons → wZ, mem_cons_of_mem → wO, mem_cons_self → wT, mem_map → waa, mem_singleton → wU, nil_append → wV, replicate → wl, replicate_succ → wKa, set_append_right → wdb, set_cons_zero → wab, take → wL, take_append_of_le_length → wNa, take_of_length_le → wQ
open List.cons renaming injEq → wIa
open Nat renaming add_zero → wqb, le_refl → ws, min_eq_left → wfb, sub_self → wGa, sub_zero → wEa, zero_add → wJ
open Option renaming bind_some → wq
open Option.some renaming injEq → wc
open Prod renaming ext → wrb
set_option linter.unusedVariables false
set_option linter.unusedSimpArgs false
set_option maxHeartbeats 1000000
set_option maxRecDepth 100000
namespace Go.Ab
open Go
attribute [local irreducible] IntKind.wrap
def zL:qCa:=((0,(0,())),([],([],())))
def qkK (a:List Int) (s:qha) (rs:List qba):List qca→Nat→List qga→List qda→qCa×List qda×Int
 |[],p,hs,bs=>if p<a.length then (zL,([],12)) else ((s,(rs,(hs,()))),(bs,0))
 |x::ps,p,hs,bs=>if (rdB (a.drop p)).2.2≠0 then (zL,([],(rdB (a.drop p)).2.2)) else if ¬isP (rdB (a.drop p)).1.1 x then (zL,([],32))
  else qkK a s rs ps (p+(rdB (a.drop p)).2.1.toNat) (hs++[(rdB (a.drop p)).1.1]) (bs++[(rdB (a.drop p)).1])
def qnt (a:List Int):qCa×List qda×Int:=
 if (hdP a).2.2.2≠0 then (zL,([],(hdP a).2.2.2)) else qkK a (hdP a).1 (hdP a).2.1 (ap (hdP a).1.2.1 0 (hdP a).2.1) (hdP a).2.2.1.toNat [] []
theorem qwD {c:List Int} (h:(rdB c).2.2=0):hOK (rdB c).1.1∧(rdB c).2.1=41+(rdB c).1.1.2.2.2.2.1∧(rdB c).2.1≤c.length∧41≤c.length∧c.length≤50000∧c.take 13=mark∧
  rdB c=((pH ((c.drop 13).take 28),((c.drop 41).take (pH ((c.drop 13).take 28)).2.2.2.2.1.toNat,())),(41+(pH ((c.drop 13).take 28)).2.2.2.2.1,0)):=by
 unfold rdB at h ⊢
 by_cases h1:c.length>50000
 ·rw [if_pos h1] at h;simp at h
 ·rw [if_neg h1] at h ⊢
  by_cases h2:c.length<41
  ·rw [if_pos h2] at h;simp at h
  ·rw [if_neg h2] at h ⊢
   by_cases h3:c.take 13≠mark∨¬hOK (pH ((c.drop 13).take 28))
   ·rw [if_pos h3] at h;simp at h
   ·rw [if_neg h3] at h ⊢
    by_cases h4:(c.length:Int)<41+(pH ((c.drop 13).take 28)).2.2.2.2.1
    ·rw [if_pos h4] at h;simp at h
    ·rw [if_neg h4]
     simp only [ne_eq,not_or,Decidable.not_not] at h3
     exact ⟨h3.2,rfl,by simp only;omega,by omega,by omega,h3.1,rfl⟩
structure HeadOK (a:List Int) (l:List qba) (q:Nat):Prop where
 eq:hdP a=(sH a,(l,(28+(q:Int),0)))
 le:28+q≤a.length
 big:a.length≤50000
 magic:a.take 4=magic
 chk:chk (sH a)=0
 seven:a.getD 7 0≤16
 nn:0≤a.getD 7 0
 read:ReadOK (a.drop 8) (a.getD 7 0).toNat l q
 sum:(a.drop (8+q)).take 20=qCm (a.take (8+q))
 rd:qoF (a.drop 8) (a.getD 7 0).toNat 0 []=(l,((q:Int),0))
theorem qRL {a:List Int} (hb:Bts a) (h:(hdP a).2.2.2=0):∃l q,HeadOK a l q:=by
 have b7:=hb.getD 7
 unfold hdP at h
 by_cases h1:a.length>50000
 ·rw [if_pos h1] at h;simp [hdE] at h
 rw [if_neg h1] at h
 by_cases h2:a.length<8
 ·rw [if_pos h2] at h;simp [hdE] at h
 rw [if_neg h2] at h
 by_cases h3:a.take 4≠magic∨chk (sH a)≠0∨a.getD 7 0>16
 ·rw [if_pos h3] at h;simp [hdE] at h
 rw [if_neg h3] at h
 have h3':=h3
 simp only [ne_eq,not_or,Decidable.not_not] at h3'
 obtain ⟨m1,m2,m3⟩:=h3'
 by_cases hr:(rdM (a.drop 8) (a.getD 7 0)).2.2=0
 ·obtain ⟨q,hq,hO⟩:=qGO (hb.drop 8) (by simp;omega) ⟨b7.1,by omega⟩ hr
  have hle:=hO.le
  rw [wS] at hle
  rw [if_neg (fun h=>h hr)] at h
  by_cases h20:(a.length:Int) - 8 - (rdM (a.drop 8) (a.getD 7 0)).2.1<20
  ·rw [if_pos h20] at h;simp [hdE] at h
  rw [if_neg h20] at h
  have hqn:(rdM (a.drop 8) (a.getD 7 0)).2.1.toNat=q:=by omega
  by_cases hs:(a.drop (8+(rdM (a.drop 8) (a.getD 7 0)).2.1.toNat)).take 20≠qCm (a.take (8+(rdM (a.drop 8) (a.getD 7 0)).2.1.toNat))
  ·rw [if_pos hs] at h;simp [hdE] at h
  refine ⟨_,q,?_,by omega,by omega,m1,m2,by omega,b7.1,hO,?_,?_⟩
  ·unfold hdP
   rw [if_neg h1,if_neg h2,if_neg h3,if_neg (fun h=>h hr),if_neg h20,if_neg hs,hq]
  ·rw [hqn] at hs;simpa using hs
  ·have e:rdM (a.drop 8) (a.getD 7 0)=qoF (a.drop 8) (a.getD 7 0).toNat 0 []:=by unfold rdM;rw [if_neg (by omega),if_neg (by simp;omega)]
   rw [←e,←hq]
   exact wrb rfl (wrb rfl hr)
 ·rw [if_pos hr] at h;exact absurd h hr
theorem HeadOK.recsV {a l q} (h:HeadOK a l q):RecsV l:=qCc h.read.val
theorem HeadOK.blk {a l q} (h:HeadOK a l q):16≤(sH a).2.1∧(sH a).2.1≤4096:=qIy h.chk
theorem qnP (a:List Int) (hb:Bts a) (hl:a.length≤50000) (s t:qha) (rs x1:List qba) (x2:List qga) (ps:List qca) (hps:ps.length≤100000):∀(k i p:Nat) (hs:List qga) (bs:List qda),i+k=ps.length→p≤a.length→hs.length=i→bs.length=i→
  qIn a (p:Int) (ps.length:Int) (i:Int) t () s () bs ps x1 x2 rs hs=some (qkK a s rs (ps.drop i) p hs bs)
 |0,i,p,hs,bs,e,hp,h1,h2=>by
  have hl':wi a.length=(a.length:Int):=rfl
  rw [qSq,if_neg (by simp;omega),wK (by omega),qkK,hl']
  by_cases h:p<a.length
  ·rw [if_pos (by simp;omega),if_pos h];rfl
  ·rw [if_neg (by simp;omega),if_neg h]
 |k+1,i,p,hs,bs,e,hp,h1,h2=>by
  have hl':wi a.length=(a.length:Int):=rfl
  have hl2:wi ps.length=(ps.length:Int):=rfl
  obtain ⟨d1,d2,d3⟩:=qVa (qra qja:qca) (xs:=ps) (i:=i) (by omega)
  rw [qSq,if_pos (by simp;omega),qfa (by omega),qfa (by omega),qfa (by omega),qfa (by omega),wv,wv,qqu _ (hb.drop p),wJ]
  simp only [wq]
  rw [d1,qkK]
  generalize ps.getD i (qra qja)=pc
  by_cases hr:(rdB (a.drop p)).2.2=0
  ·have hk:=qwD hr
   have hlen:=qKk hk.1
   have hle:=hk.2.2.1
   rw [wS] at hle
   rw [if_neg (by rw [hr];decide),if_neg (fun h=>h hr),qMu]
   simp only [wq]
   by_cases hi:isP (rdB (a.drop p)).1.1 pc
   ·rw [if_neg (by rw [decide_eq_true hi];decide),if_neg (fun h=>h hi),qfa (by simp;omega),qfa (by simp;omega),w64 (by omega) (by omega),w64 (by omega) (by omega)]
    have ih:=qnP a hb hl s t rs x1 x2 ps hps k (i+1) (p+(rdB (a.drop p)).2.1.toNat) (hs++[(rdB (a.drop p)).1.1]) (bs++[(rdB (a.drop p)).1]) (by omega) (by omega) (by simp;omega) (by simp;omega)
    rw [show ((i+1:Nat):Int)=(i:Int)+1 by omega,show ((p+(rdB (a.drop p)).2.1.toNat:Nat):Int)=(p:Int)+(rdB (a.drop p)).2.1 by omega] at ih
    exact ih
   ·rw [if_pos (by rw [decide_eq_false hi];rfl),if_pos hi];rfl
  ·rw [if_pos (bne_iff_ne.2 hr),if_pos hr];rfl
theorem qJB (a:List Int) (hb:Bts a):qKB a=some (qnt a):=by
 rw [qdG,qdf a hb]
 simp only [wq,qnt]
 by_cases h:(hdP a).2.2.2=0
 ·obtain ⟨l,q,hO⟩:=qRL hb h
  rw [if_neg (by rw [h];decide),if_neg (fun k=>k h),hO.eq]
  simp only
  have hle:=hO.le
  have hsm:=qMC (sH a).2.1 hO.blk.1 l hO.recsV
  rw [qpo _ _ hO.blk hO.recsV]
  simp only [wq]
  have:=qnP a hb hO.big (sH a) (0,(0,())) l [] [] (ap (sH a).2.1 0 l) (by omega) _ 0 (28+q) [] [] (wJ _) (by omega) rfl rfl
  rw [show ((28+(q:Int))).toNat=28+q by omega]
  exact this
 ·rw [if_pos (bne_iff_ne.2 h),if_pos h];rfl
theorem qTq (a:List Int) (hb:Bts a):qLx a=some ((qnt a).1,(qnt a).2.2):=by rw [qVD,qJB a hb];rfl
def Std (a:List Int) (e:Nat):Nat→List qga→List qda→Prop
 |p,h::hs,x::bs=>rdB (a.drop p)=(x,(41+h.2.2.2.2.1,0))∧x.1=h∧hOK h∧p≤a.length∧Std a e (p+(41+h.2.2.2.2.1).toNat) hs bs
 |p,[],[]=>p=e
 |_,_,_=>False
theorem qIM (a:List Int) (s:qha) (rs:List qba):∀(ps:List qca) (p:Nat) (hs:List qga) (bs:List qda),p≤a.length→(qkK a s rs ps p hs bs).2.2=0→
  ∃hs' bs',qkK a s rs ps p hs bs=((s,(rs,(hs++hs',()))),(bs++bs',0))∧Std a a.length p hs' bs'∧hs'.length=ps.length∧bs'.length=ps.length∧ckL hs' ps=0
 |[],p,hs,bs,hp,h=>by
  simp only [qkK] at h ⊢
  by_cases hlt:p<a.length
  ·rw [if_pos hlt] at h;simp at h
  ·rw [if_neg hlt]
   exact ⟨[],[],by simp,by unfold Std;omega,rfl,rfl,rfl⟩
 |x::ps,p,hs,bs,hp,h=>by
  simp only [qkK] at h ⊢
  by_cases hr:(rdB (a.drop p)).2.2=0
  ·have hk:=qwD hr
   have hlen:=qKk hk.1
   have hle:=hk.2.2.1
   rw [wS] at hle
   rw [if_neg (fun k=>k hr)] at h ⊢
   by_cases hi:isP (rdB (a.drop p)).1.1 x
   ·rw [if_neg (fun k=>k hi)] at h ⊢
    obtain ⟨hs',bs',e1,e2,e3,e4,e5⟩:=qIM a s rs ps _ _ _ (by omega) h
    refine ⟨(rdB (a.drop p)).1.1::hs',(rdB (a.drop p)).1::bs',by rw [e1];simp,?_,by simp [e3],by simp [e4],?_⟩
    ·refine ⟨wrb rfl (wrb hk.2.1 hr),rfl,hk.1,hp,?_⟩
     rw [←hk.2.1];exact e2
    ·simp only [ckL];rw [if_pos ⟨hk.1,hi⟩];exact e5
   ·rw [if_pos hi] at h;simp at h
  ·rw [if_pos hr] at h;exact absurd h hr
structure AllOK (a:List Int) (rs:List qba) (q:Nat) (hs:List qga) (bs:List qda):Prop where
 head:HeadOK a rs q
 eq:qnt a=((sH a,(rs,(hs,()))),(bs,0))
 std:Std a a.length (28+q) hs bs
 hlen:hs.length=(ap (sH a).2.1 0 rs).length
 blen:bs.length=(ap (sH a).2.1 0 rs).length
 ck:ckL hs (ap (sH a).2.1 0 rs)=0
theorem qNC {a:List Int} (hb:Bts a) (h:(qnt a).2.2=0):∃rs q hs bs,AllOK a rs q hs bs:=by
 unfold qnt at h
 by_cases hh:(hdP a).2.2.2=0
 ·obtain ⟨l,q,hO⟩:=qRL hb hh
  rw [if_neg (fun k=>k hh),hO.eq] at h
  simp only at h
  rw [show ((28+(q:Int))).toNat=28+q by omega] at h
  obtain ⟨hs,bs,e1,e2,e3,e4,e5⟩:=qIM a _ _ _ _ _ _ hO.le h
  refine ⟨l,q,hs,bs,hO,?_,e2,e3,e4,e5⟩
  unfold qnt
  rw [if_neg (fun k=>k hh),hO.eq]
  simp only
  rw [show ((28+(q:Int))).toNat=28+q by omega,e1]
  simp
 ·rw [if_pos hh] at h;exact absurd h hh
def s2:qha:=(2,(16,()))
theorem qkO {a:List Int} {rs q hs bs} (h:AllOK a rs q hs bs):lck (sH a,(rs,(hs,())))=0:=by
 unfold lck
 rw [if_neg (fun k=>k h.head.chk),if_neg (fun k=>k h.head.read.val),if_neg (fun k=>k h.hlen.symm)]
 exact h.ck
theorem quF (s:ByteArray):qjn (qpd s)=s:=by
 have h:=qAn (xs:=qpd s) (qJD s)
 have e:(qpd s).map (fun n=>UInt8.ofNat n.toNat)=s.data.toList:=by
  unfold qpd
  rw [List.map_map]
  refine (List.map_congr_left (fun b _=>?_)).trans (List.map_id _)
  simp
 unfold qjn
 rw [e]
theorem qWt (a:List Int) (p i:Nat):(a.drop p).getD i 0=a.getD (p+i) 0:=by simp [wu]
theorem qGP {r:qba} (h1:r.1.size≤40) (h2:0≤r.2.1∧r.2.1≤8192) (h3:r.2.2.1.length=20):qvD r=(r.1.size:Int)::(qpd r.1++(r.2.1/256::r.2.1%256::r.2.2.1)):=by
 unfold qvD
 rw [wea,wQ (by omega),wu8,wu8,wu8,qJg _ (by omega)]
 have e1:(r.1.size:Int)%256=r.1.size:=by omega
 have e2:r.2.1/256%256=r.2.1/256:=by omega
 rw [e1,e2]
 simp only [wB,wca,wV]
theorem qtN {r:qba} (h1:r.1.size≤40) (h2:0≤r.2.1∧r.2.1≤8192) (h3:r.2.2.1.length=20) {a post:List Int} {p:Nat} (ha:a.drop p=qvD r++post):rF a p∧rK a p=r.1.size∧rR a p=r:=by
 have hB:=qGP h1 h2 h3
 have hl:(qpd r.1).length=r.1.size:=qgj _
 have hal:=congrArg we ha
 rw [wS,wn,qxn r h3] at hal
 have g0:a.getD p 0=r.1.size:=by
  have e:=qWt a p 0
  rw [ha,hB] at e
  exact e.symm
 have hk:rK a p=r.1.size:=by unfold rK;rw [g0];omega
 have d1:a.drop (p+1)=qpd r.1++(r.2.1/256::r.2.1%256::(r.2.2.1++post)):=by
  rw [←wda,ha,hB]
  simp only [wca,List.drop_succ_cons,wea,wB]
 have d2:a.drop (p+1+r.1.size)=r.2.1/256::r.2.1%256::(r.2.2.1++post):=by
  rw [←wda,d1,←hl,List.drop_left]
 have g1:a.getD (p+1+r.1.size) 0=r.2.1/256:=by
  have e:=qWt a (p+1+r.1.size) 0
  rw [d2] at e
  exact e.symm
 have g2:a.getD (p+2+r.1.size) 0=r.2.1%256:=by
  have:=qWt a (p+1+r.1.size) 1
  rw [show p+2+r.1.size=p+1+r.1.size+1 by omega,←this,d2];rfl
 have d3:a.drop (p+3+r.1.size)=r.2.2.1++post:=by
  rw [show p+3+r.1.size=p+1+r.1.size+2 by omega,←wda,d2];rfl
 refine ⟨⟨by omega,by rw [hk];omega⟩,hk,?_⟩
 unfold rR
 rw [hk,d1,g1,g2,d3,←hl,List.take_left,quF,show r.2.1/256*256+r.2.1%256=r.2.1 by omega,←h3,List.take_left]
theorem qqD (a post:List Int):∀(rs acc:List qba) (p:Nat),(∀r∈rs,r.1.size≤40∧(0≤r.2.1∧r.2.1≤8192))→SumsOK rs→qtf (acc++rs)=0→a.drop p=qOc rs++post→
  qoF a rs.length p acc=(acc++rs,(((p+(qOc rs).length:Nat):Int),0))
 |[],acc,p,h,hS,hv,ha=>by
  rw [wW] at hv
  rw [wX,qoF,if_neg (fun k=>k hv),wW]
  rfl
 |r::rs,acc,p,h,hS,hv,ha=>by
  have h1:=h r wT
  have h3:=hS r wT
  rw [qOc,wB] at ha
  obtain ⟨hf,hk,hR⟩:=qtN h1.1 h1.2 h3.1 ha
  have hl:=qxn r h3.1
  have e:a.drop (p+rK a p+23)=qOc rs++post:=by
   rw [hk,show p+r.1.size+23=p+(qvD r).length by omega,←wda,ha,List.drop_left]
  have e2:acc++r::rs=(acc++[r])++rs:=by rw [wB];rfl
  have ih:=qqD a post rs (acc++[r]) (p+rK a p+23) (fun q hq=>h q (wO _ hq)) (fun q hq=>hS q (wO _ hq)) (by rw [←e2];exact hv) e
  rw [wz,qoF,if_pos hf,hR,ih,e2]
  refine wrb rfl (wrb ?_ rfl)
  simp only
  rw [qOc,wn]
  omega
theorem qOL {s:qha} {rs:List qba} {post:List Int} (hc:chk s=0) (hv:qtf rs=0) (hS:SumsOK rs) (hl:post.length≤40000):hdP (qSj s rs++post)=(s,(rs,(28+((qOc rs).length:Int),0))):=by
 have hRV:=qCc hv
 have h16:=hRV.len
 have hchk:0≤s.1∧s.1≤7∧16≤s.2.1∧s.2.1≤4096:=by
  unfold chk at hc;split at hc
  ·assumption
  ·cases hc
 have key:∀(rs:List qba),SumsOK rs→(∀r∈rs,r.1.size≤40)→(qOc rs).length≤63*rs.length:=by
  intro rs
  induction rs with
  |nil=>intro _ _;exact ws _
  |cons r rs ih=>
   intro hS h
   have h1:=qxn r (hS r wT).1
   have h2:=h r wT
   have h3:=ih (fun q hq=>hS q (wO _ hq)) (fun q hq=>h q (wO _ hq))
   rw [qOc,wn,wz]
   omega
 have hrl:=key rs hS (fun r hr=>(hRV.each r hr).2.2)
 have eF:qcy s rs.length=[66,76,70,1,s.1,s.2.1/256,s.2.1%256,(rs.length:Int)]:=by
  unfold qcy
  rw [wu8,wu8,wu8,wu8,qJg _ (by omega)]
  have e1:s.1%256=s.1:=by omega
  have e2:s.2.1/256%256=s.2.1/256:=by omega
  have e3:(rs.length:Int)%256=rs.length:=by omega
  rw [e1,e2,e3]
 have hbl:(qph s rs).length=8+(qOc rs).length:=by unfold qph;rw [wn,eF];rfl
 have ea:qSj s rs++post=[66,76,70,1,s.1,s.2.1/256,s.2.1%256,(rs.length:Int)]++(qOc rs++(qCm (qph s rs)++post)):=by
  have hB:qph s rs=[66,76,70,1,s.1,s.2.1/256,s.2.1%256,(rs.length:Int)]++qOc rs:=by unfold qph;rw [eF]
  unfold qSj
  rw [wB]
  generalize qCm (qph s rs)=hh
  rw [hB,wB]
 have eb:qSj s rs++post=qph s rs++(qCm (qph s rs)++post):=by unfold qSj;rw [wB]
 have hsl:(qCm (qph s rs)).length=20:=qLi _
 generalize ha:qSj s rs++post=a at*
 have hal:a.length=28+(qOc rs).length+post.length:=by rw [eb,wn,wn,hbl,hsl];omega
 have g4:a.getD 4 0=s.1:=by rw [ea];rfl
 have g5:a.getD 5 0=s.2.1/256:=by rw [ea];rfl
 have g6:a.getD 6 0=s.2.1%256:=by rw [ea];rfl
 have g7:a.getD 7 0=rs.length:=by rw [ea];rfl
 have d8:a.drop 8=qOc rs++(qCm (qph s rs)++post):=by rw [ea];rfl
 have t4:a.take 4=magic:=by rw [ea];rfl
 have esH:sH a=s:=by
  unfold sH
  rw [g4,g5,g6,show s.2.1/256*256+s.2.1%256=s.2.1 by omega]
 have hrd:rdM (a.drop 8) (a.getD 7 0)=(rs,(((qOc rs).length:Int),0)):=by
  have h8:(a.drop 8).length≤50000:=by rw [wS];omega
  have:=qqD (a.drop 8) (qCm (qph s rs)++post) rs [] 0 (fun r hr=>⟨(hRV.each r hr).2.2,(hRV.each r hr).1,(hRV.each r hr).2.1⟩) hS hv (by rw [wea,d8])
  unfold rdM
  rw [if_neg (by omega),if_neg (by omega),g7,show ((rs.length:Int)).toNat=rs.length by omega,this,wJ,wV]
 have e8:a.take (8+(qOc rs).length)=qph s rs:=by rw [eb,←hbl,List.take_left]
 have e9:(a.drop (8+(qOc rs).length)).take 20=qCm (qph s rs):=by rw [eb,←hbl,List.drop_left,←hsl,List.take_left]
 unfold hdP
 rw [hrd,esH]
 simp only
 rw [if_neg (by omega),if_neg (by omega),if_neg (fun h=>by
  rcases h with h|h|h
  ·exact h t4
  ·exact h hc
  ·omega),if_neg (fun h=>h rfl),if_neg (by omega),show ((((qOc rs).length:Nat):Int)).toNat=(qOc rs).length by omega,e8,e9,if_neg (fun h=>h rfl)]
def qWE:List qda→List Int
 |[]=>[]
 |b::bs=>bB b++qWE bs
def Fit:List qda→List qca→Prop
 |[],[]=>True
 |b::bs,p::ps=>(bC b=0∧bWf b∧isP b.1 p)∧Fit bs ps
 |_,_=>False
theorem qBI {b:qda} (h:bWf b):(bB b).length=41+b.2.1.length:=by
 unfold bB hB
 simp only [wn,qAd,qXt,h.2]
theorem qxI (s:qha) (rs:List qba) (a:List Int) (hal:a.length≤40000):∀(bs:List qda) (ps:List qca) (p:Nat) (hs:List qga) (cs:List qda),Fit bs ps→p≤a.length→a.drop p=qWE bs→
  qkK a s rs ps p hs cs=((s,(rs,(hs++bs.map (·.1),()))),(cs++bs,0))
 |[],[],p,hs,cs,hF,hp,ha=>by
  have:=congrArg we ha
  rw [wS] at this
  have h0:(qWE []).length=0:=rfl
  unfold qkK
  rw [if_neg (by omega),wDa,wW,wW]
 |[],p0::ps,p,hs,cs,hF,hp,ha=>by cases hF
 |b::bs,[],p,hs,cs,hF,hp,ha=>by cases hF
 |b::bs,p0::ps,p,hs,cs,hF,hp,ha=>by
  obtain ⟨⟨h1,h2,h3⟩,hF'⟩:=hF
  have hlen:=congrArg we ha
  rw [wS,qWE,wn,qBI h2] at hlen
  have hrd:rdB (a.drop p)=(b,(b.1.2.2.2.2.1+41,0)):=by
   rw [ha,qWE]
   exact qgS h1 h2 (by omega)
  have ok:hOK b.1∧(b.2.1.length:Int)=b.1.2.2.2.2.1:=by
   unfold bC at h1;split at h1
   ·assumption
   ·cases h1
  have ih:=qxI s rs a hal bs ps (p+(b.1.2.2.2.2.1+41).toNat) (hs++[b.1]) (cs++[b]) hF' (by omega) (by
   rw [←wda,ha,qWE,show (b.1.2.2.2.2.1+41).toNat=(bB b).length by rw [qBI h2];omega,List.drop_left])
  unfold qkK
  rw [hrd,if_neg (fun k=>k rfl),if_neg (fun k=>k h3),ih,wI,wB,wB]
  rfl
def qAq (s:qha) (rs:List qba) (bs:List qda):List Int:=qSj s rs++qWE bs
theorem qRB {s:qha} {rs:List qba}:(qSj s rs).length=28+(qOc rs).length:=by
 unfold qSj qph
 rw [wn,wn,qLi]
 show 8+_+20=_
 omega
theorem qZE {s:qha} {rs:List qba} {bs:List qda} (hc:chk s=0) (hv:qtf rs=0) (hS:SumsOK rs) (hF:Fit bs (ap s.2.1 0 rs)) (hl:(qAq s rs bs).length≤40000):qnt (qAq s rs bs)=((s,(rs,(bs.map (·.1),()))),(bs,0)):=by
 have hl2:(qAq s rs bs).length=28+(qOc rs).length+(qWE bs).length:=by unfold qAq;rw [wn,qRB]
 have hh:hdP (qAq s rs bs)=(s,(rs,(28+((qOc rs).length:Int),0))):=qOL hc hv hS (by omega)
 have hd:(qAq s rs bs).drop (28+(qOc rs).length)=qWE bs:=by unfold qAq;rw [←qRB (s:=s),List.drop_left]
 have:=qxI s rs (qAq s rs bs) hl bs (ap s.2.1 0 rs) (28+(qOc rs).length) [] [] hF (by omega) hd
 unfold qnt
 rw [hh,if_neg (fun k=>k rfl)]
 simp only
 rw [show (28+((qOc rs).length:Int)).toNat=28+(qOc rs).length by omega,this,wV,wV]
open Classical
def Gen (D:Nat→List Int) (q:qoa):Prop:=0≤q.1.1∧0≤q.1.2.1∧q.1.2.1.toNat+q.2.1.length≤(D q.1.1.toNat).length∧q.2.1=((D q.1.1.toNat).drop q.1.2.1.toNat).take q.2.1.length
def InP (rs:List qba) (i0:Int) (p:qca):Prop:=i0≤p.1∧p.1<i0+rs.length∧0≤p.2.1∧1≤p.2.2.1∧p.2.1+p.2.2.1≤(rs.getD (p.1 - i0).toNat (qra qla)).2.1
theorem qBH (i n s:Int) (hs:1≤s):∀(k:Nat) (off:Int),0≤off→∀p∈pcs i n s k off,p.1=i∧off≤p.2.1∧1≤p.2.2.1∧p.2.2.1≤s∧p.2.1+p.2.2.1≤n
 |0,off,h0,p,hp=>by cases hp
 |k+1,off,h0,p,hp=>by
  rw [pcs] at hp
  by_cases h:off<n
  ·rw [if_pos h] at hp
   rcases wZ.1 hp with rfl|hp
   ·refine ⟨rfl,wSa _,?_⟩
    simp only
    split <;> omega
   ·obtain ⟨a,b,c,d,e⟩:=qBH i n s hs k (off+s) (by omega) p hp
    exact ⟨a,by omega,c,d,e⟩
  ·rw [if_neg h] at hp;cases hp
theorem qhO (s:Int) (hs:1≤s):∀(rs:List qba) (i0:Int),∀p∈ap s i0 rs,InP rs i0 p∧p.2.2.1≤s
 |[],i0,p,hp=>by cases hp
 |r::rs,i0,p,hp=>by
  rw [ap] at hp
  rcases wba.1 hp with hp|hp
  ·obtain ⟨a,b,c,d,e⟩:=qBH i0 r.2.1 s hs 8200 0 (wSa _) p hp
   refine ⟨⟨by omega,by rw [wz];omega,by omega,c,?_⟩,d⟩
   rw [show (p.1 - i0).toNat=0 by omega]
   exact e
  ·obtain ⟨⟨a,b,c,d,e⟩,f⟩:=qhO s hs rs (i0+1) p hp
   refine ⟨⟨by omega,by rw [wz];omega,c,d,?_⟩,f⟩
   rw [show (p.1 - i0).toNat=(p.1 - (i0+1)).toNat+1 by omega,List.getD_cons_succ]
   exact e
def ptD (D:Nat→List Int) (p:qca):qoa:=(p,((((D p.1.toNat).drop p.2.1.toNat).take p.2.2.1.toNat),()))
theorem qMP {D:Nat→List Int} {rs:List qba} (hD:∀i,i<rs.length→((D i).length:Int)=(rs.getD i (qra qla)).2.1) {p:qca} (h:InP rs 0 p):Gen D (ptD D p)∧((ptD D p).2.1.length:Int)=p.2.2.1:=by
 obtain ⟨a,b,c,d,e⟩:=h
 rw [Int.sub_zero] at e
 have hl:=hD p.1.toNat (by omega)
 have hlen:(ptD D p).2.1.length=p.2.2.1.toNat:=by
  unfold ptD
  simp only [wM,wS]
  omega
 refine ⟨⟨a,c,?_,?_⟩,by omega⟩
 ·rw [hlen]
  show p.2.1.toNat+p.2.2.1.toNat≤(D p.1.toNat).length
  omega
 ·rw [hlen];rfl
def stB (D:Nat→List Int) (p:qca):qda:=qkk p.1 p.2.1 (ptD D p).2.1
open Classical
structure Arc (D:Nat→List Int) (rs:List qba):Prop where
 val:qtf rs=0
 sums:SumsOK rs
 sz:∀i,i<rs.length→((D i).length:Int)=(rs.getD i (qra qla)).2.1
 sum:∀i,i<rs.length→(rs.getD i (qra qla)).2.2.1=qCm (D i)
 bts:∀i,Bts (D i)
def psA (rs:List qba):List qca:=ap 16 0 rs
def bsA (D:Nat→List Int) (rs:List qba):List qda:=(psA rs).map (stB D)
def sA:qha:=(0,(16,()))
def qKQ (D:Nat→List Int) (rs:List qba):List Int:=qAq sA rs (bsA D rs)
theorem Arc.piece {D:Nat→List Int} {rs:List qba} (h:Arc D rs) {p:qca} (hp:p∈psA rs):InP rs 0 p∧p.2.2.1≤16∧mOK p.1 p.2.1 (ptD D p).2.1∧Bts (ptD D p).2.1∧((ptD D p).2.1.length:Int)=p.2.2.1∧Gen D (ptD D p):=by
 have hV:=qCc h.val
 obtain ⟨hi,h16⟩:=qhO 16 (by decide) rs 0 p hp
 obtain ⟨g,gl⟩:=qMP h.sz hi
 have hl:=hV.len
 obtain ⟨a,b,c,d,e⟩:=id hi
 have hm:rs.getD (p.1 - 0).toNat (qra qla)∈rs:=qPa (P:=fun r=>r∈rs) (fun r hr=>hr) _ (by omega)
 have hr:=(hV.each _ hm).2.1
 refine ⟨hi,h16,?_,((h.bts _).drop _).take _,gl,g⟩
 unfold mOK
 refine ⟨?_,?_,?_,?_,?_,?_⟩ <;> omega
theorem Arc.fit {D:Nat→List Int} {rs:List qba} (h:Arc D rs):∀ps:List qca,(∀p∈ps,p∈psA rs)→Fit (ps.map (stB D)) ps
 |[],_=>trivial
 |p::ps,hp=>by
  obtain ⟨a,b,c,d,e,f⟩:=h.piece (hp p wT)
  exact ⟨⟨qxK c,qst _ _ _,rfl,rfl,e⟩,h.fit ps (fun q hq=>hp q (wO _ hq))⟩
theorem qyI (D:Nat→List Int):∀ps:List qca,(∀p∈ps,1≤(ptD D p).2.1.length∧((ptD D p).2.1.length:Int)=p.2.2.1)→((qWE (ps.map (stB D))).length:Int)≤42*(ps.map (fun p=>p.2.2.1)).foldr (·+·) 0
 |[],_=>by show (0:Int)≤42*0;decide
 |p::ps,h=>by
  have h1:=h p wT
  have ih:=qyI D ps (fun q hq=>h q (wO _ hq))
  have hb:=qBI (b:=stB D p) (qst _ _ _)
  have hz:(stB D p).2.1.length=(ptD D p).2.1.length:=rfl
  rw [wI,qWE,wn,hb,hz,wI,List.foldr_cons]
  omega
theorem qfL (i n s:Int) (hs:1≤s):∀(k:Nat) (off:Int),0≤off→off≤n→((pcs i n s k off).map (fun p=>p.2.2.1)).foldr (·+·) 0≤n - off
 |0,off,_,h=>by show (0:Int)≤n - off;omega
 |k+1,off,h0,h=>by
  rw [pcs]
  by_cases hlt:off<n
  ·rw [if_pos hlt,wI,List.foldr_cons]
   by_cases h2:s<n - off
   ·have:=qfL i n s hs k (off+s) (by omega) (by omega)
    simp only
    rw [if_pos h2]
    omega
   ·have hn:pcs i n s k (off+s)=[]:=by
     cases k with
     |zero=>rfl
     |succ k=>rw [pcs,if_neg (by omega)]
    simp only
    rw [if_neg h2,hn]
    show (n - off)+0≤n - off
    omega
  ·rw [if_neg hlt]
   show (0:Int)≤n - off
   omega
theorem qWL (a b:List Int):(a++b).foldr (·+·) 0=a.foldr (·+·) 0+b.foldr (·+·) 0:=by
 induction a with
 |nil=>show b.foldr (·+·) 0=0+b.foldr (·+·) 0;omega
 |cons x a ih=>rw [wca,List.foldr_cons,List.foldr_cons,ih];omega
theorem qlP (s:Int) (hs:1≤s):∀(rs:List qba) (i:Int),(∀r∈rs,0≤r.2.1)→((ap s i rs).map (fun p=>p.2.2.1)).foldr (·+·) 0≤tot rs
 |[],i,_=>by show (0:Int)≤0;decide
 |r::rs,i,h=>by
  have h1:=qfL i r.2.1 s hs 8200 0 (wSa _) (h r wT)
  have ih:=qlP s hs rs (i+1) (fun q hq=>h q (wO _ hq))
  rw [ap,wBa,qWL,tot]
  omega
theorem qUw:∀(rs:List qba),SumsOK rs→(∀r∈rs,r.1.size≤40)→(qOc rs).length≤63*rs.length
 |[],_,_=>ws _
 |r::rs,hS,h=>by
  have h1:=qxn r (hS r wT).1
  have h2:=h r wT
  have h3:=qUw rs (fun q hq=>hS q (wO _ hq)) (fun q hq=>h q (wO _ hq))
  rw [qOc,wn,wz]
  omega
theorem Arc.len {D:Nat→List Int} {rs:List qba} (h:Arc D rs) (ht:tot rs≤80):(qKQ D rs).length≤5000∧(qKQ D rs).length=28+(qOc rs).length+(qWE (bsA D rs)).length∧(psA rs).length≤80:=by
 have hV:=qCc h.val
 have hl:=hV.len
 have h1:=qUw rs h.sums (fun r hr=>(hV.each r hr).2.2)
 have h2:=qyI D (psA rs) (fun p hp=>by
  obtain ⟨a,b,c,d,e,f⟩:=h.piece hp
  exact ⟨c.2.2.1,e⟩)
 have h3:=qlP 16 (by decide) rs 0 (fun r hr=>(hV.each r hr).1)
 have e:(qKQ D rs).length=28+(qOc rs).length+(qWE (bsA D rs)).length:=by unfold qKQ qAq;rw [wn,qRB]
 have key:∀ps:List qca,(∀p∈ps,1≤p.2.2.1)→(ps.length:Int)≤(ps.map (fun p=>p.2.2.1)).foldr (·+·) 0:=by
  intro ps
  induction ps with
  |nil=>intro _;show (0:Int)≤0;decide
  |cons p ps ih=>
   intro hp
   have:=ih (fun q hq=>hp q (wO _ hq))
   have:=hp p wT
   rw [wI,List.foldr_cons,wz]
   omega
 have h4:=key (psA rs) (fun p hp=>(h.piece hp).1.2.2.2.1)
 unfold bsA at e
 have e3:((psA rs).map (fun p=>p.2.2.1)).foldr (·+·) 0≤tot rs:=h3
 refine ⟨?_,e,?_⟩ <;> omega
theorem Arc.read {D:Nat→List Int} {rs:List qba} (h:Arc D rs) (ht:tot rs≤80):qnt (qKQ D rs)=((sA,(rs,((bsA D rs).map (·.1),()))),(bsA D rs,0)):=
 qZE (s:=sA) (by decide) h.val h.sums (h.fit (psA rs) (fun p hp=>hp)) (by have:=(h.len ht).1;unfold qKQ at this;omega)
def qSK (m:qxa):qba:=(m.1,((m.2.1.length:Int),(qCm m.2.1,())))
def recs (l:List qxa):List qba:=l.map qSK
structure MemsOK (l:List qxa):Prop where
 nm:∀m∈l,m.1.size≤9223372036854775807
 ln:∀m∈l,m.2.1.length≤140737488355328
 bt:∀m∈l,Bts m.2.1
theorem qzB (l:List qxa) {i:Nat} (h:i<l.length):l.drop i=l.getD i (qra qwa)::l.drop (i+1)∧l.getD i (qra qwa)∈l∧l.take (i+1)=l.take i++[l.getD i (qra qwa)]:=
 ⟨(qVa (qra qwa) h).1,(qVa (qra qwa) h).2.2,(qVa (qra qwa) h).2.1⟩
theorem qns (l:List qxa):(recs l).length=l.length:=wha ..
theorem qfr:∀l:List qxa,0≤tot (recs l)
 |[]=>wSa _
 |m::l=>by
  have:=qfr l
  show 0≤(m.2.1.length:Int)+tot (recs l)
  omega
theorem qDA (l:List qxa) (i:Nat) (h:i<l.length):(l.getD i (qra qwa)).1=(names (recs l)).getD i wD:=by
 unfold names recs
 rw [List.map_map,wu,wu,wxa,wx h]
 rfl
theorem qMt (l:List qxa):(names (recs l)).length=l.length:=by unfold names;rw [wha,qns]
theorem qKI (l:List qxa) (hn:l.length≤16) (i:Nat) (hi:i<l.length):∀(k j:Nat),j+k=i→qVd l (i:Int) (j:Int)=if qUH ((names (recs l)).getD i wD) (((names (recs l)).take i).drop j) then some 14 else qmc l ((i:Int)+1)
 |0,j,e=>by
  have hd:((names (recs l)).take i).drop j=[]:=wK (by rw [wM];omega)
  rw [qeh,if_neg (by simp;omega),hd,w64 (by omega) (by omega)]
  simp [qUH]
 |k+1,j,e=>by
  have hl':wi l.length=(l.length:Int):=rfl
  have hnl:=qMt l
  have ih:=qKI l hn i hi k (j+1) (by omega)
  rw [show ((j+1:Nat):Int)=(j:Int)+1 by omega] at ih
  rw [qeh,if_pos (by simp;omega),qfa (by omega),qfa (by rw [hl'];omega),qfa (by omega),qfa (by rw [hl'];omega),wv,wv,qDA l j (by omega),qDA l i hi,w64 (x:=(j:Int)+1) (by omega) (by omega),ih,qAL (j:=j) (i:=i) (by omega) (by omega),qUS]
  by_cases h:(names (recs l)).getD j wD=(names (recs l)).getD i wD
  ·rw [decide_eq_true h,decide_eq_true h.symm];simp
  ·rw [decide_eq_false h,decide_eq_false (fun e=>h e.symm)];simp
theorem qLI (l:List qxa) (hn:l.length≤16):∀(k i:Nat),i+k=l.length→qmc l (i:Int)=some (if qpI ((names (recs l)).take i) ((names (recs l)).drop i) then 14 else 0)
 |0,i,e=>by
  have hnl:=qMt l
  rw [qfh,if_neg (by simp;omega),wK (by omega)];rfl
 |k+1,i,e=>by
  have hnl:=qMt l
  obtain ⟨d1,d2⟩:=qqI (xs:=names (recs l)) (i:=i) (by omega)
  have ih:=qLI l hn k (i+1) (by omega)
  rw [show ((i+1:Nat):Int)=(i:Int)+1 by omega] at ih
  have h3:=qKI l hn i (by omega) i 0 (by omega)
  rw [qfh,if_pos (by simp;omega)]
  refine Eq.trans h3 ?_
  rw [ih,wea,d1,qpI,←d2]
  cases qUH ((names (recs l)).getD i wD) ((names (recs l)).take i) <;> simp
theorem qMI (l:List qxa) (hM:MemsOK l) (hn:l.length≤16):∀(k i:Nat),i+k=l.length→qPc l (i:Int)=if (l.drop i).all (fun m=>qiK m.1)=true then qmc l 0 else some 8
 |0,i,e=>by
  rw [qgh,if_neg (by simp;omega),wK (by omega)]
  rfl
 |k+1,i,e=>by
  have hl':wi l.length=(l.length:Int):=rfl
  obtain ⟨d1,d2,d3⟩:=qzB l (i:=i) (by omega)
  have ih:=qMI l hM hn k (i+1) (by omega)
  rw [show ((i+1:Nat):Int)=(i:Int)+1 by omega] at ih
  rw [qgh,if_pos (by simp;omega),qfa (by omega),qfa (by rw [hl'];omega),wv,d1,qSw _ (hM.nm _ d2),wq,w64 (x:=(i:Int)+1) (by omega) (by omega),ih,wsb]
  cases qiK (l.getD i (qra qwa)).1 with
  |false=>rfl
  |true=>rw [Bool.true_and];rfl
theorem qNI (l:List qxa) (hM:MemsOK l) (hn:l.length≤16):∀(k i:Nat) (acc:Int),i+k=l.length→0≤acc→acc≤140737488355328*i→qWd l acc (i:Int)=if acc+tot (recs (l.drop i))>8192 then some 4 else qPc l 0
 |0,i,acc,e,a0,a1=>by
  rw [qhh,if_neg (by simp;omega),wK (by omega)]
  have:tot (recs [])=0:=rfl
  rw [this,Int.add_zero]
  by_cases h:acc>8192
  ·rw [if_pos (by simpa using h),if_pos h]
  ·rw [if_neg (by simpa using h),if_neg h]
 |k+1,i,acc,e,a0,a1=>by
  have hl':wi l.length=(l.length:Int):=rfl
  obtain ⟨d1,d2,d3⟩:=qzB l (i:=i) (by omega)
  have hln:=hM.ln _ d2
  have ih:=fun a h0 h1=>qNI l hM hn k (i+1) a (by omega) h0 h1
  rw [show ((i+1:Nat):Int)=(i:Int)+1 by omega] at ih
  rw [qhh,if_pos (by simp;omega),qfa (by omega),qfa (by rw [hl'];omega),wv,d1]
  simp only [wj]
  rw [w64 (x:=(i:Int)+1) (by omega) (by omega),w64 (by omega) (by omega),ih _ (by omega) (by omega)]
  have e2:tot (recs (l.getD i (qra qwa)::l.drop (i+1)))=((l.getD i (qra qwa)).2.1.length:Int)+tot (recs (l.drop (i+1))):=rfl
  rw [e2,Int.add_assoc]
def mck (l:List qxa):Int:=if l.length>16 then 4 else if tot (recs l)>8192 then 4 else if l.all (fun m=>qiK m.1)=true then (if qpI [] (names (recs l)) then 14 else 0) else 8
theorem qmF (l:List qxa) (hM:MemsOK l):qai l=some (mck l):=by
 have hl':wi l.length=(l.length:Int):=rfl
 rw [qKp,hl',mck]
 by_cases h:l.length>16
 ·rw [if_pos (by simp;omega),if_pos h]
 ·have h1:=qNI l hM (by omega) l.length 0 0 (by omega) (wSa _) (wSa _)
  have h2:=qMI l hM (by omega) l.length 0 (by omega)
  have h3:=qLI l (by omega) l.length 0 (by omega)
  rw [wea] at h1 h2 h3
  rw [if_neg (by simp;omega),if_neg h]
  refine Eq.trans h1 ?_
  rw [Int.zero_add]
  by_cases ht:tot (recs l)>8192
  ·rw [if_pos ht,if_pos ht]
  ·rw [if_neg ht,if_neg ht]
   refine Eq.trans h2 ?_
   by_cases ha:l.all (fun m=>qiK m.1)=true
   ·rw [if_pos ha,if_pos ha]
    exact h3
   ·rw [if_neg ha,if_neg ha]
theorem qeH:∀(l:List qxa) (acc:Int) (nm:List ByteArray),l.all (fun m=>qiK m.1)=true→0≤acc→acc+tot (recs l)≤8192→qpI [] (nm++names (recs l))=false→vld acc nm (recs l)=0
 |[],acc,nm,h1,h2,h3,h4=>by
  have e:tot (recs [])=0:=rfl
  have e2:names (recs [])=[]:=rfl
  rw [e] at h3
  rw [e2,wW] at h4
  show (if acc>8192 then 4 else if qpI [] nm then 14 else 0)=0
  rw [if_neg (by omega),if_neg (by rw [h4];decide)]
 |m::l,acc,nm,h1,h2,h3,h4=>by
  rw [wsb,wA] at h1
  have e:tot (recs (m::l))=(m.2.1.length:Int)+tot (recs l):=rfl
  have hn:=qfr l
  rw [e] at h3
  have hb:¬qAI (qSK m)=true:=by
   unfold qAI
   have hs:(qSK m).2.1=(m.2.1.length:Int):=rfl
   rw [show (qSK m).1=m.1 from rfl,h1.1,hs,decide_eq_false (by omega),decide_eq_false (by omega)]
   by_cases h0:m.2.1.length=0
   ·have:m.2.1=[]:=List.length_eq_zero_iff.1 h0
    have e3:(qSK m).2.2.1=qCm []:=by show qCm m.2.1=_;rw [this]
    rw [e3]
    have:peq (.arr 20 (.int .u8)) (qCm []) (qCm [])=true:=qlN _
    rw [this];simp
   ·have:(((m.2.1.length:Nat):Int)==0)=false:=by rw [beq_eq_false_iff_ne];omega
    rw [this];simp
  show (if qAI (qSK m) then 8 else vld (acc+(qSK m).2.1) (nm++[(qSK m).1]) (recs l))=0
  rw [if_neg hb]
  refine qeH l _ _ h1.2 (by show 0≤acc+(m.2.1.length:Int);omega) (by show acc+(m.2.1.length:Int)+tot (recs l)≤8192;omega) ?_
  rw [wB]
  exact h4
def qcT (l:List qxa) (i:Nat):List Int:=(l.getD i (qra qwa)).2.1
theorem qrH (l:List qxa) (i:Nat) (h:i<l.length):(recs l).getD i (qra qla)=qSK (l.getD i (qra qwa)):=by
 unfold recs
 rw [wu,wxa,wx h,wu,wx h]
 rfl
theorem qHR {l:List qxa} (hM:MemsOK l) (h:mck l=0):Arc (qcT l) (recs l)∧l.length≤16∧tot (recs l)≤8192:=by
 unfold mck at h
 by_cases h1:l.length>16
 ·rw [if_pos h1] at h;cases h
 rw [if_neg h1] at h
 by_cases h2:tot (recs l)>8192
 ·rw [if_pos h2] at h;cases h
 rw [if_neg h2] at h
 by_cases h3:l.all (fun m=>qiK m.1)=true
 ·rw [if_pos h3] at h
  have h4:qpI [] (names (recs l))=false:=by
   cases hd:qpI [] (names (recs l)) with
   |false=>rfl
   |true=>rw [hd] at h;cases h
  refine ⟨⟨?_,fun r hr=>?_,fun i hi=>?_,fun i hi=>?_,fun i=>?_⟩,by omega,by omega⟩
  ·unfold qtf
   rw [qns,if_neg h1]
   exact qeH l 0 [] h3 (wSa _) (by omega) h4
  ·obtain ⟨m,hm,rfl⟩:=waa.1 hr
   exact ⟨qLi _,qkH _⟩
  ·rw [qns] at hi
   rw [qrH l i hi];rfl
  ·rw [qns] at hi
   rw [qrH l i hi];rfl
  ·exact qZx (P:=fun m:qxa=>Bts m.2.1) hM.bt Bts.nil i
 ·rw [if_neg h3] at h;cases h
theorem qTM (l:List qxa) (hM:MemsOK l) (hn:l.length≤16) (hs:tot (recs l)≤8192):∀(k i:Nat),i+k=l.length→qof l (i:Int) (recs (l.take i))=some (recs l,0)
 |0,i,e=>by
  rw [qtj,if_neg (by simp;omega),wQ (by omega)]
 |k+1,i,e=>by
  have hl':wi l.length=(l.length:Int):=rfl
  obtain ⟨d1,d2,d3⟩:=qzB l (i:=i) (by omega)
  have ih:=qTM l hM hn hs k (i+1) (by omega)
  have hmem:∀(l:List qxa) (m:qxa),m∈l→(m.2.1.length:Int)≤tot (recs l):=by
   intro l
   induction l with
   |nil=>intro m hm;cases hm
   |cons x l ih=>
    intro m hm
    have e:tot (recs (x::l))=(x.2.1.length:Int)+tot (recs l):=rfl
    have hnn:=qfr l
    rw [e]
    rcases wZ.1 hm with rfl|hm
    ·omega
    ·have:=ih m hm;omega
  have hml:=hmem l _ d2
  have hrec:qVg (l.getD i (qra qwa))=some (qSK (l.getD i (qra qwa))):=by
   rw [qAo,qYG _ (by omega)];rfl
  have ht:recs (l.take (i+1))=recs (l.take i)++[qSK (l.getD i (qra qwa))]:=by
   rw [d3];unfold recs;rw [wBa];rfl
  have hrl:(recs (l.take i)).length=i:=by rw [qns,wM];omega
  rw [ht,show ((i+1:Nat):Int)=(i:Int)+1 by omega] at ih
  rw [qtj,if_pos (by simp;omega),qfa (by omega),qfa (by rw [hl'];omega),wv,hrec,wq,qfa (by rw [wn,hrl];show (i+1)*48≤_;omega),w64 (x:=(i:Int)+1) (by omega) (by omega),ih]
theorem qSM (l:List qxa) (hM:MemsOK l) (h:mck l=0):qYh l=some (recs l,0):=by
 obtain ⟨_,hn,hs⟩:=qHR hM h
 rw [qet,qmF l hM,wq,if_neg (by rw [h];decide)]
 exact qTM l hM hn hs l.length 0 (by omega)
theorem qVM {a1 a2:Int} {z:List Int} (hl:z.length≤5000):qGi a1 a2 z z=some (qkk a1 a2 z):=by
 rw [qwq]
 simp only [wj,wV]
 exact Tot.eq (ua (by omega) (uc (by omega) (ud (qjB _ ⟨by show (0:Int)≤1;decide,by show (1:Int)<256;decide⟩ (by omega)) (ub rfl))))
theorem qnF {b:qda} (hw:bWf b) (hl:b.2.1.length≤5000):qci b=some (bB b):=by
 have h1:(mark++hB b.1).length=41:=by unfold hB;simp only [wn,qAd,qXt,hw.2]
 rw [qMp]
 exact Tot.eq (ud qzj (ud (qjv b.1 hw.1 hw.2) (ua (by omega) (ua (by rw [wn];omega) (ub rfl)))))
theorem qWM (bs:List qda) (hb:∀b∈bs,bWf b∧b.2.1.length≤5000) (hl:bs.length≤10000):∀(k i:Nat) (out:List Int),i+k=bs.length→out.length≤10000+6000*i→qje bs (i:Int) out=some (out++qWE (bs.drop i))
 |0,i,out,e,ho=>by
  rw [qXh,if_neg (by simp;omega),wK (by omega),qWE,wW]
 |k+1,i,out,e,ho=>by
  have hd:=qVa (qra qpa:qda) (xs:=bs) (i:=i) (by omega)
  have hx:=hb _ hd.2.2
  have ih:=fun out ho=>qWM bs hb hl k (i+1) out (by omega) ho
  rw [show ((i+1:Nat):Int)=(i:Int)+1 by omega] at ih
  rw [qXh]
  simp only [wj,wv]
  rw [hd.1,qWE,w64 (x:=(i:Int)+1) (by omega) (by omega)]
  generalize bs.getD i (qra qpa)=x at*
  have hxl:=qBI hx.1
  refine Tot.eq (uf (by omega) (ua (by omega) (ua (by omega) (ud (qnF hx.1 hx.2) (ua (by rw [wn];omega) (uh (ih _ (by rw [wn];omega)) ?_))))))
  rw [wB]
instance (h:qga):Decidable (hOK h):=by unfold hOK;infer_instance
instance (h:qga) (p:qca):Decidable (isP h p):=by unfold isP;infer_instance
instance (a:List Int) (p:Nat):Decidable (rF a p):=by unfold rF;infer_instance
theorem qpL (a:List Int) (hb:Bts a) (s:qha) (l:qCa) (P:List Int) (hP:∀x∈P,0≤x∧x≤a.length) (hPl:P.length≤10000) (h12:List qba) (h13:List qga):
  ∀(k i:Nat) (out:List qda),i+k=P.length→out.length=i→qMh a (P.length:Int) (i:Int) s () l out P h12 h13=some (l,(out++(P.drop i).map (fun x=>(rdK (a.drop x.toNat)).1),0))
 |0,i,out,e,ho=>by
  rw [qNl,if_neg (by simp;omega),wK (by omega),wDa,wW]
 |k+1,i,out,e,ho=>by
  have hd:=qVa (0:Int) (xs:=P) (i:=i) (by omega)
  have hx:=hP _ hd.2.2
  have ih:=fun out ho=>qpL a hb s l P hP hPl h12 h13 k (i+1) out (by omega) ho
  rw [show ((i+1:Nat):Int)=(i:Int)+1 by omega] at ih
  rw [qNl]
  simp only [wj,wv,wJ]
  rw [hd.1,wI,w64 (x:=(i:Int)+1) (by omega) (by omega)]
  generalize P.getD i 0=x at*
  refine Tot.eq (uf (by omega) (ua (by omega) (ua (by omega) (ua (by omega) (ua (by omega) (ud (qGp _ (hb.drop _)) (ua (by rw [wn,wy];omega) (uh (ih _ (by simp [ho])) ?_))))))))
  rw [wB];rfl
theorem qoL {a:List Int} (hb:Bts a) {l:qCa} {bs:List qda} (h:qnt a=(l,(bs,0))) (hR:RecsOK l.2.1) (hS:SumsOK l.2.1) (hL:lck l=0) (hP:∀x∈qyD l,0≤x∧x≤a.length) (hPl:(qyD l).length≤10000):
  qSd a=some (l,((qyD l).map (fun x=>(rdK (a.drop x.toNat)).1),0)):=by
 have hp:=qqo l hR hS
 rw [if_pos hL] at hp
 rw [qsp,qTq a hb,h]
 refine Tot.eq (ud rfl (ue rfl (ud hp ?_)))
 have:=qpL a hb (0,(0,())) l (qyD l) hP hPl [] [] (qyD l).length 0 [] (by omega) rfl
 exact uh this rfl
def qhK (b:qda):List Int×Int:=if qCm (fr8 b.1++b.2.1)=b.1.2.2.2.2.2.1 then (b.2.1,0) else ([],22)
def StB (b:qda):Prop:=b.1.1=1∧bC b=0∧Bts b.2.1
theorem StB.raw {lv:Int} (hl:0≤lv∧lv≤7) {b:qda} (h:StB b):qYf lv b=some (qhK b):=qdK hl h.1 h.2.1 h.2.2
def rsl:List qda→Nat→List qma
 |[],_=>[]
 |b::r,i=>((i:Int),((qhK b).1,((qhK b).2,())))::rsl r (i+1)
def prt (b:qda):qoa:=((b.1.2.1,(b.1.2.2.1,(b.1.2.2.2.1,()))),(b.2.1,()))
def qyN:List qda→Option (List qoa)
 |[]=>some []
 |b::r=>if (qhK b).2≠0 then none else (qyN r).map (prt b::·)
def qRS:Option (List qoa)→List qoa×Int
 |some l=>(l,0)
 |none=>([],22)
theorem qHP {b:qda} (h:(qhK b).2=0):(qhK b).1=b.2.1:=by
 unfold qhK at h ⊢
 split
 ·rfl
 ·rename_i hh;rw [if_neg hh] at h;cases h
theorem qvN {b:qda} (h:(qhK b).2≠0):(qhK b).2=22:=by
 unfold qhK at h ⊢
 split
 ·rename_i hh;rw [if_pos hh] at h;exact absurd rfl h
 ·rfl
theorem qDH (bs:List qda) (n8:Nat) (hl:bs.length≤10000):∀(k i:Nat) (dn:List qoa),i+k=bs.length→dn.length=i→
  qZc bs (bs.length:Int) (i:Int) n8 (rsl (bs.drop i) i) (dn++wl k (qra qJa))=some (match qyN (bs.drop i) with
   |some l=>(dn++l,0)
   |none=>([],22))
 |0,i,dn,e,hd=>by
  rw [qMe,if_neg (by simp;omega),wK (by omega)]
  rfl
 |k+1,i,dn,e,hdn=>by
  have hd:=qVa (qra qpa:qda) (xs:=bs) (i:=i) (by omega)
  have ih:=fun dn hdn=>qDH bs n8 hl k (i+1) dn (by omega) hdn
  rw [show ((i+1:Nat):Int)=(i:Int)+1 by omega] at ih
  rw [qMe,hd.1]
  simp only [rsl,wj,wv,wJ,List.getD_cons_zero,List.drop_succ_cons,wea]
  rw [w64 (x:=(i:Int)+1) (by omega) (by omega)]
  generalize bs.getD i (qra qpa)=x at*
  have hset:∀y:qoa,(dn++wl (k+1) (qra qJa)).set i y=(dn++[y])++wl k (qra qJa):=fun y=>by
   rw [wdb _ _ (by omega),hdn,wGa,wKa,wab,wB];rfl
  rw [hset]
  refine Tot.eq (uf (by omega) (ua (by simp) (ui (fun h=>ub ?_) (fun h=>ua (by omega) (ua (by omega) (ua (by omega) (ua (by simp [hdn];omega) (uh (ih _ (by simp [hdn])) ?_))))))))
  ·rw [qyN,if_pos h,qvN h]
  ·rw [qyN,if_neg (by simpa using h),qHP h]
   cases qyN (bs.drop (i+1)) with
   |none=>rfl
   |some l=>show (_,_)=(_,_);rw [wB];rfl
theorem qEH (lv:Int) (hlv:0≤lv∧lv≤7) (bs:List qda) (hl:bs.length≤10000) (hs:∀b∈bs,StB b):∀(k i:Nat),i+k=bs.length→
  ∀(h8:List qma),h8.length=i→qYe lv bs bs (bs.length:Int) (i:Int) bs.length h8=qZc bs (bs.length:Int) 0 bs.length (h8++rsl (bs.drop i) i) (wl bs.length (qra qJa))
 |0,i,e,h8,h=>by
  rw [qNe,if_neg (by simp;omega),wK (by omega),rsl,wW]
  simp only [wj]
  rw [qfa trivial,qfa (by omega),qfa (by omega),qfa (by omega)]
 |k+1,i,e,h8,h=>by
  have hd:=qVa (qra qpa:qda) (xs:=bs) (i:=i) (by omega)
  have ih:=qEH lv hlv bs hl hs k (i+1) (by omega)
  rw [show ((i+1:Nat):Int)=(i:Int)+1 by omega] at ih
  rw [qNe,hd.1,if_pos (by simp;omega)]
  simp only [wj,wv]
  rw [w64 (x:=(i:Int)+1) (by omega) (by omega)]
  have hx:=hs _ hd.2.2
  generalize bs.getD i (qra qpa)=x at*
  rw [qfa (by omega),qfa (by omega),hx.raw hlv,wq,qfa (by omega),ih _ (by simp [h]),rsl,wB]
  rfl
theorem qkJ (lv:Int) (hlv:0≤lv∧lv≤7) (bs:List qda) (hl:bs.length≤10000) (hs:∀b∈bs,StB b):qbc lv bs=some (qRS (qyN bs)):=by
 rw [qso]
 simp only [wj]
 rw [qfa (by omega),qfa (by omega),qfa (by omega)]
 have h1:=qEH lv hlv bs hl hs bs.length 0 (by omega) [] rfl
 have h2:=qDH bs bs.length hl bs.length 0 [] (by omega) rfl
 simp only [wea,wV,Int.natCast_zero] at h1 h2
 rw [h1,h2]
 cases qyN bs <;> rfl
def wr {α:Type}:List α→Nat→List α→List α
 |xs,_,[]=>xs
 |xs,i,y::ys=>wr (xs.set i y) (i+1) ys
theorem getD_set_ne {α:Type} {xs:List α} {i j:Nat} {y d:α} (h:i≠j):(xs.set i y).getD j d=xs.getD j d:=by
 simp [wu,wxb,h]
theorem qUg {α:Type} {xs:List α} {i:Nat} {y d:α} (h:i<xs.length):(xs.set i y).getD i d=y:=by
 simp [wu,wxb,h]
theorem qnH {α:Type} {xs:List α} {i:Nat} {d:α} (h:i<xs.length):xs.set i (xs.getD i d)=xs:=by
 apply List.ext_getElem?;intro j
 rw [wxb]
 by_cases h1:i=j
 ·subst h1;simp [h,wu]
 ·simp [h1]
theorem qlK {α:Type}:∀{ys dn:List α} {zs:List α},ys.length≤zs.length→wr (dn++zs) dn.length ys=dn++ys++zs.drop ys.length
 |[],dn,zs,_=>by simp [wr]
 |y::ys,dn,[],h=>by simp at h
 |y::ys,dn,z::zs,h=>by
  have:(dn++z::zs).set dn.length y=(dn++[y])++zs:=by
   rw [wdb _ _ (ws _),wGa,wab,wB];rfl
  rw [wr,this]
  have h2:=qlK (ys:=ys) (dn:=dn++[y]) (zs:=zs) (by simpa using h)
  rw [wn,wy] at h2
  rw [h2]
  simp
theorem qaM (v32:List qoa) (v33 v34:Int) (dat:List Int) (m off:Nat) (raw:Int) (hb:off+dat.length≤1000000):∀(rest:List Int) (k:Nat) (h0:List (ByteArray×List Int)) (h8:List (List Bool)),dat.drop k=rest→k+rest.length=dat.length→
  m<h0.length→h8.length=h0.length→h0.length≤100000→(h8.getD m []).length=(h0.getD m (wD,[])).2.length→off+dat.length≤(h8.getD m []).length→(∀j,off+k≤j→j<off+dat.length→(h8.getD m []).getD j false=false)→
  qQe v32 v33 v34 dat (dat.length:Int) (k:Int) h0 h8 ((m:Int),((off:Int),(raw,())))=
   qLd v32 v33 (wd .i64 (v34+1)) (h0.set m ((h0.getD m (wD,[])).1,wr (h0.getD m (wD,[])).2 (off+k) rest)) (h8.set m (wr (h8.getD m []) (off+k) (rest.map fun _=>true)))
 |[],k,h0,h8,hr,hk,hm,hl,hl2,hs,ho,hf=>by
  simp only [wX] at hk
  rw [qok,if_neg (by simp;omega)]
  simp only [wDa,wr]
  have t2:h8.set m (h8.getD m [])=h8:=qnH (by omega)
  have:h0.set m ((h0.getD m (wD,[])).1,(h0.getD m (wD,[])).2)=h0:=qnH hm
  rw [this,t2]
 |b::rest,k,h0,h8,hr,hk,hm,hl,hl2,hs,ho,hf=>by
  simp only [wz] at hk
  have hd:=qVa (0:Int) (xs:=dat) (i:=k) (by omega)
  rw [hr] at hd
  obtain ⟨hd1,_⟩:=hd
  injection hd1 with hd1 hd2
  have hw:wd .i64 ((off:Int)+(k:Int))=((off+k:Nat):Int):=by rw [w64 (by omega) (by omega)];omega
  have hm8:m<h8.length:=by omega
  have hfl:=hf (off+k) (ws _) (by omega)
  have hfv:(qAi (a:= .str) (e:=(.int .u8)) h0).length=h0.length:=qMl (a:= .str) (e:= .int .u8) h0
  have ih:=qaM v32 v33 v34 dat m off raw hb rest (k+1) (h0.set m ((h0.getD m (wD,[])).1,(h0.getD m (wD,[])).2.set (off+k) b)) (h8.set m ((h8.getD m []).set (off+k) true)) hd2.symm (by omega)
   (by rw [wia];exact hm) (by rw [wia,wia];exact hl) (by rw [wia];exact hl2) (by rw [qUg hm8,qUg hm,wia,wia];exact hs) (by rw [qUg hm8,wia];exact ho)
   (fun j h1 h2=>by rw [qUg hm8,getD_set_ne (by omega)];exact hf j (by omega) h2)
  rw [qUg hm8,qUg hm,List.set_set,List.set_set] at ih
  rw [show ((k+1:Nat):Int)=(k:Int)+1 by omega] at ih
  rw [qok]
  simp only [hw,hfv,wj,wv,wJ]
  rw [if_pos (by simp;omega),qfa (by omega),qfa (by omega),qfa (by omega),qfa (by omega),qfa (by omega),qfa (by omega),qfa (by omega),if_neg (by rw [hfl];decide),
   qfa (by omega),qfa (by omega),qfa (by omega),qfa (by omega),qfa (by omega),qfa (by omega),qfa (by omega),qfa (by omega),qfa (by omega),qfa (by omega),
   ←hd1,w64 (x:=(k:Int)+1) (by omega) (by omega),ih,wI,wr,wr]
  rfl
abbrev Mm:=List (ByteArray×List Int)
def pM (p:qoa):Nat:=p.1.1.toNat
def pO (p:qoa):Nat:=p.1.2.1.toNat
def qLP (p:qoa) (h0:Mm):Mm:=h0.set (pM p) ((h0.getD (pM p) (wD,[])).1,wr (h0.getD (pM p) (wD,[])).2 (pO p) p.2.1)
def qVQ (p:qoa) (h8:List (List Bool)):List (List Bool):=h8.set (pM p) (wr (h8.getD (pM p) []) (pO p) (p.2.1.map fun _=>true))
def qlT (p:qoa) (h0:Mm) (h8:List (List Bool)):Prop:=
 0≤p.1.1∧pM p<h0.length∧0≤p.1.2.1∧pO p+p.2.1.length≤1000000∧(h8.getD (pM p) []).length=(h0.getD (pM p) (wD,[])).2.length∧pO p+p.2.1.length≤(h8.getD (pM p) []).length∧∀j,pO p≤j→j<pO p+p.2.1.length→(h8.getD (pM p) []).getD j false=false
def qkF:List qoa→Mm→List (List Bool)→Prop
 |[],_,_=>True
 |p::r,h0,h8=>qlT p h0 h8∧qkF r (qLP p h0) (qVQ p h8)
def putL:List qoa→Mm→Mm
 |[],h0=>h0
 |p::r,h0=>putL r (qLP p h0)
theorem qbM (ps:List qoa) (hps:ps.length≤100000):∀(k i:Nat) (h0:Mm) (h8:List (List Bool)),i+k=ps.length→h8.length=h0.length→h0.length≤100000→qkF (ps.drop i) h0 h8→
  qLd ps (ps.length:Int) (i:Int) h0 h8=some (true,putL (ps.drop i) h0)
 |0,i,h0,h8,e,hl,hl2,hf=>by
  rw [qpk,if_neg (by simp;omega),wK (by omega)];rfl
 |k+1,i,h0,h8,e,hl,hl2,hf=>by
  have hd:=qVa (qra qJa:qoa) (xs:=ps) (i:=i) (by omega)
  rw [hd.1] at hf ⊢
  have ih:=fun h0 h8=>qbM ps hps k (i+1) h0 h8 (by omega)
  rw [show ((i+1:Nat):Int)=(i:Int)+1 by omega] at ih
  rw [qpk]
  simp only [wj,wv]
  rw [if_pos (by simp;omega),qfa (by omega),qfa (by omega)]
  generalize ps.getD i (qra qJa)=x at*
  obtain ⟨⟨f1,f2,f3,f4,f5,f6,f7⟩,hf⟩:=hf
  have h3:=qaM ps (ps.length:Int) (i:Int) x.2.1 (pM x) (pO x) x.1.2.2.1 f4 x.2.1 0 h0 h8 rfl (by omega) f2 hl hl2 f5 f6 (by simpa using f7)
  have hx:x.1=(((pM x:Nat):Int),(((pO x:Nat):Int),(x.1.2.2.1,()))):=by
   unfold pM pO
   rw [Int.toNat_of_nonneg f1,Int.toNat_of_nonneg f3]
  rw [hx]
  simp only [wqb] at h3
  refine h3.trans ?_
  rw [w64 (x:=(i:Int)+1) (by omega) (by omega)]
  exact ih (qLP x h0) (qVQ x h8) (by unfold qLP qVQ;rw [wia,wia];exact hl) (by unfold qLP;rw [wia];exact hl2) hf
def qHp (h0:Mm):List (List Bool):=h0.map fun x=>wl x.2.length false
theorem qcM (ps:List qoa) (h0:Mm) (hl:h0.length≤100000) (hm:∀x∈h0,x.2.length≤1000000):∀(k i:Nat),i+k=h0.length→
  qGg ps (h0.length:Int) (i:Int) h0 ((qHp h0).take i++wl k [])=qLd ps (ps.length:Int) 0 h0 (qHp h0)
 |0,i,e=>by
  rw [qqk,if_neg (by simp;omega),wQ (by unfold qHp;simp;omega),List.replicate_zero,wW]
  rfl
 |k+1,i,e=>by
  have hd:=qVa ((wD,[]):ByteArray×List Int) (xs:=h0) (i:=i) (by omega)
  have ih:=qcM ps h0 hl hm k (i+1) (by omega)
  rw [show ((i+1:Nat):Int)=(i:Int)+1 by omega] at ih
  have hfv:(qAi (a:= .str) (e:= .int .u8) h0).length=h0.length:=qMl (a:= .str) (e:= .int .u8) h0
  have hx:=hm _ hd.2.2
  have hbl:(qHp h0).length=h0.length:=wha ..
  have hset:((qHp h0).take i++wl (k+1) []).set i (wl (h0.getD i (wD,[])).2.length false)=(qHp h0).take (i+1)++wl k []:=by
   have h1:((qHp h0).take i).length=i:=by rw [wM];omega
   rw [wdb _ _ (by omega),h1,wGa,wKa,wab]
   have h2:(qHp h0).take (i+1)=(qHp h0).take i++[wl (h0.getD i (wD,[])).2.length false]:=by
    unfold qHp
    rw [←List.map_take,←List.map_take,hd.2.1,wBa];rfl
   rw [h2,wB];rfl
  rw [qqk]
  simp only [hfv,wj,wv,wJ]
  rw [if_pos (by simp;omega),qfa (by omega),qfa (by omega),qfa trivial,qfa (by omega),qfa (by omega),qfa (by omega),qfa (by omega),qfa (by simp;omega),hset,w64 (x:=(i:Int)+1) (by omega) (by omega),ih]
theorem qZL (ps:List qoa) (h0:Mm) (hps:ps.length≤100000) (hl:h0.length≤100000) (hm:∀x∈h0,x.2.length≤1000000) (hf:qkF ps h0 (qHp h0)):qnn ps h0=some (true,putL ps h0):=by
 have hfv:(qAi (a:= .str) (e:= .int .u8) h0).length=h0.length:=qMl (a:= .str) (e:= .int .u8) h0
 have h1:=qcM ps h0 hl hm h0.length 0 (by omega)
 have h2:=qbM ps hps ps.length 0 h0 (qHp h0) (by omega) (wha ..) hl hf
 rw [qdv]
 simp only [hfv,wj,wv]
 rw [qfa trivial,qfa (by omega),qfa (by omega),qfa (by omega)]
 simp only [List.take_zero,wV,Int.natCast_zero] at h1 h2
 exact h1.trans h2
def leP (a b:qca):Prop:=a.1<b.1∨(a.1=b.1∧a.2.1≤b.2.1)
theorem qVS (a b:Int):∃r,qTh a b=some r∧(r<0↔a<b)∧(r=0↔a=b):=by
 have hn:∀x:Int,qZj x=some false:=fun x=>by rw [qJv];simp
 rw [qXs,hn,hn]
 simp only [wq,Bool.false_eq_true,if_false,decide_eq_true_eq]
 by_cases h1:a<b
 ·rw [if_pos h1];exact ⟨-1,rfl,by omega,by omega⟩
 ·rw [if_neg h1]
  by_cases h2:a>b
  ·rw [if_pos h2];exact ⟨1,rfl,by omega,by omega⟩
  ·rw [if_neg h2];exact ⟨0,rfl,by omega,by omega⟩
theorem qAS (x y:Int):qmu [x,y]=some (if x≠0 then x else y):=by
 have h0:qhg 0 [x,y] (wi 2) 2=some 0:=by rw [qBj,if_neg (by decide)]
 have h1:qhg 0 [x,y] (wi 2) 1=some y:=by
  rw [qBj,if_pos (by decide),qfa (by decide),qfa (by show _<(2:Int);decide)]
  show (if (y != 0)=true then some y else _)=_
  rw [show wd .i64 ((1:Int)+1)=2 by decide+kernel,h0]
  by_cases h:y=0
  ·subst h;rfl
  ·rw [if_pos (by simpa using h)]
 rw [qFC]
 show qhg 0 [x,y] (wi 2) 0=_
 rw [qBj,if_pos (by decide),qfa (by decide),qfa (by show _<(2:Int);decide)]
 show (if (x != 0)=true then some x else _)=_
 rw [show wd .i64 ((0:Int)+1)=1 by decide+kernel,h1]
 by_cases h:x=0
 ·subst h;rfl
 ·rw [if_pos (by simpa using h),if_pos h]
theorem qzS (a b:qca):∃r,qrd a b=some r∧(leP b a→¬r<0):=by
 obtain ⟨r1,h1,h2,h3⟩:=qVS a.1 b.1
 obtain ⟨r2,g1,g2,g3⟩:=qVS a.2.1 b.2.1
 refine ⟨if r1≠0 then r1 else r2,?_,fun h=>?_⟩
 ·rw [qcs,h1,wq,g1,wq,qAS,wq]
 ·unfold leP at h
  split <;> omega
def Ord (l:List qca):Prop:=∀i j,i≤j→j<l.length→leP (l.getD i (qra qja)) (l.getD j (qra qja))
theorem qaP (l:List qca) (hl:l.length≤100000) (ho:Ord l):∀(k i:Nat),i+k=l.length→1≤i→qWa 0 (l.length:Int) (i:Int) l=some l
 |0,i,e,h=>by rw [qqb,if_neg (by simp;omega)]
 |k+1,i,e,h=>by
  have ih:=qaP l hl ho k (i+1) (by omega) (by omega)
  rw [show ((i+1:Nat):Int)=(i:Int)+1 by omega] at ih
  obtain ⟨r,h1,h2⟩:=qzS (l.getD i (qra qja)) (l.getD (i - 1) (qra qja))
  have h3:=h2 (ho (i - 1) i (by omega) (by omega))
  have hw:wd .i64 ((i:Int) - 1)=((i - 1:Nat):Int):=by rw [w64 (by omega) (by omega)];omega
  rw [qqb,if_pos (by simp;omega),qHe]
  simp only [hw,wj,wv,wJ]
  rw [if_pos (by simp;omega),qfa (by omega),qfa (by omega),qfa (by omega),qfa (by omega),h1,wq,if_neg (by simpa using h3),w64 (x:=(i:Int)+1) (by omega) (by omega),ih]
theorem qLS:qLe 0=some 0:=by
 rw [qno,qAl]
 refine Tot.eq (ud (Tot.eq (uc (by decide) (uc (by decide) (uc (by decide) (ua (by decide+kernel) (ua (by decide+kernel) (ub (show _=(0:Int) by decide+kernel)))))))) (ub rfl))
theorem qHI {l:List qca} (hl:l.length≤12) (ho:Ord l):qOa l=some l:=by
 have hins:qPb 0 (l.length:Int) l=some l:=by
  rw [qvf,show wd .i64 ((0:Int)+1)=1 by decide+kernel]
  by_cases h0:l.length=0
  ·rw [qqb,if_neg (by simp;omega)]
  ·exact qaP l (by omega) ho (l.length - 1) 1 (by omega) (ws _)
 have hp:∀r,qLb 0 (l.length:Int) r l=some l:=fun r=>by
  rw [qCd,qcd,w64 (x:=(l.length:Int) - 0) (by omega) (by omega)]
  exact Tot.eq (uf (by omega) (ud hins (ub rfl)))
 have hlen:∃r,qLe (wd .u64 (wi l.length))=some r:=by
  by_cases h0:l.length=0
  ·rw [h0,show wd .u64 (wi 0)=0 by decide+kernel];exact ⟨0,qLS⟩
  ·obtain ⟨r,h,_⟩:=qsO (a:=wi l.length) (by simp;omega) (by simp;omega)
   exact ⟨r,h⟩
 obtain ⟨r,hr⟩:=hlen
 rw [qTc,hr]
 exact Tot.eq (ud rfl (ud (hp r) (ub rfl)))
theorem qAQ {l:List qca} (hl:l.length≤100000):qzc l=some l:=by
 rw [qOg]
 refine qMy false (fun h=>by cases h) (fun x hx=>?_)
 cases x
 ·exact Tot.eq (uk (fun h=>by cases h) (fun _=>ua (by simp;omega) (ub (wV _))))
 ·exact Tot.eq (uk (fun h=>ub (hx rfl).symm) (fun h=>absurd rfl h))
def qkG (i:Int):List qca→Int→Prop
 |[],_=>True
 |p::r,e=>if p.1≠i then qkG i r e else p.2.1≤e∧qkG i r (if p.2.1+p.2.2.1>e then p.2.1+p.2.2.1 else e)
def Sml (p:qca):Prop:=0≤p.2.1∧p.2.1≤1000000∧0≤p.2.2.1∧p.2.2.1≤1000000
theorem qyL (n:Nat) (v15:List Int) (v16 i:Int) (h9:List qca) (L:List qca) (hL:L.length≤100000) (hS:∀p∈L,Sml p):∀(k j:Nat) (e:Int),j+k=L.length→0≤e→e≤2000000→qkG i (L.drop j) e→
  qKd n i e v15 v16 i (L.length:Int) (j:Int) L h9=qXc n v15 v16 (wd .i64 (i+1)) L h9
 |0,j,e,hj,h1,h2,ho=>by rw [qmk,if_neg (by simp;omega)]
 |k+1,j,e,hj,h1,h2,ho=>by
  have hd:=qVa (qra qja:qca) (xs:=L) (i:=j) (by omega)
  rw [hd.1] at ho
  have hs:=hS _ hd.2.2
  have ih:=fun e=>qyL n v15 v16 i h9 L hL hS k (j+1) e (by omega)
  rw [show ((j+1:Nat):Int)=(j:Int)+1 by omega] at ih
  rw [qmk]
  simp only [wj,wv,wJ]
  rw [if_pos (by simp;omega),qfa (by omega),qfa (by omega),w64 (x:=(j:Int)+1) (by omega) (by omega)]
  generalize L.getD j (qra qja)=x at*
  obtain ⟨s1,s2,s3,s4⟩:=hs
  rw [qkG] at ho
  by_cases hx:x.1=i
  ·rw [if_neg (by simpa using hx)] at ho
   rw [if_neg (by simpa using hx),if_neg (by have:=ho.1;simp;omega),w64 (x:=x.2.1+x.2.2.1) (by omega) (by omega)]
   exact ih _ (by split <;> omega) (by split <;> omega) ho.2
  ·rw [if_pos hx] at ho
   rw [if_pos (by simpa using hx)]
   exact ih e h1 h2 ho
theorem qxL (n:Nat) (v15:List Int) (v16 i:Int) (h8 h9:List qca) (L:List qca) (hL:L.length≤100000) (hS:∀p∈L,Sml p):∀(k j:Nat) (e:Int),j+k=L.length→0≤e→e≤2000000→qkG i (L.drop j) e→
  qJd n i e v15 v16 i (L.length:Int) (j:Int) h8 h9 L=qXc n v15 v16 (wd .i64 (i+1)) h8 h9
 |0,j,e,hj,h1,h2,ho=>by rw [qlk,if_neg (by simp;omega)]
 |k+1,j,e,hj,h1,h2,ho=>by
  have hd:=qVa (qra qja:qca) (xs:=L) (i:=j) (by omega)
  rw [hd.1] at ho
  have hs:=hS _ hd.2.2
  have ih:=fun e=>qxL n v15 v16 i h8 h9 L hL hS k (j+1) e (by omega)
  rw [show ((j+1:Nat):Int)=(j:Int)+1 by omega] at ih
  rw [qlk]
  simp only [wj,wv,wJ]
  rw [if_pos (by simp;omega),qfa (by omega),qfa (by omega),w64 (x:=(j:Int)+1) (by omega) (by omega)]
  generalize L.getD j (qra qja)=x at*
  obtain ⟨s1,s2,s3,s4⟩:=hs
  rw [qkG] at ho
  by_cases hx:x.1=i
  ·rw [if_neg (by simpa using hx)] at ho
   rw [if_neg (by simpa using hx),if_neg (by have:=ho.1;simp;omega),w64 (x:=x.2.1+x.2.2.1) (by omega) (by omega)]
   exact ih _ (by split <;> omega) (by split <;> omega) ho.2
  ·rw [if_pos hx] at ho
   rw [if_pos (by simpa using hx)]
   exact ih e h1 h2 ho
def Cov (sz:List Int) (xs:List qca):Prop:=∀i:Nat,i<sz.length→qkG (i:Int) (xs++[((i:Int),(sz.getD i 0,(0,())))]) 0
theorem qzL (sz:List Int) (hsz:sz.length≤10000) (hz:∀x∈sz,0≤x∧x≤1000000) (xs:List qca) (hx:xs.length≤10000) (hS:∀p∈xs,Sml p) (hC:Cov sz xs) (h9:List qca):∀(k i:Nat) (h8:List qca),i+k=sz.length→h8.take xs.length=xs→
  qXc xs.length sz (sz.length:Int) (i:Int) h8 h9=some h9
 |0,i,h8,e,h=>by rw [qnk,if_neg (by simp;omega)]
 |k+1,i,h8,e,h=>by
  have hd:=qVa (0:Int) (xs:=sz) (i:=i) (by omega)
  have hzi:=hz _ hd.2.2
  have ih:=fun h8=>qzL sz hsz hz xs hx hS hC h9 k (i+1) h8 (by omega)
  rw [show ((i+1:Nat):Int)=(i:Int)+1 by omega] at ih
  have hc:=hC i (by omega)
  have hS':∀p∈xs++[((i:Int),(sz.getD i 0,((0:Int),())))],Sml p:=fun p hp=>by
   rcases wba.1 hp with hp|hp
   ·exact hS p hp
   ·rw [wU.1 hp];exact ⟨hzi.1,hzi.2,wSa 0,(show (0:Int)≤1000000 by decide)⟩
  have hlen:(xs++[((i:Int),(sz.getD i 0,((0:Int),())))]).length=xs.length+1:=by simp
  have g2:=qyL xs.length sz (sz.length:Int) (i:Int) h9 _ (by rw [hlen];omega) hS' _ 0 0 (wJ _) (by omega) (by omega) hc
  have g3:=qxL xs.length sz (sz.length:Int) (i:Int) h8 h9 _ (by rw [hlen];omega) hS' _ 0 0 (wJ _) (by omega) (by omega) hc
  rw [w64 (x:=(i:Int)+1) (by omega) (by omega)] at g2 g3
  rw [qnk]
  simp only [wj,wv,h]
  rw [if_pos (by simp;omega),qfa (by omega),qfa (by omega)]
  refine qMy true trivial (fun b _=>?_)
  cases b
  ·rw [if_neg (by decide),qfa (by rw [hlen];omega)]
   exact g3.trans (ih h8 h)
  ·rw [if_pos rfl,qfa (by rw [hlen];omega),qfa (by rw [hlen];omega)]
   exact g2.trans (ih _ (List.take_left' rfl))
theorem qPD {sz:List Int} (hsz:sz.length≤10000) (hz:∀x∈sz,0≤x∧x≤1000000) {xs:List qca} (hx:xs.length≤10000) (hso:qOa xs=some xs) (hS:∀p∈xs,Sml p) (hC:Cov sz xs):qmn sz xs=some []:=by
 have h1:=qzL sz hsz hz xs hx hS hC [] sz.length 0 xs (by omega) (List.take_length)
 rw [qcv]
 exact Tot.eq (ud (qAQ (by omega)) (ud hso (uh h1 rfl)))
def qnd (rs:List qba):Mm:=rs.map fun r=>(r.1,wl r.2.1.toNat 0)
theorem qKO (rs:List qba) (ps:List qoa) (hl:rs.length≤10000) (hs:∀r∈rs,0≤r.2.1∧r.2.1≤1000000):∀(k i:Nat),i+k=rs.length→
  qgl rs ps rs (rs.length:Int) (i:Int) (szs (rs.take i)) (qnd (rs.take i))=qxf rs ps ps (ps.length:Int) 0 (szs rs) (qnd rs) []
 |0,i,e=>by rw [qJo,if_neg (by simp;omega),wQ (by omega)];rfl
 |k+1,i,e=>by
  have hd:=qVa (qra qla:qba) (xs:=rs) (i:=i) (by omega)
  have ih:=qKO rs ps hl hs k (i+1) (by omega)
  have hx:=hs _ hd.2.2
  have hti:(rs.take i).length=i:=by rw [wM];omega
  rw [show ((i+1:Nat):Int)=(i:Int)+1 by omega,hd.2.1] at ih
  have e1:szs (rs.take i++[rs.getD i (qra qla)])=szs (rs.take i)++[(rs.getD i (qra qla)).2.1]:=by unfold szs;rw [wBa];rfl
  have e2:qnd (rs.take i++[rs.getD i (qra qla)])=qnd (rs.take i)++[((rs.getD i (qra qla)).1,wl (rs.getD i (qra qla)).2.1.toNat 0)]:=by unfold qnd;rw [wBa];rfl
  rw [e1,e2] at ih
  have l1:(szs (rs.take i)).length=i:=by rw [qkn,hti]
  have l2:(qnd (rs.take i)).length=i:=by unfold qnd;rw [wha,hti]
  rw [qJo]
  simp only [wj,wv]
  rw [if_pos (by simp;omega),qfa (by omega),qfa (by omega),w64 (x:=(i:Int)+1) (by omega) (by omega)]
  generalize rs.getD i (qra qla)=x at*
  rw [qfa (by rw [wn,l1,wy];omega),qfa trivial,qfa (by omega),qfa (by omega),qfa (by omega),qfa (by rw [wn,l2,wy];omega),ih]
def qlw (rs:List qba) (ms:List qxa):Nat→Nat→Bool
 |0,_=>true
 |k+1,i=>peq (.arr 20 (.int .u8)) (qCm (ms.getD i (qra qwa)).2.1) (rs.getD i (qra qla)).2.2.1&&qlw rs ms k (i+1)
theorem qIO (rs:List qba) (ms:List qxa) (hl:ms.length≤10000) (hr:ms.length≤rs.length) (hm:∀m∈ms,Bts m.2.1∧m.2.1.length≤20000):∀(k i:Nat),i+k=ms.length→
  qZi rs (ms.length:Int) (i:Int) ms=some (if qlw rs ms k i=true then (ms,0) else ([],22))
 |0,i,e=>by rw [qHo,if_neg (by simp;omega)];rfl
 |k+1,i,e=>by
  have hd:=qVa (qra qwa:qxa) (xs:=ms) (i:=i) (by omega)
  have ih:=qIO rs ms hl hr hm k (i+1) (by omega)
  have hx:=hm _ hd.2.2
  rw [show ((i+1:Nat):Int)=(i:Int)+1 by omega] at ih
  rw [qHo]
  simp only [wj,wv,wJ]
  rw [if_pos (by simp;omega),qfa (by omega),qfa (by omega),qew _ hx.1,if_pos hx.2,wq,qfa (by omega),qfa (by omega),w64 (x:=(i:Int)+1) (by omega) (by omega),ih,qlw]
  by_cases hp:peq (.arr 20 (.int .u8)) (qCm (ms.getD i (qra qwa)).2.1) (rs.getD i (qra qla)).2.2.1=true
  ·rw [if_neg (by rw [hp];decide),hp,Bool.true_and]
  ·rw [Bool.not_eq_true] at hp
   rw [if_pos (by rw [hp];rfl),hp,Bool.false_and,if_neg (by decide)]
def Win (sz:List Int) (p:qca):Prop:=0≤p.1∧p.1<sz.length∧0≤p.2.1∧0<p.2.2.1∧p.2.1+p.2.2.1≤sz.getD p.1.toNat 0∧sz.getD p.1.toNat 0≤1000000
theorem qeN {sz:List Int} {p:qca} (h:Win sz p):qGo sz p=some true:=by
 obtain ⟨h1,h2,h3,h4,h5,h6⟩:=h
 rw [qsw]
 simp only [wj]
 rw [w64 (x:=sz.getD p.1.toNat 0 - p.2.1) (by omega) (by omega)]
 refine Tot.eq (uf h1 (uf h2 (uf h3 (uf h4 (ua h1 (ua h2 (uf (by omega) (ua h1 (ua h2 (ub ?_))))))))))
 rw [decide_eq_true_eq];omega
theorem qJO (rs:List qba) (ps:List qoa) (sz:List Int) (h0:Mm) (hps:ps.length≤600) (hw:∀p∈ps,Win sz p.1∧(p.2.1.length:Int)=p.1.2.2.1):∀(k i:Nat),i+k=ps.length→
  qxf rs ps ps (ps.length:Int) (i:Int) sz h0 ((ps.take i).map (·.1))=qxf rs ps ps (ps.length:Int) (ps.length:Int) sz h0 (ps.map (·.1))
 |0,i,e=>by
  have:i=ps.length:=by omega
  subst this
  rw [List.take_length]
 |k+1,i,e=>by
  have hd:=qVa (qra qJa:qoa) (xs:=ps) (i:=i) (by omega)
  have ih:=qJO rs ps sz h0 hps hw k (i+1) (by omega)
  have hx:=hw _ hd.2.2
  have hti:(ps.take i).length=i:=by rw [wM];omega
  rw [show ((i+1:Nat):Int)=(i:Int)+1 by omega,hd.2.1,wBa,List.map_singleton] at ih
  rw [qIo]
  simp only [wj,wv]
  rw [if_pos (by simp;omega),qfa (by omega),qfa (by omega),w64 (x:=(i:Int)+1) (by omega) (by omega)]
  generalize ps.getD i (qra qJa)=x at*
  rw [qeN hx.1,wq,if_neg (by decide),if_neg (by simpa using hx.2),qfa (by rw [wn,wha,hti,wy];omega),ih]
theorem qRA (rs:List qba):(qnd rs).length=rs.length:=wha ..
theorem qeK {rs:List qba} {ps:List qoa} (hR:RecsOK rs) (hv:qtf rs=0) (hl:rs.length≤10000) (hs:∀r∈rs,0≤r.2.1∧r.2.1≤20000) (hps:ps.length≤600) (hw:∀p∈ps,Win (szs rs) p.1∧(p.2.1.length:Int)=p.1.2.2.1)
  (hf:qkF ps (qnd rs) (qHp (qnd rs))) (hso:qOa (ps.map (·.1))=some (ps.map (·.1))) (hS:∀p∈ps,Sml p.1) (hC:Cov (szs rs) (ps.map (·.1)))
  (hln:(putL ps (qnd rs)).length=rs.length) (hm:∀m∈putL ps (qnd rs),Bts m.2∧m.2.length≤20000):
  qbd rs ps=some (if qlw rs (qAi (a:= .str) (e:= .int .u8) (putL ps (qnd rs))) rs.length 0=true then (qAi (a:= .str) (e:= .int .u8) (putL ps (qnd rs)),0) else ([],22)):=by
 have hbl:∀x∈qnd rs,x.2.length≤1000000:=fun x hx=>by
  obtain ⟨r,hr,rfl⟩:=waa.1 hx
  have:=hs r hr
  simp;omega
 have hfill:=qZL ps (qnd rs) (by omega) (by rw [qRA];omega) hbl hf
 have hmis:=qPD (sz:=szs rs) (by rw [qkn];omega) (fun x hx=>by obtain ⟨r,hr,rfl⟩:=waa.1 hx;have:=hs r hr;omega) (xs:=ps.map (·.1)) (by simp;omega) hso (fun p hp=>by obtain ⟨q,hq,rfl⟩:=waa.1 hp;exact hS q hq) hC
 have h1:=qKO rs ps hl (fun r hr=>by have:=hs r hr;omega) rs.length 0 (by omega)
 have h2:=qJO rs ps (szs rs) (qnd rs) hps hw ps.length 0 (by omega)
 have hfl:(qAi (a:= .str) (e:= .int .u8) (putL ps (qnd rs))).length=rs.length:=(qMl (a:= .str) (e:= .int .u8) _).trans hln
 have hfb:(qAi (a:= .str) (e:= .int .u8) (qnd rs)).length=rs.length:=(qMl (a:= .str) (e:= .int .u8) _).trans (qRA rs)
 have h3:=qIO rs (qAi (a:= .str) (e:= .int .u8) (putL ps (qnd rs))) (by rw [hfl];exact hl) (by rw [hfl];exact ws _) (fun m hmm=>by
  obtain ⟨x,hx,rfl⟩:=waa.1 hmm
  exact hm x hx) rs.length 0 (by rw [hfl];omega)
 rw [hfl] at h3
 have h4:qxf rs ps ps (ps.length:Int) (ps.length:Int) (szs rs) (qnd rs) (ps.map (·.1))=qZi rs (rs.length:Int) 0 (qAi (a:= .str) (e:= .int .u8) (putL ps (qnd rs))):=by
  rw [qIo,if_neg (by simp),hfill,wq,if_neg (show ¬((!true)=true) by decide),hmis,wq,if_neg (by decide),hfb]
  rfl
 rw [qXC,qse rs hR,hv]
 refine Tot.eq (ud rfl (ue rfl (uc (by simp;omega) ?_)))
 exact uh ((h1.trans h2).trans (h4.trans h3)) rfl
theorem qdP (b:qda) (i:Int):qUi b i=some ((b.1.2.1 != i),i):=qcu b i
def ofM (i:Int) (bs:List qda):List qda:=bs.filter fun b=>b.1.2.1==i
theorem qbP (bs:List qda) (hl:bs.length≤100000) (i:Int):∀(k j:Nat),j+k=bs.length→(∃m,j≤m∧m<bs.length∧qGa bs (bs.length:Int) (j:Int) i=some ((m:Int),i)∧ofM i ((bs.drop j).take (m - j))=(bs.drop j).take (m - j)∧(bs.getD m (qra qpa)).1.2.1≠i)∨
  (qGa bs (bs.length:Int) (j:Int) i=some (-1,i)∧ofM i (bs.drop j)=bs.drop j)
 |0,j,e=>by
  refine .inr ⟨by rw [qvc,if_neg (by simp;omega)],?_⟩
  rw [wK (by omega)];rfl
 |k+1,j,e=>by
  have hd:=qVa (qra qpa:qda) (xs:=bs) (i:=j) (by omega)
  have ih:=qbP bs hl i k (j+1) (by omega)
  rw [show ((j+1:Nat):Int)=(j:Int)+1 by omega] at ih
  have hun:qGa bs (bs.length:Int) (j:Int) i=if ((bs.getD j (qra qpa)).1.2.1 != i)=true then some ((j:Int),i) else qGa bs (bs.length:Int) ((j:Int)+1) i:=by
   rw [qvc]
   simp only [wj,wv]
   rw [if_pos (by simp;omega),qfa (by omega),qfa (by omega),qdP,wq,w64 (x:=(j:Int)+1) (by omega) (by omega)]
  rw [hun,hd.1]
  generalize hgx:bs.getD j (qra qpa)=x at*
  by_cases hx:x.1.2.1=i
  ·rw [if_neg (by simpa using hx)]
   have hk:∀r:List qda,ofM i (x::r)=x::ofM i r:=fun r=>by unfold ofM;rw [List.filter_cons_of_pos (by simpa using hx)]
   rcases ih with ⟨m,h1,h2,h3,h4,h5⟩|⟨h3,h4⟩
   ·refine .inl ⟨m,by omega,h2,h3,?_,h5⟩
    rw [show m - j=(m - (j+1))+1 by omega,List.take_succ_cons,hk,h4]
   ·exact .inr ⟨h3,by rw [hk,h4]⟩
  ·rw [if_pos (by simpa using hx)]
   exact .inl ⟨j,ws _,by omega,rfl,by rw [wGa];rfl,by rw [hgx];exact hx⟩
theorem quM (i:Int):∀(k j m:Nat) (h0:List qda),h0.length≤100000→j+k=h0.length→m<j→∃n h',qRa (m:Int) (j:Int) h0 i=some ((0,n),(h',i))∧h'.take n=h0.take m++ofM i (h0.drop j)∧n≤h0.length∧n≤h'.length
 |0,j,m,h0,hl,e,hm=>by
  refine ⟨m,qsb h0 m (wl (h0.length - m) (qra qpa)),?_,?_,by omega,by unfold qsb;rw [wn,wn,wM];omega⟩
  ·rw [qdc,if_neg (by simp;omega),qfa (by omega),qfa (by simp;omega),qfa (by omega),qfa (by simp;omega)]
   simp only [wv,wEa,wJ]
  rw [wK (by omega)]
  unfold qsb
  rw [wB,wNa (by rw [wM];omega),List.take_take,Nat.min_self]
  exact (wW _).symm
 |k+1,j,m,h0,hl,e,hm=>by
  have hd:=qVa (qra qpa:qda) (xs:=h0) (i:=j) (by omega)
  rw [qdc]
  simp only [wj,wv,wJ]
  rw [if_pos (by simp;omega),qfa (by omega),qfa (by omega),qdP,wq,w64 (x:=(j:Int)+1) (by omega) (by omega),w64 (x:=(m:Int)+1) (by omega) (by omega),hd.1]
  generalize hx0:h0.getD j (qra qpa)=x at*
  by_cases hx:x.1.2.1=i
  ·rw [if_pos (by simp [hx]),qfa (by omega),qfa (by omega)]
   obtain ⟨n,h',h1,h2,h3⟩:=quM i k (j+1) (m+1) (h0.set m x) (by rw [wia];exact hl) (by rw [wia];omega) (by omega)
   rw [show ((j+1:Nat):Int)=(j:Int)+1 by omega,show ((m+1:Nat):Int)=(m:Int)+1 by omega] at h1
   refine ⟨n,h',h1,?_,by rw [wia] at h3;exact h3⟩
   have hk:ofM i (x::h0.drop (j+1))=x::ofM i (h0.drop (j+1)):=by unfold ofM;rw [List.filter_cons_of_pos (by simpa using hx)]
   have ht:(h0.set m x).take (m+1)=h0.take m++[x]:=by
    rw [List.take_set,List.take_add_one,wx (by omega)]
    rw [wdb _ _ (by rw [wM];omega),wM,wfb (by omega),wGa];rfl
   rw [h2,hk,List.drop_set_of_lt (by omega),ht,wB];rfl
  ·rw [if_neg (by simp [hx])]
   obtain ⟨n,h',h1,h2,h3⟩:=quM i k (j+1) m h0 hl (by omega) (by omega)
   rw [show ((j+1:Nat):Int)=(j:Int)+1 by omega] at h1
   have hk:ofM i (x::h0.drop (j+1))=ofM i (h0.drop (j+1)):=by unfold ofM;rw [List.filter_cons_of_neg (by simpa using hx)]
   exact ⟨n,h',h1,by rw [h2,hk],h3⟩
theorem qZG {bs:List qda} (hl:bs.length≤100000) (i:Int):∃n h',qCb bs i=some ((0,n),(h',i))∧h'.take n=ofM i bs∧n≤h'.length:=by
 have hi:qXb bs i=qGa bs (bs.length:Int) ((0:Nat):Int) i:=qDf bs i
 rcases qbP bs hl i bs.length 0 (by omega) with ⟨m,h1,h2,h3,h4,hx⟩|⟨h3,h4⟩
 ·simp only [wea,wEa] at h4
  obtain ⟨n,h',g1,g2,g3⟩:=quM i (bs.length - (m+1)) (m+1) m bs hl (by omega) (by omega)
  rw [show ((m+1:Nat):Int)=(m:Int)+1 by omega] at g1
  have hd:=qVa (qra qpa:qda) (xs:=bs) (i:=m) h2
  refine ⟨n,h',?_,?_,g3.2⟩
  ·rw [quc,hi,h3,wq,if_neg (by simp),w64 (x:=(m:Int)+1) (by omega) (by omega)]
   exact g1
  ·rw [g2]
   conv=>rhs;rw [←List.take_append_drop m bs,hd.1]
   unfold ofM at h4 ⊢
   rw [List.filter_append,h4,List.filter_cons_of_neg (by simpa using hx)]
 ·simp only [wea] at h4
  refine ⟨bs.length,bs,?_,by rw [List.take_length,h4],ws _⟩
  rw [quc,hi,h3]
  exact Tot.eq (ud rfl (uy rfl (ub rfl)))
def nmI (nm:ByteArray):List qba→Nat→Option Nat
 |[],_=>none
 |r::rs,i=>if r.1.toList=nm.toList then some i else nmI nm rs (i+1)
def nmR:Option Nat→Int×Int
 |some i=>(i,0)
 |none=>(0,6)
theorem qZM (nm:ByteArray) (rs:List qba) (hl:rs.length≤100000):∀(k i:Nat),i+k=rs.length→qQi nm rs (rs.length:Int) (i:Int)=some (nmR (nmI nm (rs.drop i) i))
 |0,i,e=>by rw [qQm,if_neg (by simp;omega),wK (by omega)];rfl
 |k+1,i,e=>by
  have hd:=qVa (qra qla:qba) (xs:=rs) (i:=i) (by omega)
  have ih:=qZM nm rs hl k (i+1) (by omega)
  rw [show ((i+1:Nat):Int)=(i:Int)+1 by omega] at ih
  rw [qQm,hd.1,nmI]
  simp only [wj,wv]
  rw [if_pos (by simp;omega),qfa (by omega),qfa (by omega),w64 (x:=(i:Int)+1) (by omega) (by omega),ih]
  by_cases hx:(rs.getD i (qra qla)).1.toList=nm.toList
  ·rw [if_pos (beq_iff_eq.2 hx),if_pos hx];rfl
  ·rw [if_neg (fun h=>hx (beq_iff_eq.1 h)),if_neg hx]
theorem qwv {rs:List qba} (hR:RecsOK rs) (hl:rs.length≤100000) (hv:qtf rs=0) (nm:ByteArray):qEk rs nm=some (nmR (nmI nm rs 0)):=by
 rw [qyz,qse rs hR,hv]
 exact Tot.eq (ud rfl (ue rfl (uh (qZM nm rs hl rs.length 0 (by omega)) rfl)))
theorem qqE {a:List Int} {l:qCa} {bs:List qda} (hl:bs.length≤100000) (h:qSd a=some (l,(bs,0))) {nm:ByteArray} {i:Nat} (hf:qEk l.2.1 nm=some (nmR (some i))):
  ∃n h',qOl a nm=some (l,((i:Int),((h',(0,n)),0)))∧h'.take n=ofM i bs∧n≤h'.length:=by
 obtain ⟨n,h',h1,h2,h3⟩:=qZG hl (i:Int)
 refine ⟨n,h',?_,h2,h3⟩
 rw [qly,h]
 exact Tot.eq (ud rfl (ue rfl (ud hf (ue rfl (ud h1 (ub rfl))))))
def z0 (p:qoa):qoa:=((0,p.1.2),p.2)
theorem qpP (i:Nat) (l:qCa) (hi:i<l.2.1.length) (hll:l.2.1.length≤100000) (ps:List qoa) (hl:ps.length≤100000) (ba:ByteArray) (h11:List Int):∀(k j:Nat),j+k=ps.length→
  qBg (i:Int) (ps.length:Int) (j:Int) ba () l ((ps.take j).map z0++ps.drop j) h11=(qbd [l.2.1.getD i (qra qla)] (ps.map z0)).bind fun r=>if (r.2 != (0:Int))=true then some ((wD,([],())),r.2) else gd ((0:Int)<wi r.1.length) (some (r.1.getD 0 (qra qwa),0))
 |0,j,e=>by
  have hd:=qVa (qra qla:qba) (xs:=l.2.1) (i:=i) hi
  have e1:(ps.take j).map z0++ps.drop j=ps.map z0:=by rw [wQ (by omega),wK (by omega),wW]
  rw [e1,qan,if_neg (by simp;omega)]
  simp only [wj,wv]
  rw [w64 (x:=(i:Int)+1) (by omega) (by omega),qfa (by omega),qfa (by omega),qfa (by omega),hd.1,show ((i:Int)+1).toNat - i=1 by omega]
  show (qbd [l.2.1.getD i (qra qla)] (ps.map z0)).bind _=_
  congr 1
  funext r
  by_cases hr:(r.2 != (0:Int))=true
  ·rw [if_pos hr,if_pos hr]
  ·rw [if_neg hr,if_neg hr,qfa (by omega)]
 |k+1,j,e=>by
  have hd:=qVa (qra qJa:qoa) (xs:=ps) (i:=j) (by omega)
  have ih:=qpP i l hi hll ps hl ba h11 k (j+1) (by omega)
  rw [show ((j+1:Nat):Int)=(j:Int)+1 by omega,hd.2.1,wBa,List.map_singleton] at ih
  have hlen:((ps.take j).map z0).length=j:=by rw [wha,wM];omega
  have hget:((ps.take j).map z0++ps.drop j).getD j (qra qJa)=ps.getD j (qra qJa):=by
   rw [wu,woa (by omega),hlen,wGa,hd.1];rfl
  have hset:((ps.take j).map z0++ps.drop j).set j (z0 (ps.getD j (qra qJa)))=((ps.take j).map z0++[z0 (ps.getD j (qra qJa))])++ps.drop (j+1):=by
   rw [wdb _ _ (by omega),hlen,wGa]
   conv=>lhs;rw [hd.1]
   rw [wab,wB];rfl
  have htl:((ps.take j).map z0++ps.drop j).length=ps.length:=by rw [wn,hlen,wS];omega
  rw [qan]
  simp only [wj,wv,wJ]
  rw [if_pos (by simp;omega),qfa (by omega),qfa (by rw [htl];omega),w64 (x:=(j:Int)+1) (by omega) (by omega),hget]
  show qBg _ _ _ _ _ _ (((ps.take j).map z0++ps.drop j).set j (z0 (ps.getD j (qra qJa)))) _=_
  rw [hset]
  exact ih
def SmB (b:qda):Prop:=0≤b.1.2.2.1∧b.1.2.2.1≤1000000∧0≤b.1.2.2.2.1∧b.1.2.2.2.1≤1000000
def qSO (f t:Int) (b:qda):Bool:=decide ((if f>b.1.2.2.1 then f else b.1.2.2.1)≥(if t<b.1.2.2.1+b.1.2.2.2.1 then t else b.1.2.2.1+b.1.2.2.2.1))
theorem qWK {b:qda} (h:SmB b) (f t:Int):qNh b f t=some (qSO f t b,(f,t)):=by
 obtain ⟨h1,h2,h3,h4⟩:=h
 rw [qQs,w64 (x:=b.1.2.2.1+b.1.2.2.2.1) (by omega) (by omega)];rfl
def onR (f t:Int) (bs:List qda):List qda:=bs.filter fun b=>!qSO f t b
theorem qtB {f t:Int} {x:qda} {r:List qda} (h:qSO f t x=false):onR f t (x::r)=x::onR f t r:=by unfold onR;rw [List.filter_cons_of_pos (by rw [h];rfl)]
theorem qOH {f t:Int} {x:qda} {r:List qda} (h:qSO f t x=true):onR f t (x::r)=onR f t r:=by unfold onR;rw [List.filter_cons_of_neg (by rw [h];decide)]
theorem qNL (bs:List qda) (hl:bs.length≤100000) (hs:∀b∈bs,SmB b) (f t:Int):∀(k j:Nat),j+k=bs.length→(∃m,j≤m∧m<bs.length∧qFa bs (bs.length:Int) (j:Int) f t=some ((m:Int),(f,t))∧onR f t ((bs.drop j).take (m - j))=(bs.drop j).take (m - j)∧qSO f t (bs.getD m (qra qpa))=true)∨
  (qFa bs (bs.length:Int) (j:Int) f t=some (-1,(f,t))∧onR f t (bs.drop j)=bs.drop j)
 |0,j,e=>by
  refine .inr ⟨by rw [qhc,if_neg (by simp;omega)],?_⟩
  rw [wK (by omega)];rfl
 |k+1,j,e=>by
  have hd:=qVa (qra qpa:qda) (xs:=bs) (i:=j) (by omega)
  have hsx:=hs _ hd.2.2
  have ih:=qNL bs hl hs f t k (j+1) (by omega)
  rw [show ((j+1:Nat):Int)=(j:Int)+1 by omega] at ih
  have hun:qFa bs (bs.length:Int) (j:Int) f t=if qSO f t (bs.getD j (qra qpa))=true then some ((j:Int),(f,t)) else qFa bs (bs.length:Int) ((j:Int)+1) f t:=by
   rw [qhc]
   simp only [wj,wv]
   rw [if_pos (by simp;omega),qfa (by omega),qfa (by omega),qWK hsx,wq,w64 (x:=(j:Int)+1) (by omega) (by omega)]
  rw [hun,hd.1]
  generalize hgx:bs.getD j (qra qpa)=x at*
  cases hx:qSO f t x with
  |false=>
   rw [if_neg (by decide)]
   rcases ih with ⟨m,h1,h2,h3,h4,h5⟩|⟨h3,h4⟩
   ·refine .inl ⟨m,by omega,h2,h3,?_,h5⟩
    rw [show m - j=(m - (j+1))+1 by omega,List.take_succ_cons,qtB hx,h4]
   ·exact .inr ⟨h3,by rw [qtB hx,h4]⟩
  |true=>
   rw [if_pos rfl]
   exact .inl ⟨j,ws _,by omega,rfl,by rw [wGa];rfl,by rw [hgx];exact hx⟩
theorem qEG (f t:Int) (n:Nat) (hn:n≤100000):∀(k j m:Nat) (h0:List qda),n≤h0.length→j+k=n→m<j→(∀b∈h0.take n,SmB b)→
  ∃n' h',qQa 0 n (m:Int) (j:Int) h0 f t=some ((0,n'),(h',(f,t)))∧h'.take n'=h0.take m++onR f t ((h0.take n).drop j)
 |0,j,m,h0,hl,e,hm,hs=>by
  refine ⟨m,qsb h0 m (wl (n - m) (qra qpa)),?_,?_⟩
  ·rw [qcc,if_neg (by simp;omega),qfa (by omega),qfa (by simp;omega),qfa (by omega),qfa (by simp;omega)]
   simp only [wv,wEa,wJ]
  rw [wK (by rw [wM];omega)]
  unfold qsb
  rw [wB,wNa (by rw [wM];omega),List.take_take,Nat.min_self]
  exact (wW _).symm
 |k+1,j,m,h0,hl,e,hm,hs=>by
  have hd:=qVa (qra qpa:qda) (xs:=h0.take n) (i:=j) (by rw [wM];omega)
  have hg:(h0.take n).getD j (qra qpa)=h0.getD j (qra qpa):=by
   simp only [wu,List.getElem?_take];rw [if_pos (by omega)]
  rw [hg] at hd
  have hsx:=hs _ hd.2.2
  rw [qcc]
  simp only [wj,wv,wJ]
  rw [if_pos (by simp;omega),qfa (by omega),qfa (by omega),qWK hsx,wq,w64 (x:=(j:Int)+1) (by omega) (by omega),w64 (x:=(m:Int)+1) (by omega) (by omega),hd.1]
  generalize hx0:h0.getD j (qra qpa)=x at*
  cases hx:qSO f t x with
  |false=>
   rw [if_pos (show (!false)=true from rfl),qfa (by omega),qfa (by omega)]
   have hst:(h0.set m x).take n=(h0.take n).set m x:=List.take_set ..
   obtain ⟨n',h',h1,h2⟩:=qEG f t n hn k (j+1) (m+1) (h0.set m x) (by rw [wia];exact hl) (by omega) (by omega) (fun b hb=>by
    rw [hst] at hb
    rcases List.mem_or_eq_of_mem_set hb with hb|rfl
    ·exact hs b hb
    ·exact hsx)
   rw [show ((j+1:Nat):Int)=(j:Int)+1 by omega,show ((m+1:Nat):Int)=(m:Int)+1 by omega] at h1
   refine ⟨n',h',h1,?_⟩
   have ht:(h0.set m x).take (m+1)=h0.take m++[x]:=by
    rw [List.take_set,List.take_add_one,wx (by omega)]
    rw [wdb _ _ (by rw [wM];omega),wM,wfb (by omega),wGa];rfl
   rw [h2,qtB hx,hst,List.drop_set_of_lt (by omega),ht,wB];rfl
  |true=>
   rw [if_neg (show ¬((!true)=true) by decide)]
   obtain ⟨n',h',h1,h2⟩:=qEG f t n hn k (j+1) m h0 hl (by omega) (by omega) hs
   rw [show ((j+1:Nat):Int)=(j:Int)+1 by omega] at h1
   exact ⟨n',h',h1,by rw [h2,qOH hx]⟩
theorem qlF {n:Nat} (hn:n≤100000) {h0:List qda} (hl:n≤h0.length) (hs:∀b∈h0.take n,SmB b) (f t:Int):∃n' h',qBb 0 n h0 f t=some ((0,n'),(h',(f,t)))∧h'.take n'=onR f t (h0.take n):=by
 have hln:(h0.take n).length=n:=by rw [wM];omega
 have hi:qGb (wL n (wY 0 h0)) f t=qFa (h0.take n) ((h0.take n).length:Int) ((0:Nat):Int) f t:=qRe (h0.take n) f t
 rw [qIe,hi]
 rcases qNL (h0.take n) (by omega) hs f t (h0.take n).length 0 (by omega) with ⟨m,h1,h2,h3,h4,hx⟩|⟨h3,h4⟩
 ·simp only [wea,wEa] at h4
  rw [hln] at h2
  obtain ⟨n',h',g1,g2⟩:=qEG f t n hn (n - (m+1)) (m+1) m h0 hl (by omega) (by omega) hs
  rw [show ((m+1:Nat):Int)=(m:Int)+1 by omega] at g1
  have hd:=qVa (qra qpa:qda) (xs:=h0.take n) (i:=m) (by omega)
  refine ⟨n',h',?_,?_⟩
  ·rw [h3,wq,if_neg (by simp),w64 (x:=(m:Int)+1) (by omega) (by omega)]
   exact g1
  ·rw [g2]
   conv=>rhs;rw [←List.take_append_drop m (h0.take n),hd.1]
   have ht:(h0.take n).take m=h0.take m:=by rw [List.take_take,wfb (by omega)]
   have hap:∀a b:List qda,onR f t (a++b)=onR f t a++onR f t b:=fun a b=>List.filter_append ..
   rw [hap,h4,qOH hx,ht]
 ·simp only [wea] at h4
  refine ⟨n,h0,?_,h4.symm⟩
  rw [h3]
  exact Tot.eq (ud rfl (uy rfl (ub rfl)))
def loR (f o:Int):Int:=if 0>f - o then 0 else f - o
def hiR (t o n:Int):Int:=if n<t - o then n else t - o
def qtI (f t:Int) (p:qoa):List Int:=(p.2.1.drop (loR f p.1.2.1).toNat).take ((hiR t p.1.2.1 p.2.1.length).toNat - (loR f p.1.2.1).toNat)
def InR (f t:Int) (p:qoa):Prop:=0≤f∧f≤1000000∧0≤t∧t≤1000000∧0≤p.1.2.1∧p.1.2.1≤1000000∧p.2.1.length≤1000000∧loR f p.1.2.1≤hiR t p.1.2.1 p.2.1.length
theorem qtH (f t:Int) (ps:List qoa) (hl:ps.length≤10000) (hs:∀p∈ps,InR f t p):∀(k i:Nat) (out:List Int),i+k=ps.length→out.length≤1000000*i→qZe (ps.length:Int) (i:Int) f t out ps=some (out++(ps.drop i).flatMap (qtI f t),0)
 |0,i,out,e,ho=>by
  rw [qQk,if_neg (by simp;omega),wK (by omega),List.flatMap_nil,wW]
 |k+1,i,out,e,ho=>by
  have hd:=qVa (qra qJa:qoa) (xs:=ps) (i:=i) (by omega)
  have hsx:=hs _ hd.2.2
  have ih:=fun out ho=>qtH f t ps hl hs k (i+1) out (by omega) ho
  rw [show ((i+1:Nat):Int)=(i:Int)+1 by omega] at ih
  rw [qQk]
  simp only [wj,wv,wJ]
  rw [if_pos (by simp;omega),qfa (by omega),qfa (by omega),hd.1,wUa]
  generalize ps.getD i (qra qJa)=x at*
  obtain ⟨h1,h2,h3,h4,h5,h6,h7,h8⟩:=hsx
  rw [w64 (x:=f - x.1.2.1) (by omega) (by omega),w64 (x:=t - x.1.2.1) (by omega) (by omega),w64 (x:=(i:Int)+1) (by omega) (by omega)]
  have hlo:0≤loR f x.1.2.1:=by unfold loR;split <;> omega
  have hhi:hiR t x.1.2.1 x.2.1.length≤x.2.1.length:=by unfold hiR;split <;> omega
  have hcl:(qtI f t x).length≤1000000:=by unfold qtI;rw [wM,wS];omega
  have qdE:(out++qtI f t x).length≤1000000*(i+1):=by rw [wn];omega
  refine Tot.eq (ua hlo (ua h8 (ua hhi (ua ?_ (uh (ih (out++qtI f t x) qdE) ?_)))))
  ·show (out++qtI f t x).length*1≤140737488355328
   omega
  ·rw [wB]
theorem qPM {ps:List qoa} {f t:Int} (hl:ps.length≤10000) (hs:∀p∈ps,InR f t p):qZe (ps.length:Int) 0 f t [] ps=some (ps.flatMap (qtI f t),0):=
 qtH f t ps hl hs ps.length 0 [] (by omega) (by simp)
def Chn (i:Nat):Nat→List qoa→Prop
 |_,[]=>True
 |off,p::r=>p.1.1=(i:Int)∧p.1.2.1=(off:Int)∧p.1.2.2.1=(p.2.1.length:Int)∧0<p.2.1.length∧Chn i (off+p.2.1.length) r
def dat (qs:List qoa):List Int:=qs.flatMap fun p=>p.2.1
theorem qOr:dat []=[]:=rfl
theorem qWs (p:qoa) (r:List qoa):dat (p::r)=p.2.1++dat r:=wUa
theorem qyy (p:qoa) (r:List qoa):(dat (p::r)).length=p.2.1.length+(dat r).length:=by rw [qWs,wn]
def ChnL:Nat→List (List qoa)→Prop
 |_,[]=>True
 |i,q::r=>Chn i 0 q∧ChnL (i+1) r
def SzL:List qba→List (List qoa)→Prop
 |[],[]=>True
 |r::rs,q::qs=>r.2.1=((dat q).length:Int)∧(dat q).length≤20000∧SzL rs qs
 |_,_=>False
def qrz:List qba→List (List qoa)→Mm
 |r::rs,q::qs=>(r.1,dat q)::qrz rs qs
 |_,_=>[]
theorem qZm {α:Type} {dn tl:List α} {e d:α}:(dn++e::tl).getD dn.length d=e:=by
 rw [wu,woa (ws _),wGa];rfl
theorem qmH {α:Type} {dn tl:List α} {e f:α}:(dn++e::tl).set dn.length f=dn++f::tl:=by
 rw [wdb _ _ (ws _),wGa,wab]
theorem qZK (nm:ByteArray) (dn:Mm) (dn8:List (List Bool)) (tl:Mm) (tl8:List (List Bool)) (h8:dn8.length=dn.length) (rest:List qoa) (n:Nat) (hn:n≤1000000):
  ∀(qs:List qoa) (pre:List Int),Chn dn.length pre.length qs→pre.length+(dat qs).length=n→
   (qkF rest (dn++(nm,pre++dat qs)::tl) (dn8++wl n true::tl8)→qkF (qs++rest) (dn++(nm,pre++wl (n - pre.length) 0)::tl) (dn8++(wl pre.length true++wl (n - pre.length) false)::tl8))∧
   putL (qs++rest) (dn++(nm,pre++wl (n - pre.length) 0)::tl)=putL rest (dn++(nm,pre++dat qs)::tl)
 |[],pre,_,hl=>by
  rw [qOr,wX,wqb] at hl
  subst hl
  rw [wGa,qOr]
  simp only [List.replicate_zero,wW,wV]
  exact ⟨id,trivial⟩
 |p::qs,pre,hc,hl=>by
  obtain ⟨c1,c2,c3,c4,c5⟩:=hc
  rw [qyy] at hl
  have ih:=qZK nm dn dn8 tl tl8 h8 rest n hn qs (pre++p.2.1) (by rw [wn];exact c5) (by rw [wn];omega)
  rw [wn] at ih
  have hM:pM p=dn.length:=by unfold pM;rw [c1];rfl
  have hO:pO p=pre.length:=by unfold pO;rw [c2];rfl
  have e0:qLP p (dn++(nm,pre++wl (n - pre.length) 0)::tl)=dn++(nm,(pre++p.2.1)++wl (n - (pre.length+p.2.1.length)) 0)::tl:=by
   unfold qLP
   rw [hM,hO,qZm,qmH,qlK (by rw [wP];omega),List.drop_replicate,Nat.sub_sub]
  have e8:qVQ p (dn8++(wl pre.length true++wl (n - pre.length) false)::tl8)=dn8++(wl (pre.length+p.2.1.length) true++wl (n - (pre.length+p.2.1.length)) false)::tl8:=by
   unfold qVQ
   rw [hM,hO,←h8,qZm,qmH]
   have:=qlK (ys:=p.2.1.map fun _=>true) (dn:=wl pre.length true) (zs:=wl (n - pre.length) false) (by rw [wha,wP];omega)
   rw [wP] at this
   rw [this,List.drop_replicate,wha,Nat.sub_sub,List.map_const',List.replicate_append_replicate]
  have e9:pre++dat (p::qs)=(pre++p.2.1)++dat qs:=by rw [qWs,wB]
  rw [wca,e9]
  refine ⟨fun h=>⟨⟨by rw [c1];omega,by rw [hM,wn,wz];omega,by rw [c2];omega,by rw [hO];omega,?_,?_,?_⟩,?_⟩,?_⟩
  ·rw [hM,qZm,←h8,qZm];simp
  ·rw [hM,hO,←h8,qZm];simp;omega
  ·rw [hM,hO,←h8,qZm]
   intro j h1 h2
   rw [wu,woa (by rw [wP];exact h1),wP,List.getElem?_replicate]
   split <;> rfl
  ·rw [e0,e8];exact ih.1 h
  ·rw [putL,e0];exact ih.2
theorem qxH:∀(qss:List (List qoa)) (rs:List qba) (dn:Mm) (dn8:List (List Bool)),dn8.length=dn.length→ChnL dn.length qss→SzL rs qss→
  qkF qss.flatten (dn++qnd rs) (dn8++qHp (qnd rs))∧putL qss.flatten (dn++qnd rs)=dn++qrz rs qss
 |[],[],dn,dn8,h8,_,_=>by simp [qnd,qrz,putL,qkF]
 |[],_::_,_,_,_,_,h=>h.elim
 |_::_,[],_,_,_,_,h=>h.elim
 |q::qss,r::rs,dn,dn8,h8,hc,hs=>by
  obtain ⟨s1,s2,s3⟩:=hs
  have h:=qZK r.1 dn dn8 (qnd rs) (qHp (qnd rs)) h8 qss.flatten (dat q).length (by omega) q [] hc.1 (by simp)
  simp only [wV,wX,wEa,List.replicate_zero] at h
  have ih:=qxH qss rs (dn++[(r.1,dat q)]) (dn8++[wl (dat q).length true]) (by simp [h8]) (by simpa using hc.2) s3
  have e1:qnd (r::rs)=(r.1,wl (dat q).length 0)::qnd rs:=by
   show (r.1,wl r.2.1.toNat 0)::_=_
   rw [s1];rfl
  have e2:qHp (qnd (r::rs))=wl (dat q).length false::qHp (qnd rs):=by
   rw [e1]
   show wl (wl (dat q).length (0:Int)).length false::_=_
   rw [wP];rfl
  rw [wwb,e2,e1,qrz]
  rw [wB,wB,wB] at ih
  exact ⟨h.1 ih.1,h.2.trans ih.2⟩
theorem qwB:∀{rs:List qba} {qss:List (List qoa)},SzL rs qss→(qrz rs qss).length=rs.length
 |[],[],_=>rfl
 |[],_::_,h=>h.elim
 |_::_,[],h=>h.elim
 |_::rs,_::qss,h=>by rw [qrz,wz,wz,qwB h.2.2]
theorem Chn.at:∀{qs:List qoa} {i off:Nat},Chn i off qs→∀p∈qs,p.1.1=(i:Int)∧(off:Int)≤p.1.2.1∧0<p.1.2.2.1∧p.1.2.2.1=(p.2.1.length:Int)∧p.1.2.1+p.1.2.2.1≤(off:Int)+((dat qs).length:Int)
 |[],_,_,_,p,hp=>by cases hp
 |x::qs,i,off,⟨c1,c2,c3,c4,c5⟩,p,hp=>by
  rw [qyy]
  rcases wZ.1 hp with rfl|hp
  ·exact ⟨c1,by omega,by omega,c3,by omega⟩
  ·obtain ⟨h1,h2,h3,h4,h5⟩:=Chn.at c5 p hp
   exact ⟨h1,by omega,h3,h4,by omega⟩
theorem ChnL.at:∀{qss:List (List qoa)} {rs:List qba} {k:Nat},ChnL k qss→SzL rs qss→∀p∈qss.flatten,(k:Int)≤p.1.1∧p.1.1<(k:Int)+(rs.length:Int)∧0≤p.1.2.1∧0<p.1.2.2.1∧p.1.2.2.1=(p.2.1.length:Int)∧p.1.2.1+p.1.2.2.1≤(szs rs).getD (p.1.1.toNat - k) 0∧(szs rs).getD (p.1.1.toNat - k) 0≤20000
 |[],_,_,_,_,p,hp=>by simp at hp
 |_::_,[],_,_,h,_,_=>h.elim
 |q::qss,r::rs,k,⟨c1,c2⟩,⟨s1,s2,s3⟩,p,hp=>by
  rw [wwb,wba] at hp
  rw [wz]
  rcases hp with hp|hp
  ·obtain ⟨h1,h2,h3,h4,h5⟩:=Chn.at c1 p hp
   rw [h1]
   have e:(szs (r::rs)).getD ((k:Int).toNat - k) 0=r.2.1:=by rw [wv,wGa];rfl
   rw [e]
   exact ⟨by omega,by omega,by omega,h3,h4,by omega,by omega⟩
  ·obtain ⟨h1,h2,h3,h4,h5,h6,h7⟩:=ChnL.at c2 s3 p hp
   have e:(szs (r::rs)).getD (p.1.1.toNat - k) 0=(szs rs).getD (p.1.1.toNat - (k+1)) 0:=by
    rw [show p.1.1.toNat - k=(p.1.1.toNat - (k+1))+1 by omega];rfl
   rw [e]
   exact ⟨by omega,by omega,h3,h4,h5,h6,h7⟩
theorem qay {i:Int} {ys:List qca} {e:Int}:∀{xs:List qca},(∀p∈xs,p.1≠i)→(qkG i (xs++ys) e↔qkG i ys e)
 |[],_=>Iff.rfl
 |x::xs,h=>by
  rw [wca,qkG,if_pos (h x (wT ..))]
  exact qay fun p hp=>h p (wO _ hp)
theorem qeI {i:Nat} {ys:List qca}:∀{qs:List qoa} {off:Nat},Chn i off qs→(qkG (i:Int) (qs.map (·.1)++ys) (off:Int)↔qkG (i:Int) ys ((off+(dat qs).length:Nat):Int))
 |[],off,_=>by simp [qOr]
 |x::qs,off,⟨c1,c2,c3,c4,c5⟩=>by
  rw [wI,wca,qkG,if_neg (by rw [c1];exact fun h=>h rfl),c2,c3,if_pos (by omega),qyy]
  have:=qeI (ys:=ys) c5
  rw [show (off:Int)+(x.2.1.length:Int)=((off+x.2.1.length:Nat):Int) by omega,this,Nat.add_assoc]
  exact ⟨fun h=>h.2,fun h=>⟨wSa _,h⟩⟩
theorem qUL:∀{qss:List (List qoa)} {rs:List qba} {k:Nat},ChnL k qss→SzL rs qss→∀i:Nat,i<rs.length→qkG ((k+i:Nat):Int) (qss.flatten.map (·.1)++[(((k+i:Nat):Int),((szs rs).getD i 0,(0,())))]) 0
 |[],[],_,_,_,i,h=>by simp at h
 |[],_::_,_,_,h,_,_=>h.elim
 |_::_,[],_,_,h,_,_=>h.elim
 |q::qss,r::rs,k,⟨c1,c2⟩,⟨s1,s2,s3⟩,i,hi=>by
  rw [wwb,wBa,wB]
  cases i with
  |zero=>
   rw [wqb]
   rw [show (0:Int)=((0:Nat):Int) from rfl,qeI c1,qay (fun p hp=>by
    obtain ⟨x,hx,rfl⟩:=waa.1 hp
    have:=(ChnL.at c2 s3 x hx).1
    omega)]
   rw [qkG,if_neg (fun h=>h rfl)]
   refine ⟨?_,trivial⟩
   show r.2.1≤_
   rw [s1];omega
  |succ i=>
   rw [qay (fun p hp=>by
    obtain ⟨x,hx,rfl⟩:=waa.1 hp
    have:=(Chn.at c1 x hx).1
    omega)]
   have ih:=qUL c2 s3 i (by simpa using hi)
   rw [show k+1+i=k+(i+1) by omega] at ih
   exact ih
theorem qzQ {qss:List (List qoa)} {rs:List qba} (hc:ChnL 0 qss) (hs:SzL rs qss):Cov (szs rs) (qss.flatten.map (·.1)):=fun i hi=>by
 have:=qUL hc hs i (by rwa [qkn] at hi)
 rwa [wJ] at this
theorem qHO:∀{qs:List qoa} {i off:Nat},Chn i off qs→(qs.map (·.1)).Pairwise leP
 |[],_,_,_=>List.Pairwise.nil
 |x::qs,i,off,⟨c1,c2,c3,c4,c5⟩=>by
  rw [wI,List.pairwise_cons]
  refine ⟨fun p hp=>?_,qHO c5⟩
  obtain ⟨y,hy,rfl⟩:=waa.1 hp
  have:=Chn.at c5 y hy
  exact .inr ⟨by omega,by omega⟩
theorem quH:∀{qss:List (List qoa)} {rs:List qba} {k:Nat},ChnL k qss→SzL rs qss→(qss.flatten.map (·.1)).Pairwise leP
 |[],_,_,_,_=>List.Pairwise.nil
 |_::_,[],_,_,h=>h.elim
 |q::qss,r::rs,k,⟨c1,c2⟩,⟨s1,s2,s3⟩=>by
  rw [wwb,wBa,List.pairwise_append]
  refine ⟨qHO c1,quH c2 s3,fun a ha b hb=>?_⟩
  obtain ⟨x,hx,rfl⟩:=waa.1 ha
  obtain ⟨y,hy,rfl⟩:=waa.1 hb
  have h1:=(Chn.at c1 x hx).1
  have h2:=(ChnL.at c2 s3 y hy).1
  exact .inl (by omega)
theorem qRM {l:List qca} (h:l.Pairwise leP):Ord l:=fun i j hij hj=>by
 simp only [wu,wx hj,wx (Nat.lt_of_le_of_lt hij hj),Option.getD_some]
 rcases Nat.lt_or_eq_of_le hij with h1|h1
 ·exact List.pairwise_iff_getElem.1 h i j _ hj h1
 ·subst h1;exact .inr ⟨rfl,wSa _⟩
theorem qXG {rs:List qba} {qss:List (List qoa)} (hR:RecsOK rs) (hv:qtf rs=0) (hl:rs.length≤10000) (hc:ChnL 0 qss) (hs:SzL rs qss) (hps:qss.flatten.length≤600)
  (hso:qOa (qss.flatten.map (·.1))=some (qss.flatten.map (·.1))) (hb:∀q∈qss,Bts (dat q)):
  qbd rs qss.flatten=some (if qlw rs (qAi (a:= .str) (e:= .int .u8) (qrz rs qss)) rs.length 0=true then (qAi (a:= .str) (e:= .int .u8) (qrz rs qss),0) else ([],22)):=by
 have hsz:∀(rs:List qba) (qss:List (List qoa)),SzL rs qss→∀r∈rs,0≤r.2.1∧r.2.1≤20000:=by
  intro rs
  induction rs with
  |nil=>intro _ _ r hr;cases hr
  |cons r rs ih=>
   intro qss h x hx
   cases qss with
   |nil=>exact h.elim
   |cons q qss=>
    rcases wZ.1 hx with rfl|hx
    ·have:=h.1;have:=h.2.1;omega
    ·exact ih qss h.2.2 x hx
 have hpa:=qxH qss rs [] [] rfl hc hs
 simp only [wV] at hpa
 have hat:=fun p hp=>ChnL.at hc hs p hp
 have hmm:∀(rs:List qba) (qss:List (List qoa)),SzL rs qss→(∀q∈qss,Bts (dat q))→∀m∈qrz rs qss,Bts m.2∧m.2.length≤20000:=by
  intro rs
  induction rs with
  |nil=>intro qss h _ m hm;cases qss <;> simp [qrz] at hm
  |cons r rs ih=>
   intro qss h hb m hm
   cases qss with
   |nil=>exact h.elim
   |cons q qss=>
    rw [qrz] at hm
    rcases wZ.1 hm with rfl|hm
    ·exact ⟨hb q (wT ..),h.2.1⟩
    ·exact ih qss h.2.2 (fun q hq=>hb q (wO _ hq)) m hm
 have h:=qeK (rs:=rs) (ps:=qss.flatten) hR hv hl (hsz rs qss hs) hps (fun p hp=>by
  obtain ⟨h1,h2,h3,h4,h5,h6,h7⟩:=hat p hp
  rw [wEa] at h6 h7
  exact ⟨⟨by omega,by rw [qkn];omega,h3,h4,h6,by omega⟩,h5.symm⟩) hpa.1 hso (fun p hp=>by
  obtain ⟨h1,h2,h3,h4,h5,h6,h7⟩:=hat p hp
  exact ⟨h3,by omega,by omega,by omega⟩) (qzQ hc hs) (by rw [hpa.2];exact qwB hs) (by rw [hpa.2];exact hmm rs qss hs hb)
 rw [hpa.2] at h
 exact h
structure Opn (a:List Int) (l:qCa) (bs:List qda):Prop where
 op:qSd a=some (l,(bs,0))
 lv:0≤l.1.1∧l.1.1≤7
 st:∀b∈bs,StB b
 ln:bs.length≤600
 rk:RecsOK l.2.1
 vl:qtf l.2.1=0
 rn:l.2.1.length≤16
theorem qlx {i:Int} {bs:List qda} {b:qda} (h:b∈ofM i bs):b∈bs:=(List.mem_filter.1 h).1
theorem qqL {f t:Int} {bs:List qda} {b:qda} (h:b∈onR f t bs):b∈bs:=(List.mem_filter.1 h).1
section
variable {a:List Int} {l:qCa} {bs:List qda}
theorem Opn.parts (o:Opn a l bs) {cs:List qda} (hc:∀b∈cs,b∈bs) (hl:cs.length≤10000):qbc l.1.1 cs=some (qRS (qyN cs)):=qkJ _ o.lv cs hl fun b hb=>o.st b (hc b hb)
theorem Opn.some {ps:List qoa} (o:Opn a l bs) (h:qyN bs=some ps):qIb a=qbd l.2.1 ps:=by
 have hp:=o.parts (cs:=bs) (fun b hb=>hb) (by have:=o.ln;omega)
 rw [h] at hp
 rw [qnf,o.op,wq]
 refine (if_neg (show ¬((0:Int) != 0)=true by decide)).trans ?_
 show (qbc l.1.1 bs).bind _=_
 rw [hp,wq]
 refine (if_neg (show ¬((0:Int) != 0)=true by decide)).trans ?_
 show (qbd l.2.1 ps).bind _=_
 cases qbd l.2.1 ps <;> rfl
def zM:qxa:=(wD,([],()))
theorem qKD {nm:ByteArray}:∀{rs:List qba} {i j:Nat},nmI nm rs i=Option.some j→i≤j∧j<i+rs.length
 |[],i,j,h=>by cases h
 |r::rs,i,j,h=>by
  rw [nmI] at h
  split at h
  ·cases h;simp
  ·have:=qKD h
   rw [wz];omega
end
theorem qmB (a:List Int):rdK a=rdB a:=rfl
theorem qqA {a:List Int} {e:Nat}:∀{hs:List qga} {bs:List qda} {p:Nat},Std a e p hs bs→(plc (p:Int) hs).map (fun x=>(rdK (a.drop x.toNat)).1)=bs∧(∀x∈plc (p:Int) hs,0≤x∧x≤(a.length:Int))∧bs.map (·.1)=hs
 |[],[],p,h=>⟨rfl,fun x hx=>(by cases hx),rfl⟩
 |[],_::_,p,h=>h.elim
 |_::_,[],p,h=>h.elim
 |g::hs,x::bs,p,⟨h1,h2,h3,h4,h5⟩=>by
  have hl:=qKk h3
  obtain ⟨i1,i2,i3⟩:=qqA h5
  have e:((p+(41+g.2.2.2.2.1).toNat:Nat):Int)=(p:Int)+(41+g.2.2.2.2.1):=by omega
  rw [e] at i1 i2
  refine ⟨?_,?_,?_⟩
  ·rw [plc,wI,i1,wv,qmB,h1]
  ·intro y hy
   rw [plc] at hy
   rcases wZ.1 hy with rfl|hy
   ·omega
   ·exact i2 y hy
  ·rw [wI,i3,h2]
theorem qzH:∀(hs:List qga) (a:Int),(plc a hs).length=hs.length
 |[],_=>rfl
 |_::hs,a=>by rw [plc,wz,wz,qzH hs]
theorem qBO {a:List Int} (hb:Bts a) {e:Nat}:∀{hs:List qga} {bs:List qda} {p:Nat},Std a e p hs bs→∀x∈bs,hOK x.1∧bC x=0∧Bts x.2.1
 |[],[],p,h,x,hx=>by cases hx
 |[],_::_,p,h,_,_=>h.elim
 |_::_,[],p,h,_,_=>h.elim
 |g::hs,x::bs,p,⟨h1,h2,h3,h4,h5⟩,y,hy=>by
  rcases wZ.1 hy with rfl|hy
  ·obtain ⟨k1,k2,k3,k4,k5,k6,k7⟩:=qwD (c:=a.drop p) (by rw [h1])
   have e1:(rdB (a.drop p)).1=y:=by rw [h1]
   have hl:=qKk k1
   rw [k2] at k3
   have hy:y=(pH (((a.drop p).drop 13).take 28),(((a.drop p).drop 41).take (pH (((a.drop p).drop 13).take 28)).2.2.2.2.1.toNat,())):=by rw [←e1,k7]
   rw [e1] at k1 k3 hl
   have hlen:((y.2.1.length:Nat):Int)=y.1.2.2.2.2.1:=by
    have h0:y.2.1=((a.drop p).drop 41).take y.1.2.2.2.2.1.toNat:=by
     conv=>lhs;rw [hy]
     conv=>rhs;rw [hy]
    rw [h0,wM,wS]
    omega
   refine ⟨k1,?_,?_⟩
   ·unfold bC;rw [if_pos ⟨k1,hlen⟩]
   ·rw [hy];exact ((hb.drop _).drop _).take _
  ·exact qBO hb h5 y hy
theorem qCH (i n s:Int) (hs:16≤s):∀(k:Nat) (off:Int),16*((pcs i n s k off).length:Int)≤(if off<n then n - off+15 else 0)
 |0,off=>by simp only [pcs];split <;> simp;omega
 |k+1,off=>by
  have ih:=qCH i n s hs k (off+s)
  simp only [pcs]
  split
  ·rw [wz]
   split at ih <;> omega
  ·simp
theorem qCI (s:Int) (hs:16≤s):∀(rs:List qba) (i:Int),(∀r∈rs,0≤r.2.1)→16*((ap s i rs).length:Int)≤tot rs+15*(rs.length:Int)
 |[],i,_=>by simp [ap,tot]
 |r::rs,i,h=>by
  have ih:=qCI s hs rs (i+1) fun x hx=>h x (wO _ hx)
  have h1:=qCH i r.2.1 s hs 8200 0
  have h2:=h r (wT ..)
  rw [ap,wn,wz]
  have e:tot (r::rs)=r.2.1+tot rs:=rfl
  split at h1 <;> omega
structure Opd (a:List Int) (l:qCa) (bs:List qda):Prop where
 eq:qnt a=(l,(bs,0))
 op:qSd a=some (l,(bs,0))
 lv:0≤l.1.1∧l.1.1≤7
 ok:∀b∈bs,hOK b.1∧bC b=0∧Bts b.2.1
 ln:bs.length≤600
 rk:RecsOK l.2.1
 vl:qtf l.2.1=0
 sm:SumsOK l.2.1
 hd:bs.map (·.1)=l.2.2.1
 ck:lck l=0
 pl:qJn l=some (plc (28+qdE l.2.1) l.2.2.1,0)
 bk:16≤l.1.2.1∧l.1.2.1≤4096
theorem qRO {a:List Int} (hb:Bts a) (h:(qnt a).2.2=0):Opd a (qnt a).1 (qnt a).2.1:=by
 obtain ⟨rs,q,hs,bs,hO⟩:=qNC hb h
 have hV:=hO.head.recsV
 have hl:=qkO hO
 have hq:(q:Int)=qdE rs:=by
  rw [←qWo rs hO.head.read.sums,hO.head.read.bytes,wM]
  have:=hO.head.read.le
  omega
 obtain ⟨s1,s2,s3⟩:=qqA hO.std
 have hplen:=qzH hs ((28+q:Nat):Int)
 have hcnt:=qCI (sH a).2.1 hO.head.blk.1 rs 0 (fun r hr=>(hV.each r hr).1)
 have hbl:=hO.blen
 have hhl:=hO.hlen
 have h6:bs.length≤600:=by
  have:=hV.len;have:=hV.tot;omega
 have hpe:qyD (sH a,(rs,(hs,())))=plc ((28+q:Nat):Int) hs:=by
  unfold qyD
  rw [show ((28+q:Nat):Int)=28+qdE rs by omega]
 have hop:=qoL hb (l:=(sH a,(rs,(hs,())))) hO.eq hO.head.read.recs hO.head.read.sums hl (by rw [hpe];exact s2) (by rw [hpe,hplen];omega)
 rw [hpe,s1] at hop
 have hp:=qqo (sH a,(rs,(hs,()))) hO.head.read.recs hO.head.read.sums
 rw [if_pos hl] at hp
 rw [hO.eq]
 exact ⟨hO.eq,hop,(show 0≤(sH a).1∧(sH a).1≤7 by have:=hO.head.chk;unfold chk at this;split at this <;> omega),qBO hb hO.std,h6,hO.head.read.recs,hO.head.read.val,hO.head.read.sums,s3,hl,hp,hO.head.blk⟩
theorem qLH {a:List Int} (hb:Bts a) (h:(qnt a).2.2≠0):qSd a=some ((((0:Int),((0:Int),())),([],([],()))),([],(qnt a).2.2)):=by
 rw [qsp,qTq a hb]
 exact Tot.eq (ud rfl (ui (fun _=>ub rfl) (fun k=>absurd k h)))
theorem qIN {s:qha} {rs:List qba} {bs:List qda} (hc:chk s=0) (hv:qtf rs=0) (hS:SumsOK rs) (hF:Fit bs (ap s.2.1 0 rs)) (hl:(qAq s rs bs).length≤40000) (hb:Bts (qAq s rs bs)):Opd (qAq s rs bs) (s,(rs,(bs.map (·.1),()))) bs:=by
 have h:=qZE hc hv hS hF hl
 have:=qRO hb (by rw [h])
 rw [h] at this
 exact this
theorem qDR {l:List Int} (h:l.all (fun x=>decide (0≤x∧x<256))=true):Bts l:=fun x hx=>of_decide_eq_true (wwa.1 h x hx)
def dN:List Int:=[48,49,50,51,52,53,54,55,56,57,97,98,99,100,101,102,88,89,90]
def b0:qda:=qkk 0 0 (dN.take 16)
def b1:qda:=qkk 0 16 (dN.drop 16)
def b2:qda:=qkk 2 0 [33]
def wE:List Int:=qAq sA [] []
theorem qwI:Bts wE:=qDR (by decide+kernel)
theorem qPQ {rs:List qba} (h:rs.all (fun r=>decide (r.2.2.1.length=20)&&r.2.2.1.all (fun x=>decide (0≤x∧x<256)))=true):SumsOK rs:=fun r hr=>by
 have:=wwa.1 h r hr
 rw [wA,decide_eq_true_eq] at this
 exact ⟨this.1,qDR this.2⟩
theorem opdE:Opd wE (sA,([],([],()))) []:=
 qIN (bs:=[]) (by decide) (by decide+kernel) (qPQ (by decide+kernel)) (by show Fit [] (ap 16 0 []);exact trivial) (by decide+kernel) qwI
def qfP (i:Nat):∀(off:Nat) (qs:List qoa),Decidable (Chn i off qs)
 |_,[]=>isTrue trivial
 |off,p::r=>@instDecidableAnd _ _ _ (@instDecidableAnd _ _ _ (@instDecidableAnd _ _ _ (@instDecidableAnd _ _ _ (qfP i (off+p.2.1.length) r))))
instance (i off:Nat) (qs:List qoa):Decidable (Chn i off qs):=qfP i off qs
def qvM:∀(i:Nat) (qs:List (List qoa)),Decidable (ChnL i qs)
 |_,[]=>isTrue trivial
 |i,q::r=>@instDecidableAnd _ _ _ (qvM (i+1) r)
instance (i:Nat) (qs:List (List qoa)):Decidable (ChnL i qs):=qvM i qs
def qeP:∀(rs:List qba) (qs:List (List qoa)),Decidable (SzL rs qs)
 |[],[]=>isTrue trivial
 |_::rs,_::qs=>@instDecidableAnd _ _ _ (@instDecidableAnd _ _ _ (qeP rs qs))
 |[],_::_=>isFalse id
 |_::_,[]=>isFalse id
instance (rs:List qba) (qs:List (List qoa)):Decidable (SzL rs qs):=qeP rs qs
theorem qKP {rs:List qba} {qss:List (List qoa)} (hR:RecsOK rs) (hv:qtf rs=0) (hl:rs.length≤10000) (hc:ChnL 0 qss) (hs:SzL rs qss) (hps:qss.flatten.length≤12) (hb:∀q∈qss,Bts (dat q)):
  qbd rs qss.flatten=some (if qlw rs (qAi (a:= .str) (e:= .int .u8) (qrz rs qss)) rs.length 0=true then (qAi (a:= .str) (e:= .int .u8) (qrz rs qss),0) else ([],22)):=
 qXG hR hv hl hc hs (by omega) (qHI (by rw [wha];exact hps) (qRM (quH hc hs))) hb
theorem qsN {rs:List qba} (h:rs.all (fun r=>decide (r.1.size≤100))=true) (hl:rs.length≤100):RecsOK rs:=⟨by omega,fun r hr=>by
 have:=of_decide_eq_true (wwa.1 h r hr);omega⟩
theorem qhS:qbd [] []=some ([],0):=by
 have h:=qKP (rs:=[]) (qss:=[]) (qsN (by decide+kernel) (by decide+kernel)) (by decide+kernel) (by decide+kernel) trivial trivial (by decide+kernel) (fun q hq=>by cases hq)
 exact h
instance (f t:Int) (p:qoa):Decidable (InR f t p):=by unfold InR;infer_instance
def pcB (b:qda):qca:=(b.1.2.1,(b.1.2.2.1,(b.1.2.2.2.1,())))
theorem un {α:Type} {c:Prop} {i:Decidable c} {x y:Option α} {Q:α→Prop} (h:c) (h1:Tot x Q):Tot (@ite _ c i x y) Q:=by rw [if_pos h];exact h1
theorem uv {α:Type} {c:Prop} {i:Decidable c} {x y:Option α} {Q:α→Prop} (h:¬c) (h1:Tot y Q):Tot (@ite _ c i x y) Q:=by rw [if_neg h];exact h1
end Go.Ab

/-
  Extracting, whatever the blocks' modes: what Extract, One and Range answer where an archive was opened.
-/
set_option linter.unusedVariables false
set_option linter.unusedSimpArgs false
set_option maxRecDepth 100000
namespace Go.Ab
open Go
attribute [local irreducible] IntKind.wrap
theorem qCL {α β:Type} {f:α→β} {xs:List α} {i:Nat} {d:α} {e:β} (h:i<xs.length):(xs.map f).getD i e=f (xs.getD i d):=by
 rw [wu,wxa,wx h,wu,wx h];rfl
theorem qxy:∀(qs:List qoa),dat (qs.map z0)=dat qs
 |[]=>rfl
 |q::qs=>by rw [wI,qWs,qWs,qxy qs];rfl
theorem qnK:∀(rs:List qba) (acc:Int) (nm:List ByteArray),vld acc nm rs=0→∀r∈rs,qAI r=false
 |[],_,_,_,r,hr=>by cases hr
 |x::rs,acc,nm,h,r,hr=>by
  rw [vld] at h
  by_cases hb:qAI x=true
  ·rw [if_pos hb] at h;cases h
  ·rw [if_neg hb] at h
   rcases wZ.1 hr with rfl|hr
   ·simpa using hb
   ·exact qnK rs _ _ h r hr
theorem qpK {rs:List qba} (hv:qtf rs=0) {r:qba} (hr:r∈rs):qtf [r]=0:=by
 have hV:=(qCc hv).each r hr
 unfold qtf at hv
 split at hv
 ·cases hv
 ·have hb:=qnK rs 0 [] hv r hr
  unfold qtf
  rw [if_neg (by simp),vld,if_neg (by rw [hb];decide),vld,if_neg (by omega),if_neg (by simp [qpI,qUH])]
theorem qTA {h:qga} (hm:0≤h.1∧h.1<256) {z:List Int} (hb:Bts z) (hl:z.length≤19000):Tot (qlj h z) fun _=>True:=by
 rw [qmp]
 exact ud (que h) (ui (fun _=>ub trivial) (fun _=>ul (fun _=>ud (qFl h hm z hb hl) (ub trivial)) (fun _=>ub trivial)))
theorem qLR (l:Int) {b:qda} (hm:0≤b.1.1∧b.1.1<256) (hb:Bts b.2.1):Tot (qYf l b) fun r=>Bts r.1∧(r.2=0→(r.1.length:Int)=b.1.2.2.2.1):=by
 have no:∀e:Int,e≠0→Bts (([]:List Int),e).1∧((([]:List Int),e).2=0→((([]:List Int),e).1.length:Int)=b.1.2.2.2.1):=fun e he=>⟨Bts.nil,fun k=>absurd k he⟩
 rw [qVu]
 refine ud (qzo b) (ui (fun k=>ub (no _ k)) (fun hc=>?_))
 have ok:hOK b.1∧(b.2.1.length:Int)=b.1.2.2.2.2.1:=by
  unfold bC at hc;split at hc
  ·assumption
  ·cases hc
 have hlen:=qKk ok.1
 have hraw:1≤b.1.2.2.2.1∧b.1.2.2.2.1≤4096:=⟨ok.1.2.2.1,ok.1.2.2.2.1⟩
 have hmd:=ok.1.2.2.2.2.2.2
 refine ud (qNu l) (um (fun _=>ub (no _ (by decide))) (fun _=>ud (qak _ (by omega)) (ul (fun _=>?_) (fun hn2=>?_))))
 ·refine Tot.b (qhA l hb _) (fun r hr=>ui (fun _=>ub (no _ (by decide))) (fun k=>Tot.b (qgA l r.1) (fun s hs=>ui (fun _=>ub (no _ (by decide))) (fun _=>?_))))
  have h2:=hr.2 k
  refine Tot.b (P:=fun _=>True) (by rw [qAm];exact ub trivial) (fun t _=>um (fun _=>ub (no _ (by decide))) (fun _=>Tot.b (qTA hm hr.1 (by omega)) (fun u _=>um (fun _=>ub (no _ (by decide))) (fun _=>ub ⟨hr.1,fun _=>h2⟩))))
 ·exact Tot.b (qTA hm hb (by omega)) (fun u _=>um (fun _=>ub (no _ (by decide))) (fun _=>ub ⟨hb,fun _=>hmd.elim (fun k=>ok.2.trans k.2) (fun k=>absurd k.1 hn2)⟩))
section
variable (raw:qda→List Int×Int)
def qDQ:List qda→Nat→List qma
 |[],_=>[]
 |b::r,i=>((i:Int),((raw b).1,((raw b).2,())))::qDQ r (i+1)
def qLO (b:qda):qoa:=((b.1.2.1,(b.1.2.2.1,(b.1.2.2.2.1,()))),((raw b).1,()))
def qRg:List qda→List qoa×Int
 |[]=>([],0)
 |b::r=>if (raw b).2≠0 then ([],(raw b).2) else if (qRg r).2≠0 then ([],(qRg r).2) else (qLO raw b::(qRg r).1,0)
theorem qYo:∀{bs:List qda},(∀b∈bs,(raw b).2=0)→qRg raw bs=(bs.map (qLO raw),0)
 |[],_=>rfl
 |b::r,h=>by
  rw [qRg,if_neg (fun k=>k (h b (wT ..))),qYo fun x hx=>h x (wO _ hx),if_neg (fun k=>k rfl)]
  rfl
theorem qyH:∀{bs:List qda},(qRg raw bs).2=0→∀b∈bs,(raw b).2=0
 |[],_,b,hb=>by cases hb
 |x::r,h,b,hb=>by
  rw [qRg] at h
  by_cases hx:(raw x).2=0
  ·rw [if_neg (fun k=>k hx)] at h
   by_cases hr:(qRg raw r).2=0
   ·rcases wZ.1 hb with rfl|hb
    ·exact hx
    ·exact qyH hr b hb
   ·rw [if_pos hr] at h;exact absurd h hr
  ·rw [if_pos hx] at h;exact absurd h hx
theorem qBD (bs:List qda) (n8:Nat) (hl:bs.length≤10000):∀(k i:Nat) (dn:List qoa),i+k=bs.length→dn.length=i→
  qZc bs (bs.length:Int) (i:Int) n8 (qDQ raw (bs.drop i) i) (dn++wl k (qra qJa))=some (if (qRg raw (bs.drop i)).2≠0 then ([],(qRg raw (bs.drop i)).2) else (dn++(qRg raw (bs.drop i)).1,0))
 |0,i,dn,e,hd=>by
  rw [qMe,if_neg (by simp;omega),wK (by omega)]
  rfl
 |k+1,i,dn,e,hdn=>by
  have hd:=qVa (qra qpa:qda) (xs:=bs) (i:=i) (by omega)
  have ih:=fun dn hdn=>qBD bs n8 hl k (i+1) dn (by omega) hdn
  rw [show ((i+1:Nat):Int)=(i:Int)+1 by omega] at ih
  rw [qMe,hd.1]
  simp only [qDQ,wj,wv,wJ,List.getD_cons_zero,List.drop_succ_cons,wea]
  rw [w64 (x:=(i:Int)+1) (by omega) (by omega)]
  generalize bs.getD i (qra qpa)=x at*
  have hset:∀y:qoa,(dn++wl (k+1) (qra qJa)).set i y=(dn++[y])++wl k (qra qJa):=fun y=>by
   rw [wdb _ _ (by omega),hdn,wGa,wKa,wab,wB];rfl
  rw [hset]
  refine Tot.eq (uf (by omega) (ua (by simp) (ui (fun h=>ub ?_) (fun h=>ua (by omega) (ua (by omega) (ua (by omega) (ua (by simp [hdn];omega) (uh (ih _ (by simp [hdn])) ?_))))))))
  ·rw [qRg,if_pos h,if_pos h]
  ·have e0:qRg raw (x::bs.drop (i+1))=if (qRg raw (bs.drop (i+1))).2≠0 then ([],(qRg raw (bs.drop (i+1))).2) else (qLO raw x::(qRg raw (bs.drop (i+1))).1,0):=by rw [qRg,if_neg (fun k=>k h)]
   by_cases hr:(qRg raw (bs.drop (i+1))).2=0
   ·have e1:=e0.trans (if_neg (fun k=>k hr))
    rw [e1,if_neg (fun k=>k hr)]
    refine Eq.trans ?_ (if_neg (show ¬((0:Int)≠0) from fun k=>k rfl)).symm
    rw [wB];rfl
   ·have e1:=e0.trans (if_pos hr)
    rw [e1,if_pos hr]
    exact (if_pos hr).symm
theorem qCD (lv:Int) (bs:List qda) (hl:bs.length≤10000) (hs:∀b∈bs,qYf lv b=some (raw b)):∀(k i:Nat),i+k=bs.length→
  ∀(h8:List qma),h8.length=i→qYe lv bs bs (bs.length:Int) (i:Int) bs.length h8=qZc bs (bs.length:Int) 0 bs.length (h8++qDQ raw (bs.drop i) i) (wl bs.length (qra qJa))
 |0,i,e,h8,h=>by
  rw [qNe,if_neg (by simp;omega),wK (by omega),qDQ,wW]
  simp only [wj]
  rw [qfa trivial,qfa (by omega),qfa (by omega),qfa (by omega)]
 |k+1,i,e,h8,h=>by
  have hd:=qVa (qra qpa:qda) (xs:=bs) (i:=i) (by omega)
  have ih:=qCD lv bs hl hs k (i+1) (by omega)
  rw [show ((i+1:Nat):Int)=(i:Int)+1 by omega] at ih
  rw [qNe,hd.1,if_pos (by simp;omega)]
  simp only [wj,wv]
  rw [w64 (x:=(i:Int)+1) (by omega) (by omega)]
  have hx:=hs _ hd.2.2
  generalize bs.getD i (qra qpa)=x at*
  rw [qfa (by omega),qfa (by omega),hx,wq,qfa (by omega),ih _ (by simp [h]),qDQ,wB]
  rfl
theorem qTF (lv:Int) (bs:List qda) (hl:bs.length≤10000) (hs:∀b∈bs,qYf lv b=some (raw b)):qbc lv bs=some (qRg raw bs):=by
 rw [qso]
 simp only [wj]
 rw [qfa (by omega),qfa (by omega),qfa (by omega)]
 have h1:=qCD raw lv bs hl hs bs.length 0 (by omega) [] rfl
 have h2:=qBD raw bs bs.length hl bs.length 0 [] (by omega) rfl
 simp only [wea,wV,Int.natCast_zero] at h1 h2
 rw [h1,h2]
 have he:∀bs,(qRg raw bs).2≠0→(qRg raw bs).1=[]:=fun bs=>by
  cases bs with
  |nil=>intro k;exact absurd rfl k
  |cons b r=>
   intro k
   rw [qRg] at k ⊢
   split
   ·rfl
   ·rename_i h0
    rw [if_neg h0] at k
    split
    ·rfl
    ·rename_i h1;rw [if_neg h1] at k;exact absurd rfl k
 by_cases h:(qRg raw bs).2=0
 ·rw [if_neg (fun k=>k h),←h]
 ·rw [if_pos h,←he bs h]
end
structure OpG (raw:qda→List Int×Int) (a:List Int) (l:qCa) (bs:List qda):Prop where
 opd:Opd a l bs
 rw_:∀b∈bs,qYf l.1.1 b=some (raw b)
section
variable {raw:qda→List Int×Int} {a:List Int} {l:qCa} {bs:List qda}
theorem OpG.parts (o:OpG raw a l bs) {cs:List qda} (hc:∀b∈cs,b∈bs) (hl:cs.length≤10000):qbc l.1.1 cs=some (qRg raw cs):=qTF raw _ cs hl fun b hb=>o.rw_ b (hc b hb)
theorem OpG.ext_err (o:OpG raw a l bs) (h:(qRg raw bs).2≠0):∃z e,e≠0∧qIb a=some (z,e):=by
 have hp:=o.parts (cs:=bs) (fun b hb=>hb) (by have:=o.opd.ln;omega)
 refine ⟨[],(qRg raw bs).2,h,?_⟩
 rw [qnf,o.opd.op]
 exact Tot.eq (ud rfl (ue rfl (ud hp (ui (fun _=>ub rfl) (fun k=>absurd k h)))))
theorem OpG.ext_ok (o:OpG raw a l bs) {ps:List qoa} (h:qRg raw bs=(ps,0)):qIb a=qbd l.2.1 ps:=by
 have hp:=o.parts (cs:=bs) (fun b hb=>hb) (by have:=o.opd.ln;omega)
 rw [h] at hp
 rw [qnf,o.opd.op,wq]
 refine (if_neg (show ¬((0:Int) != 0)=true by decide)).trans ?_
 show (qbc l.1.1 bs).bind _=_
 rw [hp,wq]
 refine (if_neg (show ¬((0:Int) != 0)=true by decide)).trans ?_
 show (qbd l.2.1 ps).bind _=_
 cases qbd l.2.1 ps <;> rfl
theorem OpG.rn (o:OpG raw a l bs):l.2.1.length≤16:=(qCc o.opd.vl).len
theorem OpG.find (o:OpG raw a l bs) (nm:ByteArray):qEk l.2.1 nm=some (nmR (nmI nm l.2.1 0)):=qwv o.opd.rk (by have:=o.rn;omega) o.opd.vl nm
theorem OpG.one_ok (o:OpG raw a l bs) {nm:ByteArray} {i:Nat} (h:nmI nm l.2.1 0=some i) {ps:List qoa} (hp:qRg raw (ofM i bs)=(ps,0)) (hl:ps.length≤10000):
  qJr a nm=(qbd [l.2.1.getD i (qra qla)] (ps.map z0)).bind fun r=>if (r.2 != (0:Int))=true then some (zM,r.2) else gd ((0:Int)<wi r.1.length) (some (r.1.getD 0 (qra qwa),0)):=by
 have hf:=o.find nm
 rw [h] at hf
 have hi:=qKD h
 have hln:=o.opd.ln
 obtain ⟨n,h',h1,h2,hnn⟩:=qqE (by omega) o.opd.op hf
 have hlen:(ofM (i:Int) bs).length≤bs.length:=List.length_filter_le ..
 have hpa:=o.parts (cs:=ofM i bs) (fun b hb=>qlx hb) (by omega)
 rw [hp,←h2] at hpa
 have h3:=qpP i l (by omega) (by have:=o.rn;omega) ps (by omega) wD [] ps.length 0 (by omega)
 rw [List.take_zero,wDa,wV,wea] at h3
 rw [qOz,h1,wq]
 refine (if_neg (show ¬((0:Int) != 0)=true by decide)).trans ?_
 show (qbc l.1.1 (wL n (wY 0 h'))).bind _=_
 rw [wea,hpa,wq]
 refine (if_neg (show ¬((0:Int) != 0)=true by decide)).trans ?_
 exact h3
theorem OpG.range_ok (o:OpG raw a l bs) (hs:∀b∈bs,SmB b) {nm:ByteArray} {i:Nat} (h:nmI nm l.2.1 0=some i) {f t:Int} (h1:0≤f) (h2:f≤t) (h3:t≤(l.2.1.getD i (qra qla)).2.1) {ps:List qoa} (hp:qRg raw (onR f t (ofM i bs))=(ps,0))
  (hl:ps.length≤10000) (hR:∀p∈ps,InR f t p):qNn a nm f t=some (ps.flatMap (qtI f t),0):=by
 have hf:=o.find nm
 rw [h] at hf
 have hi:=qKD h
 obtain ⟨n,h',g1,g2,hnn⟩:=qqE (by have:=o.opd.ln;omega) o.opd.op hf
 have hlen:(ofM (i:Int) bs).length≤bs.length:=List.length_filter_le ..
 have hln:=o.opd.ln
 have hnl:(h'.take n).length=n:=by rw [wM];omega
 have hn6:n≤600:=by rw [←hnl,g2];omega
 obtain ⟨n',h'',k1,k2⟩:=qlF (n:=n) (by omega) (h0:=h') hnn (fun b hb=>hs b (by rw [g2] at hb;exact qlx hb)) f t
 rw [g2] at k2
 have hlen2:(onR f t (ofM (i:Int) bs)).length≤(ofM (i:Int) bs).length:=List.length_filter_le ..
 have hpa:=o.parts (cs:=onR f t (ofM i bs)) (fun b hb=>qlx (qqL hb)) (by omega)
 have hpa2:qbc l.1.1 (h''.take n')=some (ps,0):=by rw [k2,hpa,hp]
 rw [qBv,g1]
 refine Tot.eq (ud rfl (ue rfl (uc (by omega) (uc (by omega) (ua (by show (0:Int)≤(i:Int);omega) (ua (by show (i:Int)<(l.2.1.length:Int);omega) (uc ?_ (ud k1 (ud (by rw [wea];exact hpa2) (ue rfl (uh (qPM hl hR) rfl)))))))))))
 show ¬t>(l.2.1.getD ((i:Int).toNat) (qra qla)).2.1
 rw [wv]
 omega
end
end Go.Ab

/-
  Sorting what is in order, of up to 255 pieces.
-/
set_option linter.unusedVariables false
set_option linter.unusedSimpArgs false
set_option maxRecDepth 100000
namespace Go.Ab
open Go
attribute [local irreducible] IntKind.wrap
theorem qrB (l:List qca) (ho:Ord l) (i j:Nat) (h:i≤j) (hj:j<l.length):qmb (i:Int) (j:Int) l 0=some ((i:Int),((j:Int),(l,0))):=by
 obtain ⟨r,h1,h2⟩:=qzS (l.getD j (qra qja)) (l.getD i (qra qja))
 have h3:=h2 (ho i j h hj)
 rw [qvh]
 simp only [wj,wv,wJ]
 exact Tot.eq (ua (by omega) (ua (by omega) (ua (by omega) (ua (by omega) (ud h1 (uc h3 (ub rfl)))))))
theorem qAB (l:List qca) (ho:Ord l) (i j k:Nat) (h1:i≤j) (h2:j≤k) (hk:k<l.length):qnb (i:Int) (j:Int) (k:Int) l 0=some ((j:Int),(l,0)):=by
 rw [qwh]
 exact Tot.eq (ud (qrB l ho i j h1 (by omega)) (ud (qrB l ho j k h2 hk) (ud (qrB l ho i j h1 (by omega)) (ub rfl))))
theorem qBB (l:List qca) (ho:Ord l) (hl:l.length≤255) (i:Nat) (h1:1≤i) (hk:i+1<l.length):qab (i:Int) l 0=some ((i:Int),(l,0)):=by
 rw [qef,w64 (x:=(i:Int) - 1) (by omega) (by omega),w64 (x:=(i:Int)+1) (by omega) (by omega),show (i:Int) - 1=((i - 1:Nat):Int) by omega,show (i:Int)+1=((i+1:Nat):Int) by omega]
 exact Tot.eq (ud (qAB l ho (i - 1) i (i+1) (by omega) (by omega) hk) (ub rfl))
theorem qPP (l:List qca) (ho:Ord l) (hl:l.length≤255) (h12:12<l.length):∃p,qec 0 (l.length:Int) l=some (p,(1,l)):=by
 rw [qag]
 have hq:Int.tdiv (l.length:Int) 4=((l.length/4:Nat):Int):=by rw [Int.tdiv_eq_ediv_of_nonneg (by omega)];omega
 rw [w64 (x:=(l.length:Int) - 0) (by omega) (by omega),Int.sub_zero,hq,w64 (x:=((l.length/4:Nat):Int)) (by omega) (by omega),w64 (x:=((l.length/4:Nat):Int)*1) (by omega) (by omega),w64 (x:=((l.length/4:Nat):Int)*2) (by omega) (by omega),w64 (x:=((l.length/4:Nat):Int)*3) (by omega) (by omega),
  w64 (x:=0+((l.length/4:Nat):Int)*1) (by omega) (by omega),w64 (x:=0+((l.length/4:Nat):Int)*2) (by omega) (by omega),w64 (x:=0+((l.length/4:Nat):Int)*3) (by omega) (by omega),
  show 0+((l.length/4:Nat):Int)*1=((l.length/4:Nat):Int) by omega,show 0+((l.length/4:Nat):Int)*2=((l.length/4*2:Nat):Int) by omega,show 0+((l.length/4:Nat):Int)*3=((l.length/4*3:Nat):Int) by omega]
 refine ⟨((l.length/4*2:Nat):Int),Tot.eq (ua (by decide) (ua (by decide) (ua (by decide) (uf (by omega) (ug (fun _=>?_) (fun _=>?_))))))⟩
 ·exact ud (qBB l ho hl _ (by omega) (by omega)) (ud (qBB l ho hl _ (by omega) (by omega)) (ud (qBB l ho hl _ (by omega) (by omega)) (ud (qAB l ho _ _ _ (by omega) (by omega) (by omega)) (un rfl (ub rfl)))))
 ·exact ud (qAB l ho _ _ _ (by omega) (by omega) (by omega)) (un rfl (ub rfl))
theorem qCA (l:List qca) (ho:Ord l) (hl:l.length≤255):∀(k i:Nat),i+k=l.length→1≤i→qXa 0 (l.length:Int) (i:Int) 0 l=some (true,l)
 |0,i,e,h=>by
  rw [qKb,if_neg (by simp;omega),if_pos (by rw [beq_iff_eq];omega)]
 |k+1,i,e,h=>by
  have ih:=qCA l ho hl k (i+1) (by omega) (by omega)
  rw [show ((i+1:Nat):Int)=(i:Int)+1 by omega] at ih
  obtain ⟨r,h1,h2⟩:=qzS (l.getD i (qra qja)) (l.getD (i - 1) (qra qja))
  have h3:=h2 (ho (i - 1) i (by omega) (by omega))
  rw [qKb]
  simp only [wj,wv,wJ]
  rw [w64 (x:=(i:Int) - 1) (by omega) (by omega),w64 (x:=(i:Int)+1) (by omega) (by omega),show ((i:Int) - 1).toNat=i - 1 by omega]
  exact Tot.eq (uf (by omega) (ua (by omega) (ua (by omega) (ua (by omega) (ua (by omega) (ud h1 (un (by rw [decide_eq_false h3];rfl) (uh ih rfl))))))))
theorem qgF {l:List qca} (hl:l.length≤255) (ho:Ord l):qOa l=some l:=by
 by_cases h12:l.length≤12
 ·exact qHI h12 ho
 ·obtain ⟨r,hr,hr1,hr2,_⟩:=qsO (a:=wi l.length) (by simp;omega) (by simp;omega)
  obtain ⟨p,hp⟩:=qPP l ho hl (by omega)
  have hpart:qlb 0 (l.length:Int) l=some (true,l):=by
   rw [qae,show wd .i64 ((0:Int)+1)=1 by decide+kernel,qBd]
   exact Tot.eq (uf (by decide) (uh (qCA l ho hl (l.length - 1) 1 (by omega) (by omega)) rfl))
  have hs:qLb 0 (l.length:Int) r l=some l:=by
   rw [qCd,qcd,w64 (x:=(l.length:Int) - 0) (by omega) (by omega)]
   exact Tot.eq (uc (by omega) (uv (by rw [beq_iff_eq];omega) (uv (by decide) (ud hp (uv (show ¬((1:Int)==2)=true by decide) (un rfl (un rfl (un rfl (ud hpart (un rfl (ub rfl)))))))))))
  rw [qTc,hr]
  exact Tot.eq (ud rfl (ud hs (ub rfl)))
end Go.Ab

/-
  ExtractOne: members and their parts.
-/
set_option linter.unusedVariables false
set_option linter.unusedSimpArgs false
set_option maxRecDepth 100000
namespace Go.Ab
open Go
attribute [local irreducible] IntKind.wrap
theorem qgP:∀{hs:List qga} {ps:List qca},hs.length=ps.length→ckL hs ps=0→hs.map (fun g=>(g.2.1,(g.2.2.1,(g.2.2.2.1,()))))=ps
 |[],[],_,_=>rfl
 |[],_::_,h,_=>by cases h
 |_::_,[],h,_=>by cases h
 |h::hs,p::ps,hl,hc=>by
  rw [ckL] at hc
  split at hc
  ·rename_i hk
   obtain ⟨_,k1,k2,k3⟩:=hk
   rw [wI,qgP (by simpa using hl) hc,k1,k2,k3]
  ·cases hc
theorem Opd.pcs_ {a:List Int} {l:qCa} {bs:List qda} (h:Opd a l bs):bs.map pcB=ap l.1.2.1 0 l.2.1:=by
 have hck:=h.ck
 unfold lck at hck
 split at hck
 ·cases hck
 split at hck
 ·cases hck
 split at hck
 ·cases hck
 ·rename_i h3
  have:=qgP (by omega) hck
  rw [←h.hd,List.map_map] at this
  exact this
theorem qjP:∀(k:Nat) (i:Nat) (n s:Int) (off:Nat) (ps:List qoa),16≤s→ps.map (·.1)=pcs (i:Int) n s k (off:Int)→(∀p∈ps,(p.2.1.length:Int)=p.1.2.2.1)→n - off≤16*(k:Int)→Chn i off ps∧((off:Int)≤n→((dat ps).length:Int)=n - off)
 |0,i,n,s,off,ps,hs,hm,hl,hk=>by
  rw [pcs,List.map_eq_nil_iff] at hm
  subst hm
  refine ⟨trivial,fun h=>?_⟩
  rw [qOr,wX];omega
 |k+1,i,n,s,off,ps,hs,hm,hl,hk=>by
  rw [pcs] at hm
  split at hm
  ·rename_i ho
   cases ps with
   |nil=>cases hm
   |cons p r=>
    rw [wI,wIa] at hm
    obtain ⟨h1,h2⟩:=hm
    have hpl:=hl p (wT ..)
    rw [h1] at hpl
    have hpl2:(p.2.1.length:Int)=if s<n - (off:Int) then s else n - (off:Int):=hpl
    by_cases hs2:s<n - (off:Int)
    ·rw [if_pos hs2] at hpl2
     have e:(off:Int)+s=((off+p.2.1.length:Nat):Int):=by omega
     rw [e] at h2
     obtain ⟨c1,c2⟩:=qjP k i n s (off+p.2.1.length) r hs h2 (fun q hq=>hl q (wO _ hq)) (by omega)
     refine ⟨⟨by rw [h1],by rw [h1],(hl p (wT ..)).symm,by omega,c1⟩,fun _=>?_⟩
     have:=c2 (by omega)
     rw [qyy];omega
    ·rw [if_neg hs2] at hpl2
     have hr:r=[]:=by
      have h0:pcs (i:Int) n s k ((off:Int)+s)=[]:=by
       cases k with
       |zero=>rfl
       |succ k=>rw [pcs,if_neg (by omega)]
      rw [h0,List.map_eq_nil_iff] at h2;exact h2
     subst hr
     refine ⟨⟨by rw [h1],by rw [h1],(hl p (wT ..)).symm,by omega,trivial⟩,fun _=>?_⟩
     rw [qyy,qOr,wX];omega
  ·rename_i ho
   rw [List.map_eq_nil_iff] at hm
   subst hm
   refine ⟨trivial,fun h=>?_⟩
   rw [qOr,wX];omega
theorem qhP (s:Int) (hs:16≤s):∀(rs:List qba) (i:Nat) (ps:List qoa),ps.map (·.1)=ap s (i:Int) rs→(∀p∈ps,(p.2.1.length:Int)=p.1.2.2.1)→(∀r∈rs,0≤r.2.1∧r.2.1≤8192)→∃qss,qss.flatten=ps∧ChnL i qss∧SzL rs qss
 |[],i,ps,hm,_,_=>by
  rw [ap,List.map_eq_nil_iff] at hm
  exact ⟨[],by rw [hm];rfl,trivial,trivial⟩
 |r::rs,i,ps,hm,hl,hz=>by
  rw [ap] at hm
  obtain ⟨p1,p2,rfl,h1,h2⟩:=List.map_eq_append_iff.1 hm
  have hr:=hz r (wT ..)
  obtain ⟨c1,c2⟩:=qjP 8200 i r.2.1 s 0 p1 hs h1 (fun p hp=>hl p (List.mem_append_left _ hp)) (by omega)
  have e:(i:Int)+1=((i+1:Nat):Int):=by omega
  rw [e] at h2
  obtain ⟨qss,q1,q2,q3⟩:=qhP s hs rs (i+1) p2 h2 (fun p hp=>hl p (List.mem_append_right _ hp)) (fun x hx=>hz x (wO _ hx))
  have:=c2 (by omega)
  exact ⟨p1::qss,by rw [wwb,q1],⟨c1,q2⟩,by omega,by omega,q3⟩
theorem qOA:∀{qss:List (List qoa)} {rs:List qba} {i j:Nat},ChnL i qss→SzL rs qss→j<qss.length→qss.flatten.filter (fun p=>p.1.1==((i+j:Nat):Int))=qss.getD j []
 |[],_,_,_,_,_,h=>by cases h
 |q::qss,[],_,_,_,h,_=>h.elim
 |q::qss,r::rs,i,j,⟨c1,c2⟩,⟨s1,s2,s3⟩,hj=>by
  rw [wwb,List.filter_append]
  cases j with
  |zero=>
   have h1:q.filter (fun p=>p.1.1==((i+0:Nat):Int))=q:=List.filter_eq_self.2 fun p hp=>by
    rw [beq_iff_eq];exact (Chn.at c1 p hp).1
   have h2:qss.flatten.filter (fun p=>p.1.1==((i+0:Nat):Int))=[]:=List.filter_eq_nil_iff.2 fun p hp hc=>by
    have:=(ChnL.at c2 s3 p hp).1
    have:=eq_of_beq hc
    omega
   rw [h1,h2,wW];rfl
  |succ j=>
   have h1:q.filter (fun p=>p.1.1==((i+(j+1):Nat):Int))=[]:=List.filter_eq_nil_iff.2 fun p hp hc=>by
    have:=(Chn.at c1 p hp).1
    have:=eq_of_beq hc
    omega
   have ih:=qOA (j:=j) c2 s3 (by simpa using hj)
   rw [show i+1+j=i+(j+1) by omega] at ih
   rw [h1,wV,ih];rfl
theorem qgH:∀{rs:List qba} {qss:List (List qoa)} {j:Nat},SzL rs qss→j<rs.length→rs.length=qss.length∧(rs.getD j (qra qla)).2.1=((dat (qss.getD j [])).length:Int)∧(dat (qss.getD j [])).length≤20000∧(qrz rs qss).getD j (wD,[])=((rs.getD j (qra qla)).1,dat (qss.getD j []))
 |[],_,_,_,h=>by cases h
 |_::_,[],_,h,_=>h.elim
 |r::rs,q::qss,0,⟨s1,s2,s3⟩,_=>by
  have hlen:∀{rs:List qba} {qss:List (List qoa)},SzL rs qss→rs.length=qss.length:=by
   intro rs
   induction rs with
   |nil=>intro qss h;cases qss with
    |nil=>rfl
    |cons _ _=>exact h.elim
   |cons r rs ih=>intro qss h;cases qss with
    |nil=>exact h.elim
    |cons q qss=>rw [wz,wz,ih h.2.2]
  exact ⟨by rw [wz,wz,hlen s3],s1,s2,rfl⟩
 |r::rs,q::qss,j+1,⟨s1,s2,s3⟩,h=>by
  obtain ⟨k1,k2,k3,k4⟩:=qgH (j:=j) s3 (by simpa using h)
  exact ⟨by rw [wz,wz,k1],k2,k3,k4⟩
theorem qKG:∀{qss:List (List qoa)} {i j:Nat},ChnL i qss→j<qss.length→Chn (i+j) 0 (qss.getD j [])
 |[],_,_,_,h=>by cases h
 |q::qss,i,0,h,_=>h.1
 |q::qss,i,j+1,h,hj=>by
  have:=qKG (j:=j) h.2 (by simpa using hj)
  rw [show i+1+j=i+(j+1) by omega] at this
  exact this
theorem qiP:∀{q:List qoa} {i off:Nat},Chn i off q→Chn 0 off (q.map z0)
 |[],_,_,_=>trivial
 |p::q,i,off,⟨c1,c2,c3,c4,c5⟩=>⟨rfl,c2,c3,c4,qiP c5⟩
theorem qvK {rs:List qba} {ms:List qxa}:∀{k i j:Nat},qlw rs ms k i=true→i≤j→j<i+k→peq (.arr 20 (.int .u8)) (qCm (ms.getD j (qra qwa)).2.1) (rs.getD j (qra qla)).2.2.1=true
 |0,i,j,_,h1,h2=>by omega
 |k+1,i,j,h,h1,h2=>by
  rw [qlw,wA] at h
  rcases Nat.eq_or_lt_of_le h1 with rfl|h3
  ·exact h.1
  ·exact qvK h.2 (by omega) (by omega)
def onP (f t:Int) (p:qoa):Bool:=!decide ((if f>p.1.2.1 then f else p.1.2.1)≥(if t<p.1.2.1+p.1.2.2.1 then t else p.1.2.1+p.1.2.2.1))
theorem qwM (f t:Int):∀{q:List qoa} {i off:Nat},Chn i off q→(q.filter (onP f t)).flatMap (qtI f t)=((dat q).drop (f - off).toNat).take ((t - off).toNat - (f - off).toNat)
 |[],_,_,_=>by rw [qOr];simp
 |x::q,i,off,⟨c1,c2,c3,c4,c5⟩=>by
  have ih:=qwM f t c5
  have hx:((if onP f t x=true then qtI f t x else []):List Int)=(x.2.1.drop (f - off).toNat).take ((t - off).toNat - (f - off).toNat):=by
   have hlo:(loR f x.1.2.1).toNat=(f - off).toNat:=by unfold loR;rw [c2];split <;> omega
   unfold onP qtI
   rw [c2,c3]
   by_cases ho:(if f>(off:Int) then f else (off:Int))≥(if t<(off:Int)+(x.2.1.length:Int) then t else (off:Int)+(x.2.1.length:Int))
   ·rw [decide_eq_true ho,if_neg (by decide)]
    symm
    apply List.eq_nil_of_length_eq_zero
    rw [wM,wS]
    split at ho <;> split at ho <;> omega
   ·rw [decide_eq_false ho,if_pos (by decide),←c2,hlo]
    rw [←c2] at ho
    have hhi:min ((hiR t x.1.2.1 x.2.1.length).toNat - (f - off).toNat) (x.2.1.length - (f - off).toNat)=min ((t - off).toNat - (f - off).toNat) (x.2.1.length - (f - off).toNat):=by
     unfold hiR;rw [c2];split <;> omega
    have e:∀(n m:Nat) (l:List Int),min n l.length=min m l.length→l.take n=l.take m:=fun n m l h=>by
     rw [List.take_eq_take_iff];exact h
    have h3:=e ((hiR t x.1.2.1 x.2.1.length).toNat - (f - off).toNat) ((t - off).toNat - (f - off).toNat) (x.2.1.drop (f - off).toNat) (by rw [wS];exact hhi)
    rw [c2] at h3 ⊢
    exact h3
  have e1:((x::q).filter (onP f t)).flatMap (qtI f t)=(if onP f t x=true then qtI f t x else [])++(q.filter (onP f t)).flatMap (qtI f t):=by
   rw [List.filter_cons]
   split
   ·rw [wUa]
   ·rfl
  rw [e1,hx,ih,qWs,List.drop_append,List.take_append,wS]
  congr 1
  have a1:(f - ((off+x.2.1.length:Nat):Int)).toNat=(f - off).toNat - x.2.1.length:=by omega
  have a2:(t - ((off+x.2.1.length:Nat):Int)).toNat=(t - off).toNat - x.2.1.length:=by omega
  rw [a1,a2]
  congr 1
  omega
end Go.Ab

/-
  ExtractOne: the law.
-/
set_option linter.unusedVariables false
set_option linter.unusedSimpArgs false
set_option maxRecDepth 100000
namespace Go.Ab
open Go
attribute [local irreducible] IntKind.wrap
theorem qVy {a:List Int} {l:qCa} {bs:List qda} {e:Int} (h:qSd a=some (l,(bs,e))) (he:e≠0):qIb a=some ([],e):=by
 rw [qnf,h]
 exact Tot.eq (ud rfl (ui (fun _=>ub rfl) (fun k=>absurd k he)))
theorem Opd.smb {a:List Int} {l:qCa} {bs:List qda} (h:Opd a l bs):∀b∈bs,SmB b:=fun b hb=>by
 have:=(h.ok b hb).1
 unfold hOK at this
 unfold SmB
 omega
noncomputable def qos (lv:Int) (b:qda):List Int×Int:=(qYf lv b).getD ([],0)
theorem qsH {lv:Int} {b:qda} (h:hOK b.1∧bC b=0∧Bts b.2.1):qYf lv b=some (qos lv b)∧Bts (qos lv b).1∧((qos lv b).2=0→((qos lv b).1.length:Int)=b.1.2.2.2.1):=by
 have hm:0≤b.1.1∧b.1.1<256:=by
  have:=h.1.2.2.2.2.2.2
  omega
 obtain ⟨r,h1,h2,h3⟩:=qLR lv hm h.2.2
 have e:qos lv b=r:=by unfold qos;rw [h1];rfl
 rw [e]
 exact ⟨h1,h2,h3⟩
theorem Opd.opG {a:List Int} {l:qCa} {bs:List qda} (h:Opd a l bs):OpG (qos l.1.1) a l bs:=⟨h,fun b hb=>(qsH (h.ok b hb)).1⟩
theorem Opd.cnt {a:List Int} {l:qCa} {bs:List qda} (hb:Bts a) (h:Opd a l bs):42*bs.length≤a.length:=by
 have h0:(qnt a).2.2=0:=by rw [h.eq]
 obtain ⟨rs,q,hs,bs',hO⟩:=qNC hb h0
 have he:=hO.eq
 rw [h.eq] at he
 have hbs:bs=bs':=(Prod.mk.inj (Prod.mk.inj he).2).1
 subst hbs
 have key:∀{hs:List qga} {bs:List qda} {p:Nat},Std a a.length p hs bs→p+42*bs.length≤a.length:=by
  intro hs
  induction hs with
  |nil=>intro bs p h;cases bs with
   |nil=>have h:p=a.length:=h;rw [wX];omega
   |cons _ _=>exact h.elim
  |cons g hs ih=>intro bs p h;cases bs with
   |nil=>exact h.elim
   |cons x bs=>
    obtain ⟨_,_,h3,_,h5⟩:=h
    have:=ih h5
    have:=qKk h3
    rw [wz];omega
 have:=key hO.std
 omega
structure ExtP (a:List Int) (l:qCa) (bs:List qda) (qss:List (List qoa)):Prop where
 o:OpG (qos l.1.1) a l bs
 ok:∀b∈bs,(qos l.1.1 b).2=0
 fl:qss.flatten=bs.map (qLO (qos l.1.1))
 ch:ChnL 0 qss
 sz:SzL l.2.1 qss
 sm:qlw l.2.1 (qAi (a:= .str) (e:= .int .u8) (qrz l.2.1 qss)) l.2.1.length 0=true
 bt:∀q∈qss,Bts (dat q)
 fw:bs.length≤255
theorem qgQ {a:List Int} (hb:Bts a) (hl:a.length≤3000):(∃z e,e≠0∧qIb a=some (z,e))∨∃l bs qss,ExtP a l bs qss∧qIb a=some (qAi (a:= .str) (e:= .int .u8) (qrz l.2.1 qss),0):=by
 by_cases h0:(qnt a).2.2=0
 ·have h:=qRO hb h0
  generalize (qnt a).1=l at h
  generalize (qnt a).2.1=bs at h
  have o:=h.opG
  by_cases hp:(qRg (qos l.1.1) bs).2=0
  ·have hok:=qyH _ hp
   have hps:=qYo (qos l.1.1) hok
   have hV:=qCc h.vl
   have hmap:(bs.map (qLO (qos l.1.1))).map (·.1)=ap l.1.2.1 ((0:Nat):Int) l.2.1:=by rw [List.map_map];exact h.pcs_
   obtain ⟨qss,q1,q2,q3⟩:=qhP l.1.2.1 h.bk.1 l.2.1 0 (bs.map (qLO (qos l.1.1))) hmap (fun p hp=>by
    obtain ⟨b,hb,rfl⟩:=waa.1 hp
    exact (qsH (h.ok b hb)).2.2 (hok b hb)) (fun r hr=>⟨(hV.each r hr).1,(hV.each r hr).2.1⟩)
   have hbt:∀q∈qss,Bts (dat q):=fun q hq x hx=>by
    obtain ⟨p,hp,hx⟩:=List.mem_flatMap.1 hx
    have:p∈qss.flatten:=List.mem_flatten.2 ⟨q,hq,hp⟩
    rw [q1] at this
    obtain ⟨b,hb,rfl⟩:=waa.1 this
    exact (qsH (lv:=l.1.1) (h.ok b hb)).2.1 x hx
   have hc:=h.cnt hb
   have hfl:qss.flatten.length≤255:=by rw [q1,wha];omega
   have hput:=qXG h.rk h.vl (by have:=hV.len;omega) q2 q3 (by omega) (qgF (by rw [wha];exact hfl) (qRM (quH q2 q3))) hbt
   have hext:=o.ext_ok hps
   rw [←q1,hput] at hext
   by_cases hs:qlw l.2.1 (qAi (a:= .str) (e:= .int .u8) (qrz l.2.1 qss)) l.2.1.length 0=true
   ·rw [if_pos hs] at hext
    exact .inr ⟨l,bs,qss,⟨o,hok,q1,q2,q3,hs,hbt,by omega⟩,hext⟩
   ·rw [if_neg hs] at hext
    exact .inl ⟨[],22,by decide,hext⟩
  ·exact .inl (o.ext_err hp)
 ·exact .inl ⟨[],_,h0,qVy (qLH hb h0) h0⟩
section
variable {a:List Int} {l:qCa} {bs:List qda} {qss:List (List qoa)}
theorem ExtP.part (h:ExtP a l bs qss) {j:Nat} (hj:j<l.2.1.length):qRg (qos l.1.1) (ofM (j:Int) bs)=(qss.getD j [],0)∧(qss.getD j []).length≤255:=by
 have hz:=qgH h.sz hj
 have hf:=qOA (j:=j) h.ch h.sz (by omega)
 have hok:∀b∈ofM (j:Int) bs,(qos l.1.1 b).2=0:=fun b hb=>h.ok b (qlx hb)
 have e:(ofM (j:Int) bs).map (qLO (qos l.1.1))=qss.getD j []:=by
  rw [←hf,h.fl,List.filter_map,wJ]
  rfl
 refine ⟨by rw [qYo _ hok,e],?_⟩
 rw [←e,wha]
 have:(ofM (j:Int) bs).length≤bs.length:=List.length_filter_le ..
 have:=h.fw
 omega
theorem ExtP.one (h:ExtP a l bs qss) {nm:ByteArray} {j:Nat} (hn:nmI nm l.2.1 0=some j):qJr a nm=some (((l.2.1.getD j (qra qla)).1,(dat (qss.getD j []),())),0):=by
 have hj:=(qKD hn).2
 rw [wJ] at hj
 obtain ⟨p1,p2⟩:=h.part hj
 obtain ⟨z1,z2,z3,z4⟩:=qgH h.sz hj
 have hm:l.2.1.getD j (qra qla)∈l.2.1:=qPa (P:=fun r=>r∈l.2.1) (fun r hr=>hr) j hj
 have hV:=qCc h.o.opd.vl
 have hc:=qiP (qKG h.ch (j:=j) (by omega))
 have hq:qss.getD j []∈qss:=qPa (P:=fun r=>r∈qss) (fun r hr=>hr) j (by omega)
 have hput:=qXG (rs:=[l.2.1.getD j (qra qla)]) (qss:=[(qss.getD j []).map z0]) ⟨by show 1≤9223372036854775807;decide,fun r hr=>by rw [wU.1 hr];have:=(hV.each _ hm).2.2;omega⟩ (qpK h.o.opd.vl hm) (by show 1≤10000;decide) ⟨hc,trivial⟩ ⟨by rw [qxy];exact z2,by rw [qxy];exact z3,trivial⟩
  (by simp only [wwb,List.flatten_nil,wW,wha];omega) (qgF (by simp only [wwb,List.flatten_nil,wW,wha];exact p2) (qRM (quH (rs:=[l.2.1.getD j (qra qla)]) (k:=0) ⟨hc,trivial⟩ ⟨by rw [qxy];exact z2,by rw [qxy];exact z3,trivial⟩))) (fun q hq'=>by rw [wU.1 hq',qxy];exact h.bt _ hq)
 have hfl:[(qss.getD j []).map z0].flatten=(qss.getD j []).map z0:=by simp
 have hmk:qrz [l.2.1.getD j (qra qla)] [(qss.getD j []).map z0]=[((l.2.1.getD j (qra qla)).1,dat (qss.getD j []))]:=by
  show [(_,dat _)]=_
  rw [qxy]
 rw [hfl,hmk] at hput
 have hml:=qwB h.sz
 have qdE:qlw [l.2.1.getD j (qra qla)] (qAi (a:= .str) (e:= .int .u8) [((l.2.1.getD j (qra qla)).1,dat (qss.getD j []))]) [l.2.1.getD j (qra qla)].length 0=true:=by
  have:=qvK h.sm (Nat.zero_le j) (by omega)
  have e:((qAi (a:= .str) (e:= .int .u8) (qrz l.2.1 qss)).getD j (qra qwa)).2.1=dat (qss.getD j []):=by
   have:(qAi (a:= .str) (e:= .int .u8) (qrz l.2.1 qss)).getD j (qra qwa)=((qrz l.2.1 qss).map fun x=>(x.1,(x.2,()))).getD j (qra qwa):=rfl
   rw [this,qCL (d:=((wD,[]):ByteArray×List Int)) (by omega),z4]
  rw [e] at this
  show (peq (.arr 20 (.int .u8)) (qCm (dat (qss.getD j []))) (l.2.1.getD j (qra qla)).2.2.1&&true)=true
  rw [this];rfl
 rw [if_pos qdE] at hput
 rw [h.o.one_ok hn p1 (by omega),hput]
 exact Tot.eq (ud rfl (ue rfl (ua (by show (0:Int)<1;decide) (ub rfl))))
theorem ExtP.range (h:ExtP a l bs qss) {nm:ByteArray} {j:Nat} (hn:nmI nm l.2.1 0=some j) {f t:Int} (h1:0≤f) (h2:f≤t) (h3:t≤((dat (qss.getD j [])).length:Int)):qNn a nm f t=some (((dat (qss.getD j [])).drop f.toNat).take (t.toNat - f.toNat),0):=by
 have hj:=(qKD hn).2
 rw [wJ] at hj
 obtain ⟨p1,p2⟩:=h.part hj
 obtain ⟨z1,z2,z3,z4⟩:=qgH h.sz hj
 have hc:=qKG h.ch (j:=j) (by omega)
 have hok:∀b∈ofM (j:Int) bs,(qos l.1.1 b).2=0:=fun b hb=>h.ok b (qlx hb)
 have hon:(onR f t (ofM (j:Int) bs)).map (qLO (qos l.1.1))=(qss.getD j []).filter (onP f t):=by
  have e1:=qYo (qos l.1.1) hok
  rw [p1] at e1
  rw [(Prod.mk.inj e1).1,List.filter_map]
  rfl
 have hpp:=qYo (qos l.1.1) (bs:=onR f t (ofM (j:Int) bs)) (fun b hb=>hok b (qqL hb))
 rw [hon] at hpp
 have hlen:((qss.getD j []).filter (onP f t)).length≤(qss.getD j []).length:=List.length_filter_le ..
 have hR:=h.o.range_ok h.o.opd.smb hn (f:=f) (t:=t) h1 h2 (by rw [z2];exact h3) hpp (by omega) (fun p hp=>by
  obtain ⟨hp1,hp2⟩:=List.mem_filter.1 hp
  obtain ⟨k1,k2,k3,k4,k5⟩:=Chn.at hc p hp1
  unfold onP at hp2
  rw [wRa,decide_eq_false_iff_not] at hp2
  unfold InR loR hiR
  refine ⟨h1,by omega,by omega,by omega,by omega,by omega,by omega,?_⟩
  split at hp2 <;> split at hp2 <;> split <;> split <;> omega)
 rw [hR,qwM f t hc]
 simp
end
end Go.Ab

/-
  ExtractOne: the chapter's examples; the law.
-/
set_option linter.unusedVariables false
set_option linter.unusedSimpArgs false
set_option maxRecDepth 100000
namespace Go.Ab
open Go
attribute [local irreducible] IntKind.wrap
theorem gE:OpG (qos 0) wE (sA,([],([],()))) []:=opdE.opG
theorem Q_E:qIb wE=some ([],0):=(gE.ext_ok (ps:=[]) rfl).trans qhS
end Go.Ab

/-
  Records, parts and members: what chapter 34 leans on.
-/
set_option linter.unusedVariables false
set_option linter.unusedSimpArgs false
set_option maxHeartbeats 1000000
set_option maxRecDepth 100000
namespace Go.Ab
open Go
attribute [local irreducible] IntKind.wrap
theorem uJ {α:Type} {i:Decidable (true=true)} {x y:Option α} {Q:α→Prop} (h:Tot x Q):Tot (@ite _ (true=true) i x y) Q:=uk (fun _=>h) (fun k=>absurd rfl k)
theorem qOG {xs ys:List Int} (hx:Bts xs) (hy:Bts ys) (h:wqa xs=wqa ys):xs=ys:=by
 induction xs generalizing ys with
 |nil=>cases ys with
  |nil=>rfl
  |cons y ys=>simp [wqa] at h
 |cons x xs ih=>cases ys with
  |nil=>simp [wqa] at h
  |cons y ys=>
   simp only [wqa,wI,wIa] at h
   have h1:=hx x wT
   have h2:=hy y wT
   have e:=congrArg UInt8.toNat h.1
   simp only [UInt8.toNat_ofNat'] at e
   have:x=y:=by omega
   rw [this,ih (fun z hz=>hx z (wO _ hz)) (fun z hz=>hy z (wO _ hz)) h.2]
theorem qVP {s t:List Int} (hs:Bts s) (ht:Bts t) (j:Nat):Lib.occAt (wqa s) (wqa t) j=true↔(s.drop j).take t.length=t:=by
 unfold Lib.occAt
 rw [List.isPrefixOf_iff_prefix,List.prefix_iff_eq_take]
 have e1:(wqa t).length=t.length:=wha ..
 have e2:wL t.length (wY j (wqa s))=wqa ((s.drop j).take t.length):=by
  unfold wqa
  rw [List.map_take,List.map_drop]
 rw [e1,e2]
 constructor
 ·intro h
  exact (qOG ht ((hs.drop _).take _) h).symm
 ·intro h
  rw [h]
instance (s:List Int):Decidable (qUt s):=by unfold qUt;infer_instance
theorem qGl {s:List Int} (h:qUt s):13≤s.length:=by
 have:=congrArg we h
 rw [wM,qAd] at this
 omega
theorem qXM {b:List Int} (hb:Bts b) (hl:b.length≤50000) {k:Nat} (hk:k≤b.length):
  (qQf b k=some (0,6)∧∀j,¬qUt ((b.drop k).drop j))∨∃i:Nat,qQf b k=some (((k+i:Nat):Int),0)∧k+i≤b.length∧qUt ((b.drop k).drop i)∧∀j,j<i→¬qUt ((b.drop k).drop j):=by
 have hI:qTk (b.drop k) mark=some (ixB (b.drop k) mark):=by
  unfold qTk
  exact Tot.eq (ua (by rw [wS];omega) (ua (by rw [qAd];decide) (ua (by rw [qAd];decide) (ua ⟨hb.drop k,qFB⟩ (ub rfl)))))
 have hF:qQf b k=some (if ixB (b.drop k) mark<0 then (0,6) else (wd .i64 ((k:Int)+ixB (b.drop k) mark),0)):=by
  have hchk:qZg b k=some 0:=by
   rw [qGk]
   simp only [wj]
   exact Tot.eq (uc (by omega) (uc (by omega) (uc (by omega) (ub rfl))))
  rw [qBz]
  simp only [wj]
  have e:(k:Int).toNat=k:=wv k
  refine Tot.eq (ud hchk (ue rfl (ua (by omega) (ua (by omega) (ud qRm ?_)))))
  rw [e]
  refine ud hI ?_
  exact ug (fun h=>ub (by rw [if_pos h])) (fun h=>ub (by rw [if_neg h]))
 have hocc:=fun j=>qVP (hb.drop k) qFB j
 rcases Lib.index_spec (wqa (b.drop k)) (wqa mark) with ⟨h1,h2⟩|⟨i,h1,h2,h3,h4⟩
 ·left
  have hx:ixB (b.drop k) mark=-1:=h1
  rw [hF,hx,if_pos (by decide)]
  refine ⟨rfl,fun j hj=>?_⟩
  have hlj:=qGl hj
  have e1:(wqa (b.drop k)).length=(b.drop k).length:=wha ..
  rw [wS] at hlj
  have:=h2 j (by omega)
  rw [(hocc j).2 (by rw [qAd];exact hj)] at this
  cases this
 ·right
  have hx:ixB (b.drop k) mark=i:=h1
  have e1:(wqa (b.drop k)).length=(b.drop k).length:=wha ..
  rw [e1,wS] at h2
  refine ⟨i,?_,by omega,?_,fun j hj hh=>?_⟩
  ·rw [hF,hx,if_neg (by omega),w64 (by omega) (by omega)]
   exact congrArg some (wrb (by simp only;omega) rfl)
  ·have:=(hocc i).1 h3
   rw [qAd] at this
   exact this
  ·have:=h4 j hj
   rw [(hocc j).2 (by rw [qAd];exact hh)] at this
   cases this
theorem qyu (b:List Int) (i:Nat) (hi:i+13≤b.length) (hl:b.length≤100000):∀(d n:Nat),13 - n=d→n≤13→qAc b (i:Int) (n:Int) mark=some (decide ((b.drop (i+n)).take (13 - n)=mark.drop n))
 |0,n,hd,hn=>by
  have:n=13:=by omega
  subst this
  rw [qLc,if_neg (by decide)]
  simp [mark]
 |d+1,n,hd,hn=>by
  have hlt:i+n<b.length:=by omega
  have hm:n<mark.length:=by rw [qAd];omega
  rw [qLc]
  simp only [wj]
  rw [if_pos (by simp;omega),w64 (x:=(i:Int)+(n:Int)) (by omega) (by omega),qfa (by omega),qfa (by omega),qfa (by omega),qfa (by rw [qAd];omega),w64 (x:=(n:Int)+1) (by omega) (by omega)]
  have e1:Int.toNat ((i:Int)+(n:Int))=i+n:=by omega
  have ih:=qyu b i hi hl d (n+1) (by omega) (by omega)
  simp only [Int.natCast_add,show ((1:Nat):Int)=1 from rfl] at ih
  simp only [e1,wv,wJ]
  rw [ih]
  have g1:b.getD (i+n) 0=b[i+n]:=by simp [wu,hlt]
  have g2:mark.getD n 0=mark[n]:=by simp [wu,hm]
  rw [g1,g2,wka hlt,wka hm,show 13 - n=(13 - (n+1))+1 by omega,List.take_succ_cons]
  by_cases he:b[i+n]=mark[n]
  ·rw [if_neg (by simp [he]),he]
   congr 1
   rw [decide_eq_decide]
   exact ⟨fun h=>by rw [←h];rfl,fun h=>(List.cons.inj h).2⟩
  ·rw [if_pos (by simpa using he)]
   have:¬(b[i+n]::wL (13 - (n+1)) (wY (i+n+1) b)=mark[n]::wY (n+1) mark):=fun h=>he (List.cons.inj h).1
   rw [decide_eq_false this]
theorem quQ (b:List Int) (hl:b.length≤100000) {i:Nat} (hi:i≤b.length):qvd b i=some (decide (qUt (b.drop i))):=by
 rw [qoi]
 simp (disch:=omega) only [wj,w64 (x:=(b.length:Int) - (i:Int))]
 refine Tot.eq (ud qzj (uc (by omega) (uc (by omega) (ug (fun h=>?_) (fun h=>?_)))))
 ·refine ub ?_
  rw [decide_eq_false]
  intro hh
  have:=qGl hh
  rw [wS] at this
  omega
 ·have:=qyu b i (by omega) hl 13 0 rfl (by omega)
  rw [show ((0:Nat):Int)=0 from rfl] at this
  exact uh this rfl
theorem qRN {b:List Int} {i:Nat} (h:qUt (b.drop i)):b.getD i 0=183:=by
 have h13:=qGl h
 rw [wS] at h13
 have:((b.drop i).take 13).getD 0 0=mark.getD 0 0:=by rw [h]
 have e:(b.drop i)=b[i]'(by omega)::b.drop (i+1):=wka (by omega)
 rw [e] at this
 rw [wu,wx (by omega)]
 exact this
def pls (b:List Int):Nat→Nat→List Int
 |0,_=>[]
 |n+1,k=>if qUt (b.drop k) then (k:Int)::pls b n (k+1) else pls b n (k+1)
theorem qrq (b:List Int) (hl:b.length≤100000):∀(n k:Nat) (out:List Int),k+n=b.length→out.length≤k→qQb b (k:Int) out=some (out++pls b n k)
 |0,k,out,hk,ho=>by
  rw [qEg,if_neg (by rw [decide_eq_true_eq];simp only [wj];omega)]
  exact congrArg some (wW _).symm
 |n+1,k,out,hk,ho=>by
  rw [qEg]
  simp only [wj]
  have e:(k:Int).toNat=k:=wv k
  have e2:(k:Int)+1=((k+1:Nat):Int):=by omega
  rw [w64 (x:=(k:Int)+1) (by omega) (by omega),e,e2]
  unfold pls
  refine Tot.eq (uf (by omega) (ua (by omega) (ua (by omega) (ul (fun h=>ud (quQ b hl (by omega)) ?_) (fun h=>?_)))))
  ·by_cases hh:qUt (b.drop k)
   ·rw [decide_eq_true hh,if_pos hh]
    refine uJ (ua (by rw [wn,wy];omega) (uh (qrq b hl n (k+1) (out++[(k:Int)]) (by omega) (by rw [wn,wy];omega)) ?_))
    rw [wB];rfl
   ·rw [decide_eq_false hh,if_neg hh]
    exact uo (uh (qrq b hl n (k+1) out (by omega) (by omega)) rfl)
  ·rw [if_neg (fun hh=>h (qRN hh))]
   exact uh (qrq b hl n (k+1) out (by omega) (by omega)) rfl
theorem qvQ (b:List Int) (hl:b.length≤100000):qWg b=some (pls b b.length 0):=by
 rw [qCo]
 exact qrq b hl b.length 0 [] (by omega) (ws _)
theorem qRF (b:List Int):∀(n k:Nat) (x:Int),x∈pls b n k→∃j:Nat,x=j∧k≤j∧j<k+n∧qUt (b.drop j)
 |0,k,x,h=>by cases h
 |n+1,k,x,h=>by
  unfold pls at h
  by_cases hh:qUt (b.drop k)
  ·rw [if_pos hh] at h
   rcases wZ.1 h with rfl|h
   ·exact ⟨k,rfl,ws _,by omega,hh⟩
   ·obtain ⟨j,a,c,d,e⟩:=qRF b n (k+1) x h
    exact ⟨j,a,by omega,by omega,e⟩
  ·rw [if_neg hh] at h
   obtain ⟨j,a,c,d,e⟩:=qRF b n (k+1) x h
   exact ⟨j,a,by omega,by omega,e⟩
def fm (b:List Int):Nat→Nat→Option Nat
 |0,_=>none
 |n+1,k=>if qUt (b.drop k) then some k else fm b n (k+1)
theorem qLk {b:List Int}:∀{n k j:Nat},fm b n k=some j→k≤j∧j<k+n∧qUt (b.drop j)∧∀i,k≤i→i<j→¬qUt (b.drop i)
 |0,k,j,h=>by cases h
 |n+1,k,j,h=>by
  simp only [fm] at h
  split at h
  ·rename_i h1
   simp only [wc] at h;subst h
   exact ⟨ws _,by omega,h1,fun i h1 h2=>by omega⟩
  ·rename_i h1
   obtain ⟨a,b1,c,d⟩:=qLk h
   refine ⟨by omega,by omega,c,fun i h2 h3=>?_⟩
   by_cases e:i=k
   ·subst e;exact h1
   ·exact d i (by omega) h3
theorem qTB {b:List Int}:∀{n k:Nat},fm b n k=none→∀i,k≤i→i<k+n→¬qUt (b.drop i)
 |0,k,h,i,h1,h2=>by omega
 |n+1,k,h,i,h1,h2=>by
  simp only [fm] at h
  split at h
  ·cases h
  ·rename_i h3
   by_cases e:i=k
   ·subst e;exact h3
   ·exact qTB h i (by omega) (by omega)
def fmR:Option Nat→Int×Int
 |some j=>((j:Int),0)
 |none=>(0,6)
theorem qYM {b:List Int} (hb:Bts b) (hl:b.length≤50000) {k:Nat} (hk:k≤b.length):qQf b k=some (fmR (fm b (b.length+1 - k) k)):=by
 rcases qXM hb hl hk with ⟨h1,h2⟩|⟨i,h1,h2,h3,h4⟩
 ·rw [h1]
  cases h:fm b (b.length+1 - k) k with
  |none=>rfl
  |some j=>
   obtain ⟨a,_,c,_⟩:=qLk h
   have:=h2 (j - k)
   rw [wda,show k+(j - k)=j by omega] at this
   exact absurd c this
 ·rw [h1]
  rw [wda] at h3
  cases h:fm b (b.length+1 - k) k with
  |none=>exact absurd h3 (qTB h (k+i) (by omega) (by omega))
  |some j=>
   obtain ⟨a,_,c,d⟩:=qLk h
   have e:j=k+i:=by
    rcases Nat.lt_trichotomy j (k+i) with hlt|heq|hgt
    ·have:=h4 (j - k) (by omega)
     rw [wda,show k+(j - k)=j by omega] at this
     exact absurd c this
    ·exact heq
    ·exact absurd h3 (d (k+i) (by omega) hgt)
   rw [e];rfl
def mks (b:List Int):Nat→Option Nat→List Int
 |0,_=>[]
 |_+1,none=>[]
 |n+1,some j=>(j:Int)::mks b n (fm b (b.length+1 - (j+13)) (j+13))
theorem qtP {b:List Int} (hb:Bts b) (hl:b.length≤50000):∀(n:Nat) (o:Option Nat) (out:List Int),(∀j,o=some j→qUt (b.drop j)∧b.length<j+n)→out.length+n≤100000→
  qHh b (fmR o).1 (fmR o).2 out=some (out++mks b n o,0)
 |n,none,out,h,ho=>by
  rw [qoo,if_neg (by show ¬((6:Int)==0)=true;decide)]
  cases n <;> simp [mks]
 |0,some j,out,h,ho=>by
  obtain ⟨h1,h2⟩:=h j rfl
  have:=qGl h1
  rw [wS] at this
  omega
 |n+1,some j,out,h,ho=>by
  obtain ⟨h1,h2⟩:=h j rfl
  have h3:=qGl h1
  rw [wS] at h3
  have hF:=qYM hb hl (k:=j+13) (by omega)
  have ih:=qtP hb hl n (fm b (b.length+1 - (j+13)) (j+13)) (out++[(j:Int)]) (fun j' hj'=>by
   obtain ⟨a1,a2,a3,a4⟩:=qLk hj'
   exact ⟨a3,by omega⟩) (by rw [wn,wy];omega)
  rw [qoo,if_pos (by show ((0:Int)==0)=true;decide)]
  show gd _ _=_
  rw [qfa (by rw [wn,wy];omega)]
  show (qQf b (wd .i64 ((j:Int)+13))).bind _=_
  rw [w64 (by omega) (by omega),show (j:Int)+13=((j+13:Nat):Int) by omega,hF]
  show qHh b (fmR _).1 (fmR _).2 (out++[(j:Int)])=_
  rw [ih,mks,wB]
  rfl
def qzD (b:List Int):List Int:=mks b (b.length+1) (fm b (b.length+1) 0)
theorem qvO {b:List Int} (hb:Bts b) (hl:b.length≤50000):qiq b=some (qzD b,0):=by
 have hchk:qZg b 0=some 0:=by
  rw [qGk]
  simp only [wj]
  exact Tot.eq (uc (by omega) (uc (by omega) (uc (by omega) (ub rfl))))
 have hF:=qYM hb hl (k:=0) (Nat.zero_le _)
 rw [wEa] at hF
 have h1:=qtP hb hl (b.length+1) (fm b (b.length+1) 0) [] (fun j hj=>by
  obtain ⟨a1,a2,a3,a4⟩:=qLk hj
  exact ⟨a3,by omega⟩) (by simp;omega)
 rw [qEB]
 refine Tot.eq (ud hchk (ue rfl (ud hF (uh h1 ?_))))
 rw [wV];rfl
def qiG (p:qca):List qca→Nat→Option Nat
 |[],_=>none
 |x::r,i=>if peq qja p x=true then some i else qiG p r (i+1)
theorem qLL {p:qca}:∀{l:List qca} {i j:Nat},qiG p l i=some j→i≤j∧j<i+l.length
 |[],i,j,h=>by cases h
 |x::r,i,j,h=>by
  simp only [qiG] at h
  split at h
  ·simp only [wc] at h;subst h;simp
  ·have:=qLL h
   simp only [wz];omega
def qsS:Option Nat→Int
 |some i=>i
 |none=>-1
theorem qjF (ps:List qca) (hl:ps.length≤100000) (p:qca):∀(k i:Nat),i+k=ps.length→qrb ps (ps.length:Int) (i:Int) p=some (qsS (qiG p (ps.drop i) i))
 |0,i,e=>by
  rw [qVc,if_neg (by simp;omega),wK (by omega)];rfl
 |k+1,i,e=>by
  have hd:=qVa (qra qja:qca) (xs:=ps) (i:=i) (by omega)
  have ih:=qjF ps hl p k (i+1) (by omega)
  rw [show ((i+1:Nat):Int)=(i:Int)+1 by omega] at ih
  rw [qVc,hd.1,qiG]
  simp only [wj,wv]
  rw [w64 (x:=(i:Int)+1) (by omega) (by omega),ih]
  refine Tot.eq (uf (by omega) (ua (by omega) (ua (by omega) ?_)))
  exact uk (fun h=>ub (by rw [if_pos h];rfl)) (fun h=>ub (by rw [if_neg h]))
theorem qwQ (ps:List qca) (hl:ps.length≤100000) (p:qca):qyc ps p=some (qsS (qiG p ps 0)):=by
 rw [qMg]
 exact qjF ps hl p ps.length 0 (by omega)
def qOO (h:qga):qca:=(h.2.1,(h.2.2.1,(h.2.2.2.1,())))
theorem qTD (a:List Int) (rs:List qba) (hl:rs.length≤16) (s8 s9 s10:qha) (g13:List qba) (g14:List qca) (g15:List Int) (g16:List qca) (g17:List Int) {r:qig×Int}
  (hk:((qaj (szs rs) s9.2.1).bind fun (r2:(List qca×Int))=>(qIc [(3:Int)] (wi (we r2.1))).bind fun (r3:(List Int))=>(qiq a).bind fun (r4:(List Int×Int))=>
   qac a (wi (we r4.1)) 0 s8 () s9 s10 () r4.1 g13 g14 g15 rs r2.1 r3)=some r):∀(k i:Nat),i+k=rs.length→
  qFg a (rs.length:Int) (i:Int) s8 () s9 s10 () (szs (rs.take i)) rs g13 g14 g15 g16 g17=some r
 |0,i,e=>by
  rw [qik,if_neg (by simp;omega),wQ (by omega)]
  exact hk
 |k+1,i,e=>by
  have ih:=qTD a rs hl s8 s9 s10 g13 g14 g15 g16 g17 hk k (i+1) (by omega)
  have hd:=qVa (qra qla:qba) (xs:=rs) (i:=i) (by omega)
  have hs:szs (rs.take (i+1))=szs (rs.take i)++[(rs.getD i (qra qla)).2.1]:=by
   rw [hd.2.1];unfold szs;rw [wBa];rfl
  rw [hs,show ((i+1:Nat):Int)=(i:Int)+1 by omega] at ih
  rw [qik]
  simp only [wj,wJ,wv]
  rw [w64 (x:=(i:Int)+1) (by omega) (by omega)]
  have hln:(szs (rs.take i)).length=i:=by unfold szs;rw [wha,wM];omega
  exact Tot.eq (uf (by omega) (ua (by omega) (ua (by omega) (ua (by rw [wn,wy,hln];omega) (uh ih rfl)))))
theorem quJ {a:List Int} {e:Int} (hb:Bts a) (h:(hdP a).2.2.2=e) (he:e≠0):qFe a=some (((0,(0,())),([],([],([],())))),e):=by
 rw [qdo,qdf a hb]
 subst h
 exact Tot.eq (ud rfl (ui (fun _=>ub rfl) (fun k=>absurd k he)))
end Go.Ab

/-
  VerifyFine: what is looked at, whatever the blocks' modes.
-/
set_option linter.unusedVariables false
set_option linter.unusedSimpArgs false
set_option maxRecDepth 100000
namespace Go.Ab
open Go
attribute [local irreducible] IntKind.wrap
def qjS (a0 a1:Int):Int×Int:=((wd .u64 ((wd .u64 ((wd .u64 ((wR a0 4294967296)*(wR a1 4294967296)))+(wR (wd .u64 ((wd .u64 ((wR a0 4294967296)*(qUa .u64 a1 4294967295)))+(wR (wd .u64 ((qUa .u64 a0 4294967295)*(qUa .u64 a1 4294967295))) 4294967296))) 4294967296)))+(wR (wd .u64 ((qUa .u64 (wd .u64 ((wd .u64 ((wR a0 4294967296)*(qUa .u64 a1 4294967295)))+(wR (wd .u64 ((qUa .u64 a0 4294967295)*(qUa .u64 a1 4294967295))) 4294967296))) 4294967295)+(wd .u64 ((qUa .u64 a0 4294967295)*(wR a1 4294967296))))) 4294967296))),(wd .u64 (a0*a1)))
theorem qKS (a0 a1:Int):qeg a0 a1=some (qjS a0 a1):=by
 rw [qmo,qzl]
 exact Tot.eq (ud (v:=qjS a0 a1) (Tot.eq (ua (by decide) (ua (by decide) (ua (by decide) (ua (by decide) (ua (by decide) (ub rfl))))))) (ub rfl))
theorem qcR:∀n:Nat,n<601→qjS 1 (n:Int)=((0:Int),(n:Int)):=by decide+kernel
theorem qMQ (n:Nat) (h:n<601):wd .u64 (n:Int)=(n:Int):=by
 rw [qNR];omega
theorem qEO (n:Nat) (hn:n≤600):∀(k m:Nat),n - m≤k→1≤m→m≤n→qnc (m:Int) (wl m 3++wl (n - m) 0)=some (wl n 3)
 |0,m,hk,h1,h2=>by
  have:m=n:=by omega
  subst this
  rw [qMb,if_neg (by simp),wGa,List.replicate_zero,wW]
 |k+1,m,hk,h1,h2=>by
  by_cases he:m=n
  ·subst he
   rw [qMb,if_neg (by simp),wGa,List.replicate_zero,wW]
  ·have ih:=qEO n hn k (m+min m (n - m)) (by omega) (by omega) (by omega)
   have hl:(wl m (3:Int)++wl (n - m) 0).length=n:=by rw [wn,wP,wP];omega
   have ht:(wl m (3:Int)++wl (n - m) 0).take m=wl m 3:=by rw [List.take_left' wP]
   rw [qMb]
   simp only [wj,wv,wJ,wea,wEa,hl,ht,wP]
   rw [w64 (x:=(m:Int)+((min m (n - m):Nat):Int)) (by omega) (by omega),show (m:Int)+((min m (n - m):Nat):Int)=((m+min m (n - m):Nat):Int) by omega]
   have hsp:qsb (wl m (3:Int)++wl (n - m) 0) m (wL (min m (n - m)) (wl m 3))=wl (m+min m (n - m)) 3++wl (n - (m+min m (n - m))) 0:=by
    unfold qsb
    rw [ht,List.take_replicate,wP,List.replicate_append_replicate,List.drop_append,wP,wK (by rw [wP];omega),wV,List.drop_replicate]
    congr 2 <;> omega
   rw [hsp]
   exact Tot.eq (uf (by omega) (ua (by omega) (ua (by omega) (ua (by omega) (ua (by omega) (uh ih rfl))))))
theorem qjT (n:Nat) (hn:n≤600):qIc [(3:Int)] (n:Int)=some (wl n 3):=by
 rw [qNj]
 have h1:wd .u64 (wi [(3:Int)].length)=1:=by decide+kernel
 have hw:wd .i64 (n:Int)=(n:Int):=w64 (by omega) (by omega)
 rw [h1,qMQ n (by omega),qKS,qcR n (by omega)]
 refine Tot.eq (uc (by omega) (ud rfl (uc (show ¬(0:Int)>0 by decide) (uc (by show ¬(n:Int)>9223372036854775807;omega) ?_))))
 simp only [hw,wv,wP,wy]
 refine ua trivial (ua (by omega) (ua (by omega) (ua (by omega) ?_)))
 by_cases h0:n=0
 ·subst h0
  rw [qMb]
  exact uc (by decide) (ub (by unfold qsb;rfl))
 ·have e:qsb (wl n (0:Int)) 0 (wL (min 1 n) [3])=wl 1 3++wl (n - 1) 0:=by
   unfold qsb
   rw [wfb (by omega),List.drop_replicate];rfl
  rw [e,wfb (by omega)]
  exact uh (qEO n hn n 1 (by omega) (by omega) (by omega)) rfl
theorem qUK {a:List Int} (hb:Bts a) (h:(rdK a).2.2=0):hOK (rdK a).1.1∧bC (rdK a).1=0∧Bts (rdK a).1.2.1:=by
 rw [qmB] at h ⊢
 obtain ⟨k1,k2,k3,k4,k5,k6,k7⟩:=qwD h
 have hl:=qKk k1
 rw [k2] at k3
 have hlen:(((rdB a).1.2.1.length:Nat):Int)=(rdB a).1.1.2.2.2.2.1:=by
  have h0:(rdB a).1.2.1=(a.drop 41).take (rdB a).1.1.2.2.2.2.1.toNat:=by
   conv=>lhs;rw [k7]
   conv=>rhs;rw [k7]
  rw [h0,wM,wS]
  omega
 refine ⟨k1,?_,?_⟩
 ·unfold bC;rw [if_pos ⟨k1,hlen⟩]
 ·rw [k7];exact (hb.drop _).take _
noncomputable def vsG (lv:Int) (a:List Int) (ps:List qca) (st:List Int) (x:Int):List Int:=
 if (rdK (a.drop x.toNat)).2.2≠0 then st else
 match qiG (qOO (rdK (a.drop x.toNat)).1.1) ps 0 with
 |none=>st
 |some i=>if st.getD i 0=1 then st else if (qos lv (rdK (a.drop x.toNat)).1).2=0 then (st.set i 2).set i 1 else st.set i 2
theorem qmK {lv:Int} {a:List Int} {ps:List qca} {st:List Int} {x:Int}:(vsG lv a ps st x).length=st.length:=by
 unfold vsG
 split
 ·rfl
 ·split
  ·rfl
  ·split
   ·rfl
   ·split <;> simp
theorem qEA (a:List Int) (hb:Bts a) (P:List Int) (hP:∀x∈P,0≤x∧x≤(a.length:Int)) (hPl:P.length≤100000) (ps:List qca) (hps:ps.length≤100000) (s8:qha) (s9:qha) (s10:qha) (g12:List qba) (g13:List qca) (g14:List Int) (g15:List qba):
  ∀(k i:Nat) (st:List Int),i+k=P.length→st.length=ps.length→qac a (P.length:Int) (i:Int) s8 () s9 s10 () P g12 g13 g14 g15 ps st=some ((s10,(g15,(ps,((P.drop i).foldl (vsG s9.1 a ps) st,())))),0)
 |0,i,st,e,hs=>by
  rw [qhk,if_neg (by simp;omega),wK (by omega)];rfl
 |k+1,i,st,e,hs=>by
  have hd:=qVa (0:Int) (xs:=P) (i:=i) (by omega)
  obtain ⟨x1,x2⟩:=hP _ hd.2.2
  have ih:=fun st hs=>qEA a hb P hP hPl ps hps s8 s9 s10 g12 g13 g14 g15 k (i+1) st (by omega) hs
  rw [show ((i+1:Nat):Int)=(i:Int)+1 by omega] at ih
  rw [hd.1,List.foldl_cons,qhk]
  simp only [wj,wJ,wv]
  rw [w64 (x:=(i:Int)+1) (by omega) (by omega)]
  generalize hx:P.getD i 0=x at*
  have hrd:=qGp (a.drop x.toNat) (hb.drop _)
  refine Tot.eq (uf (by omega) (ua (by omega) (ua (by omega) (ua x1 (ua x2 (ud hrd ?_))))))
  refine ui (fun h=>?_) (fun h=>?_)
  ·refine uh (ih st hs) ?_
   unfold vsG;rw [if_pos h]
  ·have hv:vsG s9.1 a ps st x=match qiG (qOO (rdK (a.drop x.toNat)).1.1) ps 0 with
    |none=>st
    |some i=>if st.getD i 0=1 then st else if (qos s9.1 (rdK (a.drop x.toNat)).1).2=0 then (st.set i 2).set i 1 else st.set i 2:=by
    unfold vsG;rw [if_neg (fun k=>k h)]
   have hraw:=(qsH (lv:=s9.1) (qUK (hb.drop x.toNat) h)).1
   refine ud (qwQ ps hps (qOO (rdK (a.drop x.toNat)).1.1)) ?_
   cases hi:qiG (qOO (rdK (a.drop x.toNat)).1.1) ps 0 with
   |none=>
    rw [hi] at hv
    refine uf (by show (-1:Int)<0;decide) (uh (ih st hs) ?_)
    rw [hv]
   |some j=>
    rw [hi] at hv
    have hj:=qLL hi
    simp only at hv
    have e1:qsS (some j)=(j:Int):=rfl
    rw [e1]
    simp only [wv]
    refine uc (by omega) (ua (by omega) (ua (by omega) ?_))
    by_cases h1:st.getD j 0=1
    ·rw [if_pos h1] at hv
     rw [if_pos (beq_iff_eq.2 h1)]
     refine uh (ih st hs) ?_
     rw [hv]
    ·rw [if_neg h1] at hv
     refine uv (by rw [beq_iff_eq];exact h1) (ua (by omega) (ua (by omega) (ud hraw ?_)))
     by_cases hr:(qos s9.1 (rdK (a.drop x.toNat)).1).2=0
     ·rw [if_pos hr] at hv
      refine un (by rw [beq_iff_eq];exact hr) (ua (by omega) (ua (by omega) (uh (ih _ (by simp [hs])) ?_)))
      rw [hv]
     ·rw [if_neg hr] at hv
      refine uv (by rw [beq_iff_eq];exact hr) (uh (ih _ (by simp [hs])) ?_)
      rw [hv]
noncomputable def stG (lv:Int) (a:List Int) (ps:List qca):List Int:=(qzD a).foldl (vsG lv a ps) (wl ps.length 3)
theorem qTO {b:List Int}:∀{n:Nat} {o:Option Nat},(∀j,o=some j→j≤b.length)→∀x∈mks b n o,0≤x∧x≤(b.length:Int)
 |0,_,_,x,hx=>by cases hx
 |n+1,none,_,x,hx=>by cases hx
 |n+1,some j,h,x,hx=>by
  rw [mks] at hx
  rcases wZ.1 hx with rfl|hx
  ·have:=h j rfl;omega
  ·exact qTO (fun i hi=>by have f:=qLk hi;have:=f.1;have:=f.2.1;omega) x hx
theorem qvL {b:List Int}:∀{n:Nat} {o:Option Nat},(mks b n o).length≤n
 |0,_=>ws _
 |n+1,none=>Nat.zero_le _
 |n+1,some j=>by rw [mks,wz];have:=qvL (b:=b) (n:=n) (o:=fm b (b.length+1 - (j+13)) (j+13));omega
theorem qNP (b:List Int):∀x∈qzD b,0≤x∧x≤(b.length:Int):=qTO fun j hj=>by have:=(qLk hj).2.1;omega
theorem qcG {a:List Int} {s:qha} {rs:List qba} {n:Int} (hb:Bts a) (hl:a.length≤50000) (h:hdP a=(s,(rs,(n,0)))) (hs:16≤s.2.1∧s.2.1≤4096) (hv:qtf rs=0):
  qFe a=some ((s,(rs,(ap s.2.1 0 rs,(stG s.1 a (ap s.2.1 0 rs),())))),0):=by
 have hR:=qCc hv
 have hcnt:=qCI s.2.1 hs.1 rs 0 (fun r hr=>(hR.each r hr).1)
 have hl16:=hR.len
 have ht:=hR.tot
 have hps:(ap s.2.1 0 rs).length≤600:=by omega
 have hpl:(qzD a).length≤100000:=by have:=qvL (b:=a) (n:=a.length+1) (o:=fm a (a.length+1) 0);unfold qzD;omega
 have h2:=qEA a hb (qzD a) (qNP a) hpl (ap s.2.1 0 rs) (by omega) (0,(0,())) s s [] [] [] rs (qzD a).length 0 (wl (ap s.2.1 0 rs).length 3) (by omega) (by simp)
 have h1:=qTD a rs hR.len (0,(0,())) s s [] [] [] [] [] (r:=((s,(rs,(ap s.2.1 0 rs,(stG s.1 a (ap s.2.1 0 rs),())))),0)) (by
  refine Tot.eq (ud (qUy _ rs hs hR) (ud (qjT _ hps) (ud (qvO hb hl) (uh h2 ?_))))
  rfl) rs.length 0 (by omega)
 rw [List.take_zero] at h1
 rw [qdo,qdf a hb,h]
 exact Tot.eq (ud rfl (ue rfl (uh (r:=((s,(rs,(ap s.2.1 0 rs,(stG s.1 a (ap s.2.1 0 rs),())))),0)) h1 rfl)))
theorem qrJ:∀k:Nat,k<13→1≤k→mark.drop k≠mark.take (13 - k):=by decide+kernel
theorem qBJ {b:List Int} {j p:Nat} (h1:qUt (b.drop j)) (h2:qUt (b.drop p)) (h:j<p):j+13≤p:=by
 refine Nat.le_of_not_lt fun hlt=>?_
 refine qrJ (p - j) (by omega) (by omega) ?_
 have e1:mark.drop (p - j)=((b.drop p).take (13 - (p - j))):=by
  rw [←h1,List.drop_take,wda,show j+(p - j)=p by omega]
 rw [e1]
 conv=>rhs;rw [←h2]
 rw [List.take_take,wfb (by omega)]
theorem qwL {b:List Int}:∀{n:Nat} {o:Option Nat} {p:Nat},(∀j,o=some j→qUt (b.drop j)∧b.length<j+n)→qUt (b.drop p)→(match o with|some j=>j≤p|none=>False)→(p:Int)∈mks b n o
 |_,none,p,_,_,h=>h.elim
 |0,some j,p,ho,hp,h=>by
  have h1:=(ho j rfl).2
  have:=qGl hp
  rw [wS] at this
  have h:j≤p:=h
  omega
 |n+1,some j,p,ho,hp,h=>by
  have h:j≤p:=h
  obtain ⟨h1,h2⟩:=ho j rfl
  rw [mks]
  rcases Nat.eq_or_lt_of_le h with rfl|hlt
  ·exact wT ..
  ·have h13:=qBJ h1 hp hlt
   have hpl:=qGl hp
   rw [wS] at hpl
   refine wO _ (qwL (fun i hi=>?_) hp ?_)
   ·obtain ⟨f1,f2,f3,f4⟩:=qLk hi
    exact ⟨f3,by omega⟩
   ·cases hf:fm b (b.length+1 - (j+13)) (j+13) with
    |none=>exact absurd hp (qTB hf p h13 (by omega))
    |some i=>
     obtain ⟨f1,f2,f3,f4⟩:=qLk hf
     refine Nat.le_of_not_lt fun hlt=>f4 p h13 hlt hp
theorem qzN {b:List Int} {p:Nat} (hp:qUt (b.drop p)):(p:Int)∈qzD b:=by
 have hpl:=qGl hp
 rw [wS] at hpl
 refine qwL (fun j hj=>?_) hp ?_
 ·obtain ⟨f1,f2,f3,f4⟩:=qLk hj
  exact ⟨f3,by omega⟩
 ·cases hf:fm b (b.length+1) 0 with
  |none=>exact absurd hp (qTB hf p (Nat.zero_le _) (by omega))
  |some i=>
   obtain ⟨f1,f2,f3,f4⟩:=qLk hf
   exact Nat.le_of_not_lt fun hlt=>f4 p (Nat.zero_le _) hlt hp
end Go.Ab

/-
  VerifyFine: what was extracted is fine; the examples; the law.
-/
set_option linter.unusedVariables false
set_option linter.unusedSimpArgs false
set_option maxRecDepth 100000
namespace Go.Ab
open Go
attribute [local irreducible] IntKind.wrap
def ltP (p q:qca):Prop:=p.1<q.1∨(p.1=q.1∧p.2.1+p.2.2.1≤q.2.1)
theorem qNO (i n s:Int) (hs:1≤s):∀(k:Nat) (off:Int),0≤off→(pcs i n s k off).Pairwise ltP
 |0,off,h=>List.Pairwise.nil
 |k+1,off,h=>by
  rw [pcs]
  split
  ·refine List.pairwise_cons.2 ⟨fun q hq=>?_,qNO i n s hs k (off+s) (by omega)⟩
   obtain ⟨h1,h2,_⟩:=qBH i n s hs k (off+s) (by omega) q hq
   refine .inr ⟨h1.symm,?_⟩
   show off+(if s<n - off then s else n - off)≤q.2.1
   split <;> omega
  ·exact List.Pairwise.nil
theorem qIR (s:Int) (hs:1≤s):∀(rs:List qba) (i:Int),(ap s i rs).Pairwise ltP
 |[],i=>List.Pairwise.nil
 |r::rs,i=>by
  rw [ap,List.pairwise_append]
  refine ⟨qNO i r.2.1 s hs 8200 0 (by omega),qIR s hs rs (i+1),fun p hp q hq=> .inl ?_⟩
  have h1:=(qBH i r.2.1 s hs 8200 0 (by omega) p hp).1
  have h2:=(qhO s hs rs (i+1) q hq).1.1
  omega
theorem qfN {lv:Int} {a:List Int} {ps:List qca} {st:List Int} {x:Int} {i:Nat} (h:st.getD i 0=1):(vsG lv a ps st x).getD i 0=1:=by
 unfold vsG
 split
 ·exact h
 ·split
  ·exact h
  ·rename_i j hj
   split
   ·exact h
   ·rename_i h1
    have hne:j≠i:=fun e=>h1 (e▸h)
    split
    ·rw [getD_set_ne hne,getD_set_ne hne];exact h
    ·rw [getD_set_ne hne];exact h
theorem qiE {lv:Int} {a:List Int} {ps:List qca} {i:Nat}:∀(P:List Int) (st:List Int),st.getD i 0=1→(P.foldl (vsG lv a ps) st).getD i 0=1
 |[],st,h=>h
 |x::P,st,h=>qiE P _ (qfN h)
theorem qgI {lv:Int} {a:List Int} {ps:List qca} {i:Nat} {x:Int} (h1:(rdK (a.drop x.toNat)).2.2=0) (h2:qiG (qOO (rdK (a.drop x.toNat)).1.1) ps 0=some i) (h3:(qos lv (rdK (a.drop x.toNat)).1).2=0):∀(P:List Int) (st:List Int),i<st.length→x∈P→(P.foldl (vsG lv a ps) st).getD i 0=1
 |[],_,_,h=>by cases h
 |y::P,st,hi,h=>by
  rcases wZ.1 h with rfl|h
  ·rw [List.foldl_cons]
   refine qiE P _ ?_
   unfold vsG
   rw [if_neg (fun k=>k h1),h2]
   simp only
   by_cases h0:st.getD i 0=1
   ·rw [if_pos h0];exact h0
   ·rw [if_neg h0,if_pos h3]
    exact qUg (by rw [wia];exact hi)
  ·rw [List.foldl_cons]
   exact qgI h1 h2 h3 P _ (by rw [qmK];exact hi) h
theorem qyK {a:List Int} {e:Nat}:∀{hs:List qga} {bs:List qda} {p:Nat},Std a e p hs bs→∀i,i<bs.length→∃x:Nat,qUt (a.drop x)∧(rdK (a.drop x)).2.2=0∧(rdK (a.drop x)).1=bs.getD i (qra qpa)
 |[],[],_,_,i,hi=>by cases hi
 |[],_::_,_,h,_,_=>h.elim
 |_::_,[],_,h,_,_=>h.elim
 |g::hs,x::bs,p,⟨h1,h2,h3,h4,h5⟩,i,hi=>by
  cases i with
  |zero=>
   obtain ⟨k1,k2,k3,k4,k5,k6,k7⟩:=qwD (c:=a.drop p) (by rw [h1])
   exact ⟨p,k6,by rw [qmB,h1],by rw [qmB,h1];rfl⟩
  |succ i=>exact qyK h5 i (by simpa using hi)
theorem qML:∀{ps:List qca} {i i0:Nat},ps.Pairwise (·≠·)→i<ps.length→qiG (ps.getD i (qra qja)) ps i0=some (i0+i)
 |[],_,_,_,h=>by cases h
 |p::ps,0,i0,_,_=>by
  rw [qiG,List.getD_cons_zero,if_pos (by simp [peq])];rfl
 |p::ps,i+1,i0,hp,h=>by
  rw [List.pairwise_cons] at hp
  have hi:i<ps.length:=by simpa using h
  have hm:ps.getD i (qra qja)∈ps:=qPa (P:=fun x=>x∈ps) (fun x hx=>hx) i hi
  have hne:¬peq qja (ps.getD i (qra qja)) p=true:=fun hc=>by
   refine hp.1 _ hm ?_
   generalize ps.getD i (qra qja)=y at hc
   obtain ⟨y1,y2,y3,y4⟩:=y
   obtain ⟨p1,p2,p3,p4⟩:=p
   simp [peq] at hc
   obtain ⟨e1,e2,e3⟩:=hc
   rw [e1,e2,e3]
  rw [qiG,List.getD_cons_succ,if_neg hne,qML hp.2 hi]
  congr 1;omega
theorem qeR {ps:List qca} (h:ps.Pairwise ltP) (h2:∀p∈ps,1≤p.2.2.1):ps.Pairwise (·≠·):=by
 refine List.Pairwise.imp_of_mem (fun {p q} hp hq hlt=>?_) h
 rintro rfl
 have:=h2 p hp
 rcases hlt with h|⟨_,h⟩ <;> omega
theorem qzP {a:List Int} {l:qCa} {bs:List qda} (hb:Bts a) (h:Opd a l bs) (hok:∀b∈bs,(qos l.1.1 b).2=0):∀i,i<(ap l.1.2.1 0 l.2.1).length→(stG l.1.1 a (ap l.1.2.1 0 l.2.1)).getD i 0=1:=fun i hi=>by
 have h0:(qnt a).2.2=0:=by rw [h.eq]
 obtain ⟨rs,q,hs,bs',hO⟩:=qNC hb h0
 have he:=hO.eq
 rw [h.eq] at he
 have hbs:bs=bs':=(Prod.mk.inj (Prod.mk.inj he).2).1
 subst hbs
 have hpc:=h.pcs_
 have hbl:bs.length=(ap l.1.2.1 0 l.2.1).length:=by rw [←hpc,wha]
 obtain ⟨x,x1,x2,x3⟩:=qyK hO.std i (by omega)
 have hpw:=qeR (qIR l.1.2.1 (by have:=h.bk.1;omega) l.2.1 0) (fun p hp=>(qhO l.1.2.1 (by have:=h.bk.1;omega) l.2.1 0 p hp).1.2.2.2.1)
 have hpi:qOO (rdK (a.drop x)).1.1=(ap l.1.2.1 0 l.2.1).getD i (qra qja):=by
  rw [x3,←hpc,qCL (d:=qra qpa) (by omega)];rfl
 have hidx:=qML (i0:=0) hpw hi
 rw [wJ] at hidx
 unfold stG
 exact qgI (x:=(x:Int)) (by rw [wv];exact x2) (by rw [wv,hpi];exact hidx) (by rw [wv,x3];exact hok _ (qPa (P:=fun b=>b∈bs) (fun b hb=>hb) i (by omega))) (qzD a) _ (by rw [wP];exact hi) (qzN x1)
theorem qAK {lv:Int} {a:List Int} {ps:List qca}:(stG lv a ps).length=ps.length:=by
 have key:∀(P st:List Int),(P.foldl (vsG lv a ps) st).length=st.length:=fun P=>by
  induction P with
  |nil=>intro st;rfl
  |cons x P ih=>intro st;rw [List.foldl_cons,ih,qmK]
 unfold stG
 rw [key,wP]
theorem qJI (st:List Int) (hl:st.length≤100000):∀(k i:Nat),i+k=st.length→Tot (qtb st (st.length:Int) (i:Int)) fun r=>(∀j,i≤j→j<st.length→st.getD j 0=1)→r=-1
 |0,i,e=>by
  rw [qdd]
  exact uc (by omega) (ub (fun _=>rfl))
 |k+1,i,e=>by
  have ih:=qJI st hl k (i+1) (by omega)
  rw [show ((i+1:Nat):Int)=(i:Int)+1 by omega] at ih
  rw [qdd]
  simp only [wj,wv]
  rw [w64 (x:=(i:Int)+1) (by omega) (by omega)]
  refine uf (by omega) (ua (by omega) (ua (by omega) (ud (qpt _) (uk (fun h=>ub (fun hall=>?_)) (fun _=>ih.mono (fun r hr hall=>hr (fun j h1 h2=>hall j (by omega) h2)))))))
  have:=hall i (ws _) (by omega)
  rw [this] at h
  exact absurd h (by decide)
theorem qxQ {a:List Int} {l:qig} (hl:l.2.2.2.1.length≤100000) (h:qFe a=some (l,0)):Tot (qdl a) fun r=>(∀j,j<l.2.2.2.1.length→l.2.2.2.1.getD j 0=1)→r.2=6:=by
 rw [qDo]
 refine ud h (ue rfl (Tot.b (P:=fun r=>(∀j,0≤j→j<l.2.2.2.1.length→l.2.2.2.1.getD j 0=1)→r=-1) ?_ (fun r hr=>ug (fun _=>ub (fun _=>rfl)) (fun k=>ub (fun hall=>absurd (hr (fun j _ hj=>hall j hj)) (by omega))))))
 rw [qlh]
 exact qJI _ hl _ 0 (wJ _)
theorem qyQ {a:List Int} {l:qig} {e:Int} (he:e≠0) (h:qFe a=some (l,e)):qdl a=some (0,e):=by
 rw [qDo]
 exact Tot.eq (ud h (ui (fun _=>ub rfl) (fun k=>absurd k he)))
theorem qaH {a:List Int} (hb:Bts a) (hl:a.length≤50000):qud a=some (rdB a):=by
 have h:=qTw a hb
 rw [qLj,if_neg (by simp;omega)] at h
 cases hB:qud a with
 |none=>rw [hB] at h;cases h
 |some r=>rw [hB] at h;exact h
theorem qbN {a:List Int} (hb:Bts a) (hl:a.length≤50000) (P:List Int) (hP:∀x∈P,0≤x∧x≤(a.length:Int)) (hPl:P.length≤100000):∀(k i:Nat) (out:List qda),i+k=P.length→out.length≤i→Tot (qOb a (i:Int) out P) fun r=>r.length≤100000
 |0,i,out,e,ho=>by
  rw [qbf]
  exact uc (by simp;omega) (ub (by omega))
 |k+1,i,out,e,ho=>by
  have hd:=qVa (0:Int) (xs:=P) (i:=i) (by omega)
  obtain ⟨x1,x2⟩:=hP _ hd.2.2
  have ih:=fun out ho=>qbN hb hl P hP hPl k (i+1) out (by omega) ho
  rw [show ((i+1:Nat):Int)=(i:Int)+1 by omega] at ih
  rw [qbf]
  simp only [wj,wv,wJ]
  rw [w64 (x:=(i:Int)+1) (by omega) (by omega)]
  refine uf (by omega) (ua (by omega) (ua (by omega) (ua x1 (ua x2 (ud (qaH (hb.drop _) (by rw [wS];omega)) (uk (fun _=>ua ?_ (ih _ ?_)) (fun _=>ih _ (by omega))))))))
  ·rw [wn,wy];omega
  ·rw [wn,wy];omega
theorem qjI (a:List Int) (L:List qda) (hL:L.length≤100000):∀(k i:Nat) (acc:Int),i+k=L.length→Tot (qwd a acc (i:Int) L) fun g=>g=true→a.length≤3000
 |0,i,acc,e=>by
  rw [qpi]
  simp only [wj]
  exact uc (by omega) (ug (fun h=>ub (fun _=>by omega)) (fun _=>ub (fun h=>by cases h)))
 |k+1,i,acc,e=>by
  have ih:=fun acc=>qjI a L hL k (i+1) acc (by omega)
  rw [show ((i+1:Nat):Int)=(i:Int)+1 by omega] at ih
  rw [qpi]
  simp only [wj,wv]
  rw [w64 (x:=(i:Int)+1) (by omega) (by omega)]
  exact uf (by omega) (ua (by omega) (ua (by omega) (uk (fun _=>ua (by omega) (ua (by omega) (ih _))) (fun _=>ih _))))
theorem qSF (b:List Int):∀(n k:Nat),(pls b n k).length≤n
 |0,_=>ws _
 |n+1,k=>by
  rw [pls]
  split
  ·rw [wz];have:=qSF b n (k+1);omega
  ·have:=qSF b n (k+1);omega
theorem qcQ {a:List Int} (hb:Bts a):Tot (qCj a) fun g=>g=true→a.length≤3000:=by
 rw [qVr]
 simp only [wj]
 refine ua (by split <;> omega) (ua (by split <;> omega) ?_)
 have hl:(a.take (if (3000:Int)<(a.length:Int) then (3000:Int) else (a.length:Int)).toNat).length≤3000:=by
  rw [wM];split <;> omega
 have hbt:Bts (a.take (if (3000:Int)<(a.length:Int) then (3000:Int) else (a.length:Int)).toNat):=hb.take _
 generalize a.take (if (3000:Int)<(a.length:Int) then (3000:Int) else (a.length:Int)).toNat=c at*
 refine Tot.b (P:=fun r=>r.length≤100000) ?_ (fun r hr=>qjI a r hr _ 0 0 (wJ _))
 rw [qal]
 refine ud (qvQ c (by omega)) (qbN hbt (by omega) _ (fun x hx=>?_) (by have:=qSF c c.length 0;omega) _ 0 [] (wJ _) (ws _))
 obtain ⟨j,rfl,h1,h2,h3⟩:=qRF c _ _ x hx
 omega
end Go.Ab

/-
  VerifyFine: the chapter's examples.
-/
set_option linter.unusedVariables false
set_option linter.unusedSimpArgs false
set_option maxRecDepth 100000
namespace Go.Ab
open Go
attribute [local irreducible] IntKind.wrap
def vsS (a:List Int) (ps:List qca) (st:List Int) (x:Int):List Int:=
 if (rdK (a.drop x.toNat)).2.2≠0 then st else
 match qiG (qOO (rdK (a.drop x.toNat)).1.1) ps 0 with
 |none=>st
 |some i=>if st.getD i 0=1 then st else if (qhK (rdK (a.drop x.toNat)).1).2=0 then (st.set i 2).set i 1 else st.set i 2
def stS (a:List Int) (ps:List qca):List Int:=(qzD a).foldl (vsS a ps) (wl ps.length 3)
theorem qaS {a:List Int} (hb:Bts a) {ps:List qca} {st:List Int} {x:Int} (h:(rdK (a.drop x.toNat)).2.2=0→(rdK (a.drop x.toNat)).1.1.1=1):vsG 0 a ps st x=vsS a ps st x:=by
 unfold vsG vsS
 by_cases h0:(rdK (a.drop x.toNat)).2.2=0
 ·obtain ⟨k1,k2,k3⟩:=qUK (hb.drop x.toNat) h0
  have hs:StB (rdK (a.drop x.toNat)).1:=⟨h h0,k2,k3⟩
  have e:qos 0 (rdK (a.drop x.toNat)).1=qhK (rdK (a.drop x.toNat)).1:=by
   unfold qos
   rw [hs.raw (by decide)];rfl
  first
   |(rw [e,if_neg (fun k=>k h0),if_neg (fun k=>k h0)];cases qiG (qOO (rdK (a.drop x.toNat)).1.1) ps 0 <;> rfl)
   |(rw [e,if_neg (fun k=>k h0)];done)
   |(rw [e,if_neg (fun k=>k h0)];cases qiG (qOO (rdK (a.drop x.toNat)).1.1) ps 0 <;> rfl)
 ·rw [if_pos h0,if_pos h0]
theorem qQQ {a:List Int} (hb:Bts a) {ps:List qca} (h:∀x∈qzD a,(rdK (a.drop x.toNat)).2.2=0→(rdK (a.drop x.toNat)).1.1.1=1):stG 0 a ps=stS a ps:=by
 have key:∀(P:List Int),(∀x∈P,(rdK (a.drop x.toNat)).2.2=0→(rdK (a.drop x.toNat)).1.1.1=1)→∀st:List Int,P.foldl (vsG 0 a ps) st=P.foldl (vsS a ps) st:=fun P=>by
  induction P with
  |nil=>intro _ st;rfl
  |cons x P ih=>intro hP st;rw [List.foldl_cons,List.foldl_cons,qaS hb (hP x (wT ..)),ih (fun y hy=>hP y (wO _ hy))]
 exact key (qzD a) h _
def mE7:qxa:=(ByteArray.mk #[97],([7],()))
def rE7:List qba:=recs [mE7]
def w7:List Int:=qAq sA rE7 [qkk 0 0 [7]]
def c7:List Int:=w7.set 93 (wd .u8 (w7.getD 93 0+1))
def p7:qca:=(0,(0,(1,())))
theorem qcI {a:List Int} {rs:List qba} {n:Int} (h:(hdP a).1.1=0∧(hdP a).1.2.1=16∧(hdP a).2.1=rs∧(hdP a).2.2.1=n∧(hdP a).2.2.2=0):hdP a=(sA,(rs,(n,0))):=
 wrb (wrb h.1 (wrb h.2.1 rfl)) (wrb h.2.2.1 (wrb h.2.2.2.1 h.2.2.2.2))
theorem qcH:w7.length=94:=by decide+kernel
theorem bts_w7:Bts w7:=qDR (by decide+kernel)
theorem qBR:Bts c7:=qDR (by decide+kernel)
theorem qCR:Bts (w7.take 93):=bts_w7.take _
theorem qgT:hdP w7=(sA,(rE7,(52,0))):=qcI (by decide+kernel)
theorem quS:hdP (w7.take 93)=(sA,(rE7,(52,0))):=qcI (by decide+kernel)
theorem qtS:hdP c7=(sA,(rE7,(52,0))):=qcI (by decide+kernel)
theorem qnR:hdP wE=(sA,([],(28,0))):=qcI (by decide+kernel)
theorem qdT:∀x∈qzD w7,(rdK (w7.drop x.toNat)).2.2=0→(rdK (w7.drop x.toNat)).1.1.1=1:=by decide+kernel
theorem qmS:∀x∈qzD (w7.take 93),(rdK ((w7.take 93).drop x.toNat)).2.2=0→(rdK ((w7.take 93).drop x.toNat)).1.1.1=1:=by decide+kernel
theorem qlS:∀x∈qzD c7,(rdK (c7.drop x.toNat)).2.2=0→(rdK (c7.drop x.toNat)).1.1.1=1:=by decide+kernel
theorem qkS:∀x∈qzD wE,(rdK (wE.drop x.toNat)).2.2=0→(rdK (wE.drop x.toNat)).1.1.1=1:=by decide+kernel
theorem qYS:stS w7 [p7]=[1]:=by decide+kernel
theorem qeS:stS (w7.take 93) [p7]=[3]:=by decide+kernel
theorem qdS:stS c7 [p7]=[2]:=by decide+kernel
theorem qcS:stS wE []=[]:=by decide+kernel
theorem v7:qtf rE7=0:=by decide+kernel
theorem ap7:ap 16 0 rE7=[p7]:=by kernel_rfl
theorem qwF {a:List Int} {n:Int} (hb:Bts a) (hl:a.length≤50000) (h:hdP a=(sA,(rE7,(n,0)))) (hm:∀x∈qzD a,(rdK (a.drop x.toNat)).2.2=0→(rdK (a.drop x.toNat)).1.1.1=1):qNd a=some (stS a [p7],0):=by
 have h1:=qcG hb hl h (by decide) v7
 rw [qeo,h1]
 show some (stG 0 a (ap 16 0 rE7),(0:Int))=_
 rw [ap7,qQQ hb hm]
theorem qyP:qNd wE=some ([],0):=by
 have h1:=qcG qwI (by decide+kernel) qnR (by decide) (by decide+kernel)
 rw [qeo,h1]
 show some (stG 0 wE (ap 16 0 []),(0:Int))=_
 rw [show ap 16 0 []=[] from rfl,qQQ qwI qkS,qcS]
theorem qwS:qri wE=some (true,0):=by
 rw [qcm,qdf _ qwI,qnR]
 exact Tot.eq (ud rfl (ue rfl (ud Q_E (ub rfl))))
theorem qkT:qYh [mE7]=some (rE7,0):=qSM _ ⟨fun m hm=>by rw [wU.1 hm];decide,fun m hm=>by rw [wU.1 hm];decide,fun m hm=>by rw [wU.1 hm];exact qDR (by decide)⟩ (by decide+kernel)
theorem ex7:qug=some w7:=by
 have hb:∀b∈[qkk 0 0 [7]],bWf b∧b.2.1.length≤5000:=fun b hb=>by
  rw [wU.1 hb];exact ⟨qst _ _ _,by decide⟩
 have hl:(qSj sA rE7).length=52:=by decide+kernel
 have hj:=qWM [qkk 0 0 [7]] hb (by decide) 1 0 (qSj sA rE7) rfl (by omega)
 have hJ:qEi (qSj sA rE7) [qkk 0 0 [7]]=some w7:=by
  rw [quq,wV]
  exact Tot.eq (ua (by omega) (uh hj (by unfold w7;rfl)))
 rw [qYn]
 exact Tot.eq (ud qkT (ud (qWw sA rE7 (qCc v7) (qPQ (by decide+kernel))) (ud (qVM (by decide)) (ud hJ (ub rfl)))))
theorem qhT:qUd ((0:Int),((16:Int),())) []=some wE:=by
 have h:=qWw sA [] (qCc (by decide+kernel)) (fun _ h=>by cases h)
 have e:qSj sA []=wE:=by unfold wE qAq;rw [qWE,wW]
 rw [e] at h
 exact h
theorem k93:wd .i64 (((94:Nat):Int) - 1)=93:=by decide+kernel
theorem qOM (a b:List Int) (h:(wja (qjn a)==wja (qjn b))=true):qze a b=some true:=by
 rw [qtq];exact congrArg some h
theorem qlO:qki=some true:=by
 have s1:=qwF bts_w7 (by rw [qcH];decide) qgT qdT
 rw [qYS] at s1
 have s2:=qwF qCR (by rw [wM,qcH];decide) quS qmS
 rw [qeS] at s2
 have s3:=qwF qBR (by unfold c7;rw [wia,qcH];decide) qtS qlS
 rw [qdS] at s3
 rw [qTp]
 refine Tot.eq (ud ex7 (ud qhT (ud qwS (ud qyP (ud s1 ?_)))))
 simp only [wV,wea,wj,qcH,k93,show Int.toNat 93=93 from rfl,wEa,wJ]
 refine ua (by decide) (ua (by decide) (ud s2 (ua (by decide) (ua (by decide) (ua (by decide) (ua (by decide) (ua (by decide) (ud (show qNd (w7.set 93 (wd .u8 (w7.getD 93 0+1)))=some ([2],0) from s3) ?_))))))))
 iterate 5 refine un (by first|exact trivial|rfl) ?_
 refine ud (qOM _ _ (by decide+kernel)) ?_
 iterate 2 refine un (by first|exact trivial|rfl) ?_
 refine ud (qOM _ _ (by decide+kernel)) ?_
 iterate 2 refine un (by first|exact trivial|rfl) ?_
 exact ud (qOM _ _ (by decide+kernel)) (ub rfl)
end Go.Ab

/-
  VerifyFine: the law.
-/
set_option linter.unusedVariables false
set_option linter.unusedSimpArgs false
set_option maxRecDepth 100000
namespace Go.Ab
open Go
attribute [local irreducible] IntKind.wrap
theorem qvP (a:List Int) (hb:Bts a):qPe a=some true:=by
 rw [qbl]
 refine Tot.eq (ud qlO (Tot.b (qcQ hb) (fun g hg=>um (fun _=>ub rfl) (fun hg1=>uv (by decide) ?_))))
 have hl:=hg hg1
 by_cases hh:(hdP a).2.2.2=0
 ·obtain ⟨rs,q,hO⟩:=qRL hb hh
  have hV:=hO.recsV
  have hcnt:=qCI (sH a).2.1 hO.blk.1 rs 0 (fun r hr=>(hV.each r hr).1)
  have h16:=hV.len
  have htt:=hV.tot
  have hlk:=qcG hb (by omega) hO.eq hO.blk hO.read.val
  have hH:qHk a=some (sH a,(rs,(28+(q:Int),0))):=by rw [qdf a hb,hO.eq]
  obtain ⟨r6,h6,h6f⟩:=qxQ (by show (stG (sH a).1 a (ap (sH a).2.1 0 rs)).length≤100000;rw [qAK];omega) hlk
  have hX:∃ms e,qIb a=some (ms,e)∧(e=0→r6.2=6):=by
   rcases qgQ hb hl with ⟨z,e,he,hx⟩|⟨l,bs,qss,h,hx⟩
   ·exact ⟨z,e,hx,fun k=>absurd k he⟩
   ·refine ⟨_,0,hx,fun _=>h6f (fun j hj=>?_)⟩
    have hst:=qzP hb h.o.opd h.ok
    have h0:(qnt a).2.2=0:=by rw [h.o.opd.eq]
    obtain ⟨rs2,q2,hs2,bs2,hO2⟩:=qNC hb h0
    have he:=hO2.eq
    rw [h.o.opd.eq] at he
    have hle:l=(sH a,(rs2,(hs2,()))):=(Prod.mk.inj he).1
    have hr2:rs2=rs:=by
     have:=hO2.head.eq
     rw [hO.eq] at this
     exact (Prod.mk.inj (Prod.mk.inj this).2).1.symm
    subst hr2
    rw [hle] at hst
    have hj':j<(stG (sH a).1 a (ap (sH a).2.1 0 rs2)).length:=hj
    rw [qAK] at hj'
    exact hst j hj'
  obtain ⟨ms,e,hx,hf⟩:=hX
  have hF:qri a=some (e==0,0):=by
   rw [qcm]
   exact Tot.eq (ud hH (ue rfl (ud hx (ub rfl))))
  refine ud hF (ud hH (ud hx (ud h6 (ue rfl (ue rfl (un (by trivial) (un ?_ ?_)))))))
  ·exact beq_self_eq_true _
  ·by_cases h0:e=0
   ·refine uv ?_ (ub ?_)
    ·rw [h0];decide
    ·rw [hf h0];rfl
   ·refine un ?_ (ub rfl)
    show (!(e==0))=true
    rw [wRa,beq_eq_false_iff_ne]
    exact h0
 ·have hne:(qnt a).2.2≠0:=by
   unfold qnt
   rw [if_pos hh]
   exact hh
  have hae:(qnt a).2.2=(hdP a).2.2.2:=by unfold qnt;rw [if_pos hh]
  have hx:=qVy (qLH hb hne) hne
  have hH:=qdf a hb
  have hF:qri a=some (false,(hdP a).2.2.2):=by
   rw [qcm]
   exact Tot.eq (ud hH (ui (fun _=>ub rfl) (fun k=>absurd k hh)))
  have h6:=qyQ hh (quJ hb rfl hh)
  refine ud hF (ud hH (ud hx (ud h6 (ue rfl (ui (fun _=>un (by trivial) (un rfl (ub ?_))) (fun k=>absurd k hh))))))
  exact beq_self_eq_true _
theorem bitloftlaw33_VerifyFine_true (x0:pden (.slice (.int .u8))) (z0:wfP (.slice (.int .u8)) x0):qPe x0=some true:=qvP x0 (uI z0.2)
end Go.Ab
