/-
  An abstract machine over the model's code and its soundness; what the functions compute, as plain functions (printed by a program of this repo's own, checked here by the kernel); plain laws of them: part 7. Helper text, no statement of the claim stands here.
-/
import Derived.Test.YtbpfanppapbdpaaGreatDoorTxtTf
open ByteArray renaming empty → wD
open Go.IntKind renaming wrap → wd
open Go.Lib renaming bytesOf → wna
open Int renaming le_refl → wza, ofNat → wi, ofNat_eq_natCast → wj, toNat_natCast → wA
open List renaming all_cons → wnb, all_eq_true → wAa, append_assoc → wB, append_nil → wQ, cons_append → wba, drop → wea, drop_drop → wka, drop_eq_nil_of_le → wta, drop_zero → wla, flatten_cons → wsb, getD_eq_getElem?_getD → wt, getElem?_append_right → wda, getElem?_eq_getElem → wx, getElem?_map → wDa, getElem?_set → wtb, length_append → wl, length_cons → ww, length_drop → wga, length_map → wca, length_nil → wN, length_replicate → wX, length_set → wsa, length_singleton → wv, length_take → wS, map_append → wBa, map_cons → wJ, map_nil → wKa, mem_append → wR, mem_cons → wU, mem_cons_of_mem → wH, mem_cons_self → wK, mem_map → wP, nil_append → waa, replicate → wn, take → wM, take_length → wOa, take_of_length_le → wL
open List.cons renaming injEq → wFa
open Nat renaming add_assoc → wxa, add_zero → wXa, le_refl → ws, sub_zero → wYa, zero_add → wO
open Option renaming bind_some → wy, getD_some → wJa
/-
  What the law leans on, of several chains of plain texts.
-/
set_option linter.unusedVariables false
set_option linter.unusedSimpArgs false
set_option maxHeartbeats 1000000
set_option maxRecDepth 100000
namespace Go.Ab
open Go
attribute [local irreducible] IntKind.wrap
theorem qnH (i n s:Int) (hs:1≤s):∀(k:Nat) (off:Int),0≤off→off≤n→((pcs i n s k off).map (fun p=>p.2.2.1)).foldr (·+·) 0≤n - off
 |0,off,_,h=>by show (0:Int)≤n - off;omega
 |k+1,off,h0,h=>by
  rw [pcs]
  by_cases hlt:off<n
  ·rw [if_pos hlt,wJ,List.foldr_cons]
   by_cases h2:s<n - off
   ·have:=qnH i n s hs k (off+s) (by omega) (by omega)
    simp only
    rw [if_pos h2]
    omega
   ·have hn:pcs i n s k (off+s)=[]:=by
     cases k with
     |zero=>rfl
     |succ k=>rw [pcs,if_neg (by omega)]
    simp only
    rw [if_neg h2,hn]
    show (n - off)+0≤n - off
    omega
  ·rw [if_neg hlt]
   show (0:Int)≤n - off
   omega
theorem qXH (a b:List Int):(a++b).foldr (·+·) 0=a.foldr (·+·) 0+b.foldr (·+·) 0:=by
 induction a with
 |nil=>show b.foldr (·+·) 0=0+b.foldr (·+·) 0;omega
 |cons x a ih=>rw [wba,List.foldr_cons,List.foldr_cons,ih];omega
theorem qTK (s:Int) (hs:1≤s):∀(rs:List qca) (i:Int),(∀r∈rs,0≤r.2.1)→((ap s i rs).map (fun p=>p.2.2.1)).foldr (·+·) 0≤tot rs
 |[],i,_=>by show (0:Int)≤0;decide
 |r::rs,i,h=>by
  have h1:=qnH i r.2.1 s hs 8200 0 (wza _) (h r wK)
  have ih:=qTK s hs rs (i+1) (fun q hq=>h q (wH _ hq))
  rw [ap,wBa,qXH,tot]
  omega
theorem qsu:∀(rs:List qca),SumsOK rs→(∀r∈rs,r.1.size≤40)→(qVi rs).length≤63*rs.length
 |[],_,_=>ws _
 |r::rs,hS,h=>by
  have h1:=qgq r (hS r wK).1
  have h2:=h r wK
  have h3:=qsu rs (fun q hq=>hS q (wH _ hq)) (fun q hq=>h q (wH _ hq))
  rw [qVi,wl,ww]
  omega
theorem Arc.len {D:Nat→List Int} {rs:List qca} (h:Arc D rs) (ht:tot rs≤80):(qjN D rs).length≤5000∧(qjN D rs).length=28+(qVi rs).length+(qqf (bsA D rs)).length∧(psA rs).length≤80:=by
 have hV:=qWg h.val
 have hl:=hV.len
 have h1:=qsu rs h.sums (fun r hr=>(hV.each r hr).2.2)
 have h2:=qVE D (psA rs) (fun p hp=>by
  obtain ⟨a,b,c,d,e,f⟩:=h.piece hp
  exact ⟨c.2.2.1,e⟩)
 have h3:=qTK 16 (by decide) rs 0 (fun r hr=>(hV.each r hr).1)
 have e:(qjN D rs).length=28+(qVi rs).length+(qqf (bsA D rs)).length:=by unfold qjN qUM;rw [wl,qGJ]
 have key:∀ps:List qea,(∀p∈ps,1≤p.2.2.1)→(ps.length:Int)≤(ps.map (fun p=>p.2.2.1)).foldr (·+·) 0:=by
  intro ps
  induction ps with
  |nil=>intro _;show (0:Int)≤0;decide
  |cons p ps ih=>
   intro hp
   have:=ih (fun q hq=>hp q (wH _ hq))
   have:=hp p wK
   rw [wJ,List.foldr_cons,ww]
   omega
 have h4:=key (psA rs) (fun p hp=>(h.piece hp).1.2.2.2.1)
 unfold bsA at e
 have e3:((psA rs).map (fun p=>p.2.2.1)).foldr (·+·) 0≤tot rs:=h3
 refine ⟨?_,e,?_⟩ <;> omega
def qeH (m:qfa):qca:=(m.1,((m.2.1.length:Int),(qtw m.2.1,())))
def qFb (l:List qfa):List qca:=l.map qeH
structure MemsOK (l:List qfa):Prop where
 nm:∀m∈l,m.1.size≤9223372036854775807
 ln:∀m∈l,m.2.1.length≤140737488355328
 bt:∀m∈l,Bts m.2.1
theorem qtt (l:List qfa) {i:Nat} (h:i<l.length):l.drop i=l.getD i (qua T_api_Member)::l.drop (i+1)∧l.getD i (qua T_api_Member)∈l∧l.take (i+1)=l.take i++[l.getD i (qua T_api_Member)]:=
 ⟨(qtc (qua T_api_Member) h).1,(qtc (qua T_api_Member) h).2.2,(qtc (qua T_api_Member) h).2.1⟩
theorem qko (l:List qfa):(qFb l).length=l.length:=wca ..
theorem qep:∀l:List qfa,0≤tot (qFb l)
 |[]=>wza _
 |m::l=>by
  have:=qep l
  show 0≤(m.2.1.length:Int)+tot (qFb l)
  omega
theorem qUx (l:List qfa) (i:Nat) (h:i<l.length):(l.getD i (qua T_api_Member)).1=(names (qFb l)).getD i wD:=by
 unfold names qFb
 rw [List.map_map,wt,wt,wDa,wx h]
 rfl
theorem qtr (l:List qfa):(names (qFb l)).length=l.length:=by unfold names;rw [wca,qko]
theorem qhF (l:List qfa) (hn:l.length≤16) (i:Nat) (hi:i<l.length):∀(k j:Nat),j+k=i→qmd l (i:Int) (j:Int)=if qKF ((names (qFb l)).getD i wD) (((names (qFb l)).take i).drop j) then some 14 else qPb l ((i:Int)+1)
 |0,j,e=>by
  have hd:((names (qFb l)).take i).drop j=[]:=wta (by rw [wS];omega)
  rw [qXf,if_neg (by simp;omega),hd,w64 (by omega) (by omega)]
  simp [qKF]
 |k+1,j,e=>by
  have hl':wi l.length=(l.length:Int):=rfl
  have hnl:=qtr l
  have ih:=qhF l hn i hi k (j+1) (by omega)
  rw [show ((j+1:Nat):Int)=(j:Int)+1 by omega] at ih
  rw [qXf,if_pos (by simp;omega),qha (by omega),qha (by rw [hl'];omega),qha (by omega),qha (by rw [hl'];omega),wA,wA,qUx l j (by omega),qUx l i hi,w64 (x:=(j:Int)+1) (by omega) (by omega),ih,qEH (j:=j) (i:=i) (by omega) (by omega),qbO]
  by_cases h:(names (qFb l)).getD j wD=(names (qFb l)).getD i wD
  ·rw [decide_eq_true h,decide_eq_true h.symm];simp
  ·rw [decide_eq_false h,decide_eq_false (fun e=>h e.symm)];simp
theorem qiF (l:List qfa) (hn:l.length≤16):∀(k i:Nat),i+k=l.length→qPb l (i:Int)=some (if qiC ((names (qFb l)).take i) ((names (qFb l)).drop i) then 14 else 0)
 |0,i,e=>by
  have hnl:=qtr l
  rw [qYf,if_neg (by simp;omega),wta (by omega)];rfl
 |k+1,i,e=>by
  have hnl:=qtr l
  obtain ⟨d1,d2⟩:=qRE (xs:=names (qFb l)) (i:=i) (by omega)
  have ih:=qiF l hn k (i+1) (by omega)
  rw [show ((i+1:Nat):Int)=(i:Int)+1 by omega] at ih
  have h3:=qhF l hn i (by omega) i 0 (by omega)
  rw [qYf,if_pos (by simp;omega)]
  refine Eq.trans h3 ?_
  rw [ih,wla,d1,qiC,←d2]
  cases qKF ((names (qFb l)).getD i wD) ((names (qFb l)).take i) <;> simp
theorem qjF (l:List qfa) (hM:MemsOK l) (hn:l.length≤16):∀(k i:Nat),i+k=l.length→qmc l (i:Int)=if (l.drop i).all (fun m=>qwE m.1)=true then qPb l 0 else some 8
 |0,i,e=>by
  rw [qZf,if_neg (by simp;omega),wta (by omega)]
  rfl
 |k+1,i,e=>by
  have hl':wi l.length=(l.length:Int):=rfl
  obtain ⟨d1,d2,d3⟩:=qtt l (i:=i) (by omega)
  have ih:=qjF l hM hn k (i+1) (by omega)
  rw [show ((i+1:Nat):Int)=(i:Int)+1 by omega] at ih
  rw [qZf,if_pos (by simp;omega),qha (by omega),qha (by rw [hl'];omega),wA,d1,qru _ (hM.nm _ d2),wy,w64 (x:=(i:Int)+1) (by omega) (by omega),ih,wnb]
  cases qwE (l.getD i (qua T_api_Member)).1 with
  |false=>rfl
  |true=>rw [Bool.true_and];rfl
theorem qkF (l:List qfa) (hM:MemsOK l) (hn:l.length≤16):∀(k i:Nat) (acc:Int),i+k=l.length→0≤acc→acc≤140737488355328*i→qnd l acc (i:Int)=if acc+tot (qFb (l.drop i))>8192 then some 4 else qmc l 0
 |0,i,acc,e,a0,a1=>by
  rw [qag,if_neg (by simp;omega),wta (by omega)]
  have:tot (qFb [])=0:=rfl
  rw [this,Int.add_zero]
  by_cases h:acc>8192
  ·rw [if_pos (by simpa using h),if_pos h]
  ·rw [if_neg (by simpa using h),if_neg h]
 |k+1,i,acc,e,a0,a1=>by
  have hl':wi l.length=(l.length:Int):=rfl
  obtain ⟨d1,d2,d3⟩:=qtt l (i:=i) (by omega)
  have hln:=hM.ln _ d2
  have ih:=fun a h0 h1=>qkF l hM hn k (i+1) a (by omega) h0 h1
  rw [show ((i+1:Nat):Int)=(i:Int)+1 by omega] at ih
  rw [qag,if_pos (by simp;omega),qha (by omega),qha (by rw [hl'];omega),wA,d1]
  simp only [wj]
  rw [w64 (x:=(i:Int)+1) (by omega) (by omega),w64 (by omega) (by omega),ih _ (by omega) (by omega)]
  have e2:tot (qFb (l.getD i (qua T_api_Member)::l.drop (i+1)))=((l.getD i (qua T_api_Member)).2.1.length:Int)+tot (qFb (l.drop (i+1))):=rfl
  rw [e2,Int.add_assoc]
def mck (l:List qfa):Int:=if l.length>16 then 4 else if tot (qFb l)>8192 then 4 else if l.all (fun m=>qwE m.1)=true then (if qiC [] (names (qFb l)) then 14 else 0) else 8
theorem qeo (l:List qfa) (hM:MemsOK l):qbb l=some (mck l):=by
 have hl':wi l.length=(l.length:Int):=rfl
 rw [qYn,hl',mck]
 by_cases h:l.length>16
 ·rw [if_pos (by simp;omega),if_pos h]
 ·have h1:=qkF l hM (by omega) l.length 0 0 (by omega) (wza _) (wza _)
  have h2:=qjF l hM (by omega) l.length 0 (by omega)
  have h3:=qiF l (by omega) l.length 0 (by omega)
  rw [wla] at h1 h2 h3
  rw [if_neg (by simp;omega),if_neg h]
  refine Eq.trans h1 ?_
  rw [Int.zero_add]
  by_cases ht:tot (qFb l)>8192
  ·rw [if_pos ht,if_pos ht]
  ·rw [if_neg ht,if_neg ht]
   refine Eq.trans h2 ?_
   by_cases ha:l.all (fun m=>qwE m.1)=true
   ·rw [if_pos ha,if_pos ha]
    exact h3
   ·rw [if_neg ha,if_neg ha]
theorem qTD:∀(l:List qfa) (acc:Int) (nm:List ByteArray),l.all (fun m=>qwE m.1)=true→0≤acc→acc+tot (qFb l)≤8192→qiC [] (nm++names (qFb l))=false→vld acc nm (qFb l)=0
 |[],acc,nm,h1,h2,h3,h4=>by
  have e:tot (qFb [])=0:=rfl
  have e2:names (qFb [])=[]:=rfl
  rw [e] at h3
  rw [e2,wQ] at h4
  show (if acc>8192 then 4 else if qiC [] nm then 14 else 0)=0
  rw [if_neg (by omega),if_neg (by rw [h4];decide)]
 |m::l,acc,nm,h1,h2,h3,h4=>by
  rw [wnb,Bool.and_eq_true] at h1
  have e:tot (qFb (m::l))=(m.2.1.length:Int)+tot (qFb l):=rfl
  have hn:=qep l
  rw [e] at h3
  have hb:¬qBG (qeH m)=true:=by
   unfold qBG
   have hs:(qeH m).2.1=(m.2.1.length:Int):=rfl
   rw [show (qeH m).1=m.1 from rfl,h1.1,hs,decide_eq_false (by omega),decide_eq_false (by omega)]
   by_cases h0:m.2.1.length=0
   ·have:m.2.1=[]:=List.length_eq_zero_iff.1 h0
    have e3:(qeH m).2.2.1=qtw []:=by show qtw m.2.1=_;rw [this]
    rw [e3]
    have:peq (.arr 20 (.int .u8)) (qtw []) (qtw [])=true:=qhJ _
    rw [this];simp
   ·have:(((m.2.1.length:Nat):Int)==0)=false:=by rw [beq_eq_false_iff_ne];omega
    rw [this];simp
  show (if qBG (qeH m) then 8 else vld (acc+(qeH m).2.1) (nm++[(qeH m).1]) (qFb l))=0
  rw [if_neg hb]
  refine qTD l _ _ h1.2 (by show 0≤acc+(m.2.1.length:Int);omega) (by show acc+(m.2.1.length:Int)+tot (qFb l)≤8192;omega) ?_
  rw [wB]
  exact h4
def qvw (l:List qfa) (i:Nat):List Int:=(l.getD i (qua T_api_Member)).2.1
theorem qxy (l:List qfa) (i:Nat) (h:i<l.length):(qFb l).getD i (qua qra)=qeH (l.getD i (qua T_api_Member)):=by
 unfold qFb
 rw [wt,wDa,wx h,wt,wx h]
 rfl
theorem qVM {l:List qfa} (hM:MemsOK l) (h:mck l=0):Arc (qvw l) (qFb l)∧l.length≤16∧tot (qFb l)≤8192:=by
 unfold mck at h
 by_cases h1:l.length>16
 ·rw [if_pos h1] at h;cases h
 rw [if_neg h1] at h
 by_cases h2:tot (qFb l)>8192
 ·rw [if_pos h2] at h;cases h
 rw [if_neg h2] at h
 by_cases h3:l.all (fun m=>qwE m.1)=true
 ·rw [if_pos h3] at h
  have h4:qiC [] (names (qFb l))=false:=by
   cases hd:qiC [] (names (qFb l)) with
   |false=>rfl
   |true=>rw [hd] at h;cases h
  refine ⟨⟨?_,fun r hr=>?_,fun i hi=>?_,fun i hi=>?_,fun i=>?_⟩,by omega,by omega⟩
  ·unfold qdp
   rw [qko,if_neg h1]
   exact qTD l 0 [] h3 (wza _) (by omega) h4
  ·obtain ⟨m,hm,rfl⟩:=wP.1 hr
   exact ⟨qot _,qry _⟩
  ·rw [qko] at hi
   rw [qxy l i hi];rfl
  ·rw [qko] at hi
   rw [qxy l i hi];rfl
  ·exact qyv (P:=fun m:qfa=>Bts m.2.1) hM.bt Bts.nil i
 ·rw [if_neg h3] at h;cases h
theorem qTI (l:List qfa):∀(k i:Nat),i+k=31→Tot (qOb l (i:Int)) fun g=>g=false→l.length≤30∧∀m∈l.drop i,m.2.1.length≤10000:=by
 have fin:∀i:Nat,(31≤i∨l.length≤i)→Tot (some (decide ((l.length:Int)>30))) fun g=>g=false→l.length≤30∧∀m∈l.drop i,m.2.1.length≤10000:=fun i hi=>uc (fun e=>by
  have h:=of_decide_eq_false e
  refine ⟨by omega,fun m hm=>?_⟩
  rw [List.drop_of_length_le (by omega)] at hm
  cases hm)
 intro k
 induction k with
 |zero=>
  intro i e
  rw [qWf]
  exact uh (fun _=>ub (by omega) (fin i (by omega))) (fun _=>fin i (by omega))
 |succ k ih=>
  intro i e
  have ih:=ih (i+1) (by omega)
  rw [show ((i+1:Nat):Int)=(i:Int)+1 by omega] at ih
  rw [qWf]
  simp only [wj,wA]
  rw [w64 (x:=(i:Int)+1) (by omega) (by omega)]
  refine uh (fun h=>?_) (fun h=>fin i (by omega))
  obtain ⟨d1,d2,d3⟩:=qtt l (i:=i) (by omega)
  refine uf (by omega) (ua (by omega) (ua h ?_))
  refine uh (fun _=>uc (fun e=>by cases e)) (fun _=>ua (by omega) (ua h ?_))
  refine uh (fun _=>uc (fun e=>by cases e)) (fun hle=>ua (by omega) (ua h ?_))
  have nx:Tot (qOb l ((i:Int)+1)) fun g=>g=false→l.length≤30∧∀m∈l.drop i,m.2.1.length≤10000:=ih.mono (fun g hg e=>⟨(hg e).1,fun m hm=>by
   rw [d1] at hm
   rcases wU.1 hm with rfl|hm
   ·omega
   ·exact (hg e).2 m hm⟩)
  refine uh (fun _=>ua (by omega) (ua h ?_)) (fun _=>nx)
  exact uh (fun _=>uc (fun e=>by cases e)) (fun _=>nx)
theorem qVD:∀(a:List qfa) (m:qfa),tot (qFb (a++[m]))=tot (qFb a)+(m.2.1.length:Int)
 |[],m=>by show (m.2.1.length:Int)+0=0+(m.2.1.length:Int);omega
 |x::a,m=>by
  have:=qVD a m
  show (x.2.1.length:Int)+tot (qFb (a++[m]))=(x.2.1.length:Int)+tot (qFb a)+(m.2.1.length:Int)
  omega
theorem qjK:∀(l:List qfa),(∀m∈l,m.2.1.length≤10000)→tot (qFb l)≤10000*l.length
 |[],h=>wza _
 |x::l,h=>by
  have h1:=h x wK
  have:=qjK l (fun m hm=>h m (wH _ hm))
  show (x.2.1.length:Int)+tot (qFb l)≤10000*((l.length+1:Nat):Int)
  omega
theorem qRL (l:List qfa) (hnm:∀m∈l,m.1.size≤9223372036854775807) (hbt:∀m∈l,Bts m.2.1):∀(k i:Nat) (acc:Int),i+k=30→((∀m∈l,m.2.1.length≤10000)→acc=tot (qFb (l.take i)))→Tot (qkd l acc (i:Int)) fun g=>g=true→(∀m∈l,m.2.1.length≤10000)∧(mck l=0→tot (qFb l)≤80):=by
 have hG:Tot (que l) fun g=>g=false→l.length≤30∧∀m∈l,m.2.1.length≤10000:=by
  rw [qXn]
  have:=qTI l 31 0 (by omega)
  rw [wla] at this
  exact this
 have fin:∀(i:Nat) (acc:Int),l.length≤i→((∀m∈l,m.2.1.length≤10000)→acc=tot (qFb (l.take i)))→Tot (if (decide ((l.length:Int)≤30))=true then (que l).bind fun (r3:(Bool))=>if (not r3)=true then if (decide (acc≤80))=true then some (true) else (qbb l).bind fun (r4:(Int))=>some (r4 != 0) else some (false) else some (false)) fun g=>g=true→(∀m∈l,m.2.1.length≤10000)∧(mck l=0→tot (qFb l)≤80):=by
  intro i acc hi hacc
  rw [wL hi] at hacc
  refine uh (fun _=>Tot.b hG (fun r hr=>uk (fun h0=>?_) (fun _=>uc (fun h=>by cases h)))) (fun _=>uc (fun h=>by cases h))
  have hall:=(hr h0).2
  have hM:MemsOK l:=⟨hnm,fun m hm=>by have:=hall m hm;omega,hbt⟩
  have ha:=hacc hall
  exact uh (fun h=>uc (fun _=>⟨hall,fun _=>by omega⟩)) (fun _=>ue (qeo l hM) (uc (fun h=>⟨hall,fun k=>by rw [k] at h;exact absurd h (by decide)⟩)))
 intro k
 induction k with
 |zero=>
  intro i acc e ha
  rw [qUf]
  simp only [wj]
  refine uh (fun h=>ub (by omega) (ub (by omega) (uc (fun h=>by cases h)))) (fun h=>fin i acc (by omega) ha)
 |succ k ih=>
  intro i acc e ha
  rw [qUf]
  simp only [wj,wA]
  refine uh (fun h=>uf (by omega) (ua (by omega) (ua h ?_))) (fun h=>fin i acc (by omega) ha)
  obtain ⟨d1,d2,d3⟩:=qtt l (i:=i) (by omega)
  rw [w64 (x:=(i:Int)+1) (by omega) (by omega),show (i:Int)+1=((i+1:Nat):Int) by omega]
  refine ih (i+1) _ (by omega) (fun hall=>?_)
  have h1:=ha hall
  have h2:=hall _ d2
  have h3:=qjK (l.take i) (fun m hm=>hall m (List.mem_of_mem_take hm))
  have h4:=qep (l.take i)
  rw [wS] at h3
  rw [d3,qVD,w64 (by omega) (by omega),h1]
theorem quG (l:List qfa) (hnm:∀m∈l,m.1.size≤9223372036854775807) (hbt:∀m∈l,Bts m.2.1):∃g,quc l=some g∧(g=true→MemsOK l∧(mck l=0→tot (qFb l)≤80)):=by
 have:=qRL l hnm hbt 30 0 0 (by omega) (fun _=>rfl)
 rw [qTn]
 obtain ⟨g,h1,h2⟩:=this
 exact ⟨g,h1,fun a=>⟨⟨hnm,fun m hm=>by have:=(h2 a).1 m hm;omega,hbt⟩,(h2 a).2⟩⟩
instance (h:qla):Decidable (hOK h):=by unfold hOK;infer_instance
instance (a:List Int) (p:Nat):Decidable (rF a p):=by unfold rF;infer_instance
def wr {α:Type}:List α→Nat→List α→List α
 |xs,_,[]=>xs
 |xs,i,y::ys=>wr (xs.set i y) (i+1) ys
theorem getD_set_ne {α:Type} {xs:List α} {i j:Nat} {y d:α} (h:i≠j):(xs.set i y).getD j d=xs.getD j d:=by
 simp [wt,wtb,h]
theorem qfh {α:Type} {xs:List α} {i:Nat} {y d:α} (h:i<xs.length):(xs.set i y).getD i d=y:=by
 simp [wt,wtb,h]
theorem qcE {α:Type} {xs:List α} {i:Nat} {d:α} (h:i<xs.length):xs.set i (xs.getD i d)=xs:=by
 apply List.ext_getElem?;intro j
 rw [wtb]
 by_cases h1:i=j
 ·subst h1;simp [h,wt]
 ·simp [h1]
theorem qCG {α:Type}:∀{ys dn:List α} {zs:List α},ys.length≤zs.length→wr (dn++zs) dn.length ys=dn++ys++zs.drop ys.length
 |[],dn,zs,_=>by simp [wr]
 |y::ys,dn,[],h=>by simp at h
 |y::ys,dn,z::zs,h=>by
  have:(dn++z::zs).set dn.length y=(dn++[y])++zs:=by
   rw [List.set_append_right _ _ (ws _),Nat.sub_self,List.set_cons_zero,wB];rfl
  rw [wr,this]
  have h2:=qCG (ys:=ys) (dn:=dn++[y]) (zs:=zs) (by simpa using h)
  rw [wl,wv] at h2
  rw [h2]
  simp
theorem qcI (v32:List qja) (v33 v34:Int) (dat:List Int) (m off:Nat) (raw:Int) (hb:off+dat.length≤1000000):∀(rest:List Int) (k:Nat) (h0:List (ByteArray×List Int)) (h8:List (List Bool)),dat.drop k=rest→k+rest.length=dat.length→
  m<h0.length→h8.length=h0.length→h0.length≤100000→(h8.getD m []).length=(h0.getD m (wD,[])).2.length→off+dat.length≤(h8.getD m []).length→(∀j,off+k≤j→j<off+dat.length→(h8.getD m []).getD j false=false)→
  qae v32 v33 v34 dat (dat.length:Int) (k:Int) h0 h8 ((m:Int),((off:Int),(raw,())))=
   qcd v32 v33 (wd .i64 (v34+1)) (h0.set m ((h0.getD m (wD,[])).1,wr (h0.getD m (wD,[])).2 (off+k) rest)) (h8.set m (wr (h8.getD m []) (off+k) (rest.map fun _=>true)))
 |[],k,h0,h8,hr,hk,hm,hl,hl2,hs,ho,hf=>by
  simp only [wN] at hk
  rw [qNi,if_neg (by simp;omega)]
  simp only [wKa,wr]
  have t2:h8.set m (h8.getD m [])=h8:=qcE (by omega)
  have:h0.set m ((h0.getD m (wD,[])).1,(h0.getD m (wD,[])).2)=h0:=qcE hm
  rw [this,t2]
 |b::rest,k,h0,h8,hr,hk,hm,hl,hl2,hs,ho,hf=>by
  simp only [ww] at hk
  have hd:=qtc (0:Int) (xs:=dat) (i:=k) (by omega)
  rw [hr] at hd
  obtain ⟨hd1,_⟩:=hd
  injection hd1 with hd1 hd2
  have hw:wd .i64 ((off:Int)+(k:Int))=((off+k:Nat):Int):=by rw [w64 (by omega) (by omega)];omega
  have hm8:m<h8.length:=by omega
  have hfl:=hf (off+k) (ws _) (by omega)
  have hfv:(qxi (a:= .str) (e:=(.int .u8)) h0).length=h0.length:=qwi (a:= .str) (e:= .int .u8) h0
  have ih:=qcI v32 v33 v34 dat m off raw hb rest (k+1) (h0.set m ((h0.getD m (wD,[])).1,(h0.getD m (wD,[])).2.set (off+k) b)) (h8.set m ((h8.getD m []).set (off+k) true)) hd2.symm (by omega)
   (by rw [wsa];exact hm) (by rw [wsa,wsa];exact hl) (by rw [wsa];exact hl2) (by rw [qfh hm8,qfh hm,wsa,wsa];exact hs) (by rw [qfh hm8,wsa];exact ho)
   (fun j h1 h2=>by rw [qfh hm8,getD_set_ne (by omega)];exact hf j (by omega) h2)
  rw [qfh hm8,qfh hm,List.set_set,List.set_set] at ih
  rw [show ((k+1:Nat):Int)=(k:Int)+1 by omega] at ih
  rw [qNi]
  simp only [hw,hfv,wj,wA,wO]
  rw [if_pos (by simp;omega),qha (by omega),qha (by omega),qha (by omega),qha (by omega),qha (by omega),qha (by omega),qha (by omega),if_neg (by rw [hfl];decide),
   qha (by omega),qha (by omega),qha (by omega),qha (by omega),qha (by omega),qha (by omega),qha (by omega),qha (by omega),qha (by omega),qha (by omega),
   ←hd1,w64 (x:=(k:Int)+1) (by omega) (by omega),ih,wJ,wr,wr]
  rfl
abbrev Mm:=List (ByteArray×List Int)
def pM (p:qja):Nat:=p.1.1.toNat
def pO (p:qja):Nat:=p.1.2.1.toNat
def qkL (p:qja) (h0:Mm):Mm:=h0.set (pM p) ((h0.getD (pM p) (wD,[])).1,wr (h0.getD (pM p) (wD,[])).2 (pO p) p.2.1)
def qpM (p:qja) (h8:List (List Bool)):List (List Bool):=h8.set (pM p) (wr (h8.getD (pM p) []) (pO p) (p.2.1.map fun _=>true))
def qpO (p:qja) (h0:Mm) (h8:List (List Bool)):Prop:=
 0≤p.1.1∧pM p<h0.length∧0≤p.1.2.1∧pO p+p.2.1.length≤1000000∧(h8.getD (pM p) []).length=(h0.getD (pM p) (wD,[])).2.length∧pO p+p.2.1.length≤(h8.getD (pM p) []).length∧∀j,pO p≤j→j<pO p+p.2.1.length→(h8.getD (pM p) []).getD j false=false
def qgC:List qja→Mm→List (List Bool)→Prop
 |[],_,_=>True
 |p::r,h0,h8=>qpO p h0 h8∧qgC r (qkL p h0) (qpM p h8)
def putL:List qja→Mm→Mm
 |[],h0=>h0
 |p::r,h0=>putL r (qkL p h0)
theorem qdI (ps:List qja) (hps:ps.length≤100000):∀(k i:Nat) (h0:Mm) (h8:List (List Bool)),i+k=ps.length→h8.length=h0.length→h0.length≤100000→qgC (ps.drop i) h0 h8→
  qcd ps (ps.length:Int) (i:Int) h0 h8=some (true,putL (ps.drop i) h0)
 |0,i,h0,h8,e,hl,hl2,hf=>by
  rw [qOi,if_neg (by simp;omega),wta (by omega)];rfl
 |k+1,i,h0,h8,e,hl,hl2,hf=>by
  have hd:=qtc (qua qGa:qja) (xs:=ps) (i:=i) (by omega)
  rw [hd.1] at hf ⊢
  have ih:=fun h0 h8=>qdI ps hps k (i+1) h0 h8 (by omega)
  rw [show ((i+1:Nat):Int)=(i:Int)+1 by omega] at ih
  rw [qOi]
  simp only [wj,wA]
  rw [if_pos (by simp;omega),qha (by omega),qha (by omega)]
  generalize ps.getD i (qua qGa)=x at*
  obtain ⟨⟨f1,f2,f3,f4,f5,f6,f7⟩,hf⟩:=hf
  have h3:=qcI ps (ps.length:Int) (i:Int) x.2.1 (pM x) (pO x) x.1.2.2.1 f4 x.2.1 0 h0 h8 rfl (by omega) f2 hl hl2 f5 f6 (by simpa using f7)
  have hx:x.1=(((pM x:Nat):Int),(((pO x:Nat):Int),(x.1.2.2.1,()))):=by
   unfold pM pO
   rw [Int.toNat_of_nonneg f1,Int.toNat_of_nonneg f3]
  rw [hx]
  simp only [wXa] at h3
  refine h3.trans ?_
  rw [w64 (x:=(i:Int)+1) (by omega) (by omega)]
  exact ih (qkL x h0) (qpM x h8) (by unfold qkL qpM;rw [wsa,wsa];exact hl) (by unfold qkL;rw [wsa];exact hl2) hf
def qQn (h0:Mm):List (List Bool):=h0.map fun x=>wn x.2.length false
theorem qeI (ps:List qja) (h0:Mm) (hl:h0.length≤100000) (hm:∀x∈h0,x.2.length≤1000000):∀(k i:Nat),i+k=h0.length→
  qAf ps (h0.length:Int) (i:Int) h0 ((qQn h0).take i++wn k [])=qcd ps (ps.length:Int) 0 h0 (qQn h0)
 |0,i,e=>by
  rw [qPi,if_neg (by simp;omega),wL (by unfold qQn;simp;omega),List.replicate_zero,wQ]
  rfl
 |k+1,i,e=>by
  have hd:=qtc ((wD,[]):ByteArray×List Int) (xs:=h0) (i:=i) (by omega)
  have ih:=qeI ps h0 hl hm k (i+1) (by omega)
  rw [show ((i+1:Nat):Int)=(i:Int)+1 by omega] at ih
  have hfv:(qxi (a:= .str) (e:= .int .u8) h0).length=h0.length:=qwi (a:= .str) (e:= .int .u8) h0
  have hx:=hm _ hd.2.2
  have hbl:(qQn h0).length=h0.length:=wca ..
  have hset:((qQn h0).take i++wn (k+1) []).set i (wn (h0.getD i (wD,[])).2.length false)=(qQn h0).take (i+1)++wn k []:=by
   have h1:((qQn h0).take i).length=i:=by rw [wS];omega
   rw [List.set_append_right _ _ (by omega),h1,Nat.sub_self,List.replicate_succ,List.set_cons_zero]
   have h2:(qQn h0).take (i+1)=(qQn h0).take i++[wn (h0.getD i (wD,[])).2.length false]:=by
    unfold qQn
    rw [←List.map_take,←List.map_take,hd.2.1,wBa];rfl
   rw [h2,wB];rfl
  rw [qPi]
  simp only [hfv,wj,wA,wO]
  rw [if_pos (by simp;omega),qha (by omega),qha (by omega),qha trivial,qha (by omega),qha (by omega),qha (by omega),qha (by omega),qha (by simp;omega),hset,w64 (x:=(i:Int)+1) (by omega) (by omega),ih]
theorem qbI (ps:List qja) (h0:Mm) (hps:ps.length≤100000) (hl:h0.length≤100000) (hm:∀x∈h0,x.2.length≤1000000) (hf:qgC ps h0 (qQn h0)):qNl ps h0=some (true,putL ps h0):=by
 have hfv:(qxi (a:= .str) (e:= .int .u8) h0).length=h0.length:=qwi (a:= .str) (e:= .int .u8) h0
 have h1:=qeI ps h0 hl hm h0.length 0 (by omega)
 have h2:=qdI ps hps ps.length 0 h0 (qQn h0) (by omega) (wca ..) hl hf
 rw [qEs]
 simp only [hfv,wj,wA]
 rw [qha trivial,qha (by omega),qha (by omega),qha (by omega)]
 simp only [List.take_zero,waa,Int.natCast_zero] at h1 h2
 exact h1.trans h2
def leP (a b:qea):Prop:=a.1<b.1∨(a.1=b.1∧a.2.1≤b.2.1)
theorem qcO (a b:Int):∃r,qIg a b=some r∧(r<0↔a<b)∧(r=0↔a=b):=by
 have hn:∀x:Int,qAi x=some false:=fun x=>by rw [qgt];simp
 rw [qKq,hn,hn]
 simp only [wy,Bool.false_eq_true,if_false,decide_eq_true_eq]
 by_cases h1:a<b
 ·rw [if_pos h1];exact ⟨-1,rfl,by omega,by omega⟩
 ·rw [if_neg h1]
  by_cases h2:a>b
  ·rw [if_pos h2];exact ⟨1,rfl,by omega,by omega⟩
  ·rw [if_neg h2];exact ⟨0,rfl,by omega,by omega⟩
theorem qGN (x y:Int):qOr [x,y]=some (if x≠0 then x else y):=by
 have h0:qhf 0 [x,y] (wi 2) 2=some 0:=by rw [qci,if_neg (by decide)]
 have h1:qhf 0 [x,y] (wi 2) 1=some y:=by
  rw [qci,if_pos (by decide),qha (by decide),qha (by show _<(2:Int);decide)]
  show (if (y != 0)=true then some y else _)=_
  rw [show wd .i64 ((1:Int)+1)=2 by decide+kernel,h0]
  by_cases h:y=0
  ·subst h;rfl
  ·rw [if_pos (by simpa using h)]
 rw [qLz]
 show qhf 0 [x,y] (wi 2) 0=_
 rw [qci,if_pos (by decide),qha (by decide),qha (by show _<(2:Int);decide)]
 show (if (x != 0)=true then some x else _)=_
 rw [show wd .i64 ((0:Int)+1)=1 by decide+kernel,h1]
 by_cases h:x=0
 ·subst h;rfl
 ·rw [if_pos (by simpa using h),if_pos h]
theorem qFN (a b:qea):∃r,qIc a b=some r∧(leP b a→¬r<0):=by
 obtain ⟨r1,h1,h2,h3⟩:=qcO a.1 b.1
 obtain ⟨r2,g1,g2,g3⟩:=qcO a.2.1 b.2.1
 refine ⟨if r1≠0 then r1 else r2,?_,fun h=>?_⟩
 ·rw [qUp,h1,wy,g1,wy,qGN,wy]
 ·unfold leP at h
  split <;> omega
def Ord (l:List qea):Prop:=∀i j,i≤j→j<l.length→leP (l.getD i (qua qia)) (l.getD j (qua qia))
theorem qGK (l:List qea) (hl:l.length≤100000) (ho:Ord l):∀(k i:Nat),i+k=l.length→1≤i→qLa 0 (l.length:Int) (i:Int) l=some l
 |0,i,e,h=>by rw [qgb,if_neg (by simp;omega)]
 |k+1,i,e,h=>by
  have ih:=qGK l hl ho k (i+1) (by omega) (by omega)
  rw [show ((i+1:Nat):Int)=(i:Int)+1 by omega] at ih
  obtain ⟨r,h1,h2⟩:=qFN (l.getD i (qua qia)) (l.getD (i - 1) (qua qia))
  have h3:=h2 (ho (i - 1) i (by omega) (by omega))
  have hw:wd .i64 ((i:Int) - 1)=((i - 1:Nat):Int):=by rw [w64 (by omega) (by omega)];omega
  rw [qgb,if_pos (by simp;omega),qUd]
  simp only [hw,wj,wA,wO]
  rw [if_pos (by simp;omega),qha (by omega),qha (by omega),qha (by omega),qha (by omega),h1,wy,if_neg (by simpa using h3),w64 (x:=(i:Int)+1) (by omega) (by omega),ih]
theorem qSN:qXd 0=some 0:=by
 rw [qGm,qgk]
 refine ug (ue (ug (ub (by decide) (ub (by decide) (ub (by decide) (ua (by decide+kernel) (ua (by decide+kernel) (uc (show _=(0:Int) by decide+kernel)))))))) (uc rfl))
theorem qWJ {l:List qea} (hl:l.length≤12) (ho:Ord l):qHa l=some l:=by
 have hins:qvb 0 (l.length:Int) l=some l:=by
  rw [qwe,show wd .i64 ((0:Int)+1)=1 by decide+kernel]
  by_cases h0:l.length=0
  ·rw [qgb,if_neg (by simp;omega)]
  ·exact qGK l (by omega) ho (l.length - 1) 1 (by omega) (ws _)
 have hp:∀r,qub 0 (l.length:Int) r l=some l:=fun r=>by
  rw [qSc,qzc,w64 (x:=(l.length:Int) - 0) (by omega) (by omega)]
  exact ug (uf (by omega) (ue hins (uc rfl)))
 have hlen:∃r,qXd (wd .u64 (wi l.length))=some r:=by
  by_cases h0:l.length=0
  ·rw [h0,show wd .u64 (wi 0)=0 by decide+kernel];exact ⟨0,qSN⟩
  ·obtain ⟨r,h,_⟩:=qaK (a:=wi l.length) (by simp;omega) (by simp;omega)
   exact ⟨r,h⟩
 obtain ⟨r,hr⟩:=hlen
 rw [qqc,hr]
 exact ug (ue rfl (ue (hp r) (uc rfl)))
theorem qXL {l:List qea} (hl:l.length≤100000):qYb l=some l:=by
 rw [qGf]
 refine qiw false (fun h=>by cases h) (fun x hx=>?_)
 cases x
 ·exact ug (um (fun h=>by cases h) (fun _=>ua (by simp;omega) (uc (waa _))))
 ·exact ug (um (fun h=>uc (hx rfl).symm) (fun h=>absurd rfl h))
def qdD (i:Int):List qea→Int→Prop
 |[],_=>True
 |p::r,e=>if p.1≠i then qdD i r e else p.2.1≤e∧qdD i r (if p.2.1+p.2.2.1>e then p.2.1+p.2.2.1 else e)
def Sml (p:qea):Prop:=0≤p.2.1∧p.2.1≤1000000∧0≤p.2.2.1∧p.2.2.1≤1000000
theorem qCH (n:Nat) (v15:List Int) (v16 i:Int) (h9:List qea) (L:List qea) (hL:L.length≤100000) (hS:∀p∈L,Sml p):∀(k j:Nat) (e:Int),j+k=L.length→0≤e→e≤2000000→qdD i (L.drop j) e→
  qbd n i e v15 v16 i (L.length:Int) (j:Int) L h9=qvc n v15 v16 (wd .i64 (i+1)) L h9
 |0,j,e,hj,h1,h2,ho=>by rw [qLi,if_neg (by simp;omega)]
 |k+1,j,e,hj,h1,h2,ho=>by
  have hd:=qtc (qua qia:qea) (xs:=L) (i:=j) (by omega)
  rw [hd.1] at ho
  have hs:=hS _ hd.2.2
  have ih:=fun e=>qCH n v15 v16 i h9 L hL hS k (j+1) e (by omega)
  rw [show ((j+1:Nat):Int)=(j:Int)+1 by omega] at ih
  rw [qLi]
  simp only [wj,wA,wO]
  rw [if_pos (by simp;omega),qha (by omega),qha (by omega),w64 (x:=(j:Int)+1) (by omega) (by omega)]
  generalize L.getD j (qua qia)=x at*
  obtain ⟨s1,s2,s3,s4⟩:=hs
  rw [qdD] at ho
  by_cases hx:x.1=i
  ·rw [if_neg (by simpa using hx)] at ho
   rw [if_neg (by simpa using hx),if_neg (by have:=ho.1;simp;omega),w64 (x:=x.2.1+x.2.2.1) (by omega) (by omega)]
   exact ih _ (by split <;> omega) (by split <;> omega) ho.2
  ·rw [if_pos hx] at ho
   rw [if_pos (by simpa using hx)]
   exact ih e h1 h2 ho
theorem qBH (n:Nat) (v15:List Int) (v16 i:Int) (h8 h9:List qea) (L:List qea) (hL:L.length≤100000) (hS:∀p∈L,Sml p):∀(k j:Nat) (e:Int),j+k=L.length→0≤e→e≤2000000→qdD i (L.drop j) e→
  qad n i e v15 v16 i (L.length:Int) (j:Int) h8 h9 L=qvc n v15 v16 (wd .i64 (i+1)) h8 h9
 |0,j,e,hj,h1,h2,ho=>by rw [qKi,if_neg (by simp;omega)]
 |k+1,j,e,hj,h1,h2,ho=>by
  have hd:=qtc (qua qia:qea) (xs:=L) (i:=j) (by omega)
  rw [hd.1] at ho
  have hs:=hS _ hd.2.2
  have ih:=fun e=>qBH n v15 v16 i h8 h9 L hL hS k (j+1) e (by omega)
  rw [show ((j+1:Nat):Int)=(j:Int)+1 by omega] at ih
  rw [qKi]
  simp only [wj,wA,wO]
  rw [if_pos (by simp;omega),qha (by omega),qha (by omega),w64 (x:=(j:Int)+1) (by omega) (by omega)]
  generalize L.getD j (qua qia)=x at*
  obtain ⟨s1,s2,s3,s4⟩:=hs
  rw [qdD] at ho
  by_cases hx:x.1=i
  ·rw [if_neg (by simpa using hx)] at ho
   rw [if_neg (by simpa using hx),if_neg (by have:=ho.1;simp;omega),w64 (x:=x.2.1+x.2.2.1) (by omega) (by omega)]
   exact ih _ (by split <;> omega) (by split <;> omega) ho.2
  ·rw [if_pos hx] at ho
   rw [if_pos (by simpa using hx)]
   exact ih e h1 h2 ho
def Cov (sz:List Int) (xs:List qea):Prop:=∀i:Nat,i<sz.length→qdD (i:Int) (xs++[((i:Int),(sz.getD i 0,(0,())))]) 0
theorem qDH (sz:List Int) (hsz:sz.length≤10000) (hz:∀x∈sz,0≤x∧x≤1000000) (xs:List qea) (hx:xs.length≤10000) (hS:∀p∈xs,Sml p) (hC:Cov sz xs) (h9:List qea):∀(k i:Nat) (h8:List qea),i+k=sz.length→h8.take xs.length=xs→
  qvc xs.length sz (sz.length:Int) (i:Int) h8 h9=some h9
 |0,i,h8,e,h=>by rw [qMi,if_neg (by simp;omega)]
 |k+1,i,h8,e,h=>by
  have hd:=qtc (0:Int) (xs:=sz) (i:=i) (by omega)
  have hzi:=hz _ hd.2.2
  have ih:=fun h8=>qDH sz hsz hz xs hx hS hC h9 k (i+1) h8 (by omega)
  rw [show ((i+1:Nat):Int)=(i:Int)+1 by omega] at ih
  have hc:=hC i (by omega)
  have hS':∀p∈xs++[((i:Int),(sz.getD i 0,((0:Int),())))],Sml p:=fun p hp=>by
   rcases wR.1 hp with hp|hp
   ·exact hS p hp
   ·rw [List.mem_singleton.1 hp];exact ⟨hzi.1,hzi.2,wza 0,(show (0:Int)≤1000000 by decide)⟩
  have hlen:(xs++[((i:Int),(sz.getD i 0,((0:Int),())))]).length=xs.length+1:=by simp
  have g2:=qCH xs.length sz (sz.length:Int) (i:Int) h9 _ (by rw [hlen];omega) hS' _ 0 0 (wO _) (by omega) (by omega) hc
  have g3:=qBH xs.length sz (sz.length:Int) (i:Int) h8 h9 _ (by rw [hlen];omega) hS' _ 0 0 (wO _) (by omega) (by omega) hc
  rw [w64 (x:=(i:Int)+1) (by omega) (by omega)] at g2 g3
  rw [qMi]
  simp only [wj,wA,h]
  rw [if_pos (by simp;omega),qha (by omega),qha (by omega)]
  refine qiw true trivial (fun b _=>?_)
  cases b
  ·rw [if_neg (by decide),qha (by rw [hlen];omega)]
   exact g3.trans (ih h8 h)
  ·rw [if_pos rfl,qha (by rw [hlen];omega),qha (by rw [hlen];omega)]
   exact g2.trans (ih _ (List.take_left' rfl))
theorem qYA {sz:List Int} (hsz:sz.length≤10000) (hz:∀x∈sz,0≤x∧x≤1000000) {xs:List qea} (hx:xs.length≤10000) (hso:qHa xs=some xs) (hS:∀p∈xs,Sml p) (hC:Cov sz xs):qMl sz xs=some []:=by
 have h1:=qDH sz hsz hz xs hx hS hC [] sz.length 0 xs (by omega) (wOa)
 rw [qDs]
 exact ug (ue (qXL (by omega)) (ue hso (uj h1 rfl)))
def qEc (rs:List qca):Mm:=rs.map fun r=>(r.1,wn r.2.1.toNat 0)
theorem qvK (rs:List qca) (ps:List qja) (hl:rs.length≤10000) (hs:∀r∈rs,0≤r.2.1∧r.2.1≤1000000):∀(k i:Nat),i+k=rs.length→
  qGj rs ps rs (rs.length:Int) (i:Int) (szs (rs.take i)) (qEc (rs.take i))=qxe rs ps ps (ps.length:Int) 0 (szs rs) (qEc rs) []
 |0,i,e=>by rw [qWm,if_neg (by simp;omega),wL (by omega)];rfl
 |k+1,i,e=>by
  have hd:=qtc (qua qra:qca) (xs:=rs) (i:=i) (by omega)
  have ih:=qvK rs ps hl hs k (i+1) (by omega)
  have hx:=hs _ hd.2.2
  have hti:(rs.take i).length=i:=by rw [wS];omega
  rw [show ((i+1:Nat):Int)=(i:Int)+1 by omega,hd.2.1] at ih
  have e1:szs (rs.take i++[rs.getD i (qua qra)])=szs (rs.take i)++[(rs.getD i (qua qra)).2.1]:=by unfold szs;rw [wBa];rfl
  have e2:qEc (rs.take i++[rs.getD i (qua qra)])=qEc (rs.take i)++[((rs.getD i (qua qra)).1,wn (rs.getD i (qua qra)).2.1.toNat 0)]:=by unfold qEc;rw [wBa];rfl
  rw [e1,e2] at ih
  have l1:(szs (rs.take i)).length=i:=by rw [qKl,hti]
  have l2:(qEc (rs.take i)).length=i:=by unfold qEc;rw [wca,hti]
  rw [qWm]
  simp only [wj,wA]
  rw [if_pos (by simp;omega),qha (by omega),qha (by omega),w64 (x:=(i:Int)+1) (by omega) (by omega)]
  generalize rs.getD i (qua qra)=x at*
  rw [qha (by rw [wl,l1,wv];omega),qha trivial,qha (by omega),qha (by omega),qha (by omega),qha (by rw [wl,l2,wv];omega),ih]
def qrC (rs:List qca) (ms:List qfa):Nat→Nat→Bool
 |0,_=>true
 |k+1,i=>peq (.arr 20 (.int .u8)) (qtw (ms.getD i (qua T_api_Member)).2.1) (rs.getD i (qua qra)).2.2.1&&qrC rs ms k (i+1)
theorem qtK (rs:List qca) (ms:List qfa) (hl:ms.length≤10000) (hr:ms.length≤rs.length) (hm:∀m∈ms,Bts m.2.1∧m.2.1.length≤20000):∀(k i:Nat),i+k=ms.length→
  qBh rs (ms.length:Int) (i:Int) ms=some (if qrC rs ms k i=true then (ms,0) else ([],22))
 |0,i,e=>by rw [qUm,if_neg (by simp;omega)];rfl
 |k+1,i,e=>by
  have hd:=qtc (qua T_api_Member:qfa) (xs:=ms) (i:=i) (by omega)
  have ih:=qtK rs ms hl hr hm k (i+1) (by omega)
  have hx:=hm _ hd.2.2
  rw [show ((i+1:Nat):Int)=(i:Int)+1 by omega] at ih
  rw [qUm]
  simp only [wj,wA,wO]
  rw [if_pos (by simp;omega),qha (by omega),qha (by omega),qDt _ hx.1,if_pos hx.2,wy,qha (by omega),qha (by omega),w64 (x:=(i:Int)+1) (by omega) (by omega),ih,qrC]
  by_cases hp:peq (.arr 20 (.int .u8)) (qtw (ms.getD i (qua T_api_Member)).2.1) (rs.getD i (qua qra)).2.2.1=true
  ·rw [if_neg (by rw [hp];decide),hp,Bool.true_and]
  ·rw [Bool.not_eq_true] at hp
   rw [if_pos (by rw [hp];rfl),hp,Bool.false_and,if_neg (by decide)]
def Win (sz:List Int) (p:qea):Prop:=0≤p.1∧p.1<sz.length∧0≤p.2.1∧0<p.2.2.1∧p.2.1+p.2.2.1≤sz.getD p.1.toNat 0∧sz.getD p.1.toNat 0≤1000000
theorem qaJ {sz:List Int} {p:qea} (h:Win sz p):qTm sz p=some true:=by
 obtain ⟨h1,h2,h3,h4,h5,h6⟩:=h
 rw [qPt]
 simp only [wj]
 rw [w64 (x:=sz.getD p.1.toNat 0 - p.2.1) (by omega) (by omega)]
 refine ug (uf h1 (uf h2 (uf h3 (uf h4 (ua h1 (ua h2 (uf (by omega) (ua h1 (ua h2 (uc ?_))))))))))
 rw [decide_eq_true_eq];omega
theorem quK (rs:List qca) (ps:List qja) (sz:List Int) (h0:Mm) (hps:ps.length≤600) (hw:∀p∈ps,Win sz p.1∧(p.2.1.length:Int)=p.1.2.2.1):∀(k i:Nat),i+k=ps.length→
  qxe rs ps ps (ps.length:Int) (i:Int) sz h0 ((ps.take i).map (·.1))=qxe rs ps ps (ps.length:Int) (ps.length:Int) sz h0 (ps.map (·.1))
 |0,i,e=>by
  have:i=ps.length:=by omega
  subst this
  rw [wOa]
 |k+1,i,e=>by
  have hd:=qtc (qua qGa:qja) (xs:=ps) (i:=i) (by omega)
  have ih:=quK rs ps sz h0 hps hw k (i+1) (by omega)
  have hx:=hw _ hd.2.2
  have hti:(ps.take i).length=i:=by rw [wS];omega
  rw [show ((i+1:Nat):Int)=(i:Int)+1 by omega,hd.2.1,wBa,List.map_singleton] at ih
  rw [qVm]
  simp only [wj,wA]
  rw [if_pos (by simp;omega),qha (by omega),qha (by omega),w64 (x:=(i:Int)+1) (by omega) (by omega)]
  generalize ps.getD i (qua qGa)=x at*
  rw [qaJ hx.1,wy,if_neg (by decide),if_neg (by simpa using hx.2),qha (by rw [wl,wca,hti,wv];omega),ih]
theorem qfy (rs:List qca):(qEc rs).length=rs.length:=wca ..
theorem qwG {rs:List qca} {ps:List qja} (hR:RecsOK rs) (hv:qdp rs=0) (hl:rs.length≤10000) (hs:∀r∈rs,0≤r.2.1∧r.2.1≤20000) (hps:ps.length≤600) (hw:∀p∈ps,Win (szs rs) p.1∧(p.2.1.length:Int)=p.1.2.2.1)
  (hf:qgC ps (qEc rs) (qQn (qEc rs))) (hso:qHa (ps.map (·.1))=some (ps.map (·.1))) (hS:∀p∈ps,Sml p.1) (hC:Cov (szs rs) (ps.map (·.1)))
  (hln:(putL ps (qEc rs)).length=rs.length) (hm:∀m∈putL ps (qEc rs),Bts m.2∧m.2.length≤20000):
  qfl rs ps=some (if qrC rs (qxi (a:= .str) (e:= .int .u8) (putL ps (qEc rs))) rs.length 0=true then (qxi (a:= .str) (e:= .int .u8) (putL ps (qEc rs)),0) else ([],22)):=by
 have hbl:∀x∈qEc rs,x.2.length≤1000000:=fun x hx=>by
  obtain ⟨r,hr,rfl⟩:=wP.1 hx
  have:=hs r hr
  simp;omega
 have hfill:=qbI ps (qEc rs) (by omega) (by rw [qfy];omega) hbl hf
 have hmis:=qYA (sz:=szs rs) (by rw [qKl];omega) (fun x hx=>by obtain ⟨r,hr,rfl⟩:=wP.1 hx;have:=hs r hr;omega) (xs:=ps.map (·.1)) (by simp;omega) hso (fun p hp=>by obtain ⟨q,hq,rfl⟩:=wP.1 hp;exact hS q hq) hC
 have h1:=qvK rs ps hl (fun r hr=>by have:=hs r hr;omega) rs.length 0 (by omega)
 have h2:=quK rs ps (szs rs) (qEc rs) hps hw ps.length 0 (by omega)
 have hfl:(qxi (a:= .str) (e:= .int .u8) (putL ps (qEc rs))).length=rs.length:=(qwi (a:= .str) (e:= .int .u8) _).trans hln
 have hfb:(qxi (a:= .str) (e:= .int .u8) (qEc rs)).length=rs.length:=(qwi (a:= .str) (e:= .int .u8) _).trans (qfy rs)
 have h3:=qtK rs (qxi (a:= .str) (e:= .int .u8) (putL ps (qEc rs))) (by rw [hfl];exact hl) (by rw [hfl];exact ws _) (fun m hmm=>by
  obtain ⟨x,hx,rfl⟩:=wP.1 hmm
  exact hm x hx) rs.length 0 (by rw [hfl];omega)
 rw [hfl] at h3
 have h4:qxe rs ps ps (ps.length:Int) (ps.length:Int) (szs rs) (qEc rs) (ps.map (·.1))=qBh rs (rs.length:Int) 0 (qxi (a:= .str) (e:= .int .u8) (putL ps (qEc rs))):=by
  rw [qVm,if_neg (by simp),hfill,wy,if_neg (show ¬((!true)=true) by decide),hmis,wy,if_neg (by decide),hfb]
  rfl
 rw [qmA,qdh rs hR,hv]
 refine ug (ue rfl (ud rfl (ub (by simp;omega) ?_)))
 exact uj ((h1.trans h2).trans (h4.trans h3)) rfl
def Chn (i:Nat):Nat→List qja→Prop
 |_,[]=>True
 |off,p::r=>p.1.1=(i:Int)∧p.1.2.1=(off:Int)∧p.1.2.2.1=(p.2.1.length:Int)∧0<p.2.1.length∧Chn i (off+p.2.1.length) r
def dat (qs:List qja):List Int:=qs.flatMap fun p=>p.2.1
theorem qKp:dat []=[]:=rfl
theorem qAz (p:qja) (r:List qja):dat (p::r)=p.2.1++dat r:=List.flatMap_cons
theorem qKr (p:qja) (r:List qja):(dat (p::r)).length=p.2.1.length+(dat r).length:=by rw [qAz,wl]
def ChnL:Nat→List (List qja)→Prop
 |_,[]=>True
 |i,q::r=>Chn i 0 q∧ChnL (i+1) r
def SzL:List qca→List (List qja)→Prop
 |[],[]=>True
 |r::rs,q::qs=>r.2.1=((dat q).length:Int)∧(dat q).length≤20000∧SzL rs qs
 |_,_=>False
def qJy:List qca→List (List qja)→Mm
 |r::rs,q::qs=>(r.1,dat q)::qJy rs qs
 |_,_=>[]
theorem qhj {α:Type} {dn tl:List α} {e d:α}:(dn++e::tl).getD dn.length d=e:=by
 rw [wt,wda (ws _),Nat.sub_self];rfl
theorem qbE {α:Type} {dn tl:List α} {e f:α}:(dn++e::tl).set dn.length f=dn++f::tl:=by
 rw [List.set_append_right _ _ (ws _),Nat.sub_self,List.set_cons_zero]
theorem qhH (nm:ByteArray) (dn:Mm) (dn8:List (List Bool)) (tl:Mm) (tl8:List (List Bool)) (h8:dn8.length=dn.length) (rest:List qja) (n:Nat) (hn:n≤1000000):
  ∀(qs:List qja) (pre:List Int),Chn dn.length pre.length qs→pre.length+(dat qs).length=n→
   (qgC rest (dn++(nm,pre++dat qs)::tl) (dn8++wn n true::tl8)→qgC (qs++rest) (dn++(nm,pre++wn (n - pre.length) 0)::tl) (dn8++(wn pre.length true++wn (n - pre.length) false)::tl8))∧
   putL (qs++rest) (dn++(nm,pre++wn (n - pre.length) 0)::tl)=putL rest (dn++(nm,pre++dat qs)::tl)
 |[],pre,_,hl=>by
  rw [qKp,wN,wXa] at hl
  subst hl
  rw [Nat.sub_self,qKp]
  simp only [List.replicate_zero,wQ,waa]
  exact ⟨id,trivial⟩
 |p::qs,pre,hc,hl=>by
  obtain ⟨c1,c2,c3,c4,c5⟩:=hc
  rw [qKr] at hl
  have ih:=qhH nm dn dn8 tl tl8 h8 rest n hn qs (pre++p.2.1) (by rw [wl];exact c5) (by rw [wl];omega)
  rw [wl] at ih
  have hM:pM p=dn.length:=by unfold pM;rw [c1];rfl
  have hO:pO p=pre.length:=by unfold pO;rw [c2];rfl
  have e0:qkL p (dn++(nm,pre++wn (n - pre.length) 0)::tl)=dn++(nm,(pre++p.2.1)++wn (n - (pre.length+p.2.1.length)) 0)::tl:=by
   unfold qkL
   rw [hM,hO,qhj,qbE,qCG (by rw [wX];omega),List.drop_replicate,Nat.sub_sub]
  have e8:qpM p (dn8++(wn pre.length true++wn (n - pre.length) false)::tl8)=dn8++(wn (pre.length+p.2.1.length) true++wn (n - (pre.length+p.2.1.length)) false)::tl8:=by
   unfold qpM
   rw [hM,hO,←h8,qhj,qbE]
   have:=qCG (ys:=p.2.1.map fun _=>true) (dn:=wn pre.length true) (zs:=wn (n - pre.length) false) (by rw [wca,wX];omega)
   rw [wX] at this
   rw [this,List.drop_replicate,wca,Nat.sub_sub,List.map_const',List.replicate_append_replicate]
  have e9:pre++dat (p::qs)=(pre++p.2.1)++dat qs:=by rw [qAz,wB]
  rw [wba,e9]
  refine ⟨fun h=>⟨⟨by rw [c1];omega,by rw [hM,wl,ww];omega,by rw [c2];omega,by rw [hO];omega,?_,?_,?_⟩,?_⟩,?_⟩
  ·rw [hM,qhj,←h8,qhj];simp
  ·rw [hM,hO,←h8,qhj];simp;omega
  ·rw [hM,hO,←h8,qhj]
   intro j h1 h2
   rw [wt,wda (by rw [wX];exact h1),wX,List.getElem?_replicate]
   split <;> rfl
  ·rw [e0,e8];exact ih.1 h
  ·rw [putL,e0];exact ih.2
theorem qmE:∀(qss:List (List qja)) (rs:List qca) (dn:Mm) (dn8:List (List Bool)),dn8.length=dn.length→ChnL dn.length qss→SzL rs qss→
  qgC qss.flatten (dn++qEc rs) (dn8++qQn (qEc rs))∧putL qss.flatten (dn++qEc rs)=dn++qJy rs qss
 |[],[],dn,dn8,h8,_,_=>by simp [qEc,qJy,putL,qgC]
 |[],_::_,_,_,_,_,h=>h.elim
 |_::_,[],_,_,_,_,h=>h.elim
 |q::qss,r::rs,dn,dn8,h8,hc,hs=>by
  obtain ⟨s1,s2,s3⟩:=hs
  have h:=qhH r.1 dn dn8 (qEc rs) (qQn (qEc rs)) h8 qss.flatten (dat q).length (by omega) q [] hc.1 (by simp)
  simp only [waa,wN,wYa,List.replicate_zero] at h
  have ih:=qmE qss rs (dn++[(r.1,dat q)]) (dn8++[wn (dat q).length true]) (by simp [h8]) (by simpa using hc.2) s3
  have e1:qEc (r::rs)=(r.1,wn (dat q).length 0)::qEc rs:=by
   show (r.1,wn r.2.1.toNat 0)::_=_
   rw [s1];rfl
  have e2:qQn (qEc (r::rs))=wn (dat q).length false::qQn (qEc rs):=by
   rw [e1]
   show wn (wn (dat q).length (0:Int)).length false::_=_
   rw [wX];rfl
  rw [wsb,e2,e1,qJy]
  rw [wB,wB,wB] at ih
  exact ⟨h.1 ih.1,h.2.trans ih.2⟩
theorem qIy:∀{rs:List qca} {qss:List (List qja)},SzL rs qss→(qJy rs qss).length=rs.length
 |[],[],_=>rfl
 |[],_::_,h=>h.elim
 |_::_,[],h=>h.elim
 |_::rs,_::qss,h=>by rw [qJy,ww,ww,qIy h.2.2]
theorem Chn.at:∀{qs:List qja} {i off:Nat},Chn i off qs→∀p∈qs,p.1.1=(i:Int)∧(off:Int)≤p.1.2.1∧0<p.1.2.2.1∧p.1.2.2.1=(p.2.1.length:Int)∧p.1.2.1+p.1.2.2.1≤(off:Int)+((dat qs).length:Int)
 |[],_,_,_,p,hp=>by cases hp
 |x::qs,i,off,⟨c1,c2,c3,c4,c5⟩,p,hp=>by
  rw [qKr]
  rcases wU.1 hp with rfl|hp
  ·exact ⟨c1,by omega,by omega,c3,by omega⟩
  ·obtain ⟨h1,h2,h3,h4,h5⟩:=Chn.at c5 p hp
   exact ⟨h1,by omega,h3,h4,by omega⟩
theorem ChnL.at:∀{qss:List (List qja)} {rs:List qca} {k:Nat},ChnL k qss→SzL rs qss→∀p∈qss.flatten,(k:Int)≤p.1.1∧p.1.1<(k:Int)+(rs.length:Int)∧0≤p.1.2.1∧0<p.1.2.2.1∧p.1.2.2.1=(p.2.1.length:Int)∧p.1.2.1+p.1.2.2.1≤(szs rs).getD (p.1.1.toNat - k) 0∧(szs rs).getD (p.1.1.toNat - k) 0≤20000
 |[],_,_,_,_,p,hp=>by simp at hp
 |_::_,[],_,_,h,_,_=>h.elim
 |q::qss,r::rs,k,⟨c1,c2⟩,⟨s1,s2,s3⟩,p,hp=>by
  rw [wsb,wR] at hp
  rw [ww]
  rcases hp with hp|hp
  ·obtain ⟨h1,h2,h3,h4,h5⟩:=Chn.at c1 p hp
   rw [h1]
   have e:(szs (r::rs)).getD ((k:Int).toNat - k) 0=r.2.1:=by rw [wA,Nat.sub_self];rfl
   rw [e]
   exact ⟨by omega,by omega,by omega,h3,h4,by omega,by omega⟩
  ·obtain ⟨h1,h2,h3,h4,h5,h6,h7⟩:=ChnL.at c2 s3 p hp
   have e:(szs (r::rs)).getD (p.1.1.toNat - k) 0=(szs rs).getD (p.1.1.toNat - (k+1)) 0:=by
    rw [show p.1.1.toNat - k=(p.1.1.toNat - (k+1))+1 by omega];rfl
   rw [e]
   exact ⟨by omega,by omega,h3,h4,h5,h6,h7⟩
theorem qzv {i:Int} {ys:List qea} {e:Int}:∀{xs:List qea},(∀p∈xs,p.1≠i)→(qdD i (xs++ys) e↔qdD i ys e)
 |[],_=>Iff.rfl
 |x::xs,h=>by
  rw [wba,qdD,if_pos (h x (wK ..))]
  exact qzv fun p hp=>h p (wH _ hp)
theorem qHE {i:Nat} {ys:List qea}:∀{qs:List qja} {off:Nat},Chn i off qs→(qdD (i:Int) (qs.map (·.1)++ys) (off:Int)↔qdD (i:Int) ys ((off+(dat qs).length:Nat):Int))
 |[],off,_=>by simp [qKp]
 |x::qs,off,⟨c1,c2,c3,c4,c5⟩=>by
  rw [wJ,wba,qdD,if_neg (by rw [c1];exact fun h=>h rfl),c2,c3,if_pos (by omega),qKr]
  have:=qHE (ys:=ys) c5
  rw [show (off:Int)+(x.2.1.length:Int)=((off+x.2.1.length:Nat):Int) by omega,this,wxa]
  exact ⟨fun h=>h.2,fun h=>⟨wza _,h⟩⟩
theorem qUH:∀{qss:List (List qja)} {rs:List qca} {k:Nat},ChnL k qss→SzL rs qss→∀i:Nat,i<rs.length→qdD ((k+i:Nat):Int) (qss.flatten.map (·.1)++[(((k+i:Nat):Int),((szs rs).getD i 0,(0,())))]) 0
 |[],[],_,_,_,i,h=>by simp at h
 |[],_::_,_,_,h,_,_=>h.elim
 |_::_,[],_,_,h,_,_=>h.elim
 |q::qss,r::rs,k,⟨c1,c2⟩,⟨s1,s2,s3⟩,i,hi=>by
  rw [wsb,wBa,wB]
  cases i with
  |zero=>
   rw [wXa]
   rw [show (0:Int)=((0:Nat):Int) from rfl,qHE c1,qzv (fun p hp=>by
    obtain ⟨x,hx,rfl⟩:=wP.1 hp
    have:=(ChnL.at c2 s3 x hx).1
    omega)]
   rw [qdD,if_neg (fun h=>h rfl)]
   refine ⟨?_,trivial⟩
   show r.2.1≤_
   rw [s1];omega
  |succ i=>
   rw [qzv (fun p hp=>by
    obtain ⟨x,hx,rfl⟩:=wP.1 hp
    have:=(Chn.at c1 x hx).1
    omega)]
   have ih:=qUH c2 s3 i (by simpa using hi)
   rw [show k+1+i=k+(i+1) by omega] at ih
   exact ih
theorem qWL {qss:List (List qja)} {rs:List qca} (hc:ChnL 0 qss) (hs:SzL rs qss):Cov (szs rs) (qss.flatten.map (·.1)):=fun i hi=>by
 have:=qUH hc hs i (by rwa [qKl] at hi)
 rwa [wO] at this
theorem qrK:∀{qs:List qja} {i off:Nat},Chn i off qs→(qs.map (·.1)).Pairwise leP
 |[],_,_,_=>List.Pairwise.nil
 |x::qs,i,off,⟨c1,c2,c3,c4,c5⟩=>by
  rw [wJ,List.pairwise_cons]
  refine ⟨fun p hp=>?_,qrK c5⟩
  obtain ⟨y,hy,rfl⟩:=wP.1 hp
  have:=Chn.at c5 y hy
  exact .inr ⟨by omega,by omega⟩
theorem qsK:∀{qss:List (List qja)} {rs:List qca} {k:Nat},ChnL k qss→SzL rs qss→(qss.flatten.map (·.1)).Pairwise leP
 |[],_,_,_,_=>List.Pairwise.nil
 |_::_,[],_,_,h=>h.elim
 |q::qss,r::rs,k,⟨c1,c2⟩,⟨s1,s2,s3⟩=>by
  rw [wsb,wBa,List.pairwise_append]
  refine ⟨qrK c1,qsK c2 s3,fun a ha b hb=>?_⟩
  obtain ⟨x,hx,rfl⟩:=wP.1 ha
  obtain ⟨y,hy,rfl⟩:=wP.1 hb
  have h1:=(Chn.at c1 x hx).1
  have h2:=(ChnL.at c2 s3 y hy).1
  exact .inl (by omega)
theorem qaN {l:List qea} (h:l.Pairwise leP):Ord l:=fun i j hij hj=>by
 simp only [wt,wx hj,wx (Nat.lt_of_le_of_lt hij hj),wJa]
 rcases Nat.lt_or_eq_of_le hij with h1|h1
 ·exact List.pairwise_iff_getElem.1 h i j _ hj h1
 ·subst h1;exact .inr ⟨rfl,wza _⟩
theorem qTL {rs:List qca} {qss:List (List qja)} (hR:RecsOK rs) (hv:qdp rs=0) (hl:rs.length≤10000) (hc:ChnL 0 qss) (hs:SzL rs qss) (hps:qss.flatten.length≤600)
  (hso:qHa (qss.flatten.map (·.1))=some (qss.flatten.map (·.1))) (hb:∀q∈qss,Bts (dat q)):
  qfl rs qss.flatten=some (if qrC rs (qxi (a:= .str) (e:= .int .u8) (qJy rs qss)) rs.length 0=true then (qxi (a:= .str) (e:= .int .u8) (qJy rs qss),0) else ([],22)):=by
 have hsz:∀(rs:List qca) (qss:List (List qja)),SzL rs qss→∀r∈rs,0≤r.2.1∧r.2.1≤20000:=by
  intro rs
  induction rs with
  |nil=>intro _ _ r hr;cases hr
  |cons r rs ih=>
   intro qss h x hx
   cases qss with
   |nil=>exact h.elim
   |cons q qss=>
    rcases wU.1 hx with rfl|hx
    ·have:=h.1;have:=h.2.1;omega
    ·exact ih qss h.2.2 x hx
 have hpa:=qmE qss rs [] [] rfl hc hs
 simp only [waa] at hpa
 have hat:=fun p hp=>ChnL.at hc hs p hp
 have hmm:∀(rs:List qca) (qss:List (List qja)),SzL rs qss→(∀q∈qss,Bts (dat q))→∀m∈qJy rs qss,Bts m.2∧m.2.length≤20000:=by
  intro rs
  induction rs with
  |nil=>intro qss h _ m hm;cases qss <;> simp [qJy] at hm
  |cons r rs ih=>
   intro qss h hb m hm
   cases qss with
   |nil=>exact h.elim
   |cons q qss=>
    rw [qJy] at hm
    rcases wU.1 hm with rfl|hm
    ·exact ⟨hb q (wK ..),h.2.1⟩
    ·exact ih qss h.2.2 (fun q hq=>hb q (wH _ hq)) m hm
 have h:=qwG (rs:=rs) (ps:=qss.flatten) hR hv hl (hsz rs qss hs) hps (fun p hp=>by
  obtain ⟨h1,h2,h3,h4,h5,h6,h7⟩:=hat p hp
  rw [wYa] at h6 h7
  exact ⟨⟨by omega,by rw [qKl];omega,h3,h4,h6,by omega⟩,h5.symm⟩) hpa.1 hso (fun p hp=>by
  obtain ⟨h1,h2,h3,h4,h5,h6,h7⟩:=hat p hp
  exact ⟨h3,by omega,by omega,by omega⟩) (qWL hc hs) (by rw [hpa.2];exact qIy hs) (by rw [hpa.2];exact hmm rs qss hs hb)
 rw [hpa.2] at h
 exact h
theorem qoE (i n s:Int) (hs:16≤s):∀(k:Nat) (off:Int),16*((pcs i n s k off).length:Int)≤(if off<n then n - off+15 else 0)
 |0,off=>by simp only [pcs];split <;> simp;omega
 |k+1,off=>by
  have ih:=qoE i n s hs k (off+s)
  simp only [pcs]
  split
  ·rw [ww]
   split at ih <;> omega
  ·simp
theorem qJI (s:Int) (hs:16≤s):∀(rs:List qca) (i:Int),(∀r∈rs,0≤r.2.1)→16*((ap s i rs).length:Int)≤tot rs+15*(rs.length:Int)
 |[],i,_=>by simp [ap,tot]
 |r::rs,i,h=>by
  have ih:=qJI s hs rs (i+1) fun x hx=>h x (wH _ hx)
  have h1:=qoE i r.2.1 s hs 8200 0
  have h2:=h r (wK ..)
  rw [ap,wl,ww]
  have e:tot (r::rs)=r.2.1+tot rs:=rfl
  split at h1 <;> omega
theorem qfO {l:List Int} (h:l.all (fun x=>decide (0≤x∧x<256))=true):Bts l:=fun x hx=>of_decide_eq_true (wAa.1 h x hx)
theorem qQG (a:List qfa) (hl:a.length≤100000):∀(k i:Nat),i+k=a.length→qVb a a (i:Int)=some true
 |0,i,e=>by rw [qSd,if_neg (by simp;omega)]
 |k+1,i,e=>by
  have ih:=qQG a hl k (i+1) (by omega)
  rw [show ((i+1:Nat):Int)=(i:Int)+1 by omega] at ih
  rw [qSd]
  simp only [wj]
  rw [if_pos (by simp;omega),qha (by omega),qha (by omega),qha (by omega),qha (by omega),if_neg (by simp),qha (by omega),qha (by omega),qha (by omega),qha (by omega),if_neg (by simp),w64 (by omega) (by omega),ih]
theorem qxA (a:List qfa) (hl:a.length≤100000):qKd a a=some true:=by
 rw [qvj,if_neg (by simp)]
 exact qQG a hl a.length 0 (by omega)
def qLK (i:Nat):∀(off:Nat) (qs:List qja),Decidable (Chn i off qs)
 |_,[]=>isTrue trivial
 |off,p::r=>@instDecidableAnd _ _ _ (@instDecidableAnd _ _ _ (@instDecidableAnd _ _ _ (@instDecidableAnd _ _ _ (qLK i (off+p.2.1.length) r))))
instance (i off:Nat) (qs:List qja):Decidable (Chn i off qs):=qLK i off qs
def quI:∀(i:Nat) (qs:List (List qja)),Decidable (ChnL i qs)
 |_,[]=>isTrue trivial
 |i,q::r=>@instDecidableAnd _ _ _ (quI (i+1) r)
instance (i:Nat) (qs:List (List qja)):Decidable (ChnL i qs):=quI i qs
def qKK:∀(rs:List qca) (qs:List (List qja)),Decidable (SzL rs qs)
 |[],[]=>isTrue trivial
 |_::rs,_::qs=>@instDecidableAnd _ _ _ (@instDecidableAnd _ _ _ (qKK rs qs))
 |[],_::_=>isFalse id
 |_::_,[]=>isFalse id
instance (rs:List qca) (qs:List (List qja)):Decidable (SzL rs qs):=qKK rs qs
theorem qAt:∀(a b:List qza),qqf (a++b)=qqf a++qqf b
 |[],b=>rfl
 |x::a,b=>by rw [wba,qqf,qqf,qAt a b,wB]
theorem qQH (h:qla):peq qAa h h=true:=by
 simp only [peq,decide_true,Bool.true_and,Bool.and_true]
 exact qIh (fun y=>by simp) _
theorem uq {α:Type} {c:Prop} {i:Decidable c} {x y:Option α} {Q:α→Prop} (h:c) (h1:Tot x Q):Tot (@ite _ c i x y) Q:=by rw [if_pos h];exact h1
theorem un {α:Type} {c:Prop} {i:Decidable c} {x y:Option α} {Q:α→Prop} (h:¬c) (h1:Tot y Q):Tot (@ite _ c i x y) Q:=by rw [if_neg h];exact h1
theorem qCy (l:List qea) (ho:Ord l) (i j:Nat) (h:i≤j) (hj:j<l.length):qdb (i:Int) (j:Int) l 0=some ((i:Int),((j:Int),(l,0))):=by
 obtain ⟨r,h1,h2⟩:=qFN (l.getD j (qua qia)) (l.getD i (qua qia))
 have h3:=h2 (ho i j h hj)
 rw [qkg]
 simp only [wj,wA,wO]
 exact ug (ua (by omega) (ua (by omega) (ua (by omega) (ua (by omega) (ue h1 (ub h3 (uc rfl)))))))
theorem qMy (l:List qea) (ho:Ord l) (i j k:Nat) (h1:i≤j) (h2:j≤k) (hk:k<l.length):qeb (i:Int) (j:Int) (k:Int) l 0=some ((j:Int),(l,0)):=by
 rw [qlg]
 exact ug (ue (qCy l ho i j h1 (by omega)) (ue (qCy l ho j k h2 hk) (ue (qCy l ho i j h1 (by omega)) (uc rfl))))
theorem qNy (l:List qea) (ho:Ord l) (hl:l.length≤255) (i:Nat) (h1:1≤i) (hk:i+1<l.length):qQa (i:Int) l 0=some ((i:Int),(l,0)):=by
 rw [qhe,w64 (x:=(i:Int) - 1) (by omega) (by omega),w64 (x:=(i:Int)+1) (by omega) (by omega),show (i:Int) - 1=((i - 1:Nat):Int) by omega,show (i:Int)+1=((i+1:Nat):Int) by omega]
 exact ug (ue (qMy l ho (i - 1) i (i+1) (by omega) (by omega) hk) (uc rfl))
theorem qmL (l:List qea) (ho:Ord l) (hl:l.length≤255) (h12:12<l.length):∃p,qIb 0 (l.length:Int) l=some (p,(1,l)):=by
 rw [qZe]
 have hq:Int.tdiv (l.length:Int) 4=((l.length/4:Nat):Int):=by rw [Int.tdiv_eq_ediv_of_nonneg (by omega)];omega
 rw [w64 (x:=(l.length:Int) - 0) (by omega) (by omega),Int.sub_zero,hq,w64 (x:=((l.length/4:Nat):Int)) (by omega) (by omega),w64 (x:=((l.length/4:Nat):Int)*1) (by omega) (by omega),w64 (x:=((l.length/4:Nat):Int)*2) (by omega) (by omega),w64 (x:=((l.length/4:Nat):Int)*3) (by omega) (by omega),
  w64 (x:=0+((l.length/4:Nat):Int)*1) (by omega) (by omega),w64 (x:=0+((l.length/4:Nat):Int)*2) (by omega) (by omega),w64 (x:=0+((l.length/4:Nat):Int)*3) (by omega) (by omega),
  show 0+((l.length/4:Nat):Int)*1=((l.length/4:Nat):Int) by omega,show 0+((l.length/4:Nat):Int)*2=((l.length/4*2:Nat):Int) by omega,show 0+((l.length/4:Nat):Int)*3=((l.length/4*3:Nat):Int) by omega]
 refine ⟨((l.length/4*2:Nat):Int),ug (ua (by decide) (ua (by decide) (ua (by decide) (uf (by omega) (uh (fun _=>?_) (fun _=>?_))))))⟩
 ·exact ue (qNy l ho hl _ (by omega) (by omega)) (ue (qNy l ho hl _ (by omega) (by omega)) (ue (qNy l ho hl _ (by omega) (by omega)) (ue (qMy l ho _ _ _ (by omega) (by omega) (by omega)) (uq rfl (uc rfl)))))
 ·exact ue (qMy l ho _ _ _ (by omega) (by omega) (by omega)) (uq rfl (uc rfl))
theorem qTx (l:List qea) (ho:Ord l) (hl:l.length≤255):∀(k i:Nat),i+k=l.length→1≤i→qMa 0 (l.length:Int) (i:Int) 0 l=some (true,l)
 |0,i,e,h=>by
  rw [qtb,if_neg (by simp;omega),if_pos (by rw [beq_iff_eq];omega)]
 |k+1,i,e,h=>by
  have ih:=qTx l ho hl k (i+1) (by omega) (by omega)
  rw [show ((i+1:Nat):Int)=(i:Int)+1 by omega] at ih
  obtain ⟨r,h1,h2⟩:=qFN (l.getD i (qua qia)) (l.getD (i - 1) (qua qia))
  have h3:=h2 (ho (i - 1) i (by omega) (by omega))
  rw [qtb]
  simp only [wj,wA,wO]
  rw [w64 (x:=(i:Int) - 1) (by omega) (by omega),w64 (x:=(i:Int)+1) (by omega) (by omega),show ((i:Int) - 1).toNat=i - 1 by omega]
  exact ug (uf (by omega) (ua (by omega) (ua (by omega) (ua (by omega) (ua (by omega) (ue h1 (uq (by rw [decide_eq_false h3];rfl) (uj ih rfl))))))))
theorem qOI {l:List qea} (hl:l.length≤255) (ho:Ord l):qHa l=some l:=by
 by_cases h12:l.length≤12
 ·exact qWJ h12 ho
 ·obtain ⟨r,hr,hr1,hr2,_⟩:=qaK (a:=wi l.length) (by simp;omega) (by simp;omega)
  obtain ⟨p,hp⟩:=qmL l ho hl (by omega)
  have hpart:qcb 0 (l.length:Int) l=some (true,l):=by
   rw [qpd,show wd .i64 ((0:Int)+1)=1 by decide+kernel,qRc]
   exact ug (uf (by decide) (uj (qTx l ho hl (l.length - 1) 1 (by omega) (by omega)) rfl))
  have hs:qub 0 (l.length:Int) r l=some l:=by
   rw [qSc,qzc,w64 (x:=(l.length:Int) - 0) (by omega) (by omega)]
   exact ug (ub (by omega) (un (by rw [beq_iff_eq];omega) (un (by decide) (ue hp (un (show ¬((1:Int)==2)=true by decide) (uq rfl (uq rfl (uq rfl (ue hpart (uq rfl (uc rfl)))))))))))
  rw [qqc,hr]
  exact ug (ue rfl (ue hs (uc rfl)))
theorem qQK:∀(k:Nat) (i:Nat) (n s:Int) (off:Nat) (ps:List qja),16≤s→ps.map (·.1)=pcs (i:Int) n s k (off:Int)→(∀p∈ps,(p.2.1.length:Int)=p.1.2.2.1)→n - off≤16*(k:Int)→Chn i off ps∧((off:Int)≤n→((dat ps).length:Int)=n - off)
 |0,i,n,s,off,ps,hs,hm,hl,hk=>by
  rw [pcs,List.map_eq_nil_iff] at hm
  subst hm
  refine ⟨trivial,fun h=>?_⟩
  rw [qKp,wN];omega
 |k+1,i,n,s,off,ps,hs,hm,hl,hk=>by
  rw [pcs] at hm
  split at hm
  ·rename_i ho
   cases ps with
   |nil=>cases hm
   |cons p r=>
    rw [wJ,wFa] at hm
    obtain ⟨h1,h2⟩:=hm
    have hpl:=hl p (wK ..)
    rw [h1] at hpl
    have hpl2:(p.2.1.length:Int)=if s<n - (off:Int) then s else n - (off:Int):=hpl
    by_cases hs2:s<n - (off:Int)
    ·rw [if_pos hs2] at hpl2
     have e:(off:Int)+s=((off+p.2.1.length:Nat):Int):=by omega
     rw [e] at h2
     obtain ⟨c1,c2⟩:=qQK k i n s (off+p.2.1.length) r hs h2 (fun q hq=>hl q (wH _ hq)) (by omega)
     refine ⟨⟨by rw [h1],by rw [h1],(hl p (wK ..)).symm,by omega,c1⟩,fun _=>?_⟩
     have:=c2 (by omega)
     rw [qKr];omega
    ·rw [if_neg hs2] at hpl2
     have hr:r=[]:=by
      have h0:pcs (i:Int) n s k ((off:Int)+s)=[]:=by
       cases k with
       |zero=>rfl
       |succ k=>rw [pcs,if_neg (by omega)]
      rw [h0,List.map_eq_nil_iff] at h2;exact h2
     subst hr
     refine ⟨⟨by rw [h1],by rw [h1],(hl p (wK ..)).symm,by omega,trivial⟩,fun _=>?_⟩
     rw [qKr,qKp,wN];omega
  ·rename_i ho
   rw [List.map_eq_nil_iff] at hm
   subst hm
   refine ⟨trivial,fun h=>?_⟩
   rw [qKp,wN];omega
theorem qPK (s:Int) (hs:16≤s):∀(rs:List qca) (i:Nat) (ps:List qja),ps.map (·.1)=ap s (i:Int) rs→(∀p∈ps,(p.2.1.length:Int)=p.1.2.2.1)→(∀r∈rs,0≤r.2.1∧r.2.1≤8192)→∃qss,qss.flatten=ps∧ChnL i qss∧SzL rs qss
 |[],i,ps,hm,_,_=>by
  rw [ap,List.map_eq_nil_iff] at hm
  exact ⟨[],by rw [hm];rfl,trivial,trivial⟩
 |r::rs,i,ps,hm,hl,hz=>by
  rw [ap] at hm
  obtain ⟨p1,p2,rfl,h1,h2⟩:=List.map_eq_append_iff.1 hm
  have hr:=hz r (wK ..)
  obtain ⟨c1,c2⟩:=qQK 8200 i r.2.1 s 0 p1 hs h1 (fun p hp=>hl p (List.mem_append_left _ hp)) (by omega)
  have e:(i:Int)+1=((i+1:Nat):Int):=by omega
  rw [e] at h2
  obtain ⟨qss,q1,q2,q3⟩:=qPK s hs rs (i+1) p2 h2 (fun p hp=>hl p (List.mem_append_right _ hp)) (fun x hx=>hz x (wH _ hx))
  have:=c2 (by omega)
  exact ⟨p1::qss,by rw [wsb,q1],⟨c1,q2⟩,by omega,by omega,q3⟩
theorem qkK:∀{rs:List qca} {qss:List (List qja)} {j:Nat},SzL rs qss→j<rs.length→rs.length=qss.length∧(rs.getD j (qua qra)).2.1=((dat (qss.getD j [])).length:Int)∧(dat (qss.getD j [])).length≤20000∧(qJy rs qss).getD j (wD,[])=((rs.getD j (qua qra)).1,dat (qss.getD j []))
 |[],_,_,_,h=>by cases h
 |_::_,[],_,h,_=>h.elim
 |r::rs,q::qss,0,⟨s1,s2,s3⟩,_=>by
  have hlen:∀{rs:List qca} {qss:List (List qja)},SzL rs qss→rs.length=qss.length:=by
   intro rs
   induction rs with
   |nil=>intro qss h;cases qss with
    |nil=>rfl
    |cons _ _=>exact h.elim
   |cons r rs ih=>intro qss h;cases qss with
    |nil=>exact h.elim
    |cons q qss=>rw [ww,ww,ih h.2.2]
  exact ⟨by rw [ww,ww,hlen s3],s1,s2,rfl⟩
 |r::rs,q::qss,j+1,⟨s1,s2,s3⟩,h=>by
  obtain ⟨k1,k2,k3,k4⟩:=qkK (j:=j) s3 (by simpa using h)
  exact ⟨by rw [ww,ww,k1],k2,k3,k4⟩
theorem qBI:∀{qss:List (List qja)} {i j:Nat},ChnL i qss→j<qss.length→Chn (i+j) 0 (qss.getD j [])
 |[],_,_,_,h=>by cases h
 |q::qss,i,0,h,_=>h.1
 |q::qss,i,j+1,h,hj=>by
  have:=qBI (j:=j) h.2 (by simpa using hj)
  rw [show i+1+j=i+(j+1) by omega] at this
  exact this
theorem qGD {xs ys:List Int} (hx:Bts xs) (hy:Bts ys) (h:wna xs=wna ys):xs=ys:=by
 induction xs generalizing ys with
 |nil=>cases ys with
  |nil=>rfl
  |cons y ys=>simp [wna] at h
 |cons x xs ih=>cases ys with
  |nil=>simp [wna] at h
  |cons y ys=>
   simp only [wna,wJ,wFa] at h
   have h1:=hx x wK
   have h2:=hy y wK
   have e:=congrArg UInt8.toNat h.1
   simp only [UInt8.toNat_ofNat'] at e
   have:x=y:=by omega
   rw [this,ih (fun z hz=>hx z (wH _ hz)) (fun z hz=>hy z (wH _ hz)) h.2]
theorem qsL {s t:List Int} (hs:Bts s) (ht:Bts t) (j:Nat):Lib.occAt (wna s) (wna t) j=true↔(s.drop j).take t.length=t:=by
 unfold Lib.occAt
 rw [List.isPrefixOf_iff_prefix,List.prefix_iff_eq_take]
 have e1:(wna t).length=t.length:=wca ..
 have e2:wM t.length (wea j (wna s))=wna ((s.drop j).take t.length):=by
  unfold wna
  rw [List.map_take,List.map_drop]
 rw [e1,e2]
 constructor
 ·intro h
  exact (qGD ht ((hs.drop _).take _) h).symm
 ·intro h
  rw [h]
instance (s:List Int):Decidable (qbD s):=by unfold qbD;infer_instance
theorem qYy {s:List Int} (h:qbD s):13≤s.length:=by
 have:=congrArg List.length h
 rw [wS,qre] at this
 omega
theorem qUI {b:List Int} (hb:Bts b) (hl:b.length≤50000) {k:Nat} (hk:k≤b.length):
  (qOe b k=some (0,6)∧∀j,¬qbD ((b.drop k).drop j))∨∃i:Nat,qOe b k=some (((k+i:Nat):Int),0)∧k+i≤b.length∧qbD ((b.drop k).drop i)∧∀j,j<i→¬qbD ((b.drop k).drop j):=by
 have hI:qsj (b.drop k) mark=some (ixB (b.drop k) mark):=by
  unfold qsj
  exact ug (ua (by rw [wga];omega) (ua (by rw [qre];decide) (ua (by rw [qre];decide) (ua ⟨hb.drop k,qvt⟩ (uc rfl)))))
 have hF:qOe b k=some (if ixB (b.drop k) mark<0 then (0,6) else (wd .i64 ((k:Int)+ixB (b.drop k) mark),0)):=by
  have hchk:qNe b k=some 0:=by
   rw [qxg]
   simp only [wj]
   exact ug (ub (by omega) (ub (by omega) (ub (by omega) (uc rfl))))
  rw [qXw]
  simp only [wj]
  have e:(k:Int).toNat=k:=wA k
  refine ug (ue hchk (ud rfl (ua (by omega) (ua (by omega) (ue qdf ?_)))))
  rw [e]
  refine ue hI ?_
  exact uh (fun h=>uc (by rw [if_pos h])) (fun h=>uc (by rw [if_neg h]))
 have hocc:=fun j=>qsL (hb.drop k) qvt j
 rcases Lib.index_spec (wna (b.drop k)) (wna mark) with ⟨h1,h2⟩|⟨i,h1,h2,h3,h4⟩
 ·left
  have hx:ixB (b.drop k) mark=-1:=h1
  rw [hF,hx,if_pos (by decide)]
  refine ⟨rfl,fun j hj=>?_⟩
  have hlj:=qYy hj
  have e1:(wna (b.drop k)).length=(b.drop k).length:=wca ..
  rw [wga] at hlj
  have:=h2 j (by omega)
  rw [(hocc j).2 (by rw [qre];exact hj)] at this
  cases this
 ·right
  have hx:ixB (b.drop k) mark=i:=h1
  have e1:(wna (b.drop k)).length=(b.drop k).length:=wca ..
  rw [e1,wga] at h2
  refine ⟨i,?_,by omega,?_,fun j hj hh=>?_⟩
  ·rw [hF,hx,if_neg (by omega),w64 (by omega) (by omega)]
   exact congrArg some (Prod.ext (by simp only;omega) rfl)
  ·have:=(hocc i).1 h3
   rw [qre] at this
   exact this
  ·have:=h4 j hj
   rw [(hocc j).2 (by rw [qre];exact hh)] at this
   cases this
def fm (b:List Int):Nat→Nat→Option Nat
 |0,_=>none
 |n+1,k=>if qbD (b.drop k) then some k else fm b n (k+1)
theorem qBv {b:List Int}:∀{n k j:Nat},fm b n k=some j→k≤j∧j<k+n∧qbD (b.drop j)∧∀i,k≤i→i<j→¬qbD (b.drop i)
 |0,k,j,h=>by cases h
 |n+1,k,j,h=>by
  simp only [fm] at h
  split at h
  ·rename_i h1
   simp only [Option.some.injEq] at h;subst h
   exact ⟨ws _,by omega,h1,fun i h1 h2=>by omega⟩
  ·rename_i h1
   obtain ⟨a,b1,c,d⟩:=qBv h
   refine ⟨by omega,by omega,c,fun i h2 h3=>?_⟩
   by_cases e:i=k
   ·subst e;exact h1
   ·exact d i (by omega) h3
theorem qYH {b:List Int}:∀{n k:Nat},fm b n k=none→∀i,k≤i→i<k+n→¬qbD (b.drop i)
 |0,k,h,i,h1,h2=>by omega
 |n+1,k,h,i,h1,h2=>by
  simp only [fm] at h
  split at h
  ·cases h
  ·rename_i h3
   by_cases e:i=k
   ·subst e;exact h3
   ·exact qYH h i (by omega) (by omega)
def fmR:Option Nat→Int×Int
 |some j=>((j:Int),0)
 |none=>(0,6)
theorem qVI {b:List Int} (hb:Bts b) (hl:b.length≤50000) {k:Nat} (hk:k≤b.length):qOe b k=some (fmR (fm b (b.length+1 - k) k)):=by
 rcases qUI hb hl hk with ⟨h1,h2⟩|⟨i,h1,h2,h3,h4⟩
 ·rw [h1]
  cases h:fm b (b.length+1 - k) k with
  |none=>rfl
  |some j=>
   obtain ⟨a,_,c,_⟩:=qBv h
   have:=h2 (j - k)
   rw [wka,show k+(j - k)=j by omega] at this
   exact absurd c this
 ·rw [h1]
  rw [wka] at h3
  cases h:fm b (b.length+1 - k) k with
  |none=>exact absurd h3 (qYH h (k+i) (by omega) (by omega))
  |some j=>
   obtain ⟨a,_,c,d⟩:=qBv h
   have e:j=k+i:=by
    rcases Nat.lt_trichotomy j (k+i) with hlt|heq|hgt
    ·have:=h4 (j - k) (by omega)
     rw [wka,show k+(j - k)=j by omega] at this
     exact absurd c this
    ·exact heq
    ·exact absurd h3 (d (k+i) (by omega) hgt)
   rw [e];rfl
def mks (b:List Int):Nat→Option Nat→List Int
 |0,_=>[]
 |_+1,none=>[]
 |n+1,some j=>(j:Int)::mks b n (fm b (b.length+1 - (j+13)) (j+13))
theorem qYK {b:List Int} (hb:Bts b) (hl:b.length≤50000):∀(n:Nat) (o:Option Nat) (out:List Int),(∀j,o=some j→qbD (b.drop j)∧b.length<j+n)→out.length+n≤100000→
  qyg b (fmR o).1 (fmR o).2 out=some (out++mks b n o,0)
 |n,none,out,h,ho=>by
  rw [qHm,if_neg (by show ¬((6:Int)==0)=true;decide)]
  cases n <;> simp [mks]
 |0,some j,out,h,ho=>by
  obtain ⟨h1,h2⟩:=h j rfl
  have:=qYy h1
  rw [wga] at this
  omega
 |n+1,some j,out,h,ho=>by
  obtain ⟨h1,h2⟩:=h j rfl
  have h3:=qYy h1
  rw [wga] at h3
  have hF:=qVI hb hl (k:=j+13) (by omega)
  have ih:=qYK hb hl n (fm b (b.length+1 - (j+13)) (j+13)) (out++[(j:Int)]) (fun j' hj'=>by
   obtain ⟨a1,a2,a3,a4⟩:=qBv hj'
   exact ⟨a3,by omega⟩) (by rw [wl,wv];omega)
  rw [qHm,if_pos (by show ((0:Int)==0)=true;decide)]
  show gd _ _=_
  rw [qha (by rw [wl,wv];omega)]
  show (qOe b (wd .i64 ((j:Int)+13))).bind _=_
  rw [w64 (by omega) (by omega),show (j:Int)+13=((j+13:Nat):Int) by omega,hF]
  show qyg b (fmR _).1 (fmR _).2 (out++[(j:Int)])=_
  rw [ih,mks,wB]
  rfl
def qYN (b:List Int):List Int:=mks b (b.length+1) (fm b (b.length+1) 0)
theorem qfK {b:List Int} (hb:Bts b) (hl:b.length≤50000):qoo b=some (qYN b,0):=by
 have hchk:qNe b 0=some 0:=by
  rw [qxg]
  simp only [wj]
  exact ug (ub (by omega) (ub (by omega) (ub (by omega) (uc rfl))))
 have hF:=qVI hb hl (k:=0) (Nat.zero_le _)
 rw [wYa] at hF
 have h1:=qYK hb hl (b.length+1) (fm b (b.length+1) 0) [] (fun j hj=>by
  obtain ⟨a1,a2,a3,a4⟩:=qBv hj
  exact ⟨a3,by omega⟩) (by simp;omega)
 rw [qQy]
 refine ug (ue hchk (ud rfl (ue hF (uj h1 ?_))))
 rw [waa];rfl
end Go.Ab

/-
  TopBlock: members, their records, their parts.
-/
set_option linter.unusedVariables false
set_option linter.unusedSimpArgs false
set_option maxRecDepth 100000
namespace Go.Ab
open Go
attribute [local irreducible] IntKind.wrap
structure Mems (l:List qfa):Prop where
 ok:MemsOK l
 n16:l.length≤16
 sum:tot (qFb l)≤8192
 nm:∀m∈l,qwE m.1=true
 du:qiC [] (names (qFb l))=false
theorem quL {l:List qfa} (hM:MemsOK l) (h:mck l=0):Mems l:=by
 unfold mck at h
 by_cases h1:l.length>16
 ·rw [if_pos h1] at h;cases h
 rw [if_neg h1] at h
 by_cases h2:tot (qFb l)>8192
 ·rw [if_pos h2] at h;cases h
 rw [if_neg h2] at h
 by_cases h3:l.all (fun m=>qwE m.1)=true
 ·rw [if_pos h3] at h
  have h4:qiC [] (names (qFb l))=false:=by
   cases hd:qiC [] (names (qFb l)) with
   |false=>rfl
   |true=>rw [hd] at h;cases h
  exact ⟨hM,by omega,by omega,fun m hm=>wAa.1 h3 m hm,h4⟩
 ·rw [if_neg h3] at h;cases h
theorem qav (l:List qfa) {i:Nat} (h:i<l.length):l.drop i=l.getD i (qua T_api_Member)::l.drop (i+1)∧l.take (i+1)=l.take i++[l.getD i (qua T_api_Member)]∧l.getD i (qua T_api_Member)∈l:=qtc (qua T_api_Member:qfa) h
theorem qjy:∀(a b:List qca),tot (a++b)=tot a+tot b
 |[],b=>by show tot b=0+tot b;omega
 |r::a,b=>by
  have:=qjy a b
  show r.2.1+tot (a++b)=r.2.1+tot a+tot b
  omega
theorem qfq (a b:List qfa):qFb (a++b)=qFb a++qFb b:=wBa
theorem qzH (a b:List qca):names (a++b)=names a++names b:=wBa
theorem qYq:∀(l:List qfa),0≤tot (qFb l)
 |[]=>wza _
 |m::l=>by
  have:=qYq l
  show 0≤(m.2.1.length:Int)+tot (qFb l)
  omega
theorem qWI (l:List qfa) (h:Mems l):∀(k i:Nat),i+k=l.length→qMe l (tot (qFb (l.take i))) false l (l.length:Int) (i:Int) (names (qFb (l.take i)))=some 0
 |0,i,e=>by
  have hn:=h.n16
  have hs:=h.sum
  rw [qek,wL (by omega)]
  refine ug (ub (by omega) (ub (by simp only [wj];omega) (ub (by omega) (un (by decide) (ue (qpl _ (by unfold names qFb;simp;omega)) ?_)))))
  rw [h.du]
  exact un (by decide) (uc rfl)
 |k+1,i,e=>by
  have hn:=h.n16
  have hd:=qav l (i:=i) (by omega)
  have ih:=qWI l h k (i+1) (by omega)
  have hnm:=h.nm _ hd.2.2
  have hns:=h.ok.nm _ hd.2.2
  have hln:=h.ok.ln _ hd.2.2
  have hs:=h.sum
  have hsp:tot (qFb l)=tot (qFb (l.take i))+((l.getD i (qua T_api_Member)).2.1.length:Int)+tot (qFb (l.drop (i+1))):=by
   conv=>lhs;rw [←List.take_append_drop i l,qfq,qjy,hd.1]
   show _+(((l.getD i (qua T_api_Member)).2.1.length:Int)+tot (qFb (l.drop (i+1))))=_
   omega
  have ha:=qYq (l.take i)
  have hb:=qYq (l.drop (i+1))
  rw [hd.2.1,qfq,qjy,qzH,show ((i+1:Nat):Int)=(i:Int)+1 by omega] at ih
  have e1:tot (qFb [l.getD i (qua T_api_Member)])=((l.getD i (qua T_api_Member)).2.1.length:Int):=by show ((l.getD i (qua T_api_Member)).2.1.length:Int)+0=_;omega
  have e2:names (qFb [l.getD i (qua T_api_Member)])=[(l.getD i (qua T_api_Member)).1]:=rfl
  rw [e1,e2] at ih
  have hnl:(names (qFb (l.take i))).length=i:=by unfold names qFb;rw [wca,wca,wS];omega
  rw [qek]
  simp only [wj,wA]
  rw [w64 (x:=(i:Int)+1) (by omega) (by omega),w64 (x:=tot (qFb (l.take i))+_) (by omega) (by omega)]
  refine ug (uf (by omega) (ua (by omega) (ua (by omega) (un (by decide) (ue (qak _ hns) (ua ?_ ?_))))))
  ·rw [wl,wv,hnl];omega
  ·rw [hnm]
   exact uj ih rfl
theorem qPo {l:List qfa} (h:Mems l):qfk l=some 0:=by
 rw [qZu]
 exact qWI l h l.length 0 (by omega)
theorem qhO (l:List qfa) (h:Mems l):∀(k i:Nat),i+k=l.length→qdk l (l.length:Int) (i:Int) (qFb (l.take i))=some (qFb l,0)
 |0,i,e=>by
  have hn:=h.n16
  rw [qsn,wL (by omega)]
  exact ug (ub (by omega) (uc rfl))
 |k+1,i,e=>by
  have hn:=h.n16
  have hd:=qav l (i:=i) (by omega)
  have ih:=qhO l h k (i+1) (by omega)
  have hbt:=h.ok.bt _ hd.2.2
  have hs:=h.sum
  have hm8:((l.getD i (qua T_api_Member)).2.1.length:Int)≤tot (qFb l):=by
   conv=>rhs;rw [←List.take_append_drop i l,qfq,qjy,hd.1]
   have ha:=qYq (l.take i)
   have hb:=qYq (l.drop (i+1))
   show _≤_+(((l.getD i (qua T_api_Member)).2.1.length:Int)+tot (qFb (l.drop (i+1))))
   omega
  rw [hd.2.1,qfq,show ((i+1:Nat):Int)=(i:Int)+1 by omega] at ih
  have hrl:(qFb (l.take i)).length=i:=by unfold qFb;rw [wca,wS];omega
  have hdg:qug (l.getD i (qua T_api_Member)).2.1=some (qtw (l.getD i (qua T_api_Member)).2.1):=by
   rw [qFm,qDt _ hbt,if_pos (by omega)];rfl
  rw [qsn]
  simp only [wj,wA]
  rw [w64 (x:=(i:Int)+1) (by omega) (by omega)]
  refine ug (uf (by omega) (ua (by omega) (ua (by omega) (ue hdg (ua ?_ (uj ih rfl))))))
  rw [wl,wv,hrl];omega
theorem qUC {l:List qfa} (h:Mems l):qYu l=some (qFb l,0):=by
 rw [qZA]
 exact ug (ue (qPo h) (ud rfl (uj (qhO l h l.length 0 (by omega)) rfl)))
theorem qeE (a:List qca) (hl:a.length≤100000):∀(k i:Nat),i+k=a.length→qzd a a (i:Int)=some true
 |0,i,e=>by
  rw [qPg]
  exact ug (ub (by simp;omega) (uc rfl))
 |k+1,i,e=>by
  have ih:=qeE a hl k (i+1) (by omega)
  rw [show ((i+1:Nat):Int)=(i:Int)+1 by omega] at ih
  rw [qPg]
  simp only [wj]
  rw [w64 (by omega) (by omega)]
  have hp:peq qra (a.getD ((i:Int).toNat) (qua qra)) (a.getD ((i:Int).toNat) (qua qra))=true:=by
   generalize a.getD ((i:Int).toNat) (qua qra)=x
   simp only [peq,decide_true,Bool.true_and,Bool.and_true]
   first
    |exact qIh (fun y=>by simp) _
    |(simp;exact qIh (fun y=>by simp) _)
  exact ug (uf (by omega) (ua (by omega) (ua (by omega) (ua (by omega) (ua (by omega) (un (by rw [hp];decide) (uj ih rfl)))))))
theorem qqN (a:List qca) (hl:a.length≤100000):qmh a a=some true:=by
 rw [qBo,if_neg (by simp)]
 exact qeE a hl a.length 0 (by omega)
theorem qgJ (l:List qfa) (i:Nat) (h:i<l.length):szs (qFb (l.take (i+1)))=szs (qFb (l.take i))++[((l.getD i (qua T_api_Member)).2.1.length:Int)]:=by
 rw [(qav l h).2.1,qfq]
 unfold szs
 rw [wBa];rfl
theorem qOK (l:List qfa) (hn:l.length≤16) (s:Int):∀(k i:Nat),i+k=l.length→qKj l s l (l.length:Int) (i:Int) (szs (qFb (l.take i)))=(qJj (szs (qFb l)) s).bind fun r2=>if (r2.2 != (0:Int))=true then some ([],r2.2) else qCh l (wi r2.1.length) 0 [] r2.1
 |0,i,e=>by
  rw [qYm,if_neg (by simp;omega),wL (by omega)]
 |k+1,i,e=>by
  have ih:=qOK l hn s k (i+1) (by omega)
  rw [qgJ l i (by omega),show ((i+1:Nat):Int)=(i:Int)+1 by omega] at ih
  have hsl:(szs (qFb (l.take i))).length=i:=by rw [qKl];unfold qFb;rw [wca,wS];omega
  rw [qYm]
  simp only [wj,wA]
  rw [if_pos (by simp;omega),qha (by omega),qha (by omega),qha (by rw [wl,wv,hsl];omega),w64 (by omega) (by omega),ih]
  rfl
theorem qNK (l:List qfa) (hl8:∀m∈l,m.2.1.length≤8192) (ps:List qea) (hp:∀p∈ps,0≤p.1∧p.1<(l.length:Int)∧0≤p.2.1∧0≤p.2.2.1∧p.2.1+p.2.2.1≤((qvw l p.1.toNat).length:Int)) (hl:ps.length≤10000):∀(k i:Nat) (out:List qja),i+k=ps.length→out.length=i→qCh l (ps.length:Int) (i:Int) out ps=some (out++(ps.drop i).map (ptD (qvw l)),0)
 |0,i,out,e,ho=>by
  rw [qXm,if_neg (by simp;omega),wta (by omega),wKa,wQ]
 |k+1,i,out,e,ho=>by
  have hd:=qtc (qua qia:qea) (xs:=ps) (i:=i) (by omega)
  obtain ⟨p1,p2,p3,p4,p5⟩:=hp _ hd.2.2
  have ih:=fun out ho=>qNK l hl8 ps hp hl k (i+1) out (by omega) ho
  rw [show ((i+1:Nat):Int)=(i:Int)+1 by omega] at ih
  rw [qXm]
  simp only [wj,wO,wA]
  rw [hd.1,wJ,w64 (x:=(i:Int)+1) (by omega) (by omega)]
  generalize ps.getD i (qua qia)=p at*
  have hm:l.getD p.1.toNat (qua T_api_Member)∈l:=qIa (P:=fun m=>m∈l) (fun m hm=>hm) _ (by omega)
  have h8:=hl8 _ hm
  have p5':p.2.1+p.2.2.1≤((l.getD p.1.toNat (qua T_api_Member)).2.1.length:Int):=p5
  have hcl:=qZd (wM p.2.2.1.toNat (wea p.2.1.toNat (l.getD p.1.toNat (qua T_api_Member)).2.1)) (by rw [wS,wga];omega)
  refine ug (uf (by omega) (ua (by omega) (ua (by omega) (ua p1 (ua p2 (ua p3 (ua (by omega) (ua p4 (ua ?_ (ue hcl (ua ?_ (uj (ih (out++[ptD (qvw l) p]) (by rw [wl,wv,ho])) ?_))))))))))))
  ·rw [wga];omega
  ·rw [wl,wv];omega
  ·rw [wB];rfl
theorem qUN {l:List qfa} (h:Mems l) (hA:Arc (qvw l) (qFb l)) {s:Int} (hs:16≤s∧s≤4096):qSt l s=some ((ap s 0 (qFb l)).map (ptD (qvw l)),0):=by
 have hV:=qWg hA.val
 have hn:=h.n16
 have hcnt:=qJI s hs.1 (qFb l) 0 (fun r hr=>(hV.each r hr).1)
 have hrl:(qFb l).length=l.length:=wca ..
 have hsum:=h.sum
 have h1:=qOK l h.n16 s l.length 0 (by omega)
 have h2:=qNK l (fun m hm=>by
  have:=(hV.each (qeH m) (wP.2 ⟨m,hm,rfl⟩)).2.1
  have e:(qeH m).2.1=(m.2.1.length:Int):=rfl
  omega) (ap s 0 (qFb l)) (fun p hp=>by
  obtain ⟨⟨i1,i2,i3,i4,i5⟩,i6⟩:=qII s (by omega) (qFb l) 0 p hp
  have hsz:=hA.sz p.1.toNat (by omega)
  rw [Int.sub_zero] at i5
  exact ⟨i1,by omega,i3,by omega,by rw [hsz];exact i5⟩) (by omega) (ap s 0 (qFb l)).length 0 [] (by omega) rfl
 rw [wla,waa] at h2
 rw [List.take_zero] at h1
 rw [qnA]
 refine ug (ue (qPo h) (ud rfl ?_))
 refine uj (h1.trans ?_) rfl
 exact ug (ue (qOD s (qFb l) hs hV) (ud rfl (uj h2 rfl)))
theorem qxq (v0:Int) (l:List qfa) (acc:Int) {g:Bool} (hg:quc l=some g) (hC:qbb l=some (mck l)∨g=false):Tot ((quc l).bind fun (r3:(Bool))=>if r3=true then if (decide (v0≤(2:Int)))=true then some (true) else if (decide (v0>(7:Int)))=true then some (true) else if (decide (acc≤(24:Int)))=true then some (true) else (qbb l).bind fun (r4:(Int))=>some (r4 != (0:Int)) else some (false)) fun r=>r=true→g=true:=by
 refine ue hg (um (fun h=>?_) (fun _=>uc (fun h=>by cases h)))
 refine uh (fun _=>uc (fun _=>h)) (fun _=>uh (fun _=>uc (fun _=>h)) (fun _=>uh (fun _=>uc (fun _=>h)) (fun _=>?_)))
 rcases hC with hC|hC
 ·exact ue hC (uc (fun _=>h))
 ·rw [h] at hC;cases hC
theorem qeF (v0:Int) (l:List qfa) {g:Bool} (hg:quc l=some g) (hC:qbb l=some (mck l)∨g=false):∀(k i:Nat) (acc:Int),i+k=31→Tot (qld v0 l acc (i:Int)) fun r=>r=true→g=true
 |0,i,acc,e=>by
  rw [qVf]
  simp only [wj]
  exact uh (fun _=>ub (by omega) (qxq v0 l acc hg hC)) (fun _=>qxq v0 l acc hg hC)
 |k+1,i,acc,e=>by
  have ih:=fun acc=>qeF v0 l hg hC k (i+1) acc (by omega)
  rw [show ((i+1:Nat):Int)=(i:Int)+1 by omega] at ih
  rw [qVf]
  simp only [wj,wA]
  rw [w64 (x:=(i:Int)+1) (by omega) (by omega)]
  exact uh (fun h=>uh (fun _=>ua (by omega) (ua h (ih _))) (fun _=>qxq v0 l acc hg hC)) (fun _=>qxq v0 l acc hg hC)
theorem qVL (v0:Int) (l:List qfa) (hnm:∀m∈l,m.1.size≤9223372036854775807) (hbt:∀m∈l,Bts m.2.1):Tot (qNg v0 l) fun r=>r=true→MemsOK l∧(mck l=0→tot (qFb l)≤80):=by
 obtain ⟨g,hg,hgs⟩:=quG l hnm hbt
 have hC:qbb l=some (mck l)∨g=false:=by
  cases hgv:g with
  |false=>exact .inr rfl
  |true=>exact .inl (qeo l (hgs hgv).1)
 rw [qUn]
 exact (qeF v0 l hg hC 31 0 0 (by omega)).mono (fun r hr h=>hgs (hr h))
end Go.Ab

/-
  TopBlock: the blocks of the parts, written and read again.
-/
set_option linter.unusedVariables false
set_option linter.unusedSimpArgs false
set_option maxRecDepth 100000
namespace Go.Ab
open Go
attribute [local irreducible] IntKind.wrap
def MD (lv:Int):List qja→List qza→Prop
 |[],[]=>True
 |p::ps,b::bs=>MadeB lv p.1.1 p.1.2.1 p.2.1 b∧MD lv ps bs
 |_,_=>False
theorem MD.snoc {lv:Int} {p:qja} {b:qza} (hb:MadeB lv p.1.1 p.1.2.1 p.2.1 b):∀{ps:List qja} {bs:List qza},MD lv ps bs→MD lv (ps++[p]) (bs++[b])
 |[],[],_=>⟨hb,trivial⟩
 |_::_,_::_,h=>⟨h.1,MD.snoc hb h.2⟩
theorem MD.len {lv:Int}:∀{ps:List qja} {bs:List qza},MD lv ps bs→ps.length=bs.length
 |[],[],_=>rfl
 |_::_,_::_,h=>by rw [ww,ww,MD.len h.2]
theorem MadeB.blen {lv a1 a2:Int} {z:List Int} {b:qza} (h:MadeB lv a1 a2 z b):(b.2.1.length:Int)=b.1.2.2.2.2.1∧1≤b.2.1.length∧b.2.1.length≤z.length∧(bB b).length=41+b.2.1.length∧hOK b.1:=by
 have hc:=h.ok
 unfold bC at hc
 by_cases hh:hOK b.1∧(b.2.1.length:Int)=b.1.2.2.2.2.1
 ·have h1:=h.len
  have h2:=hh.1
  unfold hOK at h2
  exact ⟨hh.2,by omega,by omega,qSK h.wf,hh.1⟩
 ·rw [if_neg hh] at hc;cases hc
theorem mark_btsT:Bts mark:=qfO (by decide)
theorem qJE {h:qla} (h0:0≤h.1∧h.1<256):Bts (fr8 h):=by
 unfold fr8
 intro x hx
 simp only [wU,List.not_mem_nil,or_false] at hx
 rcases hx with rfl|rfl|rfl|rfl|rfl|rfl|rfl|rfl <;> first|exact wrap_u8 _|omega
theorem MadeB.bB_bts {lv a1 a2:Int} {z:List Int} {b:qza} (h:MadeB lv a1 a2 z b):Bts (bB b):=by
 unfold bB hB
 exact (mark_btsT.append ((qJE h.wf.1).append h.sums)).append h.bts
theorem MD.bts {lv:Int}:∀{ps:List qja} {bs:List qza},MD lv ps bs→Bts (qqf bs)
 |[],[],_=>Bts.nil
 |_::_,_::_,h=>h.1.bB_bts.append (MD.bts h.2)
theorem MD.size {lv:Int}:∀{ps:List qja} {bs:List qza},MD lv ps bs→(∀p∈ps,p.2.1.length≤80)→(qqf bs).length≤121*bs.length
 |[],[],_,_=>ws _
 |p::ps,b::bs,h,hp=>by
  have h1:=h.1.blen
  have h2:=MD.size h.2 fun q hq=>hp q (wH _ hq)
  have h3:=hp p wK
  rw [qqf,wl,ww]
  omega
def plB:Nat→List qza→List Int
 |_,[]=>[]
 |a,b::r=>(a:Int)::plB (a+(bB b).length) r
theorem qAu:∀(bs:List qza) (a:Nat),(plB a bs).length=bs.length
 |[],_=>rfl
 |b::bs,a=>by rw [plB,ww,ww,qAu bs]
theorem qOC:∀(a b:List qza) (k:Nat),plB k (a++b)=plB k a++plB (k+(qqf a).length) b
 |[],b,k=>rfl
 |x::a,b,k=>by
  show (k:Int)::plB (k+(bB x).length) (a++b)=_
  rw [qOC a b,plB,qqf,wl,wxa];rfl
theorem qqM (dn:List qza) (b:qza) (r:List qza):(plB 0 (dn++b::r)).getD dn.length 0=((qqf dn).length:Int):=by
 have h:=qOC dn (b::r) 0
 rw [h,plB,wO]
 have:=qAu dn 0
 rw [←this]
 exact qhj
theorem qqO {b:List Int} (hb:Bts b) (hl:b.length≤50000) {k:Nat} (hk:k+13≤b.length) (h:(b.drop k).take 13=mark):qvn b (k:Int)=some (true,0):=by
 have hml:mark.length=13:=rfl
 have hchk:qNe b k=some 0:=by
  rw [qxg]
  exact ug (ub (by simp only [wj];omega) (ub (by omega) (ub (by simp only [wj];omega) (uc rfl))))
 have hpre:qtj (b.drop k) mark=some true:=by
  rw [qyk,if_pos (by simp [hml];omega),qha (by simp),qha (by simp [hml];omega),qal]
  simp only [wy]
  rw [qLM ((hb.drop _).take _) mark_btsT,hml,h]
  simp
 rw [qms]
 refine ug (ue hchk (ud rfl (ua (by omega) (ua (by simp only [wj];omega) (ue qdf ?_)))))
 rw [wA]
 exact ue hpre (uc rfl)
theorem qjE {lv:Int} (hlv:0≤lv∧lv≤7) (all:List qza) (hb:Bts (qqf all)) (hl:(qqf all).length≤40000) (hn:all.length≤1000):∀(rest:List qza) (dn:List qza) (ps acc:List qja),dn++rest=all→MD lv ps rest→acc.length=dn.length→(∀p∈ps,p.1.2.2.1=(p.2.1.length:Int))→
  qCc lv (qqf all) (plB 0 all) ((qqf dn).length:Int) (dn.length:Int) acc=some (acc++ps,true)
 |[],dn,ps,acc,e,hM,ha,hp=>by
  cases ps with
  |cons p ps=>exact hM.elim
  |nil=>
   rw [wQ] at e
   rw [qLg,qAu,e,wQ]
   refine ug (ub (by simp) (uc ?_))
   simp
 |b::rest,dn,ps,acc,e,hM,ha,hp=>by
  cases ps with
  |nil=>exact hM.elim
  |cons p ps=>
   obtain ⟨hm,hM2⟩:=hM
   obtain ⟨l1,l2,l3,l4,ok⟩:=hm.blen
   have hall:all.length=dn.length+(rest.length+1):=by rw [←e,wl,ww]
   have hbk:qqf all=qqf dn++(bB b++qqf rest):=by rw [←e,qAt];rfl
   have hlen:(qqf all).length=(qqf dn).length+((bB b).length+(qqf rest).length):=by rw [hbk,wl,wl]
   have hdrop:(qqf all).drop (qqf dn).length=bB b++qqf rest:=by rw [hbk,List.drop_left]
   have ih:=qjE hlv all hb hl hn rest (dn++[b]) ps (acc++[p]) (by rw [wB];exact e) hM2 (by rw [wl,wl,ha];rfl) (fun q hq=>hp q (wH _ hq))
   have hdl:((qqf (dn++[b])).length:Int)=((qqf dn).length:Int)+(b.1.2.2.2.2.1+41):=by
    rw [qAt,wl]
    have:(qqf [b]).length=(bB b).length:=by rw [qqf,qqf,wQ]
    omega
   rw [hdl,show ((dn++[b]).length:Int)=(dn.length:Int)+1 by rw [wl];rfl,wB] at ih
   have hml:mark.length=13:=rfl
   have hhl:(hB b.1).length=28:=by
    unfold hB
    rw [wl,qAr,hm.wf.2]
   have hmk:((qqf all).drop (qqf dn).length).take 13=mark:=by
    rw [hdrop]
    unfold bB
    rw [wB,wB]
    exact List.take_left' rfl
   have hat:=qqO hb (by omega) (k:=(qqf dn).length) (by omega) hmk
   have hrb:Bts (qqf rest):=by
    have:=hb.drop ((qqf dn).length+(bB b).length)
    rw [←wka,hdrop,List.drop_left] at this
    exact this
   have hrd:=qSL hm.ok hm.wf hm.sums hm.bts hrb (by omega)
   have hpp:qPh (((qqf all).drop ((qqf dn).length+13)).take 28)=some (b.1,0):=by
    have e1:((qqf all).drop ((qqf dn).length+13)).take 28=hB b.1:=by
     rw [←wka,hdrop]
     unfold bB
     rw [wB,wB,show wea 13 (mark++(hB b.1++(b.2.1++qqf rest)))=hB b.1++(b.2.1++qqf rest) from List.drop_left' rfl]
     exact List.take_left' hhl
    rw [e1,qvl _ (by unfold hB;exact (qJE hm.wf.1).append hm.sums)]
    unfold pP
    rw [qsM ok hm.wf.2,if_pos ⟨hhl,ok⟩]
   have hpe:((b.1.2.1,(b.1.2.2.1,(b.1.2.2.2.1,()))),(p.2.1,()))=p:=by
    rw [hm.mem,hm.off,hm.raw,←hp p wK]
   have hget:(plB 0 all).getD dn.length 0=((qqf dn).length:Int):=by rw [←e];exact qqM dn b rest
   rw [qLg,qAu]
   simp only [wj,wA]
   rw [hget,hdrop,w64 (x:=(dn.length:Int)+1) (by omega) (by omega),w64 (x:=((qqf dn).length:Int)+13) (by omega) (by omega),w64 (x:=((qqf dn).length:Int)+41) (by omega) (by omega),
    show (((qqf dn).length:Int)+41).toNat - (((qqf dn).length:Int)+13).toNat=28 by omega,show (((qqf dn).length:Int)+13).toNat=(qqf dn).length+13 by omega]
   refine ug (uf (by omega) (ua (by omega) (ua (by omega) (ud rfl (ub (by omega) (ue hat (ua (by omega) (ua (by omega) (ue hrd (ue hm.back ?_))))))))))
   refine ud rfl (un (by simp) (ud rfl (ub (by show ¬b.1.2.2.2.2.1+41<42;omega) (ud rfl (ub (by show ¬wd .i64 (((qqf all).length:Int) - ((qqf dn).length:Int))<b.1.2.2.2.2.1+41;rw [w64 (by omega) (by omega)];omega) (ua (by omega) (ua (by omega) (ua (by omega) (ue hpp (ue hm.right ?_))))))))))
   refine ud rfl (un ?_ (ud rfl (un (by simp) (ua ?_ ?_))))
   ·show ¬(!peq qAa b.1 b.1)=true
    rw [qQH];decide
   ·rw [wl,wv];omega
   ·show Tot (qCc lv (qqf all) (plB 0 all) (wd .i64 (((qqf dn).length:Int)+(b.1.2.2.2.2.1+41))) ((dn.length:Int)+1) (acc++[((b.1.2.1,(b.1.2.2.1,(b.1.2.2.2.1,()))),(p.2.1,()))])) _
    rw [hpe,w64 (by omega) (by omega)]
    exact uj ih rfl
theorem qfE (a:List qja) (hl:a.length≤100000):∀(k i:Nat),i+k=a.length→qjc a a (i:Int)=some true
 |0,i,e=>by
  rw [qte]
  exact ug (ub (by simp;omega) (uc rfl))
 |k+1,i,e=>by
  have ih:=qfE a hl k (i+1) (by omega)
  rw [show ((i+1:Nat):Int)=(i:Int)+1 by omega] at ih
  rw [qte]
  simp only [wj]
  rw [w64 (by omega) (by omega)]
  have hp:peq qia (a.getD ((i:Int).toNat) (qua qGa)).1 (a.getD ((i:Int).toNat) (qua qGa)).1=true:=by
   generalize (a.getD ((i:Int).toNat) (qua qGa)).1=x
   simp [peq]
  exact ug (uf (by omega) (ua (by omega) (ua (by omega) (ua (by omega) (ua (by omega) (un (by rw [hp];decide) (ua (by omega) (ua (by omega) (ua (by omega) (ua (by omega) (un (by rw [beq_self_eq_true];decide) (uj ih rfl))))))))))))
theorem qrN (a:List qja) (hl:a.length≤100000):qje a a=some true:=by
 rw [qbl,if_neg (by simp)]
 exact qfE a hl a.length 0 (by omega)
theorem qkM {s:qpa} (hlv:0≤s.1∧s.1≤7) (l:List qfa) (hll:l.length≤100000) (P:List qja) (rs:List qca) (hn:P.length≤200)
  (hP:∀p∈P,mOK p.1.1 p.1.2.1 p.2.1∧Bts p.2.1∧p.1.2.2.1=(p.2.1.length:Int)∧p.2.1.length≤80) (hput:qfl rs P=some (l,0)):∀(k i:Nat) (bs:List qza),i+k=P.length→MD s.1 (P.take i) bs→
  qyb l true (i:Int) s P rs (qqf bs) (plB 0 bs)=some true
 |0,i,bs,e,hM=>by
  have hbl:=hM.len
  rw [wS] at hbl
  rw [wL (by omega)] at hM
  have hsz:=hM.size fun p hp=>(hP p hp).2.2.2
  have h1:=qjE hlv bs hM.bts (by omega) (by omega) bs [] P [] rfl hM rfl (fun p hp=>(hP p hp).2.2.1)
  rw [waa] at h1
  have h2:qlh s.1 (qqf bs) (plB 0 bs)=some (P,true):=by rw [qAo];exact h1
  rw [qzf]
  exact ug (ub (by simp only [wj];omega) (ue h2 (un (by simp) (ue (qrN P (by omega)) (un (by simp) (ue hput (uq rfl (uq rfl (ue (qxA l hll) (uc rfl))))))))))
 |k+1,i,bs,e,hM=>by
  have hbl:=hM.len
  rw [wS] at hbl
  have hd:=qtc (qua qGa:qja) (xs:=P) (i:=i) (by omega)
  have hx:=hP _ hd.2.2
  have hsz:=hM.size fun p hp=>(hP p (List.mem_of_mem_take hp)).2.2.2
  have key:∀b,MadeB s.1 (P.getD i (qua qGa)).1.1 (P.getD i (qua qGa)).1.2.1 (P.getD i (qua qGa)).2.1 b→qyb l true ((i:Int)+1) s P rs (qqf bs++bB b) (plB 0 bs++[((qqf bs).length:Int)])=some true:=fun b hb=>by
   have ih:=qkM hlv l hll P rs hn hP hput k (i+1) (bs++[b]) (by omega) (by rw [hd.2.1];exact hM.snoc hb)
   rw [qAt,qOC,show qqf [b]=bB b by rw [qqf,qqf,wQ],wO,show ((i+1:Nat):Int)=(i:Int)+1 by omega] at ih
   exact ih
  rw [qzf]
  simp only [wj,wA,wO]
  rw [w64 (x:=(i:Int)+1) (by omega) (by omega)]
  generalize P.getD i (qua qGa)=p at*
  refine ug (uf (by omega) (ua (by omega) (ua (by omega) (ua (by omega) (ua (by omega) (Tot.b (qfC hlv hx.1 hx.2.1) ?_))))))
  rintro ⟨b,z⟩ ⟨hz,hb⟩
  have hz':z=0:=hz
  subst hz'
  replace hb:MadeB s.1 p.1.1 p.1.2.1 p.2.1 b:=hb
  have hW:=qPm b hb.wf
  rw [if_pos hb.ok] at hW
  have hl4:=hb.blen
  refine ue hW (ud rfl (ud rfl (ua ?_ (ua ?_ ?_))))
  ·rw [wl,wv,qAu];omega
  ·show (qqf bs++wM (bB b).length (wea 0 (bB b))).length*1≤140737488355328
   rw [wla,wOa,wl]
   omega
  ·show Tot (qyb l true ((i:Int)+1) s P rs (qqf bs++wM (bB b).length (wea 0 (bB b))) (plB 0 bs++[((qqf bs).length:Int)])) _
   rw [wla,wOa]
   exact uj (key b hb) rfl
end Go.Ab

/-
  TopBlock: markers, headers, blocks, members and pieces agree.
-/
set_option linter.unusedVariables false
set_option linter.unusedSimpArgs false
set_option maxRecDepth 100000
namespace Go.Ab
open Go
attribute [local irreducible] IntKind.wrap
theorem qiE:∀(rs:List qca),SumsOK rs→(∀r∈rs,r.1.size≤40)→(qVi rs).length≤63*rs.length
 |[],_,_=>ws _
 |r::rs,hS,h=>by
  have h1:=qgq r (hS r wK).1
  have h2:=h r wK
  have h3:=qiE rs (fun q hq=>hS q (wH _ hq)) (fun q hq=>h q (wH _ hq))
  rw [qVi,wl,ww]
  omega
theorem qpJ (r:qca) (h:Bts r.2.2.1):Bts (qdH r):=
 Bts.append (Bts.append (Bts.append (Bts.cons (qiM _) Bts.nil) (qTA _)) (Bts.cons (qiM _) (Bts.cons (qiM _) Bts.nil))) ((h.drop 0).take 20)
theorem qJA:∀(rs:List qca),SumsOK rs→Bts (qVi rs)
 |[],_=>Bts.nil
 |r::rest,h=>(qpJ r (h r (by simp)).2).append (qJA rest (fun q hq=>h q (by simp [hq])))
theorem qtN {rs:List qca} (hv:qdp rs=0) (hS:SumsOK rs):rdM (qVi rs) (rs.length:Int)=(rs,(((qVi rs).length:Int),0)):=by
 have hR:=qWg hv
 have h16:=hR.len
 have hl:=qiE rs hS fun r hr=>(hR.each r hr).2.2
 unfold rdM
 rw [if_neg (by omega),if_neg (by omega),wA]
 have:=qIA (qVi rs) [] rs [] 0 (fun r hr=>⟨(hR.each r hr).2.2,(hR.each r hr).1,(hR.each r hr).2.1⟩) hS hv (by rw [wla,wQ])
 rw [this,waa,wO]
theorem qeO:Bts [5]:=qfO (by decide)
theorem qNL:qMg=some true:=by
 have hm:mOK 0 0 [5]:=by unfold mOK;decide
 have hs:=qxG (l:=1) (a1:=0) (a2:=0) (z:=[5]) (by decide) hm qeO (by decide)
 obtain ⟨r,e,_,hb⟩:=qfC (l:=1) (a1:=0) (a2:=0) (z:=[5]) (by decide) hm qeO
 rw [hs] at e
 injection e with e
 subst e
 replace hb:MadeB 1 0 0 [5] (qJi 0 0 [5]):=hb
 have hW:=qPm _ hb.wf
 rw [if_pos hb.ok] at hW
 have hA:=qfK hb.bB_bts (by have:=hb.blen;have h1:([5]:List Int).length=1:=rfl;omega)
 have hp:qYN (bB (qJi 0 0 [5]))=[0]:=by decide+kernel
 rw [hp] at hA
 have hI:qXe [0] [0]=some true:=by
  rw [qIl,if_neg (by decide),qWe]
  rw [w64 (x:=(0:Int)+1) (by decide) (by decide)]
  refine ug (uf (by decide) (ua (by decide) (ua (by decide) (ua (by decide) (ua (by decide) (ud rfl ?_))))))
  rw [qWe]
  exact ub (by decide) (uc rfl)
 rw [qSn]
 refine ug (ue hs (ue hW ?_))
 show Tot ((qoo (wM (bB (qJi 0 0 [5])).length (wea 0 (bB (qJi 0 0 [5]))))).bind _) _
 rw [wla,wOa]
 exact ue hA (ue hb.back (uq rfl (uq rfl (uq rfl (ue hI (uq rfl (uq rfl (uc (beq_self_eq_true _)))))))))
theorem qDF (s:qpa):qOg s=some (chk s):=by
 rw [qVn,qWn]
 unfold chk
 refine ug (uh (fun h=>uc ?_) (fun h=>uh (fun h2=>uc ?_) (fun h2=>?_)))
 ·rw [if_neg (by omega)]
 ·rw [if_neg (by omega)]
 ·by_cases h3:s.2.1≥16
  ·rw [if_pos (decide_eq_true h3)]
   refine ue rfl (uk (fun h4=>uc ?_) (fun h4=>uc ?_))
   ·have:=of_decide_eq_false h4
    rw [if_neg (by omega)]
   ·have:=of_decide_eq_true h4
    rw [if_pos (by omega)]
  ·rw [if_neg (fun k=>h3 (of_decide_eq_true k))]
   refine ue rfl (uk (fun h4=>uc ?_) (fun h4=>by cases h4))
   rw [if_neg (by omega)]
theorem qMK {D:Nat→List Int} {i:Nat}:∀(q:List qja) (off:Nat),Chn i off q→(∀p∈q,Gen D p)→dat q=((D i).drop off).take (dat q).length
 |[],off,_,_=>by rw [qKp];rfl
 |p::r,off,h,hg=>by
  obtain ⟨c1,c2,c3,c4,c5⟩:=h
  have ih:=qMK r (off+p.2.1.length) c5 fun q hq=>hg q (wH _ hq)
  obtain ⟨_,_,g3,g4⟩:=hg p wK
  rw [c1,c2,wA,wA] at g4
  rw [qKr,List.take_add,wka,←ih,←g4,qAz]
theorem qcH:∀(l:List qfa),∀r∈qFb l,r.2.1≤tot (qFb l)
 |[],r,h=>by cases h
 |m::l,r,h=>by
  have h1:=qYq l
  show r.2.1≤(m.2.1.length:Int)+tot (qFb l)
  rcases wU.1 h with rfl|h
  ·show (m.2.1.length:Int)≤_
   omega
  ·have:=qcH l r h
   omega
theorem qJL {q:List qja} (h:∀p∈q,Bts p.2.1):Bts (dat q):=fun x hx=>by
 obtain ⟨p,hp,hx⟩:=List.mem_flatMap.1 hx
 exact h p hp x hx
theorem qWD {rs:List qca} {ms:List qfa} (h:∀i,i<rs.length→(rs.getD i (qua qra)).2.2.1=qtw (ms.getD i (qua T_api_Member)).2.1):∀(k i:Nat),i+k≤rs.length→qrC rs ms k i=true
 |0,_,_=>rfl
 |k+1,i,e=>by
  rw [qrC,qWD h k (i+1) (by omega),h i (by omega),Bool.and_true]
  exact qIh (fun y=>by simp [peq]) _
theorem qRN {l:List qfa} (hM:Mems l) (hA:Arc (qvw l) (qFb l)) {s:Int} (hs:16≤s) (hn:(ap s 0 (qFb l)).length≤200):qfl (qFb l) ((ap s 0 (qFb l)).map (ptD (qvw l)))=some (l,0):=by
 have hV:=qWg hA.val
 have hg:∀q∈ap s 0 (qFb l),Gen (qvw l) (ptD (qvw l) q)∧((ptD (qvw l) q).2.1.length:Int)=q.2.2.1:=fun q hq=>qMC hA.sz (qII s (by omega) (qFb l) 0 q hq).1
 obtain ⟨qss,hq,hC,hS⟩:=qPK s hs (qFb l) 0 ((ap s 0 (qFb l)).map (ptD (qvw l))) (by
  rw [List.map_map]
  exact (List.map_congr_left (g:=id) fun q _=>rfl).trans (List.map_id _)) (fun p hp=>by
  obtain ⟨q,hq,rfl⟩:=wP.1 hp
  exact (hg q hq).2) (fun r hr=>⟨(hV.each r hr).1,(hV.each r hr).2.1⟩)
 have hrl:(qFb l).length=l.length:=qko l
 have h16:=hV.len
 have hR:RecsOK (qFb l):=⟨by omega,fun r hr=>by have:=(hV.each r hr).2.2;omega⟩
 have hfl:qss.flatten.length=(ap s 0 (qFb l)).length:=by rw [hq,wca]
 have hin:∀q∈qss,∀p∈q,p∈(ap s 0 (qFb l)).map (ptD (qvw l)):=fun q h1 p h2=>by
  rw [←hq];exact List.mem_flatten.2 ⟨q,h1,h2⟩
 have hgp:∀p∈(ap s 0 (qFb l)).map (ptD (qvw l)),Gen (qvw l) p∧Bts p.2.1:=fun p hp=>by
  obtain ⟨q,hq,rfl⟩:=wP.1 hp
  exact ⟨(hg q hq).1,((hA.bts _).drop _).take _⟩
 have hput:=qTL hR hA.val (by omega) hC hS (by omega) (qOI (by rw [wca];omega) (qaN (qsK hC hS))) (fun q hq=>qJL fun p hp=>(hgp p (hin q hq p hp)).2)
 have hat:∀j,j<l.length→(qJy (qFb l) qss).getD j (wD,[])=((l.getD j (qua T_api_Member)).1,qvw l j):=fun j hj=>by
  obtain ⟨z1,z2,z3,z4⟩:=qkK (j:=j) hS (by omega)
  have hc:=qBI (j:=j) hC (by omega)
  rw [wO] at hc
  have hmem:qss.getD j []∈qss:=qIa (P:=fun q=>q∈qss) (fun q hq=>hq) j (by omega)
  have hd:=qMK _ 0 hc fun p hp=>(hgp p (hin _ hmem p hp)).1
  have hz:=hA.sz j (by omega)
  rw [wla,wL (by omega)] at hd
  rw [z4,qxy l j hj,hd];rfl
 have hfam:qxi (a:= .str) (e:= .int .u8) (qJy (qFb l) qss)=l:=by
  have hml:=qIy hS
  have hfv:(qxi (a:= .str) (e:= .int .u8) (qJy (qFb l) qss)).length=(qJy (qFb l) qss).length:=qwi (a:= .str) (e:= .int .u8) _
  refine List.ext_getElem (by omega) fun j h1 h2=>?_
  have hj:=hat j h2
  rw [wt,wx (by omega),wJa] at hj
  have e1:(qxi (a:= .str) (e:= .int .u8) (qJy (qFb l) qss))[j]=((qJy (qFb l) qss)[j].1,((qJy (qFb l) qss)[j].2,())):=List.getElem_map _
  rw [e1,hj]
  unfold qvw
  rw [wt,wx h2,wJa]
 rw [hfam,if_pos (qWD (fun i hi=>hA.sum i hi) _ 0 (by omega)),hq] at hput
 exact hput
theorem qcL (s:qpa) (l:List qfa) (hnm:∀m∈l,m.1.size≤9223372036854775807) (hbt:∀m∈l,Bts m.2.1):qMf s l=some true:=by
 rw [qQm]
 refine ug (ue qNL (ue (qDF s) (uo (fun _=>uc rfl) (fun hc=>Tot.b (qVL s.1 l hnm hbt) (fun g hg=>uk (fun _=>uc rfl) (fun hg1=>?_))))))
 obtain ⟨hMO,h80⟩:=hg hg1
 refine ue (qeo l hMO) (uo (fun _=>uc rfl) (fun hk=>un (by decide) ?_))
 have hc':0≤s.1∧s.1≤7∧16≤s.2.1∧s.2.1≤4096:=by
  unfold chk at hc;split at hc
  ·assumption
  ·cases hc
 have h80:=h80 hk
 have hM:=quL hMO hk
 obtain ⟨hA,h16,_⟩:=qVM hMO hk
 have hV:=qWg hA.val
 have hrl:(qFb l).length=l.length:=qko l
 have hR:RecsOK (qFb l):=⟨by omega,fun r hr=>by have:=(hV.each r hr).2.2;omega⟩
 have hcnt:=qJI s.2.1 hc'.2.2.1 (qFb l) 0 (fun r hr=>(hV.each r hr).1)
 have hW:=qur (qFb l) hR hA.sums
 rw [if_neg (by rw [hA.val];decide)] at hW
 have hRd:=qSs (qVi (qFb l)) (qJA _ hA.sums) ((qFb l).length:Int)
 rw [qtN hA.val hA.sums,hrl] at hRd
 have hput:=qRN hM hA hc'.2.2.1 (by omega)
 refine ue (qUN hM hA hc'.2.2) (ue (qUC hM) (ue hW (ue hRd (ud rfl (ud rfl (ud rfl (ud rfl (ud rfl (ue (qqN (qFb l) (by omega)) (un (by decide) ?_))))))))))
 refine uj (qkM (s:=s) ⟨hc'.1,hc'.2.1⟩ l (by omega) ((ap s.2.1 0 (qFb l)).map (ptD (qvw l))) (qFb l) (by rw [wca];omega) (fun p hp=>?_) hput ((ap s.2.1 0 (qFb l)).map (ptD (qvw l))).length 0 [] (wO _) trivial) rfl
 obtain ⟨q,hq,rfl⟩:=wP.1 hp
 obtain ⟨hi,his⟩:=qII s.2.1 (by omega) (qFb l) 0 q hq
 obtain ⟨g1,g2⟩:=qMC hA.sz hi
 obtain ⟨i1,i2,i3,i4,i5⟩:=hi
 rw [Int.sub_zero] at i5
 have hle:=qIa (P:=fun r:qca=>r.2.1≤tot (qFb l)) (d:=qua qra) (qcH l) q.1.toNat (by omega)
 have hle':((qFb l).getD q.1.toNat (qua qra)).2.1≤tot (qFb l):=hle
 refine ⟨?_,((hA.bts _).drop _).take _,g2.symm,?_⟩
 ·show 0≤q.1∧q.1<16∧1≤(ptD (qvw l) q).2.1.length∧(ptD (qvw l) q).2.1.length≤4096∧0≤q.2.1∧q.2.1+((ptD (qvw l) q).2.1.length:Int)≤8192
  omega
 ·omega
theorem bitlofttop_TopBlock_true (x0:pden T_api_Settings) (z0:wfP T_api_Settings x0) (x1:pden (.slice T_api_Member)) (z1:wfP (.slice T_api_Member) x1):qMf x0 x1=some true:=by
 refine qcL x0 x1 (fun m hm=>?_) (fun m hm=>uG (z1.2 m hm).2.1.2)
 have:=(z1.2 m hm).1
 simp [wfP,Go.maxLen] at this
 omega
end Go.Ab
