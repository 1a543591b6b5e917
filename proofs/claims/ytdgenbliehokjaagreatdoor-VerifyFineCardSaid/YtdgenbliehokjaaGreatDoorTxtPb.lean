/-
  An abstract machine over the model's code and its soundness; what the functions compute, as plain functions (printed by a program of this repo's own, checked here by the kernel); plain laws of them: part 2. Helper text, no statement of the claim stands here.
-/
import Derived.Test.YtdgenbliehokjaaGreatDoorTxtPa
import Derived.Lib.ConvBytes
import Derived.Laws.BytesArg
import Derived.Laws.BytesString
import Derived.Laws.AppendOwn
import Derived.Orders
import Derived.Scope
import Derived.Conc.LoneCalls
import Derived.Laws.Externs
import Derived.Lib.MakeNoZero
open Array renaming ext' → wYa, getD_eq_getD_getElem? → wAa, getElem?_eq_some_iff → wXa, getElem?_toList → wla, length_toList → wQa
open BitVec renaming ofInt → wF
open Bool renaming and_eq_true → wA, false_eq_true → wN, not_eq_true' → wRa, or_eq_true → wyb
open ByteArray renaming toList → wja
open Go.Addr renaming add_lit → wPa
open Go.Builtin renaming append_ → wta, firstCells → wya, zeroCells → wra
open Go.Instr renaming checkKey → wkb, sameNow → wzb
open Go.Op renaming maxDepth → wLa
open Go.Region renaming wanted → wtb
open Go.Result renaming andThen_ok → wt
open Go.Sem renaming run_bind → ww, run_pure → wH
open Go.Value renaming cells → wub, int → wgb
open List renaming all_cons → wsb, all_eq_true → wwa, append_assoc → wB, contains_eq_mem → wva, eq_nil_of_length_eq_zero → wG, ext_getElem? → wTa, flatMap_cons → wUa, getD_eq_getElem?_getD → wu, getElem?_append_left → wza, getElem?_append_right → woa, getElem?_cons_succ → wVa, getElem?_cons_zero → wWa, getElem?_eq_getElem → wx, getElem?_eq_some_iff → wga, getElem?_map → wxa, getElem?_set → wxb, length → we, length_append → wn, length_cons → wz, length_nil → wX, length_replicate → wP, map_append → wBa, map_cons → wI, map_nil → wDa, mem_append → wba, mem_cons → wZ, mem_cons_of_mem → wO, mem_cons_self → wT, mem_map → waa, mem_of_getElem? → wpa, mem_singleton → wU, nil_append → wV, range → wZa, replicate → wl, size_toArray → wMa
open List.cons renaming injEq → wIa
open Nat renaming add_assoc → wOa, add_mul → wmb, add_zero → wqb, le_refl → ws, lt_of_lt_of_le → wfa, lt_succ_self → wsa, mul_le_mul_right → wna, sub_zero → wEa, succ_mul → wua, zero_add → wJ
open Ne renaming symm → wJa
open Option renaming bind_some → wq, getD_some → wcb, isSome_iff_exists → wHa, map_some → wCa
open Option.some renaming injEq → wc
open Prod.mk renaming injEq → wk
/-
  New slices: literals, make, conversions, append, copy.
-/
set_option linter.unusedVariables false
set_option linter.unusedSimpArgs false
namespace Go.Ab
open Go
section
variable {c:Cx} {P:Program} {GT:qmi} {H lk:qBc} {K:Kn} {w:World} {ev:Operand→TV} {ρ:Operand→Value} {nl:Nat}
theorem qJs (hi:Inv c H K w) (hng:c.ng≤c.w0.heap.size) {w':World} {l0:Nat} (hn:nl≤l0∧l0<nl+8) (hf:K l0=none) {e:Ty} {fr:Bool} {xs:List (pden e)} {p:Plc} {cs:List Value}
  (hw:w'.os=w.os∧w'.tape=w.tape∧w'.output=w.output∧w.heap.size≤w'.heap.size∧∀k,k<w.heap.size→w'.heap[k]?=w.heap[k]?)
  (hp:w.heap.size≤p.blk∧p.blk<w'.heap.size) (hb:InBlk w' p cs) (hc:Cat (PRd w (NN c H K w fr) e) xs cs):
  Stp c H K w [(l0,some (.row e fr xs))] nl (qjl K l0 ⟨.row e xs.length [],some p⟩) w':=
 Stp.new hi hng nl l0 hn hf (.row e fr xs) ⟨.row e xs.length [],some p⟩ hw (fun q hq=>by injection hq with hq;subst hq;exact hp)
  (fun N' K' _ hk=>⟨rfl,cs,hb,hc.imp (fun _ _ q=>q.keep (hk.n fr))⟩)
theorem qVo {e:Ty} {ps:List (Nat×Option Plc)} {l0 n:Nat} {p:Plc} {o cap:Nat} (ho:o=p.ob) (hc:n≤cap) (hb:cap=0∨p.ob+cap*e.sz≤p.bs):RefRd (qjl K l0 ⟨.row e n ps,some p⟩) e l0 0 n true (.slice (some ⟨p.blk,o,none⟩) n cap):=
 ⟨n,some p,⟨ps,qbb⟩,by omega,fun _=>⟨rfl,rfl⟩,o,cap,rfl,hc,hb.imp id (fun hb=>⟨by rw [ho];simp,by simpa using hb⟩)⟩
theorem qlI (hi:Inv c H K w) (hsub:∀l o,lk l=some o→H l=some o) {L:List Nat} {e:Ty}:∀{as:List AV} {us:List (pden e)} {ls:List Nat} {f:Bool} {vs:List Value},elems lk e as=some (us,ls,f)→VRdL w (NN c H K w) K as vs→(∀l∈ls,l∈L)→
  Cat (PRd w (NN c (qJb H (Ab.kill L)) K w f) e) us (vs.flatMap fun v=>v.cells.toList)∧(∀v∈vs,v.cells.size=e.sz)∧us.length=vs.length
 |[],us,ls,f,vs,h,hv,hL=>by
  simp only [elems,wc,wk] at h;obtain ⟨rfl,rfl,rfl⟩:=h
  simp only [VRdL] at hv;subst hv
  exact ⟨rfl,(fun v hv=>by cases hv),rfl⟩
 |a::as,us,ls,f,vs,h,hv,hL=>by
  obtain ⟨v,r,rfl,h1,h2⟩:=hv
  simp only [elems] at h
  split at h
  ·rename_i x hx
   split at h
   ·rename_i u l f1 us' ls' f2 e1 e2
    simp only [wc,wk] at h;obtain ⟨rfl,rfl,rfl⟩:=h
    have r0:=(qHt h1 hx).1
    have r1:=qXp hi hsub e1 r0 (fun l hl=>hL l (by simp [hl]))
    obtain ⟨r2,r3,r4⟩:=qlI hi hsub e2 h2 (fun l hl=>hL l (by simp [hl]))
    have low:∀f g:Bool,∀b,NN c (qJb H (Ab.kill L)) K w f b→NN c (qJb H (Ab.kill L)) K w (f&&g) b:=fun f g b hb=>by
     cases f <;> cases g <;> first|exact hb|exact uj b hb
    refine ⟨⟨_,_,wUa,r1.keep ⟨fun b hb=>⟨low _ _ b hb,rfl⟩⟩,r2.imp (fun _ _ q=>q.keep ⟨fun b hb=>⟨by rw [Bool.and_comm];exact low _ _ b hb,rfl⟩⟩)⟩,?_,by simp [r4]⟩
    ·intro v' hv'
     rcases wZ.1 hv' with rfl|hv'
     ·rw [←r0.length];simp
     ·exact r3 v' hv'
   ·cases h
  ·cases h
theorem qhI {sz:Nat}:∀(vs:List Value) (k:Nat) (dn rest:List Value),(∀v∈vs,v.cells.size=sz)→dn.length=k*sz→rest.length=vs.length*sz→
  Instr.fill (fun i=>some (i*sz,sz)) (dn++rest).toArray ((vs.zipIdx k).map fun p=>(p.2,p.1))=some (dn++vs.flatMap fun v=>v.cells.toList).toArray
 |[],k,dn,rest,_,_,hr=>by
  have:rest=[]:=wG (by simpa using hr)
  subst this;simp [Instr.fill]
 |v::vs,k,dn,rest,hv,hd,hr=>by
  have h0:=hv v (by simp)
  simp only [wz,wua] at hr
  simp only [List.zipIdx_cons,wI,Instr.fill]
  have hm:0≤vs.length*sz:=Nat.zero_le _
  rw [if_neg (by simp only [h0,ne_eq,not_true_eq_false,Bool.false_or,decide_false,wyb,decide_eq_true_eq,wMa,wn];omega)]
  have h1:=qiI (size:=0) (dn++rest) v.cells.toList (k*sz) (by simp only [wQa,wn];omega)
  rw [Array.toArray_toList] at h1
  rw [h1]
  have h2:put (dn++rest) (k*sz) v.cells.toList=(dn++v.cells.toList)++rest.drop sz:=by
   rw [←hd,show dn.length=dn.length+0 from rfl,qXw rfl]
   simp only [put,List.take_zero,wV,wJ,wQa,h0,wB]
  rw [h2]
  have ih:=qhI vs (k+1) (dn++v.cells.toList) (rest.drop sz) (fun v' hv'=>hv v' (by simp [hv'])) (by simp only [wn,wQa,hd,h0,wua]) (by simp only [List.length_drop];omega)
  rw [ih]
  simp [wB]
theorem qAD:∀{ps:List (Nat×Operand)} {k:Nat},qdx ps k=true→(ps.map fun p=>(p.1,ρ p.2))=((ps.map fun p=>ρ p.2).zipIdx k).map fun p=>(p.2,p.1)
 |[],_,_=>rfl
 |q::ps,k,h=>by
  simp only [qdx,wA,beq_iff_eq] at h
  simp only [wI,List.zipIdx_cons,qAD h.2,h.1]
theorem qpj (A:At c P GT H lk K w ev ρ nl):∀{ps:List (Nat×Operand)} {vs:List (Nat×AV)},qOn ev ps=some vs→VRdL w (NN c H K w) K (vs.map (·.2)) (ps.map fun p=>ρ p.2)
 |[],vs,h=>by simp only [qOn,wc] at h;subst h;rfl
 |q::ps,vs,h=>by
  simp only [qOn] at h
  split at h
  ·rename_i v us h1 h2
   simp only [wc] at h;subst h
   exact ⟨_,_,rfl,A.one h1,qpj A h2⟩
  ·cases h
theorem qMi {o:Oper} {T E:TypeId} {n:Nat} {ps:Array (Nat×Operand)} {e:Ty} {k:Nat} (ho:o.op= .buildSlice T n ps) (hd:P.underlying T=some (.slice E)) (hE:qZd P k E=some e) (hz:qgk P E e=true)
  (q1:qdx ps.toList 0=true) (q2:ps.size=n) (q3:n*e.sz≤16777216) (q4:0<e.sz) (r2:∀v∈ps.toList.map fun p=>ρ p.2,v.cells.size=e.sz):
  (execOp ρ o).run P w= .ok (.value (.slice (some ⟨w.heap.size,0,none⟩) n n)) (w.alloc (.cells ((ps.toList.map fun p=>ρ p.2).flatMap fun v=>v.cells.toList).toArray E)):=by
 obtain ⟨z,hz1,hz2,_⟩:=qcf (P:=P) (w:=w) hz
 have hn:(ps.toList.map fun p=>ρ p.2).length=n:=by simpa using q2
 have hzl:z.cells.size=e.sz:=by
  have:=(qbg (w:=w) (N:=fun _=>True) (t:=e)).length
  rw [←hz2] at this;simpa using this
 have hfill:Instr.fill (fun i=>some (i*e.sz,e.sz)) ((Array.range (n*e.sz)).map fun i=>z.cells[i%z.cells.size]!) ((ps.map fun x=>(x.1,ρ x.2)).toList)=some ((ps.toList.map fun p=>ρ p.2).flatMap fun v=>v.cells.toList).toArray:=by
  have:=qhI (sz:=e.sz) (ps.toList.map fun p=>ρ p.2) 0 [] (((Array.range (n*e.sz)).map fun i=>z.cells[i%z.cells.size]!).toList) r2 (by simp) (by simp [hn])
  rw [←qAD q1] at this
  have hr:((Array.range (n*e.sz)).map fun i=>z.cells[i%z.cells.size]!)=((wZa (n*e.sz)).map fun i=>z.cells[i%z.cells.size]!).toArray:=by
   apply wYa;simp
  rw [hr] at this ⊢
  simpa using this
 simp only [execOp,ho,Instr.buildSlice,ww,run_underlying hd,wt,qjc hE]
 rw [if_neg (by have:(2:Nat) ^ 24=16777216:=by decide
                omega)]
 by_cases h0:n*e.sz=0
 ·have hn0:n=0:=by
   rcases Nat.mul_eq_zero.1 h0 with h1|h1
   ·exact h1
   ·omega
  have hps:ps=#[]:=Array.eq_empty_of_size_eq_zero (by omega)
  subst hps;subst hn0
  simp [Instr.fill,newRow,Array.range_zero']
 ·simp only [h0,if_false,ww,hz1,wt,wH]
  rw [hfill]
  simp [newRow]
theorem qQA {N:Bool→Nat→Prop} {e:Ty}:∀{as:List AV} {us:List Value} {x:qgf (qCK e as.length)},qIC e as=some x→VRdL w N K as us→ARd w N K (qCK e as.length) x us∧(∀u∈us,u.cells=#[u])∧us.length=as.length
 |[],us,x,h,hv=>by
  simp only [VRdL] at hv;subst hv
  exact ⟨rfl,fun u hu=>(by cases hu),rfl⟩
 |a::r,us,x,h,hv=>by
  obtain ⟨v,us',rfl,h1,h2⟩:=hv
  cases a <;> simp only [qIC] at h <;> first|(cases h;done)|skip
  rename_i e' l off len wh
  split at h
  ·rename_i he
   subst he
   split at h
   ·rename_i y hy
    obtain rfl:=Option.some.inj h
    obtain ⟨r1,r2,r3⟩:=qQA hy h2
    obtain ⟨A0,c0,hform⟩:=RefRd.form h1
    refine ⟨⟨[v],us',rfl,⟨v,rfl,h1⟩,r1⟩,fun u hu=>?_,by simp [r3]⟩
    rcases wZ.1 hu with rfl|hu
    ·rw [hform];rfl
    ·exact r2 u hu
   ·cases h
  ·cases h
theorem qPA:∀{us:List Value},(∀u∈us,u.cells=#[u])→us.flatMap (fun v=>v.cells.toList)=us
 |[],_=>rfl
 |u::us,h=>by
  rw [wUa,h u wT,qPA (fun v hv=>h v (wO _ hv))]
  rfl
theorem qTE (A:At c P GT H lk K w ev ρ nl) {e:Ty} {as:List AV} {us:List Value} {out:Out} (h:qJC e nl as=some out) (hv:VRdL w (NN c H K w) K as us) (E:TypeId):
  (∀u∈us,u.cells.size=e.sz)∧Lands c H K w nl out (.slice (some ⟨w.heap.size,0,none⟩) us.length us.length) (w.alloc (.cells (us.flatMap fun v=>v.cells.toList).toArray E)):=by
 unfold qJC at h
 split at h
 ·split at h
  ·split at h
   ·rename_i e' h4 _ x hx
    simp only [wc] at h;subst h
    obtain ⟨r1,r2,r3⟩:=qQA hx hv
    refine ⟨fun u hu=>by rw [r2 u hu];rfl,?_⟩
    rw [qPA r2]
    refine ⟨_,Stp.new A.inv A.ng nl nl ⟨ws _,by omega⟩ (A.fresh nl (ws _) (by omega)) (.box (qCK e' as.length) x) ⟨.box (qCK e' as.length),some ⟨w.heap.size,0,us.toArray.size⟩⟩ (qRb w _) (fun p hp=>by
     injection hp with hp;subst hp
     exact ⟨ws _,by rw [qwb];exact wsa _⟩) (fun N' K' hNlow hk=>⟨rfl,_,us,rfl,?_,r1.keep hk⟩),⟨_,qbb,us.length,by rw [r3],by omega⟩⟩
    have:=InBlk.new w us.toArray E
    exact this
   ·cases h
  ·cases h
 ·cases h
theorem qxE (A:At c P GT H lk K w ev ρ nl) {e:Ty} {as:List AV} {us:List Value} {out:Out} (h:qfC lk e nl as=some out) (hv:VRdL w (NN c H K w) K as us) (E:TypeId):
  (∀u∈us,u.cells.size=e.sz)∧us.length=1∧Lands c H K w nl out (.slice (some ⟨w.heap.size,0,none⟩) 1 1) (w.alloc (.cells (us.flatMap fun v=>v.cells.toList).toArray E)):=by
 unfold qfC at h
 split at h
 ·rename_i e' l off len
  split at h
  ·rename_i he
   obtain ⟨rfl,hf⟩:=he
   split at h
   ·rename_i fr xs hrow
    simp only [wc] at h;subst h
    obtain ⟨v,r,rfl,hr,hnil⟩:=hv
    simp only [VRdL] at hnil;subst hnil
    have hl:=A.sub _ _ (qGc hrow)
    obtain ⟨h1,h2,h3,h4⟩:=qRo A.inv hl hr
    obtain ⟨rfl,rfl⟩:=h3 rfl
    obtain ⟨A0,c0,hform⟩:=RefRd.form hr
    have hvc:v.cells=#[v]:=by rw [hform];rfl
    refine ⟨fun u hu=>?_,rfl,?_⟩
    ·simp only [wU] at hu;subst hu;rw [hvc];rfl
    have hcells:(List.flatMap (fun v=>v.cells.toList) [v]).toArray=#[v]:=by simp [hvc]
    rw [hcells]
    have hex:∃pl,K l=some ⟨.row e' xs.length [],pl⟩∧(match pl with
      |none=>v= .slice none 0 0∧xs=[]
      |some p=>∃o cap cl,v= .slice (some ⟨p.blk,o,none⟩) xs.length cap∧xs.length≤cap∧(cap=0∨(o=p.ob∧p.ob+cap*e'.sz≤p.bs))∧InBlk w p cl∧Cat (PRd w (fun _=>False) e') xs cl):=by
     rcases h4 with ⟨a1,a2,a3,a4⟩|⟨p,cs,o,cap,a1,a2,a3,a4,a5,a6⟩
     ·exact ⟨none,a2,a1,a3⟩
     ·exact ⟨some p,a1,o,cap,cs,a2,a3,a4.imp id (fun h=>by simpa using h),a5,a6.imp (fun _ _ q=>q.flat hf)⟩
    obtain ⟨pl,k1,k2⟩:=hex
    have hblk:∀q,pl=some q→q.blk<w.heap.size:=fun q hq=>(A.inv.own l _ _ q hl k1 (.inl hq)).1
    have hcat:((List.flatMap (fun v=>v.cells.toList) [v]))=[v]:=by simp [hvc]
    have S:=uu (w':=w.alloc (.cells #[v] E)) A.inv nl nl [l] (.fam e' [xs]) ⟨.row (.slice e') 1 [(xs.length,pl)],some ⟨w.heap.size,0,1⟩⟩ ⟨ws _,by omega⟩ (A.fresh nl (ws _) (by omega))
     ⟨rfl,rfl,rfl,by rw [qwb];omega⟩ (fun p hp=>by
      rcases hp with hp|hp
      ·injection hp with hp;subst hp
       exact .inr ⟨ws _,by rw [qwb];exact wsa _⟩
      ·simp only [Shp.ex,wI,wDa,wU] at hp
       exact .inl ⟨l,wU.2 rfl,_,_,p,hl,k1, .inl hp.symm,rfl⟩) (fun _ _ _=>A.ng) (fun k hk _=>(qRb w _).2.2.2.2 k hk) (fun N' K' _ hk=>by
      refine ⟨hf,[(xs.length,pl)],rfl,⟨fun i j p q hi hj _=>?_,fun p q hp hq=>?_⟩,[v],?_,pl,[],v,[],rfl,rfl,?_,rfl,rfl⟩
      ·have h1:=(wga.1 hi).1
       have h2:=(wga.1 hj).1
       simp at h1 h2;omega
      ·injection hp with hp;subst hp
       simp only [wI,wDa,wU] at hq
       have:=hblk q hq.symm
       simp only;omega
      ·have:=InBlk.new w #[v] E
       exact this
      ·cases pl with
       |none=>exact k2
       |some p=>
        obtain ⟨o,cap,cl,a1,a2,a3,a4,a5⟩:=k2
        exact ⟨o,cap,cl,a1,a2,a3,a4.keep ((qRb w _).2.2.2.2 _ (hblk p rfl)),a5.imp (fun _ _ q=>q.flat hf)⟩)
    exact ⟨_,S,qVo (p:=⟨w.heap.size,0,1⟩) rfl (ws _) (.inr (by simp [Ty.sz]))⟩
   ·cases h
  ·cases h
 ·cases h
theorem qeC (A:At c P GT H lk K w ev ρ nl) {e:Ty} {as:List AV} {us:List Value} {out:Out} (h:qky lk e nl as=some out) (hv:VRdL w (NN c H K w) K as us) (E:TypeId):
  (∀u∈us,u.cells.size=e.sz)∧us.length=1∧Lands c H K w nl out (.slice (some ⟨w.heap.size,0,none⟩) 1 1) (w.alloc (.cells (us.flatMap fun v=>v.cells.toList).toArray E)):=by
 unfold qky at h
 split at h
 ·rename_i e' x
  split at h
  ·rename_i he
   obtain ⟨rfl,hf⟩:=he
   split at h
   ·rename_i l off len hx
    split at h
    ·rename_i fr xs hrow
     simp only [wc] at h;subst h
     obtain ⟨v,r,rfl,hr,hnil⟩:=hv
     simp only [VRdL] at hnil;subst hnil
     obtain ⟨cs,rfl,_,c1,c2,rfl,g1,c3,c4,rfl,g2,g3⟩:=hr
     simp only [ARd] at g1 g3;subst g1;subst g3
     rw [hx] at g2
     obtain ⟨v,rfl,hr⟩:=g2
     have hl:=A.sub _ _ (qGc hrow)
     obtain ⟨h1,h2,h3,h4⟩:=qRo A.inv hl hr
     obtain ⟨rfl,rfl⟩:=h3 rfl
     have hcells:(List.flatMap (fun v=>v.cells.toList) [Value.agg ([Value.string x.1]++([v]++[])).toArray])=[.string x.1,v]:=by simp [wub]
     refine ⟨fun u hu=>?_,rfl,?_⟩
     ·simp only [wU] at hu;subst hu;rfl
     rw [hcells]
     have hex:∃pl,K l=some ⟨.row e' xs.length [],pl⟩∧Slot w e' pl v xs:=by
      rcases h4 with ⟨a1,a2,a3,a4⟩|⟨p,cs,o,cap,a1,a2,a3,a4,a5,a6⟩
      ·exact ⟨none,a2,a1,a3⟩
      ·exact ⟨some p,a1,o,cap,cs,a2,a3,a4.imp id (fun h=>by simpa using h),a5,a6.imp (fun _ _ q=>q.flat hf)⟩
     obtain ⟨pl,k1,k2⟩:=hex
     have hblk:∀q,pl=some q→q.blk<w.heap.size:=fun q hq=>(A.inv.own l _ _ q hl k1 (.inl hq)).1
     have S:=uu (w':=w.alloc (.cells #[.string x.1,v] E)) A.inv nl nl [l] (.famS .str e' [(x.1,xs)]) ⟨.row (qYr .str e') 1 [(xs.length,pl)],some ⟨w.heap.size,0,2⟩⟩ ⟨ws _,by omega⟩ (A.fresh nl (ws _) (by omega))
      ⟨rfl,rfl,rfl,by rw [qwb];omega⟩ (fun p hp=>by
       rcases hp with hp|hp
       ·injection hp with hp;subst hp
        exact .inr ⟨ws _,by rw [qwb];exact wsa _⟩
       ·simp only [Shp.ex,wI,wDa,wU] at hp
        exact .inl ⟨l,wU.2 rfl,_,_,p,hl,k1, .inl hp.symm,rfl⟩) (fun _ _ _=>A.ng) (fun k hk _=>(qRb w _).2.2.2.2 k hk) (fun N' K' _ hk=>by
       refine ⟨rfl,hf,[(xs.length,pl)],rfl,⟨fun i j p q hi hj _=>?_,fun p q hp hq=>?_⟩,[.string x.1,v],?_,pl,[],[.string x.1],v,[],rfl,rfl,rfl,?_,rfl,rfl⟩
       ·have h1:=(wga.1 hi).1
        have h2:=(wga.1 hj).1
        simp at h1 h2;omega
       ·injection hp with hp;subst hp
        simp only [wI,wDa,wU] at hq
        have:=hblk q hq.symm
        simp only;omega
       ·have:=InBlk.new w #[.string x.1,v] E
        exact this
       ·exact k2.keep hf (fun q hq=>(qRb w _).2.2.2.2 _ (hblk q hq)))
     exact ⟨_,S,qVo (p:=⟨w.heap.size,0,2⟩) rfl (ws _) (.inr (by simp [Ty.sz]))⟩
    ·cases h
   ·cases h
  ·cases h
 ·cases h
theorem qsy (A:At c P GT H lk K w ev ρ nl) {o:Oper} {T:TypeId} {n:Nat} {ps:Array (Nat×Operand)} (ho:o.op= .buildSlice T n ps) {orc:Option COrc} {out:Out} (h:qYb P GT ev lk nl orc o.type o.op=some out):
  Does P o ρ w (Lands c H K w nl out):=by
 rw [ho] at h
 simp only [qYb] at h
 split at h
 ·rename_i e vs he hvs
  split at h
  ·rename_i hq
   simp only [wA,decide_eq_true_eq] at hq
   obtain ⟨⟨⟨q1,q2⟩,q3⟩,q4⟩:=hq
   split at h
   ·rename_i E hd
    split at h
    ·rename_i hz
     have hT:qZd P tyD T=some (.slice e):=by
      unfold qvo at he
      split at he
      ·rename_i e' h';simp only [wc] at he;subst he;exact h'
      ·cases he
     obtain ⟨m,E',_,hd',hE⟩:=qSc hT
     rw [hd] at hd';injection hd' with hd';injection hd' with hd';subst hd'
     have hn:(ps.toList.map fun p=>ρ p.2).length=n:=by simpa using q2
     split at h
     ·rename_i o' hfb
      simp only [wc] at h;subst h
      obtain ⟨g1,g2,g3⟩:=qxE A hfb (qpj A hvs) E
      have hn1:n=1:=by rw [←hn,g2]
      have hrun:=qMi (w:=w) ho hd hE hz q1 q2 q3 q4 g1
      rw [hn1] at hrun
      exact Does.value hrun g3
     split at h
     ·rename_i o' hfb
      simp only [wc] at h;subst h
      obtain ⟨g1,g2,g3⟩:=qeC A hfb (qpj A hvs) E
      have hn1:n=1:=by rw [←hn,g2]
      have hrun:=qMi (w:=w) ho hd hE hz q1 q2 q3 q4 g1
      rw [hn1] at hrun
      exact Does.value hrun g3
     split at h
     ·rename_i o' hbb
      simp only [wc] at h;subst h
      obtain ⟨g1,g3⟩:=qTE A hbb (qpj A hvs) E
      have hrun:=qMi (w:=w) ho hd hE hz q1 q2 q3 q4 g1
      rw [hn] at g3
      exact Does.value hrun g3
     split at h
     ·rename_i us ls fr hel
      simp only [wc] at h;subst h
      obtain ⟨r1,r2,r3⟩:=qlI A.inv A.sub (L:=ls) hel (qpj A hvs) (fun l hl=>hl)
      have hcl:=r1.length (n:=e.sz) (fun _ _=>PRd.length)
      rw [r3,hn] at hcl
      refine Does.value (qMi (w:=w) ho hd hE hz q1 q2 q3 q4 r2) ?_
      ·have S1:=Stp.kill A.inv nl ls
       have S2:=qJs (w':=w.alloc (.cells ((ps.toList.map fun p=>ρ p.2).flatMap fun v=>v.cells.toList).toArray E)) S1.inv A.ng (nl:=nl) (l0:=nl) ⟨ws _,by omega⟩ (A.fresh nl (ws _) (by omega)) (e:=e) (fr:=fr) (xs:=us) (p:=⟨w.heap.size,0,_⟩) (qRb w _) ⟨ws _,by rw [qwb];exact wsa _⟩ (InBlk.new w _ E) (by simpa using r1)
       refine ⟨_,S1.trans S2,?_⟩
       have hul:us.length=n:=by rw [r3,hn]
       rw [hul]
       refine qVo (p:=⟨w.heap.size,0,_⟩) rfl (ws _) (.inr ?_)
       show 0+n*e.sz≤(((ps.toList.map fun p=>ρ p.2).flatMap fun v=>v.cells.toList).toArray).size
       have h7:(((ps.toList.map fun p=>ρ p.2).flatMap fun v=>v.cells.toList).toArray).size=n*e.sz:=by
        rw [←hcl];exact wMa
       omega
     ·cases h
    ·cases h
   ·cases h
  ·cases h
 ·cases h
theorem qIs {α:Type} {R:α→List Value→Prop} {x:α} {z:Array Value} (h:R x z.toList):∀n,Cat R (wl n x) ((wZa (n*z.size)).map fun i=>z[i%z.size]!)
 |0=>by simp [Cat]
 |n+1=>by
  have ih:=qIs h n
  have h1:Cat R [x] z.toList:=⟨z.toList,[],by simp,h,rfl⟩
  have:=ih.append h1
  rw [←List.replicate_succ'] at this
  rw [show (n+1)*z.size=n*z.size+z.size by rw [wua],List.range_add,wBa]
  have h2:List.map (fun i=>z[i%z.size]!) (List.map (fun x=>n*z.size+x) (wZa z.size))=z.toList:=by
   apply wTa;intro j
   simp only [List.map_map,wxa,wla]
   by_cases hj:j<z.size
   ·rw [List.getElem?_range hj]
    simp only [wCa,Function.comp]
    rw [Nat.mul_comm,Nat.mul_add_mod,Nat.mod_eq_of_lt hj]
    simp [hj]
   ·rw [List.getElem?_eq_none (by simpa using hj),Array.getElem?_eq_none (by omega)];rfl
  rw [h2];exact this
theorem FamRd.zero {w:World} {e:Ty}:∀{n:Nat} {cs:List Value},Cat (fun (_:List (pden e)) cs=>cs=[.slice none 0 0]) (wl n []) cs→FamRd w e (wl n []) (wl n (0,none)) cs
 |0,cs,h=>⟨rfl,h⟩
 |n+1,cs,h=>by
  obtain ⟨c1,c2,rfl,rfl,h2⟩:=h
  exact ⟨none,_,_,c2,rfl,rfl,⟨rfl,rfl⟩,FamRd.zero h2⟩
theorem qSD {e:Ty} (h:e≠ .slice .bool) (n:Nat):qGB e n= .row e true (wl n (qra e)):=by
 unfold qGB
 split
 ·exact absurd rfl h
 ·rfl
theorem qxJ (hi:Inv c H K w) (hng:c.ng≤c.w0.heap.size) {w':World} {l0:Nat} (hn:nl≤l0∧l0<nl+8) (hf:K l0=none) {e:Ty} {m:Nat} {p:Plc} {cs:List Value}
  (hw:w'.os=w.os∧w'.tape=w.tape∧w'.output=w.output∧w.heap.size≤w'.heap.size∧∀k,k<w.heap.size→w'.heap[k]?=w.heap[k]?)
  (hp:w.heap.size≤p.blk∧p.blk<w'.heap.size) (hb:InBlk w' p cs) (hc:Cat (PRd w (NN c H K w true) e) (wl m (qra e)) cs) (h0:Cat (fun _ cs=>cs=qcl e) (wl m (qra e)) cs):
  ∃ps,Stp c H K w [(l0,some (qGB e m))] nl (qjl K l0 ⟨.row e (wl m (qra e)).length ps,some p⟩) w':=by
 by_cases he:e= .slice .bool
 ·subst he
  refine ⟨wl m (0,none),?_⟩
  have hno:∀q:Plc,some q ∉ (wl m ((0:Nat),(none:Option Plc))).map (·.2):=fun q hq=>by
   simp at hq
  have S:=uu (w':=w') hi nl l0 [] (.fam .bool (wl m [])) ⟨.row (.slice .bool) (wl m (qra (.slice .bool))).length (wl m (0,none)),some p⟩ hn hf ⟨hw.1,hw.2.1,hw.2.2.1,hw.2.2.2.1⟩
   (fun q hq=>by
    rcases hq with hq|hq
    ·injection hq with hq;subst hq;exact .inr hp
    ·exact absurd hq (hno q))
   (fun _ _ _=>hng) (fun k hk _=>hw.2.2.2.2 k hk)
   (fun N' K' _ hk=>⟨rfl,wl m (0,none),by simp,⟨fun i j p q h1 _ _=>absurd (wpa h1) (hno p),fun p q _ hq=>absurd hq (hno q)⟩,cs,hb,FamRd.zero h0⟩)
  exact S
 ·rw [qSD he]
  exact ⟨[],qJs hi hng hn hf hw hp hb hc⟩
theorem qXz (A:At c P GT H lk K w ev ρ nl) {o:Oper} {T:TypeId} {x y:Operand} (ho:o.op= .makeSlice T x y) {orc:Option COrc} {out:Out} (h:qYb P GT ev lk nl orc o.type o.op=some out) (hc:qqh out.conds):
  Does P o ρ w (Lands c H K w nl out):=by
 rw [ho] at h
 simp only [qYb] at h
 split at h
 ·rename_i e n m he hx hy
  have ha:=A.one hx
  have hb:=A.one hy
  simp only [VRd] at ha hb
  split at h
  ·rename_i E hd
   split at h
   ·rename_i hq
    simp only [wA,decide_eq_true_eq] at hq
    simp only [wc] at h;subst h
    obtain ⟨c1,c2,c3,c4,_⟩:=hc
    subst c1
    have hT:qZd P tyD T=some (.slice e):=by
     unfold qvo at he
     split at he
     ·rename_i e' h';simp only [wc] at he;subst he;exact h'
     ·cases he
    obtain ⟨k,E',_,hd',hE⟩:=qSc hT
    rw [hd] at hd';injection hd' with hd';injection hd' with hd';subst hd'
    obtain ⟨z,hz1,hz2,i,hi1,hi2⟩:=qcf (P:=P) (w:=w) hq.1
    obtain ⟨_,_,i',_,_,_,_,hi3,hi4⟩:=qqd hE
    rw [hi1] at hi3;injection hi3 with hi3;subst hi3
    have hby:P.bytesOf E=i.bytes:=by simp [Program.bytesOf,hi1]
    have hzs:z.cells.size=e.sz:=by
     have:=(qbg (w:=w) (N:=fun _=>True) (t:=e)).length
     rw [←hz2] at this;simpa using this
    have hrun:=run_make (P:=P) w T E i z hd hi1 hi2 .i64 .i64 m m c2 (Int.le_refl _) (by rw [hby] at c3;rw [Int.mul_comm];omega) c4
    have hcells:(madeCells z.cells (m.toNat*i.size)).toList=(wZa (m.toNat*z.cells.size)).map fun i=>z.cells[i%z.cells.size]!:=by
     simp [madeCells,hi4,hzs]
    have hcat:Cat (PRd w (NN c H K w true) e) (wl m.toNat (qra e)) (madeCells z.cells (m.toNat*i.size)).toList:=by
     rw [hcells]
     exact qIs (by rw [hz2];exact qbg) _
    refine Does.value (v:= .slice (some ⟨w.heap.size,0,none⟩) m.toNat m.toNat) (w':=w.alloc (.cells (madeCells z.cells (m.toNat*i.size)) E)) ?_ ?_
    ·simp only [execOp,ho,ha,hb]
     rw [ww,hrun];rfl
    ·have hcells0:Cat (fun _ cs=>cs=qcl e) (wl m.toNat (qra e)) (madeCells z.cells (m.toNat*i.size)).toList:=by
      rw [hcells]
      exact qIs (R:=fun _ cs=>cs=qcl e) hz2 _
     obtain ⟨ps,S2⟩:=qxJ (w':=w.alloc (.cells (madeCells z.cells (m.toNat*i.size)) E)) A.inv A.ng (nl:=nl) (l0:=nl) ⟨ws _,by omega⟩ (A.fresh nl (ws _) (by omega)) (e:=e) (p:=⟨w.heap.size,0,_⟩) (qRb w _) ⟨ws _,by rw [qwb];exact wsa _⟩ (InBlk.new w _ E) hcat hcells0
     refine ⟨_,S2,?_⟩
     rw [wP]
     refine qVo (p:=⟨w.heap.size,0,_⟩) rfl (ws _) (.inr ?_)
     simp [size_madeCells,hi4]
   ·cases h
  ·cases h
 ·cases h
end
end Go.Ab

/-
  Conversions, append, copy, the lesser and the greater.
-/
set_option linter.unusedVariables false
set_option linter.unusedSimpArgs false
namespace Go.Ab
open Go
section
variable {c:Cx} {P:Program} {GT:qmi} {H lk:qBc} {K:Kn} {w:World} {ev:Operand→TV} {ρ:Operand→Value} {nl:Nat}
def SlRd (w:World) (N:Nat→Prop) (e:Ty) (xs:List (pden e)) (v:Value):Prop:=
 ∃A cap,v= .slice A xs.length cap∧xs.length≤cap∧(xs=[]∨∃b o cl,A=some ⟨b,o,none⟩∧CellsAt w b o cl∧Cat (PRd w N e) xs cl∧b<w.heap.size)
theorem qku (A:Inv c H K w) (hsub:∀l o,lk l=some o→H l=some o) {e:Ty} {x:AV} {v:Value} {fr:Bool} {ys:List (pden e)} (h:qTf lk e x=some (fr,ys)) (hs:∀s,x≠ .str s) (hx:VRd w (NN c H K w) K x v):SlRd w (NN c H K w fr) e ys v:=by
 cases x with
 |str s=>exact absurd rfl (hs s)
 |sl e' f' xs=>
  simp only [qTf] at h
  split at h
  ·rename_i he
   subst he
   simp only [wc,wk] at h;obtain ⟨rfl,rfl⟩:=h
   obtain ⟨A0,cap,e1,hl,hb⟩:=hx
   simp only [wIa,and_true] at e1
   refine ⟨A0,cap,e1,hl,hb.imp id ?_⟩
   rintro ⟨b,o,cl,h1,h2,h3,h4⟩
   exact ⟨b,o,cl,h1,h3,h4.imp (fun _ _ q=>uw q),h2.1⟩
  ·cases h
 |nil=>
  simp only [qTf,wc,wk] at h;obtain ⟨rfl,rfl⟩:=h
  exact ⟨none,0,hx,ws _, .inl rfl⟩
 |sln e' f' xs=>
  simp only [qTf] at h
  split at h
  ·rename_i he
   subst he
   simp only [wc,wk] at h;obtain ⟨rfl,rfl⟩:=h
   obtain ⟨⟨A0,cap,e1,hl,hb⟩,_⟩:=hx
   simp only [wIa,and_true] at e1
   refine ⟨A0,cap,e1,hl,hb.imp id ?_⟩
   rintro ⟨b,o,cl,h1,h2,h3,h4⟩
   exact ⟨b,o,cl,h1,h3,h4.imp (fun _ _ q=>uw q),h2.1⟩
  ·cases h
 |ref e' l off len wh=>
  simp only [qTf] at h
  split at h
  ·rename_i he
   subst he
   split at h
   ·rename_i f' xs hrow
    simp only [wc,wk] at h;obtain ⟨rfl,rfl⟩:=h
    obtain ⟨h1,h2,h3,h4⟩:=qRo A (hsub _ _ (qGc hrow)) hx
    rcases h4 with ⟨rfl,h5,rfl,h6⟩|⟨p,cl,o,cap,k1,rfl,h5,h6,h7,h8⟩
    ·have:seg ([]:List (pden e')) off len wh=[]:=wG (by rw [h1,h6])
     rw [this]
     exact ⟨none,0,rfl,ws _, .inl rfl⟩
    ·refine ⟨_,cap,by rw [h1],by omega,?_⟩
     by_cases h0:len=0
     ·exact .inl (wG (by rw [h1,h0]))
     ·right
      have h6':=h6.resolve_left (by omega)
      refine ⟨p.blk,o,_,rfl,?_,(qtn (fun _ _=>PRd.length) h8 h3).imp (fun _ _ q=>uw q),h7.lt⟩
      rw [h6'.1]
      exact h7.cells.cut _ _
   ·cases h
  ·cases h
 |bref e' l p n off len=>
  simp only [qTf] at h
  split at h
  ·rename_i he
   subst he
   split at h
   ·rename_i obj hlk
    split at h
    ·rename_i t y hg
     split at h
     ·rename_i ht
      subst ht
      simp only [wc,wk] at h;obtain ⟨rfl,rfl⟩:=h
      obtain ⟨sh,pl,po,k1,k2,k3,o,cap,rfl,h5,h6⟩:=hx
      obtain ⟨gh,g1,g2⟩:=A.objs l _ (hsub _ _ hlk)
      rw [k1] at g1;injection g1 with g1;subst g1
      obtain ⟨cs,e2,e3,e4⟩:=g2.box_get uj k2 hg
      obtain ⟨hyl,hyc⟩:=e4
      have hlen:((y.drop off).take len).length=len:=by simp;omega
      refine ⟨_,cap,by rw [hlen],by omega,?_⟩
      by_cases h0:len=0
      ·exact .inl (wG (by rw [hlen,h0]))
      ·right
       have h6':=h6.resolve_left (by omega)
       have hc1:=hyc.seg (n:=e'.sz) (fun _ _=>PRd.length) off len
       refine ⟨pl.blk,o,_,rfl,?_,hc1.imp (fun _ _ q=>?_),e2.lt⟩
       ·rw [h6',wOa]
        have:=(e2.cells.cut po (Ty.arr n e').sz).cut (off*e'.sz) (len*e'.sz)
        rwa [wOa] at this
       ·cases hf:e'.flat with
        |true=>exact PRd.flat hf q
        |false=>exact q
     ·cases h
    ·cases h
   ·cases h
  ·cases h
 |_=>simp [qTf] at h
theorem SlRd.form {N:Nat→Prop} {e:Ty} {xs:List (pden e)} {v:Value} (h:SlRd w N e xs v):∃A cap cl,v= .slice A xs.length cap∧xs.length≤cap∧Cat (PRd w N e) xs cl∧(xs≠[]→∃b o,A=some ⟨b,o,none⟩∧CellsAt w b o cl):=by
 obtain ⟨A,cap,e1,hl,hb⟩:=h
 rcases hb with rfl|⟨b,o,cl,h1,h2,h3,_⟩
 ·exact ⟨A,cap,[],e1,hl,rfl,fun h=>absurd rfl h⟩
 ·exact ⟨A,cap,cl,e1,hl,h3,fun _=>⟨b,o,h1,h2⟩⟩
theorem SlRd.first {N:Nat→Prop} {e:Ty} {xs:List (pden e)} {v:Value} (h:SlRd w N e xs v):∃cl,Cat (PRd w N e) xs cl∧(∀w',w'.heap=w.heap→(Builtin.lenOf v).run P w'= .ok xs.length w')∧
  ∀n,n≤xs.length→∀w',w'.heap=w.heap→(wya e.sz n v).run P w'= .ok (cl.take (n*e.sz)).toArray w':=by
 obtain ⟨A,cap,cl,rfl,hl,hc,hb⟩:=h.form
 refine ⟨cl,hc,fun w' hw=>rfl,fun n hn w' hw=>?_⟩
 have hcl:=hc.length (n:=e.sz) (fun _ _=>PRd.length)
 by_cases h0:xs=[]
 ·subst h0
  have:n=0:=by simpa using hn
  subst this
  cases A with
  |none=>simp [wya]
  |some a=>simp [wya,loadCells,loadCellsFrom]
 ·obtain ⟨b,o,rfl,h1⟩:=hb h0
  have hle:n*e.sz≤cl.length:=by rw [hcl];exact wna _ hn
  have:=run_loadCells_list (P:=P) w' ⟨b,o,none⟩ (cl.take (n*e.sz)) (fun j v hj=>by
   rw [wPa]
   have hj2:cl[j]?=some v:=by
    rw [List.getElem?_take] at hj
    split at hj
    ·exact hj
    ·cases hj
   have:=h1 j v hj2
   simpa [World.cell?,hw] using this)
  rw [List.length_take,Nat.min_eq_left hle] at this
  simpa [wya] using this
theorem qWF (s:ByteArray):(s.data.map fun b=>wgb .u8 b.toNat).toList=(qpd s).map fun n=>wgb .u8 n:=by
 simp [qpd]
theorem qYs {N:Nat→Prop} {k:IntKind}:∀(xs:List Int),Cat (PRd w N (.int k)) (xs:List (pden (.int k))) (xs.map fun n=>wgb k n)
 |[]=>rfl
 |x::xs=>⟨[.int k x],_,rfl,rfl,qYs xs⟩
theorem qYi {N:Nat→Prop} {k:IntKind}:∀{xs:List Int} {cl:List Value},Cat (PRd w N (.int k)) (xs:List (pden (.int k))) cl→cl=xs.map fun n=>wgb k n
 |[],cl,h=>by simpa [Cat] using h
 |x::xs,cl,h=>by
  obtain ⟨c1,c2,rfl,h1,h2⟩:=h
  simp only [PRd] at h1;subst h1
  rw [qYi h2];rfl
theorem qlG (w:World) (a:Addr):(w.freeze a 1).os=w.os∧(w.freeze a 1).tape=w.tape∧(w.freeze a 1).output=w.output∧(w.freeze a 1).heap.size=w.heap.size∧∀k,k≠a.block→(w.freeze a 1).heap[k]?=w.heap[k]?:=by
 refine ⟨rfl,rfl,rfl,by simp [World.freeze],fun k hk=>?_⟩
 simp only [World.freeze,Nat.one_ne_zero,if_false,Array.getElem?_modify]
 rw [if_neg (wJa hk)]
theorem qHE (A:At c P GT H lk K w ev ρ nl) {o:Oper} {s d:TypeId} {x:Operand} (ho:o.op= .convert s d x) {orc:Option COrc} {out:Out} (h:qYb P GT ev lk nl orc o.type o.op=some out) (hc:qqh out.conds):
  Does P o ρ w (Lands c H K w nl out):=by
 rw [ho] at h
 simp only [qYb] at h
 split at h
 ·rename_i v hv
  have hx:=A.one hv
  have hrun:∀u w',(convert s d (ρ x)).run P w= .ok u w'→(execOp ρ o).run P w= .ok (.value u) w':=by
   intro u w' hu
   simp only [execOp,ho]
   rw [ww,hu];rfl
  simp only [qAM] at h
  split at h
  ·rename_i k k' n hd
   split at h
   ·rename_i hs
    obtain ⟨ds,hds⟩:=wHa.1 hs
    simp only [Ab.one,wc] at h;subst h
    simp only [VRd] at hx
    refine Does.value (hrun (.int k (k.wrap n)) w ?_) (Lands.one A.inv rfl)
    rw [hx]
    simp only [convert,ww,run_underlying hds,run_underlying hd,wt]
    rfl
   ·cases h
  ·rename_i st hd
   split at h
   ·rename_i hs
    obtain ⟨ds,hds⟩:=wHa.1 hs
    simp only [Ab.one,wc] at h;subst h
    simp only [VRd] at hx
    refine Does.value (hrun (.string st) w ?_) (Lands.one A.inv rfl)
    rw [hx]
    simp only [convert,ww,run_underlying hds,run_underlying hd,wt]
    rfl
   ·cases h
  ·rename_i hd hns
   split at h
   ·rename_i e hs
    split at h
    ·rename_i he
     split at h
     ·rename_i fr xs hcn
      simp only [Ab.one,wc] at h;subst h
      have hsl:=qku A.inv A.sub hcn (fun s' e=>hns s' e) hx
      obtain ⟨A0,cap,e1,hl,hb⟩:=hsl
      refine Does.value (hrun (.string (qjn xs)) w ?_) (Lands.one A.inv rfl)
      rw [e1]
      rcases hb with rfl|⟨b,o',cl,rfl,h2,h3,_⟩
      ·cases A0 with
       |none=>exact run_convert_bytes_nil w s e hs he _ _ d hd
       |some a=>
        obtain ⟨bb,oo,sp⟩:=a
        rw [run_convert_bytes_string w s d e (some ⟨bb,oo,sp⟩) _ cap hs he hd]
        exact run_bytesToString w _ 0 cap [] (by simp [loadCells,loadCellsFrom])
      ·refine run_convert_bytes_arg w s e hs he b o' xs.length cap xs rfl (fun i hi=>?_) d hd
       have hcl:=qYi h3
       have:=h2 i (.int .u8 (xs.getD i 0)) (by rw [hcl];simp [wx hi])
       exact this
     ·cases h
    ·cases h
   ·cases h
  ·rename_i e st hd
   split at h
   ·rename_i ds hds he
    simp only [Ab.one,wc] at h;subst h
    simp only [VRd] at hx
    have hrun2:(convert s d (ρ x)).run P w= .ok (.slice (some ⟨w.heap.size,0,none⟩) st.size (grownCap w st.size 0 e)) (Lib.bytesWorld w e st):=by
     rw [hx];exact Lib.run_convert_string_bytes w s d e st hds hd he
    have hcap:st.size≤grownCap w st.size 0 e:=grownCap_ge w st.size 0 e
    have harr:(Lib.bytesCells w e st).size=grownCap w st.size 0 e:=by
     have h0:st.data.size=st.size:=rfl
     simp only [Lib.bytesCells,Array.size_append,Array.size_map,Array.size_replicate];omega
    have hlen:(qpd st).length=st.size:=by simp [qpd,←ByteArray.size_data]
    obtain ⟨S,hN⟩:=Stp.more (w':=Lib.bytesWorld w e st) A.inv nl ⟨rfl,rfl,rfl,by rw [Lib.bytesWorld_size];omega,Lib.bytesWorld_at_old w e st⟩
    refine Does.value (hrun _ _ hrun2) ⟨K,S,some ⟨w.heap.size,0,none⟩,_,by rw [hlen],by rw [hlen];exact hcap, .inr ⟨w.heap.size,0,_,rfl,hN _ (ws _) (by rw [Lib.bytesWorld_size];exact wsa _),fun j u hj=>?_,qYs _⟩⟩
    simp only [World.cell?,Lib.bytesWorld_at_new w e st,wJ]
    rw [←qWF,wla] at hj
    simp only [Lib.bytesCells]
    rw [Array.getElem?_append_left (wXa.1 hj).1];exact hj
   ·cases h
  ·rename_i e l off len wh hd
   split at h
   ·rename_i hsd
    split at h
    ·rename_i he
     split at h
     ·rename_i fr xs hrow
      simp only [wc] at h;subst h
      have hlen:0<len:=hc.1
      have hlk:=A.sub _ _ (qGc hrow)
      obtain ⟨h1,h2,h3,h4⟩:=qRo A.inv hlk hx
      rcases h4 with ⟨_,_,_,h6⟩|⟨p,cs,o',cap,q1,q2,q3,q4,q5,q6⟩
      ·omega
      ·obtain ⟨arr,T,fz,b1,b2,b3⟩:=id q5
       have hrun2:(convert s d (ρ x)).run P w= .ok (ρ x) (w.freeze ⟨p.blk,arr.size,none⟩ 1):=by
        subst hsd
        have hsh:w.shape? p.blk=some (T,arr.size):=by simp only [World.shape?,b1]
        simp only [q2,convert,ww,run_underlying hd,run_underlying he,wt,beq_self_eq_true,markStringish,run_shape,hsh,run_freeze,wH]
       obtain ⟨S,hN⟩:=Stp.drop A.inv nl l _ _ p hlk q1 rfl (qlG w ⟨p.blk,arr.size,none⟩)
       refine Does.value (hrun _ _ hrun2) ⟨K,S,?_⟩
       have q4':=q4.resolve_left (by omega)
       refine ⟨_,cap,by rw [q2,h1],by rw [h1];exact q3, .inr ⟨p.blk,o',_,rfl,hN,?_,(qtn (fun _ _=>PRd.length) q6 h3).imp (fun _ _ q=>PRd.flat rfl q)⟩⟩
       have hc2:CellsAt w p.blk o' (cut cs (off*(Ty.int .u8).sz) (len*(Ty.int .u8).sz)):=by rw [q4'.1];exact q5.cells.cut _ _
       intro j u hj
       have h5:=hc2 j u hj
       simp only [World.cell?,World.freeze,Nat.one_ne_zero,if_false,Array.getElem?_modify,if_true,b1,wCa] at h5 ⊢
       exact h5
     ·cases h
    ·cases h
   ·cases h
  ·cases h
 ·cases h
end
end Go.Ab

/-
  append, copy, the lesser and the greater.
-/
set_option linter.unusedVariables false
set_option linter.unusedSimpArgs false
namespace Go.Ab
open Go
section
variable {c:Cx} {P:Program} {GT:qmi} {H lk:qBc} {K:Kn} {w:World} {ev:Operand→TV} {ρ:Operand→Value} {nl:Nat}
inductive Src (P:Program) (w:World) (E T2:TypeId) (sz:Nat) (z:Array Value) (x:Value) (n:Nat) (cl:List Value):Prop
 |given (hd:(∃e,P.underlying T2=some (.slice e))∨P.underlying T2=some .string) (hn:∀w',(Builtin.lenOf x).run P w'= .ok n w') (hc:∀w',w'.heap=w.heap→(wya sz n x).run P w'= .ok cl.toArray w')
 |zeros (k k':IntKind) (m:Int) (hd:P.underlying T2=some (.int k)) (hx:x= .int k' m) (h0:0≤m) (h1:m≤9223372036854775807) (h2:m*(P.bytesOf E:Int)≤140737488355328) (hn:n=m.toNat) (hc:cl=(wZa (n*z.size)).map fun i=>z[i%z.size]!)
theorem qbm (z:Array Value) (n:Nat):(wra z n)=((wZa (n*z.size)).map fun i=>z[i%z.size]!).toArray:=by
 apply wYa;simp [wra]
theorem qbH {m:Int} (h0:0≤m) (h1:m≤9223372036854775807):IntKind.i64.wrap m=m:=by
 simp [IntKind.wrap,IntKind.signed,IntKind.bits]
 omega
theorem qUk {T T2 E ty:TypeId} {i:TypeInfo} {z:Value} {sz:Nat} (hd:P.underlying T=some (.slice E)) (hi:P.info? E=some i) (hz:i.zero=some z) (hsz:i.size=sz) (hzs:z.cells.size=sz)
  {base:Option Addr} {sLen sCap n:Nat} {x:Value} {cl:List Value} (hx:Src P w E T2 sz z.cells x n cl) (hr:sLen+n≤sCap) {w2:World}
  (hw:(match base with
   |some a=>storeCells (a.add (sLen*sz)) cl
   |none=>pure ()).run P w= .ok () w2):
  (wta #[T,T2] ty #[.slice base sLen sCap,x]).run P w= .ok (.slice base (sLen+n) sCap) w2:=by
 subst hsz
 cases hx with
 |given hd2 hn hc=>
  have hc':=hc w rfl
  rcases hd2 with ⟨e2,hd2⟩|hd2 <;> cases base <;>
   (simp [wta,run_underlying hd,run_underlying hd2,sizeOf,typeInfo,hi,hn,hr,hc'] at hw ⊢;try exact hw)
  all_goals simp [hw]
 |zeros k k' m hd2 hx h0 h1 h2 hn hc=>
  subst hx
  have hw1:=qbH h0 h1
  have hby:P.bytesOf E=i.bytes:=by simp [Program.bytesOf,hi]
  rw [hby] at h2
  have g1:¬(m<0):=by omega
  have g2:¬(281474976710656<m*(i.bytes:Int)):=by omega
  subst hn
  have hcl:cl.toArray=wra z.cells m.toNat:=by rw [qbm,hc]
  by_cases h00:m.toNat*i.size=0
  ·have hcl0:cl=[]:=by
    rw [hc,hzs,h00];rfl
   subst hcl0
   cases base <;>
   (simp [wta,run_underlying hd,run_underlying hd2,sizeOf,typeInfo,hi,hw1,asInt,asIntOf,g1,g2,h00,hr,storeCells] at hw ⊢)
   all_goals exact hw
  ·have h01:¬(m.toNat=0∨i.size=0):=by rw [←Nat.mul_eq_zero];exact h00
   have h02:¬(m≤0):=by omega
   have h03:¬(i.size=0):=by omega
   cases base <;>
   (simp [wta,run_underlying hd,run_underlying hd2,sizeOf,typeInfo,zeroValue,hz,hi,hw1,asInt,asIntOf,g1,g2,h02,h03,hr,←hcl] at hw ⊢;try exact hw)
   rw [if_neg h00,hw];rfl
theorem qru {T T2 E ty:TypeId} {i:TypeInfo} {z:Value} {sz:Nat} (hd:P.underlying T=some (.slice E)) (hi:P.info? E=some i) (hz:i.zero=some z) (hsz:i.size=sz) (hzs:z.cells.size=sz)
  {base:Option Addr} {sLen sCap n:Nat} {x:Value} {olds cl:List Value} (ho:∀w',w'.heap=w.heap→(wya sz sLen (.slice base sLen sCap)).run P w'= .ok olds.toArray w')
  (hx:Src P w E T2 sz z.cells x n cl) (hr:sCap<sLen+n) (hb:(sLen+n)*i.bytes≤140737488355328) (h63:0<i.bytes):
  (wta #[T,T2] ty #[.slice base sLen sCap,x]).run P w= .ok (.slice (some ⟨w.heap.size,0,none⟩) (sLen+n) (grownCap w (sLen+n) sCap E))
   (w.drew.alloc (.cells (olds.toArray++(cl.toArray++wra z.cells (grownCap w (sLen+n) sCap E - (sLen+n)))) E)):=by
 subst hsz
 have hn0:¬(sLen+n≤sCap):=by omega
 have hfit:=growslice_fits hr hb
 have h48':¬(281474976710656<Builtin.nextslicecap (sLen+n) sCap*i.bytes):=by omega
 have hby0:¬(i.bytes=0):=by omega
 have hle:sLen+n≤(sLen+n)*i.bytes:=Nat.le_mul_of_pos_right _ h63
 have h63':¬(9223372036854775807<((sLen:Int)+(n:Int))):=by omega
 have ho':=ho w.drew rfl
 cases hx with
 |given hd2 hn hc=>
  have hc':=hc w.drew rfl
  rcases hd2 with ⟨e2,hd2⟩|hd2 <;>
   (simp [wta,run_underlying hd,run_underlying hd2,sizeOf,typeInfo,zeroValue,hz,hi,hn,hn0,h63',h48',hby0,Question.forced,ho',hc',newRow,grownCap])
 |zeros k k' m hd2 hx h0 h1 h2 hn hc=>
  subst hx
  have hw1:=qbH h0 h1
  have hby:P.bytesOf E=i.bytes:=by simp [Program.bytesOf,hi]
  rw [hby] at h2
  have g1:¬(m<0):=by omega
  have g2:¬(281474976710656<m*(i.bytes:Int)):=by omega
  subst hn
  have hcl:cl.toArray=wra z.cells m.toNat:=by rw [qbm,hc]
  have h63'':¬(9223372036854775807<((sLen:Int)+max m 0)):=by omega
  by_cases h00:m.toNat*i.size=0
  ·have hcl0:cl=[]:=by
    rw [hc,hzs,h00];rfl
   subst hcl0
   simp [wta,run_underlying hd,run_underlying hd2,sizeOf,typeInfo,zeroValue,hz,hi,hw1,asInt,asIntOf,g1,g2,h00,hn0,h63',h63'',h48',hby0,Question.forced,ho',newRow,grownCap]
  ·have h01:¬(m.toNat=0∨i.size=0):=by rw [←Nat.mul_eq_zero];exact h00
   have h02:¬(m≤0):=by omega
   have h03:¬(i.size=0):=by omega
   simp [wta,run_underlying hd,run_underlying hd2,sizeOf,typeInfo,zeroValue,hz,hi,hw1,asInt,asIntOf,g1,g2,h02,h03,hn0,h63',h63'',h48',hby0,Question.forced,ho',newRow,grownCap,←hcl]
   exact fun hh=>absurd hh h00
theorem NN.and1 {f g:Bool} {b:Nat} (h:NN c H K w f b):NN c H K w (f&&g) b:=by
 cases f <;> cases g <;> first|exact h|exact uj b h
theorem NN.and2 {f g:Bool} {b:Nat} (h:NN c H K w g b):NN c H K w (f&&g) b:=by
 cases f <;> cases g <;> first|exact h|exact uj b h
theorem InBlk.front {w:World} {p:Plc} {cs ds:List Value} (h:InBlk w p (cs++ds)):InBlk w p cs:=by
 obtain ⟨arr,T,fz,h1,h2,h3,h4,h5⟩:=h
 refine ⟨arr,T,fz,h1,h2,h3,by simp at h4;omega,fun j v hj=>h5 j v ?_⟩
 rw [wza (wga.1 hj).1];exact hj
theorem InBlk.is {w:World} {p:Plc} {cs:List Value} (h:InBlk w p cs) {o:Nat} (ho:o<p.bs):(w.cell? ⟨p.blk,o,none⟩).isSome=true:=by
 obtain ⟨arr,T,fz,h1,h2,h3,h4,h5⟩:=h
 have:o<arr.size:=by omega
 simp [World.cell?,h1,this]
theorem qsu (hi:Inv c H K w) (hng:c.ng≤c.w0.heap.size) (hf:K nl=none) {T T2 E ty:TypeId} {i:TypeInfo} {z:Value} {e:Ty} (hd:P.underlying T=some (.slice E)) (hin:P.info? E=some i) (hz:i.zero=some z) (hsz:i.size=e.sz) (hzs:z.cells.size=e.sz)
  {base:Option Addr} {sLen sCap n:Nat} {x:Value} {cl:List Value} {zs ys:List (pden e)} {fr fr1:Bool} (hs:SlRd w (NN c H K w fr1) e zs (.slice base sLen sCap))
  (hx:Src P w E T2 e.sz z.cells x n cl) (hy:Cat (PRd w (NN c H K w fr) e) ys cl) (hl:ys.length=n) (hr:sCap<sLen+n) (hb:(sLen+n)*i.bytes≤140737488355328) (h63:0<i.bytes):
  ∃v w' K',(wta #[T,T2] ty #[.slice base sLen sCap,x]).run P w= .ok v w'∧Stp c H K w [(nl,some (.row e (fr1&&fr) (zs++ys)))] nl K' w'∧RefRd K' e nl 0 (zs++ys).length true v:=by
 obtain ⟨A0,cap0,e0,hle,_⟩:=id hs
 injection e0 with e1 e2 e3
 subst e1;subst e2;subst e3
 obtain ⟨ol,hol,hln,hfc⟩:=hs.first (P:=P)
 have hol1:=hol.length (n:=e.sz) (fun _ _=>PRd.length)
 have hcl1:=hy.length (n:=e.sz) (fun _ _=>PRd.length)
 have hfc':∀w',w'.heap=w.heap→(wya e.sz zs.length (.slice base zs.length sCap)).run P w'= .ok ol.toArray w':=fun w' hw=>by
  have:=hfc zs.length (ws _) w' hw
  rwa [←hol1,List.take_length] at this
 have hrun:=qru (ty:=ty) hd hin hz hsz hzs hfc' hx hr hb h63
 have hge:=grownCap_ge w (zs.length+n) sCap E
 generalize harr:ol.toArray++(cl.toArray++wra z.cells (grownCap w (zs.length+n) sCap E - (zs.length+n)))=arr at hrun
 have hal:arr.toList=(ol++cl)++(wra z.cells (grownCap w (zs.length+n) sCap E - (zs.length+n))).toList:=by rw [←harr];simp
 have hab:=InBlk.new w.drew arr E
 rw [hal] at hab
 refine ⟨_,_,_,hrun,qJs hi hng ⟨ws _,by omega⟩ hf (e:=e) (fr:=fr1&&fr) (xs:=zs++ys) (p:=⟨w.heap.size,0,arr.size⟩) (cs:=ol++cl) (qRb w.drew _) ⟨ws _,by rw [qwb];exact wsa _⟩ hab.front ?_,?_⟩
 ·exact (hol.imp (fun _ _ q=>q.keep ⟨fun b hb=>⟨hb.and1,rfl⟩⟩)).append (hy.imp (fun _ _ q=>q.keep ⟨fun b hb=>⟨hb.and2,rfl⟩⟩))
 ·have h1:(zs++ys).length=zs.length+n:=by rw [wn,hl]
  rw [h1]
  refine qVo (p:=⟨w.heap.size,0,arr.size⟩) rfl hge (.inr ?_)
  rw [←harr]
  simp only [Array.size_append,size_zeroCells,hzs,wMa,hol1,hcl1,hl,wJ]
  have:grownCap w (zs.length+n) sCap E=zs.length+(n+(grownCap w (zs.length+n) sCap E - (zs.length+n))):=by omega
  conv=>lhs;rw [this]
  simp only [wmb]
  omega
theorem qDO {e:Ty} {l off len:Nat} {wh fr:Bool} {xs:List (pden e)} {v:Value} (h1:(seg xs off len wh).length=len) (h3:wh=true→off=0∧len=xs.length)
  (h4:(v= .slice none 0 0∧K l=some ⟨.row e xs.length [],none⟩∧xs=[]∧len=0)∨
   ∃p cs o cap,K l=some ⟨.row e xs.length [],some p⟩∧v= .slice (some ⟨p.blk,o,none⟩) len cap∧len≤cap∧(cap=0∨(o=p.ob+off*e.sz∧p.ob+(off+cap)*e.sz≤p.bs))∧
    InBlk w p cs∧Cat (PRd w (NN c H K w fr) e) xs cs):SlRd w (NN c H K w fr) e (seg xs off len wh) v:=by
 rcases h4 with ⟨rfl,h5,rfl,h6⟩|⟨p,cl,o,cap,k1,rfl,h5,h6,h7,h8⟩
 ·have:seg ([]:List (pden e)) off len wh=[]:=wG (by rw [h1,h6])
  rw [this]
  exact ⟨none,0,rfl,ws _, .inl rfl⟩
 ·refine ⟨_,cap,by rw [h1],by omega,?_⟩
  by_cases h0:len=0
  ·exact .inl (wG (by rw [h1,h0]))
  ·right
   have h6':=h6.resolve_left (by omega)
   refine ⟨p.blk,o,_,rfl,?_,qtn (fun _ _=>PRd.length) h8 h3,h7.lt⟩
   rw [h6'.1]
   exact h7.cells.cut _ _
theorem qkj (A:At c P GT H lk K w ev ρ nl) {T T2 E ty:TypeId} {i:TypeInfo} {z:Value} {e:Ty} (hd:P.underlying T=some (.slice E)) (hin:P.info? E=some i) (hz:i.zero=some z) (hsz:i.size=e.sz) (hzs:z.cells.size=e.sz) (h63:0<i.bytes)
  {s:AV} {u x:Value} {n:Nat} {cl:List Value} {ys:List (pden e)} {fr:Bool} (hs:VRd w (NN c H K w) K s u)
  (hx:Src P w E T2 e.sz z.cells x n cl) (hy:Cat (PRd w (NN c H K w fr) e) ys cl) (hl:ys.length=n) {out:Out} (h:qbk lk e s fr ys nl i.bytes=some out) (hc:qqh out.conds):
  ∃v w',(wta #[T,T2] ty #[u,x]).run P w= .ok v w'∧Lands c H K w nl out v w':=by
 have hf:=A.fresh nl (ws _) (by omega)
 have hcl1:=hy.length (n:=e.sz) (fun _ _=>PRd.length)
 cases s with
 |nil=>
  simp only [qbk,wc] at h;subst h
  simp only [VRd] at hs;subst hs
  obtain ⟨c1,_⟩:=hc
  by_cases h0:n=0
  ·subst h0
   have hy0:=wG hl
   subst hy0
   simp only [Cat] at hy;subst hy
   refine ⟨_,w,qUk hd hin hz hsz hzs hx (ws _) (w2:=w) rfl,qjl K nl ⟨.row e 0 [],none⟩,?_,?_⟩
   ·cases fr with
    |true=>exact qYA A.inv A.ng ⟨ws _,by omega⟩ hf e
    |false=>exact Stp.new A.inv A.ng nl nl ⟨ws _,by omega⟩ hf (.row e false []) ⟨.row e 0 [],none⟩ ⟨rfl,rfl,rfl,ws _,fun _ _=>rfl⟩ (fun p hp=>by cases hp) (fun N' K' _ hk=>⟨rfl,rfl⟩)
   ·cases fr <;> exact ⟨0,none,⟨[],qbb⟩,ws _,fun _=>⟨rfl,rfl⟩,rfl,rfl⟩
  ·obtain ⟨v,w',K',h1,h2,h3⟩:=qsu (ty:=ty) A.inv A.ng hf hd hin hz hsz hzs (zs:=[]) (fr1:=true) (base:=none) (sLen:=0) (sCap:=0) ⟨none,0,rfl,ws _, .inl rfl⟩ hx hy hl (by omega) (by simpa [hl] using c1) h63
   simp only [wV,Bool.true_and] at h2 h3
   exact ⟨v,w',h1,K',h2,h3⟩
 |ref e' l off len wh=>
  simp only [qbk] at h
  split at h
  ·rename_i he
   subst he
   split at h
   ·rename_i fr' xs hrow
    simp only [wc] at h;subst h
    obtain ⟨c1,_⟩:=hc
    have hlk:=A.sub _ _ (qGc hrow)
    obtain ⟨h1,h2,h3,h4⟩:=qRo A.inv hlk hs
    have hcon:SlRd w (NN c H K w fr') e' (seg xs off len wh) u:=qDO h1 h3 h4
    have hcon':∃base cap,u= .slice base len cap:=by
     obtain ⟨b0,c0,q,_⟩:=hcon
     exact ⟨b0,c0,by rw [q,h1]⟩
    obtain ⟨base,cap,rfl⟩:=hcon'
    have hlen:(seg xs off len wh++ys).length=len+n:=by rw [wn,h1,hl]
    by_cases hroom:len+n≤cap
    ·rcases h4 with ⟨q1,q2,rfl,rfl⟩|⟨p,cs,o,cap',q1,q2,q3,q4,q5,q6⟩
     ·-- no row at all
      injection q1 with q1 _ q1'
      subst q1;subst q1'
      have hn0:n=0:=by omega
      subst hn0
      have hy0:=wG hl
      subst hy0
      simp only [Cat] at hy;subst hy
      refine ⟨_,w,qUk hd hin hz hsz hzs hx hroom (w2:=w) rfl,qjl K nl ⟨.row e' 0 [],none⟩,?_,?_⟩
      ·have S1:=Stp.new A.inv A.ng nl nl ⟨ws _,by omega⟩ hf (.row e' (fr'&&fr) []) ⟨.row e' 0 [],none⟩ ⟨rfl,rfl,rfl,ws _,fun _ _=>rfl⟩ (fun p hp=>by cases hp) (fun N' K' _ hk=>⟨rfl,rfl⟩)
       have hseg:seg ([]:List (pden e')) off 0 wh++[]=[]:=wG (by rw [hlen])
       simp only [hseg]
       exact S1.trans (Stp.kill S1.inv nl [l])
      ·show RefRd _ _ _ _ _ _ _
       rw [hlen]
       exact ⟨0,none,⟨[],qbb⟩,ws _,fun _=>⟨rfl,rfl⟩,rfl,rfl⟩
     ·injection q2 with q2 _ q2'
      subst q2;subst q2'
      by_cases hcap:cap=0
      ·subst hcap
       have hn0:n=0:=by omega
       have hl0:len=0:=by omega
       subst hn0;subst hl0
       have hy0:=wG hl
       subst hy0
       simp only [Cat] at hy;subst hy
       have hseg:seg xs off 0 wh++[]=[]:=wG (by rw [hlen])
       refine ⟨_,w,qUk hd hin hz hsz hzs hx hroom (w2:=w) (by simp [storeCells]),qjl K nl ⟨.row e' 0 [],some ⟨p.blk,0,p.bs⟩⟩,?_,?_⟩
       ·simp only [hseg]
        refine Stp.move (w':=w) A.inv nl l nl _ _ _ ⟨.row e' 0 [],some ⟨p.blk,0,p.bs⟩⟩ p ⟨p.blk,0,p.bs⟩ hlk q1 rfl ⟨ws _,by omega⟩ hf rfl rfl ⟨rfl,rfl,rfl,rfl,fun _ _=>rfl⟩ (fun N' K' _ hk=>⟨rfl,[],?_,rfl⟩)
        have:=q5.move (q:=0) (o:=0) (s:=[]) (ds:=[]) (by simp) (ws _) (by simp) (fun j v hj=>by simp at hj)
        simpa [World.setCells] using this
       ·show RefRd _ _ _ _ _ _ _
        rw [hlen]
        exact ⟨0,some ⟨p.blk,0,p.bs⟩,⟨[],qbb⟩,ws _,fun _=>⟨rfl,rfl⟩,o,0,rfl,ws _, .inl rfl⟩
      ·obtain ⟨rfl,q4⟩:=q4.resolve_left hcap
       have hxl:=q6.length (n:=e'.sz) (fun _ _=>PRd.length)
       have hm1:(len+n)*e'.sz≤cap*e'.sz:=wna _ hroom
       have hm2:(off+len)*e'.sz≤xs.length*e'.sz:=wna _ h2
       rw [wmb] at hm1 hm2 q4
       rw [hl] at hcl1
       have hst:=run_storeCells_cells (P:=P) p.blk (p.ob+off*e'.sz+len*e'.sz) cl 0 w (fun j hj=>q5.is (by omega)) (fun j hj=>q5.free (by omega)) (hy.one (fun _ _=>PRd.one))
       have hcut:(cut cs (off*e'.sz) (len*e'.sz)).length=len*e'.sz:=qpq (by omega)
       refine ⟨_,w.setCells p.blk (p.ob+off*e'.sz+len*e'.sz+0) cl,qUk hd hin hz hsz hzs hx hroom (by simp only [wPa];exact hst),qjl K nl ⟨.row e' (seg xs off len wh++ys).length [],some ⟨p.blk,p.ob+off*e'.sz,p.bs⟩⟩,?_,?_⟩
       ·obtain ⟨s1,s2,s3,s4,s5⟩:=qzb p.blk cl (p.ob+off*e'.sz+len*e'.sz+0) w
        refine Stp.move A.inv nl l nl _ _ _ ⟨.row e' (seg xs off len wh++ys).length [],some ⟨p.blk,p.ob+off*e'.sz,p.bs⟩⟩ p ⟨p.blk,p.ob+off*e'.sz,p.bs⟩ hlk q1 rfl ⟨ws _,by omega⟩ hf rfl rfl ⟨s1,s2,s3,s4,s5⟩ (fun N' K' hN hk=>⟨rfl,cut cs (off*e'.sz) (len*e'.sz)++cl,?_,?_⟩)
        ·refine q5.move (by simp only [wn,hcut,hcl1];omega) (by omega) (by simp only [wn,hcut,hcl1];omega) (fun j v hj=>?_)
         by_cases hj1:j<len*e'.sz
         ·rw [wza (by omega),qvm,if_pos hj1] at hj
          rw [if_pos (by omega)]
          exact ⟨by omega,by rw [←hj];congr 1;omega⟩
         ·rw [woa (by omega),hcut] at hj
          have hj2:=(wga.1 hj).1
          rw [if_neg (by omega),if_pos (by omega)]
          rw [←hj];congr 1;omega
        ·refine Cat.append ?_ ?_
         ·refine (qtn (fun _ _=>PRd.length) q6 h3).imp (fun _ _ q=>q.keep ⟨fun b hb=>?_⟩)
          exact ⟨by cases fr' <;> cases fr <;> first|exact ((hk.n _).k b hb).1|exact hN b ((hk.n _).k b hb).1,((hk.n _).k b hb).2⟩
         ·refine hy.imp (fun _ _ q=>q.keep ⟨fun b hb=>?_⟩)
          exact ⟨by cases fr' <;> cases fr <;> first|exact ((hk.n _).k b hb).1|exact hN b ((hk.n _).k b hb).1,((hk.n _).k b hb).2⟩
       ·show RefRd _ _ _ _ _ _ _
        rw [hlen]
        refine ⟨_,some ⟨p.blk,p.ob+off*e'.sz,p.bs⟩,⟨[],qbb⟩,by omega,fun _=>⟨rfl,by omega⟩,_,cap,rfl,hroom, .inr ⟨by simp,?_⟩⟩
        simp only [wJ]
        omega
    ·rw [hlen] at c1
     obtain ⟨v,w',K',g1,g2,g3⟩:=qsu (ty:=ty) A.inv A.ng hf hd hin hz hsz hzs hcon hx hy hl (by omega) c1 h63
     exact ⟨v,w',g1,K',g2.trans (Stp.kill g2.inv nl [l]),g3⟩
   ·cases h
  ·cases h
 |_=>simp [qbk] at h
theorem FamRd.one {w:World} {e:Ty}:∀{xss:List (List (pden e))} {ps:List (Nat×Option Plc)} {cs:List Value},FamRd w e xss ps cs→∀v∈cs,v.oneCell'=true
 |[],_,_,h,v,hv=>by obtain ⟨_,rfl⟩:=h;cases hv
 |xs::r,_,_,h,v,hv=>by
  obtain ⟨p,ps',u,cs',rfl,rfl,h1,h2⟩:=h
  rcases wZ.1 hv with rfl|hv
  ·cases p with
   |none=>rw [h1.1];rfl
   |some p=>obtain ⟨o,cap,cl,a1,_⟩:=h1;rw [a1];rfl
  ·exact h2.one v hv
theorem qJl {A0:Option Addr} {n cap sz:Nat} {cl:List Value} (hcl:cl.length=n*sz) (hb:n≠0→∃b o,A0=some ⟨b,o,none⟩∧CellsAt w b o cl):∀w',w'.heap=w.heap→(wya sz n (.slice A0 n cap)).run P w'= .ok cl.toArray w':=by
 intro w' hw
 by_cases h0:n=0
 ·subst h0
  have:cl=[]:=wG (by simpa using hcl)
  subst this
  cases A0 with
  |none=>simp [wya]
  |some a=>simp [wya,loadCells,loadCellsFrom]
 ·obtain ⟨b,o,rfl,h1⟩:=hb h0
  have:=run_loadCells_list (P:=P) w' ⟨b,o,none⟩ cl (fun j v hj=>by
   rw [wPa]
   have:=h1 j v hj
   simpa [World.cell?,hw] using this)
  rw [hcl] at this
  simpa [wya] using this
theorem qbC (A:Inv c H K w) {e:Ty} {l off len:Nat} {xss:List (List (pden e))} {v:Value} (hl:H l=some (.fam e xss)) (hr:RefRd K (.slice e) l off len true v):
  off=0∧len=xss.length∧e.flat=true∧∃ps pl,K l=some ⟨.row (.slice e) xss.length ps,pl⟩∧Apart pl (ps.map (·.2))∧(match pl with
   |none=>v= .slice none 0 0∧xss=[]∧ps=[]
   |some p=>∃cs o cap,v= .slice (some ⟨p.blk,o,none⟩) xss.length cap∧xss.length≤cap∧(cap=0∨(o=p.ob∧p.ob+cap≤p.bs))∧InBlk w p cs∧FamRd w e xss ps cs):=by
 obtain ⟨gh,g1,hf,ps,g2,ha,g4⟩:=A.objs l _ hl
 obtain ⟨n,pl,⟨ps',k1⟩,k2,k3,k4⟩:=hr
 obtain ⟨rfl,rfl⟩:=k3 rfl
 rw [k1] at g1;injection g1 with g1;subst g1
 simp only [Shp.row.injEq,true_and] at g2
 obtain ⟨rfl,rfl⟩:=g2
 refine ⟨rfl,rfl,hf,ps',pl,k1,ha,?_⟩
 cases pl with
 |none=>exact ⟨k4.1,g4⟩
 |some p=>
  obtain ⟨cs,g5,g6⟩:=g4
  obtain ⟨o,cap,h1,h2,h3⟩:=k4
  exact ⟨cs,o,cap,h1,h2,h3.imp id (fun h=>by simpa [Ty.sz] using h),g5,g6⟩
theorem FamRd.append {w:World} {e:Ty}:∀{xss yss:List (List (pden e))} {ps qs:List (Nat×Option Plc)} {cs ds:List Value},FamRd w e xss ps cs→FamRd w e yss qs ds→FamRd w e (xss++yss) (ps++qs) (cs++ds)
 |[],_,_,_,_,_,h,h'=>by obtain ⟨rfl,rfl⟩:=h;exact h'
 |xs::r,_,_,_,_,_,h,h'=>by
  obtain ⟨p,ps',v,cs',rfl,rfl,h1,h2⟩:=h
  exact ⟨p,_,v,_,rfl,rfl,h1,h2.append h'⟩
theorem Apart.app {p0 q0:Option Plc} {p1:Plc} {ps qs:List (Option Plc)} (h:Apart p0 ps) (h':Apart q0 qs) (hx:∀p q,some p∈ps→some q∈qs→p.blk≠q.blk) (h1:∀q,some q∈ps→q.blk≠p1.blk) (h2:∀q,some q∈qs→q.blk≠p1.blk):Apart (some p1) (ps++qs):=by
 refine ⟨fun i j p q hi hj hb=>?_,fun p q hp hq=>?_⟩
 ·rw [List.getElem?_append] at hi hj
  split at hi
  ·split at hj
   ·exact h.1 i j p q hi hj hb
   ·exact absurd hb (hx p q (wpa hi) (wpa hj))
  ·split at hj
   ·exact absurd hb.symm (hx q p (wpa hj) (wpa hi))
   ·have:=h'.1 _ _ p q hi hj hb
    omega
 ·injection hp with hp;subst hp
  rcases wba.1 hq with hq|hq
  ·exact h1 q hq
  ·exact h2 q hq
theorem qYD (A:At c P GT H lk K w ev ρ nl) {T T2 E ty:TypeId} {i:TypeInfo} {z:Value} {e:Ty} (hd:P.underlying T=some (.slice E)) {E2:TypeId} (hd2:P.underlying T2=some (.slice E2)) (hin:P.info? E=some i) (hz:i.zero=some z) (hsz:i.size=e.sz) (hzs:z.cells.size=e.sz) (h63:0<i.bytes)
  {s x:AV} {u v:Value} (hs:VRd w (NN c H K w) K s u) (hx:VRd w (NN c H K w) K x v) {out:Out} (h:qeM lk e s x nl i.bytes=some out) (hc:qqh out.conds):
  ∃r w',(wta #[T,T2] ty #[u,v]).run P w= .ok r w'∧Lands c H K w nl out r w':=by
 have hf0:=A.fresh nl (ws _) (by omega)
 unfold qeM at h
 split at h
 ·rename_i e2 l2 off2 len2
  split at h
  ·rename_i e1 y hlk2
   split at h
   ·rename_i he
    subst he
    split at h
    ·rename_i e3 l off len
     split at h
     ·rename_i e0 xss hlk
      split at h
      ·rename_i h0
       subst h0
       split at h
       ·rename_i hq
        obtain ⟨rfl,rfl,hne⟩:=hq
        simp only [wc] at h;subst h
        obtain ⟨c1,_⟩:=hc
        have hH:=A.sub _ _ hlk
        have hH2:=A.sub _ _ hlk2
        obtain ⟨rfl,rfl,hf,ps,pl,k1,ha,hm⟩:=qbC A.inv hH hs
        obtain ⟨rfl,rfl,_,qs,ql,m1,hb,hm2⟩:=qbC A.inv hH2 hx
        have hszE:(Ty.slice e0).sz=1:=rfl
        rw [hszE] at hsz hzs
        cases ql with
        |none=>exact absurd hm2.2.1 (by simp)
        |some p2=>
        obtain ⟨ds,o2,cap2,rfl,n1,n2,n3,n4⟩:=hm2
        obtain ⟨_,hdl⟩:=n4.len
        obtain ⟨rfl,_⟩:=n2.resolve_left (by simp at n1;omega)
        have hsrc:Src P w E T2 1 z.cells (.slice (some ⟨p2.blk,p2.ob,none⟩) [y].length cap2) 1 ds:=
         .given (.inl ⟨E2,hd2⟩) (fun w'=>rfl) (qJl (by simpa using hdl) (fun _=>⟨_,_,rfl,n3.cells⟩))
        have hown1:∀q,some q∈ps.map (·.2)→q.blk<w.heap.size:=fun q hq=>(A.inv.own l _ _ q hH k1 (.inr hq)).1
        have hown2:∀q,some q∈qs.map (·.2)→q.blk<w.heap.size:=fun q hq=>(A.inv.own l2 _ _ q hH2 m1 (.inr hq)).1
        have hcross:∀p q,some p∈ps.map (·.2)→some q∈qs.map (·.2)→p.blk≠q.blk:=fun p q hp hq e=>
         hne (A.inv.inj l l2 _ _ _ _ p q hH hH2 k1 m1 (.inr hp) (.inr hq) e)
        have hlen:(xss++[y]).length=xss.length+1:=by simp
        have hnl:∀(w':World) (pn:Plc) (cs:List Value),(pn.blk=w.heap.size∨pl=some pn)→w'.os=w.os∧w'.tape=w.tape∧w'.output=w.output∧w.heap.size≤w'.heap.size→pn.blk<w'.heap.size→
          (∀k,k<w.heap.size→(pl=some pn→k≠pn.blk)→w'.heap[k]?=w.heap[k]?)→InBlk w' pn (cs++ds)→FamRd w e0 xss ps cs→
          Stp c H K w [(l,none),(l2,none),(nl,some (.fam e0 (xss++[y])))] nl (qjl K nl ⟨.row (.slice e0) (xss++[y]).length (ps++qs),some pn⟩) w':=by
         intro w' pn cs hpn hw1 hw2 hw3 hib hfr
         have hpnb:∀q,some q∈ps.map (·.2)→q.blk≠pn.blk:=fun q hq=>by
          rcases hpn with e|e
          ·have:=hown1 q hq;omega
          ·exact ha.2 pn q e hq
         have hpnb2:∀q,some q∈qs.map (·.2)→q.blk≠pn.blk:=fun q hq e'=>by
          rcases hpn with e|e
          ·have:=hown2 q hq;omega
          ·exact hne (A.inv.inj l l2 _ _ _ _ pn q hH hH2 k1 m1 (.inl e) (.inr hq) e'.symm)
         refine uu (w':=w') A.inv nl nl [l,l2] (.fam e0 (xss++[y])) ⟨.row (.slice e0) (xss++[y]).length (ps++qs),some pn⟩ ⟨ws _,by omega⟩ hf0 hw1 (fun p hp=>?_) (fun _ _ _=>A.ng) (fun k hk hsm=>?_) (fun N' K' _ hk=>?_)
         ·rcases hp with hp|hp
          ·injection hp with hp;subst hp
           rcases hpn with e|e
           ·exact .inr ⟨by omega,hw2⟩
           ·exact .inl ⟨l,by simp,_,_,pn,hH,k1, .inl e,rfl⟩
          ·simp only [Shp.ex,wBa,wba] at hp
           rcases hp with hp|hp
           ·exact .inl ⟨l,by simp,_,_,p,hH,k1, .inr hp,rfl⟩
           ·exact .inl ⟨l2,by simp,_,_,p,hH2,m1, .inr hp,rfl⟩
         ·exact hw3 k hk (fun e e'=>hsm l (by simp) _ _ pn hH k1 (.inl e) e'.symm)
         ·refine ⟨hf,ps++qs,rfl,?_,cs++ds,hib,?_⟩
          ·rw [wBa]
           exact ha.app hb hcross hpnb hpnb2
          ·exact (hfr.keep hf (fun q hq=>hw3 _ (hown1 q hq) (fun _=>hpnb q hq))).append (n4.keep hf (fun q hq=>hw3 _ (hown2 q hq) (fun _=>hpnb2 q hq)))
        by_cases hroom:∃p cs cap,pl=some p∧u= .slice (some ⟨p.blk,p.ob,none⟩) xss.length cap∧xss.length+1≤cap∧p.ob+cap≤p.bs∧InBlk w p cs∧FamRd w e0 xss ps cs
        ·obtain ⟨p,cs,cap,rfl,rfl,r1,r2,r3,r4⟩:=hroom
         obtain ⟨_,hcl⟩:=r4.len
         have hst:=run_storeCells_cells (P:=P) p.blk (p.ob+xss.length*1) ds 0 w (fun j hj=>r3.is (by simp at hdl;omega)) (fun j hj=>r3.free (by simp at hdl;omega)) (FamRd.one n4)
         have hrun:=qUk (ty:=ty) hd hin hz hsz hzs (base:=some ⟨p.blk,p.ob,none⟩) (sLen:=xss.length) (sCap:=cap) hsrc r1 (by simp only [wPa];exact hst)
         obtain ⟨s1,s2,s3,s4,s5⟩:=qzb p.blk ds (p.ob+xss.length*1+0) w
         refine ⟨_,_,hrun,_,hnl _ p cs (.inr rfl) ⟨s1,s2,s3,by rw [s4];exact ws _⟩ (by rw [s4];exact r3.lt) (fun k _ h=>s5 k (h rfl)) ?_ r4,?_⟩
         ·have:=r3.move (q:=p.ob) (o:=p.ob+xss.length*1+0) (s:=ds) (ds:=cs++ds) (by simp at hdl;simp;omega) (by omega) (by simp;omega) (fun j v hj=>by
           by_cases hj1:j<cs.length
           ·rw [wza hj1] at hj
            rw [if_pos (by omega)]
            exact ⟨by omega,by rw [←hj];congr 1;omega⟩
           ·rw [woa (by omega)] at hj
            have hj2:=(wga.1 hj).1
            rw [if_neg (by omega),if_pos (by omega)]
            rw [←hj];congr 1;omega)
          exact this
         ·show RefRd _ _ _ _ _ _ _
          rw [hlen]
          exact ⟨_,some p,⟨_,qbb⟩,by omega,fun _=>⟨rfl,rfl⟩,p.ob,cap,rfl,r1, .inr ⟨by simp,by simp [Ty.sz];omega⟩⟩
        ·-- a new row
         have hu:∃A0 cap cs,u= .slice A0 xss.length cap∧cap<xss.length+1∧FamRd w e0 xss ps cs∧(xss.length≠0→∃b o,A0=some ⟨b,o,none⟩∧CellsAt w b o cs):=by
          cases pl with
          |none=>
           obtain ⟨rfl,rfl,rfl⟩:=hm
           exact ⟨none,0,[],rfl,by simp,⟨rfl,rfl⟩,fun h=>absurd rfl h⟩
          |some p=>
           obtain ⟨cs,o,cap,rfl,r1,r2,r3,r4⟩:=hm
           refine ⟨_,cap,cs,rfl,?_,r4,fun h=>?_⟩
           ·apply Nat.lt_of_not_le
            intro hle
            obtain ⟨rfl,r5⟩:=r2.resolve_left (by omega)
            exact hroom ⟨p,cs,cap,rfl,rfl,hle,r5,r3,r4⟩
           ·obtain ⟨rfl,_⟩:=r2.resolve_left (by omega)
            exact ⟨_,_,rfl,r3.cells⟩
         obtain ⟨A0,cap,cs,rfl,r1,r2,r3⟩:=hu
         obtain ⟨_,hcl⟩:=r2.len
         rw [hlen] at c1
         have hrun:=qru (ty:=ty) hd hin hz hsz hzs (base:=A0) (sLen:=xss.length) (sCap:=cap) (qJl (by omega) r3) hsrc r1 c1 h63
         have hge:=grownCap_ge w (xss.length+1) cap E
         generalize harr:cs.toArray++(ds.toArray++wra z.cells (grownCap w (xss.length+1) cap E - (xss.length+1)))=arr at hrun
         have hal:arr.toList=(cs++ds)++(wra z.cells (grownCap w (xss.length+1) cap E - (xss.length+1))).toList:=by rw [←harr];simp
         have hab:=InBlk.new w.drew arr E
         rw [hal] at hab
         refine ⟨_,_,hrun,_,hnl _ ⟨w.heap.size,0,arr.size⟩ cs (.inl rfl) ⟨rfl,rfl,rfl,by rw [qwb];exact Nat.le_succ _⟩ (by rw [qwb];exact wsa _) (fun k hk _=>(qRb w.drew _).2.2.2.2 k hk) hab.front r2,?_⟩
         show RefRd _ _ _ _ _ _ _
         rw [hlen]
         refine qVo (p:=⟨w.heap.size,0,arr.size⟩) rfl hge (.inr ?_)
         rw [←harr]
         simp only [Array.size_append,size_zeroCells,hzs,wMa,hcl,hdl,hszE]
         simp
         omega
       ·cases h
      ·cases h
     ·cases h
    ·cases h
   ·cases h
  ·cases h
 ·cases h
theorem FamSRd.one {w:World} {a e:Ty}:∀{xs:List (pden a×List (pden e))} {ps:List (Nat×Option Plc)} {cs:List Value},FamSRd w a e xs ps cs→∀v∈cs,v.oneCell'=true
 |[],_,_,h,v,hv=>by obtain ⟨_,rfl⟩:=h;cases hv
 |x::r,_,_,h,v,hv=>by
  obtain ⟨p,ps',c,u,cs',rfl,rfl,h0,h1,h2⟩:=h
  rcases wba.1 hv with hv|hv
  ·exact PRd.one h0 v hv
  rcases wZ.1 hv with rfl|hv
  ·obtain ⟨A,cap,rfl⟩:=h1.form;rfl
  ·exact h2.one v hv
theorem FamSRd.append {w:World} {a e:Ty}:∀{xs ys:List (pden a×List (pden e))} {ps qs:List (Nat×Option Plc)} {cs ds:List Value},FamSRd w a e xs ps cs→FamSRd w a e ys qs ds→FamSRd w a e (xs++ys) (ps++qs) (cs++ds)
 |[],_,_,_,_,_,h,h'=>by obtain ⟨rfl,rfl⟩:=h;exact h'
 |x::r,_,_,_,_,_,h,h'=>by
  obtain ⟨p,ps',c,v,cs',rfl,rfl,h0,h1,h2⟩:=h
  exact ⟨p,_,c,v,_,rfl,by simp,h0,h1,h2.append h'⟩
theorem qjy (A:Inv c H K w) {a e:Ty} {l off len:Nat} {xs:List (pden a×List (pden e))} {v:Value} (hl:H l=some (.famS a e xs)) (hr:RefRd K (qYr a e) l off len true v):
  off=0∧len=xs.length∧(a.flat=true∧e.flat=true)∧∃ps pl,K l=some ⟨.row (qYr a e) xs.length ps,pl⟩∧Apart pl (ps.map (·.2))∧(match pl with
   |none=>v= .slice none 0 0∧xs=[]∧ps=[]
   |some p=>∃cs o cap,v= .slice (some ⟨p.blk,o,none⟩) xs.length cap∧xs.length≤cap∧(cap=0∨(o=p.ob∧p.ob+cap*(a.sz+1)≤p.bs))∧InBlk w p cs∧FamSRd w a e xs ps cs):=by
 obtain ⟨gh,g1,ha0,hf,ps,g2,ha,g4⟩:=A.objs l _ hl
 obtain ⟨n,pl,⟨ps',k1⟩,k2,k3,k4⟩:=hr
 obtain ⟨rfl,rfl⟩:=k3 rfl
 rw [k1] at g1;injection g1 with g1;subst g1
 simp only [Shp.row.injEq,true_and] at g2
 obtain ⟨rfl,rfl⟩:=g2
 refine ⟨rfl,rfl,⟨ha0,hf⟩,ps',pl,k1,ha,?_⟩
 cases pl with
 |none=>exact ⟨k4.1,g4⟩
 |some p=>
  obtain ⟨cs,g5,g6⟩:=g4
  obtain ⟨o,cap,h1,h2,h3⟩:=k4
  exact ⟨cs,o,cap,h1,h2,h3.imp id (fun h=>⟨by simpa using h.1,by simpa [Ty.sz] using h.2⟩),g5,g6⟩
theorem qMB (A:At c P GT H lk K w ev ρ nl) {T T2 E ty:TypeId} {i:TypeInfo} {z:Value} {e:Ty} (hd:P.underlying T=some (.slice E)) {E2:TypeId} (hd2:P.underlying T2=some (.slice E2)) (hin:P.info? E=some i) (hz:i.zero=some z) (hsz:i.size=e.sz) (hzs:z.cells.size=e.sz) (h63:0<i.bytes)
  {s x:AV} {u v:Value} (hs:VRd w (NN c H K w) K s u) (hx:VRd w (NN c H K w) K x v) {out:Out} (h:qrG lk e s x nl i.bytes=some out) (hc:qqh out.conds):
  ∃r w',(wta #[T,T2] ty #[u,v]).run P w= .ok r w'∧Lands c H K w nl out r w':=by
 have hf0:=A.fresh nl (ws _) (by omega)
 unfold qrG at h
 split at h
 ·rename_i e2 l2 off2 len2
  split at h
  ·rename_i a1 e1 y hlk2
   split at h
   ·rename_i e3 l off len
    split at h
    ·rename_i a0 e0 xss hlk
     split at h
     ·rename_i h0
      obtain ⟨h01,h02⟩:=h0
      subst h01;subst h02
      ·split at h
       ·rename_i hq
        obtain ⟨rfl,rfl,rfl,hne⟩:=hq
        simp only [wc] at h;subst h
        obtain ⟨c1,_⟩:=hc
        have hH:=A.sub _ _ hlk
        have hH2:=A.sub _ _ hlk2
        obtain ⟨rfl,rfl,⟨ha0,hf⟩,ps,pl,k1,ha,hm⟩:=qjy A.inv hH hs
        obtain ⟨rfl,rfl,_,qs,ql,m1,hb,hm2⟩:=qjy A.inv hH2 hx
        have hszE:(qYr a0 e0).sz=a0.sz+1:=rfl
        rw [hszE] at hsz hzs
        cases ql with
        |none=>exact absurd hm2.2.1 (by simp)
        |some p2=>
        obtain ⟨ds,o2,cap2,rfl,n1,n2,n3,n4⟩:=hm2
        obtain ⟨_,hdl⟩:=n4.len
        have hdl':ds.length=a0.sz+1:=by simpa using hdl
        obtain ⟨rfl,_⟩:=n2.resolve_left (by simp at n1;omega)
        have hsrc:Src P w E T2 (a0.sz+1) z.cells (.slice (some ⟨p2.blk,p2.ob,none⟩) [y].length cap2) 1 ds:=
         .given (.inl ⟨E2,hd2⟩) (fun w'=>rfl) (qJl (by simpa using hdl) (fun _=>⟨_,_,rfl,n3.cells⟩))
        have hown1:∀q,some q∈ps.map (·.2)→q.blk<w.heap.size:=fun q hq=>(A.inv.own l _ _ q hH k1 (.inr hq)).1
        have hown2:∀q,some q∈qs.map (·.2)→q.blk<w.heap.size:=fun q hq=>(A.inv.own l2 _ _ q hH2 m1 (.inr hq)).1
        have hcross:∀p q,some p∈ps.map (·.2)→some q∈qs.map (·.2)→p.blk≠q.blk:=fun p q hp hq e=>
         hne (A.inv.inj l l2 _ _ _ _ p q hH hH2 k1 m1 (.inr hp) (.inr hq) e)
        have hlen:(xss++[y]).length=xss.length+1:=by simp
        have hnl:∀(w':World) (pn:Plc) (cs:List Value),(pn.blk=w.heap.size∨pl=some pn)→w'.os=w.os∧w'.tape=w.tape∧w'.output=w.output∧w.heap.size≤w'.heap.size→pn.blk<w'.heap.size→
          (∀k,k<w.heap.size→(pl=some pn→k≠pn.blk)→w'.heap[k]?=w.heap[k]?)→InBlk w' pn (cs++ds)→FamSRd w a0 e0 xss ps cs→
          Stp c H K w [(l,none),(l2,none),(nl,some (.famS a0 e0 (xss++[y])))] nl (qjl K nl ⟨.row (qYr a0 e0) (xss++[y]).length (ps++qs),some pn⟩) w':=by
         intro w' pn cs hpn hw1 hw2 hw3 hib hfr
         have hpnb:∀q,some q∈ps.map (·.2)→q.blk≠pn.blk:=fun q hq=>by
          rcases hpn with e|e
          ·have:=hown1 q hq;omega
          ·exact ha.2 pn q e hq
         have hpnb2:∀q,some q∈qs.map (·.2)→q.blk≠pn.blk:=fun q hq e'=>by
          rcases hpn with e|e
          ·have:=hown2 q hq;omega
          ·exact hne (A.inv.inj l l2 _ _ _ _ pn q hH hH2 k1 m1 (.inl e) (.inr hq) e'.symm)
         refine uu (w':=w') A.inv nl nl [l,l2] (.famS a0 e0 (xss++[y])) ⟨.row (qYr a0 e0) (xss++[y]).length (ps++qs),some pn⟩ ⟨ws _,by omega⟩ hf0 hw1 (fun p hp=>?_) (fun _ _ _=>A.ng) (fun k hk hsm=>?_) (fun N' K' _ hk=>?_)
         ·rcases hp with hp|hp
          ·injection hp with hp;subst hp
           rcases hpn with e|e
           ·exact .inr ⟨by omega,hw2⟩
           ·exact .inl ⟨l,by simp,_,_,pn,hH,k1, .inl e,rfl⟩
          ·simp only [Shp.ex,wBa,wba] at hp
           rcases hp with hp|hp
           ·exact .inl ⟨l,by simp,_,_,p,hH,k1, .inr hp,rfl⟩
           ·exact .inl ⟨l2,by simp,_,_,p,hH2,m1, .inr hp,rfl⟩
         ·exact hw3 k hk (fun e e'=>hsm l (by simp) _ _ pn hH k1 (.inl e) e'.symm)
         ·refine ⟨ha0,hf,ps++qs,rfl,?_,cs++ds,hib,?_⟩
          ·rw [wBa]
           exact ha.app hb hcross hpnb hpnb2
          ·exact (hfr.keep ha0 hf (fun q hq=>hw3 _ (hown1 q hq) (fun _=>hpnb q hq))).append (n4.keep ha0 hf (fun q hq=>hw3 _ (hown2 q hq) (fun _=>hpnb2 q hq)))
        by_cases hroom:∃p cs cap,pl=some p∧u= .slice (some ⟨p.blk,p.ob,none⟩) xss.length cap∧xss.length+1≤cap∧p.ob+cap*(a0.sz+1)≤p.bs∧InBlk w p cs∧FamSRd w a0 e0 xss ps cs
        ·obtain ⟨p,cs,cap,rfl,rfl,r1,r2,r3,r4⟩:=hroom
         obtain ⟨_,hcl⟩:=r4.len
         have hmul:=wna (a0.sz+1) r1
         rw [wua] at hmul
         have hst:=run_storeCells_cells (P:=P) p.blk (p.ob+xss.length*(a0.sz+1)) ds 0 w (fun j hj=>r3.is (by omega)) (fun j hj=>r3.free (by omega)) (FamSRd.one n4)
         have hrun:=qUk (ty:=ty) hd hin hz hsz hzs (base:=some ⟨p.blk,p.ob,none⟩) (sLen:=xss.length) (sCap:=cap) hsrc r1 (by simp only [wPa];exact hst)
         obtain ⟨s1,s2,s3,s4,s5⟩:=qzb p.blk ds (p.ob+xss.length*(a0.sz+1)+0) w
         refine ⟨_,_,hrun,_,hnl _ p cs (.inr rfl) ⟨s1,s2,s3,by rw [s4];exact ws _⟩ (by rw [s4];exact r3.lt) (fun k _ h=>s5 k (h rfl)) ?_ r4,?_⟩
         ·have:=r3.move (q:=p.ob) (o:=p.ob+xss.length*(a0.sz+1)+0) (s:=ds) (ds:=cs++ds) (by simp only [wn];omega) (by omega) (by simp only [wn];omega) (fun j v hj=>by
           by_cases hj1:j<cs.length
           ·rw [wza hj1] at hj
            rw [if_pos (by omega)]
            exact ⟨by omega,by rw [←hj];congr 1;omega⟩
           ·rw [woa (by omega)] at hj
            have hj2:=(wga.1 hj).1
            rw [if_neg (by omega),if_pos (by omega)]
            rw [←hj];congr 1;omega)
          exact this
         ·show RefRd _ _ _ _ _ _ _
          rw [hlen]
          exact ⟨_,some p,⟨_,qbb⟩,by omega,fun _=>⟨rfl,rfl⟩,p.ob,cap,rfl,r1, .inr ⟨by simp,by rw [hszE];simpa using r2⟩⟩
        ·-- a new row
         have hu:∃A0 cap cs,u= .slice A0 xss.length cap∧cap<xss.length+1∧FamSRd w a0 e0 xss ps cs∧(xss.length≠0→∃b o,A0=some ⟨b,o,none⟩∧CellsAt w b o cs):=by
          cases pl with
          |none=>
           obtain ⟨rfl,rfl,rfl⟩:=hm
           exact ⟨none,0,[],rfl,by simp,⟨rfl,rfl⟩,fun h=>absurd rfl h⟩
          |some p=>
           obtain ⟨cs,o,cap,rfl,r1,r2,r3,r4⟩:=hm
           refine ⟨_,cap,cs,rfl,?_,r4,fun h=>?_⟩
           ·apply Nat.lt_of_not_le
            intro hle
            obtain ⟨rfl,r5⟩:=r2.resolve_left (by omega)
            exact hroom ⟨p,cs,cap,rfl,rfl,hle,r5,r3,r4⟩
           ·obtain ⟨rfl,_⟩:=r2.resolve_left (by omega)
            exact ⟨_,_,rfl,r3.cells⟩
         obtain ⟨A0,cap,cs,rfl,r1,r2,r3⟩:=hu
         obtain ⟨_,hcl⟩:=r2.len
         rw [hlen] at c1
         have hrun:=qru (ty:=ty) hd hin hz hsz hzs (base:=A0) (sLen:=xss.length) (sCap:=cap) (qJl (by omega) r3) hsrc r1 c1 h63
         have hge:=grownCap_ge w (xss.length+1) cap E
         generalize harr:cs.toArray++(ds.toArray++wra z.cells (grownCap w (xss.length+1) cap E - (xss.length+1)))=arr at hrun
         have hal:arr.toList=(cs++ds)++(wra z.cells (grownCap w (xss.length+1) cap E - (xss.length+1))).toList:=by rw [←harr];simp
         have hab:=InBlk.new w.drew arr E
         rw [hal] at hab
         refine ⟨_,_,hrun,_,hnl _ ⟨w.heap.size,0,arr.size⟩ cs (.inl rfl) ⟨rfl,rfl,rfl,by rw [qwb];exact Nat.le_succ _⟩ (by rw [qwb];exact wsa _) (fun k hk _=>(qRb w.drew _).2.2.2.2 k hk) hab.front r2,?_⟩
         show RefRd _ _ _ _ _ _ _
         rw [hlen]
         refine qVo (p:=⟨w.heap.size,0,arr.size⟩) rfl hge (.inr ?_)
         rw [←harr]
         simp only [Array.size_append,size_zeroCells,hzs,wMa,hcl,hdl',hszE]
         generalize grownCap w (xss.length+1) cap E=gc at hge ⊢
         have e1:(gc - (xss.length+1))*(a0.sz+1)+(xss.length+1)*(a0.sz+1)=gc*(a0.sz+1):=by rw [←wmb,Nat.sub_add_cancel hge]
         rw [wua] at e1
         omega
       ·cases h
     ·cases h
    ·cases h
   ·cases h
  ·cases h
 ·cases h
end
end Go.Ab

/-
  copy, the lesser and the greater: the built-in functions.
-/
set_option linter.unusedVariables false
set_option linter.unusedSimpArgs false
namespace Go.Ab
open Go
section
variable {c:Cx} {P:Program} {GT:qmi} {H lk:qBc} {K:Kn} {w:World} {ev:Operand→TV} {ρ:Operand→Value} {nl:Nat}
theorem qiH (A:Inv c H K w) (hsub:∀l o,lk l=some o→H l=some o) {e:Ty} {x:AV} {v:Value} {fr:Bool} {ys:List (pden e)} (h:qTf lk e x=some (fr,ys)) (hx:VRd w (NN c H K w) K x v):
  ∃cl,Cat (PRd w (NN c H K w fr) e) ys cl∧(∀w',(Builtin.lenOf v).run P w'= .ok ys.length w')∧
   ∀n,n≤ys.length→∀w',w'.heap=w.heap→(wya e.sz n v).run P w'= .ok (cl.take (n*e.sz)).toArray w':=by
 by_cases hs:∃s,x= .str s
 ·obtain ⟨s,rfl⟩:=hs
  simp only [qTf] at h
  split at h
  ·rename_i he
   subst he
   simp only [wc,wk] at h;obtain ⟨rfl,rfl⟩:=h
   simp only [VRd] at hx;subst hx
   have hl:(qpd s).length=s.size:=by simp [qpd,←ByteArray.size_data]
   refine ⟨_,qYs _,fun w'=>by simp [Builtin.lenOf,hl],fun n hn w' hw=>?_⟩
   simp only [wya,wH,Ty.sz,Nat.mul_one]
   congr 1
   apply wYa
   rw [←List.map_take,qpd]
   simp only [List.map_map,←List.map_take,Array.toList_map]
   have h7:(s.extract 0 n).data.toList=s.data.toList.take n:=by
    rw [ByteArray.data_extract];simp
   rw [h7];rfl
  ·cases h
 ·have hs':∀s,x≠ .str s:=fun s e=>hs ⟨s,e⟩
  have hsl:=qku A hsub h hs' hx
  obtain ⟨cl,h1,h2,h3⟩:=hsl.first (P:=P)
  refine ⟨cl,h1,fun w'=>?_,h3⟩
  obtain ⟨A0,cap,rfl,_⟩:=hsl
  rfl
theorem uB (h:Inv c H K w) {l:Nat} {e:Ty} {fr fr2:Bool} (hl:H l=some (.row e fr [])) (hk:K l=some ⟨.row e 0 [],none⟩):Stp c H K w [(l,some (.row e fr2 []))] nl K w:=by
 have hup:∀m,qJb H [(l,some (.row e fr2 []))] m=if l=m then some (.row e fr2 []) else H m:=fun m=>by
  simp only [qJb,lookL];split <;> simp_all
 have hno:∀m o gh p,qJb H [(l,some (.row e fr2 []))] m=some o→K m=some gh→Has gh p→H m=some o:=by
  intro m o gh p h1 h2 h3
  rw [hup] at h1
  split at h1
  ·rename_i e1
   subst e1
   rw [hk] at h2;injection h2 with h2;subst h2;rcases h3 with h3|h3 <;> cases h3
  ·exact h1
 have hlive:∀b,qqc (qJb H [(l,some (.row e fr2 []))]) K b→qqc H K b:=by
  rintro b ⟨m,o,gh,p,h1,h2,h3,h4⟩
  exact ⟨m,o,gh,p,hno m o gh p h1 h2 h3,h2,h3,h4⟩
 have hkk:KeepK w w (NN c H K w) (NN c (qJb H [(l,some (.row e fr2 []))]) K w) K K:=⟨fun f=>⟨fun b hb=>⟨⟨hb.1,fun hn=>hb.2.1 (hlive b hn),hb.2.2⟩,rfl⟩⟩,fun _ _ h=>h⟩
 refine ⟨⟨fun m o hm=>?_,fun m o gh p h1 h2 h3=>h.own m o gh p (hno m o gh p h1 h2 h3) h2 h3,fun m m' o o' gh gh' p p' h1 h2 h3 h4 h5 h6=>h.inj m m' o o' gh gh' p p' (hno m o gh p h1 h3 h5) (hno m' o' gh' p' h2 h4 h6) h3 h4 h5 h6,h.fr⟩,hkk,fun _=> .inl rfl,ws _⟩
 rw [hup] at hm
 split at hm
 ·rename_i e1
  subst e1
  simp only [wc] at hm;subst hm
  exact ⟨_,hk,rfl,rfl⟩
 ·obtain ⟨gh,hg,ho⟩:=h.objs m o hm
  exact ⟨gh,hg,ho.keep hkk (fun _ _=>rfl)⟩
theorem qut {α:Type} {R:α→List Value→Prop} {n:Nat} (hR:∀x cs,R x cs→cs.length=n) {xs ys:List α} {cs s:List Value} {o:Nat} (h:Cat R xs cs) (hy:Cat R ys s) (ho:o+ys.length≤xs.length):Cat R (qsb xs o ys) (put cs (o*n) s):=by
 have hl:=h.length hR
 have hyl:=hy.length hR
 have:=((h.take hR o).append hy).append (h.drop hR (o+ys.length))
 unfold qsb put
 rw [hyl,←wmb]
 exact this
theorem qon {α:Type} {xs ys:List α} {o:Nat} (ho:o+ys.length≤xs.length):(qsb xs o ys).length=xs.length:=by
 simp [qsb];omega
theorem qks {T T2 E ty:TypeId} {sz:Nat} (hd:P.underlying T=some (.slice E)) (hsz:(sizeOf E).run P w= .ok sz w) {base:Option Addr} {dLen dCap n:Nat} {x:Value} {cl:List Value}
  (hn:(Builtin.lenOf x).run P w= .ok n w) (hc:(wya sz (min n dLen) x).run P w= .ok cl.toArray w) {w2:World}
  (hw:(match base with
   |some a=>storeCells a cl
   |none=>pure ()).run P w= .ok () w2):
  (Builtin.copy_ #[T,T2] ty #[.slice base dLen dCap,x]).run P w= .ok (goInt (min n dLen:Nat)) w2:=by
 have hm:Nat.min n dLen=min n dLen:=rfl
 cases base with
 |none=>
  simp [Builtin.copy_,run_underlying hd,hn,hsz,hm,hc] at hw ⊢
  exact hw
 |some a=>
  simp [Builtin.copy_,run_underlying hd,hn,hsz,hm,hc] at hw ⊢
  rw [hw];rfl
theorem InBlk.cut_eq {w:World} {p:Plc} {cs ds:List Value} (h:InBlk w p cs) (k:InBlk w p ds) {o n:Nat} (h1:o+n≤cs.length) (h2:o+n≤ds.length):cut cs o n=cut ds o n:=by
 apply wTa;intro j
 rw [qvm,qvm]
 split
 ·have a:=h.cells (o+j) _ (wx (by omega))
  have b:=k.cells (o+j) _ (wx (by omega))
  rw [a] at b;injection b with b
  rw [wx (by omega),wx (by omega),b]
 ·rfl
theorem qsM (A:At c P GT H lk K w ev ρ nl) {T T2 ty:TypeId} {d x:AV} {u v:Value} (hd:VRd w (NN c H K w) K d u) (hx:VRd w (NN c H K w) K x v) {out:Out} (h:qye P lk nl .copy [T,T2] [d,x]=some out):
  ∃r w',(Builtin.copy_ #[T,T2] ty #[u,v]).run P w= .ok r w'∧Lands c H K w nl out r w':=by
 simp only [qye] at h
 split at h
 ·rename_i e he
  have hT:qZd P tyD T=some (.slice e):=by
   unfold qvo at he
   split at he
   ·rename_i e' h';simp only [wc] at he;subst he;exact h'
   ·cases he
  obtain ⟨m0,E,_,hdT,hE⟩:=qSc hT
  have hsz:(sizeOf E).run P w= .ok e.sz w:=qjc hE
  split at h
  ·rename_i fr ys hcon
   obtain ⟨cl,y1,y2,y3⟩:=qiH (P:=P) A.inv A.sub hcon hx
   split at h
   ·rename_i e' l off len wh
    split at h
    ·rename_i he'
     subst he'
     split at h
     ·rename_i fr' xs hrow
      simp only [wc] at h;subst h
      have hlk:=A.sub _ _ (qGc hrow)
      obtain ⟨h1,h2,h3,h4⟩:=qRo A.inv hlk hd
      have y3':=y3 (min ys.length len) (Nat.min_le_left _ _) w rfl
      have y1':=y1.take (n:=e'.sz) (fun _ _=>PRd.length) (min ys.length len)
      have y1l:=y1'.length (n:=e'.sz) (fun _ _=>PRd.length)
      have ytl:(ys.take (min ys.length len)).length=min ys.length len:=by simp
      rcases h4 with ⟨rfl,q2,rfl,rfl⟩|⟨p,cs,o,cap,q1,rfl,q3,q4,q5,q6⟩
      ·have:=qks (ty:=ty) (T2:=T2) hdT hsz (base:=none) (dLen:=0) (dCap:=0) (y2 w) y3' (w2:=w) rfl
       refine ⟨_,w,this,K,?_,rfl⟩
       have hspl:qsb ([]:List (pden e')) off (ys.take (min ys.length 0))=[]:=by simp [qsb]
       simp only [hspl]
       exact uB A.inv hlk q2
      ·have hcap0:cap=0→len=0:=fun hc=>by omega
       by_cases hcap:cap=0
       ·have hl0:=hcap0 hcap
        subst hl0
        have:=qks (ty:=ty) (T2:=T2) hdT hsz (base:=some ⟨p.blk,o,none⟩) (dLen:=0) (dCap:=cap) (y2 w) y3' (w2:=w) (by simp [storeCells])
        refine ⟨_,w,this,K,?_,rfl⟩
        have hspl:qsb xs off (ys.take (min ys.length 0))=xs:=by simp [qsb]
        simp only [hspl]
        exact Stp.write A.inv nl l _ _ _ p hlk q1 (.inl rfl) ⟨rfl,rfl,rfl,rfl,fun _ _=>rfl⟩ (fun N' K' hN hk=>⟨rfl,cs,q5,q6.imp (fun _ _ q=>q.keep ⟨fun b hb=>⟨by cases fr' <;> cases fr <;> first|exact ((hk.n _).k b hb).1|exact hN b ((hk.n _).k b hb).1,rfl⟩⟩)⟩)
       ·obtain ⟨rfl,q4⟩:=q4.resolve_left hcap
        have hxl:=q6.length (n:=e'.sz) (fun _ _=>PRd.length)
        rw [ytl] at y1l
        have hm2:(off+min ys.length len)*e'.sz≤xs.length*e'.sz:=wna _ (by omega)
        rw [wmb] at hm2
        obtain ⟨_,_,_,_,_,_,q5b,_⟩:=id q5
        have hst:=run_storeCells_cells (P:=P) p.blk (p.ob+off*e'.sz) (cl.take (min ys.length len*e'.sz)) 0 w (fun j hj=>q5.is (by omega)) (fun j hj=>q5.free (by omega)) (y1'.one (fun _ _=>PRd.one))
        have:=qks (ty:=ty) (T2:=T2) hdT hsz (base:=some ⟨p.blk,p.ob+off*e'.sz,none⟩) (dLen:=len) (dCap:=cap) (y2 w) y3' (w2:=_) hst
        obtain ⟨s1,s2,s3,s4,s5⟩:=qzb p.blk (cl.take (min ys.length len*e'.sz)) (p.ob+off*e'.sz+0) w
        refine ⟨_,_,this,K,?_,rfl⟩
        refine Stp.write A.inv nl l _ _ _ p hlk q1 (.inl rfl) ⟨s1,s2,s3,s4,s5⟩ (fun N' K' hN hk=>⟨?_,put cs (off*e'.sz) (cl.take (min ys.length len*e'.sz)),?_,?_⟩)
        ·rw [qon (by omega)]
        ·exact q5.write (by omega)
        ·refine qut (fun _ _=>PRd.length) ?_ ?_ (by omega)
         ·exact q6.imp (fun _ _ q=>q.keep ⟨fun b hb=>⟨by cases fr' <;> cases fr <;> first|exact ((hk.n _).k b hb).1|exact hN b ((hk.n _).k b hb).1,((hk.n _).k b hb).2⟩⟩)
         ·exact y1'.imp (fun _ _ q=>q.keep ⟨fun b hb=>⟨by cases fr' <;> cases fr <;> first|exact ((hk.n _).k b hb).1|exact hN b ((hk.n _).k b hb).1,((hk.n _).k b hb).2⟩⟩)
     ·cases h
    ·cases h
   ·rename_i e' l p m off len
    split at h
    ·rename_i he'
     subst he'
     split at h
     ·rename_i obj hlk
      split at h
      ·rename_i t y hg
       split at h
       ·rename_i ht
        subst ht
        split at h
        ·rename_i obj' hset
         simp only [wc] at h;subst h
         obtain ⟨sh,pl,po,k1,k2,k3,o,cap,rfl,h5,h6⟩:=hd
         have hl:=A.sub _ _ hlk
         obtain ⟨gh,g1,g2⟩:=A.inv.objs l _ hl
         rw [k1] at g1;injection g1 with g1;subst g1
         obtain ⟨cs,e2,e3,e4⟩:=g2.box_get uj k2 hg
         obtain ⟨hyl,hyc⟩:=e4
         have y3':=y3 (min ys.length len) (Nat.min_le_left _ _) w rfl
         have y1':=y1.take (n:=e'.sz) (fun _ _=>PRd.length) (min ys.length len)
         have y1l:=y1'.length (n:=e'.sz) (fun _ _=>PRd.length)
         have ytl:(ys.take (min ys.length len)).length=min ys.length len:=by simp
         rw [ytl] at y1l
         have hm2:(off+min ys.length len)*e'.sz≤m*e'.sz:=wna _ (by omega)
         rw [wmb] at hm2
         have hy2:ARd w (NN c H K w) K (.arr m e') (qsb y off (ys.take (min ys.length len))) (put (cut cs po (m*e'.sz)) (off*e'.sz) (cl.take (min ys.length len*e'.sz))):=by
          refine ⟨by rw [qon (by omega)];exact hyl,qut (fun _ _=>PRd.length) hyc ?_ (by omega)⟩
          exact y1'.imp (fun _ _ q=>q.keep ⟨fun b hb=>⟨by cases fr <;> first|exact hb|exact uj b hb,rfl⟩⟩)
         obtain ⟨cs2,b1,b2,b3⟩:=qmx (w:=w) (N:=NN c H K w) uj g2 k2 hy2 hset
         have hcc:=e2.cut_eq b1 (o:=po) (n:=(Ty.arr m e').sz) e3 b2
         have hszm:(Ty.arr m e').sz=m*e'.sz:=rfl
         rw [hszm] at hcc b2 e3
         rw [hcc,qOF (by omega) (by omega)] at b3
         have hle:min ys.length len=0∨cap≠0:=by omega
         have hst:(storeCells ⟨pl.blk,o,none⟩ (cl.take (min ys.length len*e'.sz))).run P w= .ok () (w.setCells pl.blk (pl.ob+(po+off*e'.sz)) (cl.take (min ys.length len*e'.sz))):=by
          rcases hle with hle|hle
          ·rw [hle];simp [storeCells,World.setCells]
          ·obtain rfl:=h6.resolve_left hle
           have hcl3:pl.ob+cs2.length≤pl.bs:=by obtain ⟨_,_,_,_,_,_,q,_⟩:=id b1;exact q
           have:=run_storeCells_cells (P:=P) pl.blk (pl.ob+po+off*e'.sz) (cl.take (min ys.length len*e'.sz)) 0 w (fun j hj=>b1.is (by omega)) (fun j hj=>b1.free (by omega)) (y1'.one (fun _ _=>PRd.one))
           rw [show pl.ob+(po+off*e'.sz)=pl.ob+po+off*e'.sz+0 by omega]
           exact this
         have:=qks (ty:=ty) (T2:=T2) hdT hsz (base:=some ⟨pl.blk,o,none⟩) (dLen:=len) (dCap:=cap) (y2 w) y3' (w2:=_) hst
         obtain ⟨s1,s2,s3,s4,s5⟩:=qzb pl.blk (cl.take (min ys.length len*e'.sz)) (pl.ob+(po+off*e'.sz)) w
         refine ⟨_,_,this,K,?_,rfl⟩
         exact Stp.write A.inv nl l _ _ _ pl hl k1 k2.has ⟨s1,s2,s3,s4,s5⟩ (fun N' K' hN hk=>b3 _ N' K' hN hk (fun q _ hq=>s5 _ hq) (b1.write (by omega)))
        ·cases h
       ·cases h
      ·cases h
     ·cases h
    ·cases h
   ·simp only [Ab.one,wc] at h;subst h
    simp only [VRd] at hd;subst hd
    have y3':=y3 (min ys.length 0) (Nat.min_le_left _ _) w rfl
    have:=qks (ty:=ty) (T2:=T2) hdT hsz (base:=none) (dLen:=0) (dCap:=0) (y2 w) y3' (w2:=w) rfl
    refine ⟨_,w,this,Lands.one A.inv ?_⟩
    simp only [Nat.min_zero];rfl
   ·cases h
  ·cases h
 ·cases h
theorem qNB (A:At c P GT H lk K w ev ρ nl) {T T2 E ty:TypeId} {i:TypeInfo} {z:Value} {e:Ty} (hd:P.underlying T=some (.slice E)) {E2:TypeId} (hd2:P.underlying T2=some (.slice E2)) (hin:P.info? E=some i) (hz:i.zero=some z) (hsz:i.size=e.sz) (hzs:z.cells.size=e.sz) (h63:0<i.bytes)
  {s x:AV} {u v:Value} (hs:VRd w (NN c H K w) K s u) (hx:VRd w (NN c H K w) K x v) {out:Out} (h:qtG lk e s x nl i.bytes=some out) (hc:qqh out.conds):
  ∃r w',(wta #[T,T2] ty #[u,v]).run P w= .ok r w'∧Lands c H K w nl out r w':=by
 unfold qtG at h
 split at h
 ·rename_i e2 l2 off2 len2
  split at h
  ·rename_i e1 ys hlk2
   split at h
   ·rename_i he
    subst he
    split at h
    ·rename_i he2
     subst he2
     split at h
     ·rename_i o' hap
      simp only [wc] at h;subst h
      have hH2:=A.sub _ _ hlk2
      obtain ⟨rfl,rfl,hf,qs,ql,m1,hb,hm2⟩:=qbC A.inv hH2 hx
      have S1:=Stp.kill A.inv nl [l2]
      have A1:At c P GT (qJb H (Ab.kill [l2])) (fun l=>if l=l2 then none else lk l) K w (fun _=> .one .undef) ρ nl:=by
       refine ⟨S1.inv,fun l o hl=>?_,fun _=>trivial,A.fresh,A.ng,A.glob,A.gng⟩
       split at hl
       ·cases hl
       ·rename_i hne
        simp only [qJb,Ab.kill,wI,wDa,lookL]
        rw [if_neg (wJa hne)]
        exact A.sub _ _ hl
      have hsrc:∃ds,Src P w E T2 (Ty.slice e1).sz z.cells v ys.length ds∧Cat (PRd w (NN c (qJb H (Ab.kill [l2])) K w true) (.slice e1)) ys ds:=by
       cases ql with
       |none=>
        obtain ⟨rfl,rfl,rfl⟩:=hm2
        exact ⟨[], .given (.inl ⟨E2,hd2⟩) (fun w'=>rfl) (qJl (by simp) (fun h=>absurd rfl h)),rfl⟩
       |some p=>
        obtain ⟨cs,o,cap,rfl,r1,r2,r3,r4⟩:=hm2
        refine ⟨cs, .given (.inl ⟨E2,hd2⟩) (fun w'=>rfl) (qJl (by rw [r4.len.2];simp [Ty.sz]) (fun h=>?_)),r4.cat hf (fun q hq=>NN.kill A.inv hH2 m1 (.inr hq) (by simp) true)⟩
        obtain ⟨rfl,_⟩:=r2.resolve_left (by omega)
        exact ⟨_,_,rfl,r3.cells⟩
      obtain ⟨ds,h1,h2⟩:=hsrc
      obtain ⟨r,w',g1,K',g2,g3⟩:=qkj (ty:=ty) A1 hd hin hz hsz hzs h63 (hs.keep S1.keep) h1 h2 rfl hap hc
      refine ⟨r,w',g1,K',S1.trans g2,?_⟩
      have:=qsi H o'.upd (Ab.kill [l2])
      show TVRd w' (NN c (qJb H (o'.upd++Ab.kill [l2])) K' w') K' o'.v r
      rw [this];exact g3
     ·cases h
    ·cases h
   ·cases h
  ·cases h
 ·cases h
theorem qEz (A:At c P GT H lk K w ev ρ nl) {T T2 E ty:TypeId} {i:TypeInfo} {z:Value} {e:Ty} (hd:P.underlying T=some (.slice E)) {E2:TypeId} (hd2:P.underlying T2=some (.slice E2)) (hin:P.info? E=some i) (hz:i.zero=some z) (hsz:i.size=e.sz) (hzs:z.cells.size=e.sz) (h63:0<i.bytes)
  {s x:AV} {u v:Value} (hs:VRd w (NN c H K w) K s u) (hx:VRd w (NN c H K w) K x v) {out:Out} (h:qdC lk e s x nl i.bytes=some out) (hc:qqh out.conds):
  ∃r w',(wta #[T,T2] ty #[u,v]).run P w= .ok r w'∧Lands c H K w nl out r w':=by
 unfold qdC at h
 split at h
 ·rename_i e2 l2 off2 len2
  split at h
  ·rename_i a1 e1 ys hlk2
   split at h
   ·rename_i he
    subst he
    split at h
    ·rename_i he2
     subst he2
     split at h
     ·rename_i o' hap
      simp only [wc] at h;subst h
      have hH2:=A.sub _ _ hlk2
      obtain ⟨rfl,rfl,⟨ha0,hf⟩,qs,ql,m1,hb,hm2⟩:=qjy A.inv hH2 hx
      have S1:=Stp.kill A.inv nl [l2]
      have A1:At c P GT (qJb H (Ab.kill [l2])) (fun l=>if l=l2 then none else lk l) K w (fun _=> .one .undef) ρ nl:=by
       refine ⟨S1.inv,fun l o hl=>?_,fun _=>trivial,A.fresh,A.ng,A.glob,A.gng⟩
       split at hl
       ·cases hl
       ·rename_i hne
        simp only [qJb,Ab.kill,wI,wDa,lookL]
        rw [if_neg (wJa hne)]
        exact A.sub _ _ hl
      have hsrc:∃ds,Src P w E T2 (qYr a1 e1).sz z.cells v (qAi ys).length ds∧Cat (PRd w (NN c (qJb H (Ab.kill [l2])) K w true) (qYr a1 e1)) (qAi ys) ds:=by
       cases ql with
       |none=>
        obtain ⟨rfl,rfl,rfl⟩:=hm2
        exact ⟨[], .given (.inl ⟨E2,hd2⟩) (fun w'=>rfl) (qJl (by simp [qAi]) (fun h=>absurd rfl h)),rfl⟩
       |some p=>
        obtain ⟨cs,o,cap,rfl,r1,r2,r3,r4⟩:=hm2
        rw [qMl]
        refine ⟨cs, .given (.inl ⟨E2,hd2⟩) (fun w'=>rfl) (qJl (by rw [r4.len.2];rfl) (fun h=>?_)),r4.cat ha0 hf (fun q hq=>NN.kill A.inv hH2 m1 (.inr hq) (by simp) true)⟩
        obtain ⟨rfl,_⟩:=r2.resolve_left (by omega)
        exact ⟨_,_,rfl,r3.cells⟩
      obtain ⟨ds,h1,h2⟩:=hsrc
      obtain ⟨r,w',g1,K',g2,g3⟩:=qkj (ty:=ty) A1 hd hin hz hsz hzs h63 (hs.keep S1.keep) h1 h2 rfl hap hc
      refine ⟨r,w',g1,K',S1.trans g2,?_⟩
      have:=qsi H o'.upd (Ab.kill [l2])
      show TVRd w' (NN c (qJb H (o'.upd++Ab.kill [l2])) K' w') K' o'.v r
      rw [this];exact g3
     ·cases h
    ·cases h
   ·cases h
  ·cases h
 ·cases h
theorem qFw {T E ty:TypeId} {z:Value} (hd:P.underlying T=some (.slice E)) (hz:(zeroValue E).run P w= .ok z w) {base:Option Addr} {n cap:Nat} {w2:World}
  (hw:n≠0→∃a,base=some a∧(storeCells a (wra z.cells n).toList).run P w= .ok () w2) (h0:n=0→w2=w):
  (Builtin.clear_ #[T] ty #[.slice base n cap]).run P w= .ok (.tuple #[]) w2:=by
 cases n with
 |zero=>
  rw [h0 rfl]
  cases base <;> simp [Builtin.clear_,run_underlying hd]
 |succ n=>
  obtain ⟨a,rfl,h⟩:=hw (by omega)
  simp [Builtin.clear_,run_underlying hd,hz,h]
theorem qMJ (A:At c P GT H lk K w ev ρ nl) {T ty:TypeId} {e:Ty} {l off n:Nat} {wh:Bool} {u:Value} (hd:VRd w (NN c H K w) K (.ref e l off n wh) u) {out:Out} (h:qye P lk nl .clear [T] [.ref e l off n wh]=some out):
  ∃r w',(Builtin.clear_ #[T] ty #[u]).run P w= .ok r w'∧Lands c H K w nl out r w':=by
 simp only [qye] at h
 split at h
 ·rename_i E hdT
  split at h
  ·rename_i hq
   split at h
   ·rename_i fr' xs hrow
    simp only [wc] at h;subst h
    obtain ⟨z,hz1,hz2,i,hi1,hi2⟩:=qcf (P:=P) (w:=w) hq.2
    have hzs:z.cells.size=e.sz:=by
     have:=(qbg (w:=w) (N:=fun _=>True) (t:=e)).length
     rw [←hz2] at this;simpa using this
    have hlk:=A.sub _ _ (qGc hrow)
    obtain ⟨h1,h2,h3,h4⟩:=qRo A.inv hlk hd
    rcases h4 with ⟨rfl,q2,rfl,rfl⟩|⟨p,cs,o,cap,q1,rfl,q3,q4,q5,q6⟩
    ·refine ⟨_,w,qFw hdT hz1 (fun h=>absurd rfl h) (fun _=>rfl),K,?_,[],rfl,rfl⟩
     have hspl:qsb ([]:List (pden e)) off (wl 0 (qra e))=[]:=by simp [qsb]
     simp only [hspl]
     exact uB A.inv hlk q2
    ·by_cases hn0:n=0
     ·subst hn0
      refine ⟨_,w,qFw hdT hz1 (fun h=>absurd rfl h) (fun _=>rfl),K,?_,[],rfl,rfl⟩
      have hspl:qsb xs off (wl 0 (qra e))=xs:=by simp [qsb]
      simp only [hspl]
      exact Stp.write A.inv nl l _ _ _ p hlk q1 (.inl rfl) ⟨rfl,rfl,rfl,rfl,fun _ _=>rfl⟩ (fun N' K' hN hk=>⟨rfl,cs,q5,q6.imp (fun _ _ q=>q.keep (hk.n _))⟩)
     ·obtain ⟨rfl,q4⟩:=q4.resolve_left (by omega)
      have hxl:=q6.length (n:=e.sz) (fun _ _=>PRd.length)
      have hm2:(off+n)*e.sz≤xs.length*e.sz:=wna _ h2
      rw [wmb] at hm2
      have hcat:∀{N:Nat→Prop},Cat (PRd w N e) (wl n (qra e)) (wra z.cells n).toList:=by
       intro N
       rw [qbm]
       exact qIs (by rw [hz2];exact qbg) _
      have hcl:=(hcat (N:=fun _=>False)).length (n:=e.sz) (fun _ _=>PRd.length)
      rw [wP] at hcl
      obtain ⟨_,_,_,_,_,_,q5b,_⟩:=id q5
      have hst:=run_storeCells_cells (P:=P) p.blk (p.ob+off*e.sz) (wra z.cells n).toList 0 w (fun j hj=>q5.is (by omega)) (fun j hj=>q5.free (by omega)) ((hcat (N:=fun _=>False)).one (fun _ _=>PRd.one))
      obtain ⟨s1,s2,s3,s4,s5⟩:=qzb p.blk (wra z.cells n).toList (p.ob+off*e.sz+0) w
      refine ⟨_,_,qFw hdT hz1 (fun _=>⟨_,rfl,hst⟩) (fun h=>absurd h hn0),K,?_,[],rfl,rfl⟩
      refine Stp.write A.inv nl l _ _ _ p hlk q1 (.inl rfl) ⟨s1,s2,s3,s4,s5⟩ (fun N' K' hN hk=>⟨?_,put cs (off*e.sz) (wra z.cells n).toList,?_,?_⟩)
      ·rw [qon (by simp;omega)]
      ·exact q5.write (by omega)
      ·refine qut (fun _ _=>PRd.length) (q6.imp (fun _ _ q=>q.keep (hk.n _))) ?_ (by simp;omega)
       exact (hcat (N:=fun _=>False)).imp (fun _ _ q=>q.keep ⟨fun b hb=>hb.elim⟩)
   ·cases h
  ·cases h
 ·cases h
theorem qDG (A:At c P GT H lk K w ev ρ nl) {T T2 ty:TypeId} {s x:AV} {u v:Value} (hs:VRd w (NN c H K w) K s u) (hx:VRd w (NN c H K w) K x v) {out:Out} (h:qye P lk nl .append [T,T2] [s,x]=some out) (hc:qqh out.conds):
  ∃r w',(wta #[T,T2] ty #[u,v]).run P w= .ok r w'∧Lands c H K w nl out r w':=by
 simp only [qye] at h
 split at h
 ·rename_i e he
  have hT:qZd P tyD T=some (.slice e):=by
   unfold qvo at he
   split at he
   ·rename_i e' h';simp only [wc] at he;subst he;exact h'
   ·cases he
  obtain ⟨m0,E,_,hdT,hE⟩:=qSc hT
  split at h
  ·rename_i hok
   unfold qgO at hok
   rw [hdT] at hok
   simp only [wA,decide_eq_true_eq] at hok
   obtain ⟨⟨hz,hb0⟩,hs0⟩:=hok
   obtain ⟨z,hz1,hz2,i,hi1,hi2⟩:=qcf (P:=P) (w:=w) hz
   obtain ⟨_,_,i',_,_,_,_,hi3,hi4⟩:=qqd hE
   rw [hi1] at hi3;injection hi3 with hi3;subst hi3
   have hby:P.bytesOf E=i.bytes:=by simp [Program.bytesOf,hi1]
   have hzs:z.cells.size=e.sz:=by
    have:=(qbg (w:=w) (N:=fun _=>True) (t:=e)).length
    rw [←hz2] at this;simpa using this
   have heb:qwe P T=i.bytes:=by unfold qwe;rw [hdT];exact hby
   rw [heb] at h
   split at h
   ·rename_i k hd2
    split at h
    ·rename_i n hn
     split at h
     ·rename_i o ho
      simp only [wc] at h;subst h
      obtain ⟨c1,c2,c3,c4⟩:=hc
      have hxx:∃k',x= .int k' n:=by
       cases x <;> simp [qvr] at hn
       subst hn;exact ⟨_,rfl⟩
      obtain ⟨k',rfl⟩:=hxx
      simp only [VRd] at hx;subst hx
      obtain ⟨r,w',h1,h2⟩:=qkj (ty:=ty) A hdT hi1 hi2 hi4 hzs (by omega) hs (Src.zeros k k' n hd2 rfl c1 c3 (by rw [hby];exact c2) rfl rfl) (ys:=wl n.toNat (qra e)) (fr:=true) (qIs (by rw [hz2];exact qbg) _) (by simp) ho c4
      exact ⟨r,w',h1,h2⟩
     ·cases h
    ·cases h
   ·rename_i e2 hd2
    split at h
    ·cases h
    ·split at h
     ·rename_i o' hfa
      simp only [wc] at h;subst h
      exact qYD A hdT hd2 hi1 hi2 hi4 hzs (by omega) hs hx hfa hc
     split at h
     ·rename_i o' hfa
      simp only [wc] at h;subst h
      exact qMB A hdT hd2 hi1 hi2 hi4 hzs (by omega) hs hx hfa hc
     split at h
     ·rename_i o' hfd
      simp only [wc] at h;subst h
      exact qEz A hdT hd2 hi1 hi2 hi4 hzs (by omega) hs hx hfd hc
     split at h
     ·rename_i o' hfd
      simp only [wc] at h;subst h
      exact qNB A hdT hd2 hi1 hi2 hi4 hzs (by omega) hs hx hfd hc
     split at h
     ·rename_i fr ys hcon
      obtain ⟨cl,y1,y2,y3⟩:=qiH (P:=P) A.inv A.sub hcon hx
      have hy1l:=y1.length (n:=e.sz) (fun _ _=>PRd.length)
      exact qkj (ty:=ty) A hdT hi1 hi2 hi4 hzs (by omega) hs (Src.given (.inl ⟨e2,hd2⟩) y2 (fun w' hw=>by
       have:=y3 ys.length (ws _) w' hw
       rwa [←hy1l,List.take_length] at this)) y1 rfl h hc
     ·cases h
   ·rename_i hd2
    split at h
    ·split at h
     ·rename_i fr ys hcon
      obtain ⟨cl,y1,y2,y3⟩:=qiH (P:=P) A.inv A.sub hcon hx
      have hy1l:=y1.length (n:=e.sz) (fun _ _=>PRd.length)
      exact qkj (ty:=ty) A hdT hi1 hi2 hi4 hzs (by omega) hs (Src.given (.inr hd2) y2 (fun w' hw=>by
       have:=y3 ys.length (ws _) w' hw
       rwa [←hy1l,List.take_length] at this)) y1 rfl h hc
     ·cases h
    ·cases h
   ·cases h
  ·cases h
 ·cases h
theorem qIE (A:At c P GT H lk K w ev ρ nl) {o:Oper} {b:Builtin} {args:Array Operand} {ats:Array TypeId} (ho:o.op= .call {callee:= .builtin b,args:=args,argTypes:=ats}) {orc:Option COrc} {out:Out} (h:qYb P GT ev lk nl orc o.type o.op=some out) (hc:qqh out.conds):
  Does P o ρ w (Lands c H K w nl out):=by
 rw [ho] at h
 simp only [qYb] at h
 split at h
 ·rename_i vs hvs
  have hv:=qJA A hvs
  obtain ⟨cn,hex⟩:=qSu (w:=w) (ρ:=ρ) (P:=P) ho
  have hl2:(args.map ρ)=(args.toList.map ρ).toArray:=by apply wYa;simp
  have fin:∀(m:Sem Value),(builtin b ats o.type cn (args.map ρ)).run P w=(do let v ←m;pure (Next.value v):Sem Next).run P w→(∃r w',m.run P w= .ok r w'∧Lands c H K w nl out r w')→Does P o ρ w (Lands c H K w nl out):=by
   rintro m h1 ⟨r,w',h2,h3⟩
   refine Does.value (v:=r) (w':=w') ?_ h3
   rw [hex,h1]
   simp [h2]
  unfold qye at h
  split at h
  ·rename_i T hats
   have hat:ats=#[T]:=by apply wYa;simpa using hats
   subst hat
   obtain ⟨u,hu,hr⟩:=hv.one_inv
   split at h
   ·rename_i E hd
    simp only [Ab.one,wc] at h;subst h
    simp only [VRd] at hr;subst hr
    exact fin (Builtin.cap_ #[T] o.type #[.slice none 0 0]) (by rw [hl2,hu];rfl) ⟨.int .i64 0,w,by simp [Builtin.cap_,run_underlying hd,goInt],Lands.one A.inv rfl⟩
   ·cases h
  ·rename_i T x hats
   have hat:ats=#[T]:=by apply wYa;simpa using hats
   subst hat
   obtain ⟨u,hu,hr⟩:=hv.one_inv
   split at h
   ·rename_i v hlen
    simp only [Ab.one,wc] at h;subst h
    obtain ⟨r,h1,h2⟩:=qHK (ty:=o.type) A hr hlen
    exact fin (Builtin.len_ #[T] o.type #[u]) (by rw [hl2,hu];rfl) ⟨r,w,h1,Lands.one A.inv h2⟩
   ·cases h
  ·rename_i T T2 s x hats
   have hat:ats=#[T,T2]:=by apply wYa;simpa using hats
   subst hat
   obtain ⟨u,v,hu,hr1,hr2⟩:=hv.two_inv
   exact fin (wta #[T,T2] o.type #[u,v]) (by rw [hl2,hu];rfl) (qDG A hr1 hr2 (by simpa only [qye] using h) hc)
  ·rename_i T T2 s x hats
   have hat:ats=#[T,T2]:=by apply wYa;simpa using hats
   subst hat
   obtain ⟨u,v,hu,hr1,hr2⟩:=hv.two_inv
   exact fin (Builtin.copy_ #[T,T2] o.type #[u,v]) (by rw [hl2,hu];rfl) (qsM A hr1 hr2 (by simpa only [qye] using h))
  ·rename_i T l hats
   have hat:ats=#[T]:=by apply wYa;simpa using hats
   subst hat
   obtain ⟨u,hu,hr⟩:=hv.one_inv
   split at h
   ·rename_i KT E hd
    split at h
    ·rename_i k v es hlk
     simp only [wc] at h;subst h
     obtain ⟨sh,pl,k1,rfl⟩:=hr
     obtain ⟨gh,hK,hgs,p,en,clock,hgp,hb,hfk,hfv,hM⟩:=A.inv.objs _ _ (A.sub _ _ hlk)
     rw [k1] at hK
     injection hK with hK;subst hK
     injection hgp with hgp;subst hgp
     simp only at hgs;subst hgs
     have hlt:pl.blk<w.heap.size:=(A.inv.own l _ _ pl (A.sub _ _ hlk) k1 (.inl rfl)).1
     refine fin (Builtin.clear_ #[T] o.type #[.map (some pl.blk)]) (by rw [hl2,hu];rfl) ⟨.tuple #[],{w with heap:=w.heap.setIfInBounds pl.blk (.map #[] clock)},?_,K,?_,?_⟩
     ·have hg:(getObj pl.blk).run P w= .ok (.map en clock) w:=by simp [getObj,Sem.run,hb]
      have hs:∀ob,(setObj pl.blk ob).run P w= .ok () {w with heap:=w.heap.setIfInBounds pl.blk ob}:=fun ob=>by simp [setObj,Sem.run,hb]
      simp [Builtin.clear_,run_underlying hd,hg,hs]
     ·exact Stp.write (w':={w with heap:=w.heap.setIfInBounds pl.blk (.map #[] clock)}) A.inv nl l _ (.map k v []) ⟨.map k v,some pl⟩ pl (A.sub _ _ hlk) k1 (.inl rfl)
       ⟨rfl,rfl,rfl,by simp,fun q hq=>by simp [Array.getElem?_setIfInBounds,wJa hq]⟩
       (fun N' K' _ hkk=>⟨rfl,pl,#[],clock,rfl,by simp [hlt],hfk,hfv,rfl⟩)
     ·exact ⟨[],rfl,rfl⟩
    ·cases h
   ·cases h
  ·rename_i T e l off n wh hats
   have hat:ats=#[T]:=by apply wYa;simpa using hats
   subst hat
   obtain ⟨u,hu,hr⟩:=hv.one_inv
   exact fin (Builtin.clear_ #[T] o.type #[u]) (by rw [hl2,hu];rfl) (qMJ A hr (by simpa only [qye] using h))
  ·rename_i l hat
   obtain ⟨u,hu,hr⟩:=hv.one_inv
   split at h
   ·rename_i e fr cap xs hlk
    simp only [wc] at h;subst h
    obtain ⟨sh,pl,k1,rfl⟩:=hr
    obtain ⟨gh,hK,hgs,p,buf,s,r,hgp,hb,hC⟩:=A.inv.objs _ _ (A.sub _ _ hlk)
    rw [k1] at hK
    injection hK with hK;subst hK
    injection hgp with hgp;subst hgp
    simp only at hgs;subst hgs
    have hlt:pl.blk<w.heap.size:=(A.inv.own l _ _ pl (A.sub _ _ hlk) k1 (.inl rfl)).1
    refine fin (Builtin.close_ ats o.type #[.chan (some pl.blk)]) (by rw [hl2,hu];rfl) ⟨.tuple #[],{w with heap:=w.heap.setIfInBounds pl.blk (.chan cap buf true s r false)},?_,?_⟩
    ·have hg:(getObj pl.blk).run P w= .ok (.chan cap buf false s r false) w:=by simp [getObj,Sem.run,hb]
     have hs:∀ob,(setObj pl.blk ob).run P w= .ok () {w with heap:=w.heap.setIfInBounds pl.blk ob}:=fun ob=>by simp [setObj,Sem.run,hb]
     delta Builtin.close_
     refine (ww ..).trans ?_
     rw [hg]
     refine (ww ..).trans ?_
     rw [hs]
     rfl
    ·have S:=Stp.write (w':={w with heap:=w.heap.setIfInBounds pl.blk (.chan cap buf true s r false)}) A.inv nl l _ (.chan e fr cap xs true) ⟨.chan e cap,some pl⟩ pl (A.sub _ _ hlk) k1 (.inl rfl)
       ⟨rfl,rfl,rfl,by simp,fun q hq=>by simp [Array.getElem?_setIfInBounds,wJa hq]⟩
       (fun N' K' hk hkk=>⟨rfl,pl,buf,s,r,rfl,by simp [hlt],hC.keep (hkk.n fr)⟩)
     exact ⟨K,S,⟨[],rfl,rfl⟩⟩
   ·cases h
  ·rename_i _ k a k' b'
   obtain ⟨u,v,hu,hr1,hr2⟩:=hv.two_inv
   split at h
   ·rename_i hk
    subst hk
    simp only [Ab.one,wc] at h;subst h
    simp only [VRd] at hr1 hr2;subst hr1;subst hr2
    exact fin (Builtin.min_ ats o.type #[.int k a, .int k b']) (by rw [hl2,hu];rfl) ⟨_,w,by simp [Builtin.min_,Builtin.min2],Lands.one A.inv rfl⟩
   ·cases h
  ·rename_i _ k a k' b'
   obtain ⟨u,v,hu,hr1,hr2⟩:=hv.two_inv
   split at h
   ·rename_i hk
    subst hk
    simp only [Ab.one,wc] at h;subst h
    simp only [VRd] at hr1 hr2;subst hr1;subst hr2
    exact fin (Builtin.max_ ats o.type #[.int k a, .int k b']) (by rw [hl2,hu];rfl) ⟨_,w,by simp [Builtin.max_,Builtin.max2],Lands.one A.inv rfl⟩
   ·cases h
  ·cases h
 ·cases h
end
end Go.Ab

/-
  Calls: what is handed over, what comes back.
-/
set_option linter.unusedVariables false
set_option linter.unusedSimpArgs false
namespace Go.Ab
open Go
theorem qpr {w:World} {N:Bool→Nat→Prop} {f:Nat→Nat} {K K':Kn}:∀{t:Ty} {x:qgf t} {cs:List Value},(∀k∈qxv t x,K' k=K (f k))→(ARd w N K t (qFO f t x) cs↔ARd w N K' t x cs)
 | .int _,_,_,_=>Iff.rfl
 | .bool,_,_,_=>Iff.rfl
 | .str,_,_,_=>Iff.rfl
 | .arr _ _,_,_,_=>Iff.rfl
 | .pair a b,x,cs,h=>by
   simp only [qxv,wba] at h
   simp only [qFO,ARd]
   constructor
   ·rintro ⟨c1,c2,e,h1,h2⟩
    exact ⟨c1,c2,e,(qpr (fun k hk=>h k (.inl hk))).1 h1,(qpr (fun k hk=>h k (.inr hk))).1 h2⟩
   ·rintro ⟨c1,c2,e,h1,h2⟩
    exact ⟨c1,c2,e,(qpr (fun k hk=>h k (.inl hk))).2 h1,(qpr (fun k hk=>h k (.inr hk))).2 h2⟩
 | .unit,_,_,_=>Iff.rfl
 | .slice e,x,cs,h=>by
   cases x with
   |pure fr xs=>exact Iff.rfl
   |nil=>exact Iff.rfl
   |junk=>exact Iff.rfl
   |lng n=>exact Iff.rfl
   |ref l off len wh=>
    have:=h l (by simp [qxv])
    simp only [qFO,qTQ,ARd,RefRd,this]
 | .fn,_,_,_=>Iff.rfl
theorem qBA {f:Nat→Nat} {K K':Kn}:∀{ls:List Nat} {vs:List Value},(∀k∈ls,K' k=K (f k))→(capsRd K (ls.map f) vs↔capsRd K' ls vs)
 |[],_,_=>Iff.rfl
 |l::ls,vs,h=>by
  have h1:=h l (by simp)
  have h2:∀vs,capsRd K (ls.map f) vs↔capsRd K' ls vs:=fun vs=>qBA (fun k hk=>h k (by simp [hk]))
  simp only [wI,capsRd,h1,h2]
theorem qMw {w:World} {N:Bool→Nat→Prop} {f:Nat→Nat} {K K':Kn} {a:AV} {v:Value} (h:∀k∈qjj a,K' k=K (f k)):VRd w N K (qAA f a) v↔VRd w N K' a v:=by
 cases a with
 |agg t x=>
  simp only [qAA,VRd]
  constructor
  ·rintro ⟨cs,e,h1,h2⟩;exact ⟨cs,e,h1,(qpr h).1 h2⟩
  ·rintro ⟨cs,e,h1,h2⟩;exact ⟨cs,e,h1,(qpr h).2 h2⟩
 |ref e l off len wh=>
  have:=h l (by simp [qjj])
  simp only [qAA,VRd,RefRd,this]
 |bref e l p n off len=>
  have:=h l (by simp [qjj])
  simp only [qAA,VRd,this]
 |ptr t l p=>
  have:=h l (by simp [qjj])
  simp only [qAA,VRd,this]
 |ifp T t l p=>
  have:=h l (by simp [qjj])
  simp only [qAA,VRd,this]
 |cslice e l n=>
  have:=h l (by simp [qjj])
  simp only [qAA,VRd,this]
 |cptr l=>
  have:=h l (by simp [qjj])
  simp only [qAA,VRd,this]
 |func g caps=>
  have h2:∀vs,capsRd K (caps.map f) vs↔capsRd K' caps vs:=fun vs=>qBA h
  simp only [qAA,VRd,h2]
 |mapr l=>
  have:=h l (by simp [qjj])
  simp only [qAA,VRd,this]
 |chan l=>
  have:=h l (by simp [qjj])
  simp only [qAA,VRd,this]
 |_=>exact Iff.rfl
theorem qOK {w:World} {N:Bool→Nat→Prop} {f:Nat→Nat} {K K':Kn}:∀{as:List AV} {vs:List Value},(∀k∈as.flatMap qjj,K' k=K (f k))→(VRdL w N K (as.map (qAA f)) vs↔VRdL w N K' as vs)
 |[],_,_=>Iff.rfl
 |a::as,vs,h=>by
  simp only [wUa,wba] at h
  have h1:∀v,VRd w N K (qAA f a) v↔VRd w N K' a v:=fun v=>qMw (fun k hk=>h k (.inl hk))
  have h2:∀vs,VRdL w N K (as.map (qAA f)) vs↔VRdL w N K' as vs:=fun vs=>qOK (fun k hk=>h k (.inr hk))
  simp only [wI,VRdL,h1,h2]
theorem qLF {w:World} {N:Bool→Nat→Prop} {f:Nat→Nat} {K K':Kn} {a:TV} {v:Value} (h:∀k∈qUm a,K' k=K (f k)):TVRd w N K (qFQ f a) v↔TVRd w N K' a v:=by
 cases a with
 |one a=>exact qMw h
 |tup as=>
  simp only [qFQ,TVRd]
  have h2:∀vs,VRdL w N K (as.map (qAA f)) vs↔VRdL w N K' as vs:=fun vs=>qOK h
  simp only [h2]
theorem qMF {w:World} {N:Bool→Nat→Prop} {f:Nat→Nat} {K K':Kn} {o:Obj} {gh:Gh} (h:∀k∈qBr o,K' k=K (f k)):ORd w N K (qgJ f o) gh↔ORd w N K' o gh:=by
 cases o with
 |box t x=>
  have:∀cs,ARd w N K t (qFO f t x) cs↔ARd w N K' t x cs:=fun cs=>qpr h
  simp only [qgJ,ORd,this]
 |cell v=>
  have:∀c,VRd w N K (qAA f v) c↔VRd w N K' v c:=fun c=>qMw h
  simp only [qgJ,ORd,this]
 |row e fr xs=>exact Iff.rfl
 |map k v es=>exact Iff.rfl
 |chan e fr cap xs cl=>exact Iff.rfl
 |fam e xss=>exact Iff.rfl
 |famS a e xs=>exact Iff.rfl
theorem qfI {w:World} {N:Bool→Nat→Prop} {K:Kn}:∀{t:Ty} {x:qgf t} {cs:List Value},frA t x=true→ARd w N K t x cs→ARd w (fun _=>N true) K t x cs
 | .int _,_,_,_,h=>h
 | .bool,_,_,_,h=>h
 | .str,_,_,_,h=>h
 | .arr n e,_,_,hf,h=>⟨h.1,h.2.imp (fun _ _ q=>PRd.flat hf q)⟩
 | .pair a b,_,_,hf,h=>by
   simp only [frA,wA] at hf
   obtain ⟨c1,c2,e,h1,h2⟩:=h
   exact ⟨c1,c2,e,qfI hf.1 h1,qfI hf.2 h2⟩
 | .unit,_,_,_,h=>h
 | .slice _,x,_,hf,h=>by
   cases x with
   |pure fr xs=>simp only [frA] at hf;subst hf;exact h
   |ref l off len wh=>exact h
   |nil=>exact h
   |junk=>exact h
   |lng n=>exact h
 | .fn,_,_,_,h=>h
theorem qVL {w:World} {N:Bool→Nat→Prop} {K:Kn} {a:AV} {v:Value} (hf:frV a=true) (h:VRd w N K a v):VRd w (fun _=>N true) K a v:=by
 cases a with
 |agg t x=>
  obtain ⟨cs,e,h1,h2⟩:=h
  exact ⟨cs,e,h1,qfI hf h2⟩
 |sl e fr xs=>simp only [frV] at hf;subst hf;exact h
 |rptr t fr x=>simp only [frV] at hf;subst hf;exact h
 |sln e fr xs=>simp only [frV] at hf;subst hf;exact h
 |_=>exact h
theorem qcP {w:World} {N:Bool→Nat→Prop} {K:Kn}:∀{as:List AV} {vs:List Value},as.all frV=true→VRdL w N K as vs→VRdL w (fun _=>N true) K as vs
 |[],_,_,h=>h
 |a::as,vs,hf,h=>by
  simp only [wsb,wA] at hf
  obtain ⟨v,r,e,h1,h2⟩:=h
  exact ⟨v,r,e,qVL hf.1 h1,qcP hf.2 h2⟩
theorem qoR {w:World} {N:Bool→Nat→Prop} {K:Kn} {a:TV} {v:Value} (hf:frT a=true) (h:TVRd w N K a v):TVRd w (fun _=>N true) K a v:=by
 cases a with
 |one a=>exact qVL hf h
 |tup as=>
  obtain ⟨vs,e,h⟩:=h
  exact ⟨vs,e,qcP hf h⟩
theorem qpR {w:World} {N:Bool→Nat→Prop} {K:Kn} {o:Obj} {gh:Gh} (hf:frO o=true) (h:ORd w N K o gh):ORd w (fun _=>N true) K o gh:=by
 cases o with
 |box t x=>
  obtain ⟨h1,p,cs,h2,h3,h4⟩:=h
  exact ⟨h1,p,cs,h2,h3,qfI hf h4⟩
 |cell v=>
  obtain ⟨h1,p,cs,h2,h3,h4⟩:=h
  exact ⟨h1,p,cs,h2,h3,qVL hf h4⟩
 |row e fr xs=>
  simp only [frO,wyb] at hf
  refine ⟨h.1,?_⟩
  have h2:=h.2
  revert h2
  cases gh.pl with
  |none=>exact id
  |some p=>
   rintro ⟨cs,h1,h2⟩
   refine ⟨cs,h1,?_⟩
   rcases hf with rfl|hf
   ·exact h2
   ·exact h2.imp (fun _ _ q=>PRd.flat hf q)
 |map k v es=>exact h
 |chan e fr cap xs cl=>
  simp only [frO,wyb] at hf
  obtain ⟨h1,p,buf,s,r,h2,h3,h4⟩:=h
  refine ⟨h1,p,buf,s,r,h2,h3,?_⟩
  rcases hf with rfl|hf
  ·exact h4
  ·exact h4.imp (fun _ _ q=>PRd.flat hf q)
 |fam e xss=>exact h
 |famS a e xs=>exact h
section
variable {L:Nat→Prop} {P:Program} {GT:qmi} {nt:Nat} {c:Cx} {H lk:qBc} {K K':Kn} {w:World} {ren:List (Nat×Nat)} {lo:Bool} {N':Bool→Nat→Prop}
theorem qrx:∀{ren:List (Nat×Nat)} {l n:Nat},qDe ren l=some n→(n,l)∈ren
 |[],_,_,h=>by cases h
 |(a,b)::r,l,n,h=>by
  simp only [qDe] at h
  split at h
  ·rename_i e;subst e;simp only [wc] at h;subst h;exact wT
  ·exact wO _ (qrx h)
theorem qgq:∀{ren:List (Nat×Nat)} {l:Nat},qDe ren l=none→∀n,(n,l) ∉ ren
 |[],_,_,_=>by simp
 |(a,b)::r,l,h,n=>by
  simp only [qDe] at h
  split at h
  ·cases h
  ·rename_i e
   intro hm
   rcases wZ.1 hm with e'|hm
   ·injection e' with _ e2;exact e e2.symm
   ·exact qgq h n hm
structure KeepX (c:Cx) (H:qBc) (K K':Kn) (w:World) (ren:List (Nat×Nat)) (lo:Bool) (L:Nat→Prop) (N':Bool→Nat→Prop):Prop where
 n:∀fr b,NN c H K w fr b→N' (fr&&!lo) b
 k:∀l n,qDe ren l=some n→K' n=K l
 gone:∀l o gh p,L l→qDe ren l=none→H l=some o→K l=some gh→Has gh p→∀fr,N' (fr&&!lo) p.blk
theorem KeepX.row (X:KeepX c H K K' w ren lo L N') (A:Inv c H K w) (hsub:∀l o,lk l=some o→H l=some o) {e:Ty} {l off len:Nat} {wh fr:Bool} {xs:List (pden e)} {v:Value} (hL:L l) (hn:qDe ren l=none) (habs:qOv lk e l=some (fr,xs)) (hr:RefRd K e l off len wh v):
  PRd w (N' ((fr||e.flat)&&!lo)) (.slice e) (seg xs off len wh) [v]:=by
 rcases qWr habs with hrow|⟨o,hfam,rfl,hx⟩
 rotate_left
 ·rw [Bool.true_or]
  exact (hx A (hsub _ _ hfam) hr (fun gh p g1 g2=>X.gone l _ gh p hL hn (hsub _ _ hfam) g1 g2 true)).1
 have hl:=hsub _ _ (qGc hrow)
 obtain ⟨h1,h2,h3,h4⟩:=qRo A hl hr
 rcases h4 with ⟨rfl,h5,rfl,h6⟩|⟨p,cl,o,cap,k1,rfl,h5,h6,h7,h8⟩
 ·subst h6
  have:seg ([]:List (pden e)) off 0 wh=[]:=wG h1
  rw [this]
  exact ⟨none,0,rfl,ws _, .inl rfl⟩
 ·refine ⟨_,cap,by rw [h1],by omega,?_⟩
  by_cases h0:len=0
  ·exact .inl (wG (by rw [h1,h0]))
  ·right
   have h6':=h6.resolve_left (by omega)
   refine ⟨p.blk,o,_,rfl,X.gone l _ _ p hL hn hl k1 (.inl rfl) _,?_,(qtn (fun _ _=>PRd.length) h8 h3).imp (fun _ _ hp=>?_)⟩
   ·rw [h6'.1]
    exact h7.cells.cut _ _
   ·have h9:PRd w (N' (fr&&!lo)) e _ _:=hp.keep ⟨fun b hb=>⟨X.n _ b hb,rfl⟩⟩
    by_cases hf:e.flat=true
    ·exact PRd.flat hf h9
    ·simp only [Bool.not_eq_true] at hf;rw [hf,Bool.or_false];exact h9
theorem KeepX.bref (X:KeepX c H K K' w ren lo L N') (A:Inv c H K w) (hsub:∀l o,lk l=some o→H l=some o) {e:Ty} {l:Nat} {p:List PS} {n off len:Nat} {fr:Bool} {xs:List (pden e)} {v:Value} (hL:L l) (hn:qDe ren l=none) (hc:qTf lk e (.bref e l p n off len)=some (fr,xs)) (hr:VRd w (NN c H K w) K (.bref e l p n off len) v):
  PRd w (N' (fr&&!lo)) (.slice e) xs [v]:=by
 obtain ⟨A0,cap,rfl,hl,hb⟩:=qku A hsub hc (fun _=>by simp) hr
 have hob:∃obj,lk l=some obj:=by
  simp only [qTf,if_true] at hc
  split at hc
  ·exact ⟨_,by assumption⟩
  ·cases hc
 obtain ⟨obj,hobj⟩:=hob
 obtain ⟨sh,pl,po,k1,k2,k3,o,cap',k4,k5,k6⟩:=hr
 injection k4 with k4 k4' k4''
 subst k4
 refine ⟨_,cap,rfl,hl,hb.imp id ?_⟩
 rintro ⟨b,o',cl,e1,h2,h3,h4⟩
 injection e1 with e1
 injection e1 with e1 e2
 subst e1
 refine ⟨_,o',cl,by rw [e2],X.gone l obj _ pl hL hn (hsub _ _ hobj) k1 k2.has _,h2,h3.imp (fun _ _ q=>q.keep ⟨fun b hb=>⟨X.n _ b hb,rfl⟩⟩)⟩
theorem RefRd.renamed {e:Ty} {l n off len:Nat} {wh:Bool} {v:Value} (h:K' n=K l) (hr:RefRd K e l off len wh v):RefRd K' e n off len wh v:=by
 obtain ⟨m,pl,⟨ps,h1⟩,h2⟩:=hr
 exact ⟨m,pl,⟨ps,h.trans h1⟩,h2⟩
theorem qYv (X:KeepX c H K K' w ren lo L N') (A:Inv c H K w) (hsub:∀l o,lk l=some o→H l=some o):∀{t:Ty} {x y:qgf t} {cs:List Value},(∀l∈qxv t x,L l)→qff lk ren lo t x=some y→ARd w (NN c H K w) K t x cs→ARd w N' K' t y cs
 | .int _,x,y,cs,hL,h,hr=>by simp only [qff,wc] at h;subst h;exact hr
 | .bool,x,y,cs,hL,h,hr=>by simp only [qff,wc] at h;subst h;exact hr
 | .str,x,y,cs,hL,h,hr=>by simp only [qff,wc] at h;subst h;exact hr
 | .arr n e,x,y,cs,hL,h,hr=>by
   simp only [qff,wc] at h;subst h
   exact ⟨hr.1,hr.2.imp (fun _ _ q=>q.keep ⟨fun b hb=>⟨X.n _ b hb,rfl⟩⟩)⟩
 | .pair a b,x,y,cs,hL,h,hr=>by
   simp only [qff] at h
   split at h
   ·rename_i u v e1 e2
    simp only [wc] at h;subst h
    obtain ⟨c1,c2,e,h1,h2⟩:=hr
    simp only [qxv,wba] at hL
    exact ⟨c1,c2,e,qYv X A hsub (fun l hl=>hL l (.inl hl)) e1 h1,qYv X A hsub (fun l hl=>hL l (.inr hl)) e2 h2⟩
   ·cases h
 | .unit,x,y,cs,hL,h,hr=>hr
 | .slice e,x,y,cs,hL,h,hr=>by
   cases x with
   |pure fr xs=>
    simp only [qff,wc] at h;subst h
    exact PRd.keep (t:= .slice e) ⟨fun b hb=>⟨X.n _ b hb,rfl⟩⟩ hr
   |nil=>simp only [qff,wc] at h;subst h;exact hr
   |junk=>simp only [qff,wc] at h;subst h;exact hr
   |lng n=>simp only [qff,wc] at h;subst h;exact hr
   |ref l off len wh=>
    obtain ⟨v,rfl,hr⟩:=hr
    simp only [qff] at h
    split at h
    ·rename_i n hn
     split at h
     ·rename_i hw
      split at h
      ·rename_i fr xs hrow
       simp only [wc] at h;subst h
       obtain ⟨e1,e2⟩:=qNM A hsub hrow hr hw
       subst hw;subst e1;subst e2
       exact ⟨v,rfl,hr.renamed (X.k l n hn)⟩
      ·cases h
     ·simp only [wc] at h;subst h
      exact ⟨v,rfl,hr.renamed (X.k l n hn)⟩
    ·rename_i hn
     split at h
     ·rename_i fr xs hrow
      simp only [wc] at h;subst h
      exact X.row A hsub (hL l (by simp [qxv])) hn hrow hr
     ·cases h
 | .fn,x,y,cs,hL,h,hr=>by simp only [qff,wc] at h;subst h;exact hr
theorem qLD (X:KeepX c H K K' w ren lo L N'):∀{ls ns:List Nat} {vs:List Value},qsx ren ls=some ns→capsRd K ls vs→capsRd K' ns vs
 |[],ns,vs,h,hr=>by simp only [qsx,wc] at h;subst h;exact hr
 |l::ls,ns,vs,h,hr=>by
  simp only [qsx] at h
  split at h
  ·rename_i n ns' e1 e2
   simp only [wc] at h;subst h
   obtain ⟨gh,p,r,h1,h2,h3,h4⟩:=hr
   exact ⟨gh,p,r,(X.k l n e1).trans h1,h2,h3,qLD X e2 h4⟩
  ·cases h
theorem qPB (X:KeepX c H K K' w ren lo L N') (A:Inv c H K w) (hsub:∀l o,lk l=some o→H l=some o) {v v':AV} {u:Value} (hL:∀l∈qjj v,L l) (h:qTg lk ren lo v=some v') (hr:VRd w (NN c H K w) K v u):VRd w N' K' v' u:=by
 have kp:∀fr,Keep w w (NN c H K w fr) (N' (fr&&!lo)):=fun fr=>⟨fun b hb=>⟨X.n fr b hb,rfl⟩⟩
 cases v with
 |agg t x=>
  simp only [qTg] at h
  split at h
  ·rename_i y hy
   simp only [wc] at h;subst h
   obtain ⟨cs,e,h1,h2⟩:=hr
   exact ⟨cs,e,h1,qYv X A hsub hL hy h2⟩
  ·cases h
 |sl e fr xs=>
  simp only [qTg,wc] at h;subst h
  exact PRd.keep (t:= .slice e) (kp fr) hr
 |ref e l off len wh=>
  simp only [qTg] at h
  split at h
  ·rename_i n hn
   split at h
   ·rename_i hw
    split at h
    ·rename_i fr xs hrow
     simp only [wc] at h;subst h
     obtain ⟨e1,e2⟩:=qNM A hsub hrow hr hw
     subst hw;subst e1;subst e2
     exact RefRd.renamed (X.k l n hn) hr
    ·cases h
   ·simp only [wc] at h;subst h
    exact RefRd.renamed (X.k l n hn) hr
  ·rename_i hn
   split at h
   ·rename_i fr xs hrow
    simp only [wc] at h;subst h
    exact X.row A hsub (hL l (by simp [qjj])) hn hrow hr
   ·cases h
 |bref e l p n off len=>
  simp only [qTg] at h
  split at h
  ·rename_i l' hn
   simp only [wc] at h;subst h
   obtain ⟨sh,pl,po,h1,h2⟩:=hr
   exact ⟨sh,pl,po,(X.k l l' hn).trans h1,h2⟩
  ·rename_i hn
   split at h
   ·rename_i fr xs hcn
    simp only [wc] at h;subst h
    exact X.bref A hsub (hL l (by simp [qjj])) hn hcn hr
   ·cases h
 |ptr t l p=>
  simp only [qTg] at h
  split at h
  ·rename_i l' hn
   simp only [wc] at h;subst h
   obtain ⟨sh,pl,po,h1,h2⟩:=hr
   exact ⟨sh,pl,po,(X.k l l' hn).trans h1,h2⟩
  ·cases h
 |ifp T t l p=>
  simp only [qTg] at h
  split at h
  ·rename_i l' hn
   simp only [wc] at h;subst h
   obtain ⟨sh,pl,po,h1,h2⟩:=hr
   exact ⟨sh,pl,po,(X.k l l' hn).trans h1,h2⟩
  ·cases h
 |cslice e l n=>
  simp only [qTg] at h
  split at h
  ·rename_i l' hn
   simp only [wc] at h;subst h
   obtain ⟨pl,h1,h2⟩:=hr
   exact ⟨pl,(X.k l l' hn).trans h1,h2⟩
  ·cases h
 |cptr l=>
  simp only [qTg] at h
  split at h
  ·rename_i l' hn
   simp only [wc] at h;subst h
   obtain ⟨sh,pl,h1,h2⟩:=hr
   exact ⟨sh,pl,(X.k l l' hn).trans h1,h2⟩
  ·cases h
 |mapr l=>
  simp only [qTg] at h
  split at h
  ·rename_i l' hn
   simp only [wc] at h;subst h
   obtain ⟨sh,pl,h1,h2⟩:=hr
   exact ⟨sh,pl,(X.k l l' hn).trans h1,h2⟩
  ·cases h
 |chan l=>
  simp only [qTg] at h
  split at h
  ·rename_i l' hn
   simp only [wc] at h;subst h
   obtain ⟨sh,pl,h1,h2⟩:=hr
   exact ⟨sh,pl,(X.k l l' hn).trans h1,h2⟩
  ·cases h
 |func f caps=>
  simp only [qTg] at h
  split at h
  ·rename_i ns hn
   simp only [wc] at h;subst h
   obtain ⟨vs,h1,h2⟩:=hr
   exact ⟨vs,h1,qLD X hn h2⟩
  ·cases h
 |rptr t fr x=>
  simp only [qTg,wc] at h;subst h
  obtain ⟨b,o,cs,e,h1,h2,h3⟩:=hr
  exact ⟨b,o,cs,e,h1.imp id (fun h=>((kp fr).k b h).1),h2,h3.keep (kp fr)⟩
 |sln e fr xs=>
  simp only [qTg,wc] at h;subst h
  exact PRd.keep (t:= .slice e) (kp fr) hr.1
 |_=>simp only [qTg,wc] at h;subst h;exact hr
theorem qPx (X:KeepX c H K K' w ren lo L N') (A:Inv c H K w) (hsub:∀l o,lk l=some o→H l=some o):∀{vs vs':List AV} {us:List Value},(∀l∈vs.flatMap qjj,L l)→qXe lk ren lo vs=some vs'→VRdL w (NN c H K w) K vs us→VRdL w N' K' vs' us
 |[],vs',us,hL,h,hr=>by simp only [qXe,wc] at h;subst h;exact hr
 |v::vs,vs',us,hL,h,hr=>by
  simp only [qXe] at h
  split at h
  ·rename_i u us' e1 e2
   simp only [wc] at h;subst h
   obtain ⟨x,r,e,h1,h2⟩:=hr
   simp only [wUa,wba] at hL
   exact ⟨x,r,e,qPB X A hsub (fun l hl=>hL l (.inl hl)) e1 h1,qPx X A hsub (fun l hl=>hL l (.inr hl)) e2 h2⟩
  ·cases h
theorem qQx (X:KeepX c H K K' w ren lo L N') (A:Inv c H K w) (hsub:∀l o,lk l=some o→H l=some o) {v v':TV} {u:Value} (hL:∀l∈qUm v,L l) (h:qUq lk ren lo v=some v') (hr:TVRd w (NN c H K w) K v u):TVRd w N' K' v' u:=by
 cases v with
 |one v=>
  simp only [qUq] at h
  split at h
  ·rename_i x hx
   simp only [wc] at h;subst h
   exact qPB X A hsub hL hx hr
  ·cases h
 |tup vs=>
  simp only [qUq] at h
  split at h
  ·rename_i x hx
   simp only [wc] at h;subst h
   obtain ⟨us,e,h1⟩:=hr
   exact ⟨us,e,qPx X A hsub hL hx h1⟩
  ·cases h
theorem qYH (X:KeepX c H K K' w ren lo L N') (A:Inv c H K w) (hsub:∀l o,lk l=some o→H l=some o) {o o':Obj} {gh:Gh} (hL:∀l∈qBr o,L l) (h:qpm lk ren lo o=some o') (hr:ORd w (NN c H K w) K o gh):ORd w N' K' o' gh:=by
 cases o with
 |row e fr xs=>
  simp only [qpm,wc] at h;subst h
  refine ⟨hr.1,?_⟩
  have h2:=hr.2
  revert h2
  cases gh.pl with
  |none=>exact id
  |some p=>
   rintro ⟨cs,h1,h2⟩
   exact ⟨cs,h1,h2.imp (fun _ _ q=>q.keep ⟨fun b hb=>⟨X.n fr b hb,rfl⟩⟩)⟩
 |box t x=>
  simp only [qpm] at h
  split at h
  ·rename_i y hy
   simp only [wc] at h;subst h
   obtain ⟨h1,p,cs,h2,h3,h4⟩:=hr
   exact ⟨h1,p,cs,h2,h3,qYv X A hsub hL hy h4⟩
  ·cases h
 |cell v=>
  simp only [qpm] at h
  split at h
  ·rename_i y hy
   simp only [wc] at h;subst h
   obtain ⟨h1,p,cs,h2,h3,h4⟩:=hr
   exact ⟨h1,p,cs,h2,h3,qPB X A hsub hL hy h4⟩
  ·cases h
 |map k v es=>
  simp only [qpm,wc] at h;subst h
  exact hr
 |chan e fr cap xs cl=>
  simp only [qpm,wc] at h;subst h
  obtain ⟨h1,p,buf,s,r,h2,h3,h4⟩:=hr
  exact ⟨h1,p,buf,s,r,h2,h3,h4.imp (fun _ _ q=>q.keep ⟨fun b hb=>⟨X.n fr b hb,rfl⟩⟩)⟩
 |fam e xss=>
  simp only [qpm,wc] at h;subst h
  exact hr
 |famS a e xs=>
  simp only [qpm,wc] at h;subst h
  exact hr
theorem qDr:∀{qs:List (Nat×Nat)} {l:List (Nat×Option Obj)} {n:Nat} {x:Option Obj},qGd lk ren lo qs=some l→lookL l n=some x→∃m o o',(n,m)∈qs∧lk m=some o∧qpm lk ren lo o=some o'∧x=some o'
 |[],l,t,v,h,hl=>by simp only [qGd,wc] at h;subst h;cases hl
 |a::r,l,n,x,h,hl=>by
  simp only [qGd] at h
  split at h
  ·rename_i o os e1 e2
   split at h
   ·rename_i o' e3
    simp only [wc] at h;subst h
    simp only [lookL] at hl
    split at hl
    ·rename_i e;subst e;simp only [wc] at hl;subst hl
     exact ⟨a.2,o,o',wT,e1,e3,rfl⟩
    ·obtain ⟨m,o2,o3,g1,g2⟩:=qDr e2 hl
     exact ⟨m,o2,o3,wO _ g1,g2⟩
   ·cases h
  ·cases h
end
theorem qRH {P:Program} {w:World} {N:Bool→Nat→Prop} {K:Kn}:∀{ts:List TypeId} {as:List AV} {us:List Value},VRdL w N K as us→VRdL w N K (qnx P ts as) us
 |[],as,us,h=>by simpa only [qnx] using h
 |_::_,[],us,h=>h
 |T::ts,v::r,us,h=>by
  obtain ⟨u,q,e,h1,h2⟩:=h
  refine ⟨u,q,e,?_,qRH h2⟩
  split
  ·simp only [VRd] at h1
   split
   ·exact ⟨none,0,by rw [h1];rfl,ws _, .inl rfl⟩
   ·exact h1
  ·exact h1
end Go.Ab

/-
  Calls: the caller's state behind the call.
-/
set_option linter.unusedVariables false
set_option linter.unusedSimpArgs false
namespace Go.Ab
open Go
theorem qlc {α:Type}:∀{xs:List (Nat×α)} {k:Nat} {v:α},lookL xs k=some v→(k,v)∈xs
 |[],_,_,h=>by cases h
 |(a,b)::xs,k,v,h=>by
  simp only [lookL] at h
  split at h
  ·rename_i e;subst e;simp only [wc] at h;subst h;exact wT
  ·exact wO _ (qlc h)
theorem qah {α:Type}:∀{xs:List (Nat×α)} {k:Nat},k∈xs.map (·.1)→∃v,lookL xs k=some v
 |[],_,h=>by simp at h
 |(a,b)::xs,k,h=>by
  simp only [lookL]
  split
  ·exact ⟨b,rfl⟩
  ·rename_i hne
   simp only [wI,wZ] at h
   exact qah (h.resolve_left (fun e=>hne e.symm))
theorem qte {α:Type} {xs:List (Nat×α)} {k:Nat} {v:α} (h:lookL xs k=some v):k∈xs.map (·.1):=waa.2 ⟨_,qlc h,rfl⟩
theorem qTm {α:Type} {xs:List (Nat×α)} {k:Nat} (h:k ∉ xs.map (·.1)):lookL xs k=none:=by
 cases e:lookL xs k with
 |none=>rfl
 |some v=>exact absurd (qte e) h
theorem qKt {x:Nat} {r:List Nat} (h:qrr (x::r)=true):x ∉ r∧qrr r=true:=by
 simp only [qrr,wA,wRa,wva,decide_eq_false_iff_not] at h
 exact h
theorem qIt:∀{xs:List (Nat×Nat)} {k k' l:Nat},qrr (xs.map (·.2))=true→lookL xs k=some l→lookL xs k'=some l→k=k'
 |[],_,_,_,_,h,_=>by cases h
 |(a,b)::xs,k,k',l,hn,h,h'=>by
  simp only [wI] at hn
  obtain ⟨h1,h2⟩:=qKt hn
  simp only [lookL] at h h'
  split at h
  ·rename_i e
   simp only [wc] at h
   split at h'
   ·rename_i e';exact e.symm.trans e'
   ·exact absurd (waa.2 ⟨_,qlc h',rfl⟩) (h▸h1)
  ·split at h'
   ·simp only [wc] at h'
    exact absurd (waa.2 ⟨_,qlc h,rfl⟩) (h'▸h1)
   ·exact qIt h2 h h'
theorem qJt {α:Type}:∀{xs:List (Nat×α)} {k:Nat} {v:α},qrr (xs.map (·.1))=true→(k,v)∈xs→lookL xs k=some v
 |[],_,_,_,h=>by cases h
 |(a,b)::xs,k,v,hn,h=>by
  simp only [wI] at hn
  obtain ⟨h1,h2⟩:=qKt hn
  simp only [lookL]
  rcases wZ.1 h with e|h
  ·injection e with e1 e2;subst e1;subst e2;simp
  ·rw [if_neg ?_]
   ·exact qJt h2 h
   ·rintro rfl
    exact h1 (waa.2 ⟨_,h,rfl⟩)
theorem qot {ks ls:List Nat}:qvu ks ls=true↔∀l∈ls,l∈ks:=by
 simp [qvu,wva]
theorem qUD {α β:Type} {f:Nat→Nat} {g:α→β}:∀{xs:List (Nat×α)} {k:Nat},(∀j∈xs.map (·.1),f j=f k→j=k)→lookL (xs.map fun p=>(f p.1,g p.2)) (f k)=(lookL xs k).map g
 |[],_,_=>rfl
 |(a,b)::xs,k,h=>by
  simp only [wI,lookL]
  by_cases e:a=k
  ·subst e;simp
  ·rw [if_neg (fun e'=>e (h a (by simp) e')),if_neg e]
   exact qUD (fun j hj=>h j (by simp at hj ⊢;exact .inr hj))
theorem qQq {α β:Type} {f:Nat→Nat} {g:α→β}:∀{xs:List (Nat×α)} {l:Nat},(∀j∈xs.map (·.1),f j≠l)→lookL (xs.map fun p=>(f p.1,g p.2)) l=none
 |[],_,_=>rfl
 |(a,b)::xs,l,h=>by
  simp only [wI,lookL]
  rw [if_neg (h a (by simp))]
  exact qQq (fun j hj=>h j (by simp at hj ⊢;exact .inr hj))
section
variable {c:Cx} {P:Program} {GT:qmi} {H lk:qBc} {K:Kn} {w:World} {ev:Operand→TV} {ρ:Operand→Value} {nl:Nat}
theorem qFM (A:At c P GT H lk K w ev ρ nl) {o:COrc} {F G:Nat→Prop} {Kc K':Kn} {w':World} {v:Value}
  (hk1:(o.ren.map (·.1))=(o.pre.map (·.1))) (hn2:qrr (o.ren.map (·.2))=true) (hn3:qrr (o.post.map (·.1))=true)
  (hq1:∀k∈qUm o.res,k∈o.post.map (·.1)) (hq2:∀k∈(o.post.flatMap fun p=>qBr p.2),k∈o.post.map (·.1))
  (hq3:∀k∈o.post.map (·.1),k∈o.pre.map (·.1)∨(8≤k∧k<16))
  (hold:∀k∈o.pre.map (·.1),∃o' gh,H (qmt nl o.ren k)=some o'∧K (qmt nl o.ren k)=some gh∧Kc k=some gh)
  (hG:∀b,G b→∃k∈o.pre.map (·.1),∃gh p,Kc k=some gh∧Has gh p∧p.blk=b)
  (hF:∀b,F b→b<w.heap.size) (hT:(∀b,F b→NN c H K w false b)∨(frT o.res=true∧∀p∈o.post,frO p.2=true))
  (hK:∀l gh,Kc l=some gh→K' l=some gh) (hI:Inv ⟨w,F,G,(ngOf GT),[]⟩ (lookL o.post) K' w') (hv:TVRd w' (NN ⟨w,F,G,(ngOf GT),[]⟩ (lookL o.post) K' w') K' o.res v):
  ∃K2,Stp c H K w ((o.post.map fun p=>(qmt nl o.ren p.1,some (qgJ (qmt nl o.ren) p.2)))++kill ((o.ren.filter fun q=>!(o.post.map (·.1)).contains q.1).map (·.2))) nl K2 w'∧
   TVRd w' (NN c (qJb H ((o.post.map fun p=>(qmt nl o.ren p.1,some (qgJ (qmt nl o.ren) p.2)))++kill ((o.ren.filter fun q=>!(o.post.map (·.1)).contains q.1).map (·.2)))) K2 w') K2 (qFQ (qmt nl o.ren) o.res) v:=by
 generalize hrn:qmt nl o.ren=rn at*
 generalize hupd:((o.post.map fun p=>(rn p.1,some (qgJ rn p.2)))++kill ((o.ren.filter fun q=>!(o.post.map (·.1)).contains q.1).map (·.2)))=upd
 have hrin:∀k,k∈o.pre.map (·.1)→lookL o.ren k=some (rn k):=fun k hk=>by
  obtain ⟨l,hl⟩:=qah (hk1▸hk:k∈o.ren.map (·.1))
  rw [hl,←hrn];simp [qmt,hl]
 have hrout:∀k,k ∉ o.pre.map (·.1)→rn k=nl+(k - 8):=fun k hk=>by
  rw [←hrn];simp [qmt,qTm (hk1▸hk:k ∉ o.ren.map (·.1))]
 have hnew:∀k,(8≤k∧k<16)→K (nl+(k - 8))=none:=fun k hk=>A.fresh _ (by omega) (by omega)
 have hinj:∀j k,(j∈o.pre.map (·.1)∨(8≤j∧j<16))→(k∈o.pre.map (·.1)∨(8≤k∧k<16))→rn j=rn k→j=k:=by
  intro j k hj hk e
  by_cases j1:j∈o.pre.map (·.1)
  ·by_cases k1:k∈o.pre.map (·.1)
   ·exact qIt hn2 (hrin j j1) (e▸hrin k k1)
   ·obtain ⟨_,gh,_,g,_⟩:=hold j j1
    rw [e,hrout k k1,hnew k (hk.resolve_left k1)] at g;cases g
  ·by_cases k1:k∈o.pre.map (·.1)
   ·obtain ⟨_,gh,_,g,_⟩:=hold k k1
    rw [←e,hrout j j1,hnew j (hj.resolve_left j1)] at g;cases g
   ·rw [hrout j j1,hrout k k1] at e
    have:=hj.resolve_left j1
    have:=hk.resolve_left k1
    omega
 have hinjp:∀j∈o.post.map (·.1),∀k∈o.post.map (·.1),rn j=rn k→j=k:=fun j hj k hk e=>hinj j k (hq3 j hj) (hq3 k hk) e
 let K2:Kn:=fun l=>if nl≤l∧(l - nl+8)∈o.post.map (·.1)∧(l - nl+8) ∉ o.pre.map (·.1) then K' (l - nl+8) else K l
 have hK2n:∀k∈o.post.map (·.1),K2 (rn k)=K' k:=by
  intro k hk
  by_cases k1:k∈o.pre.map (·.1)
  ·obtain ⟨_,gh,_,g1,g2⟩:=hold k k1
   have:¬(nl≤rn k∧(rn k - nl+8)∈o.post.map (·.1)∧(rn k - nl+8) ∉ o.pre.map (·.1)):=by
    rintro ⟨a1,a2,a3⟩
    have:=(hq3 _ a2).resolve_left a3
    have:=hnew _ this
    rw [show nl+(rn k - nl+8 - 8)=rn k by omega,g1] at this;cases this
   simp only [K2,this,if_false,g1,hK k gh g2]
  ·rw [hrout k k1]
   simp only [K2]
   have h8:=(hq3 k hk).resolve_left k1
   have e8:nl+(k - 8) - nl+8=k:=by omega
   rw [if_pos ⟨by omega,by rw [e8];exact hk,by rw [e8];exact k1⟩,e8]
 have hK2o:∀l gh,K l=some gh→K2 l=some gh:=by
  intro l gh hl
  have:¬(nl≤l∧(l - nl+8)∈o.post.map (·.1)∧(l - nl+8) ∉ o.pre.map (·.1)):=by
   rintro ⟨a1,a2,a3⟩
   have:=(hq3 _ a2).resolve_left a3
   have:=hnew _ this
   rw [show nl+(l - nl+8 - 8)=l by omega,hl] at this;cases this
  simp only [K2,this,if_false,hl]
 have hfresh:∀l,K2 l=K l∨(nl≤l∧l<nl+8):=by
  intro l
  simp only [K2]
  split
  ·rename_i h
   have:=(hq3 _ h.2.1).resolve_left h.2.2
   exact .inr ⟨h.1,by omega⟩
  ·exact .inl rfl
 have hU1:∀k ob,lookL o.post k=some ob→qJb H upd (rn k)=some (qgJ rn ob):=by
  intro k ob hk
  simp only [qJb,←hupd,qbh]
  have:=qUD (f:=rn) (g:=fun x=>some (qgJ rn x)) (xs:=o.post) (k:=k) (fun j hj e=>hinjp j hj k (qte hk) e)
  rw [this,hk];rfl
 have hU2:∀l ob,qJb H upd l=some ob→(∃k ok,lookL o.post k=some ok∧l=rn k∧ob=qgJ rn ok)∨(H l=some ob∧∀k∈o.pre.map (·.1),rn k≠l):=by
  intro l ob hl
  by_cases hp:∃k∈o.post.map (·.1),rn k=l
  ·obtain ⟨k,hk,rfl⟩:=hp
   obtain ⟨ok,hok⟩:=qah hk
   rw [hU1 k ok hok] at hl
   simp only [wc] at hl
   exact .inl ⟨k,ok,hok,rfl,hl.symm⟩
  ·right
   have hp':∀j∈o.post.map (·.1),rn j≠l:=fun j hj e=>hp ⟨j,hj,e⟩
   simp only [qJb,←hupd,qbh] at hl
   rw [qQq (f:=rn) (g:=fun x=>some (qgJ rn x)) hp'] at hl
   simp only at hl
   cases hd:lookL (kill ((o.ren.filter fun q=>!(o.post.map (·.1)).contains q.1).map (·.2))) l with
   |some x=>
    rw [hd] at hl
    have:=(qSm hd).1
    subst this;cases hl
   |none=>
    rw [hd] at hl
    refine ⟨hl,fun k hk e=>?_⟩
    have hkp:k ∉ o.post.map (·.1):=fun h=>hp' k h e
    have:l∈((o.ren.filter fun q=>!(o.post.map (·.1)).contains q.1).map (·.2)):=by
     refine waa.2 ⟨(k,l),List.mem_filter.2 ⟨?_,by simpa using hkp⟩,rfl⟩
     have:=qlc (hrin k hk)
     rw [e] at this;exact this
    rw [qHx this] at hd;cases hd
 have hGb:∀b,G b→qqc H K b:=by
  intro b hb
  obtain ⟨k,hk,gh,p,g1,g2,g3⟩:=hG b hb
  obtain ⟨o',gh',h1,h2,h3⟩:=hold k hk
  rw [g1] at h3;injection h3 with h3;subst h3
  exact ⟨rn k,o',gh,p,h1,h2,g2,g3⟩
 have hsame:∀b,b<w.heap.size→¬G b→w'.heap[b]?=w.heap[b]?:=fun b h1 h2=>hI.fr.block b h1 h2
 have hsz:=hI.fr.size
 simp only at hsz
 have hlive:∀b,b<w.heap.size→qqc (qJb H upd) K2 b→qqc H K b:=by
  rintro b hb ⟨l,ob,gh,p,h1,h2,h3,h4⟩
  rcases hU2 l ob h1 with ⟨k,ok,q1,rfl,q3⟩|⟨q1,q2⟩
  ·rw [hK2n k (qte q1)] at h2
   rcases (hI.own k ok gh p q1 h2 h3).2.1 with h5|h5
   ·simp only at h5;omega
   ·exact hGb b (h4▸h5)
  ·obtain ⟨gh',g1,_⟩:=A.inv.objs l ob q1
   rw [hK2o l gh' g1] at h2;injection h2 with h2;subst h2
   exact ⟨l,ob,gh',p,q1,g1,h3,h4⟩
 have hkk:KeepK w w' (NN c H K w) (NN c (qJb H upd) K2 w') K K2:=
  ⟨fun fr=>⟨fun b hb=>⟨⟨by have:=hb.1;omega,fun hn=>hb.2.1 (hlive b hb.1 hn),hb.2.2⟩,hsame b hb.1 (fun hg=>hb.2.1 (hGb b hg))⟩⟩,hK2o⟩
 have hw0:=A.inv.fr.size
 have hnotlive:∀b,¬qqc (lookL o.post) K' b→(w.heap.size≤b∨G b∨¬qqc H K b)→¬qqc (qJb H upd) K2 b:=by
  rintro b hb hb2 ⟨l,ob,gh,p,h1,h2,h3,h4⟩
  rcases hU2 l ob h1 with ⟨k,ok,q1,rfl,q3⟩|⟨q1,q2⟩
  ·rw [hK2n k (qte q1)] at h2
   exact hb ⟨k,ok,gh,p,q1,h2,h3,h4⟩
  ·obtain ⟨gh',g1,_⟩:=A.inv.objs l ob q1
   rw [hK2o l gh' g1] at h2;injection h2 with h2;subst h2
   have hlt:=(A.inv.own l ob gh' p q1 g1 h3).1
   rcases hb2 with h5|h5|h5
   ·omega
   ·obtain ⟨k,hk,gh2,p2,a1,a2,a3⟩:=hG b h5
    obtain ⟨o',gh3,b1,b2,b3⟩:=hold k hk
    rw [a1] at b3;injection b3 with b3;subst b3
    exact q2 k hk (A.inv.inj (rn k) l o' ob gh2 gh' p2 p b1 q1 b2 g1 a2 h3 (by rw [a3,h4]))
   ·exact h5 ⟨l,ob,gh',p,q1,g1,h3,h4⟩
 have hGown:∀b,G b→c.w0.heap.size≤b∨c.G b:=by
  intro b hb
  obtain ⟨l,ob,gh,p,h1,h2,h3,h4⟩:=hGb b hb
  rw [←h4];exact (A.inv.own l ob gh p h1 h2 h3).2.1
 have hNt:∀b,NN ⟨w,F,G,(ngOf GT),[]⟩ (lookL o.post) K' w' true b→NN c (qJb H upd) K2 w' true b:=by
  rintro b ⟨h1,h2,h3⟩
  simp only [Bool.true_eq_false,false_and,or_false] at h3
  refine ⟨h1,hnotlive b h2 (h3.imp id .inl),?_⟩
  rcases h3 with h3|h3
  ·exact .inl (by omega)
  ·exact (hGown b h3).imp id .inl
 have hNf:(∀b,F b→NN c H K w false b)→∀b,NN ⟨w,F,G,(ngOf GT),[]⟩ (lookL o.post) K' w' false b→NN c (qJb H upd) K2 w' false b:=by
  rintro hF2 b ⟨h1,h2,h3⟩
  rcases h3 with h3|h3|⟨_,h3|h3⟩
  ·exact ⟨h1,hnotlive b h2 (.inl h3), .inl (by simp only at h3;omega)⟩
  ·exact ⟨h1,hnotlive b h2 (.inr (.inl h3)),(hGown b h3).imp id .inl⟩
  ·have:=hF2 b h3
   exact ⟨h1,hnotlive b h2 (.inr (.inr this.2.1)),this.2.2⟩
  ·simp only at h3
   have hng:b<c.ng:=by rw [A.gng];exact h3
   refine ⟨h1,hnotlive b h2 (.inr (.inr ?_)), .inr (.inr ⟨rfl, .inr hng⟩)⟩
   rintro ⟨l,ob,gh,p,q1,q2,q3,q4⟩
   have:=(A.inv.own l ob gh p q1 q2 q3).2.2
   omega
 have hway:∃N1:Bool→Nat→Prop,TVRd w' N1 K' o.res v∧(∀k ob,lookL o.post k=some ob→∀gh,K' k=some gh→ORd w' N1 K' ob gh)∧∀fr b,N1 fr b→NN c (qJb H upd) K2 w' fr b:=by
  rcases hT with hT|⟨hT1,hT2⟩
  ·refine ⟨_,hv,fun k ob hk gh hg=>?_,fun fr b hb=>by cases fr <;> first|exact hNf hT b hb|exact hNt b hb⟩
   obtain ⟨gh',g1,g2⟩:=hI.objs k ob hk
   rw [hg] at g1;injection g1 with g1;subst g1;exact g2
  ·refine ⟨_,qoR hT1 hv,fun k ob hk gh hg=>?_,fun fr b hb=>by cases fr <;> first|exact hNt b hb|exact uj b (hNt b hb)⟩
   obtain ⟨gh',g1,g2⟩:=hI.objs k ob hk
   rw [hg] at g1;injection g1 with g1;subst g1
   exact qpR (hT2 _ (qlc hk)) g2
 obtain ⟨N1,hr1,hr2,hr3⟩:=hway
 have hk1':KeepK w' w' N1 (NN c (qJb H upd) K2 w') K2 K2:=⟨fun fr=>⟨fun b hb=>⟨hr3 fr b hb,rfl⟩⟩,fun _ _ h=>h⟩
 refine ⟨K2,⟨⟨fun l ob hl=>?_,fun l ob gh p h1 h2 h3=>?_,fun l l' ob ob' gh gh' p p' h1 h2 h3 h4 h5 h6 h7=>?_,?_⟩,hkk,hfresh,hsz⟩,?_⟩
 ·rcases hU2 l ob hl with ⟨k,ok,q1,rfl,rfl⟩|⟨q1,q2⟩
  ·obtain ⟨gh,g1,_⟩:=hI.objs k ok q1
   refine ⟨gh,by rw [hK2n k (qte q1)];exact g1,?_⟩
   refine ORd.keep hk1' (fun _ _=>rfl) ((qMF (K:=K2) (K':=K') (fun j hj=>?_)).2 (hr2 k ok q1 gh g1))
   exact (hK2n j (hq2 j (List.mem_flatMap.2 ⟨_,qlc q1,hj⟩))).symm
  ·obtain ⟨gh,g1,g2⟩:=A.inv.objs l ob q1
   refine ⟨gh,hK2o l gh g1,g2.keep hkk (fun p hp=>hsame _ (A.inv.own l ob gh p q1 g1 hp).1 (fun hg=>?_))⟩
   obtain ⟨k,hk,gh2,p2,a1,a2,a3⟩:=hG _ hg
   obtain ⟨o',gh3,b1,b2,b3⟩:=hold k hk
   rw [a1] at b3;injection b3 with b3;subst b3
   exact q2 k hk (A.inv.inj (rn k) l o' ob gh2 gh p2 p b1 q1 b2 g1 a2 hp a3)
 ·rcases hU2 l ob h1 with ⟨k,ok,q1,rfl,rfl⟩|⟨q1,q2⟩
  ·rw [hK2n k (qte q1)] at h2
   have:=hI.own k ok gh p q1 h2 h3
   refine ⟨this.1,?_,by rw [A.gng];exact this.2.2⟩
   rcases this.2.1 with h5|h5
   ·exact .inl (by simp only at h5;omega)
   ·exact hGown _ h5
  ·obtain ⟨gh',g1,_⟩:=A.inv.objs l ob q1
   rw [hK2o l gh' g1] at h2;injection h2 with h2;subst h2
   have:=A.inv.own l ob gh' p q1 g1 h3
   exact ⟨by omega,this.2⟩
 ·rcases hU2 l ob h1 with ⟨k,ok,q1,rfl,rfl⟩|⟨q1,q2⟩
  ·rw [hK2n k (qte q1)] at h3
   rcases hU2 l' ob' h2 with ⟨k',ok',r1,rfl,rfl⟩|⟨r1,r2⟩
   ·rw [hK2n k' (qte r1)] at h4
    rw [hI.inj k k' ok ok' gh gh' p p' q1 r1 h3 h4 h5 h6 h7]
   ·exfalso
    obtain ⟨gh2,g1,_⟩:=A.inv.objs l' ob' r1
    rw [hK2o l' gh2 g1] at h4;injection h4 with h4;subst h4
    have hlt:=(A.inv.own l' ob' gh2 p' r1 g1 h6).1
    rcases (hI.own k ok gh p q1 h3 h5).2.1 with h8|h8
    ·simp only at h8;omega
    ·obtain ⟨k2,hk2,gh3,p3,a1,a2,a3⟩:=hG _ h8
     obtain ⟨o',gh4,b1,b2,b3⟩:=hold k2 hk2
     rw [a1] at b3;injection b3 with b3;subst b3
     exact r2 k2 hk2 (A.inv.inj (rn k2) l' o' ob' gh3 gh2 p3 p' b1 r1 b2 g1 a2 h6 (by rw [a3,h7]))
  ·obtain ⟨gh2,g1,_⟩:=A.inv.objs l ob q1
   rw [hK2o l gh2 g1] at h3;injection h3 with h3;subst h3
   rcases hU2 l' ob' h2 with ⟨k',ok',r1,rfl,rfl⟩|⟨r1,r2⟩
   ·exfalso
    rw [hK2n k' (qte r1)] at h4
    have hlt:=(A.inv.own l ob gh2 p q1 g1 h5).1
    rcases (hI.own k' ok' gh' p' r1 h4 h6).2.1 with h8|h8
    ·simp only at h8;omega
    ·obtain ⟨k2,hk2,gh3,p3,a1,a2,a3⟩:=hG _ h8
     obtain ⟨o',gh4,b1,b2,b3⟩:=hold k2 hk2
     rw [a1] at b3;injection b3 with b3;subst b3
     exact q2 k2 hk2 (A.inv.inj (rn k2) l o' ob gh3 gh2 p3 p b1 q1 b2 g1 a2 h5 (by rw [a3,h7]))
   ·obtain ⟨gh3,g2,_⟩:=A.inv.objs l' ob' r1
    rw [hK2o l' gh3 g2] at h4;injection h4 with h4;subst h4
    exact A.inv.inj l l' ob ob' gh2 gh3 p p' q1 r1 g1 g2 h5 h6 h7
 ·refine ⟨hI.fr.os.trans A.inv.fr.os,hI.fr.tape.trans A.inv.fr.tape,hI.fr.output.trans A.inv.fr.output,by omega,fun k h1 h2=>?_⟩
  rw [hsame k (by omega) (fun hg=>?_)]
  ·exact A.inv.fr.block k h1 h2
  ·rcases hGown k hg with h3|h3
   ·omega
   ·exact h2 h3
 ·refine TVRd.keep hk1' ((qLF (K:=K2) (K':=K') (fun j hj=>?_)).2 hr1)
  exact (hK2n j (hq1 j hj)).symm
theorem qJx {k:Nat} {o:Obj}:∀{rs:List (Nat×Obj)},lookL rs k=some o→lookL (qRc rs) k=some (some o)
 |[],h=>by cases h
 |(a,b)::r,h=>by
  simp only [qRc,wI,lookL] at h ⊢
  split at h
  ·rename_i e;subst e;simp only [wc] at h;subst h;simp
  ·rename_i e;rw [if_neg e];exact qJx h
theorem qVJ (A:At c P GT H lk K w ev ρ nl) {o:COrc} {f:Nat} {vs:List AV} {us:List Value} (hv:VRdL w (NN c H K w) K vs us) {out:Out} (h:qKy P GT lk nl f vs o=some out) (hc:qqh out.conds):
  qer P f us.toArray w (Lands c H K w nl out):=by
 unfold qKy at h
 simp only at h
 split at h
 ·rename_i pv hl hpv hhs
  split at h
  ·rename_i hok
   simp only [wc] at h;subst h
   obtain ⟨c1,c3,c2,_⟩:=hc
   simp only [qkP,wA,beq_iff_eq,wyb] at hok
   obtain ⟨⟨⟨⟨⟨⟨⟨⟨⟨k1,k2⟩,k3⟩,k4⟩,k5⟩,k6⟩,k7⟩,k8⟩,k9⟩,k10⟩:=hok
   rw [qot] at k5 k6 k7 k8
   have hq3:∀k∈o.post.map (·.1),k∈o.pre.map (·.1)∨(8≤k∧k<16):=by
    intro k hk
    have:=wwa.1 k9 k hk
    simpa [wva] using this
   let Kc:Kn:=fun k=>if k∈o.pre.map (·.1) then K (qmt nl o.ren k) else none
   have hKc:∀k∈o.pre.map (·.1),Kc k=K (qmt nl o.ren k):=fun k hk=>by simp only [Kc,hk,if_true]
   have hrn:∀k l,(k,l)∈o.ren→qmt nl o.ren k=l:=by
    intro k l hm
    simp [qmt,qJt (k1▸k2:qrr (o.ren.map (·.1))=true) hm]
   have hget:∀k ob,lookL o.pre k=some ob→∃o' gh,H (qmt nl o.ren k)=some o'∧K (qmt nl o.ren k)=some gh∧Kc k=some gh∧ORd w (NN c H K w) K o' gh∧qpm lk o.ren true o'=some ob∧(k,qmt nl o.ren k)∈o.ren∧lk (qmt nl o.ren k)=some o':=by
    intro k ob hk
    obtain ⟨m,o1,o2,g1,g2,g3,g4⟩:=qDr hhs (c3▸qJx hk)
    injection g4 with g4;subst g4
    rw [hrn k m g1]
    obtain ⟨gh,e1,e2⟩:=A.inv.objs _ o1 (A.sub _ _ g2)
    exact ⟨o1,gh,A.sub _ _ g2,e1,by rw [hKc k (qte hk),hrn k m g1];exact e1,e2,g3,g1,g2⟩
   have hold:∀k∈o.pre.map (·.1),∃o' gh,H (qmt nl o.ren k)=some o'∧K (qmt nl o.ren k)=some gh∧Kc k=some gh:=by
    intro k hk
    obtain ⟨ob,hob⟩:=qah hk
    obtain ⟨o',gh,h1,h2,h3,_⟩:=hget k ob hob
    exact ⟨o',gh,h1,h2,h3⟩
   let G:Nat→Prop:=fun b=>qqc (lookL o.pre) Kc b
   have hGk:∀b,G b→∃k∈o.pre.map (·.1),∃gh p,Kc k=some gh∧Has gh p∧p.blk=b:=by
    rintro b ⟨k,ob,gh,p,h1,h2,h3,h4⟩
    exact ⟨k,qte h1,gh,p,h2,h3,h4⟩
   have hrin:∀k,k∈o.pre.map (·.1)→lookL o.ren k=some (qmt nl o.ren k):=fun k hk=>by
    obtain ⟨l,hl⟩:=qah (k1▸hk:k∈o.ren.map (·.1))
    rw [hl];simp [qmt,hl]
   have hlivec:∀b,qqc (lookL o.pre) Kc b→qqc H K b:=by
    rintro b ⟨k,ob,gh,p,h1,h2,h3,h4⟩
    obtain ⟨o',gh',g1,g2,g3,_⟩:=hget k ob h1
    rw [h2] at g3;injection g3 with g3;subst g3
    exact ⟨_,o',gh,p,g1,g2,h3,h4⟩
   let L:Nat→Prop:=fun l=>l∈vs.flatMap qjj∨∃q∈o.ren,∃ob,lk q.2=some ob∧l∈qBr ob
   have S1:=Stp.kill A.inv nl (qBi lk vs o)
   have hD:∀l,l∈qBi lk vs o→l ∉ o.ren.map (·.2):=by
    intro l hl
    unfold qBi at hl
    split at hl
    ·have:=(List.mem_filter.1 hl).2
     simpa [wva] using this
    ·cases hl
   have hH1:∀l,l ∉ qBi lk vs o→qJb H (Ab.kill (qBi lk vs o)) l=H l:=by
    intro l hl
    simp only [qJb]
    cases hd:lookL (Ab.kill (qBi lk vs o)) l with
    |none=>rfl
    |some x=>exact absurd (qQt hd) hl
   obtain ⟨F,hF1,hF2,hF3,hT⟩:∃F:Nat→Prop,(∀b,F b→b<w.heap.size)∧(∀b,NN c H K w false b→F b)∧(∀l ob gh p,L l→l ∉ o.ren.map (·.2)→H l=some ob→K l=some gh→Has gh p→F p.blk)∧((∀b,F b→NN c (qJb H (Ab.kill (qBi lk vs o))) K w false b)∨(frT o.res=true∧∀p∈o.post,frO p.2=true)):=by
    rcases k10 with (⟨a2,a3⟩|a1)|a4
    ·exact ⟨fun b=>b<w.heap.size,fun b hb=>hb,fun b hb=>hb.1,fun l ob gh p _ _ h1 h2 h3=>(A.inv.own l ob gh p h1 h2 h3).1, .inr ⟨a2,fun p hp=>wwa.1 a3 p hp⟩⟩
    ·refine ⟨fun b=>NN c H K w false b,fun b hb=>hb.1,fun b hb=>hb,fun l ob gh p hl hn=>absurd ?_ hn, .inl (fun b hb=>hb.killed)⟩
     simp only [qcF,wA] at a1
     obtain ⟨a1,a2⟩:=a1
     rw [qot] at a1
     rcases hl with hl|⟨q,hq,ob,hob,hl⟩
     ·exact a1 l hl
     ·have:=wwa.1 a2 q hq
      rw [hob] at this
      simp only [qot] at this
      exact this l hl
    ·refine ⟨fun b=>NN c (qJb H (Ab.kill (qBi lk vs o))) K w false b,fun b hb=>hb.1,fun b hb=>hb.killed,fun l ob gh p hl hn h1 h2 h3=>NN.kill A.inv h1 h2 h3 ?_ false, .inl (fun b hb=>hb)⟩
     unfold qBi
     rw [if_pos a4]
     refine List.mem_filter.2 ⟨wba.2 ?_,by simpa [wva] using hn⟩
     rcases hl with hl|⟨q,hq,ob,hob,hl⟩
     ·exact .inl hl
     ·exact .inr (List.mem_flatMap.2 ⟨q,hq,by rw [hob];exact hl⟩)
   have hNc:∀b,NN c H K w false b→NN ⟨w,F,G,(ngOf GT),[]⟩ (lookL o.pre) Kc w false b:=fun b hb=>
    ⟨hb.1,fun hn=>hb.2.1 (hlivec b hn), .inr (.inr ⟨rfl, .inl (hF2 b hb)⟩)⟩
   have X:KeepX c H K Kc w o.ren true L (NN ⟨w,F,G,(ngOf GT),[]⟩ (lookL o.pre) Kc w):=by
    refine ⟨fun fr b hb=>?_,fun l n hn=>?_,fun l ob gh p hL hn h1 h2 h3 fr=>?_⟩
    ·have:NN c H K w false b:=by cases fr <;> first|exact hb|exact uj b hb
     simpa using hNc b this
    ·have hm:=qrx hn
     have hk:n∈o.pre.map (·.1):=k1▸waa.2 ⟨_,hm,rfl⟩
     rw [hKc n hk,hrn n l hm]
    ·have hown:=A.inv.own l ob gh p h1 h2 h3
     simp only [Bool.not_true,Bool.and_false]
     refine ⟨hown.1,?_, .inr (.inr ⟨rfl, .inl ?_⟩)⟩
     ·rintro ⟨k,ob',gh',p',g1,g2,g3,g4⟩
      obtain ⟨o',gh2,e1,e2,e3,_,_,e4,_⟩:=hget k ob' g1
      rw [g2] at e3;injection e3 with e3;subst e3
      have:=A.inv.inj _ _ o' ob gh' gh p' p e1 h1 e2 h2 g3 h3 g4
      rw [this] at e4
      exact qgq hn k e4
     ·refine hF3 l ob gh p hL (fun hm=>?_) h1 h2 h3
      obtain ⟨q,hq,e⟩:=waa.1 hm
      obtain ⟨a,b⟩:=q
      simp only at e;subst e
      exact absurd hq (qgq hn a)
   have hinv:Inv ⟨w,F,G,(ngOf GT),[]⟩ (lookL o.pre) Kc w:=by
    refine ⟨fun k ob hk=>?_,fun k ob gh p h1 h2 h3=>?_,fun k k' ob ob' gh gh' p p' h1 h2 h3 h4 h5 h6 h7=>?_,⟨rfl,rfl,rfl,ws _,fun _ _ _=>rfl⟩⟩
    ·obtain ⟨o',gh,g1,g2,g3,g4,g5,g6,g7⟩:=hget k ob hk
     exact ⟨gh,g3,qYH X A.inv A.sub (fun l hl=> .inr ⟨_,g6,o',g7,hl⟩) g5 g4⟩
    ·obtain ⟨o',gh',g1,g2,g3,_⟩:=hget k ob h1
     rw [h2] at g3;injection g3 with g3;subst g3
     have:=A.inv.own _ o' gh p g1 g2 h3
     exact ⟨this.1, .inr ⟨k,ob,gh,p,h1,h2,h3,rfl⟩,by rw [←A.gng];exact this.2.2⟩
    ·obtain ⟨o1,gh1,g1,g2,g3,_⟩:=hget k ob h1
     obtain ⟨o2,gh2,i1,i2,i3,_⟩:=hget k' ob' h2
     rw [h3] at g3;injection g3 with g3;subst g3
     rw [h4] at i3;injection i3 with i3;subst i3
     have e:=A.inv.inj _ _ o1 o2 gh gh' p p' g1 i1 g2 i2 h5 h6 h7
     have r1:=hrin k (qte h1)
     have r2:=hrin k' (qte h2)
     rw [←e] at r2
     exact qIt k3 r1 r2
   have hargs:VRdL w (NN ⟨w,F,G,(ngOf GT),[]⟩ (lookL o.pre) Kc w) Kc o.args us:=by
    have h0:=qPx X A.inv A.sub (fun l hl=> .inl hl) hpv hv
    rcases c1 with c1|c1
    ·rw [c1];exact qRH h0
    ·rw [c1];exact h0
   have hcall:=c2 w F G Kc us A.glob hinv (fun b hb=>hb) (fun k hk=>by
    have:k ∉ o.pre.map (·.1):=fun h=>by obtain ⟨v,hv⟩:=qah h;rw [hk] at hv;cases hv
    simp only [Kc,this,if_false]) hF1 hargs
   have hfin:∀v w',(∃K',(∀l gh,Kc l=some gh→K' l=some gh)∧Inv ⟨w,F,G,(ngOf GT),[]⟩ (lookL o.post) K' w'∧TVRd w' (NN ⟨w,F,G,(ngOf GT),[]⟩ (lookL o.post) K' w') K' o.res v)→
     Lands c H K w nl ⟨qFQ (qmt nl o.ren) o.res,((o.post.map fun p=>(qmt nl o.ren p.1,some (qgJ (qmt nl o.ren) p.2)))++kill ((o.ren.filter fun q=>!(o.post.map (·.1)).contains q.1).map (·.2)))++kill (qBi lk vs o),[o.args=qnx P (qul P f) pv∨o.args=pv,hl=qRc o.pre,CallOK P GT f o.args o.pre o.res o.post]⟩ v w':=by
    rintro v w' ⟨K',g1,g2,g3⟩
    have A1:At c P GT (qJb H (Ab.kill (qBi lk vs o))) (fun _=>none) K w (fun _=> .one .undef) ρ nl:=
     ⟨S1.inv,fun l o h=>(by cases h),fun _=>trivial,A.fresh,A.ng,A.glob,A.gng⟩
    have hold1:∀k∈o.pre.map (·.1),∃o' gh,qJb H (Ab.kill (qBi lk vs o)) (qmt nl o.ren k)=some o'∧K (qmt nl o.ren k)=some gh∧Kc k=some gh:=by
     intro k hk
     obtain ⟨o',gh,b1,b2⟩:=hold k hk
     refine ⟨o',gh,?_,b2⟩
     rw [hH1 _ (fun hm=>hD _ hm (waa.2 ⟨_,qlc (hrin k hk),rfl⟩))]
     exact b1
    obtain ⟨K2,S2,hv2⟩:=qFM A1 k1 k3 k4 k7 k8 hq3 hold1 hGk hF1 hT g1 g2 g3
    refine ⟨K2,S1.trans S2,?_⟩
    simp only
    rw [qsi]
    exact hv2
   unfold qer at hcall ⊢
   split at hcall
   ·exact hfin _ _ hcall
   ·refine hcall.mono ?_
    rintro e w' ⟨v,e1,h2⟩
    exact ⟨v,e1,hfin v w' h2⟩
   ·exact hcall
  ·cases h
 ·cases h
theorem qMG (A:Inv c H K w) (hsub:∀l o,lk l=some o→H l=some o):∀{ls:List Nat} {as:List AV} {vs:List Value},qZs lk ls=some as→capsRd K ls vs→VRdL w (NN c H K w) K as vs
 |[],as,vs,h,hr=>by simp only [qZs,wc] at h;subst h;exact hr
 |l::ls,as,vs,h,hr=>by
  obtain ⟨gh,p,r,g1,g2,rfl,g3⟩:=hr
  simp only [qZs] at h
  split at h
  ·rename_i t x vs' h1 h2
   simp only [wc] at h;subst h
   obtain ⟨gh',e1,e2,_⟩:=A.objs l _ (hsub _ _ h1)
   rw [g1] at e1;injection e1 with e1;subst e1
   obtain ⟨sh,pl⟩:=gh
   simp only at g2 e2;subst g2;subst e2
   exact ⟨_,r,rfl,⟨_,p,0,g1, .inl ⟨rfl,by simp [qDm,qLa]⟩,by simp⟩,qMG A hsub h2 g3⟩
  ·rename_i v vs' h1 h2
   simp only [wc] at h;subst h
   obtain ⟨gh',e1,e2,_⟩:=A.objs l _ (hsub _ _ h1)
   rw [g1] at e1;injection e1 with e1;subst e1
   obtain ⟨sh,pl⟩:=gh
   simp only at g2 e2;subst g2;subst e2
   exact ⟨_,r,rfl,⟨.cell,p,g1,rfl⟩,qMG A hsub h2 g3⟩
  ·cases h
theorem VRdL.append {N:Bool→Nat→Prop}:∀{as bs:List AV} {us vs:List Value},VRdL w N K as us→VRdL w N K bs vs→VRdL w N K (as++bs) (us++vs)
 |[],_,_,_,h,h'=>by simp only [VRdL] at h;subst h;exact h'
 |a::as,bs,us,vs,h,h'=>by
  obtain ⟨v,r,rfl,h1,h2⟩:=h
  exact ⟨v,r++vs,rfl,h1,h2.append h'⟩
theorem qtM (A:At c P GT H lk K w ev ρ nl) {o:Oper} {f:Operand} {args:Array Operand} {ats:Array TypeId} (ho:o.op= .call {callee:= .value f,args:=args,argTypes:=ats}) {orc:Option COrc} {out:Out} (h:qYb P GT ev lk nl orc o.type o.op=some out) (hc:qqh out.conds):
  Does P o ρ w (Lands c H K w nl out):=by
 rw [ho] at h
 simp only [qYb] at h
 split at h
 ·rename_i g caps vs oc hf hvs
  split at h
  ·rename_i cs hcs
   obtain ⟨cvs,h1,h2⟩:=A.one hf
   have hv:=(qJA A hvs).append (qMG A.inv A.sub hcs h2)
   have hcall:=qVJ A hv h hc
   have harr:((args.map ρ)++cvs.toArray)=(args.toList.map ρ++cvs).toArray:=by apply wYa;simp
   have hex:(execOp ρ o).run P w=(callFunc g (args.toList.map ρ++cvs).toArray).run P w:=by
    simp only [execOp,ho,resolve,h1,Deferred.ofValue,invoke,pure_bind]
    rw [←harr]
    simp
   unfold Does
   rw [hex]
   unfold qer at hcall
   revert hcall
   generalize (callFunc g (args.toList.map ρ++cvs).toArray).run P w=r
   intro hcall
   split at hcall
   ·exact hcall
   ·exact hcall
   ·exact hcall.elim
  ·cases h
 ·cases h
end
end Go.Ab

/-
  Maps of keys that are compared part by part.
-/
set_option linter.unusedVariables false
set_option linter.unusedSimpArgs false
namespace Go.Ab
open Go
theorem qiw (bs:ByteArray):∀(d i:Nat) (r:List UInt8),bs.size - i=d→ByteArray.toList.loop bs i r=r.reverse++bs.data.toList.drop i
 |0,i,r,h=>by
  have hs:bs.size=bs.data.toList.length:=by cases bs;simp [ByteArray.size]
  rw [ByteArray.toList.loop,if_neg (by omega),List.drop_of_length_le (by omega),List.append_nil]
 |d+1,i,r,h=>by
  have hs:bs.size=bs.data.toList.length:=by cases bs;simp [ByteArray.size]
  have hi:i<bs.data.toList.length:=by omega
  rw [ByteArray.toList.loop,if_pos (by omega),qiw bs d (i+1) _ (by omega),List.drop_eq_getElem_cons hi]
  have hg:bs.get! i=bs.data.toList[i]:=by
   cases bs with
   |mk a=>
    have hi':i<a.size:=by simpa using hi
    show a[i]! =_
    rw [getElem!_pos a i hi']
    simp
  rw [hg]
  simp
theorem qjw (bs:ByteArray):wja bs=bs.data.toList:=by
 rw [wja,qiw bs bs.size 0 [] (by omega)];simp
theorem toList_inj {a b:ByteArray} (h:wja a=wja b):a=b:=by
 have h1:a.data.toList=b.data.toList:=by
  rw [←qjw,←qjw];exact h
 cases a;cases b
 simp only [ByteArray.mk.injEq]
 exact Array.toList_inj.1 h1
theorem qYE (a b:ByteArray):(a==b)=decide (a=b):=by
 cases a with|mk a=>cases b with|mk b=>
 show (a==b)=_
 by_cases h:a=b
 ·subst h;simp
 ·simp [h]
mutual
theorem qAH:∀{t:Ty} {x y:pden t},qDg t=true→peq t x y=true→x=y
 | .int _,x,y,_,h=>by simpa [peq] using h
 | .bool,x,y,_,h=>by simpa [peq] using h
 | .str,x,y,_,h=>toList_inj (by simpa [peq] using h)
 | .arr n e,x,y,hc,h=>qeL hc h
 | .pair a b,x,y,hc,h=>by
   simp only [qDg,wA] at hc
   simp only [peq,wA] at h
   exact Prod.ext (qAH hc.1 h.1) (qAH hc.2 h.2)
 | .unit,x,y,_,_=>rfl
theorem qeL {e:Ty}:∀{xs ys:List (pden e)},qDg e=true→qSC (peq e) xs ys=true→xs=ys
 |[],[],_,_=>rfl
 |[],_::_,_,h=>by simp [qSC] at h
 |_::_,[],_,h=>by simp [qSC] at h
 |x::xs,y::ys,hc,h=>by
  simp only [qSC,wA] at h
  rw [qAH hc h.1,qeL hc h.2]
end
section
variable {w:World} {N:Nat→Prop}
theorem qEM {α:Type} {R:α→List Value→Prop} (hR:∀x a b,R x a→R x b→a=b):∀{xs:List α} {a b:List Value},Cat R xs a→Cat R xs b→a=b
 |[],_,_,h1,h2=>by simp only [Cat] at h1 h2;rw [h1,h2]
 |x::xs,_,_,h1,h2=>by
  obtain ⟨a1,a2,rfl,p1,p2⟩:=h1
  obtain ⟨b1,b2,rfl,q1,q2⟩:=h2
  rw [hR _ _ _ p1 q1,qEM hR p2 q2]
theorem qnB:∀{t:Ty} {x:pden t} {a b:List Value},qDg t=true→PRd w N t x a→PRd w N t x b→a=b
 | .int _,_,_,_,_,h1,h2=>by simp only [PRd] at h1 h2;rw [h1,h2]
 | .bool,_,_,_,_,h1,h2=>by simp only [PRd] at h1 h2;rw [h1,h2]
 | .str,_,_,_,_,h1,h2=>by simp only [PRd] at h1 h2;rw [h1,h2]
 | .arr n e,_,_,_,hc,h1,h2=>qEM (R:=PRd w N e) (fun _ _ _ p q=>qnB (t:=e) hc p q) h1.2 h2.2
 | .pair a b,_,_,_,hc,h1,h2=>by
   simp only [qDg,wA] at hc
   obtain ⟨a1,a2,rfl,p1,p2⟩:=h1
   obtain ⟨b1,b2,rfl,q1,q2⟩:=h2
   rw [qnB hc.1 p1 q1,qnB hc.2 p2 q2]
 | .unit,_,_,_,_,h1,h2=>by simp only [PRd] at h1 h2;rw [h1,h2]
def qLC:Value→Prop
 | .int _ _| .bool _| .string _=>True
 |_=>False
theorem qRE {α:Type} {R:α→List Value→Prop} (hR:∀x a,R x a→∀v∈a,qLC v):∀{xs:List α} {a:List Value},Cat R xs a→∀v∈a,qLC v
 |[],_,h1=>by simp only [Cat] at h1;subst h1;simp
 |x::xs,_,h1=>by
  obtain ⟨a1,a2,rfl,p1,p2⟩:=h1
  intro v hv
  rcases wba.1 hv with hv|hv
  ·exact hR _ _ p1 v hv
  ·exact qRE hR p2 v hv
theorem qts:∀{t:Ty} {x:pden t} {a:List Value},qDg t=true→PRd w N t x a→∀v∈a,qLC v
 | .int _,_,_,_,h1=>by simp only [PRd] at h1;subst h1;simp [qLC]
 | .bool,_,_,_,h1=>by simp only [PRd] at h1;subst h1;simp [qLC]
 | .str,_,_,_,h1=>by simp only [PRd] at h1;subst h1;simp [qLC]
 | .arr n e,_,_,hc,h1=>qRE (R:=PRd w N e) (fun _ _ p=>qts (t:=e) hc p) h1.2
 | .pair a b,_,_,hc,h1=>by
   simp only [qDg,wA] at hc
   obtain ⟨a1,a2,rfl,p1,p2⟩:=h1
   intro v hv
   rcases wba.1 hv with hv|hv
   ·exact qts hc.1 p1 v hv
   ·exact qts hc.2 p2 v hv
 | .unit,_,_,_,h1=>by simp only [PRd] at h1;subst h1;simp
theorem qtA {n:Nat} {v:Value} (h:qLC v):Instr.sameBits n v v=true:=by
 have hs:∀s:ByteArray,(s==s)=true:=fun s=>by rw [qYE];simp
 cases v <;> simp [qLC] at h <;> cases n <;> simp [Instr.sameBits,hs]
theorem qoH {n:Nat}:∀{a:List Value},(∀v∈a,qLC v)→((a.zip a).all fun (x,y)=>Instr.sameBits n x y)=true
 |[],_=>rfl
 |v::a,h=>by
  simp only [List.zip_cons_cons,wsb,wA]
  exact ⟨qtA (h v (by simp)),qoH (fun u hu=>h u (by simp [hu]))⟩
theorem qqN {t:Ty} {x:pden t} {a:List Value} {n:Nat} (hc:qDg t=true) (h:PRd w N t x a):Instr.sameBits (n+1) (qub t a) (qub t a)=true:=by
 have hb:=qts hc h
 have hl:=h.length
 unfold qub
 cases ha:t.agg with
 |true=>
  simp only [if_true,Instr.sameBits,beq_self_eq_true,Bool.true_and]
  exact qoH hb
 |false=>
  simp only [wN,if_false]
  cases a with
  |nil=>cases t <;> simp [Ty.agg,Ty.sz] at ha hl
  |cons v r=>exact qtA (hb v (by simp))
theorem qtR {t:Ty} {x y:pden t} {a b:List Value} (hc:qDg t=true) (h1:PRd w N t x a) (h2:PRd w N t y b) (h:peq t x y=true):a=b:=by
 have:=qAH hc h;subst this
 exact qnB hc h1 h2
end
section
variable {P:Program} {w:World} {N:Nat→Prop}
def qqv {α β:Type} (eq:α→α→Bool) (x:α):List (α×β)→Nat→Option Nat
 |[],_=>none
 |e::r,i=>if eq x e.1 then some i else qqv eq x r (i+1)
theorem qEq {kT:TypeId} {k v:Ty} (hk:qZd P tyD kT=some k) (hc:qDg k=true) (hq:qfM P tyD kT=true) {u:pden k} {cu:List Value} (hu:PRd w N k u cu):
  ∀(xs:List (pden k×pden v)) (es:List MapEntry) (i:Nat),MRd w N k v xs es→
   (Instr.findAsking kT (qub k cu) es i).run P w= .ok (match qqv (peq k) u xs i with
    |some j=>some (j,((es[j - i]?).map (·.val)).getD default)
    |none=>none) w
 |[],es,i,h=>by simp only [MRd] at h;subst h;simp [Instr.findAsking,qqv]
 |x::xs,es,i,h=>by
  obtain ⟨e,r,ck,cv,rfl,e1,e2,h1,h2,h3⟩:=h
  have heq:(Op.equal kT (qub k cu) e.key).run P w= .ok (peq k u x.1) w:=by
   rw [e1];exact qnr tyD wLa kT k u x.1 cu ck (by decide) hk hc hq hu h1
  simp only [Instr.findAsking,ww,heq,wt,qqv]
  by_cases hp:peq k u x.1=true
  ·simp [hp]
  ·have ih:=qEq hk hc hq hu xs r (i+1) h3
   have hlt:∀(l:List (pden k×pden v)) (i j:Nat),qqv (peq k) u l i=some j→i≤j:=by
    intro l
    induction l with
    |nil=>intro i j h;simp [qqv] at h
    |cons y l ih=>
     intro i j h
     simp only [qqv] at h
     split at h
     ·injection h with h;omega
     ·have:=ih _ _ h;omega
   simp only [hp,wN,if_false]
   rw [ih]
   cases hm:qqv (peq k) u xs (i+1) with
   |none=>rfl
   |some j=>
    have:=hlt _ _ _ hm
    have e:j - i=(j - (i+1))+1:=by omega
    simp [e]
theorem qEF {kT:TypeId} {n:Nat} {k:Ty} {d:TypeDesc} (hk:qZd P n kT=some k) (hd:P.underlying kT=some d) {x y:pden k} {a b:List Value} (hx:PRd w N k x a) (hy:PRd w N k y b) {r:Bool} (h:wzb d (qub k a) (qub k b)=some r):r=peq k x y:=by
 obtain ⟨m,d',i,hm,hd',hr,_⟩:=qqd hk
 rw [hd] at hd';injection hd' with hd';subst hd'
 cases k with
 |int q=>
  simp only [PRd] at hx hy;subst hx hy
  simp only [qub,Ty.agg,wN,if_false,List.headD_cons] at h
  cases d <;> simp [wzb] at h
  simp only [peq];rw [←h];rfl
 |bool=>
  simp only [PRd] at hx hy;subst hx hy
  simp only [qub,Ty.agg,wN,if_false,List.headD_cons] at h
  cases d <;> simp [wzb] at h
  simp only [peq];rw [←h]
 |str=>
  simp only [PRd] at hx hy;subst hx hy
  simp only [qub,Ty.agg,wN,if_false,List.headD_cons] at h
  cases d <;> simp [wzb] at h
  simp only [peq];rw [←h]
  rw [qYE]
  by_cases he:(x:ByteArray)=y
  ·subst he;simp
  ·have:¬wja x=wja y:=fun e=>he (toList_inj e)
   rw [decide_eq_false he]
   exact (beq_eq_false_iff_ne.2 this).symm
 |arr _ _=>simp [qub,Ty.agg,wzb] at h
 |pair _ _=>simp [qub,Ty.agg,wzb] at h
 |unit=>simp [qub,Ty.agg,wzb] at h
 |slice _=>
  obtain ⟨A,c,rfl,_⟩:=hx
  simp [qub,Ty.agg,wzb] at h
 |fn=>
  simp only [PRd] at hx hy;subst hx hy
  cases x <;> simp [qub,Ty.agg,wzb] at h
theorem qDw {kT:TypeId} {n:Nat} {k v:Ty} {d:TypeDesc} (hk:qZd P n kT=some k) (hd:P.underlying kT=some d) {u:pden k} {cu:List Value} (hu:PRd w N k u cu):
  ∀(xs:List (pden k×pden v)) (es:List MapEntry) (i:Nat) (r:Option (Nat×Value)),MRd w N k v xs es→Instr.findNow d (qub k cu) es i=some r→
   r=match qqv (peq k) u xs i with
    |some j=>some (j,((es[j - i]?).map (·.val)).getD default)
    |none=>none
 |[],es,i,r,h,hf=>by simp only [MRd] at h;subst h;simp only [Instr.findNow,wc] at hf;subst hf;simp [qqv]
 |x::xs,es,i,r,h,hf=>by
  obtain ⟨e,r',ck,cv,rfl,e1,e2,h1,h2,h3⟩:=h
  simp only [Instr.findNow] at hf
  rw [e1] at hf
  cases hs:wzb d (qub k cu) (qub k ck) with
  |none=>rw [hs] at hf;cases hf
  |some b=>
   have hb:=qEF hk hd hu h1 hs
   rw [hs] at hf
   simp only [qqv,←hb]
   cases b with
   |true=>simp only [wc] at hf;subst hf;simp
   |false=>
    simp only at hf
    have ih:=qDw hk hd hu xs r' (i+1) r h3 hf
    have hlt:∀(l:List (pden k×pden v)) (i j:Nat),qqv (peq k) u l i=some j→i≤j:=by
     intro l
     induction l with
     |nil=>intro i j h;simp [qqv] at h
     |cons y l ih=>
      intro i j h
      simp only [qqv] at h
      split at h
      ·injection h with h;omega
      ·have:=ih _ _ h;omega
    rw [ih]
    simp only [wN,if_false]
    cases hm:qqv (peq k) u xs (i+1) with
    |none=>rfl
    |some j=>
     have:=hlt _ _ _ hm
     have e:j - i=(j - (i+1))+1:=by omega
     simp [e]
theorem qEw {kT:TypeId} {k v:Ty} (hk:qZd P tyD kT=some k) (hc:qDg k=true) (hq:qfM P tyD kT=true) {u:pden k} {cu:List Value} (hu:PRd w N k u cu) {xs:List (pden k×pden v)} {es:List MapEntry} (h:MRd w N k v xs es):
  (Instr.findKey kT (qub k cu) es).run P w= .ok (match qqv (peq k) u xs 0 with
    |some j=>some (j,((es[j]?).map (·.val)).getD default)
    |none=>none) w:=by
 obtain ⟨m,d,i,hm,hd,hr,_⟩:=qqd hk
 simp only [Instr.findKey,ww,run_underlying hd,wt]
 cases hf:Instr.findNow d (qub k cu) es 0 with
 |some r=>
  have:=qDw hk hd hu xs es 0 r h hf
  simp only [wEa] at this
  rw [this];rfl
 |none=>
  have:=qEq hk hc hq hu xs es 0 h
  simp only [wEa] at this
  exact this
theorem qwA {em:Bool} {d m:Nat} {E:TypeId} {e:Ty} (hE:qZd P m E=some e)
  (IH:∀(x:pden e) (c1:List Value),PRd w N e x c1→(wkb em d E (qub e c1)).run P w= .ok () w) (cs:List Value):
  ∀(us:List (pden e)) (k:Nat),Cat (PRd w N e) us (cs.drop (k*e.sz))→
   (forIn (List.range' k us.length 1) PUnit.unit fun i __s=>do
    let n ←sizeOf E
    let a ←part E cs.toArray (i*n)
    wkb em d E a
    pure (ForInStep.yield PUnit.unit):Sem PUnit).run P w= .ok PUnit.unit w
 |[],k,_=>by simp
 |x::us,k,h1=>by
  obtain ⟨a1,a2,a3⟩:=qyM (fun _ _=>PRd.length) h1
  have ih:=qwA hE IH cs us (k+1) a2
  simp only [wz,List.range'_succ,List.forIn_cons,ww,qjc hE,qkl hE a3,wt,IH x _ a1]
  simpa using ih
theorem qEu {em:Bool} {d:Nat} {m:Nat} (IH:∀(T:TypeId) (t:Ty) (x:pden t) (c1:List Value),qZd P m T=some t→qDg t=true→PRd w N t x c1→(wkb em d T (qub t c1)).run P w= .ok () w):
  ∀(fs:List Field) (ts:List Ty) (o:Nat),qdm (qZd P m) fs=some ts→qvl P fs ts o=true→qDg (qOe ts)=true→
   ∀(x:pden (qOe ts)) (cs:List Value),PRd w N (qOe ts) x (cs.drop o)→o≤cs.length→
    (forIn fs PUnit.unit fun f __s=>if f.name≠ "_" then do
      let a ←part f.type cs.toArray f.offset
      wkb em d f.type a
      pure (ForInStep.yield PUnit.unit)
     else do
      pure PUnit.unit
      pure (ForInStep.yield PUnit.unit):Sem PUnit).run P w= .ok PUnit.unit w
 |[],ts,o,ht,ho,hc,x,cs,hx,h1=>by simp
 |f::fs,ts,o,ht,ho,hc,x,cs,hx,h1=>by
  simp only [qdm] at ht
  split at ht
  ·rename_i t ts' e1 e2
   simp only [wc] at ht;subst ht
   simp only [qvl,wA,beq_iff_eq] at ho
   simp only [qOe,qDg,wA] at hc
   obtain ⟨c1,c2,ec,x1,x2⟩:=hx
   have lc:=x1.length
   have llc:cs.length=o+(c1.length+c2.length):=by have:=congrArg we ec;simp at this;omega
   have kc:cut cs o t.sz=c1:=by unfold cut;rw [ec,←lc,List.take_left'];rfl
   have rc:cs.drop (o+t.sz)=c2:=by rw [←List.drop_drop,ec,←lc,List.drop_left'];rfl
   have ih:=qEu IH fs ts' (o+t.sz) e2 ho.2 hc.2 x.2 cs (by rw [rc];exact x2) (by omega)
   simp only [List.forIn_cons,ww]
   by_cases hn:f.name≠ "_"
   ·rw [if_pos hn,ho.1]
    simp only [ww,qkl e1 (show o+t.sz≤cs.length by omega),wt,kc,IH f.type t x.1 c1 e1 hc.1 x1,wH]
    exact ih
   ·rw [if_neg hn]
    simp only [ww,wH,wt]
    exact ih
  ·cases ht
theorem qOo {em:Bool}:∀(n d:Nat) (T:TypeId) (t:Ty) (x:pden t) (cs:List Value),n≤d→qZd P n T=some t→qDg t=true→PRd w N t x cs→
  (wkb em d T (qub t cs)).run P w= .ok () w
 |0,d,T,t,x,cs,hn,ht,hc,hx=>by simp [qZd] at ht
 |n+1,0,T,t,x,cs,hn,ht,hc,hx=>by omega
 |n+1,d+1,T,t,x,cs,hn,ht,hc,hx=>by
  obtain ⟨m,ds',i,hm,hd,hr,_⟩:=qqd ht
  injection hm with hm;subst hm
  have IH:=fun T t x c1 h1 h2 h3=>qOo (em:=em) n d T t x c1 (by omega) h1 h2 h3
  cases ds' <;> simp only [qem] at hr <;> first|(cases hr;done)|skip
  ·simp only [wc] at hr;subst hr
   simp [wkb,run_underlying hd]
  ·simp only [wc] at hr;subst hr
   simp [wkb,run_underlying hd]
  ·simp only [wc] at hr;subst hr
   simp [wkb,run_underlying hd]
  ·split at hr
   ·simp only [wc] at hr;subst hr;simp [qDg] at hc
   ·cases hr
  ·split at hr
   ·rename_i k E _ e he
    simp only [wc] at hr;subst hr
    simp only [qDg] at hc
    obtain ⟨lx,cx⟩:=hx
    have L:=qwA (em:=em) (d:=d) he (fun x c1 h1=>IH E e x c1 he hc h1) cs x 0 (by simpa using cx)
    rw [lx] at L
    simp only [qub,Ty.agg,if_true,wkb,ww,run_underlying hd,wt,qjc he,Std.Legacy.Range.forIn_eq_forIn_range',Std.Legacy.Range.size,wEa,Nat.add_sub_cancel,Nat.div_one]
    rw [L];rfl
   ·cases hr
  ·rename_i fs
   split at hr
   ·rename_i ts hts
    split at hr
    ·rename_i ho
     simp only [wc] at hr;subst hr
     have ha:(qOe ts).agg=true:=by cases ts <;> rfl
     have L:=qEu (em:=em) (d:=d) IH fs.toList ts 0 hts ho hc x cs (by simpa using hx) (by omega)
     simp only [qub,ha,if_true,wkb,ww,run_underlying hd,wt]
     rw [←Array.forIn_toList]
     first|exact L|(rw [L];rfl)|(refine Eq.trans (congrArg (fun r=>Result.andThen r _) L) ?_;rfl)
    ·cases hr
   ·cases hr
  ·simp only [wc] at hr;subst hr;simp [qDg] at hc
theorem qDs {k v:Ty} {u:pden k}:∀{xs:List (pden k×pden v)} {es:List MapEntry} {i:Nat},MRd w N k v xs es→match qqv (peq k) u xs i with
  |some j=>i≤j∧∃e z cv ck x,es[j - i]?=some e∧xs[j - i]?=some (x,z)∧qrv (peq k) u xs=some z∧e.val=qub v cv∧PRd w N v z cv∧e.key=qub k ck∧PRd w N k x ck∧peq k u x=true
  |none=>qrv (peq k) u xs=none
 |[],es,i,h=>by simp [qqv,qrv]
 |x::xs,es,i,h=>by
  obtain ⟨e,r,ck,cv,rfl,e1,e2,h1,h2,h3⟩:=h
  simp only [qqv,qrv]
  by_cases hp:peq k u x.1=true
  ·simp only [hp,if_true]
   exact ⟨ws _,e,x.2,cv,ck,x.1,by simp,by simp,rfl,e2,h2,e1,h1,hp⟩
  ·simp only [hp,wN,if_false]
   have ih:=qDs (u:=u) (i:=i+1) h3
   cases hm:qqv (peq k) u xs (i+1) with
   |none=>rw [hm] at ih;exact ih
   |some j=>
    rw [hm] at ih
    obtain ⟨h0,e',z,cv',ck',x',a1,a2,a3⟩:=ih
    have hj:j - i=(j - (i+1))+1:=by omega
    exact ⟨by omega,e',z,cv',ck',x',by rw [hj];simpa using a1,by rw [hj];simpa using a2,a3⟩
theorem quL {k v:Ty} (hc:qDg k=true) {u:pden k} {z:pden v} {cu cz:List Value} (hu:PRd w N k u cu) (hz:PRd w N v z cz) (f:MapEntry→MapEntry) (nw:MapEntry) (hf:∀e,(f e).key=qub k cu∧(f e).val=qub v cz) (hn:nw.key=qub k cu∧nw.val=qub v cz):
  ∀{xs:List (pden k×pden v)} {es:List MapEntry} {i:Nat},MRd w N k v xs es→MRd w N k v (qMD (peq k) u z xs) (match qqv (peq k) u xs i with
   |some j=>es.modify (j - i) f
   |none=>es++[nw])
 |[],es,i,h=>by
  simp only [MRd] at h;subst h
  exact ⟨nw,[],cu,cz,rfl,hn.1,hn.2,hu,hz,rfl⟩
 |x::xs,es,i,h=>by
  obtain ⟨e,r,ck,cv,rfl,e1,e2,h1,h2,h3⟩:=h
  simp only [qqv,qMD]
  by_cases hp:peq k u x.1=true
  ·simp only [hp,if_true,Nat.sub_self]
   exact ⟨f e,r,cu,cz,by simp [List.modify],(hf e).1,(hf e).2,hu,hz,h3⟩
  ·simp only [hp,wN,if_false]
   have ih:=quL hc hu hz f nw hf hn (i:=i+1) h3
   have h0:=qDs (u:=u) (i:=i+1) h3
   cases hm:qqv (peq k) u xs (i+1) with
   |none=>rw [hm] at ih;exact ⟨e,_,ck,cv,rfl,e1,e2,h1,h2,ih⟩
   |some j=>
    rw [hm] at ih h0
    have hj:j - i=(j - (i+1))+1:=by omega
    simp only
    rw [hj]
    exact ⟨e,_,ck,cv,by simp,e1,e2,h1,h2,ih⟩
end
section
variable {c:Cx} {P:Program} {GT:qmi} {H lk:qBc} {K:Kn} {w:World} {ev:Operand→TV} {ρ:Operand→Value} {nl:Nat}
theorem qjq {T:TypeId} {k v:Ty} (h:qsJ P T=some (k,v)):∃KT E,P.underlying T=some (.map KT E)∧qZd P tyD KT=some k∧qZd P tyD E=some v∧qDg k=true∧qfM P tyD KT=true∧k.flat=true∧v.flat=true∧qgk P E v=true:=by
 unfold qsJ at h
 split at h
 ·rename_i KT E hd
  split at h
  ·rename_i k' v' e1 e2
   split at h
   ·rename_i hb
    simp only [wc,wk] at h;obtain ⟨rfl,rfl⟩:=h
    simp only [wA] at hb
    exact ⟨KT,E,hd,e1,e2,hb.1.1.1.1,hb.1.1.1.2,hb.1.1.2,hb.1.2,hb.2⟩
   ·cases h
  ·cases h
 ·cases h
theorem qOB {N:Bool→Nat→Prop} (hN:∀b,N true b→N false b) {k:Ty} {x:AV} {u:pden k} {a:Value} (hf:k.flat=true) (h:qNx k x=some u) (hr:VRd w N K x a):∃cu,a=qub k cu∧PRd w (fun _=>False) k u cu:=by
 unfold qNx at h
 split at h
 ·rename_i y hy
  obtain ⟨h1,h2⟩:=qHt hr hy
  exact ⟨_,h2,(qgw hN h1 h).flat hf⟩
 ·cases h
theorem qDL (A:At c P GT H lk K w ev ρ nl) {k v:Ty} (hk:k.flat=true) (hv:v.flat=true):Lands c H K w nl ⟨.one (.mapr nl),[(nl,some (.map k v []))],[]⟩ (.map (some w.heap.size)) (w.alloc (.map #[] 0)):=by
 have S:=Stp.new (w':=w.alloc (.map #[] 0)) A.inv A.ng nl nl ⟨ws _,by omega⟩ (A.fresh nl (ws _) (by omega)) (.map k v []) ⟨.map k v,some ⟨w.heap.size,0,0⟩⟩ (qRb w _) (fun p hp=>by
   injection hp with hp;subst hp
   exact ⟨ws _,by rw [qwb];exact wsa _⟩) (fun N' K' hNlow hkk=>⟨rfl,_,#[],0,rfl,qOy w _,hk,hv,rfl⟩)
 exact ⟨_,S,⟨.map k v,⟨w.heap.size,0,0⟩,qbb,rfl⟩⟩
theorem qEE (A:At c P GT H lk K w ev ρ nl) {o:Oper} {T:TypeId} {r:Option Operand} (ho:o.op= .makeMap T r) {orc:Option COrc} {out:Out} (h:qYb P GT ev lk nl orc o.type o.op=some out):
  Does P o ρ w (Lands c H K w nl out):=by
 rw [ho] at h
 cases r with
 |none=>
  simp only [qYb] at h
  split at h
  ·rename_i k v hT
   obtain ⟨KT,E,hd,_,_,_,_,hk,hv,_⟩:=qjq hT
   simp only [wc] at h;subst h
   refine Does.value (v:= .map (some w.heap.size)) (w':=w.alloc (.map #[] 0)) ?_ (qDL A hk hv)
   simp only [execOp,ho,Instr.makeMap,Option.map_none]
   rfl
  ·cases h
 |some x=>
  simp only [qYb] at h
  split at h
  ·rename_i k v q n hT hx
   obtain ⟨KT,E,hd,_,_,_,_,hk,hv,_⟩:=qjq hT
   simp only [wc] at h;subst h
   have hx':=A.one hx
   simp only [VRd] at hx'
   refine Does.value (v:= .map (some w.heap.size)) (w':=w.alloc (.map #[] 0)) ?_ (qDL A hk hv)
   simp only [execOp,ho,Instr.makeMap,wCa,hx',ww,Sem.run_map,run_underlying hd,wt,asInt]
   rfl
  ·cases h
theorem qRs {T E:TypeId} {e:Ty} (h:qaw P T=some (e,E)):∃d,P.underlying T=some (.chan d E)∧qZd P tyD E=some e:=by
 unfold qaw at h
 split at h
 ·rename_i d E' hd
  split at h
  ·rename_i e' he
   simp only [wc,wk] at h;obtain ⟨rfl,rfl⟩:=h
   exact ⟨d,hd,he⟩
  ·cases h
 ·cases h
theorem qqC (A:At c P GT H lk K w ev ρ nl) {o:Oper} {T:TypeId} {r:Operand} (ho:o.op= .makeChan T r) {orc:Option COrc} {out:Out} (h:qYb P GT ev lk nl orc o.type o.op=some out) (hc:qqh out.conds):
  Does P o ρ w (Lands c H K w nl out):=by
 rw [ho] at h
 simp only [qYb] at h
 split at h
 ·rename_i e E q n hT hx
  obtain ⟨d,hd,he⟩:=qRs hT
  obtain ⟨_,_,i,_,_,_,_,hi,_⟩:=qqd he
  simp only [wc] at h;subst h
  obtain ⟨c1,c2,c3,_⟩:=hc
  have hx':=A.one hx
  simp only [VRd] at hx'
  have hby:P.bytesOf E=i.bytes:=by simp [Program.bytesOf,hi]
  rw [hby] at c3
  have S:=Stp.new (w':=w.alloc (.chan n.toNat #[] false 0 0 false)) A.inv A.ng nl nl ⟨ws _,by omega⟩ (A.fresh nl (ws _) (by omega)) (.chan e true n.toNat [] false) ⟨.chan e n.toNat,some ⟨w.heap.size,0,0⟩⟩ (qRb w _) (fun p hp=>by
   injection hp with hp;subst hp
   exact ⟨ws _,by rw [qwb];exact wsa _⟩) (fun N' K' hNlow hkk=>⟨rfl,_,#[],0,0,rfl,qOy w _,rfl⟩)
  refine Does.value (v:= .chan (some w.heap.size)) (w':=w.alloc (.chan n.toNat #[] false 0 0 false)) ?_ ⟨_,S,⟨.chan e n.toNat,⟨w.heap.size,0,0⟩,qbb,rfl⟩⟩
  have hk:IntKind.max .i64=9223372036854775807:=rfl
  simp only [execOp,ho,Instr.makeChan,hx',ww,Sem.run_map,run_underlying hd,qdj hi,wt,asInt,asIntOf,wH]
  rw [if_neg (by
   rw [hk]
   intro h
   rcases h with h|h|h
   ·omega
   ·omega
   ·have:(2:Int) ^ 48 - 112=281474976710544:=by decide
    rw [this] at h
    omega)]
  rfl
 ·cases h
theorem qWH (A:At c P GT H lk K w ev ρ nl) {k v:Ty} {x:AV} {es:List (pden k×pden v)} {a:Value} (h:qNN lk k v x=some es) (hr:VRd w (NN c H K w) K x a):
  (a= .map none∧es=[])∨∃l p en clock,x= .mapr l∧lk l=some (.map k v es)∧a= .map (some p.blk)∧K l=some ⟨.map k v,some p⟩∧w.heap[p.blk]?=some (.map en clock)∧MRd w (fun _=>False) k v es en.toList:=by
 unfold qNN at h
 split at h
 ·rename_i l
  split at h
  ·rename_i k' v' es' hl
   split at h
   ·rename_i he
    obtain ⟨rfl,rfl⟩:=he
    simp only [wc] at h;subst h
    obtain ⟨sh,pl,k1,rfl⟩:=hr
    obtain ⟨gh,g1,g2,p,en,clock,g3,g4,g5⟩:=A.inv.objs l _ (A.sub _ _ hl)
    rw [k1] at g1;injection g1 with g1;subst g1
    simp only [wc] at g3;subst g3
    simp only at g2;subst g2
    exact .inr ⟨l,pl,en,clock,rfl,hl,rfl,k1,g4,g5.2.2⟩
   ·cases h
  ·cases h
 ·simp only [wc] at h;subst h
  exact .inl ⟨hr,rfl⟩
 ·cases h
theorem qPI {E:TypeId} {t:Ty} (h:qgk P E t=true):(zeroValue E).run P w= .ok (qub t (qcl t)) w:=by
 obtain ⟨v,h1,h2,i,h3,h4⟩:=qcf (w:=w) h
 rw [h1]
 unfold qgk at h
 rw [h3] at h
 simp only [h4,wA] at h
 have h5:=h.1
 clear h h4 h1
 rw [←h2];clear h2
 cases v <;> simp_all [qub,wub]
theorem qCG (A:At c P GT H lk K w ev ρ nl) {o:Oper} {T:TypeId} {m x:Operand} {ok:Bool} (ho:o.op= .lookup T m x ok) {orc:Option COrc} {out:Out} (h:qYb P GT ev lk nl orc o.type o.op=some out):
  Does P o ρ w (Lands c H K w nl out):=by
 rw [ho] at h
 simp only [qYb] at h
 split at h
 ·rename_i k v mv xv hT hm hx
  obtain ⟨KT,E,hd,tk,tv,hc,hq,hk,hv,hz⟩:=qjq hT
  split at h
  ·rename_i u es hu he
   simp only [wc] at h;subst h
   obtain ⟨cu,ru,pu⟩:=qOB (fun b=>uj b) hk hu (A.one hx)
   have key:∃en:Array MapEntry,MRd w (fun _=>False) k v es en.toList∧(Instr.lookup T (ρ m) (ρ x) ok).run P w=(do
     wkb en.isEmpty 10000 KT (ρ x)
     let (v,b) ←match ←Instr.findKey KT (ρ x) en.toList with
      |some (_,v)=>pure (v,true)
      |none=>pure (←zeroValue E,false)
     pure (if ok then .tuple #[v, .bool b] else v):Sem Value).run P w:=by
    rcases qWH A he (A.one hm) with ⟨e1,rfl⟩|⟨l,p,en,clock,_,_,e1,_,hb,hM⟩
    ·refine ⟨#[],rfl,?_⟩
     simp only [Instr.lookup,e1,ww,run_underlying hd,wt,wH]
     rfl
    ·refine ⟨en,hM,?_⟩
     have hg:(getObj p.blk).run P w= .ok (.map en clock) w:=by simp [getObj,Sem.run,hb]
     simp only [Instr.lookup,e1,ww,run_underlying hd,wt,hg,wH]
     rfl
   obtain ⟨en,hM,hrun⟩:=key
   have hck:=qOo (P:=P) (w:=w) (em:=en.isEmpty) tyD 10000 KT k u cu (by decide) tk hc pu
   have hfk:=qEw tk hc hq pu hM
   have hg:=qDs (u:=u) (i:=0) hM
   have res:∃cv b,(Instr.lookup T (ρ m) (ρ x) ok).run P w= .ok (if ok then .tuple #[qub v cv, .bool b] else qub v cv) w∧PRd w (fun _=>False) v ((qrv (peq k) u es).getD (qra v)) cv∧b=(qrv (peq k) u es).isSome:=by
    rw [hrun,ru]
    simp only [ww,hck,hfk,wt]
    cases hi:qqv (peq k) u es 0 with
    |none=>
     rw [hi] at hg
     simp only [ww,qPI hz,wt,wH]
     exact ⟨qcl v,false,rfl,by rw [hg];exact qbg,by rw [hg];rfl⟩
    |some j=>
     rw [hi] at hg
     obtain ⟨_,e,z,cv,ck,x',a1,a2,a3,a4,a5,_⟩:=hg
     simp only [wEa] at a1
     simp only [a1,wCa,wcb,wH,wt,ww,a4]
     exact ⟨cv,true,rfl,by rw [a3];exact a5,by rw [a3];rfl⟩
   obtain ⟨cv,b,r1,r2,r3⟩:=res
   refine Does.value (v:=if ok then .tuple #[qub v cv, .bool b] else qub v cv) (w':=w) (by simp [execOp,ho,r1]) (Lands.same A.inv ?_)
   have hval:VRd w (NN c H K w) K (qvF v (inj false v ((qrv (peq k) u es).getD (qra v)))) (qub v cv):=
    qrt (qIk (fun b=>uj b) false (r2.flat hv))
   cases ok with
   |false=>exact hval
   |true=>exact ⟨[qub v cv, .bool b],rfl,⟨_,_,rfl,hval,⟨_,_,rfl,by rw [r3];rfl,rfl⟩⟩⟩
  ·cases h
 ·cases h
theorem qou {N:Bool→Nat→Prop}:∀{vs:List AV} {ls:List Nat} {us:List Value},qpu vs=some ls→VRdL w N K vs us→capsRd K ls us
 |[],ls,us,h,hr=>by
  simp only [qpu,wc] at h;subst h
  exact hr
 |a::r,ls,us,h,hr=>by
  obtain ⟨v,us',rfl,hv,hr⟩:=hr
  unfold qpu at h
  split at h
  ·rename_i he;cases he
  ·rename_i t l q he
   injection he with h1 h2;subst h1;subst h2
   split at h
   ·rename_i ls' hls
    simp only [wc] at h;subst h
    obtain ⟨gh,pl,po,k1,k2,rfl⟩:=hv
    obtain ⟨hpl,hpo⟩:gh.pl=some pl∧po=0:=by
     rcases k2 with ⟨h1,k2⟩|⟨e1,n,ps',i',q,m,q1,q2,q3,q4⟩|⟨a1,e1,n,ps',i',q,m,q1,q2,q3,q4⟩
     ·refine ⟨h1,?_⟩
      obtain ⟨sh,pl0⟩:=gh
      cases sh with
      |box t'=>simp only [qDm,qLa,wc,wk] at k2;exact k2.1.symm
      |row e n ps=>simp [qDm] at k2
      |cell=>simp [qDm] at k2
      |map k v=>simp [qDm] at k2
      |chan e cap=>simp [qDm] at k2
     ·cases q2
     ·cases q2
    subst hpo
    exact ⟨_,pl,us',k1,hpl,rfl,qou hls hr⟩
   ·cases h
  ·rename_i l q he
   injection he with h1 h2;subst h1;subst h2
   split at h
   ·rename_i ls' hls
    simp only [wc] at h;subst h
    obtain ⟨sh,pl,k1,rfl⟩:=hv
    exact ⟨_,pl,us',k1,rfl,rfl,qou hls hr⟩
   ·cases h
  ·cases h
theorem qpC (A:At c P GT H lk K w ev ρ nl) {o:Oper} {fn:Fn} {first caps:Array Operand} (ho:o.op= .makeFunc fn first caps) {orc:Option COrc} {out:Out} (h:qYb P GT ev lk nl orc o.type o.op=some out):
  Does P o ρ w (Lands c H K w nl out):=by
 rw [ho] at h
 cases fn with
 |func f=>
  simp only [qYb] at h
  split at h
  ·rename_i vs hfst hvs
   split at h
   ·rename_i ls hls
    simp only [Ab.one,wc] at h;subst h
    have hv:=qJA A hvs
    have hc:=qou hls hv
    have hf:first=#[]:=by apply wYa;simpa using hfst
    subst hf
    have he:caps.map ρ=(caps.toList.map ρ).toArray:=by apply wYa;simp
    exact Does.value (v:= .func (.func f) #[] (caps.map ρ)) (w':=w) (by simp [execOp,ho,Instr.makeFunc]) (Lands.one A.inv ⟨_,by rw [he],hc⟩)
   ·cases h
  ·cases h
 |_=>simp [qYb] at h
theorem qWz (A:At c P GT H lk K w ev ρ nl) {o:Oper} {T:TypeId} {m x y:Operand} (ho:o.op= .mapUpdate T m x y) {orc:Option COrc} {out:Out} (h:qYb P GT ev lk nl orc o.type o.op=some out):
  Does P o ρ w (Lands c H K w nl out):=by
 rw [ho] at h
 simp only [qYb] at h
 split at h
 ·rename_i k v l xv yv hT hm hx hy
  obtain ⟨KT,E,hd,tk,tv,hc,hq,hk,hv,hz⟩:=qjq hT
  split at h
  ·rename_i u z es hu hz' he
   simp only [wc] at h;subst h
   obtain ⟨cu,ru,pu⟩:=qOB (fun b=>uj b) hk hu (A.one hx)
   obtain ⟨cz,rz,pz⟩:=qOB (fun b=>uj b) hv hz' (A.one hy)
   rcases qWH A he (A.one hm) with ⟨e1,_⟩|⟨l',p,en,clock,e0,hlk,e1,hK,hb,hM⟩
   ·obtain ⟨sh,pl,k1,e2⟩:=A.one hm
    rw [e1] at e2;cases e2
   ·injection e0 with e0;subst e0
    have hg:(getObj p.blk).run P w= .ok (.map en clock) w:=by simp [getObj,Sem.run,hb]
    have hs:∀ob,(setObj p.blk ob).run P w= .ok () {w with heap:=w.heap.setIfInBounds p.blk ob}:=fun ob=>by simp [setObj,Sem.run,hb]
    have hck:=qOo (P:=P) (w:=w) (em:=false) tyD 10000 KT k u cu (by decide) tk hc pu
    have hfk:=qEw tk hc hq pu hM
    have hmg:=qDs (u:=u) (i:=0) hM
    have hlt:p.blk<w.heap.size:=(A.inv.own l _ _ p (A.sub _ _ hlk) hK (.inl rfl)).1
    have res:∃en' clock',(Instr.mapUpdate T (ρ m) (ρ x) (ρ y)).run P w= .ok () {w with heap:=w.heap.setIfInBounds p.blk (.map en' clock')}∧MRd w (fun _=>False) k v (qMD (peq k) u z es) en'.toList:=by
     have hms:=quL (i:=0) hc pu pz (fun e=>{e with key:=qub k cu,val:=qub v cz}) {key:=qub k cu,val:=qub v cz,born:=clock} (fun e=>⟨rfl,rfl⟩) ⟨rfl,rfl⟩ hM
     simp only [Instr.mapUpdate,e1,ww,run_underlying hd,wt,hg,ru,hck,hfk]
     cases hi:qqv (peq k) u es 0 with
     |none=>
      rw [hi] at hms
      simp only [hs,rz]
      exact ⟨_,_,rfl,by simpa using hms⟩
     |some j=>
      rw [hi] at hms hmg
      obtain ⟨_,e,z',cv,ck,x',a1,a2,a3,a4,a5,a6,a7,a8⟩:=hmg
      have hkk:=qtR hc pu a7 a8
      simp only [wEa] at a1 hms
      have a1':en[j]?=some e:=by simpa using a1
      have hkeep:(Instr.keyThatStays (qub k ck) (qub k cu)).run P w= .ok (qub k cu) w:=by
       rw [←hkk]
       simp [Instr.keyThatStays,qqN (n:=9999) hc pu]
      simp only [a1',wCa,wcb,a6,ww,hkeep,wt,hs,rz]
      exact ⟨_,_,rfl,by simpa using hms⟩
    obtain ⟨en',clock',r1,r2⟩:=res
    refine Does.skip (w':={w with heap:=w.heap.setIfInBounds p.blk (.map en' clock')}) (by simp [execOp,ho,r1]) ?_
    have S:=Stp.write (w':={w with heap:=w.heap.setIfInBounds p.blk (.map en' clock')}) A.inv nl l _ (.map k v (qMD (peq k) u z es)) ⟨.map k v,some p⟩ p (A.sub _ _ hlk) hK (.inl rfl)
     ⟨rfl,rfl,rfl,by simp,fun q hq=>by simp [Array.getElem?_setIfInBounds,wJa hq]⟩
     (fun N' K' _ hkk=>⟨rfl,p,en',clock',rfl,by simp [hlt],hk,hv,r2.keep ⟨fun _ h=>h.elim⟩⟩)
    exact ⟨K,S,trivial⟩
  ·cases h
 ·cases h
end
end Go.Ab

/-
  Every operation.
-/
set_option linter.unusedVariables false
set_option linter.unusedSimpArgs false
namespace Go.Ab
open Go
section
variable {c:Cx} {P:Program} {GT:qmi} {H lk:qBc} {K:Kn} {w:World} {ev:Operand→TV} {ρ:Operand→Value} {nl:Nat}
theorem qMH (A:At c P GT H lk K w ev ρ nl) {o:Oper} {orc:Option COrc} {out:Out} (h:qYb P GT ev lk nl orc o.type o.op=some out) (hc:qqh out.conds):
  Does P o ρ w (Lands c H K w nl out):=by
 cases ho:o.op with
 |move x=>exact qDE A (.inl ho) h
 |assign x=>exact qDE A (.inr ho) h
 |pick x y z=>exact qqM A ho h
 |alloc T=>exact qPJ A ho h
 |box T x=>exact qZN A ho h
 |build T ps=>exact qNJ A ho h
 |buildSlice T n ps=>exact qsy A ho h
 |load T x=>exact qrM A ho h hc
 |store T x y=>exact qIJ A ho h
 |binOp op T x y b=>exact qOJ A ho h hc
 |unOp op T x=>exact qpM A ho h
 |convert s d x=>exact qHE A ho h hc
 |makeInterface T x=>exact qSs A ho h
 |extract x i=>exact qGE A ho h
 |fieldAddr T x i=>exact qZz A ho h
 |field T x i=>exact qLJ A ho h
 |indexAddr T x i=>exact qYz A ho h hc
 |index T x i=>exact qKJ A ho h hc
 |slice T x lo hi mx=>
  cases mx with
  |none=>exact qJJ A ho h hc
  |some m=>
   cases hi with
   |none=>rw [ho] at h;simp [qYb] at h
   |some h'=>exact qBG A ho h hc
 |nilCheck x=>exact qoC A ho h
 |makeSlice T x y=>exact qXz A ho h hc
 |call cl=>
  obtain ⟨callee,args,ats⟩:=cl
  cases callee with
  |builtin b=>exact qIE A ho h hc
  |value f=>exact qtM A ho h hc
  |invoke r n=>rw [ho] at h;simp [qYb] at h
 |makeFunc fn first caps=>exact qpC A ho h
 |makeMap T r=>exact qEE A ho h
 |makeChan T r=>exact qqC A ho h hc
 |lookup T m x ok=>exact qCG A ho h
 |mapUpdate T m x y=>exact qWz A ho h
 |_=>rw [ho] at h;simp [qYb] at h
end
end Go.Ab

/-
  Regions in the order of their text.
-/
set_option linter.unusedVariables false
set_option linter.unusedSimpArgs false
namespace Go.Ab
open Go
structure Rel (c:Cx) (P:Program) (GT:qmi) (nt:Nat) (T:Nat→TV) (H:qBc) (K:Kn) (a:Act) (w:World):Prop where
 inv:Inv c H K w
 tmps:∀t,TVRd w (NN c H K w) K (T t) (a.eval (.tmp t))
 size:a.tmps.size=nt
 defers:a.defers=c.df
 ng:c.ng≤c.w0.heap.size
 gng:c.ng=(ngOf GT)
 glob:Glob P GT w
section
variable {c:Cx} {P:Program} {GT:qmi} {H lk:qBc} {K:Kn} {w:World} {T:Nat→TV} {a:Act} {nl nt:Nat}
theorem qRJ {N:Bool→Nat→Prop} {v:Value}:VRd w N K (qIG v) v:=by
 unfold qIG
 split <;> simp [VRd]
theorem Rel.evT (R:Rel c P GT nt T H K a w) (x:Operand):TVRd w (NN c H K w) K (Ab.evT GT T x) (a.eval x):=by
 cases x with
 |tmp t=>exact R.tmps t
 |const v=>exact qRJ
 |global g=>
  show VRd _ _ _ (qSL GT g) _
  unfold qSL
  split
  ·rename_i t x hx
   obtain ⟨h1,h2,cs,h3,h4⟩:=R.glob.2.1 g t x hx
   refine ⟨g,0,cs,rfl, .inr ?_,h3,h4.keep ⟨fun _ h=>h.elim⟩⟩
   have hg:g<c.ng:=by rw [R.gng];exact h1
   refine ⟨wfa h1 R.glob.1,?_, .inr (.inr ⟨rfl, .inr hg⟩)⟩
   rintro ⟨l,o,gh,p,q1,q2,q3,q4⟩
   have:=(R.inv.own l o gh p q1 q2 q3).2.2
   omega
  ·trivial
 |func f=>exact ⟨[],by simp [Act.eval],rfl⟩
theorem Rel.keepT (R:Rel c P GT nt T H K a w) (ts:List Nat) (x:Operand):TVRd w (NN c H K w) K (Ab.evT GT (Ab.keepT ts T) x) (a.eval x):=by
 cases x with
 |tmp t=>
  show TVRd _ _ _ (Ab.keepT ts T t) _
  unfold Ab.keepT
  split
  ·exact R.tmps t
  ·trivial
 |const v=>exact R.evT (.const v)
 |global g=>exact R.evT (.global g)
 |func f=>exact R.evT (.func f)
theorem qml {L:List Nat}:∀l o,qhe H L l=some o→H l=some o:=by
 intro l o h
 unfold qhe at h
 split at h
 ·exact h
 ·cases h
theorem Glob.keep {w':World} (h:Glob P GT w) (hs:(ngOf GT)≤w'.heap.size) (hb:∀g,g<(ngOf GT)→w'.heap[g]?=w.heap[g]?):Glob P GT w':=by
 refine ⟨hs,fun g t x hx=>?_,fun g hx=>?_,fun g hx=>?_⟩
 ·obtain ⟨h1,h2,cs,h3,h4⟩:=h.2.1 g t x hx
  exact ⟨h1,h2,cs,h3.keep (hb g h1),h4.keep ⟨fun _ h=>h.elim⟩⟩
 ·obtain ⟨u,ty,k1,k2,k3,k4⟩:=h.2.2.1 g hx
  exact ⟨u,ty,k1,k2,k3,(qUn (hb g (h.2.1 g _ _ hx).1)).trans k4⟩
 ·obtain ⟨m,k4⟩:=h.2.2.2 g hx
  exact ⟨m,(qUn (hb g (h.2.1 g _ _ hx).1)).trans k4⟩
theorem Rel.glob_nn (R:Rel c P GT nt T H K a w) {g:Nat} (h:g<(ngOf GT)):NN c H K w false g:=by
 refine ⟨wfa h R.glob.1,?_, .inr (.inr ⟨rfl, .inr (by rw [R.gng];exact h)⟩)⟩
 rintro ⟨l,o,gh,p,q1,q2,q3,q4⟩
 have:=(R.inv.own l o gh p q1 q2 q3).2.2
 have:=R.gng
 omega
def qYy (T:Nat→TV):Option Nat→TV→Nat→TV
 |some d,v=>fun t=>if t=d then v else T t
 |none,_=>T
theorem Rel.put (R:Rel c P GT nt T H K a w) {upd:List (Nat×Option Obj)} {K':Kn} {w':World} (S:Stp c H K w upd nl K' w') {dst:Option Nat} {v:TV} {u:Value} (hv:TVRd w' (NN c (qJb H upd) K' w') K' v u) (hd:qum nt dst=true):
  Rel c P GT nt (qYy T dst v) (qJb H upd) K' (a.put dst u) w':=by
 have hsz:(ngOf GT)≤w'.heap.size:=by
  have:=S.inv.fr.size
  have:=R.ng
  have:=R.gng
  omega
 refine ⟨S.inv,fun t=>?_,?_,?_,R.ng,R.gng,R.glob.keep hsz (fun g hg=>((S.keep.n false).k g (R.glob_nn hg)).2)⟩
 ·cases dst with
  |none=>exact (R.tmps t).keep S.keep
  |some d=>
   simp only [qum,decide_eq_true_eq] at hd
   simp only [qYy]
   split
   ·rename_i e
    subst e
    have:(a.put (some t) u).eval (.tmp t)=u:=by
     simp [Act.put,Act.eval,R.size,hd]
    rw [this];exact hv
   ·rename_i e
    rw [Act.eval_put (fun d' hd' hx=>e (by cases hd';cases hx;rfl))]
    exact (R.tmps t).keep S.keep
 ·cases dst <;> simp [Act.put,R.size]
 ·cases dst <;> simp [Act.put,R.defers]
theorem qnC {o:Oper} {R:Value→World→Prop} {next:Act→World→Prop} {Q:Exit→Act→World→Prop} (h:Does P o a.eval w R) (hn:∀v w',R v w'→next (a.put o.dst v) w'):o.wp P a w next Q:=by
 unfold Does at h
 unfold Oper.wp
 generalize (execOp a.eval o).run P w=r at h ⊢
 cases r with
 |ok n w'=>
  cases n <;> simp only at h
  case value v=>exact hn v w' h
  case skip=>exact hn _ w' h
  case enter f args=>
   refine Calls.mono h ?_
   rintro e w'' ⟨v,rfl,h2⟩
   exact hn v w'' h2
 |halt x w'=>exact h.elim
theorem qMj (R:Rel c P GT nt T H K a w) {ops:Array Oper} {o:Oper} {ts:List Nat} {b:Bool} (h:qQI ops.toList (Ab.keepT ts T) o=some b):wtb o (yielded ops a.tmps)=b:=by
 unfold qQI at h
 unfold wtb
 split at h
 ·rename_i hg;rw [hg];simpa using h
 ·rename_i j want hg
  rw [hg]
  simp only
  split at h
  ·rename_i og hog
   split at h
   ·rename_i d hd
    split at h
    ·rename_i b' hb
     simp only [wc] at h
     have h1:=R.keepT ts (.tmp d)
     have h2:Ab.evT GT (Ab.keepT ts T) (.tmp d)= .one (.bool b'):=hb
     rw [h2] at h1
     have h3:a.eval (.tmp d)= .bool b':=h1
     have h4:a.tmps[d]?=some (.bool b'):=by
      simp only [Act.eval,wAa] at h3
      cases h5:a.tmps[d]? with
      |none=>rw [h5] at h3;cases h3
      |some x=>rw [h5] at h3;simpa using h3
     have h6:ops[j]?=some og:=by rw [←wla];exact hog
     have:yielded ops a.tmps j=some b':=by simp [yielded,h6,hd,h4]
     rw [this,←h]
     cases b' <;> cases want <;> rfl
    ·rename_i hb
     simp only [wc] at h
     have h1:=R.keepT ts (.tmp d)
     have h2:Ab.evT GT (Ab.keepT ts T) (.tmp d)= .one .gone:=hb
     rw [h2] at h1
     have h3:a.eval (.tmp d)=undef:=h1
     have h6:ops[j]?=some og:=by rw [←wla];exact hog
     have:yielded ops a.tmps j=none:=by
      simp only [yielded,h6,hd,wq]
      simp only [Act.eval,wAa] at h3
      cases h5:a.tmps[d]? with
      |none=>rfl
      |some x=>rw [h5] at h3;simp only [wcb] at h3;subst h3;rfl
     rw [this,←h];rfl
    ·cases h
   ·cases h
  ·cases h
theorem qhC (R:Rel c P GT nt T H K a w) {ops:Array Oper} {i:Nat} {o:Oper} {ts:List Nat} {os os':List Orc} {e:Ev} {cs:List Prop} (h:qjK P GT ops.toList (Ab.keepT ts T) H nl i o os=some (e,cs,os')) (hc:qqh cs) (hd:qum nt o.dst=true)
  (hf:∀l,nl≤l→l<nl+8→K l=none) {next:Act→World→Prop} {Q:Exit→Act→World→Prop}
  (hn:∀a' w' K',Rel c P GT nt (qYy T o.dst e.v) (qJb H e.upd) K' a' w'→(∀l,K' l=K l∨(nl≤l∧l<nl+8))→(∀l gh,K l=some gh→K' l=some gh)→next a' w'):
  (if wtb o (yielded ops a.tmps) then o.wp P a w next Q∨(o.asks P a w∧LetsOut Q) else next (a.put o.dst undef) w):=by
 unfold qjK at h
 split at h
 ·rename_i hw
  rw [qMj R hw]
  simp only [if_true]
  refine .inl ?_
  unfold qaJ at h
  split at h
  ·rename_i oc os1 hoc
   simp only at h
   split at h
   ·rename_i out hout
    split at h
    ·rename_i v c2 os2 hdec
     simp only [wc,wk] at h
     obtain ⟨rfl,rfl,rfl⟩:=h
     have hc1:qqh c2∧qqh out.conds:=by
      clear hdec hn
      induction c2 with
      |nil=>exact ⟨trivial,hc⟩
      |cons x xs ih=>exact ⟨⟨hc.1,(ih hc.2).1⟩,(ih hc.2).2⟩
     have A:At c P GT H (qhe H (qXF (Ab.evT GT (Ab.keepT ts T)) o.op++qhx oc)) K w (Ab.evT GT (Ab.keepT ts T)) a.eval nl:=
      ⟨R.inv,qml,fun x=>R.keepT ts x,hf,R.ng,R.glob,R.gng⟩
     refine qnC (qMH A hout hc1.2) ?_
     rintro u w' ⟨K',S,hu⟩
     have hv:TVRd w' (NN c (qJb H out.upd) K' w') K' v u:=by
      unfold qRn at hdec
      split at hdec
      ·split at hdec
       ·rename_i b c' os'' hb
        simp only [wc,wk] at hdec
        obtain ⟨rfl,rfl,rfl⟩:=hdec
        rw [hb] at hu
        have:b=c':=hc1.1.1
        rw [←this];exact hu
       ·cases hdec
      ·simp only [wc,wk] at hdec
       obtain ⟨rfl,rfl,rfl⟩:=hdec
       exact hu
     exact hn _ _ K' (R.put S hv hd) S.fresh S.keep.k
    ·cases h
   ·cases h
  ·cases h
 ·rename_i hw
  rw [qMj R hw]
  simp only [wc,wk] at h
  obtain ⟨rfl,rfl,rfl⟩:=h
  simp only [wN,if_false]
  exact hn _ _ K (R.put (Stp.refl R.inv nl) rfl hd) (fun _=> .inl rfl) (fun _ _ h=>h)
 ·cases h
theorem qps {σ:St} {dst:Option Nat} {e:Ev}:qYy σ.look dst e.v=(σ.put dst e).look:=by
 funext t
 cases dst with
 |none=>rfl
 |some d=>
  simp only [qYy,St.look,St.put,qPR,lookL]
  by_cases h:t=d
  ·subst h;simp
  ·rw [if_neg h,if_neg (wJa h)]
theorem qEo {σ:St} {dst:Option Nat} {e:Ev}:qJb (qvb σ.heap) e.upd=qvb (σ.put dst e).heap:=by
 simp only [St.put,qKx]
theorem qVk:∀{a b:List Prop},qqh (a++b)→qqh a∧qqh b
 |[],b,h=>⟨trivial,h⟩
 |x::a,b,h=>⟨⟨h.1,(qVk h.2).1⟩,(qVk h.2).2⟩
structure RelS (c:Cx) (P:Program) (GT:qmi) (nt:Nat) (σ:St) (K:Kn) (a:Act) (w:World):Prop where
 rel:Rel c P GT nt σ.look (qvb σ.heap) K a w
 fresh:∀l,σ.next≤l→K l=none
theorem qxA {ops:Array Oper} {Q:Exit→Act→World→Prop} {n0:Nat}:∀(r:List Oper) (i:Nat) (σ σ':St) (os os':List Orc) (cs:List Prop) (tr:List (Oper×Ev)) (K:Kn) (a:Act) (w:World),
  qQo P GT nt ops.toList i r σ os=some (σ',cs,os',tr)→qqh cs→ops.toList.drop i=r→i+r.length=ops.size→σ.next=n0→Rel c P GT nt σ.look (qvb σ.heap) K a w→(∀l,n0+8*i≤l→K l=none)→
  (∀a' w' K',Rel c P GT nt σ'.look (qvb σ'.heap) K' a' w'→(∀l,n0+8*ops.size≤l→K' l=none)→(∀l gh,K l=some gh→K' l=some gh)→Q .normal a' w')→
  wpOps P ops Q (List.range' i r.length) a w
 |[],i,σ,σ',os,os',cs,tr,K,a,w,h,hc,hr,hi,hn,R,hf,hQ=>by
  simp only [qQo,wc,wk] at h
  obtain ⟨rfl,rfl,rfl,rfl⟩:=h
  simp only [wX] at hi
  exact hQ a w K R (fun l hl=>hf l (by omega)) (fun _ _ h=>h)
 |o::r,i,σ,σ',os,os',cs,tr,K,a,w,h,hc,hr,hi,hn,R,hf,hQ=>by
  simp only [qQo] at h
  split at h
  ·rename_i e c1 os1 hev
   split at h
   ·rename_i hd
    split at h
    ·rename_i σ2 c2 os2 tr2 hrest
     simp only [wc,wk] at h
     obtain ⟨rfl,rfl,rfl,rfl⟩:=h
     obtain ⟨hc1,hc2⟩:=qVk hc
     have hoi:ops[i]?=some o:=by
      rw [←wla,←List.head?_drop,hr];rfl
     have hr2:ops.toList.drop (i+1)=r:=by
      rw [←List.tail_drop,hr];rfl
     rw [wz,List.range'_succ,wpOps_cons]
     unfold wpOp
     rw [hoi]
     refine qhC R hev hc1 hd (fun l h1 h2=>hf l (by omega)) ?_
     intro a' w' K' R' hk hm
     rw [qps,qEo (dst:=o.dst)] at R'
     refine qxA r (i+1) (σ.put o.dst e) _ os1 _ c2 tr2 K' a' w' hrest hc2 hr2 (by simp only [wz] at hi;omega) hn R' (fun l hl=>?_) (fun a'' w'' K'' R'' h1 h2=>hQ a'' w'' K'' R'' h1 (fun l gh hl=>h2 l gh (hm l gh hl)))
     rcases hk l with h1|h1
     ·rw [h1];exact hf l (by omega)
     ·omega
    ·cases h
   ·cases h
  ·cases h
end
end Go.Ab

/-
  Regions in any order that their edges allow.
-/
set_option linter.unusedVariables false
set_option linter.unusedSimpArgs false
namespace Go.Ab
open Go
def sel (L:Nat→Bool):Nat→List (Oper×Ev)→St→St
 |_,[],σ=>σ
 |i,p::r,σ=>sel L (i+1) r (if L i then σ.put p.1.dst p.2 else σ)
theorem ut {σ:St} {dst:Option Nat} {e:Ev} {d:Nat}:(σ.put dst e).look d=if dst=some d then e.v else σ.look d:=by
 cases dst with
 |none=>simp [St.look,St.put,qPR]
 |some d'=>
  simp only [St.look,St.put,qPR,lookL,wc]
  by_cases h:d'=d <;> simp [h]
theorem uq {σ:St} {dst:Option Nat} {e:Ev} {l:Nat}:qvb (σ.put dst e).heap l=match lookL e.upd l with
  |some o=>o
  |none=>qvb σ.heap l:=by
 simp only [St.put,qKx,qJb]
 cases lookL e.upd l <;> rfl
theorem qjs {L:Nat→Bool}:∀{tr:List (Oper×Ev)} {i:Nat} {σ:St},(∀j,i≤j→L j=false)→sel L i tr σ=σ
 |[],_,_,_=>rfl
 |p::r,i,σ,h=>by
  simp only [sel,h i (ws _),wN,if_false]
  exact qjs (fun j hj=>h j (by omega))
theorem qTv {L L':Nat→Bool} {d:Nat}:∀{tr:List (Oper×Ev)} {i:Nat} {σ τ:St},(∀k p,tr[k]?=some p→L (i+k)≠L' (i+k)→p.1.dst≠some d)→σ.look d=τ.look d→(sel L i tr σ).look d=(sel L' i tr τ).look d
 |[],_,_,_,_,h=>h
 |p::r,i,σ,τ,h,h0=>by
  simp only [sel]
  refine qTv (fun k q hk hl=>h (k+1) q (by simpa using hk) (by rw [show i+(k+1)=i+1+k by omega];exact hl)) ?_
  have h1:=h 0 p rfl
  simp only [wqb] at h1
  cases hL:L i <;> cases hL':L' i <;> simp only [hL,hL',ne_eq,not_true_eq_false,wN,if_false,if_true,reduceCtorEq,not_false_eq_true,forall_const] at h1 ⊢
  ·exact h0
  ·rw [ut,if_neg h1];exact h0
  ·rw [ut,if_neg h1];exact h0
  ·rw [ut,ut,h0]
theorem qUv {L L':Nat→Bool} {l:Nat}:∀{tr:List (Oper×Ev)} {i:Nat} {σ τ:St},(∀k p,tr[k]?=some p→L (i+k)≠L' (i+k)→lookL p.2.upd l=none)→qvb σ.heap l=qvb τ.heap l→qvb (sel L i tr σ).heap l=qvb (sel L' i tr τ).heap l
 |[],_,_,_,_,h=>h
 |p::r,i,σ,τ,h,h0=>by
  simp only [sel]
  refine qUv (fun k q hk hl=>h (k+1) q (by simpa using hk) (by rw [show i+(k+1)=i+1+k by omega];exact hl)) ?_
  have h1:=h 0 p rfl
  simp only [wqb] at h1
  cases hL:L i <;> cases hL':L' i <;> simp only [hL,hL',ne_eq,not_true_eq_false,wN,if_false,if_true,reduceCtorEq,not_false_eq_true,forall_const] at h1 ⊢
  ·exact h0
  ·rw [uq,h1];exact h0
  ·rw [uq,h1];exact h0
  ·rw [uq,uq,h0]
theorem qAw {L:Nat→Bool} {d:Nat}:∀{tr:List (Oper×Ev)} {i k:Nat} {σ:St} {p:Oper×Ev},tr[k]?=some p→L (i+k)=true→p.1.dst=some d→(∀k' q,k<k'→tr[k']?=some q→L (i+k')=true→q.1.dst≠some d)→(sel L i tr σ).look d=p.2.v
 |[],_,_,_,_,h,_,_,_=>by simp at h
 |q::r,i,0,σ,p,h,hL,hd,hl=>by
  simp only [wWa,wc] at h;subst h
  simp only [wqb] at hL
  simp only [sel,hL,if_true]
  rw [qTv (L':=fun _=>false) (τ:=σ.put q.1.dst q.2) (fun k' q' hk hn=>?_) rfl,qjs (fun _ _=>rfl),ut,if_pos hd]
  refine hl (k'+1) q' (by omega) (by simpa using hk) ?_
  rw [show i+(k'+1)=i+1+k' by omega]
  simpa using hn
 |q::r,i,k+1,σ,p,h,hL,hd,hl=>by
  simp only [sel]
  refine qAw (k:=k) (by simpa using h) (by rw [show i+1+k=i+(k+1) by omega];exact hL) hd (fun k' q' hk hq hn=>hl (k'+1) q' (by omega) (by simpa using hq) ?_)
  rw [show i+(k'+1)=i+1+k' by omega];exact hn
theorem qBw {L:Nat→Bool} {l:Nat} {ob:Option Obj}:∀{tr:List (Oper×Ev)} {i k:Nat} {σ:St} {p:Oper×Ev},tr[k]?=some p→L (i+k)=true→lookL p.2.upd l=some ob→(∀k' q,k<k'→tr[k']?=some q→L (i+k')=true→lookL q.2.upd l=none)→qvb (sel L i tr σ).heap l=ob
 |[],_,_,_,_,h,_,_,_=>by simp at h
 |q::r,i,0,σ,p,h,hL,hd,hl=>by
  simp only [wWa,wc] at h;subst h
  simp only [wqb] at hL
  simp only [sel,hL,if_true]
  rw [qUv (L':=fun _=>false) (τ:=σ.put q.1.dst q.2) (fun k' q' hk hn=>?_) rfl,qjs (fun _ _=>rfl),uq,hd]
  refine hl (k'+1) q' (by omega) (by simpa using hk) ?_
  rw [show i+(k'+1)=i+1+k' by omega]
  simpa using hn
 |q::r,i,k+1,σ,p,h,hL,hd,hl=>by
  simp only [sel]
  refine qBw (k:=k) (by simpa using h) (by rw [show i+1+k=i+(k+1) by omega];exact hL) hd (fun k' q' hk hq hn=>hl (k'+1) q' (by omega) (by simpa using hq) ?_)
  rw [show i+(k'+1)=i+1+k' by omega];exact hn
section
variable {c:Cx} {P:Program} {GT:qmi} {H lk:qBc} {K:Kn} {w:World} {T:Nat→TV} {a:Act} {nl nt:Nat}
theorem qCw {L L':Nat→Bool}:∀{tr:List (Oper×Ev)} {i:Nat} {σ:St},(∀k,k<tr.length→L (i+k)=L' (i+k))→sel L i tr σ=sel L' i tr σ
 |[],_,_,_=>rfl
 |p::r,i,σ,h=>by
  have h0:=h 0 (by simp)
  simp only [wqb] at h0
  simp only [sel,h0]
  exact qCw (fun k hk=>by
   have:=h (k+1) (by simp;omega)
   rwa [show i+1+k=i+(k+1) by omega])
theorem qFu {ops:List Oper}:∀(r:List Oper) (i:Nat) (σ σ':St) (os os':List Orc) (cs:List Prop) (tr:List (Oper×Ev)),qQo P GT nt ops i r σ os=some (σ',cs,os',tr)→qqh cs→
  σ'=sel (fun _=>true) i tr σ∧tr.map (·.1)=r∧∀k p,tr[k]?=some p→∃os1 os2 cs1,qjK P GT ops (keepT (p.1.looksAt ops.toArray) (sel (fun j=>decide (j<i+k)) i tr σ).look) (qvb (sel (fun j=>decide (j<i+k)) i tr σ).heap) (σ.next+8*(i+k)) (i+k) p.1 os1=some (p.2,cs1,os2)∧qqh cs1∧qum nt p.1.dst=true
 |[],i,σ,σ',os,os',cs,tr,h,hc=>by
  simp only [qQo,wc,wk] at h
  obtain ⟨rfl,rfl,rfl,rfl⟩:=h
  exact ⟨rfl,rfl,fun k p hk=>by simp at hk⟩
 |o::r,i,σ,σ',os,os',cs,tr,h,hc=>by
  simp only [qQo] at h
  split at h
  ·rename_i e c1 os1 hev
   split at h
   ·rename_i hd
    split at h
    ·rename_i σ2 c2 os2 tr2 hrest
     simp only [wc,wk] at h
     obtain ⟨rfl,rfl,rfl,rfl⟩:=h
     obtain ⟨hc1,hc2⟩:=qVk hc
     obtain ⟨h1,h2,h3⟩:=qFu r (i+1) _ _ _ _ _ _ hrest hc2
     refine ⟨by simp only [sel,if_true];exact h1,by simp [h2],fun k p hk=>?_⟩
     cases k with
     |zero=>
      simp only [wWa,wc] at hk;subst hk
      rw [qjs (fun j hj=>by simp;omega)]
      exact ⟨os,os1,c1,hev,hc1,hd⟩
     |succ k=>
      simp only [wVa] at hk
      obtain ⟨o1,o2,c3,g1,g2,g3⟩:=h3 k p hk
      refine ⟨o1,o2,c3,?_,g2,g3⟩
      have:sel (fun j=>decide (j<i+(k+1))) i ((o,e)::tr2) σ=sel (fun j=>decide (j<i+1+k)) (i+1) tr2 (σ.put o.dst e):=by
       simp only [sel]
       rw [if_pos (by simp)]
       exact qCw (fun k' _=>by rw [show i+(k+1)=i+1+k by omega])
      rw [this,show i+(k+1)=i+1+k by omega]
      exact g1
    ·cases h
   ·cases h
  ·cases h
theorem qiz {L:List Nat} {H H':qBc} (h:∀l∈L,H l=H' l):qhe H L=qhe H' L:=by
 funext l
 unfold qhe
 split
 ·rename_i hl
  exact h l (by simpa [wva] using hl)
 ·rfl
theorem qGJ {ops:List Oper} {H H':qBc} {i:Nat} {o:Oper} {os os':List Orc} {e:Ev} {cs:List Prop} (h:qjK P GT ops T H nl i o os=some (e,cs,os')) (hH:∀l∈e.need,H l=H' l):qjK P GT ops T H' nl i o os=some (e,cs,os'):=by
 unfold qjK at h ⊢
 split at h
 ·rename_i hw
  unfold qaJ at h ⊢
  split at h
  ·rename_i oc os1 hoc
   simp only [hoc] at h ⊢
   split at h
   ·rename_i out hout
    split at h
    ·rename_i v c2 os2 hdec
     simp only [wc,wk] at h
     obtain ⟨rfl,rfl,rfl⟩:=h
     rw [←qiz hH,hout]
     simp only [hdec]
    ·cases h
   ·cases h
  ·cases h
 ·exact h
 ·cases h
theorem qix {acc:List Nat} {i:Nat}:∀{ps:List Nat},(qHD acc ps).testBit i=true→∃p∈ps,i=p∨(acc.getD p 0).testBit i=true
 |[],h=>by simp [qHD] at h
 |p::ps,h=>by
  simp only [qHD,Nat.testBit_or,wyb] at h
  rcases h with (h|h)|h
  ·refine ⟨p,wT, .inl ?_⟩
   rw [Nat.one_shiftLeft,Nat.testBit_two_pow] at h
   have h9:p=i:=by simpa using h
   exact h9.symm
  ·exact ⟨p,wT, .inr h⟩
  ·obtain ⟨q,h1,h2⟩:=qix h
   exact ⟨q,wO _ h1,h2⟩
theorem qNy {L:Nat→Bool}:∀{ops:List Oper} {acc:List Nat},(∀j i,L j=true→(acc.getD j 0).testBit i=true→L i=true)→(∀k o,ops[k]?=some o→L (acc.length+k)=true→∀i∈qkz o,L i=true)→
  ∀j i,L j=true→((qLQ ops acc).getD j 0).testBit i=true→L i=true
 |[],acc,h,_,j,i,hj,hi=>h j i hj hi
 |o::ops,acc,h,hp,j,i,hj,hi=>by
  simp only [qLQ] at hi
  refine qNy (fun j i hj hi=>?_) (fun k o' hk hL i hi=>hp (k+1) o' (by simpa using hk) (by rw [wn] at hL;simp at hL;rw [show acc.length+(k+1)=acc.length+1+k by omega];exact hL) i hi) j i hj hi
  by_cases h1:j<acc.length
  ·rw [wu,wza h1,←wu] at hi
   exact h j i hj hi
  ·by_cases h2:j=acc.length
   ·subst h2
    rw [wu,woa (ws _)] at hi
    simp only [Nat.sub_self,wWa,wcb] at hi
    obtain ⟨p,hp1,hp2⟩:=qix hi
    have hLp:=hp 0 o rfl hj p hp1
    rcases hp2 with rfl|hp2
    ·exact hLp
    ·exact h p i hLp hp2
   ·rw [wu,List.getElem?_eq_none (by simp;omega)] at hi
    simp at hi
def lst (listed:Array Bool) (j:Nat):Bool:=listed.getD j false
def cnt (n:Nat) (listed:Array Bool):Nat:=(wZa n).countP fun j=>!lst listed j
theorem qwi {listed:Array Bool} {i j:Nat} (hi:i<listed.size):lst (listed.setIfInBounds i true) j=(decide (j=i)||lst listed j):=by
 unfold lst
 by_cases h:j=i
 ·subst h;simp [hi]
 ·rw [getD_set_ne false (wJa h)];simp [h]
theorem qqQ {n:Nat} {listed:Array Bool} {i:Nat} (hs:i<listed.size) (hi:lst listed i=false):i<n→cnt n (listed.setIfInBounds i true)+1=cnt n listed:=by
 induction n with
 |zero=>intro h;omega
 |succ n ih=>
  intro hn
  simp only [cnt,List.range_succ,List.countP_append,List.countP_singleton] at ih ⊢
  by_cases h:i=n
  ·subst h
   have:(wZa i).countP (fun j=>!lst (listed.setIfInBounds i true) j)=(wZa i).countP (fun j=>!lst listed j):=by
    apply List.countP_congr
    intro j hj
    have:j≠i:=by have:=List.mem_range.1 hj;omega
    rw [qwi hs];simp [this]
   rw [this,qwi hs,hi];simp
  ·have:=ih (by omega)
   rw [qwi hs (j:=n)]
   simp only [show ¬n=i from fun e=>h e.symm,decide_false,Bool.false_or]
   omega
theorem qcO {n:Nat} {listed:Array Bool} (h:cnt n listed=0):∀j,j<n→lst listed j=true:=by
 intro j hj
 have:=List.countP_eq_zero.1 h j (List.mem_range.2 hj)
 simpa using this
theorem mem_preds {o:Oper} {i:Nat}:i∈qkz o↔∃e∈o.after,Region.binds .any e=true∧e.on=i:=by
 simp only [qkz,waa,List.mem_filter,Array.mem_toList_iff]
 constructor
 ·rintro ⟨e,⟨h1,h2⟩,h3⟩;exact ⟨e,h1,h2,h3⟩
 ·rintro ⟨e,h1,h2,h3⟩;exact ⟨e,⟨h1,h2⟩,h3⟩
theorem apart_spec {ops:List Oper} {x y:Oper×Ev} (h:Ab.apart ops x y=true):
  (Oper.apart ops.toArray x.1 y.1=true)∧(∀l ob,lookL x.2.upd l=some ob→l ∉ y.2.need∧lookL y.2.upd l=none)∧(∀l ob,lookL y.2.upd l=some ob→l ∉ x.2.need∧lookL x.2.upd l=none):=by
 simp only [Ab.apart,wA,wwa,wRa,wva,decide_eq_false_iff_not,List.any_eq_false,beq_iff_eq] at h
 obtain ⟨⟨h1,h2⟩,h3⟩:=h
 have key:∀(u v:List (Nat×Option Obj)) (l:Nat),(∀q∈v,¬q.1=l)→lookL v l=none:=by
  intro u v l h
  exact qTm (fun hm=>by obtain ⟨q,h4,h5⟩:=waa.1 hm;exact h q h4 h5)
 refine ⟨h1,fun l ob hl=>?_,fun l ob hl=>?_⟩
 ·have:=h2 _ (qlc hl)
  exact ⟨this.1,key [] _ _ this.2⟩
 ·refine ⟨h3 _ (qlc hl),?_⟩
  cases hx:lookL x.2.upd l with
  |none=>rfl
  |some ob'=>
   have:=(h2 _ (qlc hx)).2 _ (qlc hl)
   exact absurd rfl this
theorem qhJ {ops:Array Oper} {Q:Exit→Act→World→Prop} {σ σ':St} {os os':List Orc} {cs:List Prop} {tr:List (Oper×Ev)} {K0:Kn}
  (h:qQo P GT nt ops.toList 0 ops.toList σ os=some (σ',cs,os',tr)) (hc:qqh cs) (hd:qrI ops.toList tr=true)
  (hQ:∀a' w' K',Rel c P GT nt σ'.look (qvb σ'.heap) K' a' w'→(∀l,σ.next+8*ops.size≤l→K' l=none)→(∀l gh,K0 l=some gh→K' l=some gh)→Q .normal a' w'):
  ∀(fuel:Nat) (listed:Array Bool) (K:Kn) (a:Act) (w:World),listed.size=ops.size→
   (∀(j:Nat) (o:Oper),ops[j]?=some o→lst listed j=true→∀i∈qkz o,lst listed i=true)→
   Rel c P GT nt (sel (lst listed) 0 tr σ).look (qvb (sel (lst listed) 0 tr σ).heap) K a w→
   (∀i,i<ops.size→lst listed i=false→∀l,σ.next+8*i≤l→l<σ.next+8*i+8→K l=none)→
   (∀l,σ.next+8*ops.size≤l→K l=none)→(∀l gh,K0 l=some gh→K l=some gh)→cnt ops.size listed≤fuel→
   wpAny P .any ops Q fuel listed a w:=by
 obtain ⟨hσ',htr,hfacts⟩:=qFu ops.toList 0 σ σ' os os' cs tr h hc
 have hlen:tr.length=ops.size:=by
  have:=congrArg we htr
  simpa using this
 have htri:∀(i:Nat) (o:Oper),ops[i]?=some o→∃e:Ev,tr[i]?=some (o,e):=by
  intro i o ho
  have hi:i<tr.length:=by rw [hlen];exact (wXa.1 ho).1
  refine ⟨tr[i].2,?_⟩
  have h1:(tr.map (·.1))[i]?=some o:=by rw [htr,wla];exact ho
  rw [wxa,wx hi] at h1
  simp only [wCa,wc] at h1
  rw [wx hi,←h1]
 have htro:∀(i:Nat) (p:Oper×Ev),tr[i]?=some p→ops[i]?=some p.1:=by
  intro i p hp
  have h1:(tr.map (·.1))[i]?=some p.1:=by rw [wxa,hp];rfl
  rw [htr,wla] at h1;exact h1
 have hdo:=hd
 unfold qrI at hdo
 simp only [wwa,List.mem_range,wQa,wA,decide_eq_true_eq] at hdo
 have hpre:∀(j:Nat) (o:Oper),ops[j]?=some o→∀i∈qkz o,i<j:=by
  intro j o ho i hi
  have hj:=(wXa.1 ho).1
  have:=(hdo j hj).1 i
  rw [wu,wla,ho] at this
  exact this hi
 have hpair:∀(i j:Nat) (x y:Oper×Ev),i<j→tr[i]?=some x→tr[j]?=some y→((qLQ ops.toList []).getD j 0).testBit i=true∨Ab.apart ops.toList x y=true:=by
  intro i j x y hij hx hy
  have hj:j<ops.size:=by rw [←hlen];exact (wga.1 hy).1
  have:=(hdo j hj).2 i hij
  unfold qQO at this
  rw [hx,hy] at this
  simpa [wva] using this
 have hanc:∀(L:Nat→Bool),(∀(j:Nat) (o:Oper),ops[j]?=some o→L j=true→∀i∈qkz o,L i=true)→∀j i,L j=true→((qLQ ops.toList []).getD j 0).testBit i=true→L i=true:=by
  intro L hL
  refine qNy (fun j i _ hi=>by simp at hi) (fun k o hk hLk i hi=>?_)
  simp only [wX,wJ] at hLk
  exact hL k o (by rw [←wla];exact hk) hLk i hi
 have hend:∀(listed:Array Bool) (K:Kn) (a:Act) (w:World),Rel c P GT nt (sel (lst listed) 0 tr σ).look (qvb (sel (lst listed) 0 tr σ).heap) K a w→(∀j,j<ops.size→lst listed j=true)→
   (∀l,σ.next+8*ops.size≤l→K l=none)→(∀l gh,K0 l=some gh→K l=some gh)→Q .normal a w:=by
  intro listed K a w R hall hf hm
  have:sel (lst listed) 0 tr σ=σ':=by
   rw [hσ']
   exact qCw (fun k hk=>by simp only [wJ];exact hall k (by omega))
  rw [this] at R
  exact hQ a w K R hf hm
 intro fuel
 induction fuel with
 |zero=>
  intro listed K a w hsz hcl R hfr hft hm hcnt
  have hall:=qcO (Nat.le_zero.1 hcnt)
  refine ⟨?_,hend listed K a w R hall hft hm⟩
  cases hr:Region.ready .any ops listed with
  |nil=>rfl
  |cons x xs=>
   exfalso
   obtain ⟨h0,o,ho,_⟩:=mem_ready.1 (hr▸wT:x∈Region.ready .any ops listed)
   have hx:=(wXa.1 ho).1
   have:=hall x hx
   unfold lst at this
   rw [wAa] at this h0
   rw [Array.getElem?_eq_getElem (by omega)] at this h0
   simp only [wcb] at this h0
   rw [this] at h0;cases h0
 |succ fuel ih=>
  intro listed K a w hsz hcl R hfr hft hm hcnt
  have hgd:∀j,j<ops.size→listed.getD j true=lst listed j:=by
   intro j hj
   unfold lst
   rw [wAa,wAa,Array.getElem?_eq_getElem (by omega)]
   rfl
  refine ⟨fun hnil=>?_,fun i hi=>?_⟩
  ·refine hend listed K a w R ?_ hft hm
   intro j
   induction j using Nat.strongRecOn with
   |ind j ihj=>
    intro hj
    cases hl:lst listed j with
    |true=>rfl
    |false=>
     exfalso
     have hoj:ops[j]?=some ops[j]:=Array.getElem?_eq_getElem hj
     have:j∈Region.ready .any ops listed:=by
      refine mem_ready.2 ⟨by rw [hgd j hj];exact hl,ops[j],hoj,fun e he hb=>?_⟩
      have h1:=hpre j _ hoj e.on (mem_preds.2 ⟨e,he,hb,rfl⟩)
      exact ihj e.on h1 (by omega)
     rw [hnil] at this;cases this
  ·obtain ⟨h0,o,ho,hall⟩:=mem_ready.1 hi
   have hin:=(wXa.1 ho).1
   rw [hgd i hin] at h0
   obtain ⟨e,htre⟩:=htri i o ho
   have hpredsL:∀j∈qkz o,lst listed j=true:=by
    intro j hj
    obtain ⟨ed,h1,h2,h3⟩:=mem_preds.1 hj
    rw [←h3];exact hall ed h1 h2
   obtain ⟨os1,os2,cs1,hev,hcs1,hdst⟩:=hfacts i (o,e) htre
   simp only [wJ,Array.toArray_toList] at hev
   have hcl':∀(j:Nat) (o':Oper),ops[j]?=some o'→lst (listed.setIfInBounds i true) j=true→∀i'∈qkz o',lst (listed.setIfInBounds i true) i'=true:=by
    intro j o' ho' hj i' hi'
    rw [qwi (by omega)] at hj ⊢
    simp only [wyb,decide_eq_true_eq] at hj ⊢
    rcases hj with rfl|hj
    ·rw [ho] at ho';injection ho' with ho';subst ho'
     exact .inr (hpredsL i' hi')
    ·exact .inr (hcl j o' ho' hj i' hi')
   have hlater:∀(k:Nat) (q:Oper×Ev),i<k→tr[k]?=some q→lst listed k=true→Ab.apart ops.toList (o,e) q=true:=by
    intro k q hk hq hL
    refine (hpair i k (o,e) q hk htre hq).resolve_left (fun ha=>?_)
    have:=hanc (lst listed) hcl k i hL ha
    rw [h0] at this;cases this
   have hearlier:∀(k:Nat) (q:Oper×Ev),k<i→tr[k]?=some q→lst listed k=false→Ab.apart ops.toList q (o,e)=true:=by
    intro k q hk hq hL
    refine (hpair k i q (o,e) hk hq htre).resolve_left (fun ha=>?_)
    have:=hanc (lst (listed.setIfInBounds i true)) hcl' i k (by rw [qwi (by omega)];simp) ha
    rw [qwi (by omega),hL] at this
    simp at this;omega
   have hT:keepT (o.looksAt ops) (sel (fun j=>decide (j<i)) 0 tr σ).look=keepT (o.looksAt ops) (sel (lst listed) 0 tr σ).look:=by
    funext d
    unfold keepT
    split
    ·rename_i hmem
     have hmem:d∈o.looksAt ops:=by simpa [wva] using hmem
     refine qTv (fun k q hq hne=>?_) rfl
     simp only [wJ] at hne
     intro hqd
     by_cases hk:k<i
     ·have:=(apart_spec (hearlier k q hk hq (by simpa [hk] using hne))).1
      simp only [Array.toArray_toList] at this
      exact (Oper.apart_spec this).1 d hqd hmem
     ·by_cases hki:k=i
      ·subst hki;rw [h0] at hne;simp at hne
      ·have:=(apart_spec (hlater k q (by omega) hq (by simpa [hk] using hne))).1
       simp only [Array.toArray_toList] at this
       exact (Oper.apart_spec this).2.2 d hqd hmem
    ·rfl
   have hH:∀l∈e.need,qvb (sel (fun j=>decide (j<i)) 0 tr σ).heap l=qvb (sel (lst listed) 0 tr σ).heap l:=by
    intro l hl
    refine qUv (fun k q hq hne=>?_) rfl
    simp only [wJ] at hne
    cases hx:lookL q.2.upd l with
    |none=>rfl
    |some ob=>
     exfalso
     by_cases hk:k<i
     ·exact ((apart_spec (hearlier k q hk hq (by simpa [hk] using hne))).2.1 l ob hx).1 hl
     ·by_cases hki:k=i
      ·subst hki;rw [h0] at hne;simp at hne
      ·exact ((apart_spec (hlater k q (by omega) hq (by simpa [hk] using hne))).2.2 l ob hx).1 hl
   rw [hT] at hev
   have hev2:=qGJ hev hH
   unfold wpOp
   rw [ho]
   refine qhC R hev2 hcs1 hdst (fun l g1 g2=>hfr i hin h0 l g1 g2) ?_
   intro a' w' K' R' hk hmk
   have hlook:qYy (sel (lst listed) 0 tr σ).look o.dst e.v=(sel (lst (listed.setIfInBounds i true)) 0 tr σ).look:=by
    funext d
    by_cases hdd:o.dst=some d
    ·have h1:qYy (sel (lst listed) 0 tr σ).look o.dst e.v d=e.v:=by rw [hdd];simp [qYy]
     rw [h1]
     refine (qAw (k:=i) (p:=(o,e)) htre (by simp only [wJ];rw [qwi (by omega)];simp) hdd (fun k' q hk' hq hL=>?_)).symm
     simp only [wJ] at hL
     rw [qwi (by omega)] at hL
     have hL':lst listed k'=true:=by
      have:¬k'=i:=by omega
      simpa [this] using hL
     have:=(apart_spec (hlater k' q hk' hq hL')).1
     simp only [Array.toArray_toList] at this
     exact (Oper.apart_spec this).2.1 d hdd
    ·have h1:qYy (sel (lst listed) 0 tr σ).look o.dst e.v d=(sel (lst listed) 0 tr σ).look d:=by
      cases hod:o.dst with
      |none=>rfl
      |some d'=>
       simp only [qYy]
       rw [if_neg (fun e'=>hdd (by rw [hod,e']))]
     rw [h1]
     refine qTv (fun k q hq hne=>?_) rfl
     simp only [wJ] at hne
     rw [qwi (by omega)] at hne
     have hki:k=i:=by
      rcases Classical.em (k=i) with h|h
      ·exact h
      ·simp [h] at hne
     subst hki
     rw [htre] at hq;injection hq with hq;subst hq
     exact hdd
   have hheap:qJb (qvb (sel (lst listed) 0 tr σ).heap) e.upd=qvb (sel (lst (listed.setIfInBounds i true)) 0 tr σ).heap:=by
    funext l
    cases hx:lookL e.upd l with
    |some ob=>
     simp only [qJb,hx]
     refine (qBw (k:=i) (p:=(o,e)) htre (by simp only [wJ];rw [qwi (by omega)];simp) hx (fun k' q hk' hq hL=>?_)).symm
     simp only [wJ] at hL
     rw [qwi (by omega)] at hL
     have hL':lst listed k'=true:=by
      have:¬k'=i:=by omega
      simpa [this] using hL
     exact ((apart_spec (hlater k' q hk' hq hL')).2.1 l ob hx).2
    |none=>
     simp only [qJb,hx]
     refine qUv (fun k q hq hne=>?_) rfl
     simp only [wJ] at hne
     rw [qwi (by omega)] at hne
     have hki:k=i:=by
      rcases Classical.em (k=i) with h|h
      ·exact h
      ·simp [h] at hne
     subst hki
     rw [htre] at hq;injection hq with hq;subst hq
     exact hx
   rw [hlook,hheap] at R'
   refine ih (listed.setIfInBounds i true) K' a' w' (by simpa using hsz) hcl' R' (fun j hj hL l g1 g2=>?_) (fun l hl=>?_) (fun l gh hl=>hmk l gh (hm l gh hl)) ?_
   ·rw [qwi (by omega)] at hL
    simp only [Bool.or_eq_false_iff,decide_eq_false_iff_not] at hL
    rcases hk l with h1|h1
    ·rw [h1];exact hfr j hj hL.2 l g1 g2
    ·omega
   ·rcases hk l with h1|h1
    ·rw [h1];exact hft l hl
    ·omega
   ·have:=qqQ (n:=ops.size) (listed:=listed) (i:=i) (by omega) h0 hin
    omega
end
end Go.Ab

/-
  Runs: from one position to another; calls.
-/
set_option linter.unusedVariables false
set_option linter.unusedSimpArgs false
namespace Go.Ab
open Go
section
variable {P:Program} {GT:qmi} {nt:Nat}
def Reach (P:Program) (GT:qmi) (nt:Nat) (s s':Pos):Prop:=
 ∀(c:Cx) (K:Kn) (a:Act) (w:World) (b:Frame) (cs:List Frame),RelS c P GT nt s.st K a w→
  ∃K' a' w',RelS c P GT nt s'.st K' a' w'∧(∀l gh,l<8→K l=some gh→K' l=some gh)∧Steps P (lone (b.at a s.todo) cs w) (lone (b.at a' s'.todo) cs w')
theorem Reach.refl (s:Pos):Reach P GT nt s s:=fun c K a w b cs R=>⟨K,a,w,R,fun _ _ _ h=>h,Steps.refl _ _⟩
theorem Reach.trans {s s1 s2:Pos} (h:Reach P GT nt s s1) (k:Reach P GT nt s1 s2):Reach P GT nt s s2:=by
 intro c K a w b cs R
 obtain ⟨K1,a1,w1,R1,m1,st1⟩:=h c K a w b cs R
 obtain ⟨K2,a2,w2,R2,m2,st2⟩:=k c K1 a1 w1 b cs R1
 exact ⟨K2,a2,w2,R2,fun l gh hl hk=>m2 l gh hl (m1 l gh hl hk),st1.trans st2⟩
theorem Reach.one {todo todo':List Item} {σ:St} (h:∀(a:Act) (w:World) (b:Frame) (cs:List Frame),step P (lone (b.at a todo) cs w)= .next (lone (b.at a todo') cs w)):Reach P GT nt ⟨todo,σ⟩ ⟨todo',σ⟩:=
 fun c K a w b cs R=>⟨K,a,w,R,fun _ _ _ h=>h, .one (h a w b cs)⟩
theorem qpD (hm:P.follows .mixedOrders=true) {id:Nat} {ops:Array Oper} {draw:Bool} {σ σ':St} {os os':List Orc} {cs:List Prop} (h:qPo P GT nt ops.toList draw σ os=some (σ',cs,os')) (hc:qqh cs)
  {c:Cx} {K:Kn} {a:Act} {w:World} (R:RelS c P GT nt σ K a w):
  (Code.region id ops draw).wp P (fun e a' w'=>e= .normal∧∃K',RelS c P GT nt σ' K' a' w'∧(∀l gh,K l=some gh→K' l=some gh)) a w:=by
 unfold qPo at h
 split at h
 ·rename_i σ2 c2 os2 tr hrun
  split at h
  ·rename_i hd
   simp only [wc,wk] at h
   obtain ⟨rfl,rfl,rfl⟩:=h
   have hQ:∀a' w' K',Rel c P GT nt σ2.look (qvb σ2.heap) K' a' w'→(∀l,σ.next+8*ops.size≤l→K' l=none)→(∀l gh,K l=some gh→K' l=some gh)→
     (Exit.normal=Exit.normal∧∃K',RelS c P GT nt {σ2 with next:=σ.next+8*ops.toList.length} K' a' w'∧(∀l gh,K l=some gh→K' l=some gh)):=by
    intro a' w' K' R' hf hk
    exact ⟨rfl,K',⟨R',fun l hl=>hf l (by simpa using hl)⟩,hk⟩
   cases draw with
   |false=>
    refine wp_region ?_
    have:=qxA (Q:=fun e a' w'=>e= .normal∧∃K',RelS c P GT nt {σ2 with next:=σ.next+8*ops.toList.length} K' a' w'∧(∀l gh,K l=some gh→K' l=some gh)) ops.toList 0 σ σ2 os os2 c2 tr K a w hrun hc (by simp) (by simp) rfl R.rel (fun l hl=>R.fresh l (by omega)) hQ
    rw [List.range_eq_range']
    simpa using this
   |true=>
    simp only [Bool.not_true,Bool.false_or] at hd
    have R1:Rel c P GT nt σ.look (qvb σ.heap) K a {w with drawn:=w.drawn+1}:=by
     have:=R.rel.put (Stp.drawn R.rel.inv σ.next (w.drawn+1)) (dst:=none) (v:= .one .undef) (u:=undef) trivial rfl
     exact this
    have hl0:∀j,lst (Array.replicate ops.size false) j=false:=by
     intro j
     unfold lst
     rw [wAa,Array.getElem?_replicate]
     split <;> rfl
    have hs0:sel (lst (Array.replicate ops.size false)) 0 tr σ=σ:=qjs (fun j _=>hl0 j)
    refine wp_region_any hm ?_
    refine qhJ (K0:=K) hrun hc hd hQ ops.size (Array.replicate ops.size false) K a _ (by simp) (fun j o _ hj=>by rw [hl0] at hj;cases hj) (by rw [hs0];exact R1) (fun i _ _ l h1 _=>R.fresh l (by omega)) (fun l hl=>R.fresh l (by omega)) (fun _ _ h=>h) ?_
    have:=List.countP_le_length (p:=fun j=>!lst (Array.replicate ops.size false) j) (l:=wZa ops.size)
    simpa [cnt] using this
  ·cases h
 ·cases h
theorem qel (hm:P.follows .mixedOrders=true) {s s':Pos} {os os':List Orc} {cs:List Prop} (h:qCq P GT nt s os=some (s',cs,os')) (hc:qqh cs):Reach P GT nt s s':=by
 obtain ⟨todo,σ⟩:=s
 unfold qCq at h
 split at h
 ·rename_i k hk;simp only at hk;subst hk
  simp only [wc,wk] at h;obtain ⟨rfl,rfl,rfl⟩:=h
  exact Reach.one (fun a w b cs=>step_skip)
 ·rename_i k hk;simp only at hk;subst hk
  simp only [wc,wk] at h;obtain ⟨rfl,rfl,rfl⟩:=h
  exact Reach.one (fun a w b cs=>step_label)
 ·rename_i k hk;simp only at hk;subst hk
  simp only [wc,wk] at h;obtain ⟨rfl,rfl,rfl⟩:=h
  exact Reach.one (fun a w b cs=>step_inBlock)
 ·rename_i k hk;simp only at hk;subst hk
  simp only [wc,wk] at h;obtain ⟨rfl,rfl,rfl⟩:=h
  exact Reach.one (fun a w b cs=>step_inScope)
 ·rename_i body k hk;simp only at hk;subst hk
  simp only [wc,wk] at h;obtain ⟨rfl,rfl,rfl⟩:=h
  exact Reach.one (fun a w b cs=>step_scope)
 ·rename_i x y k hk;simp only at hk;subst hk
  simp only [wc,wk] at h;obtain ⟨rfl,rfl,rfl⟩:=h
  exact Reach.one (fun a w b cs=>step_seq)
 ·rename_i x y z k hk;simp only at hk;subst hk
  split at h
  ·rename_i b t os2 hb
   simp only [wc,wk] at h;obtain ⟨rfl,rfl,rfl⟩:=h
   intro c K a w fb cs' R
   have h1:=R.rel.evT x
   have h2:Ab.evT GT σ.look x= .one (.bool b):=hb
   rw [h2] at h1
   have h3:a.eval x= .bool b:=h1
   have hbt:b=t:=hc.1
   subst hbt
   exact ⟨K,a,w,R,fun _ _ _ h=>h, .one (step_cond h3)⟩
  ·cases h
 ·rename_i id body k hk;simp only at hk;subst hk
  simp only [wc,wk] at h;obtain ⟨rfl,rfl,rfl⟩:=h
  exact Reach.one (fun a w b cs=>step_block)
 ·rename_i body k hk;simp only at hk;subst hk
  simp only [wc,wk] at h;obtain ⟨rfl,rfl,rfl⟩:=h
  exact Reach.one (fun a w b cs=>step_loop)
 ·rename_i body k hk;simp only at hk;subst hk
  simp only [wc,wk] at h;obtain ⟨rfl,rfl,rfl⟩:=h
  exact Reach.one (fun a w b cs=>step_inLoop)
 ·rename_i id k hk;simp only at hk;subst hk
  split at h
  ·rename_i k' he
   simp only [wc,wk] at h;obtain ⟨rfl,rfl,rfl⟩:=h
   exact Reach.one (fun a w b cs=>step_exit he)
  ·cases h
 ·rename_i l k hk;simp only at hk;subst hk
  split at h
  ·rename_i k' he
   simp only [wc,wk] at h;obtain ⟨rfl,rfl,rfl⟩:=h
   exact Reach.one (fun a w b cs=>step_goto he)
  ·cases h
 ·rename_i id ops draw k hk;simp only at hk;subst hk
  split at h
  ·rename_i σ' c' os2 hr
   simp only [wc,wk] at h;obtain ⟨rfl,rfl,rfl⟩:=h
   intro c K a w b cs' R
   obtain ⟨e,a',w',⟨rfl,K',R',hk⟩,harr⟩:=qpD hm (id:=id) hr hc R b k cs'
   exact ⟨K',a',w',R',fun l gh _ hl=>hk l gh hl,harr⟩
  ·cases h
 ·cases h
def qqH (tmps:Array Value):ResultVar→Sem Value
 | .tmp t=>pure (tmps.getD t undef)
 | .cell a t=>do loadVar t (←asAddr (tmps.getD a undef))
theorem qeJ (fn:Func) (tmps:Array Value):results fn tmps=(do
  let vs ←fn.results.mapM (qqH tmps)
  pure (if h:vs.size=1 then vs[0] else .tuple vs)):=by
 unfold results
 congr 1
theorem qzA {c:Cx} {σ:St} {K:Kn} {a:Act} {w:World} (R:RelS c P GT nt σ K a w):∀{rs:List ResultVar} {vs:List AV},qzt P σ rs=some vs→
  ∃us:List Value,(rs.mapM (qqH a.tmps)).run P w= .ok us w∧VRdL w (NN c (qvb σ.heap) K w) K vs us
 |[],vs,h=>by
  simp only [qzt,wc] at h;subst h
  exact ⟨[],rfl,rfl⟩
 |r::rs,vs,h=>by
  simp only [qzt] at h
  split at h
  ·rename_i v vs' h1 h2
   simp only [wc] at h;subst h
   obtain ⟨us,g1,g2⟩:=qzA R h2
   cases r with
   |tmp t=>
    simp only [qLK] at h1
    split at h1
    ·rename_i v' hv
     simp only [wc] at h1;subst h1
     have:=R.rel.tmps t
     rw [hv] at this
     refine ⟨a.tmps.getD t undef::us,?_,⟨_,_,rfl,this,g2⟩⟩
     simp only [List.mapM_cons,qqH,ww,wH,wt,g1]
    ·cases h1
   |cell b T=>
    simp only [qLK] at h1
    split at h1
    ·rename_i x hx
     have:=R.rel.tmps b
     rw [hx] at this
     obtain ⟨ad,u,e1,e2,e3⟩:=qEL (P:=P) R.rel.inv (fun _ _ h=>h) this h1
     refine ⟨u::us,?_,⟨_,_,rfl,e3,g2⟩⟩
     have e1':a.tmps.getD b undef= .pointer (some ad):=e1
     simp only [List.mapM_cons,qqH,ww,e1',asAddr,wH,wt,e2,g1]
    ·cases h1
  ·cases h
theorem VRdL.len {w:World} {N:Bool→Nat→Prop} {K:Kn}:∀{as:List AV} {vs:List Value},VRdL w N K as vs→vs.length=as.length
 |[],_,h=>by simp only [VRdL] at h;simp [h]
 |_::_,_,h=>by
  obtain ⟨v,r,rfl,_,h⟩:=h
  simp [h.len]
theorem qpH {c:Cx} {σ:St} {K:Kn} {a:Act} {w:World} (R:RelS c P GT nt σ K a w) {fn:Func} {res:TV} (h:qKF P σ fn.results.toList=some res):
  ∃v,(results fn a.tmps).run P w= .ok v w∧TVRd w (NN c (qvb σ.heap) K w) K res v:=by
 unfold qKF at h
 have key:∀vs,qzt P σ fn.results.toList=some vs→∃us:List Value,(results fn a.tmps).run P w= .ok (if h:us.toArray.size=1 then us.toArray[0] else .tuple us.toArray) w∧VRdL w (NN c (qvb σ.heap) K w) K vs us:=by
  intro vs hvs
  obtain ⟨us,h1,h2⟩:=qzA R hvs
  refine ⟨us,?_,h2⟩
  rw [qeJ,Array.mapM_eq_mapM_toList]
  simp only [ww,Sem.run_map,h1,wt,bind_pure_comp,Functor.map_map]
 split at h
 ·rename_i v hv
  simp only [wc] at h;subst h
  obtain ⟨us,h1,h2⟩:=key _ hv
  obtain ⟨u,rfl,h3⟩:=h2.one_inv
  exact ⟨u,by simpa using h1,h3⟩
 ·rename_i vs hv hne
  simp only [wc] at h;subst h
  obtain ⟨us,h1,h2⟩:=key _ hne
  have hl:=h2.len
  have:us.toArray.size≠1:=by
   intro e
   simp only [wMa] at e
   rw [hl] at e
   obtain ⟨x,rfl⟩:=List.length_eq_one_iff.1 e
   exact hv x rfl
  rw [dif_neg this] at h1
  exact ⟨_,h1,us,rfl,h2⟩
 ·cases h
def qGR:Nat→List AV→List (Nat×TV)
 |_,[]=>[]
 |i,v::r=>(i, .one v)::qGR (i+1) r
def st0 (args:List AV) (pre:List (Nat×Obj)):St:={tmps:=qGR 0 args,heap:=qRc pre,next:=8}
theorem qRt:∀{args:List AV} {i t:Nat},lookL (qGR i args) t=if i≤t then (args[t - i]?).map .one else none
 |[],i,t=>by simp [qGR,lookL]
 |v::r,i,t=>by
  simp only [qGR,lookL]
  by_cases h:i=t
  ·subst h;simp
  ·rw [if_neg h,qRt]
   by_cases h2:i+1≤t
   ·rw [if_pos h2,if_pos (by omega),show t - i=(t - (i+1))+1 by omega,wVa]
   ·rw [if_neg h2]
    rw [if_neg (by omega)]
theorem qdk {rs:List (Nat×Obj)}:qvb (qRc rs)=lookL rs:=by
 funext l
 unfold qvb
 induction rs with
 |nil=>rfl
 |cons p r ih=>
  simp only [qRc,wI,lookL] at ih ⊢
  by_cases h:p.1=l
  ·simp [h]
  ·simp only [h,if_false];exact ih
end
end Go.Ab

/-
  Channels of one goroutine: a send into a buffer with room, a receive from a buffer that holds something.
-/
set_option linter.unusedVariables false
set_option linter.unusedSimpArgs false
namespace Go.Ab
open Go Go.Conc
def qsP (P:Program) (o:Oper) (ρ:Operand→Value) (w:World) (R:Value→World→Prop):Prop:=
 (∃ch v z cap buf s r,(execOp ρ o).run P w= .ok (.comm #[scase ch v z] true .send) w∧w.heap[ch]?=some (.chan cap buf false s r false)∧buf.size<cap∧R undef (w.setChan ch cap (buf.push v) false (s+1) r false))∨
 ∃ch z cap buf cl s r,(execOp ρ o).run P w= .ok (.comm #[rcase ch z] true (.recv false)) w∧w.heap[ch]?=some (.chan cap buf cl s r false)∧0<buf.size∧R (buf.getD 0 undef) (w.setChan ch cap (buf.extract 1 buf.size) cl s (r+1) false)
theorem qBM {P:Program} {ops:Array Oper} {i:Nat} {rest:List Nat} {o:Oper} {a:Act} {w:World} {R:Value→World→Prop} (ho:ops[i]?=some o) (hw:wtb o (yielded ops a.tmps)=true) (h:qsP P o a.eval w R) (b:Frame) (k:List Item) (cs:List Frame):
  ∃v w',R v w'∧step P (lone (b.at a (.inRegion ops (i::rest)::k)) cs w)= .next (lone (b.at (a.put o.dst v) (.inRegion ops rest::k)) cs w'):=by
 have hfin:∀v,(b.at a (.inRegion ops (i::rest)::k)).finish v=b.at (a.put o.dst v) (.inRegion ops rest::k):=by
  intro v;rw [Frame.finish_at,ho];rfl
 have hg:=stepG_op (P:=P) (b:=b) (k:=k) (cs:=cs) (w:=w) (rest:=rest) ho hw
 rcases h with ⟨ch,v,z,cap,buf,s,r,h1,h2,h3,h4⟩|⟨ch,z,cap,buf,cl,s,r,h1,h2,h3,h4⟩
 ·have hs:∃es,stepG P true (G (b.at a (.inRegion ops (i::rest)::k)) cs) w= .comm (G (b.at a (.inRegion ops (i::rest)::k)) cs) #[scase ch v z] true .send w es:=by
   have hs:=hg
   simp only [stepG.apply,Sem.runT_eq,h1] at hs
   exact ⟨_,hs⟩
  obtain ⟨es,hs⟩:=hs
  refine ⟨undef,_,h4,?_⟩
  rw [←hfin]
  exact step_lone_send_room hs h2 h3
 ·have hs:∃es,stepG P true (G (b.at a (.inRegion ops (i::rest)::k)) cs) w= .comm (G (b.at a (.inRegion ops (i::rest)::k)) cs) #[rcase ch z] true (.recv false) w es:=by
   have hs:=hg
   simp only [stepG.apply,Sem.runT_eq,h1] at hs
   exact ⟨_,hs⟩
  obtain ⟨es,hs⟩:=hs
  refine ⟨buf.getD 0 undef,_,h4,?_⟩
  rw [←hfin]
  exact step_lone_recv_buf false hs h2 h3
theorem qsB {P:Program} {ops:Array Oper} {i:Nat} {rest:List Nat} {o:Oper} {a:Act} {w:World} {next:Act→World→Prop} (ho:ops[i]?=some o)
  (h:if wtb o (yielded ops a.tmps) then o.wp P a w next (fun _ _ _=>False)∨(o.asks P a w∧LetsOut (fun _ _ _=>False)) else next (a.put o.dst undef) w) (b:Frame) (k:List Item) (cs:List Frame):
  ∃a' w',next a' w'∧Steps P (lone (b.at a (.inRegion ops (i::rest)::k)) cs w) (lone (b.at a' (.inRegion ops rest::k)) cs w'):=by
 by_cases hw:wtb o (yielded ops a.tmps)=true
 ·rw [if_pos hw] at h
  rcases h with h|⟨_,_,_,h⟩
  ·have hfin:∀v,(b.at a (.inRegion ops (i::rest)::k)).finish v=b.at (a.put o.dst v) (.inRegion ops rest::k):=by
    intro v;rw [Frame.finish_at,ho];rfl
   have hg:=stepG_op (P:=P) (b:=b) (k:=k) (cs:=cs) (w:=w) (rest:=rest) ho hw
   unfold Oper.wp at h
   cases hr:(execOp a.eval o).run P w with
   |halt x w'=>
    rw [hr] at h
    cases x <;> first|exact h.elim|(simp [Oper.upon] at h)
   |ok n w'=>
    rw [hr] at h
    cases n <;> simp only [Oper.upon] at h
    case value v=>
     refine ⟨_,_,h, .one (step_lone_go ?_)⟩
     rw [hg,←hfin];simp [stepG.apply,hr]
    case skip=>
     refine ⟨_,_,h, .one (step_lone_go ?_)⟩
     rw [hg,←hfin];simp [stepG.apply,hr]
    case enter f args=>
     obtain ⟨e,w2,fr,hR,hsteps,_,hleave⟩:=h (b.at a (.inRegion ops (i::rest)::k)::cs)
     cases e with
     |returned v=>
      have henter:step P (lone (b.at a (.inRegion ops (i::rest)::k)) cs w)= .next (lone (Frame.enter P f args .normal) (b.at a (.inRegion ops (i::rest)::k)::cs) w'):=
       step_lone_go (by rw [hg];simp [stepG.apply,hr,Frame.at])
      refine ⟨_,_,hR, .head henter (Steps.trans hsteps (.one ?_))⟩
      rw [←hfin];exact step_leave_returned hleave
     |panicked qOe=>exact hR.elim
     |outgrown=>exact (hR.choose_spec.choose_spec).elim
    case row row args=>
     obtain ⟨v,w2,hR,hsteps⟩:=h (b.at a (.inRegion ops (i::rest)::k)) cs
     have henter:step P (lone (b.at a (.inRegion ops (i::rest)::k)) cs w)= .next (lone (Frame.ofRow P row args .normal) (b.at a (.inRegion ops (i::rest)::k)::cs) w'):=
      step_lone_go (by rw [hg];simp [stepG.apply,hr,Frame.at])
     refine ⟨_,_,hR, .head henter ?_⟩
     rw [←hfin];exact hsteps
    case defer d=>
     refine ⟨_,_,h, .one (step_lone_go ?_)⟩
     have:({b.at a (.inRegion ops (i::rest)::k) with defers:=d::a.defers}:Frame).finish undef=b.at ({a with defers:=d::a.defers}.put o.dst undef) (.inRegion ops rest::k):=by
      have:=Frame.finish_at b {a with defers:=d::a.defers} ops i rest k undef
      rw [ho] at this;exact this
     rw [hg];simp only [stepG.apply,Sem.runT_eq,hr,GStep.bare_after]
     exact congrArg (fun fr=>GStep.go {frame:=fr,callers:=cs,status:= .running,dying:=none} w') this
  ·exact h.elim
 ·rw [if_neg hw] at h
  have hs:=step_op_skip (P:=P) (b:=b) (a:=a) (k:=k) (cs:=cs) (w:=w) (ops:=ops) (i:=i) (rest:=rest) (by simp [ho];simpa using hw)
  simp only [ho,wq] at hs
  exact ⟨_,_,h, .one hs⟩
section
variable {c:Cx} {P:Program} {GT:qmi} {H lk:qBc} {K:Kn} {w:World} {ev:Operand→TV} {ρ:Operand→Value} {nl:Nat}
theorem ChRd.snoc {w:World} {N:Nat→Prop} {e:Ty} {u:pden e} {cs:List Value} (hu:PRd w N e u cs):∀{xs:List (pden e)} {vs:List Value},ChRd w N e xs vs→ChRd w N e (xs++[u]) (vs++[qub e cs])
 |[],_,h=>by
  simp only [ChRd] at h;subst h
  exact ⟨cs,[],rfl,hu,rfl⟩
 |_::_,_,h=>by
  obtain ⟨cs',r,rfl,h2,h3⟩:=h
  exact ⟨cs',_,rfl,h2,ChRd.snoc hu h3⟩
theorem ChRd.len {w:World} {N:Nat→Prop} {e:Ty}:∀{xs:List (pden e)} {vs:List Value},ChRd w N e xs vs→vs.length=xs.length
 |[],_,h=>by simp only [ChRd] at h;subst h;rfl
 |_::_,_,h=>by
  obtain ⟨cs',r,rfl,h2,h3⟩:=h
  rw [wz,ChRd.len h3,wz]
theorem qCu {w:World} {b cap:Nat} {buf:Array Value} {cl:Bool} {s r:Nat}:(w.setChan b cap buf cl s r false).os=w.os∧(w.setChan b cap buf cl s r false).tape=w.tape∧(w.setChan b cap buf cl s r false).output=w.output∧(w.setChan b cap buf cl s r false).heap.size=w.heap.size∧∀k,k≠b→(w.setChan b cap buf cl s r false).heap[k]?=w.heap[k]?:=
 ⟨rfl,rfl,rfl,size_setChan ..,fun k hk=>by simp only [World.setChan];rw [Array.getElem?_setIfInBounds_ne (wJa hk)]⟩
theorem qTJ (A:At c P GT H lk K w ev ρ nl) {o:Oper} {out:Out} (h:qJG P ev lk o.op=some out) (hc:qqh out.conds):qsP P o ρ w (Lands c H K w nl out):=by
 unfold qJG at h
 split at h
 ·rename_i x y ho
  split at h
  ·rename_i l v hx hv
   split at h
   ·rename_i e fr cap xs hlk
    split at h
    ·rename_i z hz
     split at h
     ·rename_i u ls f hab
      split at h
      ·cases h
      ·rename_i hnl
       simp only [wva,decide_eq_true_eq] at hnl
       simp only [wc] at h;subst h
       obtain ⟨sh,pl,k1,k2⟩:=A.one hx
       obtain ⟨z1,z2⟩:=qHt (A.one hv) hz
       have hl:=A.sub _ _ hlk
       obtain ⟨gh,hK,hgs,p,buf,s,r,hgp,hb,hC⟩:=A.inv.objs _ _ hl
       rw [k1] at hK
       injection hK with hK;subst hK
       injection hgp with hgp;subst hgp
       simp only at hgs;subst hgs
       have hlt:pl.blk<w.heap.size:=(A.inv.own l _ _ pl hl k1 (.inl rfl)).1
       have hlen:=hC.len
       have S1:=Stp.kill A.inv nl ls
       have hl1:qJb H (Ab.kill ls) l=some (.chan e fr cap xs false):=by
        simp only [qJb]
        cases hd:lookL (Ab.kill ls) l with
        |none=>exact hl
        |some x=>exact absurd (qQt hd) hnl
       have hu:PRd w (NN c (qJb H (Ab.kill ls)) K w f) e u (ρ y).cells.toList:=qXp A.inv A.sub (L:=ls) hab z1 (fun l hl=>hl)
       have hC1:ChRd w (NN c (qJb H (Ab.kill ls)) K w fr) e xs buf.toList:=hC.keep ⟨fun b hb=>⟨hb.killed,rfl⟩⟩
       have low:∀f g:Bool,∀b,NN c (qJb H (Ab.kill ls)) K w f b→NN c (qJb H (Ab.kill ls)) K w (f&&g) b:=fun f g b hb=>by
        cases f <;> cases g <;> first|exact hb|exact uj b hb
       have hC2:ChRd w (NN c (qJb H (Ab.kill ls)) K w (fr&&f)) e (xs++[u]) (buf.push (ρ y)).toList:=by
        rw [Array.toList_push]
        have h1:ChRd w (NN c (qJb H (Ab.kill ls)) K w (fr&&f)) e xs buf.toList:=hC1.keep ⟨fun b hb=>⟨low _ _ b hb,rfl⟩⟩
        have h2:PRd w (NN c (qJb H (Ab.kill ls)) K w (fr&&f)) e u (ρ y).cells.toList:=hu.keep ⟨fun b hb=>⟨by rw [Bool.and_comm];exact low _ _ b hb,rfl⟩⟩
        have h3:=ChRd.snoc h2 h1
        rw [←z2] at h3
        exact h3
       have S2:=Stp.write (w':=w.setChan pl.blk cap (buf.push (ρ y)) false (s+1) r false) S1.inv nl l _ (.chan e (fr&&f) cap (xs++[u]) false) ⟨.chan e cap,some pl⟩ pl hl1 k1 (.inl rfl) qCu
        (fun N' K' hNlow hk=>⟨rfl,pl,buf.push (ρ y),s+1,r,rfl,heap_setChan _ _ _ _ _ _ _ _ hlt,hC2.keep (hk.n _)⟩)
       have hroom:xs.length<cap:=hc.1
       refine .inl ⟨pl.blk,ρ y, .tuple #[],cap,buf,s,r,?_,hb,by rw [←wQa,hlen];exact hroom,⟨K,S1.trans S2,trivial⟩⟩
       simp only [execOp,ho,k2]
       rfl
     ·cases h
    ·cases h
   ·cases h
  ·cases h
 ·rename_i T x ho
  split at h
  ·rename_i l e' E hx hT
   split at h
   ·rename_i e fr cap xs cl hlk
    split at h
    ·rename_i hz
     simp only [wc] at h;subst h
     obtain ⟨sh,pl,k1,k2⟩:=A.one hx
     have hl:=A.sub _ _ hlk
     obtain ⟨gh,hK,hgs,p,buf,s,r,hgp,hb,hC⟩:=A.inv.objs _ _ hl
     rw [k1] at hK
     injection hK with hK;subst hK
     injection hgp with hgp;subst hgp
     simp only at hgs;subst hgs
     have hlt:pl.blk<w.heap.size:=(A.inv.own l _ _ pl hl k1 (.inl rfl)).1
     have hsome:0<xs.length:=hc.1
     cases xs with
     |nil=>simp at hsome
     |cons u xs=>
      obtain ⟨cs,rest,hbuf,hu,hr⟩:=hC
      have hbl:0<buf.size:=by rw [←wQa,hbuf];simp
      have hd:(buf.extract 1 buf.size).toList=rest:=by
       rw [Array.toList_extract,hbuf,List.extract_eq_take_drop,List.drop_succ_cons,List.drop_zero,List.take_of_length_le]
       rw [←wQa,hbuf];simp
      have hg0:buf.getD 0 undef=qub e cs:=by
       rw [wAa,←wla,hbuf];rfl
      obtain ⟨d,hdT,hE⟩:=qRs hT
      obtain ⟨zv,z1,_⟩:=qcf (P:=P) (w:=w) hz
      have S:=Stp.write (w':=w.setChan pl.blk cap (buf.extract 1 buf.size) cl s (r+1) false) A.inv nl l _ (.chan e fr cap xs cl) ⟨.chan e cap,some pl⟩ pl hl k1 (.inl rfl) qCu
       (fun N' K' hNlow hk=>⟨rfl,pl,buf.extract 1 buf.size,s,r+1,rfl,heap_setChan _ _ _ _ _ _ _ _ hlt,by rw [hd];exact hr.keep (hk.n _)⟩)
      refine .inr ⟨pl.blk,zv,cap,buf,cl,s,r,?_,hb,hbl,⟨K,S,?_⟩⟩
      ·simp only [execOp,ho,k2,ww,run_underlying hdT,wt,z1]
       rfl
      ·have h2:ARd (w.setChan pl.blk cap (buf.extract 1 buf.size) cl s (r+1) false) (NN c (qJb H [(l,some (.chan e fr cap xs cl))]) K (w.setChan pl.blk cap (buf.extract 1 buf.size) cl s (r+1) false)) K e (inj fr e u) cs:=
        (qIk (K:=K) uj fr hu).keep S.keep
       rw [hg0]
       exact qrt h2
    ·cases h
   ·cases h
  ·cases h
 ·cases h
end
end Go.Ab

/-
  Where what is known of the elements of a row changes: which rows of one's own they are.
-/
set_option linter.unusedVariables false
set_option linter.unusedSimpArgs false
namespace Go.Ab
open Go
def Chg (ns:Nat→Prop) (K K':Kn):Prop:=∀l,K' l=K l∨(ns l∧∃e n ps ps' pl,K l=some ⟨.row e n ps,pl⟩∧K' l=some ⟨.row e n ps',pl⟩)
theorem Chg.row {ns:Nat→Prop} {K K':Kn} (h:Chg ns K K') {l n:Nat} {e:Ty} {ps:List (Nat×Option Plc)} {pl:Option Plc} (hk:K l=some ⟨.row e n ps,pl⟩):∃ps',K' l=some ⟨.row e n ps',pl⟩:=by
 rcases h l with h|⟨_,e',n',ps1,ps2,pl',h1,h2⟩
 ·exact ⟨ps,h.trans hk⟩
 ·rw [hk] at h1
  simp only [wc,Gh.mk.injEq,Shp.row.injEq] at h1
  obtain ⟨⟨rfl,rfl,rfl⟩,rfl⟩:=h1
  exact ⟨ps2,h2⟩
theorem Chg.pl {ns:Nat→Prop} {K K':Kn} (h:Chg ns K K') {l:Nat} {gh:Gh} (hk:K l=some gh):∃gh',K' l=some gh'∧gh'.pl=gh.pl:=by
 rcases h l with h|⟨_,e',n',ps1,ps2,pl',h1,h2⟩
 ·exact ⟨gh,h.trans hk,rfl⟩
 ·rw [hk] at h1
  simp only [wc] at h1;subst h1
  exact ⟨_,h2,rfl⟩
theorem Chg.out {ns:Nat→Prop} {K K':Kn} (h:Chg ns K K') {l:Nat} {gh:Gh} (hl:¬ns l) (hk:K l=some gh):K' l=some gh:=by
 rcases h l with h|⟨h1,_⟩
 ·exact h.trans hk
 ·exact absurd h1 hl
def okV (ns:List Nat):AV→Bool
 | .ptr (.slice _) _ [.idx _]=>true
 | .ptr _ l _=>!ns.contains l
 | .bref _ l _ _ _ _=>!ns.contains l
 | .ifp _ _ l _=>!ns.contains l
 | .cslice _ l _=>!ns.contains l
 |_=>true
def qQR (ns:List Nat):TV→Bool
 | .one v=>okV ns v
 | .tup vs=>vs.all (okV ns)
def okO (ns:List Nat):Obj→Bool
 | .cell v=>okV ns v
 |_=>true
section
variable {w w':World} {N N':Bool→Nat→Prop} {K K':Kn} {ns:List Nat}
theorem RefRd.chg (hc:Chg (·∈ns) K K') {e:Ty} {l off len:Nat} {wh:Bool} {v:Value} (h:RefRd K e l off len wh v):RefRd K' e l off len wh v:=by
 obtain ⟨n,pl,⟨ps,h1⟩,h2⟩:=h
 obtain ⟨ps',h1'⟩:=hc.row h1
 exact ⟨n,pl,⟨ps',h1'⟩,h2⟩
theorem ARd.chg (hc:Chg (·∈ns) K K') (hk:∀fr,Keep w w' (N fr) (N' fr)):∀{t:Ty} {x:qgf t} {cs:List Value},ARd w N K t x cs→ARd w' N' K' t x cs
 | .int _,_,_,h=>h
 | .bool,_,_,h=>h
 | .str,_,_,h=>h
 | .arr n e,xs,_,h=>⟨h.1,h.2.imp (fun _ _=>PRd.keep (hk false))⟩
 | .pair a b,_,_,h=>by
   obtain ⟨c1,c2,e,h1,h2⟩:=h
   exact ⟨c1,c2,e,ARd.chg hc hk h1,ARd.chg hc hk h2⟩
 | .unit,_,_,h=>h
 | .slice _,x,_,h=>by
   cases x with
   |pure fr xs=>exact PRd.keep (hk fr) (t:= .slice _) h
   |ref l off len wh=>obtain ⟨v,e,h⟩:=h;exact ⟨v,e,h.chg hc⟩
   |nil=>exact h
   |junk=>exact h
   |lng n=>exact h
 | .fn,_,_,h=>h
theorem capsRd.chg (hc:Chg (·∈ns) K K'):∀{ls:List Nat} {vs:List Value},capsRd K ls vs→capsRd K' ls vs
 |[],_,h=>h
 |_::_,_,h=>by
  obtain ⟨gh,p,r,h1,h2,h3,h4⟩:=h
  obtain ⟨gh',g1,g2⟩:=hc.pl h1
  exact ⟨gh',p,r,g1,g2.trans h2,h3,capsRd.chg hc h4⟩
theorem VRd.chg (hc:Chg (·∈ns) K K') (hk:∀fr,Keep w w' (N fr) (N' fr)) {a:AV} {v:Value} (ho:okV ns a=true) (h:VRd w N K a v):VRd w' N' K' a v:=by
 cases a with
 |agg t x=>obtain ⟨cs,e,ha,h⟩:=h;exact ⟨cs,e,ha,h.chg hc hk⟩
 |sl e fr xs=>exact PRd.keep (hk fr) (t:= .slice e) h
 |ref e l off len wh=>exact RefRd.chg hc h
 |bref e l p n off len=>
  have ho:l ∉ ns:=by simpa [okV] using ho
  obtain ⟨sh,pl,po,h1,h2⟩:=h
  exact ⟨sh,pl,po,hc.out ho h1,h2⟩
 |ptr t l p=>
  obtain ⟨gh,pl,po,h1,h2,h3⟩:=h
  by_cases hl:l∈ns
  ·obtain ⟨e,i,rfl,rfl⟩:∃e i,t= .slice e∧p=[.idx i]:=by
    unfold okV at ho
    split at ho <;> simp_all
   rcases hc l with hx|⟨_,e1,n,ps,ps',pl',g1,g2⟩
   ·exact ⟨gh,pl,po,hx.trans h1,h2,h3⟩
   ·rw [h1] at g1
    simp only [wc] at g1;subst g1
    refine ⟨_,pl,po,g2,?_,h3⟩
    rcases h2 with ⟨q1,q2⟩|⟨e2,n2,ps2,i2,q,m,q1,q2,q3,q4⟩|⟨a2,e2,n2,ps2,i2,q,m,q1,q2,q3,q4⟩
    ·exact .inl ⟨q1,q2⟩
    ·simp only [wIa] at q2
     obtain ⟨_,rfl⟩:=q2
     simp [qLa] at q4
    ·simp at q2
  ·exact ⟨gh,pl,po,hc.out hl h1,h2,h3⟩
 |rptr t fr x=>
  obtain ⟨b,o,cs,e,hn,hcs,h⟩:=h
  rcases hn with rfl|hn
  ·exact ⟨b,o,[],e, .inl rfl,fun j v hj=>by simp at hj,h.keep (hk fr)⟩
  ·exact ⟨b,o,cs,e, .inr ((hk fr).k b hn).1,hcs.keep ((hk fr).k b hn).2,h.keep (hk fr)⟩
 |cptr l=>
  obtain ⟨sh,pl,h1,h2⟩:=h
  obtain ⟨⟨sh',pl'⟩,g1,g2⟩:=hc.pl h1
  simp only at g2;subst g2
  exact ⟨sh',pl,g1,h2⟩
 |func f caps=>obtain ⟨vs,h1,h2⟩:=h;exact ⟨vs,h1,h2.chg hc⟩
 |mapr l=>
  obtain ⟨sh,pl,h1,h2⟩:=h
  obtain ⟨⟨sh',pl'⟩,g1,g2⟩:=hc.pl h1
  simp only at g2;subst g2
  exact ⟨sh',pl,g1,h2⟩
 |chan l=>
  obtain ⟨sh,pl,h1,h2⟩:=h
  obtain ⟨⟨sh',pl'⟩,g1,g2⟩:=hc.pl h1
  simp only at g2;subst g2
  exact ⟨sh',pl,g1,h2⟩
 |sln e fr xs=>exact ⟨PRd.keep (hk fr) (t:= .slice e) h.1,h.2⟩
 |ifp T t l p=>
  have ho:l ∉ ns:=by simpa [okV] using ho
  obtain ⟨sh,pl,po,h1,h2⟩:=h
  exact ⟨sh,pl,po,hc.out ho h1,h2⟩
 |cslice e l n=>
  have ho:l ∉ ns:=by simpa [okV] using ho
  obtain ⟨pl,h1,h2⟩:=h
  exact ⟨pl,hc.out ho h1,h2⟩
 |_=>exact h
theorem VRdL.chg (hc:Chg (·∈ns) K K') (hk:∀fr,Keep w w' (N fr) (N' fr)):∀{as:List AV} {vs:List Value},as.all (okV ns)=true→VRdL w N K as vs→VRdL w' N' K' as vs
 |[],_,_,h=>h
 |_::_,_,ho,h=>by
  simp only [wsb,wA] at ho
  obtain ⟨v,r,e,h1,h2⟩:=h
  exact ⟨v,r,e,h1.chg hc hk ho.1,h2.chg hc hk ho.2⟩
theorem TVRd.chg (hc:Chg (·∈ns) K K') (hk:∀fr,Keep w w' (N fr) (N' fr)) {a:TV} {v:Value} (ho:qQR ns a=true) (h:TVRd w N K a v):TVRd w' N' K' a v:=by
 cases a with
 |one a=>exact VRd.chg hc hk ho h
 |tup as=>obtain ⟨vs,e,h⟩:=h;exact ⟨vs,e,h.chg hc hk ho⟩
theorem ORd.chg (hc:Chg (·∈ns) K K') (hk:∀fr,Keep w w' (N fr) (N' fr)) {o:Obj} {gh:Gh} (ho:okO ns o=true) (hb:∀p,Has gh p→w'.heap[p.blk]?=w.heap[p.blk]?) (h:ORd w N K o gh):ORd w' N' K' o gh:=by
 cases o with
 |row e fr xs=>
  refine ⟨h.1,?_⟩
  have h2:=h.2
  cases hp:gh.pl with
  |none=>rw [hp] at h2;exact h2
  |some p=>
   rw [hp] at h2
   obtain ⟨cs,h1,h2⟩:=h2
   exact ⟨cs,h1.keep (hb p (.inl hp)),h2.imp (fun _ _=>PRd.keep (hk fr))⟩
 |box t x=>
  obtain ⟨hs,p,cs,hp,h1,h2⟩:=h
  exact ⟨hs,p,cs,hp,h1.keep (hb p (.inl hp)),h2.chg hc hk⟩
 |cell v=>
  obtain ⟨hs,p,c,hp,h1,h2⟩:=h
  exact ⟨hs,p,c,hp,h1.keep (hb p (.inl hp)),h2.chg hc hk ho⟩
 |map k v es=>
  obtain ⟨hs,p,en,clock,hp,h1,hf1,hf2,h2⟩:=h
  exact ⟨hs,p,en,clock,hp,(hb p (.inl hp)).trans h1,hf1,hf2,h2.keep ⟨fun _ h=>h.elim⟩⟩
 |chan e fr cap xs cl=>
  obtain ⟨hs,p,buf,s,r,hp,h1,h2⟩:=h
  exact ⟨hs,p,buf,s,r,hp,(hb p (.inl hp)).trans h1,h2.keep (hk fr)⟩
 |fam e xss=>
  obtain ⟨hf,ps,hs,ha,h⟩:=h
  refine ⟨hf,ps,hs,ha,?_⟩
  cases hp:gh.pl with
  |none=>rw [hp] at h;exact h
  |some p=>
   rw [hp] at h
   obtain ⟨cs,h1,h2⟩:=h
   exact ⟨cs,h1.keep (hb p (.inl hp)),h2.keep hf (fun q hq=>hb q (.inr (by rw [hs];exact hq)))⟩
 |famS a e xs=>
  obtain ⟨ha0,hf,ps,hs,ha,h⟩:=h
  refine ⟨ha0,hf,ps,hs,ha,?_⟩
  cases hp:gh.pl with
  |none=>rw [hp] at h;exact h
  |some p=>
   rw [hp] at h
   obtain ⟨cs,h1,h2⟩:=h
   exact ⟨cs,h1.keep (hb p (.inl hp)),h2.keep ha0 hf (fun q hq=>hb q (.inr (by rw [hs];exact hq)))⟩
end
end Go.Ab

/-
  A row of one's own is stored as an element of a row of such rows.
-/
set_option linter.unusedVariables false
set_option linter.unusedSimpArgs false
namespace Go.Ab
open Go
structure StpC (c:Cx) (H:qBc) (K:Kn) (w:World) (upd:List (Nat×Option Obj)) (l:Nat) (K':Kn) (w':World):Prop where
 inv:Inv c (qJb H upd) K' w'
 chg:Chg (·∈[l]) K K'
 keep:∀fr,Keep w w' (NN c H K w fr) (NN c (qJb H upd) K' w' fr)
 size:w.heap.size≤w'.heap.size
def qaL (P:Program) (ev:Operand→TV) (lk:qBc) (op:Op):Option (Nat×Out):=
 match op with
 | .store T a x=>match ev1 ev a,ev1 ev x with
   |some (.ptr (.slice e) l [.idx i]),some (.ref e2 l2 off m true)=>match lk l,lk l2 with
    |some (.fam e0 xss),some (.row e1 fr ys)=>if h:e1=e0 then (if e0=e∧e2=e∧l≠l2∧8≤l∧qZd P tyD T=some (.slice e) then
      some (l,⟨.one .undef,[(l2,none),(l,some (.fam e0 (xss.set i (h▸ys))))],[]⟩) else none) else none
    |_,_=>none
   |_,_=>none
 |_=>none
section
variable {c:Cx} {P:Program} {GT:qmi} {H lk:qBc} {K:Kn} {w:World} {T:Nat→TV} {a:Act} {nl nt:Nat} {ev:Operand→TV} {ρ:Operand→Value}
theorem FamRd.put {e:Ty} {ys:List (pden e)} {v:Value} {q:Option Plc} (hs:Slot w e q v ys):∀{xss:List (List (pden e))} {ps:List (Nat×Option Plc)} {cs:List Value} {i:Nat},FamRd w e xss ps cs→i<xss.length→FamRd w e (xss.set i ys) (ps.set i (ys.length,q)) (cs.set i v)
 |[],_,_,i,h,hi=>by simp at hi
 |xs::r,_,_,i,h,hi=>by
  obtain ⟨p,ps',u,cs',rfl,rfl,h1,h2⟩:=h
  cases i with
  |zero=>
   simp only [List.set_cons_zero]
   refine ⟨q,ps',v,cs',rfl,rfl,?_,h2⟩
   cases q with
   |none=>exact hs
   |some q=>exact hs
  |succ i=>
   simp only [List.set_cons_succ]
   exact ⟨p,_,u,_,rfl,rfl,h1,h2.put hs (by simpa using hi)⟩
theorem FamRd.len2 {e:Ty}:∀{xss:List (List (pden e))} {ps:List (Nat×Option Plc)} {cs:List Value},FamRd w e xss ps cs→ps.length=xss.length∧cs.length=xss.length
 |[],_,_,h=>by obtain ⟨rfl,rfl⟩:=h;exact ⟨rfl,rfl⟩
 |xs::r,_,_,h=>by
  obtain ⟨p,ps',u,cs',rfl,rfl,h1,h2⟩:=h
  obtain ⟨a,b⟩:=h2.len2
  exact ⟨by simp [a],by simp [b]⟩
theorem qJP {α:Type} {cs:List α} {i:Nat} {v:α} (h:i<cs.length):put cs i [v]=cs.set i v:=by
 apply wTa
 intro j
 rw [qwk (by simp;omega),wxb]
 by_cases h1:j<i
 ·rw [if_pos h1,if_neg (by omega)]
 ·rw [if_neg h1]
  by_cases h2:i=j
  ·subst h2;simp [h]
  ·rw [if_neg (by simp;omega),if_neg h2]
theorem qAr {α β:Type}:∀(ps:List (α×β)) (i:Nat) (x:α×β),(ps.set i x).map (·.2)=(ps.map (·.2)).set i x.2
 |[],_,_=>rfl
 |_::r,0,_=>rfl
 |p::r,i+1,x=>by simp [qAr r i x]
theorem qxN (hv:Inv c H K w) {l l2 i:Nat} {e:Ty} {xss:List (List (pden e))} {ys:List (pden e)} {fr:Bool} {n:Nat} {ps:List (Nat×Option Plc)} {p0:Plc} {v:Value} {off m:Nat}
  (hl:H l=some (.fam e xss)) (hl2:H l2=some (.row e fr ys)) (hne:l≠l2) (hK:K l=some ⟨.row (.slice e) n ps,some p0⟩) (hi:i<n) (hr:RefRd K e l2 off m true v)
  (hob:∀x ob,H x=some ob→x≠l→okO [l] ob=true):
  (∃cs,InBlk w p0 cs∧i<cs.length)∧∃K',StpC c H K w [(l2,none),(l,some (.fam e (xss.set i ys)))] l K' (w.setCells p0.blk (p0.ob+i) [v]):=by
 obtain ⟨gh,g1,hf,ps1,g2,ha,g3⟩:=hv.objs l _ hl
 rw [hK] at g1;injection g1 with g1;subst g1
 simp only [Shp.row.injEq,true_and] at g2
 obtain ⟨rfl,rfl⟩:=g2
 obtain ⟨cs,b1,b2⟩:=g3
 obtain ⟨l1,l3⟩:=b2.len2
 obtain ⟨gh2,k1,k2,k3⟩:=hv.objs l2 _ hl2
 obtain ⟨n2,pl2,⟨ps2,r1⟩,r2,r3,r4⟩:=hr
 rw [k1] at r1;injection r1 with r1;subst r1
 simp only [Shp.row.injEq,true_and] at k2
 obtain ⟨rfl,rfl⟩:=k2
 obtain ⟨rfl,rfl⟩:=r3 rfl
 simp only at k3
 obtain ⟨q1,q2,q3,q4,q5⟩:=qzb p0.blk [v] (p0.ob+i) w
 have hblk2:∀p,pl2=some p→p.blk≠p0.blk:=fun p hp e=>hne (hv.inj l l2 _ _ _ _ p0 p hl hl2 hK k1 (.inl rfl) (.inl hp) e.symm)
 have hex:∀p,some p∈ps.map (·.2)→p.blk≠p0.blk:=fun p hp=>ha.2 p0 p rfl hp
 have hslot:Slot (w.setCells p0.blk (p0.ob+i) [v]) e pl2 v ys:=by
  cases pl2 with
  |none=>exact ⟨r4.1,k3⟩
  |some p=>
   obtain ⟨o,cap,h1,h2,h3⟩:=r4
   obtain ⟨cl,h4,h5⟩:=k3
   refine ⟨o,cap,cl,h1,h2,?_,h4.keep (q5 _ (hblk2 p rfl)),h5.imp (fun _ _ q=>q.flat hf)⟩
   simpa using h3
 have hset:∀(x:Option Plc),x∈(ps.set i (ys.length,pl2)).map (·.2)→x∈ps.map (·.2)∨x=pl2:=fun x hx=>by
  rw [qAr] at hx
  exact List.mem_or_eq_of_mem_set hx
 refine ⟨⟨cs,b1,by omega⟩,qjl K l ⟨.row (.slice e) xss.length (ps.set i (ys.length,pl2)),some p0⟩,?_⟩
 have hup:∀x,qJb H [(l2,none),(l,some (.fam e (xss.set i ys)))] x=if l2=x then none else if l=x then some (.fam e (xss.set i ys)) else H x:=fun x=>by
  simp only [qJb,lookL]
  by_cases h1:l2=x
  ·simp [h1]
  ·by_cases h2:l=x <;> simp [h1,h2]
 have hwas:∀p,Has ⟨.row (.slice e) xss.length (ps.set i (ys.length,pl2)),some p0⟩ p→Has ⟨.row (.slice e) xss.length ps,some p0⟩ p∨pl2=some p:=fun p hp=>by
  rcases hp with hp|hp
  ·exact .inl (.inl hp)
  ·rcases hset _ hp with h|h
   ·exact .inl (.inr h)
   ·exact .inr h.symm
 have hcase:∀x o g p,qJb H [(l2,none),(l,some (.fam e (xss.set i ys)))] x=some o→qjl K l ⟨.row (.slice e) xss.length (ps.set i (ys.length,pl2)),some p0⟩ x=some g→Has g p→
   (x=l∧∃y o' g',(y=l∨y=l2)∧H y=some o'∧K y=some g'∧Has g' p)∨(x≠l∧x≠l2∧H x=some o∧K x=some g):=by
  intro x o g p h1 h2 h3
  rw [hup] at h1
  by_cases e2:l2=x
  ·rw [if_pos e2] at h1;cases h1
  ·rw [if_neg e2] at h1
   by_cases e1:l=x
   ·subst e1
    rw [qbb] at h2;injection h2 with h2;subst h2
    refine .inl ⟨rfl,?_⟩
    rcases hwas p h3 with h|h
    ·exact ⟨l,_,_, .inl rfl,hl,hK,h⟩
    ·exact ⟨l2,_,_, .inr rfl,hl2,k1, .inl h⟩
   ·rw [if_neg e1] at h1
    rw [qrg (wJa e1)] at h2
    exact .inr ⟨wJa e1,wJa e2,h1,h2⟩
 have hlive:∀b,qqc (qJb H [(l2,none),(l,some (.fam e (xss.set i ys)))]) (qjl K l ⟨.row (.slice e) xss.length (ps.set i (ys.length,pl2)),some p0⟩) b→qqc H K b:=by
  rintro b ⟨x,o,g,p,h1,h2,h3,h4⟩
  rcases hcase x o g p h1 h2 h3 with ⟨_,y,o',g',_,a1,a2,a3⟩|⟨_,_,a1,a2⟩
  ·exact ⟨y,o',g',p,a1,a2,a3,h4⟩
  ·exact ⟨x,o,g,p,a1,a2,h3,h4⟩
 have hkeep:∀fr,Keep w (w.setCells p0.blk (p0.ob+i) [v]) (NN c H K w fr) (NN c (qJb H [(l2,none),(l,some (.fam e (xss.set i ys)))]) (qjl K l ⟨.row (.slice e) xss.length (ps.set i (ys.length,pl2)),some p0⟩) (w.setCells p0.blk (p0.ob+i) [v]) fr):=
  fun fr=>⟨fun b hb=>⟨⟨by rw [q4];exact hb.1,fun hn=>hb.2.1 (hlive b hn),hb.2.2⟩,q5 b (fun e=>hb.2.1 (e▸⟨l,_,_,p0,hl,hK, .inl rfl,rfl⟩))⟩⟩
 have hchg:Chg (·∈[l]) K (qjl K l ⟨.row (.slice e) xss.length (ps.set i (ys.length,pl2)),some p0⟩):=fun x=>by
  by_cases e1:x=l
  ·subst e1;exact .inr ⟨wU.2 rfl,_,_,_,_,_,hK,qbb⟩
  ·exact .inl (qrg e1)
 refine ⟨⟨fun x o hx=>?_,fun x o g p h1 h2 h3=>?_,fun x x' o1 o2 g1 g2 p1 p2 h1 h2 h3 h4 h5 h6 h7=>?_,?_⟩,hchg,hkeep,by rw [q4];exact ws _⟩
 ·rw [hup] at hx
  by_cases e2:l2=x
  ·rw [if_pos e2] at hx;cases hx
  ·rw [if_neg e2] at hx
   by_cases e1:l=x
   ·subst e1
    rw [if_pos rfl] at hx;injection hx with hx;subst hx
    refine ⟨_,qbb,hf,ps.set i (ys.length,pl2),by simp,⟨?_,?_⟩,?_⟩
    ·intro i1 j1 p q h1 h2 h3
     rw [qAr,wxb] at h1 h2
     have hother:∀(j:Nat) (p q:Plc),(ps.map (·.2))[j]?=some (some p)→pl2=some q→p.blk≠q.blk:=fun j p q h1 h2 h3=>
      hne (hv.inj l l2 _ _ _ _ p q hl hl2 hK k1 (.inr (wpa h1)) (.inl h2) h3)
     by_cases e3:i=i1
     ·by_cases e4:i=j1
      ·omega
      ·rw [if_pos e3] at h1;rw [if_neg e4] at h2
       split at h1
       ·injection h1 with h1
        exact absurd h3.symm (hother j1 q p h2 h1)
       ·cases h1
     ·rw [if_neg e3] at h1
      by_cases e4:i=j1
      ·rw [if_pos e4] at h2
       split at h2
       ·injection h2 with h2
        exact absurd h3 (hother i1 p q h1 h2)
       ·cases h2
      ·rw [if_neg e4] at h2
       exact ha.1 i1 j1 p q h1 h2 h3
    ·intro p q hp hq
     injection hp with hp;subst hp
     rcases hset _ hq with h|h
     ·exact ha.2 p0 q rfl h
     ·exact hblk2 q h.symm
    ·have h1:=b1.write (o:=i) (s:=[v]) (by simp;omega)
     rw [qJP (by omega)] at h1
     exact ⟨_,h1,(b2.keep hf (fun p hp=>q5 _ (hex p hp))).put hslot hi⟩
   ·rw [if_neg e1] at hx
    obtain ⟨g,a1,a2⟩:=hv.objs x o hx
    refine ⟨g,by rw [qrg (wJa e1)];exact a1,a2.chg hchg hkeep (hob x o hx (wJa e1)) (fun p hp=>q5 _ (fun h=>e1 ?_))⟩
    exact hv.inj l x _ _ _ _ p0 p hl hx hK a1 (.inl rfl) hp h.symm
 ·rw [q4]
  rcases hcase x o g p h1 h2 h3 with ⟨_,y,o',g',_,a1,a2,a3⟩|⟨_,_,a1,a2⟩
  ·exact hv.own y o' g' p a1 a2 a3
  ·exact hv.own x o g p a1 a2 h3
 ·rcases hcase x o1 g1 p1 h1 h3 h5 with ⟨rfl,y,o',g',hy,a1,a2,a3⟩|⟨n1,n2,a1,a2⟩
  ·rcases hcase x' o2 g2 p2 h2 h4 h6 with ⟨rfl,_⟩|⟨n3,n4,b1,b2⟩
   ·rfl
   ·have:=hv.inj y x' _ _ _ _ p1 p2 a1 b1 a2 b2 a3 h6 h7
    rcases hy with rfl|rfl
    ·exact this
    ·exact absurd this.symm n4
  ·rcases hcase x' o2 g2 p2 h2 h4 h6 with ⟨rfl,y,o',g',hy,b1,b2,b3⟩|⟨n3,n4,b1,b2⟩
   ·have:=hv.inj x y _ _ _ _ p1 p2 a1 b1 a2 b2 h5 b3 h7
    rcases hy with rfl|rfl
    ·exact this
    ·exact absurd this n2
   ·exact hv.inj x x' _ _ _ _ p1 p2 a1 b1 a2 b2 h5 h6 h7
 ·refine ⟨q1.trans hv.fr.os,q2.trans hv.fr.tape,q3.trans hv.fr.output,by rw [q4];exact hv.fr.size,fun k hk1 hk2=>?_⟩
  have h0:=hv.own l _ _ p0 hl hK (.inl rfl)
  by_cases hkp:k=p0.blk
  ·subst hkp
   rcases h0.2.1 with h3|h3
   ·omega
   ·exact absurd h3 hk2
  ·exact (q5 k hkp).trans (hv.fr.block k hk1 hk2)
theorem qYK (A:At c P GT H lk K w ev ρ nl) {o:Oper} {l:Nat} {out:Out} (h:qaL P ev lk o.op=some (l,out)) (hob:∀x ob,H x=some ob→x≠l→okO [l] ob=true):
  8≤l∧Does P o ρ w (fun u w'=>∃K',StpC c H K w out.upd l K' w'∧TVRd w' (NN c (qJb H out.upd) K' w') K' out.v u):=by
 unfold qaL at h
 split at h
 ·rename_i T x y ho
  split at h
  ·rename_i e l i e2 l2 off m hx hy
   split at h
   ·rename_i e0 xss e1 fr ys hl hl2
    split at h
    ·rename_i he
     subst he
     split at h
     ·rename_i hq
      obtain ⟨rfl,rfl,hne,h8,hT⟩:=hq
      simp only [wc,wk] at h
      obtain ⟨rfl,rfl⟩:=h
      refine ⟨h8,?_⟩
      obtain ⟨gh,pl,po,k1,k2,k3⟩:=A.one hx
      have hr:=A.one hy
      have hH:=A.sub _ _ hl
      obtain ⟨gh',g1,hf,ps,g2,ha,g3⟩:=A.inv.objs l _ hH
      rw [k1] at g1;injection g1 with g1;subst g1
      obtain ⟨sh,pl0⟩:=gh
      simp only at g2;subst g2
      rcases k2 with ⟨k2,k4⟩|⟨e3,n,ps',i',q,m',q1,q2,q3,q4⟩|⟨a3,e3,n,ps',i',q,m',q1,q2,q3,q4⟩
      ·simp only at k2;subst k2
       simp only [qDm,qLa] at k4
       split at k4
       ·rename_i hi
        simp only [wc,wk,and_true] at k4
        have hpo:po=i:=by simpa [Ty.sz] using k4.symm
        subst hpo
        obtain ⟨⟨cs,b1,b2⟩,K',S⟩:=qxN A.inv hH (A.sub _ _ hl2) hne k1 hi hr hob
        refine Does.skip (w':=w.setCells pl.blk (pl.ob+po) [ρ y]) ?_ ⟨K',S,trivial⟩
        obtain ⟨A0,c0,hv⟩:=hr.form
        have hcl:(ρ y).cells.toList=[ρ y]:=by rw [hv];rfl
        have:=qNo (P:=P) (w:=w) hT b1 (o:=po) (s:=[ρ y]) (by simp;omega) (v:=ρ y) hcl rfl (fun u hu=>by rw [wU.1 hu,hv];rfl)
        simp only [execOp,ho,k3,Instr.storeAt,Instr.sureAddr,ww,wH,wt,this]
       ·cases k4
      ·simp only [wIa] at q2
       obtain ⟨_,rfl⟩:=q2
       simp [qLa] at q4
      ·simp at q2
     ·cases h
    ·cases h
   ·cases h
  ·cases h
 ·cases h
theorem Rel.putC (R:Rel c P GT nt T H K a w) {upd:List (Nat×Option Obj)} {K':Kn} {w':World} {l:Nat} (S:StpC c H K w upd l K' w') {dst:Option Nat} {v:TV} {u:Value} (hv:TVRd w' (NN c (qJb H upd) K' w') K' v u) (hd:qum nt dst=true) (hok:∀t,qQR [l] (T t)=true):
  Rel c P GT nt (qYy T dst v) (qJb H upd) K' (a.put dst u) w':=by
 have hsz:(ngOf GT)≤w'.heap.size:=by
  have:=S.inv.fr.size
  have:=R.ng
  have:=R.gng
  omega
 refine ⟨S.inv,fun t=>?_,?_,?_,R.ng,R.gng,R.glob.keep hsz (fun g hg=>((S.keep false).k g (R.glob_nn hg)).2)⟩
 ·cases dst with
  |none=>exact (R.tmps t).chg S.chg S.keep (hok t)
  |some d=>
   simp only [qum,decide_eq_true_eq] at hd
   simp only [qYy]
   split
   ·rename_i e
    subst e
    have:(a.put (some t) u).eval (.tmp t)=u:=by
     simp [Act.put,Act.eval,R.size,hd]
    rw [this];exact hv
   ·rename_i e
    rw [Act.eval_put (fun d' hd' hx=>e (by cases hd';cases hx;rfl))]
    exact (R.tmps t).chg S.chg S.keep (hok t)
 ·cases dst <;> simp [Act.put,R.size]
 ·cases dst <;> simp [Act.put,R.defers]
end
end Go.Ab

/-
  append to a part of a row of one's own, where that part is used again: in place, or a copy.
-/
set_option linter.unusedVariables false
set_option linter.unusedSimpArgs false
namespace Go.Ab
open Go
structure StpL (c:Cx) (H:qBc) (K:Kn) (w:World) (upd:List (Nat×Option Obj)) (l:Nat) (K':Kn) (w':World):Prop where
 inv:Inv c (qJb H upd) K' w'
 same:∀x,x≠l→K' x=K x
 keep:∀fr,Keep w w' (NN c H K w fr) (NN c (qJb H upd) K' w' fr)
 size:w.heap.size≤w'.heap.size
section
variable {c:Cx} {P:Program} {GT:qmi} {H lk:qBc} {K:Kn} {w:World} {T:Nat→TV} {a:Act} {nl nt:Nat} {ev:Operand→TV} {ρ:Operand→Value}
theorem VRd.other {w w':World} {N N':Bool→Nat→Prop} {K K':Kn} {l:Nat} (hs:∀x,x≠l→K' x=K x) (hk:∀fr,Keep w w' (N fr) (N' fr)) {a:AV} {v:Value} (hl:l ∉ qjj a) (h:VRd w N K a v):VRd w' N' K' a v:=by
 have h1:∀k∈qjj a,K' k=K (id k):=fun k hk=>hs k (fun e=>hl (e▸hk))
 have h2:VRd w N K (qAA id a) v:=(qMw (K:=K) (K':=K) (f:=id) (fun _ _=>rfl)).2 h
 exact ((qMw h1).1 h2).keep ⟨hk,fun _ _ h=>h⟩
theorem TVRd.other {w w':World} {N N':Bool→Nat→Prop} {K K':Kn} {l:Nat} (hs:∀x,x≠l→K' x=K x) (hk:∀fr,Keep w w' (N fr) (N' fr)) {a:TV} {v:Value} (hl:l ∉ qUm a) (h:TVRd w N K a v):TVRd w' N' K' a v:=by
 have h1:∀k∈qUm a,K' k=K (id k):=fun k hk=>hs k (fun e=>hl (e▸hk))
 have h2:TVRd w N K (qFQ id a) v:=(qLF (K:=K) (K':=K) (f:=id) (fun _ _=>rfl)).2 h
 exact ((qLF h1).1 h2).keep ⟨hk,fun _ _ h=>h⟩
theorem ORd.other {w w':World} {N N':Bool→Nat→Prop} {K K':Kn} {l:Nat} (hs:∀x,x≠l→K' x=K x) (hk:∀fr,Keep w w' (N fr) (N' fr)) {o:Obj} {gh:Gh} (hl:l ∉ qBr o) (hb:∀p,Has gh p→w'.heap[p.blk]?=w.heap[p.blk]?) (h:ORd w N K o gh):ORd w' N' K' o gh:=by
 have h1:∀k∈qBr o,K' k=K (id k):=fun k hk=>hs k (fun e=>hl (e▸hk))
 have h2:ORd w N K (qgJ id o) gh:=(qMF (K:=K) (K':=K) (f:=id) (fun _ _=>rfl)).2 h
 exact ORd.keep ⟨hk,fun _ _ h=>h⟩ hb ((qMF h1).1 h2)
theorem qUQ (hv:Inv c H K w) {w':World} {l:Nat} {o0 o':Obj} {gh gh':Gh} (hl:H l=some o0) (hK:K l=some gh)
  (hp:∀p,Has gh' p→Has gh p)
  (hw:w'.os=w.os∧w'.tape=w.tape∧w'.output=w.output∧w'.heap.size=w.heap.size∧∀k,(∀p,Has gh p→p.blk≠k)→w'.heap[k]?=w.heap[k]?)
  (ho:∀(N':Bool→Nat→Prop) (K':Kn),(∀b,N' true b→N' false b)→(∀fr,Keep w w' (NN c H K w fr) (N' fr))→ORd w' N' K' o' gh')
  (hob:∀x ob,H x=some ob→x≠l→l ∉ qBr ob):StpL c H K w [(l,some o')] l (qjl K l gh') w':=by
 have hup:∀x,qJb H [(l,some o')] x=if l=x then some o' else H x:=fun x=>by
  simp only [qJb,lookL];split <;> simp_all
 have hcase:∀x o g p,qJb H [(l,some o')] x=some o→qjl K l gh' x=some g→Has g p→(x=l∧Has gh p)∨(x≠l∧H x=some o∧K x=some g):=by
  intro x o g p h1 h2 h3
  rw [hup] at h1
  by_cases e1:l=x
  ·subst e1
   rw [qbb] at h2;injection h2 with h2;subst h2
   exact .inl ⟨rfl,hp p h3⟩
  ·rw [if_neg e1] at h1
   rw [qrg (wJa e1)] at h2
   exact .inr ⟨wJa e1,h1,h2⟩
 have hlive:∀b,qqc (qJb H [(l,some o')]) (qjl K l gh') b→qqc H K b:=by
  rintro b ⟨x,o,g,p,h1,h2,h3,h4⟩
  rcases hcase x o g p h1 h2 h3 with ⟨rfl,h5⟩|⟨_,h5,h6⟩
  ·exact ⟨x,o0,gh,p,hl,hK,h5,h4⟩
  ·exact ⟨x,o,g,p,h5,h6,h3,h4⟩
 have hkeep:∀fr,Keep w w' (NN c H K w fr) (NN c (qJb H [(l,some o')]) (qjl K l gh') w' fr):=
  fun fr=>⟨fun b hb=>⟨⟨by rw [hw.2.2.2.1];exact hb.1,fun hn=>hb.2.1 (hlive b hn),hb.2.2⟩,hw.2.2.2.2 b (fun p hp e=>hb.2.1 ⟨l,o0,gh,p,hl,hK,hp,e⟩)⟩⟩
 have hsame:∀x,x≠l→qjl K l gh' x=K x:=fun x hx=>qrg hx
 refine ⟨⟨fun x o hx=>?_,fun x o g p h1 h2 h3=>?_,fun x x' o1 o2 g1 g2 p1 p2 h1 h2 h3 h4 h5 h6 h7=>?_,?_⟩,hsame,hkeep,by rw [hw.2.2.2.1];exact ws _⟩
 ·rw [hup] at hx
  by_cases e1:l=x
  ·subst e1
   rw [if_pos rfl] at hx;injection hx with hx;subst hx
   exact ⟨gh',qbb,ho _ _ uj hkeep⟩
  ·rw [if_neg e1] at hx
   obtain ⟨g,a1,a2⟩:=hv.objs x o hx
   refine ⟨g,by rw [qrg (wJa e1)];exact a1,a2.other hsame hkeep (hob x o hx (wJa e1)) (fun p hp=>hw.2.2.2.2 _ (fun q hq e=>e1 ?_))⟩
   exact hv.inj l x _ _ _ _ q p hl hx hK a1 hq hp e
 ·rw [hw.2.2.2.1]
  rcases hcase x o g p h1 h2 h3 with ⟨rfl,h5⟩|⟨_,h5,h6⟩
  ·exact hv.own x o0 gh p hl hK h5
  ·exact hv.own x o g p h5 h6 h3
 ·rcases hcase x o1 g1 p1 h1 h3 h5 with ⟨rfl,a1⟩|⟨n1,a1,a2⟩
  ·rcases hcase x' o2 g2 p2 h2 h4 h6 with ⟨rfl,b1⟩|⟨n2,b1,b2⟩
   ·rfl
   ·exact hv.inj x x' _ _ _ _ p1 p2 hl b1 hK b2 a1 h6 h7
  ·rcases hcase x' o2 g2 p2 h2 h4 h6 with ⟨rfl,b1⟩|⟨n2,b1,b2⟩
   ·exact hv.inj x x' _ _ _ _ p1 p2 a1 hl a2 hK h5 b1 h7
   ·exact hv.inj x x' _ _ _ _ p1 p2 a1 b1 a2 b2 h5 h6 h7
 ·refine ⟨hw.1.trans hv.fr.os,hw.2.1.trans hv.fr.tape,hw.2.2.1.trans hv.fr.output,by rw [hw.2.2.2.1];exact hv.fr.size,fun k hk1 hk2=>?_⟩
  refine (hw.2.2.2.2 k (fun p hp e=>?_)).trans (hv.fr.block k hk1 hk2)
  have h0:=hv.own l o0 gh p hl hK hp
  subst e
  rcases h0.2.1 with h3|h3
  ·omega
  ·exact hk2 h3
def qjG (P:Program) (ev:Operand→TV) (lk:qBc) (nl:Nat) (op:Op):Option (Ty×Nat×Nat×Out×Out):=
 match op with
 | .call {callee:= .builtin .append,args,argTypes}=>match argTypes.toList,evs ev args.toList with
   |[T,T2],some [.ref e l 0 n false,x]=>match qvo P T,P.underlying T2,qSo lk e l with
    |some e',some (.slice _),some (fr0,zs)=>if e'=e∧qgO P T e∧e.flat∧8≤l then (match x with
     | .str _=>none
     |x=>match qTf lk e x with
      |some (fr,[y])=>some (e,l,(zs.take n++[y]).length,
        ⟨.one (.ref e l 0 (zs.take n++[y]).length true),[(l,some (.row e (fr0&&fr) (zs.take n++[y])))],[]⟩,
        ⟨.one (.ref e nl 0 (zs.take n++[y]).length true),[(nl,some (.row e (fr0&&fr) (zs.take n++[y])))],[(zs.take n++[y]).length*qwe P T≤140737488355328]⟩)
      |_=>none) else none
    |_,_,_=>none
   |_,_=>none
 |_=>none
structure Grown (K K':Kn) (e:Ty) (l m:Nat):Prop where
 at_:∃n p,K l=some ⟨.row e n [],some p⟩∧K' l=some ⟨.row e m [],some p⟩
theorem Grown.ref {K K':Kn} {e:Ty} {l m n':Nat} {v:Value} (h:Grown K K' e l m) (hr:RefRd K e l 0 n' false v) (hn:n'≤m):RefRd K' e l 0 n' false v:=by
 obtain ⟨n,p,h1,h2⟩:=h.at_
 obtain ⟨n2,pl,⟨ps,r1⟩,r2,r3,r4⟩:=hr
 rw [h1] at r1
 simp only [wc,Gh.mk.injEq,Shp.row.injEq] at r1
 obtain ⟨⟨_,rfl,rfl⟩,rfl⟩:=r1
 exact ⟨m,some p,⟨[],h2⟩,by omega,by simp,r4⟩
theorem qCJ (A:At c P GT H lk K w ev ρ nl) {o:Oper} {e:Ty} {l m:Nat} {outA outB:Out} (h:qjG P ev lk nl o.op=some (e,l,m,outA,outB)) (hc:qqh outB.conds) (hob:∀x ob,H x=some ob→x≠l→l ∉ qBr ob):
  8≤l∧Does P o ρ w (fun u w'=>(∃K',StpL c H K w outA.upd l K' w'∧Grown K K' e l m∧TVRd w' (NN c (qJb H outA.upd) K' w') K' outA.v u)∨Lands c H K w nl outB u w'):=by
 unfold qjG at h
 split at h
 ·rename_i args ats ho
  split at h
  ·rename_i T T2 e0 l0 n x hats hvs
   split at h
   ·rename_i e' E2 fr0 zs he hd2 hrow
    split at h
    ·rename_i hq
     obtain ⟨rfl,hok,hf,h8⟩:=hq
     split at h
     ·cases h
     ·rename_i hns
      split at h
      ·rename_i fr y hcon
       simp only [wc,wk] at h
       obtain ⟨rfl,rfl,rfl,rfl,rfl⟩:=h
       refine ⟨h8,?_⟩
       have hT:qZd P tyD T=some (.slice e'):=by
        unfold qvo at he
        split at he
        ·rename_i e1 h';simp only [wc] at he;subst he;exact h'
        ·cases he
       obtain ⟨m0,E,_,hdT,hE⟩:=qSc hT
       unfold qgO at hok
       rw [hdT] at hok
       simp only [wA,decide_eq_true_eq] at hok
       obtain ⟨⟨hz,hb0⟩,hs0⟩:=hok
       obtain ⟨z,hz1,hz2,i,hi1,hi2⟩:=qcf (P:=P) (w:=w) hz
       obtain ⟨_,_,i',_,_,_,_,hi3,hi4⟩:=qqd hE
       rw [hi1] at hi3;injection hi3 with hi3;subst hi3
       have hby:P.bytesOf E=i.bytes:=by simp [Program.bytesOf,hi1]
       have hzs:z.cells.size=e'.sz:=by
        have:=(qbg (w:=w) (N:=fun _=>True) (t:=e')).length
        rw [←hz2] at this;simpa using this
       have heb:qwe P T=i.bytes:=by unfold qwe;rw [hdT];exact hby
       have hv:=qJA A hvs
       obtain ⟨u,v,hu,hr,hx⟩:=hv.two_inv
       have hat:ats=#[T,T2]:=by apply wYa;simpa using hats
       subst hat
       obtain ⟨cn,hex⟩:=qSu (w:=w) (ρ:=ρ) (P:=P) ho
       have hl2:(args.map ρ)=(args.toList.map ρ).toArray:=by apply wYa;simp
       have fin:∀{R:Value→World→Prop},(∃r w',(wta #[T,T2] o.type #[u,v]).run P w= .ok r w'∧R r w')→Does P o ρ w R:=by
        rintro R ⟨r,w',h2,h3⟩
        refine Does.value (v:=r) (w':=w') ?_ h3
        have h1:(builtin .append #[T,T2] o.type cn (args.map ρ)).run P w=(do let v ←wta #[T,T2] o.type #[u,v];pure (Next.value v):Sem Next).run P w:=by rw [hl2,hu];rfl
        rw [hex,h1]
        simp [h2]
       apply fin
       obtain ⟨cl,y1,y2,y3⟩:=qiH (P:=P) A.inv A.sub hcon hx
       have hy1l:=y1.length (n:=e'.sz) (fun _ _=>PRd.length)
       have hsrc:Src P w E T2 e'.sz z.cells v [y].length cl:=Src.given (.inl ⟨E2,hd2⟩) y2 (fun w' hw=>by
        have:=y3 [y].length (ws _) w' hw
        rwa [←hy1l,List.take_length] at this)
       have hlk:=A.sub _ _ (qGc hrow)
       obtain ⟨h1,h2,h3,h4⟩:=qRo A.inv hlk hr
       have hcon:SlRd w (NN c H K w fr0) e' (seg zs 0 n false) u:=qDO h1 h3 h4
       have hseg:seg zs 0 n false=zs.take n:=by simp [seg]
       rw [hseg] at h1 hcon
       have hcon':∃base cap,u= .slice base n cap:=by
        obtain ⟨b0,c0,q,_⟩:=hcon
        exact ⟨b0,c0,by rw [q,h1]⟩
       obtain ⟨base,cap,rfl⟩:=hcon'
       have hlen:(zs.take n++[y]).length=n+1:=by rw [wn,h1];rfl
       by_cases hroom:n+1≤cap
       ·rcases h4 with ⟨q1,_⟩|⟨p,cs,o1,cap',q1,q2,q3,q4,q5,q6⟩
        ·injection q1 with _ _ q1';omega
        ·injection q2 with q2 _ q2'
         subst q2;subst q2'
         obtain ⟨rfl,q4⟩:=q4.resolve_left (by omega)
         have hxl:=q6.length (n:=e'.sz) (fun _ _=>PRd.length)
         have hm1:(n+1)*e'.sz≤cap*e'.sz:=wna _ hroom
         have hm2:(0+n)*e'.sz≤zs.length*e'.sz:=wna _ h2
         rw [wmb] at hm1 hm2 q4
         simp only [List.length_singleton] at hy1l
         have hst:=run_storeCells_cells (P:=P) p.blk (p.ob+0*e'.sz+n*e'.sz) cl 0 w (fun j hj=>q5.is (by omega)) (fun j hj=>q5.free (by omega)) (y1.one (fun _ _=>PRd.one))
         have hcut:(cut cs (0*e'.sz) (n*e'.sz)).length=n*e'.sz:=qpq (by omega)
         obtain ⟨s1,s2,s3,s4,s5⟩:=qzb p.blk cl (p.ob+0*e'.sz+n*e'.sz+0) w
         refine ⟨_,w.setCells p.blk (p.ob+0*e'.sz+n*e'.sz+0) cl,qUk hdT hi1 hi2 hi4 hzs hsrc hroom (by simp only [wPa];exact hst), .inl ⟨_,qUQ A.inv (gh':=⟨.row e' (zs.take n++[y]).length [],some p⟩) hlk q1 (fun p' hp'=>hp') ⟨s1,s2,s3,s4,fun k hk=>s5 k (fun e=>hk p (.inl rfl) e.symm)⟩ (fun N' K' hN hk=>⟨rfl,cut cs (0*e'.sz) (n*e'.sz)++cl,?_,?_⟩) hob,⟨zs.length,p,q1,qbb⟩,?_⟩⟩
         ·have:=q5.move (q:=p.ob) (o:=p.ob+0*e'.sz+n*e'.sz+0) (s:=cl) (ds:=cut cs (0*e'.sz) (n*e'.sz)++cl) (by simp only [wn,hcut,hy1l];omega) (by omega) (by simp only [wn,hcut,hy1l];omega) (fun j v hj=>by
           by_cases hj1:j<n*e'.sz
           ·rw [wza (by omega),qvm,if_pos hj1] at hj
            rw [if_pos (by omega)]
            exact ⟨by omega,by rw [←hj];congr 1;omega⟩
           ·rw [woa (by omega),hcut] at hj
            have hj2:=(wga.1 hj).1
            rw [if_neg (by omega),if_pos (by omega)]
            rw [←hj];congr 1;omega)
          exact this
         ·refine Cat.append ?_ (y1.imp (fun _ _ q=>q.flat hf))
          have:=qtn (off:=0) (len:=n) (wh:=false) (fun _ _=>PRd.length) q6 h3
          rw [hseg] at this
          exact this.imp (fun _ _ q=>q.flat hf)
         ·show RefRd _ _ _ _ _ _ _
          rw [hlen]
          refine ⟨_,some p,⟨[],qbb⟩,by omega,fun _=>⟨rfl,by omega⟩,_,cap,rfl,hroom, .inr ⟨rfl,?_⟩⟩
          rw [wmb];omega
       ·obtain ⟨c1,_⟩:=hc
        rw [heb,hlen] at c1
        obtain ⟨v',w',K',g1,g2,g3⟩:=qsu (ty:=o.type) A.inv A.ng (A.fresh nl (ws _) (by omega)) hdT hi1 hi2 hi4 hzs (zs:=zs.take n) (fr1:=fr0) hcon hsrc y1 rfl (by simp;omega) (by simpa using c1) (by omega)
        exact ⟨v',w',g1, .inr ⟨K',g2,g3⟩⟩
      ·cases h
    ·cases h
   ·cases h
  ·cases h
 ·cases h
def okG (e:Ty) (l m:Nat):TV→Option (List Prop)
 | .one (.ref e' l' 0 n' false)=>if l'=l then (if e'=e then some [n'≤m] else none) else some []
 |v=>if (qUm v).contains l then none else some []
def qRR (e:Ty) (l m:Nat):List (Nat×TV)→Option (List Prop)
 |[]=>some []
 |p::r=>match okG e l m p.2,qRR e l m r with
  |some a,some b=>some (a++b)
  |_,_=>none
theorem qZQ {w w':World} {N N':Bool→Nat→Prop} {K K':Kn} {e:Ty} {l m:Nat} (hs:∀x,x≠l→K' x=K x) (hk:∀fr,Keep w w' (N fr) (N' fr)) (hg:Grown K K' e l m) {v:TV} {u:Value} {cs:List Prop} (h:okG e l m v=some cs) (hc:qqh cs) (hr:TVRd w N K v u):TVRd w' N' K' v u:=by
 unfold okG at h
 split at h
 ·rename_i e' l' n'
  split at h
  ·rename_i hl
   subst hl
   split at h
   ·rename_i he
    subst he
    simp only [wc] at h;subst h
    exact hg.ref hr hc.1
   ·cases h
  ·rename_i hl
   exact hr.other hs hk (by simp [qUm,qjj];exact fun e=>hl e.symm)
 ·split at h
  ·cases h
  ·rename_i hl
   exact hr.other hs hk (by simpa using hl)
theorem qQH {e:Ty} {l m:Nat}:∀{ts:List (Nat×TV)} {cs:List Prop},qRR e l m ts=some cs→qqh cs→∀p∈ts,∃a,okG e l m p.2=some a∧qqh a
 |[],_,_,_,p,hp=>by cases hp
 |q::r,cs,h,hc,p,hp=>by
  simp only [qRR] at h
  split at h
  ·rename_i a b ha hb
   simp only [wc] at h;subst h
   obtain ⟨h1,h2⟩:=qVk hc
   rcases wZ.1 hp with rfl|hp
   ·exact ⟨a,ha,h1⟩
   ·exact qQH hb h2 p hp
  ·cases h
theorem Rel.putL (R:Rel c P GT nt T H K a w) {upd:List (Nat×Option Obj)} {K':Kn} {w':World} {l:Nat} (S:StpL c H K w upd l K' w') {dst:Option Nat} {v:TV} {u:Value} (hv:TVRd w' (NN c (qJb H upd) K' w') K' v u) (hd:qum nt dst=true)
  (hok:∀t u,TVRd w (NN c H K w) K (T t) u→TVRd w' (NN c (qJb H upd) K' w') K' (T t) u):
  Rel c P GT nt (qYy T dst v) (qJb H upd) K' (a.put dst u) w':=by
 have hsz:(ngOf GT)≤w'.heap.size:=by
  have:=S.inv.fr.size
  have:=R.ng
  have:=R.gng
  omega
 refine ⟨S.inv,fun t=>?_,?_,?_,R.ng,R.gng,R.glob.keep hsz (fun g hg=>((S.keep false).k g (R.glob_nn hg)).2)⟩
 ·cases dst with
  |none=>exact hok t _ (R.tmps t)
  |some d=>
   simp only [qum,decide_eq_true_eq] at hd
   simp only [qYy]
   split
   ·rename_i e
    subst e
    have:(a.put (some t) u).eval (.tmp t)=u:=by
     simp [Act.put,Act.eval,R.size,hd]
    rw [this];exact hv
   ·rename_i e
    rw [Act.eval_put (fun d' hd' hx=>e (by cases hd';cases hx;rfl))]
    exact hok t _ (R.tmps t)
 ·cases dst <;> simp [Act.put,R.size]
 ·cases dst <;> simp [Act.put,R.defers]
end
end Go.Ab

/-
  A state brought into its form: what is no longer needed is let go, rows and boxes get their names.
-/
set_option linter.unusedVariables false
set_option linter.unusedSimpArgs false
namespace Go.Ab
open Go
def qHa:Code→Code
 | .seq a _=>a
 |c=>c
def qaa:Code→Code
 | .seq _ b=>b
 |c=>c
def qJQ:Code→Code
 | .cond _ a _=>a
 |c=>c
def qWS:Code→Code
 | .cond _ _ b=>b
 |c=>c
def cIn:Code→Code
 | .block _ b=>b
 | .loop b=>b
 | .scope b=>b
 |c=>c
def qiT (c:Code) (l:Nat):Code:=(findLabel c l).getD .skip
def qea (P:Program) (f:Nat):Code:=match P.funcs[f]? with
 |some fn=>match fn.body with
  |some c=>c
  |none=> .skip
 |none=> .skip
def qrh (P:Program) (f:Nat):Nat:=match P.funcs[f]? with
 |some fn=>fn.ntmps
 |none=>0
section
variable {P:Program} {GT:qmi} {nt:Nat} {c:Cx} {H lk:qBc} {K K':Kn} {w:World} {ren:List (Nat×Nat)} {lo:Bool} {N':Bool→Nat→Prop}
theorem qCr {σ:St}:∀{ts:List Nat} {l:List (Nat×TV)} {t:Nat} {v:TV},qbE σ ren lo ts=some l→lookL l t=some v→qUq (qvb σ.heap) ren lo (σ.look t)=some v
 |[],l,t,v,h,hl=>by simp only [qbE,wc] at h;subst h;cases hl
 |a::r,l,t,v,h,hl=>by
  simp only [qbE] at h
  split at h
  ·rename_i x vs e1 e2
   simp only [wc] at h;subst h
   simp only [lookL] at hl
   split at hl
   ·rename_i e;subst e;simp only [wc] at hl;subst hl;exact e1
   ·exact qCr e2 hl
  ·cases h
theorem qNK {n n' o:Nat}:∀{ren:List (Nat×Nat)},qrr (ren.map (·.2))=true→(n,o)∈ren→(n',o)∈ren→n=n'
 |[],_,h,_=>by cases h
 |(a,b)::r,hn,h,h'=>by
  simp only [wI] at hn
  obtain ⟨h1,h2⟩:=qKt hn
  rcases wZ.1 h with e|h3
  ·injection e with e1 e2;subst e1;subst e2
   rcases wZ.1 h' with e'|h4
   ·injection e' with e1 _;exact e1.symm
   ·exact (h1 (waa.2 ⟨_,h4,rfl⟩)).elim
  ·rcases wZ.1 h' with e'|h4
   ·injection e' with e1 e2;subst e1;subst e2
    exact (h1 (waa.2 ⟨_,h3,rfl⟩)).elim
   ·exact qNK h2 h3 h4
theorem qOx {σ:St} {nx:Nat} {hl0:List (Nat×Option Obj)} {a:Act} (R:RelS c P GT nt σ K a w) (hok:qfJ ren nx=true) (e2:qGd (qvb σ.heap) ren lo ren=some hl0):
  ∃K':Kn,KeepX c (qvb σ.heap) K K' w ren lo (fun _=>True) (NN c (qvb hl0) K' w)∧Inv c (qvb hl0) K' w∧(∀l,l<8→K' l=K l)∧(∀l,nx≤l→K' l=none):=by
 simp only [qfJ,wA,wwa,decide_eq_true_eq,wyb,beq_iff_eq] at hok
 obtain ⟨⟨⟨h1,h2⟩,h3⟩,h8⟩:=hok
 let K':Kn:=fun l=>if l<8 then K l else match lookL ren l with
  |some o=>K o
  |none=>none
 have hK':∀n o,(n,o)∈ren→K' n=K o:=by
  intro n o hm
  have hl:=qJt h1 hm
  have:=(h3 _ hm).2
  simp only [K']
  split
  ·rename_i hn
   rcases this with ⟨a1,_⟩|a1
   ·omega
   ·simp only at a1;rw [a1]
  ·rw [hl]
 have hO:∀n o,qvb hl0 n=some o→∃m o',(n,m)∈ren∧qvb σ.heap m=some o'∧qpm (qvb σ.heap) ren lo o'=some o:=by
  intro n o hl
  unfold qvb at hl
  split at hl
  ·rename_i x hx
   obtain ⟨m,o1,o2,g1,g2,g3,g4⟩:=qDr e2 hx
   subst hl
   injection g4 with g4;subst g4
   exact ⟨m,o1,g1,g2,g3⟩
  ·cases hl
 have hlive:∀b,qqc (qvb hl0) K' b→∃l o gh p,(∃n,(n,l)∈ren)∧qvb σ.heap l=some o∧K l=some gh∧Has gh p∧p.blk=b:=by
  rintro b ⟨l,o,gh,p,q1,q2,q3,q4⟩
  obtain ⟨m,o',m1,m2,m3⟩:=hO l o q1
  rw [hK' l m m1] at q2
  exact ⟨m,o',gh,p,⟨l,m1⟩,m2,q2,q3,q4⟩
 have X:KeepX c (qvb σ.heap) K K' w ren lo (fun _=>True) (NN c (qvb hl0) K' w):=by
  refine ⟨fun fr b hb=>?_,fun l n hn=>hK' n l (qrx hn),fun l o gh p _ hn q1 q2 q3 fr=>?_⟩
  ·have h1:NN c (qvb hl0) K' w fr b:=⟨hb.1,fun hn=>by
    obtain ⟨l,o,gh,p,_,q⟩:=hlive b hn
    exact hb.2.1 ⟨l,o,gh,p,q⟩,hb.2.2⟩
   cases fr <;> cases lo <;> first|exact h1|exact uj b h1
  ·have ho:=R.rel.inv.own l o gh p q1 q2 q3
   refine ⟨ho.1,fun hn2=>?_,ho.2.1.imp id .inl⟩
   obtain ⟨l',o',gh',p',⟨n',m1⟩,m2,m3,m4,m5⟩:=hlive _ hn2
   have:=R.rel.inv.inj l' l o' o gh' gh p' p m2 q1 m3 q2 m4 q3 m5
   subst this
   exact qgq hn n' m1
 refine ⟨K',X,⟨fun l o hl=>?_,fun l o gh p q1 q2 q3=>?_,fun l l' o o' gh gh' p p' q1 q2 q3 q4 q5 q6 q7=>?_,R.rel.inv.fr⟩,fun l hl=>by simp only [K',hl,if_true],fun l hl=>?_⟩
 ·obtain ⟨m,o',m1,m2,m3⟩:=hO l o hl
  obtain ⟨gh,g1,g2⟩:=R.rel.inv.objs m o' m2
  exact ⟨gh,by rw [hK' l m m1];exact g1,qYH X R.rel.inv (fun _ _ h=>h) (fun _ _=>trivial) m3 g2⟩
 ·obtain ⟨m,o',m1,m2,m3⟩:=hO l o q1
  rw [hK' l m m1] at q2
  exact R.rel.inv.own m o' gh p m2 q2 q3
 ·obtain ⟨m,o1,m1,m2,_⟩:=hO l o q1
  obtain ⟨m',o2,m3,m4,_⟩:=hO l' o' q2
  rw [hK' l m m1] at q3
  rw [hK' l' m' m3] at q4
  have e:=R.rel.inv.inj m m' o1 o2 gh gh' p p' m2 m4 q3 q4 q5 q6 q7
  subst e
  exact qNK h2 m1 m3
 ·have hl8:¬l<8:=by omega
  simp only [K',hl8,if_false]
  cases hx:lookL ren l with
  |none=>rfl
  |some o=>
   exfalso
   have:=(h3 _ (qlc hx)).1
   simp only at this
   omega
theorem qyJ {σ σ':St} {ts:List Nat} {nx:Nat} (h:σ.keep ts ren nx lo=some σ') (todo:List Item):Reach P GT nt ⟨todo,σ⟩ ⟨todo,σ'⟩:=by
 intro c K a w b cs R
 unfold St.keep at h
 split at h
 ·rename_i hok
  split at h
  ·rename_i tl hl0 e1 e2
   simp only [wc] at h;subst h
   obtain ⟨K',X,hI,h8,hx⟩:=qOx R hok e2
   refine ⟨K',a,w,⟨⟨hI,fun t=>?_,R.rel.size,R.rel.defers,R.rel.ng,R.rel.gng,R.rel.glob⟩,fun l hl=>hx l hl⟩,fun l gh hl hkl=>by rw [h8 l hl];exact hkl,Steps.refl _ _⟩
   show TVRd w (NN c (qvb hl0) K' w) K' (St.look ⟨tl,hl0,nx⟩ t) _
   unfold St.look
   split
   ·rename_i v hv
    exact qQx X R.rel.inv (fun _ _ h=>h) (fun _ _=>trivial) (qCr e1 hv) (R.rel.tmps t)
   ·trivial
  ·cases h
 ·cases h
def qAJ:List Item→Bool
 |[]=>true
 | .code .ret::_=>true
 |_=>false
theorem qzJ {todo:List Item} (h:qAJ todo=true):todo=[]∨∃k,todo= .code .ret::k:=by
 unfold qAJ at h
 split at h
 ·exact .inl rfl
 ·exact .inr ⟨_,rfl⟩
 ·cases h
def AVle (a b:AV):Prop:=∀(w:World) (N:Bool→Nat→Prop) (K:Kn) (v:Value),VRd w N K a v→VRd w N K b v
theorem AVle.refl (a:AV):AVle a a:=fun _ _ _ _ h=>h
def AVsLe:List AV→List AV→Prop
 |[],[]=>True
 |a::as,b::bs=>AVle a b∧AVsLe as bs
 |_,_=>False
theorem AVsLe.refl:∀(as:List AV),AVsLe as as
 |[]=>trivial
 |a::as=>⟨AVle.refl a,AVsLe.refl as⟩
theorem AVsLe.append:∀{a a' b b':List AV},AVsLe a a'→AVsLe b b'→AVsLe (a++b) (a'++b')
 |[],[],_,_,_,h=>h
 |_::_,_::_,_,_,h,h'=>⟨h.1,h.2.append h'⟩
 |[],_::_,_,_,h,_=>h.elim
 |_::_,[],_,_,h,_=>h.elim
theorem AVsLe.rd {w:World} {N:Bool→Nat→Prop} {K:Kn}:∀{as bs:List AV} {vs:List Value},AVsLe as bs→VRdL w N K as vs→VRdL w N K bs vs
 |[],[],_,_,h=>h
 |a::as,b::bs,vs,h,hv=>by
  obtain ⟨v,q,e,h1,h2⟩:=hv
  exact ⟨v,q,e,h.1 _ _ _ _ h1,h.2.rd h2⟩
 |[],_::_,_,h,_=>h.elim
 |_::_,[],_,h,_=>h.elim
def TVle:TV→TV→Prop
 | .one a, .one b=>AVle a b
 | .tup as, .tup bs=>AVsLe as bs
 |_,_=>False
theorem TVle.rd {w:World} {N:Bool→Nat→Prop} {K:Kn} {a b:TV} {v:Value} (h:TVle a b) (hv:TVRd w N K a v):TVRd w N K b v:=by
 cases a <;> cases b <;> first|exact h _ _ _ _ hv|exact h.elim|skip
 obtain ⟨vs,e,h1⟩:=hv
 exact ⟨vs,e,AVsLe.rd h h1⟩
def qNS (P:Program) (GT:qmi) (nt:Nat) (rs:List ResultVar) (s:Pos) (res:TV) (post:List (Nat×Obj)):Prop:=
 ∀(c:Cx) (K:Kn) (a:Act) (w:World) (b:Frame) (cs:List Frame),RelS c P GT nt s.st K a w→
  ∃(s':Pos) (res0 res1:TV) (ren:List (Nat×Nat)) (nx:Nat) (lo:Bool) (K':Kn) (a':Act) (w':World),RelS c P GT nt s'.st K' a' w'∧(∀l gh,l<8→K l=some gh→K' l=some gh)∧
   Steps P (lone (b.at a s.todo) cs w) (lone (b.at a' s'.todo) cs w')∧qAJ s'.todo=true∧qKF P s'.st rs=some res0∧qfJ ren nx=true∧qUq (qvb s'.st.heap) ren lo res0=some res1∧TVle res1 res∧qGd (qvb s'.st.heap) ren lo ren=some (qRc post)
def qqt:List (Nat×Option Obj)→Option (List (Nat×Obj))
 |[]=>some []
 |(l,some o)::r=>match qqt r with
  |some os=>some ((l,o)::os)
  |none=>none
 |_=>none
theorem qwu:∀{h:List (Nat×Option Obj)} {os:List (Nat×Obj)},qqt h=some os→h=qRc os
 |[],os,h=>by simp only [qqt,wc] at h;subst h;rfl
 |(l,some o)::r,os,h=>by
  simp only [qqt] at h
  split at h
  ·rename_i os' e
   simp only [wc] at h;subst h
   rw [qwu e];rfl
  ·cases h
 |(l,none)::r,os,h=>by simp [qqt] at h
theorem qNG {f:Nat} {fn:Func} {body:Code} {args:List AV} {pre post:List (Nat×Obj)} {res:TV}
  (hf:P.funcs[f]?=some fn) (hb:fn.body=some body) (hnm:(fn.name== "runtime.NumGoroutine")=false) (hnt:args.length≤fn.ntmps) (hp:pre.all (fun p=>decide (p.1<8))=true)
  (h:qNS P GT fn.ntmps fn.results.toList ⟨[.code body],st0 args pre⟩ res post):CallOK P GT f args pre res post:=by
 intro w F G K vs hglob hinv hG hK hF hargs
 have hlen:=hargs.len
 have hcf:(callFunc f vs.toArray).run P w= .ok (.enter f vs.toArray) w:=by
  have hnm':¬fn.name= "runtime.NumGoroutine" :=by simpa using hnm
  simp [callFunc,hf,hnm',hb]
 unfold qer
 rw [hcf]
 intro cs
 let b:Frame:={(default:Frame) with fn:=f,kind:= .normal}
 let a0:Act:={tmps:=vs.toArray++Array.replicate (fn.ntmps - vs.toArray.size) undef,defers:=[]}
 have henter:Frame.enter P f vs.toArray .normal=b.at a0 [.code body]:=by
  simp [Frame.enter,Frame.at,hf,hb,b,a0]
 have hK8:∀l,8≤l→K l=none:=by
  intro l hl
  refine hK l (qTm (fun hm=>?_))
  obtain ⟨p,h1,h2⟩:=waa.1 hm
  have:=wwa.1 hp p h1
  simp only [decide_eq_true_eq] at this
  omega
 have R0:RelS ⟨w,F,G,(ngOf GT),[]⟩ P GT fn.ntmps (st0 args pre) K a0 w:=by
  refine ⟨⟨?_,fun t=>?_,?_,rfl,hglob.1,rfl,hglob⟩,hK8⟩
  ·show Inv _ (qvb (qRc pre)) K w
   rw [qdk];exact hinv
  ·show TVRd w (NN _ (qvb (qRc pre)) K w) K _ _
   rw [qdk]
   simp only [St.look,st0,qRt,Nat.zero_le,if_true,wEa]
   cases ht:args[t]? with
   |none=>trivial
   |some v=>
    simp only [wCa]
    obtain ⟨u,hu,hr⟩:=hargs.get ht
    have:a0.eval (.tmp t)=u:=by
     have htl:t<vs.length:=(wga.1 hu).1
     simp only [Act.eval,a0,wAa]
     rw [Array.getElem?_append_left (by simpa using htl)]
     simp [hu]
    rw [this];exact hr
  ·simp only [a0,Array.size_append,wMa,Array.size_replicate]
   omega
 obtain ⟨⟨todo,σ'⟩,res0,res1,ren,nx,lo,K1,a',w',R',hm',hst,ht,hres,hok,e1,ele,e2⟩:=h _ K a0 w b cs R0
 obtain ⟨v,hv1,hv2⟩:=qpH R' hres
 obtain ⟨K2,X,hI,h8,hx⟩:=qOx R' hok e2
 rw [qdk] at X hI
 rw [←henter] at hst
 have hR:∃v',Ending.returned v= .returned v'∧(∃K',(∀l gh,K l=some gh→K' l=some gh)∧Inv ⟨w,F,G,(ngOf GT),[]⟩ (lookL post) K' w'∧TVRd w' (NN ⟨w,F,G,(ngOf GT),[]⟩ (lookL post) K' w') K' res v'):=by
  refine ⟨v,rfl,K2,fun l gh hl=>?_,hI,ele.rd (qQx X R'.rel.inv (fun _ _ h=>h) (fun _ _=>trivial) e1 hv2)⟩
  by_cases hl8:l<8
  ·rw [h8 l hl8];exact hm' l gh hl8 hl
  ·rw [hK8 l (by omega)] at hl;cases hl
 rcases qzJ ht with h0|⟨k,h0⟩
 ·simp only at h0;subst h0
  exact ⟨.returned v,w',_,hR,Steps.trans hst (.one step_end),rfl,rfl,R'.rel.defers,rfl,fn,hf,hv1⟩
 ·simp only at h0;subst h0
  exact ⟨.returned v,w',_,hR,Steps.trans hst (.one step_ret),rfl,rfl,R'.rel.defers,rfl,fn,hf,hv1⟩
def qCP (P:Program) (f:Nat):List ResultVar:=match P.funcs[f]? with
 |some fn=>fn.results.toList
 |none=>[]
def qbQ (P:Program) (f:Nat) (n:Nat):Bool:=match P.funcs[f]? with
 |some fn=>fn.body.isSome&&!(fn.name== "runtime.NumGoroutine")&&decide (n≤fn.ntmps)
 |none=>false
theorem qGM {f:Nat} {args:List AV} {pre post:List (Nat×Obj)} {res:TV} (hok:qbQ P f args.length=true) (hp:pre.all (fun p=>decide (p.1<8))=true)
  (h:qNS P GT (qrh P f) (qCP P f) ⟨[.code (qea P f)],st0 args pre⟩ res post):CallOK P GT f args pre res post:=by
 unfold qbQ at hok
 split at hok
 ·rename_i fn hf
  simp only [wA,wRa,decide_eq_true_eq] at hok
  obtain ⟨⟨h1,h2⟩,h3⟩:=hok
  obtain ⟨body,hb⟩:=wHa.1 h1
  refine qNG hf hb h2 h3 hp ?_
  simpa [qrh,qCP,qea,hf,hb] using h
 ·cases hok
end
end Go.Ab

/-
  Plain functions that the printed functions use.
-/
set_option linter.unusedVariables false
namespace Go.Ab
open Go
def qZk (k:IntKind) (a b:Int):Int:=a.fdiv (2 ^ (min b.toNat k.bits))
def qzw (k:IntKind) (a b:Int):Int:=a*2 ^ (min b.toNat k.bits)
def qUa (k:IntKind) (x y:Int):Int:=k.wrap (wF k.bits x &&& wF k.bits y).toNat
def qrc (k:IntKind) (x y:Int):Int:=k.wrap (wF k.bits x ||| wF k.bits y).toNat
def qDb (k:IntKind) (x y:Int):Int:=k.wrap (wF k.bits x ^^^ wF k.bits y).toNat
end Go.Ab

/-
  Operations whose answer Go leaves open: a slice held against nil, new memory of whatever bytes.
-/
set_option linter.unusedVariables false
set_option linter.unusedSimpArgs false
namespace Go.Ab
open Go
structure AnyO:Type 1 where
 pre:List Prop
 R:Type
 p:R→Prop
 out:R→Out
def qpA (P:Program) (f:Nat):Prop:=∃fn ps t e,P.funcs[f]?=some fn∧(fn.name== "runtime.NumGoroutine")=false∧fn.body.isNone=true∧Extern.findNext fn=none∧
 Extern.find fn=some (Extern.BytealgMakeNoZero.makeNoZero ps #[t])∧P.underlying t=some (.slice e)
def qMM (P:Program) (mnz:List Nat) (ev:Operand→TV) (nl:Nat) (op:Op):Option AnyO:=
 match op with
 | .binOp op T x y _=>match ev1 ev x,ev1 ev y with
   |some (.sl e fr xs),some .nil=>if qKn P T then match op with
     | .eql=>some ⟨[],Bool,fun b=>b=true→xs=[],fun b=>⟨.one (.bool b),[],[]⟩⟩
     | .neq=>some ⟨[],Bool,fun b=>b=false→xs=[],fun b=>⟨.one (.bool b),[],[]⟩⟩
     |_=>none
    else none
   |some (.ref e l off len wh),some .nil=>if qKn P T then match op with
     | .eql=>some ⟨[],Bool,fun b=>b=true→len=0,fun b=>⟨.one (.bool b),[],[]⟩⟩
     | .neq=>some ⟨[],Bool,fun b=>b=false→len=0,fun b=>⟨.one (.bool b),[],[]⟩⟩
     |_=>none
    else none
   |_,_=>none
 | .call {callee:= .value f,args,argTypes:=_}=>match ev1 ev f,evs ev args.toList with
   |some (.func f []),some [.int .i64 n]=>if mnz.contains f then
     some ⟨[0≤n,n≤140737488355328],List Int,fun xs=>xs.length=n.toNat,fun xs=>⟨.one (.ref (.int .u8) nl 0 xs.length true),[(nl,some (.row (.int .u8) true xs))],[]⟩⟩
    else none
   |_,_=>none
 |_=>none
section
variable {c:Cx} {P:Program} {GT:qmi} {H lk:qBc} {K:Kn} {w:World} {ev:Operand→TV} {ρ:Operand→Value} {nl:Nat}
theorem qty:∀(n t:Nat) (acc:Array Value) (xs:List Int),acc.toList=xs.map (wgb .u8)→∃ys:List Int,(Extern.BytealgMakeNoZero.digits n t acc).toList=ys.map (wgb .u8)
 |0,_,acc,xs,h=>⟨xs,h⟩
 |n+1,t,acc,xs,h=>by
  rw [Extern.BytealgMakeNoZero.digits]
  exact qty n _ _ (xs++[Int.ofNat (t%256)]) (by simp [h])
theorem qBP (ps:Array TypeId) (t e:TypeId) (ht:P.underlying t=some (.slice e)) (n:Nat) (hn:n≤140737488355328):
  ∃(cs:Array Value) (ys:List Int),cs.toList=ys.map (wgb .u8)∧(Extern.BytealgMakeNoZero.makeNoZero ps #[t] #[.int .i64 n]).run P w= .ok (.slice (some ⟨w.heap.size,0,none⟩) n cs.size) (w.drew.drew.alloc (.cells cs e))∧n≤cs.size:=by
 have hdef:Extern.BytealgMakeNoZero.makeNoZero ps #[t] #[.int .i64 n]=
   (do
    let .slice elem ←underlying t|stuck "bytealg.MakeNoZero: slice type expected"
    if (n:Int)<0||(n:Int)>2 ^ 48 then runtimePanic (.error "makeslice: len out of range")
    let cap ←choose (.appendCap (n:Int).toNat 0 elem)
    askRoom cap
    let bytes ←choose (.extern "internal/bytealg.MakeNoZero.bytes" 0)
    let a ←newRow elem (Extern.BytealgMakeNoZero.digits cap bytes #[])
    pure (.slice (some a) (n:Int).toNat cap)):=rfl
 obtain ⟨ys,hys⟩:=qty (grownCap w n 0 e) ((Question.extern "internal/bytealg.MakeNoZero.bytes" 0).cut (w.tape (w.drawn+1) (.extern "internal/bytealg.MakeNoZero.bytes" 0))) #[] [] rfl
 refine ⟨_,ys,hys,?_,?_⟩
 ·rw [hdef]
  have h1:¬(n:Int)<0:=by omega
  have h2:¬(281474976710656:Int)<(n:Int):=by omega
  simp [run_underlying ht,h1,h2,Question.forced,newRow,Lib.size_digits,grownCap]
 ·rw [Lib.size_digits]
  simpa using grownCap_ge w n 0 e
theorem qbF (A:At c P GT H lk K w ev ρ nl) {mnz:List Nat} (hm:∀f∈mnz,qpA P f) {o:Oper} {a:AnyO} (h:qMM P mnz ev nl o.op=some a) (hc:qqh a.pre):
  Does P o ρ w (fun v w'=>∃x,a.p x∧Lands c H K w nl (a.out x) v w'):=by
 unfold qMM at h
 split at h
 ·rename_i op T x y T' ho
  have hnil:∀{n cp:Nat} {A0:Option Addr} {q:Value},VRd w (NN c H K w) K .nil (ρ y)→ρ x= .slice A0 n cp→qKn P T=true→
    (op= .eql→(execOp ρ o).run P w= .ok (.value (.bool A0.isNone)) w)∧(op= .neq→(execOp ρ o).run P w= .ok (.value (.bool (!A0.isNone))) w):=by
   intro n cp A0 q h2 h1 hd
   simp only [VRd] at h2
   obtain ⟨e',hd'⟩:=qjp hd
   have heq:=qAh 9999 (w:=w) (a:=A0) (n:=n) (c:=cp) hd'
   constructor
   ·rintro rfl
    simp only [execOp,ho,h1,h2]
    rw [ww,ww,qVi]
    simp only [binOp,Op.equal,wLa,ww,heq,wt,wH]
   ·rintro rfl
    simp only [execOp,ho,h1,h2]
    rw [ww,ww,qVi]
    simp only [binOp,Op.equal,wLa,ww,heq,wt,wH]
  split at h
  ·rename_i e fr xs hx hy
   split at h
   ·rename_i hd
    obtain ⟨A0,cap,e1,hl,hb⟩:=A.one hx
    simp only [wIa,and_true] at e1
    have hk:A0.isNone=true→xs=[]:=by
     intro hA
     rcases hb with hb|⟨b,o',cl,e2,_⟩
     ·exact hb
     ·subst e2;cases hA
    split at h
    ·simp only [wc] at h;subst h
     refine Does.value ((hnil (q:=undef) (A.one hy) e1 hd).1 rfl) ⟨A0.isNone,hk,Lands.one A.inv rfl⟩
    ·simp only [wc] at h;subst h
     refine Does.value ((hnil (q:=undef) (A.one hy) e1 hd).2 rfl) ⟨!A0.isNone,fun hb=>hk (by simpa using hb),Lands.one A.inv rfl⟩
    ·cases h
   ·cases h
  ·rename_i e l off len wh hx hy
   split at h
   ·rename_i hd
    have hr:∃A0 cp,ρ x= .slice A0 len cp∧(A0.isNone=true→len=0):=by
     obtain ⟨n,pl,h1,h2,h3,h4⟩:=A.one hx
     cases pl with
     |none=>
      obtain ⟨e1,rfl⟩:=h4
      have:len=0:=by omega
      subst this
      exact ⟨none,0,e1,fun _=>rfl⟩
     |some p=>
      obtain ⟨o',cap,e1,_⟩:=h4
      exact ⟨_,cap,e1,fun hA=>by cases hA⟩
    obtain ⟨A0,cp,e1,hk⟩:=hr
    split at h
    ·simp only [wc] at h;subst h
     refine Does.value ((hnil (q:=undef) (A.one hy) e1 hd).1 rfl) ⟨A0.isNone,hk,Lands.one A.inv rfl⟩
    ·simp only [wc] at h;subst h
     refine Does.value ((hnil (q:=undef) (A.one hy) e1 hd).2 rfl) ⟨!A0.isNone,fun hb=>hk (by simpa using hb),Lands.one A.inv rfl⟩
    ·cases h
   ·cases h
  ·cases h
 ·rename_i f args ats ho
  split at h
  ·rename_i g n hf hvs
   split at h
   ·rename_i hg
    simp only [wc] at h;subst h
    obtain ⟨c0,c1,_⟩:=hc
    obtain ⟨fn,ps,t,e,g1,g2,g3,g4,g5,g6⟩:=hm g (by simpa using hg)
    obtain ⟨cvs,h1,h2⟩:=A.one hf
    simp only [capsRd] at h2;subst h2
    have hv:=qJA A hvs
    obtain ⟨u,hu,hun⟩:=hv.one_inv
    simp only [VRd] at hun;subst hun
    obtain ⟨m,rfl⟩:=Int.eq_ofNat_of_zero_le c0
    obtain ⟨cs,ys,hcs,hrun,hle⟩:=qBP (P:=P) (w:=w) ps t e g6 m (by omega)
    have harr:(args.map ρ++#[])=#[wgb .i64 (m:Int)]:=by
     apply wYa;simp [hu]
    have hex:(execOp ρ o).run P w=(callFunc g #[wgb .i64 (m:Int)]).run P w:=by
     simp only [execOp,ho,resolve,h1,Deferred.ofValue,invoke,pure_bind]
     rw [←harr]
     simp
    rw [run_callFunc_extern g1 g2 g3 g4 g5,hrun] at hex
    refine Does.value hex ⟨ys.take m,?_,?_⟩
    ·have hln:ys.length=cs.size:=by rw [←wQa,hcs];simp
     simp;omega
    ·have hln:ys.length=cs.size:=by rw [←wQa,hcs];simp
     have hlt:(ys.take m).length=m:=by simp;omega
     have hab:=InBlk.new w.drew.drew cs e
     rw [hcs] at hab
     have hsp:ys.map (wgb .u8)=(ys.take m).map (wgb .u8)++(ys.drop m).map (wgb .u8):=by rw [←wBa,List.take_append_drop]
     rw [hsp] at hab
     have hfn:=A.fresh nl (ws _) (by omega)
     refine ⟨_,qJs (w:=w) (w':=w.drew.drew.alloc (.cells cs e)) A.inv A.ng ⟨ws _,by omega⟩ hfn (e:= .int .u8) (fr:=true) (xs:=ys.take m) (p:=⟨w.heap.size,0,cs.size⟩) (cs:=(ys.take m).map (wgb .u8)) (qRb w.drew.drew _) ⟨ws _,by rw [qwb];exact wsa _⟩ hab.front (qYs _),?_⟩
     show RefRd _ _ _ _ _ _ _
     rw [hlt]
     exact qVo (p:=⟨w.heap.size,0,cs.size⟩) rfl hle (.inr (by simp [Ty.sz]))
   ·cases h
  ·cases h
 ·cases h
end
end Go.Ab
