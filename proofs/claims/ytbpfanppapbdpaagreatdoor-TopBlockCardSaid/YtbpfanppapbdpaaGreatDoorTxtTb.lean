/-
  An abstract machine over the model's code and its soundness; what the functions compute, as plain functions (printed by a program of this repo's own, checked here by the kernel); plain laws of them: part 2. Helper text, no statement of the claim stands here.
-/
import Derived.Test.YtbpfanppapbdpaaGreatDoorTxtTa
import Derived.Lib.ConvBytes
import Derived.Laws.BytesArg
import Derived.Laws.BytesString
import Derived.Laws.AppendOwn
import Derived.Orders
import Derived.Scope
import Derived.Conc.LoneCalls
import Derived.Laws.Externs
import Derived.Lib.MakeNoZero
open Array renaming ext' → wUa, getD_eq_getD_getElem? → wya, getElem?_eq_some_iff → wTa, getElem?_toList → wfa, length_toList → wPa
open BitVec renaming ofInt → wC
open Bool renaming and_eq_true → wz, false_eq_true → wI, not_eq_true' → wqb, or_eq_true → wub
open ByteArray renaming toList → wW
open Go.Addr renaming add_lit → wNa
open Go.Builtin renaming append_ → wra, firstCells → wwa, zeroCells → wpa
open Go.Instr renaming checkKey → web, sameNow → wvb
open Go.Op renaming maxDepth → wHa
open Go.Region renaming wanted → wob
open Go.Result renaming andThen_ok → wq
open Go.Sem renaming run_bind → wu, run_pure → wE
open Go.Value renaming cells → wpb, int → wbb
open List renaming all_cons → wnb, all_eq_true → wAa, append_assoc → wB, contains_eq_mem → wva, eq_nil_of_length_eq_zero → wG, ext_getElem? → wQa, flatMap_cons → wib, getD_eq_getElem?_getD → wt, getElem?_append_left → wha, getElem?_append_right → wda, getElem?_cons_succ → wRa, getElem?_cons_zero → wSa, getElem?_eq_getElem → wx, getElem?_eq_some_iff → wZ, getElem?_map → wDa, getElem?_set → wtb, length → we, length_append → wl, length_cons → ww, length_nil → wN, length_replicate → wX, map_append → wBa, map_cons → wJ, map_nil → wKa, mem_append → wR, mem_cons → wU, mem_cons_of_mem → wH, mem_cons_self → wK, mem_map → wP, mem_of_getElem? → wma, mem_singleton → wT, nil_append → waa, range → wVa, replicate → wn, size_toArray → wLa, take_length → wOa
open List.cons renaming injEq → wFa
open Nat renaming add_assoc → wxa, add_mul → whb, add_zero → wXa, le_refl → ws, lt_of_lt_of_le → wY, lt_succ_self → wqa, mul_le_mul_right → wja, sub_zero → wYa, succ_mul → wua, zero_add → wO
open Ne renaming symm → wGa
open Option renaming bind_some → wy, getD_some → wJa, isSome_iff_exists → wEa, map_some → wCa
open Option.some renaming injEq → wc
open Prod.mk renaming injEq → wk
/-
  New slices: literals, make, conversions, append, copy.
-/
set_option linter.unusedVariables false
set_option linter.unusedSimpArgs false
namespace Go.Ab
open Go
section
variable {c:Cx} {P:Program} {GT:qTg} {H lk:qZb} {K:Kn} {w:World} {ev:Operand→TV} {ρ:Operand→Value} {nl:Nat}
theorem qyq (hi:Inv c H K w) (hng:c.ng≤c.w0.heap.size) {w':World} {l0:Nat} (hn:nl≤l0∧l0<nl+8) (hf:K l0=none) {e:Ty} {fr:Bool} {xs:List (pden e)} {p:Plc} {cs:List Value}
  (hw:w'.os=w.os∧w'.tape=w.tape∧w'.output=w.output∧w.heap.size≤w'.heap.size∧∀k,k<w.heap.size→w'.heap[k]?=w.heap[k]?)
  (hp:w.heap.size≤p.blk∧p.blk<w'.heap.size) (hb:InBlk w' p cs) (hc:Cat (PRd w (NN c H K w fr) e) xs cs):
  Stp c H K w [(l0,some (.row e fr xs))] nl (qLj K l0 ⟨.row e xs.length [],some p⟩) w':=
 Stp.new hi hng nl l0 hn hf (.row e fr xs) ⟨.row e xs.length [],some p⟩ hw (fun q hq=>by injection hq with hq;subst hq;exact hp)
  (fun N' K' _ hk=>⟨rfl,cs,hb,hc.imp (fun _ _ q=>q.keep (hk.n fr))⟩)
theorem qkn {e:Ty} {ps:List (Nat×Option Plc)} {l0 n:Nat} {p:Plc} {o cap:Nat} (ho:o=p.ob) (hc:n≤cap) (hb:cap=0∨p.ob+cap*e.sz≤p.bs):RefRd (qLj K l0 ⟨.row e n ps,some p⟩) e l0 0 n true (.slice (some ⟨p.blk,o,none⟩) n cap):=
 ⟨n,some p,⟨ps,qRa⟩,by omega,fun _=>⟨rfl,rfl⟩,o,cap,rfl,hc,hb.imp id (fun hb=>⟨by rw [ho];simp,by simpa using hb⟩)⟩
theorem qNE (hi:Inv c H K w) (hsub:∀l o,lk l=some o→H l=some o) {L:List Nat} {e:Ty}:∀{as:List AV} {us:List (pden e)} {ls:List Nat} {f:Bool} {vs:List Value},elems lk e as=some (us,ls,f)→VRdL w (NN c H K w) K as vs→(∀l∈ls,l∈L)→
  Cat (PRd w (NN c (qsb H (Ab.kill L)) K w f) e) us (vs.flatMap fun v=>v.cells.toList)∧(∀v∈vs,v.cells.size=e.sz)∧us.length=vs.length
 |[],us,ls,f,vs,h,hv,hL=>by
  simp only [elems,wc,wk] at h;obtain ⟨rfl,rfl,rfl⟩:=h
  simp only [VRdL] at hv;subst hv
  exact ⟨rfl,(fun v hv=>by cases hv),rfl⟩
 |a::as,us,ls,f,vs,h,hv,hL=>by
  obtain ⟨v,r,rfl,h1,h2⟩:=hv
  simp only [elems] at h
  split at h
  ·rename_i x hx
   split at h
   ·rename_i u l f1 us' ls' f2 e1 e2
    simp only [wc,wk] at h;obtain ⟨rfl,rfl,rfl⟩:=h
    have r0:=(qor h1 hx).1
    have r1:=qco hi hsub e1 r0 (fun l hl=>hL l (by simp [hl]))
    obtain ⟨r2,r3,r4⟩:=qNE hi hsub e2 h2 (fun l hl=>hL l (by simp [hl]))
    have low:∀f g:Bool,∀b,NN c (qsb H (Ab.kill L)) K w f b→NN c (qsb H (Ab.kill L)) K w (f&&g) b:=fun f g b hb=>by
     cases f <;> cases g <;> first|exact hb|exact ui b hb
    refine ⟨⟨_,_,wib,r1.keep ⟨fun b hb=>⟨low _ _ b hb,rfl⟩⟩,r2.imp (fun _ _ q=>q.keep ⟨fun b hb=>⟨by rw [Bool.and_comm];exact low _ _ b hb,rfl⟩⟩)⟩,?_,by simp [r4]⟩
    ·intro v' hv'
     rcases wU.1 hv' with rfl|hv'
     ·rw [←r0.length];simp
     ·exact r3 v' hv'
   ·cases h
  ·cases h
theorem qKE {sz:Nat}:∀(vs:List Value) (k:Nat) (dn rest:List Value),(∀v∈vs,v.cells.size=sz)→dn.length=k*sz→rest.length=vs.length*sz→
  Instr.fill (fun i=>some (i*sz,sz)) (dn++rest).toArray ((vs.zipIdx k).map fun p=>(p.2,p.1))=some (dn++vs.flatMap fun v=>v.cells.toList).toArray
 |[],k,dn,rest,_,_,hr=>by
  have:rest=[]:=wG (by simpa using hr)
  subst this;simp [Instr.fill]
 |v::vs,k,dn,rest,hv,hd,hr=>by
  have h0:=hv v (by simp)
  simp only [ww,wua] at hr
  simp only [List.zipIdx_cons,wJ,Instr.fill]
  have hm:0≤vs.length*sz:=Nat.zero_le _
  rw [if_neg (by simp only [h0,ne_eq,not_true_eq_false,Bool.false_or,decide_false,wub,decide_eq_true_eq,wLa,wl];omega)]
  have h1:=qLE (size:=0) (dn++rest) v.cells.toList (k*sz) (by simp only [wPa,wl];omega)
  rw [Array.toArray_toList] at h1
  rw [h1]
  have h2:put (dn++rest) (k*sz) v.cells.toList=(dn++v.cells.toList)++rest.drop sz:=by
   rw [←hd,show dn.length=dn.length+0 from rfl,quu rfl]
   simp only [put,List.take_zero,waa,wO,wPa,h0,wB]
  rw [h2]
  have ih:=qKE vs (k+1) (dn++v.cells.toList) (rest.drop sz) (fun v' hv'=>hv v' (by simp [hv'])) (by simp only [wl,wPa,hd,h0,wua]) (by simp only [List.length_drop];omega)
  rw [ih]
  simp [wB]
theorem qOA:∀{ps:List (Nat×Operand)} {k:Nat},qCu ps k=true→(ps.map fun p=>(p.1,ρ p.2))=((ps.map fun p=>ρ p.2).zipIdx k).map fun p=>(p.2,p.1)
 |[],_,_=>rfl
 |q::ps,k,h=>by
  simp only [qCu,wz,beq_iff_eq] at h
  simp only [wJ,List.zipIdx_cons,qOA h.2,h.1]
theorem qTh (A:At c P GT H lk K w ev ρ nl):∀{ps:List (Nat×Operand)} {vs:List (Nat×AV)},qim ev ps=some vs→VRdL w (NN c H K w) K (vs.map (·.2)) (ps.map fun p=>ρ p.2)
 |[],vs,h=>by simp only [qim,wc] at h;subst h;rfl
 |q::ps,vs,h=>by
  simp only [qim] at h
  split at h
  ·rename_i v us h1 h2
   simp only [wc] at h;subst h
   exact ⟨_,_,rfl,A.one h1,qTh A h2⟩
  ·cases h
theorem qqh {o:Oper} {T E:TypeId} {n:Nat} {ps:Array (Nat×Operand)} {e:Ty} {k:Nat} (ho:o.op= .buildSlice T n ps) (hd:P.underlying T=some (.slice E)) (hE:qod P k E=some e) (hz:qHi P E e=true)
  (q1:qCu ps.toList 0=true) (q2:ps.size=n) (q3:n*e.sz≤16777216) (q4:0<e.sz) (r2:∀v∈ps.toList.map fun p=>ρ p.2,v.cells.size=e.sz):
  (execOp ρ o).run P w= .ok (.value (.slice (some ⟨w.heap.size,0,none⟩) n n)) (w.alloc (.cells ((ps.toList.map fun p=>ρ p.2).flatMap fun v=>v.cells.toList).toArray E)):=by
 obtain ⟨z,hz1,hz2,_⟩:=qge (P:=P) (w:=w) hz
 have hn:(ps.toList.map fun p=>ρ p.2).length=n:=by simpa using q2
 have hzl:z.cells.size=e.sz:=by
  have:=(qaf (w:=w) (N:=fun _=>True) (t:=e)).length
  rw [←hz2] at this;simpa using this
 have hfill:Instr.fill (fun i=>some (i*e.sz,e.sz)) ((Array.range (n*e.sz)).map fun i=>z.cells[i%z.cells.size]!) ((ps.map fun x=>(x.1,ρ x.2)).toList)=some ((ps.toList.map fun p=>ρ p.2).flatMap fun v=>v.cells.toList).toArray:=by
  have:=qKE (sz:=e.sz) (ps.toList.map fun p=>ρ p.2) 0 [] (((Array.range (n*e.sz)).map fun i=>z.cells[i%z.cells.size]!).toList) r2 (by simp) (by simp [hn])
  rw [←qOA q1] at this
  have hr:((Array.range (n*e.sz)).map fun i=>z.cells[i%z.cells.size]!)=((wVa (n*e.sz)).map fun i=>z.cells[i%z.cells.size]!).toArray:=by
   apply wUa;simp
  rw [hr] at this ⊢
  simpa using this
 simp only [execOp,ho,Instr.buildSlice,wu,run_underlying hd,wq,qLb hE]
 rw [if_neg (by have:(2:Nat) ^ 24=16777216:=by decide
                omega)]
 by_cases h0:n*e.sz=0
 ·have hn0:n=0:=by
   rcases Nat.mul_eq_zero.1 h0 with h1|h1
   ·exact h1
   ·omega
  have hps:ps=#[]:=Array.eq_empty_of_size_eq_zero (by omega)
  subst hps;subst hn0
  simp [Instr.fill,newRow,Array.range_zero']
 ·simp only [h0,if_false,wu,hz1,wq,wE]
  rw [hfill]
  simp [newRow]
theorem qey {N:Bool→Nat→Prop} {e:Ty}:∀{as:List AV} {us:List Value} {x:qke (qLG e as.length)},qPz e as=some x→VRdL w N K as us→ARd w N K (qLG e as.length) x us∧(∀u∈us,u.cells=#[u])∧us.length=as.length
 |[],us,x,h,hv=>by
  simp only [VRdL] at hv;subst hv
  exact ⟨rfl,fun u hu=>(by cases hu),rfl⟩
 |a::r,us,x,h,hv=>by
  obtain ⟨v,us',rfl,h1,h2⟩:=hv
  cases a <;> simp only [qPz] at h <;> first|(cases h;done)|skip
  rename_i e' l off len wh
  split at h
  ·rename_i he
   subst he
   split at h
   ·rename_i y hy
    obtain rfl:=Option.some.inj h
    obtain ⟨r1,r2,r3⟩:=qey hy h2
    obtain ⟨A0,c0,hform⟩:=RefRd.form h1
    refine ⟨⟨[v],us',rfl,⟨v,rfl,h1⟩,r1⟩,fun u hu=>?_,by simp [r3]⟩
    rcases wU.1 hu with rfl|hu
    ·rw [hform];rfl
    ·exact r2 u hu
   ·cases h
  ·cases h
theorem qdy:∀{us:List Value},(∀u∈us,u.cells=#[u])→us.flatMap (fun v=>v.cells.toList)=us
 |[],_=>rfl
 |u::us,h=>by
  rw [wib,h u wK,qdy (fun v hv=>h v (wH _ hv))]
  rfl
theorem qUB (A:At c P GT H lk K w ev ρ nl) {e:Ty} {as:List AV} {us:List Value} {out:Out} (h:qQz e nl as=some out) (hv:VRdL w (NN c H K w) K as us) (E:TypeId):
  (∀u∈us,u.cells.size=e.sz)∧Lands c H K w nl out (.slice (some ⟨w.heap.size,0,none⟩) us.length us.length) (w.alloc (.cells (us.flatMap fun v=>v.cells.toList).toArray E)):=by
 unfold qQz at h
 split at h
 ·split at h
  ·split at h
   ·rename_i e' h4 _ x hx
    simp only [wc] at h;subst h
    obtain ⟨r1,r2,r3⟩:=qey hx hv
    refine ⟨fun u hu=>by rw [r2 u hu];rfl,?_⟩
    rw [qdy r2]
    refine ⟨_,Stp.new A.inv A.ng nl nl ⟨ws _,by omega⟩ (A.fresh nl (ws _) (by omega)) (.box (qLG e' as.length) x) ⟨.box (qLG e' as.length),some ⟨w.heap.size,0,us.toArray.size⟩⟩ (qzb w _) (fun p hp=>by
     injection hp with hp;subst hp
     exact ⟨ws _,by rw [qjb];exact wqa _⟩) (fun N' K' hNlow hk=>⟨rfl,_,us,rfl,?_,r1.keep hk⟩),⟨_,qRa,us.length,by rw [r3],by omega⟩⟩
    have:=InBlk.new w us.toArray E
    exact this
   ·cases h
  ·cases h
 ·cases h
theorem qyB (A:At c P GT H lk K w ev ρ nl) {e:Ty} {as:List AV} {us:List Value} {out:Out} (h:qlz lk e nl as=some out) (hv:VRdL w (NN c H K w) K as us) (E:TypeId):
  (∀u∈us,u.cells.size=e.sz)∧us.length=1∧Lands c H K w nl out (.slice (some ⟨w.heap.size,0,none⟩) 1 1) (w.alloc (.cells (us.flatMap fun v=>v.cells.toList).toArray E)):=by
 unfold qlz at h
 split at h
 ·rename_i e' l off len
  split at h
  ·rename_i he
   obtain ⟨rfl,hf⟩:=he
   split at h
   ·rename_i fr xs hrow
    simp only [wc] at h;subst h
    obtain ⟨v,r,rfl,hr,hnil⟩:=hv
    simp only [VRdL] at hnil;subst hnil
    have hl:=A.sub _ _ (qdc hrow)
    obtain ⟨h1,h2,h3,h4⟩:=qgn A.inv hl hr
    obtain ⟨rfl,rfl⟩:=h3 rfl
    obtain ⟨A0,c0,hform⟩:=RefRd.form hr
    have hvc:v.cells=#[v]:=by rw [hform];rfl
    refine ⟨fun u hu=>?_,rfl,?_⟩
    ·simp only [wT] at hu;subst hu;rw [hvc];rfl
    have hcells:(List.flatMap (fun v=>v.cells.toList) [v]).toArray=#[v]:=by simp [hvc]
    rw [hcells]
    have hex:∃pl,K l=some ⟨.row e' xs.length [],pl⟩∧(match pl with
      |none=>v= .slice none 0 0∧xs=[]
      |some p=>∃o cap cl,v= .slice (some ⟨p.blk,o,none⟩) xs.length cap∧xs.length≤cap∧(cap=0∨(o=p.ob∧p.ob+cap*e'.sz≤p.bs))∧InBlk w p cl∧Cat (PRd w (fun _=>False) e') xs cl):=by
     rcases h4 with ⟨a1,a2,a3,a4⟩|⟨p,cs,o,cap,a1,a2,a3,a4,a5,a6⟩
     ·exact ⟨none,a2,a1,a3⟩
     ·exact ⟨some p,a1,o,cap,cs,a2,a3,a4.imp id (fun h=>by simpa using h),a5,a6.imp (fun _ _ q=>q.flat hf)⟩
    obtain ⟨pl,k1,k2⟩:=hex
    have hblk:∀q,pl=some q→q.blk<w.heap.size:=fun q hq=>(A.inv.own l _ _ q hl k1 (.inl hq)).1
    have hcat:((List.flatMap (fun v=>v.cells.toList) [v]))=[v]:=by simp [hvc]
    have S:=uw (w':=w.alloc (.cells #[v] E)) A.inv nl nl [l] (.fam e' [xs]) ⟨.row (.slice e') 1 [(xs.length,pl)],some ⟨w.heap.size,0,1⟩⟩ ⟨ws _,by omega⟩ (A.fresh nl (ws _) (by omega))
     ⟨rfl,rfl,rfl,by rw [qjb];omega⟩ (fun p hp=>by
      rcases hp with hp|hp
      ·injection hp with hp;subst hp
       exact .inr ⟨ws _,by rw [qjb];exact wqa _⟩
      ·simp only [Shp.ex,wJ,wKa,wT] at hp
       exact .inl ⟨l,wT.2 rfl,_,_,p,hl,k1, .inl hp.symm,rfl⟩) (fun _ _ _=>A.ng) (fun k hk _=>(qzb w _).2.2.2.2 k hk) (fun N' K' _ hk=>by
      refine ⟨hf,[(xs.length,pl)],rfl,⟨fun i j p q hi hj _=>?_,fun p q hp hq=>?_⟩,[v],?_,pl,[],v,[],rfl,rfl,?_,rfl,rfl⟩
      ·have h1:=(wZ.1 hi).1
       have h2:=(wZ.1 hj).1
       simp at h1 h2;omega
      ·injection hp with hp;subst hp
       simp only [wJ,wKa,wT] at hq
       have:=hblk q hq.symm
       simp only;omega
      ·have:=InBlk.new w #[v] E
       exact this
      ·cases pl with
       |none=>exact k2
       |some p=>
        obtain ⟨o,cap,cl,a1,a2,a3,a4,a5⟩:=k2
        exact ⟨o,cap,cl,a1,a2,a3,a4.keep ((qzb w _).2.2.2.2 _ (hblk p rfl)),a5.imp (fun _ _ q=>q.flat hf)⟩)
    exact ⟨_,S,qkn (p:=⟨w.heap.size,0,1⟩) rfl (ws _) (.inr (by simp [Ty.sz]))⟩
   ·cases h
  ·cases h
 ·cases h
theorem qkz (A:At c P GT H lk K w ev ρ nl) {e:Ty} {as:List AV} {us:List Value} {out:Out} (h:qKv lk e nl as=some out) (hv:VRdL w (NN c H K w) K as us) (E:TypeId):
  (∀u∈us,u.cells.size=e.sz)∧us.length=1∧Lands c H K w nl out (.slice (some ⟨w.heap.size,0,none⟩) 1 1) (w.alloc (.cells (us.flatMap fun v=>v.cells.toList).toArray E)):=by
 unfold qKv at h
 split at h
 ·rename_i e' x
  split at h
  ·rename_i he
   obtain ⟨rfl,hf⟩:=he
   split at h
   ·rename_i l off len hx
    split at h
    ·rename_i fr xs hrow
     simp only [wc] at h;subst h
     obtain ⟨v,r,rfl,hr,hnil⟩:=hv
     simp only [VRdL] at hnil;subst hnil
     obtain ⟨cs,rfl,_,c1,c2,rfl,g1,c3,c4,rfl,g2,g3⟩:=hr
     simp only [ARd] at g1 g3;subst g1;subst g3
     rw [hx] at g2
     obtain ⟨v,rfl,hr⟩:=g2
     have hl:=A.sub _ _ (qdc hrow)
     obtain ⟨h1,h2,h3,h4⟩:=qgn A.inv hl hr
     obtain ⟨rfl,rfl⟩:=h3 rfl
     have hcells:(List.flatMap (fun v=>v.cells.toList) [Value.agg ([Value.string x.1]++([v]++[])).toArray])=[.string x.1,v]:=by simp [wpb]
     refine ⟨fun u hu=>?_,rfl,?_⟩
     ·simp only [wT] at hu;subst hu;rfl
     rw [hcells]
     have hex:∃pl,K l=some ⟨.row e' xs.length [],pl⟩∧Slot w e' pl v xs:=by
      rcases h4 with ⟨a1,a2,a3,a4⟩|⟨p,cs,o,cap,a1,a2,a3,a4,a5,a6⟩
      ·exact ⟨none,a2,a1,a3⟩
      ·exact ⟨some p,a1,o,cap,cs,a2,a3,a4.imp id (fun h=>by simpa using h),a5,a6.imp (fun _ _ q=>q.flat hf)⟩
     obtain ⟨pl,k1,k2⟩:=hex
     have hblk:∀q,pl=some q→q.blk<w.heap.size:=fun q hq=>(A.inv.own l _ _ q hl k1 (.inl hq)).1
     have S:=uw (w':=w.alloc (.cells #[.string x.1,v] E)) A.inv nl nl [l] (.famS .str e' [(x.1,xs)]) ⟨.row (qQp .str e') 1 [(xs.length,pl)],some ⟨w.heap.size,0,2⟩⟩ ⟨ws _,by omega⟩ (A.fresh nl (ws _) (by omega))
      ⟨rfl,rfl,rfl,by rw [qjb];omega⟩ (fun p hp=>by
       rcases hp with hp|hp
       ·injection hp with hp;subst hp
        exact .inr ⟨ws _,by rw [qjb];exact wqa _⟩
       ·simp only [Shp.ex,wJ,wKa,wT] at hp
        exact .inl ⟨l,wT.2 rfl,_,_,p,hl,k1, .inl hp.symm,rfl⟩) (fun _ _ _=>A.ng) (fun k hk _=>(qzb w _).2.2.2.2 k hk) (fun N' K' _ hk=>by
       refine ⟨rfl,hf,[(xs.length,pl)],rfl,⟨fun i j p q hi hj _=>?_,fun p q hp hq=>?_⟩,[.string x.1,v],?_,pl,[],[.string x.1],v,[],rfl,rfl,rfl,?_,rfl,rfl⟩
       ·have h1:=(wZ.1 hi).1
        have h2:=(wZ.1 hj).1
        simp at h1 h2;omega
       ·injection hp with hp;subst hp
        simp only [wJ,wKa,wT] at hq
        have:=hblk q hq.symm
        simp only;omega
       ·have:=InBlk.new w #[.string x.1,v] E
        exact this
       ·exact k2.keep hf (fun q hq=>(qzb w _).2.2.2.2 _ (hblk q hq)))
     exact ⟨_,S,qkn (p:=⟨w.heap.size,0,2⟩) rfl (ws _) (.inr (by simp [Ty.sz]))⟩
    ·cases h
   ·cases h
  ·cases h
 ·cases h
theorem qSv (A:At c P GT H lk K w ev ρ nl) {o:Oper} {T:TypeId} {n:Nat} {ps:Array (Nat×Operand)} (ho:o.op= .buildSlice T n ps) {orc:Option COrc} {out:Out} (h:qGb P GT ev lk nl orc o.type o.op=some out):
  Does P o ρ w (Lands c H K w nl out):=by
 rw [ho] at h
 simp only [qGb] at h
 split at h
 ·rename_i e vs he hvs
  split at h
  ·rename_i hq
   simp only [wz,decide_eq_true_eq] at hq
   obtain ⟨⟨⟨q1,q2⟩,q3⟩,q4⟩:=hq
   split at h
   ·rename_i E hd
    split at h
    ·rename_i hz
     have hT:qod P tyD T=some (.slice e):=by
      unfold qJm at he
      split at he
      ·rename_i e' h';simp only [wc] at he;subst he;exact h'
      ·cases he
     obtain ⟨m,E',_,hd',hE⟩:=qpc hT
     rw [hd] at hd';injection hd' with hd';injection hd' with hd';subst hd'
     have hn:(ps.toList.map fun p=>ρ p.2).length=n:=by simpa using q2
     split at h
     ·rename_i o' hfb
      simp only [wc] at h;subst h
      obtain ⟨g1,g2,g3⟩:=qyB A hfb (qTh A hvs) E
      have hn1:n=1:=by rw [←hn,g2]
      have hrun:=qqh (w:=w) ho hd hE hz q1 q2 q3 q4 g1
      rw [hn1] at hrun
      exact Does.value hrun g3
     split at h
     ·rename_i o' hfb
      simp only [wc] at h;subst h
      obtain ⟨g1,g2,g3⟩:=qkz A hfb (qTh A hvs) E
      have hn1:n=1:=by rw [←hn,g2]
      have hrun:=qqh (w:=w) ho hd hE hz q1 q2 q3 q4 g1
      rw [hn1] at hrun
      exact Does.value hrun g3
     split at h
     ·rename_i o' hbb
      simp only [wc] at h;subst h
      obtain ⟨g1,g3⟩:=qUB A hbb (qTh A hvs) E
      have hrun:=qqh (w:=w) ho hd hE hz q1 q2 q3 q4 g1
      rw [hn] at g3
      exact Does.value hrun g3
     split at h
     ·rename_i us ls fr hel
      simp only [wc] at h;subst h
      obtain ⟨r1,r2,r3⟩:=qNE A.inv A.sub (L:=ls) hel (qTh A hvs) (fun l hl=>hl)
      have hcl:=r1.length (n:=e.sz) (fun _ _=>PRd.length)
      rw [r3,hn] at hcl
      refine Does.value (qqh (w:=w) ho hd hE hz q1 q2 q3 q4 r2) ?_
      ·have S1:=Stp.kill A.inv nl ls
       have S2:=qyq (w':=w.alloc (.cells ((ps.toList.map fun p=>ρ p.2).flatMap fun v=>v.cells.toList).toArray E)) S1.inv A.ng (nl:=nl) (l0:=nl) ⟨ws _,by omega⟩ (A.fresh nl (ws _) (by omega)) (e:=e) (fr:=fr) (xs:=us) (p:=⟨w.heap.size,0,_⟩) (qzb w _) ⟨ws _,by rw [qjb];exact wqa _⟩ (InBlk.new w _ E) (by simpa using r1)
       refine ⟨_,S1.trans S2,?_⟩
       have hul:us.length=n:=by rw [r3,hn]
       rw [hul]
       refine qkn (p:=⟨w.heap.size,0,_⟩) rfl (ws _) (.inr ?_)
       show 0+n*e.sz≤(((ps.toList.map fun p=>ρ p.2).flatMap fun v=>v.cells.toList).toArray).size
       have h7:(((ps.toList.map fun p=>ρ p.2).flatMap fun v=>v.cells.toList).toArray).size=n*e.sz:=by
        rw [←hcl];exact wLa
       omega
     ·cases h
    ·cases h
   ·cases h
  ·cases h
 ·cases h
theorem qwq {α:Type} {R:α→List Value→Prop} {x:α} {z:Array Value} (h:R x z.toList):∀n,Cat R (wn n x) ((wVa (n*z.size)).map fun i=>z[i%z.size]!)
 |0=>by simp [Cat]
 |n+1=>by
  have ih:=qwq h n
  have h1:Cat R [x] z.toList:=⟨z.toList,[],by simp,h,rfl⟩
  have:=ih.append h1
  rw [←List.replicate_succ'] at this
  rw [show (n+1)*z.size=n*z.size+z.size by rw [wua],List.range_add,wBa]
  have h2:List.map (fun i=>z[i%z.size]!) (List.map (fun x=>n*z.size+x) (wVa z.size))=z.toList:=by
   apply wQa;intro j
   simp only [List.map_map,wDa,wfa]
   by_cases hj:j<z.size
   ·rw [List.getElem?_range hj]
    simp only [wCa,Function.comp]
    rw [Nat.mul_comm,Nat.mul_add_mod,Nat.mod_eq_of_lt hj]
    simp [hj]
   ·rw [List.getElem?_eq_none (by simpa using hj),Array.getElem?_eq_none (by omega)];rfl
  rw [h2];exact this
theorem FamRd.zero {w:World} {e:Ty}:∀{n:Nat} {cs:List Value},Cat (fun (_:List (pden e)) cs=>cs=[.slice none 0 0]) (wn n []) cs→FamRd w e (wn n []) (wn n (0,none)) cs
 |0,cs,h=>⟨rfl,h⟩
 |n+1,cs,h=>by
  obtain ⟨c1,c2,rfl,rfl,h2⟩:=h
  exact ⟨none,_,_,c2,rfl,rfl,⟨rfl,rfl⟩,FamRd.zero h2⟩
theorem qbB {e:Ty} (h:e≠ .slice .bool) (n:Nat):qRy e n= .row e true (wn n (qua e)):=by
 unfold qRy
 split
 ·exact absurd rfl h
 ·rfl
theorem qOF (hi:Inv c H K w) (hng:c.ng≤c.w0.heap.size) {w':World} {l0:Nat} (hn:nl≤l0∧l0<nl+8) (hf:K l0=none) {e:Ty} {m:Nat} {p:Plc} {cs:List Value}
  (hw:w'.os=w.os∧w'.tape=w.tape∧w'.output=w.output∧w.heap.size≤w'.heap.size∧∀k,k<w.heap.size→w'.heap[k]?=w.heap[k]?)
  (hp:w.heap.size≤p.blk∧p.blk<w'.heap.size) (hb:InBlk w' p cs) (hc:Cat (PRd w (NN c H K w true) e) (wn m (qua e)) cs) (h0:Cat (fun _ cs=>cs=qDj e) (wn m (qua e)) cs):
  ∃ps,Stp c H K w [(l0,some (qRy e m))] nl (qLj K l0 ⟨.row e (wn m (qua e)).length ps,some p⟩) w':=by
 by_cases he:e= .slice .bool
 ·subst he
  refine ⟨wn m (0,none),?_⟩
  have hno:∀q:Plc,some q ∉ (wn m ((0:Nat),(none:Option Plc))).map (·.2):=fun q hq=>by
   simp at hq
  have S:=uw (w':=w') hi nl l0 [] (.fam .bool (wn m [])) ⟨.row (.slice .bool) (wn m (qua (.slice .bool))).length (wn m (0,none)),some p⟩ hn hf ⟨hw.1,hw.2.1,hw.2.2.1,hw.2.2.2.1⟩
   (fun q hq=>by
    rcases hq with hq|hq
    ·injection hq with hq;subst hq;exact .inr hp
    ·exact absurd hq (hno q))
   (fun _ _ _=>hng) (fun k hk _=>hw.2.2.2.2 k hk)
   (fun N' K' _ hk=>⟨rfl,wn m (0,none),by simp,⟨fun i j p q h1 _ _=>absurd (wma h1) (hno p),fun p q _ hq=>absurd hq (hno q)⟩,cs,hb,FamRd.zero h0⟩)
  exact S
 ·rw [qbB he]
  exact ⟨[],qyq hi hng hn hf hw hp hb hc⟩
theorem qox (A:At c P GT H lk K w ev ρ nl) {o:Oper} {T:TypeId} {x y:Operand} (ho:o.op= .makeSlice T x y) {orc:Option COrc} {out:Out} (h:qGb P GT ev lk nl orc o.type o.op=some out) (hc:qfg out.conds):
  Does P o ρ w (Lands c H K w nl out):=by
 rw [ho] at h
 simp only [qGb] at h
 split at h
 ·rename_i e n m he hx hy
  have ha:=A.one hx
  have hb:=A.one hy
  simp only [VRd] at ha hb
  split at h
  ·rename_i E hd
   split at h
   ·rename_i hq
    simp only [wz,decide_eq_true_eq] at hq
    simp only [wc] at h;subst h
    obtain ⟨c1,c2,c3,c4,_⟩:=hc
    subst c1
    have hT:qod P tyD T=some (.slice e):=by
     unfold qJm at he
     split at he
     ·rename_i e' h';simp only [wc] at he;subst he;exact h'
     ·cases he
    obtain ⟨k,E',_,hd',hE⟩:=qpc hT
    rw [hd] at hd';injection hd' with hd';injection hd' with hd';subst hd'
    obtain ⟨z,hz1,hz2,i,hi1,hi2⟩:=qge (P:=P) (w:=w) hq.1
    obtain ⟨_,_,i',_,_,_,_,hi3,hi4⟩:=qHc hE
    rw [hi1] at hi3;injection hi3 with hi3;subst hi3
    have hby:P.bytesOf E=i.bytes:=by simp [Program.bytesOf,hi1]
    have hzs:z.cells.size=e.sz:=by
     have:=(qaf (w:=w) (N:=fun _=>True) (t:=e)).length
     rw [←hz2] at this;simpa using this
    have hrun:=run_make (P:=P) w T E i z hd hi1 hi2 .i64 .i64 m m c2 (Int.le_refl _) (by rw [hby] at c3;rw [Int.mul_comm];omega) c4
    have hcells:(madeCells z.cells (m.toNat*i.size)).toList=(wVa (m.toNat*z.cells.size)).map fun i=>z.cells[i%z.cells.size]!:=by
     simp [madeCells,hi4,hzs]
    have hcat:Cat (PRd w (NN c H K w true) e) (wn m.toNat (qua e)) (madeCells z.cells (m.toNat*i.size)).toList:=by
     rw [hcells]
     exact qwq (by rw [hz2];exact qaf) _
    refine Does.value (v:= .slice (some ⟨w.heap.size,0,none⟩) m.toNat m.toNat) (w':=w.alloc (.cells (madeCells z.cells (m.toNat*i.size)) E)) ?_ ?_
    ·simp only [execOp,ho,ha,hb]
     rw [wu,hrun];rfl
    ·have hcells0:Cat (fun _ cs=>cs=qDj e) (wn m.toNat (qua e)) (madeCells z.cells (m.toNat*i.size)).toList:=by
      rw [hcells]
      exact qwq (R:=fun _ cs=>cs=qDj e) hz2 _
     obtain ⟨ps,S2⟩:=qOF (w':=w.alloc (.cells (madeCells z.cells (m.toNat*i.size)) E)) A.inv A.ng (nl:=nl) (l0:=nl) ⟨ws _,by omega⟩ (A.fresh nl (ws _) (by omega)) (e:=e) (p:=⟨w.heap.size,0,_⟩) (qzb w _) ⟨ws _,by rw [qjb];exact wqa _⟩ (InBlk.new w _ E) hcat hcells0
     refine ⟨_,S2,?_⟩
     rw [wX]
     refine qkn (p:=⟨w.heap.size,0,_⟩) rfl (ws _) (.inr ?_)
     simp [size_madeCells,hi4]
   ·cases h
  ·cases h
 ·cases h
end
end Go.Ab

/-
  Conversions, append, copy, the lesser and the greater.
-/
set_option linter.unusedVariables false
set_option linter.unusedSimpArgs false
namespace Go.Ab
open Go
section
variable {c:Cx} {P:Program} {GT:qTg} {H lk:qZb} {K:Kn} {w:World} {ev:Operand→TV} {ρ:Operand→Value} {nl:Nat}
def SlRd (w:World) (N:Nat→Prop) (e:Ty) (xs:List (pden e)) (v:Value):Prop:=
 ∃A cap,v= .slice A xs.length cap∧xs.length≤cap∧(xs=[]∨∃b o cl,A=some ⟨b,o,none⟩∧CellsAt w b o cl∧Cat (PRd w N e) xs cl∧b<w.heap.size)
theorem qNr (A:Inv c H K w) (hsub:∀l o,lk l=some o→H l=some o) {e:Ty} {x:AV} {v:Value} {fr:Bool} {ys:List (pden e)} (h:qUe lk e x=some (fr,ys)) (hs:∀s,x≠ .str s) (hx:VRd w (NN c H K w) K x v):SlRd w (NN c H K w fr) e ys v:=by
 cases x with
 |str s=>exact absurd rfl (hs s)
 |sl e' f' xs=>
  simp only [qUe] at h
  split at h
  ·rename_i he
   subst he
   simp only [wc,wk] at h;obtain ⟨rfl,rfl⟩:=h
   obtain ⟨A0,cap,e1,hl,hb⟩:=hx
   simp only [wFa,and_true] at e1
   refine ⟨A0,cap,e1,hl,hb.imp id ?_⟩
   rintro ⟨b,o,cl,h1,h2,h3,h4⟩
   exact ⟨b,o,cl,h1,h3,h4.imp (fun _ _ q=>uy q),h2.1⟩
  ·cases h
 |nil=>
  simp only [qUe,wc,wk] at h;obtain ⟨rfl,rfl⟩:=h
  exact ⟨none,0,hx,ws _, .inl rfl⟩
 |sln e' f' xs=>
  simp only [qUe] at h
  split at h
  ·rename_i he
   subst he
   simp only [wc,wk] at h;obtain ⟨rfl,rfl⟩:=h
   obtain ⟨⟨A0,cap,e1,hl,hb⟩,_⟩:=hx
   simp only [wFa,and_true] at e1
   refine ⟨A0,cap,e1,hl,hb.imp id ?_⟩
   rintro ⟨b,o,cl,h1,h2,h3,h4⟩
   exact ⟨b,o,cl,h1,h3,h4.imp (fun _ _ q=>uy q),h2.1⟩
  ·cases h
 |ref e' l off len wh=>
  simp only [qUe] at h
  split at h
  ·rename_i he
   subst he
   split at h
   ·rename_i f' xs hrow
    simp only [wc,wk] at h;obtain ⟨rfl,rfl⟩:=h
    obtain ⟨h1,h2,h3,h4⟩:=qgn A (hsub _ _ (qdc hrow)) hx
    rcases h4 with ⟨rfl,h5,rfl,h6⟩|⟨p,cl,o,cap,k1,rfl,h5,h6,h7,h8⟩
    ·have:seg ([]:List (pden e')) off len wh=[]:=wG (by rw [h1,h6])
     rw [this]
     exact ⟨none,0,rfl,ws _, .inl rfl⟩
    ·refine ⟨_,cap,by rw [h1],by omega,?_⟩
     by_cases h0:len=0
     ·exact .inl (wG (by rw [h1,h0]))
     ·right
      have h6':=h6.resolve_left (by omega)
      refine ⟨p.blk,o,_,rfl,?_,(qUl (fun _ _=>PRd.length) h8 h3).imp (fun _ _ q=>uy q),h7.lt⟩
      rw [h6'.1]
      exact h7.cells.cut _ _
   ·cases h
  ·cases h
 |bref e' l p n off len=>
  simp only [qUe] at h
  split at h
  ·rename_i he
   subst he
   split at h
   ·rename_i obj hlk
    split at h
    ·rename_i t y hg
     split at h
     ·rename_i ht
      subst ht
      simp only [wc,wk] at h;obtain ⟨rfl,rfl⟩:=h
      obtain ⟨sh,pl,po,k1,k2,k3,o,cap,rfl,h5,h6⟩:=hx
      obtain ⟨gh,g1,g2⟩:=A.objs l _ (hsub _ _ hlk)
      rw [k1] at g1;injection g1 with g1;subst g1
      obtain ⟨cs,e2,e3,e4⟩:=g2.box_get ui k2 hg
      obtain ⟨hyl,hyc⟩:=e4
      have hlen:((y.drop off).take len).length=len:=by simp;omega
      refine ⟨_,cap,by rw [hlen],by omega,?_⟩
      by_cases h0:len=0
      ·exact .inl (wG (by rw [hlen,h0]))
      ·right
       have h6':=h6.resolve_left (by omega)
       have hc1:=hyc.seg (n:=e'.sz) (fun _ _=>PRd.length) off len
       refine ⟨pl.blk,o,_,rfl,?_,hc1.imp (fun _ _ q=>?_),e2.lt⟩
       ·rw [h6',wxa]
        have:=(e2.cells.cut po (Ty.arr n e').sz).cut (off*e'.sz) (len*e'.sz)
        rwa [wxa] at this
       ·cases hf:e'.flat with
        |true=>exact PRd.flat hf q
        |false=>exact q
     ·cases h
    ·cases h
   ·cases h
  ·cases h
 |_=>simp [qUe] at h
theorem SlRd.form {N:Nat→Prop} {e:Ty} {xs:List (pden e)} {v:Value} (h:SlRd w N e xs v):∃A cap cl,v= .slice A xs.length cap∧xs.length≤cap∧Cat (PRd w N e) xs cl∧(xs≠[]→∃b o,A=some ⟨b,o,none⟩∧CellsAt w b o cl):=by
 obtain ⟨A,cap,e1,hl,hb⟩:=h
 rcases hb with rfl|⟨b,o,cl,h1,h2,h3,_⟩
 ·exact ⟨A,cap,[],e1,hl,rfl,fun h=>absurd rfl h⟩
 ·exact ⟨A,cap,cl,e1,hl,h3,fun _=>⟨b,o,h1,h2⟩⟩
theorem SlRd.first {N:Nat→Prop} {e:Ty} {xs:List (pden e)} {v:Value} (h:SlRd w N e xs v):∃cl,Cat (PRd w N e) xs cl∧(∀w',w'.heap=w.heap→(Builtin.lenOf v).run P w'= .ok xs.length w')∧
  ∀n,n≤xs.length→∀w',w'.heap=w.heap→(wwa e.sz n v).run P w'= .ok (cl.take (n*e.sz)).toArray w':=by
 obtain ⟨A,cap,cl,rfl,hl,hc,hb⟩:=h.form
 refine ⟨cl,hc,fun w' hw=>rfl,fun n hn w' hw=>?_⟩
 have hcl:=hc.length (n:=e.sz) (fun _ _=>PRd.length)
 by_cases h0:xs=[]
 ·subst h0
  have:n=0:=by simpa using hn
  subst this
  cases A with
  |none=>simp [wwa]
  |some a=>simp [wwa,loadCells,loadCellsFrom]
 ·obtain ⟨b,o,rfl,h1⟩:=hb h0
  have hle:n*e.sz≤cl.length:=by rw [hcl];exact wja _ hn
  have:=run_loadCells_list (P:=P) w' ⟨b,o,none⟩ (cl.take (n*e.sz)) (fun j v hj=>by
   rw [wNa]
   have hj2:cl[j]?=some v:=by
    rw [List.getElem?_take] at hj
    split at hj
    ·exact hj
    ·cases hj
   have:=h1 j v hj2
   simpa [World.cell?,hw] using this)
  rw [List.length_take,Nat.min_eq_left hle] at this
  simpa [wwa] using this
theorem qRC (s:ByteArray):(s.data.map fun b=>wbb .u8 b.toNat).toList=(qZc s).map fun n=>wbb .u8 n:=by
 simp [qZc]
theorem qLq {N:Nat→Prop} {k:IntKind}:∀(xs:List Int),Cat (PRd w N (.int k)) (xs:List (pden (.int k))) (xs.map fun n=>wbb k n)
 |[]=>rfl
 |x::xs=>⟨[.int k x],_,rfl,rfl,qLq xs⟩
theorem qAh {N:Nat→Prop} {k:IntKind}:∀{xs:List Int} {cl:List Value},Cat (PRd w N (.int k)) (xs:List (pden (.int k))) cl→cl=xs.map fun n=>wbb k n
 |[],cl,h=>by simpa [Cat] using h
 |x::xs,cl,h=>by
  obtain ⟨c1,c2,rfl,h1,h2⟩:=h
  simp only [PRd] at h1;subst h1
  rw [qAh h2];rfl
theorem qeD (w:World) (a:Addr):(w.freeze a 1).os=w.os∧(w.freeze a 1).tape=w.tape∧(w.freeze a 1).output=w.output∧(w.freeze a 1).heap.size=w.heap.size∧∀k,k≠a.block→(w.freeze a 1).heap[k]?=w.heap[k]?:=by
 refine ⟨rfl,rfl,rfl,by simp [World.freeze],fun k hk=>?_⟩
 simp only [World.freeze,Nat.one_ne_zero,if_false,Array.getElem?_modify]
 rw [if_neg (wGa hk)]
theorem qIB (A:At c P GT H lk K w ev ρ nl) {o:Oper} {s d:TypeId} {x:Operand} (ho:o.op= .convert s d x) {orc:Option COrc} {out:Out} (h:qGb P GT ev lk nl orc o.type o.op=some out) (hc:qfg out.conds):
  Does P o ρ w (Lands c H K w nl out):=by
 rw [ho] at h
 simp only [qGb] at h
 split at h
 ·rename_i v hv
  have hx:=A.one hv
  have hrun:∀u w',(convert s d (ρ x)).run P w= .ok u w'→(execOp ρ o).run P w= .ok (.value u) w':=by
   intro u w' hu
   simp only [execOp,ho]
   rw [wu,hu];rfl
  simp only [qyI] at h
  split at h
  ·rename_i k k' n hd
   split at h
   ·rename_i hs
    obtain ⟨ds,hds⟩:=wEa.1 hs
    simp only [Ab.one,wc] at h;subst h
    simp only [VRd] at hx
    refine Does.value (hrun (.int k (k.wrap n)) w ?_) (Lands.one A.inv rfl)
    rw [hx]
    simp only [convert,wu,run_underlying hds,run_underlying hd,wq]
    rfl
   ·cases h
  ·rename_i st hd
   split at h
   ·rename_i hs
    obtain ⟨ds,hds⟩:=wEa.1 hs
    simp only [Ab.one,wc] at h;subst h
    simp only [VRd] at hx
    refine Does.value (hrun (.string st) w ?_) (Lands.one A.inv rfl)
    rw [hx]
    simp only [convert,wu,run_underlying hds,run_underlying hd,wq]
    rfl
   ·cases h
  ·rename_i hd hns
   split at h
   ·rename_i e hs
    split at h
    ·rename_i he
     split at h
     ·rename_i fr xs hcn
      simp only [Ab.one,wc] at h;subst h
      have hsl:=qNr A.inv A.sub hcn (fun s' e=>hns s' e) hx
      obtain ⟨A0,cap,e1,hl,hb⟩:=hsl
      refine Does.value (hrun (.string (qFk xs)) w ?_) (Lands.one A.inv rfl)
      rw [e1]
      rcases hb with rfl|⟨b,o',cl,rfl,h2,h3,_⟩
      ·cases A0 with
       |none=>exact run_convert_bytes_nil w s e hs he _ _ d hd
       |some a=>
        obtain ⟨bb,oo,sp⟩:=a
        rw [run_convert_bytes_string w s d e (some ⟨bb,oo,sp⟩) _ cap hs he hd]
        exact run_bytesToString w _ 0 cap [] (by simp [loadCells,loadCellsFrom])
      ·refine run_convert_bytes_arg w s e hs he b o' xs.length cap xs rfl (fun i hi=>?_) d hd
       have hcl:=qAh h3
       have:=h2 i (.int .u8 (xs.getD i 0)) (by rw [hcl];simp [wx hi])
       exact this
     ·cases h
    ·cases h
   ·cases h
  ·rename_i e st hd
   split at h
   ·rename_i ds hds he
    simp only [Ab.one,wc] at h;subst h
    simp only [VRd] at hx
    have hrun2:(convert s d (ρ x)).run P w= .ok (.slice (some ⟨w.heap.size,0,none⟩) st.size (grownCap w st.size 0 e)) (Lib.bytesWorld w e st):=by
     rw [hx];exact Lib.run_convert_string_bytes w s d e st hds hd he
    have hcap:st.size≤grownCap w st.size 0 e:=grownCap_ge w st.size 0 e
    have harr:(Lib.bytesCells w e st).size=grownCap w st.size 0 e:=by
     have h0:st.data.size=st.size:=rfl
     simp only [Lib.bytesCells,Array.size_append,Array.size_map,Array.size_replicate];omega
    have hlen:(qZc st).length=st.size:=by simp [qZc,←ByteArray.size_data]
    obtain ⟨S,hN⟩:=Stp.more (w':=Lib.bytesWorld w e st) A.inv nl ⟨rfl,rfl,rfl,by rw [Lib.bytesWorld_size];omega,Lib.bytesWorld_at_old w e st⟩
    refine Does.value (hrun _ _ hrun2) ⟨K,S,some ⟨w.heap.size,0,none⟩,_,by rw [hlen],by rw [hlen];exact hcap, .inr ⟨w.heap.size,0,_,rfl,hN _ (ws _) (by rw [Lib.bytesWorld_size];exact wqa _),fun j u hj=>?_,qLq _⟩⟩
    simp only [World.cell?,Lib.bytesWorld_at_new w e st,wO]
    rw [←qRC,wfa] at hj
    simp only [Lib.bytesCells]
    rw [Array.getElem?_append_left (wTa.1 hj).1];exact hj
   ·cases h
  ·rename_i e l off len wh hd
   split at h
   ·rename_i hsd
    split at h
    ·rename_i he
     split at h
     ·rename_i fr xs hrow
      simp only [wc] at h;subst h
      have hlen:0<len:=hc.1
      have hlk:=A.sub _ _ (qdc hrow)
      obtain ⟨h1,h2,h3,h4⟩:=qgn A.inv hlk hx
      rcases h4 with ⟨_,_,_,h6⟩|⟨p,cs,o',cap,q1,q2,q3,q4,q5,q6⟩
      ·omega
      ·obtain ⟨arr,T,fz,b1,b2,b3⟩:=id q5
       have hrun2:(convert s d (ρ x)).run P w= .ok (ρ x) (w.freeze ⟨p.blk,arr.size,none⟩ 1):=by
        subst hsd
        have hsh:w.shape? p.blk=some (T,arr.size):=by simp only [World.shape?,b1]
        simp only [q2,convert,wu,run_underlying hd,run_underlying he,wq,beq_self_eq_true,markStringish,run_shape,hsh,run_freeze,wE]
       obtain ⟨S,hN⟩:=Stp.drop A.inv nl l _ _ p hlk q1 rfl (qeD w ⟨p.blk,arr.size,none⟩)
       refine Does.value (hrun _ _ hrun2) ⟨K,S,?_⟩
       have q4':=q4.resolve_left (by omega)
       refine ⟨_,cap,by rw [q2,h1],by rw [h1];exact q3, .inr ⟨p.blk,o',_,rfl,hN,?_,(qUl (fun _ _=>PRd.length) q6 h3).imp (fun _ _ q=>PRd.flat rfl q)⟩⟩
       have hc2:CellsAt w p.blk o' (cut cs (off*(Ty.int .u8).sz) (len*(Ty.int .u8).sz)):=by rw [q4'.1];exact q5.cells.cut _ _
       intro j u hj
       have h5:=hc2 j u hj
       simp only [World.cell?,World.freeze,Nat.one_ne_zero,if_false,Array.getElem?_modify,if_true,b1,wCa] at h5 ⊢
       exact h5
     ·cases h
    ·cases h
   ·cases h
  ·cases h
 ·cases h
end
end Go.Ab

/-
  append, copy, the lesser and the greater.
-/
set_option linter.unusedVariables false
set_option linter.unusedSimpArgs false
namespace Go.Ab
open Go
section
variable {c:Cx} {P:Program} {GT:qTg} {H lk:qZb} {K:Kn} {w:World} {ev:Operand→TV} {ρ:Operand→Value} {nl:Nat}
inductive Src (P:Program) (w:World) (E T2:TypeId) (sz:Nat) (z:Array Value) (x:Value) (n:Nat) (cl:List Value):Prop
 |given (hd:(∃e,P.underlying T2=some (.slice e))∨P.underlying T2=some .string) (hn:∀w',(Builtin.lenOf x).run P w'= .ok n w') (hc:∀w',w'.heap=w.heap→(wwa sz n x).run P w'= .ok cl.toArray w')
 |zeros (k k':IntKind) (m:Int) (hd:P.underlying T2=some (.int k)) (hx:x= .int k' m) (h0:0≤m) (h1:m≤9223372036854775807) (h2:m*(P.bytesOf E:Int)≤140737488355328) (hn:n=m.toNat) (hc:cl=(wVa (n*z.size)).map fun i=>z[i%z.size]!)
theorem qCk (z:Array Value) (n:Nat):(wpa z n)=((wVa (n*z.size)).map fun i=>z[i%z.size]!).toArray:=by
 apply wUa;simp [wpa]
theorem qRD {m:Int} (h0:0≤m) (h1:m≤9223372036854775807):IntKind.i64.wrap m=m:=by
 simp [IntKind.wrap,IntKind.signed,IntKind.bits]
 omega
theorem qwj {T T2 E ty:TypeId} {i:TypeInfo} {z:Value} {sz:Nat} (hd:P.underlying T=some (.slice E)) (hi:P.info? E=some i) (hz:i.zero=some z) (hsz:i.size=sz) (hzs:z.cells.size=sz)
  {base:Option Addr} {sLen sCap n:Nat} {x:Value} {cl:List Value} (hx:Src P w E T2 sz z.cells x n cl) (hr:sLen+n≤sCap) {w2:World}
  (hw:(match base with
   |some a=>storeCells (a.add (sLen*sz)) cl
   |none=>pure ()).run P w= .ok () w2):
  (wra #[T,T2] ty #[.slice base sLen sCap,x]).run P w= .ok (.slice base (sLen+n) sCap) w2:=by
 subst hsz
 cases hx with
 |given hd2 hn hc=>
  have hc':=hc w rfl
  rcases hd2 with ⟨e2,hd2⟩|hd2 <;> cases base <;>
   (simp [wra,run_underlying hd,run_underlying hd2,sizeOf,typeInfo,hi,hn,hr,hc'] at hw ⊢;try exact hw)
  all_goals simp [hw]
 |zeros k k' m hd2 hx h0 h1 h2 hn hc=>
  subst hx
  have hw1:=qRD h0 h1
  have hby:P.bytesOf E=i.bytes:=by simp [Program.bytesOf,hi]
  rw [hby] at h2
  have g1:¬(m<0):=by omega
  have g2:¬(281474976710656<m*(i.bytes:Int)):=by omega
  subst hn
  have hcl:cl.toArray=wpa z.cells m.toNat:=by rw [qCk,hc]
  by_cases h00:m.toNat*i.size=0
  ·have hcl0:cl=[]:=by
    rw [hc,hzs,h00];rfl
   subst hcl0
   cases base <;>
   (simp [wra,run_underlying hd,run_underlying hd2,sizeOf,typeInfo,hi,hw1,asInt,asIntOf,g1,g2,h00,hr,storeCells] at hw ⊢)
   all_goals exact hw
  ·have h01:¬(m.toNat=0∨i.size=0):=by rw [←Nat.mul_eq_zero];exact h00
   have h02:¬(m≤0):=by omega
   have h03:¬(i.size=0):=by omega
   cases base <;>
   (simp [wra,run_underlying hd,run_underlying hd2,sizeOf,typeInfo,zeroValue,hz,hi,hw1,asInt,asIntOf,g1,g2,h02,h03,hr,←hcl] at hw ⊢;try exact hw)
   rw [if_neg h00,hw];rfl
theorem qTr {T T2 E ty:TypeId} {i:TypeInfo} {z:Value} {sz:Nat} (hd:P.underlying T=some (.slice E)) (hi:P.info? E=some i) (hz:i.zero=some z) (hsz:i.size=sz) (hzs:z.cells.size=sz)
  {base:Option Addr} {sLen sCap n:Nat} {x:Value} {olds cl:List Value} (ho:∀w',w'.heap=w.heap→(wwa sz sLen (.slice base sLen sCap)).run P w'= .ok olds.toArray w')
  (hx:Src P w E T2 sz z.cells x n cl) (hr:sCap<sLen+n) (hb:(sLen+n)*i.bytes≤140737488355328) (h63:0<i.bytes):
  (wra #[T,T2] ty #[.slice base sLen sCap,x]).run P w= .ok (.slice (some ⟨w.heap.size,0,none⟩) (sLen+n) (grownCap w (sLen+n) sCap E))
   (w.drew.alloc (.cells (olds.toArray++(cl.toArray++wpa z.cells (grownCap w (sLen+n) sCap E - (sLen+n)))) E)):=by
 subst hsz
 have hn0:¬(sLen+n≤sCap):=by omega
 have hfit:=growslice_fits hr hb
 have h48':¬(281474976710656<Builtin.nextslicecap (sLen+n) sCap*i.bytes):=by omega
 have hby0:¬(i.bytes=0):=by omega
 have hle:sLen+n≤(sLen+n)*i.bytes:=Nat.le_mul_of_pos_right _ h63
 have h63':¬(9223372036854775807<((sLen:Int)+(n:Int))):=by omega
 have ho':=ho w.drew rfl
 cases hx with
 |given hd2 hn hc=>
  have hc':=hc w.drew rfl
  rcases hd2 with ⟨e2,hd2⟩|hd2 <;>
   (simp [wra,run_underlying hd,run_underlying hd2,sizeOf,typeInfo,zeroValue,hz,hi,hn,hn0,h63',h48',hby0,Question.forced,ho',hc',newRow,grownCap])
 |zeros k k' m hd2 hx h0 h1 h2 hn hc=>
  subst hx
  have hw1:=qRD h0 h1
  have hby:P.bytesOf E=i.bytes:=by simp [Program.bytesOf,hi]
  rw [hby] at h2
  have g1:¬(m<0):=by omega
  have g2:¬(281474976710656<m*(i.bytes:Int)):=by omega
  subst hn
  have hcl:cl.toArray=wpa z.cells m.toNat:=by rw [qCk,hc]
  have h63'':¬(9223372036854775807<((sLen:Int)+max m 0)):=by omega
  by_cases h00:m.toNat*i.size=0
  ·have hcl0:cl=[]:=by
    rw [hc,hzs,h00];rfl
   subst hcl0
   simp [wra,run_underlying hd,run_underlying hd2,sizeOf,typeInfo,zeroValue,hz,hi,hw1,asInt,asIntOf,g1,g2,h00,hn0,h63',h63'',h48',hby0,Question.forced,ho',newRow,grownCap]
  ·have h01:¬(m.toNat=0∨i.size=0):=by rw [←Nat.mul_eq_zero];exact h00
   have h02:¬(m≤0):=by omega
   have h03:¬(i.size=0):=by omega
   simp [wra,run_underlying hd,run_underlying hd2,sizeOf,typeInfo,zeroValue,hz,hi,hw1,asInt,asIntOf,g1,g2,h02,h03,hn0,h63',h63'',h48',hby0,Question.forced,ho',newRow,grownCap,←hcl]
   exact fun hh=>absurd hh h00
theorem NN.and1 {f g:Bool} {b:Nat} (h:NN c H K w f b):NN c H K w (f&&g) b:=by
 cases f <;> cases g <;> first|exact h|exact ui b h
theorem NN.and2 {f g:Bool} {b:Nat} (h:NN c H K w g b):NN c H K w (f&&g) b:=by
 cases f <;> cases g <;> first|exact h|exact ui b h
theorem InBlk.front {w:World} {p:Plc} {cs ds:List Value} (h:InBlk w p (cs++ds)):InBlk w p cs:=by
 obtain ⟨arr,T,fz,h1,h2,h3,h4,h5⟩:=h
 refine ⟨arr,T,fz,h1,h2,h3,by simp at h4;omega,fun j v hj=>h5 j v ?_⟩
 rw [wha (wZ.1 hj).1];exact hj
theorem InBlk.is {w:World} {p:Plc} {cs:List Value} (h:InBlk w p cs) {o:Nat} (ho:o<p.bs):(w.cell? ⟨p.blk,o,none⟩).isSome=true:=by
 obtain ⟨arr,T,fz,h1,h2,h3,h4,h5⟩:=h
 have:o<arr.size:=by omega
 simp [World.cell?,h1,this]
theorem qUr (hi:Inv c H K w) (hng:c.ng≤c.w0.heap.size) (hf:K nl=none) {T T2 E ty:TypeId} {i:TypeInfo} {z:Value} {e:Ty} (hd:P.underlying T=some (.slice E)) (hin:P.info? E=some i) (hz:i.zero=some z) (hsz:i.size=e.sz) (hzs:z.cells.size=e.sz)
  {base:Option Addr} {sLen sCap n:Nat} {x:Value} {cl:List Value} {zs ys:List (pden e)} {fr fr1:Bool} (hs:SlRd w (NN c H K w fr1) e zs (.slice base sLen sCap))
  (hx:Src P w E T2 e.sz z.cells x n cl) (hy:Cat (PRd w (NN c H K w fr) e) ys cl) (hl:ys.length=n) (hr:sCap<sLen+n) (hb:(sLen+n)*i.bytes≤140737488355328) (h63:0<i.bytes):
  ∃v w' K',(wra #[T,T2] ty #[.slice base sLen sCap,x]).run P w= .ok v w'∧Stp c H K w [(nl,some (.row e (fr1&&fr) (zs++ys)))] nl K' w'∧RefRd K' e nl 0 (zs++ys).length true v:=by
 obtain ⟨A0,cap0,e0,hle,_⟩:=id hs
 injection e0 with e1 e2 e3
 subst e1;subst e2;subst e3
 obtain ⟨ol,hol,hln,hfc⟩:=hs.first (P:=P)
 have hol1:=hol.length (n:=e.sz) (fun _ _=>PRd.length)
 have hcl1:=hy.length (n:=e.sz) (fun _ _=>PRd.length)
 have hfc':∀w',w'.heap=w.heap→(wwa e.sz zs.length (.slice base zs.length sCap)).run P w'= .ok ol.toArray w':=fun w' hw=>by
  have:=hfc zs.length (ws _) w' hw
  rwa [←hol1,wOa] at this
 have hrun:=qTr (ty:=ty) hd hin hz hsz hzs hfc' hx hr hb h63
 have hge:=grownCap_ge w (zs.length+n) sCap E
 generalize harr:ol.toArray++(cl.toArray++wpa z.cells (grownCap w (zs.length+n) sCap E - (zs.length+n)))=arr at hrun
 have hal:arr.toList=(ol++cl)++(wpa z.cells (grownCap w (zs.length+n) sCap E - (zs.length+n))).toList:=by rw [←harr];simp
 have hab:=InBlk.new w.drew arr E
 rw [hal] at hab
 refine ⟨_,_,_,hrun,qyq hi hng ⟨ws _,by omega⟩ hf (e:=e) (fr:=fr1&&fr) (xs:=zs++ys) (p:=⟨w.heap.size,0,arr.size⟩) (cs:=ol++cl) (qzb w.drew _) ⟨ws _,by rw [qjb];exact wqa _⟩ hab.front ?_,?_⟩
 ·exact (hol.imp (fun _ _ q=>q.keep ⟨fun b hb=>⟨hb.and1,rfl⟩⟩)).append (hy.imp (fun _ _ q=>q.keep ⟨fun b hb=>⟨hb.and2,rfl⟩⟩))
 ·have h1:(zs++ys).length=zs.length+n:=by rw [wl,hl]
  rw [h1]
  refine qkn (p:=⟨w.heap.size,0,arr.size⟩) rfl hge (.inr ?_)
  rw [←harr]
  simp only [Array.size_append,size_zeroCells,hzs,wLa,hol1,hcl1,hl,wO]
  have:grownCap w (zs.length+n) sCap E=zs.length+(n+(grownCap w (zs.length+n) sCap E - (zs.length+n))):=by omega
  conv=>lhs;rw [this]
  simp only [whb]
  omega
theorem qoK {e:Ty} {l off len:Nat} {wh fr:Bool} {xs:List (pden e)} {v:Value} (h1:(seg xs off len wh).length=len) (h3:wh=true→off=0∧len=xs.length)
  (h4:(v= .slice none 0 0∧K l=some ⟨.row e xs.length [],none⟩∧xs=[]∧len=0)∨
   ∃p cs o cap,K l=some ⟨.row e xs.length [],some p⟩∧v= .slice (some ⟨p.blk,o,none⟩) len cap∧len≤cap∧(cap=0∨(o=p.ob+off*e.sz∧p.ob+(off+cap)*e.sz≤p.bs))∧
    InBlk w p cs∧Cat (PRd w (NN c H K w fr) e) xs cs):SlRd w (NN c H K w fr) e (seg xs off len wh) v:=by
 rcases h4 with ⟨rfl,h5,rfl,h6⟩|⟨p,cl,o,cap,k1,rfl,h5,h6,h7,h8⟩
 ·have:seg ([]:List (pden e)) off len wh=[]:=wG (by rw [h1,h6])
  rw [this]
  exact ⟨none,0,rfl,ws _, .inl rfl⟩
 ·refine ⟨_,cap,by rw [h1],by omega,?_⟩
  by_cases h0:len=0
  ·exact .inl (wG (by rw [h1,h0]))
  ·right
   have h6':=h6.resolve_left (by omega)
   refine ⟨p.blk,o,_,rfl,?_,qUl (fun _ _=>PRd.length) h8 h3,h7.lt⟩
   rw [h6'.1]
   exact h7.cells.cut _ _
theorem qOh (A:At c P GT H lk K w ev ρ nl) {T T2 E ty:TypeId} {i:TypeInfo} {z:Value} {e:Ty} (hd:P.underlying T=some (.slice E)) (hin:P.info? E=some i) (hz:i.zero=some z) (hsz:i.size=e.sz) (hzs:z.cells.size=e.sz) (h63:0<i.bytes)
  {s:AV} {u x:Value} {n:Nat} {cl:List Value} {ys:List (pden e)} {fr:Bool} (hs:VRd w (NN c H K w) K s u)
  (hx:Src P w E T2 e.sz z.cells x n cl) (hy:Cat (PRd w (NN c H K w fr) e) ys cl) (hl:ys.length=n) {out:Out} (h:qDi lk e s fr ys nl i.bytes=some out) (hc:qfg out.conds):
  ∃v w',(wra #[T,T2] ty #[u,x]).run P w= .ok v w'∧Lands c H K w nl out v w':=by
 have hf:=A.fresh nl (ws _) (by omega)
 have hcl1:=hy.length (n:=e.sz) (fun _ _=>PRd.length)
 cases s with
 |nil=>
  simp only [qDi,wc] at h;subst h
  simp only [VRd] at hs;subst hs
  obtain ⟨c1,_⟩:=hc
  by_cases h0:n=0
  ·subst h0
   have hy0:=wG hl
   subst hy0
   simp only [Cat] at hy;subst hy
   refine ⟨_,w,qwj hd hin hz hsz hzs hx (ws _) (w2:=w) rfl,qLj K nl ⟨.row e 0 [],none⟩,?_,?_⟩
   ·cases fr with
    |true=>exact qly A.inv A.ng ⟨ws _,by omega⟩ hf e
    |false=>exact Stp.new A.inv A.ng nl nl ⟨ws _,by omega⟩ hf (.row e false []) ⟨.row e 0 [],none⟩ ⟨rfl,rfl,rfl,ws _,fun _ _=>rfl⟩ (fun p hp=>by cases hp) (fun N' K' _ hk=>⟨rfl,rfl⟩)
   ·cases fr <;> exact ⟨0,none,⟨[],qRa⟩,ws _,fun _=>⟨rfl,rfl⟩,rfl,rfl⟩
  ·obtain ⟨v,w',K',h1,h2,h3⟩:=qUr (ty:=ty) A.inv A.ng hf hd hin hz hsz hzs (zs:=[]) (fr1:=true) (base:=none) (sLen:=0) (sCap:=0) ⟨none,0,rfl,ws _, .inl rfl⟩ hx hy hl (by omega) (by simpa [hl] using c1) h63
   simp only [waa,Bool.true_and] at h2 h3
   exact ⟨v,w',h1,K',h2,h3⟩
 |ref e' l off len wh=>
  simp only [qDi] at h
  split at h
  ·rename_i he
   subst he
   split at h
   ·rename_i fr' xs hrow
    simp only [wc] at h;subst h
    obtain ⟨c1,_⟩:=hc
    have hlk:=A.sub _ _ (qdc hrow)
    obtain ⟨h1,h2,h3,h4⟩:=qgn A.inv hlk hs
    have hcon:SlRd w (NN c H K w fr') e' (seg xs off len wh) u:=qoK h1 h3 h4
    have hcon':∃base cap,u= .slice base len cap:=by
     obtain ⟨b0,c0,q,_⟩:=hcon
     exact ⟨b0,c0,by rw [q,h1]⟩
    obtain ⟨base,cap,rfl⟩:=hcon'
    have hlen:(seg xs off len wh++ys).length=len+n:=by rw [wl,h1,hl]
    by_cases hroom:len+n≤cap
    ·rcases h4 with ⟨q1,q2,rfl,rfl⟩|⟨p,cs,o,cap',q1,q2,q3,q4,q5,q6⟩
     ·-- no row at all
      injection q1 with q1 _ q1'
      subst q1;subst q1'
      have hn0:n=0:=by omega
      subst hn0
      have hy0:=wG hl
      subst hy0
      simp only [Cat] at hy;subst hy
      refine ⟨_,w,qwj hd hin hz hsz hzs hx hroom (w2:=w) rfl,qLj K nl ⟨.row e' 0 [],none⟩,?_,?_⟩
      ·have S1:=Stp.new A.inv A.ng nl nl ⟨ws _,by omega⟩ hf (.row e' (fr'&&fr) []) ⟨.row e' 0 [],none⟩ ⟨rfl,rfl,rfl,ws _,fun _ _=>rfl⟩ (fun p hp=>by cases hp) (fun N' K' _ hk=>⟨rfl,rfl⟩)
       have hseg:seg ([]:List (pden e')) off 0 wh++[]=[]:=wG (by rw [hlen])
       simp only [hseg]
       exact S1.trans (Stp.kill S1.inv nl [l])
      ·show RefRd _ _ _ _ _ _ _
       rw [hlen]
       exact ⟨0,none,⟨[],qRa⟩,ws _,fun _=>⟨rfl,rfl⟩,rfl,rfl⟩
     ·injection q2 with q2 _ q2'
      subst q2;subst q2'
      by_cases hcap:cap=0
      ·subst hcap
       have hn0:n=0:=by omega
       have hl0:len=0:=by omega
       subst hn0;subst hl0
       have hy0:=wG hl
       subst hy0
       simp only [Cat] at hy;subst hy
       have hseg:seg xs off 0 wh++[]=[]:=wG (by rw [hlen])
       refine ⟨_,w,qwj hd hin hz hsz hzs hx hroom (w2:=w) (by simp [storeCells]),qLj K nl ⟨.row e' 0 [],some ⟨p.blk,0,p.bs⟩⟩,?_,?_⟩
       ·simp only [hseg]
        refine Stp.move (w':=w) A.inv nl l nl _ _ _ ⟨.row e' 0 [],some ⟨p.blk,0,p.bs⟩⟩ p ⟨p.blk,0,p.bs⟩ hlk q1 rfl ⟨ws _,by omega⟩ hf rfl rfl ⟨rfl,rfl,rfl,rfl,fun _ _=>rfl⟩ (fun N' K' _ hk=>⟨rfl,[],?_,rfl⟩)
        have:=q5.move (q:=0) (o:=0) (s:=[]) (ds:=[]) (by simp) (ws _) (by simp) (fun j v hj=>by simp at hj)
        simpa [World.setCells] using this
       ·show RefRd _ _ _ _ _ _ _
        rw [hlen]
        exact ⟨0,some ⟨p.blk,0,p.bs⟩,⟨[],qRa⟩,ws _,fun _=>⟨rfl,rfl⟩,o,0,rfl,ws _, .inl rfl⟩
      ·obtain ⟨rfl,q4⟩:=q4.resolve_left hcap
       have hxl:=q6.length (n:=e'.sz) (fun _ _=>PRd.length)
       have hm1:(len+n)*e'.sz≤cap*e'.sz:=wja _ hroom
       have hm2:(off+len)*e'.sz≤xs.length*e'.sz:=wja _ h2
       rw [whb] at hm1 hm2 q4
       rw [hl] at hcl1
       have hst:=run_storeCells_cells (P:=P) p.blk (p.ob+off*e'.sz+len*e'.sz) cl 0 w (fun j hj=>q5.is (by omega)) (fun j hj=>q5.free (by omega)) (hy.one (fun _ _=>PRd.one))
       have hcut:(cut cs (off*e'.sz) (len*e'.sz)).length=len*e'.sz:=qwo (by omega)
       refine ⟨_,w.setCells p.blk (p.ob+off*e'.sz+len*e'.sz+0) cl,qwj hd hin hz hsz hzs hx hroom (by simp only [wNa];exact hst),qLj K nl ⟨.row e' (seg xs off len wh++ys).length [],some ⟨p.blk,p.ob+off*e'.sz,p.bs⟩⟩,?_,?_⟩
       ·obtain ⟨s1,s2,s3,s4,s5⟩:=qmb p.blk cl (p.ob+off*e'.sz+len*e'.sz+0) w
        refine Stp.move A.inv nl l nl _ _ _ ⟨.row e' (seg xs off len wh++ys).length [],some ⟨p.blk,p.ob+off*e'.sz,p.bs⟩⟩ p ⟨p.blk,p.ob+off*e'.sz,p.bs⟩ hlk q1 rfl ⟨ws _,by omega⟩ hf rfl rfl ⟨s1,s2,s3,s4,s5⟩ (fun N' K' hN hk=>⟨rfl,cut cs (off*e'.sz) (len*e'.sz)++cl,?_,?_⟩)
        ·refine q5.move (by simp only [wl,hcut,hcl1];omega) (by omega) (by simp only [wl,hcut,hcl1];omega) (fun j v hj=>?_)
         by_cases hj1:j<len*e'.sz
         ·rw [wha (by omega),qVk,if_pos hj1] at hj
          rw [if_pos (by omega)]
          exact ⟨by omega,by rw [←hj];congr 1;omega⟩
         ·rw [wda (by omega),hcut] at hj
          have hj2:=(wZ.1 hj).1
          rw [if_neg (by omega),if_pos (by omega)]
          rw [←hj];congr 1;omega
        ·refine Cat.append ?_ ?_
         ·refine (qUl (fun _ _=>PRd.length) q6 h3).imp (fun _ _ q=>q.keep ⟨fun b hb=>?_⟩)
          exact ⟨by cases fr' <;> cases fr <;> first|exact ((hk.n _).k b hb).1|exact hN b ((hk.n _).k b hb).1,((hk.n _).k b hb).2⟩
         ·refine hy.imp (fun _ _ q=>q.keep ⟨fun b hb=>?_⟩)
          exact ⟨by cases fr' <;> cases fr <;> first|exact ((hk.n _).k b hb).1|exact hN b ((hk.n _).k b hb).1,((hk.n _).k b hb).2⟩
       ·show RefRd _ _ _ _ _ _ _
        rw [hlen]
        refine ⟨_,some ⟨p.blk,p.ob+off*e'.sz,p.bs⟩,⟨[],qRa⟩,by omega,fun _=>⟨rfl,by omega⟩,_,cap,rfl,hroom, .inr ⟨by simp,?_⟩⟩
        simp only [wO]
        omega
    ·rw [hlen] at c1
     obtain ⟨v,w',K',g1,g2,g3⟩:=qUr (ty:=ty) A.inv A.ng hf hd hin hz hsz hzs hcon hx hy hl (by omega) c1 h63
     exact ⟨v,w',g1,K',g2.trans (Stp.kill g2.inv nl [l]),g3⟩
   ·cases h
  ·cases h
 |_=>simp [qDi] at h
theorem FamRd.one {w:World} {e:Ty}:∀{xss:List (List (pden e))} {ps:List (Nat×Option Plc)} {cs:List Value},FamRd w e xss ps cs→∀v∈cs,v.oneCell'=true
 |[],_,_,h,v,hv=>by obtain ⟨_,rfl⟩:=h;cases hv
 |xs::r,_,_,h,v,hv=>by
  obtain ⟨p,ps',u,cs',rfl,rfl,h1,h2⟩:=h
  rcases wU.1 hv with rfl|hv
  ·cases p with
   |none=>rw [h1.1];rfl
   |some p=>obtain ⟨o,cap,cl,a1,_⟩:=h1;rw [a1];rfl
  ·exact h2.one v hv
theorem qqk {A0:Option Addr} {n cap sz:Nat} {cl:List Value} (hcl:cl.length=n*sz) (hb:n≠0→∃b o,A0=some ⟨b,o,none⟩∧CellsAt w b o cl):∀w',w'.heap=w.heap→(wwa sz n (.slice A0 n cap)).run P w'= .ok cl.toArray w':=by
 intro w' hw
 by_cases h0:n=0
 ·subst h0
  have:cl=[]:=wG (by simpa using hcl)
  subst this
  cases A0 with
  |none=>simp [wwa]
  |some a=>simp [wwa,loadCells,loadCellsFrom]
 ·obtain ⟨b,o,rfl,h1⟩:=hb h0
  have:=run_loadCells_list (P:=P) w' ⟨b,o,none⟩ cl (fun j v hj=>by
   rw [wNa]
   have:=h1 j v hj
   simpa [World.cell?,hw] using this)
  rw [hcl] at this
  simpa [wwa] using this
theorem qhz (A:Inv c H K w) {e:Ty} {l off len:Nat} {xss:List (List (pden e))} {v:Value} (hl:H l=some (.fam e xss)) (hr:RefRd K (.slice e) l off len true v):
  off=0∧len=xss.length∧e.flat=true∧∃ps pl,K l=some ⟨.row (.slice e) xss.length ps,pl⟩∧Apart pl (ps.map (·.2))∧(match pl with
   |none=>v= .slice none 0 0∧xss=[]∧ps=[]
   |some p=>∃cs o cap,v= .slice (some ⟨p.blk,o,none⟩) xss.length cap∧xss.length≤cap∧(cap=0∨(o=p.ob∧p.ob+cap≤p.bs))∧InBlk w p cs∧FamRd w e xss ps cs):=by
 obtain ⟨gh,g1,hf,ps,g2,ha,g4⟩:=A.objs l _ hl
 obtain ⟨n,pl,⟨ps',k1⟩,k2,k3,k4⟩:=hr
 obtain ⟨rfl,rfl⟩:=k3 rfl
 rw [k1] at g1;injection g1 with g1;subst g1
 simp only [Shp.row.injEq,true_and] at g2
 obtain ⟨rfl,rfl⟩:=g2
 refine ⟨rfl,rfl,hf,ps',pl,k1,ha,?_⟩
 cases pl with
 |none=>exact ⟨k4.1,g4⟩
 |some p=>
  obtain ⟨cs,g5,g6⟩:=g4
  obtain ⟨o,cap,h1,h2,h3⟩:=k4
  exact ⟨cs,o,cap,h1,h2,h3.imp id (fun h=>by simpa [Ty.sz] using h),g5,g6⟩
theorem FamRd.append {w:World} {e:Ty}:∀{xss yss:List (List (pden e))} {ps qs:List (Nat×Option Plc)} {cs ds:List Value},FamRd w e xss ps cs→FamRd w e yss qs ds→FamRd w e (xss++yss) (ps++qs) (cs++ds)
 |[],_,_,_,_,_,h,h'=>by obtain ⟨rfl,rfl⟩:=h;exact h'
 |xs::r,_,_,_,_,_,h,h'=>by
  obtain ⟨p,ps',v,cs',rfl,rfl,h1,h2⟩:=h
  exact ⟨p,_,v,_,rfl,rfl,h1,h2.append h'⟩
theorem Apart.app {p0 q0:Option Plc} {p1:Plc} {ps qs:List (Option Plc)} (h:Apart p0 ps) (h':Apart q0 qs) (hx:∀p q,some p∈ps→some q∈qs→p.blk≠q.blk) (h1:∀q,some q∈ps→q.blk≠p1.blk) (h2:∀q,some q∈qs→q.blk≠p1.blk):Apart (some p1) (ps++qs):=by
 refine ⟨fun i j p q hi hj hb=>?_,fun p q hp hq=>?_⟩
 ·rw [List.getElem?_append] at hi hj
  split at hi
  ·split at hj
   ·exact h.1 i j p q hi hj hb
   ·exact absurd hb (hx p q (wma hi) (wma hj))
  ·split at hj
   ·exact absurd hb.symm (hx q p (wma hj) (wma hi))
   ·have:=h'.1 _ _ p q hi hj hb
    omega
 ·injection hp with hp;subst hp
  rcases wR.1 hq with hq|hq
  ·exact h1 q hq
  ·exact h2 q hq
theorem qeB (A:At c P GT H lk K w ev ρ nl) {T T2 E ty:TypeId} {i:TypeInfo} {z:Value} {e:Ty} (hd:P.underlying T=some (.slice E)) {E2:TypeId} (hd2:P.underlying T2=some (.slice E2)) (hin:P.info? E=some i) (hz:i.zero=some z) (hsz:i.size=e.sz) (hzs:z.cells.size=e.sz) (h63:0<i.bytes)
  {s x:AV} {u v:Value} (hs:VRd w (NN c H K w) K s u) (hx:VRd w (NN c H K w) K x v) {out:Out} (h:qgI lk e s x nl i.bytes=some out) (hc:qfg out.conds):
  ∃r w',(wra #[T,T2] ty #[u,v]).run P w= .ok r w'∧Lands c H K w nl out r w':=by
 have hf0:=A.fresh nl (ws _) (by omega)
 unfold qgI at h
 split at h
 ·rename_i e2 l2 off2 len2
  split at h
  ·rename_i e1 y hlk2
   split at h
   ·rename_i he
    subst he
    split at h
    ·rename_i e3 l off len
     split at h
     ·rename_i e0 xss hlk
      split at h
      ·rename_i h0
       subst h0
       split at h
       ·rename_i hq
        obtain ⟨rfl,rfl,hne⟩:=hq
        simp only [wc] at h;subst h
        obtain ⟨c1,_⟩:=hc
        have hH:=A.sub _ _ hlk
        have hH2:=A.sub _ _ hlk2
        obtain ⟨rfl,rfl,hf,ps,pl,k1,ha,hm⟩:=qhz A.inv hH hs
        obtain ⟨rfl,rfl,_,qs,ql,m1,hb,hm2⟩:=qhz A.inv hH2 hx
        have hszE:(Ty.slice e0).sz=1:=rfl
        rw [hszE] at hsz hzs
        cases ql with
        |none=>exact absurd hm2.2.1 (by simp)
        |some p2=>
        obtain ⟨ds,o2,cap2,rfl,n1,n2,n3,n4⟩:=hm2
        obtain ⟨_,hdl⟩:=n4.len
        obtain ⟨rfl,_⟩:=n2.resolve_left (by simp at n1;omega)
        have hsrc:Src P w E T2 1 z.cells (.slice (some ⟨p2.blk,p2.ob,none⟩) [y].length cap2) 1 ds:=
         .given (.inl ⟨E2,hd2⟩) (fun w'=>rfl) (qqk (by simpa using hdl) (fun _=>⟨_,_,rfl,n3.cells⟩))
        have hown1:∀q,some q∈ps.map (·.2)→q.blk<w.heap.size:=fun q hq=>(A.inv.own l _ _ q hH k1 (.inr hq)).1
        have hown2:∀q,some q∈qs.map (·.2)→q.blk<w.heap.size:=fun q hq=>(A.inv.own l2 _ _ q hH2 m1 (.inr hq)).1
        have hcross:∀p q,some p∈ps.map (·.2)→some q∈qs.map (·.2)→p.blk≠q.blk:=fun p q hp hq e=>
         hne (A.inv.inj l l2 _ _ _ _ p q hH hH2 k1 m1 (.inr hp) (.inr hq) e)
        have hlen:(xss++[y]).length=xss.length+1:=by simp
        have hnl:∀(w':World) (pn:Plc) (cs:List Value),(pn.blk=w.heap.size∨pl=some pn)→w'.os=w.os∧w'.tape=w.tape∧w'.output=w.output∧w.heap.size≤w'.heap.size→pn.blk<w'.heap.size→
          (∀k,k<w.heap.size→(pl=some pn→k≠pn.blk)→w'.heap[k]?=w.heap[k]?)→InBlk w' pn (cs++ds)→FamRd w e0 xss ps cs→
          Stp c H K w [(l,none),(l2,none),(nl,some (.fam e0 (xss++[y])))] nl (qLj K nl ⟨.row (.slice e0) (xss++[y]).length (ps++qs),some pn⟩) w':=by
         intro w' pn cs hpn hw1 hw2 hw3 hib hfr
         have hpnb:∀q,some q∈ps.map (·.2)→q.blk≠pn.blk:=fun q hq=>by
          rcases hpn with e|e
          ·have:=hown1 q hq;omega
          ·exact ha.2 pn q e hq
         have hpnb2:∀q,some q∈qs.map (·.2)→q.blk≠pn.blk:=fun q hq e'=>by
          rcases hpn with e|e
          ·have:=hown2 q hq;omega
          ·exact hne (A.inv.inj l l2 _ _ _ _ pn q hH hH2 k1 m1 (.inl e) (.inr hq) e'.symm)
         refine uw (w':=w') A.inv nl nl [l,l2] (.fam e0 (xss++[y])) ⟨.row (.slice e0) (xss++[y]).length (ps++qs),some pn⟩ ⟨ws _,by omega⟩ hf0 hw1 (fun p hp=>?_) (fun _ _ _=>A.ng) (fun k hk hsm=>?_) (fun N' K' _ hk=>?_)
         ·rcases hp with hp|hp
          ·injection hp with hp;subst hp
           rcases hpn with e|e
           ·exact .inr ⟨by omega,hw2⟩
           ·exact .inl ⟨l,by simp,_,_,pn,hH,k1, .inl e,rfl⟩
          ·simp only [Shp.ex,wBa,wR] at hp
           rcases hp with hp|hp
           ·exact .inl ⟨l,by simp,_,_,p,hH,k1, .inr hp,rfl⟩
           ·exact .inl ⟨l2,by simp,_,_,p,hH2,m1, .inr hp,rfl⟩
         ·exact hw3 k hk (fun e e'=>hsm l (by simp) _ _ pn hH k1 (.inl e) e'.symm)
         ·refine ⟨hf,ps++qs,rfl,?_,cs++ds,hib,?_⟩
          ·rw [wBa]
           exact ha.app hb hcross hpnb hpnb2
          ·exact (hfr.keep hf (fun q hq=>hw3 _ (hown1 q hq) (fun _=>hpnb q hq))).append (n4.keep hf (fun q hq=>hw3 _ (hown2 q hq) (fun _=>hpnb2 q hq)))
        by_cases hroom:∃p cs cap,pl=some p∧u= .slice (some ⟨p.blk,p.ob,none⟩) xss.length cap∧xss.length+1≤cap∧p.ob+cap≤p.bs∧InBlk w p cs∧FamRd w e0 xss ps cs
        ·obtain ⟨p,cs,cap,rfl,rfl,r1,r2,r3,r4⟩:=hroom
         obtain ⟨_,hcl⟩:=r4.len
         have hst:=run_storeCells_cells (P:=P) p.blk (p.ob+xss.length*1) ds 0 w (fun j hj=>r3.is (by simp at hdl;omega)) (fun j hj=>r3.free (by simp at hdl;omega)) (FamRd.one n4)
         have hrun:=qwj (ty:=ty) hd hin hz hsz hzs (base:=some ⟨p.blk,p.ob,none⟩) (sLen:=xss.length) (sCap:=cap) hsrc r1 (by simp only [wNa];exact hst)
         obtain ⟨s1,s2,s3,s4,s5⟩:=qmb p.blk ds (p.ob+xss.length*1+0) w
         refine ⟨_,_,hrun,_,hnl _ p cs (.inr rfl) ⟨s1,s2,s3,by rw [s4];exact ws _⟩ (by rw [s4];exact r3.lt) (fun k _ h=>s5 k (h rfl)) ?_ r4,?_⟩
         ·have:=r3.move (q:=p.ob) (o:=p.ob+xss.length*1+0) (s:=ds) (ds:=cs++ds) (by simp at hdl;simp;omega) (by omega) (by simp;omega) (fun j v hj=>by
           by_cases hj1:j<cs.length
           ·rw [wha hj1] at hj
            rw [if_pos (by omega)]
            exact ⟨by omega,by rw [←hj];congr 1;omega⟩
           ·rw [wda (by omega)] at hj
            have hj2:=(wZ.1 hj).1
            rw [if_neg (by omega),if_pos (by omega)]
            rw [←hj];congr 1;omega)
          exact this
         ·show RefRd _ _ _ _ _ _ _
          rw [hlen]
          exact ⟨_,some p,⟨_,qRa⟩,by omega,fun _=>⟨rfl,rfl⟩,p.ob,cap,rfl,r1, .inr ⟨by simp,by simp [Ty.sz];omega⟩⟩
        ·-- a new row
         have hu:∃A0 cap cs,u= .slice A0 xss.length cap∧cap<xss.length+1∧FamRd w e0 xss ps cs∧(xss.length≠0→∃b o,A0=some ⟨b,o,none⟩∧CellsAt w b o cs):=by
          cases pl with
          |none=>
           obtain ⟨rfl,rfl,rfl⟩:=hm
           exact ⟨none,0,[],rfl,by simp,⟨rfl,rfl⟩,fun h=>absurd rfl h⟩
          |some p=>
           obtain ⟨cs,o,cap,rfl,r1,r2,r3,r4⟩:=hm
           refine ⟨_,cap,cs,rfl,?_,r4,fun h=>?_⟩
           ·apply Nat.lt_of_not_le
            intro hle
            obtain ⟨rfl,r5⟩:=r2.resolve_left (by omega)
            exact hroom ⟨p,cs,cap,rfl,rfl,hle,r5,r3,r4⟩
           ·obtain ⟨rfl,_⟩:=r2.resolve_left (by omega)
            exact ⟨_,_,rfl,r3.cells⟩
         obtain ⟨A0,cap,cs,rfl,r1,r2,r3⟩:=hu
         obtain ⟨_,hcl⟩:=r2.len
         rw [hlen] at c1
         have hrun:=qTr (ty:=ty) hd hin hz hsz hzs (base:=A0) (sLen:=xss.length) (sCap:=cap) (qqk (by omega) r3) hsrc r1 c1 h63
         have hge:=grownCap_ge w (xss.length+1) cap E
         generalize harr:cs.toArray++(ds.toArray++wpa z.cells (grownCap w (xss.length+1) cap E - (xss.length+1)))=arr at hrun
         have hal:arr.toList=(cs++ds)++(wpa z.cells (grownCap w (xss.length+1) cap E - (xss.length+1))).toList:=by rw [←harr];simp
         have hab:=InBlk.new w.drew arr E
         rw [hal] at hab
         refine ⟨_,_,hrun,_,hnl _ ⟨w.heap.size,0,arr.size⟩ cs (.inl rfl) ⟨rfl,rfl,rfl,by rw [qjb];exact Nat.le_succ _⟩ (by rw [qjb];exact wqa _) (fun k hk _=>(qzb w.drew _).2.2.2.2 k hk) hab.front r2,?_⟩
         show RefRd _ _ _ _ _ _ _
         rw [hlen]
         refine qkn (p:=⟨w.heap.size,0,arr.size⟩) rfl hge (.inr ?_)
         rw [←harr]
         simp only [Array.size_append,size_zeroCells,hzs,wLa,hcl,hdl,hszE]
         simp
         omega
       ·cases h
      ·cases h
     ·cases h
    ·cases h
   ·cases h
  ·cases h
 ·cases h
theorem FamSRd.one {w:World} {a e:Ty}:∀{xs:List (pden a×List (pden e))} {ps:List (Nat×Option Plc)} {cs:List Value},FamSRd w a e xs ps cs→∀v∈cs,v.oneCell'=true
 |[],_,_,h,v,hv=>by obtain ⟨_,rfl⟩:=h;cases hv
 |x::r,_,_,h,v,hv=>by
  obtain ⟨p,ps',c,u,cs',rfl,rfl,h0,h1,h2⟩:=h
  rcases wR.1 hv with hv|hv
  ·exact PRd.one h0 v hv
  rcases wU.1 hv with rfl|hv
  ·obtain ⟨A,cap,rfl⟩:=h1.form;rfl
  ·exact h2.one v hv
theorem FamSRd.append {w:World} {a e:Ty}:∀{xs ys:List (pden a×List (pden e))} {ps qs:List (Nat×Option Plc)} {cs ds:List Value},FamSRd w a e xs ps cs→FamSRd w a e ys qs ds→FamSRd w a e (xs++ys) (ps++qs) (cs++ds)
 |[],_,_,_,_,_,h,h'=>by obtain ⟨rfl,rfl⟩:=h;exact h'
 |x::r,_,_,_,_,_,h,h'=>by
  obtain ⟨p,ps',c,v,cs',rfl,rfl,h0,h1,h2⟩:=h
  exact ⟨p,_,c,v,_,rfl,by simp,h0,h1,h2.append h'⟩
theorem qJv (A:Inv c H K w) {a e:Ty} {l off len:Nat} {xs:List (pden a×List (pden e))} {v:Value} (hl:H l=some (.famS a e xs)) (hr:RefRd K (qQp a e) l off len true v):
  off=0∧len=xs.length∧(a.flat=true∧e.flat=true)∧∃ps pl,K l=some ⟨.row (qQp a e) xs.length ps,pl⟩∧Apart pl (ps.map (·.2))∧(match pl with
   |none=>v= .slice none 0 0∧xs=[]∧ps=[]
   |some p=>∃cs o cap,v= .slice (some ⟨p.blk,o,none⟩) xs.length cap∧xs.length≤cap∧(cap=0∨(o=p.ob∧p.ob+cap*(a.sz+1)≤p.bs))∧InBlk w p cs∧FamSRd w a e xs ps cs):=by
 obtain ⟨gh,g1,ha0,hf,ps,g2,ha,g4⟩:=A.objs l _ hl
 obtain ⟨n,pl,⟨ps',k1⟩,k2,k3,k4⟩:=hr
 obtain ⟨rfl,rfl⟩:=k3 rfl
 rw [k1] at g1;injection g1 with g1;subst g1
 simp only [Shp.row.injEq,true_and] at g2
 obtain ⟨rfl,rfl⟩:=g2
 refine ⟨rfl,rfl,⟨ha0,hf⟩,ps',pl,k1,ha,?_⟩
 cases pl with
 |none=>exact ⟨k4.1,g4⟩
 |some p=>
  obtain ⟨cs,g5,g6⟩:=g4
  obtain ⟨o,cap,h1,h2,h3⟩:=k4
  exact ⟨cs,o,cap,h1,h2,h3.imp id (fun h=>⟨by simpa using h.1,by simpa [Ty.sz] using h.2⟩),g5,g6⟩
theorem qTy (A:At c P GT H lk K w ev ρ nl) {T T2 E ty:TypeId} {i:TypeInfo} {z:Value} {e:Ty} (hd:P.underlying T=some (.slice E)) {E2:TypeId} (hd2:P.underlying T2=some (.slice E2)) (hin:P.info? E=some i) (hz:i.zero=some z) (hsz:i.size=e.sz) (hzs:z.cells.size=e.sz) (h63:0<i.bytes)
  {s x:AV} {u v:Value} (hs:VRd w (NN c H K w) K s u) (hx:VRd w (NN c H K w) K x v) {out:Out} (h:qjD lk e s x nl i.bytes=some out) (hc:qfg out.conds):
  ∃r w',(wra #[T,T2] ty #[u,v]).run P w= .ok r w'∧Lands c H K w nl out r w':=by
 have hf0:=A.fresh nl (ws _) (by omega)
 unfold qjD at h
 split at h
 ·rename_i e2 l2 off2 len2
  split at h
  ·rename_i a1 e1 y hlk2
   split at h
   ·rename_i e3 l off len
    split at h
    ·rename_i a0 e0 xss hlk
     split at h
     ·rename_i h0
      obtain ⟨h01,h02⟩:=h0
      subst h01;subst h02
      ·split at h
       ·rename_i hq
        obtain ⟨rfl,rfl,rfl,hne⟩:=hq
        simp only [wc] at h;subst h
        obtain ⟨c1,_⟩:=hc
        have hH:=A.sub _ _ hlk
        have hH2:=A.sub _ _ hlk2
        obtain ⟨rfl,rfl,⟨ha0,hf⟩,ps,pl,k1,ha,hm⟩:=qJv A.inv hH hs
        obtain ⟨rfl,rfl,_,qs,ql,m1,hb,hm2⟩:=qJv A.inv hH2 hx
        have hszE:(qQp a0 e0).sz=a0.sz+1:=rfl
        rw [hszE] at hsz hzs
        cases ql with
        |none=>exact absurd hm2.2.1 (by simp)
        |some p2=>
        obtain ⟨ds,o2,cap2,rfl,n1,n2,n3,n4⟩:=hm2
        obtain ⟨_,hdl⟩:=n4.len
        have hdl':ds.length=a0.sz+1:=by simpa using hdl
        obtain ⟨rfl,_⟩:=n2.resolve_left (by simp at n1;omega)
        have hsrc:Src P w E T2 (a0.sz+1) z.cells (.slice (some ⟨p2.blk,p2.ob,none⟩) [y].length cap2) 1 ds:=
         .given (.inl ⟨E2,hd2⟩) (fun w'=>rfl) (qqk (by simpa using hdl) (fun _=>⟨_,_,rfl,n3.cells⟩))
        have hown1:∀q,some q∈ps.map (·.2)→q.blk<w.heap.size:=fun q hq=>(A.inv.own l _ _ q hH k1 (.inr hq)).1
        have hown2:∀q,some q∈qs.map (·.2)→q.blk<w.heap.size:=fun q hq=>(A.inv.own l2 _ _ q hH2 m1 (.inr hq)).1
        have hcross:∀p q,some p∈ps.map (·.2)→some q∈qs.map (·.2)→p.blk≠q.blk:=fun p q hp hq e=>
         hne (A.inv.inj l l2 _ _ _ _ p q hH hH2 k1 m1 (.inr hp) (.inr hq) e)
        have hlen:(xss++[y]).length=xss.length+1:=by simp
        have hnl:∀(w':World) (pn:Plc) (cs:List Value),(pn.blk=w.heap.size∨pl=some pn)→w'.os=w.os∧w'.tape=w.tape∧w'.output=w.output∧w.heap.size≤w'.heap.size→pn.blk<w'.heap.size→
          (∀k,k<w.heap.size→(pl=some pn→k≠pn.blk)→w'.heap[k]?=w.heap[k]?)→InBlk w' pn (cs++ds)→FamSRd w a0 e0 xss ps cs→
          Stp c H K w [(l,none),(l2,none),(nl,some (.famS a0 e0 (xss++[y])))] nl (qLj K nl ⟨.row (qQp a0 e0) (xss++[y]).length (ps++qs),some pn⟩) w':=by
         intro w' pn cs hpn hw1 hw2 hw3 hib hfr
         have hpnb:∀q,some q∈ps.map (·.2)→q.blk≠pn.blk:=fun q hq=>by
          rcases hpn with e|e
          ·have:=hown1 q hq;omega
          ·exact ha.2 pn q e hq
         have hpnb2:∀q,some q∈qs.map (·.2)→q.blk≠pn.blk:=fun q hq e'=>by
          rcases hpn with e|e
          ·have:=hown2 q hq;omega
          ·exact hne (A.inv.inj l l2 _ _ _ _ pn q hH hH2 k1 m1 (.inl e) (.inr hq) e'.symm)
         refine uw (w':=w') A.inv nl nl [l,l2] (.famS a0 e0 (xss++[y])) ⟨.row (qQp a0 e0) (xss++[y]).length (ps++qs),some pn⟩ ⟨ws _,by omega⟩ hf0 hw1 (fun p hp=>?_) (fun _ _ _=>A.ng) (fun k hk hsm=>?_) (fun N' K' _ hk=>?_)
         ·rcases hp with hp|hp
          ·injection hp with hp;subst hp
           rcases hpn with e|e
           ·exact .inr ⟨by omega,hw2⟩
           ·exact .inl ⟨l,by simp,_,_,pn,hH,k1, .inl e,rfl⟩
          ·simp only [Shp.ex,wBa,wR] at hp
           rcases hp with hp|hp
           ·exact .inl ⟨l,by simp,_,_,p,hH,k1, .inr hp,rfl⟩
           ·exact .inl ⟨l2,by simp,_,_,p,hH2,m1, .inr hp,rfl⟩
         ·exact hw3 k hk (fun e e'=>hsm l (by simp) _ _ pn hH k1 (.inl e) e'.symm)
         ·refine ⟨ha0,hf,ps++qs,rfl,?_,cs++ds,hib,?_⟩
          ·rw [wBa]
           exact ha.app hb hcross hpnb hpnb2
          ·exact (hfr.keep ha0 hf (fun q hq=>hw3 _ (hown1 q hq) (fun _=>hpnb q hq))).append (n4.keep ha0 hf (fun q hq=>hw3 _ (hown2 q hq) (fun _=>hpnb2 q hq)))
        by_cases hroom:∃p cs cap,pl=some p∧u= .slice (some ⟨p.blk,p.ob,none⟩) xss.length cap∧xss.length+1≤cap∧p.ob+cap*(a0.sz+1)≤p.bs∧InBlk w p cs∧FamSRd w a0 e0 xss ps cs
        ·obtain ⟨p,cs,cap,rfl,rfl,r1,r2,r3,r4⟩:=hroom
         obtain ⟨_,hcl⟩:=r4.len
         have hmul:=wja (a0.sz+1) r1
         rw [wua] at hmul
         have hst:=run_storeCells_cells (P:=P) p.blk (p.ob+xss.length*(a0.sz+1)) ds 0 w (fun j hj=>r3.is (by omega)) (fun j hj=>r3.free (by omega)) (FamSRd.one n4)
         have hrun:=qwj (ty:=ty) hd hin hz hsz hzs (base:=some ⟨p.blk,p.ob,none⟩) (sLen:=xss.length) (sCap:=cap) hsrc r1 (by simp only [wNa];exact hst)
         obtain ⟨s1,s2,s3,s4,s5⟩:=qmb p.blk ds (p.ob+xss.length*(a0.sz+1)+0) w
         refine ⟨_,_,hrun,_,hnl _ p cs (.inr rfl) ⟨s1,s2,s3,by rw [s4];exact ws _⟩ (by rw [s4];exact r3.lt) (fun k _ h=>s5 k (h rfl)) ?_ r4,?_⟩
         ·have:=r3.move (q:=p.ob) (o:=p.ob+xss.length*(a0.sz+1)+0) (s:=ds) (ds:=cs++ds) (by simp only [wl];omega) (by omega) (by simp only [wl];omega) (fun j v hj=>by
           by_cases hj1:j<cs.length
           ·rw [wha hj1] at hj
            rw [if_pos (by omega)]
            exact ⟨by omega,by rw [←hj];congr 1;omega⟩
           ·rw [wda (by omega)] at hj
            have hj2:=(wZ.1 hj).1
            rw [if_neg (by omega),if_pos (by omega)]
            rw [←hj];congr 1;omega)
          exact this
         ·show RefRd _ _ _ _ _ _ _
          rw [hlen]
          exact ⟨_,some p,⟨_,qRa⟩,by omega,fun _=>⟨rfl,rfl⟩,p.ob,cap,rfl,r1, .inr ⟨by simp,by rw [hszE];simpa using r2⟩⟩
        ·-- a new row
         have hu:∃A0 cap cs,u= .slice A0 xss.length cap∧cap<xss.length+1∧FamSRd w a0 e0 xss ps cs∧(xss.length≠0→∃b o,A0=some ⟨b,o,none⟩∧CellsAt w b o cs):=by
          cases pl with
          |none=>
           obtain ⟨rfl,rfl,rfl⟩:=hm
           exact ⟨none,0,[],rfl,by simp,⟨rfl,rfl⟩,fun h=>absurd rfl h⟩
          |some p=>
           obtain ⟨cs,o,cap,rfl,r1,r2,r3,r4⟩:=hm
           refine ⟨_,cap,cs,rfl,?_,r4,fun h=>?_⟩
           ·apply Nat.lt_of_not_le
            intro hle
            obtain ⟨rfl,r5⟩:=r2.resolve_left (by omega)
            exact hroom ⟨p,cs,cap,rfl,rfl,hle,r5,r3,r4⟩
           ·obtain ⟨rfl,_⟩:=r2.resolve_left (by omega)
            exact ⟨_,_,rfl,r3.cells⟩
         obtain ⟨A0,cap,cs,rfl,r1,r2,r3⟩:=hu
         obtain ⟨_,hcl⟩:=r2.len
         rw [hlen] at c1
         have hrun:=qTr (ty:=ty) hd hin hz hsz hzs (base:=A0) (sLen:=xss.length) (sCap:=cap) (qqk (by omega) r3) hsrc r1 c1 h63
         have hge:=grownCap_ge w (xss.length+1) cap E
         generalize harr:cs.toArray++(ds.toArray++wpa z.cells (grownCap w (xss.length+1) cap E - (xss.length+1)))=arr at hrun
         have hal:arr.toList=(cs++ds)++(wpa z.cells (grownCap w (xss.length+1) cap E - (xss.length+1))).toList:=by rw [←harr];simp
         have hab:=InBlk.new w.drew arr E
         rw [hal] at hab
         refine ⟨_,_,hrun,_,hnl _ ⟨w.heap.size,0,arr.size⟩ cs (.inl rfl) ⟨rfl,rfl,rfl,by rw [qjb];exact Nat.le_succ _⟩ (by rw [qjb];exact wqa _) (fun k hk _=>(qzb w.drew _).2.2.2.2 k hk) hab.front r2,?_⟩
         show RefRd _ _ _ _ _ _ _
         rw [hlen]
         refine qkn (p:=⟨w.heap.size,0,arr.size⟩) rfl hge (.inr ?_)
         rw [←harr]
         simp only [Array.size_append,size_zeroCells,hzs,wLa,hcl,hdl',hszE]
         generalize grownCap w (xss.length+1) cap E=gc at hge ⊢
         have e1:(gc - (xss.length+1))*(a0.sz+1)+(xss.length+1)*(a0.sz+1)=gc*(a0.sz+1):=by rw [←whb,Nat.sub_add_cancel hge]
         rw [wua] at e1
         omega
       ·cases h
     ·cases h
    ·cases h
   ·cases h
  ·cases h
 ·cases h
end
end Go.Ab

/-
  copy, the lesser and the greater: the built-in functions.
-/
set_option linter.unusedVariables false
set_option linter.unusedSimpArgs false
namespace Go.Ab
open Go
section
variable {c:Cx} {P:Program} {GT:qTg} {H lk:qZb} {K:Kn} {w:World} {ev:Operand→TV} {ρ:Operand→Value} {nl:Nat}
theorem qYD (A:Inv c H K w) (hsub:∀l o,lk l=some o→H l=some o) {e:Ty} {x:AV} {v:Value} {fr:Bool} {ys:List (pden e)} (h:qUe lk e x=some (fr,ys)) (hx:VRd w (NN c H K w) K x v):
  ∃cl,Cat (PRd w (NN c H K w fr) e) ys cl∧(∀w',(Builtin.lenOf v).run P w'= .ok ys.length w')∧
   ∀n,n≤ys.length→∀w',w'.heap=w.heap→(wwa e.sz n v).run P w'= .ok (cl.take (n*e.sz)).toArray w':=by
 by_cases hs:∃s,x= .str s
 ·obtain ⟨s,rfl⟩:=hs
  simp only [qUe] at h
  split at h
  ·rename_i he
   subst he
   simp only [wc,wk] at h;obtain ⟨rfl,rfl⟩:=h
   simp only [VRd] at hx;subst hx
   have hl:(qZc s).length=s.size:=by simp [qZc,←ByteArray.size_data]
   refine ⟨_,qLq _,fun w'=>by simp [Builtin.lenOf,hl],fun n hn w' hw=>?_⟩
   simp only [wwa,wE,Ty.sz,Nat.mul_one]
   congr 1
   apply wUa
   rw [←List.map_take,qZc]
   simp only [List.map_map,←List.map_take,Array.toList_map]
   have h7:(s.extract 0 n).data.toList=s.data.toList.take n:=by
    rw [ByteArray.data_extract];simp
   rw [h7];rfl
  ·cases h
 ·have hs':∀s,x≠ .str s:=fun s e=>hs ⟨s,e⟩
  have hsl:=qNr A hsub h hs' hx
  obtain ⟨cl,h1,h2,h3⟩:=hsl.first (P:=P)
  refine ⟨cl,h1,fun w'=>?_,h3⟩
  obtain ⟨A0,cap,rfl,_⟩:=hsl
  rfl
theorem uC (h:Inv c H K w) {l:Nat} {e:Ty} {fr fr2:Bool} (hl:H l=some (.row e fr [])) (hk:K l=some ⟨.row e 0 [],none⟩):Stp c H K w [(l,some (.row e fr2 []))] nl K w:=by
 have hup:∀m,qsb H [(l,some (.row e fr2 []))] m=if l=m then some (.row e fr2 []) else H m:=fun m=>by
  simp only [qsb,lookL];split <;> simp_all
 have hno:∀m o gh p,qsb H [(l,some (.row e fr2 []))] m=some o→K m=some gh→Has gh p→H m=some o:=by
  intro m o gh p h1 h2 h3
  rw [hup] at h1
  split at h1
  ·rename_i e1
   subst e1
   rw [hk] at h2;injection h2 with h2;subst h2;rcases h3 with h3|h3 <;> cases h3
  ·exact h1
 have hlive:∀b,qTb (qsb H [(l,some (.row e fr2 []))]) K b→qTb H K b:=by
  rintro b ⟨m,o,gh,p,h1,h2,h3,h4⟩
  exact ⟨m,o,gh,p,hno m o gh p h1 h2 h3,h2,h3,h4⟩
 have hkk:KeepK w w (NN c H K w) (NN c (qsb H [(l,some (.row e fr2 []))]) K w) K K:=⟨fun f=>⟨fun b hb=>⟨⟨hb.1,fun hn=>hb.2.1 (hlive b hn),hb.2.2⟩,rfl⟩⟩,fun _ _ h=>h⟩
 refine ⟨⟨fun m o hm=>?_,fun m o gh p h1 h2 h3=>h.own m o gh p (hno m o gh p h1 h2 h3) h2 h3,fun m m' o o' gh gh' p p' h1 h2 h3 h4 h5 h6=>h.inj m m' o o' gh gh' p p' (hno m o gh p h1 h3 h5) (hno m' o' gh' p' h2 h4 h6) h3 h4 h5 h6,h.fr⟩,hkk,fun _=> .inl rfl,ws _⟩
 rw [hup] at hm
 split at hm
 ·rename_i e1
  subst e1
  simp only [wc] at hm;subst hm
  exact ⟨_,hk,rfl,rfl⟩
 ·obtain ⟨gh,hg,ho⟩:=h.objs m o hm
  exact ⟨gh,hg,ho.keep hkk (fun _ _=>rfl)⟩
theorem qcr {α:Type} {R:α→List Value→Prop} {n:Nat} (hR:∀x cs,R x cs→cs.length=n) {xs ys:List α} {cs s:List Value} {o:Nat} (h:Cat R xs cs) (hy:Cat R ys s) (ho:o+ys.length≤xs.length):Cat R (qwb xs o ys) (put cs (o*n) s):=by
 have hl:=h.length hR
 have hyl:=hy.length hR
 have:=((h.take hR o).append hy).append (h.drop hR (o+ys.length))
 unfold qwb put
 rw [hyl,←whb]
 exact this
theorem qOl {α:Type} {xs ys:List α} {o:Nat} (ho:o+ys.length≤xs.length):(qwb xs o ys).length=xs.length:=by
 simp [qwb];omega
theorem qcq {T T2 E ty:TypeId} {sz:Nat} (hd:P.underlying T=some (.slice E)) (hsz:(sizeOf E).run P w= .ok sz w) {base:Option Addr} {dLen dCap n:Nat} {x:Value} {cl:List Value}
  (hn:(Builtin.lenOf x).run P w= .ok n w) (hc:(wwa sz (min n dLen) x).run P w= .ok cl.toArray w) {w2:World}
  (hw:(match base with
   |some a=>storeCells a cl
   |none=>pure ()).run P w= .ok () w2):
  (Builtin.copy_ #[T,T2] ty #[.slice base dLen dCap,x]).run P w= .ok (goInt (min n dLen:Nat)) w2:=by
 have hm:Nat.min n dLen=min n dLen:=rfl
 cases base with
 |none=>
  simp [Builtin.copy_,run_underlying hd,hn,hsz,hm,hc] at hw ⊢
  exact hw
 |some a=>
  simp [Builtin.copy_,run_underlying hd,hn,hsz,hm,hc] at hw ⊢
  rw [hw];rfl
theorem InBlk.cut_eq {w:World} {p:Plc} {cs ds:List Value} (h:InBlk w p cs) (k:InBlk w p ds) {o n:Nat} (h1:o+n≤cs.length) (h2:o+n≤ds.length):cut cs o n=cut ds o n:=by
 apply wQa;intro j
 rw [qVk,qVk]
 split
 ·have a:=h.cells (o+j) _ (wx (by omega))
  have b:=k.cells (o+j) _ (wx (by omega))
  rw [a] at b;injection b with b
  rw [wx (by omega),wx (by omega),b]
 ·rfl
theorem qsI (A:At c P GT H lk K w ev ρ nl) {T T2 ty:TypeId} {d x:AV} {u v:Value} (hd:VRd w (NN c H K w) K d u) (hx:VRd w (NN c H K w) K x v) {out:Out} (h:qJd P lk nl .copy [T,T2] [d,x]=some out):
  ∃r w',(Builtin.copy_ #[T,T2] ty #[u,v]).run P w= .ok r w'∧Lands c H K w nl out r w':=by
 simp only [qJd] at h
 split at h
 ·rename_i e he
  have hT:qod P tyD T=some (.slice e):=by
   unfold qJm at he
   split at he
   ·rename_i e' h';simp only [wc] at he;subst he;exact h'
   ·cases he
  obtain ⟨m0,E,_,hdT,hE⟩:=qpc hT
  have hsz:(sizeOf E).run P w= .ok e.sz w:=qLb hE
  split at h
  ·rename_i fr ys hcon
   obtain ⟨cl,y1,y2,y3⟩:=qYD (P:=P) A.inv A.sub hcon hx
   split at h
   ·rename_i e' l off len wh
    split at h
    ·rename_i he'
     subst he'
     split at h
     ·rename_i fr' xs hrow
      simp only [wc] at h;subst h
      have hlk:=A.sub _ _ (qdc hrow)
      obtain ⟨h1,h2,h3,h4⟩:=qgn A.inv hlk hd
      have y3':=y3 (min ys.length len) (Nat.min_le_left _ _) w rfl
      have y1':=y1.take (n:=e'.sz) (fun _ _=>PRd.length) (min ys.length len)
      have y1l:=y1'.length (n:=e'.sz) (fun _ _=>PRd.length)
      have ytl:(ys.take (min ys.length len)).length=min ys.length len:=by simp
      rcases h4 with ⟨rfl,q2,rfl,rfl⟩|⟨p,cs,o,cap,q1,rfl,q3,q4,q5,q6⟩
      ·have:=qcq (ty:=ty) (T2:=T2) hdT hsz (base:=none) (dLen:=0) (dCap:=0) (y2 w) y3' (w2:=w) rfl
       refine ⟨_,w,this,K,?_,rfl⟩
       have hspl:qwb ([]:List (pden e')) off (ys.take (min ys.length 0))=[]:=by simp [qwb]
       simp only [hspl]
       exact uC A.inv hlk q2
      ·have hcap0:cap=0→len=0:=fun hc=>by omega
       by_cases hcap:cap=0
       ·have hl0:=hcap0 hcap
        subst hl0
        have:=qcq (ty:=ty) (T2:=T2) hdT hsz (base:=some ⟨p.blk,o,none⟩) (dLen:=0) (dCap:=cap) (y2 w) y3' (w2:=w) (by simp [storeCells])
        refine ⟨_,w,this,K,?_,rfl⟩
        have hspl:qwb xs off (ys.take (min ys.length 0))=xs:=by simp [qwb]
        simp only [hspl]
        exact Stp.write A.inv nl l _ _ _ p hlk q1 (.inl rfl) ⟨rfl,rfl,rfl,rfl,fun _ _=>rfl⟩ (fun N' K' hN hk=>⟨rfl,cs,q5,q6.imp (fun _ _ q=>q.keep ⟨fun b hb=>⟨by cases fr' <;> cases fr <;> first|exact ((hk.n _).k b hb).1|exact hN b ((hk.n _).k b hb).1,rfl⟩⟩)⟩)
       ·obtain ⟨rfl,q4⟩:=q4.resolve_left hcap
        have hxl:=q6.length (n:=e'.sz) (fun _ _=>PRd.length)
        rw [ytl] at y1l
        have hm2:(off+min ys.length len)*e'.sz≤xs.length*e'.sz:=wja _ (by omega)
        rw [whb] at hm2
        obtain ⟨_,_,_,_,_,_,q5b,_⟩:=id q5
        have hst:=run_storeCells_cells (P:=P) p.blk (p.ob+off*e'.sz) (cl.take (min ys.length len*e'.sz)) 0 w (fun j hj=>q5.is (by omega)) (fun j hj=>q5.free (by omega)) (y1'.one (fun _ _=>PRd.one))
        have:=qcq (ty:=ty) (T2:=T2) hdT hsz (base:=some ⟨p.blk,p.ob+off*e'.sz,none⟩) (dLen:=len) (dCap:=cap) (y2 w) y3' (w2:=_) hst
        obtain ⟨s1,s2,s3,s4,s5⟩:=qmb p.blk (cl.take (min ys.length len*e'.sz)) (p.ob+off*e'.sz+0) w
        refine ⟨_,_,this,K,?_,rfl⟩
        refine Stp.write A.inv nl l _ _ _ p hlk q1 (.inl rfl) ⟨s1,s2,s3,s4,s5⟩ (fun N' K' hN hk=>⟨?_,put cs (off*e'.sz) (cl.take (min ys.length len*e'.sz)),?_,?_⟩)
        ·rw [qOl (by omega)]
        ·exact q5.write (by omega)
        ·refine qcr (fun _ _=>PRd.length) ?_ ?_ (by omega)
         ·exact q6.imp (fun _ _ q=>q.keep ⟨fun b hb=>⟨by cases fr' <;> cases fr <;> first|exact ((hk.n _).k b hb).1|exact hN b ((hk.n _).k b hb).1,((hk.n _).k b hb).2⟩⟩)
         ·exact y1'.imp (fun _ _ q=>q.keep ⟨fun b hb=>⟨by cases fr' <;> cases fr <;> first|exact ((hk.n _).k b hb).1|exact hN b ((hk.n _).k b hb).1,((hk.n _).k b hb).2⟩⟩)
     ·cases h
    ·cases h
   ·rename_i e' l p m off len
    split at h
    ·rename_i he'
     subst he'
     split at h
     ·rename_i obj hlk
      split at h
      ·rename_i t y hg
       split at h
       ·rename_i ht
        subst ht
        split at h
        ·rename_i obj' hset
         simp only [wc] at h;subst h
         obtain ⟨sh,pl,po,k1,k2,k3,o,cap,rfl,h5,h6⟩:=hd
         have hl:=A.sub _ _ hlk
         obtain ⟨gh,g1,g2⟩:=A.inv.objs l _ hl
         rw [k1] at g1;injection g1 with g1;subst g1
         obtain ⟨cs,e2,e3,e4⟩:=g2.box_get ui k2 hg
         obtain ⟨hyl,hyc⟩:=e4
         have y3':=y3 (min ys.length len) (Nat.min_le_left _ _) w rfl
         have y1':=y1.take (n:=e'.sz) (fun _ _=>PRd.length) (min ys.length len)
         have y1l:=y1'.length (n:=e'.sz) (fun _ _=>PRd.length)
         have ytl:(ys.take (min ys.length len)).length=min ys.length len:=by simp
         rw [ytl] at y1l
         have hm2:(off+min ys.length len)*e'.sz≤m*e'.sz:=wja _ (by omega)
         rw [whb] at hm2
         have hy2:ARd w (NN c H K w) K (.arr m e') (qwb y off (ys.take (min ys.length len))) (put (cut cs po (m*e'.sz)) (off*e'.sz) (cl.take (min ys.length len*e'.sz))):=by
          refine ⟨by rw [qOl (by omega)];exact hyl,qcr (fun _ _=>PRd.length) hyc ?_ (by omega)⟩
          exact y1'.imp (fun _ _ q=>q.keep ⟨fun b hb=>⟨by cases fr <;> first|exact hb|exact ui b hb,rfl⟩⟩)
         obtain ⟨cs2,b1,b2,b3⟩:=qIu (w:=w) (N:=NN c H K w) ui g2 k2 hy2 hset
         have hcc:=e2.cut_eq b1 (o:=po) (n:=(Ty.arr m e').sz) e3 b2
         have hszm:(Ty.arr m e').sz=m*e'.sz:=rfl
         rw [hszm] at hcc b2 e3
         rw [hcc,qKC (by omega) (by omega)] at b3
         have hle:min ys.length len=0∨cap≠0:=by omega
         have hst:(storeCells ⟨pl.blk,o,none⟩ (cl.take (min ys.length len*e'.sz))).run P w= .ok () (w.setCells pl.blk (pl.ob+(po+off*e'.sz)) (cl.take (min ys.length len*e'.sz))):=by
          rcases hle with hle|hle
          ·rw [hle];simp [storeCells,World.setCells]
          ·obtain rfl:=h6.resolve_left hle
           have hcl3:pl.ob+cs2.length≤pl.bs:=by obtain ⟨_,_,_,_,_,_,q,_⟩:=id b1;exact q
           have:=run_storeCells_cells (P:=P) pl.blk (pl.ob+po+off*e'.sz) (cl.take (min ys.length len*e'.sz)) 0 w (fun j hj=>b1.is (by omega)) (fun j hj=>b1.free (by omega)) (y1'.one (fun _ _=>PRd.one))
           rw [show pl.ob+(po+off*e'.sz)=pl.ob+po+off*e'.sz+0 by omega]
           exact this
         have:=qcq (ty:=ty) (T2:=T2) hdT hsz (base:=some ⟨pl.blk,o,none⟩) (dLen:=len) (dCap:=cap) (y2 w) y3' (w2:=_) hst
         obtain ⟨s1,s2,s3,s4,s5⟩:=qmb pl.blk (cl.take (min ys.length len*e'.sz)) (pl.ob+(po+off*e'.sz)) w
         refine ⟨_,_,this,K,?_,rfl⟩
         exact Stp.write A.inv nl l _ _ _ pl hl k1 k2.has ⟨s1,s2,s3,s4,s5⟩ (fun N' K' hN hk=>b3 _ N' K' hN hk (fun q _ hq=>s5 _ hq) (b1.write (by omega)))
        ·cases h
       ·cases h
      ·cases h
     ·cases h
    ·cases h
   ·simp only [Ab.one,wc] at h;subst h
    simp only [VRd] at hd;subst hd
    have y3':=y3 (min ys.length 0) (Nat.min_le_left _ _) w rfl
    have:=qcq (ty:=ty) (T2:=T2) hdT hsz (base:=none) (dLen:=0) (dCap:=0) (y2 w) y3' (w2:=w) rfl
    refine ⟨_,w,this,Lands.one A.inv ?_⟩
    simp only [Nat.min_zero];rfl
   ·cases h
  ·cases h
 ·cases h
theorem qUy (A:At c P GT H lk K w ev ρ nl) {T T2 E ty:TypeId} {i:TypeInfo} {z:Value} {e:Ty} (hd:P.underlying T=some (.slice E)) {E2:TypeId} (hd2:P.underlying T2=some (.slice E2)) (hin:P.info? E=some i) (hz:i.zero=some z) (hsz:i.size=e.sz) (hzs:z.cells.size=e.sz) (h63:0<i.bytes)
  {s x:AV} {u v:Value} (hs:VRd w (NN c H K w) K s u) (hx:VRd w (NN c H K w) K x v) {out:Out} (h:qlD lk e s x nl i.bytes=some out) (hc:qfg out.conds):
  ∃r w',(wra #[T,T2] ty #[u,v]).run P w= .ok r w'∧Lands c H K w nl out r w':=by
 unfold qlD at h
 split at h
 ·rename_i e2 l2 off2 len2
  split at h
  ·rename_i e1 ys hlk2
   split at h
   ·rename_i he
    subst he
    split at h
    ·rename_i he2
     subst he2
     split at h
     ·rename_i o' hap
      simp only [wc] at h;subst h
      have hH2:=A.sub _ _ hlk2
      obtain ⟨rfl,rfl,hf,qs,ql,m1,hb,hm2⟩:=qhz A.inv hH2 hx
      have S1:=Stp.kill A.inv nl [l2]
      have A1:At c P GT (qsb H (Ab.kill [l2])) (fun l=>if l=l2 then none else lk l) K w (fun _=> .one .undef) ρ nl:=by
       refine ⟨S1.inv,fun l o hl=>?_,fun _=>trivial,A.fresh,A.ng,A.glob,A.gng⟩
       split at hl
       ·cases hl
       ·rename_i hne
        simp only [qsb,Ab.kill,wJ,wKa,lookL]
        rw [if_neg (wGa hne)]
        exact A.sub _ _ hl
      have hsrc:∃ds,Src P w E T2 (Ty.slice e1).sz z.cells v ys.length ds∧Cat (PRd w (NN c (qsb H (Ab.kill [l2])) K w true) (.slice e1)) ys ds:=by
       cases ql with
       |none=>
        obtain ⟨rfl,rfl,rfl⟩:=hm2
        exact ⟨[], .given (.inl ⟨E2,hd2⟩) (fun w'=>rfl) (qqk (by simp) (fun h=>absurd rfl h)),rfl⟩
       |some p=>
        obtain ⟨cs,o,cap,rfl,r1,r2,r3,r4⟩:=hm2
        refine ⟨cs, .given (.inl ⟨E2,hd2⟩) (fun w'=>rfl) (qqk (by rw [r4.len.2];simp [Ty.sz]) (fun h=>?_)),r4.cat hf (fun q hq=>NN.kill A.inv hH2 m1 (.inr hq) (by simp) true)⟩
        obtain ⟨rfl,_⟩:=r2.resolve_left (by omega)
        exact ⟨_,_,rfl,r3.cells⟩
      obtain ⟨ds,h1,h2⟩:=hsrc
      obtain ⟨r,w',g1,K',g2,g3⟩:=qOh (ty:=ty) A1 hd hin hz hsz hzs h63 (hs.keep S1.keep) h1 h2 rfl hap hc
      refine ⟨r,w',g1,K',S1.trans g2,?_⟩
      have:=qXg H o'.upd (Ab.kill [l2])
      show TVRd w' (NN c (qsb H (o'.upd++Ab.kill [l2])) K' w') K' o'.v r
      rw [this];exact g3
     ·cases h
    ·cases h
   ·cases h
  ·cases h
 ·cases h
theorem qZw (A:At c P GT H lk K w ev ρ nl) {T T2 E ty:TypeId} {i:TypeInfo} {z:Value} {e:Ty} (hd:P.underlying T=some (.slice E)) {E2:TypeId} (hd2:P.underlying T2=some (.slice E2)) (hin:P.info? E=some i) (hz:i.zero=some z) (hsz:i.size=e.sz) (hzs:z.cells.size=e.sz) (h63:0<i.bytes)
  {s x:AV} {u v:Value} (hs:VRd w (NN c H K w) K s u) (hx:VRd w (NN c H K w) K x v) {out:Out} (h:qjz lk e s x nl i.bytes=some out) (hc:qfg out.conds):
  ∃r w',(wra #[T,T2] ty #[u,v]).run P w= .ok r w'∧Lands c H K w nl out r w':=by
 unfold qjz at h
 split at h
 ·rename_i e2 l2 off2 len2
  split at h
  ·rename_i a1 e1 ys hlk2
   split at h
   ·rename_i he
    subst he
    split at h
    ·rename_i he2
     subst he2
     split at h
     ·rename_i o' hap
      simp only [wc] at h;subst h
      have hH2:=A.sub _ _ hlk2
      obtain ⟨rfl,rfl,⟨ha0,hf⟩,qs,ql,m1,hb,hm2⟩:=qJv A.inv hH2 hx
      have S1:=Stp.kill A.inv nl [l2]
      have A1:At c P GT (qsb H (Ab.kill [l2])) (fun l=>if l=l2 then none else lk l) K w (fun _=> .one .undef) ρ nl:=by
       refine ⟨S1.inv,fun l o hl=>?_,fun _=>trivial,A.fresh,A.ng,A.glob,A.gng⟩
       split at hl
       ·cases hl
       ·rename_i hne
        simp only [qsb,Ab.kill,wJ,wKa,lookL]
        rw [if_neg (wGa hne)]
        exact A.sub _ _ hl
      have hsrc:∃ds,Src P w E T2 (qQp a1 e1).sz z.cells v (qxi ys).length ds∧Cat (PRd w (NN c (qsb H (Ab.kill [l2])) K w true) (qQp a1 e1)) (qxi ys) ds:=by
       cases ql with
       |none=>
        obtain ⟨rfl,rfl,rfl⟩:=hm2
        exact ⟨[], .given (.inl ⟨E2,hd2⟩) (fun w'=>rfl) (qqk (by simp [qxi]) (fun h=>absurd rfl h)),rfl⟩
       |some p=>
        obtain ⟨cs,o,cap,rfl,r1,r2,r3,r4⟩:=hm2
        rw [qwi]
        refine ⟨cs, .given (.inl ⟨E2,hd2⟩) (fun w'=>rfl) (qqk (by rw [r4.len.2];rfl) (fun h=>?_)),r4.cat ha0 hf (fun q hq=>NN.kill A.inv hH2 m1 (.inr hq) (by simp) true)⟩
        obtain ⟨rfl,_⟩:=r2.resolve_left (by omega)
        exact ⟨_,_,rfl,r3.cells⟩
      obtain ⟨ds,h1,h2⟩:=hsrc
      obtain ⟨r,w',g1,K',g2,g3⟩:=qOh (ty:=ty) A1 hd hin hz hsz hzs h63 (hs.keep S1.keep) h1 h2 rfl hap hc
      refine ⟨r,w',g1,K',S1.trans g2,?_⟩
      have:=qXg H o'.upd (Ab.kill [l2])
      show TVRd w' (NN c (qsb H (o'.upd++Ab.kill [l2])) K' w') K' o'.v r
      rw [this];exact g3
     ·cases h
    ·cases h
   ·cases h
  ·cases h
 ·cases h
theorem qeu {T E ty:TypeId} {z:Value} (hd:P.underlying T=some (.slice E)) (hz:(zeroValue E).run P w= .ok z w) {base:Option Addr} {n cap:Nat} {w2:World}
  (hw:n≠0→∃a,base=some a∧(storeCells a (wpa z.cells n).toList).run P w= .ok () w2) (h0:n=0→w2=w):
  (Builtin.clear_ #[T] ty #[.slice base n cap]).run P w= .ok (.tuple #[]) w2:=by
 cases n with
 |zero=>
  rw [h0 rfl]
  cases base <;> simp [Builtin.clear_,run_underlying hd]
 |succ n=>
  obtain ⟨a,rfl,h⟩:=hw (by omega)
  simp [Builtin.clear_,run_underlying hd,hz,h]
theorem qbG (A:At c P GT H lk K w ev ρ nl) {T ty:TypeId} {e:Ty} {l off n:Nat} {wh:Bool} {u:Value} (hd:VRd w (NN c H K w) K (.ref e l off n wh) u) {out:Out} (h:qJd P lk nl .clear [T] [.ref e l off n wh]=some out):
  ∃r w',(Builtin.clear_ #[T] ty #[u]).run P w= .ok r w'∧Lands c H K w nl out r w':=by
 simp only [qJd] at h
 split at h
 ·rename_i E hdT
  split at h
  ·rename_i hq
   split at h
   ·rename_i fr' xs hrow
    simp only [wc] at h;subst h
    obtain ⟨z,hz1,hz2,i,hi1,hi2⟩:=qge (P:=P) (w:=w) hq.2
    have hzs:z.cells.size=e.sz:=by
     have:=(qaf (w:=w) (N:=fun _=>True) (t:=e)).length
     rw [←hz2] at this;simpa using this
    have hlk:=A.sub _ _ (qdc hrow)
    obtain ⟨h1,h2,h3,h4⟩:=qgn A.inv hlk hd
    rcases h4 with ⟨rfl,q2,rfl,rfl⟩|⟨p,cs,o,cap,q1,rfl,q3,q4,q5,q6⟩
    ·refine ⟨_,w,qeu hdT hz1 (fun h=>absurd rfl h) (fun _=>rfl),K,?_,[],rfl,rfl⟩
     have hspl:qwb ([]:List (pden e)) off (wn 0 (qua e))=[]:=by simp [qwb]
     simp only [hspl]
     exact uC A.inv hlk q2
    ·by_cases hn0:n=0
     ·subst hn0
      refine ⟨_,w,qeu hdT hz1 (fun h=>absurd rfl h) (fun _=>rfl),K,?_,[],rfl,rfl⟩
      have hspl:qwb xs off (wn 0 (qua e))=xs:=by simp [qwb]
      simp only [hspl]
      exact Stp.write A.inv nl l _ _ _ p hlk q1 (.inl rfl) ⟨rfl,rfl,rfl,rfl,fun _ _=>rfl⟩ (fun N' K' hN hk=>⟨rfl,cs,q5,q6.imp (fun _ _ q=>q.keep (hk.n _))⟩)
     ·obtain ⟨rfl,q4⟩:=q4.resolve_left (by omega)
      have hxl:=q6.length (n:=e.sz) (fun _ _=>PRd.length)
      have hm2:(off+n)*e.sz≤xs.length*e.sz:=wja _ h2
      rw [whb] at hm2
      have hcat:∀{N:Nat→Prop},Cat (PRd w N e) (wn n (qua e)) (wpa z.cells n).toList:=by
       intro N
       rw [qCk]
       exact qwq (by rw [hz2];exact qaf) _
      have hcl:=(hcat (N:=fun _=>False)).length (n:=e.sz) (fun _ _=>PRd.length)
      rw [wX] at hcl
      obtain ⟨_,_,_,_,_,_,q5b,_⟩:=id q5
      have hst:=run_storeCells_cells (P:=P) p.blk (p.ob+off*e.sz) (wpa z.cells n).toList 0 w (fun j hj=>q5.is (by omega)) (fun j hj=>q5.free (by omega)) ((hcat (N:=fun _=>False)).one (fun _ _=>PRd.one))
      obtain ⟨s1,s2,s3,s4,s5⟩:=qmb p.blk (wpa z.cells n).toList (p.ob+off*e.sz+0) w
      refine ⟨_,_,qeu hdT hz1 (fun _=>⟨_,rfl,hst⟩) (fun h=>absurd h hn0),K,?_,[],rfl,rfl⟩
      refine Stp.write A.inv nl l _ _ _ p hlk q1 (.inl rfl) ⟨s1,s2,s3,s4,s5⟩ (fun N' K' hN hk=>⟨?_,put cs (off*e.sz) (wpa z.cells n).toList,?_,?_⟩)
      ·rw [qOl (by simp;omega)]
      ·exact q5.write (by omega)
      ·refine qcr (fun _ _=>PRd.length) (q6.imp (fun _ _ q=>q.keep (hk.n _))) ?_ (by simp;omega)
       exact (hcat (N:=fun _=>False)).imp (fun _ _ q=>q.keep ⟨fun b hb=>hb.elim⟩)
   ·cases h
  ·cases h
 ·cases h
theorem qwD (A:At c P GT H lk K w ev ρ nl) {T T2 ty:TypeId} {s x:AV} {u v:Value} (hs:VRd w (NN c H K w) K s u) (hx:VRd w (NN c H K w) K x v) {out:Out} (h:qJd P lk nl .append [T,T2] [s,x]=some out) (hc:qfg out.conds):
  ∃r w',(wra #[T,T2] ty #[u,v]).run P w= .ok r w'∧Lands c H K w nl out r w':=by
 simp only [qJd] at h
 split at h
 ·rename_i e he
  have hT:qod P tyD T=some (.slice e):=by
   unfold qJm at he
   split at he
   ·rename_i e' h';simp only [wc] at he;subst he;exact h'
   ·cases he
  obtain ⟨m0,E,_,hdT,hE⟩:=qpc hT
  split at h
  ·rename_i hok
   unfold qSJ at hok
   rw [hdT] at hok
   simp only [wz,decide_eq_true_eq] at hok
   obtain ⟨⟨hz,hb0⟩,hs0⟩:=hok
   obtain ⟨z,hz1,hz2,i,hi1,hi2⟩:=qge (P:=P) (w:=w) hz
   obtain ⟨_,_,i',_,_,_,_,hi3,hi4⟩:=qHc hE
   rw [hi1] at hi3;injection hi3 with hi3;subst hi3
   have hby:P.bytesOf E=i.bytes:=by simp [Program.bytesOf,hi1]
   have hzs:z.cells.size=e.sz:=by
    have:=(qaf (w:=w) (N:=fun _=>True) (t:=e)).length
    rw [←hz2] at this;simpa using this
   have heb:qGd P T=i.bytes:=by unfold qGd;rw [hdT];exact hby
   rw [heb] at h
   split at h
   ·rename_i k hd2
    split at h
    ·rename_i n hn
     split at h
     ·rename_i o ho
      simp only [wc] at h;subst h
      obtain ⟨c1,c2,c3,c4⟩:=hc
      have hxx:∃k',x= .int k' n:=by
       cases x <;> simp [qup] at hn
       subst hn;exact ⟨_,rfl⟩
      obtain ⟨k',rfl⟩:=hxx
      simp only [VRd] at hx;subst hx
      obtain ⟨r,w',h1,h2⟩:=qOh (ty:=ty) A hdT hi1 hi2 hi4 hzs (by omega) hs (Src.zeros k k' n hd2 rfl c1 c3 (by rw [hby];exact c2) rfl rfl) (ys:=wn n.toNat (qua e)) (fr:=true) (qwq (by rw [hz2];exact qaf) _) (by simp) ho c4
      exact ⟨r,w',h1,h2⟩
     ·cases h
    ·cases h
   ·rename_i e2 hd2
    split at h
    ·cases h
    ·split at h
     ·rename_i o' hfa
      simp only [wc] at h;subst h
      exact qeB A hdT hd2 hi1 hi2 hi4 hzs (by omega) hs hx hfa hc
     split at h
     ·rename_i o' hfa
      simp only [wc] at h;subst h
      exact qTy A hdT hd2 hi1 hi2 hi4 hzs (by omega) hs hx hfa hc
     split at h
     ·rename_i o' hfd
      simp only [wc] at h;subst h
      exact qZw A hdT hd2 hi1 hi2 hi4 hzs (by omega) hs hx hfd hc
     split at h
     ·rename_i o' hfd
      simp only [wc] at h;subst h
      exact qUy A hdT hd2 hi1 hi2 hi4 hzs (by omega) hs hx hfd hc
     split at h
     ·rename_i fr ys hcon
      obtain ⟨cl,y1,y2,y3⟩:=qYD (P:=P) A.inv A.sub hcon hx
      have hy1l:=y1.length (n:=e.sz) (fun _ _=>PRd.length)
      exact qOh (ty:=ty) A hdT hi1 hi2 hi4 hzs (by omega) hs (Src.given (.inl ⟨e2,hd2⟩) y2 (fun w' hw=>by
       have:=y3 ys.length (ws _) w' hw
       rwa [←hy1l,wOa] at this)) y1 rfl h hc
     ·cases h
   ·rename_i hd2
    split at h
    ·split at h
     ·rename_i fr ys hcon
      obtain ⟨cl,y1,y2,y3⟩:=qYD (P:=P) A.inv A.sub hcon hx
      have hy1l:=y1.length (n:=e.sz) (fun _ _=>PRd.length)
      exact qOh (ty:=ty) A hdT hi1 hi2 hi4 hzs (by omega) hs (Src.given (.inr hd2) y2 (fun w' hw=>by
       have:=y3 ys.length (ws _) w' hw
       rwa [←hy1l,wOa] at this)) y1 rfl h hc
     ·cases h
    ·cases h
   ·cases h
  ·cases h
 ·cases h
theorem qJB (A:At c P GT H lk K w ev ρ nl) {o:Oper} {b:Builtin} {args:Array Operand} {ats:Array TypeId} (ho:o.op= .call {callee:= .builtin b,args:=args,argTypes:=ats}) {orc:Option COrc} {out:Out} (h:qGb P GT ev lk nl orc o.type o.op=some out) (hc:qfg out.conds):
  Does P o ρ w (Lands c H K w nl out):=by
 rw [ho] at h
 simp only [qGb] at h
 split at h
 ·rename_i vs hvs
  have hv:=qYx A hvs
  obtain ⟨cn,hex⟩:=qts (w:=w) (ρ:=ρ) (P:=P) ho
  have hl2:(args.map ρ)=(args.toList.map ρ).toArray:=by apply wUa;simp
  have fin:∀(m:Sem Value),(builtin b ats o.type cn (args.map ρ)).run P w=(do let v ←m;pure (Next.value v):Sem Next).run P w→(∃r w',m.run P w= .ok r w'∧Lands c H K w nl out r w')→Does P o ρ w (Lands c H K w nl out):=by
   rintro m h1 ⟨r,w',h2,h3⟩
   refine Does.value (v:=r) (w':=w') ?_ h3
   rw [hex,h1]
   simp [h2]
  unfold qJd at h
  split at h
  ·rename_i T hats
   have hat:ats=#[T]:=by apply wUa;simpa using hats
   subst hat
   obtain ⟨u,hu,hr⟩:=hv.one_inv
   split at h
   ·rename_i E hd
    simp only [Ab.one,wc] at h;subst h
    simp only [VRd] at hr;subst hr
    exact fin (Builtin.cap_ #[T] o.type #[.slice none 0 0]) (by rw [hl2,hu];rfl) ⟨.int .i64 0,w,by simp [Builtin.cap_,run_underlying hd,goInt],Lands.one A.inv rfl⟩
   ·cases h
  ·rename_i T x hats
   have hat:ats=#[T]:=by apply wUa;simpa using hats
   subst hat
   obtain ⟨u,hu,hr⟩:=hv.one_inv
   split at h
   ·rename_i v hlen
    simp only [Ab.one,wc] at h;subst h
    obtain ⟨r,h1,h2⟩:=qRG (ty:=o.type) A hr hlen
    exact fin (Builtin.len_ #[T] o.type #[u]) (by rw [hl2,hu];rfl) ⟨r,w,h1,Lands.one A.inv h2⟩
   ·cases h
  ·rename_i T T2 s x hats
   have hat:ats=#[T,T2]:=by apply wUa;simpa using hats
   subst hat
   obtain ⟨u,v,hu,hr1,hr2⟩:=hv.two_inv
   exact fin (wra #[T,T2] o.type #[u,v]) (by rw [hl2,hu];rfl) (qwD A hr1 hr2 (by simpa only [qJd] using h) hc)
  ·rename_i T T2 s x hats
   have hat:ats=#[T,T2]:=by apply wUa;simpa using hats
   subst hat
   obtain ⟨u,v,hu,hr1,hr2⟩:=hv.two_inv
   exact fin (Builtin.copy_ #[T,T2] o.type #[u,v]) (by rw [hl2,hu];rfl) (qsI A hr1 hr2 (by simpa only [qJd] using h))
  ·rename_i T l hats
   have hat:ats=#[T]:=by apply wUa;simpa using hats
   subst hat
   obtain ⟨u,hu,hr⟩:=hv.one_inv
   split at h
   ·rename_i KT E hd
    split at h
    ·rename_i k v es hlk
     simp only [wc] at h;subst h
     obtain ⟨sh,pl,k1,rfl⟩:=hr
     obtain ⟨gh,hK,hgs,p,en,clock,hgp,hb,hfk,hfv,hM⟩:=A.inv.objs _ _ (A.sub _ _ hlk)
     rw [k1] at hK
     injection hK with hK;subst hK
     injection hgp with hgp;subst hgp
     simp only at hgs;subst hgs
     have hlt:pl.blk<w.heap.size:=(A.inv.own l _ _ pl (A.sub _ _ hlk) k1 (.inl rfl)).1
     refine fin (Builtin.clear_ #[T] o.type #[.map (some pl.blk)]) (by rw [hl2,hu];rfl) ⟨.tuple #[],{w with heap:=w.heap.setIfInBounds pl.blk (.map #[] clock)},?_,K,?_,?_⟩
     ·have hg:(getObj pl.blk).run P w= .ok (.map en clock) w:=by simp [getObj,Sem.run,hb]
      have hs:∀ob,(setObj pl.blk ob).run P w= .ok () {w with heap:=w.heap.setIfInBounds pl.blk ob}:=fun ob=>by simp [setObj,Sem.run,hb]
      simp [Builtin.clear_,run_underlying hd,hg,hs]
     ·exact Stp.write (w':={w with heap:=w.heap.setIfInBounds pl.blk (.map #[] clock)}) A.inv nl l _ (.map k v []) ⟨.map k v,some pl⟩ pl (A.sub _ _ hlk) k1 (.inl rfl)
       ⟨rfl,rfl,rfl,by simp,fun q hq=>by simp [Array.getElem?_setIfInBounds,wGa hq]⟩
       (fun N' K' _ hkk=>⟨rfl,pl,#[],clock,rfl,by simp [hlt],hfk,hfv,rfl⟩)
     ·exact ⟨[],rfl,rfl⟩
    ·cases h
   ·cases h
  ·rename_i T e l off n wh hats
   have hat:ats=#[T]:=by apply wUa;simpa using hats
   subst hat
   obtain ⟨u,hu,hr⟩:=hv.one_inv
   exact fin (Builtin.clear_ #[T] o.type #[u]) (by rw [hl2,hu];rfl) (qbG A hr (by simpa only [qJd] using h))
  ·rename_i l hat
   obtain ⟨u,hu,hr⟩:=hv.one_inv
   split at h
   ·rename_i e fr cap xs hlk
    simp only [wc] at h;subst h
    obtain ⟨sh,pl,k1,rfl⟩:=hr
    obtain ⟨gh,hK,hgs,p,buf,s,r,hgp,hb,hC⟩:=A.inv.objs _ _ (A.sub _ _ hlk)
    rw [k1] at hK
    injection hK with hK;subst hK
    injection hgp with hgp;subst hgp
    simp only at hgs;subst hgs
    have hlt:pl.blk<w.heap.size:=(A.inv.own l _ _ pl (A.sub _ _ hlk) k1 (.inl rfl)).1
    refine fin (Builtin.close_ ats o.type #[.chan (some pl.blk)]) (by rw [hl2,hu];rfl) ⟨.tuple #[],{w with heap:=w.heap.setIfInBounds pl.blk (.chan cap buf true s r false)},?_,?_⟩
    ·have hg:(getObj pl.blk).run P w= .ok (.chan cap buf false s r false) w:=by simp [getObj,Sem.run,hb]
     have hs:∀ob,(setObj pl.blk ob).run P w= .ok () {w with heap:=w.heap.setIfInBounds pl.blk ob}:=fun ob=>by simp [setObj,Sem.run,hb]
     delta Builtin.close_
     refine (wu ..).trans ?_
     rw [hg]
     refine (wu ..).trans ?_
     rw [hs]
     rfl
    ·have S:=Stp.write (w':={w with heap:=w.heap.setIfInBounds pl.blk (.chan cap buf true s r false)}) A.inv nl l _ (.chan e fr cap xs true) ⟨.chan e cap,some pl⟩ pl (A.sub _ _ hlk) k1 (.inl rfl)
       ⟨rfl,rfl,rfl,by simp,fun q hq=>by simp [Array.getElem?_setIfInBounds,wGa hq]⟩
       (fun N' K' hk hkk=>⟨rfl,pl,buf,s,r,rfl,by simp [hlt],hC.keep (hkk.n fr)⟩)
     exact ⟨K,S,⟨[],rfl,rfl⟩⟩
   ·cases h
  ·rename_i _ k a k' b'
   obtain ⟨u,v,hu,hr1,hr2⟩:=hv.two_inv
   split at h
   ·rename_i hk
    subst hk
    simp only [Ab.one,wc] at h;subst h
    simp only [VRd] at hr1 hr2;subst hr1;subst hr2
    exact fin (Builtin.min_ ats o.type #[.int k a, .int k b']) (by rw [hl2,hu];rfl) ⟨_,w,by simp [Builtin.min_,Builtin.min2],Lands.one A.inv rfl⟩
   ·cases h
  ·rename_i _ k a k' b'
   obtain ⟨u,v,hu,hr1,hr2⟩:=hv.two_inv
   split at h
   ·rename_i hk
    subst hk
    simp only [Ab.one,wc] at h;subst h
    simp only [VRd] at hr1 hr2;subst hr1;subst hr2
    exact fin (Builtin.max_ ats o.type #[.int k a, .int k b']) (by rw [hl2,hu];rfl) ⟨_,w,by simp [Builtin.max_,Builtin.max2],Lands.one A.inv rfl⟩
   ·cases h
  ·cases h
 ·cases h
end
end Go.Ab

/-
  Calls: what is handed over, what comes back.
-/
set_option linter.unusedVariables false
set_option linter.unusedSimpArgs false
namespace Go.Ab
open Go
theorem qop {w:World} {N:Bool→Nat→Prop} {f:Nat→Nat} {K K':Kn}:∀{t:Ty} {x:qke t} {cs:List Value},(∀k∈qUs t x,K' k=K (f k))→(ARd w N K t (qpK f t x) cs↔ARd w N K' t x cs)
 | .int _,_,_,_=>Iff.rfl
 | .bool,_,_,_=>Iff.rfl
 | .str,_,_,_=>Iff.rfl
 | .arr _ _,_,_,_=>Iff.rfl
 | .pair a b,x,cs,h=>by
   simp only [qUs,wR] at h
   simp only [qpK,ARd]
   constructor
   ·rintro ⟨c1,c2,e,h1,h2⟩
    exact ⟨c1,c2,e,(qop (fun k hk=>h k (.inl hk))).1 h1,(qop (fun k hk=>h k (.inr hk))).1 h2⟩
   ·rintro ⟨c1,c2,e,h1,h2⟩
    exact ⟨c1,c2,e,(qop (fun k hk=>h k (.inl hk))).2 h1,(qop (fun k hk=>h k (.inr hk))).2 h2⟩
 | .unit,_,_,_=>Iff.rfl
 | .slice e,x,cs,h=>by
   cases x with
   |pure fr xs=>exact Iff.rfl
   |nil=>exact Iff.rfl
   |junk=>exact Iff.rfl
   |lng n=>exact Iff.rfl
   |ref l off len wh=>
    have:=h l (by simp [qUs])
    simp only [qpK,qnM,ARd,RefRd,this]
 | .fn,_,_,_=>Iff.rfl
theorem qSx {f:Nat→Nat} {K K':Kn}:∀{ls:List Nat} {vs:List Value},(∀k∈ls,K' k=K (f k))→(capsRd K (ls.map f) vs↔capsRd K' ls vs)
 |[],_,_=>Iff.rfl
 |l::ls,vs,h=>by
  have h1:=h l (by simp)
  have h2:∀vs,capsRd K (ls.map f) vs↔capsRd K' ls vs:=fun vs=>qSx (fun k hk=>h k (by simp [hk]))
  simp only [wJ,capsRd,h1,h2]
theorem qlu {w:World} {N:Bool→Nat→Prop} {f:Nat→Nat} {K K':Kn} {a:AV} {v:Value} (h:∀k∈qNh a,K' k=K (f k)):VRd w N K (qRx f a) v↔VRd w N K' a v:=by
 cases a with
 |agg t x=>
  simp only [qRx,VRd]
  constructor
  ·rintro ⟨cs,e,h1,h2⟩;exact ⟨cs,e,h1,(qop h).1 h2⟩
  ·rintro ⟨cs,e,h1,h2⟩;exact ⟨cs,e,h1,(qop h).2 h2⟩
 |ref e l off len wh=>
  have:=h l (by simp [qNh])
  simp only [qRx,VRd,RefRd,this]
 |bref e l p n off len=>
  have:=h l (by simp [qNh])
  simp only [qRx,VRd,this]
 |ptr t l p=>
  have:=h l (by simp [qNh])
  simp only [qRx,VRd,this]
 |ifp T t l p=>
  have:=h l (by simp [qNh])
  simp only [qRx,VRd,this]
 |cslice e l n=>
  have:=h l (by simp [qNh])
  simp only [qRx,VRd,this]
 |cptr l=>
  have:=h l (by simp [qNh])
  simp only [qRx,VRd,this]
 |func g caps=>
  have h2:∀vs,capsRd K (caps.map f) vs↔capsRd K' caps vs:=fun vs=>qSx h
  simp only [qRx,VRd,h2]
 |mapr l=>
  have:=h l (by simp [qNh])
  simp only [qRx,VRd,this]
 |chan l=>
  have:=h l (by simp [qNh])
  simp only [qRx,VRd,this]
 |_=>exact Iff.rfl
theorem qYG {w:World} {N:Bool→Nat→Prop} {f:Nat→Nat} {K K':Kn}:∀{as:List AV} {vs:List Value},(∀k∈as.flatMap qNh,K' k=K (f k))→(VRdL w N K (as.map (qRx f)) vs↔VRdL w N K' as vs)
 |[],_,_=>Iff.rfl
 |a::as,vs,h=>by
  simp only [wib,wR] at h
  have h1:∀v,VRd w N K (qRx f a) v↔VRd w N K' a v:=fun v=>qlu (fun k hk=>h k (.inl hk))
  have h2:∀vs,VRdL w N K (as.map (qRx f)) vs↔VRdL w N K' as vs:=fun vs=>qYG (fun k hk=>h k (.inr hk))
  simp only [wJ,VRdL,h1,h2]
theorem qGC {w:World} {N:Bool→Nat→Prop} {f:Nat→Nat} {K K':Kn} {a:TV} {v:Value} (h:∀k∈qtl a,K' k=K (f k)):TVRd w N K (qaM f a) v↔TVRd w N K' a v:=by
 cases a with
 |one a=>exact qlu h
 |tup as=>
  simp only [qaM,TVRd]
  have h2:∀vs,VRdL w N K (as.map (qRx f)) vs↔VRdL w N K' as vs:=fun vs=>qYG h
  simp only [h2]
theorem qHC {w:World} {N:Bool→Nat→Prop} {f:Nat→Nat} {K K':Kn} {o:Obj} {gh:Gh} (h:∀k∈qAp o,K' k=K (f k)):ORd w N K (qAF f o) gh↔ORd w N K' o gh:=by
 cases o with
 |box t x=>
  have:∀cs,ARd w N K t (qpK f t x) cs↔ARd w N K' t x cs:=fun cs=>qop h
  simp only [qAF,ORd,this]
 |cell v=>
  have:∀c,VRd w N K (qRx f v) c↔VRd w N K' v c:=fun c=>qlu h
  simp only [qAF,ORd,this]
 |row e fr xs=>exact Iff.rfl
 |map k v es=>exact Iff.rfl
 |chan e fr cap xs cl=>exact Iff.rfl
 |fam e xss=>exact Iff.rfl
 |famS a e xs=>exact Iff.rfl
theorem qIE {w:World} {N:Bool→Nat→Prop} {K:Kn}:∀{t:Ty} {x:qke t} {cs:List Value},frA t x=true→ARd w N K t x cs→ARd w (fun _=>N true) K t x cs
 | .int _,_,_,_,h=>h
 | .bool,_,_,_,h=>h
 | .str,_,_,_,h=>h
 | .arr n e,_,_,hf,h=>⟨h.1,h.2.imp (fun _ _ q=>PRd.flat hf q)⟩
 | .pair a b,_,_,hf,h=>by
   simp only [frA,wz] at hf
   obtain ⟨c1,c2,e,h1,h2⟩:=h
   exact ⟨c1,c2,e,qIE hf.1 h1,qIE hf.2 h2⟩
 | .unit,_,_,_,h=>h
 | .slice _,x,_,hf,h=>by
   cases x with
   |pure fr xs=>simp only [frA] at hf;subst hf;exact h
   |ref l off len wh=>exact h
   |nil=>exact h
   |junk=>exact h
   |lng n=>exact h
 | .fn,_,_,_,h=>h
theorem qVH {w:World} {N:Bool→Nat→Prop} {K:Kn} {a:AV} {v:Value} (hf:frV a=true) (h:VRd w N K a v):VRd w (fun _=>N true) K a v:=by
 cases a with
 |agg t x=>
  obtain ⟨cs,e,h1,h2⟩:=h
  exact ⟨cs,e,h1,qIE hf h2⟩
 |sl e fr xs=>simp only [frV] at hf;subst hf;exact h
 |rptr t fr x=>simp only [frV] at hf;subst hf;exact h
 |sln e fr xs=>simp only [frV] at hf;subst hf;exact h
 |_=>exact h
theorem qHK {w:World} {N:Bool→Nat→Prop} {K:Kn}:∀{as:List AV} {vs:List Value},as.all frV=true→VRdL w N K as vs→VRdL w (fun _=>N true) K as vs
 |[],_,_,h=>h
 |a::as,vs,hf,h=>by
  simp only [wnb,wz] at hf
  obtain ⟨v,r,e,h1,h2⟩:=h
  exact ⟨v,r,e,qVH hf.1 h1,qHK hf.2 h2⟩
theorem qFM {w:World} {N:Bool→Nat→Prop} {K:Kn} {a:TV} {v:Value} (hf:frT a=true) (h:TVRd w N K a v):TVRd w (fun _=>N true) K a v:=by
 cases a with
 |one a=>exact qVH hf h
 |tup as=>
  obtain ⟨vs,e,h⟩:=h
  exact ⟨vs,e,qHK hf h⟩
theorem qGM {w:World} {N:Bool→Nat→Prop} {K:Kn} {o:Obj} {gh:Gh} (hf:frO o=true) (h:ORd w N K o gh):ORd w (fun _=>N true) K o gh:=by
 cases o with
 |box t x=>
  obtain ⟨h1,p,cs,h2,h3,h4⟩:=h
  exact ⟨h1,p,cs,h2,h3,qIE hf h4⟩
 |cell v=>
  obtain ⟨h1,p,cs,h2,h3,h4⟩:=h
  exact ⟨h1,p,cs,h2,h3,qVH hf h4⟩
 |row e fr xs=>
  simp only [frO,wub] at hf
  refine ⟨h.1,?_⟩
  have h2:=h.2
  revert h2
  cases gh.pl with
  |none=>exact id
  |some p=>
   rintro ⟨cs,h1,h2⟩
   refine ⟨cs,h1,?_⟩
   rcases hf with rfl|hf
   ·exact h2
   ·exact h2.imp (fun _ _ q=>PRd.flat hf q)
 |map k v es=>exact h
 |chan e fr cap xs cl=>
  simp only [frO,wub] at hf
  obtain ⟨h1,p,buf,s,r,h2,h3,h4⟩:=h
  refine ⟨h1,p,buf,s,r,h2,h3,?_⟩
  rcases hf with rfl|hf
  ·exact h4
  ·exact h4.imp (fun _ _ q=>PRd.flat hf q)
 |fam e xss=>exact h
 |famS a e xs=>exact h
section
variable {L:Nat→Prop} {P:Program} {GT:qTg} {nt:Nat} {c:Cx} {H lk:qZb} {K K':Kn} {w:World} {ren:List (Nat×Nat)} {lo:Bool} {N':Bool→Nat→Prop}
theorem qNu:∀{ren:List (Nat×Nat)} {l n:Nat},qOd ren l=some n→(n,l)∈ren
 |[],_,_,h=>by cases h
 |(a,b)::r,l,n,h=>by
  simp only [qOd] at h
  split at h
  ·rename_i e;subst e;simp only [wc] at h;subst h;exact wK
  ·exact wH _ (qNu h)
theorem qmo:∀{ren:List (Nat×Nat)} {l:Nat},qOd ren l=none→∀n,(n,l) ∉ ren
 |[],_,_,_=>by simp
 |(a,b)::r,l,h,n=>by
  simp only [qOd] at h
  split at h
  ·cases h
  ·rename_i e
   intro hm
   rcases wU.1 hm with e'|hm
   ·injection e' with _ e2;exact e e2.symm
   ·exact qmo h n hm
structure KeepX (c:Cx) (H:qZb) (K K':Kn) (w:World) (ren:List (Nat×Nat)) (lo:Bool) (L:Nat→Prop) (N':Bool→Nat→Prop):Prop where
 n:∀fr b,NN c H K w fr b→N' (fr&&!lo) b
 k:∀l n,qOd ren l=some n→K' n=K l
 gone:∀l o gh p,L l→qOd ren l=none→H l=some o→K l=some gh→Has gh p→∀fr,N' (fr&&!lo) p.blk
theorem KeepX.row (X:KeepX c H K K' w ren lo L N') (A:Inv c H K w) (hsub:∀l o,lk l=some o→H l=some o) {e:Ty} {l off len:Nat} {wh fr:Bool} {xs:List (pden e)} {v:Value} (hL:L l) (hn:qOd ren l=none) (habs:qjt lk e l=some (fr,xs)) (hr:RefRd K e l off len wh v):
  PRd w (N' ((fr||e.flat)&&!lo)) (.slice e) (seg xs off len wh) [v]:=by
 rcases qOp habs with hrow|⟨o,hfam,rfl,hx⟩
 rotate_left
 ·rw [Bool.true_or]
  exact (hx A (hsub _ _ hfam) hr (fun gh p g1 g2=>X.gone l _ gh p hL hn (hsub _ _ hfam) g1 g2 true)).1
 have hl:=hsub _ _ (qdc hrow)
 obtain ⟨h1,h2,h3,h4⟩:=qgn A hl hr
 rcases h4 with ⟨rfl,h5,rfl,h6⟩|⟨p,cl,o,cap,k1,rfl,h5,h6,h7,h8⟩
 ·subst h6
  have:seg ([]:List (pden e)) off 0 wh=[]:=wG h1
  rw [this]
  exact ⟨none,0,rfl,ws _, .inl rfl⟩
 ·refine ⟨_,cap,by rw [h1],by omega,?_⟩
  by_cases h0:len=0
  ·exact .inl (wG (by rw [h1,h0]))
  ·right
   have h6':=h6.resolve_left (by omega)
   refine ⟨p.blk,o,_,rfl,X.gone l _ _ p hL hn hl k1 (.inl rfl) _,?_,(qUl (fun _ _=>PRd.length) h8 h3).imp (fun _ _ hp=>?_)⟩
   ·rw [h6'.1]
    exact h7.cells.cut _ _
   ·have h9:PRd w (N' (fr&&!lo)) e _ _:=hp.keep ⟨fun b hb=>⟨X.n _ b hb,rfl⟩⟩
    by_cases hf:e.flat=true
    ·exact PRd.flat hf h9
    ·simp only [Bool.not_eq_true] at hf;rw [hf,Bool.or_false];exact h9
theorem KeepX.bref (X:KeepX c H K K' w ren lo L N') (A:Inv c H K w) (hsub:∀l o,lk l=some o→H l=some o) {e:Ty} {l:Nat} {p:List PS} {n off len:Nat} {fr:Bool} {xs:List (pden e)} {v:Value} (hL:L l) (hn:qOd ren l=none) (hc:qUe lk e (.bref e l p n off len)=some (fr,xs)) (hr:VRd w (NN c H K w) K (.bref e l p n off len) v):
  PRd w (N' (fr&&!lo)) (.slice e) xs [v]:=by
 obtain ⟨A0,cap,rfl,hl,hb⟩:=qNr A hsub hc (fun _=>by simp) hr
 have hob:∃obj,lk l=some obj:=by
  simp only [qUe,if_true] at hc
  split at hc
  ·exact ⟨_,by assumption⟩
  ·cases hc
 obtain ⟨obj,hobj⟩:=hob
 obtain ⟨sh,pl,po,k1,k2,k3,o,cap',k4,k5,k6⟩:=hr
 injection k4 with k4 k4' k4''
 subst k4
 refine ⟨_,cap,rfl,hl,hb.imp id ?_⟩
 rintro ⟨b,o',cl,e1,h2,h3,h4⟩
 injection e1 with e1
 injection e1 with e1 e2
 subst e1
 refine ⟨_,o',cl,by rw [e2],X.gone l obj _ pl hL hn (hsub _ _ hobj) k1 k2.has _,h2,h3.imp (fun _ _ q=>q.keep ⟨fun b hb=>⟨X.n _ b hb,rfl⟩⟩)⟩
theorem RefRd.renamed {e:Ty} {l n off len:Nat} {wh:Bool} {v:Value} (h:K' n=K l) (hr:RefRd K e l off len wh v):RefRd K' e n off len wh v:=by
 obtain ⟨m,pl,⟨ps,h1⟩,h2⟩:=hr
 exact ⟨m,pl,⟨ps,h.trans h1⟩,h2⟩
theorem qwt (X:KeepX c H K K' w ren lo L N') (A:Inv c H K w) (hsub:∀l o,lk l=some o→H l=some o):∀{t:Ty} {x y:qke t} {cs:List Value},(∀l∈qUs t x,L l)→qie lk ren lo t x=some y→ARd w (NN c H K w) K t x cs→ARd w N' K' t y cs
 | .int _,x,y,cs,hL,h,hr=>by simp only [qie,wc] at h;subst h;exact hr
 | .bool,x,y,cs,hL,h,hr=>by simp only [qie,wc] at h;subst h;exact hr
 | .str,x,y,cs,hL,h,hr=>by simp only [qie,wc] at h;subst h;exact hr
 | .arr n e,x,y,cs,hL,h,hr=>by
   simp only [qie,wc] at h;subst h
   exact ⟨hr.1,hr.2.imp (fun _ _ q=>q.keep ⟨fun b hb=>⟨X.n _ b hb,rfl⟩⟩)⟩
 | .pair a b,x,y,cs,hL,h,hr=>by
   simp only [qie] at h
   split at h
   ·rename_i u v e1 e2
    simp only [wc] at h;subst h
    obtain ⟨c1,c2,e,h1,h2⟩:=hr
    simp only [qUs,wR] at hL
    exact ⟨c1,c2,e,qwt X A hsub (fun l hl=>hL l (.inl hl)) e1 h1,qwt X A hsub (fun l hl=>hL l (.inr hl)) e2 h2⟩
   ·cases h
 | .unit,x,y,cs,hL,h,hr=>hr
 | .slice e,x,y,cs,hL,h,hr=>by
   cases x with
   |pure fr xs=>
    simp only [qie,wc] at h;subst h
    exact PRd.keep (t:= .slice e) ⟨fun b hb=>⟨X.n _ b hb,rfl⟩⟩ hr
   |nil=>simp only [qie,wc] at h;subst h;exact hr
   |junk=>simp only [qie,wc] at h;subst h;exact hr
   |lng n=>simp only [qie,wc] at h;subst h;exact hr
   |ref l off len wh=>
    obtain ⟨v,rfl,hr⟩:=hr
    simp only [qie] at h
    split at h
    ·rename_i n hn
     split at h
     ·rename_i hw
      split at h
      ·rename_i fr xs hrow
       simp only [wc] at h;subst h
       obtain ⟨e1,e2⟩:=qNI A hsub hrow hr hw
       subst hw;subst e1;subst e2
       exact ⟨v,rfl,hr.renamed (X.k l n hn)⟩
      ·cases h
     ·simp only [wc] at h;subst h
      exact ⟨v,rfl,hr.renamed (X.k l n hn)⟩
    ·rename_i hn
     split at h
     ·rename_i fr xs hrow
      simp only [wc] at h;subst h
      exact X.row A hsub (hL l (by simp [qUs])) hn hrow hr
     ·cases h
 | .fn,x,y,cs,hL,h,hr=>by simp only [qie,wc] at h;subst h;exact hr
theorem qUA (X:KeepX c H K K' w ren lo L N'):∀{ls ns:List Nat} {vs:List Value},qOu ren ls=some ns→capsRd K ls vs→capsRd K' ns vs
 |[],ns,vs,h,hr=>by simp only [qOu,wc] at h;subst h;exact hr
 |l::ls,ns,vs,h,hr=>by
  simp only [qOu] at h
  split at h
  ·rename_i n ns' e1 e2
   simp only [wc] at h;subst h
   obtain ⟨gh,p,r,h1,h2,h3,h4⟩:=hr
   exact ⟨gh,p,r,(X.k l n e1).trans h1,h2,h3,qUA X e2 h4⟩
  ·cases h
theorem qWy (X:KeepX c H K K' w ren lo L N') (A:Inv c H K w) (hsub:∀l o,lk l=some o→H l=some o) {v v':AV} {u:Value} (hL:∀l∈qNh v,L l) (h:qKf lk ren lo v=some v') (hr:VRd w (NN c H K w) K v u):VRd w N' K' v' u:=by
 have kp:∀fr,Keep w w (NN c H K w fr) (N' (fr&&!lo)):=fun fr=>⟨fun b hb=>⟨X.n fr b hb,rfl⟩⟩
 cases v with
 |agg t x=>
  simp only [qKf] at h
  split at h
  ·rename_i y hy
   simp only [wc] at h;subst h
   obtain ⟨cs,e,h1,h2⟩:=hr
   exact ⟨cs,e,h1,qwt X A hsub hL hy h2⟩
  ·cases h
 |sl e fr xs=>
  simp only [qKf,wc] at h;subst h
  exact PRd.keep (t:= .slice e) (kp fr) hr
 |ref e l off len wh=>
  simp only [qKf] at h
  split at h
  ·rename_i n hn
   split at h
   ·rename_i hw
    split at h
    ·rename_i fr xs hrow
     simp only [wc] at h;subst h
     obtain ⟨e1,e2⟩:=qNI A hsub hrow hr hw
     subst hw;subst e1;subst e2
     exact RefRd.renamed (X.k l n hn) hr
    ·cases h
   ·simp only [wc] at h;subst h
    exact RefRd.renamed (X.k l n hn) hr
  ·rename_i hn
   split at h
   ·rename_i fr xs hrow
    simp only [wc] at h;subst h
    exact X.row A hsub (hL l (by simp [qNh])) hn hrow hr
   ·cases h
 |bref e l p n off len=>
  simp only [qKf] at h
  split at h
  ·rename_i l' hn
   simp only [wc] at h;subst h
   obtain ⟨sh,pl,po,h1,h2⟩:=hr
   exact ⟨sh,pl,po,(X.k l l' hn).trans h1,h2⟩
  ·rename_i hn
   split at h
   ·rename_i fr xs hcn
    simp only [wc] at h;subst h
    exact X.bref A hsub (hL l (by simp [qNh])) hn hcn hr
   ·cases h
 |ptr t l p=>
  simp only [qKf] at h
  split at h
  ·rename_i l' hn
   simp only [wc] at h;subst h
   obtain ⟨sh,pl,po,h1,h2⟩:=hr
   exact ⟨sh,pl,po,(X.k l l' hn).trans h1,h2⟩
  ·cases h
 |ifp T t l p=>
  simp only [qKf] at h
  split at h
  ·rename_i l' hn
   simp only [wc] at h;subst h
   obtain ⟨sh,pl,po,h1,h2⟩:=hr
   exact ⟨sh,pl,po,(X.k l l' hn).trans h1,h2⟩
  ·cases h
 |cslice e l n=>
  simp only [qKf] at h
  split at h
  ·rename_i l' hn
   simp only [wc] at h;subst h
   obtain ⟨pl,h1,h2⟩:=hr
   exact ⟨pl,(X.k l l' hn).trans h1,h2⟩
  ·cases h
 |cptr l=>
  simp only [qKf] at h
  split at h
  ·rename_i l' hn
   simp only [wc] at h;subst h
   obtain ⟨sh,pl,h1,h2⟩:=hr
   exact ⟨sh,pl,(X.k l l' hn).trans h1,h2⟩
  ·cases h
 |mapr l=>
  simp only [qKf] at h
  split at h
  ·rename_i l' hn
   simp only [wc] at h;subst h
   obtain ⟨sh,pl,h1,h2⟩:=hr
   exact ⟨sh,pl,(X.k l l' hn).trans h1,h2⟩
  ·cases h
 |chan l=>
  simp only [qKf] at h
  split at h
  ·rename_i l' hn
   simp only [wc] at h;subst h
   obtain ⟨sh,pl,h1,h2⟩:=hr
   exact ⟨sh,pl,(X.k l l' hn).trans h1,h2⟩
  ·cases h
 |func f caps=>
  simp only [qKf] at h
  split at h
  ·rename_i ns hn
   simp only [wc] at h;subst h
   obtain ⟨vs,h1,h2⟩:=hr
   exact ⟨vs,h1,qUA X hn h2⟩
  ·cases h
 |rptr t fr x=>
  simp only [qKf,wc] at h;subst h
  obtain ⟨b,o,cs,e,h1,h2,h3⟩:=hr
  exact ⟨b,o,cs,e,h1.imp id (fun h=>((kp fr).k b h).1),h2,h3.keep (kp fr)⟩
 |sln e fr xs=>
  simp only [qKf,wc] at h;subst h
  exact PRd.keep (t:= .slice e) (kp fr) hr.1
 |_=>simp only [qKf,wc] at h;subst h;exact hr
theorem qmv (X:KeepX c H K K' w ren lo L N') (A:Inv c H K w) (hsub:∀l o,lk l=some o→H l=some o):∀{vs vs':List AV} {us:List Value},(∀l∈vs.flatMap qNh,L l)→qee lk ren lo vs=some vs'→VRdL w (NN c H K w) K vs us→VRdL w N' K' vs' us
 |[],vs',us,hL,h,hr=>by simp only [qee,wc] at h;subst h;exact hr
 |v::vs,vs',us,hL,h,hr=>by
  simp only [qee] at h
  split at h
  ·rename_i u us' e1 e2
   simp only [wc] at h;subst h
   obtain ⟨x,r,e,h1,h2⟩:=hr
   simp only [wib,wR] at hL
   exact ⟨x,r,e,qWy X A hsub (fun l hl=>hL l (.inl hl)) e1 h1,qmv X A hsub (fun l hl=>hL l (.inr hl)) e2 h2⟩
  ·cases h
theorem qnv (X:KeepX c H K K' w ren lo L N') (A:Inv c H K w) (hsub:∀l o,lk l=some o→H l=some o) {v v':TV} {u:Value} (hL:∀l∈qtl v,L l) (h:qSo lk ren lo v=some v') (hr:TVRd w (NN c H K w) K v u):TVRd w N' K' v' u:=by
 cases v with
 |one v=>
  simp only [qSo] at h
  split at h
  ·rename_i x hx
   simp only [wc] at h;subst h
   exact qWy X A hsub hL hx hr
  ·cases h
 |tup vs=>
  simp only [qSo] at h
  split at h
  ·rename_i x hx
   simp only [wc] at h;subst h
   obtain ⟨us,e,h1⟩:=hr
   exact ⟨us,e,qmv X A hsub hL hx h1⟩
  ·cases h
theorem qDE (X:KeepX c H K K' w ren lo L N') (A:Inv c H K w) (hsub:∀l o,lk l=some o→H l=some o) {o o':Obj} {gh:Gh} (hL:∀l∈qAp o,L l) (h:qPk lk ren lo o=some o') (hr:ORd w (NN c H K w) K o gh):ORd w N' K' o' gh:=by
 cases o with
 |row e fr xs=>
  simp only [qPk,wc] at h;subst h
  refine ⟨hr.1,?_⟩
  have h2:=hr.2
  revert h2
  cases gh.pl with
  |none=>exact id
  |some p=>
   rintro ⟨cs,h1,h2⟩
   exact ⟨cs,h1,h2.imp (fun _ _ q=>q.keep ⟨fun b hb=>⟨X.n fr b hb,rfl⟩⟩)⟩
 |box t x=>
  simp only [qPk] at h
  split at h
  ·rename_i y hy
   simp only [wc] at h;subst h
   obtain ⟨h1,p,cs,h2,h3,h4⟩:=hr
   exact ⟨h1,p,cs,h2,h3,qwt X A hsub hL hy h4⟩
  ·cases h
 |cell v=>
  simp only [qPk] at h
  split at h
  ·rename_i y hy
   simp only [wc] at h;subst h
   obtain ⟨h1,p,cs,h2,h3,h4⟩:=hr
   exact ⟨h1,p,cs,h2,h3,qWy X A hsub hL hy h4⟩
  ·cases h
 |map k v es=>
  simp only [qPk,wc] at h;subst h
  exact hr
 |chan e fr cap xs cl=>
  simp only [qPk,wc] at h;subst h
  obtain ⟨h1,p,buf,s,r,h2,h3,h4⟩:=hr
  exact ⟨h1,p,buf,s,r,h2,h3,h4.imp (fun _ _ q=>q.keep ⟨fun b hb=>⟨X.n fr b hb,rfl⟩⟩)⟩
 |fam e xss=>
  simp only [qPk,wc] at h;subst h
  exact hr
 |famS a e xs=>
  simp only [qPk,wc] at h;subst h
  exact hr
theorem qCp:∀{qs:List (Nat×Nat)} {l:List (Nat×Option Obj)} {n:Nat} {x:Option Obj},qWc lk ren lo qs=some l→lookL l n=some x→∃m o o',(n,m)∈qs∧lk m=some o∧qPk lk ren lo o=some o'∧x=some o'
 |[],l,t,v,h,hl=>by simp only [qWc,wc] at h;subst h;cases hl
 |a::r,l,n,x,h,hl=>by
  simp only [qWc] at h
  split at h
  ·rename_i o os e1 e2
   split at h
   ·rename_i o' e3
    simp only [wc] at h;subst h
    simp only [lookL] at hl
    split at hl
    ·rename_i e;subst e;simp only [wc] at hl;subst hl
     exact ⟨a.2,o,o',wK,e1,e3,rfl⟩
    ·obtain ⟨m,o2,o3,g1,g2⟩:=qCp e2 hl
     exact ⟨m,o2,o3,wH _ g1,g2⟩
   ·cases h
  ·cases h
end
theorem qxE {P:Program} {w:World} {N:Bool→Nat→Prop} {K:Kn}:∀{ts:List TypeId} {as:List AV} {us:List Value},VRdL w N K as us→VRdL w N K (qJu P ts as) us
 |[],as,us,h=>by simpa only [qJu] using h
 |_::_,[],us,h=>h
 |T::ts,v::r,us,h=>by
  obtain ⟨u,q,e,h1,h2⟩:=h
  refine ⟨u,q,e,?_,qxE h2⟩
  split
  ·simp only [VRd] at h1
   split
   ·exact ⟨none,0,by rw [h1];rfl,ws _, .inl rfl⟩
   ·exact h1
  ·exact h1
end Go.Ab

/-
  Calls: the caller's state behind the call.
-/
set_option linter.unusedVariables false
set_option linter.unusedSimpArgs false
namespace Go.Ab
open Go
theorem qNb {α:Type}:∀{xs:List (Nat×α)} {k:Nat} {v:α},lookL xs k=some v→(k,v)∈xs
 |[],_,_,h=>by cases h
 |(a,b)::xs,k,v,h=>by
  simp only [lookL] at h
  split at h
  ·rename_i e;subst e;simp only [wc] at h;subst h;exact wK
  ·exact wH _ (qNb h)
theorem qQf {α:Type}:∀{xs:List (Nat×α)} {k:Nat},k∈xs.map (·.1)→∃v,lookL xs k=some v
 |[],_,h=>by simp at h
 |(a,b)::xs,k,h=>by
  simp only [lookL]
  split
  ·exact ⟨b,rfl⟩
  ·rename_i hne
   simp only [wJ,wU] at h
   exact qQf (h.resolve_left (fun e=>hne e.symm))
theorem qFd {α:Type} {xs:List (Nat×α)} {k:Nat} {v:α} (h:lookL xs k=some v):k∈xs.map (·.1):=wP.2 ⟨_,qNb h,rfl⟩
theorem qsl {α:Type} {xs:List (Nat×α)} {k:Nat} (h:k ∉ xs.map (·.1)):lookL xs k=none:=by
 cases e:lookL xs k with
 |none=>rfl
 |some v=>exact absurd (qFd e) h
theorem qrr {x:Nat} {r:List Nat} (h:qqp (x::r)=true):x ∉ r∧qqp r=true:=by
 simp only [qqp,wz,wqb,wva,decide_eq_false_iff_not] at h
 exact h
theorem qpr:∀{xs:List (Nat×Nat)} {k k' l:Nat},qqp (xs.map (·.2))=true→lookL xs k=some l→lookL xs k'=some l→k=k'
 |[],_,_,_,_,h,_=>by cases h
 |(a,b)::xs,k,k',l,hn,h,h'=>by
  simp only [wJ] at hn
  obtain ⟨h1,h2⟩:=qrr hn
  simp only [lookL] at h h'
  split at h
  ·rename_i e
   simp only [wc] at h
   split at h'
   ·rename_i e';exact e.symm.trans e'
   ·exact absurd (wP.2 ⟨_,qNb h',rfl⟩) (h▸h1)
  ·split at h'
   ·simp only [wc] at h'
    exact absurd (wP.2 ⟨_,qNb h,rfl⟩) (h'▸h1)
   ·exact qpr h2 h h'
theorem qqr {α:Type}:∀{xs:List (Nat×α)} {k:Nat} {v:α},qqp (xs.map (·.1))=true→(k,v)∈xs→lookL xs k=some v
 |[],_,_,_,h=>by cases h
 |(a,b)::xs,k,v,hn,h=>by
  simp only [wJ] at hn
  obtain ⟨h1,h2⟩:=qrr hn
  simp only [lookL]
  rcases wU.1 h with e|h
  ·injection e with e1 e2;subst e1;subst e2;simp
  ·rw [if_neg ?_]
   ·exact qqr h2 h
   ·rintro rfl
    exact h1 (wP.2 ⟨_,h,rfl⟩)
theorem qWq {ks ls:List Nat}:qYr ks ls=true↔∀l∈ls,l∈ks:=by
 simp [qYr,wva]
theorem qcB {α β:Type} {f:Nat→Nat} {g:α→β}:∀{xs:List (Nat×α)} {k:Nat},(∀j∈xs.map (·.1),f j=f k→j=k)→lookL (xs.map fun p=>(f p.1,g p.2)) (f k)=(lookL xs k).map g
 |[],_,_=>rfl
 |(a,b)::xs,k,h=>by
  simp only [wJ,lookL]
  by_cases e:a=k
  ·subst e;simp
  ·rw [if_neg (fun e'=>e (h a (by simp) e')),if_neg e]
   exact qcB (fun j hj=>h j (by simp at hj ⊢;exact .inr hj))
theorem qRo {α β:Type} {f:Nat→Nat} {g:α→β}:∀{xs:List (Nat×α)} {l:Nat},(∀j∈xs.map (·.1),f j≠l)→lookL (xs.map fun p=>(f p.1,g p.2)) l=none
 |[],_,_=>rfl
 |(a,b)::xs,l,h=>by
  simp only [wJ,lookL]
  rw [if_neg (h a (by simp))]
  exact qRo (fun j hj=>h j (by simp at hj ⊢;exact .inr hj))
section
variable {c:Cx} {P:Program} {GT:qTg} {H lk:qZb} {K:Kn} {w:World} {ev:Operand→TV} {ρ:Operand→Value} {nl:Nat}
theorem qEI (A:At c P GT H lk K w ev ρ nl) {o:COrc} {F G:Nat→Prop} {Kc K':Kn} {w':World} {v:Value}
  (hk1:(o.ren.map (·.1))=(o.pre.map (·.1))) (hn2:qqp (o.ren.map (·.2))=true) (hn3:qqp (o.post.map (·.1))=true)
  (hq1:∀k∈qtl o.res,k∈o.post.map (·.1)) (hq2:∀k∈(o.post.flatMap fun p=>qAp p.2),k∈o.post.map (·.1))
  (hq3:∀k∈o.post.map (·.1),k∈o.pre.map (·.1)∨(8≤k∧k<16))
  (hold:∀k∈o.pre.map (·.1),∃o' gh,H (qVq nl o.ren k)=some o'∧K (qVq nl o.ren k)=some gh∧Kc k=some gh)
  (hG:∀b,G b→∃k∈o.pre.map (·.1),∃gh p,Kc k=some gh∧Has gh p∧p.blk=b)
  (hF:∀b,F b→b<w.heap.size) (hT:(∀b,F b→NN c H K w false b)∨(frT o.res=true∧∀p∈o.post,frO p.2=true))
  (hK:∀l gh,Kc l=some gh→K' l=some gh) (hI:Inv ⟨w,F,G,(ngOf GT),[]⟩ (lookL o.post) K' w') (hv:TVRd w' (NN ⟨w,F,G,(ngOf GT),[]⟩ (lookL o.post) K' w') K' o.res v):
  ∃K2,Stp c H K w ((o.post.map fun p=>(qVq nl o.ren p.1,some (qAF (qVq nl o.ren) p.2)))++kill ((o.ren.filter fun q=>!(o.post.map (·.1)).contains q.1).map (·.2))) nl K2 w'∧
   TVRd w' (NN c (qsb H ((o.post.map fun p=>(qVq nl o.ren p.1,some (qAF (qVq nl o.ren) p.2)))++kill ((o.ren.filter fun q=>!(o.post.map (·.1)).contains q.1).map (·.2)))) K2 w') K2 (qaM (qVq nl o.ren) o.res) v:=by
 generalize hrn:qVq nl o.ren=rn at*
 generalize hupd:((o.post.map fun p=>(rn p.1,some (qAF rn p.2)))++kill ((o.ren.filter fun q=>!(o.post.map (·.1)).contains q.1).map (·.2)))=upd
 have hrin:∀k,k∈o.pre.map (·.1)→lookL o.ren k=some (rn k):=fun k hk=>by
  obtain ⟨l,hl⟩:=qQf (hk1▸hk:k∈o.ren.map (·.1))
  rw [hl,←hrn];simp [qVq,hl]
 have hrout:∀k,k ∉ o.pre.map (·.1)→rn k=nl+(k - 8):=fun k hk=>by
  rw [←hrn];simp [qVq,qsl (hk1▸hk:k ∉ o.ren.map (·.1))]
 have hnew:∀k,(8≤k∧k<16)→K (nl+(k - 8))=none:=fun k hk=>A.fresh _ (by omega) (by omega)
 have hinj:∀j k,(j∈o.pre.map (·.1)∨(8≤j∧j<16))→(k∈o.pre.map (·.1)∨(8≤k∧k<16))→rn j=rn k→j=k:=by
  intro j k hj hk e
  by_cases j1:j∈o.pre.map (·.1)
  ·by_cases k1:k∈o.pre.map (·.1)
   ·exact qpr hn2 (hrin j j1) (e▸hrin k k1)
   ·obtain ⟨_,gh,_,g,_⟩:=hold j j1
    rw [e,hrout k k1,hnew k (hk.resolve_left k1)] at g;cases g
  ·by_cases k1:k∈o.pre.map (·.1)
   ·obtain ⟨_,gh,_,g,_⟩:=hold k k1
    rw [←e,hrout j j1,hnew j (hj.resolve_left j1)] at g;cases g
   ·rw [hrout j j1,hrout k k1] at e
    have:=hj.resolve_left j1
    have:=hk.resolve_left k1
    omega
 have hinjp:∀j∈o.post.map (·.1),∀k∈o.post.map (·.1),rn j=rn k→j=k:=fun j hj k hk e=>hinj j k (hq3 j hj) (hq3 k hk) e
 let K2:Kn:=fun l=>if nl≤l∧(l - nl+8)∈o.post.map (·.1)∧(l - nl+8) ∉ o.pre.map (·.1) then K' (l - nl+8) else K l
 have hK2n:∀k∈o.post.map (·.1),K2 (rn k)=K' k:=by
  intro k hk
  by_cases k1:k∈o.pre.map (·.1)
  ·obtain ⟨_,gh,_,g1,g2⟩:=hold k k1
   have:¬(nl≤rn k∧(rn k - nl+8)∈o.post.map (·.1)∧(rn k - nl+8) ∉ o.pre.map (·.1)):=by
    rintro ⟨a1,a2,a3⟩
    have:=(hq3 _ a2).resolve_left a3
    have:=hnew _ this
    rw [show nl+(rn k - nl+8 - 8)=rn k by omega,g1] at this;cases this
   simp only [K2,this,if_false,g1,hK k gh g2]
  ·rw [hrout k k1]
   simp only [K2]
   have h8:=(hq3 k hk).resolve_left k1
   have e8:nl+(k - 8) - nl+8=k:=by omega
   rw [if_pos ⟨by omega,by rw [e8];exact hk,by rw [e8];exact k1⟩,e8]
 have hK2o:∀l gh,K l=some gh→K2 l=some gh:=by
  intro l gh hl
  have:¬(nl≤l∧(l - nl+8)∈o.post.map (·.1)∧(l - nl+8) ∉ o.pre.map (·.1)):=by
   rintro ⟨a1,a2,a3⟩
   have:=(hq3 _ a2).resolve_left a3
   have:=hnew _ this
   rw [show nl+(l - nl+8 - 8)=l by omega,hl] at this;cases this
  simp only [K2,this,if_false,hl]
 have hfresh:∀l,K2 l=K l∨(nl≤l∧l<nl+8):=by
  intro l
  simp only [K2]
  split
  ·rename_i h
   have:=(hq3 _ h.2.1).resolve_left h.2.2
   exact .inr ⟨h.1,by omega⟩
  ·exact .inl rfl
 have hU1:∀k ob,lookL o.post k=some ob→qsb H upd (rn k)=some (qAF rn ob):=by
  intro k ob hk
  simp only [qsb,←hupd,qRf]
  have:=qcB (f:=rn) (g:=fun x=>some (qAF rn x)) (xs:=o.post) (k:=k) (fun j hj e=>hinjp j hj k (qFd hk) e)
  rw [this,hk];rfl
 have hU2:∀l ob,qsb H upd l=some ob→(∃k ok,lookL o.post k=some ok∧l=rn k∧ob=qAF rn ok)∨(H l=some ob∧∀k∈o.pre.map (·.1),rn k≠l):=by
  intro l ob hl
  by_cases hp:∃k∈o.post.map (·.1),rn k=l
  ·obtain ⟨k,hk,rfl⟩:=hp
   obtain ⟨ok,hok⟩:=qQf hk
   rw [hU1 k ok hok] at hl
   simp only [wc] at hl
   exact .inl ⟨k,ok,hok,rfl,hl.symm⟩
  ·right
   have hp':∀j∈o.post.map (·.1),rn j≠l:=fun j hj e=>hp ⟨j,hj,e⟩
   simp only [qsb,←hupd,qRf] at hl
   rw [qRo (f:=rn) (g:=fun x=>some (qAF rn x)) hp'] at hl
   simp only at hl
   cases hd:lookL (kill ((o.ren.filter fun q=>!(o.post.map (·.1)).contains q.1).map (·.2))) l with
   |some x=>
    rw [hd] at hl
    have:=(qrl hd).1
    subst this;cases hl
   |none=>
    rw [hd] at hl
    refine ⟨hl,fun k hk e=>?_⟩
    have hkp:k ∉ o.post.map (·.1):=fun h=>hp' k h e
    have:l∈((o.ren.filter fun q=>!(o.post.map (·.1)).contains q.1).map (·.2)):=by
     refine wP.2 ⟨(k,l),List.mem_filter.2 ⟨?_,by simpa using hkp⟩,rfl⟩
     have:=qNb (hrin k hk)
     rw [e] at this;exact this
    rw [qgv this] at hd;cases hd
 have hGb:∀b,G b→qTb H K b:=by
  intro b hb
  obtain ⟨k,hk,gh,p,g1,g2,g3⟩:=hG b hb
  obtain ⟨o',gh',h1,h2,h3⟩:=hold k hk
  rw [g1] at h3;injection h3 with h3;subst h3
  exact ⟨rn k,o',gh,p,h1,h2,g2,g3⟩
 have hsame:∀b,b<w.heap.size→¬G b→w'.heap[b]?=w.heap[b]?:=fun b h1 h2=>hI.fr.block b h1 h2
 have hsz:=hI.fr.size
 simp only at hsz
 have hlive:∀b,b<w.heap.size→qTb (qsb H upd) K2 b→qTb H K b:=by
  rintro b hb ⟨l,ob,gh,p,h1,h2,h3,h4⟩
  rcases hU2 l ob h1 with ⟨k,ok,q1,rfl,q3⟩|⟨q1,q2⟩
  ·rw [hK2n k (qFd q1)] at h2
   rcases (hI.own k ok gh p q1 h2 h3).2.1 with h5|h5
   ·simp only at h5;omega
   ·exact hGb b (h4▸h5)
  ·obtain ⟨gh',g1,_⟩:=A.inv.objs l ob q1
   rw [hK2o l gh' g1] at h2;injection h2 with h2;subst h2
   exact ⟨l,ob,gh',p,q1,g1,h3,h4⟩
 have hkk:KeepK w w' (NN c H K w) (NN c (qsb H upd) K2 w') K K2:=
  ⟨fun fr=>⟨fun b hb=>⟨⟨by have:=hb.1;omega,fun hn=>hb.2.1 (hlive b hb.1 hn),hb.2.2⟩,hsame b hb.1 (fun hg=>hb.2.1 (hGb b hg))⟩⟩,hK2o⟩
 have hw0:=A.inv.fr.size
 have hnotlive:∀b,¬qTb (lookL o.post) K' b→(w.heap.size≤b∨G b∨¬qTb H K b)→¬qTb (qsb H upd) K2 b:=by
  rintro b hb hb2 ⟨l,ob,gh,p,h1,h2,h3,h4⟩
  rcases hU2 l ob h1 with ⟨k,ok,q1,rfl,q3⟩|⟨q1,q2⟩
  ·rw [hK2n k (qFd q1)] at h2
   exact hb ⟨k,ok,gh,p,q1,h2,h3,h4⟩
  ·obtain ⟨gh',g1,_⟩:=A.inv.objs l ob q1
   rw [hK2o l gh' g1] at h2;injection h2 with h2;subst h2
   have hlt:=(A.inv.own l ob gh' p q1 g1 h3).1
   rcases hb2 with h5|h5|h5
   ·omega
   ·obtain ⟨k,hk,gh2,p2,a1,a2,a3⟩:=hG b h5
    obtain ⟨o',gh3,b1,b2,b3⟩:=hold k hk
    rw [a1] at b3;injection b3 with b3;subst b3
    exact q2 k hk (A.inv.inj (rn k) l o' ob gh2 gh' p2 p b1 q1 b2 g1 a2 h3 (by rw [a3,h4]))
   ·exact h5 ⟨l,ob,gh',p,q1,g1,h3,h4⟩
 have hGown:∀b,G b→c.w0.heap.size≤b∨c.G b:=by
  intro b hb
  obtain ⟨l,ob,gh,p,h1,h2,h3,h4⟩:=hGb b hb
  rw [←h4];exact (A.inv.own l ob gh p h1 h2 h3).2.1
 have hNt:∀b,NN ⟨w,F,G,(ngOf GT),[]⟩ (lookL o.post) K' w' true b→NN c (qsb H upd) K2 w' true b:=by
  rintro b ⟨h1,h2,h3⟩
  simp only [Bool.true_eq_false,false_and,or_false] at h3
  refine ⟨h1,hnotlive b h2 (h3.imp id .inl),?_⟩
  rcases h3 with h3|h3
  ·exact .inl (by omega)
  ·exact (hGown b h3).imp id .inl
 have hNf:(∀b,F b→NN c H K w false b)→∀b,NN ⟨w,F,G,(ngOf GT),[]⟩ (lookL o.post) K' w' false b→NN c (qsb H upd) K2 w' false b:=by
  rintro hF2 b ⟨h1,h2,h3⟩
  rcases h3 with h3|h3|⟨_,h3|h3⟩
  ·exact ⟨h1,hnotlive b h2 (.inl h3), .inl (by simp only at h3;omega)⟩
  ·exact ⟨h1,hnotlive b h2 (.inr (.inl h3)),(hGown b h3).imp id .inl⟩
  ·have:=hF2 b h3
   exact ⟨h1,hnotlive b h2 (.inr (.inr this.2.1)),this.2.2⟩
  ·simp only at h3
   have hng:b<c.ng:=by rw [A.gng];exact h3
   refine ⟨h1,hnotlive b h2 (.inr (.inr ?_)), .inr (.inr ⟨rfl, .inr hng⟩)⟩
   rintro ⟨l,ob,gh,p,q1,q2,q3,q4⟩
   have:=(A.inv.own l ob gh p q1 q2 q3).2.2
   omega
 have hway:∃N1:Bool→Nat→Prop,TVRd w' N1 K' o.res v∧(∀k ob,lookL o.post k=some ob→∀gh,K' k=some gh→ORd w' N1 K' ob gh)∧∀fr b,N1 fr b→NN c (qsb H upd) K2 w' fr b:=by
  rcases hT with hT|⟨hT1,hT2⟩
  ·refine ⟨_,hv,fun k ob hk gh hg=>?_,fun fr b hb=>by cases fr <;> first|exact hNf hT b hb|exact hNt b hb⟩
   obtain ⟨gh',g1,g2⟩:=hI.objs k ob hk
   rw [hg] at g1;injection g1 with g1;subst g1;exact g2
  ·refine ⟨_,qFM hT1 hv,fun k ob hk gh hg=>?_,fun fr b hb=>by cases fr <;> first|exact hNt b hb|exact ui b (hNt b hb)⟩
   obtain ⟨gh',g1,g2⟩:=hI.objs k ob hk
   rw [hg] at g1;injection g1 with g1;subst g1
   exact qGM (hT2 _ (qNb hk)) g2
 obtain ⟨N1,hr1,hr2,hr3⟩:=hway
 have hk1':KeepK w' w' N1 (NN c (qsb H upd) K2 w') K2 K2:=⟨fun fr=>⟨fun b hb=>⟨hr3 fr b hb,rfl⟩⟩,fun _ _ h=>h⟩
 refine ⟨K2,⟨⟨fun l ob hl=>?_,fun l ob gh p h1 h2 h3=>?_,fun l l' ob ob' gh gh' p p' h1 h2 h3 h4 h5 h6 h7=>?_,?_⟩,hkk,hfresh,hsz⟩,?_⟩
 ·rcases hU2 l ob hl with ⟨k,ok,q1,rfl,rfl⟩|⟨q1,q2⟩
  ·obtain ⟨gh,g1,_⟩:=hI.objs k ok q1
   refine ⟨gh,by rw [hK2n k (qFd q1)];exact g1,?_⟩
   refine ORd.keep hk1' (fun _ _=>rfl) ((qHC (K:=K2) (K':=K') (fun j hj=>?_)).2 (hr2 k ok q1 gh g1))
   exact (hK2n j (hq2 j (List.mem_flatMap.2 ⟨_,qNb q1,hj⟩))).symm
  ·obtain ⟨gh,g1,g2⟩:=A.inv.objs l ob q1
   refine ⟨gh,hK2o l gh g1,g2.keep hkk (fun p hp=>hsame _ (A.inv.own l ob gh p q1 g1 hp).1 (fun hg=>?_))⟩
   obtain ⟨k,hk,gh2,p2,a1,a2,a3⟩:=hG _ hg
   obtain ⟨o',gh3,b1,b2,b3⟩:=hold k hk
   rw [a1] at b3;injection b3 with b3;subst b3
   exact q2 k hk (A.inv.inj (rn k) l o' ob gh2 gh p2 p b1 q1 b2 g1 a2 hp a3)
 ·rcases hU2 l ob h1 with ⟨k,ok,q1,rfl,rfl⟩|⟨q1,q2⟩
  ·rw [hK2n k (qFd q1)] at h2
   have:=hI.own k ok gh p q1 h2 h3
   refine ⟨this.1,?_,by rw [A.gng];exact this.2.2⟩
   rcases this.2.1 with h5|h5
   ·exact .inl (by simp only at h5;omega)
   ·exact hGown _ h5
  ·obtain ⟨gh',g1,_⟩:=A.inv.objs l ob q1
   rw [hK2o l gh' g1] at h2;injection h2 with h2;subst h2
   have:=A.inv.own l ob gh' p q1 g1 h3
   exact ⟨by omega,this.2⟩
 ·rcases hU2 l ob h1 with ⟨k,ok,q1,rfl,rfl⟩|⟨q1,q2⟩
  ·rw [hK2n k (qFd q1)] at h3
   rcases hU2 l' ob' h2 with ⟨k',ok',r1,rfl,rfl⟩|⟨r1,r2⟩
   ·rw [hK2n k' (qFd r1)] at h4
    rw [hI.inj k k' ok ok' gh gh' p p' q1 r1 h3 h4 h5 h6 h7]
   ·exfalso
    obtain ⟨gh2,g1,_⟩:=A.inv.objs l' ob' r1
    rw [hK2o l' gh2 g1] at h4;injection h4 with h4;subst h4
    have hlt:=(A.inv.own l' ob' gh2 p' r1 g1 h6).1
    rcases (hI.own k ok gh p q1 h3 h5).2.1 with h8|h8
    ·simp only at h8;omega
    ·obtain ⟨k2,hk2,gh3,p3,a1,a2,a3⟩:=hG _ h8
     obtain ⟨o',gh4,b1,b2,b3⟩:=hold k2 hk2
     rw [a1] at b3;injection b3 with b3;subst b3
     exact r2 k2 hk2 (A.inv.inj (rn k2) l' o' ob' gh3 gh2 p3 p' b1 r1 b2 g1 a2 h6 (by rw [a3,h7]))
  ·obtain ⟨gh2,g1,_⟩:=A.inv.objs l ob q1
   rw [hK2o l gh2 g1] at h3;injection h3 with h3;subst h3
   rcases hU2 l' ob' h2 with ⟨k',ok',r1,rfl,rfl⟩|⟨r1,r2⟩
   ·exfalso
    rw [hK2n k' (qFd r1)] at h4
    have hlt:=(A.inv.own l ob gh2 p q1 g1 h5).1
    rcases (hI.own k' ok' gh' p' r1 h4 h6).2.1 with h8|h8
    ·simp only at h8;omega
    ·obtain ⟨k2,hk2,gh3,p3,a1,a2,a3⟩:=hG _ h8
     obtain ⟨o',gh4,b1,b2,b3⟩:=hold k2 hk2
     rw [a1] at b3;injection b3 with b3;subst b3
     exact q2 k2 hk2 (A.inv.inj (rn k2) l o' ob gh3 gh2 p3 p b1 q1 b2 g1 a2 h5 (by rw [a3,h7]))
   ·obtain ⟨gh3,g2,_⟩:=A.inv.objs l' ob' r1
    rw [hK2o l' gh3 g2] at h4;injection h4 with h4;subst h4
    exact A.inv.inj l l' ob ob' gh2 gh3 p p' q1 r1 g1 g2 h5 h6 h7
 ·refine ⟨hI.fr.os.trans A.inv.fr.os,hI.fr.tape.trans A.inv.fr.tape,hI.fr.output.trans A.inv.fr.output,by omega,fun k h1 h2=>?_⟩
  rw [hsame k (by omega) (fun hg=>?_)]
  ·exact A.inv.fr.block k h1 h2
  ·rcases hGown k hg with h3|h3
   ·omega
   ·exact h2 h3
 ·refine TVRd.keep hk1' ((qGC (K:=K2) (K':=K') (fun j hj=>?_)).2 hr1)
  exact (hK2n j (hq1 j hj)).symm
theorem qiv {k:Nat} {o:Obj}:∀{rs:List (Nat×Obj)},lookL rs k=some o→lookL (qoc rs) k=some (some o)
 |[],h=>by cases h
 |(a,b)::r,h=>by
  simp only [qoc,wJ,lookL] at h ⊢
  split at h
  ·rename_i e;subst e;simp only [wc] at h;subst h;simp
  ·rename_i e;rw [if_neg e];exact qiv h
theorem qkG (A:At c P GT H lk K w ev ρ nl) {o:COrc} {f:Nat} {vs:List AV} {us:List Value} (hv:VRdL w (NN c H K w) K vs us) {out:Out} (h:qfw P GT lk nl f vs o=some out) (hc:qfg out.conds):
  qcp P f us.toArray w (Lands c H K w nl out):=by
 unfold qfw at h
 simp only at h
 split at h
 ·rename_i pv hl hpv hhs
  split at h
  ·rename_i hok
   simp only [wc] at h;subst h
   obtain ⟨c1,c3,c2,_⟩:=hc
   simp only [qRK,wz,beq_iff_eq,wub] at hok
   obtain ⟨⟨⟨⟨⟨⟨⟨⟨⟨k1,k2⟩,k3⟩,k4⟩,k5⟩,k6⟩,k7⟩,k8⟩,k9⟩,k10⟩:=hok
   rw [qWq] at k5 k6 k7 k8
   have hq3:∀k∈o.post.map (·.1),k∈o.pre.map (·.1)∨(8≤k∧k<16):=by
    intro k hk
    have:=wAa.1 k9 k hk
    simpa [wva] using this
   let Kc:Kn:=fun k=>if k∈o.pre.map (·.1) then K (qVq nl o.ren k) else none
   have hKc:∀k∈o.pre.map (·.1),Kc k=K (qVq nl o.ren k):=fun k hk=>by simp only [Kc,hk,if_true]
   have hrn:∀k l,(k,l)∈o.ren→qVq nl o.ren k=l:=by
    intro k l hm
    simp [qVq,qqr (k1▸k2:qqp (o.ren.map (·.1))=true) hm]
   have hget:∀k ob,lookL o.pre k=some ob→∃o' gh,H (qVq nl o.ren k)=some o'∧K (qVq nl o.ren k)=some gh∧Kc k=some gh∧ORd w (NN c H K w) K o' gh∧qPk lk o.ren true o'=some ob∧(k,qVq nl o.ren k)∈o.ren∧lk (qVq nl o.ren k)=some o':=by
    intro k ob hk
    obtain ⟨m,o1,o2,g1,g2,g3,g4⟩:=qCp hhs (c3▸qiv hk)
    injection g4 with g4;subst g4
    rw [hrn k m g1]
    obtain ⟨gh,e1,e2⟩:=A.inv.objs _ o1 (A.sub _ _ g2)
    exact ⟨o1,gh,A.sub _ _ g2,e1,by rw [hKc k (qFd hk),hrn k m g1];exact e1,e2,g3,g1,g2⟩
   have hold:∀k∈o.pre.map (·.1),∃o' gh,H (qVq nl o.ren k)=some o'∧K (qVq nl o.ren k)=some gh∧Kc k=some gh:=by
    intro k hk
    obtain ⟨ob,hob⟩:=qQf hk
    obtain ⟨o',gh,h1,h2,h3,_⟩:=hget k ob hob
    exact ⟨o',gh,h1,h2,h3⟩
   let G:Nat→Prop:=fun b=>qTb (lookL o.pre) Kc b
   have hGk:∀b,G b→∃k∈o.pre.map (·.1),∃gh p,Kc k=some gh∧Has gh p∧p.blk=b:=by
    rintro b ⟨k,ob,gh,p,h1,h2,h3,h4⟩
    exact ⟨k,qFd h1,gh,p,h2,h3,h4⟩
   have hrin:∀k,k∈o.pre.map (·.1)→lookL o.ren k=some (qVq nl o.ren k):=fun k hk=>by
    obtain ⟨l,hl⟩:=qQf (k1▸hk:k∈o.ren.map (·.1))
    rw [hl];simp [qVq,hl]
   have hlivec:∀b,qTb (lookL o.pre) Kc b→qTb H K b:=by
    rintro b ⟨k,ob,gh,p,h1,h2,h3,h4⟩
    obtain ⟨o',gh',g1,g2,g3,_⟩:=hget k ob h1
    rw [h2] at g3;injection g3 with g3;subst g3
    exact ⟨_,o',gh,p,g1,g2,h3,h4⟩
   let L:Nat→Prop:=fun l=>l∈vs.flatMap qNh∨∃q∈o.ren,∃ob,lk q.2=some ob∧l∈qAp ob
   have S1:=Stp.kill A.inv nl (qjh lk vs o)
   have hD:∀l,l∈qjh lk vs o→l ∉ o.ren.map (·.2):=by
    intro l hl
    unfold qjh at hl
    split at hl
    ·have:=(List.mem_filter.1 hl).2
     simpa [wva] using this
    ·cases hl
   have hH1:∀l,l ∉ qjh lk vs o→qsb H (Ab.kill (qjh lk vs o)) l=H l:=by
    intro l hl
    simp only [qsb]
    cases hd:lookL (Ab.kill (qjh lk vs o)) l with
    |none=>rfl
    |some x=>exact absurd (qwr hd) hl
   obtain ⟨F,hF1,hF2,hF3,hT⟩:∃F:Nat→Prop,(∀b,F b→b<w.heap.size)∧(∀b,NN c H K w false b→F b)∧(∀l ob gh p,L l→l ∉ o.ren.map (·.2)→H l=some ob→K l=some gh→Has gh p→F p.blk)∧((∀b,F b→NN c (qsb H (Ab.kill (qjh lk vs o))) K w false b)∨(frT o.res=true∧∀p∈o.post,frO p.2=true)):=by
    rcases k10 with (⟨a2,a3⟩|a1)|a4
    ·exact ⟨fun b=>b<w.heap.size,fun b hb=>hb,fun b hb=>hb.1,fun l ob gh p _ _ h1 h2 h3=>(A.inv.own l ob gh p h1 h2 h3).1, .inr ⟨a2,fun p hp=>wAa.1 a3 p hp⟩⟩
    ·refine ⟨fun b=>NN c H K w false b,fun b hb=>hb.1,fun b hb=>hb,fun l ob gh p hl hn=>absurd ?_ hn, .inl (fun b hb=>hb.killed)⟩
     simp only [qZB,wz] at a1
     obtain ⟨a1,a2⟩:=a1
     rw [qWq] at a1
     rcases hl with hl|⟨q,hq,ob,hob,hl⟩
     ·exact a1 l hl
     ·have:=wAa.1 a2 q hq
      rw [hob] at this
      simp only [qWq] at this
      exact this l hl
    ·refine ⟨fun b=>NN c (qsb H (Ab.kill (qjh lk vs o))) K w false b,fun b hb=>hb.1,fun b hb=>hb.killed,fun l ob gh p hl hn h1 h2 h3=>NN.kill A.inv h1 h2 h3 ?_ false, .inl (fun b hb=>hb)⟩
     unfold qjh
     rw [if_pos a4]
     refine List.mem_filter.2 ⟨wR.2 ?_,by simpa [wva] using hn⟩
     rcases hl with hl|⟨q,hq,ob,hob,hl⟩
     ·exact .inl hl
     ·exact .inr (List.mem_flatMap.2 ⟨q,hq,by rw [hob];exact hl⟩)
   have hNc:∀b,NN c H K w false b→NN ⟨w,F,G,(ngOf GT),[]⟩ (lookL o.pre) Kc w false b:=fun b hb=>
    ⟨hb.1,fun hn=>hb.2.1 (hlivec b hn), .inr (.inr ⟨rfl, .inl (hF2 b hb)⟩)⟩
   have X:KeepX c H K Kc w o.ren true L (NN ⟨w,F,G,(ngOf GT),[]⟩ (lookL o.pre) Kc w):=by
    refine ⟨fun fr b hb=>?_,fun l n hn=>?_,fun l ob gh p hL hn h1 h2 h3 fr=>?_⟩
    ·have:NN c H K w false b:=by cases fr <;> first|exact hb|exact ui b hb
     simpa using hNc b this
    ·have hm:=qNu hn
     have hk:n∈o.pre.map (·.1):=k1▸wP.2 ⟨_,hm,rfl⟩
     rw [hKc n hk,hrn n l hm]
    ·have hown:=A.inv.own l ob gh p h1 h2 h3
     simp only [Bool.not_true,Bool.and_false]
     refine ⟨hown.1,?_, .inr (.inr ⟨rfl, .inl ?_⟩)⟩
     ·rintro ⟨k,ob',gh',p',g1,g2,g3,g4⟩
      obtain ⟨o',gh2,e1,e2,e3,_,_,e4,_⟩:=hget k ob' g1
      rw [g2] at e3;injection e3 with e3;subst e3
      have:=A.inv.inj _ _ o' ob gh' gh p' p e1 h1 e2 h2 g3 h3 g4
      rw [this] at e4
      exact qmo hn k e4
     ·refine hF3 l ob gh p hL (fun hm=>?_) h1 h2 h3
      obtain ⟨q,hq,e⟩:=wP.1 hm
      obtain ⟨a,b⟩:=q
      simp only at e;subst e
      exact absurd hq (qmo hn a)
   have hinv:Inv ⟨w,F,G,(ngOf GT),[]⟩ (lookL o.pre) Kc w:=by
    refine ⟨fun k ob hk=>?_,fun k ob gh p h1 h2 h3=>?_,fun k k' ob ob' gh gh' p p' h1 h2 h3 h4 h5 h6 h7=>?_,⟨rfl,rfl,rfl,ws _,fun _ _ _=>rfl⟩⟩
    ·obtain ⟨o',gh,g1,g2,g3,g4,g5,g6,g7⟩:=hget k ob hk
     exact ⟨gh,g3,qDE X A.inv A.sub (fun l hl=> .inr ⟨_,g6,o',g7,hl⟩) g5 g4⟩
    ·obtain ⟨o',gh',g1,g2,g3,_⟩:=hget k ob h1
     rw [h2] at g3;injection g3 with g3;subst g3
     have:=A.inv.own _ o' gh p g1 g2 h3
     exact ⟨this.1, .inr ⟨k,ob,gh,p,h1,h2,h3,rfl⟩,by rw [←A.gng];exact this.2.2⟩
    ·obtain ⟨o1,gh1,g1,g2,g3,_⟩:=hget k ob h1
     obtain ⟨o2,gh2,i1,i2,i3,_⟩:=hget k' ob' h2
     rw [h3] at g3;injection g3 with g3;subst g3
     rw [h4] at i3;injection i3 with i3;subst i3
     have e:=A.inv.inj _ _ o1 o2 gh gh' p p' g1 i1 g2 i2 h5 h6 h7
     have r1:=hrin k (qFd h1)
     have r2:=hrin k' (qFd h2)
     rw [←e] at r2
     exact qpr k3 r1 r2
   have hargs:VRdL w (NN ⟨w,F,G,(ngOf GT),[]⟩ (lookL o.pre) Kc w) Kc o.args us:=by
    have h0:=qmv X A.inv A.sub (fun l hl=> .inl hl) hpv hv
    rcases c1 with c1|c1
    ·rw [c1];exact qxE h0
    ·rw [c1];exact h0
   have hcall:=c2 w F G Kc us A.glob hinv (fun b hb=>hb) (fun k hk=>by
    have:k ∉ o.pre.map (·.1):=fun h=>by obtain ⟨v,hv⟩:=qQf h;rw [hk] at hv;cases hv
    simp only [Kc,this,if_false]) hF1 hargs
   have hfin:∀v w',(∃K',(∀l gh,Kc l=some gh→K' l=some gh)∧Inv ⟨w,F,G,(ngOf GT),[]⟩ (lookL o.post) K' w'∧TVRd w' (NN ⟨w,F,G,(ngOf GT),[]⟩ (lookL o.post) K' w') K' o.res v)→
     Lands c H K w nl ⟨qaM (qVq nl o.ren) o.res,((o.post.map fun p=>(qVq nl o.ren p.1,some (qAF (qVq nl o.ren) p.2)))++kill ((o.ren.filter fun q=>!(o.post.map (·.1)).contains q.1).map (·.2)))++kill (qjh lk vs o),[o.args=qJu P (qWj P f) pv∨o.args=pv,hl=qoc o.pre,CallOK P GT f o.args o.pre o.res o.post]⟩ v w':=by
    rintro v w' ⟨K',g1,g2,g3⟩
    have A1:At c P GT (qsb H (Ab.kill (qjh lk vs o))) (fun _=>none) K w (fun _=> .one .undef) ρ nl:=
     ⟨S1.inv,fun l o h=>(by cases h),fun _=>trivial,A.fresh,A.ng,A.glob,A.gng⟩
    have hold1:∀k∈o.pre.map (·.1),∃o' gh,qsb H (Ab.kill (qjh lk vs o)) (qVq nl o.ren k)=some o'∧K (qVq nl o.ren k)=some gh∧Kc k=some gh:=by
     intro k hk
     obtain ⟨o',gh,b1,b2⟩:=hold k hk
     refine ⟨o',gh,?_,b2⟩
     rw [hH1 _ (fun hm=>hD _ hm (wP.2 ⟨_,qNb (hrin k hk),rfl⟩))]
     exact b1
    obtain ⟨K2,S2,hv2⟩:=qEI A1 k1 k3 k4 k7 k8 hq3 hold1 hGk hF1 hT g1 g2 g3
    refine ⟨K2,S1.trans S2,?_⟩
    simp only
    rw [qXg]
    exact hv2
   unfold qcp at hcall ⊢
   split at hcall
   ·exact hfin _ _ hcall
   ·refine hcall.mono ?_
    rintro e w' ⟨v,e1,h2⟩
    exact ⟨v,e1,hfin v w' h2⟩
   ·exact hcall
  ·cases h
 ·cases h
theorem qDD (A:Inv c H K w) (hsub:∀l o,lk l=some o→H l=some o):∀{ls:List Nat} {as:List AV} {vs:List Value},qMq lk ls=some as→capsRd K ls vs→VRdL w (NN c H K w) K as vs
 |[],as,vs,h,hr=>by simp only [qMq,wc] at h;subst h;exact hr
 |l::ls,as,vs,h,hr=>by
  obtain ⟨gh,p,r,g1,g2,rfl,g3⟩:=hr
  simp only [qMq] at h
  split at h
  ·rename_i t x vs' h1 h2
   simp only [wc] at h;subst h
   obtain ⟨gh',e1,e2,_⟩:=A.objs l _ (hsub _ _ h1)
   rw [g1] at e1;injection e1 with e1;subst e1
   obtain ⟨sh,pl⟩:=gh
   simp only at g2 e2;subst g2;subst e2
   exact ⟨_,r,rfl,⟨_,p,0,g1, .inl ⟨rfl,by simp [qdl,qDa]⟩,by simp⟩,qDD A hsub h2 g3⟩
  ·rename_i v vs' h1 h2
   simp only [wc] at h;subst h
   obtain ⟨gh',e1,e2,_⟩:=A.objs l _ (hsub _ _ h1)
   rw [g1] at e1;injection e1 with e1;subst e1
   obtain ⟨sh,pl⟩:=gh
   simp only at g2 e2;subst g2;subst e2
   exact ⟨_,r,rfl,⟨.cell,p,g1,rfl⟩,qDD A hsub h2 g3⟩
  ·cases h
theorem VRdL.append {N:Bool→Nat→Prop}:∀{as bs:List AV} {us vs:List Value},VRdL w N K as us→VRdL w N K bs vs→VRdL w N K (as++bs) (us++vs)
 |[],_,_,_,h,h'=>by simp only [VRdL] at h;subst h;exact h'
 |a::as,bs,us,vs,h,h'=>by
  obtain ⟨v,r,rfl,h1,h2⟩:=h
  exact ⟨v,r++vs,rfl,h1,h2.append h'⟩
theorem qtI (A:At c P GT H lk K w ev ρ nl) {o:Oper} {f:Operand} {args:Array Operand} {ats:Array TypeId} (ho:o.op= .call {callee:= .value f,args:=args,argTypes:=ats}) {orc:Option COrc} {out:Out} (h:qGb P GT ev lk nl orc o.type o.op=some out) (hc:qfg out.conds):
  Does P o ρ w (Lands c H K w nl out):=by
 rw [ho] at h
 simp only [qGb] at h
 split at h
 ·rename_i g caps vs oc hf hvs
  split at h
  ·rename_i cs hcs
   obtain ⟨cvs,h1,h2⟩:=A.one hf
   have hv:=(qYx A hvs).append (qDD A.inv A.sub hcs h2)
   have hcall:=qkG A hv h hc
   have harr:((args.map ρ)++cvs.toArray)=(args.toList.map ρ++cvs).toArray:=by apply wUa;simp
   have hex:(execOp ρ o).run P w=(callFunc g (args.toList.map ρ++cvs).toArray).run P w:=by
    simp only [execOp,ho,resolve,h1,Deferred.ofValue,invoke,pure_bind]
    rw [←harr]
    simp
   unfold Does
   rw [hex]
   unfold qcp at hcall
   revert hcall
   generalize (callFunc g (args.toList.map ρ++cvs).toArray).run P w=r
   intro hcall
   split at hcall
   ·exact hcall
   ·exact hcall
   ·exact hcall.elim
  ·cases h
 ·cases h
end
end Go.Ab

/-
  Maps of keys that are compared part by part.
-/
set_option linter.unusedVariables false
set_option linter.unusedSimpArgs false
namespace Go.Ab
open Go
theorem qGt (bs:ByteArray):∀(d i:Nat) (r:List UInt8),bs.size - i=d→ByteArray.toList.loop bs i r=r.reverse++bs.data.toList.drop i
 |0,i,r,h=>by
  have hs:bs.size=bs.data.toList.length:=by cases bs;simp [ByteArray.size]
  rw [ByteArray.toList.loop,if_neg (by omega),List.drop_of_length_le (by omega),List.append_nil]
 |d+1,i,r,h=>by
  have hs:bs.size=bs.data.toList.length:=by cases bs;simp [ByteArray.size]
  have hi:i<bs.data.toList.length:=by omega
  rw [ByteArray.toList.loop,if_pos (by omega),qGt bs d (i+1) _ (by omega),List.drop_eq_getElem_cons hi]
  have hg:bs.get! i=bs.data.toList[i]:=by
   cases bs with
   |mk a=>
    have hi':i<a.size:=by simpa using hi
    show a[i]! =_
    rw [getElem!_pos a i hi']
    simp
  rw [hg]
  simp
theorem qHt (bs:ByteArray):wW bs=bs.data.toList:=by
 rw [wW,qGt bs bs.size 0 [] (by omega)];simp
theorem toList_inj {a b:ByteArray} (h:wW a=wW b):a=b:=by
 have h1:a.data.toList=b.data.toList:=by
  rw [←qHt,←qHt];exact h
 cases a;cases b
 simp only [ByteArray.mk.injEq]
 exact Array.toList_inj.1 h1
theorem qXB (a b:ByteArray):(a==b)=decide (a=b):=by
 cases a with|mk a=>cases b with|mk b=>
 show (a==b)=_
 by_cases h:a=b
 ·subst h;simp
 ·simp [h]
mutual
theorem qnE:∀{t:Ty} {x y:pden t},qyf t=true→peq t x y=true→x=y
 | .int _,x,y,_,h=>by simpa [peq] using h
 | .bool,x,y,_,h=>by simpa [peq] using h
 | .str,x,y,_,h=>toList_inj (by simpa [peq] using h)
 | .arr n e,x,y,hc,h=>qmH hc h
 | .pair a b,x,y,hc,h=>by
   simp only [qyf,wz] at hc
   simp only [peq,wz] at h
   exact Prod.ext (qnE hc.1 h.1) (qnE hc.2 h.2)
 | .unit,x,y,_,_=>rfl
theorem qmH {e:Ty}:∀{xs ys:List (pden e)},qyf e=true→qdA (peq e) xs ys=true→xs=ys
 |[],[],_,_=>rfl
 |[],_::_,_,h=>by simp [qdA] at h
 |_::_,[],_,h=>by simp [qdA] at h
 |x::xs,y::ys,hc,h=>by
  simp only [qdA,wz] at h
  rw [qnE hc h.1,qmH hc h.2]
end
section
variable {w:World} {N:Nat→Prop}
theorem qDI {α:Type} {R:α→List Value→Prop} (hR:∀x a b,R x a→R x b→a=b):∀{xs:List α} {a b:List Value},Cat R xs a→Cat R xs b→a=b
 |[],_,_,h1,h2=>by simp only [Cat] at h1 h2;rw [h1,h2]
 |x::xs,_,_,h1,h2=>by
  obtain ⟨a1,a2,rfl,p1,p2⟩:=h1
  obtain ⟨b1,b2,rfl,q1,q2⟩:=h2
  rw [hR _ _ _ p1 q1,qDI hR p2 q2]
theorem qAy:∀{t:Ty} {x:pden t} {a b:List Value},qyf t=true→PRd w N t x a→PRd w N t x b→a=b
 | .int _,_,_,_,_,h1,h2=>by simp only [PRd] at h1 h2;rw [h1,h2]
 | .bool,_,_,_,_,h1,h2=>by simp only [PRd] at h1 h2;rw [h1,h2]
 | .str,_,_,_,_,h1,h2=>by simp only [PRd] at h1 h2;rw [h1,h2]
 | .arr n e,_,_,_,hc,h1,h2=>qDI (R:=PRd w N e) (fun _ _ _ p q=>qAy (t:=e) hc p q) h1.2 h2.2
 | .pair a b,_,_,_,hc,h1,h2=>by
   simp only [qyf,wz] at hc
   obtain ⟨a1,a2,rfl,p1,p2⟩:=h1
   obtain ⟨b1,b2,rfl,q1,q2⟩:=h2
   rw [qAy hc.1 p1 q1,qAy hc.2 p2 q2]
 | .unit,_,_,_,_,h1,h2=>by simp only [PRd] at h1 h2;rw [h1,h2]
def qTz:Value→Prop
 | .int _ _| .bool _| .string _=>True
 |_=>False
theorem qSB {α:Type} {R:α→List Value→Prop} (hR:∀x a,R x a→∀v∈a,qTz v):∀{xs:List α} {a:List Value},Cat R xs a→∀v∈a,qTz v
 |[],_,h1=>by simp only [Cat] at h1;subst h1;simp
 |x::xs,_,h1=>by
  obtain ⟨a1,a2,rfl,p1,p2⟩:=h1
  intro v hv
  rcases wR.1 hv with hv|hv
  ·exact hR _ _ p1 v hv
  ·exact qSB hR p2 v hv
theorem qkq:∀{t:Ty} {x:pden t} {a:List Value},qyf t=true→PRd w N t x a→∀v∈a,qTz v
 | .int _,_,_,_,h1=>by simp only [PRd] at h1;subst h1;simp [qTz]
 | .bool,_,_,_,h1=>by simp only [PRd] at h1;subst h1;simp [qTz]
 | .str,_,_,_,h1=>by simp only [PRd] at h1;subst h1;simp [qTz]
 | .arr n e,_,_,hc,h1=>qSB (R:=PRd w N e) (fun _ _ p=>qkq (t:=e) hc p) h1.2
 | .pair a b,_,_,hc,h1=>by
   simp only [qyf,wz] at hc
   obtain ⟨a1,a2,rfl,p1,p2⟩:=h1
   intro v hv
   rcases wR.1 hv with hv|hv
   ·exact qkq hc.1 p1 v hv
   ·exact qkq hc.2 p2 v hv
 | .unit,_,_,_,h1=>by simp only [PRd] at h1;subst h1;simp
theorem qJx {n:Nat} {v:Value} (h:qTz v):Instr.sameBits n v v=true:=by
 have hs:∀s:ByteArray,(s==s)=true:=fun s=>by rw [qXB];simp
 cases v <;> simp [qTz] at h <;> cases n <;> simp [Instr.sameBits,hs]
theorem qdE {n:Nat}:∀{a:List Value},(∀v∈a,qTz v)→((a.zip a).all fun (x,y)=>Instr.sameBits n x y)=true
 |[],_=>rfl
 |v::a,h=>by
  simp only [List.zip_cons_cons,wnb,wz]
  exact ⟨qJx (h v (by simp)),qdE (fun u hu=>h u (by simp [hu]))⟩
theorem qmJ {t:Ty} {x:pden t} {a:List Value} {n:Nat} (hc:qyf t=true) (h:PRd w N t x a):Instr.sameBits (n+1) (qhb t a) (qhb t a)=true:=by
 have hb:=qkq hc h
 have hl:=h.length
 unfold qhb
 cases ha:t.agg with
 |true=>
  simp only [if_true,Instr.sameBits,beq_self_eq_true,Bool.true_and]
  exact qdE hb
 |false=>
  simp only [wI,if_false]
  cases a with
  |nil=>cases t <;> simp [Ty.agg,Ty.sz] at ha hl
  |cons v r=>exact qJx (hb v (by simp))
theorem qKM {t:Ty} {x y:pden t} {a b:List Value} (hc:qyf t=true) (h1:PRd w N t x a) (h2:PRd w N t y b) (h:peq t x y=true):a=b:=by
 have:=qnE hc h;subst this
 exact qAy hc h1 h2
end
section
variable {P:Program} {w:World} {N:Nat→Prop}
def qOs {α β:Type} (eq:α→α→Bool) (x:α):List (α×β)→Nat→Option Nat
 |[],_=>none
 |e::r,i=>if eq x e.1 then some i else qOs eq x r (i+1)
theorem qFo {kT:TypeId} {k v:Ty} (hk:qod P tyD kT=some k) (hc:qyf k=true) (hq:qhI P tyD kT=true) {u:pden k} {cu:List Value} (hu:PRd w N k u cu):
  ∀(xs:List (pden k×pden v)) (es:List MapEntry) (i:Nat),MRd w N k v xs es→
   (Instr.findAsking kT (qhb k cu) es i).run P w= .ok (match qOs (peq k) u xs i with
    |some j=>some (j,((es[j - i]?).map (·.val)).getD default)
    |none=>none) w
 |[],es,i,h=>by simp only [MRd] at h;subst h;simp [Instr.findAsking,qOs]
 |x::xs,es,i,h=>by
  obtain ⟨e,r,ck,cv,rfl,e1,e2,h1,h2,h3⟩:=h
  have heq:(Op.equal kT (qhb k cu) e.key).run P w= .ok (peq k u x.1) w:=by
   rw [e1];exact qmp tyD wHa kT k u x.1 cu ck (by decide) hk hc hq hu h1
  simp only [Instr.findAsking,wu,heq,wq,qOs]
  by_cases hp:peq k u x.1=true
  ·simp [hp]
  ·have ih:=qFo hk hc hq hu xs r (i+1) h3
   have hlt:∀(l:List (pden k×pden v)) (i j:Nat),qOs (peq k) u l i=some j→i≤j:=by
    intro l
    induction l with
    |nil=>intro i j h;simp [qOs] at h
    |cons y l ih=>
     intro i j h
     simp only [qOs] at h
     split at h
     ·injection h with h;omega
     ·have:=ih _ _ h;omega
   simp only [hp,wI,if_false]
   rw [ih]
   cases hm:qOs (peq k) u xs (i+1) with
   |none=>rfl
   |some j=>
    have:=hlt _ _ _ hm
    have e:j - i=(j - (i+1))+1:=by omega
    simp [e]
theorem qzC {kT:TypeId} {n:Nat} {k:Ty} {d:TypeDesc} (hk:qod P n kT=some k) (hd:P.underlying kT=some d) {x y:pden k} {a b:List Value} (hx:PRd w N k x a) (hy:PRd w N k y b) {r:Bool} (h:wvb d (qhb k a) (qhb k b)=some r):r=peq k x y:=by
 obtain ⟨m,d',i,hm,hd',hr,_⟩:=qHc hk
 rw [hd] at hd';injection hd' with hd';subst hd'
 cases k with
 |int q=>
  simp only [PRd] at hx hy;subst hx hy
  simp only [qhb,Ty.agg,wI,if_false,List.headD_cons] at h
  cases d <;> simp [wvb] at h
  simp only [peq];rw [←h];rfl
 |bool=>
  simp only [PRd] at hx hy;subst hx hy
  simp only [qhb,Ty.agg,wI,if_false,List.headD_cons] at h
  cases d <;> simp [wvb] at h
  simp only [peq];rw [←h]
 |str=>
  simp only [PRd] at hx hy;subst hx hy
  simp only [qhb,Ty.agg,wI,if_false,List.headD_cons] at h
  cases d <;> simp [wvb] at h
  simp only [peq];rw [←h]
  rw [qXB]
  by_cases he:(x:ByteArray)=y
  ·subst he;simp
  ·have:¬wW x=wW y:=fun e=>he (toList_inj e)
   rw [decide_eq_false he]
   exact (beq_eq_false_iff_ne.2 this).symm
 |arr _ _=>simp [qhb,Ty.agg,wvb] at h
 |pair _ _=>simp [qhb,Ty.agg,wvb] at h
 |unit=>simp [qhb,Ty.agg,wvb] at h
 |slice _=>
  obtain ⟨A,c,rfl,_⟩:=hx
  simp [qhb,Ty.agg,wvb] at h
 |fn=>
  simp only [PRd] at hx hy;subst hx hy
  cases x <;> simp [qhb,Ty.agg,wvb] at h
theorem qcu {kT:TypeId} {n:Nat} {k v:Ty} {d:TypeDesc} (hk:qod P n kT=some k) (hd:P.underlying kT=some d) {u:pden k} {cu:List Value} (hu:PRd w N k u cu):
  ∀(xs:List (pden k×pden v)) (es:List MapEntry) (i:Nat) (r:Option (Nat×Value)),MRd w N k v xs es→Instr.findNow d (qhb k cu) es i=some r→
   r=match qOs (peq k) u xs i with
    |some j=>some (j,((es[j - i]?).map (·.val)).getD default)
    |none=>none
 |[],es,i,r,h,hf=>by simp only [MRd] at h;subst h;simp only [Instr.findNow,wc] at hf;subst hf;simp [qOs]
 |x::xs,es,i,r,h,hf=>by
  obtain ⟨e,r',ck,cv,rfl,e1,e2,h1,h2,h3⟩:=h
  simp only [Instr.findNow] at hf
  rw [e1] at hf
  cases hs:wvb d (qhb k cu) (qhb k ck) with
  |none=>rw [hs] at hf;cases hf
  |some b=>
   have hb:=qzC hk hd hu h1 hs
   rw [hs] at hf
   simp only [qOs,←hb]
   cases b with
   |true=>simp only [wc] at hf;subst hf;simp
   |false=>
    simp only at hf
    have ih:=qcu hk hd hu xs r' (i+1) r h3 hf
    have hlt:∀(l:List (pden k×pden v)) (i j:Nat),qOs (peq k) u l i=some j→i≤j:=by
     intro l
     induction l with
     |nil=>intro i j h;simp [qOs] at h
     |cons y l ih=>
      intro i j h
      simp only [qOs] at h
      split at h
      ·injection h with h;omega
      ·have:=ih _ _ h;omega
    rw [ih]
    simp only [wI,if_false]
    cases hm:qOs (peq k) u xs (i+1) with
    |none=>rfl
    |some j=>
     have:=hlt _ _ _ hm
     have e:j - i=(j - (i+1))+1:=by omega
     simp [e]
theorem qdu {kT:TypeId} {k v:Ty} (hk:qod P tyD kT=some k) (hc:qyf k=true) (hq:qhI P tyD kT=true) {u:pden k} {cu:List Value} (hu:PRd w N k u cu) {xs:List (pden k×pden v)} {es:List MapEntry} (h:MRd w N k v xs es):
  (Instr.findKey kT (qhb k cu) es).run P w= .ok (match qOs (peq k) u xs 0 with
    |some j=>some (j,((es[j]?).map (·.val)).getD default)
    |none=>none) w:=by
 obtain ⟨m,d,i,hm,hd,hr,_⟩:=qHc hk
 simp only [Instr.findKey,wu,run_underlying hd,wq]
 cases hf:Instr.findNow d (qhb k cu) es 0 with
 |some r=>
  have:=qcu hk hd hu xs es 0 r h hf
  simp only [wYa] at this
  rw [this];rfl
 |none=>
  have:=qFo hk hc hq hu xs es 0 h
  simp only [wYa] at this
  exact this
theorem qMx {em:Bool} {d m:Nat} {E:TypeId} {e:Ty} (hE:qod P m E=some e)
  (IH:∀(x:pden e) (c1:List Value),PRd w N e x c1→(web em d E (qhb e c1)).run P w= .ok () w) (cs:List Value):
  ∀(us:List (pden e)) (k:Nat),Cat (PRd w N e) us (cs.drop (k*e.sz))→
   (forIn (List.range' k us.length 1) PUnit.unit fun i __s=>do
    let n ←sizeOf E
    let a ←part E cs.toArray (i*n)
    web em d E a
    pure (ForInStep.yield PUnit.unit):Sem PUnit).run P w= .ok PUnit.unit w
 |[],k,_=>by simp
 |x::us,k,h1=>by
  obtain ⟨a1,a2,a3⟩:=qwI (fun _ _=>PRd.length) h1
  have ih:=qMx hE IH cs us (k+1) a2
  simp only [ww,List.range'_succ,List.forIn_cons,wu,qLb hE,qMj hE a3,wq,IH x _ a1]
  simpa using ih
theorem qgs {em:Bool} {d:Nat} {m:Nat} (IH:∀(T:TypeId) (t:Ty) (x:pden t) (c1:List Value),qod P m T=some t→qyf t=true→PRd w N t x c1→(web em d T (qhb t c1)).run P w= .ok () w):
  ∀(fs:List Field) (ts:List Ty) (o:Nat),qDk (qod P m) fs=some ts→qXj P fs ts o=true→qyf (qYd ts)=true→
   ∀(x:pden (qYd ts)) (cs:List Value),PRd w N (qYd ts) x (cs.drop o)→o≤cs.length→
    (forIn fs PUnit.unit fun f __s=>if f.name≠ "_" then do
      let a ←part f.type cs.toArray f.offset
      web em d f.type a
      pure (ForInStep.yield PUnit.unit)
     else do
      pure PUnit.unit
      pure (ForInStep.yield PUnit.unit):Sem PUnit).run P w= .ok PUnit.unit w
 |[],ts,o,ht,ho,hc,x,cs,hx,h1=>by simp
 |f::fs,ts,o,ht,ho,hc,x,cs,hx,h1=>by
  simp only [qDk] at ht
  split at ht
  ·rename_i t ts' e1 e2
   simp only [wc] at ht;subst ht
   simp only [qXj,wz,beq_iff_eq] at ho
   simp only [qYd,qyf,wz] at hc
   obtain ⟨c1,c2,ec,x1,x2⟩:=hx
   have lc:=x1.length
   have llc:cs.length=o+(c1.length+c2.length):=by have:=congrArg we ec;simp at this;omega
   have kc:cut cs o t.sz=c1:=by unfold cut;rw [ec,←lc,List.take_left'];rfl
   have rc:cs.drop (o+t.sz)=c2:=by rw [←List.drop_drop,ec,←lc,List.drop_left'];rfl
   have ih:=qgs IH fs ts' (o+t.sz) e2 ho.2 hc.2 x.2 cs (by rw [rc];exact x2) (by omega)
   simp only [List.forIn_cons,wu]
   by_cases hn:f.name≠ "_"
   ·rw [if_pos hn,ho.1]
    simp only [wu,qMj e1 (show o+t.sz≤cs.length by omega),wq,kc,IH f.type t x.1 c1 e1 hc.1 x1,wE]
    exact ih
   ·rw [if_neg hn]
    simp only [wu,wE,wq]
    exact ih
  ·cases ht
theorem qdn {em:Bool}:∀(n d:Nat) (T:TypeId) (t:Ty) (x:pden t) (cs:List Value),n≤d→qod P n T=some t→qyf t=true→PRd w N t x cs→
  (web em d T (qhb t cs)).run P w= .ok () w
 |0,d,T,t,x,cs,hn,ht,hc,hx=>by simp [qod] at ht
 |n+1,0,T,t,x,cs,hn,ht,hc,hx=>by omega
 |n+1,d+1,T,t,x,cs,hn,ht,hc,hx=>by
  obtain ⟨m,ds',i,hm,hd,hr,_⟩:=qHc ht
  injection hm with hm;subst hm
  have IH:=fun T t x c1 h1 h2 h3=>qdn (em:=em) n d T t x c1 (by omega) h1 h2 h3
  cases ds' <;> simp only [qEk] at hr <;> first|(cases hr;done)|skip
  ·simp only [wc] at hr;subst hr
   simp [web,run_underlying hd]
  ·simp only [wc] at hr;subst hr
   simp [web,run_underlying hd]
  ·simp only [wc] at hr;subst hr
   simp [web,run_underlying hd]
  ·split at hr
   ·simp only [wc] at hr;subst hr;simp [qyf] at hc
   ·cases hr
  ·split at hr
   ·rename_i k E _ e he
    simp only [wc] at hr;subst hr
    simp only [qyf] at hc
    obtain ⟨lx,cx⟩:=hx
    have L:=qMx (em:=em) (d:=d) he (fun x c1 h1=>IH E e x c1 he hc h1) cs x 0 (by simpa using cx)
    rw [lx] at L
    simp only [qhb,Ty.agg,if_true,web,wu,run_underlying hd,wq,qLb he,Std.Legacy.Range.forIn_eq_forIn_range',Std.Legacy.Range.size,wYa,Nat.add_sub_cancel,Nat.div_one]
    rw [L];rfl
   ·cases hr
  ·rename_i fs
   split at hr
   ·rename_i ts hts
    split at hr
    ·rename_i ho
     simp only [wc] at hr;subst hr
     have ha:(qYd ts).agg=true:=by cases ts <;> rfl
     have L:=qgs (em:=em) (d:=d) IH fs.toList ts 0 hts ho hc x cs (by simpa using hx) (by omega)
     simp only [qhb,ha,if_true,web,wu,run_underlying hd,wq]
     rw [←Array.forIn_toList]
     first|exact L|(rw [L];rfl)|(refine Eq.trans (congrArg (fun r=>Result.andThen r _) L) ?_;rfl)
    ·cases hr
   ·cases hr
  ·simp only [wc] at hr;subst hr;simp [qyf] at hc
theorem qrq {k v:Ty} {u:pden k}:∀{xs:List (pden k×pden v)} {es:List MapEntry} {i:Nat},MRd w N k v xs es→match qOs (peq k) u xs i with
  |some j=>i≤j∧∃e z cv ck x,es[j - i]?=some e∧xs[j - i]?=some (x,z)∧qPs (peq k) u xs=some z∧e.val=qhb v cv∧PRd w N v z cv∧e.key=qhb k ck∧PRd w N k x ck∧peq k u x=true
  |none=>qPs (peq k) u xs=none
 |[],es,i,h=>by simp [qOs,qPs]
 |x::xs,es,i,h=>by
  obtain ⟨e,r,ck,cv,rfl,e1,e2,h1,h2,h3⟩:=h
  simp only [qOs,qPs]
  by_cases hp:peq k u x.1=true
  ·simp only [hp,if_true]
   exact ⟨ws _,e,x.2,cv,ck,x.1,by simp,by simp,rfl,e2,h2,e1,h1,hp⟩
  ·simp only [hp,wI,if_false]
   have ih:=qrq (u:=u) (i:=i+1) h3
   cases hm:qOs (peq k) u xs (i+1) with
   |none=>rw [hm] at ih;exact ih
   |some j=>
    rw [hm] at ih
    obtain ⟨h0,e',z,cv',ck',x',a1,a2,a3⟩:=ih
    have hj:j - i=(j - (i+1))+1:=by omega
    exact ⟨by omega,e',z,cv',ck',x',by rw [hj];simpa using a1,by rw [hj];simpa using a2,a3⟩
theorem qAH {k v:Ty} (hc:qyf k=true) {u:pden k} {z:pden v} {cu cz:List Value} (hu:PRd w N k u cu) (hz:PRd w N v z cz) (f:MapEntry→MapEntry) (nw:MapEntry) (hf:∀e,(f e).key=qhb k cu∧(f e).val=qhb v cz) (hn:nw.key=qhb k cu∧nw.val=qhb v cz):
  ∀{xs:List (pden k×pden v)} {es:List MapEntry} {i:Nat},MRd w N k v xs es→MRd w N k v (qVA (peq k) u z xs) (match qOs (peq k) u xs i with
   |some j=>es.modify (j - i) f
   |none=>es++[nw])
 |[],es,i,h=>by
  simp only [MRd] at h;subst h
  exact ⟨nw,[],cu,cz,rfl,hn.1,hn.2,hu,hz,rfl⟩
 |x::xs,es,i,h=>by
  obtain ⟨e,r,ck,cv,rfl,e1,e2,h1,h2,h3⟩:=h
  simp only [qOs,qVA]
  by_cases hp:peq k u x.1=true
  ·simp only [hp,if_true,Nat.sub_self]
   exact ⟨f e,r,cu,cz,by simp [List.modify],(hf e).1,(hf e).2,hu,hz,h3⟩
  ·simp only [hp,wI,if_false]
   have ih:=qAH hc hu hz f nw hf hn (i:=i+1) h3
   have h0:=qrq (u:=u) (i:=i+1) h3
   cases hm:qOs (peq k) u xs (i+1) with
   |none=>rw [hm] at ih;exact ⟨e,_,ck,cv,rfl,e1,e2,h1,h2,ih⟩
   |some j=>
    rw [hm] at ih h0
    have hj:j - i=(j - (i+1))+1:=by omega
    simp only
    rw [hj]
    exact ⟨e,_,ck,cv,by simp,e1,e2,h1,h2,ih⟩
end
section
variable {c:Cx} {P:Program} {GT:qTg} {H lk:qZb} {K:Kn} {w:World} {ev:Operand→TV} {ρ:Operand→Value} {nl:Nat}
theorem qpo {T:TypeId} {k v:Ty} (h:qMF P T=some (k,v)):∃KT E,P.underlying T=some (.map KT E)∧qod P tyD KT=some k∧qod P tyD E=some v∧qyf k=true∧qhI P tyD KT=true∧k.flat=true∧v.flat=true∧qHi P E v=true:=by
 unfold qMF at h
 split at h
 ·rename_i KT E hd
  split at h
  ·rename_i k' v' e1 e2
   split at h
   ·rename_i hb
    simp only [wc,wk] at h;obtain ⟨rfl,rfl⟩:=h
    simp only [wz] at hb
    exact ⟨KT,E,hd,e1,e2,hb.1.1.1.1,hb.1.1.1.2,hb.1.1.2,hb.1.2,hb.2⟩
   ·cases h
  ·cases h
 ·cases h
theorem qVy {N:Bool→Nat→Prop} (hN:∀b,N true b→N false b) {k:Ty} {x:AV} {u:pden k} {a:Value} (hf:k.flat=true) (h:qkv k x=some u) (hr:VRd w N K x a):∃cu,a=qhb k cu∧PRd w (fun _=>False) k u cu:=by
 unfold qkv at h
 split at h
 ·rename_i y hy
  obtain ⟨h1,h2⟩:=qor hr hy
  exact ⟨_,h2,(qFt hN h1 h).flat hf⟩
 ·cases h
theorem qGH (A:At c P GT H lk K w ev ρ nl) {k v:Ty} (hk:k.flat=true) (hv:v.flat=true):Lands c H K w nl ⟨.one (.mapr nl),[(nl,some (.map k v []))],[]⟩ (.map (some w.heap.size)) (w.alloc (.map #[] 0)):=by
 have S:=Stp.new (w':=w.alloc (.map #[] 0)) A.inv A.ng nl nl ⟨ws _,by omega⟩ (A.fresh nl (ws _) (by omega)) (.map k v []) ⟨.map k v,some ⟨w.heap.size,0,0⟩⟩ (qzb w _) (fun p hp=>by
   injection hp with hp;subst hp
   exact ⟨ws _,by rw [qjb];exact wqa _⟩) (fun N' K' hNlow hkk=>⟨rfl,_,#[],0,rfl,qkw w _,hk,hv,rfl⟩)
 exact ⟨_,S,⟨.map k v,⟨w.heap.size,0,0⟩,qRa,rfl⟩⟩
theorem qFB (A:At c P GT H lk K w ev ρ nl) {o:Oper} {T:TypeId} {r:Option Operand} (ho:o.op= .makeMap T r) {orc:Option COrc} {out:Out} (h:qGb P GT ev lk nl orc o.type o.op=some out):
  Does P o ρ w (Lands c H K w nl out):=by
 rw [ho] at h
 cases r with
 |none=>
  simp only [qGb] at h
  split at h
  ·rename_i k v hT
   obtain ⟨KT,E,hd,_,_,_,_,hk,hv,_⟩:=qpo hT
   simp only [wc] at h;subst h
   refine Does.value (v:= .map (some w.heap.size)) (w':=w.alloc (.map #[] 0)) ?_ (qGH A hk hv)
   simp only [execOp,ho,Instr.makeMap,Option.map_none]
   rfl
  ·cases h
 |some x=>
  simp only [qGb] at h
  split at h
  ·rename_i k v q n hT hx
   obtain ⟨KT,E,hd,_,_,_,_,hk,hv,_⟩:=qpo hT
   simp only [wc] at h;subst h
   have hx':=A.one hx
   simp only [VRd] at hx'
   refine Does.value (v:= .map (some w.heap.size)) (w':=w.alloc (.map #[] 0)) ?_ (qGH A hk hv)
   simp only [execOp,ho,Instr.makeMap,wCa,hx',wu,Sem.run_map,run_underlying hd,wq,asInt]
   rfl
  ·cases h
theorem qHq {T E:TypeId} {e:Ty} (h:qyt P T=some (e,E)):∃d,P.underlying T=some (.chan d E)∧qod P tyD E=some e:=by
 unfold qyt at h
 split at h
 ·rename_i d E' hd
  split at h
  ·rename_i e' he
   simp only [wc,wk] at h;obtain ⟨rfl,rfl⟩:=h
   exact ⟨d,hd,he⟩
  ·cases h
 ·cases h
theorem qwz (A:At c P GT H lk K w ev ρ nl) {o:Oper} {T:TypeId} {r:Operand} (ho:o.op= .makeChan T r) {orc:Option COrc} {out:Out} (h:qGb P GT ev lk nl orc o.type o.op=some out) (hc:qfg out.conds):
  Does P o ρ w (Lands c H K w nl out):=by
 rw [ho] at h
 simp only [qGb] at h
 split at h
 ·rename_i e E q n hT hx
  obtain ⟨d,hd,he⟩:=qHq hT
  obtain ⟨_,_,i,_,_,_,_,hi,_⟩:=qHc he
  simp only [wc] at h;subst h
  obtain ⟨c1,c2,c3,_⟩:=hc
  have hx':=A.one hx
  simp only [VRd] at hx'
  have hby:P.bytesOf E=i.bytes:=by simp [Program.bytesOf,hi]
  rw [hby] at c3
  have S:=Stp.new (w':=w.alloc (.chan n.toNat #[] false 0 0 false)) A.inv A.ng nl nl ⟨ws _,by omega⟩ (A.fresh nl (ws _) (by omega)) (.chan e true n.toNat [] false) ⟨.chan e n.toNat,some ⟨w.heap.size,0,0⟩⟩ (qzb w _) (fun p hp=>by
   injection hp with hp;subst hp
   exact ⟨ws _,by rw [qjb];exact wqa _⟩) (fun N' K' hNlow hkk=>⟨rfl,_,#[],0,0,rfl,qkw w _,rfl⟩)
  refine Does.value (v:= .chan (some w.heap.size)) (w':=w.alloc (.chan n.toNat #[] false 0 0 false)) ?_ ⟨_,S,⟨.chan e n.toNat,⟨w.heap.size,0,0⟩,qRa,rfl⟩⟩
  have hk:IntKind.max .i64=9223372036854775807:=rfl
  simp only [execOp,ho,Instr.makeChan,hx',wu,Sem.run_map,run_underlying hd,qFh hi,wq,asInt,asIntOf,wE]
  rw [if_neg (by
   rw [hk]
   intro h
   rcases h with h|h|h
   ·omega
   ·omega
   ·have:(2:Int) ^ 48 - 112=281474976710544:=by decide
    rw [this] at h
    omega)]
  rfl
 ·cases h
theorem qBE (A:At c P GT H lk K w ev ρ nl) {k v:Ty} {x:AV} {es:List (pden k×pden v)} {a:Value} (h:qDJ lk k v x=some es) (hr:VRd w (NN c H K w) K x a):
  (a= .map none∧es=[])∨∃l p en clock,x= .mapr l∧lk l=some (.map k v es)∧a= .map (some p.blk)∧K l=some ⟨.map k v,some p⟩∧w.heap[p.blk]?=some (.map en clock)∧MRd w (fun _=>False) k v es en.toList:=by
 unfold qDJ at h
 split at h
 ·rename_i l
  split at h
  ·rename_i k' v' es' hl
   split at h
   ·rename_i he
    obtain ⟨rfl,rfl⟩:=he
    simp only [wc] at h;subst h
    obtain ⟨sh,pl,k1,rfl⟩:=hr
    obtain ⟨gh,g1,g2,p,en,clock,g3,g4,g5⟩:=A.inv.objs l _ (A.sub _ _ hl)
    rw [k1] at g1;injection g1 with g1;subst g1
    simp only [wc] at g3;subst g3
    simp only at g2;subst g2
    exact .inr ⟨l,pl,en,clock,rfl,hl,rfl,k1,g4,g5.2.2⟩
   ·cases h
  ·cases h
 ·simp only [wc] at h;subst h
  exact .inl ⟨hr,rfl⟩
 ·cases h
theorem qlF {E:TypeId} {t:Ty} (h:qHi P E t=true):(zeroValue E).run P w= .ok (qhb t (qDj t)) w:=by
 obtain ⟨v,h1,h2,i,h3,h4⟩:=qge (w:=w) h
 rw [h1]
 unfold qHi at h
 rw [h3] at h
 simp only [h4,wz] at h
 have h5:=h.1
 clear h h4 h1
 rw [←h2];clear h2
 cases v <;> simp_all [qhb,wpb]
theorem qvD (A:At c P GT H lk K w ev ρ nl) {o:Oper} {T:TypeId} {m x:Operand} {ok:Bool} (ho:o.op= .lookup T m x ok) {orc:Option COrc} {out:Out} (h:qGb P GT ev lk nl orc o.type o.op=some out):
  Does P o ρ w (Lands c H K w nl out):=by
 rw [ho] at h
 simp only [qGb] at h
 split at h
 ·rename_i k v mv xv hT hm hx
  obtain ⟨KT,E,hd,tk,tv,hc,hq,hk,hv,hz⟩:=qpo hT
  split at h
  ·rename_i u es hu he
   simp only [wc] at h;subst h
   obtain ⟨cu,ru,pu⟩:=qVy (fun b=>ui b) hk hu (A.one hx)
   have key:∃en:Array MapEntry,MRd w (fun _=>False) k v es en.toList∧(Instr.lookup T (ρ m) (ρ x) ok).run P w=(do
     web en.isEmpty 10000 KT (ρ x)
     let (v,b) ←match ←Instr.findKey KT (ρ x) en.toList with
      |some (_,v)=>pure (v,true)
      |none=>pure (←zeroValue E,false)
     pure (if ok then .tuple #[v, .bool b] else v):Sem Value).run P w:=by
    rcases qBE A he (A.one hm) with ⟨e1,rfl⟩|⟨l,p,en,clock,_,_,e1,_,hb,hM⟩
    ·refine ⟨#[],rfl,?_⟩
     simp only [Instr.lookup,e1,wu,run_underlying hd,wq,wE]
     rfl
    ·refine ⟨en,hM,?_⟩
     have hg:(getObj p.blk).run P w= .ok (.map en clock) w:=by simp [getObj,Sem.run,hb]
     simp only [Instr.lookup,e1,wu,run_underlying hd,wq,hg,wE]
     rfl
   obtain ⟨en,hM,hrun⟩:=key
   have hck:=qdn (P:=P) (w:=w) (em:=en.isEmpty) tyD 10000 KT k u cu (by decide) tk hc pu
   have hfk:=qdu tk hc hq pu hM
   have hg:=qrq (u:=u) (i:=0) hM
   have res:∃cv b,(Instr.lookup T (ρ m) (ρ x) ok).run P w= .ok (if ok then .tuple #[qhb v cv, .bool b] else qhb v cv) w∧PRd w (fun _=>False) v ((qPs (peq k) u es).getD (qua v)) cv∧b=(qPs (peq k) u es).isSome:=by
    rw [hrun,ru]
    simp only [wu,hck,hfk,wq]
    cases hi:qOs (peq k) u es 0 with
    |none=>
     rw [hi] at hg
     simp only [wu,qlF hz,wq,wE]
     exact ⟨qDj v,false,rfl,by rw [hg];exact qaf,by rw [hg];rfl⟩
    |some j=>
     rw [hi] at hg
     obtain ⟨_,e,z,cv,ck,x',a1,a2,a3,a4,a5,_⟩:=hg
     simp only [wYa] at a1
     simp only [a1,wCa,wJa,wE,wq,wu,a4]
     exact ⟨cv,true,rfl,by rw [a3];exact a5,by rw [a3];rfl⟩
   obtain ⟨cv,b,r1,r2,r3⟩:=res
   refine Does.value (v:=if ok then .tuple #[qhb v cv, .bool b] else qhb v cv) (w':=w) (by simp [execOp,ho,r1]) (Lands.same A.inv ?_)
   have hval:VRd w (NN c H K w) K (qqC v (inj false v ((qPs (peq k) u es).getD (qua v)))) (qhb v cv):=
    qZq (qej (fun b=>ui b) false (r2.flat hv))
   cases ok with
   |false=>exact hval
   |true=>exact ⟨[qhb v cv, .bool b],rfl,⟨_,_,rfl,hval,⟨_,_,rfl,by rw [r3];rfl,rfl⟩⟩⟩
  ·cases h
 ·cases h
theorem qQr {N:Bool→Nat→Prop}:∀{vs:List AV} {ls:List Nat} {us:List Value},qRr vs=some ls→VRdL w N K vs us→capsRd K ls us
 |[],ls,us,h,hr=>by
  simp only [qRr,wc] at h;subst h
  exact hr
 |a::r,ls,us,h,hr=>by
  obtain ⟨v,us',rfl,hv,hr⟩:=hr
  unfold qRr at h
  split at h
  ·rename_i he;cases he
  ·rename_i t l q he
   injection he with h1 h2;subst h1;subst h2
   split at h
   ·rename_i ls' hls
    simp only [wc] at h;subst h
    obtain ⟨gh,pl,po,k1,k2,rfl⟩:=hv
    obtain ⟨hpl,hpo⟩:gh.pl=some pl∧po=0:=by
     rcases k2 with ⟨h1,k2⟩|⟨e1,n,ps',i',q,m,q1,q2,q3,q4⟩|⟨a1,e1,n,ps',i',q,m,q1,q2,q3,q4⟩
     ·refine ⟨h1,?_⟩
      obtain ⟨sh,pl0⟩:=gh
      cases sh with
      |box t'=>simp only [qdl,qDa,wc,wk] at k2;exact k2.1.symm
      |row e n ps=>simp [qdl] at k2
      |cell=>simp [qdl] at k2
      |map k v=>simp [qdl] at k2
      |chan e cap=>simp [qdl] at k2
     ·cases q2
     ·cases q2
    subst hpo
    exact ⟨_,pl,us',k1,hpl,rfl,qQr hls hr⟩
   ·cases h
  ·rename_i l q he
   injection he with h1 h2;subst h1;subst h2
   split at h
   ·rename_i ls' hls
    simp only [wc] at h;subst h
    obtain ⟨sh,pl,k1,rfl⟩:=hv
    exact ⟨_,pl,us',k1,rfl,rfl,qQr hls hr⟩
   ·cases h
  ·cases h
theorem qvz (A:At c P GT H lk K w ev ρ nl) {o:Oper} {fn:Fn} {first caps:Array Operand} (ho:o.op= .makeFunc fn first caps) {orc:Option COrc} {out:Out} (h:qGb P GT ev lk nl orc o.type o.op=some out):
  Does P o ρ w (Lands c H K w nl out):=by
 rw [ho] at h
 cases fn with
 |func f=>
  simp only [qGb] at h
  split at h
  ·rename_i vs hfst hvs
   split at h
   ·rename_i ls hls
    simp only [Ab.one,wc] at h;subst h
    have hv:=qYx A hvs
    have hc:=qQr hls hv
    have hf:first=#[]:=by apply wUa;simpa using hfst
    subst hf
    have he:caps.map ρ=(caps.toList.map ρ).toArray:=by apply wUa;simp
    exact Does.value (v:= .func (.func f) #[] (caps.map ρ)) (w':=w) (by simp [execOp,ho,Instr.makeFunc]) (Lands.one A.inv ⟨_,by rw [he],hc⟩)
   ·cases h
  ·cases h
 |_=>simp [qGb] at h
theorem qnx (A:At c P GT H lk K w ev ρ nl) {o:Oper} {T:TypeId} {m x y:Operand} (ho:o.op= .mapUpdate T m x y) {orc:Option COrc} {out:Out} (h:qGb P GT ev lk nl orc o.type o.op=some out):
  Does P o ρ w (Lands c H K w nl out):=by
 rw [ho] at h
 simp only [qGb] at h
 split at h
 ·rename_i k v l xv yv hT hm hx hy
  obtain ⟨KT,E,hd,tk,tv,hc,hq,hk,hv,hz⟩:=qpo hT
  split at h
  ·rename_i u z es hu hz' he
   simp only [wc] at h;subst h
   obtain ⟨cu,ru,pu⟩:=qVy (fun b=>ui b) hk hu (A.one hx)
   obtain ⟨cz,rz,pz⟩:=qVy (fun b=>ui b) hv hz' (A.one hy)
   rcases qBE A he (A.one hm) with ⟨e1,_⟩|⟨l',p,en,clock,e0,hlk,e1,hK,hb,hM⟩
   ·obtain ⟨sh,pl,k1,e2⟩:=A.one hm
    rw [e1] at e2;cases e2
   ·injection e0 with e0;subst e0
    have hg:(getObj p.blk).run P w= .ok (.map en clock) w:=by simp [getObj,Sem.run,hb]
    have hs:∀ob,(setObj p.blk ob).run P w= .ok () {w with heap:=w.heap.setIfInBounds p.blk ob}:=fun ob=>by simp [setObj,Sem.run,hb]
    have hck:=qdn (P:=P) (w:=w) (em:=false) tyD 10000 KT k u cu (by decide) tk hc pu
    have hfk:=qdu tk hc hq pu hM
    have hmg:=qrq (u:=u) (i:=0) hM
    have hlt:p.blk<w.heap.size:=(A.inv.own l _ _ p (A.sub _ _ hlk) hK (.inl rfl)).1
    have res:∃en' clock',(Instr.mapUpdate T (ρ m) (ρ x) (ρ y)).run P w= .ok () {w with heap:=w.heap.setIfInBounds p.blk (.map en' clock')}∧MRd w (fun _=>False) k v (qVA (peq k) u z es) en'.toList:=by
     have hms:=qAH (i:=0) hc pu pz (fun e=>{e with key:=qhb k cu,val:=qhb v cz}) {key:=qhb k cu,val:=qhb v cz,born:=clock} (fun e=>⟨rfl,rfl⟩) ⟨rfl,rfl⟩ hM
     simp only [Instr.mapUpdate,e1,wu,run_underlying hd,wq,hg,ru,hck,hfk]
     cases hi:qOs (peq k) u es 0 with
     |none=>
      rw [hi] at hms
      simp only [hs,rz]
      exact ⟨_,_,rfl,by simpa using hms⟩
     |some j=>
      rw [hi] at hms hmg
      obtain ⟨_,e,z',cv,ck,x',a1,a2,a3,a4,a5,a6,a7,a8⟩:=hmg
      have hkk:=qKM hc pu a7 a8
      simp only [wYa] at a1 hms
      have a1':en[j]?=some e:=by simpa using a1
      have hkeep:(Instr.keyThatStays (qhb k ck) (qhb k cu)).run P w= .ok (qhb k cu) w:=by
       rw [←hkk]
       simp [Instr.keyThatStays,qmJ (n:=9999) hc pu]
      simp only [a1',wCa,wJa,a6,wu,hkeep,wq,hs,rz]
      exact ⟨_,_,rfl,by simpa using hms⟩
    obtain ⟨en',clock',r1,r2⟩:=res
    refine Does.skip (w':={w with heap:=w.heap.setIfInBounds p.blk (.map en' clock')}) (by simp [execOp,ho,r1]) ?_
    have S:=Stp.write (w':={w with heap:=w.heap.setIfInBounds p.blk (.map en' clock')}) A.inv nl l _ (.map k v (qVA (peq k) u z es)) ⟨.map k v,some p⟩ p (A.sub _ _ hlk) hK (.inl rfl)
     ⟨rfl,rfl,rfl,by simp,fun q hq=>by simp [Array.getElem?_setIfInBounds,wGa hq]⟩
     (fun N' K' _ hkk=>⟨rfl,p,en',clock',rfl,by simp [hlt],hk,hv,r2.keep ⟨fun _ h=>h.elim⟩⟩)
    exact ⟨K,S,trivial⟩
  ·cases h
 ·cases h
end
end Go.Ab

/-
  Every operation.
-/
set_option linter.unusedVariables false
set_option linter.unusedSimpArgs false
namespace Go.Ab
open Go
section
variable {c:Cx} {P:Program} {GT:qTg} {H lk:qZb} {K:Kn} {w:World} {ev:Operand→TV} {ρ:Operand→Value} {nl:Nat}
theorem qsE (A:At c P GT H lk K w ev ρ nl) {o:Oper} {orc:Option COrc} {out:Out} (h:qGb P GT ev lk nl orc o.type o.op=some out) (hc:qfg out.conds):
  Does P o ρ w (Lands c H K w nl out):=by
 cases ho:o.op with
 |move x=>exact qEB A (.inl ho) h
 |assign x=>exact qEB A (.inr ho) h
 |pick x y z=>exact qqI A ho h
 |alloc T=>exact qeG A ho h
 |box T x=>exact qMJ A ho h
 |build T ps=>exact qcG A ho h
 |buildSlice T n ps=>exact qSv A ho h
 |load T x=>exact qrI A ho h hc
 |store T x y=>exact qXF A ho h
 |binOp op T x y b=>exact qdG A ho h hc
 |unOp op T x=>exact qpI A ho h
 |convert s d x=>exact qIB A ho h hc
 |makeInterface T x=>exact qIq A ho h
 |extract x i=>exact qHB A ho h
 |fieldAddr T x i=>exact qqx A ho h
 |field T x i=>exact qaG A ho h
 |indexAddr T x i=>exact qpx A ho h hc
 |index T x i=>exact qZF A ho h hc
 |slice T x lo hi mx=>
  cases mx with
  |none=>exact qYF A ho h hc
  |some m=>
   cases hi with
   |none=>rw [ho] at h;simp [qGb] at h
   |some h'=>exact quD A ho h hc
 |nilCheck x=>exact quz A ho h
 |makeSlice T x y=>exact qox A ho h hc
 |call cl=>
  obtain ⟨callee,args,ats⟩:=cl
  cases callee with
  |builtin b=>exact qJB A ho h hc
  |value f=>exact qtI A ho h hc
  |invoke r n=>rw [ho] at h;simp [qGb] at h
 |makeFunc fn first caps=>exact qvz A ho h
 |makeMap T r=>exact qFB A ho h
 |makeChan T r=>exact qwz A ho h hc
 |lookup T m x ok=>exact qvD A ho h
 |mapUpdate T m x y=>exact qnx A ho h
 |_=>rw [ho] at h;simp [qGb] at h
end
end Go.Ab

/-
  Regions in the order of their text.
-/
set_option linter.unusedVariables false
set_option linter.unusedSimpArgs false
namespace Go.Ab
open Go
structure Rel (c:Cx) (P:Program) (GT:qTg) (nt:Nat) (T:Nat→TV) (H:qZb) (K:Kn) (a:Act) (w:World):Prop where
 inv:Inv c H K w
 tmps:∀t,TVRd w (NN c H K w) K (T t) (a.eval (.tmp t))
 size:a.tmps.size=nt
 defers:a.defers=c.df
 ng:c.ng≤c.w0.heap.size
 gng:c.ng=(ngOf GT)
 glob:Glob P GT w
section
variable {c:Cx} {P:Program} {GT:qTg} {H lk:qZb} {K:Kn} {w:World} {T:Nat→TV} {a:Act} {nl nt:Nat}
theorem qgG {N:Bool→Nat→Prop} {v:Value}:VRd w N K (qAD v) v:=by
 unfold qAD
 split <;> simp [VRd]
theorem Rel.evT (R:Rel c P GT nt T H K a w) (x:Operand):TVRd w (NN c H K w) K (Ab.evT GT T x) (a.eval x):=by
 cases x with
 |tmp t=>exact R.tmps t
 |const v=>exact qgG
 |global g=>
  show VRd _ _ _ (qSH GT g) _
  unfold qSH
  split
  ·rename_i t x hx
   obtain ⟨h1,h2,cs,h3,h4⟩:=R.glob.2.1 g t x hx
   refine ⟨g,0,cs,rfl, .inr ?_,h3,h4.keep ⟨fun _ h=>h.elim⟩⟩
   have hg:g<c.ng:=by rw [R.gng];exact h1
   refine ⟨wY h1 R.glob.1,?_, .inr (.inr ⟨rfl, .inr hg⟩)⟩
   rintro ⟨l,o,gh,p,q1,q2,q3,q4⟩
   have:=(R.inv.own l o gh p q1 q2 q3).2.2
   omega
  ·trivial
 |func f=>exact ⟨[],by simp [Act.eval],rfl⟩
theorem Rel.keepT (R:Rel c P GT nt T H K a w) (ts:List Nat) (x:Operand):TVRd w (NN c H K w) K (Ab.evT GT (Ab.keepT ts T) x) (a.eval x):=by
 cases x with
 |tmp t=>
  show TVRd _ _ _ (Ab.keepT ts T t) _
  unfold Ab.keepT
  split
  ·exact R.tmps t
  ·trivial
 |const v=>exact R.evT (.const v)
 |global g=>exact R.evT (.global g)
 |func f=>exact R.evT (.func f)
theorem qOj {L:List Nat}:∀l o,qwd H L l=some o→H l=some o:=by
 intro l o h
 unfold qwd at h
 split at h
 ·exact h
 ·cases h
theorem Glob.keep {w':World} (h:Glob P GT w) (hs:(ngOf GT)≤w'.heap.size) (hb:∀g,g<(ngOf GT)→w'.heap[g]?=w.heap[g]?):Glob P GT w':=by
 refine ⟨hs,fun g t x hx=>?_,fun g hx=>?_,fun g hx=>?_⟩
 ·obtain ⟨h1,h2,cs,h3,h4⟩:=h.2.1 g t x hx
  exact ⟨h1,h2,cs,h3.keep (hb g h1),h4.keep ⟨fun _ h=>h.elim⟩⟩
 ·obtain ⟨u,ty,k1,k2,k3,k4⟩:=h.2.2.1 g hx
  exact ⟨u,ty,k1,k2,k3,(qrm (hb g (h.2.1 g _ _ hx).1)).trans k4⟩
 ·obtain ⟨m,k4⟩:=h.2.2.2 g hx
  exact ⟨m,(qrm (hb g (h.2.1 g _ _ hx).1)).trans k4⟩
theorem Rel.glob_nn (R:Rel c P GT nt T H K a w) {g:Nat} (h:g<(ngOf GT)):NN c H K w false g:=by
 refine ⟨wY h R.glob.1,?_, .inr (.inr ⟨rfl, .inr (by rw [R.gng];exact h)⟩)⟩
 rintro ⟨l,o,gh,p,q1,q2,q3,q4⟩
 have:=(R.inv.own l o gh p q1 q2 q3).2.2
 have:=R.gng
 omega
def quw (T:Nat→TV):Option Nat→TV→Nat→TV
 |some d,v=>fun t=>if t=d then v else T t
 |none,_=>T
theorem Rel.put (R:Rel c P GT nt T H K a w) {upd:List (Nat×Option Obj)} {K':Kn} {w':World} (S:Stp c H K w upd nl K' w') {dst:Option Nat} {v:TV} {u:Value} (hv:TVRd w' (NN c (qsb H upd) K' w') K' v u) (hd:qUk nt dst=true):
  Rel c P GT nt (quw T dst v) (qsb H upd) K' (a.put dst u) w':=by
 have hsz:(ngOf GT)≤w'.heap.size:=by
  have:=S.inv.fr.size
  have:=R.ng
  have:=R.gng
  omega
 refine ⟨S.inv,fun t=>?_,?_,?_,R.ng,R.gng,R.glob.keep hsz (fun g hg=>((S.keep.n false).k g (R.glob_nn hg)).2)⟩
 ·cases dst with
  |none=>exact (R.tmps t).keep S.keep
  |some d=>
   simp only [qUk,decide_eq_true_eq] at hd
   simp only [quw]
   split
   ·rename_i e
    subst e
    have:(a.put (some t) u).eval (.tmp t)=u:=by
     simp [Act.put,Act.eval,R.size,hd]
    rw [this];exact hv
   ·rename_i e
    rw [Act.eval_put (fun d' hd' hx=>e (by cases hd';cases hx;rfl))]
    exact (R.tmps t).keep S.keep
 ·cases dst <;> simp [Act.put,R.size]
 ·cases dst <;> simp [Act.put,R.defers]
theorem qtz {o:Oper} {R:Value→World→Prop} {next:Act→World→Prop} {Q:Exit→Act→World→Prop} (h:Does P o a.eval w R) (hn:∀v w',R v w'→next (a.put o.dst v) w'):o.wp P a w next Q:=by
 unfold Does at h
 unfold Oper.wp
 generalize (execOp a.eval o).run P w=r at h ⊢
 cases r with
 |ok n w'=>
  cases n <;> simp only at h
  case value v=>exact hn v w' h
  case skip=>exact hn _ w' h
  case enter f args=>
   refine Calls.mono h ?_
   rintro e w'' ⟨v,rfl,h2⟩
   exact hn v w'' h2
 |halt x w'=>exact h.elim
theorem qmi (R:Rel c P GT nt T H K a w) {ops:Array Oper} {o:Oper} {ts:List Nat} {b:Bool} (h:qmF ops.toList (Ab.keepT ts T) o=some b):wob o (yielded ops a.tmps)=b:=by
 unfold qmF at h
 unfold wob
 split at h
 ·rename_i hg;rw [hg];simpa using h
 ·rename_i j want hg
  rw [hg]
  simp only
  split at h
  ·rename_i og hog
   split at h
   ·rename_i d hd
    split at h
    ·rename_i b' hb
     simp only [wc] at h
     have h1:=R.keepT ts (.tmp d)
     have h2:Ab.evT GT (Ab.keepT ts T) (.tmp d)= .one (.bool b'):=hb
     rw [h2] at h1
     have h3:a.eval (.tmp d)= .bool b':=h1
     have h4:a.tmps[d]?=some (.bool b'):=by
      simp only [Act.eval,wya] at h3
      cases h5:a.tmps[d]? with
      |none=>rw [h5] at h3;cases h3
      |some x=>rw [h5] at h3;simpa using h3
     have h6:ops[j]?=some og:=by rw [←wfa];exact hog
     have:yielded ops a.tmps j=some b':=by simp [yielded,h6,hd,h4]
     rw [this,←h]
     cases b' <;> cases want <;> rfl
    ·rename_i hb
     simp only [wc] at h
     have h1:=R.keepT ts (.tmp d)
     have h2:Ab.evT GT (Ab.keepT ts T) (.tmp d)= .one .gone:=hb
     rw [h2] at h1
     have h3:a.eval (.tmp d)=undef:=h1
     have h6:ops[j]?=some og:=by rw [←wfa];exact hog
     have:yielded ops a.tmps j=none:=by
      simp only [yielded,h6,hd,wy]
      simp only [Act.eval,wya] at h3
      cases h5:a.tmps[d]? with
      |none=>rfl
      |some x=>rw [h5] at h3;simp only [wJa] at h3;subst h3;rfl
     rw [this,←h];rfl
    ·cases h
   ·cases h
  ·cases h
theorem qnz (R:Rel c P GT nt T H K a w) {ops:Array Oper} {i:Nat} {o:Oper} {ts:List Nat} {os os':List Orc} {e:Ev} {cs:List Prop} (h:qAG P GT ops.toList (Ab.keepT ts T) H nl i o os=some (e,cs,os')) (hc:qfg cs) (hd:qUk nt o.dst=true)
  (hf:∀l,nl≤l→l<nl+8→K l=none) {next:Act→World→Prop} {Q:Exit→Act→World→Prop}
  (hn:∀a' w' K',Rel c P GT nt (quw T o.dst e.v) (qsb H e.upd) K' a' w'→(∀l,K' l=K l∨(nl≤l∧l<nl+8))→(∀l gh,K l=some gh→K' l=some gh)→next a' w'):
  (if wob o (yielded ops a.tmps) then o.wp P a w next Q∨(o.asks P a w∧LetsOut Q) else next (a.put o.dst undef) w):=by
 unfold qAG at h
 split at h
 ·rename_i hw
  rw [qmi R hw]
  simp only [if_true]
  refine .inl ?_
  unfold qvF at h
  split at h
  ·rename_i oc os1 hoc
   simp only at h
   split at h
   ·rename_i out hout
    split at h
    ·rename_i v c2 os2 hdec
     simp only [wc,wk] at h
     obtain ⟨rfl,rfl,rfl⟩:=h
     have hc1:qfg c2∧qfg out.conds:=by
      clear hdec hn
      induction c2 with
      |nil=>exact ⟨trivial,hc⟩
      |cons x xs ih=>exact ⟨⟨hc.1,(ih hc.2).1⟩,(ih hc.2).2⟩
     have A:At c P GT H (qwd H (qSC (Ab.evT GT (Ab.keepT ts T)) o.op++qEu oc)) K w (Ab.evT GT (Ab.keepT ts T)) a.eval nl:=
      ⟨R.inv,qOj,fun x=>R.keepT ts x,hf,R.ng,R.glob,R.gng⟩
     refine qtz (qsE A hout hc1.2) ?_
     rintro u w' ⟨K',S,hu⟩
     have hv:TVRd w' (NN c (qsb H out.upd) K' w') K' v u:=by
      unfold qom at hdec
      split at hdec
      ·split at hdec
       ·rename_i b c' os'' hb
        simp only [wc,wk] at hdec
        obtain ⟨rfl,rfl,rfl⟩:=hdec
        rw [hb] at hu
        have:b=c':=hc1.1.1
        rw [←this];exact hu
       ·cases hdec
      ·simp only [wc,wk] at hdec
       obtain ⟨rfl,rfl,rfl⟩:=hdec
       exact hu
     exact hn _ _ K' (R.put S hv hd) S.fresh S.keep.k
    ·cases h
   ·cases h
  ·cases h
 ·rename_i hw
  rw [qmi R hw]
  simp only [wc,wk] at h
  obtain ⟨rfl,rfl,rfl⟩:=h
  simp only [wI,if_false]
  exact hn _ _ K (R.put (Stp.refl R.inv nl) rfl hd) (fun _=> .inl rfl) (fun _ _ h=>h)
 ·cases h
theorem qhq {σ:St} {dst:Option Nat} {e:Ev}:quw σ.look dst e.v=(σ.put dst e).look:=by
 funext t
 cases dst with
 |none=>rfl
 |some d=>
  simp only [quw,St.look,St.put,qeN,lookL]
  by_cases h:t=d
  ·subst h;simp
  ·rw [if_neg h,if_neg (wGa h)]
theorem qRm {σ:St} {dst:Option Nat} {e:Ev}:qsb (qib σ.heap) e.upd=qib (σ.put dst e).heap:=by
 simp only [St.put,qjv]
theorem qxj:∀{a b:List Prop},qfg (a++b)→qfg a∧qfg b
 |[],b,h=>⟨trivial,h⟩
 |x::a,b,h=>⟨⟨h.1,(qxj h.2).1⟩,(qxj h.2).2⟩
structure RelS (c:Cx) (P:Program) (GT:qTg) (nt:Nat) (σ:St) (K:Kn) (a:Act) (w:World):Prop where
 rel:Rel c P GT nt σ.look (qib σ.heap) K a w
 fresh:∀l,σ.next≤l→K l=none
theorem qNx {ops:Array Oper} {Q:Exit→Act→World→Prop} {n0:Nat}:∀(r:List Oper) (i:Nat) (σ σ':St) (os os':List Orc) (cs:List Prop) (tr:List (Oper×Ev)) (K:Kn) (a:Act) (w:World),
  qfn P GT nt ops.toList i r σ os=some (σ',cs,os',tr)→qfg cs→ops.toList.drop i=r→i+r.length=ops.size→σ.next=n0→Rel c P GT nt σ.look (qib σ.heap) K a w→(∀l,n0+8*i≤l→K l=none)→
  (∀a' w' K',Rel c P GT nt σ'.look (qib σ'.heap) K' a' w'→(∀l,n0+8*ops.size≤l→K' l=none)→(∀l gh,K l=some gh→K' l=some gh)→Q .normal a' w')→
  wpOps P ops Q (List.range' i r.length) a w
 |[],i,σ,σ',os,os',cs,tr,K,a,w,h,hc,hr,hi,hn,R,hf,hQ=>by
  simp only [qfn,wc,wk] at h
  obtain ⟨rfl,rfl,rfl,rfl⟩:=h
  simp only [wN] at hi
  exact hQ a w K R (fun l hl=>hf l (by omega)) (fun _ _ h=>h)
 |o::r,i,σ,σ',os,os',cs,tr,K,a,w,h,hc,hr,hi,hn,R,hf,hQ=>by
  simp only [qfn] at h
  split at h
  ·rename_i e c1 os1 hev
   split at h
   ·rename_i hd
    split at h
    ·rename_i σ2 c2 os2 tr2 hrest
     simp only [wc,wk] at h
     obtain ⟨rfl,rfl,rfl,rfl⟩:=h
     obtain ⟨hc1,hc2⟩:=qxj hc
     have hoi:ops[i]?=some o:=by
      rw [←wfa,←List.head?_drop,hr];rfl
     have hr2:ops.toList.drop (i+1)=r:=by
      rw [←List.tail_drop,hr];rfl
     rw [ww,List.range'_succ,wpOps_cons]
     unfold wpOp
     rw [hoi]
     refine qnz R hev hc1 hd (fun l h1 h2=>hf l (by omega)) ?_
     intro a' w' K' R' hk hm
     rw [qhq,qRm (dst:=o.dst)] at R'
     refine qNx r (i+1) (σ.put o.dst e) _ os1 _ c2 tr2 K' a' w' hrest hc2 hr2 (by simp only [ww] at hi;omega) hn R' (fun l hl=>?_) (fun a'' w'' K'' R'' h1 h2=>hQ a'' w'' K'' R'' h1 (fun l gh hl=>h2 l gh (hm l gh hl)))
     rcases hk l with h1|h1
     ·rw [h1];exact hf l (by omega)
     ·omega
    ·cases h
   ·cases h
  ·cases h
end
end Go.Ab

/-
  Regions in any order that their edges allow.
-/
set_option linter.unusedVariables false
set_option linter.unusedSimpArgs false
namespace Go.Ab
open Go
def sel (L:Nat→Bool):Nat→List (Oper×Ev)→St→St
 |_,[],σ=>σ
 |i,p::r,σ=>sel L (i+1) r (if L i then σ.put p.1.dst p.2 else σ)
theorem uv {σ:St} {dst:Option Nat} {e:Ev} {d:Nat}:(σ.put dst e).look d=if dst=some d then e.v else σ.look d:=by
 cases dst with
 |none=>simp [St.look,St.put,qeN]
 |some d'=>
  simp only [St.look,St.put,qeN,lookL,wc]
  by_cases h:d'=d <;> simp [h]
theorem uu {σ:St} {dst:Option Nat} {e:Ev} {l:Nat}:qib (σ.put dst e).heap l=match lookL e.upd l with
  |some o=>o
  |none=>qib σ.heap l:=by
 simp only [St.put,qjv,qsb]
 cases lookL e.upd l <;> rfl
theorem qbq {L:Nat→Bool}:∀{tr:List (Oper×Ev)} {i:Nat} {σ:St},(∀j,i≤j→L j=false)→sel L i tr σ=σ
 |[],_,_,_=>rfl
 |p::r,i,σ,h=>by
  simp only [sel,h i (ws _),wI,if_false]
  exact qbq (fun j hj=>h j (by omega))
theorem qpt {L L':Nat→Bool} {d:Nat}:∀{tr:List (Oper×Ev)} {i:Nat} {σ τ:St},(∀k p,tr[k]?=some p→L (i+k)≠L' (i+k)→p.1.dst≠some d)→σ.look d=τ.look d→(sel L i tr σ).look d=(sel L' i tr τ).look d
 |[],_,_,_,_,h=>h
 |p::r,i,σ,τ,h,h0=>by
  simp only [sel]
  refine qpt (fun k q hk hl=>h (k+1) q (by simpa using hk) (by rw [show i+(k+1)=i+1+k by omega];exact hl)) ?_
  have h1:=h 0 p rfl
  simp only [wXa] at h1
  cases hL:L i <;> cases hL':L' i <;> simp only [hL,hL',ne_eq,not_true_eq_false,wI,if_false,if_true,reduceCtorEq,not_false_eq_true,forall_const] at h1 ⊢
  ·exact h0
  ·rw [uv,if_neg h1];exact h0
  ·rw [uv,if_neg h1];exact h0
  ·rw [uv,uv,h0]
theorem qqt {L L':Nat→Bool} {l:Nat}:∀{tr:List (Oper×Ev)} {i:Nat} {σ τ:St},(∀k p,tr[k]?=some p→L (i+k)≠L' (i+k)→lookL p.2.upd l=none)→qib σ.heap l=qib τ.heap l→qib (sel L i tr σ).heap l=qib (sel L' i tr τ).heap l
 |[],_,_,_,_,h=>h
 |p::r,i,σ,τ,h,h0=>by
  simp only [sel]
  refine qqt (fun k q hk hl=>h (k+1) q (by simpa using hk) (by rw [show i+(k+1)=i+1+k by omega];exact hl)) ?_
  have h1:=h 0 p rfl
  simp only [wXa] at h1
  cases hL:L i <;> cases hL':L' i <;> simp only [hL,hL',ne_eq,not_true_eq_false,wI,if_false,if_true,reduceCtorEq,not_false_eq_true,forall_const] at h1 ⊢
  ·exact h0
  ·rw [uu,h1];exact h0
  ·rw [uu,h1];exact h0
  ·rw [uu,uu,h0]
theorem qZt {L:Nat→Bool} {d:Nat}:∀{tr:List (Oper×Ev)} {i k:Nat} {σ:St} {p:Oper×Ev},tr[k]?=some p→L (i+k)=true→p.1.dst=some d→(∀k' q,k<k'→tr[k']?=some q→L (i+k')=true→q.1.dst≠some d)→(sel L i tr σ).look d=p.2.v
 |[],_,_,_,_,h,_,_,_=>by simp at h
 |q::r,i,0,σ,p,h,hL,hd,hl=>by
  simp only [wSa,wc] at h;subst h
  simp only [wXa] at hL
  simp only [sel,hL,if_true]
  rw [qpt (L':=fun _=>false) (τ:=σ.put q.1.dst q.2) (fun k' q' hk hn=>?_) rfl,qbq (fun _ _=>rfl),uv,if_pos hd]
  refine hl (k'+1) q' (by omega) (by simpa using hk) ?_
  rw [show i+(k'+1)=i+1+k' by omega]
  simpa using hn
 |q::r,i,k+1,σ,p,h,hL,hd,hl=>by
  simp only [sel]
  refine qZt (k:=k) (by simpa using h) (by rw [show i+1+k=i+(k+1) by omega];exact hL) hd (fun k' q' hk hq hn=>hl (k'+1) q' (by omega) (by simpa using hq) ?_)
  rw [show i+(k'+1)=i+1+k' by omega];exact hn
theorem qau {L:Nat→Bool} {l:Nat} {ob:Option Obj}:∀{tr:List (Oper×Ev)} {i k:Nat} {σ:St} {p:Oper×Ev},tr[k]?=some p→L (i+k)=true→lookL p.2.upd l=some ob→(∀k' q,k<k'→tr[k']?=some q→L (i+k')=true→lookL q.2.upd l=none)→qib (sel L i tr σ).heap l=ob
 |[],_,_,_,_,h,_,_,_=>by simp at h
 |q::r,i,0,σ,p,h,hL,hd,hl=>by
  simp only [wSa,wc] at h;subst h
  simp only [wXa] at hL
  simp only [sel,hL,if_true]
  rw [qqt (L':=fun _=>false) (τ:=σ.put q.1.dst q.2) (fun k' q' hk hn=>?_) rfl,qbq (fun _ _=>rfl),uu,hd]
  refine hl (k'+1) q' (by omega) (by simpa using hk) ?_
  rw [show i+(k'+1)=i+1+k' by omega]
  simpa using hn
 |q::r,i,k+1,σ,p,h,hL,hd,hl=>by
  simp only [sel]
  refine qau (k:=k) (by simpa using h) (by rw [show i+1+k=i+(k+1) by omega];exact hL) hd (fun k' q' hk hq hn=>hl (k'+1) q' (by omega) (by simpa using hq) ?_)
  rw [show i+(k'+1)=i+1+k' by omega];exact hn
section
variable {c:Cx} {P:Program} {GT:qTg} {H lk:qZb} {K:Kn} {w:World} {T:Nat→TV} {a:Act} {nl nt:Nat}
theorem qbu {L L':Nat→Bool}:∀{tr:List (Oper×Ev)} {i:Nat} {σ:St},(∀k,k<tr.length→L (i+k)=L' (i+k))→sel L i tr σ=sel L' i tr σ
 |[],_,_,_=>rfl
 |p::r,i,σ,h=>by
  have h0:=h 0 (by simp)
  simp only [wXa] at h0
  simp only [sel,h0]
  exact qbu (fun k hk=>by
   have:=h (k+1) (by simp;omega)
   rwa [show i+1+k=i+(k+1) by omega])
theorem qhs {ops:List Oper}:∀(r:List Oper) (i:Nat) (σ σ':St) (os os':List Orc) (cs:List Prop) (tr:List (Oper×Ev)),qfn P GT nt ops i r σ os=some (σ',cs,os',tr)→qfg cs→
  σ'=sel (fun _=>true) i tr σ∧tr.map (·.1)=r∧∀k p,tr[k]?=some p→∃os1 os2 cs1,qAG P GT ops (keepT (p.1.looksAt ops.toArray) (sel (fun j=>decide (j<i+k)) i tr σ).look) (qib (sel (fun j=>decide (j<i+k)) i tr σ).heap) (σ.next+8*(i+k)) (i+k) p.1 os1=some (p.2,cs1,os2)∧qfg cs1∧qUk nt p.1.dst=true
 |[],i,σ,σ',os,os',cs,tr,h,hc=>by
  simp only [qfn,wc,wk] at h
  obtain ⟨rfl,rfl,rfl,rfl⟩:=h
  exact ⟨rfl,rfl,fun k p hk=>by simp at hk⟩
 |o::r,i,σ,σ',os,os',cs,tr,h,hc=>by
  simp only [qfn] at h
  split at h
  ·rename_i e c1 os1 hev
   split at h
   ·rename_i hd
    split at h
    ·rename_i σ2 c2 os2 tr2 hrest
     simp only [wc,wk] at h
     obtain ⟨rfl,rfl,rfl,rfl⟩:=h
     obtain ⟨hc1,hc2⟩:=qxj hc
     obtain ⟨h1,h2,h3⟩:=qhs r (i+1) _ _ _ _ _ _ hrest hc2
     refine ⟨by simp only [sel,if_true];exact h1,by simp [h2],fun k p hk=>?_⟩
     cases k with
     |zero=>
      simp only [wSa,wc] at hk;subst hk
      rw [qbq (fun j hj=>by simp;omega)]
      exact ⟨os,os1,c1,hev,hc1,hd⟩
     |succ k=>
      simp only [wRa] at hk
      obtain ⟨o1,o2,c3,g1,g2,g3⟩:=h3 k p hk
      refine ⟨o1,o2,c3,?_,g2,g3⟩
      have:sel (fun j=>decide (j<i+(k+1))) i ((o,e)::tr2) σ=sel (fun j=>decide (j<i+1+k)) (i+1) tr2 (σ.put o.dst e):=by
       simp only [sel]
       rw [if_pos (by simp)]
       exact qbu (fun k' _=>by rw [show i+(k+1)=i+1+k by omega])
      rw [this,show i+(k+1)=i+1+k by omega]
      exact g1
    ·cases h
   ·cases h
  ·cases h
theorem qHw {L:List Nat} {H H':qZb} (h:∀l∈L,H l=H' l):qwd H L=qwd H' L:=by
 funext l
 unfold qwd
 split
 ·rename_i hl
  exact h l (by simpa [wva] using hl)
 ·rfl
theorem qVF {ops:List Oper} {H H':qZb} {i:Nat} {o:Oper} {os os':List Orc} {e:Ev} {cs:List Prop} (h:qAG P GT ops T H nl i o os=some (e,cs,os')) (hH:∀l∈e.need,H l=H' l):qAG P GT ops T H' nl i o os=some (e,cs,os'):=by
 unfold qAG at h ⊢
 split at h
 ·rename_i hw
  unfold qvF at h ⊢
  split at h
  ·rename_i oc os1 hoc
   simp only [hoc] at h ⊢
   split at h
   ·rename_i out hout
    split at h
    ·rename_i v c2 os2 hdec
     simp only [wc,wk] at h
     obtain ⟨rfl,rfl,rfl⟩:=h
     rw [←qHw hH,hout]
     simp only [hdec]
    ·cases h
   ·cases h
  ·cases h
 ·exact h
 ·cases h
theorem qFu {acc:List Nat} {i:Nat}:∀{ps:List Nat},(qRA acc ps).testBit i=true→∃p∈ps,i=p∨(acc.getD p 0).testBit i=true
 |[],h=>by simp [qRA] at h
 |p::ps,h=>by
  simp only [qRA,Nat.testBit_or,wub] at h
  rcases h with (h|h)|h
  ·refine ⟨p,wK, .inl ?_⟩
   rw [Nat.one_shiftLeft,Nat.testBit_two_pow] at h
   have h9:p=i:=by simpa using h
   exact h9.symm
  ·exact ⟨p,wK, .inr h⟩
  ·obtain ⟨q,h1,h2⟩:=qFu h
   exact ⟨q,wH _ h1,h2⟩
theorem qjw {L:Nat→Bool}:∀{ops:List Oper} {acc:List Nat},(∀j i,L j=true→(acc.getD j 0).testBit i=true→L i=true)→(∀k o,ops[k]?=some o→L (acc.length+k)=true→∀i∈qJw o,L i=true)→
  ∀j i,L j=true→((qfM ops acc).getD j 0).testBit i=true→L i=true
 |[],acc,h,_,j,i,hj,hi=>h j i hj hi
 |o::ops,acc,h,hp,j,i,hj,hi=>by
  simp only [qfM] at hi
  refine qjw (fun j i hj hi=>?_) (fun k o' hk hL i hi=>hp (k+1) o' (by simpa using hk) (by rw [wl] at hL;simp at hL;rw [show acc.length+(k+1)=acc.length+1+k by omega];exact hL) i hi) j i hj hi
  by_cases h1:j<acc.length
  ·rw [wt,wha h1,←wt] at hi
   exact h j i hj hi
  ·by_cases h2:j=acc.length
   ·subst h2
    rw [wt,wda (ws _)] at hi
    simp only [Nat.sub_self,wSa,wJa] at hi
    obtain ⟨p,hp1,hp2⟩:=qFu hi
    have hLp:=hp 0 o rfl hj p hp1
    rcases hp2 with rfl|hp2
    ·exact hLp
    ·exact h p i hLp hp2
   ·rw [wt,List.getElem?_eq_none (by simp;omega)] at hi
    simp at hi
def lst (listed:Array Bool) (j:Nat):Bool:=listed.getD j false
def cnt (n:Nat) (listed:Array Bool):Nat:=(wVa n).countP fun j=>!lst listed j
theorem qeh {listed:Array Bool} {i j:Nat} (hi:i<listed.size):lst (listed.setIfInBounds i true) j=(decide (j=i)||lst listed j):=by
 unfold lst
 by_cases h:j=i
 ·subst h;simp [hi]
 ·rw [getD_set_ne false (wGa h)];simp [h]
theorem qLL {n:Nat} {listed:Array Bool} {i:Nat} (hs:i<listed.size) (hi:lst listed i=false):i<n→cnt n (listed.setIfInBounds i true)+1=cnt n listed:=by
 induction n with
 |zero=>intro h;omega
 |succ n ih=>
  intro hn
  simp only [cnt,List.range_succ,List.countP_append,List.countP_singleton] at ih ⊢
  by_cases h:i=n
  ·subst h
   have:(wVa i).countP (fun j=>!lst (listed.setIfInBounds i true) j)=(wVa i).countP (fun j=>!lst listed j):=by
    apply List.countP_congr
    intro j hj
    have:j≠i:=by have:=List.mem_range.1 hj;omega
    rw [qeh hs];simp [this]
   rw [this,qeh hs,hi];simp
  ·have:=ih (by omega)
   rw [qeh hs (j:=n)]
   simp only [show ¬n=i from fun e=>h e.symm,decide_false,Bool.false_or]
   omega
theorem qPJ {n:Nat} {listed:Array Bool} (h:cnt n listed=0):∀j,j<n→lst listed j=true:=by
 intro j hj
 have:=List.countP_eq_zero.1 h j (List.mem_range.2 hj)
 simpa using this
theorem mem_preds {o:Oper} {i:Nat}:i∈qJw o↔∃e∈o.after,Region.binds .any e=true∧e.on=i:=by
 simp only [qJw,wP,List.mem_filter,Array.mem_toList_iff]
 constructor
 ·rintro ⟨e,⟨h1,h2⟩,h3⟩;exact ⟨e,h1,h2,h3⟩
 ·rintro ⟨e,h1,h2,h3⟩;exact ⟨e,⟨h1,h2⟩,h3⟩
theorem apart_spec {ops:List Oper} {x y:Oper×Ev} (h:Ab.apart ops x y=true):
  (Oper.apart ops.toArray x.1 y.1=true)∧(∀l ob,lookL x.2.upd l=some ob→l ∉ y.2.need∧lookL y.2.upd l=none)∧(∀l ob,lookL y.2.upd l=some ob→l ∉ x.2.need∧lookL x.2.upd l=none):=by
 simp only [Ab.apart,wz,wAa,wqb,wva,decide_eq_false_iff_not,List.any_eq_false,beq_iff_eq] at h
 obtain ⟨⟨h1,h2⟩,h3⟩:=h
 have key:∀(u v:List (Nat×Option Obj)) (l:Nat),(∀q∈v,¬q.1=l)→lookL v l=none:=by
  intro u v l h
  exact qsl (fun hm=>by obtain ⟨q,h4,h5⟩:=wP.1 hm;exact h q h4 h5)
 refine ⟨h1,fun l ob hl=>?_,fun l ob hl=>?_⟩
 ·have:=h2 _ (qNb hl)
  exact ⟨this.1,key [] _ _ this.2⟩
 ·refine ⟨h3 _ (qNb hl),?_⟩
  cases hx:lookL x.2.upd l with
  |none=>rfl
  |some ob'=>
   have:=(h2 _ (qNb hx)).2 _ (qNb hl)
   exact absurd rfl this
theorem qBF {ops:Array Oper} {Q:Exit→Act→World→Prop} {σ σ':St} {os os':List Orc} {cs:List Prop} {tr:List (Oper×Ev)} {K0:Kn}
  (h:qfn P GT nt ops.toList 0 ops.toList σ os=some (σ',cs,os',tr)) (hc:qfg cs) (hd:qSE ops.toList tr=true)
  (hQ:∀a' w' K',Rel c P GT nt σ'.look (qib σ'.heap) K' a' w'→(∀l,σ.next+8*ops.size≤l→K' l=none)→(∀l gh,K0 l=some gh→K' l=some gh)→Q .normal a' w'):
  ∀(fuel:Nat) (listed:Array Bool) (K:Kn) (a:Act) (w:World),listed.size=ops.size→
   (∀(j:Nat) (o:Oper),ops[j]?=some o→lst listed j=true→∀i∈qJw o,lst listed i=true)→
   Rel c P GT nt (sel (lst listed) 0 tr σ).look (qib (sel (lst listed) 0 tr σ).heap) K a w→
   (∀i,i<ops.size→lst listed i=false→∀l,σ.next+8*i≤l→l<σ.next+8*i+8→K l=none)→
   (∀l,σ.next+8*ops.size≤l→K l=none)→(∀l gh,K0 l=some gh→K l=some gh)→cnt ops.size listed≤fuel→
   wpAny P .any ops Q fuel listed a w:=by
 obtain ⟨hσ',htr,hfacts⟩:=qhs ops.toList 0 σ σ' os os' cs tr h hc
 have hlen:tr.length=ops.size:=by
  have:=congrArg we htr
  simpa using this
 have htri:∀(i:Nat) (o:Oper),ops[i]?=some o→∃e:Ev,tr[i]?=some (o,e):=by
  intro i o ho
  have hi:i<tr.length:=by rw [hlen];exact (wTa.1 ho).1
  refine ⟨tr[i].2,?_⟩
  have h1:(tr.map (·.1))[i]?=some o:=by rw [htr,wfa];exact ho
  rw [wDa,wx hi] at h1
  simp only [wCa,wc] at h1
  rw [wx hi,←h1]
 have htro:∀(i:Nat) (p:Oper×Ev),tr[i]?=some p→ops[i]?=some p.1:=by
  intro i p hp
  have h1:(tr.map (·.1))[i]?=some p.1:=by rw [wDa,hp];rfl
  rw [htr,wfa] at h1;exact h1
 have hdo:=hd
 unfold qSE at hdo
 simp only [wAa,List.mem_range,wPa,wz,decide_eq_true_eq] at hdo
 have hpre:∀(j:Nat) (o:Oper),ops[j]?=some o→∀i∈qJw o,i<j:=by
  intro j o ho i hi
  have hj:=(wTa.1 ho).1
  have:=(hdo j hj).1 i
  rw [wt,wfa,ho] at this
  exact this hi
 have hpair:∀(i j:Nat) (x y:Oper×Ev),i<j→tr[i]?=some x→tr[j]?=some y→((qfM ops.toList []).getD j 0).testBit i=true∨Ab.apart ops.toList x y=true:=by
  intro i j x y hij hx hy
  have hj:j<ops.size:=by rw [←hlen];exact (wZ.1 hy).1
  have:=(hdo j hj).2 i hij
  unfold qzK at this
  rw [hx,hy] at this
  simpa [wva] using this
 have hanc:∀(L:Nat→Bool),(∀(j:Nat) (o:Oper),ops[j]?=some o→L j=true→∀i∈qJw o,L i=true)→∀j i,L j=true→((qfM ops.toList []).getD j 0).testBit i=true→L i=true:=by
  intro L hL
  refine qjw (fun j i _ hi=>by simp at hi) (fun k o hk hLk i hi=>?_)
  simp only [wN,wO] at hLk
  exact hL k o (by rw [←wfa];exact hk) hLk i hi
 have hend:∀(listed:Array Bool) (K:Kn) (a:Act) (w:World),Rel c P GT nt (sel (lst listed) 0 tr σ).look (qib (sel (lst listed) 0 tr σ).heap) K a w→(∀j,j<ops.size→lst listed j=true)→
   (∀l,σ.next+8*ops.size≤l→K l=none)→(∀l gh,K0 l=some gh→K l=some gh)→Q .normal a w:=by
  intro listed K a w R hall hf hm
  have:sel (lst listed) 0 tr σ=σ':=by
   rw [hσ']
   exact qbu (fun k hk=>by simp only [wO];exact hall k (by omega))
  rw [this] at R
  exact hQ a w K R hf hm
 intro fuel
 induction fuel with
 |zero=>
  intro listed K a w hsz hcl R hfr hft hm hcnt
  have hall:=qPJ (Nat.le_zero.1 hcnt)
  refine ⟨?_,hend listed K a w R hall hft hm⟩
  cases hr:Region.ready .any ops listed with
  |nil=>rfl
  |cons x xs=>
   exfalso
   obtain ⟨h0,o,ho,_⟩:=mem_ready.1 (hr▸wK:x∈Region.ready .any ops listed)
   have hx:=(wTa.1 ho).1
   have:=hall x hx
   unfold lst at this
   rw [wya] at this h0
   rw [Array.getElem?_eq_getElem (by omega)] at this h0
   simp only [wJa] at this h0
   rw [this] at h0;cases h0
 |succ fuel ih=>
  intro listed K a w hsz hcl R hfr hft hm hcnt
  have hgd:∀j,j<ops.size→listed.getD j true=lst listed j:=by
   intro j hj
   unfold lst
   rw [wya,wya,Array.getElem?_eq_getElem (by omega)]
   rfl
  refine ⟨fun hnil=>?_,fun i hi=>?_⟩
  ·refine hend listed K a w R ?_ hft hm
   intro j
   induction j using Nat.strongRecOn with
   |ind j ihj=>
    intro hj
    cases hl:lst listed j with
    |true=>rfl
    |false=>
     exfalso
     have hoj:ops[j]?=some ops[j]:=Array.getElem?_eq_getElem hj
     have:j∈Region.ready .any ops listed:=by
      refine mem_ready.2 ⟨by rw [hgd j hj];exact hl,ops[j],hoj,fun e he hb=>?_⟩
      have h1:=hpre j _ hoj e.on (mem_preds.2 ⟨e,he,hb,rfl⟩)
      exact ihj e.on h1 (by omega)
     rw [hnil] at this;cases this
  ·obtain ⟨h0,o,ho,hall⟩:=mem_ready.1 hi
   have hin:=(wTa.1 ho).1
   rw [hgd i hin] at h0
   obtain ⟨e,htre⟩:=htri i o ho
   have hpredsL:∀j∈qJw o,lst listed j=true:=by
    intro j hj
    obtain ⟨ed,h1,h2,h3⟩:=mem_preds.1 hj
    rw [←h3];exact hall ed h1 h2
   obtain ⟨os1,os2,cs1,hev,hcs1,hdst⟩:=hfacts i (o,e) htre
   simp only [wO,Array.toArray_toList] at hev
   have hcl':∀(j:Nat) (o':Oper),ops[j]?=some o'→lst (listed.setIfInBounds i true) j=true→∀i'∈qJw o',lst (listed.setIfInBounds i true) i'=true:=by
    intro j o' ho' hj i' hi'
    rw [qeh (by omega)] at hj ⊢
    simp only [wub,decide_eq_true_eq] at hj ⊢
    rcases hj with rfl|hj
    ·rw [ho] at ho';injection ho' with ho';subst ho'
     exact .inr (hpredsL i' hi')
    ·exact .inr (hcl j o' ho' hj i' hi')
   have hlater:∀(k:Nat) (q:Oper×Ev),i<k→tr[k]?=some q→lst listed k=true→Ab.apart ops.toList (o,e) q=true:=by
    intro k q hk hq hL
    refine (hpair i k (o,e) q hk htre hq).resolve_left (fun ha=>?_)
    have:=hanc (lst listed) hcl k i hL ha
    rw [h0] at this;cases this
   have hearlier:∀(k:Nat) (q:Oper×Ev),k<i→tr[k]?=some q→lst listed k=false→Ab.apart ops.toList q (o,e)=true:=by
    intro k q hk hq hL
    refine (hpair k i q (o,e) hk hq htre).resolve_left (fun ha=>?_)
    have:=hanc (lst (listed.setIfInBounds i true)) hcl' i k (by rw [qeh (by omega)];simp) ha
    rw [qeh (by omega),hL] at this
    simp at this;omega
   have hT:keepT (o.looksAt ops) (sel (fun j=>decide (j<i)) 0 tr σ).look=keepT (o.looksAt ops) (sel (lst listed) 0 tr σ).look:=by
    funext d
    unfold keepT
    split
    ·rename_i hmem
     have hmem:d∈o.looksAt ops:=by simpa [wva] using hmem
     refine qpt (fun k q hq hne=>?_) rfl
     simp only [wO] at hne
     intro hqd
     by_cases hk:k<i
     ·have:=(apart_spec (hearlier k q hk hq (by simpa [hk] using hne))).1
      simp only [Array.toArray_toList] at this
      exact (Oper.apart_spec this).1 d hqd hmem
     ·by_cases hki:k=i
      ·subst hki;rw [h0] at hne;simp at hne
      ·have:=(apart_spec (hlater k q (by omega) hq (by simpa [hk] using hne))).1
       simp only [Array.toArray_toList] at this
       exact (Oper.apart_spec this).2.2 d hqd hmem
    ·rfl
   have hH:∀l∈e.need,qib (sel (fun j=>decide (j<i)) 0 tr σ).heap l=qib (sel (lst listed) 0 tr σ).heap l:=by
    intro l hl
    refine qqt (fun k q hq hne=>?_) rfl
    simp only [wO] at hne
    cases hx:lookL q.2.upd l with
    |none=>rfl
    |some ob=>
     exfalso
     by_cases hk:k<i
     ·exact ((apart_spec (hearlier k q hk hq (by simpa [hk] using hne))).2.1 l ob hx).1 hl
     ·by_cases hki:k=i
      ·subst hki;rw [h0] at hne;simp at hne
      ·exact ((apart_spec (hlater k q (by omega) hq (by simpa [hk] using hne))).2.2 l ob hx).1 hl
   rw [hT] at hev
   have hev2:=qVF hev hH
   unfold wpOp
   rw [ho]
   refine qnz R hev2 hcs1 hdst (fun l g1 g2=>hfr i hin h0 l g1 g2) ?_
   intro a' w' K' R' hk hmk
   have hlook:quw (sel (lst listed) 0 tr σ).look o.dst e.v=(sel (lst (listed.setIfInBounds i true)) 0 tr σ).look:=by
    funext d
    by_cases hdd:o.dst=some d
    ·have h1:quw (sel (lst listed) 0 tr σ).look o.dst e.v d=e.v:=by rw [hdd];simp [quw]
     rw [h1]
     refine (qZt (k:=i) (p:=(o,e)) htre (by simp only [wO];rw [qeh (by omega)];simp) hdd (fun k' q hk' hq hL=>?_)).symm
     simp only [wO] at hL
     rw [qeh (by omega)] at hL
     have hL':lst listed k'=true:=by
      have:¬k'=i:=by omega
      simpa [this] using hL
     have:=(apart_spec (hlater k' q hk' hq hL')).1
     simp only [Array.toArray_toList] at this
     exact (Oper.apart_spec this).2.1 d hdd
    ·have h1:quw (sel (lst listed) 0 tr σ).look o.dst e.v d=(sel (lst listed) 0 tr σ).look d:=by
      cases hod:o.dst with
      |none=>rfl
      |some d'=>
       simp only [quw]
       rw [if_neg (fun e'=>hdd (by rw [hod,e']))]
     rw [h1]
     refine qpt (fun k q hq hne=>?_) rfl
     simp only [wO] at hne
     rw [qeh (by omega)] at hne
     have hki:k=i:=by
      rcases Classical.em (k=i) with h|h
      ·exact h
      ·simp [h] at hne
     subst hki
     rw [htre] at hq;injection hq with hq;subst hq
     exact hdd
   have hheap:qsb (qib (sel (lst listed) 0 tr σ).heap) e.upd=qib (sel (lst (listed.setIfInBounds i true)) 0 tr σ).heap:=by
    funext l
    cases hx:lookL e.upd l with
    |some ob=>
     simp only [qsb,hx]
     refine (qau (k:=i) (p:=(o,e)) htre (by simp only [wO];rw [qeh (by omega)];simp) hx (fun k' q hk' hq hL=>?_)).symm
     simp only [wO] at hL
     rw [qeh (by omega)] at hL
     have hL':lst listed k'=true:=by
      have:¬k'=i:=by omega
      simpa [this] using hL
     exact ((apart_spec (hlater k' q hk' hq hL')).2.1 l ob hx).2
    |none=>
     simp only [qsb,hx]
     refine qqt (fun k q hq hne=>?_) rfl
     simp only [wO] at hne
     rw [qeh (by omega)] at hne
     have hki:k=i:=by
      rcases Classical.em (k=i) with h|h
      ·exact h
      ·simp [h] at hne
     subst hki
     rw [htre] at hq;injection hq with hq;subst hq
     exact hx
   rw [hlook,hheap] at R'
   refine ih (listed.setIfInBounds i true) K' a' w' (by simpa using hsz) hcl' R' (fun j hj hL l g1 g2=>?_) (fun l hl=>?_) (fun l gh hl=>hmk l gh (hm l gh hl)) ?_
   ·rw [qeh (by omega)] at hL
    simp only [Bool.or_eq_false_iff,decide_eq_false_iff_not] at hL
    rcases hk l with h1|h1
    ·rw [h1];exact hfr j hj hL.2 l g1 g2
    ·omega
   ·rcases hk l with h1|h1
    ·rw [h1];exact hft l hl
    ·omega
   ·have:=qLL (n:=ops.size) (listed:=listed) (i:=i) (by omega) h0 hin
    omega
end
end Go.Ab

/-
  Runs: from one position to another; calls.
-/
set_option linter.unusedVariables false
set_option linter.unusedSimpArgs false
namespace Go.Ab
open Go
section
variable {P:Program} {GT:qTg} {nt:Nat}
def Reach (P:Program) (GT:qTg) (nt:Nat) (s s':Pos):Prop:=
 ∀(c:Cx) (K:Kn) (a:Act) (w:World) (b:Frame) (cs:List Frame),RelS c P GT nt s.st K a w→
  ∃K' a' w',RelS c P GT nt s'.st K' a' w'∧(∀l gh,l<8→K l=some gh→K' l=some gh)∧Steps P (lone (b.at a s.todo) cs w) (lone (b.at a' s'.todo) cs w')
theorem Reach.refl (s:Pos):Reach P GT nt s s:=fun c K a w b cs R=>⟨K,a,w,R,fun _ _ _ h=>h,Steps.refl _ _⟩
theorem Reach.trans {s s1 s2:Pos} (h:Reach P GT nt s s1) (k:Reach P GT nt s1 s2):Reach P GT nt s s2:=by
 intro c K a w b cs R
 obtain ⟨K1,a1,w1,R1,m1,st1⟩:=h c K a w b cs R
 obtain ⟨K2,a2,w2,R2,m2,st2⟩:=k c K1 a1 w1 b cs R1
 exact ⟨K2,a2,w2,R2,fun l gh hl hk=>m2 l gh hl (m1 l gh hl hk),st1.trans st2⟩
theorem Reach.one {todo todo':List Item} {σ:St} (h:∀(a:Act) (w:World) (b:Frame) (cs:List Frame),step P (lone (b.at a todo) cs w)= .next (lone (b.at a todo') cs w)):Reach P GT nt ⟨todo,σ⟩ ⟨todo',σ⟩:=
 fun c K a w b cs R=>⟨K,a,w,R,fun _ _ _ h=>h, .one (h a w b cs)⟩
theorem qHA (hm:P.follows .mixedOrders=true) {id:Nat} {ops:Array Oper} {draw:Bool} {σ σ':St} {os os':List Orc} {cs:List Prop} (h:qen P GT nt ops.toList draw σ os=some (σ',cs,os')) (hc:qfg cs)
  {c:Cx} {K:Kn} {a:Act} {w:World} (R:RelS c P GT nt σ K a w):
  (Code.region id ops draw).wp P (fun e a' w'=>e= .normal∧∃K',RelS c P GT nt σ' K' a' w'∧(∀l gh,K l=some gh→K' l=some gh)) a w:=by
 unfold qen at h
 split at h
 ·rename_i σ2 c2 os2 tr hrun
  split at h
  ·rename_i hd
   simp only [wc,wk] at h
   obtain ⟨rfl,rfl,rfl⟩:=h
   have hQ:∀a' w' K',Rel c P GT nt σ2.look (qib σ2.heap) K' a' w'→(∀l,σ.next+8*ops.size≤l→K' l=none)→(∀l gh,K l=some gh→K' l=some gh)→
     (Exit.normal=Exit.normal∧∃K',RelS c P GT nt {σ2 with next:=σ.next+8*ops.toList.length} K' a' w'∧(∀l gh,K l=some gh→K' l=some gh)):=by
    intro a' w' K' R' hf hk
    exact ⟨rfl,K',⟨R',fun l hl=>hf l (by simpa using hl)⟩,hk⟩
   cases draw with
   |false=>
    refine wp_region ?_
    have:=qNx (Q:=fun e a' w'=>e= .normal∧∃K',RelS c P GT nt {σ2 with next:=σ.next+8*ops.toList.length} K' a' w'∧(∀l gh,K l=some gh→K' l=some gh)) ops.toList 0 σ σ2 os os2 c2 tr K a w hrun hc (by simp) (by simp) rfl R.rel (fun l hl=>R.fresh l (by omega)) hQ
    rw [List.range_eq_range']
    simpa using this
   |true=>
    simp only [Bool.not_true,Bool.false_or] at hd
    have R1:Rel c P GT nt σ.look (qib σ.heap) K a {w with drawn:=w.drawn+1}:=by
     have:=R.rel.put (Stp.drawn R.rel.inv σ.next (w.drawn+1)) (dst:=none) (v:= .one .undef) (u:=undef) trivial rfl
     exact this
    have hl0:∀j,lst (Array.replicate ops.size false) j=false:=by
     intro j
     unfold lst
     rw [wya,Array.getElem?_replicate]
     split <;> rfl
    have hs0:sel (lst (Array.replicate ops.size false)) 0 tr σ=σ:=qbq (fun j _=>hl0 j)
    refine wp_region_any hm ?_
    refine qBF (K0:=K) hrun hc hd hQ ops.size (Array.replicate ops.size false) K a _ (by simp) (fun j o _ hj=>by rw [hl0] at hj;cases hj) (by rw [hs0];exact R1) (fun i _ _ l h1 _=>R.fresh l (by omega)) (fun l hl=>R.fresh l (by omega)) (fun _ _ h=>h) ?_
    have:=List.countP_le_length (p:=fun j=>!lst (Array.replicate ops.size false) j) (l:=wVa ops.size)
    simpa [cnt] using this
  ·cases h
 ·cases h
theorem qEj (hm:P.follows .mixedOrders=true) {s s':Pos} {os os':List Orc} {cs:List Prop} (h:qDo P GT nt s os=some (s',cs,os')) (hc:qfg cs):Reach P GT nt s s':=by
 obtain ⟨todo,σ⟩:=s
 unfold qDo at h
 split at h
 ·rename_i k hk;simp only at hk;subst hk
  simp only [wc,wk] at h;obtain ⟨rfl,rfl,rfl⟩:=h
  exact Reach.one (fun a w b cs=>step_skip)
 ·rename_i k hk;simp only at hk;subst hk
  simp only [wc,wk] at h;obtain ⟨rfl,rfl,rfl⟩:=h
  exact Reach.one (fun a w b cs=>step_label)
 ·rename_i k hk;simp only at hk;subst hk
  simp only [wc,wk] at h;obtain ⟨rfl,rfl,rfl⟩:=h
  exact Reach.one (fun a w b cs=>step_inBlock)
 ·rename_i k hk;simp only at hk;subst hk
  simp only [wc,wk] at h;obtain ⟨rfl,rfl,rfl⟩:=h
  exact Reach.one (fun a w b cs=>step_inScope)
 ·rename_i body k hk;simp only at hk;subst hk
  simp only [wc,wk] at h;obtain ⟨rfl,rfl,rfl⟩:=h
  exact Reach.one (fun a w b cs=>step_scope)
 ·rename_i x y k hk;simp only at hk;subst hk
  simp only [wc,wk] at h;obtain ⟨rfl,rfl,rfl⟩:=h
  exact Reach.one (fun a w b cs=>step_seq)
 ·rename_i x y z k hk;simp only at hk;subst hk
  split at h
  ·rename_i b t os2 hb
   simp only [wc,wk] at h;obtain ⟨rfl,rfl,rfl⟩:=h
   intro c K a w fb cs' R
   have h1:=R.rel.evT x
   have h2:Ab.evT GT σ.look x= .one (.bool b):=hb
   rw [h2] at h1
   have h3:a.eval x= .bool b:=h1
   have hbt:b=t:=hc.1
   subst hbt
   exact ⟨K,a,w,R,fun _ _ _ h=>h, .one (step_cond h3)⟩
  ·cases h
 ·rename_i id body k hk;simp only at hk;subst hk
  simp only [wc,wk] at h;obtain ⟨rfl,rfl,rfl⟩:=h
  exact Reach.one (fun a w b cs=>step_block)
 ·rename_i body k hk;simp only at hk;subst hk
  simp only [wc,wk] at h;obtain ⟨rfl,rfl,rfl⟩:=h
  exact Reach.one (fun a w b cs=>step_loop)
 ·rename_i body k hk;simp only at hk;subst hk
  simp only [wc,wk] at h;obtain ⟨rfl,rfl,rfl⟩:=h
  exact Reach.one (fun a w b cs=>step_inLoop)
 ·rename_i id k hk;simp only at hk;subst hk
  split at h
  ·rename_i k' he
   simp only [wc,wk] at h;obtain ⟨rfl,rfl,rfl⟩:=h
   exact Reach.one (fun a w b cs=>step_exit he)
  ·cases h
 ·rename_i l k hk;simp only at hk;subst hk
  split at h
  ·rename_i k' he
   simp only [wc,wk] at h;obtain ⟨rfl,rfl,rfl⟩:=h
   exact Reach.one (fun a w b cs=>step_goto he)
  ·cases h
 ·rename_i id ops draw k hk;simp only at hk;subst hk
  split at h
  ·rename_i σ' c' os2 hr
   simp only [wc,wk] at h;obtain ⟨rfl,rfl,rfl⟩:=h
   intro c K a w b cs' R
   obtain ⟨e,a',w',⟨rfl,K',R',hk⟩,harr⟩:=qHA hm (id:=id) hr hc R b k cs'
   exact ⟨K',a',w',R',fun l gh _ hl=>hk l gh hl,harr⟩
  ·cases h
 ·cases h
def qhE (tmps:Array Value):ResultVar→Sem Value
 | .tmp t=>pure (tmps.getD t undef)
 | .cell a t=>do loadVar t (←asAddr (tmps.getD a undef))
theorem qyF (fn:Func) (tmps:Array Value):results fn tmps=(do
  let vs ←fn.results.mapM (qhE tmps)
  pure (if h:vs.size=1 then vs[0] else .tuple vs)):=by
 unfold results
 congr 1
theorem qQx {c:Cx} {σ:St} {K:Kn} {a:Act} {w:World} (R:RelS c P GT nt σ K a w):∀{rs:List ResultVar} {vs:List AV},qgr P σ rs=some vs→
  ∃us:List Value,(rs.mapM (qhE a.tmps)).run P w= .ok us w∧VRdL w (NN c (qib σ.heap) K w) K vs us
 |[],vs,h=>by
  simp only [qgr,wc] at h;subst h
  exact ⟨[],rfl,rfl⟩
 |r::rs,vs,h=>by
  simp only [qgr] at h
  split at h
  ·rename_i v vs' h1 h2
   simp only [wc] at h;subst h
   obtain ⟨us,g1,g2⟩:=qQx R h2
   cases r with
   |tmp t=>
    simp only [qVG] at h1
    split at h1
    ·rename_i v' hv
     simp only [wc] at h1;subst h1
     have:=R.rel.tmps t
     rw [hv] at this
     refine ⟨a.tmps.getD t undef::us,?_,⟨_,_,rfl,this,g2⟩⟩
     simp only [List.mapM_cons,qhE,wu,wE,wq,g1]
    ·cases h1
   |cell b T=>
    simp only [qVG] at h1
    split at h1
    ·rename_i x hx
     have:=R.rel.tmps b
     rw [hx] at this
     obtain ⟨ad,u,e1,e2,e3⟩:=qHH (P:=P) R.rel.inv (fun _ _ h=>h) this h1
     refine ⟨u::us,?_,⟨_,_,rfl,e3,g2⟩⟩
     have e1':a.tmps.getD b undef= .pointer (some ad):=e1
     simp only [List.mapM_cons,qhE,wu,e1',asAddr,wE,wq,e2,g1]
    ·cases h1
  ·cases h
theorem VRdL.len {w:World} {N:Bool→Nat→Prop} {K:Kn}:∀{as:List AV} {vs:List Value},VRdL w N K as vs→vs.length=as.length
 |[],_,h=>by simp only [VRdL] at h;simp [h]
 |_::_,_,h=>by
  obtain ⟨v,r,rfl,_,h⟩:=h
  simp [h.len]
theorem qgE {c:Cx} {σ:St} {K:Kn} {a:Act} {w:World} (R:RelS c P GT nt σ K a w) {fn:Func} {res:TV} (h:qFC P σ fn.results.toList=some res):
  ∃v,(results fn a.tmps).run P w= .ok v w∧TVRd w (NN c (qib σ.heap) K w) K res v:=by
 unfold qFC at h
 have key:∀vs,qgr P σ fn.results.toList=some vs→∃us:List Value,(results fn a.tmps).run P w= .ok (if h:us.toArray.size=1 then us.toArray[0] else .tuple us.toArray) w∧VRdL w (NN c (qib σ.heap) K w) K vs us:=by
  intro vs hvs
  obtain ⟨us,h1,h2⟩:=qQx R hvs
  refine ⟨us,?_,h2⟩
  rw [qyF,Array.mapM_eq_mapM_toList]
  simp only [wu,Sem.run_map,h1,wq,bind_pure_comp,Functor.map_map]
 split at h
 ·rename_i v hv
  simp only [wc] at h;subst h
  obtain ⟨us,h1,h2⟩:=key _ hv
  obtain ⟨u,rfl,h3⟩:=h2.one_inv
  exact ⟨u,by simpa using h1,h3⟩
 ·rename_i vs hv hne
  simp only [wc] at h;subst h
  obtain ⟨us,h1,h2⟩:=key _ hne
  have hl:=h2.len
  have:us.toArray.size≠1:=by
   intro e
   simp only [wLa] at e
   rw [hl] at e
   obtain ⟨x,rfl⟩:=List.length_eq_one_iff.1 e
   exact hv x rfl
  rw [dif_neg this] at h1
  exact ⟨_,h1,us,rfl,h2⟩
 ·cases h
def qTM:Nat→List AV→List (Nat×TV)
 |_,[]=>[]
 |i,v::r=>(i, .one v)::qTM (i+1) r
def st0 (args:List AV) (pre:List (Nat×Obj)):St:={tmps:=qTM 0 args,heap:=qoc pre,next:=8}
theorem qxr:∀{args:List AV} {i t:Nat},lookL (qTM i args) t=if i≤t then (args[t - i]?).map .one else none
 |[],i,t=>by simp [qTM,lookL]
 |v::r,i,t=>by
  simp only [qTM,lookL]
  by_cases h:i=t
  ·subst h;simp
  ·rw [if_neg h,qxr]
   by_cases h2:i+1≤t
   ·rw [if_pos h2,if_pos (by omega),show t - i=(t - (i+1))+1 by omega,wRa]
   ·rw [if_neg h2]
    rw [if_neg (by omega)]
theorem qGi {rs:List (Nat×Obj)}:qib (qoc rs)=lookL rs:=by
 funext l
 unfold qib
 induction rs with
 |nil=>rfl
 |cons p r ih=>
  simp only [qoc,wJ,lookL] at ih ⊢
  by_cases h:p.1=l
  ·simp [h]
  ·simp only [h,if_false];exact ih
end
end Go.Ab

/-
  Channels of one goroutine: a send into a buffer with room, a receive from a buffer that holds something.
-/
set_option linter.unusedVariables false
set_option linter.unusedSimpArgs false
namespace Go.Ab
open Go Go.Conc
def qXK (P:Program) (o:Oper) (ρ:Operand→Value) (w:World) (R:Value→World→Prop):Prop:=
 (∃ch v z cap buf s r,(execOp ρ o).run P w= .ok (.comm #[scase ch v z] true .send) w∧w.heap[ch]?=some (.chan cap buf false s r false)∧buf.size<cap∧R undef (w.setChan ch cap (buf.push v) false (s+1) r false))∨
 ∃ch z cap buf cl s r,(execOp ρ o).run P w= .ok (.comm #[rcase ch z] true (.recv false)) w∧w.heap[ch]?=some (.chan cap buf cl s r false)∧0<buf.size∧R (buf.getD 0 undef) (w.setChan ch cap (buf.extract 1 buf.size) cl s (r+1) false)
theorem qzI {P:Program} {ops:Array Oper} {i:Nat} {rest:List Nat} {o:Oper} {a:Act} {w:World} {R:Value→World→Prop} (ho:ops[i]?=some o) (hw:wob o (yielded ops a.tmps)=true) (h:qXK P o a.eval w R) (b:Frame) (k:List Item) (cs:List Frame):
  ∃v w',R v w'∧step P (lone (b.at a (.inRegion ops (i::rest)::k)) cs w)= .next (lone (b.at (a.put o.dst v) (.inRegion ops rest::k)) cs w'):=by
 have hfin:∀v,(b.at a (.inRegion ops (i::rest)::k)).finish v=b.at (a.put o.dst v) (.inRegion ops rest::k):=by
  intro v;rw [Frame.finish_at,ho];rfl
 have hg:=stepG_op (P:=P) (b:=b) (k:=k) (cs:=cs) (w:=w) (rest:=rest) ho hw
 rcases h with ⟨ch,v,z,cap,buf,s,r,h1,h2,h3,h4⟩|⟨ch,z,cap,buf,cl,s,r,h1,h2,h3,h4⟩
 ·have hs:∃es,stepG P true (G (b.at a (.inRegion ops (i::rest)::k)) cs) w= .comm (G (b.at a (.inRegion ops (i::rest)::k)) cs) #[scase ch v z] true .send w es:=by
   have hs:=hg
   simp only [stepG.apply,Sem.runT_eq,h1] at hs
   exact ⟨_,hs⟩
  obtain ⟨es,hs⟩:=hs
  refine ⟨undef,_,h4,?_⟩
  rw [←hfin]
  exact step_lone_send_room hs h2 h3
 ·have hs:∃es,stepG P true (G (b.at a (.inRegion ops (i::rest)::k)) cs) w= .comm (G (b.at a (.inRegion ops (i::rest)::k)) cs) #[rcase ch z] true (.recv false) w es:=by
   have hs:=hg
   simp only [stepG.apply,Sem.runT_eq,h1] at hs
   exact ⟨_,hs⟩
  obtain ⟨es,hs⟩:=hs
  refine ⟨buf.getD 0 undef,_,h4,?_⟩
  rw [←hfin]
  exact step_lone_recv_buf false hs h2 h3
theorem qDy {P:Program} {ops:Array Oper} {i:Nat} {rest:List Nat} {o:Oper} {a:Act} {w:World} {next:Act→World→Prop} (ho:ops[i]?=some o)
  (h:if wob o (yielded ops a.tmps) then o.wp P a w next (fun _ _ _=>False)∨(o.asks P a w∧LetsOut (fun _ _ _=>False)) else next (a.put o.dst undef) w) (b:Frame) (k:List Item) (cs:List Frame):
  ∃a' w',next a' w'∧Steps P (lone (b.at a (.inRegion ops (i::rest)::k)) cs w) (lone (b.at a' (.inRegion ops rest::k)) cs w'):=by
 by_cases hw:wob o (yielded ops a.tmps)=true
 ·rw [if_pos hw] at h
  rcases h with h|⟨_,_,_,h⟩
  ·have hfin:∀v,(b.at a (.inRegion ops (i::rest)::k)).finish v=b.at (a.put o.dst v) (.inRegion ops rest::k):=by
    intro v;rw [Frame.finish_at,ho];rfl
   have hg:=stepG_op (P:=P) (b:=b) (k:=k) (cs:=cs) (w:=w) (rest:=rest) ho hw
   unfold Oper.wp at h
   cases hr:(execOp a.eval o).run P w with
   |halt x w'=>
    rw [hr] at h
    cases x <;> first|exact h.elim|(simp [Oper.upon] at h)
   |ok n w'=>
    rw [hr] at h
    cases n <;> simp only [Oper.upon] at h
    case value v=>
     refine ⟨_,_,h, .one (step_lone_go ?_)⟩
     rw [hg,←hfin];simp [stepG.apply,hr]
    case skip=>
     refine ⟨_,_,h, .one (step_lone_go ?_)⟩
     rw [hg,←hfin];simp [stepG.apply,hr]
    case enter f args=>
     obtain ⟨e,w2,fr,hR,hsteps,_,hleave⟩:=h (b.at a (.inRegion ops (i::rest)::k)::cs)
     cases e with
     |returned v=>
      have henter:step P (lone (b.at a (.inRegion ops (i::rest)::k)) cs w)= .next (lone (Frame.enter P f args .normal) (b.at a (.inRegion ops (i::rest)::k)::cs) w'):=
       step_lone_go (by rw [hg];simp [stepG.apply,hr,Frame.at])
      refine ⟨_,_,hR, .head henter (Steps.trans hsteps (.one ?_))⟩
      rw [←hfin];exact step_leave_returned hleave
     |panicked qYd=>exact hR.elim
     |outgrown=>exact (hR.choose_spec.choose_spec).elim
    case row row args=>
     obtain ⟨v,w2,hR,hsteps⟩:=h (b.at a (.inRegion ops (i::rest)::k)) cs
     have henter:step P (lone (b.at a (.inRegion ops (i::rest)::k)) cs w)= .next (lone (Frame.ofRow P row args .normal) (b.at a (.inRegion ops (i::rest)::k)::cs) w'):=
      step_lone_go (by rw [hg];simp [stepG.apply,hr,Frame.at])
     refine ⟨_,_,hR, .head henter ?_⟩
     rw [←hfin];exact hsteps
    case defer d=>
     refine ⟨_,_,h, .one (step_lone_go ?_)⟩
     have:({b.at a (.inRegion ops (i::rest)::k) with defers:=d::a.defers}:Frame).finish undef=b.at ({a with defers:=d::a.defers}.put o.dst undef) (.inRegion ops rest::k):=by
      have:=Frame.finish_at b {a with defers:=d::a.defers} ops i rest k undef
      rw [ho] at this;exact this
     rw [hg];simp only [stepG.apply,Sem.runT_eq,hr,GStep.bare_after]
     exact congrArg (fun fr=>GStep.go {frame:=fr,callers:=cs,status:= .running,dying:=none} w') this
  ·exact h.elim
 ·rw [if_neg hw] at h
  have hs:=step_op_skip (P:=P) (b:=b) (a:=a) (k:=k) (cs:=cs) (w:=w) (ops:=ops) (i:=i) (rest:=rest) (by simp [ho];simpa using hw)
  simp only [ho,wy] at hs
  exact ⟨_,_,h, .one hs⟩
section
variable {c:Cx} {P:Program} {GT:qTg} {H lk:qZb} {K:Kn} {w:World} {ev:Operand→TV} {ρ:Operand→Value} {nl:Nat}
theorem ChRd.snoc {w:World} {N:Nat→Prop} {e:Ty} {u:pden e} {cs:List Value} (hu:PRd w N e u cs):∀{xs:List (pden e)} {vs:List Value},ChRd w N e xs vs→ChRd w N e (xs++[u]) (vs++[qhb e cs])
 |[],_,h=>by
  simp only [ChRd] at h;subst h
  exact ⟨cs,[],rfl,hu,rfl⟩
 |_::_,_,h=>by
  obtain ⟨cs',r,rfl,h2,h3⟩:=h
  exact ⟨cs',_,rfl,h2,ChRd.snoc hu h3⟩
theorem ChRd.len {w:World} {N:Nat→Prop} {e:Ty}:∀{xs:List (pden e)} {vs:List Value},ChRd w N e xs vs→vs.length=xs.length
 |[],_,h=>by simp only [ChRd] at h;subst h;rfl
 |_::_,_,h=>by
  obtain ⟨cs',r,rfl,h2,h3⟩:=h
  rw [ww,ChRd.len h3,ww]
theorem qes {w:World} {b cap:Nat} {buf:Array Value} {cl:Bool} {s r:Nat}:(w.setChan b cap buf cl s r false).os=w.os∧(w.setChan b cap buf cl s r false).tape=w.tape∧(w.setChan b cap buf cl s r false).output=w.output∧(w.setChan b cap buf cl s r false).heap.size=w.heap.size∧∀k,k≠b→(w.setChan b cap buf cl s r false).heap[k]?=w.heap[k]?:=
 ⟨rfl,rfl,rfl,size_setChan ..,fun k hk=>by simp only [World.setChan];rw [Array.getElem?_setIfInBounds_ne (wGa hk)]⟩
theorem qiG (A:At c P GT H lk K w ev ρ nl) {o:Oper} {out:Out} (h:qBD P ev lk o.op=some out) (hc:qfg out.conds):qXK P o ρ w (Lands c H K w nl out):=by
 unfold qBD at h
 split at h
 ·rename_i x y ho
  split at h
  ·rename_i l v hx hv
   split at h
   ·rename_i e fr cap xs hlk
    split at h
    ·rename_i z hz
     split at h
     ·rename_i u ls f hab
      split at h
      ·cases h
      ·rename_i hnl
       simp only [wva,decide_eq_true_eq] at hnl
       simp only [wc] at h;subst h
       obtain ⟨sh,pl,k1,k2⟩:=A.one hx
       obtain ⟨z1,z2⟩:=qor (A.one hv) hz
       have hl:=A.sub _ _ hlk
       obtain ⟨gh,hK,hgs,p,buf,s,r,hgp,hb,hC⟩:=A.inv.objs _ _ hl
       rw [k1] at hK
       injection hK with hK;subst hK
       injection hgp with hgp;subst hgp
       simp only at hgs;subst hgs
       have hlt:pl.blk<w.heap.size:=(A.inv.own l _ _ pl hl k1 (.inl rfl)).1
       have hlen:=hC.len
       have S1:=Stp.kill A.inv nl ls
       have hl1:qsb H (Ab.kill ls) l=some (.chan e fr cap xs false):=by
        simp only [qsb]
        cases hd:lookL (Ab.kill ls) l with
        |none=>exact hl
        |some x=>exact absurd (qwr hd) hnl
       have hu:PRd w (NN c (qsb H (Ab.kill ls)) K w f) e u (ρ y).cells.toList:=qco A.inv A.sub (L:=ls) hab z1 (fun l hl=>hl)
       have hC1:ChRd w (NN c (qsb H (Ab.kill ls)) K w fr) e xs buf.toList:=hC.keep ⟨fun b hb=>⟨hb.killed,rfl⟩⟩
       have low:∀f g:Bool,∀b,NN c (qsb H (Ab.kill ls)) K w f b→NN c (qsb H (Ab.kill ls)) K w (f&&g) b:=fun f g b hb=>by
        cases f <;> cases g <;> first|exact hb|exact ui b hb
       have hC2:ChRd w (NN c (qsb H (Ab.kill ls)) K w (fr&&f)) e (xs++[u]) (buf.push (ρ y)).toList:=by
        rw [Array.toList_push]
        have h1:ChRd w (NN c (qsb H (Ab.kill ls)) K w (fr&&f)) e xs buf.toList:=hC1.keep ⟨fun b hb=>⟨low _ _ b hb,rfl⟩⟩
        have h2:PRd w (NN c (qsb H (Ab.kill ls)) K w (fr&&f)) e u (ρ y).cells.toList:=hu.keep ⟨fun b hb=>⟨by rw [Bool.and_comm];exact low _ _ b hb,rfl⟩⟩
        have h3:=ChRd.snoc h2 h1
        rw [←z2] at h3
        exact h3
       have S2:=Stp.write (w':=w.setChan pl.blk cap (buf.push (ρ y)) false (s+1) r false) S1.inv nl l _ (.chan e (fr&&f) cap (xs++[u]) false) ⟨.chan e cap,some pl⟩ pl hl1 k1 (.inl rfl) qes
        (fun N' K' hNlow hk=>⟨rfl,pl,buf.push (ρ y),s+1,r,rfl,heap_setChan _ _ _ _ _ _ _ _ hlt,hC2.keep (hk.n _)⟩)
       have hroom:xs.length<cap:=hc.1
       refine .inl ⟨pl.blk,ρ y, .tuple #[],cap,buf,s,r,?_,hb,by rw [←wPa,hlen];exact hroom,⟨K,S1.trans S2,trivial⟩⟩
       simp only [execOp,ho,k2]
       rfl
     ·cases h
    ·cases h
   ·cases h
  ·cases h
 ·rename_i T x ho
  split at h
  ·rename_i l e' E hx hT
   split at h
   ·rename_i e fr cap xs cl hlk
    split at h
    ·rename_i hz
     simp only [wc] at h;subst h
     obtain ⟨sh,pl,k1,k2⟩:=A.one hx
     have hl:=A.sub _ _ hlk
     obtain ⟨gh,hK,hgs,p,buf,s,r,hgp,hb,hC⟩:=A.inv.objs _ _ hl
     rw [k1] at hK
     injection hK with hK;subst hK
     injection hgp with hgp;subst hgp
     simp only at hgs;subst hgs
     have hlt:pl.blk<w.heap.size:=(A.inv.own l _ _ pl hl k1 (.inl rfl)).1
     have hsome:0<xs.length:=hc.1
     cases xs with
     |nil=>simp at hsome
     |cons u xs=>
      obtain ⟨cs,rest,hbuf,hu,hr⟩:=hC
      have hbl:0<buf.size:=by rw [←wPa,hbuf];simp
      have hd:(buf.extract 1 buf.size).toList=rest:=by
       rw [Array.toList_extract,hbuf,List.extract_eq_take_drop,List.drop_succ_cons,List.drop_zero,List.take_of_length_le]
       rw [←wPa,hbuf];simp
      have hg0:buf.getD 0 undef=qhb e cs:=by
       rw [wya,←wfa,hbuf];rfl
      obtain ⟨d,hdT,hE⟩:=qHq hT
      obtain ⟨zv,z1,_⟩:=qge (P:=P) (w:=w) hz
      have S:=Stp.write (w':=w.setChan pl.blk cap (buf.extract 1 buf.size) cl s (r+1) false) A.inv nl l _ (.chan e fr cap xs cl) ⟨.chan e cap,some pl⟩ pl hl k1 (.inl rfl) qes
       (fun N' K' hNlow hk=>⟨rfl,pl,buf.extract 1 buf.size,s,r+1,rfl,heap_setChan _ _ _ _ _ _ _ _ hlt,by rw [hd];exact hr.keep (hk.n _)⟩)
      refine .inr ⟨pl.blk,zv,cap,buf,cl,s,r,?_,hb,hbl,⟨K,S,?_⟩⟩
      ·simp only [execOp,ho,k2,wu,run_underlying hdT,wq,z1]
       rfl
      ·have h2:ARd (w.setChan pl.blk cap (buf.extract 1 buf.size) cl s (r+1) false) (NN c (qsb H [(l,some (.chan e fr cap xs cl))]) K (w.setChan pl.blk cap (buf.extract 1 buf.size) cl s (r+1) false)) K e (inj fr e u) cs:=
        (qej (K:=K) ui fr hu).keep S.keep
       rw [hg0]
       exact qZq h2
    ·cases h
   ·cases h
  ·cases h
 ·cases h
end
end Go.Ab

/-
  Where what is known of the elements of a row changes: which rows of one's own they are.
-/
set_option linter.unusedVariables false
set_option linter.unusedSimpArgs false
namespace Go.Ab
open Go
def Chg (ns:Nat→Prop) (K K':Kn):Prop:=∀l,K' l=K l∨(ns l∧∃e n ps ps' pl,K l=some ⟨.row e n ps,pl⟩∧K' l=some ⟨.row e n ps',pl⟩)
theorem Chg.row {ns:Nat→Prop} {K K':Kn} (h:Chg ns K K') {l n:Nat} {e:Ty} {ps:List (Nat×Option Plc)} {pl:Option Plc} (hk:K l=some ⟨.row e n ps,pl⟩):∃ps',K' l=some ⟨.row e n ps',pl⟩:=by
 rcases h l with h|⟨_,e',n',ps1,ps2,pl',h1,h2⟩
 ·exact ⟨ps,h.trans hk⟩
 ·rw [hk] at h1
  simp only [wc,Gh.mk.injEq,Shp.row.injEq] at h1
  obtain ⟨⟨rfl,rfl,rfl⟩,rfl⟩:=h1
  exact ⟨ps2,h2⟩
theorem Chg.pl {ns:Nat→Prop} {K K':Kn} (h:Chg ns K K') {l:Nat} {gh:Gh} (hk:K l=some gh):∃gh',K' l=some gh'∧gh'.pl=gh.pl:=by
 rcases h l with h|⟨_,e',n',ps1,ps2,pl',h1,h2⟩
 ·exact ⟨gh,h.trans hk,rfl⟩
 ·rw [hk] at h1
  simp only [wc] at h1;subst h1
  exact ⟨_,h2,rfl⟩
theorem Chg.out {ns:Nat→Prop} {K K':Kn} (h:Chg ns K K') {l:Nat} {gh:Gh} (hl:¬ns l) (hk:K l=some gh):K' l=some gh:=by
 rcases h l with h|⟨h1,_⟩
 ·exact h.trans hk
 ·exact absurd h1 hl
def okV (ns:List Nat):AV→Bool
 | .ptr (.slice _) _ [.idx _]=>true
 | .ptr _ l _=>!ns.contains l
 | .bref _ l _ _ _ _=>!ns.contains l
 | .ifp _ _ l _=>!ns.contains l
 | .cslice _ l _=>!ns.contains l
 |_=>true
def qfN (ns:List Nat):TV→Bool
 | .one v=>okV ns v
 | .tup vs=>vs.all (okV ns)
def okO (ns:List Nat):Obj→Bool
 | .cell v=>okV ns v
 |_=>true
section
variable {w w':World} {N N':Bool→Nat→Prop} {K K':Kn} {ns:List Nat}
theorem RefRd.chg (hc:Chg (·∈ns) K K') {e:Ty} {l off len:Nat} {wh:Bool} {v:Value} (h:RefRd K e l off len wh v):RefRd K' e l off len wh v:=by
 obtain ⟨n,pl,⟨ps,h1⟩,h2⟩:=h
 obtain ⟨ps',h1'⟩:=hc.row h1
 exact ⟨n,pl,⟨ps',h1'⟩,h2⟩
theorem ARd.chg (hc:Chg (·∈ns) K K') (hk:∀fr,Keep w w' (N fr) (N' fr)):∀{t:Ty} {x:qke t} {cs:List Value},ARd w N K t x cs→ARd w' N' K' t x cs
 | .int _,_,_,h=>h
 | .bool,_,_,h=>h
 | .str,_,_,h=>h
 | .arr n e,xs,_,h=>⟨h.1,h.2.imp (fun _ _=>PRd.keep (hk false))⟩
 | .pair a b,_,_,h=>by
   obtain ⟨c1,c2,e,h1,h2⟩:=h
   exact ⟨c1,c2,e,ARd.chg hc hk h1,ARd.chg hc hk h2⟩
 | .unit,_,_,h=>h
 | .slice _,x,_,h=>by
   cases x with
   |pure fr xs=>exact PRd.keep (hk fr) (t:= .slice _) h
   |ref l off len wh=>obtain ⟨v,e,h⟩:=h;exact ⟨v,e,h.chg hc⟩
   |nil=>exact h
   |junk=>exact h
   |lng n=>exact h
 | .fn,_,_,h=>h
theorem capsRd.chg (hc:Chg (·∈ns) K K'):∀{ls:List Nat} {vs:List Value},capsRd K ls vs→capsRd K' ls vs
 |[],_,h=>h
 |_::_,_,h=>by
  obtain ⟨gh,p,r,h1,h2,h3,h4⟩:=h
  obtain ⟨gh',g1,g2⟩:=hc.pl h1
  exact ⟨gh',p,r,g1,g2.trans h2,h3,capsRd.chg hc h4⟩
theorem VRd.chg (hc:Chg (·∈ns) K K') (hk:∀fr,Keep w w' (N fr) (N' fr)) {a:AV} {v:Value} (ho:okV ns a=true) (h:VRd w N K a v):VRd w' N' K' a v:=by
 cases a with
 |agg t x=>obtain ⟨cs,e,ha,h⟩:=h;exact ⟨cs,e,ha,h.chg hc hk⟩
 |sl e fr xs=>exact PRd.keep (hk fr) (t:= .slice e) h
 |ref e l off len wh=>exact RefRd.chg hc h
 |bref e l p n off len=>
  have ho:l ∉ ns:=by simpa [okV] using ho
  obtain ⟨sh,pl,po,h1,h2⟩:=h
  exact ⟨sh,pl,po,hc.out ho h1,h2⟩
 |ptr t l p=>
  obtain ⟨gh,pl,po,h1,h2,h3⟩:=h
  by_cases hl:l∈ns
  ·obtain ⟨e,i,rfl,rfl⟩:∃e i,t= .slice e∧p=[.idx i]:=by
    unfold okV at ho
    split at ho <;> simp_all
   rcases hc l with hx|⟨_,e1,n,ps,ps',pl',g1,g2⟩
   ·exact ⟨gh,pl,po,hx.trans h1,h2,h3⟩
   ·rw [h1] at g1
    simp only [wc] at g1;subst g1
    refine ⟨_,pl,po,g2,?_,h3⟩
    rcases h2 with ⟨q1,q2⟩|⟨e2,n2,ps2,i2,q,m,q1,q2,q3,q4⟩|⟨a2,e2,n2,ps2,i2,q,m,q1,q2,q3,q4⟩
    ·exact .inl ⟨q1,q2⟩
    ·simp only [wFa] at q2
     obtain ⟨_,rfl⟩:=q2
     simp [qDa] at q4
    ·simp at q2
  ·exact ⟨gh,pl,po,hc.out hl h1,h2,h3⟩
 |rptr t fr x=>
  obtain ⟨b,o,cs,e,hn,hcs,h⟩:=h
  rcases hn with rfl|hn
  ·exact ⟨b,o,[],e, .inl rfl,fun j v hj=>by simp at hj,h.keep (hk fr)⟩
  ·exact ⟨b,o,cs,e, .inr ((hk fr).k b hn).1,hcs.keep ((hk fr).k b hn).2,h.keep (hk fr)⟩
 |cptr l=>
  obtain ⟨sh,pl,h1,h2⟩:=h
  obtain ⟨⟨sh',pl'⟩,g1,g2⟩:=hc.pl h1
  simp only at g2;subst g2
  exact ⟨sh',pl,g1,h2⟩
 |func f caps=>obtain ⟨vs,h1,h2⟩:=h;exact ⟨vs,h1,h2.chg hc⟩
 |mapr l=>
  obtain ⟨sh,pl,h1,h2⟩:=h
  obtain ⟨⟨sh',pl'⟩,g1,g2⟩:=hc.pl h1
  simp only at g2;subst g2
  exact ⟨sh',pl,g1,h2⟩
 |chan l=>
  obtain ⟨sh,pl,h1,h2⟩:=h
  obtain ⟨⟨sh',pl'⟩,g1,g2⟩:=hc.pl h1
  simp only at g2;subst g2
  exact ⟨sh',pl,g1,h2⟩
 |sln e fr xs=>exact ⟨PRd.keep (hk fr) (t:= .slice e) h.1,h.2⟩
 |ifp T t l p=>
  have ho:l ∉ ns:=by simpa [okV] using ho
  obtain ⟨sh,pl,po,h1,h2⟩:=h
  exact ⟨sh,pl,po,hc.out ho h1,h2⟩
 |cslice e l n=>
  have ho:l ∉ ns:=by simpa [okV] using ho
  obtain ⟨pl,h1,h2⟩:=h
  exact ⟨pl,hc.out ho h1,h2⟩
 |_=>exact h
theorem VRdL.chg (hc:Chg (·∈ns) K K') (hk:∀fr,Keep w w' (N fr) (N' fr)):∀{as:List AV} {vs:List Value},as.all (okV ns)=true→VRdL w N K as vs→VRdL w' N' K' as vs
 |[],_,_,h=>h
 |_::_,_,ho,h=>by
  simp only [wnb,wz] at ho
  obtain ⟨v,r,e,h1,h2⟩:=h
  exact ⟨v,r,e,h1.chg hc hk ho.1,h2.chg hc hk ho.2⟩
theorem TVRd.chg (hc:Chg (·∈ns) K K') (hk:∀fr,Keep w w' (N fr) (N' fr)) {a:TV} {v:Value} (ho:qfN ns a=true) (h:TVRd w N K a v):TVRd w' N' K' a v:=by
 cases a with
 |one a=>exact VRd.chg hc hk ho h
 |tup as=>obtain ⟨vs,e,h⟩:=h;exact ⟨vs,e,h.chg hc hk ho⟩
theorem ORd.chg (hc:Chg (·∈ns) K K') (hk:∀fr,Keep w w' (N fr) (N' fr)) {o:Obj} {gh:Gh} (ho:okO ns o=true) (hb:∀p,Has gh p→w'.heap[p.blk]?=w.heap[p.blk]?) (h:ORd w N K o gh):ORd w' N' K' o gh:=by
 cases o with
 |row e fr xs=>
  refine ⟨h.1,?_⟩
  have h2:=h.2
  cases hp:gh.pl with
  |none=>rw [hp] at h2;exact h2
  |some p=>
   rw [hp] at h2
   obtain ⟨cs,h1,h2⟩:=h2
   exact ⟨cs,h1.keep (hb p (.inl hp)),h2.imp (fun _ _=>PRd.keep (hk fr))⟩
 |box t x=>
  obtain ⟨hs,p,cs,hp,h1,h2⟩:=h
  exact ⟨hs,p,cs,hp,h1.keep (hb p (.inl hp)),h2.chg hc hk⟩
 |cell v=>
  obtain ⟨hs,p,c,hp,h1,h2⟩:=h
  exact ⟨hs,p,c,hp,h1.keep (hb p (.inl hp)),h2.chg hc hk ho⟩
 |map k v es=>
  obtain ⟨hs,p,en,clock,hp,h1,hf1,hf2,h2⟩:=h
  exact ⟨hs,p,en,clock,hp,(hb p (.inl hp)).trans h1,hf1,hf2,h2.keep ⟨fun _ h=>h.elim⟩⟩
 |chan e fr cap xs cl=>
  obtain ⟨hs,p,buf,s,r,hp,h1,h2⟩:=h
  exact ⟨hs,p,buf,s,r,hp,(hb p (.inl hp)).trans h1,h2.keep (hk fr)⟩
 |fam e xss=>
  obtain ⟨hf,ps,hs,ha,h⟩:=h
  refine ⟨hf,ps,hs,ha,?_⟩
  cases hp:gh.pl with
  |none=>rw [hp] at h;exact h
  |some p=>
   rw [hp] at h
   obtain ⟨cs,h1,h2⟩:=h
   exact ⟨cs,h1.keep (hb p (.inl hp)),h2.keep hf (fun q hq=>hb q (.inr (by rw [hs];exact hq)))⟩
 |famS a e xs=>
  obtain ⟨ha0,hf,ps,hs,ha,h⟩:=h
  refine ⟨ha0,hf,ps,hs,ha,?_⟩
  cases hp:gh.pl with
  |none=>rw [hp] at h;exact h
  |some p=>
   rw [hp] at h
   obtain ⟨cs,h1,h2⟩:=h
   exact ⟨cs,h1.keep (hb p (.inl hp)),h2.keep ha0 hf (fun q hq=>hb q (.inr (by rw [hs];exact hq)))⟩
end
end Go.Ab

/-
  A row of one's own is stored as an element of a row of such rows.
-/
set_option linter.unusedVariables false
set_option linter.unusedSimpArgs false
namespace Go.Ab
open Go
structure StpC (c:Cx) (H:qZb) (K:Kn) (w:World) (upd:List (Nat×Option Obj)) (l:Nat) (K':Kn) (w':World):Prop where
 inv:Inv c (qsb H upd) K' w'
 chg:Chg (·∈[l]) K K'
 keep:∀fr,Keep w w' (NN c H K w fr) (NN c (qsb H upd) K' w' fr)
 size:w.heap.size≤w'.heap.size
def qiH (P:Program) (ev:Operand→TV) (lk:qZb) (op:Op):Option (Nat×Out):=
 match op with
 | .store T a x=>match ev1 ev a,ev1 ev x with
   |some (.ptr (.slice e) l [.idx i]),some (.ref e2 l2 off m true)=>match lk l,lk l2 with
    |some (.fam e0 xss),some (.row e1 fr ys)=>if h:e1=e0 then (if e0=e∧e2=e∧l≠l2∧8≤l∧qod P tyD T=some (.slice e) then
      some (l,⟨.one .undef,[(l2,none),(l,some (.fam e0 (xss.set i (h▸ys))))],[]⟩) else none) else none
    |_,_=>none
   |_,_=>none
 |_=>none
section
variable {c:Cx} {P:Program} {GT:qTg} {H lk:qZb} {K:Kn} {w:World} {T:Nat→TV} {a:Act} {nl nt:Nat} {ev:Operand→TV} {ρ:Operand→Value}
theorem FamRd.put {e:Ty} {ys:List (pden e)} {v:Value} {q:Option Plc} (hs:Slot w e q v ys):∀{xss:List (List (pden e))} {ps:List (Nat×Option Plc)} {cs:List Value} {i:Nat},FamRd w e xss ps cs→i<xss.length→FamRd w e (xss.set i ys) (ps.set i (ys.length,q)) (cs.set i v)
 |[],_,_,i,h,hi=>by simp at hi
 |xs::r,_,_,i,h,hi=>by
  obtain ⟨p,ps',u,cs',rfl,rfl,h1,h2⟩:=h
  cases i with
  |zero=>
   simp only [List.set_cons_zero]
   refine ⟨q,ps',v,cs',rfl,rfl,?_,h2⟩
   cases q with
   |none=>exact hs
   |some q=>exact hs
  |succ i=>
   simp only [List.set_cons_succ]
   exact ⟨p,_,u,_,rfl,rfl,h1,h2.put hs (by simpa using hi)⟩
theorem FamRd.len2 {e:Ty}:∀{xss:List (List (pden e))} {ps:List (Nat×Option Plc)} {cs:List Value},FamRd w e xss ps cs→ps.length=xss.length∧cs.length=xss.length
 |[],_,_,h=>by obtain ⟨rfl,rfl⟩:=h;exact ⟨rfl,rfl⟩
 |xs::r,_,_,h=>by
  obtain ⟨p,ps',u,cs',rfl,rfl,h1,h2⟩:=h
  obtain ⟨a,b⟩:=h2.len2
  exact ⟨by simp [a],by simp [b]⟩
theorem qjL {α:Type} {cs:List α} {i:Nat} {v:α} (h:i<cs.length):put cs i [v]=cs.set i v:=by
 apply wQa
 intro j
 rw [qWi (by simp;omega),wtb]
 by_cases h1:j<i
 ·rw [if_pos h1,if_neg (by omega)]
 ·rw [if_neg h1]
  by_cases h2:i=j
  ·subst h2;simp [h]
  ·rw [if_neg (by simp;omega),if_neg h2]
theorem qzp {α β:Type}:∀(ps:List (α×β)) (i:Nat) (x:α×β),(ps.set i x).map (·.2)=(ps.map (·.2)).set i x.2
 |[],_,_=>rfl
 |_::r,0,_=>rfl
 |p::r,i+1,x=>by simp [qzp r i x]
theorem qrJ (hv:Inv c H K w) {l l2 i:Nat} {e:Ty} {xss:List (List (pden e))} {ys:List (pden e)} {fr:Bool} {n:Nat} {ps:List (Nat×Option Plc)} {p0:Plc} {v:Value} {off m:Nat}
  (hl:H l=some (.fam e xss)) (hl2:H l2=some (.row e fr ys)) (hne:l≠l2) (hK:K l=some ⟨.row (.slice e) n ps,some p0⟩) (hi:i<n) (hr:RefRd K e l2 off m true v)
  (hob:∀x ob,H x=some ob→x≠l→okO [l] ob=true):
  (∃cs,InBlk w p0 cs∧i<cs.length)∧∃K',StpC c H K w [(l2,none),(l,some (.fam e (xss.set i ys)))] l K' (w.setCells p0.blk (p0.ob+i) [v]):=by
 obtain ⟨gh,g1,hf,ps1,g2,ha,g3⟩:=hv.objs l _ hl
 rw [hK] at g1;injection g1 with g1;subst g1
 simp only [Shp.row.injEq,true_and] at g2
 obtain ⟨rfl,rfl⟩:=g2
 obtain ⟨cs,b1,b2⟩:=g3
 obtain ⟨l1,l3⟩:=b2.len2
 obtain ⟨gh2,k1,k2,k3⟩:=hv.objs l2 _ hl2
 obtain ⟨n2,pl2,⟨ps2,r1⟩,r2,r3,r4⟩:=hr
 rw [k1] at r1;injection r1 with r1;subst r1
 simp only [Shp.row.injEq,true_and] at k2
 obtain ⟨rfl,rfl⟩:=k2
 obtain ⟨rfl,rfl⟩:=r3 rfl
 simp only at k3
 obtain ⟨q1,q2,q3,q4,q5⟩:=qmb p0.blk [v] (p0.ob+i) w
 have hblk2:∀p,pl2=some p→p.blk≠p0.blk:=fun p hp e=>hne (hv.inj l l2 _ _ _ _ p0 p hl hl2 hK k1 (.inl rfl) (.inl hp) e.symm)
 have hex:∀p,some p∈ps.map (·.2)→p.blk≠p0.blk:=fun p hp=>ha.2 p0 p rfl hp
 have hslot:Slot (w.setCells p0.blk (p0.ob+i) [v]) e pl2 v ys:=by
  cases pl2 with
  |none=>exact ⟨r4.1,k3⟩
  |some p=>
   obtain ⟨o,cap,h1,h2,h3⟩:=r4
   obtain ⟨cl,h4,h5⟩:=k3
   refine ⟨o,cap,cl,h1,h2,?_,h4.keep (q5 _ (hblk2 p rfl)),h5.imp (fun _ _ q=>q.flat hf)⟩
   simpa using h3
 have hset:∀(x:Option Plc),x∈(ps.set i (ys.length,pl2)).map (·.2)→x∈ps.map (·.2)∨x=pl2:=fun x hx=>by
  rw [qzp] at hx
  exact List.mem_or_eq_of_mem_set hx
 refine ⟨⟨cs,b1,by omega⟩,qLj K l ⟨.row (.slice e) xss.length (ps.set i (ys.length,pl2)),some p0⟩,?_⟩
 have hup:∀x,qsb H [(l2,none),(l,some (.fam e (xss.set i ys)))] x=if l2=x then none else if l=x then some (.fam e (xss.set i ys)) else H x:=fun x=>by
  simp only [qsb,lookL]
  by_cases h1:l2=x
  ·simp [h1]
  ·by_cases h2:l=x <;> simp [h1,h2]
 have hwas:∀p,Has ⟨.row (.slice e) xss.length (ps.set i (ys.length,pl2)),some p0⟩ p→Has ⟨.row (.slice e) xss.length ps,some p0⟩ p∨pl2=some p:=fun p hp=>by
  rcases hp with hp|hp
  ·exact .inl (.inl hp)
  ·rcases hset _ hp with h|h
   ·exact .inl (.inr h)
   ·exact .inr h.symm
 have hcase:∀x o g p,qsb H [(l2,none),(l,some (.fam e (xss.set i ys)))] x=some o→qLj K l ⟨.row (.slice e) xss.length (ps.set i (ys.length,pl2)),some p0⟩ x=some g→Has g p→
   (x=l∧∃y o' g',(y=l∨y=l2)∧H y=some o'∧K y=some g'∧Has g' p)∨(x≠l∧x≠l2∧H x=some o∧K x=some g):=by
  intro x o g p h1 h2 h3
  rw [hup] at h1
  by_cases e2:l2=x
  ·rw [if_pos e2] at h1;cases h1
  ·rw [if_neg e2] at h1
   by_cases e1:l=x
   ·subst e1
    rw [qRa] at h2;injection h2 with h2;subst h2
    refine .inl ⟨rfl,?_⟩
    rcases hwas p h3 with h|h
    ·exact ⟨l,_,_, .inl rfl,hl,hK,h⟩
    ·exact ⟨l2,_,_, .inr rfl,hl2,k1, .inl h⟩
   ·rw [if_neg e1] at h1
    rw [qof (wGa e1)] at h2
    exact .inr ⟨wGa e1,wGa e2,h1,h2⟩
 have hlive:∀b,qTb (qsb H [(l2,none),(l,some (.fam e (xss.set i ys)))]) (qLj K l ⟨.row (.slice e) xss.length (ps.set i (ys.length,pl2)),some p0⟩) b→qTb H K b:=by
  rintro b ⟨x,o,g,p,h1,h2,h3,h4⟩
  rcases hcase x o g p h1 h2 h3 with ⟨_,y,o',g',_,a1,a2,a3⟩|⟨_,_,a1,a2⟩
  ·exact ⟨y,o',g',p,a1,a2,a3,h4⟩
  ·exact ⟨x,o,g,p,a1,a2,h3,h4⟩
 have hkeep:∀fr,Keep w (w.setCells p0.blk (p0.ob+i) [v]) (NN c H K w fr) (NN c (qsb H [(l2,none),(l,some (.fam e (xss.set i ys)))]) (qLj K l ⟨.row (.slice e) xss.length (ps.set i (ys.length,pl2)),some p0⟩) (w.setCells p0.blk (p0.ob+i) [v]) fr):=
  fun fr=>⟨fun b hb=>⟨⟨by rw [q4];exact hb.1,fun hn=>hb.2.1 (hlive b hn),hb.2.2⟩,q5 b (fun e=>hb.2.1 (e▸⟨l,_,_,p0,hl,hK, .inl rfl,rfl⟩))⟩⟩
 have hchg:Chg (·∈[l]) K (qLj K l ⟨.row (.slice e) xss.length (ps.set i (ys.length,pl2)),some p0⟩):=fun x=>by
  by_cases e1:x=l
  ·subst e1;exact .inr ⟨wT.2 rfl,_,_,_,_,_,hK,qRa⟩
  ·exact .inl (qof e1)
 refine ⟨⟨fun x o hx=>?_,fun x o g p h1 h2 h3=>?_,fun x x' o1 o2 g1 g2 p1 p2 h1 h2 h3 h4 h5 h6 h7=>?_,?_⟩,hchg,hkeep,by rw [q4];exact ws _⟩
 ·rw [hup] at hx
  by_cases e2:l2=x
  ·rw [if_pos e2] at hx;cases hx
  ·rw [if_neg e2] at hx
   by_cases e1:l=x
   ·subst e1
    rw [if_pos rfl] at hx;injection hx with hx;subst hx
    refine ⟨_,qRa,hf,ps.set i (ys.length,pl2),by simp,⟨?_,?_⟩,?_⟩
    ·intro i1 j1 p q h1 h2 h3
     rw [qzp,wtb] at h1 h2
     have hother:∀(j:Nat) (p q:Plc),(ps.map (·.2))[j]?=some (some p)→pl2=some q→p.blk≠q.blk:=fun j p q h1 h2 h3=>
      hne (hv.inj l l2 _ _ _ _ p q hl hl2 hK k1 (.inr (wma h1)) (.inl h2) h3)
     by_cases e3:i=i1
     ·by_cases e4:i=j1
      ·omega
      ·rw [if_pos e3] at h1;rw [if_neg e4] at h2
       split at h1
       ·injection h1 with h1
        exact absurd h3.symm (hother j1 q p h2 h1)
       ·cases h1
     ·rw [if_neg e3] at h1
      by_cases e4:i=j1
      ·rw [if_pos e4] at h2
       split at h2
       ·injection h2 with h2
        exact absurd h3 (hother i1 p q h1 h2)
       ·cases h2
      ·rw [if_neg e4] at h2
       exact ha.1 i1 j1 p q h1 h2 h3
    ·intro p q hp hq
     injection hp with hp;subst hp
     rcases hset _ hq with h|h
     ·exact ha.2 p0 q rfl h
     ·exact hblk2 q h.symm
    ·have h1:=b1.write (o:=i) (s:=[v]) (by simp;omega)
     rw [qjL (by omega)] at h1
     exact ⟨_,h1,(b2.keep hf (fun p hp=>q5 _ (hex p hp))).put hslot hi⟩
   ·rw [if_neg e1] at hx
    obtain ⟨g,a1,a2⟩:=hv.objs x o hx
    refine ⟨g,by rw [qof (wGa e1)];exact a1,a2.chg hchg hkeep (hob x o hx (wGa e1)) (fun p hp=>q5 _ (fun h=>e1 ?_))⟩
    exact hv.inj l x _ _ _ _ p0 p hl hx hK a1 (.inl rfl) hp h.symm
 ·rw [q4]
  rcases hcase x o g p h1 h2 h3 with ⟨_,y,o',g',_,a1,a2,a3⟩|⟨_,_,a1,a2⟩
  ·exact hv.own y o' g' p a1 a2 a3
  ·exact hv.own x o g p a1 a2 h3
 ·rcases hcase x o1 g1 p1 h1 h3 h5 with ⟨rfl,y,o',g',hy,a1,a2,a3⟩|⟨n1,n2,a1,a2⟩
  ·rcases hcase x' o2 g2 p2 h2 h4 h6 with ⟨rfl,_⟩|⟨n3,n4,b1,b2⟩
   ·rfl
   ·have:=hv.inj y x' _ _ _ _ p1 p2 a1 b1 a2 b2 a3 h6 h7
    rcases hy with rfl|rfl
    ·exact this
    ·exact absurd this.symm n4
  ·rcases hcase x' o2 g2 p2 h2 h4 h6 with ⟨rfl,y,o',g',hy,b1,b2,b3⟩|⟨n3,n4,b1,b2⟩
   ·have:=hv.inj x y _ _ _ _ p1 p2 a1 b1 a2 b2 h5 b3 h7
    rcases hy with rfl|rfl
    ·exact this
    ·exact absurd this n2
   ·exact hv.inj x x' _ _ _ _ p1 p2 a1 b1 a2 b2 h5 h6 h7
 ·refine ⟨q1.trans hv.fr.os,q2.trans hv.fr.tape,q3.trans hv.fr.output,by rw [q4];exact hv.fr.size,fun k hk1 hk2=>?_⟩
  have h0:=hv.own l _ _ p0 hl hK (.inl rfl)
  by_cases hkp:k=p0.blk
  ·subst hkp
   rcases h0.2.1 with h3|h3
   ·omega
   ·exact absurd h3 hk2
  ·exact (q5 k hkp).trans (hv.fr.block k hk1 hk2)
theorem qgH (A:At c P GT H lk K w ev ρ nl) {o:Oper} {l:Nat} {out:Out} (h:qiH P ev lk o.op=some (l,out)) (hob:∀x ob,H x=some ob→x≠l→okO [l] ob=true):
  8≤l∧Does P o ρ w (fun u w'=>∃K',StpC c H K w out.upd l K' w'∧TVRd w' (NN c (qsb H out.upd) K' w') K' out.v u):=by
 unfold qiH at h
 split at h
 ·rename_i T x y ho
  split at h
  ·rename_i e l i e2 l2 off m hx hy
   split at h
   ·rename_i e0 xss e1 fr ys hl hl2
    split at h
    ·rename_i he
     subst he
     split at h
     ·rename_i hq
      obtain ⟨rfl,rfl,hne,h8,hT⟩:=hq
      simp only [wc,wk] at h
      obtain ⟨rfl,rfl⟩:=h
      refine ⟨h8,?_⟩
      obtain ⟨gh,pl,po,k1,k2,k3⟩:=A.one hx
      have hr:=A.one hy
      have hH:=A.sub _ _ hl
      obtain ⟨gh',g1,hf,ps,g2,ha,g3⟩:=A.inv.objs l _ hH
      rw [k1] at g1;injection g1 with g1;subst g1
      obtain ⟨sh,pl0⟩:=gh
      simp only at g2;subst g2
      rcases k2 with ⟨k2,k4⟩|⟨e3,n,ps',i',q,m',q1,q2,q3,q4⟩|⟨a3,e3,n,ps',i',q,m',q1,q2,q3,q4⟩
      ·simp only at k2;subst k2
       simp only [qdl,qDa] at k4
       split at k4
       ·rename_i hi
        simp only [wc,wk,and_true] at k4
        have hpo:po=i:=by simpa [Ty.sz] using k4.symm
        subst hpo
        obtain ⟨⟨cs,b1,b2⟩,K',S⟩:=qrJ A.inv hH (A.sub _ _ hl2) hne k1 hi hr hob
        refine Does.skip (w':=w.setCells pl.blk (pl.ob+po) [ρ y]) ?_ ⟨K',S,trivial⟩
        obtain ⟨A0,c0,hv⟩:=hr.form
        have hcl:(ρ y).cells.toList=[ρ y]:=by rw [hv];rfl
        have:=qcn (P:=P) (w:=w) hT b1 (o:=po) (s:=[ρ y]) (by simp;omega) (v:=ρ y) hcl rfl (fun u hu=>by rw [wT.1 hu,hv];rfl)
        simp only [execOp,ho,k3,Instr.storeAt,Instr.sureAddr,wu,wE,wq,this]
       ·cases k4
      ·simp only [wFa] at q2
       obtain ⟨_,rfl⟩:=q2
       simp [qDa] at q4
      ·simp at q2
     ·cases h
    ·cases h
   ·cases h
  ·cases h
 ·cases h
theorem Rel.putC (R:Rel c P GT nt T H K a w) {upd:List (Nat×Option Obj)} {K':Kn} {w':World} {l:Nat} (S:StpC c H K w upd l K' w') {dst:Option Nat} {v:TV} {u:Value} (hv:TVRd w' (NN c (qsb H upd) K' w') K' v u) (hd:qUk nt dst=true) (hok:∀t,qfN [l] (T t)=true):
  Rel c P GT nt (quw T dst v) (qsb H upd) K' (a.put dst u) w':=by
 have hsz:(ngOf GT)≤w'.heap.size:=by
  have:=S.inv.fr.size
  have:=R.ng
  have:=R.gng
  omega
 refine ⟨S.inv,fun t=>?_,?_,?_,R.ng,R.gng,R.glob.keep hsz (fun g hg=>((S.keep false).k g (R.glob_nn hg)).2)⟩
 ·cases dst with
  |none=>exact (R.tmps t).chg S.chg S.keep (hok t)
  |some d=>
   simp only [qUk,decide_eq_true_eq] at hd
   simp only [quw]
   split
   ·rename_i e
    subst e
    have:(a.put (some t) u).eval (.tmp t)=u:=by
     simp [Act.put,Act.eval,R.size,hd]
    rw [this];exact hv
   ·rename_i e
    rw [Act.eval_put (fun d' hd' hx=>e (by cases hd';cases hx;rfl))]
    exact (R.tmps t).chg S.chg S.keep (hok t)
 ·cases dst <;> simp [Act.put,R.size]
 ·cases dst <;> simp [Act.put,R.defers]
end
end Go.Ab

/-
  append to a part of a row of one's own, where that part is used again: in place, or a copy.
-/
set_option linter.unusedVariables false
set_option linter.unusedSimpArgs false
namespace Go.Ab
open Go
structure StpL (c:Cx) (H:qZb) (K:Kn) (w:World) (upd:List (Nat×Option Obj)) (l:Nat) (K':Kn) (w':World):Prop where
 inv:Inv c (qsb H upd) K' w'
 same:∀x,x≠l→K' x=K x
 keep:∀fr,Keep w w' (NN c H K w fr) (NN c (qsb H upd) K' w' fr)
 size:w.heap.size≤w'.heap.size
section
variable {c:Cx} {P:Program} {GT:qTg} {H lk:qZb} {K:Kn} {w:World} {T:Nat→TV} {a:Act} {nl nt:Nat} {ev:Operand→TV} {ρ:Operand→Value}
theorem VRd.other {w w':World} {N N':Bool→Nat→Prop} {K K':Kn} {l:Nat} (hs:∀x,x≠l→K' x=K x) (hk:∀fr,Keep w w' (N fr) (N' fr)) {a:AV} {v:Value} (hl:l ∉ qNh a) (h:VRd w N K a v):VRd w' N' K' a v:=by
 have h1:∀k∈qNh a,K' k=K (id k):=fun k hk=>hs k (fun e=>hl (e▸hk))
 have h2:VRd w N K (qRx id a) v:=(qlu (K:=K) (K':=K) (f:=id) (fun _ _=>rfl)).2 h
 exact ((qlu h1).1 h2).keep ⟨hk,fun _ _ h=>h⟩
theorem TVRd.other {w w':World} {N N':Bool→Nat→Prop} {K K':Kn} {l:Nat} (hs:∀x,x≠l→K' x=K x) (hk:∀fr,Keep w w' (N fr) (N' fr)) {a:TV} {v:Value} (hl:l ∉ qtl a) (h:TVRd w N K a v):TVRd w' N' K' a v:=by
 have h1:∀k∈qtl a,K' k=K (id k):=fun k hk=>hs k (fun e=>hl (e▸hk))
 have h2:TVRd w N K (qaM id a) v:=(qGC (K:=K) (K':=K) (f:=id) (fun _ _=>rfl)).2 h
 exact ((qGC h1).1 h2).keep ⟨hk,fun _ _ h=>h⟩
theorem ORd.other {w w':World} {N N':Bool→Nat→Prop} {K K':Kn} {l:Nat} (hs:∀x,x≠l→K' x=K x) (hk:∀fr,Keep w w' (N fr) (N' fr)) {o:Obj} {gh:Gh} (hl:l ∉ qAp o) (hb:∀p,Has gh p→w'.heap[p.blk]?=w.heap[p.blk]?) (h:ORd w N K o gh):ORd w' N' K' o gh:=by
 have h1:∀k∈qAp o,K' k=K (id k):=fun k hk=>hs k (fun e=>hl (e▸hk))
 have h2:ORd w N K (qAF id o) gh:=(qHC (K:=K) (K':=K) (f:=id) (fun _ _=>rfl)).2 h
 exact ORd.keep ⟨hk,fun _ _ h=>h⟩ hb ((qHC h1).1 h2)
theorem qoM (hv:Inv c H K w) {w':World} {l:Nat} {o0 o':Obj} {gh gh':Gh} (hl:H l=some o0) (hK:K l=some gh)
  (hp:∀p,Has gh' p→Has gh p)
  (hw:w'.os=w.os∧w'.tape=w.tape∧w'.output=w.output∧w'.heap.size=w.heap.size∧∀k,(∀p,Has gh p→p.blk≠k)→w'.heap[k]?=w.heap[k]?)
  (ho:∀(N':Bool→Nat→Prop) (K':Kn),(∀b,N' true b→N' false b)→(∀fr,Keep w w' (NN c H K w fr) (N' fr))→ORd w' N' K' o' gh')
  (hob:∀x ob,H x=some ob→x≠l→l ∉ qAp ob):StpL c H K w [(l,some o')] l (qLj K l gh') w':=by
 have hup:∀x,qsb H [(l,some o')] x=if l=x then some o' else H x:=fun x=>by
  simp only [qsb,lookL];split <;> simp_all
 have hcase:∀x o g p,qsb H [(l,some o')] x=some o→qLj K l gh' x=some g→Has g p→(x=l∧Has gh p)∨(x≠l∧H x=some o∧K x=some g):=by
  intro x o g p h1 h2 h3
  rw [hup] at h1
  by_cases e1:l=x
  ·subst e1
   rw [qRa] at h2;injection h2 with h2;subst h2
   exact .inl ⟨rfl,hp p h3⟩
  ·rw [if_neg e1] at h1
   rw [qof (wGa e1)] at h2
   exact .inr ⟨wGa e1,h1,h2⟩
 have hlive:∀b,qTb (qsb H [(l,some o')]) (qLj K l gh') b→qTb H K b:=by
  rintro b ⟨x,o,g,p,h1,h2,h3,h4⟩
  rcases hcase x o g p h1 h2 h3 with ⟨rfl,h5⟩|⟨_,h5,h6⟩
  ·exact ⟨x,o0,gh,p,hl,hK,h5,h4⟩
  ·exact ⟨x,o,g,p,h5,h6,h3,h4⟩
 have hkeep:∀fr,Keep w w' (NN c H K w fr) (NN c (qsb H [(l,some o')]) (qLj K l gh') w' fr):=
  fun fr=>⟨fun b hb=>⟨⟨by rw [hw.2.2.2.1];exact hb.1,fun hn=>hb.2.1 (hlive b hn),hb.2.2⟩,hw.2.2.2.2 b (fun p hp e=>hb.2.1 ⟨l,o0,gh,p,hl,hK,hp,e⟩)⟩⟩
 have hsame:∀x,x≠l→qLj K l gh' x=K x:=fun x hx=>qof hx
 refine ⟨⟨fun x o hx=>?_,fun x o g p h1 h2 h3=>?_,fun x x' o1 o2 g1 g2 p1 p2 h1 h2 h3 h4 h5 h6 h7=>?_,?_⟩,hsame,hkeep,by rw [hw.2.2.2.1];exact ws _⟩
 ·rw [hup] at hx
  by_cases e1:l=x
  ·subst e1
   rw [if_pos rfl] at hx;injection hx with hx;subst hx
   exact ⟨gh',qRa,ho _ _ ui hkeep⟩
  ·rw [if_neg e1] at hx
   obtain ⟨g,a1,a2⟩:=hv.objs x o hx
   refine ⟨g,by rw [qof (wGa e1)];exact a1,a2.other hsame hkeep (hob x o hx (wGa e1)) (fun p hp=>hw.2.2.2.2 _ (fun q hq e=>e1 ?_))⟩
   exact hv.inj l x _ _ _ _ q p hl hx hK a1 hq hp e
 ·rw [hw.2.2.2.1]
  rcases hcase x o g p h1 h2 h3 with ⟨rfl,h5⟩|⟨_,h5,h6⟩
  ·exact hv.own x o0 gh p hl hK h5
  ·exact hv.own x o g p h5 h6 h3
 ·rcases hcase x o1 g1 p1 h1 h3 h5 with ⟨rfl,a1⟩|⟨n1,a1,a2⟩
  ·rcases hcase x' o2 g2 p2 h2 h4 h6 with ⟨rfl,b1⟩|⟨n2,b1,b2⟩
   ·rfl
   ·exact hv.inj x x' _ _ _ _ p1 p2 hl b1 hK b2 a1 h6 h7
  ·rcases hcase x' o2 g2 p2 h2 h4 h6 with ⟨rfl,b1⟩|⟨n2,b1,b2⟩
   ·exact hv.inj x x' _ _ _ _ p1 p2 a1 hl a2 hK h5 b1 h7
   ·exact hv.inj x x' _ _ _ _ p1 p2 a1 b1 a2 b2 h5 h6 h7
 ·refine ⟨hw.1.trans hv.fr.os,hw.2.1.trans hv.fr.tape,hw.2.2.1.trans hv.fr.output,by rw [hw.2.2.2.1];exact hv.fr.size,fun k hk1 hk2=>?_⟩
  refine (hw.2.2.2.2 k (fun p hp e=>?_)).trans (hv.fr.block k hk1 hk2)
  have h0:=hv.own l o0 gh p hl hK hp
  subst e
  rcases h0.2.1 with h3|h3
  ·omega
  ·exact hk2 h3
def qcD (P:Program) (ev:Operand→TV) (lk:qZb) (nl:Nat) (op:Op):Option (Ty×Nat×Nat×Out×Out):=
 match op with
 | .call {callee:= .builtin .append,args,argTypes}=>match argTypes.toList,evs ev args.toList with
   |[T,T2],some [.ref e l 0 n false,x]=>match qJm P T,P.underlying T2,qhn lk e l with
    |some e',some (.slice _),some (fr0,zs)=>if e'=e∧qSJ P T e∧e.flat∧8≤l then (match x with
     | .str _=>none
     |x=>match qUe lk e x with
      |some (fr,[y])=>some (e,l,(zs.take n++[y]).length,
        ⟨.one (.ref e l 0 (zs.take n++[y]).length true),[(l,some (.row e (fr0&&fr) (zs.take n++[y])))],[]⟩,
        ⟨.one (.ref e nl 0 (zs.take n++[y]).length true),[(nl,some (.row e (fr0&&fr) (zs.take n++[y])))],[(zs.take n++[y]).length*qGd P T≤140737488355328]⟩)
      |_=>none) else none
    |_,_,_=>none
   |_,_=>none
 |_=>none
structure Grown (K K':Kn) (e:Ty) (l m:Nat):Prop where
 at_:∃n p,K l=some ⟨.row e n [],some p⟩∧K' l=some ⟨.row e m [],some p⟩
theorem Grown.ref {K K':Kn} {e:Ty} {l m n':Nat} {v:Value} (h:Grown K K' e l m) (hr:RefRd K e l 0 n' false v) (hn:n'≤m):RefRd K' e l 0 n' false v:=by
 obtain ⟨n,p,h1,h2⟩:=h.at_
 obtain ⟨n2,pl,⟨ps,r1⟩,r2,r3,r4⟩:=hr
 rw [h1] at r1
 simp only [wc,Gh.mk.injEq,Shp.row.injEq] at r1
 obtain ⟨⟨_,rfl,rfl⟩,rfl⟩:=r1
 exact ⟨m,some p,⟨[],h2⟩,by omega,by simp,r4⟩
theorem qSF (A:At c P GT H lk K w ev ρ nl) {o:Oper} {e:Ty} {l m:Nat} {outA outB:Out} (h:qcD P ev lk nl o.op=some (e,l,m,outA,outB)) (hc:qfg outB.conds) (hob:∀x ob,H x=some ob→x≠l→l ∉ qAp ob):
  8≤l∧Does P o ρ w (fun u w'=>(∃K',StpL c H K w outA.upd l K' w'∧Grown K K' e l m∧TVRd w' (NN c (qsb H outA.upd) K' w') K' outA.v u)∨Lands c H K w nl outB u w'):=by
 unfold qcD at h
 split at h
 ·rename_i args ats ho
  split at h
  ·rename_i T T2 e0 l0 n x hats hvs
   split at h
   ·rename_i e' E2 fr0 zs he hd2 hrow
    split at h
    ·rename_i hq
     obtain ⟨rfl,hok,hf,h8⟩:=hq
     split at h
     ·cases h
     ·rename_i hns
      split at h
      ·rename_i fr y hcon
       simp only [wc,wk] at h
       obtain ⟨rfl,rfl,rfl,rfl,rfl⟩:=h
       refine ⟨h8,?_⟩
       have hT:qod P tyD T=some (.slice e'):=by
        unfold qJm at he
        split at he
        ·rename_i e1 h';simp only [wc] at he;subst he;exact h'
        ·cases he
       obtain ⟨m0,E,_,hdT,hE⟩:=qpc hT
       unfold qSJ at hok
       rw [hdT] at hok
       simp only [wz,decide_eq_true_eq] at hok
       obtain ⟨⟨hz,hb0⟩,hs0⟩:=hok
       obtain ⟨z,hz1,hz2,i,hi1,hi2⟩:=qge (P:=P) (w:=w) hz
       obtain ⟨_,_,i',_,_,_,_,hi3,hi4⟩:=qHc hE
       rw [hi1] at hi3;injection hi3 with hi3;subst hi3
       have hby:P.bytesOf E=i.bytes:=by simp [Program.bytesOf,hi1]
       have hzs:z.cells.size=e'.sz:=by
        have:=(qaf (w:=w) (N:=fun _=>True) (t:=e')).length
        rw [←hz2] at this;simpa using this
       have heb:qGd P T=i.bytes:=by unfold qGd;rw [hdT];exact hby
       have hv:=qYx A hvs
       obtain ⟨u,v,hu,hr,hx⟩:=hv.two_inv
       have hat:ats=#[T,T2]:=by apply wUa;simpa using hats
       subst hat
       obtain ⟨cn,hex⟩:=qts (w:=w) (ρ:=ρ) (P:=P) ho
       have hl2:(args.map ρ)=(args.toList.map ρ).toArray:=by apply wUa;simp
       have fin:∀{R:Value→World→Prop},(∃r w',(wra #[T,T2] o.type #[u,v]).run P w= .ok r w'∧R r w')→Does P o ρ w R:=by
        rintro R ⟨r,w',h2,h3⟩
        refine Does.value (v:=r) (w':=w') ?_ h3
        have h1:(builtin .append #[T,T2] o.type cn (args.map ρ)).run P w=(do let v ←wra #[T,T2] o.type #[u,v];pure (Next.value v):Sem Next).run P w:=by rw [hl2,hu];rfl
        rw [hex,h1]
        simp [h2]
       apply fin
       obtain ⟨cl,y1,y2,y3⟩:=qYD (P:=P) A.inv A.sub hcon hx
       have hy1l:=y1.length (n:=e'.sz) (fun _ _=>PRd.length)
       have hsrc:Src P w E T2 e'.sz z.cells v [y].length cl:=Src.given (.inl ⟨E2,hd2⟩) y2 (fun w' hw=>by
        have:=y3 [y].length (ws _) w' hw
        rwa [←hy1l,wOa] at this)
       have hlk:=A.sub _ _ (qdc hrow)
       obtain ⟨h1,h2,h3,h4⟩:=qgn A.inv hlk hr
       have hcon:SlRd w (NN c H K w fr0) e' (seg zs 0 n false) u:=qoK h1 h3 h4
       have hseg:seg zs 0 n false=zs.take n:=by simp [seg]
       rw [hseg] at h1 hcon
       have hcon':∃base cap,u= .slice base n cap:=by
        obtain ⟨b0,c0,q,_⟩:=hcon
        exact ⟨b0,c0,by rw [q,h1]⟩
       obtain ⟨base,cap,rfl⟩:=hcon'
       have hlen:(zs.take n++[y]).length=n+1:=by rw [wl,h1];rfl
       by_cases hroom:n+1≤cap
       ·rcases h4 with ⟨q1,_⟩|⟨p,cs,o1,cap',q1,q2,q3,q4,q5,q6⟩
        ·injection q1 with _ _ q1';omega
        ·injection q2 with q2 _ q2'
         subst q2;subst q2'
         obtain ⟨rfl,q4⟩:=q4.resolve_left (by omega)
         have hxl:=q6.length (n:=e'.sz) (fun _ _=>PRd.length)
         have hm1:(n+1)*e'.sz≤cap*e'.sz:=wja _ hroom
         have hm2:(0+n)*e'.sz≤zs.length*e'.sz:=wja _ h2
         rw [whb] at hm1 hm2 q4
         simp only [List.length_singleton] at hy1l
         have hst:=run_storeCells_cells (P:=P) p.blk (p.ob+0*e'.sz+n*e'.sz) cl 0 w (fun j hj=>q5.is (by omega)) (fun j hj=>q5.free (by omega)) (y1.one (fun _ _=>PRd.one))
         have hcut:(cut cs (0*e'.sz) (n*e'.sz)).length=n*e'.sz:=qwo (by omega)
         obtain ⟨s1,s2,s3,s4,s5⟩:=qmb p.blk cl (p.ob+0*e'.sz+n*e'.sz+0) w
         refine ⟨_,w.setCells p.blk (p.ob+0*e'.sz+n*e'.sz+0) cl,qwj hdT hi1 hi2 hi4 hzs hsrc hroom (by simp only [wNa];exact hst), .inl ⟨_,qoM A.inv (gh':=⟨.row e' (zs.take n++[y]).length [],some p⟩) hlk q1 (fun p' hp'=>hp') ⟨s1,s2,s3,s4,fun k hk=>s5 k (fun e=>hk p (.inl rfl) e.symm)⟩ (fun N' K' hN hk=>⟨rfl,cut cs (0*e'.sz) (n*e'.sz)++cl,?_,?_⟩) hob,⟨zs.length,p,q1,qRa⟩,?_⟩⟩
         ·have:=q5.move (q:=p.ob) (o:=p.ob+0*e'.sz+n*e'.sz+0) (s:=cl) (ds:=cut cs (0*e'.sz) (n*e'.sz)++cl) (by simp only [wl,hcut,hy1l];omega) (by omega) (by simp only [wl,hcut,hy1l];omega) (fun j v hj=>by
           by_cases hj1:j<n*e'.sz
           ·rw [wha (by omega),qVk,if_pos hj1] at hj
            rw [if_pos (by omega)]
            exact ⟨by omega,by rw [←hj];congr 1;omega⟩
           ·rw [wda (by omega),hcut] at hj
            have hj2:=(wZ.1 hj).1
            rw [if_neg (by omega),if_pos (by omega)]
            rw [←hj];congr 1;omega)
          exact this
         ·refine Cat.append ?_ (y1.imp (fun _ _ q=>q.flat hf))
          have:=qUl (off:=0) (len:=n) (wh:=false) (fun _ _=>PRd.length) q6 h3
          rw [hseg] at this
          exact this.imp (fun _ _ q=>q.flat hf)
         ·show RefRd _ _ _ _ _ _ _
          rw [hlen]
          refine ⟨_,some p,⟨[],qRa⟩,by omega,fun _=>⟨rfl,by omega⟩,_,cap,rfl,hroom, .inr ⟨rfl,?_⟩⟩
          rw [whb];omega
       ·obtain ⟨c1,_⟩:=hc
        rw [heb,hlen] at c1
        obtain ⟨v',w',K',g1,g2,g3⟩:=qUr (ty:=o.type) A.inv A.ng (A.fresh nl (ws _) (by omega)) hdT hi1 hi2 hi4 hzs (zs:=zs.take n) (fr1:=fr0) hcon hsrc y1 rfl (by simp;omega) (by simpa using c1) (by omega)
        exact ⟨v',w',g1, .inr ⟨K',g2,g3⟩⟩
      ·cases h
    ·cases h
   ·cases h
  ·cases h
 ·cases h
def okG (e:Ty) (l m:Nat):TV→Option (List Prop)
 | .one (.ref e' l' 0 n' false)=>if l'=l then (if e'=e then some [n'≤m] else none) else some []
 |v=>if (qtl v).contains l then none else some []
def qgN (e:Ty) (l m:Nat):List (Nat×TV)→Option (List Prop)
 |[]=>some []
 |p::r=>match okG e l m p.2,qgN e l m r with
  |some a,some b=>some (a++b)
  |_,_=>none
theorem qvM {w w':World} {N N':Bool→Nat→Prop} {K K':Kn} {e:Ty} {l m:Nat} (hs:∀x,x≠l→K' x=K x) (hk:∀fr,Keep w w' (N fr) (N' fr)) (hg:Grown K K' e l m) {v:TV} {u:Value} {cs:List Prop} (h:okG e l m v=some cs) (hc:qfg cs) (hr:TVRd w N K v u):TVRd w' N' K' v u:=by
 unfold okG at h
 split at h
 ·rename_i e' l' n'
  split at h
  ·rename_i hl
   subst hl
   split at h
   ·rename_i he
    subst he
    simp only [wc] at h;subst h
    exact hg.ref hr hc.1
   ·cases h
  ·rename_i hl
   exact hr.other hs hk (by simp [qtl,qNh];exact fun e=>hl e.symm)
 ·split at h
  ·cases h
  ·rename_i hl
   exact hr.other hs hk (by simpa using hl)
theorem qvE {e:Ty} {l m:Nat}:∀{ts:List (Nat×TV)} {cs:List Prop},qgN e l m ts=some cs→qfg cs→∀p∈ts,∃a,okG e l m p.2=some a∧qfg a
 |[],_,_,_,p,hp=>by cases hp
 |q::r,cs,h,hc,p,hp=>by
  simp only [qgN] at h
  split at h
  ·rename_i a b ha hb
   simp only [wc] at h;subst h
   obtain ⟨h1,h2⟩:=qxj hc
   rcases wU.1 hp with rfl|hp
   ·exact ⟨a,ha,h1⟩
   ·exact qvE hb h2 p hp
  ·cases h
theorem Rel.putL (R:Rel c P GT nt T H K a w) {upd:List (Nat×Option Obj)} {K':Kn} {w':World} {l:Nat} (S:StpL c H K w upd l K' w') {dst:Option Nat} {v:TV} {u:Value} (hv:TVRd w' (NN c (qsb H upd) K' w') K' v u) (hd:qUk nt dst=true)
  (hok:∀t u,TVRd w (NN c H K w) K (T t) u→TVRd w' (NN c (qsb H upd) K' w') K' (T t) u):
  Rel c P GT nt (quw T dst v) (qsb H upd) K' (a.put dst u) w':=by
 have hsz:(ngOf GT)≤w'.heap.size:=by
  have:=S.inv.fr.size
  have:=R.ng
  have:=R.gng
  omega
 refine ⟨S.inv,fun t=>?_,?_,?_,R.ng,R.gng,R.glob.keep hsz (fun g hg=>((S.keep false).k g (R.glob_nn hg)).2)⟩
 ·cases dst with
  |none=>exact hok t _ (R.tmps t)
  |some d=>
   simp only [qUk,decide_eq_true_eq] at hd
   simp only [quw]
   split
   ·rename_i e
    subst e
    have:(a.put (some t) u).eval (.tmp t)=u:=by
     simp [Act.put,Act.eval,R.size,hd]
    rw [this];exact hv
   ·rename_i e
    rw [Act.eval_put (fun d' hd' hx=>e (by cases hd';cases hx;rfl))]
    exact hok t _ (R.tmps t)
 ·cases dst <;> simp [Act.put,R.size]
 ·cases dst <;> simp [Act.put,R.defers]
end
end Go.Ab

/-
  A state brought into its form: what is no longer needed is let go, rows and boxes get their names.
-/
set_option linter.unusedVariables false
set_option linter.unusedSimpArgs false
namespace Go.Ab
open Go
def qEa:Code→Code
 | .seq a _=>a
 |c=>c
def qaa:Code→Code
 | .seq _ b=>b
 |c=>c
def qeM:Code→Code
 | .cond _ a _=>a
 |c=>c
def qdO:Code→Code
 | .cond _ _ b=>b
 |c=>c
def cIn:Code→Code
 | .block _ b=>b
 | .loop b=>b
 | .scope b=>b
 |c=>c
def qnO (c:Code) (l:Nat):Code:=(findLabel c l).getD .skip
def qda (P:Program) (f:Nat):Code:=match P.funcs[f]? with
 |some fn=>match fn.body with
  |some c=>c
  |none=> .skip
 |none=> .skip
def qgg (P:Program) (f:Nat):Nat:=match P.funcs[f]? with
 |some fn=>fn.ntmps
 |none=>0
section
variable {P:Program} {GT:qTg} {nt:Nat} {c:Cx} {H lk:qZb} {K K':Kn} {w:World} {ren:List (Nat×Nat)} {lo:Bool} {N':Bool→Nat→Prop}
theorem qBp {σ:St}:∀{ts:List Nat} {l:List (Nat×TV)} {t:Nat} {v:TV},qgB σ ren lo ts=some l→lookL l t=some v→qSo (qib σ.heap) ren lo (σ.look t)=some v
 |[],l,t,v,h,hl=>by simp only [qgB,wc] at h;subst h;cases hl
 |a::r,l,t,v,h,hl=>by
  simp only [qgB] at h
  split at h
  ·rename_i x vs e1 e2
   simp only [wc] at h;subst h
   simp only [lookL] at hl
   split at hl
   ·rename_i e;subst e;simp only [wc] at hl;subst hl;exact e1
   ·exact qBp e2 hl
  ·cases h
theorem qXG {n n' o:Nat}:∀{ren:List (Nat×Nat)},qqp (ren.map (·.2))=true→(n,o)∈ren→(n',o)∈ren→n=n'
 |[],_,h,_=>by cases h
 |(a,b)::r,hn,h,h'=>by
  simp only [wJ] at hn
  obtain ⟨h1,h2⟩:=qrr hn
  rcases wU.1 h with e|h3
  ·injection e with e1 e2;subst e1;subst e2
   rcases wU.1 h' with e'|h4
   ·injection e' with e1 _;exact e1.symm
   ·exact (h1 (wP.2 ⟨_,h4,rfl⟩)).elim
  ·rcases wU.1 h' with e'|h4
   ·injection e' with e1 e2;subst e1;subst e2
    exact (h1 (wP.2 ⟨_,h3,rfl⟩)).elim
   ·exact qXG h2 h3 h4
theorem qlv {σ:St} {nx:Nat} {hl0:List (Nat×Option Obj)} {a:Act} (R:RelS c P GT nt σ K a w) (hok:qzF ren nx=true) (e2:qWc (qib σ.heap) ren lo ren=some hl0):
  ∃K':Kn,KeepX c (qib σ.heap) K K' w ren lo (fun _=>True) (NN c (qib hl0) K' w)∧Inv c (qib hl0) K' w∧(∀l,l<8→K' l=K l)∧(∀l,nx≤l→K' l=none):=by
 simp only [qzF,wz,wAa,decide_eq_true_eq,wub,beq_iff_eq] at hok
 obtain ⟨⟨⟨h1,h2⟩,h3⟩,h8⟩:=hok
 let K':Kn:=fun l=>if l<8 then K l else match lookL ren l with
  |some o=>K o
  |none=>none
 have hK':∀n o,(n,o)∈ren→K' n=K o:=by
  intro n o hm
  have hl:=qqr h1 hm
  have:=(h3 _ hm).2
  simp only [K']
  split
  ·rename_i hn
   rcases this with ⟨a1,_⟩|a1
   ·omega
   ·simp only at a1;rw [a1]
  ·rw [hl]
 have hO:∀n o,qib hl0 n=some o→∃m o',(n,m)∈ren∧qib σ.heap m=some o'∧qPk (qib σ.heap) ren lo o'=some o:=by
  intro n o hl
  unfold qib at hl
  split at hl
  ·rename_i x hx
   obtain ⟨m,o1,o2,g1,g2,g3,g4⟩:=qCp e2 hx
   subst hl
   injection g4 with g4;subst g4
   exact ⟨m,o1,g1,g2,g3⟩
  ·cases hl
 have hlive:∀b,qTb (qib hl0) K' b→∃l o gh p,(∃n,(n,l)∈ren)∧qib σ.heap l=some o∧K l=some gh∧Has gh p∧p.blk=b:=by
  rintro b ⟨l,o,gh,p,q1,q2,q3,q4⟩
  obtain ⟨m,o',m1,m2,m3⟩:=hO l o q1
  rw [hK' l m m1] at q2
  exact ⟨m,o',gh,p,⟨l,m1⟩,m2,q2,q3,q4⟩
 have X:KeepX c (qib σ.heap) K K' w ren lo (fun _=>True) (NN c (qib hl0) K' w):=by
  refine ⟨fun fr b hb=>?_,fun l n hn=>hK' n l (qNu hn),fun l o gh p _ hn q1 q2 q3 fr=>?_⟩
  ·have h1:NN c (qib hl0) K' w fr b:=⟨hb.1,fun hn=>by
    obtain ⟨l,o,gh,p,_,q⟩:=hlive b hn
    exact hb.2.1 ⟨l,o,gh,p,q⟩,hb.2.2⟩
   cases fr <;> cases lo <;> first|exact h1|exact ui b h1
  ·have ho:=R.rel.inv.own l o gh p q1 q2 q3
   refine ⟨ho.1,fun hn2=>?_,ho.2.1.imp id .inl⟩
   obtain ⟨l',o',gh',p',⟨n',m1⟩,m2,m3,m4,m5⟩:=hlive _ hn2
   have:=R.rel.inv.inj l' l o' o gh' gh p' p m2 q1 m3 q2 m4 q3 m5
   subst this
   exact qmo hn n' m1
 refine ⟨K',X,⟨fun l o hl=>?_,fun l o gh p q1 q2 q3=>?_,fun l l' o o' gh gh' p p' q1 q2 q3 q4 q5 q6 q7=>?_,R.rel.inv.fr⟩,fun l hl=>by simp only [K',hl,if_true],fun l hl=>?_⟩
 ·obtain ⟨m,o',m1,m2,m3⟩:=hO l o hl
  obtain ⟨gh,g1,g2⟩:=R.rel.inv.objs m o' m2
  exact ⟨gh,by rw [hK' l m m1];exact g1,qDE X R.rel.inv (fun _ _ h=>h) (fun _ _=>trivial) m3 g2⟩
 ·obtain ⟨m,o',m1,m2,m3⟩:=hO l o q1
  rw [hK' l m m1] at q2
  exact R.rel.inv.own m o' gh p m2 q2 q3
 ·obtain ⟨m,o1,m1,m2,_⟩:=hO l o q1
  obtain ⟨m',o2,m3,m4,_⟩:=hO l' o' q2
  rw [hK' l m m1] at q3
  rw [hK' l' m' m3] at q4
  have e:=R.rel.inv.inj m m' o1 o2 gh gh' p p' m2 m4 q3 q4 q5 q6 q7
  subst e
  exact qXG h2 m1 m3
 ·have hl8:¬l<8:=by omega
  simp only [K',hl8,if_false]
  cases hx:lookL ren l with
  |none=>rfl
  |some o=>
   exfalso
   have:=(h3 _ (qNb hx)).1
   simp only at this
   omega
theorem qPF {σ σ':St} {ts:List Nat} {nx:Nat} (h:σ.keep ts ren nx lo=some σ') (todo:List Item):Reach P GT nt ⟨todo,σ⟩ ⟨todo,σ'⟩:=by
 intro c K a w b cs R
 unfold St.keep at h
 split at h
 ·rename_i hok
  split at h
  ·rename_i tl hl0 e1 e2
   simp only [wc] at h;subst h
   obtain ⟨K',X,hI,h8,hx⟩:=qlv R hok e2
   refine ⟨K',a,w,⟨⟨hI,fun t=>?_,R.rel.size,R.rel.defers,R.rel.ng,R.rel.gng,R.rel.glob⟩,fun l hl=>hx l hl⟩,fun l gh hl hkl=>by rw [h8 l hl];exact hkl,Steps.refl _ _⟩
   show TVRd w (NN c (qib hl0) K' w) K' (St.look ⟨tl,hl0,nx⟩ t) _
   unfold St.look
   split
   ·rename_i v hv
    exact qnv X R.rel.inv (fun _ _ h=>h) (fun _ _=>trivial) (qBp e1 hv) (R.rel.tmps t)
   ·trivial
  ·cases h
 ·cases h
def qRF:List Item→Bool
 |[]=>true
 | .code .ret::_=>true
 |_=>false
theorem qQF {todo:List Item} (h:qRF todo=true):todo=[]∨∃k,todo= .code .ret::k:=by
 unfold qRF at h
 split at h
 ·exact .inl rfl
 ·exact .inr ⟨_,rfl⟩
 ·cases h
def AVle (a b:AV):Prop:=∀(w:World) (N:Bool→Nat→Prop) (K:Kn) (v:Value),VRd w N K a v→VRd w N K b v
theorem AVle.refl (a:AV):AVle a a:=fun _ _ _ _ h=>h
def AVsLe:List AV→List AV→Prop
 |[],[]=>True
 |a::as,b::bs=>AVle a b∧AVsLe as bs
 |_,_=>False
theorem AVsLe.refl:∀(as:List AV),AVsLe as as
 |[]=>trivial
 |a::as=>⟨AVle.refl a,AVsLe.refl as⟩
theorem AVsLe.append:∀{a a' b b':List AV},AVsLe a a'→AVsLe b b'→AVsLe (a++b) (a'++b')
 |[],[],_,_,_,h=>h
 |_::_,_::_,_,_,h,h'=>⟨h.1,h.2.append h'⟩
 |[],_::_,_,_,h,_=>h.elim
 |_::_,[],_,_,h,_=>h.elim
theorem AVsLe.rd {w:World} {N:Bool→Nat→Prop} {K:Kn}:∀{as bs:List AV} {vs:List Value},AVsLe as bs→VRdL w N K as vs→VRdL w N K bs vs
 |[],[],_,_,h=>h
 |a::as,b::bs,vs,h,hv=>by
  obtain ⟨v,q,e,h1,h2⟩:=hv
  exact ⟨v,q,e,h.1 _ _ _ _ h1,h.2.rd h2⟩
 |[],_::_,_,h,_=>h.elim
 |_::_,[],_,h,_=>h.elim
def TVle:TV→TV→Prop
 | .one a, .one b=>AVle a b
 | .tup as, .tup bs=>AVsLe as bs
 |_,_=>False
theorem TVle.rd {w:World} {N:Bool→Nat→Prop} {K:Kn} {a b:TV} {v:Value} (h:TVle a b) (hv:TVRd w N K a v):TVRd w N K b v:=by
 cases a <;> cases b <;> first|exact h _ _ _ _ hv|exact h.elim|skip
 obtain ⟨vs,e,h1⟩:=hv
 exact ⟨vs,e,AVsLe.rd h h1⟩
def qTN (P:Program) (GT:qTg) (nt:Nat) (rs:List ResultVar) (s:Pos) (res:TV) (post:List (Nat×Obj)):Prop:=
 ∀(c:Cx) (K:Kn) (a:Act) (w:World) (b:Frame) (cs:List Frame),RelS c P GT nt s.st K a w→
  ∃(s':Pos) (res0 res1:TV) (ren:List (Nat×Nat)) (nx:Nat) (lo:Bool) (K':Kn) (a':Act) (w':World),RelS c P GT nt s'.st K' a' w'∧(∀l gh,l<8→K l=some gh→K' l=some gh)∧
   Steps P (lone (b.at a s.todo) cs w) (lone (b.at a' s'.todo) cs w')∧qRF s'.todo=true∧qFC P s'.st rs=some res0∧qzF ren nx=true∧qSo (qib s'.st.heap) ren lo res0=some res1∧TVle res1 res∧qWc (qib s'.st.heap) ren lo ren=some (qoc post)
def qXq:List (Nat×Option Obj)→Option (List (Nat×Obj))
 |[]=>some []
 |(l,some o)::r=>match qXq r with
  |some os=>some ((l,o)::os)
  |none=>none
 |_=>none
theorem qZr:∀{h:List (Nat×Option Obj)} {os:List (Nat×Obj)},qXq h=some os→h=qoc os
 |[],os,h=>by simp only [qXq,wc] at h;subst h;rfl
 |(l,some o)::r,os,h=>by
  simp only [qXq] at h
  split at h
  ·rename_i os' e
   simp only [wc] at h;subst h
   rw [qZr e];rfl
  ·cases h
 |(l,none)::r,os,h=>by simp [qXq] at h
theorem qED {f:Nat} {fn:Func} {body:Code} {args:List AV} {pre post:List (Nat×Obj)} {res:TV}
  (hf:P.funcs[f]?=some fn) (hb:fn.body=some body) (hnm:(fn.name== "runtime.NumGoroutine")=false) (hnt:args.length≤fn.ntmps) (hp:pre.all (fun p=>decide (p.1<8))=true)
  (h:qTN P GT fn.ntmps fn.results.toList ⟨[.code body],st0 args pre⟩ res post):CallOK P GT f args pre res post:=by
 intro w F G K vs hglob hinv hG hK hF hargs
 have hlen:=hargs.len
 have hcf:(callFunc f vs.toArray).run P w= .ok (.enter f vs.toArray) w:=by
  have hnm':¬fn.name= "runtime.NumGoroutine" :=by simpa using hnm
  simp [callFunc,hf,hnm',hb]
 unfold qcp
 rw [hcf]
 intro cs
 let b:Frame:={(default:Frame) with fn:=f,kind:= .normal}
 let a0:Act:={tmps:=vs.toArray++Array.replicate (fn.ntmps - vs.toArray.size) undef,defers:=[]}
 have henter:Frame.enter P f vs.toArray .normal=b.at a0 [.code body]:=by
  simp [Frame.enter,Frame.at,hf,hb,b,a0]
 have hK8:∀l,8≤l→K l=none:=by
  intro l hl
  refine hK l (qsl (fun hm=>?_))
  obtain ⟨p,h1,h2⟩:=wP.1 hm
  have:=wAa.1 hp p h1
  simp only [decide_eq_true_eq] at this
  omega
 have R0:RelS ⟨w,F,G,(ngOf GT),[]⟩ P GT fn.ntmps (st0 args pre) K a0 w:=by
  refine ⟨⟨?_,fun t=>?_,?_,rfl,hglob.1,rfl,hglob⟩,hK8⟩
  ·show Inv _ (qib (qoc pre)) K w
   rw [qGi];exact hinv
  ·show TVRd w (NN _ (qib (qoc pre)) K w) K _ _
   rw [qGi]
   simp only [St.look,st0,qxr,Nat.zero_le,if_true,wYa]
   cases ht:args[t]? with
   |none=>trivial
   |some v=>
    simp only [wCa]
    obtain ⟨u,hu,hr⟩:=hargs.get ht
    have:a0.eval (.tmp t)=u:=by
     have htl:t<vs.length:=(wZ.1 hu).1
     simp only [Act.eval,a0,wya]
     rw [Array.getElem?_append_left (by simpa using htl)]
     simp [hu]
    rw [this];exact hr
  ·simp only [a0,Array.size_append,wLa,Array.size_replicate]
   omega
 obtain ⟨⟨todo,σ'⟩,res0,res1,ren,nx,lo,K1,a',w',R',hm',hst,ht,hres,hok,e1,ele,e2⟩:=h _ K a0 w b cs R0
 obtain ⟨v,hv1,hv2⟩:=qgE R' hres
 obtain ⟨K2,X,hI,h8,hx⟩:=qlv R' hok e2
 rw [qGi] at X hI
 rw [←henter] at hst
 have hR:∃v',Ending.returned v= .returned v'∧(∃K',(∀l gh,K l=some gh→K' l=some gh)∧Inv ⟨w,F,G,(ngOf GT),[]⟩ (lookL post) K' w'∧TVRd w' (NN ⟨w,F,G,(ngOf GT),[]⟩ (lookL post) K' w') K' res v'):=by
  refine ⟨v,rfl,K2,fun l gh hl=>?_,hI,ele.rd (qnv X R'.rel.inv (fun _ _ h=>h) (fun _ _=>trivial) e1 hv2)⟩
  by_cases hl8:l<8
  ·rw [h8 l hl8];exact hm' l gh hl8 hl
  ·rw [hK8 l (by omega)] at hl;cases hl
 rcases qQF ht with h0|⟨k,h0⟩
 ·simp only at h0;subst h0
  exact ⟨.returned v,w',_,hR,Steps.trans hst (.one step_end),rfl,rfl,R'.rel.defers,rfl,fn,hf,hv1⟩
 ·simp only at h0;subst h0
  exact ⟨.returned v,w',_,hR,Steps.trans hst (.one step_ret),rfl,rfl,R'.rel.defers,rfl,fn,hf,hv1⟩
def qeL (P:Program) (f:Nat):List ResultVar:=match P.funcs[f]? with
 |some fn=>fn.results.toList
 |none=>[]
def qzL (P:Program) (f:Nat) (n:Nat):Bool:=match P.funcs[f]? with
 |some fn=>fn.body.isSome&&!(fn.name== "runtime.NumGoroutine")&&decide (n≤fn.ntmps)
 |none=>false
theorem qFI {f:Nat} {args:List AV} {pre post:List (Nat×Obj)} {res:TV} (hok:qzL P f args.length=true) (hp:pre.all (fun p=>decide (p.1<8))=true)
  (h:qTN P GT (qgg P f) (qeL P f) ⟨[.code (qda P f)],st0 args pre⟩ res post):CallOK P GT f args pre res post:=by
 unfold qzL at hok
 split at hok
 ·rename_i fn hf
  simp only [wz,wqb,decide_eq_true_eq] at hok
  obtain ⟨⟨h1,h2⟩,h3⟩:=hok
  obtain ⟨body,hb⟩:=wEa.1 h1
  refine qED hf hb h2 h3 hp ?_
  simpa [qgg,qeL,qda,hf,hb] using h
 ·cases hok
end
end Go.Ab

/-
  Plain functions that the printed functions use.
-/
set_option linter.unusedVariables false
namespace Go.Ab
open Go
def qTl (k:IntKind) (a b:Int):Int:=a.fdiv (2 ^ (min b.toNat k.bits))
def qEw (k:IntKind) (a b:Int):Int:=a*2 ^ (min b.toNat k.bits)
def qUa (k:IntKind) (x y:Int):Int:=k.wrap (wC k.bits x &&& wC k.bits y).toNat
def qgc (k:IntKind) (x y:Int):Int:=k.wrap (wC k.bits x ||| wC k.bits y).toNat
def qSb (k:IntKind) (x y:Int):Int:=k.wrap (wC k.bits x ^^^ wC k.bits y).toNat
end Go.Ab

/-
  Operations whose answer Go leaves open: a slice held against nil, new memory of whatever bytes.
-/
set_option linter.unusedVariables false
set_option linter.unusedSimpArgs false
namespace Go.Ab
open Go
structure AnyO:Type 1 where
 pre:List Prop
 R:Type
 p:R→Prop
 out:R→Out
def qrw (P:Program) (f:Nat):Prop:=∃fn ps t e,P.funcs[f]?=some fn∧(fn.name== "runtime.NumGoroutine")=false∧fn.body.isNone=true∧Extern.findNext fn=none∧
 Extern.find fn=some (Extern.BytealgMakeNoZero.makeNoZero ps #[t])∧P.underlying t=some (.slice e)
def qLI (P:Program) (mnz:List Nat) (ev:Operand→TV) (nl:Nat) (op:Op):Option AnyO:=
 match op with
 | .binOp op T x y _=>match ev1 ev x,ev1 ev y with
   |some (.sl e fr xs),some .nil=>if qfm P T then match op with
     | .eql=>some ⟨[],Bool,fun b=>b=true→xs=[],fun b=>⟨.one (.bool b),[],[]⟩⟩
     | .neq=>some ⟨[],Bool,fun b=>b=false→xs=[],fun b=>⟨.one (.bool b),[],[]⟩⟩
     |_=>none
    else none
   |some (.ref e l off len wh),some .nil=>if qfm P T then match op with
     | .eql=>some ⟨[],Bool,fun b=>b=true→len=0,fun b=>⟨.one (.bool b),[],[]⟩⟩
     | .neq=>some ⟨[],Bool,fun b=>b=false→len=0,fun b=>⟨.one (.bool b),[],[]⟩⟩
     |_=>none
    else none
   |_,_=>none
 | .call {callee:= .value f,args,argTypes:=_}=>match ev1 ev f,evs ev args.toList with
   |some (.func f []),some [.int .i64 n]=>if mnz.contains f then
     some ⟨[0≤n,n≤140737488355328],List Int,fun xs=>xs.length=n.toNat,fun xs=>⟨.one (.ref (.int .u8) nl 0 xs.length true),[(nl,some (.row (.int .u8) true xs))],[]⟩⟩
    else none
   |_,_=>none
 |_=>none
section
variable {c:Cx} {P:Program} {GT:qTg} {H lk:qZb} {K:Kn} {w:World} {ev:Operand→TV} {ρ:Operand→Value} {nl:Nat}
theorem qTv:∀(n t:Nat) (acc:Array Value) (xs:List Int),acc.toList=xs.map (wbb .u8)→∃ys:List Int,(Extern.BytealgMakeNoZero.digits n t acc).toList=ys.map (wbb .u8)
 |0,_,acc,xs,h=>⟨xs,h⟩
 |n+1,t,acc,xs,h=>by
  rw [Extern.BytealgMakeNoZero.digits]
  exact qTv n _ _ (xs++[Int.ofNat (t%256)]) (by simp [h])
theorem qdL (ps:Array TypeId) (t e:TypeId) (ht:P.underlying t=some (.slice e)) (n:Nat) (hn:n≤140737488355328):
  ∃(cs:Array Value) (ys:List Int),cs.toList=ys.map (wbb .u8)∧(Extern.BytealgMakeNoZero.makeNoZero ps #[t] #[.int .i64 n]).run P w= .ok (.slice (some ⟨w.heap.size,0,none⟩) n cs.size) (w.drew.drew.alloc (.cells cs e))∧n≤cs.size:=by
 have hdef:Extern.BytealgMakeNoZero.makeNoZero ps #[t] #[.int .i64 n]=
   (do
    let .slice elem ←underlying t|stuck "bytealg.MakeNoZero: slice type expected"
    if (n:Int)<0||(n:Int)>2 ^ 48 then runtimePanic (.error "makeslice: len out of range")
    let cap ←choose (.appendCap (n:Int).toNat 0 elem)
    askRoom cap
    let bytes ←choose (.extern "internal/bytealg.MakeNoZero.bytes" 0)
    let a ←newRow elem (Extern.BytealgMakeNoZero.digits cap bytes #[])
    pure (.slice (some a) (n:Int).toNat cap)):=rfl
 obtain ⟨ys,hys⟩:=qTv (grownCap w n 0 e) ((Question.extern "internal/bytealg.MakeNoZero.bytes" 0).cut (w.tape (w.drawn+1) (.extern "internal/bytealg.MakeNoZero.bytes" 0))) #[] [] rfl
 refine ⟨_,ys,hys,?_,?_⟩
 ·rw [hdef]
  have h1:¬(n:Int)<0:=by omega
  have h2:¬(281474976710656:Int)<(n:Int):=by omega
  simp [run_underlying ht,h1,h2,Question.forced,newRow,Lib.size_digits,grownCap]
 ·rw [Lib.size_digits]
  simpa using grownCap_ge w n 0 e
theorem qYB (A:At c P GT H lk K w ev ρ nl) {mnz:List Nat} (hm:∀f∈mnz,qrw P f) {o:Oper} {a:AnyO} (h:qLI P mnz ev nl o.op=some a) (hc:qfg a.pre):
  Does P o ρ w (fun v w'=>∃x,a.p x∧Lands c H K w nl (a.out x) v w'):=by
 unfold qLI at h
 split at h
 ·rename_i op T x y T' ho
  have hnil:∀{n cp:Nat} {A0:Option Addr} {q:Value},VRd w (NN c H K w) K .nil (ρ y)→ρ x= .slice A0 n cp→qfm P T=true→
    (op= .eql→(execOp ρ o).run P w= .ok (.value (.bool A0.isNone)) w)∧(op= .neq→(execOp ρ o).run P w= .ok (.value (.bool (!A0.isNone))) w):=by
   intro n cp A0 q h2 h1 hd
   simp only [VRd] at h2
   obtain ⟨e',hd'⟩:=qyn hd
   have heq:=qpg 9999 (w:=w) (a:=A0) (n:=n) (c:=cp) hd'
   constructor
   ·rintro rfl
    simp only [execOp,ho,h1,h2]
    rw [wu,wu,qwh]
    simp only [binOp,Op.equal,wHa,wu,heq,wq,wE]
   ·rintro rfl
    simp only [execOp,ho,h1,h2]
    rw [wu,wu,qwh]
    simp only [binOp,Op.equal,wHa,wu,heq,wq,wE]
  split at h
  ·rename_i e fr xs hx hy
   split at h
   ·rename_i hd
    obtain ⟨A0,cap,e1,hl,hb⟩:=A.one hx
    simp only [wFa,and_true] at e1
    have hk:A0.isNone=true→xs=[]:=by
     intro hA
     rcases hb with hb|⟨b,o',cl,e2,_⟩
     ·exact hb
     ·subst e2;cases hA
    split at h
    ·simp only [wc] at h;subst h
     refine Does.value ((hnil (q:=undef) (A.one hy) e1 hd).1 rfl) ⟨A0.isNone,hk,Lands.one A.inv rfl⟩
    ·simp only [wc] at h;subst h
     refine Does.value ((hnil (q:=undef) (A.one hy) e1 hd).2 rfl) ⟨!A0.isNone,fun hb=>hk (by simpa using hb),Lands.one A.inv rfl⟩
    ·cases h
   ·cases h
  ·rename_i e l off len wh hx hy
   split at h
   ·rename_i hd
    have hr:∃A0 cp,ρ x= .slice A0 len cp∧(A0.isNone=true→len=0):=by
     obtain ⟨n,pl,h1,h2,h3,h4⟩:=A.one hx
     cases pl with
     |none=>
      obtain ⟨e1,rfl⟩:=h4
      have:len=0:=by omega
      subst this
      exact ⟨none,0,e1,fun _=>rfl⟩
     |some p=>
      obtain ⟨o',cap,e1,_⟩:=h4
      exact ⟨_,cap,e1,fun hA=>by cases hA⟩
    obtain ⟨A0,cp,e1,hk⟩:=hr
    split at h
    ·simp only [wc] at h;subst h
     refine Does.value ((hnil (q:=undef) (A.one hy) e1 hd).1 rfl) ⟨A0.isNone,hk,Lands.one A.inv rfl⟩
    ·simp only [wc] at h;subst h
     refine Does.value ((hnil (q:=undef) (A.one hy) e1 hd).2 rfl) ⟨!A0.isNone,fun hb=>hk (by simpa using hb),Lands.one A.inv rfl⟩
    ·cases h
   ·cases h
  ·cases h
 ·rename_i f args ats ho
  split at h
  ·rename_i g n hf hvs
   split at h
   ·rename_i hg
    simp only [wc] at h;subst h
    obtain ⟨c0,c1,_⟩:=hc
    obtain ⟨fn,ps,t,e,g1,g2,g3,g4,g5,g6⟩:=hm g (by simpa using hg)
    obtain ⟨cvs,h1,h2⟩:=A.one hf
    simp only [capsRd] at h2;subst h2
    have hv:=qYx A hvs
    obtain ⟨u,hu,hun⟩:=hv.one_inv
    simp only [VRd] at hun;subst hun
    obtain ⟨m,rfl⟩:=Int.eq_ofNat_of_zero_le c0
    obtain ⟨cs,ys,hcs,hrun,hle⟩:=qdL (P:=P) (w:=w) ps t e g6 m (by omega)
    have harr:(args.map ρ++#[])=#[wbb .i64 (m:Int)]:=by
     apply wUa;simp [hu]
    have hex:(execOp ρ o).run P w=(callFunc g #[wbb .i64 (m:Int)]).run P w:=by
     simp only [execOp,ho,resolve,h1,Deferred.ofValue,invoke,pure_bind]
     rw [←harr]
     simp
    rw [run_callFunc_extern g1 g2 g3 g4 g5,hrun] at hex
    refine Does.value hex ⟨ys.take m,?_,?_⟩
    ·have hln:ys.length=cs.size:=by rw [←wPa,hcs];simp
     simp;omega
    ·have hln:ys.length=cs.size:=by rw [←wPa,hcs];simp
     have hlt:(ys.take m).length=m:=by simp;omega
     have hab:=InBlk.new w.drew.drew cs e
     rw [hcs] at hab
     have hsp:ys.map (wbb .u8)=(ys.take m).map (wbb .u8)++(ys.drop m).map (wbb .u8):=by rw [←wBa,List.take_append_drop]
     rw [hsp] at hab
     have hfn:=A.fresh nl (ws _) (by omega)
     refine ⟨_,qyq (w:=w) (w':=w.drew.drew.alloc (.cells cs e)) A.inv A.ng ⟨ws _,by omega⟩ hfn (e:= .int .u8) (fr:=true) (xs:=ys.take m) (p:=⟨w.heap.size,0,cs.size⟩) (cs:=(ys.take m).map (wbb .u8)) (qzb w.drew.drew _) ⟨ws _,by rw [qjb];exact wqa _⟩ hab.front (qLq _),?_⟩
     show RefRd _ _ _ _ _ _ _
     rw [hlt]
     exact qkn (p:=⟨w.heap.size,0,cs.size⟩) rfl hle (.inr (by simp [Ty.sz]))
   ·cases h
  ·cases h
 ·cases h
end
end Go.Ab
