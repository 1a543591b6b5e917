/-
  An abstract machine over the model's code and its soundness; what the functions compute, as plain functions (printed by a program of this repo's own, checked here by the kernel); plain laws of them: part 5. Helper text, no statement of the claim stands here.
-/
import Derived.Test.YtbehddacclfckaaGreatDoorTxtFd
/-
  What the law leans on, of several chains of plain texts.
-/
set_option linter.unusedVariables false
set_option linter.unusedSimpArgs false
set_option maxHeartbeats 1000000
set_option maxRecDepth 10000
namespace Go.Ab
open Go
attribute [local irreducible] IntKind.wrap
def U32 (x:Int):Prop:=0≤x∧x<4294967296
theorem qQt (v:BitVec 32):IntKind.wrap .u32 (v.toNat:Int)=v.toNat:=by
 have:=v.isLt
 rw [qtF];omega
theorem qiF (v:BitVec 32):BitVec.ofInt 32 (v.toNat:Int)=v:=by
 apply BitVec.eq_of_toNat_eq
 rw [BitVec.toNat_ofInt]
 have:=v.isLt
 omega
theorem bX (x y:Int):qVa .u32 x y=((BitVec.ofInt 32 x ^^^ BitVec.ofInt 32 y).toNat:Int):=qQt _
theorem bO (x y:Int):qHc .u32 x y=((BitVec.ofInt 32 x ||| BitVec.ofInt 32 y).toNat:Int):=qQt _
theorem bA (x y:Int):qqb .u32 x y=((BitVec.ofInt 32 x &&& BitVec.ofInt 32 y).toNat:Int):=qQt _
theorem w_u (x:Int):U32 (IntKind.wrap .u32 x):=by rw [qtF];unfold U32;omega
theorem qVF (b c d:Int):qVa .u32 d (qqb .u32 b (qVa .u32 c d))=qHc .u32 (qqb .u32 b c) (qqb .u32 (qVa .u32 4294967295 b) d):=by
 simp only [bX,bO,bA,qiF]
 congr 2
 have h1:BitVec.ofInt 32 4294967295=BitVec.allOnes 32:=by decide
 rw [h1]
 ext i hi
 simp only [BitVec.getElem_xor,BitVec.getElem_and,BitVec.getElem_or,BitVec.getElem_allOnes]
 cases (BitVec.ofInt 32 b)[i] <;> cases (BitVec.ofInt 32 c)[i] <;> cases (BitVec.ofInt 32 d)[i] <;> rfl
theorem qNE (b c d:Int):qHc .u32 (qqb .u32 b c) (qqb .u32 d (qHc .u32 b c))=qHc .u32 (qHc .u32 (qqb .u32 b c) (qqb .u32 b d)) (qqb .u32 c d):=by
 simp only [bX,bO,bA,qiF]
 congr 2
 ext i hi
 simp only [BitVec.getElem_xor,BitVec.getElem_and,BitVec.getElem_or]
 cases (BitVec.ofInt 32 b)[i] <;> cases (BitVec.ofInt 32 c)[i] <;> cases (BitVec.ofInt 32 d)[i] <;> rfl
def rot (a:Int) (s:Int):Int:=qHc .u32 (IntKind.wrap .u32 (qAD .u32 a s)) (qwi .u32 a (32 - s))
theorem qRD {x b:Int} (hx:U32 x) (hb:0≤b∧b<256):qHc .u32 (IntKind.wrap .u32 (x*256)) (IntKind.wrap .u32 b)=IntKind.wrap .u32 (IntKind.wrap .u32 (x*256)+IntKind.wrap .u32 b):=by
 rw [bO]
 simp only [qtF]
 have h1:b%4294967296=b:=by omega
 rw [h1]
 obtain ⟨n,rfl⟩:=Int.eq_ofNat_of_zero_le hb.1
 obtain ⟨q,hq⟩:∃q:Nat,(x*256)%4294967296=((2 ^ 8*q:Nat):Int)∧2 ^ 8*q<4294967296:=by
  refine ⟨(x%16777216).toNat,?_,?_⟩ <;> simp <;> omega
 have hn:n<2 ^ 8:=by omega
 rw [hq.1]
 have e:∀m:Nat,m<4294967296→(BitVec.ofInt 32 (m:Int)).toNat=m:=fun m hm=>by
  rw [BitVec.toNat_ofInt];omega
 rw [BitVec.toNat_or,e _ hq.2,e n (by omega),←Nat.two_pow_add_eq_or_of_lt hn]
 have:=hq.2
 omega
theorem qlq (a:Int):qKa a 1=some (rot a 1)∧qKa a 5=some (rot a 5)∧qKa a 30=some (rot a 30):=by
 have h1:qqb .u64 (IntKind.wrap .u64 1) 31=1:=by kernel_rfl
 have h5:qqb .u64 (IntKind.wrap .u64 5) 31=5:=by kernel_rfl
 have h30:qqb .u64 (IntKind.wrap .u64 30) 31=30:=by kernel_rfl
 have w1:IntKind.wrap .u64 ((32:Int) - 1)=32 - 1:=by kernel_rfl
 have w5:IntKind.wrap .u64 ((32:Int) - 5)=32 - 5:=by kernel_rfl
 have w30:IntKind.wrap .u64 ((32:Int) - 30)=32 - 30:=by kernel_rfl
 refine ⟨?_,?_,?_⟩ <;> rw [qpi]
 ·rw [h1,w1,qea (by omega),qea (by omega)];rfl
 ·rw [h5,w5,qea (by omega),qea (by omega)];rfl
 ·rw [h30,w30,qea (by omega),qea (by omega)];rfl
theorem qRp (a s:Int) (h:0≤s∧s≤32):qVc a s=some (rot a s):=by
 rw [qIl,w64 (by omega) (by omega),qea (by omega),qea (by omega)];rfl
def qXF (n:Int):Int:=IntKind.wrap .u64 (IntKind.wrap .u64 n*8)
def qbp (n:Int):Nat→List Int
 |0=>[]
 |k+1=>IntKind.wrap .u8 (qwi .u64 (qXF n) (8*(k:Int)))::qbp n k
def qjx (n:Int):List Int:=[128]++List.replicate ((119 - n%64)%64).toNat 0++qbp n 8
theorem qau (n:Int):∀k,(qbp n k).length=k
 |0=>rfl
 |k+1=>by simp [qbp,qau n k]
theorem qsE (x:Int):0≤IntKind.wrap .u8 x∧IntKind.wrap .u8 x<256:=by rw [wu8];omega
theorem qbu (n:Int):∀k,Bts (qbp n k)
 |0=>Bts.nil
 |k+1=>Bts.cons (qsE _) (qbu n k)
theorem qkC (n:Int):Bts (qjx n):=by
 refine Bts.append (Bts.append (Bts.cons (by omega) Bts.nil) (fun x hx=>?_)) (qbu n 8)
 have:=(List.mem_replicate.1 hx).2;omega
theorem qix (n:Int) (h:0≤n):((n+(qjx n).length)%64=0∧(qjx n).length≤72):=by
 simp only [qjx,List.length_append,List.length_cons,List.length_nil,List.length_replicate,qau]
 omega
theorem qPj (n:Int):∀(k:Nat) (h:List Int),k≤8→h.length+k≤1000→qbl n (8*(k:Int) - 8) h=some (h++qbp n k)
 |0,h,hk,hl=>by
  rw [qTm,if_neg (by simp)]
  simp [qbp]
 |k+1,h,hk,hl=>by
  have e:8*((k+1:Nat):Int) - 8=8*(k:Int):=by omega
  rw [e,qTm,if_pos (by simp;omega),qea (by omega),qea (by simp;omega),w64 (by omega) (by omega),qPj n k _ (by omega) (by simp;omega)]
  simp [qbp,qXF]
theorem qfu (n:Int) (h:0≤n):qLv n=some (qjx n):=by
 rw [qfy,qea (by omega),qea (by omega),qPi h,w64 (by omega) (by omega),qPi (by omega),qea (by omega),qea (by omega),qea (by omega),qea (by simp;omega)]
 have:=qPj n 8 ([128]++List.replicate ((119 - n%64)%64).toNat 0) (by omega) (by simp;omega)
 exact this
theorem qvq (n:Int):∀(k:Nat) (h:List Int),k≤8→h.length+k≤1000→qWb n ((k:Int) - 1) h=some (h++qbp n k)
 |0,h,hk,hl=>by
  rw [qee,if_neg (by simp)]
  simp [qbp]
 |k+1,h,hk,hl=>by
  have e:((k+1:Nat):Int) - 1=(k:Int):=by omega
  rw [e,qee,if_pos (by simp),w64 (x:=8*(k:Int)) (by omega) (by omega),qea (by omega),qea (by simp;omega),w64 (x:=(k:Int) - 1) (by omega) (by omega),qvq n k _ (by omega) (by simp;omega)]
  have e2:(8:Int)*IntKind.wrap .u64 n=IntKind.wrap .u64 n*8:=Int.mul_comm _ _
  simp [qbp,qXF,e2]
theorem qwq (n:Int) (hn:0≤n∧n≤1000000000):∀(j:Nat) (h:List Int),j<64→h.length+j≤200→(n+h.length+8+j)%64=0→qXb n h=some (h++List.replicate j 0++qbp n 8)
 |0,h,hj,hl,hm=>by
  rw [qfe,qea (by omega)]
  have hl':Int.ofNat h.length=(h.length:Int):=rfl
  rw [hl',w64 (x:=n+(h.length:Int)) (by omega) (by omega),w64 (by omega) (by omega),qPi (by omega),if_neg (by simp;omega)]
  have:=qvq n 8 h (by omega) (by omega)
  simpa using this
 |j+1,h,hj,hl,hm=>by
  rw [qfe,qea (by omega)]
  have hl':Int.ofNat h.length=(h.length:Int):=rfl
  rw [hl',w64 (x:=n+(h.length:Int)) (by omega) (by omega),w64 (by omega) (by omega),qPi (by omega),if_pos (by simp;omega),qea (by simp;omega),qwq n hn j (h++[0]) (by omega) (by simp;omega) (by simp;omega)]
  simp [List.replicate_succ]
theorem qwu (n:Int) (hn:0≤n∧n≤1000000000):qoe n=some (qjx n):=by
 rw [qnj,qwq n hn ((119 - n%64)%64).toNat [128] (by omega) (by simp;omega) (by simp;omega)]
 rfl
theorem qUy (a b:List Int) (h:a.length+b.length≤1000000):qcd [a,b]=some (a++b):=by
 have ha:Int.ofNat a.length=(a.length:Int):=rfl
 have hb:Int.ofNat b.length=(b.length:Int):=rfl
 rw [qLh]
 rw [qOb,if_pos (by simp),qea (by omega),qea (by simp)]
 simp only [List.getD_cons_zero,Int.toNat_zero,ha]
 rw [w64 (x:=0+(a.length:Int)) (by omega) (by omega),if_neg (by simp),w64 (x:=0+1) (by omega) (by omega)]
 rw [qOb,if_pos (by simp),qea (by omega),qea (by simp)]
 simp only [show (0+1:Int).toNat=1 from rfl,List.getD_cons_succ,List.getD_cons_zero,hb]
 rw [w64 (x:=0+(a.length:Int)+(b.length:Int)) (by omega) (by omega),if_neg (by simp <;> omega),w64 (x:=0+1+1) (by omega) (by omega)]
 rw [qOb,if_neg (by simp)]
 have hg:∃r,qMd (0+(a.length:Int)+(b.length:Int))=some (r,0,0):=by
  rw [qvi,if_neg (by simp;omega),w64 (by omega) (by omega)]
  by_cases hz:(0+(a.length:Int)+(b.length:Int)) - 0>0
  ·rw [if_pos (by simpa using hz),qea (by omega),qea (by omega),qea (by omega),qea (by omega),qea (by omega),qea (by simp;omega),qea (by omega),qea (by simp;omega)]
   exact ⟨_,rfl⟩
  ·rw [if_neg (by simpa using hz)];exact ⟨_,rfl⟩
 obtain ⟨r,hr⟩:=hg
 rw [hr]
 simp only [Option.bind_some]
 rw [qKg,if_pos (by simp),qea (by omega),qea (by simp),qea (by simp;omega),w64 (by omega) (by omega)]
 simp only [List.getD_cons_zero,Int.toNat_zero,List.take_zero,List.nil_append]
 rw [qjd,if_pos (by simp),qea (by omega),qea (by simp),qea (by simp;omega),w64 (by omega) (by omega)]
 rw [qjd,if_neg (by simp)]
 rfl
def bt (x b:Int):Int:=IntKind.wrap .u32 (IntKind.wrap .u32 (x*256)+IntKind.wrap .u32 b)
theorem qWF (x b:Int):U32 (bt x b):=w_u _
def qwD (b:List Int) (t:Nat):Int:=bt (bt (bt (IntKind.wrap .u32 (b.getD (4*t) 0)) (b.getD (4*t+1) 0)) (b.getD (4*t+2) 0)) (b.getD (4*t+3) 0)
def qoj (b:List Int) (t:Nat):Nat→List Int
 |0=>[]
 |k+1=>qwD b t::qoj b (t+1) k
theorem qQe (b:List Int):∀(k t:Nat),(qoj b t k).length=k
 |0,t=>rfl
 |k+1,t=>by simp [qoj,qQe b k]
theorem qaB (b:List Int) (hb:b.length=64) (x y:List Int):∀(k t:Nat) (h:List Int),t+k=16→h.length=t→qPc b (t:Int) x y h=qTb 16 x y (h++qoj b t k)
 |0,t,h,e,hl=>by
  rw [qTf,if_neg (by simp;omega)]
  simp [qoj]
 |k+1,t,h,e,hl=>by
  have hb':Int.ofNat b.length=64:=by rw [hb];rfl
  have e0:((4:Int)*(t:Int)).toNat=4*t:=by omega
  have e1:((4:Int)*(t:Int)+1).toNat=4*t+1:=by omega
  have e2:((4:Int)*(t:Int)+2).toNat=4*t+2:=by omega
  have e3:((4:Int)*(t:Int)+3).toNat=4*t+3:=by omega
  rw [qTf,if_pos (by simp;omega),hb']
  simp only [w64 (x:=4*(t:Int)) (by omega) (by omega),w64 (x:=4*(t:Int)+1) (by omega) (by omega),w64 (x:=4*(t:Int)+2) (by omega) (by omega),w64 (x:=4*(t:Int)+3) (by omega) (by omega),w64 (x:=(t:Int)+1) (by omega) (by omega),e0,e1,e2,e3]
  rw [qea (by omega),qea (by omega),qea (by omega),qea (by omega),qea (by omega),qea (by omega),qea (by omega),qea (by omega),qea (by simp;omega)]
  have ih:=qaB b hb x y k (t+1) (h++[qwD b t]) (by omega) (by simp;omega)
  have ec:((t+1:Nat):Int)=(t:Int)+1:=by omega
  rw [ec] at ih
  simp only [List.append_assoc,List.singleton_append] at ih
  exact ih
theorem qTn (W:List Int) (x v:Int) (R:List Int):(W++x::R).set W.length v=W++v::R:=by
 induction W with
 |nil=>rfl
 |cons a W ih=>simp [ih]
theorem qFA (W:List Int) (x:Int) (R:List Int):(W++x::R).getD W.length 0=x:=by
 induction W with
 |nil=>rfl
 |cons a W ih=>simp
theorem qvB {b:List Int} (h:Bts b) (i:Nat):0≤b.getD i 0∧b.getD i 0<256:=by
 rw [List.getD_eq_getElem?_getD]
 cases hi:b[i]? with
 |none=>simp
 |some x=>exact h x (List.mem_of_getElem? hi)
theorem qJt (b:List Int) (hb:b.length=64) (hB:Bts b) (x y W R:List Int) (i t:Nat) (v:Int) (hv:U32 v) (hi:i<64) (ht:i/4=t) (hW:W.length=t):
  qmh b 64 (i:Int) x y (W++v::R)=qmh b 64 ((i:Int)+1) x y (W++bt v (b.getD i 0)::R):=by
 have hb':Int.ofNat b.length=64:=by rw [hb];rfl
 have e:(IntKind.wrap .i64 (Int.tdiv (i:Int) 4))=(t:Int):=by
  rw [qJv (by omega),w64 (by omega) (by omega)];omega
 rw [qIo,if_pos (by simp;omega),hb',e]
 rw [qea (by omega),qea (by omega),qea (by omega),qea (by omega),qea (by omega),qea (by omega),qea (by omega),qea (by omega),qea (by omega)]
 have et:((t:Int)).toNat=W.length:=by omega
 have ei:((i:Int)).toNat=i:=by omega
 rw [et,ei,qFA,qTn,qRD hv (qvB hB i),w64 (x:=(i:Int)+1) (by omega) (by omega)]
 rfl
theorem qeF (b:List Int) (hb:b.length=64) (hB:Bts b) (x y:List Int):∀(k t:Nat) (W:List Int),t+k=16→W.length=t→
  qmh b 64 (4*(t:Int)) x y (W++List.replicate k 0)=qmh b 64 64 x y (W++qoj b t k)
 |0,t,W,e,hl=>by
  have:4*(t:Int)=64:=by omega
  rw [this];rfl
 |k+1,t,W,e,hl=>by
  have c:∀j:Nat,((4*t+j:Nat):Int)=4*(t:Int)+(j:Int):=fun j=>by omega
  have s0:=qJt b hb hB x y W (List.replicate k 0) (4*t) t 0 (by unfold U32;omega) (by omega) (by omega) hl
  have s1:=qJt b hb hB x y W (List.replicate k 0) (4*t+1) t (bt 0 (b.getD (4*t) 0)) (qWF _ _) (by omega) (by omega) hl
  have s2:=qJt b hb hB x y W (List.replicate k 0) (4*t+2) t (bt (bt 0 (b.getD (4*t) 0)) (b.getD (4*t+1) 0)) (qWF _ _) (by omega) (by omega) hl
  have s3:=qJt b hb hB x y W (List.replicate k 0) (4*t+3) t (bt (bt (bt 0 (b.getD (4*t) 0)) (b.getD (4*t+1) 0)) (b.getD (4*t+2) 0)) (qWF _ _) (by omega) (by omega) hl
  rw [show ((4*t:Nat):Int)=4*(t:Int) by omega] at s0
  rw [show ((4*t+1:Nat):Int)=4*(t:Int)+1 by omega] at s1
  rw [show ((4*t+2:Nat):Int)=4*(t:Int)+1+1 by omega] at s2
  rw [show ((4*t+3:Nat):Int)=4*(t:Int)+1+1+1 by omega] at s3
  have h0:bt 0 (b.getD (4*t) 0)=IntKind.wrap .u32 (b.getD (4*t) 0):=by
   have:=qvB hB (4*t)
   simp only [bt,qtF];omega
  rw [List.replicate_succ,s0,s1,s2,s3,h0]
  have ih:=qeF b hb hB x y k (t+1) (W++[qwD b t]) (by omega) (by simp;omega)
  rw [show 4*((t+1:Nat):Int)=4*(t:Int)+1+1+1+1 by omega] at ih
  simp only [List.append_assoc,List.singleton_append] at ih
  exact ih
def qpC (a b c d:Int):Int:=rot (qVa .u32 (qVa .u32 (qVa .u32 a b) c) d) 1
def sch:Nat→List Int→List Int
 |0,h=>h
 |k+1,h=>sch k (h++[qpC (h.getD (h.length - 3) 0) (h.getD (h.length - 8) 0) (h.getD (h.length - 14) 0) (h.getD (h.length - 16) 0)])
theorem qAz:∀(k:Nat) (h:List Int),(sch k h).length=h.length+k
 |0,h=>rfl
 |k+1,h=>by rw [sch,qAz k];simp;omega
theorem qpk {h r:List Int} {t:Nat} (ht:t<h.length):(h++r).getD t 0=h.getD t 0:=by
 simp [List.getD_eq_getElem?_getD,List.getElem?_append_left ht]
theorem qim:∀(k:Nat) (h:List Int) (t:Nat),t<h.length→(sch k h).getD t 0=h.getD t 0
 |0,h,t,ht=>rfl
 |k+1,h,t,ht=>by
  rw [sch,qim k _ t (by simp;omega),qpk ht]
theorem qPC:∀(k:Nat) (h:List Int) (t:Nat),16≤h.length→h.length≤t→t<h.length+k→
  (sch k h).getD t 0=qpC ((sch k h).getD (t - 3) 0) ((sch k h).getD (t - 8) 0) ((sch k h).getD (t - 14) 0) ((sch k h).getD (t - 16) 0)
 |0,h,t,h1,h2,h3=>by omega
 |k+1,h,t,h1,h2,h3=>by
  by_cases he:t=h.length
  ·subst he
   rw [sch]
   rw [qim k _ h.length (by simp),qim k _ (h.length - 3) (by simp;omega),qim k _ (h.length - 8) (by simp;omega),qim k _ (h.length - 14) (by simp;omega),qim k _ (h.length - 16) (by simp;omega)]
   rw [qFA,qpk (by omega),qpk (by omega),qpk (by omega),qpk (by omega)]
  ·rw [sch]
   exact qPC k _ t (by simp;omega) (by simp;omega) (by simp;omega)
theorem qZA (x y:List Int):∀(k t:Nat) (h:List Int),t+k=80→16≤t→h.length=t→qTb (t:Int) x y h=qSb 0 x y (sch k h) x
 |0,t,h,e,h1,hl=>by
  rw [qSf,if_neg (by simp;omega)];rfl
 |k+1,t,h,e,h1,hl=>by
  have hl':Int.ofNat h.length=(t:Int):=by rw [hl];rfl
  rw [qSf,if_pos (by simp;omega),hl']
  simp only [w64 (x:=(t:Int) - 3) (by omega) (by omega),w64 (x:=(t:Int) - 8) (by omega) (by omega),w64 (x:=(t:Int) - 14) (by omega) (by omega),w64 (x:=(t:Int) - 16) (by omega) (by omega),w64 (x:=(t:Int)+1) (by omega) (by omega)]
  rw [qea (by omega),qea (by omega),qea (by omega),qea (by omega),qea (by omega),qea (by omega),qea (by omega),qea (by omega)]
  rw [show 0+((t:Int) - 3).toNat=h.length - 3 by omega,show 0+((t:Int) - 8).toNat=h.length - 8 by omega,show 0+((t:Int) - 14).toNat=h.length - 14 by omega,show 0+((t:Int) - 16).toNat=h.length - 16 by omega]
  rw [qRp _ 1 (by omega)]
  simp only [Option.bind_some]
  rw [qea (by simp;omega)]
  have ih:=qZA x y k (t+1) (h++[qpC (h.getD (h.length - 3) 0) (h.getD (h.length - 8) 0) (h.getD (h.length - 14) 0) (h.getD (h.length - 16) 0)]) (by omega) (by omega) (by simp;omega)
  rw [show ((t+1:Nat):Int)=(t:Int)+1 by omega] at ih
  exact ih
def ff (t:Nat) (b c d:Int):Int×Int:=
 if t<20 then (qHc .u32 (qqb .u32 b c) (qqb .u32 (qVa .u32 4294967295 b) d),1518500249)
 else if t<40 then (qVa .u32 (qVa .u32 b c) d,1859775393)
 else if t<60 then (qHc .u32 (qHc .u32 (qqb .u32 b c) (qqb .u32 b d)) (qqb .u32 c d),2400959708)
 else (qVa .u32 (qVa .u32 b c) d,3395469782)
theorem qbA (t:Nat) (b c d:Int):qig (t:Int) b c d=some (ff t b c d):=by
 rw [qJl]
 unfold ff
 by_cases h1:t<20
 ·rw [if_pos (by simp;omega),if_pos h1]
 ·rw [if_neg (by simp;omega),if_neg h1]
  by_cases h2:t<40
  ·rw [if_pos (by simp;omega),if_pos h2]
  ·rw [if_neg (by simp;omega),if_neg h2]
   by_cases h3:t<60
   ·rw [if_pos (by simp;omega),if_pos h3]
   ·rw [if_neg (by simp;omega),if_neg h3]
theorem qqC (t:Nat) (b c d:Int) (ht:t<80):qTs (IntKind.wrap .i64 (Int.tdiv (t:Int) 20)) b c d=some (ff t b c d).1∧G_quarters.getD (IntKind.wrap .i64 (Int.tdiv (t:Int) 20)).toNat 0=(ff t b c d).2∧0≤IntKind.wrap .i64 (Int.tdiv (t:Int) 20)∧IntKind.wrap .i64 (Int.tdiv (t:Int) 20)<4:=by
 have e:IntKind.wrap .i64 (Int.tdiv (t:Int) 20)=((t/20:Nat):Int):=by
  rw [qJv (by omega),w64 (by omega) (by omega)];omega
 rw [e,qgy]
 unfold ff
 by_cases h1:t<20
 ·have:t/20=0:=by omega
  rw [this,if_pos (by simp),if_pos h1,qVF]
  exact ⟨rfl,rfl,by omega,by omega⟩
 ·rw [if_neg h1]
  by_cases h2:t<40
  ·have:t/20=1:=by omega
   rw [this,if_neg (by simp),if_neg (by simp),if_pos h2]
   exact ⟨rfl,rfl,by omega,by omega⟩
  ·rw [if_neg h2]
   by_cases h3:t<60
   ·have:t/20=2:=by omega
    rw [this,if_neg (by simp),if_pos (by simp),if_pos h3,qNE]
    exact ⟨rfl,rfl,by omega,by omega⟩
   ·have:t/20=3:=by omega
    rw [this,if_neg (by simp),if_neg (by simp),if_neg h3]
    exact ⟨rfl,rfl,by omega,by omega⟩
structure S5 where
 a:Int
 b:Int
 c:Int
 d:Int
 e:Int
def S5.l (s:S5):List Int:=[s.a,s.b,s.c,s.d,s.e]
def rd (t:Nat) (w:Int) (s:S5):S5:=
 ⟨IntKind.wrap .u32 (IntKind.wrap .u32 (IntKind.wrap .u32 (IntKind.wrap .u32 (rot s.a 5+(ff t s.b s.c s.d).1)+s.e)+(ff t s.b s.c s.d).2)+w),s.a,rot s.b 30,s.c,s.d⟩
def quF (W:List Int):Nat→Nat→S5→S5
 |0,_,s=>s
 |k+1,t,s=>quF W k (t+1) (rd t (W.getD t 0) s)
theorem qYA (x y W:List Int) (hW:W.length=80):∀(k t:Nat) (s:S5),t+k=80→qSb (t:Int) x y W s.l=qRb 0 x y (quF W k t s).l
 |0,t,s,e=>by
  rw [qRf,if_neg (by simp;omega)];rfl
 |k+1,t,s,e=>by
  have hl':Int.ofNat W.length=80:=by rw [hW];rfl
  have g0:s.l.getD 0 0=s.a:=rfl
  have g1:s.l.getD 1 0=s.b:=rfl
  have g2:s.l.getD 2 0=s.c:=rfl
  have g3:s.l.getD 3 0=s.d:=rfl
  have g4:s.l.getD 4 0=s.e:=rfl
  rw [qRf,if_pos (by simp;omega),hl']
  simp only [g0,g1,g2,g3,g4,qbA,qRp _ 5 (by omega),qRp _ 30 (by omega),Option.bind_some,w64 (x:=(t:Int)+1) (by omega) (by omega),show 0+((t:Int)).toNat=t by omega]
  repeat rw [qea (by omega)]
  have ih:=qYA x y W hW k (t+1) (rd t (W.getD t 0) s) (by omega)
  rw [show ((t+1:Nat):Int)=(t:Int)+1 by omega] at ih
  exact ih
def qnG (x:List Int) (s:S5):List Int:=[IntKind.wrap .u32 (x.getD 0 0+s.a),IntKind.wrap .u32 (x.getD 1 0+s.b),IntKind.wrap .u32 (x.getD 2 0+s.c),IntKind.wrap .u32 (x.getD 3 0+s.d),IntKind.wrap .u32 (x.getD 4 0+s.e)]
theorem qeE (y:List Int) (x s:S5):qRb 0 x.l y s.l=some (qnG x.l s):=by
 have g:∀s:S5,s.l.getD 0 0=s.a∧s.l.getD 1 0=s.b∧s.l.getD 2 0=s.c∧s.l.getD 3 0=s.d∧s.l.getD 4 0=s.e:=fun s=>⟨rfl,rfl,rfl,rfl,rfl⟩
 have n1:IntKind.wrap .i64 (0+1)=1:=by kernel_rfl
 have n2:IntKind.wrap .i64 (1+1)=2:=by kernel_rfl
 have n3:IntKind.wrap .i64 (2+1)=3:=by kernel_rfl
 have n4:IntKind.wrap .i64 (3+1)=4:=by kernel_rfl
 have n5:IntKind.wrap .i64 (4+1)=5:=by kernel_rfl
 rw [qYa,if_pos (by simp),n1]
 repeat rw [qea (by omega)]
 rw [qYa,if_pos (by simp),n2]
 repeat rw [qea (by omega)]
 rw [qYa,if_pos (by simp),n3]
 repeat rw [qea (by omega)]
 rw [qYa,if_pos (by simp),n4]
 repeat rw [qea (by omega)]
 rw [qYa,if_pos (by simp),n5]
 repeat rw [qea (by omega)]
 rw [qYa,if_neg (by simp)]
 rfl
def blk (x:S5) (b:List Int):S5:=
 let s:=quF (sch 64 (qoj b 0 16)) 80 0 x
 ⟨IntKind.wrap .u32 (x.a+s.a),IntKind.wrap .u32 (x.b+s.b),IntKind.wrap .u32 (x.c+s.c),IntKind.wrap .u32 (x.d+s.d),IntKind.wrap .u32 (x.e+s.e)⟩
theorem qNB (x:S5) (b:List Int) (hb:b.length=64):qjg x.l b=some (blk x b).l:=by
 have h1:=qaB b hb x.l (List.replicate 5 0) 16 0 [] rfl rfl
 have h2:=qZA x.l (List.replicate 5 0) 64 16 (qoj b 0 16) rfl (by omega) (qQe b 16 0)
 have h3:=qYA x.l (List.replicate 5 0) (sch 64 (qoj b 0 16)) (by rw [qAz,qQe]) 80 0 x rfl
 rw [qLl]
 refine h1.trans ?_
 rw [List.nil_append]
 refine Eq.trans h2 (Eq.trans h3 ?_)
 rw [qeE];rfl
def qZF (W:List Int) (t:Nat) (r:List Int):Prop:=r.length=16∧∀i,i<max t 16→max t 16≤i+16→r.getD (i%16) 0=W.getD i 0
theorem qCx {r:List Int} {i j:Nat} {v:Int} (hi:i<r.length):(r.set i v).getD j 0=if i=j then v else r.getD j 0:=by
 simp only [List.getD_eq_getElem?_getD,List.getElem?_set]
 by_cases h:i=j
 ·subst h;simp [hi]
 ·simp [h]
theorem qgE (x y W:List Int) (hW:∀t,16≤t→t<80→W.getD t 0=qpC (W.getD (t - 3) 0) (W.getD (t - 8) 0) (W.getD (t - 14) 0) (W.getD (t - 16) 0)):
  ∀(k t:Nat) (s:S5) (r:List Int),t+k=80→qZF W t r→qQj s.a s.b s.c s.d s.e (t:Int) x y r=some (qnG x (quF W k t s))
 |0,t,s,r,e,hr=>by
  rw [qHo,if_neg (by simp;omega)]
  repeat rw [qea (by omega)]
  rfl
 |k+1,t,s,r,e,hr=>by
  obtain ⟨m1,m2,m3,m4⟩:=qqC t s.b s.c s.d (by omega)
  obtain ⟨r1,r5,r30⟩:=qlq s.a
  obtain ⟨_,_,q30⟩:=qlq s.b
  have et:(Int.tmod (t:Int) 16)=((t%16:Nat):Int):=by rw [qPi (by omega)];omega
  have ett:(((t%16:Nat):Int)).toNat=t%16:=by omega
  rw [qHo,if_pos (by simp;omega)]
  by_cases h16:16≤t
  ·have e13:(Int.tmod (IntKind.wrap .i64 ((t:Int)+13)) 16)=(((t - 3)%16:Nat):Int):=by rw [w64 (by omega) (by omega),qPi (by omega)];omega
   have e8:(Int.tmod (IntKind.wrap .i64 ((t:Int)+8)) 16)=(((t - 8)%16:Nat):Int):=by rw [w64 (by omega) (by omega),qPi (by omega)];omega
   have e2:(Int.tmod (IntKind.wrap .i64 ((t:Int)+2)) 16)=(((t - 14)%16:Nat):Int):=by rw [w64 (by omega) (by omega),qPi (by omega)];omega
   have e0:t%16=(t - 16)%16:=by omega
   have v13:=hr.2 (t - 3) (by omega) (by omega)
   have v8:=hr.2 (t - 8) (by omega) (by omega)
   have v2:=hr.2 (t - 14) (by omega) (by omega)
   have v0:=hr.2 (t - 16) (by omega) (by omega)
   rw [←e0] at v0
   have hn:rot (qVa .u32 (qVa .u32 (qVa .u32 (r.getD ((t - 3)%16) 0) (r.getD ((t - 8)%16) 0)) (r.getD ((t - 14)%16) 0)) (r.getD (t%16) 0)) 1=W.getD t 0:=by
    rw [v13,v8,v2,v0,hW t h16 (by omega)];rfl
   rw [if_pos (by simp;omega)]
   simp only [et,e13,e8,e2,(qlq _).1,r5,q30,m1,m2,Option.bind_some,w64 (x:=(t:Int)+1) (by omega) (by omega),Int.toNat_natCast,hn]
   repeat rw [qea (by omega)]
   have hr':qZF W (t+1) (r.set (t%16) (W.getD t 0)):=by
    refine ⟨by simp [hr.1],fun i h1 h2=>?_⟩
    rw [qCx (by rw [hr.1];omega)]
    by_cases hi:i=t
    ·subst hi;rw [if_pos rfl]
    ·rw [if_neg (by omega)]
     exact hr.2 i (by omega) (by omega)
   have hg:(r.set (t%16) (W.getD t 0)).getD (t%16) 0=W.getD t 0:=by
    rw [qCx (by rw [hr.1];omega),if_pos rfl]
   have ih:=qgE x y W hW k (t+1) (rd t (W.getD t 0) s) _ (by omega) hr'
   rw [show ((t+1:Nat):Int)=(t:Int)+1 by omega] at ih
   rw [hg]
   exact ih
  ·have v0:=hr.2 t (by omega) (by omega)
   rw [if_neg (by simp;omega)]
   simp only [et,r5,q30,m1,m2,Option.bind_some,w64 (x:=(t:Int)+1) (by omega) (by omega),Int.toNat_natCast,v0]
   repeat rw [qea (by omega)]
   have hr':qZF W (t+1) r:=⟨hr.1,fun i h1 h2=>hr.2 i (by omega) (by omega)⟩
   have ih:=qgE x y W hW k (t+1) (rd t (W.getD t 0) s) _ (by omega) hr'
   rw [show ((t+1:Nat):Int)=(t:Int)+1 by omega] at ih
   exact ih
theorem qfE (x:S5) (b:List Int) (hb:64≤b.length) (hB:Bts b):qzz x.l b=some (blk x (b.take 64)).l:=by
 have hl:(b.take 64).length=64:=by simp;omega
 have hl':Int.ofNat (b.take 64).length=64:=by rw [hl];rfl
 rw [qyz,qea (by omega),qea (by simp;omega),hl']
 have h1:=qeF (b.take 64) hl (hB.take 64) x.l (List.replicate 5 0) 16 0 [] rfl rfl
 refine Eq.trans h1 ?_
 rw [List.nil_append,qIo,if_neg (by simp)]
 repeat rw [qea (by omega)]
 have hW:∀t,16≤t→t<80→_:=fun t h1 h2=>qPC 64 (qoj (b.take 64) 0 16) t (by rw [qQe];omega) (by rw [qQe];exact h1) (by rw [qQe];omega)
 have h2:=qgE x.l (List.replicate 5 0) (sch 64 (qoj (b.take 64) 0 16)) hW 80 0 x (qoj (b.take 64) 0 16) rfl ⟨qQe _ _ _,fun i h1 h2=>by
  have hi:i<16:=by omega
  rw [qim 64 _ i (by rw [qQe];exact hi),Nat.mod_eq_of_lt hi]⟩
 refine Eq.trans h2 ?_
 rfl
def qrh (l:List Int) (i:Nat):Int:=IntKind.wrap .u8 (qwi .u32 (l.getD (i/4) 0) (24 - 8*((i%4:Nat):Int)))
def qlC (l:List Int) (t:Nat):Nat→List Int
 |0=>[]
 |k+1=>qrh l t::qlC l (t+1) k
theorem qkx (l:List Int):∀(k t:Nat),(qlC l t k).length=k
 |0,t=>rfl
 |k+1,t=>by simp [qlC,qkx l k]
theorem qlx (l:List Int):∀(k t:Nat),Bts (qlC l t k)
 |0,t=>Bts.nil
 |k+1,t=>Bts.cons (qsE _) (qlx l k _)
theorem qLE (x l:List Int):∀(k t:Nat) (P:List Int),t+k=20→P.length=t→qzd (t:Int) x l (P++List.replicate k 0)=some (P++qlC l t k)
 |0,t,P,e,hl=>by
  rw [qFg,if_neg (by simp;omega)];rfl
 |k+1,t,P,e,hl=>by
  have e1:IntKind.wrap .i64 (Int.tdiv (t:Int) 4)=((t/4:Nat):Int):=by
   rw [qJv (by omega),w64 (by omega) (by omega)];omega
  have e2:IntKind.wrap .i64 (8*(Int.tmod (t:Int) 4))=8*((t%4:Nat):Int):=by
   rw [qPi (by omega),w64 (by omega) (by omega)];omega
  have e3:IntKind.wrap .i64 (24 - 8*((t%4:Nat):Int))=24 - 8*((t%4:Nat):Int):=w64 (by omega) (by omega)
  rw [qFg,if_pos (by simp;omega),e1,e2,e3,w64 (x:=(t:Int)+1) (by omega) (by omega)]
  repeat rw [qea (by omega)]
  rw [show ((t:Int)).toNat=P.length by omega,show (((t/4:Nat):Int)).toNat=t/4 by omega,List.replicate_succ,qTn]
  have ih:=qLE x l k (t+1) (P++[qrh l t]) (by omega) (by simp;omega)
  rw [show ((t+1:Nat):Int)=(t:Int)+1 by omega] at ih
  simp only [List.append_assoc,List.singleton_append] at ih
  exact ih
theorem qMC (l:List Int):∀(k t:Nat) (P:List Int),t+k=5→P.length=4*t→qcl l (t:Int) (P++List.replicate (4*k) 0)=some (P++qlC l (4*t) (4*k),0)
 |0,t,P,e,hl=>by
  rw [qUm,if_neg (by simp;omega)];rfl
 |k+1,t,P,e,hl=>by
  rw [qUm,if_pos (by simp;omega)]
  simp only [w64 (x:=4*(t:Int)) (by omega) (by omega),w64 (x:=4*(t:Int)+1) (by omega) (by omega),w64 (x:=4*(t:Int)+2) (by omega) (by omega),w64 (x:=4*(t:Int)+3) (by omega) (by omega),w64 (x:=(t:Int)+1) (by omega) (by omega)]
  repeat rw [qea (by omega)]
  rw [show ((t:Int)).toNat=t by omega,show (4*(t:Int)).toNat=P.length by omega]
  have s0:IntKind.wrap .u8 (Int.fdiv (l.getD t 0) 16777216)=qrh l (4*t):=by
   unfold qrh qwi
   rw [show 4*t/4=t by omega,show 4*t%4=0 by omega];rfl
  have s1:IntKind.wrap .u8 (Int.fdiv (l.getD t 0) 65536)=qrh l (4*t+1):=by
   unfold qrh qwi
   rw [show (4*t+1)/4=t by omega,show (4*t+1)%4=1 by omega];rfl
  have s2:IntKind.wrap .u8 (Int.fdiv (l.getD t 0) 256)=qrh l (4*t+2):=by
   unfold qrh qwi
   rw [show (4*t+2)/4=t by omega,show (4*t+2)%4=2 by omega];rfl
  have s3:IntKind.wrap .u8 (l.getD t 0)=qrh l (4*t+3):=by
   unfold qrh qwi
   rw [show (4*t+3)/4=t by omega,show (4*t+3)%4=3 by omega]
   have:(2:Int) ^ (min ((24:Int) - 8*((3:Nat):Int)).toNat (IntKind.bits .u32))=1:=rfl
   rw [this,Int.fdiv_one]
  rw [s0,s1,s2,s3,show 4*(k+1)=4*k+1+1+1+1 by omega,List.replicate_succ,List.replicate_succ,List.replicate_succ,List.replicate_succ,qTn]
  have a1:=qTn (P++[qrh l (4*t)]) 0 (qrh l (4*t+1)) (0::0::List.replicate (4*k) 0)
  have a2:=qTn (P++[qrh l (4*t),qrh l (4*t+1)]) 0 (qrh l (4*t+2)) (0::List.replicate (4*k) 0)
  have a3:=qTn (P++[qrh l (4*t),qrh l (4*t+1),qrh l (4*t+2)]) 0 (qrh l (4*t+3)) (List.replicate (4*k) 0)
  simp only [List.append_assoc,List.cons_append,List.nil_append,List.length_append,List.length_cons,List.length_nil] at a1 a2 a3
  rw [show (4*(t:Int)+1).toNat=P.length+(0+1) by omega,a1,show (4*(t:Int)+2).toNat=P.length+(0+1+1) by omega,a2,show (4*(t:Int)+3).toNat=P.length+(0+1+1+1) by omega,a3]
  have ih:=qMC l k (t+1) (P++[qrh l (4*t),qrh l (4*t+1),qrh l (4*t+2),qrh l (4*t+3)]) (by omega) (by simp;omega)
  rw [show ((t+1:Nat):Int)=(t:Int)+1 by omega] at ih
  simp only [List.append_assoc,List.cons_append,List.nil_append] at ih
  exact ih
def qlF:Nat→S5→List Int→S5
 |0,x,_=>x
 |k+1,x,m=>qlF k (blk x (m.take 64)) (m.drop 64)
theorem qNC:∀(k:Nat) (x:S5) (m:List Int),m.length=64*k→Bts m→qdl m (List.replicate 20 0) x.l=some (qlC (qlF k x m).l 0 20,0)
 |0,x,m,hl,hB=>by
  obtain rfl:m=[]:=List.eq_nil_of_length_eq_zero (by omega)
  rw [qVm,if_neg (by simp)]
  exact qMC x.l 5 0 [] rfl rfl
 |k+1,x,m,hl,hB=>by
  rw [qVm,if_pos (by rw [decide_eq_true_eq];have:Int.ofNat m.length=(m.length:Int):=rfl;omega),qfE x m (by omega) hB]
  simp only [Option.bind_some]
  rw [qea (by omega),qea (by simp;omega)]
  exact qNC k _ (m.drop 64) (by simp;omega) (hB.drop 64)
theorem qME (x0 m:List Int) (K:Nat) (hm:m.length=64*K) (hK:K≤100000):∀(k t:Nat) (x:S5),t+k=K→qAd (64*(t:Int)) x0 m x.l=some (qlC (qlF k x (m.drop (64*t))).l 0 20)
 |0,t,x,e=>by
  have hl:Int.ofNat m.length=(64*K:Nat):=by rw [hm];rfl
  rw [qGg,hl,if_neg (by simp;omega)]
  exact qLE x0 x.l 20 0 [] rfl rfl
 |k+1,t,x,e=>by
  have hl:Int.ofNat m.length=(64*K:Nat):=by rw [hm];rfl
  rw [qGg,hl,if_pos (by simp;omega),w64 (by omega) (by omega)]
  repeat rw [qea (by omega)]
  rw [show (64*(t:Int)+64).toNat - (64*(t:Int)).toNat=64 by omega,show 0+(64*(t:Int)).toNat=64*t by omega,qNB x _ (by simp;omega)]
  simp only [Option.bind_some]
  have ih:=qME x0 m K hm hK k (t+1) (blk x ((m.drop (64*t)).take 64)) (by omega)
  rw [show 64*((t+1:Nat):Int)=64*(t:Int)+64 by omega] at ih
  rw [ih]
  simp only [qlF,List.drop_drop]
  rw [show 64*(t+1)=64*t+64 by omega]
def iv:S5:=⟨1732584193,4023233417,2562383102,271733878,3285377520⟩
def qLg (a:List Int):List Int:=qlC (qlF ((a++qjx a.length).length/64) iv (a++qjx a.length)).l 0 20
theorem qpf (a:List Int):(qLg a).length=20:=qkx _ _ _
theorem qBp (a:List Int):Bts (qLg a):=qlx _ _ _
theorem qJr (a:List Int) (h:a.length≤1000000):qIb a=some (qLg a):=by
 have hp:=qix (a.length:Int) (by omega)
 have ha:Int.ofNat a.length=(a.length:Int):=rfl
 rw [qLn,qea (by simp;omega),ha,qwu _ ⟨by omega,by omega⟩]
 simp only [Option.bind_some,qTk,List.nil_append]
 rw [qea (by simp;omega)]
 have hm:(a++qjx a.length).length=64*((a++qjx a.length).length/64):=by
  simp only [List.length_append];omega
 exact qME (List.replicate 20 0) (a++qjx a.length) _ hm (by simp only [List.length_append];omega) _ 0 iv (by omega)
theorem qOp (a:List Int) (hB:Bts a):qSn a=some (if a.length≤20000 then (qLg a,0) else (List.replicate 20 0,4)):=by
 have ha:Int.ofNat a.length=(a.length:Int):=rfl
 rw [qhy,ha]
 by_cases h:a.length≤20000
 ·have hp:=qix (a.length:Int) (by omega)
  rw [if_neg (by simp;omega),if_pos h,qfu _ (by omega)]
  simp only [Option.bind_some]
  rw [qUy _ _ (by omega)]
  simp only [Option.bind_some]
  have hm:(a++qjx a.length).length=64*((a++qjx a.length).length/64):=by
   simp only [List.length_append];omega
  exact qNC _ iv (a++qjx a.length) hm (hB.append (qkC _))
 ·rw [if_pos (by simp;omega),if_neg h]
def Tot {α:Type} (x:Option α) (P:α→Prop):Prop:=∃r,x=some r∧P r
theorem Tot.so {α:Type} {r:α} {P:α→Prop} (h:P r):Tot (some r) P:=⟨r,rfl,h⟩
theorem Tot.of_eq {α:Type} {x:Option α} {r:α} {P:α→Prop} (e:x=some r) (h:P r):Tot x P:=⟨r,e,h⟩
theorem Tot.mono {α:Type} {x:Option α} {P Q:α→Prop} (h:Tot x P) (k:∀r,P r→Q r):Tot x Q:=by
 obtain ⟨r,e,p⟩:=h;exact ⟨r,e,k r p⟩
theorem Tot.b {α β:Type} {x:Option α} {f:α→Option β} {P:α→Prop} {Q:β→Prop} (h:Tot x P) (k:∀r,P r→Tot (f r) Q):Tot (x.bind f) Q:=by
 obtain ⟨r,e,p⟩:=h;obtain ⟨s,e',q⟩:=k r p;exact ⟨s,by rw [e,Option.bind_some,e'],q⟩
theorem Tot.be {α β:Type} {x:Option α} {f:α→Option β} {v:α} {Q:β→Prop} (h:x=some v) (k:Tot (f v) Q):Tot (x.bind f) Q:=by
 subst h;exact k
theorem Tot.g {α:Type} {p:Prop} {x:Option α} {Q:α→Prop} (h:p) (k:Tot x Q):Tot (gd p x) Q:=by rw [qea h];exact k
theorem Tot.it {α:Type} {c:Prop} {i:Decidable c} {x y:Option α} {Q:α→Prop} (h1:c→Tot x Q) (h2:¬c→Tot y Q):Tot (@ite _ c i x y) Q:=by
 by_cases h:c
 ·rw [if_pos h];exact h1 h
 ·rw [if_neg h];exact h2 h
theorem Tot.ifd {α:Type} {p:Prop} {d:Decidable p} {i:Decidable (@decide p d=true)} {x y:Option α} {Q:α→Prop} (h1:p→Tot x Q) (h2:¬p→Tot y Q):Tot (@ite _ (@decide p d=true) i x y) Q:=
 Tot.it (fun h=>h1 (of_decide_eq_true h)) (fun h=>h2 (fun hp=>h (decide_eq_true hp)))
theorem Tot.ifd_pos {α:Type} {p:Prop} {d:Decidable p} {i:Decidable (@decide p d=true)} {x y:Option α} {Q:α→Prop} (h:p) (h1:Tot x Q):Tot (@ite _ (@decide p d=true) i x y) Q:=
 Tot.ifd (fun _=>h1) (fun k=>absurd h k)
theorem Tot.ifd_neg {α:Type} {p:Prop} {d:Decidable p} {i:Decidable (@decide p d=true)} {x y:Option α} {Q:α→Prop} (h:¬p) (h1:Tot y Q):Tot (@ite _ (@decide p d=true) i x y) Q:=
 Tot.ifd (fun k=>absurd k h) (fun _=>h1)
theorem Tot.ifne {α:Type} {a b:Int} {i:Decidable ((a != b)=true)} {x y:Option α} {Q:α→Prop} (h1:a≠b→Tot x Q) (h2:a=b→Tot y Q):Tot (@ite _ ((a != b)=true) i x y) Q:=
 Tot.it (fun h=>h1 (by simpa using h)) (fun h=>h2 (by simpa using h))
theorem Tot.ifne_neg {α:Type} {a b:Int} {i:Decidable ((a != b)=true)} {x y:Option α} {Q:α→Prop} (h:a=b) (h1:Tot y Q):Tot (@ite _ ((a != b)=true) i x y) Q:=
 Tot.ifne (fun k=>absurd h k) (fun _=>h1)
theorem Tot.ifeq {α:Type} {a b:Int} {i:Decidable ((a==b)=true)} {x y:Option α} {Q:α→Prop} (h1:a=b→Tot x Q) (h2:a≠b→Tot y Q):Tot (@ite _ ((a==b)=true) i x y) Q:=
 Tot.it (fun h=>h1 (by simpa using h)) (fun h=>h2 (by simpa using h))
theorem Tot.ifeq_pos {α:Type} {a b:Int} {i:Decidable ((a==b)=true)} {x y:Option α} {Q:α→Prop} (h:a=b) (h1:Tot x Q):Tot (@ite _ ((a==b)=true) i x y) Q:=
 Tot.ifeq (fun _=>h1) (fun k=>absurd h k)
theorem Tot.ifeq_neg {α:Type} {a b:Int} {i:Decidable ((a==b)=true)} {x y:Option α} {Q:α→Prop} (h:a≠b) (h1:Tot y Q):Tot (@ite _ ((a==b)=true) i x y) Q:=
 Tot.ifeq (fun k=>absurd k h) (fun _=>h1)
theorem Tot.ifn {α:Type} {b:Bool} {i:Decidable ((not b)=true)} {x y:Option α} {Q:α→Prop} (h1:b=false→Tot x Q) (h2:b=true→Tot y Q):Tot (@ite _ ((not b)=true) i x y) Q:=
 Tot.it (fun h=>h1 (by simpa using h)) (fun h=>h2 (by simpa using h))
theorem Tot.eq {α:Type} {x:Option α} {v:α} (h:Tot x fun r=>r=v):x=some v:=by obtain ⟨r,e,p⟩:=h;rw [e,p]
theorem qoB {α:Type} (l:List α) (s:Nat) (hs:s≤64) (hl:l.length≤1048576):
  (qzB (fun (r1:Bool)=>r1=true→l=[]) fun (r1:Bool)=>
   if r1=true then some ([]) else gd ((List.length ([]++l))*s≤140737488355328)<|some ([]++l))=some l:=by
 refine qDr false (by simp) (fun r hr=>?_)
 by_cases h:r=true
 ·rw [if_pos h,hr h]
 ·rw [if_neg h,qea (by
   rw [List.nil_append]
   exact Nat.le_trans (Nat.mul_le_mul hl hs) (by decide)),List.nil_append]
theorem qCn (l:List Int) (h:l.length≤1048576):qCh l=some l:=by rw [qfm];exact qoB l 1 (by decide) h
theorem qZg {α:Type} {P:α→Prop} {l:List α} {d:α} (h:∀x∈l,P x) (i:Nat) (hi:i<l.length):P (l.getD i d):=by
 rw [List.getD_eq_getElem?_getD,List.getElem?_eq_getElem hi];exact h _ (List.getElem_mem hi)
theorem qZu {α:Type} {P:α→Prop} {l:List α} {d:α} (h:∀x∈l,P x) (hd:P d) (i:Nat):P (l.getD i d):=by
 by_cases hi:i<l.length
 ·exact qZg h i hi
 ·rw [List.getD_eq_getElem?_getD,List.getElem?_eq_none (by omega)];exact hd
theorem qbk {α:Type} {eq:α→α→Bool} (h:∀x,eq x x=true):∀l:List α,qXt eq l l=true
 |[]=>rfl
 |x::l=>by rw [qXt,h,qbk h l];rfl
def hOK (h:qha):Prop:=0≤h.2.1∧h.2.1<16∧1≤h.2.2.2.1∧h.2.2.2.1≤4096∧0≤h.2.2.1∧h.2.2.1+h.2.2.2.1≤8192∧((h.1=1∧h.2.2.2.2.1=h.2.2.2.1)∨(h.1=2∧0<h.2.2.2.2.1∧h.2.2.2.2.1<h.2.2.2.1))
instance (h:qha):Decidable (hOK h):=by unfold hOK;infer_instance
def hC (h:qha):Int:=if hOK h then 0 else 8
theorem qZd (h:qha):qTe h=some (hC h):=by
 rw [qgr]
 obtain ⟨m,mem,off,raw,len,sum,u⟩:=h
 simp only [hC,decide_eq_true_eq,beq_iff_eq]
 by_cases hr:1≤raw∧raw≤4096
 ·rw [w64 (by omega) (by omega)]
  by_cases ok:hOK (m,mem,off,raw,len,sum,u)
  ·rw [if_pos ok];simp only [hOK] at ok
   rw [if_neg (by omega),if_neg (by omega),if_neg (by omega),if_neg (by omega),if_neg (by omega),if_neg (by omega)]
   rcases ok.2.2.2.2.2.2 with ⟨h1,h2⟩|⟨h1,h2,h3⟩
   ·rw [if_pos h1,if_pos h2,if_pos h2]
   ·rw [if_neg (by omega),if_pos h1,if_pos h2,if_pos h3]
  ·rw [if_neg ok];simp only [hOK] at ok
   by_cases h1:mem<0
   ·rw [if_pos h1]
   by_cases h2:mem≥16
   ·rw [if_neg h1,if_pos h2,if_pos h2]
   by_cases h3:off<0
   ·rw [if_neg h1,if_neg h2,if_neg (by omega),if_neg (by omega),if_pos h3]
   by_cases h4:off>8192 - raw
   ·rw [if_neg h1,if_neg h2,if_neg (by omega),if_neg (by omega),if_neg h3,if_pos h4]
   rw [if_neg h1,if_neg h2,if_neg (by omega),if_neg (by omega),if_neg h3,if_neg h4]
   by_cases h5:m=1
   ·rw [if_pos h5,if_neg (by omega),if_neg (by omega)]
   by_cases h6:m=2
   ·rw [if_neg h5,if_pos h6]
    by_cases h7:len>0
    ·rw [if_pos h7,if_neg (by omega)]
    ·rw [if_neg h7]
   ·rw [if_neg h5,if_neg h6]
 ·rw [if_neg (show ¬hOK (m,mem,off,raw,len,sum,u) from fun ok=>hr (by simp only [hOK] at ok;omega))]
  by_cases h1:mem<0
  ·rw [if_pos h1]
  by_cases h2:mem≥16
  ·rw [if_neg h1,if_pos h2,if_pos h2]
  by_cases h3:raw<1
  ·rw [if_neg h1,if_neg h2,if_pos h3]
  ·rw [if_neg h1,if_neg h2,if_neg h3,if_pos (by omega),if_pos (by omega)]
theorem qqj (h:qha):qxd h=some (hC h):=by
 rw [qPk]
 obtain ⟨m,mem,off,raw,len,sum,u⟩:=h
 simp only [hC,decide_eq_true_eq,beq_iff_eq,Bool.not_eq_true',decide_eq_false_iff_not,beq_eq_false_iff_ne]
 by_cases hr:1≤raw∧raw≤4096
 ·rw [w64 (by omega) (by omega)]
  by_cases ok:hOK (m,mem,off,raw,len,sum,u)
  ·rw [if_pos ok];simp only [hOK] at ok
   rw [if_neg (by omega),if_neg (by omega),if_neg (by omega),if_neg (by omega),if_neg (by omega),if_neg (by omega)]
   rcases ok.2.2.2.2.2.2 with ⟨h1,h2⟩|⟨h1,h2,h3⟩
   ·rw [if_pos h1,if_neg (by omega),if_neg (by omega)]
   ·rw [if_neg (by omega),if_pos h1,if_pos (by omega),if_neg (by omega)]
  ·rw [if_neg ok];simp only [hOK] at ok
   by_cases h1:mem<0
   ·rw [if_pos h1]
   by_cases h2:mem≥16
   ·rw [if_neg h1,if_pos h2]
   by_cases h3:off<0
   ·rw [if_neg h1,if_neg h2,if_neg (by omega),if_neg (by omega),if_pos h3]
   by_cases h4:off>8192 - raw
   ·rw [if_neg h1,if_neg h2,if_neg (by omega),if_neg (by omega),if_neg h3,if_pos h4]
   rw [if_neg h1,if_neg h2,if_neg (by omega),if_neg (by omega),if_neg h3,if_neg h4]
   by_cases h5:m=1
   ·rw [if_pos h5,if_neg (by omega),if_pos (by omega)]
   by_cases h6:m=2
   ·rw [if_neg h5,if_pos h6]
    by_cases h7:len≥1
    ·rw [if_pos h7,if_pos (by omega)]
    ·rw [if_neg h7]
   ·rw [if_neg h5,if_neg h6]
 ·rw [if_neg (show ¬hOK (m,mem,off,raw,len,sum,u) from fun ok=>hr (by simp only [hOK] at ok;omega))]
  by_cases h1:mem<0
  ·rw [if_pos h1]
  by_cases h2:mem≥16
  ·rw [if_neg h1,if_pos h2]
  by_cases h3:raw<1
  ·rw [if_neg h1,if_neg h2,if_pos h3]
  ·rw [if_neg h1,if_neg h2,if_neg h3,if_pos (by omega)]
def bC (b:qda):Int:=if hOK b.1∧(b.2.1.length:Int)=b.1.2.2.2.2.1 then 0 else 8
theorem qDA (h:qha):(hC h != 0)=true↔¬hOK h:=by
 unfold hC;split <;> simp_all
theorem qxp (b:qda):qzm b=some (bC b):=by
 rw [qos,qZd]
 simp only [Option.bind_some,qDA]
 simp only [bC,bne_iff_ne,ne_eq,Int.ofNat_eq_natCast]
 by_cases h1:hOK b.1 <;> by_cases h2:(b.2.1.length:Int)=b.1.2.2.2.2.1 <;> simp [h1,h2]
def fr8 (h:qha):List Int:=[h.1%256,h.2.1%256,(h.2.2.1/256)%256,h.2.2.1%256,(h.2.2.2.1/256)%256,h.2.2.2.1%256,(h.2.2.2.2.1/256)%256,h.2.2.2.2.1%256]
theorem qfG (a:Int):qwi .i64 a 0=a:=by rw [qvz _ _ (by omega) (by omega)];simp
theorem qpG (a:Int):qwi .i64 a 8=a/256:=by rw [qvz _ _ (by omega) (by omega)];rfl
theorem qgz (n:Int) (h:-9223372036854775808≤n∧n≤9223372036854775807):IntKind.wrap .i64 n=n:=w64 h.1 h.2
theorem qav (v18:List Int) (v19:Int) (h8:List Int) (v:Int) (h0:0≤v19) (h4:v19<5) (hw:G_widths.getD v19.toNat 0=1) (hv:v18.getD v19.toNat 0=v) (hl:h8.length≤100):
  qdc v18 v19 h8=qdc v18 (v19+1) (h8++[v%256]):=by
 rw [qxf,if_pos (by simpa using h4),qea h0,qea h4,qea h0,qea h4,hw,hv]
 rw [qvc,if_pos (by decide),qea h0,qea h4,hw]
 rw [qgz ((1:Int) - 1) (by omega),qgz ((1:Int) - 1 - 0) (by omega),qgz ((8:Int)*(1 - 1 - 0)) (by omega),qgz ((0:Int)+1) (by omega)]
 rw [qea (by omega),qea (by simp;omega)]
 rw [qvc,if_neg (by decide),w64 (x:=v19+1) (by omega) (by omega),wu8]
 rw [show (8*(1 - 1 - 0):Int)=0 by decide,qfG]
theorem qjr (v18:List Int) (v19:Int) (h8:List Int) (v:Int) (h0:0≤v19) (h4:v19<5) (hw:G_widths.getD v19.toNat 0=2) (hv:v18.getD v19.toNat 0=v) (hl:h8.length≤100):
  qdc v18 v19 h8=qdc v18 (v19+1) (h8++[(v/256)%256,v%256]):=by
 rw [qxf,if_pos (by simpa using h4),qea h0,qea h4,qea h0,qea h4,hw,hv]
 rw [qvc,if_pos (by decide),qea h0,qea h4,hw]
 rw [qgz ((2:Int) - 1) (by omega),qgz ((2:Int) - 1 - 0) (by omega),qgz ((8:Int)*(2 - 1 - 0)) (by omega),qgz ((0:Int)+1) (by omega)]
 rw [qea (by omega),qea (by simp;omega)]
 rw [qvc,if_pos (by decide),qea h0,qea h4,hw]
 rw [qgz ((2:Int) - 1) (by omega),qgz ((2:Int) - 1 - (0+1)) (by omega),qgz ((8:Int)*(2 - 1 - (0+1))) (by omega),qgz ((0:Int)+1+1) (by omega)]
 rw [qea (by omega),qea (by simp;omega)]
 rw [qvc,if_neg (by decide),w64 (x:=v19+1) (by omega) (by omega),wu8,wu8]
 rw [show (8*(2 - 1 - 0):Int)=8 by decide,show (8*(2 - 1 - (0+1)):Int)=0 by decide,qfG,qpG]
 simp
theorem qlo (h:qha) (hm:0≤h.1∧h.1<256):qmk h=some (fr8 h):=by
 rw [qcr,w64 (by omega) (by omega)]
 simp only [List.replicate,List.set_cons_zero,List.set_cons_succ]
 rw [qav _ 0 _ h.1 (by decide) (by decide) (by decide) rfl (by decide)]
 rw [qav _ (0+1) _ h.2.1 (by decide) (by decide) (by decide) rfl (by simp)]
 rw [qjr _ (0+1+1) _ h.2.2.1 (by decide) (by decide) (by decide) rfl (by simp)]
 rw [qjr _ (0+1+1+1) _ h.2.2.2.1 (by decide) (by decide) (by decide) rfl (by simp)]
 rw [qjr _ (0+1+1+1+1) _ h.2.2.2.2.1 (by decide) (by decide) (by decide) rfl (by simp)]
 rw [qxf,if_neg (by decide)]
 simp [fr8]
theorem qpj (h:qha) (hm:0≤h.1∧h.1<256):qwd h=some (fr8 h):=by
 rw [qOk]
 simp only [qGm,wu8,qtn _ (show (0:Int)<256 by decide)]
 rw [qea (by decide)]
 simp only [Option.bind_some]
 rw [qea (by simp),qea (by decide)]
 simp only [Option.bind_some]
 rw [qea (by simp),qea (by decide)]
 simp only [Option.bind_some]
 rw [qea (by simp)]
 simp only [fr8,List.cons_append,List.nil_append]
 rw [Int.emod_eq_of_lt hm.1 hm.2]
def mark:List Int:=[183,98,105,116,108,111,102,116,32,98,108,107,10]
theorem qgo:qjk=some mark:=by rw [qPq,qea (by decide)];rfl
theorem qrj:qyd=some mark:=by rw [qSk];rfl
def hB (h:qha):List Int:=fr8 h++h.2.2.2.2.2.1
theorem qvm (h:qha):(fr8 h).length=8:=rfl
def bB (b:qda):List Int:=mark++hB b.1++b.2.1
def bWf (b:qda):Prop:=(0≤b.1.1∧b.1.1<256)∧b.1.2.2.2.2.2.1.length=20
theorem qmx (a b:Nat) (ha:a<4294967296) (hb:b<256):qHc .i64 ((a:Int)*256) (b:Int)=(a:Int)*256+b:=by
 unfold qHc
 have h1:BitVec.ofInt 64 ((a:Int)*256)=BitVec.ofNat 64 (a*256):=by
  rw [show (a:Int)*256=((a*256:Nat):Int) by omega];exact BitVec.ofInt_natCast _ _
 have h2:BitVec.ofInt 64 (b:Int)=BitVec.ofNat 64 b:=BitVec.ofInt_natCast _ _
 show IntKind.wrap .i64 ((BitVec.ofInt 64 ((a:Int)*256) ||| BitVec.ofInt 64 (b:Int)).toNat:Int)=_
 rw [h1,h2,BitVec.toNat_or,BitVec.toNat_ofNat,BitVec.toNat_ofNat,Nat.mod_eq_of_lt (by omega),Nat.mod_eq_of_lt (by omega)]
 have h3:=Nat.two_pow_add_eq_or_of_lt (i:=8) (b:=b) (by omega) a
 rw [show a*256=2 ^ 8*a by omega,←h3,w64 (by omega) (by omega)]
 omega
theorem qmC {x y:Int} (hx:0≤x∧x<4294967296) (hy:0≤y∧y<256):qHc .i64 (x*256) y=x*256+y:=by
 obtain ⟨a,rfl⟩:=Int.eq_ofNat_of_zero_le hx.1
 obtain ⟨b,rfl⟩:=Int.eq_ofNat_of_zero_le hy.1
 exact qmx a b (by omega) (by omega)
theorem qYu {α:Type} (xs:List α) (i:Nat) (x d:α) (h:i<xs.length):(xs.set i x).getD i d=x:=by
 simp [List.getD,h]
theorem Bts.getD {xs:List Int} (h:Bts xs) (i:Nat):0≤xs.getD i 0∧xs.getD i 0<256:=by
 by_cases hi:i<xs.length
 ·simp only [List.getD_eq_getElem?_getD,List.getElem?_eq_getElem hi,Option.getD_some];exact h _ (List.getElem_mem hi)
 ·simp [List.getD_eq_getElem?_getD,List.getElem?_eq_none (by omega:xs.length≤i)]
theorem qXn (v0:List Int) (v5 v17 v18:Int) (b8:qha) (b9:List Int) (h0:0≤v5) (h5:v5<5) (hlt:v18<v17) (h18:0≤v18) (h17:v17≤2) (hb:Bts v0) (hl:0<v0.length) (hx:0≤b9.getD v5.toNat 0∧b9.getD v5.toNat 0<256):
  qQd v0 v5 G_widths v5 v17 v18 b8 b9=qQd (v0.drop 1) v5 G_widths v5 v17 (v18+1) b8 (b9.set v5.toNat (b9.getD v5.toNat 0*256+v0.getD 0 0)):=by
 have hy:=hb.getD 0
 rw [qyf,if_pos (by simpa using hlt)]
 rw [qea h0,qea h5,qea (by decide),qea (by decide),qea (by simp only [Int.ofNat_eq_natCast];omega),qea h0,qea h5,qea (by decide),qea (by simp only [Int.ofNat_eq_natCast];omega)]
 rw [w64 (x:=v18+1) (by omega) (by omega),w64 (x:=b9.getD v5.toNat 0*256) (by omega) (by omega),w64 (x:=v0.getD 0 0) (by omega) (by omega),qmC ⟨hx.1,by omega⟩ hy]
theorem qvu (v0:List Int) (v5:Int) (b8:qha) (b9:List Int) (h0:0≤v5) (h5:v5<5) (hw:G_widths.getD v5.toNat 0=1) (hb:Bts v0) (hl:0<v0.length) (hx:b9.getD v5.toNat 0=0) (hn:b9.length=5):
  qec v0 G_widths v5 b8 b9=qec (v0.drop 1) G_widths (v5+1) b8 (b9.set v5.toNat (v0.getD 0 0)):=by
 rw [qzf,if_pos (by simpa using h5),qea h0,qea h5,hw,qXn v0 v5 1 0 b8 b9 h0 h5 (by decide) (by decide) (by decide) hb hl (by rw [hx];decide)]
 rw [qyf,if_neg (by decide),w64 (x:=v5+1) (by omega) (by omega),hx,Int.zero_mul,Int.zero_add]
theorem quq (v0:List Int) (v5:Int) (b8:qha) (b9:List Int) (h0:0≤v5) (h5:v5<5) (hw:G_widths.getD v5.toNat 0=2) (hb:Bts v0) (hl:1<v0.length) (hx:b9.getD v5.toNat 0=0) (hn:b9.length=5):
  qec v0 G_widths v5 b8 b9=qec (v0.drop 2) G_widths (v5+1) b8 (b9.set v5.toNat (v0.getD 0 0*256+v0.getD 1 0)):=by
 have hy:=hb.getD 0
 have hi:v5.toNat<b9.length:=by omega
 have hg:(v0.drop 1).getD 0 0=v0.getD 1 0:=by simp [List.getD_eq_getElem?_getD]
 rw [qzf,if_pos (by simpa using h5),qea h0,qea h5,hw,qXn v0 v5 2 0 b8 b9 h0 h5 (by decide) (by decide) (by decide) hb (by omega) (by rw [hx];decide)]
 rw [hx,Int.zero_mul,Int.zero_add (v0.getD 0 0)]
 rw [qXn (v0.drop 1) v5 2 (0+1) b8 _ h0 h5 (by decide) (by decide) (by decide) (hb.drop 1) (by simp;omega) (by rw [qYu _ _ _ _ hi];exact hy)]
 rw [qyf,if_neg (by decide),w64 (x:=v5+1) (by omega) (by omega),qYu _ _ _ _ hi,List.set_set,List.drop_drop,hg]
def zH:qha:=(0,(0,(0,(0,(0,(List.replicate 20 0,()))))))
def pH (a:List Int):qha:=(a.getD 0 0,(a.getD 1 0,(a.getD 2 0*256+a.getD 3 0,(a.getD 4 0*256+a.getD 5 0,(a.getD 6 0*256+a.getD 7 0,(a.drop 8,()))))))
def pP (a:List Int):qha×Int:=if a.length=28∧hOK (pH a) then (pH a,0) else (zH,12)
theorem qWA (a:List Int) (k i:Nat):(a.drop k).getD i 0=a.getD (k+i) 0:=by simp [List.getD_eq_getElem?_getD]
theorem qEi (a:List Int) (hb:Bts a):qok a=some (pP a):=by
 rw [qfr]
 by_cases hl:a.length=28
 ·rw [if_neg (by simp [hl])]
  have hrep:(List.replicate 5 (0:Int))=[0,0,0,0,0]:=rfl
  rw [hrep]
  rw [qvu a 0 _ _ (by decide) (by decide) (by decide) hb (by omega) (by decide) (by decide)]
  rw [qvu (a.drop 1) (0+1) _ _ (by decide) (by decide) (by decide) (hb.drop 1) (by simp;omega) (by simp) (by simp)]
  rw [quq _ (0+1+1) _ _ (by decide) (by decide) (by decide) ((hb.drop 1).drop 1) (by simp;omega) (by simp) (by simp)]
  rw [quq _ (0+1+1+1) _ _ (by decide) (by decide) (by decide) (((hb.drop 1).drop 1).drop 2) (by simp;omega) (by simp) (by simp)]
  rw [quq _ (0+1+1+1+1) _ _ (by decide) (by decide) (by decide) ((((hb.drop 1).drop 1).drop 2).drop 2) (by simp;omega) (by simp) (by simp)]
  rw [qzf,if_neg (by decide)]
  iterate 10 rw [qea (by decide)]
  simp only [List.drop_drop,qWA]
  have h0:=hb.getD 0
  have hsp:qbc (List.replicate 20 (0:Int)) 0 (List.take (min (List.drop (1+1+2+2+2) a).length 20) (List.drop (1+1+2+2+2) a))=a.drop 8:=by
   have hln:(a.drop 8).length=20:=by simp [hl]
   show qbc (List.replicate 20 (0:Int)) 0 (List.take (min (a.drop 8).length 20) (a.drop 8))=a.drop 8
   rw [hln,List.take_of_length_le (by omega)]
   unfold qbc
   simp [hl]
  rw [hsp]
  have e0:(([0,0,0,0,0]:List Int).set (Int.toNat 0) (a.getD 0 0) |>.set (Int.toNat (0+1)) (a.getD (1+0) 0) |>.set (Int.toNat (0+1+1)) (a.getD (1+1+0) 0*256+a.getD (1+1+1) 0) |>.set (Int.toNat (0+1+1+1)) (a.getD (1+1+2+0) 0*256+a.getD (1+1+2+1) 0) |>.set (Int.toNat (0+1+1+1+1)) (a.getD (1+1+2+2+0) 0*256+a.getD (1+1+2+2+1) 0))=[a.getD 0 0,a.getD 1 0,a.getD 2 0*256+a.getD 3 0,a.getD 4 0*256+a.getD 5 0,a.getD 6 0*256+a.getD 7 0]:=rfl
  rw [e0]
  simp only [List.getD_cons_zero,List.getD_cons_succ,wu8,Int.emod_eq_of_lt h0.1 h0.2]
  rw [qZd]
  show (some (hC (pH a))).bind _=_
  simp only [Option.bind_some,qDA]
  unfold pP
  by_cases ok:hOK (pH a)
  ·rw [if_neg (by simpa using ok),if_pos ⟨hl,ok⟩];rfl
  ·rw [if_pos ok,if_neg (fun h=>ok h.2)];rfl
 ·rw [if_pos (by simp;omega)]
  unfold pP
  rw [if_neg (fun h=>hl h.1)];rfl
theorem qxx:Bts mark:=by
 intro x hx
 simp [mark] at hx
 omega
theorem qvf:mark.length=13:=rfl
theorem qTl (a:List Int) (hb:Bts a) (h1:41≤a.length) (h2:a.length≤50000):qQq a 0=some (decide (a.take 13=mark),0):=by
 rw [qIu,qOq,if_neg (by simp;omega),if_neg (by decide),if_neg (by simp)]
 simp only [Option.bind_some]
 rw [if_neg (by decide),qea (by decide),qea (by simp),qgo]
 simp only [Option.bind_some]
 rw [qfi,if_pos (by simp [qvf];omega),qea (by simp),qea (by simp [qvf];omega),qem]
 simp only [Option.bind_some]
 rw [qSA ((hb.drop _).take _) qxx]
 rfl
def rdK (a:List Int):qda×Int×Int:=
 if a.length>50000 then ((zH,([],())),(0,4)) else if a.length<41 then ((zH,([],())),(0,18))
 else if a.take 13≠mark∨¬hOK (pH ((a.drop 13).take 28)) then ((zH,([],())),(0,12))
 else if (a.length:Int)<41+(pH ((a.drop 13).take 28)).2.2.2.2.1 then ((zH,([],())),(0,18))
 else ((pH ((a.drop 13).take 28),((a.drop 41).take (pH ((a.drop 13).take 28)).2.2.2.2.1.toNat,())),(41+(pH ((a.drop 13).take 28)).2.2.2.2.1,0))
theorem qxh {h:qha} (ok:hOK h):1≤h.2.2.2.2.1∧h.2.2.2.2.1≤4096:=by unfold hOK at ok;omega
theorem qQD (a:List Int) (h:41≤a.length):pP ((a.drop 13).take 28)=if hOK (pH ((a.drop 13).take 28)) then (pH ((a.drop 13).take 28),0) else (zH,12):=by
 have hl:((a.drop 13).take 28).length=28:=by simp;omega
 unfold pP
 simp only [hl,true_and]
theorem qCr (a:List Int) (hb:Bts a):qMi a=some (rdK a):=by
 rw [qEn]
 unfold rdK
 by_cases h1:a.length>50000
 ·rw [if_pos (by simp;omega),if_pos h1];rfl
 rw [if_neg (by simp;omega),if_neg h1]
 by_cases h2:a.length<41
 ·rw [if_pos (by simp;omega),if_pos h2];rfl
 rw [if_neg (by simp;omega),if_neg h2,qea (by decide),qea (by decide),qea (by simp only [Int.ofNat_eq_natCast];omega),qEi _ ((hb.drop _).take _),qQD a (by omega),qTl a hb (by omega) (by omega)]
 simp only [Option.bind_some]
 by_cases h3:a.take 13=mark
 ·by_cases ok:hOK (pH ((a.drop 13).take 28))
  ·have hlen:=qxh ok
   rw [if_pos ok,if_neg (by simp [h3]),if_neg (by simp),if_neg (show ¬(a.take 13≠mark∨¬hOK (pH ((a.drop 13).take 28))) from fun h=>h.elim (fun h=>h h3) (fun h=>h ok))]
   generalize pH ((a.drop 13).take 28)=h at ok hlen ⊢
   simp only
   rw [w64 (x:=41+h.2.2.2.2.1) (by omega) (by omega)]
   by_cases h4:(a.length:Int)<41+h.2.2.2.2.1
   ·rw [if_pos (by simpa using h4),if_pos h4];rfl
   ·rw [if_neg (by simpa using h4),if_neg h4,qea (by decide),qea (by omega),qea (by simp only [Int.ofNat_eq_natCast];omega),qCn _ (by simp;omega)]
    have e:Int.toNat (41+h.2.2.2.2.1) - 41=h.2.2.2.2.1.toNat:=by omega
    simp only [Option.bind_some,e]
  ·rw [if_neg ok,if_neg (by simp [h3]),if_pos (by simp),if_pos (show (a.take 13≠mark∨¬hOK (pH ((a.drop 13).take 28))) from .inr ok)];rfl
 ·rw [if_pos (by simp [h3]),if_pos (show (a.take 13≠mark∨¬hOK (pH ((a.drop 13).take 28))) from .inl h3)];rfl
theorem qIA (h:qha):Bts (fr8 h):=by
 intro x hx
 simp only [fr8,List.mem_cons,List.not_mem_nil,or_false] at hx
 omega
theorem qrn (h:qha) (hm:0≤h.1∧h.1<256) (raw:List Int) (hb:Bts raw) (hl:raw.length≤19000):qij h raw=some (qLg (fr8 h++raw)):=by
 rw [qsp,qlo h hm,Option.bind_some]
 have hL:(fr8 h++raw).length=raw.length+8:=by rw [List.length_append,qvm];omega
 rw [qea (by rw [hL];omega),qOp _ (Bts.append (qIA h) hb),if_pos (by rw [hL];omega),Option.bind_some]
def qDE (m a1 a2 raw len:Int) (z:List Int):qha:=(m,(a1,(a2,(raw,(len,(qLg (fr8 (m,(a1,(a2,(raw,(len,(List.replicate 20 0,()))))))++z),()))))))
def qIg (a1 a2:Int) (z:List Int):qda:=(qDE 1 a1 a2 z.length z.length z,(z,()))
def mOK (a1 a2:Int) (z:List Int):Prop:=0≤a1∧a1<16∧1≤z.length∧z.length≤4096∧0≤a2∧a2+z.length≤8192
instance (a1 a2:Int) (z:List Int):Decidable (mOK a1 a2 z):=by unfold mOK;infer_instance
theorem qyy {a1 a2:Int} {z:List Int} (h:mOK a1 a2 z) (s:List Int):hOK (1,(a1,(a2,((z.length:Int),((z.length:Int),(s,())))))):=by
 unfold mOK at h
 exact ⟨h.1,h.2.1,by simp only;omega,by simp only;omega,h.2.2.2.2.1,h.2.2.2.2.2,Or.inl ⟨rfl,rfl⟩⟩
theorem qVu (l:Int):qmj l=some (decide (0≤l∧l≤7)):=by
 rw [qwp]
 by_cases h:0≤l
 ·rw [if_pos (by simpa using h)]
  exact congrArg some (by simp [h])
 ·rw [if_neg (by simpa using h)]
  exact congrArg some (by simp [h])
theorem qcu {a1 a2:Int} {z:List Int} (hm:mOK a1 a2 z):bC (qIg a1 a2 z)=0:=if_pos ⟨qyy hm _,rfl⟩
theorem qdh (a1 a2:Int) (z:List Int):bWf (qIg a1 a2 z):=⟨⟨by show (0:Int)≤1;decide,by show (1:Int)<256;decide⟩,qpf _⟩
theorem qXz {xs ys:List Int}:qXt (peq (.int .u8)) xs ys=true→xs=ys:=by
 intro h
 induction xs generalizing ys with
 |nil=>cases ys with
  |nil=>rfl
  |cons y ys=>exact absurd h (by simp [qXt])
 |cons x xs ih=>cases ys with
  |nil=>exact absurd h (by simp [qXt])
  |cons y ys=>
   rw [qXt,Bool.and_eq_true] at h
   have h1:x=y:=by have:=h.1;rw [peq] at this;exact of_decide_eq_true this
   rw [h1,ih h.2]
theorem qiC (xs ys:List Int):qXt (peq (.int .u8)) xs ys=decide (xs=ys):=by
 by_cases h:xs=ys
 ·subst h
  rw [decide_eq_true rfl]
  exact qbk (fun x=>by rw [peq];exact decide_eq_true rfl) _
 ·rw [decide_eq_false h]
  cases hq:qXt (peq (.int .u8)) xs ys with
  |false=>rfl
  |true=>exact absurd (qXz hq) h
theorem qes {h:qha} (ok:hOK h) (hm:0≤h.1∧h.1<256) {z:List Int} (hb:Bts z) (hl:(z.length:Int)=h.2.2.2.1):qnk h z=some (decide (qLg (fr8 h++z)=h.2.2.2.2.2.1),0):=by
 have hz:z.length≤4096:=by unfold hOK at ok;omega
 have hc:hC h=0:=if_pos ok
 rw [qer]
 refine Tot.eq (Tot.be (qZd h) (Tot.ifne_neg hc (Tot.ifeq_pos hl (Tot.be (qrn h hm z hb (by omega)) (Tot.so ?_)))))
 rw [peq,qiC]
theorem qdz {l:Int} {b:qda} (hl:0≤l∧l≤7) (h1:b.1.1=1) (hc:bC b=0) (hb:Bts b.2.1):qFn l b=some (if qLg (fr8 b.1++b.2.1)=b.1.2.2.2.2.2.1 then (b.2.1,0) else ([],22)):=by
 have ok:hOK b.1∧(b.2.1.length:Int)=b.1.2.2.2.2.1:=by
  unfold bC at hc;split at hc
  ·assumption
  ·cases hc
 have hlen:b.1.2.2.2.2.1=b.1.2.2.2.1:=by
  rcases ok.1.2.2.2.2.2.2 with h|h
  ·exact h.2
  ·omega
 have hz:b.2.1.length≤4096:=by have:=ok.1.2.2.2.1;omega
 rw [qwv]
 refine Tot.eq (Tot.be (qxp b) (Tot.ifne_neg hc (Tot.be (qVu l) ?_)))
 rw [decide_eq_true hl]
 refine Tot.ifn (fun k=>absurd k (by decide)) (fun _=>Tot.be (qCn _ (by omega)) (Tot.ifeq_neg (by omega) (Tot.be (qes ok.1 (by omega) hb (by omega)) ?_)))
 by_cases hs:qLg (fr8 b.1++b.2.1)=b.1.2.2.2.2.2.1
 ·rw [if_pos hs,decide_eq_true hs]
  exact Tot.ifn (fun k=>absurd k (by decide)) (fun _=>Tot.so rfl)
 ·rw [if_neg hs,decide_eq_false hs]
  exact Tot.ifn (fun _=>Tot.so rfl) (fun k=>absurd k (by decide))
theorem qZm (h:qha) (hm:0≤h.1∧h.1<256) {z:List Int} (hl:z.length≤100000):qUd h z=some (qLg (fr8 h++z)):=by
 have hL:(fr8 h++z).length=z.length+8:=by rw [List.length_append,qvm];omega
 rw [qKn]
 exact Tot.eq (Tot.be (qpj h hm) (Tot.g (by rw [hL];omega) (Tot.be (qJr _ (by rw [hL];omega)) (Tot.so rfl))))
instance (h:qha):Decidable (hOK h):=by unfold hOK;infer_instance
theorem qhp (b:qda):qvd b=some (bC b):=by
 rw [qKk,qqj]
 simp only [Option.bind_some,qDA]
 simp only [bC,bne_iff_ne,ne_eq,Int.ofNat_eq_natCast]
 by_cases h1:hOK b.1 <;> by_cases h2:(b.2.1.length:Int)=b.1.2.2.2.2.1 <;> simp [h1,h2]
instance (a1 a2:Int) (z:List Int):Decidable (mOK a1 a2 z):=by unfold mOK;infer_instance
theorem qjp (h:qha) (hm:0≤h.1∧h.1<256) (hs:h.2.2.2.2.2.1.length=20):qQf h=some (hB h):=by
 rw [qQk,qpj h hm]
 simp only [Option.bind_some]
 rw [qea (by simp [qvm];omega)]
 simp only [hB,List.drop_zero]
 rw [List.take_of_length_le (by omega)]
def qyF (s:List Int):Prop:=s.take 13=mark
instance (s:List Int):Decidable (qyF s):=by unfold qyF;infer_instance
theorem qKF {h:qha} (ok:hOK h) (hs:h.2.2.2.2.2.1.length=20):pH (hB h)=h:=by
 obtain ⟨m,mem,off,raw,len,sum,u⟩:=h
 have e:pH (hB (m,mem,off,raw,len,sum,u))=(m%256,(mem%256,(off/256%256*256+off%256,(raw/256%256*256+raw%256,(len/256%256*256+len%256,(sum,())))))):=rfl
 rw [e]
 unfold hOK at ok
 simp only at ok
 have e1:m%256=m:=by omega
 have e2:mem%256=mem:=by omega
 have e3:off/256%256*256+off%256=off:=by omega
 have e4:raw/256%256*256+raw%256=raw:=by omega
 have e5:len/256%256*256+len%256=len:=by omega
 rw [e1,e2,e3,e4,e5]
theorem qIF {b:qda} {more:List Int} (hc:bC b=0) (hw:bWf b) (hl:more.length≤40000):rdK (bB b++more)=(b,(b.1.2.2.2.2.1+41,0)):=by
 have ok:hOK b.1∧(b.2.1.length:Int)=b.1.2.2.2.2.1:=by
  unfold bC at hc;split at hc
  ·assumption
  ·cases hc
 have hlen:=qxh ok.1
 have hhl:(hB b.1).length=28:=by unfold hB;rw [List.length_append,qvm,hw.2]
 have hL:(bB b++more).length=41+b.2.1.length+more.length:=by
  unfold bB;simp only [List.length_append,qvf,hhl]
 have hw13:(bB b++more).take 13=mark:=by
  unfold bB
  rw [List.append_assoc,List.append_assoc,List.take_append_of_le_length (by rw [qvf];omega)]
  rfl
 have qyF:((bB b++more).drop 13).take 28=hB b.1:=by
  unfold bB
  rw [List.append_assoc,List.append_assoc,List.drop_append_of_le_length (by rw [qvf];omega),List.drop_of_length_le (by rw [qvf];omega),List.nil_append,List.take_append_of_le_length (by omega),List.take_of_length_le (by omega)]
 have hd41:(bB b++more).drop 41=b.2.1++more:=by
  have e:bB b++more=(mark++hB b.1)++(b.2.1++more):=by unfold bB;simp only [List.append_assoc]
  have e2:(mark++hB b.1).length=41:=by rw [List.length_append,qvf,hhl]
  rw [e,List.drop_append_of_le_length (by omega),List.drop_of_length_le (by omega),List.nil_append]
 unfold rdK
 rw [qyF,qKF ok.1 hw.2,if_neg (show ¬(bB b++more).length>50000 by omega),if_neg (show ¬(bB b++more).length<41 by omega),if_neg (fun h=>h.elim (fun h=>h hw13) (fun h=>h ok.1)),if_neg (by omega),hd41]
 have e:b.1.2.2.2.2.1.toNat=b.2.1.length:=by omega
 rw [e,List.take_append_of_le_length (Nat.le_refl _),List.take_length,Int.add_comm]
theorem b7:Bts [7]:=Bts.cons (by decide) Bts.nil
theorem qPm (S:List Int) (n:Nat) (x:Int) (h:n<S.length):(S.set n x).take (n+1)=S.take n++[x]:=by
 rw [List.take_succ_eq_append_getElem (by simpa using h),List.take_set,List.set_eq_of_length_le (by simp;omega)]
 simp
theorem qRF (a b:ByteArray):(ByteArray.toList a==ByteArray.toList b)=decide (a=b):=by
 rw [Bool.eq_iff_iff,beq_iff_eq,decide_eq_true_eq]
 exact ⟨fun h=>toList_inj h,fun h=>by rw [h]⟩
theorem qxg (s:ByteArray):(qCb s).length=s.size:=by
 unfold qCb
 rw [List.length_map,Array.length_toList];rfl
def okC (x:Int):Bool:=decide (33≤x)&&decide (x≤126)
def qty (s:ByteArray):Bool:=(qCb s).all okC&&decide (1≤s.size)&&decide (s.size≤40)
theorem qXA {xs:List Int} {i:Nat} (h:i<xs.length):xs.drop i=xs.getD i 0::xs.drop (i+1):=by
 rw [List.drop_eq_getElem_cons h,List.getD_eq_getElem?_getD,List.getElem?_eq_getElem h];rfl
theorem qUu (s:ByteArray) (hs:s.size≤9223372036854775807):∀(k i:Nat),i+k=s.size→qBe s (s.size:Int) (i:Int)=some (((qCb s).drop i).all okC&&decide (1≤s.size)&&decide (s.size≤40))
 |0,i,e=>by
  have hd:(qCb s).drop i=[]:=List.drop_eq_nil_of_le (by rw [qxg];omega)
  rw [qth,if_neg (by simp;omega),hd]
  have hl:Int.ofNat s.size=(s.size:Int):=rfl
  rw [hl]
  by_cases h:1≤s.size
  ·rw [if_pos (by simp;omega)]
   simp [h];omega
  ·rw [if_neg (by rw [decide_eq_true_eq];omega)]
   simp [h]
 |k+1,i,e=>by
  have hi:i<(qCb s).length:=by rw [qxg];omega
  have hb:qXo s ((i:Int)).toNat=(qCb s).getD i 0:=by rw [Int.toNat_natCast];rfl
  rw [qth,if_pos (by simp;omega),qea (by omega),qea (by omega),hb,qXA hi,w64 (by omega) (by omega)]
  have ih:=qUu s hs k (i+1) (by omega)
  rw [show ((i+1:Nat):Int)=(i:Int)+1 by omega] at ih
  by_cases h1:(qCb s).getD i 0≤32
  ·rw [if_pos (by simpa using h1)]
   have:okC ((qCb s).getD i 0)=false:=by simp only [okC,Bool.and_eq_false_iff,decide_eq_false_iff_not];left;omega
   simp only [List.all_cons,this,Bool.false_and]
  ·rw [if_neg (by simpa using h1),qea (by omega),qea (by omega)]
   by_cases h2:(qCb s).getD i 0>126
   ·rw [if_pos (by simpa using h2)]
    have:okC ((qCb s).getD i 0)=false:=by simp only [okC,Bool.and_eq_false_iff,decide_eq_false_iff_not];right;omega
    simp only [List.all_cons,this,Bool.false_and]
   ·rw [if_neg (by simpa using h2),ih]
    have:okC ((qCb s).getD i 0)=true:=by simp only [okC,Bool.and_eq_true,decide_eq_true_eq];omega
    simp only [List.all_cons,this,Bool.true_and]
theorem qin (s:ByteArray) (hs:s.size≤9223372036854775807):qcj s=some (qty s):=by
 rw [qnp]
 exact qUu s hs s.size 0 (by omega)
theorem qHB (s:ByteArray) (hs:s.size≤9223372036854775807):∀(k i:Nat),i+k=s.size→qOc s (i:Int)=some (((qCb s).drop i).all okC)
 |0,i,e=>by
  have hd:(qCb s).drop i=[]:=List.drop_eq_nil_of_le (by rw [qxg];omega)
  rw [qLf,if_neg (by simp;omega),hd]
  rfl
 |k+1,i,e=>by
  have hi:i<(qCb s).length:=by rw [qxg];omega
  have hb:qXo s ((i:Int)).toNat=(qCb s).getD i 0:=by rw [Int.toNat_natCast];rfl
  rw [qLf,if_pos (by simp;omega),qea (by omega),qea (by omega),hb,qXA hi,w64 (by omega) (by omega)]
  have ih:=qHB s hs k (i+1) (by omega)
  rw [show ((i+1:Nat):Int)=(i:Int)+1 by omega] at ih
  by_cases h1:(qCb s).getD i 0<33
  ·rw [if_pos (by simpa using h1)]
   have:okC ((qCb s).getD i 0)=false:=by simp only [okC,Bool.and_eq_false_iff,decide_eq_false_iff_not];left;omega
   simp only [List.all_cons,this,Bool.false_and]
  ·rw [if_neg (by simpa using h1),qea (by omega),qea (by omega)]
   by_cases h2:(qCb s).getD i 0>126
   ·rw [if_pos (by simpa using h2)]
    have:okC ((qCb s).getD i 0)=false:=by simp only [okC,Bool.and_eq_false_iff,decide_eq_false_iff_not];right;omega
    simp only [List.all_cons,this,Bool.false_and]
   ·rw [if_neg (by simpa using h2),ih]
    have:okC ((qCb s).getD i 0)=true:=by simp only [okC,Bool.and_eq_true,decide_eq_true_eq];omega
    simp only [List.all_cons,this,Bool.true_and]
theorem qZj (s:ByteArray) (hs:s.size≤9223372036854775807):qce s=some (qty s):=by
 have hl:Int.ofNat s.size=(s.size:Int):=rfl
 rw [qyl,hl]
 unfold qty
 by_cases h1:s.size<1
 ·rw [if_pos (by simp;omega)]
  have:¬1≤s.size:=by omega
  simp [this]
 ·rw [if_neg (by simp;omega)]
  by_cases h2:s.size>40
  ·rw [if_pos (by simp;omega)]
   have:¬s.size≤40:=by omega
   simp [this]
  ·rw [if_neg (by simp;omega)]
   have:=qHB s hs s.size 0 (by omega)
   refine this.trans ?_
   have h3:1≤s.size:=by omega
   have h4:s.size≤40:=by omega
   simp [h3,h4]
theorem qGq {α β:Type} {eq:α→α→Bool} (h:∀a b,eq a b=true↔a=b) (x y:α) (v:β):∀m:List (α×β),qlp eq x (qEu eq y v m)=if eq x y then some v else qlp eq x m
 |[]=>by simp [qEu,qlp]
 |e::r=>by
  simp only [qEu]
  by_cases hy:eq y e.1=true
  ·have:=(h _ _).1 hy
   simp only [hy,if_true,qlp]
   by_cases hx:eq x y=true
   ·simp [hx]
   ·have:eq x e.1=false:=by rw [←this];simpa using hx
    simp [hx,this]
  ·simp only [hy,Bool.false_eq_true,if_false,qlp,qGq h x y v r]
   by_cases hx:eq x y=true
   ·have e1:=(h _ _).1 hx
    subst e1
    simp [hx,hy]
   ·simp [hx]
theorem qWz (a b:ByteArray):peq .str a b=decide (a=b):=qRF a b
def qHu (x:ByteArray) (xs:List ByteArray):Bool:=xs.any fun y=>decide (x=y)
theorem qbw (x y:ByteArray) (xs:List ByteArray):qHu x (xs++[y])=(qHu x xs||decide (x=y)):=by simp [qHu]
def qJs (seen:List ByteArray):List ByteArray→Bool
 |[]=>false
 |x::r=>qHu x seen||qJs (seen++[x]) r
theorem qDt {xs:List ByteArray} {i:Nat} (h:i<xs.length):xs.drop i=xs.getD i ByteArray.empty::xs.drop (i+1)∧xs.take (i+1)=xs.take i++[xs.getD i ByteArray.empty]:=by
 have e:xs.getD i ByteArray.empty=xs[i]:=by rw [List.getD_eq_getElem?_getD,List.getElem?_eq_getElem h];rfl
 rw [e]
 exact ⟨List.drop_eq_getElem_cons h,by rw [List.take_add_one,List.getElem?_eq_getElem h];rfl⟩
theorem qQw (xs:List ByteArray) (hx:xs.length≤9223372036854775807):∀(k i:Nat) (m:List (ByteArray×Bool)),i+k=xs.length→(∀x,Option.getD (qlp (peq .str) x m) false=qHu x (xs.take i))→qrf xs (xs.length:Int) (i:Int) m=some (qJs (xs.take i) (xs.drop i))
 |0,i,m,e,hm=>by
  rw [qWh,if_neg (by simp;omega),List.drop_eq_nil_of_le (by omega)];rfl
 |k+1,i,m,e,hm=>by
  have hl:Int.ofNat xs.length=(xs.length:Int):=rfl
  obtain ⟨d1,d2⟩:=qDt (xs:=xs) (i:=i) (by omega)
  rw [qWh,if_pos (by simp;omega),qea (by omega),qea (by rw [hl];omega),Int.toNat_natCast,hm,d1,qJs]
  by_cases h:qHu (xs.getD i ByteArray.empty) (xs.take i)=true
  ·rw [if_pos h,h];rfl
  ·rw [if_neg h,w64 (by omega) (by omega)]
   have ih:=qQw xs hx k (i+1) (qEu (peq .str) (xs.getD i ByteArray.empty) true m) (by omega) (fun x=>by
    rw [qGq (fun a b=>by rw [qWz];simp),d2,qWz,qbw,←hm]
    by_cases hx:x=xs.getD i ByteArray.empty
    ·rw [if_pos (by simp [hx])];simp [hx]
    ·rw [decide_eq_false hx,if_neg (by simp),Bool.or_false])
   rw [show ((i+1:Nat):Int)=(i:Int)+1 by omega] at ih
   rw [ih,d2,Bool.eq_false_iff.2 h];rfl
theorem qdo (xs:List ByteArray) (hx:xs.length≤9223372036854775807):qek xs=some (qJs [] xs):=by
 rw [qHq]
 exact qQw xs hx xs.length 0 [] (by omega) (fun x=>by simp [qlp,qHu])
def qOs (r:qaa):Bool:=!qty r.1||decide (r.2.1<0)||decide (r.2.1>8192)||(r.2.1==0&&!peq (.arr 20 (.int .u8)) r.2.2.1 (qLg []))
def vld (acc:Int) (nm:List ByteArray):List qaa→Int
 |[]=>if acc>8192 then 4 else if qJs [] nm then 14 else 0
 |r::rest=>if qOs r then 8 else vld (acc+r.2.1) (nm++[r.1]) rest
def qZc (rs:List qaa):Int:=if rs.length>16 then 4 else vld 0 [] rs
def RecsOK (rs:List qaa):Prop:=rs.length≤9223372036854775807∧∀r∈rs,r.1.size≤9223372036854775807
theorem qBa {α:Type} {xs:List α} {i:Nat} (d:α) (h:i<xs.length):xs.drop i=xs.getD i d::xs.drop (i+1)∧xs.take (i+1)=xs.take i++[xs.getD i d]∧xs.getD i d∈xs:=by
 have e:xs.getD i d=xs[i]:=by rw [List.getD_eq_getElem?_getD,List.getElem?_eq_getElem h];rfl
 rw [e]
 exact ⟨List.drop_eq_getElem_cons h,by rw [List.take_add_one,List.getElem?_eq_getElem h];rfl,List.getElem_mem h⟩
theorem qSy:qdj []=some (qLg []):=by
 rw [qop,qOp [] Bts.nil];rfl
theorem qrF:qIb []=some (qLg []):=qJr [] (by simp)
theorem qUx (rs:List qaa) (hR:RecsOK rs) (hn:rs.length≤16):∀(k i:Nat) (acc:Int) (nm:List ByteArray),i+k=rs.length→nm.length=i→0≤acc→acc≤8192*i→qOd acc rs (rs.length:Int) (i:Int) nm=some (vld acc nm (rs.drop i))
 |0,i,acc,nm,e,hl,a0,a1=>by
  rw [qYh,if_neg (by simp;omega),List.drop_eq_nil_of_le (by omega),vld]
  by_cases h:acc>8192
  ·rw [if_pos (by simpa using h),if_pos h]
  ·rw [if_neg (by simpa using h),if_neg h,qdo _ (by omega)]
   simp only [Option.bind_some]
   by_cases h:qJs [] nm=true
   ·rw [if_pos h,if_pos h]
   ·rw [if_neg h,if_neg h]
 |k+1,i,acc,nm,e,hl,a0,a1=>by
  have hl':Int.ofNat rs.length=(rs.length:Int):=rfl
  obtain ⟨d1,d2,d3⟩:=qBa (qja qba:qaa) (xs:=rs) (i:=i) (by omega)
  rw [qYh,if_pos (by simp;omega),qea (by omega),qea (by rw [hl'];omega),Int.toNat_natCast,d1,vld]
  generalize hr:(List.getD rs i (qja qba):qaa)=r at d3 ⊢
  rw [qin _ (hR.2 r d3)]
  simp only [Option.bind_some,qSy]
  by_cases h1:qty r.1=true
  ·rw [if_neg (by simp [h1])]
   by_cases h2:r.2.1<0
   ·rw [if_pos (by simpa using h2),if_pos (by simp [qOs,h2])]
   ·rw [if_neg (by simpa using h2)]
    by_cases h3:r.2.1>8192
    ·rw [if_pos (by simpa using h3),if_pos (by simp [qOs,h3])]
    ·rw [if_neg (by simpa using h3)]
     have ih:=qUx rs hR hn k (i+1) (acc+r.2.1) (nm++[r.1]) (by omega) (by simp;omega) (by omega) (by omega)
     rw [show ((i+1:Nat):Int)=(i:Int)+1 by omega] at ih
     rw [w64 (x:=(i:Int)+1) (by omega) (by omega),w64 (x:=acc+r.2.1) (by omega) (by omega),ih]
     by_cases h4:r.2.1=0
     ·rw [if_pos (by simp [h4])]
      by_cases h5:peq (.arr 20 (.int .u8)) r.2.2.1 (qLg [])=true
      ·rw [if_neg (by simp [h5]),qea (by simp;omega),if_neg (by simp [qOs,h1,h4,h5])]
      ·rw [if_pos (by simpa using h5),if_pos (by simp [qOs,h4,h5])]
     ·rw [if_neg (by simpa using h4),qea (by simp;omega),if_neg (by simp [qOs,h1,h4];omega)]
  ·rw [if_pos (by simpa using h1),if_pos (by simp [qOs,h1])]
theorem qRc (rs:List qaa) (hR:RecsOK rs):qPd rs=some (qZc rs):=by
 have hl:Int.ofNat rs.length=(rs.length:Int):=rfl
 rw [qLq,hl,qZc]
 by_cases h:rs.length>16
 ·rw [if_pos (by simp;omega),if_pos h]
 ·rw [if_neg (by simp;omega),if_neg h]
  exact qUx rs hR (by omega) rs.length 0 0 [] (by omega) rfl (by omega) (by omega)
def names (rs:List qaa):List ByteArray:=rs.map (·.1)
theorem qDu (rs:List qaa) (i:Nat) (h:i<rs.length):(rs.getD i (qja qba)).1=(names rs).getD i ByteArray.empty:=by
 unfold names
 simp only [List.getD_eq_getElem?_getD,List.getElem?_map,List.getElem?_eq_getElem h,Option.map_some,Option.getD_some]
theorem qGu {x:ByteArray} {xs:List ByteArray} {j i:Nat} (h:j<i) (hi:i≤xs.length):qHu x ((xs.take i).drop j)=(decide (x=xs.getD j ByteArray.empty)||qHu x ((xs.take i).drop (j+1))):=by
 have hl:j<(xs.take i).length:=by rw [List.length_take];omega
 have e:xs.getD j ByteArray.empty=(xs.take i)[j]:=by
  rw [List.getD_eq_getElem?_getD,List.getElem_take,List.getElem?_eq_getElem (by omega)];rfl
 rw [List.drop_eq_getElem_cons hl,e]
 simp [qHu]
theorem qSx (rs:List qaa) (hn:rs.length≤16) (i:Nat) (hi:i<rs.length):∀(k j:Nat),j+k=i→qyc rs (i:Int) (j:Int)=if qHu ((names rs).getD i ByteArray.empty) (((names rs).take i).drop j) then some 14 else qFb rs ((i:Int)+1)
 |0,j,e=>by
  have hd:((names rs).take i).drop j=[]:=List.drop_eq_nil_of_le (by rw [List.length_take];omega)
  rw [qXe,if_neg (by simp;omega),hd,w64 (by omega) (by omega)]
  simp [qHu]
 |k+1,j,e=>by
  have hl':Int.ofNat rs.length=(rs.length:Int):=rfl
  have hnl:(names rs).length=rs.length:=by simp [names]
  have ih:=qSx rs hn i hi k (j+1) (by omega)
  rw [show ((j+1:Nat):Int)=(j:Int)+1 by omega] at ih
  rw [qXe,if_pos (by simp;omega),qea (by omega),qea (by rw [hl'];omega),qea (by omega),qea (by rw [hl'];omega),Int.toNat_natCast,Int.toNat_natCast,qDu rs j (by omega),qDu rs i hi,w64 (x:=(j:Int)+1) (by omega) (by omega),ih,qGu (j:=j) (i:=i) (by omega) (by omega),qRF]
  by_cases h:(names rs).getD j ByteArray.empty=(names rs).getD i ByteArray.empty
  ·rw [decide_eq_true h,decide_eq_true h.symm];simp
  ·rw [decide_eq_false h,decide_eq_false (fun e=>h e.symm)];simp
theorem qTx (rs:List qaa) (hn:rs.length≤16):∀(k i:Nat),i+k=rs.length→qFb rs (i:Int)=some (if qJs ((names rs).take i) ((names rs).drop i) then 14 else 0)
 |0,i,e=>by
  have hnl:(names rs).length=rs.length:=by simp [names]
  rw [qYe,if_neg (by simp;omega),List.drop_eq_nil_of_le (by omega)];rfl
 |k+1,i,e=>by
  have hnl:(names rs).length=rs.length:=by simp [names]
  obtain ⟨d1,d2⟩:=qDt (xs:=names rs) (i:=i) (by omega)
  have ih:=qTx rs hn k (i+1) (by omega)
  rw [show ((i+1:Nat):Int)=(i:Int)+1 by omega] at ih
  have h3:=qSx rs hn i (by omega) i 0 (by omega)
  rw [qYe,if_pos (by simp;omega)]
  refine Eq.trans h3 ?_
  rw [ih,List.drop_zero,d1,qJs,←d2]
  cases qHu ((names rs).getD i ByteArray.empty) ((names rs).take i) <;> simp
theorem qOo (rs:List qaa) (hR:RecsOK rs) (hn:rs.length≤16):∀(k i:Nat) (acc:Int),i+k=rs.length→0≤acc→acc≤8192*i→qGb rs acc (i:Int)=some (vld acc (names (rs.take i)) (rs.drop i))
 |0,i,acc,e,a0,a1=>by
  have hl':Int.ofNat rs.length=(rs.length:Int):=rfl
  rw [qZe,if_neg (by simp;omega),List.drop_eq_nil_of_le (by omega),vld,List.take_of_length_le (by omega)]
  by_cases h:acc>8192
  ·rw [if_pos (by simpa using h),if_pos h]
  ·rw [if_neg (by simpa using h),if_neg h]
   exact qTx rs hn rs.length 0 (by omega)
 |k+1,i,acc,e,a0,a1=>by
  have hl':Int.ofNat rs.length=(rs.length:Int):=rfl
  obtain ⟨d1,d2,d3⟩:=qBa (qja qba:qaa) (xs:=rs) (i:=i) (by omega)
  have ih:=fun a h0 h1=>qOo rs hR hn k (i+1) a (by omega) h0 h1
  rw [show ((i+1:Nat):Int)=(i:Int)+1 by omega,d2] at ih
  rw [qZe,if_pos (by simp;omega),qea (by omega),qea (by rw [hl'];omega),Int.toNat_natCast,d1,vld]
  have hnm:names (List.take i rs++[List.getD rs i (qja qba)])=names (List.take i rs)++[(List.getD rs i (qja qba)).1]:=by simp [names]
  rw [hnm] at ih
  generalize hr:(List.getD rs i (qja qba):qaa)=r at d3 ih ⊢
  rw [qZj _ (hR.2 r d3)]
  simp only [Option.bind_some,qrF]
  by_cases h1:qty r.1=true
  ·rw [if_neg (by simp [h1])]
   by_cases h2:r.2.1<0
   ·rw [if_pos (by simpa using h2),if_pos (by simp [qOs,h2])]
   ·rw [if_neg (by simpa using h2)]
    by_cases h3:r.2.1>8192
    ·rw [if_pos (by simpa using h3),if_pos (by simp [qOs,h3])]
    ·rw [if_neg (by simpa using h3)]
     rw [w64 (x:=(i:Int)+1) (by omega) (by omega),w64 (x:=acc+r.2.1) (by omega) (by omega),ih _ (by omega) (by omega)]
     by_cases h4:r.2.1=0
     ·rw [if_pos (by simp [h4])]
      by_cases h5:peq (.arr 20 (.int .u8)) r.2.2.1 (qLg [])=true
      ·rw [if_neg (by simp [h5]),if_neg (by simp [qOs,h1,h4,h5])]
      ·rw [if_pos (by simpa using h5),if_pos (by simp [qOs,h4,h5])]
     ·rw [if_neg (by simpa using h4),if_neg (by simp [qOs,h1,h4];omega)]
  ·rw [if_pos (by simpa using h1),if_pos (by simp [qOs,h1])]
theorem qgp (rs:List qaa) (hR:RecsOK rs):qIf rs=some (qZc rs):=by
 have hl:Int.ofNat rs.length=(rs.length:Int):=rfl
 rw [qFk,hl,qZc]
 by_cases h:rs.length>16
 ·rw [if_pos (by simp;omega),if_pos h]
 ·rw [if_neg (by simp;omega),if_neg h]
  exact qOo rs hR (by omega) rs.length 0 0 (by omega) (by omega) (by omega)
def tot:List qaa→Int
 |[]=>0
 |r::rest=>r.2.1+tot rest
structure RecsV (rs:List qaa):Prop where
 len:rs.length≤16
 each:∀r∈rs,0≤r.2.1∧r.2.1≤8192∧r.1.size≤40
 tot:tot rs≤8192
theorem qOw:∀(rs:List qaa) (acc:Int) (nm:List ByteArray),vld acc nm rs=0→(∀r∈rs,0≤r.2.1∧r.2.1≤8192∧r.1.size≤40)∧acc+tot rs≤8192
 |[],acc,nm,h=>by
  simp only [vld] at h
  by_cases h1:acc>8192
  ·rw [if_pos h1] at h;omega
  ·exact ⟨fun r hr=>(by cases hr),by simp only [tot];omega⟩
 |r::rest,acc,nm,h=>by
  simp only [vld] at h
  by_cases hb:qOs r=true
  ·rw [if_pos hb] at h;omega
  ·rw [if_neg hb] at h
   obtain ⟨h1,h2⟩:=qOw rest _ _ h
   simp only [qOs,qty,Bool.or_eq_true,Bool.not_eq_true',Bool.and_eq_false_iff,decide_eq_true_eq,decide_eq_false_iff_not,not_or] at hb
   refine ⟨fun q hq=>?_,by simp only [tot];omega⟩
   rcases List.mem_cons.1 hq with rfl|hq
   ·have:=hb.1.1.1.2
    exact ⟨by omega,by omega,by omega⟩
   ·exact h1 q hq
theorem qoc {rs:List qaa} (h:qZc rs=0):RecsV rs:=by
 unfold qZc at h
 split at h
 ·omega
 ·obtain ⟨h1,h2⟩:=qOw rs 0 [] h
  exact ⟨by omega,h1,by omega⟩
instance (h:qha):Decidable (hOK h):=by unfold hOK;infer_instance
def isP (h:qha) (p:qia):Prop:=h.2.1=p.1∧h.2.2.1=p.2.1∧h.2.2.2.1=p.2.2.1
instance (h:qha) (p:qia):Decidable (isP h p):=by unfold isP;infer_instance
open Classical
open Classical
abbrev iEq:Int→Int→Bool:=peq (.int .i64)
theorem qvt (a b:Int):iEq a b=true↔a=b:=by simp [peq]
def Rt (m:List (Int×Bool)) (t:List Bool):Prop:=(∀x:Int,(qlp iEq x m).isSome=true↔0≤x∧x<(t.length:Int)∧t.getD x.toNat false=true)∧m.length=t.countP id
theorem qux {α β:Type} {eq:α→α→Bool} (h:∀a b,eq a b=true↔a=b) (x:α) (v:β):∀m:List (α×β),(qEu eq x v m).length=m.length+if (qlp eq x m).isSome then 0 else 1
 |[]=>by simp [qEu,qlp]
 |e::r=>by
  have ih:=qux h x v r
  by_cases hx:eq x e.1=true
  ·have h1:qEu eq x v (e::r)=(x,v)::r:=if_pos hx
   have h2:qlp eq x (e::r)=some e.2:=if_pos hx
   rw [h1,h2];simp
  ·have h1:qEu eq x v (e::r)=e::qEu eq x v r:=if_neg hx
   have h2:qlp eq x (e::r)=qlp eq x r:=if_neg hx
   rw [h1,h2]
   simp only [List.length_cons,ih];omega
theorem qpv:∀(t:List Bool) (i:Nat),i<t.length→(t.set i true).countP id=t.countP id+if t.getD i false then 0 else 1
 |[],i,h=>by simp at h
 |b::t,0,h=>by cases b <;> simp
 |b::t,i+1,h=>by
  have:=qpv t i (by simpa using h)
  simp only [List.set_cons_succ,List.countP_cons,List.getD_cons_succ,this];omega
theorem Rt.set {m:List (Int×Bool)} {t:List Bool} (h:Rt m t) {i:Nat} (hi:i<t.length):Rt (qEu iEq (i:Int) true m) (t.set i true):=by
 refine ⟨fun x=>?_,?_⟩
 ·rw [qGq qvt,List.length_set]
  by_cases hx:x=(i:Int)
  ·rw [if_pos ((qvt _ _).2 hx),hx,Int.toNat_natCast,List.getD_eq_getElem?_getD,List.getElem?_set_self hi]
   simp;omega
  ·rw [if_neg (fun k=>hx ((qvt _ _).1 k)),h.1 x]
   constructor
   ·rintro ⟨a,b,c⟩
    refine ⟨a,b,?_⟩
    rw [List.getD_eq_getElem?_getD,List.getElem?_set_ne (by omega),←List.getD_eq_getElem?_getD];exact c
   ·rintro ⟨a,b,c⟩
    refine ⟨a,b,?_⟩
    rw [List.getD_eq_getElem?_getD,List.getElem?_set_ne (by omega),←List.getD_eq_getElem?_getD] at c;exact c
 ·rw [qux qvt,qpv t i hi,h.2]
  congr 1
  have:=h.1 (i:Int)
  rw [Int.toNat_natCast] at this
  by_cases hs:t.getD i false=true
  ·rw [if_pos (this.2 ⟨by omega,by omega,hs⟩),if_pos hs]
  ·rw [if_neg (fun k=>hs (this.1 k).2.2),if_neg hs]
theorem Rt.nil (n:Nat):Rt [] (List.replicate n false):=by
 refine ⟨fun x=>?_,by simp [List.countP_replicate]⟩
 simp only [qlp,Option.isSome_none,Bool.false_eq_true,false_iff,not_and,List.length_replicate]
 intro _ _
 rw [List.getD_eq_getElem?_getD,List.getElem?_replicate]
 split <;> simp
open Classical
theorem qSw (a:List Int):peq (.arr 20 (.int .u8)) a a=true:=by
 simp only [peq]
 exact qbk (fun y=>by simp) _
def chk (a:qoa):Int:=if 0≤a.1∧a.1≤7∧16≤a.2.1∧a.2.1≤4096 then 0 else 2
theorem qqh (a:qoa):qxi a=some (chk a):=by
 rw [qct,chk]
 by_cases h1:a.1<0
 ·rw [if_pos (by simpa using h1),if_neg (by omega)]
 ·rw [if_neg (by simpa using h1)]
  by_cases h2:a.1>7
  ·rw [if_pos (by simpa using h2),if_neg (by omega)]
  ·rw [if_neg (by simpa using h2)]
   by_cases h3:a.2.1<16
   ·rw [if_pos (by simpa using h3),if_neg (by omega)]
   ·rw [if_neg (by simpa using h3)]
    by_cases h4:a.2.1>4096
    ·rw [if_pos (by simpa using h4),if_neg (by omega)]
    ·rw [if_neg (by simpa using h4),if_pos (by omega)]
theorem qfp (a:qoa):qGf a=some (chk a):=by
 rw [qzk,chk,qDg]
 by_cases h1:a.1<0
 ·rw [if_pos (by simpa using h1),if_neg (by omega)]
 ·rw [if_neg (by simpa using h1)]
  by_cases h2:a.1>7
  ·rw [if_pos (by simpa using h2),if_neg (by omega)]
  ·rw [if_neg (by simpa using h2)]
   by_cases h3:a.2.1≥16
   ·rw [if_pos (by simpa using h3)]
    simp only [Option.bind_some]
    by_cases h4:a.2.1≤4096
    ·rw [if_neg (by simpa using h4),if_pos (by omega)]
    ·rw [if_pos (by simpa using h4),if_neg (by omega)]
   ·rw [if_neg (by simpa using h3)]
    simp only [Option.bind_some]
    rw [if_pos (by simp),if_neg (by omega)]
def ask (a:qoa) (rs:List qaa):Int:=if chk a≠0 then chk a else qZc rs
theorem qoz:∀(rs:List qaa),(∀r∈rs,0≤r.2.1∧r.2.1≤8192∧r.1.size≤40)→0≤tot rs
 |[],_=>by simp [tot]
 |r::rest,h=>by
  have h1:=h r (by simp)
  have h2:=qoz rest (fun q hq=>h q (by simp [hq]))
  simp only [tot];omega
def pcs (i n s:Int):Nat→Int→List qia
 |0,_=>[]
 |k+1,off=>if off<n then (i,(off,((if s<n - off then s else n - off),())))::pcs i n s k (off+s) else []
theorem qWn (i n s:Int) (hs:1≤s):∀(k:Nat) (off:Int),0≤n→off≤n→((pcs i n s k off).length:Int)≤n - off
 |0,off,_,h=>by simp [pcs];omega
 |k+1,off,hn,h=>by
  simp only [pcs]
  by_cases h1:off<n
  ·rw [if_pos h1]
   by_cases h2:off+s≤n
   ·have:=qWn i n s hs k (off+s) hn h2
    simp only [List.length_cons];omega
   ·have:pcs i n s k (off+s)=[]:=by
     cases k with
     |zero=>rfl
     |succ k=>simp only [pcs];rw [if_neg (by omega)]
    rw [this];simp;omega
  ·rw [if_neg h1];simp;omega
def ap (s:Int):Int→List qaa→List qia
 |_,[]=>[]
 |i,r::rest=>pcs i r.2.1 s 8200 0++ap s (i+1) rest
def szs (rs:List qaa):List Int:=rs.map (·.2.1)
theorem qUp (rs:List qaa) (i:Nat) (h:i<rs.length):(szs rs).getD i 0=(rs.getD i (qja qba)).2.1:=by
 unfold szs
 simp only [List.getD_eq_getElem?_getD,List.getElem?_map,List.getElem?_eq_getElem h,Option.map_some,Option.getD_some]
theorem qge (rs:List qaa):(szs rs).length=rs.length:=by simp [szs]
theorem qEB (s i n:Int) (xs:List Int) (v23 v24:Int) (hs:16≤s∧s≤4096) (hn:0≤n∧n≤8192) (k:Nat):∀(off:Int) (h:List qia),n - off≤k→0≤off→off≤13000→(h.length:Int)+(k:Int)≤1000000→
  qmf s i n off xs v23 v24 h=qId s xs v23 (IntKind.wrap .i64 (v24+1)) (h++pcs i n s k off):=by
 induction k with
 |zero=>
  intro off h e h0 h1 hl
  have hc:¬off<n:=by omega
  rw [qPh,if_neg (by simpa using hc)]
  simp only [pcs,List.append_nil]
 |succ k ih=>
  intro off h e h0 h1 hl
  rw [qPh]
  by_cases hc:off<n
  ·rw [if_pos (by simpa using hc),qea (by simp;omega),w64 (x:=n - off) (by omega) (by omega),w64 (x:=off+s) (by omega) (by omega)]
   rw [ih (off+s) _ (by omega) (by omega) (by omega) (by simp;omega)]
   simp only [pcs,if_pos hc,List.append_assoc,List.singleton_append]
  ·rw [if_neg (by simpa using hc)]
   simp only [pcs,if_neg hc,List.append_nil]
theorem qBv (s:Int) (rs:List qaa) (hs:16≤s∧s≤4096) (hR:RecsV rs):∀(k i:Nat) (h:List qia),i+k=rs.length→(h.length:Int)≤8192*i→
  qId s (szs rs) (rs.length:Int) (i:Int) h=some (h++ap s i (rs.drop i),0)
 |0,i,h,e,hl=>by
  rw [qQh,if_neg (by simp;omega),List.drop_eq_nil_of_le (by omega)]
  simp [ap]
 |k+1,i,h,e,hl=>by
  have hlen:=hR.len
  obtain ⟨d1,d2,d3⟩:=qBa (qja qba:qaa) (xs:=rs) (i:=i) (by omega)
  have hl':Int.ofNat (szs rs).length=(rs.length:Int):=by rw [qge];rfl
  have hv:=hR.each _ d3
  rw [qQh,if_pos (by simp;omega),qea (by omega),qea (by rw [hl'];omega),Int.toNat_natCast,qUp rs i (by omega)]
  rw [qEB s i _ (szs rs) _ _ hs ⟨hv.1,hv.2.1⟩ 8200 0 h (by omega) (by omega) (by omega) (by omega),w64 (by omega) (by omega)]
  have hp:=qWn (i:Int) (rs.getD i (qja qba)).2.1 s (by omega) 8200 0 hv.1 hv.1
  have ih:=qBv s rs hs hR k (i+1) (h++pcs (i:Int) (rs.getD i (qja qba)).2.1 s 8200 0) (by omega) (by rw [List.length_append];omega)
  rw [show ((i+1:Nat):Int)=(i:Int)+1 by omega] at ih
  rw [ih,d1,ap,List.append_assoc]
theorem qVx (xs:List Int) (hx:∀x∈xs,0≤x) (hl:xs.length≤1000):∀(k i:Nat),i+k=xs.length→qob xs (xs.length:Int) (i:Int)=some (-1)
 |0,i,e=>by rw [qXc,if_neg (by simp;omega)]
 |k+1,i,e=>by
  have hl':Int.ofNat xs.length=(xs.length:Int):=rfl
  obtain ⟨d1,d2,d3⟩:=qBa (0:Int) (xs:=xs) (i:=i) (by omega)
  have:=hx _ d3
  have ih:=qVx xs hx hl k (i+1) (by omega)
  rw [show ((i+1:Nat):Int)=(i:Int)+1 by omega] at ih
  rw [qXc,if_pos (by simp;omega),qea (by omega),qea (by rw [hl'];omega),Int.toNat_natCast,qep]
  simp only [Option.bind_some]
  rw [if_neg (by simp only [decide_eq_true_eq];omega),w64 (by omega) (by omega),ih]
theorem qLx (rs:List qaa) (hR:RecsV rs):∀(k i:Nat) (acc:Int),i+k=rs.length→0≤acc→acc+tot (rs.drop i)≤8192→qkg acc (szs rs) (rs.length:Int) (i:Int)=some 0
 |0,i,acc,e,h0,h1=>by rw [qui,if_neg (by simp;omega)]
 |k+1,i,acc,e,h0,h1=>by
  have hlen:=hR.len
  have hl':Int.ofNat (szs rs).length=(rs.length:Int):=by rw [qge];rfl
  obtain ⟨d1,d2,d3⟩:=qBa (qja qba:qaa) (xs:=rs) (i:=i) (by omega)
  have hv:=hR.each _ d3
  have ht:=qoz (rs.drop (i+1)) (fun r hr=>hR.each r (List.mem_of_mem_drop hr))
  rw [d1,tot] at h1
  rw [qui,if_pos (by simp;omega),qea (by omega),qea (by rw [hl'];omega),Int.toNat_natCast,qUp rs i (by omega)]
  rw [if_neg (show ¬(8193:Int)<(rs.getD i (qja qba)).2.1 by omega),w64 (by omega) (by omega),if_neg (by simp only [decide_eq_true_eq];omega),w64 (by omega) (by omega)]
  have ih:=qLx rs hR k (i+1) (acc+(rs.getD i (qja qba)).2.1) (by omega) (by omega) (by omega)
  rw [show ((i+1:Nat):Int)=(i:Int)+1 by omega] at ih
  exact ih
theorem qLw (s:Int) (rs:List qaa) (hs:16≤s∧s≤4096) (hR:RecsV rs):qOj (szs rs) s=some (ap s 0 rs,0):=by
 have hlen:=hR.len
 have hl':Int.ofNat (szs rs).length=(rs.length:Int):=by rw [qge];rfl
 have hc:qhm (szs rs)=some 0:=by
  have hi:=qVx (szs rs) (fun x hx=>by
   obtain ⟨r,hr,rfl⟩:=List.mem_map.1 hx
   exact (hR.each r hr).1) (by rw [qge];omega) (szs rs).length 0 (by omega)
  have hi':qQc (szs rs)=some (-1):=by rw [qlh];exact hi
  rw [qOr,qvg,hi']
  simp only [Option.bind_some]
  rw [if_neg (by simp),hl',if_neg (by simp;omega)]
  exact qLx rs hR rs.length 0 0 (by omega) (by omega) (by have:=hR.tot;simp;omega)
 rw [qcq,hc]
 simp only [Option.bind_some]
 rw [if_neg (by simp),if_neg (by simp;omega),if_neg (by simp;omega),hl']
 exact qBv s rs hs hR rs.length 0 [] (by omega) (by simp)
theorem qaA (i n s:Int):∀(k:Nat) (off:Int),(pcs i n s k off).length=(pcs 0 n s k off).length
 |0,off=>rfl
 |k+1,off=>by
  simp only [pcs]
  by_cases h:off<n
  ·rw [if_pos h,if_pos h];simp only [List.length_cons,qaA i n s k]
  ·rw [if_neg h,if_neg h]
def pcn (s:Int) (r:qaa):Int:=((pcs 0 r.2.1 s 8200 0).length:Int)
def qVD (s:Int) (rs:List qaa):List Int:=rs.map (pcn s)
def qUB:List Int→Int
 |[]=>0
 |x::r=>x+qUB r
theorem qrD (s:Int):∀(rs:List qaa) (i:Int),((ap s i rs).length:Int)=qUB (qVD s rs)
 |[],i=>rfl
 |r::rest,i=>by
  have:=qrD s rest (i+1)
  simp only [ap,List.length_append,qVD,List.map_cons,qUB,qaA i,pcn] at this ⊢
  omega
theorem qPE (s:Int) (hs:16≤s) (rs:List qaa) (hR:RecsV rs):∀x∈qVD s rs,0≤x∧x≤9000:=by
 intro x hx
 obtain ⟨r,hr,rfl⟩:=List.mem_map.1 hx
 have hv:=hR.each r hr
 have:=qWn 0 r.2.1 s (by omega) 8200 0 hv.1 hv.1
 unfold pcn
 omega
theorem qNp (s:Int) (hs:16≤s) (rs:List qaa) (hR:RecsV rs):((ap s 0 rs).length:Int)≤100000:=by
 have h1:=qrD s rs 0
 have h2:∀xs:List Int,(∀x∈xs,0≤x∧x≤9000)→qUB xs≤9000*(xs.length:Int):=by
  intro xs
  induction xs with
  |nil=>intro _;simp [qUB]
  |cons x xs ih=>
   intro h
   have:=h x (by simp)
   have:=ih (fun y hy=>h y (by simp [hy]))
   simp only [qUB,List.length_cons];omega
 have h3:=h2 (qVD s rs) (qPE s hs rs hR)
 have h4:=hR.tot
 have h5:∀rs:List qaa,(∀r∈rs,0≤r.2.1∧r.2.1≤8192∧r.1.size≤40)→qUB (qVD s rs)≤tot rs:=by
  intro rs
  induction rs with
  |nil=>intro _;simp [qVD,qUB,tot]
  |cons r rs ih=>
   intro h
   have hv:=h r (by simp)
   have:=ih (fun y hy=>h y (by simp [hy]))
   have hp:=qWn 0 r.2.1 s (by omega) 8200 0 hv.1 hv.1
   simp only [qVD,List.map_cons,qUB,tot,pcn] at this ⊢
   omega
 have:=h5 rs hR.each
 omega
def qqn:List qaa→Int
 |[]=>0
 |r::rest=>23+(r.1.size:Int)+qqn rest
theorem qBx:∀(rs:List qaa),(∀r∈rs,0≤r.2.1∧r.2.1≤8192∧r.1.size≤40)→0≤qqn rs∧qqn rs≤100*(rs.length:Int)
 |[],_=>by simp [qqn]
 |r::rest,h=>by
  have h1:=h r (by simp)
  have h2:=qBx rest (fun q hq=>h q (by simp [hq]))
  simp only [qqn,List.length_cons];omega
def qnu (r:qaa):List Int:=(([IntKind.wrap .u8 (r.1.size:Int)]++qCb r.1)++[IntKind.wrap .u8 (Int.fdiv r.2.1 256),IntKind.wrap .u8 r.2.1])++List.take 20 (List.drop 0 r.2.2.1)
def qtb:List qaa→List Int
 |[]=>[]
 |r::rest=>qnu r++qtb rest
def qkr (a:qoa) (n:Int):List Int:=[66,76,70,1,IntKind.wrap .u8 a.1,IntKind.wrap .u8 (Int.fdiv a.2.1 256),IntKind.wrap .u8 a.2.1,IntKind.wrap .u8 n]
def qlf (a:qoa) (rs:List qaa):List Int:=qkr a rs.length++qtb rs
def qAf (a:qoa) (rs:List qaa):List Int:=qlf a rs++qLg (qlf a rs)
def SumsOK (rs:List qaa):Prop:=∀r∈rs,r.2.2.1.length=20∧Bts r.2.2.1
theorem qAu (s:ByteArray):Bts (qCb s):=by
 intro x hx
 obtain ⟨b,_,rfl⟩:=List.mem_map.1 hx
 have:=b.toNat_lt
 omega
theorem qYi (r:qaa) (h:r.2.2.1.length=20):(qnu r).length=23+r.1.size:=by
 simp only [qnu,List.length_append,List.length_cons,List.length_nil,qxg,List.length_take,List.drop_zero,h]
 omega
theorem qdC (r:qaa) (h:Bts r.2.2.1):Bts (qnu r):=
 Bts.append (Bts.append (Bts.append (Bts.cons (qsE _) Bts.nil) (qAu _)) (Bts.cons (qsE _) (Bts.cons (qsE _) Bts.nil))) ((h.drop 0).take 20)
theorem qoh:∀(rs:List qaa),SumsOK rs→((qtb rs).length:Int)=qqn rs
 |[],_=>rfl
 |r::rest,h=>by
  have h1:=qYi r (h r (by simp)).1
  have h2:=qoh rest (fun q hq=>h q (by simp [hq]))
  simp only [qtb,qqn,List.length_append]
  omega
theorem qmu:∀(rs:List qaa),SumsOK rs→Bts (qtb rs)
 |[],_=>Bts.nil
 |r::rest,h=>(qdC r (h r (by simp)).2).append (qmu rest (fun q hq=>h q (by simp [hq])))
theorem qGy (a:qoa) (n:Int):Bts (qkr a n):=by
 unfold qkr
 repeat first|exact Bts.nil|refine Bts.cons (qsE _) ?_|refine Bts.cons (by omega) ?_
theorem qvv (a:qoa) (rs:List qaa) (h:SumsOK rs):Bts (qlf a rs):=(qGy _ _).append (qmu rs h)
theorem qWu (a:qoa) (rs:List qaa) (h:SumsOK rs):Bts (qAf a rs):=(qvv a rs h).append (qBp _)
theorem qBA (a:qoa) (rs:List qaa) (h:SumsOK rs):((qAf a rs).length:Int)=28+qqn rs:=by
 have:=qoh rs h
 simp only [qAf,qlf,List.length_append,qpf]
 have:(qkr a rs.length).length=8:=rfl
 omega
theorem qRx (rs:List qaa) (hR:RecsV rs) (hS:SumsOK rs):∀(k i:Nat) (h:List Int),i+k=rs.length→(h.length:Int)≤100*i→qtf rs (rs.length:Int) (i:Int) h=some (h++qtb (rs.drop i),0)
 |0,i,h,e,hl=>by
  rw [qXh,if_neg (by simp;omega),List.drop_eq_nil_of_le (by omega)];simp [qtb]
 |k+1,i,h,e,hl=>by
  have hlen:=hR.len
  have hl':Int.ofNat rs.length=(rs.length:Int):=rfl
  obtain ⟨d1,d2,d3⟩:=qBa (qja qba:qaa) (xs:=rs) (i:=i) (by omega)
  have hv:=hR.each _ d3
  have hs:=hS _ d3
  have hb:=qYi _ hs.1
  rw [qXh,if_pos (by simp;omega),qea (by omega),qea (by rw [hl'];omega),Int.toNat_natCast]
  generalize (rs.getD i (qja qba):qaa)=r at*
  have e1:(((h++[IntKind.wrap .u8 (Int.ofNat r.1.size)])++qCb r.1)++[IntKind.wrap .u8 (Int.fdiv r.2.1 256),IntKind.wrap .u8 r.2.1])++List.take 20 (List.drop 0 r.2.2.1)=h++qnu r:=by
   simp only [qnu,List.append_assoc];rfl
  have ho:=qxg r.1
  rw [qea (by simp only [List.length_append,List.length_cons,List.length_nil];omega),qea (by simp only [List.length_append,List.length_cons,List.length_nil];omega),qea (by omega),qea (by simp only [List.length_append,List.length_cons,List.length_nil];omega),e1,qea (by rw [List.length_append];omega),w64 (by omega) (by omega)]
  have ih:=qRx rs hR hS k (i+1) (h++qnu r) (by omega) (by rw [List.length_append];omega)
  rw [show ((i+1:Nat):Int)=(i:Int)+1 by omega] at ih
  rw [ih,d1,qtb,List.append_assoc]
theorem qeo (rs:List qaa) (hR:RecsOK rs) (hS:SumsOK rs):qgk rs=some (if qZc rs≠0 then ([],qZc rs) else (qtb rs,0)):=by
 rw [qKq,qRc rs hR]
 simp only [Option.bind_some]
 by_cases h:qZc rs=0
 ·rw [if_neg (by simp [h]),if_neg (by simp [h])]
  exact qRx rs (qoc h) hS rs.length 0 [] (by omega) (by simp)
 ·rw [if_pos (by simpa using h),if_pos h]
theorem qRl (a:qoa) (rs:List qaa) (hR:RecsOK rs) (hS:SumsOK rs):qfn a rs=some (if ask a rs≠0 then ([],ask a rs) else (qAf a rs,0)):=by
 rw [qxu,qqh,qeo rs hR hS]
 simp only [Option.bind_some]
 by_cases h:chk a=0
 ·rw [if_neg (by simp [h])]
  have ha:ask a rs=qZc rs:=by unfold ask;rw [if_neg (by simp [h])]
  by_cases hv:qZc rs=0
  ·rw [if_neg (show ¬qZc rs≠0 by simp [hv]),if_neg (by simp),if_neg (by rw [ha];simp [hv])]
   have hV:=qoc hv
   have hlen:=hV.len
   have hb:=qBx rs hV.each
   have hr:=qoh rs hS
   have hbl:(qlf a rs).length=8+(qtb rs).length:=by simp only [qlf,List.length_append];rfl
   have e1:[(66:Int),76,70,1,IntKind.wrap .u8 a.1,IntKind.wrap .u8 (Int.fdiv a.2.1 256),IntKind.wrap .u8 a.2.1,IntKind.wrap .u8 (Int.ofNat rs.length)]++qtb rs=qlf a rs:=rfl
   simp only
   rw [qea (by omega),e1,qea (by omega),qOp _ (qvv a rs hS),if_pos (by omega)]
   simp only [Option.bind_some]
   have e2:List.take 20 (List.drop 0 (qLg (qlf a rs)))=qLg (qlf a rs):=by
    rw [List.drop_zero,List.take_of_length_le (by rw [qpf];omega)]
   rw [e2,qea (by rw [List.length_append,qpf];omega)]
   rfl
  ·rw [if_pos hv,if_pos (by simpa using hv),if_pos (by rw [ha];exact hv),ha]
 ·have ha:ask a rs=chk a:=by unfold ask;rw [if_pos h]
  rw [if_pos (by simpa using h),if_pos (by rw [ha];exact h),ha]
theorem qay (rs:List qaa) (hR:RecsV rs) (hS:SumsOK rs):∀(k i:Nat) (h:List Int),i+k=rs.length→(h.length:Int)≤100*i→qCc rs (i:Int) h=some (h++qtb (rs.drop i))
 |0,i,h,e,hl=>by
  have hl':Int.ofNat rs.length=(rs.length:Int):=rfl
  rw [qff,if_neg (by simp;omega),List.drop_eq_nil_of_le (by omega)];simp [qtb]
 |k+1,i,h,e,hl=>by
  have hlen:=hR.len
  have hl':Int.ofNat rs.length=(rs.length:Int):=rfl
  obtain ⟨d1,d2,d3⟩:=qBa (qja qba:qaa) (xs:=rs) (i:=i) (by omega)
  have hv:=hR.each _ d3
  have hs:=hS _ d3
  have hb:=qYi _ hs.1
  rw [qff,if_pos (by simp;omega),qea (by omega),qea (by rw [hl'];omega),Int.toNat_natCast]
  generalize (rs.getD i (qja qba):qaa)=r at*
  have e1:(((h++[IntKind.wrap .u8 (Int.ofNat r.1.size)])++qCb r.1)++[IntKind.wrap .u8 (Int.fdiv r.2.1 256),IntKind.wrap .u8 r.2.1])++List.take 20 (List.drop 0 r.2.2.1)=h++qnu r:=by
   simp only [qnu,List.append_assoc];rfl
  have ho:=qxg r.1
  rw [qea (by simp only [List.length_append,List.length_cons,List.length_nil];omega),qea (by simp only [List.length_append,List.length_cons,List.length_nil];omega),qea (by omega),qea (by simp only [List.length_append,List.length_cons,List.length_nil];omega),e1,qea (by rw [List.length_append];omega),w64 (by omega) (by omega)]
  have ih:=qay rs hR hS k (i+1) (h++qnu r) (by omega) (by rw [List.length_append];omega)
  rw [show ((i+1:Nat):Int)=(i:Int)+1 by omega] at ih
  rw [ih,d1,qtb,List.append_assoc]
theorem qTv (a:qoa) (rs:List qaa) (hR:RecsV rs) (hS:SumsOK rs):qsd a rs=some (qAf a rs):=by
 have hb:=qBx rs hR.each
 have hlen:=hR.len
 have hr:=qoh rs hS
 have hbl:(qlf a rs).length=8+(qtb rs).length:=by simp only [qlf,List.length_append];rfl
 have h1:qMf rs=some (qtb rs):=by
  rw [qIk];exact qay rs hR hS rs.length 0 [] (by omega) (by simp)
 rw [qAk,qyk,qea (by omega),h1]
 simp only [Option.bind_some]
 have e1:[(66:Int),76,70,1,IntKind.wrap .u8 a.1,IntKind.wrap .u8 (Int.fdiv a.2.1 256),IntKind.wrap .u8 a.2.1,IntKind.wrap .u8 (Int.ofNat rs.length)]++qtb rs=qlf a rs:=rfl
 rw [e1,qea (by omega),qJr _ (by omega)]
 simp only [Option.bind_some]
 have e2:List.take 20 (List.drop 0 (qLg (qlf a rs)))=qLg (qlf a rs):=by
  rw [List.drop_zero,List.take_of_length_le (by rw [qpf];omega)]
 rw [e2,qea (by rw [List.length_append,qpf];omega)]
 rfl
theorem qTC (xs:List Int) (hx:∀x∈xs,0≤x) (hl:xs.length≤16):∀(k i:Nat),i+k=xs.length→qxc xs (i:Int)=qEb xs 8192 0
 |0,i,e=>by
  have hl':Int.ofNat xs.length=(xs.length:Int):=rfl
  rw [qWe,hl',if_neg (by simp;omega),if_neg (by simp;omega)]
 |k+1,i,e=>by
  have hl':Int.ofNat xs.length=(xs.length:Int):=rfl
  obtain ⟨d1,d2,d3⟩:=qBa (0:Int) (xs:=xs) (i:=i) (by omega)
  have:=hx _ d3
  have ih:=qTC xs hx hl k (i+1) (by omega)
  rw [show ((i+1:Nat):Int)=(i:Int)+1 by omega] at ih
  rw [qWe,hl',if_pos (by simp;omega),qea (by omega),qea (by omega),Int.toNat_natCast,if_neg (by rw [decide_eq_true_eq];omega),w64 (by omega) (by omega),ih]
theorem qSC (rs:List qaa) (hR:RecsV rs):∀(k i:Nat) (left:Int),i+k=rs.length→left≤8192→tot (rs.drop i)≤left→qEb (szs rs) left (i:Int)=some 0
 |0,i,left,e,h0,h1=>by
  have hl':Int.ofNat (szs rs).length=(rs.length:Int):=by rw [qge];rfl
  rw [qVe,hl',if_neg (by simp;omega)]
 |k+1,i,left,e,h0,h1=>by
  have hlen:=hR.len
  have hl':Int.ofNat (szs rs).length=(rs.length:Int):=by rw [qge];rfl
  obtain ⟨d1,d2,d3⟩:=qBa (qja qba:qaa) (xs:=rs) (i:=i) (by omega)
  have hv:=hR.each _ d3
  have ht:=qoz (rs.drop (i+1)) (fun r hr=>hR.each r (List.mem_of_mem_drop hr))
  rw [d1,tot] at h1
  rw [qVe,hl',if_pos (by simp;omega),qea (by omega),qea (by omega),Int.toNat_natCast,qUp rs i (by omega),if_neg (by rw [decide_eq_true_eq];omega),qea (by omega),qea (by omega),w64 (x:=(i:Int)+1) (by omega) (by omega),w64 (by omega) (by omega)]
  have ih:=qSC rs hR k (i+1) (left - (rs.getD i (qja qba)).2.1) (by omega) (by omega) (by omega)
  rw [show ((i+1:Nat):Int)=(i:Int)+1 by omega] at ih
  exact ih
theorem qCD (s:Int) (rs:List qaa) (hs:16≤s∧s≤4096) (hl:rs.length≤16) (i:Nat) (hi:i<rs.length) (hn:0≤(rs.getD i (qja qba)).2.1∧(rs.getD i (qja qba)).2.1≤8192) (k:Nat):∀(off:Int) (h:List qia),(rs.getD i (qja qba)).2.1 - off≤k→0≤off→off≤13000→(h.length:Int)+(k:Int)≤1000000→
  qhc (szs rs) s (i:Int) off h=qub (szs rs) s ((i:Int)+1) (h++pcs (i:Int) (rs.getD i (qja qba)).2.1 s k off):=by
 have hl':Int.ofNat (szs rs).length=(rs.length:Int):=by rw [qge];rfl
 induction k with
 |zero=>
  intro off h e h0 h1 h2
  have hc:¬off<(rs.getD i (qja qba)).2.1:=by omega
  rw [qve,hl',qea (by omega),qea (by omega),Int.toNat_natCast,qUp rs i hi,if_neg (by simpa using hc),w64 (by omega) (by omega)]
  simp only [pcs,List.append_nil]
 |succ k ih=>
  intro off h e h0 h1 h2
  rw [qve,hl',qea (by omega),qea (by omega),Int.toNat_natCast,qUp rs i hi]
  by_cases hc:off<(rs.getD i (qja qba)).2.1
  ·have hm:(if (rs.getD i (qja qba)).2.1 - off<s then (rs.getD i (qja qba)).2.1 - off else s)=(if s<(rs.getD i (qja qba)).2.1 - off then s else (rs.getD i (qja qba)).2.1 - off):=by
    split <;> split <;> omega
   rw [if_pos (by simpa using hc),qea (by omega),qea (by omega),w64 (x:=(rs.getD i (qja qba)).2.1 - off) (by omega) (by omega),hm,qea (by rw [List.length_append];simp only [List.length_cons,List.length_nil];omega),w64 (x:=off+s) (by omega) (by omega)]
   rw [ih (off+s) _ (by omega) (by omega) (by omega) (by rw [List.length_append];simp only [List.length_cons,List.length_nil];omega)]
   simp only [pcs,if_pos hc,List.append_assoc,List.singleton_append]
  ·rw [if_neg (by simpa using hc),w64 (by omega) (by omega)]
   simp only [pcs,if_neg hc,List.append_nil]
theorem qEz (s:Int) (rs:List qaa) (hs:16≤s∧s≤4096) (hR:RecsV rs):∀(k i:Nat) (h:List qia),i+k=rs.length→(h.length:Int)≤8192*i→qub (szs rs) s (i:Int) h=some (h++ap s (i:Int) (rs.drop i))
 |0,i,h,e,hl=>by
  have hl':Int.ofNat (szs rs).length=(rs.length:Int):=by rw [qge];rfl
  rw [qwe,hl',if_neg (by simp;omega),List.drop_eq_nil_of_le (by omega)];simp [ap]
 |k+1,i,h,e,hl=>by
  have hlen:=hR.len
  have hl':Int.ofNat (szs rs).length=(rs.length:Int):=by rw [qge];rfl
  obtain ⟨d1,d2,d3⟩:=qBa (qja qba:qaa) (xs:=rs) (i:=i) (by omega)
  have hv:=hR.each _ d3
  have hp:=qWn (i:Int) (rs.getD i (qja qba)).2.1 s (by omega) 8200 0 hv.1 hv.1
  have e2:=qCD s rs hs hlen i (by omega) ⟨hv.1,hv.2.1⟩ 8200 0 h (by omega) (by omega) (by omega) (by omega)
  rw [qwe,hl',if_pos (by simp;omega),e2]
  have ih:=qEz s rs hs hR k (i+1) (h++pcs (i:Int) (rs.getD i (qja qba)).2.1 s 8200 0) (by omega) (by rw [List.length_append];omega)
  rw [show ((i+1:Nat):Int)=(i:Int)+1 by omega] at ih
  rw [ih,d1,ap,List.append_assoc]
theorem qVn (s:Int) (rs:List qaa) (hs:16≤s∧s≤4096) (hR:RecsV rs):qNe (szs rs) s=some (ap s 0 rs,0):=by
 have hlen:=hR.len
 have hz:qtd (szs rs)=some 0:=by
  have h1:=qTC (szs rs) (fun x hx=>by
   obtain ⟨r,hr,rfl⟩:=List.mem_map.1 hx
   exact (hR.each r hr).1) (by rw [qge];omega) (szs rs).length 0 (by omega)
  have h2:=qSC rs hR rs.length 0 8192 (by omega) (by omega) (by have:=hR.tot;simpa using this)
  rw [qCk]
  exact h1.trans h2
 have hp:qMe (szs rs) s=some (ap s 0 rs):=by
  rw [qDj]
  exact qEz s rs hs hR rs.length 0 [] (by omega) (by simp)
 rw [qEj,hz,qDg,if_pos (by simp;omega),hp]
 simp only [Option.bind_some]
 rw [if_neg (by simp),if_neg (by simp;omega)]
instance (h:qha):Decidable (hOK h):=by unfold hOK;infer_instance
theorem qVl (a:qoa) (rs:List qaa) (hs:16≤a.2.1∧a.2.1≤4096) (hR:RecsV rs):∀(k i:Nat),i+k=rs.length→qog rs (rs.length:Int) (i:Int) a (szs (rs.take i))=some (ap a.2.1 0 rs)
 |0,i,e=>by
  rw [qCi,if_neg (by simp;omega),List.take_of_length_le (by omega),qLw _ rs hs hR];rfl
 |k+1,i,e=>by
  have hlen:=hR.len
  have hl':Int.ofNat rs.length=(rs.length:Int):=rfl
  obtain ⟨d1,d2,d3⟩:=qBa (qja qba:qaa) (xs:=rs) (i:=i) (by omega)
  have hz:szs (List.take i rs)++[(List.getD rs i (qja qba)).2.1]=szs (List.take (i+1) rs):=by rw [d2];simp [szs]
  have ih:=qVl a rs hs hR k (i+1) (by omega)
  rw [show ((i+1:Nat):Int)=(i:Int)+1 by omega] at ih
  rw [qCi,if_pos (by simp;omega),qea (by omega),qea (by rw [hl'];omega),Int.toNat_natCast,hz,qea (by rw [qge,List.length_take];omega),w64 (by omega) (by omega),ih]
theorem qtj (a:qoa) (rs:List qaa) (hs:16≤a.2.1∧a.2.1≤4096) (hR:RecsV rs):qfj a rs=some (ap a.2.1 0 rs):=by
 rw [qZr];exact qVl a rs hs hR rs.length 0 (by omega)
theorem qBs (a:qoa) (rs:List qaa) (hs:16≤a.2.1∧a.2.1≤4096) (hR:RecsV rs):∀(k i:Nat),i+k=rs.length→qfc rs (i:Int) a (szs (rs.take i))=some (ap a.2.1 0 rs)
 |0,i,e=>by
  have hl':Int.ofNat rs.length=(rs.length:Int):=rfl
  rw [qte,if_neg (by simp;omega),List.take_of_length_le (by omega),qVn _ rs hs hR];rfl
 |k+1,i,e=>by
  have hlen:=hR.len
  have hl':Int.ofNat rs.length=(rs.length:Int):=rfl
  obtain ⟨d1,d2,d3⟩:=qBa (qja qba:qaa) (xs:=rs) (i:=i) (by omega)
  have hz:szs (List.take i rs)++[(List.getD rs i (qja qba)).2.1]=szs (List.take (i+1) rs):=by rw [d2];simp [szs]
  have ih:=qBs a rs hs hR k (i+1) (by omega)
  rw [show ((i+1:Nat):Int)=(i:Int)+1 by omega] at ih
  rw [qte,if_pos (by simp;omega),qea (by omega),qea (by rw [hl'];omega),Int.toNat_natCast,hz,qea (by rw [qge,List.length_take];omega),w64 (by omega) (by omega),ih]
theorem qou (a:qoa) (rs:List qaa) (hs:16≤a.2.1∧a.2.1≤4096) (hR:RecsV rs):qKe a rs=some (ap a.2.1 0 rs):=by
 rw [qBj];exact qBs a rs hs hR rs.length 0 (by omega)
theorem qwr {a:qoa} (h:chk a=0):16≤a.2.1∧a.2.1≤4096:=by
 unfold chk at h
 split at h <;> omega
instance (h:qha) (p:qia):Decidable (isP h p):=by unfold isP;infer_instance
theorem qTo (h:qha) (p:qia):qmt h p=some (decide (isP h p)):=by
 rw [qzy]
 congr 1
 simp only [peq,Bool.and_true]
 rw [Bool.eq_iff_iff,decide_eq_true_eq]
 simp only [Bool.and_eq_true,decide_eq_true_eq]
 exact Iff.rfl
theorem qXs (h:qha) (p:qia):qDh h p=some (decide (isP h p)):=by
 rw [qGn]
 unfold isP
 by_cases h1:h.2.1=p.1 <;> by_cases h2:h.2.2.1=p.2.1 <;> by_cases h3:h.2.2.2.1=p.2.2.1 <;> simp [h1,h2,h3]
def ckL:List qha→List qia→Int
 |h::hs,p::ps=>if hOK h∧isP h p then ckL hs ps else 8
 |_,_=>0
def lck (l:qua):Int:=
 if chk l.1≠0 then 8 else if qZc l.2.1≠0 then 8 else if (ap l.1.2.1 0 l.2.1).length≠l.2.2.1.length then 8 else ckL l.2.2.1 (ap l.1.2.1 0 l.2.1)
theorem qSu (hs:List qha) (ps:List qia) (hl:hs.length=ps.length) (hb:hs.length≤1000000):∀(k i:Nat),i+k=hs.length→qYg hs (hs.length:Int) (i:Int) ps=some (ckL (hs.drop i) (ps.drop i))
 |0,i,e=>by
  rw [qvj,if_neg (by simp;omega),List.drop_eq_nil_of_le (by omega)];rfl
 |k+1,i,e=>by
  have hl':Int.ofNat hs.length=(hs.length:Int):=rfl
  have hl2:Int.ofNat ps.length=(ps.length:Int):=rfl
  obtain ⟨d1,d2,d3⟩:=qBa (qja qka:qha) (xs:=hs) (i:=i) (by omega)
  obtain ⟨p1,p2,p3⟩:=qBa (qja qca:qia) (xs:=ps) (i:=i) (by omega)
  have ih:=qSu hs ps hl hb k (i+1) (by omega)
  rw [show ((i+1:Nat):Int)=(i:Int)+1 by omega] at ih
  rw [qvj,if_pos (by simp;omega),qea (by omega),qea (by rw [hl'];omega),Int.toNat_natCast,Nat.zero_add,qZd]
  simp only [Option.bind_some,qDA]
  rw [d1,p1,ckL]
  generalize hs.getD i (qja qka)=h0
  generalize ps.getD i (qja qca)=p0
  by_cases h1:hOK h0
  ·rw [if_neg (by simpa using h1),qea (by omega),qea (by rw [hl2];omega),qTo]
   simp only [Option.bind_some]
   by_cases h2:isP h0 p0
   ·rw [if_neg (by simp [h2]),if_pos ⟨h1,h2⟩,w64 (by omega) (by omega),ih]
   ·rw [if_pos (by simp [h2]),if_neg (fun h=>h2 h.2)]
  ·rw [if_pos h1,if_neg (fun h=>h1 h.1)]
theorem qXq (l:qua) (hR:RecsOK l.2.1):qko l=some (lck l):=by
 rw [qpt,qqh,qRc _ hR]
 simp only [Option.bind_some,lck]
 by_cases hc:chk l.1=0
 ·rw [if_neg (by simp [hc]),if_neg (show ¬chk l.1≠0 by simp [hc])]
  by_cases hv:qZc l.2.1=0
  ·have h16:=qwr hc
   have hV:=qoc hv
   rw [if_neg (by simp [hv]),if_neg (show ¬qZc l.2.1≠0 by simp [hv]),qtj l.1 l.2.1 h16 hV]
   simp only [Option.bind_some]
   have hsm:=qNp l.1.2.1 h16.1 l.2.1 hV
   by_cases hl:(ap l.1.2.1 0 l.2.1).length=l.2.2.1.length
   ·rw [if_neg (by simp [hl]),if_neg (show ¬(ap l.1.2.1 0 l.2.1).length≠l.2.2.1.length by simp [hl])]
    exact qSu l.2.2.1 _ hl.symm (by omega) l.2.2.1.length 0 (by omega)
   ·rw [if_pos (by simp;omega),if_pos hl]
  ·rw [if_pos (by simpa using hv),if_pos hv]
 ·rw [if_pos (by simpa using hc),if_pos hc]
theorem qKx:∀(hs:List qha) (ps:List qia),hs.length=ps.length→ckL hs ps=0→∀h∈hs,hOK h
 |[],_,_,_,h,hh=>by cases hh
 |h::hs,[],hl,_,_,_=>by simp at hl
 |h::hs,p::ps,hl,hc,x,hx=>by
  simp only [ckL] at hc
  split at hc
  ·rename_i hok
   rcases List.mem_cons.1 hx with rfl|hx
   ·exact hok.1
   ·exact qKx hs ps (by simpa using hl) hc x hx
  ·omega
structure LstV (l:qua):Prop where
 blk:16≤l.1.2.1∧l.1.2.1≤4096
 chk:chk l.1=0
 val:qZc l.2.1=0
 recs:RecsV l.2.1
 len:l.2.2.1.length=(ap l.1.2.1 0 l.2.1).length
 hds:∀h∈l.2.2.1,hOK h
 ck:ckL l.2.2.1 (ap l.1.2.1 0 l.2.1)=0
theorem qtC {l:qua} (h:lck l=0):LstV l:=by
 unfold lck at h
 split at h
 ·omega
 ·rename_i hc
  split at h
  ·omega
  ·rename_i hv
   split at h
   ·omega
   ·rename_i hl
    simp only [ne_eq,Decidable.not_not] at hc hv hl
    exact ⟨qwr hc,hc,hv,qoc hv,hl.symm,qKx _ _ hl.symm h,h⟩
theorem qQE {l:qua}:lck l=0∨lck l=8:=by
 have h:∀hs ps,ckL hs ps=0∨ckL hs ps=8:=by
  intro hs
  induction hs with
  |nil=>intro ps;left;rfl
  |cons x xs ih=>
   intro ps
   cases ps with
   |nil=>left;rfl
   |cons p ps=>simp only [ckL];split;exact ih ps;right;rfl
 unfold lck
 split;right;rfl
 split;right;rfl
 split;right;rfl
 exact h _ _
def plc:Int→List qha→List Int
 |_,[]=>[]
 |at_,h::r=>at_::plc (at_+(41+h.2.2.2.2.1)) r
theorem qvC {h:qha} (ok:hOK h):1≤h.2.2.2.2.1∧h.2.2.2.2.1≤4096:=by unfold hOK at ok;omega
theorem qGs (hs:List qha) (hh:∀h∈hs,hOK h) (hb:hs.length≤1000000):∀(k i:Nat) (at_:Int) (out:List Int),i+k=hs.length→0≤at_→at_≤100000+5000*i→out.length=i→qpg at_ hs (hs.length:Int) (i:Int) out=some (out++plc at_ (hs.drop i),0)
 |0,i,at_,out,e,h0,h1,ho=>by
  rw [qDi,if_neg (by simp;omega),List.drop_eq_nil_of_le (by omega)];simp [plc]
 |k+1,i,at_,out,e,h0,h1,ho=>by
  have hl':Int.ofNat hs.length=(hs.length:Int):=rfl
  obtain ⟨d1,d2,d3⟩:=qBa (qja qka:qha) (xs:=hs) (i:=i) (by omega)
  have hv:=qvC (hh _ d3)
  have ih:=qGs hs hh hb k (i+1) (at_+(41+(hs.getD i (qja qka)).2.2.2.2.1)) (out++[at_]) (by omega) (by omega) (by omega) (by simp;omega)
  rw [show ((i+1:Nat):Int)=(i:Int)+1 by omega] at ih
  rw [qDi,if_pos (by simp;omega),qea (by omega),qea (by rw [hl'];omega),qea (by simp only [List.length_append,List.length_cons,List.length_nil];omega),Int.toNat_natCast,w64 (x:=41+_) (by omega) (by omega),w64 (x:=(i:Int)+1) (by omega) (by omega),w64 (by omega) (by omega),ih,d1,plc,List.append_assoc]
  rfl
def qru (l:qua):List Int:=plc (28+qqn l.2.1) l.2.2.1
theorem quj (l:qua) (hR:RecsOK l.2.1) (hS:SumsOK l.2.1):quh l=some (if lck l=0 then (qru l,0) else ([],8)):=by
 rw [qas,qXq l hR]
 simp only [Option.bind_some]
 rcases qQE (l:=l) with h|h
 ·have hL:=qtC h
  have hsm:=qNp l.1.2.1 hL.blk.1 l.2.1 hL.recs
  have hb:=qBx l.2.1 hL.recs.each
  have hlen:=hL.recs.len
  have hll:=hL.len
  rw [if_neg (by simp [h]),if_pos h,qRl _ _ hR hS]
  have ha:ask l.1 l.2.1=0:=by unfold ask;rw [if_neg (by simp [hL.chk]),hL.val]
  rw [ha,if_neg (by simp)]
  simp only [Option.bind_some]
  have hh:=qBA l.1 l.2.1 hS
  have hh':Int.ofNat (qAf l.1 l.2.1).length=28+qqn l.2.1:=hh
  rw [hh']
  exact qGs l.2.2.1 hL.hds (by omega) l.2.2.1.length 0 _ [] (by omega) (by omega) (by omega) rfl
 ·rw [if_pos (by simp [h]),h,if_neg (by decide)]
theorem qnx {x y:Int} (hx:0≤x∧x<4294967296) (hy:0≤y∧y<256):qHc .i64 (x*256) y=x*256+y:=by
 obtain ⟨a,rfl⟩:=Int.eq_ofNat_of_zero_le hx.1
 obtain ⟨b,rfl⟩:=Int.eq_ofNat_of_zero_le hy.1
 exact qmx a b (by omega) (by omega)
theorem qRo (v0:List Int) (hl:v0.length=28) (b8:qha) (m mem off raw len:Int):∀(d n:Nat) (S:List Int),20 - n=d→n≤20→S.length=20→S.take n=(v0.drop 8).take n→
  qDc v0 (n:Int) b8 (m,(mem,(off,(raw,(len,(S,()))))))=some (if hOK (m,(mem,(off,(raw,(len,(v0.drop 8,())))))) then ((m,(mem,(off,(raw,(len,(v0.drop 8,())))))),0) else (zH,12))
 |0,n,S,hd,hn,hS,ht=>by
  have hS':S=v0.drop 8:=by
   rw [List.take_of_length_le (by omega),List.take_of_length_le (by simp;omega)] at ht;exact ht
  subst hS'
  rw [qgf,if_neg (by simp;omega),qqj]
  simp only [Option.bind_some,qDA]
  by_cases ok:hOK (m,(mem,(off,(raw,(len,(v0.drop 8,()))))))
  ·rw [if_neg (by simpa using ok),if_pos ok]
  ·rw [if_pos ok,if_neg ok];rfl
 |d+1,n,S,hd,hn,hS,ht=>by
  rw [qgf,if_pos (by simp;omega),w64 (x:=8+(n:Int)) (by omega) (by omega),qea (by omega),qea (by simp only [Int.ofNat_eq_natCast];omega),qea (by omega),qea (by omega),w64 (x:=(n:Int)+1) (by omega) (by omega)]
  have e1:Int.toNat (8+(n:Int))=8+n:=by omega
  simp only [e1,Int.toNat_natCast]
  have:=qRo v0 hl b8 m mem off raw len d (n+1) (S.set n (v0.getD (8+n) 0)) (by omega) (by omega) (by simpa using hS) (by
   rw [qPm _ _ _ (by omega),ht,List.take_succ_eq_append_getElem (by simp;omega)]
   have h8:8+n<v0.length:=by omega
   simp [List.getD_eq_getElem?_getD,h8])
  exact this
theorem qip (a:List Int) (hb:Bts a):qPf a=some (pP a):=by
 rw [qNk]
 by_cases hl:a.length=28
 ·rw [if_neg (by simp [hl])]
  repeat rw [qea (by first|decide|(simp only [Int.ofNat_eq_natCast];omega))]
  have h1:=hb.getD 1;have h2:=hb.getD 2;have h3:=hb.getD 3;have h4:=hb.getD 4;have h5:=hb.getD 5;have h6:=hb.getD 6;have h7:=hb.getD 7
  rw [w64 (x:=a.getD 1 0) (by omega) (by omega),w64 (x:=a.getD 2 0) (by omega) (by omega),w64 (x:=a.getD 3 0) (by omega) (by omega),w64 (x:=a.getD 4 0) (by omega) (by omega),w64 (x:=a.getD 5 0) (by omega) (by omega),w64 (x:=a.getD 6 0) (by omega) (by omega),w64 (x:=a.getD 7 0) (by omega) (by omega)]
  rw [w64 (x:=a.getD 2 0*256) (by omega) (by omega),w64 (x:=a.getD 4 0*256) (by omega) (by omega),w64 (x:=a.getD 6 0*256) (by omega) (by omega)]
  rw [w64 (x:=a.getD 2 0*256+a.getD 3 0) (by omega) (by omega),w64 (x:=a.getD 4 0*256+a.getD 5 0) (by omega) (by omega),w64 (x:=a.getD 6 0*256+a.getD 7 0) (by omega) (by omega)]
  have:=qRo a hl zH (a.getD 0 0) (a.getD 1 0) (a.getD 2 0*256+a.getD 3 0) (a.getD 4 0*256+a.getD 5 0) (a.getD 6 0*256+a.getD 7 0) 20 0 (List.replicate 20 0) rfl (by omega) (by simp) (by simp)
  refine Eq.trans this ?_
  show some (if hOK (pH a) then (pH a,(0:Int)) else (zH,12))=_
  unfold pP
  by_cases ok:hOK (pH a)
  ·rw [if_pos (show hOK (pH a) from ok),if_pos ⟨hl,ok⟩]
  ·rw [if_neg (show ¬hOK (pH a) from ok),if_neg (fun h=>ok h.2)]
 ·rw [if_pos (by simp;omega)]
  unfold pP
  rw [if_neg (fun h=>hl h.1)];rfl
theorem qVp (v0:List Int) (h1:41≤v0.length) (h2:v0.length≤50000):∀(d n:Nat),13 - n=d→n≤13→qic v0 0 (n:Int) mark=some (decide ((v0.drop n).take (13 - n)=mark.drop n))
 |0,n,hd,hn=>by
  have:n=13:=by omega
  subst this
  rw [qxe,if_neg (by decide)]
  simp [mark]
 |d+1,n,hd,hn=>by
  have hlt:n<v0.length:=by omega
  have hm:n<mark.length:=by rw [qvf];omega
  rw [qxe,if_pos (by simp;omega),w64 (x:=0+(n:Int)) (by omega) (by omega),qea (by omega),qea (by simp only [Int.ofNat_eq_natCast];omega),qea (by omega),qea (by simp only [Int.ofNat_eq_natCast];omega),w64 (x:=(n:Int)+1) (by omega) (by omega)]
  have e1:Int.toNat (0+(n:Int))=n:=by omega
  have ih:=qVp v0 h1 h2 d (n+1) (by omega) (by omega)
  simp only [Int.natCast_add,show ((1:Nat):Int)=1 from rfl] at ih
  simp only [e1,Int.toNat_natCast,Nat.zero_add]
  rw [ih]
  have g1:v0.getD n 0=v0[n]:=by simp [List.getD_eq_getElem?_getD,hlt]
  have g2:mark.getD n 0=mark[n]:=by simp [List.getD_eq_getElem?_getD,hm]
  rw [g1,g2,List.drop_eq_getElem_cons hlt,List.drop_eq_getElem_cons hm,show 13 - n=(13 - (n+1))+1 by omega,List.take_succ_cons]
  by_cases he:v0[n]=mark[n]
  ·rw [if_neg (by simp [he]),he]
   congr 1
   rw [decide_eq_decide]
   exact ⟨fun h=>by rw [h],fun h=>(List.cons.inj h).2⟩
  ·rw [if_pos (by simpa using he)]
   have:¬(v0[n]::List.take (13 - (n+1)) (List.drop (n+1) v0)=mark[n]::List.drop (n+1) mark):=fun h=>he (List.cons.inj h).1
   rw [decide_eq_false this]
theorem qKw (a:List Int) (h1:41≤a.length) (h2:a.length≤50000):qPe a 0=some (decide (a.take 13=mark)):=by
 rw [qHj,qrj]
 simp only [Option.bind_some]
 rw [if_neg (by decide),if_neg (by simp),if_neg (by simp only [decide_eq_true_eq,Int.ofNat_eq_natCast];rw [w64 (by omega) (by omega)];omega)]
 have:=qVp a h1 h2 13 0 rfl (by omega)
 rw [show ((0:Nat):Int)=0 from rfl] at this
 rw [this]
 rfl
theorem qvp (xs:List Int) (h:xs.length≤1000000):qCh xs=some xs:=by
 rw [qfm]
 refine qDr false (by simp) (fun b hb=>?_)
 cases b with
 |true=>rw [if_pos rfl,hb rfl]
 |false=>rw [if_neg (by simp),qea (by simp;omega)];simp
def rdB (a:List Int):qda×Int×Int:=
 if a.length>50000 then ((zH,([],())),(0,4)) else if a.length<41 then ((zH,([],())),(0,18))
 else if a.take 13≠mark∨¬hOK (pH ((a.drop 13).take 28)) then ((zH,([],())),(0,12))
 else if (a.length:Int)<41+(pH ((a.drop 13).take 28)).2.2.2.2.1 then ((zH,([],())),(0,18))
 else ((pH ((a.drop 13).take 28),((a.drop 41).take (pH ((a.drop 13).take 28)).2.2.2.2.1.toNat,())),(41+(pH ((a.drop 13).take 28)).2.2.2.2.1,0))
theorem qzo (a:List Int) (hb:Bts a):qMi a=some (rdB a):=by
 rw [qEn]
 unfold rdB
 by_cases h1:a.length>50000
 ·rw [if_pos (by simp;omega),if_pos h1];rfl
 rw [if_neg (by simp;omega),if_neg h1]
 by_cases h2:a.length<41
 ·rw [if_pos (by simp;omega),if_pos h2];rfl
 rw [if_neg (by simp;omega),if_neg h2,qea (by decide),qea (by decide),qea (by simp only [Int.ofNat_eq_natCast];omega),qEi _ ((hb.drop _).take _),qQD a (by omega),qTl a hb (by omega) (by omega)]
 simp only [Option.bind_some]
 by_cases h3:a.take 13=mark
 ·by_cases ok:hOK (pH ((a.drop 13).take 28))
  ·have hlen:=qxh ok
   rw [if_pos ok,if_neg (by simp [h3]),if_neg (by simp),if_neg (show ¬(a.take 13≠mark∨¬hOK (pH ((a.drop 13).take 28))) from fun h=>h.elim (fun h=>h h3) (fun h=>h ok))]
   generalize pH ((a.drop 13).take 28)=h at ok hlen ⊢
   simp only
   rw [w64 (x:=41+h.2.2.2.2.1) (by omega) (by omega)]
   by_cases h4:(a.length:Int)<41+h.2.2.2.2.1
   ·rw [if_pos (by simpa using h4),if_pos h4];rfl
   ·rw [if_neg (by simpa using h4),if_neg h4,qea (by decide),qea (by omega),qea (by simp only [Int.ofNat_eq_natCast];omega),qvp _ (by simp;omega)]
    have e:Int.toNat (41+h.2.2.2.2.1) - 41=h.2.2.2.2.1.toNat:=by omega
    simp only [Option.bind_some,e]
  ·rw [if_neg ok,if_neg (by simp [h3]),if_pos (by simp),if_pos (show (a.take 13≠mark∨¬hOK (pH ((a.drop 13).take 28))) from .inr ok)];rfl
 ·rw [if_pos (by simp [h3]),if_pos (show (a.take 13≠mark∨¬hOK (pH ((a.drop 13).take 28))) from .inl h3)];rfl
theorem qoq (a:List Int) (hb:Bts a):qgg a=some (rdB a):=by
 rw [qBl]
 unfold rdB
 by_cases h1:a.length>50000
 ·rw [if_pos (by simp;omega),if_pos h1];rfl
 rw [if_neg (by simp;omega),if_neg h1,qGj]
 by_cases h2:a.length<41
 ·rw [if_pos (by simp;omega),if_pos h2];rfl
 rw [if_neg (by simp;omega),if_neg h2,qea (by decide),qea (by decide),qea (by simp only [Int.ofNat_eq_natCast];omega),qip _ ((hb.drop _).take _),qQD a (by omega),qKw a (by omega) (by omega)]
 simp only [Option.bind_some]
 by_cases h3:a.take 13=mark
 ·by_cases ok:hOK (pH ((a.drop 13).take 28))
  ·have hlen:=qxh ok
   rw [if_pos ok,if_neg (by simp [h3]),if_neg (by simp),if_neg (show ¬(a.take 13≠mark∨¬hOK (pH ((a.drop 13).take 28))) from fun h=>h.elim (fun h=>h h3) (fun h=>h ok))]
   generalize pH ((a.drop 13).take 28)=h at ok hlen ⊢
   simp only [Int.ofNat_eq_natCast,decide_eq_true_eq]
   rw [w64 (x:=41+h.2.2.2.2.1) (by omega) (by omega),w64 (x:=(a.length:Int) - 41) (by omega) (by omega)]
   by_cases h4:(a.length:Int)<41+h.2.2.2.2.1
   ·rw [if_pos (by omega),if_pos h4];rfl
   ·rw [if_neg (by omega),if_neg h4,qea (by decide),qea (by omega),qea (by omega),qea (by simp;omega)]
    have e:Int.toNat (41+h.2.2.2.2.1) - 41=h.2.2.2.2.1.toNat:=by omega
    simp only [Option.bind_some,e,List.nil_append]
  ·rw [if_neg ok,if_neg (by simp [h3]),if_pos (by simp),if_pos (show (a.take 13≠mark∨¬hOK (pH ((a.drop 13).take 28))) from .inr ok)];rfl
 ·rw [if_pos (by simp [h3]),if_pos (show (a.take 13≠mark∨¬hOK (pH ((a.drop 13).take 28))) from .inl h3)];rfl
def rK (a:List Int) (p:Nat):Nat:=(a.getD p 0).toNat
def rF (a:List Int) (p:Nat):Prop:=p<a.length∧p+1+rK a p+22≤a.length
instance (a:List Int) (p:Nat):Decidable (rF a p):=by unfold rF;infer_instance
def rR (a:List Int) (p:Nat):qaa:=
 (qPb ((a.drop (p+1)).take (rK a p)),(a.getD (p+1+rK a p) 0*256+a.getD (p+2+rK a p) 0,((a.drop (p+3+rK a p)).take 20,())))
def qYs (a:List Int):Nat→Nat→List qaa→List qaa×Int×Int
 |0,p,acc=>if qZc acc≠0 then ([],(0,12)) else (acc,((p:Int),0))
 |n+1,p,acc=>if rF a p then qYs a n (p+rK a p+23) (acc++[rR a p]) else ([],(0,18))
theorem qqy {a:List Int} (hb:Bts a) (p:Nat):a.getD p 0=(rK a p:Int)∧rK a p<256:=by
 have:=hb.getD p
 unfold rK;omega
theorem qQs (a:List Int) (p n i:Nat) (h:i<n):((a.drop p).take n).getD i 0=a.getD (p+i) 0:=by
 simp only [List.getD_eq_getElem?_getD,List.getElem?_take,List.getElem?_drop,if_pos h]
theorem qOm (a:List Int) (hl:a.length≤100000) (p n:Nat) (hp:p≤a.length) (hn:n≤1000):
  qLb (n:Int) ((a,((p:Int),())),())=some (if p+n≤a.length then ((a.drop p).take n,(none,((a,(((p+n:Nat):Int),())),()))) else ([],(some 18,((a,((p:Int),())),())))):=by
 have hl':Int.ofNat a.length=(a.length:Int):=rfl
 rw [qfk]
 simp only [hl']
 rw [w64 (x:=(a.length:Int) - p) (by omega) (by omega),w64 (x:=(p:Int)+n) (by omega) (by omega),w64 (x:=(p:Int)+n - n) (by omega) (by omega)]
 by_cases h:p+n≤a.length
 ·have e1:((p:Int)+n).toNat=p+n:=by omega
  have e2:((p:Int)+n - n).toNat=p:=by omega
  rw [if_neg (by simp;omega),qea (by omega),qea (by omega),qea (by omega),if_pos h,e1,e2,Nat.add_sub_cancel_left]
  rfl
 ·rw [if_pos (by simp;omega),if_neg h]
theorem qIz (a:List Int) (hb:Bts a) (hl:a.length≤100000) (p:Nat) (hf:rF a p):
  qLc ((a,((p:Int),())),())=some (rR a p,(none,((a,(((p+rK a p+23:Nat):Int),())),()))):=by
 obtain ⟨h1,h2⟩:=hf
 obtain ⟨ek,hk⟩:=qqy hb p
 have t1:qLb (1:Int) ((a,((p:Int),())),())=_:=qOm a hl p 1 (by omega) (by omega)
 have t2:=qOm a hl (p+1) (rK a p+22) (by omega) (by omega)
 rw [if_pos (by omega)] at t1
 rw [if_pos (by omega)] at t2
 rw [qsf,t1]
 simp only [Option.bind_some]
 have l1:((a.drop p).take 1).length=1:=by simp;omega
 have g1:((a.drop p).take 1).getD 0 0=(rK a p:Int):=by rw [qQs _ _ _ _ (by omega)];exact ek
 rw [if_neg (by simp),qea (by omega),qea (by rw [l1];decide),g1,w64 (x:=(rK a p:Int)) (by omega) (by omega),w64 (x:=(rK a p:Int)+22) (by omega) (by omega),show (rK a p:Int)+22=((rK a p+22:Nat):Int) by omega,t2]
 simp only [Option.bind_some]
 have l2:Int.ofNat ((a.drop (p+1)).take (rK a p+22)).length=(rK a p:Int)+22:=by
  have:((a.drop (p+1)).take (rK a p+22)).length=rK a p+22:=by simp;omega
  rw [this];simp
 rw [l2,w64 (x:=(rK a p:Int)+1) (by omega) (by omega),w64 (x:=(rK a p:Int)+2) (by omega) (by omega)]
 rw [if_neg (by simp),qea (by omega),qea (by rw [l1];decide),qea (by omega),qea (by omega),qea (by omega),qea (by omega),qea (by omega),qea (by omega),qea (by omega),qea (by omega),qea (by omega)]
 have n1:((rK a p:Int)).toNat=rK a p:=by omega
 have n2:((rK a p:Int)+1).toNat=rK a p+1:=by omega
 have n3:((rK a p:Int)+2).toNat=rK a p+2:=by omega
 rw [n1,n2,n3,qQs _ _ _ _ (by omega),qQs _ _ _ _ (by omega)]
 have b1:=hb.getD (p+1+rK a p)
 have b2:=hb.getD (p+1+(rK a p+1))
 rw [w64 (x:=a.getD (p+1+rK a p) 0) (by omega) (by omega),w64 (x:=a.getD (p+1+(rK a p+1)) 0) (by omega) (by omega),w64 (x:=a.getD (p+1+rK a p) 0*256) (by omega) (by omega),qnx (by omega) b2]
 have e1:List.take (rK a p) ((a.drop (p+1)).take (rK a p+22))=(a.drop (p+1)).take (rK a p):=by rw [List.take_take,Nat.min_eq_left (by omega)]
 have e2:List.drop (rK a p+2) ((a.drop (p+1)).take (rK a p+22))=(a.drop (p+3+rK a p)).take 20:=by
  rw [List.drop_take,List.drop_drop,show rK a p+22 - (rK a p+2)=20 by omega,show p+1+(rK a p+2)=p+3+rK a p by omega]
 have l3:((a.drop (p+3+rK a p)).take 20).length=20:=by simp;omega
 rw [e1,e2,l3]
 have e3:qbc (List.replicate 20 (0:Int)) 0 (List.take (min 20 20) ((a.drop (p+3+rK a p)).take 20))=(a.drop (p+3+rK a p)).take 20:=by
  rw [show min 20 20=20 from rfl,List.take_of_length_le (by omega),qbc,l3]
  simp
 rw [e3]
 unfold rR
 rw [show p+1+(rK a p+1)=p+2+rK a p by omega,show p+1+(rK a p+22)=p+rK a p+23 by omega]
theorem qJz (a:List Int) (hb:Bts a) (hl:a.length≤100000) (p:Nat) (hp:p≤a.length) (hf:¬rF a p):
  ∃x s,qLc ((a,((p:Int),())),())=some (x,(some 18,s)):=by
 obtain ⟨ek,hk⟩:=qqy hb p
 have t1:qLb (1:Int) ((a,((p:Int),())),())=_:=qOm a hl p 1 (by omega) (by omega)
 rw [qsf,t1]
 simp only [Option.bind_some]
 by_cases h1:p+1≤a.length
 ·have t2:=qOm a hl (p+1) (rK a p+22) (by omega) (by omega)
  rw [if_neg (by unfold rF at hf;omega)] at t2
  have l1:((a.drop p).take 1).length=1:=by simp;omega
  have g1:((a.drop p).take 1).getD 0 0=(rK a p:Int):=by rw [qQs _ _ _ _ (by omega)];exact ek
  rw [if_pos h1]
  simp only
  rw [if_neg (by simp),qea (by omega),qea (by rw [l1];decide),g1,w64 (x:=(rK a p:Int)) (by omega) (by omega),w64 (x:=(rK a p:Int)+22) (by omega) (by omega),show (rK a p:Int)+22=((rK a p+22:Nat):Int) by omega,t2]
  exact ⟨_,_,rfl⟩
 ·rw [if_neg h1]
  exact ⟨_,_,rfl⟩
theorem qfC (a:List Int) (hb:Bts a) (p:Nat) (hf:rF a p):(rR a p).1.size=rK a p∧(rR a p).2.2.1.length=20∧Bts (rR a p).2.2.1:=by
 obtain ⟨h1,h2⟩:=hf
 refine ⟨?_,?_,(hb.drop _).take _⟩
 ·unfold rR;rw [qps];simp;omega
 ·unfold rR;simp;omega
theorem RecsOK.snoc {l:List qaa} {r:qaa} (h:RecsOK l) (hl:l.length<9223372036854775807) (hr:r.1.size≤9223372036854775807):RecsOK (l++[r]):=
 ⟨by simp;omega,fun q hq=>by
  rcases List.mem_append.1 hq with hq|hq
  ·exact h.2 q hq
  ·rw [List.mem_singleton.1 hq];exact hr⟩
theorem SumsOK.snoc {l:List qaa} {r:qaa} (h:SumsOK l) (hr:r.2.2.1.length=20∧Bts r.2.2.1):SumsOK (l++[r]):=fun q hq=>by
 rcases List.mem_append.1 hq with hq|hq
 ·exact h q hq
 ·rw [List.mem_singleton.1 hq];exact hr
theorem qzx (a:List Int) (hb:Bts a) (hl:a.length≤100000) (N:Nat) (hN:N≤16):∀(n i p:Nat) (acc:List qaa),i+n=N→acc.length=i→p≤a.length→RecsOK acc→
  qmg (N:Int) (i:Int) ((a,((p:Int),())),()) acc=some (qYs a n p acc)
 |0,i,p,acc,e,hi,hp,hR=>by
  rw [qyi,if_neg (by simp;omega),qRc acc hR]
  simp only [Option.bind_some,qYs]
  by_cases h:qZc acc=0
  ·rw [if_neg (by simp [h]),if_neg (by simp [h])]
  ·rw [if_pos (by simpa using h),if_pos h]
 |n+1,i,p,acc,e,hi,hp,hR=>by
  rw [qyi,if_pos (by simp;omega),qYs]
  by_cases hf:rF a p
  ·have hr:=qfC a hb p hf
   have hk:=qqy hb p
   rw [qIz a hb hl p hf,if_pos hf]
   simp only [Option.bind_some,qjs]
   rw [if_neg (by simp),qea (by simp;omega),w64 (by omega) (by omega)]
   have ih:=qzx a hb hl N hN n (i+1) (p+rK a p+23) (acc++[rR a p]) (by omega) (by simp;omega) (by unfold rF at hf;omega) (hR.snoc (by omega) (by omega))
   rw [show ((i+1:Nat):Int)=(i:Int)+1 by omega] at ih
   exact ih
  ·obtain ⟨x,s,hx⟩:=qJz a hb hl p hp hf
   rw [hx,if_neg hf]
   simp only [Option.bind_some,qis]
   rw [if_pos trivial]
def rdM (a:List Int) (n:Int):List qaa×Int×Int:=if n<0∨n>16 then ([],(0,2)) else if a.length>50000 then ([],(0,4)) else qYs a n.toNat 0 []
theorem RecsOK.nil:RecsOK []:=⟨by simp,fun _ h=>by cases h⟩
theorem SumsOK.nil:SumsOK []:=fun _ h=>by cases h
theorem qpp (a:List Int) (hb:Bts a) (n:Int):qpm a n=some (rdM a n):=by
 rw [qVr,rdM]
 by_cases h1:n<0
 ·rw [if_pos (by simpa using h1),if_pos (.inl h1)]
 ·rw [if_neg (by simpa using h1)]
  by_cases h2:n>16
  ·rw [if_pos (by simpa using h2),if_pos (.inr h2)]
  ·rw [if_neg (by simpa using h2),if_neg (show ¬(n<0∨n>16) by omega)]
   by_cases h3:a.length>50000
   ·rw [if_pos (by simp;omega),if_pos h3]
   ·rw [if_neg (by simp;omega),if_neg h3]
    have:=qzx a hb (by omega) n.toNat (by omega) n.toNat 0 0 [] (by omega) rfl (by omega) .nil
    rw [show ((n.toNat:Nat):Int)=n by omega] at this
    exact this
theorem qbx (a:List Int) (hl:a.length≤100000) (N i:Int) (p k:Nat) (hp:p+1+k+22≤a.length) (hk:k<256) (acc:List qaa) (hacc:acc.length≤1000) (nm:ByteArray) (sz:Int) (hi:0≤i∧i≤1000):∀(d j:Nat) (S:List Int),20 - j=d→j≤20→S.length=20→S.take j=((a.drop (p+3+k)).take 20).take j→
  qNc a N (p:Int) i (k:Int) (j:Int) acc (nm,(sz,(S,())))=qQb a N ((p+k+23:Nat):Int) (i+1) (acc++[(nm,(sz,((a.drop (p+3+k)).take 20,())))])
 |0,j,S,hd,hj,hS,ht=>by
  have:j=20:=by omega
  subst this
  have l3:((a.drop (p+3+k)).take 20).length=20:=by simp;omega
  rw [List.take_of_length_le (by omega),List.take_of_length_le (by omega)] at ht
  rw [qJf,if_neg (by simp),qea (by simp;omega),w64 (x:=(k:Int)+23) (by omega) (by omega),w64 (x:=(p:Int)+(k+23)) (by omega) (by omega),w64 (x:=i+1) (by omega) (by omega),ht]
  congr 1
 |d+1,j,S,hd,hj,hS,ht=>by
  have hl':Int.ofNat a.length=(a.length:Int):=rfl
  rw [qJf,if_pos (by simp;omega),w64 (x:=(p:Int)+3) (by omega) (by omega),w64 (x:=(p:Int)+3+k) (by omega) (by omega),w64 (x:=(p:Int)+3+k+j) (by omega) (by omega),w64 (x:=(j:Int)+1) (by omega) (by omega),qea (by omega),qea (by rw [hl'];omega),qea (by omega),qea (by omega)]
  have e1:((p:Int)+3+k+j).toNat=p+3+k+j:=by omega
  rw [e1,Int.toNat_natCast]
  have ih:=qbx a hl N i p k hp hk acc hacc nm sz hi d (j+1) (S.set j (a.getD (p+3+k+j) 0)) (by omega) (by omega) (by simpa using hS) (by
   rw [qPm _ _ _ (by omega),ht,List.take_succ_eq_append_getElem (l:=(a.drop (p+3+k)).take 20) (by simp;omega)]
   congr 2
   rw [List.getElem_take,List.getElem_drop,List.getD_eq_getElem?_getD,List.getElem?_eq_getElem (by omega)]
   rfl)
  rw [show ((j+1:Nat):Int)=(j:Int)+1 by omega] at ih
  exact ih
theorem qcx (a:List Int) (hb:Bts a) (hl:a.length≤100000) (N:Nat) (hN:N≤16):∀(n i p:Nat) (acc:List qaa),i+n=N→acc.length=i→p≤a.length→RecsOK acc→
  qQb a (N:Int) (p:Int) (i:Int) acc=some (qYs a n p acc)
 |0,i,p,acc,e,hi,hp,hR=>by
  rw [qKf,if_neg (by simp;omega),qgp acc hR]
  simp only [Option.bind_some,qYs]
  by_cases h:qZc acc=0
  ·rw [if_neg (by simp [h]),if_neg (by simp [h])]
  ·rw [if_pos (by simpa using h),if_pos h]
 |n+1,i,p,acc,e,hi,hp,hR=>by
  have hl':Int.ofNat a.length=(a.length:Int):=rfl
  obtain ⟨ek,hk⟩:=qqy hb p
  rw [qKf,if_pos (by simp;omega),qYs,hl']
  by_cases h1:p<a.length
  ·rw [if_neg (by simp;omega),qea (by omega),qea (by omega),Int.toNat_natCast,ek]
   rw [w64 (x:=(rK a p:Int)) (by omega) (by omega),w64 (x:=(a.length:Int) - p) (by omega) (by omega),w64 (x:=(a.length:Int) - p - 1) (by omega) (by omega),w64 (x:=(rK a p:Int)+22) (by omega) (by omega)]
   by_cases hf:rF a p
   ·have h2:p+1+rK a p+22≤a.length:=hf.2
    have hr:=qfC a hb p hf
    have b1:=hb.getD (p+1+rK a p)
    have b2:=hb.getD (p+2+rK a p)
    rw [if_neg (by simp;omega),if_pos hf,w64 (x:=(p:Int)+1) (by omega) (by omega),w64 (x:=(p:Int)+1+rK a p) (by omega) (by omega),w64 (x:=(p:Int)+2) (by omega) (by omega),w64 (x:=(p:Int)+2+rK a p) (by omega) (by omega)]
    have n1:((p:Int)+1+rK a p).toNat=p+1+rK a p:=by omega
    have n2:((p:Int)+2+rK a p).toNat=p+2+rK a p:=by omega
    have n3:((p:Int)+1).toNat=p+1:=by omega
    rw [qea (by omega),qea (by omega),qea (by omega),qea (by omega),qea (by omega),qea (by omega),qea (by omega),qea (by omega),qea (by omega),qea (by omega),n1,n2,n3,Nat.add_sub_cancel_left]
    rw [w64 (x:=a.getD (p+1+rK a p) 0) (by omega) (by omega),w64 (x:=a.getD (p+2+rK a p) 0) (by omega) (by omega),w64 (x:=a.getD (p+1+rK a p) 0*256) (by omega) (by omega),w64 (x:=a.getD (p+1+rK a p) 0*256+a.getD (p+2+rK a p) 0) (by omega) (by omega)]
    have e2:=qbx a hl (N:Int) (i:Int) p (rK a p) h2 hk acc (by omega) (qPb ((a.drop (p+1)).take (rK a p))) (a.getD (p+1+rK a p) 0*256+a.getD (p+2+rK a p) 0) (by omega) 20 0 (List.replicate 20 0) (by omega) (by omega) (by simp) (by simp)
    refine Eq.trans e2 ?_
    have ih:=qcx a hb hl N hN n (i+1) (p+rK a p+23) (acc++[rR a p]) (by omega) (by simp;omega) (by omega) (hR.snoc (by omega) (by omega))
    rw [show ((i+1:Nat):Int)=(i:Int)+1 by omega] at ih
    exact ih
   ·rw [if_pos (by unfold rF at hf;simp;omega),if_neg hf]
  ·rw [if_pos (by simp;omega),if_neg (by unfold rF;omega)]
theorem qnq (a:List Int) (hb:Bts a) (n:Int):qfg a n=some (rdM a n):=by
 rw [qxl,rdM]
 by_cases h1:n<0
 ·rw [if_pos (by simpa using h1),if_pos (.inl h1)]
 ·rw [if_neg (by simpa using h1)]
  by_cases h2:n>16
  ·rw [if_pos (by simpa using h2),if_pos (.inr h2)]
  ·rw [if_neg (by simpa using h2),if_neg (show ¬(n<0∨n>16) by omega)]
   by_cases h3:a.length>50000
   ·rw [if_pos (by simp;omega),if_pos h3]
   ·rw [if_neg (by simp;omega),if_neg h3]
    have:=qcx a hb (by omega) n.toNat (by omega) n.toNat 0 0 [] (by omega) rfl (by omega) .nil
    rw [show ((n.toNat:Nat):Int)=n by omega] at this
    exact this
theorem qGd {α:Type} (l:List α) (m n:Nat):l.take (m+n)=l.take m++(l.drop m).take n:=List.take_add
theorem qdg (a:List Int) (p:Nat) (h:p<a.length):(a.drop p).take 1=[a.getD p 0]:=by
 rw [(qBa (0:Int) h).1];rfl
theorem qFD (a:List Int) (hb:Bts a) (p:Nat) (hf:rF a p):qnu (rR a p)=(a.drop p).take (rK a p+23):=by
 obtain ⟨h1,h2⟩:=hf
 obtain ⟨ek,hk⟩:=qqy hb p
 have hs:=(qfC a hb p ⟨h1,h2⟩).1
 have b1:=hb.getD (p+1+rK a p)
 have b2:=hb.getD (p+2+rK a p)
 have e1:IntKind.wrap .u8 ((rR a p).1.size:Int)=(rK a p:Int):=by rw [hs,wu8];omega
 have e2:qCb (rR a p).1=(a.drop (p+1)).take (rK a p):=qaj ((hb.drop _).take _)
 have e3:IntKind.wrap .u8 (Int.fdiv (rR a p).2.1 256)=a.getD (p+1+rK a p) 0:=by
  show IntKind.wrap .u8 (Int.fdiv (a.getD (p+1+rK a p) 0*256+a.getD (p+2+rK a p) 0) 256)=_
  rw [wu8,qtn _ (by omega)];omega
 have e4:IntKind.wrap .u8 (rR a p).2.1=a.getD (p+2+rK a p) 0:=by
  show IntKind.wrap .u8 (a.getD (p+1+rK a p) 0*256+a.getD (p+2+rK a p) 0)=_
  rw [wu8];omega
 have e5:List.take 20 (List.drop 0 (rR a p).2.2.1)=(a.drop (p+3+rK a p)).take 20:=by
  show List.take 20 (List.drop 0 ((a.drop (p+3+rK a p)).take 20))=_
  rw [List.drop_zero,List.take_take];rfl
 unfold qnu
 rw [e1,e2,e3,e4,e5,show rK a p+23=1+(rK a p+(1+(1+20))) by omega,qGd,qGd,qGd,qGd,List.drop_drop,List.drop_drop,List.drop_drop,List.drop_drop,qdg a p h1,qdg a (p+1+rK a p) (by omega),show p+1+rK a p+1=p+2+rK a p by omega,qdg a (p+2+rK a p) (by omega),show p+2+rK a p+1=p+3+rK a p by omega,ek]
 simp only [List.append_assoc,List.cons_append,List.nil_append]
theorem qPo:∀(l m:List qaa),qtb (l++m)=qtb l++qtb m
 |[],m=>rfl
 |r::l,m=>by simp only [List.cons_append,qtb,qPo l m,List.append_assoc]
structure ReadOK (a:List Int) (n:Nat) (l:List qaa) (q:Nat):Prop where
 le:q≤a.length
 bytes:qtb l=a.take q
 val:qZc l=0
 sums:SumsOK l
 recs:RecsOK l
 len:l.length=n
theorem qMz (a:List Int) (hb:Bts a):∀(n p:Nat) (acc l:List qaa) (q:Int),qYs a n p acc=(l,(q,0))→p≤a.length→qtb acc=a.take p→SumsOK acc→RecsOK acc→acc.length+n≤1000→
  ∃q':Nat,q=q'∧ReadOK a (acc.length+n) l q'∧p≤q'
 |0,p,acc,l,q,h,hp,hB,hS,hR,hn=>by
  simp only [qYs] at h
  split at h
  ·simp at h
  ·rename_i hv
   simp only [Prod.mk.injEq] at h
   obtain ⟨rfl,rfl,_⟩:=h
   exact ⟨p,rfl,⟨hp,hB,by simpa using hv,hS,hR,rfl⟩,Nat.le_refl _⟩
 |n+1,p,acc,l,q,h,hp,hB,hS,hR,hn=>by
  simp only [qYs] at h
  split at h
  ·rename_i hf
   have hr:=qfC a hb p hf
   have hk:=qqy hb p
   obtain ⟨h1,h2⟩:=id hf
   obtain ⟨q',e,hO,hle⟩:=qMz a hb n _ _ l q h (by omega) (by
    rw [qPo,hB,show qtb [rR a p]=qnu (rR a p)++[] from rfl,List.append_nil,qFD a hb p hf,show p+rK a p+23=p+(rK a p+23) by omega,qGd a p]) (hS.snoc hr.2) (hR.snoc (by omega) (by omega)) (by simp;omega)
   rw [show (acc++[rR a p]).length+n=acc.length+(n+1) by simp;omega] at hO
   exact ⟨q',e,hO,by omega⟩
  ·simp at h
def sH (a:List Int):qoa:=(a.getD 4 0,(a.getD 5 0*256+a.getD 6 0,()))
def hdE (e:Int):qoa×List qaa×Int×Int:=((0,(0,())),([],(0,e)))
def magic:List Int:=[66,76,70,1]
def hdP (a:List Int):qoa×List qaa×Int×Int:=
 if a.length>50000 then hdE 4 else if a.length<8 then hdE 18
 else if a.take 4≠magic∨chk (sH a)≠0∨a.getD 7 0>16 then hdE 12
 else if (rdM (a.drop 8) (a.getD 7 0)).2.2≠0 then hdE (rdM (a.drop 8) (a.getD 7 0)).2.2
 else if (a.length:Int) - 8 - (rdM (a.drop 8) (a.getD 7 0)).2.1<20 then hdE 18
 else if (a.drop (8+(rdM (a.drop 8) (a.getD 7 0)).2.1.toNat)).take 20≠qLg (a.take (8+(rdM (a.drop 8) (a.getD 7 0)).2.1.toNat)) then hdE 22
 else (sH a,((rdM (a.drop 8) (a.getD 7 0)).1,(28+(rdM (a.drop 8) (a.getD 7 0)).2.1,0)))
theorem qgm (a b:List Int) (ha:Bts a) (hb:Bts b):qTd a b=some (decide (a.take b.length=b)):=by
 rw [qfi]
 by_cases h:b.length≤a.length
 ·rw [if_pos (by simp;omega),qea (by simp),qea (by simp;omega),qem,qSA (ha.take _) hb];rfl
 ·rw [if_neg (by simp;omega)]
  have:¬a.take b.length=b:=fun e=>by
   have:=congrArg List.length e
   simp at this;omega
  simp [this]
theorem qsC (a:List Int) (hb:Bts a):(ByteArray.toList (qPb (List.take 4 a))==ByteArray.toList (ByteArray.mk #[66,76,70,1]))=decide (a.take 4=magic):=by
 have:ByteArray.mk #[66,76,70,1]=qPb magic:=rfl
 rw [this,qSA (hb.take _) (by intro x hx;simp [magic] at hx;omega)]
theorem qNz {a:List Int} (hb:Bts a) (hl:a.length≤50000) {n:Int} (hn:0≤n∧n≤16) (h:(rdM a n).2.2=0):∃q:Nat,(rdM a n).2.1=q∧ReadOK a n.toNat (rdM a n).1 q:=by
 have e:rdM a n=qYs a n.toNat 0 []:=by unfold rdM;rw [if_neg (by omega),if_neg (by omega)]
 rw [e] at h ⊢
 obtain ⟨q,e1,e2,_⟩:=qMz a hb n.toNat 0 [] (qYs a n.toNat 0 []).1 (qYs a n.toNat 0 []).2.1 (by rw [←h]) (by omega) rfl .nil .nil (by simp;omega)
 rw [show ([]:List qaa).length+n.toNat=n.toNat by simp] at e2
 exact ⟨q,e1,e2⟩
theorem qYy {a:List Int} (hb:Bts a) (h8:8≤a.length) (hm:a.take 4=magic) (hc:chk (sH a)=0) (h7:a.getD 7 0≤16) {l:List qaa} {q:Nat} (hO:ReadOK (a.drop 8) (a.getD 7 0).toNat l q):qlf (sH a) l=a.take (8+q):=by
 have b4:=hb.getD 4
 have b5:=hb.getD 5
 have b6:=hb.getD 6
 have b7:=hb.getD 7
 have e1:IntKind.wrap .u8 (sH a).1=a.getD 4 0:=by show IntKind.wrap .u8 (a.getD 4 0)=_;rw [wu8];omega
 have e2:IntKind.wrap .u8 (Int.fdiv (sH a).2.1 256)=a.getD 5 0:=by
  show IntKind.wrap .u8 (Int.fdiv (a.getD 5 0*256+a.getD 6 0) 256)=_
  rw [wu8,qtn _ (by omega)];omega
 have e3:IntKind.wrap .u8 (sH a).2.1=a.getD 6 0:=by
  show IntKind.wrap .u8 (a.getD 5 0*256+a.getD 6 0)=_
  rw [wu8];omega
 have e4:IntKind.wrap .u8 (l.length:Int)=a.getD 7 0:=by rw [hO.len,wu8];omega
 unfold qlf qkr
 rw [e1,e2,e3,e4,hO.bytes,qGd,show (8:Nat)=4+(1+(1+(1+1))) from rfl,qGd a 4,qGd,qGd,qGd,List.drop_drop,List.drop_drop,List.drop_drop,qdg a 4 (by omega),qdg a (4+1) (by omega),qdg a (4+1+1) (by omega),qdg a (4+1+1+1) (by omega),hm]
 rfl
theorem qbs (a:List Int) (hb:Bts a):qWq a=some (hdP a):=by
 have hl':Int.ofNat a.length=(a.length:Int):=rfl
 rw [qNu,hl']
 unfold hdP
 by_cases h1:a.length>50000
 ·rw [if_pos (by simp;omega),if_pos h1];rfl
 rw [if_neg (by simp;omega),if_neg h1]
 by_cases h2:a.length<8
 ·rw [if_pos (by simp;omega),if_pos h2];rfl
 have b4:=hb.getD 4
 have b5:=hb.getD 5
 have b6:=hb.getD 6
 have b7:=hb.getD 7
 rw [if_neg (by simp;omega),if_neg h2,qea (by decide),qea (by omega),qea (by decide),qea (by omega),qea (by decide),qea (by decide),qea (by omega),qgm a _ hb (by intro x hx;simp at hx;omega)]
 simp only [Option.bind_some]
 rw [w64 (x:=a.getD 4 0) (by omega) (by omega),w64 (x:=a.getD 5 0) (by omega) (by omega),w64 (x:=a.getD 6 0) (by omega) (by omega),w64 (x:=a.getD 7 0) (by omega) (by omega),w64 (x:=a.getD 5 0*256) (by omega) (by omega),qnx (by omega) b6]
 have es:((a.getD 4 0,(a.getD 5 0*256+a.getD 6 0,())):qoa)=sH a:=rfl
 have em:([66,76,70,1]:List Int)=magic:=rfl
 rw [es,em,show magic.length=4 from rfl]
 by_cases hm:a.take 4=magic
 ·rw [if_neg (by simp [hm]),qqh]
  simp only [Option.bind_some]
  by_cases hc:chk (sH a)=0
  ·rw [if_neg (by simp [hc]),qea (by decide),qea (by omega)]
   by_cases h7:a.getD 7 0>16
   ·rw [if_pos (by simpa using h7),if_pos (.inr (.inr h7))];rfl
   ·rw [if_neg (by simpa using h7),if_neg (show ¬(a.take 4≠magic∨chk (sH a)≠0∨a.getD 7 0>16) from fun h=>by rcases h with h|h|h;exact h hm;exact h hc;exact h7 h),qea (by decide),qea (by omega),qea (by decide),qea (by omega),qpp _ (hb.drop 8)]
    simp only [Option.bind_some]
    by_cases hr:(rdM (a.drop 8) (a.getD 7 0)).2.2=0
    ·obtain ⟨q,hq,hO⟩:=qNz (hb.drop 8) (by simp;omega) ⟨b7.1,by omega⟩ hr
     have hle:=hO.le
     rw [List.length_drop] at hle
     have hbody:=qYy hb (by omega) hm hc (by omega) hO
     have ha:ask (sH a) (rdM (a.drop 8) (a.getD 7 0)).1=0:=by unfold ask;rw [if_neg (by simp [hc]),hO.val]
     rw [if_neg (by rw [hr];decide),if_neg (show ¬(rdM (a.drop 8) (a.getD 7 0)).2.2≠0 from fun h=>h hr),qRl _ _ hO.recs hO.sums,ha,if_neg (by simp)]
     simp only [Option.bind_some]
     rw [hq,w64 (x:=(a.length:Int) - 8) (by omega) (by omega),w64 (x:=(a.length:Int) - 8 - q) (by omega) (by omega),Int.toNat_natCast]
     by_cases h20:(a.length:Int) - 8 - q<20
     ·rw [if_pos (by simpa using h20),if_pos h20];rfl
     ·rw [if_neg (by simpa using h20),if_neg h20,qgm a _ hb (qWu _ _ hO.sums)]
      simp only [Option.bind_some]
      have hhl:(qAf (sH a) (rdM (a.drop 8) (a.getD 7 0)).1).length=8+q+20:=by
       unfold qAf;rw [List.length_append,qpf,hbody];simp;omega
      have hiff:a.take (qAf (sH a) (rdM (a.drop 8) (a.getD 7 0)).1).length=qAf (sH a) (rdM (a.drop 8) (a.getD 7 0)).1↔(a.drop (8+q)).take 20=qLg (a.take (8+q)):=by
       rw [hhl,qGd]
       unfold qAf
       rw [hbody]
       constructor
       ·intro h;exact List.append_cancel_left h
       ·intro h;rw [h]
      by_cases hs:(a.drop (8+q)).take 20=qLg (a.take (8+q))
      ·rw [if_neg (by rw [decide_eq_true (hiff.2 hs)];decide),if_neg (show ¬(a.drop (8+q)).take 20≠qLg (a.take (8+q)) by simp [hs]),hhl]
       congr 3
       simp;omega
      ·rw [if_pos (by rw [decide_eq_false (fun h=>hs (hiff.1 h))];rfl),if_pos hs];rfl
    ·rw [if_pos (bne_iff_ne.2 hr),if_pos hr];rfl
  ·rw [if_pos (by simpa using hc),if_pos (.inr (.inl hc))];rfl
 ·rw [if_pos (by simp [hm]),if_pos (.inl hm)];rfl
theorem qpu (a:List Int) (hb:Bts a):qeg a=some (hdP a):=by
 have hl':Int.ofNat a.length=(a.length:Int):=rfl
 rw [qol,hl']
 unfold hdP
 by_cases h1:a.length>50000
 ·rw [if_pos (by simp;omega),if_pos h1];rfl
 rw [if_neg (by simp;omega),if_neg h1]
 by_cases h2:a.length<8
 ·rw [if_pos (by simp;omega),if_pos h2];rfl
 have b4:=hb.getD 4
 have b5:=hb.getD 5
 have b6:=hb.getD 6
 have b7:=hb.getD 7
 rw [if_neg (by simp;omega),if_neg h2,qea (by decide),qea (by omega),qea (by decide),qea (by omega),qea (by decide),qea (by decide),qea (by omega),qea (by decide),qea (by omega),qsC a hb]
 rw [w64 (x:=a.getD 4 0) (by omega) (by omega),w64 (x:=a.getD 5 0) (by omega) (by omega),w64 (x:=a.getD 6 0) (by omega) (by omega),w64 (x:=a.getD 7 0) (by omega) (by omega),w64 (x:=a.getD 5 0*256) (by omega) (by omega),w64 (x:=a.getD 5 0*256+a.getD 6 0) (by omega) (by omega)]
 have es:((a.getD 4 0,(a.getD 5 0*256+a.getD 6 0,())):qoa)=sH a:=rfl
 rw [es]
 by_cases hm:a.take 4=magic
 ·rw [if_neg (by simp [hm]),qfp]
  simp only [Option.bind_some]
  by_cases hc:chk (sH a)=0
  ·rw [if_neg (by simp [hc]),qea (by decide),qea (by omega)]
   by_cases h7:a.getD 7 0>16
   ·rw [if_pos (by simpa using h7),if_pos (.inr (.inr h7))];rfl
   ·rw [if_neg (by simpa using h7),if_neg (show ¬(a.take 4≠magic∨chk (sH a)≠0∨a.getD 7 0>16) from fun h=>by rcases h with h|h|h;exact h hm;exact h hc;exact h7 h),qea (by decide),qea (by omega),qea (by decide),qea (by omega),qnq _ (hb.drop 8)]
    simp only [Option.bind_some]
    by_cases hr:(rdM (a.drop 8) (a.getD 7 0)).2.2=0
    ·obtain ⟨q,hq,hO⟩:=qNz (hb.drop 8) (by simp;omega) ⟨b7.1,by omega⟩ hr
     have hle:=hO.le
     rw [List.length_drop] at hle
     rw [if_neg (by rw [hr];decide),if_neg (show ¬(rdM (a.drop 8) (a.getD 7 0)).2.2≠0 from fun h=>h hr)]
     rw [hq,w64 (x:=(a.length:Int) - 8) (by omega) (by omega),w64 (x:=(a.length:Int) - 8 - q) (by omega) (by omega),Int.toNat_natCast]
     by_cases h20:(a.length:Int) - 8 - q<20
     ·rw [if_pos (by simpa using h20),if_pos h20];rfl
     ·rw [if_neg (by simpa using h20),if_neg h20,w64 (x:=(8:Int)+q) (by omega) (by omega),w64 (x:=(28:Int)+q) (by omega) (by omega),qea (by omega),qea (by omega)]
      have n1:((8:Int)+q).toNat=8+q:=by omega
      have n2:((28:Int)+q).toNat - (8+q)=20:=by omega
      rw [n1,n2,qJr _ (by simp;omega)]
      simp only [Option.bind_some]
      have e0:List.take 20 (List.drop 0 (qLg (a.take (8+q))))=qLg (a.take (8+q)):=by
       rw [List.drop_zero,List.take_of_length_le (by rw [qpf];omega)]
      rw [qea (by omega),qea (by omega),qea (by omega),e0,qSA (qBp _) ((hb.drop _).take _)]
      by_cases hs:(a.drop (8+q)).take 20=qLg (a.take (8+q))
      ·rw [if_neg (by simp [hs]),if_neg (show ¬(a.drop (8+q)).take 20≠qLg (a.take (8+q)) by simp [hs])]
      ·rw [if_pos (by simp only [Bool.not_eq_true',decide_eq_false_iff_not];exact fun h=>hs h.symm),if_pos hs];rfl
    ·rw [if_pos (bne_iff_ne.2 hr),if_pos hr];rfl
  ·rw [if_pos (by simpa using hc),if_pos (.inr (.inl hc))];rfl
 ·rw [if_pos (by simp [hm]),if_pos (.inl hm)];rfl
def zL:qua:=((0,(0,())),([],([],())))
def qIw (a:List Int) (s:qoa) (rs:List qaa):List qia→Nat→List qha→List qda→qua×List qda×Int
 |[],p,hs,bs=>if p<a.length then (zL,([],12)) else ((s,(rs,(hs,()))),(bs,0))
 |x::ps,p,hs,bs=>if (rdB (a.drop p)).2.2≠0 then (zL,([],(rdB (a.drop p)).2.2)) else if ¬isP (rdB (a.drop p)).1.1 x then (zL,([],32))
  else qIw a s rs ps (p+(rdB (a.drop p)).2.1.toNat) (hs++[(rdB (a.drop p)).1.1]) (bs++[(rdB (a.drop p)).1])
def qEo (a:List Int):qua×List qda×Int:=
 if (hdP a).2.2.2≠0 then (zL,([],(hdP a).2.2.2)) else qIw a (hdP a).1 (hdP a).2.1 (ap (hdP a).1.2.1 0 (hdP a).2.1) (hdP a).2.2.1.toNat [] []
theorem qZw {c:List Int} (h:(rdB c).2.2=0):hOK (rdB c).1.1∧(rdB c).2.1=41+(rdB c).1.1.2.2.2.2.1∧(rdB c).2.1≤c.length∧41≤c.length∧c.length≤50000∧c.take 13=mark∧
  rdB c=((pH ((c.drop 13).take 28),((c.drop 41).take (pH ((c.drop 13).take 28)).2.2.2.2.1.toNat,())),(41+(pH ((c.drop 13).take 28)).2.2.2.2.1,0)):=by
 unfold rdB at h ⊢
 by_cases h1:c.length>50000
 ·rw [if_pos h1] at h;simp at h
 ·rw [if_neg h1] at h ⊢
  by_cases h2:c.length<41
  ·rw [if_pos h2] at h;simp at h
  ·rw [if_neg h2] at h ⊢
   by_cases h3:c.take 13≠mark∨¬hOK (pH ((c.drop 13).take 28))
   ·rw [if_pos h3] at h;simp at h
   ·rw [if_neg h3] at h ⊢
    by_cases h4:(c.length:Int)<41+(pH ((c.drop 13).take 28)).2.2.2.2.1
    ·rw [if_pos h4] at h;simp at h
    ·rw [if_neg h4]
     simp only [ne_eq,not_or,Decidable.not_not] at h3
     exact ⟨h3.2,rfl,by simp only;omega,by omega,by omega,h3.1,rfl⟩
structure HeadOK (a:List Int) (l:List qaa) (q:Nat):Prop where
 eq:hdP a=(sH a,(l,(28+(q:Int),0)))
 le:28+q≤a.length
 big:a.length≤50000
 magic:a.take 4=magic
 chk:chk (sH a)=0
 seven:a.getD 7 0≤16
 nn:0≤a.getD 7 0
 read:ReadOK (a.drop 8) (a.getD 7 0).toNat l q
 sum:(a.drop (8+q)).take 20=qLg (a.take (8+q))
 rd:qYs (a.drop 8) (a.getD 7 0).toNat 0 []=(l,((q:Int),0))
theorem qCA {a:List Int} (hb:Bts a) (h:(hdP a).2.2.2=0):∃l q,HeadOK a l q:=by
 have b7:=hb.getD 7
 unfold hdP at h
 by_cases h1:a.length>50000
 ·rw [if_pos h1] at h;simp [hdE] at h
 rw [if_neg h1] at h
 by_cases h2:a.length<8
 ·rw [if_pos h2] at h;simp [hdE] at h
 rw [if_neg h2] at h
 by_cases h3:a.take 4≠magic∨chk (sH a)≠0∨a.getD 7 0>16
 ·rw [if_pos h3] at h;simp [hdE] at h
 rw [if_neg h3] at h
 have h3':=h3
 simp only [ne_eq,not_or,Decidable.not_not] at h3'
 obtain ⟨m1,m2,m3⟩:=h3'
 by_cases hr:(rdM (a.drop 8) (a.getD 7 0)).2.2=0
 ·obtain ⟨q,hq,hO⟩:=qNz (hb.drop 8) (by simp;omega) ⟨b7.1,by omega⟩ hr
  have hle:=hO.le
  rw [List.length_drop] at hle
  rw [if_neg (fun h=>h hr)] at h
  by_cases h20:(a.length:Int) - 8 - (rdM (a.drop 8) (a.getD 7 0)).2.1<20
  ·rw [if_pos h20] at h;simp [hdE] at h
  rw [if_neg h20] at h
  have hqn:(rdM (a.drop 8) (a.getD 7 0)).2.1.toNat=q:=by omega
  by_cases hs:(a.drop (8+(rdM (a.drop 8) (a.getD 7 0)).2.1.toNat)).take 20≠qLg (a.take (8+(rdM (a.drop 8) (a.getD 7 0)).2.1.toNat))
  ·rw [if_pos hs] at h;simp [hdE] at h
  refine ⟨_,q,?_,by omega,by omega,m1,m2,by omega,b7.1,hO,?_,?_⟩
  ·unfold hdP
   rw [if_neg h1,if_neg h2,if_neg h3,if_neg (fun h=>h hr),if_neg h20,if_neg hs,hq]
  ·rw [hqn] at hs;simpa using hs
  ·have e:rdM (a.drop 8) (a.getD 7 0)=qYs (a.drop 8) (a.getD 7 0).toNat 0 []:=by unfold rdM;rw [if_neg (by omega),if_neg (by simp;omega)]
   rw [←e,←hq]
   exact Prod.ext rfl (Prod.ext rfl hr)
 ·rw [if_pos hr] at h;exact absurd h hr
theorem HeadOK.recsV {a l q} (h:HeadOK a l q):RecsV l:=qoc h.read.val
theorem HeadOK.blk {a l q} (h:HeadOK a l q):16≤(sH a).2.1∧(sH a).2.1≤4096:=qwr h.chk
theorem qtD (a:List Int) (hb:Bts a) (hl:a.length≤50000) (s t:qoa) (rs x1:List qaa) (x2:List qha) (ps:List qia) (hps:ps.length≤100000):∀(k i p:Nat) (hs:List qha) (bs:List qda),i+k=ps.length→p≤a.length→hs.length=i→bs.length=i→
  qgj a (p:Int) (ps.length:Int) (i:Int) t () s () bs ps x1 x2 rs hs=some (qIw a s rs (ps.drop i) p hs bs)
 |0,i,p,hs,bs,e,hp,h1,h2=>by
  have hl':Int.ofNat a.length=(a.length:Int):=rfl
  rw [qWl,if_neg (by simp;omega),List.drop_eq_nil_of_le (by omega),qIw,hl']
  by_cases h:p<a.length
  ·rw [if_pos (by simp;omega),if_pos h];rfl
  ·rw [if_neg (by simp;omega),if_neg h]
 |k+1,i,p,hs,bs,e,hp,h1,h2=>by
  have hl':Int.ofNat a.length=(a.length:Int):=rfl
  have hl2:Int.ofNat ps.length=(ps.length:Int):=rfl
  obtain ⟨d1,d2,d3⟩:=qBa (qja qca:qia) (xs:=ps) (i:=i) (by omega)
  rw [qWl,if_pos (by simp;omega),qea (by omega),qea (by omega),qea (by omega),qea (by omega),Int.toNat_natCast,Int.toNat_natCast,qzo _ (hb.drop p),Nat.zero_add]
  simp only [Option.bind_some]
  rw [d1,qIw]
  generalize ps.getD i (qja qca)=pc
  by_cases hr:(rdB (a.drop p)).2.2=0
  ·have hk:=qZw hr
   have hlen:=qxh hk.1
   have hle:=hk.2.2.1
   rw [List.length_drop] at hle
   rw [if_neg (by rw [hr];decide),if_neg (fun h=>h hr),qTo]
   simp only [Option.bind_some]
   by_cases hi:isP (rdB (a.drop p)).1.1 pc
   ·rw [if_neg (by rw [decide_eq_true hi];decide),if_neg (fun h=>h hi),qea (by simp;omega),qea (by simp;omega),w64 (by omega) (by omega),w64 (by omega) (by omega)]
    have ih:=qtD a hb hl s t rs x1 x2 ps hps k (i+1) (p+(rdB (a.drop p)).2.1.toNat) (hs++[(rdB (a.drop p)).1.1]) (bs++[(rdB (a.drop p)).1]) (by omega) (by omega) (by simp;omega) (by simp;omega)
    rw [show ((i+1:Nat):Int)=(i:Int)+1 by omega,show ((p+(rdB (a.drop p)).2.1.toNat:Nat):Int)=(p:Int)+(rdB (a.drop p)).2.1 by omega] at ih
    exact ih
   ·rw [if_pos (by rw [decide_eq_false hi];rfl),if_pos hi];rfl
  ·rw [if_pos (bne_iff_ne.2 hr),if_pos hr];rfl
theorem qnt (a:List Int) (hb:Bts a):qot a=some (qEo a):=by
 rw [qdw,qbs a hb]
 simp only [Option.bind_some,qEo]
 by_cases h:(hdP a).2.2.2=0
 ·obtain ⟨l,q,hO⟩:=qCA hb h
  rw [if_neg (by rw [h];decide),if_neg (fun k=>k h),hO.eq]
  simp only
  have hle:=hO.le
  have hsm:=qNp (sH a).2.1 hO.blk.1 l hO.recsV
  rw [qtj _ _ hO.blk hO.recsV]
  simp only [Option.bind_some]
  have:=qtD a hb hO.big (sH a) (0,(0,())) l [] [] (ap (sH a).2.1 0 l) (by omega) _ 0 (28+q) [] [] (Nat.zero_add _) (by omega) rfl rfl
  rw [show ((28+(q:Int))).toNat=28+q by omega]
  exact this
 ·rw [if_pos (bne_iff_ne.2 h),if_pos h];rfl
theorem qPz (a:List Int) (hb:Bts a) (hl:a.length≤50000) (s t:qoa) (rs x1:List qaa) (x2:List qha) (ps:List qia) (hps:ps.length≤100000):∀(k i p:Nat) (hs:List qha) (bs:List qda),i+k=ps.length→p≤a.length→hs.length=i→bs.length=i→
  qgc a (p:Int) (i:Int) t () s () bs ps x1 x2 rs hs=some (qIw a s rs (ps.drop i) p hs bs)
 |0,i,p,hs,bs,e,hp,h1,h2=>by
  have hl':Int.ofNat a.length=(a.length:Int):=rfl
  have hl2:Int.ofNat ps.length=(ps.length:Int):=rfl
  rw [que,if_neg (by simp;omega),List.drop_eq_nil_of_le (by omega),qIw,hl']
  by_cases h:p<a.length
  ·rw [if_pos (by simp;omega),if_pos h];rfl
  ·rw [if_neg (by simp;omega),if_neg h]
 |k+1,i,p,hs,bs,e,hp,h1,h2=>by
  have hl':Int.ofNat a.length=(a.length:Int):=rfl
  have hl2:Int.ofNat ps.length=(ps.length:Int):=rfl
  obtain ⟨d1,d2,d3⟩:=qBa (qja qca:qia) (xs:=ps) (i:=i) (by omega)
  rw [que,if_pos (by simp;omega),qea (by omega),qea (by omega),Int.toNat_natCast,Int.toNat_natCast,qoq _ (hb.drop p),Nat.zero_add]
  simp only [Option.bind_some]
  rw [d1,qIw]
  generalize ps.getD i (qja qca)=pc
  by_cases hr:(rdB (a.drop p)).2.2=0
  ·have hk:=qZw hr
   have hlen:=qxh hk.1
   have hle:=hk.2.2.1
   rw [List.length_drop] at hle
   rw [if_neg (by rw [hr];decide),if_neg (fun h=>h hr),qea (by omega),qea (by omega),qXs]
   simp only [Option.bind_some]
   by_cases hi:isP (rdB (a.drop p)).1.1 pc
   ·rw [if_neg (by rw [decide_eq_true hi];decide),if_neg (fun h=>h hi),qea (by simp;omega),qea (by simp;omega),w64 (by omega) (by omega),w64 (by omega) (by omega)]
    have ih:=qPz a hb hl s t rs x1 x2 ps hps k (i+1) (p+(rdB (a.drop p)).2.1.toNat) (hs++[(rdB (a.drop p)).1.1]) (bs++[(rdB (a.drop p)).1]) (by omega) (by omega) (by simp;omega) (by simp;omega)
    rw [show ((i+1:Nat):Int)=(i:Int)+1 by omega,show ((p+(rdB (a.drop p)).2.1.toNat:Nat):Int)=(p:Int)+(rdB (a.drop p)).2.1 by omega] at ih
    exact ih
   ·rw [if_pos (by rw [decide_eq_false hi];rfl),if_pos hi];rfl
  ·rw [if_pos (bne_iff_ne.2 hr),if_pos hr];rfl
theorem qqu (a:List Int) (hb:Bts a):qLe a=some (qEo a):=by
 rw [qCj,qpu a hb]
 simp only [Option.bind_some,qEo]
 by_cases h:(hdP a).2.2.2=0
 ·obtain ⟨l,q,hO⟩:=qCA hb h
  rw [if_neg (by rw [h];decide),if_neg (fun k=>k h),hO.eq]
  simp only
  have hle:=hO.le
  have hsm:=qNp (sH a).2.1 hO.blk.1 l hO.recsV
  rw [qou _ _ hO.blk hO.recsV]
  simp only [Option.bind_some]
  have:=qPz a hb hO.big (sH a) (0,(0,())) l [] [] (ap (sH a).2.1 0 l) (by omega) _ 0 (28+q) [] [] (Nat.zero_add _) (by omega) rfl rfl
  rw [show ((28+(q:Int))).toNat=28+q by omega]
  exact this
 ·rw [if_pos (bne_iff_ne.2 h),if_pos h];rfl
theorem qXl (a:List Int) (hb:Bts a):qnn a=some ((qEo a).1,(qEo a).2.2):=by rw [qMu,qnt a hb];rfl
def Std (a:List Int) (e:Nat):Nat→List qha→List qda→Prop
 |p,h::hs,x::bs=>rdB (a.drop p)=(x,(41+h.2.2.2.2.1,0))∧x.1=h∧hOK h∧p≤a.length∧Std a e (p+(41+h.2.2.2.2.1).toNat) hs bs
 |p,[],[]=>p=e
 |_,_,_=>False
theorem qwB (a:List Int) (s:qoa) (rs:List qaa):∀(ps:List qia) (p:Nat) (hs:List qha) (bs:List qda),p≤a.length→(qIw a s rs ps p hs bs).2.2=0→
  ∃hs' bs',qIw a s rs ps p hs bs=((s,(rs,(hs++hs',()))),(bs++bs',0))∧Std a a.length p hs' bs'∧hs'.length=ps.length∧bs'.length=ps.length∧ckL hs' ps=0
 |[],p,hs,bs,hp,h=>by
  simp only [qIw] at h ⊢
  by_cases hlt:p<a.length
  ·rw [if_pos hlt] at h;simp at h
  ·rw [if_neg hlt]
   exact ⟨[],[],by simp,by unfold Std;omega,rfl,rfl,rfl⟩
 |x::ps,p,hs,bs,hp,h=>by
  simp only [qIw] at h ⊢
  by_cases hr:(rdB (a.drop p)).2.2=0
  ·have hk:=qZw hr
   have hlen:=qxh hk.1
   have hle:=hk.2.2.1
   rw [List.length_drop] at hle
   rw [if_neg (fun k=>k hr)] at h ⊢
   by_cases hi:isP (rdB (a.drop p)).1.1 x
   ·rw [if_neg (fun k=>k hi)] at h ⊢
    obtain ⟨hs',bs',e1,e2,e3,e4,e5⟩:=qwB a s rs ps _ _ _ (by omega) h
    refine ⟨(rdB (a.drop p)).1.1::hs',(rdB (a.drop p)).1::bs',by rw [e1];simp,?_,by simp [e3],by simp [e4],?_⟩
    ·refine ⟨Prod.ext rfl (Prod.ext hk.2.1 hr),rfl,hk.1,hp,?_⟩
     rw [←hk.2.1];exact e2
    ·simp only [ckL];rw [if_pos ⟨hk.1,hi⟩];exact e5
   ·rw [if_pos hi] at h;simp at h
  ·rw [if_pos hr] at h;exact absurd h hr
structure AllOK (a:List Int) (rs:List qaa) (q:Nat) (hs:List qha) (bs:List qda):Prop where
 head:HeadOK a rs q
 eq:qEo a=((sH a,(rs,(hs,()))),(bs,0))
 std:Std a a.length (28+q) hs bs
 hlen:hs.length=(ap (sH a).2.1 0 rs).length
 blen:bs.length=(ap (sH a).2.1 0 rs).length
 ck:ckL hs (ap (sH a).2.1 0 rs)=0
theorem qjE {a:List Int} (hb:Bts a) (h:(qEo a).2.2=0):∃rs q hs bs,AllOK a rs q hs bs:=by
 unfold qEo at h
 by_cases hh:(hdP a).2.2.2=0
 ·obtain ⟨l,q,hO⟩:=qCA hb hh
  rw [if_neg (fun k=>k hh),hO.eq] at h
  simp only at h
  rw [show ((28+(q:Int))).toNat=28+q by omega] at h
  obtain ⟨hs,bs,e1,e2,e3,e4,e5⟩:=qwB a _ _ _ _ _ _ hO.le h
  refine ⟨l,q,hs,bs,hO,?_,e2,e3,e4,e5⟩
  unfold qEo
  rw [if_neg (fun k=>k hh),hO.eq]
  simp only
  rw [show ((28+(q:Int))).toNat=28+q by omega,e1]
  simp
 ·rw [if_pos hh] at h;exact absurd h hh
def s2:qoa:=(2,(16,()))
theorem qIC {a:List Int} {rs q hs bs} (h:AllOK a rs q hs bs):lck (sH a,(rs,(hs,())))=0:=by
 unfold lck
 rw [if_neg (fun k=>k h.head.chk),if_neg (fun k=>k h.head.read.val),if_neg (fun k=>k h.hlen.symm)]
 exact h.ck
theorem qHv (s:ByteArray):qPb (qCb s)=s:=by
 have h:=qaj (xs:=qCb s) (qAu s)
 have e:(qCb s).map (fun n=>UInt8.ofNat n.toNat)=s.data.toList:=by
  unfold qCb
  rw [List.map_map]
  refine (List.map_congr_left (fun b _=>?_)).trans (List.map_id _)
  simp
 unfold qPb
 rw [e]
theorem qmo (a:List Int) (p i:Nat):(a.drop p).getD i 0=a.getD (p+i) 0:=by simp [List.getD_eq_getElem?_getD]
theorem qGD {r:qaa} (h1:r.1.size≤40) (h2:0≤r.2.1∧r.2.1≤8192) (h3:r.2.2.1.length=20):qnu r=(r.1.size:Int)::(qCb r.1++(r.2.1/256::r.2.1%256::r.2.2.1)):=by
 unfold qnu
 rw [List.drop_zero,List.take_of_length_le (by omega),wu8,wu8,wu8,qtn _ (by omega)]
 have e1:(r.1.size:Int)%256=r.1.size:=by omega
 have e2:r.2.1/256%256=r.2.1/256:=by omega
 rw [e1,e2]
 simp only [List.append_assoc,List.cons_append,List.nil_append]
theorem qcC {r:qaa} (h1:r.1.size≤40) (h2:0≤r.2.1∧r.2.1≤8192) (h3:r.2.2.1.length=20) {a post:List Int} {p:Nat} (ha:a.drop p=qnu r++post):rF a p∧rK a p=r.1.size∧rR a p=r:=by
 have hB:=qGD h1 h2 h3
 have hl:(qCb r.1).length=r.1.size:=qxg _
 have hal:=congrArg List.length ha
 rw [List.length_drop,List.length_append,qYi r h3] at hal
 have g0:a.getD p 0=r.1.size:=by
  have e:=qmo a p 0
  rw [ha,hB] at e
  exact e.symm
 have hk:rK a p=r.1.size:=by unfold rK;rw [g0];omega
 have d1:a.drop (p+1)=qCb r.1++(r.2.1/256::r.2.1%256::(r.2.2.1++post)):=by
  rw [←List.drop_drop,ha,hB]
  simp only [List.cons_append,List.drop_succ_cons,List.drop_zero,List.append_assoc]
 have d2:a.drop (p+1+r.1.size)=r.2.1/256::r.2.1%256::(r.2.2.1++post):=by
  rw [←List.drop_drop,d1,←hl,List.drop_left]
 have g1:a.getD (p+1+r.1.size) 0=r.2.1/256:=by
  have e:=qmo a (p+1+r.1.size) 0
  rw [d2] at e
  exact e.symm
 have g2:a.getD (p+2+r.1.size) 0=r.2.1%256:=by
  have:=qmo a (p+1+r.1.size) 1
  rw [show p+2+r.1.size=p+1+r.1.size+1 by omega,←this,d2];rfl
 have d3:a.drop (p+3+r.1.size)=r.2.2.1++post:=by
  rw [show p+3+r.1.size=p+1+r.1.size+2 by omega,←List.drop_drop,d2];rfl
 refine ⟨⟨by omega,by rw [hk];omega⟩,hk,?_⟩
 unfold rR
 rw [hk,d1,g1,g2,d3,←hl,List.take_left,qHv,show r.2.1/256*256+r.2.1%256=r.2.1 by omega,←h3,List.take_left]
theorem qlu (a post:List Int):∀(rs acc:List qaa) (p:Nat),(∀r∈rs,r.1.size≤40∧(0≤r.2.1∧r.2.1≤8192))→SumsOK rs→qZc (acc++rs)=0→a.drop p=qtb rs++post→
  qYs a rs.length p acc=(acc++rs,(((p+(qtb rs).length:Nat):Int),0))
 |[],acc,p,h,hS,hv,ha=>by
  rw [List.append_nil] at hv
  rw [List.length_nil,qYs,if_neg (fun k=>k hv),List.append_nil]
  rfl
 |r::rs,acc,p,h,hS,hv,ha=>by
  have h1:=h r List.mem_cons_self
  have h3:=hS r List.mem_cons_self
  rw [qtb,List.append_assoc] at ha
  obtain ⟨hf,hk,hR⟩:=qcC h1.1 h1.2 h3.1 ha
  have hl:=qYi r h3.1
  have e:a.drop (p+rK a p+23)=qtb rs++post:=by
   rw [hk,show p+r.1.size+23=p+(qnu r).length by omega,←List.drop_drop,ha,List.drop_left]
  have e2:acc++r::rs=(acc++[r])++rs:=by rw [List.append_assoc];rfl
  have ih:=qlu a post rs (acc++[r]) (p+rK a p+23) (fun q hq=>h q (List.mem_cons_of_mem _ hq)) (fun q hq=>hS q (List.mem_cons_of_mem _ hq)) (by rw [←e2];exact hv) e
  rw [List.length_cons,qYs,if_pos hf,hR,ih,e2]
  refine Prod.ext rfl (Prod.ext ?_ rfl)
  simp only
  rw [qtb,List.length_append]
  omega
theorem qAA {s:qoa} {rs:List qaa} {post:List Int} (hc:chk s=0) (hv:qZc rs=0) (hS:SumsOK rs) (hl:post.length≤40000):hdP (qAf s rs++post)=(s,(rs,(28+((qtb rs).length:Int),0))):=by
 have hRV:=qoc hv
 have h16:=hRV.len
 have hchk:0≤s.1∧s.1≤7∧16≤s.2.1∧s.2.1≤4096:=by
  unfold chk at hc;split at hc
  ·assumption
  ·cases hc
 have key:∀(rs:List qaa),SumsOK rs→(∀r∈rs,r.1.size≤40)→(qtb rs).length≤63*rs.length:=by
  intro rs
  induction rs with
  |nil=>intro _ _;exact Nat.le_refl _
  |cons r rs ih=>
   intro hS h
   have h1:=qYi r (hS r List.mem_cons_self).1
   have h2:=h r List.mem_cons_self
   have h3:=ih (fun q hq=>hS q (List.mem_cons_of_mem _ hq)) (fun q hq=>h q (List.mem_cons_of_mem _ hq))
   rw [qtb,List.length_append,List.length_cons]
   omega
 have hrl:=key rs hS (fun r hr=>(hRV.each r hr).2.2)
 have eF:qkr s rs.length=[66,76,70,1,s.1,s.2.1/256,s.2.1%256,(rs.length:Int)]:=by
  unfold qkr
  rw [wu8,wu8,wu8,wu8,qtn _ (by omega)]
  have e1:s.1%256=s.1:=by omega
  have e2:s.2.1/256%256=s.2.1/256:=by omega
  have e3:(rs.length:Int)%256=rs.length:=by omega
  rw [e1,e2,e3]
 have hbl:(qlf s rs).length=8+(qtb rs).length:=by unfold qlf;rw [List.length_append,eF];rfl
 have ea:qAf s rs++post=[66,76,70,1,s.1,s.2.1/256,s.2.1%256,(rs.length:Int)]++(qtb rs++(qLg (qlf s rs)++post)):=by
  have hB:qlf s rs=[66,76,70,1,s.1,s.2.1/256,s.2.1%256,(rs.length:Int)]++qtb rs:=by unfold qlf;rw [eF]
  unfold qAf
  rw [List.append_assoc]
  generalize qLg (qlf s rs)=hh
  rw [hB,List.append_assoc]
 have eb:qAf s rs++post=qlf s rs++(qLg (qlf s rs)++post):=by unfold qAf;rw [List.append_assoc]
 have hsl:(qLg (qlf s rs)).length=20:=qpf _
 generalize ha:qAf s rs++post=a at*
 have hal:a.length=28+(qtb rs).length+post.length:=by rw [eb,List.length_append,List.length_append,hbl,hsl];omega
 have g4:a.getD 4 0=s.1:=by rw [ea];rfl
 have g5:a.getD 5 0=s.2.1/256:=by rw [ea];rfl
 have g6:a.getD 6 0=s.2.1%256:=by rw [ea];rfl
 have g7:a.getD 7 0=rs.length:=by rw [ea];rfl
 have d8:a.drop 8=qtb rs++(qLg (qlf s rs)++post):=by rw [ea];rfl
 have t4:a.take 4=magic:=by rw [ea];rfl
 have esH:sH a=s:=by
  unfold sH
  rw [g4,g5,g6,show s.2.1/256*256+s.2.1%256=s.2.1 by omega]
 have hrd:rdM (a.drop 8) (a.getD 7 0)=(rs,(((qtb rs).length:Int),0)):=by
  have h8:(a.drop 8).length≤50000:=by rw [List.length_drop];omega
  have:=qlu (a.drop 8) (qLg (qlf s rs)++post) rs [] 0 (fun r hr=>⟨(hRV.each r hr).2.2,(hRV.each r hr).1,(hRV.each r hr).2.1⟩) hS hv (by rw [List.drop_zero,d8])
  unfold rdM
  rw [if_neg (by omega),if_neg (by omega),g7,show ((rs.length:Int)).toNat=rs.length by omega,this,Nat.zero_add,List.nil_append]
 have e8:a.take (8+(qtb rs).length)=qlf s rs:=by rw [eb,←hbl,List.take_left]
 have e9:(a.drop (8+(qtb rs).length)).take 20=qLg (qlf s rs):=by rw [eb,←hbl,List.drop_left,←hsl,List.take_left]
 unfold hdP
 rw [hrd,esH]
 simp only
 rw [if_neg (by omega),if_neg (by omega),if_neg (fun h=>by
  rcases h with h|h|h
  ·exact h t4
  ·exact h hc
  ·omega),if_neg (fun h=>h rfl),if_neg (by omega),show ((((qtb rs).length:Nat):Int)).toNat=(qtb rs).length by omega,e8,e9,if_neg (fun h=>h rfl)]
def qbh:List qda→List Int
 |[]=>[]
 |b::bs=>bB b++qbh bs
def Fit:List qda→List qia→Prop
 |[],[]=>True
 |b::bs,p::ps=>(bC b=0∧bWf b∧isP b.1 p)∧Fit bs ps
 |_,_=>False
theorem qZo {b:qda} (h:bWf b):(bB b).length=41+b.2.1.length:=by
 unfold bB hB
 simp only [List.length_append,qvf,qvm,h.2]
theorem qMx (s:qoa) (rs:List qaa) (a:List Int) (hal:a.length≤40000):∀(bs:List qda) (ps:List qia) (p:Nat) (hs:List qha) (cs:List qda),Fit bs ps→p≤a.length→a.drop p=qbh bs→
  qIw a s rs ps p hs cs=((s,(rs,(hs++bs.map (·.1),()))),(cs++bs,0))
 |[],[],p,hs,cs,hF,hp,ha=>by
  have:=congrArg List.length ha
  rw [List.length_drop] at this
  have h0:(qbh []).length=0:=rfl
  unfold qIw
  rw [if_neg (by omega),List.map_nil,List.append_nil,List.append_nil]
 |[],p0::ps,p,hs,cs,hF,hp,ha=>by cases hF
 |b::bs,[],p,hs,cs,hF,hp,ha=>by cases hF
 |b::bs,p0::ps,p,hs,cs,hF,hp,ha=>by
  obtain ⟨⟨h1,h2,h3⟩,hF'⟩:=hF
  have hlen:=congrArg List.length ha
  rw [List.length_drop,qbh,List.length_append,qZo h2] at hlen
  have hrd:rdB (a.drop p)=(b,(b.1.2.2.2.2.1+41,0)):=by
   rw [ha,qbh]
   exact qIF h1 h2 (by omega)
  have ok:hOK b.1∧(b.2.1.length:Int)=b.1.2.2.2.2.1:=by
   unfold bC at h1;split at h1
   ·assumption
   ·cases h1
  have ih:=qMx s rs a hal bs ps (p+(b.1.2.2.2.2.1+41).toNat) (hs++[b.1]) (cs++[b]) hF' (by omega) (by
   rw [←List.drop_drop,ha,qbh,show (b.1.2.2.2.2.1+41).toNat=(bB b).length by rw [qZo h2];omega,List.drop_left])
  unfold qIw
  rw [hrd,if_neg (fun k=>k rfl),if_neg (fun k=>k h3),ih,List.map_cons,List.append_assoc,List.append_assoc]
  rfl
def qWk (s:qoa) (rs:List qaa) (bs:List qda):List Int:=qAf s rs++qbh bs
theorem qhl {s:qoa} {rs:List qaa}:(qAf s rs).length=28+(qtb rs).length:=by
 unfold qAf qlf
 rw [List.length_append,List.length_append,qpf]
 show 8+_+20=_
 omega
theorem qyv {s:qoa} {rs:List qaa} {bs:List qda} (hc:chk s=0) (hv:qZc rs=0) (hS:SumsOK rs) (hF:Fit bs (ap s.2.1 0 rs)) (hl:(qWk s rs bs).length≤40000):qEo (qWk s rs bs)=((s,(rs,(bs.map (·.1),()))),(bs,0)):=by
 have hl2:(qWk s rs bs).length=28+(qtb rs).length+(qbh bs).length:=by unfold qWk;rw [List.length_append,qhl]
 have hh:hdP (qWk s rs bs)=(s,(rs,(28+((qtb rs).length:Int),0))):=qAA hc hv hS (by omega)
 have hd:(qWk s rs bs).drop (28+(qtb rs).length)=qbh bs:=by unfold qWk;rw [←qhl (s:=s),List.drop_left]
 have:=qMx s rs (qWk s rs bs) hl bs (ap s.2.1 0 rs) (28+(qtb rs).length) [] [] hF (by omega) hd
 unfold qEo
 rw [hh,if_neg (fun k=>k rfl)]
 simp only
 rw [show (28+((qtb rs).length:Int)).toNat=28+(qtb rs).length by omega,this,List.nil_append,List.nil_append]
open Classical
def Gen (D:Nat→List Int) (q:qpa):Prop:=0≤q.1.1∧0≤q.1.2.1∧q.1.2.1.toNat+q.2.1.length≤(D q.1.1.toNat).length∧q.2.1=((D q.1.1.toNat).drop q.1.2.1.toNat).take q.2.1.length
def InP (rs:List qaa) (i0:Int) (p:qia):Prop:=i0≤p.1∧p.1<i0+rs.length∧0≤p.2.1∧1≤p.2.2.1∧p.2.1+p.2.2.1≤(rs.getD (p.1 - i0).toNat (qja qba)).2.1
theorem qCs (i n s:Int) (hs:1≤s):∀(k:Nat) (off:Int),0≤off→∀p∈pcs i n s k off,p.1=i∧off≤p.2.1∧1≤p.2.2.1∧p.2.2.1≤s∧p.2.1+p.2.2.1≤n
 |0,off,h0,p,hp=>by cases hp
 |k+1,off,h0,p,hp=>by
  rw [pcs] at hp
  by_cases h:off<n
  ·rw [if_pos h] at hp
   rcases List.mem_cons.1 hp with rfl|hp
   ·refine ⟨rfl,Int.le_refl _,?_⟩
    simp only
    split <;> omega
   ·obtain ⟨a,b,c,d,e⟩:=qCs i n s hs k (off+s) (by omega) p hp
    exact ⟨a,by omega,c,d,e⟩
  ·rw [if_neg h] at hp;cases hp
theorem qHC (s:Int) (hs:1≤s):∀(rs:List qaa) (i0:Int),∀p∈ap s i0 rs,InP rs i0 p∧p.2.2.1≤s
 |[],i0,p,hp=>by cases hp
 |r::rs,i0,p,hp=>by
  rw [ap] at hp
  rcases List.mem_append.1 hp with hp|hp
  ·obtain ⟨a,b,c,d,e⟩:=qCs i0 r.2.1 s hs 8200 0 (Int.le_refl _) p hp
   refine ⟨⟨by omega,by rw [List.length_cons];omega,by omega,c,?_⟩,d⟩
   rw [show (p.1 - i0).toNat=0 by omega]
   exact e
  ·obtain ⟨⟨a,b,c,d,e⟩,f⟩:=qHC s hs rs (i0+1) p hp
   refine ⟨⟨by omega,by rw [List.length_cons];omega,c,d,?_⟩,f⟩
   rw [show (p.1 - i0).toNat=(p.1 - (i0+1)).toNat+1 by omega,List.getD_cons_succ]
   exact e
def ptD (D:Nat→List Int) (p:qia):qpa:=(p,((((D p.1.toNat).drop p.2.1.toNat).take p.2.2.1.toNat),()))
theorem qLD {D:Nat→List Int} {rs:List qaa} (hD:∀i,i<rs.length→((D i).length:Int)=(rs.getD i (qja qba)).2.1) {p:qia} (h:InP rs 0 p):Gen D (ptD D p)∧((ptD D p).2.1.length:Int)=p.2.2.1:=by
 obtain ⟨a,b,c,d,e⟩:=h
 rw [Int.sub_zero] at e
 have hl:=hD p.1.toNat (by omega)
 have hlen:(ptD D p).2.1.length=p.2.2.1.toNat:=by
  unfold ptD
  simp only [List.length_take,List.length_drop]
  omega
 refine ⟨⟨a,c,?_,?_⟩,by omega⟩
 ·rw [hlen]
  show p.2.1.toNat+p.2.2.1.toNat≤(D p.1.toNat).length
  omega
 ·rw [hlen];rfl
def stB (D:Nat→List Int) (p:qia):qda:=qIg p.1 p.2.1 (ptD D p).2.1
open Classical
structure Arc (D:Nat→List Int) (rs:List qaa):Prop where
 val:qZc rs=0
 sums:SumsOK rs
 sz:∀i,i<rs.length→((D i).length:Int)=(rs.getD i (qja qba)).2.1
 sum:∀i,i<rs.length→(rs.getD i (qja qba)).2.2.1=qLg (D i)
 bts:∀i,Bts (D i)
def psA (rs:List qaa):List qia:=ap 16 0 rs
def bsA (D:Nat→List Int) (rs:List qaa):List qda:=(psA rs).map (stB D)
def sA:qoa:=(0,(16,()))
def qMm (D:Nat→List Int) (rs:List qaa):List Int:=qWk sA rs (bsA D rs)
theorem Arc.piece {D:Nat→List Int} {rs:List qaa} (h:Arc D rs) {p:qia} (hp:p∈psA rs):InP rs 0 p∧p.2.2.1≤16∧mOK p.1 p.2.1 (ptD D p).2.1∧Bts (ptD D p).2.1∧((ptD D p).2.1.length:Int)=p.2.2.1∧Gen D (ptD D p):=by
 have hV:=qoc h.val
 obtain ⟨hi,h16⟩:=qHC 16 (by decide) rs 0 p hp
 obtain ⟨g,gl⟩:=qLD h.sz hi
 have hl:=hV.len
 obtain ⟨a,b,c,d,e⟩:=id hi
 have hm:rs.getD (p.1 - 0).toNat (qja qba)∈rs:=qZg (P:=fun r=>r∈rs) (fun r hr=>hr) _ (by omega)
 have hr:=(hV.each _ hm).2.1
 refine ⟨hi,h16,?_,((h.bts _).drop _).take _,gl,g⟩
 unfold mOK
 refine ⟨?_,?_,?_,?_,?_,?_⟩ <;> omega
theorem Arc.fit {D:Nat→List Int} {rs:List qaa} (h:Arc D rs):∀ps:List qia,(∀p∈ps,p∈psA rs)→Fit (ps.map (stB D)) ps
 |[],_=>trivial
 |p::ps,hp=>by
  obtain ⟨a,b,c,d,e,f⟩:=h.piece (hp p List.mem_cons_self)
  exact ⟨⟨qcu c,qdh _ _ _,rfl,rfl,e⟩,h.fit ps (fun q hq=>hp q (List.mem_cons_of_mem _ hq))⟩
theorem qOx (D:Nat→List Int):∀ps:List qia,(∀p∈ps,1≤(ptD D p).2.1.length∧((ptD D p).2.1.length:Int)=p.2.2.1)→((qbh (ps.map (stB D))).length:Int)≤42*(ps.map (fun p=>p.2.2.1)).foldr (·+·) 0
 |[],_=>by show (0:Int)≤42*0;decide
 |p::ps,h=>by
  have h1:=h p List.mem_cons_self
  have ih:=qOx D ps (fun q hq=>h q (List.mem_cons_of_mem _ hq))
  have hb:=qZo (b:=stB D p) (qdh _ _ _)
  have hz:(stB D p).2.1.length=(ptD D p).2.1.length:=rfl
  rw [List.map_cons,qbh,List.length_append,hb,hz,List.map_cons,List.foldr_cons]
  omega
theorem qZz (i n s:Int) (hs:1≤s):∀(k:Nat) (off:Int),0≤off→off≤n→((pcs i n s k off).map (fun p=>p.2.2.1)).foldr (·+·) 0≤n - off
 |0,off,_,h=>by show (0:Int)≤n - off;omega
 |k+1,off,h0,h=>by
  rw [pcs]
  by_cases hlt:off<n
  ·rw [if_pos hlt,List.map_cons,List.foldr_cons]
   by_cases h2:s<n - off
   ·have:=qZz i n s hs k (off+s) (by omega) (by omega)
    simp only
    rw [if_pos h2]
    omega
   ·have hn:pcs i n s k (off+s)=[]:=by
     cases k with
     |zero=>rfl
     |succ k=>rw [pcs,if_neg (by omega)]
    simp only
    rw [if_neg h2,hn]
    show (n - off)+0≤n - off
    omega
  ·rw [if_neg hlt]
   show (0:Int)≤n - off
   omega
theorem qJA (a b:List Int):(a++b).foldr (·+·) 0=a.foldr (·+·) 0+b.foldr (·+·) 0:=by
 induction a with
 |nil=>show b.foldr (·+·) 0=0+b.foldr (·+·) 0;omega
 |cons x a ih=>rw [List.cons_append,List.foldr_cons,List.foldr_cons,ih];omega
theorem qqD (s:Int) (hs:1≤s):∀(rs:List qaa) (i:Int),(∀r∈rs,0≤r.2.1)→((ap s i rs).map (fun p=>p.2.2.1)).foldr (·+·) 0≤tot rs
 |[],i,_=>by show (0:Int)≤0;decide
 |r::rs,i,h=>by
  have h1:=qZz i r.2.1 s hs 8200 0 (Int.le_refl _) (h r List.mem_cons_self)
  have ih:=qqD s hs rs (i+1) (fun q hq=>h q (List.mem_cons_of_mem _ hq))
  rw [ap,List.map_append,qJA,tot]
  omega
theorem qpq:∀(rs:List qaa),SumsOK rs→(∀r∈rs,r.1.size≤40)→(qtb rs).length≤63*rs.length
 |[],_,_=>Nat.le_refl _
 |r::rs,hS,h=>by
  have h1:=qYi r (hS r List.mem_cons_self).1
  have h2:=h r List.mem_cons_self
  have h3:=qpq rs (fun q hq=>hS q (List.mem_cons_of_mem _ hq)) (fun q hq=>h q (List.mem_cons_of_mem _ hq))
  rw [qtb,List.length_append,List.length_cons]
  omega
theorem Arc.len {D:Nat→List Int} {rs:List qaa} (h:Arc D rs) (ht:tot rs≤80):(qMm D rs).length≤5000∧(qMm D rs).length=28+(qtb rs).length+(qbh (bsA D rs)).length∧(psA rs).length≤80:=by
 have hV:=qoc h.val
 have hl:=hV.len
 have h1:=qpq rs h.sums (fun r hr=>(hV.each r hr).2.2)
 have h2:=qOx D (psA rs) (fun p hp=>by
  obtain ⟨a,b,c,d,e,f⟩:=h.piece hp
  exact ⟨c.2.2.1,e⟩)
 have h3:=qqD 16 (by decide) rs 0 (fun r hr=>(hV.each r hr).1)
 have e:(qMm D rs).length=28+(qtb rs).length+(qbh (bsA D rs)).length:=by unfold qMm qWk;rw [List.length_append,qhl]
 have key:∀ps:List qia,(∀p∈ps,1≤p.2.2.1)→(ps.length:Int)≤(ps.map (fun p=>p.2.2.1)).foldr (·+·) 0:=by
  intro ps
  induction ps with
  |nil=>intro _;show (0:Int)≤0;decide
  |cons p ps ih=>
   intro hp
   have:=ih (fun q hq=>hp q (List.mem_cons_of_mem _ hq))
   have:=hp p List.mem_cons_self
   rw [List.map_cons,List.foldr_cons,List.length_cons]
   omega
 have h4:=key (psA rs) (fun p hp=>(h.piece hp).1.2.2.2.1)
 unfold bsA at e
 have e3:((psA rs).map (fun p=>p.2.2.1)).foldr (·+·) 0≤tot rs:=h3
 refine ⟨?_,e,?_⟩ <;> omega
theorem Arc.read {D:Nat→List Int} {rs:List qaa} (h:Arc D rs) (ht:tot rs≤80):qEo (qMm D rs)=((sA,(rs,((bsA D rs).map (·.1),()))),(bsA D rs,0)):=
 qyv (s:=sA) (by decide) h.val h.sums (h.fit (psA rs) (fun p hp=>hp)) (by have:=(h.len ht).1;unfold qMm at this;omega)
def qKz (m:qna):qaa:=(m.1,((m.2.1.length:Int),(qLg m.2.1,())))
def recs (l:List qna):List qaa:=l.map qKz
structure MemsOK (l:List qna):Prop where
 nm:∀m∈l,m.1.size≤9223372036854775807
 ln:∀m∈l,m.2.1.length≤140737488355328
 bt:∀m∈l,Bts m.2.1
theorem qjn (l:List qna) {i:Nat} (h:i<l.length):l.drop i=l.getD i (qja T_api_Member)::l.drop (i+1)∧l.getD i (qja T_api_Member)∈l∧l.take (i+1)=l.take i++[l.getD i (qja T_api_Member)]:=
 ⟨(qBa (qja T_api_Member) h).1,(qBa (qja T_api_Member) h).2.2,(qBa (qja T_api_Member) h).2.1⟩
theorem qXg (l:List qna):(recs l).length=l.length:=List.length_map ..
theorem qOi:∀l:List qna,0≤tot (recs l)
 |[]=>Int.le_refl _
 |m::l=>by
  have:=qOi l
  show 0≤(m.2.1.length:Int)+tot (recs l)
  omega
theorem qDs (l:List qna) (i:Nat) (h:i<l.length):(l.getD i (qja T_api_Member)).1=(names (recs l)).getD i ByteArray.empty:=by
 unfold names recs
 rw [List.map_map,List.getD_eq_getElem?_getD,List.getD_eq_getElem?_getD,List.getElem?_map,List.getElem?_eq_getElem h]
 rfl
theorem qco (l:List qna):(names (recs l)).length=l.length:=by unfold names;rw [List.length_map,qXg]
theorem qWx (l:List qna) (hn:l.length≤16) (i:Nat) (hi:i<l.length):∀(k j:Nat),j+k=i→qAc l (i:Int) (j:Int)=if qHu ((names (recs l)).getD i ByteArray.empty) (((names (recs l)).take i).drop j) then some 14 else qmb l ((i:Int)+1)
 |0,j,e=>by
  have hd:((names (recs l)).take i).drop j=[]:=List.drop_eq_nil_of_le (by rw [List.length_take];omega)
  rw [qbf,if_neg (by simp;omega),hd,w64 (by omega) (by omega)]
  simp [qHu]
 |k+1,j,e=>by
  have hl':Int.ofNat l.length=(l.length:Int):=rfl
  have hnl:=qco l
  have ih:=qWx l hn i hi k (j+1) (by omega)
  rw [show ((j+1:Nat):Int)=(j:Int)+1 by omega] at ih
  rw [qbf,if_pos (by simp;omega),qea (by omega),qea (by rw [hl'];omega),qea (by omega),qea (by rw [hl'];omega),Int.toNat_natCast,Int.toNat_natCast,qDs l j (by omega),qDs l i hi,w64 (x:=(j:Int)+1) (by omega) (by omega),ih,qGu (j:=j) (i:=i) (by omega) (by omega),qRF]
  by_cases h:(names (recs l)).getD j ByteArray.empty=(names (recs l)).getD i ByteArray.empty
  ·rw [decide_eq_true h,decide_eq_true h.symm];simp
  ·rw [decide_eq_false h,decide_eq_false (fun e=>h e.symm)];simp
theorem qXx (l:List qna) (hn:l.length≤16):∀(k i:Nat),i+k=l.length→qmb l (i:Int)=some (if qJs ((names (recs l)).take i) ((names (recs l)).drop i) then 14 else 0)
 |0,i,e=>by
  have hnl:=qco l
  rw [qcf,if_neg (by simp;omega),List.drop_eq_nil_of_le (by omega)];rfl
 |k+1,i,e=>by
  have hnl:=qco l
  obtain ⟨d1,d2⟩:=qDt (xs:=names (recs l)) (i:=i) (by omega)
  have ih:=qXx l hn k (i+1) (by omega)
  rw [show ((i+1:Nat):Int)=(i:Int)+1 by omega] at ih
  have h3:=qWx l hn i (by omega) i 0 (by omega)
  rw [qcf,if_pos (by simp;omega)]
  refine Eq.trans h3 ?_
  rw [ih,List.drop_zero,d1,qJs,←d2]
  cases qHu ((names (recs l)).getD i ByteArray.empty) ((names (recs l)).take i) <;> simp
theorem qYx (l:List qna) (hM:MemsOK l) (hn:l.length≤16):∀(k i:Nat),i+k=l.length→qHb l (i:Int)=if (l.drop i).all (fun m=>qty m.1)=true then qmb l 0 else some 8
 |0,i,e=>by
  rw [qdf,if_neg (by simp;omega),List.drop_eq_nil_of_le (by omega)]
  rfl
 |k+1,i,e=>by
  have hl':Int.ofNat l.length=(l.length:Int):=rfl
  obtain ⟨d1,d2,d3⟩:=qjn l (i:=i) (by omega)
  have ih:=qYx l hM hn k (i+1) (by omega)
  rw [show ((i+1:Nat):Int)=(i:Int)+1 by omega] at ih
  rw [qdf,if_pos (by simp;omega),qea (by omega),qea (by rw [hl'];omega),Int.toNat_natCast,d1,qZj _ (hM.nm _ d2),Option.bind_some,w64 (x:=(i:Int)+1) (by omega) (by omega),ih,List.all_cons]
  cases qty (l.getD i (qja T_api_Member)).1 with
  |false=>rfl
  |true=>rw [Bool.true_and];rfl
theorem qZx (l:List qna) (hM:MemsOK l) (hn:l.length≤16):∀(k i:Nat) (acc:Int),i+k=l.length→0≤acc→acc≤140737488355328*i→qBc l acc (i:Int)=if acc+tot (recs (l.drop i))>8192 then some 4 else qHb l 0
 |0,i,acc,e,a0,a1=>by
  rw [qef,if_neg (by simp;omega),List.drop_eq_nil_of_le (by omega)]
  have:tot (recs [])=0:=rfl
  rw [this,Int.add_zero]
  by_cases h:acc>8192
  ·rw [if_pos (by simpa using h),if_pos h]
  ·rw [if_neg (by simpa using h),if_neg h]
 |k+1,i,acc,e,a0,a1=>by
  have hl':Int.ofNat l.length=(l.length:Int):=rfl
  obtain ⟨d1,d2,d3⟩:=qjn l (i:=i) (by omega)
  have hln:=hM.ln _ d2
  have ih:=fun a h0 h1=>qZx l hM hn k (i+1) a (by omega) h0 h1
  rw [show ((i+1:Nat):Int)=(i:Int)+1 by omega] at ih
  rw [qef,if_pos (by simp;omega),qea (by omega),qea (by rw [hl'];omega),Int.toNat_natCast,d1]
  simp only [Int.ofNat_eq_natCast]
  rw [w64 (x:=(i:Int)+1) (by omega) (by omega),w64 (by omega) (by omega),ih _ (by omega) (by omega)]
  have e2:tot (recs (l.getD i (qja T_api_Member)::l.drop (i+1)))=((l.getD i (qja T_api_Member)).2.1.length:Int)+tot (recs (l.drop (i+1))):=rfl
  rw [e2,Int.add_assoc]
def mck (l:List qna):Int:=if l.length>16 then 4 else if tot (recs l)>8192 then 4 else if l.all (fun m=>qty m.1)=true then (if qJs [] (names (recs l)) then 14 else 0) else 8
theorem qZk (l:List qna) (hM:MemsOK l):qbb l=some (mck l):=by
 have hl':Int.ofNat l.length=(l.length:Int):=rfl
 rw [qHk,hl',mck]
 by_cases h:l.length>16
 ·rw [if_pos (by simp;omega),if_pos h]
 ·have h1:=qZx l hM (by omega) l.length 0 0 (by omega) (Int.le_refl _) (Int.le_refl _)
  have h2:=qYx l hM (by omega) l.length 0 (by omega)
  have h3:=qXx l (by omega) l.length 0 (by omega)
  rw [List.drop_zero] at h1 h2 h3
  rw [if_neg (by simp;omega),if_neg h]
  refine Eq.trans h1 ?_
  rw [Int.zero_add]
  by_cases ht:tot (recs l)>8192
  ·rw [if_pos ht,if_pos ht]
  ·rw [if_neg ht,if_neg ht]
   refine Eq.trans h2 ?_
   by_cases ha:l.all (fun m=>qty m.1)=true
   ·rw [if_pos ha,if_pos ha]
    exact h3
   ·rw [if_neg ha,if_neg ha]
theorem qPw:∀(l:List qna) (acc:Int) (nm:List ByteArray),l.all (fun m=>qty m.1)=true→0≤acc→acc+tot (recs l)≤8192→qJs [] (nm++names (recs l))=false→vld acc nm (recs l)=0
 |[],acc,nm,h1,h2,h3,h4=>by
  have e:tot (recs [])=0:=rfl
  have e2:names (recs [])=[]:=rfl
  rw [e] at h3
  rw [e2,List.append_nil] at h4
  show (if acc>8192 then 4 else if qJs [] nm then 14 else 0)=0
  rw [if_neg (by omega),if_neg (by rw [h4];decide)]
 |m::l,acc,nm,h1,h2,h3,h4=>by
  rw [List.all_cons,Bool.and_eq_true] at h1
  have e:tot (recs (m::l))=(m.2.1.length:Int)+tot (recs l):=rfl
  have hn:=qOi l
  rw [e] at h3
  have hb:¬qOs (qKz m)=true:=by
   unfold qOs
   have hs:(qKz m).2.1=(m.2.1.length:Int):=rfl
   rw [show (qKz m).1=m.1 from rfl,h1.1,hs,decide_eq_false (by omega),decide_eq_false (by omega)]
   by_cases h0:m.2.1.length=0
   ·have:m.2.1=[]:=List.length_eq_zero_iff.1 h0
    have e3:(qKz m).2.2.1=qLg []:=by show qLg m.2.1=_;rw [this]
    rw [e3]
    have:peq (.arr 20 (.int .u8)) (qLg []) (qLg [])=true:=qSw _
    rw [this];simp
   ·have:(((m.2.1.length:Nat):Int)==0)=false:=by rw [beq_eq_false_iff_ne];omega
    rw [this];simp
  show (if qOs (qKz m) then 8 else vld (acc+(qKz m).2.1) (nm++[(qKz m).1]) (recs l))=0
  rw [if_neg hb]
  refine qPw l _ _ h1.2 (by show 0≤acc+(m.2.1.length:Int);omega) (by show acc+(m.2.1.length:Int)+tot (recs l)≤8192;omega) ?_
  rw [List.append_assoc]
  exact h4
def qnb (l:List qna) (i:Nat):List Int:=(l.getD i (qja T_api_Member)).2.1
theorem qEp (l:List qna) (i:Nat) (h:i<l.length):(recs l).getD i (qja qba)=qKz (l.getD i (qja T_api_Member)):=by
 unfold recs
 rw [List.getD_eq_getElem?_getD,List.getElem?_map,List.getElem?_eq_getElem h,List.getD_eq_getElem?_getD,List.getElem?_eq_getElem h]
 rfl
theorem qxB {l:List qna} (hM:MemsOK l) (h:mck l=0):Arc (qnb l) (recs l)∧l.length≤16∧tot (recs l)≤8192:=by
 unfold mck at h
 by_cases h1:l.length>16
 ·rw [if_pos h1] at h;cases h
 rw [if_neg h1] at h
 by_cases h2:tot (recs l)>8192
 ·rw [if_pos h2] at h;cases h
 rw [if_neg h2] at h
 by_cases h3:l.all (fun m=>qty m.1)=true
 ·rw [if_pos h3] at h
  have h4:qJs [] (names (recs l))=false:=by
   cases hd:qJs [] (names (recs l)) with
   |false=>rfl
   |true=>rw [hd] at h;cases h
  refine ⟨⟨?_,fun r hr=>?_,fun i hi=>?_,fun i hi=>?_,fun i=>?_⟩,by omega,by omega⟩
  ·unfold qZc
   rw [qXg,if_neg h1]
   exact qPw l 0 [] h3 (Int.le_refl _) (by omega) h4
  ·obtain ⟨m,hm,rfl⟩:=List.mem_map.1 hr
   exact ⟨qpf _,qBp _⟩
  ·rw [qXg] at hi
   rw [qEp l i hi];rfl
  ·rw [qXg] at hi
   rw [qEp l i hi];rfl
  ·exact qZu (P:=fun m:qna=>Bts m.2.1) hM.bt Bts.nil i
 ·rw [if_neg h3] at h;cases h
theorem qGB (l:List qna) (hM:MemsOK l) (hn:l.length≤16) (hs:tot (recs l)≤8192):∀(k i:Nat),i+k=l.length→qud l (i:Int) (recs (l.take i))=some (recs l,0)
 |0,i,e=>by
  rw [qEg,if_neg (by simp;omega),List.take_of_length_le (by omega)]
 |k+1,i,e=>by
  have hl':Int.ofNat l.length=(l.length:Int):=rfl
  obtain ⟨d1,d2,d3⟩:=qjn l (i:=i) (by omega)
  have ih:=qGB l hM hn hs k (i+1) (by omega)
  have hmem:∀(l:List qna) (m:qna),m∈l→(m.2.1.length:Int)≤tot (recs l):=by
   intro l
   induction l with
   |nil=>intro m hm;cases hm
   |cons x l ih=>
    intro m hm
    have e:tot (recs (x::l))=(x.2.1.length:Int)+tot (recs l):=rfl
    have hnn:=qOi l
    rw [e]
    rcases List.mem_cons.1 hm with rfl|hm
    ·omega
    ·have:=ih m hm;omega
  have hml:=hmem l _ d2
  have hrec:qOe (l.getD i (qja T_api_Member))=some (qKz (l.getD i (qja T_api_Member))):=by
   rw [qFj,qJr _ (by omega)];rfl
  have ht:recs (l.take (i+1))=recs (l.take i)++[qKz (l.getD i (qja T_api_Member))]:=by
   rw [d3];unfold recs;rw [List.map_append];rfl
  have hrl:(recs (l.take i)).length=i:=by rw [qXg,List.length_take];omega
  rw [ht,show ((i+1:Nat):Int)=(i:Int)+1 by omega] at ih
  rw [qEg,if_pos (by simp;omega),qea (by omega),qea (by rw [hl'];omega),Int.toNat_natCast,hrec,Option.bind_some,qea (by rw [List.length_append,hrl];show (i+1)*48≤_;omega),w64 (x:=(i:Int)+1) (by omega) (by omega),ih]
theorem qFB (l:List qna) (hM:MemsOK l) (h:mck l=0):qEh l=some (recs l,0):=by
 obtain ⟨_,hn,hs⟩:=qxB hM h
 rw [qHn,qZk l hM,Option.bind_some,if_neg (by rw [h];decide)]
 exact qGB l hM hn hs l.length 0 (by omega)
theorem qKB (l:List qna):∀(k i:Nat),i+k=31→Tot (qlb l (i:Int)) fun g=>g=false→l.length≤30∧∀m∈l.drop i,m.2.1.length≤10000:=by
 have fin:∀i:Nat,(31≤i∨l.length≤i)→Tot (some (decide ((l.length:Int)>30))) fun g=>g=false→l.length≤30∧∀m∈l.drop i,m.2.1.length≤10000:=fun i hi=>Tot.so (fun e=>by
  have h:=of_decide_eq_false e
  refine ⟨by omega,fun m hm=>?_⟩
  rw [List.drop_of_length_le (by omega)] at hm
  cases hm)
 intro k
 induction k with
 |zero=>
  intro i e
  rw [qaf]
  exact Tot.ifd (fun _=>Tot.ifd_neg (by omega) (fin i (by omega))) (fun _=>fin i (by omega))
 |succ k ih=>
  intro i e
  have ih:=ih (i+1) (by omega)
  rw [show ((i+1:Nat):Int)=(i:Int)+1 by omega] at ih
  rw [qaf]
  simp only [Int.ofNat_eq_natCast,Int.toNat_natCast]
  rw [w64 (x:=(i:Int)+1) (by omega) (by omega)]
  refine Tot.ifd (fun h=>?_) (fun h=>fin i (by omega))
  obtain ⟨d1,d2,d3⟩:=qjn l (i:=i) (by omega)
  refine Tot.ifd_pos (by omega) (Tot.g (by omega) (Tot.g h ?_))
  refine Tot.ifd (fun _=>Tot.so (fun e=>by cases e)) (fun _=>Tot.g (by omega) (Tot.g h ?_))
  refine Tot.ifd (fun _=>Tot.so (fun e=>by cases e)) (fun hle=>Tot.g (by omega) (Tot.g h ?_))
  have nx:Tot (qlb l ((i:Int)+1)) fun g=>g=false→l.length≤30∧∀m∈l.drop i,m.2.1.length≤10000:=ih.mono (fun g hg e=>⟨(hg e).1,fun m hm=>by
   rw [d1] at hm
   rcases List.mem_cons.1 hm with rfl|hm
   ·omega
   ·exact (hg e).2 m hm⟩)
  refine Tot.ifd (fun _=>Tot.g (by omega) (Tot.g h ?_)) (fun _=>nx)
  exact Tot.ifd (fun _=>Tot.so (fun e=>by cases e)) (fun _=>nx)
theorem qRw:∀(a:List qna) (m:qna),tot (recs (a++[m]))=tot (recs a)+(m.2.1.length:Int)
 |[],m=>by show (m.2.1.length:Int)+0=0+(m.2.1.length:Int);omega
 |x::a,m=>by
  have:=qRw a m
  show (x.2.1.length:Int)+tot (recs (a++[m]))=(x.2.1.length:Int)+tot (recs a)+(m.2.1.length:Int)
  omega
theorem qLC:∀(l:List qna),(∀m∈l,m.2.1.length≤10000)→tot (recs l)≤10000*l.length
 |[],h=>Int.le_refl _
 |x::l,h=>by
  have h1:=h x List.mem_cons_self
  have:=qLC l (fun m hm=>h m (List.mem_cons_of_mem _ hm))
  show (x.2.1.length:Int)+tot (recs l)≤10000*((l.length+1:Nat):Int)
  omega
theorem qoE (l:List qna) (hnm:∀m∈l,m.1.size≤9223372036854775807) (hbt:∀m∈l,Bts m.2.1):∀(k i:Nat) (acc:Int),i+k=30→((∀m∈l,m.2.1.length≤10000)→acc=tot (recs (l.take i)))→Tot (qwc l acc (i:Int)) fun g=>g=true→(∀m∈l,m.2.1.length≤10000)∧(mck l=0→tot (recs l)≤80):=by
 have hG:Tot (qzc l) fun g=>g=false→l.length≤30∧∀m∈l,m.2.1.length≤10000:=by
  rw [qGk]
  have:=qKB l 31 0 (by omega)
  rw [List.drop_zero] at this
  exact this
 have fin:∀(i:Nat) (acc:Int),l.length≤i→((∀m∈l,m.2.1.length≤10000)→acc=tot (recs (l.take i)))→Tot (if (decide ((l.length:Int)≤30))=true then (qzc l).bind fun (r3:(Bool))=>if (not r3)=true then if (decide (acc≤80))=true then some (true) else (qbb l).bind fun (r4:(Int))=>some (r4 != 0) else some (false) else some (false)) fun g=>g=true→(∀m∈l,m.2.1.length≤10000)∧(mck l=0→tot (recs l)≤80):=by
  intro i acc hi hacc
  rw [List.take_of_length_le hi] at hacc
  refine Tot.ifd (fun _=>Tot.b hG (fun r hr=>Tot.ifn (fun h0=>?_) (fun _=>Tot.so (fun h=>by cases h)))) (fun _=>Tot.so (fun h=>by cases h))
  have hall:=(hr h0).2
  have hM:MemsOK l:=⟨hnm,fun m hm=>by have:=hall m hm;omega,hbt⟩
  have ha:=hacc hall
  exact Tot.ifd (fun h=>Tot.so (fun _=>⟨hall,fun _=>by omega⟩)) (fun _=>Tot.be (qZk l hM) (Tot.so (fun h=>⟨hall,fun k=>by rw [k] at h;exact absurd h (by decide)⟩)))
 intro k
 induction k with
 |zero=>
  intro i acc e ha
  rw [qUe]
  simp only [Int.ofNat_eq_natCast]
  refine Tot.ifd (fun h=>Tot.ifd_neg (by omega) (Tot.ifd_neg (by omega) (Tot.so (fun h=>by cases h)))) (fun h=>fin i acc (by omega) ha)
 |succ k ih=>
  intro i acc e ha
  rw [qUe]
  simp only [Int.ofNat_eq_natCast,Int.toNat_natCast]
  refine Tot.ifd (fun h=>Tot.ifd_pos (by omega) (Tot.g (by omega) (Tot.g h ?_))) (fun h=>fin i acc (by omega) ha)
  obtain ⟨d1,d2,d3⟩:=qjn l (i:=i) (by omega)
  rw [w64 (x:=(i:Int)+1) (by omega) (by omega),show (i:Int)+1=((i+1:Nat):Int) by omega]
  refine ih (i+1) _ (by omega) (fun hall=>?_)
  have h1:=ha hall
  have h2:=hall _ d2
  have h3:=qLC (l.take i) (fun m hm=>hall m (List.mem_of_mem_take hm))
  have h4:=qOi (l.take i)
  rw [List.length_take] at h3
  rw [d3,qRw,w64 (by omega) (by omega),h1]
theorem qcz (l:List qna) (hnm:∀m∈l,m.1.size≤9223372036854775807) (hbt:∀m∈l,Bts m.2.1):∃g,qEf l=some g∧(g=true→MemsOK l∧(mck l=0→tot (recs l)≤80)):=by
 have:=qoE l hnm hbt 30 0 0 (by omega) (fun _=>rfl)
 rw [qxk]
 obtain ⟨g,h1,h2⟩:=this
 exact ⟨g,h1,fun a=>⟨⟨hnm,fun m hm=>by have:=(h2 a).1 m hm;omega,hbt⟩,(h2 a).2⟩⟩
theorem qIB {a1 a2:Int} {z:List Int} (hl:z.length≤5000):qhg a1 a2 z z=some (qIg a1 a2 z):=by
 rw [qCl]
 simp only [Int.ofNat_eq_natCast,List.nil_append]
 exact Tot.eq (Tot.g (by omega) (Tot.ifd_neg (by omega) (Tot.be (qZm _ ⟨by show (0:Int)≤1;decide,by show (1:Int)<256;decide⟩ (by omega)) (Tot.so rfl))))
theorem qEv {b:qda} (hw:bWf b) (hl:b.2.1.length≤5000):qOf b=some (bB b):=by
 have h1:(mark++hB b.1).length=41:=by unfold hB;simp only [List.length_append,qvf,qvm,hw.2]
 rw [qLk]
 exact Tot.eq (Tot.be qrj (Tot.be (qjp b.1 hw.1 hw.2) (Tot.g (by omega) (Tot.g (by rw [List.length_append];omega) (Tot.so rfl)))))
theorem qJB (bs:List qda) (hb:∀b∈bs,bWf b∧b.2.1.length≤5000) (hl:bs.length≤10000):∀(k i:Nat) (out:List Int),i+k=bs.length→out.length≤10000+6000*i→qMc bs (i:Int) out=some (out++qbh (bs.drop i))
 |0,i,out,e,ho=>by
  rw [qFf,if_neg (by simp;omega),List.drop_eq_nil_of_le (by omega),qbh,List.append_nil]
 |k+1,i,out,e,ho=>by
  have hd:=qBa (qja qfa:qda) (xs:=bs) (i:=i) (by omega)
  have hx:=hb _ hd.2.2
  have ih:=fun out ho=>qJB bs hb hl k (i+1) out (by omega) ho
  rw [show ((i+1:Nat):Int)=(i:Int)+1 by omega] at ih
  rw [qFf]
  simp only [Int.ofNat_eq_natCast,Int.toNat_natCast]
  rw [hd.1,qbh,w64 (x:=(i:Int)+1) (by omega) (by omega)]
  generalize bs.getD i (qja qfa)=x at*
  have hxl:=qZo hx.1
  refine Tot.eq (Tot.ifd_pos (by omega) (Tot.g (by omega) (Tot.g (by omega) (Tot.be (qEv hx.1 hx.2) (Tot.g (by rw [List.length_append];omega) (Tot.of_eq (ih _ (by rw [List.length_append];omega)) ?_))))))
  rw [List.append_assoc]
theorem qAv {b:qda} (h1:b.1.1=1) (hc:bC b=0):qOg 0 b=some (if qLg (fr8 b.1++b.2.1)=b.1.2.2.2.2.2.1 then (b.2.1,0) else ([],22)):=by
 have ok:hOK b.1∧(b.2.1.length:Int)=b.1.2.2.2.2.1:=by
  unfold bC at hc;split at hc
  ·assumption
  ·cases hc
 have hlen:=qxh ok.1
 have hL:qNf 0=some true:=by
  rw [qJk]
  exact Tot.eq (Tot.ifd_pos (by decide) (Tot.so rfl))
 rw [qEm]
 simp only [List.nil_append]
 refine Tot.eq (Tot.be (qhp b) (Tot.ifne_neg hc (Tot.be hL (Tot.ifn (fun k=>absurd k (by decide)) (fun _=>Tot.g (by omega) (Tot.ifeq_neg (by omega) (Tot.be (qZm b.1 (by omega) (by omega)) ?_)))))))
 by_cases hs:qLg (fr8 b.1++b.2.1)=b.1.2.2.2.2.2.1
 ·rw [if_pos hs,hs,qSw]
  exact Tot.ifn (fun k=>absurd k (by decide)) (fun _=>Tot.so rfl)
 ·have:peq (.arr 20 (.int .u8)) (qLg (fr8 b.1++b.2.1)) b.1.2.2.2.2.2.1=false:=Bool.eq_false_iff.2 (fun h=>hs (qsu (t:= .arr 20 (.int .u8)) (by decide) h))
  rw [if_neg hs,this]
  exact Tot.ifn (fun _=>Tot.so rfl) (fun k=>absurd k (by decide))
instance (h:qha):Decidable (hOK h):=by unfold hOK;infer_instance
instance (h:qha) (p:qia):Decidable (isP h p):=by unfold isP;infer_instance
instance (a:List Int) (p:Nat):Decidable (rF a p):=by unfold rF;infer_instance
def qDF:qda:=(zH,([],()))
def qZy (a:List Int) (i:Int):qda×Int:=
 if (qEo a).2.2≠0 then (qDF,(qEo a).2.2) else if i<0 then (qDF,2) else if i≥((qEo a).2.1.length:Int) then (qDF,2) else ((qEo a).2.1.getD i.toNat (qja qfa),0)
theorem qan (a:List Int) (hb:Bts a) (i:Int):qrd a i=some (qZy a i):=by
 have hl':Int.ofNat (qEo a).2.1.length=((qEo a).2.1.length:Int):=rfl
 rw [qwk,qqu a hb]
 simp only [Option.bind_some,qZy]
 by_cases h:(qEo a).2.2=0
 ·rw [if_neg (by rw [h];decide),if_neg (show ¬(qEo a).2.2≠0 from fun k=>k h)]
  by_cases h1:i<0
  ·rw [if_pos (by simpa using h1),if_pos h1];rfl
  ·rw [if_neg (by simpa using h1),if_neg h1,hl']
   by_cases h2:i≥((qEo a).2.1.length:Int)
   ·rw [if_pos (by simpa using h2),if_pos h2];rfl
   ·rw [if_neg (by simpa using h2),if_neg h2,qea (by omega),qea (by omega),Nat.zero_add]
 ·rw [if_pos (bne_iff_ne.2 h),if_pos h];rfl
end Go.Ab

/-
  Extracting: blocks that are read, their parts.
-/
set_option linter.unusedVariables false
set_option linter.unusedSimpArgs false
set_option maxRecDepth 100000
namespace Go.Ab
open Go
attribute [local irreducible] IntKind.wrap
theorem qiA (a:List Int) (hb:Bts a) (s:qoa) (l:qua) (P:List Int) (hP:∀x∈P,0≤x∧x≤a.length) (hPl:P.length≤10000) (h12:List qaa) (h13:List qha):
  ∀(k i:Nat) (out:List qda),i+k=P.length→out.length=i→qBf a (P.length:Int) (i:Int) s () l out P h12 h13=some (l,(out++(P.drop i).map (fun x=>(rdK (a.drop x.toNat)).1),0))
 |0,i,out,e,ho=>by
  rw [qdi,if_neg (by simp;omega),List.drop_eq_nil_of_le (by omega),List.map_nil,List.append_nil]
 |k+1,i,out,e,ho=>by
  have hd:=qBa (0:Int) (xs:=P) (i:=i) (by omega)
  have hx:=hP _ hd.2.2
  have ih:=fun out ho=>qiA a hb s l P hP hPl h12 h13 k (i+1) out (by omega) ho
  rw [show ((i+1:Nat):Int)=(i:Int)+1 by omega] at ih
  rw [qdi]
  simp only [Int.ofNat_eq_natCast,Int.toNat_natCast,Nat.zero_add]
  rw [hd.1,List.map_cons,w64 (x:=(i:Int)+1) (by omega) (by omega)]
  generalize P.getD i 0=x at*
  refine Tot.eq (Tot.ifd_pos (by omega) (Tot.g (by omega) (Tot.g (by omega) (Tot.g (by omega) (Tot.g (by omega) (Tot.be (qCr _ (hb.drop _)) (Tot.g (by rw [List.length_append,List.length_singleton];omega) (Tot.of_eq (ih _ (by simp [ho])) ?_))))))))
  rw [List.append_assoc];rfl
theorem qhA {a:List Int} (hb:Bts a) {l:qua} {bs:List qda} (h:qEo a=(l,(bs,0))) (hR:RecsOK l.2.1) (hS:SumsOK l.2.1) (hL:lck l=0) (hP:∀x∈qru l,0≤x∧x≤a.length) (hPl:(qru l).length≤10000):
  qYc a=some (l,((qru l).map (fun x=>(rdK (a.drop x.toNat)).1),0)):=by
 have hp:=quj l hR hS
 rw [if_pos hL] at hp
 rw [qpr,qXl a hb,h]
 refine Tot.eq (Tot.be rfl (Tot.ifne_neg rfl (Tot.be hp ?_)))
 have:=qiA a hb (0,(0,())) l (qru l) hP hPl [] [] (qru l).length 0 [] (by omega) rfl
 exact Tot.of_eq this rfl
def qLr (b:qda):List Int×Int:=if qLg (fr8 b.1++b.2.1)=b.1.2.2.2.2.2.1 then (b.2.1,0) else ([],22)
def StB (b:qda):Prop:=b.1.1=1∧bC b=0∧Bts b.2.1
theorem StB.raw {lv:Int} (hl:0≤lv∧lv≤7) {b:qda} (h:StB b):qFn lv b=some (qLr b):=qdz hl h.1 h.2.1 h.2.2
def rsl:List qda→Nat→List qtc
 |[],_=>[]
 |b::r,i=>((i:Int),((qLr b).1,((qLr b).2,())))::rsl r (i+1)
def prt (b:qda):qpa:=((b.1.2.1,(b.1.2.2.1,(b.1.2.2.2.1,()))),(b.2.1,()))
def qFp:List qda→Option (List qpa)
 |[]=>some []
 |b::r=>if (qLr b).2≠0 then none else (qFp r).map (prt b::·)
def qND:Option (List qpa)→List qpa×Int
 |some l=>(l,0)
 |none=>([],22)
theorem qID {b:qda} (h:(qLr b).2=0):(qLr b).1=b.2.1:=by
 unfold qLr at h ⊢
 split
 ·rfl
 ·rename_i hh;rw [if_neg hh] at h;cases h
theorem qeC {b:qda} (h:(qLr b).2≠0):(qLr b).2=22:=by
 unfold qLr at h ⊢
 split
 ·rename_i hh;rw [if_pos hh] at h;exact absurd rfl h
 ·rfl
theorem qgx (bs:List qda) (n8:Nat) (hl:bs.length≤10000):∀(k i:Nat) (dn:List qpa),i+k=bs.length→dn.length=i→
  qld bs (bs.length:Int) (i:Int) n8 (rsl (bs.drop i) i) (dn++List.replicate k (qja qta))=some (match qFp (bs.drop i) with
   |some l=>(dn++l,0)
   |none=>([],22))
 |0,i,dn,e,hd=>by
  rw [qyh,if_neg (by simp;omega),List.drop_eq_nil_of_le (by omega)]
  rfl
 |k+1,i,dn,e,hdn=>by
  have hd:=qBa (qja qfa:qda) (xs:=bs) (i:=i) (by omega)
  have ih:=fun dn hdn=>qgx bs n8 hl k (i+1) dn (by omega) hdn
  rw [show ((i+1:Nat):Int)=(i:Int)+1 by omega] at ih
  rw [qyh,hd.1]
  simp only [rsl,Int.ofNat_eq_natCast,Int.toNat_natCast,Nat.zero_add,List.getD_cons_zero,List.drop_succ_cons,List.drop_zero]
  rw [w64 (x:=(i:Int)+1) (by omega) (by omega)]
  generalize bs.getD i (qja qfa)=x at*
  have hset:∀y:qpa,(dn++List.replicate (k+1) (qja qta)).set i y=(dn++[y])++List.replicate k (qja qta):=fun y=>by
   rw [List.set_append_right _ _ (by omega),hdn,Nat.sub_self,List.replicate_succ,List.set_cons_zero,List.append_assoc];rfl
  rw [hset]
  refine Tot.eq (Tot.ifd_pos (by omega) (Tot.g (by simp) (Tot.ifne (fun h=>Tot.so ?_) (fun h=>Tot.g (by omega) (Tot.g (by omega) (Tot.g (by omega) (Tot.g (by simp [hdn];omega) (Tot.of_eq (ih _ (by simp [hdn])) ?_))))))))
  ·rw [qFp,if_pos h,qeC h]
  ·rw [qFp,if_neg (by simpa using h),qID h]
   cases qFp (bs.drop (i+1)) with
   |none=>rfl
   |some l=>show (_,_)=(_,_);rw [List.append_assoc];rfl
theorem qhx (lv:Int) (hlv:0≤lv∧lv≤7) (bs:List qda) (hl:bs.length≤10000) (hs:∀b∈bs,StB b):∀(k i:Nat),i+k=bs.length→
  ∀(h8:List qtc),h8.length=i→qCe lv bs bs (bs.length:Int) (i:Int) bs.length h8=qld bs (bs.length:Int) 0 bs.length (h8++rsl (bs.drop i) i) (List.replicate bs.length (qja qta))
 |0,i,e,h8,h=>by
  rw [qzh,if_neg (by simp;omega),List.drop_eq_nil_of_le (by omega),rsl,List.append_nil]
  simp only [Int.ofNat_eq_natCast]
  rw [qea trivial,qea (by omega),qea (by omega),qea (by omega)]
 |k+1,i,e,h8,h=>by
  have hd:=qBa (qja qfa:qda) (xs:=bs) (i:=i) (by omega)
  have ih:=qhx lv hlv bs hl hs k (i+1) (by omega)
  rw [show ((i+1:Nat):Int)=(i:Int)+1 by omega] at ih
  rw [qzh,hd.1,if_pos (by simp;omega)]
  simp only [Int.ofNat_eq_natCast,Int.toNat_natCast]
  rw [w64 (x:=(i:Int)+1) (by omega) (by omega)]
  have hx:=hs _ hd.2.2
  generalize bs.getD i (qja qfa)=x at*
  rw [qea (by omega),qea (by omega),hx.raw hlv,Option.bind_some,qea (by omega),ih _ (by simp [h]),rsl,List.append_assoc]
  rfl
theorem qry (lv:Int) (hlv:0≤lv∧lv≤7) (bs:List qda) (hl:bs.length≤10000) (hs:∀b∈bs,StB b):qVb lv bs=some (qND (qFp bs)):=by
 rw [qtp]
 simp only [Int.ofNat_eq_natCast]
 rw [qea (by omega),qea (by omega),qea (by omega)]
 have h1:=qhx lv hlv bs hl hs bs.length 0 (by omega) [] rfl
 have h2:=qgx bs bs.length hl bs.length 0 [] (by omega) rfl
 simp only [List.drop_zero,List.nil_append,Int.natCast_zero] at h1 h2
 rw [h1,h2]
 cases qFp bs <;> rfl
end Go.Ab

/-
  Extracting: parts are put into members.
-/
set_option linter.unusedVariables false
set_option linter.unusedSimpArgs false
set_option maxRecDepth 100000
namespace Go.Ab
open Go
attribute [local irreducible] IntKind.wrap
def wr {α:Type}:List α→Nat→List α→List α
 |xs,_,[]=>xs
 |xs,i,y::ys=>wr (xs.set i y) (i+1) ys
theorem getD_set_ne {α:Type} {xs:List α} {i j:Nat} {y d:α} (h:i≠j):(xs.set i y).getD j d=xs.getD j d:=by
 simp [List.getD_eq_getElem?_getD,List.getElem?_set,h]
theorem qJe {α:Type} {xs:List α} {i:Nat} {y d:α} (h:i<xs.length):(xs.set i y).getD i d=y:=by
 simp [List.getD_eq_getElem?_getD,List.getElem?_set,h]
theorem qUs {α:Type} {xs:List α} {i:Nat} {d:α} (h:i<xs.length):xs.set i (xs.getD i d)=xs:=by
 apply List.ext_getElem?;intro j
 rw [List.getElem?_set]
 by_cases h1:i=j
 ·subst h1;simp [h,List.getD_eq_getElem?_getD]
 ·simp [h1]
theorem qhz {α:Type}:∀{ys dn:List α} {zs:List α},ys.length≤zs.length→wr (dn++zs) dn.length ys=dn++ys++zs.drop ys.length
 |[],dn,zs,_=>by simp [wr]
 |y::ys,dn,[],h=>by simp at h
 |y::ys,dn,z::zs,h=>by
  have:(dn++z::zs).set dn.length y=(dn++[y])++zs:=by
   rw [List.set_append_right _ _ (Nat.le_refl _),Nat.sub_self,List.set_cons_zero,List.append_assoc];rfl
  rw [wr,this]
  have h2:=qhz (ys:=ys) (dn:=dn++[y]) (zs:=zs) (by simpa using h)
  rw [List.length_append,List.length_singleton] at h2
  rw [h2]
  simp
theorem qMA (v32:List qpa) (v33 v34:Int) (dat:List Int) (m off:Nat) (raw:Int) (hb:off+dat.length≤1000000):∀(rest:List Int) (k:Nat) (h0:List (ByteArray×List Int)) (h8:List (List Bool)),dat.drop k=rest→k+rest.length=dat.length→
  m<h0.length→h8.length=h0.length→h0.length≤100000→(h8.getD m []).length=(h0.getD m (ByteArray.empty,[])).2.length→off+dat.length≤(h8.getD m []).length→(∀j,off+k≤j→j<off+dat.length→(h8.getD m []).getD j false=false)→
  qfd v32 v33 v34 dat (dat.length:Int) (k:Int) h0 h8 ((m:Int),((off:Int),(raw,())))=
   qrc v32 v33 (IntKind.wrap .i64 (v34+1)) (h0.set m ((h0.getD m (ByteArray.empty,[])).1,wr (h0.getD m (ByteArray.empty,[])).2 (off+k) rest)) (h8.set m (wr (h8.getD m []) (off+k) (rest.map fun _=>true)))
 |[],k,h0,h8,hr,hk,hm,hl,hl2,hs,ho,hf=>by
  simp only [List.length_nil] at hk
  rw [qih,if_neg (by simp;omega)]
  simp only [List.map_nil,wr]
  have t2:h8.set m (h8.getD m [])=h8:=qUs (by omega)
  have:h0.set m ((h0.getD m (ByteArray.empty,[])).1,(h0.getD m (ByteArray.empty,[])).2)=h0:=qUs hm
  rw [this,t2]
 |b::rest,k,h0,h8,hr,hk,hm,hl,hl2,hs,ho,hf=>by
  simp only [List.length_cons] at hk
  have hd:=qBa (0:Int) (xs:=dat) (i:=k) (by omega)
  rw [hr] at hd
  obtain ⟨hd1,_⟩:=hd
  injection hd1 with hd1 hd2
  have hw:IntKind.wrap .i64 ((off:Int)+(k:Int))=((off+k:Nat):Int):=by rw [w64 (by omega) (by omega)];omega
  have hm8:m<h8.length:=by omega
  have hfl:=hf (off+k) (Nat.le_refl _) (by omega)
  have hfv:(qRg (a:= .str) (e:=(.int .u8)) h0).length=h0.length:=qci (a:= .str) (e:= .int .u8) h0
  have ih:=qMA v32 v33 v34 dat m off raw hb rest (k+1) (h0.set m ((h0.getD m (ByteArray.empty,[])).1,(h0.getD m (ByteArray.empty,[])).2.set (off+k) b)) (h8.set m ((h8.getD m []).set (off+k) true)) hd2.symm (by omega)
   (by rw [List.length_set];exact hm) (by rw [List.length_set,List.length_set];exact hl) (by rw [List.length_set];exact hl2) (by rw [qJe hm8,qJe hm,List.length_set,List.length_set];exact hs) (by rw [qJe hm8,List.length_set];exact ho)
   (fun j h1 h2=>by rw [qJe hm8,getD_set_ne (by omega)];exact hf j (by omega) h2)
  rw [qJe hm8,qJe hm,List.set_set,List.set_set] at ih
  rw [show ((k+1:Nat):Int)=(k:Int)+1 by omega] at ih
  rw [qih]
  simp only [hw,hfv,Int.ofNat_eq_natCast,Int.toNat_natCast,Nat.zero_add]
  rw [if_pos (by simp;omega),qea (by omega),qea (by omega),qea (by omega),qea (by omega),qea (by omega),qea (by omega),qea (by omega),if_neg (by rw [hfl];decide),
   qea (by omega),qea (by omega),qea (by omega),qea (by omega),qea (by omega),qea (by omega),qea (by omega),qea (by omega),qea (by omega),qea (by omega),
   ←hd1,w64 (x:=(k:Int)+1) (by omega) (by omega),ih,List.map_cons,wr,wr]
  rfl
abbrev Mm:=List (ByteArray×List Int)
def pM (p:qpa):Nat:=p.1.1.toNat
def pO (p:qpa):Nat:=p.1.2.1.toNat
def qKD (p:qpa) (h0:Mm):Mm:=h0.set (pM p) ((h0.getD (pM p) (ByteArray.empty,[])).1,wr (h0.getD (pM p) (ByteArray.empty,[])).2 (pO p) p.2.1)
def qHE (p:qpa) (h8:List (List Bool)):List (List Bool):=h8.set (pM p) (wr (h8.getD (pM p) []) (pO p) (p.2.1.map fun _=>true))
def qxG (p:qpa) (h0:Mm) (h8:List (List Bool)):Prop:=
 0≤p.1.1∧pM p<h0.length∧0≤p.1.2.1∧pO p+p.2.1.length≤1000000∧(h8.getD (pM p) []).length=(h0.getD (pM p) (ByteArray.empty,[])).2.length∧pO p+p.2.1.length≤(h8.getD (pM p) []).length∧∀j,pO p≤j→j<pO p+p.2.1.length→(h8.getD (pM p) []).getD j false=false
def qCv:List qpa→Mm→List (List Bool)→Prop
 |[],_,_=>True
 |p::r,h0,h8=>qxG p h0 h8∧qCv r (qKD p h0) (qHE p h8)
def putL:List qpa→Mm→Mm
 |[],h0=>h0
 |p::r,h0=>putL r (qKD p h0)
theorem qNA (ps:List qpa) (hps:ps.length≤100000):∀(k i:Nat) (h0:Mm) (h8:List (List Bool)),i+k=ps.length→h8.length=h0.length→h0.length≤100000→qCv (ps.drop i) h0 h8→
  qrc ps (ps.length:Int) (i:Int) h0 h8=some (true,putL (ps.drop i) h0)
 |0,i,h0,h8,e,hl,hl2,hf=>by
  rw [qjh,if_neg (by simp;omega),List.drop_eq_nil_of_le (by omega)];rfl
 |k+1,i,h0,h8,e,hl,hl2,hf=>by
  have hd:=qBa (qja qta:qpa) (xs:=ps) (i:=i) (by omega)
  rw [hd.1] at hf ⊢
  have ih:=fun h0 h8=>qNA ps hps k (i+1) h0 h8 (by omega)
  rw [show ((i+1:Nat):Int)=(i:Int)+1 by omega] at ih
  rw [qjh]
  simp only [Int.ofNat_eq_natCast,Int.toNat_natCast]
  rw [if_pos (by simp;omega),qea (by omega),qea (by omega)]
  generalize ps.getD i (qja qta)=x at*
  obtain ⟨⟨f1,f2,f3,f4,f5,f6,f7⟩,hf⟩:=hf
  have h3:=qMA ps (ps.length:Int) (i:Int) x.2.1 (pM x) (pO x) x.1.2.2.1 f4 x.2.1 0 h0 h8 rfl (by omega) f2 hl hl2 f5 f6 (by simpa using f7)
  have hx:x.1=(((pM x:Nat):Int),(((pO x:Nat):Int),(x.1.2.2.1,()))):=by
   unfold pM pO
   rw [Int.toNat_of_nonneg f1,Int.toNat_of_nonneg f3]
  rw [hx]
  simp only [Nat.add_zero] at h3
  refine h3.trans ?_
  rw [w64 (x:=(i:Int)+1) (by omega) (by omega)]
  exact ih (qKD x h0) (qHE x h8) (by unfold qKD qHE;rw [List.length_set,List.length_set];exact hl) (by unfold qKD;rw [List.length_set];exact hl2) hf
def qtk (h0:Mm):List (List Bool):=h0.map fun x=>List.replicate x.2.length false
theorem qOA (ps:List qpa) (h0:Mm) (hl:h0.length≤100000) (hm:∀x∈h0,x.2.length≤1000000):∀(k i:Nat),i+k=h0.length→
  qAe ps (h0.length:Int) (i:Int) h0 ((qtk h0).take i++List.replicate k [])=qrc ps (ps.length:Int) 0 h0 (qtk h0)
 |0,i,e=>by
  rw [qkh,if_neg (by simp;omega),List.take_of_length_le (by unfold qtk;simp;omega),List.replicate_zero,List.append_nil]
  rfl
 |k+1,i,e=>by
  have hd:=qBa ((ByteArray.empty,[]):ByteArray×List Int) (xs:=h0) (i:=i) (by omega)
  have ih:=qOA ps h0 hl hm k (i+1) (by omega)
  rw [show ((i+1:Nat):Int)=(i:Int)+1 by omega] at ih
  have hfv:(qRg (a:= .str) (e:= .int .u8) h0).length=h0.length:=qci (a:= .str) (e:= .int .u8) h0
  have hx:=hm _ hd.2.2
  have hbl:(qtk h0).length=h0.length:=List.length_map ..
  have hset:((qtk h0).take i++List.replicate (k+1) []).set i (List.replicate (h0.getD i (ByteArray.empty,[])).2.length false)=(qtk h0).take (i+1)++List.replicate k []:=by
   have h1:((qtk h0).take i).length=i:=by rw [List.length_take];omega
   rw [List.set_append_right _ _ (by omega),h1,Nat.sub_self,List.replicate_succ,List.set_cons_zero]
   have h2:(qtk h0).take (i+1)=(qtk h0).take i++[List.replicate (h0.getD i (ByteArray.empty,[])).2.length false]:=by
    unfold qtk
    rw [←List.map_take,←List.map_take,hd.2.1,List.map_append];rfl
   rw [h2,List.append_assoc];rfl
  rw [qkh]
  simp only [hfv,Int.ofNat_eq_natCast,Int.toNat_natCast,Nat.zero_add]
  rw [if_pos (by simp;omega),qea (by omega),qea (by omega),qea trivial,qea (by omega),qea (by omega),qea (by omega),qea (by omega),qea (by simp;omega),hset,w64 (x:=(i:Int)+1) (by omega) (by omega),ih]
theorem qLA (ps:List qpa) (h0:Mm) (hps:ps.length≤100000) (hl:h0.length≤100000) (hm:∀x∈h0,x.2.length≤1000000) (hf:qCv ps h0 (qtk h0)):qRi ps h0=some (true,putL ps h0):=by
 have hfv:(qRg (a:= .str) (e:= .int .u8) h0).length=h0.length:=qci (a:= .str) (e:= .int .u8) h0
 have h1:=qOA ps h0 hl hm h0.length 0 (by omega)
 have h2:=qNA ps hps ps.length 0 h0 (qtk h0) (by omega) (List.length_map ..) hl hf
 rw [qdp]
 simp only [hfv,Int.ofNat_eq_natCast,Int.toNat_natCast]
 rw [qea trivial,qea (by omega),qea (by omega),qea (by omega)]
 simp only [List.take_zero,List.nil_append,Int.natCast_zero] at h1 h2
 exact h1.trans h2
end Go.Ab

/-
  Extracting: sorting what is sorted; what is missing.
-/
set_option linter.unusedVariables false
set_option linter.unusedSimpArgs false
set_option maxRecDepth 100000
namespace Go.Ab
open Go
attribute [local irreducible] IntKind.wrap
def leP (a b:qia):Prop:=a.1<b.1∨(a.1=b.1∧a.2.1≤b.2.1)
theorem qlG (a b:Int):∃r,qDf a b=some r∧(r<0↔a<b)∧(r=0↔a=b):=by
 have hn:∀x:Int,qah x=some false:=fun x=>by rw [qup];simp
 rw [qzn,hn,hn]
 simp only [Option.bind_some,Bool.false_eq_true,if_false,decide_eq_true_eq]
 by_cases h1:a<b
 ·rw [if_pos h1];exact ⟨-1,rfl,by omega,by omega⟩
 ·rw [if_neg h1]
  by_cases h2:a>b
  ·rw [if_pos h2];exact ⟨1,rfl,by omega,by omega⟩
  ·rw [if_neg h2];exact ⟨0,rfl,by omega,by omega⟩
theorem qUF (x y:Int):qto [x,y]=some (if x≠0 then x else y):=by
 have h0:qae 0 [x,y] (Int.ofNat 2) 2=some 0:=by rw [qMg,if_neg (by decide)]
 have h1:qae 0 [x,y] (Int.ofNat 2) 1=some y:=by
  rw [qMg,if_pos (by decide),qea (by decide),qea (by show _<(2:Int);decide)]
  show (if (y != 0)=true then some y else _)=_
  rw [show IntKind.wrap .i64 ((1:Int)+1)=2 by decide+kernel,h0]
  by_cases h:y=0
  ·subst h;rfl
  ·rw [if_pos (by simpa using h)]
 rw [qOt]
 show qae 0 [x,y] (Int.ofNat 2) 0=_
 rw [qMg,if_pos (by decide),qea (by decide),qea (by show _<(2:Int);decide)]
 show (if (x != 0)=true then some x else _)=_
 rw [show IntKind.wrap .i64 ((0:Int)+1)=1 by decide+kernel,h1]
 by_cases h:x=0
 ·subst h;rfl
 ·rw [if_pos (by simpa using h),if_pos h]
theorem qvG (a b:qia):∃r,qGa a b=some r∧(leP b a→¬r<0):=by
 obtain ⟨r1,h1,h2,h3⟩:=qlG a.1 b.1
 obtain ⟨r2,g1,g2,g3⟩:=qlG a.2.1 b.2.1
 refine ⟨if r1≠0 then r1 else r2,?_,fun h=>?_⟩
 ·rw [qQm,h1,Option.bind_some,g1,Option.bind_some,qUF,Option.bind_some]
 ·unfold leP at h
  split <;> omega
def Ord (l:List qia):Prop:=∀i j,i≤j→j<l.length→leP (l.getD i (qja qca)) (l.getD j (qja qca))
theorem qiD (l:List qia) (hl:l.length≤100000) (ho:Ord l):∀(k i:Nat),i+k=l.length→1≤i→qFa 0 (l.length:Int) (i:Int) l=some l
 |0,i,e,h=>by rw [qNa,if_neg (by simp;omega)]
 |k+1,i,e,h=>by
  have ih:=qiD l hl ho k (i+1) (by omega) (by omega)
  rw [show ((i+1:Nat):Int)=(i:Int)+1 by omega] at ih
  obtain ⟨r,h1,h2⟩:=qvG (l.getD i (qja qca)) (l.getD (i - 1) (qja qca))
  have h3:=h2 (ho (i - 1) i (by omega) (by omega))
  have hw:IntKind.wrap .i64 ((i:Int) - 1)=((i - 1:Nat):Int):=by rw [w64 (by omega) (by omega)];omega
  rw [qNa,if_pos (by simp;omega),qad]
  simp only [hw,Int.ofNat_eq_natCast,Int.toNat_natCast,Nat.zero_add]
  rw [if_pos (by simp;omega),qea (by omega),qea (by omega),qea (by omega),qea (by omega),h1,Option.bind_some,if_neg (by simpa using h3),w64 (x:=(i:Int)+1) (by omega) (by omega),ih]
def qPu (T:ByteArray):Bool:=decide (T.size=256)&&(List.range 256).all fun i=>decide (i=0∨(1≤qXo T i∧qXo T i≤8∧(i:Int)<2 ^ (qXo T i).toNat))
theorem qtA {T:ByteArray} (h:qPu T=true) {i:Nat} (h0:1≤i) (h1:i<256):1≤qXo T i∧qXo T i≤8∧(i:Int)<2 ^ (qXo T i).toNat:=by
 unfold qPu at h
 rw [Bool.and_eq_true,List.all_eq_true] at h
 have:=of_decide_eq_true (h.2 i (List.mem_range.2 h1))
 rcases this with rfl|h
 ·omega
 ·exact h
theorem qfw {T:ByteArray} (h:qPu T=true):T.size=256:=by
 unfold qPu at h
 rw [Bool.and_eq_true] at h
 exact of_decide_eq_true h.1
theorem qnE {T:ByteArray} (hT:qPu T=true) {a:Int} (h0:1≤a) (h1:a≤255):Tot (gd (0≤IntKind.wrap .u8 a)<|gd (IntKind.wrap .u8 a<Int.ofNat T.size)<|some (IntKind.wrap .i64 (0+IntKind.wrap .i64 (qXo T (Int.toNat (IntKind.wrap .u8 a)))))) fun r=>1≤r∧r≤8∧a<2 ^ r.toNat:=by
 have e:IntKind.wrap .u8 a=a:=by rw [wu8];omega
 have hs:=qfw hT
 have ht:=qtA hT (i:=a.toNat) (by omega) (by omega)
 rw [e,hs,w64 (x:=qXo T a.toNat) (by omega) (by omega),w64 (by omega) (by omega)]
 refine Tot.g (by omega) (Tot.g (by show a<256;omega) (Tot.so ?_))
 rw [Int.zero_add]
 refine ⟨ht.1,ht.2.1,?_⟩
 have e2:((a.toNat:Nat):Int)=a:=by omega
 rw [e2] at ht
 exact ht.2.2
theorem qaG {a:Int} (h0:1≤a) (h1:a≤255):Tot (quf (IntKind.wrap .u64 a)) fun r=>1≤r∧r≤8∧a<2 ^ r.toNat:=by
 have e:IntKind.wrap .u64 a=a:=by rw [qoG];omega
 rw [qsj,e,qZh]
 refine Tot.b (Tot.ifd_neg (by omega) (Tot.ifd_neg (by omega) (Tot.ifd_neg (by omega) (qnE ?_ h0 h1)))) (fun r hr=>Tot.so hr)
 decide+kernel
theorem qbG:quf 0=some 0:=by
 rw [qsj,qZh]
 refine Tot.eq (Tot.be (Tot.eq (Tot.ifd_neg (by decide) (Tot.ifd_neg (by decide) (Tot.ifd_neg (by decide) (Tot.g (by decide+kernel) (Tot.g (by decide+kernel) (Tot.so (show _=(0:Int) by decide+kernel)))))))) (Tot.so rfl))
theorem qJC {l:List qia} (hl:l.length≤12) (ho:Ord l):qEa l=some l:=by
 have hins:qZa 0 (l.length:Int) l=some l:=by
  rw [qEd,show IntKind.wrap .i64 ((0:Int)+1)=1 by decide+kernel]
  by_cases h0:l.length=0
  ·rw [qNa,if_neg (by simp;omega)]
  ·exact qiD l (by omega) ho (l.length - 1) 1 (by omega) (Nat.le_refl _)
 have hp:∀r,qxb 0 (l.length:Int) r l=some l:=fun r=>by
  rw [qif,qhe,w64 (x:=(l.length:Int) - 0) (by omega) (by omega)]
  exact Tot.eq (Tot.ifd_pos (by omega) (Tot.be hins (Tot.so rfl)))
 have hlen:∃r,quf (IntKind.wrap .u64 (Int.ofNat l.length))=some r:=by
  by_cases h0:l.length=0
  ·rw [h0,show IntKind.wrap .u64 (Int.ofNat 0)=0 by decide+kernel];exact ⟨0,qbG⟩
  ·obtain ⟨r,h,_⟩:=qaG (a:=Int.ofNat l.length) (by simp;omega) (by simp;omega)
   exact ⟨r,h⟩
 obtain ⟨r,hr⟩:=hlen
 rw [qWd,hr]
 exact Tot.eq (Tot.be rfl (Tot.be (hp r) (Tot.so rfl)))
theorem qrE {l:List qia} (hl:l.length≤100000):qsb l=some l:=by
 rw [qGe]
 refine qDr false (fun h=>by cases h) (fun x hx=>?_)
 cases x
 ·exact Tot.eq (Tot.it (fun h=>by cases h) (fun _=>Tot.g (by simp;omega) (Tot.so (List.nil_append _))))
 ·exact Tot.eq (Tot.it (fun h=>Tot.so (hx rfl).symm) (fun h=>absurd rfl h))
end Go.Ab

/-
  Extracting: nothing is missing.
-/
set_option linter.unusedVariables false
set_option linter.unusedSimpArgs false
set_option maxRecDepth 100000
namespace Go.Ab
open Go
attribute [local irreducible] IntKind.wrap
def qmw (i:Int):List qia→Int→Prop
 |[],_=>True
 |p::r,e=>if p.1≠i then qmw i r e else p.2.1≤e∧qmw i r (if p.2.1+p.2.2.1>e then p.2.1+p.2.2.1 else e)
def Sml (p:qia):Prop:=0≤p.2.1∧p.2.1≤1000000∧0≤p.2.2.1∧p.2.2.1≤1000000
theorem qpA (n:Nat) (v15:List Int) (v16 i:Int) (h9:List qia) (L:List qia) (hL:L.length≤100000) (hS:∀p∈L,Sml p):∀(k j:Nat) (e:Int),j+k=L.length→0≤e→e≤2000000→qmw i (L.drop j) e→
  qqc n i e v15 v16 i (L.length:Int) (j:Int) L h9=qNb n v15 v16 (IntKind.wrap .i64 (i+1)) L h9
 |0,j,e,hj,h1,h2,ho=>by rw [qgh,if_neg (by simp;omega)]
 |k+1,j,e,hj,h1,h2,ho=>by
  have hd:=qBa (qja qca:qia) (xs:=L) (i:=j) (by omega)
  rw [hd.1] at ho
  have hs:=hS _ hd.2.2
  have ih:=fun e=>qpA n v15 v16 i h9 L hL hS k (j+1) e (by omega)
  rw [show ((j+1:Nat):Int)=(j:Int)+1 by omega] at ih
  rw [qgh]
  simp only [Int.ofNat_eq_natCast,Int.toNat_natCast,Nat.zero_add]
  rw [if_pos (by simp;omega),qea (by omega),qea (by omega),w64 (x:=(j:Int)+1) (by omega) (by omega)]
  generalize L.getD j (qja qca)=x at*
  obtain ⟨s1,s2,s3,s4⟩:=hs
  rw [qmw] at ho
  by_cases hx:x.1=i
  ·rw [if_neg (by simpa using hx)] at ho
   rw [if_neg (by simpa using hx),if_neg (by have:=ho.1;simp;omega),w64 (x:=x.2.1+x.2.2.1) (by omega) (by omega)]
   exact ih _ (by split <;> omega) (by split <;> omega) ho.2
  ·rw [if_pos hx] at ho
   rw [if_pos (by simpa using hx)]
   exact ih e h1 h2 ho
theorem qoA (n:Nat) (v15:List Int) (v16 i:Int) (h8 h9:List qia) (L:List qia) (hL:L.length≤100000) (hS:∀p∈L,Sml p):∀(k j:Nat) (e:Int),j+k=L.length→0≤e→e≤2000000→qmw i (L.drop j) e→
  qpc n i e v15 v16 i (L.length:Int) (j:Int) h8 h9 L=qNb n v15 v16 (IntKind.wrap .i64 (i+1)) h8 h9
 |0,j,e,hj,h1,h2,ho=>by rw [qfh,if_neg (by simp;omega)]
 |k+1,j,e,hj,h1,h2,ho=>by
  have hd:=qBa (qja qca:qia) (xs:=L) (i:=j) (by omega)
  rw [hd.1] at ho
  have hs:=hS _ hd.2.2
  have ih:=fun e=>qoA n v15 v16 i h8 h9 L hL hS k (j+1) e (by omega)
  rw [show ((j+1:Nat):Int)=(j:Int)+1 by omega] at ih
  rw [qfh]
  simp only [Int.ofNat_eq_natCast,Int.toNat_natCast,Nat.zero_add]
  rw [if_pos (by simp;omega),qea (by omega),qea (by omega),w64 (x:=(j:Int)+1) (by omega) (by omega)]
  generalize L.getD j (qja qca)=x at*
  obtain ⟨s1,s2,s3,s4⟩:=hs
  rw [qmw] at ho
  by_cases hx:x.1=i
  ·rw [if_neg (by simpa using hx)] at ho
   rw [if_neg (by simpa using hx),if_neg (by have:=ho.1;simp;omega),w64 (x:=x.2.1+x.2.2.1) (by omega) (by omega)]
   exact ih _ (by split <;> omega) (by split <;> omega) ho.2
  ·rw [if_pos hx] at ho
   rw [if_pos (by simpa using hx)]
   exact ih e h1 h2 ho
def Cov (sz:List Int) (xs:List qia):Prop:=∀i:Nat,i<sz.length→qmw (i:Int) (xs++[((i:Int),(sz.getD i 0,(0,())))]) 0
theorem qqA (sz:List Int) (hsz:sz.length≤10000) (hz:∀x∈sz,0≤x∧x≤1000000) (xs:List qia) (hx:xs.length≤10000) (hS:∀p∈xs,Sml p) (hC:Cov sz xs) (h9:List qia):∀(k i:Nat) (h8:List qia),i+k=sz.length→h8.take xs.length=xs→
  qNb xs.length sz (sz.length:Int) (i:Int) h8 h9=some h9
 |0,i,h8,e,h=>by rw [qhh,if_neg (by simp;omega)]
 |k+1,i,h8,e,h=>by
  have hd:=qBa (0:Int) (xs:=sz) (i:=i) (by omega)
  have hzi:=hz _ hd.2.2
  have ih:=fun h8=>qqA sz hsz hz xs hx hS hC h9 k (i+1) h8 (by omega)
  rw [show ((i+1:Nat):Int)=(i:Int)+1 by omega] at ih
  have hc:=hC i (by omega)
  have hS':∀p∈xs++[((i:Int),(sz.getD i 0,((0:Int),())))],Sml p:=fun p hp=>by
   rcases List.mem_append.1 hp with hp|hp
   ·exact hS p hp
   ·rw [List.mem_singleton.1 hp];exact ⟨hzi.1,hzi.2,Int.le_refl 0,(show (0:Int)≤1000000 by decide)⟩
  have hlen:(xs++[((i:Int),(sz.getD i 0,((0:Int),())))]).length=xs.length+1:=by simp
  have g2:=qpA xs.length sz (sz.length:Int) (i:Int) h9 _ (by rw [hlen];omega) hS' _ 0 0 (Nat.zero_add _) (by omega) (by omega) hc
  have g3:=qoA xs.length sz (sz.length:Int) (i:Int) h8 h9 _ (by rw [hlen];omega) hS' _ 0 0 (Nat.zero_add _) (by omega) (by omega) hc
  rw [w64 (x:=(i:Int)+1) (by omega) (by omega)] at g2 g3
  rw [qhh]
  simp only [Int.ofNat_eq_natCast,Int.toNat_natCast,h]
  rw [if_pos (by simp;omega),qea (by omega),qea (by omega)]
  refine qDr true trivial (fun b _=>?_)
  cases b
  ·rw [if_neg (by decide),qea (by rw [hlen];omega)]
   exact g3.trans (ih h8 h)
  ·rw [if_pos rfl,qea (by rw [hlen];omega),qea (by rw [hlen];omega)]
   exact g2.trans (ih _ (List.take_left' rfl))
theorem qFu {sz:List Int} (hsz:sz.length≤10000) (hz:∀x∈sz,0≤x∧x≤1000000) {xs:List qia} (hx:xs.length≤10000) (hso:qEa xs=some xs) (hS:∀p∈xs,Sml p) (hC:Cov sz xs):qQi sz xs=some []:=by
 have h1:=qqA sz hsz hz xs hx hS hC [] sz.length 0 xs (by omega) (List.take_length)
 rw [qcp]
 exact Tot.eq (Tot.be (qrE (by omega)) (Tot.be hso (Tot.of_eq h1 rfl)))
end Go.Ab

/-
  Extracting: members are put together.
-/
set_option linter.unusedVariables false
set_option linter.unusedSimpArgs false
set_option maxRecDepth 100000
namespace Go.Ab
open Go
attribute [local irreducible] IntKind.wrap
def qZb (rs:List qaa):Mm:=rs.map fun r=>(r.1,List.replicate r.2.1.toNat 0)
theorem qYC (rs:List qaa) (ps:List qpa) (hl:rs.length≤10000) (hs:∀r∈rs,0≤r.2.1∧r.2.1≤1000000):∀(k i:Nat),i+k=rs.length→
  qOh rs ps rs (rs.length:Int) (i:Int) (szs (rs.take i)) (qZb (rs.take i))=qHd rs ps ps (ps.length:Int) 0 (szs rs) (qZb rs) []
 |0,i,e=>by rw [qNj,if_neg (by simp;omega),List.take_of_length_le (by omega)];rfl
 |k+1,i,e=>by
  have hd:=qBa (qja qba:qaa) (xs:=rs) (i:=i) (by omega)
  have ih:=qYC rs ps hl hs k (i+1) (by omega)
  have hx:=hs _ hd.2.2
  have hti:(rs.take i).length=i:=by rw [List.length_take];omega
  rw [show ((i+1:Nat):Int)=(i:Int)+1 by omega,hd.2.1] at ih
  have e1:szs (rs.take i++[rs.getD i (qja qba)])=szs (rs.take i)++[(rs.getD i (qja qba)).2.1]:=by unfold szs;rw [List.map_append];rfl
  have e2:qZb (rs.take i++[rs.getD i (qja qba)])=qZb (rs.take i)++[((rs.getD i (qja qba)).1,List.replicate (rs.getD i (qja qba)).2.1.toNat 0)]:=by unfold qZb;rw [List.map_append];rfl
  rw [e1,e2] at ih
  have l1:(szs (rs.take i)).length=i:=by rw [qge,hti]
  have l2:(qZb (rs.take i)).length=i:=by unfold qZb;rw [List.length_map,hti]
  rw [qNj]
  simp only [Int.ofNat_eq_natCast,Int.toNat_natCast]
  rw [if_pos (by simp;omega),qea (by omega),qea (by omega),w64 (x:=(i:Int)+1) (by omega) (by omega)]
  generalize rs.getD i (qja qba)=x at*
  rw [qea (by rw [List.length_append,l1,List.length_singleton];omega),qea trivial,qea (by omega),qea (by omega),qea (by omega),qea (by rw [List.length_append,l2,List.length_singleton];omega),ih]
def qKv (rs:List qaa) (ms:List qna):Nat→Nat→Bool
 |0,_=>true
 |k+1,i=>peq (.arr 20 (.int .u8)) (qLg (ms.getD i (qja T_api_Member)).2.1) (rs.getD i (qja qba)).2.2.1&&qKv rs ms k (i+1)
theorem qWC (rs:List qaa) (ms:List qna) (hl:ms.length≤10000) (hr:ms.length≤rs.length) (hm:∀m∈ms,Bts m.2.1∧m.2.1.length≤20000):∀(k i:Nat),i+k=ms.length→
  qug rs (ms.length:Int) (i:Int) ms=some (if qKv rs ms k i=true then (ms,0) else ([],22))
 |0,i,e=>by rw [qLj,if_neg (by simp;omega)];rfl
 |k+1,i,e=>by
  have hd:=qBa (qja T_api_Member:qna) (xs:=ms) (i:=i) (by omega)
  have ih:=qWC rs ms hl hr hm k (i+1) (by omega)
  have hx:=hm _ hd.2.2
  rw [show ((i+1:Nat):Int)=(i:Int)+1 by omega] at ih
  rw [qLj]
  simp only [Int.ofNat_eq_natCast,Int.toNat_natCast,Nat.zero_add]
  rw [if_pos (by simp;omega),qea (by omega),qea (by omega),qOp _ hx.1,if_pos hx.2,Option.bind_some,qea (by omega),qea (by omega),w64 (x:=(i:Int)+1) (by omega) (by omega),ih,qKv]
  by_cases hp:peq (.arr 20 (.int .u8)) (qLg (ms.getD i (qja T_api_Member)).2.1) (rs.getD i (qja qba)).2.2.1=true
  ·rw [if_neg (by rw [hp];decide),hp,Bool.true_and]
  ·rw [Bool.not_eq_true] at hp
   rw [if_pos (by rw [hp];rfl),hp,Bool.false_and,if_neg (by decide)]
def Win (sz:List Int) (p:qia):Prop:=0≤p.1∧p.1<sz.length∧0≤p.2.1∧0<p.2.2.1∧p.2.1+p.2.2.1≤sz.getD p.1.toNat 0∧sz.getD p.1.toNat 0≤1000000
theorem qQB {sz:List Int} {p:qia} (h:Win sz p):qKj sz p=some true:=by
 obtain ⟨h1,h2,h3,h4,h5,h6⟩:=h
 rw [qXp]
 simp only [Int.ofNat_eq_natCast]
 rw [w64 (x:=sz.getD p.1.toNat 0 - p.2.1) (by omega) (by omega)]
 refine Tot.eq (Tot.ifd_pos h1 (Tot.ifd_pos h2 (Tot.ifd_pos h3 (Tot.ifd_pos h4 (Tot.g h1 (Tot.g h2 (Tot.ifd_pos (by omega) (Tot.g h1 (Tot.g h2 (Tot.so ?_))))))))))
 rw [decide_eq_true_eq];omega
theorem qXC (rs:List qaa) (ps:List qpa) (sz:List Int) (h0:Mm) (hps:ps.length≤600) (hw:∀p∈ps,Win sz p.1∧(p.2.1.length:Int)=p.1.2.2.1):∀(k i:Nat),i+k=ps.length→
  qHd rs ps ps (ps.length:Int) (i:Int) sz h0 ((ps.take i).map (·.1))=qHd rs ps ps (ps.length:Int) (ps.length:Int) sz h0 (ps.map (·.1))
 |0,i,e=>by
  have:i=ps.length:=by omega
  subst this
  rw [List.take_length]
 |k+1,i,e=>by
  have hd:=qBa (qja qta:qpa) (xs:=ps) (i:=i) (by omega)
  have ih:=qXC rs ps sz h0 hps hw k (i+1) (by omega)
  have hx:=hw _ hd.2.2
  have hti:(ps.take i).length=i:=by rw [List.length_take];omega
  rw [show ((i+1:Nat):Int)=(i:Int)+1 by omega,hd.2.1,List.map_append,List.map_singleton] at ih
  rw [qMj]
  simp only [Int.ofNat_eq_natCast,Int.toNat_natCast]
  rw [if_pos (by simp;omega),qea (by omega),qea (by omega),w64 (x:=(i:Int)+1) (by omega) (by omega)]
  generalize ps.getD i (qja qta)=x at*
  rw [qQB hx.1,Option.bind_some,if_neg (by decide),if_neg (by simpa using hx.2),qea (by rw [List.length_append,List.length_map,hti,List.length_singleton];omega),ih]
theorem qNs (rs:List qaa):(qZb rs).length=rs.length:=List.length_map ..
theorem qKC {rs:List qaa} {ps:List qpa} (hR:RecsOK rs) (hv:qZc rs=0) (hl:rs.length≤10000) (hs:∀r∈rs,0≤r.2.1∧r.2.1≤20000) (hps:ps.length≤600) (hw:∀p∈ps,Win (szs rs) p.1∧(p.2.1.length:Int)=p.1.2.2.1)
  (hf:qCv ps (qZb rs) (qtk (qZb rs))) (hso:qEa (ps.map (·.1))=some (ps.map (·.1))) (hS:∀p∈ps,Sml p.1) (hC:Cov (szs rs) (ps.map (·.1)))
  (hln:(putL ps (qZb rs)).length=rs.length) (hm:∀m∈putL ps (qZb rs),Bts m.2∧m.2.length≤20000):
  quc rs ps=some (if qKv rs (qRg (a:= .str) (e:= .int .u8) (putL ps (qZb rs))) rs.length 0=true then (qRg (a:= .str) (e:= .int .u8) (putL ps (qZb rs)),0) else ([],22)):=by
 have hbl:∀x∈qZb rs,x.2.length≤1000000:=fun x hx=>by
  obtain ⟨r,hr,rfl⟩:=List.mem_map.1 hx
  have:=hs r hr
  simp;omega
 have hfill:=qLA ps (qZb rs) (by omega) (by rw [qNs];omega) hbl hf
 have hmis:=qFu (sz:=szs rs) (by rw [qge];omega) (fun x hx=>by obtain ⟨r,hr,rfl⟩:=List.mem_map.1 hx;have:=hs r hr;omega) (xs:=ps.map (·.1)) (by simp;omega) hso (fun p hp=>by obtain ⟨q,hq,rfl⟩:=List.mem_map.1 hp;exact hS q hq) hC
 have h1:=qYC rs ps hl (fun r hr=>by have:=hs r hr;omega) rs.length 0 (by omega)
 have h2:=qXC rs ps (szs rs) (qZb rs) hps hw ps.length 0 (by omega)
 have hfl:(qRg (a:= .str) (e:= .int .u8) (putL ps (qZb rs))).length=rs.length:=(qci (a:= .str) (e:= .int .u8) _).trans hln
 have hfb:(qRg (a:= .str) (e:= .int .u8) (qZb rs)).length=rs.length:=(qci (a:= .str) (e:= .int .u8) _).trans (qNs rs)
 have h3:=qWC rs (qRg (a:= .str) (e:= .int .u8) (putL ps (qZb rs))) (by rw [hfl];exact hl) (by rw [hfl];exact Nat.le_refl _) (fun m hmm=>by
  obtain ⟨x,hx,rfl⟩:=List.mem_map.1 hmm
  exact hm x hx) rs.length 0 (by rw [hfl];omega)
 rw [hfl] at h3
 have h4:qHd rs ps ps (ps.length:Int) (ps.length:Int) (szs rs) (qZb rs) (ps.map (·.1))=qug rs (rs.length:Int) 0 (qRg (a:= .str) (e:= .int .u8) (putL ps (qZb rs))):=by
  rw [qMj,if_neg (by simp),hfill,Option.bind_some,if_neg (show ¬((!true)=true) by decide),hmis,Option.bind_some,if_neg (by decide),hfb]
  rfl
 rw [qdu,qRc rs hR,hv]
 refine Tot.eq (Tot.be rfl (Tot.ifne_neg rfl (Tot.ifd_neg (by simp;omega) ?_)))
 exact Tot.of_eq ((h1.trans h2).trans (h4.trans h3)) rfl
end Go.Ab

/-
  Extracting: the blocks of one member.
-/
set_option linter.unusedVariables false
set_option linter.unusedSimpArgs false
set_option maxRecDepth 100000
namespace Go.Ab
open Go
attribute [local irreducible] IntKind.wrap
theorem qlD (b:qda) (i:Int):qrg b i=some ((b.1.2.1 != i),i):=qno b i
def ofM (i:Int) (bs:List qda):List qda:=bs.filter fun b=>b.1.2.1==i
theorem qjD (bs:List qda) (hl:bs.length≤100000) (i:Int):∀(k j:Nat),j+k=bs.length→(∃m,j≤m∧m<bs.length∧qya bs (bs.length:Int) (j:Int) i=some ((m:Int),i)∧ofM i ((bs.drop j).take (m - j))=(bs.drop j).take (m - j)∧(bs.getD m (qja qfa)).1.2.1≠i)∨
  (qya bs (bs.length:Int) (j:Int) i=some (-1,i)∧ofM i (bs.drop j)=bs.drop j)
 |0,j,e=>by
  refine .inr ⟨by rw [qrb,if_neg (by simp;omega)],?_⟩
  rw [List.drop_eq_nil_of_le (by omega)];rfl
 |k+1,j,e=>by
  have hd:=qBa (qja qfa:qda) (xs:=bs) (i:=j) (by omega)
  have ih:=qjD bs hl i k (j+1) (by omega)
  rw [show ((j+1:Nat):Int)=(j:Int)+1 by omega] at ih
  have hun:qya bs (bs.length:Int) (j:Int) i=if ((bs.getD j (qja qfa)).1.2.1 != i)=true then some ((j:Int),i) else qya bs (bs.length:Int) ((j:Int)+1) i:=by
   rw [qrb]
   simp only [Int.ofNat_eq_natCast,Int.toNat_natCast]
   rw [if_pos (by simp;omega),qea (by omega),qea (by omega),qlD,Option.bind_some,w64 (x:=(j:Int)+1) (by omega) (by omega)]
  rw [hun,hd.1]
  generalize hgx:bs.getD j (qja qfa)=x at*
  by_cases hx:x.1.2.1=i
  ·rw [if_neg (by simpa using hx)]
   have hk:∀r:List qda,ofM i (x::r)=x::ofM i r:=fun r=>by unfold ofM;rw [List.filter_cons_of_pos (by simpa using hx)]
   rcases ih with ⟨m,h1,h2,h3,h4,h5⟩|⟨h3,h4⟩
   ·refine .inl ⟨m,by omega,h2,h3,?_,h5⟩
    rw [show m - j=(m - (j+1))+1 by omega,List.take_succ_cons,hk,h4]
   ·exact .inr ⟨h3,by rw [hk,h4]⟩
  ·rw [if_pos (by simpa using hx)]
   exact .inl ⟨j,Nat.le_refl _,by omega,rfl,by rw [Nat.sub_self];rfl,by rw [hgx];exact hx⟩
theorem qgB (i:Int):∀(k j m:Nat) (h0:List qda),h0.length≤100000→j+k=h0.length→m<j→∃n h',qDa (m:Int) (j:Int) h0 i=some ((0,n),(h',i))∧h'.take n=h0.take m++ofM i (h0.drop j)∧n≤h0.length∧n≤h'.length
 |0,j,m,h0,hl,e,hm=>by
  refine ⟨m,qbc h0 m (List.replicate (h0.length - m) (qja qfa)),?_,?_,by omega,by unfold qbc;rw [List.length_append,List.length_append,List.length_take];omega⟩
  ·rw [qhb,if_neg (by simp;omega),qea (by omega),qea (by simp;omega),qea (by omega),qea (by simp;omega)]
   simp only [Int.toNat_natCast,Nat.sub_zero,Nat.zero_add]
  rw [List.drop_eq_nil_of_le (by omega)]
  unfold qbc
  rw [List.append_assoc,List.take_append_of_le_length (by rw [List.length_take];omega),List.take_take,Nat.min_self]
  exact (List.append_nil _).symm
 |k+1,j,m,h0,hl,e,hm=>by
  have hd:=qBa (qja qfa:qda) (xs:=h0) (i:=j) (by omega)
  rw [qhb]
  simp only [Int.ofNat_eq_natCast,Int.toNat_natCast,Nat.zero_add]
  rw [if_pos (by simp;omega),qea (by omega),qea (by omega),qlD,Option.bind_some,w64 (x:=(j:Int)+1) (by omega) (by omega),w64 (x:=(m:Int)+1) (by omega) (by omega),hd.1]
  generalize hx0:h0.getD j (qja qfa)=x at*
  by_cases hx:x.1.2.1=i
  ·rw [if_pos (by simp [hx]),qea (by omega),qea (by omega)]
   obtain ⟨n,h',h1,h2,h3⟩:=qgB i k (j+1) (m+1) (h0.set m x) (by rw [List.length_set];exact hl) (by rw [List.length_set];omega) (by omega)
   rw [show ((j+1:Nat):Int)=(j:Int)+1 by omega,show ((m+1:Nat):Int)=(m:Int)+1 by omega] at h1
   refine ⟨n,h',h1,?_,by rw [List.length_set] at h3;exact h3⟩
   have hk:ofM i (x::h0.drop (j+1))=x::ofM i (h0.drop (j+1)):=by unfold ofM;rw [List.filter_cons_of_pos (by simpa using hx)]
   have ht:(h0.set m x).take (m+1)=h0.take m++[x]:=by
    rw [List.take_set,List.take_add_one,List.getElem?_eq_getElem (by omega)]
    rw [List.set_append_right _ _ (by rw [List.length_take];omega),List.length_take,Nat.min_eq_left (by omega),Nat.sub_self];rfl
   rw [h2,hk,List.drop_set_of_lt (by omega),ht,List.append_assoc];rfl
  ·rw [if_neg (by simp [hx])]
   obtain ⟨n,h',h1,h2,h3⟩:=qgB i k (j+1) m h0 hl (by omega) (by omega)
   rw [show ((j+1:Nat):Int)=(j:Int)+1 by omega] at h1
   have hk:ofM i (x::h0.drop (j+1))=ofM i (h0.drop (j+1)):=by unfold ofM;rw [List.filter_cons_of_neg (by simpa using hx)]
   exact ⟨n,h',h1,by rw [h2,hk],h3⟩
theorem qMw {bs:List qda} (hl:bs.length≤100000) (i:Int):∃n h',qUa bs i=some ((0,n),(h',i))∧h'.take n=ofM i bs∧n≤h'.length:=by
 have hi:qdb bs i=qya bs (bs.length:Int) ((0:Nat):Int) i:=qLd bs i
 rcases qjD bs hl i bs.length 0 (by omega) with ⟨m,h1,h2,h3,h4,hx⟩|⟨h3,h4⟩
 ·simp only [List.drop_zero,Nat.sub_zero] at h4
  obtain ⟨n,h',g1,g2,g3⟩:=qgB i (bs.length - (m+1)) (m+1) m bs hl (by omega) (by omega)
  rw [show ((m+1:Nat):Int)=(m:Int)+1 by omega] at g1
  have hd:=qBa (qja qfa:qda) (xs:=bs) (i:=m) h2
  refine ⟨n,h',?_,?_,g3.2⟩
  ·rw [qpb,hi,h3,Option.bind_some,if_neg (by simp),w64 (x:=(m:Int)+1) (by omega) (by omega)]
   exact g1
  ·rw [g2]
   conv=>rhs;rw [←List.take_append_drop m bs,hd.1]
   unfold ofM at h4 ⊢
   rw [List.filter_append,h4,List.filter_cons_of_neg (by simpa using hx)]
 ·simp only [List.drop_zero] at h4
  refine ⟨bs.length,bs,?_,by rw [List.take_length,h4],Nat.le_refl _⟩
  rw [qpb,hi,h3]
  exact Tot.eq (Tot.be rfl (Tot.ifeq_pos rfl (Tot.so rfl)))
def nmI (nm:ByteArray):List qaa→Nat→Option Nat
 |[],_=>none
 |r::rs,i=>if r.1.toList=nm.toList then some i else nmI nm rs (i+1)
def nmR:Option Nat→Int×Int
 |some i=>(i,0)
 |none=>(0,6)
theorem qMB (nm:ByteArray) (rs:List qaa) (hl:rs.length≤100000):∀(k i:Nat),i+k=rs.length→qng nm rs (rs.length:Int) (i:Int)=some (nmR (nmI nm (rs.drop i) i))
 |0,i,e=>by rw [qzi,if_neg (by simp;omega),List.drop_eq_nil_of_le (by omega)];rfl
 |k+1,i,e=>by
  have hd:=qBa (qja qba:qaa) (xs:=rs) (i:=i) (by omega)
  have ih:=qMB nm rs hl k (i+1) (by omega)
  rw [show ((i+1:Nat):Int)=(i:Int)+1 by omega] at ih
  rw [qzi,hd.1,nmI]
  simp only [Int.ofNat_eq_natCast,Int.toNat_natCast]
  rw [if_pos (by simp;omega),qea (by omega),qea (by omega),w64 (x:=(i:Int)+1) (by omega) (by omega),ih]
  by_cases hx:(rs.getD i (qja qba)).1.toList=nm.toList
  ·rw [if_pos (beq_iff_eq.2 hx),if_pos hx];rfl
  ·rw [if_neg (fun h=>hx (beq_iff_eq.1 h)),if_neg hx]
theorem qqp {rs:List qaa} (hR:RecsOK rs) (hl:rs.length≤100000) (hv:qZc rs=0) (nm:ByteArray):qag rs nm=some (nmR (nmI nm rs 0)):=by
 rw [qWr,qRc rs hR,hv]
 exact Tot.eq (Tot.be rfl (Tot.ifne_neg rfl (Tot.of_eq (qMB nm rs hl rs.length 0 (by omega)) rfl)))
end Go.Ab

/-
  Extracting: one member.
-/
set_option linter.unusedVariables false
set_option linter.unusedSimpArgs false
set_option maxRecDepth 100000
namespace Go.Ab
open Go
attribute [local irreducible] IntKind.wrap
theorem qKA {a:List Int} {l:qua} {bs:List qda} (h:qYc a=some (l,(bs,0))) {nm:ByteArray} (hf:qag l.2.1 nm=some (nmR none)):qBg a nm=some (((0,(0,())),([],([],()))),(0,(([],(0,0)),6))):=by
 rw [qqk,h]
 exact Tot.eq (Tot.be rfl (Tot.ifne_neg rfl (Tot.be hf (Tot.ifne (fun _=>Tot.so rfl) (fun k=>by cases k)))))
theorem qlr {a:List Int} {l:qua} {bs:List qda} (hl:bs.length≤100000) (h:qYc a=some (l,(bs,0))) {nm:ByteArray} {i:Nat} (hf:qag l.2.1 nm=some (nmR (some i))):
  ∃n h',qBg a nm=some (l,((i:Int),((h',(0,n)),0)))∧h'.take n=ofM i bs∧n≤h'.length:=by
 obtain ⟨n,h',h1,h2,h3⟩:=qMw hl (i:Int)
 refine ⟨n,h',?_,h2,h3⟩
 rw [qqk,h]
 exact Tot.eq (Tot.be rfl (Tot.ifne_neg rfl (Tot.be hf (Tot.ifne_neg rfl (Tot.be h1 (Tot.so rfl))))))
def z0 (p:qpa):qpa:=((0,p.1.2),p.2)
theorem quD (i:Nat) (l:qua) (hi:i<l.2.1.length) (hll:l.2.1.length≤100000) (ps:List qpa) (hl:ps.length≤100000) (ba:ByteArray) (h11:List Int):∀(k j:Nat),j+k=ps.length→
  qre (i:Int) (ps.length:Int) (j:Int) ba () l ((ps.take j).map z0++ps.drop j) h11=(quc [l.2.1.getD i (qja qba)] (ps.map z0)).bind fun r=>if (r.2 != (0:Int))=true then some ((ByteArray.empty,([],())),r.2) else gd ((0:Int)<Int.ofNat r.1.length) (some (r.1.getD 0 (qja T_api_Member),0))
 |0,j,e=>by
  have hd:=qBa (qja qba:qaa) (xs:=l.2.1) (i:=i) hi
  have e1:(ps.take j).map z0++ps.drop j=ps.map z0:=by rw [List.take_of_length_le (by omega),List.drop_eq_nil_of_le (by omega),List.append_nil]
  rw [e1,qHi,if_neg (by simp;omega)]
  simp only [Int.ofNat_eq_natCast,Int.toNat_natCast]
  rw [w64 (x:=(i:Int)+1) (by omega) (by omega),qea (by omega),qea (by omega),qea (by omega),hd.1,show ((i:Int)+1).toNat - i=1 by omega]
  show (quc [l.2.1.getD i (qja qba)] (ps.map z0)).bind _=_
  congr 1
  funext r
  by_cases hr:(r.2 != (0:Int))=true
  ·rw [if_pos hr,if_pos hr]
  ·rw [if_neg hr,if_neg hr,qea (by omega)]
 |k+1,j,e=>by
  have hd:=qBa (qja qta:qpa) (xs:=ps) (i:=j) (by omega)
  have ih:=quD i l hi hll ps hl ba h11 k (j+1) (by omega)
  rw [show ((j+1:Nat):Int)=(j:Int)+1 by omega,hd.2.1,List.map_append,List.map_singleton] at ih
  have hlen:((ps.take j).map z0).length=j:=by rw [List.length_map,List.length_take];omega
  have hget:((ps.take j).map z0++ps.drop j).getD j (qja qta)=ps.getD j (qja qta):=by
   rw [List.getD_eq_getElem?_getD,List.getElem?_append_right (by omega),hlen,Nat.sub_self,hd.1];rfl
  have hset:((ps.take j).map z0++ps.drop j).set j (z0 (ps.getD j (qja qta)))=((ps.take j).map z0++[z0 (ps.getD j (qja qta))])++ps.drop (j+1):=by
   rw [List.set_append_right _ _ (by omega),hlen,Nat.sub_self]
   conv=>lhs;rw [hd.1]
   rw [List.set_cons_zero,List.append_assoc];rfl
  have htl:((ps.take j).map z0++ps.drop j).length=ps.length:=by rw [List.length_append,hlen,List.length_drop];omega
  rw [qHi]
  simp only [Int.ofNat_eq_natCast,Int.toNat_natCast,Nat.zero_add]
  rw [if_pos (by simp;omega),qea (by omega),qea (by rw [htl];omega),w64 (x:=(j:Int)+1) (by omega) (by omega),hget]
  show qre _ _ _ _ _ _ (((ps.take j).map z0++ps.drop j).set j (z0 (ps.getD j (qja qta)))) _=_
  rw [hset]
  exact ih
end Go.Ab

/-
  Extracting: a range of one member.
-/
set_option linter.unusedVariables false
set_option linter.unusedSimpArgs false
set_option maxRecDepth 100000
namespace Go.Ab
open Go
attribute [local irreducible] IntKind.wrap
def SmB (b:qda):Prop:=0≤b.1.2.2.1∧b.1.2.2.1≤1000000∧0≤b.1.2.2.2.1∧b.1.2.2.2.1≤1000000
def qrx (f t:Int) (b:qda):Bool:=decide ((if f>b.1.2.2.1 then f else b.1.2.2.1)≥(if t<b.1.2.2.1+b.1.2.2.2.1 then t else b.1.2.2.1+b.1.2.2.2.1))
theorem qOz {b:qda} (h:SmB b) (f t:Int):qCf b f t=some (qrx f t b,(f,t)):=by
 obtain ⟨h1,h2,h3,h4⟩:=h
 rw [qun,w64 (x:=b.1.2.2.1+b.1.2.2.2.1) (by omega) (by omega)];rfl
def onR (f t:Int) (bs:List qda):List qda:=bs.filter fun b=>!qrx f t b
theorem qHp {f t:Int} {x:qda} {r:List qda} (h:qrx f t x=false):onR f t (x::r)=x::onR f t r:=by unfold onR;rw [List.filter_cons_of_pos (by rw [h];rfl)]
theorem qox {f t:Int} {x:qda} {r:List qda} (h:qrx f t x=true):onR f t (x::r)=onR f t r:=by unfold onR;rw [List.filter_cons_of_neg (by rw [h];decide)]
theorem qyA (bs:List qda) (hl:bs.length≤100000) (hs:∀b∈bs,SmB b) (f t:Int):∀(k j:Nat),j+k=bs.length→(∃m,j≤m∧m<bs.length∧qva bs (bs.length:Int) (j:Int) f t=some ((m:Int),(f,t))∧onR f t ((bs.drop j).take (m - j))=(bs.drop j).take (m - j)∧qrx f t (bs.getD m (qja qfa))=true)∨
  (qva bs (bs.length:Int) (j:Int) f t=some (-1,(f,t))∧onR f t (bs.drop j)=bs.drop j)
 |0,j,e=>by
  refine .inr ⟨by rw [qib,if_neg (by simp;omega)],?_⟩
  rw [List.drop_eq_nil_of_le (by omega)];rfl
 |k+1,j,e=>by
  have hd:=qBa (qja qfa:qda) (xs:=bs) (i:=j) (by omega)
  have hsx:=hs _ hd.2.2
  have ih:=qyA bs hl hs f t k (j+1) (by omega)
  rw [show ((j+1:Nat):Int)=(j:Int)+1 by omega] at ih
  have hun:qva bs (bs.length:Int) (j:Int) f t=if qrx f t (bs.getD j (qja qfa))=true then some ((j:Int),(f,t)) else qva bs (bs.length:Int) ((j:Int)+1) f t:=by
   rw [qib]
   simp only [Int.ofNat_eq_natCast,Int.toNat_natCast]
   rw [if_pos (by simp;omega),qea (by omega),qea (by omega),qOz hsx,Option.bind_some,w64 (x:=(j:Int)+1) (by omega) (by omega)]
  rw [hun,hd.1]
  generalize hgx:bs.getD j (qja qfa)=x at*
  cases hx:qrx f t x with
  |false=>
   rw [if_neg (by decide)]
   rcases ih with ⟨m,h1,h2,h3,h4,h5⟩|⟨h3,h4⟩
   ·refine .inl ⟨m,by omega,h2,h3,?_,h5⟩
    rw [show m - j=(m - (j+1))+1 by omega,List.take_succ_cons,qHp hx,h4]
   ·exact .inr ⟨h3,by rw [qHp hx,h4]⟩
  |true=>
   rw [if_pos rfl]
   exact .inl ⟨j,Nat.le_refl _,by omega,rfl,by rw [Nat.sub_self];rfl,by rw [hgx];exact hx⟩
theorem qyw (f t:Int) (n:Nat) (hn:n≤100000):∀(k j m:Nat) (h0:List qda),n≤h0.length→j+k=n→m<j→(∀b∈h0.take n,SmB b)→
  ∃n' h',qCa 0 n (m:Int) (j:Int) h0 f t=some ((0,n'),(h',(f,t)))∧h'.take n'=h0.take m++onR f t ((h0.take n).drop j)
 |0,j,m,h0,hl,e,hm,hs=>by
  refine ⟨m,qbc h0 m (List.replicate (n - m) (qja qfa)),?_,?_⟩
  ·rw [qgb,if_neg (by simp;omega),qea (by omega),qea (by simp;omega),qea (by omega),qea (by simp;omega)]
   simp only [Int.toNat_natCast,Nat.sub_zero,Nat.zero_add]
  rw [List.drop_eq_nil_of_le (by rw [List.length_take];omega)]
  unfold qbc
  rw [List.append_assoc,List.take_append_of_le_length (by rw [List.length_take];omega),List.take_take,Nat.min_self]
  exact (List.append_nil _).symm
 |k+1,j,m,h0,hl,e,hm,hs=>by
  have hd:=qBa (qja qfa:qda) (xs:=h0.take n) (i:=j) (by rw [List.length_take];omega)
  have hg:(h0.take n).getD j (qja qfa)=h0.getD j (qja qfa):=by
   simp only [List.getD_eq_getElem?_getD,List.getElem?_take];rw [if_pos (by omega)]
  rw [hg] at hd
  have hsx:=hs _ hd.2.2
  rw [qgb]
  simp only [Int.ofNat_eq_natCast,Int.toNat_natCast,Nat.zero_add]
  rw [if_pos (by simp;omega),qea (by omega),qea (by omega),qOz hsx,Option.bind_some,w64 (x:=(j:Int)+1) (by omega) (by omega),w64 (x:=(m:Int)+1) (by omega) (by omega),hd.1]
  generalize hx0:h0.getD j (qja qfa)=x at*
  cases hx:qrx f t x with
  |false=>
   rw [if_pos (show (!false)=true from rfl),qea (by omega),qea (by omega)]
   have hst:(h0.set m x).take n=(h0.take n).set m x:=List.take_set ..
   obtain ⟨n',h',h1,h2⟩:=qyw f t n hn k (j+1) (m+1) (h0.set m x) (by rw [List.length_set];exact hl) (by omega) (by omega) (fun b hb=>by
    rw [hst] at hb
    rcases List.mem_or_eq_of_mem_set hb with hb|rfl
    ·exact hs b hb
    ·exact hsx)
   rw [show ((j+1:Nat):Int)=(j:Int)+1 by omega,show ((m+1:Nat):Int)=(m:Int)+1 by omega] at h1
   refine ⟨n',h',h1,?_⟩
   have ht:(h0.set m x).take (m+1)=h0.take m++[x]:=by
    rw [List.take_set,List.take_add_one,List.getElem?_eq_getElem (by omega)]
    rw [List.set_append_right _ _ (by rw [List.length_take];omega),List.length_take,Nat.min_eq_left (by omega),Nat.sub_self];rfl
   rw [h2,qHp hx,hst,List.drop_set_of_lt (by omega),ht,List.append_assoc];rfl
  |true=>
   rw [if_neg (show ¬((!true)=true) by decide)]
   obtain ⟨n',h',h1,h2⟩:=qyw f t n hn k (j+1) m h0 hl (by omega) (by omega) hs
   rw [show ((j+1:Nat):Int)=(j:Int)+1 by omega] at h1
   exact ⟨n',h',h1,by rw [h2,qox hx]⟩
theorem qDv {n:Nat} (hn:n≤100000) {h0:List qda} (hl:n≤h0.length) (hs:∀b∈h0.take n,SmB b) (f t:Int):∃n' h',qTa 0 n h0 f t=some ((0,n'),(h',(f,t)))∧h'.take n'=onR f t (h0.take n):=by
 have hln:(h0.take n).length=n:=by rw [List.length_take];omega
 have hi:qWa (List.take n (List.drop 0 h0)) f t=qva (h0.take n) ((h0.take n).length:Int) ((0:Nat):Int) f t:=qgd (h0.take n) f t
 rw [qbd,hi]
 rcases qyA (h0.take n) (by omega) hs f t (h0.take n).length 0 (by omega) with ⟨m,h1,h2,h3,h4,hx⟩|⟨h3,h4⟩
 ·simp only [List.drop_zero,Nat.sub_zero] at h4
  rw [hln] at h2
  obtain ⟨n',h',g1,g2⟩:=qyw f t n hn (n - (m+1)) (m+1) m h0 hl (by omega) (by omega) hs
  rw [show ((m+1:Nat):Int)=(m:Int)+1 by omega] at g1
  have hd:=qBa (qja qfa:qda) (xs:=h0.take n) (i:=m) (by omega)
  refine ⟨n',h',?_,?_⟩
  ·rw [h3,Option.bind_some,if_neg (by simp),w64 (x:=(m:Int)+1) (by omega) (by omega)]
   exact g1
  ·rw [g2]
   conv=>rhs;rw [←List.take_append_drop m (h0.take n),hd.1]
   have ht:(h0.take n).take m=h0.take m:=by rw [List.take_take,Nat.min_eq_left (by omega)]
   have hap:∀a b:List qda,onR f t (a++b)=onR f t a++onR f t b:=fun a b=>List.filter_append ..
   rw [hap,h4,qox hx,ht]
 ·simp only [List.drop_zero] at h4
  refine ⟨n,h0,?_,h4.symm⟩
  rw [h3]
  exact Tot.eq (Tot.be rfl (Tot.ifeq_pos rfl (Tot.so rfl)))
end Go.Ab

/-
  Extracting: the bytes of a range.
-/
set_option linter.unusedVariables false
set_option linter.unusedSimpArgs false
set_option maxRecDepth 100000
namespace Go.Ab
open Go
attribute [local irreducible] IntKind.wrap
def loR (f o:Int):Int:=if 0>f - o then 0 else f - o
def hiR (t o n:Int):Int:=if n<t - o then n else t - o
def qBC (f t:Int) (p:qpa):List Int:=(p.2.1.drop (loR f p.1.2.1).toNat).take ((hiR t p.1.2.1 p.2.1.length).toNat - (loR f p.1.2.1).toNat)
def InR (f t:Int) (p:qpa):Prop:=0≤f∧f≤1000000∧0≤t∧t≤1000000∧0≤p.1.2.1∧p.1.2.1≤1000000∧p.2.1.length≤1000000∧loR f p.1.2.1≤hiR t p.1.2.1 p.2.1.length
theorem qax (f t:Int) (ps:List qpa) (hl:ps.length≤10000) (hs:∀p∈ps,InR f t p):∀(k i:Nat) (out:List Int),i+k=ps.length→out.length≤1000000*i→qsc (ps.length:Int) (i:Int) f t out ps=some (out++(ps.drop i).flatMap (qBC f t),0)
 |0,i,out,e,ho=>by
  rw [qBh,if_neg (by simp;omega),List.drop_eq_nil_of_le (by omega),List.flatMap_nil,List.append_nil]
 |k+1,i,out,e,ho=>by
  have hd:=qBa (qja qta:qpa) (xs:=ps) (i:=i) (by omega)
  have hsx:=hs _ hd.2.2
  have ih:=fun out ho=>qax f t ps hl hs k (i+1) out (by omega) ho
  rw [show ((i+1:Nat):Int)=(i:Int)+1 by omega] at ih
  rw [qBh]
  simp only [Int.ofNat_eq_natCast,Int.toNat_natCast,Nat.zero_add]
  rw [if_pos (by simp;omega),qea (by omega),qea (by omega),hd.1,List.flatMap_cons]
  generalize ps.getD i (qja qta)=x at*
  obtain ⟨h1,h2,h3,h4,h5,h6,h7,h8⟩:=hsx
  rw [w64 (x:=f - x.1.2.1) (by omega) (by omega),w64 (x:=t - x.1.2.1) (by omega) (by omega),w64 (x:=(i:Int)+1) (by omega) (by omega)]
  have hlo:0≤loR f x.1.2.1:=by unfold loR;split <;> omega
  have hhi:hiR t x.1.2.1 x.2.1.length≤x.2.1.length:=by unfold hiR;split <;> omega
  have hcl:(qBC f t x).length≤1000000:=by unfold qBC;rw [List.length_take,List.length_drop];omega
  have qqn:(out++qBC f t x).length≤1000000*(i+1):=by rw [List.length_append];omega
  refine Tot.eq (Tot.g hlo (Tot.g h8 (Tot.g hhi (Tot.g ?_ (Tot.of_eq (ih (out++qBC f t x) qqn) ?_)))))
  ·show (out++qBC f t x).length*1≤140737488355328
   omega
  ·rw [List.append_assoc]
theorem qDB {ps:List qpa} {f t:Int} (hl:ps.length≤10000) (hs:∀p∈ps,InR f t p):qsc (ps.length:Int) 0 f t [] ps=some (ps.flatMap (qBC f t),0):=
 qax f t ps hl hs ps.length 0 [] (by omega) (by simp)
end Go.Ab

/-
  Extracting: parts of members, one behind the other, put together.
-/
set_option linter.unusedVariables false
set_option linter.unusedSimpArgs false
set_option maxRecDepth 100000
namespace Go.Ab
open Go
attribute [local irreducible] IntKind.wrap
def Chn (i:Nat):Nat→List qpa→Prop
 |_,[]=>True
 |off,p::r=>p.1.1=(i:Int)∧p.1.2.1=(off:Int)∧p.1.2.2.1=(p.2.1.length:Int)∧0<p.2.1.length∧Chn i (off+p.2.1.length) r
def dat (qs:List qpa):List Int:=qs.flatMap fun p=>p.2.1
theorem qtr:dat []=[]:=rfl
theorem qyn (p:qpa) (r:List qpa):dat (p::r)=p.2.1++dat r:=List.flatMap_cons
theorem qzw (p:qpa) (r:List qpa):(dat (p::r)).length=p.2.1.length+(dat r).length:=by rw [qyn,List.length_append]
def ChnL:Nat→List (List qpa)→Prop
 |_,[]=>True
 |i,q::r=>Chn i 0 q∧ChnL (i+1) r
def SzL:List qaa→List (List qpa)→Prop
 |[],[]=>True
 |r::rs,q::qs=>r.2.1=((dat q).length:Int)∧(dat q).length≤20000∧SzL rs qs
 |_,_=>False
def qwx:List qaa→List (List qpa)→Mm
 |r::rs,q::qs=>(r.1,dat q)::qwx rs qs
 |_,_=>[]
theorem qFi {α:Type} {dn tl:List α} {e d:α}:(dn++e::tl).getD dn.length d=e:=by
 rw [List.getD_eq_getElem?_getD,List.getElem?_append_right (Nat.le_refl _),Nat.sub_self];rfl
theorem qWw {α:Type} {dn tl:List α} {e f:α}:(dn++e::tl).set dn.length f=dn++f::tl:=by
 rw [List.set_append_right _ _ (Nat.le_refl _),Nat.sub_self,List.set_cons_zero]
theorem qSz (nm:ByteArray) (dn:Mm) (dn8:List (List Bool)) (tl:Mm) (tl8:List (List Bool)) (h8:dn8.length=dn.length) (rest:List qpa) (n:Nat) (hn:n≤1000000):
  ∀(qs:List qpa) (pre:List Int),Chn dn.length pre.length qs→pre.length+(dat qs).length=n→
   (qCv rest (dn++(nm,pre++dat qs)::tl) (dn8++List.replicate n true::tl8)→qCv (qs++rest) (dn++(nm,pre++List.replicate (n - pre.length) 0)::tl) (dn8++(List.replicate pre.length true++List.replicate (n - pre.length) false)::tl8))∧
   putL (qs++rest) (dn++(nm,pre++List.replicate (n - pre.length) 0)::tl)=putL rest (dn++(nm,pre++dat qs)::tl)
 |[],pre,_,hl=>by
  rw [qtr,List.length_nil,Nat.add_zero] at hl
  subst hl
  rw [Nat.sub_self,qtr]
  simp only [List.replicate_zero,List.append_nil,List.nil_append]
  exact ⟨id,trivial⟩
 |p::qs,pre,hc,hl=>by
  obtain ⟨c1,c2,c3,c4,c5⟩:=hc
  rw [qzw] at hl
  have ih:=qSz nm dn dn8 tl tl8 h8 rest n hn qs (pre++p.2.1) (by rw [List.length_append];exact c5) (by rw [List.length_append];omega)
  rw [List.length_append] at ih
  have hM:pM p=dn.length:=by unfold pM;rw [c1];rfl
  have hO:pO p=pre.length:=by unfold pO;rw [c2];rfl
  have e0:qKD p (dn++(nm,pre++List.replicate (n - pre.length) 0)::tl)=dn++(nm,(pre++p.2.1)++List.replicate (n - (pre.length+p.2.1.length)) 0)::tl:=by
   unfold qKD
   rw [hM,hO,qFi,qWw,qhz (by rw [List.length_replicate];omega),List.drop_replicate,Nat.sub_sub]
  have e8:qHE p (dn8++(List.replicate pre.length true++List.replicate (n - pre.length) false)::tl8)=dn8++(List.replicate (pre.length+p.2.1.length) true++List.replicate (n - (pre.length+p.2.1.length)) false)::tl8:=by
   unfold qHE
   rw [hM,hO,←h8,qFi,qWw]
   have:=qhz (ys:=p.2.1.map fun _=>true) (dn:=List.replicate pre.length true) (zs:=List.replicate (n - pre.length) false) (by rw [List.length_map,List.length_replicate];omega)
   rw [List.length_replicate] at this
   rw [this,List.drop_replicate,List.length_map,Nat.sub_sub,List.map_const',List.replicate_append_replicate]
  have e9:pre++dat (p::qs)=(pre++p.2.1)++dat qs:=by rw [qyn,List.append_assoc]
  rw [List.cons_append,e9]
  refine ⟨fun h=>⟨⟨by rw [c1];omega,by rw [hM,List.length_append,List.length_cons];omega,by rw [c2];omega,by rw [hO];omega,?_,?_,?_⟩,?_⟩,?_⟩
  ·rw [hM,qFi,←h8,qFi];simp
  ·rw [hM,hO,←h8,qFi];simp;omega
  ·rw [hM,hO,←h8,qFi]
   intro j h1 h2
   rw [List.getD_eq_getElem?_getD,List.getElem?_append_right (by rw [List.length_replicate];exact h1),List.length_replicate,List.getElem?_replicate]
   split <;> rfl
  ·rw [e0,e8];exact ih.1 h
  ·rw [putL,e0];exact ih.2
theorem qex:∀(qss:List (List qpa)) (rs:List qaa) (dn:Mm) (dn8:List (List Bool)),dn8.length=dn.length→ChnL dn.length qss→SzL rs qss→
  qCv qss.flatten (dn++qZb rs) (dn8++qtk (qZb rs))∧putL qss.flatten (dn++qZb rs)=dn++qwx rs qss
 |[],[],dn,dn8,h8,_,_=>by simp [qZb,qwx,putL,qCv]
 |[],_::_,_,_,_,_,h=>h.elim
 |_::_,[],_,_,_,_,h=>h.elim
 |q::qss,r::rs,dn,dn8,h8,hc,hs=>by
  obtain ⟨s1,s2,s3⟩:=hs
  have h:=qSz r.1 dn dn8 (qZb rs) (qtk (qZb rs)) h8 qss.flatten (dat q).length (by omega) q [] hc.1 (by simp)
  simp only [List.nil_append,List.length_nil,Nat.sub_zero,List.replicate_zero] at h
  have ih:=qex qss rs (dn++[(r.1,dat q)]) (dn8++[List.replicate (dat q).length true]) (by simp [h8]) (by simpa using hc.2) s3
  have e1:qZb (r::rs)=(r.1,List.replicate (dat q).length 0)::qZb rs:=by
   show (r.1,List.replicate r.2.1.toNat 0)::_=_
   rw [s1];rfl
  have e2:qtk (qZb (r::rs))=List.replicate (dat q).length false::qtk (qZb rs):=by
   rw [e1]
   show List.replicate (List.replicate (dat q).length (0:Int)).length false::_=_
   rw [List.length_replicate];rfl
  rw [List.flatten_cons,e2,e1,qwx]
  rw [List.append_assoc,List.append_assoc,List.append_assoc] at ih
  exact ⟨h.1 ih.1,h.2.trans ih.2⟩
theorem qvx:∀{rs:List qaa} {qss:List (List qpa)},SzL rs qss→(qwx rs qss).length=rs.length
 |[],[],_=>rfl
 |[],_::_,h=>h.elim
 |_::_,[],h=>h.elim
 |_::rs,_::qss,h=>by rw [qwx,List.length_cons,List.length_cons,qvx h.2.2]
theorem Chn.at:∀{qs:List qpa} {i off:Nat},Chn i off qs→∀p∈qs,p.1.1=(i:Int)∧(off:Int)≤p.1.2.1∧0<p.1.2.2.1∧p.1.2.2.1=(p.2.1.length:Int)∧p.1.2.1+p.1.2.2.1≤(off:Int)+((dat qs).length:Int)
 |[],_,_,_,p,hp=>by cases hp
 |x::qs,i,off,⟨c1,c2,c3,c4,c5⟩,p,hp=>by
  rw [qzw]
  rcases List.mem_cons.1 hp with rfl|hp
  ·exact ⟨c1,by omega,by omega,c3,by omega⟩
  ·obtain ⟨h1,h2,h3,h4,h5⟩:=Chn.at c5 p hp
   exact ⟨h1,by omega,h3,h4,by omega⟩
theorem ChnL.at:∀{qss:List (List qpa)} {rs:List qaa} {k:Nat},ChnL k qss→SzL rs qss→∀p∈qss.flatten,(k:Int)≤p.1.1∧p.1.1<(k:Int)+(rs.length:Int)∧0≤p.1.2.1∧0<p.1.2.2.1∧p.1.2.2.1=(p.2.1.length:Int)∧p.1.2.1+p.1.2.2.1≤(szs rs).getD (p.1.1.toNat - k) 0∧(szs rs).getD (p.1.1.toNat - k) 0≤20000
 |[],_,_,_,_,p,hp=>by simp at hp
 |_::_,[],_,_,h,_,_=>h.elim
 |q::qss,r::rs,k,⟨c1,c2⟩,⟨s1,s2,s3⟩,p,hp=>by
  rw [List.flatten_cons,List.mem_append] at hp
  rw [List.length_cons]
  rcases hp with hp|hp
  ·obtain ⟨h1,h2,h3,h4,h5⟩:=Chn.at c1 p hp
   rw [h1]
   have e:(szs (r::rs)).getD ((k:Int).toNat - k) 0=r.2.1:=by rw [Int.toNat_natCast,Nat.sub_self];rfl
   rw [e]
   exact ⟨by omega,by omega,by omega,h3,h4,by omega,by omega⟩
  ·obtain ⟨h1,h2,h3,h4,h5,h6,h7⟩:=ChnL.at c2 s3 p hp
   have e:(szs (r::rs)).getD (p.1.1.toNat - k) 0=(szs rs).getD (p.1.1.toNat - (k+1)) 0:=by
    rw [show p.1.1.toNat - k=(p.1.1.toNat - (k+1))+1 by omega];rfl
   rw [e]
   exact ⟨by omega,by omega,h3,h4,h5,h6,h7⟩
theorem qir {i:Int} {ys:List qia} {e:Int}:∀{xs:List qia},(∀p∈xs,p.1≠i)→(qmw i (xs++ys) e↔qmw i ys e)
 |[],_=>Iff.rfl
 |x::xs,h=>by
  rw [List.cons_append,qmw,if_pos (h x (List.mem_cons_self ..))]
  exact qir fun p hp=>h p (List.mem_cons_of_mem _ hp)
theorem qDx {i:Nat} {ys:List qia}:∀{qs:List qpa} {off:Nat},Chn i off qs→(qmw (i:Int) (qs.map (·.1)++ys) (off:Int)↔qmw (i:Int) ys ((off+(dat qs).length:Nat):Int))
 |[],off,_=>by simp [qtr]
 |x::qs,off,⟨c1,c2,c3,c4,c5⟩=>by
  rw [List.map_cons,List.cons_append,qmw,if_neg (by rw [c1];exact fun h=>h rfl),c2,c3,if_pos (by omega),qzw]
  have:=qDx (ys:=ys) c5
  rw [show (off:Int)+(x.2.1.length:Int)=((off+x.2.1.length:Nat):Int) by omega,this,Nat.add_assoc]
  exact ⟨fun h=>h.2,fun h=>⟨Int.le_refl _,h⟩⟩
theorem qGA:∀{qss:List (List qpa)} {rs:List qaa} {k:Nat},ChnL k qss→SzL rs qss→∀i:Nat,i<rs.length→qmw ((k+i:Nat):Int) (qss.flatten.map (·.1)++[(((k+i:Nat):Int),((szs rs).getD i 0,(0,())))]) 0
 |[],[],_,_,_,i,h=>by simp at h
 |[],_::_,_,_,h,_,_=>h.elim
 |_::_,[],_,_,h,_,_=>h.elim
 |q::qss,r::rs,k,⟨c1,c2⟩,⟨s1,s2,s3⟩,i,hi=>by
  rw [List.flatten_cons,List.map_append,List.append_assoc]
  cases i with
  |zero=>
   rw [Nat.add_zero]
   rw [show (0:Int)=((0:Nat):Int) from rfl,qDx c1,qir (fun p hp=>by
    obtain ⟨x,hx,rfl⟩:=List.mem_map.1 hp
    have:=(ChnL.at c2 s3 x hx).1
    omega)]
   rw [qmw,if_neg (fun h=>h rfl)]
   refine ⟨?_,trivial⟩
   show r.2.1≤_
   rw [s1];omega
  |succ i=>
   rw [qir (fun p hp=>by
    obtain ⟨x,hx,rfl⟩:=List.mem_map.1 hp
    have:=(Chn.at c1 x hx).1
    omega)]
   have ih:=qGA c2 s3 i (by simpa using hi)
   rw [show k+1+i=k+(i+1) by omega] at ih
   exact ih
theorem qqE {qss:List (List qpa)} {rs:List qaa} (hc:ChnL 0 qss) (hs:SzL rs qss):Cov (szs rs) (qss.flatten.map (·.1)):=fun i hi=>by
 have:=qGA hc hs i (by rwa [qge] at hi)
 rwa [Nat.zero_add] at this
theorem qUC:∀{qs:List qpa} {i off:Nat},Chn i off qs→(qs.map (·.1)).Pairwise leP
 |[],_,_,_=>List.Pairwise.nil
 |x::qs,i,off,⟨c1,c2,c3,c4,c5⟩=>by
  rw [List.map_cons,List.pairwise_cons]
  refine ⟨fun p hp=>?_,qUC c5⟩
  obtain ⟨y,hy,rfl⟩:=List.mem_map.1 hp
  have:=Chn.at c5 y hy
  exact .inr ⟨by omega,by omega⟩
theorem qVC:∀{qss:List (List qpa)} {rs:List qaa} {k:Nat},ChnL k qss→SzL rs qss→(qss.flatten.map (·.1)).Pairwise leP
 |[],_,_,_,_=>List.Pairwise.nil
 |_::_,[],_,_,h=>h.elim
 |q::qss,r::rs,k,⟨c1,c2⟩,⟨s1,s2,s3⟩=>by
  rw [List.flatten_cons,List.map_append,List.pairwise_append]
  refine ⟨qUC c1,qVC c2 s3,fun a ha b hb=>?_⟩
  obtain ⟨x,hx,rfl⟩:=List.mem_map.1 ha
  obtain ⟨y,hy,rfl⟩:=List.mem_map.1 hb
  have h1:=(Chn.at c1 x hx).1
  have h2:=(ChnL.at c2 s3 y hy).1
  exact .inl (by omega)
theorem qqF {l:List qia} (h:l.Pairwise leP):Ord l:=fun i j hij hj=>by
 simp only [List.getD_eq_getElem?_getD,List.getElem?_eq_getElem hj,List.getElem?_eq_getElem (Nat.lt_of_le_of_lt hij hj),Option.getD_some]
 rcases Nat.lt_or_eq_of_le hij with h1|h1
 ·exact List.pairwise_iff_getElem.1 h i j _ hj h1
 ·subst h1;exact .inr ⟨rfl,Int.le_refl _⟩
theorem qpE {rs:List qaa} {qss:List (List qpa)} (hR:RecsOK rs) (hv:qZc rs=0) (hl:rs.length≤10000) (hc:ChnL 0 qss) (hs:SzL rs qss) (hps:qss.flatten.length≤600)
  (hso:qEa (qss.flatten.map (·.1))=some (qss.flatten.map (·.1))) (hb:∀q∈qss,Bts (dat q)):
  quc rs qss.flatten=some (if qKv rs (qRg (a:= .str) (e:= .int .u8) (qwx rs qss)) rs.length 0=true then (qRg (a:= .str) (e:= .int .u8) (qwx rs qss),0) else ([],22)):=by
 have hsz:∀(rs:List qaa) (qss:List (List qpa)),SzL rs qss→∀r∈rs,0≤r.2.1∧r.2.1≤20000:=by
  intro rs
  induction rs with
  |nil=>intro _ _ r hr;cases hr
  |cons r rs ih=>
   intro qss h x hx
   cases qss with
   |nil=>exact h.elim
   |cons q qss=>
    rcases List.mem_cons.1 hx with rfl|hx
    ·have:=h.1;have:=h.2.1;omega
    ·exact ih qss h.2.2 x hx
 have hpa:=qex qss rs [] [] rfl hc hs
 simp only [List.nil_append] at hpa
 have hat:=fun p hp=>ChnL.at hc hs p hp
 have hmm:∀(rs:List qaa) (qss:List (List qpa)),SzL rs qss→(∀q∈qss,Bts (dat q))→∀m∈qwx rs qss,Bts m.2∧m.2.length≤20000:=by
  intro rs
  induction rs with
  |nil=>intro qss h _ m hm;cases qss <;> simp [qwx] at hm
  |cons r rs ih=>
   intro qss h hb m hm
   cases qss with
   |nil=>exact h.elim
   |cons q qss=>
    rw [qwx] at hm
    rcases List.mem_cons.1 hm with rfl|hm
    ·exact ⟨hb q (List.mem_cons_self ..),h.2.1⟩
    ·exact ih qss h.2.2 (fun q hq=>hb q (List.mem_cons_of_mem _ hq)) m hm
 have h:=qKC (rs:=rs) (ps:=qss.flatten) hR hv hl (hsz rs qss hs) hps (fun p hp=>by
  obtain ⟨h1,h2,h3,h4,h5,h6,h7⟩:=hat p hp
  rw [Nat.sub_zero] at h6 h7
  exact ⟨⟨by omega,by rw [qge];omega,h3,h4,h6,by omega⟩,h5.symm⟩) hpa.1 hso (fun p hp=>by
  obtain ⟨h1,h2,h3,h4,h5,h6,h7⟩:=hat p hp
  exact ⟨h3,by omega,by omega,by omega⟩) (qqE hc hs) (by rw [hpa.2];exact qvx hs) (by rw [hpa.2];exact hmm rs qss hs hb)
 rw [hpa.2] at h
 exact h
end Go.Ab

/-
  Extracting: what Extract, One and Range answer where an archive was opened.
-/
set_option linter.unusedVariables false
set_option linter.unusedSimpArgs false
set_option maxRecDepth 100000
namespace Go.Ab
open Go
attribute [local irreducible] IntKind.wrap
structure Opn (a:List Int) (l:qua) (bs:List qda):Prop where
 op:qYc a=some (l,(bs,0))
 lv:0≤l.1.1∧l.1.1≤7
 st:∀b∈bs,StB b
 ln:bs.length≤600
 rk:RecsOK l.2.1
 vl:qZc l.2.1=0
 rn:l.2.1.length≤16
theorem qbn:∀{bs:List qda},(∀b∈bs,(qLr b).2=0)→qFp bs=some (bs.map prt)
 |[],_=>rfl
 |b::r,h=>by
  rw [qFp,if_neg (fun k=>k (h b (List.mem_cons_self ..))),qbn fun x hx=>h x (List.mem_cons_of_mem _ hx)]
  rfl
theorem qfx:∀{bs:List qda},(∃b∈bs,(qLr b).2≠0)→qFp bs=none
 |[],h=>by obtain ⟨_,h,_⟩:=h;cases h
 |b::r,h=>by
  rw [qFp]
  split
  ·rfl
  ·rename_i hb
   obtain ⟨x,hx,h⟩:=h
   rcases List.mem_cons.1 hx with rfl|hx
   ·exact absurd h hb
   ·rw [qfx ⟨x,hx,h⟩];rfl
theorem qmm {a1 a2:Int} {z:List Int}:qLr (qIg a1 a2 z)=(z,0):=if_pos rfl
theorem qaw {i:Int} {bs:List qda} {b:qda} (h:b∈ofM i bs):b∈bs:=(List.mem_filter.1 h).1
theorem qSD {f t:Int} {bs:List qda} {b:qda} (h:b∈onR f t bs):b∈bs:=(List.mem_filter.1 h).1
section
variable {a:List Int} {l:qua} {bs:List qda}
theorem Opn.parts (o:Opn a l bs) {cs:List qda} (hc:∀b∈cs,b∈bs) (hl:cs.length≤10000):qVb l.1.1 cs=some (qND (qFp cs)):=qry _ o.lv cs hl fun b hb=>o.st b (hc b hb)
theorem Opn.none (o:Opn a l bs) (h:qFp bs=none):qRd a=some ([],22):=by
 have hp:=o.parts (cs:=bs) (fun b hb=>hb) (by have:=o.ln;omega)
 rw [h] at hp
 rw [qei,o.op]
 exact Tot.eq (Tot.be rfl (Tot.ifne_neg rfl (Tot.be hp (Tot.ifne (fun _=>Tot.so rfl) (fun k=>by cases k)))))
theorem Opn.some {ps:List qpa} (o:Opn a l bs) (h:qFp bs=some ps):qRd a=quc l.2.1 ps:=by
 have hp:=o.parts (cs:=bs) (fun b hb=>hb) (by have:=o.ln;omega)
 rw [h] at hp
 rw [qei,o.op,Option.bind_some]
 refine (if_neg (show ¬((0:Int) != 0)=true by decide)).trans ?_
 show (qVb l.1.1 bs).bind _=_
 rw [hp,Option.bind_some]
 refine (if_neg (show ¬((0:Int) != 0)=true by decide)).trans ?_
 show (quc l.2.1 ps).bind _=_
 cases quc l.2.1 ps <;> rfl
def zM:qna:=(ByteArray.empty,([],()))
theorem Opn.find (o:Opn a l bs) (nm:ByteArray):qag l.2.1 nm=Option.some (nmR (nmI nm l.2.1 0)):=qqp o.rk (by have:=o.rn;omega) o.vl nm
theorem Opn.one_no (o:Opn a l bs) {nm:ByteArray} (h:nmI nm l.2.1 0=Option.none):qFc a nm=Option.some (zM,6):=by
 have hf:=o.find nm
 rw [h] at hf
 rw [qcm,qKA o.op hf]
 exact Tot.eq (Tot.be rfl (Tot.ifne (fun _=>Tot.so rfl) (fun k=>by cases k)))
theorem qsx {nm:ByteArray}:∀{rs:List qaa} {i j:Nat},nmI nm rs i=Option.some j→i≤j∧j<i+rs.length
 |[],i,j,h=>by cases h
 |r::rs,i,j,h=>by
  rw [nmI] at h
  split at h
  ·cases h;simp
  ·have:=qsx h
   rw [List.length_cons];omega
theorem Opn.one_some (o:Opn a l bs) {nm:ByteArray} {i:Nat} (h:nmI nm l.2.1 0=Option.some i) {ps:List qpa} (hp:qFp (ofM i bs)=Option.some ps) (hl:ps.length≤10000):
  qFc a nm=(quc [l.2.1.getD i (qja qba)] (ps.map z0)).bind fun r=>if (r.2 != (0:Int))=true then Option.some (zM,r.2) else gd ((0:Int)<Int.ofNat r.1.length) (Option.some (r.1.getD 0 (qja T_api_Member),0)):=by
 have hf:=o.find nm
 rw [h] at hf
 have hi:=qsx h
 obtain ⟨n,h',h1,h2,hnn⟩:=qlr (by have:=o.ln;omega) o.op hf
 have hlen:(ofM (i:Int) bs).length≤bs.length:=List.length_filter_le ..
 have hpa:=o.parts (cs:=ofM i bs) (fun b hb=>qaw hb) (by have:=o.ln;omega)
 rw [hp,←h2] at hpa
 have h3:=quD i l (by omega) (by have:=o.rn;omega) ps (by omega) ByteArray.empty [] ps.length 0 (by omega)
 rw [List.take_zero,List.map_nil,List.nil_append,List.drop_zero] at h3
 rw [qcm,h1,Option.bind_some]
 refine (if_neg (show ¬((0:Int) != 0)=true by decide)).trans ?_
 show (qVb l.1.1 (List.take n (List.drop 0 h'))).bind _=_
 rw [List.drop_zero,hpa,Option.bind_some]
 refine (if_neg (show ¬((0:Int) != 0)=true by decide)).trans ?_
 exact h3
theorem Opn.range_arg (o:Opn a l bs) {nm:ByteArray} {i:Nat} (h:nmI nm l.2.1 0=Option.some i) {f t:Int} (hx:f<0∨t<f∨t>(l.2.1.getD i (qja qba)).2.1):qRa a nm f t=Option.some ([],2):=by
 have hf:=o.find nm
 rw [h] at hf
 have hi:=qsx h
 obtain ⟨n,h',h1,h2,hnn⟩:=qlr (by have:=o.ln;omega) o.op hf
 rw [qxj,h1]
 refine Tot.eq (Tot.be rfl (Tot.ifne_neg rfl (Tot.ifd (fun _=>Tot.so rfl) (fun k1=>Tot.ifd (fun _=>Tot.so rfl) (fun k2=>Tot.g (by show (0:Int)≤(i:Int);omega) (Tot.g (by show (i:Int)<(l.2.1.length:Int);omega) (Tot.ifd_pos ?_ (Tot.so rfl))))))))
 show t>(l.2.1.getD ((i:Int).toNat) (qja qba)).2.1
 rw [Int.toNat_natCast]
 omega
theorem Opn.range_go (o:Opn a l bs) (hs:∀b∈bs,SmB b) {nm:ByteArray} {i:Nat} (h:nmI nm l.2.1 0=Option.some i) {f t:Int} (h1:0≤f) (h2:f≤t) (h3:t≤(l.2.1.getD i (qja qba)).2.1) {r:List Int×Int}
  (hr:Tot (if ((qND (qFp (onR f t (ofM i bs)))).2 != (0:Int))=true then Option.some ([],(qND (qFp (onR f t (ofM i bs)))).2) else qsc (Int.ofNat (qND (qFp (onR f t (ofM i bs)))).1.length) 0 f t [] (qND (qFp (onR f t (ofM i bs)))).1) fun x=>x=r):qRa a nm f t=Option.some r:=by
 have hf:=o.find nm
 rw [h] at hf
 have hi:=qsx h
 obtain ⟨n,h',g1,g2,hnn⟩:=qlr (by have:=o.ln;omega) o.op hf
 have hlen:(ofM (i:Int) bs).length≤bs.length:=List.length_filter_le ..
 have hln:=o.ln
 have hnl:(h'.take n).length=n:=by rw [List.length_take];omega
 have hn6:n≤600:=by rw [←hnl,g2];omega
 obtain ⟨n',h'',k1,k2⟩:=qDv (n:=n) (by omega) (h0:=h') hnn (fun b hb=>hs b (by rw [g2] at hb;exact qaw hb)) f t
 rw [g2] at k2
 have hlen2:(onR f t (ofM (i:Int) bs)).length≤(ofM (i:Int) bs).length:=List.length_filter_le ..
 have hpa:=o.parts (cs:=onR f t (ofM i bs)) (fun b hb=>qaw (qSD hb)) (by omega)
 have hpa2:qVb l.1.1 (h''.take n')=Option.some (qND (qFp (onR f t (ofM i bs)))):=by rw [k2];exact hpa
 rw [qxj,g1]
 refine Tot.eq (Tot.be rfl (Tot.ifne_neg rfl (Tot.ifd_neg (by omega) (Tot.ifd_neg (by omega) (Tot.g (by show (0:Int)≤(i:Int);omega) (Tot.g (by show (i:Int)<(l.2.1.length:Int);omega) (Tot.ifd_neg ?_ (Tot.be k1 (Tot.be (by rw [List.drop_zero];exact hpa2) hr)))))))))
 show ¬t>(l.2.1.getD ((i:Int).toNat) (qja qba)).2.1
 rw [Int.toNat_natCast]
 omega
theorem Opn.range_none (o:Opn a l bs) (hs:∀b∈bs,SmB b) {nm:ByteArray} {i:Nat} (h:nmI nm l.2.1 0=Option.some i) {f t:Int} (h1:0≤f) (h2:f≤t) (h3:t≤(l.2.1.getD i (qja qba)).2.1) (hp:qFp (onR f t (ofM i bs))=Option.none):qRa a nm f t=Option.some ([],22):=
 o.range_go hs h h1 h2 h3 (by rw [hp];exact Tot.ifne (fun _=>Tot.so rfl) (fun k=>by cases k))
theorem Opn.range_some (o:Opn a l bs) (hs:∀b∈bs,SmB b) {nm:ByteArray} {i:Nat} (h:nmI nm l.2.1 0=Option.some i) {f t:Int} (h1:0≤f) (h2:f≤t) (h3:t≤(l.2.1.getD i (qja qba)).2.1) {ps:List qpa} (hp:qFp (onR f t (ofM i bs))=Option.some ps)
  (hl:ps.length≤10000) (hR:∀p∈ps,InR f t p):qRa a nm f t=Option.some (ps.flatMap (qBC f t),0):=
 o.range_go hs h h1 h2 h3 (by rw [hp];exact Tot.ifne_neg rfl (Tot.of_eq (qDB hl hR) rfl))
end
end Go.Ab

/-
  Archives of stored blocks, as the law of extracting makes them.
-/
set_option linter.unusedVariables false
set_option linter.unusedSimpArgs false
set_option maxRecDepth 100000
namespace Go.Ab
open Go
attribute [local irreducible] IntKind.wrap
noncomputable def qkG (rs:List qaa) (X:List qda):Option (List Int):=(qsd ((0:Int),((16:Int),())) rs).bind fun r2=>(qbe r2 X).bind fun r3=>some r3
theorem qzD (l:List qna) (hl:l.length≤16) (i:Nat) (hi:i<l.length) (hn:(qnb l i).length≤8192) (rs:List qaa):∀(k:Nat) (off:Int) (h9:List qda),((qnb l i).length:Int) - off≤16*(k:Int)→0≤off→off≤200000 - 16*(k:Int)→h9.length+k≤1000000→
  qjc l (i:Int) off rs h9=qvb l ((i:Int)+1) rs (h9++(pcs (i:Int) (qnb l i).length 16 k off).map (stB (qnb l))):=by
 intro k
 induction k with
 |zero=>
  intro off h9 e h0 h1 h2
  rw [qye,qea (by omega),qea (by simp;omega)]
  have hm:(l.getD i (qja T_api_Member)).2.1=qnb l i:=rfl
  simp only [Int.toNat_natCast,Int.ofNat_eq_natCast,hm,decide_eq_true_eq]
  rw [if_neg (by omega),w64 (by omega) (by omega),pcs,List.map_nil,List.append_nil]
 |succ k ih=>
  intro off h9 e h0 h1 h2
  rw [qye,qea (by omega),qea (by simp;omega)]
  have hm:(l.getD i (qja T_api_Member)).2.1=qnb l i:=rfl
  simp only [Int.toNat_natCast,Int.ofNat_eq_natCast,hm,decide_eq_true_eq]
  rw [w64 (x:=off+16) (by omega) (by omega),pcs]
  by_cases ho:off<((qnb l i).length:Int)
  ·have ih:=fun h9 h2=>ih (off+16) h9 (by omega) (by omega) (by omega) h2
   rw [if_pos ho,if_pos ho]
   have hz:(if off+16<((qnb l i).length:Int) then off+16 else ((qnb l i).length:Int)).toNat - off.toNat=(if (16:Int)<((qnb l i).length:Int) - off then (16:Int) else ((qnb l i).length:Int) - off).toNat:=by
    split <;> split <;> omega
   rw [hz]
   have hzl:((qnb l i).drop off.toNat).length≤8192:=by rw [List.length_drop];omega
   have hmd:=qIB (a1:=(i:Int)) (a2:=off) (z:=((qnb l i).drop off.toNat).take (if (16:Int)<((qnb l i).length:Int) - off then (16:Int) else ((qnb l i).length:Int) - off).toNat) (by rw [List.length_take];split <;> omega)
   rw [qea (by omega),qea (by omega),qea (by omega),qea (by omega),qea (by omega),qea (by split <;> omega),qea (by split <;> omega),hmd,Option.bind_some,qea (by rw [List.length_append,List.length_singleton];omega),ih _ (by rw [List.length_append,List.length_singleton];omega),List.append_assoc]
   rfl
  ·rw [if_neg ho,if_neg ho,List.map_nil,List.append_nil,w64 (by omega) (by omega)]
theorem qtz (l:List qna) (hl:l.length≤16) (hn:∀i,(qnb l i).length≤8192) (rs:List qaa):∀(k i:Nat) (h9:List qda),i+k=l.length→h9.length≤10000*i→
  qvb l (i:Int) rs h9=qkG rs (h9++(ap 16 (i:Int) ((recs l).drop i)).map (stB (qnb l)))
 |0,i,h9,e,h1=>by
  rw [qze,if_neg (by simp;omega),List.drop_eq_nil_of_le (by rw [qXg];omega),ap,List.map_nil,List.append_nil]
  rfl
 |k+1,i,h9,e,h1=>by
  have hd:=qBa (qja qba:qaa) (xs:=recs l) (i:=i) (by rw [qXg];omega)
  have hg:=qEp l i (by omega)
  have hsz:((recs l).getD i (qja qba)).2.1=((qnb l i).length:Int):=by rw [hg];rfl
  have hpl:=qWn (i:Int) ((qnb l i).length:Int) 16 (by omega) 8200 0 (by omega) (by omega)
  have hni:=hn i
  have ih:=qtz l hl hn rs k (i+1) (h9++(pcs (i:Int) (qnb l i).length 16 8200 0).map (stB (qnb l))) (by omega) (by rw [List.length_append,List.length_map];omega)
  rw [show ((i+1:Nat):Int)=(i:Int)+1 by omega] at ih
  rw [qze,if_pos (by simp;omega),qzD l hl i (by omega) (hn i) rs 8200 0 h9 (by omega) (by omega) (by omega) (by omega),ih,hd.1,ap,hsz,List.map_append,List.append_assoc]
theorem qWp (l:List qna) (hM:MemsOK l) (hc:mck l=0) (ht:tot (recs l)≤80):qXa l=some (qMm (qnb l) (recs l)):=by
 obtain ⟨h,hn,hs⟩:=qxB hM hc
 have hV:=qoc h.val
 have hlen:=h.len ht
 have hh:=qTv sA (recs l) hV h.sums
 have hhl:(qAf sA (recs l)).length=28+(qtb (recs l)).length:=qhl
 have hbw:∀b∈(psA (recs l)).map (stB (qnb l)),bWf b∧b.2.1.length≤5000:=fun b hb=>by
  obtain ⟨p,hp,rfl⟩:=List.mem_map.1 hb
  obtain ⟨a,b,c,d,f,g⟩:=h.piece hp
  exact ⟨qdh _ _ _,by have:=c.2.2.2.1;show (ptD (qnb l) p).2.1.length≤5000;omega⟩
 have hj:=qJB ((psA (recs l)).map (stB (qnb l))) hbw (by rw [List.length_map];omega) ((psA (recs l)).map (stB (qnb l))).length 0 (qAf sA (recs l)) (by omega) (by omega)
 have hJ:qbe (qAf sA (recs l)) ((psA (recs l)).map (stB (qnb l)))=some (qMm (qnb l) (recs l)):=by
  rw [qrl,List.nil_append]
  refine Tot.eq (Tot.g (by omega) (Tot.of_eq hj ?_))
  rw [List.drop_zero];rfl
 have hml:∀i,(qnb l i).length≤8192:=fun i=>by
  by_cases hi:i<(recs l).length
  ·have h1:=h.sz i hi
   have hm:(recs l).getD i (qja qba)∈recs l:=qZg (P:=fun r=>r∈recs l) (fun r hr=>hr) i hi
   have h2:=(hV.each _ hm).2.1
   omega
  ·have:qnb l i=[]:=by
    unfold qnb
    rw [List.getD_eq_getElem?_getD,List.getElem?_eq_none (by rw [qXg] at hi;omega)]
    rfl
   rw [this];exact Nat.zero_le _
 have h1:=qtz l hn hml (recs l) l.length 0 [] (by omega) (by simp)
 rw [List.drop_zero,List.nil_append] at h1
 have h2:qkG (recs l) ((ap 16 ((0:Nat):Int) (recs l)).map (stB (qnb l)))=some (qMm (qnb l) (recs l)):=Tot.eq (Tot.be hh (Tot.be hJ (Tot.so rfl)))
 rw [qJj]
 exact Tot.eq (Tot.be (qFB l hM hc) (Tot.of_eq (h1.trans h2) rfl))
end Go.Ab

/-
  Archives, opened: the blocks that were read.
-/
set_option linter.unusedVariables false
set_option linter.unusedSimpArgs false
set_option maxRecDepth 100000
namespace Go.Ab
open Go
attribute [local irreducible] IntKind.wrap
theorem qHD (a:List Int):rdK a=rdB a:=rfl
theorem qqs {a:List Int} {e:Nat}:∀{hs:List qha} {bs:List qda} {p:Nat},Std a e p hs bs→(plc (p:Int) hs).map (fun x=>(rdK (a.drop x.toNat)).1)=bs∧(∀x∈plc (p:Int) hs,0≤x∧x≤(a.length:Int))∧bs.map (·.1)=hs
 |[],[],p,h=>⟨rfl,fun x hx=>(by cases hx),rfl⟩
 |[],_::_,p,h=>h.elim
 |_::_,[],p,h=>h.elim
 |g::hs,x::bs,p,⟨h1,h2,h3,h4,h5⟩=>by
  have hl:=qxh h3
  obtain ⟨i1,i2,i3⟩:=qqs h5
  have e:((p+(41+g.2.2.2.2.1).toNat:Nat):Int)=(p:Int)+(41+g.2.2.2.2.1):=by omega
  rw [e] at i1 i2
  refine ⟨?_,?_,?_⟩
  ·rw [plc,List.map_cons,i1,Int.toNat_natCast,qHD,h1]
  ·intro y hy
   rw [plc] at hy
   rcases List.mem_cons.1 hy with rfl|hy
   ·omega
   ·exact i2 y hy
  ·rw [List.map_cons,i3,h2]
theorem qdn:∀(hs:List qha) (a:Int),(plc a hs).length=hs.length
 |[],_=>rfl
 |_::hs,a=>by rw [plc,List.length_cons,List.length_cons,qdn hs]
theorem qOC {a:List Int} (hb:Bts a) {e:Nat}:∀{hs:List qha} {bs:List qda} {p:Nat},Std a e p hs bs→∀x∈bs,hOK x.1∧bC x=0∧Bts x.2.1
 |[],[],p,h,x,hx=>by cases hx
 |[],_::_,p,h,_,_=>h.elim
 |_::_,[],p,h,_,_=>h.elim
 |g::hs,x::bs,p,⟨h1,h2,h3,h4,h5⟩,y,hy=>by
  rcases List.mem_cons.1 hy with rfl|hy
  ·obtain ⟨k1,k2,k3,k4,k5,k6,k7⟩:=qZw (c:=a.drop p) (by rw [h1])
   have e1:(rdB (a.drop p)).1=y:=by rw [h1]
   have hl:=qxh k1
   rw [k2] at k3
   have hy:y=(pH (((a.drop p).drop 13).take 28),(((a.drop p).drop 41).take (pH (((a.drop p).drop 13).take 28)).2.2.2.2.1.toNat,())):=by rw [←e1,k7]
   rw [e1] at k1 k3 hl
   have hlen:((y.2.1.length:Nat):Int)=y.1.2.2.2.2.1:=by
    have h0:y.2.1=((a.drop p).drop 41).take y.1.2.2.2.2.1.toNat:=by
     conv=>lhs;rw [hy]
     conv=>rhs;rw [hy]
    rw [h0,List.length_take,List.length_drop]
    omega
   refine ⟨k1,?_,?_⟩
   ·unfold bC;rw [if_pos ⟨k1,hlen⟩]
   ·rw [hy];exact ((hb.drop _).drop _).take _
  ·exact qOC hb h5 y hy
theorem qbt (i n s:Int) (hs:16≤s):∀(k:Nat) (off:Int),16*((pcs i n s k off).length:Int)≤(if off<n then n - off+15 else 0)
 |0,off=>by simp only [pcs];split <;> simp;omega
 |k+1,off=>by
  have ih:=qbt i n s hs k (off+s)
  simp only [pcs]
  split
  ·rw [List.length_cons]
   split at ih <;> omega
  ·simp
theorem qsD (s:Int) (hs:16≤s):∀(rs:List qaa) (i:Int),(∀r∈rs,0≤r.2.1)→16*((ap s i rs).length:Int)≤tot rs+15*(rs.length:Int)
 |[],i,_=>by simp [ap,tot]
 |r::rs,i,h=>by
  have ih:=qsD s hs rs (i+1) fun x hx=>h x (List.mem_cons_of_mem _ hx)
  have h1:=qbt i r.2.1 s hs 8200 0
  have h2:=h r (List.mem_cons_self ..)
  rw [ap,List.length_append,List.length_cons]
  have e:tot (r::rs)=r.2.1+tot rs:=rfl
  split at h1 <;> omega
structure Opd (a:List Int) (l:qua) (bs:List qda):Prop where
 eq:qEo a=(l,(bs,0))
 op:qYc a=some (l,(bs,0))
 lv:0≤l.1.1∧l.1.1≤7
 ok:∀b∈bs,hOK b.1∧bC b=0∧Bts b.2.1
 ln:bs.length≤600
 rk:RecsOK l.2.1
 vl:qZc l.2.1=0
 sm:SumsOK l.2.1
 hd:bs.map (·.1)=l.2.2.1
 ck:lck l=0
 pl:quh l=some (plc (28+qqn l.2.1) l.2.2.1,0)
 bk:16≤l.1.2.1∧l.1.2.1≤4096
theorem qdD {a:List Int} (hb:Bts a) (h:(qEo a).2.2=0):Opd a (qEo a).1 (qEo a).2.1:=by
 obtain ⟨rs,q,hs,bs,hO⟩:=qjE hb h
 have hV:=hO.head.recsV
 have hl:=qIC hO
 have hq:(q:Int)=qqn rs:=by
  rw [←qoh rs hO.head.read.sums,hO.head.read.bytes,List.length_take]
  have:=hO.head.read.le
  omega
 obtain ⟨s1,s2,s3⟩:=qqs hO.std
 have hplen:=qdn hs ((28+q:Nat):Int)
 have hcnt:=qsD (sH a).2.1 hO.head.blk.1 rs 0 (fun r hr=>(hV.each r hr).1)
 have hbl:=hO.blen
 have hhl:=hO.hlen
 have h6:bs.length≤600:=by
  have:=hV.len;have:=hV.tot;omega
 have hpe:qru (sH a,(rs,(hs,())))=plc ((28+q:Nat):Int) hs:=by
  unfold qru
  rw [show ((28+q:Nat):Int)=28+qqn rs by omega]
 have hop:=qhA hb (l:=(sH a,(rs,(hs,())))) hO.eq hO.head.read.recs hO.head.read.sums hl (by rw [hpe];exact s2) (by rw [hpe,hplen];omega)
 rw [hpe,s1] at hop
 have hp:=quj (sH a,(rs,(hs,()))) hO.head.read.recs hO.head.read.sums
 rw [if_pos hl] at hp
 rw [hO.eq]
 exact ⟨hO.eq,hop,(show 0≤(sH a).1∧(sH a).1≤7 by have:=hO.head.chk;unfold chk at this;split at this <;> omega),qOC hb hO.std,h6,hO.head.read.recs,hO.head.read.val,hO.head.read.sums,s3,hl,hp,hO.head.blk⟩
theorem Opd.opn {a:List Int} {l:qua} {bs:List qda} (h:Opd a l bs) (hs:∀b∈bs,b.1.1=1):Opn a l bs:=
 ⟨h.op,h.lv,fun b hb=>⟨hs b hb,(h.ok b hb).2.1,(h.ok b hb).2.2⟩,h.ln,h.rk,h.vl,(qoc h.vl).len⟩
theorem Opd.smb {a:List Int} {l:qua} {bs:List qda} (h:Opd a l bs):∀b∈bs,SmB b:=fun b hb=>by
 have:=(h.ok b hb).1
 unfold hOK at this
 unfold SmB
 omega
end Go.Ab

/-
  ExtractNames: the archives.
-/
set_option linter.unusedVariables false
set_option linter.unusedSimpArgs false
set_option maxRecDepth 100000
namespace Go.Ab
open Go
attribute [local irreducible] IntKind.wrap
theorem qft {s:qoa} {rs:List qaa} {bs:List qda} (hc:chk s=0) (hv:qZc rs=0) (hS:SumsOK rs) (hF:Fit bs (ap s.2.1 0 rs)) (hl:(qWk s rs bs).length≤40000) (hb:Bts (qWk s rs bs)):Opd (qWk s rs bs) (s,(rs,(bs.map (·.1),()))) bs:=by
 have h:=qyv hc hv hS hF hl
 have:=qdD hb (by rw [h])
 rw [h] at this
 exact this
theorem qCF {l:List Int} (h:l.all (fun x=>decide (0≤x∧x<256))=true):Bts l:=fun x hx=>of_decide_eq_true (List.all_eq_true.1 h x hx)
def dN:List Int:=[48,49,50,51,52,53,54,55,56,57,97,98,99,100,101,102,88,89,90]
def lA:List qna:=[((ByteArray.mk #[97]),([7,8],()))]
def rAa:List qaa:=recs lA
def b0:qda:=qIg 0 0 (dN.take 16)
def b1:qda:=qIg 0 16 (dN.drop 16)
def b2:qda:=qIg 2 0 [33]
def kA:qda:=qIg 0 0 [7,8]
def wA:List Int:=qWk sA rAa [kA]
def wE:List Int:=qWk sA [] []
theorem qiG {l:List qna} (h:l.all (fun m=>decide (m.1.size≤100)&&decide (m.2.1.length≤100)&&m.2.1.all (fun x=>decide (0≤x∧x<256)))=true):MemsOK l:=by
 have h1:∀m∈l,(m.1.size≤100∧m.2.1.length≤100)∧m.2.1.all (fun x=>decide (0≤x∧x<256))=true:=fun m hm=>by
  have:=List.all_eq_true.1 h m hm
  simpa [Bool.and_eq_true] using this
 exact ⟨fun m hm=>by have:=(h1 m hm).1.1;omega,fun m hm=>by have:=(h1 m hm).1.2;omega,fun m hm=>qCF (h1 m hm).2⟩
theorem stA:qXa lA=some wA:=by
 have h:=qWp lA (qiG (by decide+kernel)) (by decide+kernel) (by decide+kernel)
 have e:qMm (qnb lA) (recs lA)=wA:=by decide+kernel
 rw [e] at h;exact h
theorem stE:qXa []=some wE:=by
 have h:=qWp [] (qiG (by decide+kernel)) (by decide+kernel) (by decide+kernel)
 have e:qMm (qnb []) (recs [])=wE:=by decide+kernel
 rw [e] at h;exact h
theorem qkF:Bts wA:=qCF (by decide+kernel)
theorem qjF:Bts wE:=qCF (by decide+kernel)
theorem qCE {rs:List qaa} (h:rs.all (fun r=>decide (r.2.2.1.length=20)&&r.2.2.1.all (fun x=>decide (0≤x∧x<256)))=true):SumsOK rs:=fun r hr=>by
 have:=List.all_eq_true.1 h r hr
 rw [Bool.and_eq_true,decide_eq_true_eq] at this
 exact ⟨this.1,qCF this.2⟩
theorem quG {b:qda} {p:qia} (h:bC b=0∧((0≤b.1.1∧b.1.1<256)∧b.1.2.2.2.2.2.1.length=20)∧isP b.1 p):bC b=0∧bWf b∧isP b.1 p:=h
theorem apA:ap 16 0 rAa=[(0,(0,(2,())))]:=by kernel_rfl
theorem opdA:Opd wA (sA,(rAa,([kA].map (·.1),()))) [kA]:=
 qft (by decide) (by decide+kernel) (qCE (by decide+kernel)) (by rw [show sA.2.1=16 from rfl,apA];exact ⟨quG (by decide+kernel),trivial⟩) (by decide+kernel) qkF
theorem opdE:Opd wE (sA,([],([],()))) []:=
 qft (bs:=[]) (by decide) (by decide+kernel) (qCE (by decide+kernel)) (by show Fit [] (ap 16 0 []);exact trivial) (by decide+kernel) qjF
theorem qmG {bs:List qda} (h:bs.all (fun b=>decide (b.1.1=1))=true):∀b∈bs,b.1.1=1:=fun b hb=>of_decide_eq_true (List.all_eq_true.1 h b hb)
theorem oA:Opn wA (sA,(rAa,([kA].map (·.1),()))) [kA]:=opdA.opn (qmG (by decide+kernel))
theorem oE:Opn wE (sA,([],([],()))) []:=opdE.opn (qmG (by decide+kernel))
end Go.Ab

/-
  ExtractNames: what the calls answer; the law.
-/
set_option linter.unusedVariables false
set_option linter.unusedSimpArgs false
set_option maxRecDepth 100000
namespace Go.Ab
open Go
attribute [local irreducible] IntKind.wrap
def qnD (i:Nat):∀(off:Nat) (qs:List qpa),Decidable (Chn i off qs)
 |_,[]=>isTrue trivial
 |off,p::r=>@instDecidableAnd _ _ _ (@instDecidableAnd _ _ _ (@instDecidableAnd _ _ _ (@instDecidableAnd _ _ _ (qnD i (off+p.2.1.length) r))))
instance (i off:Nat) (qs:List qpa):Decidable (Chn i off qs):=qnD i off qs
def qhB:∀(i:Nat) (qs:List (List qpa)),Decidable (ChnL i qs)
 |_,[]=>isTrue trivial
 |i,q::r=>@instDecidableAnd _ _ _ (qhB (i+1) r)
instance (i:Nat) (qs:List (List qpa)):Decidable (ChnL i qs):=qhB i qs
def qmD:∀(rs:List qaa) (qs:List (List qpa)),Decidable (SzL rs qs)
 |[],[]=>isTrue trivial
 |_::rs,_::qs=>@instDecidableAnd _ _ _ (@instDecidableAnd _ _ _ (qmD rs qs))
 |[],_::_=>isFalse id
 |_::_,[]=>isFalse id
instance (rs:List qaa) (qs:List (List qpa)):Decidable (SzL rs qs):=qmD rs qs
theorem qRz {rs:List qaa} {qss:List (List qpa)} (hR:RecsOK rs) (hv:qZc rs=0) (hl:rs.length≤10000) (hc:ChnL 0 qss) (hs:SzL rs qss) (hps:qss.flatten.length≤12) (hb:∀q∈qss,Bts (dat q)):
  quc rs qss.flatten=some (if qKv rs (qRg (a:= .str) (e:= .int .u8) (qwx rs qss)) rs.length 0=true then (qRg (a:= .str) (e:= .int .u8) (qwx rs qss),0) else ([],22)):=
 qpE hR hv hl hc hs (by omega) (qJC (by rw [List.length_map];exact hps) (qqF (qVC hc hs))) hb
theorem qbC {rs:List qaa} (h:rs.all (fun r=>decide (r.1.size≤100))=true) (hl:rs.length≤100):RecsOK rs:=⟨by omega,fun r hr=>by
 have:=of_decide_eq_true (List.all_eq_true.1 h r hr);omega⟩
theorem qJF:quc [] []=some ([],0):=by
 have h:=qRz (rs:=[]) (qss:=[]) (qbC (by decide+kernel) (by decide+kernel)) (by decide+kernel) (by decide+kernel) trivial trivial (by decide+kernel) (fun q hq=>by cases hq)
 exact h
theorem ok1 {b:qda} (h1:(qLr b).2=0):∀x∈[b],(qLr x).2=0:=fun x hx=>by rw [List.mem_singleton.1 hx];exact h1
theorem qHF (a1 a2:Int) (z:List Int):(qLr (qIg a1 a2 z)).2=0:=by rw [qmm]
theorem E_E:qRd wE=some ([],0):=(oE.some (qbn (fun x hx=>by cases hx))).trans qJF
theorem qhG:nmI (ByteArray.mk #[97]) rAa 0=some 0:=by decide+kernel
theorem qsG:ofM (0:Nat) [kA]=[kA]:=by kernel_rfl
theorem O_E:qFc wE (ByteArray.mk #[97])=some (zM,6):=oE.one_no (by decide+kernel)
instance (f t:Int) (p:qpa):Decidable (InR f t p):=by unfold InR;infer_instance
theorem qtG {f t:Int} {p:qpa} (h1:InR f t p):∀x∈[p],InR f t x:=fun x hx=>by rw [List.mem_singleton.1 hx];exact h1
theorem R_9:qRa wA (ByteArray.mk #[97]) 1 2=some ([8],0):=by
 have h:=oA.range_some opdA.smb qhG (f:=1) (t:=2) (by decide) (by decide) (by decide+kernel) (ps:=[prt kA]) (by
  rw [qsG,show onR 1 2 [kA]=[kA] by kernel_rfl];exact qbn (ok1 (qHF _ _ _))) (by decide) (qtG (by decide+kernel))
 exact h
theorem qwG:qRa wA (ByteArray.mk #[97]) 1 3=some ([],2):=oA.range_arg qhG (.inr (.inr (by decide+kernel)))
theorem Tot.ifb {α:Type} {c:Bool} {i:Decidable (c=true)} {x y:Option α} {Q:α→Prop} (h:c=true) (h1:Tot x Q):Tot (@ite _ (c=true) i x y) Q:=by rw [if_pos h];exact h1
theorem qkE:qUf=some true:=by
 rw [qUk]
 exact Tot.eq (Tot.be stA (Tot.be R_9 (Tot.be qwG (Tot.be stE (Tot.be E_E (Tot.be stE (Tot.be O_E (Tot.ifb rfl (Tot.ifb (by decide+kernel) (Tot.ifb rfl (Tot.ifb rfl (Tot.ifb rfl (Tot.so rfl)))))))))))))
end Go.Ab

/-
  ExtractRanges: names, pieces, a changed byte.
-/
set_option linter.unusedVariables false
set_option linter.unusedSimpArgs false
set_option maxRecDepth 100000
namespace Go.Ab
open Go
attribute [local irreducible] IntKind.wrap
theorem qiz:∀(rs:List qaa) (acc:Int) (nm:List ByteArray),vld acc nm rs=0→qJs [] (nm++names rs)=false
 |[],acc,nm,h=>by
  rw [vld] at h
  split at h
  ·cases h
  ·rw [show nm++names []=nm by unfold names;simp]
   cases hd:qJs [] nm with
   |false=>rfl
   |true=>rw [hd] at h;cases h
 |r::rs,acc,nm,h=>by
  rw [vld] at h
  split at h
  ·cases h
  ·have:=qiz rs _ _ h
   rw [List.append_assoc] at this
   exact this
theorem qVA:∀(l seen:List ByteArray),qJs seen l=false→l.Pairwise (·≠·)∧∀x∈l,∀y∈seen,x≠y
 |[],seen,_=>⟨List.Pairwise.nil,fun x hx=>by cases hx⟩
 |x::l,seen,h=>by
  rw [qJs,Bool.or_eq_false_iff] at h
  obtain ⟨h1,h2⟩:=qVA l (seen++[x]) h.2
  have h3:∀y∈seen,x≠y:=fun y hy e=>by
   have:=List.any_eq_false.1 h.1 y hy
   simp [e] at this
  refine ⟨List.pairwise_cons.2 ⟨fun y hy e=>?_,h1⟩,fun y hy z hz=>?_⟩
  ·exact h2 y hy x (by simp) e.symm
  ·rcases List.mem_cons.1 hy with rfl|hy
   ·exact h3 z hz
   ·exact h2 y hy z (List.mem_append_left _ hz)
theorem qBu {d:qaa}:∀(rs:List qaa) (i0 k:Nat),(names rs).Pairwise (·≠·)→k<rs.length→nmI (rs.getD k d).1 rs i0=some (i0+k)
 |[],_,_,_,h=>by cases h
 |r::rs,i0,0,_,_=>by
  rw [nmI,List.getD_cons_zero,if_pos rfl];rfl
 |r::rs,i0,k+1,hp,h=>by
  have hp':(r.1::names rs).Pairwise (·≠·):=hp
  rw [List.pairwise_cons] at hp'
  have hk:k<rs.length:=by simpa using h
  have hm:(rs.getD k d).1∈names rs:=by
   unfold names
   exact List.mem_map.2 ⟨_,qZg (P:=fun x=>x∈rs) (fun x hx=>hx) k hk,rfl⟩
  rw [nmI,List.getD_cons_succ,if_neg (fun e=>hp'.1 _ hm (toList_inj e)),qBu rs (i0+1) k hp'.2 hk]
  congr 1;omega
theorem qfD {rs:List qaa} (hv:qZc rs=0) {k:Nat} (hk:k<rs.length):nmI (rs.getD k (qja qba)).1 rs 0=some k:=by
 unfold qZc at hv
 split at hv
 ·cases hv
 ·have h:=qBu (d:=qja qba) rs 0 k (qVA _ _ (qiz rs 0 [] hv)).1 hk
  rw [Nat.zero_add] at h
  exact h
def ltP (p q:qia):Prop:=p.1<q.1∨(p.1=q.1∧p.2.1+p.2.2.1≤q.2.1)
theorem qaD (i n s:Int) (hs:1≤s):∀(k:Nat) (off:Int),0≤off→(pcs i n s k off).Pairwise ltP
 |0,off,h=>List.Pairwise.nil
 |k+1,off,h=>by
  rw [pcs]
  split
  ·refine List.pairwise_cons.2 ⟨fun q hq=>?_,qaD i n s hs k (off+s) (by omega)⟩
   obtain ⟨h1,h2,_⟩:=qCs i n s hs k (off+s) (by omega) q hq
   refine .inr ⟨h1.symm,?_⟩
   show off+(if s<n - off then s else n - off)≤q.2.1
   split <;> omega
  ·exact List.Pairwise.nil
theorem qoF (s:Int) (hs:1≤s):∀(rs:List qaa) (i:Int),(ap s i rs).Pairwise ltP
 |[],i=>List.Pairwise.nil
 |r::rs,i=>by
  rw [ap,List.pairwise_append]
  refine ⟨qaD i r.2.1 s hs 8200 0 (by omega),qoF s hs rs (i+1),fun p hp q hq=> .inl ?_⟩
  have h1:=(qCs i r.2.1 s hs 8200 0 (by omega) p hp).1
  have h2:=(qHC s hs rs (i+1) q hq).1.1
  omega
def pcB (b:qda):qia:=(b.1.2.1,(b.1.2.2.1,(b.1.2.2.2.1,())))
theorem qkA {bs:List qda} (hp:(bs.map pcB).Pairwise ltP) {k:Nat} (hk:k<bs.length) (hr:1≤(bs.getD k (qja qfa)).1.2.2.2.1):
  onR (bs.getD k (qja qfa)).1.2.2.1 ((bs.getD k (qja qfa)).1.2.2.1+(bs.getD k (qja qfa)).1.2.2.2.1) (ofM (bs.getD k (qja qfa)).1.2.1 bs)=[bs.getD k (qja qfa)]:=by
 have hd:=qBa (qja qfa:qda) (xs:=bs) (i:=k) hk
 have hsp:bs=bs.take k++bs.getD k (qja qfa)::bs.drop (k+1):=by rw [←hd.1,List.take_append_drop]
 generalize bs.getD k (qja qfa)=x at*
 rw [hsp,List.map_append,List.map_cons,List.pairwise_append,List.pairwise_cons] at hp
 obtain ⟨_,⟨h2,_⟩,h3⟩:=hp
 have hx:qrx x.1.2.2.1 (x.1.2.2.1+x.1.2.2.2.1) x=false:=by
  unfold qrx
  rw [decide_eq_false_iff_not]
  split <;> split <;> omega
 have hA:onR x.1.2.2.1 (x.1.2.2.1+x.1.2.2.2.1) (ofM x.1.2.1 (bs.take k))=[]:=by
  unfold onR ofM
  rw [List.filter_filter,List.filter_eq_nil_iff]
  intro y hy
  have:=h3 (pcB y) (List.mem_map.2 ⟨y,hy,rfl⟩) (pcB x) (List.mem_cons_self ..)
  intro hc
  rw [Bool.and_eq_true,beq_iff_eq] at hc
  have ho:qrx x.1.2.2.1 (x.1.2.2.1+x.1.2.2.2.1) y=true:=by
   unfold qrx
   rw [decide_eq_true_eq]
   rcases this with h|⟨_,h⟩
   ·have h':y.1.2.1<x.1.2.1:=h
    omega
   ·have h':y.1.2.2.1+y.1.2.2.2.1≤x.1.2.2.1:=h
    split <;> split <;> omega
  rw [ho] at hc
  exact absurd hc.1 (by decide)
 have hB:onR x.1.2.2.1 (x.1.2.2.1+x.1.2.2.2.1) (ofM x.1.2.1 (bs.drop (k+1)))=[]:=by
  unfold onR ofM
  rw [List.filter_filter,List.filter_eq_nil_iff]
  intro y hy
  have:=h2 (pcB y) (List.mem_map.2 ⟨y,hy,rfl⟩)
  intro hc
  rw [Bool.and_eq_true,beq_iff_eq] at hc
  have ho:qrx x.1.2.2.1 (x.1.2.2.1+x.1.2.2.2.1) y=true:=by
   unfold qrx
   rw [decide_eq_true_eq]
   rcases this with h|⟨_,h⟩
   ·have h':x.1.2.1<y.1.2.1:=h
    omega
   ·have h':x.1.2.2.1+x.1.2.2.2.1≤y.1.2.2.1:=h
    split <;> split <;> omega
  rw [ho] at hc
  exact absurd hc.1 (by decide)
 have e1:ofM x.1.2.1 bs=ofM x.1.2.1 (bs.take k)++x::ofM x.1.2.1 (bs.drop (k+1)):=by
  conv=>lhs;rw [hsp]
  unfold ofM
  rw [List.filter_append,List.filter_cons_of_pos (by simp)]
 have e2:∀a b:List qda,onR x.1.2.2.1 (x.1.2.2.1+x.1.2.2.2.1) (a++b)=onR x.1.2.2.1 (x.1.2.2.1+x.1.2.2.2.1) a++onR x.1.2.2.1 (x.1.2.2.1+x.1.2.2.2.1) b:=fun a b=>List.filter_append ..
 rw [e1,e2,hA,qHp hx,hB]
 rfl
theorem qMD (D:Nat→List Int) (p:qia):prt (stB D p)=((p.1,(p.2.1,(((ptD D p).2.1.length:Int),()))),((ptD D p).2.1,())):=rfl
theorem qpB (D:Nat→List Int) (i:Nat):∀(k off:Nat),((D i).length:Int) - off≤16*(k:Int)→Chn 0 off (((pcs (i:Int) ((D i).length:Int) 16 k (off:Int)).map fun p=>z0 (prt (stB D p))))∧dat ((pcs (i:Int) ((D i).length:Int) 16 k (off:Int)).map fun p=>z0 (prt (stB D p)))=(D i).drop off
 |0,off,h=>by
  rw [pcs,List.map_nil,qtr,List.drop_eq_nil_of_le (by omega)]
  exact ⟨trivial,rfl⟩
 |k+1,off,h=>by
  rw [pcs]
  split
  ·rename_i ho
   have ih:=qpB D i k (off+16) (by omega)
   rw [show ((off+16:Nat):Int)=(off:Int)+16 by omega] at ih
   rw [List.map_cons,qyn]
   have hl:(ptD D ((i:Int),((off:Int),((if (16:Int)<((D i).length:Int) - off then (16:Int) else ((D i).length:Int) - off),())))).2.1=((D i).drop off).take 16:=by
    show ((D (i:Int).toNat).drop (off:Int).toNat).take (if (16:Int)<((D i).length:Int) - off then (16:Int) else ((D i).length:Int) - off).toNat=_
    rw [Int.toNat_natCast,Int.toNat_natCast]
    split
    ·rfl
    ·rw [List.take_of_length_le (by rw [List.length_drop];omega),List.take_of_length_le (by rw [List.length_drop];omega)]
   have hz:(z0 (prt (stB D ((i:Int),((off:Int),((if (16:Int)<((D i).length:Int) - off then (16:Int) else ((D i).length:Int) - off),()))))))=((0,((off:Int),(((((D i).drop off).take 16).length:Int),()))),(((D i).drop off).take 16,())):=by
    rw [qMD,hl];rfl
   have hlen:(((D i).drop off).take 16).length=min 16 ((D i).length - off):=by rw [List.length_take,List.length_drop]
   rw [hz]
   refine ⟨⟨rfl,rfl,rfl,by show 0<(((D i).drop off).take 16).length;omega,?_⟩,?_⟩
   ·show Chn 0 (off+(((D i).drop off).take 16).length) _
    rw [hlen]
    by_cases h16:off+16≤(D i).length
    ·rw [Nat.min_eq_left (by omega)];exact ih.1
    ·have:pcs (i:Int) ((D i).length:Int) 16 k ((off:Int)+16)=[]:=by
      cases k with
      |zero=>rfl
      |succ k=>rw [pcs,if_neg (by omega)]
     rw [this];trivial
   ·show ((D i).drop off).take 16++_=_
    rw [ih.2,←List.drop_drop,List.take_append_drop]
  ·rw [List.map_nil,qtr,List.drop_eq_nil_of_le (by omega)]
   exact ⟨trivial,rfl⟩
theorem qeD (D:Nat→List Int) (i:Nat):∀(rs:List qaa) (j:Nat),j≤i→i<j+rs.length→ofM (i:Int) ((ap 16 (j:Int) rs).map (stB D))=(pcs (i:Int) (rs.getD (i - j) (qja qba)).2.1 16 8200 0).map (stB D)
 |[],j,h1,h2=>by simp at h2;omega
 |r::rs,j,h1,h2=>by
  rw [ap,List.map_append]
  have hap:∀a b:List qda,ofM (i:Int) (a++b)=ofM (i:Int) a++ofM (i:Int) b:=fun a b=>List.filter_append ..
  rw [hap]
  by_cases h:i=j
  ·subst h
   have hz:ofM (i:Int) ((ap 16 ((i:Int)+1) rs).map (stB D))=[]:=by
    unfold ofM
    rw [List.filter_eq_nil_iff]
    intro b hb hc
    obtain ⟨p,hp,rfl⟩:=List.mem_map.1 hb
    have h3:=(qHC 16 (by decide) rs _ p hp).1.1
    have h4:p.1=(i:Int):=eq_of_beq hc
    omega
   have hy:ofM (i:Int) ((pcs (i:Int) r.2.1 16 8200 0).map (stB D))=(pcs (i:Int) r.2.1 16 8200 0).map (stB D):=by
    unfold ofM
    rw [List.filter_eq_self]
    intro b hb
    obtain ⟨p,hp,rfl⟩:=List.mem_map.1 hb
    have h3:=(qCs (i:Int) r.2.1 16 (by decide) 8200 0 (by omega) p hp).1
    rw [beq_iff_eq];exact h3
   rw [hz,hy,List.append_nil,Nat.sub_self];rfl
  ·have hz:ofM (i:Int) ((pcs (j:Int) r.2.1 16 8200 0).map (stB D))=[]:=by
    unfold ofM
    rw [List.filter_eq_nil_iff]
    intro b hb hc
    obtain ⟨p,hp,rfl⟩:=List.mem_map.1 hb
    have h3:=(qCs (j:Int) r.2.1 16 (by decide) 8200 0 (by omega) p hp).1
    have h4:p.1=(i:Int):=eq_of_beq hc
    omega
   have ih:=qeD D i rs (j+1) (by omega) (by rw [List.length_cons] at h2;omega)
   rw [show ((j+1:Nat):Int)=(j:Int)+1 by omega] at ih
   rw [hz,List.nil_append,ih,show i - j=(i - (j+1))+1 by omega];rfl
theorem qll:∀(a b:List qda),qbh (a++b)=qbh a++qbh b
 |[],b=>rfl
 |x::a,b=>by rw [List.cons_append,qbh,qbh,qll a b,List.append_assoc]
theorem qmF {x:qda} (h:bWf x) {j:Nat} {v:Int}:(bB x).set (41+j) v=bB (x.1,(x.2.1.set j v,())):=by
 have hl:(mark++hB x.1).length=41:=by unfold hB;simp only [List.length_append,qvf,qvm,h.2]
 unfold bB
 rw [List.set_append_right _ _ (by omega),hl,show 41+j - 41=j by omega]
theorem qFC {bs:List qda} {k j:Nat} {v:Int} (hk:k<bs.length) (hw:bWf (bs.getD k (qja qfa))) (hj:j<(bs.getD k (qja qfa)).2.1.length):
  (qbh bs).set ((qbh (bs.take k)).length+41+j) v=qbh (bs.set k ((bs.getD k (qja qfa)).1,((bs.getD k (qja qfa)).2.1.set j v,()))):=by
 have hd:=qBa (qja qfa:qda) (xs:=bs) (i:=k) hk
 have hsp:bs=bs.take k++bs.getD k (qja qfa)::bs.drop (k+1):=by rw [←hd.1,List.take_append_drop]
 have htl:(bs.take k).length=k:=by rw [List.length_take];omega
 generalize bs.getD k (qja qfa)=x at*
 generalize bs.take k=A at*
 generalize bs.drop (k+1)=B at*
 subst hsp
 rw [qll,qbh,List.set_append_right _ _ (by omega),show (qbh A).length+41+j - (qbh A).length=41+j by omega,List.set_append_left _ _ (by rw [qZo hw];omega),qmF hw,
  List.set_append_right _ _ (by omega),htl,Nat.sub_self,List.set_cons_zero,qll,qbh]
theorem qUz:∀(bs:List qda) (a:Int) (k:Nat),(∀b∈bs,bWf b∧(b.2.1.length:Int)=b.1.2.2.2.2.1)→k<bs.length→(plc a (bs.map (·.1))).getD k 0=a+((qbh (bs.take k)).length:Int)
 |[],a,k,_,h=>by cases h
 |b::bs,a,0,_,_=>by rw [List.map_cons,plc,List.getD_cons_zero,List.take_zero];simp [qbh]
 |b::bs,a,k+1,hb,h=>by
  have h1:=hb b (List.mem_cons_self ..)
  rw [List.map_cons,plc,List.getD_cons_succ,qUz bs _ k (fun x hx=>hb x (List.mem_cons_of_mem _ hx)) (by simpa using h),List.take_succ_cons,qbh,List.length_append,qZo h1.1]
  omega
theorem qFF (x:Int):0≤IntKind.wrap .u8 x∧IntKind.wrap .u8 x<256:=by rw [wu8];omega
theorem qBq (n:Nat) (m:Int) (h0:0≤m) (h1:m<2 ^ n):(BitVec.ofInt n m).toNat=m.toNat:=by
 rw [BitVec.toNat_ofInt];congr 1;exact Int.emod_eq_of_lt h0 (by exact_mod_cast h1)
theorem qEF {x y:Int} (hx:0≤x∧x<256) (hy:0≤y∧y<256) (h0:y≠0):qVa .u8 x y≠x:=by
 intro h
 have e:qVa .u8 x y=((BitVec.ofInt 8 x ^^^ BitVec.ofInt 8 y).toNat:Int):=by
  show IntKind.wrap .u8 ((BitVec.ofInt 8 x ^^^ BitVec.ofInt 8 y).toNat:Int)=_
  rw [wu8]
  have:=(BitVec.ofInt 8 x ^^^ BitVec.ofInt 8 y).isLt
  omega
 rw [e,BitVec.toNat_xor,qBq 8 x hx.1 (by omega),qBq 8 y hy.1 (by omega)] at h
 have h1:x.toNat ^^^ y.toNat=x.toNat:=by omega
 have h2:x.toNat ^^^ (x.toNat ^^^ y.toNat)=y.toNat:=by rw [←Nat.xor_assoc,Nat.xor_self,Nat.zero_xor]
 rw [h1,Nat.xor_self] at h2
 omega
theorem qcy (x y:Int):0≤qVa .u8 x y∧qVa .u8 x y<256:=by
 have:=qFF ((BitVec.ofInt 8 x ^^^ BitVec.ofInt 8 y).toNat:Int)
 exact this
theorem qzA (h:qha):peq qka h h=true:=by
 simp only [peq,decide_true,Bool.true_and,Bool.and_true]
 exact qbk (fun y=>by simp) _
end Go.Ab
