/-
  An abstract machine over the model's code and its soundness; what the functions compute, as plain functions (printed by a program of this repo's own, checked here by the kernel); plain laws of them: part 5. Helper text, no statement of the claim stands here.
-/
import Derived.Test.YtbpfanppapbdpaaGreatDoorTxtTd
open ByteArray renaming empty → wD, toList → wW
open Go.IntKind renaming wrap → wd
open Go.Proofs.Tryz renaming prog → wg
open Int renaming fdiv → wV, ofNat → wi, tdiv → wIa, toNat → wo
open List renaming drop → wea, getD → wm, length → we, replicate → wn, set → wF, take → wM
set_option linter.unusedVariables false
set_option maxRecDepth 20000
namespace Go.Ab
open Go Go.Proofs
noncomputable def qQB (acc:List AV→Bool):Summ wg GT:={f:=63,acc:=acc,rows:=false,nils:=false,R:=qay,fn:=qqm,res:=fun _=> .tup [],post:=qCB,drop:=false,ok:=fun _ _ _ h=>qJz h}
noncomputable def vUc:FN:={f:=98,cuts:=[],tab:=[SS ve],fm:=⟨true,[.val (.slice (.int .u8)) [.nw]]⟩}
noncomputable def qMv (a0:qka):Option (List Int):=vUc.call [(.agg qsa (inj false qsa a0))] []
theorem qXo (a0:qka):qMv a0=(
(qkb a0.2.2.1).bind fun r1=>
gd (0≤(24:Int))<|
gd (0≤(16:Int))<|
gd (0≤(8:Int))<|
letI c:=(r1++[(wd .u8 (wV a0.1 (16777216:Int))),(wd .u8 (wV a0.1 (65536:Int))),(wd .u8 (wV a0.1 (256:Int))),(wd .u8 a0.1)])
gd ((we c)*1≤140737488355328)<|
some c):=CE
noncomputable def vQc:FN:={f:=66,cuts:=[],tab:=[SS vTa,SS vUc],fm:=⟨true,[.val (.slice (.int .u8)) [.nw], .val (.int .i64) []]⟩}
noncomputable def qkm (a0:qka):Option (List Int×Int):=vQc.call [(.agg qsa (inj false qsa a0))] []
theorem qZo (a0:qka):qkm a0=(
(qff a0).bind fun r1=>
if (r1 != (0:Int))=true then
some ([],r1)
else
if (decide ((wi (we a0.2.2.1))>(19996:Int)))=true then
some ([],(4:Int))
else
(qMv a0).bind fun r2=>
some (r2,(0:Int))):=CE
noncomputable def vgb:FN:={f:=34,cuts:=[],tab:=[(SS vGb).dropping,SS vSc,(qQB (fun _=>true)).dropping,SS vQc],fm:=⟨true,[.val (.slice (.int .u8)) [.nw], .val (.int .i64) []]⟩}
noncomputable def qlc (a0:Int) (a1:List Int):Option (List Int×Int):=vgb.call [(.int .i64 a0),(.sl (.int .u8) false a1)] []
theorem qqj (a0:Int) (a1:List Int):qlc a0 a1=(
(qpj a0 (wi (we a1))).bind fun r1=>
if (r1.2 != (0:Int))=true then
some ([],r1.2)
else
(qNv).bind fun r2=>
(qTf r1.1 a1 r1.2 r2).bind fun r3=>
if (r3.1 != (0:Int))=true then
some ([],(4:Int))
else
(qkm r3.2).bind fun r4=>
some (r4)):=CE
noncomputable def vW:FN:={f:=68,cuts:=[⟨(3,3),[3,18,19],false,false,[],[],[]⟩,⟨(6,7),[3,4,5,18,19,25,26],false,false,[],[],[]⟩],tab:=[],fm:=⟨true,[.val (.slice (.int .u8)) [.nw]]⟩}
noncomputable def qmk (a0:qla):Option (List Int):=vW.call [(.agg qAa (inj false qAa a0))] []
noncomputable def qLc (v18:(List Int)) (v19:Int) (h8:List Int):Option (List Int):=vW.sem ⟨[.code (cIn (cIn (qaa (qEa (qaa (qaa (qda wg 68))))))), .inLoop (cIn (cIn (qaa (qEa (qaa (qaa (qda wg 68))))))), .inBlock 0, .code (qaa (qaa (qaa (qda wg 68))))],⟨[(3,(.one (.ref (.int .u8) 8 0 (we h8) true))),(18,(.one (.agg (.arr 5 (.int .i64)) v18))),(19,(.one (.int .i64 v19)))],[(8,some (.row (.int .u8) true h8))],9⟩⟩
noncomputable def qfj (v4:Int) (v5:Int) (v18:(List Int)) (v19:Int) (v25:Int) (v26:Int) (h8:List Int):Option (List Int):=vW.sem ⟨[.code (cIn (cIn (qaa (qaa (cIn (qEa (qaa (qaa (cIn (cIn (qaa (qEa (qaa (qaa (qda wg 68))))))))))))))), .inLoop (cIn (cIn (qaa (qaa (cIn (qEa (qaa (qaa (cIn (cIn (qaa (qEa (qaa (qaa (qda wg 68))))))))))))))), .inBlock 2, .inBlock 1, .code (qaa (qaa (qaa (cIn (cIn (qaa (qEa (qaa (qaa (qda wg 68)))))))))), .inLoop (cIn (cIn (qaa (qEa (qaa (qaa (qda wg 68))))))), .inBlock 0, .code (qaa (qaa (qaa (qda wg 68))))],⟨[(3,(.one (.ref (.int .u8) 8 0 (we h8) true))),(4,(.one (.int .i64 v4))),(5,(.one (.int .i64 v5))),(18,(.one (.agg (.arr 5 (.int .i64)) v18))),(19,(.one (.int .i64 v19))),(25,(.one (.int .i64 v25))),(26,(.one (.int .i64 v26)))],[(8,some (.row (.int .u8) true h8))],9⟩⟩
theorem qpv (a0:qla):qmk a0=(
qLc (wF (wF (wF (wF (wF (wn 5 (0:Int)) 0 (wd .i64 a0.1)) 1 a0.2.1) 2 a0.2.2.1) 3 a0.2.2.2.1) 4 a0.2.2.2.2.1) (0:Int) []):=CE
theorem qAg (v18:(List Int)) (v19:Int) (h8:List Int):qLc v18 v19 h8=(
if (decide (v19<(5:Int)))=true then
gd (0≤v19)<|
gd (v19<(5:Int))<|
gd (0≤v19)<|
gd (v19<(5:Int))<|
letI c:=(wo v19)
qfj v19 (wm v18 c (0:Int)) v18 v19 (wm G_widths c (0:Int)) (0:Int) h8
else
some (h8)):=SE
theorem qid (v4:Int) (v5:Int) (v18:(List Int)) (v19:Int) (v25:Int) (v26:Int) (h8:List Int):qfj v4 v5 v18 v19 v25 v26 h8=(
if (decide (v26<v25))=true then
gd (0≤v4)<|
gd (v4<(5:Int))<|
letI c:=(wd .i64 ((8:Int)*(wd .i64 ((wd .i64 ((wm G_widths (wo v4) (0:Int)) - (1:Int))) - v26))))
gd (0≤c)<|
letI d:=(h8++[(wd .u8 (qTl .i64 v5 c))])
gd ((we d)*1≤140737488355328)<|
qfj v4 v5 v18 v19 v25 (wd .i64 (v26+(1:Int))) d
else
qLc v18 (wd .i64 (v19+(1:Int))) h8):=SE
noncomputable def vtd:FN:={f:=78,cuts:=[⟨(3,3),[0,3,4],false,false,[],[],[]⟩],tab:=[],fm:=⟨true,[.val (.slice (.int .u8)) [.nw]]⟩}
noncomputable def qwC (a0:Int):Option (List Int):=vtd.call [(.int .i64 a0)] []
noncomputable def qgo (v0:Int) (v4:Int) (h8:List Int):Option (List Int):=vtd.sem ⟨[.code (cIn (cIn (qaa (qEa (qaa (qaa (qda wg 78))))))), .inLoop (cIn (cIn (qaa (qEa (qaa (qaa (qda wg 78))))))), .inBlock 0, .code (qaa (qaa (qaa (qda wg 78))))],⟨[(0,(.one (.int .i64 v0))),(3,(.one (.ref (.int .u8) 8 0 (we h8) true))),(4,(.one (.int .i64 v4)))],[(8,some (.row (.int .u8) true h8))],9⟩⟩
theorem qqF (a0:Int):qwC a0=(
gd ((64:Int)≠0)<|
gd ((64:Int)≠0)<|
letI c:=(Int.tmod (wd .i64 ((119:Int) - (Int.tmod a0 (64:Int)))) (64:Int))
gd (0≤c)<|
gd (c*1≤140737488355328)<|
gd (c≤9223372036854775807)<|
letI d:=([(128:Int)]++(wn (wo c) (0:Int)))
gd ((we d)*1≤140737488355328)<|
qgo a0 (56:Int) d):=CE
theorem qYp (v0:Int) (v4:Int) (h8:List Int):qgo v0 v4 h8=(
if (decide (v4≥(0:Int)))=true then
gd (0≤v4)<|
letI c:=(h8++[(wd .u8 (qTl .u64 (wd .u64 ((wd .u64 v0)*(8:Int))) v4))])
gd ((we c)*1≤140737488355328)<|
qgo v0 (wd .i64 (v4 - (8:Int))) c
else
some (h8)):=SE
noncomputable def vAa:FN:={f:=102,cuts:=[],tab:=[],fm:=⟨true,[.part (.int .u8)]⟩}
noncomputable def qDe (a1:Int):Option (List Int×Nat×Nat):=vAa.call [.nil,(.int .i64 a1)] []
theorem qjl (a1:Int):qDe a1=(
if (decide (a1<(0:Int)))=true then
none
else
letI c:=(wd .i64 (a1 - (0:Int)))
if (decide (c>(0:Int)))=true then
gd (0≤(0:Int))<|
gd ((0:Int)≤(0:Int))<|
gd (0≤c)<|
gd (c*1≤140737488355328)<|
gd (c≤9223372036854775807)<|
letI d:=(wn (wo c) (0:Int))
letI e:=(we d)
gd (e*1≤140737488355328)<|
gd (0≤(0:Int))<|
gd ((0:Int)≤(wi e))<|
some (d,(0,0))
else
some ([],(0,0))):=CE
noncomputable def qQl (acc:List AV→Bool):Summ wg GT:=vAa.summ mixed acc false true
noncomputable def vh:FN:={f:=77,cuts:=[⟨(3,3),[0,3,9,10,11],false,false,[],[],[]⟩,⟨(11,3),[6,25,26,27],false,false,[],[],[]⟩],tab:=[qQl (fun _=>true)],fm:=⟨true,[.val (.slice (.int .u8)) [.pu]]⟩}
noncomputable def qVd (a0:List (List Int)):Option (List Int):=vh.call [(.sl (.slice (.int .u8)) false a0)] []
noncomputable def qYc (v0:List (List Int)) (v3:Int) (v9:List (List Int)) (v10:Int) (v11:Int):Option (List Int):=vh.sem ⟨[.code (cIn (cIn (qaa (qEa (qaa (qaa (qda wg 77))))))), .inLoop (cIn (cIn (qaa (qEa (qaa (qaa (qda wg 77))))))), .inBlock 0, .code (qaa (qaa (qaa (qda wg 77))))],⟨[(0,(.one (.sl (.slice (.int .u8)) false v0))),(3,(.one (.int .i64 v3))),(9,(.one (.sl (.slice (.int .u8)) false v9))),(10,(.one (.int .i64 v10))),(11,(.one (.int .i64 v11)))],[],8⟩⟩
noncomputable def qkf (v6o:Nat) (v6n:Nat) (v25:List (List Int)) (v26:Int) (v27:Int) (h8:List Int):Option (List Int):=vh.sem ⟨[.code (cIn (cIn (qaa (qEa (qaa (qaa (qaa (qaa (qda wg 77))))))))), .inLoop (cIn (cIn (qaa (qEa (qaa (qaa (qaa (qaa (qda wg 77))))))))), .inBlock 2, .code (qaa (qaa (qaa (qaa (qaa (qda wg 77))))))],⟨[(6,(.one (.ref (.int .u8) 8 v6o v6n false))),(25,(.one (.sl (.slice (.int .u8)) false v25))),(26,(.one (.int .i64 v26))),(27,(.one (.int .i64 v27)))],[(8,some (.row (.int .u8) true h8))],9⟩⟩
noncomputable def qXc (v25:List (List Int)) (v26:Int) (v27:Int) (h8:List Int):Option (List Int):=vh.sem ⟨[.code (cIn (cIn (qaa (qEa (qaa (qaa (qaa (qaa (qda wg 77))))))))), .inLoop (cIn (cIn (qaa (qEa (qaa (qaa (qaa (qaa (qda wg 77))))))))), .inBlock 2, .code (qaa (qaa (qaa (qaa (qaa (qda wg 77))))))],⟨[(6,(.one (.ref (.int .u8) 8 0 (we h8) true))),(25,(.one (.sl (.slice (.int .u8)) false v25))),(26,(.one (.int .i64 v26))),(27,(.one (.int .i64 v27)))],[(8,some (.row (.int .u8) true h8))],9⟩⟩
theorem qBj (a0:List (List Int)):qVd a0=(
qYc a0 (0:Int) a0 (wi (we a0)) (0:Int)):=CE
theorem qwc (v0:List (List Int)) (v3:Int) (v9:List (List Int)) (v10:Int) (v11:Int):qYc v0 v3 v9 v10 v11=(
if (decide (v11<v10))=true then
gd (0≤v11)<|
gd (v11<(wi (we v9)))<|
letI c:=(wo v11)
if (decide ((wd .i64 (v3+(wi (we (wm v9 c [])))))<(0:Int)))=true then
none
else
qYc v0 (wd .i64 (v3+(wi (we (wm v9 c []))))) v9 v10 (wd .i64 (v11+(1:Int)))
else
(qDe v3).bind fun r1=>
qkf r1.2.1 r1.2.2 v0 (wi (we v0)) (0:Int) r1.1):=SE
theorem qZh (v6o:Nat) (v6n:Nat) (v25:List (List Int)) (v26:Int) (v27:Int) (h8:List Int):qkf v6o v6n v25 v26 v27 h8=(
letI c:=(wM v6n (wea v6o h8))
if (decide (v27<v26))=true then
gd (0≤v27)<|
gd (v27<(wi (we v25)))<|
letI d:=(wo v27)
gd ((we (c++(wm v25 d [])))*1≤140737488355328)<|
qXc v25 v26 (wd .i64 (v27+(1:Int))) (c++(wm v25 d []))
else
some c):=SE
theorem qce (v25:List (List Int)) (v26:Int) (v27:Int) (h8:List Int):qXc v25 v26 v27 h8=(
if (decide (v27<v26))=true then
gd (0≤v27)<|
gd (v27<(wi (we v25)))<|
letI c:=(wo v27)
gd ((we (h8++(wm v25 c [])))*1≤140737488355328)<|
qXc v25 v26 (wd .i64 (v27+(1:Int))) (h8++(wm v25 c []))
else
some (h8)):=SE
noncomputable def vna:FN:={f:=103,cuts:=[],tab:=[],fm:=⟨true,[.val (.int .u32) []]⟩}
noncomputable def qlb (a0:Int) (a1:Int):Option (Int):=vna.call [(.int .u32 a0),(.int .i64 a1)] []
theorem qOk (a0:Int) (a1:Int):qlb a0 a1=(
letI c:=(qUa .u64 (wd .u64 a1) (31:Int))
gd (0≤c)<|
letI d:=(wd .u64 ((32:Int) - c))
gd (0≤d)<|
some (qgc .u32 (wd .u32 (qEw .u32 a0 c)) (qTl .u32 a0 d))):=CE
noncomputable def vHd:FN:={f:=104,cuts:=[],tab:=[],fm:=⟨true,[.val (.int .u32) []]⟩}
noncomputable def qxC (a0:Int) (a1:Int) (a2:Int) (a3:Int):Option (Int):=vHd.call [(.int .i64 a0),(.int .u32 a1),(.int .u32 a2),(.int .u32 a3)] []
theorem qrF (a0:Int) (a1:Int) (a2:Int) (a3:Int):qxC a0 a1 a2 a3=(
if (a0==(0:Int))=true then
some (qSb .u32 a3 (qUa .u32 a1 (qSb .u32 a2 a3)))
else
if (a0==(2:Int))=true then
some (qgc .u32 (qUa .u32 a1 a2) (qUa .u32 a3 (qgc .u32 a1 a2)))
else
some (qSb .u32 (qSb .u32 a1 a2) a3)):=CE
noncomputable def vHc:FN:={f:=79,cuts:=[⟨(3,3),[2,4,5,16,17,18],false,false,[],[],[]⟩,⟨(9,3),[2,4,5,8,9,10,11,12,45],false,false,[],[],[]⟩],tab:=[SS vna,SS vHd],fm:=⟨true,[.val (.arr 5 (.int .u32)) []]⟩}
noncomputable def qOG (a0:(List Int)) (a1:List Int):Option ((List Int)):=vHc.call [(.agg (.arr 5 (.int .u32)) a0),(.sl (.int .u8) false a1)] []
noncomputable def qTi (v16:List Int) (v17:Int) (v18:Int) (b8:(List Int)) (b9:(List Int)) (b10:(List Int)):Option ((List Int)):=vHc.sem ⟨[.code (cIn (cIn (qaa (qEa (qaa (qaa (qda wg 79))))))), .inLoop (cIn (cIn (qaa (qEa (qaa (qaa (qda wg 79))))))), .inBlock 0, .code (qaa (qaa (qaa (qda wg 79))))],⟨[(2,(.one (.ptr (.arr 5 (.int .u32)) 8 []))),(4,(.one (.ptr (.arr 5 (.int .u32)) 9 []))),(5,(.one (.ptr (.arr 16 (.int .u32)) 10 []))),(16,(.one (.sl (.int .u8) false v16))),(17,(.one (.int .i64 v17))),(18,(.one (.int .i64 v18)))],[(8,some (.box (.arr 5 (.int .u32)) b8)),(9,some (.box (.arr 5 (.int .u32)) b9)),(10,some (.box (.arr 16 (.int .u32)) b10))],11⟩⟩
noncomputable def qan (v8:Int) (v9:Int) (v10:Int) (v11:Int) (v12:Int) (v45:Int) (b8:(List Int)) (b9:(List Int)) (b10:(List Int)):Option ((List Int)):=vHc.sem ⟨[.code (cIn (cIn (qaa (qEa (qaa (qaa (qaa (qaa (qda wg 79))))))))), .inLoop (cIn (cIn (qaa (qEa (qaa (qaa (qaa (qaa (qda wg 79))))))))), .inBlock 2, .code (qaa (qaa (qaa (qaa (qaa (qda wg 79))))))],⟨[(2,(.one (.ptr (.arr 5 (.int .u32)) 8 []))),(4,(.one (.ptr (.arr 5 (.int .u32)) 9 []))),(5,(.one (.ptr (.arr 16 (.int .u32)) 10 []))),(8,(.one (.int .u32 v8))),(9,(.one (.int .u32 v9))),(10,(.one (.int .u32 v10))),(11,(.one (.int .u32 v11))),(12,(.one (.int .u32 v12))),(45,(.one (.int .i64 v45)))],[(8,some (.box (.arr 5 (.int .u32)) b8)),(9,some (.box (.arr 5 (.int .u32)) b9)),(10,some (.box (.arr 16 (.int .u32)) b10))],11⟩⟩
theorem qNG (a0:(List Int)) (a1:List Int):qOG a0 a1=(
gd (0≤(64:Int))<|
gd ((64:Int)≤(wi (we a1)))<|
letI c:=(wM 64 a1)
qTi c (wi (we c)) (0:Int) a0 (wn 5 (0:Int)) (wn 16 (0:Int))):=CE
theorem qds (v16:List Int) (v17:Int) (v18:Int) (b8:(List Int)) (b9:(List Int)) (b10:(List Int)):qTi v16 v17 v18 b8 b9 b10=(
if (decide (v18<v17))=true then
gd (0≤v18)<|
gd (v18<(wi (we v16)))<|
gd ((4:Int)≠0)<|
gd ((4:Int)≠0)<|
letI c:=(wd .i64 (wIa v18 (4:Int)))
gd (0≤c)<|
gd (c<(16:Int))<|
gd (0≤(8:Int))<|
gd (0≤c)<|
gd (c<(16:Int))<|
qTi v16 v17 (wd .i64 (v18+(1:Int))) b8 b9 (wF b10 (wo c) (qgc .u32 (wd .u32 ((wm b10 (wo c) (0:Int))*(256:Int))) (wd .u32 (wm v16 (wo v18) (0:Int)))))
else
gd (0≤(0:Int))<|
gd ((0:Int)<(5:Int))<|
gd (0≤(1:Int))<|
gd ((1:Int)<(5:Int))<|
gd (0≤(2:Int))<|
gd ((2:Int)<(5:Int))<|
gd (0≤(3:Int))<|
gd ((3:Int)<(5:Int))<|
gd (0≤(4:Int))<|
gd ((4:Int)<(5:Int))<|
qan (wm b8 0 (0:Int)) (wm b8 1 (0:Int)) (wm b8 2 (0:Int)) (wm b8 3 (0:Int)) (wm b8 4 (0:Int)) (0:Int) b8 b9 b10):=SE
theorem qcs (v8:Int) (v9:Int) (v10:Int) (v11:Int) (v12:Int) (v45:Int) (b8:(List Int)) (b9:(List Int)) (b10:(List Int)):qan v8 v9 v10 v11 v12 v45 b8 b9 b10=(
if (decide (v45<(80:Int)))=true then
letI m:=(wd .i64 (v45+(1:Int)))
letI l:=(qlb v8 (5:Int))
letI k:=(qlb v9 (30:Int))
letI d:=(Int.tmod v45 (16:Int))
letI j:=(wm b10 (wo d) (0:Int))
letI c:=(wd .i64 (wIa v45 (20:Int)))
letI o:=(qxC c v9 v10 v11)
letI i:=(wm G_quarters (wo c) (0:Int))
if (decide (v45≥(16:Int)))=true then
gd ((16:Int)≠0)<|
gd ((16:Int)≠0)<|
letI e:=(Int.tmod (wd .i64 (v45+(13:Int))) (16:Int))
gd (0≤e)<|
gd (e<(16:Int))<|
gd ((16:Int)≠0)<|
letI f:=(Int.tmod (wd .i64 (v45+(8:Int))) (16:Int))
gd (0≤f)<|
gd (f<(16:Int))<|
gd ((16:Int)≠0)<|
letI g:=(Int.tmod (wd .i64 (v45+(2:Int))) (16:Int))
gd (0≤g)<|
gd (g<(16:Int))<|
gd ((16:Int)≠0)<|
gd (0≤d)<|
gd (d<(16:Int))<|
(qlb (qSb .u32 (qSb .u32 (qSb .u32 (wm b10 (wo e) (0:Int)) (wm b10 (wo f) (0:Int))) (wm b10 (wo g) (0:Int))) j) (1:Int)).bind fun r1=>
gd (0≤d)<|
gd (d<(16:Int))<|
l.bind fun r2=>
gd ((20:Int)≠0)<|
o.bind fun r3=>
gd ((20:Int)≠0)<|
gd (0≤c)<|
gd (c<(4:Int))<|
gd ((16:Int)≠0)<|
gd (0≤d)<|
gd (d<(16:Int))<|
k.bind fun r4=>
letI n:=(wF b10 (wo d) r1)
qan (wd .u32 ((wd .u32 ((wd .u32 ((wd .u32 (r2+r3))+v12))+i))+(wm n (wo d) (0:Int)))) v8 r4 v10 v11 m b8 b9 n
else
l.bind fun r5=>
gd ((20:Int)≠0)<|
o.bind fun r6=>
gd ((20:Int)≠0)<|
gd (0≤c)<|
gd (c<(4:Int))<|
gd ((16:Int)≠0)<|
gd (0≤d)<|
gd (d<(16:Int))<|
k.bind fun r7=>
qan (wd .u32 ((wd .u32 ((wd .u32 ((wd .u32 (r5+r6))+v12))+i))+j)) v8 r7 v10 v11 m b8 b9 b10
else
gd (0≤(0:Int))<|
gd ((0:Int)<(5:Int))<|
gd (0≤(1:Int))<|
gd ((1:Int)<(5:Int))<|
gd (0≤(2:Int))<|
gd ((2:Int)<(5:Int))<|
gd (0≤(3:Int))<|
gd ((3:Int)<(5:Int))<|
gd (0≤(4:Int))<|
gd ((4:Int)<(5:Int))<|
some (wF (wF (wF (wF (wF (wn 5 (0:Int)) 0 (wd .u32 ((wm b8 0 (0:Int))+v8))) 1 (wd .u32 ((wm b8 1 (0:Int))+v9))) 2 (wd .u32 ((wm b8 2 (0:Int))+v10))) 3 (wd .u32 ((wm b8 3 (0:Int))+v11))) 4 (wd .u32 ((wm b8 4 (0:Int))+v12)))):=SE
noncomputable def vKa:FN:={f:=47,cuts:=[⟨(5,3),[2,4,5],false,false,[],[],[]⟩,⟨(9,3),[2,27,28],false,false,[],[],[]⟩],tab:=[SS vtd,SS vh,SS vHc],fm:=⟨true,[.val (.arr 20 (.int .u8)) [], .val (.int .i64) []]⟩}
noncomputable def qXt (a0:List Int):Option ((List Int)×Int):=vKa.call [(.sl (.int .u8) false a0)] []
noncomputable def qio (v5:List Int) (b8:(List Int)) (b9:(List Int)):Option ((List Int)×Int):=vKa.sem ⟨[.code (cIn (cIn (qaa (qEa (qaa (qaa (qaa (qda wg 47)))))))), .inLoop (cIn (cIn (qaa (qEa (qaa (qaa (qaa (qda wg 47)))))))), .inBlock 0, .code (qaa (qaa (qaa (qaa (qda wg 47)))))],⟨[(2,(.one (.ptr (.arr 20 (.int .u8)) 8 []))),(4,(.one (.ptr (.arr 5 (.int .u32)) 9 []))),(5,(.one (.sl (.int .u8) true v5)))],[(8,some (.box (.arr 20 (.int .u8)) b8)),(9,some (.box (.arr 5 (.int .u32)) b9))],10⟩⟩
noncomputable def qho (v27:(List Int)) (v28:Int) (b8:(List Int)):Option ((List Int)×Int):=vKa.sem ⟨[.code (cIn (cIn (qaa (qEa (qaa (qaa (qaa (qaa (qda wg 47))))))))), .inLoop (cIn (cIn (qaa (qEa (qaa (qaa (qaa (qaa (qda wg 47))))))))), .inBlock 2, .code (qaa (qaa (qaa (qaa (qaa (qda wg 47))))))],⟨[(2,(.one (.ptr (.arr 20 (.int .u8)) 8 []))),(27,(.one (.agg (.arr 5 (.int .u32)) v27))),(28,(.one (.int .i64 v28)))],[(8,some (.box (.arr 20 (.int .u8)) b8))],9⟩⟩
theorem qsF (a0:List Int):qXt a0=(
letI d:=(wi (we a0))
letI c:=(wn 20 (0:Int))
if (decide (d>(20000:Int)))=true then
some (c,(4:Int))
else
(qwC d).bind fun r1=>
(qVd [a0,r1]).bind fun r2=>
qio r2 c (wF (wF (wF (wF (wF (wn 5 (0:Int)) 0 (1732584193:Int)) 1 (4023233417:Int)) 2 (2562383102:Int)) 3 (271733878:Int)) 4 (3285377520:Int))):=CE
theorem qaq (v5:List Int) (b8:(List Int)) (b9:(List Int)):qio v5 b8 b9=(
letI c:=(wi (we v5))
if (decide (c>(0:Int)))=true then
(qOG b9 v5).bind fun r3=>
gd (0≤(64:Int))<|
gd ((64:Int)≤c)<|
qio (wea 64 v5) b8 r3
else
qho b9 (0:Int) b8):=SE
theorem qZp (v27:(List Int)) (v28:Int) (b8:(List Int)):qho v27 v28 b8=(
if (decide (v28<(5:Int)))=true then
gd (0≤v28)<|
gd (v28<(5:Int))<|
gd (0≤(24:Int))<|
gd (0≤(16:Int))<|
gd (0≤(8:Int))<|
letI c:=(wd .i64 ((4:Int)*v28))
gd (0≤c)<|
gd (c<(20:Int))<|
letI e:=(wd .i64 (c+(1:Int)))
gd (0≤e)<|
gd (e<(20:Int))<|
letI f:=(wd .i64 (c+(2:Int)))
gd (0≤f)<|
gd (f<(20:Int))<|
letI g:=(wd .i64 (c+(3:Int)))
gd (0≤g)<|
gd (g<(20:Int))<|
letI d:=(wm v27 (wo v28) (0:Int))
qho v27 (wd .i64 (v28+(1:Int))) (wF (wF (wF (wF b8 (wo c) (wd .u8 (wV d (16777216:Int)))) (wo e) (wd .u8 (wV d (65536:Int)))) (wo f) (wd .u8 (wV d (256:Int)))) (wo g) (wd .u8 d))
else
some (b8,(0:Int))):=SE
noncomputable def vUa:FN:={f:=71,cuts:=[],tab:=[SS vW,SS vKa],fm:=⟨true,[.val (.arr 20 (.int .u8)) []]⟩}
noncomputable def qsi (a0:qla) (a1:List Int):Option ((List Int)):=vUa.call [(.agg qAa (inj false qAa a0)),(.sl (.int .u8) false a1)] []
theorem qVs (a0:qla) (a1:List Int):qsi a0 a1=(
(qmk a0).bind fun r1=>
gd ((we (r1++a1))*1≤140737488355328)<|
(qXt (r1++a1)).bind fun r2=>
some (r2.1)):=CE
noncomputable def vnc:FN:={f:=67,cuts:=[],tab:=[SS vy,SS vUa],fm:=⟨true,[.val (.arr 20 (.int .u8)) [], .val (.int .i64) []]⟩}
noncomputable def qBq (a0:qla) (a1:List Int):Option ((List Int)×Int):=vnc.call [(.agg qAa (inj false qAa a0)),(.sl (.int .u8) false a1)] []
theorem qXs (a0:qla) (a1:List Int):qBq a0 a1=(
(qRd a0).bind fun r1=>
letI c:=(wn 20 (0:Int))
if (r1 != (0:Int))=true then
some (c,r1)
else
if ((wi (we a1)) != a0.2.2.2.1)=true then
some (c,(2:Int))
else
(qsi a0 a1).bind fun r2=>
some (r2,(0:Int))):=CE
noncomputable def vVc:FN:={f:=35,cuts:=[],tab:=[SS vnc],fm:=⟨true,[.val qAa [], .val (.int .i64) []]⟩}
noncomputable def qgj (a0:qla) (a1:List Int):Option (qla×Int):=vVc.call [(.agg qAa (inj false qAa a0)),(.sl (.int .u8) false a1)] []
theorem qbx (a0:qla) (a1:List Int):qgj a0 a1=(
(qBq a0 a1).bind fun r1=>
if (r1.2 != (0:Int))=true then
some (((0:Int),((0:Int),((0:Int),((0:Int),((0:Int),((wn 20 (0:Int)),())))))),r1.2)
else
some ((a0.1,(a0.2.1,(a0.2.2.1,(a0.2.2.2.1,(a0.2.2.2.2.1,(r1.1,a0.2.2.2.2.2.2)))))),(0:Int))):=CE
noncomputable def vPb:FN:={f:=13,cuts:=[],tab:=[SS vab,SS vy,SS vQ,SS vgb,SS vVc],fm:=⟨true,[.val qYe [], .val (.int .i64) []]⟩}
noncomputable def qkh (a0:Int) (a1:Int) (a2:Int) (a3:List Int):Option (qza×Int):=vPb.call [(.int .i64 a0),(.int .i64 a1),(.int .i64 a2),(.sl (.int .u8) false a3)] []
theorem qPq (a0:Int) (a1:Int) (a2:Int) (a3:List Int):qkh a0 a1 a2 a3=(
(qCi a0).bind fun r1=>
letI d:=(wn 20 (0:Int))
if (not r1)=true then
some ((((0:Int),((0:Int),((0:Int),((0:Int),((0:Int),(d,())))))),([],())),(2:Int))
else
letI c:=(wi (we a3))
(qRd ((1:Int),(a1,(a2,(c,(c,(d,()))))))).bind fun r2=>
if (r2 != (0:Int))=true then
some ((((0:Int),((0:Int),((0:Int),((0:Int),((0:Int),(d,())))))),([],())),(2:Int))
else
(qLf a3).bind fun r3=>
(qlc a0 a3).bind fun r4=>
if (r4.2==(0:Int))=true then
letI e:=(wi (we r4.1))
if (decide (e<c))=true then
(qgj ((2:Int),(a1,(a2,(c,(e,(d,())))))) a3).bind fun r5=>
some ((r5.1,(r4.1,())),(0:Int))
else
(qgj ((1:Int),(a1,(a2,(c,(c,(d,())))))) a3).bind fun r6=>
some ((r6.1,(r3,())),(0:Int))
else
(qgj ((1:Int),(a1,(a2,(c,(c,(d,())))))) a3).bind fun r7=>
some ((r7.1,(r3,())),(0:Int))):=CE
noncomputable def vwb:FN:={f:=36,cuts:=[],tab:=[SS vy],fm:=⟨true,[.val (.int .i64) []]⟩}
noncomputable def qum (a0:qza):Option (Int):=vwb.call [(.agg qYe (inj false qYe a0))] []
theorem qBx (a0:qza):qum a0=(
(qRd a0.1).bind fun r1=>
if (r1 != (0:Int))=true then
some (8:Int)
else
if ((wi (we a0.2.1)) != a0.1.2.2.2.2.1)=true then
some (8:Int)
else
some (0:Int)):=CE
noncomputable def vcc:FN:={f:=37,cuts:=[],tab:=[SS vy,SS vW],fm:=⟨true,[.val (.slice (.int .u8)) [.nw], .val (.int .i64) []]⟩}
noncomputable def qgm (a0:qla):Option (List Int×Int):=vcc.call [(.agg qAa (inj false qAa a0))] []
theorem qWs (a0:qla):qgm a0=(
(qRd a0).bind fun r1=>
if (r1 != (0:Int))=true then
some ([],r1)
else
(qmk a0).bind fun r2=>
letI c:=(r2++(wM 20 (wea 0 a0.2.2.2.2.2.1)))
gd ((we c)*1≤140737488355328)<|
some (c,(0:Int))):=CE
noncomputable def vra:FN:={f:=39,cuts:=[],tab:=[],fm:=⟨true,[.val (.slice (.int .u8)) [.pu]]⟩}
noncomputable def qMh:Option (List Int):=vra.call [] []
theorem qfv:qMh=(
gd (0<13)<|
some ([(183:Int),(98:Int),(105:Int),(116:Int),(108:Int),(111:Int),(102:Int),(116:Int),(32:Int),(98:Int),(108:Int),(107:Int),(10:Int)])):=CE
noncomputable def vMa:FN:={f:=38,cuts:=[⟨(11,3),[0,1,5,42,43,44],false,false,[],[],[]⟩,⟨(20,3),[1,8,9,70,71,72],false,false,[],[],[]⟩],tab:=[],fm:=⟨true,[.part (.int .u8)]⟩,mnz:=mnz,mnzOk:=qwM}
noncomputable def qSr (a0:List (List Int)) (a1:List Int):Option (List Int×Nat×Nat):=vMa.call [(.sl (.slice (.int .u8)) false a0),(.sl (.int .u8) false a1)] []
noncomputable def qif (v0:List (List Int)) (v1:List Int) (v5:Int) (v42:List (List Int)) (v43:Int) (v44:Int):Option (List Int×Nat×Nat):=vMa.sem ⟨[.code (cIn (cIn (qaa (qEa (qaa (qaa (qaa (qaa (qaa (qda wg 38)))))))))), .inLoop (cIn (cIn (qaa (qEa (qaa (qaa (qaa (qaa (qaa (qda wg 38)))))))))), .inBlock 0, .code (qaa (qaa (qaa (qaa (qaa (qaa (qda wg 38)))))))],⟨[(0,(.one (.sl (.slice (.int .u8)) false v0))),(1,(.one (.sl (.int .u8) false v1))),(5,(.one (.int .i64 v5))),(42,(.one (.sl (.slice (.int .u8)) false v42))),(43,(.one (.int .i64 v43))),(44,(.one (.int .i64 v44)))],[],8⟩⟩
noncomputable def qBi (v1:List Int) (v8o:Nat) (v8n:Nat) (v9:Int) (v70:List (List Int)) (v71:Int) (v72:Int) (h8:List Int):Option (List Int×Nat×Nat):=vMa.sem ⟨[.code (cIn (cIn (qaa (qEa (qaa (qaa (qaa (qaa (qaa (qaa (qaa (qaa (qda wg 38))))))))))))), .inLoop (cIn (cIn (qaa (qEa (qaa (qaa (qaa (qaa (qaa (qaa (qaa (qaa (qda wg 38))))))))))))), .inBlock 2, .code (qaa (qaa (qaa (qaa (qaa (qaa (qaa (qaa (qaa (qda wg 38))))))))))],⟨[(1,(.one (.sl (.int .u8) false v1))),(8,(.one (.ref (.int .u8) 8 v8o v8n false))),(9,(.one (.int .i64 v9))),(70,(.one (.sl (.slice (.int .u8)) false v70))),(71,(.one (.int .i64 v71))),(72,(.one (.int .i64 v72)))],[(8,some (.row (.int .u8) true h8))],9⟩⟩
theorem qMz (a0:List (List Int)) (a1:List Int):qSr a0 a1=(
letI c:=(wi (we a0))
if (c==(0:Int))=true then
some ([],(0,0))
else
if (c==(1:Int))=true then
gd (0≤(0:Int))<|
gd ((0:Int)<c)<|
gd ((we (wm a0 0 []))*1≤140737488355328)<|
some ((wm a0 0 []),(0,(we (wm a0 0 []))))
else
letI e:=(wi (we a1))
if (decide (e>(0:Int)))=true then
letI d:=(wd .i64 (c - (1:Int)))
gd (d≠0)<|
if (decide (e≥(wd .i64 (wIa (9223372036854775807:Int) d))))=true then
none
else
qif a0 a1 (wd .i64 ((0:Int)+(wd .i64 (e*d)))) a0 c (0:Int)
else
qif a0 a1 (0:Int) a0 c (0:Int)):=CE
theorem qOm (v0:List (List Int)) (v1:List Int) (v5:Int) (v42:List (List Int)) (v43:Int) (v44:Int):qif v0 v1 v5 v42 v43 v44=(
if (decide (v44<v43))=true then
gd (0≤v44)<|
gd (v44<(wi (we v42)))<|
if (decide ((wi (we (wm v42 (wo v44) [])))>(wd .i64 ((9223372036854775807:Int) - v5))))=true then
none
else
qif v0 v1 (wd .i64 (v5+(wi (we (wm v42 (wo v44) []))))) v42 v43 (wd .i64 (v44+(1:Int)))
else
gd (0≤v5)<|
gd (v5≤140737488355328)<|
qeA (fun (r1:List Int)=>(we r1)=(wo v5)) fun (r1:List Int)=>
gd (0≤v5)<|
gd (v5≤v5)<|
gd (v5≤(wi (we r1)))<|
gd (0≤(0:Int))<|
gd ((0:Int)<(wi (we v0)))<|
gd (0≤(1:Int))<|
gd ((1:Int)≤(wi (we v0)))<|
qBi v1 0 ((wo v5) - 0) (wi (min (we (wm v0 0 [])) ((wo v5) - 0))) (wea 1 v0) (wi (we (wea 1 v0))) (0:Int) (qwb r1 0 (wM (min (we (wm v0 0 [])) ((wo v5) - 0)) (wm v0 0 [])))):=SE
theorem qNm (v1:List Int) (v8o:Nat) (v8n:Nat) (v9:Int) (v70:List (List Int)) (v71:Int) (v72:Int) (h8:List Int):qBi v1 v8o v8n v9 v70 v71 v72 h8=(
if (decide (v72<v71))=true then
gd (0≤v72)<|
gd (v72<(wi (we v70)))<|
gd (0≤v9)<|
letI g:=(wi v8n)
gd (v9≤g)<|
letI d:=(min (we v1) (v8n - (wo v9)))
letI c:=(wd .i64 (v9+(wi d)))
gd (0≤c)<|
gd (c≤g)<|
letI f:=(v8n - (wo c))
letI e:=(wo v72)
qBi v1 v8o v8n (wd .i64 (c+(wi (min (we (wm v70 e [])) f)))) v70 v71 (wd .i64 (v72+(1:Int))) (qwb (qwb h8 (v8o+(wo v9)) (wM d v1)) (v8o+(wo c)) (wM (min (we (wm v70 e [])) f) (wm v70 e [])))
else
some (h8,(v8o,v8n))):=SE
noncomputable def vzb:FN:={f:=14,cuts:=[],tab:=[SS vwb,SS vcc,SS vra,SS vMa],fm:=⟨true,[.part (.int .u8), .val (.int .i64) []]⟩}
noncomputable def qtm (a0:qza):Option ((List Int×Nat×Nat)×Int):=vzb.call [(.agg qYe (inj false qYe a0))] []
theorem qAx (a0:qza):qtm a0=(
(qum a0).bind fun r1=>
if (r1 != (0:Int))=true then
some (([],(0,0)),r1)
else
(qgm a0.1).bind fun r2=>
(qMh).bind fun r3=>
(qSr [r3,r2.1,a0.2.1] []).bind fun r4=>
some (r4,(0:Int))):=CE
noncomputable def vza:FN:={f:=48,cuts:=[],tab:=[],fm:=⟨true,[.val (.int .i64) []]⟩}
noncomputable def qNe (a0:List Int) (a1:Int):Option (Int):=vza.call [(.sl (.int .u8) false a0),(.int .i64 a1)] []
theorem qxg (a0:List Int) (a1:Int):qNe a0 a1=(
letI c:=(wi (we a0))
if (decide (c>(50000:Int)))=true then
some (4:Int)
else
if (decide (a1<(0:Int)))=true then
some (2:Int)
else
if (decide (a1>c))=true then
some (2:Int)
else
some (0:Int)):=CE
noncomputable def vNc:FN:={f:=49,cuts:=[],tab:=[SS vza,SS vra,qNz (fun _=>true)],fm:=⟨true,[.val (.int .i64) [], .val (.int .i64) []]⟩}
noncomputable def qOe (a0:List Int) (a1:Int):Option (Int×Int):=vNc.call [(.sl (.int .u8) false a0),(.int .i64 a1)] []
theorem qXw (a0:List Int) (a1:Int):qOe a0 a1=(
(qNe a0 a1).bind fun r1=>
if (r1 != (0:Int))=true then
some ((0:Int),r1)
else
gd (0≤a1)<|
gd (a1≤(wi (we a0)))<|
(qMh).bind fun r2=>
(qsj (wea (wo a1) a0) r2).bind fun r3=>
if (decide (r3<(0:Int)))=true then
some ((0:Int),(6:Int))
else
some ((wd .i64 (a1+r3)),(0:Int))):=CE
noncomputable def vVb:FN:={f:=19,cuts:=[⟨(6,3),[0,5,6,7],false,false,[],[],[]⟩],tab:=[SS vza,SS vNc],fm:=⟨true,[.val (.slice (.int .i64)) [.nw], .val (.int .i64) []]⟩}
noncomputable def qoo (a0:List Int):Option (List Int×Int):=vVb.call [(.sl (.int .u8) false a0)] []
noncomputable def qyg (v0:List Int) (v6:Int) (v7:Int) (h8:List Int):Option (List Int×Int):=vVb.sem ⟨[.code (cIn (cIn (qaa (qEa (qaa (qaa (qaa (qda wg 19)))))))), .inLoop (cIn (cIn (qaa (qEa (qaa (qaa (qaa (qda wg 19)))))))), .inBlock 0, .code (qaa (qaa (qaa (qaa (qda wg 19)))))],⟨[(0,(.one (.sl (.int .u8) false v0))),(5,(.one (.ref (.int .i64) 8 0 (we h8) true))),(6,(.one (.int .i64 v6))),(7,(.one (.int .i64 v7)))],[(8,some (.row (.int .i64) true h8))],9⟩⟩
theorem qQy (a0:List Int):qoo a0=(
(qNe a0 (0:Int)).bind fun r1=>
if (r1 != (0:Int))=true then
some ([],r1)
else
(qOe a0 (0:Int)).bind fun r2=>
qyg a0 r2.1 r2.2 []):=CE
theorem qHm (v0:List Int) (v6:Int) (v7:Int) (h8:List Int):qyg v0 v6 v7 h8=(
if (v7==(0:Int))=true then
gd ((we (h8++[v6]))*8≤140737488355328)<|
(qOe v0 (wd .i64 (v6+(13:Int)))).bind fun r3=>
qyg v0 r3.1 r3.2 (h8++[v6])
else
some (h8,(0:Int))):=SE
noncomputable def vXb:FN:={f:=142,cuts:=[],tab:=[],fm:=⟨true,[.val (.int .u8) []]⟩}
noncomputable def qto (a0:List Int) (a1:Int):Option (Int):=vXb.call [(.sl (.int .u8) false a0),(.int .i64 a1)] []
theorem qzz (a0:List Int) (a1:Int):qto a0 a1=(
letI c:=(wi (we a0))
if (decide (a1<c))=true then
gd (0≤a1)<|
gd (a1<c)<|
some (wm a0 (wo a1) (0:Int))
else
some (0:Int)):=CE
noncomputable def vQa:FN:={f:=109,cuts:=[⟨(2,3),[0,2,3],false,false,[],[],[]⟩],tab:=[SS vXb],fm:=⟨false,[.val qFa []]⟩}
noncomputable def qJq (a0:List Int):Option (qOa):=vQa.call [(.sl (.int .u8) false a0)] []
noncomputable def qfe (v0:List Int) (b8a:Int) (b8ba:Int) (b8bba:Int) (b8bbbb:qqa) (b9:qOa) (h10:List Int):Option (qOa):=vQa.sem ⟨[.code (cIn (cIn (qEa (qaa (qaa (qda wg 109)))))), .inLoop (cIn (cIn (qEa (qaa (qaa (qda wg 109)))))), .inBlock 0, .code (qaa (qaa (qaa (qda wg 109))))],⟨[(0,(.one (.sl (.int .u8) false v0))),(2,(.one (.ptr qFa 8 []))),(3,(.one (.ptr qFa 9 [])))],[(8,some (.box qFa (b8a,(b8ba,(b8bba,((SV.ref 10 0 (we h10) true),(inj false qCa b8bbbb))))))),(9,some (.box qFa (inj false qFa b9))),(10,some (.row (.int .u8) true h10))],11⟩⟩
theorem qdt (a0:List Int):qJq a0=(
qfe a0 (0:Int) (0:Int) (0:Int) ((0:Int),()) ((0:Int),((4294967295:Int),((0:Int),(a0,((0:Int),()))))) []):=CE
theorem qnj (v0:List Int) (b8a:Int) (b8ba:Int) (b8bba:Int) (b8bbbb:qqa) (b9:qOa) (h10:List Int):qfe v0 b8a b8ba b8bba b8bbbb b9 h10=(
if (decide (b9.2.2.2.2.1<(4:Int)))=true then
gd (0≤(8:Int))<|
(qto v0 b9.2.2.2.2.1).bind fun r1=>
qfe v0 b8a b8ba b8bba b8bbbb (b9.1,(b9.2.1,((qgc .u32 (wd .u32 (b9.2.2.1*(256:Int))) (wd .u32 r1)),(b9.2.2.2.1,((wd .i64 (b9.2.2.2.2.1+(1:Int))),b9.2.2.2.2.2))))) h10
else
some (b9)):=SE
noncomputable def vgd:FN:={f:=81,cuts:=[],tab:=[SS ve,(SS vQa).dropping],fm:=⟨false,[.val qFa [], .val (.int .i64) []]⟩}
noncomputable def qJp (a0:List Int):Option (qOa×Int):=vgd.call [(.sl (.int .u8) false a0)] []
theorem qsx (a0:List Int):qJp a0=(
if (decide ((wi (we a0))>(20000:Int)))=true then
some (((0:Int),((0:Int),((0:Int),([],((0:Int),()))))),(4:Int))
else
(qkb a0).bind fun r1=>
(qJq r1).bind fun r2=>
some (r2,(0:Int))):=CE
noncomputable def vDd:FN:={f:=82,cuts:=[],tab:=[SS vYa,SS vFa],fm:=⟨true,[.val (.int .i64) [], .val (.int .i64) []]⟩}
noncomputable def qyu (a0:qba):Option (Int×Int):=vDd.call [(.agg qga (inj false qga a0))] []
theorem qNA (a0:qba):qyu a0=(
(qpi a0).bind fun r1=>
if (r1 != (0:Int))=true then
some ((0:Int),r1)
else
(qbh a0).bind fun r2=>
some ((wd .i64 r2.2.2.2.2.1),(0:Int))):=CE
noncomputable def vkc:FN:={f:=112,cuts:=[],tab:=[],fm:=⟨true,[.val (.int .i64) []]⟩}
noncomputable def qnm (a0:qOa):Option (Int):=vkc.call [(.agg qFa (inj false qFa a0))] []
theorem qet (a0:qOa):qnm a0=(
if (decide (a0.1≥a0.2.1))=true then
some (8:Int)
else
gd (0≤(24:Int))<|
gd (0≤(24:Int))<|
if ((wV a0.1 (16777216:Int))==(wV a0.2.1 (16777216:Int)))=true then
some (8:Int)
else
if (decide (a0.2.2.1<a0.1))=true then
some (8:Int)
else
if (decide (a0.2.2.1>a0.2.1))=true then
some (8:Int)
else
if (decide ((wi (we a0.2.2.2.1))>(20000:Int)))=true then
some (8:Int)
else
if (decide (a0.2.2.2.2.1<(4:Int)))=true then
some (8:Int)
else
if (decide (a0.2.2.2.2.1>(1000000:Int)))=true then
some (8:Int)
else
some (0:Int)):=CE
noncomputable def vlc:FN:={f:=113,cuts:=[],tab:=[],fm:=⟨true,[.val .bool []]⟩}
noncomputable def qmm (a0:Int):Option (Bool):=vlc.call [(.int .i64 a0)] []
theorem qct (a0:Int):qmm a0=(
if (decide (a0<(0:Int)))=true then
some (true)
else
some (decide (a0>(4095:Int)))):=CE
noncomputable def vec:FN:={f:=157,cuts:=[],tab:=[SS veb,SS vOa],fm:=⟨true,[.val (.int .u32) [], .val (.int .i64) []]⟩}
noncomputable def qjm (a0:Int) (a1:Int) (a2:Int):Option (Int×Int):=vec.call [(.int .u32 a0),(.int .u32 a1),(.int .i64 a2)] []
theorem qbt (a0:Int) (a1:Int) (a2:Int):qjm a0 a1 a2=(
if (decide (a0≥a1))=true then
some ((0:Int),(2:Int))
else
(qSf a2).bind fun r1=>
if (not r1)=true then
some ((0:Int),(2:Int))
else
(qDg a0 a1 a2).bind fun r2=>
some (r2,(0:Int))):=CE
noncomputable def vBb:FN:={f:=114,cuts:=[⟨(6,3),[0,7],false,false,[],[],[]⟩],tab:=[SS vec,SS vXb],fm:=⟨false,[.val .bool [], .box 0 qFa [.pu]]⟩}
noncomputable def qIp (a1:Int) (b0:qOa):Option (Bool×qOa):=vBb.call [(.ptr qFa 0 []),(.int .i64 a1)] [(0,(.box qFa (inj false qFa b0)))]
noncomputable def qxf (v7:Bool) (b0:qOa):Option (Bool×qOa):=vBb.sem ⟨[.code (cIn (cIn (qEa (qaa (qaa (qaa (qaa (qda wg 114)))))))), .inLoop (cIn (cIn (qEa (qaa (qaa (qaa (qaa (qda wg 114)))))))), .inBlock 0, .code (qaa (qaa (qaa (qaa (qaa (qda wg 114))))))],⟨[(0,(.one (.ptr qFa 0 []))),(7,(.one (.bool v7)))],[(0,some (.box qFa (inj false qFa b0)))],9⟩⟩
theorem qrx (a1:Int) (b0:qOa):qIp a1 b0=(
(qjm b0.1 b0.2.1 a1).bind fun r1=>
letI c:=(decide (b0.2.2.1≤r1.1))
if c=true then
qxf c (b0.1,(r1.1,b0.2.2))
else
qxf c ((wd .u32 (r1.1+(1:Int))),b0.2)):=CE
theorem qzl (v7:Bool) (b0:qOa):qxf v7 b0=(
gd (0≤(24:Int))<|
gd (0≤(24:Int))<|
if ((wV b0.1 (16777216:Int))==(wV b0.2.1 (16777216:Int)))=true then
gd (0≤(8:Int))<|
gd (0≤(8:Int))<|
gd (0≤(8:Int))<|
(qto b0.2.2.2.1 b0.2.2.2.2.1).bind fun r2=>
qxf v7 ((wd .u32 (b0.1*(256:Int))),((qgc .u32 (wd .u32 (b0.2.1*(256:Int))) (255:Int)),((qgc .u32 (wd .u32 (b0.2.2.1*(256:Int))) (wd .u32 r2)),(b0.2.2.2.1,((wd .i64 (b0.2.2.2.2.1+(1:Int))),b0.2.2.2.2.2)))))
else
some (v7,b0)):=SE
noncomputable def vXc:FN:={f:=83,cuts:=[],tab:=[SS vkc,SS vlc,SS ve,(SS vBb).dropping],fm:=⟨false,[.val qFa [], .val .bool [], .val (.int .i64) []]⟩}
noncomputable def qoj (a0:qOa) (a1:Int):Option (qOa×Bool×Int):=vXc.call [(.agg qFa (inj false qFa a0)),(.int .i64 a1)] []
theorem qtx (a0:qOa) (a1:Int):qoj a0 a1=(
(qnm a0).bind fun r1=>
if (r1 != (0:Int))=true then
some (((0:Int),((0:Int),((0:Int),([],((0:Int),()))))),(false,r1))
else
(qmm a1).bind fun r2=>
if r2=true then
some (((0:Int),((0:Int),((0:Int),([],((0:Int),()))))),(false,(2:Int)))
else
(qkb a0.2.2.2.1).bind fun r3=>
(qIp a1 (a0.1,(a0.2.1,(a0.2.2.1,(r3,a0.2.2.2.2))))).bind fun r4=>
if (decide (r4.2.2.2.2.2.1>(1000000:Int)))=true then
some (((0:Int),((0:Int),((0:Int),([],((0:Int),()))))),(false,(4:Int)))
else
some (r4.2,(r4.1,(0:Int)))):=CE
noncomputable def vUb:FN:={f:=84,cuts:=[],tab:=[(SS vIa).dropping],fm:=⟨false,[.val qga [], .val (.int .i64) []]⟩}
noncomputable def qMk (a0:qba) (a1:Bool):Option (qba×Int):=vUb.call [(.agg qga (inj false qga a0)),(.bool a1)] []
theorem qmr (a0:qba) (a1:Bool):qMk a0 a1=(
(qYi a0 [a1]).bind fun r1=>
some (r1.1,r1.2.2)):=CE
noncomputable def vva:FN:={f:=50,cuts:=[⟨(8,3),[2,8,10,11],false,false,[],[],[]⟩,⟨(11,7),[2,8,10,11,12,45],false,false,[],[],[]⟩],tab:=[(SS vGb).dropping,(SS vgd).dropping,SS vDd,(SS vXc).dropping,(SS vUb).dropping],fm:=⟨true,[.val (.slice (.int .u8)) [.nw], .val (.int .i64) []]⟩}
noncomputable def qMn (a0:Int) (a1:List Int) (a2:Int):Option (List Int×Int):=vva.call [(.int .i64 a0),(.sl (.int .u8) false a1),(.int .i64 a2)] []
noncomputable def qHg (v2:Int) (b8:qba) (b9:qOa) (h10:List Int):Option (List Int×Int):=vva.sem ⟨[.code (cIn (cIn (qEa (qaa (qaa (qaa (qaa (qaa (qaa (qda wg 50)))))))))), .inLoop (cIn (cIn (qEa (qaa (qaa (qaa (qaa (qaa (qaa (qda wg 50)))))))))), .inBlock 0, .code (qaa (qaa (qaa (qaa (qaa (qaa (qaa (qda wg 50))))))))],⟨[(2,(.one (.int .i64 v2))),(8,(.one (.ptr qga 8 []))),(10,(.one (.ptr qFa 9 []))),(11,(.one (.ref (.int .u8) 10 0 (we h10) true)))],[(8,some (.box qga (inj false qga b8))),(9,some (.box qFa (inj false qFa b9))),(10,some (.row (.int .u8) true h10))],11⟩⟩
noncomputable def qId (v2:Int) (v12:Int) (v45:Int) (b8:qba) (b9:qOa) (h10:List Int):Option (List Int×Int):=vva.sem ⟨[.code (cIn (cIn (qaa (qEa (qaa (cIn (qaa (cIn (cIn (qEa (qaa (qaa (qaa (qaa (qaa (qaa (qda wg 50))))))))))))))))), .inLoop (cIn (cIn (qaa (qEa (qaa (cIn (qaa (cIn (cIn (qEa (qaa (qaa (qaa (qaa (qaa (qaa (qda wg 50))))))))))))))))), .inBlock 2, .code (qaa (qaa (cIn (qaa (cIn (cIn (qEa (qaa (qaa (qaa (qaa (qaa (qaa (qda wg 50)))))))))))))), .inBlock 1, .inLoop (cIn (cIn (qEa (qaa (qaa (qaa (qaa (qaa (qaa (qda wg 50)))))))))), .inBlock 0, .code (qaa (qaa (qaa (qaa (qaa (qaa (qaa (qda wg 50))))))))],⟨[(2,(.one (.int .i64 v2))),(8,(.one (.ptr qga 8 []))),(10,(.one (.ptr qFa 9 []))),(11,(.one (.ref (.int .u8) 10 0 (we h10) true))),(12,(.one (.int .u8 v12))),(45,(.one (.int .i64 v45)))],[(8,some (.box qga (inj false qga b8))),(9,some (.box qFa (inj false qFa b9))),(10,some (.row (.int .u8) true h10))],11⟩⟩
theorem qdw (a0:Int) (a1:List Int) (a2:Int):qMn a0 a1 a2=(
(qpj a0 (0:Int)).bind fun r1=>
if (r1.2 != (0:Int))=true then
some ([],(2:Int))
else
if (decide (a2<(0:Int)))=true then
some ([],(2:Int))
else
if (decide (a2>(4096:Int)))=true then
some ([],(2:Int))
else
(qJp a1).bind fun r2=>
if (r2.2 != (0:Int))=true then
some ([],r2.2)
else
qHg a2 r1.1 r2.1 []):=CE
theorem qxk (v2:Int) (b8:qba) (b9:qOa) (h10:List Int):qHg v2 b8 b9 h10=(
if (decide ((wi (we h10))<v2))=true then
qId v2 (0:Int) (0:Int) b8 b9 h10
else
some (h10,(0:Int))):=SE
theorem qwk (v2:Int) (v12:Int) (v45:Int) (b8:qba) (b9:qOa) (h10:List Int):qId v2 v12 v45 b8 b9 h10=(
if (decide (v45<(8:Int)))=true then
(qyu b8).bind fun r3=>
(qoj b9 r3.1).bind fun r4=>
(qMk b8 r4.2.1).bind fun r5=>
letI d:=(wd .u8 (v12*(2:Int)))
letI c:=(wd .i64 (v45+(1:Int)))
if r4.2.1=true then
qId v2 (wd .u8 (d+(1:Int))) c r5.1 r4.1 h10
else
qId v2 d c r5.1 r4.1 h10
else
gd ((we (h10++[v12]))*1≤140737488355328)<|
qHg v2 b8 b9 (h10++[v12])):=SE
noncomputable def vvb:FN:={f:=51,cuts:=[],tab:=[],fm:=⟨true,[.val .bool []]⟩}
noncomputable def qsm (a0:List Int) (a1:List Int):Option (Bool):=vvb.call [(.sl (.int .u8) false a0),(.sl (.int .u8) false a1)] []
theorem qal (a0:List Int) (a1:List Int):qsm a0 a1=(
some ((wW (qFk a0))==(wW (qFk a1)))):=CE
noncomputable def vnb:FN:={f:=43,cuts:=[],tab:=[SS vy,SS vUa],fm:=⟨true,[.val .bool [], .val (.int .i64) []]⟩}
noncomputable def qPe (a0:qla) (a1:List Int):Option (Bool×Int):=vnb.call [(.agg qAa (inj false qAa a0)),(.sl (.int .u8) false a1)] []
theorem qqv (a0:qla) (a1:List Int):qPe a0 a1=(
(qRd a0).bind fun r1=>
if (r1 != (0:Int))=true then
some (false,r1)
else
if ((wi (we a1))==a0.2.2.2.1)=true then
(qsi a0 a1).bind fun r2=>
some ((peq (.arr 20 (.int .u8)) r2 a0.2.2.2.2.2.1),(0:Int))
else
some (false,(0:Int))):=CE
noncomputable def vqc:FN:={f:=20,cuts:=[],tab:=[SS vwb,SS vab,SS vQ,SS vva,SS vgb,SS vvb,SS vnb],fm:=⟨true,[.val (.slice (.int .u8)) [.nw], .val (.int .i64) []]⟩}
noncomputable def qGl (a0:Int) (a1:qza):Option (List Int×Int):=vqc.call [(.int .i64 a0),(.agg qYe (inj false qYe a1))] []
theorem qxs (a0:Int) (a1:qza):qGl a0 a1=(
(qum a1).bind fun r1=>
if (r1 != (0:Int))=true then
some ([],r1)
else
(qCi a0).bind fun r2=>
if (not r2)=true then
some ([],(2:Int))
else
(qLf a1.2.1).bind fun r3=>
if (a1.1.1==(2:Int))=true then
(qMn a0 a1.2.1 a1.1.2.2.2.1).bind fun r4=>
if (r4.2 != (0:Int))=true then
some ([],(12:Int))
else
(qlc a0 r4.1).bind fun r5=>
if (r5.2 != (0:Int))=true then
some ([],(12:Int))
else
(qsm r5.1 a1.2.1).bind fun r6=>
if (not r6)=true then
some ([],(12:Int))
else
(qPe a1.1 r4.1).bind fun r7=>
if (not r7.1)=true then
some ([],(22:Int))
else
some (r4.1,(0:Int))
else
(qPe a1.1 r3).bind fun r8=>
if (not r8.1)=true then
some ([],(22:Int))
else
some (r3,(0:Int))):=CE
noncomputable def vO:FN:={f:=21,cuts:=[⟨(4,3),[0,1,5],false,false,[],[],[]⟩],tab:=[],fm:=⟨true,[.val .bool []]⟩}
noncomputable def qXe (a0:List Int) (a1:List Int):Option (Bool):=vO.call [(.sl (.int .i64) false a0),(.sl (.int .i64) false a1)] []
noncomputable def qLd (v0:List Int) (v1:List Int) (v5:Int):Option (Bool):=vO.sem ⟨[.code (cIn (cIn (qaa (qEa (qaa (qaa (qda wg 21))))))), .inLoop (cIn (cIn (qaa (qEa (qaa (qaa (qda wg 21))))))), .inBlock 0, .code (qaa (qaa (qaa (qda wg 21))))],⟨[(0,(.one (.sl (.int .i64) false v0))),(1,(.one (.sl (.int .i64) false v1))),(5,(.one (.int .i64 v5)))],[],8⟩⟩
theorem qIl (a0:List Int) (a1:List Int):qXe a0 a1=(
if ((wi (we a0)) != (wi (we a1)))=true then
some (false)
else
qLd a0 a1 (0:Int)):=CE
theorem qWe (v0:List Int) (v1:List Int) (v5:Int):qLd v0 v1 v5=(
letI c:=(wi (we v0))
if (decide (v5<c))=true then
gd (0≤v5)<|
gd (v5<c)<|
gd (0≤v5)<|
gd (v5<(wi (we v1)))<|
if ((wm v0 (wo v5) (0:Int)) != (wm v1 (wo v5) (0:Int)))=true then
some (false)
else
qLd v0 v1 (wd .i64 (v5+(1:Int)))
else
some (true)):=SE
noncomputable def vbb:FN:={f:=4,cuts:=[],tab:=[SS vPb,SS vzb,SS vVb,SS vqc,SS vO],fm:=⟨true,[.val .bool []]⟩}
noncomputable def qMg:Option (Bool):=vbb.call [] []
theorem qSn:qMg=(
(qkh (1:Int) (0:Int) (0:Int) [(5:Int)]).bind fun r1=>
(qtm r1.1).bind fun r2=>
(qoo (wM r2.1.2.2 (wea r2.1.2.1 r2.1.1))).bind fun r3=>
(qGl (1:Int) r1.1).bind fun r4=>
if (r1.2==(0:Int))=true then
if (r2.2==(0:Int))=true then
if (r3.2==(0:Int))=true then
(qXe r3.1 [(0:Int)]).bind fun r5=>
if r5=true then
if (r4.2==(0:Int))=true then
some ((wW (qFk r4.1))==(wW (qFk [(5:Int)])))
else
some (false)
else
some (false)
else
some (false)
else
some (false)
else
some (false)):=CE
noncomputable def vRa:FN:={f:=22,cuts:=[],tab:=[],fm:=⟨true,[.val .bool []]⟩}
noncomputable def qzk (a0:Int):Option (Bool):=vRa.call [(.int .i64 a0)] []
theorem qWn (a0:Int):qzk a0=(
if (decide (a0≥(16:Int)))=true then
some (decide (a0≤(4096:Int)))
else
some (false)):=CE
noncomputable def vNa:FN:={f:=5,cuts:=[],tab:=[SS vRa],fm:=⟨true,[.val (.int .i64) []]⟩}
noncomputable def qOg (a0:qpa):Option (Int):=vNa.call [(.agg T_api_Settings (inj false T_api_Settings a0))] []
theorem qVn (a0:qpa):qOg a0=(
if (decide (a0.1<(0:Int)))=true then
some (2:Int)
else
if (decide (a0.1>(7:Int)))=true then
some (2:Int)
else
(qzk a0.2.1).bind fun r1=>
if (not r1)=true then
some (2:Int)
else
some (0:Int)):=CE
noncomputable def vda:FN:={f:=52,cuts:=[⟨(2,3),[0,3],false,false,[],[],[]⟩],tab:=[],fm:=⟨true,[.val .bool []]⟩}
noncomputable def que (a0:List qfa):Option (Bool):=vda.call [(.sl T_api_Member false a0)] []
noncomputable def qOb (v0:List qfa) (v3:Int):Option (Bool):=vda.sem ⟨[.code (cIn (cIn (qaa (qEa (qaa (qda wg 52)))))), .inLoop (cIn (cIn (qaa (qEa (qaa (qda wg 52)))))), .inBlock 0, .code (qaa (qaa (qda wg 52)))],⟨[(0,(.one (.sl T_api_Member false v0))),(3,(.one (.int .i64 v3)))],[],8⟩⟩
theorem qXn (a0:List qfa):que a0=(
qOb a0 (0:Int)):=CE
theorem qWf (v0:List qfa) (v3:Int):qOb v0 v3=(
letI c:=(wi (we v0))
letI g:=(decide (c>(30:Int)))
if (decide (v3<c))=true then
if (decide (v3≤(30:Int)))=true then
gd (0≤v3)<|
gd (v3<c)<|
letI e:=(wm v0 (wo v3) (qua T_api_Member))
if (decide ((wi (ByteArray.size e.1))>(100:Int)))=true then
some (true)
else
gd (0≤v3)<|
gd (v3<c)<|
letI d:=(wi (we e.2.1))
if (decide (d>(10000:Int)))=true then
some (true)
else
gd (0≤v3)<|
gd (v3<c)<|
letI f:=(wd .i64 (v3+(1:Int)))
if (decide (d>(600:Int)))=true then
gd (0≤v3)<|
gd (v3<c)<|
if (decide (d<(8000:Int)))=true then
some (true)
else
qOb v0 f
else
qOb v0 f
else
some g
else
some g):=SE
noncomputable def vga:FN:={f:=24,cuts:=[⟨(4,3),[0,3],false,false,[],[],[]⟩],tab:=[],fm:=⟨true,[.val .bool []]⟩}
noncomputable def qnh (a0:ByteArray):Option (Bool):=vga.call [(.str a0)] []
noncomputable def qAd (v0:ByteArray) (v3:Int):Option (Bool):=vga.sem ⟨[.code (cIn (cIn (qaa (qEa (qaa (qaa (qda wg 24))))))), .inLoop (cIn (cIn (qaa (qEa (qaa (qaa (qda wg 24))))))), .inBlock 0, .code (qaa (qaa (qaa (qda wg 24))))],⟨[(0,(.one (.str v0))),(3,(.one (.int .i64 v3)))],[],8⟩⟩
theorem qCo (a0:ByteArray):qnh a0=(
letI c:=(wi (ByteArray.size a0))
if (decide (c<(1:Int)))=true then
some (false)
else
if (decide (c>(40:Int)))=true then
some (false)
else
qAd a0 (0:Int)):=CE
theorem qQg (v0:ByteArray) (v3:Int):qAd v0 v3=(
if (decide (v3<(wi (ByteArray.size v0))))=true then
gd (0≤v3)<|
gd (v3<(v0.size:Int))<|
letI c:=(qzt v0 (wo v3))
if (decide (c<(33:Int)))=true then
some (false)
else
gd (0≤v3)<|
gd (v3<(v0.size:Int))<|
if (decide (c>(126:Int)))=true then
some (false)
else
qAd v0 (wd .i64 (v3+(1:Int)))
else
some (true)):=SE
noncomputable def vd:FN:={f:=7,cuts:=[⟨(5,3),[0,3,4],false,false,[],[],[]⟩,⟨(11,3),[0,5],false,false,[],[],[]⟩,⟨(16,3),[0,6],false,false,[],[],[]⟩,⟨(19,7),[0,6,7],false,false,[],[],[]⟩],tab:=[SS vga],fm:=⟨true,[.val (.int .i64) []]⟩}
noncomputable def qbb (a0:List qfa):Option (Int):=vd.call [(.sl T_api_Member false a0)] []
noncomputable def qnd (v0:List qfa) (v3:Int) (v4:Int):Option (Int):=vd.sem ⟨[.code (cIn (cIn (qaa (qEa (qaa (qaa (qaa (qda wg 7)))))))), .inLoop (cIn (cIn (qaa (qEa (qaa (qaa (qaa (qda wg 7)))))))), .inBlock 0, .code (qaa (qaa (qaa (qaa (qda wg 7)))))],⟨[(0,(.one (.sl T_api_Member false v0))),(3,(.one (.int .i64 v3))),(4,(.one (.int .i64 v4)))],[],8⟩⟩
noncomputable def qmc (v0:List qfa) (v5:Int):Option (Int):=vd.sem ⟨[.code (cIn (cIn (qaa (qEa (qaa (qaa (qaa (qaa (qaa (qda wg 7)))))))))), .inLoop (cIn (cIn (qaa (qEa (qaa (qaa (qaa (qaa (qaa (qda wg 7)))))))))), .inBlock 2, .code (qaa (qaa (qaa (qaa (qaa (qaa (qda wg 7)))))))],⟨[(0,(.one (.sl T_api_Member false v0))),(5,(.one (.int .i64 v5)))],[],8⟩⟩
noncomputable def qPb (v0:List qfa) (v6:Int):Option (Int):=vd.sem ⟨[.code (cIn (cIn (qaa (qEa (qaa (qaa (qaa (qaa (qaa (qaa (qda wg 7))))))))))), .inLoop (cIn (cIn (qaa (qEa (qaa (qaa (qaa (qaa (qaa (qaa (qda wg 7))))))))))), .inBlock 4, .code (qaa (qaa (qaa (qaa (qaa (qaa (qaa (qda wg 7))))))))],⟨[(0,(.one (.sl T_api_Member false v0))),(6,(.one (.int .i64 v6)))],[],8⟩⟩
noncomputable def qmd (v0:List qfa) (v6:Int) (v7:Int):Option (Int):=vd.sem ⟨[.code (cIn (cIn (qaa (cIn (qEa (qaa (cIn (cIn (qaa (qEa (qaa (qaa (qaa (qaa (qaa (qaa (qda wg 7))))))))))))))))), .inLoop (cIn (cIn (qaa (cIn (qEa (qaa (cIn (cIn (qaa (qEa (qaa (qaa (qaa (qaa (qaa (qaa (qda wg 7))))))))))))))))), .inBlock 6, .inBlock 5, .code (qaa (qaa (cIn (cIn (qaa (qEa (qaa (qaa (qaa (qaa (qaa (qaa (qda wg 7))))))))))))), .inLoop (cIn (cIn (qaa (qEa (qaa (qaa (qaa (qaa (qaa (qaa (qda wg 7))))))))))), .inBlock 4, .code (qaa (qaa (qaa (qaa (qaa (qaa (qaa (qda wg 7))))))))],⟨[(0,(.one (.sl T_api_Member false v0))),(6,(.one (.int .i64 v6))),(7,(.one (.int .i64 v7)))],[],8⟩⟩
theorem qYn (a0:List qfa):qbb a0=(
if (decide ((wi (we a0))>(16:Int)))=true then
some (4:Int)
else
qnd a0 (0:Int) (0:Int)):=CE
theorem qag (v0:List qfa) (v3:Int) (v4:Int):qnd v0 v3 v4=(
letI c:=(wi (we v0))
if (decide (v4<c))=true then
gd (0≤v4)<|
gd (v4<c)<|
qnd v0 (wd .i64 (v3+(wi (we (wm v0 (wo v4) (qua T_api_Member)).2.1)))) (wd .i64 (v4+(1:Int)))
else
if (decide (v3>(8192:Int)))=true then
some (4:Int)
else
qmc v0 (0:Int)):=SE
theorem qZf (v0:List qfa) (v5:Int):qmc v0 v5=(
letI c:=(wi (we v0))
if (decide (v5<c))=true then
gd (0≤v5)<|
gd (v5<c)<|
(qnh (wm v0 (wo v5) (qua T_api_Member)).1).bind fun r1=>
if (not r1)=true then
some (8:Int)
else
qmc v0 (wd .i64 (v5+(1:Int)))
else
qPb v0 (0:Int)):=SE
theorem qYf (v0:List qfa) (v6:Int):qPb v0 v6=(
if (decide (v6<(wi (we v0))))=true then
qmd v0 v6 (0:Int)
else
some (0:Int)):=SE
theorem qXf (v0:List qfa) (v6:Int) (v7:Int):qmd v0 v6 v7=(
if (decide (v7<v6))=true then
gd (0≤v7)<|
letI c:=(wi (we v0))
gd (v7<c)<|
gd (0≤v6)<|
gd (v6<c)<|
letI d:=(qua T_api_Member)
if ((wW (wm v0 (wo v7) d).1)==(wW (wm v0 (wo v6) d).1))=true then
some (14:Int)
else
qmd v0 v6 (wd .i64 (v7+(1:Int)))
else
qPb v0 (wd .i64 (v6+(1:Int)))):=SE
noncomputable def vaa:FN:={f:=23,cuts:=[⟨(3,3),[0,3,4],false,false,[],[],[]⟩],tab:=[SS vda,SS vd],fm:=⟨true,[.val .bool []]⟩}
noncomputable def quc (a0:List qfa):Option (Bool):=vaa.call [(.sl T_api_Member false a0)] []
noncomputable def qkd (v0:List qfa) (v3:Int) (v4:Int):Option (Bool):=vaa.sem ⟨[.code (cIn (cIn (qaa (qEa (qaa (qaa (qda wg 23))))))), .inLoop (cIn (cIn (qaa (qEa (qaa (qaa (qda wg 23))))))), .inBlock 0, .code (qaa (qaa (qaa (qda wg 23))))],⟨[(0,(.one (.sl T_api_Member false v0))),(3,(.one (.int .i64 v3))),(4,(.one (.int .i64 v4)))],[],8⟩⟩
theorem qTn (a0:List qfa):quc a0=(
qkd a0 (0:Int) (0:Int)):=CE
theorem qUf (v0:List qfa) (v3:Int) (v4:Int):qkd v0 v3 v4=(
letI g:=(qbb v0)
letI f:=(que v0)
letI d:=(decide (v3≤(80:Int)))
letI c:=(wi (we v0))
letI e:=(decide (c≤(30:Int)))
if (decide (v4<c))=true then
if (decide (v4<(30:Int)))=true then
gd (0≤v4)<|
gd (v4<c)<|
qkd v0 (wd .i64 (v3+(wi (we (wm v0 (wo v4) (qua T_api_Member)).2.1)))) (wd .i64 (v4+(1:Int)))
else
if e=true then
f.bind fun r1=>
if (not r1)=true then
if d=true then
some (true)
else
g.bind fun r2=>
some (r2 != (0:Int))
else
some (false)
else
some (false)
else
if e=true then
f.bind fun r3=>
if (not r3)=true then
if d=true then
some (true)
else
g.bind fun r4=>
some (r4 != (0:Int))
else
some (false)
else
some (false)):=SE
noncomputable def vba:FN:={f:=6,cuts:=[⟨(3,3),[0,1,5,6],false,false,[],[],[]⟩],tab:=[SS vaa,SS vd],fm:=⟨true,[.val .bool []]⟩}
noncomputable def qNg (a0:Int) (a1:List qfa):Option (Bool):=vba.call [(.int .i64 a0),(.sl T_api_Member false a1)] []
noncomputable def qld (v0:Int) (v1:List qfa) (v5:Int) (v6:Int):Option (Bool):=vba.sem ⟨[.code (cIn (cIn (qaa (qEa (qaa (qaa (qda wg 6))))))), .inLoop (cIn (cIn (qaa (qEa (qaa (qaa (qda wg 6))))))), .inBlock 0, .code (qaa (qaa (qaa (qda wg 6))))],⟨[(0,(.one (.int .i64 v0))),(1,(.one (.sl T_api_Member false v1))),(5,(.one (.int .i64 v5))),(6,(.one (.int .i64 v6)))],[],8⟩⟩
theorem qUn (a0:Int) (a1:List qfa):qNg a0 a1=(
qld a0 a1 (0:Int) (0:Int)):=CE
theorem qVf (v0:Int) (v1:List qfa) (v5:Int) (v6:Int):qld v0 v1 v5 v6=(
letI i:=(qbb v1)
letI g:=(quc v1)
letI f:=(decide (v0>(7:Int)))
letI e:=(decide (v0≤(2:Int)))
letI d:=(decide (v5≤(24:Int)))
letI c:=(wi (we v1))
if (decide (v6<c))=true then
if (decide (v6<(30:Int)))=true then
gd (0≤v6)<|
gd (v6<c)<|
qld v0 v1 (wd .i64 (v5+(wi (we (wm v1 (wo v6) (qua T_api_Member)).2.1)))) (wd .i64 (v6+(1:Int)))
else
g.bind fun r1=>
if r1=true then
if e=true then
some (true)
else
if f=true then
some (true)
else
if d=true then
some (true)
else
i.bind fun r2=>
some (r2 != (0:Int))
else
some (false)
else
g.bind fun r3=>
if r3=true then
if e=true then
some (true)
else
if f=true then
some (true)
else
if d=true then
some (true)
else
i.bind fun r4=>
some (r4 != (0:Int))
else
some (false)):=SE
noncomputable def vja:FN:={f:=53,cuts:=[⟨(2,3),[0,5,6],false,false,[],[],[]⟩],tab:=[],fm:=⟨true,[.val .bool []]⟩}
noncomputable def qqi (a0:ByteArray):Option (Bool):=vja.call [(.str a0)] []
noncomputable def qBf (v0:ByteArray) (v5:Int) (v6:Int):Option (Bool):=vja.sem ⟨[.code (cIn (cIn (qaa (qEa (qaa (qda wg 53)))))), .inLoop (cIn (cIn (qaa (qEa (qaa (qda wg 53)))))), .inBlock 0, .code (qaa (qaa (qda wg 53)))],⟨[(0,(.one (.str v0))),(5,(.one (.int .i64 v5))),(6,(.one (.int .i64 v6)))],[],8⟩⟩
theorem qRs (a0:ByteArray):qqi a0=(
qBf a0 (wi (ByteArray.size a0)) (0:Int)):=CE
theorem qcj (v0:ByteArray) (v5:Int) (v6:Int):qBf v0 v5 v6=(
if (decide (v6<v5))=true then
gd (0≤v6)<|
gd (v6<(v0.size:Int))<|
letI d:=(qzt v0 (wo v6))
if (decide (d≤(32:Int)))=true then
some (false)
else
gd (0≤v6)<|
gd (v6<(v0.size:Int))<|
if (decide (d>(126:Int)))=true then
some (false)
else
qBf v0 v5 (wd .i64 (v6+(1:Int)))
else
letI c:=(wi (ByteArray.size v0))
if (decide (c>(0:Int)))=true then
some (decide (c≤(40:Int)))
else
some (false)):=SE
noncomputable def vsa:FN:={f:=54,cuts:=[⟨(3,3),[3,7,8,9],false,false,[],[],[]⟩],tab:=[],fm:=⟨true,[.val .bool []]⟩}
noncomputable def qZj (a0:List ByteArray):Option (Bool):=vsa.call [(.sl .str false a0)] []
noncomputable def qsg (v7:List ByteArray) (v8:Int) (v9:Int) (m8:List (ByteArray×Bool)):Option (Bool):=vsa.sem ⟨[.code (cIn (cIn (qaa (qEa (qaa (qaa (qda wg 54))))))), .inLoop (cIn (cIn (qaa (qEa (qaa (qaa (qda wg 54))))))), .inBlock 0, .code (qaa (qaa (qaa (qda wg 54))))],⟨[(3,(.one (.mapr 8))),(7,(.one (.sl .str false v7))),(8,(.one (.int .i64 v8))),(9,(.one (.int .i64 v9)))],[(8,some (.map .str .bool m8))],9⟩⟩
theorem qVu (a0:List ByteArray):qZj a0=(
qsg a0 (wi (we a0)) (0:Int) []):=CE
theorem qYj (v7:List ByteArray) (v8:Int) (v9:Int) (m8:List (ByteArray×Bool)):qsg v7 v8 v9 m8=(
if (decide (v9<v8))=true then
gd (0≤v9)<|
gd (v9<(wi (we v7)))<|
letI c:=(wm v7 (wo v9) wD)
if (Option.getD (qPs (peq .str) c m8) false)=true then
some (true)
else
qsg v7 v8 (wd .i64 (v9+(1:Int))) (qVA (peq .str) c true m8)
else
some (false)):=SE
noncomputable def vya:FN:={f:=25,cuts:=[⟨(5,3),[0,3,4,5,8,9,10],false,false,[],[],[]⟩],tab:=[SS vja,SS vsa],fm:=⟨true,[.val (.int .i64) []]⟩}
noncomputable def qfk (a0:List qfa):Option (Int):=vya.call [(.sl T_api_Member false a0)] []
noncomputable def qMe (v0:List qfa) (v3:Int) (v4:Bool) (v8:List qfa) (v9:Int) (v10:Int) (h8:List ByteArray):Option (Int):=vya.sem ⟨[.code (cIn (cIn (qaa (qEa (qaa (qaa (qaa (qaa (qda wg 25))))))))), .inLoop (cIn (cIn (qaa (qEa (qaa (qaa (qaa (qaa (qda wg 25))))))))), .inBlock 0, .code (qaa (qaa (qaa (qaa (qaa (qda wg 25))))))],⟨[(0,(.one (.sl T_api_Member false v0))),(3,(.one (.int .i64 v3))),(4,(.one (.bool v4))),(5,(.one (.ref .str 8 0 (we h8) true))),(8,(.one (.sl T_api_Member false v8))),(9,(.one (.int .i64 v9))),(10,(.one (.int .i64 v10)))],[(8,some (.row .str true h8))],9⟩⟩
theorem qZu (a0:List qfa):qfk a0=(
qMe a0 (0:Int) false a0 (wi (we a0)) (0:Int) []):=CE
theorem qek (v0:List qfa) (v3:Int) (v4:Bool) (v8:List qfa) (v9:Int) (v10:Int) (h8:List ByteArray):qMe v0 v3 v4 v8 v9 v10 h8=(
if (decide (v10<v9))=true then
gd (0≤v10)<|
gd (v10<(wi (we v8)))<|
letI e:=(wd .i64 (v10+(1:Int)))
letI c:=(wm v8 (wo v10) (qua T_api_Member))
letI f:=(we (h8++[c.1]))
letI d:=(wd .i64 (v3+(wi (we c.2.1))))
if v4=true then
gd (f*16≤140737488355328)<|
qMe v0 d true v8 v9 e (h8++[c.1])
else
(qqi c.1).bind fun r1=>
gd (f*16≤140737488355328)<|
qMe v0 d (not r1) v8 v9 e (h8++[c.1])
else
if (decide ((wi (we v0))>(16:Int)))=true then
some (4:Int)
else
if (decide (v3>(8192:Int)))=true then
some (4:Int)
else
if v4=true then
some (8:Int)
else
(qZj h8).bind fun r2=>
if r2=true then
some (14:Int)
else
some (0:Int)):=SE
noncomputable def vgc:FN:={f:=86,cuts:=[],tab:=[],fm:=⟨true,[.val .bool []]⟩}
noncomputable def qVp (a0:Int):Option (Bool):=vgc.call [(.int .i64 a0)] []
theorem qFs (a0:Int):qVp a0=(
some (decide (a0<(0:Int)))):=CE
noncomputable def vx:FN:={f:=115,cuts:=[⟨(2,3),[0,1,7,8],false,false,[],[],[]⟩],tab:=[SS vgc],fm:=⟨true,[.val (.int .i64) []]⟩}
noncomputable def qJc (a0:List Int):Option (Int):=vx.call [(.sl (.int .i64) false a0),(.func 86 [])] []
noncomputable def qxb (v0:List Int) (v7:Int) (v8:Int):Option (Int):=vx.sem ⟨[.code (cIn (cIn (qaa (qEa (qaa (qda wg 115)))))), .inLoop (cIn (cIn (qaa (qEa (qaa (qda wg 115)))))), .inBlock 0, .code (qaa (qaa (qda wg 115)))],⟨[(0,(.one (.sl (.int .i64) false v0))),(1,(.one (.func 86 []))),(7,(.one (.int .i64 v7))),(8,(.one (.int .i64 v8)))],[],8⟩⟩
theorem qDh (a0:List Int):qJc a0=(
qxb a0 (wi (we a0)) (0:Int)):=CE
theorem qfd (v0:List Int) (v7:Int) (v8:Int):qxb v0 v7 v8=(
if (decide (v8<v7))=true then
gd (0≤v8)<|
gd (v8<(wi (we v0)))<|
(qVp (wm v0 (wo v8) (0:Int))).bind fun r1=>
if r1=true then
some (v8)
else
qxb v0 v7 (wd .i64 (v8+(1:Int)))
else
some (-1:Int)):=SE
noncomputable def vK:FN:={f:=85,cuts:=[],tab:=[SS vx],fm:=⟨true,[.val .bool []]⟩}
noncomputable def qQd (a0:List Int):Option (Bool):=vK.call [(.sl (.int .i64) false a0),(.func 86 [])] []
theorem qmg (a0:List Int):qQd a0=(
(qJc a0).bind fun r1=>
some (decide (r1≥(0:Int)))):=CE
noncomputable def vxb:FN:={f:=55,cuts:=[⟨(7,3),[3,11,12,13],false,false,[],[],[]⟩],tab:=[SS vK],fm:=⟨true,[.val (.int .i64) []]⟩}
noncomputable def qhp (a0:List Int):Option (Int):=vxb.call [(.sl (.int .i64) false a0)] []
noncomputable def qoh (v3:Int) (v11:List Int) (v12:Int) (v13:Int):Option (Int):=vxb.sem ⟨[.code (cIn (cIn (qaa (qEa (qaa (qaa (qaa (qaa (qda wg 55))))))))), .inLoop (cIn (cIn (qaa (qEa (qaa (qaa (qaa (qaa (qda wg 55))))))))), .inBlock 0, .code (qaa (qaa (qaa (qaa (qaa (qda wg 55))))))],⟨[(3,(.one (.int .i64 v3))),(11,(.one (.sl (.int .i64) false v11))),(12,(.one (.int .i64 v12))),(13,(.one (.int .i64 v13)))],[],8⟩⟩
theorem qBw (a0:List Int):qhp a0=(
(qQd a0).bind fun r1=>
if r1=true then
some (8:Int)
else
letI c:=(wi (we a0))
if (decide (c>(16:Int)))=true then
some (4:Int)
else
qoh (0:Int) a0 c (0:Int)):=CE
theorem qel (v3:Int) (v11:List Int) (v12:Int) (v13:Int):qoh v3 v11 v12 v13=(
if (decide (v13<v12))=true then
gd (0≤v13)<|
gd (v13<(wi (we v11)))<|
letI d:=(wm v11 (wo v13) (0:Int))
letI c:=(wd .i64 (v3+(if (8193:Int)<d then (8193:Int) else d)))
if (decide (c>(8192:Int)))=true then
some (4:Int)
else
qoh c v11 v12 (wd .i64 (v13+(1:Int)))
else
some (0:Int)):=SE
noncomputable def vpa:FN:={f:=26,cuts:=[⟨(8,3),[1,7,22,23,24],false,false,[],[],[]⟩,⟨(11,7),[1,7,8,9,10,22,23,24],false,false,[],[],[]⟩],tab:=[SS vxb],fm:=⟨true,[.val (.slice qia) [.nw], .val (.int .i64) []]⟩}
noncomputable def qJj (a0:List Int) (a1:Int):Option (List qea×Int):=vpa.call [(.sl (.int .i64) false a0),(.int .i64 a1)] []
noncomputable def qye (v1:Int) (v22:List Int) (v23:Int) (v24:Int) (h8:List qea):Option (List qea×Int):=vpa.sem ⟨[.code (cIn (cIn (qaa (qEa (qaa (qaa (qaa (qaa (qda wg 26))))))))), .inLoop (cIn (cIn (qaa (qEa (qaa (qaa (qaa (qaa (qda wg 26))))))))), .inBlock 0, .code (qaa (qaa (qaa (qaa (qaa (qda wg 26))))))],⟨[(1,(.one (.int .i64 v1))),(7,(.one (.ref qia 8 0 (we h8) true))),(22,(.one (.sl (.int .i64) false v22))),(23,(.one (.int .i64 v23))),(24,(.one (.int .i64 v24)))],[(8,some (.row qia true h8))],9⟩⟩
noncomputable def qig (v1:Int) (v8:Int) (v9:Int) (v10:Int) (v22:List Int) (v23:Int) (v24:Int) (h8:List qea):Option (List qea×Int):=vpa.sem ⟨[.code (cIn (cIn (qaa (qaa (cIn (qEa (qaa (qaa (cIn (cIn (qaa (qEa (qaa (qaa (qaa (qaa (qda wg 26))))))))))))))))), .inLoop (cIn (cIn (qaa (qaa (cIn (qEa (qaa (qaa (cIn (cIn (qaa (qEa (qaa (qaa (qaa (qaa (qda wg 26))))))))))))))))), .inBlock 2, .inBlock 1, .code (qaa (qaa (qaa (cIn (cIn (qaa (qEa (qaa (qaa (qaa (qaa (qda wg 26)))))))))))), .inLoop (cIn (cIn (qaa (qEa (qaa (qaa (qaa (qaa (qda wg 26))))))))), .inBlock 0, .code (qaa (qaa (qaa (qaa (qaa (qda wg 26))))))],⟨[(1,(.one (.int .i64 v1))),(7,(.one (.ref qia 8 0 (we h8) true))),(8,(.one (.int .i64 v8))),(9,(.one (.int .i64 v9))),(10,(.one (.int .i64 v10))),(22,(.one (.sl (.int .i64) false v22))),(23,(.one (.int .i64 v23))),(24,(.one (.int .i64 v24)))],[(8,some (.row qia true h8))],9⟩⟩
theorem qRt (a0:List Int) (a1:Int):qJj a0 a1=(
(qhp a0).bind fun r1=>
if (r1 != (0:Int))=true then
some ([],r1)
else
if (decide (a1<(16:Int)))=true then
some ([],(2:Int))
else
if (decide (a1>(4096:Int)))=true then
some ([],(2:Int))
else
qye a1 a0 (wi (we a0)) (0:Int) []):=CE
theorem qIj (v1:Int) (v22:List Int) (v23:Int) (v24:Int) (h8:List qea):qye v1 v22 v23 v24 h8=(
if (decide (v24<v23))=true then
gd (0≤v24)<|
gd (v24<(wi (we v22)))<|
qig v1 v24 (wm v22 (wo v24) (0:Int)) (0:Int) v22 v23 v24 h8
else
some (h8,(0:Int))):=SE
theorem qHj (v1:Int) (v8:Int) (v9:Int) (v10:Int) (v22:List Int) (v23:Int) (v24:Int) (h8:List qea):qig v1 v8 v9 v10 v22 v23 v24 h8=(
if (decide (v10<v9))=true then
letI c:=(wd .i64 (v9 - v10))
gd ((we (h8++[(v8,(v10,((if v1<c then v1 else c),())))]))*24≤140737488355328)<|
qig v1 v8 v9 (wd .i64 (v10+v1)) v22 v23 v24 (h8++[(v8,(v10,((if v1<c then v1 else c),())))])
else
qye v1 v22 v23 (wd .i64 (v24+(1:Int))) h8):=SE
noncomputable def vpb:FN:={f:=8,cuts:=[⟨(6,3),[0,1,7,20,21,22],false,false,[],[],[]⟩,⟨(15,3),[0,12,42,43,44],false,false,[],[],[]⟩],tab:=[SS vya,SS vpa,SS vQ],fm:=⟨true,[.val (.slice qGa) [.nw], .val (.int .i64) []]⟩}
noncomputable def qSt (a0:List qfa) (a1:Int):Option (List qja×Int):=vpb.call [(.sl T_api_Member false a0),(.int .i64 a1)] []
noncomputable def qKj (v0:List qfa) (v1:Int) (v20:List qfa) (v21:Int) (v22:Int) (h8:List Int):Option (List qja×Int):=vpb.sem ⟨[.code (cIn (cIn (qaa (qEa (qaa (qaa (qaa (qda wg 8)))))))), .inLoop (cIn (cIn (qaa (qEa (qaa (qaa (qaa (qda wg 8)))))))), .inBlock 0, .code (qaa (qaa (qaa (qaa (qda wg 8)))))],⟨[(0,(.one (.sl T_api_Member false v0))),(1,(.one (.int .i64 v1))),(7,(.one (.ref (.int .i64) 8 0 (we h8) true))),(20,(.one (.sl T_api_Member false v20))),(21,(.one (.int .i64 v21))),(22,(.one (.int .i64 v22)))],[(8,some (.row (.int .i64) true h8))],9⟩⟩
noncomputable def qCh (v0:List qfa) (v43:Int) (v44:Int) (h8:List qja) (h9:List qea):Option (List qja×Int):=vpb.sem ⟨[.code (cIn (cIn (qaa (qEa (qaa (qaa (qaa (qaa (qaa (qaa (qaa (qda wg 8)))))))))))), .inLoop (cIn (cIn (qaa (qEa (qaa (qaa (qaa (qaa (qaa (qaa (qaa (qda wg 8)))))))))))), .inBlock 2, .code (qaa (qaa (qaa (qaa (qaa (qaa (qaa (qaa (qda wg 8)))))))))],⟨[(0,(.one (.sl T_api_Member false v0))),(12,(.one (.ref qGa 8 0 (we h8) true))),(42,(.one (.ref qia 9 0 (we h9) true))),(43,(.one (.int .i64 v43))),(44,(.one (.int .i64 v44)))],[(8,some (.row qGa true h8)),(9,some (.row qia true h9))],10⟩⟩
theorem qnA (a0:List qfa) (a1:Int):qSt a0 a1=(
(qfk a0).bind fun r1=>
if (r1 != (0:Int))=true then
some ([],r1)
else
qKj a0 a1 a0 (wi (we a0)) (0:Int) []):=CE
theorem qYm (v0:List qfa) (v1:Int) (v20:List qfa) (v21:Int) (v22:Int) (h8:List Int):qKj v0 v1 v20 v21 v22 h8=(
if (decide (v22<v21))=true then
gd (0≤v22)<|
gd (v22<(wi (we v20)))<|
letI c:=(h8++[(wi (we (wm v20 (wo v22) (qua T_api_Member)).2.1))])
gd ((we c)*8≤140737488355328)<|
qKj v0 v1 v20 v21 (wd .i64 (v22+(1:Int))) c
else
(qJj h8 v1).bind fun r2=>
if (r2.2 != (0:Int))=true then
some ([],r2.2)
else
qCh v0 (wi (we r2.1)) (0:Int) [] r2.1):=SE
theorem qXm (v0:List qfa) (v43:Int) (v44:Int) (h8:List qja) (h9:List qea):qCh v0 v43 v44 h8 h9=(
if (decide (v44<v43))=true then
gd (0≤v44)<|
gd (v44<(wi (we h9)))<|
letI c:=(wm h9 (0+(wo v44)) (qua qia))
gd (0≤c.1)<|
gd (c.1<(wi (we v0)))<|
gd (0≤c.2.1)<|
letI d:=(wm v0 (wo c.1) (qua T_api_Member))
gd (c.2.1≤(wi (we d.2.1)))<|
gd (0≤c.2.2.1)<|
letI e:=(wea (wo c.2.1) d.2.1)
gd (c.2.2.1≤(wi (we e)))<|
(qLf (wM (wo c.2.2.1) e)).bind fun r3=>
gd ((we (h8++[(c,(r3,()))]))*48≤140737488355328)<|
qCh v0 v43 (wd .i64 (v44+(1:Int))) (h8++[(c,(r3,()))]) h9
else
some (h8,(0:Int))):=SE
noncomputable def vPa:FN:={f:=28,cuts:=[],tab:=[SS vKa],fm:=⟨true,[.val (.arr 20 (.int .u8)) []]⟩}
noncomputable def qug (a0:List Int):Option ((List Int)):=vPa.call [(.sl (.int .u8) false a0)] []
theorem qFm (a0:List Int):qug a0=(
(qXt a0).bind fun r1=>
some (r1.1)):=CE
noncomputable def vtc:FN:={f:=9,cuts:=[⟨(6,3),[5,13,14,15],false,false,[],[],[]⟩],tab:=[SS vya,SS vPa],fm:=⟨true,[.val (.slice qra) [.nw], .val (.int .i64) []]⟩}
noncomputable def qYu (a0:List qfa):Option (List qca×Int):=vtc.call [(.sl T_api_Member false a0)] []
noncomputable def qdk (v13:List qfa) (v14:Int) (v15:Int) (h8:List qca):Option (List qca×Int):=vtc.sem ⟨[.code (cIn (cIn (qaa (qEa (qaa (qaa (qaa (qda wg 9)))))))), .inLoop (cIn (cIn (qaa (qEa (qaa (qaa (qaa (qda wg 9)))))))), .inBlock 0, .code (qaa (qaa (qaa (qaa (qda wg 9)))))],⟨[(5,(.one (.ref qra 8 0 (we h8) true))),(13,(.one (.sl T_api_Member false v13))),(14,(.one (.int .i64 v14))),(15,(.one (.int .i64 v15)))],[(8,some (.row qra true h8))],9⟩⟩
theorem qZA (a0:List qfa):qYu a0=(
(qfk a0).bind fun r1=>
if (r1 != (0:Int))=true then
some ([],r1)
else
qdk a0 (wi (we a0)) (0:Int) []):=CE
theorem qsn (v13:List qfa) (v14:Int) (v15:Int) (h8:List qca):qdk v13 v14 v15 h8=(
if (decide (v15<v14))=true then
gd (0≤v15)<|
gd (v15<(wi (we v13)))<|
letI c:=(wm v13 (wo v15) (qua T_api_Member))
(qug c.2.1).bind fun r2=>
letI d:=(wi (we c.2.1))
gd ((we (h8++[(c.1,(d,(r2,())))]))*48≤140737488355328)<|
qdk v13 v14 (wd .i64 (v15+(1:Int))) (h8++[(c.1,(d,(r2,())))])
else
some (h8,(0:Int))):=SE
noncomputable def vY:FN:={f:=29,cuts:=[⟨(6,3),[3,4,10,11,12],false,false,[],[],[]⟩],tab:=[SS vja,SS vPa,SS vsa],fm:=⟨true,[.val (.int .i64) []]⟩}
noncomputable def qLh (a0:List qca):Option (Int):=vY.call [(.sl qra false a0)] []
noncomputable def qLe (v3:Int) (v10:List qca) (v11:Int) (v12:Int) (h8:List ByteArray):Option (Int):=vY.sem ⟨[.code (cIn (cIn (qaa (qEa (qaa (qaa (qaa (qaa (qda wg 29))))))))), .inLoop (cIn (cIn (qaa (qEa (qaa (qaa (qaa (qaa (qda wg 29))))))))), .inBlock 0, .code (qaa (qaa (qaa (qaa (qaa (qda wg 29))))))],⟨[(3,(.one (.int .i64 v3))),(4,(.one (.ref .str 8 0 (we h8) true))),(10,(.one (.sl qra false v10))),(11,(.one (.int .i64 v11))),(12,(.one (.int .i64 v12)))],[(8,some (.row .str true h8))],9⟩⟩
theorem qXu (a0:List qca):qLh a0=(
letI c:=(wi (we a0))
if (decide (c>(16:Int)))=true then
some (4:Int)
else
qLe (0:Int) a0 c (0:Int) []):=CE
theorem qck (v3:Int) (v10:List qca) (v11:Int) (v12:Int) (h8:List ByteArray):qLe v3 v10 v11 v12 h8=(
if (decide (v12<v11))=true then
gd (0≤v12)<|
gd (v12<(wi (we v10)))<|
letI c:=(wm v10 (wo v12) (qua qra))
(qqi c.1).bind fun r1=>
if (not r1)=true then
some (8:Int)
else
if (decide (c.2.1<(0:Int)))=true then
some (8:Int)
else
if (decide (c.2.1>(8192:Int)))=true then
some (8:Int)
else
letI f:=(we (h8++[c.1]))
letI e:=(wd .i64 (v3+c.2.1))
letI d:=(wd .i64 (v12+(1:Int)))
if (c.2.1==(0:Int))=true then
(qug []).bind fun r2=>
if (not (peq (.arr 20 (.int .u8)) c.2.2.1 r2))=true then
some (8:Int)
else
gd (f*16≤140737488355328)<|
qLe e v10 v11 d (h8++[c.1])
else
gd (f*16≤140737488355328)<|
qLe e v10 v11 d (h8++[c.1])
else
if (decide (v3>(8192:Int)))=true then
some (4:Int)
else
(qZj h8).bind fun r3=>
if r3=true then
some (14:Int)
else
some (0:Int)):=SE
noncomputable def vlb:FN:={f:=10,cuts:=[⟨(6,3),[5,13,14,15],false,false,[],[],[]⟩],tab:=[SS vY],fm:=⟨true,[.val (.slice (.int .u8)) [.nw], .val (.int .i64) []]⟩}
noncomputable def qrn (a0:List qca):Option (List Int×Int):=vlb.call [(.sl qra false a0)] []
noncomputable def qvg (v13:List qca) (v14:Int) (v15:Int) (h8:List Int):Option (List Int×Int):=vlb.sem ⟨[.code (cIn (cIn (qaa (qEa (qaa (qaa (qaa (qda wg 10)))))))), .inLoop (cIn (cIn (qaa (qEa (qaa (qaa (qaa (qda wg 10)))))))), .inBlock 0, .code (qaa (qaa (qaa (qaa (qda wg 10)))))],⟨[(5,(.one (.ref (.int .u8) 8 0 (we h8) true))),(13,(.one (.sl qra false v13))),(14,(.one (.int .i64 v14))),(15,(.one (.int .i64 v15)))],[(8,some (.row (.int .u8) true h8))],9⟩⟩
theorem qWu (a0:List qca):qrn a0=(
(qLh a0).bind fun r1=>
if (r1 != (0:Int))=true then
some ([],r1)
else
qvg a0 (wi (we a0)) (0:Int) []):=CE
theorem qbk (v13:List qca) (v14:Int) (v15:Int) (h8:List Int):qvg v13 v14 v15 h8=(
if (decide (v15<v14))=true then
gd (0≤v15)<|
gd (v15<(wi (we v13)))<|
letI c:=(wm v13 (wo v15) (qua qra))
letI e:=(h8++[(wd .u8 (wi (ByteArray.size c.1)))])
gd ((we e)*1≤140737488355328)<|
letI g:=(e++(qZc c.1))
gd ((we g)*1≤140737488355328)<|
gd (0≤(8:Int))<|
letI d:=(g++[(wd .u8 (wV c.2.1 (256:Int))),(wd .u8 c.2.1)])
gd ((we d)*1≤140737488355328)<|
letI f:=(d++(wM 20 (wea 0 c.2.2.1)))
gd ((we f)*1≤140737488355328)<|
qvg v13 v14 (wd .i64 (v15+(1:Int))) f
else
some (h8,(0:Int))):=SE
noncomputable def vVa:FN:={f:=56,cuts:=[],tab:=[],fm:=⟨false,[.val (.slice (.int .u8)) [.pu], .err 30 .i64, .box 0 qHb [.pu]]⟩}
noncomputable def qsc (a1:Int) (b0:qnc):Option (List Int×Option Int×qnc):=vVa.call [(.ptr qRg 0 [.fst]),(.int .i64 a1)] [(0,(.box qHb (inj false qHb b0)))]
theorem qqn (a1:Int) (b0:qnc):qsc a1 b0=(
letI e:=(wi (we b0.1.1))
if (decide ((wd .i64 (e - b0.1.2.1))<a1))=true then
some ([],((some (18:Int)),b0))
else
letI c:=(wd .i64 (b0.1.2.1+a1))
letI d:=(wd .i64 (c - a1))
gd (0≤d)<|
gd (d≤c)<|
gd (c≤e)<|
some ((wM ((wo c) - (wo d)) (wea (wo d) b0.1.1)),(none,((b0.1.1,(c,b0.1.2.2)),b0.2)))):=CE
noncomputable def vDa:FN:={f:=30,cuts:=[],tab:=[(SS vVa).dropping],fm:=⟨false,[.val qra [], .err 30 .i64, .box 0 qHb [.pu]]⟩}
noncomputable def qxd (b0:qnc):Option (qca×Option Int×qnc):=vDa.call [(.ptr qHb 0 [])] [(0,(.box qHb (inj false qHb b0)))]
theorem qtg (b0:qnc):qxd b0=(
(qsc (1:Int) b0).bind fun r1=>
letI g:=(wn 20 (0:Int))
if (not (Option.isNone r1.2.1))=true then
some ((wD,((0:Int),(g,()))),r1.2)
else
gd (0≤(0:Int))<|
letI i:=(wi (we r1.1))
gd ((0:Int)<i)<|
letI c:=(wd .i64 (wm r1.1 0 (0:Int)))
(qsc (wd .i64 (c+(22:Int))) r1.2.2).bind fun r2=>
if (not (Option.isNone r2.2.1))=true then
some ((wD,((0:Int),(g,()))),r2.2)
else
gd (0≤(0:Int))<|
gd ((0:Int)<i)<|
gd (0≤c)<|
letI e:=(wi (we r2.1))
gd (c≤e)<|
gd (0≤c)<|
gd (c<e)<|
gd (0≤(8:Int))<|
letI f:=(wd .i64 (c+(1:Int)))
gd (0≤f)<|
gd (f<e)<|
letI d:=(wd .i64 (c+(2:Int)))
gd (0≤d)<|
gd (d≤e)<|
letI j:=(wea (wo d) r2.1)
some (((qFk (wM (wo c) r2.1)),((qgc .i64 (wd .i64 ((wd .i64 (wm r2.1 (wo c) (0:Int)))*(256:Int))) (wd .i64 (wm r2.1 (wo f) (0:Int)))),((qwb g 0 (wM (min (we j) 20) j)),()))),(none,r2.2.2))):=CE
noncomputable def vHb:FN:={f:=11,cuts:=[⟨(8,3),[7,8,27,28],false,false,[],[],[]⟩],tab:=[(SS vDa).dropping,qmD (fun _=>true),SS vY],fm:=⟨true,[.val (.slice qra) [.nw], .val (.int .i64) [], .val (.int .i64) []]⟩}
noncomputable def qxp (a0:List Int) (a1:Int):Option (List qca×Int×Int):=vHb.call [(.sl (.int .u8) false a0),(.int .i64 a1)] []
noncomputable def qth (v27:Int) (v28:Int) (b8:qnc) (h9:List qca):Option (List qca×Int×Int):=vHb.sem ⟨[.code (cIn (cIn (qaa (qEa (qaa (qaa (qaa (qaa (qda wg 11))))))))), .inLoop (cIn (cIn (qaa (qEa (qaa (qaa (qaa (qaa (qda wg 11))))))))), .inBlock 1, .code (qaa (qaa (qaa (qaa (qaa (qda wg 11))))))],⟨[(7,(.one (.ptr qHb 8 []))),(8,(.one (.ref qra 9 0 (we h9) true))),(27,(.one (.int .i64 v27))),(28,(.one (.int .i64 v28)))],[(8,some (.box qHb (inj false qHb b8))),(9,some (.row qra true h9))],10⟩⟩
theorem qUw (a0:List Int) (a1:Int):qxp a0 a1=(
if (decide (a1<(0:Int)))=true then
some ([],((0:Int),(2:Int)))
else
if (decide (a1>(16:Int)))=true then
some ([],((0:Int),(2:Int)))
else
if (decide ((wi (we a0))>(50000:Int)))=true then
some ([],((0:Int),(4:Int)))
else
qth a1 (0:Int) ((a0,((0:Int),())),()) []):=CE
theorem qql (v27:Int) (v28:Int) (b8:qnc) (h9:List qca):qth v27 v28 b8 h9=(
if (decide (v28<v27))=true then
(qxd b8).bind fun r1=>
(qxl r1.2.1 (0:Int)).bind fun r2=>
if r2.1=true then
some ([],((0:Int),r2.2))
else
gd ((we (h9++[r1.1]))*48≤140737488355328)<|
qth v27 (wd .i64 (v28+(1:Int))) r1.2.2 (h9++[r1.1])
else
(qLh h9).bind fun r3=>
if (r3 != (0:Int))=true then
some ([],((0:Int),(12:Int)))
else
some (h9,(b8.1.2.1,(0:Int)))):=SE
noncomputable def via:FN:={f:=12,cuts:=[⟨(4,3),[0,1,5],false,false,[],[],[]⟩],tab:=[],fm:=⟨true,[.val .bool []]⟩}
noncomputable def qmh (a0:List qca) (a1:List qca):Option (Bool):=via.call [(.sl qra false a0),(.sl qra false a1)] []
noncomputable def qzd (v0:List qca) (v1:List qca) (v5:Int):Option (Bool):=via.sem ⟨[.code (cIn (cIn (qaa (qEa (qaa (qaa (qda wg 12))))))), .inLoop (cIn (cIn (qaa (qEa (qaa (qaa (qda wg 12))))))), .inBlock 0, .code (qaa (qaa (qaa (qda wg 12))))],⟨[(0,(.one (.sl qra false v0))),(1,(.one (.sl qra false v1))),(5,(.one (.int .i64 v5)))],[],8⟩⟩
theorem qBo (a0:List qca) (a1:List qca):qmh a0 a1=(
if ((wi (we a0)) != (wi (we a1)))=true then
some (false)
else
qzd a0 a1 (0:Int)):=CE
theorem qPg (v0:List qca) (v1:List qca) (v5:Int):qzd v0 v1 v5=(
letI c:=(wi (we v0))
if (decide (v5<c))=true then
gd (0≤v5)<|
gd (v5<c)<|
gd (0≤v5)<|
gd (v5<(wi (we v1)))<|
letI d:=(qua qra)
if (not (peq qra (wm v0 (wo v5) d) (wm v1 (wo v5) d)))=true then
some (false)
else
qzd v0 v1 (wd .i64 (v5+(1:Int)))
else
some (true)):=SE
noncomputable def vMb:FN:={f:=70,cuts:=[],tab:=[SS vvb],fm:=⟨true,[.val .bool []]⟩}
noncomputable def qtj (a0:List Int) (a1:List Int):Option (Bool):=vMb.call [(.sl (.int .u8) false a0),(.sl (.int .u8) false a1)] []
theorem qyk (a0:List Int) (a1:List Int):qtj a0 a1=(
letI e:=(we a1)
letI d:=(wi (we a0))
letI c:=(wi e)
if (decide (d≥c))=true then
gd (0≤c)<|
gd (c≤d)<|
(qsm (wM e a0) a1).bind fun r1=>
some (r1)
else
some (false)):=CE
noncomputable def vrc:FN:={f:=40,cuts:=[],tab:=[SS vza,SS vra,SS vMb],fm:=⟨true,[.val .bool [], .val (.int .i64) []]⟩}
noncomputable def qvn (a0:List Int) (a1:Int):Option (Bool×Int):=vrc.call [(.sl (.int .u8) false a0),(.int .i64 a1)] []
theorem qms (a0:List Int) (a1:Int):qvn a0 a1=(
(qNe a0 a1).bind fun r1=>
if (r1 != (0:Int))=true then
some (false,r1)
else
gd (0≤a1)<|
gd (a1≤(wi (we a0)))<|
(qMh).bind fun r2=>
(qtj (wea (wo a1) a0) r2).bind fun r3=>
some (r3,(0:Int))):=CE
noncomputable def vX:FN:={f:=42,cuts:=[⟨(5,3),[0,2,4,12,13],false,false,[],[],[]⟩,⟨(8,7),[0,2,4,5,12,13,17,18],false,false,[],[],[]⟩],tab:=[SS vy],fm:=⟨true,[.val qAa [], .val (.int .i64) []]⟩}
noncomputable def qPh (a0:List Int):Option (qla×Int):=vX.call [(.sl (.int .u8) false a0)] []
noncomputable def qMc (v0:List Int) (v12:(List Int)) (v13:Int) (b8:qla) (b9:(List Int)):Option (qla×Int):=vX.sem ⟨[.code (cIn (cIn (qaa (qEa (qaa (qaa (qaa (qda wg 42)))))))), .inLoop (cIn (cIn (qaa (qEa (qaa (qaa (qaa (qda wg 42)))))))), .inBlock 0, .code (qaa (qaa (qaa (qaa (qda wg 42)))))],⟨[(0,(.one (.sl (.int .u8) false v0))),(2,(.one (.ptr qAa 8 []))),(4,(.one (.ptr (.arr 5 (.int .i64)) 9 []))),(12,(.one (.agg (.arr 5 (.int .i64)) v12))),(13,(.one (.int .i64 v13)))],[(8,some (.box qAa (inj false qAa b8))),(9,some (.box (.arr 5 (.int .i64)) b9))],10⟩⟩
noncomputable def qQe (v0:List Int) (v5:Int) (v12:(List Int)) (v13:Int) (v17:Int) (v18:Int) (b8:qla) (b9:(List Int)):Option (qla×Int):=vX.sem ⟨[.code (cIn (cIn (qaa (qaa (cIn (qEa (qaa (qaa (cIn (cIn (qaa (qEa (qaa (qaa (qaa (qda wg 42)))))))))))))))), .inLoop (cIn (cIn (qaa (qaa (cIn (qEa (qaa (qaa (cIn (cIn (qaa (qEa (qaa (qaa (qaa (qda wg 42)))))))))))))))), .inBlock 2, .inBlock 1, .code (qaa (qaa (qaa (cIn (cIn (qaa (qEa (qaa (qaa (qaa (qda wg 42))))))))))), .inLoop (cIn (cIn (qaa (qEa (qaa (qaa (qaa (qda wg 42)))))))), .inBlock 0, .code (qaa (qaa (qaa (qaa (qda wg 42)))))],⟨[(0,(.one (.sl (.int .u8) false v0))),(2,(.one (.ptr qAa 8 []))),(4,(.one (.ptr (.arr 5 (.int .i64)) 9 []))),(5,(.one (.int .i64 v5))),(12,(.one (.agg (.arr 5 (.int .i64)) v12))),(13,(.one (.int .i64 v13))),(17,(.one (.int .i64 v17))),(18,(.one (.int .i64 v18)))],[(8,some (.box qAa (inj false qAa b8))),(9,some (.box (.arr 5 (.int .i64)) b9))],10⟩⟩
theorem qrv (a0:List Int):qPh a0=(
letI c:=(wn 20 (0:Int))
if ((wi (we a0)) != (28:Int))=true then
some (((0:Int),((0:Int),((0:Int),((0:Int),((0:Int),(c,())))))),(12:Int))
else
qMc a0 G_widths (0:Int) ((0:Int),((0:Int),((0:Int),((0:Int),((0:Int),(c,())))))) (wn 5 (0:Int))):=CE
theorem qCg (v0:List Int) (v12:(List Int)) (v13:Int) (b8:qla) (b9:(List Int)):qMc v0 v12 v13 b8 b9=(
if (decide (v13<(5:Int)))=true then
gd (0≤v13)<|
gd (v13<(5:Int))<|
qQe v0 v13 v12 v13 (wm v12 (wo v13) (0:Int)) (0:Int) b8 b9
else
gd (0≤(0:Int))<|
gd ((0:Int)<(5:Int))<|
gd (0≤(1:Int))<|
gd ((1:Int)<(5:Int))<|
gd (0≤(2:Int))<|
gd ((2:Int)<(5:Int))<|
gd (0≤(3:Int))<|
gd ((3:Int)<(5:Int))<|
gd (0≤(4:Int))<|
gd ((4:Int)<(5:Int))<|
letI j:=(wm b9 4 (0:Int))
letI i:=(wm b9 3 (0:Int))
letI g:=(wm b9 2 (0:Int))
letI f:=(wm b9 1 (0:Int))
letI e:=(wn 20 (0:Int))
letI d:=(wd .u8 (wm b9 0 (0:Int)))
letI c:=(qwb e 0 (wM (min (we v0) 20) v0))
(qRd (d,(f,(g,(i,(j,(c,()))))))).bind fun r1=>
if (r1 != (0:Int))=true then
some (((0:Int),((0:Int),((0:Int),((0:Int),((0:Int),(e,())))))),(12:Int))
else
some ((d,(f,(g,(i,(j,(c,())))))),(0:Int))):=SE
theorem qBg (v0:List Int) (v5:Int) (v12:(List Int)) (v13:Int) (v17:Int) (v18:Int) (b8:qla) (b9:(List Int)):qQe v0 v5 v12 v13 v17 v18 b8 b9=(
if (decide (v18<v17))=true then
gd (0≤v5)<|
gd (v5<(5:Int))<|
gd (0≤(8:Int))<|
gd (0≤(0:Int))<|
letI c:=(wi (we v0))
gd ((0:Int)<c)<|
gd (0≤v5)<|
gd (v5<(5:Int))<|
gd (0≤(1:Int))<|
gd ((1:Int)≤c)<|
qQe (wea 1 v0) v5 v12 v13 v17 (wd .i64 (v18+(1:Int))) b8 (wF b9 (wo v5) (qgc .i64 (wd .i64 ((wm b9 (wo v5) (0:Int))*(256:Int))) (wd .i64 (wm v0 0 (0:Int)))))
else
qMc v0 v12 (wd .i64 (v13+(1:Int))) b8 b9):=SE
noncomputable def vnd:FN:={f:=41,cuts:=[],tab:=[SS vX,SS vrc,SS vQ],fm:=⟨true,[.val qYe [], .val (.int .i64) [], .val (.int .i64) []]⟩}
noncomputable def qxo (a0:List Int):Option (qza×Int×Int):=vnd.call [(.sl (.int .u8) false a0)] []
theorem qRz (a0:List Int):qxo a0=(
letI e:=(wi (we a0))
letI d:=(wn 20 (0:Int))
if (decide (e>(50000:Int)))=true then
some ((((0:Int),((0:Int),((0:Int),((0:Int),((0:Int),(d,())))))),([],())),((0:Int),(4:Int)))
else
if (decide (e<(41:Int)))=true then
some ((((0:Int),((0:Int),((0:Int),((0:Int),((0:Int),(d,())))))),([],())),((0:Int),(18:Int)))
else
gd (0≤(13:Int))<|
gd ((13:Int)≤(41:Int))<|
gd ((41:Int)≤e)<|
(qPh (wM 28 (wea 13 a0))).bind fun r1=>
(qvn a0 (0:Int)).bind fun r2=>
if (not r2.1)=true then
some ((((0:Int),((0:Int),((0:Int),((0:Int),((0:Int),(d,())))))),([],())),((0:Int),(12:Int)))
else
if (r1.2 != (0:Int))=true then
some ((((0:Int),((0:Int),((0:Int),((0:Int),((0:Int),(d,())))))),([],())),((0:Int),(12:Int)))
else
letI c:=(wd .i64 ((41:Int)+r1.1.2.2.2.2.1))
if (decide (e<c))=true then
some ((((0:Int),((0:Int),((0:Int),((0:Int),((0:Int),(d,())))))),([],())),((0:Int),(18:Int)))
else
gd (0≤(41:Int))<|
gd ((41:Int)≤c)<|
gd (c≤e)<|
(qLf (wM ((wo c) - 41) (wea 41 a0))).bind fun r3=>
some ((r1.1,(r3,())),(c,(0:Int)))):=CE
noncomputable def vha:FN:={f:=15,cuts:=[⟨(4,3),[0,1,2,8,9,10],false,false,[],[],[]⟩],tab:=[SS vrc,SS vnd,SS vqc,SS vX,SS vnb],fm:=⟨true,[.val (.slice qGa) [.nw], .val .bool []]⟩}
noncomputable def qlh (a0:Int) (a1:List Int) (a2:List Int):Option (List qja×Bool):=vha.call [(.int .i64 a0),(.sl (.int .u8) false a1),(.sl (.int .i64) false a2)] []
noncomputable def qCc (v0:Int) (v1:List Int) (v2:List Int) (v9:Int) (v10:Int) (h8:List qja):Option (List qja×Bool):=vha.sem ⟨[.code (cIn (cIn (qaa (qEa (qaa (qaa (qaa (qda wg 15)))))))), .inLoop (cIn (cIn (qaa (qEa (qaa (qaa (qaa (qda wg 15)))))))), .inBlock 0, .code (qaa (qaa (qaa (qaa (qda wg 15)))))],⟨[(0,(.one (.int .i64 v0))),(1,(.one (.sl (.int .u8) false v1))),(2,(.one (.sl (.int .i64) false v2))),(8,(.one (.ref qGa 8 0 (we h8) true))),(9,(.one (.int .i64 v9))),(10,(.one (.int .i64 v10)))],[(8,some (.row qGa true h8))],9⟩⟩
theorem qAo (a0:Int) (a1:List Int) (a2:List Int):qlh a0 a1 a2=(
qCc a0 a1 a2 (0:Int) (0:Int) []):=CE
theorem qLg (v0:Int) (v1:List Int) (v2:List Int) (v9:Int) (v10:Int) (h8:List qja):qCc v0 v1 v2 v9 v10 h8=(
letI f:=(wi (we v2))
letI d:=(wi (we v1))
if (decide (v10<f))=true then
gd (0≤v10)<|
gd (v10<f)<|
if (v9 != (wm v2 (wo v10) (0:Int)))=true then
some ([],false)
else
if (decide (v9>d))=true then
some ([],false)
else
(qvn v1 v9).bind fun r1=>
gd (0≤v9)<|
gd (v9≤d)<|
(qxo (wea (wo v9) v1)).bind fun r2=>
(qGl v0 r2.1).bind fun r3=>
if (r1.2 != (0:Int))=true then
some ([],false)
else
if (not r1.1)=true then
some ([],false)
else
if (r2.2.2 != (0:Int))=true then
some ([],false)
else
if (decide (r2.2.1<(42:Int)))=true then
some ([],false)
else
if (r3.2 != (0:Int))=true then
some ([],false)
else
if (decide ((wd .i64 (d - v9))<r2.2.1))=true then
some ([],false)
else
letI c:=(wd .i64 (v9+(13:Int)))
gd (0≤c)<|
letI e:=(wd .i64 (v9+(41:Int)))
gd (c≤e)<|
gd (e≤d)<|
(qPh (wM ((wo e) - (wo c)) (wea (wo c) v1))).bind fun r4=>
(qPe r4.1 r3.1).bind fun r5=>
if (r4.2 != (0:Int))=true then
some ([],false)
else
if (not (peq qAa r4.1 r2.1.1))=true then
some ([],false)
else
if (r5.2 != (0:Int))=true then
some ([],false)
else
if (not r5.1)=true then
some ([],false)
else
gd ((we (h8++[((r4.1.2.1,(r4.1.2.2.1,(r4.1.2.2.2.1,()))),(r3.1,()))]))*48≤140737488355328)<|
qCc v0 v1 v2 (wd .i64 (v9+r2.2.1)) (wd .i64 (v10+(1:Int))) (h8++[((r4.1.2.1,(r4.1.2.2.1,(r4.1.2.2.2.1,()))),(r3.1,()))])
else
some (h8,(v9==d))):=SE
noncomputable def vL:FN:={f:=16,cuts:=[⟨(4,3),[0,1,5],false,false,[],[],[]⟩],tab:=[],fm:=⟨true,[.val .bool []]⟩}
noncomputable def qje (a0:List qja) (a1:List qja):Option (Bool):=vL.call [(.sl qGa false a0),(.sl qGa false a1)] []
noncomputable def qjc (v0:List qja) (v1:List qja) (v5:Int):Option (Bool):=vL.sem ⟨[.code (cIn (cIn (qaa (qEa (qaa (qaa (qda wg 16))))))), .inLoop (cIn (cIn (qaa (qEa (qaa (qaa (qda wg 16))))))), .inBlock 0, .code (qaa (qaa (qaa (qda wg 16))))],⟨[(0,(.one (.sl qGa false v0))),(1,(.one (.sl qGa false v1))),(5,(.one (.int .i64 v5)))],[],8⟩⟩
theorem qbl (a0:List qja) (a1:List qja):qje a0 a1=(
if ((wi (we a0)) != (wi (we a1)))=true then
some (false)
else
qjc a0 a1 (0:Int)):=CE
theorem qte (v0:List qja) (v1:List qja) (v5:Int):qjc v0 v1 v5=(
letI c:=(wi (we v0))
if (decide (v5<c))=true then
gd (0≤v5)<|
gd (v5<c)<|
gd (0≤v5)<|
letI f:=(wi (we v1))
gd (v5<f)<|
letI e:=(wo v5)
letI d:=(qua qGa)
letI i:=(wm v1 e d)
letI g:=(wm v0 e d)
if (not (peq qia g.1 i.1))=true then
some (false)
else
gd (0≤v5)<|
gd (v5<c)<|
gd (0≤v5)<|
gd (v5<f)<|
if (not ((wW (qFk g.2.1))==(wW (qFk i.2.1))))=true then
some (false)
else
qjc v0 v1 (wd .i64 (v5+(1:Int)))
else
some (true)):=SE
noncomputable def vFc:FN:={f:=44,cuts:=[],tab:=[],fm:=⟨true,[.val .bool []]⟩}
noncomputable def qTm (a0:List Int) (a1:qea):Option (Bool):=vFc.call [(.sl (.int .i64) false a0),(.agg qia (inj false qia a1))] []
theorem qPt (a0:List Int) (a1:qea):qTm a0 a1=(
if (decide (a1.1≥(0:Int)))=true then
letI c:=(wi (we a0))
if (decide (a1.1<c))=true then
if (decide (a1.2.1≥(0:Int)))=true then
if (decide (a1.2.2.1>(0:Int)))=true then
gd (0≤a1.1)<|
gd (a1.1<c)<|
letI d:=(wm a0 (wo a1.1) (0:Int))
if (decide (a1.2.1≤d))=true then
gd (0≤a1.1)<|
gd (a1.1<c)<|
some (decide (a1.2.2.1≤(wd .i64 (d - a1.2.1))))
else
some (false)
else
some (false)
else
some (false)
else
some (false)
else
some (false)):=CE
noncomputable def vR:FN:={f:=45,cuts:=[⟨(3,3),[0,1,5,17,18,19],false,false,[8],[],[]⟩,⟨(8,3),[0,5,32,33,34],false,false,[8],[],[]⟩,⟨(12,7),[0,5,10,32,33,34,41,42,43],false,false,[8],[],[]⟩],tab:=[],fm:=⟨true,[.val .bool [], .fams 0 .str (.int .u8)]⟩}
noncomputable def qNl (a1:List qja) (h0:List (ByteArray×List Int)):Option (Bool×List (ByteArray×List Int)):=vR.call [(.ref T_api_Member 0 0 (we (qxi (a:= .str) (e:=(.int .u8)) h0)) true),(.sl qGa false a1)] [(0,(.famS .str (.int .u8) h0))]
noncomputable def qAf (v1:List qja) (v18:Int) (v19:Int) (h0:List (ByteArray×List Int)) (h8:List (List Bool)):Option (Bool×List (ByteArray×List Int)):=vR.sem ⟨[.code (cIn (cIn (qaa (qEa (qaa (qaa (qda wg 45))))))), .inLoop (cIn (cIn (qaa (qEa (qaa (qaa (qda wg 45))))))), .inBlock 0, .code (qaa (qaa (qaa (qda wg 45))))],⟨[(0,(.one (.ref T_api_Member 0 0 (we (qxi (a:= .str) (e:=(.int .u8)) h0)) true))),(1,(.one (.sl qGa false v1))),(5,(.one (.ref (.slice .bool) 8 0 (we h8) true))),(17,(.one (.ref T_api_Member 0 0 (we (qxi (a:= .str) (e:=(.int .u8)) h0)) true))),(18,(.one (.int .i64 v18))),(19,(.one (.int .i64 v19)))],[(0,some (.famS .str (.int .u8) h0)),(8,some (.fam .bool h8))],10⟩⟩
noncomputable def qcd (v32:List qja) (v33:Int) (v34:Int) (h0:List (ByteArray×List Int)) (h8:List (List Bool)):Option (Bool×List (ByteArray×List Int)):=vR.sem ⟨[.code (cIn (cIn (qaa (qEa (qaa (qaa (qaa (qda wg 45)))))))), .inLoop (cIn (cIn (qaa (qEa (qaa (qaa (qaa (qda wg 45)))))))), .inBlock 2, .code (qaa (qaa (qaa (qaa (qda wg 45)))))],⟨[(0,(.one (.ref T_api_Member 0 0 (we (qxi (a:= .str) (e:=(.int .u8)) h0)) true))),(5,(.one (.ref (.slice .bool) 8 0 (we h8) true))),(32,(.one (.sl qGa false v32))),(33,(.one (.int .i64 v33))),(34,(.one (.int .i64 v34)))],[(0,some (.famS .str (.int .u8) h0)),(8,some (.fam .bool h8))],10⟩⟩
noncomputable def qae (v32:List qja) (v33:Int) (v34:Int) (v41:List Int) (v42:Int) (v43:Int) (h0:List (ByteArray×List Int)) (h8:List (List Bool)) (b9:qea):Option (Bool×List (ByteArray×List Int)):=vR.sem ⟨[.code (cIn (cIn (qaa (qaa (qaa (cIn (qEa (qaa (qaa (cIn (cIn (qaa (qEa (qaa (qaa (qaa (qda wg 45))))))))))))))))), .inLoop (cIn (cIn (qaa (qaa (qaa (cIn (qEa (qaa (qaa (cIn (cIn (qaa (qEa (qaa (qaa (qaa (qda wg 45))))))))))))))))), .inBlock 4, .inBlock 3, .code (qaa (qaa (qaa (cIn (cIn (qaa (qEa (qaa (qaa (qaa (qda wg 45))))))))))), .inLoop (cIn (cIn (qaa (qEa (qaa (qaa (qaa (qda wg 45)))))))), .inBlock 2, .code (qaa (qaa (qaa (qaa (qda wg 45)))))],⟨[(0,(.one (.ref T_api_Member 0 0 (we (qxi (a:= .str) (e:=(.int .u8)) h0)) true))),(5,(.one (.ref (.slice .bool) 8 0 (we h8) true))),(10,(.one (.ptr qia 9 []))),(32,(.one (.sl qGa false v32))),(33,(.one (.int .i64 v33))),(34,(.one (.int .i64 v34))),(41,(.one (.sl (.int .u8) false v41))),(42,(.one (.int .i64 v42))),(43,(.one (.int .i64 v43)))],[(0,some (.famS .str (.int .u8) h0)),(8,some (.fam .bool h8)),(9,some (.box qia (inj false qia b9)))],11⟩⟩
theorem qEs (a1:List qja) (h0:List (ByteArray×List Int)):qNl a1 h0=(
gd ((wi (we (qxi (a:= .str) (e:=(.int .u8)) h0)))=(wi (we (qxi (a:= .str) (e:=(.int .u8)) h0))))<|
gd (0≤(wi (we (qxi (a:= .str) (e:=(.int .u8)) h0))))<|
gd ((wi (we (qxi (a:= .str) (e:=(.int .u8)) h0)))*24≤140737488355328)<|
gd ((wi (we (qxi (a:= .str) (e:=(.int .u8)) h0)))≤9223372036854775807)<|
qAf a1 (wi (we (qxi (a:= .str) (e:=(.int .u8)) h0))) (0:Int) h0 (wn (we (qxi (a:= .str) (e:=(.int .u8)) h0)) [])):=CE
theorem qPi (v1:List qja) (v18:Int) (v19:Int) (h0:List (ByteArray×List Int)) (h8:List (List Bool)):qAf v1 v18 v19 h0 h8=(
if (decide (v19<v18))=true then
gd (0≤v19)<|
gd (v19<(wi (we (qxi (a:= .str) (e:=(.int .u8)) h0))))<|
letI c:=(0+(wo v19))
gd ((wi (we (wm h0 c (wD,[])).2))=(wi (we (wm h0 c (wD,[])).2)))<|
gd (0≤(wi (we (wm h0 c (wD,[])).2)))<|
gd ((wi (we (wm h0 c (wD,[])).2))*1≤140737488355328)<|
gd ((wi (we (wm h0 c (wD,[])).2))≤9223372036854775807)<|
gd (0≤v19)<|
gd (v19<(wi (we h8)))<|
qAf v1 v18 (wd .i64 (v19+(1:Int))) h0 (wF h8 c (wn (we (wm h0 c (wD,[])).2) false))
else
qcd v1 (wi (we v1)) (0:Int) h0 h8):=SE
theorem qOi (v32:List qja) (v33:Int) (v34:Int) (h0:List (ByteArray×List Int)) (h8:List (List Bool)):qcd v32 v33 v34 h0 h8=(
if (decide (v34<v33))=true then
gd (0≤v34)<|
gd (v34<(wi (we v32)))<|
letI c:=(wm v32 (wo v34) (qua qGa))
qae v32 v33 v34 c.2.1 (wi (we c.2.1)) (0:Int) h0 h8 c.1
else
some (true,h0)):=SE
theorem qNi (v32:List qja) (v33:Int) (v34:Int) (v41:List Int) (v42:Int) (v43:Int) (h0:List (ByteArray×List Int)) (h8:List (List Bool)) (b9:qea):qae v32 v33 v34 v41 v42 v43 h0 h8 b9=(
if (decide (v43<v42))=true then
gd (0≤v43)<|
gd (v43<(wi (we v41)))<|
gd (0≤b9.1)<|
letI i:=(wi (we h8))
gd (b9.1<i)<|
letI d:=(0+(wo b9.1))
gd (0<(we (wm h8 d [])))<|
letI c:=(wd .i64 (b9.2.1+v43))
gd (0≤c)<|
gd (c<(wi (we (wm h8 d []))))<|
letI j:=(wd .i64 (v43+(1:Int)))
letI g:=(wm v41 (wo v43) (0:Int))
letI f:=(0+(wo c))
if (wm (wm h8 d []) f false)=true then
gd (0≤b9.1)<|
gd (b9.1<(wi (we (qxi (a:= .str) (e:=(.int .u8)) h0))))<|
gd (0<(we (wm h0 d (wD,[])).2))<|
gd (0≤c)<|
gd (c<(wi (we (wm h0 d (wD,[])).2)))<|
if ((wm (wm h0 d (wD,[])).2 f (0:Int)) != g)=true then
some (false,h0)
else
gd (0≤b9.1)<|
gd (b9.1<i)<|
gd (0<(we (wm h8 d [])))<|
gd (0≤b9.1)<|
gd (b9.1<(wi (we (qxi (a:= .str) (e:=(.int .u8)) h0))))<|
gd (0<(we (wm h0 d (wD,[])).2))<|
gd (0≤c)<|
gd (c<(wi (we (wm h8 d []))))<|
gd (0≤c)<|
gd (c<(wi (we (wm h0 d (wD,[])).2)))<|
qae v32 v33 v34 v41 v42 j (wF h0 d ((wm h0 d (wD,[])).1,(wF (wm h0 d (wD,[])).2 f g))) (wF h8 d (wF (wm h8 d []) f true)) b9
else
gd (0≤b9.1)<|
gd (b9.1<i)<|
gd (0<(we (wm h8 d [])))<|
gd (0≤b9.1)<|
gd (b9.1<(wi (we (qxi (a:= .str) (e:=(.int .u8)) h0))))<|
gd (0<(we (wm h0 d (wD,[])).2))<|
gd (0≤c)<|
gd (c<(wi (we (wm h8 d []))))<|
gd (0≤c)<|
gd (c<(wi (we (wm h0 d (wD,[])).2)))<|
qae v32 v33 v34 v41 v42 j (wF h0 d ((wm h0 d (wD,[])).1,(wF (wm h0 d (wD,[])).2 f g))) (wF h8 d (wF (wm h8 d []) f true)) b9
else
qcd v32 v33 (wd .i64 (v34+(1:Int))) h0 h8):=SE
noncomputable def qQt (acc:List AV→Bool):Summ wg GT:=vR.summ mixed acc true false
noncomputable def vF:FN:={f:=72,cuts:=[],tab:=[],fm:=⟨true,[.val (.slice qia) [.nw]]⟩}
noncomputable def qYb (a0:List qea):Option (List qea):=vF.call [(.sl qia false a0)] []
theorem qGf (a0:List qea):qYb a0=(
qeA (fun (r1:Bool)=>r1=true→a0=[]) fun (r1:Bool)=>
if r1=true then
some ([])
else
gd ((we ([]++a0))*24≤140737488355328)<|
some ([]++a0)):=CE
noncomputable def vjc:FN:={f:=101,cuts:=[],tab:=[],fm:=⟨true,[.val .bool []]⟩}
noncomputable def qAi (a0:Int):Option (Bool):=vjc.call [(.int .i64 a0)] []
theorem qgt (a0:Int):qAi a0=(
some (a0 != a0)):=CE
noncomputable def vJb:FN:={f:=76,cuts:=[],tab:=[SS vjc],fm:=⟨true,[.val (.int .i64) []]⟩}
noncomputable def qIg (a0:Int) (a1:Int):Option (Int):=vJb.call [(.int .i64 a0),(.int .i64 a1)] []
theorem qKq (a0:Int) (a1:Int):qIg a0 a1=(
(qAi a0).bind fun r1=>
(qAi a1).bind fun r2=>
if r1=true then
if r2=true then
some (0:Int)
else
some (-1:Int)
else
if r2=true then
some (1:Int)
else
if (decide (a0<a1))=true then
some (-1:Int)
else
if (decide (a0>a1))=true then
some (1:Int)
else
some (0:Int)):=CE
noncomputable def vQb:FN:={f:=75,cuts:=[⟨(3,3),[3,6,7,8],false,false,[],[],[]⟩],tab:=[],fm:=⟨true,[.val (.int .i64) []]⟩}
noncomputable def qOr (a0:List Int):Option (Int):=vQb.call [(.sl (.int .i64) false a0)] []
noncomputable def qhf (v3:Int) (v6:List Int) (v7:Int) (v8:Int):Option (Int):=vQb.sem ⟨[.code (cIn (cIn (qaa (qEa (qaa (qaa (qda wg 75))))))), .inLoop (cIn (cIn (qaa (qEa (qaa (qaa (qda wg 75))))))), .inBlock 0, .code (qaa (qaa (qaa (qda wg 75))))],⟨[(3,(.one (.int .i64 v3))),(6,(.one (.sl (.int .i64) false v6))),(7,(.one (.int .i64 v7))),(8,(.one (.int .i64 v8)))],[],8⟩⟩
theorem qLz (a0:List Int):qOr a0=(
qhf (0:Int) a0 (wi (we a0)) (0:Int)):=CE
theorem qci (v3:Int) (v6:List Int) (v7:Int) (v8:Int):qhf v3 v6 v7 v8=(
if (decide (v8<v7))=true then
gd (0≤v8)<|
gd (v8<(wi (we v6)))<|
letI c:=(wm v6 (wo v8) (0:Int))
if (c != v3)=true then
some c
else
qhf v3 v6 v7 (wd .i64 (v8+(1:Int)))
else
some (v3)):=SE
noncomputable def vE:FN:={f:=74,cuts:=[],tab:=[SS vJb,SS vQb],fm:=⟨true,[.val (.int .i64) []]⟩}
noncomputable def qIc (a0:qea) (a1:qea):Option (Int):=vE.call [(.agg qia (inj false qia a0)),(.agg qia (inj false qia a1))] []
theorem qUp (a0:qea) (a1:qea):qIc a0 a1=(
(qIg a0.1 a1.1).bind fun r1=>
(qIg a0.2.1 a1.2.1).bind fun r2=>
(qOr [r1,r2]).bind fun r3=>
some (r3)):=CE
noncomputable def vc:FN:={f:=130,cuts:=[⟨(1,2),[0,1,2,3,8],false,false,[],[],[]⟩,⟨(4,6),[0,1,2,3,8,9],false,false,[],[],[]⟩],tab:=[SS vE],fm:=⟨false,[.row 0 qia]⟩}
noncomputable def qvb (a1:Int) (a2:Int) (h0:List qea):Option (List qea):=vc.call [(.ref qia 0 0 (we h0) true),(.int .i64 a1),(.int .i64 a2),(.func 74 [])] [(0,(.row qia false h0))]
noncomputable def qLa (v1:Int) (v2:Int) (v8:Int) (h0:List qea):Option (List qea):=vc.sem ⟨[.code (cIn (cIn (qaa (qda wg 130)))), .inLoop (cIn (cIn (qaa (qda wg 130)))), .inBlock 0],⟨[(0,(.one (.ref qia 0 0 (we h0) true))),(1,(.one (.int .i64 v1))),(2,(.one (.int .i64 v2))),(3,(.one (.func 74 []))),(8,(.one (.int .i64 v8)))],[(0,some (.row qia false h0))],9⟩⟩
noncomputable def qnb (v1:Int) (v2:Int) (v8:Int) (v9:Int) (h0:List qea):Option (List qea):=vc.sem ⟨[.code (cIn (cIn (qaa (cIn (qEa (qaa (cIn (cIn (qaa (qda wg 130)))))))))), .inLoop (cIn (cIn (qaa (cIn (qEa (qaa (cIn (cIn (qaa (qda wg 130)))))))))), .inBlock 2, .inBlock 1, .code (qaa (qaa (cIn (cIn (qaa (qda wg 130)))))), .inLoop (cIn (cIn (qaa (qda wg 130)))), .inBlock 0],⟨[(0,(.one (.ref qia 0 0 (we h0) true))),(1,(.one (.int .i64 v1))),(2,(.one (.int .i64 v2))),(3,(.one (.func 74 []))),(8,(.one (.int .i64 v8))),(9,(.one (.int .i64 v9)))],[(0,some (.row qia false h0))],9⟩⟩
theorem qwe (a1:Int) (a2:Int) (h0:List qea):qvb a1 a2 h0=(
qLa a1 a2 (wd .i64 (a1+(1:Int))) h0):=CE
theorem qgb (v1:Int) (v2:Int) (v8:Int) (h0:List qea):qLa v1 v2 v8 h0=(
if (decide (v8<v2))=true then
qnb v1 v2 v8 v8 h0
else
some (h0)):=SE
theorem qUd (v1:Int) (v2:Int) (v8:Int) (v9:Int) (h0:List qea):qnb v1 v2 v8 v9 h0=(
letI g:=(wd .i64 (v8+(1:Int)))
if (decide (v9>v1))=true then
gd (0≤v9)<|
letI d:=(wi (we h0))
gd (v9<d)<|
letI c:=(wd .i64 (v9 - (1:Int)))
gd (0≤c)<|
gd (c<d)<|
letI k:=(qua qia)
letI j:=(0+(wo c))
letI i:=(0+(wo v9))
letI f:=(wm h0 j k)
letI e:=(wm h0 i k)
(qIc e f).bind fun r1=>
if (decide (r1<(0:Int)))=true then
gd (0≤c)<|
gd (c<d)<|
gd (0≤v9)<|
gd (v9<d)<|
gd (0≤v9)<|
gd (v9<d)<|
gd (0≤c)<|
gd (c<d)<|
qnb v1 v2 v8 c (wF (wF h0 i f) j e)
else
qLa v1 v2 g h0
else
qLa v1 v2 g h0):=SE
noncomputable def qze (acc:List AV→Bool):Summ wg GT:=vc.summ mixed acc true false
noncomputable def vN:FN:={f:=235,cuts:=[],tab:=[SS vE],fm:=⟨false,[.val (.int .i64) [], .val (.int .i64) [], .row 0 qia, .box 1 (.int .i64) []]⟩}
noncomputable def qdb (a1:Int) (a2:Int) (h0:List qea) (b1:Int):Option (Int×Int×List qea×Int):=vN.call [(.ref qia 0 0 (we h0) true),(.int .i64 a1),(.int .i64 a2),(.ptr (.int .i64) 1 []),(.func 74 [])] [(0,(.row qia false h0)),(1,(.box (.int .i64) b1))]
theorem qkg (a1:Int) (a2:Int) (h0:List qea) (b1:Int):qdb a1 a2 h0 b1=(
gd (0≤a2)<|
letI c:=(wi (we h0))
gd (a2<c)<|
gd (0≤a1)<|
gd (a1<c)<|
letI d:=(qua qia)
(qIc (wm h0 (0+(wo a2)) d) (wm h0 (0+(wo a1)) d)).bind fun r1=>
if (decide (r1<(0:Int)))=true then
some (a2,(a1,(h0,(wd .i64 (b1+(1:Int))))))
else
some (a1,(a2,(h0,b1)))):=CE
noncomputable def qSg (acc:List AV→Bool):Summ wg GT:=vN.summ mixed acc true false
noncomputable def vM:FN:={f:=187,cuts:=[],tab:=[(qSg (fun _=>true)).dropping],fm:=⟨false,[.val (.int .i64) [], .row 0 qia, .box 1 (.int .i64) []]⟩}
noncomputable def qeb (a1:Int) (a2:Int) (a3:Int) (h0:List qea) (b1:Int):Option (Int×List qea×Int):=vM.call [(.ref qia 0 0 (we h0) true),(.int .i64 a1),(.int .i64 a2),(.int .i64 a3),(.ptr (.int .i64) 1 []),(.func 74 [])] [(0,(.row qia false h0)),(1,(.box (.int .i64) b1))]
theorem qlg (a1:Int) (a2:Int) (a3:Int) (h0:List qea) (b1:Int):qeb a1 a2 a3 h0 b1=(
(qdb a1 a2 h0 b1).bind fun r1=>
(qdb r1.2.1 a3 r1.2.2.1 r1.2.2.2).bind fun r2=>
(qdb r1.1 r2.1 r2.2.2.1 r2.2.2.2).bind fun r3=>
some (r3.2)):=CE
noncomputable def qtd (acc:List AV→Bool):Summ wg GT:=vM.summ mixed acc true false
noncomputable def vw:FN:={f:=186,cuts:=[],tab:=[(qtd (fun _=>true)).dropping],fm:=⟨false,[.val (.int .i64) [], .row 0 qia, .box 1 (.int .i64) []]⟩}
noncomputable def qQa (a1:Int) (h0:List qea) (b1:Int):Option (Int×List qea×Int):=vw.call [(.ref qia 0 0 (we h0) true),(.int .i64 a1),(.ptr (.int .i64) 1 []),(.func 74 [])] [(0,(.row qia false h0)),(1,(.box (.int .i64) b1))]
theorem qhe (a1:Int) (h0:List qea) (b1:Int):qQa a1 h0 b1=(
(qeb (wd .i64 (a1 - (1:Int))) a1 (wd .i64 (a1+(1:Int))) h0 b1).bind fun r1=>
some (r1)):=CE
noncomputable def qve (acc:List AV→Bool):Summ wg GT:=vw.summ mixed acc true false
noncomputable def vz:FN:={f:=133,cuts:=[],tab:=[(qve (fun _=>true)).dropping,(qtd (fun _=>true)).dropping],fm:=⟨false,[.val (.int .i64) [], .val (.int .i64) [], .row 0 qia]⟩}
noncomputable def qIb (a1:Int) (a2:Int) (h0:List qea):Option (Int×Int×List qea):=vz.call [(.ref qia 0 0 (we h0) true),(.int .i64 a1),(.int .i64 a2),(.func 74 [])] [(0,(.row qia false h0))]
theorem qZe (a1:Int) (a2:Int) (h0:List qea):qIb a1 a2 h0=(
gd ((4:Int)≠0)<|
gd ((4:Int)≠0)<|
gd ((4:Int)≠0)<|
letI g:=(wd .i64 (a2 - a1))
letI c:=(wd .i64 (wIa g (4:Int)))
letI d:=(wd .i64 (a1+(wd .i64 (c*(2:Int)))))
if (decide (g≥(8:Int)))=true then
letI f:=(wd .i64 (a1+(wd .i64 (c*(3:Int)))))
letI e:=(wd .i64 (a1+(wd .i64 (c*(1:Int)))))
if (decide (g≥(50:Int)))=true then
(qQa e h0 (0:Int)).bind fun r1=>
(qQa d r1.2.1 r1.2.2).bind fun r2=>
(qQa f r2.2.1 r2.2.2).bind fun r3=>
(qeb r1.1 r2.1 r3.1 r3.2.1 r3.2.2).bind fun r4=>
if (r4.2.2==(0:Int))=true then
some (r4.1,((1:Int),r4.2.1))
else
if (r4.2.2==(12:Int))=true then
some (r4.1,((2:Int),r4.2.1))
else
some (r4.1,((0:Int),r4.2.1))
else
(qeb e d f h0 (0:Int)).bind fun r5=>
if (r5.2.2==(0:Int))=true then
some (r5.1,((1:Int),r5.2.1))
else
if (r5.2.2==(12:Int))=true then
some (r5.1,((2:Int),r5.2.1))
else
some (r5.1,((0:Int),r5.2.1))
else
some (d,((1:Int),h0))):=CE
noncomputable def qlf (acc:List AV→Bool):Summ wg GT:=vz.summ mixed acc true false
noncomputable def va:FN:={f:=135,cuts:=[⟨(3,3),[0,1,2,3,9,10],false,false,[],[],[]⟩,⟨(5,8),[0,1,2,3,9,10],false,false,[],[],[]⟩,⟨(14,8),[0,1,2,3,9,10,11],false,false,[],[],[]⟩,⟨(20,7),[0,1,2,3,9,10,12],false,false,[],[],[]⟩],tab:=[SS vE],fm:=⟨false,[.val .bool [], .row 0 qia]⟩}
noncomputable def qcb (a1:Int) (a2:Int) (h0:List qea):Option (Bool×List qea):=va.call [(.ref qia 0 0 (we h0) true),(.int .i64 a1),(.int .i64 a2),(.func 74 [])] [(0,(.row qia false h0))]
noncomputable def qNa (v1:Int) (v2:Int) (v9:Int) (v10:Int) (h0:List qea):Option (Bool×List qea):=va.sem ⟨[.code (cIn (cIn (qaa (qEa (qaa (qaa (qda wg 135))))))), .inLoop (cIn (cIn (qaa (qEa (qaa (qaa (qda wg 135))))))), .inBlock 0, .code (qaa (qaa (qaa (qda wg 135))))],⟨[(0,(.one (.ref qia 0 0 (we h0) true))),(1,(.one (.int .i64 v1))),(2,(.one (.int .i64 v2))),(3,(.one (.func 74 []))),(9,(.one (.int .i64 v9))),(10,(.one (.int .i64 v10)))],[(0,some (.row qia false h0))],9⟩⟩
noncomputable def qMa (v1:Int) (v2:Int) (v9:Int) (v10:Int) (h0:List qea):Option (Bool×List qea):=va.sem ⟨[.code (cIn (cIn (qEa (cIn (qEa (qaa (cIn (cIn (qaa (qEa (qaa (qaa (qda wg 135))))))))))))), .inLoop (cIn (cIn (qEa (cIn (qEa (qaa (cIn (cIn (qaa (qEa (qaa (qaa (qda wg 135))))))))))))), .inBlock 2, .code (qaa (cIn (qEa (qaa (cIn (cIn (qaa (qEa (qaa (qaa (qda wg 135))))))))))), .inBlock 1, .code (qaa (qaa (cIn (cIn (qaa (qEa (qaa (qaa (qda wg 135))))))))), .inLoop (cIn (cIn (qaa (qEa (qaa (qaa (qda wg 135))))))), .inBlock 0, .code (qaa (qaa (qaa (qda wg 135))))],⟨[(0,(.one (.ref qia 0 0 (we h0) true))),(1,(.one (.int .i64 v1))),(2,(.one (.int .i64 v2))),(3,(.one (.func 74 []))),(9,(.one (.int .i64 v9))),(10,(.one (.int .i64 v10)))],[(0,some (.row qia false h0))],9⟩⟩
noncomputable def qBb (v1:Int) (v2:Int) (v9:Int) (v10:Int) (v11:Int) (h0:List qea):Option (Bool×List qea):=va.sem ⟨[.code (cIn (cIn (qaa (qeM (qaa (qEa (qaa (qaa (qaa (qaa (cIn (qEa (qaa (cIn (cIn (qaa (qEa (qaa (qaa (qda wg 135)))))))))))))))))))), .inLoop (cIn (cIn (qaa (qeM (qaa (qEa (qaa (qaa (qaa (qaa (cIn (qEa (qaa (cIn (cIn (qaa (qEa (qaa (qaa (qda wg 135)))))))))))))))))))), .inBlock 4, .code (qaa (qaa (qaa (qaa (qaa (cIn (qEa (qaa (cIn (cIn (qaa (qEa (qaa (qaa (qda wg 135))))))))))))))), .inBlock 1, .code (qaa (qaa (cIn (cIn (qaa (qEa (qaa (qaa (qda wg 135))))))))), .inLoop (cIn (cIn (qaa (qEa (qaa (qaa (qda wg 135))))))), .inBlock 0, .code (qaa (qaa (qaa (qda wg 135))))],⟨[(0,(.one (.ref qia 0 0 (we h0) true))),(1,(.one (.int .i64 v1))),(2,(.one (.int .i64 v2))),(3,(.one (.func 74 []))),(9,(.one (.int .i64 v9))),(10,(.one (.int .i64 v10))),(11,(.one (.int .i64 v11)))],[(0,some (.row qia false h0))],9⟩⟩
noncomputable def qAb (v1:Int) (v2:Int) (v9:Int) (v10:Int) (v12:Int) (h0:List qea):Option (Bool×List qea):=va.sem ⟨[.code (cIn (cIn (qaa (qeM (qaa (qaa (qaa (qaa (qaa (qaa (cIn (qEa (qaa (cIn (cIn (qaa (qEa (qaa (qaa (qda wg 135)))))))))))))))))))), .inLoop (cIn (cIn (qaa (qeM (qaa (qaa (qaa (qaa (qaa (qaa (cIn (qEa (qaa (cIn (cIn (qaa (qEa (qaa (qaa (qda wg 135)))))))))))))))))))), .inBlock 6, .inBlock 1, .code (qaa (qaa (cIn (cIn (qaa (qEa (qaa (qaa (qda wg 135))))))))), .inLoop (cIn (cIn (qaa (qEa (qaa (qaa (qda wg 135))))))), .inBlock 0, .code (qaa (qaa (qaa (qda wg 135))))],⟨[(0,(.one (.ref qia 0 0 (we h0) true))),(1,(.one (.int .i64 v1))),(2,(.one (.int .i64 v2))),(3,(.one (.func 74 []))),(9,(.one (.int .i64 v9))),(10,(.one (.int .i64 v10))),(12,(.one (.int .i64 v12)))],[(0,some (.row qia false h0))],9⟩⟩
theorem qpd (a1:Int) (a2:Int) (h0:List qea):qcb a1 a2 h0=(
qNa a1 a2 (wd .i64 (a1+(1:Int))) (0:Int) h0):=CE
theorem qRc (v1:Int) (v2:Int) (v9:Int) (v10:Int) (h0:List qea):qNa v1 v2 v9 v10 h0=(
if (decide (v10<(5:Int)))=true then
qMa v1 v2 v9 v10 h0
else
some (false,h0)):=SE
theorem qtb (v1:Int) (v2:Int) (v9:Int) (v10:Int) (h0:List qea):qMa v1 v2 v9 v10 h0=(
letI o:=(qua qia)
letI n:=(0+(wo v9))
letI m:=(wd .i64 (v10+(1:Int)))
letI l:=(decide ((wd .i64 (v2 - v9))≥(2:Int)))
letI k:=(decide ((wd .i64 (v9 - v1))≥(2:Int)))
letI j:=(decide ((wd .i64 (v2 - v1))<(50:Int)))
letI g:=(wm h0 n o)
letI f:=(wd .i64 (v9+(1:Int)))
letI e:=(wi (we h0))
letI d:=(wd .i64 (v9 - (1:Int)))
letI p:=(0+(wo d))
letI i:=(wm h0 p o)
letI c:=(wF (wF h0 n i) p g)
if (decide (v9<v2))=true then
gd (0≤v9)<|
gd (v9<e)<|
gd (0≤d)<|
gd (d<e)<|
(qIc g i).bind fun r1=>
if (not (decide (r1<(0:Int))))=true then
qMa v1 v2 f v10 h0
else
if (v9==v2)=true then
some (true,h0)
else
if j=true then
some (false,h0)
else
gd (0≤d)<|
gd (d<e)<|
gd (0≤v9)<|
gd (v9<e)<|
gd (0≤v9)<|
gd (v9<e)<|
gd (0≤d)<|
gd (d<e)<|
if k=true then
qBb v1 v2 v9 v10 d c
else
if l=true then
qAb v1 v2 v9 v10 f c
else
qNa v1 v2 v9 m c
else
if (v9==v2)=true then
some (true,h0)
else
if j=true then
some (false,h0)
else
gd (0≤d)<|
gd (d<e)<|
gd (0≤v9)<|
gd (v9<e)<|
gd (0≤v9)<|
gd (v9<e)<|
gd (0≤d)<|
gd (d<e)<|
if k=true then
qBb v1 v2 v9 v10 d c
else
if l=true then
qAb v1 v2 v9 v10 f c
else
qNa v1 v2 v9 m c):=SE
noncomputable def qud (acc:List AV→Bool):Summ wg GT:=va.summ mixed acc true false
noncomputable def vl:FN:={f:=99,cuts:=[⟨(2,2),[0,1,2,3,4,10,11],false,false,[],[],[]⟩],tab:=[(qze (fun _=>true)).dropping,(qlf (fun _=>true)).dropping,(qud (fun _=>true)).dropping,SS vE],fm:=⟨false,[.row 0 qia]⟩}
noncomputable def qub (a1:Int) (a2:Int) (a3:Int) (h0:List qea):Option (List qea):=vl.call [(.ref qia 0 0 (we h0) true),(.int .i64 a1),(.int .i64 a2),(.int .i64 a3),(.func 74 [])] [(0,(.row qia false h0))]
noncomputable def qTc (v1:Int) (v2:Int) (v3:Int) (v10:Bool) (v11:Bool) (h0:List qea):Option (List qea):=vl.sem ⟨[.code (cIn (cIn (qaa (qaa (qda wg 99))))), .inLoop (cIn (cIn (qaa (qaa (qda wg 99))))), .inBlock 0],⟨[(0,(.one (.ref qia 0 0 (we h0) true))),(1,(.one (.int .i64 v1))),(2,(.one (.int .i64 v2))),(3,(.one (.int .i64 v3))),(4,(.one (.func 74 []))),(10,(.one (.bool v10))),(11,(.one (.bool v11)))],[(0,some (.row qia false h0))],9⟩⟩
theorem qSc (a1:Int) (a2:Int) (a3:Int) (h0:List qea):qub a1 a2 a3 h0=(
qTc a1 a2 a3 true true h0):=CE
theorem qzc (v1:Int) (v2:Int) (v3:Int) (v10:Bool) (v11:Bool) (h0:List qea):qTc v1 v2 v3 v10 v11 h0=(
if (decide ((wd .i64 (v2 - v1))≤(12:Int)))=true then
(qvb v1 v2 h0).bind fun r1=>
some (r1)
else
if (v3==(0:Int))=true then
none
else
if (not v10)=true then
none
else
(qIb v1 v2 h0).bind fun r2=>
if (r2.2.1==(2:Int))=true then
none
else
letI i:=(0+(wo r2.1))
letI g:=(qua qia)
letI f:=(decide (v1>(0:Int)))
letI e:=(wi (we h0))
letI c:=(wd .i64 (v1 - (1:Int)))
letI j:=(0+(wo c))
letI d:=(qIc (wm r2.2.2 j g) (wm r2.2.2 i g))
if v10=true then
if v11=true then
if (r2.2.1==(1:Int))=true then
(qcb v1 v2 r2.2.2).bind fun r3=>
if r3.1=true then
some (r3.2)
else
if f=true then
gd (0≤c)<|
gd (c<e)<|
gd (0≤r2.1)<|
gd (r2.1<e)<|
(qIc (wm r3.2 j g) (wm r3.2 i g)).bind fun r4=>
if (not (decide (r4<(0:Int))))=true then
none
else
none
else
none
else
if f=true then
gd (0≤c)<|
gd (c<e)<|
gd (0≤r2.1)<|
gd (r2.1<e)<|
d.bind fun r5=>
if (not (decide (r5<(0:Int))))=true then
none
else
none
else
none
else
if f=true then
gd (0≤c)<|
gd (c<e)<|
gd (0≤r2.1)<|
gd (r2.1<e)<|
d.bind fun r6=>
if (not (decide (r6<(0:Int))))=true then
none
else
none
else
none
else
if f=true then
gd (0≤c)<|
gd (c<e)<|
gd (0≤r2.1)<|
gd (r2.1<e)<|
d.bind fun r7=>
if (not (decide (r7<(0:Int))))=true then
none
else
none
else
none):=SE
noncomputable def qjg (acc:List AV→Bool):Summ wg GT:=vl.summ mixed acc true false
noncomputable def vA:FN:={f:=73,cuts:=[],tab:=[SS vma,(qjg (fun _=>true)).dropping],fm:=⟨false,[.row 0 qia]⟩}
noncomputable def qHa (h0:List qea):Option (List qea):=vA.call [(.ref qia 0 0 (we h0) true),(.func 74 [])] [(0,(.row qia false h0))]
theorem qqc (h0:List qea):qHa h0=(
letI c:=(wi (we h0))
(qXd (wd .u64 c)).bind fun r1=>
(qub (0:Int) c r1 h0).bind fun r2=>
some (r2)):=CE
noncomputable def qmf (acc:List AV→Bool):Summ wg GT:=vA.summ mixed acc true false
noncomputable def vS:FN:={f:=46,cuts:=[⟨(5,3),[1,5,15,16,17],false,false,[],[],[1]⟩,⟨(9,7),[1,5,6,8,15,16,17,27,28,29],false,false,[],[],[]⟩],tab:=[SS vF,(qmf (fun _=>true)).dropping],fm:=⟨true,[.val (.slice qia) [.nw]]⟩}
noncomputable def qMl (a0:List Int) (a1:List qea):Option (List qea):=vS.call [(.sl (.int .i64) false a0),(.sl qia false a1)] []
noncomputable def qvc (v1n:Nat) (v15:List Int) (v16:Int) (v17:Int) (h8:List qea) (h9:List qea):Option (List qea):=vS.sem ⟨[.code (cIn (cIn (qaa (qEa (qaa (qaa (qaa (qaa (qda wg 46))))))))), .inLoop (cIn (cIn (qaa (qEa (qaa (qaa (qaa (qaa (qda wg 46))))))))), .inBlock 0, .code (qaa (qaa (qaa (qaa (qaa (qda wg 46))))))],⟨[(1,(.one (.ref qia 8 0 v1n false))),(5,(.one (.ref qia 9 0 (we h9) true))),(15,(.one (.sl (.int .i64) false v15))),(16,(.one (.int .i64 v16))),(17,(.one (.int .i64 v17)))],[(8,some (.row qia false h8)),(9,some (.row qia true h9))],10⟩⟩
noncomputable def qbd (v1n:Nat) (v6:Int) (v8:Int) (v15:List Int) (v16:Int) (v17:Int) (v28:Int) (v29:Int) (h8:List qea) (h9:List qea):Option (List qea):=vS.sem ⟨[.code (cIn (cIn (qaa (qaa (qaa (cIn (qEa (qaa (qaa (cIn (cIn (qaa (qEa (qaa (qaa (qaa (qaa (qda wg 46)))))))))))))))))), .inLoop (cIn (cIn (qaa (qaa (qaa (cIn (qEa (qaa (qaa (cIn (cIn (qaa (qEa (qaa (qaa (qaa (qaa (qda wg 46)))))))))))))))))), .inBlock 2, .inBlock 1, .code (qaa (qaa (qaa (cIn (cIn (qaa (qEa (qaa (qaa (qaa (qaa (qda wg 46)))))))))))), .inLoop (cIn (cIn (qaa (qEa (qaa (qaa (qaa (qaa (qda wg 46))))))))), .inBlock 0, .code (qaa (qaa (qaa (qaa (qaa (qda wg 46))))))],⟨[(1,(.one (.ref qia 8 0 v1n false))),(5,(.one (.ref qia 9 0 (we h9) true))),(6,(.one (.int .i64 v6))),(8,(.one (.int .i64 v8))),(15,(.one (.sl (.int .i64) false v15))),(16,(.one (.int .i64 v16))),(17,(.one (.int .i64 v17))),(27,(.one (.ref qia 8 0 (we h8) true))),(28,(.one (.int .i64 v28))),(29,(.one (.int .i64 v29)))],[(8,some (.row qia false h8)),(9,some (.row qia true h9))],10⟩⟩
noncomputable def qad (v1n:Nat) (v6:Int) (v8:Int) (v15:List Int) (v16:Int) (v17:Int) (v28:Int) (v29:Int) (h8:List qea) (h9:List qea) (h10:List qea):Option (List qea):=vS.sem ⟨[.code (cIn (cIn (qaa (qaa (qaa (cIn (qEa (qaa (qaa (cIn (cIn (qaa (qEa (qaa (qaa (qaa (qaa (qda wg 46)))))))))))))))))), .inLoop (cIn (cIn (qaa (qaa (qaa (cIn (qEa (qaa (qaa (cIn (cIn (qaa (qEa (qaa (qaa (qaa (qaa (qda wg 46)))))))))))))))))), .inBlock 2, .inBlock 1, .code (qaa (qaa (qaa (cIn (cIn (qaa (qEa (qaa (qaa (qaa (qaa (qda wg 46)))))))))))), .inLoop (cIn (cIn (qaa (qEa (qaa (qaa (qaa (qaa (qda wg 46))))))))), .inBlock 0, .code (qaa (qaa (qaa (qaa (qaa (qda wg 46))))))],⟨[(1,(.one (.ref qia 8 0 v1n false))),(5,(.one (.ref qia 9 0 (we h9) true))),(6,(.one (.int .i64 v6))),(8,(.one (.int .i64 v8))),(15,(.one (.sl (.int .i64) false v15))),(16,(.one (.int .i64 v16))),(17,(.one (.int .i64 v17))),(27,(.one (.ref qia 10 0 (we h10) true))),(28,(.one (.int .i64 v28))),(29,(.one (.int .i64 v29)))],[(8,some (.row qia false h8)),(9,some (.row qia true h9)),(10,some (.row qia false h10))],11⟩⟩
theorem qDs (a0:List Int) (a1:List qea):qMl a0 a1=(
(qYb a1).bind fun r1=>
(qHa r1).bind fun r2=>
qvc (we r2) a0 (wi (we a0)) (0:Int) r2 []):=CE
theorem qMi (v1n:Nat) (v15:List Int) (v16:Int) (v17:Int) (h8:List qea) (h9:List qea):qvc v1n v15 v16 v17 h8 h9=(
if (decide (v17<v16))=true then
gd (0≤v17)<|
gd (v17<(wi (we v15)))<|
qeA (fun (r3:Bool)=>True) fun (r3:Bool)=>
if r3=true then
gd (v1n≤(we ((wM v1n h8)++[(v17,((wm v15 (wo v17) (0:Int)),((0:Int),())))])))<|
gd (v1n≤(we ((wM v1n h8)++[(v17,((wm v15 (wo v17) (0:Int)),((0:Int),())))])))<|
qbd v1n v17 (0:Int) v15 v16 v17 (wi (we ((wM v1n h8)++[(v17,((wm v15 (wo v17) (0:Int)),((0:Int),())))]))) (0:Int) ((wM v1n h8)++[(v17,((wm v15 (wo v17) (0:Int)),((0:Int),())))]) h9
else
gd ((we ((wM v1n h8)++[(v17,((wm v15 (wo v17) (0:Int)),((0:Int),())))]))*24≤140737488355328)<|
qad v1n v17 (0:Int) v15 v16 v17 (wi (we ((wM v1n h8)++[(v17,((wm v15 (wo v17) (0:Int)),((0:Int),())))]))) (0:Int) h8 h9 ((wM v1n h8)++[(v17,((wm v15 (wo v17) (0:Int)),((0:Int),())))])
else
some (h9)):=SE
theorem qLi (v1n:Nat) (v6:Int) (v8:Int) (v15:List Int) (v16:Int) (v17:Int) (v28:Int) (v29:Int) (h8:List qea) (h9:List qea):qbd v1n v6 v8 v15 v16 v17 v28 v29 h8 h9=(
if (decide (v29<v28))=true then
gd (0≤v29)<|
gd (v29<(wi (we h8)))<|
letI e:=(wd .i64 (v29+(1:Int)))
letI c:=(wm h8 (0+(wo v29)) (qua qia))
if (c.1 != v6)=true then
qbd v1n v6 v8 v15 v16 v17 v28 e h8 h9
else
letI d:=(wd .i64 (c.2.1+c.2.2.1))
if (decide (c.2.1>v8))=true then
letI f:=(wd .i64 (c.2.1 - v8))
gd ((we (h9++[(v6,(v8,(f,())))]))*24≤140737488355328)<|
qbd v1n v6 (if d>v8 then d else v8) v15 v16 v17 v28 e h8 (h9++[(v6,(v8,(f,())))])
else
qbd v1n v6 (if d>v8 then d else v8) v15 v16 v17 v28 e h8 h9
else
qvc v1n v15 v16 (wd .i64 (v17+(1:Int))) h8 h9):=SE
theorem qKi (v1n:Nat) (v6:Int) (v8:Int) (v15:List Int) (v16:Int) (v17:Int) (v28:Int) (v29:Int) (h8:List qea) (h9:List qea) (h10:List qea):qad v1n v6 v8 v15 v16 v17 v28 v29 h8 h9 h10=(
if (decide (v29<v28))=true then
gd (0≤v29)<|
gd (v29<(wi (we h10)))<|
letI e:=(wd .i64 (v29+(1:Int)))
letI c:=(wm h10 (0+(wo v29)) (qua qia))
if (c.1 != v6)=true then
qad v1n v6 v8 v15 v16 v17 v28 e h8 h9 h10
else
letI d:=(wd .i64 (c.2.1+c.2.2.1))
if (decide (c.2.1>v8))=true then
letI f:=(wd .i64 (c.2.1 - v8))
gd ((we (h9++[(v6,(v8,(f,())))]))*24≤140737488355328)<|
qad v1n v6 (if d>v8 then d else v8) v15 v16 v17 v28 e h8 (h9++[(v6,(v8,(f,())))]) h10
else
qad v1n v6 (if d>v8 then d else v8) v15 v16 v17 v28 e h8 h9 h10
else
qvc v1n v15 v16 (wd .i64 (v17+(1:Int))) h8 h9):=SE
noncomputable def vEa:FN:={f:=17,cuts:=[⟨(9,3),[0,1,7,8,26,27,28],false,false,[9],[],[]⟩,⟨(16,3),[0,1,7,8,11,47,48,49],false,false,[9],[],[]⟩,⟨(27,3),[0,8,82,83,84],false,false,[],[8],[]⟩],tab:=[SS vY,SS vFc,qQt (fun _=>true),SS vS,SS vKa],fm:=⟨true,[.val (.slice T_api_Member) [.nw], .val (.int .i64) []]⟩}
noncomputable def qfl (a0:List qca) (a1:List qja):Option (List qfa×Int):=vEa.call [(.sl qra false a0),(.sl qGa false a1)] []
noncomputable def qGj (v0:List qca) (v1:List qja) (v26:List qca) (v27:Int) (v28:Int) (h8:List Int) (h9:List (ByteArray×List Int)):Option (List qfa×Int):=vEa.sem ⟨[.code (cIn (cIn (qaa (qEa (qaa (qaa (qaa (qaa (qaa (qda wg 17)))))))))), .inLoop (cIn (cIn (qaa (qEa (qaa (qaa (qaa (qaa (qaa (qda wg 17)))))))))), .inBlock 0, .code (qaa (qaa (qaa (qaa (qaa (qaa (qda wg 17)))))))],⟨[(0,(.one (.sl qra false v0))),(1,(.one (.sl qGa false v1))),(7,(.one (.ref (.int .i64) 8 0 (we h8) true))),(8,(.one (.ref T_api_Member 9 0 (we (qxi (a:= .str) (e:=(.int .u8)) h9)) true))),(26,(.one (.sl qra false v26))),(27,(.one (.int .i64 v27))),(28,(.one (.int .i64 v28)))],[(8,some (.row (.int .i64) true h8)),(9,some (.famS .str (.int .u8) h9))],10⟩⟩
noncomputable def qxe (v0:List qca) (v1:List qja) (v47:List qja) (v48:Int) (v49:Int) (h8:List Int) (h9:List (ByteArray×List Int)) (h10:List qea):Option (List qfa×Int):=vEa.sem ⟨[.code (cIn (cIn (qaa (qEa (qaa (qaa (qaa (qaa (qaa (qaa (qaa (qda wg 17)))))))))))), .inLoop (cIn (cIn (qaa (qEa (qaa (qaa (qaa (qaa (qaa (qaa (qaa (qda wg 17)))))))))))), .inBlock 2, .code (qaa (qaa (qaa (qaa (qaa (qaa (qaa (qaa (qda wg 17)))))))))],⟨[(0,(.one (.sl qra false v0))),(1,(.one (.sl qGa false v1))),(7,(.one (.ref (.int .i64) 8 0 (we h8) true))),(8,(.one (.ref T_api_Member 9 0 (we (qxi (a:= .str) (e:=(.int .u8)) h9)) true))),(11,(.one (.ref qia 10 0 (we h10) true))),(47,(.one (.sl qGa false v47))),(48,(.one (.int .i64 v48))),(49,(.one (.int .i64 v49)))],[(8,some (.row (.int .i64) true h8)),(9,some (.famS .str (.int .u8) h9)),(10,some (.row qia true h10))],11⟩⟩
noncomputable def qBh (v0:List qca) (v83:Int) (v84:Int) (h8:List qfa):Option (List qfa×Int):=vEa.sem ⟨[.code (cIn (cIn (qaa (qEa (qaa (qaa (qaa (qaa (qaa (qaa (qaa (qaa (qaa (qaa (qda wg 17))))))))))))))), .inLoop (cIn (cIn (qaa (qEa (qaa (qaa (qaa (qaa (qaa (qaa (qaa (qaa (qaa (qaa (qda wg 17))))))))))))))), .inBlock 4, .code (qaa (qaa (qaa (qaa (qaa (qaa (qaa (qaa (qaa (qaa (qaa (qda wg 17))))))))))))],⟨[(0,(.one (.sl qra false v0))),(8,(.one (.ref T_api_Member 8 0 (we h8) true))),(82,(.one (.ref T_api_Member 8 0 (we h8) true))),(83,(.one (.int .i64 v83))),(84,(.one (.int .i64 v84)))],[(8,some (.row T_api_Member true h8))],9⟩⟩
theorem qmA (a0:List qca) (a1:List qja):qfl a0 a1=(
(qLh a0).bind fun r1=>
if (r1 != (0:Int))=true then
some ([],r1)
else
if (decide ((wi (we a1))>(600:Int)))=true then
some ([],(4:Int))
else
qGj a0 a1 a0 (wi (we a0)) (0:Int) [] []):=CE
theorem qWm (v0:List qca) (v1:List qja) (v26:List qca) (v27:Int) (v28:Int) (h8:List Int) (h9:List (ByteArray×List Int)):qGj v0 v1 v26 v27 v28 h8 h9=(
if (decide (v28<v27))=true then
gd (0≤v28)<|
gd (v28<(wi (we v26)))<|
letI c:=(wm v26 (wo v28) (qua qra))
letI e:=(h8++[c.2.1])
gd ((we e)*8≤140737488355328)<|
gd (c.2.1=c.2.1)<|
gd (0≤c.2.1)<|
gd (c.2.1*1≤140737488355328)<|
gd (c.2.1≤9223372036854775807)<|
letI d:=(h9++[(c.1,(wn (wo c.2.1) (0:Int)))])
gd ((we d)*40≤140737488355328)<|
qGj v0 v1 v26 v27 (wd .i64 (v28+(1:Int))) e d
else
qxe v0 v1 v1 (wi (we v1)) (0:Int) h8 h9 []):=SE
theorem qVm (v0:List qca) (v1:List qja) (v47:List qja) (v48:Int) (v49:Int) (h8:List Int) (h9:List (ByteArray×List Int)) (h10:List qea):qxe v0 v1 v47 v48 v49 h8 h9 h10=(
if (decide (v49<v48))=true then
gd (0≤v49)<|
gd (v49<(wi (we v47)))<|
letI c:=(wm v47 (wo v49) (qua qGa))
(qTm h8 c.1).bind fun r2=>
if (not r2)=true then
some ([],(8:Int))
else
if ((wi (we c.2.1)) != c.1.2.2.1)=true then
some ([],(8:Int))
else
gd ((we (h10++[c.1]))*24≤140737488355328)<|
qxe v0 v1 v47 v48 (wd .i64 (v49+(1:Int))) h8 h9 (h10++[c.1])
else
(qNl v1 h9).bind fun r3=>
if (not r3.1)=true then
some ([],(14:Int))
else
(qMl h8 h10).bind fun r4=>
if (decide ((wi (we r4))>(0:Int)))=true then
some ([],(40:Int))
else
qBh v0 (wi (we (qxi (a:= .str) (e:=(.int .u8)) h9))) (0:Int) (qxi (a:= .str) (e:=(.int .u8)) r3.2)):=SE
theorem qUm (v0:List qca) (v83:Int) (v84:Int) (h8:List qfa):qBh v0 v83 v84 h8=(
if (decide (v84<v83))=true then
gd (0≤v84)<|
gd (v84<(wi (we h8)))<|
letI c:=(wo v84)
(qXt (wm h8 (0+c) (qua T_api_Member)).2.1).bind fun r5=>
gd (0≤v84)<|
gd (v84<(wi (we v0)))<|
if (not (peq (.arr 20 (.int .u8)) r5.1 (wm v0 c (qua qra)).2.2.1))=true then
some ([],(22:Int))
else
qBh v0 v83 (wd .i64 (v84+(1:Int))) h8
else
some (h8,(0:Int))):=SE
noncomputable def vD:FN:={f:=18,cuts:=[⟨(4,3),[0,1,5],false,false,[],[],[]⟩],tab:=[],fm:=⟨true,[.val .bool []]⟩}
noncomputable def qKd (a0:List qfa) (a1:List qfa):Option (Bool):=vD.call [(.sl T_api_Member false a0),(.sl T_api_Member false a1)] []
noncomputable def qVb (v0:List qfa) (v1:List qfa) (v5:Int):Option (Bool):=vD.sem ⟨[.code (cIn (cIn (qaa (qEa (qaa (qaa (qda wg 18))))))), .inLoop (cIn (cIn (qaa (qEa (qaa (qaa (qda wg 18))))))), .inBlock 0, .code (qaa (qaa (qaa (qda wg 18))))],⟨[(0,(.one (.sl T_api_Member false v0))),(1,(.one (.sl T_api_Member false v1))),(5,(.one (.int .i64 v5)))],[],8⟩⟩
theorem qvj (a0:List qfa) (a1:List qfa):qKd a0 a1=(
if ((wi (we a0)) != (wi (we a1)))=true then
some (false)
else
qVb a0 a1 (0:Int)):=CE
theorem qSd (v0:List qfa) (v1:List qfa) (v5:Int):qVb v0 v1 v5=(
letI d:=(wi (we v0))
if (decide (v5<d))=true then
gd (0≤v5)<|
gd (v5<d)<|
gd (0≤v5)<|
letI f:=(wi (we v1))
gd (v5<f)<|
letI e:=(wo v5)
letI c:=(qua T_api_Member)
letI i:=(wm v1 e c)
letI g:=(wm v0 e c)
if (not ((wW g.1)==(wW i.1)))=true then
some (false)
else
gd (0≤v5)<|
gd (v5<d)<|
gd (0≤v5)<|
gd (v5<f)<|
if (not ((wW (qFk g.2.1))==(wW (qFk i.2.1))))=true then
some (false)
else
qVb v0 v1 (wd .i64 (v5+(1:Int)))
else
some (true)):=SE
noncomputable def bitlofttop_TopBlock_I:FN:={f:=3,cuts:=[⟨(13,3),[1,2,5,6,12,15,16,17],false,false,[],[],[]⟩],tab:=[SS vbb,SS vNa,SS vba,SS vd,SS vpb,SS vtc,SS vlb,SS vHb,SS via,SS vPb,SS vzb,SS vha,SS vL,SS vEa,SS vD],fm:=⟨true,[.val .bool []]⟩}
noncomputable def qMf (a0:qpa) (a1:List qfa):Option (Bool):=bitlofttop_TopBlock_I.call [(.agg T_api_Settings (inj false T_api_Settings a0)),(.sl T_api_Member false a1)] []
noncomputable def qyb (v1:List qfa) (v5:Bool) (v17:Int) (b8:qpa) (h9:List qja) (h10:List qca) (h11:List Int) (h12:List Int):Option (Bool):=bitlofttop_TopBlock_I.sem ⟨[.code (cIn (cIn (qaa (qEa (qaa (qaa (qaa (qaa (qaa (qaa (qaa (qaa (qaa (qaa (qda wg 3))))))))))))))), .inLoop (cIn (cIn (qaa (qEa (qaa (qaa (qaa (qaa (qaa (qaa (qaa (qaa (qaa (qaa (qda wg 3))))))))))))))), .inBlock 0, .code (qaa (qaa (qaa (qaa (qaa (qaa (qaa (qaa (qaa (qaa (qaa (qda wg 3))))))))))))],⟨[(1,(.one (.sl T_api_Member false v1))),(2,(.one (.ptr T_api_Settings 8 []))),(5,(.one (.bool v5))),(6,(.one (.ref qGa 9 0 (we h9) true))),(12,(.one (.ref qra 10 0 (we h10) true))),(15,(.one (.ref (.int .u8) 11 0 (we h11) true))),(16,(.one (.ref (.int .i64) 12 0 (we h12) true))),(17,(.one (.int .i64 v17)))],[(8,some (.box T_api_Settings (inj false T_api_Settings b8))),(9,some (.row qGa true h9)),(10,some (.row qra true h10)),(11,some (.row (.int .u8) true h11)),(12,some (.row (.int .i64) true h12))],13⟩⟩
theorem qQm (a0:qpa) (a1:List qfa):qMf a0 a1=(
(qMg).bind fun r1=>
(qOg a0).bind fun r2=>
if (r2 != (0:Int))=true then
some (r1)
else
(qNg a0.1 a1).bind fun r3=>
if (not r3)=true then
some (r1)
else
(qbb a1).bind fun r4=>
if (r4 != (0:Int))=true then
some (r1)
else
if (not r1)=true then
some (r1)
else
(qSt a1 a0.2.1).bind fun r5=>
(qYu a1).bind fun r6=>
(qrn r6.1).bind fun r7=>
(qxp r7.1 (wi (we a1))).bind fun r8=>
if (r5.2 != (0:Int))=true then
some (false)
else
if (r6.2 != (0:Int))=true then
some (false)
else
if (r7.2 != (0:Int))=true then
some (false)
else
if (r8.2.2 != (0:Int))=true then
some (false)
else
if (r8.2.1 != (wi (we r7.1)))=true then
some (false)
else
(qmh r8.1 r6.1).bind fun r9=>
if (not r9)=true then
some (false)
else
qyb a1 r1 (0:Int) a0 r5.1 r8.1 [] []):=CE
theorem qzf (v1:List qfa) (v5:Bool) (v17:Int) (b8:qpa) (h9:List qja) (h10:List qca) (h11:List Int) (h12:List Int):qyb v1 v5 v17 b8 h9 h10 h11 h12=(
letI e:=(wi (we h9))
if (decide (v17<e))=true then
gd (0≤v17)<|
gd (v17<e)<|
gd (0≤v17)<|
gd (v17<e)<|
letI c:=(wm h9 (0+(wo v17)) (qua qGa))
(qkh b8.1 c.1.1 c.1.2.1 c.2.1).bind fun r10=>
(qtm r10.1).bind fun r11=>
if (r10.2 != (0:Int))=true then
some (false)
else
if (r11.2 != (0:Int))=true then
some (false)
else
letI f:=(h12++[(wi (we h11))])
gd ((we f)*8≤140737488355328)<|
letI d:=(h11++(wM r11.1.2.2 (wea r11.1.2.1 r11.1.1)))
gd ((we d)*1≤140737488355328)<|
qyb v1 v5 (wd .i64 (v17+(1:Int))) b8 h9 h10 d f
else
(qlh b8.1 h11 h12).bind fun r12=>
if (not r12.2)=true then
some (false)
else
(qje r12.1 h9).bind fun r13=>
if (not r13)=true then
some (false)
else
(qfl h10 r12.1).bind fun r14=>
if v5=true then
if (r14.2==(0:Int))=true then
(qKd r14.1 v1).bind fun r15=>
some (r15)
else
some (false)
else
some (false)):=SE
end Go.Ab
