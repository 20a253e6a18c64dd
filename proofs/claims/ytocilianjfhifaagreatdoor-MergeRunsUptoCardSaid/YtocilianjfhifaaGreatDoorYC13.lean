/- Part 13 of the proof (X7, X8, X9, X10, X11); no condition. -/
import Derived.Test.YtocilianjfhifaaGreatDoorYC12
set_option linter.unusedVariables false
set_option linter.unusedSimpArgs false
set_option maxRecDepth 8000
namespace Go.Proofs.YtocilianjfhifaaGreatDoor.Xe
open Sm Bins Cov Wd Go.RowKit
open Bool renaming not_false→jC,false_or→qG,true_or→wE,eq_iff_iff→qM,false_eq_true→jY,true_and→wC,not_true→jT
open List renaming length_map→jI,map_cons→jD,map_nil→jE,append_nil→jF,findIdx?_eq_some_iff_getElem→qU,all_eq_true→zI,take_succ_eq_append_getElem→zL,take_of_length_le→jX,findIdx?_eq_none_iff→qV,drop_eq_nil_of_le→jW,getElem?_eq_getElem→jU,length_append→qB,mem_append→qE,getElem_mem→jS,mem_map→zO,drop_zero→qC,getElem?_cons_zero→zB,getElem?_cons_succ→zG,getElem_of_mem→qX,length_set→qI,getElem?_set_ne→zU,getElem?_map→zH,getElem?_set→zK,drop_eq_getElem_cons→zJ,getD_eq_getElem?_getD→zQ,replicate→jZ,getElem?_drop→qP,getElem?_append_left→zX,contains_nil→jJ
open Nat renaming le_of_ble_eq_true→jH,reduceEqDiff→jA,lt_or_ge→zM,le_refl→jM,add_zero→jL,zero_add→jG,reduceAdd→jK,le_trans→zZ
open Option renaming getD_some→jB,getD_none→jP
def outW (v:Int):Bool:=decide (v<0)||decide (v>65535)
def lastB (xs:List Int):Bool:=decide (xs.length<=7) && !xs.any outW
theorem WF (n:Int):(encI n)[0]?=some (.int .i64 n):=rfl
section
variable (G:Nat->AV)
theorem AW9 (v:Int)(h:Hp):PCall (En G) 156 [.int .i64 v] h (.bool (outW v)):=by
 refine acN Tryz.func156 rfl ?_;show awp _ _ _ _ _ (EN _ [.tmp 2] _);simp -implicitDefEqProofs only[BC,BA,A8,AY,BB,BL,BV,CO,AO,AQ,AL,BD,AX,AC,AA,AZ,AU,BH,BM,BG,A7,BR,AB,DC,BF,↓reduceIte,jA,jB,jC,enP];cases h1:decide (v<0)
 .simp -implicitDefEqProofs only[BK,A8,CG,AY,BB,BL,BV,CO,ES,AO,AQ,AL,BD,AX,AC,AA,AZ,AU,BH,BM,BG,A7,CQ,DX,BR,AB,FV,BF,↓reduceIte,jA,jB,jC,enP,h1]
  exact⟨by unfold outW; rw[h1]; rfl,trivial⟩
 .simp -implicitDefEqProofs only[BK,A8,CG,AY,BB,BL,BV,CO,F7,AO,AQ,AL,BD,AX,AC,AA,EX,AZ,AU,BM,A7,CQ,DY,↓reduceIte,jA,jB,jC,h1]
  exact⟨by unfold outW; rw[h1]; rfl,trivial⟩
theorem A04 (xs:List Int)(m:SM)(fid:FuncId)(p:Int->Bool)(h:Hp)(hl:xs.length<=1099511627776)(hf:∀r,PCall (En G) fid [.int .i64 r] h (.bool (p r))) :
  PCall (En G) 204 [.sl m 1 (xs.map encI),.fn (.func fid) [] []] h (.int .i64 (match xs.findIdx? p with|some i=>(i:Int)|none => -1)):=by
 refine acN Tryz.func204 rfl ?_;show awp _ _ _ _ _ (EN _ [.tmp 4] _);simp -implicitDefEqProofs only[BC,BP,BA,A8,AY,BB,AO,AQ,AL,BD,AX,AC,AA,AZ,AU,BH,BG,A7,D7,AB,BF,↓reduceIte,jA,jB,jC,enP,JA,jI];refine DK (fun n F H=>∃k,n+k=xs.length∧F 0=.sl m 1 (xs.map encI)∧F 1=.fn (.func fid) [] []∧F 7=.int .i64 xs.length∧F 8=.int .i64 (k:Nat)∧H=h∧(xs.take k).all (fun r => !p r)=true) xs.length ⟨0,by simp,rfl,rfl,rfl,rfl,rfl,rfl⟩ ?_;rintro n F H ⟨k,hk,f0,f1,f7,f8,rfl,hin⟩;simp -implicitDefEqProofs only[BC,BA,BI,A8,AY,BB,AO,AQ,AL,BD,AX,AC,AA,AZ,BR,AB,DC,↓reduceIte,jB,jC,enP,f0,f1,f7,f8,jI];refine CU (fun hc=>?_) (fun hc=>?_)
 .have hc':k<xs.length:=by simpa using hc
  simp -implicitDefEqProofs only[BC,BP,BA,BO,A8,AY,BB,AO,AQ,AL,BD,AX,AC,AA,AZ,BG,A7,BQ,CE,CB,BU,AB,jD,jE,jF,↓reduceIte,jA,jB,jC,enP,JF,f0,f1,f7,f8,DU hc',DF ag3 hc',WF];refine(hf _).use ?_;simp -implicitDefEqProofs only[BI,A8,BB,AC,AA,AZ,↓reduceIte];refine CU (fun hb=>?_) (fun hb=>?_)
  .simp -implicitDefEqProofs only[BC,BA,BK,A8,CP,EG,FQ,CG,AY,BB,AO,AQ,AL,BD,AX,AC,AA,AZ,BG,A7,↓reduceIte,jA,jB,jC]
   refine⟨?_,trivial⟩
   rw[qU.2 ⟨hc',hb,fun j hj=>by
    rw[zI] at hin;have:=hin xs[j] (by rw[List.mem_take_iff_getElem]; exact⟨j,by omega,rfl⟩)
    simpa using this⟩]
  .simp -implicitDefEqProofs only[BA,BO,A8,EJ,EQ,AY,BB,AO,AQ,AL,BD,AX,AC,AA,AZ,AU,BH,BG,BR,AB,CZ,↓reduceIte,jA,jB,jC,enP,f8,wrap_succ (show k<9223372036854775807 by omega)]
   refine⟨n-1,by omega,k+1,by omega,f0,f1,f7,rfl,trivial,?_⟩;rw[zL hc',List.all_append,hin];simp only[List.all_cons,List.all_nil,hb]; rfl
 .have hc':¬k<xs.length:=by simpa using hc
  simp -implicitDefEqProofs only[BC,BA,BK,DJ,A8,EI,EW,ET,CG,AY,BB,AO,AQ,AL,BD,AX,AC,AA,AU,BH,A7,↓reduceIte,jB,jC];refine⟨?_,trivial⟩;rw[jX (by omega)] at hin;rw[qV.2 (by simpa using hin)]
theorem ARS (xs:List Int)(m:SM)(fid:FuncId)(p:Int->Bool)(h:Hp)(hl:xs.length<=1099511627776)(hf:∀r,PCall (En G) fid [.int .i64 r] h (.bool (p r))) :
  PCall (En G) 155 [.sl m 1 (xs.map encI),.fn (.func fid) [] []] h (.bool (xs.any p)):=by
 refine acN Tryz.func155 rfl ?_;show awp _ _ _ _ _ (EN _ [.tmp 4] _);simp -implicitDefEqProofs only[BC,BA,A8,AY,BB,AO,AQ,AL,BD,AX,AC,AA,AZ,AU,BX,BM,BG,A7,CB,BU,BF,BN,jD,jE,jF,↓reduceIte,jA,jB,jC,enP];refine(A04 G xs m fid p h hl hf).use ?_;simp -implicitDefEqProofs only[BK,A8,CG,AY,BB,AO,AQ,AL,BD,AX,AC,AA,AZ,AU,BH,A7,BR,AB,G5,↓reduceIte,jB,jC,enP];refine⟨?_,trivial⟩
 cases hx:xs.findIdx? p with
 | some i =>
   obtain⟨h1,h2,_⟩:=qU.1 hx;have:xs.any p=true:=List.any_eq_true.2 ⟨xs[i],by simp,h2⟩;simp [this]
 | none =>
   have:xs.any p=false:=by
    rw[qV] at hx;rw[List.any_eq_false]; intro x hx2; simp [hx x hx2]
   simp [this]
theorem AHS (xs:List Int)(m:SM)(h:Hp)(hl:xs.length<=1099511627776):PCall (En G) 98 [.sl m 1 (xs.map encI)] h (.bool (lastB xs)):=by
 refine acN Tryz.func98 rfl ?_;show awp _ _ _ _ _ (EN _ [.tmp 2] _);simp -implicitDefEqProofs only[BC,BA,A8,AY,BB,BL,BV,CO,AO,AQ,AL,BD,AX,AC,AA,AZ,AU,BH,BM,BG,A7,BR,D7,AB,JC,BF,↓reduceIte,jA,jB,jC,enP,JA,jI];have e7:decide (((xs.length:Nat):Int)<=7)=decide (xs.length<=7):=lec xs.length 7;rw[e7];cases h7:decide (xs.length<=7)
 .simp -implicitDefEqProofs only[BK,A8,CG,AY,BB,BL,BV,CO,IX,AO,AQ,AL,BD,AX,AC,AA,EX,AZ,AU,BM,A7,CQ,DX,↓reduceIte,jA,jB,jC]
  exact⟨by unfold lastB; rw[h7]; rfl,trivial⟩
 .simp -implicitDefEqProofs only[BL,BV,CO,F9,AO,AQ,AL,BD,AX,AC,AA,AZ,BX,BG,CB,BU,BF,jD,jE,jF,↓reduceIte,jA,jB,jC]
  refine(ARS G xs m 156 outW h hl (fun r=>AW9 G r h)).use ?_;simp -implicitDefEqProofs only[BK,A8,CG,AY,BB,BL,BV,CO,F9,AO,AQ,AL,BD,AX,AC,AA,AZ,AU,BM,A7,CQ,DY,IE,AB,FK,↓reduceIte,jA,jB,jC];exact⟨by unfold lastB; rw[h7]; rfl,trivial⟩
theorem AE0 {α:Type}(p:α->Bool)(xs:List α)(k:Nat)(hk:k<xs.length):(xs.drop k).any p=(p xs[k]||(xs.drop (k+1)).any p):=LD p xs k hk
theorem AF9 (xs:List Int)(m:SM)(h:Hp)(hl:xs.length<=1099511627776):PCall (En G) 103 [.sl m 1 (xs.map encI)] h (.bool (lastB xs)):=by
 refine acN Tryz.func103 rfl ?_;show awp _ _ _ _ _ (EN _ [.tmp 2] _);simp -implicitDefEqProofs only[BC,BP,BA,A8,AY,BB,AO,AQ,AL,BD,AX,AC,AU,BH,BM,A7,jB,jC,enP];refine DK (fun n F H=>∃k,n+k=xs.length∧F 0=.sl m 1 (xs.map encI)∧F 3=.int .i64 (k:Nat)∧H=h∧xs.any outW=(xs.drop k).any outW) xs.length ⟨0,by simp,rfl,by simp -implicitDefEqProofs only[AA,↓reduceIte]<;>rfl,rfl,rfl⟩ ?_;rintro n F H ⟨k,hk,f0,f3,rfl,hin⟩;simp -implicitDefEqProofs only[BC,BA,BI,A8,AY,BB,AO,AQ,AL,BD,AX,AC,AA,AZ,BG,BR,D7,AB,DC,↓reduceIte,jA,jB,jC,enP,JA,f0,f3,jI];refine CU (fun hc=>?_) (fun hc=>?_)
 .have hk':k<xs.length:=by simpa using hc
  rw[AE0 _ _ _ hk'] at hin;have ho:outW xs[k]=(decide (xs[k]<0)||decide (xs[k]>65535)):=rfl;simp -implicitDefEqProofs only[BC,BP,BA,BO,A8,AY,BL,BV,CO,AO,AQ,AL,BD,AX,AC,AA,AZ,AU,BH,BG,BQ,BR,CE,AB,DC,↓reduceIte,jA,jB,jC,enP,JF,f0,f3,DU hk',DF ag3 hk',WF];cases h1:decide (xs[k]<0)
  .rw[h1,qG] at ho
   simp -implicitDefEqProofs only[BI,A8,AY,BB,BL,BV,CO,ES,AO,AQ,AL,BD,AX,AC,AA,AZ,AU,BH,BM,BG,CQ,DX,BQ,BR,CE,AB,FV,↓reduceIte,jA,jB,jC,enP,JF,h1,f0,f3,DU hk',DF ag3 hk',WF];cases h2:decide (xs[k]>65535)
   .simp -implicitDefEqProofs only[BA,BO,A8,EJ,EQ,DT,AY,BB,AO,AQ,AL,BD,AX,AC,AA,AZ,AU,BH,BG,A7,BR,AB,CZ,↓reduceIte,jA,jB,jC,enP,f3,wrap_succ (show k<9223372036854775807 by omega)]
    exact⟨n-1,by omega,k+1,by omega,by trivial,by trivial,trivial,by rw[hin,ho,h2]; rfl⟩
   .simp -implicitDefEqProofs only[BC,BA,BK,A8,CP,EG,FQ,CG,DI,AY,BB,AO,AQ,AL,BD,AX,AC,AA,AU,BM,A7,↓reduceIte,jB,jC]
    exact⟨by unfold lastB; rw[hin,ho,h2]; simp,trivial⟩
  .rw[h1,wE] at ho
   simp -implicitDefEqProofs only[BC,BA,BK,BI,A8,CP,EG,FQ,CG,DI,AY,BB,BL,BV,CO,F7,AO,AQ,AL,BD,AX,AC,AA,EX,AZ,AU,BM,A7,CQ,DY,↓reduceIte,jA,jB,jC];exact⟨by unfold lastB; rw[hin,ho]; simp,trivial⟩
 .have hk':¬k<xs.length:=by simpa using hc
  have e7:decide (((xs.length:Nat):Int)<=7)=decide (xs.length<=7):=lec xs.length 7;simp -implicitDefEqProofs only[BC,BA,BK,DJ,A8,EI,EW,ET,CG,AY,BB,AO,AQ,AL,BD,AX,AC,AA,AZ,AU,BH,BG,A7,BR,D7,AB,JC,↓reduceIte,jA,jB,jC,enP,JA,f0,jI,e7];rw[jW (by omega)] at hin;exact⟨by unfold lastB; rw[hin]; simp,trivial⟩
end
def hK (last:List Int)(v kind:Int)(b:Bin):Bool:=(b.kind==kind)&&(if(kind==0)=true then hit b last v else inside b.ranges.l v)
def NM (bins:List Bin)(last:List Int)(v kind:Int):Nat->List Nat
 | 0=>[]
 | k+1=>NM bins last v kind k++(if((bins[k]?.map (hK last v kind)).getD false)=true then [k] else [])
def ZC (p:Pt)(last:List Int)(v kind:Int):List Nat:=NM p.bins last v kind p.bins.length
theorem YG (bins:List Bin)(last:List Int)(v kind:Int)(k:Nat)(hk:k<bins.length):NM bins last v kind (k+1)=NM bins last v kind k++(if hK last v kind bins[k]=true then [k] else []):=by
 simp only[NM,jU hk,Option.map_some,jB]
theorem WZ (bins:List Bin)(last:List Int)(v kind:Int):∀k,(NM bins last v kind k).length<=k
 | 0=>by simp [NM]
 | k+1=>by
   have:=WZ bins last v kind k;simp only[NM,qB];split<;>simp<;>omega
theorem AD3 (bins:List Bin)(last:List Int)(v kind:Int):∀k,∀x∈NM bins last v kind k,x<k
 | 0,x,hx=>by simp [NM] at hx
 | k+1,x,hx=>by
   simp only[NM] at hx;rcases qE.1 hx with h|h
   .have:=AD3 bins last v kind k x h; omega
   .split at h
    .simp at h; omega
    .cases h
theorem AGE (bins:List Bin)(last:List Int)(v kind:Int):∀k,decide (0<(NM bins last v kind k).length)=(bins.take k).any (hK last v kind)
 | 0=>by simp [NM]
 | k+1=>by
   have ih:=AGE bins last v kind k;rcases zM k bins.length with hk|hk
   .rw[YG _ _ _ _ _ hk,zL hk,List.any_append,<-ih,qB,qM]
    simp only[List.any_cons,List.any_nil,Bool.or_false,Bool.or_eq_true,decide_eq_true_eq];split
    .rename_i h; simp [h]
    .rename_i h; simp [h]
   .rw[jX (by omega)]
    rw[jX hk] at ih;rw[<-ih];simp only[NM,List.getElem?_eq_none hk,Option.map_none,jP,jY,if_false,jF]
def OV (m:SM)(last:List Int)(v:Int):List AV:=[.sl m 1 (last.map encI),.int .i64 v]
theorem AVH (h:Hp)(m:SM)(last:List Int)(v:Int):PW h (.agg (OV m last v))=some (.ptr h.length 0 0,h++[ABlk.live 2 [OV m last v]]):=ZR rfl
theorem APF {h:Hp}{b:Nat}{m:SM}{last:List Int}{v:Int}(hb:h[b]?=some (.live 2 [OV m last v])):EH Tryz.prog h 133 (.ptr b 0 0)=some (.agg (OV m last v)):=by
 rw[JY A4E AZK hb rfl (by exact jM 2)]; rfl
theorem ATV {h:Hp}{b:Nat}{x:Bin}(hb:h[b]?=some (.live 4 [GV x])):EH Tryz.prog h 121 (.ptr b 0 0)=some (.agg (GV x)):=by
 rw[JY VF QK hb rfl (by exact jM 4)]; rfl
theorem AF2 {b:Bin}(hb:BinOk b):b.ranges.l.length<=1099511627776:=by
 rcases Nat.eq_zero_or_pos b.ranges.l.length with h|h
 .omega
 .exact hb.sets b.ranges (by unfold sets; rw[if_pos h]; simp)
section
variable (G:Nat->AV)
theorem AIM (hG:GOk G)(b:Bin)(hb:BinOk b)(last:List Int)(m:SM)(v:Int)(h:Hp)(hl:last.length<=8388608):PCall (En G) 211 [.agg (OV m last v),.agg (GV b)] h (.bool (hit b last v)):=by
 refine ACalls.pure0 rfl ?_;refine acN Tryz.func211 rfl ?_;show awp _ _ _ _ _ (EN _ [.tmp 4] _);have g1:=CV (x:=ABlk.live 4 [GV b]) (CY h (ABlk.live 2 [OV m last v]));have g2:=CY (h++[ABlk.live 2 [OV m last v]]) (ABlk.live 4 [GV b]);have hx:ext h (h++[ABlk.live 2 [OV m last v]]++[ABlk.live 4 [GV b]]):=((ext.rfl' h).app _).app _;simp -implicitDefEqProofs only[BC,BA,A8,AY,BB,AO,AQ,AL,BD,AX,AC,AA,AZ,AU,BM,A7,FU,BQ,BZ,BF,BN,↓reduceIte,jA,jB,jC,enP,AVH,bxB]
 generalize h++[ABlk.live 2 [OV m last v]]++[ABlk.live 4 [GV b]]=H at g1 g2 hx|-
 generalize (h++[ABlk.live 2 [OV m last v]]).length=bb at g2|-
 have l0:EH Tryz.prog H 57 (.ptr h.length 0 0)=some (.sl m 1 (last.map encI)):=by rw[DW KC g1 (row:=OV m last v) rfl]; rfl
 have l1:EH Tryz.prog H 3 (.ptr h.length 0 1)=some (.int .i64 v):=by rw[DW ag3 g1 (row:=OV m last v) rfl]; rfl
 simp -implicitDefEqProofs only[AY,AO,AQ,AL,BD,AX,AC,AA,AZ,BX,BQ,BJ,CB,BU,AB,jD,jE,jF,↓reduceIte,jA,jL,jG,jB,jC,enP,AX9,APM,ATV g2,l0,l1];refine(AT9 G hG.kw b hb last m v H hl).use ?_;simp -implicitDefEqProofs only[BK,A8,CG,AY,BB,AO,AQ,AL,BD,AX,AC,AA,AZ,A7,↓reduceIte,jB,jC];exact⟨trivial,hx⟩
theorem AER (b:Bin)(hb:BinOk b)(last:List Int)(m:SM)(v:Int)(h:Hp):PCall (En G) 212 [.agg (OV m last v),.agg (GV b)] h (.bool (inside b.ranges.l v)):=by
 refine ACalls.pure0 rfl ?_;refine acN Tryz.func212 rfl ?_;show awp _ _ _ _ _ (EN _ [.tmp 4] _);have g1:=CV (x:=ABlk.live 4 [GV b]) (CY h (ABlk.live 2 [OV m last v]));have g2:=CY (h++[ABlk.live 2 [OV m last v]]) (ABlk.live 4 [GV b]);have hx:ext h (h++[ABlk.live 2 [OV m last v]]++[ABlk.live 4 [GV b]]):=((ext.rfl' h).app _).app _;simp -implicitDefEqProofs only[BC,BA,A8,AY,BB,AO,AQ,AL,BD,AX,AC,AA,AZ,AU,BM,A7,FU,BQ,BJ,BZ,AB,BF,BN,↓reduceIte,jA,jG,jB,jC,enP,QV,AVH,bxB]
 generalize h++[ABlk.live 2 [OV m last v]]++[ABlk.live 4 [GV b]]=H at g1 g2 hx|-
 generalize (h++[ABlk.live 2 [OV m last v]]).length=bb at g2|-
 have l2:EH Tryz.prog H 118 (.ptr bb 0 2)=some (.sl b.ranges.m 2 (b.ranges.l.map encR)):=by rw[DW PE g2 (row:=GV b) rfl]; rfl
 have l1:EH Tryz.prog H 3 (.ptr h.length 0 1)=some (.int .i64 v):=by rw[DW ag3 g1 (row:=OV m last v) rfl]; rfl
 simp -implicitDefEqProofs only[AY,AO,AQ,AL,BD,AX,AC,AA,AZ,BX,BQ,BJ,CB,BU,AB,jD,jE,jF,↓reduceIte,jA,jG,jB,jC,enP,APM,l2,l1];refine(inside_prog G b.ranges.l b.ranges.m v H (AF2 hb)).use ?_;simp -implicitDefEqProofs only[BK,A8,CG,AY,BB,AO,AQ,AL,BD,AX,AC,AA,AZ,A7,↓reduceIte,jB,jC];exact⟨trivial,hx⟩
theorem AHQ (kind:Int)(h:Hp):PCall (En G) 159 [.int .i64 kind] h (.fn (.func (if(kind==0)=true then 211 else 212)) [] []):=by
 refine acN Tryz.func159 rfl ?_;show awp _ _ _ _ _ (EN _ [.tmp 2] _);simp -implicitDefEqProofs only[BC,BA,BI,A8,AY,BB,AO,AQ,AL,BD,AX,AC,AA,AZ,AU,BH,AVU,BG,A7,BR,AB,EC,BF,↓reduceIte,jA,jB,jC,enP];cases hk:(kind==0)
 .simp -implicitDefEqProofs only[BC,BA,BO,BK,A8,CG,DT,AY,BB,AO,AQ,AL,BD,AX,AC,AA,BX,A7,↓reduceIte,jB,jC,jY]
  exact⟨by simp,trivial⟩
 .simp -implicitDefEqProofs only[BC,BA,BK,A8,CP,CG,DI,AY,BB,AO,AQ,AL,BD,AX,AC,AA,BX,A7,↓reduceIte,jB,jC]
  exact⟨by simp,trivial⟩
theorem AAM (hG:GOk G)(p:Pt)(hp:PtOk p)(last:List Int)(m:SM)(v kind:Int)(h:Hp)(hl:last.length<=8388608) :
  PCall (En G) 101 [.agg (GM p),.agg (OV m last v),.int .i64 kind] h (.sl (nm (ZC p last v kind)) 1 ((ZC p last v kind).map IG)):=by
 refine MW AQ9 ?_;have hnum:=hp.num;refine acN Tryz.func101 rfl ?_;show awp _ _ _ _ _ (EN _ [.tmp 6] _);have gp:=CV (x:=ABlk.live 2 [OV m last v]) (CY h (ABlk.live 6 [GM p]));have gx:=CY (h++[ABlk.live 6 [GM p]]) (ABlk.live 2 [OV m last v]);have hx:ext h (h++[ABlk.live 6 [GM p]]++[ABlk.live 2 [OV m last v]]):=((ext.rfl' h).app _).app _;have hbl:h.length<=(h++[ABlk.live 6 [GM p]]).length:=by simp
 simp -implicitDefEqProofs only[BC,BA,A8,AY,BB,AO,AQ,AL,BD,AX,AC,AA,AZ,AU,IK,A7,FU,BQ,BJ,BZ,AB,BF,BN,↓reduceIte,jA,jG,jB,jC,enP,JB,bxP,AVH]
 generalize h++[ABlk.live 6 [GM p]]++[ABlk.live 2 [OV m last v]]=H1 at gp gx hx|-
 generalize (h++[ABlk.live 6 [GM p]]).length=xb at gx hbl|-
 have l5:EH Tryz.prog H1 54 (.ptr h.length 0 5)=some (.sl p.bm 4 (p.bins.map GV)):=by rw[DW SG gp (row:=GM p) rfl,NS]
 simp -implicitDefEqProofs only[BP,A8,AY,BB,AO,AQ,AL,BD,AX,AC,AA,AZ,AU,BH,BG,D7,AB,↓reduceIte,jB,jC,enP,RQ,l5,jI]
 refine DK (fun n F H=>∃k u,n+k=p.bins.length∧F 2=.int .i64 kind∧F 4=.ptr xb 0 0∧F 7=u∧F 11=.sl p.bm 4 (p.bins.map GV)∧F 12=.int .i64 (p.bins.length:Nat)∧F 13=.int .i64 (k:Nat)∧ext H1 H∧outG 1 IG H1 (NM p.bins last v kind k) u H) p.bins.length
  ⟨0,.sl .nil 0 [],by simp,by simp -implicitDefEqProofs only[AA,BF,BN,↓reduceIte,jA],by simp -implicitDefEqProofs only[AA,↓reduceIte,jA],by simp -implicitDefEqProofs only[AA,↓reduceIte,jA],by simp -implicitDefEqProofs only[AA,↓reduceIte,jA],by simp -implicitDefEqProofs only[AA,↓reduceIte,jA],by simp -implicitDefEqProofs only[AA,↓reduceIte]; rfl,ext.rfl' _,outG.nil _ _ _ _⟩ ?_
 rintro n F H ⟨k,u,hk,f2,f4,f7,f11,f12,f13,hxH,ho⟩;simp -implicitDefEqProofs only[BC,BA,BI,A8,AY,BB,AO,AQ,AL,BD,AX,AC,AA,AZ,BR,AB,DC,↓reduceIte,jB,jC,enP,f12,f13];refine CU (fun hc=>?_) (fun hc=>?_)
 .have hk':k<p.bins.length:=by simpa using hc
  have hbok:=hp.bins _ (jS hk');have gxH:=FP (hxH.app [ABlk.live 4 [GV p.bins[k]]]) gx;have gb:=CY H (ABlk.live 4 [GV p.bins[k]]);have hx1:=hxH.app [ABlk.live 4 [GV p.bins[k]]];have ho1:=ho.app [ABlk.live 4 [GV p.bins[k]]];have hlen:=WZ p.bins last v kind k;have hs:=YG p.bins last v kind k hk';simp -implicitDefEqProofs only[BC,BP,BA,BO,A8,AY,BB,AO,AQ,AL,BD,AX,AC,EM,AA,AZ,BG,A7,FD,BQ,D5,CE,BZ,AB,CX,↓reduceIte,jA,jB,jC,enP,YD,jP,f11,f13,DU hk',FM VF QK MJ hk',AY3,A0G _ _ [.str ⟨#[]⟩,.int .i64 0,.sl .nil 0 [],.sl .nil 0 []] rfl]
  generalize H++[ABlk.live 4 [GV p.bins[k]]]=H2 at gxH gb hx1 ho1|-
  have lk:EH Tryz.prog H2 3 (.ptr H.length 0 1)=some (.int .i64 p.bins[k].kind):=by rw[DW ag3 gb (row:=GV p.bins[k]) rfl,UK]
  refine EZ (by kernel_rfl) ?_;simp -implicitDefEqProofs only[FZ,ED,DN,EF,FN,GI,FO,FB,IY,D9,CO,AO,AA,AZ,BQ,BR,BJ,AB,EC,↓reduceIte,jA,jK,jG,jB,enP,MP,lk,f2];cases hq:(p.bins[k].kind==kind)
  .have hK0:hK last v kind p.bins[k]=false:=by unfold hK; rw[hq]; rfl
   rw[hK0] at hs;simp -implicitDefEqProofs only[FZ,ED,DN,E8,EF,FN,GI,AB4,I5,BA,BO,BI,A8,EJ,EQ,DT,AY,BB,CO,AO,AQ,AL,BD,AX,AC,AA,EX,AZ,AU,BH,BM,BG,CQ,DX,BR,AB,CZ,↓reduceIte,jA,jK,jB,jC,enP,hq,f13,wrap_succ (show k<9223372036854775807 by omega)];exact⟨n-1,by omega,k+1,u,by omega,by trivial,by trivial,by trivial,by trivial,by trivial,by trivial,hx1,by rw[hs]; simpa using ho1⟩
  .have hKv:hK last v kind p.bins[k]=if(kind==0)=true then hit p.bins[k] last v else inside p.bins[k].ranges.l v:=by unfold hK; rw[hq]; rfl
   have hcall:PCall (En G) (if(kind==0)=true then 211 else 212) [.agg (OV m last v),.agg (GV p.bins[k])] H2 (.bool (hK last v kind p.bins[k])):=by
    rw[hKv];split
    .exact AIM G hG _ hbok last m v H2 hl
    .exact AER G _ hbok last m v H2
   generalize hf:(if(kind==0)=true then 211 else 212:Nat)=fid at hcall;have hm:=AHQ G kind H2;rw[hf] at hm;simp -implicitDefEqProofs only[FZ,ED,DN,FN,GI,VI,FO,FB,GH,F8,CO,AO,AA,AZ,BX,BQ,jD,jE,jF,↓reduceIte,jA,jK,jB,enP,hq,f2];refine⟨_,hm,?_⟩;simp -implicitDefEqProofs only[FZ,ED,DN,E8,EF,FN,GI,VI,I5,FB,GH,F8,BI,A8,CO,AO,AA,AZ,AU,BM,CQ,DY,BQ,AB,jD,jE,jF,↓reduceIte,jA,jK,jB,enP,f4,APF gxH,ATV gb];refine⟨_,hcall,?_⟩;cases hv:hK last v kind p.bins[k]
   .rw[hv] at hs
    simp -implicitDefEqProofs only[BA,BO,A8,EJ,EQ,DT,AY,BB,AO,AQ,AL,BD,AX,AC,AA,AZ,AU,BH,BG,BR,AB,CZ,↓reduceIte,jA,jB,jC,enP,f13,wrap_succ (show k<9223372036854775807 by omega)];exact⟨n-1,by omega,k+1,u,by omega,by trivial,by trivial,by trivial,by trivial,by trivial,by trivial,hx1,by rw[hs]; simpa using ho1⟩
   .rw[hv,if_pos rfl] at hs
    obtain⟨u',H3,ha,ho2,_,hx2,_,_⟩:=ho1.append (P:=Tryz.prog) TN sz3 XG VN (by omega) (by omega) hx1 k;have ha':H7 Tryz.prog true H2 57 57 u (.sl .full 1 [[.int .i64 ((k:Nat):Int)]])=some (u',H3):=ha;simp -implicitDefEqProofs only[EY,FT,BA,A8,EJ,EQ,DI,AY,BB,AO,AQ,AL,BD,AX,AC,AA,AZ,AU,BH,BG,A7,EP,BR,GR,BZ,AB,CZ,↓reduceIte,jA,jB,jC,enP,f7,f13,ACE,ha',wrap_succ (show k<9223372036854775807 by omega)];exact⟨n-1,by omega,k+1,u',by omega,by trivial,by trivial,by trivial,by trivial,by trivial,by trivial,hx2,by rw[hs]; exact ho2⟩
 .have hk':k=p.bins.length:=by
   have:¬k<p.bins.length:=by simpa using hc
   omega
  subst hk';simp -implicitDefEqProofs only[BC,BA,BK,DJ,A8,EI,EW,ET,CG,AY,BB,AO,AQ,AL,BD,AX,AC,AA,AZ,BG,A7,↓reduceIte,jA,jB,jC,f7];refine⟨hx.trans hxH,?_⟩;rcases ho with⟨e,hu⟩|⟨e,o,h1,h2,h3⟩
  .exact .inl ⟨e,hu⟩
  .exact .inr ⟨e,o,zZ hx.le h1,h2,h3⟩
def inK (bins:List Bin)(kind v:Int):Bool:=bins.any fun b=>(b.kind==kind)&&inside b.ranges.l v
theorem AT4 (p:Pt)(hp:PtOk p)(kind v:Int)(h:Hp):PCall (En G) 105 [.agg (GM p),.int .i64 kind,.int .i64 v] h (.bool (inK p.bins kind v)):=by
 refine ACalls.pure0 rfl ?_;have hnum:=hp.num;refine acN Tryz.func105 rfl ?_;show awp _ _ _ _ _ (EN _ [.tmp 6] _);have gp:=CY h (ABlk.live 6 [GM p]);have hx:ext h (h++[ABlk.live 6 [GM p]]):=(ext.rfl' h).app _;simp -implicitDefEqProofs only[BC,BP,BA,A8,AY,BB,AO,AQ,AL,BD,AX,AC,AZ,AU,BH,BM,A7,FU,BZ,BF,jB,jC,enP,bxP]
 generalize h++[ABlk.live 6 [GM p]]=H1 at gp hx|-
 have l5:EH Tryz.prog H1 54 (.ptr h.length 0 5)=some (.sl p.bm 4 (p.bins.map GV)):=by rw[DW SG gp (row:=GM p) rfl,NS]
 refine DK (fun n F H=>∃k,n+k=p.bins.length∧F 1=.int .i64 kind∧F 2=.int .i64 v∧F 3=.ptr h.length 0 0∧F 7=.int .i64 (k:Nat)∧H=H1∧inK p.bins kind v=inK (p.bins.drop k) kind v) p.bins.length ⟨0,by simp,by simp -implicitDefEqProofs only[AA,BF,BN,↓reduceIte,jA],by simp -implicitDefEqProofs only[AA,BF,BN,↓reduceIte,jA],by simp -implicitDefEqProofs only[AA,↓reduceIte,jA],by simp -implicitDefEqProofs only[AA,↓reduceIte]<;>rfl,rfl,rfl⟩ ?_;rintro n F H ⟨k,hk,f1,f2,f3,f7,rfl,hin⟩;simp -implicitDefEqProofs only[BC,BA,BI,A8,AY,BB,AO,AQ,AL,BD,AX,AC,AA,AZ,BG,BQ,BR,BJ,D7,AB,DC,↓reduceIte,jA,jG,jB,jC,enP,RQ,JB,f3,f7,l5,jI];refine CU (fun hc=>?_) (fun hc=>?_)
 .have hk':k<p.bins.length:=by simpa using hc
  have hbok:=hp.bins _ (jS hk');unfold inK at hin;rw[AE0 _ _ _ hk'] at hin;have lk:EH Tryz.prog H 3 (.fptr 4 (p.bins.map GV) k 1)=some (.int .i64 p.bins[k].kind):=by rw[DF ag3 hk']; rfl
  have lr:EH Tryz.prog H 118 (.fptr 4 (p.bins.map GV) k 2)=some (.sl p.bins[k].ranges.m 2 (p.bins[k].ranges.l.map encR)):=by rw[DF PE hk']; rfl
  simp -implicitDefEqProofs only[BC,BP,BA,BO,A8,AY,BL,BV,CO,AO,AQ,AL,BD,AX,AC,AA,AZ,BG,BQ,BR,BJ,CE,AB,EC,↓reduceIte,jA,jG,jB,jC,enP,YD,JB,MP,f1,f3,f7,l5,DU hk',lk];cases hq:(p.bins[k].kind==kind)
  .rw[hq,Bool.false_and,qG] at hin
   simp -implicitDefEqProofs only[BA,BO,BI,A8,EJ,EQ,DT,AY,BB,BL,BV,CO,IX,AO,AQ,AL,BD,AX,AC,AA,EX,AZ,AU,BH,BM,BG,A7,CQ,DX,BR,AB,CZ,↓reduceIte,jA,jB,jC,enP,hq,f7,wrap_succ (show k<9223372036854775807 by omega)];exact⟨n-1,by omega,k+1,by omega,by trivial,by trivial,by trivial,by trivial,trivial,hin⟩
  .rw[hq,wC] at hin
   simp -implicitDefEqProofs only[BL,BV,CO,F9,AO,AQ,AL,BD,AX,AC,AA,AZ,BX,BG,BQ,BJ,CE,CB,BU,AB,jD,jE,jF,↓reduceIte,jA,jG,jB,jC,enP,YD,JB,QV,hq,f2,f3,f7,l5,DU hk',lr];refine(YF G p.bins[k].ranges.l p.bins[k].ranges.m v H (AF2 hbok)).use ?_;simp -implicitDefEqProofs only[BI,A8,AY,BB,AO,AQ,AL,BD,AX,AC,AA,AZ,AU,BM,CQ,DY,↓reduceIte,jA,jB,jC];cases hv:inside p.bins[k].ranges.l v
   .rw[hv,qG] at hin
    simp -implicitDefEqProofs only[BA,BO,A8,EJ,EQ,DT,AY,BB,AO,AQ,AL,BD,AX,AC,AA,AZ,AU,BH,BG,A7,BR,AB,CZ,↓reduceIte,jA,jB,jC,enP,f7,wrap_succ (show k<9223372036854775807 by omega)];exact⟨n-1,by omega,k+1,by omega,by trivial,by trivial,by trivial,by trivial,trivial,hin⟩
   .rw[hv,wE] at hin
    simp -implicitDefEqProofs only[BC,BA,BK,A8,CP,EG,FQ,CG,DI,AY,BB,AO,AQ,AL,BD,AX,AC,AA,AU,BM,A7,↓reduceIte,jB,jC];exact⟨by unfold inK; rw[hin],hx⟩
 .have hk':¬k<p.bins.length:=by simpa using hc
  rw[jW (by omega)] at hin;simp -implicitDefEqProofs only[BC,BA,BK,DJ,A8,EI,EW,ET,CG,AY,BB,AO,AQ,AL,BD,AX,AC,AA,AU,BM,A7,↓reduceIte,jB,jC];exact⟨by rw[hin]; rfl,hx⟩
theorem AKM (p:Pt)(last:List Int)(v kind:Int)(hk:kind≠0):decide (0<(ZC p last v kind).length)=inK p.bins kind v:=by
 unfold ZC;rw[AGE,List.take_length];unfold inK;congr 1;funext b;unfold hK;have:(kind==0)=false:=by simpa using hk
 rw[this]; rfl
end
structure PtR where
 hit:List Nat
 next:List Int
 bad:Bool
 err:Int
def nextL (last:List Int)(v:Nat):List Int:=(last++[(v:Int)]).drop (last.length+1-7)
def ptE (p:Pt)(last:List Int)(l:List Sg):PtR :=
 if GZ p≠0∨lastB last=false then ⟨[],[],false,1⟩
 else if(evE l p.ex).2≠0 then ⟨[],[],false,(evE l p.ex).2⟩
 else if inK p.bins 2 (evE l p.ex).1=true then ⟨[],nextL last (evE l p.ex).1,true,0⟩
 else if inK p.bins 1 (evE l p.ex).1=true then ⟨[],nextL last (evE l p.ex).1,false,0⟩
 else ⟨ZC p last (evE l p.ex).1 0,nextL last (evE l p.ex).1,false,0⟩
def ptV (r:PtR):AV:=.tup [.sl (nm r.hit) 1 (r.hit.map IG),.sl (nm r.next) 1 (r.next.map encI),.bool r.bad,.int .i64 r.err]
def ptW (r:PtR):AV:=.tup [fzG 1 IG r.hit,fzG 1 encI r.next,.bool r.bad,.int .i64 r.err]
theorem AS9 (r:PtR):CvR (ptW r) (ptV r):=CvR.tup (CvRL.cons TS (CvRL.cons TS (CvRL.refl _)))
theorem AKB (last:List Int)(v:Nat):nextL last v≠[]:=by
 intro h;have:=congrArg List.length h;unfold nextL at this;simp at this; omega
theorem AH1 {α:Type}{k:Nat}{f:α->List AV}{ys:List α}(h:ys≠[]):fzG k f ys=.sl .any k (ys.map f):=by
 cases ys with
 | nil=>exact absurd rfl h
 | cons y ys=>rfl
theorem APH {α:Type}{f:α->List AV}(hf:Frz f){n d k:Nat}{h:Hp}{o off len:Nat}{xs:List α}(hn:n<=o)(ho:h[o]?=some (.live k (xs.map f)))(hl:off+len=xs.length):IV n h (d+2) (.own o off len)=.sl .any k ((xs.drop off).map f):=by
 have e:((xs.map f).drop off).take len=(xs.drop off).map f:=by
  rw[<-List.map_drop,jX (by simp; omega)]
 rw[AD6 n h (d+1) o off len k _ (by omega) ho,e,AKN hf n h d _,if_pos];refine⟨by simp; omega,?_⟩;rw[zI];intro row hr;obtain⟨x,_,rfl⟩:=zO.1 hr;exact(hf n h d x).2
theorem ASY {h:Hp}{o n u:Nat}{xs:List (List AV)}(hb:h[o]?=some (.live 1 xs))(hu:u<=n):NU Tryz.prog h 57 (.own o 0 n) (some (.int .i64 (u:Nat))) none none=some (.own o u (n-u)):=by
 simp [NU,Tryz.underlying57,KD,hb,sz3,hu]
theorem A0U (o off len:Nat):JG Tryz.prog 57 .eql (.own o off len) (.sl .nil 0 [])=some (.bool false):=by kernel_rfl
theorem ART (G:Nat->AV){h:Hp}{o off len:Nat}{xs:List Int}(ho:h[o]?=some (.live 1 (xs.map encI)))(hl:off+len=xs.length)(h0:0<len)(hm:xs.length<=1048576) :
  ACalls (En G) 100 [.own o off len] h fun v H=>v=.own h.length 0 len∧H=h++[ABlk.live 1 ((xs.drop off).map encI)]:=by
 refine acN Tryz.func100 rfl ?_;show awp _ _ _ _ _ (EN _ [.tmp 2] _)
 have hc:KZ h (.own o off len)=some (1,(xs.drop off).map encI):=by
  rw[Q5 ho (by simp; omega),<-List.map_drop,jX (by simp; omega)]
 have hne:(xs.drop off).map encI≠[]:=by
  intro e;have:=congrArg List.length e;simp at this; omega
 simp -implicitDefEqProofs only[EY,BC,BA,BO,BI,A8,DT,AY,BB,AO,AQ,AL,BD,AX,AC,AA,AZ,AU,IK,BG,A7,EP,BR,GR,BZ,AB,BF,↓reduceIte,jA,jB,jC,enP,A0U,AVK];refine HY (WJ TN sz3 XG VN hc hne (JW (by simp; omega) (by omega))) ?_;simp -implicitDefEqProofs only[BK,A8,CG,AY,BB,AO,AQ,AL,BD,AX,AC,AA,AZ,A7,List.nil_append,↓reduceIte,jB,jC];exact⟨by simp; omega,by simp⟩
theorem AGS {h h':Hp}{last:List Int}{u:AV}(v:Int)(hc:ANH 1 (last.map encI) h u h')(hl:last.length<=1048576) :
  ∃o H,H7 Tryz.prog true h' 57 57 u (.sl .full 1 [[.int .i64 v]])=some (.own o 0 (last.length+1),H)∧H[o]?=some (.live 1 ((last++[v]).map encI))∧h.length<=o∧ext h H:=by
 have h1:([[AV.int .i64 v]]:List (List AV))≠[]:=by simp
 rcases hc with⟨he,⟨k0,rfl⟩,rfl⟩|⟨he,rfl,rfl⟩|⟨hne,rfl,rfl⟩
 .have:last=[]:=by simpa using he
  subst this;exact⟨h'.length,_,VA TN sz3 XG VN (KO _ .full 1 [[.int .i64 v]]) h1 (JW (by simp) (by omega)),CY _ _,jM _,(ext.rfl' _).app _⟩
 .have:last=[]:=by simpa using he
  subst this;exact⟨h'.length,_,WJ TN sz3 XG VN (KO _ .full 1 [[.int .i64 v]]) h1 (JW (by simp) (by omega)),CY _ _,jM _,(ext.rfl' _).app _⟩
 .have hcc:KZ (h++[ABlk.live 1 (last.map encI)]) (.own h.length 0 (last.map encI).length)=some (1,last.map encI):=AGR
  refine⟨(h++[ABlk.live 1 (last.map encI)]).length,(h++[ABlk.live 1 (last.map encI)]).set h.length .dead++[ABlk.live 1 (last.map encI++[[.int .i64 v]])],?_,?_,?_,?_⟩
  .have:=XF TN sz3 XG VN hcc (KO _ .full 1 [[.int .i64 v]]) h1 (JW (by simp; omega) (by omega))
   rw[this];simp
  .have e:(h++[ABlk.live 1 (last.map encI)]).length=((h++[ABlk.live 1 (last.map encI)]).set h.length .dead).length:=by simp
   rw[e,CY];simp [encI]
  .simp
  .exact(((ext.rfl' h).app _).set (jM _) _).app _
section
variable (G:Nat->AV)
theorem A39 (h:Hp):KJ Tryz.prog h 133=some (.ptr h.length 0 0,h++[.live 2 [[.sl .nil 0 [],.int .i64 0]]]):=J8 (row:=[.sl .nil 0 [],.int .i64 0]) (by kernel_rfl)
theorem A3Z (s:SM)(k:Nat)(xs:List (List AV))(v:Int):LQ Tryz.prog 133 [(0,.sl s k xs),(1,.int .i64 v)]=some (.agg [.sl s k xs,.int .i64 v]):=by kernel_rfl
theorem A18 (h:Hp)(s:SM)(xs:List Int)(v:Int):FW Tryz.prog (h++[.live 2 [[.sl .nil 0 [],.int .i64 0]]]) 133 (.ptr h.length 0 0) (.agg [.sl s 1 (xs.map encI),.int .i64 v])=some (h++[.live 2 [OV s xs v]]):=by
 rw[OY (cs:=[.sl s 1 (xs.map encI),.int .i64 v]) (row:=[.sl .nil 0 [],.int .i64 0]) rfl AZK (CY _ _) (by exact jM 2),OZ];rfl
theorem ldP {h:Hp}{b:Nat}{p:Pt}(hb:h[b]?=some (.live 6 [GM p])):EH Tryz.prog h 56 (.ptr b 0 0)=some (.agg (GM p)):=by
 rw[JY ACG YW hb rfl (by rw[JR]; exact jM 6),qC,jX (by rw[JR]; exact jM 6)]
set_option maxHeartbeats 1000000 in
theorem AE9 (hG:GOk G)(p:Pt)(hp:PtOk p)(last:List Int)(lm:SM)(l:List Sg)(m:SM)(h:Hp)(hll:last.length<=1048576)(hl:l.length<=1099511627776) :
  PCall (En G) 43 [.agg (GM p),.sl lm 1 (last.map encI),.sl m 2 (l.map G7)] h (ptV (ptE p last l)):=by
 refine PCall.res (r:=ptW (ptE p last l)) ?_ (AS9 _);have hE:∀(e:Int) (n:Nat) (H:Hp),IV n H 4 (.tup [.sl .nil 0 [],.sl .nil 0 [],.bool false,.int .i64 e])=ptW ⟨[],[],false,e⟩:=fun _ _ _=>rfl
 refine ACalls.pure (R:=fun v H=>ext h H∧IV h.length H 4 v=ptW (ptE p last l)) 4 ?_ (fun v H ⟨a,b⟩=>⟨a,b⟩);refine acN Tryz.func43 rfl ?_;show awp _ _ _ _ _ (EN _ [.tmp 6,.tmp 7,.tmp 8,.tmp 9] _);have gp:=CY h (ABlk.live 6 [GM p]);have hx:ext h (h++[ABlk.live 6 [GM p]]):=(ext.rfl' h).app _;simp -implicitDefEqProofs only[BC,BA,A8,AY,BB,AO,AQ,AL,BD,AX,AC,AA,AZ,AU,BH,BM,IK,A7,FU,BQ,BZ,BF,↓reduceIte,jA,jB,jC,enP,bxP]
 generalize h++[ABlk.live 6 [GM p]]=H1 at gp hx|-
 simp -implicitDefEqProofs only[AY,AO,AQ,AL,BD,AX,AC,AA,AZ,BX,CB,BU,AB,jD,jE,jF,↓reduceIte,jB,jC,ldP gp];refine(ADR G hG p hp H1).use ?_;simp -implicitDefEqProofs only[AY,BL,BV,CO,AO,AQ,AL,BD,AX,AC,AA,AZ,AU,BH,BG,BR,AB,EK,↓reduceIte,jB,jC,enP];cases h1:(GZ p==0)
 .have hne:GZ p≠0:=by simpa using h1
  simp -implicitDefEqProofs only[BC,BA,BK,BI,A8,CP,QJ,DI,AY,BB,BL,BV,CO,F7,AO,AQ,AL,BD,AX,AC,AA,EX,AZ,AU,BH,BM,IK,A7,CQ,DY,↓reduceIte,jA,jB,jC,bne,h1];exact⟨hx,by unfold ptE; rw[if_pos (.inl hne)]; rfl⟩
 have hp0:GZ p=0:=by simpa using h1
 simp -implicitDefEqProofs only[BL,BV,CO,ES,AO,AQ,AL,BD,AX,AC,AA,AZ,BX,BG,CB,BU,BF,BN,jD,jE,jF,↓reduceIte,jA,jB,jT,jC,bne,h1];refine(AHS G last lm H1 (by omega)).use ?_;simp -implicitDefEqProofs only[BI,A8,AY,BB,BL,BV,CO,ES,AO,AQ,AL,BD,AX,AC,AA,AZ,AU,BM,CQ,DX,IE,AB,FK,↓reduceIte,jA,jB,jC];cases h2:lastB last
 .simp -implicitDefEqProofs only[BC,BA,BK,A8,CP,QJ,DI,AY,BB,AO,AQ,AL,BD,AX,AC,AA,AU,BH,BM,IK,A7,↓reduceIte,jA,jB,jC]
  exact⟨hx,by unfold ptE; rw[if_pos (.inr h2)]; rfl⟩
 have hneg:¬(GZ p≠0∨lastB last=false):=by rw[hp0,h2]; simp
 have h7:last.length<=7:=by
  unfold lastB at h2;rw[Bool.and_eq_true] at h2;simpa using h2.1
 simp -implicitDefEqProofs only[BC,BA,BO,A8,DT,AY,AO,AQ,AL,BD,AX,AC,AA,AZ,BX,BG,BQ,BJ,CB,BU,AB,BF,BN,jD,jE,jF,↓reduceIte,jA,jG,jB,jT,jC,enP,AH7,AHR gp];refine(AR9 G hG l m p.ex H1 hl hp.ex).use ?_;unfold ptE;rw[if_neg hneg];generalize evE l p.ex=ev;obtain⟨v,e⟩:=ev;unfold evV;simp -implicitDefEqProofs only[zB,zG,BC,BA,BI,A8,AY,BB,AO,AQ,AL,BD,AX,AC,AA,AZ,AU,BH,BG,A7,BR,FI,GU,AB,EK,↓reduceIte,jA,jB,jC,enP];cases h3:(e==0)
 .have hne:e≠0:=by simpa using h3
  simp -implicitDefEqProofs only[BC,BA,BK,A8,CP,QJ,DI,AY,BB,AO,AQ,AL,BD,AX,AC,AA,AZ,AU,BM,IK,BG,A7,↓reduceIte,jA,jB,jC,bne,h3];exact⟨hx,by rw[if_pos hne]; rfl⟩
 have he0:e=0:=by simpa using h3
 rw[if_neg (by simpa using he0)];simp -implicitDefEqProofs only[EY,FT,BC,BA,BO,A8,DT,AY,BB,AO,AQ,AL,BD,AX,AC,EM,AA,AZ,BX,BG,FD,G9,D5,CB,BU,BZ,AB,CX,BF,BN,jD,jE,jF,↓reduceIte,jA,jB,jT,jC,enP,jP,bne,h3,A3Z,A39,A18];have gp2:=CV (x:=ABlk.live 2 [OV lm last (v:Nat)]) gp;have gx2:=CY H1 (ABlk.live 2 [OV lm last (v:Nat)]);have hx2:=hx.app [ABlk.live 2 [OV lm last (v:Nat)]]
 generalize H1++[ABlk.live 2 [OV lm last (v:Nat)]]=H2 at gp2 gx2 hx2|-
 refine(APY G last lm H2 (by omega)).mono ?_;rintro u H2' hcl;obtain⟨o,H3,ha,ho,hol,hx3⟩:=AGS (v:Nat) hcl hll;have gp3:=FP hx3 gp2;have gx3:=FP hx3 gx2;have hx4:=hx2.trans hx3;simp -implicitDefEqProofs only[Option.map_some,Option.map_none,EY,FT,BC,BA,A8,AY,BB,AO,AQ,AL,BD,AX,AC,AA,AZ,AU,BH,BG,A7,EP,BR,UU,D7,AZF,GR,BZ,AB,J5,ATP,↓reduceIte,jA,jB,jC,enP,JA,ACE,ha];have hsub:IntKind.i64.wrap (((last.length+1:Nat):Int)-7)=((last.length+1:Nat):Int)-7:=wrap_i64 (by omega) (by omega);have hmax:max (0:Int) (((last.length+1:Nat):Int)-7)=((last.length+1-7:Nat):Int):=by omega
 have hsl:=ASY (n:=last.length+1) (u:=last.length+1-7) ho (by omega);simp -implicitDefEqProofs only[AY,AO,AQ,AL,BD,AX,AC,AA,AZ,BX,CB,BU,AB,jD,jE,jF,↓reduceIte,jB,jC,hsub,hmax,hsl];refine(ART G (off:=last.length+1-7) (len:=last.length+1-(last.length+1-7)) ho (by simp<;>omega) (by omega) (by simp<;>omega)).mono ?_;rintro u' H4 ⟨rfl,rfl⟩;have hnl:(last++[((v:Nat):Int)]).drop (last.length+1-7)=nextL last v:=rfl;have hlen:last.length+1-(last.length+1-7)=(nextL last v).length:=by unfold nextL; rw[List.length_drop,qB]; rfl
 rw[hnl,hlen];have gp5:=CV (x:=ABlk.live 1 ((nextL last v).map encI)) gp3;have gx5:=CV (x:=ABlk.live 1 ((nextL last v).map encI)) gx3;have go5:=CY H3 (ABlk.live 1 ((nextL last v).map encI));have hx5:=hx4.app [ABlk.live 1 ((nextL last v).map encI)];have hle:=hx4.le
 generalize H3++[ABlk.live 1 ((nextL last v).map encI)]=H5 at gp5 gx5 go5 hx5|-
 generalize H3.length=ob at go5 hle|-
 have hne:=AKB last v
 have hfz:IV h.length H5 3 (.own ob 0 (nextL last v).length)=fzG 1 encI (nextL last v):=by
  rw[AH1 hne]; exact ZF (d:=1) AX6 hle go5
 have h2K:=AKM p last (v:Nat) 2 (by decide);have h1K:=AKM p last (v:Nat) 1 (by decide)
 have hgt:∀n:Nat,decide (((n:Nat):Int)>0)=decide (0<n):=fun n=>by
  rw[qM]; simp only[decide_eq_true_eq]; omega
 simp -implicitDefEqProofs only[BC,BA,A8,AY,BB,AO,AQ,AL,BD,AX,AC,AA,AZ,AU,BX,BH,A7,BQ,CB,BU,AB,jD,jE,jF,↓reduceIte,jA,jB,jC,enP,ldP gp5,APF gx5];refine(AAM G hG p hp last lm (v:Nat) 2 H5 (by omega)).use ?_;simp -implicitDefEqProofs only[BC,BA,A8,AY,BB,BL,BV,CO,AO,AQ,AL,BD,AX,AC,AA,AZ,AU,BH,BG,A7,BR,D7,AB,FV,↓reduceIte,jB,jC,enP,JA,jI,hgt,h2K]
 have hfin:∀(hits:List Nat) (bad:Bool) (s:SM),(hits=[]->s=.nil)->(hits≠[]->s=.any)->IV h.length H5 4 (.tup [.sl s (if hits=[] then 0 else 1) (hits.map IG),.own ob 0 (nextL last v).length,.bool bad,.int .i64 0])=ptW ⟨hits,nextL last v,bad,0⟩:=by
  intro hits bad s e1 e2;have:IV h.length H5 4 (.tup [.sl s (if hits=[] then 0 else 1) (hits.map IG),.own ob 0 (nextL last v).length,.bool bad,.int .i64 0])=.tup [.sl s (if hits=[] then 0 else 1) (hits.map IG),IV h.length H5 3 (.own ob 0 (nextL last v).length),.bool bad,.int .i64 0]:=rfl;rw[this,hfz];unfold ptW
  cases hits with
  | nil=>rw[e1 rfl]; rfl
  | cons x xs=>rw[e2 (by simp)]; rfl
 cases h2i:inK p.bins 2 (v:Nat)
 .simp -implicitDefEqProofs only[BL,BV,CO,ES,AO,AQ,AL,BD,AX,AC,AA,AZ,AU,BX,BH,BQ,CB,BU,AB,jD,jE,jF,↓reduceIte,jA,jB,jC,enP,jY,ldP gp5,APF gx5]
  refine(AAM G hG p hp last lm (v:Nat) 1 H5 (by omega)).use ?_;simp -implicitDefEqProofs only[BI,A8,AY,BB,BL,BV,CO,ES,AO,AQ,AL,BD,AX,AC,AA,AZ,AU,BH,BM,CQ,DX,BR,D7,AB,FV,↓reduceIte,jA,jB,jC,enP,JA,jI,hgt,h1K];cases h1i:inK p.bins 1 (v:Nat)
  .simp -implicitDefEqProofs only[BC,BA,BO,A8,DT,AY,AO,AQ,AL,BD,AX,AC,AA,AZ,AU,BX,BH,BQ,CB,BU,AB,jD,jE,jF,↓reduceIte,jA,jB,jC,enP,jY,ldP gp5,APF gx5]
   have hlast:=AAM G hG p hp last lm (v:Nat) 0 H5 (by omega)
   generalize ZC p last (v:Nat) 0=hs at hlast|-
   cases hs with
   | nil =>
     refine(PCall.res hlast (r':=.sl .nil 0 []) (CvR.sl (Cv.nil 1 0))).use ?_;simp -implicitDefEqProofs only[BK,A8,QJ,AY,BB,AO,AQ,AL,BD,AX,AC,AA,AZ,AU,BH,BM,BG,A7,↓reduceIte,jA,jB,jC];exact⟨hx5,hfin [] false .nil (fun _=>rfl) (fun q=>absurd rfl q)⟩
   | cons x xs =>
     refine hlast.use ?_;simp -implicitDefEqProofs only[BK,A8,QJ,AY,BB,AO,AQ,AL,BD,AX,AC,AA,AZ,AU,BH,BM,BG,A7,jD,↓reduceIte,jA,jB,jC];exact⟨hx5,hfin (x::xs) false .any (fun q=>by cases q) (fun _=>rfl)⟩
  .simp -implicitDefEqProofs only[BC,BA,BK,A8,CP,QJ,DI,AY,BB,AO,AQ,AL,BD,AX,AC,AA,AZ,AU,BH,IK,BG,A7,↓reduceIte,jA,jB,jC]
   exact⟨hx5,hfin [] false .nil (fun _=>rfl) (fun q=>absurd rfl q)⟩
 .simp -implicitDefEqProofs only[BC,BA,BK,BI,A8,CP,QJ,DI,AY,BB,BL,BV,CO,F7,AO,AQ,AL,BD,AX,AC,AA,EX,AZ,AU,BH,BM,IK,BG,A7,CQ,DY,↓reduceIte,jA,jB,jC]
  exact⟨hx5,hfin [] true .nil (fun _=>rfl) (fun q=>absurd rfl q)⟩
end
def rz (n:Int):Int:=min (n+1) 1099511627776
theorem U3 (G:Nat->AV){H:Hp}{b i j k:Nat}{xs:List (List AV)}{row:List AV}{n:Int}(hb:H[b]?=some (.live k xs))(hr:xs[i]?=some row)(hj:row[j]?=some (.int .i64 n))(h0 : -9223372036854775808<=n)(h1:n<9223372036854775807) :
  ACalls (En G) 166 [.ptr b i j] H fun _ H'=>H'=H.set b (.live k (xs.set i (splice row j [.int .i64 (rz n)]))):=by
 refine acN Tryz.func166 rfl ?_;show awp _ _ _ _ _ (EN _ [] _);have hld:EH Tryz.prog H 3 (.ptr b i j)=some (.int .i64 n):=by rw[DW ag3 hb hr,hj]
 have hst:FW Tryz.prog H 3 (.ptr b i j) (.int .i64 (rz n))=some (H.set b (.live k (xs.set i (splice row j [.int .i64 (rz n)])))):=KU (PV _ _) sz3 hb hr (by have:=CJ hj; simp; omega);have hw:IntKind.i64.wrap (n+1)=n+1:=wrap_i64 (by omega) (by omega);have hm:min (n+1) 1099511627776=rz n:=rfl;simp -implicitDefEqProofs only[BA,AIH,AY,BB,AO,AQ,AL,BD,AX,AC,EM,AA,AZ,AU,BH,BG,BQ,D5,BR,AA8,AB,CX,CZ,V5,BF,↓reduceIte,jA,jB,jC,enP,jP,H8,JE,hld,hw,hm,hst]
def X8 (p:Nat×List Int):List AV:=[.own p.1 0 p.2.length]
structure NL (n0:Nat) (H:Hp) (o:Nat) (bs:List Nat) (xss:List (List Int)):Prop where
 len:bs.length=xss.length
 top:xss≠[]->H[o]?=some (.live 1 ((bs.zip xss).map X8))
 row:∀(i:Nat) (hb:i<bs.length) (hx:i<xss.length),H[bs[i]]?=some (.live 1 (xss[i].map encI))
 nodup:bs.Nodup
 out:xss≠[]->o ∉ bs
 lo:∀b∈bs,n0<=b
 lo':xss≠[]->n0<=o
def nlV (o:Nat):List (List Int)->AV
 | []=>.sl .nil 0 []
 | _::xss=>.own o 0 (xss.length+1)
theorem PL (o:Nat){xss:List (List Int)}(h:xss≠[]):nlV o xss=.own o 0 xss.length:=by
 cases xss with
 | nil=>exact absurd rfl h
 | cons x xs=>rfl
theorem MG (o:Nat)(xss:List (List Int)):(nlV o xss).leaf=true:=by cases xss<;>rfl
theorem NL.nil (n0:Nat)(H:Hp)(o:Nat):NL n0 H o [] []:=⟨rfl,fun h=>absurd rfl h,fun i hb=>by simp at hb,List.nodup_nil,fun h=>absurd rfl h,fun b hb=>(by cases hb),fun h=>absurd rfl h⟩
section
variable {n0:Nat} {H:Hp} {o:Nat} {bs:List Nat} {xss:List (List Int)} (N:NL n0 H o bs xss)
include N
theorem NL.keep {H':Hp}(hk:∀b x,((xss≠[]∧b=o)∨b∈bs)->H[b]?=some x->H'[b]?=some x):NL n0 H' o bs xss :=
 ⟨N.len,fun h=>hk _ _ (.inl ⟨h,rfl⟩) (N.top h),fun i hb hx=>hk _ _ (.inr (jS hb)) (N.row i hb hx),N.nodup,N.out,N.lo,N.lo'⟩
theorem NL.app (x:Hp):NL n0 (H++x) o bs xss:=N.keep fun _ _ _ hb=>FX hb
theorem NL.mem_lt {b:Nat}(hb:b∈bs):b<H.length:=by
 obtain⟨i,hi,rfl⟩:=qX hb;exact CJ (N.row i hi (by rw[<-N.len]; exact hi))
theorem NL.top_lt (h:xss≠[]):o<H.length:=CJ (N.top h)
theorem NL.set {i:Nat}(hi:i<bs.length)(ys:List Int)(hl:∀hx:i<xss.length,ys.length=xss[i].length):NL n0 (H.set bs[i] (.live 1 (ys.map encI))) o bs (xss.set i ys):=by
 have hlen:=N.len;have hix:i<xss.length:=by omega
 have hne:xss≠[]:=by intro e; subst e; simp at hix
 have hob:o≠bs[i]:=fun e=>N.out hne (by rw[e]; exact jS hi)
 refine⟨by rw[qI]; exact hlen,fun _=>?_,fun j hb hx=>?_,N.nodup,fun _=>N.out hne,N.lo,fun _=>N.lo' hne⟩
 .have e:(bs.zip (xss.set i ys)).map X8=(bs.zip xss).map X8:=by
   refine List.ext_getElem (by simp) fun j h1 h2=>?_
   simp only[List.getElem_map,List.getElem_zip,X8,List.getElem_set];split
   .rename_i e; subst e; rw[hl hix]
   .rfl
  rw[e,zU (Ne.symm hob)]; exact N.top hne
 .rcases Nat.decEq i j with h|h
  .have hbb:bs[j]≠bs[i]:=fun e=>h (by
    have:=(List.getElem_inj N.nodup).1 e
    exact this.symm)
   rw[zU (Ne.symm hbb)];have:=N.row j hb (by rw[qI] at hx; exact hx);rw[this];congr 3;rw[List.getElem_set_ne h]
  .subst h
   rw[List.getElem?_set_self (N.mem_lt (jS hi))];congr 3;rw[List.getElem_set_self]
theorem NL.rowAt {i:Nat}(hi:i<xss.length):H[o]?=some (.live 1 ((bs.zip xss).map X8))∧((bs.zip xss).map X8)[i]?=some [.own (bs[i]'(by rw[N.len]; exact hi)) 0 xss[i].length]:=by
 have hne:xss≠[]:=by intro e; subst e; simp at hi
 refine⟨N.top hne,?_⟩;have hlen:=N.len;rw[zH,jU (by rw[List.length_zip]; omega),List.getElem_zip]; rfl
theorem NL.ld {i:Nat}(hi:i<xss.length):EH Tryz.prog H 57 (.ptr o i 0)=some (.own (bs[i]'(by rw[N.len]; exact hi)) 0 xss[i].length):=by
 obtain⟨h1,h2⟩:=N.rowAt hi;rw[DW KC h1 h2]; rfl
theorem NL.ix {i:Nat}(hi:i<xss.length):KH 1 H (nlV o xss) (.int .i64 (i:Nat))=some (.ptr o i 0):=by
 have hne:xss≠[]:=by intro e; subst e; simp at hi
 rw[PL o hne,L6 (N.top hne) hi,jG]
theorem NL.snoc {b t:Nat}{xs:List Int}(hb:H[b]?=some (.live 1 (xs.map encI)))(hlo:n0<=b)(hlo':n0<=H.length)(hbn:b ∉ bs)(hbo:xss≠[]->b≠o)(ht:H[t]?=some (.live 1 [[.own b 0 xs.length]]))(hm:xss.length<=1048576) :
  ∃H',H7 Tryz.prog true H 26 26 (nlV o xss) (.own t 0 1)=some (nlV H.length (xss++[xs]),H')∧NL n0 H' H.length (bs++[b]) (xss++[xs])∧(∀q x,H[q]?=some x->¬isB (nlV o xss) q->H'[q]?=some x)∧H'.length=H.length+1∧∀e:Hp,e.length<=n0->ext e H->ext e H':=by
 have hc:KZ H (.own t 0 1)=some (1,[[.own b 0 xs.length]]):=by rw[Q5 ht (by simp)]; rfl
 have hlen:=N.len
 have hzip:((bs++[b]).zip (xss++[xs])).map X8=(bs.zip xss).map X8++[[.own b 0 xs.length]]:=by
  rw[List.zip_append hlen,List.map_append]; rfl
 have hnd:(bs++[b]).Nodup:=List.nodup_append.2 ⟨N.nodup,by simp,fun a ha c hc e=>by simp at hc; subst hc; subst e; exact hbn ha⟩
 have hlos:∀q∈bs++[b],n0<=q:=fun q hq=>by
  rcases qE.1 hq with h|h
  .exact N.lo q h
  .simp at h; omega
 have hlts:∀q∈bs++[b],q<H.length:=fun q hq=>by
  rcases qE.1 hq with h|h
  .exact N.mem_lt h
  .simp at h; subst h; exact CJ hb
 have hrows:∀(H':Hp),(∀q x,H[q]?=some x->¬isB (nlV o xss) q->H'[q]?=some x)->∀(i:Nat) (h1:i<(bs++[b]).length) (h2:i<(xss++[xs]).length),H'[(bs++[b])[i]]?=some (.live 1 ((xss++[xs])[i].map encI)):=by
  intro H' hk i h1 h2
  have hnb:∀q,q∈bs++[b]->¬isB (nlV o xss) q:=fun q hq hi=>by
   cases xss with
   | nil=>exact hi
   | cons y ys =>
     have e:o=q:=hi;subst e;rcases qE.1 hq with h|h
     .exact N.out (by simp) h
     .simp at h; exact hbo (by simp) h.symm
  refine hk _ _ ?_ (hnb _ (jS h1));rcases zM i bs.length with h|h
  .rw[List.getElem_append_left h,List.getElem_append_left (by omega)]
   exact N.row i h (by omega)
  .have:i=bs.length:=by simp at h1; omega
   subst this;rw[List.getElem_concat_length rfl,List.getElem_concat_length (by omega)];exact hb
 cases hx:xss with
 | nil =>
   subst hx;have hbs:bs=[]:=List.eq_nil_of_length_eq_zero (by simpa using hlen);subst hbs;refine⟨H++[.live 1 [[.own b 0 xs.length]]],?_,⟨by simp,fun _=>CY _ _,hrows _ fun q x hq _=>FX hq,hnd,fun _ hq=>by have:=hlts _ hq; omega,hlos,fun _=>hlo'⟩,fun q x hq _=>FX hq,by simp,fun e _ he=>he.app _⟩;exact VA (k':=0) YU VJ AB6 ZQ hc (by simp) (JW (by simp) (by omega))
 | cons y ys =>
   have hne:xss≠[]:=by rw[hx]; simp
   have htop:=N.top hne
   have hco:KZ H (.own o 0 xss.length)=some (1,(bs.zip xss).map X8):=by
    rw[Q5 htop (by simp; omega),qC,jX (by simp; omega)]
   have hap:=XF YU VJ AB6 ZQ hco hc (by simp) (JW (by simp; omega) (by omega))
   have hk:∀q x,H[q]?=some x->¬isB (nlV o xss) q->(H.set o .dead++[ABlk.live 1 ((bs.zip xss).map X8++[[.own b 0 xs.length]])])[q]?=some x:=fun q x hq hn=>by
    rw[PL o hne] at hn;have hn':¬o=q:=hn;refine FX ?_;rw[zK,if_neg hn']; exact hq
   rw[<-hx];refine⟨H.set o .dead++[.live 1 ((bs.zip xss).map X8++[[.own b 0 xs.length]])],?_,⟨by simp [hlen],fun _=>?_,hrows _ hk,hnd,fun _ hq=>by have:=hlts _ hq; omega,hlos,fun _=>hlo'⟩,hk,by simp,fun e he hex=>(hex.set (by have:=N.lo' hne; omega) _).app _⟩
   .rw[PL o hne,PL H.length (by simp),hap]
    simp;omega
   .rw[hzip]
    have e:H.length=(H.set o .dead).length:=by simp
    rw[e]; exact CY _ _
end
theorem ACX (h:Hp)(b l:Nat):FY Tryz.prog true h 26 1 [(0,.own b 0 l)]=some (.own h.length 0 1,h++[ABlk.live 1 [[.own b 0 l]]]):=by kernel_rfl
theorem ZB {o q:Nat}{xss:List (List Int)}(h:isB (nlV o xss) q):xss≠[]∧q=o:=by
 cases xss with
 | nil=>exact h.elim
 | cons x xs=>exact⟨by simp,Eq.symm h⟩
theorem NL.frz {n0:Nat}{H:Hp}{o:Nat}{bs:List Nat}{xss:List (List Int)}(N:NL n0 H o bs xss)(n d:Nat)(hn:n<=n0):IV n H (d+3) (nlV o xss)=fzG 1 encL (xss.map fun xs=>⟨.any,xs⟩):=by
 cases hx:xss with
 | nil=>rfl
 | cons y ys =>
   have hne:xss≠[]:=by rw[hx]; simp
   rw[<-hx,PL o hne,AD6 n H (d+2) o 0 xss.length 1 _ (by have:=N.lo' hne; omega) (N.top hne)]
   have e:(((bs.zip xss).map X8).drop 0).take xss.length=(bs.zip xss).map X8:=by
    rw[qC,jX (by simp; omega)]
   have hlen:=N.len
   have e2:((bs.zip xss).map X8).map (·.map (IV n H (d+2)))=(xss.map fun xs=>(⟨.any,xs⟩:Is)).map encL:=by
    refine List.ext_getElem (by simp; omega) fun j h1 h2=>?_
    have hj1:j<bs.length:=by simp at h1; omega
    have hj2:j<xss.length:=by omega
    simp only[List.getElem_map,List.getElem_zip,X8,jD,jE,encL];rw[ZF (d:=d) AX6 (zZ hn (N.lo _ (jS hj1))) (N.row j hj1 hj2)]
   rw[e,e2,if_pos,AH1 (by simpa using hne)];refine⟨by simp; omega,?_⟩;rw[zI];intro row hr;obtain⟨x,_,rfl⟩:=zO.1 hr;rfl
def allB:List Int->List Int->List (List Nat)->Bool
 | p::ps,b::l,hits=>Rk.hasB ((hits.getD p.toNat []).map fun n:Nat=>(n:Int)) b&&allB ps l hits
 | _,_,_=>true
theorem AGY (ps l:List Int)(hits:List (List Nat))(k:Nat)(h1:k<ps.length)(h2:k<l.length):allB (ps.drop k) (l.drop k) hits=(Rk.hasB ((hits.getD ps[k].toNat []).map fun n:Nat=>(n:Int)) l[k]&&allB (ps.drop (k+1)) (l.drop (k+1)) hits):=by
 rw[zJ h1,zJ h2]; rfl
theorem ALN (ps l:List Int)(hits:List (List Nat))(k:Nat)(h2:l.length<=k):allB (ps.drop k) (l.drop k) hits=true:=by
 rw[jW h2];cases ps.drop k<;>rfl
def MN (x:List Nat):List AV:=[.sl (nm x) 1 (x.map IG)]
theorem APD (xs:List Nat):xs.map IG=(xs.map fun n:Nat=>(n:Int)).map encI:=by rw[List.map_map]; rfl
section
variable (G:Nat->AV)
theorem has_ref (xs:List Int)(s:SM)(z:Int)(h:Hp)(hn:xs.length<=1048576):PCall (En G) 137 [.sl s 1 (xs.map encI),.int .i64 z] h (.bool (Rk.hasB xs z)):=by
 refine acN Tryz.func137 rfl ?_;show awp _ _ _ _ _ (EN _ [.tmp 4] _);simp -implicitDefEqProofs only[BC,BP,BA,A8,AY,BB,AO,AQ,AL,BD,AX,AC,AU,BH,BM,A7,jB,jC,enP];refine DK (fun n F H=>∃k,n+k=xs.length∧F 0=.sl s 1 (xs.map encI)∧F 1=.int .i64 z∧F 5=.int .i64 (k:Nat)∧H=h∧Rk.hasB xs z=Rk.hasB (xs.drop k) z) xs.length ⟨0,by simp,by simp -implicitDefEqProofs only[AA,BF,↓reduceIte,jA],by simp -implicitDefEqProofs only[AA,BF,BN,↓reduceIte,jA],by simp -implicitDefEqProofs only[AA,↓reduceIte]<;>rfl,rfl,rfl⟩ ?_;rintro n F H ⟨k,hk,f0,f1,f5,rfl,hin⟩;simp -implicitDefEqProofs only[BC,BA,BI,A8,AY,BB,AO,AQ,AL,BD,AX,AC,AA,AZ,BG,BR,D7,AB,DC,↓reduceIte,jA,jB,jC,enP,JA,f0,f5,jI];refine CU (fun hc=>?_) (fun hc=>?_)
 .have hk':k<xs.length:=by simpa using hc
  unfold Rk.hasB at hin;rw[AE0 _ _ _ hk'] at hin;simp -implicitDefEqProofs only[BC,BP,BA,BO,BI,A8,AY,BB,AO,AQ,AL,BD,AX,AC,AA,AZ,BG,BQ,BR,CE,AB,EC,↓reduceIte,jA,jB,jC,enP,JF,f0,f1,f5,DU hk',DF ag3 hk',WF];cases hq:(xs[k]==z)
  .rw[hq,qG] at hin
   simp -implicitDefEqProofs only[BA,BO,A8,EJ,EQ,DT,AY,BB,AO,AQ,AL,BD,AX,AC,AA,AZ,AU,BH,BG,A7,BR,AB,CZ,↓reduceIte,jA,jB,jC,enP,f5,wrap_succ (show k<9223372036854775807 by omega)];exact⟨n-1,by omega,k+1,by omega,by trivial,by trivial,by trivial,trivial,hin⟩
  .rw[hq,wE] at hin
   simp -implicitDefEqProofs only[BC,BA,BK,A8,CP,EG,FQ,CG,DI,AY,BB,AO,AQ,AL,BD,AX,AC,AA,AU,BM,A7,↓reduceIte,jB,jC];exact⟨by unfold Rk.hasB; rw[hin],trivial⟩
 .have hk':¬k<xs.length:=by simpa using hc
  rw[jW (by omega)] at hin;simp -implicitDefEqProofs only[BC,BA,BK,DJ,A8,EI,EW,ET,CG,AY,BB,AO,AQ,AL,BD,AX,AC,AA,AU,BM,A7,↓reduceIte,jB,jC];exact⟨by rw[hin]; rfl,trivial⟩
theorem AVZ (c:Cr)(l:List Int)(s:SM)(hits:List (List Nat))(hb:Nat)(h:Hp)(gh:h[hb]?=some (.live 1 (hits.map MN)))(hp:∀p∈c.pts,0<=p∧p<(hits.length:Int))(hl:l.length=c.pts.length)(h64:∀x∈hits,x.length<=1048576)(hlen:l.length<=1048576) :
  PCall (En G) 170 [.agg (GG c),.sl s 1 (l.map encI),.own hb 0 hits.length] h (.bool (allB c.pts l hits)):=by
 refine ACalls.pure0 rfl ?_;refine acN Tryz.func170 rfl ?_;show awp _ _ _ _ _ (EN _ [.tmp 6] _);have gc:=CY h (ABlk.live 3 [GG c]);have gh1:=CV (x:=ABlk.live 3 [GG c]) gh;have hx:ext h (h++[ABlk.live 3 [GG c]]):=(ext.rfl' h).app _;simp -implicitDefEqProofs only[BC,BP,BA,A8,AY,BB,AO,AQ,AL,BD,AX,AC,AA,AZ,AU,BH,BM,BG,A7,FU,D7,BZ,AB,BF,BN,↓reduceIte,jA,jB,jC,enP,JA,bxC]
 generalize h++[ABlk.live 3 [GG c]]=H at gc gh1 hx|-
 have l1:EH Tryz.prog H 57 (.ptr h.length 0 1)=some (.sl c.pm 1 (c.pts.map encI)):=by rw[DW KC gc (row:=GG c) rfl,ABT]
 simp -implicitDefEqProofs only[jI];refine DK (fun n F H'=>∃k,n+k=l.length∧F 2=.own hb 0 hits.length∧F 3=.ptr h.length 0 0∧F 9=.sl s 1 (l.map encI)∧F 10=.int .i64 (l.length:Nat)∧F 11=.int .i64 (k:Nat)∧H'=H∧allB c.pts l hits=allB (c.pts.drop k) (l.drop k) hits) l.length ⟨0,by simp,by simp -implicitDefEqProofs only[AA,BF,BN,↓reduceIte,jA],by simp -implicitDefEqProofs only[AA,↓reduceIte,jA],by simp -implicitDefEqProofs only[AA,↓reduceIte,jA],by simp -implicitDefEqProofs only[AA,↓reduceIte,jA],by simp -implicitDefEqProofs only[AA,↓reduceIte]; rfl,rfl,rfl⟩ ?_;rintro n F H' ⟨k,hk,f2,f3,f9,f10,f11,rfl,hin⟩;simp -implicitDefEqProofs only[BC,BA,BI,A8,AY,BB,AO,AQ,AL,BD,AX,AC,AA,AZ,BR,AB,DC,↓reduceIte,jB,jC,enP,f10,f11];refine CU (fun hc=>?_) (fun hc=>?_)
 .have hk':k<l.length:=by simpa using hc
  have hkp:k<c.pts.length:=by omega
  obtain⟨hp0,hp1⟩:=hp _ (jS hkp);have hpn:c.pts[k].toNat<hits.length:=by omega
  have ih:=APG (kk:=.i64) (off:=0) gh1 hp0 hp1;rw[jG] at ih
  have lh:EH Tryz.prog H' 57 (.ptr hb c.pts[k].toNat 0)=some (.sl (nm hits[c.pts[k].toNat]) 1 ((hits[c.pts[k].toNat].map fun n:Nat=>(n:Int)).map encI)):=by
   rw[DW KC gh1 (row:=MN hits[c.pts[k].toNat]) (ND hpn),<-APD]; rfl
  rw[AGY _ _ _ _ hkp hk'] at hin;have hg:hits.getD c.pts[k].toNat []=hits[c.pts[k].toNat]:=by rw[zQ,jU hpn]; rfl
  rw[hg] at hin;simp -implicitDefEqProofs only[BC,BP,BA,BO,A8,AY,BB,AO,AQ,AL,BD,AX,AC,AA,AZ,BX,BG,A7,BQ,BJ,CE,CB,BU,AB,jD,jE,jF,↓reduceIte,jA,jG,jB,jC,enP,N7,JF,KI,f2,f3,f9,f11,DU hk',DF ag3 hk',WF,l1,DU hkp,DF ag3 hkp,ih,lh];refine(Rk.contains_rank G _ _ _ H' (by rw[jI]; exact h64 _ (jS hpn))).use ?_;simp -implicitDefEqProofs only[BI,A8,AY,BB,AO,AQ,AL,BD,AX,AC,AA,AZ,IE,AB,FK,↓reduceIte,jB,jC];cases hq:Rk.hasB (hits[c.pts[k].toNat].map fun n:Nat=>(n:Int)) l[k]
  .rw[hq,Bool.false_and] at hin
   simp -implicitDefEqProofs only[BC,BA,BK,A8,CP,EG,FQ,CG,DI,AY,BB,AO,AQ,AL,BD,AX,AC,AA,AU,BM,A7,↓reduceIte,jB,jC];exact⟨by rw[hin],hx⟩
  .rw[hq,wC] at hin
   simp -implicitDefEqProofs only[BA,BO,A8,EJ,EQ,DT,AY,BB,AO,AQ,AL,BD,AX,AC,AA,AZ,AU,BH,BG,BR,AB,CZ,↓reduceIte,jA,jB,jT,jC,enP,f11,wrap_succ (show k<9223372036854775807 by omega)];exact⟨n-1,by omega,k+1,by omega,by trivial,by trivial,by trivial,by trivial,by trivial,trivial,hin⟩
 .have hk':¬k<l.length:=by simpa using hc
  rw[ALN _ _ _ _ (by omega)] at hin;simp -implicitDefEqProofs only[BC,BA,BK,DJ,A8,EI,EW,ET,CG,AY,BB,AO,AQ,AL,BD,AX,AC,AA,AU,BM,A7,↓reduceIte,jB,jC];exact⟨by rw[hin],hx⟩
theorem AT8 (c:Cr)(l:List Int)(s:SM)(hits:List (List Nat))(hb:Nat)(h:Hp)(gh:h[hb]?=some (.live 1 (hits.map MN)))(hp:∀p∈c.pts,0<=p∧p<(hits.length:Int))(hl:l.length=c.pts.length)(h64:∀x∈hits,x.length<=1048576)(hlen:l.length<=1048576) :
  PCall (En G) 138 [.agg (GG c),.sl s 1 (l.map encI),.own hb 0 hits.length] h (.bool (allB c.pts l hits)):=by
 refine ACalls.pure0 rfl ?_;refine acN Tryz.func138 rfl ?_;show awp _ _ _ _ _ (EN _ [.tmp 6] _);have gc:=CY h (ABlk.live 3 [GG c]);have gh1:=CV (x:=ABlk.live 3 [GG c]) gh;have hx:ext h (h++[ABlk.live 3 [GG c]]):=(ext.rfl' h).app _;simp -implicitDefEqProofs only[BC,BP,BA,A8,AY,BB,AO,AQ,AL,BD,AX,AC,AZ,AU,BH,BM,A7,FU,BZ,BF,jB,jC,enP,bxC]
 generalize h++[ABlk.live 3 [GG c]]=H at gc gh1 hx|-
 have l1:EH Tryz.prog H 57 (.ptr h.length 0 1)=some (.sl c.pm 1 (c.pts.map encI)):=by rw[DW KC gc (row:=GG c) rfl,ABT]
 refine DK (fun n F H'=>∃k,n+k=l.length∧F 1=.sl s 1 (l.map encI)∧F 2=.own hb 0 hits.length∧F 3=.ptr h.length 0 0∧F 7=.int .i64 (k:Nat)∧H'=H∧allB c.pts l hits=allB (c.pts.drop k) (l.drop k) hits) l.length ⟨0,by simp,by simp -implicitDefEqProofs only[AA,BF,BN,↓reduceIte,jA],by simp -implicitDefEqProofs only[AA,BF,BN,↓reduceIte,jA],by simp -implicitDefEqProofs only[AA,↓reduceIte,jA],by simp -implicitDefEqProofs only[AA,↓reduceIte]<;>rfl,rfl,rfl⟩ ?_;rintro n F H' ⟨k,hk,f1,f2,f3,f7,rfl,hin⟩;simp -implicitDefEqProofs only[BC,BA,BI,A8,AY,BB,AO,AQ,AL,BD,AX,AC,AA,AZ,BG,BR,D7,AB,DC,↓reduceIte,jA,jB,jC,enP,JA,f1,f7,jI];refine CU (fun hc=>?_) (fun hc=>?_)
 .have hk':k<l.length:=by simpa using hc
  have hkp:k<c.pts.length:=by omega
  obtain⟨hp0,hp1⟩:=hp _ (jS hkp);have hpn:c.pts[k].toNat<hits.length:=by omega
  have ih:=APG (kk:=.i64) (off:=0) gh1 hp0 hp1;rw[jG] at ih
  have lh:EH Tryz.prog H' 57 (.ptr hb c.pts[k].toNat 0)=some (.sl (nm hits[c.pts[k].toNat]) 1 ((hits[c.pts[k].toNat].map fun n:Nat=>(n:Int)).map encI)):=by
   rw[DW KC gh1 (row:=MN hits[c.pts[k].toNat]) (ND hpn),<-APD]; rfl
  rw[AGY _ _ _ _ hkp hk'] at hin;have hg:hits.getD c.pts[k].toNat []=hits[c.pts[k].toNat]:=by rw[zQ,jU hpn]; rfl
  rw[hg] at hin;simp -implicitDefEqProofs only[BC,BP,BO,A8];refine EZ (by kernel_rfl) ?_;simp -implicitDefEqProofs only[FZ,ED,DN,EF,FO,FB,AC2,D9,EE,GH,F8,AO,AA,AZ,BX,BQ,IE,BJ,CE,AB,jD,jE,jF,↓reduceIte,jA,jK,jG,jB,enP,N7,JF,KI,f1,f2,f3,f7,DU hk',DF ag3 hk',WF,l1,DU hkp,DF ag3 hkp,ih,lh];refine⟨_,has_ref G _ _ _ H' (by rw[jI]; exact h64 _ (jS hpn)),?_⟩;cases hq:Rk.hasB (hits[c.pts[k].toNat].map fun n:Nat=>(n:Int)) l[k]
  .rw[hq,Bool.false_and] at hin
   simp -implicitDefEqProofs only[DN,E8,BC,BA,BK,BI,A8,CP,EG,FQ,CG,DI,AY,BB,AO,AQ,AL,BD,AX,AC,AA,AZ,AU,BM,A7,AB,FK,↓reduceIte,jB,jC];exact⟨by rw[hin],hx⟩
  .rw[hq,wC] at hin
   simp -implicitDefEqProofs only[DN,E8,BA,BO,BI,A8,EJ,EQ,DT,AY,BB,AO,AQ,AL,BD,AX,AC,AA,AZ,AU,BH,BG,A7,BR,AB,CZ,FK,↓reduceIte,jA,jB,jT,jC,enP,f7,wrap_succ (show k<9223372036854775807 by omega)];exact⟨n-1,by omega,k+1,by omega,by trivial,by trivial,by trivial,by trivial,trivial,hin⟩
 .have hk':¬k<l.length:=by simpa using hc
  rw[ALN _ _ _ _ (by omega)] at hin;simp -implicitDefEqProofs only[BC,BA,BK,DJ,A8,EI,EW,ET,CG,AY,BB,AO,AQ,AL,BD,AX,AC,AA,AU,BM,A7,↓reduceIte,jB,jC];exact⟨by rw[hin],hx⟩
theorem V3 (n:Int)(b:Bool)(h:Hp)(h0:0<=n)(h1:n<=1099511627776):PCall (En G) 136 [.int .i64 n,.bool b] h (.int .i64 (if b=true then rz n else n)):=by
 refine acN Tryz.func136 rfl ?_;show awp _ _ _ _ _ (EN _ [.tmp 4] _);cases b
 .simp -implicitDefEqProofs only[BC,BA,BO,BK,BI,A8,CG,DT,AY,BB,BL,BV,CO,IX,AO,AQ,AL,BD,AX,AC,AA,EX,AZ,AU,BH,BM,BG,A7,CQ,DX,BF,BN,↓reduceIte,jA,jB,jC,enP,jY]
  exact⟨by simp,trivial⟩
 .simp -implicitDefEqProofs only[BC,BA,BI,A8,AY,BB,BL,BV,CO,F9,AO,AQ,AL,BD,AX,AC,AA,AZ,AU,BH,BM,BG,A7,CQ,DY,BR,AB,DC,BF,BN,↓reduceIte,jA,jB,jC,enP]
  have hw:IntKind.i64.wrap (n+1)=n+1:=wrap_i64 (by omega) (by omega);cases hq:decide (n<1099511627776)
  .simp -implicitDefEqProofs only[BC,BA,BO,BK,A8,CG,DT,AY,BB,AO,AQ,AL,BD,AX,AC,AA,AZ,BG,A7,BF,↓reduceIte,jA,jB,jC]
   have:¬n<1099511627776:=by simpa using hq
   exact⟨by simp [rz]; omega,trivial⟩
  .simp -implicitDefEqProofs only[BC,BA,BK,A8,CP,CG,DI,AY,BB,AO,AQ,AL,BD,AX,AC,AA,AZ,AU,BH,BG,A7,BR,AB,CZ,BF,↓reduceIte,jA,jB,jC,enP,hw]
   have:n<1099511627776:=by simpa using hq
   exact⟨by simp [rz]; omega,trivial⟩
end
def MB (x:List Int):List AV:=[.sl (nm x) 1 (x.map encI)]
def RowsL (rows:List (List AV))(ls:List (List Int)):Prop:=rows.length=ls.length∧∀(i:Nat) (r:List AV) (l:List Int),rows[i]?=some r->ls[i]?=some l->∃s k,r=[.sl s k (l.map encI)]∧(k=1∨l=[])
def TLs (H:Hp)(v:AV)(ls:List (List Int)):Prop:=ls=[]∨(∃s rows,v=.sl s 1 rows∧RowsL rows ls)∨∃q rows,v=.own q 0 ls.length∧H[q]?=some (.live 1 rows)∧RowsL rows ls
theorem TLs.ext {h H:Hp}{v:AV}{ls:List (List Int)}(t:TLs h v ls)(hx:Sm.ext h H):TLs H v ls:=by
 rcases t with h1|h2|⟨q,rows,rfl,hq,hr⟩
 .exact .inl h1
 .exact .inr (.inl h2)
 .exact .inr (.inr ⟨q,rows,rfl,FP hx hq,hr⟩)
theorem TLs.ld {H:Hp}{v:AV}{ls:List (List Int)}(t:TLs H v ls)(i:Nat)(hi:i<ls.length):∃a s k,KH 1 H v (.int .i64 (i:Nat))=some a∧EH Tryz.prog H 57 a=some (.sl s k (ls[i].map encI))∧(k=1∨ls[i]=[]):=by
 have hl:ls[i]?=some ls[i]:=jU hi;rcases t with rfl|⟨s,rows,rfl,hlen,hr⟩|⟨q,rows,rfl,hq,hlen,hr⟩
 .simp at hi
 .have hi':i<rows.length:=by omega
  obtain⟨s',k,e,hk⟩:=hr i rows[i] ls[i] (jU hi') hl;have h1:KH 1 H (.sl s 1 (rows.map id)) (.int .i64 (i:Nat))=some (.fptr 1 (rows.map id) i 0):=DU hi';have h2:EH Tryz.prog H 57 (.fptr 1 (rows.map id) i 0)=(id rows[i])[0]? := DF KC hi';rw[List.map_id] at h1 h2;exact⟨_,s',k,h1,by rw[h2,e]; rfl,hk⟩
 .have hi':i<rows.length:=by omega
  obtain⟨s',k,e,hk⟩:=hr i rows[i] ls[i] (jU hi') hl;have h1:=L6 (kk:=.i64) (off:=0) (len:=ls.length) hq hi;rw[jG] at h1;exact⟨_,s',k,h1,by rw[DW KC hq (jU hi'),e]; rfl,hk⟩
theorem RowsL.map (ls:List (List Int)):RowsL (ls.map MB) ls:=by
 refine⟨by simp,fun i r l h1 h2=>?_⟩;rw[zH,h2] at h1;cases h1;exact⟨_,1,rfl,.inl rfl⟩
theorem RowsL.encL (ls:List Is):RowsL (ls.map encL) (ls.map (·.l)):=by
 refine⟨by simp,fun i r l h1 h2=>?_⟩;rw[zH] at h1 h2
 cases hx:ls[i]? with
 | none=>rw[hx] at h1; cases h1
 | some x=>rw[hx] at h1 h2; cases h1; cases h2; exact⟨_,1,rfl,.inl rfl⟩
theorem RowsL.nils (n:Nat):RowsL (jZ n F5) (jZ n []):=by
 refine⟨by simp,fun i r l h1 h2=>?_⟩;rw[List.getElem?_replicate] at h1 h2;split at h1
 .rename_i hi
  rw[if_pos hi] at h2;cases h1; cases h2;exact⟨_,0,rfl,.inr rfl⟩
 .cases h1
def mix {α:Type}(ys xs:List α)(i:Nat):List α:=ys.take i++xs.drop i
theorem mix_len {α:Type}{ys xs:List α}{i:Nat}(h:ys.length=xs.length)(hi:i<=xs.length):(mix ys xs i).length=xs.length:=by simp [mix]; omega
theorem QR {α:Type}{ys xs:List α}(h:ys.length=xs.length):mix ys xs xs.length=ys:=by unfold mix; rw[List.drop_length,jF,jX (by omega)]
theorem mix_get {α:Type}{ys xs:List α}{i j:Nat}(h:ys.length=xs.length)(hij:i<=j)(hj:j<xs.length):(mix ys xs i)[j]?=some xs[j]:=by
 unfold mix;have hl:(ys.take i).length=i:=by simp; omega
 rw[List.getElem?_append_right (by omega),hl,qP,show i+(j-i)=j by omega,jU hj]
theorem V4 {α:Type}{ys xs:List α}{i j:Nat}(h:ys.length=xs.length)(hij:i<=j)(hj:j<xs.length)(hj':j<(mix ys xs i).length):(mix ys xs i)[j]=xs[j]:=by
 have:=mix_get h hij hj;rw[jU hj'] at this; exact Option.some.inj this
theorem mix_set {α:Type}{ys xs:List α}{i:Nat}(h:ys.length=xs.length)(hi:i<xs.length)(hy:i<ys.length):(mix ys xs i).set i ys[i]=mix ys xs (i+1):=by
 refine List.ext_getElem? fun j=>?_
 have hl:(ys.take i).length=i:=by simp; omega
 have hl':(ys.take (i+1)).length=i+1:=by simp; omega
 rw[zK];unfold mix;rcases Nat.lt_trichotomy i j with h1|h1|h1
 .rw[if_neg (by omega),List.getElem?_append_right (by omega),List.getElem?_append_right (by omega),hl,hl',qP,qP]
  congr 1; omega
 .subst h1
  rw[if_pos rfl,if_pos (by simp; omega),zX (by omega),List.getElem?_take_of_lt (by omega),jU hy]
 .rw[if_neg (by omega),zX (by omega),zX (by omega),List.getElem?_take_of_lt h1,List.getElem?_take_of_lt (by omega)]
def QI (m:Mo)(ls:List (List Int))(env:List Sg):List PtR:=(m.pts.zip ls).map fun p=>ptE p.1 p.2 env
theorem Y6 (m:Mo)(ls:List (List Int))(env:List Sg)(h:ls.length=m.pts.length):(QI m ls env).length=m.pts.length:=by simp [QI,h]
theorem ADP (m:Mo)(ls:List (List Int))(env:List Sg)(i:Nat)(h1:i<m.pts.length)(h2:i<ls.length)(h3:i<(QI m ls env).length):(QI m ls env)[i]=ptE m.pts[i] ls[i] env:=by simp [QI]
def raiseAt (xs:List Int)(b:Nat):List Int:=xs.set b (rz (xs.getD b 0))
def rowP (hit:List Nat)(xs:List Int):List Int:=hit.foldl raiseAt xs
theorem TB (xs:List Int)(b:Nat):(raiseAt xs b).length=xs.length:=by simp [raiseAt]
theorem UC:∀(hit:List Nat) (xs:List Int),(rowP hit xs).length=xs.length
 | [],_=>rfl
 | b::hit,xs=>by
   have:=UC hit (raiseAt xs b);rw[TB] at this; exact this
theorem rowP_step (hit:List Nat)(xs:List Int)(j:Nat)(hj:j<hit.length):rowP (hit.take (j+1)) xs=raiseAt (rowP (hit.take j) xs) hit[j]:=by
 unfold rowP;rw[zL hj,List.foldl_append]; rfl
def Wn (xs:List Int):Prop:=∀x∈xs,0<=x∧x<=1099511627776
theorem AOO {n:Int}(h:0<=n∧n<=1099511627776):0<=rz n∧rz n<=1099511627776:=by unfold rz; omega
theorem Wn.getD {xs:List Int}(h:Wn xs)(b:Nat):0<=xs.getD b 0∧xs.getD b 0<=1099511627776:=by
 rw[zQ]
 cases hx:xs[b]? with
 | none=>decide
 | some x=>exact h x (List.mem_of_getElem? hx)
theorem Wn.raiseAt {xs:List Int}(h:Wn xs)(b:Nat):Wn (raiseAt xs b):=by
 intro x hx;rcases List.mem_or_eq_of_mem_set hx with h1|h1
 .exact h x h1
 .rw[h1]; exact AOO (h.getD b)
theorem Wn.rowP:∀(hit:List Nat) {xs:List Int},Wn xs->Wn (rowP hit xs)
 | [],_,h=>h
 | b::hit,_,h=>Wn.rowP hit (h.raiseAt b)
def MC (rs:List PtR)(P:List (List Int)):List (List Int):=(rs.zip P).map fun p=>rowP p.1.hit p.2
def crK (m:Mo)(x:Cr)(hits:List (List Nat))(k:Nat):Bool:=QT m x (NF (szs m x.pts) k)&&allB x.pts (NF (szs m x.pts) k) hits
def rowC (m:Mo)(x:Cr)(hits:List (List Nat))(xs:List Int):List Int:=(List.range xs.length).map fun k=>if crK m x hits k=true then rz (xs.getD k 0) else xs.getD k 0
def NW (m:Mo)(hits:List (List Nat))(C:List (List Int)):List (List Int):=(m.crs.zip C).map fun p=>rowC m p.1 hits p.2
theorem RI (m:Mo)(x:Cr)(hits:List (List Nat))(xs:List Int):(rowC m x hits xs).length=xs.length:=by simp [rowC]
theorem AJU (m:Mo)(x:Cr)(hits:List (List Nat))(xs:List Int)(k:Nat)(hk:k<xs.length)(hk':k<(rowC m x hits xs).length):(rowC m x hits xs)[k]=if crK m x hits k=true then rz xs[k] else xs[k]:=by
 have e:xs.getD k 0=xs[k]:=by rw[zQ,jU hk]; rfl
 simp only[rowC,List.getElem_map,List.getElem_range,e]
theorem Wn.rowC {m:Mo}{x:Cr}{hits:List (List Nat)}{xs:List Int}(h:Wn xs):Wn (rowC m x hits xs):=by
 intro y hy;unfold Xe.rowC at hy;obtain⟨k,_,rfl⟩:=zO.1 hy;split
 .exact AOO (h.getD k)
 .exact h.getD k
theorem YZ (rs:List PtR)(P:List (List Int))(h:rs.length=P.length):(MC rs P).length=P.length:=by simp [MC,h]
theorem Y0 (rs:List PtR)(P:List (List Int))(i:Nat)(h1:i<rs.length)(h2:i<P.length)(h3:i<(MC rs P).length):(MC rs P)[i]=rowP rs[i].hit P[i]:=by simp [MC]
theorem Y2 (m:Mo)(hits:List (List Nat))(C:List (List Int))(h:C.length=m.crs.length):(NW m hits C).length=C.length:=by simp [NW,h]
theorem Y3 (m:Mo)(hits:List (List Nat))(C:List (List Int))(i:Nat)(h1:i<m.crs.length)(h2:i<C.length)(h3:i<(NW m hits C).length):(NW m hits C)[i]=rowC m m.crs[i] hits C[i]:=by simp [NW]
theorem AWQ {rs:List PtR}{P:List (List Int)}(h:∀xs∈P,Wn xs):∀xs∈MC rs P,Wn xs:=by
 intro xs hx;obtain⟨p,hp,rfl⟩:=zO.1 hx;exact Wn.rowP _ (h _ (List.of_mem_zip hp).2)
theorem AWR {m:Mo}{hits:List (List Nat)}{C:List (List Int)}(h:∀xs∈C,Wn xs):∀xs∈NW m hits C,Wn xs:=by
 intro xs hx;obtain⟨p,hp,rfl⟩:=zO.1 hx;exact Wn.rowC (h _ (List.of_mem_zip hp).2)
theorem AO2 (o:Nat)(P:List (List Int))(i:Nat)(ys:List Int):nlV o (P.set i ys)=nlV o P:=by
 cases P with
 | nil=>rfl
 | cons x xs =>
   cases i with
   | zero=>rfl
   | succ i=>simp [nlV]
def cvR (po:Nat)(P:List (List Int))(co:Nat)(C:List (List Int))(sam ill:Int):List AV:=[nlV po P,nlV co C,.int .i64 sam,.int .i64 ill]
structure CS (n0:Nat) (H:Hp) (cb tb po co:Nat) (pb cbs:List Nat) (P C:List (List Int)) (sam ill:Int) (v3:AV):Prop where
 gc:H[cb]?=some (.live 4 [cvR po P co C sam ill])
 gt:H[tb]?=some (.live 1 [[v3]])
 np:NL n0 H po pb P
 nc:NL n0 H co cbs C
 dis:∀b∈pb,b ∉ cbs
 xcp:cb ∉ pb
 xcc:cb ∉ cbs
 xtp:tb ∉ pb
 xtc:tb ∉ cbs
 xpo:P≠[]->po ∉ cbs∧cb≠po∧tb≠po
 xco:C≠[]->co ∉ pb∧cb≠co∧tb≠co
 ct:cb≠tb
section
variable {n0:Nat} {H:Hp} {cb tb po co:Nat} {pb cbs:List Nat} {P C:List (List Int)} {sam ill:Int} {v3:AV} (S:CS n0 H cb tb po co pb cbs P C sam ill v3)
include S
theorem CS.keep {H':Hp}(hk:∀b x,H[b]?=some x->b<H.length->H'[b]?=some x):CS n0 H' cb tb po co pb cbs P C sam ill v3 :=
 ⟨hk _ _ S.gc (CJ S.gc),hk _ _ S.gt (CJ S.gt),S.np.keep fun _ _ _ h=>hk _ _ h (CJ h),S.nc.keep fun _ _ _ h=>hk _ _ h (CJ h),S.dis,S.xcp,S.xcc,S.xtp,S.xtc,S.xpo,S.xco,S.ct⟩
theorem CS.app (x:Hp):CS n0 (H++x) cb tb po co pb cbs P C sam ill v3:=S.keep fun _ _ h _=>FX h
theorem CS.ext {H':Hp}(hx:Sm.ext H H'):CS n0 H' cb tb po co pb cbs P C sam ill v3:=S.keep fun _ _ h _=>FP hx h
theorem CS.setP {i:Nat}(hi:i<pb.length)(ys:List Int)(hl:∀hx:i<P.length,ys.length=P[i].length):CS n0 (H.set pb[i] (.live 1 (ys.map encI))) cb tb po co pb cbs (P.set i ys) C sam ill v3:=by
 have hm:=jS hi;have hne:∀b,b ∉ pb->pb[i]≠b:=fun b hb e=>hb (by rw[<-e]; exact hm)
 have hPne:P.set i ys≠[]->P≠[]:=fun h e=>h (by rw[e]; rfl)
 refine⟨?_,?_,S.np.set hi ys hl,S.nc.keep fun b x hb hx=>?_,S.dis,S.xcp,S.xcc,S.xtp,S.xtc,fun h=>S.xpo (hPne h),S.xco,S.ct⟩
 .rw[zU (hne _ S.xcp),S.gc]
  unfold cvR; rw[AO2]
 .rw[zU (hne _ S.xtp)]; exact S.gt
 .rw[zU]
  .exact hx
  .rcases hb with⟨hC,rfl⟩|hb
   .exact hne _ (S.xco hC).1
   .exact fun e=>S.dis _ hm (by rw[e]; exact hb)
theorem CS.setC {i:Nat}(hi:i<cbs.length)(ys:List Int)(hl:∀hx:i<C.length,ys.length=C[i].length):CS n0 (H.set cbs[i] (.live 1 (ys.map encI))) cb tb po co pb cbs P (C.set i ys) sam ill v3:=by
 have hm:=jS hi;have hne:∀b,b ∉ cbs->cbs[i]≠b:=fun b hb e=>hb (by rw[<-e]; exact hm)
 have hCne:C.set i ys≠[]->C≠[]:=fun h e=>h (by rw[e]; rfl)
 refine⟨?_,?_,S.np.keep fun b x hb hx=>?_,S.nc.set hi ys hl,S.dis,S.xcp,S.xcc,S.xtp,S.xtc,S.xpo,fun h=>S.xco (hCne h),S.ct⟩
 .rw[zU (hne _ S.xcc),S.gc]
  unfold cvR; rw[AO2]
 .rw[zU (hne _ S.xtc)]; exact S.gt
 .rw[zU]
  .exact hx
  .rcases hb with⟨hP,rfl⟩|hb
   .exact hne _ (S.xpo hP).1
   .exact fun e=>S.dis _ hb (by rw[<-e]; exact hm)
theorem CS.setT (w:AV):CS n0 (H.set tb (.live 1 [[w]])) cb tb po co pb cbs P C sam ill w:=by
 refine⟨by rw[zU (Ne.symm S.ct)]; exact S.gc,D8 S.gt,S.np.keep fun b x hb hx=>?_,S.nc.keep fun b x hb hx=>?_,S.dis,S.xcp,S.xcc,S.xtp,S.xtc,S.xpo,S.xco,S.ct⟩
 .rw[zU]
  .exact hx
  .rcases hb with⟨hP,rfl⟩|hb
   .exact(S.xpo hP).2.2
   .exact fun e=>S.xtp (by rw[e]; exact hb)
 .rw[zU]
  .exact hx
  .rcases hb with⟨hC,rfl⟩|hb
   .exact(S.xco hC).2.2
   .exact fun e=>S.xtc (by rw[e]; exact hb)
theorem CS.setN (sam' ill':Int):CS n0 (H.set cb (.live 4 [cvR po P co C sam' ill'])) cb tb po co pb cbs P C sam' ill' v3:=by
 refine⟨D8 S.gc,by rw[zU S.ct]; exact S.gt,S.np.keep fun b x hb hx=>?_,S.nc.keep fun b x hb hx=>?_,S.dis,S.xcp,S.xcc,S.xtp,S.xtc,S.xpo,S.xco,S.ct⟩
 .rw[zU]
  .exact hx
  .rcases hb with⟨hP,rfl⟩|hb
   .exact(S.xpo hP).2.1
   .exact fun e=>S.xcp (by rw[e]; exact hb)
 .rw[zU]
  .exact hx
  .rcases hb with⟨hC,rfl⟩|hb
   .exact(S.xco hC).2.1
   .exact fun e=>S.xcc (by rw[e]; exact hb)
theorem CS.l0:EH Tryz.prog H 26 (.ptr cb 0 0)=some (nlV po P):=by rw[DW QX S.gc (row:=cvR po P co C sam ill) rfl]; rfl
theorem CS.l1:EH Tryz.prog H 26 (.ptr cb 0 1)=some (nlV co C):=by rw[DW QX S.gc (row:=cvR po P co C sam ill) rfl]; rfl
theorem CS.lt0:EH Tryz.prog H 26 (.ptr tb 0 0)=some v3:=by rw[DW QX S.gt (row:=[v3]) rfl]; rfl
end
theorem A19 (n x:Int):splice [.int .i64 n] 0 [.int .i64 x]=encI x:=rfl
theorem AF3 (xs:List Int)(b:Nat):(xs.map encI).set b (encI (rz (xs.getD b 0)))=(raiseAt xs b).map encI:=by rw[raiseAt,List.map_set]
structure Fr1 (h H:Hp) (cb tb:Nat) (pb cbs:List Nat):Prop where
 le:h.length<=H.length
 get:∀b x,h[b]?=some x->b≠cb->b≠tb->b ∉ pb->b ∉ cbs->H[b]?=some x
theorem Fr1.of_ext {h H:Hp}{cb tb:Nat}{pb cbs:List Nat}(hx:ext h H):Fr1 h H cb tb pb cbs:=⟨hx.le,fun _ _ hb _ _ _ _=>FP hx hb⟩
theorem Fr1.trans {a b c:Hp}{cb tb:Nat}{pb cbs:List Nat}(h1:Fr1 a b cb tb pb cbs)(h2:Fr1 b c cb tb pb cbs):Fr1 a c cb tb pb cbs :=
 ⟨zZ h1.le h2.le,fun q x hq e1 e2 e3 e4=>h2.get q x (h1.get q x hq e1 e2 e3 e4) e1 e2 e3 e4⟩
theorem Fr1.set {h H:Hp}{cb tb:Nat}{pb cbs:List Nat}(hf:Fr1 h H cb tb pb cbs){q:Nat}(hq:q=cb∨q=tb∨q∈pb∨q∈cbs)(y:ABlk):Fr1 h (H.set q y) cb tb pb cbs:=by
 refine⟨by simpa using hf.le,fun b x hb e1 e2 e3 e4=>?_⟩;rw[zU]
 .exact hf.get b x hb e1 e2 e3 e4
 .rintro rfl
  rcases hq with q|q|q|q
  .exact e1 q
  .exact e2 q
  .exact e3 q
  .exact e4 q
theorem A2Q (h:Hp)(n:Nat)(hn:n<=1048576):I9 Tryz.prog true h 26 (.int .i64 (n:Int)) (.int .i64 (n:Int))=some (.own h.length 0 n,h++[ABlk.live 1 (jZ n F5)]):=by
 have hz:NV Tryz.prog 57=some F5:=by kernel_rfl
 have hr:room n 24:=JW (by omega) (by omega);unfold I9;simp only[YU,VJ,ZQ,hz,Int.toNat_natCast];rw[if_pos ⟨by omega,Int.le_refl _,hr,rfl⟩];simp
theorem AL9 (p:Pt)(last:List Int)(l:List Sg):∀x∈(ptE p last l).hit,x<p.bins.length:=by
 intro x hx;unfold ptE at hx;split at hx
 .cases hx
 .split at hx
  .cases hx
  .split at hx
   .cases hx
   .split at hx
    .cases hx
    .exact AD3 _ _ _ _ _ x hx
theorem AHL (p:Pt)(last:List Int)(l:List Sg):(ptE p last l).hit.length<=p.bins.length:=by
 unfold ptE;split
 .simp
 .split
  .simp
  .split
   .simp
   .split
    .simp
    .exact WZ _ _ _ _ _
theorem AY9 (G:Nat->AV)(hG:GOk G)(p:Pt)(hp:PtOk p)(last:List Int)(lm:SM)(k:Nat)(hk:k=1∨last=[])(l:List Sg)(m:SM)(h:Hp)(hll:last.length<=1048576)(hl:l.length<=1099511627776) :
  PCall (En G) 43 [.agg (GM p),.sl lm k (last.map encI),.sl m 2 (l.map G7)] h (ptV (ptE p last l)):=by
 rcases hk with rfl|rfl
 .exact AE9 G hG p hp last lm l m h hll hl
 .exact PCall.args (AE9 G hG p hp [] lm l m h hll hl) (CvRL.cons (CvR.refl _) (CvRL.cons (CvR.sl (Cv.empty lm k 1)) (CvRL.refl _)))
def A1M (n0:Nat)(h:Hp)(cb tb po co:Nat)(pb cbs:List Nat)(m:Mo)(P C:List (List Int))(sam ill:Int)(ls:List (List Int))(env:List Sg)(v:AV)(H:Hp):Prop :=
 (∃e,e≠0∧JX PtR.err (QI m ls env)=e∧v=.int .i64 e∧ext h H) ∨
 (JX PtR.err (QI m ls env)=0∧v=.int .i64 0∧∃lb,h.length<=lb∧H[lb]?=some (.live 1 (((QI m ls env).map PtR.next).map MB)) ∧
  CS n0 H cb tb po co pb cbs (MC (QI m ls env) P) (NW m ((QI m ls env).map PtR.hit) C) (rz sam) (if(QI m ls env).any PtR.bad=true then rz ill else ill) (.own lb 0 m.pts.length)∧Fr1 h H cb tb pb cbs)
structure Ph (n0:Nat) (h H:Hp) (cb tb po co:Nat) (pb cbs:List Nat) (m:Mo) (mb hb lb:Nat) (P C:List (List Int)) (sam ill:Int) (hits:List (List Nat)) (nexts:List (List Int)):Prop where
 gm:H[mb]?=some (.live 2 [D6 m])
 gh:H[hb]?=some (.live 1 (hits.map MN))
 gl:H[lb]?=some (.live 1 (nexts.map MB))
 cs:CS n0 H cb tb po co pb cbs P C sam ill (.own lb 0 m.pts.length)
 fr:Fr1 h H cb tb pb cbs
 wp:∀b∈pb,b<h.length
 wc:∀b∈cbs,b<h.length
 em:h.length<=mb
 eh:h.length<=hb
 el:h.length<=lb
section
variable {n0:Nat} {h H:Hp} {cb tb po co:Nat} {pb cbs:List Nat} {m:Mo} {mb hb lb:Nat} {P C:List (List Int)} {sam ill:Int} {hits:List (List Nat)} {nexts:List (List Int)} (S:Ph n0 h H cb tb po co pb cbs m mb hb lb P C sam ill hits nexts)
include S
theorem Ph.app (x:Hp):Ph n0 h (H++x) cb tb po co pb cbs m mb hb lb P C sam ill hits nexts :=
 ⟨FX S.gm,FX S.gh,FX S.gl,S.cs.app x,⟨by have:=S.fr.le; simp; omega,fun b y hb e1 e2 e3 e4=>FX (S.fr.get b y hb e1 e2 e3 e4)⟩,S.wp,S.wc,S.em,S.eh,S.el⟩
theorem Ph.setP {i:Nat}(hi:i<pb.length)(ys:List Int)(hl:∀hx:i<P.length,ys.length=P[i].length):Ph n0 h (H.set pb[i] (.live 1 (ys.map encI))) cb tb po co pb cbs m mb hb lb (P.set i ys) C sam ill hits nexts:=by
 have hm:=jS hi;have hw:=S.wp _ hm;have a:=S.em; have b:=S.eh; have c:=S.el;exact⟨by rw[zU (by omega)]; exact S.gm,by rw[zU (by omega)]; exact S.gh,by rw[zU (by omega)]; exact S.gl,S.cs.setP hi ys hl,S.fr.set (.inr (.inr (.inl hm))) _,S.wp,S.wc,S.em,S.eh,S.el⟩
theorem Ph.setC {i:Nat}(hi:i<cbs.length)(ys:List Int)(hl:∀hx:i<C.length,ys.length=C[i].length):Ph n0 h (H.set cbs[i] (.live 1 (ys.map encI))) cb tb po co pb cbs m mb hb lb P (C.set i ys) sam ill hits nexts:=by
 have hm:=jS hi;have hw:=S.wc _ hm;have a:=S.em; have b:=S.eh; have c:=S.el;exact⟨by rw[zU (by omega)]; exact S.gm,by rw[zU (by omega)]; exact S.gh,by rw[zU (by omega)]; exact S.gl,S.cs.setC hi ys hl,S.fr.set (.inr (.inr (.inr hm))) _,S.wp,S.wc,S.em,S.eh,S.el⟩
theorem Ph.raiseP (G:Nat->AV){i:Nat}(hi:i<P.length)(hip:i<pb.length)(b:Nat)(hb:b<P[i].length)(hw:Wn P[i]) :
  EH Tryz.prog H 26 (.ptr cb 0 0)=some (nlV po P)∧KH 1 H (nlV po P) (.int .i64 (i:Nat))=some (.ptr po i 0)∧EH Tryz.prog H 57 (.ptr po i 0)=some (.own pb[i] 0 P[i].length) ∧
   KH 1 H (.own pb[i] 0 P[i].length) (.int .i64 (b:Nat))=some (.ptr pb[i] b 0)∧ACalls (En G) 166 [.ptr pb[i] b 0] H fun _ H'=>H'=H.set pb[i] (.live 1 ((raiseAt P[i] b).map encI)):=by
 have N:=S.cs.np;have hrow:=N.row i hip hi;refine⟨S.cs.l0,N.ix hi,N.ld hi,by have:=L6 (kk:=.i64) (off:=0) (len:=P[i].length) hrow hb; rw[jG] at this; exact this,?_⟩;have hg:P[i].getD b 0=P[i][b]:=by rw[zQ,jU hb]; rfl
 have hin:=hw.getD b;have hr:(P[i].map encI)[b]?=some [.int .i64 (P[i].getD b 0)]:=by rw[ND hb,hg]; rfl
 refine(U3 G hrow hr (n:=P[i].getD b 0) rfl (by omega) (by omega)).mono ?_;rintro _ H' rfl;rw[A19,AF3]
theorem Ph.raiseC (G:Nat->AV){i:Nat}(hi:i<C.length)(hip:i<cbs.length)(b:Nat)(hb:b<C[i].length)(hw:Wn C[i]) :
  EH Tryz.prog H 26 (.ptr cb 0 1)=some (nlV co C)∧KH 1 H (nlV co C) (.int .i64 (i:Nat))=some (.ptr co i 0)∧EH Tryz.prog H 57 (.ptr co i 0)=some (.own cbs[i] 0 C[i].length) ∧
   KH 1 H (.own cbs[i] 0 C[i].length) (.int .i64 (b:Nat))=some (.ptr cbs[i] b 0)∧ACalls (En G) 166 [.ptr cbs[i] b 0] H fun _ H'=>H'=H.set cbs[i] (.live 1 ((raiseAt C[i] b).map encI)):=by
 have N:=S.cs.nc;have hrow:=N.row i hip hi;refine⟨S.cs.l1,N.ix hi,N.ld hi,by have:=L6 (kk:=.i64) (off:=0) (len:=C[i].length) hrow hb; rw[jG] at this; exact this,?_⟩;have hg:C[i].getD b 0=C[i][b]:=by rw[zQ,jU hb]; rfl
 have hin:=hw.getD b;have hr:(C[i].map encI)[b]?=some [.int .i64 (C[i].getD b 0)]:=by rw[ND hb,hg]; rfl
 refine(U3 G hrow hr (n:=C[i].getD b 0) rfl (by omega) (by omega)).mono ?_;rintro _ H' rfl;rw[A19,AF3]
end
structure ShapeOk (m:Mo) (P C:List (List Int)):Prop where
 pl:P.length=m.pts.length
 cl:C.length=m.crs.length
 pe:∀i (h1:i<P.length) (h2:i<m.pts.length),P[i].length=m.pts[i].bins.length
 ce:∀i (h1:i<C.length) (h2:i<m.crs.length),C[i].length=GL (szs m m.crs[i].pts)
 wp:∀xs∈P,Wn xs
 wc:∀xs∈C,Wn xs
set_option maxHeartbeats 8000000 in
theorem AJM (G:Nat->AV)(hG:GOk G)(hT:O7 G)(m:Mo)(hm:MoOk m)(hg:Cov.Good m){n0:Nat}{h:Hp}{cb tb po co:Nat}{pb cbs:List Nat}{P C:List (List Int)}{sam ill:Int}{v3:AV}(S:CS n0 h cb tb po co pb cbs P C sam ill v3)(hS:ShapeOk m P C)
  (ls:List (List Int)) (hls:ls.length=m.pts.length) (hlen:∀l∈ls,l.length<=1048576) (T:TLs h v3 ls) (env:List Sg) (sm:SM) (henv:env.length<=1099511627776) (hsam:0<=sam∧sam<=1099511627776) (hill:0<=ill∧ill<=1099511627776) :
  ACalls (En G) 107 [.agg (D6 m),.ptr cb 0 0,.ptr tb 0 0,.sl sm 2 (env.map G7)] h (A1M n0 h cb tb po co pb cbs m P C sam ill ls env):=by
 have hnp:m.pts.length<=16:=by have:=hg.num; omega
 have hnc:m.crs.length<=16:=by have:=hg.num; omega
 have hrl:=Y6 m ls env hls;have hrg:=ADP m ls env;refine LV (H:=hint [] []) (enM G) Tryz.func107 rfl (by kernel_rfl) (by kernel_rfl) (jH (by kernel_rfl)) ?_;show awp _ _ _ _ _ (EN _ [.tmp 8] _);unfold A1M
 generalize QI m ls env=rs at hrl hrg|-
 have gm:=CY h (ABlk.live 2 [D6 m]);have hx:=(ext.rfl' h).app [ABlk.live 2 [D6 m]];have hl0:(h++[ABlk.live 2 [D6 m]]).length=h.length+1:=by simp
 simp -implicitDefEqProofs only[C9,jJ,BC,BA,A8,AY,BB,AL,BD,AX,AC,AA,AZ,AU,BH,A7,FU,BQ,BJ,BZ,AB,BF,↓reduceIte,jA,jL,jB,jC,enP,IR,DZ,bxM]
 generalize h++[ABlk.live 2 [D6 m]]=H0 at gm hx hl0|-
 have lm0:∀H:Hp,H[h.length]?=some (.live 2 [D6 m])->EH Tryz.prog H 22 (.ptr h.length 0 0)=some (.sl m.pm 6 (m.pts.map GM)):=fun H g=>by rw[DW WN g (row:=D6 m) rfl,QA]
 have lm1:∀H:Hp,H[h.length]?=some (.live 2 [D6 m])->EH Tryz.prog H 23 (.ptr h.length 0 1)=some (.sl m.cm 3 (m.crs.map GG)):=fun H g=>by rw[DW AA5 g (row:=D6 m) rfl,UI]
 have gm1:=CV (x:=ABlk.live 1 (jZ m.pts.length F5)) gm;have gh1:=CY H0 (ABlk.live 1 (jZ m.pts.length F5));have hx1:=hx.app [ABlk.live 1 (jZ m.pts.length F5)];have hl1:(H0++[ABlk.live 1 (jZ m.pts.length F5)]).length=h.length+2:=by simp; omega
 simp -implicitDefEqProofs only[C9,jJ,BC,BA,A8,AY,BB,AL,BD,AX,AC,AA,AZ,A7,BQ,JI,BJ,D7,BZ,AB,↓reduceIte,jA,jL,jB,jC,enP,QS,IR,DZ,lm0 _ gm,jI,A2Q _ _ (show m.pts.length<=1048576 by omega)]
 generalize H0++[ABlk.live 1 (jZ m.pts.length F5)]=H1 at gm1 gh1 hx1 hl1|-
 rw[hl0] at gh1|-
 have gm2:=CV (x:=ABlk.live 1 (jZ m.pts.length F5)) gm1;have gh2:=CV (x:=ABlk.live 1 (jZ m.pts.length F5)) gh1;have gl2:=CY H1 (ABlk.live 1 (jZ m.pts.length F5));have hx2:=hx1.app [ABlk.live 1 (jZ m.pts.length F5)];simp -implicitDefEqProofs only[C9,jJ,BC,BA,A8,AY,BB,AL,BD,AX,AC,AA,AZ,AU,BM,A7,BQ,JI,BJ,D7,BZ,AB,↓reduceIte,jA,jL,jB,jC,enP,QS,IR,DZ,lm0 _ gm1,jI,A2Q _ _ (show m.pts.length<=1048576 by omega)]
 generalize H1++[ABlk.live 1 (jZ m.pts.length F5)]=H2 at gm2 gh2 gl2 hx2|-
 rw[hl1] at gl2|-
 have hhl:(rs.map PtR.hit).length=m.pts.length:=by simp [hrl]
 have hnl:(rs.map PtR.next).length=m.pts.length:=by simp [hrl]
 simp -implicitDefEqProofs only[C9,jJ,BP,A8,AY,BB,AL,BD,AX,AC,AA,AZ,AU,BH,BG,D7,AB,↓reduceIte,jB,jC,enP,QS,DZ,lm0 _ gm2,jI]
 refine GN 0 (fun F H=>F 1=.ptr cb 0 0∧F 2=.ptr tb 0 0∧F 4=.ptr h.length 0 0∧F 9=.own (h.length+1) 0 m.pts.length∧F 10=.own (h.length+2) 0 m.pts.length∧F 11=.bool (rs.any PtR.bad)∧ext h H∧H[h.length]?=some (.live 2 [D6 m]) ∧
   H[h.length+1]?=some (.live 1 ((rs.map PtR.hit).map MN))∧H[h.length+2]?=some (.live 1 ((rs.map PtR.next).map MB))∧JX PtR.err rs=0)
  (fun F H=>∃e,F 8=.int .i64 e∧e≠0∧JX PtR.err rs=e∧ext h H) ?_ ?_ ?_
 .refine DK (fun n F H=>∃i,n+i=m.pts.length∧F 1=.ptr cb 0 0∧F 2=.ptr tb 0 0∧F 3=.sl sm 2 (env.map G7)∧F 4=.ptr h.length 0 0∧F 9=.own (h.length+1) 0 m.pts.length∧F 10=.own (h.length+2) 0 m.pts.length∧F 11=.bool ((rs.take i).any PtR.bad)∧F 36=.sl m.pm 6 (m.pts.map GM)∧F 37=.int .i64 (m.pts.length:Nat)∧F 38=.int .i64 (i:Nat)∧ext h H∧H[h.length]?=some (.live 2 [D6 m]) ∧
   H[h.length+1]?=some (.live 1 (mix ((rs.map PtR.hit).map MN) (jZ m.pts.length F5) i))∧H[h.length+2]?=some (.live 1 (mix ((rs.map PtR.next).map MB) (jZ m.pts.length F5) i))∧JX PtR.err rs=JX PtR.err (rs.drop i)) m.pts.length
   ⟨0,by simp,by simp -implicitDefEqProofs only[AA,BF,BN,↓reduceIte,jA],by simp -implicitDefEqProofs only[AA,BF,BN,↓reduceIte,jA],by simp -implicitDefEqProofs only[AA,BF,BN,↓reduceIte,jA],by simp -implicitDefEqProofs only[AA,↓reduceIte,jA],by simp -implicitDefEqProofs only[AA,↓reduceIte,jA],by simp -implicitDefEqProofs only[AA,↓reduceIte,jA],by simp -implicitDefEqProofs only[AA,↓reduceIte,jA]; rfl,by simp -implicitDefEqProofs only[AA,↓reduceIte,jA],by simp -implicitDefEqProofs only[AA,↓reduceIte,jA],by simp -implicitDefEqProofs only[AA,↓reduceIte]; rfl,hx2,gm2,gh2,gl2,rfl⟩ ?_
  rintro n F H ⟨i,hi,f1,f2,f3,f4,f9,f10,f11,f36,f37,f38,hxH,gmH,ghH,glH,hfst⟩;simp -implicitDefEqProofs only[C9,jJ,BC,BA,BI,A8,AY,BB,AL,BD,AX,AC,AA,AZ,BR,AB,DC,↓reduceIte,jB,jC,enP,DZ,f37,f38];refine CU (fun hc=>?_) (fun hc=>?_)
  .have hi':i<m.pts.length:=by simpa using hc
   have hir:i<rs.length:=by omega
   have hil:i<ls.length:=by omega
   have hp:=hm.pts _ (jS hi');have hri:rs[i]=ptE m.pts[i] ls[i] env:=hrg i hi' hil hir;rw[OO _ _ _ hir] at hfst;have hbad:(rs.take (i+1)).any PtR.bad=((rs.take i).any PtR.bad||rs[i].bad):=by rw[zL hir,List.any_append]; simp
   have hxa:=hxH.app [ABlk.live 6 [GM m.pts[i]]];have gma:=CV (x:=ABlk.live 6 [GM m.pts[i]]) gmH;have gha:=CV (x:=ABlk.live 6 [GM m.pts[i]]) ghH;have gla:=CV (x:=ABlk.live 6 [GM m.pts[i]]) glH;have gpa:=CY H (ABlk.live 6 [GM m.pts[i]]);simp -implicitDefEqProofs only[C9,jJ,BC,BP,BA,BO,A8,AY,BB,AL,BD,AX,AC,EM,AA,AZ,BG,A7,FD,BQ,D5,CE,BZ,AB,CX,↓reduceIte,jA,jB,jC,enP,SS,DZ,jP,f36,f38,DU hi',FM ACG YW JR hi',AR4,AQB _ _ [.str ⟨#[]⟩,.int .i64 0,.int .i64 0,.str ⟨#[]⟩,.sl .nil 0 [],.sl .nil 0 []] rfl]
   generalize H++[ABlk.live 6 [GM m.pts[i]]]=Ha at hxa gma gha gla gpa|-
   have Sa:=S.ext hxa;obtain⟨a,s',k',hix,hld,hk'⟩:=(T.ext hxa).ld i hil;have hcall:=AY9 G hG m.pts[i] hp ls[i] s' k' hk' env sm Ha (hlen _ (jS hil)) henv;rw[<-hri] at hcall;unfold ptV at hcall;refine EZ (by kernel_rfl) ?_;simp -implicitDefEqProofs only[FZ,C9,jJ,ED,DN,EF,FO,FB,D9,EE,LU,GH,F8,AA,AZ,BX,BQ,BJ,CE,FI,AB,jD,jE,jF,↓reduceIte,jA,jK,jL,jB,enP,N7,RZ,H8,PG,JE,f2,f3,ldP gpa,Sa.lt0,hix,hld];refine⟨_,hcall,?_⟩;simp -implicitDefEqProofs only[FZ,zB,zG,C9,jJ,ED,DN,E8,EF,I7,LU,BC,BA,BI,A8,AY,BB,AL,BD,AX,AC,AA,AZ,AU,BH,BG,BR,FI,GU,AB,EK,↓reduceIte,jA,jK,jB,jC,enP,DZ];cases he:(rs[i].err==0)
   .have hne:rs[i].err≠0:=by simpa using he
    rw[if_neg hne] at hfst;simp -implicitDefEqProofs only[C9,jJ,BC,BA,BK,A8,CP,EG,NG,FQ,DI,AY,BB,AL,BD,AX,AC,AA,AZ,BG,A7,↓reduceIte,jA,jB,jC,DZ,bne,he];exact⟨rs[i].err,by trivial,hne,hfst,hxa⟩
   .have hz:rs[i].err=0:=by simpa using he
    rw[if_pos hz] at hfst;have hm1:=mix_get (ys:=(rs.map PtR.hit).map MN) (xs:=jZ m.pts.length F5) (i:=i) (j:=i) (by simp [hrl]) (jM _) (by simp; omega);have hm2:=mix_get (ys:=(rs.map PtR.next).map MB) (xs:=jZ m.pts.length F5) (i:=i) (j:=i) (by simp [hrl]) (jM _) (by simp; omega);rw[List.getElem_replicate] at hm1 hm2;have hs1:=mix_set (ys:=(rs.map PtR.hit).map MN) (xs:=jZ m.pts.length F5) (i:=i) (by simp [hrl]) (by simp; omega) (by simp; omega);have hs2:=mix_set (ys:=(rs.map PtR.next).map MB) (xs:=jZ m.pts.length F5) (i:=i) (by simp [hrl]) (by simp; omega) (by simp; omega);rw[List.getElem_map,List.getElem_map] at hs1 hs2;have hi1:=L6 (kk:=.i64) (off:=0) (len:=m.pts.length) gha hi';rw[jG] at hi1
    have hst1:FW Tryz.prog Ha 57 (.ptr (h.length+1) i 0) (.sl (nm rs[i].hit) 1 (rs[i].hit.map IG))=some (Ha.set (h.length+1) (.live 1 (mix ((rs.map PtR.hit).map MN) (jZ m.pts.length F5) (i+1)))):=by
     rw[KU (AV3 _ _ _) VJ gha hm1 (by simp [F5]),<-hs1]; rfl
    have gmb:(Ha.set (h.length+1) (.live 1 (mix ((rs.map PtR.hit).map MN) (jZ m.pts.length F5) (i+1))))[h.length]?=_:=CW gma (by omega);have glb:(Ha.set (h.length+1) (.live 1 (mix ((rs.map PtR.hit).map MN) (jZ m.pts.length F5) (i+1))))[h.length+2]?=_:=CW gla (by omega);have ghb:(Ha.set (h.length+1) (.live 1 (mix ((rs.map PtR.hit).map MN) (jZ m.pts.length F5) (i+1))))[h.length+1]?=_:=D8 gha;have hxb:=hxa.set (b:=h.length+1) (by omega) (.live 1 (mix ((rs.map PtR.hit).map MN) (jZ m.pts.length F5) (i+1)));have hi1l:=L6 (kk:=.i64) (off:=0) (len:=m.pts.length) gla hi';rw[jG] at hi1l;simp -implicitDefEqProofs only[C9,jJ,BC,BA,BO,A8,DT,AY,AL,BD,AX,AC,EM,AA,AZ,BG,D5,CE,AB,CX,↓reduceIte,jA,jB,jT,jC,enP,N7,DZ,jP,bne,he,f9,f10,hi1,hst1]
    generalize Ha.set (h.length+1) (.live 1 (mix ((rs.map PtR.hit).map MN) (jZ m.pts.length F5) (i+1)))=Hb at gmb glb ghb hxb|-
    have hi2:=L6 (kk:=.i64) (off:=0) (len:=m.pts.length) glb hi';rw[jG] at hi2
    have hst2:FW Tryz.prog Hb 57 (.ptr (h.length+2) i 0) (.sl (nm rs[i].next) 1 (rs[i].next.map encI))=some (Hb.set (h.length+2) (.live 1 (mix ((rs.map PtR.next).map MB) (jZ m.pts.length F5) (i+1)))):=by
     rw[KU (AV3 _ _ _) VJ glb hm2 (by simp [F5]),<-hs2]; rfl
    simp -implicitDefEqProofs only[C9,jJ,BA,A8,AY,BB,BL,BV,CO,AL,BD,AX,AC,EM,AA,AZ,BG,D5,AB,CX,↓reduceIte,jA,jB,jC,enP,DZ,jP,f10,hi2,hst2];have gmc:(Hb.set (h.length+2) (.live 1 (mix ((rs.map PtR.next).map MB) (jZ m.pts.length F5) (i+1))))[h.length]?=_:=CW gmb (by omega);have ghc:(Hb.set (h.length+2) (.live 1 (mix ((rs.map PtR.next).map MB) (jZ m.pts.length F5) (i+1))))[h.length+1]?=_:=CW ghb (by omega);have glc:(Hb.set (h.length+2) (.live 1 (mix ((rs.map PtR.next).map MB) (jZ m.pts.length F5) (i+1))))[h.length+2]?=_:=D8 glb;have hxc:=hxb.set (b:=h.length+2) (by omega) (.live 1 (mix ((rs.map PtR.next).map MB) (jZ m.pts.length F5) (i+1)))
    generalize Hb.set (h.length+2) (.live 1 (mix ((rs.map PtR.next).map MB) (jZ m.pts.length F5) (i+1)))=Hc at gmc ghc glc hxc|-
    simp -implicitDefEqProofs only[f11];cases hq:(rs.take i).any PtR.bad
    .rw[hq,qG] at hbad
     simp -implicitDefEqProofs only[C9,jJ,BA,A8,EJ,EQ,AY,BB,ES,AL,BD,AX,AC,AA,AZ,AU,BH,BM,BG,A7,CQ,DX,BR,AB,CZ,↓reduceIte,jA,jB,jC,enP,DZ,f38,wrap_succ (show i<9223372036854775807 by omega)];exact⟨n-1,by omega,i+1,by omega,by trivial,by trivial,by trivial,by trivial,by trivial,by trivial,by first|rw[hbad]|(rw[hbad]; rfl),by trivial,by trivial,by trivial,hxc,gmc,ghc,glc,hfst⟩
    .rw[hq,wE] at hbad
     simp -implicitDefEqProofs only[C9,jJ,BA,A8,EJ,EQ,AY,BB,F7,AL,BD,AX,AC,AA,EX,AZ,AU,BH,BM,BG,A7,CQ,DY,BR,AB,CZ,↓reduceIte,jA,jB,jC,enP,DZ,f38,wrap_succ (show i<9223372036854775807 by omega)];exact⟨n-1,by omega,i+1,by omega,by trivial,by trivial,by trivial,by trivial,by trivial,by trivial,by first|rw[hbad]|(rw[hbad]; rfl),by trivial,by trivial,by trivial,hxc,gmc,ghc,glc,hfst⟩
  .have hi':i=m.pts.length:=by
    have:¬i<m.pts.length:=by simpa using hc
    omega
   subst hi';have e1:=QR (ys:=(rs.map PtR.hit).map MN) (xs:=jZ m.pts.length F5) (by simp [hrl]);have e2:=QR (ys:=(rs.map PtR.next).map MB) (xs:=jZ m.pts.length F5) (by simp [hrl]);rw[List.length_replicate] at e1 e2;rw[e1] at ghH;rw[e2] at glH;rw[jX (by omega)] at f11;rw[jW (by omega)] at hfst;simp -implicitDefEqProofs only[DJ,EI,J3,ET,AA,↓reduceIte,jA];exact⟨f1,f2,f4,f9,f10,f11,hxH,gmH,ghH,glH,hfst⟩
 .rintro F H ⟨f1,f2,f4,f9,f10,f11,hxH,gmH,ghH,glH,hfst⟩
  have S1:=S.ext hxH;have hwp:∀b∈pb,b<h.length:=fun b hb=>S.np.mem_lt hb
  have hwc:∀b∈cbs,b<h.length:=fun b hb=>S.nc.mem_lt hb
  have htl:=CJ S.gt;have hcl:=CJ S.gc;have hstT:FW Tryz.prog H 26 (.ptr tb 0 0) (.own (h.length+2) 0 m.pts.length)=some (H.set tb (.live 1 [[.own (h.length+2) 0 m.pts.length]])):=OY (row:=[v3]) (YM _ _ _) ALZ S1.gt (by simp);have S2:=S1.setT (.own (h.length+2) 0 m.pts.length);have fr2:Fr1 h (H.set tb (.live 1 [[.own (h.length+2) 0 m.pts.length]])) cb tb pb cbs:=(Fr1.of_ext hxH).set (.inr (.inl rfl)) _;have gm2:(H.set tb (.live 1 [[.own (h.length+2) 0 m.pts.length]]))[h.length]?=_:=CW gmH (by omega);have gh2:(H.set tb (.live 1 [[.own (h.length+2) 0 m.pts.length]]))[h.length+1]?=_:=CW ghH (by omega);have gl2:(H.set tb (.live 1 [[.own (h.length+2) 0 m.pts.length]]))[h.length+2]?=_:=CW glH (by omega);simp -implicitDefEqProofs only[C9,jJ,BC,BA,A8,EW,AY,BB,AL,BD,AX,AC,EM,AA,AZ,BG,D5,BJ,AB,CX,↓reduceIte,jA,jL,jB,jC,enP,RZ,DZ,jP,H8,JE,f2,f10,hstT]
  generalize H.set tb (.live 1 [[.own (h.length+2) 0 m.pts.length]])=H3 at S2 fr2 gm2 gh2 gl2|-
  simp -implicitDefEqProofs only[C9,jJ,AY,AL,BD,AX,AC,AA,AZ,BX,BJ,CB,BU,AB,jD,jE,jF,↓reduceIte,jG,jB,jC,enP,TU,DZ,JE,f1];refine(U3 G S2.gc (i:=0) (j:=2) (n:=sam) rfl rfl (by omega) (by omega)).mono ?_;intro _ H4 e4;have e4':H4=H3.set cb (.live 4 [cvR po P co C (rz sam) ill]):=e4;have S4:=S2.setN (rz sam) ill;have fr4:=fr2.set (.inl rfl) (.live 4 [cvR po P co C (rz sam) ill]);have gm4:(H3.set cb (.live 4 [cvR po P co C (rz sam) ill]))[h.length]?=_:=CW gm2 (by omega);have gh4:(H3.set cb (.live 4 [cvR po P co C (rz sam) ill]))[h.length+1]?=_:=CW gh2 (by omega);have gl4:(H3.set cb (.live 4 [cvR po P co C (rz sam) ill]))[h.length+2]?=_:=CW gl2 (by omega);rw[<-e4'] at S4 fr4 gm4 gh4 gl4;clear e4 e4';have P4:Ph n0 h H4 cb tb po co pb cbs m h.length (h.length+1) (h.length+2) P C (rz sam) ill (rs.map PtR.hit) (rs.map PtR.next):=⟨gm4,gh4,gl4,S4,fr4,hwp,hwc,jM _,by omega,by omega⟩;simp -implicitDefEqProofs only[C9,jJ,BC,BA,BI,A8,AY,BB,AL,BD,AX,AC,AA,AZ,BG,↓reduceIte,jA,jB,jC,DZ,f11];refine WH (fun F H=>F 1=.ptr cb 0 0∧F 4=.ptr h.length 0 0∧F 9=.own (h.length+1) 0 m.pts.length∧Ph n0 h H cb tb po co pb cbs m h.length (h.length+1) (h.length+2) P C (rz sam) (if rs.any PtR.bad=true then rz ill else ill) (rs.map PtR.hit) (rs.map PtR.next)) (fun _ _=>False) ?_ ?_ ?_ (fun _ _ hh=>hh.elim)
  .intro hb
   simp -implicitDefEqProofs only[C9,jJ,BA,AY,AL,BD,AX,AC,AA,AZ,BX,BG,BJ,CB,BU,AB,jD,jE,jF,↓reduceIte,jA,jG,jB,jC,enP,U6,DZ,H8,JE,f1];refine(U3 G S4.gc (i:=0) (j:=3) (n:=ill) rfl rfl (by omega) (by omega)).mono ?_;intro _ H5 e5;have e5':H5=H4.set cb (.live 4 [cvR po P co C (rz sam) (rz ill)]):=e5;have S5:=S4.setN (rz sam) (rz ill);have fr5:=fr4.set (.inl rfl) (.live 4 [cvR po P co C (rz sam) (rz ill)]);have gm5:(H4.set cb (.live 4 [cvR po P co C (rz sam) (rz ill)]))[h.length]?=_:=CW gm4 (by omega);have gh5:(H4.set cb (.live 4 [cvR po P co C (rz sam) (rz ill)]))[h.length+1]?=_:=CW gh4 (by omega);have gl5:(H4.set cb (.live 4 [cvR po P co C (rz sam) (rz ill)]))[h.length+2]?=_:=CW gl4 (by omega);rw[<-e5'] at S5 fr5 gm5 gh5 gl5;rw[if_pos hb];simp -implicitDefEqProofs only[VD,BB,AC,AA,↓reduceIte,jA,f4,f9];exact⟨by trivial,by trivial,by trivial,gm5,gh5,gl5,S5,fr5,hwp,hwc,jM _,by omega,by omega⟩
  .intro hb
   rw[if_neg (by rw[hb]; decide)];simp -implicitDefEqProofs only[BO,VD,AA,↓reduceIte,jA];exact⟨f1,f4,f9,P4⟩
  clear P4 S4 fr4 gm4 gh4 gl4 S2 fr2 gm2 gh2 gl2 hstT S1 f1 f2 f4 f9 f10 f11;rintro F H ⟨f1,f4,f9,PS⟩
  generalize (if rs.any PtR.bad=true then rz ill else ill)=ill' at PS|-
  have hbl:=S.np.len;have hcl2:=S.nc.len;have hpl:=hS.pl;have hcll:=hS.cl;have hsl:=YZ rs P (by omega);have hscl:=Y2 m (rs.map PtR.hit) C hcll
  have h64:∀x∈rs.map PtR.hit,x.length<=1048576:=by
   intro x hx;obtain⟨r,hr,rfl⟩:=zO.1 hx;obtain⟨i,hi,rfl⟩:=qX hr;rw[hrg i (by omega) (by omega) hi];have h1:=AHL m.pts[i] ls[i] env;have h2:=(hg.full _ (jS (show i<m.pts.length by omega))).2;omega
  simp -implicitDefEqProofs only[C9,jJ,BC,BP,BA,A8,AY,BB,AL,BD,AX,AC,AA,AZ,AU,BH,BG,D7,AB,↓reduceIte,jB,jC,enP,XI,DZ,f9];refine GN 2 (fun F H=>F 1=.ptr cb 0 0∧F 4=.ptr h.length 0 0∧F 9=.own (h.length+1) 0 m.pts.length∧Ph n0 h H cb tb po co pb cbs m h.length (h.length+1) (h.length+2) (MC rs P) C (rz sam) ill' (rs.map PtR.hit) (rs.map PtR.next)) (fun _ _=>False) ?_ ?_ (fun _ _ hh=>hh.elim)
  .refine DK (fun n F H=>∃i,n+i=m.pts.length∧F 1=.ptr cb 0 0∧F 4=.ptr h.length 0 0∧F 9=.own (h.length+1) 0 m.pts.length∧F 87=.own (h.length+1) 0 m.pts.length∧F 88=.int .i64 (m.pts.length:Nat)∧F 89=.int .i64 (i:Nat) ∧
    Ph n0 h H cb tb po co pb cbs m h.length (h.length+1) (h.length+2) (mix (MC rs P) P i) C (rz sam) ill' (rs.map PtR.hit) (rs.map PtR.next)) m.pts.length ⟨0,by simp,by simp -implicitDefEqProofs only[AA,↓reduceIte,jA,f1],by simp -implicitDefEqProofs only[AA,↓reduceIte,jA,f4],by simp -implicitDefEqProofs only[AA,↓reduceIte,jA,f9],by simp -implicitDefEqProofs only[AA,↓reduceIte,jA],by simp -implicitDefEqProofs only[AA,↓reduceIte,jA],by simp -implicitDefEqProofs only[AA,↓reduceIte]<;>rfl,PS⟩ ?_
   rintro n F H ⟨i,hi,f1,f4,f9,f87,f88,f89,PS⟩;simp -implicitDefEqProofs only[C9,jJ,BC,BA,BI,A8,AY,BB,AL,BD,AX,AC,AA,AZ,BR,AB,DC,↓reduceIte,jB,jC,enP,DZ,f88,f89];refine CU (fun hc=>?_) (fun hc=>?_)
   .have hi':i<m.pts.length:=by simpa using hc
    have hir:i<rs.length:=by omega
    have hiP:i<P.length:=by omega
    have hipb:i<pb.length:=by omega
    have hmx:=mix_len (ys:=MC rs P) (xs:=P) (i:=i) hsl (by omega);have hmi:=V4 (ys:=MC rs P) (xs:=P) (i:=i) (j:=i) hsl (jM _) hiP (by omega);have hsg:=Y0 rs P i hir hiP (by omega);have hms:=mix_set (ys:=MC rs P) (xs:=P) (i:=i) hsl hiP (by omega);have hri:rs[i]=ptE m.pts[i] ls[i] env:=hrg i hi' (by omega) hir;have hpe:=hS.pe i hiP hi';have hlt:∀x∈rs[i].hit,x<P[i].length:=fun x hx=>by rw[hri] at hx; rw[hpe]; exact AL9 _ _ _ x hx
    have hll:rs[i].hit.length<=1048576:=h64 _ (zO.2 ⟨rs[i],jS hir,rfl⟩);have hwi:Wn P[i]:=hS.wp _ (jS hiP);have hi1:=L6 (kk:=.i64) (off:=0) (len:=m.pts.length) PS.gh hi';rw[jG] at hi1
    have lh:EH Tryz.prog H 57 (.ptr (h.length+1) i 0)=some (.sl (nm rs[i].hit) 1 (rs[i].hit.map IG)):=by
     rw[DW KC PS.gh (row:=MN rs[i].hit) (by rw[ND (by simpa using hir)]; simp)]; rfl
    generalize hht:rs[i].hit=hit at hlt hll lh hsg;obtain⟨M,hmm,hmx,hmi,hms⟩:∃M,mix (MC rs P) P i=M∧M.length=P.length∧(∀h:i<M.length,M[i]=P[i])∧M.set i (MC rs P)[i]=mix (MC rs P) P (i+1):=⟨_,rfl,hmx,fun _=>hmi,hms⟩;rw[hmm] at PS;simp -implicitDefEqProofs only[C9,jJ,BC,BP,BA,BO,A8,AY,BB,AL,BD,AX,AC,AA,AZ,AU,BH,BG,A7,BQ,CE,D7,AB,↓reduceIte,jA,jB,jC,enP,N7,JA,DZ,f87,f89,hi1,lh,jI];refine GN 4 (fun F H=>F 1=.ptr cb 0 0∧F 4=.ptr h.length 0 0∧F 9=.own (h.length+1) 0 m.pts.length∧F 87=.own (h.length+1) 0 m.pts.length∧F 88=.int .i64 (m.pts.length:Nat)∧F 89=.int .i64 (i:Nat)∧Ph n0 h H cb tb po co pb cbs m h.length (h.length+1) (h.length+2) (M.set i (rowP hit P[i])) C (rz sam) ill' (rs.map PtR.hit) (rs.map PtR.next)) (fun _ _=>False) ?_ ?_ (fun _ _ hh=>hh.elim)
    .have e0:M.set i (rowP (hit.take 0) P[i])=M:=by
      show M.set i P[i]=M;rw[<-hmi (by omega),List.set_getElem_self]
     refine DK (fun n F H=>∃j,n+j=hit.length∧F 1=.ptr cb 0 0∧F 4=.ptr h.length 0 0∧F 9=.own (h.length+1) 0 m.pts.length∧F 87=.own (h.length+1) 0 m.pts.length∧F 88=.int .i64 (m.pts.length:Nat)∧F 89=.int .i64 (i:Nat)∧F 18=.int .i64 (i:Nat)∧F 94=.sl (nm hit) 1 (hit.map IG)∧F 95=.int .i64 (hit.length:Nat)∧F 96=.int .i64 (j:Nat) ∧
      Ph n0 h H cb tb po co pb cbs m h.length (h.length+1) (h.length+2) (M.set i (rowP (hit.take j) P[i])) C (rz sam) ill' (rs.map PtR.hit) (rs.map PtR.next)) hit.length
      ⟨0,by simp,by simp -implicitDefEqProofs only[AA,↓reduceIte,jA,f1],by simp -implicitDefEqProofs only[AA,↓reduceIte,jA,f4],by simp -implicitDefEqProofs only[AA,↓reduceIte,jA,f9],by simp -implicitDefEqProofs only[AA,↓reduceIte,jA,f87],by simp -implicitDefEqProofs only[AA,↓reduceIte,jA,f88],by simp -implicitDefEqProofs only[AA,↓reduceIte,jA,f89],by simp -implicitDefEqProofs only[AA,↓reduceIte,jA]<;>rfl,by simp -implicitDefEqProofs only[AA,↓reduceIte,jA]<;>rfl,by simp -implicitDefEqProofs only[AA,↓reduceIte,jA]<;>rfl,by simp -implicitDefEqProofs only[AA,↓reduceIte]<;>rfl,by rw[e0]; exact PS⟩ ?_
     clear PS lh hi1;rintro n' F H ⟨j,hj,f1,f4,f9,f87,f88,f89,f18,f94,f95,f96,PS⟩;simp -implicitDefEqProofs only[C9,jJ,BC,BA,BI,A8,AY,BB,AL,BD,AX,AC,AA,AZ,BR,AB,DC,↓reduceIte,jB,jC,enP,DZ,f95,f96];refine CU (fun hc=>?_) (fun hc=>?_)
     .have hj':j<hit.length:=by simpa using hc
      have hb:=hlt _ (jS hj');have hrl2:=UC (hit.take j) P[i];have hiM:i<(M.set i (rowP (hit.take j) P[i])).length:=by rw[qI]; omega
      have hcur:(M.set i (rowP (hit.take j) P[i]))[i]=rowP (hit.take j) P[i]:=List.getElem_set_self _;have hR:=PS.raiseP G hiM hipb hit[j] (by rw[hcur,hrl2]; exact hb) (by rw[hcur]; exact Wn.rowP _ hwi);rw[hcur] at hR;obtain⟨r1,r2,r3,r4,r5⟩:=hR;have PS2:=PS.setP hipb (raiseAt (rowP (hit.take j) P[i]) hit[j]) (fun _=>by rw[hcur,TB]);rw[List.set_set,<-rowP_step _ _ _ hj'] at PS2;rw[<-rowP_step _ _ _ hj'] at r5;simp -implicitDefEqProofs only[C9,jJ,BC,BP,BA,BO,A8,AY,BB,AL,BD,AX,AC,AA,AZ,BX,BG,A7,BQ,BJ,CE,CB,BU,AB,jD,jE,jF,↓reduceIte,jA,jL,jB,jC,enP,N7,L8,JF,DZ,H8,JE,f94,f96,DU hj',DF ag3 hj',encN0,f1,f18,r1,r2,r3,r4];refine r5.mono ?_;rintro _ H' rfl;simp -implicitDefEqProofs only[C9,jJ,BA,A8,EJ,EQ,AY,BB,AL,BD,AX,AC,AA,AZ,AU,BH,BG,BR,AB,CZ,↓reduceIte,jA,jB,jC,enP,DZ,f96,wrap_succ (show j<9223372036854775807 by omega)];exact⟨n'-1,by omega,j+1,by omega,by trivial,by trivial,by trivial,by trivial,by trivial,by trivial,by trivial,by trivial,by trivial,by trivial,PS2⟩
     .have hj':¬j<hit.length:=by simpa using hc
      rw[jX (by omega)] at PS;simp -implicitDefEqProofs only[DJ,EI,J3,ET,AA,↓reduceIte,jA];exact⟨f1,f4,f9,f87,f88,f89,PS⟩
    .rintro F H ⟨f1,f4,f9,f87,f88,f89,PS⟩
     have e1:M.set i (rowP hit P[i])=mix (MC rs P) P (i+1):=by rw[<-hms,hsg]
     rw[e1] at PS;simp -implicitDefEqProofs only[C9,jJ,BA,A8,EJ,EW,EQ,AY,BB,AL,BD,AX,AC,AA,AZ,AU,BH,BG,BR,AB,CZ,↓reduceIte,jA,jB,jC,enP,DZ,f89,wrap_succ (show i<9223372036854775807 by omega)];exact⟨n-1,by omega,i+1,by omega,by trivial,by trivial,by trivial,by trivial,by trivial,by trivial,PS⟩
   .have hi':i=P.length:=by
     have:¬i<m.pts.length:=by simpa using hc
     omega
    subst hi';rw[QR hsl] at PS;simp -implicitDefEqProofs only[DJ,EI,J3,ET,AA,↓reduceIte,jA];exact⟨f1,f4,f9,PS⟩
  clear PS f1 f4 f9;rintro F H ⟨f1,f4,f9,PS⟩;simp -implicitDefEqProofs only[C9,jJ,BC,BP,BA,A8,EW,AY,BB,AL,BD,AX,AC,AA,AZ,AU,BH,BG,BQ,BJ,D7,AB,↓reduceIte,jG,jB,jC,enP,VL,J4,DZ,f4,lm1 _ PS.gm,jI];refine GN 6 (fun F H=>Ph n0 h H cb tb po co pb cbs m h.length (h.length+1) (h.length+2) (MC rs P) (NW m (rs.map PtR.hit) C) (rz sam) ill' (rs.map PtR.hit) (rs.map PtR.next)) (fun _ _=>False) ?_ ?_ (fun _ _ hh=>hh.elim)
  .refine DK (fun n F H=>∃i,n+i=m.crs.length∧F 1=.ptr cb 0 0∧F 4=.ptr h.length 0 0∧F 9=.own (h.length+1) 0 m.pts.length∧F 113=.sl m.cm 3 (m.crs.map GG)∧F 114=.int .i64 (m.crs.length:Nat)∧F 115=.int .i64 (i:Nat) ∧
    Ph n0 h H cb tb po co pb cbs m h.length (h.length+1) (h.length+2) (MC rs P) (mix (NW m (rs.map PtR.hit) C) C i) (rz sam) ill' (rs.map PtR.hit) (rs.map PtR.next)) m.crs.length ⟨0,by simp,by simp -implicitDefEqProofs only[AA,↓reduceIte,jA,f1],by simp -implicitDefEqProofs only[AA,↓reduceIte,jA,f4],by simp -implicitDefEqProofs only[AA,↓reduceIte,jA,f9],by simp -implicitDefEqProofs only[AA,↓reduceIte,jA],by simp -implicitDefEqProofs only[AA,↓reduceIte,jA],by simp -implicitDefEqProofs only[AA,↓reduceIte]<;>rfl,PS⟩ ?_
   clear PS f1 f4 f9;rintro n F H ⟨i,hi,f1,f4,f9,f113,f114,f115,PS⟩;simp -implicitDefEqProofs only[C9,jJ,BC,BA,BI,A8,AY,BB,AL,BD,AX,AC,AA,AZ,BR,AB,DC,↓reduceIte,jB,jC,enP,DZ,f114,f115];refine CU (fun hc=>?_) (fun hc=>?_)
   .have hi':i<m.crs.length:=by simpa using hc
    have hiC:i<C.length:=by omega
    have hicb:i<cbs.length:=by omega
    have hcg:=hg.crs _ (jS hi');have hfs:=hg.full.szs hcg.here;have hzl:=LJ m m.crs[i].pts;have htwo:=hcg.two;have hfour:=hcg.four;have hmx:=mix_len (ys:=NW m (rs.map PtR.hit) C) (xs:=C) (i:=i) hscl (by omega);have hmi:=V4 (ys:=NW m (rs.map PtR.hit) C) (xs:=C) (i:=i) (j:=i) hscl (jM _) hiC (by omega);have hsg:=Y3 m (rs.map PtR.hit) C i hi' hiC (by omega);have hms:=mix_set (ys:=NW m (rs.map PtR.hit) C) (xs:=C) (i:=i) hscl hiC (by omega);have hce:=hS.ce i hiC hi';have hpr:=hcg.prod;have hwi:Wn C[i]:=hS.wc _ (jS hiC);have PSa:=PS.app [ABlk.live 3 [GG m.crs[i]]];have gx:=CY H (ABlk.live 3 [GG m.crs[i]]);have hxl:=PS.fr.le;simp -implicitDefEqProofs only[C9,jJ,BC,BP,BA,BO,A8,AY,BB,AL,BD,AX,AC,EM,AA,AZ,BG,A7,FD,BQ,D5,CE,BZ,AB,CX,↓reduceIte,jA,jB,jC,enP,V7,DZ,jP,f113,f115,DU hi',FM ZV XH J7 hi',AR3,AQA _ _ [.str ⟨#[]⟩,.sl .nil 0 [],.sl .nil 0 []] rfl]
    generalize H++[ABlk.live 3 [GG m.crs[i]]]=Ha at PSa gx|-
    generalize H.length=xb at gx hxl|-
    obtain⟨M,hmm,hmx,hmi,hms⟩:∃M,mix (NW m (rs.map PtR.hit) C) C i=M∧M.length=C.length∧(∀h:i<M.length,M[i]=C[i])∧M.set i (NW m (rs.map PtR.hit) C)[i]=mix (NW m (rs.map PtR.hit) C) C (i+1):=⟨_,rfl,hmx,fun _=>hmi,hms⟩;rw[hmm] at PSa;have hxpb:xb ∉ pb:=fun q=>by have:=hwp _ q; omega
    have hxcb:∀(k:Nat) (hk:k<cbs.length),cbs[k]≠xb:=fun k hk q=>by have:=hwc _ (jS hk); omega
    simp -implicitDefEqProofs only[C9,jJ,AY,AL,BD,AX,AC,AA,AZ,BX,BQ,CB,BU,AB,jD,jE,jF,↓reduceIte,jA,jB,jC,enP,DZ,f4,ldM PSa.gm,ldC gx];refine(RG G m m.crs[i] Ha hcg.here (by omega)).use ?_;have N:=PSa.cs.nc;have q2:=N.ix (show i<M.length by omega);have q3:=N.ld (show i<M.length by omega);rw[hmi] at q3;simp -implicitDefEqProofs only[C9,jJ,BC,BP,BA,A8,AY,BB,AL,BD,AX,AC,AA,AZ,AU,BH,BG,A7,BQ,BJ,CE,D7,AB,↓reduceIte,jA,jG,jB,jC,enP,N7,KX,JA,DZ,H8,JE,f1,PSa.cs.l1,q2,q3];refine GN 8 (fun F H=>F 1=.ptr cb 0 0∧F 4=.ptr h.length 0 0∧F 9=.own (h.length+1) 0 m.pts.length∧F 113=.sl m.cm 3 (m.crs.map GG)∧F 114=.int .i64 (m.crs.length:Nat)∧F 115=.int .i64 (i:Nat)∧Ph n0 h H cb tb po co pb cbs m h.length (h.length+1) (h.length+2) (MC rs P) (M.set i (rowC m m.crs[i] (rs.map PtR.hit) C[i])) (rz sam) ill' (rs.map PtR.hit) (rs.map PtR.next)) (fun _ _=>False) ?_ ?_ (fun _ _ hh=>hh.elim)
    .have e0:M.set i (mix (rowC m m.crs[i] (rs.map PtR.hit) C[i]) C[i] 0)=M:=by
      show M.set i C[i]=M;rw[<-hmi (by omega),List.set_getElem_self]
     refine DK (fun n F H=>∃k,n+k=C[i].length∧F 1=.ptr cb 0 0∧F 4=.ptr h.length 0 0∧F 9=.own (h.length+1) 0 m.pts.length∧F 113=.sl m.cm 3 (m.crs.map GG)∧F 114=.int .i64 (m.crs.length:Nat)∧F 115=.int .i64 (i:Nat)∧F 22=.int .i64 (i:Nat)∧F 23=.ptr xb 0 0∧F 24=.sl (nm (szs m m.crs[i].pts)) 1 ((szs m m.crs[i].pts).map IG)∧F 130=.int .i64 (C[i].length:Nat)∧F 131=.int .i64 (k:Nat)∧H[xb]?=some (.live 3 [GG m.crs[i]]) ∧
      Ph n0 h H cb tb po co pb cbs m h.length (h.length+1) (h.length+2) (MC rs P) (M.set i (mix (rowC m m.crs[i] (rs.map PtR.hit) C[i]) C[i] k)) (rz sam) ill' (rs.map PtR.hit) (rs.map PtR.next)) C[i].length
      ⟨0,by simp,by simp -implicitDefEqProofs only[AA,↓reduceIte,jA,f1],by simp -implicitDefEqProofs only[AA,↓reduceIte,jA,f4],by simp -implicitDefEqProofs only[AA,↓reduceIte,jA,f9],by simp -implicitDefEqProofs only[AA,↓reduceIte,jA,f113],by simp -implicitDefEqProofs only[AA,↓reduceIte,jA,f114],by simp -implicitDefEqProofs only[AA,↓reduceIte,jA,f115],by simp -implicitDefEqProofs only[AA,↓reduceIte,jA]<;>rfl,by simp -implicitDefEqProofs only[AA,↓reduceIte,jA],by simp -implicitDefEqProofs only[AA,↓reduceIte,jA]<;>rfl,by simp -implicitDefEqProofs only[AA,↓reduceIte,jA]<;>rfl,by simp -implicitDefEqProofs only[AA,↓reduceIte]<;>rfl,gx,by rw[e0]; exact PSa⟩ ?_
     clear PS PSa gx q2 q3 N;rintro n' F H ⟨k,hk,f1,f4,f9,f113,f114,f115,f22,f23,f24,f130,f131,gx,PS⟩;simp -implicitDefEqProofs only[C9,jJ,BC,BA,BI,A8,AY,BB,AL,BD,AX,AC,AA,AZ,BR,AB,DC,↓reduceIte,jB,jC,enP,DZ,f130,f131];refine CU (fun hc=>?_) (fun hc=>?_)
     .have hk':k<C[i].length:=by simpa using hc
      have hrcl:=RI m m.crs[i] (rs.map PtR.hit) C[i];have hrcg:=AJU m m.crs[i] (rs.map PtR.hit) C[i] k hk' (by omega);have hkl:=mix_len (ys:=rowC m m.crs[i] (rs.map PtR.hit) C[i]) (xs:=C[i]) (i:=k) hrcl (by omega);have hkg:=V4 (ys:=rowC m m.crs[i] (rs.map PtR.hit) C[i]) (xs:=C[i]) (i:=k) (j:=k) hrcl (jM _) hk' (by omega);have hks:=mix_set (ys:=rowC m m.crs[i] (rs.map PtR.hit) C[i]) (xs:=C[i]) (i:=k) hrcl hk' (by omega);have hins:=UA (szs m m.crs[i].pts) k (fun n hn=>(hfs n hn).1);have htl:=P9 hins;have hck:crK m m.crs[i] (rs.map PtR.hit) k=(QT m m.crs[i] (NF (szs m m.crs[i].pts) k)&&allB m.crs[i].pts (NF (szs m m.crs[i].pts) k) (rs.map PtR.hit)):=rfl
      have skip:crK m m.crs[i] (rs.map PtR.hit) k=false->mix (rowC m m.crs[i] (rs.map PtR.hit) C[i]) C[i] (k+1)=mix (rowC m m.crs[i] (rs.map PtR.hit) C[i]) C[i] k:=fun hq=>by
       rw[<-hks,hrcg,if_neg (by rw[hq]; decide),<-hkg,List.set_getElem_self]
      simp -implicitDefEqProofs only[C9,jJ,BC,BP,BA,BO,A8,AY,BB,AL,BD,AX,AC,AA,AZ,BX,BG,A7,CB,BU,jD,jE,jF,↓reduceIte,jA,jB,jC,DZ,f24,f131];refine(hT (szs m m.crs[i].pts) _ k H (by omega) (by omega) hfs (by omega)).use ?_;simp -implicitDefEqProofs only[C9,jJ,BC,BA,A8,AY,BB,AL,BD,AX,AC,AA,AZ,BX,BG,A7,BQ,CB,BU,AB,jD,jE,jF,↓reduceIte,jA,jB,jC,enP,DZ,f4,f23,ldM PS.gm,ldC gx];refine(XQ G m m.crs[i] (NF (szs m m.crs[i].pts) k) .any H hcg.here hins (by omega) (by have:=hcg.num; omega)).use ?_;simp -implicitDefEqProofs only[C9,jJ,AY,BL,BV,CO,AL,BD,AX,AC,AA,AZ,BG,↓reduceIte,jB,jC,DZ];cases h1:QT m m.crs[i] (NF (szs m m.crs[i].pts) k)
      .rw[h1,Bool.false_and] at hck
       rw[<-skip hck] at PS;simp -implicitDefEqProofs only[C9,jJ,BA,BO,BI,A8,EJ,EQ,DT,AY,BB,BL,BV,CO,IX,AL,BD,AX,AC,AA,EX,AZ,AU,BH,BM,BG,CQ,DX,BR,AB,CZ,↓reduceIte,jA,jB,jC,enP,DZ,f131,wrap_succ (show k<9223372036854775807 by omega)];exact⟨n'-1,by omega,k+1,by omega,by trivial,by trivial,by trivial,by trivial,by trivial,by trivial,by trivial,by trivial,by trivial,by trivial,by trivial,gx,PS⟩
      rw[h1,wC] at hck;simp -implicitDefEqProofs only[C9,jJ,BL,BV,CO,F9,AL,BD,AX,AC,AA,AZ,BX,BG,BQ,CB,BU,AB,jD,jE,jF,↓reduceIte,jA,jB,jC,enP,DZ,f9,f23,ldC gx];have hall:=AVZ G m.crs[i] (NF (szs m m.crs[i].pts) k) .any (rs.map PtR.hit) (h.length+1) H PS.gh (fun p hp=>by have:=hcg.here p hp; rw[hhl]; exact this) (by omega) h64 (by omega);rw[hhl] at hall;refine hall.use ?_;simp -implicitDefEqProofs only[C9,jJ,BI,A8,AY,BB,AL,BD,AX,AC,AA,AZ,AU,BM,CQ,DY,↓reduceIte,jA,jB,jC,DZ];cases h2:allB m.crs[i].pts (NF (szs m m.crs[i].pts) k) (rs.map PtR.hit)
      .rw[h2] at hck
       rw[<-skip hck] at PS;simp -implicitDefEqProofs only[C9,jJ,BA,BO,A8,EJ,EQ,DT,AY,BB,AL,BD,AX,AC,AA,AZ,AU,BH,BG,BR,AB,CZ,↓reduceIte,jA,jB,jC,enP,DZ,f131,wrap_succ (show k<9223372036854775807 by omega)];exact⟨n'-1,by omega,k+1,by omega,by trivial,by trivial,by trivial,by trivial,by trivial,by trivial,by trivial,by trivial,by trivial,by trivial,by trivial,gx,PS⟩
      rw[h2] at hck;have hiM:i<(M.set i (mix (rowC m m.crs[i] (rs.map PtR.hit) C[i]) C[i] k)).length:=by rw[qI]; omega
      have hcur:(M.set i (mix (rowC m m.crs[i] (rs.map PtR.hit) C[i]) C[i] k))[i]=mix (rowC m m.crs[i] (rs.map PtR.hit) C[i]) C[i] k:=List.getElem_set_self _
      have hwm:Wn (mix (rowC m m.crs[i] (rs.map PtR.hit) C[i]) C[i] k):=by
       intro x hx;unfold mix at hx;rcases qE.1 hx with hx|hx
       .exact Wn.rowC hwi x (List.mem_of_mem_take hx)
       .exact hwi x (List.mem_of_mem_drop hx)
      have hR:=PS.raiseC G hiM hicb k (by rw[hcur,hkl]; exact hk') (by rw[hcur]; exact hwm);rw[hcur] at hR;obtain⟨r1,r2,r3,r4,r5⟩:=hR
      have hra:raiseAt (mix (rowC m m.crs[i] (rs.map PtR.hit) C[i]) C[i] k) k=mix (rowC m m.crs[i] (rs.map PtR.hit) C[i]) C[i] (k+1):=by
       rw[<-hks,hrcg,if_pos hck];unfold raiseAt;congr 2;rw[zQ,jU (by omega)];exact hkg
      have PS2:=PS.setC hicb (raiseAt (mix (rowC m m.crs[i] (rs.map PtR.hit) C[i]) C[i] k) k) (fun _=>by rw[hcur,TB]);rw[List.set_set,hra] at PS2;rw[hra] at r5;have gx2:=CW (y:=.live 1 ((mix (rowC m m.crs[i] (rs.map PtR.hit) C[i]) C[i] (k+1)).map encI)) gx (hxcb i hicb).symm;simp -implicitDefEqProofs only[C9,jJ,BA,DI,AY,AL,BD,AX,AC,AA,AZ,BX,BG,BQ,BJ,CE,CB,BU,AB,jD,jE,jF,↓reduceIte,jA,jG,jB,jC,enP,N7,KX,JF,DZ,H8,JE,f1,f22,f131,r1,r2,r3,r4];refine r5.mono ?_;rintro _ H' rfl;simp -implicitDefEqProofs only[C9,jJ,BA,A8,EJ,EQ,AY,BB,AL,BD,AX,AC,AA,AZ,AU,BH,BG,BR,AB,CZ,↓reduceIte,jA,jB,jC,enP,DZ,f131,wrap_succ (show k<9223372036854775807 by omega)];exact⟨n'-1,by omega,k+1,by omega,by trivial,by trivial,by trivial,by trivial,by trivial,by trivial,by trivial,by trivial,by trivial,by trivial,by trivial,gx2,PS2⟩
     .have hk':k=C[i].length:=by
       have:¬k<C[i].length:=by simpa using hc
       omega
      rw[hk',QR (RI m m.crs[i] (rs.map PtR.hit) C[i])] at PS;simp -implicitDefEqProofs only[DJ,EI,J3,ET,AA,↓reduceIte,jA];exact⟨f1,f4,f9,f113,f114,f115,PS⟩
    .rintro F H ⟨f1,f4,f9,f113,f114,f115,PS⟩
     have e1:M.set i (rowC m m.crs[i] (rs.map PtR.hit) C[i])=mix (NW m (rs.map PtR.hit) C) C (i+1):=by rw[<-hms,hsg]
     rw[e1] at PS;simp -implicitDefEqProofs only[C9,jJ,BA,A8,EJ,EW,EQ,AY,BB,AL,BD,AX,AC,AA,AZ,AU,BH,BG,BR,AB,CZ,↓reduceIte,jA,jB,jC,enP,DZ,f115,wrap_succ (show i<9223372036854775807 by omega)];exact⟨n-1,by omega,i+1,by omega,by trivial,by trivial,by trivial,by trivial,by trivial,by trivial,PS⟩
   .have hi':i=C.length:=by
     have:¬i<m.crs.length:=by simpa using hc
     omega
    subst hi';rw[QR hscl] at PS;simp -implicitDefEqProofs only[DJ,EI,J3,ET,↓reduceIte];exact PS
  .rintro F H PS
   simp -implicitDefEqProofs only[C9,jJ,BC,BA,BK,A8,EW,CG,AY,BB,AL,BD,AX,AC,AA,AU,BH,A7,↓reduceIte,jB,jC,DZ];exact .inr ⟨hfst,by trivial,h.length+2,by omega,PS.gl,PS.cs,PS.fr⟩
 .rintro F H ⟨e,f8,hne,hfst,hxH⟩
  simp -implicitDefEqProofs only[CP,EG,CG,f8];exact .inl ⟨e,hne,hfst,by trivial,hxH⟩
end Go.Proofs.YtocilianjfhifaaGreatDoor.Xe
