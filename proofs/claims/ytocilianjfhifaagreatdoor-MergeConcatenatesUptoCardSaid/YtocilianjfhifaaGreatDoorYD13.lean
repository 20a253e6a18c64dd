/- Part 13 of the proof (X7, X8, X9, X10, X11); no condition. -/
import Derived.Test.YtocilianjfhifaaGreatDoorYD12
set_option linter.unusedVariables false
set_option linter.unusedSimpArgs false
set_option maxRecDepth 8000
namespace Go.Proofs.YtocilianjfhifaaGreatDoor.Xe
open Sm Bins Cov Wd Go.RowKit
open Bool renaming not_false→jC,false_or→qG,true_or→wC,eq_iff_iff→qN,false_eq_true→jY,true_and→wB,not_true→jR
open List renaming length_map→jI,map_cons→jD,map_nil→jE,append_nil→jF,findIdx?_eq_some_iff_getElem→qV,all_eq_true→zI,take_succ_eq_append_getElem→zL,take_of_length_le→jX,findIdx?_eq_none_iff→qW,drop_eq_nil_of_le→jW,getElem?_eq_getElem→jS,length_append→zW,mem_append→qC,getElem_mem→jQ,mem_map→zM,drop_zero→qE,getElem?_cons_zero→zB,getElem?_cons_succ→zG,getElem_of_mem→qK,length_set→qI,getElem?_set_ne→zX,getElem?_map→zH,getElem?_set→zJ,drop_eq_getElem_cons→zK,getD_eq_getElem?_getD→zN,replicate→jZ,getElem?_drop→qQ,getElem?_append_left→qB,contains_nil→jJ
open Nat renaming le_of_ble_eq_true→jH,reduceEqDiff→jA,lt_or_ge→zO,le_refl→jL,add_zero→jK,zero_add→jG,reduceAdd→jM,le_trans→zY
open Option renaming getD_some→jB,getD_none→jP
def outW (v:Int):Bool:=decide (v<0)||decide (v>65535)
def lastB (xs:List Int):Bool:=decide (xs.length<=7) && !xs.any outW
theorem WP (n:Int):(encI n)[0]?=some (.int .i64 n):=rfl
section
variable (G:Nat->AV)
theorem AX0 (v:Int)(h:Hp):PCall (En G) 156 [.int .i64 v] h (.bool (outW v)):=by
 refine acN Tryz.func156 rfl ?_;show awp _ _ _ _ _ (EN _ [.tmp 2] _);simp -implicitDefEqProofs only[BC,BA,A8,AY,BB,BL,BV,CO,AO,AQ,AL,BD,AX,AC,AA,AZ,AU,BH,BM,BG,A7,BR,AB,CZ,BF,↓reduceIte,jA,jB,jC,enP];cases h1:decide (v<0)
 .simp -implicitDefEqProofs only[BK,A8,CG,AY,BB,BL,BV,CO,ES,AO,AQ,AL,BD,AX,AC,AA,AZ,AU,BH,BM,BG,A7,CQ,DW,BR,AB,FV,BF,↓reduceIte,jA,jB,jC,enP,h1]
  exact⟨by unfold outW; rw[h1]; rfl,trivial⟩
 .simp -implicitDefEqProofs only[BK,A8,CG,AY,BB,BL,BV,CO,F7,AO,AQ,AL,BD,AX,AC,AA,EW,AZ,AU,BM,A7,CQ,DY,↓reduceIte,jA,jB,jC,h1]
  exact⟨by unfold outW; rw[h1]; rfl,trivial⟩
theorem A1V (xs:List Int)(m:SM)(fid:FuncId)(p:Int->Bool)(h:Hp)(hl:xs.length<=1099511627776)(hf:∀r,PCall (En G) fid [.int .i64 r] h (.bool (p r))) :
  PCall (En G) 204 [.sl m 1 (xs.map encI),.fn (.func fid) [] []] h (.int .i64 (match xs.findIdx? p with|some i=>(i:Int)|none => -1)):=by
 refine acN Tryz.func204 rfl ?_;show awp _ _ _ _ _ (EN _ [.tmp 4] _);simp -implicitDefEqProofs only[BC,BP,BA,A8,AY,BB,AO,AQ,AL,BD,AX,AC,AA,AZ,AU,BH,BG,A7,DZ,AB,BF,↓reduceIte,jA,jB,jC,enP,JD,jI];refine DK (fun n F H=>∃k,n+k=xs.length∧F 0=.sl m 1 (xs.map encI)∧F 1=.fn (.func fid) [] []∧F 7=.int .i64 xs.length∧F 8=.int .i64 (k:Nat)∧H=h∧(xs.take k).all (fun r => !p r)=true) xs.length ⟨0,by simp,rfl,rfl,rfl,rfl,rfl,rfl⟩ ?_;rintro n F H ⟨k,hk,f0,f1,f7,f8,rfl,hin⟩;simp -implicitDefEqProofs only[BC,BA,BI,A8,AY,BB,AO,AQ,AL,BD,AX,AC,AA,AZ,BR,AB,CZ,↓reduceIte,jB,jC,enP,f0,f1,f7,f8,jI];refine CV (fun hc=>?_) (fun hc=>?_)
 .have hc':k<xs.length:=by simpa using hc
  simp -implicitDefEqProofs only[BC,BP,BA,BO,A8,AY,BB,AO,AQ,AL,BD,AX,AC,AA,AZ,BG,A7,BQ,CE,CB,BU,AB,jD,jE,jF,↓reduceIte,jA,jB,jC,enP,JF,f0,f1,f7,f8,DU hc',DF ag3 hc',WP];refine(hf _).use ?_;simp -implicitDefEqProofs only[BI,A8,BB,AC,AA,AZ,↓reduceIte];refine CV (fun hb=>?_) (fun hb=>?_)
  .simp -implicitDefEqProofs only[BC,BA,BK,A8,CP,EE,FQ,CG,AY,BB,AO,AQ,AL,BD,AX,AC,AA,AZ,BG,A7,↓reduceIte,jA,jB,jC]
   refine⟨?_,trivial⟩
   rw[qV.2 ⟨hc',hb,fun j hj=>by
    rw[zI] at hin;have:=hin xs[j] (by rw[List.mem_take_iff_getElem]; exact⟨j,by omega,rfl⟩)
    simpa using this⟩]
  .simp -implicitDefEqProofs only[BA,BO,A8,EJ,EQ,AY,BB,AO,AQ,AL,BD,AX,AC,AA,AZ,AU,BH,BG,BR,AB,C9,↓reduceIte,jA,jB,jC,enP,f8,wrap_succ (show k<9223372036854775807 by omega)]
   refine⟨n-1,by omega,k+1,by omega,f0,f1,f7,rfl,trivial,?_⟩;rw[zL hc',List.all_append,hin];simp only[List.all_cons,List.all_nil,hb]; rfl
 .have hc':¬k<xs.length:=by simpa using hc
  simp -implicitDefEqProofs only[BC,BA,BK,DJ,A8,EG,EU,ET,CG,AY,BB,AO,AQ,AL,BD,AX,AC,AA,AU,BH,A7,↓reduceIte,jB,jC];refine⟨?_,trivial⟩;rw[jX (by omega)] at hin;rw[qW.2 (by simpa using hin)]
theorem AR3 (xs:List Int)(m:SM)(fid:FuncId)(p:Int->Bool)(h:Hp)(hl:xs.length<=1099511627776)(hf:∀r,PCall (En G) fid [.int .i64 r] h (.bool (p r))) :
  PCall (En G) 155 [.sl m 1 (xs.map encI),.fn (.func fid) [] []] h (.bool (xs.any p)):=by
 refine acN Tryz.func155 rfl ?_;show awp _ _ _ _ _ (EN _ [.tmp 4] _);simp -implicitDefEqProofs only[BC,BA,A8,AY,BB,AO,AQ,AL,BD,AX,AC,AA,AZ,AU,BZ,BM,BG,A7,CB,BU,BF,BN,jD,jE,jF,↓reduceIte,jA,jB,jC,enP];refine(A1V G xs m fid p h hl hf).use ?_;simp -implicitDefEqProofs only[BK,A8,CG,AY,BB,AO,AQ,AL,BD,AX,AC,AA,AZ,AU,BH,A7,BR,AB,G6,↓reduceIte,jB,jC,enP];refine⟨?_,trivial⟩
 cases hx:xs.findIdx? p with
 | some i =>
   obtain⟨h1,h2,_⟩:=qV.1 hx;have:xs.any p=true:=List.any_eq_true.2 ⟨xs[i],by simp,h2⟩;simp [this]
 | none =>
   have:xs.any p=false:=by
    rw[qW] at hx;rw[List.any_eq_false]; intro x hx2; simp [hx x hx2]
   simp [this]
theorem AIA (xs:List Int)(m:SM)(h:Hp)(hl:xs.length<=1099511627776):PCall (En G) 98 [.sl m 1 (xs.map encI)] h (.bool (lastB xs)):=by
 refine acN Tryz.func98 rfl ?_;show awp _ _ _ _ _ (EN _ [.tmp 2] _);simp -implicitDefEqProofs only[BC,BA,A8,AY,BB,BL,BV,CO,AO,AQ,AL,BD,AX,AC,AA,AZ,AU,BH,BM,BG,A7,BR,DZ,AB,JA,BF,↓reduceIte,jA,jB,jC,enP,JD,jI];have e7:decide (((xs.length:Nat):Int)<=7)=decide (xs.length<=7):=lec xs.length 7;rw[e7];cases h7:decide (xs.length<=7)
 .simp -implicitDefEqProofs only[BK,A8,CG,AY,BB,BL,BV,CO,IU,AO,AQ,AL,BD,AX,AC,AA,EW,AZ,AU,BM,A7,CQ,DW,↓reduceIte,jA,jB,jC]
  exact⟨by unfold lastB; rw[h7]; rfl,trivial⟩
 .simp -implicitDefEqProofs only[BL,BV,CO,GH,AO,AQ,AL,BD,AX,AC,AA,AZ,BZ,BG,CB,BU,BF,jD,jE,jF,↓reduceIte,jA,jB,jC]
  refine(AR3 G xs m 156 outW h hl (fun r=>AX0 G r h)).use ?_;simp -implicitDefEqProofs only[BK,A8,CG,AY,BB,BL,BV,CO,GH,AO,AQ,AL,BD,AX,AC,AA,AZ,AU,BM,A7,CQ,DY,IG,AB,FI,↓reduceIte,jA,jB,jC];exact⟨by unfold lastB; rw[h7]; rfl,trivial⟩
theorem AFE {α:Type}(p:α->Bool)(xs:List α)(k:Nat)(hk:k<xs.length):(xs.drop k).any p=(p xs[k]||(xs.drop (k+1)).any p):=LG p xs k hk
theorem AGQ (xs:List Int)(m:SM)(h:Hp)(hl:xs.length<=1099511627776):PCall (En G) 103 [.sl m 1 (xs.map encI)] h (.bool (lastB xs)):=by
 refine acN Tryz.func103 rfl ?_;show awp _ _ _ _ _ (EN _ [.tmp 2] _);simp -implicitDefEqProofs only[BC,BP,BA,A8,AY,BB,AO,AQ,AL,BD,AX,AC,AU,BH,BM,A7,jB,jC,enP];refine DK (fun n F H=>∃k,n+k=xs.length∧F 0=.sl m 1 (xs.map encI)∧F 3=.int .i64 (k:Nat)∧H=h∧xs.any outW=(xs.drop k).any outW) xs.length ⟨0,by simp,rfl,by simp -implicitDefEqProofs only[AA,↓reduceIte]<;>rfl,rfl,rfl⟩ ?_;rintro n F H ⟨k,hk,f0,f3,rfl,hin⟩;simp -implicitDefEqProofs only[BC,BA,BI,A8,AY,BB,AO,AQ,AL,BD,AX,AC,AA,AZ,BG,BR,DZ,AB,CZ,↓reduceIte,jA,jB,jC,enP,JD,f0,f3,jI];refine CV (fun hc=>?_) (fun hc=>?_)
 .have hk':k<xs.length:=by simpa using hc
  rw[AFE _ _ _ hk'] at hin;have ho:outW xs[k]=(decide (xs[k]<0)||decide (xs[k]>65535)):=rfl;simp -implicitDefEqProofs only[BC,BP,BA,BO,A8,AY,BL,BV,CO,AO,AQ,AL,BD,AX,AC,AA,AZ,AU,BH,BG,BQ,BR,CE,AB,CZ,↓reduceIte,jA,jB,jC,enP,JF,f0,f3,DU hk',DF ag3 hk',WP];cases h1:decide (xs[k]<0)
  .rw[h1,qG] at ho
   simp -implicitDefEqProofs only[BI,A8,AY,BB,BL,BV,CO,ES,AO,AQ,AL,BD,AX,AC,AA,AZ,AU,BH,BM,BG,CQ,DW,BQ,BR,CE,AB,FV,↓reduceIte,jA,jB,jC,enP,JF,h1,f0,f3,DU hk',DF ag3 hk',WP];cases h2:decide (xs[k]>65535)
   .simp -implicitDefEqProofs only[BA,BO,A8,EJ,EQ,DR,AY,BB,AO,AQ,AL,BD,AX,AC,AA,AZ,AU,BH,BG,A7,BR,AB,C9,↓reduceIte,jA,jB,jC,enP,f3,wrap_succ (show k<9223372036854775807 by omega)]
    exact⟨n-1,by omega,k+1,by omega,by trivial,by trivial,trivial,by rw[hin,ho,h2]; rfl⟩
   .simp -implicitDefEqProofs only[BC,BA,BK,A8,CP,EE,FQ,CG,DI,AY,BB,AO,AQ,AL,BD,AX,AC,AA,AU,BM,A7,↓reduceIte,jB,jC]
    exact⟨by unfold lastB; rw[hin,ho,h2]; simp,trivial⟩
  .rw[h1,wC] at ho
   simp -implicitDefEqProofs only[BC,BA,BK,BI,A8,CP,EE,FQ,CG,DI,AY,BB,BL,BV,CO,F7,AO,AQ,AL,BD,AX,AC,AA,EW,AZ,AU,BM,A7,CQ,DY,↓reduceIte,jA,jB,jC];exact⟨by unfold lastB; rw[hin,ho]; simp,trivial⟩
 .have hk':¬k<xs.length:=by simpa using hc
  have e7:decide (((xs.length:Nat):Int)<=7)=decide (xs.length<=7):=lec xs.length 7;simp -implicitDefEqProofs only[BC,BA,BK,DJ,A8,EG,EU,ET,CG,AY,BB,AO,AQ,AL,BD,AX,AC,AA,AZ,AU,BH,BG,A7,BR,DZ,AB,JA,↓reduceIte,jA,jB,jC,enP,JD,f0,jI,e7];rw[jW (by omega)] at hin;exact⟨by unfold lastB; rw[hin]; simp,trivial⟩
end
def hK (last:List Int)(v kind:Int)(b:Bin):Bool:=(b.kind==kind)&&(if(kind==0)=true then hit b last v else inside b.ranges.l v)
def NR (bins:List Bin)(last:List Int)(v kind:Int):Nat->List Nat
 | 0=>[]
 | k+1=>NR bins last v kind k++(if((bins[k]?.map (hK last v kind)).getD false)=true then [k] else [])
def ZT (p:Pt)(last:List Int)(v kind:Int):List Nat:=NR p.bins last v kind p.bins.length
theorem YZ (bins:List Bin)(last:List Int)(v kind:Int)(k:Nat)(hk:k<bins.length):NR bins last v kind (k+1)=NR bins last v kind k++(if hK last v kind bins[k]=true then [k] else []):=by
 simp only[NR,jS hk,Option.map_some,jB]
theorem XM (bins:List Bin)(last:List Int)(v kind:Int):∀k,(NR bins last v kind k).length<=k
 | 0=>by simp [NR]
 | k+1=>by
   have:=XM bins last v kind k;simp only[NR,zW];split<;>simp<;>omega
theorem AEH (bins:List Bin)(last:List Int)(v kind:Int):∀k,∀x∈NR bins last v kind k,x<k
 | 0,x,hx=>by simp [NR] at hx
 | k+1,x,hx=>by
   simp only[NR] at hx;rcases qC.1 hx with h|h
   .have:=AEH bins last v kind k x h; omega
   .split at h
    .simp at h; omega
    .cases h
theorem AGV (bins:List Bin)(last:List Int)(v kind:Int):∀k,decide (0<(NR bins last v kind k).length)=(bins.take k).any (hK last v kind)
 | 0=>by simp [NR]
 | k+1=>by
   have ih:=AGV bins last v kind k;rcases zO k bins.length with hk|hk
   .rw[YZ _ _ _ _ _ hk,zL hk,List.any_append,<-ih,zW,qN]
    simp only[List.any_cons,List.any_nil,Bool.or_false,Bool.or_eq_true,decide_eq_true_eq];split
    .rename_i h; simp [h]
    .rename_i h; simp [h]
   .rw[jX (by omega)]
    rw[jX hk] at ih;rw[<-ih];simp only[NR,List.getElem?_eq_none hk,Option.map_none,jP,jY,if_false,jF]
def O3 (m:SM)(last:List Int)(v:Int):List AV:=[.sl m 1 (last.map encI),.int .i64 v]
theorem AV2 (h:Hp)(m:SM)(last:List Int)(v:Int):P7 h (.agg (O3 m last v))=some (.ptr h.length 0 0,h++[ABlk.live 2 [O3 m last v]]):=AAB rfl
theorem APQ {h:Hp}{b:Nat}{m:SM}{last:List Int}{v:Int}(hb:h[b]?=some (.live 2 [O3 m last v])):ED Tryz.prog h 133 (.ptr b 0 0)=some (.agg (O3 m last v)):=by
 rw[J4 A47 A0F hb rfl (by exact jL 2)]; rfl
theorem AUF {h:Hp}{b:Nat}{x:Bin}(hb:h[b]?=some (.live 4 [GV x])):ED Tryz.prog h 121 (.ptr b 0 0)=some (.agg (GV x)):=by
 rw[J4 VK QR hb rfl (by exact jL 4)]; rfl
theorem AGK {b:Bin}(hb:BinOk b):b.ranges.l.length<=1099511627776:=by
 rcases Nat.eq_zero_or_pos b.ranges.l.length with h|h
 .omega
 .exact hb.sets b.ranges (by unfold sets; rw[if_pos h]; simp)
section
variable (G:Nat->AV)
theorem AI6 (hG:GOk G)(b:Bin)(hb:BinOk b)(last:List Int)(m:SM)(v:Int)(h:Hp)(hl:last.length<=8388608):PCall (En G) 211 [.agg (O3 m last v),.agg (GV b)] h (.bool (hit b last v)):=by
 refine ACalls.pure0 rfl ?_;refine acN Tryz.func211 rfl ?_;show awp _ _ _ _ _ (EN _ [.tmp 4] _);have g1:=CU (x:=ABlk.live 4 [GV b]) (CX h (ABlk.live 2 [O3 m last v]));have g2:=CX (h++[ABlk.live 2 [O3 m last v]]) (ABlk.live 4 [GV b]);have hx:ext h (h++[ABlk.live 2 [O3 m last v]]++[ABlk.live 4 [GV b]]):=((ext.rfl' h).app _).app _;simp -implicitDefEqProofs only[BC,BA,A8,AY,BB,AO,AQ,AL,BD,AX,AC,AA,AZ,AU,BM,A7,FU,BQ,BX,BF,BN,↓reduceIte,jA,jB,jC,enP,AV2,bxB]
 generalize h++[ABlk.live 2 [O3 m last v]]++[ABlk.live 4 [GV b]]=H at g1 g2 hx|-
 generalize (h++[ABlk.live 2 [O3 m last v]]).length=bb at g2|-
 have l0:ED Tryz.prog H 57 (.ptr h.length 0 0)=some (.sl m 1 (last.map encI)):=by rw[DX KP g1 (row:=O3 m last v) rfl]; rfl
 have l1:ED Tryz.prog H 3 (.ptr h.length 0 1)=some (.int .i64 v):=by rw[DX ag3 g1 (row:=O3 m last v) rfl]; rfl
 simp -implicitDefEqProofs only[AY,AO,AQ,AL,BD,AX,AC,AA,AZ,BZ,BQ,BJ,CB,BU,AB,jD,jE,jF,↓reduceIte,jA,jK,jG,jB,jC,enP,AY2,APX,AUF g2,l0,l1];refine(AUT G hG.kw b hb last m v H hl).use ?_;simp -implicitDefEqProofs only[BK,A8,CG,AY,BB,AO,AQ,AL,BD,AX,AC,AA,AZ,A7,↓reduceIte,jB,jC];exact⟨trivial,hx⟩
theorem AE5 (b:Bin)(hb:BinOk b)(last:List Int)(m:SM)(v:Int)(h:Hp):PCall (En G) 212 [.agg (O3 m last v),.agg (GV b)] h (.bool (inside b.ranges.l v)):=by
 refine ACalls.pure0 rfl ?_;refine acN Tryz.func212 rfl ?_;show awp _ _ _ _ _ (EN _ [.tmp 4] _);have g1:=CU (x:=ABlk.live 4 [GV b]) (CX h (ABlk.live 2 [O3 m last v]));have g2:=CX (h++[ABlk.live 2 [O3 m last v]]) (ABlk.live 4 [GV b]);have hx:ext h (h++[ABlk.live 2 [O3 m last v]]++[ABlk.live 4 [GV b]]):=((ext.rfl' h).app _).app _;simp -implicitDefEqProofs only[BC,BA,A8,AY,BB,AO,AQ,AL,BD,AX,AC,AA,AZ,AU,BM,A7,FU,BQ,BJ,BX,AB,BF,BN,↓reduceIte,jA,jG,jB,jC,enP,Q4,AV2,bxB]
 generalize h++[ABlk.live 2 [O3 m last v]]++[ABlk.live 4 [GV b]]=H at g1 g2 hx|-
 generalize (h++[ABlk.live 2 [O3 m last v]]).length=bb at g2|-
 have l2:ED Tryz.prog H 118 (.ptr bb 0 2)=some (.sl b.ranges.m 2 (b.ranges.l.map encR)):=by rw[DX PN g2 (row:=GV b) rfl]; rfl
 have l1:ED Tryz.prog H 3 (.ptr h.length 0 1)=some (.int .i64 v):=by rw[DX ag3 g1 (row:=O3 m last v) rfl]; rfl
 simp -implicitDefEqProofs only[AY,AO,AQ,AL,BD,AX,AC,AA,AZ,BZ,BQ,BJ,CB,BU,AB,jD,jE,jF,↓reduceIte,jA,jG,jB,jC,enP,APX,l2,l1];refine(inside_prog G b.ranges.l b.ranges.m v H (AGK hb)).use ?_;simp -implicitDefEqProofs only[BK,A8,CG,AY,BB,AO,AQ,AL,BD,AX,AC,AA,AZ,A7,↓reduceIte,jB,jC];exact⟨trivial,hx⟩
theorem AH8 (kind:Int)(h:Hp):PCall (En G) 159 [.int .i64 kind] h (.fn (.func (if(kind==0)=true then 211 else 212)) [] []):=by
 refine acN Tryz.func159 rfl ?_;show awp _ _ _ _ _ (EN _ [.tmp 2] _);simp -implicitDefEqProofs only[BC,BA,BI,A8,AY,BB,AO,AQ,AL,BD,AX,AC,AA,AZ,AU,BH,AWF,BG,A7,BR,AB,D7,BF,↓reduceIte,jA,jB,jC,enP];cases hk:(kind==0)
 .simp -implicitDefEqProofs only[BC,BA,BO,BK,A8,CG,DR,AY,BB,AO,AQ,AL,BD,AX,AC,AA,BZ,A7,↓reduceIte,jB,jC,jY]
  exact⟨by simp,trivial⟩
 .simp -implicitDefEqProofs only[BC,BA,BK,A8,CP,CG,DI,AY,BB,AO,AQ,AL,BD,AX,AC,AA,BZ,A7,↓reduceIte,jB,jC]
  exact⟨by simp,trivial⟩
theorem AAZ (hG:GOk G)(p:Pt)(hp:PtOk p)(last:List Int)(m:SM)(v kind:Int)(h:Hp)(hl:last.length<=8388608) :
  PCall (En G) 101 [.agg (GL p),.agg (O3 m last v),.int .i64 kind] h (.sl (nm (ZT p last v kind)) 1 ((ZT p last v kind).map II)):=by
 refine N7 ARO ?_;have hnum:=hp.num;refine acN Tryz.func101 rfl ?_;show awp _ _ _ _ _ (EN _ [.tmp 6] _);have gp:=CU (x:=ABlk.live 2 [O3 m last v]) (CX h (ABlk.live 6 [GL p]));have gx:=CX (h++[ABlk.live 6 [GL p]]) (ABlk.live 2 [O3 m last v]);have hx:ext h (h++[ABlk.live 6 [GL p]]++[ABlk.live 2 [O3 m last v]]):=((ext.rfl' h).app _).app _;have hbl:h.length<=(h++[ABlk.live 6 [GL p]]).length:=by simp
 simp -implicitDefEqProofs only[BC,BA,A8,AY,BB,AO,AQ,AL,BD,AX,AC,AA,AZ,AU,IY,A7,FU,BQ,BJ,BX,AB,BF,BN,↓reduceIte,jA,jG,jB,jC,enP,I9,bxP,AV2]
 generalize h++[ABlk.live 6 [GL p]]++[ABlk.live 2 [O3 m last v]]=H1 at gp gx hx|-
 generalize (h++[ABlk.live 6 [GL p]]).length=xb at gx hbl|-
 have l5:ED Tryz.prog H1 54 (.ptr h.length 0 5)=some (.sl p.bm 4 (p.bins.map GV)):=by rw[DX SQ gp (row:=GL p) rfl,NU]
 simp -implicitDefEqProofs only[BP,A8,AY,BB,AO,AQ,AL,BD,AX,AC,AA,AZ,AU,BH,BG,DZ,AB,↓reduceIte,jB,jC,enP,RZ,l5,jI]
 refine DK (fun n F H=>∃k u,n+k=p.bins.length∧F 2=.int .i64 kind∧F 4=.ptr xb 0 0∧F 7=u∧F 11=.sl p.bm 4 (p.bins.map GV)∧F 12=.int .i64 (p.bins.length:Nat)∧F 13=.int .i64 (k:Nat)∧ext H1 H∧outG 1 II H1 (NR p.bins last v kind k) u H) p.bins.length
  ⟨0,.sl .nil 0 [],by simp,by simp -implicitDefEqProofs only[AA,BF,BN,↓reduceIte,jA],by simp -implicitDefEqProofs only[AA,↓reduceIte,jA],by simp -implicitDefEqProofs only[AA,↓reduceIte,jA],by simp -implicitDefEqProofs only[AA,↓reduceIte,jA],by simp -implicitDefEqProofs only[AA,↓reduceIte,jA],by simp -implicitDefEqProofs only[AA,↓reduceIte]; rfl,ext.rfl' _,outG.nil _ _ _ _⟩ ?_
 rintro n F H ⟨k,u,hk,f2,f4,f7,f11,f12,f13,hxH,ho⟩;simp -implicitDefEqProofs only[BC,BA,BI,A8,AY,BB,AO,AQ,AL,BD,AX,AC,AA,AZ,BR,AB,CZ,↓reduceIte,jB,jC,enP,f12,f13];refine CV (fun hc=>?_) (fun hc=>?_)
 .have hk':k<p.bins.length:=by simpa using hc
  have hbok:=hp.bins _ (jQ hk');have gxH:=FP (hxH.app [ABlk.live 4 [GV p.bins[k]]]) gx;have gb:=CX H (ABlk.live 4 [GV p.bins[k]]);have hx1:=hxH.app [ABlk.live 4 [GV p.bins[k]]];have ho1:=ho.app [ABlk.live 4 [GV p.bins[k]]];have hlen:=XM p.bins last v kind k;have hs:=YZ p.bins last v kind k hk';simp -implicitDefEqProofs only[BC,BP,BA,BO,A8,AY,BB,AO,AQ,AL,BD,AX,AC,EM,AA,AZ,BG,A7,EX,BQ,D6,CE,BX,AB,CY,↓reduceIte,jA,jB,jC,enP,YX,jP,f11,f13,DU hk',FM VK QR MK hk',AZX,A1A _ _ [.str ⟨#[]⟩,.int .i64 0,.sl .nil 0 [],.sl .nil 0 []] rfl]
  generalize H++[ABlk.live 4 [GV p.bins[k]]]=H2 at gxH gb hx1 ho1|-
  have lk:ED Tryz.prog H2 3 (.ptr H.length 0 1)=some (.int .i64 p.bins[k].kind):=by rw[DX ag3 gb (row:=GV p.bins[k]) rfl,UR]
  refine E8 (by kernel_rfl) ?_;simp -implicitDefEqProofs only[F6,EH,DT,EI,FN,GI,FT,FH,I4,D9,CO,AO,AA,AZ,BQ,BR,BJ,AB,D7,↓reduceIte,jA,jM,jG,jB,enP,MR,lk,f2];cases hq:(p.bins[k].kind==kind)
  .have hK0:hK last v kind p.bins[k]=false:=by unfold hK; rw[hq]; rfl
   rw[hK0] at hs;simp -implicitDefEqProofs only[F6,EH,DT,FB,EI,FN,GI,ACH,I5,BA,BO,BI,A8,EJ,EQ,DR,AY,BB,CO,AO,AQ,AL,BD,AX,AC,AA,EW,AZ,AU,BH,BM,BG,CQ,DW,BR,AB,C9,↓reduceIte,jA,jM,jB,jC,enP,hq,f13,wrap_succ (show k<9223372036854775807 by omega)];exact⟨n-1,by omega,k+1,u,by omega,by trivial,by trivial,by trivial,by trivial,by trivial,by trivial,hx1,by rw[hs]; simpa using ho1⟩
  .have hKv:hK last v kind p.bins[k]=if(kind==0)=true then hit p.bins[k] last v else inside p.bins[k].ranges.l v:=by unfold hK; rw[hq]; rfl
   have hcall:PCall (En G) (if(kind==0)=true then 211 else 212) [.agg (O3 m last v),.agg (GV p.bins[k])] H2 (.bool (hK last v kind p.bins[k])):=by
    rw[hKv];split
    .exact AI6 G hG _ hbok last m v H2 hl
    .exact AE5 G _ hbok last m v H2
   generalize hf:(if(kind==0)=true then 211 else 212:Nat)=fid at hcall;have hm:=AH8 G kind H2;rw[hf] at hm;simp -implicitDefEqProofs only[F6,EH,DT,FN,GI,VN,FT,FH,GU,F9,CO,AO,AA,AZ,BZ,BQ,jD,jE,jF,↓reduceIte,jA,jM,jB,enP,hq,f2];refine⟨_,hm,?_⟩;simp -implicitDefEqProofs only[F6,EH,DT,FB,EI,FN,GI,VN,I5,FH,GU,F9,BI,A8,CO,AO,AA,AZ,AU,BM,CQ,DY,BQ,AB,jD,jE,jF,↓reduceIte,jA,jM,jB,enP,f4,APQ gxH,AUF gb];refine⟨_,hcall,?_⟩;cases hv:hK last v kind p.bins[k]
   .rw[hv] at hs
    simp -implicitDefEqProofs only[BA,BO,A8,EJ,EQ,DR,AY,BB,AO,AQ,AL,BD,AX,AC,AA,AZ,AU,BH,BG,BR,AB,C9,↓reduceIte,jA,jB,jC,enP,f13,wrap_succ (show k<9223372036854775807 by omega)];exact⟨n-1,by omega,k+1,u,by omega,by trivial,by trivial,by trivial,by trivial,by trivial,by trivial,hx1,by rw[hs]; simpa using ho1⟩
   .rw[hv,if_pos rfl] at hs
    obtain⟨u',H3,ha,ho2,_,hx2,_,_⟩:=ho1.append (P:=Tryz.prog) UA sz3 YG WS (by omega) (by omega) hx1 k;have ha':G8 Tryz.prog true H2 57 57 u (.sl .full 1 [[.int .i64 ((k:Nat):Int)]])=some (u',H3):=ha;simp -implicitDefEqProofs only[EZ,FW,BA,A8,EJ,EQ,DI,AY,BB,AO,AQ,AL,BD,AX,AC,AA,AZ,AU,BH,BG,A7,EP,BR,GR,BX,AB,C9,↓reduceIte,jA,jB,jC,enP,f7,f13,AE8,ha',wrap_succ (show k<9223372036854775807 by omega)];exact⟨n-1,by omega,k+1,u',by omega,by trivial,by trivial,by trivial,by trivial,by trivial,by trivial,hx2,by rw[hs]; exact ho2⟩
 .have hk':k=p.bins.length:=by
   have:¬k<p.bins.length:=by simpa using hc
   omega
  subst hk';simp -implicitDefEqProofs only[BC,BA,BK,DJ,A8,EG,EU,ET,CG,AY,BB,AO,AQ,AL,BD,AX,AC,AA,AZ,BG,A7,↓reduceIte,jA,jB,jC,f7];refine⟨hx.trans hxH,?_⟩;rcases ho with⟨e,hu⟩|⟨e,o,h1,h2,h3⟩
  .exact .inl ⟨e,hu⟩
  .exact .inr ⟨e,o,zY hx.le h1,h2,h3⟩
def inK (bins:List Bin)(kind v:Int):Bool:=bins.any fun b=>(b.kind==kind)&&inside b.ranges.l v
theorem AUO (p:Pt)(hp:PtOk p)(kind v:Int)(h:Hp):PCall (En G) 105 [.agg (GL p),.int .i64 kind,.int .i64 v] h (.bool (inK p.bins kind v)):=by
 refine ACalls.pure0 rfl ?_;have hnum:=hp.num;refine acN Tryz.func105 rfl ?_;show awp _ _ _ _ _ (EN _ [.tmp 6] _);have gp:=CX h (ABlk.live 6 [GL p]);have hx:ext h (h++[ABlk.live 6 [GL p]]):=(ext.rfl' h).app _;simp -implicitDefEqProofs only[BC,BP,BA,A8,AY,BB,AO,AQ,AL,BD,AX,AC,AZ,AU,BH,BM,A7,FU,BX,BF,jB,jC,enP,bxP]
 generalize h++[ABlk.live 6 [GL p]]=H1 at gp hx|-
 have l5:ED Tryz.prog H1 54 (.ptr h.length 0 5)=some (.sl p.bm 4 (p.bins.map GV)):=by rw[DX SQ gp (row:=GL p) rfl,NU]
 refine DK (fun n F H=>∃k,n+k=p.bins.length∧F 1=.int .i64 kind∧F 2=.int .i64 v∧F 3=.ptr h.length 0 0∧F 7=.int .i64 (k:Nat)∧H=H1∧inK p.bins kind v=inK (p.bins.drop k) kind v) p.bins.length ⟨0,by simp,by simp -implicitDefEqProofs only[AA,BF,BN,↓reduceIte,jA],by simp -implicitDefEqProofs only[AA,BF,BN,↓reduceIte,jA],by simp -implicitDefEqProofs only[AA,↓reduceIte,jA],by simp -implicitDefEqProofs only[AA,↓reduceIte]<;>rfl,rfl,rfl⟩ ?_;rintro n F H ⟨k,hk,f1,f2,f3,f7,rfl,hin⟩;simp -implicitDefEqProofs only[BC,BA,BI,A8,AY,BB,AO,AQ,AL,BD,AX,AC,AA,AZ,BG,BQ,BR,BJ,DZ,AB,CZ,↓reduceIte,jA,jG,jB,jC,enP,RZ,I9,f3,f7,l5,jI];refine CV (fun hc=>?_) (fun hc=>?_)
 .have hk':k<p.bins.length:=by simpa using hc
  have hbok:=hp.bins _ (jQ hk');unfold inK at hin;rw[AFE _ _ _ hk'] at hin;have lk:ED Tryz.prog H 3 (.fptr 4 (p.bins.map GV) k 1)=some (.int .i64 p.bins[k].kind):=by rw[DF ag3 hk']; rfl
  have lr:ED Tryz.prog H 118 (.fptr 4 (p.bins.map GV) k 2)=some (.sl p.bins[k].ranges.m 2 (p.bins[k].ranges.l.map encR)):=by rw[DF PN hk']; rfl
  simp -implicitDefEqProofs only[BC,BP,BA,BO,A8,AY,BL,BV,CO,AO,AQ,AL,BD,AX,AC,AA,AZ,BG,BQ,BR,BJ,CE,AB,D7,↓reduceIte,jA,jG,jB,jC,enP,YX,I9,MR,f1,f3,f7,l5,DU hk',lk];cases hq:(p.bins[k].kind==kind)
  .rw[hq,Bool.false_and,qG] at hin
   simp -implicitDefEqProofs only[BA,BO,BI,A8,EJ,EQ,DR,AY,BB,BL,BV,CO,IU,AO,AQ,AL,BD,AX,AC,AA,EW,AZ,AU,BH,BM,BG,A7,CQ,DW,BR,AB,C9,↓reduceIte,jA,jB,jC,enP,hq,f7,wrap_succ (show k<9223372036854775807 by omega)];exact⟨n-1,by omega,k+1,by omega,by trivial,by trivial,by trivial,by trivial,trivial,hin⟩
  .rw[hq,wB] at hin
   simp -implicitDefEqProofs only[BL,BV,CO,GH,AO,AQ,AL,BD,AX,AC,AA,AZ,BZ,BG,BQ,BJ,CE,CB,BU,AB,jD,jE,jF,↓reduceIte,jA,jG,jB,jC,enP,YX,I9,Q4,hq,f2,f3,f7,l5,DU hk',lr];refine(YY G p.bins[k].ranges.l p.bins[k].ranges.m v H (AGK hbok)).use ?_;simp -implicitDefEqProofs only[BI,A8,AY,BB,AO,AQ,AL,BD,AX,AC,AA,AZ,AU,BM,CQ,DY,↓reduceIte,jA,jB,jC];cases hv:inside p.bins[k].ranges.l v
   .rw[hv,qG] at hin
    simp -implicitDefEqProofs only[BA,BO,A8,EJ,EQ,DR,AY,BB,AO,AQ,AL,BD,AX,AC,AA,AZ,AU,BH,BG,A7,BR,AB,C9,↓reduceIte,jA,jB,jC,enP,f7,wrap_succ (show k<9223372036854775807 by omega)];exact⟨n-1,by omega,k+1,by omega,by trivial,by trivial,by trivial,by trivial,trivial,hin⟩
   .rw[hv,wC] at hin
    simp -implicitDefEqProofs only[BC,BA,BK,A8,CP,EE,FQ,CG,DI,AY,BB,AO,AQ,AL,BD,AX,AC,AA,AU,BM,A7,↓reduceIte,jB,jC];exact⟨by unfold inK; rw[hin],hx⟩
 .have hk':¬k<p.bins.length:=by simpa using hc
  rw[jW (by omega)] at hin;simp -implicitDefEqProofs only[BC,BA,BK,DJ,A8,EG,EU,ET,CG,AY,BB,AO,AQ,AL,BD,AX,AC,AA,AU,BM,A7,↓reduceIte,jB,jC];exact⟨by rw[hin]; rfl,hx⟩
theorem AK7 (p:Pt)(last:List Int)(v kind:Int)(hk:kind≠0):decide (0<(ZT p last v kind).length)=inK p.bins kind v:=by
 unfold ZT;rw[AGV,List.take_length];unfold inK;congr 1;funext b;unfold hK;have:(kind==0)=false:=by simpa using hk
 rw[this]; rfl
end
structure PtR where
 hit:List Nat
 next:List Int
 bad:Bool
 err:Int
def nextL (last:List Int)(v:Nat):List Int:=(last++[(v:Int)]).drop (last.length+1-7)
def ptE (p:Pt)(last:List Int)(l:List Sg):PtR :=
 if GZ p≠0∨lastB last=false then ⟨[],[],false,1⟩
 else if(evE l p.ex).2≠0 then ⟨[],[],false,(evE l p.ex).2⟩
 else if inK p.bins 2 (evE l p.ex).1=true then ⟨[],nextL last (evE l p.ex).1,true,0⟩
 else if inK p.bins 1 (evE l p.ex).1=true then ⟨[],nextL last (evE l p.ex).1,false,0⟩
 else ⟨ZT p last (evE l p.ex).1 0,nextL last (evE l p.ex).1,false,0⟩
def ptV (r:PtR):AV:=.tup [.sl (nm r.hit) 1 (r.hit.map II),.sl (nm r.next) 1 (r.next.map encI),.bool r.bad,.int .i64 r.err]
def ptW (r:PtR):AV:=.tup [fzG 1 II r.hit,fzG 1 encI r.next,.bool r.bad,.int .i64 r.err]
theorem ATR (r:PtR):CvR (ptW r) (ptV r):=CvR.tup (CvRL.cons TT (CvRL.cons TT (CvRL.refl _)))
theorem AKW (last:List Int)(v:Nat):nextL last v≠[]:=by
 intro h;have:=congrArg List.length h;unfold nextL at this;simp at this; omega
theorem AIJ {α:Type}{k:Nat}{f:α->List AV}{ys:List α}(h:ys≠[]):fzG k f ys=.sl .any k (ys.map f):=by
 cases ys with
 | nil=>exact absurd rfl h
 | cons y ys=>rfl
theorem APS {α:Type}{f:α->List AV}(hf:Frz f){n d k:Nat}{h:Hp}{o off len:Nat}{xs:List α}(hn:n<=o)(ho:h[o]?=some (.live k (xs.map f)))(hl:off+len=xs.length):IX n h (d+2) (.own o off len)=.sl .any k ((xs.drop off).map f):=by
 have e:((xs.map f).drop off).take len=(xs.drop off).map f:=by
  rw[<-List.map_drop,jX (by simp; omega)]
 rw[AEJ n h (d+1) o off len k _ (by omega) ho,e,AK8 hf n h d _,if_pos];refine⟨by simp; omega,?_⟩;rw[zI];intro row hr;obtain⟨x,_,rfl⟩:=zM.1 hr;exact(hf n h d x).2
theorem ATF {h:Hp}{o n u:Nat}{xs:List (List AV)}(hb:h[o]?=some (.live 1 xs))(hu:u<=n):NW Tryz.prog h 57 (.own o 0 n) (some (.int .i64 (u:Nat))) none none=some (.own o u (n-u)):=by
 simp [NW,Tryz.underlying57,KJ,hb,sz3,hu]
theorem A1O (o off len:Nat):JG Tryz.prog 57 .eql (.own o off len) (.sl .nil 0 [])=some (.bool false):=by kernel_rfl
theorem AR4 (G:Nat->AV){h:Hp}{o off len:Nat}{xs:List Int}(ho:h[o]?=some (.live 1 (xs.map encI)))(hl:off+len=xs.length)(h0:0<len)(hm:xs.length<=1048576) :
  ACalls (En G) 100 [.own o off len] h fun v H=>v=.own h.length 0 len∧H=h++[ABlk.live 1 ((xs.drop off).map encI)]:=by
 refine acN Tryz.func100 rfl ?_;show awp _ _ _ _ _ (EN _ [.tmp 2] _)
 have hc:KI h (.own o off len)=some (1,(xs.drop off).map encI):=by
  rw[O0 ho (by simp; omega),<-List.map_drop,jX (by simp; omega)]
 have hne:(xs.drop off).map encI≠[]:=by
  intro e;have:=congrArg List.length e;simp at this; omega
 simp -implicitDefEqProofs only[EZ,BC,BA,BO,BI,A8,DR,AY,BB,AO,AQ,AL,BD,AX,AC,AA,AZ,AU,IY,BG,A7,EP,BR,GR,BX,AB,BF,↓reduceIte,jA,jB,jC,enP,A1O,AV5];refine H9 (app_full UA sz3 YG WS hc hne (JM (by simp; omega) (by omega))) ?_;simp -implicitDefEqProofs only[BK,A8,CG,AY,BB,AO,AQ,AL,BD,AX,AC,AA,AZ,A7,List.nil_append,↓reduceIte,jB,jC];exact⟨by simp; omega,by simp⟩
theorem AG8 {h h':Hp}{last:List Int}{u:AV}(v:Int)(hc:ANW 1 (last.map encI) h u h')(hl:last.length<=1048576) :
  ∃o H,G8 Tryz.prog true h' 57 57 u (.sl .full 1 [[.int .i64 v]])=some (.own o 0 (last.length+1),H)∧H[o]?=some (.live 1 ((last++[v]).map encI))∧h.length<=o∧ext h H:=by
 have h1:([[AV.int .i64 v]]:List (List AV))≠[]:=by simp
 rcases hc with⟨he,⟨k0,rfl⟩,rfl⟩|⟨he,rfl,rfl⟩|⟨hne,rfl,rfl⟩
 .have:last=[]:=by simpa using he
  subst this;exact⟨h'.length,_,VE UA sz3 YG WS (J3 _ .full 1 [[.int .i64 v]]) h1 (JM (by simp) (by omega)),CX _ _,jL _,(ext.rfl' _).app _⟩
 .have:last=[]:=by simpa using he
  subst this;exact⟨h'.length,_,app_full UA sz3 YG WS (J3 _ .full 1 [[.int .i64 v]]) h1 (JM (by simp) (by omega)),CX _ _,jL _,(ext.rfl' _).app _⟩
 .have hcc:KI (h++[ABlk.live 1 (last.map encI)]) (.own h.length 0 (last.map encI).length)=some (1,last.map encI):=AG7
  refine⟨(h++[ABlk.live 1 (last.map encI)]).length,(h++[ABlk.live 1 (last.map encI)]).set h.length .dead++[ABlk.live 1 (last.map encI++[[.int .i64 v]])],?_,?_,?_,?_⟩
  .have:=VD UA sz3 YG WS hcc (J3 _ .full 1 [[.int .i64 v]]) h1 (JM (by simp; omega) (by omega))
   rw[this];simp
  .have e:(h++[ABlk.live 1 (last.map encI)]).length=((h++[ABlk.live 1 (last.map encI)]).set h.length .dead).length:=by simp
   rw[e,CX];simp [encI]
  .simp
  .exact(((ext.rfl' h).app _).set (jL _) _).app _
section
variable (G:Nat->AV)
theorem A42 (h:Hp):KQ Tryz.prog h 133=some (.ptr h.length 0 0,h++[.live 2 [[.sl .nil 0 [],.int .i64 0]]]):=KE (row:=[.sl .nil 0 [],.int .i64 0]) (by kernel_rfl)
theorem A4S (s:SM)(k:Nat)(xs:List (List AV))(v:Int):LQ Tryz.prog 133 [(0,.sl s k xs),(1,.int .i64 v)]=some (.agg [.sl s k xs,.int .i64 v]):=by kernel_rfl
theorem A20 (h:Hp)(s:SM)(xs:List Int)(v:Int):FX Tryz.prog (h++[.live 2 [[.sl .nil 0 [],.int .i64 0]]]) 133 (.ptr h.length 0 0) (.agg [.sl s 1 (xs.map encI),.int .i64 v])=some (h++[.live 2 [O3 s xs v]]):=by
 rw[O6 (cs:=[.sl s 1 (xs.map encI),.int .i64 v]) (row:=[.sl .nil 0 [],.int .i64 0]) rfl A0F (CX _ _) (by exact jL 2),O7];rfl
theorem ldP {h:Hp}{b:Nat}{p:Pt}(hb:h[b]?=some (.live 6 [GL p])):ED Tryz.prog h 56 (.ptr b 0 0)=some (.agg (GL p)):=by
 rw[J4 ACR ZH hb rfl (by rw[JR]; exact jL 6),qE,jX (by rw[JR]; exact jL 6)]
set_option maxHeartbeats 1000000 in
theorem AFQ (hG:GOk G)(p:Pt)(hp:PtOk p)(last:List Int)(lm:SM)(l:List Sg)(m:SM)(h:Hp)(hll:last.length<=1048576)(hl:l.length<=1099511627776) :
  PCall (En G) 43 [.agg (GL p),.sl lm 1 (last.map encI),.sl m 2 (l.map HY)] h (ptV (ptE p last l)):=by
 refine PCall.res (r:=ptW (ptE p last l)) ?_ (ATR _);have hE:∀(e:Int) (n:Nat) (H:Hp),IX n H 4 (.tup [.sl .nil 0 [],.sl .nil 0 [],.bool false,.int .i64 e])=ptW ⟨[],[],false,e⟩:=fun _ _ _=>rfl
 refine ACalls.pure (R:=fun v H=>ext h H∧IX h.length H 4 v=ptW (ptE p last l)) 4 ?_ (fun v H ⟨a,b⟩=>⟨a,b⟩);refine acN Tryz.func43 rfl ?_;show awp _ _ _ _ _ (EN _ [.tmp 6,.tmp 7,.tmp 8,.tmp 9] _);have gp:=CX h (ABlk.live 6 [GL p]);have hx:ext h (h++[ABlk.live 6 [GL p]]):=(ext.rfl' h).app _;simp -implicitDefEqProofs only[BC,BA,A8,AY,BB,AO,AQ,AL,BD,AX,AC,AA,AZ,AU,BH,BM,IY,A7,FU,BQ,BX,BF,↓reduceIte,jA,jB,jC,enP,bxP]
 generalize h++[ABlk.live 6 [GL p]]=H1 at gp hx|-
 simp -implicitDefEqProofs only[AY,AO,AQ,AL,BD,AX,AC,AA,AZ,BZ,CB,BU,AB,jD,jE,jF,↓reduceIte,jB,jC,ldP gp];refine(AD3 G hG p hp H1).use ?_;simp -implicitDefEqProofs only[AY,BL,BV,CO,AO,AQ,AL,BD,AX,AC,AA,AZ,AU,BH,BG,BR,AB,EK,↓reduceIte,jB,jC,enP];cases h1:(GZ p==0)
 .have hne:GZ p≠0:=by simpa using h1
  simp -implicitDefEqProofs only[BC,BA,BK,BI,A8,CP,QQ,DI,AY,BB,BL,BV,CO,F7,AO,AQ,AL,BD,AX,AC,AA,EW,AZ,AU,BH,BM,IY,A7,CQ,DY,↓reduceIte,jA,jB,jC,bne,h1];exact⟨hx,by unfold ptE; rw[if_pos (.inl hne)]; rfl⟩
 have hp0:GZ p=0:=by simpa using h1
 simp -implicitDefEqProofs only[BL,BV,CO,ES,AO,AQ,AL,BD,AX,AC,AA,AZ,BZ,BG,CB,BU,BF,BN,jD,jE,jF,↓reduceIte,jA,jB,jR,jC,bne,h1];refine(AIA G last lm H1 (by omega)).use ?_;simp -implicitDefEqProofs only[BI,A8,AY,BB,BL,BV,CO,ES,AO,AQ,AL,BD,AX,AC,AA,AZ,AU,BM,CQ,DW,IG,AB,FI,↓reduceIte,jA,jB,jC];cases h2:lastB last
 .simp -implicitDefEqProofs only[BC,BA,BK,A8,CP,QQ,DI,AY,BB,AO,AQ,AL,BD,AX,AC,AA,AU,BH,BM,IY,A7,↓reduceIte,jA,jB,jC]
  exact⟨hx,by unfold ptE; rw[if_pos (.inr h2)]; rfl⟩
 have hneg:¬(GZ p≠0∨lastB last=false):=by rw[hp0,h2]; simp
 have h7:last.length<=7:=by
  unfold lastB at h2;rw[Bool.and_eq_true] at h2;simpa using h2.1
 simp -implicitDefEqProofs only[BC,BA,BO,A8,DR,AY,AO,AQ,AL,BD,AX,AC,AA,AZ,BZ,BG,BQ,BJ,CB,BU,AB,BF,BN,jD,jE,jF,↓reduceIte,jA,jG,jB,jR,jC,enP,AIP,AH9 gp];refine(ASO G hG l m p.ex H1 hl hp.ex).use ?_;unfold ptE;rw[if_neg hneg];generalize evE l p.ex=ev;obtain⟨v,e⟩:=ev;unfold evV;simp -implicitDefEqProofs only[zB,zG,BC,BA,BI,A8,AY,BB,AO,AQ,AL,BD,AX,AC,AA,AZ,AU,BH,BG,A7,BR,FK,GN,AB,EK,↓reduceIte,jA,jB,jC,enP];cases h3:(e==0)
 .have hne:e≠0:=by simpa using h3
  simp -implicitDefEqProofs only[BC,BA,BK,A8,CP,QQ,DI,AY,BB,AO,AQ,AL,BD,AX,AC,AA,AZ,AU,BM,IY,BG,A7,↓reduceIte,jA,jB,jC,bne,h3];exact⟨hx,by rw[if_pos hne]; rfl⟩
 have he0:e=0:=by simpa using h3
 rw[if_neg (by simpa using he0)];simp -implicitDefEqProofs only[EZ,FW,BC,BA,BO,A8,DR,AY,BB,AO,AQ,AL,BD,AX,AC,EM,AA,AZ,BZ,BG,EX,IV,D6,CB,BU,BX,AB,CY,BF,BN,jD,jE,jF,↓reduceIte,jA,jB,jR,jC,enP,jP,bne,h3,A4S,A42,A20];have gp2:=CU (x:=ABlk.live 2 [O3 lm last (v:Nat)]) gp;have gx2:=CX H1 (ABlk.live 2 [O3 lm last (v:Nat)]);have hx2:=hx.app [ABlk.live 2 [O3 lm last (v:Nat)]]
 generalize H1++[ABlk.live 2 [O3 lm last (v:Nat)]]=H2 at gp2 gx2 hx2|-
 refine(AQC G last lm H2 (by omega)).mono ?_;rintro u H2' hcl;obtain⟨o,H3,ha,ho,hol,hx3⟩:=AG8 (v:Nat) hcl hll;have gp3:=FP hx3 gp2;have gx3:=FP hx3 gx2;have hx4:=hx2.trans hx3;simp -implicitDefEqProofs only[Option.map_some,Option.map_none,EZ,FW,BC,BA,A8,AY,BB,AO,AQ,AL,BD,AX,AC,AA,AZ,AU,BH,BG,A7,EP,BR,UZ,DZ,A0A,GR,BX,AB,J9,AT6,↓reduceIte,jA,jB,jC,enP,JD,AE8,ha];have hsub:IntKind.i64.wrap (((last.length+1:Nat):Int)-7)=((last.length+1:Nat):Int)-7:=wrap_i64 (by omega) (by omega);have hmax:max (0:Int) (((last.length+1:Nat):Int)-7)=((last.length+1-7:Nat):Int):=by omega
 have hsl:=ATF (n:=last.length+1) (u:=last.length+1-7) ho (by omega);simp -implicitDefEqProofs only[AY,AO,AQ,AL,BD,AX,AC,AA,AZ,BZ,CB,BU,AB,jD,jE,jF,↓reduceIte,jB,jC,hsub,hmax,hsl];refine(AR4 G (off:=last.length+1-7) (len:=last.length+1-(last.length+1-7)) ho (by simp<;>omega) (by omega) (by simp<;>omega)).mono ?_;rintro u' H4 ⟨rfl,rfl⟩;have hnl:(last++[((v:Nat):Int)]).drop (last.length+1-7)=nextL last v:=rfl;have hlen:last.length+1-(last.length+1-7)=(nextL last v).length:=by unfold nextL; rw[List.length_drop,zW]; rfl
 rw[hnl,hlen];have gp5:=CU (x:=ABlk.live 1 ((nextL last v).map encI)) gp3;have gx5:=CU (x:=ABlk.live 1 ((nextL last v).map encI)) gx3;have go5:=CX H3 (ABlk.live 1 ((nextL last v).map encI));have hx5:=hx4.app [ABlk.live 1 ((nextL last v).map encI)];have hle:=hx4.le
 generalize H3++[ABlk.live 1 ((nextL last v).map encI)]=H5 at gp5 gx5 go5 hx5|-
 generalize H3.length=ob at go5 hle|-
 have hne:=AKW last v
 have hfz:IX h.length H5 3 (.own ob 0 (nextL last v).length)=fzG 1 encI (nextL last v):=by
  rw[AIJ hne]; exact ZV (d:=1) AYZ hle go5
 have h2K:=AK7 p last (v:Nat) 2 (by decide);have h1K:=AK7 p last (v:Nat) 1 (by decide)
 have hgt:∀n:Nat,decide (((n:Nat):Int)>0)=decide (0<n):=fun n=>by
  rw[qN]; simp only[decide_eq_true_eq]; omega
 simp -implicitDefEqProofs only[BC,BA,A8,AY,BB,AO,AQ,AL,BD,AX,AC,AA,AZ,AU,BZ,BH,A7,BQ,CB,BU,AB,jD,jE,jF,↓reduceIte,jA,jB,jC,enP,ldP gp5,APQ gx5];refine(AAZ G hG p hp last lm (v:Nat) 2 H5 (by omega)).use ?_;simp -implicitDefEqProofs only[BC,BA,A8,AY,BB,BL,BV,CO,AO,AQ,AL,BD,AX,AC,AA,AZ,AU,BH,BG,A7,BR,DZ,AB,FV,↓reduceIte,jB,jC,enP,JD,jI,hgt,h2K]
 have hfin:∀(hits:List Nat) (bad:Bool) (s:SM),(hits=[]->s=.nil)->(hits≠[]->s=.any)->IX h.length H5 4 (.tup [.sl s (if hits=[] then 0 else 1) (hits.map II),.own ob 0 (nextL last v).length,.bool bad,.int .i64 0])=ptW ⟨hits,nextL last v,bad,0⟩:=by
  intro hits bad s e1 e2;have:IX h.length H5 4 (.tup [.sl s (if hits=[] then 0 else 1) (hits.map II),.own ob 0 (nextL last v).length,.bool bad,.int .i64 0])=.tup [.sl s (if hits=[] then 0 else 1) (hits.map II),IX h.length H5 3 (.own ob 0 (nextL last v).length),.bool bad,.int .i64 0]:=rfl;rw[this,hfz];unfold ptW
  cases hits with
  | nil=>rw[e1 rfl]; rfl
  | cons x xs=>rw[e2 (by simp)]; rfl
 cases h2i:inK p.bins 2 (v:Nat)
 .simp -implicitDefEqProofs only[BL,BV,CO,ES,AO,AQ,AL,BD,AX,AC,AA,AZ,AU,BZ,BH,BQ,CB,BU,AB,jD,jE,jF,↓reduceIte,jA,jB,jC,enP,jY,ldP gp5,APQ gx5]
  refine(AAZ G hG p hp last lm (v:Nat) 1 H5 (by omega)).use ?_;simp -implicitDefEqProofs only[BI,A8,AY,BB,BL,BV,CO,ES,AO,AQ,AL,BD,AX,AC,AA,AZ,AU,BH,BM,CQ,DW,BR,DZ,AB,FV,↓reduceIte,jA,jB,jC,enP,JD,jI,hgt,h1K];cases h1i:inK p.bins 1 (v:Nat)
  .simp -implicitDefEqProofs only[BC,BA,BO,A8,DR,AY,AO,AQ,AL,BD,AX,AC,AA,AZ,AU,BZ,BH,BQ,CB,BU,AB,jD,jE,jF,↓reduceIte,jA,jB,jC,enP,jY,ldP gp5,APQ gx5]
   have hlast:=AAZ G hG p hp last lm (v:Nat) 0 H5 (by omega)
   generalize ZT p last (v:Nat) 0=hs at hlast|-
   cases hs with
   | nil =>
     refine(PCall.res hlast (r':=.sl .nil 0 []) (CvR.sl (Cv.nil 1 0))).use ?_;simp -implicitDefEqProofs only[BK,A8,QQ,AY,BB,AO,AQ,AL,BD,AX,AC,AA,AZ,AU,BH,BM,BG,A7,↓reduceIte,jA,jB,jC];exact⟨hx5,hfin [] false .nil (fun _=>rfl) (fun q=>absurd rfl q)⟩
   | cons x xs =>
     refine hlast.use ?_;simp -implicitDefEqProofs only[BK,A8,QQ,AY,BB,AO,AQ,AL,BD,AX,AC,AA,AZ,AU,BH,BM,BG,A7,jD,↓reduceIte,jA,jB,jC];exact⟨hx5,hfin (x::xs) false .any (fun q=>by cases q) (fun _=>rfl)⟩
  .simp -implicitDefEqProofs only[BC,BA,BK,A8,CP,QQ,DI,AY,BB,AO,AQ,AL,BD,AX,AC,AA,AZ,AU,BH,IY,BG,A7,↓reduceIte,jA,jB,jC]
   exact⟨hx5,hfin [] false .nil (fun _=>rfl) (fun q=>absurd rfl q)⟩
 .simp -implicitDefEqProofs only[BC,BA,BK,BI,A8,CP,QQ,DI,AY,BB,BL,BV,CO,F7,AO,AQ,AL,BD,AX,AC,AA,EW,AZ,AU,BH,BM,IY,BG,A7,CQ,DY,↓reduceIte,jA,jB,jC]
  exact⟨hx5,hfin [] true .nil (fun _=>rfl) (fun q=>absurd rfl q)⟩
end
def rz (n:Int):Int:=min (n+1) 1099511627776
theorem U6 (G:Nat->AV){H:Hp}{b i j k:Nat}{xs:List (List AV)}{row:List AV}{n:Int}(hb:H[b]?=some (.live k xs))(hr:xs[i]?=some row)(hj:row[j]?=some (.int .i64 n))(h0 : -9223372036854775808<=n)(h1:n<9223372036854775807) :
  ACalls (En G) 166 [.ptr b i j] H fun _ H'=>H'=H.set b (.live k (xs.set i (splice row j [.int .i64 (rz n)]))):=by
 refine acN Tryz.func166 rfl ?_;show awp _ _ _ _ _ (EN _ [] _);have hld:ED Tryz.prog H 3 (.ptr b i j)=some (.int .i64 n):=by rw[DX ag3 hb hr,hj]
 have hst:FX Tryz.prog H 3 (.ptr b i j) (.int .i64 (rz n))=some (H.set b (.live k (xs.set i (splice row j [.int .i64 (rz n)])))):=KY (P6 _ _) sz3 hb hr (by have:=CJ hj; simp; omega);have hw:IntKind.i64.wrap (n+1)=n+1:=wrap_i64 (by omega) (by omega);have hm:min (n+1) 1099511627776=rz n:=rfl;simp -implicitDefEqProofs only[BA,AIZ,AY,BB,AO,AQ,AL,BD,AX,AC,EM,AA,AZ,AU,BH,BG,BQ,D6,BR,AF9,AB,CY,C9,AAY,BF,↓reduceIte,jA,jB,jC,enP,jP,IA,JC,hld,hw,hm,hst]
def YP (p:Nat×List Int):List AV:=[.own p.1 0 p.2.length]
structure NL (n0:Nat) (H:Hp) (o:Nat) (bs:List Nat) (xss:List (List Int)):Prop where
 len:bs.length=xss.length
 top:xss≠[]->H[o]?=some (.live 1 ((bs.zip xss).map YP))
 row:∀(i:Nat) (hb:i<bs.length) (hx:i<xss.length),H[bs[i]]?=some (.live 1 (xss[i].map encI))
 nodup:bs.Nodup
 out:xss≠[]->o ∉ bs
 lo:∀b∈bs,n0<=b
 lo':xss≠[]->n0<=o
def nlV (o:Nat):List (List Int)->AV
 | []=>.sl .nil 0 []
 | _::xss=>.own o 0 (xss.length+1)
theorem PU (o:Nat){xss:List (List Int)}(h:xss≠[]):nlV o xss=.own o 0 xss.length:=by
 cases xss with
 | nil=>exact absurd rfl h
 | cons x xs=>rfl
theorem MG (o:Nat)(xss:List (List Int)):(nlV o xss).leaf=true:=by cases xss<;>rfl
theorem NL.nil (n0:Nat)(H:Hp)(o:Nat):NL n0 H o [] []:=⟨rfl,fun h=>absurd rfl h,fun i hb=>by simp at hb,List.nodup_nil,fun h=>absurd rfl h,fun b hb=>(by cases hb),fun h=>absurd rfl h⟩
section
variable {n0:Nat} {H:Hp} {o:Nat} {bs:List Nat} {xss:List (List Int)} (N:NL n0 H o bs xss)
include N
theorem NL.keep {H':Hp}(hk:∀b x,((xss≠[]∧b=o)∨b∈bs)->H[b]?=some x->H'[b]?=some x):NL n0 H' o bs xss :=
 ⟨N.len,fun h=>hk _ _ (.inl ⟨h,rfl⟩) (N.top h),fun i hb hx=>hk _ _ (.inr (jQ hb)) (N.row i hb hx),N.nodup,N.out,N.lo,N.lo'⟩
theorem NL.app (x:Hp):NL n0 (H++x) o bs xss:=N.keep fun _ _ _ hb=>FZ hb
theorem NL.mem_lt {b:Nat}(hb:b∈bs):b<H.length:=by
 obtain⟨i,hi,rfl⟩:=qK hb;exact CJ (N.row i hi (by rw[<-N.len]; exact hi))
theorem NL.top_lt (h:xss≠[]):o<H.length:=CJ (N.top h)
theorem NL.set {i:Nat}(hi:i<bs.length)(ys:List Int)(hl:∀hx:i<xss.length,ys.length=xss[i].length):NL n0 (H.set bs[i] (.live 1 (ys.map encI))) o bs (xss.set i ys):=by
 have hlen:=N.len;have hix:i<xss.length:=by omega
 have hne:xss≠[]:=by intro e; subst e; simp at hix
 have hob:o≠bs[i]:=fun e=>N.out hne (by rw[e]; exact jQ hi)
 refine⟨by rw[qI]; exact hlen,fun _=>?_,fun j hb hx=>?_,N.nodup,fun _=>N.out hne,N.lo,fun _=>N.lo' hne⟩
 .have e:(bs.zip (xss.set i ys)).map YP=(bs.zip xss).map YP:=by
   refine List.ext_getElem (by simp) fun j h1 h2=>?_
   simp only[List.getElem_map,List.getElem_zip,YP,List.getElem_set];split
   .rename_i e; subst e; rw[hl hix]
   .rfl
  rw[e,zX (Ne.symm hob)]; exact N.top hne
 .rcases Nat.decEq i j with h|h
  .have hbb:bs[j]≠bs[i]:=fun e=>h (by
    have:=(List.getElem_inj N.nodup).1 e
    exact this.symm)
   rw[zX (Ne.symm hbb)];have:=N.row j hb (by rw[qI] at hx; exact hx);rw[this];congr 3;rw[List.getElem_set_ne h]
  .subst h
   rw[List.getElem?_set_self (N.mem_lt (jQ hi))];congr 3;rw[List.getElem_set_self]
theorem NL.rowAt {i:Nat}(hi:i<xss.length):H[o]?=some (.live 1 ((bs.zip xss).map YP))∧((bs.zip xss).map YP)[i]?=some [.own (bs[i]'(by rw[N.len]; exact hi)) 0 xss[i].length]:=by
 have hne:xss≠[]:=by intro e; subst e; simp at hi
 refine⟨N.top hne,?_⟩;have hlen:=N.len;rw[zH,jS (by rw[List.length_zip]; omega),List.getElem_zip]; rfl
theorem NL.ld {i:Nat}(hi:i<xss.length):ED Tryz.prog H 57 (.ptr o i 0)=some (.own (bs[i]'(by rw[N.len]; exact hi)) 0 xss[i].length):=by
 obtain⟨h1,h2⟩:=N.rowAt hi;rw[DX KP h1 h2]; rfl
theorem NL.ix {i:Nat}(hi:i<xss.length):KN 1 H (nlV o xss) (.int .i64 (i:Nat))=some (.ptr o i 0):=by
 have hne:xss≠[]:=by intro e; subst e; simp at hi
 rw[PU o hne,LZ (N.top hne) hi,jG]
theorem NL.snoc {b t:Nat}{xs:List Int}(hb:H[b]?=some (.live 1 (xs.map encI)))(hlo:n0<=b)(hlo':n0<=H.length)(hbn:b ∉ bs)(hbo:xss≠[]->b≠o)(ht:H[t]?=some (.live 1 [[.own b 0 xs.length]]))(hm:xss.length<=1048576) :
  ∃H',G8 Tryz.prog true H 26 26 (nlV o xss) (.own t 0 1)=some (nlV H.length (xss++[xs]),H')∧NL n0 H' H.length (bs++[b]) (xss++[xs])∧(∀q x,H[q]?=some x->¬isB (nlV o xss) q->H'[q]?=some x)∧H'.length=H.length+1∧∀e:Hp,e.length<=n0->ext e H->ext e H':=by
 have hc:KI H (.own t 0 1)=some (1,[[.own b 0 xs.length]]):=by rw[O0 ht (by simp)]; rfl
 have hlen:=N.len
 have hzip:((bs++[b]).zip (xss++[xs])).map YP=(bs.zip xss).map YP++[[.own b 0 xs.length]]:=by
  rw[List.zip_append hlen,List.map_append]; rfl
 have hnd:(bs++[b]).Nodup:=List.nodup_append.2 ⟨N.nodup,by simp,fun a ha c hc e=>by simp at hc; subst hc; subst e; exact hbn ha⟩
 have hlos:∀q∈bs++[b],n0<=q:=fun q hq=>by
  rcases qC.1 hq with h|h
  .exact N.lo q h
  .simp at h; omega
 have hlts:∀q∈bs++[b],q<H.length:=fun q hq=>by
  rcases qC.1 hq with h|h
  .exact N.mem_lt h
  .simp at h; subst h; exact CJ hb
 have hrows:∀(H':Hp),(∀q x,H[q]?=some x->¬isB (nlV o xss) q->H'[q]?=some x)->∀(i:Nat) (h1:i<(bs++[b]).length) (h2:i<(xss++[xs]).length),H'[(bs++[b])[i]]?=some (.live 1 ((xss++[xs])[i].map encI)):=by
  intro H' hk i h1 h2
  have hnb:∀q,q∈bs++[b]->¬isB (nlV o xss) q:=fun q hq hi=>by
   cases xss with
   | nil=>exact hi
   | cons y ys =>
     have e:o=q:=hi;subst e;rcases qC.1 hq with h|h
     .exact N.out (by simp) h
     .simp at h; exact hbo (by simp) h.symm
  refine hk _ _ ?_ (hnb _ (jQ h1));rcases zO i bs.length with h|h
  .rw[List.getElem_append_left h,List.getElem_append_left (by omega)]
   exact N.row i h (by omega)
  .have:i=bs.length:=by simp at h1; omega
   subst this;rw[List.getElem_concat_length rfl,List.getElem_concat_length (by omega)];exact hb
 cases hx:xss with
 | nil =>
   subst hx;have hbs:bs=[]:=List.eq_nil_of_length_eq_zero (by simpa using hlen);subst hbs;refine⟨H++[.live 1 [[.own b 0 xs.length]]],?_,⟨by simp,fun _=>CX _ _,hrows _ fun q x hq _=>FZ hq,hnd,fun _ hq=>by have:=hlts _ hq; omega,hlos,fun _=>hlo'⟩,fun q x hq _=>FZ hq,by simp,fun e _ he=>he.app _⟩;exact VE (k':=0) AAO VY ADC ABB hc (by simp) (JM (by simp) (by omega))
 | cons y ys =>
   have hne:xss≠[]:=by rw[hx]; simp
   have htop:=N.top hne
   have hco:KI H (.own o 0 xss.length)=some (1,(bs.zip xss).map YP):=by
    rw[O0 htop (by simp; omega),qE,jX (by simp; omega)]
   have hap:=VD AAO VY ADC ABB hco hc (by simp) (JM (by simp; omega) (by omega))
   have hk:∀q x,H[q]?=some x->¬isB (nlV o xss) q->(H.set o .dead++[ABlk.live 1 ((bs.zip xss).map YP++[[.own b 0 xs.length]])])[q]?=some x:=fun q x hq hn=>by
    rw[PU o hne] at hn;have hn':¬o=q:=hn;refine FZ ?_;rw[zJ,if_neg hn']; exact hq
   rw[<-hx];refine⟨H.set o .dead++[.live 1 ((bs.zip xss).map YP++[[.own b 0 xs.length]])],?_,⟨by simp [hlen],fun _=>?_,hrows _ hk,hnd,fun _ hq=>by have:=hlts _ hq; omega,hlos,fun _=>hlo'⟩,hk,by simp,fun e he hex=>(hex.set (by have:=N.lo' hne; omega) _).app _⟩
   .rw[PU o hne,PU H.length (by simp),hap]
    simp;omega
   .rw[hzip]
    have e:H.length=(H.set o .dead).length:=by simp
    rw[e]; exact CX _ _
end
theorem AC7 (h:Hp)(b l:Nat):FO Tryz.prog true h 26 1 [(0,.own b 0 l)]=some (.own h.length 0 1,h++[ABlk.live 1 [[.own b 0 l]]]):=by kernel_rfl
theorem ZR {o q:Nat}{xss:List (List Int)}(h:isB (nlV o xss) q):xss≠[]∧q=o:=by
 cases xss with
 | nil=>exact h.elim
 | cons x xs=>exact⟨by simp,Eq.symm h⟩
theorem NL.frz {n0:Nat}{H:Hp}{o:Nat}{bs:List Nat}{xss:List (List Int)}(N:NL n0 H o bs xss)(n d:Nat)(hn:n<=n0):IX n H (d+3) (nlV o xss)=fzG 1 encL (xss.map fun xs=>⟨.any,xs⟩):=by
 cases hx:xss with
 | nil=>rfl
 | cons y ys =>
   have hne:xss≠[]:=by rw[hx]; simp
   rw[<-hx,PU o hne,AEJ n H (d+2) o 0 xss.length 1 _ (by have:=N.lo' hne; omega) (N.top hne)]
   have e:(((bs.zip xss).map YP).drop 0).take xss.length=(bs.zip xss).map YP:=by
    rw[qE,jX (by simp; omega)]
   have hlen:=N.len
   have e2:((bs.zip xss).map YP).map (·.map (IX n H (d+2)))=(xss.map fun xs=>(⟨.any,xs⟩:Is)).map encL:=by
    refine List.ext_getElem (by simp; omega) fun j h1 h2=>?_
    have hj1:j<bs.length:=by simp at h1; omega
    have hj2:j<xss.length:=by omega
    simp only[List.getElem_map,List.getElem_zip,YP,jD,jE,encL];rw[ZV (d:=d) AYZ (zY hn (N.lo _ (jQ hj1))) (N.row j hj1 hj2)]
   rw[e,e2,if_pos,AIJ (by simpa using hne)];refine⟨by simp; omega,?_⟩;rw[zI];intro row hr;obtain⟨x,_,rfl⟩:=zM.1 hr;rfl
def allB:List Int->List Int->List (List Nat)->Bool
 | p::ps,b::l,hits=>Rk.hasB ((hits.getD p.toNat []).map fun n:Nat=>(n:Int)) b&&allB ps l hits
 | _,_,_=>true
theorem AHF (ps l:List Int)(hits:List (List Nat))(k:Nat)(h1:k<ps.length)(h2:k<l.length):allB (ps.drop k) (l.drop k) hits=(Rk.hasB ((hits.getD ps[k].toNat []).map fun n:Nat=>(n:Int)) l[k]&&allB (ps.drop (k+1)) (l.drop (k+1)) hits):=by
 rw[zK h1,zK h2]; rfl
theorem AL8 (ps l:List Int)(hits:List (List Nat))(k:Nat)(h2:l.length<=k):allB (ps.drop k) (l.drop k) hits=true:=by
 rw[jW h2];cases ps.drop k<;>rfl
def MP (x:List Nat):List AV:=[.sl (nm x) 1 (x.map II)]
theorem APO (xs:List Nat):xs.map II=(xs.map fun n:Nat=>(n:Int)).map encI:=by rw[List.map_map]; rfl
section
variable (G:Nat->AV)
theorem has_ref (xs:List Int)(s:SM)(z:Int)(h:Hp)(hn:xs.length<=1048576):PCall (En G) 137 [.sl s 1 (xs.map encI),.int .i64 z] h (.bool (Rk.hasB xs z)):=by
 refine acN Tryz.func137 rfl ?_;show awp _ _ _ _ _ (EN _ [.tmp 4] _);simp -implicitDefEqProofs only[BC,BP,BA,A8,AY,BB,AO,AQ,AL,BD,AX,AC,AU,BH,BM,A7,jB,jC,enP];refine DK (fun n F H=>∃k,n+k=xs.length∧F 0=.sl s 1 (xs.map encI)∧F 1=.int .i64 z∧F 5=.int .i64 (k:Nat)∧H=h∧Rk.hasB xs z=Rk.hasB (xs.drop k) z) xs.length ⟨0,by simp,by simp -implicitDefEqProofs only[AA,BF,↓reduceIte,jA],by simp -implicitDefEqProofs only[AA,BF,BN,↓reduceIte,jA],by simp -implicitDefEqProofs only[AA,↓reduceIte]<;>rfl,rfl,rfl⟩ ?_;rintro n F H ⟨k,hk,f0,f1,f5,rfl,hin⟩;simp -implicitDefEqProofs only[BC,BA,BI,A8,AY,BB,AO,AQ,AL,BD,AX,AC,AA,AZ,BG,BR,DZ,AB,CZ,↓reduceIte,jA,jB,jC,enP,JD,f0,f5,jI];refine CV (fun hc=>?_) (fun hc=>?_)
 .have hk':k<xs.length:=by simpa using hc
  unfold Rk.hasB at hin;rw[AFE _ _ _ hk'] at hin;simp -implicitDefEqProofs only[BC,BP,BA,BO,BI,A8,AY,BB,AO,AQ,AL,BD,AX,AC,AA,AZ,BG,BQ,BR,CE,AB,D7,↓reduceIte,jA,jB,jC,enP,JF,f0,f1,f5,DU hk',DF ag3 hk',WP];cases hq:(xs[k]==z)
  .rw[hq,qG] at hin
   simp -implicitDefEqProofs only[BA,BO,A8,EJ,EQ,DR,AY,BB,AO,AQ,AL,BD,AX,AC,AA,AZ,AU,BH,BG,A7,BR,AB,C9,↓reduceIte,jA,jB,jC,enP,f5,wrap_succ (show k<9223372036854775807 by omega)];exact⟨n-1,by omega,k+1,by omega,by trivial,by trivial,by trivial,trivial,hin⟩
  .rw[hq,wC] at hin
   simp -implicitDefEqProofs only[BC,BA,BK,A8,CP,EE,FQ,CG,DI,AY,BB,AO,AQ,AL,BD,AX,AC,AA,AU,BM,A7,↓reduceIte,jB,jC];exact⟨by unfold Rk.hasB; rw[hin],trivial⟩
 .have hk':¬k<xs.length:=by simpa using hc
  rw[jW (by omega)] at hin;simp -implicitDefEqProofs only[BC,BA,BK,DJ,A8,EG,EU,ET,CG,AY,BB,AO,AQ,AL,BD,AX,AC,AA,AU,BM,A7,↓reduceIte,jB,jC];exact⟨by rw[hin]; rfl,trivial⟩
theorem AWK (c:Cr)(l:List Int)(s:SM)(hits:List (List Nat))(hb:Nat)(h:Hp)(gh:h[hb]?=some (.live 1 (hits.map MP)))(hp:∀p∈c.pts,0<=p∧p<(hits.length:Int))(hl:l.length=c.pts.length)(h64:∀x∈hits,x.length<=1048576)(hlen:l.length<=1048576) :
  PCall (En G) 170 [.agg (GG c),.sl s 1 (l.map encI),.own hb 0 hits.length] h (.bool (allB c.pts l hits)):=by
 refine ACalls.pure0 rfl ?_;refine acN Tryz.func170 rfl ?_;show awp _ _ _ _ _ (EN _ [.tmp 6] _);have gc:=CX h (ABlk.live 3 [GG c]);have gh1:=CU (x:=ABlk.live 3 [GG c]) gh;have hx:ext h (h++[ABlk.live 3 [GG c]]):=(ext.rfl' h).app _;simp -implicitDefEqProofs only[BC,BP,BA,A8,AY,BB,AO,AQ,AL,BD,AX,AC,AA,AZ,AU,BH,BM,BG,A7,FU,DZ,BX,AB,BF,BN,↓reduceIte,jA,jB,jC,enP,JD,bxC]
 generalize h++[ABlk.live 3 [GG c]]=H at gc gh1 hx|-
 have l1:ED Tryz.prog H 57 (.ptr h.length 0 1)=some (.sl c.pm 1 (c.pts.map encI)):=by rw[DX KP gc (row:=GG c) rfl,AB6]
 simp -implicitDefEqProofs only[jI];refine DK (fun n F H'=>∃k,n+k=l.length∧F 2=.own hb 0 hits.length∧F 3=.ptr h.length 0 0∧F 9=.sl s 1 (l.map encI)∧F 10=.int .i64 (l.length:Nat)∧F 11=.int .i64 (k:Nat)∧H'=H∧allB c.pts l hits=allB (c.pts.drop k) (l.drop k) hits) l.length ⟨0,by simp,by simp -implicitDefEqProofs only[AA,BF,BN,↓reduceIte,jA],by simp -implicitDefEqProofs only[AA,↓reduceIte,jA],by simp -implicitDefEqProofs only[AA,↓reduceIte,jA],by simp -implicitDefEqProofs only[AA,↓reduceIte,jA],by simp -implicitDefEqProofs only[AA,↓reduceIte]; rfl,rfl,rfl⟩ ?_;rintro n F H' ⟨k,hk,f2,f3,f9,f10,f11,rfl,hin⟩;simp -implicitDefEqProofs only[BC,BA,BI,A8,AY,BB,AO,AQ,AL,BD,AX,AC,AA,AZ,BR,AB,CZ,↓reduceIte,jB,jC,enP,f10,f11];refine CV (fun hc=>?_) (fun hc=>?_)
 .have hk':k<l.length:=by simpa using hc
  have hkp:k<c.pts.length:=by omega
  obtain⟨hp0,hp1⟩:=hp _ (jQ hkp);have hpn:c.pts[k].toNat<hits.length:=by omega
  have ih:=APR (kk:=.i64) (off:=0) gh1 hp0 hp1;rw[jG] at ih
  have lh:ED Tryz.prog H' 57 (.ptr hb c.pts[k].toNat 0)=some (.sl (nm hits[c.pts[k].toNat]) 1 ((hits[c.pts[k].toNat].map fun n:Nat=>(n:Int)).map encI)):=by
   rw[DX KP gh1 (row:=MP hits[c.pts[k].toNat]) (NF hpn),<-APO]; rfl
  rw[AHF _ _ _ _ hkp hk'] at hin;have hg:hits.getD c.pts[k].toNat []=hits[c.pts[k].toNat]:=by rw[zN,jS hpn]; rfl
  rw[hg] at hin;simp -implicitDefEqProofs only[BC,BP,BA,BO,A8,AY,BB,AO,AQ,AL,BD,AX,AC,AA,AZ,BZ,BG,A7,BQ,BJ,CE,CB,BU,AB,jD,jE,jF,↓reduceIte,jA,jG,jB,jC,enP,OI,JF,KO,f2,f3,f9,f11,DU hk',DF ag3 hk',WP,l1,DU hkp,DF ag3 hkp,ih,lh];refine(Rk.contains_rank G _ _ _ H' (by rw[jI]; exact h64 _ (jQ hpn))).use ?_;simp -implicitDefEqProofs only[BI,A8,AY,BB,AO,AQ,AL,BD,AX,AC,AA,AZ,IG,AB,FI,↓reduceIte,jB,jC];cases hq:Rk.hasB (hits[c.pts[k].toNat].map fun n:Nat=>(n:Int)) l[k]
  .rw[hq,Bool.false_and] at hin
   simp -implicitDefEqProofs only[BC,BA,BK,A8,CP,EE,FQ,CG,DI,AY,BB,AO,AQ,AL,BD,AX,AC,AA,AU,BM,A7,↓reduceIte,jB,jC];exact⟨by rw[hin],hx⟩
  .rw[hq,wB] at hin
   simp -implicitDefEqProofs only[BA,BO,A8,EJ,EQ,DR,AY,BB,AO,AQ,AL,BD,AX,AC,AA,AZ,AU,BH,BG,BR,AB,C9,↓reduceIte,jA,jB,jR,jC,enP,f11,wrap_succ (show k<9223372036854775807 by omega)];exact⟨n-1,by omega,k+1,by omega,by trivial,by trivial,by trivial,by trivial,by trivial,trivial,hin⟩
 .have hk':¬k<l.length:=by simpa using hc
  rw[AL8 _ _ _ _ (by omega)] at hin;simp -implicitDefEqProofs only[BC,BA,BK,DJ,A8,EG,EU,ET,CG,AY,BB,AO,AQ,AL,BD,AX,AC,AA,AU,BM,A7,↓reduceIte,jB,jC];exact⟨by rw[hin],hx⟩
theorem AUS (c:Cr)(l:List Int)(s:SM)(hits:List (List Nat))(hb:Nat)(h:Hp)(gh:h[hb]?=some (.live 1 (hits.map MP)))(hp:∀p∈c.pts,0<=p∧p<(hits.length:Int))(hl:l.length=c.pts.length)(h64:∀x∈hits,x.length<=1048576)(hlen:l.length<=1048576) :
  PCall (En G) 138 [.agg (GG c),.sl s 1 (l.map encI),.own hb 0 hits.length] h (.bool (allB c.pts l hits)):=by
 refine ACalls.pure0 rfl ?_;refine acN Tryz.func138 rfl ?_;show awp _ _ _ _ _ (EN _ [.tmp 6] _);have gc:=CX h (ABlk.live 3 [GG c]);have gh1:=CU (x:=ABlk.live 3 [GG c]) gh;have hx:ext h (h++[ABlk.live 3 [GG c]]):=(ext.rfl' h).app _;simp -implicitDefEqProofs only[BC,BP,BA,A8,AY,BB,AO,AQ,AL,BD,AX,AC,AZ,AU,BH,BM,A7,FU,BX,BF,jB,jC,enP,bxC]
 generalize h++[ABlk.live 3 [GG c]]=H at gc gh1 hx|-
 have l1:ED Tryz.prog H 57 (.ptr h.length 0 1)=some (.sl c.pm 1 (c.pts.map encI)):=by rw[DX KP gc (row:=GG c) rfl,AB6]
 refine DK (fun n F H'=>∃k,n+k=l.length∧F 1=.sl s 1 (l.map encI)∧F 2=.own hb 0 hits.length∧F 3=.ptr h.length 0 0∧F 7=.int .i64 (k:Nat)∧H'=H∧allB c.pts l hits=allB (c.pts.drop k) (l.drop k) hits) l.length ⟨0,by simp,by simp -implicitDefEqProofs only[AA,BF,BN,↓reduceIte,jA],by simp -implicitDefEqProofs only[AA,BF,BN,↓reduceIte,jA],by simp -implicitDefEqProofs only[AA,↓reduceIte,jA],by simp -implicitDefEqProofs only[AA,↓reduceIte]<;>rfl,rfl,rfl⟩ ?_;rintro n F H' ⟨k,hk,f1,f2,f3,f7,rfl,hin⟩;simp -implicitDefEqProofs only[BC,BA,BI,A8,AY,BB,AO,AQ,AL,BD,AX,AC,AA,AZ,BG,BR,DZ,AB,CZ,↓reduceIte,jA,jB,jC,enP,JD,f1,f7,jI];refine CV (fun hc=>?_) (fun hc=>?_)
 .have hk':k<l.length:=by simpa using hc
  have hkp:k<c.pts.length:=by omega
  obtain⟨hp0,hp1⟩:=hp _ (jQ hkp);have hpn:c.pts[k].toNat<hits.length:=by omega
  have ih:=APR (kk:=.i64) (off:=0) gh1 hp0 hp1;rw[jG] at ih
  have lh:ED Tryz.prog H' 57 (.ptr hb c.pts[k].toNat 0)=some (.sl (nm hits[c.pts[k].toNat]) 1 ((hits[c.pts[k].toNat].map fun n:Nat=>(n:Int)).map encI)):=by
   rw[DX KP gh1 (row:=MP hits[c.pts[k].toNat]) (NF hpn),<-APO]; rfl
  rw[AHF _ _ _ _ hkp hk'] at hin;have hg:hits.getD c.pts[k].toNat []=hits[c.pts[k].toNat]:=by rw[zN,jS hpn]; rfl
  rw[hg] at hin;simp -implicitDefEqProofs only[BC,BP,BO,A8];refine E8 (by kernel_rfl) ?_;simp -implicitDefEqProofs only[F6,EH,DT,EI,FT,FH,ADE,D9,EF,GU,F9,AO,AA,AZ,BZ,BQ,IG,BJ,CE,AB,jD,jE,jF,↓reduceIte,jA,jM,jG,jB,enP,OI,JF,KO,f1,f2,f3,f7,DU hk',DF ag3 hk',WP,l1,DU hkp,DF ag3 hkp,ih,lh];refine⟨_,has_ref G _ _ _ H' (by rw[jI]; exact h64 _ (jQ hpn)),?_⟩;cases hq:Rk.hasB (hits[c.pts[k].toNat].map fun n:Nat=>(n:Int)) l[k]
  .rw[hq,Bool.false_and] at hin
   simp -implicitDefEqProofs only[DT,FB,BC,BA,BK,BI,A8,CP,EE,FQ,CG,DI,AY,BB,AO,AQ,AL,BD,AX,AC,AA,AZ,AU,BM,A7,AB,FI,↓reduceIte,jB,jC];exact⟨by rw[hin],hx⟩
  .rw[hq,wB] at hin
   simp -implicitDefEqProofs only[DT,FB,BA,BO,BI,A8,EJ,EQ,DR,AY,BB,AO,AQ,AL,BD,AX,AC,AA,AZ,AU,BH,BG,A7,BR,AB,C9,FI,↓reduceIte,jA,jB,jR,jC,enP,f7,wrap_succ (show k<9223372036854775807 by omega)];exact⟨n-1,by omega,k+1,by omega,by trivial,by trivial,by trivial,by trivial,trivial,hin⟩
 .have hk':¬k<l.length:=by simpa using hc
  rw[AL8 _ _ _ _ (by omega)] at hin;simp -implicitDefEqProofs only[BC,BA,BK,DJ,A8,EG,EU,ET,CG,AY,BB,AO,AQ,AL,BD,AX,AC,AA,AU,BM,A7,↓reduceIte,jB,jC];exact⟨by rw[hin],hx⟩
theorem WB (n:Int)(b:Bool)(h:Hp)(h0:0<=n)(h1:n<=1099511627776):PCall (En G) 136 [.int .i64 n,.bool b] h (.int .i64 (if b=true then rz n else n)):=by
 refine acN Tryz.func136 rfl ?_;show awp _ _ _ _ _ (EN _ [.tmp 4] _);cases b
 .simp -implicitDefEqProofs only[BC,BA,BO,BK,BI,A8,CG,DR,AY,BB,BL,BV,CO,IU,AO,AQ,AL,BD,AX,AC,AA,EW,AZ,AU,BH,BM,BG,A7,CQ,DW,BF,BN,↓reduceIte,jA,jB,jC,enP,jY]
  exact⟨by simp,trivial⟩
 .simp -implicitDefEqProofs only[BC,BA,BI,A8,AY,BB,BL,BV,CO,GH,AO,AQ,AL,BD,AX,AC,AA,AZ,AU,BH,BM,BG,A7,CQ,DY,BR,AB,CZ,BF,BN,↓reduceIte,jA,jB,jC,enP]
  have hw:IntKind.i64.wrap (n+1)=n+1:=wrap_i64 (by omega) (by omega);cases hq:decide (n<1099511627776)
  .simp -implicitDefEqProofs only[BC,BA,BO,BK,A8,CG,DR,AY,BB,AO,AQ,AL,BD,AX,AC,AA,AZ,BG,A7,BF,↓reduceIte,jA,jB,jC]
   have:¬n<1099511627776:=by simpa using hq
   exact⟨by simp [rz]; omega,trivial⟩
  .simp -implicitDefEqProofs only[BC,BA,BK,A8,CP,CG,DI,AY,BB,AO,AQ,AL,BD,AX,AC,AA,AZ,AU,BH,BG,A7,BR,AB,C9,BF,↓reduceIte,jA,jB,jC,enP,hw]
   have:n<1099511627776:=by simpa using hq
   exact⟨by simp [rz]; omega,trivial⟩
end
def MB (x:List Int):List AV:=[.sl (nm x) 1 (x.map encI)]
def RowsL (rows:List (List AV))(ls:List (List Int)):Prop:=rows.length=ls.length∧∀(i:Nat) (r:List AV) (l:List Int),rows[i]?=some r->ls[i]?=some l->∃s k,r=[.sl s k (l.map encI)]∧(k=1∨l=[])
def TLs (H:Hp)(v:AV)(ls:List (List Int)):Prop:=ls=[]∨(∃s rows,v=.sl s 1 rows∧RowsL rows ls)∨∃q rows,v=.own q 0 ls.length∧H[q]?=some (.live 1 rows)∧RowsL rows ls
theorem TLs.ext {h H:Hp}{v:AV}{ls:List (List Int)}(t:TLs h v ls)(hx:Sm.ext h H):TLs H v ls:=by
 rcases t with h1|h2|⟨q,rows,rfl,hq,hr⟩
 .exact .inl h1
 .exact .inr (.inl h2)
 .exact .inr (.inr ⟨q,rows,rfl,FP hx hq,hr⟩)
theorem TLs.ld {H:Hp}{v:AV}{ls:List (List Int)}(t:TLs H v ls)(i:Nat)(hi:i<ls.length):∃a s k,KN 1 H v (.int .i64 (i:Nat))=some a∧ED Tryz.prog H 57 a=some (.sl s k (ls[i].map encI))∧(k=1∨ls[i]=[]):=by
 have hl:ls[i]?=some ls[i]:=jS hi;rcases t with rfl|⟨s,rows,rfl,hlen,hr⟩|⟨q,rows,rfl,hq,hlen,hr⟩
 .simp at hi
 .have hi':i<rows.length:=by omega
  obtain⟨s',k,e,hk⟩:=hr i rows[i] ls[i] (jS hi') hl;have h1:KN 1 H (.sl s 1 (rows.map id)) (.int .i64 (i:Nat))=some (.fptr 1 (rows.map id) i 0):=DU hi';have h2:ED Tryz.prog H 57 (.fptr 1 (rows.map id) i 0)=(id rows[i])[0]? := DF KP hi';rw[List.map_id] at h1 h2;exact⟨_,s',k,h1,by rw[h2,e]; rfl,hk⟩
 .have hi':i<rows.length:=by omega
  obtain⟨s',k,e,hk⟩:=hr i rows[i] ls[i] (jS hi') hl;have h1:=LZ (kk:=.i64) (off:=0) (len:=ls.length) hq hi;rw[jG] at h1;exact⟨_,s',k,h1,by rw[DX KP hq (jS hi'),e]; rfl,hk⟩
theorem RowsL.map (ls:List (List Int)):RowsL (ls.map MB) ls:=by
 refine⟨by simp,fun i r l h1 h2=>?_⟩;rw[zH,h2] at h1;cases h1;exact⟨_,1,rfl,.inl rfl⟩
theorem RowsL.encL (ls:List Is):RowsL (ls.map encL) (ls.map (·.l)):=by
 refine⟨by simp,fun i r l h1 h2=>?_⟩;rw[zH] at h1 h2
 cases hx:ls[i]? with
 | none=>rw[hx] at h1; cases h1
 | some x=>rw[hx] at h1 h2; cases h1; cases h2; exact⟨_,1,rfl,.inl rfl⟩
theorem RowsL.nils (n:Nat):RowsL (jZ n FY) (jZ n []):=by
 refine⟨by simp,fun i r l h1 h2=>?_⟩;rw[List.getElem?_replicate] at h1 h2;split at h1
 .rename_i hi
  rw[if_pos hi] at h2;cases h1; cases h2;exact⟨_,0,rfl,.inr rfl⟩
 .cases h1
def mix {α:Type}(ys xs:List α)(i:Nat):List α:=ys.take i++xs.drop i
theorem mix_len {α:Type}{ys xs:List α}{i:Nat}(h:ys.length=xs.length)(hi:i<=xs.length):(mix ys xs i).length=xs.length:=by simp [mix]; omega
theorem QY {α:Type}{ys xs:List α}(h:ys.length=xs.length):mix ys xs xs.length=ys:=by unfold mix; rw[List.drop_length,jF,jX (by omega)]
theorem mix_get {α:Type}{ys xs:List α}{i j:Nat}(h:ys.length=xs.length)(hij:i<=j)(hj:j<xs.length):(mix ys xs i)[j]?=some xs[j]:=by
 unfold mix;have hl:(ys.take i).length=i:=by simp; omega
 rw[List.getElem?_append_right (by omega),hl,qQ,show i+(j-i)=j by omega,jS hj]
theorem WC {α:Type}{ys xs:List α}{i j:Nat}(h:ys.length=xs.length)(hij:i<=j)(hj:j<xs.length)(hj':j<(mix ys xs i).length):(mix ys xs i)[j]=xs[j]:=by
 have:=mix_get h hij hj;rw[jS hj'] at this; exact Option.some.inj this
theorem mix_set {α:Type}{ys xs:List α}{i:Nat}(h:ys.length=xs.length)(hi:i<xs.length)(hy:i<ys.length):(mix ys xs i).set i ys[i]=mix ys xs (i+1):=by
 refine List.ext_getElem? fun j=>?_
 have hl:(ys.take i).length=i:=by simp; omega
 have hl':(ys.take (i+1)).length=i+1:=by simp; omega
 rw[zJ];unfold mix;rcases Nat.lt_trichotomy i j with h1|h1|h1
 .rw[if_neg (by omega),List.getElem?_append_right (by omega),List.getElem?_append_right (by omega),hl,hl',qQ,qQ]
  congr 1; omega
 .subst h1
  rw[if_pos rfl,if_pos (by simp; omega),qB (by omega),List.getElem?_take_of_lt (by omega),jS hy]
 .rw[if_neg (by omega),qB (by omega),qB (by omega),List.getElem?_take_of_lt h1,List.getElem?_take_of_lt (by omega)]
def OQ (m:Mo)(ls:List (List Int))(env:List Sg):List PtR:=(m.pts.zip ls).map fun p=>ptE p.1 p.2 env
theorem UG (m:Mo)(ls:List (List Int))(env:List Sg)(h:ls.length=m.pts.length):(OQ m ls env).length=m.pts.length:=by simp [OQ,h]
theorem ZM (m:Mo)(ls:List (List Int))(env:List Sg)(i:Nat)(h1:i<m.pts.length)(h2:i<ls.length)(h3:i<(OQ m ls env).length):(OQ m ls env)[i]=ptE m.pts[i] ls[i] env:=by simp [OQ]
def raiseAt (xs:List Int)(b:Nat):List Int:=xs.set b (rz (xs.getD b 0))
def rowP (hit:List Nat)(xs:List Int):List Int:=hit.foldl raiseAt xs
theorem TE (xs:List Int)(b:Nat):(raiseAt xs b).length=xs.length:=by simp [raiseAt]
theorem QE:∀(hit:List Nat) (xs:List Int),(rowP hit xs).length=xs.length
 | [],_=>rfl
 | b::hit,xs=>by
   have:=QE hit (raiseAt xs b);rw[TE] at this; exact this
theorem rowP_step (hit:List Nat)(xs:List Int)(j:Nat)(hj:j<hit.length):rowP (hit.take (j+1)) xs=raiseAt (rowP (hit.take j) xs) hit[j]:=by
 unfold rowP;rw[zL hj,List.foldl_append]; rfl
def Wn (xs:List Int):Prop:=∀x∈xs,0<=x∧x<=1099511627776
theorem AO1 {n:Int}(h:0<=n∧n<=1099511627776):0<=rz n∧rz n<=1099511627776:=by unfold rz; omega
theorem Wn.getD {xs:List Int}(h:Wn xs)(b:Nat):0<=xs.getD b 0∧xs.getD b 0<=1099511627776:=by
 rw[zN]
 cases hx:xs[b]? with
 | none=>decide
 | some x=>exact h x (List.mem_of_getElem? hx)
theorem Wn.raiseAt {xs:List Int}(h:Wn xs)(b:Nat):Wn (raiseAt xs b):=by
 intro x hx;rcases List.mem_or_eq_of_mem_set hx with h1|h1
 .exact h x h1
 .rw[h1]; exact AO1 (h.getD b)
theorem Wn.rowP:∀(hit:List Nat) {xs:List Int},Wn xs->Wn (rowP hit xs)
 | [],_,h=>h
 | b::hit,_,h=>Wn.rowP hit (h.raiseAt b)
def LX (rs:List PtR)(P:List (List Int)):List (List Int):=(rs.zip P).map fun p=>rowP p.1.hit p.2
def crK (m:Mo)(x:Cr)(hits:List (List Nat))(k:Nat):Bool:=Q3 m x (NG (szs m x.pts) k)&&allB x.pts (NG (szs m x.pts) k) hits
def rowC (m:Mo)(x:Cr)(hits:List (List Nat))(xs:List Int):List Int:=(List.range xs.length).map fun k=>if crK m x hits k=true then rz (xs.getD k 0) else xs.getD k 0
def NJ (m:Mo)(hits:List (List Nat))(C:List (List Int)):List (List Int):=(m.crs.zip C).map fun p=>rowC m p.1 hits p.2
theorem QG (m:Mo)(x:Cr)(hits:List (List Nat))(xs:List Int):(rowC m x hits xs).length=xs.length:=by simp [rowC]
theorem ADZ (m:Mo)(x:Cr)(hits:List (List Nat))(xs:List Int)(k:Nat)(hk:k<xs.length)(hk':k<(rowC m x hits xs).length):(rowC m x hits xs)[k]=if crK m x hits k=true then rz xs[k] else xs[k]:=by
 have e:xs.getD k 0=xs[k]:=by rw[zN,jS hk]; rfl
 simp only[rowC,List.getElem_map,List.getElem_range,e]
theorem Wn.rowC {m:Mo}{x:Cr}{hits:List (List Nat)}{xs:List Int}(h:Wn xs):Wn (rowC m x hits xs):=by
 intro y hy;unfold Xe.rowC at hy;obtain⟨k,_,rfl⟩:=zM.1 hy;split
 .exact AO1 (h.getD k)
 .exact h.getD k
theorem UC (rs:List PtR)(P:List (List Int))(h:rs.length=P.length):(LX rs P).length=P.length:=by simp [LX,h]
theorem UD (rs:List PtR)(P:List (List Int))(i:Nat)(h1:i<rs.length)(h2:i<P.length)(h3:i<(LX rs P).length):(LX rs P)[i]=rowP rs[i].hit P[i]:=by simp [LX]
theorem VZ (m:Mo)(hits:List (List Nat))(C:List (List Int))(h:C.length=m.crs.length):(NJ m hits C).length=C.length:=by simp [NJ,h]
theorem V3 (m:Mo)(hits:List (List Nat))(C:List (List Int))(i:Nat)(h1:i<m.crs.length)(h2:i<C.length)(h3:i<(NJ m hits C).length):(NJ m hits C)[i]=rowC m m.crs[i] hits C[i]:=by simp [NJ]
theorem AXK {rs:List PtR}{P:List (List Int)}(h:∀xs∈P,Wn xs):∀xs∈LX rs P,Wn xs:=by
 intro xs hx;obtain⟨p,hp,rfl⟩:=zM.1 hx;exact Wn.rowP _ (h _ (List.of_mem_zip hp).2)
theorem AXL {m:Mo}{hits:List (List Nat)}{C:List (List Int)}(h:∀xs∈C,Wn xs):∀xs∈NJ m hits C,Wn xs:=by
 intro xs hx;obtain⟨p,hp,rfl⟩:=zM.1 hx;exact Wn.rowC (h _ (List.of_mem_zip hp).2)
theorem APC (o:Nat)(P:List (List Int))(i:Nat)(ys:List Int):nlV o (P.set i ys)=nlV o P:=by
 cases P with
 | nil=>rfl
 | cons x xs =>
   cases i with
   | zero=>rfl
   | succ i=>simp [nlV]
def cvR (po:Nat)(P:List (List Int))(co:Nat)(C:List (List Int))(sam ill:Int):List AV:=[nlV po P,nlV co C,.int .i64 sam,.int .i64 ill]
structure CS (n0:Nat) (H:Hp) (cb tb po co:Nat) (pb cbs:List Nat) (P C:List (List Int)) (sam ill:Int) (v3:AV):Prop where
 gc:H[cb]?=some (.live 4 [cvR po P co C sam ill])
 gt:H[tb]?=some (.live 1 [[v3]])
 np:NL n0 H po pb P
 nc:NL n0 H co cbs C
 dis:∀b∈pb,b ∉ cbs
 xcp:cb ∉ pb
 xcc:cb ∉ cbs
 xtp:tb ∉ pb
 xtc:tb ∉ cbs
 xpo:P≠[]->po ∉ cbs∧cb≠po∧tb≠po
 xco:C≠[]->co ∉ pb∧cb≠co∧tb≠co
 ct:cb≠tb
section
variable {n0:Nat} {H:Hp} {cb tb po co:Nat} {pb cbs:List Nat} {P C:List (List Int)} {sam ill:Int} {v3:AV} (S:CS n0 H cb tb po co pb cbs P C sam ill v3)
include S
theorem CS.keep {H':Hp}(hk:∀b x,H[b]?=some x->b<H.length->H'[b]?=some x):CS n0 H' cb tb po co pb cbs P C sam ill v3 :=
 ⟨hk _ _ S.gc (CJ S.gc),hk _ _ S.gt (CJ S.gt),S.np.keep fun _ _ _ h=>hk _ _ h (CJ h),S.nc.keep fun _ _ _ h=>hk _ _ h (CJ h),S.dis,S.xcp,S.xcc,S.xtp,S.xtc,S.xpo,S.xco,S.ct⟩
theorem CS.app (x:Hp):CS n0 (H++x) cb tb po co pb cbs P C sam ill v3:=S.keep fun _ _ h _=>FZ h
theorem CS.ext {H':Hp}(hx:Sm.ext H H'):CS n0 H' cb tb po co pb cbs P C sam ill v3:=S.keep fun _ _ h _=>FP hx h
theorem CS.setP {i:Nat}(hi:i<pb.length)(ys:List Int)(hl:∀hx:i<P.length,ys.length=P[i].length):CS n0 (H.set pb[i] (.live 1 (ys.map encI))) cb tb po co pb cbs (P.set i ys) C sam ill v3:=by
 have hm:=jQ hi;have hne:∀b,b ∉ pb->pb[i]≠b:=fun b hb e=>hb (by rw[<-e]; exact hm)
 have hPne:P.set i ys≠[]->P≠[]:=fun h e=>h (by rw[e]; rfl)
 refine⟨?_,?_,S.np.set hi ys hl,S.nc.keep fun b x hb hx=>?_,S.dis,S.xcp,S.xcc,S.xtp,S.xtc,fun h=>S.xpo (hPne h),S.xco,S.ct⟩
 .rw[zX (hne _ S.xcp),S.gc]
  unfold cvR; rw[APC]
 .rw[zX (hne _ S.xtp)]; exact S.gt
 .rw[zX]
  .exact hx
  .rcases hb with⟨hC,rfl⟩|hb
   .exact hne _ (S.xco hC).1
   .exact fun e=>S.dis _ hm (by rw[e]; exact hb)
theorem CS.setC {i:Nat}(hi:i<cbs.length)(ys:List Int)(hl:∀hx:i<C.length,ys.length=C[i].length):CS n0 (H.set cbs[i] (.live 1 (ys.map encI))) cb tb po co pb cbs P (C.set i ys) sam ill v3:=by
 have hm:=jQ hi;have hne:∀b,b ∉ cbs->cbs[i]≠b:=fun b hb e=>hb (by rw[<-e]; exact hm)
 have hCne:C.set i ys≠[]->C≠[]:=fun h e=>h (by rw[e]; rfl)
 refine⟨?_,?_,S.np.keep fun b x hb hx=>?_,S.nc.set hi ys hl,S.dis,S.xcp,S.xcc,S.xtp,S.xtc,S.xpo,fun h=>S.xco (hCne h),S.ct⟩
 .rw[zX (hne _ S.xcc),S.gc]
  unfold cvR; rw[APC]
 .rw[zX (hne _ S.xtc)]; exact S.gt
 .rw[zX]
  .exact hx
  .rcases hb with⟨hP,rfl⟩|hb
   .exact hne _ (S.xpo hP).1
   .exact fun e=>S.dis _ hb (by rw[<-e]; exact hm)
theorem CS.setT (w:AV):CS n0 (H.set tb (.live 1 [[w]])) cb tb po co pb cbs P C sam ill w:=by
 refine⟨by rw[zX (Ne.symm S.ct)]; exact S.gc,EC S.gt,S.np.keep fun b x hb hx=>?_,S.nc.keep fun b x hb hx=>?_,S.dis,S.xcp,S.xcc,S.xtp,S.xtc,S.xpo,S.xco,S.ct⟩
 .rw[zX]
  .exact hx
  .rcases hb with⟨hP,rfl⟩|hb
   .exact(S.xpo hP).2.2
   .exact fun e=>S.xtp (by rw[e]; exact hb)
 .rw[zX]
  .exact hx
  .rcases hb with⟨hC,rfl⟩|hb
   .exact(S.xco hC).2.2
   .exact fun e=>S.xtc (by rw[e]; exact hb)
theorem CS.setN (sam' ill':Int):CS n0 (H.set cb (.live 4 [cvR po P co C sam' ill'])) cb tb po co pb cbs P C sam' ill' v3:=by
 refine⟨EC S.gc,by rw[zX S.ct]; exact S.gt,S.np.keep fun b x hb hx=>?_,S.nc.keep fun b x hb hx=>?_,S.dis,S.xcp,S.xcc,S.xtp,S.xtc,S.xpo,S.xco,S.ct⟩
 .rw[zX]
  .exact hx
  .rcases hb with⟨hP,rfl⟩|hb
   .exact(S.xpo hP).2.1
   .exact fun e=>S.xcp (by rw[e]; exact hb)
 .rw[zX]
  .exact hx
  .rcases hb with⟨hC,rfl⟩|hb
   .exact(S.xco hC).2.1
   .exact fun e=>S.xcc (by rw[e]; exact hb)
theorem CS.l0:ED Tryz.prog H 26 (.ptr cb 0 0)=some (nlV po P):=by rw[DX Q7 S.gc (row:=cvR po P co C sam ill) rfl]; rfl
theorem CS.l1:ED Tryz.prog H 26 (.ptr cb 0 1)=some (nlV co C):=by rw[DX Q7 S.gc (row:=cvR po P co C sam ill) rfl]; rfl
theorem CS.lt0:ED Tryz.prog H 26 (.ptr tb 0 0)=some v3:=by rw[DX Q7 S.gt (row:=[v3]) rfl]; rfl
end
theorem A21 (n x:Int):splice [.int .i64 n] 0 [.int .i64 x]=encI x:=rfl
theorem AGL (xs:List Int)(b:Nat):(xs.map encI).set b (encI (rz (xs.getD b 0)))=(raiseAt xs b).map encI:=by rw[raiseAt,List.map_set]
structure Fr1 (h H:Hp) (cb tb:Nat) (pb cbs:List Nat):Prop where
 le:h.length<=H.length
 get:∀b x,h[b]?=some x->b≠cb->b≠tb->b ∉ pb->b ∉ cbs->H[b]?=some x
theorem Fr1.of_ext {h H:Hp}{cb tb:Nat}{pb cbs:List Nat}(hx:ext h H):Fr1 h H cb tb pb cbs:=⟨hx.le,fun _ _ hb _ _ _ _=>FP hx hb⟩
theorem Fr1.trans {a b c:Hp}{cb tb:Nat}{pb cbs:List Nat}(h1:Fr1 a b cb tb pb cbs)(h2:Fr1 b c cb tb pb cbs):Fr1 a c cb tb pb cbs :=
 ⟨zY h1.le h2.le,fun q x hq e1 e2 e3 e4=>h2.get q x (h1.get q x hq e1 e2 e3 e4) e1 e2 e3 e4⟩
theorem Fr1.set {h H:Hp}{cb tb:Nat}{pb cbs:List Nat}(hf:Fr1 h H cb tb pb cbs){q:Nat}(hq:q=cb∨q=tb∨q∈pb∨q∈cbs)(y:ABlk):Fr1 h (H.set q y) cb tb pb cbs:=by
 refine⟨by simpa using hf.le,fun b x hb e1 e2 e3 e4=>?_⟩;rw[zX]
 .exact hf.get b x hb e1 e2 e3 e4
 .rintro rfl
  rcases hq with q|q|q|q
  .exact e1 q
  .exact e2 q
  .exact e3 q
  .exact e4 q
theorem A3J (h:Hp)(n:Nat)(hn:n<=1048576):I8 Tryz.prog true h 26 (.int .i64 (n:Int)) (.int .i64 (n:Int))=some (.own h.length 0 n,h++[ABlk.live 1 (jZ n FY)]):=by
 have hz:NY Tryz.prog 57=some FY:=by kernel_rfl
 have hr:room n 24:=JM (by omega) (by omega);unfold I8;simp only[AAO,VY,ABB,hz,Int.toNat_natCast];rw[if_pos ⟨by omega,Int.le_refl _,hr,rfl⟩];simp
theorem AH0 (p:Pt)(last:List Int)(l:List Sg):∀x∈(ptE p last l).hit,x<p.bins.length:=by
 intro x hx;unfold ptE at hx;split at hx
 .cases hx
 .split at hx
  .cases hx
  .split at hx
   .cases hx
   .split at hx
    .cases hx
    .exact AEH _ _ _ _ _ x hx
theorem AH1 (p:Pt)(last:List Int)(l:List Sg):(ptE p last l).hit.length<=p.bins.length:=by
 unfold ptE;split
 .simp
 .split
  .simp
  .split
   .simp
   .split
    .simp
    .exact XM _ _ _ _ _
theorem AZ4 (G:Nat->AV)(hG:GOk G)(p:Pt)(hp:PtOk p)(last:List Int)(lm:SM)(k:Nat)(hk:k=1∨last=[])(l:List Sg)(m:SM)(h:Hp)(hll:last.length<=1048576)(hl:l.length<=1099511627776) :
  PCall (En G) 43 [.agg (GL p),.sl lm k (last.map encI),.sl m 2 (l.map HY)] h (ptV (ptE p last l)):=by
 rcases hk with rfl|rfl
 .exact AFQ G hG p hp last lm l m h hll hl
 .exact PCall.args (AFQ G hG p hp [] lm l m h hll hl) (CvRL.cons (CvR.refl _) (CvRL.cons (CvR.sl (Cv.empty lm k 1)) (CvRL.refl _)))
def A2F (n0:Nat)(h:Hp)(cb tb po co:Nat)(pb cbs:List Nat)(m:Mo)(P C:List (List Int))(sam ill:Int)(ls:List (List Int))(env:List Sg)(v:AV)(H:Hp):Prop :=
 (∃e,e≠0∧JX PtR.err (OQ m ls env)=e∧v=.int .i64 e∧ext h H) ∨
 (JX PtR.err (OQ m ls env)=0∧v=.int .i64 0∧∃lb,h.length<=lb∧H[lb]?=some (.live 1 (((OQ m ls env).map PtR.next).map MB)) ∧
  CS n0 H cb tb po co pb cbs (LX (OQ m ls env) P) (NJ m ((OQ m ls env).map PtR.hit) C) (rz sam) (if(OQ m ls env).any PtR.bad=true then rz ill else ill) (.own lb 0 m.pts.length)∧Fr1 h H cb tb pb cbs)
structure Ph (n0:Nat) (h H:Hp) (cb tb po co:Nat) (pb cbs:List Nat) (m:Mo) (mb hb lb:Nat) (P C:List (List Int)) (sam ill:Int) (hits:List (List Nat)) (nexts:List (List Int)):Prop where
 gm:H[mb]?=some (.live 2 [D5 m])
 gh:H[hb]?=some (.live 1 (hits.map MP))
 gl:H[lb]?=some (.live 1 (nexts.map MB))
 cs:CS n0 H cb tb po co pb cbs P C sam ill (.own lb 0 m.pts.length)
 fr:Fr1 h H cb tb pb cbs
 wp:∀b∈pb,b<h.length
 wc:∀b∈cbs,b<h.length
 em:h.length<=mb
 eh:h.length<=hb
 el:h.length<=lb
section
variable {n0:Nat} {h H:Hp} {cb tb po co:Nat} {pb cbs:List Nat} {m:Mo} {mb hb lb:Nat} {P C:List (List Int)} {sam ill:Int} {hits:List (List Nat)} {nexts:List (List Int)} (S:Ph n0 h H cb tb po co pb cbs m mb hb lb P C sam ill hits nexts)
include S
theorem Ph.app (x:Hp):Ph n0 h (H++x) cb tb po co pb cbs m mb hb lb P C sam ill hits nexts :=
 ⟨FZ S.gm,FZ S.gh,FZ S.gl,S.cs.app x,⟨by have:=S.fr.le; simp; omega,fun b y hb e1 e2 e3 e4=>FZ (S.fr.get b y hb e1 e2 e3 e4)⟩,S.wp,S.wc,S.em,S.eh,S.el⟩
theorem Ph.setP {i:Nat}(hi:i<pb.length)(ys:List Int)(hl:∀hx:i<P.length,ys.length=P[i].length):Ph n0 h (H.set pb[i] (.live 1 (ys.map encI))) cb tb po co pb cbs m mb hb lb (P.set i ys) C sam ill hits nexts:=by
 have hm:=jQ hi;have hw:=S.wp _ hm;have a:=S.em; have b:=S.eh; have c:=S.el;exact⟨by rw[zX (by omega)]; exact S.gm,by rw[zX (by omega)]; exact S.gh,by rw[zX (by omega)]; exact S.gl,S.cs.setP hi ys hl,S.fr.set (.inr (.inr (.inl hm))) _,S.wp,S.wc,S.em,S.eh,S.el⟩
theorem Ph.setC {i:Nat}(hi:i<cbs.length)(ys:List Int)(hl:∀hx:i<C.length,ys.length=C[i].length):Ph n0 h (H.set cbs[i] (.live 1 (ys.map encI))) cb tb po co pb cbs m mb hb lb P (C.set i ys) sam ill hits nexts:=by
 have hm:=jQ hi;have hw:=S.wc _ hm;have a:=S.em; have b:=S.eh; have c:=S.el;exact⟨by rw[zX (by omega)]; exact S.gm,by rw[zX (by omega)]; exact S.gh,by rw[zX (by omega)]; exact S.gl,S.cs.setC hi ys hl,S.fr.set (.inr (.inr (.inr hm))) _,S.wp,S.wc,S.em,S.eh,S.el⟩
theorem Ph.raiseP (G:Nat->AV){i:Nat}(hi:i<P.length)(hip:i<pb.length)(b:Nat)(hb:b<P[i].length)(hw:Wn P[i]) :
  ED Tryz.prog H 26 (.ptr cb 0 0)=some (nlV po P)∧KN 1 H (nlV po P) (.int .i64 (i:Nat))=some (.ptr po i 0)∧ED Tryz.prog H 57 (.ptr po i 0)=some (.own pb[i] 0 P[i].length) ∧
   KN 1 H (.own pb[i] 0 P[i].length) (.int .i64 (b:Nat))=some (.ptr pb[i] b 0)∧ACalls (En G) 166 [.ptr pb[i] b 0] H fun _ H'=>H'=H.set pb[i] (.live 1 ((raiseAt P[i] b).map encI)):=by
 have N:=S.cs.np;have hrow:=N.row i hip hi;refine⟨S.cs.l0,N.ix hi,N.ld hi,by have:=LZ (kk:=.i64) (off:=0) (len:=P[i].length) hrow hb; rw[jG] at this; exact this,?_⟩;have hg:P[i].getD b 0=P[i][b]:=by rw[zN,jS hb]; rfl
 have hin:=hw.getD b;have hr:(P[i].map encI)[b]?=some [.int .i64 (P[i].getD b 0)]:=by rw[NF hb,hg]; rfl
 refine(U6 G hrow hr (n:=P[i].getD b 0) rfl (by omega) (by omega)).mono ?_;rintro _ H' rfl;rw[A21,AGL]
theorem Ph.raiseC (G:Nat->AV){i:Nat}(hi:i<C.length)(hip:i<cbs.length)(b:Nat)(hb:b<C[i].length)(hw:Wn C[i]) :
  ED Tryz.prog H 26 (.ptr cb 0 1)=some (nlV co C)∧KN 1 H (nlV co C) (.int .i64 (i:Nat))=some (.ptr co i 0)∧ED Tryz.prog H 57 (.ptr co i 0)=some (.own cbs[i] 0 C[i].length) ∧
   KN 1 H (.own cbs[i] 0 C[i].length) (.int .i64 (b:Nat))=some (.ptr cbs[i] b 0)∧ACalls (En G) 166 [.ptr cbs[i] b 0] H fun _ H'=>H'=H.set cbs[i] (.live 1 ((raiseAt C[i] b).map encI)):=by
 have N:=S.cs.nc;have hrow:=N.row i hip hi;refine⟨S.cs.l1,N.ix hi,N.ld hi,by have:=LZ (kk:=.i64) (off:=0) (len:=C[i].length) hrow hb; rw[jG] at this; exact this,?_⟩;have hg:C[i].getD b 0=C[i][b]:=by rw[zN,jS hb]; rfl
 have hin:=hw.getD b;have hr:(C[i].map encI)[b]?=some [.int .i64 (C[i].getD b 0)]:=by rw[NF hb,hg]; rfl
 refine(U6 G hrow hr (n:=C[i].getD b 0) rfl (by omega) (by omega)).mono ?_;rintro _ H' rfl;rw[A21,AGL]
end
structure ShapeOk (m:Mo) (P C:List (List Int)):Prop where
 pl:P.length=m.pts.length
 cl:C.length=m.crs.length
 pe:∀i (h1:i<P.length) (h2:i<m.pts.length),P[i].length=m.pts[i].bins.length
 ce:∀i (h1:i<C.length) (h2:i<m.crs.length),C[i].length=GK (szs m m.crs[i].pts)
 wp:∀xs∈P,Wn xs
 wc:∀xs∈C,Wn xs
set_option maxHeartbeats 8000000 in
theorem AJ7 (G:Nat->AV)(hG:GOk G)(hT:OB G)(m:Mo)(hm:MoOk m)(hg:Cov.Good m){n0:Nat}{h:Hp}{cb tb po co:Nat}{pb cbs:List Nat}{P C:List (List Int)}{sam ill:Int}{v3:AV}(S:CS n0 h cb tb po co pb cbs P C sam ill v3)(hS:ShapeOk m P C)
  (ls:List (List Int)) (hls:ls.length=m.pts.length) (hlen:∀l∈ls,l.length<=1048576) (T:TLs h v3 ls) (env:List Sg) (sm:SM) (henv:env.length<=1099511627776) (hsam:0<=sam∧sam<=1099511627776) (hill:0<=ill∧ill<=1099511627776) :
  ACalls (En G) 107 [.agg (D5 m),.ptr cb 0 0,.ptr tb 0 0,.sl sm 2 (env.map HY)] h (A2F n0 h cb tb po co pb cbs m P C sam ill ls env):=by
 have hnp:m.pts.length<=16:=by have:=hg.num; omega
 have hnc:m.crs.length<=16:=by have:=hg.num; omega
 have hrl:=UG m ls env hls;have hrg:=ZM m ls env;refine ND (H:=hint [] []) (enM G) Tryz.func107 rfl (by kernel_rfl) (by kernel_rfl) (jH (by kernel_rfl)) ?_;show awp _ _ _ _ _ (EN _ [.tmp 8] _);unfold A2F
 generalize OQ m ls env=rs at hrl hrg|-
 have gm:=CX h (ABlk.live 2 [D5 m]);have hx:=(ext.rfl' h).app [ABlk.live 2 [D5 m]];have hl0:(h++[ABlk.live 2 [D5 m]]).length=h.length+1:=by simp
 simp -implicitDefEqProofs only[DC,jJ,BC,BA,A8,AY,BB,AL,BD,AX,AC,AA,AZ,AU,BH,A7,FU,BQ,BJ,BX,AB,BF,↓reduceIte,jA,jK,jB,jC,enP,IP,D8,bxM]
 generalize h++[ABlk.live 2 [D5 m]]=H0 at gm hx hl0|-
 have lm0:∀H:Hp,H[h.length]?=some (.live 2 [D5 m])->ED Tryz.prog H 22 (.ptr h.length 0 0)=some (.sl m.pm 6 (m.pts.map GL)):=fun H g=>by rw[DX WV g (row:=D5 m) rfl,QJ]
 have lm1:∀H:Hp,H[h.length]?=some (.live 2 [D5 m])->ED Tryz.prog H 23 (.ptr h.length 0 1)=some (.sl m.cm 3 (m.crs.map GG)):=fun H g=>by rw[DX ABH g (row:=D5 m) rfl,UO]
 have gm1:=CU (x:=ABlk.live 1 (jZ m.pts.length FY)) gm;have gh1:=CX H0 (ABlk.live 1 (jZ m.pts.length FY));have hx1:=hx.app [ABlk.live 1 (jZ m.pts.length FY)];have hl1:(H0++[ABlk.live 1 (jZ m.pts.length FY)]).length=h.length+2:=by simp; omega
 simp -implicitDefEqProofs only[DC,jJ,BC,BA,A8,AY,BB,AL,BD,AX,AC,AA,AZ,A7,BQ,JH,BJ,DZ,BX,AB,↓reduceIte,jA,jK,jB,jC,enP,QZ,IP,D8,lm0 _ gm,jI,A3J _ _ (show m.pts.length<=1048576 by omega)]
 generalize H0++[ABlk.live 1 (jZ m.pts.length FY)]=H1 at gm1 gh1 hx1 hl1|-
 rw[hl0] at gh1|-
 have gm2:=CU (x:=ABlk.live 1 (jZ m.pts.length FY)) gm1;have gh2:=CU (x:=ABlk.live 1 (jZ m.pts.length FY)) gh1;have gl2:=CX H1 (ABlk.live 1 (jZ m.pts.length FY));have hx2:=hx1.app [ABlk.live 1 (jZ m.pts.length FY)];simp -implicitDefEqProofs only[DC,jJ,BC,BA,A8,AY,BB,AL,BD,AX,AC,AA,AZ,AU,BM,A7,BQ,JH,BJ,DZ,BX,AB,↓reduceIte,jA,jK,jB,jC,enP,QZ,IP,D8,lm0 _ gm1,jI,A3J _ _ (show m.pts.length<=1048576 by omega)]
 generalize H1++[ABlk.live 1 (jZ m.pts.length FY)]=H2 at gm2 gh2 gl2 hx2|-
 rw[hl1] at gl2|-
 have hhl:(rs.map PtR.hit).length=m.pts.length:=by simp [hrl]
 have hnl:(rs.map PtR.next).length=m.pts.length:=by simp [hrl]
 simp -implicitDefEqProofs only[DC,jJ,BP,A8,AY,BB,AL,BD,AX,AC,AA,AZ,AU,BH,BG,DZ,AB,↓reduceIte,jB,jC,enP,QZ,D8,lm0 _ gm2,jI]
 refine GM 0 (fun F H=>F 1=.ptr cb 0 0∧F 2=.ptr tb 0 0∧F 4=.ptr h.length 0 0∧F 9=.own (h.length+1) 0 m.pts.length∧F 10=.own (h.length+2) 0 m.pts.length∧F 11=.bool (rs.any PtR.bad)∧ext h H∧H[h.length]?=some (.live 2 [D5 m]) ∧
   H[h.length+1]?=some (.live 1 ((rs.map PtR.hit).map MP))∧H[h.length+2]?=some (.live 1 ((rs.map PtR.next).map MB))∧JX PtR.err rs=0)
  (fun F H=>∃e,F 8=.int .i64 e∧e≠0∧JX PtR.err rs=e∧ext h H) ?_ ?_ ?_
 .refine DK (fun n F H=>∃i,n+i=m.pts.length∧F 1=.ptr cb 0 0∧F 2=.ptr tb 0 0∧F 3=.sl sm 2 (env.map HY)∧F 4=.ptr h.length 0 0∧F 9=.own (h.length+1) 0 m.pts.length∧F 10=.own (h.length+2) 0 m.pts.length∧F 11=.bool ((rs.take i).any PtR.bad)∧F 36=.sl m.pm 6 (m.pts.map GL)∧F 37=.int .i64 (m.pts.length:Nat)∧F 38=.int .i64 (i:Nat)∧ext h H∧H[h.length]?=some (.live 2 [D5 m]) ∧
   H[h.length+1]?=some (.live 1 (mix ((rs.map PtR.hit).map MP) (jZ m.pts.length FY) i))∧H[h.length+2]?=some (.live 1 (mix ((rs.map PtR.next).map MB) (jZ m.pts.length FY) i))∧JX PtR.err rs=JX PtR.err (rs.drop i)) m.pts.length
   ⟨0,by simp,by simp -implicitDefEqProofs only[AA,BF,BN,↓reduceIte,jA],by simp -implicitDefEqProofs only[AA,BF,BN,↓reduceIte,jA],by simp -implicitDefEqProofs only[AA,BF,BN,↓reduceIte,jA],by simp -implicitDefEqProofs only[AA,↓reduceIte,jA],by simp -implicitDefEqProofs only[AA,↓reduceIte,jA],by simp -implicitDefEqProofs only[AA,↓reduceIte,jA],by simp -implicitDefEqProofs only[AA,↓reduceIte,jA]; rfl,by simp -implicitDefEqProofs only[AA,↓reduceIte,jA],by simp -implicitDefEqProofs only[AA,↓reduceIte,jA],by simp -implicitDefEqProofs only[AA,↓reduceIte]; rfl,hx2,gm2,gh2,gl2,rfl⟩ ?_
  rintro n F H ⟨i,hi,f1,f2,f3,f4,f9,f10,f11,f36,f37,f38,hxH,gmH,ghH,glH,hfst⟩;simp -implicitDefEqProofs only[DC,jJ,BC,BA,BI,A8,AY,BB,AL,BD,AX,AC,AA,AZ,BR,AB,CZ,↓reduceIte,jB,jC,enP,D8,f37,f38];refine CV (fun hc=>?_) (fun hc=>?_)
  .have hi':i<m.pts.length:=by simpa using hc
   have hir:i<rs.length:=by omega
   have hil:i<ls.length:=by omega
   have hp:=hm.pts _ (jQ hi');have hri:rs[i]=ptE m.pts[i] ls[i] env:=hrg i hi' hil hir;rw[OZ _ _ _ hir] at hfst;have hbad:(rs.take (i+1)).any PtR.bad=((rs.take i).any PtR.bad||rs[i].bad):=by rw[zL hir,List.any_append]; simp
   have hxa:=hxH.app [ABlk.live 6 [GL m.pts[i]]];have gma:=CU (x:=ABlk.live 6 [GL m.pts[i]]) gmH;have gha:=CU (x:=ABlk.live 6 [GL m.pts[i]]) ghH;have gla:=CU (x:=ABlk.live 6 [GL m.pts[i]]) glH;have gpa:=CX H (ABlk.live 6 [GL m.pts[i]]);simp -implicitDefEqProofs only[DC,jJ,BC,BP,BA,BO,A8,AY,BB,AL,BD,AX,AC,EM,AA,AZ,BG,A7,EX,BQ,D6,CE,BX,AB,CY,↓reduceIte,jA,jB,jC,enP,S9,D8,jP,f36,f38,DU hi',FM ACR ZH JR hi',ASG,AQQ _ _ [.str ⟨#[]⟩,.int .i64 0,.int .i64 0,.str ⟨#[]⟩,.sl .nil 0 [],.sl .nil 0 []] rfl]
   generalize H++[ABlk.live 6 [GL m.pts[i]]]=Ha at hxa gma gha gla gpa|-
   have Sa:=S.ext hxa;obtain⟨a,s',k',hix,hld,hk'⟩:=(T.ext hxa).ld i hil;have hcall:=AZ4 G hG m.pts[i] hp ls[i] s' k' hk' env sm Ha (hlen _ (jQ hil)) henv;rw[<-hri] at hcall;unfold ptV at hcall;refine E8 (by kernel_rfl) ?_;simp -implicitDefEqProofs only[F6,DC,jJ,EH,DT,EI,FT,FH,D9,EF,OU,GU,F9,AA,AZ,BZ,BQ,BJ,CE,FK,AB,jD,jE,jF,↓reduceIte,jA,jM,jK,jB,enP,OI,SG,IA,PO,JC,f2,f3,ldP gpa,Sa.lt0,hix,hld];refine⟨_,hcall,?_⟩;simp -implicitDefEqProofs only[F6,zB,zG,DC,jJ,EH,DT,FB,EI,JW,OU,BC,BA,BI,A8,AY,BB,AL,BD,AX,AC,AA,AZ,AU,BH,BG,BR,FK,GN,AB,EK,↓reduceIte,jA,jM,jB,jC,enP,D8];cases he:(rs[i].err==0)
   .have hne:rs[i].err≠0:=by simpa using he
    rw[if_neg hne] at hfst;simp -implicitDefEqProofs only[DC,jJ,BC,BA,BK,A8,CP,EE,NM,FQ,DI,AY,BB,AL,BD,AX,AC,AA,AZ,BG,A7,↓reduceIte,jA,jB,jC,D8,bne,he];exact⟨rs[i].err,by trivial,hne,hfst,hxa⟩
   .have hz:rs[i].err=0:=by simpa using he
    rw[if_pos hz] at hfst;have hm1:=mix_get (ys:=(rs.map PtR.hit).map MP) (xs:=jZ m.pts.length FY) (i:=i) (j:=i) (by simp [hrl]) (jL _) (by simp; omega);have hm2:=mix_get (ys:=(rs.map PtR.next).map MB) (xs:=jZ m.pts.length FY) (i:=i) (j:=i) (by simp [hrl]) (jL _) (by simp; omega);rw[List.getElem_replicate] at hm1 hm2;have hs1:=mix_set (ys:=(rs.map PtR.hit).map MP) (xs:=jZ m.pts.length FY) (i:=i) (by simp [hrl]) (by simp; omega) (by simp; omega);have hs2:=mix_set (ys:=(rs.map PtR.next).map MB) (xs:=jZ m.pts.length FY) (i:=i) (by simp [hrl]) (by simp; omega) (by simp; omega);rw[List.getElem_map,List.getElem_map] at hs1 hs2;have hi1:=LZ (kk:=.i64) (off:=0) (len:=m.pts.length) gha hi';rw[jG] at hi1
    have hst1:FX Tryz.prog Ha 57 (.ptr (h.length+1) i 0) (.sl (nm rs[i].hit) 1 (rs[i].hit.map II))=some (Ha.set (h.length+1) (.live 1 (mix ((rs.map PtR.hit).map MP) (jZ m.pts.length FY) (i+1)))):=by
     rw[KY (AWT _ _ _) VY gha hm1 (by simp [FY]),<-hs1]; rfl
    have gmb:(Ha.set (h.length+1) (.live 1 (mix ((rs.map PtR.hit).map MP) (jZ m.pts.length FY) (i+1))))[h.length]?=_:=CW gma (by omega);have glb:(Ha.set (h.length+1) (.live 1 (mix ((rs.map PtR.hit).map MP) (jZ m.pts.length FY) (i+1))))[h.length+2]?=_:=CW gla (by omega);have ghb:(Ha.set (h.length+1) (.live 1 (mix ((rs.map PtR.hit).map MP) (jZ m.pts.length FY) (i+1))))[h.length+1]?=_:=EC gha;have hxb:=hxa.set (b:=h.length+1) (by omega) (.live 1 (mix ((rs.map PtR.hit).map MP) (jZ m.pts.length FY) (i+1)));have hi1l:=LZ (kk:=.i64) (off:=0) (len:=m.pts.length) gla hi';rw[jG] at hi1l;simp -implicitDefEqProofs only[DC,jJ,BC,BA,BO,A8,DR,AY,AL,BD,AX,AC,EM,AA,AZ,BG,D6,CE,AB,CY,↓reduceIte,jA,jB,jR,jC,enP,OI,D8,jP,bne,he,f9,f10,hi1,hst1]
    generalize Ha.set (h.length+1) (.live 1 (mix ((rs.map PtR.hit).map MP) (jZ m.pts.length FY) (i+1)))=Hb at gmb glb ghb hxb|-
    have hi2:=LZ (kk:=.i64) (off:=0) (len:=m.pts.length) glb hi';rw[jG] at hi2
    have hst2:FX Tryz.prog Hb 57 (.ptr (h.length+2) i 0) (.sl (nm rs[i].next) 1 (rs[i].next.map encI))=some (Hb.set (h.length+2) (.live 1 (mix ((rs.map PtR.next).map MB) (jZ m.pts.length FY) (i+1)))):=by
     rw[KY (AWT _ _ _) VY glb hm2 (by simp [FY]),<-hs2]; rfl
    simp -implicitDefEqProofs only[DC,jJ,BA,A8,AY,BB,BL,BV,CO,AL,BD,AX,AC,EM,AA,AZ,BG,D6,AB,CY,↓reduceIte,jA,jB,jC,enP,D8,jP,f10,hi2,hst2];have gmc:(Hb.set (h.length+2) (.live 1 (mix ((rs.map PtR.next).map MB) (jZ m.pts.length FY) (i+1))))[h.length]?=_:=CW gmb (by omega);have ghc:(Hb.set (h.length+2) (.live 1 (mix ((rs.map PtR.next).map MB) (jZ m.pts.length FY) (i+1))))[h.length+1]?=_:=CW ghb (by omega);have glc:(Hb.set (h.length+2) (.live 1 (mix ((rs.map PtR.next).map MB) (jZ m.pts.length FY) (i+1))))[h.length+2]?=_:=EC glb;have hxc:=hxb.set (b:=h.length+2) (by omega) (.live 1 (mix ((rs.map PtR.next).map MB) (jZ m.pts.length FY) (i+1)))
    generalize Hb.set (h.length+2) (.live 1 (mix ((rs.map PtR.next).map MB) (jZ m.pts.length FY) (i+1)))=Hc at gmc ghc glc hxc|-
    simp -implicitDefEqProofs only[f11];cases hq:(rs.take i).any PtR.bad
    .rw[hq,qG] at hbad
     simp -implicitDefEqProofs only[DC,jJ,BA,A8,EJ,EQ,AY,BB,ES,AL,BD,AX,AC,AA,AZ,AU,BH,BM,BG,A7,CQ,DW,BR,AB,C9,↓reduceIte,jA,jB,jC,enP,D8,f38,wrap_succ (show i<9223372036854775807 by omega)];exact⟨n-1,by omega,i+1,by omega,by trivial,by trivial,by trivial,by trivial,by trivial,by trivial,by first|rw[hbad]|(rw[hbad]; rfl),by trivial,by trivial,by trivial,hxc,gmc,ghc,glc,hfst⟩
    .rw[hq,wC] at hbad
     simp -implicitDefEqProofs only[DC,jJ,BA,A8,EJ,EQ,AY,BB,F7,AL,BD,AX,AC,AA,EW,AZ,AU,BH,BM,BG,A7,CQ,DY,BR,AB,C9,↓reduceIte,jA,jB,jC,enP,D8,f38,wrap_succ (show i<9223372036854775807 by omega)];exact⟨n-1,by omega,i+1,by omega,by trivial,by trivial,by trivial,by trivial,by trivial,by trivial,by first|rw[hbad]|(rw[hbad]; rfl),by trivial,by trivial,by trivial,hxc,gmc,ghc,glc,hfst⟩
  .have hi':i=m.pts.length:=by
    have:¬i<m.pts.length:=by simpa using hc
    omega
   subst hi';have e1:=QY (ys:=(rs.map PtR.hit).map MP) (xs:=jZ m.pts.length FY) (by simp [hrl]);have e2:=QY (ys:=(rs.map PtR.next).map MB) (xs:=jZ m.pts.length FY) (by simp [hrl]);rw[List.length_replicate] at e1 e2;rw[e1] at ghH;rw[e2] at glH;rw[jX (by omega)] at f11;rw[jW (by omega)] at hfst;simp -implicitDefEqProofs only[DJ,EG,KC,ET,AA,↓reduceIte,jA];exact⟨f1,f2,f4,f9,f10,f11,hxH,gmH,ghH,glH,hfst⟩
 .rintro F H ⟨f1,f2,f4,f9,f10,f11,hxH,gmH,ghH,glH,hfst⟩
  have S1:=S.ext hxH;have hwp:∀b∈pb,b<h.length:=fun b hb=>S.np.mem_lt hb
  have hwc:∀b∈cbs,b<h.length:=fun b hb=>S.nc.mem_lt hb
  have htl:=CJ S.gt;have hcl:=CJ S.gc;have hstT:FX Tryz.prog H 26 (.ptr tb 0 0) (.own (h.length+2) 0 m.pts.length)=some (H.set tb (.live 1 [[.own (h.length+2) 0 m.pts.length]])):=O6 (row:=[v3]) (Y9 _ _ _) AMJ S1.gt (by simp);have S2:=S1.setT (.own (h.length+2) 0 m.pts.length);have fr2:Fr1 h (H.set tb (.live 1 [[.own (h.length+2) 0 m.pts.length]])) cb tb pb cbs:=(Fr1.of_ext hxH).set (.inr (.inl rfl)) _;have gm2:(H.set tb (.live 1 [[.own (h.length+2) 0 m.pts.length]]))[h.length]?=_:=CW gmH (by omega);have gh2:(H.set tb (.live 1 [[.own (h.length+2) 0 m.pts.length]]))[h.length+1]?=_:=CW ghH (by omega);have gl2:(H.set tb (.live 1 [[.own (h.length+2) 0 m.pts.length]]))[h.length+2]?=_:=CW glH (by omega);simp -implicitDefEqProofs only[DC,jJ,BC,BA,A8,EU,AY,BB,AL,BD,AX,AC,EM,AA,AZ,BG,D6,BJ,AB,CY,↓reduceIte,jA,jK,jB,jC,enP,SG,D8,jP,IA,JC,f2,f10,hstT]
  generalize H.set tb (.live 1 [[.own (h.length+2) 0 m.pts.length]])=H3 at S2 fr2 gm2 gh2 gl2|-
  simp -implicitDefEqProofs only[DC,jJ,AY,AL,BD,AX,AC,AA,AZ,BZ,BJ,CB,BU,AB,jD,jE,jF,↓reduceIte,jG,jB,jC,enP,U9,D8,JC,f1];refine(U6 G S2.gc (i:=0) (j:=2) (n:=sam) rfl rfl (by omega) (by omega)).mono ?_;intro _ H4 e4;have e4':H4=H3.set cb (.live 4 [cvR po P co C (rz sam) ill]):=e4;have S4:=S2.setN (rz sam) ill;have fr4:=fr2.set (.inl rfl) (.live 4 [cvR po P co C (rz sam) ill]);have gm4:(H3.set cb (.live 4 [cvR po P co C (rz sam) ill]))[h.length]?=_:=CW gm2 (by omega);have gh4:(H3.set cb (.live 4 [cvR po P co C (rz sam) ill]))[h.length+1]?=_:=CW gh2 (by omega);have gl4:(H3.set cb (.live 4 [cvR po P co C (rz sam) ill]))[h.length+2]?=_:=CW gl2 (by omega);rw[<-e4'] at S4 fr4 gm4 gh4 gl4;clear e4 e4';have P4:Ph n0 h H4 cb tb po co pb cbs m h.length (h.length+1) (h.length+2) P C (rz sam) ill (rs.map PtR.hit) (rs.map PtR.next):=⟨gm4,gh4,gl4,S4,fr4,hwp,hwc,jL _,by omega,by omega⟩;simp -implicitDefEqProofs only[DC,jJ,BC,BA,BI,A8,AY,BB,AL,BD,AX,AC,AA,AZ,BG,↓reduceIte,jA,jB,jC,D8,f11];refine WR (fun F H=>F 1=.ptr cb 0 0∧F 4=.ptr h.length 0 0∧F 9=.own (h.length+1) 0 m.pts.length∧Ph n0 h H cb tb po co pb cbs m h.length (h.length+1) (h.length+2) P C (rz sam) (if rs.any PtR.bad=true then rz ill else ill) (rs.map PtR.hit) (rs.map PtR.next)) (fun _ _=>False) ?_ ?_ ?_ (fun _ _ hh=>hh.elim)
  .intro hb
   simp -implicitDefEqProofs only[DC,jJ,BA,AY,AL,BD,AX,AC,AA,AZ,BZ,BG,BJ,CB,BU,AB,jD,jE,jF,↓reduceIte,jA,jG,jB,jC,enP,WN,D8,IA,JC,f1];refine(U6 G S4.gc (i:=0) (j:=3) (n:=ill) rfl rfl (by omega) (by omega)).mono ?_;intro _ H5 e5;have e5':H5=H4.set cb (.live 4 [cvR po P co C (rz sam) (rz ill)]):=e5;have S5:=S4.setN (rz sam) (rz ill);have fr5:=fr4.set (.inl rfl) (.live 4 [cvR po P co C (rz sam) (rz ill)]);have gm5:(H4.set cb (.live 4 [cvR po P co C (rz sam) (rz ill)]))[h.length]?=_:=CW gm4 (by omega);have gh5:(H4.set cb (.live 4 [cvR po P co C (rz sam) (rz ill)]))[h.length+1]?=_:=CW gh4 (by omega);have gl5:(H4.set cb (.live 4 [cvR po P co C (rz sam) (rz ill)]))[h.length+2]?=_:=CW gl4 (by omega);rw[<-e5'] at S5 fr5 gm5 gh5 gl5;rw[if_pos hb];simp -implicitDefEqProofs only[VH,BB,AC,AA,↓reduceIte,jA,f4,f9];exact⟨by trivial,by trivial,by trivial,gm5,gh5,gl5,S5,fr5,hwp,hwc,jL _,by omega,by omega⟩
  .intro hb
   rw[if_neg (by rw[hb]; decide)];simp -implicitDefEqProofs only[BO,VH,AA,↓reduceIte,jA];exact⟨f1,f4,f9,P4⟩
  clear P4 S4 fr4 gm4 gh4 gl4 S2 fr2 gm2 gh2 gl2 hstT S1 f1 f2 f4 f9 f10 f11;rintro F H ⟨f1,f4,f9,PS⟩
  generalize (if rs.any PtR.bad=true then rz ill else ill)=ill' at PS|-
  have hbl:=S.np.len;have hcl2:=S.nc.len;have hpl:=hS.pl;have hcll:=hS.cl;have hsl:=UC rs P (by omega);have hscl:=VZ m (rs.map PtR.hit) C hcll
  have h64:∀x∈rs.map PtR.hit,x.length<=1048576:=by
   intro x hx;obtain⟨r,hr,rfl⟩:=zM.1 hx;obtain⟨i,hi,rfl⟩:=qK hr;rw[hrg i (by omega) (by omega) hi];have h1:=AH1 m.pts[i] ls[i] env;have h2:=(hg.full _ (jQ (show i<m.pts.length by omega))).2;omega
  simp -implicitDefEqProofs only[DC,jJ,BC,BP,BA,A8,AY,BB,AL,BD,AX,AC,AA,AZ,AU,BH,BG,DZ,AB,↓reduceIte,jB,jC,enP,YU,D8,f9];refine GM 2 (fun F H=>F 1=.ptr cb 0 0∧F 4=.ptr h.length 0 0∧F 9=.own (h.length+1) 0 m.pts.length∧Ph n0 h H cb tb po co pb cbs m h.length (h.length+1) (h.length+2) (LX rs P) C (rz sam) ill' (rs.map PtR.hit) (rs.map PtR.next)) (fun _ _=>False) ?_ ?_ (fun _ _ hh=>hh.elim)
  .refine DK (fun n F H=>∃i,n+i=m.pts.length∧F 1=.ptr cb 0 0∧F 4=.ptr h.length 0 0∧F 9=.own (h.length+1) 0 m.pts.length∧F 87=.own (h.length+1) 0 m.pts.length∧F 88=.int .i64 (m.pts.length:Nat)∧F 89=.int .i64 (i:Nat) ∧
    Ph n0 h H cb tb po co pb cbs m h.length (h.length+1) (h.length+2) (mix (LX rs P) P i) C (rz sam) ill' (rs.map PtR.hit) (rs.map PtR.next)) m.pts.length ⟨0,by simp,by simp -implicitDefEqProofs only[AA,↓reduceIte,jA,f1],by simp -implicitDefEqProofs only[AA,↓reduceIte,jA,f4],by simp -implicitDefEqProofs only[AA,↓reduceIte,jA,f9],by simp -implicitDefEqProofs only[AA,↓reduceIte,jA],by simp -implicitDefEqProofs only[AA,↓reduceIte,jA],by simp -implicitDefEqProofs only[AA,↓reduceIte]<;>rfl,PS⟩ ?_
   rintro n F H ⟨i,hi,f1,f4,f9,f87,f88,f89,PS⟩;simp -implicitDefEqProofs only[DC,jJ,BC,BA,BI,A8,AY,BB,AL,BD,AX,AC,AA,AZ,BR,AB,CZ,↓reduceIte,jB,jC,enP,D8,f88,f89];refine CV (fun hc=>?_) (fun hc=>?_)
   .have hi':i<m.pts.length:=by simpa using hc
    have hir:i<rs.length:=by omega
    have hiP:i<P.length:=by omega
    have hipb:i<pb.length:=by omega
    have hmx:=mix_len (ys:=LX rs P) (xs:=P) (i:=i) hsl (by omega);have hmi:=WC (ys:=LX rs P) (xs:=P) (i:=i) (j:=i) hsl (jL _) hiP (by omega);have hsg:=UD rs P i hir hiP (by omega);have hms:=mix_set (ys:=LX rs P) (xs:=P) (i:=i) hsl hiP (by omega);have hri:rs[i]=ptE m.pts[i] ls[i] env:=hrg i hi' (by omega) hir;have hpe:=hS.pe i hiP hi';have hlt:∀x∈rs[i].hit,x<P[i].length:=fun x hx=>by rw[hri] at hx; rw[hpe]; exact AH0 _ _ _ x hx
    have hll:rs[i].hit.length<=1048576:=h64 _ (zM.2 ⟨rs[i],jQ hir,rfl⟩);have hwi:Wn P[i]:=hS.wp _ (jQ hiP);have hi1:=LZ (kk:=.i64) (off:=0) (len:=m.pts.length) PS.gh hi';rw[jG] at hi1
    have lh:ED Tryz.prog H 57 (.ptr (h.length+1) i 0)=some (.sl (nm rs[i].hit) 1 (rs[i].hit.map II)):=by
     rw[DX KP PS.gh (row:=MP rs[i].hit) (by rw[NF (by simpa using hir)]; simp)]; rfl
    generalize hht:rs[i].hit=hit at hlt hll lh hsg;obtain⟨M,hmm,hmx,hmi,hms⟩:∃M,mix (LX rs P) P i=M∧M.length=P.length∧(∀h:i<M.length,M[i]=P[i])∧M.set i (LX rs P)[i]=mix (LX rs P) P (i+1):=⟨_,rfl,hmx,fun _=>hmi,hms⟩;rw[hmm] at PS;simp -implicitDefEqProofs only[DC,jJ,BC,BP,BA,BO,A8,AY,BB,AL,BD,AX,AC,AA,AZ,AU,BH,BG,A7,BQ,CE,DZ,AB,↓reduceIte,jA,jB,jC,enP,OI,JD,D8,f87,f89,hi1,lh,jI];refine GM 4 (fun F H=>F 1=.ptr cb 0 0∧F 4=.ptr h.length 0 0∧F 9=.own (h.length+1) 0 m.pts.length∧F 87=.own (h.length+1) 0 m.pts.length∧F 88=.int .i64 (m.pts.length:Nat)∧F 89=.int .i64 (i:Nat)∧Ph n0 h H cb tb po co pb cbs m h.length (h.length+1) (h.length+2) (M.set i (rowP hit P[i])) C (rz sam) ill' (rs.map PtR.hit) (rs.map PtR.next)) (fun _ _=>False) ?_ ?_ (fun _ _ hh=>hh.elim)
    .have e0:M.set i (rowP (hit.take 0) P[i])=M:=by
      show M.set i P[i]=M;rw[<-hmi (by omega),List.set_getElem_self]
     refine DK (fun n F H=>∃j,n+j=hit.length∧F 1=.ptr cb 0 0∧F 4=.ptr h.length 0 0∧F 9=.own (h.length+1) 0 m.pts.length∧F 87=.own (h.length+1) 0 m.pts.length∧F 88=.int .i64 (m.pts.length:Nat)∧F 89=.int .i64 (i:Nat)∧F 18=.int .i64 (i:Nat)∧F 94=.sl (nm hit) 1 (hit.map II)∧F 95=.int .i64 (hit.length:Nat)∧F 96=.int .i64 (j:Nat) ∧
      Ph n0 h H cb tb po co pb cbs m h.length (h.length+1) (h.length+2) (M.set i (rowP (hit.take j) P[i])) C (rz sam) ill' (rs.map PtR.hit) (rs.map PtR.next)) hit.length
      ⟨0,by simp,by simp -implicitDefEqProofs only[AA,↓reduceIte,jA,f1],by simp -implicitDefEqProofs only[AA,↓reduceIte,jA,f4],by simp -implicitDefEqProofs only[AA,↓reduceIte,jA,f9],by simp -implicitDefEqProofs only[AA,↓reduceIte,jA,f87],by simp -implicitDefEqProofs only[AA,↓reduceIte,jA,f88],by simp -implicitDefEqProofs only[AA,↓reduceIte,jA,f89],by simp -implicitDefEqProofs only[AA,↓reduceIte,jA]<;>rfl,by simp -implicitDefEqProofs only[AA,↓reduceIte,jA]<;>rfl,by simp -implicitDefEqProofs only[AA,↓reduceIte,jA]<;>rfl,by simp -implicitDefEqProofs only[AA,↓reduceIte]<;>rfl,by rw[e0]; exact PS⟩ ?_
     clear PS lh hi1;rintro n' F H ⟨j,hj,f1,f4,f9,f87,f88,f89,f18,f94,f95,f96,PS⟩;simp -implicitDefEqProofs only[DC,jJ,BC,BA,BI,A8,AY,BB,AL,BD,AX,AC,AA,AZ,BR,AB,CZ,↓reduceIte,jB,jC,enP,D8,f95,f96];refine CV (fun hc=>?_) (fun hc=>?_)
     .have hj':j<hit.length:=by simpa using hc
      have hb:=hlt _ (jQ hj');have hrl2:=QE (hit.take j) P[i];have hiM:i<(M.set i (rowP (hit.take j) P[i])).length:=by rw[qI]; omega
      have hcur:(M.set i (rowP (hit.take j) P[i]))[i]=rowP (hit.take j) P[i]:=List.getElem_set_self _;have hR:=PS.raiseP G hiM hipb hit[j] (by rw[hcur,hrl2]; exact hb) (by rw[hcur]; exact Wn.rowP _ hwi);rw[hcur] at hR;obtain⟨r1,r2,r3,r4,r5⟩:=hR;have PS2:=PS.setP hipb (raiseAt (rowP (hit.take j) P[i]) hit[j]) (fun _=>by rw[hcur,TE]);rw[List.set_set,<-rowP_step _ _ _ hj'] at PS2;rw[<-rowP_step _ _ _ hj'] at r5;simp -implicitDefEqProofs only[DC,jJ,BC,BP,BA,BO,A8,AY,BB,AL,BD,AX,AC,AA,AZ,BZ,BG,A7,BQ,BJ,CE,CB,BU,AB,jD,jE,jF,↓reduceIte,jA,jK,jB,jC,enP,OI,MJ,JF,D8,IA,JC,f94,f96,DU hj',DF ag3 hj',encN0,f1,f18,r1,r2,r3,r4];refine r5.mono ?_;rintro _ H' rfl;simp -implicitDefEqProofs only[DC,jJ,BA,A8,EJ,EQ,AY,BB,AL,BD,AX,AC,AA,AZ,AU,BH,BG,BR,AB,C9,↓reduceIte,jA,jB,jC,enP,D8,f96,wrap_succ (show j<9223372036854775807 by omega)];exact⟨n'-1,by omega,j+1,by omega,by trivial,by trivial,by trivial,by trivial,by trivial,by trivial,by trivial,by trivial,by trivial,by trivial,PS2⟩
     .have hj':¬j<hit.length:=by simpa using hc
      rw[jX (by omega)] at PS;simp -implicitDefEqProofs only[DJ,EG,KC,ET,AA,↓reduceIte,jA];exact⟨f1,f4,f9,f87,f88,f89,PS⟩
    .rintro F H ⟨f1,f4,f9,f87,f88,f89,PS⟩
     have e1:M.set i (rowP hit P[i])=mix (LX rs P) P (i+1):=by rw[<-hms,hsg]
     rw[e1] at PS;simp -implicitDefEqProofs only[DC,jJ,BA,A8,EJ,EU,EQ,AY,BB,AL,BD,AX,AC,AA,AZ,AU,BH,BG,BR,AB,C9,↓reduceIte,jA,jB,jC,enP,D8,f89,wrap_succ (show i<9223372036854775807 by omega)];exact⟨n-1,by omega,i+1,by omega,by trivial,by trivial,by trivial,by trivial,by trivial,by trivial,PS⟩
   .have hi':i=P.length:=by
     have:¬i<m.pts.length:=by simpa using hc
     omega
    subst hi';rw[QY hsl] at PS;simp -implicitDefEqProofs only[DJ,EG,KC,ET,AA,↓reduceIte,jA];exact⟨f1,f4,f9,PS⟩
  clear PS f1 f4 f9;rintro F H ⟨f1,f4,f9,PS⟩;simp -implicitDefEqProofs only[DC,jJ,BC,BP,BA,A8,EU,AY,BB,AL,BD,AX,AC,AA,AZ,AU,BH,BG,BQ,BJ,DZ,AB,↓reduceIte,jG,jB,jC,enP,VQ,J8,D8,f4,lm1 _ PS.gm,jI];refine GM 6 (fun F H=>Ph n0 h H cb tb po co pb cbs m h.length (h.length+1) (h.length+2) (LX rs P) (NJ m (rs.map PtR.hit) C) (rz sam) ill' (rs.map PtR.hit) (rs.map PtR.next)) (fun _ _=>False) ?_ ?_ (fun _ _ hh=>hh.elim)
  .refine DK (fun n F H=>∃i,n+i=m.crs.length∧F 1=.ptr cb 0 0∧F 4=.ptr h.length 0 0∧F 9=.own (h.length+1) 0 m.pts.length∧F 113=.sl m.cm 3 (m.crs.map GG)∧F 114=.int .i64 (m.crs.length:Nat)∧F 115=.int .i64 (i:Nat) ∧
    Ph n0 h H cb tb po co pb cbs m h.length (h.length+1) (h.length+2) (LX rs P) (mix (NJ m (rs.map PtR.hit) C) C i) (rz sam) ill' (rs.map PtR.hit) (rs.map PtR.next)) m.crs.length ⟨0,by simp,by simp -implicitDefEqProofs only[AA,↓reduceIte,jA,f1],by simp -implicitDefEqProofs only[AA,↓reduceIte,jA,f4],by simp -implicitDefEqProofs only[AA,↓reduceIte,jA,f9],by simp -implicitDefEqProofs only[AA,↓reduceIte,jA],by simp -implicitDefEqProofs only[AA,↓reduceIte,jA],by simp -implicitDefEqProofs only[AA,↓reduceIte]<;>rfl,PS⟩ ?_
   clear PS f1 f4 f9;rintro n F H ⟨i,hi,f1,f4,f9,f113,f114,f115,PS⟩;simp -implicitDefEqProofs only[DC,jJ,BC,BA,BI,A8,AY,BB,AL,BD,AX,AC,AA,AZ,BR,AB,CZ,↓reduceIte,jB,jC,enP,D8,f114,f115];refine CV (fun hc=>?_) (fun hc=>?_)
   .have hi':i<m.crs.length:=by simpa using hc
    have hiC:i<C.length:=by omega
    have hicb:i<cbs.length:=by omega
    have hcg:=hg.crs _ (jQ hi');have hfs:=hg.full.szs hcg.here;have hzl:=LJ m m.crs[i].pts;have htwo:=hcg.two;have hfour:=hcg.four;have hmx:=mix_len (ys:=NJ m (rs.map PtR.hit) C) (xs:=C) (i:=i) hscl (by omega);have hmi:=WC (ys:=NJ m (rs.map PtR.hit) C) (xs:=C) (i:=i) (j:=i) hscl (jL _) hiC (by omega);have hsg:=V3 m (rs.map PtR.hit) C i hi' hiC (by omega);have hms:=mix_set (ys:=NJ m (rs.map PtR.hit) C) (xs:=C) (i:=i) hscl hiC (by omega);have hce:=hS.ce i hiC hi';have hpr:=hcg.prod;have hwi:Wn C[i]:=hS.wc _ (jQ hiC);have PSa:=PS.app [ABlk.live 3 [GG m.crs[i]]];have gx:=CX H (ABlk.live 3 [GG m.crs[i]]);have hxl:=PS.fr.le;simp -implicitDefEqProofs only[DC,jJ,BC,BP,BA,BO,A8,AY,BB,AL,BD,AX,AC,EM,AA,AZ,BG,A7,EX,BQ,D6,CE,BX,AB,CY,↓reduceIte,jA,jB,jC,enP,WF,D8,jP,f113,f115,DU hi',FM AAD XY KD hi',ASF,AQP _ _ [.str ⟨#[]⟩,.sl .nil 0 [],.sl .nil 0 []] rfl]
    generalize H++[ABlk.live 3 [GG m.crs[i]]]=Ha at PSa gx|-
    generalize H.length=xb at gx hxl|-
    obtain⟨M,hmm,hmx,hmi,hms⟩:∃M,mix (NJ m (rs.map PtR.hit) C) C i=M∧M.length=C.length∧(∀h:i<M.length,M[i]=C[i])∧M.set i (NJ m (rs.map PtR.hit) C)[i]=mix (NJ m (rs.map PtR.hit) C) C (i+1):=⟨_,rfl,hmx,fun _=>hmi,hms⟩;rw[hmm] at PSa;have hxpb:xb ∉ pb:=fun q=>by have:=hwp _ q; omega
    have hxcb:∀(k:Nat) (hk:k<cbs.length),cbs[k]≠xb:=fun k hk q=>by have:=hwc _ (jQ hk); omega
    simp -implicitDefEqProofs only[DC,jJ,AY,AL,BD,AX,AC,AA,AZ,BZ,BQ,CB,BU,AB,jD,jE,jF,↓reduceIte,jA,jB,jC,enP,D8,f4,ldM PSa.gm,ldC gx];refine(RS G m m.crs[i] Ha hcg.here (by omega)).use ?_;have N:=PSa.cs.nc;have q2:=N.ix (show i<M.length by omega);have q3:=N.ld (show i<M.length by omega);rw[hmi] at q3;simp -implicitDefEqProofs only[DC,jJ,BC,BP,BA,A8,AY,BB,AL,BD,AX,AC,AA,AZ,AU,BH,BG,A7,BQ,BJ,CE,DZ,AB,↓reduceIte,jA,jG,jB,jC,enP,OI,L6,JD,D8,IA,JC,f1,PSa.cs.l1,q2,q3];refine GM 8 (fun F H=>F 1=.ptr cb 0 0∧F 4=.ptr h.length 0 0∧F 9=.own (h.length+1) 0 m.pts.length∧F 113=.sl m.cm 3 (m.crs.map GG)∧F 114=.int .i64 (m.crs.length:Nat)∧F 115=.int .i64 (i:Nat)∧Ph n0 h H cb tb po co pb cbs m h.length (h.length+1) (h.length+2) (LX rs P) (M.set i (rowC m m.crs[i] (rs.map PtR.hit) C[i])) (rz sam) ill' (rs.map PtR.hit) (rs.map PtR.next)) (fun _ _=>False) ?_ ?_ (fun _ _ hh=>hh.elim)
    .have e0:M.set i (mix (rowC m m.crs[i] (rs.map PtR.hit) C[i]) C[i] 0)=M:=by
      show M.set i C[i]=M;rw[<-hmi (by omega),List.set_getElem_self]
     refine DK (fun n F H=>∃k,n+k=C[i].length∧F 1=.ptr cb 0 0∧F 4=.ptr h.length 0 0∧F 9=.own (h.length+1) 0 m.pts.length∧F 113=.sl m.cm 3 (m.crs.map GG)∧F 114=.int .i64 (m.crs.length:Nat)∧F 115=.int .i64 (i:Nat)∧F 22=.int .i64 (i:Nat)∧F 23=.ptr xb 0 0∧F 24=.sl (nm (szs m m.crs[i].pts)) 1 ((szs m m.crs[i].pts).map II)∧F 130=.int .i64 (C[i].length:Nat)∧F 131=.int .i64 (k:Nat)∧H[xb]?=some (.live 3 [GG m.crs[i]]) ∧
      Ph n0 h H cb tb po co pb cbs m h.length (h.length+1) (h.length+2) (LX rs P) (M.set i (mix (rowC m m.crs[i] (rs.map PtR.hit) C[i]) C[i] k)) (rz sam) ill' (rs.map PtR.hit) (rs.map PtR.next)) C[i].length
      ⟨0,by simp,by simp -implicitDefEqProofs only[AA,↓reduceIte,jA,f1],by simp -implicitDefEqProofs only[AA,↓reduceIte,jA,f4],by simp -implicitDefEqProofs only[AA,↓reduceIte,jA,f9],by simp -implicitDefEqProofs only[AA,↓reduceIte,jA,f113],by simp -implicitDefEqProofs only[AA,↓reduceIte,jA,f114],by simp -implicitDefEqProofs only[AA,↓reduceIte,jA,f115],by simp -implicitDefEqProofs only[AA,↓reduceIte,jA]<;>rfl,by simp -implicitDefEqProofs only[AA,↓reduceIte,jA],by simp -implicitDefEqProofs only[AA,↓reduceIte,jA]<;>rfl,by simp -implicitDefEqProofs only[AA,↓reduceIte,jA]<;>rfl,by simp -implicitDefEqProofs only[AA,↓reduceIte]<;>rfl,gx,by rw[e0]; exact PSa⟩ ?_
     clear PS PSa gx q2 q3 N;rintro n' F H ⟨k,hk,f1,f4,f9,f113,f114,f115,f22,f23,f24,f130,f131,gx,PS⟩;simp -implicitDefEqProofs only[DC,jJ,BC,BA,BI,A8,AY,BB,AL,BD,AX,AC,AA,AZ,BR,AB,CZ,↓reduceIte,jB,jC,enP,D8,f130,f131];refine CV (fun hc=>?_) (fun hc=>?_)
     .have hk':k<C[i].length:=by simpa using hc
      have hrcl:=QG m m.crs[i] (rs.map PtR.hit) C[i];have hrcg:=ADZ m m.crs[i] (rs.map PtR.hit) C[i] k hk' (by omega);have hkl:=mix_len (ys:=rowC m m.crs[i] (rs.map PtR.hit) C[i]) (xs:=C[i]) (i:=k) hrcl (by omega);have hkg:=WC (ys:=rowC m m.crs[i] (rs.map PtR.hit) C[i]) (xs:=C[i]) (i:=k) (j:=k) hrcl (jL _) hk' (by omega);have hks:=mix_set (ys:=rowC m m.crs[i] (rs.map PtR.hit) C[i]) (xs:=C[i]) (i:=k) hrcl hk' (by omega);have hins:=UB (szs m m.crs[i].pts) k (fun n hn=>(hfs n hn).1);have htl:=QI hins;have hck:crK m m.crs[i] (rs.map PtR.hit) k=(Q3 m m.crs[i] (NG (szs m m.crs[i].pts) k)&&allB m.crs[i].pts (NG (szs m m.crs[i].pts) k) (rs.map PtR.hit)):=rfl
      have skip:crK m m.crs[i] (rs.map PtR.hit) k=false->mix (rowC m m.crs[i] (rs.map PtR.hit) C[i]) C[i] (k+1)=mix (rowC m m.crs[i] (rs.map PtR.hit) C[i]) C[i] k:=fun hq=>by
       rw[<-hks,hrcg,if_neg (by rw[hq]; decide),<-hkg,List.set_getElem_self]
      simp -implicitDefEqProofs only[DC,jJ,BC,BP,BA,BO,A8,AY,BB,AL,BD,AX,AC,AA,AZ,BZ,BG,A7,CB,BU,jD,jE,jF,↓reduceIte,jA,jB,jC,D8,f24,f131];refine(hT (szs m m.crs[i].pts) _ k H (by omega) (by omega) hfs (by omega)).use ?_;simp -implicitDefEqProofs only[DC,jJ,BC,BA,A8,AY,BB,AL,BD,AX,AC,AA,AZ,BZ,BG,A7,BQ,CB,BU,AB,jD,jE,jF,↓reduceIte,jA,jB,jC,enP,D8,f4,f23,ldM PS.gm,ldC gx];refine(YA G m m.crs[i] (NG (szs m m.crs[i].pts) k) .any H hcg.here hins (by omega) (by have:=hcg.num; omega)).use ?_;simp -implicitDefEqProofs only[DC,jJ,AY,BL,BV,CO,AL,BD,AX,AC,AA,AZ,BG,↓reduceIte,jB,jC,D8];cases h1:Q3 m m.crs[i] (NG (szs m m.crs[i].pts) k)
      .rw[h1,Bool.false_and] at hck
       rw[<-skip hck] at PS;simp -implicitDefEqProofs only[DC,jJ,BA,BO,BI,A8,EJ,EQ,DR,AY,BB,BL,BV,CO,IU,AL,BD,AX,AC,AA,EW,AZ,AU,BH,BM,BG,CQ,DW,BR,AB,C9,↓reduceIte,jA,jB,jC,enP,D8,f131,wrap_succ (show k<9223372036854775807 by omega)];exact⟨n'-1,by omega,k+1,by omega,by trivial,by trivial,by trivial,by trivial,by trivial,by trivial,by trivial,by trivial,by trivial,by trivial,by trivial,gx,PS⟩
      rw[h1,wB] at hck;simp -implicitDefEqProofs only[DC,jJ,BL,BV,CO,GH,AL,BD,AX,AC,AA,AZ,BZ,BG,BQ,CB,BU,AB,jD,jE,jF,↓reduceIte,jA,jB,jC,enP,D8,f9,f23,ldC gx];have hall:=AWK G m.crs[i] (NG (szs m m.crs[i].pts) k) .any (rs.map PtR.hit) (h.length+1) H PS.gh (fun p hp=>by have:=hcg.here p hp; rw[hhl]; exact this) (by omega) h64 (by omega);rw[hhl] at hall;refine hall.use ?_;simp -implicitDefEqProofs only[DC,jJ,BI,A8,AY,BB,AL,BD,AX,AC,AA,AZ,AU,BM,CQ,DY,↓reduceIte,jA,jB,jC,D8];cases h2:allB m.crs[i].pts (NG (szs m m.crs[i].pts) k) (rs.map PtR.hit)
      .rw[h2] at hck
       rw[<-skip hck] at PS;simp -implicitDefEqProofs only[DC,jJ,BA,BO,A8,EJ,EQ,DR,AY,BB,AL,BD,AX,AC,AA,AZ,AU,BH,BG,BR,AB,C9,↓reduceIte,jA,jB,jC,enP,D8,f131,wrap_succ (show k<9223372036854775807 by omega)];exact⟨n'-1,by omega,k+1,by omega,by trivial,by trivial,by trivial,by trivial,by trivial,by trivial,by trivial,by trivial,by trivial,by trivial,by trivial,gx,PS⟩
      rw[h2] at hck;have hiM:i<(M.set i (mix (rowC m m.crs[i] (rs.map PtR.hit) C[i]) C[i] k)).length:=by rw[qI]; omega
      have hcur:(M.set i (mix (rowC m m.crs[i] (rs.map PtR.hit) C[i]) C[i] k))[i]=mix (rowC m m.crs[i] (rs.map PtR.hit) C[i]) C[i] k:=List.getElem_set_self _
      have hwm:Wn (mix (rowC m m.crs[i] (rs.map PtR.hit) C[i]) C[i] k):=by
       intro x hx;unfold mix at hx;rcases qC.1 hx with hx|hx
       .exact Wn.rowC hwi x (List.mem_of_mem_take hx)
       .exact hwi x (List.mem_of_mem_drop hx)
      have hR:=PS.raiseC G hiM hicb k (by rw[hcur,hkl]; exact hk') (by rw[hcur]; exact hwm);rw[hcur] at hR;obtain⟨r1,r2,r3,r4,r5⟩:=hR
      have hra:raiseAt (mix (rowC m m.crs[i] (rs.map PtR.hit) C[i]) C[i] k) k=mix (rowC m m.crs[i] (rs.map PtR.hit) C[i]) C[i] (k+1):=by
       rw[<-hks,hrcg,if_pos hck];unfold raiseAt;congr 2;rw[zN,jS (by omega)];exact hkg
      have PS2:=PS.setC hicb (raiseAt (mix (rowC m m.crs[i] (rs.map PtR.hit) C[i]) C[i] k) k) (fun _=>by rw[hcur,TE]);rw[List.set_set,hra] at PS2;rw[hra] at r5;have gx2:=CW (y:=.live 1 ((mix (rowC m m.crs[i] (rs.map PtR.hit) C[i]) C[i] (k+1)).map encI)) gx (hxcb i hicb).symm;simp -implicitDefEqProofs only[DC,jJ,BA,DI,AY,AL,BD,AX,AC,AA,AZ,BZ,BG,BQ,BJ,CE,CB,BU,AB,jD,jE,jF,↓reduceIte,jA,jG,jB,jC,enP,OI,L6,JF,D8,IA,JC,f1,f22,f131,r1,r2,r3,r4];refine r5.mono ?_;rintro _ H' rfl;simp -implicitDefEqProofs only[DC,jJ,BA,A8,EJ,EQ,AY,BB,AL,BD,AX,AC,AA,AZ,AU,BH,BG,BR,AB,C9,↓reduceIte,jA,jB,jC,enP,D8,f131,wrap_succ (show k<9223372036854775807 by omega)];exact⟨n'-1,by omega,k+1,by omega,by trivial,by trivial,by trivial,by trivial,by trivial,by trivial,by trivial,by trivial,by trivial,by trivial,by trivial,gx2,PS2⟩
     .have hk':k=C[i].length:=by
       have:¬k<C[i].length:=by simpa using hc
       omega
      rw[hk',QY (QG m m.crs[i] (rs.map PtR.hit) C[i])] at PS;simp -implicitDefEqProofs only[DJ,EG,KC,ET,AA,↓reduceIte,jA];exact⟨f1,f4,f9,f113,f114,f115,PS⟩
    .rintro F H ⟨f1,f4,f9,f113,f114,f115,PS⟩
     have e1:M.set i (rowC m m.crs[i] (rs.map PtR.hit) C[i])=mix (NJ m (rs.map PtR.hit) C) C (i+1):=by rw[<-hms,hsg]
     rw[e1] at PS;simp -implicitDefEqProofs only[DC,jJ,BA,A8,EJ,EU,EQ,AY,BB,AL,BD,AX,AC,AA,AZ,AU,BH,BG,BR,AB,C9,↓reduceIte,jA,jB,jC,enP,D8,f115,wrap_succ (show i<9223372036854775807 by omega)];exact⟨n-1,by omega,i+1,by omega,by trivial,by trivial,by trivial,by trivial,by trivial,by trivial,PS⟩
   .have hi':i=C.length:=by
     have:¬i<m.crs.length:=by simpa using hc
     omega
    subst hi';rw[QY hscl] at PS;simp -implicitDefEqProofs only[DJ,EG,KC,ET,↓reduceIte];exact PS
  .rintro F H PS
   simp -implicitDefEqProofs only[DC,jJ,BC,BA,BK,A8,EU,CG,AY,BB,AL,BD,AX,AC,AA,AU,BH,A7,↓reduceIte,jB,jC,D8];exact .inr ⟨hfst,by trivial,h.length+2,by omega,PS.gl,PS.cs,PS.fr⟩
 .rintro F H ⟨e,f8,hne,hfst,hxH⟩
  simp -implicitDefEqProofs only[CP,EE,CG,f8];exact .inl ⟨e,hne,hfst,by trivial,hxH⟩
end Go.Proofs.YtocilianjfhifaaGreatDoor.Xe
