/- Part 11 of the proof (H1, H2, H3, X1); no condition. -/
import Derived.Test.YtocilianjfhifaaGreatDoorYC10
set_option linter.unusedVariables false
set_option linter.unusedSimpArgs false
set_option maxRecDepth 8000
namespace Go.Proofs.YtocilianjfhifaaGreatDoor.Bins
open Sm
open Bool renaming not_false→jC
open List renaming length_map→jI,map_cons→jD,map_nil→jE,nil_append→zY,findIdx?_eq_some_iff_getElem→qU,findIdx?_eq_none_iff→qV,append_nil→jF,getElem?_eq_getElem→jU,append_assoc→zA,getElem_mem→jS
open Nat renaming le_of_ble_eq_true→jH,reduceEqDiff→jA,add_zero→jL,zero_add→jG
open Option renaming getD_some→jB
instance:Inhabited Rs:=⟨⟨.nil,[]⟩⟩
set_option maxHeartbeats 400000 in
theorem YF (G:Nat->AV)(xs:List Rng)(m:SM)(v:Int)(h:Hp)(hl:xs.length<=1099511627776) :
  PCall (En G) 164 [.sl m 2 (xs.map encR),.int .i64 v] h (.bool (inside xs v)):=by
 refine acN Tryz.func164 rfl ?_;show awp _ _ _ _ _ (EN _ [.tmp 4] _);simp -implicitDefEqProofs only[BC,BP,BA,A8,AY,BB,AO,AQ,AL,BD,AX,AC,AU,BH,BM,A7,jB,jC,enP];refine DK (fun n F H=>∃k,n+k=xs.length∧F 0=.sl m 2 (xs.map encR)∧F 1=.int .i64 v∧F 5=.int .i64 (k:Nat)∧H=h∧inside xs v=inside (xs.drop k) v) xs.length ⟨0,by simp,rfl,rfl,rfl,rfl,rfl⟩ ?_;rintro n F H ⟨k,hk,f0,f1,f5,rfl,hin⟩;simp -implicitDefEqProofs only[BC,BA,BI,A8,AY,BB,AO,AQ,AL,BD,AX,AC,AA,AZ,BG,BR,D7,AB,DC,↓reduceIte,jA,jB,jC,enP,TD,f0,f1,f5,jI];refine CU (fun hc=>?_) (fun hc=>?_)
 .have hc':k<xs.length:=by simpa using hc
  have hs:inside (xs.drop k) v=(decide (xs[k].lo<=v)&&decide (v<=xs[k].hi)||inside (xs.drop (k+1)) v):=LD _ xs k hc';simp -implicitDefEqProofs only[BC,BP,BA,BO,A8,AY,BL,BV,CO,AO,AQ,AL,BD,AX,AC,AA,AZ,BG,BQ,BR,BJ,CE,AB,JC,↓reduceIte,jA,jL,jB,jC,enP,AD0,XC,f0,f1,f5,DU hc',DF ag3 hc',XU,XT];refine IL (fun ha=>?_) (fun ha=>?_)
  .simp -implicitDefEqProofs only[BI,A8,AY,BB,BL,BV,CO,F9,AO,AQ,AL,BD,AX,AC,AA,AZ,AU,BM,BG,CQ,DY,BQ,BR,BJ,CE,AB,JC,↓reduceIte,jA,jG,jB,jC,enP,AD0,XB,f0,f1,f5,DU hc',DF ag3 hc',XU,XT,ha]
   refine CU (fun hb=>?_) (fun hb=>?_)
   .simp -implicitDefEqProofs only[BC,BA,BK,A8,CP,EG,FQ,CG,AY,BB,AO,AQ,AL,BD,AX,AC,AA,AU,BM,A7,↓reduceIte,jB,jC]
    exact⟨by rw[hin,hs,ha,hb]; rfl,trivial⟩
   .simp -implicitDefEqProofs only[BA,BO,A8,EJ,EQ,AY,BB,AO,AQ,AL,BD,AX,AC,AA,AZ,AU,BH,BG,A7,BR,AB,CZ,↓reduceIte,jA,jB,jC,enP,f5,wrap_succ (show k<9223372036854775807 by omega)]
    exact⟨n-1,by omega,k+1,by omega,f0,f1,rfl,trivial,by rw[hin,hs,ha,hb]; rfl⟩
  .simp -implicitDefEqProofs only[BA,BO,BI,A8,EJ,EQ,DT,AY,BB,BL,BV,CO,IX,AO,AQ,AL,BD,AX,AC,AA,EX,AZ,AU,BH,BM,BG,A7,CQ,DX,BR,AB,CZ,↓reduceIte,jA,jB,jC,enP,ha,f5,wrap_succ (show k<9223372036854775807 by omega)]
   exact⟨n-1,by omega,k+1,by omega,f0,f1,rfl,trivial,by rw[hin,hs,ha]; rfl⟩
 .have hc':¬k<xs.length:=by simpa using hc
  simp -implicitDefEqProofs only[BC,BA,BK,DJ,A8,EI,EW,ET,CG,AY,BB,AO,AQ,AL,BD,AX,AC,AA,AU,BM,A7,↓reduceIte,jB,jC];exact⟨by rw[hin,List.drop_eq_nil_of_le (by omega)]; rfl,trivial⟩
theorem AQ3 (G:Nat->AV)(r:Rng)(b:Nat)(v:Int)(h:Hp)(hv:EH Tryz.prog h 3 (.ptr b 0 0)=some (.int .i64 v)) :
  PCall (En G) 275 [.agg (encR r),.ptr b 0 0] h (.bool (decide (r.lo<=v)&&decide (v<=r.hi))):=by
 refine ACalls.pure0 rfl ?_;refine acN Tryz.func275 rfl ?_;show awp _ _ _ _ _ (EN _ [.tmp 3] _);simp -implicitDefEqProofs only[BC,BA,A8,AY,BB,BL,BV,CO,AO,AQ,AL,BD,AX,AC,AA,AZ,AU,BM,BG,A7,FU,BQ,BR,BJ,BZ,AB,JC,BF,BN,↓reduceIte,jA,jL,jB,jC,enP,XC,bxR,DL ag3,AKF hv,XU,XT];refine IL (fun ha=>?_) (fun ha=>?_)
 .simp -implicitDefEqProofs only[BK,A8,CG,AY,BB,BL,BV,CO,F9,AO,AQ,AL,BD,AX,AC,AA,AZ,AU,BM,A7,CQ,DY,BQ,BR,BJ,AB,JC,BF,BN,↓reduceIte,jA,jG,jB,jC,enP,XB,bxR,DL ag3,AKF hv,XU,XT,ha]
  exact⟨by simp,_,rfl⟩
 .simp -implicitDefEqProofs only[BK,A8,CG,AY,BB,BL,BV,CO,IX,AO,AQ,AL,BD,AX,AC,AA,EX,AZ,AU,BM,A7,CQ,DX,↓reduceIte,jA,jB,jC,ha]
  exact⟨by simp,_,rfl⟩
theorem indexFunc (G:Nat->AV)(xs:List Rng)(m:SM)(fid:FuncId)(caps:List AV)(p:Rng->Bool)(h:Hp)(hl:xs.length<=1099511627776)
  (hf:∀r,PCall (En G) fid (.agg (encR r)::caps) h (.bool (p r))) :
  PCall (En G) 300 [.sl m 2 (xs.map encR),.fn (.func fid) [] caps] h (.int .i64 (match xs.findIdx? p with|some i=>(i:Int)|none => -1)):=by
 refine acN Tryz.func300 rfl ?_;show awp _ _ _ _ _ (EN _ [.tmp 4] _);simp -implicitDefEqProofs only[BC,BP,BA,A8,AY,BB,AO,AQ,AL,BD,AX,AC,AA,AZ,AU,BH,BG,A7,D7,AB,BF,↓reduceIte,jA,jB,jC,enP,TD,jI];refine DK (fun n F H=>∃k,n+k=xs.length∧F 0=.sl m 2 (xs.map encR)∧F 1=.fn (.func fid) [] caps∧F 7=.int .i64 xs.length∧F 8=.int .i64 (k:Nat)∧H=h∧(xs.take k).all (fun r => !p r)=true) xs.length ⟨0,by simp,rfl,rfl,rfl,rfl,rfl,rfl⟩ ?_;rintro n F H ⟨k,hk,f0,f1,f7,f8,rfl,hin⟩;simp -implicitDefEqProofs only[BC,BA,BI,A8,AY,BB,AO,AQ,AL,BD,AX,AC,AA,AZ,BR,AB,DC,↓reduceIte,jB,jC,enP,f0,f1,f7,f8,jI];refine CU (fun hc=>?_) (fun hc=>?_)
 .have hc':k<xs.length:=by simpa using hc
  simp -implicitDefEqProofs only[BC,BP,BA,BO,A8,AY,BB,AO,AQ,AL,BD,AX,AC,AA,AZ,BG,A7,BQ,CE,CB,BU,AB,jD,jE,zY,List.cons_append,↓reduceIte,jA,jB,jC,enP,AD0,f0,f1,f7,f8,DU hc',FM AZ0 AOF AEK hc'];refine(hf _).use ?_;simp -implicitDefEqProofs only[BI,A8,BB,AC,AA,AZ,↓reduceIte];refine CU (fun hb=>?_) (fun hb=>?_)
  .simp -implicitDefEqProofs only[BC,BA,BK,A8,CP,EG,FQ,CG,AY,BB,AO,AQ,AL,BD,AX,AC,AA,AZ,BG,A7,↓reduceIte,jA,jB,jC]
   refine⟨?_,trivial⟩
   rw[qU.2 ⟨hc',hb,fun j hj=>by
    rw[List.all_eq_true] at hin;have:=hin xs[j] (by rw[List.mem_take_iff_getElem]; exact⟨j,by omega,rfl⟩)
    simpa using this⟩]
  .simp -implicitDefEqProofs only[BA,BO,A8,EJ,EQ,AY,BB,AO,AQ,AL,BD,AX,AC,AA,AZ,AU,BH,BG,BR,AB,CZ,↓reduceIte,jA,jB,jC,enP,f8,wrap_succ (show k<9223372036854775807 by omega)]
   refine⟨n-1,by omega,k+1,by omega,f0,f1,f7,rfl,trivial,?_⟩;rw[List.take_succ_eq_append_getElem hc',List.all_append,hin];simp only[List.all_cons,List.all_nil,hb]; rfl
 .have hc':¬k<xs.length:=by simpa using hc
  simp -implicitDefEqProofs only[BC,BA,BK,DJ,A8,EI,EW,ET,CG,AY,BB,AO,AQ,AL,BD,AX,AC,AA,AU,BH,A7,↓reduceIte,jB,jC];refine⟨?_,trivial⟩;rw[List.take_of_length_le (by omega)] at hin;rw[qV.2 (by simpa using hin)]
theorem AIN (G:Nat->AV)(xs:List Rng)(m:SM)(fid:FuncId)(caps:List AV)(p:Rng->Bool)(h:Hp)(hl:xs.length<=1099511627776)
  (hf:∀r,PCall (En G) fid (.agg (encR r)::caps) h (.bool (p r))) :
  PCall (En G) 274 [.sl m 2 (xs.map encR),.fn (.func fid) [] caps] h (.bool (xs.any p)):=by
 refine acN Tryz.func274 rfl ?_;show awp _ _ _ _ _ (EN _ [.tmp 4] _);simp -implicitDefEqProofs only[BC,BA,A8,AY,BB,AO,AQ,AL,BD,AX,AC,AA,AZ,AU,BX,BM,BG,A7,CB,BU,BF,BN,jD,jE,jF,↓reduceIte,jA,jB,jC,enP];refine(indexFunc G xs m fid caps p h hl hf).use ?_;simp -implicitDefEqProofs only[BK,A8,CG,AY,BB,AO,AQ,AL,BD,AX,AC,AA,AZ,AU,BH,A7,BR,AB,G5,↓reduceIte,jB,jC,enP];refine⟨?_,trivial⟩
 cases hx:xs.findIdx? p with
 | some i =>
   obtain⟨h1,h2,_⟩:=qU.1 hx;have:xs.any p=true:=List.any_eq_true.2 ⟨xs[i],by simp,h2⟩;simp [this]
 | none =>
   have:xs.any p=false:=by
    rw[qV] at hx;rw[List.any_eq_false]; intro x hx2; simp [hx x hx2]
   simp [this]
theorem inside_prog (G:Nat->AV)(xs:List Rng)(m:SM)(v:Int)(h:Hp)(hl:xs.length<=1099511627776) :
  PCall (En G) 242 [.sl m 2 (xs.map encR),.int .i64 v] h (.bool (inside xs v)):=by
 refine ACalls.pure0 rfl ?_;refine acN Tryz.func242 rfl ?_;show awp _ _ _ _ _ (EN _ [.tmp 4] _);simp -implicitDefEqProofs only[AYT,BC,BA,A8,AY,BB,AO,AQ,AL,BD,AX,AC,AA,AZ,AU,BX,BM,BG,A7,FU,I8,CB,BU,BZ,BF,BN,jD,jE,jF,↓reduceIte,jA,jB,jC,enP];refine(AIN G xs m 275 _ _ _ hl fun r=>AQ3 G r h.length v _ (DL ag3)).use ?_;simp -implicitDefEqProofs only[BK,A8,CG,AY,BB,AO,AQ,AL,BD,AX,AC,AA,AZ,A7,↓reduceIte,jB,jC];exact⟨rfl,_,rfl⟩
theorem APY (G:Nat->AV)(xs:List Int)(m:SM)(h:Hp)(hl:xs.length<=16777216) :
  ACalls (En G) 100 [.sl m 1 (xs.map encI)] h (ANH 1 (xs.map encI) h):=by
 refine ACalls.of_rep (cok _ _ (by kernel_rfl)) fun⟨g,cargs,ha⟩=>?_
 refine acN Tryz.func100 rfl ?_;show awp _ _ _ _ _ (EN _ [.tmp 2] _);simp -implicitDefEqProofs only[BC,BA,BI,A8,AY,BB,AO,AQ,AL,BD,AX,AC,AA,AZ,AU,IK,BG,A7,BR,AB,BF,↓reduceIte,jA,jB,jC,enP,A2K];refine CU (fun hc=>?_) (fun hc=>?_)
 .have hm:m=.nil:=by simpa using hc
  subst hm;simp -implicitDefEqProofs only[BC,BA,BK,A8,CP,CG,AY,BB,AO,AQ,AL,BD,AX,AC,AA,AU,IK,A7,↓reduceIte,jB,jC,decide_true];exact .inl ⟨AMI ha (i:=0) rfl,⟨_,rfl⟩,rfl⟩
 .simp -implicitDefEqProofs only[EY,BC,BA,BO,A8,AY,AO,AQ,AL,BD,AX,AC,AA,AZ,BG,EP,GR,BZ,BF,↓reduceIte,jA,jB,jC,enP,AVK]
  rcases Classical.em (xs=[]) with hx|hx
  .subst hx
   simp -implicitDefEqProofs only[BK,A8,CG,AY,BB,AO,AQ,AL,BD,AX,AC,AA,AZ,A7,BZ,jE,↓reduceIte,jB,jC,AVY TN sz3 (.inr rfl)];exact .inr (.inl ⟨rfl,rfl,rfl⟩)
  .have hr:room (([]:List (List AV)).length+(xs.map encI).length) 8:=JW (by simpa using hl) (by omega)
   have hne:xs.map encI≠[]:=by simpa using hx
   simp -implicitDefEqProofs only[BK,A8,CG,AY,BB,AO,AQ,AL,BD,AX,AC,AA,AZ,A7,BZ,zY,↓reduceIte,jB,jC,WJ TN sz3 XG VN (KO h m 1 (xs.map encI)) hne hr];exact .inr (.inr ⟨by simpa using hx,by simp,by simp⟩)
def setAt (b:Bin)(i:Nat):List Rng:=((sets b)[i]?.getD default).l
def VS (last:List Int)(n:Nat)(v:Int)(i:Nat):Int:=if i+1<n then last[last.length+1-n+i]?.getD 0 else v
def AHX (b:Bin)(last:List Int)(v:Int)(k:Nat):Bool:=(List.range k).all fun i=>inside (setAt b i) (VS last (sets b).length v i)
def hit (b:Bin)(last:List Int)(v:Int):Bool:=decide (IA b=0)&&decide ((sets b).length<=last.length+1)&&AHX b last v (sets b).length
theorem AAN (b:Bin)(last:List Int)(v:Int)(k:Nat):AHX b last v (k+1)=(AHX b last v k&&inside (setAt b k) (VS last (sets b).length v k)):=by
 unfold AHX; rw[List.range_succ,List.all_append,List.all_cons,List.all_nil,Bool.and_true]
theorem AHW {b:Bin}{last:List Int}{v:Int}{k n:Nat}(hk:k<n)(h:inside (setAt b k) (VS last (sets b).length v k)=false):AHX b last v n=false:=by
 unfold AHX; rw[List.all_eq_false]; exact⟨k,by simpa using hk,by simp [h]⟩
theorem AC5 {b:Bin}(h:IA b=0):1<=(sets b).length:=by
 unfold IA at h;split at h
 .split at h
  .cases h
  .rename_i hr
   unfold sets;split
   .simp
   .rename_i hz
    simp only[J6,Bool.not_eq_true,Bool.or_eq_false_iff] at hr;have:=hr.1.1.1.2;have hz':decide ((b.ranges.l.length:Int)>0)=false:=decide_eq_false (by omega);rw[hz'] at this;simp at this;rcases hs:b.steps with _|⟨x,l⟩
    .rw[hs] at this; simp at this
    .simp
 .cases h
theorem AT2 {xs:List Int}{i:Nat}(h:i<xs.length):(xs.map encI)[i]?=some [.int .i64 xs[i]]:=by simp [h,encI]
theorem ANJ (h:Hp)(v:Int):FY Tryz.prog false h 57 1 [(0,.int .i64 v)]=some (.sl .full 1 [[.int .i64 v]],h):=by kernel_rfl
def vals (last:List Int)(n:Nat)(v:Int):List Int:=last.drop (last.length+1-n)++[v]
theorem AI8 {last:List Int}{n:Nat}{v:Int}(h1:1<=n)(h2:n<=last.length+1):(vals last n v).length=n:=by simp [vals]; omega
theorem ASJ {last:List Int}{n:Nat}{v:Int}{i:Nat}(h1:1<=n)(h2:n<=last.length+1)(hi:i<(vals last n v).length):(vals last n v)[i]=VS last n v i:=by
 have hl:=AI8 (v:=v) h1 h2;unfold vals VS at *;rw[List.getElem_append];split
 .rename_i h
  have h':i<last.length-(last.length+1-n):=by simpa using h
  rw[if_pos (by omega),List.getElem_drop,jU (by omega)];rfl
 .rename_i h
  have h':¬i<last.length-(last.length+1-n):=by simpa using h
  rw[if_neg (by omega)];simp
theorem AT9 (G:Nat->AV)(hG:KwG G)(b:Bin)(hb:BinOk b)(last:List Int)(m:SM)(v:Int)(h:Hp)(hl:last.length<=8388608) :
  PCall (En G) 241 [.agg (GV b),.sl m 1 (last.map encI),.int .i64 v] h (.bool (hit b last v)):=by
 refine ACalls.pure0 rfl ?_;refine acN Tryz.func241 rfl ?_;show awp _ _ _ _ _ (EN _ [.tmp 6] _);simp -implicitDefEqProofs only[BC,BA,A8,AY,BB,AO,AQ,AL,BD,AX,AC,AA,AZ,AU,BX,BM,A7,FU,BQ,CB,BU,BZ,AB,BF,jD,jE,jF,↓reduceIte,jA,jB,jC,enP,bxB,ldB];refine(AC6 G hG b hb _).use ?_;simp -implicitDefEqProofs only[BI,A8,AY,BB,AO,AQ,AL,BD,AX,AC,AA,AZ,AU,BH,BR,AB,EK,↓reduceIte,jB,jC,enP];refine CU (fun hv=>?_) (fun hv=>?_)
 .simp -implicitDefEqProofs only[BC,BA,BK,A8,CP,CG,AY,BB,AO,AQ,AL,BD,AX,AC,AA,AU,BM,A7,↓reduceIte,jB,jC]
  refine⟨?_,_,rfl⟩;have:IA b≠0:=by simpa using hv
  simp [hit,this]
 have hv0:IA b=0:=by simpa using hv
 have h1:=AC5 hv0;have hnum:=hb.num;simp -implicitDefEqProofs only[BC,BA,BO,A8,AY,AO,AQ,AL,BD,AX,AC,AA,AZ,BX,BQ,CB,BU,AB,jD,jE,jF,↓reduceIte,jA,jB,jC,enP,ldB];refine(AF0 G b _).use ?_;have hw:IntKind.i64.wrap (((sets b).length:Int)-1)=(((sets b).length-1:Nat):Int):=by rw[wrap_i64 (by omega) (by omega)]; omega
 simp -implicitDefEqProofs only[BC,BA,BI,A8,AY,BB,AO,AQ,AL,BD,AX,AC,AA,AZ,AU,BH,BG,A7,BR,D7,AB,J5,DC,BF,BN,↓reduceIte,jA,jB,jC,enP,JA,RS,jI,hw];refine CU (fun hc=>?_) (fun hc=>?_)
 .simp -implicitDefEqProofs only[BC,BA,BK,A8,CP,CG,AY,BB,AO,AQ,AL,BD,AX,AC,AA,AU,BM,A7,↓reduceIte,jB,jC]
  refine⟨?_,_,rfl⟩;have:¬(sets b).length<=last.length+1:=by simp at hc; omega
  simp [hit,this]
 have hc':(sets b).length<=last.length+1:=by simp at hc; omega
 have hw2:IntKind.i64.wrap ((last.length:Int)-(((sets b).length-1:Nat):Int))=((last.length+1-(sets b).length:Nat):Int):=by rw[wrap_i64 (by omega) (by omega)]; omega
 simp -implicitDefEqProofs only[Option.map_some,Option.map_none,BC,BA,BO,A8,AY,AO,AQ,AL,BD,AX,AC,AA,AZ,AU,BX,BH,BG,BR,UU,D7,CB,BU,AB,J5,BF,BN,jD,jE,jF,↓reduceIte,jA,jB,jC,enP,JA,RS,jI,hw,hw2,AWS TN sz3 (h:=h++[.live 4 [GV b]]) (m:=m) (kk:=.i64) (xs:=last.map encI) (l:=last.length+1-(sets b).length) (by simp; omega),<-List.map_drop];refine(APY G _ m _ (by simp; omega)).mono fun vv H' hcl=>?_
 have hn:=AI8 (v:=v) h1 hc';refine AP6 (fun F H=>F 7=.sl (S9 b) 1 ((sets b).map encS)∧∃o,F 8=.own o 0 (sets b).length∧H[o]?=some (.live 1 ((vals last (sets b).length v).map encI))∧∃x,H=h++x) ?_ ?_
 .have hv1:([[AV.int .i64 v]]:List (List AV))≠[]:=by simp
  rcases hcl with⟨hx,⟨k0,rfl⟩,rfl⟩|⟨hx,rfl,rfl⟩|⟨hx,rfl,rfl⟩
  .have hx':last.drop (last.length+1-(sets b).length)=[]:=by simpa using hx
   have e1:vals last (sets b).length v=[v]:=by unfold vals; rw[hx']; rfl
   rw[e1] at hn;simp at hn;simp -implicitDefEqProofs only[EY,FT,AY,BB,AO,AQ,AL,BD,AX,AC,AA,AZ,BG,A7,EP,GR,BZ,BF,BN,↓reduceIte,jA,jB,jC,enP,ANJ,VA TN sz3 XG VN (KO (h++[ABlk.live 4 [GV b]]) .full 1 [[AV.int .i64 v]]) hv1 (JW (by simp) (by omega))];exact⟨trivial,_,by rw[<-hn]; rfl,by rw[e1]; simp [encI],_,by rw[zA]⟩
  .have hx':last.drop (last.length+1-(sets b).length)=[]:=by simpa using hx
   have e1:vals last (sets b).length v=[v]:=by unfold vals; rw[hx']; rfl
   rw[e1] at hn;simp at hn;simp -implicitDefEqProofs only[EY,FT,AY,BB,AO,AQ,AL,BD,AX,AC,AA,AZ,BG,A7,EP,GR,BZ,BF,BN,zY,↓reduceIte,jA,jB,jC,enP,ANJ,WJ TN sz3 XG VN (KO (h++[ABlk.live 4 [GV b]]) .full 1 [[AV.int .i64 v]]) (xs:=[]) hv1 (JW (by simp) (by omega))];exact⟨trivial,_,by rw[<-hn]; rfl,by rw[e1]; simp [encI],_,by rw[zA]⟩
  .have hle:(last.drop (last.length+1-(sets b).length)).length+1<=16777216:=by simp; omega
   simp -implicitDefEqProofs only[EY,FT,AY,BB,AO,AQ,AL,BD,AX,AC,AA,AZ,BG,A7,EP,GR,BZ,BF,BN,↓reduceIte,jA,jB,jC,enP,ANJ,XF TN sz3 XG VN (AGR (h:=h++[ABlk.live 4 [GV b]])) (KO ((h++[ABlk.live 4 [GV b]])++[.live 1 ((last.drop (last.length+1-(sets b).length)).map encI)]) .full 1 [[AV.int .i64 v]]) hv1 (JW (by simpa using hle) (by omega))];refine⟨trivial,((h++[ABlk.live 4 [GV b]])++[ABlk.live 1 ((last.drop (last.length+1-(sets b).length)).map encI)]).length,?_,?_,?_⟩
   .congr 1
    rw[<-hn]; simp [vals]; omega
   .simp [vals,encI]
   .refine⟨[.live 4 [GV b],.dead,.live 1 ((last.drop (last.length+1-(sets b).length)).map encI++[[AV.int .i64 v]])],?_⟩
    rw[zA,List.set_append_right _ _ (by simp)];simp
 rintro F H ⟨f7,o,f8,ho,hx⟩;simp -implicitDefEqProofs only[BC,BP,BA,A8,AY,BB,AO,AQ,AL,BD,AX,AC,AA,AZ,AU,BH,BG,D7,AB,↓reduceIte,jB,jC,enP,JA,f8];refine DK (fun n F H'=>∃k,n+k=(sets b).length∧F 7=.sl (S9 b) 1 ((sets b).map encS)∧F 34=.own o 0 (sets b).length∧F 35=.int .i64 (sets b).length∧F 36=.int .i64 (k:Nat)∧H'=H∧AHX b last v k=true) (sets b).length ⟨0,by simp,by simp -implicitDefEqProofs only[AA,↓reduceIte,jA,f7],by simp -implicitDefEqProofs only[AA,↓reduceIte,jA],by simp -implicitDefEqProofs only[AA,↓reduceIte,jA],by simp -implicitDefEqProofs only[AA,↓reduceIte]; rfl,rfl,rfl⟩ ?_;rintro n F H' ⟨k,hk,f7,f34,f35,f36,rfl,hin⟩;simp -implicitDefEqProofs only[BC,BA,BI,A8,AY,BB,AO,AQ,AL,BD,AX,AC,AA,AZ,BR,AB,DC,↓reduceIte,jB,jC,enP,f35,f36];refine CU (fun hd=>?_) (fun hd=>?_)
 .have hd':k<(sets b).length:=by simpa using hd
  have hdv:k<(vals last (sets b).length v).length:=by omega
  have e1:((vals last (sets b).length v).map encI)[k]?=some [.int .i64 (VS last (sets b).length v k)]:=by rw[AT2 hdv,ASJ h1 hc' hdv]
  have e2:setAt b k=(sets b)[k].l:=by unfold setAt; simp [hd']
  simp -implicitDefEqProofs only[List.getElem?_cons_zero,BC,BP,BA,BO,A8,AY,BB,AO,AQ,AL,BD,AX,AC,AA,AZ,BX,BG,A7,BQ,CE,CB,BU,AB,jD,jE,jF,↓reduceIte,jA,jG,jB,jC,enP,JF,ABM,f7,f34,f36,L6 ho hd',DW ag3 ho e1,DU hd',DF PE hd',ABR];refine(inside_prog G _ _ _ _ (hb.sets _ (jS hd'))).use ?_;simp -implicitDefEqProofs only[BI,A8,AY,BB,AO,AQ,AL,BD,AX,AC,AA,AZ,IE,AB,FK,↓reduceIte,jB,jC];refine CU (fun hi=>?_) (fun hi=>?_)
  .simp -implicitDefEqProofs only[BC,BA,BK,A8,CP,EG,FQ,CG,AY,BB,AO,AQ,AL,BD,AX,AC,AA,AU,BM,A7,↓reduceIte,jB,jC]
   refine⟨?_,hx⟩;have hi':inside (sets b)[k].l (VS last (sets b).length v k)=false:=by simpa using hi
   unfold hit;rw[AHW hd' (by rw[e2]; exact hi')]; simp
  .simp -implicitDefEqProofs only[BA,BO,A8,EJ,EQ,AY,BB,AO,AQ,AL,BD,AX,AC,AA,AZ,AU,BH,BG,BR,AB,CZ,↓reduceIte,jA,jB,jC,enP,f36,wrap_succ (show k<9223372036854775807 by omega)]
   refine⟨n-1,by omega,k+1,by omega,f7,f34,f35,rfl,trivial,?_⟩;rw[AAN,hin,e2]; simpa using hi
 .have hd':¬k<(sets b).length:=by simpa using hd
  simp -implicitDefEqProofs only[BC,BA,BK,DJ,A8,EI,EW,ET,CG,AY,BB,AO,AQ,AL,BD,AX,AC,AA,AU,BM,A7,↓reduceIte,jB,jC];refine⟨?_,hx⟩;have:k=(sets b).length:=by omega
  subst this;unfold hit; rw[hin,hv0]; simp [hc']
theorem AX1 (G:Nat->AV)(b:Bin)(hb:BinOk b)(last:List Int)(m:SM)(v:Int)(h:Hp)(hl:last.length<=8388608) :
  PCall (En G) 106 [.agg (GV b),.sl m 1 (last.map encI),.int .i64 v] h (.bool (hit b last v)):=by
 refine ACalls.pure0 rfl ?_;refine acN Tryz.func106 rfl ?_;show awp _ _ _ _ _ (EN _ [.tmp 6] _);simp -implicitDefEqProofs only[BC,BA,A8,AY,BB,AO,AQ,AL,BD,AX,AC,AA,AZ,AU,BX,BM,A7,FU,BQ,CB,BU,BZ,AB,BF,jD,jE,jF,↓reduceIte,jA,jB,jC,enP,bxB,ldB];refine(AFU G b hb _).use ?_;simp -implicitDefEqProofs only[BI,A8,AY,BB,AO,AQ,AL,BD,AX,AC,AA,AZ,AU,BH,BR,AB,EK,↓reduceIte,jB,jC,enP];refine CU (fun hv=>?_) (fun hv=>?_)
 .simp -implicitDefEqProofs only[BC,BA,BK,A8,CP,CG,AY,BB,AO,AQ,AL,BD,AX,AC,AA,AU,BM,A7,↓reduceIte,jB,jC]
  refine⟨?_,_,rfl⟩;have:IA b≠0:=by simpa using hv
  simp [hit,this]
 have hv0:IA b=0:=by simpa using hv
 have h1:=AC5 hv0;have hnum:=hb.num;simp -implicitDefEqProofs only[BC,BA,BO,A8,AY,AO,AQ,AL,BD,AX,AC,AA,AZ,BX,BQ,CB,BU,AB,jD,jE,jF,↓reduceIte,jA,jB,jC,enP,ldB];refine(AJK G b _).use ?_;have hw:IntKind.i64.wrap (((sets b).length:Int)-1)=(((sets b).length-1:Nat):Int):=by rw[wrap_i64 (by omega) (by omega)]; omega
 simp -implicitDefEqProofs only[BC,BA,A8,AY,BB,BL,BV,CO,AO,AQ,AL,BD,AX,AC,AA,AZ,AU,BH,BG,A7,BR,D7,AB,J5,DC,BF,BN,↓reduceIte,jA,jB,jC,enP,JA,RS,jI,hw];have hd1:(sets b).length-1<(sets b).length:=by omega
 have e2:setAt b ((sets b).length-1)=(sets b)[(sets b).length-1].l:=by unfold setAt; simp [hd1]
 have ev:VS last (sets b).length v ((sets b).length-1)=v:=by unfold VS; rw[if_neg (by omega)]
 refine SK (fun F H=>F 30=.bool (decide (¬(sets b).length<=last.length+1) || !inside (setAt b ((sets b).length-1)) v)∧F 1=.sl m 1 (last.map encI)∧F 7=.sl (S9 b) 1 ((sets b).map encS)∧F 8=.int .i64 ((sets b).length-1:Nat)∧H=h++[.live 4 [GV b]]) ?_ ?_
 .refine IL (fun hc=>?_) (fun hc=>?_)
  .simp -implicitDefEqProofs only[AY,BB,BL,BV,CO,F7,AO,AQ,AL,BD,AX,AC,AA,EX,AZ,AU,BM,CQ,DY,BF,BN,↓reduceIte,jA,jB,jC,hc]
   have:¬(sets b).length<=last.length+1:=by simp at hc; omega
   exact⟨by simp [this],trivial,trivial,trivial,trivial⟩
  .simp -implicitDefEqProofs only[BL,BV,CO,ES,AO,AQ,AL,BD,AX,AC,AA,AZ,BX,BG,BQ,CE,CB,BU,AB,BF,BN,jD,jE,jF,↓reduceIte,jA,jB,jC,enP,ABM,hc,DU hd1,DF PE hd1,ABR]
   refine(YF G _ _ _ _ (hb.sets _ (jS hd1))).use ?_;simp -implicitDefEqProofs only[AY,BB,BL,BV,CO,ES,AO,AQ,AL,BD,AX,AC,AA,AZ,AU,BM,CQ,DX,IE,AB,FK,BF,BN,↓reduceIte,jA,jB,jC,hc];have:(sets b).length<=last.length+1:=by simp at hc; omega
   exact⟨by simp [this,e2],trivial,trivial,trivial,trivial⟩
 rintro F H ⟨f30,f1,f7,f8,rfl⟩;simp -implicitDefEqProofs only[BI,A8,AZ,f30];refine CU (fun hc=>?_) (fun hc=>?_)
 .simp -implicitDefEqProofs only[BC,BA,BK,A8,CP,CG,AY,BB,AO,AQ,AL,BD,AX,AC,AA,AU,BM,A7,↓reduceIte,jB,jC]
  refine⟨?_,_,rfl⟩;rw[Bool.or_eq_true] at hc;rcases hc with h'|h'
  .have:¬(sets b).length<=last.length+1:=by simpa using h'
   simp [hit,this]
  .unfold hit
   rw[AHW hd1 (by rw[ev]; simpa using h')]; simp
 have hc1:(sets b).length<=last.length+1:=by
  have:=(Bool.or_eq_false_iff.1 hc).1;simpa using this
 have hc2:inside (setAt b ((sets b).length-1)) v=true:=by
  have:=(Bool.or_eq_false_iff.1 hc).2;simpa using this
 simp -implicitDefEqProofs only[BC,BP,BA,BO,A8,AY,BB,AO,AQ,AL,BD,AX,AC,AU,BH,A7,jB,jC,f1,f7,f8];refine DK (fun n F H'=>∃k,n+k=(sets b).length-1∧F 1=.sl m 1 (last.map encI)∧F 7=.sl (S9 b) 1 ((sets b).map encS)∧F 8=.int .i64 ((sets b).length-1:Nat)∧F 9=.int .i64 (k:Nat)∧H'=h++[.live 4 [GV b]]∧AHX b last v k=true) ((sets b).length-1) ⟨0,by simp,by simp -implicitDefEqProofs only[AA,↓reduceIte,jA,f1],by simp -implicitDefEqProofs only[AA,↓reduceIte,jA,f7],by simp -implicitDefEqProofs only[AA,↓reduceIte,jA,f8],by simp -implicitDefEqProofs only[AA,↓reduceIte]; rfl,rfl,rfl⟩ ?_;rintro n F H' ⟨k,hk,f1,f7,f8,f9,rfl,hin⟩;simp -implicitDefEqProofs only[BC,BA,BI,A8,AY,BB,AO,AQ,AL,BD,AX,AC,AA,AZ,BG,BR,AB,DC,↓reduceIte,jA,jB,jC,enP,f8,f9];refine CU (fun hd=>?_) (fun hd=>?_)
 .have hd':k<(sets b).length-1:=by simp at hd; omega
  have hd2:k<(sets b).length:=by omega
  have hdl:last.length+1-(sets b).length+k<last.length:=by omega
  have e3:setAt b k=(sets b)[k].l:=by unfold setAt; simp [hd2]
  have e4:VS last (sets b).length v k=last[last.length+1-(sets b).length+k]:=by unfold VS; rw[if_pos (by omega),jU hdl]; rfl
  have w1:IntKind.i64.wrap ((last.length:Int)-(((sets b).length-1:Nat):Int))=((last.length+1-(sets b).length:Nat):Int):=by rw[wrap_i64 (by omega) (by omega)]; omega
  have w2:IntKind.i64.wrap (((last.length+1-(sets b).length:Nat):Int)+(k:Int))=((last.length+1-(sets b).length+k:Nat):Int):=by rw[wrap_i64 (by omega) (by omega)]; omega
  simp -implicitDefEqProofs only[BC,BP,BO,A8];refine EZ (by kernel_rfl) ?_;simp -implicitDefEqProofs only[FZ,ED,DN,EF,FO,FB,IY,AC2,EE,IC,GH,F8,AO,AA,AZ,BX,BQ,BR,IE,CE,D7,AB,CZ,J5,jD,jE,jF,↓reduceIte,jA,Nat.reduceAdd,jB,enP,JF,JA,ABM,f1,f7,f8,f9,jI,w1,w2,DU hd2,DF PE hd2,ABR,DU hdl,DF ag3 hdl,encI0];refine⟨_,YF G _ _ _ _ (hb.sets _ (jS hd2)),?_⟩;simp -implicitDefEqProofs only[DN,E8,BI,A8,AA,AZ,AB,FK,↓reduceIte];refine CU (fun hi=>?_) (fun hi=>?_)
  .simp -implicitDefEqProofs only[BC,BA,BK,A8,CP,EG,FQ,CG,AY,BB,AO,AQ,AL,BD,AX,AC,AA,AU,BM,A7,↓reduceIte,jB,jC]
   refine⟨?_,_,rfl⟩;have hi':inside (sets b)[k].l last[last.length+1-(sets b).length+k]=false:=by simpa using hi
   unfold hit;rw[AHW hd2 (by rw[e3,e4]; exact hi')]; simp
  .simp -implicitDefEqProofs only[BA,BO,A8,EJ,EQ,AY,BB,AO,AQ,AL,BD,AX,AC,AA,AZ,AU,BH,BG,A7,BR,AB,CZ,↓reduceIte,jA,jB,jC,enP,f9,wrap_succ (show k<9223372036854775807 by omega)]
   refine⟨n-1,by omega,k+1,by omega,f1,f7,f8,rfl,trivial,?_⟩;rw[AAN,hin,e3,e4]; simpa using hi
 .have hd':¬k<(sets b).length-1:=by simp at hd; omega
  simp -implicitDefEqProofs only[BC,BA,BK,DJ,A8,EI,EW,ET,CG,AY,BB,AO,AQ,AL,BD,AX,AC,AA,AU,BM,A7,↓reduceIte,jB,jC];refine⟨?_,_,rfl⟩;have:k=(sets b).length-1:=by omega
  subst this
  have hall:AHX b last v (sets b).length=true:=by
   have:=AAN b last v ((sets b).length-1);rw[show(sets b).length-1+1=(sets b).length by omega] at this;rw[this,hin,ev,hc2]; rfl
  unfold hit; rw[hall,hv0]; simp [hc1]
end Go.Proofs.YtocilianjfhifaaGreatDoor.Bins
set_option linter.unusedSimpArgs false
set_option maxRecDepth 8000
namespace Go.Proofs.YtocilianjfhifaaGreatDoor.Wd
open Sm Bins Cov Go.RowKit
open Bool renaming not_false→jC
open Int renaming toNat_natCast→wF
open List renaming map_cons→jD,map_nil→jE,append_nil→jF,nil_append→zY,cons_append→qK
open Nat renaming mod_lt→qJ,le_refl→jM,reduceAdd→jK,add_zero→jL,le_of_ble_eq_true→jH,reduceEqDiff→jA
open Option renaming getD_some→jB
def wW (z:Int):Nat:=(z%65536).toNat
theorem AOA (z:Int):wW z<65536:=by unfold wW; omega
theorem TM {a:Nat}(h:a<65536):wW (a:Int)=a:=by unfold wW; omega
theorem AWG (z:Int):((wW z:Nat):Int)=z%65536:=by unfold wW; omega
def LY (a i:Nat):Nat:=a/2^i%2
def KP (a:Nat):Nat->Nat
 | 0=>0
 | k+1=>KP a k+LY a k
def VY (a:Nat):Nat:=KP a 16
def AAC (a:Nat)(n:Int):Nat:=if n<0∨n≥16 then 0 else a*2^n.toNat%65536
def X5 (a:Nat)(n:Int):Nat:=if n<0∨n≥16 then 0 else a/2^n.toNat
theorem ACZ (a i:Nat):LY a i<2:=qJ _ (by omega)
theorem PK (a:Nat):∀k,KP a k<=k
 | 0=>jM 0
 | k+1=>by have:=PK a k; have:=ACZ a k; unfold KP; omega
theorem TI (a i:Nat)(hi:i<8):LY (a%256) i=LY a i:=by
 unfold LY;have:i=0∨i=1∨i=2∨i=3∨i=4∨i=5∨i=6∨i=7:=by omega
 rcases this with rfl|rfl|rfl|rfl|rfl|rfl|rfl|rfl<;>simp only[Nat.reducePow]<;>omega
theorem AVO (a i:Nat):LY (a/256) i=LY a (8+i):=by
 unfold LY;rw[Nat.div_div_eq_div_mul,Nat.pow_add]
theorem ATI (a:Nat):VY a=KP (a/256) 8+KP (a%256) 8:=by
 unfold VY;simp only[KP,AVO,TI a 0 (by omega),TI a 1 (by omega),TI a 2 (by omega),TI a 3 (by omega),TI a 4 (by omega),TI a 5 (by omega),TI a 6 (by omega),TI a 7 (by omega),jK,jL];omega
theorem ASI {n:Int}(h0:0<=n)(h1:n<65536):IntKind.u16.wrap n=n:=by
 have e:IntKind.u16.wrap n=n%65536:=by simp [IntKind.wrap,IntKind.bits,IntKind.signed]
 rw[e]; omega
theorem TY (n:Int):IntKind.u16.wrap n=n%65536:=by simp [IntKind.wrap,IntKind.bits,IntKind.signed]
theorem AY2 (z:Int):JG Tryz.prog 3 .and (.int .i64 z) (.int .i64 65535)=some (.int .i64 ((wW z:Nat):Int)):=by
 have e:JG Tryz.prog 3 .and (.int .i64 z) (.int .i64 65535)=some (.int .i64 (IntKind.i64.wrap ((BitVec.ofInt 64 z &&& BitVec.ofInt 64 65535).toNat:Int))):=rfl;rw[e,BitVec.toNat_and];have h1:(BitVec.ofInt 64 65535).toNat=2^16-1:=by decide
 rw[h1,Nat.and_two_pow_sub_one_eq_mod,BitVec.toNat_ofInt]
 have h2:((z%((2^64:Nat):Int)).toNat%2^16)=wW z:=by
  unfold wW;simp only[Nat.reducePow];omega
 rw[h2,MF (by have:=AOA z; omega)]
theorem ARU (a:Nat)(h:a<65536):(BitVec.ofInt 64 (a:Int)).toNat=a:=by
 rw[BitVec.ofInt_natCast,BitVec.toNat_ofNat];exact Nat.mod_eq_of_lt (by omega)
theorem A32 (a b:Nat)(ha:a<65536)(hb:b<65536):JG Tryz.prog 3 .and (.int .i64 (a:Nat)) (.int .i64 (b:Nat))=some (.int .i64 ((a &&& b:Nat):Int)):=by
 have e:JG Tryz.prog 3 .and (.int .i64 (a:Nat)) (.int .i64 (b:Nat))=some (.int .i64 (IntKind.i64.wrap ((BitVec.ofInt 64 (a:Int) &&& BitVec.ofInt 64 (b:Int)).toNat:Int))):=rfl;have hx:a &&& b<2^16:=Nat.and_lt_two_pow _ (by omega);rw[e,BitVec.toNat_and,ARU a ha,ARU b hb,MF (by omega)]
theorem A41 (a b:Nat)(ha:a<65536)(hb:b<65536):JG Tryz.prog 3 .or (.int .i64 (a:Nat)) (.int .i64 (b:Nat))=some (.int .i64 ((a ||| b:Nat):Int)):=by
 have e:JG Tryz.prog 3 .or (.int .i64 (a:Nat)) (.int .i64 (b:Nat))=some (.int .i64 (IntKind.i64.wrap ((BitVec.ofInt 64 (a:Int) ||| BitVec.ofInt 64 (b:Int)).toNat:Int))):=rfl
 have hx:a ||| b<2^16:=Nat.or_lt_two_pow (by omega) (by omega)
 rw[e,BitVec.toNat_or,ARU a ha,ARU b hb,MF (by omega)]
theorem A1T (a b:Nat)(ha:a<65536)(hb:b<65536):JG Tryz.prog 3 .xor (.int .i64 (a:Nat)) (.int .i64 (b:Nat))=some (.int .i64 ((a ^^^ b:Nat):Int)):=by
 have e:JG Tryz.prog 3 .xor (.int .i64 (a:Nat)) (.int .i64 (b:Nat))=some (.int .i64 (IntKind.i64.wrap ((BitVec.ofInt 64 (a:Int) ^^^ BitVec.ofInt 64 (b:Int)).toNat:Int))):=rfl;have hx:a ^^^ b<2^16:=Nat.xor_lt_two_pow (by omega) (by omega);rw[e,BitVec.toNat_xor,ARU a ha,ARU b hb,MF (by omega)]
theorem AAZ (E:Env)(fid:FuncId)(a:AV)(l args caps:List AV)(h:Hp)(K:AV->Hp->Prop):APZ E (.fn (.func fid) (a::l) caps) args h K=ACalls E fid ((a::l)++(args++caps)) h K:=rfl
theorem PY (G:Nat->AV)(z:Int)(h:Hp):PCall (En G) 262 [.int .i64 z] h (.int .u16 ((wW z:Nat):Int)):=by
 have:=AOA z;refine acN Tryz.func262 rfl ?_;show awp _ _ _ _ _ (EN _ [.tmp 2] _);simp -implicitDefEqProofs only[BC,BA,BK,A8,CG,AY,BB,AO,AQ,AL,BD,AX,AC,AA,AZ,AU,BH,BG,A7,BR,Z9,AB,BF,↓reduceIte,jA,jB,jC,enP,AYN,AY2,ASI (n:=((wW z:Nat):Int)) (by omega) (by omega)];exact⟨trivial,trivial⟩
theorem UZ (G:Nat->AV)(a:Nat)(ha:a<65536)(h:Hp):PCall (En G) 263 [.int .u16 (a:Nat)] h (.int .i64 (a:Nat)):=by
 refine acN Tryz.func263 rfl ?_;show awp _ _ _ _ _ (EN _ [.tmp 2] _);simp -implicitDefEqProofs only[BC,BA,BK,A8,CG,AY,BB,AO,AQ,AL,BD,AX,AC,AA,AZ,AU,BH,BG,A7,Z9,AB,BF,↓reduceIte,jA,jB,jC,enP,AYO,MF (n:=a) (by omega)];exact⟨trivial,trivial⟩
theorem AP4 (G:Nat->AV)(z:Int)(h:Hp):PCall (En G) 237 [.int .i64 z] h (.int .i64 ((wW z:Nat):Int)):=by
 refine acN Tryz.func237 rfl ?_;show awp _ _ _ _ _ (EN _ [.tmp 2] _);simp -implicitDefEqProofs only[BC,BA,A8,AY,BB,AO,AQ,AL,BD,AX,AC,AA,AZ,AU,BX,BH,BG,A7,CB,BU,BF,jD,jE,jF,↓reduceIte,jA,jB,jC,enP];refine(PY G z h).use ?_;simp -implicitDefEqProofs only[AY,AO,AQ,AL,BD,AX,AC,AA,AZ,BX,CB,BU,jD,jE,jF,↓reduceIte,jB,jC];refine(UZ G _ (AOA z) h).use ?_;simp -implicitDefEqProofs only[BK,A8,CG,AY,BB,AO,AQ,AL,BD,AX,AC,AA,AZ,A7,↓reduceIte,jB,jC];exact⟨trivial,trivial⟩
theorem AC8 (G:Nat->AV)(k:FuncId)(a b r:Nat)(hb:b<65536)(hr:r<65536)(h:Hp)(hc:PCall (En G) k [.int .u16 (a:Nat),.int .u16 (b:Nat)] h (.int .u16 (r:Nat))) :
  PCall (En G) 264 [.fn (.func k) [.int .u16 (a:Nat)] [],.int .i64 (b:Nat)] h (.int .i64 (r:Nat)):=by
 have ho:=PY G (b:Nat) h;rw[TM hb] at ho;refine acN Tryz.func264 rfl ?_;show awp _ _ _ _ _ (EN _ [.tmp 4] _);simp -implicitDefEqProofs only[BC,BA,A8,AY,BB,AO,AQ,AL,BD,AX,AC,AA,AZ,AU,BX,BH,BG,A7,CB,BU,BF,BN,jD,jE,jF,↓reduceIte,jA,jB,jC,enP];refine ho.use ?_;simp -implicitDefEqProofs only[AY,AO,AQ,AL,BD,AX,AC,AA,AZ,CB,jD,jE,jF,zY,qK,↓reduceIte,jA,jB,jC,AAZ];refine hc.use ?_;simp -implicitDefEqProofs only[AY,AO,AQ,AL,BD,AX,AC,AA,AZ,BX,CB,BU,jD,jE,jF,↓reduceIte,jB,jC];refine(UZ G r hr h).use ?_;simp -implicitDefEqProofs only[BK,A8,CG,AY,BB,AO,AQ,AL,BD,AX,AC,AA,AZ,A7,↓reduceIte,jB,jC];exact⟨trivial,trivial⟩
theorem AJ9 (G:Nat->AV)(k:FuncId)(a r:Nat)(hr:r<65536)(h:Hp)(hc:PCall (En G) k [.int .u16 (a:Nat)] h (.int .u16 (r:Nat))) :
  PCall (En G) 291 [.fn (.func k) [.int .u16 (a:Nat)] []] h (.int .i64 (r:Nat)):=by
 refine acN Tryz.func291 rfl ?_;show awp _ _ _ _ _ (EN _ [.tmp 2] _);simp -implicitDefEqProofs only[BC,BA,A8,AY,BB,AO,AQ,AL,BD,AX,AC,AA,AZ,AU,BH,BG,A7,CB,BF,jE,jF,↓reduceIte,jA,jB,jC,enP,AAZ];refine hc.use ?_;simp -implicitDefEqProofs only[AY,AO,AQ,AL,BD,AX,AC,AA,AZ,BX,CB,BU,jD,jE,jF,↓reduceIte,jB,jC];refine(UZ G r hr h).use ?_;simp -implicitDefEqProofs only[BK,A8,CG,AY,BB,AO,AQ,AL,BD,AX,AC,AA,AZ,A7,↓reduceIte,jB,jC];exact⟨trivial,trivial⟩
theorem AZ1 (G:Nat->AV)(a b:Nat)(ha:a<65536)(hb:b<65536)(h:Hp):PCall (En G) 238 [.int .i64 (a:Nat),.int .i64 (b:Nat)] h (.int .i64 (((a+b)%65536:Nat):Int)):=by
 have hc:PCall (En G) 265 [.int .u16 (a:Nat),.int .u16 (b:Nat)] h (.int .u16 (((a+b)%65536:Nat):Int)):=by
  have e:IntKind.u16.wrap ((a:Int)+(b:Int))=(((a+b)%65536:Nat):Int):=by rw[TY]; omega
  refine acN Tryz.func265 rfl ?_;show awp _ _ _ _ _ (EN _ [.tmp 4] _);simp -implicitDefEqProofs only[BC,BA,BK,A8,CG,AY,BB,AO,AQ,AL,BD,AX,AC,AA,AZ,AU,BH,BG,A7,BR,AB,CZ,BF,BN,↓reduceIte,jA,jB,jC,enP,e];exact⟨trivial,trivial⟩
 have ho:=PY G (a:Nat) h;rw[TM ha] at ho;refine acN Tryz.func238 rfl ?_;show awp _ _ _ _ _ (EN _ [.tmp 4] _);simp -implicitDefEqProofs only[BC,BA,A8,AY,BB,AO,AQ,AL,BD,AX,AC,AA,AZ,AU,BX,BH,BG,A7,CB,BU,BF,jD,jE,jF,↓reduceIte,jA,jB,jC,enP];refine ho.use ?_;simp -implicitDefEqProofs only[AY,AO,AQ,AL,BD,AX,AC,AA,AZ,BX,BG,I8,CB,BU,BF,BN,jD,jE,jF,↓reduceIte,jA,jB,jC];refine(AC8 G 265 a b _ hb (qJ _ (by omega)) h hc).use ?_;simp -implicitDefEqProofs only[BK,A8,CG,AY,BB,AO,AQ,AL,BD,AX,AC,AA,AZ,A7,↓reduceIte,jB,jC];exact⟨trivial,trivial⟩
theorem A10 (G:Nat->AV)(a b:Nat)(ha:a<65536)(hb:b<65536)(h:Hp):PCall (En G) 270 [.int .i64 (a:Nat),.int .i64 (b:Nat)] h (.int .i64 (((a+65536-b)%65536:Nat):Int)):=by
 have hc:PCall (En G) 295 [.int .u16 (a:Nat),.int .u16 (b:Nat)] h (.int .u16 (((a+65536-b)%65536:Nat):Int)):=by
  have e:IntKind.u16.wrap ((a:Int)-(b:Int))=(((a+65536-b)%65536:Nat):Int):=by rw[TY]; omega
  refine acN Tryz.func295 rfl ?_;show awp _ _ _ _ _ (EN _ [.tmp 4] _);simp -implicitDefEqProofs only[BC,BA,BK,A8,CG,AY,BB,AO,AQ,AL,BD,AX,AC,AA,AZ,AU,BH,BG,A7,BR,AB,J5,BF,BN,↓reduceIte,jA,jB,jC,enP,e];exact⟨trivial,trivial⟩
 have ho:=PY G (a:Nat) h;rw[TM ha] at ho;refine acN Tryz.func270 rfl ?_;show awp _ _ _ _ _ (EN _ [.tmp 4] _);simp -implicitDefEqProofs only[BC,BA,A8,AY,BB,AO,AQ,AL,BD,AX,AC,AA,AZ,AU,BX,BH,BG,A7,CB,BU,BF,jD,jE,jF,↓reduceIte,jA,jB,jC,enP];refine ho.use ?_;simp -implicitDefEqProofs only[AY,AO,AQ,AL,BD,AX,AC,AA,AZ,BX,BG,I8,CB,BU,BF,BN,jD,jE,jF,↓reduceIte,jA,jB,jC];refine(AC8 G 295 a b _ hb (qJ _ (by omega)) h hc).use ?_;simp -implicitDefEqProofs only[BK,A8,CG,AY,BB,AO,AQ,AL,BD,AX,AC,AA,AZ,A7,↓reduceIte,jB,jC];exact⟨trivial,trivial⟩
theorem A2N (G:Nat->AV)(a b:Nat)(ha:a<65536)(hb:b<65536)(h:Hp):PCall (En G) 271 [.int .i64 (a:Nat),.int .i64 (b:Nat)] h (.int .i64 ((a*b%65536:Nat):Int)):=by
 have hc:PCall (En G) 296 [.int .u16 (a:Nat),.int .u16 (b:Nat)] h (.int .u16 ((a*b%65536:Nat):Int)):=by
  have e:IntKind.u16.wrap ((a:Int)*(b:Int))=((a*b%65536:Nat):Int):=by rw[TY]; rw[<-Int.natCast_mul]; rfl
  refine acN Tryz.func296 rfl ?_;show awp _ _ _ _ _ (EN _ [.tmp 4] _);simp -implicitDefEqProofs only[BC,BA,BK,A8,CG,AY,BB,AO,AQ,AL,BD,AX,AC,AA,AZ,AU,BH,BG,A7,BR,AB,PZ,BF,BN,↓reduceIte,jA,jB,jC,enP,e];exact⟨trivial,trivial⟩
 have ho:=PY G (a:Nat) h;rw[TM ha] at ho;refine acN Tryz.func271 rfl ?_;show awp _ _ _ _ _ (EN _ [.tmp 4] _);simp -implicitDefEqProofs only[BC,BA,A8,AY,BB,AO,AQ,AL,BD,AX,AC,AA,AZ,AU,BX,BH,BG,A7,CB,BU,BF,jD,jE,jF,↓reduceIte,jA,jB,jC,enP];refine ho.use ?_;simp -implicitDefEqProofs only[AY,AO,AQ,AL,BD,AX,AC,AA,AZ,BX,BG,I8,CB,BU,BF,BN,jD,jE,jF,↓reduceIte,jA,jB,jC];refine(AC8 G 296 a b _ hb (qJ _ (by omega)) h hc).use ?_;simp -implicitDefEqProofs only[BK,A8,CG,AY,BB,AO,AQ,AL,BD,AX,AC,AA,AZ,A7,↓reduceIte,jB,jC];exact⟨trivial,trivial⟩
theorem A2Y (G:Nat->AV)(a:Nat)(ha:a<65536)(h:Hp):PCall (En G) 267 [.int .i64 (a:Nat)] h (.int .i64 ((65535-a:Nat):Int)):=by
 have hu:aUn .xor (.int .u16 (a:Nat))=some (.int .u16 ((65535-a:Nat):Int)):=by
  have e:aUn .xor (.int .u16 (a:Nat))=some (.int .u16 (IntKind.u16.wrap ((BitVec.ofInt 16 65535 ^^^ BitVec.ofInt 16 (a:Int)).toNat:Int))):=rfl;have h1:BitVec.ofInt 16 65535=BitVec.allOnes 16:=by decide
  have h2:(BitVec.ofInt 16 (a:Int)).toNat=a:=by
   rw[BitVec.ofInt_natCast,BitVec.toNat_ofNat];exact Nat.mod_eq_of_lt (by omega)
  rw[e,h1,BitVec.allOnes_xor,BitVec.toNat_not,h2,ASI (by omega) (by simp only[Nat.reducePow]; omega)]
 have hc:PCall (En G) 292 [.int .u16 (a:Nat)] h (.int .u16 ((65535-a:Nat):Int)):=by
  refine acN Tryz.func292 rfl ?_;show awp _ _ _ _ _ (EN _ [.tmp 2] _);simp -implicitDefEqProofs only[BC,BA,BK,A8,CG,AY,BB,AO,AQ,AL,BD,AX,AC,AA,AZ,AU,BH,BG,A7,IE,AB,BF,↓reduceIte,jA,jB,jC,enP,hu];exact⟨trivial,trivial⟩
 have ho:=PY G (a:Nat) h;rw[TM ha] at ho;refine acN Tryz.func267 rfl ?_;show awp _ _ _ _ _ (EN _ [.tmp 2] _);simp -implicitDefEqProofs only[BC,BA,A8,AY,BB,AO,AQ,AL,BD,AX,AC,AA,AZ,AU,BX,BH,BG,A7,CB,BU,BF,jD,jE,jF,↓reduceIte,jA,jB,jC,enP];refine ho.use ?_;simp -implicitDefEqProofs only[AY,AO,AQ,AL,BD,AX,AC,AA,AZ,BX,I8,CB,BU,jD,jE,jF,↓reduceIte,jB,jC];refine(AJ9 G 292 a _ (by omega) h hc).use ?_;simp -implicitDefEqProofs only[BK,A8,CG,AY,BB,AO,AQ,AL,BD,AX,AC,AA,AZ,A7,↓reduceIte,jB,jC];exact⟨trivial,trivial⟩
theorem A2L (G:Nat->AV)(a:Nat)(ha:a<65536)(h:Hp):PCall (En G) 268 [.int .i64 (a:Nat)] h (.int .i64 (((65536-a)%65536:Nat):Int)):=by
 have hc:PCall (En G) 293 [.int .u16 (a:Nat)] h (.int .u16 (((65536-a)%65536:Nat):Int)):=by
  have e:IntKind.u16.wrap (0-(a:Int))=(((65536-a)%65536:Nat):Int):=by rw[TY]; omega
  refine acN Tryz.func293 rfl ?_;show awp _ _ _ _ _ (EN _ [.tmp 2] _);simp -implicitDefEqProofs only[BC,BA,BK,A8,CG,AY,BB,AO,AQ,AL,BD,AX,AC,AA,AZ,AU,BH,BG,A7,IE,AB,AZ7,BF,↓reduceIte,jA,jB,jC,enP,e];exact⟨trivial,trivial⟩
 have ho:=PY G (a:Nat) h;rw[TM ha] at ho;refine acN Tryz.func268 rfl ?_;show awp _ _ _ _ _ (EN _ [.tmp 2] _);simp -implicitDefEqProofs only[BC,BA,A8,AY,BB,AO,AQ,AL,BD,AX,AC,AA,AZ,AU,BX,BH,BG,A7,CB,BU,BF,jD,jE,jF,↓reduceIte,jA,jB,jC,enP];refine ho.use ?_;simp -implicitDefEqProofs only[AY,AO,AQ,AL,BD,AX,AC,AA,AZ,BX,I8,CB,BU,jD,jE,jF,↓reduceIte,jB,jC];refine(AJ9 G 293 a _ (qJ _ (by omega)) h hc).use ?_;simp -implicitDefEqProofs only[BK,A8,CG,AY,BB,AO,AQ,AL,BD,AX,AC,AA,AZ,A7,↓reduceIte,jB,jC];exact⟨trivial,trivial⟩
theorem ADG (G:Nat->AV)(k:FuncId)(a r:Nat)(n:Int)(hr:r<65536)(h:Hp)(hc:¬(n<0∨n≥16)->PCall (En G) k [.int .u16 (a:Nat),.int .i64 n] h (.int .u16 (r:Nat)))(h0:n<0∨n≥16->r=0) :
  PCall (En G) 297 [.fn (.func k) [.int .u16 (a:Nat)] [],.int .i64 n] h (.int .i64 (r:Nat)):=by
 refine acN Tryz.func297 rfl ?_;show awp _ _ _ _ _ (EN _ [.tmp 4] _);simp -implicitDefEqProofs only[BC,BA,A8,AY,BB,BL,BV,CO,AO,AQ,AL,BD,AX,AC,AA,AZ,AU,BH,BG,A7,BR,AB,DC,BF,BN,↓reduceIte,jA,jB,jC,enP];cases h1:decide (n<0)
 .have h1':¬n<0:=by simpa using h1
  cases h2:decide (n≥16)
  .have h2':¬n≥16:=by simpa using h2
   simp -implicitDefEqProofs only[BC,BA,BO,BI,A8,DT,AY,BB,BL,BV,CO,ES,AO,AQ,AL,BD,AX,AC,AA,AZ,AU,BH,BM,BG,CQ,DX,BR,CB,AB,G5,BF,BN,jD,jE,jF,zY,qK,↓reduceIte,jA,jB,jC,enP,h2,AAZ];refine(hc (by omega)).use ?_;simp -implicitDefEqProofs only[AY,AO,AQ,AL,BD,AX,AC,AA,AZ,BX,CB,BU,jD,jE,jF,↓reduceIte,jB,jC];refine(UZ G r hr h).use ?_;simp -implicitDefEqProofs only[BK,A8,CG,AY,BB,AO,AQ,AL,BD,AX,AC,AA,AZ,A7,↓reduceIte,jB,jC];exact⟨trivial,trivial⟩
  .have h2':n≥16:=by simpa using h2
   simp -implicitDefEqProofs only[BC,BA,BK,BI,A8,CP,CG,DI,AY,BB,BL,BV,CO,ES,AO,AQ,AL,BD,AX,AC,AA,AZ,AU,BH,BM,BG,A7,CQ,DX,BR,AB,G5,BF,BN,↓reduceIte,jA,jB,jC,enP,h2];exact⟨by rw[h0 (.inr h2')]; rfl,trivial⟩
 .have h1':n<0:=by simpa using h1
  simp -implicitDefEqProofs only[BC,BA,BK,BI,A8,CP,CG,DI,AY,BB,BL,BV,CO,F7,AO,AQ,AL,BD,AX,AC,AA,EX,AZ,AU,BH,BM,A7,CQ,DY,↓reduceIte,jA,jB,jC];exact⟨by rw[h0 (.inl h1')]; rfl,trivial⟩
theorem AOK {a:Nat}{n:Int}:AAC a n<65536:=by
 unfold AAC;split
 .omega
 .exact qJ _ (by omega)
theorem AOJ {a:Nat}{n:Int}(ha:a<65536):X5 a n<65536:=by
 unfold X5;split
 .omega
 .exact Nat.lt_of_le_of_lt (Nat.div_le_self _ _) ha
theorem A2B (G:Nat->AV)(a:Nat)(n:Int)(ha:a<65536)(h:Hp):PCall (En G) 272 [.int .i64 (a:Nat),.int .i64 n] h (.int .i64 (AAC a n:Nat)):=by
 have hc:¬(n<0∨n≥16)->PCall (En G) 298 [.int .u16 (a:Nat),.int .i64 n] h (.int .u16 (AAC a n:Nat)):=fun hn=>by
  have hb:JG Tryz.prog 252 .shl (.int .u16 (a:Nat)) (.int .i64 n)=some (.int .u16 (AAC a n:Nat)):=by
   have e:JG Tryz.prog 252 .shl (.int .u16 (a:Nat)) (.int .i64 n)=if n<0 then none else some (.int .u16 (IntKind.u16.wrap ((a:Int)*2^(min n.toNat 16)))):=rfl
   have h1:min n.toNat 16=n.toNat:=by omega
   rw[e,if_neg (by omega),h1,TY];unfold AAC;rw[if_neg hn,Int.natCast_emod,Int.natCast_mul,Int.natCast_pow];rfl
  refine acN Tryz.func298 rfl ?_;show awp _ _ _ _ _ (EN _ [.tmp 4] _);simp -implicitDefEqProofs only[BC,BA,BK,A8,CG,AY,BB,AO,AQ,AL,BD,AX,AC,AA,AZ,AU,BH,BG,A7,BR,AB,BF,BN,↓reduceIte,jA,jB,jC,enP,hb];exact⟨trivial,trivial⟩
 have ho:=PY G (a:Nat) h;rw[TM ha] at ho;refine acN Tryz.func272 rfl ?_;show awp _ _ _ _ _ (EN _ [.tmp 4] _);simp -implicitDefEqProofs only[BC,BA,A8,AY,BB,AO,AQ,AL,BD,AX,AC,AA,AZ,AU,BX,BH,BG,A7,CB,BU,BF,jD,jE,jF,↓reduceIte,jA,jB,jC,enP];refine ho.use ?_;simp -implicitDefEqProofs only[AY,AO,AQ,AL,BD,AX,AC,AA,AZ,BX,BG,I8,CB,BU,BF,BN,jD,jE,jF,↓reduceIte,jA,jB,jC];refine(ADG G 298 a _ n AOK h hc (fun hh=>by unfold AAC; rw[if_pos hh])).use ?_;simp -implicitDefEqProofs only[BK,A8,CG,AY,BB,AO,AQ,AL,BD,AX,AC,AA,AZ,A7,↓reduceIte,jB,jC];exact⟨trivial,trivial⟩
theorem A2A (G:Nat->AV)(a:Nat)(n:Int)(ha:a<65536)(h:Hp):PCall (En G) 273 [.int .i64 (a:Nat),.int .i64 n] h (.int .i64 (X5 a n:Nat)):=by
 have hc:¬(n<0∨n≥16)->PCall (En G) 299 [.int .u16 (a:Nat),.int .i64 n] h (.int .u16 (X5 a n:Nat)):=fun hn=>by
  have hb:JG Tryz.prog 252 .shr (.int .u16 (a:Nat)) (.int .i64 n)=some (.int .u16 (X5 a n:Nat)):=by
   have e:JG Tryz.prog 252 .shr (.int .u16 (a:Nat)) (.int .i64 n)=if n<0 then none else some (.int .u16 ((a:Int).fdiv (2^(min n.toNat 16)))):=rfl
   have h1:min n.toNat 16=n.toNat:=by omega
   rw[e,if_neg (by omega),h1];unfold X5;rw[if_neg hn,Int.fdiv_eq_ediv_of_nonneg _ (by exact Int.le_of_lt (Int.pow_pos (by decide))),Int.natCast_ediv,Int.natCast_pow];rfl
  refine acN Tryz.func299 rfl ?_;show awp _ _ _ _ _ (EN _ [.tmp 4] _);simp -implicitDefEqProofs only[BC,BA,BK,A8,CG,AY,BB,AO,AQ,AL,BD,AX,AC,AA,AZ,AU,BH,BG,A7,BR,AB,BF,BN,↓reduceIte,jA,jB,jC,enP,hb];exact⟨trivial,trivial⟩
 have ho:=PY G (a:Nat) h;rw[TM ha] at ho;refine acN Tryz.func273 rfl ?_;show awp _ _ _ _ _ (EN _ [.tmp 4] _);simp -implicitDefEqProofs only[BC,BA,A8,AY,BB,AO,AQ,AL,BD,AX,AC,AA,AZ,AU,BX,BH,BG,A7,CB,BU,BF,jD,jE,jF,↓reduceIte,jA,jB,jC,enP];refine ho.use ?_;simp -implicitDefEqProofs only[AY,AO,AQ,AL,BD,AX,AC,AA,AZ,BX,BG,I8,CB,BU,BF,BN,jD,jE,jF,↓reduceIte,jA,jB,jC];refine(ADG G 299 a _ n (AOJ ha) h hc (fun hh=>by unfold X5; rw[if_pos hh])).use ?_;simp -implicitDefEqProofs only[BK,A8,CG,AY,BB,AO,AQ,AL,BD,AX,AC,AA,AZ,A7,↓reduceIte,jB,jC];exact⟨trivial,trivial⟩
def AOE (fn:Func):ByteArray:=match fn.body with
 | some (.seq _ (.seq (.region _ ops _) _))=>match ops[2]? with
   | some o=>match o.op with
     | .index _ (.const (.string s)) _=>s
     | _=>⟨#[]⟩
   | none=>⟨#[]⟩
 | _=>⟨#[]⟩
theorem AWJ:(List.range 256).all (fun y=>(AOE Tryz.f294)[y]? == some (UInt8.ofNat (KP y 8)))=true:=by kernel_rfl
theorem ASQ {y:Nat}(hy:y<256)(h:Hp):ofO h (OH Tryz.prog 9 (.str (AOE Tryz.f294)) (.int .u16 (y:Nat)))=some (.int .u8 (KP y 8:Nat),h):=by
 have h1:=List.all_eq_true.1 AWJ y (by simpa using hy);have h2:(AOE Tryz.f294)[y]?=some (UInt8.ofNat (KP y 8)):=by simpa using h1
 have hle:=PK y 8;have hu:Tryz.prog.underlying 9=some .string:=by kernel_rfl
 have h3:OH Tryz.prog 9 (.str (AOE Tryz.f294)) (.int .u16 (y:Nat))=some (.int .u8 (KP y 8:Nat)):=by
  unfold OH;simp only[hu,wF,h2];rw[if_pos (by omega)];simp;omega
 rw[h3]; rfl
set_option maxHeartbeats 1000000 in
theorem AQT (G:Nat->AV)(a:Nat)(ha:a<65536)(h:Hp):PCall (En G) 269 [.int .i64 (a:Nat)] h (.int .i64 (VY a:Nat)):=by
 have hs:JG Tryz.prog 251 .shr (.int .u16 (a:Nat)) (.int .u64 8)=some (.int .u16 ((a/256:Nat):Int)):=by
  have e:JG Tryz.prog 251 .shr (.int .u16 (a:Nat)) (.int .u64 8)=some (.int .u16 ((a:Int).fdiv (2^8))):=rfl;rw[e,Int.fdiv_eq_ediv_of_nonneg _ (by decide)];rfl
 have hl:JG Tryz.prog 251 .and (.int .u16 (a:Nat)) (.int .u16 255)=some (.int .u16 ((a%256:Nat):Int)):=by
  have e:JG Tryz.prog 251 .and (.int .u16 (a:Nat)) (.int .u16 255)=some (.int .u16 (IntKind.u16.wrap ((BitVec.ofInt 16 (a:Int) &&& BitVec.ofInt 16 255).toNat:Int))):=rfl;have h1:(BitVec.ofInt 16 255).toNat=2^8-1:=by decide
  have h2:(BitVec.ofInt 16 (a:Int)).toNat=a:=by
   rw[BitVec.ofInt_natCast,BitVec.toNat_ofNat];exact Nat.mod_eq_of_lt (by omega)
  rw[e,BitVec.toNat_and,h1,Nat.and_two_pow_sub_one_eq_mod,h2,ASI (by omega) (by simp only[Nat.reducePow]; omega)]
 have l1:=PK (a/256) 8;have l2:=PK (a%256) 8
 have hadd:JG Tryz.prog 5 .add (.int .u8 (KP (a/256) 8:Nat)) (.int .u8 (KP (a%256) 8:Nat))=some (.int .u8 (VY a:Nat)):=by
  have e:JG Tryz.prog 5 .add (.int .u8 (KP (a/256) 8:Nat)) (.int .u8 (KP (a%256) 8:Nat))=some (.int .u8 (IntKind.u8.wrap ((KP (a/256) 8:Int)+(KP (a%256) 8:Int)))):=rfl;have e2:∀n:Int,IntKind.u8.wrap n=n%256:=fun n=>by simp [IntKind.wrap,IntKind.bits,IntKind.signed]
  have e3:=ATI a;rw[e,e2];congr 2;omega
 have h64:IntKind.i64.wrap ((VY a:Nat):Int)=((VY a:Nat):Int):=MF (by have:=PK a 16; unfold VY; omega)
 have hc:PCall (En G) 294 [.int .u16 (a:Nat)] h (.int .i64 (VY a:Nat)):=by
  refine acN Tryz.func294 rfl ?_;show awp _ _ _ _ _ (EN _ [.tmp 2] _);simp -implicitDefEqProofs only[BC,BA,A8,AY,BB,AO,AQ,AL,BD,AX,AC,AU,BH,A7,jB,jC,enP];refine EZ (by kernel_rfl) ?_;simp -implicitDefEqProofs only[FZ,ED,DN,EF,FO,IY,AG9,AO,AA,AZ,AU,BH,JM,BR,OW,AB,BF,↓reduceIte,jA,jK,jB,enP,hs,hl];refine HY (v:=.int .u8 (KP (a/256) 8:Nat)) (h:=h) (ASQ (by omega) h) ?_;simp -implicitDefEqProofs only[FZ,ED,DN,EF,FO,IY,AG9,AO,AA,AZ,AU,BH,JM,BR,OW,AB,BF,↓reduceIte,jA,jK,jB,enP,hs,hl];refine HY (v:=.int .u8 (KP (a%256) 8:Nat)) (h:=h) (ASQ (by omega) h) ?_;simp -implicitDefEqProofs only[FZ,ED,DN,E8,EF,I7,IY,ASG,BK,A8,CG,AO,AA,AZ,BR,Z9,AB,↓reduceIte,jA,jK,jB,enP,AU7,hadd,h64];exact⟨trivial,trivial⟩
 have ho:=PY G (a:Nat) h;rw[TM ha] at ho;refine acN Tryz.func269 rfl ?_;show awp _ _ _ _ _ (EN _ [.tmp 2] _);simp -implicitDefEqProofs only[BC,BA,A8,AY,BB,AO,AQ,AL,BD,AX,AC,AA,AZ,AU,BX,BH,BG,A7,CB,BU,BF,jD,jE,jF,↓reduceIte,jA,jB,jC,enP];refine ho.use ?_;simp -implicitDefEqProofs only[AY,AO,AQ,AL,BD,AX,AC,AA,AZ,BX,CB,BU,jD,jE,jF,↓reduceIte,jB,jC];refine hc.use ?_;simp -implicitDefEqProofs only[BK,A8,CG,AY,BB,AO,AQ,AL,BD,AX,AC,AA,AZ,A7,↓reduceIte,jB,jC];exact⟨trivial,trivial⟩
theorem RD (G:Nat->AV)(z:Int)(h:Hp)(hz : -9223372036854775808<=z∧z<=9223372036854775807):PCall (En G) 276 [.int .i64 z] h (.int .i64 (wW z:Nat)):=by
 have hr:JG Tryz.prog 3 .rem (.int .i64 z) (.int .i64 65536)=some (.int .i64 (z.tmod 65536)):=AC0 _ _ _ _ _ (by decide)
 have hm:z.tmod 65536=if z<0 then -((-z)%65536) else z%65536:=by
  split
  .have h1:z = -(-z):=by omega
   conv=>lhs; rw[h1]
   rw[Int.neg_tmod,Int.tmod_eq_emod_of_nonneg (by omega)]
  .rw[Int.tmod_eq_emod_of_nonneg (by omega)]
 have hw:=AWG z;refine acN Tryz.func276 rfl ?_;show awp _ _ _ _ _ (EN _ [.tmp 2] _);simp -implicitDefEqProofs only[BC,BA,BI,A8,AY,BB,AO,AQ,AL,BD,AX,AC,AA,AZ,AU,BH,BG,A7,BR,AB,DC,BF,↓reduceIte,jA,jB,jC,enP,hr]
 generalize z.tmod 65536=t at hm|-
 have h0 : -65536<t∧t<65536:=by
  rw[hm]; split<;>omega
 cases hc:decide (t<0)
 .have hc':¬t<0:=by simpa using hc
  have e:t=((wW z:Nat):Int):=by
   rw[hw]; split at hm<;>omega
  simp -implicitDefEqProofs only[BC,BA,BO,BK,A8,CG,DT,AY,BB,AO,AQ,AL,BD,AX,AC,AA,AZ,BG,A7,↓reduceIte,jA,jB,jC,hc];exact⟨by rw[e],trivial⟩
 .have hc':t<0:=by simpa using hc
  have e:IntKind.i64.wrap (IntKind.i64.wrap (t+65535)+1)=((wW z:Nat):Int):=by
   have e1:IntKind.i64.wrap (t+65535)=t+65535:=wrap_i64 (by omega) (by omega);rw[hw,e1,wrap_i64 (by omega) (by omega)];split at hm<;>omega
  simp -implicitDefEqProofs only[BC,BA,BK,A8,CG,DI,AY,BB,AO,AQ,AL,BD,AX,AC,AA,AZ,AU,BH,BG,A7,BR,AB,CZ,↓reduceIte,jA,jB,jC,enP,hc,e];exact⟨trivial,trivial⟩
theorem MS (G:Nat->AV)(a:Nat)(ha:a<65536)(h:Hp):PCall (En G) 276 [.int .i64 (a:Nat)] h (.int .i64 (a:Nat)):=by
 have:=RD G (a:Nat) h (by omega)
 rwa [TM ha] at this
theorem AF5 (G:Nat->AV)(n:Nat)(hn:n<=16)(h:Hp):PCall (En G) 303 [.int .i64 (n:Nat)] h (.int .i64 ((2^n:Nat):Int)):=by
 refine acN Tryz.func303 rfl ?_;show awp _ _ _ _ _ (EN _ [.tmp 2] _);simp -implicitDefEqProofs only[BC,BP,BA,A8,AY,BB,AO,AQ,AL,BD,AX,AC,AU,BH,A7,jB,jC,enP];refine DK (fun k F H=>∃i,k+i=n∧F 0=.int .i64 (n:Nat)∧F 3=.int .i64 ((2^i:Nat):Int)∧F 4=.int .i64 (i:Nat)∧H=h) n ⟨0,by simp,by simp -implicitDefEqProofs only[AA,BF,↓reduceIte,jA],by simp -implicitDefEqProofs only[AA,↓reduceIte,jA]<;>rfl,by simp -implicitDefEqProofs only[AA,↓reduceIte]<;>rfl,rfl⟩ ?_;rintro k F H ⟨i,hi,f0,f3,f4,rfl⟩;simp -implicitDefEqProofs only[BC,BA,BI,A8,AY,BB,AO,AQ,AL,BD,AX,AC,AA,AZ,BG,BR,AB,DC,↓reduceIte,jA,jB,jC,enP,f0,f4];refine CU (fun hc=>?_) (fun hc=>?_)
 .have hi':i<n:=by simpa using hc
  have hp:2^i<=2^16:=Nat.pow_le_pow_right (by omega) (by omega)
  have e:IntKind.i64.wrap (2*((2^i:Nat):Int))=((2^(i+1):Nat):Int):=by
   simp only[Nat.reducePow] at hp;rw[show(2:Int)*((2^i:Nat):Int)=((2^i*2:Nat):Int) by rw[Int.natCast_mul,Int.mul_comm]; rfl,Nat.pow_succ];exact MF (by omega)
  simp -implicitDefEqProofs only[BC,BP,BA,BO,A8,EJ,EQ,AY,BB,AO,AQ,AL,BD,AX,AC,AA,AZ,AU,BH,BG,A7,BR,AB,CZ,PZ,↓reduceIte,jA,jB,jC,enP,f3,f4,e,wrap_succ (show i<9223372036854775807 by omega)];exact⟨k-1,by omega,i+1,by omega,f0,by trivial,by trivial,trivial⟩
 .have hi':i=n:=by
   have:¬i<n:=by simpa using hc
   omega
  subst hi';simp -implicitDefEqProofs only[BC,BA,BK,DJ,A8,EI,EW,ET,CG,AY,BB,AO,AQ,AL,BD,AX,AC,AA,AZ,BG,A7,↓reduceIte,jA,jB,jC,f3];exact⟨by trivial,trivial⟩
theorem AZ2 (G:Nat->AV)(a b:Nat)(ha:a<65536)(hb:b<65536)(h:Hp):PCall (En G) 250 [.int .i64 (a:Nat),.int .i64 (b:Nat)] h (.int .i64 (((a+b)%65536:Nat):Int)):=by
 have e:IntKind.i64.wrap ((a:Int)+(b:Int))=(a:Int)+(b:Int):=wrap_i64 (by omega) (by omega);have e2:wW ((a:Int)+(b:Int))=(a+b)%65536:=by unfold wW; omega
 refine acN Tryz.func250 rfl ?_;show awp _ _ _ _ _ (EN _ [.tmp 4] _);simp -implicitDefEqProofs only[BC,BA,A8,AY,BB,AO,AQ,AL,BD,AX,AC,AA,AZ,AU,BX,BH,BG,A7,CB,BU,BF,jD,jE,jF,↓reduceIte,jA,jB,jC,enP];refine(MS G a ha h).use ?_;simp -implicitDefEqProofs only[AY,AO,AQ,AL,BD,AX,AC,AA,AZ,BX,BG,CB,BU,BF,BN,jD,jE,jF,↓reduceIte,jA,jB,jC];refine(MS G b hb h).use ?_;simp -implicitDefEqProofs only[AY,AO,AQ,AL,BD,AX,AC,AA,AZ,BX,BR,CB,BU,AB,CZ,jD,jE,jF,↓reduceIte,jA,jB,jC,enP,e];refine(RD G _ h (by omega)).use ?_;simp -implicitDefEqProofs only[BK,A8,CG,AY,BB,AO,AQ,AL,BD,AX,AC,AA,AZ,A7,↓reduceIte,jB,jC,e2];exact⟨trivial,trivial⟩
theorem A11 (G:Nat->AV)(a b:Nat)(ha:a<65536)(hb:b<65536)(h:Hp):PCall (En G) 282 [.int .i64 (a:Nat),.int .i64 (b:Nat)] h (.int .i64 (((a+65536-b)%65536:Nat):Int)):=by
 have e:IntKind.i64.wrap ((a:Int)-(b:Int))=(a:Int)-(b:Int):=wrap_i64 (by omega) (by omega);have e2:wW ((a:Int)-(b:Int))=(a+65536-b)%65536:=by unfold wW; omega
 refine acN Tryz.func282 rfl ?_;show awp _ _ _ _ _ (EN _ [.tmp 4] _);simp -implicitDefEqProofs only[BC,BA,A8,AY,BB,AO,AQ,AL,BD,AX,AC,AA,AZ,AU,BX,BH,BG,A7,CB,BU,BF,jD,jE,jF,↓reduceIte,jA,jB,jC,enP];refine(MS G a ha h).use ?_;simp -implicitDefEqProofs only[AY,AO,AQ,AL,BD,AX,AC,AA,AZ,BX,BG,CB,BU,BF,BN,jD,jE,jF,↓reduceIte,jA,jB,jC];refine(MS G b hb h).use ?_;simp -implicitDefEqProofs only[AY,AO,AQ,AL,BD,AX,AC,AA,AZ,BX,BR,CB,BU,AB,J5,jD,jE,jF,↓reduceIte,jA,jB,jC,enP,e];refine(RD G _ h (by omega)).use ?_;simp -implicitDefEqProofs only[BK,A8,CG,AY,BB,AO,AQ,AL,BD,AX,AC,AA,AZ,A7,↓reduceIte,jB,jC,e2];exact⟨trivial,trivial⟩
theorem mul_lt {a b:Nat}(ha:a<65536)(hb:b<=65536):a*b<=65535*65536:=Nat.mul_le_mul (by omega) hb
theorem A2O (G:Nat->AV)(a b:Nat)(ha:a<65536)(hb:b<65536)(h:Hp):PCall (En G) 283 [.int .i64 (a:Nat),.int .i64 (b:Nat)] h (.int .i64 ((a*b%65536:Nat):Int)):=by
 have hm:=mul_lt ha (Nat.le_of_lt hb);have e:IntKind.i64.wrap ((a:Int)*(b:Int))=((a*b:Nat):Int):=by rw[<-Int.natCast_mul]; exact MF (by omega)
 have e2:wW ((a*b:Nat):Int)=a*b%65536:=by unfold wW; omega
 refine acN Tryz.func283 rfl ?_;show awp _ _ _ _ _ (EN _ [.tmp 4] _);simp -implicitDefEqProofs only[BC,BA,A8,AY,BB,AO,AQ,AL,BD,AX,AC,AA,AZ,AU,BX,BH,BG,A7,CB,BU,BF,jD,jE,jF,↓reduceIte,jA,jB,jC,enP];refine(MS G a ha h).use ?_;simp -implicitDefEqProofs only[AY,AO,AQ,AL,BD,AX,AC,AA,AZ,BX,BG,CB,BU,BF,BN,jD,jE,jF,↓reduceIte,jA,jB,jC];refine(MS G b hb h).use ?_;simp -implicitDefEqProofs only[AY,AO,AQ,AL,BD,AX,AC,AA,AZ,BX,BR,CB,BU,AB,PZ,jD,jE,jF,↓reduceIte,jA,jB,jC,enP,e];refine(RD G _ h (by omega)).use ?_;simp -implicitDefEqProofs only[BK,A8,CG,AY,BB,AO,AQ,AL,BD,AX,AC,AA,AZ,A7,↓reduceIte,jB,jC,e2];exact⟨trivial,trivial⟩
theorem A2Z (G:Nat->AV)(a:Nat)(ha:a<65536)(h:Hp):PCall (En G) 279 [.int .i64 (a:Nat)] h (.int .i64 ((65535-a:Nat):Int)):=by
 have e:IntKind.i64.wrap (65535-(a:Int))=((65535-a:Nat):Int):=by rw[wrap_i64 (by omega) (by omega)]; omega
 refine acN Tryz.func279 rfl ?_;show awp _ _ _ _ _ (EN _ [.tmp 2] _);simp -implicitDefEqProofs only[BC,BA,A8,AY,BB,AO,AQ,AL,BD,AX,AC,AA,AZ,AU,BX,BH,BG,A7,CB,BU,BF,jD,jE,jF,↓reduceIte,jA,jB,jC,enP];refine(MS G a ha h).use ?_;simp -implicitDefEqProofs only[BK,A8,CG,AY,BB,AO,AQ,AL,BD,AX,AC,AA,AZ,AU,BH,A7,BR,AB,J5,↓reduceIte,jB,jC,enP,e];exact⟨trivial,trivial⟩
theorem A2M (G:Nat->AV)(a:Nat)(ha:a<65536)(h:Hp):PCall (En G) 280 [.int .i64 (a:Nat)] h (.int .i64 (((65536-a)%65536:Nat):Int)):=by
 have e:IntKind.i64.wrap (0-(a:Int))=0-(a:Int):=wrap_i64 (by omega) (by omega);have e2:wW (0-(a:Int))=(65536-a)%65536:=by unfold wW; omega
 refine acN Tryz.func280 rfl ?_;show awp _ _ _ _ _ (EN _ [.tmp 2] _);simp -implicitDefEqProofs only[BC,BA,A8,AY,BB,AO,AQ,AL,BD,AX,AC,AA,AZ,AU,BX,BH,BG,A7,CB,BU,BF,jD,jE,jF,↓reduceIte,jA,jB,jC,enP];refine(MS G a ha h).use ?_;simp -implicitDefEqProofs only[AY,AO,AQ,AL,BD,AX,AC,AA,AZ,AU,BX,BH,BR,CB,BU,AB,J5,jD,jE,jF,↓reduceIte,jB,jC,enP,e];refine(RD G _ h (by omega)).use ?_;simp -implicitDefEqProofs only[BK,A8,CG,AY,BB,AO,AQ,AL,BD,AX,AC,AA,AZ,A7,↓reduceIte,jB,jC,e2];exact⟨trivial,trivial⟩
theorem A2C (G:Nat->AV)(a:Nat)(n:Int)(ha:a<65536)(h:Hp):PCall (En G) 287 [.int .i64 (a:Nat),.int .i64 n] h (.int .i64 (AAC a n:Nat)):=by
 refine acN Tryz.func287 rfl ?_;show awp _ _ _ _ _ (EN _ [.tmp 4] _);simp -implicitDefEqProofs only[BC,BA,A8,AY,BB,BL,BV,CO,AO,AQ,AL,BD,AX,AC,AA,AZ,AU,BH,BG,A7,BR,AB,DC,BF,BN,↓reduceIte,jA,jB,jC,enP];cases h1:decide (n<0)
 .have h1':¬n<0:=by simpa using h1
  cases h2:decide (n>15)
  .have h2':¬n>15:=by simpa using h2
   obtain⟨k,rfl⟩:=Int.eq_ofNat_of_zero_le (show 0<=n by omega);have hp:2^k<=2^16:=Nat.pow_le_pow_right (by omega) (by omega);have hm:=mul_lt ha hp;have e:IntKind.i64.wrap ((a:Int)*((2^k:Nat):Int))=((a*2^k:Nat):Int):=by rw[<-Int.natCast_mul]; exact MF (by omega)
   have e2:wW ((a*2^k:Nat):Int)=AAC a (k:Nat):=by
    unfold AAC wW;rw[if_neg (by omega),wF];omega
   simp -implicitDefEqProofs only[BC,BA,BO,BI,A8,DT,AY,BB,BL,BV,CO,ES,AO,AQ,AL,BD,AX,AC,AA,AZ,AU,BX,BH,BM,BG,CQ,DX,BR,CB,BU,AB,FV,BF,BN,jD,jE,jF,↓reduceIte,jA,jB,jC,enP,h2];refine(MS G a ha h).use ?_;simp -implicitDefEqProofs only[AY,AO,AQ,AL,BD,AX,AC,AA,AZ,BX,BG,CB,BU,BF,BN,jD,jE,jF,↓reduceIte,jA,jB,jC];refine(AF5 G k (by omega) h).use ?_;simp -implicitDefEqProofs only[AY,AO,AQ,AL,BD,AX,AC,AA,AZ,BX,BR,CB,BU,AB,PZ,jD,jE,jF,↓reduceIte,jA,jB,jC,enP,e];refine(RD G _ h (by omega)).use ?_;simp -implicitDefEqProofs only[BK,A8,CG,AY,BB,AO,AQ,AL,BD,AX,AC,AA,AZ,A7,↓reduceIte,jB,jC,e2];exact⟨trivial,trivial⟩
  .have h2':n>15:=by simpa using h2
   simp -implicitDefEqProofs only[BC,BA,BK,BI,A8,CP,CG,DI,AY,BB,BL,BV,CO,ES,AO,AQ,AL,BD,AX,AC,AA,AZ,AU,BH,BM,BG,A7,CQ,DX,BR,AB,FV,BF,BN,↓reduceIte,jA,jB,jC,enP,h2];exact⟨by unfold AAC; rw[if_pos (by omega)]; rfl,trivial⟩
 .have h1':n<0:=by simpa using h1
  simp -implicitDefEqProofs only[BC,BA,BK,BI,A8,CP,CG,DI,AY,BB,BL,BV,CO,F7,AO,AQ,AL,BD,AX,AC,AA,EX,AZ,AU,BH,BM,A7,CQ,DY,↓reduceIte,jA,jB,jC];exact⟨by unfold AAC; rw[if_pos (by omega)]; rfl,trivial⟩
theorem AZO (G:Nat->AV)(a:Nat)(n:Int)(ha:a<65536)(h:Hp):PCall (En G) 288 [.int .i64 (a:Nat),.int .i64 n] h (.int .i64 (X5 a n:Nat)):=by
 refine acN Tryz.func288 rfl ?_;show awp _ _ _ _ _ (EN _ [.tmp 4] _);simp -implicitDefEqProofs only[BC,BA,A8,AY,BB,BL,BV,CO,AO,AQ,AL,BD,AX,AC,AA,AZ,AU,BH,BG,A7,BR,AB,DC,BF,BN,↓reduceIte,jA,jB,jC,enP];cases h1:decide (n<0)
 .have h1':¬n<0:=by simpa using h1
  cases h2:decide (n>15)
  .have h2':¬n>15:=by simpa using h2
   obtain⟨k,rfl⟩:=Int.eq_ofNat_of_zero_le (show 0<=n by omega);have hp:0<2^k:=Nat.pow_pos (by omega)
   have e2:a/2^k=X5 a (k:Nat):=by
    unfold X5;rw[if_neg (by omega),wF]
   simp -implicitDefEqProofs only[BC,BA,BO,BI,A8,DT,AY,BB,BL,BV,CO,ES,AO,AQ,AL,BD,AX,AC,AA,AZ,AU,BX,BH,BM,BG,CQ,DX,BR,CB,BU,AB,FV,BF,BN,jD,jE,jF,↓reduceIte,jA,jB,jC,enP,h2];refine(MS G a ha h).use ?_;simp -implicitDefEqProofs only[AY,AO,AQ,AL,BD,AX,AC,AA,AZ,BX,BG,CB,BU,BF,BN,jD,jE,jF,↓reduceIte,jA,jB,jC];refine(AF5 G k (by omega) h).use ?_;simp -implicitDefEqProofs only[BK,A8,CG,AY,BB,AO,AQ,AL,BD,AX,AC,AA,AZ,A7,BR,AB,↓reduceIte,jA,jB,jC,enP,ACO a (2^k) hp (by omega),e2];exact⟨trivial,trivial⟩
  .have h2':n>15:=by simpa using h2
   simp -implicitDefEqProofs only[BC,BA,BK,BI,A8,CP,CG,DI,AY,BB,BL,BV,CO,ES,AO,AQ,AL,BD,AX,AC,AA,AZ,AU,BH,BM,BG,A7,CQ,DX,BR,AB,FV,BF,BN,↓reduceIte,jA,jB,jC,enP,h2];exact⟨by unfold X5; rw[if_pos (by omega)]; rfl,trivial⟩
 .have h1':n<0:=by simpa using h1
  simp -implicitDefEqProofs only[BC,BA,BK,BI,A8,CP,CG,DI,AY,BB,BL,BV,CO,F7,AO,AQ,AL,BD,AX,AC,AA,EX,AZ,AU,BH,BM,A7,CQ,DY,↓reduceIte,jA,jB,jC];exact⟨by unfold X5; rw[if_pos (by omega)]; rfl,trivial⟩
theorem AIP (G:Nat->AV)(a i:Nat)(ha:a<65536)(hi:i<16)(h:Hp):PCall (En G) 301 [.int .i64 (a:Nat),.int .i64 (i:Nat)] h (.int .i64 (LY a i:Nat)):=by
 have e:X5 a (i:Nat)=a/2^i:=by
  unfold X5;rw[if_neg (by omega),wF]
 refine acN Tryz.func301 rfl ?_;show awp _ _ _ _ _ (EN _ [.tmp 4] _);have hr:=AHH (a/2^i) 2 (by omega);have hr':JG Tryz.prog 3 .rem (.int .i64 ((a/2^i:Nat):Int)) (.int .i64 2)=some (.int .i64 (LY a i:Nat)):=hr;simp -implicitDefEqProofs only[BC,BA,A8,AY,BB,AO,AQ,AL,BD,AX,AC,AA,AZ,AU,BX,BH,BG,A7,CB,BU,BF,BN,jD,jE,jF,↓reduceIte,jA,jB,jC,enP];refine(AZO G a i ha h).use ?_;simp -implicitDefEqProofs only[BK,A8,CG,AY,BB,AO,AQ,AL,BD,AX,AC,AA,AZ,AU,BH,A7,BR,AB,↓reduceIte,jB,jC,enP,e,hr'];exact⟨trivial,trivial⟩
theorem A0S (G:Nat->AV)(a:Nat)(ha:a<65536)(h:Hp):PCall (En G) 281 [.int .i64 (a:Nat)] h (.int .i64 (VY a:Nat)):=by
 refine acN Tryz.func281 rfl ?_;show awp _ _ _ _ _ (EN _ [.tmp 2] _);simp -implicitDefEqProofs only[BC,BP,BA,A8,AY,BB,AO,AQ,AL,BD,AX,AC,AU,BH,A7,jB,jC,enP];refine DK (fun k F H=>∃i,k+i=16∧F 0=.int .i64 (a:Nat)∧F 3=.int .i64 (KP a i:Nat)∧F 4=.int .i64 (i:Nat)∧H=h) 16 ⟨0,by simp,by simp -implicitDefEqProofs only[AA,BF,↓reduceIte,jA],by simp -implicitDefEqProofs only[AA,↓reduceIte,jA]<;>rfl,by simp -implicitDefEqProofs only[AA,↓reduceIte]<;>rfl,rfl⟩ ?_;rintro k F H ⟨i,hi,f0,f3,f4,rfl⟩;simp -implicitDefEqProofs only[BC,BA,BI,A8,AY,BB,AO,AQ,AL,BD,AX,AC,AA,AZ,AU,BH,BG,BR,AB,DC,↓reduceIte,jB,jC,enP,f4];refine CU (fun hc=>?_) (fun hc=>?_)
 .have hi':i<16:=by simp at hc; omega
  have hle:=PK a (i+1)
  have e:IntKind.i64.wrap (((KP a i:Nat):Int)+((LY a i:Nat):Int))=((KP a (i+1):Nat):Int):=by
   have:KP a (i+1)=KP a i+LY a i:=rfl;rw[wrap_i64 (by omega) (by omega)]; omega
  simp -implicitDefEqProofs only[BC,BP,BA,BO,A8,AY,AO,AQ,AL,BD,AX,AC,AA,AZ,BX,BG,CB,BU,jD,jE,jF,↓reduceIte,jA,jB,jC,f0,f3,f4];refine(AIP G a i ha hi' H).use ?_;simp -implicitDefEqProofs only[BA,A8,EJ,EQ,AY,BB,AO,AQ,AL,BD,AX,AC,AA,AZ,AU,BH,BG,A7,BR,AB,CZ,↓reduceIte,jA,jB,jC,enP,f3,f4,e,wrap_succ (show i<9223372036854775807 by omega)];exact⟨k-1,by omega,i+1,by omega,f0,by trivial,by trivial,trivial⟩
 .have hi':i=16:=by simp at hc; omega
  subst hi';simp -implicitDefEqProofs only[BC,BA,BK,DJ,A8,EI,EW,ET,CG,AY,BB,AO,AQ,AL,BD,AX,AC,AA,AZ,BG,A7,↓reduceIte,jA,jB,jC,f3];exact⟨by trivial,trivial⟩
def NT (lo hi a b:Nat):Nat->Nat
 | 0=>0
 | k+1=>2*NT lo hi a b k+(if lo<=LY a (15-k)+LY b (15-k)∧LY a (15-k)+LY b (15-k)<=hi then 1 else 0)
theorem AGV (lo hi a b:Nat):∀k,NT lo hi a b k<2^k
 | 0=>by simp [NT]
 | k+1=>by
   have:=AGV lo hi a b k;unfold NT;rw[Nat.pow_succ];split<;>omega
theorem ACY (lo hi a b x:Nat)(hx:x<65536)(hb:∀i,i<16->LY x i=if lo<=LY a i+LY b i∧LY a i+LY b i<=hi then 1 else 0):∀k,k<=16->NT lo hi a b k=x/2^(16-k)
 | 0,_=>by
   unfold NT;rw[Nat.div_eq_of_lt (by simpa using hx)]
 | k+1,hk=>by
   unfold NT;rw[ACY lo hi a b x hx hb k (by omega),<-hb (15-k) (by omega)];unfold LY;rw[show 16-(k+1)=15-k by omega,show 16-k=(15-k)+1 by omega,Nat.pow_succ,<-Nat.div_div_eq_div_mul];omega
theorem O4 (x i:Nat):LY x i=if x.testBit i=true then 1 else 0:=by
 have:=ACZ x i;rw[Nat.testBit_eq_decide_div_mod_eq];unfold LY at *;simp only[decide_eq_true_eq];split<;>omega
theorem AVN (a b:Nat)(ha:a<65536):NT 2 2 a b 16=a &&& b:=by
 rw[ACY 2 2 a b (a &&& b) (Nat.lt_of_le_of_lt Nat.and_le_left ha) (fun i _=>?_) 16 (jM _)]
 .simp
 .rw[O4,O4,O4,Nat.testBit_and]
  cases a.testBit i<;>cases b.testBit i<;>simp
theorem AYU (a b:Nat)(ha:a<65536)(hb:b<65536):NT 1 2 a b 16=a ||| b:=by
 rw[ACY 1 2 a b (a ||| b) (Nat.or_lt_two_pow (n:=16) (by omega) (by omega)) (fun i _=>?_) 16 (jM _)]
 .simp
 .rw[O4,O4,O4,Nat.testBit_or]
  cases a.testBit i<;>cases b.testBit i<;>simp
theorem AVM (a b:Nat)(ha:a<65536)(hb:b<65536):NT 1 1 a b 16=a ^^^ b:=by
 rw[ACY 1 1 a b (a ^^^ b) (Nat.xor_lt_two_pow (n:=16) (by omega) (by omega)) (fun i _=>?_) 16 (jM _)]
 .simp
 .rw[O4,O4,O4,Nat.testBit_xor]
  cases a.testBit i<;>cases b.testBit i<;>simp
theorem AEW (G:Nat->AV)(lo hi a b:Nat)(ha:a<65536)(hb:b<65536)(h:Hp):PCall (En G) 302 [.int .i64 (a:Nat),.int .i64 (b:Nat),.int .i64 (lo:Nat),.int .i64 (hi:Nat)] h (.int .i64 (NT lo hi a b 16:Nat)):=by
 refine acN Tryz.func302 rfl ?_;show awp _ _ _ _ _ (EN _ [.tmp 8] _);simp -implicitDefEqProofs only[BC,BP,BA,A8,AY,BB,AO,AQ,AL,BD,AX,AC,AU,BH,A7,jB,jC,enP]
 refine DK (fun n F H=>∃k,n+k=16∧F 0=.int .i64 (a:Nat)∧F 1=.int .i64 (b:Nat)∧F 2=.int .i64 (lo:Nat)∧F 3=.int .i64 (hi:Nat)∧F 9=.int .i64 (NT lo hi a b k:Nat)∧F 10=.int .i64 (15-(k:Int))∧H=h) 16
  ⟨0,by simp,by simp -implicitDefEqProofs only[AA,BF,↓reduceIte,jA],by simp -implicitDefEqProofs only[AA,BF,BN,↓reduceIte,jA],by simp -implicitDefEqProofs only[AA,BF,BN,↓reduceIte,jA],by simp -implicitDefEqProofs only[AA,BF,BN,↓reduceIte,jA],by simp -implicitDefEqProofs only[AA,↓reduceIte,jA]<;>rfl,by simp -implicitDefEqProofs only[AA,↓reduceIte]<;>rfl,rfl⟩ ?_
 rintro n F H ⟨k,hk,f0,f1,f2,f3,f9,f10,rfl⟩;simp -implicitDefEqProofs only[BC,BA,BI,A8,AY,BB,AO,AQ,AL,BD,AX,AC,AA,AZ,AU,BH,BG,BR,AB,G5,↓reduceIte,jB,jC,enP,f10];refine CU (fun hc=>?_) (fun hc=>?_)
 .have hk':k<16:=by simp at hc; omega
  have e0:(15-(k:Int))=((15-k:Nat):Int):=by omega
  have l1:=ACZ a (15-k);have l2:=ACZ b (15-k);have l3:=AGV lo hi a b k;have l4:2^k<=2^15:=Nat.pow_le_pow_right (by omega) (by omega);simp only[Nat.reducePow] at l4;have es:IntKind.i64.wrap (((LY a (15-k):Nat):Int)+((LY b (15-k):Nat):Int))=((LY a (15-k)+LY b (15-k):Nat):Int):=by rw[wrap_i64 (by omega) (by omega)]; omega
  have e2:IntKind.i64.wrap (2*((NT lo hi a b k:Nat):Int))=((2*NT lo hi a b k:Nat):Int):=by rw[wrap_i64 (by omega) (by omega)]; omega
  have e3:IntKind.i64.wrap (((15-k:Nat):Int)-1)=15-((k+1:Nat):Int):=by rw[wrap_i64 (by omega) (by omega)]; omega
  have hst:NT lo hi a b (k+1)=2*NT lo hi a b k+(if lo<=LY a (15-k)+LY b (15-k)∧LY a (15-k)+LY b (15-k)<=hi then 1 else 0):=rfl;simp -implicitDefEqProofs only[BC,BP,BA,BO,A8,AY,AO,AQ,AL,BD,AX,AC,AA,AZ,BX,BG,CB,BU,jD,jE,jF,↓reduceIte,jA,jB,jC,f0,f10,e0];refine(AIP G a (15-k) ha (by omega) H).use ?_;simp -implicitDefEqProofs only[AY,AO,AQ,AL,BD,AX,AC,AA,AZ,BX,BG,CB,BU,jD,jE,jF,↓reduceIte,jA,jB,jC,f1,f10,e0];refine(AIP G b (15-k) hb (by omega) H).use ?_;simp -implicitDefEqProofs only[BC,BA,A8,AY,BB,BL,BV,CO,AO,AQ,AL,BD,AX,AC,AA,AZ,AU,BH,BG,A7,BR,AB,CZ,PZ,G5,↓reduceIte,jA,jB,jC,enP,f2,f3,f9,es,e2];cases h1:decide (((LY a (15-k)+LY b (15-k):Nat):Int)≥((lo:Nat):Int))
  .have h1':¬lo<=LY a (15-k)+LY b (15-k):=by simp at h1; omega
   rw[if_neg (fun q=>h1' q.1),jL] at hst;simp -implicitDefEqProofs only[BA,BO,BI,A8,EJ,EQ,DT,AY,BB,BL,BV,CO,IX,AO,AQ,AL,BD,AX,AC,AA,EX,AZ,AU,BH,BM,BG,A7,CQ,DX,BR,AB,J5,↓reduceIte,jA,jB,jC,enP,h1,f10,e0,e3];exact⟨n-1,by omega,k+1,by omega,f0,f1,f2,f3,by rw[hst]<;>rfl,by trivial,trivial⟩
  .have h1':lo<=LY a (15-k)+LY b (15-k):=by simp at h1; omega
   cases h2:decide (((LY a (15-k)+LY b (15-k):Nat):Int)<=((hi:Nat):Int))
   .have h2':¬LY a (15-k)+LY b (15-k)<=hi:=by simp at h2; omega
    rw[if_neg (fun q=>h2' q.2),jL] at hst;simp -implicitDefEqProofs only[BA,BO,BI,A8,EJ,EQ,DT,AY,BB,BL,BV,CO,F9,AO,AQ,AL,BD,AX,AC,AA,AZ,AU,BH,BM,BG,A7,CQ,DY,BR,AB,J5,JC,↓reduceIte,jA,jB,jC,enP,h1,h2,f3,f10,e0,e3];exact⟨n-1,by omega,k+1,by omega,f0,f1,f2,by trivial,by rw[hst]<;>rfl,by trivial,trivial⟩
   .have h2':LY a (15-k)+LY b (15-k)<=hi:=by simp at h2; omega
    rw[if_pos ⟨h1',h2'⟩] at hst;simp -implicitDefEqProofs only[BA,BI,A8,EJ,EQ,DI,AY,BB,BL,BV,CO,F9,AO,AQ,AL,BD,AX,AC,AA,AZ,AU,BH,BM,BG,A7,CQ,DY,BR,AB,CZ,J5,JC,↓reduceIte,jA,jB,jC,enP,h1,h2,f3,f10,e0,e3,wrap_succ (show 2*NT lo hi a b k<9223372036854775807 by omega)];exact⟨n-1,by omega,k+1,by omega,f0,f1,f2,by trivial,by rw[hst]<;>rfl,by trivial,trivial⟩
 .have hk':k=16:=by simp at hc; omega
  subst hk';simp -implicitDefEqProofs only[BC,BA,BK,DJ,A8,EI,EW,ET,CG,AY,BB,AO,AQ,AL,BD,AX,AC,AA,AZ,BG,A7,↓reduceIte,jA,jB,jC,f9];exact⟨by trivial,trivial⟩
theorem A33 (G:Nat->AV)(a b:Nat)(ha:a<65536)(hb:b<65536)(h:Hp):PCall (En G) 284 [.int .i64 (a:Nat),.int .i64 (b:Nat)] h (.int .i64 ((a &&& b:Nat):Int)):=by
 have hc:=AEW G 2 2 a b ha hb h;rw[AVN a b ha] at hc;have hc':PCall (En G) 302 [.int .i64 (a:Nat),.int .i64 (b:Nat),.int .i64 2,.int .i64 2] h (.int .i64 ((a &&& b:Nat):Int)):=hc;refine acN Tryz.func284 rfl ?_;show awp _ _ _ _ _ (EN _ [.tmp 4] _);simp -implicitDefEqProofs only[BC,BA,A8,AY,BB,AO,AQ,AL,BD,AX,AC,AA,AZ,AU,BX,BH,BG,A7,CB,BU,BF,BN,jD,jE,jF,↓reduceIte,jA,jB,jC,enP];refine hc'.use ?_;simp -implicitDefEqProofs only[BK,A8,CG,AY,BB,AO,AQ,AL,BD,AX,AC,AA,AZ,A7,↓reduceIte,jB,jC];exact⟨trivial,trivial⟩
theorem A42 (G:Nat->AV)(a b:Nat)(ha:a<65536)(hb:b<65536)(h:Hp):PCall (En G) 285 [.int .i64 (a:Nat),.int .i64 (b:Nat)] h (.int .i64 ((a ||| b:Nat):Int)):=by
 have hc:=AEW G 1 2 a b ha hb h;rw[AYU a b ha hb] at hc;have hc':PCall (En G) 302 [.int .i64 (a:Nat),.int .i64 (b:Nat),.int .i64 1,.int .i64 2] h (.int .i64 ((a ||| b:Nat):Int)):=hc;refine acN Tryz.func285 rfl ?_;show awp _ _ _ _ _ (EN _ [.tmp 4] _);simp -implicitDefEqProofs only[BC,BA,A8,AY,BB,AO,AQ,AL,BD,AX,AC,AA,AZ,AU,BX,BH,BG,A7,CB,BU,BF,BN,jD,jE,jF,↓reduceIte,jA,jB,jC,enP];refine hc'.use ?_;simp -implicitDefEqProofs only[BK,A8,CG,AY,BB,AO,AQ,AL,BD,AX,AC,AA,AZ,A7,↓reduceIte,jB,jC];exact⟨trivial,trivial⟩
theorem A1U (G:Nat->AV)(a b:Nat)(ha:a<65536)(hb:b<65536)(h:Hp):PCall (En G) 286 [.int .i64 (a:Nat),.int .i64 (b:Nat)] h (.int .i64 ((a ^^^ b:Nat):Int)):=by
 have hc:=AEW G 1 1 a b ha hb h;rw[AVM a b ha hb] at hc;have hc':PCall (En G) 302 [.int .i64 (a:Nat),.int .i64 (b:Nat),.int .i64 1,.int .i64 1] h (.int .i64 ((a ^^^ b:Nat):Int)):=hc;refine acN Tryz.func286 rfl ?_;show awp _ _ _ _ _ (EN _ [.tmp 4] _);simp -implicitDefEqProofs only[BC,BA,A8,AY,BB,AO,AQ,AL,BD,AX,AC,AA,AZ,AU,BX,BH,BG,A7,CB,BU,BF,BN,jD,jE,jF,↓reduceIte,jA,jB,jC,enP];refine hc'.use ?_;simp -implicitDefEqProofs only[BK,A8,CG,AY,BB,AO,AQ,AL,BD,AX,AC,AA,AZ,A7,↓reduceIte,jB,jC];exact⟨trivial,trivial⟩
end Go.Proofs.YtocilianjfhifaaGreatDoor.Wd
set_option linter.unusedSimpArgs false
set_option maxRecDepth 8000
namespace Go.Proofs.YtocilianjfhifaaGreatDoor.Xe
open Sm Bins Cov Wd Go.RowKit
open Bool renaming eq_iff_iff→qM,not_false→jC,not_true→jT,or_false→jQ,or_true→qZ
open Int renaming reduceBEq→zF
open List renaming map_cons→jD,map_nil→jE,append_nil→jF
open Nat renaming mod_lt→qJ,le_of_ble_eq_true→jH,reduceEqDiff→jA
open Option renaming getD_some→jB
def tr (b:Bool):Nat:=if b then 1 else 0
def sgW (op:Int)(a:Nat):Nat:=if op=4 then tr (a==0) else if op=5 then 65535-a else if op=6 then (65536-a)%65536 else VY a
def dbW (op:Int)(a b:Nat):Nat :=
 if op=7 then (a+b)%65536 else if op=8 then (a+65536-b)%65536 else if op=9 then a*b%65536 else if op=10 then a &&& b else if op=11 then a ||| b else if op=12 then a ^^^ b
 else if op=13 then AAC a (b:Nat) else if op=14 then X5 a (b:Nat) else if op=15 then tr (a==b) else if op=16 then tr (!(a==b)) else if op=17 then tr (decide (a<b)) else if op=18 then tr (decide (a<=b))
 else if op=19 then tr (!(a==0) && !(b==0)) else if op=20 then tr (!(a==0) || !(b==0)) else tr ((a==0) || !(b==0))
theorem YV (b:Bool):tr b<65536:=by cases b<;>decide
theorem A0I {op:Int}{a:Nat}(ha:a<65536):sgW op a<65536:=by
 unfold sgW;by_cases h4:op=4
 .rw[if_pos h4]; exact YV _
 by_cases h5:op=5
 .rw[if_neg h4,if_pos h5]; omega
 by_cases h6:op=6
 .rw[if_neg h4,if_neg h5,if_pos h6]; exact qJ _ (by omega)
 .rw[if_neg h4,if_neg h5,if_neg h6]
  have:=PK a 16;unfold VY; omega
theorem A1C {op:Int}{a b:Nat}(ha:a<65536)(hb:b<65536):dbW op a b<65536:=by
 unfold dbW;by_cases h7:op=7
 .rw[if_pos h7]; exact qJ _ (by omega)
 by_cases h8:op=8
 .rw[if_neg h7,if_pos h8]; exact qJ _ (by omega)
 by_cases h9:op=9
 .rw[if_neg h7,if_neg h8,if_pos h9]; exact qJ _ (by omega)
 by_cases h10:op=10
 .rw[if_neg h7,if_neg h8,if_neg h9,if_pos h10]; exact Nat.lt_of_le_of_lt Nat.and_le_left ha
 by_cases h11:op=11
 .rw[if_neg h7,if_neg h8,if_neg h9,if_neg h10,if_pos h11]; exact Nat.or_lt_two_pow (n:=16) (by omega) (by omega)
 by_cases h12:op=12
 .rw[if_neg h7,if_neg h8,if_neg h9,if_neg h10,if_neg h11,if_pos h12]; exact Nat.xor_lt_two_pow (n:=16) (by omega) (by omega)
 by_cases h13:op=13
 .rw[if_neg h7,if_neg h8,if_neg h9,if_neg h10,if_neg h11,if_neg h12,if_pos h13]; exact AOK
 by_cases h14:op=14
 .rw[if_neg h7,if_neg h8,if_neg h9,if_neg h10,if_neg h11,if_neg h12,if_neg h13,if_pos h14]; exact AOJ ha
 by_cases h15:op=15
 .rw[if_neg h7,if_neg h8,if_neg h9,if_neg h10,if_neg h11,if_neg h12,if_neg h13,if_neg h14,if_pos h15]; exact YV _
 by_cases h16:op=16
 .rw[if_neg h7,if_neg h8,if_neg h9,if_neg h10,if_neg h11,if_neg h12,if_neg h13,if_neg h14,if_neg h15,if_pos h16]; exact YV _
 by_cases h17:op=17
 .rw[if_neg h7,if_neg h8,if_neg h9,if_neg h10,if_neg h11,if_neg h12,if_neg h13,if_neg h14,if_neg h15,if_neg h16,if_pos h17]; exact YV _
 by_cases h18:op=18
 .rw[if_neg h7,if_neg h8,if_neg h9,if_neg h10,if_neg h11,if_neg h12,if_neg h13,if_neg h14,if_neg h15,if_neg h16,if_neg h17,if_pos h18]; exact YV _
 by_cases h19:op=19
 .rw[if_neg h7,if_neg h8,if_neg h9,if_neg h10,if_neg h11,if_neg h12,if_neg h13,if_neg h14,if_neg h15,if_neg h16,if_neg h17,if_neg h18,if_pos h19]; exact YV _
 by_cases h20:op=20
 .rw[if_neg h7,if_neg h8,if_neg h9,if_neg h10,if_neg h11,if_neg h12,if_neg h13,if_neg h14,if_neg h15,if_neg h16,if_neg h17,if_neg h18,if_neg h19,if_pos h20]; exact YV _
 .rw[if_neg h7,if_neg h8,if_neg h9,if_neg h10,if_neg h11,if_neg h12,if_neg h13,if_neg h14,if_neg h15,if_neg h16,if_neg h17,if_neg h18,if_neg h19,if_neg h20]; exact YV _
theorem eqc (a b:Nat):((a:Int)==(b:Int))=(a==b):=by
 rw[qM]; simp only[beq_iff_eq]; omega
theorem eqz (a:Nat):((a:Int)==0)=(a==0):=eqc a 0
theorem nec (a b:Nat):((a:Int) != (b:Int)) = !(a==b):=congrArg not (eqc a b)
theorem nez (a:Nat):((a:Int) != 0) = !(a==0):=nec a 0
theorem ltc (a b:Nat):decide ((a:Int)<(b:Int))=decide (a<b):=by
 rw[qM]; simp only[decide_eq_true_eq]; omega
theorem lec (a b:Nat):decide ((a:Int)<=(b:Int))=decide (a<=b):=by
 rw[qM]; simp only[decide_eq_true_eq]; omega
theorem NI (G:Nat->AV)(b:Bool)(h:Hp):PCall (En G) 266 [.bool b] h (.int .i64 (tr b:Nat)):=by
 refine acN Tryz.func266 rfl ?_;show awp _ _ _ _ _ (EN _ [.tmp 2] _);cases b
 all_goals
  simp -implicitDefEqProofs only[BC,BA,BO,BK,BI,A8,CP,CG,DI,DT,AY,BB,AO,AQ,AL,BD,AX,AC,AA,AZ,AU,BH,BG,A7,BF,↓reduceIte,jA,jB,jC,enP];exact⟨rfl,trivial⟩
theorem AJI (G:Nat->AV)(op:Int)(a:Nat)(ha:a<65536)(h:Hp):PCall (En G) 239 [.int .i64 op,.int .i64 (a:Nat)] h (.int .i64 (sgW op a:Nat)):=by
 refine acN Tryz.func239 rfl ?_;show awp _ _ _ _ _ (EN _ [.tmp 4] _);have hcase:op=4∨op=5∨op=6∨(op≠4∧op≠5∧op≠6):=by omega
 rcases hcase with rfl|rfl|rfl|⟨n4,n5,n6⟩
 .simp -implicitDefEqProofs only[BC,BP,BA,BI,A8,DI,AY,BB,AO,AQ,AL,BD,AX,AC,AA,AZ,AU,BX,BH,BG,A7,BR,CB,BU,AB,EC,BF,BN,jD,jE,jF,↓reduceIte,jA,jB,jC,enP,zF,eqz]
  refine(NI G _ h).use ?_;simp -implicitDefEqProofs only[BK,A8,CP,EG,CG,AY,BB,AO,AQ,AL,BD,AX,AC,AA,AZ,A7,↓reduceIte,jB,jC];exact⟨rfl,trivial⟩
 .simp -implicitDefEqProofs only[BC,BP,BA,BI,A8,DI,DT,AY,BB,AO,AQ,AL,BD,AX,AC,AA,AZ,AU,BX,BH,BG,A7,BR,CB,BU,AB,EC,BF,BN,jD,jE,jF,↓reduceIte,jA,jB,jC,enP,zF]
  refine(A2Y G a ha h).use ?_;simp -implicitDefEqProofs only[BK,A8,CP,EG,CG,AY,BB,AO,AQ,AL,BD,AX,AC,AA,AZ,A7,↓reduceIte,jB,jC];exact⟨rfl,trivial⟩
 .simp -implicitDefEqProofs only[BC,BP,BA,BI,A8,DI,DT,AY,BB,AO,AQ,AL,BD,AX,AC,AA,AZ,AU,BX,BH,BG,A7,BR,CB,BU,AB,EC,BF,BN,jD,jE,jF,↓reduceIte,jA,jB,jC,enP,zF]
  refine(A2L G a ha h).use ?_;simp -implicitDefEqProofs only[BK,A8,CP,EG,CG,AY,BB,AO,AQ,AL,BD,AX,AC,AA,AZ,A7,↓reduceIte,jB,jC];exact⟨rfl,trivial⟩
 .simp -implicitDefEqProofs only[BC,BP,BA,BO,BI,A8,EJ,DT,AY,BB,AO,AQ,AL,BD,AX,AC,AA,AZ,AU,BX,BH,BG,A7,BR,CB,BU,AB,EC,BF,BN,jD,jE,jF,↓reduceIte,jA,jB,jC,enP,beq_eq_false_iff_ne.2 n4,beq_eq_false_iff_ne.2 n5,beq_eq_false_iff_ne.2 n6]
  refine(AQT G a ha h).use ?_;simp -implicitDefEqProofs only[BK,A8,CG,AY,BB,AO,AQ,AL,BD,AX,AC,AA,AZ,A7,↓reduceIte,jB,jC];exact⟨by unfold sgW; rw[if_neg n4,if_neg n5,if_neg n6],trivial⟩
set_option maxHeartbeats 4000000 in
theorem AK3 (G:Nat->AV)(op:Int)(a b:Nat)(ha:a<65536)(hb:b<65536)(h:Hp):PCall (En G) 240 [.int .i64 op,.int .i64 (a:Nat),.int .i64 (b:Nat)] h (.int .i64 (dbW op a b:Nat)):=by
 refine acN Tryz.func240 rfl ?_;show awp _ _ _ _ _ (EN _ [.tmp 6] _);have hcase:op=7∨op=8∨op=9∨op=10∨op=11∨op=12∨op=13∨op=14∨op=15∨op=16∨op=17∨op=18∨op=19∨op=20∨(op<7∨20<op):=by omega
 rcases hcase with rfl|rfl|rfl|rfl|rfl|rfl|rfl|rfl|rfl|rfl|rfl|rfl|rfl|rfl|hop
 .simp -implicitDefEqProofs only[BC,BP,BA,BI,A8,DI,AY,BB,AO,AQ,AL,BD,AX,AC,AA,AZ,AU,BX,BH,BG,A7,BR,CB,BU,AB,EC,BF,BN,jD,jE,jF,↓reduceIte,jA,jB,jC,enP,zF]
  refine(AZ1 G a b ha hb h).use ?_;simp -implicitDefEqProofs only[BK,A8,CP,EG,CG,AY,BB,AO,AQ,AL,BD,AX,AC,AA,AZ,A7,↓reduceIte,jB,jC];exact⟨rfl,trivial⟩
 .simp -implicitDefEqProofs only[BC,BP,BA,BI,A8,DI,DT,AY,BB,AO,AQ,AL,BD,AX,AC,AA,AZ,AU,BX,BH,BG,A7,BR,CB,BU,AB,EC,BF,BN,jD,jE,jF,↓reduceIte,jA,jB,jC,enP,zF]
  refine(A10 G a b ha hb h).use ?_;simp -implicitDefEqProofs only[BK,A8,CP,EG,CG,AY,BB,AO,AQ,AL,BD,AX,AC,AA,AZ,A7,↓reduceIte,jB,jC];exact⟨rfl,trivial⟩
 .simp -implicitDefEqProofs only[BC,BP,BA,BI,A8,DI,DT,AY,BB,AO,AQ,AL,BD,AX,AC,AA,AZ,AU,BX,BH,BG,A7,BR,CB,BU,AB,EC,BF,BN,jD,jE,jF,↓reduceIte,jA,jB,jC,enP,zF]
  refine(A2N G a b ha hb h).use ?_;simp -implicitDefEqProofs only[BK,A8,CP,EG,CG,AY,BB,AO,AQ,AL,BD,AX,AC,AA,AZ,A7,↓reduceIte,jB,jC];exact⟨rfl,trivial⟩
 .simp -implicitDefEqProofs only[BC,BP,BA,BK,BI,A8,CP,EG,CG,DI,DT,AY,BB,AO,AQ,AL,BD,AX,AC,AA,AZ,AU,BH,BG,A7,BR,AB,EC,BF,BN,↓reduceIte,jA,jB,jC,enP,zF,A32 a b ha hb]
  exact⟨rfl,trivial⟩
 .simp -implicitDefEqProofs only[BC,BP,BA,BK,BI,A8,CP,EG,CG,DI,DT,AY,BB,AO,AQ,AL,BD,AX,AC,AA,AZ,AU,BH,BG,A7,BR,AB,EC,BF,BN,↓reduceIte,jA,jB,jC,enP,zF,A41 a b ha hb]
  exact⟨rfl,trivial⟩
 .simp -implicitDefEqProofs only[BC,BP,BA,BK,BI,A8,CP,EG,CG,DI,DT,AY,BB,AO,AQ,AL,BD,AX,AC,AA,AZ,AU,BH,BG,A7,BR,AB,EC,BF,BN,↓reduceIte,jA,jB,jC,enP,zF,A1T a b ha hb]
  exact⟨rfl,trivial⟩
 .simp -implicitDefEqProofs only[BC,BP,BA,BI,A8,DI,DT,AY,BB,AO,AQ,AL,BD,AX,AC,AA,AZ,AU,BX,BH,BG,A7,BR,CB,BU,AB,EC,BF,BN,jD,jE,jF,↓reduceIte,jA,jB,jC,enP,zF]
  refine(A2B G a (b:Nat) ha h).use ?_;simp -implicitDefEqProofs only[BK,A8,CP,EG,CG,AY,BB,AO,AQ,AL,BD,AX,AC,AA,AZ,A7,↓reduceIte,jB,jC];exact⟨rfl,trivial⟩
 .simp -implicitDefEqProofs only[BC,BP,BA,BI,A8,DI,DT,AY,BB,AO,AQ,AL,BD,AX,AC,AA,AZ,AU,BX,BH,BG,A7,BR,CB,BU,AB,EC,BF,BN,jD,jE,jF,↓reduceIte,jA,jB,jC,enP,zF]
  refine(A2A G a (b:Nat) ha h).use ?_;simp -implicitDefEqProofs only[BK,A8,CP,EG,CG,AY,BB,AO,AQ,AL,BD,AX,AC,AA,AZ,A7,↓reduceIte,jB,jC];exact⟨rfl,trivial⟩
 .simp -implicitDefEqProofs only[BC,BP,BA,BI,A8,DI,DT,AY,BB,AO,AQ,AL,BD,AX,AC,AA,AZ,AU,BX,BH,BG,A7,BR,CB,BU,AB,EC,BF,BN,jD,jE,jF,↓reduceIte,jA,jB,jC,enP,zF,eqc,nec,ltc,lec]
  refine(NI G _ h).use ?_;simp -implicitDefEqProofs only[BK,A8,CP,EG,CG,AY,BB,AO,AQ,AL,BD,AX,AC,AA,AZ,A7,↓reduceIte,jB,jC];exact⟨rfl,trivial⟩
 .simp -implicitDefEqProofs only[BC,BP,BA,BI,A8,DI,DT,AY,BB,AO,AQ,AL,BD,AX,AC,AA,AZ,AU,BX,BH,BG,A7,BR,CB,BU,AB,EC,EK,BF,BN,jD,jE,jF,↓reduceIte,jA,jB,jC,enP,zF,eqc,nec,ltc,lec]
  refine(NI G _ h).use ?_;simp -implicitDefEqProofs only[BK,A8,CP,EG,CG,AY,BB,AO,AQ,AL,BD,AX,AC,AA,AZ,A7,↓reduceIte,jB,jC];exact⟨rfl,trivial⟩
 .simp -implicitDefEqProofs only[BC,BP,BA,BI,A8,DI,DT,AY,BB,AO,AQ,AL,BD,AX,AC,AA,AZ,AU,BX,BH,BG,A7,BR,CB,BU,AB,EC,DC,BF,BN,jD,jE,jF,↓reduceIte,jA,jB,jC,enP,zF,eqc,nec,ltc,lec]
  refine(NI G _ h).use ?_;simp -implicitDefEqProofs only[BK,A8,CP,EG,CG,AY,BB,AO,AQ,AL,BD,AX,AC,AA,AZ,A7,↓reduceIte,jB,jC];exact⟨rfl,trivial⟩
 .simp -implicitDefEqProofs only[BC,BP,BA,BI,A8,DI,DT,AY,BB,AO,AQ,AL,BD,AX,AC,AA,AZ,AU,BX,BH,BG,A7,BR,CB,BU,AB,EC,JC,BF,BN,jD,jE,jF,↓reduceIte,jA,jB,jC,enP,zF,eqc,nec,ltc,lec]
  refine(NI G _ h).use ?_;simp -implicitDefEqProofs only[BK,A8,CP,EG,CG,AY,BB,AO,AQ,AL,BD,AX,AC,AA,AZ,A7,↓reduceIte,jB,jC];exact⟨rfl,trivial⟩
 .simp -implicitDefEqProofs only[BC,BP,BA,BI,A8,DI,DT,AY,BB,BL,BV,CO,AO,AQ,AL,BD,AX,AC,AA,AZ,AU,BH,BG,A7,BR,AB,EC,EK,BF,BN,↓reduceIte,jA,jB,jC,enP,zF,eqz,nez]
  cases h1:(a==0)<;>cases h2:(b==0)
  all_goals
   simp -implicitDefEqProofs only[AY,BL,BV,CO,F9,IX,AO,AQ,AL,BD,AX,AC,AA,EX,AZ,AU,BX,BH,BM,BG,CQ,DY,DX,BR,CB,BU,AB,EK,BF,BN,jD,jE,jF,↓reduceIte,jA,jB,jT,jC,enP,h1,h2,nez];refine(NI G _ h).use ?_;simp -implicitDefEqProofs only[BK,A8,CP,EG,CG,AY,BB,AO,AQ,AL,BD,AX,AC,AA,AZ,A7,↓reduceIte,jB,jC];exact⟨by unfold dbW; rw[h1,h2]; rfl,trivial⟩
 .simp -implicitDefEqProofs only[BC,BP,BA,BI,A8,DI,DT,AY,BB,BL,BV,CO,AO,AQ,AL,BD,AX,AC,AA,AZ,AU,BH,BG,A7,BR,AB,EC,EK,BF,BN,↓reduceIte,jA,jB,jC,enP,zF,eqz,nez]
  cases h1:(a==0)<;>cases h2:(b==0)
  all_goals
   simp -implicitDefEqProofs only[AY,BL,BV,CO,ES,F7,AO,AQ,AL,BD,AX,AC,AA,EX,AZ,AU,BX,BH,BM,BG,CQ,DY,DX,BR,CB,BU,AB,EK,BF,BN,jD,jE,jF,↓reduceIte,jA,jB,jT,jC,enP,h1,h2,nez];refine(NI G _ h).use ?_;simp -implicitDefEqProofs only[BK,A8,CP,EG,CG,AY,BB,AO,AQ,AL,BD,AX,AC,AA,AZ,A7,↓reduceIte,jB,jC];exact⟨by unfold dbW; rw[h1,h2]; rfl,trivial⟩
 .have hne:∀k:Int,7<=k->k<=20->(op==k)=false:=fun k _ _=>beq_eq_false_iff_ne.2 (by omega)
  have hd:dbW op a b=tr ((a==0) || !(b==0)):=by
   unfold dbW;rw[if_neg (by omega:¬op=7),if_neg (by omega:¬op=8),if_neg (by omega:¬op=9),if_neg (by omega:¬op=10),if_neg (by omega:¬op=11),if_neg (by omega:¬op=12),if_neg (by omega:¬op=13),if_neg (by omega:¬op=14),if_neg (by omega:¬op=15),if_neg (by omega:¬op=16),if_neg (by omega:¬op=17),if_neg (by omega:¬op=18),if_neg (by omega:¬op=19),if_neg (by omega:¬op=20)]
  rw[hd];simp -implicitDefEqProofs only[BC,BP,BA,BO,BI,A8,EJ,DT,AY,BB,BL,BV,CO,AO,AQ,AL,BD,AX,AC,AA,AZ,AU,BH,BG,A7,BR,AB,EC,BF,BN,↓reduceIte,jA,jB,jC,enP,hne 7 (by decide) (by decide),hne 8 (by decide) (by decide),hne 9 (by decide) (by decide),hne 10 (by decide) (by decide),hne 11 (by decide) (by decide),hne 12 (by decide) (by decide),hne 13 (by decide) (by decide),hne 14 (by decide) (by decide),hne 15 (by decide) (by decide),hne 16 (by decide) (by decide),hne 17 (by decide) (by decide),hne 18 (by decide) (by decide),hne 19 (by decide) (by decide),hne 20 (by decide) (by decide),eqz,nez];cases h1:(a==0)<;>cases h2:(b==0)
  all_goals
   simp -implicitDefEqProofs only[jQ,qZ,AY,BL,BV,CO,ES,F7,AO,AQ,AL,BD,AX,AC,AA,EX,AZ,AU,BX,BH,BM,BG,CQ,DY,DX,BR,CB,BU,AB,EK,BF,BN,jD,jE,jF,↓reduceIte,jA,jB,jT,jC,enP,h1,h2,nez];refine(NI G _ h).use ?_;simp -implicitDefEqProofs only[BK,A8,CG,AY,BB,AO,AQ,AL,BD,AX,AC,AA,AZ,A7,↓reduceIte,jB,jC];exact⟨by trivial,trivial⟩
theorem OJ (G:Nat->AV)(b:Bool)(h:Hp):PCall (En G) 278 [.bool b] h (.int .i64 (tr b:Nat)):=by
 refine acN Tryz.func278 rfl ?_;show awp _ _ _ _ _ (EN _ [.tmp 2] _);cases b
 all_goals
  simp -implicitDefEqProofs only[BC,BA,BO,BK,BI,A8,CP,CG,DI,DT,AY,BB,AO,AQ,AL,BD,AX,AC,AA,AZ,AU,BH,BG,A7,BF,↓reduceIte,jA,jB,jC,enP];exact⟨rfl,trivial⟩
theorem AL1 (G:Nat->AV)(op:Int)(a:Nat)(ha:a<65536)(h:Hp):PCall (En G) 251 [.int .i64 op,.int .i64 (a:Nat)] h (.int .i64 (sgW op a:Nat)):=by
 refine acN Tryz.func251 rfl ?_;show awp _ _ _ _ _ (EN _ [.tmp 4] _);have hcase:op=4∨op=5∨op=6∨(op≠4∧op≠5∧op≠6):=by omega
 rcases hcase with rfl|rfl|rfl|⟨n4,n5,n6⟩
 .simp -implicitDefEqProofs only[BC,BP,BA,BI,A8,DI,AY,BB,AO,AQ,AL,BD,AX,AC,AA,AZ,AU,BX,BH,BG,A7,BR,CB,BU,AB,EC,BF,BN,jD,jE,jF,↓reduceIte,jA,jB,jC,enP,zF,eqz]
  refine(OJ G _ h).use ?_;simp -implicitDefEqProofs only[BK,A8,CP,EG,CG,AY,BB,AO,AQ,AL,BD,AX,AC,AA,AZ,A7,↓reduceIte,jB,jC];exact⟨rfl,trivial⟩
 .simp -implicitDefEqProofs only[BC,BP,BA,BI,A8,DI,DT,AY,BB,AO,AQ,AL,BD,AX,AC,AA,AZ,AU,BX,BH,BG,A7,BR,CB,BU,AB,EC,BF,BN,jD,jE,jF,↓reduceIte,jA,jB,jC,enP,zF]
  refine(A2Z G a ha h).use ?_;simp -implicitDefEqProofs only[BK,A8,CP,EG,CG,AY,BB,AO,AQ,AL,BD,AX,AC,AA,AZ,A7,↓reduceIte,jB,jC];exact⟨rfl,trivial⟩
 .simp -implicitDefEqProofs only[BC,BP,BA,BI,A8,DI,DT,AY,BB,AO,AQ,AL,BD,AX,AC,AA,AZ,AU,BX,BH,BG,A7,BR,CB,BU,AB,EC,BF,BN,jD,jE,jF,↓reduceIte,jA,jB,jC,enP,zF]
  refine(A2M G a ha h).use ?_;simp -implicitDefEqProofs only[BK,A8,CP,EG,CG,AY,BB,AO,AQ,AL,BD,AX,AC,AA,AZ,A7,↓reduceIte,jB,jC];exact⟨rfl,trivial⟩
 .simp -implicitDefEqProofs only[BC,BP,BA,BO,BI,A8,EJ,DT,AY,BB,AO,AQ,AL,BD,AX,AC,AA,AZ,AU,BX,BH,BG,A7,BR,CB,BU,AB,EC,BF,BN,jD,jE,jF,↓reduceIte,jA,jB,jC,enP,beq_eq_false_iff_ne.2 n4,beq_eq_false_iff_ne.2 n5,beq_eq_false_iff_ne.2 n6]
  refine(A0S G a ha h).use ?_;simp -implicitDefEqProofs only[BK,A8,CG,AY,BB,AO,AQ,AL,BD,AX,AC,AA,AZ,A7,↓reduceIte,jB,jC];exact⟨by unfold sgW; rw[if_neg n4,if_neg n5,if_neg n6],trivial⟩
set_option maxHeartbeats 4000000 in
theorem AM9 (G:Nat->AV)(op:Int)(a b:Nat)(ha:a<65536)(hb:b<65536)(h:Hp):PCall (En G) 252 [.int .i64 op,.int .i64 (a:Nat),.int .i64 (b:Nat)] h (.int .i64 (dbW op a b:Nat)):=by
 refine acN Tryz.func252 rfl ?_;show awp _ _ _ _ _ (EN _ [.tmp 6] _);have hcase:op=7∨op=8∨op=9∨op=10∨op=11∨op=12∨op=13∨op=14∨op=15∨op=16∨op=17∨op=18∨op=19∨op=20∨(op<7∨20<op):=by omega
 rcases hcase with rfl|rfl|rfl|rfl|rfl|rfl|rfl|rfl|rfl|rfl|rfl|rfl|rfl|rfl|hop
 .simp -implicitDefEqProofs only[BC,BP,BA,BI,A8,DI,AY,BB,AO,AQ,AL,BD,AX,AC,AA,AZ,AU,BX,BH,BG,A7,BR,CB,BU,AB,EC,BF,BN,jD,jE,jF,↓reduceIte,jA,jB,jC,enP,zF]
  refine(AZ2 G a b ha hb h).use ?_;simp -implicitDefEqProofs only[BK,A8,CP,EG,CG,AY,BB,AO,AQ,AL,BD,AX,AC,AA,AZ,A7,↓reduceIte,jB,jC];exact⟨rfl,trivial⟩
 .simp -implicitDefEqProofs only[BC,BP,BA,BI,A8,DI,DT,AY,BB,AO,AQ,AL,BD,AX,AC,AA,AZ,AU,BX,BH,BG,A7,BR,CB,BU,AB,EC,BF,BN,jD,jE,jF,↓reduceIte,jA,jB,jC,enP,zF]
  refine(A11 G a b ha hb h).use ?_;simp -implicitDefEqProofs only[BK,A8,CP,EG,CG,AY,BB,AO,AQ,AL,BD,AX,AC,AA,AZ,A7,↓reduceIte,jB,jC];exact⟨rfl,trivial⟩
 .simp -implicitDefEqProofs only[BC,BP,BA,BI,A8,DI,DT,AY,BB,AO,AQ,AL,BD,AX,AC,AA,AZ,AU,BX,BH,BG,A7,BR,CB,BU,AB,EC,BF,BN,jD,jE,jF,↓reduceIte,jA,jB,jC,enP,zF]
  refine(A2O G a b ha hb h).use ?_;simp -implicitDefEqProofs only[BK,A8,CP,EG,CG,AY,BB,AO,AQ,AL,BD,AX,AC,AA,AZ,A7,↓reduceIte,jB,jC];exact⟨rfl,trivial⟩
 .simp -implicitDefEqProofs only[BC,BP,BA,BI,A8,DI,DT,AY,BB,AO,AQ,AL,BD,AX,AC,AA,AZ,AU,BX,BH,BG,A7,BR,CB,BU,AB,EC,BF,BN,jD,jE,jF,↓reduceIte,jA,jB,jC,enP,zF]
  refine(A33 G a b ha hb h).use ?_;simp -implicitDefEqProofs only[BK,A8,CP,EG,CG,AY,BB,AO,AQ,AL,BD,AX,AC,AA,AZ,A7,↓reduceIte,jB,jC];exact⟨rfl,trivial⟩
 .simp -implicitDefEqProofs only[BC,BP,BA,BI,A8,DI,DT,AY,BB,AO,AQ,AL,BD,AX,AC,AA,AZ,AU,BX,BH,BG,A7,BR,CB,BU,AB,EC,BF,BN,jD,jE,jF,↓reduceIte,jA,jB,jC,enP,zF]
  refine(A42 G a b ha hb h).use ?_;simp -implicitDefEqProofs only[BK,A8,CP,EG,CG,AY,BB,AO,AQ,AL,BD,AX,AC,AA,AZ,A7,↓reduceIte,jB,jC];exact⟨rfl,trivial⟩
 .simp -implicitDefEqProofs only[BC,BP,BA,BI,A8,DI,DT,AY,BB,AO,AQ,AL,BD,AX,AC,AA,AZ,AU,BX,BH,BG,A7,BR,CB,BU,AB,EC,BF,BN,jD,jE,jF,↓reduceIte,jA,jB,jC,enP,zF]
  refine(A1U G a b ha hb h).use ?_;simp -implicitDefEqProofs only[BK,A8,CP,EG,CG,AY,BB,AO,AQ,AL,BD,AX,AC,AA,AZ,A7,↓reduceIte,jB,jC];exact⟨rfl,trivial⟩
 .simp -implicitDefEqProofs only[BC,BP,BA,BI,A8,DI,DT,AY,BB,AO,AQ,AL,BD,AX,AC,AA,AZ,AU,BX,BH,BG,A7,BR,CB,BU,AB,EC,BF,BN,jD,jE,jF,↓reduceIte,jA,jB,jC,enP,zF]
  refine(A2C G a (b:Nat) ha h).use ?_;simp -implicitDefEqProofs only[BK,A8,CP,EG,CG,AY,BB,AO,AQ,AL,BD,AX,AC,AA,AZ,A7,↓reduceIte,jB,jC];exact⟨rfl,trivial⟩
 .simp -implicitDefEqProofs only[BC,BP,BA,BI,A8,DI,DT,AY,BB,AO,AQ,AL,BD,AX,AC,AA,AZ,AU,BX,BH,BG,A7,BR,CB,BU,AB,EC,BF,BN,jD,jE,jF,↓reduceIte,jA,jB,jC,enP,zF]
  refine(AZO G a (b:Nat) ha h).use ?_;simp -implicitDefEqProofs only[BK,A8,CP,EG,CG,AY,BB,AO,AQ,AL,BD,AX,AC,AA,AZ,A7,↓reduceIte,jB,jC];exact⟨rfl,trivial⟩
 .simp -implicitDefEqProofs only[BC,BP,BA,BI,A8,DI,DT,AY,BB,AO,AQ,AL,BD,AX,AC,AA,AZ,AU,BX,BH,BG,A7,BR,CB,BU,AB,EC,BF,BN,jD,jE,jF,↓reduceIte,jA,jB,jC,enP,zF,eqc,nec,ltc,lec]
  refine(OJ G _ h).use ?_;simp -implicitDefEqProofs only[BK,A8,CP,EG,CG,AY,BB,AO,AQ,AL,BD,AX,AC,AA,AZ,A7,↓reduceIte,jB,jC];exact⟨rfl,trivial⟩
 .simp -implicitDefEqProofs only[BC,BP,BA,BI,A8,DI,DT,AY,BB,AO,AQ,AL,BD,AX,AC,AA,AZ,AU,BX,BH,BG,A7,BR,CB,BU,AB,EC,EK,BF,BN,jD,jE,jF,↓reduceIte,jA,jB,jC,enP,zF,eqc,nec,ltc,lec]
  refine(OJ G _ h).use ?_;simp -implicitDefEqProofs only[BK,A8,CP,EG,CG,AY,BB,AO,AQ,AL,BD,AX,AC,AA,AZ,A7,↓reduceIte,jB,jC];exact⟨rfl,trivial⟩
 .simp -implicitDefEqProofs only[BC,BP,BA,BI,A8,DI,DT,AY,BB,AO,AQ,AL,BD,AX,AC,AA,AZ,AU,BX,BH,BG,A7,BR,CB,BU,AB,EC,DC,BF,BN,jD,jE,jF,↓reduceIte,jA,jB,jC,enP,zF,eqc,nec,ltc,lec]
  refine(OJ G _ h).use ?_;simp -implicitDefEqProofs only[BK,A8,CP,EG,CG,AY,BB,AO,AQ,AL,BD,AX,AC,AA,AZ,A7,↓reduceIte,jB,jC];exact⟨rfl,trivial⟩
 .simp -implicitDefEqProofs only[BC,BP,BA,BI,A8,DI,DT,AY,BB,AO,AQ,AL,BD,AX,AC,AA,AZ,AU,BX,BH,BG,A7,BR,CB,BU,AB,EC,JC,BF,BN,jD,jE,jF,↓reduceIte,jA,jB,jC,enP,zF,eqc,nec,ltc,lec]
  refine(OJ G _ h).use ?_;simp -implicitDefEqProofs only[BK,A8,CP,EG,CG,AY,BB,AO,AQ,AL,BD,AX,AC,AA,AZ,A7,↓reduceIte,jB,jC];exact⟨rfl,trivial⟩
 .simp -implicitDefEqProofs only[BC,BP,BA,BI,A8,DI,DT,AY,BB,BL,BV,CO,AO,AQ,AL,BD,AX,AC,AA,AZ,AU,BH,BG,A7,BR,AB,EC,EK,BF,BN,↓reduceIte,jA,jB,jC,enP,zF,eqz,nez]
  cases h1:(a==0)<;>cases h2:(b==0)
  all_goals
   simp -implicitDefEqProofs only[AY,BL,BV,CO,F9,IX,AO,AQ,AL,BD,AX,AC,AA,EX,AZ,AU,BX,BH,BM,BG,CQ,DY,DX,BR,CB,BU,AB,EK,BF,BN,jD,jE,jF,↓reduceIte,jA,jB,jT,jC,enP,h1,h2,nez];refine(OJ G _ h).use ?_;simp -implicitDefEqProofs only[BK,A8,CP,EG,CG,AY,BB,AO,AQ,AL,BD,AX,AC,AA,AZ,A7,↓reduceIte,jB,jC];exact⟨by unfold dbW; rw[h1,h2]; rfl,trivial⟩
 .simp -implicitDefEqProofs only[BC,BP,BA,BI,A8,DI,DT,AY,BB,BL,BV,CO,AO,AQ,AL,BD,AX,AC,AA,AZ,AU,BH,BG,A7,BR,AB,EC,EK,BF,BN,↓reduceIte,jA,jB,jC,enP,zF,eqz,nez]
  cases h1:(a==0)<;>cases h2:(b==0)
  all_goals
   simp -implicitDefEqProofs only[AY,BL,BV,CO,ES,F7,AO,AQ,AL,BD,AX,AC,AA,EX,AZ,AU,BX,BH,BM,BG,CQ,DY,DX,BR,CB,BU,AB,EK,BF,BN,jD,jE,jF,↓reduceIte,jA,jB,jT,jC,enP,h1,h2,nez];refine(OJ G _ h).use ?_;simp -implicitDefEqProofs only[BK,A8,CP,EG,CG,AY,BB,AO,AQ,AL,BD,AX,AC,AA,AZ,A7,↓reduceIte,jB,jC];exact⟨by unfold dbW; rw[h1,h2]; rfl,trivial⟩
 .have hne:∀k:Int,7<=k->k<=20->(op==k)=false:=fun k _ _=>beq_eq_false_iff_ne.2 (by omega)
  have hd:dbW op a b=tr ((a==0) || !(b==0)):=by
   unfold dbW;rw[if_neg (by omega:¬op=7),if_neg (by omega:¬op=8),if_neg (by omega:¬op=9),if_neg (by omega:¬op=10),if_neg (by omega:¬op=11),if_neg (by omega:¬op=12),if_neg (by omega:¬op=13),if_neg (by omega:¬op=14),if_neg (by omega:¬op=15),if_neg (by omega:¬op=16),if_neg (by omega:¬op=17),if_neg (by omega:¬op=18),if_neg (by omega:¬op=19),if_neg (by omega:¬op=20)]
  rw[hd];simp -implicitDefEqProofs only[BC,BP,BA,BO,BI,A8,EJ,DT,AY,BB,BL,BV,CO,AO,AQ,AL,BD,AX,AC,AA,AZ,AU,BH,BG,A7,BR,AB,EC,BF,BN,↓reduceIte,jA,jB,jC,enP,hne 7 (by decide) (by decide),hne 8 (by decide) (by decide),hne 9 (by decide) (by decide),hne 10 (by decide) (by decide),hne 11 (by decide) (by decide),hne 12 (by decide) (by decide),hne 13 (by decide) (by decide),hne 14 (by decide) (by decide),hne 15 (by decide) (by decide),hne 16 (by decide) (by decide),hne 17 (by decide) (by decide),hne 18 (by decide) (by decide),hne 19 (by decide) (by decide),hne 20 (by decide) (by decide),eqz,nez];cases h1:(a==0)<;>cases h2:(b==0)
  all_goals
   simp -implicitDefEqProofs only[jQ,qZ,AY,BL,BV,CO,ES,F7,AO,AQ,AL,BD,AX,AC,AA,EX,AZ,AU,BX,BH,BM,BG,CQ,DY,DX,BR,CB,BU,AB,EK,BF,BN,jD,jE,jF,↓reduceIte,jA,jB,jT,jC,enP,h1,h2,nez];refine(OJ G _ h).use ?_;simp -implicitDefEqProofs only[BK,A8,CG,AY,BB,AO,AQ,AL,BD,AX,AC,AA,AZ,A7,↓reduceIte,jB,jC];exact⟨by trivial,trivial⟩
end Go.Proofs.YtocilianjfhifaaGreatDoor.Xe
