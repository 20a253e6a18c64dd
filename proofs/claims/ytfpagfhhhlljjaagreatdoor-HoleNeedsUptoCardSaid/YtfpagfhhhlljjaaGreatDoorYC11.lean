/- Part 11 of the proof (H1, H2, H3, X1, X2); no condition. -/
import Derived.Test.YtfpagfhhhlljjaaGreatDoorYC10
set_option linter.unusedVariables false
set_option linter.unusedSimpArgs false
set_option maxRecDepth 8000
namespace Go.Proofs.YtfpagfhhhlljjaaGreatDoor.Bins
open Sm
open Bool renaming not_false→jB
open List renaming length_map→jI,map_cons→jE,map_nil→jD,nil_append→qF,findIdx?_eq_some_iff_getElem→qX,all_append→yA,all_cons→qQ,findIdx?_eq_none_iff→qY,append_nil→jF,append_assoc→zI
open Nat renaming le_of_ble_eq_true→jH,reduceEqDiff→jC,zero_add→jG
open Option renaming getD_some→jA
instance:Inhabited Rs:=⟨⟨.nil,[]⟩⟩
theorem AR3 (G:Nat→AV) (r:Rng) (b:Nat) (v:Int) (h:Hp) (hv:DX Tryz.prog h 3 (.ptr b 0 0)=some (.int .i64 v)) :
  PCall (En G) 272 [.agg (encR r),.ptr b 0 0] h (.bool (decide (r.lo≤v) && decide (v≤r.hi))):=by
 refine ACalls.pure0 rfl ?_
 refine acN Tryz.func272 rfl ?_
 show awp _ _ _ _ _ (D8 _ [.tmp 3] _)
 simp -implicitDefEqProofs only [BC,BA,A8,AY,BB,BK,BV,CO,AO,AQ,AL,BD,AX,AC,AA,AZ,AU,BM,BG,A7,FM,BX,BQ,BN,CB,AB,IJ,BF,BL,↓reduceIte,jC,Nat.add_zero,jA,jB,enP,WT,bxR,DV ag3,AJW hv,YF,V3]
 refine JE (fun ha => ?_) (fun ha => ?_)
 ·simp -implicitDefEqProofs only [BJ,A8,CJ,AY,BB,BK,BV,CO,FY,AO,AQ,AL,BD,AX,AC,AA,AZ,AU,BM,A7,CP,DL,BX,BQ,BN,AB,IJ,BF,BL,↓reduceIte,jC,jG,jA,jB,enP,UZ,bxR,DV ag3,AJW hv,YF,V3,ha]
  exact ⟨by simp,_,rfl⟩
 ·simp -implicitDefEqProofs only [BJ,A8,CJ,AY,BB,BK,BV,CO,JD,AO,AQ,AL,BD,AX,AC,AA,EK,AZ,AU,BM,A7,CP,DN,↓reduceIte,jC,jA,jB,ha]
  exact ⟨by simp,_,rfl⟩
theorem indexFunc (G:Nat→AV) (xs:List Rng) (m:SM) (fid:FuncId) (caps:List AV) (p:Rng→Bool) (h:Hp) (hl:xs.length≤1099511627776)
  (hf : ∀ r,PCall (En G) fid (.agg (encR r) :: caps) h (.bool (p r))) :
  PCall (En G) 180 [.sl m 2 (xs.map encR),.fn (.func fid) [] caps] h (.int .i64 (match xs.findIdx? p with | some i=>(i:Int) | none => -1)):=by
 refine acN Tryz.func180 rfl ?_
 show awp _ _ _ _ _ (D8 _ [.tmp 4] _)
 simp -implicitDefEqProofs only [BC,BP,BA,A8,AY,BB,AO,AQ,AL,BD,AX,AC,AA,AZ,AU,BH,BG,A7,D6,AB,BF,↓reduceIte,jC,jA,jB,enP,RJ,jI]
 refine DY (fun n F H => ∃ k,n+k=xs.length∧F 0 = .sl m 2 (xs.map encR)∧F 1 = .fn (.func fid) [] caps∧F 7 = .int .i64 xs.length∧F 8 = .int .i64 (k:Nat)∧H=h∧(xs.take k).all (fun r => !p r)=true) xs.length ⟨0,by simp,rfl,rfl,rfl,rfl,rfl,rfl⟩ ?_
 rintro n F H ⟨k,hk,f0,f1,f7,f8,rfl,hin⟩
 simp -implicitDefEqProofs only [BC,BA,BI,A8,AY,BB,AO,AQ,AL,BD,AX,AC,AA,AZ,BQ,AB,C9,↓reduceIte,jA,jB,enP,f0,f1,f7,f8,jI]
 refine CV (fun hc => ?_) (fun hc => ?_)
 ·have hc':k < xs.length:=by simpa using hc
  simp -implicitDefEqProofs only [BC,BP,BA,BR,A8,AY,BB,AO,AQ,AL,BD,AX,AC,AA,AZ,BG,A7,BX,CG,BZ,BO,AB,jE,jD,qF,List.cons_append,↓reduceIte,jC,jA,jB,enP,ACK,f0,f1,f7,f8,D7 hc',FP AL0 RX YD hc']
  refine (hf _).use ?_
  simp -implicitDefEqProofs only [BI,A8,BB,AC,AA,AZ,↓reduceIte]
  refine CV (fun hb => ?_) (fun hb => ?_)
  ·simp -implicitDefEqProofs only [BC,BA,BJ,A8,CQ,ED,F7,CJ,AY,BB,AO,AQ,AL,BD,AX,AC,AA,AZ,BG,A7,↓reduceIte,jC,jA,jB]
   refine ⟨?_,trivial⟩
   rw [qX.2 ⟨hc',hb,fun j hj=>by
    rw [List.all_eq_true] at hin
    have:=hin xs[j] (by rw [List.mem_take_iff_getElem]; exact ⟨j,by omega,rfl⟩)
    simpa using this⟩]
  ·simp -implicitDefEqProofs only [BA,BR,A8,EH,ER,AY,BB,AO,AQ,AL,BD,AX,AC,AA,AZ,AU,BH,BG,BQ,AB,DK,↓reduceIte,jC,jA,jB,enP,f8,wrap_succ (show k < 9223372036854775807 by omega)]
   refine ⟨n - 1,by omega,k+1,by omega,f0,f1,f7,rfl,trivial,?_⟩
   rw [List.take_succ_eq_append_getElem hc',yA,hin]
   simp only [qQ,List.all_nil,hb]; rfl
 ·have hc' : ¬ k < xs.length:=by simpa using hc
  simp -implicitDefEqProofs only [BC,BA,BJ,DW,A8,EG,EY,EZ,CJ,AY,BB,AO,AQ,AL,BD,AX,AC,AA,AU,BH,A7,↓reduceIte,jA,jB]
  refine ⟨?_,trivial⟩
  rw [List.take_of_length_le (by omega)] at hin
  rw [qY.2 (by simpa using hin)]
theorem AHK (G:Nat→AV) (xs:List Rng) (m:SM) (fid:FuncId) (caps:List AV) (p:Rng→Bool) (h:Hp) (hl:xs.length≤1099511627776)
  (hf : ∀ r,PCall (En G) fid (.agg (encR r) :: caps) h (.bool (p r))) :
  PCall (En G) 271 [.sl m 2 (xs.map encR),.fn (.func fid) [] caps] h (.bool (xs.any p)):=by
 refine acN Tryz.func271 rfl ?_
 show awp _ _ _ _ _ (D8 _ [.tmp 4] _)
 simp -implicitDefEqProofs only [BC,BA,A8,AY,BB,AO,AQ,AL,BD,AX,AC,AA,AZ,AU,BU,BM,BG,A7,BZ,BO,BF,BL,jE,jD,jF,↓reduceIte,jC,jA,jB,enP]
 refine (indexFunc G xs m fid caps p h hl hf).use ?_
 simp -implicitDefEqProofs only [BJ,A8,CJ,AY,BB,AO,AQ,AL,BD,AX,AC,AA,AZ,AU,BH,A7,BQ,AB,FX,↓reduceIte,jA,jB,enP]
 refine ⟨?_,trivial⟩
 cases hx:xs.findIdx? p with
 | some i =>
   obtain ⟨h1,h2,_⟩:=qX.1 hx
   have:xs.any p=true:=List.any_eq_true.2 ⟨xs[i],by simp,h2⟩
   simp [this]
 | none =>
   have:xs.any p=false:=by
    rw [qY] at hx
    rw [List.any_eq_false]; intro x hx2; simp [hx x hx2]
   simp [this]
theorem inside_prog (G:Nat→AV) (xs:List Rng) (m:SM) (v:Int) (h:Hp) (hl:xs.length≤1099511627776) :
  PCall (En G) 249 [.sl m 2 (xs.map encR),.int .i64 v] h (.bool (inside xs v)):=by
 refine ACalls.pure0 rfl ?_
 refine acN Tryz.func249 rfl ?_
 show awp _ _ _ _ _ (D8 _ [.tmp 4] _)
 simp -implicitDefEqProofs only [AQK,BC,BA,A8,AY,BB,AO,AQ,AL,BD,AX,AC,AA,AZ,AU,BU,BM,BG,A7,FM,G9,BZ,BO,CB,BF,BL,jE,jD,jF,↓reduceIte,jC,jA,jB,enP]
 refine (AHK G xs m 272 _ _ _ hl fun r=>AR3 G r h.length v _ (DV ag3)).use ?_
 simp -implicitDefEqProofs only [BJ,A8,CJ,AY,BB,AO,AQ,AL,BD,AX,AC,AA,AZ,A7,↓reduceIte,jA,jB]
 exact ⟨rfl,_,rfl⟩
theorem AQG (G:Nat→AV) (xs:List Int) (m:SM) (h:Hp) (hl:xs.length≤16777216) :
  ACalls (En G) 157 [.sl m 1 (xs.map qencI)] h (AN4 1 (xs.map qencI) h):=by
 refine ACalls.of_rep (cok _ _ (by kernel_rfl)) fun ⟨g,cargs,ha⟩ => ?_
 refine acN Tryz.func157 rfl ?_
 show awp _ _ _ _ _ (D8 _ [.tmp 2] _)
 simp -implicitDefEqProofs only [BC,BA,BI,A8,AY,BB,AO,AQ,AL,BD,AX,AC,AA,AZ,AU,GZ,BG,A7,BQ,AB,BF,↓reduceIte,jC,jA,jB,enP,A4P]
 refine CV (fun hc => ?_) (fun hc => ?_)
 ·have hm:m = .nil:=by simpa using hc
  subst hm
  simp -implicitDefEqProofs only [BC,BA,BJ,A8,CQ,CJ,AY,BB,AO,AQ,AL,BD,AX,AC,AA,AU,GZ,A7,↓reduceIte,jA,jB,decide_true]
  exact .inl ⟨ACA ha (i:=0) rfl,⟨_,rfl⟩,rfl⟩
 ·simp -implicitDefEqProofs only [FK,BC,BA,BR,A8,AY,AO,AQ,AL,BD,AX,AC,AA,AZ,BG,EC,GL,CB,BF,↓reduceIte,jC,jA,jB,enP,AWO]
  rcases Classical.em (xs = []) with hx | hx
  ·subst hx
   simp -implicitDefEqProofs only [BJ,A8,CJ,AY,BB,AO,AQ,AL,BD,AX,AC,AA,AZ,A7,CB,jD,↓reduceIte,jA,jB,ALR VJ sz3 (.inr rfl)]
   exact .inr (.inl ⟨rfl,rfl,rfl⟩)
  ·have hr:room (([]:List (List AV)).length+(xs.map qencI).length) 8:=IX (by simpa using hl) (by omega)
   have hne:xs.map qencI≠[]:=by simpa using hx
   simp -implicitDefEqProofs only [BJ,A8,CJ,AY,BB,AO,AQ,AL,BD,AX,AC,AA,AZ,A7,CB,qF,↓reduceIte,jA,jB,SN VJ sz3 YV YM (IM h m 1 (xs.map qencI)) hne hr]
   exact .inr (.inr ⟨by simpa using hx,by simp,by simp⟩)
def setAt (b:Bin) (i:Nat):List Rng:=((sets b)[i]?.getD default).l
def XD (last:List Int) (n:Nat) (v:Int) (i:Nat):Int:=if i+1 < n then last[last.length+1 - n+i]?.getD 0 else v
def AKF (b:Bin) (last:List Int) (v:Int) (k:Nat):Bool:=(List.range k).all fun i=>inside (setAt b i) (XD last (sets b).length v i)
def hit (b:Bin) (last:List Int) (v:Int):Bool:=decide (IZ b=0) && decide ((sets b).length≤last.length+1) && AKF b last v (sets b).length
theorem ASA (b:Bin) (last:List Int) (v:Int) (k:Nat):AKF b last v (k+1)=(AKF b last v k && inside (setAt b k) (XD last (sets b).length v k)):=by
 unfold AKF; rw [List.range_succ,yA,qQ,List.all_nil,Bool.and_true]
theorem AZN {b:Bin} {last:List Int} {v:Int} {k n:Nat} (hk:k < n) (h:inside (setAt b k) (XD last (sets b).length v k)=false):AKF b last v n=false:=by
 unfold AKF; rw [List.all_eq_false]; exact ⟨k,by simpa using hk,by simp [h]⟩
theorem AMG {b:Bin} (h:IZ b=0):1≤(sets b).length:=by
 unfold IZ at h
 split at h
 ·split at h
  ·cases h
  ·rename_i hr
   unfold sets
   split
   ·simp
   ·rename_i hz
    simp only [MV,Bool.not_eq_true,Bool.or_eq_false_iff] at hr
    have:=hr.1.1.1.2
    have hz':decide ((b.ranges.l.length:Int) > 0)=false:=decide_eq_false (by omega)
    rw [hz'] at this
    simp at this
    rcases hs:b.steps with _ | ⟨x,l⟩
    ·rw [hs] at this; simp at this
    ·simp
 ·cases h
theorem AVE {xs:List Int} {i:Nat} (h:i < xs.length):(xs.map qencI)[i]? = some [.int .i64 xs[i]]:=by simp [h,qencI]
theorem AOA (h:Hp) (v:Int):EN Tryz.prog false h 26 1 [(0,.int .i64 v)]=some (.sl .full 1 [[.int .i64 v]],h):=by kernel_rfl
def vals (last:List Int) (n:Nat) (v:Int):List Int:=last.drop (last.length+1 - n) ++ [v]
theorem AIB {last:List Int} {n:Nat} {v:Int} (h1:1≤n) (h2:n≤last.length+1):(vals last n v).length=n:=by simp [vals]; omega
theorem ATH {last:List Int} {n:Nat} {v:Int} {i:Nat} (h1:1≤n) (h2:n≤last.length+1) (hi:i < (vals last n v).length):(vals last n v)[i]=XD last n v i:=by
 have hl:=AIB (v:=v) h1 h2
 unfold vals XD at *
 rw [List.getElem_append]
 split
 ·rename_i h
  have h':i < last.length - (last.length+1 - n):=by simpa using h
  rw [if_pos (by omega),List.getElem_drop,List.getElem?_eq_getElem (by omega)]
  rfl
 ·rename_i h
  have h' : ¬ i < last.length - (last.length+1 - n):=by simpa using h
  rw [if_neg (by omega)]
  simp
theorem hit_prog (G:Nat→AV) (hG:KwG G) (b:Bin) (hb:BinOk b) (last:List Int) (m:SM) (v:Int) (h:Hp) (hl:last.length≤8388608) :
  PCall (En G) 248 [.agg (GV b),.sl m 1 (last.map qencI),.int .i64 v] h (.bool (hit b last v)):=by
 refine ACalls.pure0 rfl ?_
 refine acN Tryz.func248 rfl ?_
 show awp _ _ _ _ _ (D8 _ [.tmp 6] _)
 simp -implicitDefEqProofs only [BC,BA,A8,AY,BB,AO,AQ,AL,BD,AX,AC,AA,AZ,AU,BU,BM,A7,FM,BX,BZ,BO,CB,AB,BF,jE,jD,jF,↓reduceIte,jC,jA,jB,enP,bxB,ldB]
 refine (valid_prog G hG b hb _).use ?_
 simp -implicitDefEqProofs only [BI,A8,AY,BB,AO,AQ,AL,BD,AX,AC,AA,AZ,AU,BH,BQ,AB,ET,↓reduceIte,jA,jB,enP]
 refine CV (fun hv => ?_) (fun hv => ?_)
 ·simp -implicitDefEqProofs only [BC,BA,BJ,A8,CQ,CJ,AY,BB,AO,AQ,AL,BD,AX,AC,AA,AU,BM,A7,↓reduceIte,jA,jB]
  refine ⟨?_,_,rfl⟩
  have:IZ b≠0:=by simpa using hv
  simp [hit,this]
 have hv0:IZ b=0:=by simpa using hv
 have h1:=AMG hv0
 have hnum:=hb.num
 simp -implicitDefEqProofs only [BC,BA,BR,A8,AY,AO,AQ,AL,BD,AX,AC,AA,AZ,BU,BX,BZ,BO,AB,jE,jD,jF,↓reduceIte,jC,jA,jB,enP,ldB]
 refine (AE4 G b _).use ?_
 have hw:IntKind.i64.wrap (((sets b).length:Int) - 1)=(((sets b).length - 1:Nat):Int):=by rw [wrap_i64 (by omega) (by omega)]; omega
 simp -implicitDefEqProofs only [BC,BA,BI,A8,AY,BB,AO,AQ,AL,BD,AX,AC,AA,AZ,AU,BH,BG,A7,BQ,D6,AB,JK,C9,BF,BL,↓reduceIte,jC,jA,jB,enP,KH,AJY,jI,hw]
 refine CV (fun hc => ?_) (fun hc => ?_)
 ·simp -implicitDefEqProofs only [BC,BA,BJ,A8,CQ,CJ,AY,BB,AO,AQ,AL,BD,AX,AC,AA,AU,BM,A7,↓reduceIte,jA,jB]
  refine ⟨?_,_,rfl⟩
  have : ¬ (sets b).length≤last.length+1:=by simp at hc; omega
  simp [hit,this]
 have hc':(sets b).length≤last.length+1:=by simp at hc; omega
 have hw2:IntKind.i64.wrap ((last.length:Int) - (((sets b).length - 1:Nat):Int))=((last.length+1 - (sets b).length:Nat):Int):=by rw [wrap_i64 (by omega) (by omega)]; omega
 simp -implicitDefEqProofs only [Option.map_some,Option.map_none,BC,BA,BR,A8,AY,AO,AQ,AL,BD,AX,AC,AA,AZ,AU,BU,BH,BG,BQ,QP,D6,BZ,BO,AB,JK,BF,BL,jE,jD,jF,↓reduceIte,jC,jA,jB,enP,KH,AJY,jI,hw,hw2,AO9 VJ sz3 (h:=h ++ [.live 4 [GV b]]) (m:=m) (kk := .i64) (xs:=last.map qencI) (l:=last.length+1 - (sets b).length) (by simp; omega),← List.map_drop]
 refine (AQG G _ m _ (by simp; omega)).mono fun vv H' hcl => ?_
 have hn:=AIB (v:=v) h1 hc'
 refine AEY (fun F H=>F 7 = .sl (AE5 b) 1 ((sets b).map encS)∧∃ o,F 8 = .own o 0 (sets b).length∧H[o]? = some (.live 1 ((vals last (sets b).length v).map qencI))∧∃ x,H=h ++ x) ?_ ?_
 ·have hv1:([[AV.int .i64 v]]:List (List AV))≠[]:=by simp
  rcases hcl with ⟨hx,⟨k0,rfl⟩,rfl⟩ | ⟨hx,rfl,rfl⟩ | ⟨hx,rfl,rfl⟩
  ·have hx':last.drop (last.length+1 - (sets b).length) = []:=by simpa using hx
   have e1:vals last (sets b).length v = [v]:=by unfold vals; rw [hx']; rfl
   rw [e1] at hn
   simp at hn
   simp -implicitDefEqProofs only [FK,FH,AY,BB,AO,AQ,AL,BD,AX,AC,AA,AZ,BG,A7,EC,GL,CB,BF,BL,↓reduceIte,jC,jA,jB,enP,AOA,PX VJ sz3 YV YM (IM (h ++ [ABlk.live 4 [GV b]]) .full 1 [[AV.int .i64 v]]) hv1 (IX (by simp) (by omega))]
   exact ⟨trivial,_,by rw [← hn]; rfl,by rw [e1]; simp [qencI],_,by rw [zI]⟩
  ·have hx':last.drop (last.length+1 - (sets b).length) = []:=by simpa using hx
   have e1:vals last (sets b).length v = [v]:=by unfold vals; rw [hx']; rfl
   rw [e1] at hn
   simp at hn
   simp -implicitDefEqProofs only [FK,FH,AY,BB,AO,AQ,AL,BD,AX,AC,AA,AZ,BG,A7,EC,GL,CB,BF,BL,qF,↓reduceIte,jC,jA,jB,enP,AOA,SN VJ sz3 YV YM (IM (h ++ [ABlk.live 4 [GV b]]) .full 1 [[AV.int .i64 v]]) (xs := []) hv1 (IX (by simp) (by omega))]
   exact ⟨trivial,_,by rw [← hn]; rfl,by rw [e1]; simp [qencI],_,by rw [zI]⟩
  ·have hle:(last.drop (last.length+1 - (sets b).length)).length+1≤16777216:=by simp; omega
   simp -implicitDefEqProofs only [FK,FH,AY,BB,AO,AQ,AL,BD,AX,AC,AA,AZ,BG,A7,EC,GL,CB,BF,BL,↓reduceIte,jC,jA,jB,enP,AOA,PW VJ sz3 YV YM (AFX (h:=h ++ [ABlk.live 4 [GV b]])) (IM ((h ++ [ABlk.live 4 [GV b]]) ++ [.live 1 ((last.drop (last.length+1 - (sets b).length)).map qencI)]) .full 1 [[AV.int .i64 v]]) hv1 (IX (by simpa using hle) (by omega))]
   refine ⟨trivial,((h ++ [ABlk.live 4 [GV b]]) ++ [ABlk.live 1 ((last.drop (last.length+1 - (sets b).length)).map qencI)]).length,?_,?_,?_⟩
   ·congr 1
    rw [← hn]; simp [vals]; omega
   ·simp [vals,qencI]
   ·refine ⟨[.live 4 [GV b],.dead,.live 1 ((last.drop (last.length+1 - (sets b).length)).map qencI ++ [[AV.int .i64 v]])],?_⟩
    rw [zI,List.set_append_right _ _ (by simp)]
    simp
 rintro F H ⟨f7,o,f8,ho,hx⟩
 simp -implicitDefEqProofs only [BC,BP,BA,A8,AY,BB,AO,AQ,AL,BD,AX,AC,AA,AZ,AU,BH,BG,D6,AB,↓reduceIte,jA,jB,enP,KH,f8]
 refine DY (fun n F H' => ∃ k,n+k=(sets b).length∧F 7 = .sl (AE5 b) 1 ((sets b).map encS)∧F 34 = .own o 0 (sets b).length∧F 35 = .int .i64 (sets b).length∧F 36 = .int .i64 (k:Nat)∧H'=H∧AKF b last v k=true) (sets b).length ⟨0,by simp,by simp -implicitDefEqProofs only [AA,↓reduceIte,jC,f7],by simp -implicitDefEqProofs only [AA,↓reduceIte,jC],by simp -implicitDefEqProofs only [AA,↓reduceIte,jC],by simp -implicitDefEqProofs only [AA,↓reduceIte]; rfl,rfl,rfl⟩ ?_
 rintro n F H' ⟨k,hk,f7,f34,f35,f36,rfl,hin⟩
 simp -implicitDefEqProofs only [BC,BA,BI,A8,AY,BB,AO,AQ,AL,BD,AX,AC,AA,AZ,BQ,AB,C9,↓reduceIte,jA,jB,enP,f35,f36]
 refine CV (fun hd => ?_) (fun hd => ?_)
 ·have hd':k < (sets b).length:=by simpa using hd
  have hdv:k < (vals last (sets b).length v).length:=by omega
  have e1:((vals last (sets b).length v).map qencI)[k]? = some [.int .i64 (XD last (sets b).length v k)]:=by rw [AVE hdv,ATH h1 hc' hdv]
  have e2:setAt b k=(sets b)[k].l:=by unfold setAt; simp [hd']
  simp -implicitDefEqProofs only [List.getElem?_cons_zero,BC,BP,BA,BR,A8,AY,BB,AO,AQ,AL,BD,AX,AC,AA,AZ,BU,BG,A7,BX,CG,BZ,BO,AB,jE,jD,jF,↓reduceIte,jC,jG,jA,jB,enP,JS,AVD,f7,f34,f36,I5 ho hd',DJ ag3 ho e1,D7 hd',DZ YR hd',AKY]
  refine (inside_prog G _ _ _ _ (hb.sets _ (List.getElem_mem hd'))).use ?_
  simp -implicitDefEqProofs only [BI,A8,AY,BB,AO,AQ,AL,BD,AX,AC,AA,AZ,GU,AB,EP,↓reduceIte,jA,jB]
  refine CV (fun hi => ?_) (fun hi => ?_)
  ·simp -implicitDefEqProofs only [BC,BA,BJ,A8,CQ,ED,F7,CJ,AY,BB,AO,AQ,AL,BD,AX,AC,AA,AU,BM,A7,↓reduceIte,jA,jB]
   refine ⟨?_,hx⟩
   have hi':inside (sets b)[k].l (XD last (sets b).length v k)=false:=by simpa using hi
   unfold hit
   rw [AZN hd' (by rw [e2]; exact hi')]; simp
  ·simp -implicitDefEqProofs only [BA,BR,A8,EH,ER,AY,BB,AO,AQ,AL,BD,AX,AC,AA,AZ,AU,BH,BG,BQ,AB,DK,↓reduceIte,jC,jA,jB,enP,f36,wrap_succ (show k < 9223372036854775807 by omega)]
   refine ⟨n - 1,by omega,k+1,by omega,f7,f34,f35,rfl,trivial,?_⟩
   rw [ASA,hin,e2]; simpa using hi
 ·have hd' : ¬ k < (sets b).length:=by simpa using hd
  simp -implicitDefEqProofs only [BC,BA,BJ,DW,A8,EG,EY,EZ,CJ,AY,BB,AO,AQ,AL,BD,AX,AC,AA,AU,BM,A7,↓reduceIte,jA,jB]
  refine ⟨?_,hx⟩
  have:k=(sets b).length:=by omega
  subst this
  unfold hit; rw [hin,hv0]; simp [hc']
end Go.Proofs.YtfpagfhhhlljjaaGreatDoor.Bins
set_option linter.unusedSimpArgs false
set_option maxRecDepth 8000
namespace Go.Proofs.YtfpagfhhhlljjaaGreatDoor.Wd
open Sm Bins Cov Go.RowKit
open Bool renaming not_false→jB
open Int renaming toNat_natCast→qG
open List renaming map_cons→jE,map_nil→jD,append_nil→jF,nil_append→qF,cons_append→qK
open Nat renaming mod_lt→qU,le_refl→jK,reduceAdd→jQ,add_zero→jM,le_of_ble_eq_true→jH,reduceEqDiff→jC
open Option renaming getD_some→jA
def wW (z:Int):Nat:=(z % 65536).toNat
theorem AO1 (z:Int):wW z < 65536:=by unfold wW; omega
theorem RD {a:Nat} (h:a < 65536):wW (a:Int)=a:=by unfold wW; omega
theorem AXX (z:Int):((wW z:Nat):Int)=z % 65536:=by unfold wW; omega
def KP (a i:Nat):Nat:=a / 2 ^ i % 2
def J5 (a:Nat):Nat→Nat
 | 0=>0
 | k+1=>J5 a k+KP a k
def UN (a:Nat):Nat:=J5 a 16
def YZ (a:Nat) (n:Int):Nat:=if n < 0∨n≥16 then 0 else a * 2 ^ n.toNat % 65536
def WC (a:Nat) (n:Int):Nat:=if n < 0∨n≥16 then 0 else a / 2 ^ n.toNat
theorem ABE (a i:Nat):KP a i < 2:=qU _ (by omega)
theorem OY (a:Nat) : ∀ k,J5 a k≤k
 | 0=>jK 0
 | k+1=>by have:=OY a k; have:=ABE a k; unfold J5; omega
theorem Q3 (a i:Nat) (hi:i < 8):KP (a % 256) i=KP a i:=by
 unfold KP
 have:i=0∨i=1∨i=2∨i=3∨i=4∨i=5∨i=6∨i=7:=by omega
 rcases this with rfl | rfl | rfl | rfl | rfl | rfl | rfl | rfl <;> simp only [Nat.reducePow] <;> omega
theorem AWT (a i:Nat):KP (a / 256) i=KP a (8+i):=by
 unfold KP
 rw [Nat.div_div_eq_div_mul,Nat.pow_add]
theorem AUI (a:Nat):UN a=J5 (a / 256) 8+J5 (a % 256) 8:=by
 unfold UN
 simp only [J5,AWT,Q3 a 0 (by omega),Q3 a 1 (by omega),Q3 a 2 (by omega),Q3 a 3 (by omega),Q3 a 4 (by omega),Q3 a 5 (by omega),Q3 a 6 (by omega),Q3 a 7 (by omega),jQ,jM]
 omega
theorem ATG {n:Int} (h0:0≤n) (h1:n < 65536):IntKind.u16.wrap n=n:=by
 have e:IntKind.u16.wrap n=n % 65536:=by simp [IntKind.wrap,IntKind.bits,IntKind.signed]
 rw [e]; omega
theorem RS (n:Int):IntKind.u16.wrap n=n % 65536:=by simp [IntKind.wrap,IntKind.bits,IntKind.signed]
theorem A0V (z:Int):JB Tryz.prog 3 .and (.int .i64 z) (.int .i64 65535)=some (.int .i64 ((wW z:Nat):Int)):=by
 have e:JB Tryz.prog 3 .and (.int .i64 z) (.int .i64 65535)=some (.int .i64 (IntKind.i64.wrap ((BitVec.ofInt 64 z &&& BitVec.ofInt 64 65535).toNat:Int))):=rfl
 rw [e,BitVec.toNat_and]
 have h1:(BitVec.ofInt 64 65535).toNat=2 ^ 16 - 1:=by decide
 rw [h1,Nat.and_two_pow_sub_one_eq_mod,BitVec.toNat_ofInt]
 have h2:((z % ((2 ^ 64:Nat):Int)).toNat % 2 ^ 16)=wW z:=by
  unfold wW
  simp only [Nat.reducePow]
  omega
 rw [h2,KC (by have:=AO1 z; omega)]
theorem ASU (a:Nat) (h:a < 65536):(BitVec.ofInt 64 (a:Int)).toNat=a:=by
 rw [BitVec.ofInt_natCast,BitVec.toNat_ofNat]
 exact Nat.mod_eq_of_lt (by omega)
theorem A6P (a b:Nat) (ha:a < 65536) (hb:b < 65536):JB Tryz.prog 3 .and (.int .i64 (a:Nat)) (.int .i64 (b:Nat))=some (.int .i64 ((a &&& b:Nat):Int)):=by
 have e:JB Tryz.prog 3 .and (.int .i64 (a:Nat)) (.int .i64 (b:Nat))=some (.int .i64 (IntKind.i64.wrap ((BitVec.ofInt 64 (a:Int) &&& BitVec.ofInt 64 (b:Int)).toNat:Int))):=rfl
 have hx:a &&& b < 2 ^ 16:=Nat.and_lt_two_pow _ (by omega)
 rw [e,BitVec.toNat_and,ASU a ha,ASU b hb,KC (by omega)]
theorem A7N (a b:Nat) (ha:a < 65536) (hb:b < 65536):JB Tryz.prog 3 .or (.int .i64 (a:Nat)) (.int .i64 (b:Nat))=some (.int .i64 ((a ||| b:Nat):Int)):=by
 have e:JB Tryz.prog 3 .or (.int .i64 (a:Nat)) (.int .i64 (b:Nat))=some (.int .i64 (IntKind.i64.wrap ((BitVec.ofInt 64 (a:Int) ||| BitVec.ofInt 64 (b:Int)).toNat:Int))):=rfl
 have hx:a ||| b < 2 ^ 16:=Nat.or_lt_two_pow (by omega) (by omega)
 rw [e,BitVec.toNat_or,ASU a ha,ASU b hb,KC (by omega)]
theorem A3T (a b:Nat) (ha:a < 65536) (hb:b < 65536):JB Tryz.prog 3 .xor (.int .i64 (a:Nat)) (.int .i64 (b:Nat))=some (.int .i64 ((a ^^^ b:Nat):Int)):=by
 have e:JB Tryz.prog 3 .xor (.int .i64 (a:Nat)) (.int .i64 (b:Nat))=some (.int .i64 (IntKind.i64.wrap ((BitVec.ofInt 64 (a:Int) ^^^ BitVec.ofInt 64 (b:Int)).toNat:Int))):=rfl
 have hx:a ^^^ b < 2 ^ 16:=Nat.xor_lt_two_pow (by omega) (by omega)
 rw [e,BitVec.toNat_xor,ASU a ha,ASU b hb,KC (by omega)]
theorem ZW (E:Env) (fid:FuncId) (a:AV) (l args caps:List AV) (h:Hp) (K:AV→Hp→Prop):ALH E (.fn (.func fid) (a :: l) caps) args h K=ACalls E fid ((a :: l) ++ (args ++ caps)) h K:=rfl
theorem O7 (G:Nat→AV) (z:Int) (h:Hp):PCall (En G) 259 [.int .i64 z] h (.int .u16 ((wW z:Nat):Int)):=by
 have:=AO1 z
 refine acN Tryz.func259 rfl ?_
 show awp _ _ _ _ _ (D8 _ [.tmp 2] _)
 simp -implicitDefEqProofs only [BC,BA,BJ,A8,CJ,AY,BB,AO,AQ,AL,BD,AX,AC,AA,AZ,AU,BH,BG,A7,BQ,YW,AB,BF,↓reduceIte,jC,jA,jB,enP,AZ3,A0V,ATG (n:=((wW z:Nat):Int)) (by omega) (by omega)]
 exact ⟨trivial,trivial⟩
theorem TA (G:Nat→AV) (a:Nat) (ha:a < 65536) (h:Hp):PCall (En G) 260 [.int .u16 (a:Nat)] h (.int .i64 (a:Nat)):=by
 refine acN Tryz.func260 rfl ?_
 show awp _ _ _ _ _ (D8 _ [.tmp 2] _)
 simp -implicitDefEqProofs only [BC,BA,BJ,A8,CJ,AY,BB,AO,AQ,AL,BD,AX,AC,AA,AZ,AU,BH,BG,A7,YW,AB,BF,↓reduceIte,jC,jA,jB,enP,AZ4,KC (n:=a) (by omega)]
 exact ⟨trivial,trivial⟩
theorem AQP (G:Nat→AV) (z:Int) (h:Hp):PCall (En G) 244 [.int .i64 z] h (.int .i64 ((wW z:Nat):Int)):=by
 refine acN Tryz.func244 rfl ?_
 show awp _ _ _ _ _ (D8 _ [.tmp 2] _)
 simp -implicitDefEqProofs only [BC,BA,A8,AY,BB,AO,AQ,AL,BD,AX,AC,AA,AZ,AU,BU,BH,BG,A7,BZ,BO,BF,jE,jD,jF,↓reduceIte,jC,jA,jB,enP]
 refine (O7 G z h).use ?_
 simp -implicitDefEqProofs only [AY,AO,AQ,AL,BD,AX,AC,AA,AZ,BU,BZ,BO,jE,jD,jF,↓reduceIte,jA,jB]
 refine (TA G _ (AO1 z) h).use ?_
 simp -implicitDefEqProofs only [BJ,A8,CJ,AY,BB,AO,AQ,AL,BD,AX,AC,AA,AZ,A7,↓reduceIte,jA,jB]
 exact ⟨trivial,trivial⟩
theorem ABM (G:Nat→AV) (k:FuncId) (a b r:Nat) (hb:b < 65536) (hr:r < 65536) (h:Hp) (hc:PCall (En G) k [.int .u16 (a:Nat),.int .u16 (b:Nat)] h (.int .u16 (r:Nat))) :
  PCall (En G) 261 [.fn (.func k) [.int .u16 (a:Nat)] [],.int .i64 (b:Nat)] h (.int .i64 (r:Nat)):=by
 have ho:=O7 G (b:Nat) h
 rw [RD hb] at ho
 refine acN Tryz.func261 rfl ?_
 show awp _ _ _ _ _ (D8 _ [.tmp 4] _)
 simp -implicitDefEqProofs only [BC,BA,A8,AY,BB,AO,AQ,AL,BD,AX,AC,AA,AZ,AU,BU,BH,BG,A7,BZ,BO,BF,BL,jE,jD,jF,↓reduceIte,jC,jA,jB,enP]
 refine ho.use ?_
 simp -implicitDefEqProofs only [AY,AO,AQ,AL,BD,AX,AC,AA,AZ,BZ,jE,jD,jF,qF,qK,↓reduceIte,jC,jA,jB,ZW]
 refine hc.use ?_
 simp -implicitDefEqProofs only [AY,AO,AQ,AL,BD,AX,AC,AA,AZ,BU,BZ,BO,jE,jD,jF,↓reduceIte,jA,jB]
 refine (TA G r hr h).use ?_
 simp -implicitDefEqProofs only [BJ,A8,CJ,AY,BB,AO,AQ,AL,BD,AX,AC,AA,AZ,A7,↓reduceIte,jA,jB]
 exact ⟨trivial,trivial⟩
theorem AJP (G:Nat→AV) (k:FuncId) (a r:Nat) (hr:r < 65536) (h:Hp) (hc:PCall (En G) k [.int .u16 (a:Nat)] h (.int .u16 (r:Nat))) :
  PCall (En G) 275 [.fn (.func k) [.int .u16 (a:Nat)] []] h (.int .i64 (r:Nat)):=by
 refine acN Tryz.func275 rfl ?_
 show awp _ _ _ _ _ (D8 _ [.tmp 2] _)
 simp -implicitDefEqProofs only [BC,BA,A8,AY,BB,AO,AQ,AL,BD,AX,AC,AA,AZ,AU,BH,BG,A7,BZ,BF,jD,jF,↓reduceIte,jC,jA,jB,enP,ZW]
 refine hc.use ?_
 simp -implicitDefEqProofs only [AY,AO,AQ,AL,BD,AX,AC,AA,AZ,BU,BZ,BO,jE,jD,jF,↓reduceIte,jA,jB]
 refine (TA G r hr h).use ?_
 simp -implicitDefEqProofs only [BJ,A8,CJ,AY,BB,AO,AQ,AL,BD,AX,AC,AA,AZ,A7,↓reduceIte,jA,jB]
 exact ⟨trivial,trivial⟩
theorem A1V (G:Nat→AV) (a b:Nat) (ha:a < 65536) (hb:b < 65536) (h:Hp):PCall (En G) 245 [.int .i64 (a:Nat),.int .i64 (b:Nat)] h (.int .i64 (((a+b) % 65536:Nat):Int)):=by
 have hc:PCall (En G) 262 [.int .u16 (a:Nat),.int .u16 (b:Nat)] h (.int .u16 (((a+b) % 65536:Nat):Int)):=by
  have e:IntKind.u16.wrap ((a:Int)+(b:Int))=(((a+b) % 65536:Nat):Int):=by rw [RS]; omega
  refine acN Tryz.func262 rfl ?_
  show awp _ _ _ _ _ (D8 _ [.tmp 4] _)
  simp -implicitDefEqProofs only [BC,BA,BJ,A8,CJ,AY,BB,AO,AQ,AL,BD,AX,AC,AA,AZ,AU,BH,BG,A7,BQ,AB,DK,BF,BL,↓reduceIte,jC,jA,jB,enP,e]
  exact ⟨trivial,trivial⟩
 have ho:=O7 G (a:Nat) h
 rw [RD ha] at ho
 refine acN Tryz.func245 rfl ?_
 show awp _ _ _ _ _ (D8 _ [.tmp 4] _)
 simp -implicitDefEqProofs only [BC,BA,A8,AY,BB,AO,AQ,AL,BD,AX,AC,AA,AZ,AU,BU,BH,BG,A7,BZ,BO,BF,jE,jD,jF,↓reduceIte,jC,jA,jB,enP]
 refine ho.use ?_
 simp -implicitDefEqProofs only [AY,AO,AQ,AL,BD,AX,AC,AA,AZ,BU,BG,G9,BZ,BO,BF,BL,jE,jD,jF,↓reduceIte,jC,jA,jB]
 refine (ABM G 262 a b _ hb (qU _ (by omega)) h hc).use ?_
 simp -implicitDefEqProofs only [BJ,A8,CJ,AY,BB,AO,AQ,AL,BD,AX,AC,AA,AZ,A7,↓reduceIte,jA,jB]
 exact ⟨trivial,trivial⟩
theorem A32 (G:Nat→AV) (a b:Nat) (ha:a < 65536) (hb:b < 65536) (h:Hp):PCall (En G) 267 [.int .i64 (a:Nat),.int .i64 (b:Nat)] h (.int .i64 (((a+65536 - b) % 65536:Nat):Int)):=by
 have hc:PCall (En G) 279 [.int .u16 (a:Nat),.int .u16 (b:Nat)] h (.int .u16 (((a+65536 - b) % 65536:Nat):Int)):=by
  have e:IntKind.u16.wrap ((a:Int) - (b:Int))=(((a+65536 - b) % 65536:Nat):Int):=by rw [RS]; omega
  refine acN Tryz.func279 rfl ?_
  show awp _ _ _ _ _ (D8 _ [.tmp 4] _)
  simp -implicitDefEqProofs only [BC,BA,BJ,A8,CJ,AY,BB,AO,AQ,AL,BD,AX,AC,AA,AZ,AU,BH,BG,A7,BQ,AB,JK,BF,BL,↓reduceIte,jC,jA,jB,enP,e]
  exact ⟨trivial,trivial⟩
 have ho:=O7 G (a:Nat) h
 rw [RD ha] at ho
 refine acN Tryz.func267 rfl ?_
 show awp _ _ _ _ _ (D8 _ [.tmp 4] _)
 simp -implicitDefEqProofs only [BC,BA,A8,AY,BB,AO,AQ,AL,BD,AX,AC,AA,AZ,AU,BU,BH,BG,A7,BZ,BO,BF,jE,jD,jF,↓reduceIte,jC,jA,jB,enP]
 refine ho.use ?_
 simp -implicitDefEqProofs only [AY,AO,AQ,AL,BD,AX,AC,AA,AZ,BU,BG,G9,BZ,BO,BF,BL,jE,jD,jF,↓reduceIte,jC,jA,jB]
 refine (ABM G 279 a b _ hb (qU _ (by omega)) h hc).use ?_
 simp -implicitDefEqProofs only [BJ,A8,CJ,AY,BB,AO,AQ,AL,BD,AX,AC,AA,AZ,A7,↓reduceIte,jA,jB]
 exact ⟨trivial,trivial⟩
theorem A4T (G:Nat→AV) (a b:Nat) (ha:a < 65536) (hb:b < 65536) (h:Hp):PCall (En G) 268 [.int .i64 (a:Nat),.int .i64 (b:Nat)] h (.int .i64 ((a * b % 65536:Nat):Int)):=by
 have hc:PCall (En G) 280 [.int .u16 (a:Nat),.int .u16 (b:Nat)] h (.int .u16 ((a * b % 65536:Nat):Int)):=by
  have e:IntKind.u16.wrap ((a:Int) * (b:Int))=((a * b % 65536:Nat):Int):=by rw [RS]; rw [← Int.natCast_mul]; rfl
  refine acN Tryz.func280 rfl ?_
  show awp _ _ _ _ _ (D8 _ [.tmp 4] _)
  simp -implicitDefEqProofs only [BC,BA,BJ,A8,CJ,AY,BB,AO,AQ,AL,BD,AX,AC,AA,AZ,AU,BH,BG,A7,BQ,AB,PV,BF,BL,↓reduceIte,jC,jA,jB,enP,e]
  exact ⟨trivial,trivial⟩
 have ho:=O7 G (a:Nat) h
 rw [RD ha] at ho
 refine acN Tryz.func268 rfl ?_
 show awp _ _ _ _ _ (D8 _ [.tmp 4] _)
 simp -implicitDefEqProofs only [BC,BA,A8,AY,BB,AO,AQ,AL,BD,AX,AC,AA,AZ,AU,BU,BH,BG,A7,BZ,BO,BF,jE,jD,jF,↓reduceIte,jC,jA,jB,enP]
 refine ho.use ?_
 simp -implicitDefEqProofs only [AY,AO,AQ,AL,BD,AX,AC,AA,AZ,BU,BG,G9,BZ,BO,BF,BL,jE,jD,jF,↓reduceIte,jC,jA,jB]
 refine (ABM G 280 a b _ hb (qU _ (by omega)) h hc).use ?_
 simp -implicitDefEqProofs only [BJ,A8,CJ,AY,BB,AO,AQ,AL,BD,AX,AC,AA,AZ,A7,↓reduceIte,jA,jB]
 exact ⟨trivial,trivial⟩
theorem A5E (G:Nat→AV) (a:Nat) (ha:a < 65536) (h:Hp):PCall (En G) 264 [.int .i64 (a:Nat)] h (.int .i64 ((65535 - a:Nat):Int)):=by
 have hu:aUn .xor (.int .u16 (a:Nat))=some (.int .u16 ((65535 - a:Nat):Int)):=by
  have e:aUn .xor (.int .u16 (a:Nat))=some (.int .u16 (IntKind.u16.wrap ((BitVec.ofInt 16 65535 ^^^ BitVec.ofInt 16 (a:Int)).toNat:Int))):=rfl
  have h1:BitVec.ofInt 16 65535=BitVec.allOnes 16:=by decide
  have h2:(BitVec.ofInt 16 (a:Int)).toNat=a:=by
   rw [BitVec.ofInt_natCast,BitVec.toNat_ofNat]
   exact Nat.mod_eq_of_lt (by omega)
  rw [e,h1,BitVec.allOnes_xor,BitVec.toNat_not,h2,ATG (by omega) (by simp only [Nat.reducePow]; omega)]
 have hc:PCall (En G) 276 [.int .u16 (a:Nat)] h (.int .u16 ((65535 - a:Nat):Int)):=by
  refine acN Tryz.func276 rfl ?_
  show awp _ _ _ _ _ (D8 _ [.tmp 2] _)
  simp -implicitDefEqProofs only [BC,BA,BJ,A8,CJ,AY,BB,AO,AQ,AL,BD,AX,AC,AA,AZ,AU,BH,BG,A7,GU,AB,BF,↓reduceIte,jC,jA,jB,enP,hu]
  exact ⟨trivial,trivial⟩
 have ho:=O7 G (a:Nat) h
 rw [RD ha] at ho
 refine acN Tryz.func264 rfl ?_
 show awp _ _ _ _ _ (D8 _ [.tmp 2] _)
 simp -implicitDefEqProofs only [BC,BA,A8,AY,BB,AO,AQ,AL,BD,AX,AC,AA,AZ,AU,BU,BH,BG,A7,BZ,BO,BF,jE,jD,jF,↓reduceIte,jC,jA,jB,enP]
 refine ho.use ?_
 simp -implicitDefEqProofs only [AY,AO,AQ,AL,BD,AX,AC,AA,AZ,BU,G9,BZ,BO,jE,jD,jF,↓reduceIte,jA,jB]
 refine (AJP G 276 a _ (by omega) h hc).use ?_
 simp -implicitDefEqProofs only [BJ,A8,CJ,AY,BB,AO,AQ,AL,BD,AX,AC,AA,AZ,A7,↓reduceIte,jA,jB]
 exact ⟨trivial,trivial⟩
theorem A4R (G:Nat→AV) (a:Nat) (ha:a < 65536) (h:Hp):PCall (En G) 265 [.int .i64 (a:Nat)] h (.int .i64 (((65536 - a) % 65536:Nat):Int)):=by
 have hc:PCall (En G) 277 [.int .u16 (a:Nat)] h (.int .u16 (((65536 - a) % 65536:Nat):Int)):=by
  have e:IntKind.u16.wrap (0 - (a:Int))=(((65536 - a) % 65536:Nat):Int):=by rw [RS]; omega
  refine acN Tryz.func277 rfl ?_
  show awp _ _ _ _ _ (D8 _ [.tmp 2] _)
  simp -implicitDefEqProofs only [BC,BA,BJ,A8,CJ,AY,BB,AO,AQ,AL,BD,AX,AC,AA,AZ,AU,BH,BG,A7,GU,AB,A15,BF,↓reduceIte,jC,jA,jB,enP,e]
  exact ⟨trivial,trivial⟩
 have ho:=O7 G (a:Nat) h
 rw [RD ha] at ho
 refine acN Tryz.func265 rfl ?_
 show awp _ _ _ _ _ (D8 _ [.tmp 2] _)
 simp -implicitDefEqProofs only [BC,BA,A8,AY,BB,AO,AQ,AL,BD,AX,AC,AA,AZ,AU,BU,BH,BG,A7,BZ,BO,BF,jE,jD,jF,↓reduceIte,jC,jA,jB,enP]
 refine ho.use ?_
 simp -implicitDefEqProofs only [AY,AO,AQ,AL,BD,AX,AC,AA,AZ,BU,G9,BZ,BO,jE,jD,jF,↓reduceIte,jA,jB]
 refine (AJP G 277 a _ (qU _ (by omega)) h hc).use ?_
 simp -implicitDefEqProofs only [BJ,A8,CJ,AY,BB,AO,AQ,AL,BD,AX,AC,AA,AZ,A7,↓reduceIte,jA,jB]
 exact ⟨trivial,trivial⟩
theorem ABQ (G:Nat→AV) (k:FuncId) (a r:Nat) (n:Int) (hr:r < 65536) (h:Hp) (hc : ¬ (n < 0∨n≥16)→PCall (En G) k [.int .u16 (a:Nat),.int .i64 n] h (.int .u16 (r:Nat))) (h0:n < 0∨n≥16→r=0) :
  PCall (En G) 281 [.fn (.func k) [.int .u16 (a:Nat)] [],.int .i64 n] h (.int .i64 (r:Nat)):=by
 refine acN Tryz.func281 rfl ?_
 show awp _ _ _ _ _ (D8 _ [.tmp 4] _)
 simp -implicitDefEqProofs only [BC,BA,A8,AY,BB,BK,BV,CO,AO,AQ,AL,BD,AX,AC,AA,AZ,AU,BH,BG,A7,BQ,AB,C9,BF,BL,↓reduceIte,jC,jA,jB,enP]
 cases h1:decide (n < 0)
 ·have h1' : ¬ n < 0:=by simpa using h1
  cases h2:decide (n≥16)
  ·have h2' : ¬ n≥16:=by simpa using h2
   simp -implicitDefEqProofs only [BC,BA,BR,BI,A8,DI,AY,BB,BK,BV,CO,EF,AO,AQ,AL,BD,AX,AC,AA,AZ,AU,BH,BM,BG,CP,DN,BQ,BZ,AB,FX,BF,BL,jE,jD,jF,qF,qK,↓reduceIte,jC,jA,jB,enP,h2,ZW]
   refine (hc (by omega)).use ?_
   simp -implicitDefEqProofs only [AY,AO,AQ,AL,BD,AX,AC,AA,AZ,BU,BZ,BO,jE,jD,jF,↓reduceIte,jA,jB]
   refine (TA G r hr h).use ?_
   simp -implicitDefEqProofs only [BJ,A8,CJ,AY,BB,AO,AQ,AL,BD,AX,AC,AA,AZ,A7,↓reduceIte,jA,jB]
   exact ⟨trivial,trivial⟩
  ·have h2':n≥16:=by simpa using h2
   simp -implicitDefEqProofs only [BC,BA,BJ,BI,A8,CQ,CJ,CZ,AY,BB,BK,BV,CO,EF,AO,AQ,AL,BD,AX,AC,AA,AZ,AU,BH,BM,BG,A7,CP,DN,BQ,AB,FX,BF,BL,↓reduceIte,jC,jA,jB,enP,h2]
   exact ⟨by rw [h0 (.inr h2')]; rfl,trivial⟩
 ·have h1':n < 0:=by simpa using h1
  simp -implicitDefEqProofs only [BC,BA,BJ,BI,A8,CQ,CJ,CZ,AY,BB,BK,BV,CO,FI,AO,AQ,AL,BD,AX,AC,AA,EK,AZ,AU,BH,BM,A7,CP,DL,↓reduceIte,jC,jA,jB]
  exact ⟨by rw [h0 (.inl h1')]; rfl,trivial⟩
theorem APB {a:Nat} {n:Int}:YZ a n < 65536:=by
 unfold YZ
 split
 ·omega
 ·exact qU _ (by omega)
theorem APA {a:Nat} {n:Int} (ha:a < 65536):WC a n < 65536:=by
 unfold WC
 split
 ·omega
 ·exact Nat.lt_of_le_of_lt (Nat.div_le_self _ _) ha
theorem A4F (G:Nat→AV) (a:Nat) (n:Int) (ha:a < 65536) (h:Hp):PCall (En G) 269 [.int .i64 (a:Nat),.int .i64 n] h (.int .i64 (YZ a n:Nat)):=by
 have hc : ¬ (n < 0∨n≥16)→PCall (En G) 282 [.int .u16 (a:Nat),.int .i64 n] h (.int .u16 (YZ a n:Nat)):=fun hn=>by
  have hb:JB Tryz.prog 247 .shl (.int .u16 (a:Nat)) (.int .i64 n)=some (.int .u16 (YZ a n:Nat)):=by
   have e:JB Tryz.prog 247 .shl (.int .u16 (a:Nat)) (.int .i64 n)=if n < 0 then none else some (.int .u16 (IntKind.u16.wrap ((a:Int) * 2 ^ (min n.toNat 16)))):=rfl
   have h1:min n.toNat 16=n.toNat:=by omega
   rw [e,if_neg (by omega),h1,RS]
   unfold YZ
   rw [if_neg hn,Int.natCast_emod,Int.natCast_mul,Int.natCast_pow]
   rfl
  refine acN Tryz.func282 rfl ?_
  show awp _ _ _ _ _ (D8 _ [.tmp 4] _)
  simp -implicitDefEqProofs only [BC,BA,BJ,A8,CJ,AY,BB,AO,AQ,AL,BD,AX,AC,AA,AZ,AU,BH,BG,A7,BQ,AB,BF,BL,↓reduceIte,jC,jA,jB,enP,hb]
  exact ⟨trivial,trivial⟩
 have ho:=O7 G (a:Nat) h
 rw [RD ha] at ho
 refine acN Tryz.func269 rfl ?_
 show awp _ _ _ _ _ (D8 _ [.tmp 4] _)
 simp -implicitDefEqProofs only [BC,BA,A8,AY,BB,AO,AQ,AL,BD,AX,AC,AA,AZ,AU,BU,BH,BG,A7,BZ,BO,BF,jE,jD,jF,↓reduceIte,jC,jA,jB,enP]
 refine ho.use ?_
 simp -implicitDefEqProofs only [AY,AO,AQ,AL,BD,AX,AC,AA,AZ,BU,BG,G9,BZ,BO,BF,BL,jE,jD,jF,↓reduceIte,jC,jA,jB]
 refine (ABQ G 282 a _ n APB h hc (fun hh=>by unfold YZ; rw [if_pos hh])).use ?_
 simp -implicitDefEqProofs only [BJ,A8,CJ,AY,BB,AO,AQ,AL,BD,AX,AC,AA,AZ,A7,↓reduceIte,jA,jB]
 exact ⟨trivial,trivial⟩
theorem A4E (G:Nat→AV) (a:Nat) (n:Int) (ha:a < 65536) (h:Hp):PCall (En G) 270 [.int .i64 (a:Nat),.int .i64 n] h (.int .i64 (WC a n:Nat)):=by
 have hc : ¬ (n < 0∨n≥16)→PCall (En G) 283 [.int .u16 (a:Nat),.int .i64 n] h (.int .u16 (WC a n:Nat)):=fun hn=>by
  have hb:JB Tryz.prog 247 .shr (.int .u16 (a:Nat)) (.int .i64 n)=some (.int .u16 (WC a n:Nat)):=by
   have e:JB Tryz.prog 247 .shr (.int .u16 (a:Nat)) (.int .i64 n)=if n < 0 then none else some (.int .u16 ((a:Int).fdiv (2 ^ (min n.toNat 16)))):=rfl
   have h1:min n.toNat 16=n.toNat:=by omega
   rw [e,if_neg (by omega),h1]
   unfold WC
   rw [if_neg hn,Int.fdiv_eq_ediv_of_nonneg _ (by exact Int.le_of_lt (Int.pow_pos (by decide))),Int.natCast_ediv,Int.natCast_pow]
   rfl
  refine acN Tryz.func283 rfl ?_
  show awp _ _ _ _ _ (D8 _ [.tmp 4] _)
  simp -implicitDefEqProofs only [BC,BA,BJ,A8,CJ,AY,BB,AO,AQ,AL,BD,AX,AC,AA,AZ,AU,BH,BG,A7,BQ,AB,BF,BL,↓reduceIte,jC,jA,jB,enP,hb]
  exact ⟨trivial,trivial⟩
 have ho:=O7 G (a:Nat) h
 rw [RD ha] at ho
 refine acN Tryz.func270 rfl ?_
 show awp _ _ _ _ _ (D8 _ [.tmp 4] _)
 simp -implicitDefEqProofs only [BC,BA,A8,AY,BB,AO,AQ,AL,BD,AX,AC,AA,AZ,AU,BU,BH,BG,A7,BZ,BO,BF,jE,jD,jF,↓reduceIte,jC,jA,jB,enP]
 refine ho.use ?_
 simp -implicitDefEqProofs only [AY,AO,AQ,AL,BD,AX,AC,AA,AZ,BU,BG,G9,BZ,BO,BF,BL,jE,jD,jF,↓reduceIte,jC,jA,jB]
 refine (ABQ G 283 a _ n (APA ha) h hc (fun hh=>by unfold WC; rw [if_pos hh])).use ?_
 simp -implicitDefEqProofs only [BJ,A8,CJ,AY,BB,AO,AQ,AL,BD,AX,AC,AA,AZ,A7,↓reduceIte,jA,jB]
 exact ⟨trivial,trivial⟩
def AO6 (fn:Func):ByteArray:=match fn.body with
 | some (.seq _ (.seq (.region _ ops _) _))=>match ops[2]? with
   | some o=>match o.op with
     | .index _ (.const (.string s)) _=>s
     | _=>⟨#[]⟩
   | none=>⟨#[]⟩
 | _=>⟨#[]⟩
theorem AX3:(List.range 256).all (fun y=>(AO6 Tryz.f278)[y]? == some (UInt8.ofNat (J5 y 8)))=true:=by kernel_rfl
theorem ATN {y:Nat} (hy:y < 256) (h:Hp):ofO h (NI Tryz.prog 9 (.str (AO6 Tryz.f278)) (.int .u16 (y:Nat)))=some (.int .u8 (J5 y 8:Nat),h):=by
 have h1:=List.all_eq_true.1 AX3 y (by simpa using hy)
 have h2:(AO6 Tryz.f278)[y]? = some (UInt8.ofNat (J5 y 8)):=by simpa using h1
 have hle:=OY y 8
 have hu:Tryz.prog.underlying 9=some .string:=by kernel_rfl
 have h3:NI Tryz.prog 9 (.str (AO6 Tryz.f278)) (.int .u16 (y:Nat))=some (.int .u8 (J5 y 8:Nat)):=by
  unfold NI
  simp only [hu,qG,h2]
  rw [if_pos (by omega)]
  simp
  omega
 rw [h3]; rfl
set_option maxHeartbeats 1000000 in
theorem ARI (G:Nat→AV) (a:Nat) (ha:a < 65536) (h:Hp):PCall (En G) 266 [.int .i64 (a:Nat)] h (.int .i64 (UN a:Nat)):=by
 have hs:JB Tryz.prog 246 .shr (.int .u16 (a:Nat)) (.int .u64 8)=some (.int .u16 ((a / 256:Nat):Int)):=by
  have e:JB Tryz.prog 246 .shr (.int .u16 (a:Nat)) (.int .u64 8)=some (.int .u16 ((a:Int).fdiv (2 ^ 8))):=rfl
  rw [e,Int.fdiv_eq_ediv_of_nonneg _ (by decide)]
  rfl
 have hl:JB Tryz.prog 246 .and (.int .u16 (a:Nat)) (.int .u16 255)=some (.int .u16 ((a % 256:Nat):Int)):=by
  have e:JB Tryz.prog 246 .and (.int .u16 (a:Nat)) (.int .u16 255)=some (.int .u16 (IntKind.u16.wrap ((BitVec.ofInt 16 (a:Int) &&& BitVec.ofInt 16 255).toNat:Int))):=rfl
  have h1:(BitVec.ofInt 16 255).toNat=2 ^ 8 - 1:=by decide
  have h2:(BitVec.ofInt 16 (a:Int)).toNat=a:=by
   rw [BitVec.ofInt_natCast,BitVec.toNat_ofNat]
   exact Nat.mod_eq_of_lt (by omega)
  rw [e,BitVec.toNat_and,h1,Nat.and_two_pow_sub_one_eq_mod,h2,ATG (by omega) (by simp only [Nat.reducePow]; omega)]
 have l1:=OY (a / 256) 8
 have l2:=OY (a % 256) 8
 have hadd:JB Tryz.prog 5 .add (.int .u8 (J5 (a / 256) 8:Nat)) (.int .u8 (J5 (a % 256) 8:Nat))=some (.int .u8 (UN a:Nat)):=by
  have e:JB Tryz.prog 5 .add (.int .u8 (J5 (a / 256) 8:Nat)) (.int .u8 (J5 (a % 256) 8:Nat))=some (.int .u8 (IntKind.u8.wrap ((J5 (a / 256) 8:Int)+(J5 (a % 256) 8:Int)))):=rfl
  have e2 : ∀ n:Int,IntKind.u8.wrap n=n % 256:=fun n=>by simp [IntKind.wrap,IntKind.bits,IntKind.signed]
  have e3:=AUI a
  rw [e,e2]
  congr 2
  omega
 have h64:IntKind.i64.wrap ((UN a:Nat):Int)=((UN a:Nat):Int):=KC (by have:=OY a 16; unfold UN; omega)
 have hc:PCall (En G) 278 [.int .u16 (a:Nat)] h (.int .i64 (UN a:Nat)):=by
  refine acN Tryz.func278 rfl ?_
  show awp _ _ _ _ _ (D8 _ [.tmp 2] _)
  simp -implicitDefEqProofs only [BC,BA,A8,AY,BB,AO,AQ,AL,BD,AX,AC,AU,BH,A7,jA,jB,enP]
  refine FN (by kernel_rfl) ?_
  simp -implicitDefEqProofs only [G5,EM,D9,EQ,GH,J7,AGB,AO,AA,AZ,AU,BH,H9,BQ,OB,AB,BF,↓reduceIte,jC,jQ,jA,enP,hs,hl]
  refine LY (v := .int .u8 (J5 (a / 256) 8:Nat)) (h:=h) (ATN (by omega) h) ?_
  simp -implicitDefEqProofs only [G5,EM,D9,EQ,GH,J7,AGB,AO,AA,AZ,AU,BH,H9,BQ,OB,AB,BF,↓reduceIte,jC,jQ,jA,enP,hs,hl]
  refine LY (v := .int .u8 (J5 (a % 256) 8:Nat)) (h:=h) (ATN (by omega) h) ?_
  simp -implicitDefEqProofs only [G5,EM,D9,FU,EQ,JI,J7,ATC,BJ,A8,CJ,AO,AA,AZ,BQ,YW,AB,↓reduceIte,jC,jQ,jA,enP,AWD,hadd,h64]
  exact ⟨trivial,trivial⟩
 have ho:=O7 G (a:Nat) h
 rw [RD ha] at ho
 refine acN Tryz.func266 rfl ?_
 show awp _ _ _ _ _ (D8 _ [.tmp 2] _)
 simp -implicitDefEqProofs only [BC,BA,A8,AY,BB,AO,AQ,AL,BD,AX,AC,AA,AZ,AU,BU,BH,BG,A7,BZ,BO,BF,jE,jD,jF,↓reduceIte,jC,jA,jB,enP]
 refine ho.use ?_
 simp -implicitDefEqProofs only [AY,AO,AQ,AL,BD,AX,AC,AA,AZ,BU,BZ,BO,jE,jD,jF,↓reduceIte,jA,jB]
 refine hc.use ?_
 simp -implicitDefEqProofs only [BJ,A8,CJ,AY,BB,AO,AQ,AL,BD,AX,AC,AA,AZ,A7,↓reduceIte,jA,jB]
 exact ⟨trivial,trivial⟩
theorem P7 (G:Nat→AV) (z:Int) (h:Hp) (hz : -9223372036854775808≤z∧z≤9223372036854775807):PCall (En G) 224 [.int .i64 z] h (.int .i64 (wW z:Nat)):=by
 have hr:JB Tryz.prog 3 .rem (.int .i64 z) (.int .i64 65536)=some (.int .i64 (z.tmod 65536)):=ABF _ _ _ _ _ (by decide)
 have hm:z.tmod 65536=if z < 0 then -((-z) % 65536) else z % 65536:=by
  split
  ·have h1:z = -(-z):=by omega
   conv=>lhs; rw [h1]
   rw [Int.neg_tmod,Int.tmod_eq_emod_of_nonneg (by omega)]
  ·rw [Int.tmod_eq_emod_of_nonneg (by omega)]
 have hw:=AXX z
 refine acN Tryz.func224 rfl ?_
 show awp _ _ _ _ _ (D8 _ [.tmp 2] _)
 simp -implicitDefEqProofs only [BC,BA,BI,A8,AY,BB,AO,AQ,AL,BD,AX,AC,AA,AZ,AU,BH,BG,A7,BQ,AB,C9,BF,↓reduceIte,jC,jA,jB,enP,hr]
 generalize z.tmod 65536=t at hm ⊢
 have h0 : -65536 < t∧t < 65536:=by
  rw [hm]; split <;> omega
 cases hc:decide (t < 0)
 ·have hc' : ¬ t < 0:=by simpa using hc
  have e:t=((wW z:Nat):Int):=by
   rw [hw]; split at hm <;> omega
  simp -implicitDefEqProofs only [BC,BA,BR,BJ,A8,CJ,DI,AY,BB,AO,AQ,AL,BD,AX,AC,AA,AZ,BG,A7,↓reduceIte,jC,jA,jB,hc]
  exact ⟨by rw [e],trivial⟩
 ·have hc':t < 0:=by simpa using hc
  have e:IntKind.i64.wrap (IntKind.i64.wrap (t+65535)+1)=((wW z:Nat):Int):=by
   have e1:IntKind.i64.wrap (t+65535)=t+65535:=wrap_i64 (by omega) (by omega)
   rw [hw,e1,wrap_i64 (by omega) (by omega)]
   split at hm <;> omega
  simp -implicitDefEqProofs only [BC,BA,BJ,A8,CJ,CZ,AY,BB,AO,AQ,AL,BD,AX,AC,AA,AZ,AU,BH,BG,A7,BQ,AB,DK,↓reduceIte,jC,jA,jB,enP,hc,e]
  exact ⟨trivial,trivial⟩
theorem LX (G:Nat→AV) (a:Nat) (ha:a < 65536) (h:Hp):PCall (En G) 224 [.int .i64 (a:Nat)] h (.int .i64 (a:Nat)):=by
 have:=P7 G (a:Nat) h (by omega)
 rwa [RD ha] at this
theorem AE8 (G:Nat→AV) (n:Nat) (hn:n≤16) (h:Hp):PCall (En G) 252 [.int .i64 (n:Nat)] h (.int .i64 ((2 ^ n:Nat):Int)):=by
 refine acN Tryz.func252 rfl ?_
 show awp _ _ _ _ _ (D8 _ [.tmp 2] _)
 simp -implicitDefEqProofs only [BC,BP,BA,A8,AY,BB,AO,AQ,AL,BD,AX,AC,AU,BH,A7,jA,jB,enP]
 refine DY (fun k F H => ∃ i,k+i=n∧F 0 = .int .i64 (n:Nat)∧F 3 = .int .i64 ((2 ^ i:Nat):Int)∧F 4 = .int .i64 (i:Nat)∧H=h) n ⟨0,by simp,by simp -implicitDefEqProofs only [AA,BF,↓reduceIte,jC],by simp -implicitDefEqProofs only [AA,↓reduceIte,jC] <;> rfl,by simp -implicitDefEqProofs only [AA,↓reduceIte] <;> rfl,rfl⟩ ?_
 rintro k F H ⟨i,hi,f0,f3,f4,rfl⟩
 simp -implicitDefEqProofs only [BC,BA,BI,A8,AY,BB,AO,AQ,AL,BD,AX,AC,AA,AZ,BG,BQ,AB,C9,↓reduceIte,jC,jA,jB,enP,f0,f4]
 refine CV (fun hc => ?_) (fun hc => ?_)
 ·have hi':i < n:=by simpa using hc
  have hp:2 ^ i≤2 ^ 16:=Nat.pow_le_pow_right (by omega) (by omega)
  have e:IntKind.i64.wrap (2 * ((2 ^ i:Nat):Int))=((2 ^ (i+1):Nat):Int):=by
   simp only [Nat.reducePow] at hp
   rw [show (2:Int) * ((2 ^ i:Nat):Int)=((2 ^ i * 2:Nat):Int) by rw [Int.natCast_mul,Int.mul_comm]; rfl,Nat.pow_succ]
   exact KC (by omega)
  simp -implicitDefEqProofs only [BC,BP,BA,BR,A8,EH,ER,AY,BB,AO,AQ,AL,BD,AX,AC,AA,AZ,AU,BH,BG,A7,BQ,AB,DK,PV,↓reduceIte,jC,jA,jB,enP,f3,f4,e,wrap_succ (show i < 9223372036854775807 by omega)]
  exact ⟨k - 1,by omega,i+1,by omega,f0,by trivial,by trivial,trivial⟩
 ·have hi':i=n:=by
   have : ¬ i < n:=by simpa using hc
   omega
  subst hi'
  simp -implicitDefEqProofs only [BC,BA,BJ,DW,A8,EG,EY,EZ,CJ,AY,BB,AO,AQ,AL,BD,AX,AC,AA,AZ,BG,A7,↓reduceIte,jC,jA,jB,f3]
  exact ⟨by trivial,trivial⟩
theorem A1W (G:Nat→AV) (a b:Nat) (ha:a < 65536) (hb:b < 65536) (h:Hp):PCall (En G) 198 [.int .i64 (a:Nat),.int .i64 (b:Nat)] h (.int .i64 (((a+b) % 65536:Nat):Int)):=by
 have e:IntKind.i64.wrap ((a:Int)+(b:Int))=(a:Int)+(b:Int):=wrap_i64 (by omega) (by omega)
 have e2:wW ((a:Int)+(b:Int))=(a+b) % 65536:=by unfold wW; omega
 refine acN Tryz.func198 rfl ?_
 show awp _ _ _ _ _ (D8 _ [.tmp 4] _)
 simp -implicitDefEqProofs only [BC,BA,A8,AY,BB,AO,AQ,AL,BD,AX,AC,AA,AZ,AU,BU,BH,BG,A7,BZ,BO,BF,jE,jD,jF,↓reduceIte,jC,jA,jB,enP]
 refine (LX G a ha h).use ?_
 simp -implicitDefEqProofs only [AY,AO,AQ,AL,BD,AX,AC,AA,AZ,BU,BG,BZ,BO,BF,BL,jE,jD,jF,↓reduceIte,jC,jA,jB]
 refine (LX G b hb h).use ?_
 simp -implicitDefEqProofs only [AY,AO,AQ,AL,BD,AX,AC,AA,AZ,BU,BQ,BZ,BO,AB,DK,jE,jD,jF,↓reduceIte,jC,jA,jB,enP,e]
 refine (P7 G _ h (by omega)).use ?_
 simp -implicitDefEqProofs only [BJ,A8,CJ,AY,BB,AO,AQ,AL,BD,AX,AC,AA,AZ,A7,↓reduceIte,jA,jB,e2]
 exact ⟨trivial,trivial⟩
theorem A33 (G:Nat→AV) (a b:Nat) (ha:a < 65536) (hb:b < 65536) (h:Hp):PCall (En G) 230 [.int .i64 (a:Nat),.int .i64 (b:Nat)] h (.int .i64 (((a+65536 - b) % 65536:Nat):Int)):=by
 have e:IntKind.i64.wrap ((a:Int) - (b:Int))=(a:Int) - (b:Int):=wrap_i64 (by omega) (by omega)
 have e2:wW ((a:Int) - (b:Int))=(a+65536 - b) % 65536:=by unfold wW; omega
 refine acN Tryz.func230 rfl ?_
 show awp _ _ _ _ _ (D8 _ [.tmp 4] _)
 simp -implicitDefEqProofs only [BC,BA,A8,AY,BB,AO,AQ,AL,BD,AX,AC,AA,AZ,AU,BU,BH,BG,A7,BZ,BO,BF,jE,jD,jF,↓reduceIte,jC,jA,jB,enP]
 refine (LX G a ha h).use ?_
 simp -implicitDefEqProofs only [AY,AO,AQ,AL,BD,AX,AC,AA,AZ,BU,BG,BZ,BO,BF,BL,jE,jD,jF,↓reduceIte,jC,jA,jB]
 refine (LX G b hb h).use ?_
 simp -implicitDefEqProofs only [AY,AO,AQ,AL,BD,AX,AC,AA,AZ,BU,BQ,BZ,BO,AB,JK,jE,jD,jF,↓reduceIte,jC,jA,jB,enP,e]
 refine (P7 G _ h (by omega)).use ?_
 simp -implicitDefEqProofs only [BJ,A8,CJ,AY,BB,AO,AQ,AL,BD,AX,AC,AA,AZ,A7,↓reduceIte,jA,jB,e2]
 exact ⟨trivial,trivial⟩
theorem mul_lt {a b:Nat} (ha:a < 65536) (hb:b≤65536):a * b≤65535 * 65536:=Nat.mul_le_mul (by omega) hb
theorem A4U (G:Nat→AV) (a b:Nat) (ha:a < 65536) (hb:b < 65536) (h:Hp):PCall (En G) 231 [.int .i64 (a:Nat),.int .i64 (b:Nat)] h (.int .i64 ((a * b % 65536:Nat):Int)):=by
 have hm:=mul_lt ha (Nat.le_of_lt hb)
 have e:IntKind.i64.wrap ((a:Int) * (b:Int))=((a * b:Nat):Int):=by rw [← Int.natCast_mul]; exact KC (by omega)
 have e2:wW ((a * b:Nat):Int)=a * b % 65536:=by unfold wW; omega
 refine acN Tryz.func231 rfl ?_
 show awp _ _ _ _ _ (D8 _ [.tmp 4] _)
 simp -implicitDefEqProofs only [BC,BA,A8,AY,BB,AO,AQ,AL,BD,AX,AC,AA,AZ,AU,BU,BH,BG,A7,BZ,BO,BF,jE,jD,jF,↓reduceIte,jC,jA,jB,enP]
 refine (LX G a ha h).use ?_
 simp -implicitDefEqProofs only [AY,AO,AQ,AL,BD,AX,AC,AA,AZ,BU,BG,BZ,BO,BF,BL,jE,jD,jF,↓reduceIte,jC,jA,jB]
 refine (LX G b hb h).use ?_
 simp -implicitDefEqProofs only [AY,AO,AQ,AL,BD,AX,AC,AA,AZ,BU,BQ,BZ,BO,AB,PV,jE,jD,jF,↓reduceIte,jC,jA,jB,enP,e]
 refine (P7 G _ h (by omega)).use ?_
 simp -implicitDefEqProofs only [BJ,A8,CJ,AY,BB,AO,AQ,AL,BD,AX,AC,AA,AZ,A7,↓reduceIte,jA,jB,e2]
 exact ⟨trivial,trivial⟩
theorem A5F (G:Nat→AV) (a:Nat) (ha:a < 65536) (h:Hp):PCall (En G) 227 [.int .i64 (a:Nat)] h (.int .i64 ((65535 - a:Nat):Int)):=by
 have e:IntKind.i64.wrap (65535 - (a:Int))=((65535 - a:Nat):Int):=by rw [wrap_i64 (by omega) (by omega)]; omega
 refine acN Tryz.func227 rfl ?_
 show awp _ _ _ _ _ (D8 _ [.tmp 2] _)
 simp -implicitDefEqProofs only [BC,BA,A8,AY,BB,AO,AQ,AL,BD,AX,AC,AA,AZ,AU,BU,BH,BG,A7,BZ,BO,BF,jE,jD,jF,↓reduceIte,jC,jA,jB,enP]
 refine (LX G a ha h).use ?_
 simp -implicitDefEqProofs only [BJ,A8,CJ,AY,BB,AO,AQ,AL,BD,AX,AC,AA,AZ,AU,BH,A7,BQ,AB,JK,↓reduceIte,jA,jB,enP,e]
 exact ⟨trivial,trivial⟩
theorem A4S (G:Nat→AV) (a:Nat) (ha:a < 65536) (h:Hp):PCall (En G) 228 [.int .i64 (a:Nat)] h (.int .i64 (((65536 - a) % 65536:Nat):Int)):=by
 have e:IntKind.i64.wrap (0 - (a:Int))=0 - (a:Int):=wrap_i64 (by omega) (by omega)
 have e2:wW (0 - (a:Int))=(65536 - a) % 65536:=by unfold wW; omega
 refine acN Tryz.func228 rfl ?_
 show awp _ _ _ _ _ (D8 _ [.tmp 2] _)
 simp -implicitDefEqProofs only [BC,BA,A8,AY,BB,AO,AQ,AL,BD,AX,AC,AA,AZ,AU,BU,BH,BG,A7,BZ,BO,BF,jE,jD,jF,↓reduceIte,jC,jA,jB,enP]
 refine (LX G a ha h).use ?_
 simp -implicitDefEqProofs only [AY,AO,AQ,AL,BD,AX,AC,AA,AZ,AU,BU,BH,BQ,BZ,BO,AB,JK,jE,jD,jF,↓reduceIte,jA,jB,enP,e]
 refine (P7 G _ h (by omega)).use ?_
 simp -implicitDefEqProofs only [BJ,A8,CJ,AY,BB,AO,AQ,AL,BD,AX,AC,AA,AZ,A7,↓reduceIte,jA,jB,e2]
 exact ⟨trivial,trivial⟩
theorem A4G (G:Nat→AV) (a:Nat) (n:Int) (ha:a < 65536) (h:Hp):PCall (En G) 235 [.int .i64 (a:Nat),.int .i64 n] h (.int .i64 (YZ a n:Nat)):=by
 refine acN Tryz.func235 rfl ?_
 show awp _ _ _ _ _ (D8 _ [.tmp 4] _)
 simp -implicitDefEqProofs only [BC,BA,A8,AY,BB,BK,BV,CO,AO,AQ,AL,BD,AX,AC,AA,AZ,AU,BH,BG,A7,BQ,AB,C9,BF,BL,↓reduceIte,jC,jA,jB,enP]
 cases h1:decide (n < 0)
 ·have h1' : ¬ n < 0:=by simpa using h1
  cases h2:decide (n > 15)
  ·have h2' : ¬ n > 15:=by simpa using h2
   obtain ⟨k,rfl⟩:=Int.eq_ofNat_of_zero_le (show 0≤n by omega)
   have hp:2 ^ k≤2 ^ 16:=Nat.pow_le_pow_right (by omega) (by omega)
   have hm:=mul_lt ha hp
   have e:IntKind.i64.wrap ((a:Int) * ((2 ^ k:Nat):Int))=((a * 2 ^ k:Nat):Int):=by rw [← Int.natCast_mul]; exact KC (by omega)
   have e2:wW ((a * 2 ^ k:Nat):Int)=YZ a (k:Nat):=by
    unfold YZ wW
    rw [if_neg (by omega),qG]
    omega
   simp -implicitDefEqProofs only [BC,BA,BR,BI,A8,DI,AY,BB,BK,BV,CO,EF,AO,AQ,AL,BD,AX,AC,AA,AZ,AU,BU,BH,BM,BG,CP,DN,BQ,BZ,BO,AB,FD,BF,BL,jE,jD,jF,↓reduceIte,jC,jA,jB,enP,h2]
   refine (LX G a ha h).use ?_
   simp -implicitDefEqProofs only [AY,AO,AQ,AL,BD,AX,AC,AA,AZ,BU,BG,BZ,BO,BF,BL,jE,jD,jF,↓reduceIte,jC,jA,jB]
   refine (AE8 G k (by omega) h).use ?_
   simp -implicitDefEqProofs only [AY,AO,AQ,AL,BD,AX,AC,AA,AZ,BU,BQ,BZ,BO,AB,PV,jE,jD,jF,↓reduceIte,jC,jA,jB,enP,e]
   refine (P7 G _ h (by omega)).use ?_
   simp -implicitDefEqProofs only [BJ,A8,CJ,AY,BB,AO,AQ,AL,BD,AX,AC,AA,AZ,A7,↓reduceIte,jA,jB,e2]
   exact ⟨trivial,trivial⟩
  ·have h2':n > 15:=by simpa using h2
   simp -implicitDefEqProofs only [BC,BA,BJ,BI,A8,CQ,CJ,CZ,AY,BB,BK,BV,CO,EF,AO,AQ,AL,BD,AX,AC,AA,AZ,AU,BH,BM,BG,A7,CP,DN,BQ,AB,FD,BF,BL,↓reduceIte,jC,jA,jB,enP,h2]
   exact ⟨by unfold YZ; rw [if_pos (by omega)]; rfl,trivial⟩
 ·have h1':n < 0:=by simpa using h1
  simp -implicitDefEqProofs only [BC,BA,BJ,BI,A8,CQ,CJ,CZ,AY,BB,BK,BV,CO,FI,AO,AQ,AL,BD,AX,AC,AA,EK,AZ,AU,BH,BM,A7,CP,DL,↓reduceIte,jC,jA,jB]
  exact ⟨by unfold YZ; rw [if_pos (by omega)]; rfl,trivial⟩
theorem A1E (G:Nat→AV) (a:Nat) (n:Int) (ha:a < 65536) (h:Hp):PCall (En G) 236 [.int .i64 (a:Nat),.int .i64 n] h (.int .i64 (WC a n:Nat)):=by
 refine acN Tryz.func236 rfl ?_
 show awp _ _ _ _ _ (D8 _ [.tmp 4] _)
 simp -implicitDefEqProofs only [BC,BA,A8,AY,BB,BK,BV,CO,AO,AQ,AL,BD,AX,AC,AA,AZ,AU,BH,BG,A7,BQ,AB,C9,BF,BL,↓reduceIte,jC,jA,jB,enP]
 cases h1:decide (n < 0)
 ·have h1' : ¬ n < 0:=by simpa using h1
  cases h2:decide (n > 15)
  ·have h2' : ¬ n > 15:=by simpa using h2
   obtain ⟨k,rfl⟩:=Int.eq_ofNat_of_zero_le (show 0≤n by omega)
   have hp:0 < 2 ^ k:=Nat.pow_pos (by omega)
   have e2:a / 2 ^ k=WC a (k:Nat):=by
    unfold WC
    rw [if_neg (by omega),qG]
   simp -implicitDefEqProofs only [BC,BA,BR,BI,A8,DI,AY,BB,BK,BV,CO,EF,AO,AQ,AL,BD,AX,AC,AA,AZ,AU,BU,BH,BM,BG,CP,DN,BQ,BZ,BO,AB,FD,BF,BL,jE,jD,jF,↓reduceIte,jC,jA,jB,enP,h2]
   refine (LX G a ha h).use ?_
   simp -implicitDefEqProofs only [AY,AO,AQ,AL,BD,AX,AC,AA,AZ,BU,BG,BZ,BO,BF,BL,jE,jD,jF,↓reduceIte,jC,jA,jB]
   refine (AE8 G k (by omega) h).use ?_
   simp -implicitDefEqProofs only [BJ,A8,CJ,AY,BB,AO,AQ,AL,BD,AX,AC,AA,AZ,A7,BQ,AB,↓reduceIte,jC,jA,jB,enP,AYM a (2 ^ k) hp (by omega),e2]
   exact ⟨trivial,trivial⟩
  ·have h2':n > 15:=by simpa using h2
   simp -implicitDefEqProofs only [BC,BA,BJ,BI,A8,CQ,CJ,CZ,AY,BB,BK,BV,CO,EF,AO,AQ,AL,BD,AX,AC,AA,AZ,AU,BH,BM,BG,A7,CP,DN,BQ,AB,FD,BF,BL,↓reduceIte,jC,jA,jB,enP,h2]
   exact ⟨by unfold WC; rw [if_pos (by omega)]; rfl,trivial⟩
 ·have h1':n < 0:=by simpa using h1
  simp -implicitDefEqProofs only [BC,BA,BJ,BI,A8,CQ,CJ,CZ,AY,BB,BK,BV,CO,FI,AO,AQ,AL,BD,AX,AC,AA,EK,AZ,AU,BH,BM,A7,CP,DL,↓reduceIte,jC,jA,jB]
  exact ⟨by unfold WC; rw [if_pos (by omega)]; rfl,trivial⟩
theorem AHO (G:Nat→AV) (a i:Nat) (ha:a < 65536) (hi:i < 16) (h:Hp):PCall (En G) 250 [.int .i64 (a:Nat),.int .i64 (i:Nat)] h (.int .i64 (KP a i:Nat)):=by
 have e:WC a (i:Nat)=a / 2 ^ i:=by
  unfold WC
  rw [if_neg (by omega),qG]
 refine acN Tryz.func250 rfl ?_
 show awp _ _ _ _ _ (D8 _ [.tmp 4] _)
 have hr:=AYJ (a / 2 ^ i) 2 (by omega)
 have hr':JB Tryz.prog 3 .rem (.int .i64 ((a / 2 ^ i:Nat):Int)) (.int .i64 2)=some (.int .i64 (KP a i:Nat)):=hr
 simp -implicitDefEqProofs only [BC,BA,A8,AY,BB,AO,AQ,AL,BD,AX,AC,AA,AZ,AU,BU,BH,BG,A7,BZ,BO,BF,BL,jE,jD,jF,↓reduceIte,jC,jA,jB,enP]
 refine (A1E G a i ha h).use ?_
 simp -implicitDefEqProofs only [BJ,A8,CJ,AY,BB,AO,AQ,AL,BD,AX,AC,AA,AZ,AU,BH,A7,BQ,AB,↓reduceIte,jA,jB,enP,e,hr']
 exact ⟨trivial,trivial⟩
theorem A2P (G:Nat→AV) (a:Nat) (ha:a < 65536) (h:Hp):PCall (En G) 229 [.int .i64 (a:Nat)] h (.int .i64 (UN a:Nat)):=by
 refine acN Tryz.func229 rfl ?_
 show awp _ _ _ _ _ (D8 _ [.tmp 2] _)
 simp -implicitDefEqProofs only [BC,BP,BA,A8,AY,BB,AO,AQ,AL,BD,AX,AC,AU,BH,A7,jA,jB,enP]
 refine DY (fun k F H => ∃ i,k+i=16∧F 0 = .int .i64 (a:Nat)∧F 3 = .int .i64 (J5 a i:Nat)∧F 4 = .int .i64 (i:Nat)∧H=h) 16 ⟨0,by simp,by simp -implicitDefEqProofs only [AA,BF,↓reduceIte,jC],by simp -implicitDefEqProofs only [AA,↓reduceIte,jC] <;> rfl,by simp -implicitDefEqProofs only [AA,↓reduceIte] <;> rfl,rfl⟩ ?_
 rintro k F H ⟨i,hi,f0,f3,f4,rfl⟩
 simp -implicitDefEqProofs only [BC,BA,BI,A8,AY,BB,AO,AQ,AL,BD,AX,AC,AA,AZ,AU,BH,BG,BQ,AB,C9,↓reduceIte,jA,jB,enP,f4]
 refine CV (fun hc => ?_) (fun hc => ?_)
 ·have hi':i < 16:=by simp at hc; omega
  have hle:=OY a (i+1)
  have e:IntKind.i64.wrap (((J5 a i:Nat):Int)+((KP a i:Nat):Int))=((J5 a (i+1):Nat):Int):=by
   have:J5 a (i+1)=J5 a i+KP a i:=rfl
   rw [wrap_i64 (by omega) (by omega)]; omega
  simp -implicitDefEqProofs only [BC,BP,BA,BR,A8,AY,AO,AQ,AL,BD,AX,AC,AA,AZ,BU,BG,BZ,BO,jE,jD,jF,↓reduceIte,jC,jA,jB,f0,f3,f4]
  refine (AHO G a i ha hi' H).use ?_
  simp -implicitDefEqProofs only [BA,A8,EH,ER,AY,BB,AO,AQ,AL,BD,AX,AC,AA,AZ,AU,BH,BG,A7,BQ,AB,DK,↓reduceIte,jC,jA,jB,enP,f3,f4,e,wrap_succ (show i < 9223372036854775807 by omega)]
  exact ⟨k - 1,by omega,i+1,by omega,f0,by trivial,by trivial,trivial⟩
 ·have hi':i=16:=by simp at hc; omega
  subst hi'
  simp -implicitDefEqProofs only [BC,BA,BJ,DW,A8,EG,EY,EZ,CJ,AY,BB,AO,AQ,AL,BD,AX,AC,AA,AZ,BG,A7,↓reduceIte,jC,jA,jB,f3]
  exact ⟨by trivial,trivial⟩
def MJ (lo hi a b:Nat):Nat→Nat
 | 0=>0
 | k+1=>2 * MJ lo hi a b k+(if lo≤KP a (15 - k)+KP b (15 - k)∧KP a (15 - k)+KP b (15 - k)≤hi then 1 else 0)
theorem AF0 (lo hi a b:Nat) : ∀ k,MJ lo hi a b k < 2 ^ k
 | 0=>by simp [MJ]
 | k+1=>by
   have:=AF0 lo hi a b k
   unfold MJ
   rw [Nat.pow_succ]
   split <;> omega
theorem ABD (lo hi a b x:Nat) (hx:x < 65536) (hb : ∀ i,i < 16→KP x i=if lo≤KP a i+KP b i∧KP a i+KP b i≤hi then 1 else 0) : ∀ k,k≤16→MJ lo hi a b k=x / 2 ^ (16 - k)
 | 0,_=>by
   unfold MJ
   rw [Nat.div_eq_of_lt (by simpa using hx)]
 | k+1,hk=>by
   unfold MJ
   rw [ABD lo hi a b x hx hb k (by omega),← hb (15 - k) (by omega)]
   unfold KP
   rw [show 16 - (k+1)=15 - k by omega,show 16 - k=(15 - k)+1 by omega,Nat.pow_succ,← Nat.div_div_eq_div_mul]
   omega
theorem OO (x i:Nat):KP x i=if x.testBit i=true then 1 else 0:=by
 have:=ABE x i
 rw [Nat.testBit_eq_decide_div_mod_eq]
 unfold KP at *
 simp only [decide_eq_true_eq]
 split <;> omega
theorem AWS (a b:Nat) (ha:a < 65536):MJ 2 2 a b 16=a &&& b:=by
 rw [ABD 2 2 a b (a &&& b) (Nat.lt_of_le_of_lt Nat.and_le_left ha) (fun i _ => ?_) 16 (jK _)]
 ·simp
 ·rw [OO,OO,OO,Nat.testBit_and]
  cases a.testBit i <;> cases b.testBit i <;> simp
theorem A0M (a b:Nat) (ha:a < 65536) (hb:b < 65536):MJ 1 2 a b 16=a ||| b:=by
 rw [ABD 1 2 a b (a ||| b) (Nat.or_lt_two_pow (n:=16) (by omega) (by omega)) (fun i _ => ?_) 16 (jK _)]
 ·simp
 ·rw [OO,OO,OO,Nat.testBit_or]
  cases a.testBit i <;> cases b.testBit i <;> simp
theorem AWR (a b:Nat) (ha:a < 65536) (hb:b < 65536):MJ 1 1 a b 16=a ^^^ b:=by
 rw [ABD 1 1 a b (a ^^^ b) (Nat.xor_lt_two_pow (n:=16) (by omega) (by omega)) (fun i _ => ?_) 16 (jK _)]
 ·simp
 ·rw [OO,OO,OO,Nat.testBit_xor]
  cases a.testBit i <;> cases b.testBit i <;> simp
theorem ADQ (G:Nat→AV) (lo hi a b:Nat) (ha:a < 65536) (hb:b < 65536) (h:Hp):PCall (En G) 251 [.int .i64 (a:Nat),.int .i64 (b:Nat),.int .i64 (lo:Nat),.int .i64 (hi:Nat)] h (.int .i64 (MJ lo hi a b 16:Nat)):=by
 refine acN Tryz.func251 rfl ?_
 show awp _ _ _ _ _ (D8 _ [.tmp 8] _)
 simp -implicitDefEqProofs only [BC,BP,BA,A8,AY,BB,AO,AQ,AL,BD,AX,AC,AU,BH,A7,jA,jB,enP]
 refine DY (fun n F H => ∃ k,n+k=16∧F 0 = .int .i64 (a:Nat)∧F 1 = .int .i64 (b:Nat)∧F 2 = .int .i64 (lo:Nat)∧F 3 = .int .i64 (hi:Nat)∧F 9 = .int .i64 (MJ lo hi a b k:Nat)∧F 10 = .int .i64 (15 - (k:Int))∧H=h) 16
  ⟨0,by simp,by simp -implicitDefEqProofs only [AA,BF,↓reduceIte,jC],by simp -implicitDefEqProofs only [AA,BF,BL,↓reduceIte,jC],by simp -implicitDefEqProofs only [AA,BF,BL,↓reduceIte,jC],by simp -implicitDefEqProofs only [AA,BF,BL,↓reduceIte,jC],by simp -implicitDefEqProofs only [AA,↓reduceIte,jC] <;> rfl,by simp -implicitDefEqProofs only [AA,↓reduceIte] <;> rfl,rfl⟩ ?_
 rintro n F H ⟨k,hk,f0,f1,f2,f3,f9,f10,rfl⟩
 simp -implicitDefEqProofs only [BC,BA,BI,A8,AY,BB,AO,AQ,AL,BD,AX,AC,AA,AZ,AU,BH,BG,BQ,AB,FX,↓reduceIte,jA,jB,enP,f10]
 refine CV (fun hc => ?_) (fun hc => ?_)
 ·have hk':k < 16:=by simp at hc; omega
  have e0:(15 - (k:Int))=((15 - k:Nat):Int):=by omega
  have l1:=ABE a (15 - k)
  have l2:=ABE b (15 - k)
  have l3:=AF0 lo hi a b k
  have l4:2 ^ k≤2 ^ 15:=Nat.pow_le_pow_right (by omega) (by omega)
  simp only [Nat.reducePow] at l4
  have es:IntKind.i64.wrap (((KP a (15 - k):Nat):Int)+((KP b (15 - k):Nat):Int))=((KP a (15 - k)+KP b (15 - k):Nat):Int):=by rw [wrap_i64 (by omega) (by omega)]; omega
  have e2:IntKind.i64.wrap (2 * ((MJ lo hi a b k:Nat):Int))=((2 * MJ lo hi a b k:Nat):Int):=by rw [wrap_i64 (by omega) (by omega)]; omega
  have e3:IntKind.i64.wrap (((15 - k:Nat):Int) - 1)=15 - ((k+1:Nat):Int):=by rw [wrap_i64 (by omega) (by omega)]; omega
  have hst:MJ lo hi a b (k+1)=2 * MJ lo hi a b k+(if lo≤KP a (15 - k)+KP b (15 - k)∧KP a (15 - k)+KP b (15 - k)≤hi then 1 else 0):=rfl
  simp -implicitDefEqProofs only [BC,BP,BA,BR,A8,AY,AO,AQ,AL,BD,AX,AC,AA,AZ,BU,BG,BZ,BO,jE,jD,jF,↓reduceIte,jC,jA,jB,f0,f10,e0]
  refine (AHO G a (15 - k) ha (by omega) H).use ?_
  simp -implicitDefEqProofs only [AY,AO,AQ,AL,BD,AX,AC,AA,AZ,BU,BG,BZ,BO,jE,jD,jF,↓reduceIte,jC,jA,jB,f1,f10,e0]
  refine (AHO G b (15 - k) hb (by omega) H).use ?_
  simp -implicitDefEqProofs only [BC,BA,A8,AY,BB,BK,BV,CO,AO,AQ,AL,BD,AX,AC,AA,AZ,AU,BH,BG,A7,BQ,AB,DK,PV,FX,↓reduceIte,jC,jA,jB,enP,f2,f3,f9,es,e2]
  cases h1:decide (((KP a (15 - k)+KP b (15 - k):Nat):Int)≥((lo:Nat):Int))
  ·have h1' : ¬ lo≤KP a (15 - k)+KP b (15 - k):=by simp at h1; omega
   rw [if_neg (fun q=>h1' q.1),jM] at hst
   simp -implicitDefEqProofs only [BA,BR,BI,A8,EH,ER,DI,AY,BB,BK,BV,CO,JD,AO,AQ,AL,BD,AX,AC,AA,EK,AZ,AU,BH,BM,BG,A7,CP,DN,BQ,AB,JK,↓reduceIte,jC,jA,jB,enP,h1,f10,e0,e3]
   exact ⟨n - 1,by omega,k+1,by omega,f0,f1,f2,f3,by rw [hst] <;> rfl,by trivial,trivial⟩
  ·have h1':lo≤KP a (15 - k)+KP b (15 - k):=by simp at h1; omega
   cases h2:decide (((KP a (15 - k)+KP b (15 - k):Nat):Int)≤((hi:Nat):Int))
   ·have h2' : ¬ KP a (15 - k)+KP b (15 - k)≤hi:=by simp at h2; omega
    rw [if_neg (fun q=>h2' q.2),jM] at hst
    simp -implicitDefEqProofs only [BA,BR,BI,A8,EH,ER,DI,AY,BB,BK,BV,CO,FY,AO,AQ,AL,BD,AX,AC,AA,AZ,AU,BH,BM,BG,A7,CP,DL,BQ,AB,JK,IJ,↓reduceIte,jC,jA,jB,enP,h1,h2,f3,f10,e0,e3]
    exact ⟨n - 1,by omega,k+1,by omega,f0,f1,f2,by trivial,by rw [hst] <;> rfl,by trivial,trivial⟩
   ·have h2':KP a (15 - k)+KP b (15 - k)≤hi:=by simp at h2; omega
    rw [if_pos ⟨h1',h2'⟩] at hst
    simp -implicitDefEqProofs only [BA,BI,A8,EH,ER,CZ,AY,BB,BK,BV,CO,FY,AO,AQ,AL,BD,AX,AC,AA,AZ,AU,BH,BM,BG,A7,CP,DL,BQ,AB,DK,JK,IJ,↓reduceIte,jC,jA,jB,enP,h1,h2,f3,f10,e0,e3,wrap_succ (show 2 * MJ lo hi a b k < 9223372036854775807 by omega)]
    exact ⟨n - 1,by omega,k+1,by omega,f0,f1,f2,by trivial,by rw [hst] <;> rfl,by trivial,trivial⟩
 ·have hk':k=16:=by simp at hc; omega
  subst hk'
  simp -implicitDefEqProofs only [BC,BA,BJ,DW,A8,EG,EY,EZ,CJ,AY,BB,AO,AQ,AL,BD,AX,AC,AA,AZ,BG,A7,↓reduceIte,jC,jA,jB,f9]
  exact ⟨by trivial,trivial⟩
theorem A6Q (G:Nat→AV) (a b:Nat) (ha:a < 65536) (hb:b < 65536) (h:Hp):PCall (En G) 232 [.int .i64 (a:Nat),.int .i64 (b:Nat)] h (.int .i64 ((a &&& b:Nat):Int)):=by
 have hc:=ADQ G 2 2 a b ha hb h
 rw [AWS a b ha] at hc
 have hc':PCall (En G) 251 [.int .i64 (a:Nat),.int .i64 (b:Nat),.int .i64 2,.int .i64 2] h (.int .i64 ((a &&& b:Nat):Int)):=hc
 refine acN Tryz.func232 rfl ?_
 show awp _ _ _ _ _ (D8 _ [.tmp 4] _)
 simp -implicitDefEqProofs only [BC,BA,A8,AY,BB,AO,AQ,AL,BD,AX,AC,AA,AZ,AU,BU,BH,BG,A7,BZ,BO,BF,BL,jE,jD,jF,↓reduceIte,jC,jA,jB,enP]
 refine hc'.use ?_
 simp -implicitDefEqProofs only [BJ,A8,CJ,AY,BB,AO,AQ,AL,BD,AX,AC,AA,AZ,A7,↓reduceIte,jA,jB]
 exact ⟨trivial,trivial⟩
theorem A7O (G:Nat→AV) (a b:Nat) (ha:a < 65536) (hb:b < 65536) (h:Hp):PCall (En G) 233 [.int .i64 (a:Nat),.int .i64 (b:Nat)] h (.int .i64 ((a ||| b:Nat):Int)):=by
 have hc:=ADQ G 1 2 a b ha hb h
 rw [A0M a b ha hb] at hc
 have hc':PCall (En G) 251 [.int .i64 (a:Nat),.int .i64 (b:Nat),.int .i64 1,.int .i64 2] h (.int .i64 ((a ||| b:Nat):Int)):=hc
 refine acN Tryz.func233 rfl ?_
 show awp _ _ _ _ _ (D8 _ [.tmp 4] _)
 simp -implicitDefEqProofs only [BC,BA,A8,AY,BB,AO,AQ,AL,BD,AX,AC,AA,AZ,AU,BU,BH,BG,A7,BZ,BO,BF,BL,jE,jD,jF,↓reduceIte,jC,jA,jB,enP]
 refine hc'.use ?_
 simp -implicitDefEqProofs only [BJ,A8,CJ,AY,BB,AO,AQ,AL,BD,AX,AC,AA,AZ,A7,↓reduceIte,jA,jB]
 exact ⟨trivial,trivial⟩
theorem A3U (G:Nat→AV) (a b:Nat) (ha:a < 65536) (hb:b < 65536) (h:Hp):PCall (En G) 234 [.int .i64 (a:Nat),.int .i64 (b:Nat)] h (.int .i64 ((a ^^^ b:Nat):Int)):=by
 have hc:=ADQ G 1 1 a b ha hb h
 rw [AWR a b ha hb] at hc
 have hc':PCall (En G) 251 [.int .i64 (a:Nat),.int .i64 (b:Nat),.int .i64 1,.int .i64 1] h (.int .i64 ((a ^^^ b:Nat):Int)):=hc
 refine acN Tryz.func234 rfl ?_
 show awp _ _ _ _ _ (D8 _ [.tmp 4] _)
 simp -implicitDefEqProofs only [BC,BA,A8,AY,BB,AO,AQ,AL,BD,AX,AC,AA,AZ,AU,BU,BH,BG,A7,BZ,BO,BF,BL,jE,jD,jF,↓reduceIte,jC,jA,jB,enP]
 refine hc'.use ?_
 simp -implicitDefEqProofs only [BJ,A8,CJ,AY,BB,AO,AQ,AL,BD,AX,AC,AA,AZ,A7,↓reduceIte,jA,jB]
 exact ⟨trivial,trivial⟩
end Go.Proofs.YtfpagfhhhlljjaaGreatDoor.Wd
set_option linter.unusedSimpArgs false
set_option maxRecDepth 8000
namespace Go.Proofs.YtfpagfhhhlljjaaGreatDoor.Xe
open Sm Bins Cov Wd Go.RowKit
open Bool renaming eq_iff_iff→qP,not_false→jB,not_true→jV,or_false→jR
open Int renaming reduceBEq→zD
open List renaming map_cons→jE,map_nil→jD,append_nil→jF
open Nat renaming mod_lt→qU,le_of_ble_eq_true→jH,reduceEqDiff→jC
open Option renaming getD_some→jA
def tr (b:Bool):Nat:=if b then 1 else 0
def sgW (op:Int) (a:Nat):Nat:=if op=4 then tr (a == 0) else if op=5 then 65535 - a else if op=6 then (65536 - a) % 65536 else UN a
def dbW (op:Int) (a b:Nat):Nat :=
 if op=7 then (a+b) % 65536 else if op=8 then (a+65536 - b) % 65536 else if op=9 then a * b % 65536 else if op=10 then a &&& b else if op=11 then a ||| b else if op=12 then a ^^^ b
 else if op=13 then YZ a (b:Nat) else if op=14 then WC a (b:Nat) else if op=15 then tr (a == b) else if op=16 then tr (!(a == b)) else if op=17 then tr (decide (a < b)) else if op=18 then tr (decide (a≤b))
 else if op=19 then tr (!(a == 0) && !(b == 0)) else if op=20 then tr (!(a == 0) || !(b == 0)) else tr ((a == 0) || !(b == 0))
theorem XF (b:Bool):tr b < 65536:=by cases b <;> decide
theorem A2G {op:Int} {a:Nat} (ha:a < 65536):sgW op a < 65536:=by
 unfold sgW
 by_cases h4:op=4
 ·rw [if_pos h4]; exact XF _
 by_cases h5:op=5
 ·rw [if_neg h4,if_pos h5]; omega
 by_cases h6:op=6
 ·rw [if_neg h4,if_neg h5,if_pos h6]; exact qU _ (by omega)
 ·rw [if_neg h4,if_neg h5,if_neg h6]
  have:=OY a 16
  unfold UN; omega
theorem A29 {op:Int} {a b:Nat} (ha:a < 65536) (hb:b < 65536):dbW op a b < 65536:=by
 unfold dbW
 by_cases h7:op=7
 ·rw [if_pos h7]; exact qU _ (by omega)
 by_cases h8:op=8
 ·rw [if_neg h7,if_pos h8]; exact qU _ (by omega)
 by_cases h9:op=9
 ·rw [if_neg h7,if_neg h8,if_pos h9]; exact qU _ (by omega)
 by_cases h10:op=10
 ·rw [if_neg h7,if_neg h8,if_neg h9,if_pos h10]; exact Nat.lt_of_le_of_lt Nat.and_le_left ha
 by_cases h11:op=11
 ·rw [if_neg h7,if_neg h8,if_neg h9,if_neg h10,if_pos h11]; exact Nat.or_lt_two_pow (n:=16) (by omega) (by omega)
 by_cases h12:op=12
 ·rw [if_neg h7,if_neg h8,if_neg h9,if_neg h10,if_neg h11,if_pos h12]; exact Nat.xor_lt_two_pow (n:=16) (by omega) (by omega)
 by_cases h13:op=13
 ·rw [if_neg h7,if_neg h8,if_neg h9,if_neg h10,if_neg h11,if_neg h12,if_pos h13]; exact APB
 by_cases h14:op=14
 ·rw [if_neg h7,if_neg h8,if_neg h9,if_neg h10,if_neg h11,if_neg h12,if_neg h13,if_pos h14]; exact APA ha
 by_cases h15:op=15
 ·rw [if_neg h7,if_neg h8,if_neg h9,if_neg h10,if_neg h11,if_neg h12,if_neg h13,if_neg h14,if_pos h15]; exact XF _
 by_cases h16:op=16
 ·rw [if_neg h7,if_neg h8,if_neg h9,if_neg h10,if_neg h11,if_neg h12,if_neg h13,if_neg h14,if_neg h15,if_pos h16]; exact XF _
 by_cases h17:op=17
 ·rw [if_neg h7,if_neg h8,if_neg h9,if_neg h10,if_neg h11,if_neg h12,if_neg h13,if_neg h14,if_neg h15,if_neg h16,if_pos h17]; exact XF _
 by_cases h18:op=18
 ·rw [if_neg h7,if_neg h8,if_neg h9,if_neg h10,if_neg h11,if_neg h12,if_neg h13,if_neg h14,if_neg h15,if_neg h16,if_neg h17,if_pos h18]; exact XF _
 by_cases h19:op=19
 ·rw [if_neg h7,if_neg h8,if_neg h9,if_neg h10,if_neg h11,if_neg h12,if_neg h13,if_neg h14,if_neg h15,if_neg h16,if_neg h17,if_neg h18,if_pos h19]; exact XF _
 by_cases h20:op=20
 ·rw [if_neg h7,if_neg h8,if_neg h9,if_neg h10,if_neg h11,if_neg h12,if_neg h13,if_neg h14,if_neg h15,if_neg h16,if_neg h17,if_neg h18,if_neg h19,if_pos h20]; exact XF _
 ·rw [if_neg h7,if_neg h8,if_neg h9,if_neg h10,if_neg h11,if_neg h12,if_neg h13,if_neg h14,if_neg h15,if_neg h16,if_neg h17,if_neg h18,if_neg h19,if_neg h20]; exact XF _
theorem eqc (a b:Nat):((a:Int) == (b:Int))=(a == b):=by
 rw [qP]; simp only [beq_iff_eq]; omega
theorem eqz (a:Nat):((a:Int) == 0)=(a == 0):=eqc a 0
theorem nec (a b:Nat):((a:Int) != (b:Int)) = !(a == b):=congrArg not (eqc a b)
theorem nez (a:Nat):((a:Int) != 0) = !(a == 0):=nec a 0
theorem ltc (a b:Nat):decide ((a:Int) < (b:Int))=decide (a < b):=by
 rw [qP]; simp only [decide_eq_true_eq]; omega
theorem lec (a b:Nat):decide ((a:Int)≤(b:Int))=decide (a≤b):=by
 rw [qP]; simp only [decide_eq_true_eq]; omega
theorem MF (G:Nat→AV) (b:Bool) (h:Hp):PCall (En G) 263 [.bool b] h (.int .i64 (tr b:Nat)):=by
 refine acN Tryz.func263 rfl ?_
 show awp _ _ _ _ _ (D8 _ [.tmp 2] _)
 cases b
 all_goals
  simp -implicitDefEqProofs only [BC,BA,BR,BJ,BI,A8,CQ,CJ,CZ,DI,AY,BB,AO,AQ,AL,BD,AX,AC,AA,AZ,AU,BH,BG,A7,BF,↓reduceIte,jC,jA,jB,enP]
  exact ⟨rfl,trivial⟩
theorem AIT (G:Nat→AV) (op:Int) (a:Nat) (ha:a < 65536) (h:Hp):PCall (En G) 246 [.int .i64 op,.int .i64 (a:Nat)] h (.int .i64 (sgW op a:Nat)):=by
 refine acN Tryz.func246 rfl ?_
 show awp _ _ _ _ _ (D8 _ [.tmp 4] _)
 have hcase:op=4∨op=5∨op=6∨(op≠4∧op≠5∧op≠6):=by omega
 rcases hcase with rfl | rfl | rfl | ⟨n4,n5,n6⟩
 ·simp -implicitDefEqProofs only [BC,BP,BA,BI,A8,CZ,AY,BB,AO,AQ,AL,BD,AX,AC,AA,AZ,AU,BU,BH,BG,A7,BQ,BZ,BO,AB,DR,BF,BL,jE,jD,jF,↓reduceIte,jC,jA,jB,enP,zD,eqz]
  refine (MF G _ h).use ?_
  simp -implicitDefEqProofs only [BJ,A8,CQ,ED,CJ,AY,BB,AO,AQ,AL,BD,AX,AC,AA,AZ,A7,↓reduceIte,jA,jB]
  exact ⟨rfl,trivial⟩
 ·simp -implicitDefEqProofs only [BC,BP,BA,BI,A8,CZ,DI,AY,BB,AO,AQ,AL,BD,AX,AC,AA,AZ,AU,BU,BH,BG,A7,BQ,BZ,BO,AB,DR,BF,BL,jE,jD,jF,↓reduceIte,jC,jA,jB,enP,zD]
  refine (A5E G a ha h).use ?_
  simp -implicitDefEqProofs only [BJ,A8,CQ,ED,CJ,AY,BB,AO,AQ,AL,BD,AX,AC,AA,AZ,A7,↓reduceIte,jA,jB]
  exact ⟨rfl,trivial⟩
 ·simp -implicitDefEqProofs only [BC,BP,BA,BI,A8,CZ,DI,AY,BB,AO,AQ,AL,BD,AX,AC,AA,AZ,AU,BU,BH,BG,A7,BQ,BZ,BO,AB,DR,BF,BL,jE,jD,jF,↓reduceIte,jC,jA,jB,enP,zD]
  refine (A4R G a ha h).use ?_
  simp -implicitDefEqProofs only [BJ,A8,CQ,ED,CJ,AY,BB,AO,AQ,AL,BD,AX,AC,AA,AZ,A7,↓reduceIte,jA,jB]
  exact ⟨rfl,trivial⟩
 ·simp -implicitDefEqProofs only [BC,BP,BA,BR,BI,A8,EH,DI,AY,BB,AO,AQ,AL,BD,AX,AC,AA,AZ,AU,BU,BH,BG,A7,BQ,BZ,BO,AB,DR,BF,BL,jE,jD,jF,↓reduceIte,jC,jA,jB,enP,beq_eq_false_iff_ne.2 n4,beq_eq_false_iff_ne.2 n5,beq_eq_false_iff_ne.2 n6]
  refine (ARI G a ha h).use ?_
  simp -implicitDefEqProofs only [BJ,A8,CJ,AY,BB,AO,AQ,AL,BD,AX,AC,AA,AZ,A7,↓reduceIte,jA,jB]
  exact ⟨by unfold sgW; rw [if_neg n4,if_neg n5,if_neg n6],trivial⟩
set_option maxHeartbeats 4000000 in
theorem AK1 (G:Nat→AV) (op:Int) (a b:Nat) (ha:a < 65536) (hb:b < 65536) (h:Hp):PCall (En G) 247 [.int .i64 op,.int .i64 (a:Nat),.int .i64 (b:Nat)] h (.int .i64 (dbW op a b:Nat)):=by
 refine acN Tryz.func247 rfl ?_
 show awp _ _ _ _ _ (D8 _ [.tmp 6] _)
 have hcase:op=7∨op=8∨op=9∨op=10∨op=11∨op=12∨op=13∨op=14∨op=15∨op=16∨op=17∨op=18∨op=19∨op=20∨(op < 7∨20 < op):=by omega
 rcases hcase with rfl | rfl | rfl | rfl | rfl | rfl | rfl | rfl | rfl | rfl | rfl | rfl | rfl | rfl | hop
 ·simp -implicitDefEqProofs only [BC,BP,BA,BI,A8,CZ,AY,BB,AO,AQ,AL,BD,AX,AC,AA,AZ,AU,BU,BH,BG,A7,BQ,BZ,BO,AB,DR,BF,BL,jE,jD,jF,↓reduceIte,jC,jA,jB,enP,zD]
  refine (A1V G a b ha hb h).use ?_
  simp -implicitDefEqProofs only [BJ,A8,CQ,ED,CJ,AY,BB,AO,AQ,AL,BD,AX,AC,AA,AZ,A7,↓reduceIte,jA,jB]
  exact ⟨rfl,trivial⟩
 ·simp -implicitDefEqProofs only [BC,BP,BA,BI,A8,CZ,DI,AY,BB,AO,AQ,AL,BD,AX,AC,AA,AZ,AU,BU,BH,BG,A7,BQ,BZ,BO,AB,DR,BF,BL,jE,jD,jF,↓reduceIte,jC,jA,jB,enP,zD]
  refine (A32 G a b ha hb h).use ?_
  simp -implicitDefEqProofs only [BJ,A8,CQ,ED,CJ,AY,BB,AO,AQ,AL,BD,AX,AC,AA,AZ,A7,↓reduceIte,jA,jB]
  exact ⟨rfl,trivial⟩
 ·simp -implicitDefEqProofs only [BC,BP,BA,BI,A8,CZ,DI,AY,BB,AO,AQ,AL,BD,AX,AC,AA,AZ,AU,BU,BH,BG,A7,BQ,BZ,BO,AB,DR,BF,BL,jE,jD,jF,↓reduceIte,jC,jA,jB,enP,zD]
  refine (A4T G a b ha hb h).use ?_
  simp -implicitDefEqProofs only [BJ,A8,CQ,ED,CJ,AY,BB,AO,AQ,AL,BD,AX,AC,AA,AZ,A7,↓reduceIte,jA,jB]
  exact ⟨rfl,trivial⟩
 ·simp -implicitDefEqProofs only [BC,BP,BA,BJ,BI,A8,CQ,ED,CJ,CZ,DI,AY,BB,AO,AQ,AL,BD,AX,AC,AA,AZ,AU,BH,BG,A7,BQ,AB,DR,BF,BL,↓reduceIte,jC,jA,jB,enP,zD,A6P a b ha hb]
  exact ⟨rfl,trivial⟩
 ·simp -implicitDefEqProofs only [BC,BP,BA,BJ,BI,A8,CQ,ED,CJ,CZ,DI,AY,BB,AO,AQ,AL,BD,AX,AC,AA,AZ,AU,BH,BG,A7,BQ,AB,DR,BF,BL,↓reduceIte,jC,jA,jB,enP,zD,A7N a b ha hb]
  exact ⟨rfl,trivial⟩
 ·simp -implicitDefEqProofs only [BC,BP,BA,BJ,BI,A8,CQ,ED,CJ,CZ,DI,AY,BB,AO,AQ,AL,BD,AX,AC,AA,AZ,AU,BH,BG,A7,BQ,AB,DR,BF,BL,↓reduceIte,jC,jA,jB,enP,zD,A3T a b ha hb]
  exact ⟨rfl,trivial⟩
 ·simp -implicitDefEqProofs only [BC,BP,BA,BI,A8,CZ,DI,AY,BB,AO,AQ,AL,BD,AX,AC,AA,AZ,AU,BU,BH,BG,A7,BQ,BZ,BO,AB,DR,BF,BL,jE,jD,jF,↓reduceIte,jC,jA,jB,enP,zD]
  refine (A4F G a (b:Nat) ha h).use ?_
  simp -implicitDefEqProofs only [BJ,A8,CQ,ED,CJ,AY,BB,AO,AQ,AL,BD,AX,AC,AA,AZ,A7,↓reduceIte,jA,jB]
  exact ⟨rfl,trivial⟩
 ·simp -implicitDefEqProofs only [BC,BP,BA,BI,A8,CZ,DI,AY,BB,AO,AQ,AL,BD,AX,AC,AA,AZ,AU,BU,BH,BG,A7,BQ,BZ,BO,AB,DR,BF,BL,jE,jD,jF,↓reduceIte,jC,jA,jB,enP,zD]
  refine (A4E G a (b:Nat) ha h).use ?_
  simp -implicitDefEqProofs only [BJ,A8,CQ,ED,CJ,AY,BB,AO,AQ,AL,BD,AX,AC,AA,AZ,A7,↓reduceIte,jA,jB]
  exact ⟨rfl,trivial⟩
 ·simp -implicitDefEqProofs only [BC,BP,BA,BI,A8,CZ,DI,AY,BB,AO,AQ,AL,BD,AX,AC,AA,AZ,AU,BU,BH,BG,A7,BQ,BZ,BO,AB,DR,BF,BL,jE,jD,jF,↓reduceIte,jC,jA,jB,enP,zD,eqc,nec,ltc,lec]
  refine (MF G _ h).use ?_
  simp -implicitDefEqProofs only [BJ,A8,CQ,ED,CJ,AY,BB,AO,AQ,AL,BD,AX,AC,AA,AZ,A7,↓reduceIte,jA,jB]
  exact ⟨rfl,trivial⟩
 ·simp -implicitDefEqProofs only [BC,BP,BA,BI,A8,CZ,DI,AY,BB,AO,AQ,AL,BD,AX,AC,AA,AZ,AU,BU,BH,BG,A7,BQ,BZ,BO,AB,DR,ET,BF,BL,jE,jD,jF,↓reduceIte,jC,jA,jB,enP,zD,eqc,nec,ltc,lec]
  refine (MF G _ h).use ?_
  simp -implicitDefEqProofs only [BJ,A8,CQ,ED,CJ,AY,BB,AO,AQ,AL,BD,AX,AC,AA,AZ,A7,↓reduceIte,jA,jB]
  exact ⟨rfl,trivial⟩
 ·simp -implicitDefEqProofs only [BC,BP,BA,BI,A8,CZ,DI,AY,BB,AO,AQ,AL,BD,AX,AC,AA,AZ,AU,BU,BH,BG,A7,BQ,BZ,BO,AB,DR,C9,BF,BL,jE,jD,jF,↓reduceIte,jC,jA,jB,enP,zD,eqc,nec,ltc,lec]
  refine (MF G _ h).use ?_
  simp -implicitDefEqProofs only [BJ,A8,CQ,ED,CJ,AY,BB,AO,AQ,AL,BD,AX,AC,AA,AZ,A7,↓reduceIte,jA,jB]
  exact ⟨rfl,trivial⟩
 ·simp -implicitDefEqProofs only [BC,BP,BA,BI,A8,CZ,DI,AY,BB,AO,AQ,AL,BD,AX,AC,AA,AZ,AU,BU,BH,BG,A7,BQ,BZ,BO,AB,DR,IJ,BF,BL,jE,jD,jF,↓reduceIte,jC,jA,jB,enP,zD,eqc,nec,ltc,lec]
  refine (MF G _ h).use ?_
  simp -implicitDefEqProofs only [BJ,A8,CQ,ED,CJ,AY,BB,AO,AQ,AL,BD,AX,AC,AA,AZ,A7,↓reduceIte,jA,jB]
  exact ⟨rfl,trivial⟩
 ·simp -implicitDefEqProofs only [BC,BP,BA,BI,A8,CZ,DI,AY,BB,BK,BV,CO,AO,AQ,AL,BD,AX,AC,AA,AZ,AU,BH,BG,A7,BQ,AB,DR,ET,BF,BL,↓reduceIte,jC,jA,jB,enP,zD,eqz,nez]
  cases h1:(a == 0) <;> cases h2:(b == 0)
  all_goals
   simp -implicitDefEqProofs only [AY,BK,BV,CO,FY,JD,AO,AQ,AL,BD,AX,AC,AA,EK,AZ,AU,BU,BH,BM,BG,CP,DL,DN,BQ,BZ,BO,AB,ET,BF,BL,jE,jD,jF,↓reduceIte,jC,jA,jV,jB,enP,h1,h2,nez]
   refine (MF G _ h).use ?_
   simp -implicitDefEqProofs only [BJ,A8,CQ,ED,CJ,AY,BB,AO,AQ,AL,BD,AX,AC,AA,AZ,A7,↓reduceIte,jA,jB]
   exact ⟨by unfold dbW; rw [h1,h2]; rfl,trivial⟩
 ·simp -implicitDefEqProofs only [BC,BP,BA,BI,A8,CZ,DI,AY,BB,BK,BV,CO,AO,AQ,AL,BD,AX,AC,AA,AZ,AU,BH,BG,A7,BQ,AB,DR,ET,BF,BL,↓reduceIte,jC,jA,jB,enP,zD,eqz,nez]
  cases h1:(a == 0) <;> cases h2:(b == 0)
  all_goals
   simp -implicitDefEqProofs only [AY,BK,BV,CO,EF,FI,AO,AQ,AL,BD,AX,AC,AA,EK,AZ,AU,BU,BH,BM,BG,CP,DL,DN,BQ,BZ,BO,AB,ET,BF,BL,jE,jD,jF,↓reduceIte,jC,jA,jV,jB,enP,h1,h2,nez]
   refine (MF G _ h).use ?_
   simp -implicitDefEqProofs only [BJ,A8,CQ,ED,CJ,AY,BB,AO,AQ,AL,BD,AX,AC,AA,AZ,A7,↓reduceIte,jA,jB]
   exact ⟨by unfold dbW; rw [h1,h2]; rfl,trivial⟩
 ·have hne : ∀ k:Int,7≤k→k≤20→(op == k)=false:=fun k _ _=>beq_eq_false_iff_ne.2 (by omega)
  have hd:dbW op a b=tr ((a == 0) || !(b == 0)):=by
   unfold dbW
   rw [if_neg (by omega : ¬ op=7),if_neg (by omega : ¬ op=8),if_neg (by omega : ¬ op=9),if_neg (by omega : ¬ op=10),if_neg (by omega : ¬ op=11),if_neg (by omega : ¬ op=12),if_neg (by omega : ¬ op=13),if_neg (by omega : ¬ op=14),if_neg (by omega : ¬ op=15),if_neg (by omega : ¬ op=16),if_neg (by omega : ¬ op=17),if_neg (by omega : ¬ op=18),if_neg (by omega : ¬ op=19),if_neg (by omega : ¬ op=20)]
  rw [hd]
  simp -implicitDefEqProofs only [BC,BP,BA,BR,BI,A8,EH,DI,AY,BB,BK,BV,CO,AO,AQ,AL,BD,AX,AC,AA,AZ,AU,BH,BG,A7,BQ,AB,DR,BF,BL,↓reduceIte,jC,jA,jB,enP,hne 7 (by decide) (by decide),hne 8 (by decide) (by decide),hne 9 (by decide) (by decide),hne 10 (by decide) (by decide),hne 11 (by decide) (by decide),hne 12 (by decide) (by decide),hne 13 (by decide) (by decide),hne 14 (by decide) (by decide),hne 15 (by decide) (by decide),hne 16 (by decide) (by decide),hne 17 (by decide) (by decide),hne 18 (by decide) (by decide),hne 19 (by decide) (by decide),hne 20 (by decide) (by decide),eqz,nez]
  cases h1:(a == 0) <;> cases h2:(b == 0)
  all_goals
   simp -implicitDefEqProofs only [jR,Bool.or_true,AY,BK,BV,CO,EF,FI,AO,AQ,AL,BD,AX,AC,AA,EK,AZ,AU,BU,BH,BM,BG,CP,DL,DN,BQ,BZ,BO,AB,ET,BF,BL,jE,jD,jF,↓reduceIte,jC,jA,jV,jB,enP,h1,h2,nez]
   refine (MF G _ h).use ?_
   simp -implicitDefEqProofs only [BJ,A8,CJ,AY,BB,AO,AQ,AL,BD,AX,AC,AA,AZ,A7,↓reduceIte,jA,jB]
   exact ⟨by trivial,trivial⟩
theorem NK (G:Nat→AV) (b:Bool) (h:Hp):PCall (En G) 226 [.bool b] h (.int .i64 (tr b:Nat)):=by
 refine acN Tryz.func226 rfl ?_
 show awp _ _ _ _ _ (D8 _ [.tmp 2] _)
 cases b
 all_goals
  simp -implicitDefEqProofs only [BC,BA,BR,BJ,BI,A8,CQ,CJ,CZ,DI,AY,BB,AO,AQ,AL,BD,AX,AC,AA,AZ,AU,BH,BG,A7,BF,↓reduceIte,jC,jA,jB,enP]
  exact ⟨rfl,trivial⟩
theorem AMK (G:Nat→AV) (op:Int) (a:Nat) (ha:a < 65536) (h:Hp):PCall (En G) 199 [.int .i64 op,.int .i64 (a:Nat)] h (.int .i64 (sgW op a:Nat)):=by
 refine acN Tryz.func199 rfl ?_
 show awp _ _ _ _ _ (D8 _ [.tmp 4] _)
 have hcase:op=4∨op=5∨op=6∨(op≠4∧op≠5∧op≠6):=by omega
 rcases hcase with rfl | rfl | rfl | ⟨n4,n5,n6⟩
 ·simp -implicitDefEqProofs only [BC,BP,BA,BI,A8,CZ,AY,BB,AO,AQ,AL,BD,AX,AC,AA,AZ,AU,BU,BH,BG,A7,BQ,BZ,BO,AB,DR,BF,BL,jE,jD,jF,↓reduceIte,jC,jA,jB,enP,zD,eqz]
  refine (NK G _ h).use ?_
  simp -implicitDefEqProofs only [BJ,A8,CQ,ED,CJ,AY,BB,AO,AQ,AL,BD,AX,AC,AA,AZ,A7,↓reduceIte,jA,jB]
  exact ⟨rfl,trivial⟩
 ·simp -implicitDefEqProofs only [BC,BP,BA,BI,A8,CZ,DI,AY,BB,AO,AQ,AL,BD,AX,AC,AA,AZ,AU,BU,BH,BG,A7,BQ,BZ,BO,AB,DR,BF,BL,jE,jD,jF,↓reduceIte,jC,jA,jB,enP,zD]
  refine (A5F G a ha h).use ?_
  simp -implicitDefEqProofs only [BJ,A8,CQ,ED,CJ,AY,BB,AO,AQ,AL,BD,AX,AC,AA,AZ,A7,↓reduceIte,jA,jB]
  exact ⟨rfl,trivial⟩
 ·simp -implicitDefEqProofs only [BC,BP,BA,BI,A8,CZ,DI,AY,BB,AO,AQ,AL,BD,AX,AC,AA,AZ,AU,BU,BH,BG,A7,BQ,BZ,BO,AB,DR,BF,BL,jE,jD,jF,↓reduceIte,jC,jA,jB,enP,zD]
  refine (A4S G a ha h).use ?_
  simp -implicitDefEqProofs only [BJ,A8,CQ,ED,CJ,AY,BB,AO,AQ,AL,BD,AX,AC,AA,AZ,A7,↓reduceIte,jA,jB]
  exact ⟨rfl,trivial⟩
 ·simp -implicitDefEqProofs only [BC,BP,BA,BR,BI,A8,EH,DI,AY,BB,AO,AQ,AL,BD,AX,AC,AA,AZ,AU,BU,BH,BG,A7,BQ,BZ,BO,AB,DR,BF,BL,jE,jD,jF,↓reduceIte,jC,jA,jB,enP,beq_eq_false_iff_ne.2 n4,beq_eq_false_iff_ne.2 n5,beq_eq_false_iff_ne.2 n6]
  refine (A2P G a ha h).use ?_
  simp -implicitDefEqProofs only [BJ,A8,CJ,AY,BB,AO,AQ,AL,BD,AX,AC,AA,AZ,A7,↓reduceIte,jA,jB]
  exact ⟨by unfold sgW; rw [if_neg n4,if_neg n5,if_neg n6],trivial⟩
set_option maxHeartbeats 4000000 in
theorem ANV (G:Nat→AV) (op:Int) (a b:Nat) (ha:a < 65536) (hb:b < 65536) (h:Hp):PCall (En G) 200 [.int .i64 op,.int .i64 (a:Nat),.int .i64 (b:Nat)] h (.int .i64 (dbW op a b:Nat)):=by
 refine acN Tryz.func200 rfl ?_
 show awp _ _ _ _ _ (D8 _ [.tmp 6] _)
 have hcase:op=7∨op=8∨op=9∨op=10∨op=11∨op=12∨op=13∨op=14∨op=15∨op=16∨op=17∨op=18∨op=19∨op=20∨(op < 7∨20 < op):=by omega
 rcases hcase with rfl | rfl | rfl | rfl | rfl | rfl | rfl | rfl | rfl | rfl | rfl | rfl | rfl | rfl | hop
 ·simp -implicitDefEqProofs only [BC,BP,BA,BI,A8,CZ,AY,BB,AO,AQ,AL,BD,AX,AC,AA,AZ,AU,BU,BH,BG,A7,BQ,BZ,BO,AB,DR,BF,BL,jE,jD,jF,↓reduceIte,jC,jA,jB,enP,zD]
  refine (A1W G a b ha hb h).use ?_
  simp -implicitDefEqProofs only [BJ,A8,CQ,ED,CJ,AY,BB,AO,AQ,AL,BD,AX,AC,AA,AZ,A7,↓reduceIte,jA,jB]
  exact ⟨rfl,trivial⟩
 ·simp -implicitDefEqProofs only [BC,BP,BA,BI,A8,CZ,DI,AY,BB,AO,AQ,AL,BD,AX,AC,AA,AZ,AU,BU,BH,BG,A7,BQ,BZ,BO,AB,DR,BF,BL,jE,jD,jF,↓reduceIte,jC,jA,jB,enP,zD]
  refine (A33 G a b ha hb h).use ?_
  simp -implicitDefEqProofs only [BJ,A8,CQ,ED,CJ,AY,BB,AO,AQ,AL,BD,AX,AC,AA,AZ,A7,↓reduceIte,jA,jB]
  exact ⟨rfl,trivial⟩
 ·simp -implicitDefEqProofs only [BC,BP,BA,BI,A8,CZ,DI,AY,BB,AO,AQ,AL,BD,AX,AC,AA,AZ,AU,BU,BH,BG,A7,BQ,BZ,BO,AB,DR,BF,BL,jE,jD,jF,↓reduceIte,jC,jA,jB,enP,zD]
  refine (A4U G a b ha hb h).use ?_
  simp -implicitDefEqProofs only [BJ,A8,CQ,ED,CJ,AY,BB,AO,AQ,AL,BD,AX,AC,AA,AZ,A7,↓reduceIte,jA,jB]
  exact ⟨rfl,trivial⟩
 ·simp -implicitDefEqProofs only [BC,BP,BA,BI,A8,CZ,DI,AY,BB,AO,AQ,AL,BD,AX,AC,AA,AZ,AU,BU,BH,BG,A7,BQ,BZ,BO,AB,DR,BF,BL,jE,jD,jF,↓reduceIte,jC,jA,jB,enP,zD]
  refine (A6Q G a b ha hb h).use ?_
  simp -implicitDefEqProofs only [BJ,A8,CQ,ED,CJ,AY,BB,AO,AQ,AL,BD,AX,AC,AA,AZ,A7,↓reduceIte,jA,jB]
  exact ⟨rfl,trivial⟩
 ·simp -implicitDefEqProofs only [BC,BP,BA,BI,A8,CZ,DI,AY,BB,AO,AQ,AL,BD,AX,AC,AA,AZ,AU,BU,BH,BG,A7,BQ,BZ,BO,AB,DR,BF,BL,jE,jD,jF,↓reduceIte,jC,jA,jB,enP,zD]
  refine (A7O G a b ha hb h).use ?_
  simp -implicitDefEqProofs only [BJ,A8,CQ,ED,CJ,AY,BB,AO,AQ,AL,BD,AX,AC,AA,AZ,A7,↓reduceIte,jA,jB]
  exact ⟨rfl,trivial⟩
 ·simp -implicitDefEqProofs only [BC,BP,BA,BI,A8,CZ,DI,AY,BB,AO,AQ,AL,BD,AX,AC,AA,AZ,AU,BU,BH,BG,A7,BQ,BZ,BO,AB,DR,BF,BL,jE,jD,jF,↓reduceIte,jC,jA,jB,enP,zD]
  refine (A3U G a b ha hb h).use ?_
  simp -implicitDefEqProofs only [BJ,A8,CQ,ED,CJ,AY,BB,AO,AQ,AL,BD,AX,AC,AA,AZ,A7,↓reduceIte,jA,jB]
  exact ⟨rfl,trivial⟩
 ·simp -implicitDefEqProofs only [BC,BP,BA,BI,A8,CZ,DI,AY,BB,AO,AQ,AL,BD,AX,AC,AA,AZ,AU,BU,BH,BG,A7,BQ,BZ,BO,AB,DR,BF,BL,jE,jD,jF,↓reduceIte,jC,jA,jB,enP,zD]
  refine (A4G G a (b:Nat) ha h).use ?_
  simp -implicitDefEqProofs only [BJ,A8,CQ,ED,CJ,AY,BB,AO,AQ,AL,BD,AX,AC,AA,AZ,A7,↓reduceIte,jA,jB]
  exact ⟨rfl,trivial⟩
 ·simp -implicitDefEqProofs only [BC,BP,BA,BI,A8,CZ,DI,AY,BB,AO,AQ,AL,BD,AX,AC,AA,AZ,AU,BU,BH,BG,A7,BQ,BZ,BO,AB,DR,BF,BL,jE,jD,jF,↓reduceIte,jC,jA,jB,enP,zD]
  refine (A1E G a (b:Nat) ha h).use ?_
  simp -implicitDefEqProofs only [BJ,A8,CQ,ED,CJ,AY,BB,AO,AQ,AL,BD,AX,AC,AA,AZ,A7,↓reduceIte,jA,jB]
  exact ⟨rfl,trivial⟩
 ·simp -implicitDefEqProofs only [BC,BP,BA,BI,A8,CZ,DI,AY,BB,AO,AQ,AL,BD,AX,AC,AA,AZ,AU,BU,BH,BG,A7,BQ,BZ,BO,AB,DR,BF,BL,jE,jD,jF,↓reduceIte,jC,jA,jB,enP,zD,eqc,nec,ltc,lec]
  refine (NK G _ h).use ?_
  simp -implicitDefEqProofs only [BJ,A8,CQ,ED,CJ,AY,BB,AO,AQ,AL,BD,AX,AC,AA,AZ,A7,↓reduceIte,jA,jB]
  exact ⟨rfl,trivial⟩
 ·simp -implicitDefEqProofs only [BC,BP,BA,BI,A8,CZ,DI,AY,BB,AO,AQ,AL,BD,AX,AC,AA,AZ,AU,BU,BH,BG,A7,BQ,BZ,BO,AB,DR,ET,BF,BL,jE,jD,jF,↓reduceIte,jC,jA,jB,enP,zD,eqc,nec,ltc,lec]
  refine (NK G _ h).use ?_
  simp -implicitDefEqProofs only [BJ,A8,CQ,ED,CJ,AY,BB,AO,AQ,AL,BD,AX,AC,AA,AZ,A7,↓reduceIte,jA,jB]
  exact ⟨rfl,trivial⟩
 ·simp -implicitDefEqProofs only [BC,BP,BA,BI,A8,CZ,DI,AY,BB,AO,AQ,AL,BD,AX,AC,AA,AZ,AU,BU,BH,BG,A7,BQ,BZ,BO,AB,DR,C9,BF,BL,jE,jD,jF,↓reduceIte,jC,jA,jB,enP,zD,eqc,nec,ltc,lec]
  refine (NK G _ h).use ?_
  simp -implicitDefEqProofs only [BJ,A8,CQ,ED,CJ,AY,BB,AO,AQ,AL,BD,AX,AC,AA,AZ,A7,↓reduceIte,jA,jB]
  exact ⟨rfl,trivial⟩
 ·simp -implicitDefEqProofs only [BC,BP,BA,BI,A8,CZ,DI,AY,BB,AO,AQ,AL,BD,AX,AC,AA,AZ,AU,BU,BH,BG,A7,BQ,BZ,BO,AB,DR,IJ,BF,BL,jE,jD,jF,↓reduceIte,jC,jA,jB,enP,zD,eqc,nec,ltc,lec]
  refine (NK G _ h).use ?_
  simp -implicitDefEqProofs only [BJ,A8,CQ,ED,CJ,AY,BB,AO,AQ,AL,BD,AX,AC,AA,AZ,A7,↓reduceIte,jA,jB]
  exact ⟨rfl,trivial⟩
 ·simp -implicitDefEqProofs only [BC,BP,BA,BI,A8,CZ,DI,AY,BB,BK,BV,CO,AO,AQ,AL,BD,AX,AC,AA,AZ,AU,BH,BG,A7,BQ,AB,DR,ET,BF,BL,↓reduceIte,jC,jA,jB,enP,zD,eqz,nez]
  cases h1:(a == 0) <;> cases h2:(b == 0)
  all_goals
   simp -implicitDefEqProofs only [AY,BK,BV,CO,FY,JD,AO,AQ,AL,BD,AX,AC,AA,EK,AZ,AU,BU,BH,BM,BG,CP,DL,DN,BQ,BZ,BO,AB,ET,BF,BL,jE,jD,jF,↓reduceIte,jC,jA,jV,jB,enP,h1,h2,nez]
   refine (NK G _ h).use ?_
   simp -implicitDefEqProofs only [BJ,A8,CQ,ED,CJ,AY,BB,AO,AQ,AL,BD,AX,AC,AA,AZ,A7,↓reduceIte,jA,jB]
   exact ⟨by unfold dbW; rw [h1,h2]; rfl,trivial⟩
 ·simp -implicitDefEqProofs only [BC,BP,BA,BI,A8,CZ,DI,AY,BB,BK,BV,CO,AO,AQ,AL,BD,AX,AC,AA,AZ,AU,BH,BG,A7,BQ,AB,DR,ET,BF,BL,↓reduceIte,jC,jA,jB,enP,zD,eqz,nez]
  cases h1:(a == 0) <;> cases h2:(b == 0)
  all_goals
   simp -implicitDefEqProofs only [AY,BK,BV,CO,EF,FI,AO,AQ,AL,BD,AX,AC,AA,EK,AZ,AU,BU,BH,BM,BG,CP,DL,DN,BQ,BZ,BO,AB,ET,BF,BL,jE,jD,jF,↓reduceIte,jC,jA,jV,jB,enP,h1,h2,nez]
   refine (NK G _ h).use ?_
   simp -implicitDefEqProofs only [BJ,A8,CQ,ED,CJ,AY,BB,AO,AQ,AL,BD,AX,AC,AA,AZ,A7,↓reduceIte,jA,jB]
   exact ⟨by unfold dbW; rw [h1,h2]; rfl,trivial⟩
 ·have hne : ∀ k:Int,7≤k→k≤20→(op == k)=false:=fun k _ _=>beq_eq_false_iff_ne.2 (by omega)
  have hd:dbW op a b=tr ((a == 0) || !(b == 0)):=by
   unfold dbW
   rw [if_neg (by omega : ¬ op=7),if_neg (by omega : ¬ op=8),if_neg (by omega : ¬ op=9),if_neg (by omega : ¬ op=10),if_neg (by omega : ¬ op=11),if_neg (by omega : ¬ op=12),if_neg (by omega : ¬ op=13),if_neg (by omega : ¬ op=14),if_neg (by omega : ¬ op=15),if_neg (by omega : ¬ op=16),if_neg (by omega : ¬ op=17),if_neg (by omega : ¬ op=18),if_neg (by omega : ¬ op=19),if_neg (by omega : ¬ op=20)]
  rw [hd]
  simp -implicitDefEqProofs only [BC,BP,BA,BR,BI,A8,EH,DI,AY,BB,BK,BV,CO,AO,AQ,AL,BD,AX,AC,AA,AZ,AU,BH,BG,A7,BQ,AB,DR,BF,BL,↓reduceIte,jC,jA,jB,enP,hne 7 (by decide) (by decide),hne 8 (by decide) (by decide),hne 9 (by decide) (by decide),hne 10 (by decide) (by decide),hne 11 (by decide) (by decide),hne 12 (by decide) (by decide),hne 13 (by decide) (by decide),hne 14 (by decide) (by decide),hne 15 (by decide) (by decide),hne 16 (by decide) (by decide),hne 17 (by decide) (by decide),hne 18 (by decide) (by decide),hne 19 (by decide) (by decide),hne 20 (by decide) (by decide),eqz,nez]
  cases h1:(a == 0) <;> cases h2:(b == 0)
  all_goals
   simp -implicitDefEqProofs only [jR,Bool.or_true,AY,BK,BV,CO,EF,FI,AO,AQ,AL,BD,AX,AC,AA,EK,AZ,AU,BU,BH,BM,BG,CP,DL,DN,BQ,BZ,BO,AB,ET,BF,BL,jE,jD,jF,↓reduceIte,jC,jA,jV,jB,enP,h1,h2,nez]
   refine (NK G _ h).use ?_
   simp -implicitDefEqProofs only [BJ,A8,CJ,AY,BB,AO,AQ,AL,BD,AX,AC,AA,AZ,A7,↓reduceIte,jA,jB]
   exact ⟨by trivial,trivial⟩
end Go.Proofs.YtfpagfhhhlljjaaGreatDoor.Xe
set_option linter.unusedSimpArgs false
set_option maxRecDepth 8000
namespace Go.Proofs.YtfpagfhhhlljjaaGreatDoor.Xe
open Sm Bins Cov Go.RowKit
open Bool renaming not_false→jB,not_true→jV
open List renaming getElem_mem→jO,map_cons→jE,map_nil→jD,append_nil→jF,getElem?_set→zB,getElem?_eq_getElem→jL,nil_append→qF,cons_append→qK,length_append→zZ
open Nat renaming le_of_ble_eq_true→jH,reduceEqDiff→jC,zero_add→jG
open Option renaming getD_some→jA,getD_none→jT
theorem A20:Frz encStr:=fun _ _ _ _=>⟨rfl,rfl⟩
theorem encStr0 (s:ByteArray):(encStr s)[0]? = some (.str s):=rfl
theorem AR6 (G:Nat→AV) (xs:List ByteArray) (b:Nat) (v:ByteArray) (h:Hp) (hb:h[b]? = some (.live 1 (xs.map encStr))) (hl:xs.length≤1099511627776) :
  ∃ k:Int,PCall (En G) 202 [.own b 0 xs.length,.str v] h (.int .i64 k)∧decide (k≥0)=JU xs v:=by
 have key : ∀ r:Int,(∀ i (hi:i < xs.length),(∀ j (hj:j < i),(v.toList == xs[j].toList)=false)→(v.toList == xs[i].toList)=true→r=(i:Int))→(JU xs v=false→r = -1)→PCall (En G) 202 [.own b 0 xs.length,.str v] h (.int .i64 r):=by
  intro r hr hr0
  refine acN Tryz.func202 rfl ?_
  show awp _ _ _ _ _ (D8 _ [.tmp 4] _)
  simp -implicitDefEqProofs only [BC,BP,BA,A8,AY,BB,AO,AQ,AL,BD,AX,AC,AA,AZ,AU,BH,BG,A7,D6,AB,BF,↓reduceIte,jC,jA,jB,enP,AJX]
  refine DY (fun n F H => ∃ k,n+k=xs.length∧F 0 = .own b 0 xs.length∧F 1 = .str v∧F 7 = .int .i64 (xs.length:Nat)∧F 8 = .int .i64 (k:Nat)∧H=h∧(∀ j (hj:j < xs.length),j < k→(v.toList == xs[j].toList)=false)∧JU xs v=JU (xs.drop k) v) xs.length ⟨0,by simp,by simp -implicitDefEqProofs only [AA,BF,↓reduceIte,jC],by simp -implicitDefEqProofs only [AA,BF,BL,↓reduceIte,jC],by simp -implicitDefEqProofs only [AA,↓reduceIte,jC],by simp -implicitDefEqProofs only [AA,↓reduceIte]; rfl,rfl,fun j _ hj=>by omega,rfl⟩ ?_
  rintro n F H ⟨k,hk,f0,f1,f7,f8,rfl,hbef,hin⟩
  simp -implicitDefEqProofs only [BC,BA,BI,A8,AY,BB,AO,AQ,AL,BD,AX,AC,AA,AZ,BQ,AB,C9,↓reduceIte,jA,jB,enP,f7,f8]
  refine CV (fun hc => ?_) (fun hc => ?_)
  ·have hk':k < xs.length:=by simpa using hc
   have hs:JU (xs.drop k) v=((v.toList == xs[k].toList) || JU (xs.drop (k+1)) v):=QL _ xs k hk'
   have l1:DX Tryz.prog H 9 (.ptr b k 0)=some (.str xs[k]):=by rw [DJ ag9 hb (row:=encStr xs[k]) (row_map hk')]; rfl
   simp -implicitDefEqProofs only [BC,BP,BA,BR,BI,A8,AY,BB,AO,AQ,AL,BD,AX,AC,AA,AZ,BG,A7,BX,BQ,CG,AB,MK,↓reduceIte,jC,jG,jA,jB,enP,AR0,f0,f1,f8,I5 hb hk',l1]
   refine CV (fun hx => ?_) (fun hx => ?_)
   ·simp -implicitDefEqProofs only [BC,BA,BJ,A8,CQ,ED,F7,CJ,AY,BB,AO,AQ,AL,BD,AX,AC,AA,AZ,BG,A7,↓reduceIte,jC,jA,jB]
    exact ⟨by rw [hr k hk' (fun j hj=>hbef j (by omega) hj) hx],trivial⟩
   ·simp -implicitDefEqProofs only [BA,BR,A8,EH,ER,AY,BB,AO,AQ,AL,BD,AX,AC,AA,AZ,AU,BH,BG,BQ,AB,DK,↓reduceIte,jC,jA,jB,enP,f8,wrap_succ (show k < 9223372036854775807 by omega)]
    refine ⟨n - 1,by omega,k+1,by omega,by trivial,by trivial,by trivial,rfl,trivial,fun j hj hjk => ?_,by rw [hin,hs,hx,Bool.false_or]⟩
    rcases Nat.lt_or_ge j k with h1 | h1
    ·exact hbef j hj h1
    ·have:j=k:=by omega
     subst this; exact hx
  ·have hk' : ¬ k < xs.length:=by simpa using hc
   simp -implicitDefEqProofs only [BC,BA,BJ,DW,A8,EG,EY,EZ,CJ,AY,BB,AO,AQ,AL,BD,AX,AC,AA,AU,BH,A7,↓reduceIte,jA,jB]
   refine ⟨?_,trivial⟩
   rw [hr0 (by rw [hin,List.drop_eq_nil_of_le (by omega)]; rfl)]
 by_cases hh:JU xs v=true
 ·obtain ⟨i,hi⟩ : ∃ i,xs.findIdx? (fun u=>v.toList == u.toList)=some i:=by
   cases he:xs.findIdx? (fun u=>v.toList == u.toList) with
   | some i=>exact ⟨i,rfl⟩
   | none =>
     rw [List.findIdx?_eq_none_iff] at he
     unfold JU at hh
     rw [List.any_eq_true] at hh
     obtain ⟨x,hx,hz⟩:=hh
     rw [he x hx] at hz; cases hz
  obtain ⟨hil,hiz,hbef⟩:=List.findIdx?_eq_some_iff_getElem.1 hi
  refine ⟨(i:Int),key i (fun k hk hb' hx => ?_) (fun h0=>by rw [hh] at h0; cases h0),by rw [hh]; simp⟩
  rcases Nat.lt_trichotomy i k with h1 | h1 | h1
  ·have:=hb' i h1; rw [hiz] at this; cases this
  ·rw [h1]
  ·have:=hbef k h1; rw [hx] at this; simp at this
 ·have hh':JU xs v=false:=by simpa using hh
  refine ⟨-1,key (-1) (fun k hk _ hx => ?_) (fun _=>rfl),by rw [hh']; decide⟩
  unfold JU at hh'
  rw [List.any_eq_false] at hh'
  exact absurd hx (hh' xs[k] (jO hk))
theorem AR7 (G:Nat→AV) (k:Nat) (v:ByteArray) (h:Hp):PCall (En G) 202 [.sl .nil k [],.str v] h (.int .i64 (-1)):=by
 refine acN Tryz.func202 rfl ?_
 show awp _ _ _ _ _ (D8 _ [.tmp 4] _)
 simp -implicitDefEqProofs only [BC,BP,BA,A8,AY,BB,AO,AQ,AL,BD,AX,AC,AA,AZ,AU,BH,BG,A7,D6,AB,BF,↓reduceIte,jC,jA,jB,enP,AJX,List.length_nil]
 refine DY (fun n F H=>F 7 = .int .i64 0∧F 8 = .int .i64 0∧H=h) 0 ⟨by simp -implicitDefEqProofs only [AA,↓reduceIte,jC] <;> rfl,by simp -implicitDefEqProofs only [AA,↓reduceIte],rfl⟩ ?_
 rintro n F H ⟨f7,f8,rfl⟩
 have hc:((0:Int) < 0)=False:=by simp
 simp -implicitDefEqProofs only [BC,BA,BJ,DW,BI,A8,EG,EY,EZ,CJ,DI,AY,BB,AO,AQ,AL,BD,AX,AC,AA,AZ,AU,BH,A7,BQ,AB,C9,↓reduceIte,jA,jB,decide_false,enP,f7,f8,hc,decide_false]
 exact ⟨by trivial,trivial⟩
theorem A5U (G:Nat→AV) {h0 h:Hp} {ns:List ByteArray} {u:AV} (ho:outG 1 encStr h0 ns u h) (v:ByteArray) (hl:ns.length≤8388608):PCall (En G) 174 [u,.str v] h (.bool (JU ns v)):=by
 have hi : ∃ k:Int,PCall (En G) 202 [u,.str v] h (.int .i64 k)∧decide (k≥0)=JU ns v:=by
  rcases ho with ⟨rfl,rfl⟩ | ⟨_,o,_,rfl,hb⟩
  ·exact ⟨-1,AR7 G 0 v h,rfl⟩
  ·exact AR6 G ns o v h hb (by omega)
 obtain ⟨k,hk,hd⟩:=hi
 refine acN Tryz.func174 rfl ?_
 show awp _ _ _ _ _ (D8 _ [.tmp 4] _)
 simp -implicitDefEqProofs only [BC,BA,A8,AY,BB,AO,AQ,AL,BD,AX,AC,AA,AZ,AU,BU,BM,BG,A7,BZ,BO,BF,BL,jE,jD,jF,↓reduceIte,jC,jA,jB,enP]
 refine hk.use ?_
 simp -implicitDefEqProofs only [BJ,A8,CJ,AY,BB,AO,AQ,AL,BD,AX,AC,AA,AZ,AU,BH,A7,BQ,AB,FX,↓reduceIte,jA,jB,enP,hd]
 exact ⟨trivial,trivial⟩
def nmU (ops:List Int) (ns:List ByteArray) (e:Ex):List ByteArray:=if (Rk.hasB ops e.op && !JU ns e.name)=true then ns ++ [e.name] else ns
def nmL (ops:List Int) (ns:List ByteArray) (l:List Ex):List ByteArray:=l.foldl (nmU ops) ns
theorem APM (ops:List Int) (ns:List ByteArray) (e:Ex):(nmU ops ns e).length≤ns.length+1:=by
 unfold nmU; split <;> simp
theorem AA9 (ops:List Int) : ∀ (l:List Ex) (ns:List ByteArray),(nmL ops ns l).length≤ns.length+l.length
 | [],ns=>by simp [nmL]
 | e :: l,ns=>by
   have h1:=AA9 ops l (nmU ops ns e)
   have h2:=APM ops ns e
   simp only [nmL,List.foldl_cons,List.length_cons] at h1 ⊢
   omega
theorem AY4 (ops:List Int) (ns:List ByteArray) (l r:List Ex):nmL ops ns (l ++ r)=nmL ops (nmL ops ns l) r:=List.foldl_append
structure NSt (h0:Hp) (c:Nat) (ns:List ByteArray) (v:AV) (h:Hp):Prop where
 cell:h[c]? = some (.live 1 [[v]])
 out:outG 1 encStr h0 ns v h
 base:h0.length≤c
 ex:ext h0 h
abbrev Cn (c:Nat) (v:AV) (h:Hp) (v':AV) (h':Hp):Prop:=Ch c v .nilfn h v' .nilfn h'
theorem NSt.ne {h0 h:Hp} {c b k:Nat} {ns:List ByteArray} {v:AV} {row:List AV} (s:NSt h0 c ns v h) (hb:h[b]? = some (.live k [row])) (hr:k≠1∨∀ x,row≠[.str x]) : ¬ isB v b:=by
 intro hi
 rcases s.out with ⟨_,rfl⟩ | ⟨hne,o,_,rfl,ho⟩
 ·exact hi
 ·have e:o=b:=hi
  subst e
  rw [ho] at hb
  injection Option.some.inj hb with e1 e2
  rcases hr with hr | hr
  ·exact hr e1.symm
  ·match ns,e2 with
   | [x],e2=>simp [encStr] at e2; exact hr x e2.symm
theorem NSt.app {h0 h:Hp} {c:Nat} {ns:List ByteArray} {v:AV} (s:NSt h0 c ns v h) (x:Hp):NSt h0 c ns v (h ++ x):=⟨FQ s.cell,s.out.app x,s.base,s.ex.app x⟩
theorem NSt.cne {h0 h:Hp} {c:Nat} {ns:List ByteArray} {v:AV} (s:NSt h0 c ns v h) : ¬ isB v c:=by
 refine s.ne s.cell (.inr fun x e => ?_)
 rcases s.out with ⟨_,rfl⟩ | ⟨_,o,_,rfl,_⟩ <;> simp at e
theorem Cn.keep {c b:Nat} {h h':Hp} {v v':AV} {x:ABlk} (hc:Cn c v h v' h') (hb:h[b]? = some x) (hne:b≠c) (hn : ¬ isB v b):h'[b]? = some x:=by
 rw [hc.get b (CE hb) hne hn (fun e=>e)]; exact hb
theorem AH8 (G:Nat→AV) (ops:List Int) (hops:ops.length≤1048576) (h0:Hp) (c ob:Nat) (s0:SM) (e:Ex) (h:Hp) (ns:List ByteArray) (v:AV) (S:NSt h0 c ns v h) (hob:h[ob]? = some (.live 1 [[.sl s0 1 (ops.map qencI)]])) (hn:ns.length < 8388608) :
  ACalls (En G) 258 [.agg (CY e),.ptr ob 0 0,.ptr c 0 0] h fun r h'=>r = .bool true∧∃ v',Cn c v h v' h'∧NSt h0 c (nmU ops ns e) v' h':=by
 refine acN Tryz.func258 rfl ?_
 show awp _ _ _ _ _ (D8 _ [.tmp 4] _)
 have S1:=S.app [ABlk.live 4 [CY e]]
 have hob1:(h ++ [ABlk.live 4 [CY e]])[ob]? = _:=CU hob
 have hC1:Cn c v h v (h ++ [ABlk.live 4 [CY e]]):=Ch.app c v .nilfn h _
 have ge:=CW h (ABlk.live 4 [CY e])
 have hcl:=CE S.cell
 simp -implicitDefEqProofs only [BC,BA,A8,AY,BB,AO,AQ,AL,BD,AX,AC,AA,AZ,AU,BM,A7,FM,BX,CB,BF,BL,↓reduceIte,jC,jA,jB,enP,bxE]
 generalize h ++ [ABlk.live 4 [CY e]]=H at S1 hob1 hC1 ge ⊢
 have l0:DX Tryz.prog H 3 (.ptr h.length 0 0)=some (.int .i64 e.op):=by rw [DJ ag3 ge (row:=CY e) rfl,J4]
 have l2:DX Tryz.prog H 9 (.ptr h.length 0 2)=some (.str e.name):=by rw [DJ ag9 ge (row:=CY e) rfl,PO]
 simp -implicitDefEqProofs only [AY,AO,AQ,AL,BD,AX,AC,AA,AZ,BU,BX,BN,BZ,BO,AB,jE,jD,jF,↓reduceIte,jC,Nat.add_zero,jA,jB,enP,HY,JF OA hob1,l0]
 refine (Rk.contains_rank G ops s0 e.op H hops).use ?_
 simp -implicitDefEqProofs only [AY,BK,BV,CO,AO,AQ,AL,BD,AX,AC,AA,AZ,BG,↓reduceIte,jA,jB]
 have key : ∀ b1 b2:Bool,Rk.hasB ops e.op=b1→JU ns e.name=b2→(b1 && !b2)=false→nmU ops ns e=ns:=fun b1 b2 e1 e2 e3=>by
  unfold nmU; rw [e1,e2,e3]; simp
 cases hb1:Rk.hasB ops e.op
 ·simp -implicitDefEqProofs only [BC,BA,BR,BJ,BI,A8,CJ,DI,AY,BB,BK,BV,CO,JD,AO,AQ,AL,BD,AX,AC,AA,EK,AZ,AU,BM,A7,CP,DN,↓reduceIte,jC,jA,jB]
  exact ⟨trivial,v,hC1,by rw [key _ _ hb1 rfl rfl]; exact S1⟩
 simp -implicitDefEqProofs only [BK,BV,CO,FY,AO,AQ,AL,BD,AX,AC,AA,AZ,BU,BX,BN,BZ,BO,AB,BF,BL,jE,jD,jF,↓reduceIte,jC,jG,jA,jB,enP,LD,JF AS3 S1.cell,l2]
 refine (A5U G S1.out e.name (by omega)).use ?_
 simp -implicitDefEqProofs only [BI,A8,AY,BB,BK,BV,CO,FY,AO,AQ,AL,BD,AX,AC,AA,AZ,AU,BM,CP,DL,GU,AB,EP,↓reduceIte,jC,jA,jB]
 cases hb2:JU ns e.name
 ·have hu:nmU ops ns e=ns ++ [e.name]:=by unfold nmU; rw [hb1,hb2]; rfl
  obtain ⟨v',H',ha,ho,hk,hex,hle,hnew⟩:=S1.out.append (P:=Tryz.prog) AX2 sz9 AXQ A0I (by omega) hn S1.ex e.name
  have ha':FZ Tryz.prog true H 65 65 v (.sl .full 1 [[.str e.name]])=some (v',H'):=ha
  have hc':=hk c _ S1.cell S1.cne
  have hcl2:=CE S1.cell
  have hac:IW v'=some [v']:=by
   rcases ho with ⟨_,rfl⟩ | ⟨_,o,_,rfl,_⟩ <;> rfl
  simp -implicitDefEqProofs only [FK,FH,BC,BA,BJ,A8,CJ,CZ,AY,BB,AO,AQ,AL,BD,AX,AC,ES,AA,AZ,AU,BM,A7,EC,BX,EI,BN,GL,CB,AB,DT,BF,BL,↓reduceIte,jC,jG,jA,jB,enP,LD,jT,JF AS3 S1.cell,l2,AWQ,ha',QS A17 hac hc']
  refine ⟨trivial,v',hC1.trans ⟨by simpa using hle,fun b hb hbc hbv _ => ?_,fun b hb => .inr (by rw [hnew b hb]; exact Nat.le_refl _),fun b hb=>hb.elim⟩,?_⟩
  ·rw [zB,if_neg (fun e=>hbc e.symm),jL hb]
   exact hk b _ (jL hb) hbv
  ·rw [hu]
   exact ⟨EJ hc',ho.keep fun b hb=>by rw [zB,if_neg (fun e=>by have:=hnew b hb; omega)],S1.base,hex.set S1.base _⟩
 ·simp -implicitDefEqProofs only [BC,BA,BR,BJ,A8,CJ,DI,AY,BB,AO,AQ,AL,BD,AX,AC,AA,AU,BM,A7,↓reduceIte,jA,jV,jB]
  exact ⟨trivial,v,hC1,by rw [key _ _ hb1 hb2 rfl]; exact S1⟩
theorem AUN (ops:List Int) (ns:List ByteArray) (e:Ex):nmL ops ns (pre e)=nmL ops (nmU ops ns e) (IQ e.args):=by rw [pre_eq]; rfl
theorem ANU (G:Nat→AV) (ops:List Int) (hops:ops.length≤1048576) (h0:Hp) (c ob vb db:Nat) (s0:SM) (hv:vb≠c) (hd:db≠c) (hoc:ob≠c) (e:Ex) :
  wt e≤1099511627776→∀ (h:Hp) (ns:List ByteArray) (v:AV),NSt h0 c ns v h→h[ob]? = some (.live 1 [[.sl s0 1 (ops.map qencI)]])→ns.length+(pre e).length≤8388608 →
   h[vb]? = some (.live 1 [[.fn (.func 258) [] [.ptr ob 0 0,.ptr c 0 0]]])→h[db]? = some (.live 1 [[.fn (.func 104) [] [.ptr vb 0 0,.ptr db 0 0]]]) →
   ACalls (En G) 104 [.agg (CY e),.ptr vb 0 0,.ptr db 0 0] h fun r h'=>r = .bool true∧∃ v',Cn c v h v' h'∧NSt h0 c (nmL ops ns (pre e)) v' h':=by
 induction e using Ex.induct with | h e ih => ?_
 intro hw h ns v S hob hlen hvb hdb
 have hcl:=CE S.cell
 have hal:e.args.length≤1099511627776:=by have:=SY e.args; have:=L9 e; omega
 have hpe:(pre e).length=(IQ e.args).length+1:=by rw [pre_eq]; rfl
 have hfn : ∀ (k:FuncId) (a b:List AV) (x:ByteArray),[AV.fn (.func k) a b]≠[.str x]:=fun _ _ _ _ q=>by simp at q
 have hsl : ∀ (xs:List (List AV)) (x:ByteArray),[AV.sl s0 1 xs]≠[.str x]:=fun _ _ q=>by simp at q
 refine acN Tryz.func104 rfl ?_
 show awp _ _ _ _ _ (D8 _ [.tmp 4] _)
 have S0:=S.app [ABlk.live 4 [CY e]]
 simp -implicitDefEqProofs only [BC,BA,A8,AY,BB,AO,AQ,AL,BD,AX,AC,AA,AZ,AU,BM,A7,FM,BX,BZ,BO,CB,AB,BF,BL,jE,jD,qF,qK,↓reduceIte,jC,jA,jB,enP,bxE,JF AF5 (CU hvb),ldE]
 refine (AH8 G ops hops h0 c ob s0 e _ ns v S0 (CU hob) (by omega)).mono ?_
 rintro r h1 ⟨rfl,v1,hch,S1⟩
 have hch0:Cn c v h v1 h1:=(Ch.app c v .nilfn h _).trans hch
 have hb3:h1[h.length]? = some (.live 4 [CY e]):=hch.keep (CW _ _) (by omega) (S0.ne (CW _ _) (.inl (by decide)))
 have hvb1:=hch0.keep hvb hv (S.ne hvb (.inr (hfn _ _ _)))
 have hdb1:=hch0.keep hdb hd (S.ne hdb (.inr (hfn _ _ _)))
 have hob1:=hch0.keep hob hoc (S.ne hob (.inr (hsl _)))
 have l3:DX Tryz.prog h1 46 (.ptr h.length 0 3)=some (.sl e.m 4 (e.args.map CY)):=by rw [DJ RQ hb3 (row:=CY e) rfl,YG]
 have hn1:=APM ops ns e
 simp -implicitDefEqProofs only [BC,BP,BA,BR,BI,A8,DI,AY,BB,AO,AQ,AL,BD,AX,AC,AA,AZ,AU,BH,BG,BX,GU,BN,D6,AB,EP,↓reduceIte,jC,jG,jA,jV,jB,enP,TW,MR,l3,List.length_map]
 refine DY (fun n F H => ∃ j v',n+j=e.args.length∧F 1 = .ptr vb 0 0∧F 2 = .ptr db 0 0∧F 12 = .sl e.m 4 (e.args.map CY)∧F 13 = .int .i64 e.args.length∧F 14 = .int .i64 (j:Nat)∧Cn c v h v' H∧NSt h0 c (nmL ops (nmU ops ns e) (IQ (e.args.take j))) v' H∧H[vb]? = some (.live 1 [[.fn (.func 258) [] [.ptr ob 0 0,.ptr c 0 0]]])∧H[db]? = some (.live 1 [[.fn (.func 104) [] [.ptr vb 0 0,.ptr db 0 0]]])∧H[ob]? = some (.live 1 [[.sl s0 1 (ops.map qencI)]])) e.args.length
  ⟨0,v1,by simp,by simp -implicitDefEqProofs only [AA,BF,BL,↓reduceIte,jC],by simp -implicitDefEqProofs only [AA,BF,BL,↓reduceIte,jC],by simp -implicitDefEqProofs only [AA,↓reduceIte,jC],by simp -implicitDefEqProofs only [AA,↓reduceIte,jC],by simp -implicitDefEqProofs only [AA,↓reduceIte]; rfl,hch0,S1,hvb1,hdb1,hob1⟩ ?_
 rintro n F H ⟨j,v',hj,f1,f2,f12,f13,f14,hC,SH,hvH,hdH,hoH⟩
 simp -implicitDefEqProofs only [BC,BA,BI,A8,AY,BB,AO,AQ,AL,BD,AX,AC,AA,AZ,BQ,AB,C9,↓reduceIte,jA,jB,enP,f13,f14]
 refine CV (fun hlt => ?_) (fun hlt => ?_)
 ·have hj':j < e.args.length:=by simpa using hlt
  have hmem:e.args[j]∈e.args:=jO hj'
  have hsplit:IQ e.args=IQ (e.args.take j) ++ (pre e.args[j] ++ IQ (e.args.drop (j+1))):=by
   rw [← List.append_assoc,← NT _ _ hj',← PE,List.take_append_drop]
  have hln:=AA9 ops (IQ (e.args.take j)) (nmU ops ns e)
  have hls:(IQ e.args).length=(IQ (e.args.take j)).length+((pre e.args[j]).length+(IQ (e.args.drop (j+1))).length):=by rw [hsplit,zZ,zZ]
  simp -implicitDefEqProofs only [BC,BP,BA,BR,A8,AY,BB,AO,AQ,AL,BD,AX,AC,ES,AA,AZ,FO,BX,EI,CG,BZ,BO,CB,AB,DT,jE,jD,qF,qK,↓reduceIte,jC,jA,jB,enP,WP,jT,f12,f14,D7 hj',FP U4 MM H7 hj',AA5,AIM _ _ [.int .i64 0,.int .i64 0,.str ⟨#[]⟩,.sl .nil 0 []] rfl,f2,JF AF5 (CU hdH),ldE]
  have SH1:=SH.app [ABlk.live 4 [CY e.args[j]]]
  refine (ih e.args[j] hmem (by have:=SX hmem; have:=L9 e; omega) _ _ v' SH1 (CU hoH) (by omega) (CU hvH) (CU hdH)).mono ?_
  rintro r h2 ⟨rfl,v2,hch2,S2⟩
  have hch2':Cn c v' H v2 h2:=(Ch.app c v' .nilfn H _).trans hch2
  have hvH2:=hch2'.keep hvH hv (SH.ne hvH (.inr (hfn _ _ _)))
  have hdH2:=hch2'.keep hdH hd (SH.ne hdH (.inr (hfn _ _ _)))
  have hoH2:=hch2'.keep hoH hoc (SH.ne hoH (.inr (hsl _)))
  simp -implicitDefEqProofs only [BA,BR,BI,A8,EH,ER,DI,AY,BB,AO,AQ,AL,BD,AX,AC,AA,AZ,AU,BH,BG,BQ,GU,AB,DK,EP,↓reduceIte,jC,jA,jV,jB,enP,f1,f2,f12,f13,f14,wrap_succ (show j < 9223372036854775807 by omega)]
  refine ⟨n - 1,by omega,j+1,v2,by omega,trivial,trivial,trivial,trivial,rfl,hC.trans hch2',?_,hvH2,hdH2,hoH2⟩
  rw [NT _ _ hj',AY4]; exact S2
 ·have hj' : ¬ j < e.args.length:=by simpa using hlt
  simp -implicitDefEqProofs only [BC,BA,BJ,DW,A8,EG,EY,EZ,CJ,AY,BB,AO,AQ,AL,BD,AX,AC,AA,AU,BM,A7,↓reduceIte,jA,jB]
  rw [List.take_of_length_le (by omega),← AUN] at SH
  exact ⟨trivial,v',hC,SH⟩
theorem AMF (G:Nat→AV) (ops:List Int) (hops:ops.length≤1048576) (h0:Hp) (c ob:Nat) (s0:SM) (hoc:ob≠c) (e:Ex) (hw:wt e≤1048576) (h:Hp) (ns:List ByteArray) (v:AV) (S:NSt h0 c ns v h) (hob:h[ob]? = some (.live 1 [[.sl s0 1 (ops.map qencI)]])) (hn:ns.length≤1048576) :
  ACalls (En G) 68 [.agg (CY e),.fn (.func 258) [] [.ptr ob 0 0,.ptr c 0 0]] h fun _ h' => ∃ v',Cn c v h v' h'∧NSt h0 c (nmL ops ns (pre e)) v' h':=by
 have hcl:=CE S.cell
 have hol:=CE hob
 refine acN Tryz.func68 rfl ?_
 show awp _ _ _ _ _ (D8 _ [] _)
 generalize hfv:AV.fn (.func 258) [] [.ptr ob 0 0,.ptr c 0 0]=fv
 have hbx : ∀ H:Hp,OT H fv=some (.ptr H.length 0 0,H ++ [.live 1 [[fv]]]):=fun H=>by rw [← hfv]; rfl
 simp -implicitDefEqProofs only [BC,BA,A8,AY,BB,AO,AQ,AL,BD,AX,AC,AA,AZ,FO,FM,EI,G9,CB,BF,BL,jE,jD,↓reduceIte,jC,jA,jB,enP,jT,bxE,hbx,A1U]
 have g0:(h ++ [ABlk.live 4 [CY e]] ++ [ABlk.live 1 [[fv]]] ++ [ABlk.live 1 [[AV.nilfn]]])[(h ++ [ABlk.live 4 [CY e]] ++ [ABlk.live 1 [[fv]]]).length]? = some (.live 1 [[.nilfn]]):=CW _ _
 simp -implicitDefEqProofs only [BA,A8,AY,BB,AO,AQ,AL,BD,AX,ES,AA,AZ,BX,DT,↓reduceIte,jC,jA,jB,enP,QS A1D (A1X _ _ _) g0]
 have S3:=((S.app [ABlk.live 4 [CY e]]).app [ABlk.live 1 [[fv]]]).app [ABlk.live 1 [[AV.nilfn]]]
 have c3:Cn c v h v (h ++ [ABlk.live 4 [CY e]] ++ [ABlk.live 1 [[fv]]] ++ [ABlk.live 1 [[AV.nilfn]]]):=((Ch.app c v .nilfn h _).trans (Ch.app _ _ _ _ _)).trans (Ch.app _ _ _ _ _)
 have v3:(h ++ [ABlk.live 4 [CY e]] ++ [ABlk.live 1 [[fv]]] ++ [ABlk.live 1 [[AV.nilfn]]])[(h ++ [ABlk.live 4 [CY e]]).length]? = some (.live 1 [[fv]]):=CU (CW _ _)
 have e3:(h ++ [ABlk.live 4 [CY e]] ++ [ABlk.live 1 [[fv]]] ++ [ABlk.live 1 [[AV.nilfn]]])[h.length]? = some (.live 4 [CY e]):=CU (CU (CW _ _))
 have o3:(h ++ [ABlk.live 4 [CY e]] ++ [ABlk.live 1 [[fv]]] ++ [ABlk.live 1 [[AV.nilfn]]])[ob]? = some (.live 1 [[.sl s0 1 (ops.map qencI)]]):=CU (CU (CU hob))
 have hdl:(h ++ [ABlk.live 4 [CY e]] ++ [ABlk.live 1 [[fv]]]).length=h.length+2:=by simp
 have hvl:(h ++ [ABlk.live 4 [CY e]]).length=h.length+1:=by simp
 generalize (h ++ [ABlk.live 4 [CY e]] ++ [ABlk.live 1 [[fv]]]).length=db at g0 hdl ⊢
 generalize (h ++ [ABlk.live 4 [CY e]]).length=vb at v3 hvl ⊢
 generalize h ++ [ABlk.live 4 [CY e]] ++ [ABlk.live 1 [[fv]]] ++ [ABlk.live 1 [[AV.nilfn]]]=H at g0 S3 c3 v3 e3 o3 ⊢
 have hdn : ¬ isB v db:=S3.ne g0 (.inr fun x q=>by simp at q)
 generalize hH:H.set db (.live 1 [[AV.fn (.func 104) [] [.ptr vb 0 0,.ptr db 0 0]]])=H'
 have gd:H'[db]? = some (.live 1 [[.fn (.func 104) [] [.ptr vb 0 0,.ptr db 0 0]]]):=by rw [← hH]; exact EJ g0
 have gv:H'[vb]? = some (.live 1 [[fv]]):=by rw [← hH]; exact DU v3 (by omega)
 have ge:H'[h.length]? = some (.live 4 [CY e]):=by rw [← hH]; exact DU e3 (by omega)
 have go:H'[ob]? = some (.live 1 [[.sl s0 1 (ops.map qencI)]]):=by rw [← hH]; exact DU o3 (by omega)
 have hb0:=S.ex.le
 have S4:NSt h0 c ns v H':=by
  rw [← hH]
  exact ⟨DU S3.cell (by omega),S3.out.keep fun b hb=>by rw [zB,if_neg (fun q=>hdn (by rw [q]; exact hb))],S3.base,S3.ex.set (by omega) _⟩
 have c4:Cn c v h v H':=by
  rw [← hH]
  exact ⟨by have:=c3.len; simpa using this,fun b hb hbc hbv hbu=>by rw [zB,if_neg (by omega)]; exact c3.get b hb hbc hbv hbu,fun _ q => .inl q,fun _ q => .inl q⟩
 simp -implicitDefEqProofs only [AY,AO,AQ,AL,BD,AX,AC,AA,AZ,BX,BZ,BO,AB,jE,jD,qF,qK,↓reduceIte,jC,jA,jB,enP,JF AF5 gd,MG ge]
 rw [← hfv] at gv
 have hp:=AGM e
 refine (ANU G ops hops h0 c ob vb db s0 (by omega) (by omega) hoc e (by omega) H' ns v S4 go (by omega) gv gd).mono ?_
 rintro r h' ⟨rfl,v',hch,S5⟩
 simp -implicitDefEqProofs only [ADB,BB,AC]
 exact ⟨v',c4.trans hch,S5⟩
theorem A6V (h:Hp):JY Tryz.prog h 65=some (.ptr h.length 0 0,h ++ [.live 1 [[.sl .nil 0 []]]]):=JL (row := [.sl .nil 0 []]) (by kernel_rfl)
theorem ACB (G:Nat→AV) (ops:List Int) (hops:ops.length≤1048576) (s0:SM) (e:Ex) (hw:wt e≤1048576) (h:Hp):PCall (En G) 243 [.agg (CY e),.sl s0 1 (ops.map qencI)] h (.sl (nm (nmL ops [] (pre e))) 1 ((nmL ops [] (pre e)).map encStr)):=by
 refine P5 A20 ?_
 refine acN Tryz.func243 rfl ?_
 show awp _ _ _ _ _ (D8 _ [.tmp 4] _)
 have ge:=CU (x:=ABlk.live 1 [[.sl .nil 0 []]]) (CU (x:=ABlk.live 1 [[AV.sl s0 1 (ops.map qencI)]]) (CW h (.live 4 [CY e])))
 have go:=CU (x:=ABlk.live 1 [[.sl .nil 0 []]]) (CW (h ++ [ABlk.live 4 [CY e]]) (ABlk.live 1 [[AV.sl s0 1 (ops.map qencI)]]))
 have gc:=CW (h ++ [ABlk.live 4 [CY e]] ++ [ABlk.live 1 [[AV.sl s0 1 (ops.map qencI)]]]) (ABlk.live 1 [[.sl .nil 0 []]])
 have hx:ext h (h ++ [ABlk.live 4 [CY e]] ++ [ABlk.live 1 [[AV.sl s0 1 (ops.map qencI)]]] ++ [ABlk.live 1 [[.sl .nil 0 []]]]):=(((ext.rfl' h).app _).app _).app _
 have hol:(h ++ [ABlk.live 4 [CY e]]).length=h.length+1:=by simp
 have hcl:(h ++ [ABlk.live 4 [CY e]] ++ [ABlk.live 1 [[AV.sl s0 1 (ops.map qencI)]]]).length=h.length+2:=by simp
 simp -implicitDefEqProofs only [AOB,BC,BA,A8,AY,BB,AO,AQ,AL,BD,AX,AC,AA,AZ,AU,GZ,A7,FO,FM,BX,CB,BF,BL,↓reduceIte,jC,jA,jB,enP,bxE,A6V]
 generalize h ++ [ABlk.live 4 [CY e]] ++ [ABlk.live 1 [[AV.sl s0 1 (ops.map qencI)]]] ++ [ABlk.live 1 [[.sl .nil 0 []]]]=H at ge go gc hx ⊢
 generalize (h ++ [ABlk.live 4 [CY e]] ++ [ABlk.live 1 [[AV.sl s0 1 (ops.map qencI)]]]).length=c at gc hcl ⊢
 generalize (h ++ [ABlk.live 4 [CY e]]).length=ob at go hol ⊢
 simp -implicitDefEqProofs only [AY,AO,AQ,AL,BD,AX,AC,AA,AZ,BU,G9,BZ,BO,AB,jE,jD,jF,↓reduceIte,jC,jA,jB,MG ge]
 have S:NSt h c [] (.sl .nil 0 []) H:=⟨gc,outG.nil _ _ _ _,by omega,hx⟩
 refine (AMF G ops hops h c ob s0 (by omega) e hw H [] _ S go (by simp)).mono ?_
 rintro r h' ⟨v',hch,S5⟩
 simp -implicitDefEqProofs only [BC,BA,BJ,A8,CJ,AY,BB,AO,AQ,AL,BD,AX,AC,AA,AZ,A7,BX,AB,↓reduceIte,jC,jA,jB,enP,JF AS3 S5.cell]
 exact ⟨S5.ex,S5.out⟩
theorem A53 (h:Hp) (a b:Int):EN Tryz.prog false h 26 2 [(0,.int .i64 a),(1,.int .i64 b)]=some (.sl .full 1 [[.int .i64 a],[.int .i64 b]],h):=by kernel_rfl
theorem AOS (G:Nat→AV) (e:Ex) (hw:wt e≤1048576) (h:Hp):PCall (En G) 216 [.agg (CY e)] h (.sl (nm (nmL [2] [] (pre e))) 1 ((nmL [2] [] (pre e)).map encStr)):=by
 refine ACalls.pure0 rfl ?_
 refine acN Tryz.func216 rfl ?_
 show awp _ _ _ _ _ (D8 _ [.tmp 2] _)
 simp -implicitDefEqProofs only [FK,FH,BC,BA,A8,AY,BB,AO,AQ,AL,BD,AX,AC,AA,AZ,AU,BU,BH,GZ,A7,FM,EC,BX,BZ,BO,CB,AB,BF,jE,jD,jF,↓reduceIte,jC,jA,jB,enP,bxE,ldE,ALK]
 refine (ACB G [2] (by decide) .full e hw _).use ?_
 simp -implicitDefEqProofs only [BJ,A8,CJ,AY,BB,AO,AQ,AL,BD,AX,AC,AA,AZ,A7,↓reduceIte,jA,jB]
 exact ⟨trivial,_,rfl⟩
theorem AMA (G:Nat→AV) (e:Ex) (hw:wt e≤1048576) (h:Hp):PCall (En G) 218 [.agg (CY e)] h (.sl (nm (nmL [3,24] [] (pre e))) 1 ((nmL [3,24] [] (pre e)).map encStr)):=by
 refine ACalls.pure0 rfl ?_
 refine acN Tryz.func218 rfl ?_
 show awp _ _ _ _ _ (D8 _ [.tmp 2] _)
 simp -implicitDefEqProofs only [FK,FH,BC,BA,A8,AY,BB,AO,AQ,AL,BD,AX,AC,AA,AZ,AU,BU,BH,GZ,A7,FM,EC,BX,BZ,BO,CB,AB,BF,jE,jD,jF,↓reduceIte,jC,jA,jB,enP,bxE,ldE,A53]
 refine (ACB G [3,24] (by decide) .full e hw _).use ?_
 simp -implicitDefEqProofs only [BJ,A8,CJ,AY,BB,AO,AQ,AL,BD,AX,AC,AA,AZ,A7,↓reduceIte,jA,jB]
 exact ⟨trivial,_,rfl⟩
end Go.Proofs.YtfpagfhhhlljjaaGreatDoor.Xe
