/- Part 12 of the proof (H1, H2, H3, X1, X2, X3, X4, X5); no condition. -/
import Derived.Test.YtfpagfhhhlljjaaGreatDoorYA11
set_option linter.unusedVariables false
set_option linter.unusedSimpArgs false
set_option maxRecDepth 8000
namespace Go.Proofs.YtfpagfhhhlljjaaGreatDoor.Bins
open Sm
open Bool renaming not_false→jC
open List renaming length_map→jH,map_cons→jE,map_nil→jD,nil_append→zZ,findIdx?_eq_some_iff_getElem→qV,all_cons→wQ,findIdx?_eq_none_iff→qW,append_nil→jF,append_assoc→zF
open Nat renaming le_of_ble_eq_true→jI,reduceEqDiff→jB,zero_add→jG
open Option renaming getD_some→jA
instance:Inhabited Rs:=⟨⟨.nil,[]⟩⟩
theorem AQV (G:Nat→AV) (r:Rng) (b:Nat) (v:Int) (h:Hp) (hv:D6 Tryz.prog h 3 (.ptr b 0 0)=some (.int .i64 v)) :
  PCall (En G) 272 [.agg (encR r),.ptr b 0 0] h (.bool (decide (r.lo≤v) && decide (v≤r.hi))):=by
 refine ACalls.pure0 rfl ?_
 refine acN Tryz.func272 rfl ?_
 show awp _ _ _ _ _ (EJ _ [.tmp 3] _)
 simp -implicitDefEqProofs only [BC,A8,BA,AY,BB,BL,BV,CO,AO,AQ,AL,BD,AX,AC,AA,AZ,AU,BM,BG,A7,FD,BN,BR,BJ,BU,AB,KA,BF,BP,↓reduceIte,jB,Nat.add_zero,jA,jC,enP,TV,bxR,C9 ag3,AJI hv,UF,SQ]
 refine II (fun ha => ?_) (fun ha => ?_)
 ·simp -implicitDefEqProofs only [BK,BA,CJ,AY,BB,BL,BV,CO,GV,AO,AQ,AL,BD,AX,AC,AA,AZ,AU,BM,A7,CP,DY,BN,BR,BJ,AB,KA,BF,BP,↓reduceIte,jB,jG,jA,jC,enP,RQ,bxR,C9 ag3,AJI hv,UF,SQ,ha]
  exact ⟨by simp,_,rfl⟩
 ·simp -implicitDefEqProofs only [BK,BA,CJ,AY,BB,BL,BV,CO,JK,AO,AQ,AL,BD,AX,AC,AA,EQ,AZ,AU,BM,A7,CP,DR,↓reduceIte,jB,jA,jC,ha]
  exact ⟨by simp,_,rfl⟩
theorem indexFunc (G:Nat→AV) (xs:List Rng) (m:SM) (fid:FuncId) (caps:List AV) (p:Rng→Bool) (h:Hp) (hl:xs.length≤1099511627776)
  (hf : ∀ r,PCall (En G) fid (.agg (encR r) :: caps) h (.bool (p r))) :
  PCall (En G) 180 [.sl m 2 (xs.map encR),.fn (.func fid) [] caps] h (.int .i64 (match xs.findIdx? p with | some i=>(i:Int) | none => -1)):=by
 refine acN Tryz.func180 rfl ?_
 show awp _ _ _ _ _ (EJ _ [.tmp 4] _)
 simp -implicitDefEqProofs only [BC,BQ,A8,BA,AY,BB,AO,AQ,AL,BD,AX,AC,AA,AZ,AU,BH,BG,A7,DU,AB,BF,↓reduceIte,jB,jA,jC,enP,OW,jH]
 refine DL (fun n F H => ∃ k,n+k=xs.length∧F 0 = .sl m 2 (xs.map encR)∧F 1 = .fn (.func fid) [] caps∧F 7 = .int .i64 xs.length∧F 8 = .int .i64 (k:Nat)∧H=h∧(xs.take k).all (fun r => !p r)=true) xs.length ⟨0,by simp,rfl,rfl,rfl,rfl,rfl,rfl⟩ ?_
 rintro n F H ⟨k,hk,f0,f1,f7,f8,rfl,hin⟩
 simp -implicitDefEqProofs only [BC,A8,BI,BA,AY,BB,AO,AQ,AL,BD,AX,AC,AA,AZ,BR,AB,CW,↓reduceIte,jA,jC,enP,f0,f1,f7,f8,jH]
 refine CU (fun hc => ?_) (fun hc => ?_)
 ·have hc':k < xs.length:=by simpa using hc
  simp -implicitDefEqProofs only [BC,BQ,A8,BO,BA,AY,BB,AO,AQ,AL,BD,AX,AC,AA,AZ,BG,A7,BN,BZ,CG,BX,AB,jE,jD,zZ,List.cons_append,↓reduceIte,jB,jA,jC,enP,YF,f0,f1,f7,f8,DF hc',FT AK2 SB YP hc']
  refine (hf _).use ?_
  simp -implicitDefEqProofs only [BI,BA,BB,AC,AA,AZ,↓reduceIte]
  refine CU (fun hb => ?_) (fun hb => ?_)
  ·simp -implicitDefEqProofs only [BC,A8,BK,BA,CQ,EE,FK,CJ,AY,BB,AO,AQ,AL,BD,AX,AC,AA,AZ,BG,A7,↓reduceIte,jB,jA,jC]
   refine ⟨?_,trivial⟩
   rw [qV.2 ⟨hc',hb,fun j hj=>by
    rw [List.all_eq_true] at hin
    have:=hin xs[j] (by rw [List.mem_take_iff_getElem]; exact ⟨j,by omega,rfl⟩)
    simpa using this⟩]
  ·simp -implicitDefEqProofs only [A8,BO,BA,EI,EP,AY,BB,AO,AQ,AL,BD,AX,AC,AA,AZ,AU,BH,BG,BR,AB,DK,↓reduceIte,jB,jA,jC,enP,f8,wrap_succ (show k < 9223372036854775807 by omega)]
   refine ⟨n - 1,by omega,k+1,by omega,f0,f1,f7,rfl,trivial,?_⟩
   rw [List.take_succ_eq_append_getElem hc',List.all_append,hin]
   simp only [wQ,List.all_nil,hb]; rfl
 ·have hc' : ¬ k < xs.length:=by simpa using hc
  simp -implicitDefEqProofs only [BC,A8,BK,DI,BA,ED,EU,EW,CJ,AY,BB,AO,AQ,AL,BD,AX,AC,AA,AU,BH,A7,↓reduceIte,jA,jC]
  refine ⟨?_,trivial⟩
  rw [List.take_of_length_le (by omega)] at hin
  rw [qW.2 (by simpa using hin)]
theorem AHE (G:Nat→AV) (xs:List Rng) (m:SM) (fid:FuncId) (caps:List AV) (p:Rng→Bool) (h:Hp) (hl:xs.length≤1099511627776)
  (hf : ∀ r,PCall (En G) fid (.agg (encR r) :: caps) h (.bool (p r))) :
  PCall (En G) 271 [.sl m 2 (xs.map encR),.fn (.func fid) [] caps] h (.bool (xs.any p)):=by
 refine acN Tryz.func271 rfl ?_
 show awp _ _ _ _ _ (EJ _ [.tmp 4] _)
 simp -implicitDefEqProofs only [BC,A8,BA,AY,BB,AO,AQ,AL,BD,AX,AC,AA,AZ,AU,CB,BM,BG,A7,CG,BX,BF,BP,jE,jD,jF,↓reduceIte,jB,jA,jC,enP]
 refine (indexFunc G xs m fid caps p h hl hf).use ?_
 simp -implicitDefEqProofs only [BK,BA,CJ,AY,BB,AO,AQ,AL,BD,AX,AC,AA,AZ,AU,BH,A7,BR,AB,FX,↓reduceIte,jA,jC,enP]
 refine ⟨?_,trivial⟩
 cases hx:xs.findIdx? p with
 | some i =>
   obtain ⟨h1,h2,_⟩:=qV.1 hx
   have:xs.any p=true:=List.any_eq_true.2 ⟨xs[i],by simp,h2⟩
   simp [this]
 | none =>
   have:xs.any p=false:=by
    rw [qW] at hx
    rw [List.any_eq_false]; intro x hx2; simp [hx x hx2]
   simp [this]
theorem inside_prog (G:Nat→AV) (xs:List Rng) (m:SM) (v:Int) (h:Hp) (hl:xs.length≤1099511627776) :
  PCall (En G) 249 [.sl m 2 (xs.map encR),.int .i64 v] h (.bool (inside xs v)):=by
 refine ACalls.pure0 rfl ?_
 refine acN Tryz.func249 rfl ?_
 show awp _ _ _ _ _ (EJ _ [.tmp 4] _)
 simp -implicitDefEqProofs only [APE,BC,A8,BA,AY,BB,AO,AQ,AL,BD,AX,AC,AA,AZ,AU,CB,BM,BG,A7,FD,IG,CG,BX,BU,BF,BP,jE,jD,jF,↓reduceIte,jB,jA,jC,enP]
 refine (AHE G xs m 272 _ _ _ hl fun r=>AQV G r h.length v _ (C9 ag3)).use ?_
 simp -implicitDefEqProofs only [BK,BA,CJ,AY,BB,AO,AQ,AL,BD,AX,AC,AA,AZ,A7,↓reduceIte,jA,jC]
 exact ⟨rfl,_,rfl⟩
theorem APB (G:Nat→AV) (xs:List Int) (m:SM) (h:Hp) (hl:xs.length≤16777216) :
  ACalls (En G) 157 [.sl m 1 (xs.map qencI)] h (AM2 1 (xs.map qencI) h):=by
 refine ACalls.of_rep (cok _ _ (by kernel_rfl)) fun ⟨g,cargs,ha⟩ => ?_
 refine acN Tryz.func157 rfl ?_
 show awp _ _ _ _ _ (EJ _ [.tmp 2] _)
 simp -implicitDefEqProofs only [BC,A8,BI,BA,AY,BB,AO,AQ,AL,BD,AX,AC,AA,AZ,AU,H9,BG,A7,BR,AB,BF,↓reduceIte,jB,jA,jC,enP,A2G]
 refine CU (fun hc => ?_) (fun hc => ?_)
 ·have hm:m = .nil:=by simpa using hc
  subst hm
  simp -implicitDefEqProofs only [BC,A8,BK,BA,CQ,CJ,AY,BB,AO,AQ,AL,BD,AX,AC,AA,AU,H9,A7,↓reduceIte,jA,jC,decide_true]
  exact .inl ⟨ACE ha (i:=0) rfl,⟨_,rfl⟩,rfl⟩
 ·simp -implicitDefEqProofs only [FU,BC,A8,BO,BA,AY,AO,AQ,AL,BD,AX,AC,AA,AZ,BG,EK,G8,BU,BF,↓reduceIte,jB,jA,jC,enP,AU5]
  rcases Classical.em (xs = []) with hx | hx
  ·subst hx
   simp -implicitDefEqProofs only [BK,BA,CJ,AY,BB,AO,AQ,AL,BD,AX,AC,AA,AZ,A7,BU,jD,↓reduceIte,jA,jC,AKW WH sz3 (.inr rfl)]
   exact .inr (.inl ⟨rfl,rfl,rfl⟩)
  ·have hr:room (([]:List (List AV)).length+(xs.map qencI).length) 8:=JF (by simpa using hl) (by omega)
   have hne:xs.map qencI≠[]:=by simpa using hx
   simp -implicitDefEqProofs only [BK,BA,CJ,AY,BB,AO,AQ,AL,BD,AX,AC,AA,AZ,A7,BU,zZ,↓reduceIte,jA,jC,SY WH sz3 AA3 ZZ (IY h m 1 (xs.map qencI)) hne hr]
   exact .inr (.inr ⟨by simpa using hx,by simp,by simp⟩)
def setAt (b:Bin) (i:Nat):List Rng:=((sets b)[i]?.getD default).l
def ABP (last:List Int) (n:Nat) (v:Int) (i:Nat):Int:=if i+1 < n then last[last.length+1 - n+i]?.getD 0 else v
def AML (b:Bin) (last:List Int) (v:Int) (k:Nat):Bool:=(List.range k).all fun i=>inside (setAt b i) (ABP last (sets b).length v i)
def hit (b:Bin) (last:List Int) (v:Int):Bool:=decide (H6 b=0) && decide ((sets b).length≤last.length+1) && AML b last v (sets b).length
theorem AQ0 (b:Bin) (last:List Int) (v:Int) (k:Nat):AML b last v (k+1)=(AML b last v k && inside (setAt b k) (ABP last (sets b).length v k)):=by
 unfold AML; rw [List.range_succ,List.all_append,wQ,List.all_nil,Bool.and_true]
theorem AXU {b:Bin} {last:List Int} {v:Int} {k n:Nat} (hk:k < n) (h:inside (setAt b k) (ABP last (sets b).length v k)=false):AML b last v n=false:=by
 unfold AML; rw [List.all_eq_false]; exact ⟨k,by simpa using hk,by simp [h]⟩
theorem ALH {b:Bin} (h:H6 b=0):1≤(sets b).length:=by
 unfold H6 at h
 split at h
 ·split at h
  ·cases h
  ·rename_i hr
   unfold sets
   split
   ·simp
   ·rename_i hz
    simp only [JQ,Bool.not_eq_true,Bool.or_eq_false_iff] at hr
    have:=hr.1.1.1.2
    have hz':decide ((b.ranges.l.length:Int) > 0)=false:=decide_eq_false (by omega)
    rw [hz'] at this
    simp at this
    rcases hs:b.steps with _ | ⟨x,l⟩
    ·rw [hs] at this; simp at this
    ·simp
 ·cases h
theorem AT0 {xs:List Int} {i:Nat} (h:i < xs.length):(xs.map qencI)[i]? = some [.int .i64 xs[i]]:=by simp [h,qencI]
theorem ANA (h:Hp) (v:Int):EZ Tryz.prog false h 26 1 [(0,.int .i64 v)]=some (.sl .full 1 [[.int .i64 v]],h):=by kernel_rfl
def vals (last:List Int) (n:Nat) (v:Int):List Int:=last.drop (last.length+1 - n) ++ [v]
theorem AH1 {last:List Int} {n:Nat} {v:Int} (h1:1≤n) (h2:n≤last.length+1):(vals last n v).length=n:=by simp [vals]; omega
theorem ASC {last:List Int} {n:Nat} {v:Int} {i:Nat} (h1:1≤n) (h2:n≤last.length+1) (hi:i < (vals last n v).length):(vals last n v)[i]=ABP last n v i:=by
 have hl:=AH1 (v:=v) h1 h2
 unfold vals ABP at *
 rw [List.getElem_append]
 split
 ·rename_i h
  have h':i < last.length - (last.length+1 - n):=by simpa using h
  rw [if_pos (by omega),List.getElem_drop,List.getElem?_eq_getElem (by omega)]
  rfl
 ·rename_i h
  have h' : ¬ i < last.length - (last.length+1 - n):=by simpa using h
  rw [if_neg (by omega)]
  simp
theorem hit_prog (G:Nat→AV) (hG:KwG G) (b:Bin) (hb:BinOk b) (last:List Int) (m:SM) (v:Int) (h:Hp) (hl:last.length≤8388608) :
  PCall (En G) 248 [.agg (GN b),.sl m 1 (last.map qencI),.int .i64 v] h (.bool (hit b last v)):=by
 refine ACalls.pure0 rfl ?_
 refine acN Tryz.func248 rfl ?_
 show awp _ _ _ _ _ (EJ _ [.tmp 6] _)
 simp -implicitDefEqProofs only [BC,A8,BA,AY,BB,AO,AQ,AL,BD,AX,AC,AA,AZ,AU,CB,BM,A7,FD,BN,CG,BX,BU,AB,BF,jE,jD,jF,↓reduceIte,jB,jA,jC,enP,bxB,ldB]
 refine (valid_prog G hG b hb _).use ?_
 simp -implicitDefEqProofs only [BI,BA,AY,BB,AO,AQ,AL,BD,AX,AC,AA,AZ,AU,BH,BR,AB,ET,↓reduceIte,jA,jC,enP]
 refine CU (fun hv => ?_) (fun hv => ?_)
 ·simp -implicitDefEqProofs only [BC,A8,BK,BA,CQ,CJ,AY,BB,AO,AQ,AL,BD,AX,AC,AA,AU,BM,A7,↓reduceIte,jA,jC]
  refine ⟨?_,_,rfl⟩
  have:H6 b≠0:=by simpa using hv
  simp [hit,this]
 have hv0:H6 b=0:=by simpa using hv
 have h1:=ALH hv0
 have hnum:=hb.num
 simp -implicitDefEqProofs only [BC,A8,BO,BA,AY,AO,AQ,AL,BD,AX,AC,AA,AZ,CB,BN,CG,BX,AB,jE,jD,jF,↓reduceIte,jB,jA,jC,enP,ldB]
 refine (AE5 G b _).use ?_
 have hw:IntKind.i64.wrap (((sets b).length:Int) - 1)=(((sets b).length - 1:Nat):Int):=by rw [wrap_i64 (by omega) (by omega)]; omega
 simp -implicitDefEqProofs only [BC,A8,BI,BA,AY,BB,AO,AQ,AL,BD,AX,AC,AA,AZ,AU,BH,BG,A7,BR,DU,AB,KX,CW,BF,BP,↓reduceIte,jB,jA,jC,enP,JG,VA,jH,hw]
 refine CU (fun hc => ?_) (fun hc => ?_)
 ·simp -implicitDefEqProofs only [BC,A8,BK,BA,CQ,CJ,AY,BB,AO,AQ,AL,BD,AX,AC,AA,AU,BM,A7,↓reduceIte,jA,jC]
  refine ⟨?_,_,rfl⟩
  have : ¬ (sets b).length≤last.length+1:=by simp at hc; omega
  simp [hit,this]
 have hc':(sets b).length≤last.length+1:=by simp at hc; omega
 have hw2:IntKind.i64.wrap ((last.length:Int) - (((sets b).length - 1:Nat):Int))=((last.length+1 - (sets b).length:Nat):Int):=by rw [wrap_i64 (by omega) (by omega)]; omega
 simp -implicitDefEqProofs only [Option.map_some,Option.map_none,BC,A8,BO,BA,AY,AO,AQ,AL,BD,AX,AC,AA,AZ,AU,CB,BH,BG,BR,VK,DU,CG,BX,AB,KX,BF,BP,jE,jD,jF,↓reduceIte,jB,jA,jC,enP,JG,VA,jH,hw,hw2,AN9 WH sz3 (h:=h ++ [.live 4 [GN b]]) (m:=m) (kk := .i64) (xs:=last.map qencI) (l:=last.length+1 - (sets b).length) (by simp; omega),← List.map_drop]
 refine (APB G _ m _ (by simp; omega)).mono fun vv H' hcl => ?_
 have hn:=AH1 (v:=v) h1 hc'
 refine AEZ (fun F H=>F 7 = .sl (UD b) 1 ((sets b).map encS)∧∃ o,F 8 = .own o 0 (sets b).length∧H[o]? = some (.live 1 ((vals last (sets b).length v).map qencI))∧∃ x,H=h ++ x) ?_ ?_
 ·have hv1:([[AV.int .i64 v]]:List (List AV))≠[]:=by simp
  rcases hcl with ⟨hx,⟨k0,rfl⟩,rfl⟩ | ⟨hx,rfl,rfl⟩ | ⟨hx,rfl,rfl⟩
  ·have hx':last.drop (last.length+1 - (sets b).length) = []:=by simpa using hx
   have e1:vals last (sets b).length v = [v]:=by unfold vals; rw [hx']; rfl
   rw [e1] at hn
   simp at hn
   simp -implicitDefEqProofs only [FU,FQ,AY,BB,AO,AQ,AL,BD,AX,AC,AA,AZ,BG,A7,EK,G8,BU,BF,BP,↓reduceIte,jB,jA,jC,enP,ANA,PZ WH sz3 AA3 ZZ (IY (h ++ [ABlk.live 4 [GN b]]) .full 1 [[AV.int .i64 v]]) hv1 (JF (by simp) (by omega))]
   exact ⟨trivial,_,by rw [← hn]; rfl,by rw [e1]; simp [qencI],_,by rw [zF]⟩
  ·have hx':last.drop (last.length+1 - (sets b).length) = []:=by simpa using hx
   have e1:vals last (sets b).length v = [v]:=by unfold vals; rw [hx']; rfl
   rw [e1] at hn
   simp at hn
   simp -implicitDefEqProofs only [FU,FQ,AY,BB,AO,AQ,AL,BD,AX,AC,AA,AZ,BG,A7,EK,G8,BU,BF,BP,zZ,↓reduceIte,jB,jA,jC,enP,ANA,SY WH sz3 AA3 ZZ (IY (h ++ [ABlk.live 4 [GN b]]) .full 1 [[AV.int .i64 v]]) (xs := []) hv1 (JF (by simp) (by omega))]
   exact ⟨trivial,_,by rw [← hn]; rfl,by rw [e1]; simp [qencI],_,by rw [zF]⟩
  ·have hle:(last.drop (last.length+1 - (sets b).length)).length+1≤16777216:=by simp; omega
   simp -implicitDefEqProofs only [FU,FQ,AY,BB,AO,AQ,AL,BD,AX,AC,AA,AZ,BG,A7,EK,G8,BU,BF,BP,↓reduceIte,jB,jA,jC,enP,ANA,PY WH sz3 AA3 ZZ (AFU (h:=h ++ [ABlk.live 4 [GN b]])) (IY ((h ++ [ABlk.live 4 [GN b]]) ++ [.live 1 ((last.drop (last.length+1 - (sets b).length)).map qencI)]) .full 1 [[AV.int .i64 v]]) hv1 (JF (by simpa using hle) (by omega))]
   refine ⟨trivial,((h ++ [ABlk.live 4 [GN b]]) ++ [ABlk.live 1 ((last.drop (last.length+1 - (sets b).length)).map qencI)]).length,?_,?_,?_⟩
   ·congr 1
    rw [← hn]; simp [vals]; omega
   ·simp [vals,qencI]
   ·refine ⟨[.live 4 [GN b],.dead,.live 1 ((last.drop (last.length+1 - (sets b).length)).map qencI ++ [[AV.int .i64 v]])],?_⟩
    rw [zF,List.set_append_right _ _ (by simp)]
    simp
 rintro F H ⟨f7,o,f8,ho,hx⟩
 simp -implicitDefEqProofs only [BC,BQ,A8,BA,AY,BB,AO,AQ,AL,BD,AX,AC,AA,AZ,AU,BH,BG,DU,AB,↓reduceIte,jA,jC,enP,JG,f8]
 refine DL (fun n F H' => ∃ k,n+k=(sets b).length∧F 7 = .sl (UD b) 1 ((sets b).map encS)∧F 34 = .own o 0 (sets b).length∧F 35 = .int .i64 (sets b).length∧F 36 = .int .i64 (k:Nat)∧H'=H∧AML b last v k=true) (sets b).length ⟨0,by simp,by simp -implicitDefEqProofs only [AA,↓reduceIte,jB,f7],by simp -implicitDefEqProofs only [AA,↓reduceIte,jB],by simp -implicitDefEqProofs only [AA,↓reduceIte,jB],by simp -implicitDefEqProofs only [AA,↓reduceIte]; rfl,rfl,rfl⟩ ?_
 rintro n F H' ⟨k,hk,f7,f34,f35,f36,rfl,hin⟩
 simp -implicitDefEqProofs only [BC,A8,BI,BA,AY,BB,AO,AQ,AL,BD,AX,AC,AA,AZ,BR,AB,CW,↓reduceIte,jA,jC,enP,f35,f36]
 refine CU (fun hd => ?_) (fun hd => ?_)
 ·have hd':k < (sets b).length:=by simpa using hd
  have hdv:k < (vals last (sets b).length v).length:=by omega
  have e1:((vals last (sets b).length v).map qencI)[k]? = some [.int .i64 (ABP last (sets b).length v k)]:=by rw [AT0 hdv,ASC h1 hc' hdv]
  have e2:setAt b k=(sets b)[k].l:=by unfold setAt; simp [hd']
  simp -implicitDefEqProofs only [List.getElem?_cons_zero,BC,BQ,A8,BO,BA,AY,BB,AO,AQ,AL,BD,AX,AC,AA,AZ,CB,BG,A7,BN,BZ,CG,BX,AB,jE,jD,jF,↓reduceIte,jB,jG,jA,jC,enP,JB,AJK,f7,f34,f36,JS ho hd',DV ag3 ho e1,DF hd',CX S9 hd',AAS]
  refine (inside_prog G _ _ _ _ (hb.sets _ (List.getElem_mem hd'))).use ?_
  simp -implicitDefEqProofs only [BI,BA,AY,BB,AO,AQ,AL,BD,AX,AC,AA,AZ,G7,AB,ES,↓reduceIte,jA,jC]
  refine CU (fun hi => ?_) (fun hi => ?_)
  ·simp -implicitDefEqProofs only [BC,A8,BK,BA,CQ,EE,FK,CJ,AY,BB,AO,AQ,AL,BD,AX,AC,AA,AU,BM,A7,↓reduceIte,jA,jC]
   refine ⟨?_,hx⟩
   have hi':inside (sets b)[k].l (ABP last (sets b).length v k)=false:=by simpa using hi
   unfold hit
   rw [AXU hd' (by rw [e2]; exact hi')]; simp
  ·simp -implicitDefEqProofs only [A8,BO,BA,EI,EP,AY,BB,AO,AQ,AL,BD,AX,AC,AA,AZ,AU,BH,BG,BR,AB,DK,↓reduceIte,jB,jA,jC,enP,f36,wrap_succ (show k < 9223372036854775807 by omega)]
   refine ⟨n - 1,by omega,k+1,by omega,f7,f34,f35,rfl,trivial,?_⟩
   rw [AQ0,hin,e2]; simpa using hi
 ·have hd' : ¬ k < (sets b).length:=by simpa using hd
  simp -implicitDefEqProofs only [BC,A8,BK,DI,BA,ED,EU,EW,CJ,AY,BB,AO,AQ,AL,BD,AX,AC,AA,AU,BM,A7,↓reduceIte,jA,jC]
  refine ⟨?_,hx⟩
  have:k=(sets b).length:=by omega
  subst this
  unfold hit; rw [hin,hv0]; simp [hc']
end Go.Proofs.YtfpagfhhhlljjaaGreatDoor.Bins
set_option linter.unusedSimpArgs false
set_option maxRecDepth 8000
namespace Go.Proofs.YtfpagfhhhlljjaaGreatDoor.Wd
open Sm Bins Cov Go.RowKit
open Bool renaming not_false→jC
open List renaming map_cons→jE,map_nil→jD,append_nil→jF,nil_append→zZ,cons_append→qB
open Nat renaming mod_lt→qP,reduceAdd→jM,le_of_ble_eq_true→jI,reduceEqDiff→jB
open Option renaming getD_some→jA
def wW (z:Int):Nat:=(z % 65536).toNat
theorem AN2 (z:Int):wW z < 65536:=by unfold wW; omega
theorem TI {a:Nat} (h:a < 65536):wW (a:Int)=a:=by unfold wW; omega
def AKS (a i:Nat):Nat:=a / 2 ^ i % 2
def LP (a:Nat):Nat→Nat
 | 0=>0
 | k+1=>LP a k+AKS a k
def V7 (a:Nat):Nat:=LP a 16
def AIK (a:Nat) (n:Int):Nat:=if n < 0∨n≥16 then 0 else a * 2 ^ n.toNat % 65536
def AIJ (a:Nat) (n:Int):Nat:=if n < 0∨n≥16 then 0 else a / 2 ^ n.toNat
theorem AYR (a i:Nat):AKS a i < 2:=qP _ (by omega)
theorem P9 (a:Nat) : ∀ k,LP a k≤k
 | 0=>Nat.le_refl 0
 | k+1=>by have:=P9 a k; have:=AYR a k; unfold LP; omega
theorem Q7 (a i:Nat) (hi:i < 8):AKS (a % 256) i=AKS a i:=by
 unfold AKS
 have:i=0∨i=1∨i=2∨i=3∨i=4∨i=5∨i=6∨i=7:=by omega
 rcases this with rfl | rfl | rfl | rfl | rfl | rfl | rfl | rfl <;> simp only [Nat.reducePow] <;> omega
theorem AU8 (a i:Nat):AKS (a / 256) i=AKS a (8+i):=by
 unfold AKS
 rw [Nat.div_div_eq_div_mul,Nat.pow_add]
theorem ATE (a:Nat):V7 a=LP (a / 256) 8+LP (a % 256) 8:=by
 unfold V7
 simp only [LP,AU8,Q7 a 0 (by omega),Q7 a 1 (by omega),Q7 a 2 (by omega),Q7 a 3 (by omega),Q7 a 4 (by omega),Q7 a 5 (by omega),Q7 a 6 (by omega),Q7 a 7 (by omega),jM,Nat.add_zero]
 omega
theorem ASB {n:Int} (h0:0≤n) (h1:n < 65536):IntKind.u16.wrap n=n:=by
 have e:IntKind.u16.wrap n=n % 65536:=by simp [IntKind.wrap,IntKind.bits,IntKind.signed]
 rw [e]; omega
theorem RX (n:Int):IntKind.u16.wrap n=n % 65536:=by simp [IntKind.wrap,IntKind.bits,IntKind.signed]
theorem AYY (z:Int):JV Tryz.prog 3 .and (.int .i64 z) (.int .i64 65535)=some (.int .i64 ((wW z:Nat):Int)):=by
 have e:JV Tryz.prog 3 .and (.int .i64 z) (.int .i64 65535)=some (.int .i64 (IntKind.i64.wrap ((BitVec.ofInt 64 z &&& BitVec.ofInt 64 65535).toNat:Int))):=rfl
 rw [e,BitVec.toNat_and]
 have h1:(BitVec.ofInt 64 65535).toNat=2 ^ 16 - 1:=by decide
 rw [h1,Nat.and_two_pow_sub_one_eq_mod,BitVec.toNat_ofInt]
 have h2:((z % ((2 ^ 64:Nat):Int)).toNat % 2 ^ 16)=wW z:=by
  unfold wW
  simp only [Nat.reducePow]
  omega
 rw [h2,MO (by have:=AN2 z; omega)]
theorem ARR (a:Nat) (h:a < 65536):(BitVec.ofInt 64 (a:Int)).toNat=a:=by
 rw [BitVec.ofInt_natCast,BitVec.toNat_ofNat]
 exact Nat.mod_eq_of_lt (by omega)
theorem A4A (a b:Nat) (ha:a < 65536) (hb:b < 65536):JV Tryz.prog 3 .and (.int .i64 (a:Nat)) (.int .i64 (b:Nat))=some (.int .i64 ((a &&& b:Nat):Int)):=by
 have e:JV Tryz.prog 3 .and (.int .i64 (a:Nat)) (.int .i64 (b:Nat))=some (.int .i64 (IntKind.i64.wrap ((BitVec.ofInt 64 (a:Int) &&& BitVec.ofInt 64 (b:Int)).toNat:Int))):=rfl
 have hx:a &&& b < 2 ^ 16:=Nat.and_lt_two_pow _ (by omega)
 rw [e,BitVec.toNat_and,ARR a ha,ARR b hb,MO (by omega)]
theorem A44 (a b:Nat) (ha:a < 65536) (hb:b < 65536):JV Tryz.prog 3 .or (.int .i64 (a:Nat)) (.int .i64 (b:Nat))=some (.int .i64 ((a ||| b:Nat):Int)):=by
 have e:JV Tryz.prog 3 .or (.int .i64 (a:Nat)) (.int .i64 (b:Nat))=some (.int .i64 (IntKind.i64.wrap ((BitVec.ofInt 64 (a:Int) ||| BitVec.ofInt 64 (b:Int)).toNat:Int))):=rfl
 have hx:a ||| b < 2 ^ 16:=Nat.or_lt_two_pow (by omega) (by omega)
 rw [e,BitVec.toNat_or,ARR a ha,ARR b hb,MO (by omega)]
theorem A1Q (a b:Nat) (ha:a < 65536) (hb:b < 65536):JV Tryz.prog 3 .xor (.int .i64 (a:Nat)) (.int .i64 (b:Nat))=some (.int .i64 ((a ^^^ b:Nat):Int)):=by
 have e:JV Tryz.prog 3 .xor (.int .i64 (a:Nat)) (.int .i64 (b:Nat))=some (.int .i64 (IntKind.i64.wrap ((BitVec.ofInt 64 (a:Int) ^^^ BitVec.ofInt 64 (b:Int)).toNat:Int))):=rfl
 have hx:a ^^^ b < 2 ^ 16:=Nat.xor_lt_two_pow (by omega) (by omega)
 rw [e,BitVec.toNat_xor,ARR a ha,ARR b hb,MO (by omega)]
theorem ZY (E:Env) (fid:FuncId) (a:AV) (l args caps:List AV) (h:Hp) (K:AV→Hp→Prop):AKP E (.fn (.func fid) (a :: l) caps) args h K=ACalls E fid ((a :: l) ++ (args ++ caps)) h K:=rfl
theorem O5 (G:Nat→AV) (z:Int) (h:Hp):PCall (En G) 259 [.int .i64 z] h (.int .u16 ((wW z:Nat):Int)):=by
 have:=AN2 z
 refine acN Tryz.func259 rfl ?_
 show awp _ _ _ _ _ (EJ _ [.tmp 2] _)
 simp -implicitDefEqProofs only [BC,A8,BK,BA,CJ,AY,BB,AO,AQ,AL,BD,AX,AC,AA,AZ,AU,BH,BG,A7,BR,Y3,AB,BF,↓reduceIte,jB,jA,jC,enP,AYA,AYY,ASB (n:=((wW z:Nat):Int)) (by omega) (by omega)]
 exact ⟨trivial,trivial⟩
theorem TJ (G:Nat→AV) (a:Nat) (ha:a < 65536) (h:Hp):PCall (En G) 260 [.int .u16 (a:Nat)] h (.int .i64 (a:Nat)):=by
 refine acN Tryz.func260 rfl ?_
 show awp _ _ _ _ _ (EJ _ [.tmp 2] _)
 simp -implicitDefEqProofs only [BC,A8,BK,BA,CJ,AY,BB,AO,AQ,AL,BD,AX,AC,AA,AZ,AU,BH,BG,A7,Y3,AB,BF,↓reduceIte,jB,jA,jC,enP,AYB,MO (n:=a) (by omega)]
 exact ⟨trivial,trivial⟩
theorem APK (G:Nat→AV) (z:Int) (h:Hp):PCall (En G) 244 [.int .i64 z] h (.int .i64 ((wW z:Nat):Int)):=by
 refine acN Tryz.func244 rfl ?_
 show awp _ _ _ _ _ (EJ _ [.tmp 2] _)
 simp -implicitDefEqProofs only [BC,A8,BA,AY,BB,AO,AQ,AL,BD,AX,AC,AA,AZ,AU,CB,BH,BG,A7,CG,BX,BF,jE,jD,jF,↓reduceIte,jB,jA,jC,enP]
 refine (O5 G z h).use ?_
 simp -implicitDefEqProofs only [AY,AO,AQ,AL,BD,AX,AC,AA,AZ,CB,CG,BX,jE,jD,jF,↓reduceIte,jA,jC]
 refine (TJ G _ (AN2 z) h).use ?_
 simp -implicitDefEqProofs only [BK,BA,CJ,AY,BB,AO,AQ,AL,BD,AX,AC,AA,AZ,A7,↓reduceIte,jA,jC]
 exact ⟨trivial,trivial⟩
theorem ABS (G:Nat→AV) (k:FuncId) (a b r:Nat) (hb:b < 65536) (hr:r < 65536) (h:Hp) (hc:PCall (En G) k [.int .u16 (a:Nat),.int .u16 (b:Nat)] h (.int .u16 (r:Nat))) :
  PCall (En G) 261 [.fn (.func k) [.int .u16 (a:Nat)] [],.int .i64 (b:Nat)] h (.int .i64 (r:Nat)):=by
 have ho:=O5 G (b:Nat) h
 rw [TI hb] at ho
 refine acN Tryz.func261 rfl ?_
 show awp _ _ _ _ _ (EJ _ [.tmp 4] _)
 simp -implicitDefEqProofs only [BC,A8,BA,AY,BB,AO,AQ,AL,BD,AX,AC,AA,AZ,AU,CB,BH,BG,A7,CG,BX,BF,BP,jE,jD,jF,↓reduceIte,jB,jA,jC,enP]
 refine ho.use ?_
 simp -implicitDefEqProofs only [AY,AO,AQ,AL,BD,AX,AC,AA,AZ,CG,jE,jD,jF,zZ,qB,↓reduceIte,jB,jA,jC,ZY]
 refine hc.use ?_
 simp -implicitDefEqProofs only [AY,AO,AQ,AL,BD,AX,AC,AA,AZ,CB,CG,BX,jE,jD,jF,↓reduceIte,jA,jC]
 refine (TJ G r hr h).use ?_
 simp -implicitDefEqProofs only [BK,BA,CJ,AY,BB,AO,AQ,AL,BD,AX,AC,AA,AZ,A7,↓reduceIte,jA,jC]
 exact ⟨trivial,trivial⟩
theorem AJA (G:Nat→AV) (k:FuncId) (a r:Nat) (hr:r < 65536) (h:Hp) (hc:PCall (En G) k [.int .u16 (a:Nat)] h (.int .u16 (r:Nat))) :
  PCall (En G) 275 [.fn (.func k) [.int .u16 (a:Nat)] []] h (.int .i64 (r:Nat)):=by
 refine acN Tryz.func275 rfl ?_
 show awp _ _ _ _ _ (EJ _ [.tmp 2] _)
 simp -implicitDefEqProofs only [BC,A8,BA,AY,BB,AO,AQ,AL,BD,AX,AC,AA,AZ,AU,BH,BG,A7,CG,BF,jD,jF,↓reduceIte,jB,jA,jC,enP,ZY]
 refine hc.use ?_
 simp -implicitDefEqProofs only [AY,AO,AQ,AL,BD,AX,AC,AA,AZ,CB,CG,BX,jE,jD,jF,↓reduceIte,jA,jC]
 refine (TJ G r hr h).use ?_
 simp -implicitDefEqProofs only [BK,BA,CJ,AY,BB,AO,AQ,AL,BD,AX,AC,AA,AZ,A7,↓reduceIte,jA,jC]
 exact ⟨trivial,trivial⟩
theorem AZU (G:Nat→AV) (a b:Nat) (ha:a < 65536) (hb:b < 65536) (h:Hp):PCall (En G) 245 [.int .i64 (a:Nat),.int .i64 (b:Nat)] h (.int .i64 (((a+b) % 65536:Nat):Int)):=by
 have hc:PCall (En G) 262 [.int .u16 (a:Nat),.int .u16 (b:Nat)] h (.int .u16 (((a+b) % 65536:Nat):Int)):=by
  have e:IntKind.u16.wrap ((a:Int)+(b:Int))=(((a+b) % 65536:Nat):Int):=by rw [RX]; omega
  refine acN Tryz.func262 rfl ?_
  show awp _ _ _ _ _ (EJ _ [.tmp 4] _)
  simp -implicitDefEqProofs only [BC,A8,BK,BA,CJ,AY,BB,AO,AQ,AL,BD,AX,AC,AA,AZ,AU,BH,BG,A7,BR,AB,DK,BF,BP,↓reduceIte,jB,jA,jC,enP,e]
  exact ⟨trivial,trivial⟩
 have ho:=O5 G (a:Nat) h
 rw [TI ha] at ho
 refine acN Tryz.func245 rfl ?_
 show awp _ _ _ _ _ (EJ _ [.tmp 4] _)
 simp -implicitDefEqProofs only [BC,A8,BA,AY,BB,AO,AQ,AL,BD,AX,AC,AA,AZ,AU,CB,BH,BG,A7,CG,BX,BF,jE,jD,jF,↓reduceIte,jB,jA,jC,enP]
 refine ho.use ?_
 simp -implicitDefEqProofs only [AY,AO,AQ,AL,BD,AX,AC,AA,AZ,CB,BG,IG,CG,BX,BF,BP,jE,jD,jF,↓reduceIte,jB,jA,jC]
 refine (ABS G 262 a b _ hb (qP _ (by omega)) h hc).use ?_
 simp -implicitDefEqProofs only [BK,BA,CJ,AY,BB,AO,AQ,AL,BD,AX,AC,AA,AZ,A7,↓reduceIte,jA,jC]
 exact ⟨trivial,trivial⟩
theorem A1Y (G:Nat→AV) (a b:Nat) (ha:a < 65536) (hb:b < 65536) (h:Hp):PCall (En G) 267 [.int .i64 (a:Nat),.int .i64 (b:Nat)] h (.int .i64 (((a+65536 - b) % 65536:Nat):Int)):=by
 have hc:PCall (En G) 279 [.int .u16 (a:Nat),.int .u16 (b:Nat)] h (.int .u16 (((a+65536 - b) % 65536:Nat):Int)):=by
  have e:IntKind.u16.wrap ((a:Int) - (b:Int))=(((a+65536 - b) % 65536:Nat):Int):=by rw [RX]; omega
  refine acN Tryz.func279 rfl ?_
  show awp _ _ _ _ _ (EJ _ [.tmp 4] _)
  simp -implicitDefEqProofs only [BC,A8,BK,BA,CJ,AY,BB,AO,AQ,AL,BD,AX,AC,AA,AZ,AU,BH,BG,A7,BR,AB,KX,BF,BP,↓reduceIte,jB,jA,jC,enP,e]
  exact ⟨trivial,trivial⟩
 have ho:=O5 G (a:Nat) h
 rw [TI ha] at ho
 refine acN Tryz.func267 rfl ?_
 show awp _ _ _ _ _ (EJ _ [.tmp 4] _)
 simp -implicitDefEqProofs only [BC,A8,BA,AY,BB,AO,AQ,AL,BD,AX,AC,AA,AZ,AU,CB,BH,BG,A7,CG,BX,BF,jE,jD,jF,↓reduceIte,jB,jA,jC,enP]
 refine ho.use ?_
 simp -implicitDefEqProofs only [AY,AO,AQ,AL,BD,AX,AC,AA,AZ,CB,BG,IG,CG,BX,BF,BP,jE,jD,jF,↓reduceIte,jB,jA,jC]
 refine (ABS G 279 a b _ hb (qP _ (by omega)) h hc).use ?_
 simp -implicitDefEqProofs only [BK,BA,CJ,AY,BB,AO,AQ,AL,BD,AX,AC,AA,AZ,A7,↓reduceIte,jA,jC]
 exact ⟨trivial,trivial⟩
theorem A2J (G:Nat→AV) (a b:Nat) (ha:a < 65536) (hb:b < 65536) (h:Hp):PCall (En G) 268 [.int .i64 (a:Nat),.int .i64 (b:Nat)] h (.int .i64 ((a * b % 65536:Nat):Int)):=by
 have hc:PCall (En G) 280 [.int .u16 (a:Nat),.int .u16 (b:Nat)] h (.int .u16 ((a * b % 65536:Nat):Int)):=by
  have e:IntKind.u16.wrap ((a:Int) * (b:Int))=((a * b % 65536:Nat):Int):=by rw [RX]; rw [← Int.natCast_mul]; rfl
  refine acN Tryz.func280 rfl ?_
  show awp _ _ _ _ _ (EJ _ [.tmp 4] _)
  simp -implicitDefEqProofs only [BC,A8,BK,BA,CJ,AY,BB,AO,AQ,AL,BD,AX,AC,AA,AZ,AU,BH,BG,A7,BR,AB,Q8,BF,BP,↓reduceIte,jB,jA,jC,enP,e]
  exact ⟨trivial,trivial⟩
 have ho:=O5 G (a:Nat) h
 rw [TI ha] at ho
 refine acN Tryz.func268 rfl ?_
 show awp _ _ _ _ _ (EJ _ [.tmp 4] _)
 simp -implicitDefEqProofs only [BC,A8,BA,AY,BB,AO,AQ,AL,BD,AX,AC,AA,AZ,AU,CB,BH,BG,A7,CG,BX,BF,jE,jD,jF,↓reduceIte,jB,jA,jC,enP]
 refine ho.use ?_
 simp -implicitDefEqProofs only [AY,AO,AQ,AL,BD,AX,AC,AA,AZ,CB,BG,IG,CG,BX,BF,BP,jE,jD,jF,↓reduceIte,jB,jA,jC]
 refine (ABS G 280 a b _ hb (qP _ (by omega)) h hc).use ?_
 simp -implicitDefEqProofs only [BK,BA,CJ,AY,BB,AO,AQ,AL,BD,AX,AC,AA,AZ,A7,↓reduceIte,jA,jC]
 exact ⟨trivial,trivial⟩
theorem A20 (G:Nat→AV) (a:Nat) (ha:a < 65536) (h:Hp):PCall (En G) 264 [.int .i64 (a:Nat)] h (.int .i64 ((65535 - a:Nat):Int)):=by
 have hu:aUn .xor (.int .u16 (a:Nat))=some (.int .u16 ((65535 - a:Nat):Int)):=by
  have e:aUn .xor (.int .u16 (a:Nat))=some (.int .u16 (IntKind.u16.wrap ((BitVec.ofInt 16 65535 ^^^ BitVec.ofInt 16 (a:Int)).toNat:Int))):=rfl
  have h1:BitVec.ofInt 16 65535=BitVec.allOnes 16:=by decide
  have h2:(BitVec.ofInt 16 (a:Int)).toNat=a:=by
   rw [BitVec.ofInt_natCast,BitVec.toNat_ofNat]
   exact Nat.mod_eq_of_lt (by omega)
  rw [e,h1,BitVec.allOnes_xor,BitVec.toNat_not,h2,ASB (by omega) (by simp only [Nat.reducePow]; omega)]
 have hc:PCall (En G) 276 [.int .u16 (a:Nat)] h (.int .u16 ((65535 - a:Nat):Int)):=by
  refine acN Tryz.func276 rfl ?_
  show awp _ _ _ _ _ (EJ _ [.tmp 2] _)
  simp -implicitDefEqProofs only [BC,A8,BK,BA,CJ,AY,BB,AO,AQ,AL,BD,AX,AC,AA,AZ,AU,BH,BG,A7,G7,AB,BF,↓reduceIte,jB,jA,jC,enP,hu]
  exact ⟨trivial,trivial⟩
 have ho:=O5 G (a:Nat) h
 rw [TI ha] at ho
 refine acN Tryz.func264 rfl ?_
 show awp _ _ _ _ _ (EJ _ [.tmp 2] _)
 simp -implicitDefEqProofs only [BC,A8,BA,AY,BB,AO,AQ,AL,BD,AX,AC,AA,AZ,AU,CB,BH,BG,A7,CG,BX,BF,jE,jD,jF,↓reduceIte,jB,jA,jC,enP]
 refine ho.use ?_
 simp -implicitDefEqProofs only [AY,AO,AQ,AL,BD,AX,AC,AA,AZ,CB,IG,CG,BX,jE,jD,jF,↓reduceIte,jA,jC]
 refine (AJA G 276 a _ (by omega) h hc).use ?_
 simp -implicitDefEqProofs only [BK,BA,CJ,AY,BB,AO,AQ,AL,BD,AX,AC,AA,AZ,A7,↓reduceIte,jA,jC]
 exact ⟨trivial,trivial⟩
theorem A2I (G:Nat→AV) (a:Nat) (ha:a < 65536) (h:Hp):PCall (En G) 265 [.int .i64 (a:Nat)] h (.int .i64 (((65536 - a) % 65536:Nat):Int)):=by
 have hc:PCall (En G) 277 [.int .u16 (a:Nat)] h (.int .u16 (((65536 - a) % 65536:Nat):Int)):=by
  have e:IntKind.u16.wrap (0 - (a:Int))=(((65536 - a) % 65536:Nat):Int):=by rw [RX]; omega
  refine acN Tryz.func277 rfl ?_
  show awp _ _ _ _ _ (EJ _ [.tmp 2] _)
  simp -implicitDefEqProofs only [BC,A8,BK,BA,CJ,AY,BB,AO,AQ,AL,BD,AX,AC,AA,AZ,AU,BH,BG,A7,G7,AB,AZ1,BF,↓reduceIte,jB,jA,jC,enP,e]
  exact ⟨trivial,trivial⟩
 have ho:=O5 G (a:Nat) h
 rw [TI ha] at ho
 refine acN Tryz.func265 rfl ?_
 show awp _ _ _ _ _ (EJ _ [.tmp 2] _)
 simp -implicitDefEqProofs only [BC,A8,BA,AY,BB,AO,AQ,AL,BD,AX,AC,AA,AZ,AU,CB,BH,BG,A7,CG,BX,BF,jE,jD,jF,↓reduceIte,jB,jA,jC,enP]
 refine ho.use ?_
 simp -implicitDefEqProofs only [AY,AO,AQ,AL,BD,AX,AC,AA,AZ,CB,IG,CG,BX,jE,jD,jF,↓reduceIte,jA,jC]
 refine (AJA G 277 a _ (qP _ (by omega)) h hc).use ?_
 simp -implicitDefEqProofs only [BK,BA,CJ,AY,BB,AO,AQ,AL,BD,AX,AC,AA,AZ,A7,↓reduceIte,jA,jC]
 exact ⟨trivial,trivial⟩
theorem ABV (G:Nat→AV) (k:FuncId) (a r:Nat) (n:Int) (hr:r < 65536) (h:Hp) (hc : ¬ (n < 0∨n≥16)→PCall (En G) k [.int .u16 (a:Nat),.int .i64 n] h (.int .u16 (r:Nat))) (h0:n < 0∨n≥16→r=0) :
  PCall (En G) 281 [.fn (.func k) [.int .u16 (a:Nat)] [],.int .i64 n] h (.int .i64 (r:Nat)):=by
 refine acN Tryz.func281 rfl ?_
 show awp _ _ _ _ _ (EJ _ [.tmp 4] _)
 simp -implicitDefEqProofs only [BC,A8,BA,AY,BB,BL,BV,CO,AO,AQ,AL,BD,AX,AC,AA,AZ,AU,BH,BG,A7,BR,AB,CW,BF,BP,↓reduceIte,jB,jA,jC,enP]
 cases h1:decide (n < 0)
 ·have h1' : ¬ n < 0:=by simpa using h1
  cases h2:decide (n≥16)
  ·have h2' : ¬ n≥16:=by simpa using h2
   simp -implicitDefEqProofs only [BC,A8,BO,BI,BA,D5,AY,BB,BL,BV,CO,EM,AO,AQ,AL,BD,AX,AC,AA,AZ,AU,BH,BM,BG,CP,DR,BR,CG,AB,FX,BF,BP,jE,jD,jF,zZ,qB,↓reduceIte,jB,jA,jC,enP,h2,ZY]
   refine (hc (by omega)).use ?_
   simp -implicitDefEqProofs only [AY,AO,AQ,AL,BD,AX,AC,AA,AZ,CB,CG,BX,jE,jD,jF,↓reduceIte,jA,jC]
   refine (TJ G r hr h).use ?_
   simp -implicitDefEqProofs only [BK,BA,CJ,AY,BB,AO,AQ,AL,BD,AX,AC,AA,AZ,A7,↓reduceIte,jA,jC]
   exact ⟨trivial,trivial⟩
  ·have h2':n≥16:=by simpa using h2
   simp -implicitDefEqProofs only [BC,A8,BK,BI,BA,CQ,CJ,DT,AY,BB,BL,BV,CO,EM,AO,AQ,AL,BD,AX,AC,AA,AZ,AU,BH,BM,BG,A7,CP,DR,BR,AB,FX,BF,BP,↓reduceIte,jB,jA,jC,enP,h2]
   exact ⟨by rw [h0 (.inr h2')]; rfl,trivial⟩
 ·have h1':n < 0:=by simpa using h1
  simp -implicitDefEqProofs only [BC,A8,BK,BI,BA,CQ,CJ,DT,AY,BB,BL,BV,CO,FP,AO,AQ,AL,BD,AX,AC,AA,EQ,AZ,AU,BH,BM,A7,CP,DY,↓reduceIte,jB,jA,jC]
  exact ⟨by rw [h0 (.inl h1')]; rfl,trivial⟩
theorem AOB {a:Nat} {n:Int}:AIK a n < 65536:=by
 unfold AIK
 split
 ·omega
 ·exact qP _ (by omega)
theorem AOA {a:Nat} {n:Int} (ha:a < 65536):AIJ a n < 65536:=by
 unfold AIJ
 split
 ·omega
 ·exact Nat.lt_of_le_of_lt (Nat.div_le_self _ _) ha
theorem A19 (G:Nat→AV) (a:Nat) (n:Int) (ha:a < 65536) (h:Hp):PCall (En G) 269 [.int .i64 (a:Nat),.int .i64 n] h (.int .i64 (AIK a n:Nat)):=by
 have hc : ¬ (n < 0∨n≥16)→PCall (En G) 282 [.int .u16 (a:Nat),.int .i64 n] h (.int .u16 (AIK a n:Nat)):=fun hn=>by
  have hb:JV Tryz.prog 247 .shl (.int .u16 (a:Nat)) (.int .i64 n)=some (.int .u16 (AIK a n:Nat)):=by
   have e:JV Tryz.prog 247 .shl (.int .u16 (a:Nat)) (.int .i64 n)=if n < 0 then none else some (.int .u16 (IntKind.u16.wrap ((a:Int) * 2 ^ (min n.toNat 16)))):=rfl
   have h1:min n.toNat 16=n.toNat:=by omega
   rw [e,if_neg (by omega),h1,RX]
   unfold AIK
   rw [if_neg hn,Int.natCast_emod,Int.natCast_mul,Int.natCast_pow]
   rfl
  refine acN Tryz.func282 rfl ?_
  show awp _ _ _ _ _ (EJ _ [.tmp 4] _)
  simp -implicitDefEqProofs only [BC,A8,BK,BA,CJ,AY,BB,AO,AQ,AL,BD,AX,AC,AA,AZ,AU,BH,BG,A7,BR,AB,BF,BP,↓reduceIte,jB,jA,jC,enP,hb]
  exact ⟨trivial,trivial⟩
 have ho:=O5 G (a:Nat) h
 rw [TI ha] at ho
 refine acN Tryz.func269 rfl ?_
 show awp _ _ _ _ _ (EJ _ [.tmp 4] _)
 simp -implicitDefEqProofs only [BC,A8,BA,AY,BB,AO,AQ,AL,BD,AX,AC,AA,AZ,AU,CB,BH,BG,A7,CG,BX,BF,jE,jD,jF,↓reduceIte,jB,jA,jC,enP]
 refine ho.use ?_
 simp -implicitDefEqProofs only [AY,AO,AQ,AL,BD,AX,AC,AA,AZ,CB,BG,IG,CG,BX,BF,BP,jE,jD,jF,↓reduceIte,jB,jA,jC]
 refine (ABV G 282 a _ n AOB h hc (fun hh=>by unfold AIK; rw [if_pos hh])).use ?_
 simp -implicitDefEqProofs only [BK,BA,CJ,AY,BB,AO,AQ,AL,BD,AX,AC,AA,AZ,A7,↓reduceIte,jA,jC]
 exact ⟨trivial,trivial⟩
theorem A18 (G:Nat→AV) (a:Nat) (n:Int) (ha:a < 65536) (h:Hp):PCall (En G) 270 [.int .i64 (a:Nat),.int .i64 n] h (.int .i64 (AIJ a n:Nat)):=by
 have hc : ¬ (n < 0∨n≥16)→PCall (En G) 283 [.int .u16 (a:Nat),.int .i64 n] h (.int .u16 (AIJ a n:Nat)):=fun hn=>by
  have hb:JV Tryz.prog 247 .shr (.int .u16 (a:Nat)) (.int .i64 n)=some (.int .u16 (AIJ a n:Nat)):=by
   have e:JV Tryz.prog 247 .shr (.int .u16 (a:Nat)) (.int .i64 n)=if n < 0 then none else some (.int .u16 ((a:Int).fdiv (2 ^ (min n.toNat 16)))):=rfl
   have h1:min n.toNat 16=n.toNat:=by omega
   rw [e,if_neg (by omega),h1]
   unfold AIJ
   rw [if_neg hn,Int.fdiv_eq_ediv_of_nonneg _ (by exact Int.le_of_lt (Int.pow_pos (by decide))),Int.natCast_ediv,Int.natCast_pow]
   rfl
  refine acN Tryz.func283 rfl ?_
  show awp _ _ _ _ _ (EJ _ [.tmp 4] _)
  simp -implicitDefEqProofs only [BC,A8,BK,BA,CJ,AY,BB,AO,AQ,AL,BD,AX,AC,AA,AZ,AU,BH,BG,A7,BR,AB,BF,BP,↓reduceIte,jB,jA,jC,enP,hb]
  exact ⟨trivial,trivial⟩
 have ho:=O5 G (a:Nat) h
 rw [TI ha] at ho
 refine acN Tryz.func270 rfl ?_
 show awp _ _ _ _ _ (EJ _ [.tmp 4] _)
 simp -implicitDefEqProofs only [BC,A8,BA,AY,BB,AO,AQ,AL,BD,AX,AC,AA,AZ,AU,CB,BH,BG,A7,CG,BX,BF,jE,jD,jF,↓reduceIte,jB,jA,jC,enP]
 refine ho.use ?_
 simp -implicitDefEqProofs only [AY,AO,AQ,AL,BD,AX,AC,AA,AZ,CB,BG,IG,CG,BX,BF,BP,jE,jD,jF,↓reduceIte,jB,jA,jC]
 refine (ABV G 283 a _ n (AOA ha) h hc (fun hh=>by unfold AIJ; rw [if_pos hh])).use ?_
 simp -implicitDefEqProofs only [BK,BA,CJ,AY,BB,AO,AQ,AL,BD,AX,AC,AA,AZ,A7,↓reduceIte,jA,jC]
 exact ⟨trivial,trivial⟩
def AN7 (fn:Func):ByteArray:=match fn.body with
 | some (.seq _ (.seq (.region _ ops _) _))=>match ops[2]? with
   | some o=>match o.op with
     | .index _ (.const (.string s)) _=>s
     | _=>⟨#[]⟩
   | none=>⟨#[]⟩
 | _=>⟨#[]⟩
theorem AWH:(List.range 256).all (fun y=>(AN7 Tryz.f278)[y]? == some (UInt8.ofNat (LP y 8)))=true:=by kernel_rfl
theorem ASH {y:Nat} (hy:y < 256) (h:Hp):ofO h (NG Tryz.prog 9 (.str (AN7 Tryz.f278)) (.int .u16 (y:Nat)))=some (.int .u8 (LP y 8:Nat),h):=by
 have h1:=List.all_eq_true.1 AWH y (by simpa using hy)
 have h2:(AN7 Tryz.f278)[y]? = some (UInt8.ofNat (LP y 8)):=by simpa using h1
 have hle:=P9 y 8
 have hu:Tryz.prog.underlying 9=some .string:=by kernel_rfl
 have h3:NG Tryz.prog 9 (.str (AN7 Tryz.f278)) (.int .u16 (y:Nat))=some (.int .u8 (LP y 8:Nat)):=by
  unfold NG
  simp only [hu,Int.toNat_natCast,h2]
  rw [if_pos (by omega)]
  simp
  omega
 rw [h3]; rfl
set_option maxHeartbeats 1000000 in
theorem AQB (G:Nat→AV) (a:Nat) (ha:a < 65536) (h:Hp):PCall (En G) 266 [.int .i64 (a:Nat)] h (.int .i64 (V7 a:Nat)):=by
 have hs:JV Tryz.prog 246 .shr (.int .u16 (a:Nat)) (.int .u64 8)=some (.int .u16 ((a / 256:Nat):Int)):=by
  have e:JV Tryz.prog 246 .shr (.int .u16 (a:Nat)) (.int .u64 8)=some (.int .u16 ((a:Int).fdiv (2 ^ 8))):=rfl
  rw [e,Int.fdiv_eq_ediv_of_nonneg _ (by decide)]
  rfl
 have hl:JV Tryz.prog 246 .and (.int .u16 (a:Nat)) (.int .u16 255)=some (.int .u16 ((a % 256:Nat):Int)):=by
  have e:JV Tryz.prog 246 .and (.int .u16 (a:Nat)) (.int .u16 255)=some (.int .u16 (IntKind.u16.wrap ((BitVec.ofInt 16 (a:Int) &&& BitVec.ofInt 16 255).toNat:Int))):=rfl
  have h1:(BitVec.ofInt 16 255).toNat=2 ^ 8 - 1:=by decide
  have h2:(BitVec.ofInt 16 (a:Int)).toNat=a:=by
   rw [BitVec.ofInt_natCast,BitVec.toNat_ofNat]
   exact Nat.mod_eq_of_lt (by omega)
  rw [e,BitVec.toNat_and,h1,Nat.and_two_pow_sub_one_eq_mod,h2,ASB (by omega) (by simp only [Nat.reducePow]; omega)]
 have l1:=P9 (a / 256) 8
 have l2:=P9 (a % 256) 8
 have hadd:JV Tryz.prog 5 .add (.int .u8 (LP (a / 256) 8:Nat)) (.int .u8 (LP (a % 256) 8:Nat))=some (.int .u8 (V7 a:Nat)):=by
  have e:JV Tryz.prog 5 .add (.int .u8 (LP (a / 256) 8:Nat)) (.int .u8 (LP (a % 256) 8:Nat))=some (.int .u8 (IntKind.u8.wrap ((LP (a / 256) 8:Int)+(LP (a % 256) 8:Int)))):=rfl
  have e2 : ∀ n:Int,IntKind.u8.wrap n=n % 256:=fun n=>by simp [IntKind.wrap,IntKind.bits,IntKind.signed]
  have e3:=ATE a
  rw [e,e2]
  congr 2
  omega
 have h64:IntKind.i64.wrap ((V7 a:Nat):Int)=((V7 a:Nat):Int):=MO (by have:=P9 a 16; unfold V7; omega)
 have hc:PCall (En G) 278 [.int .u16 (a:Nat)] h (.int .i64 (V7 a:Nat)):=by
  refine acN Tryz.func278 rfl ?_
  show awp _ _ _ _ _ (EJ _ [.tmp 2] _)
  simp -implicitDefEqProofs only [BC,A8,BA,AY,BB,AO,AQ,AL,BD,AX,AC,AU,BH,A7,jA,jC,enP]
  refine EX (by kernel_rfl) ?_
  simp -implicitDefEqProofs only [F6,EF,DZ,EH,FI,IB,AF7,AO,AA,AZ,AU,BH,IA,BR,NW,AB,BF,↓reduceIte,jB,jM,jA,enP,hs,hl]
  refine LY (v := .int .u8 (LP (a / 256) 8:Nat)) (h:=h) (ASH (by omega) h) ?_
  simp -implicitDefEqProofs only [F6,EF,DZ,EH,FI,IB,AF7,AO,AA,AZ,AU,BH,IA,BR,NW,AB,BF,↓reduceIte,jB,jM,jA,enP,hs,hl]
  refine LY (v := .int .u8 (LP (a % 256) 8:Nat)) (h:=h) (ASH (by omega) h) ?_
  simp -implicitDefEqProofs only [F6,EF,DZ,FC,EH,IK,IB,AR8,BK,BA,CJ,AO,AA,AZ,BR,Y3,AB,↓reduceIte,jB,jM,jA,enP,AUS,hadd,h64]
  exact ⟨trivial,trivial⟩
 have ho:=O5 G (a:Nat) h
 rw [TI ha] at ho
 refine acN Tryz.func266 rfl ?_
 show awp _ _ _ _ _ (EJ _ [.tmp 2] _)
 simp -implicitDefEqProofs only [BC,A8,BA,AY,BB,AO,AQ,AL,BD,AX,AC,AA,AZ,AU,CB,BH,BG,A7,CG,BX,BF,jE,jD,jF,↓reduceIte,jB,jA,jC,enP]
 refine ho.use ?_
 simp -implicitDefEqProofs only [AY,AO,AQ,AL,BD,AX,AC,AA,AZ,CB,CG,BX,jE,jD,jF,↓reduceIte,jA,jC]
 refine hc.use ?_
 simp -implicitDefEqProofs only [BK,BA,CJ,AY,BB,AO,AQ,AL,BD,AX,AC,AA,AZ,A7,↓reduceIte,jA,jC]
 exact ⟨trivial,trivial⟩
end Go.Proofs.YtfpagfhhhlljjaaGreatDoor.Wd
set_option linter.unusedSimpArgs false
set_option maxRecDepth 8000
namespace Go.Proofs.YtfpagfhhhlljjaaGreatDoor.Xe
open Sm Bins Cov Wd Go.RowKit
open Bool renaming eq_iff_iff→qQ,not_false→jC,not_true→jU
open Int renaming reduceBEq→qG
open List renaming map_cons→jE,map_nil→jD,append_nil→jF
open Nat renaming mod_lt→qP,le_of_ble_eq_true→jI,reduceEqDiff→jB
open Option renaming getD_some→jA
def tr (b:Bool):Nat:=if b then 1 else 0
def sgW (op:Int) (a:Nat):Nat:=if op=4 then tr (a == 0) else if op=5 then 65535 - a else if op=6 then (65536 - a) % 65536 else V7 a
def dbW (op:Int) (a b:Nat):Nat :=
 if op=7 then (a+b) % 65536 else if op=8 then (a+65536 - b) % 65536 else if op=9 then a * b % 65536 else if op=10 then a &&& b else if op=11 then a ||| b else if op=12 then a ^^^ b
 else if op=13 then AIK a (b:Nat) else if op=14 then AIJ a (b:Nat) else if op=15 then tr (a == b) else if op=16 then tr (!(a == b)) else if op=17 then tr (decide (a < b)) else if op=18 then tr (decide (a≤b))
 else if op=19 then tr (!(a == 0) && !(b == 0)) else if op=20 then tr (!(a == 0) || !(b == 0)) else tr ((a == 0) || !(b == 0))
theorem XO (b:Bool):tr b < 65536:=by cases b <;> decide
theorem A0C {op:Int} {a:Nat} (ha:a < 65536):sgW op a < 65536:=by
 unfold sgW
 by_cases h4:op=4
 ·rw [if_pos h4]; exact XO _
 by_cases h5:op=5
 ·rw [if_neg h4,if_pos h5]; omega
 by_cases h6:op=6
 ·rw [if_neg h4,if_neg h5,if_pos h6]; exact qP _ (by omega)
 ·rw [if_neg h4,if_neg h5,if_neg h6]
  have:=P9 a 16
  unfold V7; omega
theorem A05 {op:Int} {a b:Nat} (ha:a < 65536) (hb:b < 65536):dbW op a b < 65536:=by
 unfold dbW
 by_cases h7:op=7
 ·rw [if_pos h7]; exact qP _ (by omega)
 by_cases h8:op=8
 ·rw [if_neg h7,if_pos h8]; exact qP _ (by omega)
 by_cases h9:op=9
 ·rw [if_neg h7,if_neg h8,if_pos h9]; exact qP _ (by omega)
 by_cases h10:op=10
 ·rw [if_neg h7,if_neg h8,if_neg h9,if_pos h10]; exact Nat.lt_of_le_of_lt Nat.and_le_left ha
 by_cases h11:op=11
 ·rw [if_neg h7,if_neg h8,if_neg h9,if_neg h10,if_pos h11]; exact Nat.or_lt_two_pow (n:=16) (by omega) (by omega)
 by_cases h12:op=12
 ·rw [if_neg h7,if_neg h8,if_neg h9,if_neg h10,if_neg h11,if_pos h12]; exact Nat.xor_lt_two_pow (n:=16) (by omega) (by omega)
 by_cases h13:op=13
 ·rw [if_neg h7,if_neg h8,if_neg h9,if_neg h10,if_neg h11,if_neg h12,if_pos h13]; exact AOB
 by_cases h14:op=14
 ·rw [if_neg h7,if_neg h8,if_neg h9,if_neg h10,if_neg h11,if_neg h12,if_neg h13,if_pos h14]; exact AOA ha
 by_cases h15:op=15
 ·rw [if_neg h7,if_neg h8,if_neg h9,if_neg h10,if_neg h11,if_neg h12,if_neg h13,if_neg h14,if_pos h15]; exact XO _
 by_cases h16:op=16
 ·rw [if_neg h7,if_neg h8,if_neg h9,if_neg h10,if_neg h11,if_neg h12,if_neg h13,if_neg h14,if_neg h15,if_pos h16]; exact XO _
 by_cases h17:op=17
 ·rw [if_neg h7,if_neg h8,if_neg h9,if_neg h10,if_neg h11,if_neg h12,if_neg h13,if_neg h14,if_neg h15,if_neg h16,if_pos h17]; exact XO _
 by_cases h18:op=18
 ·rw [if_neg h7,if_neg h8,if_neg h9,if_neg h10,if_neg h11,if_neg h12,if_neg h13,if_neg h14,if_neg h15,if_neg h16,if_neg h17,if_pos h18]; exact XO _
 by_cases h19:op=19
 ·rw [if_neg h7,if_neg h8,if_neg h9,if_neg h10,if_neg h11,if_neg h12,if_neg h13,if_neg h14,if_neg h15,if_neg h16,if_neg h17,if_neg h18,if_pos h19]; exact XO _
 by_cases h20:op=20
 ·rw [if_neg h7,if_neg h8,if_neg h9,if_neg h10,if_neg h11,if_neg h12,if_neg h13,if_neg h14,if_neg h15,if_neg h16,if_neg h17,if_neg h18,if_neg h19,if_pos h20]; exact XO _
 ·rw [if_neg h7,if_neg h8,if_neg h9,if_neg h10,if_neg h11,if_neg h12,if_neg h13,if_neg h14,if_neg h15,if_neg h16,if_neg h17,if_neg h18,if_neg h19,if_neg h20]; exact XO _
theorem eqc (a b:Nat):((a:Int) == (b:Int))=(a == b):=by
 rw [qQ]; simp only [beq_iff_eq]; omega
theorem eqz (a:Nat):((a:Int) == 0)=(a == 0):=eqc a 0
theorem nec (a b:Nat):((a:Int) != (b:Int)) = !(a == b):=congrArg not (eqc a b)
theorem nez (a:Nat):((a:Int) != 0) = !(a == 0):=nec a 0
theorem ltc (a b:Nat):decide ((a:Int) < (b:Int))=decide (a < b):=by
 rw [qQ]; simp only [decide_eq_true_eq]; omega
theorem lec (a b:Nat):decide ((a:Int)≤(b:Int))=decide (a≤b):=by
 rw [qQ]; simp only [decide_eq_true_eq]; omega
theorem L9 (G:Nat→AV) (b:Bool) (h:Hp):PCall (En G) 263 [.bool b] h (.int .i64 (tr b:Nat)):=by
 refine acN Tryz.func263 rfl ?_
 show awp _ _ _ _ _ (EJ _ [.tmp 2] _)
 cases b
 all_goals
  simp -implicitDefEqProofs only [BC,A8,BO,BK,BI,BA,CQ,CJ,DT,D5,AY,BB,AO,AQ,AL,BD,AX,AC,AA,AZ,AU,BH,BG,A7,BF,↓reduceIte,jB,jA,jC,enP]
  exact ⟨rfl,trivial⟩
theorem AII (G:Nat→AV) (op:Int) (a:Nat) (ha:a < 65536) (h:Hp):PCall (En G) 246 [.int .i64 op,.int .i64 (a:Nat)] h (.int .i64 (sgW op a:Nat)):=by
 refine acN Tryz.func246 rfl ?_
 show awp _ _ _ _ _ (EJ _ [.tmp 4] _)
 have hcase:op=4∨op=5∨op=6∨(op≠4∧op≠5∧op≠6):=by omega
 rcases hcase with rfl | rfl | rfl | ⟨n4,n5,n6⟩
 ·simp -implicitDefEqProofs only [BC,BQ,A8,BI,BA,DT,AY,BB,AO,AQ,AL,BD,AX,AC,AA,AZ,AU,CB,BH,BG,A7,BR,CG,BX,AB,EG,BF,BP,jE,jD,jF,↓reduceIte,jB,jA,jC,enP,qG,eqz]
  refine (L9 G _ h).use ?_
  simp -implicitDefEqProofs only [BK,BA,CQ,EE,CJ,AY,BB,AO,AQ,AL,BD,AX,AC,AA,AZ,A7,↓reduceIte,jA,jC]
  exact ⟨rfl,trivial⟩
 ·simp -implicitDefEqProofs only [BC,BQ,A8,BI,BA,DT,D5,AY,BB,AO,AQ,AL,BD,AX,AC,AA,AZ,AU,CB,BH,BG,A7,BR,CG,BX,AB,EG,BF,BP,jE,jD,jF,↓reduceIte,jB,jA,jC,enP,qG]
  refine (A20 G a ha h).use ?_
  simp -implicitDefEqProofs only [BK,BA,CQ,EE,CJ,AY,BB,AO,AQ,AL,BD,AX,AC,AA,AZ,A7,↓reduceIte,jA,jC]
  exact ⟨rfl,trivial⟩
 ·simp -implicitDefEqProofs only [BC,BQ,A8,BI,BA,DT,D5,AY,BB,AO,AQ,AL,BD,AX,AC,AA,AZ,AU,CB,BH,BG,A7,BR,CG,BX,AB,EG,BF,BP,jE,jD,jF,↓reduceIte,jB,jA,jC,enP,qG]
  refine (A2I G a ha h).use ?_
  simp -implicitDefEqProofs only [BK,BA,CQ,EE,CJ,AY,BB,AO,AQ,AL,BD,AX,AC,AA,AZ,A7,↓reduceIte,jA,jC]
  exact ⟨rfl,trivial⟩
 ·simp -implicitDefEqProofs only [BC,BQ,A8,BO,BI,BA,EI,D5,AY,BB,AO,AQ,AL,BD,AX,AC,AA,AZ,AU,CB,BH,BG,A7,BR,CG,BX,AB,EG,BF,BP,jE,jD,jF,↓reduceIte,jB,jA,jC,enP,beq_eq_false_iff_ne.2 n4,beq_eq_false_iff_ne.2 n5,beq_eq_false_iff_ne.2 n6]
  refine (AQB G a ha h).use ?_
  simp -implicitDefEqProofs only [BK,BA,CJ,AY,BB,AO,AQ,AL,BD,AX,AC,AA,AZ,A7,↓reduceIte,jA,jC]
  exact ⟨by unfold sgW; rw [if_neg n4,if_neg n5,if_neg n6],trivial⟩
set_option maxHeartbeats 4000000 in
theorem AKD (G:Nat→AV) (op:Int) (a b:Nat) (ha:a < 65536) (hb:b < 65536) (h:Hp):PCall (En G) 247 [.int .i64 op,.int .i64 (a:Nat),.int .i64 (b:Nat)] h (.int .i64 (dbW op a b:Nat)):=by
 refine acN Tryz.func247 rfl ?_
 show awp _ _ _ _ _ (EJ _ [.tmp 6] _)
 have hcase:op=7∨op=8∨op=9∨op=10∨op=11∨op=12∨op=13∨op=14∨op=15∨op=16∨op=17∨op=18∨op=19∨op=20∨(op < 7∨20 < op):=by omega
 rcases hcase with rfl | rfl | rfl | rfl | rfl | rfl | rfl | rfl | rfl | rfl | rfl | rfl | rfl | rfl | hop
 ·simp -implicitDefEqProofs only [BC,BQ,A8,BI,BA,DT,AY,BB,AO,AQ,AL,BD,AX,AC,AA,AZ,AU,CB,BH,BG,A7,BR,CG,BX,AB,EG,BF,BP,jE,jD,jF,↓reduceIte,jB,jA,jC,enP,qG]
  refine (AZU G a b ha hb h).use ?_
  simp -implicitDefEqProofs only [BK,BA,CQ,EE,CJ,AY,BB,AO,AQ,AL,BD,AX,AC,AA,AZ,A7,↓reduceIte,jA,jC]
  exact ⟨rfl,trivial⟩
 ·simp -implicitDefEqProofs only [BC,BQ,A8,BI,BA,DT,D5,AY,BB,AO,AQ,AL,BD,AX,AC,AA,AZ,AU,CB,BH,BG,A7,BR,CG,BX,AB,EG,BF,BP,jE,jD,jF,↓reduceIte,jB,jA,jC,enP,qG]
  refine (A1Y G a b ha hb h).use ?_
  simp -implicitDefEqProofs only [BK,BA,CQ,EE,CJ,AY,BB,AO,AQ,AL,BD,AX,AC,AA,AZ,A7,↓reduceIte,jA,jC]
  exact ⟨rfl,trivial⟩
 ·simp -implicitDefEqProofs only [BC,BQ,A8,BI,BA,DT,D5,AY,BB,AO,AQ,AL,BD,AX,AC,AA,AZ,AU,CB,BH,BG,A7,BR,CG,BX,AB,EG,BF,BP,jE,jD,jF,↓reduceIte,jB,jA,jC,enP,qG]
  refine (A2J G a b ha hb h).use ?_
  simp -implicitDefEqProofs only [BK,BA,CQ,EE,CJ,AY,BB,AO,AQ,AL,BD,AX,AC,AA,AZ,A7,↓reduceIte,jA,jC]
  exact ⟨rfl,trivial⟩
 ·simp -implicitDefEqProofs only [BC,BQ,A8,BK,BI,BA,CQ,EE,CJ,DT,D5,AY,BB,AO,AQ,AL,BD,AX,AC,AA,AZ,AU,BH,BG,A7,BR,AB,EG,BF,BP,↓reduceIte,jB,jA,jC,enP,qG,A4A a b ha hb]
  exact ⟨rfl,trivial⟩
 ·simp -implicitDefEqProofs only [BC,BQ,A8,BK,BI,BA,CQ,EE,CJ,DT,D5,AY,BB,AO,AQ,AL,BD,AX,AC,AA,AZ,AU,BH,BG,A7,BR,AB,EG,BF,BP,↓reduceIte,jB,jA,jC,enP,qG,A44 a b ha hb]
  exact ⟨rfl,trivial⟩
 ·simp -implicitDefEqProofs only [BC,BQ,A8,BK,BI,BA,CQ,EE,CJ,DT,D5,AY,BB,AO,AQ,AL,BD,AX,AC,AA,AZ,AU,BH,BG,A7,BR,AB,EG,BF,BP,↓reduceIte,jB,jA,jC,enP,qG,A1Q a b ha hb]
  exact ⟨rfl,trivial⟩
 ·simp -implicitDefEqProofs only [BC,BQ,A8,BI,BA,DT,D5,AY,BB,AO,AQ,AL,BD,AX,AC,AA,AZ,AU,CB,BH,BG,A7,BR,CG,BX,AB,EG,BF,BP,jE,jD,jF,↓reduceIte,jB,jA,jC,enP,qG]
  refine (A19 G a (b:Nat) ha h).use ?_
  simp -implicitDefEqProofs only [BK,BA,CQ,EE,CJ,AY,BB,AO,AQ,AL,BD,AX,AC,AA,AZ,A7,↓reduceIte,jA,jC]
  exact ⟨rfl,trivial⟩
 ·simp -implicitDefEqProofs only [BC,BQ,A8,BI,BA,DT,D5,AY,BB,AO,AQ,AL,BD,AX,AC,AA,AZ,AU,CB,BH,BG,A7,BR,CG,BX,AB,EG,BF,BP,jE,jD,jF,↓reduceIte,jB,jA,jC,enP,qG]
  refine (A18 G a (b:Nat) ha h).use ?_
  simp -implicitDefEqProofs only [BK,BA,CQ,EE,CJ,AY,BB,AO,AQ,AL,BD,AX,AC,AA,AZ,A7,↓reduceIte,jA,jC]
  exact ⟨rfl,trivial⟩
 ·simp -implicitDefEqProofs only [BC,BQ,A8,BI,BA,DT,D5,AY,BB,AO,AQ,AL,BD,AX,AC,AA,AZ,AU,CB,BH,BG,A7,BR,CG,BX,AB,EG,BF,BP,jE,jD,jF,↓reduceIte,jB,jA,jC,enP,qG,eqc,nec,ltc,lec]
  refine (L9 G _ h).use ?_
  simp -implicitDefEqProofs only [BK,BA,CQ,EE,CJ,AY,BB,AO,AQ,AL,BD,AX,AC,AA,AZ,A7,↓reduceIte,jA,jC]
  exact ⟨rfl,trivial⟩
 ·simp -implicitDefEqProofs only [BC,BQ,A8,BI,BA,DT,D5,AY,BB,AO,AQ,AL,BD,AX,AC,AA,AZ,AU,CB,BH,BG,A7,BR,CG,BX,AB,EG,ET,BF,BP,jE,jD,jF,↓reduceIte,jB,jA,jC,enP,qG,eqc,nec,ltc,lec]
  refine (L9 G _ h).use ?_
  simp -implicitDefEqProofs only [BK,BA,CQ,EE,CJ,AY,BB,AO,AQ,AL,BD,AX,AC,AA,AZ,A7,↓reduceIte,jA,jC]
  exact ⟨rfl,trivial⟩
 ·simp -implicitDefEqProofs only [BC,BQ,A8,BI,BA,DT,D5,AY,BB,AO,AQ,AL,BD,AX,AC,AA,AZ,AU,CB,BH,BG,A7,BR,CG,BX,AB,EG,CW,BF,BP,jE,jD,jF,↓reduceIte,jB,jA,jC,enP,qG,eqc,nec,ltc,lec]
  refine (L9 G _ h).use ?_
  simp -implicitDefEqProofs only [BK,BA,CQ,EE,CJ,AY,BB,AO,AQ,AL,BD,AX,AC,AA,AZ,A7,↓reduceIte,jA,jC]
  exact ⟨rfl,trivial⟩
 ·simp -implicitDefEqProofs only [BC,BQ,A8,BI,BA,DT,D5,AY,BB,AO,AQ,AL,BD,AX,AC,AA,AZ,AU,CB,BH,BG,A7,BR,CG,BX,AB,EG,KA,BF,BP,jE,jD,jF,↓reduceIte,jB,jA,jC,enP,qG,eqc,nec,ltc,lec]
  refine (L9 G _ h).use ?_
  simp -implicitDefEqProofs only [BK,BA,CQ,EE,CJ,AY,BB,AO,AQ,AL,BD,AX,AC,AA,AZ,A7,↓reduceIte,jA,jC]
  exact ⟨rfl,trivial⟩
 ·simp -implicitDefEqProofs only [BC,BQ,A8,BI,BA,DT,D5,AY,BB,BL,BV,CO,AO,AQ,AL,BD,AX,AC,AA,AZ,AU,BH,BG,A7,BR,AB,EG,ET,BF,BP,↓reduceIte,jB,jA,jC,enP,qG,eqz,nez]
  cases h1:(a == 0) <;> cases h2:(b == 0)
  all_goals
   simp -implicitDefEqProofs only [AY,BL,BV,CO,GV,JK,AO,AQ,AL,BD,AX,AC,AA,EQ,AZ,AU,CB,BH,BM,BG,CP,DY,DR,BR,CG,BX,AB,ET,BF,BP,jE,jD,jF,↓reduceIte,jB,jA,jU,jC,enP,h1,h2,nez]
   refine (L9 G _ h).use ?_
   simp -implicitDefEqProofs only [BK,BA,CQ,EE,CJ,AY,BB,AO,AQ,AL,BD,AX,AC,AA,AZ,A7,↓reduceIte,jA,jC]
   exact ⟨by unfold dbW; rw [h1,h2]; rfl,trivial⟩
 ·simp -implicitDefEqProofs only [BC,BQ,A8,BI,BA,DT,D5,AY,BB,BL,BV,CO,AO,AQ,AL,BD,AX,AC,AA,AZ,AU,BH,BG,A7,BR,AB,EG,ET,BF,BP,↓reduceIte,jB,jA,jC,enP,qG,eqz,nez]
  cases h1:(a == 0) <;> cases h2:(b == 0)
  all_goals
   simp -implicitDefEqProofs only [AY,BL,BV,CO,EM,FP,AO,AQ,AL,BD,AX,AC,AA,EQ,AZ,AU,CB,BH,BM,BG,CP,DY,DR,BR,CG,BX,AB,ET,BF,BP,jE,jD,jF,↓reduceIte,jB,jA,jU,jC,enP,h1,h2,nez]
   refine (L9 G _ h).use ?_
   simp -implicitDefEqProofs only [BK,BA,CQ,EE,CJ,AY,BB,AO,AQ,AL,BD,AX,AC,AA,AZ,A7,↓reduceIte,jA,jC]
   exact ⟨by unfold dbW; rw [h1,h2]; rfl,trivial⟩
 ·have hne : ∀ k:Int,7≤k→k≤20→(op == k)=false:=fun k _ _=>beq_eq_false_iff_ne.2 (by omega)
  have hd:dbW op a b=tr ((a == 0) || !(b == 0)):=by
   unfold dbW
   rw [if_neg (by omega : ¬ op=7),if_neg (by omega : ¬ op=8),if_neg (by omega : ¬ op=9),if_neg (by omega : ¬ op=10),if_neg (by omega : ¬ op=11),if_neg (by omega : ¬ op=12),if_neg (by omega : ¬ op=13),if_neg (by omega : ¬ op=14),if_neg (by omega : ¬ op=15),if_neg (by omega : ¬ op=16),if_neg (by omega : ¬ op=17),if_neg (by omega : ¬ op=18),if_neg (by omega : ¬ op=19),if_neg (by omega : ¬ op=20)]
  rw [hd]
  simp -implicitDefEqProofs only [BC,BQ,A8,BO,BI,BA,EI,D5,AY,BB,BL,BV,CO,AO,AQ,AL,BD,AX,AC,AA,AZ,AU,BH,BG,A7,BR,AB,EG,BF,BP,↓reduceIte,jB,jA,jC,enP,hne 7 (by decide) (by decide),hne 8 (by decide) (by decide),hne 9 (by decide) (by decide),hne 10 (by decide) (by decide),hne 11 (by decide) (by decide),hne 12 (by decide) (by decide),hne 13 (by decide) (by decide),hne 14 (by decide) (by decide),hne 15 (by decide) (by decide),hne 16 (by decide) (by decide),hne 17 (by decide) (by decide),hne 18 (by decide) (by decide),hne 19 (by decide) (by decide),hne 20 (by decide) (by decide),eqz,nez]
  cases h1:(a == 0) <;> cases h2:(b == 0)
  all_goals
   simp -implicitDefEqProofs only [Bool.or_false,Bool.or_true,AY,BL,BV,CO,EM,FP,AO,AQ,AL,BD,AX,AC,AA,EQ,AZ,AU,CB,BH,BM,BG,CP,DY,DR,BR,CG,BX,AB,ET,BF,BP,jE,jD,jF,↓reduceIte,jB,jA,jU,jC,enP,h1,h2,nez]
   refine (L9 G _ h).use ?_
   simp -implicitDefEqProofs only [BK,BA,CJ,AY,BB,AO,AQ,AL,BD,AX,AC,AA,AZ,A7,↓reduceIte,jA,jC]
   exact ⟨by trivial,trivial⟩
end Go.Proofs.YtfpagfhhhlljjaaGreatDoor.Xe
set_option linter.unusedSimpArgs false
set_option maxRecDepth 8000
namespace Go.Proofs.YtfpagfhhhlljjaaGreatDoor.Xe
open Sm Bins Cov Go.RowKit
open Bool renaming not_false→jC,not_true→jU
open List renaming getElem_mem→jP,map_cons→jE,map_nil→jD,append_nil→jF,getElem?_set→zB,getElem?_eq_getElem→jO,nil_append→zZ,cons_append→qB,length_append→qA
open Nat renaming le_of_ble_eq_true→jI,reduceEqDiff→jB,zero_add→jG
open Option renaming getD_some→jA,getD_none→jT
theorem A0T:Frz encStr:=fun _ _ _ _=>⟨rfl,rfl⟩
theorem encStr0 (s:ByteArray):(encStr s)[0]? = some (.str s):=rfl
theorem AQY (G:Nat→AV) (xs:List ByteArray) (b:Nat) (v:ByteArray) (h:Hp) (hb:h[b]? = some (.live 1 (xs.map encStr))) (hl:xs.length≤1099511627776) :
  ∃ k:Int,PCall (En G) 202 [.own b 0 xs.length,.str v] h (.int .i64 k)∧decide (k≥0)=IJ xs v:=by
 have key : ∀ r:Int,(∀ i (hi:i < xs.length),(∀ j (hj:j < i),(v.toList == xs[j].toList)=false)→(v.toList == xs[i].toList)=true→r=(i:Int))→(IJ xs v=false→r = -1)→PCall (En G) 202 [.own b 0 xs.length,.str v] h (.int .i64 r):=by
  intro r hr hr0
  refine acN Tryz.func202 rfl ?_
  show awp _ _ _ _ _ (EJ _ [.tmp 4] _)
  simp -implicitDefEqProofs only [BC,BQ,A8,BA,AY,BB,AO,AQ,AL,BD,AX,AC,AA,AZ,AU,BH,BG,A7,DU,AB,BF,↓reduceIte,jB,jA,jC,enP,AJJ]
  refine DL (fun n F H => ∃ k,n+k=xs.length∧F 0 = .own b 0 xs.length∧F 1 = .str v∧F 7 = .int .i64 (xs.length:Nat)∧F 8 = .int .i64 (k:Nat)∧H=h∧(∀ j (hj:j < xs.length),j < k→(v.toList == xs[j].toList)=false)∧IJ xs v=IJ (xs.drop k) v) xs.length ⟨0,by simp,by simp -implicitDefEqProofs only [AA,BF,↓reduceIte,jB],by simp -implicitDefEqProofs only [AA,BF,BP,↓reduceIte,jB],by simp -implicitDefEqProofs only [AA,↓reduceIte,jB],by simp -implicitDefEqProofs only [AA,↓reduceIte]; rfl,rfl,fun j _ hj=>by omega,rfl⟩ ?_
  rintro n F H ⟨k,hk,f0,f1,f7,f8,rfl,hbef,hin⟩
  simp -implicitDefEqProofs only [BC,A8,BI,BA,AY,BB,AO,AQ,AL,BD,AX,AC,AA,AZ,BR,AB,CW,↓reduceIte,jA,jC,enP,f7,f8]
  refine CU (fun hc => ?_) (fun hc => ?_)
  ·have hk':k < xs.length:=by simpa using hc
   have hs:IJ (xs.drop k) v=((v.toList == xs[k].toList) || IJ (xs.drop (k+1)) v):=LD _ xs k hk'
   have l1:D6 Tryz.prog H 9 (.ptr b k 0)=some (.str xs[k]):=by rw [DV ag9 hb (row:=encStr xs[k]) (row_map hk')]; rfl
   simp -implicitDefEqProofs only [BC,BQ,A8,BO,BI,BA,AY,BB,AO,AQ,AL,BD,AX,AC,AA,AZ,BG,A7,BN,BR,BZ,AB,J7,↓reduceIte,jB,jG,jA,jC,enP,AQR,f0,f1,f8,JS hb hk',l1]
   refine CU (fun hx => ?_) (fun hx => ?_)
   ·simp -implicitDefEqProofs only [BC,A8,BK,BA,CQ,EE,FK,CJ,AY,BB,AO,AQ,AL,BD,AX,AC,AA,AZ,BG,A7,↓reduceIte,jB,jA,jC]
    exact ⟨by rw [hr k hk' (fun j hj=>hbef j (by omega) hj) hx],trivial⟩
   ·simp -implicitDefEqProofs only [A8,BO,BA,EI,EP,AY,BB,AO,AQ,AL,BD,AX,AC,AA,AZ,AU,BH,BG,BR,AB,DK,↓reduceIte,jB,jA,jC,enP,f8,wrap_succ (show k < 9223372036854775807 by omega)]
    refine ⟨n - 1,by omega,k+1,by omega,by trivial,by trivial,by trivial,rfl,trivial,fun j hj hjk => ?_,by rw [hin,hs,hx,Bool.false_or]⟩
    rcases Nat.lt_or_ge j k with h1 | h1
    ·exact hbef j hj h1
    ·have:j=k:=by omega
     subst this; exact hx
  ·have hk' : ¬ k < xs.length:=by simpa using hc
   simp -implicitDefEqProofs only [BC,A8,BK,DI,BA,ED,EU,EW,CJ,AY,BB,AO,AQ,AL,BD,AX,AC,AA,AU,BH,A7,↓reduceIte,jA,jC]
   refine ⟨?_,trivial⟩
   rw [hr0 (by rw [hin,List.drop_eq_nil_of_le (by omega)]; rfl)]
 by_cases hh:IJ xs v=true
 ·obtain ⟨i,hi⟩ : ∃ i,xs.findIdx? (fun u=>v.toList == u.toList)=some i:=by
   cases he:xs.findIdx? (fun u=>v.toList == u.toList) with
   | some i=>exact ⟨i,rfl⟩
   | none =>
     rw [List.findIdx?_eq_none_iff] at he
     unfold IJ at hh
     rw [List.any_eq_true] at hh
     obtain ⟨x,hx,hz⟩:=hh
     rw [he x hx] at hz; cases hz
  obtain ⟨hil,hiz,hbef⟩:=List.findIdx?_eq_some_iff_getElem.1 hi
  refine ⟨(i:Int),key i (fun k hk hb' hx => ?_) (fun h0=>by rw [hh] at h0; cases h0),by rw [hh]; simp⟩
  rcases Nat.lt_trichotomy i k with h1 | h1 | h1
  ·have:=hb' i h1; rw [hiz] at this; cases this
  ·rw [h1]
  ·have:=hbef k h1; rw [hx] at this; simp at this
 ·have hh':IJ xs v=false:=by simpa using hh
  refine ⟨-1,key (-1) (fun k hk _ hx => ?_) (fun _=>rfl),by rw [hh']; decide⟩
  unfold IJ at hh'
  rw [List.any_eq_false] at hh'
  exact absurd hx (hh' xs[k] (jP hk))
theorem AQZ (G:Nat→AV) (k:Nat) (v:ByteArray) (h:Hp):PCall (En G) 202 [.sl .nil k [],.str v] h (.int .i64 (-1)):=by
 refine acN Tryz.func202 rfl ?_
 show awp _ _ _ _ _ (EJ _ [.tmp 4] _)
 simp -implicitDefEqProofs only [BC,BQ,A8,BA,AY,BB,AO,AQ,AL,BD,AX,AC,AA,AZ,AU,BH,BG,A7,DU,AB,BF,↓reduceIte,jB,jA,jC,enP,AJJ,List.length_nil]
 refine DL (fun n F H=>F 7 = .int .i64 0∧F 8 = .int .i64 0∧H=h) 0 ⟨by simp -implicitDefEqProofs only [AA,↓reduceIte,jB] <;> rfl,by simp -implicitDefEqProofs only [AA,↓reduceIte],rfl⟩ ?_
 rintro n F H ⟨f7,f8,rfl⟩
 have hc:((0:Int) < 0)=False:=by simp
 simp -implicitDefEqProofs only [BC,A8,BK,DI,BI,BA,ED,EU,EW,CJ,D5,AY,BB,AO,AQ,AL,BD,AX,AC,AA,AZ,AU,BH,A7,BR,AB,CW,↓reduceIte,jA,jC,decide_false,enP,f7,f8,hc,decide_false]
 exact ⟨by trivial,trivial⟩
theorem A3D (G:Nat→AV) {h0 h:Hp} {ns:List ByteArray} {u:AV} (ho:outG 1 encStr h0 ns u h) (v:ByteArray) (hl:ns.length≤8388608):PCall (En G) 174 [u,.str v] h (.bool (IJ ns v)):=by
 have hi : ∃ k:Int,PCall (En G) 202 [u,.str v] h (.int .i64 k)∧decide (k≥0)=IJ ns v:=by
  rcases ho with ⟨rfl,rfl⟩ | ⟨_,o,_,rfl,hb⟩
  ·exact ⟨-1,AQZ G 0 v h,rfl⟩
  ·exact AQY G ns o v h hb (by omega)
 obtain ⟨k,hk,hd⟩:=hi
 refine acN Tryz.func174 rfl ?_
 show awp _ _ _ _ _ (EJ _ [.tmp 4] _)
 simp -implicitDefEqProofs only [BC,A8,BA,AY,BB,AO,AQ,AL,BD,AX,AC,AA,AZ,AU,CB,BM,BG,A7,CG,BX,BF,BP,jE,jD,jF,↓reduceIte,jB,jA,jC,enP]
 refine hk.use ?_
 simp -implicitDefEqProofs only [BK,BA,CJ,AY,BB,AO,AQ,AL,BD,AX,AC,AA,AZ,AU,BH,A7,BR,AB,FX,↓reduceIte,jA,jC,enP,hd]
 exact ⟨trivial,trivial⟩
def nmU (ops:List Int) (ns:List ByteArray) (e:Ex):List ByteArray:=if (Rk.hasB ops e.op && !IJ ns e.name)=true then ns ++ [e.name] else ns
def nmL (ops:List Int) (ns:List ByteArray) (l:List Ex):List ByteArray:=l.foldl (nmU ops) ns
theorem AOK (ops:List Int) (ns:List ByteArray) (e:Ex):(nmU ops ns e).length≤ns.length+1:=by
 unfold nmU; split <;> simp
theorem ABG (ops:List Int) : ∀ (l:List Ex) (ns:List ByteArray),(nmL ops ns l).length≤ns.length+l.length
 | [],ns=>by simp [nmL]
 | e :: l,ns=>by
   have h1:=ABG ops l (nmU ops ns e)
   have h2:=AOK ops ns e
   simp only [nmL,List.foldl_cons,List.length_cons] at h1 ⊢
   omega
theorem AXG (ops:List Int) (ns:List ByteArray) (l r:List Ex):nmL ops ns (l ++ r)=nmL ops (nmL ops ns l) r:=List.foldl_append
structure NSt (h0:Hp) (c:Nat) (ns:List ByteArray) (v:AV) (h:Hp):Prop where
 cell:h[c]? = some (.live 1 [[v]])
 out:outG 1 encStr h0 ns v h
 base:h0.length≤c
 ex:ext h0 h
abbrev Cn (c:Nat) (v:AV) (h:Hp) (v':AV) (h':Hp):Prop:=Ch c v .nilfn h v' .nilfn h'
theorem NSt.ne {h0 h:Hp} {c b k:Nat} {ns:List ByteArray} {v:AV} {row:List AV} (s:NSt h0 c ns v h) (hb:h[b]? = some (.live k [row])) (hr:k≠1∨∀ x,row≠[.str x]) : ¬ isB v b:=by
 intro hi
 rcases s.out with ⟨_,rfl⟩ | ⟨hne,o,_,rfl,ho⟩
 ·exact hi
 ·have e:o=b:=hi
  subst e
  rw [ho] at hb
  injection Option.some.inj hb with e1 e2
  rcases hr with hr | hr
  ·exact hr e1.symm
  ·match ns,e2 with
   | [x],e2=>simp [encStr] at e2; exact hr x e2.symm
theorem NSt.app {h0 h:Hp} {c:Nat} {ns:List ByteArray} {v:AV} (s:NSt h0 c ns v h) (x:Hp):NSt h0 c ns v (h ++ x):=⟨FZ s.cell,s.out.app x,s.base,s.ex.app x⟩
theorem NSt.cne {h0 h:Hp} {c:Nat} {ns:List ByteArray} {v:AV} (s:NSt h0 c ns v h) : ¬ isB v c:=by
 refine s.ne s.cell (.inr fun x e => ?_)
 rcases s.out with ⟨_,rfl⟩ | ⟨_,o,_,rfl,_⟩ <;> simp at e
theorem Cn.keep {c b:Nat} {h h':Hp} {v v':AV} {x:ABlk} (hc:Cn c v h v' h') (hb:h[b]? = some x) (hne:b≠c) (hn : ¬ isB v b):h'[b]? = some x:=by
 rw [hc.get b (CE hb) hne hn (fun e=>e)]; exact hb
theorem AHZ (G:Nat→AV) (ops:List Int) (hops:ops.length≤1048576) (h0:Hp) (c ob:Nat) (s0:SM) (e:Ex) (h:Hp) (ns:List ByteArray) (v:AV) (S:NSt h0 c ns v h) (hob:h[ob]? = some (.live 1 [[.sl s0 1 (ops.map qencI)]])) (hn:ns.length < 8388608) :
  ACalls (En G) 258 [.agg (DC e),.ptr ob 0 0,.ptr c 0 0] h fun r h'=>r = .bool true∧∃ v',Cn c v h v' h'∧NSt h0 c (nmU ops ns e) v' h':=by
 refine acN Tryz.func258 rfl ?_
 show awp _ _ _ _ _ (EJ _ [.tmp 4] _)
 have S1:=S.app [ABlk.live 4 [DC e]]
 have hob1:(h ++ [ABlk.live 4 [DC e]])[ob]? = _:=CV hob
 have hC1:Cn c v h v (h ++ [ABlk.live 4 [DC e]]):=Ch.app c v .nilfn h _
 have ge:=CY h (ABlk.live 4 [DC e])
 have hcl:=CE S.cell
 simp -implicitDefEqProofs only [BC,A8,BA,AY,BB,AO,AQ,AL,BD,AX,AC,AA,AZ,AU,BM,A7,FD,BN,BU,BF,BP,↓reduceIte,jB,jA,jC,enP,bxE]
 generalize h ++ [ABlk.live 4 [DC e]]=H at S1 hob1 hC1 ge ⊢
 have l0:D6 Tryz.prog H 3 (.ptr h.length 0 0)=some (.int .i64 e.op):=by rw [DV ag3 ge (row:=DC e) rfl,KH]
 have l2:D6 Tryz.prog H 9 (.ptr h.length 0 2)=some (.str e.name):=by rw [DV ag9 ge (row:=DC e) rfl,QL]
 simp -implicitDefEqProofs only [AY,AO,AQ,AL,BD,AX,AC,AA,AZ,CB,BN,BJ,CG,BX,AB,jE,jD,jF,↓reduceIte,jB,Nat.add_zero,jA,jC,enP,JJ,JR LQ hob1,l0]
 refine (Rk.contains_rank G ops s0 e.op H hops).use ?_
 simp -implicitDefEqProofs only [AY,BL,BV,CO,AO,AQ,AL,BD,AX,AC,AA,AZ,BG,↓reduceIte,jA,jC]
 have key : ∀ b1 b2:Bool,Rk.hasB ops e.op=b1→IJ ns e.name=b2→(b1 && !b2)=false→nmU ops ns e=ns:=fun b1 b2 e1 e2 e3=>by
  unfold nmU; rw [e1,e2,e3]; simp
 cases hb1:Rk.hasB ops e.op
 ·simp -implicitDefEqProofs only [BC,A8,BO,BK,BI,BA,CJ,D5,AY,BB,BL,BV,CO,JK,AO,AQ,AL,BD,AX,AC,AA,EQ,AZ,AU,BM,A7,CP,DR,↓reduceIte,jB,jA,jC]
  exact ⟨trivial,v,hC1,by rw [key _ _ hb1 rfl rfl]; exact S1⟩
 simp -implicitDefEqProofs only [BL,BV,CO,GV,AO,AQ,AL,BD,AX,AC,AA,AZ,CB,BN,BJ,CG,BX,AB,BF,BP,jE,jD,jF,↓reduceIte,jB,jG,jA,jC,enP,MM,JR AR1 S1.cell,l2]
 refine (A3D G S1.out e.name (by omega)).use ?_
 simp -implicitDefEqProofs only [BI,BA,AY,BB,BL,BV,CO,GV,AO,AQ,AL,BD,AX,AC,AA,AZ,AU,BM,CP,DY,G7,AB,ES,↓reduceIte,jB,jA,jC]
 cases hb2:IJ ns e.name
 ·have hu:nmU ops ns e=ns ++ [e.name]:=by unfold nmU; rw [hb1,hb2]; rfl
  obtain ⟨v',H',ha,ho,hk,hex,hle,hnew⟩:=S1.out.append (P:=Tryz.prog) AWG sz9 AV5 AYO (by omega) hn S1.ex e.name
  have ha':GI Tryz.prog true H 65 65 v (.sl .full 1 [[.str e.name]])=some (v',H'):=ha
  have hc':=hk c _ S1.cell S1.cne
  have hcl2:=CE S1.cell
  have hac:JE v'=some [v']:=by
   rcases ho with ⟨_,rfl⟩ | ⟨_,o,_,rfl,_⟩ <;> rfl
  simp -implicitDefEqProofs only [FU,FQ,BC,A8,BK,BA,CJ,DT,AY,BB,AO,AQ,AL,BD,AX,AC,E8,AA,AZ,AU,BM,A7,EK,BN,EN,BJ,G8,BU,AB,DW,BF,BP,↓reduceIte,jB,jG,jA,jC,enP,MM,jT,JR AR1 S1.cell,l2,AU7,ha',QU AZ3 hac hc']
  refine ⟨trivial,v',hC1.trans ⟨by simpa using hle,fun b hb hbc hbv _ => ?_,fun b hb => .inr (by rw [hnew b hb]; exact Nat.le_refl _),fun b hb=>hb.elim⟩,?_⟩
  ·rw [zB,if_neg (fun e=>hbc e.symm),jO hb]
   exact hk b _ (jO hb) hbv
  ·rw [hu]
   exact ⟨ER hc',ho.keep fun b hb=>by rw [zB,if_neg (fun e=>by have:=hnew b hb; omega)],S1.base,hex.set S1.base _⟩
 ·simp -implicitDefEqProofs only [BC,A8,BO,BK,BA,CJ,D5,AY,BB,AO,AQ,AL,BD,AX,AC,AA,AU,BM,A7,↓reduceIte,jA,jU,jC]
  exact ⟨trivial,v,hC1,by rw [key _ _ hb1 hb2 rfl]; exact S1⟩
theorem ATJ (ops:List Int) (ns:List ByteArray) (e:Ex):nmL ops ns (pre e)=nmL ops (nmU ops ns e) (KC e.args):=by rw [pre_eq]; rfl
theorem AMT (G:Nat→AV) (ops:List Int) (hops:ops.length≤1048576) (h0:Hp) (c ob vb db:Nat) (s0:SM) (hv:vb≠c) (hd:db≠c) (hoc:ob≠c) (e:Ex) :
  wt e≤1099511627776→∀ (h:Hp) (ns:List ByteArray) (v:AV),NSt h0 c ns v h→h[ob]? = some (.live 1 [[.sl s0 1 (ops.map qencI)]])→ns.length+(pre e).length≤8388608 →
   h[vb]? = some (.live 1 [[.fn (.func 258) [] [.ptr ob 0 0,.ptr c 0 0]]])→h[db]? = some (.live 1 [[.fn (.func 104) [] [.ptr vb 0 0,.ptr db 0 0]]]) →
   ACalls (En G) 104 [.agg (DC e),.ptr vb 0 0,.ptr db 0 0] h fun r h'=>r = .bool true∧∃ v',Cn c v h v' h'∧NSt h0 c (nmL ops ns (pre e)) v' h':=by
 induction e using Ex.induct with | h e ih => ?_
 intro hw h ns v S hob hlen hvb hdb
 have hcl:=CE S.cell
 have hal:e.args.length≤1099511627776:=by have:=TF e.args; have:=L6 e; omega
 have hpe:(pre e).length=(KC e.args).length+1:=by rw [pre_eq]; rfl
 have hfn : ∀ (k:FuncId) (a b:List AV) (x:ByteArray),[AV.fn (.func k) a b]≠[.str x]:=fun _ _ _ _ q=>by simp at q
 have hsl : ∀ (xs:List (List AV)) (x:ByteArray),[AV.sl s0 1 xs]≠[.str x]:=fun _ _ q=>by simp at q
 refine acN Tryz.func104 rfl ?_
 show awp _ _ _ _ _ (EJ _ [.tmp 4] _)
 have S0:=S.app [ABlk.live 4 [DC e]]
 simp -implicitDefEqProofs only [BC,A8,BA,AY,BB,AO,AQ,AL,BD,AX,AC,AA,AZ,AU,BM,A7,FD,BN,CG,BX,BU,AB,BF,BP,jE,jD,zZ,qB,↓reduceIte,jB,jA,jC,enP,bxE,JR AF0 (CV hvb),ldE]
 refine (AHZ G ops hops h0 c ob s0 e _ ns v S0 (CV hob) (by omega)).mono ?_
 rintro r h1 ⟨rfl,v1,hch,S1⟩
 have hch0:Cn c v h v1 h1:=(Ch.app c v .nilfn h _).trans hch
 have hb3:h1[h.length]? = some (.live 4 [DC e]):=hch.keep (CY _ _) (by omega) (S0.ne (CY _ _) (.inl (by decide)))
 have hvb1:=hch0.keep hvb hv (S.ne hvb (.inr (hfn _ _ _)))
 have hdb1:=hch0.keep hdb hd (S.ne hdb (.inr (hfn _ _ _)))
 have hob1:=hch0.keep hob hoc (S.ne hob (.inr (hsl _)))
 have l3:D6 Tryz.prog h1 46 (.ptr h.length 0 3)=some (.sl e.m 4 (e.args.map DC)):=by rw [DV UQ hb3 (row:=DC e) rfl,AAT]
 have hn1:=AOK ops ns e
 simp -implicitDefEqProofs only [BC,BQ,A8,BO,BI,BA,D5,AY,BB,AO,AQ,AL,BD,AX,AC,AA,AZ,AU,BH,BG,BN,G7,BJ,DU,AB,ES,↓reduceIte,jB,jG,jA,jU,jC,enP,VU,OD,l3,List.length_map]
 refine DL (fun n F H => ∃ j v',n+j=e.args.length∧F 1 = .ptr vb 0 0∧F 2 = .ptr db 0 0∧F 12 = .sl e.m 4 (e.args.map DC)∧F 13 = .int .i64 e.args.length∧F 14 = .int .i64 (j:Nat)∧Cn c v h v' H∧NSt h0 c (nmL ops (nmU ops ns e) (KC (e.args.take j))) v' H∧H[vb]? = some (.live 1 [[.fn (.func 258) [] [.ptr ob 0 0,.ptr c 0 0]]])∧H[db]? = some (.live 1 [[.fn (.func 104) [] [.ptr vb 0 0,.ptr db 0 0]]])∧H[ob]? = some (.live 1 [[.sl s0 1 (ops.map qencI)]])) e.args.length
  ⟨0,v1,by simp,by simp -implicitDefEqProofs only [AA,BF,BP,↓reduceIte,jB],by simp -implicitDefEqProofs only [AA,BF,BP,↓reduceIte,jB],by simp -implicitDefEqProofs only [AA,↓reduceIte,jB],by simp -implicitDefEqProofs only [AA,↓reduceIte,jB],by simp -implicitDefEqProofs only [AA,↓reduceIte]; rfl,hch0,S1,hvb1,hdb1,hob1⟩ ?_
 rintro n F H ⟨j,v',hj,f1,f2,f12,f13,f14,hC,SH,hvH,hdH,hoH⟩
 simp -implicitDefEqProofs only [BC,A8,BI,BA,AY,BB,AO,AQ,AL,BD,AX,AC,AA,AZ,BR,AB,CW,↓reduceIte,jA,jC,enP,f13,f14]
 refine CU (fun hlt => ?_) (fun hlt => ?_)
 ·have hj':j < e.args.length:=by simpa using hlt
  have hmem:e.args[j]∈e.args:=jP hj'
  have hsplit:KC e.args=KC (e.args.take j) ++ (pre e.args[j] ++ KC (e.args.drop (j+1))):=by
   rw [← List.append_assoc,← P7 _ _ hj',← QW,List.take_append_drop]
  have hln:=ABG ops (KC (e.args.take j)) (nmU ops ns e)
  have hls:(KC e.args).length=(KC (e.args.take j)).length+((pre e.args[j]).length+(KC (e.args.drop (j+1))).length):=by rw [hsplit,qA,qA]
  simp -implicitDefEqProofs only [BC,BQ,A8,BO,BA,AY,BB,AO,AQ,AL,BD,AX,AC,E8,AA,AZ,FV,BN,EN,BZ,CG,BX,BU,AB,DW,jE,jD,zZ,qB,↓reduceIte,jB,jA,jC,enP,ZI,jT,f12,f14,DF hj',FT XH MQ IX hj',ABB,AIB _ _ [.int .i64 0,.int .i64 0,.str ⟨#[]⟩,.sl .nil 0 []] rfl,f2,JR AF0 (CV hdH),ldE]
  have SH1:=SH.app [ABlk.live 4 [DC e.args[j]]]
  refine (ih e.args[j] hmem (by have:=TE hmem; have:=L6 e; omega) _ _ v' SH1 (CV hoH) (by omega) (CV hvH) (CV hdH)).mono ?_
  rintro r h2 ⟨rfl,v2,hch2,S2⟩
  have hch2':Cn c v' H v2 h2:=(Ch.app c v' .nilfn H _).trans hch2
  have hvH2:=hch2'.keep hvH hv (SH.ne hvH (.inr (hfn _ _ _)))
  have hdH2:=hch2'.keep hdH hd (SH.ne hdH (.inr (hfn _ _ _)))
  have hoH2:=hch2'.keep hoH hoc (SH.ne hoH (.inr (hsl _)))
  simp -implicitDefEqProofs only [A8,BO,BI,BA,EI,EP,D5,AY,BB,AO,AQ,AL,BD,AX,AC,AA,AZ,AU,BH,BG,BR,G7,AB,DK,ES,↓reduceIte,jB,jA,jU,jC,enP,f1,f2,f12,f13,f14,wrap_succ (show j < 9223372036854775807 by omega)]
  refine ⟨n - 1,by omega,j+1,v2,by omega,trivial,trivial,trivial,trivial,rfl,hC.trans hch2',?_,hvH2,hdH2,hoH2⟩
  rw [P7 _ _ hj',AXG]; exact S2
 ·have hj' : ¬ j < e.args.length:=by simpa using hlt
  simp -implicitDefEqProofs only [BC,A8,BK,DI,BA,ED,EU,EW,CJ,AY,BB,AO,AQ,AL,BD,AX,AC,AA,AU,BM,A7,↓reduceIte,jA,jC]
  rw [List.take_of_length_le (by omega),← ATJ] at SH
  exact ⟨trivial,v',hC,SH⟩
theorem ALF (G:Nat→AV) (ops:List Int) (hops:ops.length≤1048576) (h0:Hp) (c ob:Nat) (s0:SM) (hoc:ob≠c) (e:Ex) (hw:wt e≤1048576) (h:Hp) (ns:List ByteArray) (v:AV) (S:NSt h0 c ns v h) (hob:h[ob]? = some (.live 1 [[.sl s0 1 (ops.map qencI)]])) (hn:ns.length≤1048576) :
  ACalls (En G) 68 [.agg (DC e),.fn (.func 258) [] [.ptr ob 0 0,.ptr c 0 0]] h fun _ h' => ∃ v',Cn c v h v' h'∧NSt h0 c (nmL ops ns (pre e)) v' h':=by
 have hcl:=CE S.cell
 have hol:=CE hob
 refine acN Tryz.func68 rfl ?_
 show awp _ _ _ _ _ (EJ _ [] _)
 generalize hfv:AV.fn (.func 258) [] [.ptr ob 0 0,.ptr c 0 0]=fv
 have hbx : ∀ H:Hp,OM H fv=some (.ptr H.length 0 0,H ++ [.live 1 [[fv]]]):=fun H=>by rw [← hfv]; rfl
 simp -implicitDefEqProofs only [BC,A8,BA,AY,BB,AO,AQ,AL,BD,AX,AC,AA,AZ,FV,FD,EN,IG,BU,BF,BP,jE,jD,↓reduceIte,jB,jA,jC,enP,jT,bxE,hbx,AZT]
 have g0:(h ++ [ABlk.live 4 [DC e]] ++ [ABlk.live 1 [[fv]]] ++ [ABlk.live 1 [[AV.nilfn]]])[(h ++ [ABlk.live 4 [DC e]] ++ [ABlk.live 1 [[fv]]]).length]? = some (.live 1 [[.nilfn]]):=CY _ _
 simp -implicitDefEqProofs only [A8,BA,AY,BB,AO,AQ,AL,BD,AX,E8,AA,AZ,BN,DW,↓reduceIte,jB,jA,jC,enP,QU AZE (AZV _ _ _) g0]
 have S3:=((S.app [ABlk.live 4 [DC e]]).app [ABlk.live 1 [[fv]]]).app [ABlk.live 1 [[AV.nilfn]]]
 have c3:Cn c v h v (h ++ [ABlk.live 4 [DC e]] ++ [ABlk.live 1 [[fv]]] ++ [ABlk.live 1 [[AV.nilfn]]]):=((Ch.app c v .nilfn h _).trans (Ch.app _ _ _ _ _)).trans (Ch.app _ _ _ _ _)
 have v3:(h ++ [ABlk.live 4 [DC e]] ++ [ABlk.live 1 [[fv]]] ++ [ABlk.live 1 [[AV.nilfn]]])[(h ++ [ABlk.live 4 [DC e]]).length]? = some (.live 1 [[fv]]):=CV (CY _ _)
 have e3:(h ++ [ABlk.live 4 [DC e]] ++ [ABlk.live 1 [[fv]]] ++ [ABlk.live 1 [[AV.nilfn]]])[h.length]? = some (.live 4 [DC e]):=CV (CV (CY _ _))
 have o3:(h ++ [ABlk.live 4 [DC e]] ++ [ABlk.live 1 [[fv]]] ++ [ABlk.live 1 [[AV.nilfn]]])[ob]? = some (.live 1 [[.sl s0 1 (ops.map qencI)]]):=CV (CV (CV hob))
 have hdl:(h ++ [ABlk.live 4 [DC e]] ++ [ABlk.live 1 [[fv]]]).length=h.length+2:=by simp
 have hvl:(h ++ [ABlk.live 4 [DC e]]).length=h.length+1:=by simp
 generalize (h ++ [ABlk.live 4 [DC e]] ++ [ABlk.live 1 [[fv]]]).length=db at g0 hdl ⊢
 generalize (h ++ [ABlk.live 4 [DC e]]).length=vb at v3 hvl ⊢
 generalize h ++ [ABlk.live 4 [DC e]] ++ [ABlk.live 1 [[fv]]] ++ [ABlk.live 1 [[AV.nilfn]]]=H at g0 S3 c3 v3 e3 o3 ⊢
 have hdn : ¬ isB v db:=S3.ne g0 (.inr fun x q=>by simp at q)
 generalize hH:H.set db (.live 1 [[AV.fn (.func 104) [] [.ptr vb 0 0,.ptr db 0 0]]])=H'
 have gd:H'[db]? = some (.live 1 [[.fn (.func 104) [] [.ptr vb 0 0,.ptr db 0 0]]]):=by rw [← hH]; exact ER g0
 have gv:H'[vb]? = some (.live 1 [[fv]]):=by rw [← hH]; exact DX v3 (by omega)
 have ge:H'[h.length]? = some (.live 4 [DC e]):=by rw [← hH]; exact DX e3 (by omega)
 have go:H'[ob]? = some (.live 1 [[.sl s0 1 (ops.map qencI)]]):=by rw [← hH]; exact DX o3 (by omega)
 have hb0:=S.ex.le
 have S4:NSt h0 c ns v H':=by
  rw [← hH]
  exact ⟨DX S3.cell (by omega),S3.out.keep fun b hb=>by rw [zB,if_neg (fun q=>hdn (by rw [q]; exact hb))],S3.base,S3.ex.set (by omega) _⟩
 have c4:Cn c v h v H':=by
  rw [← hH]
  exact ⟨by have:=c3.len; simpa using this,fun b hb hbc hbv hbu=>by rw [zB,if_neg (by omega)]; exact c3.get b hb hbc hbv hbu,fun _ q => .inl q,fun _ q => .inl q⟩
 simp -implicitDefEqProofs only [AY,AO,AQ,AL,BD,AX,AC,AA,AZ,BN,CG,BX,AB,jE,jD,zZ,qB,↓reduceIte,jB,jA,jC,enP,JR AF0 gd,N9 ge]
 rw [← hfv] at gv
 have hp:=AGF e
 refine (AMT G ops hops h0 c ob vb db s0 (by omega) (by omega) hoc e (by omega) H' ns v S4 go (by omega) gv gd).mono ?_
 rintro r h' ⟨rfl,v',hch,S5⟩
 simp -implicitDefEqProofs only [ADB,BB,AC]
 exact ⟨v',c4.trans hch,S5⟩
theorem A4F (h:Hp):J8 Tryz.prog h 65=some (.ptr h.length 0 0,h ++ [.live 1 [[.sl .nil 0 []]]]):=JW (row := [.sl .nil 0 []]) (by kernel_rfl)
theorem ACF (G:Nat→AV) (ops:List Int) (hops:ops.length≤1048576) (s0:SM) (e:Ex) (hw:wt e≤1048576) (h:Hp):PCall (En G) 243 [.agg (DC e),.sl s0 1 (ops.map qencI)] h (.sl (nm (nmL ops [] (pre e))) 1 ((nmL ops [] (pre e)).map encStr)):=by
 refine P8 A0T ?_
 refine acN Tryz.func243 rfl ?_
 show awp _ _ _ _ _ (EJ _ [.tmp 4] _)
 have ge:=CV (x:=ABlk.live 1 [[.sl .nil 0 []]]) (CV (x:=ABlk.live 1 [[AV.sl s0 1 (ops.map qencI)]]) (CY h (.live 4 [DC e])))
 have go:=CV (x:=ABlk.live 1 [[.sl .nil 0 []]]) (CY (h ++ [ABlk.live 4 [DC e]]) (ABlk.live 1 [[AV.sl s0 1 (ops.map qencI)]]))
 have gc:=CY (h ++ [ABlk.live 4 [DC e]] ++ [ABlk.live 1 [[AV.sl s0 1 (ops.map qencI)]]]) (ABlk.live 1 [[.sl .nil 0 []]])
 have hx:ext h (h ++ [ABlk.live 4 [DC e]] ++ [ABlk.live 1 [[AV.sl s0 1 (ops.map qencI)]]] ++ [ABlk.live 1 [[.sl .nil 0 []]]]):=(((ext.rfl' h).app _).app _).app _
 have hol:(h ++ [ABlk.live 4 [DC e]]).length=h.length+1:=by simp
 have hcl:(h ++ [ABlk.live 4 [DC e]] ++ [ABlk.live 1 [[AV.sl s0 1 (ops.map qencI)]]]).length=h.length+2:=by simp
 simp -implicitDefEqProofs only [ANB,BC,A8,BA,AY,BB,AO,AQ,AL,BD,AX,AC,AA,AZ,AU,H9,A7,FV,FD,BN,BU,BF,BP,↓reduceIte,jB,jA,jC,enP,bxE,A4F]
 generalize h ++ [ABlk.live 4 [DC e]] ++ [ABlk.live 1 [[AV.sl s0 1 (ops.map qencI)]]] ++ [ABlk.live 1 [[.sl .nil 0 []]]]=H at ge go gc hx ⊢
 generalize (h ++ [ABlk.live 4 [DC e]] ++ [ABlk.live 1 [[AV.sl s0 1 (ops.map qencI)]]]).length=c at gc hcl ⊢
 generalize (h ++ [ABlk.live 4 [DC e]]).length=ob at go hol ⊢
 simp -implicitDefEqProofs only [AY,AO,AQ,AL,BD,AX,AC,AA,AZ,CB,IG,CG,BX,AB,jE,jD,jF,↓reduceIte,jB,jA,jC,N9 ge]
 have S:NSt h c [] (.sl .nil 0 []) H:=⟨gc,outG.nil _ _ _ _,by omega,hx⟩
 refine (ALF G ops hops h c ob s0 (by omega) e hw H [] _ S go (by simp)).mono ?_
 rintro r h' ⟨v',hch,S5⟩
 simp -implicitDefEqProofs only [BC,A8,BK,BA,CJ,AY,BB,AO,AQ,AL,BD,AX,AC,AA,AZ,A7,BN,AB,↓reduceIte,jB,jA,jC,enP,JR AR1 S5.cell]
 exact ⟨S5.ex,S5.out⟩
theorem A3N (h:Hp) (a b:Int):EZ Tryz.prog false h 26 2 [(0,.int .i64 a),(1,.int .i64 b)]=some (.sl .full 1 [[.int .i64 a],[.int .i64 b]],h):=by kernel_rfl
theorem ANR (G:Nat→AV) (e:Ex) (hw:wt e≤1048576) (h:Hp):PCall (En G) 216 [.agg (DC e)] h (.sl (nm (nmL [2] [] (pre e))) 1 ((nmL [2] [] (pre e)).map encStr)):=by
 refine ACalls.pure0 rfl ?_
 refine acN Tryz.func216 rfl ?_
 show awp _ _ _ _ _ (EJ _ [.tmp 2] _)
 simp -implicitDefEqProofs only [FU,FQ,BC,A8,BA,AY,BB,AO,AQ,AL,BD,AX,AC,AA,AZ,AU,CB,BH,H9,A7,FD,EK,BN,CG,BX,BU,AB,BF,jE,jD,jF,↓reduceIte,jB,jA,jC,enP,bxE,ldE,AM9]
 refine (ACF G [2] (by decide) .full e hw _).use ?_
 simp -implicitDefEqProofs only [BK,BA,CJ,AY,BB,AO,AQ,AL,BD,AX,AC,AA,AZ,A7,↓reduceIte,jA,jC]
 exact ⟨trivial,_,rfl⟩
theorem ALA (G:Nat→AV) (e:Ex) (hw:wt e≤1048576) (h:Hp):PCall (En G) 218 [.agg (DC e)] h (.sl (nm (nmL [3,24] [] (pre e))) 1 ((nmL [3,24] [] (pre e)).map encStr)):=by
 refine ACalls.pure0 rfl ?_
 refine acN Tryz.func218 rfl ?_
 show awp _ _ _ _ _ (EJ _ [.tmp 2] _)
 simp -implicitDefEqProofs only [FU,FQ,BC,A8,BA,AY,BB,AO,AQ,AL,BD,AX,AC,AA,AZ,AU,CB,BH,H9,A7,FD,EK,BN,CG,BX,BU,AB,BF,jE,jD,jF,↓reduceIte,jB,jA,jC,enP,bxE,ldE,A3N]
 refine (ACF G [3,24] (by decide) .full e hw _).use ?_
 simp -implicitDefEqProofs only [BK,BA,CJ,AY,BB,AO,AQ,AL,BD,AX,AC,AA,AZ,A7,↓reduceIte,jA,jC]
 exact ⟨trivial,_,rfl⟩
end Go.Proofs.YtfpagfhhhlljjaaGreatDoor.Xe
set_option linter.unusedSimpArgs false
set_option maxRecDepth 8000
namespace Go.Proofs.YtfpagfhhhlljjaaGreatDoor.Xe
open Sm Bins Cov Wd Go.RowKit
open Bool renaming not_false→jC,not_true→jU,true_and→qJ
open Int renaming reduceBEq→qG
open List renaming drop_eq_getElem_cons→zH,all_cons→wQ,length_map→jH,map_cons→jE,map_nil→jD,append_nil→jF,drop_eq_nil_of_le→jX,getElem?_cons_zero→zL,getElem?_cons_succ→zQ,getD_eq_getElem?_getD→zW,getElem?_eq_getElem→jO,getElem_mem→jP,mem_map→zN,mem_cons_of_mem→wO
open Nat renaming le_refl→jL,le_of_ble_eq_true→jI,reduceEqDiff→jB,add_zero→jK,zero_add→jG,mod_lt→qP,reduceAdd→jM
open Option renaming getD_some→jA,getD_none→jT
abbrev Sg:=ByteArray × Int
def I5 (s:Sg):List AV := [.str s.1,.int .i64 s.2]
theorem AQ9 (s:Sg):(I5 s).length=2:=rfl
def A4R (s:Sg):Prop := -9223372036854775808≤s.2∧s.2≤9223372036854775807
def OQ:List Sg→ByteArray→Nat × Bool
 | [],_=>(0,false)
 | s :: l,n=>if (s.1.toList == n.toList)=true then (wW s.2,true) else OQ l n
theorem AC4 : ∀ (l:List Sg) (n:ByteArray),(OQ l n).1 < 65536
 | [],_=>by simp [OQ]
 | s :: l,n=>by unfold OQ; split; exact AN2 _; exact AC4 l n
theorem AMO (l:List Sg) (n:ByteArray) (k:Nat) (hk:k < l.length):OQ (l.drop k) n=if (l[k].1.toList == n.toList)=true then (wW l[k].2,true) else OQ (l.drop (k+1)) n:=by
 rw [zH hk]; rfl
def V5 (p:Nat × Bool):AV := .tup [.int .i64 (p.1:Nat),.bool p.2]
theorem AI8 (p:Nat × Bool) (n:Nat) (H:Hp):IR n H 2 (V5 p)=V5 p:=rfl
theorem A4E (h:Hp):J8 Tryz.prog h 59=some (.ptr h.length 0 0,h ++ [.live 2 [[.str ⟨#[]⟩,.int .i64 0]]]):=JW (row := [.str ⟨#[]⟩,.int .i64 0]) (by kernel_rfl)
theorem A15 (h:Hp) (s:Sg):FM Tryz.prog (h ++ [.live 2 [[.str ⟨#[]⟩,.int .i64 0]]]) 59 (.ptr h.length 0 0) (.agg (I5 s))=some (h ++ [.live 2 [I5 s]]):=by
 rw [NJ (cs:=I5 s) (row := [.str ⟨#[]⟩,.int .i64 0]) rfl AZ4 (CY _ _) (by exact jL 2),ABD]
 rfl
theorem AKQ (h:Hp) (u:AV) (hu:u.leaf=true):OM h (.agg [u])=some (.ptr h.length 0 0,h ++ [ABlk.live 1 [[u]]]):=TZ (by simp only [wQ,hu,List.all_nil]; rfl)
theorem V8 {h:Hp} {b:Nat} {u:AV} (hb:h[b]? = some (.live 1 [[u]])):D6 Tryz.prog h 205 (.ptr b 0 0)=some (.agg [u]):=by
 rw [IE A4L AZC hb rfl (by exact jL 1)]; rfl
theorem ADU {P:Program} {t:TypeId} {a b:ByteArray} (h:a.size+b.size≤9223372036854775807):JV P t .add (.str a) (.str b)=some (.str (a ++ b)):=by
 show ANJ .add a b=_
 unfold ANJ
 have:((a.size+b.size:Nat):Int)≤IntKind.i64.max:=by
  show _≤(9223372036854775807:Int)
  omega
 simp only [if_pos this]
section
variable (G:Nat→AV)
theorem ZP (l:List Sg) (m:SM) (n:ByteArray) (h:Hp) (hl:l.length≤1099511627776):PCall (En G) 217 [.agg [.sl m 2 (l.map I5)],.str n] h (V5 (OQ l n)):=by
 refine AOF 2 (AI8 _) ?_
 refine acN Tryz.func217 rfl ?_
 show awp _ _ _ _ _ (EJ _ [.tmp 4,.tmp 5] _)
 simp -implicitDefEqProofs only [BC,BQ,A8,BA,AY,BB,AO,AQ,AL,BD,AX,AC,AA,AZ,AU,BH,BM,BG,A7,FD,BN,BJ,DU,BU,AB,BF,↓reduceIte,jB,jK,jA,jC,enP,A47,AX0,AKQ h (.sl m 2 (l.map I5)) rfl,JR A4H (CY h (ABlk.live 1 [[.sl m 2 (l.map I5)]])),jH]
 refine DL (fun k F H => ∃ j,k+j=l.length∧F 1 = .str n∧F 9 = .sl m 2 (l.map I5)∧F 10 = .int .i64 (l.length:Nat)∧F 11 = .int .i64 (j:Nat)∧ext h H∧OQ l n=OQ (l.drop j) n) l.length ⟨0,by simp,by simp -implicitDefEqProofs only [AA,BF,BP,↓reduceIte,jB],by simp -implicitDefEqProofs only [AA,↓reduceIte,jB],by simp -implicitDefEqProofs only [AA,↓reduceIte,jB],by simp -implicitDefEqProofs only [AA,↓reduceIte]; rfl,(ext.rfl' h).app _,rfl⟩ ?_
 rintro k F H ⟨j,hj,f1,f9,f10,f11,hx,hf⟩
 simp -implicitDefEqProofs only [BC,A8,BI,BA,AY,BB,AO,AQ,AL,BD,AX,AC,AA,AZ,BR,AB,CW,↓reduceIte,jA,jC,enP,f10,f11]
 refine CU (fun hc => ?_) (fun hc => ?_)
 ·have hj':j < l.length:=by simpa using hc
  have g:=CY H (ABlk.live 2 [I5 l[j]])
  have l0:D6 Tryz.prog (H ++ [ABlk.live 2 [I5 l[j]]]) 9 (.ptr H.length 0 0)=some (.str l[j].1):=by rw [DV ag9 g (row:=I5 l[j]) rfl]; rfl
  have l1:D6 Tryz.prog (H ++ [ABlk.live 2 [I5 l[j]]]) 3 (.ptr H.length 0 1)=some (.int .i64 l[j].2):=by rw [DV ag3 g (row:=I5 l[j]) rfl]; rfl
  rw [AMO l n j hj'] at hf
  simp -implicitDefEqProofs only [BC,BQ,A8,BO,BI,BA,AY,BB,AO,AQ,AL,BD,AX,AC,E8,AA,AZ,BG,FV,BN,EN,BR,BJ,BZ,BU,AB,DW,J7,↓reduceIte,jB,jK,jA,jC,enP,A0Z,A5G,jT,f1,f9,f11,DF hj',FT A54 AZ4 AQ9 hj',A4E,A15,l0]
  refine CU (fun hb => ?_) (fun hb => ?_)
  ·simp -implicitDefEqProofs only [BC,A8,AY,AO,AQ,AL,BD,AX,AC,AA,AZ,CB,BN,BJ,CG,BX,AB,jE,jD,jF,↓reduceIte,jB,jG,jA,jC,enP,A0Y,l1]
   refine (APK G _ _).use ?_
   simp -implicitDefEqProofs only [BK,BA,CQ,EE,FK,J3,AY,BB,AO,AQ,AL,BD,AX,AC,AA,AZ,AU,BM,A7,↓reduceIte,jB,jA,jC]
   exact ⟨by rw [hf,if_pos hb]; rfl,hx.app _⟩
  ·simp -implicitDefEqProofs only [A8,BO,BA,EI,EP,AY,BB,AO,AQ,AL,BD,AX,AC,AA,AZ,AU,BH,BG,BR,AB,DK,↓reduceIte,jB,jA,jC,enP,f11,wrap_succ (show j < 9223372036854775807 by omega)]
   exact ⟨k - 1,by omega,j+1,by omega,by trivial,by trivial,by trivial,rfl,hx.app _,by rw [hf,if_neg (by rw [hb]; decide)]⟩
 ·have hj' : ¬ j < l.length:=by simpa using hc
  simp -implicitDefEqProofs only [BC,A8,BK,DI,BA,ED,EU,EW,J3,AY,BB,AO,AQ,AL,BD,AX,AC,AA,AU,BH,BM,A7,↓reduceIte,jB,jA,jC]
  exact ⟨by rw [hf,jX (by omega)]; rfl,hx⟩
def elN (a:ByteArray) (i:Nat):ByteArray:=a ++ (⟨#[91]⟩:ByteArray) ++ (⟨#[UInt8.ofNat (48+i)]⟩:ByteArray) ++ (⟨#[93]⟩:ByteArray)
def atG (l:List Sg) (a:ByteArray) (i:Int):Nat × Bool:=if i < 0∨i≥8 then (0,false) else OQ l (elN a i.toNat)
theorem AVI (l:List Sg) (a:ByteArray) (i:Int):(atG l a i).1 < 65536:=by unfold atG; split; decide; exact AC4 _ _
theorem AUN : ∀ i:Nat,i < 8→VJ Tryz.prog 100 9 (.sl .full 1 [[.int .u8 (IntKind.u8.wrap (IntKind.i64.wrap (48+(i:Int))))]])=some (.str ⟨#[UInt8.ofNat (48+i)]⟩)
 | 0,_=>by kernel_rfl
 | 1,_=>by kernel_rfl
 | 2,_=>by kernel_rfl
 | 3,_=>by kernel_rfl
 | 4,_=>by kernel_rfl
 | 5,_=>by kernel_rfl
 | 6,_=>by kernel_rfl
 | 7,_=>by kernel_rfl
 | n+8,h=>absurd h (by omega)
theorem A3V (h:Hp) (v:Int):EZ Tryz.prog false h 100 1 [(0,.int .u8 v)]=some (.sl .full 1 [[.int .u8 v]],h):=by kernel_rfl
theorem AHH (a b:ByteArray):(a ++ b).size=a.size+b.size:=ByteArray.size_append
theorem AHJ (l:List Sg) (m:SM) (a:ByteArray) (i:Int) (h:Hp) (hl:l.length≤1099511627776) (ha:a.size≤1048576):PCall (En G) 219 [.agg [.sl m 2 (l.map I5)],.str a,.int .i64 i] h (V5 (atG l a i)):=by
 refine AOF 2 (AI8 _) ?_
 refine acN Tryz.func219 rfl ?_
 show awp _ _ _ _ _ (EJ _ [.tmp 6,.tmp 7] _)
 have hx:ext h (h ++ [ABlk.live 1 [[.sl m 2 (l.map I5)]]]):=(ext.rfl' h).app _
 simp -implicitDefEqProofs only [BC,A8,BA,AY,BB,BL,BV,CO,AO,AQ,AL,BD,AX,AC,AA,AZ,AU,BH,BM,BG,A7,FD,BR,BU,AB,CW,BF,BP,↓reduceIte,jB,jA,jC,enP,AKQ h (.sl m 2 (l.map I5)) rfl]
 cases h1:decide (i < 0)
 ·cases h2:decide (i≥8)
  ·have h1' : ¬ i < 0:=by simpa using h1
   have h2' : ¬ i≥8:=by simpa using h2
   obtain ⟨k,rfl⟩:=Int.eq_ofNat_of_zero_le (show 0≤i by omega)
   have hk:k < 8:=by omega
   have e1:JV Tryz.prog 9 .add (.str a) (.str ⟨#[91]⟩)=_:=ADU (by show a.size+1≤_; omega)
   have e2:JV Tryz.prog 9 .add (.str (a ++ (⟨#[91]⟩:ByteArray))) (.str ⟨#[UInt8.ofNat (48+k)]⟩)=_:=ADU (by rw [AHH]; show a.size+1+1≤_; omega)
   have e3:JV Tryz.prog 9 .add (.str (a ++ (⟨#[91]⟩:ByteArray) ++ (⟨#[UInt8.ofNat (48+k)]⟩:ByteArray))) (.str ⟨#[93]⟩)=_:=ADU (by rw [AHH,AHH]; show a.size+1+1+1≤_; omega)
   simp -implicitDefEqProofs only [FU,FQ,BC,A8,BO,BI,BA,D5,AY,BB,BL,BV,CO,EM,AO,AQ,AL,BD,AX,AC,AA,AZ,AU,CB,BH,BM,IA,BG,CP,DR,EK,BN,BR,Y3,CG,BX,BU,AB,DK,FX,BF,BP,jE,jD,jF,↓reduceIte,jB,jA,jC,enP,A3C,h2,V8 (CY h (ABlk.live 1 [[.sl m 2 (l.map I5)]])),e1,A3V,AUN k hk,e2,e3]
   refine (ZP G l m _ _ hl).use ?_
   unfold V5
   simp -implicitDefEqProofs only [zL,zQ,BK,BA,J3,AY,BB,AO,AQ,AL,BD,AX,AC,AA,AZ,A7,FY,IP,AB,↓reduceIte,jB,jA,jC]
   exact ⟨by unfold atG; rw [if_neg (by omega)]; rfl,hx⟩
  ·simp -implicitDefEqProofs only [BC,A8,BK,BI,BA,CQ,J3,DT,AY,BB,BL,BV,CO,EM,AO,AQ,AL,BD,AX,AC,AA,AZ,AU,BH,BM,BG,A7,CP,DR,BR,AB,FX,BF,BP,↓reduceIte,jB,jA,jC,enP,h2]
   have h2':i≥8:=by simpa using h2
   exact ⟨by unfold atG; rw [if_pos (.inr h2')]; rfl,hx⟩
 ·simp -implicitDefEqProofs only [BC,A8,BK,BI,BA,CQ,J3,DT,AY,BB,BL,BV,CO,FP,AO,AQ,AL,BD,AX,AC,AA,EQ,AZ,AU,BH,BM,A7,CP,DY,↓reduceIte,jB,jA,jC]
  have h1':i < 0:=by simpa using h1
  exact ⟨by unfold atG; rw [if_pos (.inl h1')]; rfl,hx⟩
def sumTo (l:List Sg) (a:ByteArray):Nat→Nat
 | 0=>0
 | k+1=>(sumTo l a k+(atG l a (k:Nat)).1) % 65536
theorem AH8 (l:List Sg) (a:ByteArray) (k:Nat):sumTo l a k < 65536:=by
 cases k with
 | zero=>show 0 < 65536; decide
 | succ k=>exact qP _ (by omega)
theorem ASN (l:List Sg) (m:SM) (a:ByteArray) (h:Hp) (hl:l.length≤1099511627776) (ha:a.size≤1048576):PCall (En G) 220 [.agg [.sl m 2 (l.map I5)],.str a] h (.int .i64 (sumTo l a 8:Nat)):=by
 refine ACalls.pure0 rfl ?_
 refine acN Tryz.func220 rfl ?_
 show awp _ _ _ _ _ (EJ _ [.tmp 4] _)
 have g:=CY h (ABlk.live 1 [[.sl m 2 (l.map I5)]])
 simp -implicitDefEqProofs only [BC,BQ,A8,BA,AY,BB,AO,AQ,AL,BD,AX,AC,AZ,AU,BH,BG,A7,FD,BU,BF,jA,jC,enP,AKQ h (.sl m 2 (l.map I5)) rfl]
 generalize hH:h ++ [ABlk.live 1 [[.sl m 2 (l.map I5)]]]=H at g ⊢
 refine DL (fun k F H' => ∃ j,k+j=8∧F 1 = .str a∧F 2 = .ptr h.length 0 0∧F 5 = .int .i64 (sumTo l a j:Nat)∧F 9 = .int .i64 (j:Nat)∧H'=H) 8 ⟨0,by simp,by simp -implicitDefEqProofs only [AA,BF,BP,↓reduceIte,jB],by simp -implicitDefEqProofs only [AA,↓reduceIte,jB],by simp -implicitDefEqProofs only [AA,↓reduceIte,jB] <;> rfl,by simp -implicitDefEqProofs only [AA,↓reduceIte] <;> rfl,rfl⟩ ?_
 rintro k F H' ⟨j,hj,f1,f2,f5,f9,rfl⟩
 simp -implicitDefEqProofs only [BC,A8,BI,BA,AY,BB,AO,AQ,AL,BD,AX,AC,AA,AZ,AU,BH,BR,AB,CW,↓reduceIte,jA,jC,enP,f9]
 refine CU (fun hc => ?_) (fun hc => ?_)
 ·have hj':j < 8:=by simp at hc; omega
  simp -implicitDefEqProofs only [BC,BQ,A8,BO,BA,AY,BB,AO,AQ,AL,BD,AX,AC,AA,AZ,CB,BG,A7,BN,CG,BX,AB,jE,jD,jF,↓reduceIte,jB,jA,jC,enP,f1,f2,f9,V8 g]
  refine (AHJ G l m a (j:Nat) H' hl ha).use ?_
  unfold V5
  simp -implicitDefEqProofs only [zL,zQ,A8,BA,AY,BB,AO,AQ,AL,BD,AX,AC,AA,AZ,CB,BG,A7,FY,IP,CG,BX,AB,jE,jD,jF,↓reduceIte,jB,jA,jC,f5]
  refine (AZU G _ _ (AH8 l a j) (AVI l a (j:Nat)) H').use ?_
  simp -implicitDefEqProofs only [A8,BA,EI,EP,AY,BB,AO,AQ,AL,BD,AX,AC,AA,AZ,AU,BH,BG,A7,BR,AB,DK,↓reduceIte,jB,jA,jC,enP,f1,f2,f9,wrap_succ (show j < 9223372036854775807 by omega)]
  exact ⟨k - 1,by omega,j+1,by omega,by trivial,by trivial,by trivial,by trivial,trivial⟩
 ·have hj':j=8:=by simp at hc; omega
  subst hj'
  simp -implicitDefEqProofs only [BC,A8,BK,DI,BA,ED,EU,EW,CJ,AY,BB,AO,AQ,AL,BD,AX,AC,AA,AZ,BG,A7,↓reduceIte,jB,jA,jC,f5]
  exact ⟨trivial,_,hH.symm⟩
end
def AJN (x:Nat):List Nat→Bool
 | a :: b :: r=>(decide (a≤x) && decide (x≤b)) || AJN x r
 | _=>false
def opW (op:Int) (vs:List Nat):Nat :=
 if op=22 then (if vs.getD 0 0≠0 then vs.getD 1 0 else vs.getD 2 0) else if op=23 then tr (AJN (vs.getD 0 0) (vs.drop 1))
 else if vs.length=1 then sgW op (vs.getD 0 0) else dbW op (vs.getD 0 0) (vs.getD 1 0)
theorem getD_lt {vs:List Nat} (hv : ∀ x∈vs,x < 65536) (k:Nat):vs.getD k 0 < 65536:=by
 rw [zW]
 rcases Nat.lt_or_ge k vs.length with h | h
 ·rw [jO h]; exact hv _ (jP h)
 ·rw [List.getElem?_eq_none h]; decide
theorem A0J (op:Int) {vs:List Nat} (hv : ∀ x∈vs,x < 65536):opW op vs < 65536:=by
 unfold opW
 have h0:=getD_lt hv 0
 have h1:=getD_lt hv 1
 have h2:=getD_lt hv 2
 split
 ·split <;> assumption
 split
 ·exact XO _
 split
 ·exact A0C h0
 ·exact A05 h0 h1
theorem AQW (x:Nat) (l:List Nat) (k:Nat) (hk:k+1 < l.length):AJN x (l.drop k)=((decide (l[k]≤x) && decide (x≤l[k+1])) || AJN x (l.drop (k+2))):=by
 rw [zH (by omega:k < l.length),zH hk]; rfl
theorem AT1 (x:Nat) (l:List Nat) (k:Nat) (hk:l.length≤k+1):AJN x (l.drop k)=false:=by
 have:(l.drop k).length≤1:=by simp; omega
 match hm:l.drop k,this with
 | [],_=>rfl
 | [a],_=>rfl
theorem gec (a b:Nat):decide ((a:Int)≥(b:Int))=decide (b≤a):=lec b a
def AVY (op:Int) (n:Nat):Prop:=(op=22→n=3)∧(op=23→n % 2=1∧3≤n)∧(op≠22→op≠23→n=1∨n=2)
set_option maxHeartbeats 2000000 in
theorem AQA (G:Nat→AV) (op:Int) (vs:List Nat) (o:Nat) (H:Hp) (ho:H[o]? = some (.live 1 (vs.map J9))) (hv : ∀ x∈vs,x < 65536) (hl:vs.length≤1048576) (hops:AVY op vs.length) :
  PCall (En G) 221 [.int .i64 op,.own o 0 vs.length] H (.int .i64 (opW op vs:Nat)):=by
 have hix : ∀ k:Nat,k < vs.length→JX 1 H (.own o 0 vs.length) (.int .i64 (k:Nat))=some (.ptr o k 0):=fun k hk=>by rw [JS ho hk,jG]
 have hld : ∀ (k:Nat) (hk:k < vs.length),D6 Tryz.prog H 3 (.ptr o k 0)=some (.int .i64 (vs[k]:Nat)):=fun k hk=>by rw [DV ag3 ho (row:=J9 vs[k]) (row_map hk)]; rfl
 have h1:1≤vs.length:=by
  obtain ⟨a,b,c⟩:=hops
  by_cases e:op=22
  ·have:=a e; omega
  by_cases e':op=23
  ·have:=b e'; omega
  ·have:=c e e'; omega
 have i0:JX 1 H (.own o 0 vs.length) (.int .i64 0)=some (.ptr o 0 0):=hix 0 h1
 have d0:=hld 0 h1
 have g0:vs.getD 0 0=vs[0]:=by rw [zW,jO h1]; rfl
 have v0:vs[0] < 65536:=hv _ (jP _)
 refine acN Tryz.func221 rfl ?_
 show awp _ _ _ _ _ (EJ _ [.tmp 4] _)
 by_cases e22:op=22
 ·subst e22
  have hl3:vs.length=3:=hops.1 rfl
  have i1:JX 1 H (.own o 0 vs.length) (.int .i64 1)=some (.ptr o 1 0):=hix 1 (by omega)
  have i2:JX 1 H (.own o 0 vs.length) (.int .i64 2)=some (.ptr o 2 0):=hix 2 (by omega)
  have d1:=hld 1 (by omega)
  have d2:=hld 2 (by omega)
  have g1:vs.getD 1 0=vs[1]:=by rw [zW,jO (by omega)]; rfl
  have g2:vs.getD 2 0=vs[2]:=by rw [zW,jO (by omega)]; rfl
  simp -implicitDefEqProofs only [BC,BQ,A8,BI,BA,DT,AY,BB,AO,AQ,AL,BD,AX,AC,AA,AZ,AU,BH,BG,A7,BN,BR,BZ,AB,EG,ET,BF,BP,↓reduceIte,jB,jA,jC,enP,JB,qG,i0,d0,eqz,nez]
  cases hz:(vs[0] == 0)
  ·simp -implicitDefEqProofs only [BC,A8,BK,BA,CQ,EE,CJ,DT,AY,BB,AO,AQ,AL,BD,AX,AC,AA,AZ,AU,BH,BG,A7,BN,BZ,AB,BF,BP,↓reduceIte,jB,jA,jC,enP,JB,i1,d1]
   have:vs[0]≠0:=by simpa using hz
   exact ⟨by unfold opW; rw [if_pos rfl,g0,if_pos this,g1],trivial⟩
  ·simp -implicitDefEqProofs only [BC,A8,BO,BK,BA,CQ,EE,CJ,D5,AY,BB,AO,AQ,AL,BD,AX,AC,AA,AZ,AU,BH,BG,A7,BN,BZ,AB,BF,BP,↓reduceIte,jB,jA,jU,jC,enP,JB,i2,d2]
   have : ¬ vs[0]≠0:=by simpa using hz
   exact ⟨by unfold opW; rw [if_pos rfl,g0,if_neg this,g2],trivial⟩
 by_cases e23:op=23
 ·subst e23
  obtain ⟨hodd,h3⟩:=hops.2.1 rfl
  simp -implicitDefEqProofs only [BC,BQ,A8,BI,BA,DT,D5,AY,BB,AO,AQ,AL,BD,AX,AC,AA,AZ,AU,BH,BG,A7,BR,AB,EG,BF,↓reduceIte,jB,jA,jC,enP,qG]
  have hval:opW 23 vs=tr (AJN vs[0] (vs.drop 1)):=by unfold opW; rw [if_neg (by decide),if_pos rfl,g0]
  rw [hval]
  refine DL (fun n F H' => ∃ j,n+j=vs.length∧j % 2=1∧F 1 = .own o 0 vs.length∧F 5 = .int .i64 (j:Nat)∧H'=H∧AJN vs[0] (vs.drop 1)=AJN vs[0] (vs.drop j)) (vs.length - 1) ⟨1,by omega,rfl,by simp -implicitDefEqProofs only [AA,BF,BP,↓reduceIte,jB],by simp -implicitDefEqProofs only [AA,↓reduceIte] <;> rfl,rfl,rfl⟩ ?_
  rintro n F H' ⟨j,hj,hj2,f1,f5,rfl,hin⟩
  simp -implicitDefEqProofs only [BC,A8,BI,BA,AY,BB,AO,AQ,AL,BD,AX,AC,AA,AZ,AU,BH,BG,BR,DU,AB,DK,CW,↓reduceIte,jB,jA,jC,enP,JG,f1,f5,wrap_succ (show j < 9223372036854775807 by omega)]
  refine CU (fun hc => ?_) (fun hc => ?_)
  ·have hc':j+1 < vs.length:=by simp at hc; omega
   have ij:=hix j (by omega)
   have ij1:=hix (j+1) hc'
   have dj:=hld j (by omega)
   have dj1:=hld (j+1) hc'
   rw [AQW _ _ _ hc'] at hin
   have e2:IntKind.i64.wrap (((j:Nat):Int)+2)=((j+2:Nat):Int):=by rw [wrap_i64 (by omega) (by omega)]; omega
   have es:IntKind.i64.wrap (((j:Nat):Int)+1)=((j+1:Nat):Int):=wrap_succ (show j < 9223372036854775807 by omega)
   simp -implicitDefEqProofs only [BC,BQ,BO,BA]
   refine EX (by kernel_rfl) ?_
   simp -implicitDefEqProofs only [F6,EF,DZ,EH,FH,GK,FI,FB,IB,EC,CO,AO,AA,AZ,AU,BH,BN,BR,BZ,AB,KA,↓reduceIte,jB,jM,jA,enP,JB,f1,f5,i0,d0,ij,dj,es,ij1,dj1,lec,gec]
   cases ha:decide (vs[j]≤vs[0])
   ·simp -implicitDefEqProofs only [F6,EF,DZ,FC,EH,FH,GK,AF5,I7,A8,BO,BI,BA,EI,EP,D5,AY,BB,CO,AO,AQ,AL,BD,AX,AC,AA,EQ,AZ,AU,BH,BM,BG,A7,CP,DR,BR,AB,DK,↓reduceIte,jB,jM,jA,jC,enP,ha,f5,e2]
    exact ⟨n - 2,by omega,j+2,by omega,by omega,by trivial,by first | rfl | trivial,trivial,by rw [hin,ha]; rfl⟩
   ·cases hb:decide (vs[0]≤vs[j+1])
    ·simp -implicitDefEqProofs only [F6,EF,DZ,FC,EH,FH,GK,PQ,FI,I7,FB,IB,EC,A8,BO,BI,BA,EI,EP,D5,AY,BB,CO,AO,AQ,AL,BD,AX,AC,AA,AZ,AU,BH,BM,BG,A7,CP,DY,BN,BR,BZ,AB,DK,KA,↓reduceIte,jB,jM,jA,jC,enP,JB,ha,hb,f1,f5,es,ij1,dj1,lec,i0,d0,e2]
     exact ⟨n - 2,by omega,j+2,by omega,by omega,by trivial,by first | rfl | trivial,trivial,by rw [hin,ha,hb]; rfl⟩
    ·simp -implicitDefEqProofs only [F6,EF,DZ,FC,EH,FH,GK,PQ,FI,I7,FB,IB,EC,BC,A8,BK,BI,BA,CQ,EE,FK,CJ,DT,AY,BB,CO,AO,AQ,AL,BD,AX,AC,AA,AZ,AU,BH,BM,A7,CP,DY,BN,BR,BZ,AB,DK,KA,↓reduceIte,jB,jM,jA,jC,enP,JB,ha,hb,f1,f5,es,ij1,dj1,lec,i0,d0]
     exact ⟨by rw [hin,ha,hb]; rfl,trivial⟩
  ·have hc':vs.length≤j+1:=by simp at hc; omega
   simp -implicitDefEqProofs only [BC,A8,BK,DI,BA,ED,CQ,EE,EU,EW,CJ,AY,BB,AO,AQ,AL,BD,AX,AC,AA,AU,BH,A7,↓reduceIte,jA,jC]
   exact ⟨by rw [hin,AT1 _ _ _ hc']; rfl,trivial⟩
 ·have n12:=hops.2.2 e22 e23
  have c1:(op == 22)=false:=beq_eq_false_iff_ne.2 e22
  have c2:(op == 23)=false:=beq_eq_false_iff_ne.2 e23
  have hval:opW op vs=if vs.length=1 then sgW op (vs.getD 0 0) else dbW op (vs.getD 0 0) (vs.getD 1 0):=by unfold opW; rw [if_neg e22,if_neg e23]
  rw [hval]
  simp -implicitDefEqProofs only [BC,BQ,A8,BO,BI,BA,EI,D5,AY,BB,AO,AQ,AL,BD,AX,AC,AA,AZ,AU,BH,BG,A7,BR,DU,AB,EG,BF,BP,↓reduceIte,jB,jA,jC,enP,JG,c1,c2]
  refine CU (fun hc => ?_) (fun hc => ?_)
  ·have hl1:vs.length=1:=by simp at hc; omega
   simp -implicitDefEqProofs only [BC,A8,AY,AO,AQ,AL,BD,AX,AC,AA,AZ,AU,CB,BH,BG,BN,BZ,CG,BX,AB,BF,BP,jE,jD,jF,↓reduceIte,jB,jA,jC,enP,JB,i0,d0]
   refine (AII G op _ v0 H).use ?_
   simp -implicitDefEqProofs only [BK,BA,CQ,CJ,AY,BB,AO,AQ,AL,BD,AX,AC,AA,AZ,A7,↓reduceIte,jA,jC]
   exact ⟨by rw [if_pos hl1,g0],trivial⟩
  ·have hl1:vs.length≠1:=by simp at hc; omega
   have i1:JX 1 H (.own o 0 vs.length) (.int .i64 1)=some (.ptr o 1 0):=hix 1 (by omega)
   have d1:=hld 1 (by omega)
   have g1:vs.getD 1 0=vs[1]:=by rw [zW,jO (by omega)]; rfl
   have v1:vs[1] < 65536:=hv _ (jP _)
   simp -implicitDefEqProofs only [BC,BO,BA]
   refine EX (by kernel_rfl) ?_
   simp -implicitDefEqProofs only [F6,EF,DZ,FC,EH,FI,IK,FB,EC,GZ,F7,BK,BA,CJ,AO,AA,AZ,AU,CB,BH,BN,BZ,AB,BF,BP,jE,jD,jF,↓reduceIte,jB,jM,jA,enP,JB,i0,d0,i1,d1]
   refine ⟨_,AKD G op _ _ v0 v1 H,?_⟩
   exact ⟨by rw [if_neg hl1,g0,g1],trivial⟩
def AH2 (l:List Sg) (op n:Int) (name:ByteArray) (vs:List Nat):Nat :=
 if op=1 then n.toNat % 65536 else if op=2 then (OQ l name).1 else if op=3 then (atG l name (vs.getD 0 0:Nat)).1 else if op=24 then sumTo l name 8 else opW op vs
mutual
def AEC (l:List Sg):Ex→Nat
 | .mk op n name _ args=>AH2 l op n name (MP l args)
def MP (l:List Sg):List Ex→List Nat
 | [] => []
 | e :: es=>AEC l e :: MP l es
end
theorem AN4 (l:List Sg) (e:Ex):AEC l e=AH2 l e.op e.n e.name (MP l e.args):=by cases e; simp [AEC,Ex.op,Ex.n,Ex.name,Ex.args]
theorem P6 (l:List Sg) : ∀ xs:List Ex,MP l xs=xs.map (AEC l)
 | []=>by simp [MP]
 | e :: es=>by simp [MP,P6 l es]
theorem AE2 (l:List Sg) (xs:List Ex):(MP l xs).length=xs.length:=by rw [P6,jH]
theorem ALI (l:List Sg) (xs:List Ex) (j:Nat) (hj:j < xs.length):MP l (xs.take (j+1))=MP l (xs.take j) ++ [AEC l xs[j]]:=by
 rw [P6,P6,List.take_succ_eq_append_getElem hj,List.map_append]; rfl
theorem AN3 (l:List Sg) (e:Ex):AEC l e < 65536:=by
 induction e using Ex.induct with | h e ih => ?_
 rw [AN4]
 have hv : ∀ x∈MP l e.args,x < 65536:=by
  intro x hx
  rw [P6] at hx
  obtain ⟨a,ha,rfl⟩:=zN.1 hx
  exact ih a ha
 unfold AH2
 split
 ·exact qP _ (by omega)
 split
 ·exact AC4 _ _
 split
 ·exact AVI _ _ _
 split
 ·exact AH8 _ _ _
 ·exact A0J _ hv
theorem ASE (l:List Sg) (xs:List Ex) : ∀ x∈MP l xs,x < 65536:=by
 intro x hx
 rw [P6] at hx
 obtain ⟨a,_,rfl⟩:=zN.1 hx
 exact AN3 l a
def knE (l:List Sg) (e:Ex):Bool:=if e.op=2 then (OQ l e.name).2 else if e.op=3∨e.op=24 then (atG l e.name 0).2 else true
theorem ATI {e:Ex} (h:KJ e=0):(e.op=1→0≤e.n∧e.n≤65535)∧(e.op=3→e.args.length=1)∧(e.op≠1→e.op≠2→e.op≠3→e.op≠24→AVY e.op e.args.length):=by
 unfold KJ at h
 have hO:badO e=false:=by
  cases hb:badO e
  ·rfl
  ·rw [hb] at h; simp at h
 have hN:AHG e=false:=by
  cases hb:AHG e
  ·rfl
  ·rw [hO,hb] at h; simp at h
 have hS:AEW e=false:=by
  cases hb:AEW e
  ·rfl
  ·rw [hO,hN,hb] at h; simp at h
 have hops:ZE e.op e.args.length=true:=by
  unfold AEW at hS
  rw [Bool.or_eq_false_iff] at hS
  simpa using hS.2
 have h1:1≤e.op∧e.op≤25:=by unfold badO at hO; simp at hO; omega
 refine ⟨fun h1 => ?_,fun h3 => ?_,fun n1 n2 n3 n24=>⟨fun h22 => ?_,fun h23 => ?_,fun n22 n23 => ?_⟩⟩
 ·unfold AHG at hN; simp [h1] at hN; omega
 ·unfold ZE at hops; rw [h3] at hops; simp [arity] at hops; omega
 ·unfold ZE at hops; rw [h22] at hops; simp [arity] at hops; omega
 ·unfold ZE at hops; rw [h23] at hops; simp at hops; omega
 ·unfold ZE at hops
  rw [if_neg (by simpa using n23)] at hops
  have h5:arity e.op=1∨arity e.op=2:=by
   by_cases hq:e.op=3∨e.op=4∨e.op=5∨e.op=6∨e.op=25
   ·left; unfold arity; rw [if_neg (by omega),if_neg (by omega),if_pos hq]
   ·right; unfold arity; rw [if_neg (by omega),if_neg (by omega),if_neg hq,if_neg n22,if_neg n23]
  have h6:((e.args.length:Nat):Int)=arity e.op:=by simpa using hops
  omega
theorem str_eq {a b:ByteArray} (h:(a.toList == b.toList)=true):a=b:=by
 rw [ByteArray.toList_eq,ByteArray.toList_eq] at h
 exact ByteArray.ext (Array.toList_inj.1 (beq_iff_eq.1 h))
theorem AXF (P:ByteArray→Bool) (ops:List Int) (ns:List ByteArray) (e:Ex):(nmU ops ns e).all P=(ns.all P && (!Rk.hasB ops e.op || P e.name)):=by
 unfold nmU
 cases hb:Rk.hasB ops e.op
 ·simp
 cases hs:IJ ns e.name
 ·simp
 ·simp
  intro ha
  unfold IJ at hs
  rw [List.any_eq_true] at hs
  obtain ⟨u,hu,he⟩:=hs
  rw [str_eq he]; exact ha u hu
theorem AGK (P:ByteArray→Bool) (ops:List Int) : ∀ (xs:List Ex) (ns:List ByteArray),(nmL ops ns xs).all P=(ns.all P && xs.all fun e => !Rk.hasB ops e.op || P e.name)
 | [],ns=>by simp [nmL]
 | e :: xs,ns=>by
   have:=AGK P ops xs (nmU ops ns e)
   simp only [nmL,List.foldl_cons,wQ] at this ⊢
   rw [this,AXF,Bool.and_assoc]
theorem AQM (l:List Sg) (xs:List Ex):((nmL [2] [] xs).all (fun n=>(OQ l n).2) && (nmL [3,24] [] xs).all fun n=>(atG l n 0).2)=xs.all (knE l):=by
 rw [AGK,AGK,Bool.eq_iff_iff]
 simp only [List.all_nil,qJ,Bool.and_eq_true,List.all_eq_true]
 constructor
 ·rintro ⟨h1,h2⟩ x hx
  have a:=h1 x hx
  have b:=h2 x hx
  unfold knE
  unfold Rk.hasB at a b
  by_cases e2:x.op=2
  ·rw [if_pos e2]; simpa [e2] using a
  by_cases e3:x.op=3∨x.op=24
  ·rw [if_neg e2,if_pos e3]; rcases e3 with e3 | e3 <;> simpa [e3] using b
  ·rw [if_neg e2,if_neg e3]
 ·intro h
  refine ⟨fun x hx => ?_,fun x hx => ?_⟩
  ·have a:=h x hx
   unfold knE at a
   unfold Rk.hasB
   by_cases e2:x.op=2
   ·rw [if_pos e2] at a; simp [e2,a]
   ·have : ¬ 2=x.op:=fun q=>e2 q.symm
    simp [this]
  ·have a:=h x hx
   unfold knE at a
   unfold Rk.hasB
   by_cases e3:x.op=3∨x.op=24
   ·have e2 : ¬ x.op=2:=by omega
    rw [if_neg e2,if_pos e3] at a; simp [a]
   ·have e4 : ¬ 3=x.op:=fun q=>e3 (.inl q.symm)
    have e5 : ¬ 24=x.op:=fun q=>e3 (.inr q.symm)
    simp [e4,e5]
theorem AK1 {α:Type} (P:α→Bool) (xs:List α) (k:Nat) (hk:k < xs.length):(xs.drop k).all P=(P xs[k] && (xs.drop (k+1)).all P):=by
 rw [zH hk]; rfl
theorem AOL (ops:List Int) : ∀ (xs:List Ex) (ns:List ByteArray) (n:ByteArray),n∈nmL ops ns xs→n∈ns∨∃ x∈xs,n=x.name
 | [],ns,n,h => .inl h
 | e :: xs,ns,n,h=>by
   rcases AOL ops xs (nmU ops ns e) n h with h1 | ⟨x,hx,hn⟩
   ·unfold nmU at h1
    split at h1
    ·rcases List.mem_append.1 h1 with h2 | h2
     ·exact .inl h2
     ·exact .inr ⟨e,by simp,by simpa using h2⟩
    ·exact .inl h1
   ·exact .inr ⟨x,wO _ hx,hn⟩
section
variable (G:Nat→AV)
theorem AMF (l:List Sg) (m:SM) (e:Ex) (h:Hp) (hl:l.length≤1099511627776) (hw:wt e≤1048576):PCall (En G) 189 [.agg [.sl m 2 (l.map I5)],.agg (DC e)] h (.bool ((pre e).all (knE l))):=by
 refine ACalls.pure0 rfl ?_
 rw [← AQM]
 have hpl:=AGF e
 have hn1:=ABG [2] (pre e) []
 have hn2:=ABG [3,24] (pre e) []
 have hm2 : ∀ n∈nmL [3,24] [] (pre e),n.size≤1048576:=fun n hn=>by
  rcases AOL _ _ _ n hn with h1 | ⟨x,hx,rfl⟩
  ·cases h1
  ·have:=AI2 hx; omega
 have hN:=ANR G e hw
 have hA:=ALA G e hw
 simp only [List.length_nil,jG] at hn1 hn2
 generalize nmL [2] [] (pre e)=ns at hn1 hN ⊢
 generalize nmL [3,24] [] (pre e)=ars at hn2 hA hm2 ⊢
 refine acN Tryz.func189 rfl ?_
 show awp _ _ _ _ _ (EJ _ [.tmp 4] _)
 have gs:=CV (x:=ABlk.live 4 [DC e]) (CY h (ABlk.live 1 [[.sl m 2 (l.map I5)]]))
 have ge:=CY (h ++ [ABlk.live 1 [[.sl m 2 (l.map I5)]]]) (ABlk.live 4 [DC e])
 have hx:ext h (h ++ [ABlk.live 1 [[.sl m 2 (l.map I5)]]] ++ [ABlk.live 4 [DC e]]):=((ext.rfl' h).app _).app _
 simp -implicitDefEqProofs only [BC,A8,BA,AY,BB,AO,AQ,AL,BD,AX,AC,AA,AZ,AU,BM,A7,FD,BN,BU,BF,BP,↓reduceIte,jB,jA,jC,enP,AKQ h (.sl m 2 (l.map I5)) rfl,bxE]
 generalize h ++ [ABlk.live 1 [[.sl m 2 (l.map I5)]]] ++ [ABlk.live 4 [DC e]]=H at gs ge hx ⊢
 generalize (h ++ [ABlk.live 1 [[.sl m 2 (l.map I5)]]]).length=eb at ge ⊢
 simp -implicitDefEqProofs only [AY,AO,AQ,AL,BD,AX,AC,AA,AZ,CB,CG,BX,AB,jE,jD,jF,↓reduceIte,jA,jC,N9 ge]
 refine (hN H).use ?_
 simp -implicitDefEqProofs only [BQ,BA,AY,BB,AO,AQ,AL,BD,AX,AC,AA,AZ,AU,BH,BG,DU,AB,↓reduceIte,jA,jC,enP,AJJ,jH]
 refine H7 0 (fun F H'=>F 2 = .ptr h.length 0 0∧F 3 = .ptr eb 0 0∧H'=H∧ns.all (fun n=>(OQ l n).2)=true) (fun F H'=>F 4 = .bool false∧H'=H∧ns.all (fun n=>(OQ l n).2)=false) ?_ ?_ ?_
 ·refine DL (fun k F H' => ∃ j,k+j=ns.length∧F 2 = .ptr h.length 0 0∧F 3 = .ptr eb 0 0∧F 14 = .sl (nm ns) 1 (ns.map encStr)∧F 15 = .int .i64 (ns.length:Nat)∧F 16 = .int .i64 (j:Nat)∧H'=H∧ns.all (fun n=>(OQ l n).2)=(ns.drop j).all fun n=>(OQ l n).2) ns.length ⟨0,by simp,by simp -implicitDefEqProofs only [AA,↓reduceIte,jB],by simp -implicitDefEqProofs only [AA,↓reduceIte,jB],by simp -implicitDefEqProofs only [AA,↓reduceIte,jB],by simp -implicitDefEqProofs only [AA,↓reduceIte,jB],by simp -implicitDefEqProofs only [AA,↓reduceIte]; rfl,rfl,rfl⟩ ?_
  rintro k F H' ⟨j,hj,f2,f3,f14,f15,f16,rfl,hall⟩
  simp -implicitDefEqProofs only [BC,A8,BI,BA,AY,BB,AO,AQ,AL,BD,AX,AC,AA,AZ,BR,AB,CW,↓reduceIte,jA,jC,enP,f15,f16]
  refine CU (fun hc => ?_) (fun hc => ?_)
  ·have hj':j < ns.length:=by simpa using hc
   rw [AK1 _ ns j hj'] at hall
   simp -implicitDefEqProofs only [BC,BQ,A8,BO,BA,AY,BB,AO,AQ,AL,BD,AX,AC,AA,AZ,CB,BG,A7,BN,BZ,CG,BX,AB,jE,jD,jF,↓reduceIte,jB,jA,jC,enP,AQR,f2,f14,f16,DF hj',CX ag9 hj',encStr0,V8 gs]
   refine (ZP G l m _ H' hl).use ?_
   unfold V5
   simp -implicitDefEqProofs only [zL,zQ,BC,A8,BI,BA,AY,BB,AO,AQ,AL,BD,AX,AC,AA,AZ,BG,A7,G7,FY,IP,AB,ES,↓reduceIte,jB,jA,jC]
   cases hk:(OQ l ns[j]).2
   ·simp -implicitDefEqProofs only [BC,A8,BK,BA,CQ,EE,MS,FK,DT,AY,BB,AO,AQ,AL,BD,AX,AC,AA,AU,BM,A7,↓reduceIte,jA,jC]
    exact ⟨trivial,trivial,by rw [hall,hk]; rfl⟩
   ·simp -implicitDefEqProofs only [A8,BO,BA,EI,EP,D5,AY,BB,AO,AQ,AL,BD,AX,AC,AA,AZ,AU,BH,BG,BR,AB,DK,↓reduceIte,jB,jA,jU,jC,enP,f2,f3,f14,f15,f16,wrap_succ (show j < 9223372036854775807 by omega)]
    exact ⟨k - 1,by omega,j+1,by omega,by trivial,by trivial,by trivial,by trivial,by trivial,trivial,by rw [hall,hk]; rfl⟩
  ·have hj' : ¬ j < ns.length:=by simpa using hc
   simp -implicitDefEqProofs only [DI,ED,KQ,EW,AA,↓reduceIte,jB]
   exact ⟨f2,f3,trivial,by rw [hall,jX (by omega)]; rfl⟩
 ·rintro F H' ⟨f2,f3,rfl,hall⟩
  rw [hall,qJ]
  simp -implicitDefEqProofs only [BC,A8,BA,EU,AY,AO,AQ,AL,BD,AX,AC,AA,AZ,CB,BN,CG,BX,AB,jE,jD,jF,↓reduceIte,jA,jC,enP,f3,N9 ge]
  refine (hA H').use ?_
  simp -implicitDefEqProofs only [BQ,BA,AY,BB,AO,AQ,AL,BD,AX,AC,AA,AZ,AU,BH,BG,DU,AB,↓reduceIte,jA,jC,enP,AJJ,jH]
  refine DL (fun k F' H2 => ∃ j,k+j=ars.length∧F' 2 = .ptr h.length 0 0∧F' 30 = .sl (nm ars) 1 (ars.map encStr)∧F' 31 = .int .i64 (ars.length:Nat)∧F' 32 = .int .i64 (j:Nat)∧H2=H'∧ars.all (fun n=>(atG l n 0).2)=(ars.drop j).all fun n=>(atG l n 0).2) ars.length ⟨0,by simp,by simp -implicitDefEqProofs only [AA,↓reduceIte,jB,f2],by simp -implicitDefEqProofs only [AA,↓reduceIte,jB],by simp -implicitDefEqProofs only [AA,↓reduceIte,jB],by simp -implicitDefEqProofs only [AA,↓reduceIte]; rfl,rfl,rfl⟩ ?_
  rintro k F' H2 ⟨j,hj,g2,g30,g31,g32,rfl,hall2⟩
  simp -implicitDefEqProofs only [BC,A8,BI,BA,AY,BB,AO,AQ,AL,BD,AX,AC,AA,AZ,BR,AB,CW,↓reduceIte,jA,jC,enP,g31,g32]
  refine CU (fun hc => ?_) (fun hc => ?_)
  ·have hj':j < ars.length:=by simpa using hc
   rw [AK1 _ ars j hj'] at hall2
   simp -implicitDefEqProofs only [BC,BQ,A8,BO,BA,AY,BB,AO,AQ,AL,BD,AX,AC,AA,AZ,AU,CB,BH,BG,A7,BN,BZ,CG,BX,AB,jE,jD,jF,↓reduceIte,jB,jA,jC,enP,AQR,g2,g30,g32,DF hj',CX ag9 hj',encStr0,V8 gs]
   refine (AHJ G l m _ 0 H2 hl (hm2 _ (jP hj'))).use ?_
   unfold V5
   simp -implicitDefEqProofs only [zL,zQ,BC,A8,BI,BA,AY,BB,AO,AQ,AL,BD,AX,AC,AA,AZ,BG,A7,G7,FY,IP,AB,ES,↓reduceIte,jB,jA,jC]
   cases hk:(atG l ars[j] 0).2
   ·simp -implicitDefEqProofs only [BC,A8,BK,BA,CQ,EE,FK,CJ,DT,AY,BB,AO,AQ,AL,BD,AX,AC,AA,AU,BM,A7,↓reduceIte,jA,jC]
    exact ⟨by rw [hall2,hk]; rfl,hx⟩
   ·simp -implicitDefEqProofs only [A8,BO,BA,EI,EP,D5,AY,BB,AO,AQ,AL,BD,AX,AC,AA,AZ,AU,BH,BG,BR,AB,DK,↓reduceIte,jB,jA,jU,jC,enP,g2,g30,g31,g32,wrap_succ (show j < 9223372036854775807 by omega)]
    exact ⟨k - 1,by omega,j+1,by omega,by first | trivial | exact g2,by first | trivial | exact g30,by first | trivial | exact g31,by trivial,trivial,by rw [hall2,hk]; rfl⟩
  ·have hj' : ¬ j < ars.length:=by simpa using hc
   simp -implicitDefEqProofs only [BC,A8,BK,DI,BA,ED,EU,EW,CJ,AY,BB,AO,AQ,AL,BD,AX,AC,AA,AU,BM,A7,↓reduceIte,jA,jC]
   exact ⟨by rw [hall2,jX (by omega)]; rfl,hx⟩
 ·rintro F H' ⟨f4,rfl,hall⟩
  simp -implicitDefEqProofs only [CQ,EE,CJ,f4]
  exact ⟨by rw [hall]; rfl,hx⟩
theorem encN0 (n:Nat):(J9 n)[0]? = some (.int .i64 (n:Int)):=rfl
theorem AH0 (l:List Sg) (m:SM) (hl:l.length≤1099511627776) (e:Ex):wt e≤1048576→(∀ x∈pre e,KJ x=0)→∀ h:Hp,PCall (En G) 190 [.agg [.sl m 2 (l.map I5)],.agg (DC e)] h (.int .i64 (AEC l e:Nat)):=by
 induction e using Ex.induct with | h e ih => ?_
 intro hw hval h
 have hal:e.args.length≤1048576:=by have:=TF e.args; have:=L6 e; omega
 have hnz:e.name.size≤1048576:=by have:=L6 e; omega
 obtain ⟨o1,o3,oo⟩:=ATI (hval e (by rw [pre_eq]; simp))
 refine ACalls.pure0 rfl ?_
 refine acN Tryz.func190 rfl ?_
 show awp _ _ _ _ _ (EJ _ [.tmp 4] _)
 have gs:=CV (x:=ABlk.live 4 [DC e]) (CY h (ABlk.live 1 [[.sl m 2 (l.map I5)]]))
 have ge:=CY (h ++ [ABlk.live 1 [[.sl m 2 (l.map I5)]]]) (ABlk.live 4 [DC e])
 have hx:ext h (h ++ [ABlk.live 1 [[.sl m 2 (l.map I5)]]] ++ [ABlk.live 4 [DC e]]):=((ext.rfl' h).app _).app _
 simp -implicitDefEqProofs only [BC,A8,BA,AY,BB,AO,AQ,AL,BD,AX,AC,AA,AZ,AU,BH,H9,A7,FD,BN,BJ,BU,AB,BF,BP,↓reduceIte,jB,jG,jA,jC,enP,OD,AKQ h (.sl m 2 (l.map I5)) rfl,bxE]
 generalize h ++ [ABlk.live 1 [[.sl m 2 (l.map I5)]]] ++ [ABlk.live 4 [DC e]]=H1 at gs ge hx ⊢
 generalize (h ++ [ABlk.live 1 [[.sl m 2 (l.map I5)]]]).length=eb at ge ⊢
 have l3:D6 Tryz.prog H1 46 (.ptr eb 0 3)=some (.sl e.m 4 (e.args.map DC)):=by rw [DV UQ ge (row:=DC e) rfl,AAT]
 simp -implicitDefEqProofs only [BQ,BA,AY,BB,AO,AQ,AL,BD,AX,AC,AA,AZ,AU,BH,BG,DU,AB,↓reduceIte,jA,jC,enP,VU,l3,jH]
 refine H7 0 (fun F H => ∃ v,F 2 = .ptr h.length 0 0∧F 3 = .ptr eb 0 0∧F 5=v∧ext H1 H∧outG 1 J9 H1 (MP l e.args) v H) (fun _ _=>False) ?_ ?_ (fun _ _ hh=>hh.elim)
 ·refine DL (fun k F H => ∃ j v,k+j=e.args.length∧F 2 = .ptr h.length 0 0∧F 3 = .ptr eb 0 0∧F 5=v∧F 13 = .sl e.m 4 (e.args.map DC)∧F 14 = .int .i64 (e.args.length:Nat)∧F 15 = .int .i64 (j:Nat)∧ext H1 H∧outG 1 J9 H1 (MP l (e.args.take j)) v H) e.args.length
   ⟨0,.sl .nil 0 [],by simp,by simp -implicitDefEqProofs only [AA,↓reduceIte,jB],by simp -implicitDefEqProofs only [AA,↓reduceIte,jB],by simp -implicitDefEqProofs only [AA,↓reduceIte,jB],by simp -implicitDefEqProofs only [AA,↓reduceIte,jB],by simp -implicitDefEqProofs only [AA,↓reduceIte,jB],by simp -implicitDefEqProofs only [AA,↓reduceIte]; rfl,ext.rfl' H1,outG.nil _ _ _ _⟩ ?_
  rintro k F H ⟨j,v,hj,f2,f3,f5,f13,f14,f15,hxH,ho⟩
  simp -implicitDefEqProofs only [BC,A8,BI,BA,AY,BB,AO,AQ,AL,BD,AX,AC,AA,AZ,BR,AB,CW,↓reduceIte,jA,jC,enP,f14,f15]
  refine CU (fun hc => ?_) (fun hc => ?_)
  ·have hj':j < e.args.length:=by simpa using hc
   have hmem:e.args[j]∈e.args:=jP hj'
   have ho1:=ho.app [ABlk.live 4 [DC e.args[j]]]
   have hx1:=hxH.app [ABlk.live 4 [DC e.args[j]]]
   have htl:(MP l (e.args.take j)).length < 8388608:=by rw [AE2]; simp; omega
   obtain ⟨v',H',ha,ho',_,hx',_,_⟩:=ho1.append (P:=Tryz.prog) WH sz3 AA3 ZZ (by omega) htl hx1 (AEC l e.args[j])
   have ha':GI Tryz.prog true (H ++ [ABlk.live 4 [DC e.args[j]]]) 26 26 v (.sl .full 1 [[.int .i64 ((AEC l e.args[j]:Nat):Int)]])=some (v',H'):=ha
   simp -implicitDefEqProofs only [BC,BQ,A8,BO,BA,AY,BB,AO,AQ,AL,BD,AX,AC,E8,AA,AZ,CB,BG,FV,BN,EN,BZ,CG,BX,BU,AB,DW,jE,jD,jF,↓reduceIte,jB,jA,jC,enP,ZI,jT,f13,f15,DF hj',FT XH MQ IX hj',ABB,AIB _ _ [.int .i64 0,.int .i64 0,.str ⟨#[]⟩,.sl .nil 0 []] rfl,f2,f5,V8 (FO hx1 gs),ldE]
   refine (ih e.args[j] hmem (by have:=TE hmem; have:=L6 e; omega) (fun x hx=>hval x (by rw [pre_eq]; exact wO _ (ABE hmem x hx))) _).use ?_
   simp -implicitDefEqProofs only [FU,FQ,A8,BA,EI,EP,AY,BB,AO,AQ,AL,BD,AX,AC,AA,AZ,AU,BH,BG,A7,EK,BR,G8,BU,AB,DK,↓reduceIte,jB,jA,jC,enP,f5,AM9,ha',f2,f3,f13,f14,f15,wrap_succ (show j < 9223372036854775807 by omega)]
   exact ⟨k - 1,by omega,j+1,v',by omega,by trivial,by trivial,by trivial,by trivial,by trivial,by trivial,hx',by rw [ALI _ _ _ hj']; exact ho'⟩
  ·have hj' : ¬ j < e.args.length:=by simpa using hc
   rw [List.take_of_length_le (by omega)] at ho
   simp -implicitDefEqProofs only [DI,ED,KQ,EW,AA,↓reduceIte,jB]
   exact ⟨v,f2,f3,f5,hxH,ho⟩
 ·rintro F H ⟨v,f2,f3,f5,hxH,ho⟩
  have gsH:=FO hxH gs
  have geH:=FO hxH ge
  have hxx:=hx.trans hxH
  have l0:D6 Tryz.prog H 3 (.ptr eb 0 0)=some (.int .i64 e.op):=by rw [DV ag3 geH (row:=DC e) rfl,KH]
  have l1:D6 Tryz.prog H 3 (.ptr eb 0 1)=some (.int .i64 e.n):=by rw [DV ag3 geH (row:=DC e) rfl,AAU]
  have l2:D6 Tryz.prog H 9 (.ptr eb 0 2)=some (.str e.name):=by rw [DV ag9 geH (row:=DC e) rfl,QL]
  have hvl:=AE2 l e.args
  rw [AN4]
  simp -implicitDefEqProofs only [BC,BQ,A8,BI,BA,EU,AY,BB,AO,AQ,AL,BD,AX,AC,AA,AZ,AU,BH,A7,BN,BR,BJ,AB,EG,↓reduceIte,jK,jA,jC,enP,JJ,f3,l0]
  by_cases e1:e.op=1
  ·have c1:(e.op == 1)=true:=by simpa using e1
   simp -implicitDefEqProofs only [BC,A8,BK,BA,CQ,EE,CJ,DT,AY,BB,AO,AQ,AL,BD,AX,AC,AA,AZ,A7,BN,BJ,AB,↓reduceIte,jB,jG,jA,jC,enP,AC8,c1,f3,l1]
   have:=o1 e1
   exact ⟨by unfold AH2; rw [if_pos e1]; congr 1; omega,hxx⟩
  have c1:(e.op == 1)=false:=by simpa using e1
  by_cases e2:e.op=2
  ·have c2:(e.op == 2)=true:=by simpa using e2
   simp -implicitDefEqProofs only [BC,A8,BI,BA,DT,D5,AY,BB,AO,AQ,AL,BD,AX,AC,AA,AZ,AU,CB,BH,A7,BN,BR,BJ,CG,BX,AB,EG,jE,jD,jF,↓reduceIte,jB,jG,jA,jC,enP,MM,c1,c2,f2,f3,l2,V8 gsH]
   refine (ZP G l m _ H hl).use ?_
   unfold V5
   simp -implicitDefEqProofs only [zL,zQ,BC,A8,BK,BA,CQ,EE,CJ,AY,BB,AO,AQ,AL,BD,AX,AC,AA,AZ,BG,A7,FY,IP,AB,↓reduceIte,jB,jA,jC]
   exact ⟨by unfold AH2; rw [if_neg e1,if_pos e2],hxx⟩
  have c2:(e.op == 2)=false:=by simpa using e2
  by_cases e3:e.op=3
  ·have c3:(e.op == 3)=true:=by simpa using e3
   have hl1:=o3 e3
   obtain ⟨o,rfl,hob⟩ : ∃ o,v = .own o 0 1∧H[o]? = some (.live 1 ((MP l e.args).map J9)):=by
    rcases ho with ⟨h0,_⟩ | ⟨_,o,_,rfl,hb⟩
    ·rw [h0] at hvl; simp at hvl; omega
    ·exact ⟨o,by rw [hvl,hl1],hb⟩
   have hlen:0 < (MP l e.args).length:=by omega
   have i0:JX 1 H (.own o 0 1) (.int .i64 0)=some (.ptr o 0 0):=JS (n:=0) hob (by decide)
   have d0:D6 Tryz.prog H 3 (.ptr o 0 0)=some (.int .i64 ((MP l e.args).getD 0 0:Nat)):=by
    rw [DV ag3 hob (row:=J9 (MP l e.args)[0]) (row_map hlen),zW,jO hlen]; rfl
   simp -implicitDefEqProofs only [BC,A8,BI,BA,DT,D5,AY,BB,AO,AQ,AL,BD,AX,AC,AA,AZ,AU,BH,A7,BR,AB,EG,↓reduceIte,jB,jA,jC,enP,c1,c2,c3]
   refine EX (by kernel_rfl) ?_
   simp -implicitDefEqProofs only [F6,EF,DZ,EH,FI,FB,D9,EC,LX,GZ,F7,AO,AA,AZ,AU,CB,BH,BN,BJ,BZ,FY,AB,jE,jD,jF,↓reduceIte,jB,jM,jG,jA,enP,JB,MM,f2,f3,f5,l2,V8 gsH,i0,d0]
   refine ⟨_,AHJ G l m _ _ H hl hnz,?_⟩
   unfold V5
   simp -implicitDefEqProofs only [F6,zL,zQ,EF,DZ,FC,EH,IK,LX,BC,A8,BK,BA,CQ,EE,CJ,AY,BB,AO,AQ,AL,BD,AX,AC,AA,AZ,BG,A7,FY,IP,AB,↓reduceIte,jB,jM,jA,jC]
   exact ⟨by unfold AH2; rw [if_neg e1,if_neg e2,if_pos e3],hxx⟩
  have c3:(e.op == 3)=false:=by simpa using e3
  by_cases e24:e.op=24
  ·have c24:(e.op == 24)=true:=by simpa using e24
   simp -implicitDefEqProofs only [BC,A8,BI,BA,DT,D5,AY,BB,AO,AQ,AL,BD,AX,AC,AA,AZ,AU,CB,BH,A7,BN,BR,BJ,CG,BX,AB,EG,jE,jD,jF,↓reduceIte,jB,jG,jA,jC,enP,MM,c1,c2,c3,c24,f2,f3,l2,V8 gsH]
   refine (ASN G l m _ H hl hnz).use ?_
   simp -implicitDefEqProofs only [BK,BA,CQ,EE,CJ,AY,BB,AO,AQ,AL,BD,AX,AC,AA,AZ,A7,↓reduceIte,jA,jC]
   exact ⟨by unfold AH2; rw [if_neg e1,if_neg e2,if_neg e3,if_pos e24],hxx⟩
  have c24:(e.op == 24)=false:=by simpa using e24
  have hok:=oo e1 e2 e3 e24
  have hok':AVY e.op (MP l e.args).length:=by rw [hvl]; exact hok
  obtain ⟨o,rfl,hob⟩ : ∃ o,v = .own o 0 (MP l e.args).length∧H[o]? = some (.live 1 ((MP l e.args).map J9)):=by
   rcases ho with ⟨h0,_⟩ | ⟨_,o,_,rfl,hb⟩
   ·exfalso
    rw [h0] at hok'
    obtain ⟨a,b,c⟩:=hok'
    by_cases q:e.op=22
    ·have:=a q; simp at this
    by_cases q':e.op=23
    ·have:=b q'; simp at this
    ·have:=c q q'; simp at this
   ·exact ⟨o,rfl,hb⟩
  simp -implicitDefEqProofs only [BC,A8,BO,BI,BA,EI,D5,AY,BB,AO,AQ,AL,BD,AX,AC,AA,AZ,AU,CB,BH,BG,A7,BN,BR,BJ,CG,BX,AB,EG,jE,jD,jF,↓reduceIte,jB,jK,jA,jC,enP,JJ,c1,c2,c3,c24,f3,l0,f5]
  refine (AQA G e.op _ o H hob (ASE l _) (by omega) hok').use ?_
  simp -implicitDefEqProofs only [BK,BA,CJ,AY,BB,AO,AQ,AL,BD,AX,AC,AA,AZ,A7,↓reduceIte,jA,jC]
  exact ⟨by unfold AH2; rw [if_neg e1,if_neg e2,if_neg e3,if_neg e24],hxx⟩
end
end Go.Proofs.YtfpagfhhhlljjaaGreatDoor.Xe
