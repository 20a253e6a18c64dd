/- Part 16 of the proof (O1, O2, Ko, O3, O4, O5, O6, O7, O8, O9, O10, O11, O12, O13, O14, O15, O16, O17); no condition. -/
import Derived.Test.YtfpagfhhhlljjaaGreatDoorYA15
set_option linter.unusedVariables false
set_option linter.unusedSimpArgs false
set_option maxRecDepth 8000
namespace Go.Proofs.YtfpagfhhhlljjaaGreatDoor.Cov
open Sm Bins Go.RowKit
open Bool renaming not_false→jC,not_true→jU,true_and→qJ,false_and→qM
open List renaming drop_eq_getElem_cons→zH,drop_eq_nil_of_le→jX,length_map→jH,map_cons→jE,map_nil→jD,append_nil→jF
open Nat renaming le_of_ble_eq_true→jI,reduceEqDiff→jB,zero_add→jG
open Option renaming getD_some→jA
def ixV (ns:List Nat) (l:List Int):Int:=if JH ns l=true then UL ns l 0 else 0
theorem AOY {ns:List Nat} {l:List Int} (h:l.length≠ns.length):JH ns l=false:=by
 cases e:JH ns l
 ·rfl
 ·exact absurd (MC e).symm h
theorem AFH {ns:List Nat} {l:List Int} {k:Nat} (hk:k < l.length) (hn:k < ns.length):JH (ns.drop k) (l.drop k)=(decide (0≤l[k]) && decide (l[k] < (ns[k]:Int)) && JH (ns.drop (k+1)) (l.drop (k+1))):=by
 rw [zH hk,zH hn]; rfl
theorem AJO {ns:List Nat} {l:List Int} {k:Nat} (hk:l.length≤k) (hn:ns.length≤k):JH (ns.drop k) (l.drop k)=true:=by
 rw [jX hk,jX hn]; rfl
theorem ALJ (G:Nat→AV) (m:Mo) (z:Int) (hz:z < 0∨(m.crs.length:Int)≤z) (h:Hp):PCall (En G) 77 [.agg (D8 m),.int .i64 z] h (.bool false):=by
 refine ACalls.pure0 rfl ?_
 refine acN Tryz.func77 rfl ?_
 show awp _ _ _ _ _ (EJ _ [.tmp 4] _)
 simp -implicitDefEqProofs only [BC,A8,BA,AY,BB,BL,BV,CO,AO,AQ,AL,BD,AX,AC,AA,AZ,AU,BH,BM,BG,A7,FD,BR,BU,AB,CW,BF,BP,↓reduceIte,jB,jA,jC,enP,bxM]
 cases d0:decide (z < 0)
 ·have d1:decide (z≥(m.crs.length:Int))=true:=by rw [decide_eq_true_eq]; rw [decide_eq_false_iff_not] at d0; omega
  simp -implicitDefEqProofs only [BC,A8,BK,BI,BA,CQ,CJ,DT,AY,BB,BL,BV,CO,EM,AO,AQ,AL,BD,AX,AC,AA,AZ,AU,BM,BG,A7,CP,DR,BN,BR,BJ,DU,AB,FX,BF,BP,↓reduceIte,jB,jG,jA,jC,enP,VW,IW,C9 AAA,SS,jH,d1]
  exact ⟨trivial,_,rfl⟩
 ·simp -implicitDefEqProofs only [BC,A8,BK,BI,BA,CQ,CJ,DT,AY,BB,BL,BV,CO,FP,AO,AQ,AL,BD,AX,AC,AA,EQ,AZ,AU,BM,A7,CP,DY,↓reduceIte,jB,jA,jC]
  exact ⟨trivial,_,rfl⟩
theorem ABQ (G:Nat→AV) (m:Mo) (z:Int) (hz:z < 0∨(m.crs.length:Int)≤z) (h:Hp):PCall (En G) 59 [.agg (D8 m),.int .i64 z] h (.bool false):=by
 refine ACalls.pure0 rfl ?_
 refine acN Tryz.func59 rfl ?_
 show awp _ _ _ _ _ (EJ _ [.tmp 4] _)
 simp -implicitDefEqProofs only [BC,A8,BA,AY,BB,BL,BV,CO,AO,AQ,AL,BD,AX,AC,AA,AZ,AU,BH,BM,BG,A7,FD,BR,BU,AB,CW,BF,BP,↓reduceIte,jB,jA,jC,enP,bxM]
 cases d0:decide (z < 0)
 ·have d1:decide (z≥(m.crs.length:Int))=true:=by rw [decide_eq_true_eq]; rw [decide_eq_false_iff_not] at d0; omega
  simp -implicitDefEqProofs only [BC,A8,BK,BI,BA,CQ,CJ,DT,AY,BB,BL,BV,CO,EM,AO,AQ,AL,BD,AX,AC,AA,AZ,AU,BM,BG,A7,CP,DR,BN,BR,BJ,DU,AB,FX,BF,BP,↓reduceIte,jB,jG,jA,jC,enP,VW,IW,C9 AAA,SS,jH,d1]
  exact ⟨trivial,_,rfl⟩
 ·simp -implicitDefEqProofs only [BC,A8,BK,BI,BA,CQ,CJ,DT,AY,BB,BL,BV,CO,FP,AO,AQ,AL,BD,AX,AC,AA,EQ,AZ,AU,BM,A7,CP,DY,↓reduceIte,jB,jA,jC]
  exact ⟨trivial,_,rfl⟩
theorem ACO (G:Nat→AV) (m:Mo) (z:Int) (hz:z < 0∨(m.crs.length:Int)≤z) (l:List Int) (s:SM) (h:Hp):PCall (En G) 44 [.agg (D8 m),.int .i64 z,.sl s 1 (l.map qencI)] h (.tup [.int .i64 0,.bool false]):=by
 refine ACalls.pure 2 (R:=fun v H=>v = .tup [.int .i64 0,.bool false]∧∃ x,H=h ++ x) ?_ (fun v h' ⟨e,x⟩=>⟨x,by subst e; rfl⟩)
 refine acN Tryz.func44 rfl ?_
 show awp _ _ _ _ _ (EJ _ [.tmp 6,.tmp 7] _)
 simp -implicitDefEqProofs only [BC,A8,BA,AY,BB,AO,AQ,AL,BD,AX,AC,AA,AZ,AU,CB,BH,BM,BG,A7,FD,BN,CG,BX,BU,AB,BF,BP,jE,jD,jF,↓reduceIte,jB,jA,jC,enP,bxM,ldM (CY h (.live 2 [D8 m]))]
 refine (ALJ G m z hz _).use ?_
 simp -implicitDefEqProofs only [BC,A8,BK,BI,BA,CQ,J3,DT,AY,BB,AO,AQ,AL,BD,AX,AC,AA,AZ,AU,BH,BM,A7,G7,AB,ES,↓reduceIte,jB,jA,jC]
 exact ⟨trivial,_,rfl⟩
theorem AEK (G:Nat→AV) (m:Mo) (z:Int) (hz:z < 0∨(m.crs.length:Int)≤z) (l:List Int) (s:SM) (h:Hp):PCall (En G) 30 [.agg (D8 m),.int .i64 z,.sl s 1 (l.map qencI)] h (.tup [.int .i64 0,.bool false]):=by
 refine ACalls.pure 2 (R:=fun v H=>v = .tup [.int .i64 0,.bool false]∧∃ x,H=h ++ x) ?_ (fun v h' ⟨e,x⟩=>⟨x,by subst e; rfl⟩)
 refine acN Tryz.func30 rfl ?_
 show awp _ _ _ _ _ (EJ _ [.tmp 6,.tmp 7] _)
 simp -implicitDefEqProofs only [BC,A8,BA,AY,BB,AO,AQ,AL,BD,AX,AC,AA,AZ,AU,CB,BH,BM,BG,A7,FD,BN,CG,BX,BU,AB,BF,BP,jE,jD,jF,↓reduceIte,jB,jA,jC,enP,bxM,ldM (CY h (.live 2 [D8 m]))]
 refine (ABQ G m z hz _).use ?_
 simp -implicitDefEqProofs only [BC,A8,BK,BI,BA,CQ,J3,DT,AY,BB,BL,BV,CO,FP,AO,AQ,AL,BD,AX,AC,AA,EQ,AZ,AU,BH,BM,BG,A7,CP,DY,G7,AB,ES,↓reduceIte,jB,jA,jC]
 exact ⟨trivial,_,rfl⟩
theorem VD (G:Nat→AV) (m:Mo) (i:Nat) (hi:i < m.crs.length) (hg:CrGood m m.crs[i]) (l:List Int) (s:SM) (hn:l.length≤1048576) (h:Hp):PCall (En G) 44 [.agg (D8 m),.int .i64 (i:Int),.sl s 1 (l.map qencI)] h (.tup [.int .i64 (ixV (szs m m.crs[i].pts) l),.bool (JH (szs m m.crs[i].pts) l)]):=by
 refine ACalls.pure 2 (R:=fun v H=>v = .tup [.int .i64 (ixV (szs m m.crs[i].pts) l),.bool (JH (szs m m.crs[i].pts) l)]∧∃ x,H=h ++ x) ?_ (fun v h' ⟨e,x⟩=>⟨x,by subst e; rfl⟩)
 have hx : ∃ x,h ++ [ABlk.live 2 [D8 m]]=h ++ x:=⟨_,rfl⟩
 refine acN Tryz.func44 rfl ?_
 show awp _ _ _ _ _ (EJ _ [.tmp 6,.tmp 7] _)
 simp -implicitDefEqProofs only [BC,A8,BA,AY,BB,AO,AQ,AL,BD,AX,AC,AA,AZ,AU,CB,BH,BM,BG,A7,FD,BN,CG,BX,BU,AB,BF,BP,jE,jD,jF,↓reduceIte,jB,jA,jC,enP,bxM,ldM (CY h (.live 2 [D8 m]))]
 refine (AAI G m i hi hg _).use ?_
 simp -implicitDefEqProofs only [BC,A8,BO,BI,BA,D5,AY,BB,AO,AQ,AL,BD,AX,AC,AA,AZ,CB,BG,BN,G7,CG,BX,AB,ES,BF,BP,jE,jD,jF,↓reduceIte,jB,jA,jU,jC,enP,ldM (CY h (.live 2 [D8 m]))]
 refine (YT G m i hi hg _).use ?_
 generalize szs m m.crs[i].pts=ns
 rcases Classical.em (l.length=ns.length) with hlen | hlen
 case inr =>
  have hne:((l.length:Int) != (ns.length:Int))=true:=by simp; omega
  have hb:=AOY hlen
  have hv:ixV ns l=0:=by unfold ixV; rw [hb]; rfl
  simp -implicitDefEqProofs only [BC,A8,BK,BI,BA,CQ,J3,DT,AY,BB,AO,AQ,AL,BD,AX,AC,AA,AZ,AU,BH,BM,BG,A7,BR,DU,AB,ET,BF,BP,↓reduceIte,jB,jA,jC,enP,JG,jH,hne]
  exact ⟨by rw [hb,hv],hx⟩
 have hne:((l.length:Int) != (ns.length:Int))=false:=by rw [hlen]; simp
 simp -implicitDefEqProofs only [BC,BQ,A8,BO,BI,BA,D5,AY,BB,AO,AQ,AL,BD,AX,AC,AA,AZ,AU,BH,BG,A7,BR,DU,AB,ET,BF,BP,↓reduceIte,jB,jA,jC,enP,JG,jH,hne]
 refine DL (fun n F H => ∃ k,n+k=l.length∧F 8 = .sl .any 1 (ns.map J9)∧(∃ z,F 9 = .int .i64 z∧UL ns l 0=UL (ns.drop k) (l.drop k) z)∧F 24 = .sl s 1 (l.map qencI)∧F 25 = .int .i64 l.length∧F 26 = .int .i64 (k:Nat)∧H=h ++ [ABlk.live 2 [D8 m]]∧JH ns l=JH (ns.drop k) (l.drop k)) l.length ⟨0,by simp,by simp -implicitDefEqProofs only [AA,↓reduceIte,jB],⟨0,rfl,rfl⟩,by simp -implicitDefEqProofs only [AA,↓reduceIte,jB],by simp -implicitDefEqProofs only [AA,↓reduceIte,jB],by simp -implicitDefEqProofs only [AA,↓reduceIte]; rfl,rfl,rfl⟩ ?_
 rintro n F H ⟨k,hk,f8,⟨z,f9,hz⟩,f24,f25,f26,rfl,hin⟩
 simp -implicitDefEqProofs only [BC,A8,BI,BA,AY,BB,AO,AQ,AL,BD,AX,AC,AA,AZ,BR,AB,CW,↓reduceIte,jA,jC,enP,f25,f26]
 refine CU (fun hc => ?_) (fun hc => ?_)
 ·have hk':k < l.length:=by simpa using hc
  have hkn:k < ns.length:=by omega
  rw [AFH hk' hkn] at hin
  rw [zH hk',zH hkn] at hz
  cases d0:decide (l[k] < 0)
  ·have e0:decide (0≤l[k])=true:=by rw [decide_eq_true_eq]; rw [decide_eq_false_iff_not] at d0; omega
   cases d1:decide (l[k]≥(ns[k]:Int))
   ·have e1:decide (l[k] < (ns[k]:Int))=true:=by rw [decide_eq_true_eq]; rw [decide_eq_false_iff_not] at d1; omega
    rw [e0,e1,qJ,qJ] at hin
    simp -implicitDefEqProofs only [BC,BQ,A8,BO,BI,BA,EI,EP,D5,AY,BB,BL,BV,CO,EM,AO,AQ,AL,BD,AX,AC,AA,AZ,AU,BH,BM,BG,A7,CP,DR,BN,BR,BZ,AB,DK,Q8,CW,FX,↓reduceIte,jB,jA,jC,enP,JB,f8,f9,f24,f26,DF hk',CX ag3 hk',encI0,d0,DF hkn,CX ag3 hkn,encN0,d1,wrap_succ (show k < 9223372036854775807 by omega)]
    exact ⟨n - 1,by omega,k+1,by omega,trivial,⟨_,rfl,hz⟩,trivial,f25,rfl,trivial,hin⟩
   ·have e1:decide (l[k] < (ns[k]:Int))=false:=by rw [decide_eq_false_iff_not]; rw [decide_eq_true_eq] at d1; omega
    rw [e1,Bool.and_false,qM] at hin
    have hv:ixV ns l=0:=by unfold ixV; rw [hin]; rfl
    simp -implicitDefEqProofs only [BC,BQ,A8,BO,BK,BI,BA,CQ,EE,FK,J3,DT,AY,BB,BL,BV,CO,EM,AO,AQ,AL,BD,AX,AC,AA,AZ,AU,BH,BM,BG,A7,CP,DR,BN,BR,BZ,AB,CW,FX,↓reduceIte,jB,jA,jC,enP,JB,f8,f9,f24,f26,DF hk',CX ag3 hk',encI0,d0,DF hkn,CX ag3 hkn,encN0,d1]
    exact ⟨by rw [hin,hv],hx⟩
  ·have e0:decide (0≤l[k])=false:=by rw [decide_eq_false_iff_not]; rw [decide_eq_true_eq] at d0; omega
   rw [e0,qM,qM] at hin
   have hv:ixV ns l=0:=by unfold ixV; rw [hin]; rfl
   simp -implicitDefEqProofs only [BC,BQ,A8,BO,BK,BI,BA,CQ,EE,FK,J3,DT,AY,BB,BL,BV,CO,FP,AO,AQ,AL,BD,AX,AC,AA,EQ,AZ,AU,BH,BM,BG,A7,CP,DY,BN,BR,BZ,AB,CW,↓reduceIte,jB,jA,jC,enP,JB,f8,f9,f24,f26,DF hk',CX ag3 hk',encI0,d0]
   exact ⟨by rw [hin,hv],hx⟩
 ·have hk' : ¬ k < l.length:=by simpa using hc
  rw [AJO (by omega) (by omega)] at hin
  rw [jX (show l.length≤k by omega),YI] at hz
  have hv:ixV ns l=z:=by unfold ixV; rw [if_pos hin,hz]
  simp -implicitDefEqProofs only [BC,A8,BK,DI,BA,ED,EU,EW,J3,AY,BB,AO,AQ,AL,BD,AX,AC,AA,AZ,AU,BM,BG,A7,↓reduceIte,jB,jA,jC,f9]
  exact ⟨by rw [hin,hv],hx⟩
theorem AEL (G:Nat→AV) (m:Mo) (i:Nat) (hi:i < m.crs.length) (hg:CrGood m m.crs[i]) (l:List Int) (s:SM) (hn:l.length≤1048576) (h:Hp):PCall (En G) 30 [.agg (D8 m),.int .i64 (i:Int),.sl s 1 (l.map qencI)] h (.tup [.int .i64 (ixV (szs m m.crs[i].pts) l),.bool (JH (szs m m.crs[i].pts) l)]):=by
 have hsl:=KW m m.crs[i].pts
 have hget:=XQ m m.crs[i].pts
 refine ACalls.pure 2 (R:=fun v H=>v = .tup [.int .i64 (ixV (szs m m.crs[i].pts) l),.bool (JH (szs m m.crs[i].pts) l)]∧∃ x,H=h ++ x) ?_ (fun v h' ⟨e,x⟩=>⟨x,by subst e; rfl⟩)
 have gm:=CY h (.live 2 [D8 m])
 have hx : ∃ x,h ++ [ABlk.live 2 [D8 m]]=h ++ x:=⟨_,rfl⟩
 refine acN Tryz.func30 rfl ?_
 show awp _ _ _ _ _ (EJ _ [.tmp 6,.tmp 7] _)
 simp -implicitDefEqProofs only [BC,A8,BA,AY,BB,AO,AQ,AL,BD,AX,AC,AA,AZ,AU,CB,BH,BM,BG,A7,FD,BN,CG,BX,BU,AB,BF,BP,jE,jD,jF,↓reduceIte,jB,jA,jC,enP,bxM,ldM gm]
 refine (ABR G m i hi hg _).use ?_
 rcases Classical.em (l.length=m.crs[i].pts.length) with hlen | hlen
 case inr =>
  have hne:((l.length:Int) != (m.crs[i].pts.length:Int))=true:=by simp; omega
  have hb:JH (szs m m.crs[i].pts) l=false:=AOY (by omega)
  have hv:ixV (szs m m.crs[i].pts) l=0:=by unfold ixV; rw [hb]; rfl
  simp -implicitDefEqProofs only [BC,A8,BK,BI,BA,CQ,J3,DT,AY,BB,BL,BV,CO,EM,AO,AQ,AL,BD,AX,AC,AA,AZ,AU,BH,BM,BG,A7,CP,DR,BN,BR,G7,BJ,BZ,DU,AB,ET,ES,BF,BP,↓reduceIte,jB,jG,jA,jU,jC,enP,PE,IW,JG,JD,RI gm,DF hi,CX LQ hi,OT,jH,hne]
  exact ⟨by rw [hb,hv],hx⟩
 have hne:((l.length:Int) != (m.crs[i].pts.length:Int))=false:=by rw [hlen]; simp
 simp -implicitDefEqProofs only [BC,BQ,A8,BO,BI,BA,D5,AY,BB,BL,BV,CO,EM,AO,AQ,AL,BD,AX,AC,AA,AZ,AU,BH,BM,BG,A7,CP,DR,BN,BR,G7,BJ,BZ,DU,AB,ET,ES,BF,BP,↓reduceIte,jB,jG,jA,jU,jC,enP,PE,IW,JG,JD,RI gm,DF hi,CX LQ hi,OT,jH,hne]
 generalize h ++ [ABlk.live 2 [D8 m]]=H at gm hx ⊢
 generalize szs m m.crs[i].pts=ns at hsl hget ⊢
 refine DL (fun n F H' => ∃ k,n+k=l.length∧F 1 = .int .i64 (i:Nat)∧F 2 = .sl s 1 (l.map qencI)∧F 3 = .ptr h.length 0 0∧(∃ z,F 8 = .int .i64 z∧UL ns l 0=UL (ns.drop k) (l.drop k) z)∧F 9 = .int .i64 (k:Nat)∧H'=H∧JH ns l=JH (ns.drop k) (l.drop k)) l.length ⟨0,by simp,by simp -implicitDefEqProofs only [AA,BF,BP,↓reduceIte,jB],by simp -implicitDefEqProofs only [AA,BF,BP,↓reduceIte,jB],by simp -implicitDefEqProofs only [AA,↓reduceIte,jB],⟨0,rfl,rfl⟩,by simp -implicitDefEqProofs only [AA,↓reduceIte]; rfl,rfl,rfl⟩ ?_
 rintro n F H' ⟨k,hk,f1,f2,f3,⟨z,f8,hz⟩,f9,rfl,hin⟩
 simp -implicitDefEqProofs only [BC,A8,BI,BA,AY,BB,AO,AQ,AL,BD,AX,AC,AA,AZ,BG,BR,DU,AB,CW,↓reduceIte,jB,jA,jC,enP,JG,f2,f9,jH]
 refine CU (fun hc => ?_) (fun hc => ?_)
 ·have hk':k < l.length:=by simpa using hc
  have hkn:k < ns.length:=by omega
  have hkc:k < m.crs[i].pts.length:=by omega
  have hgk:ns[k]=(F9 m m.crs[i].pts[k]).length:=G9 (hget k hkc)
  rw [AFH hk' hkn] at hin
  rw [zH hk',zH hkn] at hz
  simp -implicitDefEqProofs only [BC,BQ,A8,BO,BA,AY,AO,AQ,AL,BD,AX,AC,AA,AZ,CB,BG,BN,CG,BX,AB,jE,jD,jF,↓reduceIte,jB,jA,jC,enP,f1,f3,f9,ldM gm]
  refine (ADS G m i hi hg k hkc _).use ?_
  rw [← hgk]
  cases d0:decide (l[k] < 0)
  ·have e0:decide (0≤l[k])=true:=by rw [decide_eq_true_eq]; rw [decide_eq_false_iff_not] at d0; omega
   cases d1:decide (l[k]≥(ns[k]:Int))
   ·have e1:decide (l[k] < (ns[k]:Int))=true:=by rw [decide_eq_true_eq]; rw [decide_eq_false_iff_not] at d1; omega
    rw [e0,e1,qJ,qJ] at hin
    simp -implicitDefEqProofs only [BC,A8,BO,BI,BA,EI,EP,D5,AY,BB,BL,BV,CO,EM,AO,AQ,AL,BD,AX,AC,AA,AZ,AU,BH,BM,BG,A7,CP,DR,BN,BR,BZ,AB,DK,Q8,CW,FX,↓reduceIte,jB,jA,jC,enP,JB,f2,f8,f9,DF hk',CX ag3 hk',encI0,d0,d1,wrap_succ (show k < 9223372036854775807 by omega)]
    exact ⟨n - 1,by omega,k+1,by omega,f1,trivial,f3,⟨_,rfl,hz⟩,rfl,trivial,hin⟩
   ·have e1:decide (l[k] < (ns[k]:Int))=false:=by rw [decide_eq_false_iff_not]; rw [decide_eq_true_eq] at d1; omega
    rw [e1,Bool.and_false,qM] at hin
    have hv:ixV ns l=0:=by unfold ixV; rw [hin]; rfl
    simp -implicitDefEqProofs only [BC,A8,BK,BI,BA,CQ,EE,FK,J3,DT,AY,BB,BL,BV,CO,EM,AO,AQ,AL,BD,AX,AC,AA,AZ,AU,BH,BM,BG,A7,CP,DR,BN,BR,BZ,AB,CW,FX,↓reduceIte,jB,jA,jC,enP,JB,f2,f8,f9,DF hk',CX ag3 hk',encI0,d0,d1]
    exact ⟨by rw [hin,hv],hx⟩
  ·have e0:decide (0≤l[k])=false:=by rw [decide_eq_false_iff_not]; rw [decide_eq_true_eq] at d0; omega
   rw [e0,qM,qM] at hin
   have hv:ixV ns l=0:=by unfold ixV; rw [hin]; rfl
   simp -implicitDefEqProofs only [BC,A8,BK,BI,BA,CQ,EE,FK,J3,DT,AY,BB,BL,BV,CO,FP,AO,AQ,AL,BD,AX,AC,AA,EQ,AZ,AU,BH,BM,BG,A7,CP,DY,BN,BR,BZ,AB,CW,↓reduceIte,jB,jA,jC,enP,JB,f2,f8,f9,DF hk',CX ag3 hk',encI0,d0]
   exact ⟨by rw [hin,hv],hx⟩
 ·have hk' : ¬ k < l.length:=by simpa using hc
  rw [AJO (by omega) (by omega)] at hin
  rw [jX (show l.length≤k by omega),YI] at hz
  have hv:ixV ns l=z:=by unfold ixV; rw [if_pos hin,hz]
  simp -implicitDefEqProofs only [BC,A8,BK,DI,BA,ED,EU,EW,J3,AY,BB,AO,AQ,AL,BD,AX,AC,AA,AZ,AU,BM,BG,A7,↓reduceIte,jB,jA,jC,f8]
  exact ⟨by rw [hin,hv],hx⟩
end Go.Proofs.YtfpagfhhhlljjaaGreatDoor.Cov
set_option linter.unusedSimpArgs false
set_option maxRecDepth 8000
namespace Go.Proofs.YtfpagfhhhlljjaaGreatDoor.Ho
open Sm Bins Cov Go.RowKit
open Bool renaming not_false→jC
open Int renaming toNat_natCast→qZ
open List renaming getElem?_eq_none→qO,getElem?_eq_getElem→jO,map_cons→jE,map_nil→jD,append_nil→jF,getElem?_cons_zero→zL,getElem?_cons_succ→zQ,length_map→jH
open Nat renaming reduceEqDiff→jB,add_zero→jK,zero_add→jG
open Option renaming getD_some→jA
structure Hl where
 cross:Bool
 idx:Int
 bm:SM
 bins:List Int
def GG (x:Hl):List AV := [.bool x.cross,.int .i64 x.idx,.sl x.bm 1 (x.bins.map qencI)]
theorem ARA (x:Hl):(GG x).length=3:=rfl
theorem bxH (h:Hp) (x:Hl):OM h (.agg (GG x))=some (.ptr h.length 0 0,h ++ [.live 3 [GG x]]):=TZ rfl
theorem ldH {H:Hp} {b:Nat} {x:Hl} (hb:H[b]? = some (.live 3 [GG x])):D6 Tryz.prog H 28 (.ptr b 0 0)=some (.agg (GG x)):=by
 rw [IE A4J AZ6 hb rfl (by rw [ARA]; exact Nat.le_refl 3)]; rfl
theorem AGQ {H:Hp} {b:Nat} {x:Hl} (hb:H[b]? = some (.live 3 [GG x])):D6 Tryz.prog H 4 (.ptr b 0 0)=some (.bool x.cross):=by rw [DV ag4 hb (row:=GG x) rfl]; rfl
theorem YB {H:Hp} {b:Nat} {x:Hl} (hb:H[b]? = some (.live 3 [GG x])):D6 Tryz.prog H 3 (.ptr b 0 1)=some (.int .i64 x.idx):=by rw [DV ag3 hb (row:=GG x) rfl]; rfl
theorem TT {H:Hp} {b:Nat} {x:Hl} (hb:H[b]? = some (.live 3 [GG x])):D6 Tryz.prog H 26 (.ptr b 0 2)=some (.sl x.bm 1 (x.bins.map qencI)):=by rw [DV LQ hb (row:=GG x) rfl]; rfl
def AES (m:Mo) (z:Int):Option Cr:=if 0≤z then m.crs[z.toNat]? else none
def AIZ (m:Mo) (z:Int):Option Pt:=if 0≤z then m.pts[z.toNat]? else none
def AC0 (p:Pt):List Int→Bool
 | [b]=>decide (0≤b) && decide (b < (p.bins.length:Int)) && (kindOf p b.toNat == 0)
 | _=>false
def crF (m:Mo) (x:Hl):Option Cr→Bool
 | some c=>JH (szs m c.pts) x.bins && SG m c x.bins
 | none=>false
def ptF (x:Hl):Option Pt→Bool
 | some p=>AC0 p x.bins
 | none=>false
def SL (m:Mo) (x:Hl):Bool:=if x.cross=true then crF m x (AES m x.idx) else ptF x (AIZ m x.idx)
def NU (m:Mo) (x:Hl):Bool:=(G5 m == 0) && SL m x
theorem ADK {m:Mo} {z:Int} (h:z < 0∨(m.crs.length:Int)≤z):AES m z=none:=by
 unfold AES
 split
 ·exact qO (by omega)
 ·rfl
theorem PX {m:Mo} {i:Nat} (hi:i < m.crs.length):AES m (i:Int)=some m.crs[i]:=by
 unfold AES
 rw [if_pos (by omega),qZ,jO hi]
theorem AB6 {m:Mo} {z:Int} (h:z < 0∨(m.pts.length:Int)≤z):AIZ m z=none:=by
 unfold AIZ
 split
 ·exact qO (by omega)
 ·rfl
theorem XX {m:Mo} {i:Nat} (hi:i < m.pts.length):AIZ m (i:Int)=some m.pts[i]:=by
 unfold AIZ
 rw [if_pos (by omega),qZ,jO hi]
theorem OH (z:Int) (n:Nat):(z < 0∨(n:Int)≤z)∨∃ i:Nat,i < n∧z=(i:Int):=by
 rcases Classical.em (z < 0∨(n:Int)≤z) with h | h
 ·exact .inl h
 ·exact .inr ⟨z.toNat,by omega,by omega⟩
structure Hb (h H:Hp) (m:Mo) (x:Hl) (hb:Nat):Prop where
 gm:H[h.length]? = some (ABlk.live 2 [D8 m])
 gh:H[hb]? = some (ABlk.live 3 [GG x])
 hx:ext h H
theorem Hb.mk' (h:Hp) (m:Mo) (x:Hl):Hb h (h ++ [ABlk.live 2 [D8 m]] ++ [ABlk.live 3 [GG x]]) m x (h ++ [ABlk.live 2 [D8 m]]).length :=
 ⟨CV (CY _ _),CY _ _,((ext.rfl' h).app _).app _⟩
theorem ACY {p:Pt} {l:List Int} (h:l.length≠1):AC0 p l=false:=by
 match l,h with
 | [],_=>rfl
 | [b],h=>exact absurd rfl h
 | _ :: _ :: _,_=>rfl
theorem AQN {p:Pt} {k:Nat} (hk:k < p.bins.length):kindOf p k=p.bins[k].kind:=by unfold kindOf; rw [jO hk]
theorem ZO {p:Pt} {b:Int} (h:b < 0∨(p.bins.length:Int)≤b):AC0 p [b]=false:=by
 show (decide (0≤b) && decide (b < (p.bins.length:Int)) && (kindOf p b.toNat == 0))=false
 rcases h with h | h
 ·rw [show decide (0≤b)=false by rw [decide_eq_false_iff_not]; omega]; rfl
 ·rw [show decide (b < (p.bins.length:Int))=false by rw [decide_eq_false_iff_not]; omega,Bool.and_false]; rfl
theorem ACZ {p:Pt} {k:Nat} (hk:k < p.bins.length):AC0 p [(k:Int)]=(p.bins[k].kind == 0):=by
 show (decide (0≤(k:Int)) && decide ((k:Int) < (p.bins.length:Int)) && (kindOf p (k:Int).toNat == 0))=_
 rw [qZ,AQN hk,show decide (0≤(k:Int))=true by rw [decide_eq_true_eq]; omega,show decide ((k:Int) < (p.bins.length:Int))=true by rw [decide_eq_true_eq]; omega]; rfl
theorem QA (i:Nat):decide ((i:Int) < 0)=false:=by rw [decide_eq_false_iff_not]; omega
theorem SK {i n:Nat} (h:i < n):decide ((i:Int)≥(n:Int))=false:=by rw [decide_eq_false_iff_not]; omega
theorem AJG {i n:Nat} (h:i < n):decide ((i:Int) < (n:Int))=true:=by rw [decide_eq_true_eq]; omega
theorem AJU (i:Nat):decide ((i:Int)≥0)=true:=by rw [decide_eq_true_eq]; omega
theorem WM {l:List Int} (h:l.length=1) : ∃ b,l = [b]:=by
 match l,h with
 | [b],_=>exact ⟨b,rfl⟩
section
variable (G:Nat→AV)
set_option maxHeartbeats 1000000 in
theorem AQ6 (m:Mo) (hg:Cov.Good m) (x:Hl) (hn:x.bins.length≤1048576) (h:Hp):PCall (En G) 28 [.agg (D8 m),.agg (GG x)] h (.bool (SL m x)):=by
 refine ACalls.pure0 rfl ?_
 refine acN Tryz.func28 rfl ?_
 show awp _ _ _ _ _ (EJ _ [.tmp 4] _)
 have t:=Hb.mk' h m x
 simp -implicitDefEqProofs only [BC,A8,BA,AY,BB,AO,AQ,AL,BD,AX,AC,AA,AZ,AU,BM,A7,FD,BN,BJ,BU,AB,BF,BP,↓reduceIte,jB,jK,jA,jC,enP,RU,bxM,bxH]
 generalize h ++ [ABlk.live 2 [D8 m]] ++ [ABlk.live 3 [GG x]]=H at t ⊢
 generalize (h ++ [ABlk.live 2 [D8 m]]).length=hb at t ⊢
 simp -implicitDefEqProofs only [BI,BA,BB,AC,AA,AZ,AB,↓reduceIte,AGQ t.gh]
 cases hc:x.cross
 case true =>
  have hf:SL m x=crF m x (AES m x.idx):=by unfold SL; rw [if_pos hc]
  simp -implicitDefEqProofs only [BC,A8,DT,AY,AO,AQ,AL,BD,AX,AC,AA,AZ,CB,BN,BJ,CG,BX,AB,jE,jD,jF,↓reduceIte,jB,jG,jA,jC,enP,KG,J6,ldM t.gm,YB t.gh,TT t.gh]
  rcases OH x.idx m.crs.length with hz | ⟨i,hi,hz⟩
  ·rw [ADK hz] at hf; change SL m x=false at hf
   refine (ACO G m x.idx hz x.bins x.bm H).use ?_
   simp -implicitDefEqProofs only [zL,zQ,BC,A8,BK,BA,CQ,CJ,AY,BB,BL,BV,CO,JK,AO,AQ,AL,BD,AX,AC,AA,EQ,AZ,AU,BM,BG,A7,CP,DR,FY,IP,AB,↓reduceIte,jB,jA,jC]
   exact ⟨by rw [hf],t.hx⟩
  ·rw [hz,PX hi] at hf
   change SL m x=(JH (szs m m.crs[i].pts) x.bins && SG m m.crs[i] x.bins) at hf
   have hcg:=hg.crs _ (List.getElem_mem hi)
   rw [hz]
   refine (VD G m i hi hcg x.bins x.bm hn H).use ?_
   cases hin:JH (szs m m.crs[i].pts) x.bins
   ·simp -implicitDefEqProofs only [zL,zQ,BC,A8,BK,BA,CQ,CJ,AY,BB,BL,BV,CO,JK,AO,AQ,AL,BD,AX,AC,AA,EQ,AZ,AU,BM,BG,A7,CP,DR,FY,IP,AB,↓reduceIte,jB,jA,jC]
    exact ⟨by rw [hf,hin,Bool.false_and],t.hx⟩
   ·simp -implicitDefEqProofs only [zL,zQ,BC,A8,BA,AY,BB,BL,BV,CO,GV,AO,AQ,AL,BD,AX,AC,AA,AZ,CB,BG,A7,BN,BJ,FY,IP,CG,BX,AB,jE,jD,jF,↓reduceIte,jB,jG,jA,jC,enP,KG,J6,ldM t.gm,YB t.gh,TT t.gh]
    rw [hz]
    refine (AER G m i hi hcg x.bins x.bm hin H).use ?_
    simp -implicitDefEqProofs only [BK,BA,CQ,CJ,AY,BB,BL,BV,CO,GV,AO,AQ,AL,BD,AX,AC,AA,AZ,AU,BM,A7,CP,DY,G7,AB,ES,↓reduceIte,jB,jA,jC]
    exact ⟨by rw [hf,hin,Bool.true_and,Bool.not_not],t.hx⟩
 have hf:SL m x=ptF x (AIZ m x.idx):=by unfold SL; rw [if_neg (by rw [hc]; decide)]
 have l1:=YB t.gh
 have l2:=TT t.gh
 rcases OH x.idx m.pts.length with hz | ⟨i,hi,hz⟩
 ·rw [AB6 hz] at hf; change SL m x=false at hf
  cases d0:decide (x.idx < 0)
  ·have d1:decide (x.idx≥(m.pts.length:Int))=true:=by rw [decide_eq_true_eq]; rw [decide_eq_false_iff_not] at d0; omega
   simp -implicitDefEqProofs only [BC,A8,BO,BK,BI,BA,CQ,CJ,DT,D5,AY,BB,BL,BV,CO,EM,FP,AO,AQ,AL,BD,AX,AC,AA,EQ,AZ,AU,BH,BM,BG,A7,CP,DY,DR,BN,BR,BJ,DU,AB,CW,FX,↓reduceIte,jB,jK,jG,jA,jC,enP,PD,GR,KG,l1,d0,OJ t.gm,jH,d1]
   exact ⟨by rw [hf],t.hx⟩
  ·simp -implicitDefEqProofs only [BC,A8,BO,BK,BI,BA,CQ,CJ,DT,D5,AY,BB,BL,BV,CO,FP,AO,AQ,AL,BD,AX,AC,AA,EQ,AZ,AU,BH,BM,BG,A7,CP,DY,BN,BR,BJ,AB,CW,↓reduceIte,jB,jG,jA,jC,enP,KG,l1,d0]
   exact ⟨by rw [hf],t.hx⟩
 rw [hz,XX hi] at hf
 change SL m x=AC0 m.pts[i] x.bins at hf
 rw [hz] at l1
 rcases Classical.em (x.bins.length=1) with hl | hl
 case inr =>
  have hne:((x.bins.length:Int) != 1)=true:=by simp; omega
  simp -implicitDefEqProofs only [BC,A8,BO,BK,BI,BA,CQ,CJ,DT,D5,AY,BB,BL,BV,CO,EM,AO,AQ,AL,BD,AX,AC,AA,AZ,AU,BH,BM,BG,A7,CP,DR,BN,BR,BJ,DU,AB,ET,CW,FX,↓reduceIte,jB,jK,jG,jA,jC,enP,PD,GR,JG,KG,J6,l1,l2,QA,OJ t.gm,jH,SK hi,hne]
  exact ⟨by rw [hf,ACY hl],t.hx⟩
 obtain ⟨b,hb1⟩:=WM hl
 rw [hb1] at l2 hf
 have h01:0 < ([b]:List Int).length:=by simp
 have i0:JX 1 H (.sl x.bm 1 [qencI b]) (.int .i64 0)=some (.fptr 1 [qencI b] 0 0):=DF (k:=1) h01
 have hne:(((([qencI b]:List (List AV)).length:Nat):Int) != 1)=false:=rfl
 have lb:D6 Tryz.prog H 3 (.fptr 1 [qencI b] 0 0)=some (.int .i64 b):=(CX ag3 h01).trans rfl
 simp -implicitDefEqProofs only [BC,A8,BO,BI,BA,D5,AY,BB,BL,BV,CO,EM,AO,AQ,AL,BD,AX,AC,AA,AZ,AU,BH,BM,BG,A7,CP,DR,BN,BR,BJ,BZ,DU,AB,ET,CW,FX,jE,jD,↓reduceIte,jB,jK,jG,jA,jC,enP,OY,PD,GR,JB,JG,KG,J6,IQ,l1,l2,QA,OJ t.gm,jH,SK hi,hne,DF hi,CX TA hi,NQ,i0,lb]
 rcases OH b m.pts[i].bins.length with hb2 | ⟨k,hk,rfl⟩
 ·rw [ZO hb2] at hf
  cases d0:decide (b≥0)
  ·simp -implicitDefEqProofs only [BK,BA,CJ,AY,BB,BL,BV,CO,JK,AO,AQ,AL,BD,AX,AC,AA,EQ,AZ,AU,BM,BG,A7,CP,DR,↓reduceIte,jB,jA,jC,d0]
   exact ⟨by rw [hf],t.hx⟩
  ·have d1:decide (b < (m.pts[i].bins.length:Int))=false:=by rw [decide_eq_false_iff_not]; rw [decide_eq_true_eq] at d0; omega
   simp -implicitDefEqProofs only [BK,BA,CJ,AY,BB,BL,BV,CO,GV,JK,AO,AQ,AL,BD,AX,AC,AA,EQ,AZ,AU,BH,BM,BG,A7,CP,DY,DR,BN,BR,BJ,BZ,DU,AB,CW,jE,jD,↓reduceIte,jB,jG,jA,jC,enP,JB,J6,PU,d0,l2,i0,lb,jH,d1]
   exact ⟨by rw [hf],t.hx⟩
 ·rw [ACZ hk] at hf
  simp -implicitDefEqProofs only [BK,BA,CJ,AY,BB,BL,BV,CO,GV,AO,AQ,AL,BD,AX,AC,AA,AZ,AU,BH,BM,BG,A7,CP,DY,BN,BR,BJ,BZ,DU,AB,EG,CW,jE,jD,↓reduceIte,jB,jG,jA,jC,enP,JB,J6,RJ,PU,OC,AJU,l2,i0,lb,jH,AJG hk,DF hk,CX ag3 hk,Q3]
  exact ⟨by rw [hf],t.hx⟩
end
end Go.Proofs.YtfpagfhhhlljjaaGreatDoor.Ho
namespace Go.Proofs.YtfpagfhhhlljjaaGreatDoor.Ho
open Sm Bins Cov Xe Go.RowKit
theorem cl4:Tryz.prog.cellsOf 4=1:=by kernel_rfl
theorem A56:Tryz.prog.cellsOf 28=3:=by kernel_rfl
def A2E (x:Hl) (b:Nat):Prop:=okL okI x.bins b
theorem A55:Rd Tryz.prog 28 GG A2E:=by
 intro n
 match n with
 | 0=>exact RdAt.zero
 | 1=>exact AGD Tryz.underlying28
 | n+2 =>
   refine RdAt.map (fun x:Bool × Int × Is × Unit=>(⟨x.1,x.2.1,x.2.2.1.m,x.2.2.1.l⟩:Hl))
    (OV Tryz.underlying28 (JI rfl cl4 (fun _=>rfl) (AWU Tryz.underlying4 _) (JI rfl cl3 (fun _=>rfl) (rdI _) (JI rfl A1C ADG (A0F _) TM)))) (fun x=>rfl) ?_
   rintro ⟨a,b,c,_⟩ N ⟨_,hN,b1,b2,hb,h1,b3,b4,hb2,h2,b5,b6,hb3,h3,_⟩
   exact h3.mono (by omega)
theorem A4W {x:Hl} {b:Nat} (h:A2E x b) (hb:b≤1048576):x.bins.length≤1048576:=Nat.le_trans (okL.length h) hb
end Go.Proofs.YtfpagfhhhlljjaaGreatDoor.Ho
set_option linter.unusedSimpArgs false
set_option maxRecDepth 8000
namespace Go.Proofs.YtfpagfhhhlljjaaGreatDoor.Ho
open Sm Bins Cov Go.RowKit
open Bool renaming not_false→jC,false_and→qM,true_and→qJ,not_true→jU,and_eq_true→jV
open Int renaming toNat_natCast→qZ
open List renaming map_cons→jE,map_nil→jD,append_nil→jF,getElem?_cons_zero→zL,getElem?_cons_succ→zQ,getElem_mem→jP,length_map→jH,getElem?_eq_getElem→jO,drop_eq_getElem_cons→zH,mem_cons_of_mem→wO
open Nat renaming le_of_ble_eq_true→jI,reduceEqDiff→jB,add_zero→jK,zero_add→jG,reduceAdd→jM,one_mul→wJ,add_mul→zU,mul_le_mul_right→wF
open Option renaming getD_some→jA
section
variable (G:Nat→AV)
theorem valid_prog (hG:GOk G) (m:Mo) (hm:MoOk m) (x:Hl) (hn:x.bins.length≤1048576) (h:Hp):PCall (En G) 11 [.agg (D8 m),.agg (GG x)] h (.bool (NU m x)):=by
 refine ACalls.pure0 rfl ?_
 refine acN Tryz.func11 rfl ?_
 show awp _ _ _ _ _ (EJ _ [.tmp 4] _)
 have t:=Hb.mk' h m x
 simp -implicitDefEqProofs only [BC,A8,BA,AY,BB,AO,AQ,AL,BD,AX,AC,AA,AZ,AU,BM,A7,FD,BN,BU,BF,BP,↓reduceIte,jB,jA,jC,enP,bxM,bxH]
 generalize h ++ [ABlk.live 2 [D8 m]] ++ [ABlk.live 3 [GG x]]=H at t ⊢
 generalize (h ++ [ABlk.live 2 [D8 m]]).length=hb at t ⊢
 simp -implicitDefEqProofs only [AY,AO,AQ,AL,BD,AX,AC,AA,AZ,CB,CG,BX,AB,jE,jD,jF,↓reduceIte,jA,jC,ldM t.gm]
 refine (ACG G hG m hm H).use ?_
 unfold NU
 cases h0:(G5 m == 0)
 ·simp -implicitDefEqProofs only [BK,BA,CJ,AY,BB,BL,BV,CO,JK,AO,AQ,AL,BD,AX,AC,AA,EQ,AZ,AU,BH,BM,BG,A7,CP,DR,BR,AB,EG,↓reduceIte,jB,jA,jC,enP,h0]
  exact ⟨by rw [qM],t.hx⟩
 ·have hg:Cov.Good m:=VS (by simpa using h0)
  simp -implicitDefEqProofs only [AY,BL,BV,CO,GV,AO,AQ,AL,BD,AX,AC,AA,AZ,AU,CB,BH,BG,BN,BR,CG,BX,AB,EG,jE,jD,jF,↓reduceIte,jB,jA,jC,enP,h0,ldM t.gm,ldH t.gh]
  refine (AQ6 G m hg x hn H).use ?_
  simp -implicitDefEqProofs only [BK,BA,CJ,AY,BB,AO,AQ,AL,BD,AX,AC,AA,AZ,AU,BM,A7,CP,DY,↓reduceIte,jB,jA,jC]
  exact ⟨by rw [qJ],t.hx⟩
set_option maxHeartbeats 1000000 in
theorem valid_ref (m:Mo) (hm:MoOk m) (x:Hl) (hn:x.bins.length≤1048576) (h:Hp):PCall (En G) 12 [.agg (D8 m),.agg (GG x)] h (.bool (NU m x)):=by
 refine ACalls.pure0 rfl ?_
 refine acN Tryz.func12 rfl ?_
 show awp _ _ _ _ _ (EJ _ [.tmp 4] _)
 have t:=Hb.mk' h m x
 simp -implicitDefEqProofs only [BC,A8,BA,AY,BB,AO,AQ,AL,BD,AX,AC,AA,AZ,AU,BM,A7,FD,BN,BU,BF,BP,↓reduceIte,jB,jA,jC,enP,bxM,bxH]
 generalize h ++ [ABlk.live 2 [D8 m]] ++ [ABlk.live 3 [GG x]]=H at t ⊢
 generalize (h ++ [ABlk.live 2 [D8 m]]).length=hb at t ⊢
 simp -implicitDefEqProofs only [AY,AO,AQ,AL,BD,AX,AC,AA,AZ,CB,CG,BX,AB,jE,jD,jF,↓reduceIte,jA,jC,ldM t.gm]
 refine (AQG G m hm H).use ?_
 unfold NU
 cases h0:(G5 m == 0)
 ·simp -implicitDefEqProofs only [BC,A8,BK,BI,BA,CQ,CJ,DT,AY,BB,AO,AQ,AL,BD,AX,AC,AA,AZ,AU,BH,BM,A7,BR,AB,ET,↓reduceIte,jA,jC,enP,bne,h0]
  exact ⟨by rw [qM],t.hx⟩
 have hg:Cov.Good m:=VS (by simpa using h0)
 rw [qJ]
 simp -implicitDefEqProofs only [BC,A8,BO,BI,BA,D5,AY,BB,AO,AQ,AL,BD,AX,AC,AA,AZ,AU,BH,BN,BR,BJ,AB,ET,↓reduceIte,jB,jK,jA,jU,jC,enP,RU,bne,h0,AGQ t.gh]
 cases hc:x.cross
 case true =>
  have hf:SL m x=crF m x (AES m x.idx):=by unfold SL; rw [if_pos hc]
  simp -implicitDefEqProofs only [BC,A8,DT,AY,AO,AQ,AL,BD,AX,AC,AA,AZ,CB,BN,BJ,CG,BX,AB,jE,jD,jF,↓reduceIte,jB,jG,jA,jC,enP,KG,J6,ldM t.gm,YB t.gh,TT t.gh]
  rcases OH x.idx m.crs.length with hz | ⟨i,hi,hz⟩
  ·rw [ADK hz] at hf; change SL m x=false at hf
   refine (AEK G m x.idx hz x.bins x.bm H).use ?_
   simp -implicitDefEqProofs only [zL,zQ,BC,A8,BK,BA,CQ,CJ,AY,BB,BL,BV,CO,JK,AO,AQ,AL,BD,AX,AC,AA,EQ,AZ,AU,BM,BG,A7,CP,DR,FY,IP,AB,↓reduceIte,jB,jA,jC]
   exact ⟨by rw [hf],t.hx⟩
  ·rw [hz,PX hi] at hf
   change SL m x=(JH (szs m m.crs[i].pts) x.bins && SG m m.crs[i] x.bins) at hf
   have hcg:=hg.crs _ (jP hi)
   rw [hz]
   refine (AEL G m i hi hcg x.bins x.bm hn H).use ?_
   cases hin:JH (szs m m.crs[i].pts) x.bins
   ·simp -implicitDefEqProofs only [zL,zQ,BC,A8,BK,BA,CQ,CJ,AY,BB,BL,BV,CO,JK,AO,AQ,AL,BD,AX,AC,AA,EQ,AZ,AU,BM,BG,A7,CP,DR,FY,IP,AB,↓reduceIte,jB,jA,jC]
    exact ⟨by rw [hf,hin,qM],t.hx⟩
   ·simp -implicitDefEqProofs only [zL,zQ,BC,A8,BA,AY,BB,BL,BV,CO,GV,AO,AQ,AL,BD,AX,AC,AA,AZ,CB,BG,A7,BN,BJ,FY,IP,CG,BX,AB,jE,jD,jF,↓reduceIte,jB,jG,jA,jC,enP,KG,J6,ldM t.gm,YB t.gh,TT t.gh]
    rw [hz]
    refine (AG7 G m i hi hcg x.bins x.bm hin H).use ?_
    simp -implicitDefEqProofs only [BK,BA,CQ,CJ,AY,BB,BL,BV,CO,GV,AO,AQ,AL,BD,AX,AC,AA,AZ,AU,BM,A7,CP,DY,G7,AB,ES,↓reduceIte,jB,jA,jC]
    exact ⟨by rw [hf,hin,qJ,Bool.not_not],t.hx⟩
 have hf:SL m x=ptF x (AIZ m x.idx):=by unfold SL; rw [if_neg (by rw [hc]; decide)]
 have l1:=YB t.gh
 have l2:=TT t.gh
 rcases OH x.idx m.pts.length with hz | ⟨i,hi,hz⟩
 ·rw [AB6 hz] at hf; change SL m x=false at hf
  cases d0:decide (x.idx < 0)
  ·have d1:decide (x.idx≥(m.pts.length:Int))=true:=by rw [decide_eq_true_eq]; rw [decide_eq_false_iff_not] at d0; omega
   simp -implicitDefEqProofs only [BC,A8,BO,BK,BI,BA,CQ,CJ,DT,D5,AY,BB,BL,BV,CO,EM,FP,AO,AQ,AL,BD,AX,AC,AA,EQ,AZ,AU,BH,BM,BG,A7,CP,DY,DR,BN,BR,BJ,DU,AB,CW,FX,↓reduceIte,jB,jK,jG,jA,jC,enP,PD,GR,KG,l1,d0,OJ t.gm,jH,d1]
   exact ⟨by rw [hf],t.hx⟩
  ·simp -implicitDefEqProofs only [BC,A8,BO,BK,BI,BA,CQ,CJ,DT,D5,AY,BB,BL,BV,CO,FP,AO,AQ,AL,BD,AX,AC,AA,EQ,AZ,AU,BH,BM,BG,A7,CP,DY,BN,BR,BJ,AB,CW,↓reduceIte,jB,jG,jA,jC,enP,KG,l1,d0]
   exact ⟨by rw [hf],t.hx⟩
 rw [hz,XX hi] at hf
 change SL m x=AC0 m.pts[i] x.bins at hf
 rw [hz] at l1
 rcases Classical.em (x.bins.length=1) with hl | hl
 case inr =>
  have hne:((x.bins.length:Int) == 1)=false:=by simp; omega
  simp -implicitDefEqProofs only [BC,A8,BO,BK,BI,BA,CQ,CJ,DT,D5,AY,BB,BL,BV,CO,EM,AO,AQ,AL,BD,AX,AC,AA,AZ,AU,BH,BM,BG,A7,CP,DR,BN,BR,BJ,DU,AB,ET,CW,FX,↓reduceIte,jB,jK,jG,jA,jC,enP,PD,GR,JG,KG,J6,l1,l2,QA,OJ t.gm,jH,SK hi,bne,hne]
  exact ⟨by rw [hf,ACY hl],t.hx⟩
 obtain ⟨b,hb1⟩:=WM hl
 rw [hb1] at l2 hf
 have h01:0 < ([b]:List Int).length:=by simp
 have i0:JX 1 H (.sl x.bm 1 [qencI b]) (.int .i64 0)=some (.fptr 1 [qencI b] 0 0):=DF (k:=1) h01
 have hne:(((([qencI b]:List (List AV)).length:Nat):Int) == 1)=true:=rfl
 have lb:D6 Tryz.prog H 3 (.fptr 1 [qencI b] 0 0)=some (.int .i64 b):=(CX ag3 h01).trans rfl
 simp -implicitDefEqProofs only [BC,A8,BO,BI,BA,D5,AY,BB,BL,BV,CO,EM,AO,AQ,AL,BD,AX,AC,AA,AZ,AU,BH,BM,BG,A7,CP,DR,BN,BR,BJ,BZ,DU,AB,ET,CW,FX,jE,jD,↓reduceIte,jB,jK,jG,jA,jU,jC,enP,OY,PD,GR,JB,JG,KG,J6,IQ,l1,l2,QA,OJ t.gm,jH,SK hi,bne,hne,DF hi,CX TA hi,NQ,i0,lb]
 rcases OH b m.pts[i].bins.length with hb2 | ⟨k,hk,rfl⟩
 ·rw [ZO hb2] at hf
  cases d0:decide (b≥0)
  ·simp -implicitDefEqProofs only [BK,BA,CJ,AY,BB,BL,BV,CO,JK,AO,AQ,AL,BD,AX,AC,AA,EQ,AZ,AU,BM,BG,A7,CP,DR,↓reduceIte,jB,jA,jC,d0]
   exact ⟨by rw [hf],t.hx⟩
  ·have d1:decide (b < (m.pts[i].bins.length:Int))=false:=by rw [decide_eq_false_iff_not]; rw [decide_eq_true_eq] at d0; omega
   simp -implicitDefEqProofs only [BK,BA,CJ,AY,BB,BL,BV,CO,GV,JK,AO,AQ,AL,BD,AX,AC,AA,EQ,AZ,AU,BH,BM,BG,A7,CP,DY,DR,BN,BR,BJ,BZ,DU,AB,CW,jE,jD,↓reduceIte,jB,jG,jA,jC,enP,JB,J6,PU,d0,l2,i0,lb,jH,d1]
   exact ⟨by rw [hf],t.hx⟩
 ·rw [ACZ hk] at hf
  simp -implicitDefEqProofs only [BK,BA,CJ,AY,BB,BL,BV,CO,GV,AO,AQ,AL,BD,AX,AC,AA,AZ,AU,BH,BM,BG,A7,CP,DY,BN,BR,BJ,BZ,DU,AB,EG,CW,jE,jD,↓reduceIte,jB,jG,jA,jC,enP,JB,J6,RJ,PU,OC,AJU,l2,i0,lb,jH,AJG hk,DF hk,CX ag3 hk,Q3]
  exact ⟨by rw [hf],t.hx⟩
end
abbrev dot:ByteArray:=⟨#[46]⟩
abbrev comma:ByteArray:=⟨#[44]⟩
def QO (m:Mo) (p b:Int):ByteArray:=match (F9 m p)[b.toNat]? with
 | some x=>x.name
 | none=>⟨#[]⟩
def prN (m:Mo):ByteArray→Bool→List Int→List Int→ByteArray
 | s,f,p :: ps,b :: bs=>prN m ((if f=true then s else s ++ comma) ++ QO m p b) false ps bs
 | s,_,_,_=>s
def prC (m:Mo) (x:Hl):Option Cr→ByteArray
 | some c=>prN m (c.name ++ dot) true c.pts x.bins
 | none=>⟨#[]⟩
def prP (m:Mo) (x:Hl):Option Pt→ByteArray
 | some p=>p.name ++ dot ++ QO m x.idx (x.bins.headD 0)
 | none=>⟨#[]⟩
def prH (m:Mo) (x:Hl):ByteArray:=if NU m x=true then (if x.cross=true then prC m x (AES m x.idx) else prP m x (AIZ m x.idx)) else ⟨#[]⟩
theorem AVD {m:Mo} {p b:Int} (hb:b.toNat < (F9 m p).length):QO m p b=(F9 m p)[b.toNat].name:=by
 unfold QO; rw [jO hb]
theorem AWX (m:Mo) (s:ByteArray) (f:Bool) (ps:List Int):prN m s f ps []=s:=by cases ps <;> rfl
theorem RZ {m:Mo} {x:Hl} (hv:NU m x=true) (hc:x.cross=true) : ∃ i,∃ hi:i < m.crs.length,x.idx=(i:Int)∧JH (szs m m.crs[i].pts) x.bins=true∧SG m m.crs[i] x.bins=true∧Cov.Good m:=by
 unfold NU at hv
 rw [jV] at hv
 obtain ⟨h0,hf⟩:=hv
 unfold SL at hf
 rw [if_pos hc] at hf
 rcases OH x.idx m.crs.length with hz | ⟨i,hi,hz⟩
 ·rw [ADK hz] at hf; exact Bool.noConfusion (show false=true from hf)
 ·rw [hz,PX hi] at hf
  change (JH (szs m m.crs[i].pts) x.bins && SG m m.crs[i] x.bins)=true at hf
  rw [jV] at hf
  exact ⟨i,hi,hz,hf.1,hf.2,VS (by simpa using h0)⟩
theorem RY {m:Mo} {x:Hl} (hv:NU m x=true) (hc:x.cross=false) : ∃ i,∃ hi:i < m.pts.length,∃ k,∃ hk:k < m.pts[i].bins.length,x.idx=(i:Int)∧x.bins = [(k:Int)]∧m.pts[i].bins[k].kind=0∧Cov.Good m:=by
 unfold NU at hv
 rw [jV] at hv
 obtain ⟨h0,hf⟩:=hv
 unfold SL at hf
 rw [if_neg (by rw [hc]; decide)] at hf
 rcases OH x.idx m.pts.length with hz | ⟨i,hi,hz⟩
 ·rw [AB6 hz] at hf; exact Bool.noConfusion (show false=true from hf)
 ·rw [hz,XX hi] at hf
  change AC0 m.pts[i] x.bins=true at hf
  rcases Classical.em (x.bins.length=1) with hl | hl
  ·obtain ⟨b,hb⟩:=WM hl
   rw [hb] at hf
   rcases OH b m.pts[i].bins.length with hb2 | ⟨k,hk,rfl⟩
   ·rw [ZO hb2] at hf; exact Bool.noConfusion (show false=true from hf)
   ·rw [ACZ hk] at hf
    exact ⟨i,hi,k,hk,hz,hb,by simpa using hf,VS (by simpa using h0)⟩
  ·rw [ACY hl] at hf; exact Bool.noConfusion (show false=true from hf)
theorem QT {a b:ByteArray} (h:a.size+b.size≤9223372036854775807):JV Tryz.prog 9 .add (.str a) (.str b)=some (.str (a ++ b)):=by
 show ANJ .add a b=_
 unfold ANJ
 have hm:IntKind.i64.max=9223372036854775807:=by decide
 simp only
 rw [if_pos (by rw [hm]; omega)]
theorem SV:dot.size=1:=rfl
theorem XE:comma.size=1:=rfl
section
variable (G:Nat→AV)
set_option maxHeartbeats 2000000 in
theorem AP7 (m:Mo) (hm:MoOk m) (x:Hl) (hn:x.bins.length≤1048576) (h:Hp):PCall (En G) 14 [.agg (D8 m),.agg (GG x)] h (.str (prH m x)):=by
 refine ACalls.pure0 rfl ?_
 refine acN Tryz.func14 rfl ?_
 show awp _ _ _ _ _ (EJ _ [.tmp 4] _)
 have t:=Hb.mk' h m x
 simp -implicitDefEqProofs only [BC,A8,BA,AY,BB,AO,AQ,AL,BD,AX,AC,AA,AZ,AU,IA,A7,FD,BN,BU,BF,BP,↓reduceIte,jB,jA,jC,enP,bxM,bxH]
 generalize h ++ [ABlk.live 2 [D8 m]] ++ [ABlk.live 3 [GG x]]=H at t ⊢
 generalize (h ++ [ABlk.live 2 [D8 m]]).length=hb at t ⊢
 simp -implicitDefEqProofs only [AY,AO,AQ,AL,BD,AX,AC,AA,AZ,CB,BN,CG,BX,AB,jE,jD,jF,↓reduceIte,jB,jA,jC,enP,ldM t.gm,ldH t.gh]
 refine (valid_ref G m hm x hn H).use ?_
 cases hv:NU m x
 ·simp -implicitDefEqProofs only [BC,A8,BK,BI,BA,CQ,CJ,DT,AY,BB,AO,AQ,AL,BD,AX,AC,AA,AZ,AU,IA,A7,G7,AB,ES,↓reduceIte,jA,jC]
  exact ⟨by unfold prH; rw [hv]; rfl,t.hx⟩
 simp -implicitDefEqProofs only [BC,A8,BO,BI,BA,D5,AY,BB,AO,AQ,AL,BD,AX,AC,AA,AZ,BN,G7,BJ,AB,ES,↓reduceIte,jB,jK,jA,jU,jC,enP,RU,AGQ t.gh]
 cases hc:x.cross
 ·obtain ⟨i,hi,k,hk,hz,hbn,_,hg⟩:=RY hv hc
  have l1:=YB t.gh
  have l2:=TT t.gh
  rw [hz] at l1
  rw [hbn] at l2
  have h01:0 < ([(k:Int)]:List Int).length:=by simp
  have i0:JX 1 H (.sl x.bm 1 [qencI k]) (.int .i64 0)=some (.fptr 1 [qencI k] 0 0):=DF (k:=1) h01
  have lb:D6 Tryz.prog H 3 (.fptr 1 [qencI k] 0 0)=some (.int .i64 k):=(CX ag3 h01).trans rfl
  have hr:prH m x=m.pts[i].name ++ dot ++ m.pts[i].bins[k].name:=by
   unfold prH
   rw [if_pos hv,if_neg (by rw [hc]; decide),hz,XX hi]
   show m.pts[i].name ++ dot ++ QO m x.idx (x.bins.headD 0)=_
   have hbe:F9 m (i:Int)=m.pts[i].bins:=by unfold F9; rw [qZ,jO hi]
   rw [hz,hbn]
   show m.pts[i].name ++ dot ++ QO m (i:Int) (k:Int)=_
   unfold QO
   rw [hbe,qZ,jO hk]
  have hpo:=hm.pts _ (jP hi)
  have n1:=hpo.name
  have n2:=(hpo.bins _ (jP hk)).name
  have a1:=QT (a:=m.pts[i].name) (b:=dot) (by rw [SV]; omega)
  have a2:=QT (a:=m.pts[i].name ++ dot) (b:=m.pts[i].bins[k].name) (by rw [ByteArray.size_append,SV]; omega)
  simp -implicitDefEqProofs only [BC,DT,jC]
  refine EX (by kernel_rfl) ?_
  simp -implicitDefEqProofs only [F6,EF,DZ,FC,EH,IK,FB,IB,D9,EC,BK,BA,CQ,CJ,AO,AA,AZ,AU,BH,IA,BN,BR,BJ,BZ,AB,jE,jD,↓reduceIte,jB,jM,jK,jG,jA,enP,OY,GR,JB,KG,J6,RJ,XC,IQ,TW,l1,l2,OJ t.gm,DF hi,CX ag9 hi,ADF,CX TA hi,NQ,i0,lb,DF hk,CX ag9 hk,YQ,a1,a2]
  exact ⟨(congrArg AV.str hr).symm,t.hx⟩
 obtain ⟨i,hi,hz,hin,_,hg⟩:=RZ hv hc
 have hcg:=hg.crs _ (jP hi)
 have hlen:=MC hin
 have hsl:=KW m m.crs[i].pts
 have l1:=YB t.gh
 have l2:=TT t.gh
 rw [hz] at l1
 have hr:prH m x=prN m (m.crs[i].name ++ dot) true m.crs[i].pts x.bins:=by
  unfold prH
  rw [if_pos hv,if_pos hc,hz,PX hi]; rfl
 have hco:=hm.crs _ (jP hi)
 have n0:=hco.name
 have hfour:=hcg.four
 have a0:=QT (a:=m.crs[i].name) (b:=dot) (by rw [SV]; omega)
 have hs0:(m.crs[i].name ++ dot).size≤1048577+0 * 1099511627777:=by rw [ByteArray.size_append,SV]; omega
 simp -implicitDefEqProofs only [BC,BQ,A8,BO,BA,D5,AY,BB,AO,AQ,AL,BD,AX,AC,AA,AZ,AU,BH,IA,A7,BN,BR,BJ,BZ,AB,↓reduceIte,jB,jK,jG,jA,jU,jC,enP,PE,IW,KG,XB,l1,RI t.gm,DF hi,CX ag9 hi,ADH,a0]
 refine DL (fun n F H' => ∃ k s,n+k=x.bins.length∧F 2 = .ptr h.length 0 0∧F 3 = .ptr hb 0 0∧F 5 = .str s∧F 6 = .int .i64 (k:Nat)∧H'=H∧s.size≤1048577+k * 1099511627777∧prH m x=prN m s (k == 0) (m.crs[i].pts.drop k) (x.bins.drop k)) x.bins.length
  ⟨0,m.crs[i].name ++ dot,by simp,by simp -implicitDefEqProofs only [AA,↓reduceIte,jB],by simp -implicitDefEqProofs only [AA,↓reduceIte,jB],by simp -implicitDefEqProofs only [AA,↓reduceIte,jB],by simp -implicitDefEqProofs only [AA,↓reduceIte] <;> rfl,rfl,hs0,hr⟩ ?_
 rintro n F H' ⟨k,s,hk,f2,f3,f5,f6,rfl,hss,hp⟩
 simp -implicitDefEqProofs only [BC,A8,BI,BA,AY,BB,AO,AQ,AL,BD,AX,AC,AA,AZ,BG,BN,BR,BJ,DU,AB,CW,↓reduceIte,jB,jG,jA,jC,enP,JG,J6,f3,f6,l2,jH]
 refine CU (fun hcc => ?_) (fun hcc => ?_)
 ·have hk':k < x.bins.length:=by simpa using hcc
  have hkp:k < m.crs[i].pts.length:=by omega
  have hks:k < (szs m m.crs[i].pts).length:=by omega
  obtain ⟨g0,g1⟩:=YH hin k hk' hks
  have hgs:(szs m m.crs[i].pts)[k]=(F9 m m.crs[i].pts[k]).length:=G9 (XQ m m.crs[i].pts k hkp)
  have hbt:(x.bins[k]).toNat < (F9 m m.crs[i].pts[k]).length:=by omega
  have hbi:x.bins[k]=(((x.bins[k]).toNat:Nat):Int):=by omega
  obtain ⟨sb,ls⟩:=hcg.here.ld hkp H'
  have ixb:JX 4 H' (.sl sb 4 ((F9 m m.crs[i].pts[k]).map GN)) (.int .i64 x.bins[k])=some (.fptr 4 ((F9 m m.crs[i].pts[k]).map GN) (x.bins[k]).toNat 0):=by rw [hbi]; exact DF hbt
  rw [zH hkp,zH hk'] at hp
  have hnb:(F9 m m.crs[i].pts[k])[(x.bins[k]).toNat].name.size≤1099511627776:=by
   have hpo:=hm.pts _ (jP (hcg.here.toNat hkp))
   have hmem:(F9 m m.crs[i].pts[k])[(x.bins[k]).toNat]∈(m.pts[(m.crs[i].pts[k]).toNat]'(hcg.here.toNat hkp)).bins:=by rw [hcg.here.bins hkp]; exact jP hbt
   exact (hpo.bins _ hmem).name
  have hstep : ∀ s',(if (k == 0)=true then s else s ++ comma)=s'→prH m x=prN m (s' ++ (F9 m m.crs[i].pts[k])[(x.bins[k]).toNat].name) ((k+1) == 0) (m.crs[i].pts.drop (k+1)) (x.bins.drop (k+1)):=fun s' e=>by
   rw [hp,← e,← AVD hbt]; rfl
  simp -implicitDefEqProofs only [BC,BQ,A8,BO,BI,BA,AY,BB,AO,AQ,AL,BD,AX,AC,AA,AZ,AU,BH,BG,BR,AB,EY,↓reduceIte,jB,jA,jC,enP,f6]
  refine CU (fun hq => ?_) (fun hq => ?_)
  ·have hk0 : ¬ k=0:=by have:(0:Int) < (k:Int):=by simpa using hq
                        omega
   have hs:=hstep (s ++ comma) (if_neg (by simpa using hk0))
   have c1:=QT (a:=s) (b:=comma) (by rw [XE]; omega)
   have c2:=QT (a:=s ++ comma) (b:=(F9 m m.crs[i].pts[k])[(x.bins[k]).toNat].name) (by rw [ByteArray.size_append,XE]; omega)
   simp -implicitDefEqProofs only [A8,BA,AY,BB,AO,AQ,AL,BD,AX,AC,AA,AZ,AU,IA,BG,A7,BR,AB,↓reduceIte,jB,jA,jC,enP,f5,c1]
   refine EX (by kernel_rfl) ?_
   simp -implicitDefEqProofs only [F6,EF,DZ,FC,EH,FI,IK,FB,IB,D9,EC,A8,BA,EI,EP,AY,BB,AO,AQ,AL,BD,AX,AC,AA,AZ,AU,BH,BG,A7,BN,BR,BJ,BZ,AB,DK,↓reduceIte,jB,jM,jK,jG,jA,jC,enP,OY,PE,GR,IW,JB,KG,J6,RJ,IQ,TW,JD,f2,f3,f6,l1,l2,OJ t.gm,RI t.gm,DF hi,CX LQ hi,OT,DF hkp,CX ag3 hkp,Bins.encI0,hcg.here.ix hkp,ls,DF hk',CX ag3 hk',ixb,CX ag9 hbt,YQ,c2,wrap_succ (show k < 9223372036854775807 by omega)]
   exact ⟨n - 1,by omega,k+1,s ++ comma ++ (F9 m m.crs[i].pts[k])[(x.bins[k]).toNat].name,by omega,by first | exact True.intro | exact f2,by first | exact True.intro | exact f3,by first | exact True.intro | exact rfl,by first | exact True.intro | exact rfl,by first | exact True.intro | exact rfl,by rw [ByteArray.size_append,ByteArray.size_append,XE]; omega,hs⟩
  ·have hk0:k=0:=by have : ¬ (0:Int) < (k:Int):=by simpa using hq
                    omega
   have hs:=hstep s (if_pos (by simpa using hk0))
   have c2:=QT (a:=s) (b:=(F9 m m.crs[i].pts[k])[(x.bins[k]).toNat].name) (by omega)
   simp -implicitDefEqProofs only [BO,BA]
   refine EX (by kernel_rfl) ?_
   simp -implicitDefEqProofs only [F6,EF,DZ,FC,EH,FI,IK,FB,IB,D9,EC,A8,BA,EI,EP,AY,BB,AO,AQ,AL,BD,AX,AC,AA,AZ,AU,BH,BG,A7,BN,BR,BJ,BZ,AB,DK,↓reduceIte,jB,jM,jK,jG,jA,jC,enP,OY,PE,GR,IW,JB,KG,J6,RJ,IQ,TW,JD,f2,f3,f5,f6,l1,l2,OJ t.gm,RI t.gm,DF hi,CX LQ hi,OT,DF hkp,CX ag3 hkp,Bins.encI0,hcg.here.ix hkp,ls,DF hk',CX ag3 hk',ixb,CX ag9 hbt,YQ,c2,wrap_succ (show k < 9223372036854775807 by omega)]
   exact ⟨n - 1,by omega,k+1,s ++ (F9 m m.crs[i].pts[k])[(x.bins[k]).toNat].name,by omega,by first | exact True.intro | exact f2,by first | exact True.intro | exact f3,by first | exact True.intro | exact rfl,by first | exact True.intro | exact rfl,by first | exact True.intro | exact rfl,by rw [ByteArray.size_append]; omega,hs⟩
 ·have hk' : ¬ k < x.bins.length:=by simpa using hcc
  rw [List.drop_eq_nil_of_le (show x.bins.length≤k by omega),AWX] at hp
  simp -implicitDefEqProofs only [BC,A8,BK,DI,BA,ED,EU,EW,CJ,AY,BB,AO,AQ,AL,BD,AX,AC,AA,AZ,BG,A7,↓reduceIte,jB,jA,jC,f5]
  exact ⟨by rw [hp],t.hx⟩
end
theorem foldl_mul : ∀ (l:List Nat) (a:Nat),l.foldl (· * ·) a=a * l.foldl (· * ·) 1
 | [],a=>(Nat.mul_one a).symm
 | n :: l,a=>by
   show l.foldl (· * ·) (a * n)=a * l.foldl (· * ·) (1 * n)
   rw [foldl_mul l (a * n),foldl_mul l (1 * n),wJ,Nat.mul_assoc]
theorem AB7 (n:Nat) (ns:List Nat):I4 (n :: ns)=n * I4 ns:=by
 unfold I4
 show ns.foldl (· * ·) (1 * n)=_
 rw [wJ,foldl_mul]
theorem AE9 : ∀ {ns:List Nat},(∀ n∈ns,1≤n)→1≤I4 ns
 | [],_=>Nat.le_refl 1
 | n :: ns,h=>by
   rw [AB7]
   exact Nat.mul_le_mul (h n List.mem_cons_self) (AE9 fun k hk=>h k (wO _ hk))
theorem AT5 : ∀ {ns:List Nat} {l:List Int} {z:Nat},JH ns l=true→(∀ n∈ns,1≤n)→(z+1) * I4 ns≤4611686018427387904→∃ r:Nat,UL ns l (z:Int)=((z * I4 ns+r:Nat):Int)∧r < I4 ns
 | [],[],z,_,_,_=>⟨0,by show (z:Int)=((z * 1+0:Nat):Int); omega,by decide⟩
 | [],_ :: _,_,h,_,_=>by simp [JH] at h
 | _ :: _,[],_,h,_,_=>by simp [JH] at h
 | n :: ns,x :: xs,z,h,h1,hb=>by
   simp only [JH,jV,decide_eq_true_eq] at h
   obtain ⟨⟨x0,x1⟩,hr⟩:=h
   have hP:=AE9 (ns:=ns) fun k hk=>h1 k (wO _ hk)
   rw [AB7] at hb ⊢
   obtain ⟨y,rfl⟩ : ∃ y:Nat,x=(y:Int):=⟨x.toNat,by omega⟩
   have hy:y < n:=by omega
   generalize hp:I4 ns=P at hP hb ⊢
   have e1:(z+1) * (n * P)=(z * n+n) * P:=by rw [← Nat.mul_assoc,zU,wJ]
   have e2:(z * n+n)≤(z * n+n) * P:=Nat.le_mul_of_pos_right _ hP
   have e3:(z * n+y+1) * P≤(z * n+n) * P:=wF P (by omega)
   have w1:IntKind.i64.wrap ((z:Int) * (n:Int))=((z * n:Nat):Int):=by rw [← Int.natCast_mul]; exact MO (by omega)
   have w2:IntKind.i64.wrap (((z * n:Nat):Int)+(y:Int))=((z * n+y:Nat):Int):=by rw [← Int.natCast_add]; exact MO (by omega)
   obtain ⟨r,r1,r2⟩:=AT5 (z:=z * n+y) hr (fun k hk=>h1 k (wO _ hk)) (by rw [hp]; omega)
   rw [hp] at r1 r2
   refine ⟨y * P+r,?_,?_⟩
   ·show UL ns xs (IntKind.i64.wrap (IntKind.i64.wrap ((z:Int) * (n:Int))+(y:Int)))=_
    rw [w1,w2,r1]
    congr 1
    rw [zU,Nat.mul_assoc]
    omega
   ·have:(y+1) * P≤n * P:=wF P hy
    rw [zU,wJ] at this
    omega
theorem AT6 {m:Mo} (hg:Cov.Good m) {i:Nat} (hi:i < m.crs.length) {l:List Int} (hin:JH (szs m m.crs[i].pts) l=true) : ∃ k:Nat,UL (szs m m.crs[i].pts) l 0=(k:Int)∧k < I4 (szs m m.crs[i].pts):=by
 have hcg:=hg.crs _ (jP hi)
 have hs:=hg.full.szs hcg.here
 have hfour:=hcg.four
 have hp:I4 (szs m m.crs[i].pts)≤64 ^ 4:=AI0 _ 4 (fun n hn=>(hs n hn).2) (by rw [KW]; exact hfour)
 obtain ⟨r,r1,r2⟩:=AT5 (z:=0) hin (fun n hn=>(hs n hn).1) (by omega)
 exact ⟨r,by rw [show (0:Int)=((0:Nat):Int) from rfl,r1,Nat.zero_mul,jG],r2⟩
end Go.Proofs.YtfpagfhhhlljjaaGreatDoor.Ho
set_option linter.unusedSimpArgs false
set_option maxRecDepth 8000
namespace Go.Proofs.YtfpagfhhhlljjaaGreatDoor.Ho
open Sm Bins Cov Xe Go.RowKit
open Bool renaming not_false→jC,not_true→jU,false_and→qM,true_and→qJ
open List renaming getElem?_eq_getElem→jO,map_cons→jE,map_nil→jD,append_nil→jF,getElem?_cons_zero→zL,getElem?_cons_succ→zQ,length_map→jH,drop_eq_getElem_cons→zH,drop_eq_nil_of_le→jX,getElem?_append_left→zI
open Nat renaming le_of_ble_eq_true→jI,reduceEqDiff→jB,add_zero→jK,reduceAdd→jM,zero_add→jG
open Option renaming getD_some→jA
theorem AE6 {m:Mo} : ∀ {l:List (List Sg)} {s:St},FitS m s→(U2 m s l).1=0→FitS m (U2 m s l).2
 | [],_,h,_=>h
 | e :: r,s,h,h0=>by
   unfold U2 at h0 ⊢
   split
   ·rename_i hn
    rw [if_pos hn] at h0
    exact absurd h0 hn
   ·rename_i hn
    rw [if_neg hn] at h0
    exact AE6 (h.step (Classical.byContradiction hn)) h0
theorem ASZ {m:Mo} {l:List (List Sg)} (h0:G5 m=0) (h:UJ m l=0):AFO m (WP m l)=true:=by
 unfold UJ at h
 rw [if_pos h0] at h
 unfold WP
 rw [if_pos ⟨h0,h⟩]
 exact (AE6 (AR7 h0) h).fits
theorem AYJ {m:Mo} {c:Cvr} (hf:AFO m c=true) {i k:Nat} (hi:i < m.pts.length) (hk:k < m.pts[i].bins.length) : ∃ hi:i < c.pts.length,∃ hk:k < c.pts[i].l.length,cellAt c.pts i k=c.pts[i].l[k]:=by
 obtain ⟨_,h1,_⟩:=ZN.1 hf
 obtain ⟨x,e,ho⟩:=YL h1 i m.pts[i] (jO hi)
 exact AFW (AT4 e (AW8 ho) hk)
theorem AYK {m:Mo} {c:Cvr} (hf:AFO m c=true) {i k:Nat} (hi:i < m.crs.length) (hk:k < I4 (szs m m.crs[i].pts)) : ∃ hi:i < c.crs.length,∃ hk:k < c.crs[i].l.length,cellAt c.crs i k=c.crs[i].l[k]:=by
 obtain ⟨_,_,h2,_⟩:=ZN.1 hf
 obtain ⟨x,e,ho⟩:=YL h2 i m.crs[i] (jO hi)
 exact AFW (AT4 e (AXB ho) hk)
def AFV (m:Mo) (x:Hl) (c:Cvr):Int:=if x.cross=true then (match AES m x.idx with
    | some r=>cellAt c.crs x.idx.toNat (ixV (szs m r.pts) x.bins).toNat
    | none=>0) else cellAt c.pts x.idx.toNat (x.bins.headD 0).toNat
def htV (m:Mo) (x:Hl) (c:Cvr) (e:Int):Bool × Int:=if NU m x=true then (if e=0 then (decide (AFV m x c > 0),0) else (false,e)) else (false,1)
structure H3 (h H:Hp) (m:Mo) (x:Hl) (c:Cvr) (hb cb:Nat):Prop where
 gm:H[h.length]? = some (ABlk.live 2 [D8 m])
 gh:H[hb]? = some (ABlk.live 3 [GG x])
 gc:H[cb]? = some (ABlk.live 4 [encV c])
 hx:ext h H
theorem A5B {H:Hp} {b:Nat} {c:Cvr} (hb:H[b]? = some (.live 4 [encV c])):D6 Tryz.prog H 67 (.ptr b 0 0)=some (.sl c.pm 1 (c.pts.map encL)):=by rw [DV UA hb (row:=encV c) rfl]; rfl
theorem A5A {H:Hp} {b:Nat} {c:Cvr} (hb:H[b]? = some (.live 4 [encV c])):D6 Tryz.prog H 67 (.ptr b 0 1)=some (.sl c.cm 1 (c.crs.map encL)):=by rw [DV UA hb (row:=encV c) rfl]; rfl
section
variable (G:Nat→AV)
set_option maxHeartbeats 2000000 in
theorem hit_prog (hG:GOk G) (hT:RG G) (m:Mo) (hm:MoOk m) (x:Hl) (hn:x.bins.length≤1048576) (l:List Ss) (s:SM) (h:Hp) (hl:l.length≤1048576) (he : ∀ x∈l,x.l.length≤1048576∧∀ s∈x.l,A4R s) :
  PCall (En G) 19 [.agg (D8 m),.agg (GG x),.sl s 1 (l.map AO6)] h (.tup [.bool (htV m x (WP m (l.map Ss.l)) (UJ m (l.map Ss.l))).1,.int .i64 (htV m x (WP m (l.map Ss.l)) (UJ m (l.map Ss.l))).2]):=by
 refine ACalls.pure 2 (R:=fun v H=>v = .tup [.bool (htV m x (WP m (l.map Ss.l)) (UJ m (l.map Ss.l))).1,.int .i64 (htV m x (WP m (l.map Ss.l)) (UJ m (l.map Ss.l))).2]∧ext h H) ?_ (fun v h' ⟨e,x⟩=>⟨x,by subst e; rfl⟩)
 refine acN Tryz.func19 rfl ?_
 show awp _ _ _ _ _ (EJ _ [.tmp 6,.tmp 7] _)
 have t:=Hb.mk' h m x
 simp -implicitDefEqProofs only [BC,A8,BA,AY,BB,AO,AQ,AL,BD,AX,AC,AA,AZ,AU,BH,BM,A7,FD,BN,BU,BF,BP,↓reduceIte,jB,jA,jC,enP,bxM,bxH]
 generalize h ++ [ABlk.live 2 [D8 m]] ++ [ABlk.live 3 [GG x]]=H at t ⊢
 generalize (h ++ [ABlk.live 2 [D8 m]]).length=hb at t ⊢
 simp -implicitDefEqProofs only [AY,AO,AQ,AL,BD,AX,AC,AA,AZ,CB,BN,CG,BX,AB,jE,jD,jF,↓reduceIte,jB,jA,jC,enP,ldM t.gm,ldH t.gh]
 refine (valid_prog G hG m hm x hn H).use ?_
 cases hv:NU m x
 ·have hr:htV m x (WP m (l.map Ss.l)) (UJ m (l.map Ss.l))=(false,1):=by unfold htV; rw [if_neg (by rw [hv]; decide)]
  simp -implicitDefEqProofs only [BC,A8,BK,BI,BA,CQ,J3,DT,AY,BB,AO,AQ,AL,BD,AX,AC,AA,AZ,AU,BH,BM,A7,G7,AB,ES,↓reduceIte,jB,jA,jC]
  exact ⟨by rw [hr],t.hx⟩
 have h0:G5 m=0:=by unfold NU at hv; rw [Bool.and_eq_true] at hv; simpa using hv.1
 simp -implicitDefEqProofs only [BC,A8,BO,BI,BA,D5,AY,BB,AO,AQ,AL,BD,AX,AC,AA,AZ,CB,BG,BN,G7,CG,BX,AB,ES,BF,BP,jE,jD,jF,↓reduceIte,jB,jA,jU,jC,enP,ldM t.gm]
 refine (AVX G hG hT m hm l s H hl (fun x hx=>(he x hx).1)).use ?_
 have hfit:=fun e=>ASZ (m:=m) (l:=l.map Ss.l) h0 e
 generalize WP m (l.map Ss.l)=c at hfit ⊢
 generalize UJ m (l.map Ss.l)=e at hfit ⊢
 have t':H3 h (H ++ [ABlk.live 4 [encV c]]) m x c hb H.length:=⟨CV t.gm,CV t.gh,CY _ _,t.hx.app _⟩
 simp -implicitDefEqProofs only [zL,zQ,BC,A8,BI,BA,AY,BB,AO,AQ,AL,BD,AX,AC,E8,AA,AZ,AU,BH,BG,A7,FV,EN,BR,FY,IP,BU,AB,DW,ET,↓reduceIte,jB,jA,jC,enP,Option.getD_none,AD2,AZ8,bne]
 generalize H ++ [ABlk.live 4 [encV c]]=H1 at t' ⊢
 generalize H.length=cb at t' ⊢
 cases hz:(e == 0)
 ·have hz':e≠0:=by simpa using hz
  have hr:htV m x c e=(false,e):=by unfold htV; rw [if_pos hv,if_neg hz']
  simp -implicitDefEqProofs only [BC,A8,BK,BA,CQ,J3,DT,AY,BB,AO,AQ,AL,BD,AX,AC,AA,AZ,AU,BM,BG,A7,↓reduceIte,jB,jA,jC]
  exact ⟨by rw [hr],t'.hx⟩
 have hz':e=0:=by simpa using hz
 have hf:=hfit hz'
 have hr:htV m x c e=(decide (AFV m x c > 0),0):=by unfold htV; rw [if_pos hv,if_pos hz']
 rw [hr]
 clear hr hfit t
 have l1:=YB t'.gh
 have l2:=TT t'.gh
 simp -implicitDefEqProofs only [BC,A8,BO,BI,BA,D5,AY,BB,AO,AQ,AL,BD,AX,AC,AA,AZ,BN,G7,BJ,AB,ES,↓reduceIte,jB,jK,jA,jU,jC,enP,RU,AGQ t'.gh]
 cases hc:x.cross
 ·obtain ⟨i,hi,k,hk,hzi,hbn,_,hg⟩:=RY hv hc
  rw [hzi] at l1
  rw [hbn] at l2
  have h01:0 < ([(k:Int)]:List Int).length:=by simp
  have i0:JX 1 H1 (.sl x.bm 1 [qencI k]) (.int .i64 0)=some (.fptr 1 [qencI k] 0 0):=DF (k:=1) h01
  have lb:D6 Tryz.prog H1 3 (.fptr 1 [qencI k] 0 0)=some (.int .i64 k):=(CX ag3 h01).trans rfl
  obtain ⟨hi2,hk2,hcell⟩:=AYJ hf hi hk
  have hce:AFV m x c=c.pts[i].l[k]:=by
   unfold AFV
   rw [if_neg (by rw [hc]; decide),hzi,hbn]
   exact hcell
  simp -implicitDefEqProofs only [BC,DT,jC]
  refine EX (by kernel_rfl) ?_
  simp -implicitDefEqProofs only [F6,EF,DZ,FC,EH,IK,FB,IB,D9,EC,BK,BA,CQ,J3,AO,AA,AZ,AU,BH,BN,BR,BJ,BZ,AB,EY,jE,jD,↓reduceIte,jB,jM,jK,jG,jA,enP,JB,KG,J6,AA6,AG3,l1,l2,A5B t'.gc,DF hi2,CX LQ hi2,AKA,i0,lb,DF hk2,CX ag3 hk2,Bins.encI0]
  exact ⟨by rw [hce],t'.hx⟩
 obtain ⟨i,hi,hzi,hin,_,hg⟩:=RZ hv hc
 have hcg:=hg.crs _ (List.getElem_mem hi)
 obtain ⟨k,hk1,hk⟩:=AT6 hg hi hin
 have hiv:ixV (szs m m.crs[i].pts) x.bins=(k:Int):=by unfold ixV; rw [if_pos hin,hk1]
 rw [hzi] at l1
 obtain ⟨hi2,hk2,hcell⟩:=AYK hf hi hk
 have hce:AFV m x c=c.crs[i].l[k]:=by
  unfold AFV
  rw [if_pos hc,hzi,PX hi]
  show cellAt c.crs i (ixV (szs m m.crs[i].pts) x.bins).toNat=_
  rw [hiv]
  exact hcell
 simp -implicitDefEqProofs only [BC,A8,BO,BA,D5,AY,AO,AQ,AL,BD,AX,AC,AA,AZ,CB,BN,BJ,CG,BX,AB,jE,jD,jF,↓reduceIte,jB,jG,jA,jU,jC,enP,KG,J6,ldM t'.gm,l1,l2]
 refine (VD G m i hi hcg x.bins x.bm hn H1).use ?_
 rw [hiv]
 simp -implicitDefEqProofs only [zL,zQ,BC,A8,BK,BA,J3,AY,BB,AO,AQ,AL,BD,AX,AC,AA,AZ,AU,BH,BG,A7,BN,BR,BJ,BZ,FY,IP,AB,EY,↓reduceIte,jB,jG,jA,jC,enP,JB,KG,AA6,AC7,l1,A5A t'.gc,DF hi2,CX LQ hi2,AKA,DF hk2,CX ag3 hk2,Bins.encI0]
 exact ⟨by rw [hce],t'.hx⟩
end
section
variable (G:Nat→AV)
def AX5 (a b:Hl):Bool:=a.cross == b.cross && (a.idx == b.idx && decide (a.bins=b.bins))
theorem AUP {a b:Int} {xs ys:List Int}:decide (a :: xs=b :: ys)=((a == b) && decide (xs=ys)):=by
 cases h:(a == b)
 ·rw [decide_eq_false (fun e=>by rw [List.cons.injEq] at e; simp [e.1] at h)]; rfl
 ·have e:a=b:=by simpa using h
  subst e
  simp
set_option maxHeartbeats 1000000 in
theorem ASX (a b:Hl) (ha:a.bins.length≤1048576) (h:Hp):PCall (En G) 23 [.agg (GG a),.agg (GG b)] h (.bool (AX5 a b)):=by
 refine ACalls.pure0 rfl ?_
 refine acN Tryz.func23 rfl ?_
 show awp _ _ _ _ _ (EJ _ [.tmp 4] _)
 have ga:=CV (x:=ABlk.live 3 [GG b]) (CY h (ABlk.live 3 [GG a]))
 have gb:=CY (h ++ [ABlk.live 3 [GG a]]) (ABlk.live 3 [GG b])
 have hx:ext h (h ++ [ABlk.live 3 [GG a]] ++ [ABlk.live 3 [GG b]]):=((ext.rfl' h).app _).app _
 simp -implicitDefEqProofs only [BC,A8,BA,AY,BB,AO,AQ,AL,BD,AX,AC,AA,AZ,AU,BM,A7,FD,BN,BJ,BU,AB,BF,BP,↓reduceIte,jB,jK,jA,jC,enP,RU,bxH]
 generalize h ++ [ABlk.live 3 [GG a]] ++ [ABlk.live 3 [GG b]]=H at ga gb hx ⊢
 generalize (h ++ [ABlk.live 3 [GG a]]).length=bb at gb ⊢
 unfold AX5
 simp -implicitDefEqProofs only [AY,BL,BV,CO,AO,AQ,AL,BD,AX,AC,AA,AZ,BG,BN,BR,BJ,AB,↓reduceIte,jB,jK,jA,jC,enP,bn4,RU,AGQ ga,AGQ gb,bne]
 cases hc:(a.cross == b.cross)
 ·simp -implicitDefEqProofs only [BC,A8,BK,BI,BA,CQ,CJ,DT,AY,BB,BL,BV,CO,FP,AO,AQ,AL,BD,AX,AC,AA,EQ,AZ,AU,BM,BG,A7,CP,DY,↓reduceIte,jB,jA,jC]
  exact ⟨by rw [qM],hx⟩
 simp -implicitDefEqProofs only [AY,BL,BV,CO,EM,AO,AQ,AL,BD,AX,AC,AA,AZ,AU,BM,BG,CP,DR,BN,BR,BJ,AB,ET,↓reduceIte,jB,jG,jA,jU,jC,enP,KG,YB ga,YB gb,bne]
 cases hi:(a.idx == b.idx)
 ·simp -implicitDefEqProofs only [BC,A8,BK,BI,BA,CQ,CJ,DT,AY,BB,BL,BV,CO,FP,AO,AQ,AL,BD,AX,AC,AA,EQ,AZ,AU,BM,A7,CP,DY,↓reduceIte,jB,jA,jC]
  exact ⟨by rw [qM,Bool.and_false],hx⟩
 simp -implicitDefEqProofs only [BI,BA,AY,BB,BL,BV,CO,EM,AO,AQ,AL,BD,AX,AC,AA,AZ,AU,BM,CP,DR,BN,BR,BJ,DU,AB,ET,↓reduceIte,jB,jG,jA,jU,jC,enP,JG,J6,TT ga,TT gb,jH,bne]
 rw [qJ,qJ]
 cases hl:(((a.bins.length:Nat):Int) == ((b.bins.length:Nat):Int))
 ·simp -implicitDefEqProofs only [BC,A8,BK,BA,CQ,CJ,DT,AY,BB,AO,AQ,AL,BD,AX,AC,AA,AU,BM,A7,↓reduceIte,jA,jC]
  refine ⟨?_,hx⟩
  rw [decide_eq_false (fun e=>by rw [e] at hl; simp at hl)]
 have hle:a.bins.length=b.bins.length:=by have:=eq_of_beq hl; omega
 simp -implicitDefEqProofs only [BC,BQ,A8,BO,BA,D5,AY,BB,AO,AQ,AL,BD,AX,AC,AU,BH,A7,jA,jU,jC]
 refine DL (fun n F H' => ∃ k,n+k=a.bins.length∧F 2 = .ptr h.length 0 0∧F 3 = .ptr bb 0 0∧F 5 = .int .i64 (k:Nat)∧H'=H∧decide (a.bins=b.bins)=decide (a.bins.drop k=b.bins.drop k)) a.bins.length
  ⟨0,by simp,by simp -implicitDefEqProofs only [AA,↓reduceIte,jB],by simp -implicitDefEqProofs only [AA,↓reduceIte,jB],by simp -implicitDefEqProofs only [AA,↓reduceIte] <;> rfl,rfl,rfl⟩ ?_
 rintro n F H' ⟨k,hk,f2,f3,f5,rfl,hp⟩
 simp -implicitDefEqProofs only [BC,A8,BI,BA,AY,BB,AO,AQ,AL,BD,AX,AC,AA,AZ,BG,BN,BR,BJ,DU,AB,CW,↓reduceIte,jB,jG,jA,jC,enP,JG,J6,f2,f5,TT ga,jH]
 refine CU (fun hcc => ?_) (fun hcc => ?_)
 ·have hk':k < a.bins.length:=by simpa using hcc
  have hkb:k < b.bins.length:=by omega
  rw [zH hk',zH hkb,AUP] at hp
  simp -implicitDefEqProofs only [BC,BQ,BO,BA]
  refine EX (by kernel_rfl) ?_
  simp -implicitDefEqProofs only [F6,EF,DZ,FC,EH,FI,FB,IB,D9,EC,BI,BA,AO,AA,AZ,BN,BR,BJ,BZ,AB,ET,↓reduceIte,jB,jM,jG,jA,enP,JB,J6,f2,f3,f5,TT ga,TT gb,DF hk',DF hkb,CX ag3 hk',CX ag3 hkb,Bins.encI0,bne]
  cases hq:(a.bins[k] == b.bins[k])
  ·rw [hq,qM] at hp
   simp -implicitDefEqProofs only [BC,A8,BK,BA,CQ,EE,FK,CJ,DT,AY,BB,AO,AQ,AL,BD,AX,AC,AA,AU,BM,A7,↓reduceIte,jA,jC]
   exact ⟨by rw [hp],hx⟩
  ·rw [hq,qJ] at hp
   simp -implicitDefEqProofs only [A8,BO,BA,EI,EP,D5,AY,BB,AO,AQ,AL,BD,AX,AC,AA,AZ,AU,BH,BG,A7,BR,AB,DK,↓reduceIte,jB,jA,jU,jC,enP,f5,wrap_succ (show k < 9223372036854775807 by omega)]
   exact ⟨n - 1,by omega,k+1,by omega,by first | exact True.intro | exact f2,by first | exact True.intro | exact f3,by first | exact True.intro | exact rfl,by first | exact True.intro | exact rfl,hp⟩
 ·have hk' : ¬ k < a.bins.length:=by simpa using hcc
  rw [jX (by omega),jX (by omega)] at hp
  simp -implicitDefEqProofs only [BC,A8,BK,DI,BA,ED,EU,EW,CJ,AY,BB,AO,AQ,AL,BD,AX,AC,AA,AU,BM,A7,↓reduceIte,jA,jC]
  exact ⟨by rw [hp]; rfl,hx⟩
end
def SomeI (E:Env) (f:FuncId) (args:List AV) (h:Hp):Prop:=ACalls E f args h fun v H=>(∃ n:Int,v = .int .i64 n)∧H=h
theorem SomeI.of {E:Env} {f:FuncId} {args:List AV} {h:Hp} (hc:ACalls E f args h fun v H=>(∃ n:Int,v = .int .i64 n)∧ext h H):SomeI E f args h :=
 hc.trunc fun v H hR=>by
  obtain ⟨⟨b,rfl⟩,x,rfl⟩:=hR
  exact ⟨1,h,rfl,fun b hb => .inr (.inl ⟨by rw [zI hb],by rw [zI hb]⟩),⟨b,rfl⟩,rfl⟩
theorem SomeI.use {E:Env} {f:FuncId} {args:List AV} {h:Hp} {K:AV→Hp→Prop} (hc:SomeI E f args h) (hk : ∀ n:Int,K (.int .i64 n) h):ACalls E f args h K :=
 ACalls.mono hc fun v H ⟨⟨b,e⟩,e2⟩=>by rw [e,e2]; exact hk b
theorem AMZ (G:Nat→AV) : ∀ (w:Nat) (e:Ex) (n:Int) (h:Hp),wt e≤w→wt e≤1048576→SomeI (En G) 48 [.agg (DC e),.int .i64 n] h:=by
 intro w
 induction w with
 | zero=>intro e n h h1 _; have:=L6 e; omega
 | succ w ih =>
   intro e n h h1 h2
   have hlen:=TF e.args
   have hwt:=L6 e
   refine SomeI.of ?_
   refine acN Tryz.func48 rfl ?_
   show awp _ _ _ _ _ (EJ _ [.tmp 4] _)
   have hb:=CY h (.live 4 [DC e])
   have hx:ext h (h ++ [.live 4 [DC e]]):=(ext.rfl' h).app _
   simp -implicitDefEqProofs only [BC,BQ,A8,BA,AY,BB,AO,AQ,AL,BD,AX,AC,AZ,AU,BH,A7,FD,BU,BF,jA,jC,enP,bxE]
   generalize h ++ [.live 4 [DC e]]=H at hb hx ⊢
   refine DL (fun N F H' => ∃ k z,N+k=e.args.length∧F 1 = .int .i64 n∧F 2 = .ptr h.length 0 0∧F 5 = .int .i64 z∧F 6 = .int .i64 (k:Nat)∧H'=H) e.args.length ⟨0,1,by simp,by simp -implicitDefEqProofs only [AA,BF,BP,↓reduceIte,jB],by simp -implicitDefEqProofs only [AA,↓reduceIte,jB],by simp -implicitDefEqProofs only [AA,↓reduceIte,jB] <;> rfl,by simp -implicitDefEqProofs only [AA,↓reduceIte] <;> rfl,rfl⟩ ?_
   rintro N F H' ⟨k,z,hk,f1,f2,f5,f6,rfl⟩
   simp -implicitDefEqProofs only [BC,A8,AY,BL,BV,CO,AO,AQ,AL,BD,AX,AC,AA,AZ,BG,BN,BR,BJ,DU,AB,CW,↓reduceIte,jB,jG,jA,jC,enP,VU,OD,f2,f6,Rk.ldE' hb,jH]
   cases hc:decide (((k:Nat):Int) < ((e.args.length:Nat):Int))
   ·simp -implicitDefEqProofs only [BC,A8,BK,DI,BI,BA,ED,EU,EW,CJ,D5,AY,BB,BL,BV,CO,JK,AO,AQ,AL,BD,AX,AC,AA,EQ,AZ,AU,BM,BG,A7,CP,DR,↓reduceIte,jB,jA,jC,f5]
    exact ⟨⟨_,rfl⟩,hx⟩
   have hk':k < e.args.length:=by simpa using hc
   have hlt:=Rk.wt_arg hk'
   simp -implicitDefEqProofs only [BI,BA,AY,BB,BL,BV,CO,GV,AO,AQ,AL,BD,AX,AC,AA,AZ,AU,BM,BG,CP,DY,BR,AB,KA,↓reduceIte,jB,jA,jC,enP,f1,f5]
   refine CU (fun hd => ?_) (fun hd => ?_)
   ·simp -implicitDefEqProofs only [BC,BQ,A8,BO,BA,AY,AO,AQ,AL,BD,AX,AC,AA,AZ,CB,BG,BN,BR,BJ,BZ,CG,BX,AB,KX,jE,jD,jF,↓reduceIte,jB,jG,jA,jC,enP,ZI,OD,f1,f2,f5,f6,Rk.ldE' hb,DF hk',FT XH MQ IX hk']
    refine (ih e.args[k] _ H' (by omega) (by omega)).use ?_
    intro q
    simp -implicitDefEqProofs only [A8,BA,EI,EP,AY,BB,AO,AQ,AL,BD,AX,AC,AA,AZ,AU,BH,BG,A7,BR,AB,DK,↓reduceIte,jB,jA,jC,enP,f6,wrap_succ (show k < 9223372036854775807 by omega)]
    exact ⟨N - 1,by omega,k+1,_,by omega,by first | exact True.intro | exact f1,by first | exact True.intro | exact f2,by first | exact True.intro | exact rfl,by first | exact True.intro | exact rfl,by first | exact True.intro | exact rfl⟩
   ·simp -implicitDefEqProofs only [BC,A8,BK,DI,BA,ED,EU,EW,CJ,AY,BB,AO,AQ,AL,BD,AX,AC,AA,AZ,BG,A7,↓reduceIte,jB,jA,jC,f5]
    exact ⟨⟨_,rfl⟩,hx⟩
theorem AMQ (G:Nat→AV) (e:Ex) (n:Int) (hw:wt e≤1048576) (h:Hp):Rk.SomeB (En G) 25 [.agg (DC e),.int .i64 n] h:=by
 refine Rk.SomeB.of ?_
 refine acN Tryz.func25 rfl ?_
 show awp _ _ _ _ _ (EJ _ [.tmp 4] _)
 simp -implicitDefEqProofs only [BC,A8,BA,AY,BB,AO,AQ,AL,BD,AX,AC,AA,AZ,AU,CB,BM,BG,A7,FD,BN,CG,BX,BU,AB,BF,BP,jE,jD,jF,↓reduceIte,jB,jA,jC,enP,bxE,ldE]
 refine (AMZ G _ e n _ (Nat.le_refl _) hw).use ?_
 intro q
 simp -implicitDefEqProofs only [BK,BA,CJ,AY,BB,AO,AQ,AL,BD,AX,AC,AA,AZ,BG,A7,BR,AB,KA,BF,BP,↓reduceIte,jB,jA,jC,enP]
 exact ⟨⟨_,rfl⟩,(ext.rfl' h).app _⟩
end Go.Proofs.YtfpagfhhhlljjaaGreatDoor.Ho
set_option linter.unusedSimpArgs false
set_option maxRecDepth 8000
namespace Go.Proofs.YtfpagfhhhlljjaaGreatDoor.Ho
open Sm Bins Cov Go.RowKit
open Bool renaming and_eq_true→jV,not_false→jC,true_and→qJ,false_and→qM,not_true→jU
open List renaming length_map→jH,drop_eq_nil_of_le→jX,map_cons→jE,map_nil→jD,append_nil→jF,getElem_mem→jP,drop_zero→zM,take_of_length_le→jW,length_append→qA
open Nat renaming le_of_ble_eq_true→jI,reduceEqDiff→jB,zero_add→jG,reduceAdd→jM,add_zero→jK,le_refl→jL
open Option renaming getD_some→jA,getD_none→jT
def AAP (m:Mo) (l:List Int):Bool:=l.all fun p=>decide (0≤p) && decide (p < (m.pts.length:Int))
theorem AQ1 {m:Mo} {l:List Int}:AAP m l=true↔Here m l:=by
 unfold AAP Here
 rw [List.all_eq_true]
 constructor
 ·intro h p hp
  have:=h p hp
  simp only [jV,decide_eq_true_eq] at this
  exact this
 ·intro h p hp
  have:=h p hp
  simp only [jV,decide_eq_true_eq]
  exact this
section
variable (G:Nat→AV)
theorem ALK (m:Mo) (i:Nat) (hi:i < m.crs.length) (hl:m.crs[i].pts.length≤1048576) (h:Hp):PCall (En G) 59 [.agg (D8 m),.int .i64 (i:Int)] h (.bool (AAP m m.crs[i].pts)):=by
 refine ACalls.pure0 rfl ?_
 have gm:=CY h (.live 2 [D8 m])
 have hx : ∃ x,h ++ [ABlk.live 2 [D8 m]]=h ++ x:=⟨_,rfl⟩
 refine acN Tryz.func59 rfl ?_
 show awp _ _ _ _ _ (EJ _ [.tmp 4] _)
 simp -implicitDefEqProofs only [BC,BQ,A8,BO,BI,BA,D5,AY,BB,BL,BV,CO,EM,AO,AQ,AL,BD,AX,AC,AA,AZ,AU,BH,BM,BG,A7,CP,DR,FD,BN,BR,BJ,BZ,DU,BU,AB,CW,FX,BF,BP,↓reduceIte,jB,jG,jA,jC,enP,PE,VW,IW,JD,bxM,QA,RI gm,jH,SK hi,DF hi,CX LQ hi,OT]
 generalize h ++ [ABlk.live 2 [D8 m]]=H at gm hx ⊢
 refine DL (fun n F H' => ∃ k,n+k=m.crs[i].pts.length∧F 2 = .ptr h.length 0 0∧F 5 = .sl m.crs[i].pm 1 (m.crs[i].pts.map qencI)∧F 6 = .int .i64 (k:Nat)∧H'=H∧AAP m m.crs[i].pts=AAP m (m.crs[i].pts.drop k)) m.crs[i].pts.length ⟨0,by simp,by simp -implicitDefEqProofs only [AA,↓reduceIte,jB],by simp -implicitDefEqProofs only [AA,↓reduceIte,jB],by simp -implicitDefEqProofs only [AA,↓reduceIte]; rfl,rfl,rfl⟩ ?_
 rintro n F H' ⟨k,hk,f2,f5,f6,rfl,hp⟩
 simp -implicitDefEqProofs only [BC,A8,BI,BA,AY,BB,AO,AQ,AL,BD,AX,AC,AA,AZ,BG,BR,DU,AB,CW,↓reduceIte,jB,jA,jC,enP,JG,f5,f6,jH]
 refine CU (fun hc => ?_) (fun hc => ?_)
 ·have hk':k < m.crs[i].pts.length:=by simpa using hc
  rw [List.drop_eq_getElem_cons hk'] at hp
  change AAP m m.crs[i].pts=(decide (0≤m.crs[i].pts[k]) && decide (m.crs[i].pts[k] < (m.pts.length:Int)) && AAP m (m.crs[i].pts.drop (k+1))) at hp
  simp -implicitDefEqProofs only [BC,BQ,BO,BA]
  refine EX (by kernel_rfl) ?_
  cases e0:decide (m.crs[i].pts[k] < 0)
  ·have p0:decide (0≤m.crs[i].pts[k])=true:=by rw [decide_eq_true_eq]; rw [decide_eq_false_iff_not] at e0; omega
   cases e1:decide (m.crs[i].pts[k]≥(m.pts.length:Int))
   ·have p1:decide (m.crs[i].pts[k] < (m.pts.length:Int))=true:=by rw [decide_eq_true_eq]; rw [decide_eq_false_iff_not] at e1; omega
    rw [p0,p1,qJ,qJ] at hp
    simp -implicitDefEqProofs only [F6,EF,DZ,FC,EH,FH,GK,UI,FI,I7,FB,IB,D9,EC,I8,A8,BO,BI,BA,EI,EP,D5,AY,BB,CO,AO,AQ,AL,BD,AX,AC,AA,AZ,AU,BH,BM,BG,A7,CP,DR,BN,BR,BJ,BZ,DU,AB,DK,CW,FX,↓reduceIte,jB,jM,jK,jA,jC,enP,PD,GR,JB,f2,f5,f6,DF hk',CX ag3 hk',Bins.encI0,e0,OJ gm,jH,e1,wrap_succ (show k < 9223372036854775807 by omega)]
    exact ⟨n - 1,by omega,k+1,by omega,by first | exact True.intro | exact f2,by first | exact True.intro | exact f5,by first | exact True.intro | exact rfl,by first | exact True.intro | exact rfl,hp⟩
   ·have p1:decide (m.crs[i].pts[k] < (m.pts.length:Int))=false:=by rw [decide_eq_false_iff_not]; rw [decide_eq_true_eq] at e1; omega
    rw [p1,Bool.and_false,qM] at hp
    simp -implicitDefEqProofs only [F6,EF,DZ,FC,EH,FH,GK,UI,FI,I7,FB,IB,D9,EC,I8,BC,A8,BK,BI,BA,CQ,EE,FK,CJ,DT,AY,BB,CO,AO,AQ,AL,BD,AX,AC,AA,AZ,AU,BH,BM,A7,CP,DR,BN,BR,BJ,BZ,DU,AB,CW,FX,↓reduceIte,jB,jM,jK,jA,jC,enP,PD,GR,JB,f2,f5,f6,DF hk',CX ag3 hk',Bins.encI0,e0,OJ gm,jH,e1]
    exact ⟨by rw [hp],hx⟩
  ·have p0:decide (0≤m.crs[i].pts[k])=false:=by rw [decide_eq_false_iff_not]; rw [decide_eq_true_eq] at e0; omega
   rw [p0,qM,qM] at hp
   simp -implicitDefEqProofs only [F6,EF,DZ,FC,EH,FH,GK,AA2,FI,I7,FB,IB,EC,BC,A8,BK,BI,BA,CQ,EE,FK,CJ,DT,AY,BB,CO,AO,AQ,AL,BD,AX,AC,AA,EQ,AZ,AU,BH,BM,A7,CP,DY,BN,BR,BZ,AB,CW,↓reduceIte,jB,jM,jA,jC,enP,JB,f2,f5,f6,DF hk',CX ag3 hk',Bins.encI0,e0]
   exact ⟨by rw [hp],hx⟩
 ·have hk' : ¬ k < m.crs[i].pts.length:=by simpa using hc
  rw [jX (by omega)] at hp
  simp -implicitDefEqProofs only [BC,A8,BK,DI,BA,ED,EU,EW,CJ,AY,BB,AO,AQ,AL,BD,AX,AC,AA,AU,BM,A7,↓reduceIte,jA,jC]
  exact ⟨by rw [hp]; rfl,hx⟩
theorem AU9 (m:Mo) (i:Nat) (hi:i < m.crs.length) (hh:Here m m.crs[i].pts) (k:Nat) (hk:k < m.crs[i].pts.length) (h:Hp):PCall (En G) 60 [.agg (D8 m),.int .i64 (i:Int),.int .i64 (k:Int)] h (.int .i64 ((F9 m m.crs[i].pts[k]).length:Int)):=by
 refine ACalls.pure0 rfl ?_
 have gm:=CY h (.live 2 [D8 m])
 obtain ⟨s,ls⟩:=hh.ld hk (h ++ [ABlk.live 2 [D8 m]])
 refine acN Tryz.func60 rfl ?_
 show awp _ _ _ _ _ (EJ _ [.tmp 6] _)
 simp -implicitDefEqProofs only [BC,A8,BA,AY,BB,AO,AQ,AL,BD,AX,AC,AZ,AU,BH,A7,FD,BU,BF,jA,jC,enP,bxM]
 refine EX (by kernel_rfl) ?_
 simp -implicitDefEqProofs only [F6,EF,DZ,FC,EH,FI,IK,FB,D9,EC,I8,BK,BA,CJ,AO,AA,AZ,BN,BJ,BZ,DU,AB,BF,BP,↓reduceIte,jB,jM,jK,jG,jA,enP,OY,PE,GR,IW,JB,PU,IQ,JD,OJ gm,RI gm,DF hi,CX LQ hi,OT,DF hk,CX ag3 hk,Bins.encI0,hh.ix hk,ls,jH]
 exact ⟨trivial,_,rfl⟩
theorem AIH (m:Mo) (i:Nat) (hi:i < m.crs.length) (hl:m.crs[i].pts.length≤1048576) (h:Hp):SomeI (En G) 47 [.agg (D8 m),.int .i64 (i:Int)] h:=by
 refine SomeI.of ?_
 have gm:=CY h (.live 2 [D8 m])
 have hx:ext h (h ++ [ABlk.live 2 [D8 m]]):=(ext.rfl' h).app _
 refine acN Tryz.func47 rfl ?_
 show awp _ _ _ _ _ (EJ _ [.tmp 4] _)
 simp -implicitDefEqProofs only [BC,A8,BA,AY,BB,AO,AQ,AL,BD,AX,AC,AA,AZ,AU,CB,BH,BG,A7,FD,BN,CG,BX,BU,AB,BF,BP,jE,jD,jF,↓reduceIte,jB,jA,jC,enP,bxM,ldM gm]
 refine (ALK G m i hi hl _).use ?_
 cases hb:AAP m m.crs[i].pts
 ·simp -implicitDefEqProofs only [BC,A8,BK,BI,BA,CQ,CJ,DT,AY,BB,AO,AQ,AL,BD,AX,AC,AA,AZ,AU,BH,A7,G7,AB,ES,↓reduceIte,jA,jC]
  exact ⟨⟨_,rfl⟩,hx⟩
 have hh:=AQ1.1 hb
 simp -implicitDefEqProofs only [BC,BQ,A8,BO,BI,BA,D5,AY,BB,AO,AQ,AL,BD,AX,AC,AA,AZ,AU,BH,A7,G7,AB,ES,↓reduceIte,jA,jU,jC]
 generalize h ++ [ABlk.live 2 [D8 m]]=H at gm hx ⊢
 refine DL (fun n F H' => ∃ k z,n+k=m.crs[i].pts.length∧F 1 = .int .i64 (i:Nat)∧F 2 = .ptr h.length 0 0∧F 5 = .int .i64 z∧F 6 = .int .i64 (k:Nat)∧H'=H) m.crs[i].pts.length ⟨0,1,by simp,by simp -implicitDefEqProofs only [AA,BF,BP,↓reduceIte,jB],by simp -implicitDefEqProofs only [AA,↓reduceIte,jB],by simp -implicitDefEqProofs only [AA,↓reduceIte,jB] <;> rfl,by simp -implicitDefEqProofs only [AA,↓reduceIte] <;> rfl,rfl⟩ ?_
 rintro n F H' ⟨k,z,hk,f1,f2,f5,f6,rfl⟩
 simp -implicitDefEqProofs only [BC,A8,BI,BA,AY,BB,AO,AQ,AL,BD,AX,AC,AA,AZ,BG,BN,BR,BJ,BZ,DU,AB,CW,↓reduceIte,jB,jG,jA,jC,enP,PE,IW,JG,JD,f1,f2,f6,RI gm,DF hi,CX LQ hi,OT,jH]
 refine CU (fun hc => ?_) (fun hc => ?_)
 ·have hk':k < m.crs[i].pts.length:=by simpa using hc
  simp -implicitDefEqProofs only [BC,BQ,A8,BO,BA,AY,AO,AQ,AL,BD,AX,AC,AA,AZ,CB,BG,BN,CG,BX,AB,jE,jD,jF,↓reduceIte,jB,jA,jC,enP,f1,f2,f5,f6,ldM gm]
  refine (AU9 G m i hi hh k hk' _).use ?_
  simp -implicitDefEqProofs only [A8,BA,EI,EP,AY,BB,AO,AQ,AL,BD,AX,AC,AA,AZ,AU,BH,BG,A7,BR,AB,DK,Q8,↓reduceIte,jB,jA,jC,enP,f6,wrap_succ (show k < 9223372036854775807 by omega)]
  exact ⟨n - 1,by omega,k+1,_,by omega,by first | exact True.intro | exact f1,by first | exact True.intro | exact f2,by first | exact True.intro | exact rfl,by first | exact True.intro | exact rfl,by first | exact True.intro | exact rfl⟩
 ·simp -implicitDefEqProofs only [BC,A8,BK,DI,BA,ED,EU,EW,CJ,AY,BB,AO,AQ,AL,BD,AX,AC,AA,AZ,BG,A7,↓reduceIte,jB,jA,jC,f5]
  exact ⟨⟨_,rfl⟩,hx⟩
end
theorem A2O {H:Hp} {b:Nat} {c:Cr} (hb:H[b]? = some (.live 3 [G6 c])):D6 Tryz.prog H 26 (.ptr b 0 1)=some (.sl c.pm 1 (c.pts.map qencI)):=by rw [DV LQ hb (row:=G6 c) rfl]; rfl
theorem A2N {H:Hp} {b:Nat} {c:Cr} (hb:H[b]? = some (.live 3 [G6 c])):D6 Tryz.prog H 67 (.ptr b 0 2)=some (.sl c.xm 1 (c.excl.map encL)):=by rw [DV UA hb (row:=G6 c) rfl]; rfl
section
variable (G:Nat→AV)
set_option maxHeartbeats 1000000 in
theorem AMP (m:Mo) (hm:MoOk m) (h:Hp):Rk.SomeB (En G) 24 [.agg (D8 m)] h:=by
 refine Rk.SomeB.of ?_
 refine acN Tryz.func24 rfl ?_
 show awp _ _ _ _ _ (EJ _ [.tmp 2] _)
 have gm:=CY h (.live 2 [D8 m])
 have hx:ext h (h ++ [ABlk.live 2 [D8 m]]):=(ext.rfl' h).app _
 have np:=hm.np
 have nc:=hm.nc
 simp -implicitDefEqProofs only [BC,A8,BA,AY,BB,AO,AQ,AL,BD,AX,AC,AA,AZ,AU,BM,A7,FD,BN,BJ,BU,AB,BF,↓reduceIte,jB,jK,jA,jC,enP,GR,bxM]
 generalize h ++ [ABlk.live 2 [D8 m]]=H at gm hx ⊢
 simp -implicitDefEqProofs only [AY,BL,BV,CO,AO,AQ,AL,BD,AX,AC,AA,AZ,AU,BH,BG,BR,DU,AB,EY,↓reduceIte,jA,jC,enP,PD,OJ gm,jH]
 cases d0:decide ((m.pts.length:Int) > 12)
 rotate_left
 ·simp -implicitDefEqProofs only [BC,A8,BK,BI,BA,CQ,CJ,DT,AY,BB,BL,BV,CO,FP,AO,AQ,AL,BD,AX,AC,AA,EQ,AZ,AU,BM,A7,CP,DY,↓reduceIte,jB,jA,jC]
  exact ⟨⟨_,rfl⟩,hx⟩
 simp -implicitDefEqProofs only [BI,BA,AY,BB,BL,BV,CO,EM,AO,AQ,AL,BD,AX,AC,AA,AZ,AU,BH,BM,CP,DR,BN,BR,BJ,DU,AB,EY,↓reduceIte,jB,jG,jA,jC,enP,VW,IW,RI gm,jH]
 cases d1:decide ((m.crs.length:Int) > 8)
 rotate_left
 ·simp -implicitDefEqProofs only [BC,A8,BK,BA,CQ,CJ,DT,AY,BB,AO,AQ,AL,BD,AX,AC,AA,AU,BM,A7,↓reduceIte,jA,jC]
  exact ⟨⟨_,rfl⟩,hx⟩
 simp -implicitDefEqProofs only [BC,BQ,A8,BO,BA,D5,AY,BB,AO,AQ,AL,BD,AX,AC,AU,BH,A7,jA,jC]
 refine H7 0 (fun F H'=>F 1 = .ptr h.length 0 0∧H'=H) (fun F H'=>(∃ b,F 2 = .bool b)∧ext h H') ?_ ?_ ?_
 ·refine DL (fun n F H' => ∃ k,n+k=m.pts.length∧F 1 = .ptr h.length 0 0∧F 3 = .int .i64 (k:Nat)∧H'=H) m.pts.length ⟨0,by simp,by simp -implicitDefEqProofs only [AA,↓reduceIte,jB],by simp -implicitDefEqProofs only [AA,↓reduceIte] <;> rfl,rfl⟩ ?_
  rintro n F H' ⟨k,hk,f1,f3,rfl⟩
  simp -implicitDefEqProofs only [BC,A8,BI,BA,AY,BB,AO,AQ,AL,BD,AX,AC,AA,AZ,BG,BN,BR,BJ,DU,AB,CW,↓reduceIte,jB,jK,jA,jC,enP,PD,GR,f1,f3,OJ gm,jH]
  refine CU (fun hc => ?_) (fun hc => ?_)
  ·have hk':k < m.pts.length:=by simpa using hc
   simp -implicitDefEqProofs only [BC,BQ,A8,BO,BI,BA,AY,BB,AO,AQ,AL,BD,AX,AC,AA,AZ,AU,BH,BG,BN,BR,BJ,BZ,DU,AB,EY,↓reduceIte,jB,jK,jG,jA,jC,enP,OY,GR,PU,IQ,f1,f3,OJ gm,DF hk',CX TA hk',NQ,jH]
   refine CU (fun hd => ?_) (fun hd => ?_)
   ·simp -implicitDefEqProofs only [BC,A8,BK,BA,CQ,EE,MS,FK,AY,BB,AO,AQ,AL,BD,AX,AC,AA,AU,BM,A7,↓reduceIte,jA,jC]
    exact ⟨⟨_,rfl⟩,hx⟩
   ·simp -implicitDefEqProofs only [A8,BO,BA,EI,EP,AY,BB,AO,AQ,AL,BD,AX,AC,AA,AZ,AU,BH,BG,A7,BR,AB,DK,↓reduceIte,jB,jA,jC,enP,f3,wrap_succ (show k < 9223372036854775807 by omega)]
    exact ⟨n - 1,by omega,k+1,by omega,by first | exact True.intro | exact f1,by first | exact True.intro | exact rfl,by first | exact True.intro | exact rfl⟩
  ·simp -implicitDefEqProofs only [DI,ED,KQ,EW,AA,↓reduceIte,jB]
   exact ⟨by first | exact True.intro | exact f1,by first | exact True.intro | exact rfl⟩
 ·rintro F H' ⟨f1,rfl⟩
  simp -implicitDefEqProofs only [BC,BQ,A8,BA,EU,AY,BB,AO,AQ,AL,BD,AX,AC,AU,BH,A7,↓reduceIte,jA,jC]
  refine DL (fun n F H2 => ∃ k,n+k=m.crs.length∧F 1 = .ptr h.length 0 0∧F 4 = .int .i64 (k:Nat)∧ext H' H2) m.crs.length ⟨0,by simp,by simp -implicitDefEqProofs only [AA,↓reduceIte,jB,f1],by simp -implicitDefEqProofs only [AA,↓reduceIte] <;> rfl,ext.rfl' _⟩ ?_
  clear f1
  rintro n F H2 ⟨k,hk,f1,f4,he⟩
  have gm2:=FO he gm
  simp -implicitDefEqProofs only [BC,A8,BI,BA,AY,BB,AO,AQ,AL,BD,AX,AC,AA,AZ,BG,BN,BR,BJ,DU,AB,CW,↓reduceIte,jB,jG,jA,jC,enP,VW,IW,f1,f4,RI gm2,jH]
  refine CU (fun hc => ?_) (fun hc => ?_)
  ·have hk':k < m.crs.length:=by simpa using hc
   have hco:=hm.crs _ (jP hk')
   have hcp:=hco.pts
   have gm3:=CV (x:=ABlk.live 3 [G6 m.crs[k]]) gm2
   have gc3:=CY H2 (ABlk.live 3 [G6 m.crs[k]])
   have he3:=he.app [ABlk.live 3 [G6 m.crs[k]]]
   simp -implicitDefEqProofs only [BC,BQ,A8,BO,BA,AY,BB,AO,AQ,AL,BD,AX,AC,E8,AA,AZ,BG,FV,BN,EN,BJ,BZ,BU,AB,DW,↓reduceIte,jB,jG,jA,jC,enP,PE,IW,JD,jT,f1,f4,RI gm2,DF hk',FT AHM ABU KZ hk',AVN,ASO _ _ [.str ⟨#[]⟩,.sl .nil 0 [],.sl .nil 0 []] rfl]
   generalize H2 ++ [ABlk.live 3 [G6 m.crs[k]]]=H3 at gm3 gc3 he3 ⊢
   simp -implicitDefEqProofs only [AY,BL,BV,CO,AO,AQ,AL,BD,AX,AC,AA,AZ,AU,BH,BG,BR,DU,AB,EY,↓reduceIte,jA,jC,enP,JG,A2O gc3,jH]
   cases e1:decide ((m.crs[k].pts.length:Int) > 4)
   ·simp -implicitDefEqProofs only [AY,BL,BV,CO,EM,AO,AQ,AL,BD,AX,AC,AA,AZ,AU,BH,BM,BG,CP,DR,BN,BR,BJ,DU,AB,EY,↓reduceIte,jB,jG,jA,jC,enP,AMB,RS,A2N gc3,jH]
    cases e2:decide ((m.crs[k].excl.length:Int) > 40)
    ·simp -implicitDefEqProofs only [BL,BV,CO,EM,AO,AQ,AL,BD,AX,AC,AA,AZ,CB,BG,BN,CG,BX,AB,jE,jD,jF,↓reduceIte,jB,jA,jC,enP,f1,f4,ldM gm3]
     refine (AIH G m k hk' hcp _).use ?_
     intro z
     simp -implicitDefEqProofs only [BI,BA,AY,BB,BL,BV,CO,EM,AO,AQ,AL,BD,AX,AC,AA,AZ,AU,BH,BM,CP,DR,BR,AB,EY,↓reduceIte,jB,jA,jC,enP]
     refine CU (fun hd => ?_) (fun hd => ?_)
     ·simp -implicitDefEqProofs only [BC,A8,BK,BA,CQ,EE,FK,CJ,AY,BB,AO,AQ,AL,BD,AX,AC,AA,AU,BM,A7,↓reduceIte,jA,jC]
      exact ⟨⟨_,rfl⟩,hx.trans he3⟩
     ·simp -implicitDefEqProofs only [A8,BO,BA,EI,EP,AY,BB,AO,AQ,AL,BD,AX,AC,AA,AZ,AU,BH,BG,A7,BR,AB,DK,↓reduceIte,jB,jA,jC,enP,f4,wrap_succ (show k < 9223372036854775807 by omega)]
      exact ⟨n - 1,by omega,k+1,by omega,by first | exact True.intro | exact f1,by first | exact True.intro | exact rfl,he3⟩
    ·simp -implicitDefEqProofs only [BC,A8,BK,BI,BA,CQ,EE,FK,CJ,DT,AY,BB,BL,BV,CO,FP,AO,AQ,AL,BD,AX,AC,AA,EQ,AZ,AU,BM,A7,CP,DY,↓reduceIte,jB,jA,jC]
     exact ⟨⟨_,rfl⟩,hx.trans he3⟩
   ·simp -implicitDefEqProofs only [BC,A8,BK,BI,BA,CQ,EE,FK,CJ,DT,AY,BB,BL,BV,CO,FP,AO,AQ,AL,BD,AX,AC,AA,EQ,AZ,AU,BM,BG,A7,CP,DY,↓reduceIte,jB,jA,jC]
    exact ⟨⟨_,rfl⟩,hx.trans he3⟩
  ·simp -implicitDefEqProofs only [BC,A8,BK,DI,BA,ED,EU,EW,CJ,AY,BB,AO,AQ,AL,BD,AX,AC,AA,AU,BM,A7,↓reduceIte,jA,jC]
   exact ⟨⟨_,rfl⟩,hx.trans he⟩
 ·rintro F H' ⟨⟨b,f2⟩,hx'⟩
  simp -implicitDefEqProofs only [CQ,EE,CJ,f2]
  exact ⟨⟨_,rfl⟩,hx'⟩
end
theorem AMD {H:Hp} {b:Nat} {p:Pt} (hb:H[b]? = some (.live 6 [F8 p])):D6 Tryz.prog H 49 (.ptr b 0 5)=some (.sl p.bm 4 (p.bins.map GN)):=by
 rw [DV TA hb (row:=F8 p) rfl,NQ]
theorem ATQ {H:Hp} {b:Nat} {p:Pt} (hb:H[b]? = some (.live 6 [F8 p])):D6 Tryz.prog H 48 (.ptr b 0 1)=some (.agg (DC p.ex)):=by
 rw [IE XH MQ hb rfl (by rw [JC]; exact jI rfl),AO7]
section
variable (G:Nat→AV)
set_option maxHeartbeats 2000000 in
theorem AC6 (m:Mo) (hm:MoOk m) (h:Hp):Rk.SomeB (En G) 9 [.agg (D8 m)] h:=by
 refine Rk.SomeB.of ?_
 refine acN Tryz.func9 rfl ?_
 show awp _ _ _ _ _ (EJ _ [.tmp 2] _)
 have gm:=CY h (.live 2 [D8 m])
 have hx:ext h (h ++ [ABlk.live 2 [D8 m]]):=(ext.rfl' h).app _
 have np:=hm.np
 simp -implicitDefEqProofs only [BC,A8,BA,AY,BB,AO,AQ,AL,BD,AX,AC,AA,AZ,AU,BM,A7,FD,BN,BU,BF,↓reduceIte,jB,jA,jC,enP,bxM]
 generalize h ++ [ABlk.live 2 [D8 m]]=H at gm hx ⊢
 simp -implicitDefEqProofs only [AY,AO,AQ,AL,BD,AX,AC,AA,AZ,CB,CG,BX,AB,jE,jD,jF,↓reduceIte,jA,jC,ldM gm]
 refine (AMP G m hm H).use ?_
 intro b
 cases b
 ·simp -implicitDefEqProofs only [BC,A8,BK,BI,BA,CQ,CJ,DT,AY,BB,AO,AQ,AL,BD,AX,AC,AA,AZ,AU,BM,A7,G7,AB,ES,↓reduceIte,jA,jC]
  exact ⟨⟨_,rfl⟩,hx⟩
 simp -implicitDefEqProofs only [BC,BQ,A8,BO,BI,BA,D5,AY,BB,AO,AQ,AL,BD,AX,AC,AA,AZ,AU,BH,A7,G7,AB,ES,↓reduceIte,jA,jU,jC]
 refine DL (fun n F H2 => ∃ k,n+k=m.pts.length∧F 1 = .ptr h.length 0 0∧F 3 = .int .i64 (k:Nat)∧ext H H2) m.pts.length ⟨0,by simp,by simp -implicitDefEqProofs only [AA,↓reduceIte,jB],by simp -implicitDefEqProofs only [AA,↓reduceIte] <;> rfl,ext.rfl' _⟩ ?_
 rintro n F H2 ⟨k,hk,f1,f3,he⟩
 have gm2:=FO he gm
 simp -implicitDefEqProofs only [BC,A8,BI,BA,AY,BB,AO,AQ,AL,BD,AX,AC,AA,AZ,BG,BN,BR,BJ,DU,AB,CW,↓reduceIte,jB,jK,jA,jC,enP,PD,GR,f1,f3,OJ gm2,jH]
 refine CU (fun hc => ?_) (fun hc => ?_)
 rotate_left
 ·simp -implicitDefEqProofs only [BC,A8,BK,DI,BA,ED,EU,EW,CJ,AY,BB,AO,AQ,AL,BD,AX,AC,AA,AU,BM,A7,↓reduceIte,jA,jC]
  exact ⟨⟨_,rfl⟩,hx.trans he⟩
 have hk':k < m.pts.length:=by simpa using hc
 have hpo:=hm.pts _ (jP hk')
 have hpn:=hpo.num
 have gp3:=CY H2 (ABlk.live 6 [F8 m.pts[k]])
 have he3:=he.app [ABlk.live 6 [F8 m.pts[k]]]
 simp -implicitDefEqProofs only [BC,BQ,A8,BO,BA,AY,BB,AO,AQ,AL,BD,AX,AC,E8,AA,AZ,BG,FV,BN,EN,BJ,BZ,BU,AB,DW,↓reduceIte,jB,jK,jG,jA,jC,enP,OY,GR,ZQ,jT,f1,f3,OJ gm2,DF hk',FT AD4 Y5 JC hk',AYZ,AWL _ _ [.str ⟨#[]⟩,.int .i64 0,.int .i64 0,.str ⟨#[]⟩,.sl .nil 0 [],.sl .nil 0 []] rfl]
 generalize H2 ++ [ABlk.live 6 [F8 m.pts[k]]]=H3 at gp3 he3 ⊢
 generalize H2.length=pb at gp3 ⊢
 simp -implicitDefEqProofs only [AY,AO,AQ,AL,BD,AX,AC,AA,AZ,AU,CB,BH,CG,BX,AB,jE,jD,jF,↓reduceIte,jA,jC,ATQ gp3]
 refine (AMQ G m.pts[k].ex 40 hpo.ex H3).use ?_
 intro b
 cases b
 ·simp -implicitDefEqProofs only [BC,A8,BK,BI,BA,CQ,EE,FK,CJ,DT,AY,BB,AO,AQ,AL,BD,AX,AC,AA,AZ,AU,BM,A7,G7,AB,ES,↓reduceIte,jA,jC]
  exact ⟨⟨_,rfl⟩,hx.trans he3⟩
 simp -implicitDefEqProofs only [BC,BQ,A8,BO,BI,BA,D5,AY,BB,AO,AQ,AL,BD,AX,AC,AA,AZ,AU,BH,A7,G7,AB,ES,↓reduceIte,jA,jU,jC]
 refine H7 2 (fun F H'=>F 1 = .ptr h.length 0 0∧F 3 = .int .i64 (k:Nat)∧H'=H3) (fun F H'=>(∃ b,F 2 = .bool b)∧ext h H') ?_ ?_ ?_
 ·refine DL (fun n F H' => ∃ j,n+j=m.pts[k].bins.length∧F 1 = .ptr h.length 0 0∧F 3 = .int .i64 (k:Nat)∧F 4 = .ptr pb 0 0∧F 5 = .int .i64 (j:Nat)∧H'=H3) m.pts[k].bins.length ⟨0,by simp,by simp -implicitDefEqProofs only [AA,↓reduceIte,jB,f1],by simp -implicitDefEqProofs only [AA,↓reduceIte,jB,f3],by simp -implicitDefEqProofs only [AA,↓reduceIte,jB],by simp -implicitDefEqProofs only [AA,↓reduceIte] <;> rfl,rfl⟩ ?_
  clear f1 f3
  rintro n2 F H' ⟨j,hj,f1,f3,f4,f5,rfl⟩
  simp -implicitDefEqProofs only [BC,A8,BI,BA,AY,BB,AO,AQ,AL,BD,AX,AC,AA,AZ,BG,BN,BR,BJ,DU,AB,CW,↓reduceIte,jB,jG,jA,jC,enP,PU,IQ,f4,f5,AMD gp3,jH]
  refine CU (fun hd => ?_) (fun hd => ?_)
  rotate_left
  ·simp -implicitDefEqProofs only [DI,ED,KQ,EW,AA,↓reduceIte,jB]
   exact ⟨by first | exact True.intro | exact f1,by first | exact True.intro | exact f3,by first | exact True.intro | exact rfl⟩
  have hj':j < m.pts[k].bins.length:=by simpa using hd
  have hbo:=hpo.bins _ (jP hj')
  have hbs:=hbo.steps
  simp -implicitDefEqProofs only [BC,BQ,A8,BO,BA,AY,BL,BV,CO,AO,AQ,AL,BD,AX,AC,AA,AZ,AU,BH,BG,BN,BR,BJ,BZ,DU,AB,EY,↓reduceIte,jB,jG,jA,jC,enP,RJ,IQ,OW,PL,f4,f5,AMD gp3,DF hj',CX S9 hj',WB,jH]
  cases e1:decide ((m.pts[k].bins[j].ranges.l.length:Int) > 40)
  rotate_left
  ·simp -implicitDefEqProofs only [BC,A8,BK,BI,BA,CQ,EE,MS,FK,DT,AY,BB,BL,BV,CO,FP,AO,AQ,AL,BD,AX,AC,AA,EQ,AZ,AU,BM,A7,CP,DY,↓reduceIte,jB,jA,jC]
   exact ⟨⟨_,rfl⟩,hx.trans he3⟩
  simp -implicitDefEqProofs only [BI,BA,AY,BB,BL,BV,CO,EM,AO,AQ,AL,BD,AX,AC,AA,AZ,AU,BH,BM,BG,CP,DR,BN,BR,BJ,BZ,DU,AB,EY,↓reduceIte,jB,jG,jA,jC,enP,RJ,IQ,VA,ML,f4,f5,AMD gp3,DF hj',CX VY hj',PO,jH]
  cases e2:decide ((m.pts[k].bins[j].steps.length:Int) > 10)
  rotate_left
  ·simp -implicitDefEqProofs only [BC,A8,BK,BA,CQ,EE,MS,FK,DT,AY,BB,AO,AQ,AL,BD,AX,AC,AA,AU,BM,A7,↓reduceIte,jA,jC]
   exact ⟨⟨_,rfl⟩,hx.trans he3⟩
  simp -implicitDefEqProofs only [BC,BQ,A8,BO,BA,D5,AY,BB,AO,AQ,AL,BD,AX,AC,AU,BH,A7,jA,jC]
  refine H7 4 (fun F H2=>F 1 = .ptr h.length 0 0∧F 3 = .int .i64 (k:Nat)∧F 4 = .ptr pb 0 0∧F 5 = .int .i64 (j:Nat)∧H2=H') (fun F H'=>(∃ b,F 2 = .bool b)∧ext h H') ?_ ?_ ?_
  ·refine DL (fun n F H2 => ∃ i,n+i=m.pts[k].bins[j].steps.length∧F 1 = .ptr h.length 0 0∧F 3 = .int .i64 (k:Nat)∧F 4 = .ptr pb 0 0∧F 5 = .int .i64 (j:Nat)∧F 6 = .int .i64 (i:Nat)∧H2=H') m.pts[k].bins[j].steps.length ⟨0,by simp,by simp -implicitDefEqProofs only [AA,↓reduceIte,jB,f1],by simp -implicitDefEqProofs only [AA,↓reduceIte,jB,f3],by simp -implicitDefEqProofs only [AA,↓reduceIte,jB,f4],by simp -implicitDefEqProofs only [AA,↓reduceIte,jB,f5],by simp -implicitDefEqProofs only [AA,↓reduceIte] <;> rfl,rfl⟩ ?_
   clear f1 f3 f4 f5
   rintro n3 F H2 ⟨i,hi,f1,f3,f4,f5,f6,rfl⟩
   simp -implicitDefEqProofs only [BC,A8,BI,BA,AY,BB,AO,AQ,AL,BD,AX,AC,AA,AZ,BG,BN,BR,BJ,BZ,DU,AB,CW,↓reduceIte,jB,jG,jA,jC,enP,RJ,IQ,VA,ML,f4,f5,f6,AMD gp3,DF hj',CX VY hj',PO,jH]
   refine CU (fun hq => ?_) (fun hq => ?_)
   rotate_left
   ·simp -implicitDefEqProofs only [DI,ED,KQ,EW,AA,↓reduceIte,jB]
    exact ⟨by first | exact True.intro | exact f1,by first | exact True.intro | exact f3,by first | exact True.intro | exact f4,by first | exact True.intro | exact f5,by first | exact True.intro | exact rfl⟩
   have hi':i < m.pts[k].bins[j].steps.length:=by simpa using hq
   simp -implicitDefEqProofs only [BC,BQ,A8,BO,BI,BA,AY,BB,AO,AQ,AL,BD,AX,AC,AA,AZ,AU,BH,BG,BN,BR,BJ,BZ,DU,AB,EY,↓reduceIte,jB,jG,jA,jC,enP,RJ,IQ,OW,AJK,ML,f4,f5,f6,AMD gp3,DF hj',CX VY hj',PO,DF hi',CX S9 hi',AAS,jH]
   refine CU (fun hr => ?_) (fun hr => ?_)
   ·simp -implicitDefEqProofs only [BC,A8,BK,BA,CQ,EE,MS,FK,AY,BB,AO,AQ,AL,BD,AX,AC,AA,AU,BM,A7,↓reduceIte,jA,jC]
    exact ⟨⟨_,rfl⟩,hx.trans he3⟩
   ·simp -implicitDefEqProofs only [A8,BO,BA,EI,EP,AY,BB,AO,AQ,AL,BD,AX,AC,AA,AZ,AU,BH,BG,A7,BR,AB,DK,↓reduceIte,jB,jA,jC,enP,f6,wrap_succ (show i < 9223372036854775807 by omega)]
    exact ⟨n3 - 1,by omega,i+1,by omega,by first | exact True.intro | exact f1,by first | exact True.intro | exact f3,by first | exact True.intro | exact f4,by first | exact True.intro | exact f5,by first | exact True.intro | exact rfl,by first | exact True.intro | exact rfl⟩
  ·rintro F H2 ⟨g1,g3,g4,g5,rfl⟩
   simp -implicitDefEqProofs only [A8,BA,EI,EU,EP,AY,BB,AO,AQ,AL,BD,AX,AC,AA,AZ,AU,BH,BG,A7,BR,AB,DK,↓reduceIte,jB,jA,jC,enP,g5,wrap_succ (show j < 9223372036854775807 by omega)]
   exact ⟨n2 - 1,by omega,j+1,by omega,by first | exact True.intro | exact g1,by first | exact True.intro | exact g3,by first | exact True.intro | exact g4,by first | exact True.intro | exact rfl,by first | exact True.intro | exact rfl⟩
  ·rintro F H2 ⟨⟨b,g2⟩,hx'⟩
   simp -implicitDefEqProofs only [CQ,EE,MS,FK,g2]
   exact ⟨⟨_,rfl⟩,hx'⟩
 ·rintro F H' ⟨g1,g3,rfl⟩
  simp -implicitDefEqProofs only [A8,BA,EI,EU,EP,AY,BB,AO,AQ,AL,BD,AX,AC,AA,AZ,AU,BH,BG,A7,BR,AB,DK,↓reduceIte,jB,jA,jC,enP,g3,wrap_succ (show k < 9223372036854775807 by omega)]
  exact ⟨n - 1,by omega,k+1,by omega,by first | exact True.intro | exact g1,by first | exact True.intro | exact rfl,he3⟩
 ·rintro F H' ⟨⟨b,g2⟩,hx'⟩
  simp -implicitDefEqProofs only [CQ,EE,FK,CJ,g2]
  exact ⟨⟨_,rfl⟩,hx'⟩
end
theorem ZC {P:Program} {t e:TypeId} {α:Type} {k bs:Nat} {f:α→List AV} {h H:Hp} {xs ys:List α} {v:AV} (s:SM) (ho:outG k f h xs v H) (hu:P.underlying t=some (.slice e)) (hs:szO P e=some k) (hz:UR P e=some k) (hb:MN P e=some bs) (hbs:bs≤4194304) (hl:xs.length+ys.length≤8388608) (he:ext h H) :
  ∃ v' H',GI P true H t t v (.sl s k (ys.map f))=some (v',H')∧outG k f h (xs ++ ys) v' H'∧(∀ b x,H[b]? = some x→¬ isB v b→H'[b]? = some x)∧ext h H'∧H.length≤H'.length∧(∀ b,isB v' b→isB v b∨b=H.length):=by
 cases ys with
 | nil =>
   refine ⟨v,H,?_,by rw [jF]; exact ho,fun _ _ hx _=>hx,he,jL _,fun b hb => .inl hb⟩
   have hcs:JY H (.sl s k [])=some (k,[]):=IY H s k []
   rcases ho with ⟨rfl,rfl⟩ | ⟨hne,o,h2,rfl,h3⟩
   ·simp [GI,hu,hs,TK,hcs,bump]
   ·have hc:JY H (.own o 0 xs.length)=some (k,xs.map f):=by rw [LC h3 (by simp),zM,jW (by simp)]
    simp [GI,hu,hs,TK,hc,hcs,bump]
 | cons y ys =>
   have h1:(y :: ys).map f≠[]:=by simp
   rcases ho with ⟨rfl,rfl⟩ | ⟨hne,o,h2,rfl,h3⟩
   ·refine ⟨_,_,PZ hu hs hz hb (IY H s k ((y :: ys).map f)) h1 (JF (by simp at hl ⊢; omega) hbs),.inr ⟨by simp,H.length,he.le,by simp,by simp⟩,fun b x hb _=>FZ hb,he.app _,by simp,fun b hb => .inr hb.symm⟩
   ·have hc:JY H (.own o 0 xs.length)=some (k,xs.map f):=by rw [LC h3 (by simp),zM,jW (by simp)]
    refine ⟨_,_,PY hu hs hz hb hc (IY H s k ((y :: ys).map f)) h1 (JF (by simp at hl ⊢; omega) hbs),.inr ⟨by simp,H.length,he.le,by simp,by simp⟩,fun b x hb hn => ?_,(he.set h2 _).app _,by simp,fun b hb => .inr hb.symm⟩
    have hn' : ¬ o=b:=hn
    refine FZ ?_
    rw [List.getElem?_set,if_neg hn']; exact hb
def MF:List Bin→List Rng
 | [] => []
 | b :: r=>(if b.kind≠0 then b.ranges.l else []) ++ MF r
theorem ART {l:List Bin} {k:Nat} (hk:k < l.length):MF (l.take (k+1))=MF (l.take k) ++ (if l[k].kind≠0 then l[k].ranges.l else []):=by
 induction l generalizing k with
 | nil=>simp at hk
 | cons b r ih =>
   cases k with
   | zero=>simp [MF]
   | succ k =>
     have:=ih (k:=k) (by simpa using hk)
     simp only [List.take_succ_cons,List.getElem_cons_succ]
     show _ ++ MF (r.take (k+1))=(_ ++ MF (r.take k)) ++ _
     rw [this,List.append_assoc]
theorem AVG {l:List Bin} (k:Nat):(MF (l.take k)).length≤(MF l).length:=by
 induction l generalizing k with
 | nil=>simp
 | cons b r ih =>
   cases k with
   | zero=>simp [MF]
   | succ k =>
     have:=ih k
     show (_ ++ MF (r.take k)).length≤(_ ++ MF r).length
     rw [qA,qA]; omega
theorem A23:Frz encR:=fun _ _ _ _=>⟨rfl,rfl⟩
theorem ATR {H:Hp} {b:Nat} {x:Bin} (hb:H[b]? = some (.live 4 [GN x])):D6 Tryz.prog H 53 (.ptr b 0 2)=some (.sl x.ranges.m 2 (x.ranges.l.map encR)):=by
 rw [DV S9 hb (row:=GN x) rfl,WB]
theorem A2Q {H:Hp} {b:Nat} {x:Bin} (hb:H[b]? = some (.live 4 [GN x])):D6 Tryz.prog H 3 (.ptr b 0 1)=some (.int .i64 x.kind):=by
 rw [DV ag3 hb (row:=GN x) rfl,Q3]
theorem A3I (h:Hp) (p:Pt):OM h (.agg (F8 p))=some (.ptr h.length 0 0,h ++ [.live 6 [F8 p]]):=by
 rw [TZ (ZV p),JC]
section
variable (G:Nat→AV)
set_option maxHeartbeats 1000000 in
theorem AVF (p:Pt) (hp:p.bins.length≤1048576) (hl:(MF p.bins).length≤1048576) (h:Hp):PCall (En G) 66 [.agg (F8 p)] h (.sl (Cov.nm (MF p.bins)) 2 ((MF p.bins).map encR)):=by
 refine P8 A23 ?_
 refine acN Tryz.func66 rfl ?_
 show awp _ _ _ _ _ (EJ _ [.tmp 2] _)
 have gp:=CY h (.live 6 [F8 p])
 have hx:ext h (h ++ [ABlk.live 6 [F8 p]]):=(ext.rfl' h).app _
 simp -implicitDefEqProofs only [BC,A8,BA,AY,BB,AO,AQ,AL,BD,AX,AC,AA,AZ,AU,H9,A7,FD,BN,BJ,BU,AB,BF,↓reduceIte,jB,jG,jA,jC,enP,IQ,A3I]
 generalize h ++ [ABlk.live 6 [F8 p]]=H0 at gp hx ⊢
 simp -implicitDefEqProofs only [BQ,BA,AY,BB,AO,AQ,AL,BD,AX,AC,AA,AZ,AU,BH,BG,DU,AB,↓reduceIte,jA,jC,enP,PU,AMD gp,jH]
 refine DL (fun n F H => ∃ k u,n+k=p.bins.length∧F 3=u∧F 7 = .sl p.bm 4 (p.bins.map GN)∧F 8 = .int .i64 (p.bins.length:Nat)∧F 9 = .int .i64 (k:Nat)∧ext H0 H∧outG 2 encR H0 (MF (p.bins.take k)) u H) p.bins.length
  ⟨0,.sl .nil 0 [],by simp,by simp -implicitDefEqProofs only [AA,↓reduceIte,jB],by simp -implicitDefEqProofs only [AA,↓reduceIte,jB],by simp -implicitDefEqProofs only [AA,↓reduceIte,jB],by simp -implicitDefEqProofs only [AA,↓reduceIte] <;> rfl,ext.rfl' _,outG.nil _ _ _ _⟩ ?_
 rintro n F H ⟨k,u,hk,f3,f7,f8,f9,he,ho⟩
 simp -implicitDefEqProofs only [BC,A8,BI,BA,AY,BB,AO,AQ,AL,BD,AX,AC,AA,AZ,BR,AB,CW,↓reduceIte,jA,jC,enP,f8,f9]
 refine CU (fun hc => ?_) (fun hc => ?_)
 ·have hk':k < p.bins.length:=by simpa using hc
  have hst:=ART hk'
  have hbl:=AVG (l:=p.bins) (k+1)
  have gb:=CY H (ABlk.live 4 [GN p.bins[k]])
  have he1:=he.app [ABlk.live 4 [GN p.bins[k]]]
  have ho1:=ho.app [ABlk.live 4 [GN p.bins[k]]]
  simp -implicitDefEqProofs only [BC,BQ,A8,BO,BA,AY,BB,AO,AQ,AL,BD,AX,AC,E8,AA,AZ,FV,BN,EN,BJ,BZ,BU,AB,DW,↓reduceIte,jB,jG,jA,jC,enP,RJ,OC,jT,f7,f9,DF hk',FT AD3 XR LW hk',AVO,AWK _ _ [.str ⟨#[]⟩,.int .i64 0,.sl .nil 0 [],.sl .nil 0 []] rfl]
  generalize H ++ [ABlk.live 4 [GN p.bins[k]]]=H1 at gb he1 ho1 ⊢
  simp -implicitDefEqProofs only [BI,BA,AY,BB,AO,AQ,AL,BD,AX,AC,AA,AZ,AU,BH,BR,AB,ET,↓reduceIte,jA,jC,enP,A2Q gb,bne]
  cases hz:(p.bins[k].kind == 0)
  ·have hz':p.bins[k].kind≠0:=by simpa using hz
   rw [if_pos hz'] at hst
   rw [hst,qA] at hbl
   obtain ⟨v',H2,ha,ho2,_,he2,_,_⟩:=ZC p.bins[k].ranges.m ho1 AED SB AV6 AYP (by omega) (ys:=p.bins[k].ranges.l) (by omega) he1
   rw [← hst] at ho2
   simp -implicitDefEqProofs only [A8,BA,EI,EP,DT,AY,BB,AO,AQ,AL,BD,AX,AC,AA,AZ,AU,BH,BG,A7,BN,BR,BJ,G8,BU,AB,DK,↓reduceIte,jB,jG,jA,jC,enP,PL,f3,ATR gb,ha,f9,wrap_succ (show k < 9223372036854775807 by omega)]
   exact ⟨n - 1,by omega,k+1,v',by omega,by first | exact True.intro | exact rfl,by first | exact True.intro | exact f7,by first | exact True.intro | exact f8,by first | exact True.intro | exact rfl,he2,ho2⟩
  ·have hz' : ¬ p.bins[k].kind≠0:=by simpa using hz
   rw [if_neg hz',jF] at hst
   rw [← hst] at ho1
   simp -implicitDefEqProofs only [A8,BO,BA,EI,EP,D5,AY,BB,AO,AQ,AL,BD,AX,AC,AA,AZ,AU,BH,BG,BR,AB,DK,↓reduceIte,jB,jA,jU,jC,enP,f9,wrap_succ (show k < 9223372036854775807 by omega)]
   exact ⟨n - 1,by omega,k+1,u,by omega,by first | exact True.intro | exact f3,by first | exact True.intro | exact f7,by first | exact True.intro | exact f8,by first | exact True.intro | exact rfl,he1,ho1⟩
 ·have hk' : ¬ k < p.bins.length:=by simpa using hc
  rw [jW (by omega)] at ho
  simp -implicitDefEqProofs only [BC,A8,BK,DI,BA,ED,EU,EW,CJ,AY,BB,AO,AQ,AL,BD,AX,AC,AA,AZ,BG,A7,↓reduceIte,jB,jA,jC,f3]
  exact ⟨hx.trans he,ho.base hx.le⟩
end
def cE (n:Int):Ex := .mk 1 n ⟨#[]⟩ .nil []
def A1D (op n:Int):List AV := [.int .i64 op,.int .i64 n,.str ⟨#[]⟩,.sl .nil 0 []]
theorem A32 (n:Int):KR Tryz.prog 48 [(0,.int .i64 1),(1,.int .i64 n)]=some (.agg (A1D 1 n)):=by kernel_rfl
def cpE:Ex→Ex
 | .mk op n name _ args => .mk op n name (match args with | [] => .nil | _ => .any) (cpEs args)
 where cpEs:List Ex→List Ex
 | [] => []
 | e :: es=>cpE e :: cpEs es
theorem AKH : ∀ l:List Ex,cpE.cpEs l=l.map cpE
 | []=>rfl
 | e :: es=>by show cpE e :: cpE.cpEs es=_; rw [AKH es]; rfl
theorem AMY (e:Ex):cpE e = .mk e.op e.n e.name (Cov.nm (e.args.map cpE)) (e.args.map cpE):=by
 cases e with
 | mk op n name m args =>
   show Ex.mk op n name _ (cpE.cpEs args)=Ex.mk op n name _ (args.map cpE)
   rw [AKH]
   cases args <;> rfl
theorem AO1:Frz DC:=fun n h d x=>by
 rw [IU]; exact ⟨rfl,rfl⟩
def cpW (e:Ex):List AV := [.int .i64 e.op,.int .i64 e.n,.str e.name,fzG 4 DC (e.args.map cpE)]
theorem A09 (e:Ex):CvR (.agg (cpW e)) (.agg (DC (cpE e))):=by
 rw [IU,AMY]
 exact CvR.agg (CvRL.cons (CvR.refl _) (CvRL.cons (CvR.refl _) (CvRL.cons (CvR.refl _) (CvRL.cons ACT CvRL.nil))))
theorem AU0 (n:Int):CvR (.agg (A1D 1 n)) (.agg (DC (cE n))):=by
 rw [IU]
 exact CvR.agg (CvRL.cons (CvR.refl _) (CvRL.cons (CvR.refl _) (CvRL.cons (CvR.refl _) (CvRL.cons (CvR.sl (Cv.nil 0 4)) CvRL.nil))))
theorem AN8 {H:Hp} {b:Nat} {row cs:List AV} (hb:H[b]? = some (.live 4 [row])) (hr:row.length=4) (hc:cs.length=4) (hl:cs.all AV.leaf=true):FM Tryz.prog H 48 (.ptr b 0 0) (.agg cs)=some (H.set b (.live 4 [cs])):=by
 rw [NJ (cs:=cs) (PM hl) (by rw [hc]; exact MQ) hb (by rw [hr,hc]; exact jL 4)]
 have:splice row 0 cs=cs:=by unfold splice; rw [List.take_zero,jX (by rw [hr,hc]; exact jL 4)]; simp
 rw [this]
theorem X9 {h:Hp} {b:Nat} {row:List AV} (hb:h[b]? = some (.live 4 [row])) (hr:row.length=4):D6 Tryz.prog h 48 (.ptr b 0 0)=some (.agg row):=by
 rw [IE XH MQ hb rfl (by rw [hr]; exact jL 4),zM,← hr,List.take_length]
theorem U9 (G:Nat→AV) (n:Int) (h:Hp):PCall (En G) 103 [.int .i64 n] h (.agg (DC (cE n))):=by
 refine PCall.res ?_ (AU0 n)
 refine AOF 3 (fun n H=>rfl) ?_
 refine acN Tryz.func103 rfl ?_
 show awp _ _ _ _ _ (EJ _ [.cell 2 48] _)
 have g2:=CY h (ABlk.live 4 [[.int .i64 0,.int .i64 0,.str ⟨#[]⟩,.sl .nil 0 []]])
 have hx:ext h (h ++ [ABlk.live 4 [[.int .i64 0,.int .i64 0,.str ⟨#[]⟩,.sl .nil 0 []]]]):=(ext.rfl' h).app _
 simp -implicitDefEqProofs only [FU,FQ,BC,A8,BA,AY,BB,AO,AQ,AL,BD,AX,AC,AA,AZ,AU,BH,BG,FV,KU,BU,BF,↓reduceIte,jB,jA,jC,enP,ABB]
 generalize h ++ [ABlk.live 4 [[.int .i64 0,.int .i64 0,.str ⟨#[]⟩,.sl .nil 0 []]]]=H at g2 hx ⊢
 simp -implicitDefEqProofs only [BK,BA,AY,BB,AO,AQ,AL,BD,AX,AC,E8,AA,AZ,EN,AB,DW,↓reduceIte,jB,jC,enP,jT,A32,AN8 (cs:=A1D 1 n) g2 rfl rfl rfl]
 rw [ADC (b:=h.length) (by simp -implicitDefEqProofs only [AA,↓reduceIte,jB]) (X9 (ER g2) rfl)]
 exact ⟨rfl,hx.set (jL _) _⟩
set_option maxHeartbeats 1000000 in
theorem AKJ (G:Nat→AV) : ∀ (w:Nat) (e:Ex) (h:Hp),wt e≤w→wt e≤1048576→PCall (En G) 102 [.agg (DC e)] h (.agg (DC (cpE e))):=by
 intro w
 induction w with
 | zero=>intro e h h1 _; have:=L6 e; omega
 | succ w ih =>
   intro e h h1 h2
   have hlen:=TF e.args
   have hwt:=L6 e
   refine PCall.res (r := .agg (cpW e)) ?_ (A09 e)
   refine ACalls.pure (R:=fun v H=>ext h H∧IR h.length H 4 v = .agg (cpW e)) 4 ?_ (fun v H ⟨a,b⟩=>⟨a,b⟩)
   refine acN Tryz.func102 rfl ?_
   show awp _ _ _ _ _ (EJ _ [.cell 2 48] _)
   have ge:=CV (x:=ABlk.live 4 [[.int .i64 0,.int .i64 0,.str ⟨#[]⟩,.sl .nil 0 []]]) (CY h (ABlk.live 4 [DC e]))
   have g2:=CY (h ++ [ABlk.live 4 [DC e]]) (ABlk.live 4 [[.int .i64 0,.int .i64 0,.str ⟨#[]⟩,.sl .nil 0 []]])
   have hx:ext h (h ++ [ABlk.live 4 [DC e]] ++ [ABlk.live 4 [[.int .i64 0,.int .i64 0,.str ⟨#[]⟩,.sl .nil 0 []]]]):=((ext.rfl' h).app _).app _
   have hb2:h.length < (h ++ [ABlk.live 4 [DC e]]).length:=by simp
   simp -implicitDefEqProofs only [BC,A8,BA,AY,BB,AO,AQ,AL,BD,AX,AC,AA,AZ,AU,H9,A7,FV,FD,BN,BJ,BU,AB,BF,↓reduceIte,jB,jG,jA,jC,enP,OD,bxE,ABB]
   generalize h ++ [ABlk.live 4 [DC e]] ++ [ABlk.live 4 [[.int .i64 0,.int .i64 0,.str ⟨#[]⟩,.sl .nil 0 []]]]=H0 at ge g2 hx ⊢
   generalize (h ++ [ABlk.live 4 [DC e]]).length=b2 at g2 hb2 ⊢
   have l2:=CE g2
   simp -implicitDefEqProofs only [BQ,BA,AY,BB,AO,AQ,AL,BD,AX,AC,AA,AZ,AU,BH,BG,DU,AB,↓reduceIte,jA,jC,enP,VU,Rk.ldE' ge,jH]
   refine DL (fun n F H => ∃ k u,n+k=e.args.length∧F 1 = .ptr h.length 0 0∧F 2 = .ptr b2 0 0∧F 3=u∧F 7 = .sl e.m 4 (e.args.map DC)∧F 8 = .int .i64 (e.args.length:Nat)∧F 9 = .int .i64 (k:Nat)∧ext H0 H∧outG 4 DC H0 ((e.args.take k).map cpE) u H) e.args.length
    ⟨0,.sl .nil 0 [],by simp,by simp -implicitDefEqProofs only [AA,↓reduceIte,jB],by simp -implicitDefEqProofs only [AA,↓reduceIte,jB],by simp -implicitDefEqProofs only [AA,↓reduceIte,jB],by simp -implicitDefEqProofs only [AA,↓reduceIte,jB],by simp -implicitDefEqProofs only [AA,↓reduceIte,jB],by simp -implicitDefEqProofs only [AA,↓reduceIte] <;> rfl,ext.rfl' _,outG.nil _ _ _ _⟩ ?_
   rintro n F H ⟨k,u,hk,f1,f2,f3,f7,f8,f9,he,ho⟩
   simp -implicitDefEqProofs only [BC,A8,BI,BA,AY,BB,AO,AQ,AL,BD,AX,AC,AA,AZ,BR,AB,CW,↓reduceIte,jA,jC,enP,f8,f9]
   refine CU (fun hc => ?_) (fun hc => ?_)
   ·have hk':k < e.args.length:=by simpa using hc
    have hlt:=Rk.wt_arg hk'
    have he1:=he.app [ABlk.live 4 [DC e.args[k]]]
    have ho1:=ho.app [ABlk.live 4 [DC e.args[k]]]
    have gT:=ldE H e.args[k]
    simp -implicitDefEqProofs only [BC,BQ,A8,BO,BA,AY,BB,AO,AQ,AL,BD,AX,AC,E8,AA,AZ,CB,BG,FV,BN,EN,BZ,CG,BX,BU,AB,DW,jE,jD,jF,↓reduceIte,jB,jA,jC,enP,ZI,jT,f7,f9,DF hk',FT XH MQ IX hk',ABB,AIB _ _ [.int .i64 0,.int .i64 0,.str ⟨#[]⟩,.sl .nil 0 []] rfl,gT]
    generalize H ++ [ABlk.live 4 [DC e.args[k]]]=H1 at he1 ho1 ⊢
    refine (ih e.args[k] H1 (by omega) (by omega)).use ?_
    have hbs:EZ Tryz.prog false H1 46 1 [(0,.agg (DC (cpE e.args[k])))]=some (.sl .full 4 [DC (cpE e.args[k])],H1):=by
     rw [IU]; exact (by kernel_rfl:EZ Tryz.prog false H1 46 1 [(0,.agg [.int .i64 (cpE e.args[k]).op,.int .i64 (cpE e.args[k]).n,.str (cpE e.args[k]).name,.sl (cpE e.args[k]).m 4 ((cpE e.args[k]).args.map DC)])]=_)
    obtain ⟨v',H2,ha,ho2,_,he2,_,_⟩:=ho1.append AEE MQ ALB AM7 (by omega) (by simp; omega) he1 (cpE e.args[k])
    have e3:(e.args.take k).map cpE ++ [cpE e.args[k]]=(e.args.take (k+1)).map cpE:=by rw [List.take_succ_eq_append_getElem hk',List.map_append]; rfl
    rw [e3] at ho2
    simp -implicitDefEqProofs only [FU,FQ,A8,BA,EI,EP,AY,BB,AO,AQ,AL,BD,AX,AC,AA,AZ,AU,BH,BG,A7,EK,BR,G8,BU,AB,DK,↓reduceIte,jB,jA,jC,enP,f3,hbs,ha,f9,wrap_succ (show k < 9223372036854775807 by omega)]
    exact ⟨n - 1,by omega,k+1,v',by omega,by first | exact True.intro | exact f1,by first | exact True.intro | exact f2,by first | exact True.intro | exact rfl,by first | exact True.intro | exact f7,by first | exact True.intro | exact f8,by first | exact True.intro | exact rfl,he2,ho2⟩
   ·have hk' : ¬ k < e.args.length:=by simpa using hc
    rw [jW (by omega)] at ho
    have ge1:=FO he ge
    have g21:=FO he g2
    have hle:=he.le
    have hlf:=ho.leaf
    have h0l:h.length < H0.length:=by omega
    have hst:FM Tryz.prog H 46 (.ptr h.length 0 3) u=some (H.set h.length (.live 4 [[.int .i64 e.op,.int .i64 e.n,.str e.name,u]])):=by
     rw [IU] at ge1
     rcases ho with ⟨_,rfl⟩ | ⟨_,o,_,rfl,_⟩
     ·rw [NJ (cs := [.sl .nil 0 []]) rfl (by kernel_rfl:szO Tryz.prog 46=some 1) ge1 (by simp)]; rfl
     ·rw [NJ (cs := [.own o 0 _]) rfl (by kernel_rfl:szO Tryz.prog 46=some 1) ge1 (by simp)]; rfl
    have g1':(H.set h.length (.live 4 [[.int .i64 e.op,.int .i64 e.n,.str e.name,u]]))[h.length]? = some (.live 4 [[.int .i64 e.op,.int .i64 e.n,.str e.name,u]]):=ER ge1
    have g2':(H.set h.length (.live 4 [[.int .i64 e.op,.int .i64 e.n,.str e.name,u]]))[b2]? = _:=DX g21 (by omega)
    have ho3:outG 4 DC H0 (e.args.map cpE) u (H.set h.length (.live 4 [[.int .i64 e.op,.int .i64 e.n,.str e.name,u]])):=ho.setB h0l _
    have hx3:ext h (H.set h.length (.live 4 [[.int .i64 e.op,.int .i64 e.n,.str e.name,u]])):=(hx.trans he).set (jL _) _
    simp -implicitDefEqProofs only [BC,A8,DI,BA,ED,EU,EW,AY,BB,AO,AQ,AL,BD,AX,AC,E8,AA,AZ,BG,BN,EN,BJ,AB,DW,↓reduceIte,jB,jG,jA,jC,enP,OD,jT,f1,f2,f3,hst]
    generalize H.set h.length (.live 4 [[.int .i64 e.op,.int .i64 e.n,.str e.name,u]])=H3 at g1' g2' ho3 hx3 ⊢
    have hlf4:([.int .i64 e.op,.int .i64 e.n,.str e.name,u]:List AV).all AV.leaf=true:=by simp [hlf]; exact ⟨rfl,rfl,rfl⟩
    simp -implicitDefEqProofs only [BK,BA,AY,BB,AO,AQ,AL,BD,AX,AC,E8,AA,AZ,EN,AB,DW,↓reduceIte,jB,jC,enP,jT,f1,f2,X9 g1' rfl,AN8 g2' rfl rfl hlf4]
    rw [ADC (b:=b2) (by simp -implicitDefEqProofs only [AA,↓reduceIte,jB,f2]) (X9 (ER g2') rfl)]
    refine ⟨hx3.set (by omega) _,?_⟩
    have ho4:=ho3.setB (b:=b2) l2 (.live 4 [[.int .i64 e.op,.int .i64 e.n,.str e.name,u]])
    have hz:=AJW AO1 ho4 h.length 1 (by have:=hx.le; omega)
    show AV.agg [.int .i64 e.op,.int .i64 e.n,.str e.name,IR h.length _ 3 u] = .agg (cpW e)
    rw [hz]; rfl
abbrev It:=Sum Ex Int
def A2Z:It→Ex
 | .inl e=>e
 | .inr n=>cE n
def AXT (l:List Rng):List It:=l.flatMap fun r => [.inr r.lo,.inr r.hi]
def AZI (e:Ex) (l:List Rng):List It := .inl e :: AXT l
def MI (e:Ex) (l:List Rng):Ex := .mk 23 0 ⟨#[]⟩ .any ((AZI e l).map A2Z)
theorem AQT (a:Rng) (l:List Rng):AXT (a :: l) = .inr a.lo :: .inr a.hi :: AXT l:=rfl
theorem AYQ (h:Hp) (a b:Int) (s:ByteArray) (m:SM) (xs:List (List AV)):EZ Tryz.prog true h 46 1 [(0,.agg [.int .i64 a,.int .i64 b,.str s,.sl m 4 xs])]=some (.own h.length 0 1,h ++ [ABlk.live 4 [[.int .i64 a,.int .i64 b,.str s,.sl m 4 xs]]]):=by kernel_rfl
theorem A3P (h:Hp) (e:Ex):EZ Tryz.prog true h 46 1 [(0,.agg (DC e))]=some (.own h.length 0 1,h ++ [ABlk.live 4 [DC e]]):=by
 rw [IU]; exact AYQ h _ _ _ _ _
theorem A31 (o n:Nat):KR Tryz.prog 48 [(0,.int .i64 23),(3,.own o 0 n)]=some (.agg [.int .i64 23,.int .i64 0,.str ⟨#[]⟩,.own o 0 n]):=by kernel_rfl
def orE (a b:Ex):Ex := .mk 20 0 ⟨#[]⟩ .full [a,b]
def ATM (e:Ex) (l:List Rng):Nat→Nat→Ex→Ex
 | 0,_,out=>out
 | f+1,i,out=>if i < l.length then ATM e l f (i+16) (orE out (MI e ((l.drop i).take (min l.length (i+16) - i)))) else out
def AGU (e:Ex) (l:List Rng):Ex:=ATM e l l.length 16 (MI e (l.take (min l.length 16)))
theorem AU4 (h:Hp) (a b:Ex):EZ Tryz.prog false h 46 2 [(0,.agg (DC a)),(1,.agg (DC b))]=some (.sl .full 4 [DC a,DC b],h):=by
 rw [IU a,IU b]
 generalize a.args.map DC=xs
 generalize b.args.map DC=ys
 kernel_rfl
theorem A3Z (xs:List (List AV)):KR Tryz.prog 48 [(0,.int .i64 20),(3,.sl .full 4 xs)]=some (.agg [.int .i64 20,.int .i64 0,.str ⟨#[]⟩,.sl .full 4 xs]):=by kernel_rfl
theorem AW5 (a b:Ex):DC (orE a b) = [.int .i64 20,.int .i64 0,.str ⟨#[]⟩,.sl .full 4 [DC a,DC b]]:=by rw [IU]; rfl
theorem ACB (xs:List Rng):(normal xs).length≤xs.length:=by
 unfold normal YD
 have h1:=ZH ((xs.filter full).mergeSort ARQ) []
 have h2:=List.length_filter_le full xs
 rw [List.length_mergeSort] at h1
 simp only [List.length_nil,jG] at h1
 omega
theorem AQJ {H:Hp} {b:Nat} {e:Ex} (hb:H[b]? = some (.live 4 [DC e])):D6 Tryz.prog H 48 (.ptr b 0 0)=some (.agg (DC e)):=X9 hb (IX e)
theorem ASP {H:Hp} {b:Nat} {row:List AV} {e:Ex} (hb:H[b]? = some (.live 4 [row])) (hr:row.length=4):FM Tryz.prog H 48 (.ptr b 0 0) (.agg (DC e))=some (H.set b (.live 4 [DC e])):=AN8 hb hr (IX e) (ZW e)
end Go.Proofs.YtfpagfhhhlljjaaGreatDoor.Ho
set_option linter.unusedSimpArgs false
set_option maxRecDepth 8000
namespace Go.Proofs.YtfpagfhhhlljjaaGreatDoor.Ho
open Sm Bins Cov Wd Xe Go.RowKit
section
variable (G:Nat→AV)
end
structure Xs where
 m:SM
 l:List Ex
def AZL (x:Xs):List AV := [.sl x.m 4 (x.l.map DC)]
section
variable (G:Nat→AV)
end
end Go.Proofs.YtfpagfhhhlljjaaGreatDoor.Ho
set_option linter.unusedSimpArgs false
set_option maxRecDepth 8000
namespace Go.Proofs.YtfpagfhhhlljjaaGreatDoor.Ho
open Sm Bins Cov Go.RowKit
open Bool renaming not_false→jC
open List renaming length_map→jH
open Nat renaming reduceEqDiff→jB,add_zero→jK,zero_add→jG,lt_or_ge→zD,reduceAdd→jM
open Option renaming getD_some→jA
def Y0 (p:Pt) (n:Nat):Prop := ∀ k j,(hk:k < p.bins.length)→k < n→(hj:j < k)→p.bins[k].name≠(p.bins[j]'(by omega)).name
def AHT (m:Mo) (p:Pt) (n:Nat):Prop := ∀ k,(hk:k < m.crs.length)→k < n→m.crs[k].name≠p.name
def ABL (m:Mo) (n:Nat):Prop := ∀ i,(hi:i < m.pts.length)→i < n→Y0 m.pts[i] m.pts[i].bins.length∧AHT m m.pts[i] m.crs.length
theorem ALM {a b:ByteArray} (h:(a.toList == b.toList)=false):a≠b:=by
 rintro rfl
 simp at h
section
variable (G:Nat→AV)
set_option maxHeartbeats 2000000 in
theorem AL6 (m:Mo) (hm:MoOk m) (h:Hp):ACalls (En G) 22 [.agg (D8 m)] h fun v H=>(∃ b:Bool,v = .bool b∧(b=true→ABL m m.pts.length))∧ext h H:=by
 refine acN Tryz.func22 rfl ?_
 show awp _ _ _ _ _ (EJ _ [.tmp 2] _)
 have gm:=CY h (.live 2 [D8 m])
 have hx:ext h (h ++ [ABlk.live 2 [D8 m]]):=(ext.rfl' h).app _
 have np:=hm.np
 have nc:=hm.nc
 simp -implicitDefEqProofs only [BC,BQ,A8,BA,AY,BB,AO,AQ,AL,BD,AX,AC,AZ,AU,BH,BM,A7,FD,BU,BF,jA,jC,enP,bxM]
 generalize h ++ [ABlk.live 2 [D8 m]]=H at gm hx ⊢
 refine DL (fun n F H2 => ∃ i,n+i=m.pts.length∧F 1 = .ptr h.length 0 0∧F 3 = .int .i64 (i:Nat)∧H2=H∧ABL m i) m.pts.length ⟨0,by simp,by simp -implicitDefEqProofs only [AA,↓reduceIte,jB],by simp -implicitDefEqProofs only [AA,↓reduceIte] <;> rfl,rfl,fun i _ hi=>absurd hi (Nat.not_lt_zero _)⟩ ?_
 rintro n F H2 ⟨i,hi,f1,f3,rfl,hN⟩
 simp -implicitDefEqProofs only [BC,A8,BI,BA,AY,BB,AO,AQ,AL,BD,AX,AC,AA,AZ,BG,BN,BR,BJ,DU,AB,CW,↓reduceIte,jB,jK,jA,jC,enP,PD,GR,f1,f3,OJ gm,jH]
 refine CU (fun hc => ?_) (fun hc => ?_)
 rotate_left
 ·have hi' : ¬ i < m.pts.length:=by simpa using hc
  simp -implicitDefEqProofs only [BC,A8,BK,DI,BA,ED,EU,EW,CJ,AY,BB,AO,AQ,AL,BD,AX,AC,AA,AU,BM,A7,↓reduceIte,jA,jC]
  exact ⟨⟨true,rfl,fun _ k hk hkn=>hN k hk (by omega)⟩,hx⟩
 have hi':i < m.pts.length:=by simpa using hc
 have hpn:=(hm.pts _ (List.getElem_mem hi')).num
 simp -implicitDefEqProofs only [BC,BQ,A8,BO,BA,AY,BB,AO,AQ,AL,BD,AX,AC,AA,AZ,AU,BH,BG,A7,BN,BJ,BZ,AB,↓reduceIte,jB,jK,jG,jA,jC,enP,OY,GR,IQ,f1,f3,OJ gm,DF hi',CX TA hi',NQ]
 refine H7 2 (fun F H'=>F 1 = .ptr h.length 0 0∧F 3 = .int .i64 (i:Nat)∧H'=H2∧Y0 m.pts[i] m.pts[i].bins.length) (fun F H'=>F 2 = .bool false∧H'=H2) ?_ ?_ ?_
 ·refine DL (fun n F H' => ∃ k,n+k=m.pts[i].bins.length∧F 1 = .ptr h.length 0 0∧F 3 = .int .i64 (i:Nat)∧F 4 = .sl m.pts[i].bm 4 (m.pts[i].bins.map GN)∧F 5 = .int .i64 (k:Nat)∧H'=H2∧Y0 m.pts[i] k) m.pts[i].bins.length ⟨0,by simp,by simp -implicitDefEqProofs only [AA,↓reduceIte,jB,f1],by simp -implicitDefEqProofs only [AA,↓reduceIte,jB,f3],by simp -implicitDefEqProofs only [AA,↓reduceIte,jB],by simp -implicitDefEqProofs only [AA,↓reduceIte] <;> rfl,rfl,fun k j _ hk _=>absurd hk (Nat.not_lt_zero _)⟩ ?_
  clear f1 f3
  rintro n2 F H' ⟨k,hk,f1,f3,f4,f5,rfl,hB⟩
  simp -implicitDefEqProofs only [BC,A8,BI,BA,AY,BB,AO,AQ,AL,BD,AX,AC,AA,AZ,BG,BR,DU,AB,CW,↓reduceIte,jB,jA,jC,enP,PU,f4,f5,jH]
  refine CU (fun hd => ?_) (fun hd => ?_)
  rotate_left
  ·have hk' : ¬ k < m.pts[i].bins.length:=by simpa using hd
   simp -implicitDefEqProofs only [DI,ED,KQ,EW,AA,↓reduceIte,jB]
   exact ⟨by first | exact True.intro | exact f1,by first | exact True.intro | exact f3,by first | exact True.intro | exact rfl,fun a b ha hab hb=>hB a b ha (by omega) hb⟩
  have hk':k < m.pts[i].bins.length:=by simpa using hd
  simp -implicitDefEqProofs only [BC,BQ,A8,BO,BA,AY,BB,AO,AQ,AL,BD,AX,AC,AU,BH,A7,jA,jC]
  refine H7 4 (fun F H2=>F 1 = .ptr h.length 0 0∧F 3 = .int .i64 (i:Nat)∧F 4 = .sl m.pts[i].bm 4 (m.pts[i].bins.map GN)∧F 5 = .int .i64 (k:Nat)∧H2=H'∧Y0 m.pts[i] (k+1)) (fun F H2=>F 2 = .bool false∧H2=H') ?_ ?_ ?_
  ·refine DL (fun n F H2 => ∃ j,n+j=k∧F 1 = .ptr h.length 0 0∧F 3 = .int .i64 (i:Nat)∧F 4 = .sl m.pts[i].bm 4 (m.pts[i].bins.map GN)∧F 5 = .int .i64 (k:Nat)∧F 6 = .int .i64 (j:Nat)∧H2=H'∧∀ a,(ha:a < j)→(hak:a < k)→m.pts[i].bins[k].name≠(m.pts[i].bins[a]'(by omega)).name) k ⟨0,by simp,by simp -implicitDefEqProofs only [AA,↓reduceIte,jB,f1],by simp -implicitDefEqProofs only [AA,↓reduceIte,jB,f3],by simp -implicitDefEqProofs only [AA,↓reduceIte,jB,f4],by simp -implicitDefEqProofs only [AA,↓reduceIte,jB,f5],by simp -implicitDefEqProofs only [AA,↓reduceIte] <;> rfl,rfl,fun a ha _=>absurd ha (Nat.not_lt_zero _)⟩ ?_
   clear f1 f3 f4 f5
   rintro n3 F H2 ⟨j,hj,f1,f3,f4,f5,f6,rfl,hJ⟩
   simp -implicitDefEqProofs only [BC,A8,BI,BA,AY,BB,AO,AQ,AL,BD,AX,AC,AA,AZ,BG,BR,AB,CW,↓reduceIte,jB,jA,jC,enP,f5,f6]
   refine CU (fun hq => ?_) (fun hq => ?_)
   rotate_left
   ·have hj' : ¬ j < k:=by simpa using hq
    simp -implicitDefEqProofs only [DI,ED,KQ,EW,AA,↓reduceIte,jB]
    refine ⟨by first | exact True.intro | exact f1,by first | exact True.intro | exact f3,by first | exact True.intro | exact f4,by first | exact True.intro | exact f5,by first | exact True.intro | exact rfl,fun a b ha hab hb => ?_⟩
    rcases zD a k with q | q
    ·exact hB a b ha q hb
    ·have:a=k:=by omega
     subst this
     exact hJ b (by omega) hb
   have hj':j < k:=by simpa using hq
   have hjb:j < m.pts[i].bins.length:=by omega
   simp -implicitDefEqProofs only [BC,BQ,BO,BA]
   refine EX (by kernel_rfl) ?_
   simp -implicitDefEqProofs only [F6,EF,DZ,FC,EH,FI,FB,IB,D9,EC,BI,BA,AO,AA,AZ,BN,BR,BJ,BZ,AB,J7,↓reduceIte,jB,jM,jK,jA,enP,RJ,TW,f4,f5,f6,DF hk',CX ag9 hk',YQ,DF hjb,CX ag9 hjb]
   refine CU (fun hr => ?_) (fun hr => ?_)
   ·simp -implicitDefEqProofs only [BC,A8,BK,BA,CQ,EE,MS,FK,AY,BB,AO,AQ,AL,BD,AX,AC,AA,AU,BM,A7,↓reduceIte,jA,jC]
    exact ⟨by first | exact True.intro | exact rfl,by first | exact True.intro | exact rfl⟩
   ·simp -implicitDefEqProofs only [A8,BO,BA,EI,EP,AY,BB,AO,AQ,AL,BD,AX,AC,AA,AZ,AU,BH,BG,A7,BR,AB,DK,↓reduceIte,jB,jA,jC,enP,f6,wrap_succ (show j < 9223372036854775807 by omega)]
    refine ⟨n3 - 1,by omega,j+1,by omega,by first | exact True.intro | exact f1,by first | exact True.intro | exact f3,by first | exact True.intro | exact f4,by first | exact True.intro | exact f5,by first | exact True.intro | exact rfl,by first | exact True.intro | exact rfl,fun a ha hak => ?_⟩
    rcases zD a j with q | q
    ·exact hJ a q hak
    ·have:a=j:=by omega
     subst this
     exact ALM (by simpa using hr)
  ·rintro F H2 ⟨g1,g3,g4,g5,rfl,hB2⟩
   simp -implicitDefEqProofs only [A8,BA,EI,EU,EP,AY,BB,AO,AQ,AL,BD,AX,AC,AA,AZ,AU,BH,BG,A7,BR,AB,DK,↓reduceIte,jB,jA,jC,enP,g5,wrap_succ (show k < 9223372036854775807 by omega)]
   exact ⟨n2 - 1,by omega,k+1,by omega,by first | exact True.intro | exact g1,by first | exact True.intro | exact g3,by first | exact True.intro | exact g4,by first | exact True.intro | exact rfl,by first | exact True.intro | exact rfl,hB2⟩
  ·rintro F H2 ⟨g2,rfl⟩
   simp -implicitDefEqProofs only [CQ,EE,MS,FK,g2]
   exact ⟨by first | exact True.intro | exact rfl,by first | exact True.intro | exact rfl⟩
 ·rintro F H' ⟨g1,g3,rfl,hB⟩
  simp -implicitDefEqProofs only [BC,BQ,A8,BA,EU,AY,BB,AO,AQ,AL,BD,AX,AC,AU,BH,A7,↓reduceIte,jA,jC]
  refine H7 6 (fun F H2=>F 1 = .ptr h.length 0 0∧F 3 = .int .i64 (i:Nat)∧H2=H'∧AHT m m.pts[i] m.crs.length) (fun F H2=>F 2 = .bool false∧H2=H') ?_ ?_ ?_
  ·refine DL (fun n F H2 => ∃ k,n+k=m.crs.length∧F 1 = .ptr h.length 0 0∧F 3 = .int .i64 (i:Nat)∧F 7 = .int .i64 (k:Nat)∧H2=H'∧AHT m m.pts[i] k) m.crs.length ⟨0,by simp,by simp -implicitDefEqProofs only [AA,↓reduceIte,jB,g1],by simp -implicitDefEqProofs only [AA,↓reduceIte,jB,g3],by simp -implicitDefEqProofs only [AA,↓reduceIte] <;> rfl,rfl,fun k _ hk=>absurd hk (Nat.not_lt_zero _)⟩ ?_
   clear g1 g3
   rintro n2 F H2 ⟨k,hk,f1,f3,f7,rfl,hC⟩
   simp -implicitDefEqProofs only [BC,A8,BI,BA,AY,BB,AO,AQ,AL,BD,AX,AC,AA,AZ,BG,BN,BR,BJ,DU,AB,CW,↓reduceIte,jB,jG,jA,jC,enP,VW,IW,f1,f7,RI gm,jH]
   refine CU (fun hd => ?_) (fun hd => ?_)
   rotate_left
   ·have hk' : ¬ k < m.crs.length:=by simpa using hd
    simp -implicitDefEqProofs only [DI,ED,KQ,EW,AA,↓reduceIte,jB]
    exact ⟨by first | exact True.intro | exact f1,by first | exact True.intro | exact f3,by first | exact True.intro | exact rfl,fun a ha hab=>hC a ha (by omega)⟩
   have hk':k < m.crs.length:=by simpa using hd
   simp -implicitDefEqProofs only [BC,BQ,BO,BA]
   refine EX (by kernel_rfl) ?_
   simp -implicitDefEqProofs only [F6,EF,DZ,FC,EH,FI,FB,IB,D9,EC,BI,BA,AO,AA,AZ,BN,BR,BJ,BZ,AB,J7,↓reduceIte,jB,jM,jK,jG,jA,enP,OY,PE,GR,IW,XC,XB,f1,f3,f7,OJ gm,RI gm,DF hk',CX ag9 hk',ADH,DF hi',CX ag9 hi',ADF]
   refine CU (fun hr => ?_) (fun hr => ?_)
   ·simp -implicitDefEqProofs only [BC,A8,BK,BA,CQ,EE,MS,FK,AY,BB,AO,AQ,AL,BD,AX,AC,AA,AU,BM,A7,↓reduceIte,jA,jC]
    exact ⟨by first | exact True.intro | exact rfl,by first | exact True.intro | exact rfl⟩
   ·simp -implicitDefEqProofs only [A8,BO,BA,EI,EP,AY,BB,AO,AQ,AL,BD,AX,AC,AA,AZ,AU,BH,BG,A7,BR,AB,DK,↓reduceIte,jB,jA,jC,enP,f7,wrap_succ (show k < 9223372036854775807 by omega)]
    refine ⟨n2 - 1,by omega,k+1,by omega,by first | exact True.intro | exact f1,by first | exact True.intro | exact f3,by first | exact True.intro | exact rfl,by first | exact True.intro | exact rfl,fun a ha hab => ?_⟩
    rcases zD a k with q | q
    ·exact hC a ha q
    ·have:a=k:=by omega
     subst this
     exact ALM (by simpa using hr)
  ·rintro F H2 ⟨q1,q3,rfl,hC⟩
   simp -implicitDefEqProofs only [A8,BA,EI,EU,EP,AY,BB,AO,AQ,AL,BD,AX,AC,AA,AZ,AU,BH,BG,A7,BR,AB,DK,↓reduceIte,jB,jA,jC,enP,q3,wrap_succ (show i < 9223372036854775807 by omega)]
   refine ⟨n - 1,by omega,i+1,by omega,by first | exact True.intro | exact q1,by first | exact True.intro | exact rfl,by first | exact True.intro | exact rfl,fun a ha hab => ?_⟩
   rcases zD a i with q | q
   ·exact hN a ha q
   ·have:a=i:=by omega
    subst this
    exact ⟨hB,hC⟩
  ·rintro F H2 ⟨g2,rfl⟩
   simp -implicitDefEqProofs only [CQ,EE,FK,CJ,g2]
   exact ⟨⟨false,rfl,fun q=>by cases q⟩,hx⟩
 ·rintro F H' ⟨g2,rfl⟩
  simp -implicitDefEqProofs only [CQ,EE,FK,CJ,g2]
  exact ⟨⟨false,rfl,fun q=>by cases q⟩,hx⟩
end
end Go.Proofs.YtfpagfhhhlljjaaGreatDoor.Ho
