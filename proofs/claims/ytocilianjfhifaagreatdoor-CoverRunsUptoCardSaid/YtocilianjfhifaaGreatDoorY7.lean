/- Part 7 of the proof (M14, N4, N7, N8, N10, N12); no condition. -/
import Derived.Test.YtocilianjfhifaaGreatDoorY6
set_option linter.unusedVariables false
set_option linter.unusedSimpArgs false
set_option maxRecDepth 8000
namespace Go.Proofs.YtocilianjfhifaaGreatDoor.Cov
open Sm Bins Go.RowKit
structure TwoV (h H:Hp) (m:Mo) (v:Cvr) (vb:Nat):Prop where
 gm:H[h.length]? = some (.live 2 [EP m])
 gv:H[vb]? = some (.live 4 [F7 v])
 hx : ∃ x,H=h ++ x
theorem TwoV.mk' (h:Hp) (m:Mo) (v:Cvr):TwoV h (h ++ [.live 2 [EP m]] ++ [.live 4 [F7 v]]) m v (h ++ [ABlk.live 2 [EP m]]).length:=⟨CW (CY _ _),CY _ _,⟨_,List.append_assoc _ _ _⟩⟩
section
variable {h H:Hp} {m:Mo} {v:Cvr} {vb:Nat} (t:TwoV h H m v vb)
include t
theorem TwoV.m0:D6 Tryz.prog H 22 (.ptr h.length 0 0)=some (.sl m.pm 6 (m.pts.map F8)):=by rw [DU WI t.gm (row:=EP m) rfl,QH]
theorem TwoV.m1:D6 Tryz.prog H 23 (.ptr h.length 0 1)=some (.sl m.cm 3 (m.crs.map GL)):=by rw [DU AGM t.gm (row:=EP m) rfl,XX]
theorem TwoV.l0:D6 Tryz.prog H 26 (.ptr vb 0 0)=some (.sl v.pm 1 (v.pts.map encL)):=by rw [DU QP t.gv (row:=F7 v) rfl,AQF]
theorem TwoV.l1:D6 Tryz.prog H 26 (.ptr vb 0 1)=some (.sl v.cm 1 (v.crs.map encL)):=by rw [DU QP t.gv (row:=F7 v) rfl,AQE]
theorem TwoV.l2:D6 Tryz.prog H 3 (.ptr vb 0 2)=some (.int .i64 v.sam):=by rw [DU ag3 t.gv (row:=F7 v) rfl,AQD]
theorem TwoV.l3:D6 Tryz.prog H 3 (.ptr vb 0 3)=some (.int .i64 v.ill):=by rw [DU ag3 t.gv (row:=F7 v) rfl,AQC]
end
theorem ACM (n:Int) (may:Bool):countB n may = !(!I9 n || (decide (n > 0) && !may)):=by
 unfold countB
 cases hw:I9 n
 ·rfl
 ·have h0:0≤n:=by
   unfold I9 at hw; simp at hw; exact hw.1
  cases may
  ·have:(n == 0) = !decide (n > 0):=by rw [Bool.eq_iff_iff]; simp; omega
   rw [this]; cases decide (n > 0) <;> rfl
  ·cases decide (n > 0) <;> rfl
set_option maxHeartbeats 1000000 in
theorem AP4 (G:Nat→AV) (m:Mo) (v:Cvr) (hm:MoOk m) (hv:CvOk v) (h:Hp):PCall (En G) 39 [.agg (EP m),.agg (F7 v)] h (.bool (MV m v)):=by
 refine ACalls.pure0 rfl ?_
 have hm1:=hm.np
 have hm2:=hm.nc
 refine CB (H:=Hint.none) (enM G) Tryz.func39 rfl (by kernel_rfl) (by kernel_rfl) (nLb (by kernel_rfl)) ?_
 show awp _ _ _ _ _ (EG _ [.tmp 4] _)
 have t:=TwoV.mk' h m v
 simp -implicitDefEqProofs only [BC,BA,A8,AY,BB,AO,AQ,AL,BD,AX,AC,AA,A7,AU,BM,AZ,FY,BV,CE,BF,BN,↓reduceIte,Nat.reduceEqDiff,oGs,bNf,enP,bxM,bxV]
 generalize h ++ [ABlk.live 2 [EP m]] ++ [ABlk.live 4 [F7 v]]=H at t ⊢
 generalize (h ++ [ABlk.live 2 [EP m]]).length=vb at t ⊢
 have hlp:m.pts.length≠v.pts.length→LU okP m.pts v.pts=false:=fun hne=>by
  rw [← Bool.not_eq_true]; exact fun e=>hne (QG e)
 have hlc:m.crs.length≠v.crs.length→LU (okC m) m.crs v.crs=false:=fun hne=>by
  rw [← Bool.not_eq_true]; exact fun e=>hne (QG e)
 simp -implicitDefEqProofs only [AY,AO,AQ,AL,BD,AX,AC,AA,A7,BX,BZ,BU,AB,lMc,lMn,lAn,↓reduceIte,oGs,bNf,ldM t.gm]
 refine (RP G m hm _).use ?_
 simp -implicitDefEqProofs only [AY,BJ,BQ,CO,AO,AQ,AL,BD,AX,AC,AA,A7,AU,BH,BG,BR,AB,EN,↓reduceIte,oGs,bNf,enP,bne]
 cases h1:(FX m == 0)
 ·simp -implicitDefEqProofs only [BC,BA,BK,BI,A8,CP,CJ,C9,AY,BB,BJ,BQ,CO,FN,AO,AQ,AL,BD,AX,AC,AA,EQ,A7,AU,BM,BG,AZ,CU,DT,↓reduceIte,Nat.reduceEqDiff,oGs,bNf]
  exact ⟨by unfold MV; rw [h1]; rfl,t.hx⟩
 have hg:=PV (beq_iff_eq.1 h1)
 simp -implicitDefEqProofs only [AY,BJ,BQ,CO,EK,AO,AQ,AL,BD,AX,AC,AA,A7,AU,BM,BG,CU,DL,BV,BR,BL,D7,AB,EN,↓reduceIte,Nat.reduceEqDiff,Nat.add_zero,oGs,bNt,bNf,enP,QO,IU,XM,MX,t.m0,t.l0,lLm,bne]
 cases h2:((v.pts.length:Int) == (m.pts.length:Int))
 ·simp -implicitDefEqProofs only [BC,BA,BK,BI,A8,CP,CJ,C9,AY,BB,BJ,BQ,CO,FN,AO,AQ,AL,BD,AX,AC,AA,EQ,A7,AU,BM,BG,AZ,CU,DT,↓reduceIte,Nat.reduceEqDiff,oGs,bNf]
  have:=hlp (by simp at h2; omega)
  exact ⟨by unfold MV; rw [this]; simp,t.hx⟩
 have h2':v.pts.length=m.pts.length:=by simp at h2; omega
 simp -implicitDefEqProofs only [AY,BJ,BQ,CO,EK,AO,AQ,AL,BD,AX,AC,AA,A7,AU,BM,BG,CU,DL,BV,BR,BL,D7,AB,EN,↓reduceIte,Nat.reduceEqDiff,Nat.zero_add,oGs,bNt,bNf,enP,V8,J6,XM,MW,t.m1,t.l1,lLm,bne]
 cases h3:((v.crs.length:Int) == (m.crs.length:Int))
 ·simp -implicitDefEqProofs only [BC,BA,BK,BI,A8,CP,CJ,C9,AY,BB,BJ,BQ,CO,FN,AO,AQ,AL,BD,AX,AC,AA,EQ,A7,AU,BM,BG,AZ,CU,DT,↓reduceIte,Nat.reduceEqDiff,oGs,bNf]
  have:=hlc (by simp at h3; omega)
  exact ⟨by unfold MV; rw [this]; simp,t.hx⟩
 have h3':v.crs.length=m.crs.length:=by simp at h3; omega
 simp -implicitDefEqProofs only [BJ,BQ,CO,EK,AO,AQ,AL,BD,AX,AC,AA,A7,BX,BV,BL,BZ,BU,AB,lMc,lMn,lAn,↓reduceIte,Nat.reduceEqDiff,Nat.zero_add,oGs,bNt,bNf,enP,Y5,t.l2]
 refine (SE G _ _).use ?_
 simp -implicitDefEqProofs only [AY,BJ,BQ,CO,EK,AO,AQ,AL,BD,AX,AC,AA,A7,AU,BM,BG,CU,DL,H9,AB,EZ,↓reduceIte,Nat.reduceEqDiff,oGs,bNf]
 cases h4:I9 v.sam
 ·simp -implicitDefEqProofs only [BC,BA,BK,BI,A8,CP,CJ,C9,AY,BB,BJ,BQ,CO,FN,AO,AQ,AL,BD,AX,AC,AA,EQ,A7,AU,BM,AZ,CU,DT,↓reduceIte,Nat.reduceEqDiff,oGs,bNf]
  exact ⟨by unfold MV; rw [h4]; simp,t.hx⟩
 simp -implicitDefEqProofs only [BJ,BQ,CO,EK,AO,AQ,AL,BD,AX,AC,AA,A7,BX,BV,BL,BZ,BU,AB,lMc,lMn,lAn,↓reduceIte,Nat.reduceEqDiff,Nat.zero_add,oGs,bNt,bNf,enP,Y4,t.l3]
 refine (SE G _ _).use ?_
 simp -implicitDefEqProofs only [BI,A8,AY,BB,BJ,BQ,CO,EK,AO,AQ,AL,BD,AX,AC,AA,A7,AU,BM,CU,DL,H9,AB,EZ,↓reduceIte,Nat.reduceEqDiff,oGs,bNf]
 cases h5:I9 v.ill
 ·simp -implicitDefEqProofs only [BC,BA,BK,A8,CP,CJ,C9,AY,BB,AO,AQ,AL,BD,AX,AC,AA,AU,BM,AZ,↓reduceIte,oGs,bNf]
  exact ⟨by unfold MV; rw [h5]; simp,t.hx⟩
 have hfb:MV m v=(LU okP m.pts v.pts && LU (okC m) m.crs v.crs):=by unfold MV; rw [h1,h4,h5]; simp
 rw [hfb]
 simp -implicitDefEqProofs only [BC,BP,BA,BO,A8,DN,AY,BB,AO,AQ,AL,BD,AX,AC,AU,BH,AZ,oGs,bNt,bNf]
 refine G7 0 (fun F H'=>F 2 = .ptr h.length 0 0∧F 3 = .ptr vb 0 0∧H'=H∧LU okP m.pts v.pts=true) (fun F H'=>F 4 = .bool false∧H'=H∧LU okP m.pts v.pts=false) ?_ ?_ ?_
 ·refine DR (fun n F H' => ∃ i,n+i=m.pts.length∧F 2 = .ptr h.length 0 0∧F 3 = .ptr vb 0 0∧F 5 = .int .i64 (i:Nat)∧H'=H∧LU okP m.pts v.pts=LU okP (m.pts.drop i) (v.pts.drop i)) m.pts.length ⟨0,by simp,by simp -implicitDefEqProofs only [AA,↓reduceIte,Nat.reduceEqDiff],by simp -implicitDefEqProofs only [AA,↓reduceIte,Nat.reduceEqDiff],by simp -implicitDefEqProofs only [AA,↓reduceIte]; rfl,rfl,rfl⟩ ?_
  rintro n F H' ⟨i,hi,f2,f3,f5,rfl,hf⟩
  simp -implicitDefEqProofs only [BC,BA,BI,A8,AY,BB,AO,AQ,AL,BD,AX,AC,AA,A7,BG,BV,BR,BL,D7,AB,DC,↓reduceIte,Nat.reduceEqDiff,Nat.add_zero,oGs,bNf,enP,QO,IU,f2,f5,t.m0,lLm]
  refine CV (fun hc => ?_) (fun hc => ?_)
  ·have hi':i < m.pts.length:=by simpa using hc
   have hil:i < v.pts.length:=by omega
   rw [AEG okP m.pts v.pts i hi' hil] at hf
   have hxl:=hv.eachP _ (List.getElem_mem hil)
   simp -implicitDefEqProofs only [BC,BP,BO,A8]
   refine FC (by kernel_rfl) ?_
   simp -implicitDefEqProofs only [F9,EE,DX,FB,EI,FO,FP,JB,EH,EC,JH,BI,A8,AO,AA,A7,BV,BR,BL,CG,D7,AB,EN,↓reduceIte,Nat.reduceEqDiff,Nat.reduceAdd,Nat.add_zero,Nat.zero_add,oGs,enP,PU,IU,PH,MX,Q9,IW,JJ,f2,f3,f5,t.m0,t.l0,DZ hil,DZ hi',DV MS hil,QX,DV QK hi',MI,lLm]
   refine CV (fun h6 => ?_) (fun h6 => ?_)
   ·simp -implicitDefEqProofs only [BC,BA,BK,A8,CP,D8,NE,E8,AY,BB,AO,AQ,AL,BD,AX,AC,AA,AU,BM,AZ,↓reduceIte,oGs,bNf]
    have:okP m.pts[i] v.pts[i]=false:=by
     have:(v.pts[i].l.length == m.pts[i].bins.length)=false:=by
      rw [beq_eq_false_iff_ne]; intro e; simp [e] at h6
     unfold okP; rw [this]; rfl
    exact ⟨trivial,trivial,by rw [hf,this]; rfl⟩
   have hbl:v.pts[i].l.length=m.pts[i].bins.length:=by simp at h6; omega
   have hok:okP m.pts[i] v.pts[i]=VD (fun k=>kindOf m.pts[i] k == 0) 0 v.pts[i].l:=by
    unfold okP; rw [beq_iff_eq.2 hbl]; rfl
   simp -implicitDefEqProofs only [BC,BP,BA,BO,A8,AY,BB,AO,AQ,AL,BD,AX,AC,AU,BH,AZ,oGs,bNf]
   refine G7 2 (fun F' H=>F' 2 = .ptr h.length 0 0∧F' 3 = .ptr vb 0 0∧F' 5 = .int .i64 (i:Nat)∧H=H'∧okP m.pts[i] v.pts[i]=true) (fun F' H=>F' 4 = .bool false∧H=H'∧okP m.pts[i] v.pts[i]=false) ?_ ?_ ?_
   ·refine DR (fun n F' H => ∃ k,n+k=v.pts[i].l.length∧F' 2 = .ptr h.length 0 0∧F' 3 = .ptr vb 0 0∧F' 5 = .int .i64 (i:Nat)∧F' 6 = .int .i64 (k:Nat)∧H=H'∧okP m.pts[i] v.pts[i]=VD (fun k=>kindOf m.pts[i] k == 0) k (v.pts[i].l.drop k)) v.pts[i].l.length ⟨0,by simp,by simp -implicitDefEqProofs only [AA,↓reduceIte,Nat.reduceEqDiff,f2],by simp -implicitDefEqProofs only [AA,↓reduceIte,Nat.reduceEqDiff,f3],by simp -implicitDefEqProofs only [AA,↓reduceIte,Nat.reduceEqDiff,f5],by simp -implicitDefEqProofs only [AA,↓reduceIte]; rfl,rfl,hok⟩ ?_
    clear f2 f3 f5
    rintro n' F H' ⟨k,hk,f2,f3,f5,f6,rfl,hr⟩
    simp -implicitDefEqProofs only [BC,BA,BI,A8,AY,BB,AO,AQ,AL,BD,AX,AC,AA,A7,BG,BV,BR,BL,CG,D7,AB,DC,↓reduceIte,Nat.reduceEqDiff,Nat.add_zero,oGs,bNf,enP,PH,MX,JJ,f3,f5,f6,t.l0,DZ hil,DV MS hil,QX,lLm]
    refine CV (fun hc => ?_) (fun hc => ?_)
    ·have hk':k < v.pts[i].l.length:=by simpa using hc
     have hkb:k < m.pts[i].bins.length:=by omega
     have hkd:kindOf m.pts[i] k=(m.pts[i].bins[k]).kind:=by unfold kindOf; rw [List.getElem?_eq_getElem hkb]
     rw [ADZ _ _ _ hk',hkd,ACM] at hr
     simp -implicitDefEqProofs only [BC,BP,BA,BO,A8,AY,BB,AO,AQ,AL,BD,AX,AC,AA,A7,BX,BG,AZ,BV,BL,CG,BZ,BU,AB,lMc,lMn,lAn,↓reduceIte,Nat.reduceEqDiff,Nat.add_zero,oGs,bNf,enP,PH,MX,JM,f3,f5,f6,t.l0,DZ hil,DV MS hil,QX,DZ hk',DV ag3 hk',encI0]
     refine (SE G _ _).use ?_
     simp -implicitDefEqProofs only [AY,BJ,BQ,CO,AO,AQ,AL,BD,AX,AC,AA,A7,BG,H9,AB,EZ,↓reduceIte,oGs,bNf]
     cases hw:I9 v.pts[i].l[k]
     ·simp -implicitDefEqProofs only [BC,BA,BK,BI,A8,CP,D8,NE,E8,C9,AY,BB,BJ,BQ,CO,FN,QQ,AO,AQ,AL,BD,AX,AC,AA,EQ,A7,AU,BM,AZ,CU,DT,↓reduceIte,Nat.reduceEqDiff,oGs,bNf]
      exact ⟨trivial,trivial,by rw [hr,hw]; rfl⟩
     rw [hw] at hr
     simp -implicitDefEqProofs only [BJ,BQ,CO,EK,AO,AQ,AL,BD,AX,AC,AA,A7,AU,BH,BG,BR,AB,EY,↓reduceIte,Nat.reduceEqDiff,oGs,bNt,bNf,enP]
     cases hp:decide (v.pts[i].l[k] > 0)
     ·simp -implicitDefEqProofs only [BA,BO,BI,A8,EF,ER,DN,AY,BB,BJ,BQ,CO,EK,IK,AO,AQ,AL,BD,AX,AC,AA,EQ,A7,AU,BH,BM,BG,AZ,CU,DL,BR,AB,DF,↓reduceIte,Nat.reduceEqDiff,oGs,bNf,enP,f6,wrap_succ (show k < 9223372036854775807 by omega)]
      exact ⟨n' - 1,by omega,k+1,by omega,f2,f3,f5,rfl,trivial,by rw [hr,hp]; rfl⟩
     rw [hp] at hr
     simp -implicitDefEqProofs only [BI,A8,AY,BB,BJ,BQ,CO,GG,EK,AO,AQ,AL,BD,AX,AC,AA,A7,AU,BH,BM,BG,CU,DT,DL,BV,BR,BL,CG,AB,EN,↓reduceIte,Nat.reduceEqDiff,Nat.add_zero,Nat.zero_add,oGs,bNf,enP,PU,IU,XN,IW,MR,f2,f5,f6,t.m0,DZ hi',DV QK hi',MI,DZ hkb,DV ag3 hkb,UH,bne]
     cases hz:(m.pts[i].bins[k].kind == 0)
     ·simp -implicitDefEqProofs only [BC,BA,BK,A8,CP,D8,NE,E8,C9,AY,BB,AO,AQ,AL,BD,AX,AC,AA,AU,BM,AZ,↓reduceIte,oGs,bNf]
      exact ⟨trivial,trivial,by rw [hr,hz]; rfl⟩
     ·simp -implicitDefEqProofs only [BA,BO,A8,EF,ER,DN,AY,BB,AO,AQ,AL,BD,AX,AC,AA,A7,AU,BH,BG,AZ,BR,AB,DF,↓reduceIte,Nat.reduceEqDiff,oGs,bNt,bNf,enP,f6,wrap_succ (show k < 9223372036854775807 by omega)]
      exact ⟨n' - 1,by omega,k+1,by omega,f2,f3,f5,rfl,trivial,by rw [hr,hz]; rfl⟩
    ·have hk' : ¬ k < v.pts[i].l.length:=by simpa using hc
     simp -implicitDefEqProofs only [DJ,ED,KI,EU,AA,↓reduceIte,Nat.reduceEqDiff]
     exact ⟨f2,f3,f5,trivial,by rw [hr,List.drop_eq_nil_of_le (by omega)]; rfl⟩
   ·rintro F' H' ⟨g2,g3,g5,rfl,hr⟩
    simp -implicitDefEqProofs only [BA,A8,EF,EX,ER,AY,BB,AO,AQ,AL,BD,AX,AC,AA,A7,AU,BH,BG,AZ,BR,AB,DF,↓reduceIte,Nat.reduceEqDiff,oGs,bNf,enP,g5,wrap_succ (show i < 9223372036854775807 by omega)]
    exact ⟨n - 1,by omega,i+1,by omega,g2,g3,rfl,trivial,by rw [hf,hr]; rfl⟩
   ·rintro F' H' ⟨g4,rfl,hr⟩
    simp -implicitDefEqProofs only [CP,D8,NE,E8,g4]
    exact ⟨trivial,trivial,by rw [hf,hr]; rfl⟩
  ·have hi' : ¬ i < m.pts.length:=by simpa using hc
   simp -implicitDefEqProofs only [DJ,ED,KI,EU,AA,↓reduceIte,Nat.reduceEqDiff]
   exact ⟨f2,f3,trivial,by rw [hf,AIB okP _ _ i (by omega) (by omega)]⟩
 ·rintro F H' ⟨f2,f3,rfl,hfp⟩
  rw [hfp,Bool.true_and]
  simp -implicitDefEqProofs only [BC,BP,BA,A8,EX,AY,BB,AO,AQ,AL,BD,AX,AC,AU,BH,AZ,↓reduceIte,oGs,bNf]
  refine DR (fun n F H => ∃ i,n+i=m.crs.length∧F 2 = .ptr h.length 0 0∧F 3 = .ptr vb 0 0∧F 8 = .int .i64 (i:Nat)∧H=H'∧LU (okC m) m.crs v.crs=LU (okC m) (m.crs.drop i) (v.crs.drop i)) m.crs.length ⟨0,by simp,by simp -implicitDefEqProofs only [AA,↓reduceIte,Nat.reduceEqDiff,f2],by simp -implicitDefEqProofs only [AA,↓reduceIte,Nat.reduceEqDiff,f3],by simp -implicitDefEqProofs only [AA,↓reduceIte]; rfl,rfl,rfl⟩ ?_
  clear f2 f3
  rintro n F H' ⟨i,hi,f2,f3,f8,rfl,hf⟩
  simp -implicitDefEqProofs only [BC,BA,BI,A8,AY,BB,AO,AQ,AL,BD,AX,AC,AA,A7,BG,BV,BR,BL,D7,AB,DC,↓reduceIte,Nat.reduceEqDiff,Nat.zero_add,oGs,bNf,enP,V8,J6,f2,f8,t.m1,lLm]
  refine CV (fun hc => ?_) (fun hc => ?_)
  ·have hi':i < m.crs.length:=by simpa using hc
   have hil:i < v.crs.length:=by omega
   rw [AEG (okC m) m.crs v.crs i hi' hil] at hf
   have hxl:=hv.eachC _ (List.getElem_mem hil)
   have hcg:=hg.crs _ (List.getElem_mem hi')
   have hfs:=hg.full.szs hcg.here
   have htwo:=hcg.two
   have hfour:=hcg.four
   have hpr:=hcg.prod
   have hnum:=hcg.num
   have hmin:min (H8 (szs m m.crs[i].pts):Int) 1000=(H8 (szs m m.crs[i].pts):Int):=by omega
   simp -implicitDefEqProofs only [BC,BP,BO,A8]
   refine FC (by kernel_rfl) ?_
   simp -implicitDefEqProofs only [F9,EE,DX,EI,FO,FP,JB,EH,EC,JH,GR,GH,AO,AA,A7,BX,BV,BR,BL,CG,D7,AB,lMc,lMn,lAn,↓reduceIte,Nat.reduceEqDiff,Nat.reduceAdd,Nat.zero_add,oGs,enP,YV,J6,PH,MW,JJ,f2,f3,f8,t.m1,t.l1,ldM t.gm,DZ hil,DZ hi',DV MS hil,QX,FV AAN WY JZ hi',lLm]
   refine ⟨_,U7 G m m.crs[i] _ hcg.here hg.full (by omega),?_⟩
   rw [hmin]
   try simp -implicitDefEqProofs only [DX,FB,BI,A8,AA,A7,AB,EN,↓reduceIte]
   refine CV (fun h6 => ?_) (fun h6 => ?_)
   ·simp -implicitDefEqProofs only [BC,BA,BK,A8,CP,D8,E8,CJ,AY,BB,AO,AQ,AL,BD,AX,AC,AA,AU,BM,AZ,↓reduceIte,oGs,bNf]
    have:okC m m.crs[i] v.crs[i]=false:=by
     have:(v.crs[i].l.length == H8 (szs m m.crs[i].pts))=false:=by
      rw [beq_eq_false_iff_ne]; intro e; simp [e] at h6
     unfold okC; rw [this]; rfl
    exact ⟨by rw [hf,this]; rfl,t.hx⟩
   have hbl:v.crs[i].l.length=H8 (szs m m.crs[i].pts):=by simp at h6; omega
   have hok:okC m m.crs[i] v.crs[i]=VD (fun k=>UB m m.crs[i] (NV (szs m m.crs[i].pts) k)) 0 v.crs[i].l:=by
    unfold okC; rw [beq_iff_eq.2 hbl]; rfl
   simp -implicitDefEqProofs only [BC,BP,BA,BO,A8,AY,BB,AO,AQ,AL,BD,AX,AC,AU,BH,AZ,oGs,bNf]
   refine G7 6 (fun F' H=>F' 2 = .ptr h.length 0 0∧F' 3 = .ptr vb 0 0∧F' 8 = .int .i64 (i:Nat)∧H=H'∧okC m m.crs[i] v.crs[i]=true) (fun F' H=>F' 4 = .bool false∧H=H'∧okC m m.crs[i] v.crs[i]=false) ?_ ?_ ?_
   ·refine DR (fun n F' H => ∃ k,n+k=v.crs[i].l.length∧F' 2 = .ptr h.length 0 0∧F' 3 = .ptr vb 0 0∧F' 8 = .int .i64 (i:Nat)∧F' 9 = .int .i64 (k:Nat)∧H=H'∧okC m m.crs[i] v.crs[i]=VD (fun k=>UB m m.crs[i] (NV (szs m m.crs[i].pts) k)) k (v.crs[i].l.drop k)) v.crs[i].l.length ⟨0,by simp,by simp -implicitDefEqProofs only [AA,↓reduceIte,Nat.reduceEqDiff,f2],by simp -implicitDefEqProofs only [AA,↓reduceIte,Nat.reduceEqDiff,f3],by simp -implicitDefEqProofs only [AA,↓reduceIte,Nat.reduceEqDiff,f8],by simp -implicitDefEqProofs only [AA,↓reduceIte]; rfl,rfl,hok⟩ ?_
    clear f2 f3 f8
    rintro n' F H' ⟨k,hk,f2,f3,f8,f9,rfl,hr⟩
    simp -implicitDefEqProofs only [BC,BA,BI,A8,AY,BB,AO,AQ,AL,BD,AX,AC,AA,A7,BG,BV,BR,BL,CG,D7,AB,DC,↓reduceIte,Nat.reduceEqDiff,Nat.zero_add,oGs,bNf,enP,PH,MW,JJ,f3,f8,f9,t.l1,DZ hil,DV MS hil,QX,lLm]
    refine CV (fun hc => ?_) (fun hc => ?_)
    ·have hk':k < v.crs[i].l.length:=by simpa using hc
     rw [ADZ _ _ _ hk',ACM] at hr
     simp -implicitDefEqProofs only [BC,BP,BA,BO,A8,AY,BB,AO,AQ,AL,BD,AX,AC,AA,A7,BG,AZ,BV,BL,CG,AB,↓reduceIte,Nat.reduceEqDiff,Nat.zero_add,oGs,bNf,enP,PH,MW,JM,f3,f8,f9,t.l1,DZ hil,DV MS hil,QX,DZ hk',DV ag3 hk',encI0]
     refine FC (by kernel_rfl) ?_
     simp -implicitDefEqProofs only [F9,EE,DX,EI,FO,AC9,GR,GH,AO,AA,A7,BX,H9,lMc,lMn,lAn,↓reduceIte,Nat.reduceAdd,oGs]
     refine ⟨_,SE G _ _,?_⟩
     try simp -implicitDefEqProofs only [F9,EE,DX,EI,FH,GI,FO,CO,AO,AA,A7,AB,EZ,↓reduceIte,Nat.reduceAdd,oGs]
     cases hw:I9 v.crs[i].l[k]
     ·simp -implicitDefEqProofs only [F9,EE,DX,FB,EI,FH,GI,AC6,AWX,IZ,BC,BA,BK,BI,A8,CP,D8,NE,E8,C9,AY,BB,CO,AO,AQ,AL,BD,AX,AC,AA,EQ,A7,AU,BM,AZ,CU,DT,↓reduceIte,Nat.reduceEqDiff,Nat.reduceAdd,oGs,bNf]
      exact ⟨trivial,trivial,by rw [hr,hw]; rfl⟩
     rw [hw] at hr
     simp -implicitDefEqProofs only [F9,EE,DX,FH,GI,UR,FO,JB,CO,AO,AA,A7,AU,BH,BR,AB,EY,↓reduceIte,Nat.reduceEqDiff,Nat.reduceAdd,oGs,bNt,enP]
     cases hp:decide (v.crs[i].l[k] > 0)
     ·simp -implicitDefEqProofs only [F9,EE,DX,FB,EI,FH,GI,UR,AAC,IZ,BA,BO,BI,A8,EF,ER,DN,AY,BB,CO,AO,AQ,AL,BD,AX,AC,AA,EQ,A7,AU,BH,BM,BG,AZ,CU,DL,BR,AB,DF,↓reduceIte,Nat.reduceEqDiff,Nat.reduceAdd,oGs,bNf,enP,f9,wrap_succ (show k < 9223372036854775807 by omega)]
      exact ⟨n' - 1,by omega,k+1,by omega,f2,f3,f8,rfl,trivial,by rw [hr,hp]; rfl⟩
     rw [hp] at hr
     simp -implicitDefEqProofs only [F9,EE,DX,FH,GI,TI,FO,FP,AC9,EH,EC,GR,GH,CO,AO,AA,A7,BX,BV,H9,BL,CG,AB,lMc,lMn,lAn,↓reduceIte,Nat.reduceEqDiff,Nat.reduceAdd,Nat.zero_add,oGs,enP,YV,J6,f2,f8,f9,t.m1,ldM t.gm,DZ hi',FV AAN WY JZ hi']
     refine ⟨_,ADT G m m.crs[i] k _ hcg.here hg.full (by omega) (by omega) (by omega),?_⟩
     try simp -implicitDefEqProofs only []
     refine ⟨_,ACK G m m.crs[i] _ _ _ hcg.here (WV _ _ fun n hn=>(hfs n hn).1) (by omega) (by omega),?_⟩
     try simp -implicitDefEqProofs only [F9,EE,DX,FB,EI,FH,GI,UR,IZ,BI,A8,CO,AO,AA,A7,AU,BM,CU,DT,DL,AB,EZ,↓reduceIte,Nat.reduceEqDiff,Nat.reduceAdd,oGs]
     cases hz:UB m m.crs[i] (NV (szs m m.crs[i].pts) k)
     ·simp -implicitDefEqProofs only [BC,BA,BK,A8,CP,D8,NE,E8,C9,AY,BB,AO,AQ,AL,BD,AX,AC,AA,AU,BM,AZ,↓reduceIte,oGs,bNf]
      exact ⟨trivial,trivial,by rw [hr,hz]; rfl⟩
     ·simp -implicitDefEqProofs only [BA,BO,A8,EF,ER,DN,AY,BB,AO,AQ,AL,BD,AX,AC,AA,A7,AU,BH,BG,AZ,BR,AB,DF,↓reduceIte,Nat.reduceEqDiff,oGs,bNt,bNf,enP,f9,wrap_succ (show k < 9223372036854775807 by omega)]
      exact ⟨n' - 1,by omega,k+1,by omega,f2,f3,f8,rfl,trivial,by rw [hr,hz]; rfl⟩
    ·have hk' : ¬ k < v.crs[i].l.length:=by simpa using hc
     simp -implicitDefEqProofs only [DJ,ED,KI,EU,AA,↓reduceIte,Nat.reduceEqDiff]
     exact ⟨f2,f3,f8,trivial,by rw [hr,List.drop_eq_nil_of_le (by omega)]; rfl⟩
   ·rintro F' H' ⟨g2,g3,g8,rfl,hr⟩
    simp -implicitDefEqProofs only [BA,A8,EF,EX,ER,AY,BB,AO,AQ,AL,BD,AX,AC,AA,A7,AU,BH,BG,AZ,BR,AB,DF,↓reduceIte,Nat.reduceEqDiff,oGs,bNf,enP,g8,wrap_succ (show i < 9223372036854775807 by omega)]
    exact ⟨n - 1,by omega,i+1,by omega,g2,g3,rfl,trivial,by rw [hf,hr]; rfl⟩
   ·rintro F' H' ⟨g4,rfl,hr⟩
    simp -implicitDefEqProofs only [CP,D8,E8,CJ,g4]
    exact ⟨by rw [hf,hr]; rfl,t.hx⟩
  ·have hi' : ¬ i < m.crs.length:=by simpa using hc
   simp -implicitDefEqProofs only [BC,BA,BK,DJ,A8,ED,EX,EU,CJ,AY,BB,AO,AQ,AL,BD,AX,AC,AA,AU,BM,AZ,↓reduceIte,oGs,bNf]
   exact ⟨by rw [hf,AIB (okC m) _ _ i (by omega) (by omega)],t.hx⟩
 ·rintro F H' ⟨f4,rfl,hfp⟩
  simp -implicitDefEqProofs only [CP,D8,CJ,f4]
  exact ⟨by rw [hfp]; rfl,t.hx⟩
structure Gl where
 cross:Bool
 idx:Nat
 bm:SM
 bins:List Int
 at_:Nat
def mkP (i k:Nat):Gl:=⟨false,i,.full,[(k:Int)],k⟩
def mkC (m:Mo) (i k:Nat) (c:Cr):Gl:=⟨true,i,.any,NV (szs m c.pts) k,k⟩
def gPk (i:Nat) (p:Pt):Nat→List Gl
 | 0 => []
 | k+1=>gPk i p k ++ (if (kindOf p k == 0)=true then [mkP i k] else [])
def gP (m:Mo):Nat→List Gl
 | 0 => []
 | i+1=>gP m i ++ (match m.pts[i]? with | some p=>gPk i p p.bins.length | none => [])
def gCk (m:Mo) (i:Nat) (c:Cr):Nat→List Gl
 | 0 => []
 | k+1=>gCk m i c k ++ (if UB m c (NV (szs m c.pts) k)=true then [mkC m i k c] else [])
def gC (m:Mo):Nat→List Gl
 | 0=>gP m m.pts.length
 | i+1=>gC m i ++ (match m.crs[i]? with | some c=>gCk m i c (H8 (szs m c.pts)) | none => [])
def goals (m:Mo):List Gl:=gC m m.crs.length
def cellAt (l:List Is) (i k:Nat):Int:=match l[i]? with
 | some x=>(match x.l[k]? with | some z=>z | none=>0)
 | none=>0
def AWM (v:Cvr) (g:Gl):Int:=if g.cross then cellAt v.crs g.idx g.at_ else cellAt v.pts g.idx g.at_
theorem AIA {α:Type} {ok:α→Is→Bool} : ∀ {ws:List α} {xs:List Is},LU ok ws xs=true→∀ (i:Nat) (a:α),ws[i]? = some a→∃ x,xs[i]? = some x∧ok a x=true
 | [],[],_,i,a,h=>by simp at h
 | w :: ws,x :: xs,h,i,a,ha=>by
   simp only [LU,Bool.and_eq_true] at h
   cases i with
   | zero=>simp at ha; subst ha; exact ⟨x,rfl,h.1⟩
   | succ i=>exact AIA h.2 i a (by simpa using ha)
 | [],_ :: _,h,_,_,_=>by cases h
 | _ :: _,[],h,_,_,_=>by cases h
theorem AB9 {m:Mo} {v:Cvr} (hf:MV m v=true):FX m=0:=by
 unfold MV at hf
 simp only [Bool.and_eq_true,beq_iff_eq] at hf
 exact hf.1.1.1.1
structure Three (h H:Hp) (m:Mo) (a b:Cvr) (ab bb:Nat):Prop where
 gm:H[h.length]? = some (.live 2 [EP m])
 ga:H[ab]? = some (.live 4 [F7 a])
 gb:H[bb]? = some (.live 4 [F7 b])
 hx : ∃ x,H=h ++ x
theorem Three.mk' (h:Hp) (m:Mo) (a b:Cvr):Three h (h ++ [.live 2 [EP m]] ++ [.live 4 [F7 a]] ++ [.live 4 [F7 b]]) m a b (h ++ [ABlk.live 2 [EP m]]).length (h ++ [ABlk.live 2 [EP m]] ++ [ABlk.live 4 [F7 a]]).length :=
 ⟨CW (CW (CY _ _)),CW (CY _ _),CY _ _,⟨_,by rw [List.append_assoc,List.append_assoc]⟩⟩
def mkB (name:ByteArray) (kind lo hi:Int):Bin:=⟨name,kind,⟨.full,[⟨lo,hi⟩]⟩,.nil,[]⟩
theorem AU5 (a b:Int):KL Tryz.prog 185 [(0,.int .i64 a),(1,.int .i64 b)]=some (.agg [.int .i64 a,.int .i64 b]):=by kernel_rfl
theorem AU4 (h:Hp) (a b:Int):FD Tryz.prog false h 118 1 [(0,.agg [.int .i64 a,.int .i64 b])]=some (.sl .full 2 [[.int .i64 a,.int .i64 b]],h):=by kernel_rfl
theorem AY5 (s:ByteArray) (k:Int) (xs:List (List AV)):KL Tryz.prog 121 [(0,.str s),(1,.int .i64 k),(2,.sl .full 2 xs)]=some (.agg [.str s,.int .i64 k,.sl .full 2 xs,.sl .nil 0 []]):=by kernel_rfl
def rowB (s:ByteArray) (k lo hi:Int):List AV := [.str s,.int .i64 k,.sl .full 2 [[.int .i64 lo,.int .i64 hi]],.sl .nil 0 []]
theorem AUY (h:Hp) (s:ByteArray) (k lo hi:Int) (row:List AV) (hr:row.length=4):FK Tryz.prog (h ++ [.live 4 [row]]) 121 (.ptr h.length 0 0) (.agg [.str s,.int .i64 k,.sl .full 2 [[.int .i64 lo,.int .i64 hi]],.sl .nil 0 []])=some (h ++ [.live 4 [rowB s k lo hi]]):=by
 have h1:=MM (P:=Tryz.prog) (t:=121) (h:=h) (k:=4) (j:=0) (row:=row) (cs:=rowB s k lo hi) (v := .agg (rowB s k lo hi)) rfl PL (by rw [hr]; exact Nat.le_refl 4)
 have h2:splice row 0 (rowB s k lo hi)=rowB s k lo hi:=by unfold splice; simp [hr,rowB]
 rw [h2] at h1
 exact h1
theorem AGF (G:Nat→AV) (s:ByteArray) (k lo hi:Int) (h:Hp):PCall (En G) 145 [.str s,.int .i64 k,.int .i64 lo,.int .i64 hi] h (.agg (GM (mkB s k lo hi))):=by
 have hp:PCall (En G) 145 [.str s,.int .i64 k,.int .i64 lo,.int .i64 hi] h (.agg (rowB s k lo hi)):=by
  refine ACalls.pure 2 (R:=fun v H=>v = .agg (rowB s k lo hi)∧∃ x,H=h ++ x) ?_ (fun v h' ⟨e,x⟩=>⟨x,by subst e; rfl⟩)
  refine CB (H:=Hint.none) (enM G) Tryz.func145 rfl (by kernel_rfl) (by kernel_rfl) (nLb (by kernel_rfl)) ?_
  show awp _ _ _ _ _ (EG _ [.cell 8 121] _)
  simp -implicitDefEqProofs only [FI,FZ,BC,BA,BK,A8,AY,BB,AO,AQ,AL,BD,AX,AC,EW,AA,A7,BG,F5,I8,ES,EM,CE,AB,DK,BF,BN,↓reduceIte,Nat.reduceEqDiff,oGs,bNf,enP,Option.getD_none,AUE,AU5,AU4,AY5,AUY _ _ _ _ _ [.str ⟨#[]⟩,.int .i64 0,.sl .nil 0 [],.sl .nil 0 []] rfl]
  refine ⟨trivial,.agg (rowB s k lo hi),?_,rfl,_,rfl⟩
  exact UZ (P:=Tryz.prog) (h:=h) (k:=4) (row:=rowB s k lo hi) UN PL (Nat.le_refl 4)
 exact hp.res (CvR.agg (CvRL.cons (CvR.refl _) (CvRL.cons (CvR.refl _) (CvRL.cons (CvR.refl _) (CvRL.cons (CvR.sl (Cv.nil 0 1)) CvRL.nil)))))
def ATR:Ex := .mk 2 0 ⟨#[97]⟩ .nil []
def exP:Pt:=⟨⟨#[112]⟩,ATR,.full,[mkB ⟨#[108,111,119]⟩ 0 0 3,mkB ⟨#[104,105,103,104]⟩ 0 4 7,mkB ⟨#[110,111,110,101]⟩ 1 9 9]⟩
def exM:Mo:=⟨.full,[exP],.nil,[]⟩
theorem AY6 (n:Int) (s:ByteArray):KL Tryz.prog 53 [(0,.int .i64 n),(2,.str s)]=some (.agg [.int .i64 n,.int .i64 0,.str s,.sl .nil 0 []]):=by kernel_rfl
theorem A0Q (h:Hp) (a b c:Bin):FD Tryz.prog false h 54 3 [(0,.agg (GM a)),(1,.agg (GM b)),(2,.agg (GM c))]=some (.sl .full 4 [GM a,GM b,GM c],h):=by
 have h1:Tryz.prog.underlying 54=some (.slice 121):=by kernel_rfl
 have h3:VC Tryz.prog 121=some 4:=by kernel_rfl
 unfold FD
 simp only [h1,PL,h3]
 have h2:ZL 4 0 [(0,AV.agg (GM a)),(1,AV.agg (GM b)),(2,AV.agg (GM c))]=some [GM a,GM b,GM c]:=rfl
 have fr : ∀ x:Bin,(GM x).all AV.frozen=true:=fun _=>rfl
 simp [h2,fr]
theorem A0R (s t:ByteArray) (n:Int) (xs:List (List AV)):KL Tryz.prog 56 [(0,.str s),(1,.agg [.int .i64 n,.int .i64 0,.str t,.sl .nil 0 []]),(2,.sl .full 4 xs)]=some (.agg [.str s,.int .i64 n,.int .i64 0,.str t,.sl .nil 0 [],.sl .full 4 xs]):=by kernel_rfl
theorem AY2 (h:Hp) (s t:ByteArray) (n:Int) (xs:List (List AV)):FD Tryz.prog false h 22 1 [(0,.agg [.str s,.int .i64 n,.int .i64 0,.str t,.sl .nil 0 [],.sl .full 4 xs])]=some (.sl .full 6 [[.str s,.int .i64 n,.int .i64 0,.str t,.sl .nil 0 [],.sl .full 4 xs]],h):=by kernel_rfl
theorem AZC (xs:List (List AV)):KL Tryz.prog 25 [(0,.sl .full 6 xs)]=some (.agg [.sl .full 6 xs,.sl .nil 0 []]):=by kernel_rfl
theorem AZJ (h:Hp):J7 Tryz.prog h 25=some (.ptr h.length 0 0,h ++ [.live 2 [[.sl .nil 0 [],.sl .nil 0 []]]]):=JV (row := [.sl .nil 0 [],.sl .nil 0 []]) (by kernel_rfl)
def YQ:List AV := [.sl .full 6 [[.str ⟨#[112]⟩,.int .i64 2,.int .i64 0,.str ⟨#[97]⟩,.sl .nil 0 [],.sl .full 4 (exP.bins.map GM)]],.sl .nil 0 []]
theorem AXH (h:Hp) (row:List AV) (hr:row.length=2):FK Tryz.prog (h ++ [.live 2 [row]]) 25 (.ptr h.length 0 0) (.agg YQ)=some (h ++ [.live 2 [YQ]]):=by
 have h1:=MM (P:=Tryz.prog) (t:=25) (h:=h) (k:=2) (j:=0) (row:=row) (cs:=YQ) (v := .agg YQ) rfl AOV (by rw [hr]; exact Nat.le_refl 2)
 have h2:splice row 0 YQ=YQ:=by unfold splice; simp [hr,YQ]
 rw [h2] at h1
 exact h1
theorem AM3:CvR (.agg YQ) (.agg (EP exM)):=by
 refine CvR.agg (CvRL.cons (CvR.sl (Cv.rows rfl ?_)) (CvRL.cons (CvR.sl (Cv.nil 0 3)) CvRL.nil))
 intro i r r' h1 h2
 match i,h1,h2 with
 | 0,h1,h2 =>
   cases h1; cases h2
   exact CvRow.cons rfl (Cv.refl _) (CvRow.cons rfl (Cv.refl _) (CvRow.cons rfl (Cv.refl _) (CvRow.cons rfl (Cv.refl _) (CvRow.cons rfl (Cv.nil 0 4) (CvRow.cons rfl (Cv.refl _) CvRow.nil)))))
 | _+1,h1,_=>cases h1
theorem sample (G:Nat→AV) (h:Hp):PCall (En G) 84 [] h (.agg (EP exM)):=by
 have hp:PCall (En G) 84 [] h (.agg YQ):=by
  refine ACalls.pure 2 (R:=fun v H=>v = .agg YQ∧∃ x,H=h ++ x) ?_ (fun v h' ⟨e,x⟩=>⟨x,by subst e; rfl⟩)
  refine CB (H:=Hint.none) (enM G) Tryz.func84 rfl (by kernel_rfl) (by kernel_rfl) (nLb (by kernel_rfl)) ?_
  show awp _ _ _ _ _ (EG _ [.cell 0 25] _)
  simp -implicitDefEqProofs only [FI,FZ,BC,BA,A8,AY,BB,AO,AQ,AL,BD,AX,AC,AU,BX,BH,IM,F5,I8,BZ,BU,CE,AB,lMc,lMn,lAn,oGs,bNf,enP,AZJ,AY6]
  refine (AGF G _ _ _ _ _).use ?_
  simp -implicitDefEqProofs only [AY,AO,AQ,AL,BD,AX,AC,AU,BX,BH,IM,BZ,BU,lMc,lMn,lAn,oGs,bNf]
  refine (AGF G _ _ _ _ _).use ?_
  simp -implicitDefEqProofs only [AY,AO,AQ,AL,BD,AX,AC,AU,BX,BH,IM,BZ,BU,lMc,lMn,lAn,oGs,bNf]
  refine (AGF G _ _ _ _ _).use ?_
  simp -implicitDefEqProofs only [FI,FZ,AY,AO,AQ,AL,BD,AX,AC,AA,A7,AU,IM,I8,ES,EM,CE,AB,↓reduceIte,Nat.reduceEqDiff,oGs,bNf,enP,Option.getD_none,A0Q,A0R,AY2,AZC]
  refine JW (v:=IG) (h:=h ++ [.live 2 [YQ]]) (by
   have:=AXH h [.sl .nil 0 [],.sl .nil 0 []] rfl
   exact congrArg ofS this) ?_
  simp -implicitDefEqProofs only [BK,A8,BB,EW]
  refine ⟨trivial,.agg YQ,?_,rfl,_,rfl⟩
  exact UZ (P:=Tryz.prog) (h:=h) (k:=2) (row:=YQ) AWV AOV (Nat.le_refl 2)
 exact hp.res AM3
end Go.Proofs.YtocilianjfhifaaGreatDoor.Cov
