/- Part 7 of the proof (M13, M14, N4, N7, N8, N10, N12); no condition. -/
import Derived.Test.YtocilianjfhifaaGreatDoorW6
set_option linter.unusedVariables false
set_option linter.unusedSimpArgs false
set_option maxRecDepth 8000
namespace Go.Proofs.YtocilianjfhifaaGreatDoor.Cov
open Sm Bins Go.RowKit
def PH (G:Nat→AV):Prop := ∀ (ns:List Nat) (s:SM) (K:Nat) (h:Hp),0 < ns.length→ns.length≤4→(∀ n∈ns,1≤n∧n≤64)→K≤1048576 →
 PCall (En G) 168 [.sl s 1 (ns.map IZ),.int .i64 (K:Int)] h (.sl .any 1 ((NZ ns K).map encI))
structure CrGood (m:Mo) (c:Cr):Prop where
 here:Here m c.pts
 two:2≤c.pts.length
 four:c.pts.length≤4
 prod:II (szs m c.pts)≤256
 num:c.excl.length≤256
 excl : ∀ x∈c.excl,MS (szs m c.pts) x.l=true
theorem ANQ {m:Mo} {c:Cr} (h:IA m c=0):CrGood m c:=by
 unfold IA at h
 split at h
 ·cases h
 ·split at h
  ·cases h
  ·split at h
   ·cases h
   ·split at h
    ·cases h
    ·split at h
     ·cases h
     ·rename_i h1 h2 h3 h4 h5
      have h3':U1 m.pts.length none c.pts=true:=by simpa using h3
      refine ⟨VR h3',by omega,by omega,by omega,by omega,fun x hx => ?_⟩
      rw [Bool.not_eq_true,List.any_eq_false] at h5
      have:=h5 x hx
      simpa using this
structure Good (m:Mo):Prop where
 num:m.pts.length+m.crs.length≤16
 full:Full m
 crs : ∀ c∈m.crs,CrGood m c
theorem PD {m:Mo} (h:GM m=0):Good m:=by
 unfold GM at h
 split at h
 ·cases h
 ·split at h
  ·rename_i h2; exact absurd h h2
  ·split at h
   ·cases h
   ·split at h
    ·rename_i h4; exact absurd h h4
    ·rename_i h1 h2 h3 h4
     refine ⟨by omega,full_of (by simpa using h2),fun c hc=>ANQ (U4 _ (by simpa using h4) c hc)⟩
theorem ANJ (G:Nat→AV) (hT:PH G) (m:Mo) (l:List Is) (s:SM) (h:Hp) (hm:MoOk m) (hg:Good m) (hl : ∀ x∈l,x.l.length≤1048576):PCall (En G) 125 [.agg (EH m),.sl s 1 (l.map encL)] h (.bool (KE (okC m) m.crs l)):=by
 refine ACalls.pure0 rfl ?_
 have hm1:=hm.nc
 refine CE (H:=Hint.none) (enM G) Tryz.func125 rfl (by kernel_rfl) (by kernel_rfl) (nLb (by kernel_rfl)) ?_
 show awp _ _ _ _ _ (EJ _ [.tmp 4] _)
 simp -implicitDefEqProofs only [BC,BA,BI,A8,AY,BB,AO,AQ,AL,BD,AX,AC,AA,AZ,AU,BM,BG,A7,FV,BV,BQ,BK,DZ,CB,AB,EG,BF,BN,↓reduceIte,Nat.reduceEqDiff,Nat.zero_add,oGs,bNf,enP,UA,JW,QT,bxM,DI ACS,U7,lLm]
 refine CV (fun h1 => ?_) (fun h1 => ?_)
 ·simp -implicitDefEqProofs only [BC,BA,BL,A8,CQ,CJ,AY,BB,AO,AQ,AL,BD,AX,AC,AA,AU,BM,A7,↓reduceIte,oGs,bNf]
  have:KE (okC m) m.crs l=false:=by
   rw [← Bool.not_eq_true]; intro e
   have:=OA e
   simp at h1; omega
  exact ⟨by rw [this],_,rfl⟩
 have hlen:l.length=m.crs.length:=by simp at h1; omega
 simp -implicitDefEqProofs only [BC,BR,BA,BO,A8,AY,BB,AO,AQ,AL,BD,AX,AC,AA,AZ,AU,BH,BG,BV,BK,DZ,AB,↓reduceIte,Nat.reduceEqDiff,Nat.zero_add,oGs,bNf,enP,UA,JW,DI ACS,U7,lLm]
 refine DT (fun n F H => ∃ i,n+i=m.crs.length∧F 1 = .sl s 1 (l.map encL)∧F 2 = .ptr h.length 0 0∧F 17 = .sl m.cm 3 (m.crs.map F9)∧F 18 = .int .i64 m.crs.length∧F 19 = .int .i64 (i:Nat)∧H[h.length]? = some (.live 2 [EH m])∧(∃ x,H=h ++ x)∧KE (okC m) m.crs l=KE (okC m) (m.crs.drop i) (l.drop i)) m.crs.length ⟨0,by simp,by simp -implicitDefEqProofs only [AA,BF,BN,↓reduceIte,Nat.reduceEqDiff],by simp -implicitDefEqProofs only [AA,↓reduceIte,Nat.reduceEqDiff],by simp -implicitDefEqProofs only [AA,↓reduceIte,Nat.reduceEqDiff],by simp -implicitDefEqProofs only [AA,↓reduceIte,Nat.reduceEqDiff],by simp -implicitDefEqProofs only [AA,↓reduceIte]; rfl,CZ _ _,⟨_,rfl⟩,rfl⟩ ?_
 rintro n F H ⟨i,hi,f1,f2,f17,f18,f19,gm,hx,hf⟩
 simp -implicitDefEqProofs only [BC,BA,BI,A8,AY,BB,AO,AQ,AL,BD,AX,AC,AA,AZ,BQ,AB,DC,↓reduceIte,oGs,bNf,enP,f18,f19]
 refine CV (fun hc => ?_) (fun hc => ?_)
 ·have hi':i < m.crs.length:=by simpa using hc
  have hil:i < l.length:=by omega
  rw [VT (okC m) m.crs l i hi' hil] at hf
  have hcg:=hg.crs _ (List.getElem_mem hi')
  have hfs:=hg.full.szs hcg.here
  have hsl:=NF m m.crs[i].pts
  have hx1 : ∃ x,H ++ [ABlk.live 3 [F9 m.crs[i]]]=h ++ x:=by
   obtain ⟨x,rfl⟩:=hx
   exact ⟨_,List.append_assoc _ _ _⟩
  have hxl:=hl _ (List.getElem_mem hil)
  have gm1:(H ++ [ABlk.live 3 [F9 m.crs[i]]])[h.length]? = some (.live 2 [EH m]):=CW gm
  have gc1:=CZ H (.live 3 [F9 m.crs[i]])
  have htwo:=hcg.two
  have hfour:=hcg.four
  have hpr:=hcg.prod
  simp -implicitDefEqProofs only [BC,BR,BA,BO,A8,AY,BB,AO,AQ,AL,BD,AX,AC,FC,AA,AZ,BX,BG,A7,FY,BV,ER,CG,BZ,BU,CB,AB,DX,lMc,lMn,lAn,↓reduceIte,Nat.reduceEqDiff,oGs,bNf,enP,XV,Option.getD_none,f2,f17,f19,D6 hi',FP ZI WH JY hi',AN4,AMO _ _ [.str ⟨#[]⟩,.sl .nil 0 [],.sl .nil 0 []] rfl,ldM gm1,ldC gc1]
  refine (QG G m _ _ hcg.here (by omega)).use ?_
  simp -implicitDefEqProofs only [BC,A8,AY,BB,AO,AQ,AL,BD,AX,AC,AA,AZ,A7,↓reduceIte,oGs,bNf]
  refine FB (by kernel_rfl) ?_
  simp -implicitDefEqProofs only [F8,EC,DW,EF,FO,FD,IU,EK,IM,GL,FW,AO,AA,AZ,BX,BV,BQ,CG,DZ,AB,lMc,lMn,lAn,↓reduceIte,Nat.reduceEqDiff,Nat.reduceAdd,oGs,enP,OX,I8,f1,D6 hil,DV L8 hil,OD,lLm]
  refine ⟨_,P7 G _ _ _ (fun n hn=>(hfs n hn).2) (by omega),?_⟩
  try simp -implicitDefEqProofs only [DW,FK,BI,A8,AA,AZ,AB,EG,↓reduceIte]
  refine CV (fun h2 => ?_) (fun h2 => ?_)
  ·simp -implicitDefEqProofs only [BC,BA,BL,A8,CQ,D8,FI,CJ,AY,BB,AO,AQ,AL,BD,AX,AC,AA,AU,BM,A7,↓reduceIte,oGs,bNf]
   have:okC m m.crs[i] l[i]=false:=by
    have:(l[i].l.length == II (szs m m.crs[i].pts))=false:=by
     rw [beq_eq_false_iff_ne]; intro e; simp [e] at h2
    unfold okC; rw [this]; rfl
   exact ⟨by rw [hf,this]; rfl,hx1⟩
  have hbl:l[i].l.length=II (szs m m.crs[i].pts):=by simp at h2; omega
  have hok:okC m m.crs[i] l[i]=RY (fun k=>TI m m.crs[i] (NZ (szs m m.crs[i].pts) k)) 0 l[i].l:=by
   unfold okC; rw [beq_iff_eq.2 hbl]; rfl
  simp -implicitDefEqProofs only [BC,BR,BA,BO,A8,AY,BB,AO,AQ,AL,BD,AX,AC,AA,AZ,AU,BH,BG,BV,CG,DZ,AB,↓reduceIte,Nat.reduceEqDiff,oGs,bNf,enP,OX,I8,f1,D6 hil,DV L8 hil,OD,lLm]
  refine GV 2 (fun F' H'=>F' 1 = .sl s 1 (l.map encL)∧F' 2 = .ptr h.length 0 0∧F' 17 = .sl m.cm 3 (m.crs.map F9)∧F' 18 = .int .i64 m.crs.length∧F' 19 = .int .i64 (i:Nat)∧H'=H ++ [.live 3 [F9 m.crs[i]]]∧okC m m.crs[i] l[i]=true) (fun F' H'=>F' 4 = .bool false∧H'=H ++ [.live 3 [F9 m.crs[i]]]∧okC m m.crs[i] l[i]=false) ?_ ?_ ?_
  ·refine DT (fun n F' H' => ∃ k,n+k=l[i].l.length∧F' 1 = .sl s 1 (l.map encL)∧F' 2 = .ptr h.length 0 0∧F' 17 = .sl m.cm 3 (m.crs.map F9)∧F' 18 = .int .i64 m.crs.length∧F' 19 = .int .i64 (i:Nat)∧F' 6 = .ptr H.length 0 0∧F' 7 = .sl (nm (szs m m.crs[i].pts)) 1 ((szs m m.crs[i].pts).map IZ)∧F' 38 = .sl l[i].m 1 (l[i].l.map encI)∧F' 39 = .int .i64 l[i].l.length∧F' 40 = .int .i64 (k:Nat)∧H'=H ++ [.live 3 [F9 m.crs[i]]]∧okC m m.crs[i] l[i]=RY (fun k=>TI m m.crs[i] (NZ (szs m m.crs[i].pts) k)) k (l[i].l.drop k)) l[i].l.length ⟨0,by simp,by simp -implicitDefEqProofs only [AA,↓reduceIte,Nat.reduceEqDiff,f1],by simp -implicitDefEqProofs only [AA,↓reduceIte,Nat.reduceEqDiff,f2],by simp -implicitDefEqProofs only [AA,↓reduceIte,Nat.reduceEqDiff,f17],by simp -implicitDefEqProofs only [AA,↓reduceIte,Nat.reduceEqDiff,f18],by simp -implicitDefEqProofs only [AA,↓reduceIte,Nat.reduceEqDiff,f19],by simp -implicitDefEqProofs only [AA,↓reduceIte,Nat.reduceEqDiff],by simp -implicitDefEqProofs only [AA,↓reduceIte,Nat.reduceEqDiff],by simp -implicitDefEqProofs only [AA,↓reduceIte,Nat.reduceEqDiff],by simp -implicitDefEqProofs only [AA,↓reduceIte,Nat.reduceEqDiff],by simp -implicitDefEqProofs only [AA,↓reduceIte]; rfl,rfl,hok⟩ ?_
   clear f1 f2 f17 f18 f19
   rintro n' F H' ⟨k,hk,f1,f2,f17,f18,f19,f6,f7,f38,f39,f40,rfl,hr⟩
   simp -implicitDefEqProofs only [BC,BA,BI,A8,AY,BB,AO,AQ,AL,BD,AX,AC,AA,AZ,BQ,AB,DC,↓reduceIte,oGs,bNf,enP,f39,f40]
   refine CV (fun hc => ?_) (fun hc => ?_)
   ·have hk':k < l[i].l.length:=by simpa using hc
    rw [VN _ _ _ hk'] at hr
    simp -implicitDefEqProofs only [BC,BR,BA,BO,A8,AY,BB,AO,AQ,AL,BD,AX,AC,AA,AZ,BG,A7,BV,CG,AB,↓reduceIte,Nat.reduceEqDiff,oGs,bNf,enP,JL,f38,f40,D6 hk',DV ag3 hk',encI0]
    refine FB (by kernel_rfl) ?_
    simp -implicitDefEqProofs only [F8,EC,DW,EF,FO,FD,AA2,GL,FW,AO,AA,AZ,BX,BV,G6,AB,lMc,lMn,lAn,↓reduceIte,Nat.reduceEqDiff,Nat.reduceAdd,oGs,enP,f2,f6,f7,ldM gm1,ldC gc1]
    refine ⟨_,hT _ _ k _ (by omega) (by omega) hfs (by omega),?_⟩
    try simp -implicitDefEqProofs only []
    refine ⟨_,V8 G m m.crs[i] _ _ _ hcg.here (XK _ _ fun n hn=>(hfs n hn).1) (by omega) (by have:=hcg.num; omega),?_⟩
    try simp -implicitDefEqProofs only []
    refine ⟨_,TN G _ _ _,?_⟩
    try simp -implicitDefEqProofs only [DW,FK,BI,A8,AA,AZ,AB,EY,↓reduceIte]
    cases hcb:countB l[i].l[k] (TI m m.crs[i] (NZ (szs m m.crs[i].pts) k))
    ·simp -implicitDefEqProofs only [BC,BA,BL,A8,CQ,D8,MZ,FI,CY,AY,BB,AO,AQ,AL,BD,AX,AC,AA,AU,BM,A7,↓reduceIte,oGs,bNf]
     exact ⟨trivial,trivial,by rw [hr,hcb]; rfl⟩
    ·simp -implicitDefEqProofs only [BA,BO,A8,EE,EN,DU,AY,BB,AO,AQ,AL,BD,AX,AC,AA,AZ,AU,BH,BG,BQ,AB,DF,↓reduceIte,Nat.reduceEqDiff,oGs,bNt,bNf,enP,f40,wrap_succ (show k < 9223372036854775807 by omega)]
     exact ⟨n' - 1,by omega,k+1,by omega,f1,f2,f17,f18,f19,f6,f7,f38,f39,rfl,trivial,by rw [hr,hcb]; rfl⟩
   ·have hk' : ¬ k < l[i].l.length:=by simpa using hc
    simp -implicitDefEqProofs only [DJ,D9,J4,EW,AA,↓reduceIte,Nat.reduceEqDiff]
    exact ⟨f1,f2,f17,f18,f19,trivial,by rw [hr,List.drop_eq_nil_of_le (by omega)]; rfl⟩
  ·rintro F' H' ⟨g1,g2,g17,g18,g19,rfl,hr⟩
   simp -implicitDefEqProofs only [BA,A8,EE,EX,EN,AY,BB,AO,AQ,AL,BD,AX,AC,AA,AZ,AU,BH,BG,BQ,AB,DF,↓reduceIte,Nat.reduceEqDiff,oGs,bNf,enP,g19,wrap_succ (show i < 9223372036854775807 by omega)]
   exact ⟨n - 1,by omega,i+1,by omega,g1,g2,g17,g18,rfl,gm1,hx1,by rw [hf,hr]; rfl⟩
  ·rintro F' H' ⟨g4,rfl,hr⟩
   simp -implicitDefEqProofs only [CQ,D8,FI,CJ,g4]
   exact ⟨by rw [hf,hr]; rfl,hx1⟩
 ·have hi' : ¬ i < m.crs.length:=by simpa using hc
  simp -implicitDefEqProofs only [BC,BA,BL,DJ,A8,D9,EX,EW,CJ,AY,BB,AO,AQ,AL,BD,AX,AC,AA,AU,BM,A7,↓reduceIte,oGs,bNf]
  exact ⟨by rw [hf,XZ (okC m) _ _ i (by omega) (by omega)],hx⟩
def MX (m:Mo) (v:Cvr):Bool:=(GM m == 0) && KE okP m.pts v.pts && KE (okC m) m.crs v.crs && IY v.sam && IY v.ill
theorem Z7 (n:Int):countB n true=IY n:=by unfold countB; simp
theorem AD8 (G:Nat→AV) (hG:GOk G) (hT:PH G) (m:Mo) (v:Cvr) (hm:MoOk m) (hv:CvOk v) (h:Hp):PCall (En G) 66 [.agg (EH m),.agg (FU v)] h (.bool (MX m v)):=by
 refine ACalls.pure0 rfl ?_
 refine CE (H:=Hint.none) (enM G) Tryz.func66 rfl (by kernel_rfl) (by kernel_rfl) (nLb (by kernel_rfl)) ?_
 show awp _ _ _ _ _ (EJ _ [.tmp 4] _)
 have gm:(h ++ [ABlk.live 2 [EH m]] ++ [ABlk.live 4 [FU v]])[h.length]? = some (.live 2 [EH m]):=CW (CZ _ _)
 have gv:=CZ (h ++ [ABlk.live 2 [EH m]]) (.live 4 [FU v])
 have hx : ∃ x,h ++ [ABlk.live 2 [EH m]] ++ [ABlk.live 4 [FU v]]=h ++ x:=⟨_,List.append_assoc _ _ _⟩
 simp -implicitDefEqProofs only [BC,BA,A8,AY,BB,AO,AQ,AL,BD,AX,AC,AA,AZ,AU,BM,A7,FV,BV,CB,BF,BN,↓reduceIte,Nat.reduceEqDiff,oGs,bNf,enP,bxM,bxV]
 generalize h ++ [ABlk.live 2 [EH m]] ++ [ABlk.live 4 [FU v]]=H at gm gv hx ⊢
 generalize (h ++ [ABlk.live 2 [EH m]]).length=vb at gv ⊢
 have l0:D7 Tryz.prog H 26 (.ptr vb 0 0)=some (.sl v.pm 1 (v.pts.map encL)):=by rw [DL OM gv (row:=FU v) rfl,AQC]
 have l1:D7 Tryz.prog H 26 (.ptr vb 0 1)=some (.sl v.cm 1 (v.crs.map encL)):=by rw [DL OM gv (row:=FU v) rfl,AQB]
 have l2:D7 Tryz.prog H 3 (.ptr vb 0 2)=some (.int .i64 v.sam):=by rw [DL ag3 gv (row:=FU v) rfl,AQA]
 have l3:D7 Tryz.prog H 3 (.ptr vb 0 3)=some (.int .i64 v.ill):=by rw [DL ag3 gv (row:=FU v) rfl,AP9]
 simp -implicitDefEqProofs only [AY,AO,AQ,AL,BD,AX,AC,AA,AZ,BX,BZ,BU,AB,lMc,lMn,lAn,↓reduceIte,oGs,bNf,ldM gm]
 refine (NG G hG m hm _).use ?_
 simp -implicitDefEqProofs only [AY,BJ,BP,CO,AO,AQ,AL,BD,AX,AC,AA,AZ,AU,BH,BG,BQ,AB,D5,↓reduceIte,oGs,bNf,enP]
 cases h1:(GM m == 0)
 ·simp -implicitDefEqProofs only [BL,A8,CJ,AY,BB,BJ,BP,CO,H8,AO,AQ,AL,BD,AX,AC,AA,EP,AZ,AU,BM,BG,A7,CP,DR,↓reduceIte,Nat.reduceEqDiff,oGs,bNf]
  exact ⟨by unfold MX; rw [h1]; rfl,hx⟩
 have hg:=PD (beq_iff_eq.1 h1)
 simp -implicitDefEqProofs only [BJ,BP,CO,F7,AO,AQ,AL,BD,AX,AC,AA,AZ,BX,BV,BK,BZ,BU,AB,lMc,lMn,lAn,↓reduceIte,Nat.reduceEqDiff,Nat.add_zero,oGs,bNf,enP,MC,ldM gm,l0]
 refine (ANI G m v.pts v.pm _ hm hv.eachP).use ?_
 simp -implicitDefEqProofs only [AY,BJ,BP,CO,AO,AQ,AL,BD,AX,AC,AA,AZ,AU,BM,BG,CP,DN,↓reduceIte,Nat.reduceEqDiff,oGs,bNf]
 cases h2:KE okP m.pts v.pts
 ·simp -implicitDefEqProofs only [BL,A8,CJ,AY,BB,BJ,BP,CO,H8,AO,AQ,AL,BD,AX,AC,AA,EP,AZ,AU,BM,BG,A7,CP,DR,↓reduceIte,Nat.reduceEqDiff,oGs,bNf]
  exact ⟨by unfold MX; rw [h1,h2]; rfl,hx⟩
 simp -implicitDefEqProofs only [BJ,BP,CO,F7,AO,AQ,AL,BD,AX,AC,AA,AZ,BX,BV,BK,BZ,BU,AB,lMc,lMn,lAn,↓reduceIte,Nat.reduceEqDiff,Nat.zero_add,oGs,bNf,enP,MN,ldM gm,l1]
 refine (ANJ G hT m v.crs v.cm _ hm hg hv.eachC).use ?_
 simp -implicitDefEqProofs only [AY,BJ,BP,CO,AO,AQ,AL,BD,AX,AC,AA,AZ,AU,BM,BG,CP,DN,↓reduceIte,Nat.reduceEqDiff,oGs,bNf]
 cases h3:KE (okC m) m.crs v.crs
 ·simp -implicitDefEqProofs only [BL,A8,CJ,AY,BB,BJ,BP,CO,H8,AO,AQ,AL,BD,AX,AC,AA,EP,AZ,AU,BM,BG,A7,CP,DR,↓reduceIte,Nat.reduceEqDiff,oGs,bNf]
  exact ⟨by unfold MX; rw [h1,h2,h3]; rfl,hx⟩
 simp -implicitDefEqProofs only [BJ,BP,CO,F7,AO,AQ,AL,BD,AX,AC,AA,AZ,AU,BX,BM,BV,BK,BZ,BU,AB,lMc,lMn,lAn,↓reduceIte,Nat.reduceEqDiff,Nat.zero_add,oGs,bNf,enP,W9,l2]
 refine (TN G _ _ _).use ?_
 simp -implicitDefEqProofs only [AY,BJ,BP,CO,AO,AQ,AL,BD,AX,AC,AA,AZ,AU,BM,BG,CP,DN,↓reduceIte,Nat.reduceEqDiff,oGs,bNf,Z7]
 cases h4:IY v.sam
 ·simp -implicitDefEqProofs only [BL,A8,CJ,AY,BB,BJ,BP,CO,H8,AO,AQ,AL,BD,AX,AC,AA,EP,AZ,AU,BM,A7,CP,DR,↓reduceIte,Nat.reduceEqDiff,oGs,bNf]
  exact ⟨by unfold MX; rw [h1,h2,h3,h4]; rfl,hx⟩
 simp -implicitDefEqProofs only [BJ,BP,CO,F7,AO,AQ,AL,BD,AX,AC,AA,AZ,AU,BX,BM,BV,BK,BZ,BU,AB,lMc,lMn,lAn,↓reduceIte,Nat.reduceEqDiff,Nat.zero_add,oGs,bNf,enP,Y5,l3]
 refine (TN G _ _ _).use ?_
 simp -implicitDefEqProofs only [BL,A8,CJ,AY,BB,AO,AQ,AL,BD,AX,AC,AA,AZ,AU,BM,A7,CP,DN,↓reduceIte,Nat.reduceEqDiff,oGs,bNf,Z7]
 exact ⟨by unfold MX; rw [h1,h2,h3,h4]; rfl,hx⟩
structure TwoV (h H:Hp) (m:Mo) (v:Cvr) (vb:Nat):Prop where
 gm:H[h.length]? = some (.live 2 [EH m])
 gv:H[vb]? = some (.live 4 [FU v])
 hx : ∃ x,H=h ++ x
theorem TwoV.mk' (h:Hp) (m:Mo) (v:Cvr):TwoV h (h ++ [.live 2 [EH m]] ++ [.live 4 [FU v]]) m v (h ++ [ABlk.live 2 [EH m]]).length:=⟨CW (CZ _ _),CZ _ _,⟨_,List.append_assoc _ _ _⟩⟩
section
variable {h H:Hp} {m:Mo} {v:Cvr} {vb:Nat} (t:TwoV h H m v vb)
include t
theorem TwoV.m0:D7 Tryz.prog H 22 (.ptr h.length 0 0)=some (.sl m.pm 6 (m.pts.map FH)):=by rw [DL TQ t.gm (row:=EH m) rfl,OC]
theorem TwoV.m1:D7 Tryz.prog H 23 (.ptr h.length 0 1)=some (.sl m.cm 3 (m.crs.map F9)):=by rw [DL ACS t.gm (row:=EH m) rfl,U7]
theorem TwoV.l0:D7 Tryz.prog H 26 (.ptr vb 0 0)=some (.sl v.pm 1 (v.pts.map encL)):=by rw [DL OM t.gv (row:=FU v) rfl,AQC]
theorem TwoV.l1:D7 Tryz.prog H 26 (.ptr vb 0 1)=some (.sl v.cm 1 (v.crs.map encL)):=by rw [DL OM t.gv (row:=FU v) rfl,AQB]
theorem TwoV.l2:D7 Tryz.prog H 3 (.ptr vb 0 2)=some (.int .i64 v.sam):=by rw [DL ag3 t.gv (row:=FU v) rfl,AQA]
theorem TwoV.l3:D7 Tryz.prog H 3 (.ptr vb 0 3)=some (.int .i64 v.ill):=by rw [DL ag3 t.gv (row:=FU v) rfl,AP9]
end
theorem ACI (n:Int) (may:Bool):countB n may = !(!IY n || (decide (n > 0) && !may)):=by
 unfold countB
 cases hw:IY n
 ·rfl
 ·have h0:0≤n:=by
   unfold IY at hw; simp at hw; exact hw.1
  cases may
  ·have:(n == 0) = !decide (n > 0):=by rw [Bool.eq_iff_iff]; simp; omega
   rw [this]; cases decide (n > 0) <;> rfl
  ·cases decide (n > 0) <;> rfl
set_option maxHeartbeats 1000000 in
theorem APY (G:Nat→AV) (m:Mo) (v:Cvr) (hm:MoOk m) (hv:CvOk v) (h:Hp):PCall (En G) 39 [.agg (EH m),.agg (FU v)] h (.bool (MX m v)):=by
 refine ACalls.pure0 rfl ?_
 have hm1:=hm.np
 have hm2:=hm.nc
 refine CE (H:=Hint.none) (enM G) Tryz.func39 rfl (by kernel_rfl) (by kernel_rfl) (nLb (by kernel_rfl)) ?_
 show awp _ _ _ _ _ (EJ _ [.tmp 4] _)
 have t:=TwoV.mk' h m v
 simp -implicitDefEqProofs only [BC,BA,A8,AY,BB,AO,AQ,AL,BD,AX,AC,AA,AZ,AU,BM,A7,FV,BV,CB,BF,BN,↓reduceIte,Nat.reduceEqDiff,oGs,bNf,enP,bxM,bxV]
 generalize h ++ [ABlk.live 2 [EH m]] ++ [ABlk.live 4 [FU v]]=H at t ⊢
 generalize (h ++ [ABlk.live 2 [EH m]]).length=vb at t ⊢
 have hlp:m.pts.length≠v.pts.length→KE okP m.pts v.pts=false:=fun hne=>by
  rw [← Bool.not_eq_true]; exact fun e=>hne (OA e)
 have hlc:m.crs.length≠v.crs.length→KE (okC m) m.crs v.crs=false:=fun hne=>by
  rw [← Bool.not_eq_true]; exact fun e=>hne (OA e)
 simp -implicitDefEqProofs only [AY,AO,AQ,AL,BD,AX,AC,AA,AZ,BX,BZ,BU,AB,lMc,lMn,lAn,↓reduceIte,oGs,bNf,ldM t.gm]
 refine (QA G m hm _).use ?_
 simp -implicitDefEqProofs only [AY,BJ,BP,CO,AO,AQ,AL,BD,AX,AC,AA,AZ,AU,BH,BG,BQ,AB,EG,↓reduceIte,oGs,bNf,enP,bne]
 cases h1:(GM m == 0)
 ·simp -implicitDefEqProofs only [BC,BA,BL,BI,A8,CQ,CJ,CY,AY,BB,BJ,BP,CO,FQ,AO,AQ,AL,BD,AX,AC,AA,EP,AZ,AU,BM,BG,A7,CP,DN,↓reduceIte,Nat.reduceEqDiff,oGs,bNf]
  exact ⟨by unfold MX; rw [h1]; rfl,t.hx⟩
 have hg:=PD (beq_iff_eq.1 h1)
 simp -implicitDefEqProofs only [AY,BJ,BP,CO,EM,AO,AQ,AL,BD,AX,AC,AA,AZ,AU,BM,BG,CP,DR,BV,BQ,BK,DZ,AB,EG,↓reduceIte,Nat.reduceEqDiff,Nat.add_zero,oGs,bNt,bNf,enP,PM,IC,QT,MC,t.m0,t.l0,lLm,bne]
 cases h2:((v.pts.length:Int) == (m.pts.length:Int))
 ·simp -implicitDefEqProofs only [BC,BA,BL,BI,A8,CQ,CJ,CY,AY,BB,BJ,BP,CO,FQ,AO,AQ,AL,BD,AX,AC,AA,EP,AZ,AU,BM,BG,A7,CP,DN,↓reduceIte,Nat.reduceEqDiff,oGs,bNf]
  have:=hlp (by simp at h2; omega)
  exact ⟨by unfold MX; rw [this]; simp,t.hx⟩
 have h2':v.pts.length=m.pts.length:=by simp at h2; omega
 simp -implicitDefEqProofs only [AY,BJ,BP,CO,EM,AO,AQ,AL,BD,AX,AC,AA,AZ,AU,BM,BG,CP,DR,BV,BQ,BK,DZ,AB,EG,↓reduceIte,Nat.reduceEqDiff,Nat.zero_add,oGs,bNt,bNf,enP,UA,JW,QT,MN,t.m1,t.l1,lLm,bne]
 cases h3:((v.crs.length:Int) == (m.crs.length:Int))
 ·simp -implicitDefEqProofs only [BC,BA,BL,BI,A8,CQ,CJ,CY,AY,BB,BJ,BP,CO,FQ,AO,AQ,AL,BD,AX,AC,AA,EP,AZ,AU,BM,BG,A7,CP,DN,↓reduceIte,Nat.reduceEqDiff,oGs,bNf]
  have:=hlc (by simp at h3; omega)
  exact ⟨by unfold MX; rw [this]; simp,t.hx⟩
 have h3':v.crs.length=m.crs.length:=by simp at h3; omega
 simp -implicitDefEqProofs only [BJ,BP,CO,EM,AO,AQ,AL,BD,AX,AC,AA,AZ,BX,BV,BK,BZ,BU,AB,lMc,lMn,lAn,↓reduceIte,Nat.reduceEqDiff,Nat.zero_add,oGs,bNt,bNf,enP,W9,t.l2]
 refine (TA G _ _).use ?_
 simp -implicitDefEqProofs only [AY,BJ,BP,CO,EM,AO,AQ,AL,BD,AX,AC,AA,AZ,AU,BM,BG,CP,DR,G6,AB,EY,↓reduceIte,Nat.reduceEqDiff,oGs,bNf]
 cases h4:IY v.sam
 ·simp -implicitDefEqProofs only [BC,BA,BL,BI,A8,CQ,CJ,CY,AY,BB,BJ,BP,CO,FQ,AO,AQ,AL,BD,AX,AC,AA,EP,AZ,AU,BM,A7,CP,DN,↓reduceIte,Nat.reduceEqDiff,oGs,bNf]
  exact ⟨by unfold MX; rw [h4]; simp,t.hx⟩
 simp -implicitDefEqProofs only [BJ,BP,CO,EM,AO,AQ,AL,BD,AX,AC,AA,AZ,BX,BV,BK,BZ,BU,AB,lMc,lMn,lAn,↓reduceIte,Nat.reduceEqDiff,Nat.zero_add,oGs,bNt,bNf,enP,Y5,t.l3]
 refine (TA G _ _).use ?_
 simp -implicitDefEqProofs only [BI,A8,AY,BB,BJ,BP,CO,EM,AO,AQ,AL,BD,AX,AC,AA,AZ,AU,BM,CP,DR,G6,AB,EY,↓reduceIte,Nat.reduceEqDiff,oGs,bNf]
 cases h5:IY v.ill
 ·simp -implicitDefEqProofs only [BC,BA,BL,A8,CQ,CJ,CY,AY,BB,AO,AQ,AL,BD,AX,AC,AA,AU,BM,A7,↓reduceIte,oGs,bNf]
  exact ⟨by unfold MX; rw [h5]; simp,t.hx⟩
 have hfb:MX m v=(KE okP m.pts v.pts && KE (okC m) m.crs v.crs):=by unfold MX; rw [h1,h4,h5]; simp
 rw [hfb]
 simp -implicitDefEqProofs only [BC,BR,BA,BO,A8,DU,AY,BB,AO,AQ,AL,BD,AX,AC,AU,BH,A7,oGs,bNt,bNf]
 refine GV 0 (fun F H'=>F 2 = .ptr h.length 0 0∧F 3 = .ptr vb 0 0∧H'=H∧KE okP m.pts v.pts=true) (fun F H'=>F 4 = .bool false∧H'=H∧KE okP m.pts v.pts=false) ?_ ?_ ?_
 ·refine DT (fun n F H' => ∃ i,n+i=m.pts.length∧F 2 = .ptr h.length 0 0∧F 3 = .ptr vb 0 0∧F 5 = .int .i64 (i:Nat)∧H'=H∧KE okP m.pts v.pts=KE okP (m.pts.drop i) (v.pts.drop i)) m.pts.length ⟨0,by simp,by simp -implicitDefEqProofs only [AA,↓reduceIte,Nat.reduceEqDiff],by simp -implicitDefEqProofs only [AA,↓reduceIte,Nat.reduceEqDiff],by simp -implicitDefEqProofs only [AA,↓reduceIte]; rfl,rfl,rfl⟩ ?_
  rintro n F H' ⟨i,hi,f2,f3,f5,rfl,hf⟩
  simp -implicitDefEqProofs only [BC,BA,BI,A8,AY,BB,AO,AQ,AL,BD,AX,AC,AA,AZ,BG,BV,BQ,BK,DZ,AB,DC,↓reduceIte,Nat.reduceEqDiff,Nat.add_zero,oGs,bNf,enP,PM,IC,f2,f5,t.m0,lLm]
  refine CV (fun hc => ?_) (fun hc => ?_)
  ·have hi':i < m.pts.length:=by simpa using hc
   have hil:i < v.pts.length:=by omega
   rw [VT okP m.pts v.pts i hi' hil] at hf
   have hxl:=hv.eachP _ (List.getElem_mem hil)
   simp -implicitDefEqProofs only [BC,BR,BO,A8]
   refine FB (by kernel_rfl) ?_
   simp -implicitDefEqProofs only [F8,EC,DW,FK,EF,FO,FD,IU,EI,EK,IM,BI,A8,AO,AA,AZ,BV,BQ,BK,CG,DZ,AB,EG,↓reduceIte,Nat.reduceEqDiff,Nat.reduceAdd,Nat.add_zero,Nat.zero_add,oGs,enP,OJ,IC,OX,MC,OV,H9,I8,f2,f3,f5,t.m0,t.l0,D6 hil,D6 hi',DV L8 hil,OD,DV O5 hi',LH,lLm]
   refine CV (fun h6 => ?_) (fun h6 => ?_)
   ·simp -implicitDefEqProofs only [BC,BA,BL,A8,CQ,D8,MZ,FI,AY,BB,AO,AQ,AL,BD,AX,AC,AA,AU,BM,A7,↓reduceIte,oGs,bNf]
    have:okP m.pts[i] v.pts[i]=false:=by
     have:(v.pts[i].l.length == m.pts[i].bins.length)=false:=by
      rw [beq_eq_false_iff_ne]; intro e; simp [e] at h6
     unfold okP; rw [this]; rfl
    exact ⟨trivial,trivial,by rw [hf,this]; rfl⟩
   have hbl:v.pts[i].l.length=m.pts[i].bins.length:=by simp at h6; omega
   have hok:okP m.pts[i] v.pts[i]=RY (fun k=>kindOf m.pts[i] k == 0) 0 v.pts[i].l:=by
    unfold okP; rw [beq_iff_eq.2 hbl]; rfl
   simp -implicitDefEqProofs only [BC,BR,BA,BO,A8,AY,BB,AO,AQ,AL,BD,AX,AC,AU,BH,A7,oGs,bNf]
   refine GV 2 (fun F' H=>F' 2 = .ptr h.length 0 0∧F' 3 = .ptr vb 0 0∧F' 5 = .int .i64 (i:Nat)∧H=H'∧okP m.pts[i] v.pts[i]=true) (fun F' H=>F' 4 = .bool false∧H=H'∧okP m.pts[i] v.pts[i]=false) ?_ ?_ ?_
   ·refine DT (fun n F' H => ∃ k,n+k=v.pts[i].l.length∧F' 2 = .ptr h.length 0 0∧F' 3 = .ptr vb 0 0∧F' 5 = .int .i64 (i:Nat)∧F' 6 = .int .i64 (k:Nat)∧H=H'∧okP m.pts[i] v.pts[i]=RY (fun k=>kindOf m.pts[i] k == 0) k (v.pts[i].l.drop k)) v.pts[i].l.length ⟨0,by simp,by simp -implicitDefEqProofs only [AA,↓reduceIte,Nat.reduceEqDiff,f2],by simp -implicitDefEqProofs only [AA,↓reduceIte,Nat.reduceEqDiff,f3],by simp -implicitDefEqProofs only [AA,↓reduceIte,Nat.reduceEqDiff,f5],by simp -implicitDefEqProofs only [AA,↓reduceIte]; rfl,rfl,hok⟩ ?_
    clear f2 f3 f5
    rintro n' F H' ⟨k,hk,f2,f3,f5,f6,rfl,hr⟩
    simp -implicitDefEqProofs only [BC,BA,BI,A8,AY,BB,AO,AQ,AL,BD,AX,AC,AA,AZ,BG,BV,BQ,BK,CG,DZ,AB,DC,↓reduceIte,Nat.reduceEqDiff,Nat.add_zero,oGs,bNf,enP,OX,MC,I8,f3,f5,f6,t.l0,D6 hil,DV L8 hil,OD,lLm]
    refine CV (fun hc => ?_) (fun hc => ?_)
    ·have hk':k < v.pts[i].l.length:=by simpa using hc
     have hkb:k < m.pts[i].bins.length:=by omega
     have hkd:kindOf m.pts[i] k=(m.pts[i].bins[k]).kind:=by unfold kindOf; rw [List.getElem?_eq_getElem hkb]
     rw [VN _ _ _ hk',hkd,ACI] at hr
     simp -implicitDefEqProofs only [BC,BR,BA,BO,A8,AY,BB,AO,AQ,AL,BD,AX,AC,AA,AZ,BX,BG,A7,BV,BK,CG,BZ,BU,AB,lMc,lMn,lAn,↓reduceIte,Nat.reduceEqDiff,Nat.add_zero,oGs,bNf,enP,OX,MC,JL,f3,f5,f6,t.l0,D6 hil,DV L8 hil,OD,D6 hk',DV ag3 hk',encI0]
     refine (TA G _ _).use ?_
     simp -implicitDefEqProofs only [AY,BJ,BP,CO,AO,AQ,AL,BD,AX,AC,AA,AZ,BG,G6,AB,EY,↓reduceIte,oGs,bNf]
     cases hw:IY v.pts[i].l[k]
     ·simp -implicitDefEqProofs only [BC,BA,BL,BI,A8,CQ,D8,MZ,FI,CY,AY,BB,BJ,BP,CO,FQ,QR,AO,AQ,AL,BD,AX,AC,AA,EP,AZ,AU,BM,A7,CP,DN,↓reduceIte,Nat.reduceEqDiff,oGs,bNf]
      exact ⟨trivial,trivial,by rw [hr,hw]; rfl⟩
     rw [hw] at hr
     simp -implicitDefEqProofs only [BJ,BP,CO,EM,AO,AQ,AL,BD,AX,AC,AA,AZ,AU,BH,BG,BQ,AB,EZ,↓reduceIte,Nat.reduceEqDiff,oGs,bNt,bNf,enP]
     cases hp:decide (v.pts[i].l[k] > 0)
     ·simp -implicitDefEqProofs only [BA,BO,BI,A8,EE,EN,DU,AY,BB,BJ,BP,CO,EM,H8,AO,AQ,AL,BD,AX,AC,AA,EP,AZ,AU,BH,BM,BG,A7,CP,DR,BQ,AB,DF,↓reduceIte,Nat.reduceEqDiff,oGs,bNf,enP,f6,wrap_succ (show k < 9223372036854775807 by omega)]
      exact ⟨n' - 1,by omega,k+1,by omega,f2,f3,f5,rfl,trivial,by rw [hr,hp]; rfl⟩
     rw [hp] at hr
     simp -implicitDefEqProofs only [BI,A8,AY,BB,BJ,BP,CO,F7,EM,AO,AQ,AL,BD,AX,AC,AA,AZ,AU,BH,BM,BG,CP,DN,DR,BV,BQ,BK,CG,AB,EG,↓reduceIte,Nat.reduceEqDiff,Nat.add_zero,Nat.zero_add,oGs,bNf,enP,OJ,IC,WV,H9,MW,f2,f5,f6,t.m0,D6 hi',DV O5 hi',LH,D6 hkb,DV ag3 hkb,U8,bne]
     cases hz:(m.pts[i].bins[k].kind == 0)
     ·simp -implicitDefEqProofs only [BC,BA,BL,A8,CQ,D8,MZ,FI,CY,AY,BB,AO,AQ,AL,BD,AX,AC,AA,AU,BM,A7,↓reduceIte,oGs,bNf]
      exact ⟨trivial,trivial,by rw [hr,hz]; rfl⟩
     ·simp -implicitDefEqProofs only [BA,BO,A8,EE,EN,DU,AY,BB,AO,AQ,AL,BD,AX,AC,AA,AZ,AU,BH,BG,A7,BQ,AB,DF,↓reduceIte,Nat.reduceEqDiff,oGs,bNt,bNf,enP,f6,wrap_succ (show k < 9223372036854775807 by omega)]
      exact ⟨n' - 1,by omega,k+1,by omega,f2,f3,f5,rfl,trivial,by rw [hr,hz]; rfl⟩
    ·have hk' : ¬ k < v.pts[i].l.length:=by simpa using hc
     simp -implicitDefEqProofs only [DJ,D9,J4,EW,AA,↓reduceIte,Nat.reduceEqDiff]
     exact ⟨f2,f3,f5,trivial,by rw [hr,List.drop_eq_nil_of_le (by omega)]; rfl⟩
   ·rintro F' H' ⟨g2,g3,g5,rfl,hr⟩
    simp -implicitDefEqProofs only [BA,A8,EE,EX,EN,AY,BB,AO,AQ,AL,BD,AX,AC,AA,AZ,AU,BH,BG,A7,BQ,AB,DF,↓reduceIte,Nat.reduceEqDiff,oGs,bNf,enP,g5,wrap_succ (show i < 9223372036854775807 by omega)]
    exact ⟨n - 1,by omega,i+1,by omega,g2,g3,rfl,trivial,by rw [hf,hr]; rfl⟩
   ·rintro F' H' ⟨g4,rfl,hr⟩
    simp -implicitDefEqProofs only [CQ,D8,MZ,FI,g4]
    exact ⟨trivial,trivial,by rw [hf,hr]; rfl⟩
  ·have hi' : ¬ i < m.pts.length:=by simpa using hc
   simp -implicitDefEqProofs only [DJ,D9,J4,EW,AA,↓reduceIte,Nat.reduceEqDiff]
   exact ⟨f2,f3,trivial,by rw [hf,XZ okP _ _ i (by omega) (by omega)]⟩
 ·rintro F H' ⟨f2,f3,rfl,hfp⟩
  rw [hfp,Bool.true_and]
  simp -implicitDefEqProofs only [BC,BR,BA,A8,EX,AY,BB,AO,AQ,AL,BD,AX,AC,AU,BH,A7,↓reduceIte,oGs,bNf]
  refine DT (fun n F H => ∃ i,n+i=m.crs.length∧F 2 = .ptr h.length 0 0∧F 3 = .ptr vb 0 0∧F 8 = .int .i64 (i:Nat)∧H=H'∧KE (okC m) m.crs v.crs=KE (okC m) (m.crs.drop i) (v.crs.drop i)) m.crs.length ⟨0,by simp,by simp -implicitDefEqProofs only [AA,↓reduceIte,Nat.reduceEqDiff,f2],by simp -implicitDefEqProofs only [AA,↓reduceIte,Nat.reduceEqDiff,f3],by simp -implicitDefEqProofs only [AA,↓reduceIte]; rfl,rfl,rfl⟩ ?_
  clear f2 f3
  rintro n F H' ⟨i,hi,f2,f3,f8,rfl,hf⟩
  simp -implicitDefEqProofs only [BC,BA,BI,A8,AY,BB,AO,AQ,AL,BD,AX,AC,AA,AZ,BG,BV,BQ,BK,DZ,AB,DC,↓reduceIte,Nat.reduceEqDiff,Nat.zero_add,oGs,bNf,enP,UA,JW,f2,f8,t.m1,lLm]
  refine CV (fun hc => ?_) (fun hc => ?_)
  ·have hi':i < m.crs.length:=by simpa using hc
   have hil:i < v.crs.length:=by omega
   rw [VT (okC m) m.crs v.crs i hi' hil] at hf
   have hxl:=hv.eachC _ (List.getElem_mem hil)
   have hcg:=hg.crs _ (List.getElem_mem hi')
   have hfs:=hg.full.szs hcg.here
   have htwo:=hcg.two
   have hfour:=hcg.four
   have hpr:=hcg.prod
   have hnum:=hcg.num
   have hmin:min (II (szs m m.crs[i].pts):Int) 1000=(II (szs m m.crs[i].pts):Int):=by omega
   simp -implicitDefEqProofs only [BC,BR,BO,A8]
   refine FB (by kernel_rfl) ?_
   simp -implicitDefEqProofs only [F8,EC,DW,EF,FO,FD,IU,EI,EK,IM,GL,FW,AO,AA,AZ,BX,BV,BQ,BK,CG,DZ,AB,lMc,lMn,lAn,↓reduceIte,Nat.reduceEqDiff,Nat.reduceAdd,Nat.zero_add,oGs,enP,XV,JW,OX,MN,I8,f2,f3,f8,t.m1,t.l1,ldM t.gm,D6 hil,D6 hi',DV L8 hil,OD,FP ZI WH JY hi',lLm]
   refine ⟨_,Y9 G m m.crs[i] _ hcg.here hg.full (by omega),?_⟩
   rw [hmin]
   try simp -implicitDefEqProofs only [DW,FK,BI,A8,AA,AZ,AB,EG,↓reduceIte]
   refine CV (fun h6 => ?_) (fun h6 => ?_)
   ·simp -implicitDefEqProofs only [BC,BA,BL,A8,CQ,D8,FI,CJ,AY,BB,AO,AQ,AL,BD,AX,AC,AA,AU,BM,A7,↓reduceIte,oGs,bNf]
    have:okC m m.crs[i] v.crs[i]=false:=by
     have:(v.crs[i].l.length == II (szs m m.crs[i].pts))=false:=by
      rw [beq_eq_false_iff_ne]; intro e; simp [e] at h6
     unfold okC; rw [this]; rfl
    exact ⟨by rw [hf,this]; rfl,t.hx⟩
   have hbl:v.crs[i].l.length=II (szs m m.crs[i].pts):=by simp at h6; omega
   have hok:okC m m.crs[i] v.crs[i]=RY (fun k=>TI m m.crs[i] (NZ (szs m m.crs[i].pts) k)) 0 v.crs[i].l:=by
    unfold okC; rw [beq_iff_eq.2 hbl]; rfl
   simp -implicitDefEqProofs only [BC,BR,BA,BO,A8,AY,BB,AO,AQ,AL,BD,AX,AC,AU,BH,A7,oGs,bNf]
   refine GV 6 (fun F' H=>F' 2 = .ptr h.length 0 0∧F' 3 = .ptr vb 0 0∧F' 8 = .int .i64 (i:Nat)∧H=H'∧okC m m.crs[i] v.crs[i]=true) (fun F' H=>F' 4 = .bool false∧H=H'∧okC m m.crs[i] v.crs[i]=false) ?_ ?_ ?_
   ·refine DT (fun n F' H => ∃ k,n+k=v.crs[i].l.length∧F' 2 = .ptr h.length 0 0∧F' 3 = .ptr vb 0 0∧F' 8 = .int .i64 (i:Nat)∧F' 9 = .int .i64 (k:Nat)∧H=H'∧okC m m.crs[i] v.crs[i]=RY (fun k=>TI m m.crs[i] (NZ (szs m m.crs[i].pts) k)) k (v.crs[i].l.drop k)) v.crs[i].l.length ⟨0,by simp,by simp -implicitDefEqProofs only [AA,↓reduceIte,Nat.reduceEqDiff,f2],by simp -implicitDefEqProofs only [AA,↓reduceIte,Nat.reduceEqDiff,f3],by simp -implicitDefEqProofs only [AA,↓reduceIte,Nat.reduceEqDiff,f8],by simp -implicitDefEqProofs only [AA,↓reduceIte]; rfl,rfl,hok⟩ ?_
    clear f2 f3 f8
    rintro n' F H' ⟨k,hk,f2,f3,f8,f9,rfl,hr⟩
    simp -implicitDefEqProofs only [BC,BA,BI,A8,AY,BB,AO,AQ,AL,BD,AX,AC,AA,AZ,BG,BV,BQ,BK,CG,DZ,AB,DC,↓reduceIte,Nat.reduceEqDiff,Nat.zero_add,oGs,bNf,enP,OX,MN,I8,f3,f8,f9,t.l1,D6 hil,DV L8 hil,OD,lLm]
    refine CV (fun hc => ?_) (fun hc => ?_)
    ·have hk':k < v.crs[i].l.length:=by simpa using hc
     rw [VN _ _ _ hk',ACI] at hr
     simp -implicitDefEqProofs only [BC,BR,BA,BO,A8,AY,BB,AO,AQ,AL,BD,AX,AC,AA,AZ,BG,A7,BV,BK,CG,AB,↓reduceIte,Nat.reduceEqDiff,Nat.zero_add,oGs,bNf,enP,OX,MN,JL,f3,f8,f9,t.l1,D6 hil,DV L8 hil,OD,D6 hk',DV ag3 hk',encI0]
     refine FB (by kernel_rfl) ?_
     simp -implicitDefEqProofs only [F8,EC,DW,EF,FO,AA2,GL,FW,AO,AA,AZ,BX,G6,lMc,lMn,lAn,↓reduceIte,Nat.reduceAdd,oGs]
     refine ⟨_,TA G _ _,?_⟩
     try simp -implicitDefEqProofs only [F8,EC,DW,EF,E8,GG,FO,CO,AO,AA,AZ,AB,EY,↓reduceIte,Nat.reduceAdd,oGs]
     cases hw:IY v.crs[i].l[k]
     ·simp -implicitDefEqProofs only [F8,EC,DW,FK,EF,E8,GG,ACZ,AWU,IJ,BC,BA,BL,BI,A8,CQ,D8,MZ,FI,CY,AY,BB,CO,AO,AQ,AL,BD,AX,AC,AA,EP,AZ,AU,BM,A7,CP,DN,↓reduceIte,Nat.reduceEqDiff,Nat.reduceAdd,oGs,bNf]
      exact ⟨trivial,trivial,by rw [hr,hw]; rfl⟩
     rw [hw] at hr
     simp -implicitDefEqProofs only [F8,EC,DW,E8,GG,VH,FO,IU,CO,AO,AA,AZ,AU,BH,BQ,AB,EZ,↓reduceIte,Nat.reduceEqDiff,Nat.reduceAdd,oGs,bNt,enP]
     cases hp:decide (v.crs[i].l[k] > 0)
     ·simp -implicitDefEqProofs only [F8,EC,DW,FK,EF,E8,GG,VH,YJ,IJ,BA,BO,BI,A8,EE,EN,DU,AY,BB,CO,AO,AQ,AL,BD,AX,AC,AA,EP,AZ,AU,BH,BM,BG,A7,CP,DR,BQ,AB,DF,↓reduceIte,Nat.reduceEqDiff,Nat.reduceAdd,oGs,bNf,enP,f9,wrap_succ (show k < 9223372036854775807 by omega)]
      exact ⟨n' - 1,by omega,k+1,by omega,f2,f3,f8,rfl,trivial,by rw [hr,hp]; rfl⟩
     rw [hp] at hr
     simp -implicitDefEqProofs only [F8,EC,DW,E8,GG,OQ,FO,FD,AA2,EI,EK,GL,FW,CO,AO,AA,AZ,BX,BV,G6,BK,CG,AB,lMc,lMn,lAn,↓reduceIte,Nat.reduceEqDiff,Nat.reduceAdd,Nat.zero_add,oGs,enP,XV,JW,f2,f8,f9,t.m1,ldM t.gm,D6 hi',FP ZI WH JY hi']
     refine ⟨_,AML G m m.crs[i] k _ hcg.here hg.full (by omega) (by omega) (by omega),?_⟩
     try simp -implicitDefEqProofs only []
     refine ⟨_,AJ8 G m m.crs[i] _ _ _ hcg.here (XK _ _ fun n hn=>(hfs n hn).1) (by omega) (by omega),?_⟩
     try simp -implicitDefEqProofs only [F8,EC,DW,FK,EF,E8,GG,VH,IJ,BI,A8,CO,AO,AA,AZ,AU,BM,CP,DN,DR,AB,EY,↓reduceIte,Nat.reduceEqDiff,Nat.reduceAdd,oGs]
     cases hz:TI m m.crs[i] (NZ (szs m m.crs[i].pts) k)
     ·simp -implicitDefEqProofs only [BC,BA,BL,A8,CQ,D8,MZ,FI,CY,AY,BB,AO,AQ,AL,BD,AX,AC,AA,AU,BM,A7,↓reduceIte,oGs,bNf]
      exact ⟨trivial,trivial,by rw [hr,hz]; rfl⟩
     ·simp -implicitDefEqProofs only [BA,BO,A8,EE,EN,DU,AY,BB,AO,AQ,AL,BD,AX,AC,AA,AZ,AU,BH,BG,A7,BQ,AB,DF,↓reduceIte,Nat.reduceEqDiff,oGs,bNt,bNf,enP,f9,wrap_succ (show k < 9223372036854775807 by omega)]
      exact ⟨n' - 1,by omega,k+1,by omega,f2,f3,f8,rfl,trivial,by rw [hr,hz]; rfl⟩
    ·have hk' : ¬ k < v.crs[i].l.length:=by simpa using hc
     simp -implicitDefEqProofs only [DJ,D9,J4,EW,AA,↓reduceIte,Nat.reduceEqDiff]
     exact ⟨f2,f3,f8,trivial,by rw [hr,List.drop_eq_nil_of_le (by omega)]; rfl⟩
   ·rintro F' H' ⟨g2,g3,g8,rfl,hr⟩
    simp -implicitDefEqProofs only [BA,A8,EE,EX,EN,AY,BB,AO,AQ,AL,BD,AX,AC,AA,AZ,AU,BH,BG,A7,BQ,AB,DF,↓reduceIte,Nat.reduceEqDiff,oGs,bNf,enP,g8,wrap_succ (show i < 9223372036854775807 by omega)]
    exact ⟨n - 1,by omega,i+1,by omega,g2,g3,rfl,trivial,by rw [hf,hr]; rfl⟩
   ·rintro F' H' ⟨g4,rfl,hr⟩
    simp -implicitDefEqProofs only [CQ,D8,FI,CJ,g4]
    exact ⟨by rw [hf,hr]; rfl,t.hx⟩
  ·have hi' : ¬ i < m.crs.length:=by simpa using hc
   simp -implicitDefEqProofs only [BC,BA,BL,DJ,A8,D9,EX,EW,CJ,AY,BB,AO,AQ,AL,BD,AX,AC,AA,AU,BM,A7,↓reduceIte,oGs,bNf]
   exact ⟨by rw [hf,XZ (okC m) _ _ i (by omega) (by omega)],t.hx⟩
 ·rintro F H' ⟨f4,rfl,hfp⟩
  simp -implicitDefEqProofs only [CQ,D8,CJ,f4]
  exact ⟨by rw [hfp]; rfl,t.hx⟩
structure Gl where
 cross:Bool
 idx:Nat
 bm:SM
 bins:List Int
 at_:Nat
def mkP (i k:Nat):Gl:=⟨false,i,.full,[(k:Int)],k⟩
def mkC (m:Mo) (i k:Nat) (c:Cr):Gl:=⟨true,i,.any,NZ (szs m c.pts) k,k⟩
def gPk (i:Nat) (p:Pt):Nat→List Gl
 | 0 => []
 | k+1=>gPk i p k ++ (if (kindOf p k == 0)=true then [mkP i k] else [])
def gP (m:Mo):Nat→List Gl
 | 0 => []
 | i+1=>gP m i ++ (match m.pts[i]? with | some p=>gPk i p p.bins.length | none => [])
def gCk (m:Mo) (i:Nat) (c:Cr):Nat→List Gl
 | 0 => []
 | k+1=>gCk m i c k ++ (if TI m c (NZ (szs m c.pts) k)=true then [mkC m i k c] else [])
def gC (m:Mo):Nat→List Gl
 | 0=>gP m m.pts.length
 | i+1=>gC m i ++ (match m.crs[i]? with | some c=>gCk m i c (II (szs m c.pts)) | none => [])
def goals (m:Mo):List Gl:=gC m m.crs.length
def cellAt (l:List Is) (i k:Nat):Int:=match l[i]? with
 | some x=>(match x.l[k]? with | some z=>z | none=>0)
 | none=>0
def AWL (v:Cvr) (g:Gl):Int:=if g.cross then cellAt v.crs g.idx g.at_ else cellAt v.pts g.idx g.at_
theorem AH3 {α:Type} {ok:α→Is→Bool} : ∀ {ws:List α} {xs:List Is},KE ok ws xs=true→∀ (i:Nat) (a:α),ws[i]? = some a→∃ x,xs[i]? = some x∧ok a x=true
 | [],[],_,i,a,h=>by simp at h
 | w :: ws,x :: xs,h,i,a,ha=>by
   simp only [KE,Bool.and_eq_true] at h
   cases i with
   | zero=>simp at ha; subst ha; exact ⟨x,rfl,h.1⟩
   | succ i=>exact AH3 h.2 i a (by simpa using ha)
 | [],_ :: _,h,_,_,_=>by cases h
 | _ :: _,[],h,_,_,_=>by cases h
theorem AB5 {m:Mo} {v:Cvr} (hf:MX m v=true):GM m=0:=by
 unfold MX at hf
 simp only [Bool.and_eq_true,beq_iff_eq] at hf
 exact hf.1.1.1.1
structure Three (h H:Hp) (m:Mo) (a b:Cvr) (ab bb:Nat):Prop where
 gm:H[h.length]? = some (.live 2 [EH m])
 ga:H[ab]? = some (.live 4 [FU a])
 gb:H[bb]? = some (.live 4 [FU b])
 hx : ∃ x,H=h ++ x
theorem Three.mk' (h:Hp) (m:Mo) (a b:Cvr):Three h (h ++ [.live 2 [EH m]] ++ [.live 4 [FU a]] ++ [.live 4 [FU b]]) m a b (h ++ [ABlk.live 2 [EH m]]).length (h ++ [ABlk.live 2 [EH m]] ++ [ABlk.live 4 [FU a]]).length :=
 ⟨CW (CW (CZ _ _)),CW (CZ _ _),CZ _ _,⟨_,by rw [List.append_assoc,List.append_assoc]⟩⟩
def mkB (name:ByteArray) (kind lo hi:Int):Bin:=⟨name,kind,⟨.full,[⟨lo,hi⟩]⟩,.nil,[]⟩
theorem AU7 (a b:Int):KP Tryz.prog 185 [(0,.int .i64 a),(1,.int .i64 b)]=some (.agg [.int .i64 a,.int .i64 b]):=by kernel_rfl
theorem AU5 (h:Hp) (a b:Int):FN Tryz.prog false h 118 1 [(0,.agg [.int .i64 a,.int .i64 b])]=some (.sl .full 2 [[.int .i64 a,.int .i64 b]],h):=by kernel_rfl
theorem AYZ (s:ByteArray) (k:Int) (xs:List (List AV)):KP Tryz.prog 121 [(0,.str s),(1,.int .i64 k),(2,.sl .full 2 xs)]=some (.agg [.str s,.int .i64 k,.sl .full 2 xs,.sl .nil 0 []]):=by kernel_rfl
def rowB (s:ByteArray) (k lo hi:Int):List AV := [.str s,.int .i64 k,.sl .full 2 [[.int .i64 lo,.int .i64 hi]],.sl .nil 0 []]
theorem AUZ (h:Hp) (s:ByteArray) (k lo hi:Int) (row:List AV) (hr:row.length=4):FX Tryz.prog (h ++ [.live 4 [row]]) 121 (.ptr h.length 0 0) (.agg [.str s,.int .i64 k,.sl .full 2 [[.int .i64 lo,.int .i64 hi]],.sl .nil 0 []])=some (h ++ [.live 4 [rowB s k lo hi]]):=by
 have h1:=MP (P:=Tryz.prog) (t:=121) (h:=h) (k:=4) (j:=0) (row:=row) (cs:=rowB s k lo hi) (v := .agg (rowB s k lo hi)) rfl PI (by rw [hr]; exact Nat.le_refl 4)
 have h2:splice row 0 (rowB s k lo hi)=rowB s k lo hi:=by unfold splice; simp [hr,rowB]
 rw [h2] at h1
 exact h1
theorem AFZ (G:Nat→AV) (s:ByteArray) (k lo hi:Int) (h:Hp):PCall (En G) 145 [.str s,.int .i64 k,.int .i64 lo,.int .i64 hi] h (.agg (GN (mkB s k lo hi))):=by
 have hp:PCall (En G) 145 [.str s,.int .i64 k,.int .i64 lo,.int .i64 hi] h (.agg (rowB s k lo hi)):=by
  refine ACalls.pure 2 (R:=fun v H=>v = .agg (rowB s k lo hi)∧∃ x,H=h ++ x) ?_ (fun v h' ⟨e,x⟩=>⟨x,by subst e; rfl⟩)
  refine CE (H:=Hint.none) (enM G) Tryz.func145 rfl (by kernel_rfl) (by kernel_rfl) (nLb (by kernel_rfl)) ?_
  show awp _ _ _ _ _ (EJ _ [.cell 8 121] _)
  simp -implicitDefEqProofs only [FZ,F6,BC,BA,BL,A8,AY,BB,AO,AQ,AL,BD,AX,AC,FC,AA,AZ,BG,FY,KR,EQ,ER,CB,AB,DX,BF,BN,↓reduceIte,Nat.reduceEqDiff,oGs,bNf,enP,Option.getD_none,AUF,AU7,AU5,AYZ,AUZ _ _ _ _ _ [.str ⟨#[]⟩,.int .i64 0,.sl .nil 0 [],.sl .nil 0 []] rfl]
  refine ⟨trivial,.agg (rowB s k lo hi),?_,rfl,_,rfl⟩
  exact VQ (P:=Tryz.prog) (h:=h) (k:=4) (row:=rowB s k lo hi) TU PI (Nat.le_refl 4)
 exact hp.res (CvR.agg (CvRL.cons (CvR.refl _) (CvRL.cons (CvR.refl _) (CvRL.cons (CvR.refl _) (CvRL.cons (CvR.sl (Cv.nil 0 1)) CvRL.nil)))))
def ATT:Ex := .mk 2 0 ⟨#[97]⟩ .nil []
def exP:Pt:=⟨⟨#[112]⟩,ATT,.full,[mkB ⟨#[108,111,119]⟩ 0 0 3,mkB ⟨#[104,105,103,104]⟩ 0 4 7,mkB ⟨#[110,111,110,101]⟩ 1 9 9]⟩
def exM:Mo:=⟨.full,[exP],.nil,[]⟩
theorem AY0 (n:Int) (s:ByteArray):KP Tryz.prog 53 [(0,.int .i64 n),(2,.str s)]=some (.agg [.int .i64 n,.int .i64 0,.str s,.sl .nil 0 []]):=by kernel_rfl
theorem A0P (h:Hp) (a b c:Bin):FN Tryz.prog false h 54 3 [(0,.agg (GN a)),(1,.agg (GN b)),(2,.agg (GN c))]=some (.sl .full 4 [GN a,GN b,GN c],h):=by
 have h1:Tryz.prog.underlying 54=some (.slice 121):=by kernel_rfl
 have h3:UB Tryz.prog 121=some 4:=by kernel_rfl
 unfold FN
 simp only [h1,PI,h3]
 have h2:XP 4 0 [(0,AV.agg (GN a)),(1,AV.agg (GN b)),(2,AV.agg (GN c))]=some [GN a,GN b,GN c]:=rfl
 have fr : ∀ x:Bin,(GN x).all AV.frozen=true:=fun _=>rfl
 simp [h2,fr]
theorem A0Q (s t:ByteArray) (n:Int) (xs:List (List AV)):KP Tryz.prog 56 [(0,.str s),(1,.agg [.int .i64 n,.int .i64 0,.str t,.sl .nil 0 []]),(2,.sl .full 4 xs)]=some (.agg [.str s,.int .i64 n,.int .i64 0,.str t,.sl .nil 0 [],.sl .full 4 xs]):=by kernel_rfl
theorem AYV (h:Hp) (s t:ByteArray) (n:Int) (xs:List (List AV)):FN Tryz.prog false h 22 1 [(0,.agg [.str s,.int .i64 n,.int .i64 0,.str t,.sl .nil 0 [],.sl .full 4 xs])]=some (.sl .full 6 [[.str s,.int .i64 n,.int .i64 0,.str t,.sl .nil 0 [],.sl .full 4 xs]],h):=by kernel_rfl
theorem AY6 (xs:List (List AV)):KP Tryz.prog 25 [(0,.sl .full 6 xs)]=some (.agg [.sl .full 6 xs,.sl .nil 0 []]):=by kernel_rfl
theorem AZD (h:Hp):J9 Tryz.prog h 25=some (.ptr h.length 0 0,h ++ [.live 2 [[.sl .nil 0 [],.sl .nil 0 []]]]):=JZ (row := [.sl .nil 0 [],.sl .nil 0 []]) (by kernel_rfl)
def YQ:List AV := [.sl .full 6 [[.str ⟨#[112]⟩,.int .i64 2,.int .i64 0,.str ⟨#[97]⟩,.sl .nil 0 [],.sl .full 4 (exP.bins.map GN)]],.sl .nil 0 []]
theorem AXH (h:Hp) (row:List AV) (hr:row.length=2):FX Tryz.prog (h ++ [.live 2 [row]]) 25 (.ptr h.length 0 0) (.agg YQ)=some (h ++ [.live 2 [YQ]]):=by
 have h1:=MP (P:=Tryz.prog) (t:=25) (h:=h) (k:=2) (j:=0) (row:=row) (cs:=YQ) (v := .agg YQ) rfl AOQ (by rw [hr]; exact Nat.le_refl 2)
 have h2:splice row 0 YQ=YQ:=by unfold splice; simp [hr,YQ]
 rw [h2] at h1
 exact h1
theorem AMV:CvR (.agg YQ) (.agg (EH exM)):=by
 refine CvR.agg (CvRL.cons (CvR.sl (Cv.rows rfl ?_)) (CvRL.cons (CvR.sl (Cv.nil 0 3)) CvRL.nil))
 intro i r r' h1 h2
 match i,h1,h2 with
 | 0,h1,h2 =>
   cases h1; cases h2
   exact CvRow.cons rfl (Cv.refl _) (CvRow.cons rfl (Cv.refl _) (CvRow.cons rfl (Cv.refl _) (CvRow.cons rfl (Cv.refl _) (CvRow.cons rfl (Cv.nil 0 4) (CvRow.cons rfl (Cv.refl _) CvRow.nil)))))
 | _+1,h1,_=>cases h1
theorem sample (G:Nat→AV) (h:Hp):PCall (En G) 84 [] h (.agg (EH exM)):=by
 have hp:PCall (En G) 84 [] h (.agg YQ):=by
  refine ACalls.pure 2 (R:=fun v H=>v = .agg YQ∧∃ x,H=h ++ x) ?_ (fun v h' ⟨e,x⟩=>⟨x,by subst e; rfl⟩)
  refine CE (H:=Hint.none) (enM G) Tryz.func84 rfl (by kernel_rfl) (by kernel_rfl) (nLb (by kernel_rfl)) ?_
  show awp _ _ _ _ _ (EJ _ [.cell 0 25] _)
  simp -implicitDefEqProofs only [FZ,F6,BC,BA,A8,AY,BB,AO,AQ,AL,BD,AX,AC,AU,BX,BH,IX,FY,KR,BZ,BU,CB,AB,lMc,lMn,lAn,oGs,bNf,enP,AZD,AY0]
  refine (AFZ G _ _ _ _ _).use ?_
  simp -implicitDefEqProofs only [AY,AO,AQ,AL,BD,AX,AC,AU,BX,BH,IX,BZ,BU,lMc,lMn,lAn,oGs,bNf]
  refine (AFZ G _ _ _ _ _).use ?_
  simp -implicitDefEqProofs only [AY,AO,AQ,AL,BD,AX,AC,AU,BX,BH,IX,BZ,BU,lMc,lMn,lAn,oGs,bNf]
  refine (AFZ G _ _ _ _ _).use ?_
  simp -implicitDefEqProofs only [FZ,F6,AY,AO,AQ,AL,BD,AX,AC,AA,AZ,AU,IX,KR,EQ,ER,CB,AB,↓reduceIte,Nat.reduceEqDiff,oGs,bNf,enP,Option.getD_none,A0P,A0Q,AYV,AY6]
  refine JR (v:=IP) (h:=h ++ [.live 2 [YQ]]) (by
   have:=AXH h [.sl .nil 0 [],.sl .nil 0 []] rfl
   exact congrArg ofS this) ?_
  simp -implicitDefEqProofs only [BL,A8,BB,FC]
  refine ⟨trivial,.agg YQ,?_,rfl,_,rfl⟩
  exact VQ (P:=Tryz.prog) (h:=h) (k:=2) (row:=YQ) AWS AOQ (Nat.le_refl 2)
 exact hp.res AMV
end Go.Proofs.YtocilianjfhifaaGreatDoor.Cov
