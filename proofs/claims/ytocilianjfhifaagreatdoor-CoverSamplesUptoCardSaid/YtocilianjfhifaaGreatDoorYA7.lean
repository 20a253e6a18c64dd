/- Part 7 of the proof (M13, M14, N4, N7, N8, N10, N12); no condition. -/
import Derived.Test.YtocilianjfhifaaGreatDoorYA6
set_option linter.unusedVariables false
set_option linter.unusedSimpArgs false
set_option maxRecDepth 8000
namespace Go.Proofs.YtocilianjfhifaaGreatDoor.Cov
open Sm Bins Go.RowKit
def Q5 (G:Nat→AV):Prop := ∀ (ns:List Nat) (s:SM) (K:Nat) (h:Hp),0 < ns.length→ns.length≤4→(∀ n∈ns,1≤n∧n≤64)→K≤1048576 →
 PCall (En G) 168 [.sl s 1 (ns.map IV),.int .i64 (K:Int)] h (.sl .any 1 ((MZ ns K).map encI))
structure CrGood (m:Mo) (c:Cr):Prop where
 here:Here m c.pts
 two:2≤c.pts.length
 four:c.pts.length≤4
 prod:IC (szs m c.pts)≤256
 num:c.excl.length≤256
 excl : ∀ x∈c.excl,MS (szs m c.pts) x.l=true
theorem AN6 {m:Mo} {c:Cr} (h:H8 m c=0):CrGood m c:=by
 unfold H8 at h
 split at h
 ·cases h
 ·split at h
  ·cases h
  ·split at h
   ·cases h
   ·split at h
    ·cases h
    ·split at h
     ·cases h
     ·rename_i h1 h2 h3 h4 h5
      have h3':UL m.pts.length none c.pts=true:=by simpa using h3
      refine ⟨VC h3',by omega,by omega,by omega,by omega,fun x hx => ?_⟩
      rw [Bool.not_eq_true,List.any_eq_false] at h5
      have:=h5 x hx
      simpa using this
structure Good (m:Mo):Prop where
 num:m.pts.length+m.crs.length≤16
 full:Full m
 crs : ∀ c∈m.crs,CrGood m c
theorem PZ {m:Mo} (h:GN m=0):Good m:=by
 unfold GN at h
 split at h
 ·cases h
 ·split at h
  ·rename_i h2; exact absurd h h2
  ·split at h
   ·cases h
   ·split at h
    ·rename_i h4; exact absurd h h4
    ·rename_i h1 h2 h3 h4
     refine ⟨by omega,full_of (by simpa using h2),fun c hc=>AN6 (X0 _ (by simpa using h4) c hc)⟩
theorem ANX (G:Nat→AV) (hT:Q5 G) (m:Mo) (l:List Is) (s:SM) (h:Hp) (hm:MoOk m) (hg:Good m) (hl : ∀ x∈l,x.l.length≤1048576):PCall (En G) 125 [.agg (EN m),.sl s 1 (l.map encL)] h (.bool (J7 (okC m) m.crs l)):=by
 refine ACalls.pure0 rfl ?_
 have hm1:=hm.nc
 refine CB (H:=Hint.none) (enM G) Tryz.func125 rfl (by kernel_rfl) (by kernel_rfl) (nLb (by kernel_rfl)) ?_
 show awp _ _ _ _ _ (EE _ [.tmp 4] _)
 simp -implicitDefEqProofs only [BC,BA,BI,A8,AY,BB,AO,AQ,AL,BD,AX,AC,AA,A7,AU,BM,BG,AZ,FV,BV,BR,BK,D6,CE,AB,EJ,BF,BN,↓reduceIte,Nat.reduceEqDiff,Nat.zero_add,oGs,bNf,enP,VQ,JZ,TA,bxM,DC AC9,UR,lLm]
 refine CW (fun h1 => ?_) (fun h1 => ?_)
 ·simp -implicitDefEqProofs only [BC,BA,BL,A8,CP,CJ,AY,BB,AO,AQ,AL,BD,AX,AC,AA,AU,BM,AZ,↓reduceIte,oGs,bNf]
  have:J7 (okC m) m.crs l=false:=by
   rw [← Bool.not_eq_true]; intro e
   have:=OC e
   simp at h1; omega
  exact ⟨by rw [this],_,rfl⟩
 have hlen:l.length=m.crs.length:=by simp at h1; omega
 simp -implicitDefEqProofs only [BC,BQ,BA,BO,A8,AY,BB,AO,AQ,AL,BD,AX,AC,AA,A7,AU,BH,BG,BV,BK,D6,AB,↓reduceIte,Nat.reduceEqDiff,Nat.zero_add,oGs,bNf,enP,VQ,JZ,DC AC9,UR,lLm]
 refine DR (fun n F H => ∃ i,n+i=m.crs.length∧F 1 = .sl s 1 (l.map encL)∧F 2 = .ptr h.length 0 0∧F 17 = .sl m.cm 3 (m.crs.map F7)∧F 18 = .int .i64 m.crs.length∧F 19 = .int .i64 (i:Nat)∧H[h.length]? = some (.live 2 [EN m])∧(∃ x,H=h ++ x)∧J7 (okC m) m.crs l=J7 (okC m) (m.crs.drop i) (l.drop i)) m.crs.length ⟨0,by simp,by simp -implicitDefEqProofs only [AA,BF,BN,↓reduceIte,Nat.reduceEqDiff],by simp -implicitDefEqProofs only [AA,↓reduceIte,Nat.reduceEqDiff],by simp -implicitDefEqProofs only [AA,↓reduceIte,Nat.reduceEqDiff],by simp -implicitDefEqProofs only [AA,↓reduceIte,Nat.reduceEqDiff],by simp -implicitDefEqProofs only [AA,↓reduceIte]; rfl,CY _ _,⟨_,rfl⟩,rfl⟩ ?_
 rintro n F H ⟨i,hi,f1,f2,f17,f18,f19,gm,hx,hf⟩
 simp -implicitDefEqProofs only [BC,BA,BI,A8,AY,BB,AO,AQ,AL,BD,AX,AC,AA,A7,BR,AB,DF,↓reduceIte,oGs,bNf,enP,f18,f19]
 refine CW (fun hc => ?_) (fun hc => ?_)
 ·have hi':i < m.crs.length:=by simpa using hc
  have hil:i < l.length:=by omega
  rw [VF (okC m) m.crs l i hi' hil] at hf
  have hcg:=hg.crs _ (List.getElem_mem hi')
  have hfs:=hg.full.szs hcg.here
  have hsl:=NF m m.crs[i].pts
  have hx1 : ∃ x,H ++ [ABlk.live 3 [F7 m.crs[i]]]=h ++ x:=by
   obtain ⟨x,rfl⟩:=hx
   exact ⟨_,List.append_assoc _ _ _⟩
  have hxl:=hl _ (List.getElem_mem hil)
  have gm1:(H ++ [ABlk.live 3 [F7 m.crs[i]]])[h.length]? = some (.live 2 [EN m]):=CX gm
  have gc1:=CY H (.live 3 [F7 m.crs[i]])
  have htwo:=hcg.two
  have hfour:=hcg.four
  have hpr:=hcg.prod
  simp -implicitDefEqProofs only [BC,BQ,BA,BO,A8,AY,BB,AO,AQ,AL,BD,AX,AC,E8,AA,A7,BX,BG,AZ,GG,BV,EP,CG,BZ,BU,CE,AB,DW,lMc,lMn,lAn,↓reduceIte,Nat.reduceEqDiff,oGs,bNf,enP,ZA,Option.getD_none,f2,f17,f19,D5 hi',FO AAX XK JX hi',ARS,AO8 _ _ [.str ⟨#[]⟩,.sl .nil 0 [],.sl .nil 0 []] rfl,ldM gm1,ldC gc1]
  refine (SQ G m _ _ hcg.here (by omega)).use ?_
  simp -implicitDefEqProofs only [BC,A8,AY,BB,AO,AQ,AL,BD,AX,AC,AA,A7,AZ,↓reduceIte,oGs,bNf]
  refine FD (by kernel_rfl) ?_
  simp -implicitDefEqProofs only [F9,EH,DX,EM,FP,FQ,JA,ED,JK,GV,GI,AO,AA,A7,BX,BV,BR,CG,D6,AB,lMc,lMn,lAn,↓reduceIte,Nat.reduceEqDiff,Nat.reduceAdd,oGs,enP,NH,JB,f1,D5 hil,DT LD hil,NV,lLm]
  refine ⟨_,SY G _ _ _ (fun n hn=>(hfs n hn).2) (by omega),?_⟩
  try simp -implicitDefEqProofs only [DX,FC,BI,A8,AA,A7,AB,EJ,↓reduceIte]
  refine CW (fun h2 => ?_) (fun h2 => ?_)
  ·simp -implicitDefEqProofs only [BC,BA,BL,A8,CP,D8,FB,CJ,AY,BB,AO,AQ,AL,BD,AX,AC,AA,AU,BM,AZ,↓reduceIte,oGs,bNf]
   have:okC m m.crs[i] l[i]=false:=by
    have:(l[i].l.length == IC (szs m m.crs[i].pts))=false:=by
     rw [beq_eq_false_iff_ne]; intro e; simp [e] at h2
    unfold okC; rw [this]; rfl
   exact ⟨by rw [hf,this]; rfl,hx1⟩
  have hbl:l[i].l.length=IC (szs m m.crs[i].pts):=by simp at h2; omega
  have hok:okC m m.crs[i] l[i]=RJ (fun k=>RU m m.crs[i] (MZ (szs m m.crs[i].pts) k)) 0 l[i].l:=by
   unfold okC; rw [beq_iff_eq.2 hbl]; rfl
  simp -implicitDefEqProofs only [BC,BQ,BA,BO,A8,AY,BB,AO,AQ,AL,BD,AX,AC,AA,A7,AU,BH,BG,BV,CG,D6,AB,↓reduceIte,Nat.reduceEqDiff,oGs,bNf,enP,NH,JB,f1,D5 hil,DT LD hil,NV,lLm]
  refine G9 2 (fun F' H'=>F' 1 = .sl s 1 (l.map encL)∧F' 2 = .ptr h.length 0 0∧F' 17 = .sl m.cm 3 (m.crs.map F7)∧F' 18 = .int .i64 m.crs.length∧F' 19 = .int .i64 (i:Nat)∧H'=H ++ [.live 3 [F7 m.crs[i]]]∧okC m m.crs[i] l[i]=true) (fun F' H'=>F' 4 = .bool false∧H'=H ++ [.live 3 [F7 m.crs[i]]]∧okC m m.crs[i] l[i]=false) ?_ ?_ ?_
  ·refine DR (fun n F' H' => ∃ k,n+k=l[i].l.length∧F' 1 = .sl s 1 (l.map encL)∧F' 2 = .ptr h.length 0 0∧F' 17 = .sl m.cm 3 (m.crs.map F7)∧F' 18 = .int .i64 m.crs.length∧F' 19 = .int .i64 (i:Nat)∧F' 6 = .ptr H.length 0 0∧F' 7 = .sl (nm (szs m m.crs[i].pts)) 1 ((szs m m.crs[i].pts).map IV)∧F' 38 = .sl l[i].m 1 (l[i].l.map encI)∧F' 39 = .int .i64 l[i].l.length∧F' 40 = .int .i64 (k:Nat)∧H'=H ++ [.live 3 [F7 m.crs[i]]]∧okC m m.crs[i] l[i]=RJ (fun k=>RU m m.crs[i] (MZ (szs m m.crs[i].pts) k)) k (l[i].l.drop k)) l[i].l.length ⟨0,by simp,by simp -implicitDefEqProofs only [AA,↓reduceIte,Nat.reduceEqDiff,f1],by simp -implicitDefEqProofs only [AA,↓reduceIte,Nat.reduceEqDiff,f2],by simp -implicitDefEqProofs only [AA,↓reduceIte,Nat.reduceEqDiff,f17],by simp -implicitDefEqProofs only [AA,↓reduceIte,Nat.reduceEqDiff,f18],by simp -implicitDefEqProofs only [AA,↓reduceIte,Nat.reduceEqDiff,f19],by simp -implicitDefEqProofs only [AA,↓reduceIte,Nat.reduceEqDiff],by simp -implicitDefEqProofs only [AA,↓reduceIte,Nat.reduceEqDiff],by simp -implicitDefEqProofs only [AA,↓reduceIte,Nat.reduceEqDiff],by simp -implicitDefEqProofs only [AA,↓reduceIte,Nat.reduceEqDiff],by simp -implicitDefEqProofs only [AA,↓reduceIte]; rfl,rfl,hok⟩ ?_
   clear f1 f2 f17 f18 f19
   rintro n' F H' ⟨k,hk,f1,f2,f17,f18,f19,f6,f7,f38,f39,f40,rfl,hr⟩
   simp -implicitDefEqProofs only [BC,BA,BI,A8,AY,BB,AO,AQ,AL,BD,AX,AC,AA,A7,BR,AB,DF,↓reduceIte,oGs,bNf,enP,f39,f40]
   refine CW (fun hc => ?_) (fun hc => ?_)
   ·have hk':k < l[i].l.length:=by simpa using hc
    rw [U8 _ _ _ hk'] at hr
    simp -implicitDefEqProofs only [BC,BQ,BA,BO,A8,AY,BB,AO,AQ,AL,BD,AX,AC,AA,A7,BG,AZ,BV,CG,AB,↓reduceIte,Nat.reduceEqDiff,oGs,bNf,enP,JH,f38,f40,D5 hk',DT ag3 hk',encI0]
    refine FD (by kernel_rfl) ?_
    simp -implicitDefEqProofs only [F9,EH,DX,EM,FP,FQ,ABB,GV,GI,AO,AA,A7,BX,BV,G6,AB,lMc,lMn,lAn,↓reduceIte,Nat.reduceEqDiff,Nat.reduceAdd,oGs,enP,f2,f6,f7,ldM gm1,ldC gc1]
    refine ⟨_,hT _ _ k _ (by omega) (by omega) hfs (by omega),?_⟩
    try simp -implicitDefEqProofs only []
    refine ⟨_,VY G m m.crs[i] _ _ _ hcg.here (TZ _ _ fun n hn=>(hfs n hn).1) (by omega) (by have:=hcg.num; omega),?_⟩
    try simp -implicitDefEqProofs only []
    refine ⟨_,TE G _ _ _,?_⟩
    try simp -implicitDefEqProofs only [DX,FC,BI,A8,AA,A7,AB,EX,↓reduceIte]
    cases hcb:countB l[i].l[k] (RU m m.crs[i] (MZ (szs m m.crs[i].pts) k))
    ·simp -implicitDefEqProofs only [BC,BA,BL,A8,CP,D8,MR,FB,C9,AY,BB,AO,AQ,AL,BD,AX,AC,AA,AU,BM,AZ,↓reduceIte,oGs,bNf]
     exact ⟨trivial,trivial,by rw [hr,hcb]; rfl⟩
    ·simp -implicitDefEqProofs only [BA,BO,A8,EF,ER,DU,AY,BB,AO,AQ,AL,BD,AX,AC,AA,A7,AU,BH,BG,BR,AB,DI,↓reduceIte,Nat.reduceEqDiff,oGs,bNt,bNf,enP,f40,wrap_succ (show k < 9223372036854775807 by omega)]
     exact ⟨n' - 1,by omega,k+1,by omega,f1,f2,f17,f18,f19,f6,f7,f38,f39,rfl,trivial,by rw [hr,hcb]; rfl⟩
   ·have hk' : ¬ k < l[i].l.length:=by simpa using hc
    simp -implicitDefEqProofs only [DL,EC,KG,EW,AA,↓reduceIte,Nat.reduceEqDiff]
    exact ⟨f1,f2,f17,f18,f19,trivial,by rw [hr,List.drop_eq_nil_of_le (by omega)]; rfl⟩
  ·rintro F' H' ⟨g1,g2,g17,g18,g19,rfl,hr⟩
   simp -implicitDefEqProofs only [BA,A8,EF,EY,ER,AY,BB,AO,AQ,AL,BD,AX,AC,AA,A7,AU,BH,BG,BR,AB,DI,↓reduceIte,Nat.reduceEqDiff,oGs,bNf,enP,g19,wrap_succ (show i < 9223372036854775807 by omega)]
   exact ⟨n - 1,by omega,i+1,by omega,g1,g2,g17,g18,rfl,gm1,hx1,by rw [hf,hr]; rfl⟩
  ·rintro F' H' ⟨g4,rfl,hr⟩
   simp -implicitDefEqProofs only [CP,D8,FB,CJ,g4]
   exact ⟨by rw [hf,hr]; rfl,hx1⟩
 ·have hi' : ¬ i < m.crs.length:=by simpa using hc
  simp -implicitDefEqProofs only [BC,BA,BL,DL,A8,EC,EY,EW,CJ,AY,BB,AO,AQ,AL,BD,AX,AC,AA,AU,BM,AZ,↓reduceIte,oGs,bNf]
  exact ⟨by rw [hf,X8 (okC m) _ _ i (by omega) (by omega)],hx⟩
def KY (m:Mo) (v:Cvr):Bool:=(GN m == 0) && J7 okP m.pts v.pts && J7 (okC m) m.crs v.crs && IR v.sam && IR v.ill
theorem AAJ (n:Int):countB n true=IR n:=by unfold countB; simp
theorem ANV (G:Nat→AV) (hG:GOk G) (hT:Q5 G) (m:Mo) (v:Cvr) (hm:MoOk m) (hv:CvOk v) (h:Hp):PCall (En G) 66 [.agg (EN m),.agg (FZ v)] h (.bool (KY m v)):=by
 refine ACalls.pure0 rfl ?_
 refine CB (H:=Hint.none) (enM G) Tryz.func66 rfl (by kernel_rfl) (by kernel_rfl) (nLb (by kernel_rfl)) ?_
 show awp _ _ _ _ _ (EE _ [.tmp 4] _)
 have gm:(h ++ [ABlk.live 2 [EN m]] ++ [ABlk.live 4 [FZ v]])[h.length]? = some (.live 2 [EN m]):=CX (CY _ _)
 have gv:=CY (h ++ [ABlk.live 2 [EN m]]) (.live 4 [FZ v])
 have hx : ∃ x,h ++ [ABlk.live 2 [EN m]] ++ [ABlk.live 4 [FZ v]]=h ++ x:=⟨_,List.append_assoc _ _ _⟩
 simp -implicitDefEqProofs only [BC,BA,A8,AY,BB,AO,AQ,AL,BD,AX,AC,AA,A7,AU,BM,AZ,FV,BV,CE,BF,BN,↓reduceIte,Nat.reduceEqDiff,oGs,bNf,enP,bxM,bxV]
 generalize h ++ [ABlk.live 2 [EN m]] ++ [ABlk.live 4 [FZ v]]=H at gm gv hx ⊢
 generalize (h ++ [ABlk.live 2 [EN m]]).length=vb at gv ⊢
 have l0:DZ Tryz.prog H 26 (.ptr vb 0 0)=some (.sl v.pm 1 (v.pts.map encL)):=by rw [DJ NZ gv (row:=FZ v) rfl,AIL]
 have l1:DZ Tryz.prog H 26 (.ptr vb 0 1)=some (.sl v.cm 1 (v.crs.map encL)):=by rw [DJ NZ gv (row:=FZ v) rfl,AET]
 have l2:DZ Tryz.prog H 3 (.ptr vb 0 2)=some (.int .i64 v.sam):=by rw [DJ ag3 gv (row:=FZ v) rfl,AMJ]
 have l3:DZ Tryz.prog H 3 (.ptr vb 0 3)=some (.int .i64 v.ill):=by rw [DJ ag3 gv (row:=FZ v) rfl,AMI]
 simp -implicitDefEqProofs only [AY,AO,AQ,AL,BD,AX,AC,AA,A7,BX,BZ,BU,AB,lMc,lMn,lAn,↓reduceIte,oGs,bNf,ldM gm]
 refine (QG G hG m hm _).use ?_
 simp -implicitDefEqProofs only [AY,BJ,BP,CO,AO,AQ,AL,BD,AX,AC,AA,A7,AU,BH,BG,BR,AB,DY,↓reduceIte,oGs,bNf,enP]
 cases h1:(GN m == 0)
 ·simp -implicitDefEqProofs only [BL,A8,CJ,AY,BB,BJ,BP,CO,H7,AO,AQ,AL,BD,AX,AC,AA,EQ,A7,AU,BM,BG,AZ,CQ,DK,↓reduceIte,Nat.reduceEqDiff,oGs,bNf]
  exact ⟨by unfold KY; rw [h1]; rfl,hx⟩
 have hg:=PZ (beq_iff_eq.1 h1)
 simp -implicitDefEqProofs only [BJ,BP,CO,FY,AO,AQ,AL,BD,AX,AC,AA,A7,BX,BV,BK,BZ,BU,AB,lMc,lMn,lAn,↓reduceIte,Nat.reduceEqDiff,Nat.add_zero,oGs,bNf,enP,L9,ldM gm,l0]
 refine (ANW G m v.pts v.pm _ hm hv.eachP).use ?_
 simp -implicitDefEqProofs only [AY,BJ,BP,CO,AO,AQ,AL,BD,AX,AC,AA,A7,AU,BM,BG,CQ,DN,↓reduceIte,Nat.reduceEqDiff,oGs,bNf]
 cases h2:J7 okP m.pts v.pts
 ·simp -implicitDefEqProofs only [BL,A8,CJ,AY,BB,BJ,BP,CO,H7,AO,AQ,AL,BD,AX,AC,AA,EQ,A7,AU,BM,BG,AZ,CQ,DK,↓reduceIte,Nat.reduceEqDiff,oGs,bNf]
  exact ⟨by unfold KY; rw [h1,h2]; rfl,hx⟩
 simp -implicitDefEqProofs only [BJ,BP,CO,FY,AO,AQ,AL,BD,AX,AC,AA,A7,BX,BV,BK,BZ,BU,AB,lMc,lMn,lAn,↓reduceIte,Nat.reduceEqDiff,Nat.zero_add,oGs,bNf,enP,L8,ldM gm,l1]
 refine (ANX G hT m v.crs v.cm _ hm hg hv.eachC).use ?_
 simp -implicitDefEqProofs only [AY,BJ,BP,CO,AO,AQ,AL,BD,AX,AC,AA,A7,AU,BM,BG,CQ,DN,↓reduceIte,Nat.reduceEqDiff,oGs,bNf]
 cases h3:J7 (okC m) m.crs v.crs
 ·simp -implicitDefEqProofs only [BL,A8,CJ,AY,BB,BJ,BP,CO,H7,AO,AQ,AL,BD,AX,AC,AA,EQ,A7,AU,BM,BG,AZ,CQ,DK,↓reduceIte,Nat.reduceEqDiff,oGs,bNf]
  exact ⟨by unfold KY; rw [h1,h2,h3]; rfl,hx⟩
 simp -implicitDefEqProofs only [BJ,BP,CO,FY,AO,AQ,AL,BD,AX,AC,AA,A7,AU,BX,BM,BV,BK,BZ,BU,AB,lMc,lMn,lAn,↓reduceIte,Nat.reduceEqDiff,Nat.zero_add,oGs,bNf,enP,WV,l2]
 refine (TE G _ _ _).use ?_
 simp -implicitDefEqProofs only [AY,BJ,BP,CO,AO,AQ,AL,BD,AX,AC,AA,A7,AU,BM,BG,CQ,DN,↓reduceIte,Nat.reduceEqDiff,oGs,bNf,AAJ]
 cases h4:IR v.sam
 ·simp -implicitDefEqProofs only [BL,A8,CJ,AY,BB,BJ,BP,CO,H7,AO,AQ,AL,BD,AX,AC,AA,EQ,A7,AU,BM,AZ,CQ,DK,↓reduceIte,Nat.reduceEqDiff,oGs,bNf]
  exact ⟨by unfold KY; rw [h1,h2,h3,h4]; rfl,hx⟩
 simp -implicitDefEqProofs only [BJ,BP,CO,FY,AO,AQ,AL,BD,AX,AC,AA,A7,AU,BX,BM,BV,BK,BZ,BU,AB,lMc,lMn,lAn,↓reduceIte,Nat.reduceEqDiff,Nat.zero_add,oGs,bNf,enP,WU,l3]
 refine (TE G _ _ _).use ?_
 simp -implicitDefEqProofs only [BL,A8,CJ,AY,BB,AO,AQ,AL,BD,AX,AC,AA,A7,AU,BM,AZ,CQ,DN,↓reduceIte,Nat.reduceEqDiff,oGs,bNf,AAJ]
 exact ⟨by unfold KY; rw [h1,h2,h3,h4]; rfl,hx⟩
structure TwoV (h H:Hp) (m:Mo) (v:Cvr) (vb:Nat):Prop where
 gm:H[h.length]? = some (.live 2 [EN m])
 gv:H[vb]? = some (.live 4 [FZ v])
 hx : ∃ x,H=h ++ x
theorem TwoV.mk' (h:Hp) (m:Mo) (v:Cvr):TwoV h (h ++ [.live 2 [EN m]] ++ [.live 4 [FZ v]]) m v (h ++ [ABlk.live 2 [EN m]]).length:=⟨CX (CY _ _),CY _ _,⟨_,List.append_assoc _ _ _⟩⟩
section
variable {h H:Hp} {m:Mo} {v:Cvr} {vb:Nat} (t:TwoV h H m v vb)
include t
theorem TwoV.m0:DZ Tryz.prog H 22 (.ptr h.length 0 0)=some (.sl m.pm 6 (m.pts.map FX)):=by rw [DJ TS t.gm (row:=EN m) rfl,OO]
theorem TwoV.m1:DZ Tryz.prog H 23 (.ptr h.length 0 1)=some (.sl m.cm 3 (m.crs.map F7)):=by rw [DJ AC9 t.gm (row:=EN m) rfl,UR]
theorem TwoV.l0:DZ Tryz.prog H 26 (.ptr vb 0 0)=some (.sl v.pm 1 (v.pts.map encL)):=by rw [DJ NZ t.gv (row:=FZ v) rfl,AIL]
theorem TwoV.l1:DZ Tryz.prog H 26 (.ptr vb 0 1)=some (.sl v.cm 1 (v.crs.map encL)):=by rw [DJ NZ t.gv (row:=FZ v) rfl,AET]
theorem TwoV.l2:DZ Tryz.prog H 3 (.ptr vb 0 2)=some (.int .i64 v.sam):=by rw [DJ ag3 t.gv (row:=FZ v) rfl,AMJ]
theorem TwoV.l3:DZ Tryz.prog H 3 (.ptr vb 0 3)=some (.int .i64 v.ill):=by rw [DJ ag3 t.gv (row:=FZ v) rfl,AMI]
end
theorem ACU (n:Int) (may:Bool):countB n may = !(!IR n || (decide (n > 0) && !may)):=by
 unfold countB
 cases hw:IR n
 ·rfl
 ·have h0:0≤n:=by
   unfold IR at hw; simp at hw; exact hw.1
  cases may
  ·have:(n == 0) = !decide (n > 0):=by rw [Bool.eq_iff_iff]; simp; omega
   rw [this]; cases decide (n > 0) <;> rfl
  ·cases decide (n > 0) <;> rfl
set_option maxHeartbeats 1000000 in
theorem AQF (G:Nat→AV) (m:Mo) (v:Cvr) (hm:MoOk m) (hv:CvOk v) (h:Hp):PCall (En G) 39 [.agg (EN m),.agg (FZ v)] h (.bool (KY m v)):=by
 refine ACalls.pure0 rfl ?_
 have hm1:=hm.np
 have hm2:=hm.nc
 refine CB (H:=Hint.none) (enM G) Tryz.func39 rfl (by kernel_rfl) (by kernel_rfl) (nLb (by kernel_rfl)) ?_
 show awp _ _ _ _ _ (EE _ [.tmp 4] _)
 have t:=TwoV.mk' h m v
 simp -implicitDefEqProofs only [BC,BA,A8,AY,BB,AO,AQ,AL,BD,AX,AC,AA,A7,AU,BM,AZ,FV,BV,CE,BF,BN,↓reduceIte,Nat.reduceEqDiff,oGs,bNf,enP,bxM,bxV]
 generalize h ++ [ABlk.live 2 [EN m]] ++ [ABlk.live 4 [FZ v]]=H at t ⊢
 generalize (h ++ [ABlk.live 2 [EN m]]).length=vb at t ⊢
 have hlp:m.pts.length≠v.pts.length→J7 okP m.pts v.pts=false:=fun hne=>by
  rw [← Bool.not_eq_true]; exact fun e=>hne (OC e)
 have hlc:m.crs.length≠v.crs.length→J7 (okC m) m.crs v.crs=false:=fun hne=>by
  rw [← Bool.not_eq_true]; exact fun e=>hne (OC e)
 simp -implicitDefEqProofs only [AY,AO,AQ,AL,BD,AX,AC,AA,A7,BX,BZ,BU,AB,lMc,lMn,lAn,↓reduceIte,oGs,bNf,ldM t.gm]
 refine (Y8 G m hm _).use ?_
 simp -implicitDefEqProofs only [AY,BJ,BP,CO,AO,AQ,AL,BD,AX,AC,AA,A7,AU,BH,BG,BR,AB,EJ,↓reduceIte,oGs,bNf,enP,bne]
 cases h1:(GN m == 0)
 ·simp -implicitDefEqProofs only [BC,BA,BL,BI,A8,CP,CJ,C9,AY,BB,BJ,BP,CO,FK,AO,AQ,AL,BD,AX,AC,AA,EQ,A7,AU,BM,BG,AZ,CQ,DN,↓reduceIte,Nat.reduceEqDiff,oGs,bNf]
  exact ⟨by unfold KY; rw [h1]; rfl,t.hx⟩
 have hg:=PZ (beq_iff_eq.1 h1)
 simp -implicitDefEqProofs only [AY,BJ,BP,CO,EK,AO,AQ,AL,BD,AX,AC,AA,A7,AU,BM,BG,CQ,DK,BV,BR,BK,D6,AB,EJ,↓reduceIte,Nat.reduceEqDiff,Nat.add_zero,oGs,bNt,bNf,enP,QI,IX,TA,L9,t.m0,t.l0,lLm,bne]
 cases h2:((v.pts.length:Int) == (m.pts.length:Int))
 ·simp -implicitDefEqProofs only [BC,BA,BL,BI,A8,CP,CJ,C9,AY,BB,BJ,BP,CO,FK,AO,AQ,AL,BD,AX,AC,AA,EQ,A7,AU,BM,BG,AZ,CQ,DN,↓reduceIte,Nat.reduceEqDiff,oGs,bNf]
  have:=hlp (by simp at h2; omega)
  exact ⟨by unfold KY; rw [this]; simp,t.hx⟩
 have h2':v.pts.length=m.pts.length:=by simp at h2; omega
 simp -implicitDefEqProofs only [AY,BJ,BP,CO,EK,AO,AQ,AL,BD,AX,AC,AA,A7,AU,BM,BG,CQ,DK,BV,BR,BK,D6,AB,EJ,↓reduceIte,Nat.reduceEqDiff,Nat.zero_add,oGs,bNt,bNf,enP,VQ,JZ,TA,L8,t.m1,t.l1,lLm,bne]
 cases h3:((v.crs.length:Int) == (m.crs.length:Int))
 ·simp -implicitDefEqProofs only [BC,BA,BL,BI,A8,CP,CJ,C9,AY,BB,BJ,BP,CO,FK,AO,AQ,AL,BD,AX,AC,AA,EQ,A7,AU,BM,BG,AZ,CQ,DN,↓reduceIte,Nat.reduceEqDiff,oGs,bNf]
  have:=hlc (by simp at h3; omega)
  exact ⟨by unfold KY; rw [this]; simp,t.hx⟩
 have h3':v.crs.length=m.crs.length:=by simp at h3; omega
 simp -implicitDefEqProofs only [BJ,BP,CO,EK,AO,AQ,AL,BD,AX,AC,AA,A7,BX,BV,BK,BZ,BU,AB,lMc,lMn,lAn,↓reduceIte,Nat.reduceEqDiff,Nat.zero_add,oGs,bNt,bNf,enP,WV,t.l2]
 refine (SL G _ _).use ?_
 simp -implicitDefEqProofs only [AY,BJ,BP,CO,EK,AO,AQ,AL,BD,AX,AC,AA,A7,AU,BM,BG,CQ,DK,G6,AB,EX,↓reduceIte,Nat.reduceEqDiff,oGs,bNf]
 cases h4:IR v.sam
 ·simp -implicitDefEqProofs only [BC,BA,BL,BI,A8,CP,CJ,C9,AY,BB,BJ,BP,CO,FK,AO,AQ,AL,BD,AX,AC,AA,EQ,A7,AU,BM,AZ,CQ,DN,↓reduceIte,Nat.reduceEqDiff,oGs,bNf]
  exact ⟨by unfold KY; rw [h4]; simp,t.hx⟩
 simp -implicitDefEqProofs only [BJ,BP,CO,EK,AO,AQ,AL,BD,AX,AC,AA,A7,BX,BV,BK,BZ,BU,AB,lMc,lMn,lAn,↓reduceIte,Nat.reduceEqDiff,Nat.zero_add,oGs,bNt,bNf,enP,WU,t.l3]
 refine (SL G _ _).use ?_
 simp -implicitDefEqProofs only [BI,A8,AY,BB,BJ,BP,CO,EK,AO,AQ,AL,BD,AX,AC,AA,A7,AU,BM,CQ,DK,G6,AB,EX,↓reduceIte,Nat.reduceEqDiff,oGs,bNf]
 cases h5:IR v.ill
 ·simp -implicitDefEqProofs only [BC,BA,BL,A8,CP,CJ,C9,AY,BB,AO,AQ,AL,BD,AX,AC,AA,AU,BM,AZ,↓reduceIte,oGs,bNf]
  exact ⟨by unfold KY; rw [h5]; simp,t.hx⟩
 have hfb:KY m v=(J7 okP m.pts v.pts && J7 (okC m) m.crs v.crs):=by unfold KY; rw [h1,h4,h5]; simp
 rw [hfb]
 simp -implicitDefEqProofs only [BC,BQ,BA,BO,A8,DU,AY,BB,AO,AQ,AL,BD,AX,AC,AU,BH,AZ,oGs,bNt,bNf]
 refine G9 0 (fun F H'=>F 2 = .ptr h.length 0 0∧F 3 = .ptr vb 0 0∧H'=H∧J7 okP m.pts v.pts=true) (fun F H'=>F 4 = .bool false∧H'=H∧J7 okP m.pts v.pts=false) ?_ ?_ ?_
 ·refine DR (fun n F H' => ∃ i,n+i=m.pts.length∧F 2 = .ptr h.length 0 0∧F 3 = .ptr vb 0 0∧F 5 = .int .i64 (i:Nat)∧H'=H∧J7 okP m.pts v.pts=J7 okP (m.pts.drop i) (v.pts.drop i)) m.pts.length ⟨0,by simp,by simp -implicitDefEqProofs only [AA,↓reduceIte,Nat.reduceEqDiff],by simp -implicitDefEqProofs only [AA,↓reduceIte,Nat.reduceEqDiff],by simp -implicitDefEqProofs only [AA,↓reduceIte]; rfl,rfl,rfl⟩ ?_
  rintro n F H' ⟨i,hi,f2,f3,f5,rfl,hf⟩
  simp -implicitDefEqProofs only [BC,BA,BI,A8,AY,BB,AO,AQ,AL,BD,AX,AC,AA,A7,BG,BV,BR,BK,D6,AB,DF,↓reduceIte,Nat.reduceEqDiff,Nat.add_zero,oGs,bNf,enP,QI,IX,f2,f5,t.m0,lLm]
  refine CW (fun hc => ?_) (fun hc => ?_)
  ·have hi':i < m.pts.length:=by simpa using hc
   have hil:i < v.pts.length:=by omega
   rw [VF okP m.pts v.pts i hi' hil] at hf
   have hxl:=hv.eachP _ (List.getElem_mem hil)
   simp -implicitDefEqProofs only [BC,BQ,BO,A8]
   refine FD (by kernel_rfl) ?_
   simp -implicitDefEqProofs only [F9,EH,DX,FC,EM,FP,FQ,JA,EG,ED,JK,BI,A8,AO,AA,A7,BV,BR,BK,CG,D6,AB,EJ,↓reduceIte,Nat.reduceEqDiff,Nat.reduceAdd,Nat.add_zero,Nat.zero_add,oGs,enP,PY,IX,NH,L9,Q9,IW,JB,f2,f3,f5,t.m0,t.l0,D5 hil,D5 hi',DT LD hil,NV,DT P6 hi',MC,lLm]
   refine CW (fun h6 => ?_) (fun h6 => ?_)
   ·simp -implicitDefEqProofs only [BC,BA,BL,A8,CP,D8,MR,FB,AY,BB,AO,AQ,AL,BD,AX,AC,AA,AU,BM,AZ,↓reduceIte,oGs,bNf]
    have:okP m.pts[i] v.pts[i]=false:=by
     have:(v.pts[i].l.length == m.pts[i].bins.length)=false:=by
      rw [beq_eq_false_iff_ne]; intro e; simp [e] at h6
     unfold okP; rw [this]; rfl
    exact ⟨trivial,trivial,by rw [hf,this]; rfl⟩
   have hbl:v.pts[i].l.length=m.pts[i].bins.length:=by simp at h6; omega
   have hok:okP m.pts[i] v.pts[i]=RJ (fun k=>kindOf m.pts[i] k == 0) 0 v.pts[i].l:=by
    unfold okP; rw [beq_iff_eq.2 hbl]; rfl
   simp -implicitDefEqProofs only [BC,BQ,BA,BO,A8,AY,BB,AO,AQ,AL,BD,AX,AC,AU,BH,AZ,oGs,bNf]
   refine G9 2 (fun F' H=>F' 2 = .ptr h.length 0 0∧F' 3 = .ptr vb 0 0∧F' 5 = .int .i64 (i:Nat)∧H=H'∧okP m.pts[i] v.pts[i]=true) (fun F' H=>F' 4 = .bool false∧H=H'∧okP m.pts[i] v.pts[i]=false) ?_ ?_ ?_
   ·refine DR (fun n F' H => ∃ k,n+k=v.pts[i].l.length∧F' 2 = .ptr h.length 0 0∧F' 3 = .ptr vb 0 0∧F' 5 = .int .i64 (i:Nat)∧F' 6 = .int .i64 (k:Nat)∧H=H'∧okP m.pts[i] v.pts[i]=RJ (fun k=>kindOf m.pts[i] k == 0) k (v.pts[i].l.drop k)) v.pts[i].l.length ⟨0,by simp,by simp -implicitDefEqProofs only [AA,↓reduceIte,Nat.reduceEqDiff,f2],by simp -implicitDefEqProofs only [AA,↓reduceIte,Nat.reduceEqDiff,f3],by simp -implicitDefEqProofs only [AA,↓reduceIte,Nat.reduceEqDiff,f5],by simp -implicitDefEqProofs only [AA,↓reduceIte]; rfl,rfl,hok⟩ ?_
    clear f2 f3 f5
    rintro n' F H' ⟨k,hk,f2,f3,f5,f6,rfl,hr⟩
    simp -implicitDefEqProofs only [BC,BA,BI,A8,AY,BB,AO,AQ,AL,BD,AX,AC,AA,A7,BG,BV,BR,BK,CG,D6,AB,DF,↓reduceIte,Nat.reduceEqDiff,Nat.add_zero,oGs,bNf,enP,NH,L9,JB,f3,f5,f6,t.l0,D5 hil,DT LD hil,NV,lLm]
    refine CW (fun hc => ?_) (fun hc => ?_)
    ·have hk':k < v.pts[i].l.length:=by simpa using hc
     have hkb:k < m.pts[i].bins.length:=by omega
     have hkd:kindOf m.pts[i] k=(m.pts[i].bins[k]).kind:=by unfold kindOf; rw [List.getElem?_eq_getElem hkb]
     rw [U8 _ _ _ hk',hkd,ACU] at hr
     simp -implicitDefEqProofs only [BC,BQ,BA,BO,A8,AY,BB,AO,AQ,AL,BD,AX,AC,AA,A7,BX,BG,AZ,BV,BK,CG,BZ,BU,AB,lMc,lMn,lAn,↓reduceIte,Nat.reduceEqDiff,Nat.add_zero,oGs,bNf,enP,NH,L9,JH,f3,f5,f6,t.l0,D5 hil,DT LD hil,NV,D5 hk',DT ag3 hk',encI0]
     refine (SL G _ _).use ?_
     simp -implicitDefEqProofs only [AY,BJ,BP,CO,AO,AQ,AL,BD,AX,AC,AA,A7,BG,G6,AB,EX,↓reduceIte,oGs,bNf]
     cases hw:IR v.pts[i].l[k]
     ·simp -implicitDefEqProofs only [BC,BA,BL,BI,A8,CP,D8,MR,FB,C9,AY,BB,BJ,BP,CO,FK,QN,AO,AQ,AL,BD,AX,AC,AA,EQ,A7,AU,BM,AZ,CQ,DN,↓reduceIte,Nat.reduceEqDiff,oGs,bNf]
      exact ⟨trivial,trivial,by rw [hr,hw]; rfl⟩
     rw [hw] at hr
     simp -implicitDefEqProofs only [BJ,BP,CO,EK,AO,AQ,AL,BD,AX,AC,AA,A7,AU,BH,BG,BR,AB,EZ,↓reduceIte,Nat.reduceEqDiff,oGs,bNt,bNf,enP]
     cases hp:decide (v.pts[i].l[k] > 0)
     ·simp -implicitDefEqProofs only [BA,BO,BI,A8,EF,ER,DU,AY,BB,BJ,BP,CO,EK,H7,AO,AQ,AL,BD,AX,AC,AA,EQ,A7,AU,BH,BM,BG,AZ,CQ,DK,BR,AB,DI,↓reduceIte,Nat.reduceEqDiff,oGs,bNf,enP,f6,wrap_succ (show k < 9223372036854775807 by omega)]
      exact ⟨n' - 1,by omega,k+1,by omega,f2,f3,f5,rfl,trivial,by rw [hr,hp]; rfl⟩
     rw [hp] at hr
     simp -implicitDefEqProofs only [BI,A8,AY,BB,BJ,BP,CO,FY,EK,AO,AQ,AL,BD,AX,AC,AA,A7,AU,BH,BM,BG,CQ,DN,DK,BV,BR,BK,CG,AB,EJ,↓reduceIte,Nat.reduceEqDiff,Nat.add_zero,Nat.zero_add,oGs,bNf,enP,PY,IX,WQ,IW,MW,f2,f5,f6,t.m0,D5 hi',DT P6 hi',MC,D5 hkb,DT ag3 hkb,UT,bne]
     cases hz:(m.pts[i].bins[k].kind == 0)
     ·simp -implicitDefEqProofs only [BC,BA,BL,A8,CP,D8,MR,FB,C9,AY,BB,AO,AQ,AL,BD,AX,AC,AA,AU,BM,AZ,↓reduceIte,oGs,bNf]
      exact ⟨trivial,trivial,by rw [hr,hz]; rfl⟩
     ·simp -implicitDefEqProofs only [BA,BO,A8,EF,ER,DU,AY,BB,AO,AQ,AL,BD,AX,AC,AA,A7,AU,BH,BG,AZ,BR,AB,DI,↓reduceIte,Nat.reduceEqDiff,oGs,bNt,bNf,enP,f6,wrap_succ (show k < 9223372036854775807 by omega)]
      exact ⟨n' - 1,by omega,k+1,by omega,f2,f3,f5,rfl,trivial,by rw [hr,hz]; rfl⟩
    ·have hk' : ¬ k < v.pts[i].l.length:=by simpa using hc
     simp -implicitDefEqProofs only [DL,EC,KG,EW,AA,↓reduceIte,Nat.reduceEqDiff]
     exact ⟨f2,f3,f5,trivial,by rw [hr,List.drop_eq_nil_of_le (by omega)]; rfl⟩
   ·rintro F' H' ⟨g2,g3,g5,rfl,hr⟩
    simp -implicitDefEqProofs only [BA,A8,EF,EY,ER,AY,BB,AO,AQ,AL,BD,AX,AC,AA,A7,AU,BH,BG,AZ,BR,AB,DI,↓reduceIte,Nat.reduceEqDiff,oGs,bNf,enP,g5,wrap_succ (show i < 9223372036854775807 by omega)]
    exact ⟨n - 1,by omega,i+1,by omega,g2,g3,rfl,trivial,by rw [hf,hr]; rfl⟩
   ·rintro F' H' ⟨g4,rfl,hr⟩
    simp -implicitDefEqProofs only [CP,D8,MR,FB,g4]
    exact ⟨trivial,trivial,by rw [hf,hr]; rfl⟩
  ·have hi' : ¬ i < m.pts.length:=by simpa using hc
   simp -implicitDefEqProofs only [DL,EC,KG,EW,AA,↓reduceIte,Nat.reduceEqDiff]
   exact ⟨f2,f3,trivial,by rw [hf,X8 okP _ _ i (by omega) (by omega)]⟩
 ·rintro F H' ⟨f2,f3,rfl,hfp⟩
  rw [hfp,Bool.true_and]
  simp -implicitDefEqProofs only [BC,BQ,BA,A8,EY,AY,BB,AO,AQ,AL,BD,AX,AC,AU,BH,AZ,↓reduceIte,oGs,bNf]
  refine DR (fun n F H => ∃ i,n+i=m.crs.length∧F 2 = .ptr h.length 0 0∧F 3 = .ptr vb 0 0∧F 8 = .int .i64 (i:Nat)∧H=H'∧J7 (okC m) m.crs v.crs=J7 (okC m) (m.crs.drop i) (v.crs.drop i)) m.crs.length ⟨0,by simp,by simp -implicitDefEqProofs only [AA,↓reduceIte,Nat.reduceEqDiff,f2],by simp -implicitDefEqProofs only [AA,↓reduceIte,Nat.reduceEqDiff,f3],by simp -implicitDefEqProofs only [AA,↓reduceIte]; rfl,rfl,rfl⟩ ?_
  clear f2 f3
  rintro n F H' ⟨i,hi,f2,f3,f8,rfl,hf⟩
  simp -implicitDefEqProofs only [BC,BA,BI,A8,AY,BB,AO,AQ,AL,BD,AX,AC,AA,A7,BG,BV,BR,BK,D6,AB,DF,↓reduceIte,Nat.reduceEqDiff,Nat.zero_add,oGs,bNf,enP,VQ,JZ,f2,f8,t.m1,lLm]
  refine CW (fun hc => ?_) (fun hc => ?_)
  ·have hi':i < m.crs.length:=by simpa using hc
   have hil:i < v.crs.length:=by omega
   rw [VF (okC m) m.crs v.crs i hi' hil] at hf
   have hxl:=hv.eachC _ (List.getElem_mem hil)
   have hcg:=hg.crs _ (List.getElem_mem hi')
   have hfs:=hg.full.szs hcg.here
   have htwo:=hcg.two
   have hfour:=hcg.four
   have hpr:=hcg.prod
   have hnum:=hcg.num
   have hmin:min (IC (szs m m.crs[i].pts):Int) 1000=(IC (szs m m.crs[i].pts):Int):=by omega
   simp -implicitDefEqProofs only [BC,BQ,BO,A8]
   refine FD (by kernel_rfl) ?_
   simp -implicitDefEqProofs only [F9,EH,DX,EM,FP,FQ,JA,EG,ED,JK,GV,GI,AO,AA,A7,BX,BV,BR,BK,CG,D6,AB,lMc,lMn,lAn,↓reduceIte,Nat.reduceEqDiff,Nat.reduceAdd,Nat.zero_add,oGs,enP,ZA,JZ,NH,L8,JB,f2,f3,f8,t.m1,t.l1,ldM t.gm,D5 hil,D5 hi',DT LD hil,NV,FO AAX XK JX hi',lLm]
   refine ⟨_,ZL G m m.crs[i] _ hcg.here hg.full (by omega),?_⟩
   rw [hmin]
   try simp -implicitDefEqProofs only [DX,FC,BI,A8,AA,A7,AB,EJ,↓reduceIte]
   refine CW (fun h6 => ?_) (fun h6 => ?_)
   ·simp -implicitDefEqProofs only [BC,BA,BL,A8,CP,D8,FB,CJ,AY,BB,AO,AQ,AL,BD,AX,AC,AA,AU,BM,AZ,↓reduceIte,oGs,bNf]
    have:okC m m.crs[i] v.crs[i]=false:=by
     have:(v.crs[i].l.length == IC (szs m m.crs[i].pts))=false:=by
      rw [beq_eq_false_iff_ne]; intro e; simp [e] at h6
     unfold okC; rw [this]; rfl
    exact ⟨by rw [hf,this]; rfl,t.hx⟩
   have hbl:v.crs[i].l.length=IC (szs m m.crs[i].pts):=by simp at h6; omega
   have hok:okC m m.crs[i] v.crs[i]=RJ (fun k=>RU m m.crs[i] (MZ (szs m m.crs[i].pts) k)) 0 v.crs[i].l:=by
    unfold okC; rw [beq_iff_eq.2 hbl]; rfl
   simp -implicitDefEqProofs only [BC,BQ,BA,BO,A8,AY,BB,AO,AQ,AL,BD,AX,AC,AU,BH,AZ,oGs,bNf]
   refine G9 6 (fun F' H=>F' 2 = .ptr h.length 0 0∧F' 3 = .ptr vb 0 0∧F' 8 = .int .i64 (i:Nat)∧H=H'∧okC m m.crs[i] v.crs[i]=true) (fun F' H=>F' 4 = .bool false∧H=H'∧okC m m.crs[i] v.crs[i]=false) ?_ ?_ ?_
   ·refine DR (fun n F' H => ∃ k,n+k=v.crs[i].l.length∧F' 2 = .ptr h.length 0 0∧F' 3 = .ptr vb 0 0∧F' 8 = .int .i64 (i:Nat)∧F' 9 = .int .i64 (k:Nat)∧H=H'∧okC m m.crs[i] v.crs[i]=RJ (fun k=>RU m m.crs[i] (MZ (szs m m.crs[i].pts) k)) k (v.crs[i].l.drop k)) v.crs[i].l.length ⟨0,by simp,by simp -implicitDefEqProofs only [AA,↓reduceIte,Nat.reduceEqDiff,f2],by simp -implicitDefEqProofs only [AA,↓reduceIte,Nat.reduceEqDiff,f3],by simp -implicitDefEqProofs only [AA,↓reduceIte,Nat.reduceEqDiff,f8],by simp -implicitDefEqProofs only [AA,↓reduceIte]; rfl,rfl,hok⟩ ?_
    clear f2 f3 f8
    rintro n' F H' ⟨k,hk,f2,f3,f8,f9,rfl,hr⟩
    simp -implicitDefEqProofs only [BC,BA,BI,A8,AY,BB,AO,AQ,AL,BD,AX,AC,AA,A7,BG,BV,BR,BK,CG,D6,AB,DF,↓reduceIte,Nat.reduceEqDiff,Nat.zero_add,oGs,bNf,enP,NH,L8,JB,f3,f8,f9,t.l1,D5 hil,DT LD hil,NV,lLm]
    refine CW (fun hc => ?_) (fun hc => ?_)
    ·have hk':k < v.crs[i].l.length:=by simpa using hc
     rw [U8 _ _ _ hk',ACU] at hr
     simp -implicitDefEqProofs only [BC,BQ,BA,BO,A8,AY,BB,AO,AQ,AL,BD,AX,AC,AA,A7,BG,AZ,BV,BK,CG,AB,↓reduceIte,Nat.reduceEqDiff,Nat.zero_add,oGs,bNf,enP,NH,L8,JH,f3,f8,f9,t.l1,D5 hil,DT LD hil,NV,D5 hk',DT ag3 hk',encI0]
     refine FD (by kernel_rfl) ?_
     simp -implicitDefEqProofs only [F9,EH,DX,EM,FP,ABB,GV,GI,AO,AA,A7,BX,G6,lMc,lMn,lAn,↓reduceIte,Nat.reduceAdd,oGs]
     refine ⟨_,SL G _ _,?_⟩
     try simp -implicitDefEqProofs only [F9,EH,DX,EM,FI,GK,FP,CO,AO,AA,A7,AB,EX,↓reduceIte,Nat.reduceAdd,oGs]
     cases hw:IR v.crs[i].l[k]
     ·simp -implicitDefEqProofs only [F9,EH,DX,FC,EM,FI,GK,ADH,AW7,I5,BC,BA,BL,BI,A8,CP,D8,MR,FB,C9,AY,BB,CO,AO,AQ,AL,BD,AX,AC,AA,EQ,A7,AU,BM,AZ,CQ,DN,↓reduceIte,Nat.reduceEqDiff,Nat.reduceAdd,oGs,bNf]
      exact ⟨trivial,trivial,by rw [hr,hw]; rfl⟩
     rw [hw] at hr
     simp -implicitDefEqProofs only [F9,EH,DX,FI,GK,U2,FP,JA,CO,AO,AA,A7,AU,BH,BR,AB,EZ,↓reduceIte,Nat.reduceEqDiff,Nat.reduceAdd,oGs,bNt,enP]
     cases hp:decide (v.crs[i].l[k] > 0)
     ·simp -implicitDefEqProofs only [F9,EH,DX,FC,EM,FI,GK,U2,AAP,I5,BA,BO,BI,A8,EF,ER,DU,AY,BB,CO,AO,AQ,AL,BD,AX,AC,AA,EQ,A7,AU,BH,BM,BG,AZ,CQ,DK,BR,AB,DI,↓reduceIte,Nat.reduceEqDiff,Nat.reduceAdd,oGs,bNf,enP,f9,wrap_succ (show k < 9223372036854775807 by omega)]
      exact ⟨n' - 1,by omega,k+1,by omega,f2,f3,f8,rfl,trivial,by rw [hr,hp]; rfl⟩
     rw [hp] at hr
     simp -implicitDefEqProofs only [F9,EH,DX,FI,GK,TQ,FP,FQ,ABB,EG,ED,GV,GI,CO,AO,AA,A7,BX,BV,G6,BK,CG,AB,lMc,lMn,lAn,↓reduceIte,Nat.reduceEqDiff,Nat.reduceAdd,Nat.zero_add,oGs,enP,ZA,JZ,f2,f8,f9,t.m1,ldM t.gm,D5 hi',FO AAX XK JX hi']
     refine ⟨_,AD5 G m m.crs[i] k _ hcg.here hg.full (by omega) (by omega) (by omega),?_⟩
     try simp -implicitDefEqProofs only []
     refine ⟨_,ACT G m m.crs[i] _ _ _ hcg.here (TZ _ _ fun n hn=>(hfs n hn).1) (by omega) (by omega),?_⟩
     try simp -implicitDefEqProofs only [F9,EH,DX,FC,EM,FI,GK,U2,I5,BI,A8,CO,AO,AA,A7,AU,BM,CQ,DN,DK,AB,EX,↓reduceIte,Nat.reduceEqDiff,Nat.reduceAdd,oGs]
     cases hz:RU m m.crs[i] (MZ (szs m m.crs[i].pts) k)
     ·simp -implicitDefEqProofs only [BC,BA,BL,A8,CP,D8,MR,FB,C9,AY,BB,AO,AQ,AL,BD,AX,AC,AA,AU,BM,AZ,↓reduceIte,oGs,bNf]
      exact ⟨trivial,trivial,by rw [hr,hz]; rfl⟩
     ·simp -implicitDefEqProofs only [BA,BO,A8,EF,ER,DU,AY,BB,AO,AQ,AL,BD,AX,AC,AA,A7,AU,BH,BG,AZ,BR,AB,DI,↓reduceIte,Nat.reduceEqDiff,oGs,bNt,bNf,enP,f9,wrap_succ (show k < 9223372036854775807 by omega)]
      exact ⟨n' - 1,by omega,k+1,by omega,f2,f3,f8,rfl,trivial,by rw [hr,hz]; rfl⟩
    ·have hk' : ¬ k < v.crs[i].l.length:=by simpa using hc
     simp -implicitDefEqProofs only [DL,EC,KG,EW,AA,↓reduceIte,Nat.reduceEqDiff]
     exact ⟨f2,f3,f8,trivial,by rw [hr,List.drop_eq_nil_of_le (by omega)]; rfl⟩
   ·rintro F' H' ⟨g2,g3,g8,rfl,hr⟩
    simp -implicitDefEqProofs only [BA,A8,EF,EY,ER,AY,BB,AO,AQ,AL,BD,AX,AC,AA,A7,AU,BH,BG,AZ,BR,AB,DI,↓reduceIte,Nat.reduceEqDiff,oGs,bNf,enP,g8,wrap_succ (show i < 9223372036854775807 by omega)]
    exact ⟨n - 1,by omega,i+1,by omega,g2,g3,rfl,trivial,by rw [hf,hr]; rfl⟩
   ·rintro F' H' ⟨g4,rfl,hr⟩
    simp -implicitDefEqProofs only [CP,D8,FB,CJ,g4]
    exact ⟨by rw [hf,hr]; rfl,t.hx⟩
  ·have hi' : ¬ i < m.crs.length:=by simpa using hc
   simp -implicitDefEqProofs only [BC,BA,BL,DL,A8,EC,EY,EW,CJ,AY,BB,AO,AQ,AL,BD,AX,AC,AA,AU,BM,AZ,↓reduceIte,oGs,bNf]
   exact ⟨by rw [hf,X8 (okC m) _ _ i (by omega) (by omega)],t.hx⟩
 ·rintro F H' ⟨f4,rfl,hfp⟩
  simp -implicitDefEqProofs only [CP,D8,CJ,f4]
  exact ⟨by rw [hfp]; rfl,t.hx⟩
structure Gl where
 cross:Bool
 idx:Nat
 bm:SM
 bins:List Int
 at_:Nat
def mkP (i k:Nat):Gl:=⟨false,i,.full,[(k:Int)],k⟩
def mkC (m:Mo) (i k:Nat) (c:Cr):Gl:=⟨true,i,.any,MZ (szs m c.pts) k,k⟩
def gPk (i:Nat) (p:Pt):Nat→List Gl
 | 0 => []
 | k+1=>gPk i p k ++ (if (kindOf p k == 0)=true then [mkP i k] else [])
def gP (m:Mo):Nat→List Gl
 | 0 => []
 | i+1=>gP m i ++ (match m.pts[i]? with | some p=>gPk i p p.bins.length | none => [])
def gCk (m:Mo) (i:Nat) (c:Cr):Nat→List Gl
 | 0 => []
 | k+1=>gCk m i c k ++ (if RU m c (MZ (szs m c.pts) k)=true then [mkC m i k c] else [])
def gC (m:Mo):Nat→List Gl
 | 0=>gP m m.pts.length
 | i+1=>gC m i ++ (match m.crs[i]? with | some c=>gCk m i c (IC (szs m c.pts)) | none => [])
def goals (m:Mo):List Gl:=gC m m.crs.length
def cellAt (l:List Is) (i k:Nat):Int:=match l[i]? with
 | some x=>(match x.l[k]? with | some z=>z | none=>0)
 | none=>0
def AWR (v:Cvr) (g:Gl):Int:=if g.cross then cellAt v.crs g.idx g.at_ else cellAt v.pts g.idx g.at_
theorem AIG {α:Type} {ok:α→Is→Bool} : ∀ {ws:List α} {xs:List Is},J7 ok ws xs=true→∀ (i:Nat) (a:α),ws[i]? = some a→∃ x,xs[i]? = some x∧ok a x=true
 | [],[],_,i,a,h=>by simp at h
 | w :: ws,x :: xs,h,i,a,ha=>by
   simp only [J7,Bool.and_eq_true] at h
   cases i with
   | zero=>simp at ha; subst ha; exact ⟨x,rfl,h.1⟩
   | succ i=>exact AIG h.2 i a (by simpa using ha)
 | [],_ :: _,h,_,_,_=>by cases h
 | _ :: _,[],h,_,_,_=>by cases h
theorem ACF {m:Mo} {v:Cvr} (hf:KY m v=true):GN m=0:=by
 unfold KY at hf
 simp only [Bool.and_eq_true,beq_iff_eq] at hf
 exact hf.1.1.1.1
structure Three (h H:Hp) (m:Mo) (a b:Cvr) (ab bb:Nat):Prop where
 gm:H[h.length]? = some (.live 2 [EN m])
 ga:H[ab]? = some (.live 4 [FZ a])
 gb:H[bb]? = some (.live 4 [FZ b])
 hx : ∃ x,H=h ++ x
theorem Three.mk' (h:Hp) (m:Mo) (a b:Cvr):Three h (h ++ [.live 2 [EN m]] ++ [.live 4 [FZ a]] ++ [.live 4 [FZ b]]) m a b (h ++ [ABlk.live 2 [EN m]]).length (h ++ [ABlk.live 2 [EN m]] ++ [ABlk.live 4 [FZ a]]).length :=
 ⟨CX (CX (CY _ _)),CX (CY _ _),CY _ _,⟨_,by rw [List.append_assoc,List.append_assoc]⟩⟩
def mkB (name:ByteArray) (kind lo hi:Int):Bin:=⟨name,kind,⟨.full,[⟨lo,hi⟩]⟩,.nil,[]⟩
theorem AVE (a b:Int):KU Tryz.prog 185 [(0,.int .i64 a),(1,.int .i64 b)]=some (.agg [.int .i64 a,.int .i64 b]):=by kernel_rfl
theorem AVD (h:Hp) (a b:Int):FH Tryz.prog false h 118 1 [(0,.agg [.int .i64 a,.int .i64 b])]=some (.sl .full 2 [[.int .i64 a,.int .i64 b]],h):=by kernel_rfl
theorem AY8 (s:ByteArray) (k:Int) (xs:List (List AV)):KU Tryz.prog 121 [(0,.str s),(1,.int .i64 k),(2,.sl .full 2 xs)]=some (.agg [.str s,.int .i64 k,.sl .full 2 xs,.sl .nil 0 []]):=by kernel_rfl
def rowB (s:ByteArray) (k lo hi:Int):List AV := [.str s,.int .i64 k,.sl .full 2 [[.int .i64 lo,.int .i64 hi]],.sl .nil 0 []]
theorem AU5 (h:Hp) (s:ByteArray) (k lo hi:Int) (row:List AV) (hr:row.length=4):FM Tryz.prog (h ++ [.live 4 [row]]) 121 (.ptr h.length 0 0) (.agg [.str s,.int .i64 k,.sl .full 2 [[.int .i64 lo,.int .i64 hi]],.sl .nil 0 []])=some (h ++ [.live 4 [rowB s k lo hi]]):=by
 have h1:=MP (P:=Tryz.prog) (t:=121) (h:=h) (k:=4) (j:=0) (row:=row) (cs:=rowB s k lo hi) (v := .agg (rowB s k lo hi)) rfl PD (by rw [hr]; exact Nat.le_refl 4)
 have h2:splice row 0 (rowB s k lo hi)=rowB s k lo hi:=by unfold splice; simp [hr,rowB]
 rw [h2] at h1
 exact h1
theorem AGN (G:Nat→AV) (s:ByteArray) (k lo hi:Int) (h:Hp):PCall (En G) 145 [.str s,.int .i64 k,.int .i64 lo,.int .i64 hi] h (.agg (GM (mkB s k lo hi))):=by
 have hp:PCall (En G) 145 [.str s,.int .i64 k,.int .i64 lo,.int .i64 hi] h (.agg (rowB s k lo hi)):=by
  refine ACalls.pure 2 (R:=fun v H=>v = .agg (rowB s k lo hi)∧∃ x,H=h ++ x) ?_ (fun v h' ⟨e,x⟩=>⟨x,by subst e; rfl⟩)
  refine CB (H:=Hint.none) (enM G) Tryz.func145 rfl (by kernel_rfl) (by kernel_rfl) (nLb (by kernel_rfl)) ?_
  show awp _ _ _ _ _ (EE _ [.cell 8 121] _)
  simp -implicitDefEqProofs only [FT,F6,BC,BA,BL,A8,AY,BB,AO,AQ,AL,BD,AX,AC,E8,AA,A7,BG,GG,JE,ES,EP,CE,AB,DW,BF,BN,↓reduceIte,Nat.reduceEqDiff,oGs,bNf,enP,Option.getD_none,AUJ,AVE,AVD,AY8,AU5 _ _ _ _ _ [.str ⟨#[]⟩,.int .i64 0,.sl .nil 0 [],.sl .nil 0 []] rfl]
  refine ⟨trivial,.agg (rowB s k lo hi),?_,rfl,_,rfl⟩
  exact VB (P:=Tryz.prog) (h:=h) (k:=4) (row:=rowB s k lo hi) TN PD (Nat.le_refl 4)
 exact hp.res (CvR.agg (CvRL.cons (CvR.refl _) (CvRL.cons (CvR.refl _) (CvRL.cons (CvR.refl _) (CvRL.cons (CvR.sl (Cv.nil 0 1)) CvRL.nil)))))
def ATX:Ex := .mk 2 0 ⟨#[97]⟩ .nil []
def exP:Pt:=⟨⟨#[112]⟩,ATX,.full,[mkB ⟨#[108,111,119]⟩ 0 0 3,mkB ⟨#[104,105,103,104]⟩ 0 4 7,mkB ⟨#[110,111,110,101]⟩ 1 9 9]⟩
def exM:Mo:=⟨.full,[exP],.nil,[]⟩
theorem AY9 (n:Int) (s:ByteArray):KU Tryz.prog 53 [(0,.int .i64 n),(2,.str s)]=some (.agg [.int .i64 n,.int .i64 0,.str s,.sl .nil 0 []]):=by kernel_rfl
theorem A0T (h:Hp) (a b c:Bin):FH Tryz.prog false h 54 3 [(0,.agg (GM a)),(1,.agg (GM b)),(2,.agg (GM c))]=some (.sl .full 4 [GM a,GM b,GM c],h):=by
 have h1:Tryz.prog.underlying 54=some (.slice 121):=by kernel_rfl
 have h3:VN Tryz.prog 121=some 4:=by kernel_rfl
 unfold FH
 simp only [h1,PD,h3]
 have h2:ZZ 4 0 [(0,AV.agg (GM a)),(1,AV.agg (GM b)),(2,AV.agg (GM c))]=some [GM a,GM b,GM c]:=rfl
 have fr : ∀ x:Bin,(GM x).all AV.frozen=true:=fun _=>rfl
 simp [h2,fr]
theorem A0U (s t:ByteArray) (n:Int) (xs:List (List AV)):KU Tryz.prog 56 [(0,.str s),(1,.agg [.int .i64 n,.int .i64 0,.str t,.sl .nil 0 []]),(2,.sl .full 4 xs)]=some (.agg [.str s,.int .i64 n,.int .i64 0,.str t,.sl .nil 0 [],.sl .full 4 xs]):=by kernel_rfl
theorem AY5 (h:Hp) (s t:ByteArray) (n:Int) (xs:List (List AV)):FH Tryz.prog false h 22 1 [(0,.agg [.str s,.int .i64 n,.int .i64 0,.str t,.sl .nil 0 [],.sl .full 4 xs])]=some (.sl .full 6 [[.str s,.int .i64 n,.int .i64 0,.str t,.sl .nil 0 [],.sl .full 4 xs]],h):=by kernel_rfl
theorem AZE (xs:List (List AV)):KU Tryz.prog 25 [(0,.sl .full 6 xs)]=some (.agg [.sl .full 6 xs,.sl .nil 0 []]):=by kernel_rfl
theorem AZL (h:Hp):J3 Tryz.prog h 25=some (.ptr h.length 0 0,h ++ [.live 2 [[.sl .nil 0 [],.sl .nil 0 []]]]):=JV (row := [.sl .nil 0 [],.sl .nil 0 []]) (by kernel_rfl)
def Y2:List AV := [.sl .full 6 [[.str ⟨#[112]⟩,.int .i64 2,.int .i64 0,.str ⟨#[97]⟩,.sl .nil 0 [],.sl .full 4 (exP.bins.map GM)]],.sl .nil 0 []]
theorem AXN (h:Hp) (row:List AV) (hr:row.length=2):FM Tryz.prog (h ++ [.live 2 [row]]) 25 (.ptr h.length 0 0) (.agg Y2)=some (h ++ [.live 2 [Y2]]):=by
 have h1:=MP (P:=Tryz.prog) (t:=25) (h:=h) (k:=2) (j:=0) (row:=row) (cs:=Y2) (v := .agg Y2) rfl AO3 (by rw [hr]; exact Nat.le_refl 2)
 have h2:splice row 0 Y2=Y2:=by unfold splice; simp [hr,Y2]
 rw [h2] at h1
 exact h1
theorem ANA:CvR (.agg Y2) (.agg (EN exM)):=by
 refine CvR.agg (CvRL.cons (CvR.sl (Cv.rows rfl ?_)) (CvRL.cons (CvR.sl (Cv.nil 0 3)) CvRL.nil))
 intro i r r' h1 h2
 match i,h1,h2 with
 | 0,h1,h2 =>
   cases h1; cases h2
   exact CvRow.cons rfl (Cv.refl _) (CvRow.cons rfl (Cv.refl _) (CvRow.cons rfl (Cv.refl _) (CvRow.cons rfl (Cv.refl _) (CvRow.cons rfl (Cv.nil 0 4) (CvRow.cons rfl (Cv.refl _) CvRow.nil)))))
 | _+1,h1,_=>cases h1
theorem sample (G:Nat→AV) (h:Hp):PCall (En G) 84 [] h (.agg (EN exM)):=by
 have hp:PCall (En G) 84 [] h (.agg Y2):=by
  refine ACalls.pure 2 (R:=fun v H=>v = .agg Y2∧∃ x,H=h ++ x) ?_ (fun v h' ⟨e,x⟩=>⟨x,by subst e; rfl⟩)
  refine CB (H:=Hint.none) (enM G) Tryz.func84 rfl (by kernel_rfl) (by kernel_rfl) (nLb (by kernel_rfl)) ?_
  show awp _ _ _ _ _ (EE _ [.cell 0 25] _)
  simp -implicitDefEqProofs only [FT,F6,BC,BA,A8,AY,BB,AO,AQ,AL,BD,AX,AC,AU,BX,BH,IP,GG,JE,BZ,BU,CE,AB,lMc,lMn,lAn,oGs,bNf,enP,AZL,AY9]
  refine (AGN G _ _ _ _ _).use ?_
  simp -implicitDefEqProofs only [AY,AO,AQ,AL,BD,AX,AC,AU,BX,BH,IP,BZ,BU,lMc,lMn,lAn,oGs,bNf]
  refine (AGN G _ _ _ _ _).use ?_
  simp -implicitDefEqProofs only [AY,AO,AQ,AL,BD,AX,AC,AU,BX,BH,IP,BZ,BU,lMc,lMn,lAn,oGs,bNf]
  refine (AGN G _ _ _ _ _).use ?_
  simp -implicitDefEqProofs only [FT,F6,AY,AO,AQ,AL,BD,AX,AC,AA,A7,AU,IP,JE,ES,EP,CE,AB,↓reduceIte,Nat.reduceEqDiff,oGs,bNf,enP,Option.getD_none,A0T,A0U,AY5,AZE]
  refine KJ (v:=IK) (h:=h ++ [.live 2 [Y2]]) (by
   have:=AXN h [.sl .nil 0 [],.sl .nil 0 []] rfl
   exact congrArg ofS this) ?_
  simp -implicitDefEqProofs only [BL,A8,BB,E8]
  refine ⟨trivial,.agg Y2,?_,rfl,_,rfl⟩
  exact VB (P:=Tryz.prog) (h:=h) (k:=2) (row:=Y2) AW6 AO3 (Nat.le_refl 2)
 exact hp.res ANA
end Go.Proofs.YtocilianjfhifaaGreatDoor.Cov
