/- Part 14 of the proof (X12, X13, X14, X15, X16, X17, X18, X19, X20, X22, X23, Kz); no condition. -/
import Derived.Test.YtocilianjfhifaaGreatDoorW13
set_option linter.unusedVariables false
set_option linter.unusedSimpArgs false
set_option maxRecDepth 8000
namespace Go.Proofs.YtocilianjfhifaaGreatDoor.Xe
open Sm Bins Cov Wd Go.RowKit
theorem AN0 (last:List Int) (lm:SM) (h:Hp) (hl:last.length≤1048576) : ∃ u h',H7 Tryz.prog true h 57 57 (.sl .nil 0 []) (.sl lm 1 (last.map encI))=some (u,h')∧AKB 1 (last.map encI) h u h':=by
 cases hx:last with
 | nil=>exact ⟨_,_,(by kernel_rfl),.inl ⟨rfl,⟨0,rfl⟩,rfl⟩⟩
 | cons y ys =>
   have hne:last.map encI≠[]:=by rw [hx]; simp
   rw [← hx]
   exact ⟨_,_,TP TW sz3 XF V4 (KF _ lm 1 (last.map encI)) hne (JH (by simp; omega) (by omega)),.inr (.inr ⟨hne,rfl,rfl⟩)⟩
theorem AVU (p:Pt) (last:List Int) (l:List Sg) (h1:GR p=0) (h2:lastB last=true) (h3:(evE l p.ex).2=0) :
  ptE p last l=⟨if (inK p.bins 2 (evE l p.ex).1 || inK p.bins 1 (evE l p.ex).1)=true then [] else XX p last (evE l p.ex).1 0,nextL last (evE l p.ex).1,inK p.bins 2 (evE l p.ex).1,0⟩:=by
 unfold ptE
 rw [if_neg (by rw [h1,h2]; simp),if_neg (by simpa using h3)]
 cases h4:inK p.bins 2 (evE l p.ex).1
 ·cases h5:inK p.bins 1 (evE l p.ex).1
  ·rfl
  ·rfl
 ·rfl
section
variable (G:Nat→AV)
set_option maxHeartbeats 2000000 in
theorem AN6 (p:Pt) (hp:PtOk p) (last:List Int) (lm:SM) (l:List Sg) (m:SM) (h:Hp) (hll:last.length≤1048576) (hl:l.length≤1099511627776) (hok : ∀ s∈l,AAL s) :
  PCall (En G) 44 [.agg (FH p),.sl lm 1 (last.map encI),.sl m 2 (l.map GU)] h (ptV (ptE p last l)):=by
 refine PCall.res (r:=ptW (ptE p last l)) ?_ (AO2 _)
 refine ACalls.pure (R:=fun v H=>ext h H∧I5 h.length H 4 v=ptW (ptE p last l)) 4 ?_ (fun v H ⟨a,b⟩=>⟨a,b⟩)
 have hnum:=hp.num
 refine CE (H:=Hint.none) (enM G) Tryz.func44 rfl (by kernel_rfl) (by kernel_rfl) (nLb (by kernel_rfl)) ?_
 show awp _ _ _ _ _ (EJ _ [.tmp 6,.tmp 7,.tmp 8,.tmp 9] _)
 have gp:=CZ h (ABlk.live 6 [FH p])
 have hx:ext h (h ++ [ABlk.live 6 [FH p]]):=(ext.rfl' h).app _
 simp -implicitDefEqProofs only [BC,BA,A8,AY,BB,AO,AQ,AL,BD,AX,AC,AA,AZ,AU,BH,BM,JE,A7,FV,BV,CB,BF,↓reduceIte,Nat.reduceEqDiff,oGs,bNf,enP,bxP]
 generalize h ++ [ABlk.live 6 [FH p]]=H1 at gp hx ⊢
 simp -implicitDefEqProofs only [AY,AO,AQ,AL,BD,AX,AC,AA,AZ,BX,BZ,BU,AB,lMc,lMn,lAn,↓reduceIte,oGs,bNf,ldP gp]
 refine (ADW G p hp H1).use ?_
 simp -implicitDefEqProofs only [AY,BJ,BP,CO,AO,AQ,AL,BD,AX,AC,AA,AZ,AU,BH,BG,BQ,AB,EG,↓reduceIte,oGs,bNf,enP]
 cases h1:(GR p == 0)
 ·have hne:GR p≠0:=by simpa using h1
  simp -implicitDefEqProofs only [BC,BA,BL,BI,A8,CQ,PV,CY,AY,BB,BJ,BP,CO,FQ,AO,AQ,AL,BD,AX,AC,AA,EP,AZ,AU,BH,BM,JE,A7,CP,DN,↓reduceIte,Nat.reduceEqDiff,oGs,bNf,bne,h1]
  exact ⟨hx,by unfold ptE; rw [if_pos (.inl hne)]; rfl⟩
 have hp0:GR p=0:=by simpa using h1
 simp -implicitDefEqProofs only [BJ,BP,CO,EM,AO,AQ,AL,BD,AX,AC,AA,AZ,BX,BG,BZ,BU,BF,BN,lMc,lMn,lAn,↓reduceIte,Nat.reduceEqDiff,oGs,bNt,bNf,bne,h1]
 refine (AD0 G last lm H1 (by omega)).use ?_
 simp -implicitDefEqProofs only [BI,A8,AY,BB,BJ,BP,CO,EM,AO,AQ,AL,BD,AX,AC,AA,AZ,AU,BM,CP,DR,G6,AB,EY,↓reduceIte,Nat.reduceEqDiff,oGs,bNf]
 cases h2:lastB last
 ·simp -implicitDefEqProofs only [BC,BA,BL,A8,CQ,PV,CY,AY,BB,AO,AQ,AL,BD,AX,AC,AA,AU,BH,BM,JE,A7,↓reduceIte,Nat.reduceEqDiff,oGs,bNf]
  exact ⟨hx,by unfold ptE; rw [if_pos (.inr h2)]; rfl⟩
 have h7:last.length≤7:=by
  unfold lastB at h2
  rw [Bool.and_eq_true] at h2
  simpa using h2.1
 simp -implicitDefEqProofs only [BC,BA,BO,A8,DU,AY,AO,AQ,AL,BD,AX,AC,AA,AZ,BX,BG,BV,BK,BZ,BU,AB,BF,BN,lMc,lMn,lAn,↓reduceIte,Nat.reduceEqDiff,Nat.zero_add,oGs,bNt,bNf,enP,Y3,AE6 gp]
 refine (ARN G l m p.ex H1 hl hok hp.ex).use ?_
 cases h3:((evE l p.ex).2 == 0)
 ·have hne:(evE l p.ex).2≠0:=by simpa using h3
  unfold evV
  simp -implicitDefEqProofs only [List.getElem?_cons_zero,List.getElem?_cons_succ,BC,BA,BL,BI,A8,CQ,PV,CY,AY,BB,AO,AQ,AL,BD,AX,AC,AA,AZ,AU,BH,BM,JE,BG,A7,BQ,FM,GZ,AB,EG,↓reduceIte,Nat.reduceEqDiff,oGs,bNf,enP,bne,h3]
  exact ⟨hx,by unfold ptE; rw [if_neg (by rw [hp0,h2]; simp),if_pos hne]; rfl⟩
 have he0:(evE l p.ex).2=0:=by simpa using h3
 rw [AVU p last l hp0 h2 he0]
 unfold evV
 simp -implicitDefEqProofs only [List.getElem?_cons_zero,List.getElem?_cons_succ,BC,BA,BO,BI,A8,DU,AY,BB,AO,AQ,AL,BD,AX,AC,AA,AZ,AU,BH,BG,A7,BV,BQ,FM,GZ,AB,EG,↓reduceIte,Nat.reduceEqDiff,oGs,bNt,bNf,enP,bne,h3]
 generalize (evE l p.ex).1=v
 clear h3 he0
 have l5 : ∀ H:Hp,ext H1 H→D7 Tryz.prog H 54 (.ptr h.length 0 5)=some (.sl p.bm 4 (p.bins.map GN)):=fun H hH=>by rw [DL O5 (F5 hH gp) (row:=FH p) rfl,LH]
 simp -implicitDefEqProofs only [AY,AO,AQ,AL,BD,AX,AC,AA,AZ,AU,BX,BH,BG,BZ,BU,AB,lMc,lMn,lAn,↓reduceIte,Nat.reduceEqDiff,oGs,bNf,ldP gp]
 refine (APS G p hp 2 (v:Nat) H1).use ?_
 simp -implicitDefEqProofs only [BC,BR,BA,A8,AY,BB,AO,AQ,AL,BD,AX,AC,AA,AZ,AU,BH,JE,A7,↓reduceIte,oGs,bNf]
 refine GV 0 (fun F H => ∃ u,F 1 = .sl lm 1 (last.map encI)∧F 10 = .int .i64 (v:Nat)∧F 12 = .bool (inK p.bins 2 (v:Nat))∧F 13=u∧ext H1 H∧outG 1 IZ H1 (if (inK p.bins 2 (v:Nat) || inK p.bins 1 (v:Nat))=true then [] else XX p last (v:Nat) 0) u H) (fun _ _=>False) ?_ ?_ (fun _ _ hh=>hh.elim)
 ·refine DT (fun n F H => ∃ k u,n+k=p.bins.length∧F 1 = .sl lm 1 (last.map encI)∧F 3 = .ptr h.length 0 0∧F 10 = .int .i64 (v:Nat)∧F 12 = .bool (inK p.bins 2 (v:Nat))∧F 13=u∧F 14 = .int .i64 (k:Nat)∧ext H1 H∧outG 1 IZ H1 (if (inK p.bins 2 (v:Nat) || inK p.bins 1 (v:Nat))=true then [] else ML p.bins last (v:Nat) 0 k) u H) p.bins.length
   ⟨0,.sl .nil 0 [],by simp,by simp -implicitDefEqProofs only [AA,BF,BN,↓reduceIte,Nat.reduceEqDiff],by simp -implicitDefEqProofs only [AA,↓reduceIte,Nat.reduceEqDiff],by simp -implicitDefEqProofs only [AA,↓reduceIte,Nat.reduceEqDiff],by simp -implicitDefEqProofs only [AA,↓reduceIte,Nat.reduceEqDiff],by simp -implicitDefEqProofs only [AA,↓reduceIte,Nat.reduceEqDiff],by simp -implicitDefEqProofs only [AA,↓reduceIte] <;> rfl,ext.rfl' _,by split <;> exact outG.nil _ _ _ _⟩ ?_
  rintro n F H ⟨k,u,hk,f1,f3,f10,f12,f13,f14,hxH,ho⟩
  simp -implicitDefEqProofs only [BC,BA,AY,BJ,BP,CO,AO,AQ,AL,BD,AX,AC,AA,AZ,BG,BV,BQ,BK,DZ,AB,DC,↓reduceIte,Nat.reduceEqDiff,Nat.zero_add,oGs,bNf,enP,OV,H9,f3,f14,l5 H hxH,lLm]
  cases hc:decide (((k:Nat):Int) < ((p.bins.length:Nat):Int))
  ·have hk':k=p.bins.length:=by
    have : ¬ k < p.bins.length:=by simpa using hc
    omega
   subst hk'
   simp -implicitDefEqProofs only [DJ,BI,A8,D9,J4,EW,DU,AY,BB,BJ,BP,CO,H8,AO,AQ,AL,BD,AX,AC,AA,EP,AZ,AU,BM,BG,CP,DR,↓reduceIte,Nat.reduceEqDiff,oGs,bNf]
   exact ⟨u,by first | trivial | exact f1,by first | trivial | exact f10,by first | trivial | exact f12,by first | trivial | exact f13,hxH,ho⟩
  have hk':k < p.bins.length:=by simpa using hc
  simp -implicitDefEqProofs only [AY,BJ,BP,CO,F7,AO,AQ,AL,BD,AX,AC,AA,AZ,AU,BM,BG,CP,DN,G6,AB,EY,↓reduceIte,Nat.reduceEqDiff,oGs,bNf,f12]
  cases h4:inK p.bins 2 (v:Nat)
  ·rw [h4] at ho f12
   have gpH:=F5 hxH gp
   simp -implicitDefEqProofs only [Bool.false_or,BJ,BP,CO,F7,AO,AQ,AL,BD,AX,AC,AA,AZ,AU,BX,BH,BG,BV,BZ,BU,AB,lMc,lMn,lAn,↓reduceIte,Nat.reduceEqDiff,oGs,bNf,enP,f3,f10,ldP gpH]
   refine (APS G p hp 1 (v:Nat) H).use ?_
   simp -implicitDefEqProofs only [BI,A8,AY,BB,BJ,BP,CO,F7,AO,AQ,AL,BD,AX,AC,AA,AZ,AU,BM,CP,DN,G6,AB,EY,↓reduceIte,Nat.reduceEqDiff,oGs,bNf]
   cases h5:inK p.bins 1 (v:Nat)
   ·rw [h5] at ho
    rw [if_neg (by decide)] at ho
    have hbok:=hp.bins _ (List.getElem_mem hk')
    have hlen:=VS p.bins last (v:Nat) 0 k
    have hs:=WY p.bins last (v:Nat) 0 k hk'
    have lk:D7 Tryz.prog H 3 (.fptr 4 (p.bins.map GN) k 1)=some (.int .i64 p.bins[k].kind):=by rw [DV ag3 hk']; rfl
    have hKv:hK last (v:Nat) 0 p.bins[k]=((p.bins[k].kind == 0) && hit p.bins[k] last (v:Nat)):=by unfold hK; simp
    simp -implicitDefEqProofs only [BC,BR,BA,BO,A8,CY,AY,BJ,BP,CO,AO,AQ,AL,BD,AX,AC,AA,AZ,AU,BH,BG,BV,BQ,BK,CG,AB,D5,↓reduceIte,Nat.reduceEqDiff,Nat.zero_add,oGs,bNf,enP,WV,H9,MW,Bool.false_eq_true,f3,f14,l5 H hxH,D6 hk',lk]
    have skip:hK last (v:Nat) 0 p.bins[k]=false→outG 1 IZ H1 (ML p.bins last (v:Nat) 0 (k+1)) u H:=fun q=>by rw [hs,q]; simpa using ho
    cases hq:(p.bins[k].kind == 0)
    ·rw [hq,Bool.false_and] at hKv
     simp -implicitDefEqProofs only [BA,BO,BI,A8,EE,EN,DU,AY,BB,BJ,BP,CO,H8,AO,AQ,AL,BD,AX,AC,AA,EP,AZ,AU,BH,BM,BG,A7,CP,DR,BQ,AB,DF,↓reduceIte,Nat.reduceEqDiff,oGs,bNf,enP,f14,wrap_succ (show k < 9223372036854775807 by omega)]
     exact ⟨n - 1,by omega,k+1,u,by omega,by first | trivial | exact f1,by first | trivial | exact f3,by first | trivial | exact f10,by first | trivial | exact f12,by first | trivial | exact f13,by first | trivial | rfl,hxH,by exact skip hKv⟩
    ·rw [hq,Bool.true_and] at hKv
     simp -implicitDefEqProofs only [BJ,BP,CO,F7,AO,AQ,AL,BD,AX,AC,AA,AZ,BX,BG,BV,BK,CG,BZ,BU,AB,lMc,lMn,lAn,↓reduceIte,Nat.reduceEqDiff,Nat.zero_add,oGs,bNf,enP,WV,H9,f1,f3,f10,f14,l5 H hxH,D6 hk',FP TU PI LZ hk']
     refine (ATG G p.bins[k] hbok last lm (v:Nat) H (by omega)).use ?_
     simp -implicitDefEqProofs only [BI,A8,AY,BB,AO,AQ,AL,BD,AX,AC,AA,AZ,AU,BM,CP,DN,↓reduceIte,Nat.reduceEqDiff,oGs,bNf]
     cases hv:hit p.bins[k] last (v:Nat)
     ·rw [hv] at hKv
      simp -implicitDefEqProofs only [BA,BO,A8,EE,EN,DU,AY,BB,AO,AQ,AL,BD,AX,AC,AA,AZ,AU,BH,BG,A7,BQ,AB,DF,↓reduceIte,Nat.reduceEqDiff,oGs,bNf,enP,f14,wrap_succ (show k < 9223372036854775807 by omega)]
      exact ⟨n - 1,by omega,k+1,u,by omega,by first | trivial | exact f1,by first | trivial | exact f3,by first | trivial | exact f10,by first | trivial | exact f12,by first | trivial | exact f13,by first | trivial | rfl,hxH,by exact skip hKv⟩
     ·rw [hv] at hKv
      rw [hKv,if_pos rfl] at hs
      obtain ⟨u',H3,ha,ho2,_,hx2,_,_⟩:=ho.append (P:=Tryz.prog) TW sz3 XF V4 (by omega) (by omega) hxH k
      have ha':H7 Tryz.prog true H 57 57 u (.sl .full 1 [[.int .i64 ((k:Nat):Int)]])=some (u',H3):=ha
      simp -implicitDefEqProofs only [FZ,F6,BA,A8,EE,EN,CY,AY,BB,AO,AQ,AL,BD,AX,AC,AA,AZ,AU,BH,BG,A7,EQ,BQ,IQ,CB,AB,DF,↓reduceIte,Nat.reduceEqDiff,oGs,bNf,enP,f13,f14,AFX,ha',wrap_succ (show k < 9223372036854775807 by omega)]
      exact ⟨n - 1,by omega,k+1,u',by omega,by first | trivial | exact f1,by first | trivial | exact f3,by first | trivial | exact f10,by first | trivial | exact f12,by first | trivial | rfl,by first | trivial | rfl,hx2,by rw [hs]; exact ho2⟩
   ·rw [h5] at ho
    simp -implicitDefEqProofs only [DJ,D9,J4,EW,DU,AA,↓reduceIte,Nat.reduceEqDiff,bNt]
    exact ⟨u,by first | trivial | exact f1,by first | trivial | exact f10,by first | trivial | exact f12,by first | trivial | exact f13,hxH,ho⟩
  ·rw [h4] at ho f12
   simp -implicitDefEqProofs only [Bool.true_or,DJ,BI,A8,D9,J4,EW,DU,AY,BB,BJ,BP,CO,H8,AO,AQ,AL,BD,AX,AC,AA,EP,AZ,AU,BM,CP,DR,↓reduceIte,Nat.reduceEqDiff,oGs,bNt,bNf]
   exact ⟨u,by first | trivial | exact f1,by first | trivial | exact f10,by first | trivial | exact f12,by first | trivial | exact f13,hxH,ho⟩
 ·rintro F H ⟨u,f1,f10,f12,f13,hxH,ho⟩
  obtain ⟨w,H2,ha,hc⟩:=AN0 last lm H hll
  obtain ⟨o,H3,ha3,ho3,hol,hx3⟩:=AEK (v:Nat) hc hll
  have ho':outG 1 IZ H1 (if (inK p.bins 2 (v:Nat) || inK p.bins 1 (v:Nat))=true then [] else XX p last (v:Nat) 0) u H3:=by
   obtain ⟨y,rfl⟩:=hx3
   exact ho.app y
  have hxa:=(hx.trans hxH).trans hx3
  have hle:=hx.le
  have hle2:=hxH.le
  have e1:=SG ATL ho' h.length 1 hle
  have hnl:(last ++ [((v:Nat):Int)]).drop (last.length+1 - 7)=nextL last v:=rfl
  have hne:=AHK last v
  simp -implicitDefEqProofs only [FZ,F6,BC,BA,BI,A8,EX,AY,BB,AO,AQ,AL,BD,AX,AC,AA,AZ,AU,BH,JE,BG,A7,EQ,BQ,DZ,IQ,CB,AB,EZ,↓reduceIte,Nat.reduceEqDiff,oGs,bNf,enP,I8,f1,ha,f10,AFX,ha3]
  rcases Classical.em (last.length=7) with e7 | e7
  ·have hd:decide (((last.length+1:Nat):Int) > 7)=true:=decide_eq_true (by omega)
   have hsl:NH Tryz.prog H3 57 (.own o 0 (last.length+1)) (some (.int .i64 1)) none none=some (.own o 1 (last.length+1 - 1)):=AOW (u:=1) ho3 (by omega)
   have e2:I5 h.length H3 3 (.own o 1 (last.length+1 - 1))=fzG 1 encI (nextL last v):=by
    rw [ALV (d:=1) (xs:=last ++ [((v:Nat):Int)]) ATN (by omega) ho3 (by simp <;> omega),AFE hne,← hnl,show last.length+1 - 7=1 by omega]
   simp -implicitDefEqProofs only [Option.map_some,Option.map_none,BC,BA,BL,A8,PV,CY,AY,BB,AO,AQ,AL,BD,AX,AC,AA,AZ,AU,BH,BG,A7,XG,AB,↓reduceIte,Nat.reduceEqDiff,oGs,bNf,enP,hd,hsl,f12,f13]
   refine ⟨hxa,?_⟩
   show AV.tup [I5 h.length H3 3 u,I5 h.length H3 3 (.own o 1 (last.length+1 - 1)),.bool _,.int .i64 0]=_
   rw [e1,e2]; rfl
  ·have hd:decide (((last.length+1:Nat):Int) > 7)=false:=decide_eq_false (by omega)
   have e2:I5 h.length H3 3 (.own o 0 (last.length+1))=fzG 1 encI (nextL last v):=by
    rw [ALV (d:=1) (xs:=last ++ [((v:Nat):Int)]) ATN (by omega) ho3 (by simp <;> omega),AFE hne,← hnl,show last.length+1 - 7=0 by omega]
   simp -implicitDefEqProofs only [BC,BA,BO,BL,A8,PV,DU,AY,BB,AO,AQ,AL,BD,AX,AC,AA,AZ,AU,BH,BG,A7,↓reduceIte,Nat.reduceEqDiff,oGs,bNf,hd,f12,f13]
   refine ⟨hxa,?_⟩
   show AV.tup [I5 h.length H3 3 u,I5 h.length H3 3 (.own o 0 (last.length+1)),.bool _,.int .i64 0]=_
   rw [e1,e2]; rfl
def AR6 (m:Mo) (t:Tk):Bool:=(GM m == 0) && (((t.last.length:Nat):Int) == ((m.pts.length:Nat):Int)) && t.last.all fun x=>lastB x.l
structure TkOk (t:Tk):Prop where
 num:t.last.length≤1048576
 len : ∀ x∈t.last,x.l.length≤1048576
theorem bxT (h:Hp) (t:Tk):PQ h (.agg (JI t))=some (.ptr h.length 0 0,h ++ [.live 1 [JI t]]):=rfl
theorem AL0 (t:Tk):(JI t)[0]? = some (.sl t.m 1 (t.last.map encL)):=rfl
theorem AJK (x:Is) (h:Hp) (hl:x.l.length≤1048576):PCall (En G) 134 [.sl x.m 1 (x.l.map encI)] h (.bool (!lastB x.l)):=by
 refine CE (H:=Hint.none) (enM G) Tryz.func134 rfl (by kernel_rfl) (by kernel_rfl) (nLb (by kernel_rfl)) ?_
 show awp _ _ _ _ _ (EJ _ [.tmp 2] _)
 simp -implicitDefEqProofs only [BC,BA,A8,AY,BB,AO,AQ,AL,BD,AX,AC,AA,AZ,AU,BX,BM,BG,A7,BZ,BU,BF,lMc,lMn,lAn,↓reduceIte,Nat.reduceEqDiff,oGs,bNf,enP]
 refine (XU G x.l x.m h (by omega)).use ?_
 simp -implicitDefEqProofs only [BL,A8,CJ,AY,BB,AO,AQ,AL,BD,AX,AC,AA,AZ,A7,G6,AB,EY,↓reduceIte,oGs,bNf]
 exact ⟨by first | trivial | rfl,trivial⟩
theorem AV8 (xs:List Is) (m:SM) (fid:FuncId) (p:Is→Bool) (h:Hp) (hl:xs.length≤1099511627776) (hf : ∀ r∈xs,PCall (En G) fid [.sl r.m 1 (r.l.map encI)] h (.bool (p r))) :
  PCall (En G) 183 [.sl m 1 (xs.map encL),.fn (.func fid) [] []] h (.int .i64 (match xs.findIdx? p with | some i=>(i:Int) | none => -1)):=by
 refine CE (H:=Hint.none) (enM G) Tryz.func183 rfl (by kernel_rfl) (by kernel_rfl) (nLb (by kernel_rfl)) ?_
 show awp _ _ _ _ _ (EJ _ [.tmp 4] _)
 simp -implicitDefEqProofs only [BC,BR,BA,A8,AY,BB,AO,AQ,AL,BD,AX,AC,AA,AZ,AU,BH,BG,A7,DZ,AB,BF,↓reduceIte,Nat.reduceEqDiff,oGs,bNf,enP,QT,lLm]
 refine DT (fun n F H => ∃ k,n+k=xs.length∧F 0 = .sl m 1 (xs.map encL)∧F 1 = .fn (.func fid) [] []∧F 7 = .int .i64 xs.length∧F 8 = .int .i64 (k:Nat)∧H=h∧(xs.take k).all (fun r => !p r)=true) xs.length ⟨0,by simp,rfl,rfl,rfl,rfl,rfl,rfl⟩ ?_
 rintro n F H ⟨k,hk,f0,f1,f7,f8,rfl,hin⟩
 simp -implicitDefEqProofs only [BC,BA,BI,A8,AY,BB,AO,AQ,AL,BD,AX,AC,AA,AZ,BQ,AB,DC,↓reduceIte,oGs,bNf,enP,f0,f1,f7,f8,lLm]
 refine CV (fun hc => ?_) (fun hc => ?_)
 ·have hc':k < xs.length:=by simpa using hc
  simp -implicitDefEqProofs only [BC,BR,BA,BO,A8,AY,BB,AO,AQ,AL,BD,AX,AC,AA,AZ,BG,A7,BV,CG,BZ,BU,AB,lMc,lMn,lAn,↓reduceIte,Nat.reduceEqDiff,oGs,bNf,enP,OX,f0,f1,f7,f8,D6 hc',DV L8 hc',OD]
  refine (hf _ (List.getElem_mem hc')).use ?_
  simp -implicitDefEqProofs only [BI,A8,BB,AC,AA,AZ,↓reduceIte]
  refine CV (fun hb => ?_) (fun hb => ?_)
  ·simp -implicitDefEqProofs only [BC,BA,BL,A8,CQ,D8,FI,CJ,AY,BB,AO,AQ,AL,BD,AX,AC,AA,AZ,BG,A7,↓reduceIte,Nat.reduceEqDiff,oGs,bNf]
   refine ⟨?_,trivial⟩
   rw [List.findIdx?_eq_some_iff_getElem.2 ⟨hc',hb,fun j hj=>by
    rw [List.all_eq_true] at hin
    have:=hin xs[j] (by rw [List.mem_take_iff_getElem]; exact ⟨j,by omega,rfl⟩)
    simpa using this⟩]
  ·simp -implicitDefEqProofs only [BA,BO,A8,EE,EN,AY,BB,AO,AQ,AL,BD,AX,AC,AA,AZ,AU,BH,BG,BQ,AB,DF,↓reduceIte,Nat.reduceEqDiff,oGs,bNf,enP,f8,wrap_succ (show k < 9223372036854775807 by omega)]
   refine ⟨n - 1,by omega,k+1,by omega,f0,f1,f7,rfl,trivial,?_⟩
   rw [List.take_succ_eq_append_getElem hc',List.all_append,hin]
   simp only [List.all_cons,List.all_nil,hb]; rfl
 ·have hc' : ¬ k < xs.length:=by simpa using hc
  simp -implicitDefEqProofs only [BC,BA,BL,DJ,A8,D9,EX,EW,CJ,AY,BB,AO,AQ,AL,BD,AX,AC,AA,AU,BH,A7,↓reduceIte,oGs,bNf]
  refine ⟨?_,trivial⟩
  rw [List.take_of_length_le (by omega)] at hin
  rw [List.findIdx?_eq_none_iff.2 (by simpa using hin)]
theorem ANR (xs:List Is) (m:SM) (fid:FuncId) (p:Is→Bool) (h:Hp) (hl:xs.length≤1099511627776) (hf : ∀ r∈xs,PCall (En G) fid [.sl r.m 1 (r.l.map encI)] h (.bool (p r))) :
  PCall (En G) 133 [.sl m 1 (xs.map encL),.fn (.func fid) [] []] h (.bool (xs.any p)):=by
 refine CE (H:=Hint.none) (enM G) Tryz.func133 rfl (by kernel_rfl) (by kernel_rfl) (nLb (by kernel_rfl)) ?_
 show awp _ _ _ _ _ (EJ _ [.tmp 4] _)
 simp -implicitDefEqProofs only [BC,BA,A8,AY,BB,AO,AQ,AL,BD,AX,AC,AA,AZ,AU,BX,BM,BG,A7,BZ,BU,BF,BN,lMc,lMn,lAn,↓reduceIte,Nat.reduceEqDiff,oGs,bNf,enP]
 refine (AV8 G xs m fid p h hl hf).use ?_
 simp -implicitDefEqProofs only [BL,A8,CJ,AY,BB,AO,AQ,AL,BD,AX,AC,AA,AZ,AU,BH,A7,BQ,AB,G8,↓reduceIte,oGs,bNf,enP]
 refine ⟨?_,trivial⟩
 cases hx:xs.findIdx? p with
 | some i =>
   obtain ⟨h1,h2,_⟩:=List.findIdx?_eq_some_iff_getElem.1 hx
   have:xs.any p=true:=List.any_eq_true.2 ⟨xs[i],by simp,h2⟩
   simp [this]
 | none =>
   have:xs.any p=false:=by
    rw [List.findIdx?_eq_none_iff] at hx
    rw [List.any_eq_false]; intro x hx2; simp [hx x hx2]
   simp [this]
theorem AR5 (t:Tk):(!t.last.any fun x => !lastB x.l)=t.last.all fun x=>lastB x.l:=by
 rw [List.not_any_eq_all_not]; simp
theorem AIV (hG:GOk G) (m:Mo) (hm:MoOk m) (t:Tk) (ht:TkOk t) (h:Hp):PCall (En G) 70 [.agg (EH m),.agg (JI t)] h (.bool (AR6 m t)):=by
 refine ACalls.pure0 rfl ?_
 have hn:=ht.num
 refine CE (H:=Hint.none) (enM G) Tryz.func70 rfl (by kernel_rfl) (by kernel_rfl) (nLb (by kernel_rfl)) ?_
 show awp _ _ _ _ _ (EJ _ [.tmp 4] _)
 have gm:=CW (x:=ABlk.live 1 [JI t]) (CZ h (ABlk.live 2 [EH m]))
 have gt:=CZ (h ++ [ABlk.live 2 [EH m]]) (ABlk.live 1 [JI t])
 have hx:ext h (h ++ [ABlk.live 2 [EH m]] ++ [ABlk.live 1 [JI t]]):=((ext.rfl' h).app _).app _
 simp -implicitDefEqProofs only [BC,BA,A8,AY,BB,AO,AQ,AL,BD,AX,AC,AA,AZ,AU,BM,A7,FV,BV,CB,BF,BN,↓reduceIte,Nat.reduceEqDiff,oGs,bNf,enP,bxM,bxT]
 generalize h ++ [ABlk.live 2 [EH m]] ++ [ABlk.live 1 [JI t]]=H at gm gt hx ⊢
 generalize (h ++ [ABlk.live 2 [EH m]]).length=tb at gt ⊢
 have l0:D7 Tryz.prog H 22 (.ptr h.length 0 0)=some (.sl m.pm 6 (m.pts.map FH)):=by rw [DL TQ gm (row:=EH m) rfl,OC]
 have lt0:D7 Tryz.prog H 26 (.ptr tb 0 0)=some (.sl t.m 1 (t.last.map encL)):=by rw [DL OM gt (row:=JI t) rfl,AL0]
 simp -implicitDefEqProofs only [AY,AO,AQ,AL,BD,AX,AC,AA,AZ,BX,BZ,BU,AB,lMc,lMn,lAn,↓reduceIte,oGs,bNf,ldM gm]
 refine (NG G hG m hm H).use ?_
 simp -implicitDefEqProofs only [AY,BJ,BP,CO,AO,AQ,AL,BD,AX,AC,AA,AZ,AU,BH,BG,BQ,AB,D5,↓reduceIte,oGs,bNf,enP]
 unfold AR6
 cases h1:(GM m == 0)
 ·simp -implicitDefEqProofs only [BL,A8,CJ,AY,BB,BJ,BP,CO,H8,AO,AQ,AL,BD,AX,AC,AA,EP,AZ,AU,BM,BG,A7,CP,DR,↓reduceIte,Nat.reduceEqDiff,oGs,bNf]
  exact ⟨by first | trivial | rfl,hx⟩
 simp -implicitDefEqProofs only [AY,BJ,BP,CO,F7,AO,AQ,AL,BD,AX,AC,AA,AZ,AU,BM,BG,CP,DN,BV,BQ,BK,DZ,AB,D5,↓reduceIte,Nat.reduceEqDiff,Nat.add_zero,oGs,bNf,enP,PM,IC,QT,O3,l0,lt0,lLm]
 cases h2:(((t.last.length:Nat):Int) == ((m.pts.length:Nat):Int))
 ·simp -implicitDefEqProofs only [BL,A8,CJ,AY,BB,BJ,BP,CO,H8,AO,AQ,AL,BD,AX,AC,AA,EP,AZ,AU,BM,A7,CP,DR,↓reduceIte,Nat.reduceEqDiff,oGs,bNf]
  exact ⟨by first | trivial | rfl,hx⟩
 simp -implicitDefEqProofs only [BJ,BP,CO,F7,AO,AQ,AL,BD,AX,AC,AA,AZ,BX,BV,BK,BZ,BU,AB,lMc,lMn,lAn,↓reduceIte,Nat.reduceEqDiff,Nat.add_zero,oGs,bNf,enP,O3,lt0]
 refine (ANR G t.last t.m 134 (fun x => !lastB x.l) H (by omega) (fun x hxm=>AJK G x H (ht.len x hxm))).use ?_
 simp -implicitDefEqProofs only [BL,A8,CJ,AY,BB,BJ,BP,CO,F7,AO,AQ,AL,BD,AX,AC,AA,AZ,AU,BM,A7,CP,DN,G6,AB,EY,↓reduceIte,Nat.reduceEqDiff,oGs,bNf]
 exact ⟨by rw [AR5]; rfl,hx⟩
theorem AKR (m:Mo) (hm:MoOk m) (t:Tk) (ht:TkOk t) (h:Hp):PCall (En G) 71 [.agg (EH m),.agg (JI t)] h (.bool (AR6 m t)):=by
 refine ACalls.pure0 rfl ?_
 have hn:=ht.num
 refine CE (H:=Hint.none) (enM G) Tryz.func71 rfl (by kernel_rfl) (by kernel_rfl) (nLb (by kernel_rfl)) ?_
 show awp _ _ _ _ _ (EJ _ [.tmp 4] _)
 have gm:=CW (x:=ABlk.live 1 [JI t]) (CZ h (ABlk.live 2 [EH m]))
 have gt:=CZ (h ++ [ABlk.live 2 [EH m]]) (ABlk.live 1 [JI t])
 have hx:ext h (h ++ [ABlk.live 2 [EH m]] ++ [ABlk.live 1 [JI t]]):=((ext.rfl' h).app _).app _
 simp -implicitDefEqProofs only [BC,BA,A8,AY,BB,AO,AQ,AL,BD,AX,AC,AA,AZ,AU,BM,A7,FV,BV,CB,BF,BN,↓reduceIte,Nat.reduceEqDiff,oGs,bNf,enP,bxM,bxT]
 generalize h ++ [ABlk.live 2 [EH m]] ++ [ABlk.live 1 [JI t]]=H at gm gt hx ⊢
 generalize (h ++ [ABlk.live 2 [EH m]]).length=tb at gt ⊢
 have l0:D7 Tryz.prog H 22 (.ptr h.length 0 0)=some (.sl m.pm 6 (m.pts.map FH)):=by rw [DL TQ gm (row:=EH m) rfl,OC]
 have lt0:D7 Tryz.prog H 26 (.ptr tb 0 0)=some (.sl t.m 1 (t.last.map encL)):=by rw [DL OM gt (row:=JI t) rfl,AL0]
 simp -implicitDefEqProofs only [AY,AO,AQ,AL,BD,AX,AC,AA,AZ,BX,BZ,BU,AB,lMc,lMn,lAn,↓reduceIte,oGs,bNf,ldM gm]
 refine (QA G m hm H).use ?_
 simp -implicitDefEqProofs only [AY,BJ,BP,CO,AO,AQ,AL,BD,AX,AC,AA,AZ,AU,BH,BG,BQ,AB,EG,↓reduceIte,oGs,bNf,enP]
 unfold AR6
 cases h1:(GM m == 0)
 ·simp -implicitDefEqProofs only [BC,BA,BL,BI,A8,CQ,CJ,CY,AY,BB,BJ,BP,CO,FQ,AO,AQ,AL,BD,AX,AC,AA,EP,AZ,AU,BM,A7,CP,DN,↓reduceIte,Nat.reduceEqDiff,oGs,bNf,bne,h1]
  exact ⟨by first | trivial | rfl,hx⟩
 simp -implicitDefEqProofs only [BI,A8,AY,BB,BJ,BP,CO,EM,AO,AQ,AL,BD,AX,AC,AA,AZ,AU,BM,CP,DR,BV,BQ,BK,DZ,AB,EG,↓reduceIte,Nat.reduceEqDiff,Nat.add_zero,oGs,bNt,bNf,enP,PM,IC,QT,O3,bne,h1,l0,lt0,lLm]
 cases h2:(((t.last.length:Nat):Int) == ((m.pts.length:Nat):Int))
 ·simp -implicitDefEqProofs only [BC,BA,BL,A8,CQ,CJ,CY,AY,BB,AO,AQ,AL,BD,AX,AC,AA,AU,BM,A7,↓reduceIte,oGs,bNf]
  exact ⟨by first | trivial | rfl,hx⟩
 simp -implicitDefEqProofs only [BC,BR,BA,BO,A8,DU,AY,BB,AO,AQ,AL,BD,AX,AC,AU,BH,A7,oGs,bNt,bNf]
 refine DT (fun n F H' => ∃ k,n+k=t.last.length∧F 3 = .ptr tb 0 0∧F 5 = .int .i64 (k:Nat)∧H'=H∧(t.last.all fun x=>lastB x.l)=(t.last.drop k).all fun x=>lastB x.l) t.last.length ⟨0,by simp,by simp -implicitDefEqProofs only [AA,↓reduceIte,Nat.reduceEqDiff],by simp -implicitDefEqProofs only [AA,↓reduceIte] <;> rfl,rfl,rfl⟩ ?_
 rintro n F H' ⟨k,hk,f3,f5,rfl,hin⟩
 simp -implicitDefEqProofs only [BC,BA,BI,A8,AY,BB,AO,AQ,AL,BD,AX,AC,AA,AZ,BG,BV,BQ,BK,DZ,AB,DC,↓reduceIte,Nat.reduceEqDiff,Nat.add_zero,oGs,bNf,enP,QT,O3,f3,f5,lt0,lLm]
 refine CV (fun hc => ?_) (fun hc => ?_)
 ·have hk':k < t.last.length:=by simpa using hc
  rw [List.drop_eq_getElem_cons hk',List.all_cons] at hin
  simp -implicitDefEqProofs only [BC,BR,BA,BO,A8,AY,AO,AQ,AL,BD,AX,AC,AA,AZ,BX,BG,BV,BK,CG,BZ,BU,AB,lMc,lMn,lAn,↓reduceIte,Nat.reduceEqDiff,Nat.add_zero,oGs,bNf,enP,OX,O3,f3,f5,lt0,D6 hk',DV L8 hk',OD]
  refine (AD0 G t.last[k].l t.last[k].m H' (by have:=ht.len _ (List.getElem_mem hk'); omega)).use ?_
  simp -implicitDefEqProofs only [BI,A8,AY,BB,AO,AQ,AL,BD,AX,AC,AA,AZ,G6,AB,EY,↓reduceIte,oGs,bNf]
  cases hq:lastB t.last[k].l
  ·rw [hq,Bool.false_and] at hin
   simp -implicitDefEqProofs only [BC,BA,BL,A8,CQ,D8,FI,CJ,CY,AY,BB,AO,AQ,AL,BD,AX,AC,AA,AU,BM,A7,↓reduceIte,oGs,bNf]
   exact ⟨by rw [hin]; rfl,hx⟩
  ·rw [hq,Bool.true_and] at hin
   simp -implicitDefEqProofs only [BA,BO,A8,EE,EN,DU,AY,BB,AO,AQ,AL,BD,AX,AC,AA,AZ,AU,BH,BG,A7,BQ,AB,DF,↓reduceIte,Nat.reduceEqDiff,oGs,bNt,bNf,enP,f5,wrap_succ (show k < 9223372036854775807 by omega)]
   exact ⟨n - 1,by omega,k+1,by omega,by first | trivial | exact f3,by first | trivial | rfl,trivial,hin⟩
 ·have hk' : ¬ k < t.last.length:=by simpa using hc
  rw [List.drop_eq_nil_of_le (by omega)] at hin
  simp -implicitDefEqProofs only [BC,BA,BL,DJ,A8,D9,EX,EW,CJ,AY,BB,AO,AQ,AL,BD,AX,AC,AA,AU,BM,A7,↓reduceIte,oGs,bNf]
  exact ⟨by rw [hin]; rfl,hx⟩
theorem ADK (a b:Tk) (ha:TkOk a) (hb:TkOk b) (h:Hp):PCall (En G) 69 [.agg (JI a),.agg (JI b)] h (.bool (TK a.last b.last)):=by
 refine ACalls.pure0 rfl ?_
 refine CE (H:=Hint.none) (enM G) Tryz.func69 rfl (by kernel_rfl) (by kernel_rfl) (nLb (by kernel_rfl)) ?_
 show awp _ _ _ _ _ (EJ _ [.tmp 4] _)
 have ga:=CW (x:=ABlk.live 1 [JI b]) (CZ h (ABlk.live 1 [JI a]))
 have gb:=CZ (h ++ [ABlk.live 1 [JI a]]) (ABlk.live 1 [JI b])
 have hx:ext h (h ++ [ABlk.live 1 [JI a]] ++ [ABlk.live 1 [JI b]]):=((ext.rfl' h).app _).app _
 simp -implicitDefEqProofs only [BC,BA,A8,AY,BB,AO,AQ,AL,BD,AX,AC,AA,AZ,AU,BM,A7,FV,BV,BK,CB,AB,BF,BN,↓reduceIte,Nat.reduceEqDiff,Nat.add_zero,oGs,bNf,enP,O3,bxT]
 generalize h ++ [ABlk.live 1 [JI a]] ++ [ABlk.live 1 [JI b]]=H at ga gb hx ⊢
 generalize (h ++ [ABlk.live 1 [JI a]]).length=tb at gb ⊢
 have la:D7 Tryz.prog H 26 (.ptr h.length 0 0)=some (.sl a.m 1 (a.last.map encL)):=by rw [DL OM ga (row:=JI a) rfl,AL0]
 have lb:D7 Tryz.prog H 26 (.ptr tb 0 0)=some (.sl b.m 1 (b.last.map encL)):=by rw [DL OM gb (row:=JI b) rfl,AL0]
 simp -implicitDefEqProofs only [AY,AO,AQ,AL,BD,AX,AC,AA,AZ,BX,BV,BK,BZ,BU,AB,lMc,lMn,lAn,↓reduceIte,Nat.reduceEqDiff,Nat.add_zero,oGs,bNf,enP,O3,la,lb]
 refine (UY G a.last b.last a.m b.m H ha.num hb.len).use ?_
 simp -implicitDefEqProofs only [BL,A8,CJ,AY,BB,AO,AQ,AL,BD,AX,AC,AA,AZ,A7,↓reduceIte,oGs,bNf]
 exact ⟨by first | trivial | rfl,hx⟩
end
def NLB (o:Nat) (bs:List Nat) (xss:List (List Int)) (b:Nat):Prop:=(xss≠[]∧b=o)∨b∈bs
theorem NL.lt {n0:Nat} {H:Hp} {o:Nat} {bs:List Nat} {xss:List (List Int)} (N:NL n0 H o bs xss) {b:Nat} (hb:NLB o bs xss b):n0≤b∧b < H.length:=by
 rcases hb with ⟨h,rfl⟩ | h
 ·exact ⟨N.lo' h,N.top_lt h⟩
 ·exact ⟨N.lo _ h,N.mem_lt h⟩
theorem NL.base {n0 k:Nat} {H:Hp} {o:Nat} {bs:List Nat} {xss:List (List Int)} (N:NL n0 H o bs xss) (h:k≤n0):NL k H o bs xss :=
 ⟨N.len,N.top,N.row,N.nodup,N.out,fun b hb=>Nat.le_trans h (N.lo b hb),fun q=>Nat.le_trans h (N.lo' q)⟩
theorem AGA {o:Nat} {bs:List Nat} {xss:List (List Int)} {q:Nat} (h:isB (nlV o xss) q):NLB o bs xss q := .inl (AE8 h)
theorem AIX {o t b:Nat} {bs:List Nat} {xss:List (List Int)} {xs:List Int} {q:Nat} (h:NLB t (bs ++ [b]) (xss ++ [xs]) q):q=t∨NLB o bs xss q∨q=b:=by
 rcases h with ⟨_,rfl⟩ | h
 ·exact .inl rfl
 ·rcases List.mem_append.1 h with h | h
  ·exact .inr (.inl (.inr h))
  ·exact .inr (.inr (by simpa using h))
def zP (m:Mo):List (List Int):=m.pts.map fun p=>zeros p.bins.length
def zC (m:Mo):List (List Int):=m.crs.map fun c=>zeros (II (szs m c.pts))
theorem AI3 (m:Mo):(zP m).length=m.pts.length:=by simp [zP]
theorem AI4 (m:Mo):(zC m).length=m.crs.length:=by simp [zC]
theorem ARV (m:Mo) (i:Nat) (hi:i < m.pts.length):(zP m).take (i+1)=(zP m).take i ++ [zeros m.pts[i].bins.length]:=by
 have hl:i < (zP m).length:=by unfold zP; simpa using hi
 rw [List.take_succ_eq_append_getElem hl]; simp [zP]
theorem ARW (m:Mo) (i:Nat) (hi:i < m.crs.length):(zC m).take (i+1)=(zC m).take i ++ [zeros (II (szs m m.crs[i].pts))]:=by
 have hl:i < (zC m).length:=by unfold zC; simpa using hi
 rw [List.take_succ_eq_append_getElem hl]; simp [zC]
theorem YK (n:Nat):(zeros n).length=n:=by simp [zeros]
structure NC (n0:Nat) (H:Hp) (po:Nat) (pb:List Nat) (co:Nat) (cbs:List Nat) (P C:List (List Int)):Prop where
 np:NL n0 H po pb P
 nc:NL n0 H co cbs C
 dis : ∀ b,NLB po pb P b→¬ NLB co cbs C b
theorem NC.keep {n0:Nat} {H H':Hp} {po:Nat} {pb:List Nat} {co:Nat} {cbs:List Nat} {P C:List (List Int)} (N:NC n0 H po pb co cbs P C) (hk : ∀ b x,n0≤b→b < H.length→H[b]? = some x→H'[b]? = some x):NC n0 H' po pb co cbs P C :=
 ⟨N.np.keep fun b x hb h=>hk b x (N.np.lt hb).1 (N.np.lt hb).2 h,N.nc.keep fun b x hb h=>hk b x (N.nc.lt hb).1 (N.nc.lt hb).2 h,N.dis⟩
theorem NC.base {n0 k:Nat} {H:Hp} {po:Nat} {pb:List Nat} {co:Nat} {cbs:List Nat} {P C:List (List Int)} (N:NC n0 H po pb co cbs P C) (h:k≤n0):NC k H po pb co cbs P C:=⟨N.np.base h,N.nc.base h,N.dis⟩
theorem NC.cs {n0:Nat} {H:Hp} {po:Nat} {pb:List Nat} {co:Nat} {cbs:List Nat} {P C:List (List Int)} (N:NC n0 H po pb co cbs P C) {cb tb:Nat} {sam ill:Int} {v3:AV} (gc:H[cb]? = some (.live 4 [cvR po P co C sam ill])) (gt:H[tb]? = some (.live 1 [[v3]])) (ht:cb≠tb)
  (hc : ∀ b,NLB po pb P b∨NLB co cbs C b→b≠cb∧b≠tb):CS n0 H cb tb po co pb cbs P C sam ill v3:=by
 refine ⟨gc,gt,N.np,N.nc,fun b h1 h2=>N.dis b (.inr h1) (.inr h2),fun h=>(hc _ (.inl (.inr h))).1 rfl,fun h=>(hc _ (.inr (.inr h))).1 rfl,fun h=>(hc _ (.inl (.inr h))).2 rfl,fun h=>(hc _ (.inr (.inr h))).2 rfl,fun h=>⟨fun q=>N.dis _ (.inl ⟨h,rfl⟩) (.inr q),?_,?_⟩,fun h=>⟨fun q=>N.dis _ (.inr q) (.inl ⟨h,rfl⟩),?_,?_⟩,ht⟩
 ·exact fun e=>(hc _ (.inl (.inl ⟨h,rfl⟩))).1 e.symm
 ·exact fun e=>(hc _ (.inl (.inl ⟨h,rfl⟩))).2 e.symm
 ·exact fun e=>(hc _ (.inr (.inl ⟨h,rfl⟩))).1 e.symm
 ·exact fun e=>(hc _ (.inr (.inl ⟨h,rfl⟩))).2 e.symm
structure EmO (h H:Hp) (m:Mo) (po:Nat) (pb:List Nat) (co:Nat) (cbs:List Nat) (v3:AV):Prop where
 nc:NC h.length H po pb co cbs (zP m) (zC m)
 o3:outG 1 (fun _:Pt=>GK) h m.pts v3 H
set_option maxHeartbeats 4000000 in
theorem ANN (G:Nat→AV) (m:Mo) (hm:MoOk m) (hg:Cov.Good m) (h:Hp):ACalls (En G) 127 [.agg (EH m)] h fun v H=>ext h H∧∃ po pb co cbs v3,v = .tup [.agg (I7 (nlV po (zP m)) (nlV co (zC m))),.agg [v3]]∧EmO h H m po pb co cbs v3:=by
 have hm1:=hm.np
 have hm2:=hm.nc
 have hnum:=hg.num
 refine CE (H:=hint [22,23,24,45,46,47] []) (enM G) Tryz.func127 rfl (by kernel_rfl) (by kernel_rfl) (nLb (by kernel_rfl)) ?_
 show awp _ _ _ _ _ (EJ _ [.cell 2 28,.cell 3 47] _)
 have E:=Em.mk' h m
 simp -implicitDefEqProofs only [CX,List.contains_cons,List.contains_nil,Nat.reduceBEq,Bool.or_false,BC,BA,A8,AY,BB,AL,BD,AX,AC,AA,AZ,FY,FV,BV,BK,CB,AB,BF,↓reduceIte,Nat.reduceEqDiff,Nat.add_zero,oGs,bNf,enP,IC,ED,bxM,OO,ZH]
 generalize h ++ [ABlk.live 2 [EH m]] ++ [ABlk.live 4 [GH]] ++ [ABlk.live 1 [GK]] ++ [ABlk.live 4 [GH]] ++ [ABlk.live 1 [GK]]=H0 at E ⊢
 generalize (h ++ [ABlk.live 2 [EH m]] ++ [ABlk.live 4 [GH]] ++ [ABlk.live 1 [GK]] ++ [ABlk.live 4 [GH]]).length=b5 at E ⊢
 generalize (h ++ [ABlk.live 2 [EH m]] ++ [ABlk.live 4 [GH]] ++ [ABlk.live 1 [GK]]).length=b4 at E ⊢
 generalize (h ++ [ABlk.live 2 [EH m]] ++ [ABlk.live 4 [GH]]).length=b3 at E ⊢
 generalize (h ++ [ABlk.live 2 [EH m]]).length=b2 at E ⊢
 have o2:=E.o2; have o3:=E.o3; have o4:=E.o4; have o5:=E.o5
 have hlt0:=E.lt
 simp -implicitDefEqProofs only [CX,List.contains_cons,List.contains_nil,Nat.reduceBEq,Bool.or_false,BR,A8,AY,BB,AL,BD,AX,AC,AA,AZ,AU,BH,BG,DZ,AB,↓reduceIte,oGs,bNf,enP,PM,ED,E.m0,lLm]
 refine GV 0 (fun F H => ∃ po pb v3,F 1 = .ptr h.length 0 0∧F 2 = .ptr b2 0 0∧F 3 = .ptr b3 0 0∧F 4 = .ptr b4 0 0∧F 5 = .ptr b5 0 0∧Em h H m b2 b3 b4 b5 (nlV po (zP m)) (.sl .nil 0 []) v3∧NL H0.length H po pb (zP m)∧outG 1 (fun _:Pt=>GK) H0 m.pts v3 H∧(∀ b,NLB po pb (zP m) b→¬ isB v3 b)∧H0.length≤H.length) (fun _ _=>False) ?_ ?_ (fun _ _ hh=>hh.elim)
 ·refine DT (fun n F H => ∃ i po pb v3,n+i=m.pts.length∧F 1 = .ptr h.length 0 0∧F 2 = .ptr b2 0 0∧F 3 = .ptr b3 0 0∧F 4 = .ptr b4 0 0∧F 5 = .ptr b5 0 0∧F 11 = .sl m.pm 6 (m.pts.map FH)∧F 12 = .int .i64 m.pts.length∧F 13 = .int .i64 (i:Nat)∧Em h H m b2 b3 b4 b5 (nlV po ((zP m).take i)) (.sl .nil 0 []) v3∧NL H0.length H po pb ((zP m).take i)∧outG 1 (fun _:Pt=>GK) H0 (m.pts.take i) v3 H∧(∀ b,NLB po pb ((zP m).take i) b→¬ isB v3 b)∧H0.length≤H.length) m.pts.length
   ⟨0,0,[],.sl .nil 0 [],by simp,by simp -implicitDefEqProofs only [AA,↓reduceIte,Nat.reduceEqDiff],by simp -implicitDefEqProofs only [AA,↓reduceIte,Nat.reduceEqDiff],by simp -implicitDefEqProofs only [AA,↓reduceIte,Nat.reduceEqDiff],by simp -implicitDefEqProofs only [AA,↓reduceIte,Nat.reduceEqDiff],by simp -implicitDefEqProofs only [AA,↓reduceIte,Nat.reduceEqDiff],by simp -implicitDefEqProofs only [AA,↓reduceIte,Nat.reduceEqDiff],by simp -implicitDefEqProofs only [AA,↓reduceIte,Nat.reduceEqDiff],by simp -implicitDefEqProofs only [AA,↓reduceIte]; rfl,by rw [List.take_zero]; exact E,by rw [List.take_zero]; exact NL.nil _ _ _,by rw [List.take_zero]; exact outG.nil _ _ _ _,fun b _ hb'=>hb',Nat.le_refl _⟩ ?_
  clear E
  rintro n F H ⟨i,po,pb,v3,hi,f1,f2,f3,f4,f5,f11,f12,f13,E,N,ho3,hdis,hle⟩
  simp -implicitDefEqProofs only [CX,List.contains_cons,List.contains_nil,Nat.reduceBEq,Bool.or_false,BC,BA,BI,A8,AY,BB,AL,BD,AX,AC,AA,AZ,BQ,AB,DC,↓reduceIte,oGs,bNf,enP,ED,f12,f13]
  refine CV (fun hc => ?_) (fun hc => ?_)
  ·have hi':i < m.pts.length:=by simpa using hc
   have h64:=(hg.full _ (List.getElem_mem hi')).2
   have hP:=ARV m i hi'
   have hzl:=YK m.pts[i].bins.length
   have htl:((zP m).take i).length≤1048576:=by rw [List.length_take,AI3]; omega
   simp -implicitDefEqProofs only [CX,List.contains_cons,List.contains_nil,Nat.reduceBEq,Bool.or_false,BC,BR,BA,BO,A8,AY,BB,AL,BD,AX,AC,FC,AA,AZ,FY,BV,ER,CG,CB,AB,DX,↓reduceIte,Nat.reduceEqDiff,oGs,bNf,enP,OJ,ED,Option.getD_none,f11,f13,D6 hi',FP YG UF IW hi',AKJ,AI6 _ _ [.str ⟨#[]⟩,.int .i64 0,.int .i64 0,.str ⟨#[]⟩,.sl .nil 0 [],.sl .nil 0 []] rfl]
   have hl1:(H ++ [ABlk.live 6 [FH m.pts[i]]]).length=H.length+1:=by simp
   have E1:=E.app [.live 6 [FH m.pts[i]]]
   have N1:=N.app [.live 6 [FH m.pts[i]]]
   have ho1:=ho3.app [.live 6 [FH m.pts[i]]]
   have lp:D7 Tryz.prog (H ++ [ABlk.live 6 [FH m.pts[i]]]) 54 (.ptr H.length 0 5)=some (.sl m.pts[i].bm 4 (m.pts[i].bins.map GN)):=by rw [DI O5,LH]
   generalize H ++ [ABlk.live 6 [FH m.pts[i]]]=Ha at hl1 E1 N1 ho1 lp ⊢
   have N2:=(N1.app [.live 1 ((zeros m.pts[i].bins.length).map encI)]).app [.live 1 [[.own Ha.length 0 m.pts[i].bins.length]]]
   have E2:=(E1.app [.live 1 ((zeros m.pts[i].bins.length).map encI)]).app [.live 1 [[.own Ha.length 0 m.pts[i].bins.length]]]
   have ho2:=(ho1.app [.live 1 ((zeros m.pts[i].bins.length).map encI)]).app [.live 1 [[.own Ha.length 0 m.pts[i].bins.length]]]
   have gb:=CW (x:=ABlk.live 1 [[.own Ha.length 0 m.pts[i].bins.length]]) (CZ Ha (ABlk.live 1 ((zeros m.pts[i].bins.length).map encI)))
   have gt:=CZ (Ha ++ [ABlk.live 1 ((zeros m.pts[i].bins.length).map encI)]) (ABlk.live 1 [[.own Ha.length 0 m.pts[i].bins.length]])
   have hl2:(Ha ++ [ABlk.live 1 ((zeros m.pts[i].bins.length).map encI)] ++ [ABlk.live 1 [[.own Ha.length 0 m.pts[i].bins.length]]]).length=Ha.length+2:=by simp
   refine FB (by kernel_rfl) ?_
   simp -implicitDefEqProofs only [F8,FZ,F6,CX,List.contains_cons,List.contains_nil,Nat.reduceBEq,Bool.or_false,Bool.or_true,EC,DW,EF,J7,FD,MH,EI,IM,AA,AZ,EQ,BV,JG,BK,DZ,IQ,CB,AB,↓reduceIte,Nat.reduceEqDiff,Nat.reduceAdd,Nat.add_zero,Nat.zero_add,oGs,enP,MC,OV,H9,f4,E1.l4,lp,lLm,mkI _ _ (show m.pts[i].bins.length≤1048576 by omega),AMB]
   generalize Ha ++ [ABlk.live 1 ((zeros m.pts[i].bins.length).map encI)] ++ [ABlk.live 1 [[.own Ha.length 0 m.pts[i].bins.length]]]=Hb at N2 E2 ho2 gb gt hl2 ⊢
   generalize (Ha ++ [ABlk.live 1 ((zeros m.pts[i].bins.length).map encI)]).length=tb at gt ⊢
   obtain ⟨H2,hap,N3,hk,hl3,hx3⟩:=N2.snoc gb (by omega) (by omega) (fun q=>by have:=N.mem_lt q; omega) (fun q e=>by have:=N.top_lt q; omega) (by rw [hzl]; exact gt) htl
   rw [← hP] at N3 hap
   have hne:(zP m).take (i+1)≠[]:=by rw [hP]; simp
   have E3:=E2.keep hk (fun b hb=>by
    obtain ⟨q,rfl⟩:=AE8 hb
    have:=N.lo' q; omega) (hx3 h (by omega))
   rw [TG _ hne] at hap
   refine JR hap ?_
   have E4:=E3.set4 (.own Hb.length 0 ((zP m).take (i+1)).length) (.sl .nil 0 [])
   have ho4:=(ho2.keepA hk (fun b hb hb'=>hdis b (AGA hb') hb)).setB (b:=b4) (by omega) (.live 4 [I7 (.own Hb.length 0 ((zP m).take (i+1)).length) (.sl .nil 0 [])])
   have N4:NL H0.length (H2.set b4 (.live 4 [I7 (.own Hb.length 0 ((zP m).take (i+1)).length) (.sl .nil 0 [])])) Hb.length (pb ++ [Ha.length]) ((zP m).take (i+1)):=N3.keep fun b x hb hg=>DK hg (by have:=N3.lt hb; omega)
   have hl4:(H2.set b4 (.live 4 [I7 (.own Hb.length 0 ((zP m).take (i+1)).length) (.sl .nil 0 [])])).length=H2.length:=by simp
   simp -implicitDefEqProofs only [F8,CX,List.contains_cons,List.contains_nil,Nat.reduceBEq,Bool.or_false,EC,DW,LU,FK,EF,LM,EI,BA,A8,AY,AL,BD,AX,AA,AZ,ER,BK,AB,DX,↓reduceIte,Nat.reduceEqDiff,Nat.reduceAdd,Nat.add_zero,Nat.zero_add,oGs,bNf,enP,MC,ED,Option.getD_none,f4,E3.s4]
   generalize H2.set b4 (.live 4 [I7 (.own Hb.length 0 ((zP m).take (i+1)).length) (.sl .nil 0 [])])=H4 at E4 ho4 N4 hl4 ⊢
   obtain ⟨v3',H5,hap3,ho5,hk3,hl5,hn3,⟨o3',l3,rfl⟩,hx5⟩:=ho4.app2 AC2 XM AGB ADF (by omega) (by rw [List.length_take]; omega) (by omega) m.pts[i]
   rw [← List.take_succ_eq_append_getElem hi'] at ho5
   have E5:=E4.keep hk3 (fun b hb=>by have:=ho4.lt hb; omega) (hx5 h (by omega))
   have E6:=E5.set5 (.own o3' 0 l3)
   have ho6:=ho5.setB (b:=b5) (by omega) (.live 1 [[.own o3' 0 l3]])
   have N5:NL H0.length (H5.set b5 (.live 1 [[.own o3' 0 l3]])) Hb.length (pb ++ [Ha.length]) ((zP m).take (i+1)):=N4.keep fun b x hb hg=>DK (hk3 b x hg (fun q=>by
    rw [hP] at hb
    rcases AIX (o:=po) hb with rfl | hb | rfl
    ·have:=ho3.lt q; omega
    ·exact hdis _ hb q
    ·have:=ho3.lt q; omega)) (by have:=N4.lt hb; omega)
   simp -implicitDefEqProofs only [FZ,F6,CX,List.contains_cons,List.contains_nil,Nat.reduceBEq,Bool.or_false,AY,AL,BD,AX,AC,AA,AZ,AU,JE,EQ,BV,IQ,CB,AB,↓reduceIte,Nat.reduceEqDiff,Nat.add_zero,oGs,bNf,enP,O3,ED,f5,E4.l5,AU6]
   refine JR (v := .own o3' 0 l3) (h:=H5) hap3 ?_
   simp -implicitDefEqProofs only [CX,List.contains_cons,List.contains_nil,Nat.reduceBEq,Bool.or_false,BA,A8,EE,EN,AY,BB,AL,BD,AX,AC,FC,AA,AZ,AU,BH,BG,ER,BQ,BK,AB,DX,DF,↓reduceIte,Nat.reduceEqDiff,Nat.add_zero,oGs,bNf,enP,O3,ED,Option.getD_none,f5,E5.s5,f13,wrap_succ (show i < 9223372036854775807 by omega)]
   rw [← TG _ hne] at E6
   exact ⟨n - 1,by omega,i+1,Hb.length,_,.own o3' 0 l3,by omega,by first | trivial | exact f1,by first | trivial | exact f2,by first | trivial | exact f3,by first | trivial | exact f4,by first | trivial | exact f5,by first | trivial | exact f11,by first | trivial | exact f12,by first | trivial | rfl,E6,N5,ho6,fun b hb hb'=>by
    have h1:=hn3 b hb'
    have h2:=N4.lt hb
    omega,by rw [List.length_set]; omega⟩
  ·have hi' : ¬ i < m.pts.length:=by simpa using hc
   rw [List.take_of_length_le (by rw [AI3]; omega)] at N E hdis
   rw [List.take_of_length_le (by omega)] at ho3
   simp -implicitDefEqProofs only [DJ,D9,J4,EW,AA,↓reduceIte,Nat.reduceEqDiff]
   exact ⟨po,pb,v3,f1,f2,f3,f4,f5,E,N,ho3,hdis,hle⟩
 ·rintro F H ⟨po,pb,v3,f1,f2,f3,f4,f5,E,N,ho3,hdis,hle⟩
  simp -implicitDefEqProofs only [CX,List.contains_cons,List.contains_nil,Nat.reduceBEq,Bool.or_false,BC,BR,BA,A8,EX,AY,BB,AL,BD,AX,AC,AA,AZ,AU,BH,BG,BV,BK,DZ,AB,↓reduceIte,Nat.zero_add,oGs,bNf,enP,UA,JW,ED,f1,E.m1,lLm]
  refine GV 2 (fun F H => ∃ co cbs,F 2 = .ptr b2 0 0∧F 3 = .ptr b3 0 0∧F 4 = .ptr b4 0 0∧F 5 = .ptr b5 0 0∧Em h H m b2 b3 b4 b5 (nlV po (zP m)) (nlV co (zC m)) v3∧NC H0.length H po pb co cbs (zP m) (zC m)∧outG 1 (fun _:Pt=>GK) H0 m.pts v3 H) (fun _ _=>False) ?_ ?_ (fun _ _ hh=>hh.elim)
  ·refine DT (fun n F H => ∃ i co cbs,n+i=m.crs.length∧F 1 = .ptr h.length 0 0∧F 2 = .ptr b2 0 0∧F 3 = .ptr b3 0 0∧F 4 = .ptr b4 0 0∧F 5 = .ptr b5 0 0∧F 33 = .sl m.cm 3 (m.crs.map F9)∧F 34 = .int .i64 m.crs.length∧F 35 = .int .i64 (i:Nat)∧Em h H m b2 b3 b4 b5 (nlV po (zP m)) (nlV co ((zC m).take i)) v3∧NL H0.length H po pb (zP m)∧NL H0.length H co cbs ((zC m).take i)∧outG 1 (fun _:Pt=>GK) H0 m.pts v3 H∧(∀ b,NLB co cbs ((zC m).take i) b→¬ NLB po pb (zP m) b∧¬ isB v3 b)∧H0.length≤H.length) m.crs.length
    ⟨0,0,[],by simp,by simp -implicitDefEqProofs only [AA,↓reduceIte,Nat.reduceEqDiff,f1],by simp -implicitDefEqProofs only [AA,↓reduceIte,Nat.reduceEqDiff,f2],by simp -implicitDefEqProofs only [AA,↓reduceIte,Nat.reduceEqDiff,f3],by simp -implicitDefEqProofs only [AA,↓reduceIte,Nat.reduceEqDiff,f4],by simp -implicitDefEqProofs only [AA,↓reduceIte,Nat.reduceEqDiff,f5],by simp -implicitDefEqProofs only [AA,↓reduceIte,Nat.reduceEqDiff],by simp -implicitDefEqProofs only [AA,↓reduceIte,Nat.reduceEqDiff],by simp -implicitDefEqProofs only [AA,↓reduceIte]; rfl,by rw [List.take_zero]; exact E,N,by rw [List.take_zero]; exact NL.nil _ _ _,ho3,(fun b hb=>by
     rcases hb with ⟨q,_⟩ | q
     ·exact absurd rfl q
     ·cases q),hle⟩ ?_
   clear f1 f2 f3 f4 f5 E N ho3 hdis hle
   rintro n F H ⟨i,co,cbs,hi,f1,f2,f3,f4,f5,f33,f34,f35,E,NP,N,ho3,hdis,hle⟩
   simp -implicitDefEqProofs only [CX,List.contains_cons,List.contains_nil,Nat.reduceBEq,Bool.or_false,BC,BA,BI,A8,AY,BB,AL,BD,AX,AC,AA,AZ,BQ,AB,DC,↓reduceIte,oGs,bNf,enP,ED,f34,f35]
   refine CV (fun hc => ?_) (fun hc => ?_)
   ·have hi':i < m.crs.length:=by simpa using hc
    have hcg:=hg.crs _ (List.getElem_mem hi')
    have hfs:=hg.full.szs hcg.here
    have hsl:=NF m m.crs[i].pts
    have hfour:=hcg.four
    have hpr:=hcg.prod
    have hC:=ARW m i hi'
    have hzl:=YK (II (szs m m.crs[i].pts))
    have htl:((zC m).take i).length≤1048576:=by rw [List.length_take,AI4]; omega
    simp -implicitDefEqProofs only [CX,List.contains_cons,List.contains_nil,Nat.reduceBEq,Bool.or_false,BC,BR,BA,BO,A8,AY,BB,AL,BD,AX,AC,FC,AA,AZ,FY,BV,ER,CG,CB,AB,DX,↓reduceIte,Nat.reduceEqDiff,oGs,bNf,enP,XV,ED,Option.getD_none,f33,f35,D6 hi',FP ZI WH JY hi',AN4,AMO _ _ [.str ⟨#[]⟩,.sl .nil 0 [],.sl .nil 0 []] rfl]
    have hl1:(H ++ [ABlk.live 3 [F9 m.crs[i]]]).length=H.length+1:=by simp
    have E1:=E.app [.live 3 [F9 m.crs[i]]]
    have N1:=N.app [.live 3 [F9 m.crs[i]]]
    have NP1:=NP.app [.live 3 [F9 m.crs[i]]]
    have ho1:=ho3.app [.live 3 [F9 m.crs[i]]]
    have gc1:=CZ H (.live 3 [F9 m.crs[i]])
    generalize H ++ [ABlk.live 3 [F9 m.crs[i]]]=Ha at hl1 E1 N1 NP1 ho1 gc1 ⊢
    generalize hpn:II (szs m m.crs[i].pts)=pn at hC hzl hpr
    have N2:=(N1.app [.live 1 ((zeros pn).map encI)]).app [.live 1 [[.own Ha.length 0 pn]]]
    have NP2:=(NP1.app [.live 1 ((zeros pn).map encI)]).app [.live 1 [[.own Ha.length 0 pn]]]
    have E2:=(E1.app [.live 1 ((zeros pn).map encI)]).app [.live 1 [[.own Ha.length 0 pn]]]
    have ho2:=(ho1.app [.live 1 ((zeros pn).map encI)]).app [.live 1 [[.own Ha.length 0 pn]]]
    have gb:=CW (x:=ABlk.live 1 [[.own Ha.length 0 pn]]) (CZ Ha (ABlk.live 1 ((zeros pn).map encI)))
    have gt:=CZ (Ha ++ [ABlk.live 1 ((zeros pn).map encI)]) (ABlk.live 1 [[.own Ha.length 0 pn]])
    have hl2:(Ha ++ [ABlk.live 1 ((zeros pn).map encI)] ++ [ABlk.live 1 [[.own Ha.length 0 pn]]]).length=Ha.length+2:=by simp
    refine FB (by kernel_rfl) ?_
    simp -implicitDefEqProofs only [F8,CX,List.contains_cons,List.contains_nil,Nat.reduceBEq,Bool.or_false,Bool.or_true,EC,DW,EF,FD,MH,EI,GL,FW,AA,AZ,BX,BV,JG,BK,AB,lMc,lMn,lAn,↓reduceIte,Nat.reduceEqDiff,Nat.reduceAdd,Nat.zero_add,oGs,enP,MN,f1,f4,E1.l4',ldM E1.gm,ldC gc1]
    refine ⟨_,QG G m _ _ hcg.here (by omega),?_⟩
    try simp -implicitDefEqProofs only []
    refine ⟨_,P7 G _ _ _ (fun n hn=>(hfs n hn).2) (by omega),?_⟩
    rw [hpn]
    try simp -implicitDefEqProofs only [F8,FZ,F6,CX,List.contains_cons,List.contains_nil,Nat.reduceBEq,Bool.or_false,Bool.or_true,EC,DW,EF,J7,IM,AA,AZ,EQ,IQ,CB,↓reduceIte,Nat.reduceEqDiff,Nat.reduceAdd,oGs,enP,mkI _ _ (show pn≤1048576 by omega),AMB]
    generalize Ha ++ [ABlk.live 1 ((zeros pn).map encI)] ++ [ABlk.live 1 [[.own Ha.length 0 pn]]]=Hb at N2 NP2 E2 ho2 gb gt hl2 ⊢
    generalize (Ha ++ [ABlk.live 1 ((zeros pn).map encI)]).length=tb at gt ⊢
    obtain ⟨H2,hap,N3,hk,hl3,hx3⟩:=N2.snoc gb (by omega) (by omega) (fun q=>by have:=N.mem_lt q; omega) (fun q e=>by have:=N.top_lt q; omega) (by rw [hzl]; exact gt) htl
    rw [← hC] at N3 hap
    have hne:(zC m).take (i+1)≠[]:=by rw [hC]; simp
    have E3:=E2.keep hk (fun b hb=>by
     obtain ⟨q,rfl⟩:=AE8 hb
     have:=N.lo' q; omega) (hx3 h (by omega))
    rw [TG _ hne] at hap
    refine JR hap ?_
    have E4:=E3.set4 (nlV po (zP m)) (.own Hb.length 0 ((zC m).take (i+1)).length)
    have ho4:=(ho2.keepA hk (fun b hb hb'=>(hdis b (AGA hb')).2 hb)).setB (b:=b4) (by omega) (.live 4 [I7 (nlV po (zP m)) (.own Hb.length 0 ((zC m).take (i+1)).length)])
    have N4:NL H0.length (H2.set b4 (.live 4 [I7 (nlV po (zP m)) (.own Hb.length 0 ((zC m).take (i+1)).length)])) Hb.length (cbs ++ [Ha.length]) ((zC m).take (i+1)):=N3.keep fun b x hb hg=>DK hg (by have:=N3.lt hb; omega)
    have NP4:NL H0.length (H2.set b4 (.live 4 [I7 (nlV po (zP m)) (.own Hb.length 0 ((zC m).take (i+1)).length)])) po pb (zP m):=NP2.keep fun b x hb hg=>DK (hk b x hg (fun q=>(hdis b (AGA q)).1 hb)) (by have:=NP.lt hb; omega)
    simp -implicitDefEqProofs only [F8,CX,List.contains_cons,List.contains_nil,Nat.reduceBEq,Bool.or_false,EC,DW,LU,FK,EF,LM,EI,BA,A8,EE,EN,AY,BB,AL,BD,AX,AC,AA,AZ,AU,BH,BG,ER,BQ,BK,AB,DX,DF,↓reduceIte,Nat.reduceEqDiff,Nat.reduceAdd,Nat.zero_add,oGs,bNf,enP,MN,ED,Option.getD_none,f4,E3.s4',f35,wrap_succ (show i < 9223372036854775807 by omega)]
    have hl4:(H2.set b4 (.live 4 [I7 (nlV po (zP m)) (.own Hb.length 0 ((zC m).take (i+1)).length)])).length=H2.length:=by simp
    generalize H2.set b4 (.live 4 [I7 (nlV po (zP m)) (.own Hb.length 0 ((zC m).take (i+1)).length)])=H4 at E4 ho4 N4 NP4 hl4 ⊢
    rw [← TG Hb.length hne] at E4
    exact ⟨n - 1,by omega,i+1,Hb.length,_,by omega,by first | trivial | exact f1,by first | trivial | exact f2,by first | trivial | exact f3,by first | trivial | exact f4,by first | trivial | exact f5,by first | trivial | exact f33,by first | trivial | exact f34,by first | trivial | rfl,E4,NP4,N4,ho4,fun b hb=>by
     rw [hC] at hb
     rcases AIX (o:=co) hb with rfl | hb | rfl
     ·exact ⟨fun q=>by have:=NP.lt q; omega,fun q=>by have:=ho3.lt q; omega⟩
     ·exact hdis _ hb
     ·exact ⟨fun q=>by have:=NP.lt q; omega,fun q=>by have:=ho3.lt q; omega⟩,by omega⟩
   ·have hi' : ¬ i < m.crs.length:=by simpa using hc
    rw [List.take_of_length_le (by rw [AI4]; omega)] at N E hdis
    simp -implicitDefEqProofs only [DJ,D9,J4,EW,AA,↓reduceIte,Nat.reduceEqDiff]
    exact ⟨co,cbs,f2,f3,f4,f5,E,⟨NP,N,fun b h1 h2=>(hdis b h2).1 h1⟩,ho3⟩
  ·rintro F' H' ⟨co,cbs,g2,g3,g4,g5,E',N,q3⟩
   simp -implicitDefEqProofs only [BC,A8,EX,↓reduceIte]
   have p2:=E'.o2; have p3:=E'.o3; have p4:=E'.o4; have p5:=E'.o5
   refine SN [(5,2)] (by kernel_rfl) ?_ ?_
   ·simp -implicitDefEqProofs only [g2,g5,SV,VG,UK,and_true]
    omega
   simp -implicitDefEqProofs only [F8,CX,List.contains_cons,List.contains_nil,Nat.reduceBEq,Bool.or_false,EC,DW,LU,FK,EF,FD,LM,BL,A8,AA,AZ,BV,ER,AB,DX,↓reduceIte,Nat.reduceEqDiff,Nat.reduceAdd,Nat.zero_add,oGs,enP,Option.getD_none,g2,g3,g4,g5,LQ E'.g4 rfl,O9 E'.g5 rfl,AGQ E'.g2 rfl (N8 _ _) (N8 _ _),AGP (DK E'.g3 (show b3≠b2 by omega)) rfl q3.leaf]
   rw [AP7 (ba:=b2) (bb:=b3) (by simp -implicitDefEqProofs only [AA,↓reduceIte,Nat.reduceEqDiff,g2]) (by simp -implicitDefEqProofs only [AA,↓reduceIte,Nat.reduceEqDiff,g3]) (LQ (DK (ET E'.g2) (show b2≠b3 by omega)) rfl) (O9 (ET (DK E'.g3 (show b3≠b2 by omega))) rfl)]
   exact ⟨(E'.hx.set (by omega) _).set (by omega) _,po,pb,co,cbs,v3,rfl,(N.keep (H':=(H'.set b2 (.live 4 [I7 (nlV po (zP m)) (nlV co (zC m))])).set b3 (.live 1 [[v3]])) fun b x hb _ hg=>DK (DK hg (by omega)) (by omega)).base (by omega),((q3.setB (b:=b2) (by omega) _).setB (b:=b3) (by omega) _).base (by omega)⟩
theorem AV2 (H0:Hp) {v1 v2 v3:AV} (h1:v1.leaf=true) (h2:v2.leaf=true) (h3:v3.leaf=true) :
  FX Tryz.prog (H0 ++ [ABlk.live 4 [GH]] ++ [ABlk.live 1 [GK]]) 28 (.ptr H0.length 0 0) (.agg (I7 v1 v2))=some ((H0 ++ [ABlk.live 4 [GH]] ++ [ABlk.live 1 [GK]]).set H0.length (ABlk.live 4 [I7 v1 v2])) ∧
  FX Tryz.prog ((H0 ++ [ABlk.live 4 [GH]] ++ [ABlk.live 1 [GK]]).set H0.length (ABlk.live 4 [I7 v1 v2])) 47 (.ptr (H0 ++ [ABlk.live 4 [GH]]).length 0 0) (.agg [v3])=some (((H0 ++ [ABlk.live 4 [GH]] ++ [ABlk.live 1 [GK]]).set H0.length (ABlk.live 4 [I7 v1 v2])).set (H0 ++ [ABlk.live 4 [GH]]).length (ABlk.live 1 [[v3]])) ∧
  (((H0 ++ [ABlk.live 4 [GH]] ++ [ABlk.live 1 [GK]]).set H0.length (ABlk.live 4 [I7 v1 v2])).set (H0 ++ [ABlk.live 4 [GH]]).length (ABlk.live 1 [[v3]]))[H0.length]? = some (ABlk.live 4 [I7 v1 v2]) ∧
  (((H0 ++ [ABlk.live 4 [GH]] ++ [ABlk.live 1 [GK]]).set H0.length (ABlk.live 4 [I7 v1 v2])).set (H0 ++ [ABlk.live 4 [GH]]).length (ABlk.live 1 [[v3]]))[(H0 ++ [ABlk.live 4 [GH]]).length]? = some (ABlk.live 1 [[v3]]) ∧
  ext H0 (((H0 ++ [ABlk.live 4 [GH]] ++ [ABlk.live 1 [GK]]).set H0.length (ABlk.live 4 [I7 v1 v2])).set (H0 ++ [ABlk.live 4 [GH]]).length (ABlk.live 1 [[v3]])) :=
 ⟨AGQ (CW (CZ _ _)) rfl h1 h2,AGP (DK (CZ _ _) (by simp)) rfl h3,DK (ET (CW (CZ _ _))) (by simp),ET (DK (CZ _ _) (by simp)),((((ext.rfl' H0).app _).app _).set (Nat.le_refl _) _).set (by simp) _⟩
theorem NC.ext {n0:Nat} {H H':Hp} {po:Nat} {pb:List Nat} {co:Nat} {cbs:List Nat} {P C:List (List Int)} (N:NC n0 H po pb co cbs P C) (hx:Sm.ext H H'):NC n0 H' po pb co cbs P C:=N.keep fun _ _ _ _ hg=>F5 hx hg
theorem outG.ext {α:Type} {k:Nat} {f:α→List AV} {h H H':Hp} {ys:List α} {v:AV} (ho:outG k f h ys v H) (hx:Sm.ext H H'):outG k f h ys v H':=by
 obtain ⟨y,rfl⟩:=hx
 exact ho.app y
def EmQ (h:Hp) (m:Mo) (v:AV) (H:Hp):Prop:=ext h H∧((GM m≠0∧v = .tup [.agg GH,.agg GK,.int .i64 (GM m)]) ∨
 (GM m=0∧∃ po pb co cbs v3,v = .tup [.agg (I7 (nlV po (zP m)) (nlV co (zC m))),.agg [v3],.int .i64 0]∧EmO h H m po pb co cbs v3))
set_option maxHeartbeats 1000000 in
theorem AN9 (G:Nat→AV) (hG:GOk G) (m:Mo) (hm:MoOk m) (h:Hp):ACalls (En G) 67 [.agg (EH m)] h (EmQ h m):=by
 refine CE (H:=Hint.none) (enM G) Tryz.func67 rfl (by kernel_rfl) (by kernel_rfl) (nLb (by kernel_rfl)) ?_
 show awp _ _ _ _ _ (EJ _ [.cell 2 28,.cell 3 47,.tmp 4] _)
 unfold EmQ
 have E:=Ee.mk' h m
 simp -implicitDefEqProofs only [BC,BA,A8,AY,BB,AO,AQ,AL,BD,AX,AC,AA,AZ,AU,BH,A7,FY,FV,BV,CB,BF,↓reduceIte,Nat.reduceEqDiff,oGs,bNf,enP,bxM,OO,ZH]
 generalize h ++ [ABlk.live 2 [EH m]] ++ [ABlk.live 4 [GH]] ++ [ABlk.live 1 [GK]]=H0 at E ⊢
 generalize (h ++ [ABlk.live 2 [EH m]] ++ [ABlk.live 4 [GH]]).length=b3 at E ⊢
 generalize (h ++ [ABlk.live 2 [EH m]]).length=b2 at E ⊢
 have o2:=E.o2; have o3:=E.o3; have hlt:=E.lt
 simp -implicitDefEqProofs only [AY,AO,AQ,AL,BD,AX,AC,AA,AZ,BX,BZ,BU,AB,lMc,lMn,lAn,↓reduceIte,oGs,bNf,ldM E.gm]
 refine (NG G hG m hm _).use ?_
 cases hb:(GM m == 0)
 ·have h0:GM m≠0:=by simpa using hb
  simp -implicitDefEqProofs only [FZ,BC,BA,BL,BI,A8,CQ,CY,AY,BB,AO,AQ,AL,BD,AX,AC,FC,AA,AZ,AU,BH,BG,A7,KR,ER,BQ,AB,DX,EG,↓reduceIte,Nat.reduceEqDiff,oGs,bNf,enP,Option.getD_none,bne,hb,AEM,AQ6,stZ E.g2 rfl,AOV (DK E.g3 (show b3≠b2 by omega)) rfl]
  rw [VX (ba:=b2) (bb:=b3) (by simp -implicitDefEqProofs only [AA,↓reduceIte,Nat.reduceEqDiff]) (by simp -implicitDefEqProofs only [AA,↓reduceIte,Nat.reduceEqDiff]) (LQ (DK (ET E.g2) (show b2≠b3 by omega)) rfl) (O9 (ET (DK E.g3 (show b3≠b2 by omega))) rfl)]
  exact ⟨(E.hx.set (by omega) _).set (by omega) _,.inl ⟨h0,by simp -implicitDefEqProofs only [AA,↓reduceIte]⟩⟩
 ·have h0:GM m=0:=by simpa using hb
  have hg:=PD h0
  simp -implicitDefEqProofs only [BC,BA,BO,BI,A8,DU,AY,BB,AO,AQ,AL,BD,AX,AC,AA,AZ,AU,BX,BH,BG,A7,BV,BQ,BZ,BU,AB,EG,lMc,lMn,lAn,↓reduceIte,Nat.reduceEqDiff,oGs,bNt,bNf,enP,bne,hb,ldM E.gm]
  refine (ANN G m hm hg _).mono ?_
  rintro v H1 ⟨hx1,po,pb,co,cbs,v3,rfl,EO⟩
  obtain ⟨s1,s2,g6,g7,hx5⟩:=AV2 H1 (N8 po (zP m)) (N8 co (zC m)) EO.o3.leaf
  have g2:=F5 hx5 (F5 hx1 E.g2)
  have g3:=F5 hx5 (F5 hx1 E.g3)
  have hx:=(E.hx.trans hx1).trans hx5
  have hle1:=hx1.le
  have h7:b2 < (H1 ++ [ABlk.live 4 [GH]]).length:=by simp; omega
  have N5:=EO.nc.ext hx5
  have q5:=outG.ext EO.o3 hx5
  simp -implicitDefEqProofs only [List.getElem?_cons_zero,List.getElem?_cons_succ,BC,A8,AY,BB,AO,AQ,AL,BD,AX,AC,FC,AA,AZ,BG,FY,ER,FM,GZ,CB,AB,DX,↓reduceIte,Nat.reduceEqDiff,oGs,bNf,enP,Option.getD_none,OO,ZH,s1,s2]
  generalize ((H1 ++ [ABlk.live 4 [GH]] ++ [ABlk.live 1 [GK]]).set H1.length (ABlk.live 4 [I7 (nlV po (zP m)) (nlV co (zC m))])).set (H1 ++ [ABlk.live 4 [GH]]).length (ABlk.live 1 [[v3]])=H5 at g6 g7 g2 g3 hx N5 q5 ⊢
  generalize (H1 ++ [ABlk.live 4 [GH]]).length=b7 at g7 h7 ⊢
  refine SN [(7,2)] (by kernel_rfl) ?_ ?_
  ·simp -implicitDefEqProofs only [AA,↓reduceIte,Nat.reduceEqDiff,SV,VG,UK,and_true]
   omega
  simp -implicitDefEqProofs only [F8,EC,DW,LU,FK,EF,JO,FD,LM,BL,A8,AO,AA,AZ,AU,BH,BV,ER,AB,DX,↓reduceIte,Nat.reduceEqDiff,Nat.reduceAdd,Nat.zero_add,oGs,enP,Option.getD_none,LQ g6 rfl,O9 g7 rfl,AGQ g2 rfl (N8 po (zP m)) (N8 co (zC m)),AGP (DK g3 (show b3≠b2 by omega)) rfl q5.leaf]
  rw [VX (ba:=b2) (bb:=b3) (by simp -implicitDefEqProofs only [AA,↓reduceIte,Nat.reduceEqDiff]) (by simp -implicitDefEqProofs only [AA,↓reduceIte,Nat.reduceEqDiff]) (LQ (DK (ET g2) (show b2≠b3 by omega)) rfl) (O9 (ET (DK g3 (show b3≠b2 by omega))) rfl)]
  have hhl:=E.hx.le
  refine ⟨(hx.set (by omega) _).set (by omega) _,.inr ⟨h0,po,pb,co,cbs,v3,by simp -implicitDefEqProofs only [AA,↓reduceIte],?_,?_⟩⟩
  ·exact (N5.keep (H':=(H5.set b2 (.live 4 [I7 (nlV po (zP m)) (nlV co (zC m))])).set b3 (.live 1 [[v3]])) fun b x hb _ hg=>DK (DK hg (by omega)) (by omega)).base hhl
  ·exact ((q5.setB (b:=b2) (by omega) _).setB (b:=b3) (by omega) _).base hhl
structure St where
 P:List (List Int)
 C:List (List Int)
 sam:Int
 ill:Int
 ls:List (List Int)
def WJ (m:Mo) (s:St) (env:List Sg):Int:=JS PtR.err (NT m s.ls env)
def stp (m:Mo) (s:St) (env:List Sg):St:=⟨P5 (NT m s.ls env) s.P,RU m ((NT m s.ls env).map PtR.hit) s.C,rz s.sam,if (NT m s.ls env).any PtR.bad=true then rz s.ill else s.ill,(NT m s.ls env).map PtR.next⟩
structure StOk (m:Mo) (s:St):Prop where
 sh:ShapeOk m s.P s.C
 ll:s.ls.length=m.pts.length
 l7 : ∀ l∈s.ls,l.length≤7
 sm:0≤s.sam∧s.sam≤1099511627776
 il:0≤s.ill∧s.ill≤1099511627776
theorem AHA (p:Pt) (last:List Int) (l:List Sg):(ptE p last l).next.length≤7:=by
 have hn : ∀ v,(nextL last v).length≤7:=fun v=>by unfold nextL; rw [List.length_drop,List.length_append]; simp; omega
 unfold ptE
 split
 ·simp
 ·split
  ·simp
  ·split
   ·exact hn _
   ·split
    ·exact hn _
    ·exact hn _
theorem ShapeOk.step {m:Mo} {P C:List (List Int)} (h:ShapeOk m P C) {rs:List PtR} (hr:rs.length=m.pts.length) (hits:List (List Nat)):ShapeOk m (P5 rs P) (RU m hits C):=by
 have h1:rs.length=P.length:=by rw [hr,h.pl]
 have h2:=h.cl
 have l1:=UG rs P h1
 have l2:=UI m hits C h2
 refine ⟨by rw [l1]; exact h.pl,by rw [l2]; exact h2,fun i a b => ?_,fun i a b => ?_,ASB h.wp,ASC h.wc⟩
 ·rw [UH rs P i (by omega) (by omega),QI]; exact h.pe i (by omega) b
 ·rw [UJ m hits C i b (by omega),QJ]; exact h.ce i (by omega) b
theorem StOk.step {m:Mo} {s:St} (h:StOk m s) (env:List Sg):StOk m (stp m s env):=by
 have hr:=UU m s.ls env h.ll
 refine ⟨h.sh.step hr _,by simp [stp,hr],fun l hl => ?_,ALC h.sm,?_⟩
 ·obtain ⟨r,hr,rfl⟩:=List.mem_map.1 hl
  obtain ⟨p,hp,rfl⟩:=List.mem_map.1 hr
  exact AHA _ _ _
 ·unfold stp
  dsimp only
  split
  ·exact ALC h.il
  ·exact h.il
def zS (m:Mo):St:=⟨zP m,zC m,0,0,List.replicate m.pts.length []⟩
theorem AGC (n:Nat):Wn (zeros n):=fun x hx=>by
 have:x=0:=by simpa [zeros] using (List.eq_of_mem_replicate hx)
 subst this; decide
theorem AUQ (m:Mo):StOk m (zS m):=by
 refine ⟨⟨AI3 m,AI4 m,fun i a b => ?_,fun i a b => ?_,fun xs hx => ?_,fun xs hx => ?_⟩,by simp [zS],fun l hl => ?_,⟨by show (0:Int)≤0; omega,by show (0:Int)≤1099511627776; omega⟩,⟨by show (0:Int)≤0; omega,by show (0:Int)≤1099511627776; omega⟩⟩
 ·simp [zS,zP,zeros]
 ·simp [zS,zC,zeros]
 ·obtain ⟨p,_,rfl⟩:=List.mem_map.1 hx
  exact AGC _
 ·obtain ⟨p,_,rfl⟩:=List.mem_map.1 hx
  exact AGC _
 ·rw [List.eq_of_mem_replicate hl]; simp
def RV (m:Mo):St→List (List Sg)→Int × St
 | s,[]=>(0,s)
 | s,e :: r=>if WJ m s e≠0 then (WJ m s e,s) else RV m (stp m s e) r
def UM (m:Mo) (l:List (List Sg)):Int:=if GM m=0 then (RV m (zS m) l).1 else GM m
def L6 (P:List (List Int)):List Is:=P.map fun x=>⟨.any,x⟩
def cvS (s:St):Cvr:=⟨nm (L6 s.P),L6 s.P,nm (L6 s.C),L6 s.C,s.sam,s.ill⟩
def TY (m:Mo) (l:List (List Sg)):Cvr:=if GM m=0∧(RV m (zS m) l).1=0 then cvS (RV m (zS m) l).2 else zV
def cvW (s:St):List AV := [fzG 1 encL (L6 s.P),fzG 1 encL (L6 s.C),.int .i64 s.sam,.int .i64 s.ill]
theorem AWI (s:St):CvR (.agg (cvW s)) (.agg (FU (cvS s))):=CvR.agg (CvRL.cons TJ (CvRL.cons TJ (CvRL.refl _)))
def AJC (m:Mo) (l:List (List Sg)):List AV:=if GM m=0∧(RV m (zS m) l).1=0 then cvW (RV m (zS m) l).2 else GH
theorem ASG (m:Mo) (l:List (List Sg)):CvR (.agg (AJC m l)) (.agg (FU (TY m l))):=by
 unfold AJC TY
 split
 ·exact AWI _
 ·exact AUP
structure Ss where
 m:SM
 l:List Sg
def KN (x:Ss):List AV := [.sl x.m 2 (x.l.map GU)]
theorem ACD (x:Ss):(KN x)[0]? = some (.sl x.m 2 (x.l.map GU)):=rfl
theorem AJY {h H:Hp} (_:h.length≤H.length) (hg : ∀ (b:Nat) (x:ABlk),h[b]? = some x→H[b]? = some x):ext h H:=⟨H.drop h.length,by
 refine List.ext_getElem? fun i => ?_
 rcases Nat.lt_or_ge i h.length with hi | hi
 ·rw [List.getElem?_append_left hi,List.getElem?_eq_getElem hi]; exact hg i _ (List.getElem?_eq_getElem hi)
 ·rw [List.getElem?_append_right hi,List.getElem?_drop]; congr 1; omega⟩
theorem Fr1.ext {h0 h H:Hp} {cb tb:Nat} {pb cbs:List Nat} (hf:Fr1 h H cb tb pb cbs) (hx:Sm.ext h0 h) (h1:h0.length≤cb) (h2:h0.length≤tb) (h3 : ∀ b∈pb,h0.length≤b) (h4 : ∀ b∈cbs,h0.length≤b):Sm.ext h0 H :=
 AJY (Nat.le_trans hx.le hf.le) fun b x hb=>by
  have hlt:=CU hb
  exact hf.get b x (F5 hx hb) (by omega) (by omega) (fun q=>by have:=h3 b q; omega) (fun q=>by have:=h4 b q; omega)
theorem AQM (po:Nat) (P:List (List Int)) (co:Nat) (C:List (List Int)) (a b:Int):(cvR po P co C a b).all AV.leaf=true:=by
 simp [cvR,N8]; exact ⟨rfl,rfl⟩
theorem AXG {H:Hp} {b:Nat} {row:List AV} {po:Nat} {P:List (List Int)} {co:Nat} {C:List (List Int)} {x y:Int} (hb:H[b]? = some (.live 4 [row])) (hr:row.length=4):FX Tryz.prog H 28 (.ptr b 0 0) (.agg (cvR po P co C x y))=some (H.set b (.live 4 [cvR po P co C x y])):=by
 rw [PK (cs:=cvR po P co C x y) (VE (AQM _ _ _ _ _ _)) AMM hb (by rw [hr]; exact Nat.le_refl 4)]
 have:splice row 0 (cvR po P co C x y)=cvR po P co C x y:=by unfold splice; rw [List.take_zero,List.drop_eq_nil_of_le (by rw [hr]; exact Nat.le_refl 4)]; simp
 rw [this]
theorem AWK {n0:Nat} {H:Hp} {po co:Nat} {pb cbs:List Nat} (s:St) (np:NL n0 H po pb s.P) (nc:NL n0 H co cbs s.C) (n d:Nat) (hn:n≤n0):I5 n H (d+4) (.agg (cvR po s.P co s.C s.sam s.ill)) = .agg (cvW s):=by
 show AV.agg [I5 n H (d+3) (nlV po s.P),I5 n H (d+3) (nlV co s.C),.int .i64 s.sam,.int .i64 s.ill]=_
 rw [np.frz n d hn,nc.frz n d hn]; rfl
theorem AOM {h H:Hp} {m:Mo} {v3:AV} (o:outG 1 (fun _:Pt=>GK) h m.pts v3 H):TLs H v3 (List.replicate m.pts.length []):=by
 rcases o with ⟨e,_⟩ | ⟨_,q,_,rfl,hq⟩
 ·rw [e]; exact .inl rfl
 ·refine .inr (.inr ⟨q,m.pts.map fun _=>GK,by simp,hq,?_⟩)
  rw [List.map_const']
  exact RowsL.nils _
set_option maxHeartbeats 4000000 in
theorem ACY (G:Nat→AV) (hG:GOk G) (hT:PH G) (m:Mo) (hm:MoOk m) (l:List Ss) (s:SM) (h:Hp) (hl:l.length≤1048576) (he : ∀ x∈l,x.l.length≤1048576) :
  PCall (En G) 48 [.agg (EH m),.sl s 1 (l.map KN)] h (.tup [.agg (FU (TY m (l.map Ss.l))),.int .i64 (UM m (l.map Ss.l))]):=by
 refine PCall.res (r := .tup [.agg (AJC m (l.map Ss.l)),.int .i64 (UM m (l.map Ss.l))]) ?_ (CvR.tup (CvRL.cons (ASG _ _) (CvRL.refl _)))
 refine ACalls.pure (R:=fun v H=>ext h H∧I5 h.length H 5 v = .tup [.agg (AJC m (l.map Ss.l)),.int .i64 (UM m (l.map Ss.l))]) 5 ?_ (fun v H ⟨a,b⟩=>⟨a,b⟩)
 refine CE (H:=Hint.none) (enM G) Tryz.func48 rfl (by kernel_rfl) (by kernel_rfl) (nLb (by kernel_rfl)) ?_
 show awp _ _ _ _ _ (EJ _ [.cell 4 28,.tmp 5] _)
 have gm:=CW (x:=ABlk.live 4 [GH]) (CZ h (ABlk.live 2 [EH m]))
 have g4:=CZ (h ++ [ABlk.live 2 [EH m]]) (ABlk.live 4 [GH])
 have hx:ext h (h ++ [ABlk.live 2 [EH m]] ++ [ABlk.live 4 [GH]]):=((ext.rfl' h).app _).app _
 have hb4:h.length < (h ++ [ABlk.live 2 [EH m]]).length:=by simp
 simp -implicitDefEqProofs only [BC,BA,A8,AY,BB,AO,AQ,AL,BD,AX,AC,AA,AZ,AU,BH,A7,FY,FV,BV,CB,BF,↓reduceIte,Nat.reduceEqDiff,oGs,bNf,enP,bxM,OO]
 generalize h ++ [ABlk.live 2 [EH m]] ++ [ABlk.live 4 [GH]]=H0 at gm g4 hx ⊢
 generalize (h ++ [ABlk.live 2 [EH m]]).length=b4 at g4 hb4 ⊢
 have hlt:=CU g4
 simp -implicitDefEqProofs only [AY,AO,AQ,AL,BD,AX,AC,AA,AZ,BX,BZ,BU,AB,lMc,lMn,lAn,↓reduceIte,oGs,bNf,ldM gm]
 refine (AN9 G hG m hm H0).mono ?_
 rintro v H1 ⟨hx1,⟨hne,rfl⟩ | ⟨h0,po,pb,co,cbs,v3,rfl,EO⟩⟩
 ·have hb:(GM m == 0)=false:=by simpa using hne
  obtain ⟨s1,s2,g6,g7,hx5⟩:=AV2 H1 (v1 := .sl .nil 0 []) (v2 := .sl .nil 0 []) (v3 := .sl .nil 0 []) rfl rfl rfl
  have s1':FX Tryz.prog (H1 ++ [ABlk.live 4 [GH]] ++ [ABlk.live 1 [GK]]) 28 (.ptr H1.length 0 0) (.agg GH)=_:=s1
  have s2':FX Tryz.prog ((H1 ++ [ABlk.live 4 [GH]] ++ [ABlk.live 1 [GK]]).set H1.length (ABlk.live 4 [I7 (.sl .nil 0 []) (.sl .nil 0 [])])) 47 (.ptr (H1 ++ [ABlk.live 4 [GH]]).length 0 0) (.agg GK)=_:=s2
  have g4':=F5 hx5 (F5 hx1 g4)
  have hx':=(hx.trans hx1).trans hx5
  simp -implicitDefEqProofs only [List.getElem?_cons_zero,List.getElem?_cons_succ,FZ,BC,BA,BI,A8,CY,AY,BB,AO,AQ,AL,BD,AX,AC,FC,AA,AZ,AU,BH,BG,A7,FY,KR,ER,BQ,FM,GZ,CB,AB,DX,EG,↓reduceIte,Nat.reduceEqDiff,oGs,bNf,enP,Option.getD_none,OO,ZH,s1',s2',bne,hb,AEM]
  generalize ((H1 ++ [ABlk.live 4 [GH]] ++ [ABlk.live 1 [GK]]).set H1.length (ABlk.live 4 [I7 (.sl .nil 0 []) (.sl .nil 0 [])])).set (H1 ++ [ABlk.live 4 [GH]]).length (ABlk.live 1 [[.sl .nil 0 []]])=H5 at g4' hx' ⊢
  simp -implicitDefEqProofs only [BL,A8,CQ,AY,BB,AO,AQ,AL,BD,AX,AC,FC,AA,AZ,A7,DX,↓reduceIte,oGs,bNf,stZ g4' rfl]
  rw [AFR (ba:=b4) (by simp -implicitDefEqProofs only [AA,↓reduceIte,Nat.reduceEqDiff]) (LQ (ET g4') rfl)]
  refine ⟨hx'.set (by omega) _,?_⟩
  unfold AJC UM
  rw [if_neg (fun q=>hne q.1),if_neg hne]
  rfl
 have hg:=PD h0
 have hnp:m.pts.length≤16:=by have:=hg.num; omega
 obtain ⟨s1,s2,g6,g7,hx5⟩:=AV2 H1 (N8 po (zP m)) (N8 co (zC m)) EO.o3.leaf
 have gm5:=F5 hx5 (F5 hx1 gm)
 have g45:=F5 hx5 (F5 hx1 g4)
 have hx':=(hx.trans hx1).trans hx5
 have hle1:=hx1.le
 have N5:=EO.nc.ext hx5
 have q5:=AOM (outG.ext EO.o3 hx5)
 have hlb : ∀ b,NLB po pb (zP m) b∨NLB co cbs (zC m) b→b < H1.length:=fun b hb=>by
  rcases hb with hb | hb
  ·exact (EO.nc.np.lt hb).2
  ·exact (EO.nc.nc.lt hb).2
 have htl:(H1 ++ [ABlk.live 4 [GH]]).length=H1.length+1:=by simp
 simp -implicitDefEqProofs only [List.getElem?_cons_zero,List.getElem?_cons_succ,BC,BR,BA,BO,BI,A8,DU,AY,BB,AO,AQ,AL,BD,AX,AC,FC,AA,AZ,AU,BH,BG,A7,FY,ER,BQ,FM,GZ,DZ,CB,AB,DX,EG,BF,BN,↓reduceIte,Nat.reduceEqDiff,oGs,bNt,bNf,enP,AHO,Option.getD_none,OO,ZH,s1,s2,bne,beq_self_eq_true,lLm]
 generalize ((H1 ++ [ABlk.live 4 [GH]] ++ [ABlk.live 1 [GK]]).set H1.length (ABlk.live 4 [I7 (nlV po (zP m)) (nlV co (zC m))])).set (H1 ++ [ABlk.live 4 [GH]]).length (ABlk.live 1 [[v3]])=H5 at g6 g7 gm5 g45 hx' N5 q5 ⊢
 generalize (H1 ++ [ABlk.live 4 [GH]]).length=tb at g7 htl ⊢
 generalize H1.length=cb at g6 hlb htl hle1 ⊢
 have S5:CS H0.length H5 cb tb po co pb cbs (zS m).P (zS m).C (zS m).sam (zS m).ill v3:=N5.cs g6 g7 (by omega) (fun b hb=>by have:=hlb b hb; omega)
 refine DT (fun n F H => ∃ k st v3,n+k=l.length∧F 2 = .ptr h.length 0 0∧F 4 = .ptr b4 0 0∧F 6 = .ptr cb 0 0∧F 7 = .ptr tb 0 0∧F 22 = .sl s 1 (l.map KN)∧F 23 = .int .i64 (l.length:Nat)∧F 24 = .int .i64 (k:Nat)∧H[h.length]? = some (.live 2 [EH m])∧H[b4]? = some (.live 4 [GH]) ∧
   CS H0.length H cb tb po co pb cbs st.P st.C st.sam st.ill v3∧TLs H v3 st.ls∧StOk m st∧ext h H∧RV m (zS m) (l.map Ss.l)=RV m st ((l.drop k).map Ss.l)) l.length
  ⟨0,zS m,v3,by simp,by simp -implicitDefEqProofs only [AA,↓reduceIte,Nat.reduceEqDiff],by simp -implicitDefEqProofs only [AA,↓reduceIte,Nat.reduceEqDiff],by simp -implicitDefEqProofs only [AA,↓reduceIte,Nat.reduceEqDiff],by simp -implicitDefEqProofs only [AA,↓reduceIte,Nat.reduceEqDiff],by simp -implicitDefEqProofs only [AA,↓reduceIte,Nat.reduceEqDiff],by simp -implicitDefEqProofs only [AA,↓reduceIte,Nat.reduceEqDiff],by simp -implicitDefEqProofs only [AA,↓reduceIte] <;> rfl,gm5,g45,S5,q5,AUQ m,hx',rfl⟩ ?_
 clear gm5 g45 S5 q5 hx' N5 g6 g7 s1 s2 hx5
 rintro n F H ⟨k,st,v3',hk,f2,f4,f6,f7,f22,f23,f24,gmH,g4H,S,T,hok,hxH,hrun⟩
 simp -implicitDefEqProofs only [BC,BA,BI,A8,AY,BB,AO,AQ,AL,BD,AX,AC,AA,AZ,BQ,AB,DC,↓reduceIte,oGs,bNf,enP,f23,f24]
 refine CV (fun hc => ?_) (fun hc => ?_)
 ·have hk':k < l.length:=by simpa using hc
  rw [List.drop_eq_getElem_cons hk',lMc] at hrun
  simp -implicitDefEqProofs only [BC,BR,BA,BO,A8,AY,BB,AO,AQ,AL,BD,AX,AC,AA,AZ,BX,BG,A7,BV,CG,BZ,BU,AB,lMc,lMn,lAn,↓reduceIte,Nat.reduceEqDiff,oGs,bNf,enP,AM8,f22,f24,D6 hk',DV AKK hk',ACD,f2,ldM gmH,f6,f7]
  refine (AGX G hG hT m hm hg S hok.sh st.ls hok.ll (fun x hx=>by have:=hok.l7 x hx; omega) T l[k].l l[k].m (by have:=he _ (List.getElem_mem hk'); omega) hok.sm hok.il).mono ?_
  intro v H' hQ
  unfold AWT at hQ
  rcases hQ with ⟨e,hne,hfst,rfl,hxe⟩ | ⟨hfst,rfl,lb,hlb2,glb,S',hFr⟩
  ·have hb:(e == 0)=false:=by simpa using hne
   have hse:WJ m st l[k].l=e:=hfst
   have g4':=F5 hxe g4H
   simp -implicitDefEqProofs only [FZ,BC,BA,BL,BI,A8,CQ,D8,FI,CY,AY,BB,AO,AQ,AL,BD,AX,AC,FC,AA,AZ,AU,BH,BG,A7,KR,ER,BQ,AB,DX,EG,↓reduceIte,Nat.reduceEqDiff,oGs,bNf,enP,Option.getD_none,bne,hb,AEM,f4,stZ g4' rfl]
   rw [AFR (ba:=b4) (by simp -implicitDefEqProofs only [AA,↓reduceIte,Nat.reduceEqDiff,f4]) (LQ (ET g4') rfl)]
   refine ⟨(hxH.trans hxe).set (by omega) _,?_⟩
   have hr:RV m (zS m) (l.map Ss.l)=(e,st):=by
    rw [hrun]
    show (if WJ m st l[k].l≠0 then (WJ m st l[k].l,st) else _)=_
    rw [hse,if_pos hne]
   unfold AJC UM
   rw [if_neg (by rw [hr]; exact fun q=>hne q.2),if_pos h0,hr]
   simp -implicitDefEqProofs only [AA,↓reduceIte]
   rfl
  ·have hse:WJ m st l[k].l=0:=hfst
   have hr:RV m (zS m) (l.map Ss.l)=RV m (stp m st l[k].l) ((l.drop (k+1)).map Ss.l):=by
    rw [hrun]
    show (if WJ m st l[k].l≠0 then (WJ m st l[k].l,st) else _)=_
    rw [hse,if_neg (by decide)]
   have hpl : ∀ b∈pb,H0.length≤b:=S.np.lo
   have hcl : ∀ b∈cbs,H0.length≤b:=S.nc.lo
   have hhl:=hx.le
   have gm':=hFr.get _ _ gmH (by omega) (by omega) (fun q=>by have:=hpl _ q; omega) (fun q=>by have:=hcl _ q; omega)
   have g4':=hFr.get _ _ g4H (by omega) (by omega) (fun q=>by have:=hpl _ q; omega) (fun q=>by have:=hcl _ q; omega)
   have hx2:=hFr.ext hxH (by omega) (by omega) (fun b hb=>by have:=hpl _ hb; omega) (fun b hb=>by have:=hcl _ hb; omega)
   have T':TLs H' (.own lb 0 m.pts.length) (stp m st l[k].l).ls:=by
    refine .inr (.inr ⟨lb,_,?_,glb,RowsL.map _⟩)
    rw [(hok.step l[k].l).ll]
   simp -implicitDefEqProofs only [BC,BA,BO,BI,A8,EE,EN,DU,AY,BB,AO,AQ,AL,BD,AX,AC,AA,AZ,AU,BH,BG,A7,BQ,AB,DF,EG,↓reduceIte,Nat.reduceEqDiff,oGs,bNt,bNf,enP,bne,beq_self_eq_true,f24,wrap_succ (show k < 9223372036854775807 by omega)]
   exact ⟨n - 1,by omega,k+1,stp m st l[k].l,_,by omega,by first | trivial | exact f2,by first | trivial | exact f4,by first | trivial | exact f6,by first | trivial | exact f7,by first | trivial | exact f22,by first | trivial | exact f23,by first | trivial | rfl,gm',g4',S',T',hok.step _,hx2,hr⟩
 ·have hk' : ¬ k < l.length:=by simpa using hc
  rw [List.drop_eq_nil_of_le (by omega)] at hrun
  have hr:RV m (zS m) (l.map Ss.l)=(0,st):=hrun
  simp -implicitDefEqProofs only [BC,BA,BL,DJ,A8,D9,EX,EW,AY,BB,AO,AQ,AL,BD,AX,AC,FC,AA,AZ,AU,BH,A7,BV,ER,AB,DX,↓reduceIte,Nat.reduceEqDiff,oGs,bNf,enP,Option.getD_none,f4,f6,LQ S.gc rfl,AXG g4H rfl]
  rw [AFR (ba:=b4) (by simp -implicitDefEqProofs only [AA,↓reduceIte,Nat.reduceEqDiff,f4]) (LQ (ET g4H) rfl)]
  refine ⟨hxH.set (by omega) _,?_⟩
  have np':NL H0.length (H.set b4 (.live 4 [cvR po st.P co st.C st.sam st.ill])) po pb st.P:=S.np.keep fun b x hb hg=>DK hg (by have:=S.np.lt hb; omega)
  have nc':NL H0.length (H.set b4 (.live 4 [cvR po st.P co st.C st.sam st.ill])) co cbs st.C:=S.nc.keep fun b x hb hg=>DK hg (by have:=S.nc.lt hb; omega)
  have e1:=AWK st np' nc' h.length 0 hx.le
  unfold AJC UM
  rw [if_pos (by rw [hr]; exact ⟨h0,rfl⟩),if_pos h0,hr]
  simp -implicitDefEqProofs only [AA,↓reduceIte]
  show AV.tup [I5 h.length _ 4 (.agg (cvR po st.P co st.C st.sam st.ill)),.int .i64 0]=_
  rw [e1]
def A0R:Bin:=mkB ⟨#[108,111,119]⟩ 0 0 1
def AU8:Bin:=⟨⟨#[115,116,101,112]⟩,0,⟨.nil,[]⟩,.full,[⟨.full,[⟨0,0⟩]⟩,⟨.full,[⟨1,1⟩]⟩]⟩
def A0S:Bin:=mkB ⟨#[98,97,100]⟩ 2 3 3
def bX:Bin:=mkB ⟨#[120]⟩ 0 0 0
def bY:Bin:=mkB ⟨#[121]⟩ 0 1 9
def eP:Pt:=⟨⟨#[112]⟩,ATT,.full,[A0R,AU8,A0S]⟩
def eQ:Pt:=⟨⟨#[113]⟩,ATT,.full,[bX,bY]⟩
def eC:Cr:=⟨⟨#[99]⟩,.full,[0,1],.nil,[]⟩
def eM:Mo:=⟨.full,[eP,eQ],.full,[eC]⟩
def rL:List AV:=rowB ⟨#[108,111,119]⟩ 0 0 1
def rSt:List AV := [.str ⟨#[115,116,101,112]⟩,.int .i64 0,.sl .nil 0 [],.sl .full 1 [[.sl .full 2 [[.int .i64 0,.int .i64 0]]],[.sl .full 2 [[.int .i64 1,.int .i64 1]]]]]
def rBa:List AV:=rowB ⟨#[98,97,100]⟩ 2 3 3
def rX:List AV:=rowB ⟨#[120]⟩ 0 0 0
def rY:List AV:=rowB ⟨#[121]⟩ 0 1 9
def rE:List AV := [.int .i64 2,.int .i64 0,.str ⟨#[97]⟩,.sl .nil 0 []]
def rP:List AV := .str ⟨#[112]⟩ :: (rE ++ [.sl .full 4 [rL,rSt,rBa]])
def rQ:List AV := .str ⟨#[113]⟩ :: (rE ++ [.sl .full 4 [rX,rY]])
def rC:List AV := [.str ⟨#[99]⟩,.sl .full 1 [[.int .i64 0],[.int .i64 1]],.sl .nil 0 []]
def rM:List AV := [.sl .full 6 [rP,rQ],.sl .full 3 [rC]]
theorem cvB (s:ByteArray) (k lo hi:Int):CvRow (rowB s k lo hi) (GN (mkB s k lo hi)):=CvRow.cons rfl (Cv.refl _) (CvRow.cons rfl (Cv.refl _) (CvRow.cons rfl (Cv.refl _) (CvRow.cons rfl (Cv.nil 0 1) CvRow.nil)))
theorem A0D:CvRow rSt (GN AU8):=CvRow.cons rfl (Cv.refl _) (CvRow.cons rfl (Cv.refl _) (CvRow.cons rfl (Cv.nil 0 2) (CvRow.cons rfl (Cv.refl _) CvRow.nil)))
theorem cvP (s:ByteArray) {xs ys:List (List AV)} (h:Cv (.sl .full 4 xs) (.sl .full 4 ys)):CvRow (.str s :: (rE ++ [.sl .full 4 xs])) (.str s :: (EU ATT ++ [.sl .full 4 ys])) :=
 CvRow.cons rfl (Cv.refl _) (CvRow.cons rfl (Cv.refl _) (CvRow.cons rfl (Cv.refl _) (CvRow.cons rfl (Cv.refl _) (CvRow.cons rfl (Cv.nil 0 4) (CvRow.cons rfl h CvRow.nil)))))
theorem cv2 {m:SM} {k:Nat} {a b a' b':List AV} (h1:CvRow a a') (h2:CvRow b b'):Cv (.sl m k [a,b]) (.sl m k [a',b']):=Cv.rows rfl fun i r r' e1 e2=>by
 match i,e1,e2 with
 | 0,e1,e2=>cases e1; cases e2; exact h1
 | 1,e1,e2=>cases e1; cases e2; exact h2
 | _+2,e1,_=>cases e1
theorem cv3 {m:SM} {k:Nat} {a b c a' b' c':List AV} (h1:CvRow a a') (h2:CvRow b b') (h3:CvRow c c'):Cv (.sl m k [a,b,c]) (.sl m k [a',b',c']):=Cv.rows rfl fun i r r' e1 e2=>by
 match i,e1,e2 with
 | 0,e1,e2=>cases e1; cases e2; exact h1
 | 1,e1,e2=>cases e1; cases e2; exact h2
 | 2,e1,e2=>cases e1; cases e2; exact h3
 | _+3,e1,_=>cases e1
theorem cv1 {m:SM} {k:Nat} {a a':List AV} (h1:CvRow a a'):Cv (.sl m k [a]) (.sl m k [a']):=Cv.rows rfl fun i r r' e1 e2=>by
 match i,e1,e2 with
 | 0,e1,e2=>cases e1; cases e2; exact h1
 | _+1,e1,_=>cases e1
theorem AXQ:CvR (.agg rM) (.agg (EH eM)) :=
 CvR.agg (CvRL.cons (CvR.sl (cv2 (cvP _ (cv3 (cvB _ _ _ _) A0D (cvB _ _ _ _))) (cvP _ (cv2 (cvB _ _ _ _) (cvB _ _ _ _))))) (CvRL.cons (CvR.sl (cv1 (CvRow.cons rfl (Cv.refl _) (CvRow.cons rfl (Cv.refl _) (CvRow.cons rfl (Cv.nil 0 1) CvRow.nil))))) CvRL.nil))
theorem A0U (h:Hp):J9 Tryz.prog h 53=some (.ptr h.length 0 0,h ++ [.live 4 [[.int .i64 0,.int .i64 0,.str ⟨#[]⟩,.sl .nil 0 []]]]):=JZ (row := [.int .i64 0,.int .i64 0,.str ⟨#[]⟩,.sl .nil 0 []]) (by kernel_rfl)
theorem AXF (h:Hp) (row:List AV) (hr:row.length=4):FX Tryz.prog (h ++ [.live 4 [row]]) 53 (.ptr h.length 0 0) (.agg [.int .i64 2,.int .i64 0,.str ⟨#[97]⟩,.sl .nil 0 []])=some (h ++ [.live 4 [rE]]):=by
 have h1:=MP (P:=Tryz.prog) (t:=53) (h:=h) (k:=4) (j:=0) (row:=row) (cs:=rE) (v := .agg rE) rfl WI (by rw [hr]; exact Nat.le_refl 4)
 have h2:splice row 0 rE=rE:=by unfold splice; simp [hr,rE]
 rw [h2] at h1
 exact h1
theorem AXD (h:Hp) (row:List AV) (hr:row.length=4):FX Tryz.prog (h ++ [.live 4 [row]]) 121 (.ptr h.length 0 0) (.agg rSt)=some (h ++ [.live 4 [rSt]]):=by
 have h1:=MP (P:=Tryz.prog) (t:=121) (h:=h) (k:=4) (j:=0) (row:=row) (cs:=rSt) (v := .agg rSt) rfl PI (by rw [hr]; exact Nat.le_refl 4)
 have h2:splice row 0 rSt=rSt:=by unfold splice; simp [hr,rSt]
 rw [h2] at h1
 exact h1
theorem AYY (h:Hp):FN Tryz.prog false h 119 2 [(0,.sl .full 2 [[.int .i64 0,.int .i64 0]]),(1,.sl .full 2 [[.int .i64 1,.int .i64 1]])]=some (.sl .full 1 [[.sl .full 2 [[.int .i64 0,.int .i64 0]]],[.sl .full 2 [[.int .i64 1,.int .i64 1]]]],h):=by kernel_rfl
theorem AWQ (s:ByteArray) (xs:List (List AV)):KP Tryz.prog 121 [(0,.str s),(3,.sl .full 1 xs)]=some (.agg [.str s,.int .i64 0,.sl .nil 0 [],.sl .full 1 xs]):=by kernel_rfl
theorem AWR (s:ByteArray) (xs:List (List AV)):KP Tryz.prog 121 [(0,.str s),(2,.sl .full 2 xs)]=some (.agg [.str s,.int .i64 0,.sl .full 2 xs,.sl .nil 0 []]):=by kernel_rfl
theorem AYQ (h:Hp):FN Tryz.prog false h 54 3 [(0,.agg rL),(1,.agg rSt),(2,.agg rBa)]=some (.sl .full 4 [rL,rSt,rBa],h):=by kernel_rfl
theorem AYP (h:Hp):FN Tryz.prog false h 54 2 [(0,.agg rX),(1,.agg rY)]=some (.sl .full 4 [rX,rY],h):=by kernel_rfl
theorem AY3 (s:ByteArray) (xs:List (List AV)):KP Tryz.prog 56 [(0,.str s),(1,.agg rE),(2,.sl .full 4 xs)]=some (.agg (.str s :: (rE ++ [.sl .full 4 xs]))):=by kernel_rfl
theorem AYU (h:Hp):FN Tryz.prog false h 22 2 [(0,.agg rP),(1,.agg rQ)]=some (.sl .full 6 [rP,rQ],h):=by kernel_rfl
theorem AQW (h:Hp) (a b:Int):FN Tryz.prog false h 57 2 [(0,.int .i64 a),(1,.int .i64 b)]=some (.sl .full 1 [[.int .i64 a],[.int .i64 b]],h):=by kernel_rfl
theorem AY1 (xs:List (List AV)):KP Tryz.prog 71 [(0,.str ⟨#[99]⟩),(1,.sl .full 1 xs)]=some (.agg [.str ⟨#[99]⟩,.sl .full 1 xs,.sl .nil 0 []]):=by kernel_rfl
theorem AYS (h:Hp):FN Tryz.prog false h 23 1 [(0,.agg rC)]=some (.sl .full 3 [rC],h):=by kernel_rfl
theorem AY5:KP Tryz.prog 25 [(0,.sl .full 6 [rP,rQ]),(1,.sl .full 3 [rC])]=some (.agg rM):=by kernel_rfl
theorem APK {H:Hp} {b:Nat} {row:List AV} (hb:H[b]? = some (.live 4 [row])) (hr:row.length=4):D7 Tryz.prog H 121 (.ptr b 0 0)=some (.agg row):=by
 rw [JJ TU PI hb rfl (by rw [hr]; exact Nat.le_refl 4),List.drop_zero,List.take_of_length_le (by omega)]
theorem A0B {H:Hp} {b:Nat} {row:List AV} (hb:H[b]? = some (.live 4 [row])) (hr:row.length=4):D7 Tryz.prog H 53 (.ptr b 0 0)=some (.agg row):=by
 rw [JJ AAK WI hb rfl (by rw [hr]; exact Nat.le_refl 4),List.drop_zero,List.take_of_length_le (by omega)]
structure Se6 (h H:Hp) (b1 b2 b3 b4 b5 b6:Nat):Prop where
 g0:H[h.length]? = some (.live 2 [[.sl .nil 0 [],.sl .nil 0 []]])
 g1:H[b1]? = some (.live 4 [rE])
 g2:H[b2]? = some (.live 4 [rL])
 g3:H[b3]? = some (.live 4 [rSt])
 g4:H[b4]? = some (.live 4 [rBa])
 g5:H[b5]? = some (.live 4 [rX])
 g6:H[b6]? = some (.live 4 [rY])
 hx:ext h H
theorem Se6.mk' (h:Hp):Se6 h (h ++ [ABlk.live 2 [[.sl .nil 0 [],.sl .nil 0 []]]] ++ [ABlk.live 4 [rE]] ++ [ABlk.live 4 [rL]] ++ [ABlk.live 4 [rSt]] ++ [ABlk.live 4 [rBa]] ++ [ABlk.live 4 [rX]] ++ [ABlk.live 4 [rY]])
  (h ++ [ABlk.live 2 [[.sl .nil 0 [],.sl .nil 0 []]]]).length (h ++ [ABlk.live 2 [[.sl .nil 0 [],.sl .nil 0 []]]] ++ [ABlk.live 4 [rE]]).length (h ++ [ABlk.live 2 [[.sl .nil 0 [],.sl .nil 0 []]]] ++ [ABlk.live 4 [rE]] ++ [ABlk.live 4 [rL]]).length
  (h ++ [ABlk.live 2 [[.sl .nil 0 [],.sl .nil 0 []]]] ++ [ABlk.live 4 [rE]] ++ [ABlk.live 4 [rL]] ++ [ABlk.live 4 [rSt]]).length (h ++ [ABlk.live 2 [[.sl .nil 0 [],.sl .nil 0 []]]] ++ [ABlk.live 4 [rE]] ++ [ABlk.live 4 [rL]] ++ [ABlk.live 4 [rSt]] ++ [ABlk.live 4 [rBa]]).length
  (h ++ [ABlk.live 2 [[.sl .nil 0 [],.sl .nil 0 []]]] ++ [ABlk.live 4 [rE]] ++ [ABlk.live 4 [rL]] ++ [ABlk.live 4 [rSt]] ++ [ABlk.live 4 [rBa]] ++ [ABlk.live 4 [rX]]).length :=
 ⟨CW (CW (CW (CW (CW (CW (CZ _ _)))))),CW (CW (CW (CW (CW (CZ _ _))))),CW (CW (CW (CW (CZ _ _)))),CW (CW (CW (CZ _ _))),CW (CW (CZ _ _)),CW (CZ _ _),CZ _ _,((((((ext.rfl' h).app _).app _).app _).app _).app _).app _ |>.app _⟩
section
variable (G:Nat→AV)
set_option maxHeartbeats 2000000 in
theorem AGY (h:Hp):PCall (En G) 95 [] h (.agg (EH eM)):=by
 refine PCall.res (r := .agg rM) ?_ AXQ
 refine ACalls.pure 3 (R:=fun v H=>v = .agg rM∧ext h H) ?_ (fun v h' ⟨e,x⟩=>⟨x,by subst e; rfl⟩)
 refine CE (H:=Hint.none) (enM G) Tryz.func95 rfl (by kernel_rfl) (by kernel_rfl) (nLb (by kernel_rfl)) ?_
 show awp _ _ _ _ _ (EJ _ [.cell 0 25] _)
 have E:=Se6.mk' h
 have s2 : ∀ h':Hp,FX Tryz.prog (h' ++ [.live 4 [[.str ⟨#[]⟩,.int .i64 0,.sl .nil 0 [],.sl .nil 0 []]]]) 121 (.ptr h'.length 0 0) (.agg [.str ⟨#[115,116,101,112]⟩,.int .i64 0,.sl .nil 0 [],.sl .full 1 [[.sl .full 2 [[.int .i64 0,.int .i64 0]]],[.sl .full 2 [[.int .i64 1,.int .i64 1]]]]])=some (h' ++ [.live 4 [rSt]]):=fun h'=>AXD h' _ rfl
 have r1:rowB ⟨#[108,111,119]⟩ 0 0 1=rL:=rfl
 have r2:rowB ⟨#[98,97,100]⟩ 2 3 3=rBa:=rfl
 have r3:rowB ⟨#[120]⟩ 0 0 0=rX:=rfl
 have r4:rowB ⟨#[121]⟩ 0 1 9=rY:=rfl
 simp -implicitDefEqProofs only [FZ,F6,BC,BA,A8,AY,BB,AO,AQ,AL,BD,AX,AC,FC,AA,AZ,AU,BH,IX,FY,KR,EQ,BV,ER,CB,AB,DX,↓reduceIte,Nat.reduceEqDiff,oGs,bNf,enP,Option.getD_none,AZD,AY0,A0U,AXF _ [.int .i64 0,.int .i64 0,.str ⟨#[]⟩,.sl .nil 0 []] rfl,AU7,AU5,AYZ,AWR,AWQ,AYY,AUF,AUZ _ _ _ _ _ [.str ⟨#[]⟩,.int .i64 0,.sl .nil 0 [],.sl .nil 0 []] rfl,s2,r1,r2,r3,r4]
 generalize h ++ [ABlk.live 2 [[.sl .nil 0 [],.sl .nil 0 []]]] ++ [ABlk.live 4 [rE]] ++ [ABlk.live 4 [rL]] ++ [ABlk.live 4 [rSt]] ++ [ABlk.live 4 [rBa]] ++ [ABlk.live 4 [rX]] ++ [ABlk.live 4 [rY]]=H at E ⊢
 generalize (h ++ [ABlk.live 2 [[.sl .nil 0 [],.sl .nil 0 []]]] ++ [ABlk.live 4 [rE]] ++ [ABlk.live 4 [rL]] ++ [ABlk.live 4 [rSt]] ++ [ABlk.live 4 [rBa]] ++ [ABlk.live 4 [rX]]).length=b6 at E ⊢
 generalize (h ++ [ABlk.live 2 [[.sl .nil 0 [],.sl .nil 0 []]]] ++ [ABlk.live 4 [rE]] ++ [ABlk.live 4 [rL]] ++ [ABlk.live 4 [rSt]] ++ [ABlk.live 4 [rBa]]).length=b5 at E ⊢
 generalize (h ++ [ABlk.live 2 [[.sl .nil 0 [],.sl .nil 0 []]]] ++ [ABlk.live 4 [rE]] ++ [ABlk.live 4 [rL]] ++ [ABlk.live 4 [rSt]]).length=b4 at E ⊢
 generalize (h ++ [ABlk.live 2 [[.sl .nil 0 [],.sl .nil 0 []]]] ++ [ABlk.live 4 [rE]] ++ [ABlk.live 4 [rL]]).length=b3 at E ⊢
 generalize (h ++ [ABlk.live 2 [[.sl .nil 0 [],.sl .nil 0 []]]] ++ [ABlk.live 4 [rE]]).length=b2 at E ⊢
 generalize (h ++ [ABlk.live 2 [[.sl .nil 0 [],.sl .nil 0 []]]]).length=b1 at E ⊢
 have p1:AV.str ⟨#[112]⟩ :: (rE ++ [.sl .full 4 [rL,rSt,rBa]])=rP:=rfl
 have p2:AV.str ⟨#[113]⟩ :: (rE ++ [.sl .full 4 [rX,rY]])=rQ:=rfl
 have c1 : [AV.str ⟨#[99]⟩,.sl .full 1 [[.int .i64 0],[.int .i64 1]],.sl .nil 0 []]=rC:=rfl
 have hst:FX Tryz.prog H 25 (.ptr h.length 0 0) (.agg rM)=some (H.set h.length (.live 2 [rM])):=by
  rw [PK (v := .agg rM) (cs:=rM) (row := [.sl .nil 0 [],.sl .nil 0 []]) rfl AOQ E.g0 (Nat.le_refl 2)]; rfl
 simp -implicitDefEqProofs only [FZ,F6,BL,A8,AY,BB,AO,AQ,AL,BD,AX,AC,FC,AA,AZ,AU,BH,IX,KR,EQ,BV,ER,CB,AB,DX,↓reduceIte,Nat.reduceEqDiff,oGs,bNf,enP,Option.getD_none,A0B E.g1 rfl,APK E.g2 rfl,APK E.g3 rfl,APK E.g4 rfl,APK E.g5 rfl,APK E.g6 rfl,AYQ,AYP,AY3,p1,p2,AYU,AQW,AY1,c1,AYS,AY5,hst]
 rw [AP8 (b:=h.length) (by simp -implicitDefEqProofs only [AA,↓reduceIte,Nat.reduceEqDiff]) (x := .agg rM) (by rw [JJ AWS AOQ (ET E.g0) rfl (Nat.le_refl 2)]; rfl)]
 exact ⟨rfl,E.hx.set (Nat.le_refl _) _⟩
end
def sgA (v:Int):Ss:=⟨.full,[(⟨#[97]⟩,v)]⟩
theorem AX9:Frz KN:=fun _ _ _ _=>⟨rfl,rfl⟩
theorem AY8 (s:ByteArray) (v:Int):KP Tryz.prog 187 [(0,.str s),(1,.int .i64 v)]=some (.agg [.str s,.int .i64 v]):=by kernel_rfl
theorem AWN (h:Hp) (s:ByteArray) (v:Int):FN Tryz.prog false h 58 1 [(0,.agg [.str s,.int .i64 v])]=some (.sl .full 2 [[.str s,.int .i64 v]],h):=by kernel_rfl
theorem AWM (h:Hp) (xs:List (List AV)):FN Tryz.prog false h 64 1 [(0,.sl .full 2 xs)]=some (.sl .full 1 [[.sl .full 2 xs]],h):=by kernel_rfl
section
variable (G:Nat→AV)
theorem AA6 (xs:List Int) (s:SM) (h:Hp) (hn:xs.length≤1048576):PCall (En G) 96 [.sl s 1 (xs.map encI)] h (.sl (nm (xs.map sgA)) 1 ((xs.map sgA).map KN)):=by
 refine RZ AX9 ?_
 refine CE (H:=Hint.none) (enM G) Tryz.func96 rfl (by kernel_rfl) (by kernel_rfl) (nLb (by kernel_rfl)) ?_
 show awp _ _ _ _ _ (EJ _ [.tmp 2] _)
 simp -implicitDefEqProofs only [BC,BR,BA,A8,AY,BB,AO,AQ,AL,BD,AX,AC,AU,BH,JE,A7,oGs,bNf,enP]
 refine DT (fun n F H => ∃ k u,n+k=xs.length∧F 0 = .sl s 1 (xs.map encI)∧F 3=u∧F 4 = .int .i64 (k:Nat)∧ext h H∧outG 1 KN h ((xs.take k).map sgA) u H) xs.length
  ⟨0,.sl .nil 0 [],by simp,by simp -implicitDefEqProofs only [AA,BF,↓reduceIte,Nat.reduceEqDiff],by simp -implicitDefEqProofs only [AA,↓reduceIte,Nat.reduceEqDiff],by simp -implicitDefEqProofs only [AA,↓reduceIte] <;> rfl,ext.rfl' _,outG.nil _ _ _ _⟩ ?_
 rintro n F H ⟨k,u,hk,f0,f3,f4,hx,ho⟩
 simp -implicitDefEqProofs only [BC,BA,BI,A8,AY,BB,AO,AQ,AL,BD,AX,AC,AA,AZ,BG,BQ,DZ,AB,DC,↓reduceIte,Nat.reduceEqDiff,oGs,bNf,enP,I8,f0,f4,lLm]
 refine CV (fun hc => ?_) (fun hc => ?_)
 ·have hk':k < xs.length:=by simpa using hc
  obtain ⟨u',H3,ha,ho2,_,hx2,_,_⟩:=ho.append (P:=Tryz.prog) AZ1 AXA AZY A0N (by omega) (by simp <;> omega) hx (sgA xs[k])
  have ha':H7 Tryz.prog true H 64 64 u (.sl .full 1 [[.sl .full 2 [[.str ⟨#[97]⟩,.int .i64 xs[k]]]]])=some (u',H3):=ha
  have e:(xs.take k).map sgA ++ [sgA xs[k]]=(xs.take (k+1)).map sgA:=by rw [List.take_succ_eq_append_getElem hk',List.map_append]; rfl
  rw [e] at ho2
  simp -implicitDefEqProofs only [FZ,F6,BC,BR,BA,BO,A8,EE,EN,AY,BB,AO,AQ,AL,BD,AX,AC,AA,AZ,AU,BH,IX,BG,A7,KR,EQ,BV,BQ,CG,IQ,CB,AB,DF,↓reduceIte,Nat.reduceEqDiff,oGs,bNf,enP,JL,f0,f3,f4,D6 hk',DV ag3 hk',TL,AY8,AWN,AWM,ha',wrap_succ (show k < 9223372036854775807 by omega)]
  exact ⟨n - 1,by omega,k+1,u',by omega,by first | trivial | exact f0,by first | trivial | rfl,by first | trivial | rfl,hx2,ho2⟩
 ·have hk' : ¬ k < xs.length:=by simpa using hc
  rw [List.take_of_length_le (by omega)] at ho
  simp -implicitDefEqProofs only [BC,BA,BL,DJ,A8,D9,EX,EW,CJ,AY,BB,AO,AQ,AL,BD,AX,AC,AA,AZ,BG,A7,↓reduceIte,Nat.reduceEqDiff,oGs,bNf,f3]
  exact ⟨hx,ho⟩
theorem SA (xs ys:List Int) (s s':SM) (hn:xs.length≤1048576) (h:Hp):PCall (En G) 45 [.sl s 1 (xs.map encI),.sl s' 1 (ys.map encI)] h (.bool (eqL xs ys)):=by
 refine CE (H:=Hint.none) (enM G) Tryz.func45 rfl (by kernel_rfl) (by kernel_rfl) (nLb (by kernel_rfl)) ?_
 show awp _ _ _ _ _ (EJ _ [.tmp 4] _)
 simp -implicitDefEqProofs only [BC,BA,BI,A8,AY,BB,AO,AQ,AL,BD,AX,AC,AA,AZ,AU,BM,BG,A7,BQ,DZ,AB,EG,BF,BN,↓reduceIte,Nat.reduceEqDiff,oGs,bNf,enP,I8,lLm,bne]
 cases e0:(((xs.length:Nat):Int) == ((ys.length:Nat):Int))
 ·have hf:eqL xs ys=false:=by
   unfold eqL
   rw [decide_eq_false_iff_not]
   rintro rfl
   simp at e0
  simp -implicitDefEqProofs only [BC,BA,BL,A8,CQ,CJ,CY,AY,BB,AO,AQ,AL,BD,AX,AC,AA,AU,BM,A7,↓reduceIte,oGs,bNf]
  exact ⟨by rw [hf],trivial⟩
 have hl:xs.length=ys.length:=by
  have:=eq_of_beq e0
  omega
 simp -implicitDefEqProofs only [BC,BR,BA,BO,A8,DU,AY,BB,AO,AQ,AL,BD,AX,AC,AU,BH,A7,oGs,bNt,bNf]
 refine DT (fun n F H => ∃ i,n+i=xs.length∧F 0 = .sl s 1 (xs.map encI)∧F 1 = .sl s' 1 (ys.map encI)∧F 5 = .int .i64 (i:Nat)∧H=h∧eqL xs ys=eqL (xs.drop i) (ys.drop i)) xs.length ⟨0,by simp,by simp -implicitDefEqProofs only [AA,BF,↓reduceIte,Nat.reduceEqDiff],by simp -implicitDefEqProofs only [AA,BF,BN,↓reduceIte,Nat.reduceEqDiff],by simp -implicitDefEqProofs only [AA,↓reduceIte] <;> rfl,rfl,rfl⟩ ?_
 rintro n F H ⟨i,hi,f0,f1,f5,rfl,hin⟩
 simp -implicitDefEqProofs only [BC,BA,BI,A8,AY,BB,AO,AQ,AL,BD,AX,AC,AA,AZ,BG,BQ,DZ,AB,DC,↓reduceIte,Nat.reduceEqDiff,oGs,bNf,enP,I8,f0,f5,lLm]
 refine CV (fun hc => ?_) (fun hc => ?_)
 ·have hi':i < xs.length:=by simpa using hc
  have hi2:i < ys.length:=by omega
  rw [ACC hi' hi2] at hin
  have hd:decide (xs[i]=ys[i])=(xs[i] == ys[i]):=rfl
  rw [hd] at hin
  simp -implicitDefEqProofs only [BC,BR,BO,A8]
  refine FB (by kernel_rfl) ?_
  simp -implicitDefEqProofs only [F8,EC,DW,FK,EF,FO,FD,IU,EK,BI,A8,AO,AA,AZ,BV,BQ,CG,AB,EG,↓reduceIte,Nat.reduceEqDiff,Nat.reduceAdd,oGs,enP,JL,f0,f1,f5,D6 hi',D6 hi2,DV ag3 hi',DV ag3 hi2,TL,bne]
  cases hq:(xs[i] == ys[i])
  ·rw [hq,Bool.false_and] at hin
   simp -implicitDefEqProofs only [BC,BA,BL,A8,CQ,D8,FI,CJ,CY,AY,BB,AO,AQ,AL,BD,AX,AC,AA,AU,BM,A7,↓reduceIte,oGs,bNf]
   exact ⟨by rw [hin],trivial⟩
  ·rw [hq,Bool.true_and] at hin
   simp -implicitDefEqProofs only [BA,BO,A8,EE,EN,DU,AY,BB,AO,AQ,AL,BD,AX,AC,AA,AZ,AU,BH,BG,A7,BQ,AB,DF,↓reduceIte,Nat.reduceEqDiff,oGs,bNt,bNf,enP,f5,wrap_succ (show i < 9223372036854775807 by omega)]
   exact ⟨n - 1,by omega,i+1,by omega,by first | trivial | exact f0,by first | trivial | exact f1,by first | trivial | rfl,trivial,hin⟩
 ·have hi' : ¬ i < xs.length:=by simpa using hc
  rw [List.drop_eq_nil_of_le (by omega),List.drop_eq_nil_of_le (by omega)] at hin
  simp -implicitDefEqProofs only [BC,BA,BL,DJ,A8,D9,EX,EW,CJ,AY,BB,AO,AQ,AL,BD,AX,AC,AA,AU,BM,A7,↓reduceIte,oGs,bNf]
  exact ⟨by rw [hin]; rfl,trivial⟩
theorem AU3 (l:List Ss) (s:SM) (hn:l.length≤1048576) (h:Hp):Rk.SomeB (En G) 47 [.sl s 1 (l.map KN)] h:=by
 refine Rk.SomeB.of ?_
 refine CE (H:=Hint.none) (enM G) Tryz.func47 rfl (by kernel_rfl) (by kernel_rfl) (nLb (by kernel_rfl)) ?_
 show awp _ _ _ _ _ (EJ _ [.tmp 2] _)
 simp -implicitDefEqProofs only [BC,BR,BA,A8,AY,BB,AO,AQ,AL,BD,AX,AC,AU,BH,BM,A7,oGs,bNf,enP]
 refine DT (fun n F H => ∃ i,n+i=l.length∧F 0 = .sl s 1 (l.map KN)∧F 3 = .int .i64 (i:Nat)∧H=h) l.length ⟨0,by simp,by simp -implicitDefEqProofs only [AA,BF,↓reduceIte,Nat.reduceEqDiff],by simp -implicitDefEqProofs only [AA,↓reduceIte] <;> rfl,rfl⟩ ?_
 rintro n F H ⟨i,hi,f0,f3,rfl⟩
 simp -implicitDefEqProofs only [BC,BA,AY,BJ,BP,CO,AO,AQ,AL,BD,AX,AC,AA,AZ,BG,BQ,DZ,AB,DC,↓reduceIte,Nat.reduceEqDiff,oGs,bNf,enP,AHO,f0,f3,lLm]
 cases hc:decide (((i:Nat):Int) < ((l.length:Nat):Int))
 ·simp -implicitDefEqProofs only [BC,BA,BL,DJ,BI,A8,D9,EX,EW,CJ,DU,AY,BB,BJ,BP,CO,H8,AO,AQ,AL,BD,AX,AC,AA,EP,AZ,AU,BH,BM,BG,A7,CP,DR,BQ,DZ,AB,IE,↓reduceIte,Nat.reduceEqDiff,oGs,bNf,enP,AHO,f0,lLm]
  exact ⟨⟨_,rfl⟩,ext.rfl' _⟩
 have hi':i < l.length:=by simpa using hc
 simp -implicitDefEqProofs only [BI,A8,AY,BB,BJ,BP,CO,F7,AO,AQ,AL,BD,AX,AC,AA,AZ,AU,BH,BM,BG,CP,DN,BQ,AB,DC,↓reduceIte,Nat.reduceEqDiff,oGs,bNf,enP,f3]
 refine CV (fun hb => ?_) (fun hb => ?_)
 ·simp -implicitDefEqProofs only [BC,BR,BA,BO,BI,A8,AY,BB,AO,AQ,AL,BD,AX,AC,AA,AZ,AU,BH,BG,BV,BQ,CG,DZ,AB,EZ,↓reduceIte,Nat.reduceEqDiff,oGs,bNf,enP,ATB,AM8,f0,f3,D6 hi',DV AKK hi',ACD,lLm]
  refine CV (fun hd => ?_) (fun hd => ?_)
  ·simp -implicitDefEqProofs only [BC,BA,BL,A8,CQ,D8,FI,CJ,AY,BB,AO,AQ,AL,BD,AX,AC,AA,AU,BM,A7,↓reduceIte,oGs,bNf]
   exact ⟨⟨_,rfl⟩,ext.rfl' _⟩
  ·simp -implicitDefEqProofs only [BA,BO,A8,EE,EN,AY,BB,AO,AQ,AL,BD,AX,AC,AA,AZ,AU,BH,BG,A7,BQ,AB,DF,↓reduceIte,Nat.reduceEqDiff,oGs,bNf,enP,f3,wrap_succ (show i < 9223372036854775807 by omega)]
   exact ⟨n - 1,by omega,i+1,by omega,by first | trivial | exact f0,by first | trivial | rfl,trivial⟩
 ·simp -implicitDefEqProofs only [BC,BA,BL,DJ,A8,D9,EX,EW,CJ,AY,BB,AO,AQ,AL,BD,AX,AC,AA,AZ,AU,BH,BG,A7,BQ,DZ,AB,IE,↓reduceIte,Nat.reduceEqDiff,oGs,bNf,enP,AHO,f0,lLm]
  exact ⟨⟨_,rfl⟩,ext.rfl' _⟩
end
theorem eM_ok:MoOk eM:=⟨by decide,by decide,fun p hp=>by
 simp only [eM,List.mem_cons,List.not_mem_nil,or_false] at hp
 rcases hp with rfl | rfl
 ·exact ⟨by decide +kernel,by decide,by decide,fun b hb=>by
  simp only [eP,List.mem_cons,List.not_mem_nil,or_false] at hb
  rcases hb with rfl | rfl | rfl <;> exact ⟨by decide,by decide,by decide,by decide⟩⟩
 ·exact ⟨by decide +kernel,by decide,by decide,fun b hb=>by
  simp only [eQ,List.mem_cons,List.not_mem_nil,or_false] at hb
  rcases hb with rfl | rfl <;> exact ⟨by decide,by decide,by decide,by decide⟩⟩,fun c hc=>by
 simp only [eM,List.mem_singleton] at hc
 subst hc
 exact ⟨by decide,by decide,by decide,fun x hx=>by cases hx⟩⟩
theorem AYC:PtOk eP:=eM_ok.pts eP (by simp [eM])
def e46L:List Ss:=([0,1,3,1]:List Int).map sgA
def AIC:Cvr:=⟨.any,[⟨.any,[3,1,0]⟩,⟨.any,[1,3]⟩],.any,[⟨.any,[1,2,0,1,0,0]⟩],4,1⟩
theorem AYF:UM eM (e46L.map Ss.l)=0:=by kernel_rfl
theorem AYD:TY eM (e46L.map Ss.l)=AIC:=by kernel_rfl
theorem AYE:ptE eP [0] [(⟨#[97]⟩,1)]=⟨[0,1],[0,1],false,0⟩:=by kernel_rfl
def zM:Mo:=⟨.full,[⟨⟨#[]⟩,.mk 0 0 ⟨#[]⟩ .nil [],.nil,[]⟩],.nil,[]⟩
theorem AZZ:GM zM=7:=by kernel_rfl
theorem AW4:MoOk zM:=⟨by decide,by decide,fun p hp=>by
 simp only [zM,List.mem_singleton] at hp
 subst hp
 exact ⟨by decide +kernel,by decide,by decide,fun b hb=>by cases hb⟩,fun c hc=>by cases hc⟩
def ARU:List AV := [.str ⟨#[]⟩,.int .i64 0,.int .i64 0,.str ⟨#[]⟩,.sl .nil 0 [],.sl .nil 0 []]
theorem AY2:KP Tryz.prog 56 []=some (.agg ARU):=by kernel_rfl
theorem AYT (h:Hp):FN Tryz.prog false h 22 1 [(0,.agg ARU)]=some (.sl .full 6 [ARU],h):=by kernel_rfl
theorem AW5:CvRL [.agg [.sl .full 6 [ARU],.sl .nil 0 []]] [.agg (EH zM)]:=CvRL.cons (CvR.agg (CvRL.cons (CvR.sl (cv1 (CvRow.cons rfl (Cv.refl _) (CvRow.cons rfl (Cv.refl _) (CvRow.cons rfl (Cv.refl _) (CvRow.cons rfl (Cv.refl _) (CvRow.cons rfl (Cv.nil 0 4) (CvRow.cons rfl (Cv.nil 0 4) CvRow.nil)))))))) (CvRL.cons (CvR.sl (Cv.nil 0 3)) CvRL.nil))) CvRL.nil
theorem AWO (h:Hp) (a b c d:Int):FN Tryz.prog false h 57 4 [(0,.int .i64 a),(1,.int .i64 b),(2,.int .i64 c),(3,.int .i64 d)]=some (.sl .full 1 [[.int .i64 a],[.int .i64 b],[.int .i64 c],[.int .i64 d]],h):=by kernel_rfl
theorem A0C:ACW Tryz.prog 25 (.agg (EH eM)) 0=some (.sl .full 6 [FH eP,FH eQ]):=by kernel_rfl
theorem AXR:ptV ⟨[0,1],[0,1],false,0⟩ = .tup [.sl .any 1 [[.int .i64 0],[.int .i64 1]],.sl .any 1 [[.int .i64 0],[.int .i64 1]],.bool false,.int .i64 0]:=rfl
section
variable (G:Nat→AV)
set_option maxHeartbeats 4000000 in
theorem LV (hG:GOk G) (hT:PH G) (h:Hp):PCall (En G) 42 [] h (.bool true):=by
 refine ACalls.pure0 rfl ?_
 refine CE (H:=Hint.none) (enM G) Tryz.func42 rfl (by kernel_rfl) (by kernel_rfl) (nLb (by kernel_rfl)) ?_
 show awp _ _ _ _ _ (EJ _ [.tmp 0] _)
 simp -implicitDefEqProofs only [BC,BA,A8,AY,BB,AO,AQ,AL,BD,AX,AC,AU,BX,BM,A7,BZ,BU,lMn,lAn,oGs,bNf,enP]
 refine (AGY G h).use ?_
 simp -implicitDefEqProofs only [FZ,F6,AY,AO,AQ,AL,BD,AX,AC,AA,AZ,AU,BX,BH,EQ,BZ,BU,CB,lMc,lMn,lAn,↓reduceIte,oGs,bNf,enP,AWO]
 refine (show PCall (En G) 96 [.sl .full 1 [[.int .i64 0],[.int .i64 1],[.int .i64 3],[.int .i64 1]]] h (.sl .any 1 (e46L.map KN)) from AA6 G [0,1,3,1] .full h (by decide)).use ?_
 simp -implicitDefEqProofs only [AY,AO,AQ,AL,BD,AX,AC,AA,AZ,BX,BZ,BU,lMc,lMn,lAn,↓reduceIte,Nat.reduceEqDiff,oGs,bNf]
 have hR:=ACY G hG hT eM eM_ok e46L .any h (by decide) (by decide)
 rw [AYD,AYF] at hR
 refine hR.use ?_
 simp -implicitDefEqProofs only [List.getElem?_cons_zero,List.getElem?_cons_succ,BC,A8,AY,BB,AO,AQ,AL,BD,AX,AC,FC,AA,AZ,BG,A7,FY,ER,FM,GZ,CB,AB,DX,↓reduceIte,Nat.reduceEqDiff,oGs,bNf,enP,Option.getD_none,OO,AVM]
 have g:=CZ h (ABlk.live 4 [FU AIC])
 have hx:=(ext.rfl' h).app [ABlk.live 4 [FU AIC]]
 generalize h ++ [ABlk.live 4 [FU AIC]]=H at g hx ⊢
 refine FB (by kernel_rfl) ?_
 simp -implicitDefEqProofs only [F8,EC,DW,EF,ARX,GL,FW,AO,AA,AZ,BX,AR0,lMn,lAn,↓reduceIte,Nat.reduceAdd,oGs,enP]
 refine ⟨_,AGY G H,?_⟩
 have i0:JK 6 H (.sl .full 6 [FH eP,FH eQ]) (.int .i64 0)=some (.fptr 6 [FH eP,FH eQ] 0 0):=rfl
 have d0:D7 Tryz.prog H 56 (.fptr 6 [FH eP,FH eQ] 0 0)=some (.agg (FH eP)):=FP (f:=FH) (xs := [eP,eQ]) (n:=0) YG UF IW (by decide)
 simp -implicitDefEqProofs only [F8,FZ,F6,EC,DW,EF,J7,FD,EK,GL,FW,AO,AA,AZ,AU,BX,BH,EQ,BV,CG,CB,AB,lMc,lMn,lAn,↓reduceIte,Nat.reduceAdd,oGs,enP,OJ,AM8,A0C,i0,d0,AFX]
 refine ⟨_,(show PCall (En G) 96 [.sl .full 1 [[.int .i64 1]]] H (.sl .any 1 [KN (sgA 1)]) from AA6 G [1] .full H (by decide)),?_⟩
 have i1:JK 1 H (.sl .any 1 [KN (sgA 1)]) (.int .i64 0)=some (.fptr 1 [KN (sgA 1)] 0 0):=rfl
 have d1:D7 Tryz.prog H 58 (.fptr 1 [KN (sgA 1)] 0 0)=some (.sl .full 2 [GU (⟨#[97]⟩,1)]):=QK (row:=KN (sgA 1)) AKK rfl rfl
 simp -implicitDefEqProofs only [F8,EC,DW,EF,FO,FD,KQ,GL,FW,AO,AA,AZ,BX,BV,FM,AB,lMc,lMn,lAn,↓reduceIte,Nat.reduceEqDiff,Nat.reduceAdd,oGs,enP,i1,d1]
 have hP:PCall (En G) 43 [.agg (FH eP),.sl .full 1 [[.int .i64 0]],.sl .full 2 [GU (⟨#[97]⟩,1)]] H (ptV (ptE eP [0] [(⟨#[97]⟩,1)])):=TT G hG eP AYC [0] .full [(⟨#[97]⟩,1)] .full H (by decide) (by decide)
 rw [AYE,AXR] at hP
 refine ⟨_,hP,?_⟩
 have l0:D7 Tryz.prog H 26 (.ptr h.length 0 0)=some (.sl .any 1 [[.sl .any 1 [[.int .i64 3],[.int .i64 1],[.int .i64 0]]],[.sl .any 1 [[.int .i64 1],[.int .i64 3]]]]):=by rw [DL OM g (row:=FU AIC) rfl]; rfl
 have l1:D7 Tryz.prog H 26 (.ptr h.length 0 1)=some (.sl .any 1 [[.sl .any 1 [[.int .i64 1],[.int .i64 2],[.int .i64 0],[.int .i64 1],[.int .i64 0],[.int .i64 0]]]]):=by rw [DL OM g (row:=FU AIC) rfl]; rfl
 have l2:D7 Tryz.prog H 3 (.ptr h.length 0 2)=some (.int .i64 4):=by rw [DL ag3 g (row:=FU AIC) rfl]; rfl
 have l3:D7 Tryz.prog H 3 (.ptr h.length 0 3)=some (.int .i64 1):=by rw [DL ag3 g (row:=FU AIC) rfl]; rfl
 have j0 : ∀ (xs:List (List AV)) (x:List AV),JK 1 H (.sl .any 1 (x :: xs)) (.int .i64 0)=some (.fptr 1 (x :: xs) 0 0):=fun xs x=>AD1 (i:=0) (by decide) (by simp <;> omega)
 have j1 : ∀ (xs:List (List AV)) (x y:List AV),JK 1 H (.sl .any 1 (x :: y :: xs)) (.int .i64 1)=some (.fptr 1 (x :: y :: xs) 1 0):=fun xs x y=>AD1 (i:=1) (by decide) (by simp <;> omega)
 have j2 : ∀ (xs:List (List AV)) (x y z:List AV),JK 1 H (.sl .any 1 (x :: y :: z :: xs)) (.int .i64 2)=some (.fptr 1 (x :: y :: z :: xs) 2 0):=fun xs x y z=>AD1 (i:=2) (by decide) (by simp <;> omega)
 have j3 : ∀ (xs:List (List AV)) (x y z w:List AV),JK 1 H (.sl .any 1 (x :: y :: z :: w :: xs)) (.int .i64 3)=some (.fptr 1 (x :: y :: z :: w :: xs) 3 0):=fun xs x y z w=>AD1 (i:=3) (by decide) (by simp <;> omega)
 have m0 : ∀ (xs:List (List AV)) (v:AV),D7 Tryz.prog H 57 (.fptr 1 ([v] :: xs) 0 0)=some v:=fun xs v=>QK (row := [v]) L8 rfl rfl
 have n0 : ∀ (xs:List (List AV)) (v:AV),D7 Tryz.prog H 3 (.fptr 1 ([v] :: xs) 0 0)=some v:=fun xs v=>QK (row := [v]) ag3 rfl rfl
 have n1 : ∀ (xs:List (List AV)) (x:List AV) (v:AV),D7 Tryz.prog H 3 (.fptr 1 (x :: [v] :: xs) 1 0)=some v:=fun xs x v=>QK (row := [v]) ag3 rfl rfl
 have n2 : ∀ (xs:List (List AV)) (x y:List AV) (v:AV),D7 Tryz.prog H 3 (.fptr 1 (x :: y :: [v] :: xs) 2 0)=some v:=fun xs x y v=>QK (row := [v]) ag3 rfl rfl
 have n3 : ∀ (xs:List (List AV)) (x y z:List AV) (v:AV),D7 Tryz.prog H 3 (.fptr 1 (x :: y :: z :: [v] :: xs) 3 0)=some v:=fun xs x y z v=>QK (row := [v]) ag3 rfl rfl
 have z7:((7:Int) == 7)=true:=rfl
 have c2:(((2:Nat):Int) == 2)=true:=rfl
 have c1:(((1:Nat):Int) == 1)=true:=rfl
 have c3:(((3:Nat):Int) == 3)=true:=rfl
 have c6:(((6:Nat):Int) == 6)=true:=rfl
 simp -implicitDefEqProofs only [F8,List.getElem?_cons_zero,List.getElem?_cons_succ,FZ,F6,EC,DW,FK,EF,JO,KQ,BC,BA,BO,BI,A8,DU,AY,BB,BJ,BP,CO,F7,EM,AO,AQ,AL,BD,AX,AC,AA,AZ,AU,BX,BH,BM,BG,CP,DN,DR,KR,EQ,BV,BQ,G6,BK,CG,FM,GZ,DZ,BZ,BU,CB,AB,D5,EG,EY,lMc,lMn,lAn,↓reduceIte,Nat.reduceEqDiff,Nat.reduceAdd,Nat.add_zero,Nat.zero_add,oGs,bNt,bNf,enP,OX,QT,MC,MN,W9,Y5,JL,I8,bne,beq_self_eq_true,l0,l1,l2,l3,j0,j1,j2,j3,m0,n0,n1,n2,n3,List.length_cons,List.length_nil,c1,c2,c3,c6,AY2,AYT,AY6]
 have hV:=(NG G hG zM AW4 H).args AW5
 rw [AZZ] at hV
 refine hV.use ?_
 simp -implicitDefEqProofs only [BL,A8,CJ,AY,BB,BJ,BP,CO,F7,AO,AQ,AL,BD,AX,AC,AA,AZ,AU,BH,BM,A7,CP,DN,BQ,AB,D5,↓reduceIte,Nat.reduceEqDiff,oGs,bNf,enP,z7]
 exact ⟨by first | trivial | rfl,hx⟩
end
theorem AYW (h:Hp) (p:Pt):FN Tryz.prog false h 22 1 [(0,.agg (FH p))]=some (.sl .full 6 ([p].map FH),h):=by
 have h3:UB Tryz.prog 56=some 6:=by kernel_rfl
 unfold FN
 simp only [AZ2,UF,h3]
 have h2:XP 6 0 [(0,AV.agg (FH p))]=some [FH p]:=by cases p with | mk name ex bm bins=>cases ex; rfl
 have fr:(FH p).all AV.frozen=true:=by cases p with | mk name ex bm bins=>cases ex; rfl
 simp [h2,fr]
theorem X5 (xs:List Int):eqL xs xs=true:=by unfold eqL; simp
theorem AM0 (p:Pt) (last:List Int) (l:List Sg) (hp:p.bins.length≤1048576):(ptE p last l).hit.length≤1048576∧(ptE p last l).next.length≤1048576 :=
 ⟨Nat.le_trans (AAR p last l) hp,by have:=AHA p last l; omega⟩
section
variable (G:Nat→AV)
set_option maxHeartbeats 1000000 in
theorem AV5 (hG:GOk G) (hT:PH G) (p:Pt) (hp:PtOk p) (last:List Int) (lm:SM) (l:List Sg) (m:SM) (h:Hp) (hll:last.length≤1048576) (hl:l.length≤1048576) (hok : ∀ s∈l,AAL s) :
  PCall (En G) 7 [.agg (FH p),.sl lm 1 (last.map encI),.sl m 2 (l.map GU)] h (.bool true):=by
 refine ACalls.pure0 rfl ?_
 refine CE (H:=Hint.none) (enM G) Tryz.func7 rfl (by kernel_rfl) (by kernel_rfl) (nLb (by kernel_rfl)) ?_
 show awp _ _ _ _ _ (EJ _ [.tmp 6] _)
 have gp:=CZ h (ABlk.live 6 [FH p])
 have hx:ext h (h ++ [ABlk.live 6 [FH p]]):=(ext.rfl' h).app _
 simp -implicitDefEqProofs only [BC,BA,A8,AY,BB,AO,AQ,AL,BD,AX,AC,AA,AZ,AU,BM,A7,FV,BV,CB,BF,↓reduceIte,Nat.reduceEqDiff,oGs,bNf,enP,bxP]
 generalize h ++ [ABlk.live 6 [FH p]]=H at gp hx ⊢
 simp -implicitDefEqProofs only [FZ,F6,AY,AO,AQ,AL,BD,AX,AC,AA,AZ,BX,EQ,BZ,BU,CB,AB,lMc,lMn,lAn,↓reduceIte,oGs,bNf,enP,ldP gp,AYW]
 refine (Rk.points_some G [p] .full H (fun q hq=>by simp at hq; rw [hq]; exact hp) (by simp)).use ?_
 intro b
 cases b
 ·simp -implicitDefEqProofs only [BC,BA,BI,A8,CY,AY,BB,BJ,BP,CO,FQ,AO,AQ,AL,BD,AX,AC,AA,EP,AZ,AU,BX,BM,BG,CP,DN,G6,BZ,BU,AB,EY,lMn,lAn,↓reduceIte,Nat.reduceEqDiff,oGs,bNf]
  refine (LV G hG hT H).use ?_
  simp -implicitDefEqProofs only [BL,A8,CQ,CJ,AY,BB,AO,AQ,AL,BD,AX,AC,AA,AZ,A7,↓reduceIte,oGs,bNf]
  exact ⟨by first | trivial | rfl,hx⟩
 simp -implicitDefEqProofs only [AY,BJ,BP,CO,EM,AO,AQ,AL,BD,AX,AC,AA,AZ,AU,BH,BM,BG,CP,DR,BQ,G6,DZ,AB,EZ,EY,BF,BN,↓reduceIte,Nat.reduceEqDiff,oGs,bNt,bNf,enP,I8,lLm]
 rcases Bool.eq_false_or_eq_true (decide (((last.length:Nat):Int) > 20)) with h1 | h1
 ·simp -implicitDefEqProofs only [BC,BA,BI,A8,CY,AY,BB,BJ,BP,CO,FQ,AO,AQ,AL,BD,AX,AC,AA,EP,AZ,AU,BX,BM,CP,DN,BZ,BU,lMn,lAn,↓reduceIte,Nat.reduceEqDiff,oGs,bNf,h1]
  refine (LV G hG hT H).use ?_
  simp -implicitDefEqProofs only [BL,A8,CQ,CJ,AY,BB,AO,AQ,AL,BD,AX,AC,AA,AZ,A7,↓reduceIte,oGs,bNf]
  exact ⟨by first | trivial | rfl,hx⟩
 simp -implicitDefEqProofs only [BI,A8,AY,BB,BJ,BP,CO,EM,AO,AQ,AL,BD,AX,AC,AA,AZ,AU,BH,BM,BG,CP,DR,BQ,DZ,AB,EZ,BF,BN,↓reduceIte,Nat.reduceEqDiff,oGs,bNf,enP,ATB,h1,lLm]
 rcases Bool.eq_false_or_eq_true (decide (((l.length:Nat):Int) > 20)) with h2 | h2
 ·simp -implicitDefEqProofs only [BC,BA,CY,AY,AO,AQ,AL,BD,AX,BX,BZ,BU,lMn,lAn,oGs,bNf,h2]
  refine (LV G hG hT H).use ?_
  simp -implicitDefEqProofs only [BL,A8,CQ,CJ,AY,BB,AO,AQ,AL,BD,AX,AC,AA,AZ,A7,↓reduceIte,oGs,bNf]
  exact ⟨by first | trivial | rfl,hx⟩
 simp -implicitDefEqProofs only [BC,BA,BO,A8,DU,AY,AO,AQ,AL,BD,AX,AC,AA,AZ,BX,BG,BV,BZ,BU,AB,BF,BN,lMc,lMn,lAn,↓reduceIte,Nat.reduceEqDiff,oGs,bNf,enP,h2,ldP gp]
 obtain ⟨s1,s2⟩:=AM0 p last l hp.num
 refine (TT G hG p hp last lm l m H hll (by omega)).use ?_
 unfold ptV
 simp -implicitDefEqProofs only [List.getElem?_cons_zero,List.getElem?_cons_succ,BC,BA,A8,AY,BB,AO,AQ,AL,BD,AX,AC,AA,AZ,BX,BG,A7,BV,FM,GZ,BZ,BU,AB,BF,BN,lMc,lMn,lAn,↓reduceIte,Nat.reduceEqDiff,oGs,bNf,enP,ldP gp]
 refine (AN6 G p hp last lm l m H hll (by omega) hok).use ?_
 unfold ptV
 generalize ptE p last l=r at s1 s2 ⊢
 rw [ABR]
 simp -implicitDefEqProofs only [List.getElem?_cons_zero,List.getElem?_cons_succ,BC,BA,A8,AY,BB,AO,AQ,AL,BD,AX,AC,AA,AZ,BX,BG,A7,FM,GZ,BZ,BU,AB,lMc,lMn,lAn,↓reduceIte,Nat.reduceEqDiff,oGs,bNf]
 refine (SA G (r.hit.map fun n:Nat=>(n:Int)) (r.hit.map fun n:Nat=>(n:Int)) _ _ (by rw [lLm]; exact s1) H).use ?_
 rw [X5]
 simp -implicitDefEqProofs only [AY,BJ,BP,CO,F7,AO,AQ,AL,BD,AX,AC,AA,AZ,BX,BG,BZ,BU,lMc,lMn,lAn,↓reduceIte,Nat.reduceEqDiff,oGs,bNf]
 refine (SA G r.next r.next _ _ s2 H).use ?_
 rw [X5]
 simp -implicitDefEqProofs only [AY,BJ,BP,CO,F7,AO,AQ,AL,BD,AX,AC,AA,AZ,AU,BX,BM,BG,CP,DN,BQ,BZ,BU,AB,D5,lMn,lAn,↓reduceIte,Nat.reduceEqDiff,oGs,bNf,enP,be4,beq_self_eq_true]
 refine (LV G hG hT H).use ?_
 simp -implicitDefEqProofs only [BL,A8,CJ,AY,BB,AO,AQ,AL,BD,AX,AC,AA,AZ,AU,BM,A7,CP,DN,↓reduceIte,Nat.reduceEqDiff,oGs,bNf]
 exact ⟨by first | trivial | rfl,hx⟩
end
theorem U2 (xs:List Nat) (k:Nat):Rk.hasB (xs.map fun n:Nat=>(n:Int)) (k:Nat)=decide (k∈xs):=by
 unfold Rk.hasB
 rw [Bool.eq_iff_iff,List.any_eq_true,decide_eq_true_iff]
 constructor
 ·rintro ⟨x,hx,he⟩
  obtain ⟨n,hn,rfl⟩:=List.mem_map.1 hx
  have:=eq_of_beq he
  have:n=k:=by omega
  subst this; exact hn
 ·intro hk
  exact ⟨_,List.mem_map.2 ⟨k,hk,rfl⟩,by simp⟩
theorem getD_at (xs:List Int) (k:Nat) (hk:k < xs.length):xs.getD k 0=xs[k]:=by rw [List.getD_eq_getElem?_getD,List.getElem?_eq_getElem hk]; rfl
theorem AEZ (xs:List Int) (b k:Nat) (hb:b < xs.length):(raiseAt xs b).getD k 0=if b=k then rz (xs.getD b 0) else xs.getD k 0:=by
 unfold raiseAt
 rw [List.getD_eq_getElem?_getD,List.getElem?_set]
 split
 ·rfl
 ·rw [List.getD_eq_getElem?_getD]
theorem VM (k:Nat) : ∀ (hit:List Nat) (xs:List Int),hit.Nodup→(∀ x∈hit,x < xs.length)→(rowP hit xs).getD k 0=if k∈hit then rz (xs.getD k 0) else xs.getD k 0
 | [],xs,_,_=>by simp [rowP]
 | b :: hit,xs,hn,hl=>by
   obtain ⟨h1,h2⟩:=List.nodup_cons.1 hn
   have hb:=hl b (by simp)
   have ih:=VM k hit (raiseAt xs b) h2 (fun x hx=>by rw [QY]; exact hl x (by simp [hx]))
   have e:rowP (b :: hit) xs=rowP hit (raiseAt xs b):=rfl
   rw [e,ih,AEZ xs b k hb]
   by_cases hk:k∈hit
   ·have hne:b≠k:=fun q=>h1 (by rw [q]; exact hk)
    rw [if_pos hk,if_neg hne,if_pos (by simp [hk])]
   ·rw [if_neg hk]
    by_cases hbk:b=k
    ·subst hbk
     rw [if_pos rfl,if_pos (by simp)]
    ·rw [if_neg hbk,if_neg (by simp [hk]; exact fun q=>hbk q.symm)]
theorem ZW (bins:List Bin) (last:List Int) (v kind:Int) : ∀ k,(ML bins last v kind k).Nodup
 | 0=>by simp [ML]
 | k+1=>by
   have ih:=ZW bins last v kind k
   simp only [ML]
   split
   ·refine List.nodup_append.2 ⟨ih,by simp,fun a ha c hc e => ?_⟩
    simp at hc
    have:=ABZ bins last v kind k a ha
    omega
   ·simpa using ih
theorem YT (p:Pt) (last:List Int) (l:List Sg):(ptE p last l).hit.Nodup:=by
 unfold ptE
 split
 ·simp
 ·split
  ·simp
  ·split
   ·simp
   ·split
    ·simp
    ·exact ZW _ _ _ _ _
theorem AB0 (bins:List Bin) (last:List Int) (v:Int) : ∀ k,∀ x∈ML bins last v 0 k,∃ b,bins[x]? = some b∧(b.kind == 0)=true
 | 0,x,hx=>by simp [ML] at hx
 | k+1,x,hx=>by
   simp only [ML] at hx
   rcases List.mem_append.1 hx with h | h
   ·exact AB0 bins last v k x h
   ·split at h
    ·rename_i hq
     simp at h; subst h
     cases hb:bins[x]? with
     | none=>rw [hb] at hq; cases hq
     | some b =>
       rw [hb] at hq
       have hK1:hK last v 0 b=true:=hq
       unfold hK at hK1
       rw [Bool.and_eq_true] at hK1
       exact ⟨b,rfl,hK1.1⟩
    ·cases h
theorem AHB (p:Pt) (last:List Int) (l:List Sg) : ∀ x∈(ptE p last l).hit,(kindOf p x == 0)=true:=by
 intro x hx
 unfold ptE at hx
 split at hx
 ·cases hx
 ·split at hx
  ·cases hx
  ·split at hx
   ·cases hx
   ·split at hx
    ·cases hx
    ·obtain ⟨b,h1,h2⟩:=AB0 _ _ _ _ x hx
     unfold kindOf; rw [h1]; exact h2
theorem UR {p:Nat→Bool} : ∀ {l:List Int} {k:Nat},RY p k l=true↔∀ j,j < l.length→countB (l.getD j 0) (p (k+j))=true
 | [],k=>by simp [RY]
 | n :: l,k=>by
   simp only [RY,Bool.and_eq_true]
   rw [UR (l:=l) (k:=k+1)]
   constructor
   ·rintro ⟨h1,h2⟩ j hj
    cases j with
    | zero=>exact h1
    | succ j =>
      have:=h2 j (by simpa using hj)
      rw [show k+(j+1)=k+1+j by omega]; exact this
   ·intro h
    refine ⟨h 0 (by simp),fun j hj => ?_⟩
    have:=h (j+1) (by simpa using hj)
    rw [show k+(j+1)=k+1+j by omega] at this; exact this
theorem AEI {n:Int} {p:Bool} (h:countB n p=true) (hp:p=true):countB (rz n) p=true:=by
 have h1:=WE h
 subst hp
 unfold countB
 simp only [Bool.true_or,Bool.and_true]
 rw [NJ] at *
 unfold rz; omega
theorem APA {p:Pt} {last:List Int} {env:List Sg} {x y:Is} (hx:okP p x=true) (hy:y.l=rowP (ptE p last env).hit x.l):okP p y=true:=by
 unfold okP at *
 simp only [Bool.and_eq_true,beq_iff_eq] at *
 rw [hy,QI]
 refine ⟨hx.1,UR.2 fun j hj => ?_⟩
 rw [QI] at hj
 have h2:=UR.1 hx.2 j hj
 rw [VM j _ _ (YT _ _ _) (fun z hz=>by rw [hx.1]; exact AE0 _ _ _ z hz)]
 split
 ·rename_i hm
  exact AEI h2 (by rw [Nat.zero_add]; exact AHB _ _ _ j hm)
 ·exact h2
theorem ADS (m:Mo) (x:Cr) (hits:List (List Nat)) (xs:List Int) (k:Nat) (hk:k < xs.length):(rowC m x hits xs).getD k 0=if crK m x hits k=true then rz (xs.getD k 0) else xs.getD k 0:=by
 have hl:k < (rowC m x hits xs).length:=by rw [QJ]; exact hk
 rw [getD_at _ _ hl,ABM m x hits xs k hk hl,getD_at _ _ hk]
theorem APB {m:Mo} {c:Cr} {hits:List (List Nat)} {x y:Is} (hx:okC m c x=true) (hy:y.l=rowC m c hits x.l):okC m c y=true:=by
 unfold okC at *
 simp only [Bool.and_eq_true,beq_iff_eq] at *
 rw [hy,QJ]
 refine ⟨hx.1,UR.2 fun j hj => ?_⟩
 rw [QJ] at hj
 have h2:=UR.1 hx.2 j hj
 rw [ADS m c hits _ j hj]
 split
 ·rename_i hm
  unfold crK at hm
  rw [Bool.and_eq_true] at hm
  exact AEI h2 (by rw [Nat.zero_add]; exact hm.1)
 ·exact h2
theorem AFF {α:Type} {ok:α→Is→Bool} : ∀ {ws:List α} {xs:List Is},ws.length=xs.length→(∀ (i:Nat) (a:α) (x:Is),ws[i]? = some a→xs[i]? = some x→ok a x=true)→KE ok ws xs=true
 | [],[],_,_=>rfl
 | w :: ws,x :: xs,hl,h=>by
   simp only [KE,Bool.and_eq_true]
   exact ⟨h 0 w x rfl rfl,AFF (by simpa using hl) fun i a y h1 h2=>h (i+1) a y (by simpa using h1) (by simpa using h2)⟩
 | [],_ :: _,hl,_=>by simp at hl
 | _ :: _,[],hl,_=>by simp at hl
structure FitS (m:Mo) (s:St):Prop where
 me:GM m=0
 fp:KE okP m.pts (L6 s.P)=true
 fc:KE (okC m) m.crs (L6 s.C)=true
 ws:IY s.sam=true
 wi:IY s.ill=true
 ll:s.ls.length=m.pts.length
 lb : ∀ l∈s.ls,lastB l=true
theorem ASS {p:Pt} {x y:Is} (h:x.l=y.l):okP p x=okP p y:=by unfold okP; rw [h]
theorem ASV {m:Mo} {c:Cr} {x y:Is} (h:x.l=y.l):okC m c x=okC m c y:=by unfold okC; rw [h]
theorem AIQ (P:List (List Int)):(L6 P).map (·.l)=P:=by unfold L6; rw [List.map_map]; exact List.map_id _
theorem FitS.fits {m:Mo} {s:St} (h:FitS m s):MX m (cvS s)=true:=Y0.2 ⟨h.me,h.fp,h.fc,h.ws,h.wi⟩
theorem SI {α:Type} {ok:α→Is→Bool} {ws:List α} {xs:List Is} (h:KE ok ws xs=true) (i:Nat) (a:α) (x:Is) (h1:ws[i]? = some a) (h2:xs[i]? = some x):ok a x=true:=by
 obtain ⟨y,hy,hk⟩:=AH3 h i a h1
 rw [h2] at hy; cases hy; exact hk
theorem FitS.ok {m:Mo} {s:St} (h:FitS m s):StOk m s:=by
 have lp:=OA h.fp
 have lc:=OA h.fc
 have hpl:s.P.length=m.pts.length:=by rw [lp]; simp [L6]
 have hcl:s.C.length=m.crs.length:=by rw [lc]; simp [L6]
 refine ⟨⟨hpl,hcl,fun i a b => ?_,fun i a b => ?_,fun xs hx => ?_,fun xs hx => ?_⟩,h.ll,fun l hl => ?_,NJ.1 h.ws,NJ.1 h.wi⟩
 ·have:=SI h.fp i m.pts[i] ⟨.any,s.P[i]⟩ (List.getElem?_eq_getElem b) (by simp [L6])
  unfold okP at this
  simp only [Bool.and_eq_true,beq_iff_eq] at this
  exact this.1
 ·have:=SI h.fc i m.crs[i] ⟨.any,s.C[i]⟩ (List.getElem?_eq_getElem b) (by simp [L6])
  unfold okC at this
  simp only [Bool.and_eq_true,beq_iff_eq] at this
  exact this.1
 ·obtain ⟨i,hi,rfl⟩:=List.getElem_of_mem hx
  have:=SI h.fp i m.pts[i] ⟨.any,s.P[i]⟩ (List.getElem?_eq_getElem (by omega)) (by simp [L6])
  unfold okP at this
  rw [Bool.and_eq_true] at this
  exact fun n hn=>NJ.1 (UQ this.2 n hn)
 ·obtain ⟨i,hi,rfl⟩:=List.getElem_of_mem hx
  have:=SI h.fc i m.crs[i] ⟨.any,s.C[i]⟩ (List.getElem?_eq_getElem (by omega)) (by simp [L6])
  unfold okC at this
  rw [Bool.and_eq_true] at this
  exact fun n hn=>NJ.1 (UQ this.2 n hn)
 ·have:=h.lb l hl
  unfold lastB at this
  rw [Bool.and_eq_true] at this
  simpa using this.1
theorem AA4 {n:Int} (h:IY n=true):IY (rz n)=true:=by
 rw [NJ] at *
 unfold rz; omega
theorem AWF (l:List Sg) (e:Ex):(evE l e).1 < 65536:=by
 unfold evE
 split
 ·decide
 ·split
  ·exact AK1 l e
  ·decide
theorem WT {last:List Int} {v:Nat} (hl:lastB last=true) (hv:v < 65536):lastB (nextL last v)=true:=by
 unfold lastB at *
 simp only [Bool.and_eq_true,decide_eq_true_eq,Bool.not_eq_true'] at *
 obtain ⟨h1,h2⟩:=hl
 refine ⟨?_,?_⟩
 ·unfold nextL; rw [List.length_drop,List.length_append]; simp; omega
 ·rw [List.any_eq_false] at *
  intro x hx
  have hx':=List.mem_of_mem_drop hx
  rcases List.mem_append.1 hx' with h | h
  ·exact h2 x h
  ·simp at h; subst h
   unfold outW
   simp; omega
theorem AO3 {p:Pt} {last:List Int} {l:List Sg} (h0:(ptE p last l).err=0):lastB (ptE p last l).next=true:=by
 have hv:=AWF l p.ex
 unfold ptE at *
 split at h0
 ·cases h0
 ·rename_i hn
  have hlb:lastB last=true:=by
   cases hq:lastB last
   ·exact absurd (.inr hq) hn
   ·rfl
  rw [if_neg hn]
  split at h0
  ·rename_i h1
   exact absurd h0 h1
  ·rename_i h1
   rw [if_neg h1]
   split
   ·exact WT hlb hv
   ·split
    ·exact WT hlb hv
    ·exact WT hlb hv
theorem FitS.step {m:Mo} {s:St} (h:FitS m s) {env:List Sg} (h0:WJ m s env=0):FitS m (stp m s env):=by
 have hok:=h.ok
 have hr:=UU m s.ls env h.ll
 have hpl:=hok.sh.pl
 have hcl:=hok.sh.cl
 have l1:=UG (NT m s.ls env) s.P (by omega)
 have l2:=UI m ((NT m s.ls env).map PtR.hit) s.C hcl
 refine ⟨h.me,?_,?_,AA4 h.ws,?_,by simp [stp,hr],fun l hl => ?_⟩
 ·refine AFF (by simp [L6,stp,l1]; omega) fun i a x e1 e2 => ?_
  have hi:i < m.pts.length:=CU e1
  rw [List.getElem?_eq_getElem hi] at e1; cases e1
  have hx:x.l=rowP (ptE m.pts[i] (s.ls[i]'(by rw [h.ll]; exact hi)) env).hit (s.P[i]'(by omega)):=by
   unfold L6 at e2
   rw [List.getElem?_map] at e2
   have:(stp m s env).P[i]? = some (rowP ((NT m s.ls env)[i]'(by omega)).hit (s.P[i]'(by omega))):=by
    show (P5 (NT m s.ls env) s.P)[i]? = _
    rw [List.getElem?_eq_getElem (by omega),UH _ _ i (by omega) (by omega)]
   rw [this] at e2; cases e2
   rw [XQ m s.ls env i hi (by rw [h.ll]; exact hi) (by omega)]
  exact APA (SI h.fp i m.pts[i] ⟨.any,s.P[i]'(by omega)⟩ (List.getElem?_eq_getElem hi) (by simp [L6] <;> omega)) hx
 ·refine AFF (by simp [L6,stp,l2]; omega) fun i a x e1 e2 => ?_
  have hi:i < m.crs.length:=CU e1
  rw [List.getElem?_eq_getElem hi] at e1; cases e1
  have hx:x.l=rowC m m.crs[i] ((NT m s.ls env).map PtR.hit) (s.C[i]'(by omega)):=by
   unfold L6 at e2
   rw [List.getElem?_map] at e2
   have:(stp m s env).C[i]? = some (rowC m m.crs[i] ((NT m s.ls env).map PtR.hit) (s.C[i]'(by omega))):=by
    show (RU m ((NT m s.ls env).map PtR.hit) s.C)[i]? = _
    rw [List.getElem?_eq_getElem (by omega),UJ _ _ _ i hi (by omega)]
   rw [this] at e2; cases e2
   rfl
  exact APB (SI h.fc i m.crs[i] ⟨.any,s.C[i]'(by omega)⟩ (List.getElem?_eq_getElem hi) (by simp [L6] <;> omega)) hx
 ·unfold stp
  dsimp only
  split
  ·exact AA4 h.wi
  ·exact h.wi
 ·obtain ⟨r,hrm,rfl⟩:=List.mem_map.1 hl
  have he:=U4 PtR.err h0 r hrm
  obtain ⟨p,hp,rfl⟩:=List.mem_map.1 hrm
  exact AO3 he
theorem AVF {m:Mo} (h:GM m=0):FitS m (zS m):=by
 refine ⟨h,?_,?_,by show IY 0=true; decide,by show IY 0=true; decide,(AUQ m).ll,fun l hl => ?_⟩
 ·rw [show KE okP m.pts (L6 (zS m).P)=KE okP m.pts (m.pts.map fun p=>zIs p.bins.length) from AB6 (ok:=okP) (fun _ _ _ h=>ASS h) _ _ _ (by rw [AIQ]; simp [zS,zP,zIs])]
  exact U6 (ok:=okP) _ (fun p=>by unfold okP; simp [zIs,RX]; simp [zeros]) _
 ·rw [show KE (okC m) m.crs (L6 (zS m).C)=KE (okC m) m.crs (m.crs.map fun c=>zIs (II (szs m c.pts))) from AB6 (ok:=okC m) (fun _ _ _ h=>ASV h) _ _ _ (by rw [AIQ]; simp [zS,zC,zIs])]
  exact U6 (ok:=okC m) _ (fun c=>by unfold okC; simp [zIs,RX]; simp [zeros]) _
 ·rw [List.eq_of_mem_replicate hl]; decide
structure Sx (h H:Hp) (m:Mo) (c:Cvr) (t:Tk) (vb tb b8 b9 n0 K ob nb po co:Nat) (pb cbs:List Nat) (P C:List (List Int)) (sam ill:Int) (w:AV):Prop where
 gm:H[h.length]? = some (.live 2 [EH m])
 gv:H[vb]? = some (.live 4 [FU c])
 gt:H[tb]? = some (.live 1 [JI t])
 g8:H[b8]? = some (.live 4 [GH])
 g9:H[b9]? = some (.live 1 [GK])
 o1:h.length < vb
 o2:vb < tb
 o3:tb < b8
 o4:b8 < b9
 o5:b9 < n0
 cs:CS n0 H ob nb po co pb cbs P C sam ill w
 lo:n0≤ob
 ln:n0≤nb
 ho:ob < K
 hn:nb < K
 hp : ∀ b∈pb,b < K
 hc : ∀ b∈cbs,b < K
 hpo:P≠[]→po < K
 hco:C≠[]→co < K
 kh:K≤H.length
 hx:ext h H
section
variable {h H:Hp} {m:Mo} {c:Cvr} {t:Tk} {vb tb b8 b9 n0 K ob nb po co:Nat} {pb cbs:List Nat} {P C:List (List Int)} {sam ill:Int} {w:AV} (S:Sx h H m c t vb tb b8 b9 n0 K ob nb po co pb cbs P C sam ill w)
include S
theorem Sx.keep {H':Hp} (hk : ∀ (b:Nat) (x:ABlk),b < K→H[b]? = some x→H'[b]? = some x) (hl:K≤H'.length) (hx:Sm.ext h H'):Sx h H' m c t vb tb b8 b9 n0 K ob nb po co pb cbs P C sam ill w:=by
 have o1:=S.o1; have o2:=S.o2; have o3:=S.o3; have o4:=S.o4; have o5:=S.o5; have lo:=S.lo; have ho:=S.ho
 have cs:=S.cs
 refine ⟨hk _ _ (by omega) S.gm,hk _ _ (by omega) S.gv,hk _ _ (by omega) S.gt,hk _ _ (by omega) S.g8,hk _ _ (by omega) S.g9,o1,o2,o3,o4,o5,
  ⟨hk _ _ S.ho cs.gc,hk _ _ S.hn cs.gt,cs.np.keep fun b x hb hg => ?_,cs.nc.keep fun b x hb hg => ?_,cs.dis,cs.xcp,cs.xcc,cs.xtp,cs.xtc,cs.xpo,cs.xco,cs.ct⟩,S.lo,S.ln,S.ho,S.hn,S.hp,S.hc,S.hpo,S.hco,hl,hx⟩
 ·rcases hb with ⟨hP,rfl⟩ | hb
  ·exact hk _ _ (S.hpo hP) hg
  ·exact hk _ _ (S.hp _ hb) hg
 ·rcases hb with ⟨hC,rfl⟩ | hb
  ·exact hk _ _ (S.hco hC) hg
  ·exact hk _ _ (S.hc _ hb) hg
theorem Sx.app (x:Hp):Sx h (H ++ x) m c t vb tb b8 b9 n0 K ob nb po co pb cbs P C sam ill w:=S.keep (fun _ _ _ hg=>GI hg) (by have:=S.kh; simp; omega) (S.hx.app x)
theorem Sx.rowP {i:Nat} (hi:i < P.length) (hip:i < pb.length):D7 Tryz.prog H 26 (.ptr ob 0 0)=some (nlV po P)∧JK 1 H (nlV po P) (.int .i64 (i:Nat))=some (.ptr po i 0)∧D7 Tryz.prog H 57 (.ptr po i 0)=some (.own pb[i] 0 P[i].length)∧H[pb[i]]? = some (.live 1 (P[i].map encI)) :=
 ⟨S.cs.l0,S.cs.np.ix hi,S.cs.np.ld hi,S.cs.np.row i hip hi⟩
theorem Sx.rowC {i:Nat} (hi:i < C.length) (hip:i < cbs.length):D7 Tryz.prog H 26 (.ptr ob 0 1)=some (nlV co C)∧JK 1 H (nlV co C) (.int .i64 (i:Nat))=some (.ptr co i 0)∧D7 Tryz.prog H 57 (.ptr co i 0)=some (.own cbs[i] 0 C[i].length)∧H[cbs[i]]? = some (.live 1 (C[i].map encI)) :=
 ⟨S.cs.l1,S.cs.nc.ix hi,S.cs.nc.ld hi,S.cs.nc.row i hip hi⟩
end
theorem APP {H:Hp} {b:Nat} {xs:List Int} (hb:H[b]? = some (.live 1 (xs.map encI))) {k:Nat} (hk:k < xs.length):JK 1 H (.own b 0 xs.length) (.int .i64 (k:Nat))=some (.ptr b k 0):=by
 have:=KW (kk := .i64) (off:=0) (len:=xs.length) hb hk
 rw [Nat.zero_add] at this; exact this
theorem AOU {H:Hp} {b:Nat} {xs:List Int} (hb:H[b]? = some (.live 1 (xs.map encI))) {k:Nat} (hk:k < xs.length) (v:Int):FX Tryz.prog H 3 (.ptr b k 0) (.int .i64 v)=some (H.set b (.live 1 ((xs.set k v).map encI))):=by
 rw [KC (RH _ _) sz3 hb (KL hk) (by simp [encI]),List.map_set]
 rfl
theorem ART:CvOk zV:=⟨by decide,by decide,fun x hx=>(by cases hx),fun x hx=>(by cases hx)⟩
theorem AKY:TkOk zT:=⟨by decide,fun x hx=>(by cases hx)⟩
theorem AQH (m:Mo):CvOk (emV m):=by
 unfold emV
 split
 ·rename_i h
  exact Y8 (AH2 h)
 ·exact ART
theorem AL6 (m:Mo):TkOk (ADB m):=by
 unfold ADB
 split
 ·rename_i h
  have hn:=(PD h).num
  refine ⟨by simp [zLs]; omega,fun x hx => ?_⟩
  obtain ⟨y,_,rfl⟩:=List.mem_map.1 hx
  simp
 ·exact AKY
structure Rr (h H:Hp) (m:Mo) (c:Cvr) (t:Tk) (b4 cb tb:Nat):Prop where
 gm:H[h.length]? = some (.live 2 [EH m])
 g4:H[b4]? = some (.live 4 [GH])
 gc:H[cb]? = some (.live 4 [FU c])
 gt:H[tb]? = some (.live 1 [JI t])
 o1:h.length < b4
 o2:b4 < cb
 o3:cb < tb
 hx:ext h H
theorem Rr.ext {h H H':Hp} {m:Mo} {c:Cvr} {t:Tk} {b4 cb tb:Nat} (R:Rr h H m c t b4 cb tb) (hx:Sm.ext H H'):Rr h H' m c t b4 cb tb:=⟨F5 hx R.gm,F5 hx R.g4,F5 hx R.gc,F5 hx R.gt,R.o1,R.o2,R.o3,R.hx.trans hx⟩
theorem AK7 (h:Hp) (v:Cvr):FX Tryz.prog (h ++ [.live 4 [GH]]) 28 (.ptr h.length 0 0) (.agg (FU v))=some (h ++ [.live 4 [FU v]]):=by rw [stV (CZ _ _) rfl,VJ]
section
variable (G:Nat→AV)
set_option maxHeartbeats 2000000 in
theorem AV4 (hG:GOk G) (hT:PH G) (m:Mo) (hm:MoOk m) (c:Cvr) (hcv:CvOk c) (t:Tk) (ht:TkOk t) (h:Hp):PCall (En G) 14 [.agg (EH m),.agg (FU c),.agg (JI t)] h (.bool true):=by
 refine ACalls.pure0 rfl ?_
 refine CE (H:=Hint.none) (enM G) Tryz.func14 rfl (by kernel_rfl) (by kernel_rfl) (nLb (by kernel_rfl)) ?_
 show awp _ _ _ _ _ (EJ _ [.tmp 6] _)
 have gm:=CW (x:=ABlk.live 1 [JI t]) (CW (x:=ABlk.live 4 [FU c]) (CZ h (ABlk.live 2 [EH m])))
 have gc:=CW (x:=ABlk.live 1 [JI t]) (CZ (h ++ [ABlk.live 2 [EH m]]) (ABlk.live 4 [FU c]))
 have gt:=CZ (h ++ [ABlk.live 2 [EH m]] ++ [ABlk.live 4 [FU c]]) (ABlk.live 1 [JI t])
 have hx:ext h (h ++ [ABlk.live 2 [EH m]] ++ [ABlk.live 4 [FU c]] ++ [ABlk.live 1 [JI t]]):=(((ext.rfl' h).app _).app _).app _
 simp -implicitDefEqProofs only [BC,BA,A8,AY,BB,AO,AQ,AL,BD,AX,AC,AA,AZ,AU,BM,A7,FV,BV,CB,BF,BN,↓reduceIte,Nat.reduceEqDiff,oGs,bNf,enP,bxM,bxV,bxT]
 generalize h ++ [ABlk.live 2 [EH m]] ++ [ABlk.live 4 [FU c]] ++ [ABlk.live 1 [JI t]]=H at gm gc gt hx ⊢
 generalize (h ++ [ABlk.live 2 [EH m]] ++ [ABlk.live 4 [FU c]]).length=tb at gt ⊢
 generalize (h ++ [ABlk.live 2 [EH m]]).length=cb at gc ⊢
 simp -implicitDefEqProofs only [AY,AO,AQ,AL,BD,AX,AC,AA,AZ,BX,BZ,BU,AB,lMc,lMn,lAn,↓reduceIte,oGs,bNf,ldM gm]
 refine (Rk.small_some G m hm H).use ?_
 intro b
 cases b
 ·simp -implicitDefEqProofs only [BC,BA,BI,A8,CY,AY,BB,AO,AQ,AL,BD,AX,AC,AA,AZ,BX,G6,BZ,BU,AB,EY,lMn,lAn,↓reduceIte,oGs,bNf]
  refine (LV G hG hT H).use ?_
  simp -implicitDefEqProofs only [BL,A8,CQ,CJ,AY,BB,AO,AQ,AL,BD,AX,AC,AA,AZ,A7,↓reduceIte,oGs,bNf]
  exact ⟨by first | trivial | rfl,hx⟩
 simp -implicitDefEqProofs only [BC,BA,BO,BI,A8,DU,AY,BB,AO,AQ,AL,BD,AX,AC,AA,AZ,BX,BV,G6,BZ,BU,AB,EY,lMc,lMn,lAn,↓reduceIte,Nat.reduceEqDiff,oGs,bNt,bNf,enP,ldM gm]
 refine (AKU G hG m hm H).use ?_
 obtain ⟨s1,s2,g6,g7,hx5⟩:=AV3 H (emV m) (emT m)
 have gm1:=F5 hx5 gm
 have gc1:=F5 hx5 gc
 have gt1:=F5 hx5 gt
 have hx1:=hx.trans hx5
 simp -implicitDefEqProofs only [List.getElem?_cons_zero,List.getElem?_cons_succ,BC,BA,A8,AY,BB,AO,AQ,AL,BD,AX,AC,FC,AA,AZ,BG,A7,FY,BV,ER,FM,GZ,CB,AB,DX,↓reduceIte,Nat.reduceEqDiff,oGs,bNf,enP,Option.getD_none,OO,ZH,s1,s2]
 generalize ((H ++ [ABlk.live 4 [GH]] ++ [ABlk.live 1 [GK]]).set H.length (ABlk.live 4 [FU (emV m)])).set (H ++ [ABlk.live 4 [GH]]).length (ABlk.live 1 [JI (emT m)])=H1 at g6 g7 gm1 gc1 gt1 hx1 ⊢
 generalize (H ++ [ABlk.live 4 [GH]]).length=b7 at g7 ⊢
 generalize H.length=b6 at g6 ⊢
 clear s1 s2 hx5 gm gc gt hx
 simp -implicitDefEqProofs only [AY,AO,AQ,AL,BD,AX,AC,AA,AZ,BX,BZ,BU,AB,lMc,lMn,lAn,↓reduceIte,oGs,bNf,ldM gm1]
 refine (AN8 G m hm H1).use ?_
 obtain ⟨s1,s2,k6,k7,hx5⟩:=AV3 H1 (emV m) (ADB m)
 have gm2:=F5 hx5 gm1
 have gc2:=F5 hx5 gc1
 have gt2:=F5 hx5 gt1
 have g62:=F5 hx5 g6
 have g72:=F5 hx5 g7
 have hx2:=hx1.trans hx5
 simp -implicitDefEqProofs only [List.getElem?_cons_zero,List.getElem?_cons_succ,BC,A8,AY,BB,AO,AQ,AL,BD,AX,AC,FC,AA,AZ,BG,A7,FY,ER,FM,GZ,CB,AB,DX,↓reduceIte,Nat.reduceEqDiff,oGs,bNf,enP,Option.getD_none,OO,ZH,s1,s2]
 generalize ((H1 ++ [ABlk.live 4 [GH]] ++ [ABlk.live 1 [GK]]).set H1.length (ABlk.live 4 [FU (emV m)])).set (H1 ++ [ABlk.live 4 [GH]]).length (ABlk.live 1 [JI (ADB m)])=H2 at g62 g72 k6 k7 gm2 gc2 gt2 hx2 ⊢
 generalize (H1 ++ [ABlk.live 4 [GH]]).length=b11 at k7 ⊢
 generalize H1.length=b10 at k6 ⊢
 have hls:TK (emT m).last (ADB m).last=true:=by
  rw [X4]
  unfold emT ADB
  split <;> rfl
 have htk:TkOk (emT m):=by
  have:=AL6 m
  unfold ADB at this
  unfold emT
  split
  ·rename_i q; rw [if_pos q] at this; exact ⟨this.num,this.len⟩
  ·exact AKY
 refine FB (by kernel_rfl) ?_
 simp -implicitDefEqProofs only [F8,EC,DW,EF,FD,IU,GL,FW,AO,AA,AZ,BX,BV,BQ,AB,lMc,lMn,lAn,↓reduceIte,Nat.reduceEqDiff,Nat.reduceAdd,oGs,enP,ldM gm2]
 refine ⟨_,NG G hG m hm H2,?_⟩
 try simp -implicitDefEqProofs only [ldM gm2]
 refine ⟨_,QA G m hm H2,?_⟩
 simp -implicitDefEqProofs only [F8,EC,DW,EF,E8,GG,OQ,FO,IJ,FD,GL,FW,CO,AO,AA,AZ,AU,BX,BM,CP,DN,BV,AB,D5,lMc,lMn,lAn,↓reduceIte,Nat.reduceEqDiff,Nat.reduceAdd,oGs,enP,beq_self_eq_true,ldV g62,ldV k6]
 refine ⟨_,AVR G _ _ H2 (AQH m) (AQH m),?_⟩
 rw [AP4]
 simp -implicitDefEqProofs only [F8,EC,DW,EF,E8,GG,OQ,FO,IJ,FD,GL,FW,CO,AO,AA,AZ,AU,BX,BM,CP,DN,BV,AB,lMc,lMn,lAn,↓reduceIte,Nat.reduceEqDiff,Nat.reduceAdd,oGs,enP,ldT g72,ldT k7]
 refine ⟨_,ADK G _ _ htk (AL6 m) H2,?_⟩
 rw [hls]
 simp -implicitDefEqProofs only [F8,EC,DW,EF,E8,GG,OQ,FO,IJ,FD,IU,GL,FW,CO,AO,AA,AZ,AU,BX,BM,CP,DN,BV,BQ,AB,D5,lMc,lMn,lAn,↓reduceIte,Nat.reduceEqDiff,Nat.reduceAdd,oGs,enP,beq_self_eq_true,ldM gm2,ldV gc2]
 refine ⟨_,AD8 G hG hT m c hm hcv H2,?_⟩
 try simp -implicitDefEqProofs only [ldM gm2,ldV gc2]
 refine ⟨_,APY G m c hm hcv H2,?_⟩
 simp -implicitDefEqProofs only [F8,EC,DW,EF,E8,GG,OQ,FO,IJ,FD,IU,GL,FW,CO,AO,AA,AZ,AU,BX,BM,CP,DN,BV,BQ,AB,lMc,lMn,lAn,↓reduceIte,Nat.reduceEqDiff,Nat.reduceAdd,oGs,enP,be4,beq_self_eq_true,ldM gm2,ldT gt2]
 refine ⟨_,AIV G hG m hm t ht H2,?_⟩
 try simp -implicitDefEqProofs only [ldM gm2,ldT gt2]
 refine ⟨_,AKR G m hm t ht H2,?_⟩
 simp -implicitDefEqProofs only [F8,EC,DW,FK,EF,E8,GG,OQ,FO,JO,IJ,GL,FW,BL,A8,CJ,CO,AO,AA,AZ,AU,BX,BM,CP,DN,AB,lMn,lAn,↓reduceIte,Nat.reduceEqDiff,Nat.reduceAdd,oGs,be4,beq_self_eq_true]
 refine ⟨_,LV G hG hT H2,?_⟩
 try simp -implicitDefEqProofs only []
 exact ⟨by first | trivial | rfl,hx2⟩
end
end Go.Proofs.YtocilianjfhifaaGreatDoor.Xe
namespace Go.Proofs.YtocilianjfhifaaGreatDoor.Xe
open Sm Bins Cov Go.RowKit
theorem AYJ:Tryz.prog.cellsOf 187=2:=by kernel_rfl
theorem A0G:Tryz.prog.cellsOf 58=1:=by kernel_rfl
theorem A0Z:Tryz.prog.cellsOf 47=1:=by kernel_rfl
def AXU (s:Sg) (_:Nat):Prop:=AAL s
theorem AZ6:Rd Tryz.prog 187 GU AXU:=by
 intro n
 match n with
 | 0=>exact RdAt.zero
 | 1=>exact YS Tryz.underlying187
 | n+2 =>
   refine RdAt.map (fun x:ByteArray × Int × Unit=>((x.1,x.2.1):Sg)) (MR Tryz.underlying187 (IK rfl cl9 (fun _=>rfl) (rdStr _) (IK rfl cl3 (fun _=>rfl) (rdI _) P6))) (fun _=>rfl) ?_
   rintro ⟨a,b,_⟩ N ⟨_,_,_,_,_,_,_,_,_,h2,_⟩
   exact h2
def AVX (x:Ss) (b:Nat):Prop:=okL AXU x.l b
theorem AZ5:Rd Tryz.prog 58 KN AVX:=by
 intro n
 cases n with
 | zero=>exact RdAt.zero
 | succ n=>exact RdAt.map (fun x:SM × List Sg=>(⟨x.1,x.2⟩:Ss)) (LX Tryz.underlying58 AYJ (by decide) AEC (AZ6 n)) (fun _=>rfl) (fun x b h=>PT h)
theorem ASA {x:Ss} {b:Nat} (h:AVX x b) (hb:b≤1048576):x.l.length≤1048576∧∀ s∈x.l,AAL s:=by
 refine ⟨Nat.le_trans (okL.length h) hb,fun s hs => ?_⟩
 obtain ⟨_,_,h2⟩:=okL.each h s hs
 exact h2
structure Rn where
 m:SM
 l:List Ss
def AXV (x:Rn) (b:Nat):Prop:=okL AVX x.l b
def AYB (z:Rn):List AV := [.sl z.m 1 (z.l.map KN)]
theorem A0Y:Rd Tryz.prog 64 AYB AXV:=by
 intro n
 cases n with
 | zero=>exact RdAt.zero
 | succ n=>exact RdAt.map (fun x:SM × List Ss=>(⟨x.1,x.2⟩:Rn)) (LX Tryz.underlying64 A0G (by decide) (fun _=>rfl) (AZ5 n)) (fun _=>rfl) (fun x b h=>PT h)
theorem AZR {x:Rn} {b:Nat} (h:AXV x b) (hb:b≤1048576):x.l.length≤1048576∧∀ y∈x.l,y.l.length≤1048576∧∀ s∈y.l,AAL s:=by
 refine ⟨Nat.le_trans (okL.length h) hb,fun y hy => ?_⟩
 obtain ⟨b1,h1,h2⟩:=okL.each h y hy
 exact ASA h2 (by omega)
def AXT (t:Tk) (b:Nat):Prop:=okL AHI t.last b
theorem A0X:Rd Tryz.prog 47 JI AXT:=by
 intro n
 match n with
 | 0=>exact RdAt.zero
 | 1=>exact YS Tryz.underlying47
 | n+2 =>
   have rdXs:RdAt Tryz.prog (n+1) 26 (fun x:SM × List Is => [.sl x.1 1 (x.2.map encL)]) (fun x b => ∃ b',b'+1≤b∧okL AHI x.2 b'):=LX Tryz.underlying26 AT3 (by decide) X6 (ASM n)
   refine RdAt.map (fun x:(SM × List Is) × Unit=>(⟨x.1.1,x.1.2⟩:Tk)) (MR Tryz.underlying47 (IK rfl AT4 (fun _=>rfl) rdXs P6)) (fun x=>rfl) ?_
   rintro ⟨a,_⟩ N ⟨_,hN,b1,b2,hb,h1,_⟩
   exact (PT h1).mono (by omega)
theorem AZQ {t:Tk} {b:Nat} (h:AXT t b) (hb:b≤1048576):TkOk t:=by
 refine ⟨Nat.le_trans (okL.length h) hb,fun x hx => ?_⟩
 obtain ⟨b4,h4,h5⟩:=okL.each h x hx
 have:=okL.length h5
 omega
end Go.Proofs.YtocilianjfhifaaGreatDoor.Xe
