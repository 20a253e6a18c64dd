/- Part 14 of the proof (X12, X13, X14, X15, X16, X17, X19, X20); no condition. -/
import Derived.Test.YtocilianjfhifaaGreatDoorYA13
set_option linter.unusedVariables false
set_option linter.unusedSimpArgs false
set_option maxRecDepth 8000
namespace Go.Proofs.YtocilianjfhifaaGreatDoor.Xe
open Sm Bins Cov Wd Go.RowKit
theorem AOF (last:List Int) (lm:SM) (h:Hp) (hl:last.length≤1048576) : ∃ u h',GU Tryz.prog true h 57 57 (.sl .nil 0 []) (.sl lm 1 (last.map encI))=some (u,h')∧AKR 1 (last.map encI) h u h':=by
 cases hx:last with
 | nil=>exact ⟨_,_,(by kernel_rfl),.inl ⟨rfl,⟨0,rfl⟩,rfl⟩⟩
 | cons y ys =>
   have hne:last.map encI≠[]:=by rw [hx]; simp
   rw [← hx]
   exact ⟨_,_,TI TY sz3 XE WX (KA _ lm 1 (last.map encI)) hne (JO (by simp; omega) (by omega)),.inr (.inr ⟨hne,rfl,rfl⟩)⟩
theorem AV4 (p:Pt) (last:List Int) (l:List Sg) (h1:GL p=0) (h2:lastB last=true) (h3:(evE l p.ex).2=0) :
  ptE p last l=⟨if (inK p.bins 2 (evE l p.ex).1 || inK p.bins 1 (evE l p.ex).1)=true then [] else XZ p last (evE l p.ex).1 0,nextL last (evE l p.ex).1,inK p.bins 2 (evE l p.ex).1,0⟩:=by
 unfold ptE
 rw [if_neg (by rw [h1,h2]; simp),if_neg (by simpa using h3)]
 cases h4:inK p.bins 2 (evE l p.ex).1
 ·cases h5:inK p.bins 1 (evE l p.ex).1
  ·rfl
  ·rfl
 ·rfl
section
variable (G:Nat→AV)
set_option maxHeartbeats 2000000 in
theorem AOK (p:Pt) (hp:PtOk p) (last:List Int) (lm:SM) (l:List Sg) (m:SM) (h:Hp) (hll:last.length≤1048576) (hl:l.length≤1099511627776) (hok : ∀ s∈l,AD0 s) :
  PCall (En G) 44 [.agg (FX p),.sl lm 1 (last.map encI),.sl m 2 (l.map GH)] h (ptV (ptE p last l)):=by
 refine PCall.res (r:=ptW (ptE p last l)) ?_ (APH _)
 refine ACalls.pure (R:=fun v H=>ext h H∧II h.length H 4 v=ptW (ptE p last l)) 4 ?_ (fun v H ⟨a,b⟩=>⟨a,b⟩)
 have hnum:=hp.num
 refine CB (H:=Hint.none) (enM G) Tryz.func44 rfl (by kernel_rfl) (by kernel_rfl) (nLb (by kernel_rfl)) ?_
 show awp _ _ _ _ _ (EE _ [.tmp 6,.tmp 7,.tmp 8,.tmp 9] _)
 have gp:=CY h (ABlk.live 6 [FX p])
 have hx:ext h (h ++ [ABlk.live 6 [FX p]]):=(ext.rfl' h).app _
 simp -implicitDefEqProofs only [BC,BA,A8,AY,BB,AO,AQ,AL,BD,AX,AC,AA,A7,AU,BH,BM,JD,AZ,FV,BV,CE,BF,↓reduceIte,Nat.reduceEqDiff,oGs,bNf,enP,bxP]
 generalize h ++ [ABlk.live 6 [FX p]]=H1 at gp hx ⊢
 simp -implicitDefEqProofs only [AY,AO,AQ,AL,BD,AX,AC,AA,A7,BX,BZ,BU,AB,lMc,lMn,lAn,↓reduceIte,oGs,bNf,ldP gp]
 refine (AEE G p hp H1).use ?_
 simp -implicitDefEqProofs only [AY,BJ,BP,CO,AO,AQ,AL,BD,AX,AC,AA,A7,AU,BH,BG,BR,AB,EJ,↓reduceIte,oGs,bNf,enP]
 cases h1:(GL p == 0)
 ·have hne:GL p≠0:=by simpa using h1
  simp -implicitDefEqProofs only [BC,BA,BL,BI,A8,CP,PP,C9,AY,BB,BJ,BP,CO,FK,AO,AQ,AL,BD,AX,AC,AA,EQ,A7,AU,BH,BM,JD,AZ,CQ,DN,↓reduceIte,Nat.reduceEqDiff,oGs,bNf,bne,h1]
  exact ⟨hx,by unfold ptE; rw [if_pos (.inl hne)]; rfl⟩
 have hp0:GL p=0:=by simpa using h1
 simp -implicitDefEqProofs only [BJ,BP,CO,EK,AO,AQ,AL,BD,AX,AC,AA,A7,BX,BG,BZ,BU,BF,BN,lMc,lMn,lAn,↓reduceIte,Nat.reduceEqDiff,oGs,bNt,bNf,bne,h1]
 refine (AEI G last lm H1 (by omega)).use ?_
 simp -implicitDefEqProofs only [BI,A8,AY,BB,BJ,BP,CO,EK,AO,AQ,AL,BD,AX,AC,AA,A7,AU,BM,CQ,DK,G6,AB,EX,↓reduceIte,Nat.reduceEqDiff,oGs,bNf]
 cases h2:lastB last
 ·simp -implicitDefEqProofs only [BC,BA,BL,A8,CP,PP,C9,AY,BB,AO,AQ,AL,BD,AX,AC,AA,AU,BH,BM,JD,AZ,↓reduceIte,Nat.reduceEqDiff,oGs,bNf]
  exact ⟨hx,by unfold ptE; rw [if_pos (.inr h2)]; rfl⟩
 have h7:last.length≤7:=by
  unfold lastB at h2
  rw [Bool.and_eq_true] at h2
  simpa using h2.1
 simp -implicitDefEqProofs only [BC,BA,BO,A8,DU,AY,AO,AQ,AL,BD,AX,AC,AA,A7,BX,BG,BV,BK,BZ,BU,AB,BF,BN,lMc,lMn,lAn,↓reduceIte,Nat.reduceEqDiff,Nat.zero_add,oGs,bNt,bNf,enP,ZH,AFT gp]
 refine (ARZ G l m p.ex H1 hl hok hp.ex).use ?_
 cases h3:((evE l p.ex).2 == 0)
 ·have hne:(evE l p.ex).2≠0:=by simpa using h3
  unfold evV
  simp -implicitDefEqProofs only [List.getElem?_cons_zero,List.getElem?_cons_succ,BC,BA,BL,BI,A8,CP,PP,C9,AY,BB,AO,AQ,AL,BD,AX,AC,AA,A7,AU,BH,BM,JD,BG,AZ,BR,FW,IB,AB,EJ,↓reduceIte,Nat.reduceEqDiff,oGs,bNf,enP,bne,h3]
  exact ⟨hx,by unfold ptE; rw [if_neg (by rw [hp0,h2]; simp),if_pos hne]; rfl⟩
 have he0:(evE l p.ex).2=0:=by simpa using h3
 rw [AV4 p last l hp0 h2 he0]
 unfold evV
 simp -implicitDefEqProofs only [List.getElem?_cons_zero,List.getElem?_cons_succ,BC,BA,BO,BI,A8,DU,AY,BB,AO,AQ,AL,BD,AX,AC,AA,A7,AU,BH,BG,AZ,BV,BR,FW,IB,AB,EJ,↓reduceIte,Nat.reduceEqDiff,oGs,bNt,bNf,enP,bne,h3]
 generalize (evE l p.ex).1=v
 clear h3 he0
 have l5 : ∀ H:Hp,ext H1 H→DZ Tryz.prog H 54 (.ptr h.length 0 5)=some (.sl p.bm 4 (p.bins.map GM)):=fun H hH=>by rw [DJ P6 (EU hH gp) (row:=FX p) rfl,MC]
 simp -implicitDefEqProofs only [AY,AO,AQ,AL,BD,AX,AC,AA,A7,AU,BX,BH,BG,BZ,BU,AB,lMc,lMn,lAn,↓reduceIte,Nat.reduceEqDiff,oGs,bNf,ldP gp]
 refine (AP9 G p hp 2 (v:Nat) H1).use ?_
 simp -implicitDefEqProofs only [BC,BQ,BA,A8,AY,BB,AO,AQ,AL,BD,AX,AC,AA,A7,AU,BH,JD,AZ,↓reduceIte,oGs,bNf]
 refine G9 0 (fun F H => ∃ u,F 1 = .sl lm 1 (last.map encI)∧F 10 = .int .i64 (v:Nat)∧F 12 = .bool (inK p.bins 2 (v:Nat))∧F 13=u∧ext H1 H∧outG 1 IV H1 (if (inK p.bins 2 (v:Nat) || inK p.bins 1 (v:Nat))=true then [] else XZ p last (v:Nat) 0) u H) (fun _ _=>False) ?_ ?_ (fun _ _ hh=>hh.elim)
 ·refine DR (fun n F H => ∃ k u,n+k=p.bins.length∧F 1 = .sl lm 1 (last.map encI)∧F 3 = .ptr h.length 0 0∧F 10 = .int .i64 (v:Nat)∧F 12 = .bool (inK p.bins 2 (v:Nat))∧F 13=u∧F 14 = .int .i64 (k:Nat)∧ext H1 H∧outG 1 IV H1 (if (inK p.bins 2 (v:Nat) || inK p.bins 1 (v:Nat))=true then [] else MM p.bins last (v:Nat) 0 k) u H) p.bins.length
   ⟨0,.sl .nil 0 [],by simp,by simp -implicitDefEqProofs only [AA,BF,BN,↓reduceIte,Nat.reduceEqDiff],by simp -implicitDefEqProofs only [AA,↓reduceIte,Nat.reduceEqDiff],by simp -implicitDefEqProofs only [AA,↓reduceIte,Nat.reduceEqDiff],by simp -implicitDefEqProofs only [AA,↓reduceIte,Nat.reduceEqDiff],by simp -implicitDefEqProofs only [AA,↓reduceIte,Nat.reduceEqDiff],by simp -implicitDefEqProofs only [AA,↓reduceIte] <;> rfl,ext.rfl' _,by split <;> exact outG.nil _ _ _ _⟩ ?_
  rintro n F H ⟨k,u,hk,f1,f3,f10,f12,f13,f14,hxH,ho⟩
  simp -implicitDefEqProofs only [BC,BA,AY,BJ,BP,CO,AO,AQ,AL,BD,AX,AC,AA,A7,BG,BV,BR,BK,D6,AB,DF,↓reduceIte,Nat.reduceEqDiff,Nat.zero_add,oGs,bNf,enP,Q9,IW,f3,f14,l5 H hxH,lLm]
  cases hc:decide (((k:Nat):Int) < ((p.bins.length:Nat):Int))
  ·have hk':k=p.bins.length:=by
    have : ¬ k < p.bins.length:=by simpa using hc
    omega
   subst hk'
   simp -implicitDefEqProofs only [DL,BI,A8,EC,KG,EW,DU,AY,BB,BJ,BP,CO,H7,AO,AQ,AL,BD,AX,AC,AA,EQ,A7,AU,BM,BG,CQ,DK,↓reduceIte,Nat.reduceEqDiff,oGs,bNf]
   exact ⟨u,by first | trivial | exact f1,by first | trivial | exact f10,by first | trivial | exact f12,by first | trivial | exact f13,hxH,ho⟩
  have hk':k < p.bins.length:=by simpa using hc
  simp -implicitDefEqProofs only [AY,BJ,BP,CO,FY,AO,AQ,AL,BD,AX,AC,AA,A7,AU,BM,BG,CQ,DN,G6,AB,EX,↓reduceIte,Nat.reduceEqDiff,oGs,bNf,f12]
  cases h4:inK p.bins 2 (v:Nat)
  ·rw [h4] at ho f12
   have gpH:=EU hxH gp
   simp -implicitDefEqProofs only [Bool.false_or,BJ,BP,CO,FY,AO,AQ,AL,BD,AX,AC,AA,A7,AU,BX,BH,BG,BV,BZ,BU,AB,lMc,lMn,lAn,↓reduceIte,Nat.reduceEqDiff,oGs,bNf,enP,f3,f10,ldP gpH]
   refine (AP9 G p hp 1 (v:Nat) H).use ?_
   simp -implicitDefEqProofs only [BI,A8,AY,BB,BJ,BP,CO,FY,AO,AQ,AL,BD,AX,AC,AA,A7,AU,BM,CQ,DN,G6,AB,EX,↓reduceIte,Nat.reduceEqDiff,oGs,bNf]
   cases h5:inK p.bins 1 (v:Nat)
   ·rw [h5] at ho
    rw [if_neg (by decide)] at ho
    have hbok:=hp.bins _ (List.getElem_mem hk')
    have hlen:=VD p.bins last (v:Nat) 0 k
    have hs:=WS p.bins last (v:Nat) 0 k hk'
    have lk:DZ Tryz.prog H 3 (.fptr 4 (p.bins.map GM) k 1)=some (.int .i64 p.bins[k].kind):=by rw [DT ag3 hk']; rfl
    have hKv:hK last (v:Nat) 0 p.bins[k]=((p.bins[k].kind == 0) && hit p.bins[k] last (v:Nat)):=by unfold hK; simp
    simp -implicitDefEqProofs only [BC,BQ,BA,BO,A8,C9,AY,BJ,BP,CO,AO,AQ,AL,BD,AX,AC,AA,A7,AU,BH,BG,BV,BR,BK,CG,AB,DY,↓reduceIte,Nat.reduceEqDiff,Nat.zero_add,oGs,bNf,enP,WQ,IW,MW,Bool.false_eq_true,f3,f14,l5 H hxH,D5 hk',lk]
    have skip:hK last (v:Nat) 0 p.bins[k]=false→outG 1 IV H1 (MM p.bins last (v:Nat) 0 (k+1)) u H:=fun q=>by rw [hs,q]; simpa using ho
    cases hq:(p.bins[k].kind == 0)
    ·rw [hq,Bool.false_and] at hKv
     simp -implicitDefEqProofs only [BA,BO,BI,A8,EF,ER,DU,AY,BB,BJ,BP,CO,H7,AO,AQ,AL,BD,AX,AC,AA,EQ,A7,AU,BH,BM,BG,AZ,CQ,DK,BR,AB,DI,↓reduceIte,Nat.reduceEqDiff,oGs,bNf,enP,f14,wrap_succ (show k < 9223372036854775807 by omega)]
     exact ⟨n - 1,by omega,k+1,u,by omega,by first | trivial | exact f1,by first | trivial | exact f3,by first | trivial | exact f10,by first | trivial | exact f12,by first | trivial | exact f13,by first | trivial | rfl,hxH,by exact skip hKv⟩
    ·rw [hq,Bool.true_and] at hKv
     simp -implicitDefEqProofs only [BJ,BP,CO,FY,AO,AQ,AL,BD,AX,AC,AA,A7,BX,BG,BV,BK,CG,BZ,BU,AB,lMc,lMn,lAn,↓reduceIte,Nat.reduceEqDiff,Nat.zero_add,oGs,bNf,enP,WQ,IW,f1,f3,f10,f14,l5 H hxH,D5 hk',FO TN PD LW hk']
     refine (ATM G p.bins[k] hbok last lm (v:Nat) H (by omega)).use ?_
     simp -implicitDefEqProofs only [BI,A8,AY,BB,AO,AQ,AL,BD,AX,AC,AA,A7,AU,BM,CQ,DN,↓reduceIte,Nat.reduceEqDiff,oGs,bNf]
     cases hv:hit p.bins[k] last (v:Nat)
     ·rw [hv] at hKv
      simp -implicitDefEqProofs only [BA,BO,A8,EF,ER,DU,AY,BB,AO,AQ,AL,BD,AX,AC,AA,A7,AU,BH,BG,AZ,BR,AB,DI,↓reduceIte,Nat.reduceEqDiff,oGs,bNf,enP,f14,wrap_succ (show k < 9223372036854775807 by omega)]
      exact ⟨n - 1,by omega,k+1,u,by omega,by first | trivial | exact f1,by first | trivial | exact f3,by first | trivial | exact f10,by first | trivial | exact f12,by first | trivial | exact f13,by first | trivial | rfl,hxH,by exact skip hKv⟩
     ·rw [hv] at hKv
      rw [hKv,if_pos rfl] at hs
      obtain ⟨u',H3,ha,ho2,_,hx2,_,_⟩:=ho.append (P:=Tryz.prog) TY sz3 XE WX (by omega) (by omega) hxH k
      have ha':GU Tryz.prog true H 57 57 u (.sl .full 1 [[.int .i64 ((k:Nat):Int)]])=some (u',H3):=ha
      simp -implicitDefEqProofs only [FT,F6,BA,A8,EF,ER,C9,AY,BB,AO,AQ,AL,BD,AX,AC,AA,A7,AU,BH,BG,AZ,ES,BR,IJ,CE,AB,DI,↓reduceIte,Nat.reduceEqDiff,oGs,bNf,enP,f13,f14,AGL,ha',wrap_succ (show k < 9223372036854775807 by omega)]
      exact ⟨n - 1,by omega,k+1,u',by omega,by first | trivial | exact f1,by first | trivial | exact f3,by first | trivial | exact f10,by first | trivial | exact f12,by first | trivial | rfl,by first | trivial | rfl,hx2,by rw [hs]; exact ho2⟩
   ·rw [h5] at ho
    simp -implicitDefEqProofs only [DL,EC,KG,EW,DU,AA,↓reduceIte,Nat.reduceEqDiff,bNt]
    exact ⟨u,by first | trivial | exact f1,by first | trivial | exact f10,by first | trivial | exact f12,by first | trivial | exact f13,hxH,ho⟩
  ·rw [h4] at ho f12
   simp -implicitDefEqProofs only [Bool.true_or,DL,BI,A8,EC,KG,EW,DU,AY,BB,BJ,BP,CO,H7,AO,AQ,AL,BD,AX,AC,AA,EQ,A7,AU,BM,CQ,DK,↓reduceIte,Nat.reduceEqDiff,oGs,bNt,bNf]
   exact ⟨u,by first | trivial | exact f1,by first | trivial | exact f10,by first | trivial | exact f12,by first | trivial | exact f13,hxH,ho⟩
 ·rintro F H ⟨u,f1,f10,f12,f13,hxH,ho⟩
  obtain ⟨w,H2,ha,hc⟩:=AOF last lm H hll
  obtain ⟨o,H3,ha3,ho3,hol,hx3⟩:=AE3 (v:Nat) hc hll
  have ho':outG 1 IV H1 (if (inK p.bins 2 (v:Nat) || inK p.bins 1 (v:Nat))=true then [] else XZ p last (v:Nat) 0) u H3:=by
   obtain ⟨y,rfl⟩:=hx3
   exact ho.app y
  have hxa:=(hx.trans hxH).trans hx3
  have hle:=hx.le
  have hle2:=hxH.le
  have e1:=AIC ATQ ho' h.length 1 hle
  have hnl:(last ++ [((v:Nat):Int)]).drop (last.length+1 - 7)=nextL last v:=rfl
  have hne:=AH2 last v
  simp -implicitDefEqProofs only [FT,F6,BC,BA,BI,A8,EY,AY,BB,AO,AQ,AL,BD,AX,AC,AA,A7,AU,BH,JD,BG,AZ,ES,BR,D6,IJ,CE,AB,EZ,↓reduceIte,Nat.reduceEqDiff,oGs,bNf,enP,JB,f1,ha,f10,AGL,ha3]
  rcases Classical.em (last.length=7) with e7 | e7
  ·have hd:decide (((last.length+1:Nat):Int) > 7)=true:=decide_eq_true (by omega)
   have hsl:NJ Tryz.prog H3 57 (.own o 0 (last.length+1)) (some (.int .i64 1)) none none=some (.own o 1 (last.length+1 - 1)):=APC (u:=1) ho3 (by omega)
   have e2:II h.length H3 3 (.own o 1 (last.length+1 - 1))=fzG 1 encI (nextL last v):=by
    rw [AMD (d:=1) (xs:=last ++ [((v:Nat):Int)]) ATR (by omega) ho3 (by simp <;> omega),AF0 hne,← hnl,show last.length+1 - 7=1 by omega]
   simp -implicitDefEqProofs only [Option.map_some,Option.map_none,BC,BA,BL,A8,PP,C9,AY,BB,AO,AQ,AL,BD,AX,AC,AA,A7,AU,BH,BG,AZ,XF,AB,↓reduceIte,Nat.reduceEqDiff,oGs,bNf,enP,hd,hsl,f12,f13]
   refine ⟨hxa,?_⟩
   show AV.tup [II h.length H3 3 u,II h.length H3 3 (.own o 1 (last.length+1 - 1)),.bool _,.int .i64 0]=_
   rw [e1,e2]; rfl
  ·have hd:decide (((last.length+1:Nat):Int) > 7)=false:=decide_eq_false (by omega)
   have e2:II h.length H3 3 (.own o 0 (last.length+1))=fzG 1 encI (nextL last v):=by
    rw [AMD (d:=1) (xs:=last ++ [((v:Nat):Int)]) ATR (by omega) ho3 (by simp <;> omega),AF0 hne,← hnl,show last.length+1 - 7=0 by omega]
   simp -implicitDefEqProofs only [BC,BA,BO,BL,A8,PP,DU,AY,BB,AO,AQ,AL,BD,AX,AC,AA,A7,AU,BH,BG,AZ,↓reduceIte,Nat.reduceEqDiff,oGs,bNf,hd,f12,f13]
   refine ⟨hxa,?_⟩
   show AV.tup [II h.length H3 3 u,II h.length H3 3 (.own o 0 (last.length+1)),.bool _,.int .i64 0]=_
   rw [e1,e2]; rfl
def ADK (m:Mo) (t:Tk):Bool:=(GN m == 0) && (((t.last.length:Nat):Int) == ((m.pts.length:Nat):Int)) && t.last.all fun x=>lastB x.l
structure TkOk (t:Tk):Prop where
 num:t.last.length≤1048576
 len : ∀ x∈t.last,x.l.length≤1048576
theorem bxT (h:Hp) (t:Tk):O3 h (.agg (IM t))=some (.ptr h.length 0 0,h ++ [.live 1 [IM t]]):=rfl
theorem AIM (t:Tk):(IM t)[0]? = some (.sl t.m 1 (t.last.map encL)):=rfl
theorem AJ0 (x:Is) (h:Hp) (hl:x.l.length≤1048576):PCall (En G) 134 [.sl x.m 1 (x.l.map encI)] h (.bool (!lastB x.l)):=by
 refine CB (H:=Hint.none) (enM G) Tryz.func134 rfl (by kernel_rfl) (by kernel_rfl) (nLb (by kernel_rfl)) ?_
 show awp _ _ _ _ _ (EE _ [.tmp 2] _)
 simp -implicitDefEqProofs only [BC,BA,A8,AY,BB,AO,AQ,AL,BD,AX,AC,AA,A7,AU,BX,BM,BG,AZ,BZ,BU,BF,lMc,lMn,lAn,↓reduceIte,Nat.reduceEqDiff,oGs,bNf,enP]
 refine (XW G x.l x.m h (by omega)).use ?_
 simp -implicitDefEqProofs only [BL,A8,CJ,AY,BB,AO,AQ,AL,BD,AX,AC,AA,A7,AZ,G6,AB,EX,↓reduceIte,oGs,bNf]
 exact ⟨by first | trivial | rfl,trivial⟩
theorem AWF (xs:List Is) (m:SM) (fid:FuncId) (p:Is→Bool) (h:Hp) (hl:xs.length≤1099511627776) (hf : ∀ r∈xs,PCall (En G) fid [.sl r.m 1 (r.l.map encI)] h (.bool (p r))) :
  PCall (En G) 183 [.sl m 1 (xs.map encL),.fn (.func fid) [] []] h (.int .i64 (match xs.findIdx? p with | some i=>(i:Int) | none => -1)):=by
 refine CB (H:=Hint.none) (enM G) Tryz.func183 rfl (by kernel_rfl) (by kernel_rfl) (nLb (by kernel_rfl)) ?_
 show awp _ _ _ _ _ (EE _ [.tmp 4] _)
 simp -implicitDefEqProofs only [BC,BQ,BA,A8,AY,BB,AO,AQ,AL,BD,AX,AC,AA,A7,AU,BH,BG,AZ,D6,AB,BF,↓reduceIte,Nat.reduceEqDiff,oGs,bNf,enP,TA,lLm]
 refine DR (fun n F H => ∃ k,n+k=xs.length∧F 0 = .sl m 1 (xs.map encL)∧F 1 = .fn (.func fid) [] []∧F 7 = .int .i64 xs.length∧F 8 = .int .i64 (k:Nat)∧H=h∧(xs.take k).all (fun r => !p r)=true) xs.length ⟨0,by simp,rfl,rfl,rfl,rfl,rfl,rfl⟩ ?_
 rintro n F H ⟨k,hk,f0,f1,f7,f8,rfl,hin⟩
 simp -implicitDefEqProofs only [BC,BA,BI,A8,AY,BB,AO,AQ,AL,BD,AX,AC,AA,A7,BR,AB,DF,↓reduceIte,oGs,bNf,enP,f0,f1,f7,f8,lLm]
 refine CW (fun hc => ?_) (fun hc => ?_)
 ·have hc':k < xs.length:=by simpa using hc
  simp -implicitDefEqProofs only [BC,BQ,BA,BO,A8,AY,BB,AO,AQ,AL,BD,AX,AC,AA,A7,BG,AZ,BV,CG,BZ,BU,AB,lMc,lMn,lAn,↓reduceIte,Nat.reduceEqDiff,oGs,bNf,enP,NH,f0,f1,f7,f8,D5 hc',DT LD hc',NV]
  refine (hf _ (List.getElem_mem hc')).use ?_
  simp -implicitDefEqProofs only [BI,A8,BB,AC,AA,A7,↓reduceIte]
  refine CW (fun hb => ?_) (fun hb => ?_)
  ·simp -implicitDefEqProofs only [BC,BA,BL,A8,CP,D8,FB,CJ,AY,BB,AO,AQ,AL,BD,AX,AC,AA,A7,BG,AZ,↓reduceIte,Nat.reduceEqDiff,oGs,bNf]
   refine ⟨?_,trivial⟩
   rw [List.findIdx?_eq_some_iff_getElem.2 ⟨hc',hb,fun j hj=>by
    rw [List.all_eq_true] at hin
    have:=hin xs[j] (by rw [List.mem_take_iff_getElem]; exact ⟨j,by omega,rfl⟩)
    simpa using this⟩]
  ·simp -implicitDefEqProofs only [BA,BO,A8,EF,ER,AY,BB,AO,AQ,AL,BD,AX,AC,AA,A7,AU,BH,BG,BR,AB,DI,↓reduceIte,Nat.reduceEqDiff,oGs,bNf,enP,f8,wrap_succ (show k < 9223372036854775807 by omega)]
   refine ⟨n - 1,by omega,k+1,by omega,f0,f1,f7,rfl,trivial,?_⟩
   rw [List.take_succ_eq_append_getElem hc',List.all_append,hin]
   simp only [List.all_cons,List.all_nil,hb]; rfl
 ·have hc' : ¬ k < xs.length:=by simpa using hc
  simp -implicitDefEqProofs only [BC,BA,BL,DL,A8,EC,EY,EW,CJ,AY,BB,AO,AQ,AL,BD,AX,AC,AA,AU,BH,AZ,↓reduceIte,oGs,bNf]
  refine ⟨?_,trivial⟩
  rw [List.take_of_length_le (by omega)] at hin
  rw [List.findIdx?_eq_none_iff.2 (by simpa using hin)]
theorem AN7 (xs:List Is) (m:SM) (fid:FuncId) (p:Is→Bool) (h:Hp) (hl:xs.length≤1099511627776) (hf : ∀ r∈xs,PCall (En G) fid [.sl r.m 1 (r.l.map encI)] h (.bool (p r))) :
  PCall (En G) 133 [.sl m 1 (xs.map encL),.fn (.func fid) [] []] h (.bool (xs.any p)):=by
 refine CB (H:=Hint.none) (enM G) Tryz.func133 rfl (by kernel_rfl) (by kernel_rfl) (nLb (by kernel_rfl)) ?_
 show awp _ _ _ _ _ (EE _ [.tmp 4] _)
 simp -implicitDefEqProofs only [BC,BA,A8,AY,BB,AO,AQ,AL,BD,AX,AC,AA,A7,AU,BX,BM,BG,AZ,BZ,BU,BF,BN,lMc,lMn,lAn,↓reduceIte,Nat.reduceEqDiff,oGs,bNf,enP]
 refine (AWF G xs m fid p h hl hf).use ?_
 simp -implicitDefEqProofs only [BL,A8,CJ,AY,BB,AO,AQ,AL,BD,AX,AC,AA,A7,AU,BH,AZ,BR,AB,GZ,↓reduceIte,oGs,bNf,enP]
 refine ⟨?_,trivial⟩
 cases hx:xs.findIdx? p with
 | some i =>
   obtain ⟨h1,h2,_⟩:=List.findIdx?_eq_some_iff_getElem.1 hx
   have:xs.any p=true:=List.any_eq_true.2 ⟨xs[i],by simp,h2⟩
   simp [this]
 | none =>
   have:xs.any p=false:=by
    rw [List.findIdx?_eq_none_iff] at hx
    rw [List.any_eq_false]; intro x hx2; simp [hx x hx2]
   simp [this]
theorem ASD (t:Tk):(!t.last.any fun x => !lastB x.l)=t.last.all fun x=>lastB x.l:=by
 rw [List.not_any_eq_all_not]; simp
theorem AI8 (hG:GOk G) (m:Mo) (hm:MoOk m) (t:Tk) (ht:TkOk t) (h:Hp):PCall (En G) 70 [.agg (EN m),.agg (IM t)] h (.bool (ADK m t)):=by
 refine ACalls.pure0 rfl ?_
 have hn:=ht.num
 refine CB (H:=Hint.none) (enM G) Tryz.func70 rfl (by kernel_rfl) (by kernel_rfl) (nLb (by kernel_rfl)) ?_
 show awp _ _ _ _ _ (EE _ [.tmp 4] _)
 have gm:=CX (x:=ABlk.live 1 [IM t]) (CY h (ABlk.live 2 [EN m]))
 have gt:=CY (h ++ [ABlk.live 2 [EN m]]) (ABlk.live 1 [IM t])
 have hx:ext h (h ++ [ABlk.live 2 [EN m]] ++ [ABlk.live 1 [IM t]]):=((ext.rfl' h).app _).app _
 simp -implicitDefEqProofs only [BC,BA,A8,AY,BB,AO,AQ,AL,BD,AX,AC,AA,A7,AU,BM,AZ,FV,BV,CE,BF,BN,↓reduceIte,Nat.reduceEqDiff,oGs,bNf,enP,bxM,bxT]
 generalize h ++ [ABlk.live 2 [EN m]] ++ [ABlk.live 1 [IM t]]=H at gm gt hx ⊢
 generalize (h ++ [ABlk.live 2 [EN m]]).length=tb at gt ⊢
 have l0:DZ Tryz.prog H 22 (.ptr h.length 0 0)=some (.sl m.pm 6 (m.pts.map FX)):=by rw [DJ TS gm (row:=EN m) rfl,OO]
 have lt0:DZ Tryz.prog H 26 (.ptr tb 0 0)=some (.sl t.m 1 (t.last.map encL)):=by rw [DJ NZ gt (row:=IM t) rfl,AIM]
 simp -implicitDefEqProofs only [AY,AO,AQ,AL,BD,AX,AC,AA,A7,BX,BZ,BU,AB,lMc,lMn,lAn,↓reduceIte,oGs,bNf,ldM gm]
 refine (QG G hG m hm H).use ?_
 simp -implicitDefEqProofs only [AY,BJ,BP,CO,AO,AQ,AL,BD,AX,AC,AA,A7,AU,BH,BG,BR,AB,DY,↓reduceIte,oGs,bNf,enP]
 unfold ADK
 cases h1:(GN m == 0)
 ·simp -implicitDefEqProofs only [BL,A8,CJ,AY,BB,BJ,BP,CO,H7,AO,AQ,AL,BD,AX,AC,AA,EQ,A7,AU,BM,BG,AZ,CQ,DK,↓reduceIte,Nat.reduceEqDiff,oGs,bNf]
  exact ⟨by first | trivial | rfl,hx⟩
 simp -implicitDefEqProofs only [AY,BJ,BP,CO,FY,AO,AQ,AL,BD,AX,AC,AA,A7,AU,BM,BG,CQ,DN,BV,BR,BK,D6,AB,DY,↓reduceIte,Nat.reduceEqDiff,Nat.add_zero,oGs,bNf,enP,QI,IX,TA,OZ,l0,lt0,lLm]
 cases h2:(((t.last.length:Nat):Int) == ((m.pts.length:Nat):Int))
 ·simp -implicitDefEqProofs only [BL,A8,CJ,AY,BB,BJ,BP,CO,H7,AO,AQ,AL,BD,AX,AC,AA,EQ,A7,AU,BM,AZ,CQ,DK,↓reduceIte,Nat.reduceEqDiff,oGs,bNf]
  exact ⟨by first | trivial | rfl,hx⟩
 simp -implicitDefEqProofs only [BJ,BP,CO,FY,AO,AQ,AL,BD,AX,AC,AA,A7,BX,BV,BK,BZ,BU,AB,lMc,lMn,lAn,↓reduceIte,Nat.reduceEqDiff,Nat.add_zero,oGs,bNf,enP,OZ,lt0]
 refine (AN7 G t.last t.m 134 (fun x => !lastB x.l) H (by omega) (fun x hxm=>AJ0 G x H (ht.len x hxm))).use ?_
 simp -implicitDefEqProofs only [BL,A8,CJ,AY,BB,BJ,BP,CO,FY,AO,AQ,AL,BD,AX,AC,AA,A7,AU,BM,AZ,CQ,DN,G6,AB,EX,↓reduceIte,Nat.reduceEqDiff,oGs,bNf]
 exact ⟨by rw [ASD]; rfl,hx⟩
theorem AK4 (m:Mo) (hm:MoOk m) (t:Tk) (ht:TkOk t) (h:Hp):PCall (En G) 71 [.agg (EN m),.agg (IM t)] h (.bool (ADK m t)):=by
 refine ACalls.pure0 rfl ?_
 have hn:=ht.num
 refine CB (H:=Hint.none) (enM G) Tryz.func71 rfl (by kernel_rfl) (by kernel_rfl) (nLb (by kernel_rfl)) ?_
 show awp _ _ _ _ _ (EE _ [.tmp 4] _)
 have gm:=CX (x:=ABlk.live 1 [IM t]) (CY h (ABlk.live 2 [EN m]))
 have gt:=CY (h ++ [ABlk.live 2 [EN m]]) (ABlk.live 1 [IM t])
 have hx:ext h (h ++ [ABlk.live 2 [EN m]] ++ [ABlk.live 1 [IM t]]):=((ext.rfl' h).app _).app _
 simp -implicitDefEqProofs only [BC,BA,A8,AY,BB,AO,AQ,AL,BD,AX,AC,AA,A7,AU,BM,AZ,FV,BV,CE,BF,BN,↓reduceIte,Nat.reduceEqDiff,oGs,bNf,enP,bxM,bxT]
 generalize h ++ [ABlk.live 2 [EN m]] ++ [ABlk.live 1 [IM t]]=H at gm gt hx ⊢
 generalize (h ++ [ABlk.live 2 [EN m]]).length=tb at gt ⊢
 have l0:DZ Tryz.prog H 22 (.ptr h.length 0 0)=some (.sl m.pm 6 (m.pts.map FX)):=by rw [DJ TS gm (row:=EN m) rfl,OO]
 have lt0:DZ Tryz.prog H 26 (.ptr tb 0 0)=some (.sl t.m 1 (t.last.map encL)):=by rw [DJ NZ gt (row:=IM t) rfl,AIM]
 simp -implicitDefEqProofs only [AY,AO,AQ,AL,BD,AX,AC,AA,A7,BX,BZ,BU,AB,lMc,lMn,lAn,↓reduceIte,oGs,bNf,ldM gm]
 refine (Y8 G m hm H).use ?_
 simp -implicitDefEqProofs only [AY,BJ,BP,CO,AO,AQ,AL,BD,AX,AC,AA,A7,AU,BH,BG,BR,AB,EJ,↓reduceIte,oGs,bNf,enP]
 unfold ADK
 cases h1:(GN m == 0)
 ·simp -implicitDefEqProofs only [BC,BA,BL,BI,A8,CP,CJ,C9,AY,BB,BJ,BP,CO,FK,AO,AQ,AL,BD,AX,AC,AA,EQ,A7,AU,BM,AZ,CQ,DN,↓reduceIte,Nat.reduceEqDiff,oGs,bNf,bne,h1]
  exact ⟨by first | trivial | rfl,hx⟩
 simp -implicitDefEqProofs only [BI,A8,AY,BB,BJ,BP,CO,EK,AO,AQ,AL,BD,AX,AC,AA,A7,AU,BM,CQ,DK,BV,BR,BK,D6,AB,EJ,↓reduceIte,Nat.reduceEqDiff,Nat.add_zero,oGs,bNt,bNf,enP,QI,IX,TA,OZ,bne,h1,l0,lt0,lLm]
 cases h2:(((t.last.length:Nat):Int) == ((m.pts.length:Nat):Int))
 ·simp -implicitDefEqProofs only [BC,BA,BL,A8,CP,CJ,C9,AY,BB,AO,AQ,AL,BD,AX,AC,AA,AU,BM,AZ,↓reduceIte,oGs,bNf]
  exact ⟨by first | trivial | rfl,hx⟩
 simp -implicitDefEqProofs only [BC,BQ,BA,BO,A8,DU,AY,BB,AO,AQ,AL,BD,AX,AC,AU,BH,AZ,oGs,bNt,bNf]
 refine DR (fun n F H' => ∃ k,n+k=t.last.length∧F 3 = .ptr tb 0 0∧F 5 = .int .i64 (k:Nat)∧H'=H∧(t.last.all fun x=>lastB x.l)=(t.last.drop k).all fun x=>lastB x.l) t.last.length ⟨0,by simp,by simp -implicitDefEqProofs only [AA,↓reduceIte,Nat.reduceEqDiff],by simp -implicitDefEqProofs only [AA,↓reduceIte] <;> rfl,rfl,rfl⟩ ?_
 rintro n F H' ⟨k,hk,f3,f5,rfl,hin⟩
 simp -implicitDefEqProofs only [BC,BA,BI,A8,AY,BB,AO,AQ,AL,BD,AX,AC,AA,A7,BG,BV,BR,BK,D6,AB,DF,↓reduceIte,Nat.reduceEqDiff,Nat.add_zero,oGs,bNf,enP,TA,OZ,f3,f5,lt0,lLm]
 refine CW (fun hc => ?_) (fun hc => ?_)
 ·have hk':k < t.last.length:=by simpa using hc
  rw [List.drop_eq_getElem_cons hk',List.all_cons] at hin
  simp -implicitDefEqProofs only [BC,BQ,BA,BO,A8,AY,AO,AQ,AL,BD,AX,AC,AA,A7,BX,BG,BV,BK,CG,BZ,BU,AB,lMc,lMn,lAn,↓reduceIte,Nat.reduceEqDiff,Nat.add_zero,oGs,bNf,enP,NH,OZ,f3,f5,lt0,D5 hk',DT LD hk',NV]
  refine (AEI G t.last[k].l t.last[k].m H' (by have:=ht.len _ (List.getElem_mem hk'); omega)).use ?_
  simp -implicitDefEqProofs only [BI,A8,AY,BB,AO,AQ,AL,BD,AX,AC,AA,A7,G6,AB,EX,↓reduceIte,oGs,bNf]
  cases hq:lastB t.last[k].l
  ·rw [hq,Bool.false_and] at hin
   simp -implicitDefEqProofs only [BC,BA,BL,A8,CP,D8,FB,CJ,C9,AY,BB,AO,AQ,AL,BD,AX,AC,AA,AU,BM,AZ,↓reduceIte,oGs,bNf]
   exact ⟨by rw [hin]; rfl,hx⟩
  ·rw [hq,Bool.true_and] at hin
   simp -implicitDefEqProofs only [BA,BO,A8,EF,ER,DU,AY,BB,AO,AQ,AL,BD,AX,AC,AA,A7,AU,BH,BG,AZ,BR,AB,DI,↓reduceIte,Nat.reduceEqDiff,oGs,bNt,bNf,enP,f5,wrap_succ (show k < 9223372036854775807 by omega)]
   exact ⟨n - 1,by omega,k+1,by omega,by first | trivial | exact f3,by first | trivial | rfl,trivial,hin⟩
 ·have hk' : ¬ k < t.last.length:=by simpa using hc
  rw [List.drop_eq_nil_of_le (by omega)] at hin
  simp -implicitDefEqProofs only [BC,BA,BL,DL,A8,EC,EY,EW,CJ,AY,BB,AO,AQ,AL,BD,AX,AC,AA,AU,BM,AZ,↓reduceIte,oGs,bNf]
  exact ⟨by rw [hin]; rfl,hx⟩
theorem AD1 (a b:Tk) (ha:TkOk a) (hb:TkOk b) (h:Hp):PCall (En G) 69 [.agg (IM a),.agg (IM b)] h (.bool (TC a.last b.last)):=by
 refine ACalls.pure0 rfl ?_
 refine CB (H:=Hint.none) (enM G) Tryz.func69 rfl (by kernel_rfl) (by kernel_rfl) (nLb (by kernel_rfl)) ?_
 show awp _ _ _ _ _ (EE _ [.tmp 4] _)
 have ga:=CX (x:=ABlk.live 1 [IM b]) (CY h (ABlk.live 1 [IM a]))
 have gb:=CY (h ++ [ABlk.live 1 [IM a]]) (ABlk.live 1 [IM b])
 have hx:ext h (h ++ [ABlk.live 1 [IM a]] ++ [ABlk.live 1 [IM b]]):=((ext.rfl' h).app _).app _
 simp -implicitDefEqProofs only [BC,BA,A8,AY,BB,AO,AQ,AL,BD,AX,AC,AA,A7,AU,BM,AZ,FV,BV,BK,CE,AB,BF,BN,↓reduceIte,Nat.reduceEqDiff,Nat.add_zero,oGs,bNf,enP,OZ,bxT]
 generalize h ++ [ABlk.live 1 [IM a]] ++ [ABlk.live 1 [IM b]]=H at ga gb hx ⊢
 generalize (h ++ [ABlk.live 1 [IM a]]).length=tb at gb ⊢
 have la:DZ Tryz.prog H 26 (.ptr h.length 0 0)=some (.sl a.m 1 (a.last.map encL)):=by rw [DJ NZ ga (row:=IM a) rfl,AIM]
 have lb:DZ Tryz.prog H 26 (.ptr tb 0 0)=some (.sl b.m 1 (b.last.map encL)):=by rw [DJ NZ gb (row:=IM b) rfl,AIM]
 simp -implicitDefEqProofs only [AY,AO,AQ,AL,BD,AX,AC,AA,A7,BX,BV,BK,BZ,BU,AB,lMc,lMn,lAn,↓reduceIte,Nat.reduceEqDiff,Nat.add_zero,oGs,bNf,enP,OZ,la,lb]
 refine (UK G a.last b.last a.m b.m H ha.num hb.len).use ?_
 simp -implicitDefEqProofs only [BL,A8,CJ,AY,BB,AO,AQ,AL,BD,AX,AC,AA,A7,AZ,↓reduceIte,oGs,bNf]
 exact ⟨by first | trivial | rfl,hx⟩
end
def NLB (o:Nat) (bs:List Nat) (xss:List (List Int)) (b:Nat):Prop:=(xss≠[]∧b=o)∨b∈bs
theorem NL.lt {n0:Nat} {H:Hp} {o:Nat} {bs:List Nat} {xss:List (List Int)} (N:NL n0 H o bs xss) {b:Nat} (hb:NLB o bs xss b):n0≤b∧b < H.length:=by
 rcases hb with ⟨h,rfl⟩ | h
 ·exact ⟨N.lo' h,N.top_lt h⟩
 ·exact ⟨N.lo _ h,N.mem_lt h⟩
theorem NL.base {n0 k:Nat} {H:Hp} {o:Nat} {bs:List Nat} {xss:List (List Int)} (N:NL n0 H o bs xss) (h:k≤n0):NL k H o bs xss :=
 ⟨N.len,N.top,N.row,N.nodup,N.out,fun b hb=>Nat.le_trans h (N.lo b hb),fun q=>Nat.le_trans h (N.lo' q)⟩
theorem ABA {o:Nat} {bs:List Nat} {xss:List (List Int)} {q:Nat} (h:isB (nlV o xss) q):NLB o bs xss q := .inl (XY h)
theorem ADG {o t b:Nat} {bs:List Nat} {xss:List (List Int)} {xs:List Int} {q:Nat} (h:NLB t (bs ++ [b]) (xss ++ [xs]) q):q=t∨NLB o bs xss q∨q=b:=by
 rcases h with ⟨_,rfl⟩ | h
 ·exact .inl rfl
 ·rcases List.mem_append.1 h with h | h
  ·exact .inr (.inl (.inr h))
  ·exact .inr (.inr (by simpa using h))
def zP (m:Mo):List (List Int):=m.pts.map fun p=>zeros p.bins.length
def zC (m:Mo):List (List Int):=m.crs.map fun c=>zeros (IC (szs m c.pts))
theorem YS (m:Mo):(zP m).length=m.pts.length:=by simp [zP]
theorem YT (m:Mo):(zC m).length=m.crs.length:=by simp [zC]
theorem ALC (m:Mo) (i:Nat) (hi:i < m.pts.length):(zP m).take (i+1)=(zP m).take i ++ [zeros m.pts[i].bins.length]:=by
 have hl:i < (zP m).length:=by unfold zP; simpa using hi
 rw [List.take_succ_eq_append_getElem hl]; simp [zP]
theorem ALD (m:Mo) (i:Nat) (hi:i < m.crs.length):(zC m).take (i+1)=(zC m).take i ++ [zeros (IC (szs m m.crs[i].pts))]:=by
 have hl:i < (zC m).length:=by unfold zC; simpa using hi
 rw [List.take_succ_eq_append_getElem hl]; simp [zC]
theorem P7 (n:Nat):(zeros n).length=n:=by simp [zeros]
structure NC (n0:Nat) (H:Hp) (po:Nat) (pb:List Nat) (co:Nat) (cbs:List Nat) (P C:List (List Int)):Prop where
 np:NL n0 H po pb P
 nc:NL n0 H co cbs C
 dis : ∀ b,NLB po pb P b→¬ NLB co cbs C b
theorem NC.keep {n0:Nat} {H H':Hp} {po:Nat} {pb:List Nat} {co:Nat} {cbs:List Nat} {P C:List (List Int)} (N:NC n0 H po pb co cbs P C) (hk : ∀ b x,n0≤b→b < H.length→H[b]? = some x→H'[b]? = some x):NC n0 H' po pb co cbs P C :=
 ⟨N.np.keep fun b x hb h=>hk b x (N.np.lt hb).1 (N.np.lt hb).2 h,N.nc.keep fun b x hb h=>hk b x (N.nc.lt hb).1 (N.nc.lt hb).2 h,N.dis⟩
theorem NC.base {n0 k:Nat} {H:Hp} {po:Nat} {pb:List Nat} {co:Nat} {cbs:List Nat} {P C:List (List Int)} (N:NC n0 H po pb co cbs P C) (h:k≤n0):NC k H po pb co cbs P C:=⟨N.np.base h,N.nc.base h,N.dis⟩
theorem NC.cs {n0:Nat} {H:Hp} {po:Nat} {pb:List Nat} {co:Nat} {cbs:List Nat} {P C:List (List Int)} (N:NC n0 H po pb co cbs P C) {cb tb:Nat} {sam ill:Int} {v3:AV} (gc:H[cb]? = some (.live 4 [cvR po P co C sam ill])) (gt:H[tb]? = some (.live 1 [[v3]])) (ht:cb≠tb)
  (hc : ∀ b,NLB po pb P b∨NLB co cbs C b→b≠cb∧b≠tb):CS n0 H cb tb po co pb cbs P C sam ill v3:=by
 refine ⟨gc,gt,N.np,N.nc,fun b h1 h2=>N.dis b (.inr h1) (.inr h2),fun h=>(hc _ (.inl (.inr h))).1 rfl,fun h=>(hc _ (.inr (.inr h))).1 rfl,fun h=>(hc _ (.inl (.inr h))).2 rfl,fun h=>(hc _ (.inr (.inr h))).2 rfl,fun h=>⟨fun q=>N.dis _ (.inl ⟨h,rfl⟩) (.inr q),?_,?_⟩,fun h=>⟨fun q=>N.dis _ (.inr q) (.inl ⟨h,rfl⟩),?_,?_⟩,ht⟩
 ·exact fun e=>(hc _ (.inl (.inl ⟨h,rfl⟩))).1 e.symm
 ·exact fun e=>(hc _ (.inl (.inl ⟨h,rfl⟩))).2 e.symm
 ·exact fun e=>(hc _ (.inr (.inl ⟨h,rfl⟩))).1 e.symm
 ·exact fun e=>(hc _ (.inr (.inl ⟨h,rfl⟩))).2 e.symm
structure EmO (h H:Hp) (m:Mo) (po:Nat) (pb:List Nat) (co:Nat) (cbs:List Nat) (v3:AV):Prop where
 nc:NC h.length H po pb co cbs (zP m) (zC m)
 o3:outG 1 (fun _:Pt=>F8) h m.pts v3 H
set_option maxHeartbeats 4000000 in
theorem AN2 (G:Nat→AV) (m:Mo) (hm:MoOk m) (hg:Cov.Good m) (h:Hp):ACalls (En G) 127 [.agg (EN m)] h fun v H=>ext h H∧∃ po pb co cbs v3,v = .tup [.agg (IQ (nlV po (zP m)) (nlV co (zC m))),.agg [v3]]∧EmO h H m po pb co cbs v3:=by
 have hm1:=hm.np
 have hm2:=hm.nc
 have hnum:=hg.num
 refine CB (H:=hint [22,23,24,45,46,47] []) (enM G) Tryz.func127 rfl (by kernel_rfl) (by kernel_rfl) (nLb (by kernel_rfl)) ?_
 show awp _ _ _ _ _ (EE _ [.cell 2 28,.cell 3 47] _)
 have E:=Em.mk' h m
 simp -implicitDefEqProofs only [D7,List.contains_cons,List.contains_nil,Nat.reduceBEq,Bool.or_false,BC,BA,A8,AY,BB,AL,BD,AX,AC,AA,A7,GG,FV,BV,BK,CE,AB,BF,↓reduceIte,Nat.reduceEqDiff,Nat.add_zero,oGs,bNf,enP,IX,D9,bxM,SB,ADY]
 generalize h ++ [ABlk.live 2 [EN m]] ++ [ABlk.live 4 [F5]] ++ [ABlk.live 1 [F8]] ++ [ABlk.live 4 [F5]] ++ [ABlk.live 1 [F8]]=H0 at E ⊢
 generalize (h ++ [ABlk.live 2 [EN m]] ++ [ABlk.live 4 [F5]] ++ [ABlk.live 1 [F8]] ++ [ABlk.live 4 [F5]]).length=b5 at E ⊢
 generalize (h ++ [ABlk.live 2 [EN m]] ++ [ABlk.live 4 [F5]] ++ [ABlk.live 1 [F8]]).length=b4 at E ⊢
 generalize (h ++ [ABlk.live 2 [EN m]] ++ [ABlk.live 4 [F5]]).length=b3 at E ⊢
 generalize (h ++ [ABlk.live 2 [EN m]]).length=b2 at E ⊢
 have o2:=E.o2; have o3:=E.o3; have o4:=E.o4; have o5:=E.o5
 have hlt0:=E.lt
 simp -implicitDefEqProofs only [D7,List.contains_cons,List.contains_nil,Nat.reduceBEq,Bool.or_false,BQ,A8,AY,BB,AL,BD,AX,AC,AA,A7,AU,BH,BG,D6,AB,↓reduceIte,oGs,bNf,enP,QI,D9,E.m0,lLm]
 refine G9 0 (fun F H => ∃ po pb v3,F 1 = .ptr h.length 0 0∧F 2 = .ptr b2 0 0∧F 3 = .ptr b3 0 0∧F 4 = .ptr b4 0 0∧F 5 = .ptr b5 0 0∧Em h H m b2 b3 b4 b5 (nlV po (zP m)) (.sl .nil 0 []) v3∧NL H0.length H po pb (zP m)∧outG 1 (fun _:Pt=>F8) H0 m.pts v3 H∧(∀ b,NLB po pb (zP m) b→¬ isB v3 b)∧H0.length≤H.length) (fun _ _=>False) ?_ ?_ (fun _ _ hh=>hh.elim)
 ·refine DR (fun n F H => ∃ i po pb v3,n+i=m.pts.length∧F 1 = .ptr h.length 0 0∧F 2 = .ptr b2 0 0∧F 3 = .ptr b3 0 0∧F 4 = .ptr b4 0 0∧F 5 = .ptr b5 0 0∧F 11 = .sl m.pm 6 (m.pts.map FX)∧F 12 = .int .i64 m.pts.length∧F 13 = .int .i64 (i:Nat)∧Em h H m b2 b3 b4 b5 (nlV po ((zP m).take i)) (.sl .nil 0 []) v3∧NL H0.length H po pb ((zP m).take i)∧outG 1 (fun _:Pt=>F8) H0 (m.pts.take i) v3 H∧(∀ b,NLB po pb ((zP m).take i) b→¬ isB v3 b)∧H0.length≤H.length) m.pts.length
   ⟨0,0,[],.sl .nil 0 [],by simp,by simp -implicitDefEqProofs only [AA,↓reduceIte,Nat.reduceEqDiff],by simp -implicitDefEqProofs only [AA,↓reduceIte,Nat.reduceEqDiff],by simp -implicitDefEqProofs only [AA,↓reduceIte,Nat.reduceEqDiff],by simp -implicitDefEqProofs only [AA,↓reduceIte,Nat.reduceEqDiff],by simp -implicitDefEqProofs only [AA,↓reduceIte,Nat.reduceEqDiff],by simp -implicitDefEqProofs only [AA,↓reduceIte,Nat.reduceEqDiff],by simp -implicitDefEqProofs only [AA,↓reduceIte,Nat.reduceEqDiff],by simp -implicitDefEqProofs only [AA,↓reduceIte]; rfl,by rw [List.take_zero]; exact E,by rw [List.take_zero]; exact NL.nil _ _ _,by rw [List.take_zero]; exact outG.nil _ _ _ _,fun b _ hb'=>hb',Nat.le_refl _⟩ ?_
  clear E
  rintro n F H ⟨i,po,pb,v3,hi,f1,f2,f3,f4,f5,f11,f12,f13,E,N,ho3,hdis,hle⟩
  simp -implicitDefEqProofs only [D7,List.contains_cons,List.contains_nil,Nat.reduceBEq,Bool.or_false,BC,BA,BI,A8,AY,BB,AL,BD,AX,AC,AA,A7,BR,AB,DF,↓reduceIte,oGs,bNf,enP,D9,f12,f13]
  refine CW (fun hc => ?_) (fun hc => ?_)
  ·have hi':i < m.pts.length:=by simpa using hc
   have h64:=(hg.full _ (List.getElem_mem hi')).2
   have hP:=ALC m i hi'
   have hzl:=P7 m.pts[i].bins.length
   have htl:((zP m).take i).length≤1048576:=by rw [List.length_take,YS]; omega
   simp -implicitDefEqProofs only [D7,List.contains_cons,List.contains_nil,Nat.reduceBEq,Bool.or_false,BC,BQ,BA,BO,A8,AY,BB,AL,BD,AX,AC,E8,AA,A7,GG,BV,EP,CG,CE,AB,DW,↓reduceIte,Nat.reduceEqDiff,oGs,bNf,enP,PY,D9,Option.getD_none,f11,f13,D5 hi',FO AC8 YX JC hi',AUK,ASH _ _ [.str ⟨#[]⟩,.int .i64 0,.int .i64 0,.str ⟨#[]⟩,.sl .nil 0 [],.sl .nil 0 []] rfl]
   have hl1:(H ++ [ABlk.live 6 [FX m.pts[i]]]).length=H.length+1:=by simp
   have E1:=E.app [.live 6 [FX m.pts[i]]]
   have N1:=N.app [.live 6 [FX m.pts[i]]]
   have ho1:=ho3.app [.live 6 [FX m.pts[i]]]
   have lp:DZ Tryz.prog (H ++ [ABlk.live 6 [FX m.pts[i]]]) 54 (.ptr H.length 0 5)=some (.sl m.pts[i].bm 4 (m.pts[i].bins.map GM)):=by rw [DC P6,MC]
   generalize H ++ [ABlk.live 6 [FX m.pts[i]]]=Ha at hl1 E1 N1 ho1 lp ⊢
   have N2:=(N1.app [.live 1 ((zeros m.pts[i].bins.length).map encI)]).app [.live 1 [[.own Ha.length 0 m.pts[i].bins.length]]]
   have E2:=(E1.app [.live 1 ((zeros m.pts[i].bins.length).map encI)]).app [.live 1 [[.own Ha.length 0 m.pts[i].bins.length]]]
   have ho2:=(ho1.app [.live 1 ((zeros m.pts[i].bins.length).map encI)]).app [.live 1 [[.own Ha.length 0 m.pts[i].bins.length]]]
   have gb:=CX (x:=ABlk.live 1 [[.own Ha.length 0 m.pts[i].bins.length]]) (CY Ha (ABlk.live 1 ((zeros m.pts[i].bins.length).map encI)))
   have gt:=CY (Ha ++ [ABlk.live 1 ((zeros m.pts[i].bins.length).map encI)]) (ABlk.live 1 [[.own Ha.length 0 m.pts[i].bins.length]])
   have hl2:(Ha ++ [ABlk.live 1 ((zeros m.pts[i].bins.length).map encI)] ++ [ABlk.live 1 [[.own Ha.length 0 m.pts[i].bins.length]]]).length=Ha.length+2:=by simp
   refine FD (by kernel_rfl) ?_
   simp -implicitDefEqProofs only [F9,FT,F6,D7,List.contains_cons,List.contains_nil,Nat.reduceBEq,Bool.or_false,Bool.or_true,EH,DX,EM,LH,FQ,QQ,EG,JK,AA,A7,ES,BV,MG,BK,D6,IJ,CE,AB,↓reduceIte,Nat.reduceEqDiff,Nat.reduceAdd,Nat.add_zero,Nat.zero_add,oGs,enP,L9,Q9,IW,f4,E1.l4,lp,lLm,mkI _ _ (show m.pts[i].bins.length≤1048576 by omega),YJ]
   generalize Ha ++ [ABlk.live 1 ((zeros m.pts[i].bins.length).map encI)] ++ [ABlk.live 1 [[.own Ha.length 0 m.pts[i].bins.length]]]=Hb at N2 E2 ho2 gb gt hl2 ⊢
   generalize (Ha ++ [ABlk.live 1 ((zeros m.pts[i].bins.length).map encI)]).length=tb at gt ⊢
   obtain ⟨H2,hap,N3,hk,hl3,hx3⟩:=N2.snoc gb (by omega) (by omega) (fun q=>by have:=N.mem_lt q; omega) (fun q e=>by have:=N.top_lt q; omega) (by rw [hzl]; exact gt) htl
   rw [← hP] at N3 hap
   have hne:(zP m).take (i+1)≠[]:=by rw [hP]; simp
   have E3:=E2.keep hk (fun b hb=>by
    obtain ⟨q,rfl⟩:=XY hb
    have:=N.lo' q; omega) (hx3 h (by omega))
   rw [OV _ hne] at hap
   refine KJ hap ?_
   have E4:=E3.set4 (.own Hb.length 0 ((zP m).take (i+1)).length) (.sl .nil 0 [])
   have ho4:=(ho2.keepA hk (fun b hb hb'=>hdis b (ABA hb') hb)).setB (b:=b4) (by omega) (.live 4 [IQ (.own Hb.length 0 ((zP m).take (i+1)).length) (.sl .nil 0 [])])
   have N4:NL H0.length (H2.set b4 (.live 4 [IQ (.own Hb.length 0 ((zP m).take (i+1)).length) (.sl .nil 0 [])])) Hb.length (pb ++ [Ha.length]) ((zP m).take (i+1)):=N3.keep fun b x hb hg=>CV hg (by have:=N3.lt hb; omega)
   have hl4:(H2.set b4 (.live 4 [IQ (.own Hb.length 0 ((zP m).take (i+1)).length) (.sl .nil 0 [])])).length=H2.length:=by simp
   simp -implicitDefEqProofs only [F9,D7,List.contains_cons,List.contains_nil,Nat.reduceBEq,Bool.or_false,EH,DX,LP,FC,EM,KL,EG,BA,A8,AY,AL,BD,AX,AA,A7,EP,BK,AB,DW,↓reduceIte,Nat.reduceEqDiff,Nat.reduceAdd,Nat.add_zero,Nat.zero_add,oGs,bNf,enP,L9,D9,Option.getD_none,f4,E3.s4]
   generalize H2.set b4 (.live 4 [IQ (.own Hb.length 0 ((zP m).take (i+1)).length) (.sl .nil 0 [])])=H4 at E4 ho4 N4 hl4 ⊢
   obtain ⟨v3',H5,hap3,ho5,hk3,hl5,hn3,⟨o3',l3,rfl⟩,hx5⟩:=ho4.app2 AM0 ADL AOP AOA (by omega) (by rw [List.length_take]; omega) (by omega) m.pts[i]
   rw [← List.take_succ_eq_append_getElem hi'] at ho5
   have E5:=E4.keep hk3 (fun b hb=>by have:=ho4.lt hb; omega) (hx5 h (by omega))
   have E6:=E5.set5 (.own o3' 0 l3)
   have ho6:=ho5.setB (b:=b5) (by omega) (.live 1 [[.own o3' 0 l3]])
   have N5:NL H0.length (H5.set b5 (.live 1 [[.own o3' 0 l3]])) Hb.length (pb ++ [Ha.length]) ((zP m).take (i+1)):=N4.keep fun b x hb hg=>CV (hk3 b x hg (fun q=>by
    rw [hP] at hb
    rcases ADG (o:=po) hb with rfl | hb | rfl
    ·have:=ho3.lt q; omega
    ·exact hdis _ hb q
    ·have:=ho3.lt q; omega)) (by have:=N4.lt hb; omega)
   simp -implicitDefEqProofs only [FT,F6,D7,List.contains_cons,List.contains_nil,Nat.reduceBEq,Bool.or_false,AY,AL,BD,AX,AC,AA,A7,AU,JD,ES,BV,IJ,CE,AB,↓reduceIte,Nat.reduceEqDiff,Nat.add_zero,oGs,bNf,enP,OZ,D9,f5,E4.l5,AY0]
   refine KJ (v := .own o3' 0 l3) (h:=H5) hap3 ?_
   simp -implicitDefEqProofs only [D7,List.contains_cons,List.contains_nil,Nat.reduceBEq,Bool.or_false,BA,A8,EF,ER,AY,BB,AL,BD,AX,AC,E8,AA,A7,AU,BH,BG,EP,BR,BK,AB,DW,DI,↓reduceIte,Nat.reduceEqDiff,Nat.add_zero,oGs,bNf,enP,OZ,D9,Option.getD_none,f5,E5.s5,f13,wrap_succ (show i < 9223372036854775807 by omega)]
   rw [← OV _ hne] at E6
   exact ⟨n - 1,by omega,i+1,Hb.length,_,.own o3' 0 l3,by omega,by first | trivial | exact f1,by first | trivial | exact f2,by first | trivial | exact f3,by first | trivial | exact f4,by first | trivial | exact f5,by first | trivial | exact f11,by first | trivial | exact f12,by first | trivial | rfl,E6,N5,ho6,fun b hb hb'=>by
    have h1:=hn3 b hb'
    have h2:=N4.lt hb
    omega,by rw [List.length_set]; omega⟩
  ·have hi' : ¬ i < m.pts.length:=by simpa using hc
   rw [List.take_of_length_le (by rw [YS]; omega)] at N E hdis
   rw [List.take_of_length_le (by omega)] at ho3
   simp -implicitDefEqProofs only [DL,EC,KG,EW,AA,↓reduceIte,Nat.reduceEqDiff]
   exact ⟨po,pb,v3,f1,f2,f3,f4,f5,E,N,ho3,hdis,hle⟩
 ·rintro F H ⟨po,pb,v3,f1,f2,f3,f4,f5,E,N,ho3,hdis,hle⟩
  simp -implicitDefEqProofs only [D7,List.contains_cons,List.contains_nil,Nat.reduceBEq,Bool.or_false,BC,BQ,BA,A8,EY,AY,BB,AL,BD,AX,AC,AA,A7,AU,BH,BG,BV,BK,D6,AB,↓reduceIte,Nat.zero_add,oGs,bNf,enP,VQ,JZ,D9,f1,E.m1,lLm]
  refine G9 2 (fun F H => ∃ co cbs,F 2 = .ptr b2 0 0∧F 3 = .ptr b3 0 0∧F 4 = .ptr b4 0 0∧F 5 = .ptr b5 0 0∧Em h H m b2 b3 b4 b5 (nlV po (zP m)) (nlV co (zC m)) v3∧NC H0.length H po pb co cbs (zP m) (zC m)∧outG 1 (fun _:Pt=>F8) H0 m.pts v3 H) (fun _ _=>False) ?_ ?_ (fun _ _ hh=>hh.elim)
  ·refine DR (fun n F H => ∃ i co cbs,n+i=m.crs.length∧F 1 = .ptr h.length 0 0∧F 2 = .ptr b2 0 0∧F 3 = .ptr b3 0 0∧F 4 = .ptr b4 0 0∧F 5 = .ptr b5 0 0∧F 33 = .sl m.cm 3 (m.crs.map F7)∧F 34 = .int .i64 m.crs.length∧F 35 = .int .i64 (i:Nat)∧Em h H m b2 b3 b4 b5 (nlV po (zP m)) (nlV co ((zC m).take i)) v3∧NL H0.length H po pb (zP m)∧NL H0.length H co cbs ((zC m).take i)∧outG 1 (fun _:Pt=>F8) H0 m.pts v3 H∧(∀ b,NLB co cbs ((zC m).take i) b→¬ NLB po pb (zP m) b∧¬ isB v3 b)∧H0.length≤H.length) m.crs.length
    ⟨0,0,[],by simp,by simp -implicitDefEqProofs only [AA,↓reduceIte,Nat.reduceEqDiff,f1],by simp -implicitDefEqProofs only [AA,↓reduceIte,Nat.reduceEqDiff,f2],by simp -implicitDefEqProofs only [AA,↓reduceIte,Nat.reduceEqDiff,f3],by simp -implicitDefEqProofs only [AA,↓reduceIte,Nat.reduceEqDiff,f4],by simp -implicitDefEqProofs only [AA,↓reduceIte,Nat.reduceEqDiff,f5],by simp -implicitDefEqProofs only [AA,↓reduceIte,Nat.reduceEqDiff],by simp -implicitDefEqProofs only [AA,↓reduceIte,Nat.reduceEqDiff],by simp -implicitDefEqProofs only [AA,↓reduceIte]; rfl,by rw [List.take_zero]; exact E,N,by rw [List.take_zero]; exact NL.nil _ _ _,ho3,(fun b hb=>by
     rcases hb with ⟨q,_⟩ | q
     ·exact absurd rfl q
     ·cases q),hle⟩ ?_
   clear f1 f2 f3 f4 f5 E N ho3 hdis hle
   rintro n F H ⟨i,co,cbs,hi,f1,f2,f3,f4,f5,f33,f34,f35,E,NP,N,ho3,hdis,hle⟩
   simp -implicitDefEqProofs only [D7,List.contains_cons,List.contains_nil,Nat.reduceBEq,Bool.or_false,BC,BA,BI,A8,AY,BB,AL,BD,AX,AC,AA,A7,BR,AB,DF,↓reduceIte,oGs,bNf,enP,D9,f34,f35]
   refine CW (fun hc => ?_) (fun hc => ?_)
   ·have hi':i < m.crs.length:=by simpa using hc
    have hcg:=hg.crs _ (List.getElem_mem hi')
    have hfs:=hg.full.szs hcg.here
    have hsl:=NF m m.crs[i].pts
    have hfour:=hcg.four
    have hpr:=hcg.prod
    have hC:=ALD m i hi'
    have hzl:=P7 (IC (szs m m.crs[i].pts))
    have htl:((zC m).take i).length≤1048576:=by rw [List.length_take,YT]; omega
    simp -implicitDefEqProofs only [D7,List.contains_cons,List.contains_nil,Nat.reduceBEq,Bool.or_false,BC,BQ,BA,BO,A8,AY,BB,AL,BD,AX,AC,E8,AA,A7,GG,BV,EP,CG,CE,AB,DW,↓reduceIte,Nat.reduceEqDiff,oGs,bNf,enP,ZA,D9,Option.getD_none,f33,f35,D5 hi',FO AAX XK JX hi',ARS,AO8 _ _ [.str ⟨#[]⟩,.sl .nil 0 [],.sl .nil 0 []] rfl]
    have hl1:(H ++ [ABlk.live 3 [F7 m.crs[i]]]).length=H.length+1:=by simp
    have E1:=E.app [.live 3 [F7 m.crs[i]]]
    have N1:=N.app [.live 3 [F7 m.crs[i]]]
    have NP1:=NP.app [.live 3 [F7 m.crs[i]]]
    have ho1:=ho3.app [.live 3 [F7 m.crs[i]]]
    have gc1:=CY H (.live 3 [F7 m.crs[i]])
    generalize H ++ [ABlk.live 3 [F7 m.crs[i]]]=Ha at hl1 E1 N1 NP1 ho1 gc1 ⊢
    generalize hpn:IC (szs m m.crs[i].pts)=pn at hC hzl hpr
    have N2:=(N1.app [.live 1 ((zeros pn).map encI)]).app [.live 1 [[.own Ha.length 0 pn]]]
    have NP2:=(NP1.app [.live 1 ((zeros pn).map encI)]).app [.live 1 [[.own Ha.length 0 pn]]]
    have E2:=(E1.app [.live 1 ((zeros pn).map encI)]).app [.live 1 [[.own Ha.length 0 pn]]]
    have ho2:=(ho1.app [.live 1 ((zeros pn).map encI)]).app [.live 1 [[.own Ha.length 0 pn]]]
    have gb:=CX (x:=ABlk.live 1 [[.own Ha.length 0 pn]]) (CY Ha (ABlk.live 1 ((zeros pn).map encI)))
    have gt:=CY (Ha ++ [ABlk.live 1 ((zeros pn).map encI)]) (ABlk.live 1 [[.own Ha.length 0 pn]])
    have hl2:(Ha ++ [ABlk.live 1 ((zeros pn).map encI)] ++ [ABlk.live 1 [[.own Ha.length 0 pn]]]).length=Ha.length+2:=by simp
    refine FD (by kernel_rfl) ?_
    simp -implicitDefEqProofs only [F9,D7,List.contains_cons,List.contains_nil,Nat.reduceBEq,Bool.or_false,Bool.or_true,EH,DX,EM,FQ,QQ,EG,GV,GI,AA,A7,BX,BV,MG,BK,AB,lMc,lMn,lAn,↓reduceIte,Nat.reduceEqDiff,Nat.reduceAdd,Nat.zero_add,oGs,enP,L8,f1,f4,E1.l4',ldM E1.gm,ldC gc1]
    refine ⟨_,SQ G m _ _ hcg.here (by omega),?_⟩
    try simp -implicitDefEqProofs only []
    refine ⟨_,SY G _ _ _ (fun n hn=>(hfs n hn).2) (by omega),?_⟩
    rw [hpn]
    try simp -implicitDefEqProofs only [F9,FT,F6,D7,List.contains_cons,List.contains_nil,Nat.reduceBEq,Bool.or_false,Bool.or_true,EH,DX,EM,LH,JK,AA,A7,ES,IJ,CE,↓reduceIte,Nat.reduceEqDiff,Nat.reduceAdd,oGs,enP,mkI _ _ (show pn≤1048576 by omega),YJ]
    generalize Ha ++ [ABlk.live 1 ((zeros pn).map encI)] ++ [ABlk.live 1 [[.own Ha.length 0 pn]]]=Hb at N2 NP2 E2 ho2 gb gt hl2 ⊢
    generalize (Ha ++ [ABlk.live 1 ((zeros pn).map encI)]).length=tb at gt ⊢
    obtain ⟨H2,hap,N3,hk,hl3,hx3⟩:=N2.snoc gb (by omega) (by omega) (fun q=>by have:=N.mem_lt q; omega) (fun q e=>by have:=N.top_lt q; omega) (by rw [hzl]; exact gt) htl
    rw [← hC] at N3 hap
    have hne:(zC m).take (i+1)≠[]:=by rw [hC]; simp
    have E3:=E2.keep hk (fun b hb=>by
     obtain ⟨q,rfl⟩:=XY hb
     have:=N.lo' q; omega) (hx3 h (by omega))
    rw [OV _ hne] at hap
    refine KJ hap ?_
    have E4:=E3.set4 (nlV po (zP m)) (.own Hb.length 0 ((zC m).take (i+1)).length)
    have ho4:=(ho2.keepA hk (fun b hb hb'=>(hdis b (ABA hb')).2 hb)).setB (b:=b4) (by omega) (.live 4 [IQ (nlV po (zP m)) (.own Hb.length 0 ((zC m).take (i+1)).length)])
    have N4:NL H0.length (H2.set b4 (.live 4 [IQ (nlV po (zP m)) (.own Hb.length 0 ((zC m).take (i+1)).length)])) Hb.length (cbs ++ [Ha.length]) ((zC m).take (i+1)):=N3.keep fun b x hb hg=>CV hg (by have:=N3.lt hb; omega)
    have NP4:NL H0.length (H2.set b4 (.live 4 [IQ (nlV po (zP m)) (.own Hb.length 0 ((zC m).take (i+1)).length)])) po pb (zP m):=NP2.keep fun b x hb hg=>CV (hk b x hg (fun q=>(hdis b (ABA q)).1 hb)) (by have:=NP.lt hb; omega)
    simp -implicitDefEqProofs only [F9,D7,List.contains_cons,List.contains_nil,Nat.reduceBEq,Bool.or_false,EH,DX,LP,FC,EM,KL,EG,BA,A8,EF,ER,AY,BB,AL,BD,AX,AC,AA,A7,AU,BH,BG,EP,BR,BK,AB,DW,DI,↓reduceIte,Nat.reduceEqDiff,Nat.reduceAdd,Nat.zero_add,oGs,bNf,enP,L8,D9,Option.getD_none,f4,E3.s4',f35,wrap_succ (show i < 9223372036854775807 by omega)]
    have hl4:(H2.set b4 (.live 4 [IQ (nlV po (zP m)) (.own Hb.length 0 ((zC m).take (i+1)).length)])).length=H2.length:=by simp
    generalize H2.set b4 (.live 4 [IQ (nlV po (zP m)) (.own Hb.length 0 ((zC m).take (i+1)).length)])=H4 at E4 ho4 N4 NP4 hl4 ⊢
    rw [← OV Hb.length hne] at E4
    exact ⟨n - 1,by omega,i+1,Hb.length,_,by omega,by first | trivial | exact f1,by first | trivial | exact f2,by first | trivial | exact f3,by first | trivial | exact f4,by first | trivial | exact f5,by first | trivial | exact f33,by first | trivial | exact f34,by first | trivial | rfl,E4,NP4,N4,ho4,fun b hb=>by
     rw [hC] at hb
     rcases ADG (o:=co) hb with rfl | hb | rfl
     ·exact ⟨fun q=>by have:=NP.lt q; omega,fun q=>by have:=ho3.lt q; omega⟩
     ·exact hdis _ hb
     ·exact ⟨fun q=>by have:=NP.lt q; omega,fun q=>by have:=ho3.lt q; omega⟩,by omega⟩
   ·have hi' : ¬ i < m.crs.length:=by simpa using hc
    rw [List.take_of_length_le (by rw [YT]; omega)] at N E hdis
    simp -implicitDefEqProofs only [DL,EC,KG,EW,AA,↓reduceIte,Nat.reduceEqDiff]
    exact ⟨co,cbs,f2,f3,f4,f5,E,⟨NP,N,fun b h1 h2=>(hdis b h2).1 h1⟩,ho3⟩
  ·rintro F' H' ⟨co,cbs,g2,g3,g4,g5,E',N,q3⟩
   simp -implicitDefEqProofs only [BC,A8,EY,↓reduceIte]
   have p2:=E'.o2; have p3:=E'.o3; have p4:=E'.o4; have p5:=E'.o5
   refine VK [(5,2)] (by kernel_rfl) ?_ ?_
   ·simp -implicitDefEqProofs only [g2,g5,VM,YP,XP,and_true]
    omega
   simp -implicitDefEqProofs only [F9,D7,List.contains_cons,List.contains_nil,Nat.reduceBEq,Bool.or_false,EH,DX,LP,FC,EM,FQ,KL,BL,A8,AA,A7,BV,EP,AB,DW,↓reduceIte,Nat.reduceEqDiff,Nat.reduceAdd,Nat.zero_add,oGs,enP,Option.getD_none,g2,g3,g4,g5,KN E'.g4 rfl,OB E'.g5 rfl,AHB E'.g2 rfl (KX _ _) (KX _ _),AHA (CV E'.g3 (show b3≠b2 by omega)) rfl q3.leaf]
   rw [AWM (ba:=b2) (bb:=b3) (by simp -implicitDefEqProofs only [AA,↓reduceIte,Nat.reduceEqDiff,g2]) (by simp -implicitDefEqProofs only [AA,↓reduceIte,Nat.reduceEqDiff,g3]) (KN (CV (EI E'.g2) (show b2≠b3 by omega)) rfl) (OB (EI (CV E'.g3 (show b3≠b2 by omega))) rfl)]
   exact ⟨(E'.hx.set (by omega) _).set (by omega) _,po,pb,co,cbs,v3,rfl,(N.keep (H':=(H'.set b2 (.live 4 [IQ (nlV po (zP m)) (nlV co (zC m))])).set b3 (.live 1 [[v3]])) fun b x hb _ hg=>CV (CV hg (by omega)) (by omega)).base (by omega),((q3.setB (b:=b2) (by omega) _).setB (b:=b3) (by omega) _).base (by omega)⟩
set_option maxHeartbeats 4000000 in
theorem AKH (G:Nat→AV) (m:Mo) (hm:MoOk m) (hg:Cov.Good m) (h:Hp):ACalls (En G) 92 [.agg (EN m)] h fun v H=>ext h H∧∃ po pb co cbs,v = .agg (IQ (nlV po (zP m)) (nlV co (zC m)))∧NC h.length H po pb co cbs (zP m) (zC m):=by
 have hm1:=hm.np
 have hm2:=hm.nc
 have hnum:=hg.num
 refine CB (H:=hint [23,24,25,43,44,45] []) (enM G) Tryz.func92 rfl (by kernel_rfl) (by kernel_rfl) (nLb (by kernel_rfl)) ?_
 show awp _ _ _ _ _ (EE _ [.cell 2 28] _)
 have E:=Er.mk' h m
 simp -implicitDefEqProofs only [FT,D7,List.contains_cons,List.contains_nil,Nat.reduceBEq,Bool.or_false,BC,BQ,BA,A8,AY,BB,AL,BD,AX,AC,E8,AA,A7,AU,BH,AZ,GG,FV,JE,EP,CE,AB,DW,BF,↓reduceIte,Nat.reduceEqDiff,oGs,bNf,enP,D9,Option.getD_none,bxM,SB,TM,AVV]
 generalize h ++ [ABlk.live 2 [EN m]] ++ [ABlk.live 4 [F5]] ++ [ABlk.live 4 [F5]]=H0 at E ⊢
 generalize (h ++ [ABlk.live 2 [EN m]] ++ [ABlk.live 4 [F5]]).length=b3 at E ⊢
 generalize (h ++ [ABlk.live 2 [EN m]]).length=b2 at E ⊢
 have o2:=E.o2; have o3:=E.o3
 have hlt0:=E.lt
 refine G9 0 (fun F H => ∃ po pb,F 1 = .ptr h.length 0 0∧F 2 = .ptr b2 0 0∧F 3 = .ptr b3 0 0∧Er h H m b2 b3 (nlV po (zP m)) (.sl .nil 0 [])∧NL H0.length H po pb (zP m)∧H0.length≤H.length) (fun _ _=>False) ?_ ?_ (fun _ _ hh=>hh.elim)
 ·refine DR (fun n F H => ∃ i po pb,n+i=m.pts.length∧F 1 = .ptr h.length 0 0∧F 2 = .ptr b2 0 0∧F 3 = .ptr b3 0 0∧F 4 = .int .i64 (i:Nat)∧Er h H m b2 b3 (nlV po ((zP m).take i)) (.sl .nil 0 [])∧NL H0.length H po pb ((zP m).take i)∧H0.length≤H.length) m.pts.length
   ⟨0,0,[],by simp,by simp -implicitDefEqProofs only [AA,↓reduceIte,Nat.reduceEqDiff],by simp -implicitDefEqProofs only [AA,↓reduceIte,Nat.reduceEqDiff],by simp -implicitDefEqProofs only [AA,↓reduceIte,Nat.reduceEqDiff],by simp -implicitDefEqProofs only [AA,↓reduceIte]; rfl,by rw [List.take_zero]; exact E,by rw [List.take_zero]; exact NL.nil _ _ _,Nat.le_refl _⟩ ?_
  clear E
  rintro n F H ⟨i,po,pb,hi,f1,f2,f3,f4,E,N,hle⟩
  simp -implicitDefEqProofs only [D7,List.contains_cons,List.contains_nil,Nat.reduceBEq,Bool.or_false,BC,BA,BI,A8,AY,BB,AL,BD,AX,AC,AA,A7,BG,BV,BR,BK,D6,AB,DF,↓reduceIte,Nat.reduceEqDiff,Nat.add_zero,oGs,bNf,enP,QI,IX,D9,f1,f4,E.m0,lLm]
  refine CW (fun hc => ?_) (fun hc => ?_)
  ·have hi':i < m.pts.length:=by simpa using hc
   have h64:=(hg.full _ (List.getElem_mem hi')).2
   have hP:=ALC m i hi'
   have hzl:=P7 m.pts[i].bins.length
   have htl:((zP m).take i).length≤1048576:=by rw [List.length_take,YS]; omega
   have N2:=(N.app [.live 1 ((zeros m.pts[i].bins.length).map encI)]).app [.live 1 [[.own H.length 0 m.pts[i].bins.length]]]
   have E2:=E.keep (u := .bool true) (H':=H ++ [ABlk.live 1 ((zeros m.pts[i].bins.length).map encI)] ++ [ABlk.live 1 [[.own H.length 0 m.pts[i].bins.length]]]) (fun b x hb _=>FU (FU hb)) (fun b hb=>hb.elim) (fun q=>(q.app _).app _)
   have gb:=CX (x:=ABlk.live 1 [[.own H.length 0 m.pts[i].bins.length]]) (CY H (ABlk.live 1 ((zeros m.pts[i].bins.length).map encI)))
   have gt:=CY (H ++ [ABlk.live 1 ((zeros m.pts[i].bins.length).map encI)]) (ABlk.live 1 [[.own H.length 0 m.pts[i].bins.length]])
   have hl2:(H ++ [ABlk.live 1 ((zeros m.pts[i].bins.length).map encI)] ++ [ABlk.live 1 [[.own H.length 0 m.pts[i].bins.length]]]).length=H.length+2:=by simp
   simp -implicitDefEqProofs only [BC,BQ,BO,A8]
   refine FD (by kernel_rfl) ?_
   simp -implicitDefEqProofs only [F9,FT,F6,D7,List.contains_cons,List.contains_nil,Nat.reduceBEq,Bool.or_false,Bool.or_true,EH,DX,EM,FP,LH,FQ,QQ,EG,ED,JK,AA,A7,ES,BV,MG,BK,CG,D6,IJ,CE,AB,↓reduceIte,Nat.reduceEqDiff,Nat.reduceAdd,Nat.add_zero,Nat.zero_add,oGs,enP,PY,IX,L9,Q9,IW,f1,f3,f4,E.l3,E.m0,D5 hi',DT P6 hi',MC,lLm,mkI _ _ (show m.pts[i].bins.length≤1048576 by omega),YJ]
   generalize H ++ [ABlk.live 1 ((zeros m.pts[i].bins.length).map encI)] ++ [ABlk.live 1 [[.own H.length 0 m.pts[i].bins.length]]]=Hb at N2 E2 gb gt hl2 ⊢
   generalize (H ++ [ABlk.live 1 ((zeros m.pts[i].bins.length).map encI)]).length=tb at gt ⊢
   obtain ⟨H2,hap,N3,hk,hl3,hx3⟩:=N2.snoc gb (by omega) (by omega) (fun q=>by have:=N.mem_lt q; omega) (fun q e=>by have:=N.top_lt q; omega) (by rw [hzl]; exact gt) htl
   rw [← hP] at N3 hap
   have hne:(zP m).take (i+1)≠[]:=by rw [hP]; simp
   have E3:=E2.keep hk (fun b hb=>by
    obtain ⟨q,rfl⟩:=XY hb
    have:=N.lo' q; omega) (hx3 h (by omega))
   rw [OV _ hne] at hap
   refine KJ hap ?_
   have E4:=E3.set3 (.own Hb.length 0 ((zP m).take (i+1)).length) (.sl .nil 0 [])
   have N4:NL H0.length (H2.set b3 (.live 4 [IQ (.own Hb.length 0 ((zP m).take (i+1)).length) (.sl .nil 0 [])])) Hb.length (pb ++ [H.length]) ((zP m).take (i+1)):=N3.keep fun b x hb hg=>CV hg (by have:=N3.lt hb; omega)
   have hl4:(H2.set b3 (.live 4 [IQ (.own Hb.length 0 ((zP m).take (i+1)).length) (.sl .nil 0 [])])).length=H2.length:=by simp
   simp -implicitDefEqProofs only [F9,D7,List.contains_cons,List.contains_nil,Nat.reduceBEq,Bool.or_false,EH,DX,LP,FC,EM,KL,EG,BA,A8,EF,ER,AY,BB,AL,BD,AX,AC,AA,A7,AU,BH,BG,AZ,EP,BR,BK,AB,DW,DI,↓reduceIte,Nat.reduceEqDiff,Nat.reduceAdd,Nat.add_zero,Nat.zero_add,oGs,bNf,enP,L9,D9,Option.getD_none,f3,E3.s3,f4,wrap_succ (show i < 9223372036854775807 by omega)]
   generalize H2.set b3 (.live 4 [IQ (.own Hb.length 0 ((zP m).take (i+1)).length) (.sl .nil 0 [])])=H4 at E4 N4 hl4 ⊢
   rw [← OV _ hne] at E4
   exact ⟨n - 1,by omega,i+1,Hb.length,_,by omega,by first | trivial | exact f1,by first | trivial | exact f2,by first | trivial | exact f3,by first | trivial | rfl,E4,N4,by omega⟩
  ·have hi' : ¬ i < m.pts.length:=by simpa using hc
   rw [List.take_of_length_le (by rw [YS]; omega)] at N E
   simp -implicitDefEqProofs only [DL,EC,KG,EW,AA,↓reduceIte,Nat.reduceEqDiff]
   exact ⟨po,pb,f1,f2,f3,E,N,hle⟩
 ·rintro F H ⟨po,pb,f1,f2,f3,E,N,hle⟩
  simp -implicitDefEqProofs only [D7,List.contains_cons,List.contains_nil,Nat.reduceBEq,Bool.or_false,BC,BQ,BA,A8,EY,AY,BB,AL,BD,AX,AC,AU,BH,AZ,↓reduceIte,oGs,bNf,D9]
  refine G9 2 (fun F H => ∃ co cbs,F 2 = .ptr b2 0 0∧F 3 = .ptr b3 0 0∧Er h H m b2 b3 (nlV po (zP m)) (nlV co (zC m))∧NC H0.length H po pb co cbs (zP m) (zC m)) (fun _ _=>False) ?_ ?_ (fun _ _ hh=>hh.elim)
  ·refine DR (fun n F H => ∃ i co cbs,n+i=m.crs.length∧F 1 = .ptr h.length 0 0∧F 2 = .ptr b2 0 0∧F 3 = .ptr b3 0 0∧F 5 = .int .i64 (i:Nat)∧Er h H m b2 b3 (nlV po (zP m)) (nlV co ((zC m).take i))∧NL H0.length H po pb (zP m)∧NL H0.length H co cbs ((zC m).take i)∧(∀ b,NLB co cbs ((zC m).take i) b→¬ NLB po pb (zP m) b)∧H0.length≤H.length) m.crs.length
    ⟨0,0,[],by simp,by simp -implicitDefEqProofs only [AA,↓reduceIte,Nat.reduceEqDiff,f1],by simp -implicitDefEqProofs only [AA,↓reduceIte,Nat.reduceEqDiff,f2],by simp -implicitDefEqProofs only [AA,↓reduceIte,Nat.reduceEqDiff,f3],by simp -implicitDefEqProofs only [AA,↓reduceIte]; rfl,by rw [List.take_zero]; exact E,N,by rw [List.take_zero]; exact NL.nil _ _ _,(fun b hb=>by
     rcases hb with ⟨q,_⟩ | q
     ·exact absurd rfl q
     ·cases q),hle⟩ ?_
   clear f1 f2 f3 E N hle
   rintro n F H ⟨i,co,cbs,hi,f1,f2,f3,f5,E,NP,N,hdis,hle⟩
   simp -implicitDefEqProofs only [D7,List.contains_cons,List.contains_nil,Nat.reduceBEq,Bool.or_false,BC,BA,BI,A8,AY,BB,AL,BD,AX,AC,AA,A7,BG,BV,BR,BK,D6,AB,DF,↓reduceIte,Nat.reduceEqDiff,Nat.zero_add,oGs,bNf,enP,VQ,JZ,D9,f1,f5,E.m1,lLm]
   refine CW (fun hc => ?_) (fun hc => ?_)
   ·have hi':i < m.crs.length:=by simpa using hc
    have hcg:=hg.crs _ (List.getElem_mem hi')
    have hpr:=hcg.prod
    have hfour:=hcg.four
    have hmin:min ((IC (szs m m.crs[i].pts):Nat):Int) 1000=((IC (szs m m.crs[i].pts):Nat):Int):=by omega
    have hcall:=ZL G m m.crs[i] H hcg.here hg.full (by omega)
    rw [hmin] at hcall
    have hC:=ALD m i hi'
    have hzl:=P7 (IC (szs m m.crs[i].pts))
    have htl:((zC m).take i).length≤1048576:=by rw [List.length_take,YT]; omega
    generalize IC (szs m m.crs[i].pts)=pn at hC hzl hpr hcall
    have N2:=(N.app [.live 1 ((zeros pn).map encI)]).app [.live 1 [[.own H.length 0 pn]]]
    have NP2:=(NP.app [.live 1 ((zeros pn).map encI)]).app [.live 1 [[.own H.length 0 pn]]]
    have E2:=E.keep (u := .bool true) (H':=H ++ [ABlk.live 1 ((zeros pn).map encI)] ++ [ABlk.live 1 [[.own H.length 0 pn]]]) (fun b x hb _=>FU (FU hb)) (fun b hb=>hb.elim) (fun q=>(q.app _).app _)
    have gb:=CX (x:=ABlk.live 1 [[.own H.length 0 pn]]) (CY H (ABlk.live 1 ((zeros pn).map encI)))
    have gt:=CY (H ++ [ABlk.live 1 ((zeros pn).map encI)]) (ABlk.live 1 [[.own H.length 0 pn]])
    have hl2:(H ++ [ABlk.live 1 ((zeros pn).map encI)] ++ [ABlk.live 1 [[.own H.length 0 pn]]]).length=H.length+2:=by simp
    simp -implicitDefEqProofs only [BC,BQ,BO,A8]
    refine FD (by kernel_rfl) ?_
    simp -implicitDefEqProofs only [F9,D7,List.contains_cons,List.contains_nil,Nat.reduceBEq,Bool.or_false,Bool.or_true,EH,DX,EM,FP,FQ,QQ,EG,ED,GV,GI,AA,A7,BX,BV,MG,BK,CG,AB,lMc,lMn,lAn,↓reduceIte,Nat.reduceEqDiff,Nat.reduceAdd,Nat.zero_add,oGs,enP,ZA,JZ,L8,f1,f3,f5,E.l3',E.m1,ldM E.gm,D5 hi',FO AAX XK JX hi']
    refine ⟨_,hcall,?_⟩
    try simp -implicitDefEqProofs only [F9,FT,F6,D7,List.contains_cons,List.contains_nil,Nat.reduceBEq,Bool.or_false,Bool.or_true,EH,DX,EM,LH,JK,AA,A7,ES,IJ,CE,↓reduceIte,Nat.reduceEqDiff,Nat.reduceAdd,oGs,enP,mkI _ _ (show pn≤1048576 by omega),YJ]
    generalize H ++ [ABlk.live 1 ((zeros pn).map encI)] ++ [ABlk.live 1 [[.own H.length 0 pn]]]=Hb at N2 NP2 E2 gb gt hl2 ⊢
    generalize (H ++ [ABlk.live 1 ((zeros pn).map encI)]).length=tb at gt ⊢
    obtain ⟨H2,hap,N3,hk,hl3,hx3⟩:=N2.snoc gb (by omega) (by omega) (fun q=>by have:=N.mem_lt q; omega) (fun q e=>by have:=N.top_lt q; omega) (by rw [hzl]; exact gt) htl
    rw [← hC] at N3 hap
    have hne:(zC m).take (i+1)≠[]:=by rw [hC]; simp
    have E3:=E2.keep hk (fun b hb=>by
     obtain ⟨q,rfl⟩:=XY hb
     have:=N.lo' q; omega) (hx3 h (by omega))
    rw [OV _ hne] at hap
    refine KJ hap ?_
    have E4:=E3.set3 (nlV po (zP m)) (.own Hb.length 0 ((zC m).take (i+1)).length)
    have N4:NL H0.length (H2.set b3 (.live 4 [IQ (nlV po (zP m)) (.own Hb.length 0 ((zC m).take (i+1)).length)])) Hb.length (cbs ++ [H.length]) ((zC m).take (i+1)):=N3.keep fun b x hb hg=>CV hg (by have:=N3.lt hb; omega)
    have NP4:NL H0.length (H2.set b3 (.live 4 [IQ (nlV po (zP m)) (.own Hb.length 0 ((zC m).take (i+1)).length)])) po pb (zP m):=NP2.keep fun b x hb hg=>CV (hk b x hg (fun q=>hdis b (ABA q) hb)) (by have:=NP.lt hb; omega)
    simp -implicitDefEqProofs only [F9,D7,List.contains_cons,List.contains_nil,Nat.reduceBEq,Bool.or_false,EH,DX,LP,FC,EM,KL,EG,BA,A8,EF,ER,AY,BB,AL,BD,AX,AC,AA,A7,AU,BH,BG,AZ,EP,BR,BK,AB,DW,DI,↓reduceIte,Nat.reduceEqDiff,Nat.reduceAdd,Nat.zero_add,oGs,bNf,enP,L8,D9,Option.getD_none,f3,E3.s3',f5,wrap_succ (show i < 9223372036854775807 by omega)]
    have hl4:(H2.set b3 (.live 4 [IQ (nlV po (zP m)) (.own Hb.length 0 ((zC m).take (i+1)).length)])).length=H2.length:=by simp
    generalize H2.set b3 (.live 4 [IQ (nlV po (zP m)) (.own Hb.length 0 ((zC m).take (i+1)).length)])=H4 at E4 N4 NP4 hl4 ⊢
    rw [← OV Hb.length hne] at E4
    exact ⟨n - 1,by omega,i+1,Hb.length,_,by omega,by first | trivial | exact f1,by first | trivial | exact f2,by first | trivial | exact f3,by first | trivial | rfl,E4,NP4,N4,(fun b hb=>by
     rw [hC] at hb
     rcases ADG (o:=co) hb with rfl | hb | rfl
     ·exact fun q=>by have:=NP.lt q; omega
     ·exact hdis _ hb
     ·exact fun q=>by have:=NP.lt q; omega),by omega⟩
   ·have hi' : ¬ i < m.crs.length:=by simpa using hc
    rw [List.take_of_length_le (by rw [YT]; omega)] at N E hdis
    simp -implicitDefEqProofs only [DL,EC,KG,EW,AA,↓reduceIte,Nat.reduceEqDiff]
    exact ⟨co,cbs,f2,f3,E,⟨NP,N,fun b h1 h2=>hdis b h2 h1⟩⟩
  ·rintro F' H' ⟨co,cbs,g2,g3,E',N⟩
   have hp:=E'.o2; have hq:=E'.o3
   simp -implicitDefEqProofs only [D7,List.contains_cons,List.contains_nil,Nat.reduceBEq,Bool.or_false,BC,BA,BL,A8,EY,AY,BB,AL,BD,AX,AC,E8,AA,A7,BV,EP,AB,DW,↓reduceIte,Nat.reduceEqDiff,oGs,bNf,enP,D9,Option.getD_none,g2,g3,KN E'.g3 rfl,AHB E'.g2 rfl (KX _ _) (KX _ _)]
   rw [AQQ (b:=b2) (by simp -implicitDefEqProofs only [AA,↓reduceIte,Nat.reduceEqDiff,g2]) (KN (EI E'.g2) rfl)]
   exact ⟨E'.hx.set (by omega) _,po,pb,co,cbs,rfl,(N.keep (H':=H'.set b2 (.live 4 [IQ (nlV po (zP m)) (nlV co (zC m))])) fun b x hb _ hg=>CV hg (by omega)).base (by omega)⟩
theorem AWD (H0:Hp) {v1 v2 v3:AV} (h1:v1.leaf=true) (h2:v2.leaf=true) (h3:v3.leaf=true) :
  FM Tryz.prog (H0 ++ [ABlk.live 4 [F5]] ++ [ABlk.live 1 [F8]]) 28 (.ptr H0.length 0 0) (.agg (IQ v1 v2))=some ((H0 ++ [ABlk.live 4 [F5]] ++ [ABlk.live 1 [F8]]).set H0.length (ABlk.live 4 [IQ v1 v2])) ∧
  FM Tryz.prog ((H0 ++ [ABlk.live 4 [F5]] ++ [ABlk.live 1 [F8]]).set H0.length (ABlk.live 4 [IQ v1 v2])) 47 (.ptr (H0 ++ [ABlk.live 4 [F5]]).length 0 0) (.agg [v3])=some (((H0 ++ [ABlk.live 4 [F5]] ++ [ABlk.live 1 [F8]]).set H0.length (ABlk.live 4 [IQ v1 v2])).set (H0 ++ [ABlk.live 4 [F5]]).length (ABlk.live 1 [[v3]])) ∧
  (((H0 ++ [ABlk.live 4 [F5]] ++ [ABlk.live 1 [F8]]).set H0.length (ABlk.live 4 [IQ v1 v2])).set (H0 ++ [ABlk.live 4 [F5]]).length (ABlk.live 1 [[v3]]))[H0.length]? = some (ABlk.live 4 [IQ v1 v2]) ∧
  (((H0 ++ [ABlk.live 4 [F5]] ++ [ABlk.live 1 [F8]]).set H0.length (ABlk.live 4 [IQ v1 v2])).set (H0 ++ [ABlk.live 4 [F5]]).length (ABlk.live 1 [[v3]]))[(H0 ++ [ABlk.live 4 [F5]]).length]? = some (ABlk.live 1 [[v3]]) ∧
  ext H0 (((H0 ++ [ABlk.live 4 [F5]] ++ [ABlk.live 1 [F8]]).set H0.length (ABlk.live 4 [IQ v1 v2])).set (H0 ++ [ABlk.live 4 [F5]]).length (ABlk.live 1 [[v3]])) :=
 ⟨AHB (CX (CY _ _)) rfl h1 h2,AHA (CV (CY _ _) (by simp)) rfl h3,CV (EI (CX (CY _ _))) (by simp),EI (CV (CY _ _) (by simp)),((((ext.rfl' H0).app _).app _).set (Nat.le_refl _) _).set (by simp) _⟩
theorem NC.ext {n0:Nat} {H H':Hp} {po:Nat} {pb:List Nat} {co:Nat} {cbs:List Nat} {P C:List (List Int)} (N:NC n0 H po pb co cbs P C) (hx:Sm.ext H H'):NC n0 H' po pb co cbs P C:=N.keep fun _ _ _ _ hg=>EU hx hg
theorem outG.ext {α:Type} {k:Nat} {f:α→List AV} {h H H':Hp} {ys:List α} {v:AV} (ho:outG k f h ys v H) (hx:Sm.ext H H'):outG k f h ys v H':=by
 obtain ⟨y,rfl⟩:=hx
 exact ho.app y
def EmQ (h:Hp) (m:Mo) (v:AV) (H:Hp):Prop:=ext h H∧((GN m≠0∧v = .tup [.agg F5,.agg F8,.int .i64 (GN m)]) ∨
 (GN m=0∧∃ po pb co cbs v3,v = .tup [.agg (IQ (nlV po (zP m)) (nlV co (zC m))),.agg [v3],.int .i64 0]∧EmO h H m po pb co cbs v3))
set_option maxHeartbeats 1000000 in
theorem AOM (G:Nat→AV) (hG:GOk G) (m:Mo) (hm:MoOk m) (h:Hp):ACalls (En G) 67 [.agg (EN m)] h (EmQ h m):=by
 refine CB (H:=Hint.none) (enM G) Tryz.func67 rfl (by kernel_rfl) (by kernel_rfl) (nLb (by kernel_rfl)) ?_
 show awp _ _ _ _ _ (EE _ [.cell 2 28,.cell 3 47,.tmp 4] _)
 unfold EmQ
 have E:=Ee.mk' h m
 simp -implicitDefEqProofs only [BC,BA,A8,AY,BB,AO,AQ,AL,BD,AX,AC,AA,A7,AU,BH,AZ,GG,FV,BV,CE,BF,↓reduceIte,Nat.reduceEqDiff,oGs,bNf,enP,bxM,SB,ADY]
 generalize h ++ [ABlk.live 2 [EN m]] ++ [ABlk.live 4 [F5]] ++ [ABlk.live 1 [F8]]=H0 at E ⊢
 generalize (h ++ [ABlk.live 2 [EN m]] ++ [ABlk.live 4 [F5]]).length=b3 at E ⊢
 generalize (h ++ [ABlk.live 2 [EN m]]).length=b2 at E ⊢
 have o2:=E.o2; have o3:=E.o3; have hlt:=E.lt
 simp -implicitDefEqProofs only [AY,AO,AQ,AL,BD,AX,AC,AA,A7,BX,BZ,BU,AB,lMc,lMn,lAn,↓reduceIte,oGs,bNf,ldM E.gm]
 refine (QG G hG m hm _).use ?_
 cases hb:(GN m == 0)
 ·have h0:GN m≠0:=by simpa using hb
  simp -implicitDefEqProofs only [FT,BC,BA,BL,BI,A8,CP,C9,AY,BB,AO,AQ,AL,BD,AX,AC,E8,AA,A7,AU,BH,BG,AZ,JE,EP,BR,AB,DW,EJ,↓reduceIte,Nat.reduceEqDiff,oGs,bNf,enP,Option.getD_none,bne,hb,TM,V7,stZ E.g2 rfl,VS (CV E.g3 (show b3≠b2 by omega)) rfl]
  rw [VI (ba:=b2) (bb:=b3) (by simp -implicitDefEqProofs only [AA,↓reduceIte,Nat.reduceEqDiff]) (by simp -implicitDefEqProofs only [AA,↓reduceIte,Nat.reduceEqDiff]) (KN (CV (EI E.g2) (show b2≠b3 by omega)) rfl) (OB (EI (CV E.g3 (show b3≠b2 by omega))) rfl)]
  exact ⟨(E.hx.set (by omega) _).set (by omega) _,.inl ⟨h0,by simp -implicitDefEqProofs only [AA,↓reduceIte]⟩⟩
 ·have h0:GN m=0:=by simpa using hb
  have hg:=PZ h0
  simp -implicitDefEqProofs only [BC,BA,BO,BI,A8,DU,AY,BB,AO,AQ,AL,BD,AX,AC,AA,A7,AU,BX,BH,BG,AZ,BV,BR,BZ,BU,AB,EJ,lMc,lMn,lAn,↓reduceIte,Nat.reduceEqDiff,oGs,bNt,bNf,enP,bne,hb,ldM E.gm]
  refine (AN2 G m hm hg _).mono ?_
  rintro v H1 ⟨hx1,po,pb,co,cbs,v3,rfl,EO⟩
  obtain ⟨s1,s2,g6,g7,hx5⟩:=AWD H1 (KX po (zP m)) (KX co (zC m)) EO.o3.leaf
  have g2:=EU hx5 (EU hx1 E.g2)
  have g3:=EU hx5 (EU hx1 E.g3)
  have hx:=(E.hx.trans hx1).trans hx5
  have hle1:=hx1.le
  have h7:b2 < (H1 ++ [ABlk.live 4 [F5]]).length:=by simp; omega
  have N5:=EO.nc.ext hx5
  have q5:=outG.ext EO.o3 hx5
  simp -implicitDefEqProofs only [List.getElem?_cons_zero,List.getElem?_cons_succ,BC,A8,AY,BB,AO,AQ,AL,BD,AX,AC,E8,AA,A7,BG,GG,EP,FW,IB,CE,AB,DW,↓reduceIte,Nat.reduceEqDiff,oGs,bNf,enP,Option.getD_none,SB,ADY,s1,s2]
  generalize ((H1 ++ [ABlk.live 4 [F5]] ++ [ABlk.live 1 [F8]]).set H1.length (ABlk.live 4 [IQ (nlV po (zP m)) (nlV co (zC m))])).set (H1 ++ [ABlk.live 4 [F5]]).length (ABlk.live 1 [[v3]])=H5 at g6 g7 g2 g3 hx N5 q5 ⊢
  generalize (H1 ++ [ABlk.live 4 [F5]]).length=b7 at g7 h7 ⊢
  refine VK [(7,2)] (by kernel_rfl) ?_ ?_
  ·simp -implicitDefEqProofs only [AA,↓reduceIte,Nat.reduceEqDiff,VM,YP,XP,and_true]
   omega
  simp -implicitDefEqProofs only [F9,EH,DX,LP,FC,EM,J8,FQ,KL,BL,A8,AO,AA,A7,AU,BH,BV,EP,AB,DW,↓reduceIte,Nat.reduceEqDiff,Nat.reduceAdd,Nat.zero_add,oGs,enP,Option.getD_none,KN g6 rfl,OB g7 rfl,AHB g2 rfl (KX po (zP m)) (KX co (zC m)),AHA (CV g3 (show b3≠b2 by omega)) rfl q5.leaf]
  rw [VI (ba:=b2) (bb:=b3) (by simp -implicitDefEqProofs only [AA,↓reduceIte,Nat.reduceEqDiff]) (by simp -implicitDefEqProofs only [AA,↓reduceIte,Nat.reduceEqDiff]) (KN (CV (EI g2) (show b2≠b3 by omega)) rfl) (OB (EI (CV g3 (show b3≠b2 by omega))) rfl)]
  have hhl:=E.hx.le
  refine ⟨(hx.set (by omega) _).set (by omega) _,.inr ⟨h0,po,pb,co,cbs,v3,by simp -implicitDefEqProofs only [AA,↓reduceIte],?_,?_⟩⟩
  ·exact (N5.keep (H':=(H5.set b2 (.live 4 [IQ (nlV po (zP m)) (nlV co (zC m))])).set b3 (.live 1 [[v3]])) fun b x hb _ hg=>CV (CV hg (by omega)) (by omega)).base hhl
  ·exact ((q5.setB (b:=b2) (by omega) _).setB (b:=b3) (by omega) _).base hhl
structure St where
 P:List (List Int)
 C:List (List Int)
 sam:Int
 ill:Int
 ls:List (List Int)
def VO (m:Mo) (s:St) (env:List Sg):Int:=JG PtR.err (NG m s.ls env)
def stp (m:Mo) (s:St) (env:List Sg):St:=⟨KP (NG m s.ls env) s.P,MJ m ((NG m s.ls env).map PtR.hit) s.C,rz s.sam,if (NG m s.ls env).any PtR.bad=true then rz s.ill else s.ill,(NG m s.ls env).map PtR.next⟩
structure StOk (m:Mo) (s:St):Prop where
 sh:ShapeOk m s.P s.C
 ll:s.ls.length=m.pts.length
 l7 : ∀ l∈s.ls,l.length≤7
 sm:0≤s.sam∧s.sam≤1099511627776
 il:0≤s.ill∧s.ill≤1099511627776
theorem API (p:Pt) (last:List Int) (l:List Sg):(ptE p last l).next.length≤7:=by
 have hn : ∀ v,(nextL last v).length≤7:=fun v=>by unfold nextL; rw [List.length_drop,List.length_append]; simp; omega
 unfold ptE
 split
 ·simp
 ·split
  ·simp
  ·split
   ·exact hn _
   ·split
    ·exact hn _
    ·exact hn _
theorem ShapeOk.step {m:Mo} {P C:List (List Int)} (h:ShapeOk m P C) {rs:List PtR} (hr:rs.length=m.pts.length) (hits:List (List Nat)):ShapeOk m (KP rs P) (MJ m hits C):=by
 have h1:rs.length=P.length:=by rw [hr,h.pl]
 have h2:=h.cl
 have l1:=RH rs P h1
 have l2:=UA m hits C h2
 refine ⟨by rw [l1]; exact h.pl,by rw [l2]; exact h2,fun i a b => ?_,fun i a b => ?_,ASM h.wp,ASN h.wc⟩
 ·rw [RI rs P i (by omega) (by omega),PE]; exact h.pe i (by omega) b
 ·rw [UB m hits C i b (by omega),PG]; exact h.ce i (by omega) b
theorem StOk.step {m:Mo} {s:St} (h:StOk m s) (env:List Sg):StOk m (stp m s env):=by
 have hr:=RP m s.ls env h.ll
 refine ⟨h.sh.step hr _,by simp [stp,hr],fun l hl => ?_,ALQ h.sm,?_⟩
 ·obtain ⟨r,hr,rfl⟩:=List.mem_map.1 hl
  obtain ⟨p,hp,rfl⟩:=List.mem_map.1 hr
  exact API _ _ _
 ·unfold stp
  dsimp only
  split
  ·exact ALQ h.il
  ·exact h.il
def zS (m:Mo):St:=⟨zP m,zC m,0,0,List.replicate m.pts.length []⟩
theorem AGZ (n:Nat):Wn (zeros n):=fun x hx=>by
 have:x=0:=by simpa [zeros] using (List.eq_of_mem_replicate hx)
 subst this; decide
theorem AUX (m:Mo):StOk m (zS m):=by
 refine ⟨⟨YS m,YT m,fun i a b => ?_,fun i a b => ?_,fun xs hx => ?_,fun xs hx => ?_⟩,by simp [zS],fun l hl => ?_,⟨by show (0:Int)≤0; omega,by show (0:Int)≤1099511627776; omega⟩,⟨by show (0:Int)≤0; omega,by show (0:Int)≤1099511627776; omega⟩⟩
 ·simp [zS,zP,zeros]
 ·simp [zS,zC,zeros]
 ·obtain ⟨p,_,rfl⟩:=List.mem_map.1 hx
  exact AGZ _
 ·obtain ⟨p,_,rfl⟩:=List.mem_map.1 hx
  exact AGZ _
 ·rw [List.eq_of_mem_replicate hl]; simp
def XQ (m:Mo):St→List (List Sg)→Int × St
 | s,[]=>(0,s)
 | s,e :: r=>if VO m s e≠0 then (VO m s e,s) else XQ m (stp m s e) r
def AJP (m:Mo) (l:List (List Sg)):Int:=if GN m=0 then (XQ m (zS m) l).1 else GN m
def P5 (P:List (List Int)):List Is:=P.map fun x=>⟨.any,x⟩
def cvS (s:St):Cvr:=⟨nm (P5 s.P),P5 s.P,nm (P5 s.C),P5 s.C,s.sam,s.ill⟩
def ASS (m:Mo) (l:List (List Sg)):Cvr:=if GN m=0∧(XQ m (zS m) l).1=0 then cvS (XQ m (zS m) l).2 else zV
def cvW (s:St):List AV := [fzG 1 encL (P5 s.P),fzG 1 encL (P5 s.C),.int .i64 s.sam,.int .i64 s.ill]
theorem AKM (s:St):CvR (.agg (cvW s)) (.agg (FZ (cvS s))):=CvR.agg (CvRL.cons ACA (CvRL.cons ACA (CvRL.refl _)))
def AJO (m:Mo) (l:List (List Sg)):List AV:=if GN m=0∧(XQ m (zS m) l).1=0 then cvW (XQ m (zS m) l).2 else F5
theorem ASR (m:Mo) (l:List (List Sg)):CvR (.agg (AJO m l)) (.agg (FZ (ASS m l))):=by
 unfold AJO ASS
 split
 ·exact AKM _
 ·exact AUW
structure Ss where
 m:SM
 l:List Sg
def RY (x:Ss):List AV := [.sl x.m 2 (x.l.map GH)]
theorem AWN (x:Ss):(RY x)[0]? = some (.sl x.m 2 (x.l.map GH)):=rfl
theorem AKF {h H:Hp} (_:h.length≤H.length) (hg : ∀ (b:Nat) (x:ABlk),h[b]? = some x→H[b]? = some x):ext h H:=⟨H.drop h.length,by
 refine List.ext_getElem? fun i => ?_
 rcases Nat.lt_or_ge i h.length with hi | hi
 ·rw [List.getElem?_append_left hi,List.getElem?_eq_getElem hi]; exact hg i _ (List.getElem?_eq_getElem hi)
 ·rw [List.getElem?_append_right hi,List.getElem?_drop]; congr 1; omega⟩
theorem Fr1.ext {h0 h H:Hp} {cb tb:Nat} {pb cbs:List Nat} (hf:Fr1 h H cb tb pb cbs) (hx:Sm.ext h0 h) (h1:h0.length≤cb) (h2:h0.length≤tb) (h3 : ∀ b∈pb,h0.length≤b) (h4 : ∀ b∈cbs,h0.length≤b):Sm.ext h0 H :=
 AKF (Nat.le_trans hx.le hf.le) fun b x hb=>by
  have hlt:=CU hb
  exact hf.get b x (EU hx hb) (by omega) (by omega) (fun q=>by have:=h3 b q; omega) (fun q=>by have:=h4 b q; omega)
theorem AQZ (po:Nat) (P:List (List Int)) (co:Nat) (C:List (List Int)) (a b:Int):(cvR po P co C a b).all AV.leaf=true:=by
 simp [cvR,KX]; exact ⟨rfl,rfl⟩
theorem AO9 {H:Hp} {b:Nat} {row:List AV} {po:Nat} {P:List (List Int)} {co:Nat} {C:List (List Int)} {x y:Int} (hb:H[b]? = some (.live 4 [row])) (hr:row.length=4):FM Tryz.prog H 28 (.ptr b 0 0) (.agg (cvR po P co C x y))=some (H.set b (.live 4 [cvR po P co C x y])):=by
 rw [MX (cs:=cvR po P co C x y) (U0 (AQZ _ _ _ _ _ _)) AJI hb (by rw [hr]; exact Nat.le_refl 4)]
 have:splice row 0 (cvR po P co C x y)=cvR po P co C x y:=by unfold splice; rw [List.take_zero,List.drop_eq_nil_of_le (by rw [hr]; exact Nat.le_refl 4)]; simp
 rw [this]
theorem AKN {n0:Nat} {H:Hp} {po co:Nat} {pb cbs:List Nat} (s:St) (np:NL n0 H po pb s.P) (nc:NL n0 H co cbs s.C) (n d:Nat) (hn:n≤n0):II n H (d+4) (.agg (cvR po s.P co s.C s.sam s.ill)) = .agg (cvW s):=by
 show AV.agg [II n H (d+3) (nlV po s.P),II n H (d+3) (nlV co s.C),.int .i64 s.sam,.int .i64 s.ill]=_
 rw [np.frz n d hn,nc.frz n d hn]; rfl
theorem AO0 {h H:Hp} {m:Mo} {v3:AV} (o:outG 1 (fun _:Pt=>F8) h m.pts v3 H):TLs H v3 (List.replicate m.pts.length []):=by
 rcases o with ⟨e,_⟩ | ⟨_,q,_,rfl,hq⟩
 ·rw [e]; exact .inl rfl
 ·refine .inr (.inr ⟨q,m.pts.map fun _=>F8,by simp,hq,?_⟩)
  rw [List.map_const']
  exact RowsL.nils _
set_option maxHeartbeats 4000000 in
theorem ARY (G:Nat→AV) (hG:GOk G) (hT:Q5 G) (m:Mo) (hm:MoOk m) (l:List Ss) (s:SM) (h:Hp) (hl:l.length≤1048576) (he : ∀ x∈l,x.l.length≤1048576) :
  PCall (En G) 48 [.agg (EN m),.sl s 1 (l.map RY)] h (.tup [.agg (FZ (ASS m (l.map Ss.l))),.int .i64 (AJP m (l.map Ss.l))]):=by
 refine PCall.res (r := .tup [.agg (AJO m (l.map Ss.l)),.int .i64 (AJP m (l.map Ss.l))]) ?_ (CvR.tup (CvRL.cons (ASR _ _) (CvRL.refl _)))
 refine ACalls.pure (R:=fun v H=>ext h H∧II h.length H 5 v = .tup [.agg (AJO m (l.map Ss.l)),.int .i64 (AJP m (l.map Ss.l))]) 5 ?_ (fun v H ⟨a,b⟩=>⟨a,b⟩)
 refine CB (H:=Hint.none) (enM G) Tryz.func48 rfl (by kernel_rfl) (by kernel_rfl) (nLb (by kernel_rfl)) ?_
 show awp _ _ _ _ _ (EE _ [.cell 4 28,.tmp 5] _)
 have gm:=CX (x:=ABlk.live 4 [F5]) (CY h (ABlk.live 2 [EN m]))
 have g4:=CY (h ++ [ABlk.live 2 [EN m]]) (ABlk.live 4 [F5])
 have hx:ext h (h ++ [ABlk.live 2 [EN m]] ++ [ABlk.live 4 [F5]]):=((ext.rfl' h).app _).app _
 have hb4:h.length < (h ++ [ABlk.live 2 [EN m]]).length:=by simp
 simp -implicitDefEqProofs only [BC,BA,A8,AY,BB,AO,AQ,AL,BD,AX,AC,AA,A7,AU,BH,AZ,GG,FV,BV,CE,BF,↓reduceIte,Nat.reduceEqDiff,oGs,bNf,enP,bxM,SB]
 generalize h ++ [ABlk.live 2 [EN m]] ++ [ABlk.live 4 [F5]]=H0 at gm g4 hx ⊢
 generalize (h ++ [ABlk.live 2 [EN m]]).length=b4 at g4 hb4 ⊢
 have hlt:=CU g4
 simp -implicitDefEqProofs only [AY,AO,AQ,AL,BD,AX,AC,AA,A7,BX,BZ,BU,AB,lMc,lMn,lAn,↓reduceIte,oGs,bNf,ldM gm]
 refine (AOM G hG m hm H0).mono ?_
 rintro v H1 ⟨hx1,⟨hne,rfl⟩ | ⟨h0,po,pb,co,cbs,v3,rfl,EO⟩⟩
 ·have hb:(GN m == 0)=false:=by simpa using hne
  obtain ⟨s1,s2,g6,g7,hx5⟩:=AWD H1 (v1 := .sl .nil 0 []) (v2 := .sl .nil 0 []) (v3 := .sl .nil 0 []) rfl rfl rfl
  have s1':FM Tryz.prog (H1 ++ [ABlk.live 4 [F5]] ++ [ABlk.live 1 [F8]]) 28 (.ptr H1.length 0 0) (.agg F5)=_:=s1
  have s2':FM Tryz.prog ((H1 ++ [ABlk.live 4 [F5]] ++ [ABlk.live 1 [F8]]).set H1.length (ABlk.live 4 [IQ (.sl .nil 0 []) (.sl .nil 0 [])])) 47 (.ptr (H1 ++ [ABlk.live 4 [F5]]).length 0 0) (.agg F8)=_:=s2
  have g4':=EU hx5 (EU hx1 g4)
  have hx':=(hx.trans hx1).trans hx5
  simp -implicitDefEqProofs only [List.getElem?_cons_zero,List.getElem?_cons_succ,FT,BC,BA,BI,A8,C9,AY,BB,AO,AQ,AL,BD,AX,AC,E8,AA,A7,AU,BH,BG,AZ,GG,JE,EP,BR,FW,IB,CE,AB,DW,EJ,↓reduceIte,Nat.reduceEqDiff,oGs,bNf,enP,Option.getD_none,SB,ADY,s1',s2',bne,hb,TM]
  generalize ((H1 ++ [ABlk.live 4 [F5]] ++ [ABlk.live 1 [F8]]).set H1.length (ABlk.live 4 [IQ (.sl .nil 0 []) (.sl .nil 0 [])])).set (H1 ++ [ABlk.live 4 [F5]]).length (ABlk.live 1 [[.sl .nil 0 []]])=H5 at g4' hx' ⊢
  simp -implicitDefEqProofs only [BL,A8,CP,AY,BB,AO,AQ,AL,BD,AX,AC,E8,AA,A7,AZ,DW,↓reduceIte,oGs,bNf,stZ g4' rfl]
  rw [AGD (ba:=b4) (by simp -implicitDefEqProofs only [AA,↓reduceIte,Nat.reduceEqDiff]) (KN (EI g4') rfl)]
  refine ⟨hx'.set (by omega) _,?_⟩
  unfold AJO AJP
  rw [if_neg (fun q=>hne q.1),if_neg hne]
  rfl
 have hg:=PZ h0
 have hnp:m.pts.length≤16:=by have:=hg.num; omega
 obtain ⟨s1,s2,g6,g7,hx5⟩:=AWD H1 (KX po (zP m)) (KX co (zC m)) EO.o3.leaf
 have gm5:=EU hx5 (EU hx1 gm)
 have g45:=EU hx5 (EU hx1 g4)
 have hx':=(hx.trans hx1).trans hx5
 have hle1:=hx1.le
 have N5:=EO.nc.ext hx5
 have q5:=AO0 (outG.ext EO.o3 hx5)
 have hlb : ∀ b,NLB po pb (zP m) b∨NLB co cbs (zC m) b→b < H1.length:=fun b hb=>by
  rcases hb with hb | hb
  ·exact (EO.nc.np.lt hb).2
  ·exact (EO.nc.nc.lt hb).2
 have htl:(H1 ++ [ABlk.live 4 [F5]]).length=H1.length+1:=by simp
 simp -implicitDefEqProofs only [List.getElem?_cons_zero,List.getElem?_cons_succ,BC,BQ,BA,BO,BI,A8,DU,AY,BB,AO,AQ,AL,BD,AX,AC,E8,AA,A7,AU,BH,BG,AZ,GG,EP,BR,FW,IB,D6,CE,AB,DW,EJ,BF,BN,↓reduceIte,Nat.reduceEqDiff,oGs,bNt,bNf,enP,A0D,Option.getD_none,SB,ADY,s1,s2,bne,beq_self_eq_true,lLm]
 generalize ((H1 ++ [ABlk.live 4 [F5]] ++ [ABlk.live 1 [F8]]).set H1.length (ABlk.live 4 [IQ (nlV po (zP m)) (nlV co (zC m))])).set (H1 ++ [ABlk.live 4 [F5]]).length (ABlk.live 1 [[v3]])=H5 at g6 g7 gm5 g45 hx' N5 q5 ⊢
 generalize (H1 ++ [ABlk.live 4 [F5]]).length=tb at g7 htl ⊢
 generalize H1.length=cb at g6 hlb htl hle1 ⊢
 have S5:CS H0.length H5 cb tb po co pb cbs (zS m).P (zS m).C (zS m).sam (zS m).ill v3:=N5.cs g6 g7 (by omega) (fun b hb=>by have:=hlb b hb; omega)
 refine DR (fun n F H => ∃ k st v3,n+k=l.length∧F 2 = .ptr h.length 0 0∧F 4 = .ptr b4 0 0∧F 6 = .ptr cb 0 0∧F 7 = .ptr tb 0 0∧F 22 = .sl s 1 (l.map RY)∧F 23 = .int .i64 (l.length:Nat)∧F 24 = .int .i64 (k:Nat)∧H[h.length]? = some (.live 2 [EN m])∧H[b4]? = some (.live 4 [F5]) ∧
   CS H0.length H cb tb po co pb cbs st.P st.C st.sam st.ill v3∧TLs H v3 st.ls∧StOk m st∧ext h H∧XQ m (zS m) (l.map Ss.l)=XQ m st ((l.drop k).map Ss.l)) l.length
  ⟨0,zS m,v3,by simp,by simp -implicitDefEqProofs only [AA,↓reduceIte,Nat.reduceEqDiff],by simp -implicitDefEqProofs only [AA,↓reduceIte,Nat.reduceEqDiff],by simp -implicitDefEqProofs only [AA,↓reduceIte,Nat.reduceEqDiff],by simp -implicitDefEqProofs only [AA,↓reduceIte,Nat.reduceEqDiff],by simp -implicitDefEqProofs only [AA,↓reduceIte,Nat.reduceEqDiff],by simp -implicitDefEqProofs only [AA,↓reduceIte,Nat.reduceEqDiff],by simp -implicitDefEqProofs only [AA,↓reduceIte] <;> rfl,gm5,g45,S5,q5,AUX m,hx',rfl⟩ ?_
 clear gm5 g45 S5 q5 hx' N5 g6 g7 s1 s2 hx5
 rintro n F H ⟨k,st,v3',hk,f2,f4,f6,f7,f22,f23,f24,gmH,g4H,S,T,hok,hxH,hrun⟩
 simp -implicitDefEqProofs only [BC,BA,BI,A8,AY,BB,AO,AQ,AL,BD,AX,AC,AA,A7,BR,AB,DF,↓reduceIte,oGs,bNf,enP,f23,f24]
 refine CW (fun hc => ?_) (fun hc => ?_)
 ·have hk':k < l.length:=by simpa using hc
  rw [List.drop_eq_getElem_cons hk',lMc] at hrun
  simp -implicitDefEqProofs only [BC,BQ,BA,BO,A8,AY,BB,AO,AQ,AL,BD,AX,AC,AA,A7,BX,BG,AZ,BV,CG,BZ,BU,AB,lMc,lMn,lAn,↓reduceIte,Nat.reduceEqDiff,oGs,bNf,enP,AYF,f22,f24,D5 hk',DT AWZ hk',AWN,f2,ldM gmH,f6,f7]
  refine (ZY G hG hT m hm hg S hok.sh st.ls hok.ll (fun x hx=>by have:=hok.l7 x hx; omega) T l[k].l l[k].m (by have:=he _ (List.getElem_mem hk'); omega) hok.sm hok.il).mono ?_
  intro v H' hQ
  unfold AUO at hQ
  rcases hQ with ⟨e,hne,hfst,rfl,hxe⟩ | ⟨hfst,rfl,lb,hlb2,glb,S',hFr⟩
  ·have hb:(e == 0)=false:=by simpa using hne
   have hse:VO m st l[k].l=e:=hfst
   have g4':=EU hxe g4H
   simp -implicitDefEqProofs only [FT,BC,BA,BL,BI,A8,CP,D8,FB,C9,AY,BB,AO,AQ,AL,BD,AX,AC,E8,AA,A7,AU,BH,BG,AZ,JE,EP,BR,AB,DW,EJ,↓reduceIte,Nat.reduceEqDiff,oGs,bNf,enP,Option.getD_none,bne,hb,TM,f4,stZ g4' rfl]
   rw [AGD (ba:=b4) (by simp -implicitDefEqProofs only [AA,↓reduceIte,Nat.reduceEqDiff,f4]) (KN (EI g4') rfl)]
   refine ⟨(hxH.trans hxe).set (by omega) _,?_⟩
   have hr:XQ m (zS m) (l.map Ss.l)=(e,st):=by
    rw [hrun]
    show (if VO m st l[k].l≠0 then (VO m st l[k].l,st) else _)=_
    rw [hse,if_pos hne]
   unfold AJO AJP
   rw [if_neg (by rw [hr]; exact fun q=>hne q.2),if_pos h0,hr]
   simp -implicitDefEqProofs only [AA,↓reduceIte]
   rfl
  ·have hse:VO m st l[k].l=0:=hfst
   have hr:XQ m (zS m) (l.map Ss.l)=XQ m (stp m st l[k].l) ((l.drop (k+1)).map Ss.l):=by
    rw [hrun]
    show (if VO m st l[k].l≠0 then (VO m st l[k].l,st) else _)=_
    rw [hse,if_neg (by decide)]
   have hpl : ∀ b∈pb,H0.length≤b:=S.np.lo
   have hcl : ∀ b∈cbs,H0.length≤b:=S.nc.lo
   have hhl:=hx.le
   have gm':=hFr.get _ _ gmH (by omega) (by omega) (fun q=>by have:=hpl _ q; omega) (fun q=>by have:=hcl _ q; omega)
   have g4':=hFr.get _ _ g4H (by omega) (by omega) (fun q=>by have:=hpl _ q; omega) (fun q=>by have:=hcl _ q; omega)
   have hx2:=hFr.ext hxH (by omega) (by omega) (fun b hb=>by have:=hpl _ hb; omega) (fun b hb=>by have:=hcl _ hb; omega)
   have T':TLs H' (.own lb 0 m.pts.length) (stp m st l[k].l).ls:=by
    refine .inr (.inr ⟨lb,_,?_,glb,RowsL.map _⟩)
    rw [(hok.step l[k].l).ll]
   simp -implicitDefEqProofs only [BC,BA,BO,BI,A8,EF,ER,DU,AY,BB,AO,AQ,AL,BD,AX,AC,AA,A7,AU,BH,BG,AZ,BR,AB,DI,EJ,↓reduceIte,Nat.reduceEqDiff,oGs,bNt,bNf,enP,bne,beq_self_eq_true,f24,wrap_succ (show k < 9223372036854775807 by omega)]
   exact ⟨n - 1,by omega,k+1,stp m st l[k].l,_,by omega,by first | trivial | exact f2,by first | trivial | exact f4,by first | trivial | exact f6,by first | trivial | exact f7,by first | trivial | exact f22,by first | trivial | exact f23,by first | trivial | rfl,gm',g4',S',T',hok.step _,hx2,hr⟩
 ·have hk' : ¬ k < l.length:=by simpa using hc
  rw [List.drop_eq_nil_of_le (by omega)] at hrun
  have hr:XQ m (zS m) (l.map Ss.l)=(0,st):=hrun
  simp -implicitDefEqProofs only [BC,BA,BL,DL,A8,EC,EY,EW,AY,BB,AO,AQ,AL,BD,AX,AC,E8,AA,A7,AU,BH,AZ,BV,EP,AB,DW,↓reduceIte,Nat.reduceEqDiff,oGs,bNf,enP,Option.getD_none,f4,f6,KN S.gc rfl,AO9 g4H rfl]
  rw [AGD (ba:=b4) (by simp -implicitDefEqProofs only [AA,↓reduceIte,Nat.reduceEqDiff,f4]) (KN (EI g4H) rfl)]
  refine ⟨hxH.set (by omega) _,?_⟩
  have np':NL H0.length (H.set b4 (.live 4 [cvR po st.P co st.C st.sam st.ill])) po pb st.P:=S.np.keep fun b x hb hg=>CV hg (by have:=S.np.lt hb; omega)
  have nc':NL H0.length (H.set b4 (.live 4 [cvR po st.P co st.C st.sam st.ill])) co cbs st.C:=S.nc.keep fun b x hb hg=>CV hg (by have:=S.nc.lt hb; omega)
  have e1:=AKN st np' nc' h.length 0 hx.le
  unfold AJO AJP
  rw [if_pos (by rw [hr]; exact ⟨h0,rfl⟩),if_pos h0,hr]
  simp -implicitDefEqProofs only [AA,↓reduceIte]
  show AV.tup [II h.length _ 4 (.agg (cvR po st.P co st.C st.sam st.ill)),.int .i64 0]=_
  rw [e1]
def A0V:Bin:=mkB ⟨#[108,111,119]⟩ 0 0 1
def AVF:Bin:=⟨⟨#[115,116,101,112]⟩,0,⟨.nil,[]⟩,.full,[⟨.full,[⟨0,0⟩]⟩,⟨.full,[⟨1,1⟩]⟩]⟩
def A0W:Bin:=mkB ⟨#[98,97,100]⟩ 2 3 3
def bX:Bin:=mkB ⟨#[120]⟩ 0 0 0
def bY:Bin:=mkB ⟨#[121]⟩ 0 1 9
def eP:Pt:=⟨⟨#[112]⟩,ATX,.full,[A0V,AVF,A0W]⟩
def eQ:Pt:=⟨⟨#[113]⟩,ATX,.full,[bX,bY]⟩
def eC:Cr:=⟨⟨#[99]⟩,.full,[0,1],.nil,[]⟩
def eM:Mo:=⟨.full,[eP,eQ],.full,[eC]⟩
def rL:List AV:=rowB ⟨#[108,111,119]⟩ 0 0 1
def rSt:List AV := [.str ⟨#[115,116,101,112]⟩,.int .i64 0,.sl .nil 0 [],.sl .full 1 [[.sl .full 2 [[.int .i64 0,.int .i64 0]]],[.sl .full 2 [[.int .i64 1,.int .i64 1]]]]]
def rBa:List AV:=rowB ⟨#[98,97,100]⟩ 2 3 3
def rX:List AV:=rowB ⟨#[120]⟩ 0 0 0
def rY:List AV:=rowB ⟨#[121]⟩ 0 1 9
def rE:List AV := [.int .i64 2,.int .i64 0,.str ⟨#[97]⟩,.sl .nil 0 []]
def rP:List AV := .str ⟨#[112]⟩ :: (rE ++ [.sl .full 4 [rL,rSt,rBa]])
def rQ:List AV := .str ⟨#[113]⟩ :: (rE ++ [.sl .full 4 [rX,rY]])
def rC:List AV := [.str ⟨#[99]⟩,.sl .full 1 [[.int .i64 0],[.int .i64 1]],.sl .nil 0 []]
def rM:List AV := [.sl .full 6 [rP,rQ],.sl .full 3 [rC]]
theorem cvB (s:ByteArray) (k lo hi:Int):CvRow (rowB s k lo hi) (GM (mkB s k lo hi)):=CvRow.cons rfl (Cv.refl _) (CvRow.cons rfl (Cv.refl _) (CvRow.cons rfl (Cv.refl _) (CvRow.cons rfl (Cv.nil 0 1) CvRow.nil)))
theorem A0G:CvRow rSt (GM AVF):=CvRow.cons rfl (Cv.refl _) (CvRow.cons rfl (Cv.refl _) (CvRow.cons rfl (Cv.nil 0 2) (CvRow.cons rfl (Cv.refl _) CvRow.nil)))
theorem cvP (s:ByteArray) {xs ys:List (List AV)} (h:Cv (.sl .full 4 xs) (.sl .full 4 ys)):CvRow (.str s :: (rE ++ [.sl .full 4 xs])) (.str s :: (ET ATX ++ [.sl .full 4 ys])) :=
 CvRow.cons rfl (Cv.refl _) (CvRow.cons rfl (Cv.refl _) (CvRow.cons rfl (Cv.refl _) (CvRow.cons rfl (Cv.refl _) (CvRow.cons rfl (Cv.nil 0 4) (CvRow.cons rfl h CvRow.nil)))))
theorem cv2 {m:SM} {k:Nat} {a b a' b':List AV} (h1:CvRow a a') (h2:CvRow b b'):Cv (.sl m k [a,b]) (.sl m k [a',b']):=Cv.rows rfl fun i r r' e1 e2=>by
 match i,e1,e2 with
 | 0,e1,e2=>cases e1; cases e2; exact h1
 | 1,e1,e2=>cases e1; cases e2; exact h2
 | _+2,e1,_=>cases e1
theorem cv3 {m:SM} {k:Nat} {a b c a' b' c':List AV} (h1:CvRow a a') (h2:CvRow b b') (h3:CvRow c c'):Cv (.sl m k [a,b,c]) (.sl m k [a',b',c']):=Cv.rows rfl fun i r r' e1 e2=>by
 match i,e1,e2 with
 | 0,e1,e2=>cases e1; cases e2; exact h1
 | 1,e1,e2=>cases e1; cases e2; exact h2
 | 2,e1,e2=>cases e1; cases e2; exact h3
 | _+3,e1,_=>cases e1
theorem cv1 {m:SM} {k:Nat} {a a':List AV} (h1:CvRow a a'):Cv (.sl m k [a]) (.sl m k [a']):=Cv.rows rfl fun i r r' e1 e2=>by
 match i,e1,e2 with
 | 0,e1,e2=>cases e1; cases e2; exact h1
 | _+1,e1,_=>cases e1
theorem AXY:CvR (.agg rM) (.agg (EN eM)) :=
 CvR.agg (CvRL.cons (CvR.sl (cv2 (cvP _ (cv3 (cvB _ _ _ _) A0G (cvB _ _ _ _))) (cvP _ (cv2 (cvB _ _ _ _) (cvB _ _ _ _))))) (CvRL.cons (CvR.sl (cv1 (CvRow.cons rfl (Cv.refl _) (CvRow.cons rfl (Cv.refl _) (CvRow.cons rfl (Cv.nil 0 1) CvRow.nil))))) CvRL.nil))
theorem A0Y (h:Hp):J3 Tryz.prog h 53=some (.ptr h.length 0 0,h ++ [.live 4 [[.int .i64 0,.int .i64 0,.str ⟨#[]⟩,.sl .nil 0 []]]]):=JV (row := [.int .i64 0,.int .i64 0,.str ⟨#[]⟩,.sl .nil 0 []]) (by kernel_rfl)
theorem AXM (h:Hp) (row:List AV) (hr:row.length=4):FM Tryz.prog (h ++ [.live 4 [row]]) 53 (.ptr h.length 0 0) (.agg [.int .i64 2,.int .i64 0,.str ⟨#[97]⟩,.sl .nil 0 []])=some (h ++ [.live 4 [rE]]):=by
 have h1:=MP (P:=Tryz.prog) (t:=53) (h:=h) (k:=4) (j:=0) (row:=row) (cs:=rE) (v := .agg rE) rfl WB (by rw [hr]; exact Nat.le_refl 4)
 have h2:splice row 0 rE=rE:=by unfold splice; simp [hr,rE]
 rw [h2] at h1
 exact h1
theorem AXK (h:Hp) (row:List AV) (hr:row.length=4):FM Tryz.prog (h ++ [.live 4 [row]]) 121 (.ptr h.length 0 0) (.agg rSt)=some (h ++ [.live 4 [rSt]]):=by
 have h1:=MP (P:=Tryz.prog) (t:=121) (h:=h) (k:=4) (j:=0) (row:=row) (cs:=rSt) (v := .agg rSt) rfl PD (by rw [hr]; exact Nat.le_refl 4)
 have h2:splice row 0 rSt=rSt:=by unfold splice; simp [hr,rSt]
 rw [h2] at h1
 exact h1
theorem AY7 (h:Hp):FH Tryz.prog false h 119 2 [(0,.sl .full 2 [[.int .i64 0,.int .i64 0]]),(1,.sl .full 2 [[.int .i64 1,.int .i64 1]])]=some (.sl .full 1 [[.sl .full 2 [[.int .i64 0,.int .i64 0]]],[.sl .full 2 [[.int .i64 1,.int .i64 1]]]],h):=by kernel_rfl
theorem AWX (s:ByteArray) (xs:List (List AV)):KU Tryz.prog 121 [(0,.str s),(3,.sl .full 1 xs)]=some (.agg [.str s,.int .i64 0,.sl .nil 0 [],.sl .full 1 xs]):=by kernel_rfl
theorem AWY (s:ByteArray) (xs:List (List AV)):KU Tryz.prog 121 [(0,.str s),(2,.sl .full 2 xs)]=some (.agg [.str s,.int .i64 0,.sl .full 2 xs,.sl .nil 0 []]):=by kernel_rfl
theorem AYY (h:Hp):FH Tryz.prog false h 54 3 [(0,.agg rL),(1,.agg rSt),(2,.agg rBa)]=some (.sl .full 4 [rL,rSt,rBa],h):=by kernel_rfl
theorem AYX (h:Hp):FH Tryz.prog false h 54 2 [(0,.agg rX),(1,.agg rY)]=some (.sl .full 4 [rX,rY],h):=by kernel_rfl
theorem AZC (s:ByteArray) (xs:List (List AV)):KU Tryz.prog 56 [(0,.str s),(1,.agg rE),(2,.sl .full 4 xs)]=some (.agg (.str s :: (rE ++ [.sl .full 4 xs]))):=by kernel_rfl
theorem AY4 (h:Hp):FH Tryz.prog false h 22 2 [(0,.agg rP),(1,.agg rQ)]=some (.sl .full 6 [rP,rQ],h):=by kernel_rfl
theorem AWV (h:Hp) (a b:Int):FH Tryz.prog false h 57 2 [(0,.int .i64 a),(1,.int .i64 b)]=some (.sl .full 1 [[.int .i64 a],[.int .i64 b]],h):=by kernel_rfl
theorem AZA (xs:List (List AV)):KU Tryz.prog 71 [(0,.str ⟨#[99]⟩),(1,.sl .full 1 xs)]=some (.agg [.str ⟨#[99]⟩,.sl .full 1 xs,.sl .nil 0 []]):=by kernel_rfl
theorem AY2 (h:Hp):FH Tryz.prog false h 23 1 [(0,.agg rC)]=some (.sl .full 3 [rC],h):=by kernel_rfl
theorem AZD:KU Tryz.prog 25 [(0,.sl .full 6 [rP,rQ]),(1,.sl .full 3 [rC])]=some (.agg rM):=by kernel_rfl
theorem AP1 {H:Hp} {b:Nat} {row:List AV} (hb:H[b]? = some (.live 4 [row])) (hr:row.length=4):DZ Tryz.prog H 121 (.ptr b 0 0)=some (.agg row):=by
 rw [IY TN PD hb rfl (by rw [hr]; exact Nat.le_refl 4),List.drop_zero,List.take_of_length_le (by omega)]
theorem A0E {H:Hp} {b:Nat} {row:List AV} (hb:H[b]? = some (.live 4 [row])) (hr:row.length=4):DZ Tryz.prog H 53 (.ptr b 0 0)=some (.agg row):=by
 rw [IY AAY WB hb rfl (by rw [hr]; exact Nat.le_refl 4),List.drop_zero,List.take_of_length_le (by omega)]
structure Se6 (h H:Hp) (b1 b2 b3 b4 b5 b6:Nat):Prop where
 g0:H[h.length]? = some (.live 2 [[.sl .nil 0 [],.sl .nil 0 []]])
 g1:H[b1]? = some (.live 4 [rE])
 g2:H[b2]? = some (.live 4 [rL])
 g3:H[b3]? = some (.live 4 [rSt])
 g4:H[b4]? = some (.live 4 [rBa])
 g5:H[b5]? = some (.live 4 [rX])
 g6:H[b6]? = some (.live 4 [rY])
 hx:ext h H
theorem Se6.mk' (h:Hp):Se6 h (h ++ [ABlk.live 2 [[.sl .nil 0 [],.sl .nil 0 []]]] ++ [ABlk.live 4 [rE]] ++ [ABlk.live 4 [rL]] ++ [ABlk.live 4 [rSt]] ++ [ABlk.live 4 [rBa]] ++ [ABlk.live 4 [rX]] ++ [ABlk.live 4 [rY]])
  (h ++ [ABlk.live 2 [[.sl .nil 0 [],.sl .nil 0 []]]]).length (h ++ [ABlk.live 2 [[.sl .nil 0 [],.sl .nil 0 []]]] ++ [ABlk.live 4 [rE]]).length (h ++ [ABlk.live 2 [[.sl .nil 0 [],.sl .nil 0 []]]] ++ [ABlk.live 4 [rE]] ++ [ABlk.live 4 [rL]]).length
  (h ++ [ABlk.live 2 [[.sl .nil 0 [],.sl .nil 0 []]]] ++ [ABlk.live 4 [rE]] ++ [ABlk.live 4 [rL]] ++ [ABlk.live 4 [rSt]]).length (h ++ [ABlk.live 2 [[.sl .nil 0 [],.sl .nil 0 []]]] ++ [ABlk.live 4 [rE]] ++ [ABlk.live 4 [rL]] ++ [ABlk.live 4 [rSt]] ++ [ABlk.live 4 [rBa]]).length
  (h ++ [ABlk.live 2 [[.sl .nil 0 [],.sl .nil 0 []]]] ++ [ABlk.live 4 [rE]] ++ [ABlk.live 4 [rL]] ++ [ABlk.live 4 [rSt]] ++ [ABlk.live 4 [rBa]] ++ [ABlk.live 4 [rX]]).length :=
 ⟨CX (CX (CX (CX (CX (CX (CY _ _)))))),CX (CX (CX (CX (CX (CY _ _))))),CX (CX (CX (CX (CY _ _)))),CX (CX (CX (CY _ _))),CX (CX (CY _ _)),CX (CY _ _),CY _ _,((((((ext.rfl' h).app _).app _).app _).app _).app _).app _ |>.app _⟩
section
variable (G:Nat→AV)
set_option maxHeartbeats 2000000 in
theorem AHI (h:Hp):PCall (En G) 95 [] h (.agg (EN eM)):=by
 refine PCall.res (r := .agg rM) ?_ AXY
 refine ACalls.pure 3 (R:=fun v H=>v = .agg rM∧ext h H) ?_ (fun v h' ⟨e,x⟩=>⟨x,by subst e; rfl⟩)
 refine CB (H:=Hint.none) (enM G) Tryz.func95 rfl (by kernel_rfl) (by kernel_rfl) (nLb (by kernel_rfl)) ?_
 show awp _ _ _ _ _ (EE _ [.cell 0 25] _)
 have E:=Se6.mk' h
 have s2 : ∀ h':Hp,FM Tryz.prog (h' ++ [.live 4 [[.str ⟨#[]⟩,.int .i64 0,.sl .nil 0 [],.sl .nil 0 []]]]) 121 (.ptr h'.length 0 0) (.agg [.str ⟨#[115,116,101,112]⟩,.int .i64 0,.sl .nil 0 [],.sl .full 1 [[.sl .full 2 [[.int .i64 0,.int .i64 0]]],[.sl .full 2 [[.int .i64 1,.int .i64 1]]]]])=some (h' ++ [.live 4 [rSt]]):=fun h'=>AXK h' _ rfl
 have r1:rowB ⟨#[108,111,119]⟩ 0 0 1=rL:=rfl
 have r2:rowB ⟨#[98,97,100]⟩ 2 3 3=rBa:=rfl
 have r3:rowB ⟨#[120]⟩ 0 0 0=rX:=rfl
 have r4:rowB ⟨#[121]⟩ 0 1 9=rY:=rfl
 simp -implicitDefEqProofs only [FT,F6,BC,BA,A8,AY,BB,AO,AQ,AL,BD,AX,AC,E8,AA,A7,AU,BH,IP,GG,JE,ES,BV,EP,CE,AB,DW,↓reduceIte,Nat.reduceEqDiff,oGs,bNf,enP,Option.getD_none,AZL,AY9,A0Y,AXM _ [.int .i64 0,.int .i64 0,.str ⟨#[]⟩,.sl .nil 0 []] rfl,AVE,AVD,AY8,AWY,AWX,AY7,AUJ,AU5 _ _ _ _ _ [.str ⟨#[]⟩,.int .i64 0,.sl .nil 0 [],.sl .nil 0 []] rfl,s2,r1,r2,r3,r4]
 generalize h ++ [ABlk.live 2 [[.sl .nil 0 [],.sl .nil 0 []]]] ++ [ABlk.live 4 [rE]] ++ [ABlk.live 4 [rL]] ++ [ABlk.live 4 [rSt]] ++ [ABlk.live 4 [rBa]] ++ [ABlk.live 4 [rX]] ++ [ABlk.live 4 [rY]]=H at E ⊢
 generalize (h ++ [ABlk.live 2 [[.sl .nil 0 [],.sl .nil 0 []]]] ++ [ABlk.live 4 [rE]] ++ [ABlk.live 4 [rL]] ++ [ABlk.live 4 [rSt]] ++ [ABlk.live 4 [rBa]] ++ [ABlk.live 4 [rX]]).length=b6 at E ⊢
 generalize (h ++ [ABlk.live 2 [[.sl .nil 0 [],.sl .nil 0 []]]] ++ [ABlk.live 4 [rE]] ++ [ABlk.live 4 [rL]] ++ [ABlk.live 4 [rSt]] ++ [ABlk.live 4 [rBa]]).length=b5 at E ⊢
 generalize (h ++ [ABlk.live 2 [[.sl .nil 0 [],.sl .nil 0 []]]] ++ [ABlk.live 4 [rE]] ++ [ABlk.live 4 [rL]] ++ [ABlk.live 4 [rSt]]).length=b4 at E ⊢
 generalize (h ++ [ABlk.live 2 [[.sl .nil 0 [],.sl .nil 0 []]]] ++ [ABlk.live 4 [rE]] ++ [ABlk.live 4 [rL]]).length=b3 at E ⊢
 generalize (h ++ [ABlk.live 2 [[.sl .nil 0 [],.sl .nil 0 []]]] ++ [ABlk.live 4 [rE]]).length=b2 at E ⊢
 generalize (h ++ [ABlk.live 2 [[.sl .nil 0 [],.sl .nil 0 []]]]).length=b1 at E ⊢
 have p1:AV.str ⟨#[112]⟩ :: (rE ++ [.sl .full 4 [rL,rSt,rBa]])=rP:=rfl
 have p2:AV.str ⟨#[113]⟩ :: (rE ++ [.sl .full 4 [rX,rY]])=rQ:=rfl
 have c1 : [AV.str ⟨#[99]⟩,.sl .full 1 [[.int .i64 0],[.int .i64 1]],.sl .nil 0 []]=rC:=rfl
 have hst:FM Tryz.prog H 25 (.ptr h.length 0 0) (.agg rM)=some (H.set h.length (.live 2 [rM])):=by
  rw [MX (v := .agg rM) (cs:=rM) (row := [.sl .nil 0 [],.sl .nil 0 []]) rfl AO3 E.g0 (Nat.le_refl 2)]; rfl
 simp -implicitDefEqProofs only [FT,F6,BL,A8,AY,BB,AO,AQ,AL,BD,AX,AC,E8,AA,A7,AU,BH,IP,JE,ES,BV,EP,CE,AB,DW,↓reduceIte,Nat.reduceEqDiff,oGs,bNf,enP,Option.getD_none,A0E E.g1 rfl,AP1 E.g2 rfl,AP1 E.g3 rfl,AP1 E.g4 rfl,AP1 E.g5 rfl,AP1 E.g6 rfl,AYY,AYX,AZC,p1,p2,AY4,AWV,AZA,c1,AY2,AZD,hst]
 rw [AQQ (b:=h.length) (by simp -implicitDefEqProofs only [AA,↓reduceIte,Nat.reduceEqDiff]) (x := .agg rM) (by rw [IY AW6 AO3 (EI E.g0) rfl (Nat.le_refl 2)]; rfl)]
 exact ⟨rfl,E.hx.set (Nat.le_refl _) _⟩
end
def sgA (v:Int):Ss:=⟨.full,[(⟨#[97]⟩,v)]⟩
theorem AYI:Frz RY:=fun _ _ _ _=>⟨rfl,rfl⟩
theorem AZG (s:ByteArray) (v:Int):KU Tryz.prog 187 [(0,.str s),(1,.int .i64 v)]=some (.agg [.str s,.int .i64 v]):=by kernel_rfl
theorem AWT (h:Hp) (s:ByteArray) (v:Int):FH Tryz.prog false h 58 1 [(0,.agg [.str s,.int .i64 v])]=some (.sl .full 2 [[.str s,.int .i64 v]],h):=by kernel_rfl
theorem AWS (h:Hp) (xs:List (List AV)):FH Tryz.prog false h 64 1 [(0,.sl .full 2 xs)]=some (.sl .full 1 [[.sl .full 2 xs]],h):=by kernel_rfl
section
variable (G:Nat→AV)
theorem ABE (xs:List Int) (s:SM) (h:Hp) (hn:xs.length≤1048576):PCall (En G) 96 [.sl s 1 (xs.map encI)] h (.sl (nm (xs.map sgA)) 1 ((xs.map sgA).map RY)):=by
 refine RQ AYI ?_
 refine CB (H:=Hint.none) (enM G) Tryz.func96 rfl (by kernel_rfl) (by kernel_rfl) (nLb (by kernel_rfl)) ?_
 show awp _ _ _ _ _ (EE _ [.tmp 2] _)
 simp -implicitDefEqProofs only [BC,BQ,BA,A8,AY,BB,AO,AQ,AL,BD,AX,AC,AU,BH,JD,AZ,oGs,bNf,enP]
 refine DR (fun n F H => ∃ k u,n+k=xs.length∧F 0 = .sl s 1 (xs.map encI)∧F 3=u∧F 4 = .int .i64 (k:Nat)∧ext h H∧outG 1 RY h ((xs.take k).map sgA) u H) xs.length
  ⟨0,.sl .nil 0 [],by simp,by simp -implicitDefEqProofs only [AA,BF,↓reduceIte,Nat.reduceEqDiff],by simp -implicitDefEqProofs only [AA,↓reduceIte,Nat.reduceEqDiff],by simp -implicitDefEqProofs only [AA,↓reduceIte] <;> rfl,ext.rfl' _,outG.nil _ _ _ _⟩ ?_
 rintro n F H ⟨k,u,hk,f0,f3,f4,hx,ho⟩
 simp -implicitDefEqProofs only [BC,BA,BI,A8,AY,BB,AO,AQ,AL,BD,AX,AC,AA,A7,BG,BR,D6,AB,DF,↓reduceIte,Nat.reduceEqDiff,oGs,bNf,enP,JB,f0,f4,lLm]
 refine CW (fun hc => ?_) (fun hc => ?_)
 ·have hk':k < xs.length:=by simpa using hc
  obtain ⟨u',H3,ha,ho2,_,hx2,_,_⟩:=ho.append (P:=Tryz.prog) AZ5 AXH AZ3 A0Q (by omega) (by simp <;> omega) hx (sgA xs[k])
  have ha':GU Tryz.prog true H 64 64 u (.sl .full 1 [[.sl .full 2 [[.str ⟨#[97]⟩,.int .i64 xs[k]]]]])=some (u',H3):=ha
  have e:(xs.take k).map sgA ++ [sgA xs[k]]=(xs.take (k+1)).map sgA:=by rw [List.take_succ_eq_append_getElem hk',List.map_append]; rfl
  rw [e] at ho2
  simp -implicitDefEqProofs only [FT,F6,BC,BQ,BA,BO,A8,EF,ER,AY,BB,AO,AQ,AL,BD,AX,AC,AA,A7,AU,BH,IP,BG,AZ,JE,ES,BV,BR,CG,IJ,CE,AB,DI,↓reduceIte,Nat.reduceEqDiff,oGs,bNf,enP,JH,f0,f3,f4,D5 hk',DT ag3 hk',TD,AZG,AWT,AWS,ha',wrap_succ (show k < 9223372036854775807 by omega)]
  exact ⟨n - 1,by omega,k+1,u',by omega,by first | trivial | exact f0,by first | trivial | rfl,by first | trivial | rfl,hx2,ho2⟩
 ·have hk' : ¬ k < xs.length:=by simpa using hc
  rw [List.take_of_length_le (by omega)] at ho
  simp -implicitDefEqProofs only [BC,BA,BL,DL,A8,EC,EY,EW,CJ,AY,BB,AO,AQ,AL,BD,AX,AC,AA,A7,BG,AZ,↓reduceIte,Nat.reduceEqDiff,oGs,bNf,f3]
  exact ⟨hx,ho⟩
end
theorem eM_ok:MoOk eM:=⟨by decide,by decide,fun p hp=>by
 simp only [eM,List.mem_cons,List.not_mem_nil,or_false] at hp
 rcases hp with rfl | rfl
 ·exact ⟨by decide +kernel,by decide,by decide,fun b hb=>by
  simp only [eP,List.mem_cons,List.not_mem_nil,or_false] at hb
  rcases hb with rfl | rfl | rfl <;> exact ⟨by decide,by decide,by decide,by decide⟩⟩
 ·exact ⟨by decide +kernel,by decide,by decide,fun b hb=>by
  simp only [eQ,List.mem_cons,List.not_mem_nil,or_false] at hb
  rcases hb with rfl | rfl <;> exact ⟨by decide,by decide,by decide,by decide⟩⟩,fun c hc=>by
 simp only [eM,List.mem_singleton] at hc
 subst hc
 exact ⟨by decide,by decide,by decide,fun x hx=>by cases hx⟩⟩
theorem AYK:PtOk eP:=eM_ok.pts eP (by simp [eM])
def e46L:List Ss:=([0,1,3,1]:List Int).map sgA
def AIO:Cvr:=⟨.any,[⟨.any,[3,1,0]⟩,⟨.any,[1,3]⟩],.any,[⟨.any,[1,2,0,1,0,0]⟩],4,1⟩
theorem AYN:AJP eM (e46L.map Ss.l)=0:=by kernel_rfl
theorem AYL:ASS eM (e46L.map Ss.l)=AIO:=by kernel_rfl
theorem AYM:ptE eP [0] [(⟨#[97]⟩,1)]=⟨[0,1],[0,1],false,0⟩:=by kernel_rfl
def zM:Mo:=⟨.full,[⟨⟨#[]⟩,.mk 0 0 ⟨#[]⟩ .nil [],.nil,[]⟩],.nil,[]⟩
theorem AZ4:GN zM=7:=by kernel_rfl
theorem AXB:MoOk zM:=⟨by decide,by decide,fun p hp=>by
 simp only [zM,List.mem_singleton] at hp
 subst hp
 exact ⟨by decide +kernel,by decide,by decide,fun b hb=>by cases hb⟩,fun c hc=>by cases hc⟩
def AR6:List AV := [.str ⟨#[]⟩,.int .i64 0,.int .i64 0,.str ⟨#[]⟩,.sl .nil 0 [],.sl .nil 0 []]
theorem AZB:KU Tryz.prog 56 []=some (.agg AR6):=by kernel_rfl
theorem AY3 (h:Hp):FH Tryz.prog false h 22 1 [(0,.agg AR6)]=some (.sl .full 6 [AR6],h):=by kernel_rfl
theorem AXC:CvRL [.agg [.sl .full 6 [AR6],.sl .nil 0 []]] [.agg (EN zM)]:=CvRL.cons (CvR.agg (CvRL.cons (CvR.sl (cv1 (CvRow.cons rfl (Cv.refl _) (CvRow.cons rfl (Cv.refl _) (CvRow.cons rfl (Cv.refl _) (CvRow.cons rfl (Cv.refl _) (CvRow.cons rfl (Cv.nil 0 4) (CvRow.cons rfl (Cv.nil 0 4) CvRow.nil)))))))) (CvRL.cons (CvR.sl (Cv.nil 0 3)) CvRL.nil))) CvRL.nil
theorem AWU (h:Hp) (a b c d:Int):FH Tryz.prog false h 57 4 [(0,.int .i64 a),(1,.int .i64 b),(2,.int .i64 c),(3,.int .i64 d)]=some (.sl .full 1 [[.int .i64 a],[.int .i64 b],[.int .i64 c],[.int .i64 d]],h):=by kernel_rfl
theorem A0F:ADE Tryz.prog 25 (.agg (EN eM)) 0=some (.sl .full 6 [FX eP,FX eQ]):=by kernel_rfl
theorem AXZ:ptV ⟨[0,1],[0,1],false,0⟩ = .tup [.sl .any 1 [[.int .i64 0],[.int .i64 1]],.sl .any 1 [[.int .i64 0],[.int .i64 1]],.bool false,.int .i64 0]:=rfl
section
variable (G:Nat→AV)
set_option maxHeartbeats 4000000 in
theorem AGQ (hG:GOk G) (hT:Q5 G) (h:Hp):PCall (En G) 42 [] h (.bool true):=by
 refine ACalls.pure0 rfl ?_
 refine CB (H:=Hint.none) (enM G) Tryz.func42 rfl (by kernel_rfl) (by kernel_rfl) (nLb (by kernel_rfl)) ?_
 show awp _ _ _ _ _ (EE _ [.tmp 0] _)
 simp -implicitDefEqProofs only [BC,BA,A8,AY,BB,AO,AQ,AL,BD,AX,AC,AU,BX,BM,AZ,BZ,BU,lMn,lAn,oGs,bNf,enP]
 refine (AHI G h).use ?_
 simp -implicitDefEqProofs only [FT,F6,AY,AO,AQ,AL,BD,AX,AC,AA,A7,AU,BX,BH,ES,BZ,BU,CE,lMc,lMn,lAn,↓reduceIte,oGs,bNf,enP,AWU]
 refine (show PCall (En G) 96 [.sl .full 1 [[.int .i64 0],[.int .i64 1],[.int .i64 3],[.int .i64 1]]] h (.sl .any 1 (e46L.map RY)) from ABE G [0,1,3,1] .full h (by decide)).use ?_
 simp -implicitDefEqProofs only [AY,AO,AQ,AL,BD,AX,AC,AA,A7,BX,BZ,BU,lMc,lMn,lAn,↓reduceIte,Nat.reduceEqDiff,oGs,bNf]
 have hR:=ARY G hG hT eM eM_ok e46L .any h (by decide) (by decide)
 rw [AYL,AYN] at hR
 refine hR.use ?_
 simp -implicitDefEqProofs only [List.getElem?_cons_zero,List.getElem?_cons_succ,BC,A8,AY,BB,AO,AQ,AL,BD,AX,AC,E8,AA,A7,BG,AZ,GG,EP,FW,IB,CE,AB,DW,↓reduceIte,Nat.reduceEqDiff,oGs,bNf,enP,Option.getD_none,SB,AVW]
 have g:=CY h (ABlk.live 4 [FZ AIO])
 have hx:=(ext.rfl' h).app [ABlk.live 4 [FZ AIO]]
 generalize h ++ [ABlk.live 4 [FZ AIO]]=H at g hx ⊢
 refine FD (by kernel_rfl) ?_
 simp -implicitDefEqProofs only [F9,EH,DX,EM,AR7,GV,GI,AO,AA,A7,BX,AR9,lMn,lAn,↓reduceIte,Nat.reduceAdd,oGs,enP]
 refine ⟨_,AHI G H,?_⟩
 have i0:JR 6 H (.sl .full 6 [FX eP,FX eQ]) (.int .i64 0)=some (.fptr 6 [FX eP,FX eQ] 0 0):=rfl
 have d0:DZ Tryz.prog H 56 (.fptr 6 [FX eP,FX eQ] 0 0)=some (.agg (FX eP)):=FO (f:=FX) (xs := [eP,eQ]) (n:=0) AC8 YX JC (by decide)
 simp -implicitDefEqProofs only [F9,FT,F6,EH,DX,EM,LH,FQ,ED,GV,GI,AO,AA,A7,AU,BX,BH,ES,BV,CG,CE,AB,lMc,lMn,lAn,↓reduceIte,Nat.reduceAdd,oGs,enP,PY,AYF,A0F,i0,d0,AGL]
 refine ⟨_,(show PCall (En G) 96 [.sl .full 1 [[.int .i64 1]]] H (.sl .any 1 [RY (sgA 1)]) from ABE G [1] .full H (by decide)),?_⟩
 have i1:JR 1 H (.sl .any 1 [RY (sgA 1)]) (.int .i64 0)=some (.fptr 1 [RY (sgA 1)] 0 0):=rfl
 have d1:DZ Tryz.prog H 58 (.fptr 1 [RY (sgA 1)] 0 0)=some (.sl .full 2 [GH (⟨#[97]⟩,1)]):=QH (row:=RY (sgA 1)) AWZ rfl rfl
 simp -implicitDefEqProofs only [F9,EH,DX,EM,FP,FQ,NM,GV,GI,AO,AA,A7,BX,BV,FW,AB,lMc,lMn,lAn,↓reduceIte,Nat.reduceEqDiff,Nat.reduceAdd,oGs,enP,i1,d1]
 have hP:PCall (En G) 43 [.agg (FX eP),.sl .full 1 [[.int .i64 0]],.sl .full 2 [GH (⟨#[97]⟩,1)]] H (ptV (ptE eP [0] [(⟨#[97]⟩,1)])):=XC G hG eP AYK [0] .full [(⟨#[97]⟩,1)] .full H (by decide) (by decide)
 rw [AYM,AXZ] at hP
 refine ⟨_,hP,?_⟩
 have l0:DZ Tryz.prog H 26 (.ptr h.length 0 0)=some (.sl .any 1 [[.sl .any 1 [[.int .i64 3],[.int .i64 1],[.int .i64 0]]],[.sl .any 1 [[.int .i64 1],[.int .i64 3]]]]):=by rw [DJ NZ g (row:=FZ AIO) rfl]; rfl
 have l1:DZ Tryz.prog H 26 (.ptr h.length 0 1)=some (.sl .any 1 [[.sl .any 1 [[.int .i64 1],[.int .i64 2],[.int .i64 0],[.int .i64 1],[.int .i64 0],[.int .i64 0]]]]):=by rw [DJ NZ g (row:=FZ AIO) rfl]; rfl
 have l2:DZ Tryz.prog H 3 (.ptr h.length 0 2)=some (.int .i64 4):=by rw [DJ ag3 g (row:=FZ AIO) rfl]; rfl
 have l3:DZ Tryz.prog H 3 (.ptr h.length 0 3)=some (.int .i64 1):=by rw [DJ ag3 g (row:=FZ AIO) rfl]; rfl
 have j0 : ∀ (xs:List (List AV)) (x:List AV),JR 1 H (.sl .any 1 (x :: xs)) (.int .i64 0)=some (.fptr 1 (x :: xs) 0 0):=fun xs x=>AEJ (i:=0) (by decide) (by simp <;> omega)
 have j1 : ∀ (xs:List (List AV)) (x y:List AV),JR 1 H (.sl .any 1 (x :: y :: xs)) (.int .i64 1)=some (.fptr 1 (x :: y :: xs) 1 0):=fun xs x y=>AEJ (i:=1) (by decide) (by simp <;> omega)
 have j2 : ∀ (xs:List (List AV)) (x y z:List AV),JR 1 H (.sl .any 1 (x :: y :: z :: xs)) (.int .i64 2)=some (.fptr 1 (x :: y :: z :: xs) 2 0):=fun xs x y z=>AEJ (i:=2) (by decide) (by simp <;> omega)
 have j3 : ∀ (xs:List (List AV)) (x y z w:List AV),JR 1 H (.sl .any 1 (x :: y :: z :: w :: xs)) (.int .i64 3)=some (.fptr 1 (x :: y :: z :: w :: xs) 3 0):=fun xs x y z w=>AEJ (i:=3) (by decide) (by simp <;> omega)
 have m0 : ∀ (xs:List (List AV)) (v:AV),DZ Tryz.prog H 57 (.fptr 1 ([v] :: xs) 0 0)=some v:=fun xs v=>QH (row := [v]) LD rfl rfl
 have n0 : ∀ (xs:List (List AV)) (v:AV),DZ Tryz.prog H 3 (.fptr 1 ([v] :: xs) 0 0)=some v:=fun xs v=>QH (row := [v]) ag3 rfl rfl
 have n1 : ∀ (xs:List (List AV)) (x:List AV) (v:AV),DZ Tryz.prog H 3 (.fptr 1 (x :: [v] :: xs) 1 0)=some v:=fun xs x v=>QH (row := [v]) ag3 rfl rfl
 have n2 : ∀ (xs:List (List AV)) (x y:List AV) (v:AV),DZ Tryz.prog H 3 (.fptr 1 (x :: y :: [v] :: xs) 2 0)=some v:=fun xs x y v=>QH (row := [v]) ag3 rfl rfl
 have n3 : ∀ (xs:List (List AV)) (x y z:List AV) (v:AV),DZ Tryz.prog H 3 (.fptr 1 (x :: y :: z :: [v] :: xs) 3 0)=some v:=fun xs x y z v=>QH (row := [v]) ag3 rfl rfl
 have z7:((7:Int) == 7)=true:=rfl
 have c2:(((2:Nat):Int) == 2)=true:=rfl
 have c1:(((1:Nat):Int) == 1)=true:=rfl
 have c3:(((3:Nat):Int) == 3)=true:=rfl
 have c6:(((6:Nat):Int) == 6)=true:=rfl
 simp -implicitDefEqProofs only [F9,List.getElem?_cons_zero,List.getElem?_cons_succ,FT,F6,EH,DX,FC,EM,J8,NM,BC,BA,BO,BI,A8,DU,AY,BB,BJ,BP,CO,FY,EK,AO,AQ,AL,BD,AX,AC,AA,A7,AU,BX,BH,BM,BG,CQ,DN,DK,JE,ES,BV,BR,G6,BK,CG,FW,IB,D6,BZ,BU,CE,AB,DY,EJ,EX,lMc,lMn,lAn,↓reduceIte,Nat.reduceEqDiff,Nat.reduceAdd,Nat.add_zero,Nat.zero_add,oGs,bNt,bNf,enP,NH,TA,L9,L8,WV,WU,JH,JB,bne,beq_self_eq_true,l0,l1,l2,l3,j0,j1,j2,j3,m0,n0,n1,n2,n3,List.length_cons,List.length_nil,c1,c2,c3,c6,AZB,AY3,AZE]
 have hV:=(QG G hG zM AXB H).args AXC
 rw [AZ4] at hV
 refine hV.use ?_
 simp -implicitDefEqProofs only [BL,A8,CJ,AY,BB,BJ,BP,CO,FY,AO,AQ,AL,BD,AX,AC,AA,A7,AU,BH,BM,AZ,CQ,DN,BR,AB,DY,↓reduceIte,Nat.reduceEqDiff,oGs,bNf,enP,z7]
 exact ⟨by first | trivial | rfl,hx⟩
end
theorem AQD (xs:List Nat) (k:Nat):Rk.hasB (xs.map fun n:Nat=>(n:Int)) (k:Nat)=decide (k∈xs):=by
 unfold Rk.hasB
 rw [Bool.eq_iff_iff,List.any_eq_true,decide_eq_true_iff]
 constructor
 ·rintro ⟨x,hx,he⟩
  obtain ⟨n,hn,rfl⟩:=List.mem_map.1 hx
  have:=eq_of_beq he
  have:n=k:=by omega
  subst this; exact hn
 ·intro hk
  exact ⟨_,List.mem_map.2 ⟨k,hk,rfl⟩,by simp⟩
theorem getD_at (xs:List Int) (k:Nat) (hk:k < xs.length):xs.getD k 0=xs[k]:=by rw [List.getD_eq_getElem?_getD,List.getElem?_eq_getElem hk]; rfl
theorem AFL (xs:List Int) (b k:Nat) (hb:b < xs.length):(raiseAt xs b).getD k 0=if b=k then rz (xs.getD b 0) else xs.getD k 0:=by
 unfold raiseAt
 rw [List.getD_eq_getElem?_getD,List.getElem?_set]
 split
 ·rfl
 ·rw [List.getD_eq_getElem?_getD]
theorem U7 (k:Nat) : ∀ (hit:List Nat) (xs:List Int),hit.Nodup→(∀ x∈hit,x < xs.length)→(rowP hit xs).getD k 0=if k∈hit then rz (xs.getD k 0) else xs.getD k 0
 | [],xs,_,_=>by simp [rowP]
 | b :: hit,xs,hn,hl=>by
   obtain ⟨h1,h2⟩:=List.nodup_cons.1 hn
   have hb:=hl b (by simp)
   have ih:=U7 k hit (raiseAt xs b) h2 (fun x hx=>by rw [QV]; exact hl x (by simp [hx]))
   have e:rowP (b :: hit) xs=rowP hit (raiseAt xs b):=rfl
   rw [e,ih,AFL xs b k hb]
   by_cases hk:k∈hit
   ·have hne:b≠k:=fun q=>h1 (by rw [q]; exact hk)
    rw [if_pos hk,if_neg hne,if_pos (by simp [hk])]
   ·rw [if_neg hk]
    by_cases hbk:b=k
    ·subst hbk
     rw [if_pos rfl,if_pos (by simp)]
    ·rw [if_neg hbk,if_neg (by simp [hk]; exact fun q=>hbk q.symm)]
theorem AAC (bins:List Bin) (last:List Int) (v kind:Int) : ∀ k,(MM bins last v kind k).Nodup
 | 0=>by simp [MM]
 | k+1=>by
   have ih:=AAC bins last v kind k
   simp only [MM]
   split
   ·refine List.nodup_append.2 ⟨ih,by simp,fun a ha c hc e => ?_⟩
    simp at hc
    have:=AB8 bins last v kind k a ha
    omega
   ·simpa using ih
theorem Y5 (p:Pt) (last:List Int) (l:List Sg):(ptE p last l).hit.Nodup:=by
 unfold ptE
 split
 ·simp
 ·split
  ·simp
  ·split
   ·simp
   ·split
    ·simp
    ·exact AAC _ _ _ _ _
theorem AB9 (bins:List Bin) (last:List Int) (v:Int) : ∀ k,∀ x∈MM bins last v 0 k,∃ b,bins[x]? = some b∧(b.kind == 0)=true
 | 0,x,hx=>by simp [MM] at hx
 | k+1,x,hx=>by
   simp only [MM] at hx
   rcases List.mem_append.1 hx with h | h
   ·exact AB9 bins last v k x h
   ·split at h
    ·rename_i hq
     simp at h; subst h
     cases hb:bins[x]? with
     | none=>rw [hb] at hq; cases hq
     | some b =>
       rw [hb] at hq
       have hK1:hK last v 0 b=true:=hq
       unfold hK at hK1
       rw [Bool.and_eq_true] at hK1
       exact ⟨b,rfl,hK1.1⟩
    ·cases h
theorem APK (p:Pt) (last:List Int) (l:List Sg) : ∀ x∈(ptE p last l).hit,(kindOf p x == 0)=true:=by
 intro x hx
 unfold ptE at hx
 split at hx
 ·cases hx
 ·split at hx
  ·cases hx
  ·split at hx
   ·cases hx
   ·split at hx
    ·cases hx
    ·obtain ⟨b,h1,h2⟩:=AB9 _ _ _ _ x hx
     unfold kindOf; rw [h1]; exact h2
theorem UE {p:Nat→Bool} : ∀ {l:List Int} {k:Nat},RJ p k l=true↔∀ j,j < l.length→countB (l.getD j 0) (p (k+j))=true
 | [],k=>by simp [RJ]
 | n :: l,k=>by
   simp only [RJ,Bool.and_eq_true]
   rw [UE (l:=l) (k:=k+1)]
   constructor
   ·rintro ⟨h1,h2⟩ j hj
    cases j with
    | zero=>exact h1
    | succ j =>
      have:=h2 j (by simpa using hj)
      rw [show k+(j+1)=k+1+j by omega]; exact this
   ·intro h
    refine ⟨h 0 (by simp),fun j hj => ?_⟩
    have:=h (j+1) (by simpa using hj)
    rw [show k+(j+1)=k+1+j by omega] at this; exact this
theorem AE1 {n:Int} {p:Bool} (h:countB n p=true) (hp:p=true):countB (rz n) p=true:=by
 have h1:=V6 h
 subst hp
 unfold countB
 simp only [Bool.true_or,Bool.and_true]
 rw [NQ] at *
 unfold rz; omega
theorem APR {p:Pt} {last:List Int} {env:List Sg} {x y:Is} (hx:okP p x=true) (hy:y.l=rowP (ptE p last env).hit x.l):okP p y=true:=by
 unfold okP at *
 simp only [Bool.and_eq_true,beq_iff_eq] at *
 rw [hy,PE]
 refine ⟨hx.1,UE.2 fun j hj => ?_⟩
 rw [PE] at hj
 have h2:=UE.1 hx.2 j hj
 rw [U7 j _ _ (Y5 _ _ _) (fun z hz=>by rw [hx.1]; exact AFM _ _ _ z hz)]
 split
 ·rename_i hm
  exact AE1 h2 (by rw [Nat.zero_add]; exact APK _ _ _ j hm)
 ·exact h2
theorem AD9 (m:Mo) (x:Cr) (hits:List (List Nat)) (xs:List Int) (k:Nat) (hk:k < xs.length):(rowC m x hits xs).getD k 0=if crK m x hits k=true then rz (xs.getD k 0) else xs.getD k 0:=by
 have hl:k < (rowC m x hits xs).length:=by rw [PG]; exact hk
 rw [getD_at _ _ hl,ABU m x hits xs k hk hl,getD_at _ _ hk]
theorem APS {m:Mo} {c:Cr} {hits:List (List Nat)} {x y:Is} (hx:okC m c x=true) (hy:y.l=rowC m c hits x.l):okC m c y=true:=by
 unfold okC at *
 simp only [Bool.and_eq_true,beq_iff_eq] at *
 rw [hy,PG]
 refine ⟨hx.1,UE.2 fun j hj => ?_⟩
 rw [PG] at hj
 have h2:=UE.1 hx.2 j hj
 rw [AD9 m c hits _ j hj]
 split
 ·rename_i hm
  unfold crK at hm
  rw [Bool.and_eq_true] at hm
  exact AE1 h2 (by rw [Nat.zero_add]; exact hm.1)
 ·exact h2
theorem AF2 {α:Type} {ok:α→Is→Bool} : ∀ {ws:List α} {xs:List Is},ws.length=xs.length→(∀ (i:Nat) (a:α) (x:Is),ws[i]? = some a→xs[i]? = some x→ok a x=true)→J7 ok ws xs=true
 | [],[],_,_=>rfl
 | w :: ws,x :: xs,hl,h=>by
   simp only [J7,Bool.and_eq_true]
   exact ⟨h 0 w x rfl rfl,AF2 (by simpa using hl) fun i a y h1 h2=>h (i+1) a y (by simpa using h1) (by simpa using h2)⟩
 | [],_ :: _,hl,_=>by simp at hl
 | _ :: _,[],hl,_=>by simp at hl
def stO (c:Cvr) (t:Tk):St:=⟨c.pts.map Is.l,c.crs.map Is.l,c.sam,c.ill,t.last.map Is.l⟩
def isL (P:List (List Int)):List Is:=P.map fun x=>⟨nm x,x⟩
def tkS (s:St):Tk:=⟨nm (isL s.ls),isL s.ls⟩
structure FitS (m:Mo) (s:St):Prop where
 me:GN m=0
 fp:J7 okP m.pts (P5 s.P)=true
 fc:J7 (okC m) m.crs (P5 s.C)=true
 ws:IR s.sam=true
 wi:IR s.ill=true
 ll:s.ls.length=m.pts.length
 lb : ∀ l∈s.ls,lastB l=true
theorem ALX {p:Pt} {x y:Is} (h:x.l=y.l):okP p x=okP p y:=by unfold okP; rw [h]
theorem ALY {m:Mo} {c:Cr} {x y:Is} (h:x.l=y.l):okC m c x=okC m c y:=by unfold okC; rw [h]
theorem YM (P:List (List Int)):(P5 P).map (·.l)=P:=by unfold P5; rw [List.map_map]; exact List.map_id _
theorem X6 {m:Mo} {c:Cvr} {t:Tk} (hc:KY m c=true) (ht:ADK m t=true):FitS m (stO c t):=by
 obtain ⟨h1,h2,h3,h4,h5⟩:=VE.1 hc
 unfold ADK at ht
 simp only [Bool.and_eq_true,beq_iff_eq] at ht
 obtain ⟨⟨_,k1⟩,k2⟩:=ht
 refine ⟨h1,?_,?_,h4,h5,?_,fun l hl => ?_⟩
 ·rw [← h2]
  exact UO (ok:=okP) (fun _ _ _ h=>ALX h) _ _ _ (YM _)
 ·rw [← h3]
  exact UO (ok:=okC m) (fun _ _ _ h=>ALY h) _ _ _ (YM _)
 ·show (t.last.map Is.l).length=_
  rw [lLm]; omega
 ·obtain ⟨x,hx,rfl⟩:=List.mem_map.1 hl
  exact List.all_eq_true.1 k2 x hx
theorem FitS.fits {m:Mo} {s:St} (h:FitS m s):KY m (cvS s)=true:=VE.2 ⟨h.me,h.fp,h.fc,h.ws,h.wi⟩
theorem RX {α:Type} {ok:α→Is→Bool} {ws:List α} {xs:List Is} (h:J7 ok ws xs=true) (i:Nat) (a:α) (x:Is) (h1:ws[i]? = some a) (h2:xs[i]? = some x):ok a x=true:=by
 obtain ⟨y,hy,hk⟩:=AIG h i a h1
 rw [h2] at hy; cases hy; exact hk
theorem FitS.ok {m:Mo} {s:St} (h:FitS m s):StOk m s:=by
 have lp:=OC h.fp
 have lc:=OC h.fc
 have hpl:s.P.length=m.pts.length:=by rw [lp]; simp [P5]
 have hcl:s.C.length=m.crs.length:=by rw [lc]; simp [P5]
 refine ⟨⟨hpl,hcl,fun i a b => ?_,fun i a b => ?_,fun xs hx => ?_,fun xs hx => ?_⟩,h.ll,fun l hl => ?_,NQ.1 h.ws,NQ.1 h.wi⟩
 ·have:=RX h.fp i m.pts[i] ⟨.any,s.P[i]⟩ (List.getElem?_eq_getElem b) (by simp [P5])
  unfold okP at this
  simp only [Bool.and_eq_true,beq_iff_eq] at this
  exact this.1
 ·have:=RX h.fc i m.crs[i] ⟨.any,s.C[i]⟩ (List.getElem?_eq_getElem b) (by simp [P5])
  unfold okC at this
  simp only [Bool.and_eq_true,beq_iff_eq] at this
  exact this.1
 ·obtain ⟨i,hi,rfl⟩:=List.getElem_of_mem hx
  have:=RX h.fp i m.pts[i] ⟨.any,s.P[i]⟩ (List.getElem?_eq_getElem (by omega)) (by simp [P5])
  unfold okP at this
  rw [Bool.and_eq_true] at this
  exact fun n hn=>NQ.1 (UD this.2 n hn)
 ·obtain ⟨i,hi,rfl⟩:=List.getElem_of_mem hx
  have:=RX h.fc i m.crs[i] ⟨.any,s.C[i]⟩ (List.getElem?_eq_getElem (by omega)) (by simp [P5])
  unfold okC at this
  rw [Bool.and_eq_true] at this
  exact fun n hn=>NQ.1 (UD this.2 n hn)
 ·have:=h.lb l hl
  unfold lastB at this
  rw [Bool.and_eq_true] at this
  simpa using this.1
theorem ABD {n:Int} (h:IR n=true):IR (rz n)=true:=by
 rw [NQ] at *
 unfold rz; omega
theorem AWL (l:List Sg) (e:Ex):(evE l e).1 < 65536:=by
 unfold evE
 split
 ·decide
 ·split
  ·exact ALF l e
  ·decide
theorem WN {last:List Int} {v:Nat} (hl:lastB last=true) (hv:v < 65536):lastB (nextL last v)=true:=by
 unfold lastB at *
 simp only [Bool.and_eq_true,decide_eq_true_eq,Bool.not_eq_true'] at *
 obtain ⟨h1,h2⟩:=hl
 refine ⟨?_,?_⟩
 ·unfold nextL; rw [List.length_drop,List.length_append]; simp; omega
 ·rw [List.any_eq_false] at *
  intro x hx
  have hx':=List.mem_of_mem_drop hx
  rcases List.mem_append.1 hx' with h | h
  ·exact h2 x h
  ·simp at h; subst h
   unfold outW
   simp; omega
theorem APJ {p:Pt} {last:List Int} {l:List Sg} (h0:(ptE p last l).err=0):lastB (ptE p last l).next=true:=by
 have hv:=AWL l p.ex
 unfold ptE at *
 split at h0
 ·cases h0
 ·rename_i hn
  have hlb:lastB last=true:=by
   cases hq:lastB last
   ·exact absurd (.inr hq) hn
   ·rfl
  rw [if_neg hn]
  split at h0
  ·rename_i h1
   exact absurd h0 h1
  ·rename_i h1
   rw [if_neg h1]
   split
   ·exact WN hlb hv
   ·split
    ·exact WN hlb hv
    ·exact WN hlb hv
theorem FitS.step {m:Mo} {s:St} (h:FitS m s) {env:List Sg} (h0:VO m s env=0):FitS m (stp m s env):=by
 have hok:=h.ok
 have hr:=RP m s.ls env h.ll
 have hpl:=hok.sh.pl
 have hcl:=hok.sh.cl
 have l1:=RH (NG m s.ls env) s.P (by omega)
 have l2:=UA m ((NG m s.ls env).map PtR.hit) s.C hcl
 refine ⟨h.me,?_,?_,ABD h.ws,?_,by simp [stp,hr],fun l hl => ?_⟩
 ·refine AF2 (by simp [P5,stp,l1]; omega) fun i a x e1 e2 => ?_
  have hi:i < m.pts.length:=CU e1
  rw [List.getElem?_eq_getElem hi] at e1; cases e1
  have hx:x.l=rowP (ptE m.pts[i] (s.ls[i]'(by rw [h.ll]; exact hi)) env).hit (s.P[i]'(by omega)):=by
   unfold P5 at e2
   rw [List.getElem?_map] at e2
   have:(stp m s env).P[i]? = some (rowP ((NG m s.ls env)[i]'(by omega)).hit (s.P[i]'(by omega))):=by
    show (KP (NG m s.ls env) s.P)[i]? = _
    rw [List.getElem?_eq_getElem (by omega),RI _ _ i (by omega) (by omega)]
   rw [this] at e2; cases e2
   rw [XR m s.ls env i hi (by rw [h.ll]; exact hi) (by omega)]
  exact APR (RX h.fp i m.pts[i] ⟨.any,s.P[i]'(by omega)⟩ (List.getElem?_eq_getElem hi) (by simp [P5] <;> omega)) hx
 ·refine AF2 (by simp [P5,stp,l2]; omega) fun i a x e1 e2 => ?_
  have hi:i < m.crs.length:=CU e1
  rw [List.getElem?_eq_getElem hi] at e1; cases e1
  have hx:x.l=rowC m m.crs[i] ((NG m s.ls env).map PtR.hit) (s.C[i]'(by omega)):=by
   unfold P5 at e2
   rw [List.getElem?_map] at e2
   have:(stp m s env).C[i]? = some (rowC m m.crs[i] ((NG m s.ls env).map PtR.hit) (s.C[i]'(by omega))):=by
    show (MJ m ((NG m s.ls env).map PtR.hit) s.C)[i]? = _
    rw [List.getElem?_eq_getElem (by omega),UB _ _ _ i hi (by omega)]
   rw [this] at e2; cases e2
   rfl
  exact APS (RX h.fc i m.crs[i] ⟨.any,s.C[i]'(by omega)⟩ (List.getElem?_eq_getElem hi) (by simp [P5] <;> omega)) hx
 ·unfold stp
  dsimp only
  split
  ·exact ABD h.wi
  ·exact h.wi
 ·obtain ⟨r,hrm,rfl⟩:=List.mem_map.1 hl
  have he:=X0 PtR.err h0 r hrm
  obtain ⟨p,hp,rfl⟩:=List.mem_map.1 hrm
  exact APJ he
theorem AVN {m:Mo} (h:GN m=0):FitS m (zS m):=by
 refine ⟨h,?_,?_,by show IR 0=true; decide,by show IR 0=true; decide,(AUX m).ll,fun l hl => ?_⟩
 ·rw [show J7 okP m.pts (P5 (zS m).P)=J7 okP m.pts (m.pts.map fun p=>zIs p.bins.length) from UO (ok:=okP) (fun _ _ _ h=>ALX h) _ _ _ (by rw [YM]; simp [zS,zP,zIs])]
  exact ACG (ok:=okP) _ (fun p=>by unfold okP; simp [zIs,Y3]; simp [zeros]) _
 ·rw [show J7 (okC m) m.crs (P5 (zS m).C)=J7 (okC m) m.crs (m.crs.map fun c=>zIs (IC (szs m c.pts))) from UO (ok:=okC m) (fun _ _ _ h=>ALY h) _ _ _ (by rw [YM]; simp [zS,zC,zIs])]
  exact ACG (ok:=okC m) _ (fun c=>by unfold okC; simp [zIs,Y3]; simp [zeros]) _
 ·rw [List.eq_of_mem_replicate hl]; decide
structure Sx (h H:Hp) (m:Mo) (c:Cvr) (t:Tk) (vb tb b8 b9 n0 K ob nb po co:Nat) (pb cbs:List Nat) (P C:List (List Int)) (sam ill:Int) (w:AV):Prop where
 gm:H[h.length]? = some (.live 2 [EN m])
 gv:H[vb]? = some (.live 4 [FZ c])
 gt:H[tb]? = some (.live 1 [IM t])
 g8:H[b8]? = some (.live 4 [F5])
 g9:H[b9]? = some (.live 1 [F8])
 o1:h.length < vb
 o2:vb < tb
 o3:tb < b8
 o4:b8 < b9
 o5:b9 < n0
 cs:CS n0 H ob nb po co pb cbs P C sam ill w
 lo:n0≤ob
 ln:n0≤nb
 ho:ob < K
 hn:nb < K
 hp : ∀ b∈pb,b < K
 hc : ∀ b∈cbs,b < K
 hpo:P≠[]→po < K
 hco:C≠[]→co < K
 kh:K≤H.length
 hx:ext h H
section
variable {h H:Hp} {m:Mo} {c:Cvr} {t:Tk} {vb tb b8 b9 n0 K ob nb po co:Nat} {pb cbs:List Nat} {P C:List (List Int)} {sam ill:Int} {w:AV} (S:Sx h H m c t vb tb b8 b9 n0 K ob nb po co pb cbs P C sam ill w)
include S
theorem Sx.keep {H':Hp} (hk : ∀ (b:Nat) (x:ABlk),b < K→H[b]? = some x→H'[b]? = some x) (hl:K≤H'.length) (hx:Sm.ext h H'):Sx h H' m c t vb tb b8 b9 n0 K ob nb po co pb cbs P C sam ill w:=by
 have o1:=S.o1; have o2:=S.o2; have o3:=S.o3; have o4:=S.o4; have o5:=S.o5; have lo:=S.lo; have ho:=S.ho
 have cs:=S.cs
 refine ⟨hk _ _ (by omega) S.gm,hk _ _ (by omega) S.gv,hk _ _ (by omega) S.gt,hk _ _ (by omega) S.g8,hk _ _ (by omega) S.g9,o1,o2,o3,o4,o5,
  ⟨hk _ _ S.ho cs.gc,hk _ _ S.hn cs.gt,cs.np.keep fun b x hb hg => ?_,cs.nc.keep fun b x hb hg => ?_,cs.dis,cs.xcp,cs.xcc,cs.xtp,cs.xtc,cs.xpo,cs.xco,cs.ct⟩,S.lo,S.ln,S.ho,S.hn,S.hp,S.hc,S.hpo,S.hco,hl,hx⟩
 ·rcases hb with ⟨hP,rfl⟩ | hb
  ·exact hk _ _ (S.hpo hP) hg
  ·exact hk _ _ (S.hp _ hb) hg
 ·rcases hb with ⟨hC,rfl⟩ | hb
  ·exact hk _ _ (S.hco hC) hg
  ·exact hk _ _ (S.hc _ hb) hg
theorem Sx.app (x:Hp):Sx h (H ++ x) m c t vb tb b8 b9 n0 K ob nb po co pb cbs P C sam ill w:=S.keep (fun _ _ _ hg=>FU hg) (by have:=S.kh; simp; omega) (S.hx.app x)
theorem Sx.setP {i:Nat} (hi:i < pb.length) (ys:List Int) (hl : ∀ hx:i < P.length,ys.length=P[i].length):Sx h (H.set pb[i] (.live 1 (ys.map encI))) m c t vb tb b8 b9 n0 K ob nb po co pb cbs (P.set i ys) C sam ill w:=by
 have o1:=S.o1; have o2:=S.o2; have o3:=S.o3; have o4:=S.o4; have o5:=S.o5
 have hb:=S.cs.np.lo _ (List.getElem_mem hi)
 exact ⟨CV S.gm (by omega),CV S.gv (by omega),CV S.gt (by omega),CV S.g8 (by omega),CV S.g9 (by omega),o1,o2,o3,o4,o5,S.cs.setP hi ys hl,S.lo,S.ln,S.ho,S.hn,S.hp,S.hc,fun q=>S.hpo (fun e=>q (by rw [e]; rfl)),S.hco,by rw [List.length_set]; exact S.kh,S.hx.set (by omega) _⟩
theorem Sx.setC {i:Nat} (hi:i < cbs.length) (ys:List Int) (hl : ∀ hx:i < C.length,ys.length=C[i].length):Sx h (H.set cbs[i] (.live 1 (ys.map encI))) m c t vb tb b8 b9 n0 K ob nb po co pb cbs P (C.set i ys) sam ill w:=by
 have o1:=S.o1; have o2:=S.o2; have o3:=S.o3; have o4:=S.o4; have o5:=S.o5
 have hb:=S.cs.nc.lo _ (List.getElem_mem hi)
 exact ⟨CV S.gm (by omega),CV S.gv (by omega),CV S.gt (by omega),CV S.g8 (by omega),CV S.g9 (by omega),o1,o2,o3,o4,o5,S.cs.setC hi ys hl,S.lo,S.ln,S.ho,S.hn,S.hp,S.hc,S.hpo,fun q=>S.hco (fun e=>q (by rw [e]; rfl)),by rw [List.length_set]; exact S.kh,S.hx.set (by omega) _⟩
theorem Sx.setT (w':AV):Sx h (H.set nb (.live 1 [[w']])) m c t vb tb b8 b9 n0 K ob nb po co pb cbs P C sam ill w':=by
 have o1:=S.o1; have o2:=S.o2; have o3:=S.o3; have o4:=S.o4; have o5:=S.o5; have ln:=S.ln
 exact ⟨CV S.gm (by omega),CV S.gv (by omega),CV S.gt (by omega),CV S.g8 (by omega),CV S.g9 (by omega),o1,o2,o3,o4,o5,S.cs.setT w',S.lo,S.ln,S.ho,S.hn,S.hp,S.hc,S.hpo,S.hco,by rw [List.length_set]; exact S.kh,S.hx.set (by omega) _⟩
theorem Sx.setN (sam' ill':Int):Sx h (H.set ob (.live 4 [cvR po P co C sam' ill'])) m c t vb tb b8 b9 n0 K ob nb po co pb cbs P C sam' ill' w:=by
 have o1:=S.o1; have o2:=S.o2; have o3:=S.o3; have o4:=S.o4; have o5:=S.o5; have lo:=S.lo
 exact ⟨CV S.gm (by omega),CV S.gv (by omega),CV S.gt (by omega),CV S.g8 (by omega),CV S.g9 (by omega),o1,o2,o3,o4,o5,S.cs.setN sam' ill',S.lo,S.ln,S.ho,S.hn,S.hp,S.hc,S.hpo,S.hco,by rw [List.length_set]; exact S.kh,S.hx.set (by omega) _⟩
theorem Sx.m0:DZ Tryz.prog H 22 (.ptr h.length 0 0)=some (.sl m.pm 6 (m.pts.map FX)):=by rw [DJ TS S.gm (row:=EN m) rfl,OO]
theorem Sx.m1:DZ Tryz.prog H 23 (.ptr h.length 0 1)=some (.sl m.cm 3 (m.crs.map F7)):=by rw [DJ AC9 S.gm (row:=EN m) rfl,UR]
theorem Sx.v0:DZ Tryz.prog H 26 (.ptr vb 0 0)=some (.sl c.pm 1 (c.pts.map encL)):=by rw [DJ NZ S.gv (row:=FZ c) rfl,AIL]
theorem Sx.v1:DZ Tryz.prog H 26 (.ptr vb 0 1)=some (.sl c.cm 1 (c.crs.map encL)):=by rw [DJ NZ S.gv (row:=FZ c) rfl,AET]
theorem Sx.v2:DZ Tryz.prog H 3 (.ptr vb 0 2)=some (.int .i64 c.sam):=by rw [DJ ag3 S.gv (row:=FZ c) rfl,AMJ]
theorem Sx.v3:DZ Tryz.prog H 3 (.ptr vb 0 3)=some (.int .i64 c.ill):=by rw [DJ ag3 S.gv (row:=FZ c) rfl,AMI]
theorem Sx.t0:DZ Tryz.prog H 26 (.ptr tb 0 0)=some (.sl t.m 1 (t.last.map encL)):=by rw [DJ NZ S.gt (row:=IM t) rfl,AIM]
theorem Sx.rowP {i:Nat} (hi:i < P.length) (hip:i < pb.length):DZ Tryz.prog H 26 (.ptr ob 0 0)=some (nlV po P)∧JR 1 H (nlV po P) (.int .i64 (i:Nat))=some (.ptr po i 0)∧DZ Tryz.prog H 57 (.ptr po i 0)=some (.own pb[i] 0 P[i].length)∧H[pb[i]]? = some (.live 1 (P[i].map encI)) :=
 ⟨S.cs.l0,S.cs.np.ix hi,S.cs.np.ld hi,S.cs.np.row i hip hi⟩
theorem Sx.rowC {i:Nat} (hi:i < C.length) (hip:i < cbs.length):DZ Tryz.prog H 26 (.ptr ob 0 1)=some (nlV co C)∧JR 1 H (nlV co C) (.int .i64 (i:Nat))=some (.ptr co i 0)∧DZ Tryz.prog H 57 (.ptr co i 0)=some (.own cbs[i] 0 C[i].length)∧H[cbs[i]]? = some (.live 1 (C[i].map encI)) :=
 ⟨S.cs.l1,S.cs.nc.ix hi,S.cs.nc.ld hi,S.cs.nc.row i hip hi⟩
end
theorem AP6 {H:Hp} {b:Nat} {xs:List Int} (hb:H[b]? = some (.live 1 (xs.map encI))) {k:Nat} (hk:k < xs.length):JR 1 H (.own b 0 xs.length) (.int .i64 (k:Nat))=some (.ptr b k 0):=by
 have:=LM (kk := .i64) (off:=0) (len:=xs.length) hb hk
 rw [Nat.zero_add] at this; exact this
theorem AO7 {H:Hp} {b:Nat} {xs:List Int} (hb:H[b]? = some (.live 1 (xs.map encI))) {k:Nat} (hk:k < xs.length) (v:Int):FM Tryz.prog H 3 (.ptr b k 0) (.int .i64 v)=some (H.set b (.live 1 ((xs.set k v).map encI))):=by
 rw [KI (PQ _ _) sz3 hb (MB hk) (by simp [encI]),List.map_set]
 rfl
def OT (m:Mo) (c:Cvr) (t:Tk) (env:List Sg):Int:=if GN m=0 then (if (KY m c && ADK m t)=true then VO m (stO c t) env else 1) else GN m
def AAR (m:Mo) (c:Cvr) (t:Tk) (env:List Sg):Cvr:=if OT m c t env=0 then cvS (stp m (stO c t) env) else zV
def AFJ (m:Mo) (c:Cvr) (t:Tk) (env:List Sg):Tk:=if OT m c t env=0 then tkS (stp m (stO c t) env) else zT
def tkW (s:St):List AV := [fzG 1 J5 s.ls]
theorem AVR (s:St):CvR (.agg (tkW s)) (.agg (IM (tkS s))):=by
 refine CvR.agg (CvRL.cons ?_ CvRL.nil)
 have h1:CvR (fzG 1 J5 s.ls) (.sl (nm s.ls) 1 (s.ls.map J5)):=ACA
 have e:(isL s.ls).map encL=s.ls.map J5:=by unfold isL; rw [List.map_map]; rfl
 have e2:nm (isL s.ls)=nm s.ls:=by unfold isL; cases s.ls <;> rfl
 show CvR (fzG 1 J5 s.ls) (.sl (nm (isL s.ls)) 1 ((isL s.ls).map encL))
 rw [e,e2]; exact h1
def AFI (m:Mo) (c:Cvr) (t:Tk) (env:List Sg):AV:=if OT m c t env=0 then .tup [.agg (cvW (stp m (stO c t) env)),.agg (tkW (stp m (stO c t) env)),.int .i64 0] else .tup [.agg F5,.agg F8,.int .i64 (OT m c t env)]
theorem ASJ (m:Mo) (c:Cvr) (t:Tk) (env:List Sg):CvR (AFI m c t env) (.tup [.agg (FZ (AAR m c t env)),.agg (IM (AFJ m c t env)),.int .i64 (OT m c t env)]):=by
 unfold AFI AAR AFJ
 split
 ·rename_i h
  rw [h]
  exact CvR.tup (CvRL.cons (AKM _) (CvRL.cons (AVR _) (CvRL.refl _)))
 ·exact AQM _
end Go.Proofs.YtocilianjfhifaaGreatDoor.Xe
