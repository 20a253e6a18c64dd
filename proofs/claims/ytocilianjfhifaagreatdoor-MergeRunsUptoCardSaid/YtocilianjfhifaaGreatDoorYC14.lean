/- Part 14 of the proof (X12, X13, X14, X15, X16, X19, X20); no condition. -/
import Derived.Test.YtocilianjfhifaaGreatDoorYC13
set_option linter.unusedVariables false
set_option linter.unusedSimpArgs false
set_option maxRecDepth 8000
namespace Go.Proofs.YtocilianjfhifaaGreatDoor.Xe
open Sm Bins Cov Wd Go.RowKit
open Bool renaming not_false→jC,not_true→jT,and_eq_true→jV,true_and→wC,true_or→wE,or_false→jQ,or_true→qZ
open List renaming map_cons→jD,map_nil→jE,append_nil→jF,getElem?_cons_zero→zB,getElem?_cons_succ→zG,length_map→jI,getElem_mem→jS,drop_eq_getElem_cons→zJ,drop_eq_nil_of_le→jW,mem_append→qE,take_succ_eq_append_getElem→zL,contains_cons→jR,contains_nil→jJ,take_zero→zN,length_take→zD,length_set→qI,take_of_length_le→jX,length_append→qB,mem_map→zO,replicate→jZ,getElem?_eq_getElem→jU,getD_eq_getElem?_getD→zQ,all_eq_true→zI,getElem_of_mem→qX,getElem?_map→zH
open Nat renaming le_of_ble_eq_true→jH,reduceEqDiff→jA,zero_add→jG,add_zero→jL,le_trans→zZ,reduceBEq→jO,le_refl→jM,reduceAdd→jK
open Option renaming getD_some→jB,getD_none→jP
theorem ARY (last:List Int)(lm:SM)(h:Hp)(hl:last.length<=1048576):∃u h',H7 Tryz.prog true h 57 57 (.sl .nil 0 []) (.sl lm 1 (last.map encI))=some (u,h')∧ANH 1 (last.map encI) h u h':=by
 cases hx:last with
 | nil=>exact⟨_,_,(by kernel_rfl),.inl ⟨rfl,⟨0,rfl⟩,rfl⟩⟩
 | cons y ys =>
   have hne:last.map encI≠[]:=by rw[hx]; simp
   rw[<-hx];exact⟨_,_,VA TN sz3 XG VN (KO _ lm 1 (last.map encI)) hne (JW (by simp; omega) (by omega)),.inr (.inr ⟨hne,rfl,rfl⟩)⟩
theorem A0Q (p:Pt)(last:List Int)(l:List Sg)(h1:GZ p=0)(h2:lastB last=true)(h3:(evE l p.ex).2=0) :
  ptE p last l=⟨if(inK p.bins 2 (evE l p.ex).1||inK p.bins 1 (evE l p.ex).1)=true then [] else ZC p last (evE l p.ex).1 0,nextL last (evE l p.ex).1,inK p.bins 2 (evE l p.ex).1,0⟩:=by
 unfold ptE;rw[if_neg (by rw[h1,h2]; simp),if_neg (by simpa using h3)];cases h4:inK p.bins 2 (evE l p.ex).1
 .cases h5:inK p.bins 1 (evE l p.ex).1
  .rfl
  .rfl
 .rfl
section
variable (G:Nat->AV)
set_option maxHeartbeats 2000000 in
theorem AR7 (p:Pt)(hp:PtOk p)(last:List Int)(lm:SM)(l:List Sg)(m:SM)(h:Hp)(hll:last.length<=1048576)(hl:l.length<=1099511627776)(hok:∀s∈l,ACI s) :
  PCall (En G) 44 [.agg (GM p),.sl lm 1 (last.map encI),.sl m 2 (l.map G7)] h (ptV (ptE p last l)):=by
 refine PCall.res (r:=ptW (ptE p last l)) ?_ (AS9 _);refine ACalls.pure (R:=fun v H=>ext h H∧IV h.length H 4 v=ptW (ptE p last l)) 4 ?_ (fun v H ⟨a,b⟩=>⟨a,b⟩);have hnum:=hp.num;refine acN Tryz.func44 rfl ?_;show awp _ _ _ _ _ (EN _ [.tmp 6,.tmp 7,.tmp 8,.tmp 9] _);have gp:=CY h (ABlk.live 6 [GM p]);have hx:ext h (h++[ABlk.live 6 [GM p]]):=(ext.rfl' h).app _;simp -implicitDefEqProofs only[BC,BA,A8,AY,BB,AO,AQ,AL,BD,AX,AC,AA,AZ,AU,BH,BM,IK,A7,FU,BQ,BZ,BF,↓reduceIte,jA,jB,jC,enP,bxP]
 generalize h++[ABlk.live 6 [GM p]]=H1 at gp hx|-
 simp -implicitDefEqProofs only[AY,AO,AQ,AL,BD,AX,AC,AA,AZ,BX,CB,BU,AB,jD,jE,jF,↓reduceIte,jB,jC,ldP gp];refine(AF6 G p hp H1).use ?_;simp -implicitDefEqProofs only[AY,BL,BV,CO,AO,AQ,AL,BD,AX,AC,AA,AZ,AU,BH,BG,BR,AB,EK,↓reduceIte,jB,jC,enP];cases h1:(GZ p==0)
 .have hne:GZ p≠0:=by simpa using h1
  simp -implicitDefEqProofs only[BC,BA,BK,BI,A8,CP,QJ,DI,AY,BB,BL,BV,CO,F7,AO,AQ,AL,BD,AX,AC,AA,EX,AZ,AU,BH,BM,IK,A7,CQ,DY,↓reduceIte,jA,jB,jC,bne,h1];exact⟨hx,by unfold ptE; rw[if_pos (.inl hne)]; rfl⟩
 have hp0:GZ p=0:=by simpa using h1
 simp -implicitDefEqProofs only[BL,BV,CO,ES,AO,AQ,AL,BD,AX,AC,AA,AZ,BX,BG,CB,BU,BF,BN,jD,jE,jF,↓reduceIte,jA,jB,jT,jC,bne,h1];refine(AF9 G last lm H1 (by omega)).use ?_;simp -implicitDefEqProofs only[BI,A8,AY,BB,BL,BV,CO,ES,AO,AQ,AL,BD,AX,AC,AA,AZ,AU,BM,CQ,DX,IE,AB,FK,↓reduceIte,jA,jB,jC];cases h2:lastB last
 .simp -implicitDefEqProofs only[BC,BA,BK,A8,CP,QJ,DI,AY,BB,AO,AQ,AL,BD,AX,AC,AA,AU,BH,BM,IK,A7,↓reduceIte,jA,jB,jC]
  exact⟨hx,by unfold ptE; rw[if_pos (.inr h2)]; rfl⟩
 have h7:last.length<=7:=by
  unfold lastB at h2;rw[jV] at h2;simpa using h2.1
 simp -implicitDefEqProofs only[BC,BA,BO,A8,DT,AY,AO,AQ,AL,BD,AX,AC,AA,AZ,BX,BG,BQ,BJ,CB,BU,AB,BF,BN,jD,jE,jF,↓reduceIte,jA,jG,jB,jT,jC,enP,AH7,AHR gp];refine(AV9 G l m p.ex H1 hl hok hp.ex).use ?_;cases h3:((evE l p.ex).2==0)
 .have hne:(evE l p.ex).2≠0:=by simpa using h3
  unfold evV;simp -implicitDefEqProofs only[zB,zG,BC,BA,BK,BI,A8,CP,QJ,DI,AY,BB,AO,AQ,AL,BD,AX,AC,AA,AZ,AU,BH,BM,IK,BG,A7,BR,FI,GU,AB,EK,↓reduceIte,jA,jB,jC,enP,bne,h3];exact⟨hx,by unfold ptE; rw[if_neg (by rw[hp0,h2]; simp),if_pos hne]; rfl⟩
 have he0:(evE l p.ex).2=0:=by simpa using h3
 rw[A0Q p last l hp0 h2 he0];unfold evV;simp -implicitDefEqProofs only[zB,zG,BC,BA,BO,BI,A8,DT,AY,BB,AO,AQ,AL,BD,AX,AC,AA,AZ,AU,BH,BG,A7,BQ,BR,FI,GU,AB,EK,↓reduceIte,jA,jB,jT,jC,enP,bne,h3];generalize (evE l p.ex).1=v;clear h3 he0;have l5:∀H:Hp,ext H1 H->EH Tryz.prog H 54 (.ptr h.length 0 5)=some (.sl p.bm 4 (p.bins.map GV)):=fun H hH=>by rw[DW SG (FP hH gp) (row:=GM p) rfl,NS]
 simp -implicitDefEqProofs only[AY,AO,AQ,AL,BD,AX,AC,AA,AZ,AU,BX,BH,BG,CB,BU,AB,jD,jE,jF,↓reduceIte,jA,jB,jC,ldP gp];refine(AT4 G p hp 2 (v:Nat) H1).use ?_;simp -implicitDefEqProofs only[BC,BP,BA,A8,AY,BB,AO,AQ,AL,BD,AX,AC,AA,AZ,AU,BH,IK,A7,↓reduceIte,jB,jC];refine GN 0 (fun F H=>∃u,F 1=.sl lm 1 (last.map encI)∧F 10=.int .i64 (v:Nat)∧F 12=.bool (inK p.bins 2 (v:Nat))∧F 13=u∧ext H1 H∧outG 1 IG H1 (if(inK p.bins 2 (v:Nat)||inK p.bins 1 (v:Nat))=true then [] else ZC p last (v:Nat) 0) u H) (fun _ _=>False) ?_ ?_ (fun _ _ hh=>hh.elim)
 .refine DK (fun n F H=>∃k u,n+k=p.bins.length∧F 1=.sl lm 1 (last.map encI)∧F 3=.ptr h.length 0 0∧F 10=.int .i64 (v:Nat)∧F 12=.bool (inK p.bins 2 (v:Nat))∧F 13=u∧F 14=.int .i64 (k:Nat)∧ext H1 H∧outG 1 IG H1 (if(inK p.bins 2 (v:Nat)||inK p.bins 1 (v:Nat))=true then [] else NM p.bins last (v:Nat) 0 k) u H) p.bins.length
   ⟨0,.sl .nil 0 [],by simp,by simp -implicitDefEqProofs only[AA,BF,BN,↓reduceIte,jA],by simp -implicitDefEqProofs only[AA,↓reduceIte,jA],by simp -implicitDefEqProofs only[AA,↓reduceIte,jA],by simp -implicitDefEqProofs only[AA,↓reduceIte,jA],by simp -implicitDefEqProofs only[AA,↓reduceIte,jA],by simp -implicitDefEqProofs only[AA,↓reduceIte]<;>rfl,ext.rfl' _,by split<;>exact outG.nil _ _ _ _⟩ ?_
  rintro n F H ⟨k,u,hk,f1,f3,f10,f12,f13,f14,hxH,ho⟩;simp -implicitDefEqProofs only[BC,BA,AY,BL,BV,CO,AO,AQ,AL,BD,AX,AC,AA,AZ,BG,BQ,BR,BJ,D7,AB,DC,↓reduceIte,jA,jG,jB,jC,enP,RQ,JB,f3,f14,l5 H hxH,jI];cases hc:decide (((k:Nat):Int)<((p.bins.length:Nat):Int))
  .have hk':k=p.bins.length:=by
    have:¬k<p.bins.length:=by simpa using hc
    omega
   subst hk';simp -implicitDefEqProofs only[DJ,BI,A8,EI,J3,ET,DT,AY,BB,BL,BV,CO,IX,AO,AQ,AL,BD,AX,AC,AA,EX,AZ,AU,BM,BG,CQ,DX,↓reduceIte,jA,jB,jC];exact⟨u,by trivial,by trivial,by trivial,by trivial,hxH,ho⟩
  have hk':k<p.bins.length:=by simpa using hc
  simp -implicitDefEqProofs only[AY,BL,BV,CO,F9,AO,AQ,AL,BD,AX,AC,AA,AZ,AU,BM,BG,CQ,DY,IE,AB,FK,↓reduceIte,jA,jB,jC,f12];cases h4:inK p.bins 2 (v:Nat)
  .rw[h4] at ho f12
   have gpH:=FP hxH gp;simp -implicitDefEqProofs only[Bool.false_or,BL,BV,CO,F9,AO,AQ,AL,BD,AX,AC,AA,AZ,AU,BX,BH,BG,BQ,CB,BU,AB,jD,jE,jF,↓reduceIte,jA,jB,jC,enP,f3,f10,ldP gpH];refine(AT4 G p hp 1 (v:Nat) H).use ?_;simp -implicitDefEqProofs only[BI,A8,AY,BB,BL,BV,CO,F9,AO,AQ,AL,BD,AX,AC,AA,AZ,AU,BM,CQ,DY,IE,AB,FK,↓reduceIte,jA,jB,jC];cases h5:inK p.bins 1 (v:Nat)
   .rw[h5] at ho
    rw[if_neg (by decide)] at ho;have hbok:=hp.bins _ (jS hk');have hlen:=WZ p.bins last (v:Nat) 0 k;have hs:=YG p.bins last (v:Nat) 0 k hk';have lk:EH Tryz.prog H 3 (.fptr 4 (p.bins.map GV) k 1)=some (.int .i64 p.bins[k].kind):=by rw[DF ag3 hk']; rfl
    have hKv:hK last (v:Nat) 0 p.bins[k]=((p.bins[k].kind==0)&&hit p.bins[k] last (v:Nat)):=by unfold hK; simp
    simp -implicitDefEqProofs only[BC,BP,BA,BO,A8,DI,AY,BL,BV,CO,AO,AQ,AL,BD,AX,AC,AA,AZ,AU,BH,BG,BQ,BR,BJ,CE,AB,EC,↓reduceIte,jA,jG,jB,jC,enP,YD,JB,MP,Bool.false_eq_true,f3,f14,l5 H hxH,DU hk',lk];have skip:hK last (v:Nat) 0 p.bins[k]=false->outG 1 IG H1 (NM p.bins last (v:Nat) 0 (k+1)) u H:=fun q=>by rw[hs,q]; simpa using ho
    cases hq:(p.bins[k].kind==0)
    .rw[hq,Bool.false_and] at hKv
     simp -implicitDefEqProofs only[BA,BO,BI,A8,EJ,EQ,DT,AY,BB,BL,BV,CO,IX,AO,AQ,AL,BD,AX,AC,AA,EX,AZ,AU,BH,BM,BG,A7,CQ,DX,BR,AB,CZ,↓reduceIte,jA,jB,jC,enP,f14,wrap_succ (show k<9223372036854775807 by omega)];exact⟨n-1,by omega,k+1,u,by omega,by trivial,by trivial,by trivial,by trivial,by trivial,by trivial,hxH,by exact skip hKv⟩
    .rw[hq,wC] at hKv
     simp -implicitDefEqProofs only[BL,BV,CO,F9,AO,AQ,AL,BD,AX,AC,AA,AZ,BX,BG,BQ,BJ,CE,CB,BU,AB,jD,jE,jF,↓reduceIte,jA,jG,jB,jC,enP,YD,JB,f1,f3,f10,f14,l5 H hxH,DU hk',FM VF QK MJ hk'];refine(AX1 G p.bins[k] hbok last lm (v:Nat) H (by omega)).use ?_;simp -implicitDefEqProofs only[BI,A8,AY,BB,AO,AQ,AL,BD,AX,AC,AA,AZ,AU,BM,CQ,DY,↓reduceIte,jA,jB,jC];cases hv:hit p.bins[k] last (v:Nat)
     .rw[hv] at hKv
      simp -implicitDefEqProofs only[BA,BO,A8,EJ,EQ,DT,AY,BB,AO,AQ,AL,BD,AX,AC,AA,AZ,AU,BH,BG,A7,BR,AB,CZ,↓reduceIte,jA,jB,jC,enP,f14,wrap_succ (show k<9223372036854775807 by omega)];exact⟨n-1,by omega,k+1,u,by omega,by trivial,by trivial,by trivial,by trivial,by trivial,by trivial,hxH,by exact skip hKv⟩
     .rw[hv] at hKv
      rw[hKv,if_pos rfl] at hs;obtain⟨u',H3,ha,ho2,_,hx2,_,_⟩:=ho.append (P:=Tryz.prog) TN sz3 XG VN (by omega) (by omega) hxH k;have ha':H7 Tryz.prog true H 57 57 u (.sl .full 1 [[.int .i64 ((k:Nat):Int)]])=some (u',H3):=ha;simp -implicitDefEqProofs only[EY,FT,BA,A8,EJ,EQ,DI,AY,BB,AO,AQ,AL,BD,AX,AC,AA,AZ,AU,BH,BG,A7,EP,BR,GR,BZ,AB,CZ,↓reduceIte,jA,jB,jC,enP,f13,f14,ACE,ha',wrap_succ (show k<9223372036854775807 by omega)];exact⟨n-1,by omega,k+1,u',by omega,by trivial,by trivial,by trivial,by trivial,by trivial,by trivial,hx2,by rw[hs]; exact ho2⟩
   .rw[h5] at ho
    simp -implicitDefEqProofs only[DJ,EI,J3,ET,DT,AA,↓reduceIte,jA,jT];exact⟨u,by trivial,by trivial,by trivial,by trivial,hxH,ho⟩
  .rw[h4] at ho f12
   simp -implicitDefEqProofs only[wE,DJ,BI,A8,EI,J3,ET,DT,AY,BB,BL,BV,CO,IX,AO,AQ,AL,BD,AX,AC,AA,EX,AZ,AU,BM,CQ,DX,↓reduceIte,jA,jB,jT,jC];exact⟨u,by trivial,by trivial,by trivial,by trivial,hxH,ho⟩
 .rintro F H ⟨u,f1,f10,f12,f13,hxH,ho⟩
  obtain⟨w,H2,ha,hc⟩:=ARY last lm H hll;obtain⟨o,H3,ha3,ho3,hol,hx3⟩:=AGS (v:Nat) hc hll
  have ho':outG 1 IG H1 (if(inK p.bins 2 (v:Nat)||inK p.bins 1 (v:Nat))=true then [] else ZC p last (v:Nat) 0) u H3:=by
   obtain⟨y,rfl⟩:=hx3;exact ho.app y
  have hxa:=(hx.trans hxH).trans hx3;have hle:=hx.le;have hle2:=hxH.le;have e1:=RV AQ9 ho' h.length 1 hle;have hnl:(last++[((v:Nat):Int)]).drop (last.length+1-7)=nextL last v:=rfl;have hne:=AKB last v;simp -implicitDefEqProofs only[EY,FT,BC,BA,BI,A8,EW,AY,BB,AO,AQ,AL,BD,AX,AC,AA,AZ,AU,BH,IK,BG,A7,EP,BR,D7,GR,BZ,AB,FV,↓reduceIte,jA,jB,jC,enP,JA,f1,ha,f10,ACE,ha3];rcases Classical.em (last.length=7) with e7|e7
  .have hd:decide (((last.length+1:Nat):Int)>7)=true:=decide_eq_true (by omega)
   have hsl:NU Tryz.prog H3 57 (.own o 0 (last.length+1)) (some (.int .i64 1)) none none=some (.own o 1 (last.length+1-1)):=ASY (u:=1) ho3 (by omega)
   have e2:IV h.length H3 3 (.own o 1 (last.length+1-1))=fzG 1 encI (nextL last v):=by
    rw[APH (d:=1) (xs:=last++[((v:Nat):Int)]) AX6 (by omega) ho3 (by simp<;>omega),AH1 hne,<-hnl,show last.length+1-7=1 by omega]
   simp -implicitDefEqProofs only[Option.map_some,Option.map_none,BC,BA,BK,A8,QJ,DI,AY,BB,AO,AQ,AL,BD,AX,AC,AA,AZ,AU,BH,BG,A7,UU,AB,↓reduceIte,jA,jB,jC,enP,hd,hsl,f12,f13];refine⟨hxa,?_⟩;show AV.tup [IV h.length H3 3 u,IV h.length H3 3 (.own o 1 (last.length+1-1)),.bool _,.int .i64 0]=_;rw[e1,e2]; rfl
  .have hd:decide (((last.length+1:Nat):Int)>7)=false:=decide_eq_false (by omega)
   have e2:IV h.length H3 3 (.own o 0 (last.length+1))=fzG 1 encI (nextL last v):=by
    rw[APH (d:=1) (xs:=last++[((v:Nat):Int)]) AX6 (by omega) ho3 (by simp<;>omega),AH1 hne,<-hnl,show last.length+1-7=0 by omega]
   simp -implicitDefEqProofs only[BC,BA,BO,BK,A8,QJ,DT,AY,BB,AO,AQ,AL,BD,AX,AC,AA,AZ,AU,BH,BG,A7,↓reduceIte,jA,jB,jC,hd,f12,f13];refine⟨hxa,?_⟩;show AV.tup [IV h.length H3 3 u,IV h.length H3 3 (.own o 0 (last.length+1)),.bool _,.int .i64 0]=_;rw[e1,e2]; rfl
def AB7 (m:Mo)(t:Tk):Bool:=(EU m==0)&&(((t.last.length:Nat):Int)==((m.pts.length:Nat):Int))&&t.last.all fun x=>lastB x.l
structure TkOk (t:Tk):Prop where
 num:t.last.length<=1048576
 len:∀x∈t.last,x.l.length<=1048576
theorem bxT (h:Hp)(t:Tk):PW h (.agg (KF t))=some (.ptr h.length 0 0,h++[.live 1 [KF t]]):=rfl
theorem AZV (t:Tk):(KF t)[0]?=some (.sl t.m 1 (t.last.map encL)):=rfl
theorem ANZ (m:Mo)(hm:MoOk m)(t:Tk)(ht:TkOk t)(h:Hp):PCall (En G) 71 [.agg (D6 m),.agg (KF t)] h (.bool (AB7 m t)):=by
 refine ACalls.pure0 rfl ?_;have hn:=ht.num;refine acN Tryz.func71 rfl ?_;show awp _ _ _ _ _ (EN _ [.tmp 4] _);have gm:=CV (x:=ABlk.live 1 [KF t]) (CY h (ABlk.live 2 [D6 m]));have gt:=CY (h++[ABlk.live 2 [D6 m]]) (ABlk.live 1 [KF t]);have hx:ext h (h++[ABlk.live 2 [D6 m]]++[ABlk.live 1 [KF t]]):=((ext.rfl' h).app _).app _;simp -implicitDefEqProofs only[BC,BA,A8,AY,BB,AO,AQ,AL,BD,AX,AC,AA,AZ,AU,BM,A7,FU,BQ,BZ,BF,BN,↓reduceIte,jA,jB,jC,enP,bxM,bxT]
 generalize h++[ABlk.live 2 [D6 m]]++[ABlk.live 1 [KF t]]=H at gm gt hx|-
 generalize (h++[ABlk.live 2 [D6 m]]).length=tb at gt|-
 have l0:EH Tryz.prog H 22 (.ptr h.length 0 0)=some (.sl m.pm 6 (m.pts.map GM)):=by rw[DW WN gm (row:=D6 m) rfl,QA]
 have lt0:EH Tryz.prog H 26 (.ptr tb 0 0)=some (.sl t.m 1 (t.last.map encL)):=by rw[DW QX gt (row:=KF t) rfl,AZV]
 simp -implicitDefEqProofs only[AY,AO,AQ,AL,BD,AX,AC,AA,AZ,BX,CB,BU,AB,jD,jE,jF,↓reduceIte,jB,jC,ldM gm];refine(PM G m hm H).use ?_;simp -implicitDefEqProofs only[AY,BL,BV,CO,AO,AQ,AL,BD,AX,AC,AA,AZ,AU,BH,BG,BR,AB,EK,↓reduceIte,jB,jC,enP];unfold AB7;cases h1:(EU m==0)
 .simp -implicitDefEqProofs only[BC,BA,BK,BI,A8,CP,CG,DI,AY,BB,BL,BV,CO,F7,AO,AQ,AL,BD,AX,AC,AA,EX,AZ,AU,BM,A7,CQ,DY,↓reduceIte,jA,jB,jC,bne,h1]
  exact⟨by trivial,hx⟩
 simp -implicitDefEqProofs only[BI,A8,AY,BB,BL,BV,CO,ES,AO,AQ,AL,BD,AX,AC,AA,AZ,AU,BM,CQ,DX,BQ,BR,BJ,D7,AB,EK,↓reduceIte,jA,jL,jB,jT,jC,enP,QS,IR,XI,RZ,bne,h1,l0,lt0,jI];cases h2:(((t.last.length:Nat):Int)==((m.pts.length:Nat):Int))
 .simp -implicitDefEqProofs only[BC,BA,BK,A8,CP,CG,DI,AY,BB,AO,AQ,AL,BD,AX,AC,AA,AU,BM,A7,↓reduceIte,jB,jC]
  exact⟨by trivial,hx⟩
 simp -implicitDefEqProofs only[BC,BP,BA,BO,A8,DT,AY,BB,AO,AQ,AL,BD,AX,AC,AU,BH,A7,jB,jT,jC];refine DK (fun n F H'=>∃k,n+k=t.last.length∧F 3=.ptr tb 0 0∧F 5=.int .i64 (k:Nat)∧H'=H∧(t.last.all fun x=>lastB x.l)=(t.last.drop k).all fun x=>lastB x.l) t.last.length ⟨0,by simp,by simp -implicitDefEqProofs only[AA,↓reduceIte,jA],by simp -implicitDefEqProofs only[AA,↓reduceIte]<;>rfl,rfl,rfl⟩ ?_;rintro n F H' ⟨k,hk,f3,f5,rfl,hin⟩;simp -implicitDefEqProofs only[BC,BA,BI,A8,AY,BB,AO,AQ,AL,BD,AX,AC,AA,AZ,BG,BQ,BR,BJ,D7,AB,DC,↓reduceIte,jA,jL,jB,jC,enP,XI,RZ,f3,f5,lt0,jI];refine CU (fun hc=>?_) (fun hc=>?_)
 .have hk':k<t.last.length:=by simpa using hc
  rw[zJ hk',List.all_cons] at hin;simp -implicitDefEqProofs only[BC,BP,BA,BO,A8,AY,AO,AQ,AL,BD,AX,AC,AA,AZ,BX,BG,BQ,BJ,CE,CB,BU,AB,jD,jE,jF,↓reduceIte,jA,jL,jB,jC,enP,N7,RZ,f3,f5,lt0,DU hk',DF KC hk',NE];refine(AF9 G t.last[k].l t.last[k].m H' (by have:=ht.len _ (jS hk'); omega)).use ?_;simp -implicitDefEqProofs only[BI,A8,AY,BB,AO,AQ,AL,BD,AX,AC,AA,AZ,IE,AB,FK,↓reduceIte,jB,jC];cases hq:lastB t.last[k].l
  .rw[hq,Bool.false_and] at hin
   simp -implicitDefEqProofs only[BC,BA,BK,A8,CP,EG,FQ,CG,DI,AY,BB,AO,AQ,AL,BD,AX,AC,AA,AU,BM,A7,↓reduceIte,jB,jC];exact⟨by rw[hin]; rfl,hx⟩
  .rw[hq,wC] at hin
   simp -implicitDefEqProofs only[BA,BO,A8,EJ,EQ,DT,AY,BB,AO,AQ,AL,BD,AX,AC,AA,AZ,AU,BH,BG,A7,BR,AB,CZ,↓reduceIte,jA,jB,jT,jC,enP,f5,wrap_succ (show k<9223372036854775807 by omega)];exact⟨n-1,by omega,k+1,by omega,by trivial,by trivial,trivial,hin⟩
 .have hk':¬k<t.last.length:=by simpa using hc
  rw[jW (by omega)] at hin;simp -implicitDefEqProofs only[BC,BA,BK,DJ,A8,EI,EW,ET,CG,AY,BB,AO,AQ,AL,BD,AX,AC,AA,AU,BM,A7,↓reduceIte,jB,jC];exact⟨by rw[hin]; rfl,hx⟩
end
def NLB (o:Nat)(bs:List Nat)(xss:List (List Int))(b:Nat):Prop:=(xss≠[]∧b=o)∨b∈bs
theorem NL.lt {n0:Nat}{H:Hp}{o:Nat}{bs:List Nat}{xss:List (List Int)}(N:NL n0 H o bs xss){b:Nat}(hb:NLB o bs xss b):n0<=b∧b<H.length:=by
 rcases hb with⟨h,rfl⟩|h
 .exact⟨N.lo' h,N.top_lt h⟩
 .exact⟨N.lo _ h,N.mem_lt h⟩
theorem NL.base {n0 k:Nat}{H:Hp}{o:Nat}{bs:List Nat}{xss:List (List Int)}(N:NL n0 H o bs xss)(h:k<=n0):NL k H o bs xss :=
 ⟨N.len,N.top,N.row,N.nodup,N.out,fun b hb=>zZ h (N.lo b hb),fun q=>zZ h (N.lo' q)⟩
theorem AC1 {o:Nat}{bs:List Nat}{xss:List (List Int)}{q:Nat}(h:isB (nlV o xss) q):NLB o bs xss q:=.inl (ZB h)
theorem AFA {o t b:Nat}{bs:List Nat}{xss:List (List Int)}{xs:List Int}{q:Nat}(h:NLB t (bs++[b]) (xss++[xs]) q):q=t∨NLB o bs xss q∨q=b:=by
 rcases h with⟨_,rfl⟩|h
 .exact .inl rfl
 .rcases qE.1 h with h|h
  .exact .inr (.inl (.inr h))
  .exact .inr (.inr (by simpa using h))
def zP (m:Mo):List (List Int):=m.pts.map fun p=>zeros p.bins.length
def zC (m:Mo):List (List Int):=m.crs.map fun c=>zeros (GL (szs m c.pts))
theorem Z7 (m:Mo):(zP m).length=m.pts.length:=by simp [zP]
theorem Z8 (m:Mo):(zC m).length=m.crs.length:=by simp [zC]
theorem AN8 (m:Mo)(i:Nat)(hi:i<m.pts.length):(zP m).take (i+1)=(zP m).take i++[zeros m.pts[i].bins.length]:=by
 have hl:i<(zP m).length:=by unfold zP; simpa using hi
 rw[zL hl]; simp [zP]
theorem AN9 (m:Mo)(i:Nat)(hi:i<m.crs.length):(zC m).take (i+1)=(zC m).take i++[zeros (GL (szs m m.crs[i].pts))]:=by
 have hl:i<(zC m).length:=by unfold zC; simpa using hi
 rw[zL hl]; simp [zC]
theorem QY (n:Nat):(zeros n).length=n:=by simp [zeros]
structure NC (n0:Nat) (H:Hp) (po:Nat) (pb:List Nat) (co:Nat) (cbs:List Nat) (P C:List (List Int)):Prop where
 np:NL n0 H po pb P
 nc:NL n0 H co cbs C
 dis:∀b,NLB po pb P b->¬NLB co cbs C b
theorem NC.keep {n0:Nat}{H H':Hp}{po:Nat}{pb:List Nat}{co:Nat}{cbs:List Nat}{P C:List (List Int)}(N:NC n0 H po pb co cbs P C)(hk:∀b x,n0<=b->b<H.length->H[b]?=some x->H'[b]?=some x):NC n0 H' po pb co cbs P C :=
 ⟨N.np.keep fun b x hb h=>hk b x (N.np.lt hb).1 (N.np.lt hb).2 h,N.nc.keep fun b x hb h=>hk b x (N.nc.lt hb).1 (N.nc.lt hb).2 h,N.dis⟩
theorem NC.base {n0 k:Nat}{H:Hp}{po:Nat}{pb:List Nat}{co:Nat}{cbs:List Nat}{P C:List (List Int)}(N:NC n0 H po pb co cbs P C)(h:k<=n0):NC k H po pb co cbs P C:=⟨N.np.base h,N.nc.base h,N.dis⟩
theorem NC.cs {n0:Nat}{H:Hp}{po:Nat}{pb:List Nat}{co:Nat}{cbs:List Nat}{P C:List (List Int)}(N:NC n0 H po pb co cbs P C){cb tb:Nat}{sam ill:Int}{v3:AV}(gc:H[cb]?=some (.live 4 [cvR po P co C sam ill]))(gt:H[tb]?=some (.live 1 [[v3]]))(ht:cb≠tb)
  (hc:∀b,NLB po pb P b∨NLB co cbs C b->b≠cb∧b≠tb):CS n0 H cb tb po co pb cbs P C sam ill v3:=by
 refine⟨gc,gt,N.np,N.nc,fun b h1 h2=>N.dis b (.inr h1) (.inr h2),fun h=>(hc _ (.inl (.inr h))).1 rfl,fun h=>(hc _ (.inr (.inr h))).1 rfl,fun h=>(hc _ (.inl (.inr h))).2 rfl,fun h=>(hc _ (.inr (.inr h))).2 rfl,fun h=>⟨fun q=>N.dis _ (.inl ⟨h,rfl⟩) (.inr q),?_,?_⟩,fun h=>⟨fun q=>N.dis _ (.inr q) (.inl ⟨h,rfl⟩),?_,?_⟩,ht⟩
 .exact fun e=>(hc _ (.inl (.inl ⟨h,rfl⟩))).1 e.symm
 .exact fun e=>(hc _ (.inl (.inl ⟨h,rfl⟩))).2 e.symm
 .exact fun e=>(hc _ (.inr (.inl ⟨h,rfl⟩))).1 e.symm
 .exact fun e=>(hc _ (.inr (.inl ⟨h,rfl⟩))).2 e.symm
structure EmO (h H:Hp) (m:Mo) (po:Nat) (pb:List Nat) (co:Nat) (cbs:List Nat) (v3:AV):Prop where
 nc:NC h.length H po pb co cbs (zP m) (zC m)
 o3:outG 1 (fun _:Pt=>F5) h m.pts v3 H
set_option maxHeartbeats 4000000 in
theorem ARN (G:Nat->AV)(m:Mo)(hm:MoOk m)(hg:Cov.Good m)(h:Hp):ACalls (En G) 127 [.agg (D6 m)] h fun v H=>ext h H∧∃po pb co cbs v3,v=.tup [.agg (H9 (nlV po (zP m)) (nlV co (zC m))),.agg [v3]]∧EmO h H m po pb co cbs v3:=by
 have hm1:=hm.np;have hm2:=hm.nc;have hnum:=hg.num;refine LV (H:=hint [22,23,24,45,46,47] []) (enM G) Tryz.func127 rfl (by kernel_rfl) (by kernel_rfl) (jH (by kernel_rfl)) ?_;show awp _ _ _ _ _ (EN _ [.cell 2 28,.cell 3 47] _);have E:=Em.mk' h m;simp -implicitDefEqProofs only[C9,jR,jJ,jO,jQ,BC,BA,A8,AY,BB,AL,BD,AX,AC,AA,AZ,FD,FU,BQ,BJ,BZ,AB,BF,↓reduceIte,jA,jL,jB,jC,enP,IR,DZ,bxM,KE,VO]
 generalize h++[ABlk.live 2 [D6 m]]++[ABlk.live 4 [FC]]++[ABlk.live 1 [F5]]++[ABlk.live 4 [FC]]++[ABlk.live 1 [F5]]=H0 at E|-
 generalize (h++[ABlk.live 2 [D6 m]]++[ABlk.live 4 [FC]]++[ABlk.live 1 [F5]]++[ABlk.live 4 [FC]]).length=b5 at E|-
 generalize (h++[ABlk.live 2 [D6 m]]++[ABlk.live 4 [FC]]++[ABlk.live 1 [F5]]).length=b4 at E|-
 generalize (h++[ABlk.live 2 [D6 m]]++[ABlk.live 4 [FC]]).length=b3 at E|-
 generalize (h++[ABlk.live 2 [D6 m]]).length=b2 at E|-
 have o2:=E.o2; have o3:=E.o3; have o4:=E.o4; have o5:=E.o5;have hlt0:=E.lt;simp -implicitDefEqProofs only[C9,jR,jJ,jO,jQ,BP,A8,AY,BB,AL,BD,AX,AC,AA,AZ,AU,BH,BG,D7,AB,↓reduceIte,jB,jC,enP,QS,DZ,E.m0,jI];refine GN 0 (fun F H=>∃po pb v3,F 1=.ptr h.length 0 0∧F 2=.ptr b2 0 0∧F 3=.ptr b3 0 0∧F 4=.ptr b4 0 0∧F 5=.ptr b5 0 0∧Em h H m b2 b3 b4 b5 (nlV po (zP m)) (.sl .nil 0 []) v3∧NL H0.length H po pb (zP m)∧outG 1 (fun _:Pt=>F5) H0 m.pts v3 H∧(∀b,NLB po pb (zP m) b->¬isB v3 b)∧H0.length<=H.length) (fun _ _=>False) ?_ ?_ (fun _ _ hh=>hh.elim)
 .refine DK (fun n F H=>∃i po pb v3,n+i=m.pts.length∧F 1=.ptr h.length 0 0∧F 2=.ptr b2 0 0∧F 3=.ptr b3 0 0∧F 4=.ptr b4 0 0∧F 5=.ptr b5 0 0∧F 11=.sl m.pm 6 (m.pts.map GM)∧F 12=.int .i64 m.pts.length∧F 13=.int .i64 (i:Nat)∧Em h H m b2 b3 b4 b5 (nlV po ((zP m).take i)) (.sl .nil 0 []) v3∧NL H0.length H po pb ((zP m).take i)∧outG 1 (fun _:Pt=>F5) H0 (m.pts.take i) v3 H∧(∀b,NLB po pb ((zP m).take i) b->¬isB v3 b)∧H0.length<=H.length) m.pts.length
   ⟨0,0,[],.sl .nil 0 [],by simp,by simp -implicitDefEqProofs only[AA,↓reduceIte,jA],by simp -implicitDefEqProofs only[AA,↓reduceIte,jA],by simp -implicitDefEqProofs only[AA,↓reduceIte,jA],by simp -implicitDefEqProofs only[AA,↓reduceIte,jA],by simp -implicitDefEqProofs only[AA,↓reduceIte,jA],by simp -implicitDefEqProofs only[AA,↓reduceIte,jA],by simp -implicitDefEqProofs only[AA,↓reduceIte,jA],by simp -implicitDefEqProofs only[AA,↓reduceIte]; rfl,by rw[zN]; exact E,by rw[zN]; exact NL.nil _ _ _,by rw[zN]; exact outG.nil _ _ _ _,fun b _ hb'=>hb',jM _⟩ ?_
  clear E;rintro n F H ⟨i,po,pb,v3,hi,f1,f2,f3,f4,f5,f11,f12,f13,E,N,ho3,hdis,hle⟩;simp -implicitDefEqProofs only[C9,jR,jJ,jO,jQ,BC,BA,BI,A8,AY,BB,AL,BD,AX,AC,AA,AZ,BR,AB,DC,↓reduceIte,jB,jC,enP,DZ,f12,f13];refine CU (fun hc=>?_) (fun hc=>?_)
  .have hi':i<m.pts.length:=by simpa using hc
   have h64:=(hg.full _ (jS hi')).2;have hP:=AN8 m i hi';have hzl:=QY m.pts[i].bins.length;have htl:((zP m).take i).length<=1048576:=by rw[zD,Z7]; omega
   simp -implicitDefEqProofs only[C9,jR,jJ,jO,jQ,BC,BP,BA,BO,A8,AY,BB,AL,BD,AX,AC,EM,AA,AZ,FD,BQ,D5,CE,BZ,AB,CX,↓reduceIte,jA,jB,jC,enP,SS,DZ,jP,f11,f13,DU hi',FM ACG YW JR hi',AR4,AQB _ _ [.str ⟨#[]⟩,.int .i64 0,.int .i64 0,.str ⟨#[]⟩,.sl .nil 0 [],.sl .nil 0 []] rfl];have hl1:(H++[ABlk.live 6 [GM m.pts[i]]]).length=H.length+1:=by simp
   have E1:=E.app [.live 6 [GM m.pts[i]]];have N1:=N.app [.live 6 [GM m.pts[i]]];have ho1:=ho3.app [.live 6 [GM m.pts[i]]];have lp:EH Tryz.prog (H++[ABlk.live 6 [GM m.pts[i]]]) 54 (.ptr H.length 0 5)=some (.sl m.pts[i].bm 4 (m.pts[i].bins.map GV)):=by rw[DL SG,NS]
   generalize H++[ABlk.live 6 [GM m.pts[i]]]=Ha at hl1 E1 N1 ho1 lp|-
   have N2:=(N1.app [.live 1 ((zeros m.pts[i].bins.length).map encI)]).app [.live 1 [[.own Ha.length 0 m.pts[i].bins.length]]];have E2:=(E1.app [.live 1 ((zeros m.pts[i].bins.length).map encI)]).app [.live 1 [[.own Ha.length 0 m.pts[i].bins.length]]];have ho2:=(ho1.app [.live 1 ((zeros m.pts[i].bins.length).map encI)]).app [.live 1 [[.own Ha.length 0 m.pts[i].bins.length]]];have gb:=CV (x:=ABlk.live 1 [[.own Ha.length 0 m.pts[i].bins.length]]) (CY Ha (ABlk.live 1 ((zeros m.pts[i].bins.length).map encI)));have gt:=CY (Ha++[ABlk.live 1 ((zeros m.pts[i].bins.length).map encI)]) (ABlk.live 1 [[.own Ha.length 0 m.pts[i].bins.length]]);have hl2:(Ha++[ABlk.live 1 ((zeros m.pts[i].bins.length).map encI)]++[ABlk.live 1 [[.own Ha.length 0 m.pts[i].bins.length]]]).length=Ha.length+2:=by simp
   refine EZ (by kernel_rfl) ?_;simp -implicitDefEqProofs only[FZ,EY,FT,C9,jR,jJ,jO,jQ,qZ,ED,DN,EF,JV,FB,LW,D9,IC,AA,AZ,EP,BQ,JI,BJ,D7,GR,BZ,AB,↓reduceIte,jA,jK,jL,jG,jB,enP,L8,RQ,JB,f4,E1.l4,lp,jI,mkI _ _ (show m.pts[i].bins.length<=1048576 by omega),ACX]
   generalize Ha++[ABlk.live 1 ((zeros m.pts[i].bins.length).map encI)]++[ABlk.live 1 [[.own Ha.length 0 m.pts[i].bins.length]]]=Hb at N2 E2 ho2 gb gt hl2|-
   generalize (Ha++[ABlk.live 1 ((zeros m.pts[i].bins.length).map encI)]).length=tb at gt|-
   obtain⟨H2,hap,N3,hk,hl3,hx3⟩:=N2.snoc gb (by omega) (by omega) (fun q=>by have:=N.mem_lt q; omega) (fun q e=>by have:=N.top_lt q; omega) (by rw[hzl]; exact gt) htl;rw[<-hP] at N3 hap;have hne:(zP m).take (i+1)≠[]:=by rw[hP]; simp
   have E3:=E2.keep hk (fun b hb=>by
    obtain⟨q,rfl⟩:=ZB hb
    have:=N.lo' q; omega) (hx3 h (by omega))
   rw[PL _ hne] at hap;refine HY hap ?_;have E4:=E3.set4 (.own Hb.length 0 ((zP m).take (i+1)).length) (.sl .nil 0 []);have ho4:=(ho2.keepA hk (fun b hb hb'=>hdis b (AC1 hb') hb)).setB (b:=b4) (by omega) (.live 4 [H9 (.own Hb.length 0 ((zP m).take (i+1)).length) (.sl .nil 0 [])]);have N4:NL H0.length (H2.set b4 (.live 4 [H9 (.own Hb.length 0 ((zP m).take (i+1)).length) (.sl .nil 0 [])])) Hb.length (pb++[Ha.length]) ((zP m).take (i+1)):=N3.keep fun b x hb hg=>CW hg (by have:=N3.lt hb; omega)
   have hl4:(H2.set b4 (.live 4 [H9 (.own Hb.length 0 ((zP m).take (i+1)).length) (.sl .nil 0 [])])).length=H2.length:=by simp
   simp -implicitDefEqProofs only[FZ,C9,jR,jJ,jO,jQ,ED,DN,JJ,E8,EF,JH,D9,BA,A8,AY,AL,BD,AX,AA,AZ,D5,BJ,AB,CX,↓reduceIte,jA,jK,jL,jG,jB,jC,enP,L8,DZ,jP,f4,E3.s4]
   generalize H2.set b4 (.live 4 [H9 (.own Hb.length 0 ((zP m).take (i+1)).length) (.sl .nil 0 [])])=H4 at E4 ho4 N4 hl4|-
   obtain⟨v3',H5,hap3,ho5,hk3,hl5,hn3,⟨o3',l3,rfl⟩,hx5⟩:=ho4.app2 YU VJ AB6 ZQ (by omega) (by rw[zD]; omega) (by omega) m.pts[i];rw[<-zL hi'] at ho5;have E5:=E4.keep hk3 (fun b hb=>by have:=ho4.lt hb; omega) (hx5 h (by omega));have E6:=E5.set5 (.own o3' 0 l3);have ho6:=ho5.setB (b:=b5) (by omega) (.live 1 [[.own o3' 0 l3]])
   have N5:NL H0.length (H5.set b5 (.live 1 [[.own o3' 0 l3]])) Hb.length (pb++[Ha.length]) ((zP m).take (i+1)):=N4.keep fun b x hb hg=>CW (hk3 b x hg (fun q=>by
    rw[hP] at hb;rcases AFA (o:=po) hb with rfl|hb|rfl
    .have:=ho3.lt q; omega
    .exact hdis _ hb q
    .have:=ho3.lt q; omega)) (by have:=N4.lt hb; omega)
   simp -implicitDefEqProofs only[EY,FT,C9,jR,jJ,jO,jQ,AY,AL,BD,AX,AC,AA,AZ,AU,IK,EP,BQ,GR,BZ,AB,↓reduceIte,jA,jL,jB,jC,enP,RZ,DZ,f5,E4.l5,AZY];refine HY (v:=.own o3' 0 l3) (h:=H5) hap3 ?_;simp -implicitDefEqProofs only[C9,jR,jJ,jO,jQ,BA,A8,EJ,EQ,AY,BB,AL,BD,AX,AC,EM,AA,AZ,AU,BH,BG,D5,BR,BJ,AB,CX,CZ,↓reduceIte,jA,jL,jB,jC,enP,RZ,DZ,jP,f5,E5.s5,f13,wrap_succ (show i<9223372036854775807 by omega)];rw[<-PL _ hne] at E6
   exact⟨n-1,by omega,i+1,Hb.length,_,.own o3' 0 l3,by omega,by trivial,by trivial,by trivial,by trivial,by trivial,by trivial,by trivial,by trivial,E6,N5,ho6,fun b hb hb'=>by
    have h1:=hn3 b hb';have h2:=N4.lt hb
    omega,by rw[qI]; omega⟩
  .have hi':¬i<m.pts.length:=by simpa using hc
   rw[jX (by rw[Z7]; omega)] at N E hdis;rw[jX (by omega)] at ho3;simp -implicitDefEqProofs only[DJ,EI,J3,ET,AA,↓reduceIte,jA];exact⟨po,pb,v3,f1,f2,f3,f4,f5,E,N,ho3,hdis,hle⟩
 .rintro F H ⟨po,pb,v3,f1,f2,f3,f4,f5,E,N,ho3,hdis,hle⟩
  simp -implicitDefEqProofs only[C9,jR,jJ,jO,jQ,BC,BP,BA,A8,EW,AY,BB,AL,BD,AX,AC,AA,AZ,AU,BH,BG,BQ,BJ,D7,AB,↓reduceIte,jG,jB,jC,enP,VL,J4,DZ,f1,E.m1,jI];refine GN 2 (fun F H=>∃co cbs,F 2=.ptr b2 0 0∧F 3=.ptr b3 0 0∧F 4=.ptr b4 0 0∧F 5=.ptr b5 0 0∧Em h H m b2 b3 b4 b5 (nlV po (zP m)) (nlV co (zC m)) v3∧NC H0.length H po pb co cbs (zP m) (zC m)∧outG 1 (fun _:Pt=>F5) H0 m.pts v3 H) (fun _ _=>False) ?_ ?_ (fun _ _ hh=>hh.elim)
  .refine DK (fun n F H=>∃i co cbs,n+i=m.crs.length∧F 1=.ptr h.length 0 0∧F 2=.ptr b2 0 0∧F 3=.ptr b3 0 0∧F 4=.ptr b4 0 0∧F 5=.ptr b5 0 0∧F 33=.sl m.cm 3 (m.crs.map GG)∧F 34=.int .i64 m.crs.length∧F 35=.int .i64 (i:Nat)∧Em h H m b2 b3 b4 b5 (nlV po (zP m)) (nlV co ((zC m).take i)) v3∧NL H0.length H po pb (zP m)∧NL H0.length H co cbs ((zC m).take i)∧outG 1 (fun _:Pt=>F5) H0 m.pts v3 H∧(∀b,NLB co cbs ((zC m).take i) b->¬NLB po pb (zP m) b∧¬isB v3 b)∧H0.length<=H.length) m.crs.length
    ⟨0,0,[],by simp,by simp -implicitDefEqProofs only[AA,↓reduceIte,jA,f1],by simp -implicitDefEqProofs only[AA,↓reduceIte,jA,f2],by simp -implicitDefEqProofs only[AA,↓reduceIte,jA,f3],by simp -implicitDefEqProofs only[AA,↓reduceIte,jA,f4],by simp -implicitDefEqProofs only[AA,↓reduceIte,jA,f5],by simp -implicitDefEqProofs only[AA,↓reduceIte,jA],by simp -implicitDefEqProofs only[AA,↓reduceIte,jA],by simp -implicitDefEqProofs only[AA,↓reduceIte]; rfl,by rw[zN]; exact E,N,by rw[zN]; exact NL.nil _ _ _,ho3,(fun b hb=>by
     rcases hb with⟨q,_⟩|q
     .exact absurd rfl q
     .cases q),hle⟩ ?_
   clear f1 f2 f3 f4 f5 E N ho3 hdis hle;rintro n F H ⟨i,co,cbs,hi,f1,f2,f3,f4,f5,f33,f34,f35,E,NP,N,ho3,hdis,hle⟩;simp -implicitDefEqProofs only[C9,jR,jJ,jO,jQ,BC,BA,BI,A8,AY,BB,AL,BD,AX,AC,AA,AZ,BR,AB,DC,↓reduceIte,jB,jC,enP,DZ,f34,f35];refine CU (fun hc=>?_) (fun hc=>?_)
   .have hi':i<m.crs.length:=by simpa using hc
    have hcg:=hg.crs _ (jS hi');have hfs:=hg.full.szs hcg.here;have hsl:=LJ m m.crs[i].pts;have hfour:=hcg.four;have hpr:=hcg.prod;have hC:=AN9 m i hi';have hzl:=QY (GL (szs m m.crs[i].pts));have htl:((zC m).take i).length<=1048576:=by rw[zD,Z8]; omega
    simp -implicitDefEqProofs only[C9,jR,jJ,jO,jQ,BC,BP,BA,BO,A8,AY,BB,AL,BD,AX,AC,EM,AA,AZ,FD,BQ,D5,CE,BZ,AB,CX,↓reduceIte,jA,jB,jC,enP,V7,DZ,jP,f33,f35,DU hi',FM ZV XH J7 hi',AR3,AQA _ _ [.str ⟨#[]⟩,.sl .nil 0 [],.sl .nil 0 []] rfl];have hl1:(H++[ABlk.live 3 [GG m.crs[i]]]).length=H.length+1:=by simp
    have E1:=E.app [.live 3 [GG m.crs[i]]];have N1:=N.app [.live 3 [GG m.crs[i]]];have NP1:=NP.app [.live 3 [GG m.crs[i]]];have ho1:=ho3.app [.live 3 [GG m.crs[i]]];have gc1:=CY H (.live 3 [GG m.crs[i]])
    generalize H++[ABlk.live 3 [GG m.crs[i]]]=Ha at hl1 E1 N1 NP1 ho1 gc1|-
    generalize hpn:GL (szs m m.crs[i].pts)=pn at hC hzl hpr;have N2:=(N1.app [.live 1 ((zeros pn).map encI)]).app [.live 1 [[.own Ha.length 0 pn]]];have NP2:=(NP1.app [.live 1 ((zeros pn).map encI)]).app [.live 1 [[.own Ha.length 0 pn]]];have E2:=(E1.app [.live 1 ((zeros pn).map encI)]).app [.live 1 [[.own Ha.length 0 pn]]];have ho2:=(ho1.app [.live 1 ((zeros pn).map encI)]).app [.live 1 [[.own Ha.length 0 pn]]];have gb:=CV (x:=ABlk.live 1 [[.own Ha.length 0 pn]]) (CY Ha (ABlk.live 1 ((zeros pn).map encI)));have gt:=CY (Ha++[ABlk.live 1 ((zeros pn).map encI)]) (ABlk.live 1 [[.own Ha.length 0 pn]]);have hl2:(Ha++[ABlk.live 1 ((zeros pn).map encI)]++[ABlk.live 1 [[.own Ha.length 0 pn]]]).length=Ha.length+2:=by simp
    refine EZ (by kernel_rfl) ?_;simp -implicitDefEqProofs only[FZ,C9,jR,jJ,jO,jQ,qZ,ED,DN,EF,FB,LW,D9,GH,F8,AA,AZ,BX,BQ,JI,BJ,AB,jD,jE,jF,↓reduceIte,jA,jK,jG,jB,enP,KX,f1,f4,E1.l4',ldM E1.gm,ldC gc1];refine⟨_,RG G m _ _ hcg.here (by omega),?_⟩
    try simp -implicitDefEqProofs only[]
    refine⟨_,QQ G _ _ _ (fun n hn=>(hfs n hn).2) (by omega),?_⟩;rw[hpn]
    try simp -implicitDefEqProofs only[FZ,EY,FT,C9,jR,jJ,jO,jQ,qZ,ED,DN,EF,JV,IC,AA,AZ,EP,GR,BZ,↓reduceIte,jA,jK,jB,enP,mkI _ _ (show pn<=1048576 by omega),ACX]
    generalize Ha++[ABlk.live 1 ((zeros pn).map encI)]++[ABlk.live 1 [[.own Ha.length 0 pn]]]=Hb at N2 NP2 E2 ho2 gb gt hl2|-
    generalize (Ha++[ABlk.live 1 ((zeros pn).map encI)]).length=tb at gt|-
    obtain⟨H2,hap,N3,hk,hl3,hx3⟩:=N2.snoc gb (by omega) (by omega) (fun q=>by have:=N.mem_lt q; omega) (fun q e=>by have:=N.top_lt q; omega) (by rw[hzl]; exact gt) htl;rw[<-hC] at N3 hap;have hne:(zC m).take (i+1)≠[]:=by rw[hC]; simp
    have E3:=E2.keep hk (fun b hb=>by
     obtain⟨q,rfl⟩:=ZB hb
     have:=N.lo' q; omega) (hx3 h (by omega))
    rw[PL _ hne] at hap;refine HY hap ?_;have E4:=E3.set4 (nlV po (zP m)) (.own Hb.length 0 ((zC m).take (i+1)).length);have ho4:=(ho2.keepA hk (fun b hb hb'=>(hdis b (AC1 hb')).2 hb)).setB (b:=b4) (by omega) (.live 4 [H9 (nlV po (zP m)) (.own Hb.length 0 ((zC m).take (i+1)).length)]);have N4:NL H0.length (H2.set b4 (.live 4 [H9 (nlV po (zP m)) (.own Hb.length 0 ((zC m).take (i+1)).length)])) Hb.length (cbs++[Ha.length]) ((zC m).take (i+1)):=N3.keep fun b x hb hg=>CW hg (by have:=N3.lt hb; omega)
    have NP4:NL H0.length (H2.set b4 (.live 4 [H9 (nlV po (zP m)) (.own Hb.length 0 ((zC m).take (i+1)).length)])) po pb (zP m):=NP2.keep fun b x hb hg=>CW (hk b x hg (fun q=>(hdis b (AC1 q)).1 hb)) (by have:=NP.lt hb; omega)
    simp -implicitDefEqProofs only[FZ,C9,jR,jJ,jO,jQ,ED,DN,JJ,E8,EF,JH,D9,BA,A8,EJ,EQ,AY,BB,AL,BD,AX,AC,AA,AZ,AU,BH,BG,D5,BR,BJ,AB,CX,CZ,↓reduceIte,jA,jK,jG,jB,jC,enP,KX,DZ,jP,f4,E3.s4',f35,wrap_succ (show i<9223372036854775807 by omega)];have hl4:(H2.set b4 (.live 4 [H9 (nlV po (zP m)) (.own Hb.length 0 ((zC m).take (i+1)).length)])).length=H2.length:=by simp
    generalize H2.set b4 (.live 4 [H9 (nlV po (zP m)) (.own Hb.length 0 ((zC m).take (i+1)).length)])=H4 at E4 ho4 N4 NP4 hl4|-
    rw[<-PL Hb.length hne] at E4
    exact⟨n-1,by omega,i+1,Hb.length,_,by omega,by trivial,by trivial,by trivial,by trivial,by trivial,by trivial,by trivial,by trivial,E4,NP4,N4,ho4,fun b hb=>by
     rw[hC] at hb;rcases AFA (o:=co) hb with rfl|hb|rfl
     .exact⟨fun q=>by have:=NP.lt q; omega,fun q=>by have:=ho3.lt q; omega⟩
     .exact hdis _ hb
     .exact⟨fun q=>by have:=NP.lt q; omega,fun q=>by have:=ho3.lt q; omega⟩,by omega⟩
   .have hi':¬i<m.crs.length:=by simpa using hc
    rw[jX (by rw[Z8]; omega)] at N E hdis;simp -implicitDefEqProofs only[DJ,EI,J3,ET,AA,↓reduceIte,jA];exact⟨co,cbs,f2,f3,f4,f5,E,⟨NP,N,fun b h1 h2=>(hdis b h2).1 h1⟩,ho3⟩
  .rintro F' H' ⟨co,cbs,g2,g3,g4,g5,E',N,q3⟩
   simp -implicitDefEqProofs only[BC,A8,EW,↓reduceIte];have p2:=E'.o2; have p3:=E'.o3; have p4:=E'.o4; have p5:=E'.o5;refine Q7 [(5,2)] (by kernel_rfl) ?_ ?_
   .simp -implicitDefEqProofs only[g2,g5,Q9,UN,UB,and_true]
    omega
   simp -implicitDefEqProofs only[FZ,C9,jR,jJ,jO,jQ,ED,DN,JJ,E8,EF,FB,JH,BK,A8,AA,AZ,BQ,D5,AB,CX,↓reduceIte,jA,jK,jG,jB,enP,jP,g2,g3,g4,g5,IM E'.g4 rfl,NZ E'.g5 rfl,ADE E'.g2 rfl (MG _ _) (MG _ _),AFX (CW E'.g3 (show b3≠b2 by omega)) rfl q3.leaf];rw[AUS (ba:=b2) (bb:=b3) (by simp -implicitDefEqProofs only[AA,↓reduceIte,jA,g2]) (by simp -implicitDefEqProofs only[AA,↓reduceIte,jA,g3]) (IM (CW (D8 E'.g2) (show b2≠b3 by omega)) rfl) (NZ (D8 (CW E'.g3 (show b3≠b2 by omega))) rfl)];exact⟨(E'.hx.set (by omega) _).set (by omega) _,po,pb,co,cbs,v3,rfl,(N.keep (H':=(H'.set b2 (.live 4 [H9 (nlV po (zP m)) (nlV co (zC m))])).set b3 (.live 1 [[v3]])) fun b x hb _ hg=>CW (CW hg (by omega)) (by omega)).base (by omega),((q3.setB (b:=b2) (by omega) _).setB (b:=b3) (by omega) _).base (by omega)⟩
set_option maxHeartbeats 4000000 in
theorem AM7 (G:Nat->AV)(m:Mo)(hm:MoOk m)(hg:Cov.Good m)(h:Hp):ACalls (En G) 92 [.agg (D6 m)] h fun v H=>ext h H∧∃po pb co cbs,v=.agg (H9 (nlV po (zP m)) (nlV co (zC m)))∧NC h.length H po pb co cbs (zP m) (zC m):=by
 have hm1:=hm.np;have hm2:=hm.nc;have hnum:=hg.num;refine LV (H:=hint [23,24,25,43,44,45] []) (enM G) Tryz.func92 rfl (by kernel_rfl) (by kernel_rfl) (jH (by kernel_rfl)) ?_;show awp _ _ _ _ _ (EN _ [.cell 2 28] _);have E:=Er.mk' h m;simp -implicitDefEqProofs only[EY,C9,jR,jJ,jO,jQ,BC,BP,BA,A8,AY,BB,AL,BD,AX,AC,EM,AA,AZ,AU,BH,A7,FD,FU,G9,D5,BZ,AB,CX,BF,↓reduceIte,jA,jB,jC,enP,DZ,jP,bxM,KE,N8,ASX]
 generalize h++[ABlk.live 2 [D6 m]]++[ABlk.live 4 [FC]]++[ABlk.live 4 [FC]]=H0 at E|-
 generalize (h++[ABlk.live 2 [D6 m]]++[ABlk.live 4 [FC]]).length=b3 at E|-
 generalize (h++[ABlk.live 2 [D6 m]]).length=b2 at E|-
 have o2:=E.o2; have o3:=E.o3;have hlt0:=E.lt;refine GN 0 (fun F H=>∃po pb,F 1=.ptr h.length 0 0∧F 2=.ptr b2 0 0∧F 3=.ptr b3 0 0∧Er h H m b2 b3 (nlV po (zP m)) (.sl .nil 0 [])∧NL H0.length H po pb (zP m)∧H0.length<=H.length) (fun _ _=>False) ?_ ?_ (fun _ _ hh=>hh.elim)
 .refine DK (fun n F H=>∃i po pb,n+i=m.pts.length∧F 1=.ptr h.length 0 0∧F 2=.ptr b2 0 0∧F 3=.ptr b3 0 0∧F 4=.int .i64 (i:Nat)∧Er h H m b2 b3 (nlV po ((zP m).take i)) (.sl .nil 0 [])∧NL H0.length H po pb ((zP m).take i)∧H0.length<=H.length) m.pts.length
   ⟨0,0,[],by simp,by simp -implicitDefEqProofs only[AA,↓reduceIte,jA],by simp -implicitDefEqProofs only[AA,↓reduceIte,jA],by simp -implicitDefEqProofs only[AA,↓reduceIte,jA],by simp -implicitDefEqProofs only[AA,↓reduceIte]; rfl,by rw[zN]; exact E,by rw[zN]; exact NL.nil _ _ _,jM _⟩ ?_
  clear E;rintro n F H ⟨i,po,pb,hi,f1,f2,f3,f4,E,N,hle⟩;simp -implicitDefEqProofs only[C9,jR,jJ,jO,jQ,BC,BA,BI,A8,AY,BB,AL,BD,AX,AC,AA,AZ,BG,BQ,BR,BJ,D7,AB,DC,↓reduceIte,jA,jL,jB,jC,enP,QS,IR,DZ,f1,f4,E.m0,jI];refine CU (fun hc=>?_) (fun hc=>?_)
  .have hi':i<m.pts.length:=by simpa using hc
   have h64:=(hg.full _ (jS hi')).2;have hP:=AN8 m i hi';have hzl:=QY m.pts[i].bins.length;have htl:((zP m).take i).length<=1048576:=by rw[zD,Z7]; omega
   have N2:=(N.app [.live 1 ((zeros m.pts[i].bins.length).map encI)]).app [.live 1 [[.own H.length 0 m.pts[i].bins.length]]];have E2:=E.keep (u:=.bool true) (H':=H++[ABlk.live 1 ((zeros m.pts[i].bins.length).map encI)]++[ABlk.live 1 [[.own H.length 0 m.pts[i].bins.length]]]) (fun b x hb _=>FX (FX hb)) (fun b hb=>hb.elim) (fun q=>(q.app _).app _);have gb:=CV (x:=ABlk.live 1 [[.own H.length 0 m.pts[i].bins.length]]) (CY H (ABlk.live 1 ((zeros m.pts[i].bins.length).map encI)));have gt:=CY (H++[ABlk.live 1 ((zeros m.pts[i].bins.length).map encI)]) (ABlk.live 1 [[.own H.length 0 m.pts[i].bins.length]]);have hl2:(H++[ABlk.live 1 ((zeros m.pts[i].bins.length).map encI)]++[ABlk.live 1 [[.own H.length 0 m.pts[i].bins.length]]]).length=H.length+2:=by simp
   simp -implicitDefEqProofs only[BC,BP,BO,A8];refine EZ (by kernel_rfl) ?_;simp -implicitDefEqProofs only[FZ,EY,FT,C9,jR,jJ,jO,jQ,qZ,ED,DN,EF,FO,JV,FB,LW,D9,EE,IC,AA,AZ,EP,BQ,JI,BJ,CE,D7,GR,BZ,AB,↓reduceIte,jA,jK,jL,jG,jB,enP,SS,IR,L8,RQ,JB,f1,f3,f4,E.l3,E.m0,DU hi',DF SG hi',NS,jI,mkI _ _ (show m.pts[i].bins.length<=1048576 by omega),ACX]
   generalize H++[ABlk.live 1 ((zeros m.pts[i].bins.length).map encI)]++[ABlk.live 1 [[.own H.length 0 m.pts[i].bins.length]]]=Hb at N2 E2 gb gt hl2|-
   generalize (H++[ABlk.live 1 ((zeros m.pts[i].bins.length).map encI)]).length=tb at gt|-
   obtain⟨H2,hap,N3,hk,hl3,hx3⟩:=N2.snoc gb (by omega) (by omega) (fun q=>by have:=N.mem_lt q; omega) (fun q e=>by have:=N.top_lt q; omega) (by rw[hzl]; exact gt) htl;rw[<-hP] at N3 hap;have hne:(zP m).take (i+1)≠[]:=by rw[hP]; simp
   have E3:=E2.keep hk (fun b hb=>by
    obtain⟨q,rfl⟩:=ZB hb
    have:=N.lo' q; omega) (hx3 h (by omega))
   rw[PL _ hne] at hap;refine HY hap ?_;have E4:=E3.set3 (.own Hb.length 0 ((zP m).take (i+1)).length) (.sl .nil 0 []);have N4:NL H0.length (H2.set b3 (.live 4 [H9 (.own Hb.length 0 ((zP m).take (i+1)).length) (.sl .nil 0 [])])) Hb.length (pb++[H.length]) ((zP m).take (i+1)):=N3.keep fun b x hb hg=>CW hg (by have:=N3.lt hb; omega)
   have hl4:(H2.set b3 (.live 4 [H9 (.own Hb.length 0 ((zP m).take (i+1)).length) (.sl .nil 0 [])])).length=H2.length:=by simp
   simp -implicitDefEqProofs only[FZ,C9,jR,jJ,jO,jQ,ED,DN,JJ,E8,EF,JH,D9,BA,A8,EJ,EQ,AY,BB,AL,BD,AX,AC,AA,AZ,AU,BH,BG,A7,D5,BR,BJ,AB,CX,CZ,↓reduceIte,jA,jK,jL,jG,jB,jC,enP,L8,DZ,jP,f3,E3.s3,f4,wrap_succ (show i<9223372036854775807 by omega)]
   generalize H2.set b3 (.live 4 [H9 (.own Hb.length 0 ((zP m).take (i+1)).length) (.sl .nil 0 [])])=H4 at E4 N4 hl4|-
   rw[<-PL _ hne] at E4;exact⟨n-1,by omega,i+1,Hb.length,_,by omega,by trivial,by trivial,by trivial,by trivial,E4,N4,by omega⟩
  .have hi':¬i<m.pts.length:=by simpa using hc
   rw[jX (by rw[Z7]; omega)] at N E;simp -implicitDefEqProofs only[DJ,EI,J3,ET,AA,↓reduceIte,jA];exact⟨po,pb,f1,f2,f3,E,N,hle⟩
 .rintro F H ⟨po,pb,f1,f2,f3,E,N,hle⟩
  simp -implicitDefEqProofs only[C9,jR,jJ,jO,jQ,BC,BP,BA,A8,EW,AY,BB,AL,BD,AX,AC,AU,BH,A7,↓reduceIte,jB,jC,DZ];refine GN 2 (fun F H=>∃co cbs,F 2=.ptr b2 0 0∧F 3=.ptr b3 0 0∧Er h H m b2 b3 (nlV po (zP m)) (nlV co (zC m))∧NC H0.length H po pb co cbs (zP m) (zC m)) (fun _ _=>False) ?_ ?_ (fun _ _ hh=>hh.elim)
  .refine DK (fun n F H=>∃i co cbs,n+i=m.crs.length∧F 1=.ptr h.length 0 0∧F 2=.ptr b2 0 0∧F 3=.ptr b3 0 0∧F 5=.int .i64 (i:Nat)∧Er h H m b2 b3 (nlV po (zP m)) (nlV co ((zC m).take i))∧NL H0.length H po pb (zP m)∧NL H0.length H co cbs ((zC m).take i)∧(∀b,NLB co cbs ((zC m).take i) b->¬NLB po pb (zP m) b)∧H0.length<=H.length) m.crs.length
    ⟨0,0,[],by simp,by simp -implicitDefEqProofs only[AA,↓reduceIte,jA,f1],by simp -implicitDefEqProofs only[AA,↓reduceIte,jA,f2],by simp -implicitDefEqProofs only[AA,↓reduceIte,jA,f3],by simp -implicitDefEqProofs only[AA,↓reduceIte]; rfl,by rw[zN]; exact E,N,by rw[zN]; exact NL.nil _ _ _,(fun b hb=>by
     rcases hb with⟨q,_⟩|q
     .exact absurd rfl q
     .cases q),hle⟩ ?_
   clear f1 f2 f3 E N hle;rintro n F H ⟨i,co,cbs,hi,f1,f2,f3,f5,E,NP,N,hdis,hle⟩;simp -implicitDefEqProofs only[C9,jR,jJ,jO,jQ,BC,BA,BI,A8,AY,BB,AL,BD,AX,AC,AA,AZ,BG,BQ,BR,BJ,D7,AB,DC,↓reduceIte,jA,jG,jB,jC,enP,VL,J4,DZ,f1,f5,E.m1,jI];refine CU (fun hc=>?_) (fun hc=>?_)
   .have hi':i<m.crs.length:=by simpa using hc
    have hcg:=hg.crs _ (jS hi');have hpr:=hcg.prod;have hfour:=hcg.four;have hmin:min ((GL (szs m m.crs[i].pts):Nat):Int) 1000=((GL (szs m m.crs[i].pts):Nat):Int):=by omega
    have hcall:=XD G m m.crs[i] H hcg.here hg.full (by omega);rw[hmin] at hcall;have hC:=AN9 m i hi';have hzl:=QY (GL (szs m m.crs[i].pts));have htl:((zC m).take i).length<=1048576:=by rw[zD,Z8]; omega
    generalize GL (szs m m.crs[i].pts)=pn at hC hzl hpr hcall;have N2:=(N.app [.live 1 ((zeros pn).map encI)]).app [.live 1 [[.own H.length 0 pn]]];have NP2:=(NP.app [.live 1 ((zeros pn).map encI)]).app [.live 1 [[.own H.length 0 pn]]];have E2:=E.keep (u:=.bool true) (H':=H++[ABlk.live 1 ((zeros pn).map encI)]++[ABlk.live 1 [[.own H.length 0 pn]]]) (fun b x hb _=>FX (FX hb)) (fun b hb=>hb.elim) (fun q=>(q.app _).app _);have gb:=CV (x:=ABlk.live 1 [[.own H.length 0 pn]]) (CY H (ABlk.live 1 ((zeros pn).map encI)));have gt:=CY (H++[ABlk.live 1 ((zeros pn).map encI)]) (ABlk.live 1 [[.own H.length 0 pn]]);have hl2:(H++[ABlk.live 1 ((zeros pn).map encI)]++[ABlk.live 1 [[.own H.length 0 pn]]]).length=H.length+2:=by simp
    simp -implicitDefEqProofs only[BC,BP,BO,A8];refine EZ (by kernel_rfl) ?_;simp -implicitDefEqProofs only[FZ,C9,jR,jJ,jO,jQ,qZ,ED,DN,EF,FO,FB,LW,D9,EE,GH,F8,AA,AZ,BX,BQ,JI,BJ,CE,AB,jD,jE,jF,↓reduceIte,jA,jK,jG,jB,enP,V7,J4,KX,f1,f3,f5,E.l3',E.m1,ldM E.gm,DU hi',FM ZV XH J7 hi'];refine⟨_,hcall,?_⟩
    try simp -implicitDefEqProofs only[FZ,EY,FT,C9,jR,jJ,jO,jQ,qZ,ED,DN,EF,JV,IC,AA,AZ,EP,GR,BZ,↓reduceIte,jA,jK,jB,enP,mkI _ _ (show pn<=1048576 by omega),ACX]
    generalize H++[ABlk.live 1 ((zeros pn).map encI)]++[ABlk.live 1 [[.own H.length 0 pn]]]=Hb at N2 NP2 E2 gb gt hl2|-
    generalize (H++[ABlk.live 1 ((zeros pn).map encI)]).length=tb at gt|-
    obtain⟨H2,hap,N3,hk,hl3,hx3⟩:=N2.snoc gb (by omega) (by omega) (fun q=>by have:=N.mem_lt q; omega) (fun q e=>by have:=N.top_lt q; omega) (by rw[hzl]; exact gt) htl;rw[<-hC] at N3 hap;have hne:(zC m).take (i+1)≠[]:=by rw[hC]; simp
    have E3:=E2.keep hk (fun b hb=>by
     obtain⟨q,rfl⟩:=ZB hb
     have:=N.lo' q; omega) (hx3 h (by omega))
    rw[PL _ hne] at hap;refine HY hap ?_;have E4:=E3.set3 (nlV po (zP m)) (.own Hb.length 0 ((zC m).take (i+1)).length);have N4:NL H0.length (H2.set b3 (.live 4 [H9 (nlV po (zP m)) (.own Hb.length 0 ((zC m).take (i+1)).length)])) Hb.length (cbs++[H.length]) ((zC m).take (i+1)):=N3.keep fun b x hb hg=>CW hg (by have:=N3.lt hb; omega)
    have NP4:NL H0.length (H2.set b3 (.live 4 [H9 (nlV po (zP m)) (.own Hb.length 0 ((zC m).take (i+1)).length)])) po pb (zP m):=NP2.keep fun b x hb hg=>CW (hk b x hg (fun q=>hdis b (AC1 q) hb)) (by have:=NP.lt hb; omega)
    simp -implicitDefEqProofs only[FZ,C9,jR,jJ,jO,jQ,ED,DN,JJ,E8,EF,JH,D9,BA,A8,EJ,EQ,AY,BB,AL,BD,AX,AC,AA,AZ,AU,BH,BG,A7,D5,BR,BJ,AB,CX,CZ,↓reduceIte,jA,jK,jG,jB,jC,enP,KX,DZ,jP,f3,E3.s3',f5,wrap_succ (show i<9223372036854775807 by omega)];have hl4:(H2.set b3 (.live 4 [H9 (nlV po (zP m)) (.own Hb.length 0 ((zC m).take (i+1)).length)])).length=H2.length:=by simp
    generalize H2.set b3 (.live 4 [H9 (nlV po (zP m)) (.own Hb.length 0 ((zC m).take (i+1)).length)])=H4 at E4 N4 NP4 hl4|-
    rw[<-PL Hb.length hne] at E4
    exact⟨n-1,by omega,i+1,Hb.length,_,by omega,by trivial,by trivial,by trivial,by trivial,E4,NP4,N4,(fun b hb=>by
     rw[hC] at hb;rcases AFA (o:=co) hb with rfl|hb|rfl
     .exact fun q=>by have:=NP.lt q; omega
     .exact hdis _ hb
     .exact fun q=>by have:=NP.lt q; omega),by omega⟩
   .have hi':¬i<m.crs.length:=by simpa using hc
    rw[jX (by rw[Z8]; omega)] at N E hdis;simp -implicitDefEqProofs only[DJ,EI,J3,ET,AA,↓reduceIte,jA];exact⟨co,cbs,f2,f3,E,⟨NP,N,fun b h1 h2=>hdis b h2 h1⟩⟩
  .rintro F' H' ⟨co,cbs,g2,g3,E',N⟩
   have hp:=E'.o2; have hq:=E'.o3;simp -implicitDefEqProofs only[C9,jR,jJ,jO,jQ,BC,BA,BK,A8,EW,AY,BB,AL,BD,AX,AC,EM,AA,AZ,BQ,D5,AB,CX,↓reduceIte,jA,jB,jC,enP,DZ,jP,g2,g3,IM E'.g3 rfl,ADE E'.g2 rfl (MG _ _) (MG _ _)];rw[AM3 (b:=b2) (by simp -implicitDefEqProofs only[AA,↓reduceIte,jA,g2]) (IM (D8 E'.g2) rfl)];exact⟨E'.hx.set (by omega) _,po,pb,co,cbs,rfl,(N.keep (H':=H'.set b2 (.live 4 [H9 (nlV po (zP m)) (nlV co (zC m))])) fun b x hb _ hg=>CW hg (by omega)).base (by omega)⟩
theorem A01 (H0:Hp){v1 v2 v3:AV}(h1:v1.leaf=true)(h2:v2.leaf=true)(h3:v3.leaf=true) :
  FW Tryz.prog (H0++[ABlk.live 4 [FC]]++[ABlk.live 1 [F5]]) 28 (.ptr H0.length 0 0) (.agg (H9 v1 v2))=some ((H0++[ABlk.live 4 [FC]]++[ABlk.live 1 [F5]]).set H0.length (ABlk.live 4 [H9 v1 v2])) ∧
  FW Tryz.prog ((H0++[ABlk.live 4 [FC]]++[ABlk.live 1 [F5]]).set H0.length (ABlk.live 4 [H9 v1 v2])) 47 (.ptr (H0++[ABlk.live 4 [FC]]).length 0 0) (.agg [v3])=some (((H0++[ABlk.live 4 [FC]]++[ABlk.live 1 [F5]]).set H0.length (ABlk.live 4 [H9 v1 v2])).set (H0++[ABlk.live 4 [FC]]).length (ABlk.live 1 [[v3]])) ∧
  (((H0++[ABlk.live 4 [FC]]++[ABlk.live 1 [F5]]).set H0.length (ABlk.live 4 [H9 v1 v2])).set (H0++[ABlk.live 4 [FC]]).length (ABlk.live 1 [[v3]]))[H0.length]?=some (ABlk.live 4 [H9 v1 v2]) ∧
  (((H0++[ABlk.live 4 [FC]]++[ABlk.live 1 [F5]]).set H0.length (ABlk.live 4 [H9 v1 v2])).set (H0++[ABlk.live 4 [FC]]).length (ABlk.live 1 [[v3]]))[(H0++[ABlk.live 4 [FC]]).length]?=some (ABlk.live 1 [[v3]]) ∧
  ext H0 (((H0++[ABlk.live 4 [FC]]++[ABlk.live 1 [F5]]).set H0.length (ABlk.live 4 [H9 v1 v2])).set (H0++[ABlk.live 4 [FC]]).length (ABlk.live 1 [[v3]])) :=
 ⟨ADE (CV (CY _ _)) rfl h1 h2,AFX (CW (CY _ _) (by simp)) rfl h3,CW (D8 (CV (CY _ _))) (by simp),D8 (CW (CY _ _) (by simp)),((((ext.rfl' H0).app _).app _).set (jM _) _).set (by simp) _⟩
theorem NC.ext {n0:Nat}{H H':Hp}{po:Nat}{pb:List Nat}{co:Nat}{cbs:List Nat}{P C:List (List Int)}(N:NC n0 H po pb co cbs P C)(hx:Sm.ext H H'):NC n0 H' po pb co cbs P C:=N.keep fun _ _ _ _ hg=>FP hx hg
theorem outG.ext {α:Type}{k:Nat}{f:α->List AV}{h H H':Hp}{ys:List α}{v:AV}(ho:outG k f h ys v H)(hx:Sm.ext H H'):outG k f h ys v H':=by
 obtain⟨y,rfl⟩:=hx;exact ho.app y
def EmQ (h:Hp)(m:Mo)(v:AV)(H:Hp):Prop:=ext h H∧((EU m≠0∧v=.tup [.agg FC,.agg F5,.int .i64 (EU m)]) ∨
 (EU m=0∧∃po pb co cbs v3,v=.tup [.agg (H9 (nlV po (zP m)) (nlV co (zC m))),.agg [v3],.int .i64 0]∧EmO h H m po pb co cbs v3))
set_option maxHeartbeats 1000000 in
theorem ASA (G:Nat->AV)(hG:GOk G)(m:Mo)(hm:MoOk m)(h:Hp):ACalls (En G) 67 [.agg (D6 m)] h (EmQ h m):=by
 refine acN Tryz.func67 rfl ?_;show awp _ _ _ _ _ (EN _ [.cell 2 28,.cell 3 47,.tmp 4] _);unfold EmQ;have E:=Ee.mk' h m;simp -implicitDefEqProofs only[BC,BA,A8,AY,BB,AO,AQ,AL,BD,AX,AC,AA,AZ,AU,BH,A7,FD,FU,BQ,BZ,BF,↓reduceIte,jA,jB,jC,enP,bxM,KE,VO]
 generalize h++[ABlk.live 2 [D6 m]]++[ABlk.live 4 [FC]]++[ABlk.live 1 [F5]]=H0 at E|-
 generalize (h++[ABlk.live 2 [D6 m]]++[ABlk.live 4 [FC]]).length=b3 at E|-
 generalize (h++[ABlk.live 2 [D6 m]]).length=b2 at E|-
 have o2:=E.o2; have o3:=E.o3; have hlt:=E.lt;simp -implicitDefEqProofs only[AY,AO,AQ,AL,BD,AX,AC,AA,AZ,BX,CB,BU,AB,jD,jE,jF,↓reduceIte,jB,jC,ldM E.gm];refine(RP G hG m hm _).use ?_;cases hb:(EU m==0)
 .have h0:EU m≠0:=by simpa using hb
  simp -implicitDefEqProofs only[EY,BC,BA,BK,BI,A8,CP,DI,AY,BB,AO,AQ,AL,BD,AX,AC,EM,AA,AZ,AU,BH,BG,A7,G9,D5,BR,AB,CX,EK,↓reduceIte,jA,jB,jC,enP,jP,bne,hb,N8,ABY,stZ E.g2 rfl,ABD (CW E.g3 (show b3≠b2 by omega)) rfl];rw[TE (ba:=b2) (bb:=b3) (by simp -implicitDefEqProofs only[AA,↓reduceIte,jA]) (by simp -implicitDefEqProofs only[AA,↓reduceIte,jA]) (IM (CW (D8 E.g2) (show b2≠b3 by omega)) rfl) (NZ (D8 (CW E.g3 (show b3≠b2 by omega))) rfl)];exact⟨(E.hx.set (by omega) _).set (by omega) _,.inl ⟨h0,by simp -implicitDefEqProofs only[AA,↓reduceIte]⟩⟩
 .have h0:EU m=0:=by simpa using hb
  have hg:=LX h0;simp -implicitDefEqProofs only[BC,BA,BO,BI,A8,DT,AY,BB,AO,AQ,AL,BD,AX,AC,AA,AZ,AU,BX,BH,BG,A7,BQ,BR,CB,BU,AB,EK,jD,jE,jF,↓reduceIte,jA,jB,jT,jC,enP,bne,hb,ldM E.gm];refine(ARN G m hm hg _).mono ?_;rintro v H1 ⟨hx1,po,pb,co,cbs,v3,rfl,EO⟩;obtain⟨s1,s2,g6,g7,hx5⟩:=A01 H1 (MG po (zP m)) (MG co (zC m)) EO.o3.leaf;have g2:=FP hx5 (FP hx1 E.g2);have g3:=FP hx5 (FP hx1 E.g3);have hx:=(E.hx.trans hx1).trans hx5;have hle1:=hx1.le;have h7:b2<(H1++[ABlk.live 4 [FC]]).length:=by simp; omega
  have N5:=EO.nc.ext hx5;have q5:=outG.ext EO.o3 hx5;simp -implicitDefEqProofs only[zB,zG,BC,A8,AY,BB,AO,AQ,AL,BD,AX,AC,EM,AA,AZ,BG,FD,D5,FI,GU,BZ,AB,CX,↓reduceIte,jA,jB,jC,enP,jP,KE,VO,s1,s2]
  generalize ((H1++[ABlk.live 4 [FC]]++[ABlk.live 1 [F5]]).set H1.length (ABlk.live 4 [H9 (nlV po (zP m)) (nlV co (zC m))])).set (H1++[ABlk.live 4 [FC]]).length (ABlk.live 1 [[v3]])=H5 at g6 g7 g2 g3 hx N5 q5|-
  generalize (H1++[ABlk.live 4 [FC]]).length=b7 at g7 h7|-
  refine Q7 [(7,2)] (by kernel_rfl) ?_ ?_
  .simp -implicitDefEqProofs only[AA,↓reduceIte,jA,Q9,UN,UB,and_true]
   omega
  simp -implicitDefEqProofs only[FZ,ED,DN,JJ,E8,EF,I7,FB,JH,BK,A8,AO,AA,AZ,AU,BH,BQ,D5,AB,CX,↓reduceIte,jA,jK,jG,jB,enP,jP,IM g6 rfl,NZ g7 rfl,ADE g2 rfl (MG po (zP m)) (MG co (zC m)),AFX (CW g3 (show b3≠b2 by omega)) rfl q5.leaf];rw[TE (ba:=b2) (bb:=b3) (by simp -implicitDefEqProofs only[AA,↓reduceIte,jA]) (by simp -implicitDefEqProofs only[AA,↓reduceIte,jA]) (IM (CW (D8 g2) (show b2≠b3 by omega)) rfl) (NZ (D8 (CW g3 (show b3≠b2 by omega))) rfl)];have hhl:=E.hx.le;refine⟨(hx.set (by omega) _).set (by omega) _,.inr ⟨h0,po,pb,co,cbs,v3,by simp -implicitDefEqProofs only[AA,↓reduceIte],?_,?_⟩⟩
  .exact(N5.keep (H':=(H5.set b2 (.live 4 [H9 (nlV po (zP m)) (nlV co (zC m))])).set b3 (.live 1 [[v3]])) fun b x hb _ hg=>CW (CW hg (by omega)) (by omega)).base hhl
  .exact((q5.setB (b:=b2) (by omega) _).setB (b:=b3) (by omega) _).base hhl
structure St where
 P:List (List Int)
 C:List (List Int)
 sam:Int
 ill:Int
 ls:List (List Int)
def U0 (m:Mo)(s:St)(env:List Sg):Int:=JX PtR.err (QI m s.ls env)
def stp (m:Mo)(s:St)(env:List Sg):St:=⟨MC (QI m s.ls env) s.P,NW m ((QI m s.ls env).map PtR.hit) s.C,rz s.sam,if(QI m s.ls env).any PtR.bad=true then rz s.ill else s.ill,(QI m s.ls env).map PtR.next⟩
structure StOk (m:Mo) (s:St):Prop where
 sh:ShapeOk m s.P s.C
 ll:s.ls.length=m.pts.length
 l7:∀l∈s.ls,l.length<=7
 sm:0<=s.sam∧s.sam<=1099511627776
 il:0<=s.ill∧s.ill<=1099511627776
theorem ATA (p:Pt)(last:List Int)(l:List Sg):(ptE p last l).next.length<=7:=by
 have hn:∀v,(nextL last v).length<=7:=fun v=>by unfold nextL; rw[List.length_drop,qB]; simp; omega
 unfold ptE;split
 .simp
 .split
  .simp
  .split
   .exact hn _
   .split
    .exact hn _
    .exact hn _
theorem ShapeOk.step {m:Mo}{P C:List (List Int)}(h:ShapeOk m P C){rs:List PtR}(hr:rs.length=m.pts.length)(hits:List (List Nat)):ShapeOk m (MC rs P) (NW m hits C):=by
 have h1:rs.length=P.length:=by rw[hr,h.pl]
 have h2:=h.cl;have l1:=YZ rs P h1;have l2:=Y2 m hits C h2;refine⟨by rw[l1]; exact h.pl,by rw[l2]; exact h2,fun i a b=>?_,fun i a b=>?_,AWQ h.wp,AWR h.wc⟩
 .rw[Y0 rs P i (by omega) (by omega),UC]; exact h.pe i (by omega) b
 .rw[Y3 m hits C i b (by omega),RI]; exact h.ce i (by omega) b
theorem StOk.step {m:Mo}{s:St}(h:StOk m s)(env:List Sg):StOk m (stp m s env):=by
 have hr:=Y6 m s.ls env h.ll;refine⟨h.sh.step hr _,by simp [stp,hr],fun l hl=>?_,AOO h.sm,?_⟩
 .obtain⟨r,hr,rfl⟩:=zO.1 hl
  obtain⟨p,hp,rfl⟩:=zO.1 hr;exact ATA _ _ _
 .unfold stp
  dsimp only
  split
  .exact AOO h.il
  .exact h.il
def zS (m:Mo):St:=⟨zP m,zC m,0,0,jZ m.pts.length []⟩
theorem AI0 (n:Nat):Wn (zeros n):=fun x hx=>by
 have:x=0:=by simpa [zeros] using (List.eq_of_mem_replicate hx)
 subst this; decide
theorem AZE (m:Mo):StOk m (zS m):=by
 refine⟨⟨Z7 m,Z8 m,fun i a b=>?_,fun i a b=>?_,fun xs hx=>?_,fun xs hx=>?_⟩,by simp [zS],fun l hl=>?_,⟨by show(0:Int)<=0; omega,by show(0:Int)<=1099511627776; omega⟩,⟨by show(0:Int)<=0; omega,by show(0:Int)<=1099511627776; omega⟩⟩
 .simp [zS,zP,zeros]
 .simp [zS,zC,zeros]
 .obtain⟨p,_,rfl⟩:=zO.1 hx
  exact AI0 _
 .obtain⟨p,_,rfl⟩:=zO.1 hx
  exact AI0 _
 .rw[List.eq_of_mem_replicate hl]; simp
def SL (m:Mo):St->List (List Sg)->Int×St
 | s,[]=>(0,s)
 | s,e::r=>if U0 m s e≠0 then (U0 m s e,s) else SL m (stp m s e) r
def OB (m:Mo)(l:List (List Sg)):Int:=if EU m=0 then (SL m (zS m) l).1 else EU m
def QW (P:List (List Int)):List Is:=P.map fun x=>⟨.any,x⟩
def cvS (s:St):Cvr:=⟨nm (QW s.P),QW s.P,nm (QW s.C),QW s.C,s.sam,s.ill⟩
def AAF (m:Mo)(l:List (List Sg)):Cvr:=if EU m=0∧(SL m (zS m) l).1=0 then cvS (SL m (zS m) l).2 else zV
def cvW (s:St):List AV:=[fzG 1 encL (QW s.P),fzG 1 encL (QW s.C),.int .i64 s.sam,.int .i64 s.ill]
theorem AU5 (s:St):CvR (.agg (cvW s)) (.agg (ER (cvS s))):=CvR.agg (CvRL.cons TS (CvRL.cons TS (CvRL.refl _)))
def AL4 (m:Mo)(l:List (List Sg)):List AV:=if EU m=0∧(SL m (zS m) l).1=0 then cvW (SL m (zS m) l).2 else FC
theorem AWV (m:Mo)(l:List (List Sg)):CvR (.agg (AL4 m l)) (.agg (ER (AAF m l))):=by
 unfold AL4 AAF;split
 .exact AU5 _
 .exact AFR
structure Ss where
 m:SM
 l:List Sg
def WE (x:Ss):List AV:=[.sl x.m 2 (x.l.map G7)]
theorem AUT (x:Ss):(WE x)[0]?=some (.sl x.m 2 (x.l.map G7)):=rfl
theorem AMZ {h H:Hp}(_:h.length<=H.length)(hg:∀(b:Nat) (x:ABlk),h[b]?=some x->H[b]?=some x):ext h H:=⟨H.drop h.length,by
 refine List.ext_getElem? fun i=>?_
 rcases Nat.lt_or_ge i h.length with hi|hi
 .rw[List.getElem?_append_left hi,jU hi]; exact hg i _ (jU hi)
 .rw[List.getElem?_append_right hi,List.getElem?_drop]; congr 1; omega⟩
theorem Fr1.ext {h0 h H:Hp}{cb tb:Nat}{pb cbs:List Nat}(hf:Fr1 h H cb tb pb cbs)(hx:Sm.ext h0 h)(h1:h0.length<=cb)(h2:h0.length<=tb)(h3:∀b∈pb,h0.length<=b)(h4:∀b∈cbs,h0.length<=b):Sm.ext h0 H :=
 AMZ (zZ hx.le hf.le) fun b x hb=>by
  have hlt:=CJ hb;exact hf.get b x (FP hx hb) (by omega) (by omega) (fun q=>by have:=h3 b q; omega) (fun q=>by have:=h4 b q; omega)
theorem AU6 (po:Nat)(P:List (List Int))(co:Nat)(C:List (List Int))(a b:Int):(cvR po P co C a b).all AV.leaf=true:=by
 simp [cvR,MG]; exact⟨rfl,rfl⟩
theorem AZM {H:Hp}{b:Nat}{row:List AV}{po:Nat}{P:List (List Int)}{co:Nat}{C:List (List Int)}{x y:Int}(hb:H[b]?=some (.live 4 [row]))(hr:row.length=4):FW Tryz.prog H 28 (.ptr b 0 0) (.agg (cvR po P co C x y))=some (H.set b (.live 4 [cvR po P co C x y])):=by
 rw[OY (cs:=cvR po P co C x y) (TW (AU6 _ _ _ _ _ _)) AB8 hb (by rw[hr]; exact jM 4)];have:splice row 0 (cvR po P co C x y)=cvR po P co C x y:=by unfold splice; rw[zN,jW (by rw[hr]; exact jM 4)]; simp
 rw[this]
theorem AVC {n0:Nat}{H:Hp}{po co:Nat}{pb cbs:List Nat}(s:St)(np:NL n0 H po pb s.P)(nc:NL n0 H co cbs s.C)(n d:Nat)(hn:n<=n0):IV n H (d+4) (.agg (cvR po s.P co s.C s.sam s.ill))=.agg (cvW s):=by
 show AV.agg [IV n H (d+3) (nlV po s.P),IV n H (d+3) (nlV co s.C),.int .i64 s.sam,.int .i64 s.ill]=_;rw[np.frz n d hn,nc.frz n d hn]; rfl
theorem ASP {h H:Hp}{m:Mo}{v3:AV}(o:outG 1 (fun _:Pt=>F5) h m.pts v3 H):TLs H v3 (jZ m.pts.length []):=by
 rcases o with⟨e,_⟩|⟨_,q,_,rfl,hq⟩
 .rw[e]; exact .inl rfl
 .refine .inr (.inr ⟨q,m.pts.map fun _=>F5,by simp,hq,?_⟩)
  rw[List.map_const'];exact RowsL.nils _
set_option maxHeartbeats 4000000 in
theorem AV7 (G:Nat->AV)(hG:GOk G)(hT:O7 G)(m:Mo)(hm:MoOk m)(l:List Ss)(s:SM)(h:Hp)(hl:l.length<=1048576)(he:∀x∈l,x.l.length<=1048576) :
  PCall (En G) 48 [.agg (D6 m),.sl s 1 (l.map WE)] h (.tup [.agg (ER (AAF m (l.map Ss.l))),.int .i64 (OB m (l.map Ss.l))]):=by
 refine PCall.res (r:=.tup [.agg (AL4 m (l.map Ss.l)),.int .i64 (OB m (l.map Ss.l))]) ?_ (CvR.tup (CvRL.cons (AWV _ _) (CvRL.refl _)));refine ACalls.pure (R:=fun v H=>ext h H∧IV h.length H 5 v=.tup [.agg (AL4 m (l.map Ss.l)),.int .i64 (OB m (l.map Ss.l))]) 5 ?_ (fun v H ⟨a,b⟩=>⟨a,b⟩);refine acN Tryz.func48 rfl ?_;show awp _ _ _ _ _ (EN _ [.cell 4 28,.tmp 5] _);have gm:=CV (x:=ABlk.live 4 [FC]) (CY h (ABlk.live 2 [D6 m]));have g4:=CY (h++[ABlk.live 2 [D6 m]]) (ABlk.live 4 [FC]);have hx:ext h (h++[ABlk.live 2 [D6 m]]++[ABlk.live 4 [FC]]):=((ext.rfl' h).app _).app _;have hb4:h.length<(h++[ABlk.live 2 [D6 m]]).length:=by simp
 simp -implicitDefEqProofs only[BC,BA,A8,AY,BB,AO,AQ,AL,BD,AX,AC,AA,AZ,AU,BH,A7,FD,FU,BQ,BZ,BF,↓reduceIte,jA,jB,jC,enP,bxM,KE]
 generalize h++[ABlk.live 2 [D6 m]]++[ABlk.live 4 [FC]]=H0 at gm g4 hx|-
 generalize (h++[ABlk.live 2 [D6 m]]).length=b4 at g4 hb4|-
 have hlt:=CJ g4;simp -implicitDefEqProofs only[AY,AO,AQ,AL,BD,AX,AC,AA,AZ,BX,CB,BU,AB,jD,jE,jF,↓reduceIte,jB,jC,ldM gm];refine(ASA G hG m hm H0).mono ?_;rintro v H1 ⟨hx1,⟨hne,rfl⟩|⟨h0,po,pb,co,cbs,v3,rfl,EO⟩⟩
 .have hb:(EU m==0)=false:=by simpa using hne
  obtain⟨s1,s2,g6,g7,hx5⟩:=A01 H1 (v1:=.sl .nil 0 []) (v2:=.sl .nil 0 []) (v3:=.sl .nil 0 []) rfl rfl rfl;have s1':FW Tryz.prog (H1++[ABlk.live 4 [FC]]++[ABlk.live 1 [F5]]) 28 (.ptr H1.length 0 0) (.agg FC)=_:=s1;have s2':FW Tryz.prog ((H1++[ABlk.live 4 [FC]]++[ABlk.live 1 [F5]]).set H1.length (ABlk.live 4 [H9 (.sl .nil 0 []) (.sl .nil 0 [])])) 47 (.ptr (H1++[ABlk.live 4 [FC]]).length 0 0) (.agg F5)=_:=s2;have g4':=FP hx5 (FP hx1 g4);have hx':=(hx.trans hx1).trans hx5;simp -implicitDefEqProofs only[zB,zG,EY,BC,BA,BI,A8,DI,AY,BB,AO,AQ,AL,BD,AX,AC,EM,AA,AZ,AU,BH,BG,A7,FD,G9,D5,BR,FI,GU,BZ,AB,CX,EK,↓reduceIte,jA,jB,jC,enP,jP,KE,VO,s1',s2',bne,hb,N8]
  generalize ((H1++[ABlk.live 4 [FC]]++[ABlk.live 1 [F5]]).set H1.length (ABlk.live 4 [H9 (.sl .nil 0 []) (.sl .nil 0 [])])).set (H1++[ABlk.live 4 [FC]]).length (ABlk.live 1 [[.sl .nil 0 []]])=H5 at g4' hx'|-
  simp -implicitDefEqProofs only[BK,A8,CP,AY,BB,AO,AQ,AL,BD,AX,AC,EM,AA,AZ,A7,CX,↓reduceIte,jB,jC,stZ g4' rfl];rw[KG (ba:=b4) (by simp -implicitDefEqProofs only[AA,↓reduceIte,jA]) (IM (D8 g4') rfl)];refine⟨hx'.set (by omega) _,?_⟩;unfold AL4 OB;rw[if_neg (fun q=>hne q.1),if_neg hne];rfl
 have hg:=LX h0;have hnp:m.pts.length<=16:=by have:=hg.num; omega
 obtain⟨s1,s2,g6,g7,hx5⟩:=A01 H1 (MG po (zP m)) (MG co (zC m)) EO.o3.leaf;have gm5:=FP hx5 (FP hx1 gm);have g45:=FP hx5 (FP hx1 g4);have hx':=(hx.trans hx1).trans hx5;have hle1:=hx1.le;have N5:=EO.nc.ext hx5;have q5:=ASP (outG.ext EO.o3 hx5)
 have hlb:∀b,NLB po pb (zP m) b∨NLB co cbs (zC m) b->b<H1.length:=fun b hb=>by
  rcases hb with hb|hb
  .exact(EO.nc.np.lt hb).2
  .exact(EO.nc.nc.lt hb).2
 have htl:(H1++[ABlk.live 4 [FC]]).length=H1.length+1:=by simp
 simp -implicitDefEqProofs only[zB,zG,BC,BP,BA,BO,BI,A8,DT,AY,BB,AO,AQ,AL,BD,AX,AC,EM,AA,AZ,AU,BH,BG,A7,FD,D5,BR,FI,GU,D7,BZ,AB,CX,EK,BF,BN,↓reduceIte,jA,jB,jT,jC,enP,A0Y,jP,KE,VO,s1,s2,bne,beq_self_eq_true,jI]
 generalize ((H1++[ABlk.live 4 [FC]]++[ABlk.live 1 [F5]]).set H1.length (ABlk.live 4 [H9 (nlV po (zP m)) (nlV co (zC m))])).set (H1++[ABlk.live 4 [FC]]).length (ABlk.live 1 [[v3]])=H5 at g6 g7 gm5 g45 hx' N5 q5|-
 generalize (H1++[ABlk.live 4 [FC]]).length=tb at g7 htl|-
 generalize H1.length=cb at g6 hlb htl hle1|-
 have S5:CS H0.length H5 cb tb po co pb cbs (zS m).P (zS m).C (zS m).sam (zS m).ill v3:=N5.cs g6 g7 (by omega) (fun b hb=>by have:=hlb b hb; omega)
 refine DK (fun n F H=>∃k st v3,n+k=l.length∧F 2=.ptr h.length 0 0∧F 4=.ptr b4 0 0∧F 6=.ptr cb 0 0∧F 7=.ptr tb 0 0∧F 22=.sl s 1 (l.map WE)∧F 23=.int .i64 (l.length:Nat)∧F 24=.int .i64 (k:Nat)∧H[h.length]?=some (.live 2 [D6 m])∧H[b4]?=some (.live 4 [FC]) ∧
   CS H0.length H cb tb po co pb cbs st.P st.C st.sam st.ill v3∧TLs H v3 st.ls∧StOk m st∧ext h H∧SL m (zS m) (l.map Ss.l)=SL m st ((l.drop k).map Ss.l)) l.length
  ⟨0,zS m,v3,by simp,by simp -implicitDefEqProofs only[AA,↓reduceIte,jA],by simp -implicitDefEqProofs only[AA,↓reduceIte,jA],by simp -implicitDefEqProofs only[AA,↓reduceIte,jA],by simp -implicitDefEqProofs only[AA,↓reduceIte,jA],by simp -implicitDefEqProofs only[AA,↓reduceIte,jA],by simp -implicitDefEqProofs only[AA,↓reduceIte,jA],by simp -implicitDefEqProofs only[AA,↓reduceIte]<;>rfl,gm5,g45,S5,q5,AZE m,hx',rfl⟩ ?_
 clear gm5 g45 S5 q5 hx' N5 g6 g7 s1 s2 hx5;rintro n F H ⟨k,st,v3',hk,f2,f4,f6,f7,f22,f23,f24,gmH,g4H,S,T,hok,hxH,hrun⟩;simp -implicitDefEqProofs only[BC,BA,BI,A8,AY,BB,AO,AQ,AL,BD,AX,AC,AA,AZ,BR,AB,DC,↓reduceIte,jB,jC,enP,f23,f24];refine CU (fun hc=>?_) (fun hc=>?_)
 .have hk':k<l.length:=by simpa using hc
  rw[zJ hk',jD] at hrun;simp -implicitDefEqProofs only[BC,BP,BA,BO,A8,AY,BB,AO,AQ,AL,BD,AX,AC,AA,AZ,BX,BG,A7,BQ,CE,CB,BU,AB,jD,jE,jF,↓reduceIte,jA,jB,jC,enP,A2W,f22,f24,DU hk',DF A1L hk',AUT,f2,ldM gmH,f6,f7];refine(AJM G hG hT m hm hg S hok.sh st.ls hok.ll (fun x hx=>by have:=hok.l7 x hx; omega) T l[k].l l[k].m (by have:=he _ (jS hk'); omega) hok.sm hok.il).mono ?_;intro v H' hQ;unfold A1M at hQ;rcases hQ with⟨e,hne,hfst,rfl,hxe⟩|⟨hfst,rfl,lb,hlb2,glb,S',hFr⟩
  .have hb:(e==0)=false:=by simpa using hne
   have hse:U0 m st l[k].l=e:=hfst;have g4':=FP hxe g4H;simp -implicitDefEqProofs only[EY,BC,BA,BK,BI,A8,CP,EG,FQ,DI,AY,BB,AO,AQ,AL,BD,AX,AC,EM,AA,AZ,AU,BH,BG,A7,G9,D5,BR,AB,CX,EK,↓reduceIte,jA,jB,jC,enP,jP,bne,hb,N8,f4,stZ g4' rfl];rw[KG (ba:=b4) (by simp -implicitDefEqProofs only[AA,↓reduceIte,jA,f4]) (IM (D8 g4') rfl)];refine⟨(hxH.trans hxe).set (by omega) _,?_⟩
   have hr:SL m (zS m) (l.map Ss.l)=(e,st):=by
    rw[hrun];show(if U0 m st l[k].l≠0 then (U0 m st l[k].l,st) else _)=_;rw[hse,if_pos hne]
   unfold AL4 OB;rw[if_neg (by rw[hr]; exact fun q=>hne q.2),if_pos h0,hr];simp -implicitDefEqProofs only[AA,↓reduceIte];rfl
  .have hse:U0 m st l[k].l=0:=hfst
   have hr:SL m (zS m) (l.map Ss.l)=SL m (stp m st l[k].l) ((l.drop (k+1)).map Ss.l):=by
    rw[hrun];show(if U0 m st l[k].l≠0 then (U0 m st l[k].l,st) else _)=_;rw[hse,if_neg (by decide)]
   have hpl:∀b∈pb,H0.length<=b:=S.np.lo;have hcl:∀b∈cbs,H0.length<=b:=S.nc.lo;have hhl:=hx.le;have gm':=hFr.get _ _ gmH (by omega) (by omega) (fun q=>by have:=hpl _ q; omega) (fun q=>by have:=hcl _ q; omega);have g4':=hFr.get _ _ g4H (by omega) (by omega) (fun q=>by have:=hpl _ q; omega) (fun q=>by have:=hcl _ q; omega);have hx2:=hFr.ext hxH (by omega) (by omega) (fun b hb=>by have:=hpl _ hb; omega) (fun b hb=>by have:=hcl _ hb; omega)
   have T':TLs H' (.own lb 0 m.pts.length) (stp m st l[k].l).ls:=by
    refine .inr (.inr ⟨lb,_,?_,glb,RowsL.map _⟩);rw[(hok.step l[k].l).ll]
   simp -implicitDefEqProofs only[BC,BA,BO,BI,A8,EJ,EQ,DT,AY,BB,AO,AQ,AL,BD,AX,AC,AA,AZ,AU,BH,BG,A7,BR,AB,CZ,EK,↓reduceIte,jA,jB,jT,jC,enP,bne,beq_self_eq_true,f24,wrap_succ (show k<9223372036854775807 by omega)];exact⟨n-1,by omega,k+1,stp m st l[k].l,_,by omega,by trivial,by trivial,by trivial,by trivial,by trivial,by trivial,by trivial,gm',g4',S',T',hok.step _,hx2,hr⟩
 .have hk':¬k<l.length:=by simpa using hc
  rw[jW (by omega)] at hrun;have hr:SL m (zS m) (l.map Ss.l)=(0,st):=hrun;simp -implicitDefEqProofs only[BC,BA,BK,DJ,A8,EI,EW,ET,AY,BB,AO,AQ,AL,BD,AX,AC,EM,AA,AZ,AU,BH,A7,BQ,D5,AB,CX,↓reduceIte,jA,jB,jC,enP,jP,f4,f6,IM S.gc rfl,AZM g4H rfl];rw[KG (ba:=b4) (by simp -implicitDefEqProofs only[AA,↓reduceIte,jA,f4]) (IM (D8 g4H) rfl)];refine⟨hxH.set (by omega) _,?_⟩;have np':NL H0.length (H.set b4 (.live 4 [cvR po st.P co st.C st.sam st.ill])) po pb st.P:=S.np.keep fun b x hb hg=>CW hg (by have:=S.np.lt hb; omega)
  have nc':NL H0.length (H.set b4 (.live 4 [cvR po st.P co st.C st.sam st.ill])) co cbs st.C:=S.nc.keep fun b x hb hg=>CW hg (by have:=S.nc.lt hb; omega)
  have e1:=AVC st np' nc' h.length 0 hx.le;unfold AL4 OB;rw[if_pos (by rw[hr]; exact⟨h0,rfl⟩),if_pos h0,hr];simp -implicitDefEqProofs only[AA,↓reduceIte];show AV.tup [IV h.length _ 4 (.agg (cvR po st.P co st.C st.sam st.ill)),.int .i64 0]=_;rw[e1]
def A5R:Bin:=mkB ⟨#[108,111,119]⟩ 0 0 1
def A31:Bin:=⟨⟨#[115,116,101,112]⟩,0,⟨.nil,[]⟩,.full,[⟨.full,[⟨0,0⟩]⟩,⟨.full,[⟨1,1⟩]⟩]⟩
def A5S:Bin:=mkB ⟨#[98,97,100]⟩ 2 3 3
def eP:Pt:=⟨⟨#[112]⟩,A22,.full,[A5R,A31,A5S]⟩
def eC:Cr:=⟨⟨#[99]⟩,.full,[0,1],.nil,[]⟩
def rL:List AV:=rowB ⟨#[108,111,119]⟩ 0 0 1
def rSt:List AV:=[.str ⟨#[115,116,101,112]⟩,.int .i64 0,.sl .nil 0 [],.sl .full 1 [[.sl .full 2 [[.int .i64 0,.int .i64 0]]],[.sl .full 2 [[.int .i64 1,.int .i64 1]]]]]
def rBa:List AV:=rowB ⟨#[98,97,100]⟩ 2 3 3
def rX:List AV:=rowB ⟨#[120]⟩ 0 0 0
def rY:List AV:=rowB ⟨#[121]⟩ 0 1 9
def rE:List AV:=[.int .i64 2,.int .i64 0,.str ⟨#[97]⟩,.sl .nil 0 []]
structure Se6 (h H:Hp) (b1 b2 b3 b4 b5 b6:Nat):Prop where
 g0:H[h.length]?=some (.live 2 [[.sl .nil 0 [],.sl .nil 0 []]])
 g1:H[b1]?=some (.live 4 [rE])
 g2:H[b2]?=some (.live 4 [rL])
 g3:H[b3]?=some (.live 4 [rSt])
 g4:H[b4]?=some (.live 4 [rBa])
 g5:H[b5]?=some (.live 4 [rX])
 g6:H[b6]?=some (.live 4 [rY])
 hx:ext h H
theorem Se6.mk' (h:Hp):Se6 h (h++[ABlk.live 2 [[.sl .nil 0 [],.sl .nil 0 []]]]++[ABlk.live 4 [rE]]++[ABlk.live 4 [rL]]++[ABlk.live 4 [rSt]]++[ABlk.live 4 [rBa]]++[ABlk.live 4 [rX]]++[ABlk.live 4 [rY]])
  (h++[ABlk.live 2 [[.sl .nil 0 [],.sl .nil 0 []]]]).length (h++[ABlk.live 2 [[.sl .nil 0 [],.sl .nil 0 []]]]++[ABlk.live 4 [rE]]).length (h++[ABlk.live 2 [[.sl .nil 0 [],.sl .nil 0 []]]]++[ABlk.live 4 [rE]]++[ABlk.live 4 [rL]]).length
  (h++[ABlk.live 2 [[.sl .nil 0 [],.sl .nil 0 []]]]++[ABlk.live 4 [rE]]++[ABlk.live 4 [rL]]++[ABlk.live 4 [rSt]]).length (h++[ABlk.live 2 [[.sl .nil 0 [],.sl .nil 0 []]]]++[ABlk.live 4 [rE]]++[ABlk.live 4 [rL]]++[ABlk.live 4 [rSt]]++[ABlk.live 4 [rBa]]).length
  (h++[ABlk.live 2 [[.sl .nil 0 [],.sl .nil 0 []]]]++[ABlk.live 4 [rE]]++[ABlk.live 4 [rL]]++[ABlk.live 4 [rSt]]++[ABlk.live 4 [rBa]]++[ABlk.live 4 [rX]]).length :=
 ⟨CV (CV (CV (CV (CV (CV (CY _ _)))))),CV (CV (CV (CV (CV (CY _ _))))),CV (CV (CV (CV (CY _ _)))),CV (CV (CV (CY _ _))),CV (CV (CY _ _)),CV (CY _ _),CY _ _,((((((ext.rfl' h).app _).app _).app _).app _).app _).app _ |>.app _⟩
section
variable (G:Nat->AV)
end
theorem AUC (xs:List Nat)(k:Nat):Rk.hasB (xs.map fun n:Nat=>(n:Int)) (k:Nat)=decide (k∈xs):=by
 unfold Rk.hasB;rw[Bool.eq_iff_iff,List.any_eq_true,decide_eq_true_iff];constructor
 .rintro⟨x,hx,he⟩
  obtain⟨n,hn,rfl⟩:=zO.1 hx;have:=eq_of_beq he;have:n=k:=by omega
  subst this; exact hn
 .intro hk
  exact⟨_,zO.2 ⟨k,hk,rfl⟩,by simp⟩
theorem getD_at (xs:List Int)(k:Nat)(hk:k<xs.length):xs.getD k 0=xs[k]:=by rw[zQ,jU hk]; rfl
theorem AHK (xs:List Int)(b k:Nat)(hb:b<xs.length):(raiseAt xs b).getD k 0=if b=k then rz (xs.getD b 0) else xs.getD k 0:=by
 unfold raiseAt;rw[zQ,List.getElem?_set];split
 .rfl
 .rw[zQ]
theorem AAH (k:Nat):∀(hit:List Nat) (xs:List Int),hit.Nodup->(∀x∈hit,x<xs.length)->(rowP hit xs).getD k 0=if k∈hit then rz (xs.getD k 0) else xs.getD k 0
 | [],xs,_,_=>by simp [rowP]
 | b::hit,xs,hn,hl=>by
   obtain⟨h1,h2⟩:=List.nodup_cons.1 hn;have hb:=hl b (by simp);have ih:=AAH k hit (raiseAt xs b) h2 (fun x hx=>by rw[TB]; exact hl x (by simp [hx]));have e:rowP (b::hit) xs=rowP hit (raiseAt xs b):=rfl;rw[e,ih,AHK xs b k hb];by_cases hk:k∈hit
   .have hne:b≠k:=fun q=>h1 (by rw[q]; exact hk)
    rw[if_pos hk,if_neg hne,if_pos (by simp [hk])]
   .rw[if_neg hk]
    by_cases hbk:b=k
    .subst hbk
     rw[if_pos rfl,if_pos (by simp)]
    .rw[if_neg hbk,if_neg (by simp [hk]; exact fun q=>hbk q.symm)]
theorem ABN (bins:List Bin)(last:List Int)(v kind:Int):∀k,(NM bins last v kind k).Nodup
 | 0=>by simp [NM]
 | k+1=>by
   have ih:=ABN bins last v kind k;simp only[NM];split
   .refine List.nodup_append.2 ⟨ih,by simp,fun a ha c hc e=>?_⟩
    simp at hc;have:=AD3 bins last v kind k a ha;omega
   .simpa using ih
theorem AF4 (p:Pt)(last:List Int)(l:List Sg):(ptE p last l).hit.Nodup:=by
 unfold ptE;split
 .simp
 .split
  .simp
  .split
   .simp
   .split
    .simp
    .exact ABN _ _ _ _ _
theorem AD4 (bins:List Bin)(last:List Int)(v:Int):∀k,∀x∈NM bins last v 0 k,∃b,bins[x]?=some b∧(b.kind==0)=true
 | 0,x,hx=>by simp [NM] at hx
 | k+1,x,hx=>by
   simp only[NM] at hx;rcases qE.1 hx with h|h
   .exact AD4 bins last v k x h
   .split at h
    .rename_i hq
     simp at h; subst h
     cases hb:bins[x]? with
     | none=>rw[hb] at hq; cases hq
     | some b =>
       rw[hb] at hq;have hK1:hK last v 0 b=true:=hq;unfold hK at hK1;rw[jV] at hK1;exact⟨b,rfl,hK1.1⟩
    .cases h
theorem ATC (p:Pt)(last:List Int)(l:List Sg):∀x∈(ptE p last l).hit,(kindOf p x==0)=true:=by
 intro x hx;unfold ptE at hx;split at hx
 .cases hx
 .split at hx
  .cases hx
  .split at hx
   .cases hx
   .split at hx
    .cases hx
    .obtain⟨b,h1,h2⟩:=AD4 _ _ _ _ x hx
     unfold kindOf; rw[h1]; exact h2
theorem VW {p:Nat->Bool}:∀ {l:List Int} {k:Nat},PH p k l=true↔∀j,j<l.length->countB (l.getD j 0) (p (k+j))=true
 | [],k=>by simp [PH]
 | n::l,k=>by
   simp only[PH,jV];rw[VW (l:=l) (k:=k+1)];constructor
   .rintro⟨h1,h2⟩ j hj
    cases j with
    | zero=>exact h1
    | succ j =>
      have:=h2 j (by simpa using hj);rw[show k+(j+1)=k+1+j by omega]; exact this
   .intro h
    refine⟨h 0 (by simp),fun j hj=>?_⟩;have:=h (j+1) (by simpa using hj);rw[show k+(j+1)=k+1+j by omega] at this; exact this
theorem AGQ {n:Int}{p:Bool}(h:countB n p=true)(hp:p=true):countB (rz n) p=true:=by
 have h1:=XV h;subst hp;unfold countB;simp only[wE,Bool.and_true];rw[IZ] at *;unfold rz; omega
theorem ATJ {p:Pt}{last:List Int}{env:List Sg}{x y:Is}(hx:okP p x=true)(hy:y.l=rowP (ptE p last env).hit x.l):okP p y=true:=by
 unfold okP at *;simp only[jV,beq_iff_eq] at *;rw[hy,UC];refine⟨hx.1,VW.2 fun j hj=>?_⟩;rw[UC] at hj;have h2:=VW.1 hx.2 j hj;rw[AAH j _ _ (AF4 _ _ _) (fun z hz=>by rw[hx.1]; exact AL9 _ _ _ z hz)];split
 .rename_i hm
  exact AGQ h2 (by rw[jG]; exact ATC _ _ _ j hm)
 .exact h2
theorem AF1 (m:Mo)(x:Cr)(hits:List (List Nat))(xs:List Int)(k:Nat)(hk:k<xs.length):(rowC m x hits xs).getD k 0=if crK m x hits k=true then rz (xs.getD k 0) else xs.getD k 0:=by
 have hl:k<(rowC m x hits xs).length:=by rw[RI]; exact hk
 rw[getD_at _ _ hl,AJU m x hits xs k hk hl,getD_at _ _ hk]
theorem ATK {m:Mo}{c:Cr}{hits:List (List Nat)}{x y:Is}(hx:okC m c x=true)(hy:y.l=rowC m c hits x.l):okC m c y=true:=by
 unfold okC at *;simp only[jV,beq_iff_eq] at *;rw[hy,RI];refine⟨hx.1,VW.2 fun j hj=>?_⟩;rw[RI] at hj;have h2:=VW.1 hx.2 j hj;rw[AF1 m c hits _ j hj];split
 .rename_i hm
  unfold crK at hm;rw[jV] at hm;exact AGQ h2 (by rw[jG]; exact hm.1)
 .exact h2
theorem AH3 {α:Type}{ok:α->Is->Bool}:∀ {ws:List α} {xs:List Is},ws.length=xs.length->(∀(i:Nat) (a:α) (x:Is),ws[i]?=some a->xs[i]?=some x->ok a x=true)->KA ok ws xs=true
 | [],[],_,_=>rfl
 | w::ws,x::xs,hl,h=>by
   simp only[KA,jV];exact⟨h 0 w x rfl rfl,AH3 (by simpa using hl) fun i a y h1 h2=>h (i+1) a y (by simpa using h1) (by simpa using h2)⟩
 | [],_::_,hl,_=>by simp at hl
 | _::_,[],hl,_=>by simp at hl
def stO (c:Cvr)(t:Tk):St:=⟨c.pts.map Is.l,c.crs.map Is.l,c.sam,c.ill,t.last.map Is.l⟩
def isL (P:List (List Int)):List Is:=P.map fun x=>⟨nm x,x⟩
def tkS (s:St):Tk:=⟨nm (isL s.ls),isL s.ls⟩
structure FitS (m:Mo) (s:St):Prop where
 me:EU m=0
 fp:KA okP m.pts (QW s.P)=true
 fc:KA (okC m) m.crs (QW s.C)=true
 ws:II s.sam=true
 wi:II s.ill=true
 ll:s.ls.length=m.pts.length
 lb:∀l∈s.ls,lastB l=true
theorem AOX {p:Pt}{x y:Is}(h:x.l=y.l):okP p x=okP p y:=by unfold okP; rw[h]
theorem AOZ {m:Mo}{c:Cr}{x y:Is}(h:x.l=y.l):okC m c x=okC m c y:=by unfold okC; rw[h]
theorem SE (P:List (List Int)):(QW P).map (·.l)=P:=by unfold QW; rw[List.map_map]; exact List.map_id _
theorem ACU {m:Mo}{c:Cvr}{t:Tk}(hc:GK m c=true)(ht:AB7 m t=true):FitS m (stO c t):=by
 obtain⟨h1,h2,h3,h4,h5⟩:=JK.1 hc;unfold AB7 at ht;simp only[jV,beq_iff_eq] at ht;obtain⟨⟨_,k1⟩,k2⟩:=ht;refine⟨h1,?_,?_,h4,h5,?_,fun l hl=>?_⟩
 .rw[<-h2]
  exact RY (ok:=okP) (fun _ _ _ h=>AOX h) _ _ _ (SE _)
 .rw[<-h3]
  exact RY (ok:=okC m) (fun _ _ _ h=>AOZ h) _ _ _ (SE _)
 .show(t.last.map Is.l).length=_
  rw[jI]; omega
 .obtain⟨x,hx,rfl⟩:=zO.1 hl
  exact zI.1 k2 x hx
theorem FitS.fits {m:Mo}{s:St}(h:FitS m s):GK m (cvS s)=true:=JK.2 ⟨h.me,h.fp,h.fc,h.ws,h.wi⟩
theorem FitS.trk {m:Mo}{s:St}(h:FitS m s):AB7 m (tkS s)=true:=by
 unfold AB7 tkS isL;have h1:=h.me; have h2:=h.ll;simp only[jV,beq_iff_eq,jI,List.all_map];refine⟨⟨h1,by omega⟩,?_⟩;rw[zI];exact fun x hx=>h.lb x hx
theorem UG {α:Type}{ok:α->Is->Bool}{ws:List α}{xs:List Is}(h:KA ok ws xs=true)(i:Nat)(a:α)(x:Is)(h1:ws[i]?=some a)(h2:xs[i]?=some x):ok a x=true:=by
 obtain⟨y,hy,hk⟩:=UH h i a h1;rw[h2] at hy; cases hy; exact hk
theorem FitS.ok {m:Mo}{s:St}(h:FitS m s):StOk m s:=by
 have lp:=NR h.fp;have lc:=NR h.fc;have hpl:s.P.length=m.pts.length:=by rw[lp]; simp [QW]
 have hcl:s.C.length=m.crs.length:=by rw[lc]; simp [QW]
 refine⟨⟨hpl,hcl,fun i a b=>?_,fun i a b=>?_,fun xs hx=>?_,fun xs hx=>?_⟩,h.ll,fun l hl=>?_,IZ.1 h.ws,IZ.1 h.wi⟩
 .have:=UG h.fp i m.pts[i] ⟨.any,s.P[i]⟩ (jU b) (by simp [QW])
  unfold okP at this;simp only[jV,beq_iff_eq] at this;exact this.1
 .have:=UG h.fc i m.crs[i] ⟨.any,s.C[i]⟩ (jU b) (by simp [QW])
  unfold okC at this;simp only[jV,beq_iff_eq] at this;exact this.1
 .obtain⟨i,hi,rfl⟩:=qX hx
  have:=UG h.fp i m.pts[i] ⟨.any,s.P[i]⟩ (jU (by omega)) (by simp [QW]);unfold okP at this;rw[jV] at this;exact fun n hn=>IZ.1 (P7 this.2 n hn)
 .obtain⟨i,hi,rfl⟩:=qX hx
  have:=UG h.fc i m.crs[i] ⟨.any,s.C[i]⟩ (jU (by omega)) (by simp [QW]);unfold okC at this;rw[jV] at this;exact fun n hn=>IZ.1 (P7 this.2 n hn)
 .have:=h.lb l hl
  unfold lastB at this;rw[jV] at this;simpa using this.1
theorem AC4 {n:Int}(h:II n=true):II (rz n)=true:=by
 rw[IZ] at *;unfold rz; omega
theorem A1A (l:List Sg)(e:Ex):(evE l e).1<65536:=by
 unfold evE;split
 .decide
 .split
  .exact AOB l e
  .decide
theorem X9 {last:List Int}{v:Nat}(hl:lastB last=true)(hv:v<65536):lastB (nextL last v)=true:=by
 unfold lastB at *;simp only[jV,decide_eq_true_eq,Bool.not_eq_true'] at *;obtain⟨h1,h2⟩:=hl;refine⟨?_,?_⟩
 .unfold nextL; rw[List.length_drop,qB]; simp; omega
 .rw[List.any_eq_false] at *
  intro x hx;have hx':=List.mem_of_mem_drop hx;rcases qE.1 hx' with h|h
  .exact h2 x h
  .simp at h; subst h
   unfold outW;simp; omega
theorem ATB {p:Pt}{last:List Int}{l:List Sg}(h0:(ptE p last l).err=0):lastB (ptE p last l).next=true:=by
 have hv:=A1A l p.ex;unfold ptE at *;split at h0
 .cases h0
 .rename_i hn
  have hlb:lastB last=true:=by
   cases hq:lastB last
   .exact absurd (.inr hq) hn
   .rfl
  rw[if_neg hn];split at h0
  .rename_i h1
   exact absurd h0 h1
  .rename_i h1
   rw[if_neg h1];split
   .exact X9 hlb hv
   .split
    .exact X9 hlb hv
    .exact X9 hlb hv
theorem FitS.step {m:Mo}{s:St}(h:FitS m s){env:List Sg}(h0:U0 m s env=0):FitS m (stp m s env):=by
 have hok:=h.ok;have hr:=Y6 m s.ls env h.ll;have hpl:=hok.sh.pl;have hcl:=hok.sh.cl;have l1:=YZ (QI m s.ls env) s.P (by omega);have l2:=Y2 m ((QI m s.ls env).map PtR.hit) s.C hcl;refine⟨h.me,?_,?_,AC4 h.ws,?_,by simp [stp,hr],fun l hl=>?_⟩
 .refine AH3 (by simp [QW,stp,l1]; omega) fun i a x e1 e2=>?_
  have hi:i<m.pts.length:=CJ e1;rw[jU hi] at e1; cases e1
  have hx:x.l=rowP (ptE m.pts[i] (s.ls[i]'(by rw[h.ll]; exact hi)) env).hit (s.P[i]'(by omega)):=by
   unfold QW at e2;rw[zH] at e2
   have:(stp m s env).P[i]?=some (rowP ((QI m s.ls env)[i]'(by omega)).hit (s.P[i]'(by omega))):=by
    show(MC (QI m s.ls env) s.P)[i]?=_;rw[jU (by omega),Y0 _ _ i (by omega) (by omega)]
   rw[this] at e2; cases e2;rw[ADP m s.ls env i hi (by rw[h.ll]; exact hi) (by omega)]
  exact ATJ (UG h.fp i m.pts[i] ⟨.any,s.P[i]'(by omega)⟩ (jU hi) (by simp [QW]<;>omega)) hx
 .refine AH3 (by simp [QW,stp,l2]; omega) fun i a x e1 e2=>?_
  have hi:i<m.crs.length:=CJ e1;rw[jU hi] at e1; cases e1
  have hx:x.l=rowC m m.crs[i] ((QI m s.ls env).map PtR.hit) (s.C[i]'(by omega)):=by
   unfold QW at e2;rw[zH] at e2
   have:(stp m s env).C[i]?=some (rowC m m.crs[i] ((QI m s.ls env).map PtR.hit) (s.C[i]'(by omega))):=by
    show(NW m ((QI m s.ls env).map PtR.hit) s.C)[i]?=_;rw[jU (by omega),Y3 _ _ _ i hi (by omega)]
   rw[this] at e2; cases e2;rfl
  exact ATK (UG h.fc i m.crs[i] ⟨.any,s.C[i]'(by omega)⟩ (jU hi) (by simp [QW]<;>omega)) hx
 .unfold stp
  dsimp only
  split
  .exact AC4 h.wi
  .exact h.wi
 .obtain⟨r,hrm,rfl⟩:=zO.1 hl
  have he:=ZE PtR.err h0 r hrm;obtain⟨p,hp,rfl⟩:=zO.1 hrm;exact ATB he
theorem AZ5 {m:Mo}(h:EU m=0):FitS m (zS m):=by
 refine⟨h,?_,?_,by show II 0=true; decide,by show II 0=true; decide,(AZE m).ll,fun l hl=>?_⟩
 .rw[show KA okP m.pts (QW (zS m).P)=KA okP m.pts (m.pts.map fun p=>zIs p.bins.length) from RY (ok:=okP) (fun _ _ _ h=>AOX h) _ _ _ (by rw[SE]; simp [zS,zP,zIs])]
  exact WB (ok:=okP) _ (fun p=>by unfold okP; simp [zIs,UD]; simp [zeros]) _
 .rw[show KA (okC m) m.crs (QW (zS m).C)=KA (okC m) m.crs (m.crs.map fun c=>zIs (GL (szs m c.pts))) from RY (ok:=okC m) (fun _ _ _ h=>AOZ h) _ _ _ (by rw[SE]; simp [zS,zC,zIs])]
  exact WB (ok:=okC m) _ (fun c=>by unfold okC; simp [zIs,UD]; simp [zeros]) _
 .rw[List.eq_of_mem_replicate hl]; decide
structure Sx (h H:Hp) (m:Mo) (c:Cvr) (t:Tk) (vb tb b8 b9 n0 K ob nb po co:Nat) (pb cbs:List Nat) (P C:List (List Int)) (sam ill:Int) (w:AV):Prop where
 gm:H[h.length]?=some (.live 2 [D6 m])
 gv:H[vb]?=some (.live 4 [ER c])
 gt:H[tb]?=some (.live 1 [KF t])
 g8:H[b8]?=some (.live 4 [FC])
 g9:H[b9]?=some (.live 1 [F5])
 o1:h.length<vb
 o2:vb<tb
 o3:tb<b8
 o4:b8<b9
 o5:b9<n0
 cs:CS n0 H ob nb po co pb cbs P C sam ill w
 lo:n0<=ob
 ln:n0<=nb
 ho:ob<K
 hn:nb<K
 hp:∀b∈pb,b<K
 hc:∀b∈cbs,b<K
 hpo:P≠[]->po<K
 hco:C≠[]->co<K
 kh:K<=H.length
 hx:ext h H
section
variable {h H:Hp} {m:Mo} {c:Cvr} {t:Tk} {vb tb b8 b9 n0 K ob nb po co:Nat} {pb cbs:List Nat} {P C:List (List Int)} {sam ill:Int} {w:AV} (S:Sx h H m c t vb tb b8 b9 n0 K ob nb po co pb cbs P C sam ill w)
include S
theorem Sx.keep {H':Hp}(hk:∀(b:Nat) (x:ABlk),b<K->H[b]?=some x->H'[b]?=some x)(hl:K<=H'.length)(hx:Sm.ext h H'):Sx h H' m c t vb tb b8 b9 n0 K ob nb po co pb cbs P C sam ill w:=by
 have o1:=S.o1; have o2:=S.o2; have o3:=S.o3; have o4:=S.o4; have o5:=S.o5; have lo:=S.lo; have ho:=S.ho;have cs:=S.cs
 refine⟨hk _ _ (by omega) S.gm,hk _ _ (by omega) S.gv,hk _ _ (by omega) S.gt,hk _ _ (by omega) S.g8,hk _ _ (by omega) S.g9,o1,o2,o3,o4,o5,
  ⟨hk _ _ S.ho cs.gc,hk _ _ S.hn cs.gt,cs.np.keep fun b x hb hg=>?_,cs.nc.keep fun b x hb hg=>?_,cs.dis,cs.xcp,cs.xcc,cs.xtp,cs.xtc,cs.xpo,cs.xco,cs.ct⟩,S.lo,S.ln,S.ho,S.hn,S.hp,S.hc,S.hpo,S.hco,hl,hx⟩
 .rcases hb with⟨hP,rfl⟩|hb
  .exact hk _ _ (S.hpo hP) hg
  .exact hk _ _ (S.hp _ hb) hg
 .rcases hb with⟨hC,rfl⟩|hb
  .exact hk _ _ (S.hco hC) hg
  .exact hk _ _ (S.hc _ hb) hg
theorem Sx.app (x:Hp):Sx h (H++x) m c t vb tb b8 b9 n0 K ob nb po co pb cbs P C sam ill w:=S.keep (fun _ _ _ hg=>FX hg) (by have:=S.kh; simp; omega) (S.hx.app x)
theorem Sx.setP {i:Nat}(hi:i<pb.length)(ys:List Int)(hl:∀hx:i<P.length,ys.length=P[i].length):Sx h (H.set pb[i] (.live 1 (ys.map encI))) m c t vb tb b8 b9 n0 K ob nb po co pb cbs (P.set i ys) C sam ill w:=by
 have o1:=S.o1; have o2:=S.o2; have o3:=S.o3; have o4:=S.o4; have o5:=S.o5;have hb:=S.cs.np.lo _ (jS hi);exact⟨CW S.gm (by omega),CW S.gv (by omega),CW S.gt (by omega),CW S.g8 (by omega),CW S.g9 (by omega),o1,o2,o3,o4,o5,S.cs.setP hi ys hl,S.lo,S.ln,S.ho,S.hn,S.hp,S.hc,fun q=>S.hpo (fun e=>q (by rw[e]; rfl)),S.hco,by rw[qI]; exact S.kh,S.hx.set (by omega) _⟩
theorem Sx.setC {i:Nat}(hi:i<cbs.length)(ys:List Int)(hl:∀hx:i<C.length,ys.length=C[i].length):Sx h (H.set cbs[i] (.live 1 (ys.map encI))) m c t vb tb b8 b9 n0 K ob nb po co pb cbs P (C.set i ys) sam ill w:=by
 have o1:=S.o1; have o2:=S.o2; have o3:=S.o3; have o4:=S.o4; have o5:=S.o5;have hb:=S.cs.nc.lo _ (jS hi);exact⟨CW S.gm (by omega),CW S.gv (by omega),CW S.gt (by omega),CW S.g8 (by omega),CW S.g9 (by omega),o1,o2,o3,o4,o5,S.cs.setC hi ys hl,S.lo,S.ln,S.ho,S.hn,S.hp,S.hc,S.hpo,fun q=>S.hco (fun e=>q (by rw[e]; rfl)),by rw[qI]; exact S.kh,S.hx.set (by omega) _⟩
theorem Sx.setT (w':AV):Sx h (H.set nb (.live 1 [[w']])) m c t vb tb b8 b9 n0 K ob nb po co pb cbs P C sam ill w':=by
 have o1:=S.o1; have o2:=S.o2; have o3:=S.o3; have o4:=S.o4; have o5:=S.o5; have ln:=S.ln;exact⟨CW S.gm (by omega),CW S.gv (by omega),CW S.gt (by omega),CW S.g8 (by omega),CW S.g9 (by omega),o1,o2,o3,o4,o5,S.cs.setT w',S.lo,S.ln,S.ho,S.hn,S.hp,S.hc,S.hpo,S.hco,by rw[qI]; exact S.kh,S.hx.set (by omega) _⟩
theorem Sx.setN (sam' ill':Int):Sx h (H.set ob (.live 4 [cvR po P co C sam' ill'])) m c t vb tb b8 b9 n0 K ob nb po co pb cbs P C sam' ill' w:=by
 have o1:=S.o1; have o2:=S.o2; have o3:=S.o3; have o4:=S.o4; have o5:=S.o5; have lo:=S.lo;exact⟨CW S.gm (by omega),CW S.gv (by omega),CW S.gt (by omega),CW S.g8 (by omega),CW S.g9 (by omega),o1,o2,o3,o4,o5,S.cs.setN sam' ill',S.lo,S.ln,S.ho,S.hn,S.hp,S.hc,S.hpo,S.hco,by rw[qI]; exact S.kh,S.hx.set (by omega) _⟩
theorem Sx.m0:EH Tryz.prog H 22 (.ptr h.length 0 0)=some (.sl m.pm 6 (m.pts.map GM)):=by rw[DW WN S.gm (row:=D6 m) rfl,QA]
theorem Sx.m1:EH Tryz.prog H 23 (.ptr h.length 0 1)=some (.sl m.cm 3 (m.crs.map GG)):=by rw[DW AA5 S.gm (row:=D6 m) rfl,UI]
theorem Sx.v0:EH Tryz.prog H 26 (.ptr vb 0 0)=some (.sl c.pm 1 (c.pts.map encL)):=by rw[DW QX S.gv (row:=ER c) rfl,AKY]
theorem Sx.v1:EH Tryz.prog H 26 (.ptr vb 0 1)=some (.sl c.cm 1 (c.crs.map encL)):=by rw[DW QX S.gv (row:=ER c) rfl,AKX]
theorem Sx.v2:EH Tryz.prog H 3 (.ptr vb 0 2)=some (.int .i64 c.sam):=by rw[DW ag3 S.gv (row:=ER c) rfl,APR]
theorem Sx.v3:EH Tryz.prog H 3 (.ptr vb 0 3)=some (.int .i64 c.ill):=by rw[DW ag3 S.gv (row:=ER c) rfl,APQ]
theorem Sx.t0:EH Tryz.prog H 26 (.ptr tb 0 0)=some (.sl t.m 1 (t.last.map encL)):=by rw[DW QX S.gt (row:=KF t) rfl,AZV]
theorem Sx.rowP {i:Nat}(hi:i<P.length)(hip:i<pb.length):EH Tryz.prog H 26 (.ptr ob 0 0)=some (nlV po P)∧KH 1 H (nlV po P) (.int .i64 (i:Nat))=some (.ptr po i 0)∧EH Tryz.prog H 57 (.ptr po i 0)=some (.own pb[i] 0 P[i].length)∧H[pb[i]]?=some (.live 1 (P[i].map encI)) :=
 ⟨S.cs.l0,S.cs.np.ix hi,S.cs.np.ld hi,S.cs.np.row i hip hi⟩
theorem Sx.rowC {i:Nat}(hi:i<C.length)(hip:i<cbs.length):EH Tryz.prog H 26 (.ptr ob 0 1)=some (nlV co C)∧KH 1 H (nlV co C) (.int .i64 (i:Nat))=some (.ptr co i 0)∧EH Tryz.prog H 57 (.ptr co i 0)=some (.own cbs[i] 0 C[i].length)∧H[cbs[i]]?=some (.live 1 (C[i].map encI)) :=
 ⟨S.cs.l1,S.cs.nc.ix hi,S.cs.nc.ld hi,S.cs.nc.row i hip hi⟩
end
theorem AT0 {H:Hp}{b:Nat}{xs:List Int}(hb:H[b]?=some (.live 1 (xs.map encI))){k:Nat}(hk:k<xs.length):KH 1 H (.own b 0 xs.length) (.int .i64 (k:Nat))=some (.ptr b k 0):=by
 have:=L6 (kk:=.i64) (off:=0) (len:=xs.length) hb hk;rw[jG] at this; exact this
theorem ASV {H:Hp}{b:Nat}{xs:List Int}(hb:H[b]?=some (.live 1 (xs.map encI))){k:Nat}(hk:k<xs.length)(v:Int):FW Tryz.prog H 3 (.ptr b k 0) (.int .i64 v)=some (H.set b (.live 1 ((xs.set k v).map encI))):=by
 rw[KU (PV _ _) sz3 hb (ND hk) (by simp [encI]),List.map_set];rfl
def RF (m:Mo)(c:Cvr)(t:Tk)(env:List Sg):Int:=if EU m=0 then (if(GK m c&&AB7 m t)=true then U0 m (stO c t) env else 1) else EU m
def YY (m:Mo)(c:Cvr)(t:Tk)(env:List Sg):Cvr:=if RF m c t env=0 then cvS (stp m (stO c t) env) else zV
def ADF (m:Mo)(c:Cvr)(t:Tk)(env:List Sg):Tk:=if RF m c t env=0 then tkS (stp m (stO c t) env) else zT
def tkW (s:St):List AV:=[fzG 1 MB s.ls]
theorem AZ9 (s:St):CvR (.agg (tkW s)) (.agg (KF (tkS s))):=by
 refine CvR.agg (CvRL.cons ?_ CvRL.nil);have h1:CvR (fzG 1 MB s.ls) (.sl (nm s.ls) 1 (s.ls.map MB)):=TS;have e:(isL s.ls).map encL=s.ls.map MB:=by unfold isL; rw[List.map_map]; rfl
 have e2:nm (isL s.ls)=nm s.ls:=by unfold isL; cases s.ls<;>rfl
 show CvR (fzG 1 MB s.ls) (.sl (nm (isL s.ls)) 1 ((isL s.ls).map encL));rw[e,e2]; exact h1
def AHE (m:Mo)(c:Cvr)(t:Tk)(env:List Sg):AV:=if RF m c t env=0 then .tup [.agg (cvW (stp m (stO c t) env)),.agg (tkW (stp m (stO c t) env)),.int .i64 0] else .tup [.agg FC,.agg F5,.int .i64 (RF m c t env)]
theorem AWO (m:Mo)(c:Cvr)(t:Tk)(env:List Sg):CvR (AHE m c t env) (.tup [.agg (ER (YY m c t env)),.agg (KF (ADF m c t env)),.int .i64 (RF m c t env)]):=by
 unfold AHE YY ADF;split
 .rename_i h
  rw[h];exact CvR.tup (CvRL.cons (AU5 _) (CvRL.cons (AZ9 _) (CvRL.refl _)))
 .exact AM2 _
end Go.Proofs.YtocilianjfhifaaGreatDoor.Xe
