/- Part 14 of the proof (X12, X13, X14, X15, X16, X19, X20); no condition. -/
import Derived.Test.YtocilianjfhifaaGreatDoorYD13
set_option linter.unusedVariables false
set_option linter.unusedSimpArgs false
set_option maxRecDepth 8000
namespace Go.Proofs.YtocilianjfhifaaGreatDoor.Xe
open Sm Bins Cov Wd Go.RowKit
open Bool renaming not_false→jC,not_true→jR,and_eq_true→jV,true_and→wB,true_or→wC,or_false→jT,or_true→qY
open List renaming map_cons→jD,map_nil→jE,append_nil→jF,getElem?_cons_zero→zB,getElem?_cons_succ→zG,length_map→jI,getElem_mem→jQ,drop_eq_getElem_cons→zK,drop_eq_nil_of_le→jW,mem_append→qC,take_succ_eq_append_getElem→zL,contains_cons→jU,contains_nil→jJ,take_zero→zQ,length_take→zD,length_set→qI,take_of_length_le→jX,length_append→zW,mem_map→zM,replicate→jZ,getElem?_eq_getElem→jS,getD_eq_getElem?_getD→zN,all_eq_true→zI,getElem_of_mem→qK,getElem?_map→zH
open Nat renaming le_of_ble_eq_true→jH,reduceEqDiff→jA,zero_add→jG,add_zero→jK,le_trans→zY,reduceBEq→jO,le_refl→jL,reduceAdd→jM
open Option renaming getD_some→jB,getD_none→jP
theorem ASA (last:List Int)(lm:SM)(h:Hp)(hl:last.length<=1048576):∃u h',G8 Tryz.prog true h 57 57 (.sl .nil 0 []) (.sl lm 1 (last.map encI))=some (u,h')∧ANW 1 (last.map encI) h u h':=by
 cases hx:last with
 | nil=>exact⟨_,_,(by kernel_rfl),.inl ⟨rfl,⟨0,rfl⟩,rfl⟩⟩
 | cons y ys =>
   have hne:last.map encI≠[]:=by rw[hx]; simp
   rw[<-hx];exact⟨_,_,VE UA sz3 YG WS (J3 _ lm 1 (last.map encI)) hne (JM (by simp; omega) (by omega)),.inr (.inr ⟨hne,rfl,rfl⟩)⟩
theorem A1J (p:Pt)(last:List Int)(l:List Sg)(h1:GZ p=0)(h2:lastB last=true)(h3:(evE l p.ex).2=0) :
  ptE p last l=⟨if(inK p.bins 2 (evE l p.ex).1||inK p.bins 1 (evE l p.ex).1)=true then [] else ZT p last (evE l p.ex).1 0,nextL last (evE l p.ex).1,inK p.bins 2 (evE l p.ex).1,0⟩:=by
 unfold ptE;rw[if_neg (by rw[h1,h2]; simp),if_neg (by simpa using h3)];cases h4:inK p.bins 2 (evE l p.ex).1
 .cases h5:inK p.bins 1 (evE l p.ex).1
  .rfl
  .rfl
 .rfl
section
variable (G:Nat->AV)
set_option maxHeartbeats 2000000 in
theorem ASN (p:Pt)(hp:PtOk p)(last:List Int)(lm:SM)(l:List Sg)(m:SM)(h:Hp)(hll:last.length<=1048576)(hl:l.length<=1099511627776)(hok:∀s∈l,ACS s) :
  PCall (En G) 44 [.agg (GL p),.sl lm 1 (last.map encI),.sl m 2 (l.map HY)] h (ptV (ptE p last l)):=by
 refine PCall.res (r:=ptW (ptE p last l)) ?_ (ATR _);refine ACalls.pure (R:=fun v H=>ext h H∧IX h.length H 4 v=ptW (ptE p last l)) 4 ?_ (fun v H ⟨a,b⟩=>⟨a,b⟩);have hnum:=hp.num;refine acN Tryz.func44 rfl ?_;show awp _ _ _ _ _ (EN _ [.tmp 6,.tmp 7,.tmp 8,.tmp 9] _);have gp:=CX h (ABlk.live 6 [GL p]);have hx:ext h (h++[ABlk.live 6 [GL p]]):=(ext.rfl' h).app _;simp -implicitDefEqProofs only[BC,BA,A8,AY,BB,AO,AQ,AL,BD,AX,AC,AA,AZ,AU,BH,BM,IY,A7,FU,BQ,BX,BF,↓reduceIte,jA,jB,jC,enP,bxP]
 generalize h++[ABlk.live 6 [GL p]]=H1 at gp hx|-
 simp -implicitDefEqProofs only[AY,AO,AQ,AL,BD,AX,AC,AA,AZ,BZ,CB,BU,AB,jD,jE,jF,↓reduceIte,jB,jC,ldP gp];refine(AGN G p hp H1).use ?_;simp -implicitDefEqProofs only[AY,BL,BV,CO,AO,AQ,AL,BD,AX,AC,AA,AZ,AU,BH,BG,BR,AB,EK,↓reduceIte,jB,jC,enP];cases h1:(GZ p==0)
 .have hne:GZ p≠0:=by simpa using h1
  simp -implicitDefEqProofs only[BC,BA,BK,BI,A8,CP,QQ,DI,AY,BB,BL,BV,CO,F7,AO,AQ,AL,BD,AX,AC,AA,EW,AZ,AU,BH,BM,IY,A7,CQ,DY,↓reduceIte,jA,jB,jC,bne,h1];exact⟨hx,by unfold ptE; rw[if_pos (.inl hne)]; rfl⟩
 have hp0:GZ p=0:=by simpa using h1
 simp -implicitDefEqProofs only[BL,BV,CO,ES,AO,AQ,AL,BD,AX,AC,AA,AZ,BZ,BG,CB,BU,BF,BN,jD,jE,jF,↓reduceIte,jA,jB,jR,jC,bne,h1];refine(AGQ G last lm H1 (by omega)).use ?_;simp -implicitDefEqProofs only[BI,A8,AY,BB,BL,BV,CO,ES,AO,AQ,AL,BD,AX,AC,AA,AZ,AU,BM,CQ,DW,IG,AB,FI,↓reduceIte,jA,jB,jC];cases h2:lastB last
 .simp -implicitDefEqProofs only[BC,BA,BK,A8,CP,QQ,DI,AY,BB,AO,AQ,AL,BD,AX,AC,AA,AU,BH,BM,IY,A7,↓reduceIte,jA,jB,jC]
  exact⟨hx,by unfold ptE; rw[if_pos (.inr h2)]; rfl⟩
 have h7:last.length<=7:=by
  unfold lastB at h2;rw[jV] at h2;simpa using h2.1
 simp -implicitDefEqProofs only[BC,BA,BO,A8,DR,AY,AO,AQ,AL,BD,AX,AC,AA,AZ,BZ,BG,BQ,BJ,CB,BU,AB,BF,BN,jD,jE,jF,↓reduceIte,jA,jG,jB,jR,jC,enP,AIP,AH9 gp];refine(AWY G l m p.ex H1 hl hok hp.ex).use ?_;cases h3:((evE l p.ex).2==0)
 .have hne:(evE l p.ex).2≠0:=by simpa using h3
  unfold evV;simp -implicitDefEqProofs only[zB,zG,BC,BA,BK,BI,A8,CP,QQ,DI,AY,BB,AO,AQ,AL,BD,AX,AC,AA,AZ,AU,BH,BM,IY,BG,A7,BR,FK,GN,AB,EK,↓reduceIte,jA,jB,jC,enP,bne,h3];exact⟨hx,by unfold ptE; rw[if_neg (by rw[hp0,h2]; simp),if_pos hne]; rfl⟩
 have he0:(evE l p.ex).2=0:=by simpa using h3
 rw[A1J p last l hp0 h2 he0];unfold evV;simp -implicitDefEqProofs only[zB,zG,BC,BA,BO,BI,A8,DR,AY,BB,AO,AQ,AL,BD,AX,AC,AA,AZ,AU,BH,BG,A7,BQ,BR,FK,GN,AB,EK,↓reduceIte,jA,jB,jR,jC,enP,bne,h3];generalize (evE l p.ex).1=v;clear h3 he0;have l5:∀H:Hp,ext H1 H->ED Tryz.prog H 54 (.ptr h.length 0 5)=some (.sl p.bm 4 (p.bins.map GV)):=fun H hH=>by rw[DX SQ (FP hH gp) (row:=GL p) rfl,NU]
 simp -implicitDefEqProofs only[AY,AO,AQ,AL,BD,AX,AC,AA,AZ,AU,BZ,BH,BG,CB,BU,AB,jD,jE,jF,↓reduceIte,jA,jB,jC,ldP gp];refine(AUO G p hp 2 (v:Nat) H1).use ?_;simp -implicitDefEqProofs only[BC,BP,BA,A8,AY,BB,AO,AQ,AL,BD,AX,AC,AA,AZ,AU,BH,IY,A7,↓reduceIte,jB,jC];refine GM 0 (fun F H=>∃u,F 1=.sl lm 1 (last.map encI)∧F 10=.int .i64 (v:Nat)∧F 12=.bool (inK p.bins 2 (v:Nat))∧F 13=u∧ext H1 H∧outG 1 II H1 (if(inK p.bins 2 (v:Nat)||inK p.bins 1 (v:Nat))=true then [] else ZT p last (v:Nat) 0) u H) (fun _ _=>False) ?_ ?_ (fun _ _ hh=>hh.elim)
 .refine DK (fun n F H=>∃k u,n+k=p.bins.length∧F 1=.sl lm 1 (last.map encI)∧F 3=.ptr h.length 0 0∧F 10=.int .i64 (v:Nat)∧F 12=.bool (inK p.bins 2 (v:Nat))∧F 13=u∧F 14=.int .i64 (k:Nat)∧ext H1 H∧outG 1 II H1 (if(inK p.bins 2 (v:Nat)||inK p.bins 1 (v:Nat))=true then [] else NR p.bins last (v:Nat) 0 k) u H) p.bins.length
   ⟨0,.sl .nil 0 [],by simp,by simp -implicitDefEqProofs only[AA,BF,BN,↓reduceIte,jA],by simp -implicitDefEqProofs only[AA,↓reduceIte,jA],by simp -implicitDefEqProofs only[AA,↓reduceIte,jA],by simp -implicitDefEqProofs only[AA,↓reduceIte,jA],by simp -implicitDefEqProofs only[AA,↓reduceIte,jA],by simp -implicitDefEqProofs only[AA,↓reduceIte]<;>rfl,ext.rfl' _,by split<;>exact outG.nil _ _ _ _⟩ ?_
  rintro n F H ⟨k,u,hk,f1,f3,f10,f12,f13,f14,hxH,ho⟩;simp -implicitDefEqProofs only[BC,BA,AY,BL,BV,CO,AO,AQ,AL,BD,AX,AC,AA,AZ,BG,BQ,BR,BJ,DZ,AB,CZ,↓reduceIte,jA,jG,jB,jC,enP,RZ,I9,f3,f14,l5 H hxH,jI];cases hc:decide (((k:Nat):Int)<((p.bins.length:Nat):Int))
  .have hk':k=p.bins.length:=by
    have:¬k<p.bins.length:=by simpa using hc
    omega
   subst hk';simp -implicitDefEqProofs only[DJ,BI,A8,EG,KC,ET,DR,AY,BB,BL,BV,CO,IU,AO,AQ,AL,BD,AX,AC,AA,EW,AZ,AU,BM,BG,CQ,DW,↓reduceIte,jA,jB,jC];exact⟨u,by trivial,by trivial,by trivial,by trivial,hxH,ho⟩
  have hk':k<p.bins.length:=by simpa using hc
  simp -implicitDefEqProofs only[AY,BL,BV,CO,GH,AO,AQ,AL,BD,AX,AC,AA,AZ,AU,BM,BG,CQ,DY,IG,AB,FI,↓reduceIte,jA,jB,jC,f12];cases h4:inK p.bins 2 (v:Nat)
  .rw[h4] at ho f12
   have gpH:=FP hxH gp;simp -implicitDefEqProofs only[Bool.false_or,BL,BV,CO,GH,AO,AQ,AL,BD,AX,AC,AA,AZ,AU,BZ,BH,BG,BQ,CB,BU,AB,jD,jE,jF,↓reduceIte,jA,jB,jC,enP,f3,f10,ldP gpH];refine(AUO G p hp 1 (v:Nat) H).use ?_;simp -implicitDefEqProofs only[BI,A8,AY,BB,BL,BV,CO,GH,AO,AQ,AL,BD,AX,AC,AA,AZ,AU,BM,CQ,DY,IG,AB,FI,↓reduceIte,jA,jB,jC];cases h5:inK p.bins 1 (v:Nat)
   .rw[h5] at ho
    rw[if_neg (by decide)] at ho;have hbok:=hp.bins _ (jQ hk');have hlen:=XM p.bins last (v:Nat) 0 k;have hs:=YZ p.bins last (v:Nat) 0 k hk';have lk:ED Tryz.prog H 3 (.fptr 4 (p.bins.map GV) k 1)=some (.int .i64 p.bins[k].kind):=by rw[DF ag3 hk']; rfl
    have hKv:hK last (v:Nat) 0 p.bins[k]=((p.bins[k].kind==0)&&hit p.bins[k] last (v:Nat)):=by unfold hK; simp
    simp -implicitDefEqProofs only[BC,BP,BA,BO,A8,DI,AY,BL,BV,CO,AO,AQ,AL,BD,AX,AC,AA,AZ,AU,BH,BG,BQ,BR,BJ,CE,AB,D7,↓reduceIte,jA,jG,jB,jC,enP,YX,I9,MR,Bool.false_eq_true,f3,f14,l5 H hxH,DU hk',lk];have skip:hK last (v:Nat) 0 p.bins[k]=false->outG 1 II H1 (NR p.bins last (v:Nat) 0 (k+1)) u H:=fun q=>by rw[hs,q]; simpa using ho
    cases hq:(p.bins[k].kind==0)
    .rw[hq,Bool.false_and] at hKv
     simp -implicitDefEqProofs only[BA,BO,BI,A8,EJ,EQ,DR,AY,BB,BL,BV,CO,IU,AO,AQ,AL,BD,AX,AC,AA,EW,AZ,AU,BH,BM,BG,A7,CQ,DW,BR,AB,C9,↓reduceIte,jA,jB,jC,enP,f14,wrap_succ (show k<9223372036854775807 by omega)];exact⟨n-1,by omega,k+1,u,by omega,by trivial,by trivial,by trivial,by trivial,by trivial,by trivial,hxH,by exact skip hKv⟩
    .rw[hq,wB] at hKv
     simp -implicitDefEqProofs only[BL,BV,CO,GH,AO,AQ,AL,BD,AX,AC,AA,AZ,BZ,BG,BQ,BJ,CE,CB,BU,AB,jD,jE,jF,↓reduceIte,jA,jG,jB,jC,enP,YX,I9,f1,f3,f10,f14,l5 H hxH,DU hk',FM VK QR MK hk'];refine(AYU G p.bins[k] hbok last lm (v:Nat) H (by omega)).use ?_;simp -implicitDefEqProofs only[BI,A8,AY,BB,AO,AQ,AL,BD,AX,AC,AA,AZ,AU,BM,CQ,DY,↓reduceIte,jA,jB,jC];cases hv:hit p.bins[k] last (v:Nat)
     .rw[hv] at hKv
      simp -implicitDefEqProofs only[BA,BO,A8,EJ,EQ,DR,AY,BB,AO,AQ,AL,BD,AX,AC,AA,AZ,AU,BH,BG,A7,BR,AB,C9,↓reduceIte,jA,jB,jC,enP,f14,wrap_succ (show k<9223372036854775807 by omega)];exact⟨n-1,by omega,k+1,u,by omega,by trivial,by trivial,by trivial,by trivial,by trivial,by trivial,hxH,by exact skip hKv⟩
     .rw[hv] at hKv
      rw[hKv,if_pos rfl] at hs;obtain⟨u',H3,ha,ho2,_,hx2,_,_⟩:=ho.append (P:=Tryz.prog) UA sz3 YG WS (by omega) (by omega) hxH k;have ha':G8 Tryz.prog true H 57 57 u (.sl .full 1 [[.int .i64 ((k:Nat):Int)]])=some (u',H3):=ha;simp -implicitDefEqProofs only[EZ,FW,BA,A8,EJ,EQ,DI,AY,BB,AO,AQ,AL,BD,AX,AC,AA,AZ,AU,BH,BG,A7,EP,BR,GR,BX,AB,C9,↓reduceIte,jA,jB,jC,enP,f13,f14,AE8,ha',wrap_succ (show k<9223372036854775807 by omega)];exact⟨n-1,by omega,k+1,u',by omega,by trivial,by trivial,by trivial,by trivial,by trivial,by trivial,hx2,by rw[hs]; exact ho2⟩
   .rw[h5] at ho
    simp -implicitDefEqProofs only[DJ,EG,KC,ET,DR,AA,↓reduceIte,jA,jR];exact⟨u,by trivial,by trivial,by trivial,by trivial,hxH,ho⟩
  .rw[h4] at ho f12
   simp -implicitDefEqProofs only[wC,DJ,BI,A8,EG,KC,ET,DR,AY,BB,BL,BV,CO,IU,AO,AQ,AL,BD,AX,AC,AA,EW,AZ,AU,BM,CQ,DW,↓reduceIte,jA,jB,jR,jC];exact⟨u,by trivial,by trivial,by trivial,by trivial,hxH,ho⟩
 .rintro F H ⟨u,f1,f10,f12,f13,hxH,ho⟩
  obtain⟨w,H2,ha,hc⟩:=ASA last lm H hll;obtain⟨o,H3,ha3,ho3,hol,hx3⟩:=AG8 (v:Nat) hc hll
  have ho':outG 1 II H1 (if(inK p.bins 2 (v:Nat)||inK p.bins 1 (v:Nat))=true then [] else ZT p last (v:Nat) 0) u H3:=by
   obtain⟨y,rfl⟩:=hx3;exact ho.app y
  have hxa:=(hx.trans hxH).trans hx3;have hle:=hx.le;have hle2:=hxH.le;have e1:=SC ARO ho' h.length 1 hle;have hnl:(last++[((v:Nat):Int)]).drop (last.length+1-7)=nextL last v:=rfl;have hne:=AKW last v;simp -implicitDefEqProofs only[EZ,FW,BC,BA,BI,A8,EU,AY,BB,AO,AQ,AL,BD,AX,AC,AA,AZ,AU,BH,IY,BG,A7,EP,BR,DZ,GR,BX,AB,FV,↓reduceIte,jA,jB,jC,enP,JD,f1,ha,f10,AE8,ha3];rcases Classical.em (last.length=7) with e7|e7
  .have hd:decide (((last.length+1:Nat):Int)>7)=true:=decide_eq_true (by omega)
   have hsl:NW Tryz.prog H3 57 (.own o 0 (last.length+1)) (some (.int .i64 1)) none none=some (.own o 1 (last.length+1-1)):=ATF (u:=1) ho3 (by omega)
   have e2:IX h.length H3 3 (.own o 1 (last.length+1-1))=fzG 1 encI (nextL last v):=by
    rw[APS (d:=1) (xs:=last++[((v:Nat):Int)]) AYZ (by omega) ho3 (by simp<;>omega),AIJ hne,<-hnl,show last.length+1-7=1 by omega]
   simp -implicitDefEqProofs only[Option.map_some,Option.map_none,BC,BA,BK,A8,QQ,DI,AY,BB,AO,AQ,AL,BD,AX,AC,AA,AZ,AU,BH,BG,A7,UZ,AB,↓reduceIte,jA,jB,jC,enP,hd,hsl,f12,f13];refine⟨hxa,?_⟩;show AV.tup [IX h.length H3 3 u,IX h.length H3 3 (.own o 1 (last.length+1-1)),.bool _,.int .i64 0]=_;rw[e1,e2]; rfl
  .have hd:decide (((last.length+1:Nat):Int)>7)=false:=decide_eq_false (by omega)
   have e2:IX h.length H3 3 (.own o 0 (last.length+1))=fzG 1 encI (nextL last v):=by
    rw[APS (d:=1) (xs:=last++[((v:Nat):Int)]) AYZ (by omega) ho3 (by simp<;>omega),AIJ hne,<-hnl,show last.length+1-7=0 by omega]
   simp -implicitDefEqProofs only[BC,BA,BO,BK,A8,QQ,DR,AY,BB,AO,AQ,AL,BD,AX,AC,AA,AZ,AU,BH,BG,A7,↓reduceIte,jA,jB,jC,hd,f12,f13];refine⟨hxa,?_⟩;show AV.tup [IX h.length H3 3 u,IX h.length H3 3 (.own o 0 (last.length+1)),.bool _,.int .i64 0]=_;rw[e1,e2]; rfl
def ACJ (m:Mo)(t:Tk):Bool:=(EY m==0)&&(((t.last.length:Nat):Int)==((m.pts.length:Nat):Int))&&t.last.all fun x=>lastB x.l
structure TkOk (t:Tk):Prop where
 num:t.last.length<=1048576
 len:∀x∈t.last,x.l.length<=1048576
theorem bxT (h:Hp)(t:Tk):P7 h (.agg (KL t))=some (.ptr h.length 0 0,h++[.live 1 [KL t]]):=rfl
theorem A0Q (t:Tk):(KL t)[0]?=some (.sl t.m 1 (t.last.map encL)):=rfl
theorem AOE (m:Mo)(hm:MoOk m)(t:Tk)(ht:TkOk t)(h:Hp):PCall (En G) 71 [.agg (D5 m),.agg (KL t)] h (.bool (ACJ m t)):=by
 refine ACalls.pure0 rfl ?_;have hn:=ht.num;refine acN Tryz.func71 rfl ?_;show awp _ _ _ _ _ (EN _ [.tmp 4] _);have gm:=CU (x:=ABlk.live 1 [KL t]) (CX h (ABlk.live 2 [D5 m]));have gt:=CX (h++[ABlk.live 2 [D5 m]]) (ABlk.live 1 [KL t]);have hx:ext h (h++[ABlk.live 2 [D5 m]]++[ABlk.live 1 [KL t]]):=((ext.rfl' h).app _).app _;simp -implicitDefEqProofs only[BC,BA,A8,AY,BB,AO,AQ,AL,BD,AX,AC,AA,AZ,AU,BM,A7,FU,BQ,BX,BF,BN,↓reduceIte,jA,jB,jC,enP,bxM,bxT]
 generalize h++[ABlk.live 2 [D5 m]]++[ABlk.live 1 [KL t]]=H at gm gt hx|-
 generalize (h++[ABlk.live 2 [D5 m]]).length=tb at gt|-
 have l0:ED Tryz.prog H 22 (.ptr h.length 0 0)=some (.sl m.pm 6 (m.pts.map GL)):=by rw[DX WV gm (row:=D5 m) rfl,QJ]
 have lt0:ED Tryz.prog H 26 (.ptr tb 0 0)=some (.sl t.m 1 (t.last.map encL)):=by rw[DX Q7 gt (row:=KL t) rfl,A0Q]
 simp -implicitDefEqProofs only[AY,AO,AQ,AL,BD,AX,AC,AA,AZ,BZ,CB,BU,AB,jD,jE,jF,↓reduceIte,jB,jC,ldM gm];refine(UH G m hm H).use ?_;simp -implicitDefEqProofs only[AY,BL,BV,CO,AO,AQ,AL,BD,AX,AC,AA,AZ,AU,BH,BG,BR,AB,EK,↓reduceIte,jB,jC,enP];unfold ACJ;cases h1:(EY m==0)
 .simp -implicitDefEqProofs only[BC,BA,BK,BI,A8,CP,CG,DI,AY,BB,BL,BV,CO,F7,AO,AQ,AL,BD,AX,AC,AA,EW,AZ,AU,BM,A7,CQ,DY,↓reduceIte,jA,jB,jC,bne,h1]
  exact⟨by trivial,hx⟩
 simp -implicitDefEqProofs only[BI,A8,AY,BB,BL,BV,CO,ES,AO,AQ,AL,BD,AX,AC,AA,AZ,AU,BM,CQ,DW,BQ,BR,BJ,DZ,AB,EK,↓reduceIte,jA,jK,jB,jR,jC,enP,QZ,IP,YU,SG,bne,h1,l0,lt0,jI];cases h2:(((t.last.length:Nat):Int)==((m.pts.length:Nat):Int))
 .simp -implicitDefEqProofs only[BC,BA,BK,A8,CP,CG,DI,AY,BB,AO,AQ,AL,BD,AX,AC,AA,AU,BM,A7,↓reduceIte,jB,jC]
  exact⟨by trivial,hx⟩
 simp -implicitDefEqProofs only[BC,BP,BA,BO,A8,DR,AY,BB,AO,AQ,AL,BD,AX,AC,AU,BH,A7,jB,jR,jC];refine DK (fun n F H'=>∃k,n+k=t.last.length∧F 3=.ptr tb 0 0∧F 5=.int .i64 (k:Nat)∧H'=H∧(t.last.all fun x=>lastB x.l)=(t.last.drop k).all fun x=>lastB x.l) t.last.length ⟨0,by simp,by simp -implicitDefEqProofs only[AA,↓reduceIte,jA],by simp -implicitDefEqProofs only[AA,↓reduceIte]<;>rfl,rfl,rfl⟩ ?_;rintro n F H' ⟨k,hk,f3,f5,rfl,hin⟩;simp -implicitDefEqProofs only[BC,BA,BI,A8,AY,BB,AO,AQ,AL,BD,AX,AC,AA,AZ,BG,BQ,BR,BJ,DZ,AB,CZ,↓reduceIte,jA,jK,jB,jC,enP,YU,SG,f3,f5,lt0,jI];refine CV (fun hc=>?_) (fun hc=>?_)
 .have hk':k<t.last.length:=by simpa using hc
  rw[zK hk',List.all_cons] at hin;simp -implicitDefEqProofs only[BC,BP,BA,BO,A8,AY,AO,AQ,AL,BD,AX,AC,AA,AZ,BZ,BG,BQ,BJ,CE,CB,BU,AB,jD,jE,jF,↓reduceIte,jA,jK,jB,jC,enP,OI,SG,f3,f5,lt0,DU hk',DF KP hk',OC];refine(AGQ G t.last[k].l t.last[k].m H' (by have:=ht.len _ (jQ hk'); omega)).use ?_;simp -implicitDefEqProofs only[BI,A8,AY,BB,AO,AQ,AL,BD,AX,AC,AA,AZ,IG,AB,FI,↓reduceIte,jB,jC];cases hq:lastB t.last[k].l
  .rw[hq,Bool.false_and] at hin
   simp -implicitDefEqProofs only[BC,BA,BK,A8,CP,EE,FQ,CG,DI,AY,BB,AO,AQ,AL,BD,AX,AC,AA,AU,BM,A7,↓reduceIte,jB,jC];exact⟨by rw[hin]; rfl,hx⟩
  .rw[hq,wB] at hin
   simp -implicitDefEqProofs only[BA,BO,A8,EJ,EQ,DR,AY,BB,AO,AQ,AL,BD,AX,AC,AA,AZ,AU,BH,BG,A7,BR,AB,C9,↓reduceIte,jA,jB,jR,jC,enP,f5,wrap_succ (show k<9223372036854775807 by omega)];exact⟨n-1,by omega,k+1,by omega,by trivial,by trivial,trivial,hin⟩
 .have hk':¬k<t.last.length:=by simpa using hc
  rw[jW (by omega)] at hin;simp -implicitDefEqProofs only[BC,BA,BK,DJ,A8,EG,EU,ET,CG,AY,BB,AO,AQ,AL,BD,AX,AC,AA,AU,BM,A7,↓reduceIte,jB,jC];exact⟨by rw[hin]; rfl,hx⟩
end
def NLB (o:Nat)(bs:List Nat)(xss:List (List Int))(b:Nat):Prop:=(xss≠[]∧b=o)∨b∈bs
theorem NL.lt {n0:Nat}{H:Hp}{o:Nat}{bs:List Nat}{xss:List (List Int)}(N:NL n0 H o bs xss){b:Nat}(hb:NLB o bs xss b):n0<=b∧b<H.length:=by
 rcases hb with⟨h,rfl⟩|h
 .exact⟨N.lo' h,N.top_lt h⟩
 .exact⟨N.lo _ h,N.mem_lt h⟩
theorem NL.base {n0 k:Nat}{H:Hp}{o:Nat}{bs:List Nat}{xss:List (List Int)}(N:NL n0 H o bs xss)(h:k<=n0):NL k H o bs xss :=
 ⟨N.len,N.top,N.row,N.nodup,N.out,fun b hb=>zY h (N.lo b hb),fun q=>zY h (N.lo' q)⟩
theorem ADB {o:Nat}{bs:List Nat}{xss:List (List Int)}{q:Nat}(h:isB (nlV o xss) q):NLB o bs xss q:=.inl (ZR h)
theorem AFR {o t b:Nat}{bs:List Nat}{xss:List (List Int)}{xs:List Int}{q:Nat}(h:NLB t (bs++[b]) (xss++[xs]) q):q=t∨NLB o bs xss q∨q=b:=by
 rcases h with⟨_,rfl⟩|h
 .exact .inl rfl
 .rcases qC.1 h with h|h
  .exact .inr (.inl (.inr h))
  .exact .inr (.inr (by simpa using h))
def zP (m:Mo):List (List Int):=m.pts.map fun p=>zeros p.bins.length
def zC (m:Mo):List (List Int):=m.crs.map fun c=>zeros (GK (szs m c.pts))
theorem AAJ (m:Mo):(zP m).length=m.pts.length:=by simp [zP]
theorem AAK (m:Mo):(zC m).length=m.crs.length:=by simp [zC]
theorem AON (m:Mo)(i:Nat)(hi:i<m.pts.length):(zP m).take (i+1)=(zP m).take i++[zeros m.pts[i].bins.length]:=by
 have hl:i<(zP m).length:=by unfold zP; simpa using hi
 rw[zL hl]; simp [zP]
theorem AOO (m:Mo)(i:Nat)(hi:i<m.crs.length):(zC m).take (i+1)=(zC m).take i++[zeros (GK (szs m m.crs[i].pts))]:=by
 have hl:i<(zC m).length:=by unfold zC; simpa using hi
 rw[zL hl]; simp [zC]
theorem Q9 (n:Nat):(zeros n).length=n:=by simp [zeros]
structure NC (n0:Nat) (H:Hp) (po:Nat) (pb:List Nat) (co:Nat) (cbs:List Nat) (P C:List (List Int)):Prop where
 np:NL n0 H po pb P
 nc:NL n0 H co cbs C
 dis:∀b,NLB po pb P b->¬NLB co cbs C b
theorem NC.keep {n0:Nat}{H H':Hp}{po:Nat}{pb:List Nat}{co:Nat}{cbs:List Nat}{P C:List (List Int)}(N:NC n0 H po pb co cbs P C)(hk:∀b x,n0<=b->b<H.length->H[b]?=some x->H'[b]?=some x):NC n0 H' po pb co cbs P C :=
 ⟨N.np.keep fun b x hb h=>hk b x (N.np.lt hb).1 (N.np.lt hb).2 h,N.nc.keep fun b x hb h=>hk b x (N.nc.lt hb).1 (N.nc.lt hb).2 h,N.dis⟩
theorem NC.base {n0 k:Nat}{H:Hp}{po:Nat}{pb:List Nat}{co:Nat}{cbs:List Nat}{P C:List (List Int)}(N:NC n0 H po pb co cbs P C)(h:k<=n0):NC k H po pb co cbs P C:=⟨N.np.base h,N.nc.base h,N.dis⟩
theorem NC.cs {n0:Nat}{H:Hp}{po:Nat}{pb:List Nat}{co:Nat}{cbs:List Nat}{P C:List (List Int)}(N:NC n0 H po pb co cbs P C){cb tb:Nat}{sam ill:Int}{v3:AV}(gc:H[cb]?=some (.live 4 [cvR po P co C sam ill]))(gt:H[tb]?=some (.live 1 [[v3]]))(ht:cb≠tb)
  (hc:∀b,NLB po pb P b∨NLB co cbs C b->b≠cb∧b≠tb):CS n0 H cb tb po co pb cbs P C sam ill v3:=by
 refine⟨gc,gt,N.np,N.nc,fun b h1 h2=>N.dis b (.inr h1) (.inr h2),fun h=>(hc _ (.inl (.inr h))).1 rfl,fun h=>(hc _ (.inr (.inr h))).1 rfl,fun h=>(hc _ (.inl (.inr h))).2 rfl,fun h=>(hc _ (.inr (.inr h))).2 rfl,fun h=>⟨fun q=>N.dis _ (.inl ⟨h,rfl⟩) (.inr q),?_,?_⟩,fun h=>⟨fun q=>N.dis _ (.inr q) (.inl ⟨h,rfl⟩),?_,?_⟩,ht⟩
 .exact fun e=>(hc _ (.inl (.inl ⟨h,rfl⟩))).1 e.symm
 .exact fun e=>(hc _ (.inl (.inl ⟨h,rfl⟩))).2 e.symm
 .exact fun e=>(hc _ (.inr (.inl ⟨h,rfl⟩))).1 e.symm
 .exact fun e=>(hc _ (.inr (.inl ⟨h,rfl⟩))).2 e.symm
structure EmO (h H:Hp) (m:Mo) (po:Nat) (pb:List Nat) (co:Nat) (cbs:List Nat) (v3:AV):Prop where
 nc:NC h.length H po pb co cbs (zP m) (zC m)
 o3:outG 1 (fun _:Pt=>FY) h m.pts v3 H
set_option maxHeartbeats 4000000 in
theorem ARY (G:Nat->AV)(m:Mo)(hm:MoOk m)(hg:Cov.Good m)(h:Hp):ACalls (En G) 127 [.agg (D5 m)] h fun v H=>ext h H∧∃po pb co cbs v3,v=.tup [.agg (IB (nlV po (zP m)) (nlV co (zC m))),.agg [v3]]∧EmO h H m po pb co cbs v3:=by
 have hm1:=hm.np;have hm2:=hm.nc;have hnum:=hg.num;refine ND (H:=hint [22,23,24,45,46,47] []) (enM G) Tryz.func127 rfl (by kernel_rfl) (by kernel_rfl) (jH (by kernel_rfl)) ?_;show awp _ _ _ _ _ (EN _ [.cell 2 28,.cell 3 47] _);have E:=Em.mk' h m;simp -implicitDefEqProofs only[DC,jU,jJ,jO,jT,BC,BA,A8,AY,BB,AL,BD,AX,AC,AA,AZ,EX,FU,BQ,BJ,BX,AB,BF,↓reduceIte,jA,jK,jB,jC,enP,IP,D8,bxM,KF,VS]
 generalize h++[ABlk.live 2 [D5 m]]++[ABlk.live 4 [FD]]++[ABlk.live 1 [FY]]++[ABlk.live 4 [FD]]++[ABlk.live 1 [FY]]=H0 at E|-
 generalize (h++[ABlk.live 2 [D5 m]]++[ABlk.live 4 [FD]]++[ABlk.live 1 [FY]]++[ABlk.live 4 [FD]]).length=b5 at E|-
 generalize (h++[ABlk.live 2 [D5 m]]++[ABlk.live 4 [FD]]++[ABlk.live 1 [FY]]).length=b4 at E|-
 generalize (h++[ABlk.live 2 [D5 m]]++[ABlk.live 4 [FD]]).length=b3 at E|-
 generalize (h++[ABlk.live 2 [D5 m]]).length=b2 at E|-
 have o2:=E.o2; have o3:=E.o3; have o4:=E.o4; have o5:=E.o5;have hlt0:=E.lt;simp -implicitDefEqProofs only[DC,jU,jJ,jO,jT,BP,A8,AY,BB,AL,BD,AX,AC,AA,AZ,AU,BH,BG,DZ,AB,↓reduceIte,jB,jC,enP,QZ,D8,E.m0,jI];refine GM 0 (fun F H=>∃po pb v3,F 1=.ptr h.length 0 0∧F 2=.ptr b2 0 0∧F 3=.ptr b3 0 0∧F 4=.ptr b4 0 0∧F 5=.ptr b5 0 0∧Em h H m b2 b3 b4 b5 (nlV po (zP m)) (.sl .nil 0 []) v3∧NL H0.length H po pb (zP m)∧outG 1 (fun _:Pt=>FY) H0 m.pts v3 H∧(∀b,NLB po pb (zP m) b->¬isB v3 b)∧H0.length<=H.length) (fun _ _=>False) ?_ ?_ (fun _ _ hh=>hh.elim)
 .refine DK (fun n F H=>∃i po pb v3,n+i=m.pts.length∧F 1=.ptr h.length 0 0∧F 2=.ptr b2 0 0∧F 3=.ptr b3 0 0∧F 4=.ptr b4 0 0∧F 5=.ptr b5 0 0∧F 11=.sl m.pm 6 (m.pts.map GL)∧F 12=.int .i64 m.pts.length∧F 13=.int .i64 (i:Nat)∧Em h H m b2 b3 b4 b5 (nlV po ((zP m).take i)) (.sl .nil 0 []) v3∧NL H0.length H po pb ((zP m).take i)∧outG 1 (fun _:Pt=>FY) H0 (m.pts.take i) v3 H∧(∀b,NLB po pb ((zP m).take i) b->¬isB v3 b)∧H0.length<=H.length) m.pts.length
   ⟨0,0,[],.sl .nil 0 [],by simp,by simp -implicitDefEqProofs only[AA,↓reduceIte,jA],by simp -implicitDefEqProofs only[AA,↓reduceIte,jA],by simp -implicitDefEqProofs only[AA,↓reduceIte,jA],by simp -implicitDefEqProofs only[AA,↓reduceIte,jA],by simp -implicitDefEqProofs only[AA,↓reduceIte,jA],by simp -implicitDefEqProofs only[AA,↓reduceIte,jA],by simp -implicitDefEqProofs only[AA,↓reduceIte,jA],by simp -implicitDefEqProofs only[AA,↓reduceIte]; rfl,by rw[zQ]; exact E,by rw[zQ]; exact NL.nil _ _ _,by rw[zQ]; exact outG.nil _ _ _ _,fun b _ hb'=>hb',jL _⟩ ?_
  clear E;rintro n F H ⟨i,po,pb,v3,hi,f1,f2,f3,f4,f5,f11,f12,f13,E,N,ho3,hdis,hle⟩;simp -implicitDefEqProofs only[DC,jU,jJ,jO,jT,BC,BA,BI,A8,AY,BB,AL,BD,AX,AC,AA,AZ,BR,AB,CZ,↓reduceIte,jB,jC,enP,D8,f12,f13];refine CV (fun hc=>?_) (fun hc=>?_)
  .have hi':i<m.pts.length:=by simpa using hc
   have h64:=(hg.full _ (jQ hi')).2;have hP:=AON m i hi';have hzl:=Q9 m.pts[i].bins.length;have htl:((zP m).take i).length<=1048576:=by rw[zD,AAJ]; omega
   simp -implicitDefEqProofs only[DC,jU,jJ,jO,jT,BC,BP,BA,BO,A8,AY,BB,AL,BD,AX,AC,EM,AA,AZ,EX,BQ,D6,CE,BX,AB,CY,↓reduceIte,jA,jB,jC,enP,S9,D8,jP,f11,f13,DU hi',FM ACR ZH JR hi',ASG,AQQ _ _ [.str ⟨#[]⟩,.int .i64 0,.int .i64 0,.str ⟨#[]⟩,.sl .nil 0 [],.sl .nil 0 []] rfl];have hl1:(H++[ABlk.live 6 [GL m.pts[i]]]).length=H.length+1:=by simp
   have E1:=E.app [.live 6 [GL m.pts[i]]];have N1:=N.app [.live 6 [GL m.pts[i]]];have ho1:=ho3.app [.live 6 [GL m.pts[i]]];have lp:ED Tryz.prog (H++[ABlk.live 6 [GL m.pts[i]]]) 54 (.ptr H.length 0 5)=some (.sl m.pts[i].bm 4 (m.pts[i].bins.map GV)):=by rw[DL SQ,NU]
   generalize H++[ABlk.live 6 [GL m.pts[i]]]=Ha at hl1 E1 N1 ho1 lp|-
   have N2:=(N1.app [.live 1 ((zeros m.pts[i].bins.length).map encI)]).app [.live 1 [[.own Ha.length 0 m.pts[i].bins.length]]];have E2:=(E1.app [.live 1 ((zeros m.pts[i].bins.length).map encI)]).app [.live 1 [[.own Ha.length 0 m.pts[i].bins.length]]];have ho2:=(ho1.app [.live 1 ((zeros m.pts[i].bins.length).map encI)]).app [.live 1 [[.own Ha.length 0 m.pts[i].bins.length]]];have gb:=CU (x:=ABlk.live 1 [[.own Ha.length 0 m.pts[i].bins.length]]) (CX Ha (ABlk.live 1 ((zeros m.pts[i].bins.length).map encI)));have gt:=CX (Ha++[ABlk.live 1 ((zeros m.pts[i].bins.length).map encI)]) (ABlk.live 1 [[.own Ha.length 0 m.pts[i].bins.length]]);have hl2:(Ha++[ABlk.live 1 ((zeros m.pts[i].bins.length).map encI)]++[ABlk.live 1 [[.own Ha.length 0 m.pts[i].bins.length]]]).length=Ha.length+2:=by simp
   refine E8 (by kernel_rfl) ?_;simp -implicitDefEqProofs only[F6,EZ,FW,DC,jU,jJ,jO,jT,qY,EH,DT,EI,KH,FH,LU,D9,IW,AA,AZ,EP,BQ,JH,BJ,DZ,GR,BX,AB,↓reduceIte,jA,jM,jK,jG,jB,enP,MJ,RZ,I9,f4,E1.l4,lp,jI,mkI _ _ (show m.pts[i].bins.length<=1048576 by omega),AC7]
   generalize Ha++[ABlk.live 1 ((zeros m.pts[i].bins.length).map encI)]++[ABlk.live 1 [[.own Ha.length 0 m.pts[i].bins.length]]]=Hb at N2 E2 ho2 gb gt hl2|-
   generalize (Ha++[ABlk.live 1 ((zeros m.pts[i].bins.length).map encI)]).length=tb at gt|-
   obtain⟨H2,hap,N3,hk,hl3,hx3⟩:=N2.snoc gb (by omega) (by omega) (fun q=>by have:=N.mem_lt q; omega) (fun q e=>by have:=N.top_lt q; omega) (by rw[hzl]; exact gt) htl;rw[<-hP] at N3 hap;have hne:(zP m).take (i+1)≠[]:=by rw[hP]; simp
   have E3:=E2.keep hk (fun b hb=>by
    obtain⟨q,rfl⟩:=ZR hb
    have:=N.lo' q; omega) (hx3 h (by omega))
   rw[PU _ hne] at hap;refine H9 hap ?_;have E4:=E3.set4 (.own Hb.length 0 ((zP m).take (i+1)).length) (.sl .nil 0 []);have ho4:=(ho2.keepA hk (fun b hb hb'=>hdis b (ADB hb') hb)).setB (b:=b4) (by omega) (.live 4 [IB (.own Hb.length 0 ((zP m).take (i+1)).length) (.sl .nil 0 [])]);have N4:NL H0.length (H2.set b4 (.live 4 [IB (.own Hb.length 0 ((zP m).take (i+1)).length) (.sl .nil 0 [])])) Hb.length (pb++[Ha.length]) ((zP m).take (i+1)):=N3.keep fun b x hb hg=>CW hg (by have:=N3.lt hb; omega)
   have hl4:(H2.set b4 (.live 4 [IB (.own Hb.length 0 ((zP m).take (i+1)).length) (.sl .nil 0 [])])).length=H2.length:=by simp
   simp -implicitDefEqProofs only[F6,DC,jU,jJ,jO,jT,EH,DT,JZ,FB,EI,JV,D9,BA,A8,AY,AL,BD,AX,AA,AZ,D6,BJ,AB,CY,↓reduceIte,jA,jM,jK,jG,jB,jC,enP,MJ,D8,jP,f4,E3.s4]
   generalize H2.set b4 (.live 4 [IB (.own Hb.length 0 ((zP m).take (i+1)).length) (.sl .nil 0 [])])=H4 at E4 ho4 N4 hl4|-
   obtain⟨v3',H5,hap3,ho5,hk3,hl5,hn3,⟨o3',l3,rfl⟩,hx5⟩:=ho4.app2 AAO VY ADC ABB (by omega) (by rw[zD]; omega) (by omega) m.pts[i];rw[<-zL hi'] at ho5;have E5:=E4.keep hk3 (fun b hb=>by have:=ho4.lt hb; omega) (hx5 h (by omega));have E6:=E5.set5 (.own o3' 0 l3);have ho6:=ho5.setB (b:=b5) (by omega) (.live 1 [[.own o3' 0 l3]])
   have N5:NL H0.length (H5.set b5 (.live 1 [[.own o3' 0 l3]])) Hb.length (pb++[Ha.length]) ((zP m).take (i+1)):=N4.keep fun b x hb hg=>CW (hk3 b x hg (fun q=>by
    rw[hP] at hb;rcases AFR (o:=po) hb with rfl|hb|rfl
    .have:=ho3.lt q; omega
    .exact hdis _ hb q
    .have:=ho3.lt q; omega)) (by have:=N4.lt hb; omega)
   simp -implicitDefEqProofs only[EZ,FW,DC,jU,jJ,jO,jT,AY,AL,BD,AX,AC,AA,AZ,AU,IY,EP,BQ,GR,BX,AB,↓reduceIte,jA,jK,jB,jC,enP,SG,D8,f5,E4.l5,A0T];refine H9 (v:=.own o3' 0 l3) (h:=H5) hap3 ?_;simp -implicitDefEqProofs only[DC,jU,jJ,jO,jT,BA,A8,EJ,EQ,AY,BB,AL,BD,AX,AC,EM,AA,AZ,AU,BH,BG,D6,BR,BJ,AB,CY,C9,↓reduceIte,jA,jK,jB,jC,enP,SG,D8,jP,f5,E5.s5,f13,wrap_succ (show i<9223372036854775807 by omega)];rw[<-PU _ hne] at E6
   exact⟨n-1,by omega,i+1,Hb.length,_,.own o3' 0 l3,by omega,by trivial,by trivial,by trivial,by trivial,by trivial,by trivial,by trivial,by trivial,E6,N5,ho6,fun b hb hb'=>by
    have h1:=hn3 b hb';have h2:=N4.lt hb
    omega,by rw[qI]; omega⟩
  .have hi':¬i<m.pts.length:=by simpa using hc
   rw[jX (by rw[AAJ]; omega)] at N E hdis;rw[jX (by omega)] at ho3;simp -implicitDefEqProofs only[DJ,EG,KC,ET,AA,↓reduceIte,jA];exact⟨po,pb,v3,f1,f2,f3,f4,f5,E,N,ho3,hdis,hle⟩
 .rintro F H ⟨po,pb,v3,f1,f2,f3,f4,f5,E,N,ho3,hdis,hle⟩
  simp -implicitDefEqProofs only[DC,jU,jJ,jO,jT,BC,BP,BA,A8,EU,AY,BB,AL,BD,AX,AC,AA,AZ,AU,BH,BG,BQ,BJ,DZ,AB,↓reduceIte,jG,jB,jC,enP,VQ,J8,D8,f1,E.m1,jI];refine GM 2 (fun F H=>∃co cbs,F 2=.ptr b2 0 0∧F 3=.ptr b3 0 0∧F 4=.ptr b4 0 0∧F 5=.ptr b5 0 0∧Em h H m b2 b3 b4 b5 (nlV po (zP m)) (nlV co (zC m)) v3∧NC H0.length H po pb co cbs (zP m) (zC m)∧outG 1 (fun _:Pt=>FY) H0 m.pts v3 H) (fun _ _=>False) ?_ ?_ (fun _ _ hh=>hh.elim)
  .refine DK (fun n F H=>∃i co cbs,n+i=m.crs.length∧F 1=.ptr h.length 0 0∧F 2=.ptr b2 0 0∧F 3=.ptr b3 0 0∧F 4=.ptr b4 0 0∧F 5=.ptr b5 0 0∧F 33=.sl m.cm 3 (m.crs.map GG)∧F 34=.int .i64 m.crs.length∧F 35=.int .i64 (i:Nat)∧Em h H m b2 b3 b4 b5 (nlV po (zP m)) (nlV co ((zC m).take i)) v3∧NL H0.length H po pb (zP m)∧NL H0.length H co cbs ((zC m).take i)∧outG 1 (fun _:Pt=>FY) H0 m.pts v3 H∧(∀b,NLB co cbs ((zC m).take i) b->¬NLB po pb (zP m) b∧¬isB v3 b)∧H0.length<=H.length) m.crs.length
    ⟨0,0,[],by simp,by simp -implicitDefEqProofs only[AA,↓reduceIte,jA,f1],by simp -implicitDefEqProofs only[AA,↓reduceIte,jA,f2],by simp -implicitDefEqProofs only[AA,↓reduceIte,jA,f3],by simp -implicitDefEqProofs only[AA,↓reduceIte,jA,f4],by simp -implicitDefEqProofs only[AA,↓reduceIte,jA,f5],by simp -implicitDefEqProofs only[AA,↓reduceIte,jA],by simp -implicitDefEqProofs only[AA,↓reduceIte,jA],by simp -implicitDefEqProofs only[AA,↓reduceIte]; rfl,by rw[zQ]; exact E,N,by rw[zQ]; exact NL.nil _ _ _,ho3,(fun b hb=>by
     rcases hb with⟨q,_⟩|q
     .exact absurd rfl q
     .cases q),hle⟩ ?_
   clear f1 f2 f3 f4 f5 E N ho3 hdis hle;rintro n F H ⟨i,co,cbs,hi,f1,f2,f3,f4,f5,f33,f34,f35,E,NP,N,ho3,hdis,hle⟩;simp -implicitDefEqProofs only[DC,jU,jJ,jO,jT,BC,BA,BI,A8,AY,BB,AL,BD,AX,AC,AA,AZ,BR,AB,CZ,↓reduceIte,jB,jC,enP,D8,f34,f35];refine CV (fun hc=>?_) (fun hc=>?_)
   .have hi':i<m.crs.length:=by simpa using hc
    have hcg:=hg.crs _ (jQ hi');have hfs:=hg.full.szs hcg.here;have hsl:=LJ m m.crs[i].pts;have hfour:=hcg.four;have hpr:=hcg.prod;have hC:=AOO m i hi';have hzl:=Q9 (GK (szs m m.crs[i].pts));have htl:((zC m).take i).length<=1048576:=by rw[zD,AAK]; omega
    simp -implicitDefEqProofs only[DC,jU,jJ,jO,jT,BC,BP,BA,BO,A8,AY,BB,AL,BD,AX,AC,EM,AA,AZ,EX,BQ,D6,CE,BX,AB,CY,↓reduceIte,jA,jB,jC,enP,WF,D8,jP,f33,f35,DU hi',FM AAD XY KD hi',ASF,AQP _ _ [.str ⟨#[]⟩,.sl .nil 0 [],.sl .nil 0 []] rfl];have hl1:(H++[ABlk.live 3 [GG m.crs[i]]]).length=H.length+1:=by simp
    have E1:=E.app [.live 3 [GG m.crs[i]]];have N1:=N.app [.live 3 [GG m.crs[i]]];have NP1:=NP.app [.live 3 [GG m.crs[i]]];have ho1:=ho3.app [.live 3 [GG m.crs[i]]];have gc1:=CX H (.live 3 [GG m.crs[i]])
    generalize H++[ABlk.live 3 [GG m.crs[i]]]=Ha at hl1 E1 N1 NP1 ho1 gc1|-
    generalize hpn:GK (szs m m.crs[i].pts)=pn at hC hzl hpr;have N2:=(N1.app [.live 1 ((zeros pn).map encI)]).app [.live 1 [[.own Ha.length 0 pn]]];have NP2:=(NP1.app [.live 1 ((zeros pn).map encI)]).app [.live 1 [[.own Ha.length 0 pn]]];have E2:=(E1.app [.live 1 ((zeros pn).map encI)]).app [.live 1 [[.own Ha.length 0 pn]]];have ho2:=(ho1.app [.live 1 ((zeros pn).map encI)]).app [.live 1 [[.own Ha.length 0 pn]]];have gb:=CU (x:=ABlk.live 1 [[.own Ha.length 0 pn]]) (CX Ha (ABlk.live 1 ((zeros pn).map encI)));have gt:=CX (Ha++[ABlk.live 1 ((zeros pn).map encI)]) (ABlk.live 1 [[.own Ha.length 0 pn]]);have hl2:(Ha++[ABlk.live 1 ((zeros pn).map encI)]++[ABlk.live 1 [[.own Ha.length 0 pn]]]).length=Ha.length+2:=by simp
    refine E8 (by kernel_rfl) ?_;simp -implicitDefEqProofs only[F6,DC,jU,jJ,jO,jT,qY,EH,DT,EI,FH,LU,D9,GU,F9,AA,AZ,BZ,BQ,JH,BJ,AB,jD,jE,jF,↓reduceIte,jA,jM,jG,jB,enP,L6,f1,f4,E1.l4',ldM E1.gm,ldC gc1];refine⟨_,RS G m _ _ hcg.here (by omega),?_⟩
    try simp -implicitDefEqProofs only[]
    refine⟨_,QX G _ _ _ (fun n hn=>(hfs n hn).2) (by omega),?_⟩;rw[hpn]
    try simp -implicitDefEqProofs only[F6,EZ,FW,DC,jU,jJ,jO,jT,qY,EH,DT,EI,KH,IW,AA,AZ,EP,GR,BX,↓reduceIte,jA,jM,jB,enP,mkI _ _ (show pn<=1048576 by omega),AC7]
    generalize Ha++[ABlk.live 1 ((zeros pn).map encI)]++[ABlk.live 1 [[.own Ha.length 0 pn]]]=Hb at N2 NP2 E2 ho2 gb gt hl2|-
    generalize (Ha++[ABlk.live 1 ((zeros pn).map encI)]).length=tb at gt|-
    obtain⟨H2,hap,N3,hk,hl3,hx3⟩:=N2.snoc gb (by omega) (by omega) (fun q=>by have:=N.mem_lt q; omega) (fun q e=>by have:=N.top_lt q; omega) (by rw[hzl]; exact gt) htl;rw[<-hC] at N3 hap;have hne:(zC m).take (i+1)≠[]:=by rw[hC]; simp
    have E3:=E2.keep hk (fun b hb=>by
     obtain⟨q,rfl⟩:=ZR hb
     have:=N.lo' q; omega) (hx3 h (by omega))
    rw[PU _ hne] at hap;refine H9 hap ?_;have E4:=E3.set4 (nlV po (zP m)) (.own Hb.length 0 ((zC m).take (i+1)).length);have ho4:=(ho2.keepA hk (fun b hb hb'=>(hdis b (ADB hb')).2 hb)).setB (b:=b4) (by omega) (.live 4 [IB (nlV po (zP m)) (.own Hb.length 0 ((zC m).take (i+1)).length)]);have N4:NL H0.length (H2.set b4 (.live 4 [IB (nlV po (zP m)) (.own Hb.length 0 ((zC m).take (i+1)).length)])) Hb.length (cbs++[Ha.length]) ((zC m).take (i+1)):=N3.keep fun b x hb hg=>CW hg (by have:=N3.lt hb; omega)
    have NP4:NL H0.length (H2.set b4 (.live 4 [IB (nlV po (zP m)) (.own Hb.length 0 ((zC m).take (i+1)).length)])) po pb (zP m):=NP2.keep fun b x hb hg=>CW (hk b x hg (fun q=>(hdis b (ADB q)).1 hb)) (by have:=NP.lt hb; omega)
    simp -implicitDefEqProofs only[F6,DC,jU,jJ,jO,jT,EH,DT,JZ,FB,EI,JV,D9,BA,A8,EJ,EQ,AY,BB,AL,BD,AX,AC,AA,AZ,AU,BH,BG,D6,BR,BJ,AB,CY,C9,↓reduceIte,jA,jM,jG,jB,jC,enP,L6,D8,jP,f4,E3.s4',f35,wrap_succ (show i<9223372036854775807 by omega)];have hl4:(H2.set b4 (.live 4 [IB (nlV po (zP m)) (.own Hb.length 0 ((zC m).take (i+1)).length)])).length=H2.length:=by simp
    generalize H2.set b4 (.live 4 [IB (nlV po (zP m)) (.own Hb.length 0 ((zC m).take (i+1)).length)])=H4 at E4 ho4 N4 NP4 hl4|-
    rw[<-PU Hb.length hne] at E4
    exact⟨n-1,by omega,i+1,Hb.length,_,by omega,by trivial,by trivial,by trivial,by trivial,by trivial,by trivial,by trivial,by trivial,E4,NP4,N4,ho4,fun b hb=>by
     rw[hC] at hb;rcases AFR (o:=co) hb with rfl|hb|rfl
     .exact⟨fun q=>by have:=NP.lt q; omega,fun q=>by have:=ho3.lt q; omega⟩
     .exact hdis _ hb
     .exact⟨fun q=>by have:=NP.lt q; omega,fun q=>by have:=ho3.lt q; omega⟩,by omega⟩
   .have hi':¬i<m.crs.length:=by simpa using hc
    rw[jX (by rw[AAK]; omega)] at N E hdis;simp -implicitDefEqProofs only[DJ,EG,KC,ET,AA,↓reduceIte,jA];exact⟨co,cbs,f2,f3,f4,f5,E,⟨NP,N,fun b h1 h2=>(hdis b h2).1 h1⟩,ho3⟩
  .rintro F' H' ⟨co,cbs,g2,g3,g4,g5,E',N,q3⟩
   simp -implicitDefEqProofs only[BC,A8,EU,↓reduceIte];have p2:=E'.o2; have p3:=E'.o3; have p4:=E'.o4; have p5:=E'.o5;refine RH [(5,2)] (by kernel_rfl) ?_ ?_
   .simp -implicitDefEqProofs only[g2,g5,RI,UU,UE,and_true]
    omega
   simp -implicitDefEqProofs only[F6,DC,jU,jJ,jO,jT,EH,DT,JZ,FB,EI,FH,JV,BK,A8,AA,AZ,BQ,D6,AB,CY,↓reduceIte,jA,jM,jG,jB,enP,jP,g2,g3,g4,g5,JI E'.g4 rfl,N8 E'.g5 rfl,ADQ E'.g2 rfl (MG _ _) (MG _ _),AGF (CW E'.g3 (show b3≠b2 by omega)) rfl q3.leaf];rw[AVF (ba:=b2) (bb:=b3) (by simp -implicitDefEqProofs only[AA,↓reduceIte,jA,g2]) (by simp -implicitDefEqProofs only[AA,↓reduceIte,jA,g3]) (JI (CW (EC E'.g2) (show b2≠b3 by omega)) rfl) (N8 (EC (CW E'.g3 (show b3≠b2 by omega))) rfl)];exact⟨(E'.hx.set (by omega) _).set (by omega) _,po,pb,co,cbs,v3,rfl,(N.keep (H':=(H'.set b2 (.live 4 [IB (nlV po (zP m)) (nlV co (zC m))])).set b3 (.live 1 [[v3]])) fun b x hb _ hg=>CW (CW hg (by omega)) (by omega)).base (by omega),((q3.setB (b:=b2) (by omega) _).setB (b:=b3) (by omega) _).base (by omega)⟩
set_option maxHeartbeats 4000000 in
theorem ANM (G:Nat->AV)(m:Mo)(hm:MoOk m)(hg:Cov.Good m)(h:Hp):ACalls (En G) 92 [.agg (D5 m)] h fun v H=>ext h H∧∃po pb co cbs,v=.agg (IB (nlV po (zP m)) (nlV co (zC m)))∧NC h.length H po pb co cbs (zP m) (zC m):=by
 have hm1:=hm.np;have hm2:=hm.nc;have hnum:=hg.num;refine ND (H:=hint [23,24,25,43,44,45] []) (enM G) Tryz.func92 rfl (by kernel_rfl) (by kernel_rfl) (jH (by kernel_rfl)) ?_;show awp _ _ _ _ _ (EN _ [.cell 2 28] _);have E:=Er.mk' h m;simp -implicitDefEqProofs only[EZ,DC,jU,jJ,jO,jT,BC,BP,BA,A8,AY,BB,AL,BD,AX,AC,EM,AA,AZ,AU,BH,A7,EX,FU,IV,D6,BX,AB,CY,BF,↓reduceIte,jA,jB,jC,enP,D8,jP,bxM,KF,QL,ATE]
 generalize h++[ABlk.live 2 [D5 m]]++[ABlk.live 4 [FD]]++[ABlk.live 4 [FD]]=H0 at E|-
 generalize (h++[ABlk.live 2 [D5 m]]++[ABlk.live 4 [FD]]).length=b3 at E|-
 generalize (h++[ABlk.live 2 [D5 m]]).length=b2 at E|-
 have o2:=E.o2; have o3:=E.o3;have hlt0:=E.lt;refine GM 0 (fun F H=>∃po pb,F 1=.ptr h.length 0 0∧F 2=.ptr b2 0 0∧F 3=.ptr b3 0 0∧Er h H m b2 b3 (nlV po (zP m)) (.sl .nil 0 [])∧NL H0.length H po pb (zP m)∧H0.length<=H.length) (fun _ _=>False) ?_ ?_ (fun _ _ hh=>hh.elim)
 .refine DK (fun n F H=>∃i po pb,n+i=m.pts.length∧F 1=.ptr h.length 0 0∧F 2=.ptr b2 0 0∧F 3=.ptr b3 0 0∧F 4=.int .i64 (i:Nat)∧Er h H m b2 b3 (nlV po ((zP m).take i)) (.sl .nil 0 [])∧NL H0.length H po pb ((zP m).take i)∧H0.length<=H.length) m.pts.length
   ⟨0,0,[],by simp,by simp -implicitDefEqProofs only[AA,↓reduceIte,jA],by simp -implicitDefEqProofs only[AA,↓reduceIte,jA],by simp -implicitDefEqProofs only[AA,↓reduceIte,jA],by simp -implicitDefEqProofs only[AA,↓reduceIte]; rfl,by rw[zQ]; exact E,by rw[zQ]; exact NL.nil _ _ _,jL _⟩ ?_
  clear E;rintro n F H ⟨i,po,pb,hi,f1,f2,f3,f4,E,N,hle⟩;simp -implicitDefEqProofs only[DC,jU,jJ,jO,jT,BC,BA,BI,A8,AY,BB,AL,BD,AX,AC,AA,AZ,BG,BQ,BR,BJ,DZ,AB,CZ,↓reduceIte,jA,jK,jB,jC,enP,QZ,IP,D8,f1,f4,E.m0,jI];refine CV (fun hc=>?_) (fun hc=>?_)
  .have hi':i<m.pts.length:=by simpa using hc
   have h64:=(hg.full _ (jQ hi')).2;have hP:=AON m i hi';have hzl:=Q9 m.pts[i].bins.length;have htl:((zP m).take i).length<=1048576:=by rw[zD,AAJ]; omega
   have N2:=(N.app [.live 1 ((zeros m.pts[i].bins.length).map encI)]).app [.live 1 [[.own H.length 0 m.pts[i].bins.length]]];have E2:=E.keep (u:=.bool true) (H':=H++[ABlk.live 1 ((zeros m.pts[i].bins.length).map encI)]++[ABlk.live 1 [[.own H.length 0 m.pts[i].bins.length]]]) (fun b x hb _=>FZ (FZ hb)) (fun b hb=>hb.elim) (fun q=>(q.app _).app _);have gb:=CU (x:=ABlk.live 1 [[.own H.length 0 m.pts[i].bins.length]]) (CX H (ABlk.live 1 ((zeros m.pts[i].bins.length).map encI)));have gt:=CX (H++[ABlk.live 1 ((zeros m.pts[i].bins.length).map encI)]) (ABlk.live 1 [[.own H.length 0 m.pts[i].bins.length]]);have hl2:(H++[ABlk.live 1 ((zeros m.pts[i].bins.length).map encI)]++[ABlk.live 1 [[.own H.length 0 m.pts[i].bins.length]]]).length=H.length+2:=by simp
   simp -implicitDefEqProofs only[BC,BP,BO,A8];refine E8 (by kernel_rfl) ?_;simp -implicitDefEqProofs only[F6,EZ,FW,DC,jU,jJ,jO,jT,qY,EH,DT,EI,FT,KH,FH,LU,D9,EF,IW,AA,AZ,EP,BQ,JH,BJ,CE,DZ,GR,BX,AB,↓reduceIte,jA,jM,jK,jG,jB,enP,S9,IP,MJ,RZ,I9,f1,f3,f4,E.l3,E.m0,DU hi',DF SQ hi',NU,jI,mkI _ _ (show m.pts[i].bins.length<=1048576 by omega),AC7]
   generalize H++[ABlk.live 1 ((zeros m.pts[i].bins.length).map encI)]++[ABlk.live 1 [[.own H.length 0 m.pts[i].bins.length]]]=Hb at N2 E2 gb gt hl2|-
   generalize (H++[ABlk.live 1 ((zeros m.pts[i].bins.length).map encI)]).length=tb at gt|-
   obtain⟨H2,hap,N3,hk,hl3,hx3⟩:=N2.snoc gb (by omega) (by omega) (fun q=>by have:=N.mem_lt q; omega) (fun q e=>by have:=N.top_lt q; omega) (by rw[hzl]; exact gt) htl;rw[<-hP] at N3 hap;have hne:(zP m).take (i+1)≠[]:=by rw[hP]; simp
   have E3:=E2.keep hk (fun b hb=>by
    obtain⟨q,rfl⟩:=ZR hb
    have:=N.lo' q; omega) (hx3 h (by omega))
   rw[PU _ hne] at hap;refine H9 hap ?_;have E4:=E3.set3 (.own Hb.length 0 ((zP m).take (i+1)).length) (.sl .nil 0 []);have N4:NL H0.length (H2.set b3 (.live 4 [IB (.own Hb.length 0 ((zP m).take (i+1)).length) (.sl .nil 0 [])])) Hb.length (pb++[H.length]) ((zP m).take (i+1)):=N3.keep fun b x hb hg=>CW hg (by have:=N3.lt hb; omega)
   have hl4:(H2.set b3 (.live 4 [IB (.own Hb.length 0 ((zP m).take (i+1)).length) (.sl .nil 0 [])])).length=H2.length:=by simp
   simp -implicitDefEqProofs only[F6,DC,jU,jJ,jO,jT,EH,DT,JZ,FB,EI,JV,D9,BA,A8,EJ,EQ,AY,BB,AL,BD,AX,AC,AA,AZ,AU,BH,BG,A7,D6,BR,BJ,AB,CY,C9,↓reduceIte,jA,jM,jK,jG,jB,jC,enP,MJ,D8,jP,f3,E3.s3,f4,wrap_succ (show i<9223372036854775807 by omega)]
   generalize H2.set b3 (.live 4 [IB (.own Hb.length 0 ((zP m).take (i+1)).length) (.sl .nil 0 [])])=H4 at E4 N4 hl4|-
   rw[<-PU _ hne] at E4;exact⟨n-1,by omega,i+1,Hb.length,_,by omega,by trivial,by trivial,by trivial,by trivial,E4,N4,by omega⟩
  .have hi':¬i<m.pts.length:=by simpa using hc
   rw[jX (by rw[AAJ]; omega)] at N E;simp -implicitDefEqProofs only[DJ,EG,KC,ET,AA,↓reduceIte,jA];exact⟨po,pb,f1,f2,f3,E,N,hle⟩
 .rintro F H ⟨po,pb,f1,f2,f3,E,N,hle⟩
  simp -implicitDefEqProofs only[DC,jU,jJ,jO,jT,BC,BP,BA,A8,EU,AY,BB,AL,BD,AX,AC,AU,BH,A7,↓reduceIte,jB,jC,D8];refine GM 2 (fun F H=>∃co cbs,F 2=.ptr b2 0 0∧F 3=.ptr b3 0 0∧Er h H m b2 b3 (nlV po (zP m)) (nlV co (zC m))∧NC H0.length H po pb co cbs (zP m) (zC m)) (fun _ _=>False) ?_ ?_ (fun _ _ hh=>hh.elim)
  .refine DK (fun n F H=>∃i co cbs,n+i=m.crs.length∧F 1=.ptr h.length 0 0∧F 2=.ptr b2 0 0∧F 3=.ptr b3 0 0∧F 5=.int .i64 (i:Nat)∧Er h H m b2 b3 (nlV po (zP m)) (nlV co ((zC m).take i))∧NL H0.length H po pb (zP m)∧NL H0.length H co cbs ((zC m).take i)∧(∀b,NLB co cbs ((zC m).take i) b->¬NLB po pb (zP m) b)∧H0.length<=H.length) m.crs.length
    ⟨0,0,[],by simp,by simp -implicitDefEqProofs only[AA,↓reduceIte,jA,f1],by simp -implicitDefEqProofs only[AA,↓reduceIte,jA,f2],by simp -implicitDefEqProofs only[AA,↓reduceIte,jA,f3],by simp -implicitDefEqProofs only[AA,↓reduceIte]; rfl,by rw[zQ]; exact E,N,by rw[zQ]; exact NL.nil _ _ _,(fun b hb=>by
     rcases hb with⟨q,_⟩|q
     .exact absurd rfl q
     .cases q),hle⟩ ?_
   clear f1 f2 f3 E N hle;rintro n F H ⟨i,co,cbs,hi,f1,f2,f3,f5,E,NP,N,hdis,hle⟩;simp -implicitDefEqProofs only[DC,jU,jJ,jO,jT,BC,BA,BI,A8,AY,BB,AL,BD,AX,AC,AA,AZ,BG,BQ,BR,BJ,DZ,AB,CZ,↓reduceIte,jA,jG,jB,jC,enP,VQ,J8,D8,f1,f5,E.m1,jI];refine CV (fun hc=>?_) (fun hc=>?_)
   .have hi':i<m.crs.length:=by simpa using hc
    have hcg:=hg.crs _ (jQ hi');have hpr:=hcg.prod;have hfour:=hcg.four;have hmin:min ((GK (szs m m.crs[i].pts):Nat):Int) 1000=((GK (szs m m.crs[i].pts):Nat):Int):=by omega
    have hcall:=XT G m m.crs[i] H hcg.here hg.full (by omega);rw[hmin] at hcall;have hC:=AOO m i hi';have hzl:=Q9 (GK (szs m m.crs[i].pts));have htl:((zC m).take i).length<=1048576:=by rw[zD,AAK]; omega
    generalize GK (szs m m.crs[i].pts)=pn at hC hzl hpr hcall;have N2:=(N.app [.live 1 ((zeros pn).map encI)]).app [.live 1 [[.own H.length 0 pn]]];have NP2:=(NP.app [.live 1 ((zeros pn).map encI)]).app [.live 1 [[.own H.length 0 pn]]];have E2:=E.keep (u:=.bool true) (H':=H++[ABlk.live 1 ((zeros pn).map encI)]++[ABlk.live 1 [[.own H.length 0 pn]]]) (fun b x hb _=>FZ (FZ hb)) (fun b hb=>hb.elim) (fun q=>(q.app _).app _);have gb:=CU (x:=ABlk.live 1 [[.own H.length 0 pn]]) (CX H (ABlk.live 1 ((zeros pn).map encI)));have gt:=CX (H++[ABlk.live 1 ((zeros pn).map encI)]) (ABlk.live 1 [[.own H.length 0 pn]]);have hl2:(H++[ABlk.live 1 ((zeros pn).map encI)]++[ABlk.live 1 [[.own H.length 0 pn]]]).length=H.length+2:=by simp
    simp -implicitDefEqProofs only[BC,BP,BO,A8];refine E8 (by kernel_rfl) ?_;simp -implicitDefEqProofs only[F6,DC,jU,jJ,jO,jT,qY,EH,DT,EI,FT,FH,LU,D9,EF,GU,F9,AA,AZ,BZ,BQ,JH,BJ,CE,AB,jD,jE,jF,↓reduceIte,jA,jM,jG,jB,enP,WF,J8,L6,f1,f3,f5,E.l3',E.m1,ldM E.gm,DU hi',FM AAD XY KD hi'];refine⟨_,hcall,?_⟩
    try simp -implicitDefEqProofs only[F6,EZ,FW,DC,jU,jJ,jO,jT,qY,EH,DT,EI,KH,IW,AA,AZ,EP,GR,BX,↓reduceIte,jA,jM,jB,enP,mkI _ _ (show pn<=1048576 by omega),AC7]
    generalize H++[ABlk.live 1 ((zeros pn).map encI)]++[ABlk.live 1 [[.own H.length 0 pn]]]=Hb at N2 NP2 E2 gb gt hl2|-
    generalize (H++[ABlk.live 1 ((zeros pn).map encI)]).length=tb at gt|-
    obtain⟨H2,hap,N3,hk,hl3,hx3⟩:=N2.snoc gb (by omega) (by omega) (fun q=>by have:=N.mem_lt q; omega) (fun q e=>by have:=N.top_lt q; omega) (by rw[hzl]; exact gt) htl;rw[<-hC] at N3 hap;have hne:(zC m).take (i+1)≠[]:=by rw[hC]; simp
    have E3:=E2.keep hk (fun b hb=>by
     obtain⟨q,rfl⟩:=ZR hb
     have:=N.lo' q; omega) (hx3 h (by omega))
    rw[PU _ hne] at hap;refine H9 hap ?_;have E4:=E3.set3 (nlV po (zP m)) (.own Hb.length 0 ((zC m).take (i+1)).length);have N4:NL H0.length (H2.set b3 (.live 4 [IB (nlV po (zP m)) (.own Hb.length 0 ((zC m).take (i+1)).length)])) Hb.length (cbs++[H.length]) ((zC m).take (i+1)):=N3.keep fun b x hb hg=>CW hg (by have:=N3.lt hb; omega)
    have NP4:NL H0.length (H2.set b3 (.live 4 [IB (nlV po (zP m)) (.own Hb.length 0 ((zC m).take (i+1)).length)])) po pb (zP m):=NP2.keep fun b x hb hg=>CW (hk b x hg (fun q=>hdis b (ADB q) hb)) (by have:=NP.lt hb; omega)
    simp -implicitDefEqProofs only[F6,DC,jU,jJ,jO,jT,EH,DT,JZ,FB,EI,JV,D9,BA,A8,EJ,EQ,AY,BB,AL,BD,AX,AC,AA,AZ,AU,BH,BG,A7,D6,BR,BJ,AB,CY,C9,↓reduceIte,jA,jM,jG,jB,jC,enP,L6,D8,jP,f3,E3.s3',f5,wrap_succ (show i<9223372036854775807 by omega)];have hl4:(H2.set b3 (.live 4 [IB (nlV po (zP m)) (.own Hb.length 0 ((zC m).take (i+1)).length)])).length=H2.length:=by simp
    generalize H2.set b3 (.live 4 [IB (nlV po (zP m)) (.own Hb.length 0 ((zC m).take (i+1)).length)])=H4 at E4 N4 NP4 hl4|-
    rw[<-PU Hb.length hne] at E4
    exact⟨n-1,by omega,i+1,Hb.length,_,by omega,by trivial,by trivial,by trivial,by trivial,E4,NP4,N4,(fun b hb=>by
     rw[hC] at hb;rcases AFR (o:=co) hb with rfl|hb|rfl
     .exact fun q=>by have:=NP.lt q; omega
     .exact hdis _ hb
     .exact fun q=>by have:=NP.lt q; omega),by omega⟩
   .have hi':¬i<m.crs.length:=by simpa using hc
    rw[jX (by rw[AAK]; omega)] at N E hdis;simp -implicitDefEqProofs only[DJ,EG,KC,ET,AA,↓reduceIte,jA];exact⟨co,cbs,f2,f3,E,⟨NP,N,fun b h1 h2=>hdis b h2 h1⟩⟩
  .rintro F' H' ⟨co,cbs,g2,g3,E',N⟩
   have hp:=E'.o2; have hq:=E'.o3;simp -implicitDefEqProofs only[DC,jU,jJ,jO,jT,BC,BA,BK,A8,EU,AY,BB,AL,BD,AX,AC,EM,AA,AZ,BQ,D6,AB,CY,↓reduceIte,jA,jB,jC,enP,D8,jP,g2,g3,JI E'.g3 rfl,ADQ E'.g2 rfl (MG _ _) (MG _ _)];rw[ANJ (b:=b2) (by simp -implicitDefEqProofs only[AA,↓reduceIte,jA,g2]) (JI (EC E'.g2) rfl)];exact⟨E'.hx.set (by omega) _,po,pb,co,cbs,rfl,(N.keep (H':=H'.set b2 (.live 4 [IB (nlV po (zP m)) (nlV co (zC m))])) fun b x hb _ hg=>CW hg (by omega)).base (by omega)⟩
theorem A1T (H0:Hp){v1 v2 v3:AV}(h1:v1.leaf=true)(h2:v2.leaf=true)(h3:v3.leaf=true) :
  FX Tryz.prog (H0++[ABlk.live 4 [FD]]++[ABlk.live 1 [FY]]) 28 (.ptr H0.length 0 0) (.agg (IB v1 v2))=some ((H0++[ABlk.live 4 [FD]]++[ABlk.live 1 [FY]]).set H0.length (ABlk.live 4 [IB v1 v2])) ∧
  FX Tryz.prog ((H0++[ABlk.live 4 [FD]]++[ABlk.live 1 [FY]]).set H0.length (ABlk.live 4 [IB v1 v2])) 47 (.ptr (H0++[ABlk.live 4 [FD]]).length 0 0) (.agg [v3])=some (((H0++[ABlk.live 4 [FD]]++[ABlk.live 1 [FY]]).set H0.length (ABlk.live 4 [IB v1 v2])).set (H0++[ABlk.live 4 [FD]]).length (ABlk.live 1 [[v3]])) ∧
  (((H0++[ABlk.live 4 [FD]]++[ABlk.live 1 [FY]]).set H0.length (ABlk.live 4 [IB v1 v2])).set (H0++[ABlk.live 4 [FD]]).length (ABlk.live 1 [[v3]]))[H0.length]?=some (ABlk.live 4 [IB v1 v2]) ∧
  (((H0++[ABlk.live 4 [FD]]++[ABlk.live 1 [FY]]).set H0.length (ABlk.live 4 [IB v1 v2])).set (H0++[ABlk.live 4 [FD]]).length (ABlk.live 1 [[v3]]))[(H0++[ABlk.live 4 [FD]]).length]?=some (ABlk.live 1 [[v3]]) ∧
  ext H0 (((H0++[ABlk.live 4 [FD]]++[ABlk.live 1 [FY]]).set H0.length (ABlk.live 4 [IB v1 v2])).set (H0++[ABlk.live 4 [FD]]).length (ABlk.live 1 [[v3]])) :=
 ⟨ADQ (CU (CX _ _)) rfl h1 h2,AGF (CW (CX _ _) (by simp)) rfl h3,CW (EC (CU (CX _ _))) (by simp),EC (CW (CX _ _) (by simp)),((((ext.rfl' H0).app _).app _).set (jL _) _).set (by simp) _⟩
theorem NC.ext {n0:Nat}{H H':Hp}{po:Nat}{pb:List Nat}{co:Nat}{cbs:List Nat}{P C:List (List Int)}(N:NC n0 H po pb co cbs P C)(hx:Sm.ext H H'):NC n0 H' po pb co cbs P C:=N.keep fun _ _ _ _ hg=>FP hx hg
theorem outG.ext {α:Type}{k:Nat}{f:α->List AV}{h H H':Hp}{ys:List α}{v:AV}(ho:outG k f h ys v H)(hx:Sm.ext H H'):outG k f h ys v H':=by
 obtain⟨y,rfl⟩:=hx;exact ho.app y
def EmQ (h:Hp)(m:Mo)(v:AV)(H:Hp):Prop:=ext h H∧((EY m≠0∧v=.tup [.agg FD,.agg FY,.int .i64 (EY m)]) ∨
 (EY m=0∧∃po pb co cbs v3,v=.tup [.agg (IB (nlV po (zP m)) (nlV co (zC m))),.agg [v3],.int .i64 0]∧EmO h H m po pb co cbs v3))
set_option maxHeartbeats 1000000 in
theorem ASQ (G:Nat->AV)(hG:GOk G)(m:Mo)(hm:MoOk m)(h:Hp):ACalls (En G) 67 [.agg (D5 m)] h (EmQ h m):=by
 refine acN Tryz.func67 rfl ?_;show awp _ _ _ _ _ (EN _ [.cell 2 28,.cell 3 47,.tmp 4] _);unfold EmQ;have E:=Ee.mk' h m;simp -implicitDefEqProofs only[BC,BA,A8,AY,BB,AO,AQ,AL,BD,AX,AC,AA,AZ,AU,BH,A7,EX,FU,BQ,BX,BF,↓reduceIte,jA,jB,jC,enP,bxM,KF,VS]
 generalize h++[ABlk.live 2 [D5 m]]++[ABlk.live 4 [FD]]++[ABlk.live 1 [FY]]=H0 at E|-
 generalize (h++[ABlk.live 2 [D5 m]]++[ABlk.live 4 [FD]]).length=b3 at E|-
 generalize (h++[ABlk.live 2 [D5 m]]).length=b2 at E|-
 have o2:=E.o2; have o3:=E.o3; have hlt:=E.lt;simp -implicitDefEqProofs only[AY,AO,AQ,AL,BD,AX,AC,AA,AZ,BZ,CB,BU,AB,jD,jE,jF,↓reduceIte,jB,jC,ldM E.gm];refine(RY G hG m hm _).use ?_;cases hb:(EY m==0)
 .have h0:EY m≠0:=by simpa using hb
  simp -implicitDefEqProofs only[EZ,BC,BA,BK,BI,A8,CP,DI,AY,BB,AO,AQ,AL,BD,AX,AC,EM,AA,AZ,AU,BH,BG,A7,IV,D6,BR,AB,CY,EK,↓reduceIte,jA,jB,jC,enP,jP,bne,hb,QL,ACB,stZ E.g2 rfl,ABR (CW E.g3 (show b3≠b2 by omega)) rfl];rw[TI (ba:=b2) (bb:=b3) (by simp -implicitDefEqProofs only[AA,↓reduceIte,jA]) (by simp -implicitDefEqProofs only[AA,↓reduceIte,jA]) (JI (CW (EC E.g2) (show b2≠b3 by omega)) rfl) (N8 (EC (CW E.g3 (show b3≠b2 by omega))) rfl)];exact⟨(E.hx.set (by omega) _).set (by omega) _,.inl ⟨h0,by simp -implicitDefEqProofs only[AA,↓reduceIte]⟩⟩
 .have h0:EY m=0:=by simpa using hb
  have hg:=LV h0;simp -implicitDefEqProofs only[BC,BA,BO,BI,A8,DR,AY,BB,AO,AQ,AL,BD,AX,AC,AA,AZ,AU,BZ,BH,BG,A7,BQ,BR,CB,BU,AB,EK,jD,jE,jF,↓reduceIte,jA,jB,jR,jC,enP,bne,hb,ldM E.gm];refine(ARY G m hm hg _).mono ?_;rintro v H1 ⟨hx1,po,pb,co,cbs,v3,rfl,EO⟩;obtain⟨s1,s2,g6,g7,hx5⟩:=A1T H1 (MG po (zP m)) (MG co (zC m)) EO.o3.leaf;have g2:=FP hx5 (FP hx1 E.g2);have g3:=FP hx5 (FP hx1 E.g3);have hx:=(E.hx.trans hx1).trans hx5;have hle1:=hx1.le;have h7:b2<(H1++[ABlk.live 4 [FD]]).length:=by simp; omega
  have N5:=EO.nc.ext hx5;have q5:=outG.ext EO.o3 hx5;simp -implicitDefEqProofs only[zB,zG,BC,A8,AY,BB,AO,AQ,AL,BD,AX,AC,EM,AA,AZ,BG,EX,D6,FK,GN,BX,AB,CY,↓reduceIte,jA,jB,jC,enP,jP,KF,VS,s1,s2]
  generalize ((H1++[ABlk.live 4 [FD]]++[ABlk.live 1 [FY]]).set H1.length (ABlk.live 4 [IB (nlV po (zP m)) (nlV co (zC m))])).set (H1++[ABlk.live 4 [FD]]).length (ABlk.live 1 [[v3]])=H5 at g6 g7 g2 g3 hx N5 q5|-
  generalize (H1++[ABlk.live 4 [FD]]).length=b7 at g7 h7|-
  refine RH [(7,2)] (by kernel_rfl) ?_ ?_
  .simp -implicitDefEqProofs only[AA,↓reduceIte,jA,RI,UU,UE,and_true]
   omega
  simp -implicitDefEqProofs only[F6,EH,DT,JZ,FB,EI,JW,FH,JV,BK,A8,AO,AA,AZ,AU,BH,BQ,D6,AB,CY,↓reduceIte,jA,jM,jG,jB,enP,jP,JI g6 rfl,N8 g7 rfl,ADQ g2 rfl (MG po (zP m)) (MG co (zC m)),AGF (CW g3 (show b3≠b2 by omega)) rfl q5.leaf];rw[TI (ba:=b2) (bb:=b3) (by simp -implicitDefEqProofs only[AA,↓reduceIte,jA]) (by simp -implicitDefEqProofs only[AA,↓reduceIte,jA]) (JI (CW (EC g2) (show b2≠b3 by omega)) rfl) (N8 (EC (CW g3 (show b3≠b2 by omega))) rfl)];have hhl:=E.hx.le;refine⟨(hx.set (by omega) _).set (by omega) _,.inr ⟨h0,po,pb,co,cbs,v3,by simp -implicitDefEqProofs only[AA,↓reduceIte],?_,?_⟩⟩
  .exact(N5.keep (H':=(H5.set b2 (.live 4 [IB (nlV po (zP m)) (nlV co (zC m))])).set b3 (.live 1 [[v3]])) fun b x hb _ hg=>CW (CW hg (by omega)) (by omega)).base hhl
  .exact((q5.setB (b:=b2) (by omega) _).setB (b:=b3) (by omega) _).base hhl
structure St where
 P:List (List Int)
 C:List (List Int)
 sam:Int
 ill:Int
 ls:List (List Int)
def RP (m:Mo)(s:St)(env:List Sg):Int:=JX PtR.err (OQ m s.ls env)
def stp (m:Mo)(s:St)(env:List Sg):St:=⟨LX (OQ m s.ls env) s.P,NJ m ((OQ m s.ls env).map PtR.hit) s.C,rz s.sam,if(OQ m s.ls env).any PtR.bad=true then rz s.ill else s.ill,(OQ m s.ls env).map PtR.next⟩
structure StOk (m:Mo) (s:St):Prop where
 sh:ShapeOk m s.P s.C
 ll:s.ls.length=m.pts.length
 l7:∀l∈s.ls,l.length<=7
 sm:0<=s.sam∧s.sam<=1099511627776
 il:0<=s.ill∧s.ill<=1099511627776
theorem ATS (p:Pt)(last:List Int)(l:List Sg):(ptE p last l).next.length<=7:=by
 have hn:∀v,(nextL last v).length<=7:=fun v=>by unfold nextL; rw[List.length_drop,zW]; simp; omega
 unfold ptE;split
 .simp
 .split
  .simp
  .split
   .exact hn _
   .split
    .exact hn _
    .exact hn _
theorem ShapeOk.step {m:Mo}{P C:List (List Int)}(h:ShapeOk m P C){rs:List PtR}(hr:rs.length=m.pts.length)(hits:List (List Nat)):ShapeOk m (LX rs P) (NJ m hits C):=by
 have h1:rs.length=P.length:=by rw[hr,h.pl]
 have h2:=h.cl;have l1:=UC rs P h1;have l2:=VZ m hits C h2;refine⟨by rw[l1]; exact h.pl,by rw[l2]; exact h2,fun i a b=>?_,fun i a b=>?_,AXK h.wp,AXL h.wc⟩
 .rw[UD rs P i (by omega) (by omega),QE]; exact h.pe i (by omega) b
 .rw[V3 m hits C i b (by omega),QG]; exact h.ce i (by omega) b
theorem StOk.step {m:Mo}{s:St}(h:StOk m s)(env:List Sg):StOk m (stp m s env):=by
 have hr:=UG m s.ls env h.ll;refine⟨h.sh.step hr _,by simp [stp,hr],fun l hl=>?_,AO1 h.sm,?_⟩
 .obtain⟨r,hr,rfl⟩:=zM.1 hl
  obtain⟨p,hp,rfl⟩:=zM.1 hr;exact ATS _ _ _
 .unfold stp
  dsimp only
  split
  .exact AO1 h.il
  .exact h.il
def zS (m:Mo):St:=⟨zP m,zC m,0,0,jZ m.pts.length []⟩
theorem AJK (n:Nat):Wn (zeros n):=fun x hx=>by
 have:x=0:=by simpa [zeros] using (List.eq_of_mem_replicate hx)
 subst this; decide
theorem AZ9 (m:Mo):StOk m (zS m):=by
 refine⟨⟨AAJ m,AAK m,fun i a b=>?_,fun i a b=>?_,fun xs hx=>?_,fun xs hx=>?_⟩,by simp [zS],fun l hl=>?_,⟨by show(0:Int)<=0; omega,by show(0:Int)<=1099511627776; omega⟩,⟨by show(0:Int)<=0; omega,by show(0:Int)<=1099511627776; omega⟩⟩
 .simp [zS,zP,zeros]
 .simp [zS,zC,zeros]
 .obtain⟨p,_,rfl⟩:=zM.1 hx
  exact AJK _
 .obtain⟨p,_,rfl⟩:=zM.1 hx
  exact AJK _
 .rw[List.eq_of_mem_replicate hl]; simp
def PI (m:Mo):St->List (List Sg)->Int×St
 | s,[]=>(0,s)
 | s,e::r=>if RP m s e≠0 then (RP m s e,s) else PI m (stp m s e) r
def MF (m:Mo)(l:List (List Sg)):Int:=if EY m=0 then (PI m (zS m) l).1 else EY m
def Q5 (P:List (List Int)):List Is:=P.map fun x=>⟨.any,x⟩
def cvS (s:St):Cvr:=⟨nm (Q5 s.P),Q5 s.P,nm (Q5 s.C),Q5 s.C,s.sam,s.ill⟩
def QW (m:Mo)(l:List (List Sg)):Cvr:=if EY m=0∧(PI m (zS m) l).1=0 then cvS (PI m (zS m) l).2 else zV
def cvW (s:St):List AV:=[fzG 1 encL (Q5 s.P),fzG 1 encL (Q5 s.C),.int .i64 s.sam,.int .i64 s.ill]
theorem AVR (s:St):CvR (.agg (cvW s)) (.agg (ER (cvS s))):=CvR.agg (CvRL.cons TT (CvRL.cons TT (CvRL.refl _)))
def AMO (m:Mo)(l:List (List Sg)):List AV:=if EY m=0∧(PI m (zS m) l).1=0 then cvW (PI m (zS m) l).2 else FD
theorem AXS (m:Mo)(l:List (List Sg)):CvR (.agg (AMO m l)) (.agg (ER (QW m l))):=by
 unfold AMO QW;split
 .exact AVR _
 .exact AJL
structure Ss where
 m:SM
 l:List Sg
def VI (x:Ss):List AV:=[.sl x.m 2 (x.l.map HY)]
theorem AVG (x:Ss):(VI x)[0]?=some (.sl x.m 2 (x.l.map HY)):=rfl
theorem ANF {h H:Hp}(_:h.length<=H.length)(hg:∀(b:Nat) (x:ABlk),h[b]?=some x->H[b]?=some x):ext h H:=⟨H.drop h.length,by
 refine List.ext_getElem? fun i=>?_
 rcases Nat.lt_or_ge i h.length with hi|hi
 .rw[List.getElem?_append_left hi,jS hi]; exact hg i _ (jS hi)
 .rw[List.getElem?_append_right hi,List.getElem?_drop]; congr 1; omega⟩
theorem Fr1.ext {h0 h H:Hp}{cb tb:Nat}{pb cbs:List Nat}(hf:Fr1 h H cb tb pb cbs)(hx:Sm.ext h0 h)(h1:h0.length<=cb)(h2:h0.length<=tb)(h3:∀b∈pb,h0.length<=b)(h4:∀b∈cbs,h0.length<=b):Sm.ext h0 H :=
 ANF (zY hx.le hf.le) fun b x hb=>by
  have hlt:=CJ hb;exact hf.get b x (FP hx hb) (by omega) (by omega) (fun q=>by have:=h3 b q; omega) (fun q=>by have:=h4 b q; omega)
theorem AVS (po:Nat)(P:List (List Int))(co:Nat)(C:List (List Int))(a b:Int):(cvR po P co C a b).all AV.leaf=true:=by
 simp [cvR,MG]; exact⟨rfl,rfl⟩
theorem A0H {H:Hp}{b:Nat}{row:List AV}{po:Nat}{P:List (List Int)}{co:Nat}{C:List (List Int)}{x y:Int}(hb:H[b]?=some (.live 4 [row]))(hr:row.length=4):FX Tryz.prog H 28 (.ptr b 0 0) (.agg (cvR po P co C x y))=some (H.set b (.live 4 [cvR po P co C x y])):=by
 rw[O6 (cs:=cvR po P co C x y) (TV (AVS _ _ _ _ _ _)) ACK hb (by rw[hr]; exact jL 4)];have:splice row 0 (cvR po P co C x y)=cvR po P co C x y:=by unfold splice; rw[zQ,jW (by rw[hr]; exact jL 4)]; simp
 rw[this]
theorem AVX {n0:Nat}{H:Hp}{po co:Nat}{pb cbs:List Nat}(s:St)(np:NL n0 H po pb s.P)(nc:NL n0 H co cbs s.C)(n d:Nat)(hn:n<=n0):IX n H (d+4) (.agg (cvR po s.P co s.C s.sam s.ill))=.agg (cvW s):=by
 show AV.agg [IX n H (d+3) (nlV po s.P),IX n H (d+3) (nlV co s.C),.int .i64 s.sam,.int .i64 s.ill]=_;rw[np.frz n d hn,nc.frz n d hn]; rfl
theorem AS6 {h H:Hp}{m:Mo}{v3:AV}(o:outG 1 (fun _:Pt=>FY) h m.pts v3 H):TLs H v3 (jZ m.pts.length []):=by
 rcases o with⟨e,_⟩|⟨_,q,_,rfl,hq⟩
 .rw[e]; exact .inl rfl
 .refine .inr (.inr ⟨q,m.pts.map fun _=>FY,by simp,hq,?_⟩)
  rw[List.map_const'];exact RowsL.nils _
set_option maxHeartbeats 4000000 in
theorem AWW (G:Nat->AV)(hG:GOk G)(hT:OB G)(m:Mo)(hm:MoOk m)(l:List Ss)(s:SM)(h:Hp)(hl:l.length<=1048576)(he:∀x∈l,x.l.length<=1048576) :
  PCall (En G) 48 [.agg (D5 m),.sl s 1 (l.map VI)] h (.tup [.agg (ER (QW m (l.map Ss.l))),.int .i64 (MF m (l.map Ss.l))]):=by
 refine PCall.res (r:=.tup [.agg (AMO m (l.map Ss.l)),.int .i64 (MF m (l.map Ss.l))]) ?_ (CvR.tup (CvRL.cons (AXS _ _) (CvRL.refl _)));refine ACalls.pure (R:=fun v H=>ext h H∧IX h.length H 5 v=.tup [.agg (AMO m (l.map Ss.l)),.int .i64 (MF m (l.map Ss.l))]) 5 ?_ (fun v H ⟨a,b⟩=>⟨a,b⟩);refine acN Tryz.func48 rfl ?_;show awp _ _ _ _ _ (EN _ [.cell 4 28,.tmp 5] _);have gm:=CU (x:=ABlk.live 4 [FD]) (CX h (ABlk.live 2 [D5 m]));have g4:=CX (h++[ABlk.live 2 [D5 m]]) (ABlk.live 4 [FD]);have hx:ext h (h++[ABlk.live 2 [D5 m]]++[ABlk.live 4 [FD]]):=((ext.rfl' h).app _).app _;have hb4:h.length<(h++[ABlk.live 2 [D5 m]]).length:=by simp
 simp -implicitDefEqProofs only[BC,BA,A8,AY,BB,AO,AQ,AL,BD,AX,AC,AA,AZ,AU,BH,A7,EX,FU,BQ,BX,BF,↓reduceIte,jA,jB,jC,enP,bxM,KF]
 generalize h++[ABlk.live 2 [D5 m]]++[ABlk.live 4 [FD]]=H0 at gm g4 hx|-
 generalize (h++[ABlk.live 2 [D5 m]]).length=b4 at g4 hb4|-
 have hlt:=CJ g4;simp -implicitDefEqProofs only[AY,AO,AQ,AL,BD,AX,AC,AA,AZ,BZ,CB,BU,AB,jD,jE,jF,↓reduceIte,jB,jC,ldM gm];refine(ASQ G hG m hm H0).mono ?_;rintro v H1 ⟨hx1,⟨hne,rfl⟩|⟨h0,po,pb,co,cbs,v3,rfl,EO⟩⟩
 .have hb:(EY m==0)=false:=by simpa using hne
  obtain⟨s1,s2,g6,g7,hx5⟩:=A1T H1 (v1:=.sl .nil 0 []) (v2:=.sl .nil 0 []) (v3:=.sl .nil 0 []) rfl rfl rfl;have s1':FX Tryz.prog (H1++[ABlk.live 4 [FD]]++[ABlk.live 1 [FY]]) 28 (.ptr H1.length 0 0) (.agg FD)=_:=s1;have s2':FX Tryz.prog ((H1++[ABlk.live 4 [FD]]++[ABlk.live 1 [FY]]).set H1.length (ABlk.live 4 [IB (.sl .nil 0 []) (.sl .nil 0 [])])) 47 (.ptr (H1++[ABlk.live 4 [FD]]).length 0 0) (.agg FY)=_:=s2;have g4':=FP hx5 (FP hx1 g4);have hx':=(hx.trans hx1).trans hx5;simp -implicitDefEqProofs only[zB,zG,EZ,BC,BA,BI,A8,DI,AY,BB,AO,AQ,AL,BD,AX,AC,EM,AA,AZ,AU,BH,BG,A7,EX,IV,D6,BR,FK,GN,BX,AB,CY,EK,↓reduceIte,jA,jB,jC,enP,jP,KF,VS,s1',s2',bne,hb,QL]
  generalize ((H1++[ABlk.live 4 [FD]]++[ABlk.live 1 [FY]]).set H1.length (ABlk.live 4 [IB (.sl .nil 0 []) (.sl .nil 0 [])])).set (H1++[ABlk.live 4 [FD]]).length (ABlk.live 1 [[.sl .nil 0 []]])=H5 at g4' hx'|-
  simp -implicitDefEqProofs only[BK,A8,CP,AY,BB,AO,AQ,AL,BD,AX,AC,EM,AA,AZ,A7,CY,↓reduceIte,jB,jC,stZ g4' rfl];rw[N9 (ba:=b4) (by simp -implicitDefEqProofs only[AA,↓reduceIte,jA]) (JI (EC g4') rfl)];refine⟨hx'.set (by omega) _,?_⟩;unfold AMO MF;rw[if_neg (fun q=>hne q.1),if_neg hne];rfl
 have hg:=LV h0;have hnp:m.pts.length<=16:=by have:=hg.num; omega
 obtain⟨s1,s2,g6,g7,hx5⟩:=A1T H1 (MG po (zP m)) (MG co (zC m)) EO.o3.leaf;have gm5:=FP hx5 (FP hx1 gm);have g45:=FP hx5 (FP hx1 g4);have hx':=(hx.trans hx1).trans hx5;have hle1:=hx1.le;have N5:=EO.nc.ext hx5;have q5:=AS6 (outG.ext EO.o3 hx5)
 have hlb:∀b,NLB po pb (zP m) b∨NLB co cbs (zC m) b->b<H1.length:=fun b hb=>by
  rcases hb with hb|hb
  .exact(EO.nc.np.lt hb).2
  .exact(EO.nc.nc.lt hb).2
 have htl:(H1++[ABlk.live 4 [FD]]).length=H1.length+1:=by simp
 simp -implicitDefEqProofs only[zB,zG,BC,BP,BA,BO,BI,A8,DR,AY,BB,AO,AQ,AL,BD,AX,AC,EM,AA,AZ,AU,BH,BG,A7,EX,D6,BR,FK,GN,DZ,BX,AB,CY,EK,BF,BN,↓reduceIte,jA,jB,jR,jC,enP,AYN,jP,KF,VS,s1,s2,bne,beq_self_eq_true,jI]
 generalize ((H1++[ABlk.live 4 [FD]]++[ABlk.live 1 [FY]]).set H1.length (ABlk.live 4 [IB (nlV po (zP m)) (nlV co (zC m))])).set (H1++[ABlk.live 4 [FD]]).length (ABlk.live 1 [[v3]])=H5 at g6 g7 gm5 g45 hx' N5 q5|-
 generalize (H1++[ABlk.live 4 [FD]]).length=tb at g7 htl|-
 generalize H1.length=cb at g6 hlb htl hle1|-
 have S5:CS H0.length H5 cb tb po co pb cbs (zS m).P (zS m).C (zS m).sam (zS m).ill v3:=N5.cs g6 g7 (by omega) (fun b hb=>by have:=hlb b hb; omega)
 refine DK (fun n F H=>∃k st v3,n+k=l.length∧F 2=.ptr h.length 0 0∧F 4=.ptr b4 0 0∧F 6=.ptr cb 0 0∧F 7=.ptr tb 0 0∧F 22=.sl s 1 (l.map VI)∧F 23=.int .i64 (l.length:Nat)∧F 24=.int .i64 (k:Nat)∧H[h.length]?=some (.live 2 [D5 m])∧H[b4]?=some (.live 4 [FD]) ∧
   CS H0.length H cb tb po co pb cbs st.P st.C st.sam st.ill v3∧TLs H v3 st.ls∧StOk m st∧ext h H∧PI m (zS m) (l.map Ss.l)=PI m st ((l.drop k).map Ss.l)) l.length
  ⟨0,zS m,v3,by simp,by simp -implicitDefEqProofs only[AA,↓reduceIte,jA],by simp -implicitDefEqProofs only[AA,↓reduceIte,jA],by simp -implicitDefEqProofs only[AA,↓reduceIte,jA],by simp -implicitDefEqProofs only[AA,↓reduceIte,jA],by simp -implicitDefEqProofs only[AA,↓reduceIte,jA],by simp -implicitDefEqProofs only[AA,↓reduceIte,jA],by simp -implicitDefEqProofs only[AA,↓reduceIte]<;>rfl,gm5,g45,S5,q5,AZ9 m,hx',rfl⟩ ?_
 clear gm5 g45 S5 q5 hx' N5 g6 g7 s1 s2 hx5;rintro n F H ⟨k,st,v3',hk,f2,f4,f6,f7,f22,f23,f24,gmH,g4H,S,T,hok,hxH,hrun⟩;simp -implicitDefEqProofs only[BC,BA,BI,A8,AY,BB,AO,AQ,AL,BD,AX,AC,AA,AZ,BR,AB,CZ,↓reduceIte,jB,jC,enP,f23,f24];refine CV (fun hc=>?_) (fun hc=>?_)
 .have hk':k<l.length:=by simpa using hc
  rw[zK hk',jD] at hrun;simp -implicitDefEqProofs only[BC,BP,BA,BO,A8,AY,BB,AO,AQ,AL,BD,AX,AC,AA,AZ,BZ,BG,A7,BQ,CE,CB,BU,AB,jD,jE,jF,↓reduceIte,jA,jB,jC,enP,A3P,f22,f24,DU hk',DF A2E hk',AVG,f2,ldM gmH,f6,f7];refine(AJ7 G hG hT m hm hg S hok.sh st.ls hok.ll (fun x hx=>by have:=hok.l7 x hx; omega) T l[k].l l[k].m (by have:=he _ (jQ hk'); omega) hok.sm hok.il).mono ?_;intro v H' hQ;unfold A2F at hQ;rcases hQ with⟨e,hne,hfst,rfl,hxe⟩|⟨hfst,rfl,lb,hlb2,glb,S',hFr⟩
  .have hb:(e==0)=false:=by simpa using hne
   have hse:RP m st l[k].l=e:=hfst;have g4':=FP hxe g4H;simp -implicitDefEqProofs only[EZ,BC,BA,BK,BI,A8,CP,EE,FQ,DI,AY,BB,AO,AQ,AL,BD,AX,AC,EM,AA,AZ,AU,BH,BG,A7,IV,D6,BR,AB,CY,EK,↓reduceIte,jA,jB,jC,enP,jP,bne,hb,QL,f4,stZ g4' rfl];rw[N9 (ba:=b4) (by simp -implicitDefEqProofs only[AA,↓reduceIte,jA,f4]) (JI (EC g4') rfl)];refine⟨(hxH.trans hxe).set (by omega) _,?_⟩
   have hr:PI m (zS m) (l.map Ss.l)=(e,st):=by
    rw[hrun];show(if RP m st l[k].l≠0 then (RP m st l[k].l,st) else _)=_;rw[hse,if_pos hne]
   unfold AMO MF;rw[if_neg (by rw[hr]; exact fun q=>hne q.2),if_pos h0,hr];simp -implicitDefEqProofs only[AA,↓reduceIte];rfl
  .have hse:RP m st l[k].l=0:=hfst
   have hr:PI m (zS m) (l.map Ss.l)=PI m (stp m st l[k].l) ((l.drop (k+1)).map Ss.l):=by
    rw[hrun];show(if RP m st l[k].l≠0 then (RP m st l[k].l,st) else _)=_;rw[hse,if_neg (by decide)]
   have hpl:∀b∈pb,H0.length<=b:=S.np.lo;have hcl:∀b∈cbs,H0.length<=b:=S.nc.lo;have hhl:=hx.le;have gm':=hFr.get _ _ gmH (by omega) (by omega) (fun q=>by have:=hpl _ q; omega) (fun q=>by have:=hcl _ q; omega);have g4':=hFr.get _ _ g4H (by omega) (by omega) (fun q=>by have:=hpl _ q; omega) (fun q=>by have:=hcl _ q; omega);have hx2:=hFr.ext hxH (by omega) (by omega) (fun b hb=>by have:=hpl _ hb; omega) (fun b hb=>by have:=hcl _ hb; omega)
   have T':TLs H' (.own lb 0 m.pts.length) (stp m st l[k].l).ls:=by
    refine .inr (.inr ⟨lb,_,?_,glb,RowsL.map _⟩);rw[(hok.step l[k].l).ll]
   simp -implicitDefEqProofs only[BC,BA,BO,BI,A8,EJ,EQ,DR,AY,BB,AO,AQ,AL,BD,AX,AC,AA,AZ,AU,BH,BG,A7,BR,AB,C9,EK,↓reduceIte,jA,jB,jR,jC,enP,bne,beq_self_eq_true,f24,wrap_succ (show k<9223372036854775807 by omega)];exact⟨n-1,by omega,k+1,stp m st l[k].l,_,by omega,by trivial,by trivial,by trivial,by trivial,by trivial,by trivial,by trivial,gm',g4',S',T',hok.step _,hx2,hr⟩
 .have hk':¬k<l.length:=by simpa using hc
  rw[jW (by omega)] at hrun;have hr:PI m (zS m) (l.map Ss.l)=(0,st):=hrun;simp -implicitDefEqProofs only[BC,BA,BK,DJ,A8,EG,EU,ET,AY,BB,AO,AQ,AL,BD,AX,AC,EM,AA,AZ,AU,BH,A7,BQ,D6,AB,CY,↓reduceIte,jA,jB,jC,enP,jP,f4,f6,JI S.gc rfl,A0H g4H rfl];rw[N9 (ba:=b4) (by simp -implicitDefEqProofs only[AA,↓reduceIte,jA,f4]) (JI (EC g4H) rfl)];refine⟨hxH.set (by omega) _,?_⟩;have np':NL H0.length (H.set b4 (.live 4 [cvR po st.P co st.C st.sam st.ill])) po pb st.P:=S.np.keep fun b x hb hg=>CW hg (by have:=S.np.lt hb; omega)
  have nc':NL H0.length (H.set b4 (.live 4 [cvR po st.P co st.C st.sam st.ill])) co cbs st.C:=S.nc.keep fun b x hb hg=>CW hg (by have:=S.nc.lt hb; omega)
  have e1:=AVX st np' nc' h.length 0 hx.le;unfold AMO MF;rw[if_pos (by rw[hr]; exact⟨h0,rfl⟩),if_pos h0,hr];simp -implicitDefEqProofs only[AA,↓reduceIte];show AV.tup [IX h.length _ 4 (.agg (cvR po st.P co st.C st.sam st.ill)),.int .i64 0]=_;rw[e1]
def A6G:Bin:=mkB ⟨#[108,111,119]⟩ 0 0 1
def A4U:Bin:=⟨⟨#[115,116,101,112]⟩,0,⟨.nil,[]⟩,.full,[⟨.full,[⟨0,0⟩]⟩,⟨.full,[⟨1,1⟩]⟩]⟩
def A6H:Bin:=mkB ⟨#[98,97,100]⟩ 2 3 3
def eP:Pt:=⟨⟨#[112]⟩,A3W,.full,[A6G,A4U,A6H]⟩
def eC:Cr:=⟨⟨#[99]⟩,.full,[0,1],.nil,[]⟩
def rL:List AV:=rowB ⟨#[108,111,119]⟩ 0 0 1
def rSt:List AV:=[.str ⟨#[115,116,101,112]⟩,.int .i64 0,.sl .nil 0 [],.sl .full 1 [[.sl .full 2 [[.int .i64 0,.int .i64 0]]],[.sl .full 2 [[.int .i64 1,.int .i64 1]]]]]
def rBa:List AV:=rowB ⟨#[98,97,100]⟩ 2 3 3
def rX:List AV:=rowB ⟨#[120]⟩ 0 0 0
def rY:List AV:=rowB ⟨#[121]⟩ 0 1 9
def rE:List AV:=[.int .i64 2,.int .i64 0,.str ⟨#[97]⟩,.sl .nil 0 []]
structure Se6 (h H:Hp) (b1 b2 b3 b4 b5 b6:Nat):Prop where
 g0:H[h.length]?=some (.live 2 [[.sl .nil 0 [],.sl .nil 0 []]])
 g1:H[b1]?=some (.live 4 [rE])
 g2:H[b2]?=some (.live 4 [rL])
 g3:H[b3]?=some (.live 4 [rSt])
 g4:H[b4]?=some (.live 4 [rBa])
 g5:H[b5]?=some (.live 4 [rX])
 g6:H[b6]?=some (.live 4 [rY])
 hx:ext h H
theorem Se6.mk' (h:Hp):Se6 h (h++[ABlk.live 2 [[.sl .nil 0 [],.sl .nil 0 []]]]++[ABlk.live 4 [rE]]++[ABlk.live 4 [rL]]++[ABlk.live 4 [rSt]]++[ABlk.live 4 [rBa]]++[ABlk.live 4 [rX]]++[ABlk.live 4 [rY]])
  (h++[ABlk.live 2 [[.sl .nil 0 [],.sl .nil 0 []]]]).length (h++[ABlk.live 2 [[.sl .nil 0 [],.sl .nil 0 []]]]++[ABlk.live 4 [rE]]).length (h++[ABlk.live 2 [[.sl .nil 0 [],.sl .nil 0 []]]]++[ABlk.live 4 [rE]]++[ABlk.live 4 [rL]]).length
  (h++[ABlk.live 2 [[.sl .nil 0 [],.sl .nil 0 []]]]++[ABlk.live 4 [rE]]++[ABlk.live 4 [rL]]++[ABlk.live 4 [rSt]]).length (h++[ABlk.live 2 [[.sl .nil 0 [],.sl .nil 0 []]]]++[ABlk.live 4 [rE]]++[ABlk.live 4 [rL]]++[ABlk.live 4 [rSt]]++[ABlk.live 4 [rBa]]).length
  (h++[ABlk.live 2 [[.sl .nil 0 [],.sl .nil 0 []]]]++[ABlk.live 4 [rE]]++[ABlk.live 4 [rL]]++[ABlk.live 4 [rSt]]++[ABlk.live 4 [rBa]]++[ABlk.live 4 [rX]]).length :=
 ⟨CU (CU (CU (CU (CU (CU (CX _ _)))))),CU (CU (CU (CU (CU (CX _ _))))),CU (CU (CU (CU (CX _ _)))),CU (CU (CU (CX _ _))),CU (CU (CX _ _)),CU (CX _ _),CX _ _,((((((ext.rfl' h).app _).app _).app _).app _).app _).app _ |>.app _⟩
section
variable (G:Nat->AV)
end
theorem AUX (xs:List Nat)(k:Nat):Rk.hasB (xs.map fun n:Nat=>(n:Int)) (k:Nat)=decide (k∈xs):=by
 unfold Rk.hasB;rw[Bool.eq_iff_iff,List.any_eq_true,decide_eq_true_iff];constructor
 .rintro⟨x,hx,he⟩
  obtain⟨n,hn,rfl⟩:=zM.1 hx;have:=eq_of_beq he;have:n=k:=by omega
  subst this; exact hn
 .intro hk
  exact⟨_,zM.2 ⟨k,hk,rfl⟩,by simp⟩
theorem getD_at (xs:List Int)(k:Nat)(hk:k<xs.length):xs.getD k 0=xs[k]:=by rw[zN,jS hk]; rfl
theorem AHZ (xs:List Int)(b k:Nat)(hb:b<xs.length):(raiseAt xs b).getD k 0=if b=k then rz (xs.getD b 0) else xs.getD k 0:=by
 unfold raiseAt;rw[zN,List.getElem?_set];split
 .rfl
 .rw[zN]
theorem XF (k:Nat):∀(hit:List Nat) (xs:List Int),hit.Nodup->(∀x∈hit,x<xs.length)->(rowP hit xs).getD k 0=if k∈hit then rz (xs.getD k 0) else xs.getD k 0
 | [],xs,_,_=>by simp [rowP]
 | b::hit,xs,hn,hl=>by
   obtain⟨h1,h2⟩:=List.nodup_cons.1 hn;have hb:=hl b (by simp);have ih:=XF k hit (raiseAt xs b) h2 (fun x hx=>by rw[TE]; exact hl x (by simp [hx]));have e:rowP (b::hit) xs=rowP hit (raiseAt xs b):=rfl;rw[e,ih,AHZ xs b k hb];by_cases hk:k∈hit
   .have hne:b≠k:=fun q=>h1 (by rw[q]; exact hk)
    rw[if_pos hk,if_neg hne,if_pos (by simp [hk])]
   .rw[if_neg hk]
    by_cases hbk:b=k
    .subst hbk
     rw[if_pos rfl,if_pos (by simp)]
    .rw[if_neg hbk,if_neg (by simp [hk]; exact fun q=>hbk q.symm)]
theorem AB0 (bins:List Bin)(last:List Int)(v kind:Int):∀k,(NR bins last v kind k).Nodup
 | 0=>by simp [NR]
 | k+1=>by
   have ih:=AB0 bins last v kind k;simp only[NR];split
   .refine List.nodup_append.2 ⟨ih,by simp,fun a ha c hc e=>?_⟩
    simp at hc;have:=AEH bins last v kind k a ha;omega
   .simpa using ih
theorem AAV (p:Pt)(last:List Int)(l:List Sg):(ptE p last l).hit.Nodup:=by
 unfold ptE;split
 .simp
 .split
  .simp
  .split
   .simp
   .split
    .simp
    .exact AB0 _ _ _ _ _
theorem AEI (bins:List Bin)(last:List Int)(v:Int):∀k,∀x∈NR bins last v 0 k,∃b,bins[x]?=some b∧(b.kind==0)=true
 | 0,x,hx=>by simp [NR] at hx
 | k+1,x,hx=>by
   simp only[NR] at hx;rcases qC.1 hx with h|h
   .exact AEI bins last v k x h
   .split at h
    .rename_i hq
     simp at h; subst h
     cases hb:bins[x]? with
     | none=>rw[hb] at hq; cases hq
     | some b =>
       rw[hb] at hq;have hK1:hK last v 0 b=true:=hq;unfold hK at hK1;rw[jV] at hK1;exact⟨b,rfl,hK1.1⟩
    .cases h
theorem ATU (p:Pt)(last:List Int)(l:List Sg):∀x∈(ptE p last l).hit,(kindOf p x==0)=true:=by
 intro x hx;unfold ptE at hx;split at hx
 .cases hx
 .split at hx
  .cases hx
  .split at hx
   .cases hx
   .split at hx
    .cases hx
    .obtain⟨b,h1,h2⟩:=AEI _ _ _ _ x hx
     unfold kindOf; rw[h1]; exact h2
theorem V7 {p:Nat->Bool}:∀ {l:List Int} {k:Nat},PP p k l=true↔∀j,j<l.length->countB (l.getD j 0) (p (k+j))=true
 | [],k=>by simp [PP]
 | n::l,k=>by
   simp only[PP,jV];rw[V7 (l:=l) (k:=k+1)];constructor
   .rintro⟨h1,h2⟩ j hj
    cases j with
    | zero=>exact h1
    | succ j =>
      have:=h2 j (by simpa using hj);rw[show k+(j+1)=k+1+j by omega]; exact this
   .intro h
    refine⟨h 0 (by simp),fun j hj=>?_⟩;have:=h (j+1) (by simpa using hj);rw[show k+(j+1)=k+1+j by omega] at this; exact this
theorem AG6 {n:Int}{p:Bool}(h:countB n p=true)(hp:p=true):countB (rz n) p=true:=by
 have h1:=YF h;subst hp;unfold countB;simp only[wC,Bool.and_true];rw[J6] at *;unfold rz; omega
theorem AT1 {p:Pt}{last:List Int}{env:List Sg}{x y:Is}(hx:okP p x=true)(hy:y.l=rowP (ptE p last env).hit x.l):okP p y=true:=by
 unfold okP at *;simp only[jV,beq_iff_eq] at *;rw[hy,QE];refine⟨hx.1,V7.2 fun j hj=>?_⟩;rw[QE] at hj;have h2:=V7.1 hx.2 j hj;rw[XF j _ _ (AAV _ _ _) (fun z hz=>by rw[hx.1]; exact AH0 _ _ _ z hz)];split
 .rename_i hm
  exact AG6 h2 (by rw[jG]; exact ATU _ _ _ j hm)
 .exact h2
theorem AGJ (m:Mo)(x:Cr)(hits:List (List Nat))(xs:List Int)(k:Nat)(hk:k<xs.length):(rowC m x hits xs).getD k 0=if crK m x hits k=true then rz (xs.getD k 0) else xs.getD k 0:=by
 have hl:k<(rowC m x hits xs).length:=by rw[QG]; exact hk
 rw[getD_at _ _ hl,ADZ m x hits xs k hk hl,getD_at _ _ hk]
theorem AT2 {m:Mo}{c:Cr}{hits:List (List Nat)}{x y:Is}(hx:okC m c x=true)(hy:y.l=rowC m c hits x.l):okC m c y=true:=by
 unfold okC at *;simp only[jV,beq_iff_eq] at *;rw[hy,QG];refine⟨hx.1,V7.2 fun j hj=>?_⟩;rw[QG] at hj;have h2:=V7.1 hx.2 j hj;rw[AGJ m c hits _ j hj];split
 .rename_i hm
  unfold crK at hm;rw[jV] at hm;exact AG6 h2 (by rw[jG]; exact hm.1)
 .exact h2
theorem AIL {α:Type}{ok:α->Is->Bool}:∀ {ws:List α} {xs:List Is},ws.length=xs.length->(∀(i:Nat) (a:α) (x:Is),ws[i]?=some a->xs[i]?=some x->ok a x=true)->JY ok ws xs=true
 | [],[],_,_=>rfl
 | w::ws,x::xs,hl,h=>by
   simp only[JY,jV];exact⟨h 0 w x rfl rfl,AIL (by simpa using hl) fun i a y h1 h2=>h (i+1) a y (by simpa using h1) (by simpa using h2)⟩
 | [],_::_,hl,_=>by simp at hl
 | _::_,[],hl,_=>by simp at hl
def stO (c:Cvr)(t:Tk):St:=⟨c.pts.map Is.l,c.crs.map Is.l,c.sam,c.ill,t.last.map Is.l⟩
def isL (P:List (List Int)):List Is:=P.map fun x=>⟨nm x,x⟩
def tkS (s:St):Tk:=⟨nm (isL s.ls),isL s.ls⟩
structure FitS (m:Mo) (s:St):Prop where
 me:EY m=0
 fp:JY okP m.pts (Q5 s.P)=true
 fc:JY (okC m) m.crs (Q5 s.C)=true
 ws:G9 s.sam=true
 wi:G9 s.ill=true
 ll:s.ls.length=m.pts.length
 lb:∀l∈s.ls,lastB l=true
theorem AO8 {p:Pt}{x y:Is}(h:x.l=y.l):okP p x=okP p y:=by unfold okP; rw[h]
theorem AO9 {m:Mo}{c:Cr}{x y:Is}(h:x.l=y.l):okC m c x=okC m c y:=by unfold okC; rw[h]
theorem SN (P:List (List Int)):(Q5 P).map (·.l)=P:=by unfold Q5; rw[List.map_map]; exact List.map_id _
theorem AC4 {m:Mo}{c:Cvr}{t:Tk}(hc:G5 m c=true)(ht:ACJ m t=true):FitS m (stO c t):=by
 obtain⟨h1,h2,h3,h4,h5⟩:=J5.1 hc;unfold ACJ at ht;simp only[jV,beq_iff_eq] at ht;obtain⟨⟨_,k1⟩,k2⟩:=ht;refine⟨h1,?_,?_,h4,h5,?_,fun l hl=>?_⟩
 .rw[<-h2]
  exact WM (ok:=okP) (fun _ _ _ h=>AO8 h) _ _ _ (SN _)
 .rw[<-h3]
  exact WM (ok:=okC m) (fun _ _ _ h=>AO9 h) _ _ _ (SN _)
 .show(t.last.map Is.l).length=_
  rw[jI]; omega
 .obtain⟨x,hx,rfl⟩:=zM.1 hl
  exact zI.1 k2 x hx
theorem FitS.fits {m:Mo}{s:St}(h:FitS m s):G5 m (cvS s)=true:=J5.2 ⟨h.me,h.fp,h.fc,h.ws,h.wi⟩
theorem FitS.trk {m:Mo}{s:St}(h:FitS m s):ACJ m (tkS s)=true:=by
 unfold ACJ tkS isL;have h1:=h.me; have h2:=h.ll;simp only[jV,beq_iff_eq,jI,List.all_map];refine⟨⟨h1,by omega⟩,?_⟩;rw[zI];exact fun x hx=>h.lb x hx
theorem UM {α:Type}{ok:α->Is->Bool}{ws:List α}{xs:List Is}(h:JY ok ws xs=true)(i:Nat)(a:α)(x:Is)(h1:ws[i]?=some a)(h2:xs[i]?=some x):ok a x=true:=by
 obtain⟨y,hy,hk⟩:=UN h i a h1;rw[h2] at hy; cases hy; exact hk
theorem FitS.ok {m:Mo}{s:St}(h:FitS m s):StOk m s:=by
 have lp:=NT h.fp;have lc:=NT h.fc;have hpl:s.P.length=m.pts.length:=by rw[lp]; simp [Q5]
 have hcl:s.C.length=m.crs.length:=by rw[lc]; simp [Q5]
 refine⟨⟨hpl,hcl,fun i a b=>?_,fun i a b=>?_,fun xs hx=>?_,fun xs hx=>?_⟩,h.ll,fun l hl=>?_,J6.1 h.ws,J6.1 h.wi⟩
 .have:=UM h.fp i m.pts[i] ⟨.any,s.P[i]⟩ (jS b) (by simp [Q5])
  unfold okP at this;simp only[jV,beq_iff_eq] at this;exact this.1
 .have:=UM h.fc i m.crs[i] ⟨.any,s.C[i]⟩ (jS b) (by simp [Q5])
  unfold okC at this;simp only[jV,beq_iff_eq] at this;exact this.1
 .obtain⟨i,hi,rfl⟩:=qK hx
  have:=UM h.fp i m.pts[i] ⟨.any,s.P[i]⟩ (jS (by omega)) (by simp [Q5]);unfold okP at this;rw[jV] at this;exact fun n hn=>J6.1 (QF this.2 n hn)
 .obtain⟨i,hi,rfl⟩:=qK hx
  have:=UM h.fc i m.crs[i] ⟨.any,s.C[i]⟩ (jS (by omega)) (by simp [Q5]);unfold okC at this;rw[jV] at this;exact fun n hn=>J6.1 (QF this.2 n hn)
 .have:=h.lb l hl
  unfold lastB at this;rw[jV] at this;simpa using this.1
theorem ADG {n:Int}(h:G9 n=true):G9 (rz n)=true:=by
 rw[J6] at *;unfold rz; omega
theorem A12 (l:List Sg)(e:Ex):(evE l e).1<65536:=by
 unfold evE;split
 .decide
 .split
  .exact AOR l e
  .decide
theorem YS {last:List Int}{v:Nat}(hl:lastB last=true)(hv:v<65536):lastB (nextL last v)=true:=by
 unfold lastB at *;simp only[jV,decide_eq_true_eq,Bool.not_eq_true'] at *;obtain⟨h1,h2⟩:=hl;refine⟨?_,?_⟩
 .unfold nextL; rw[List.length_drop,zW]; simp; omega
 .rw[List.any_eq_false] at *
  intro x hx;have hx':=List.mem_of_mem_drop hx;rcases qC.1 hx' with h|h
  .exact h2 x h
  .simp at h; subst h
   unfold outW;simp; omega
theorem ATT {p:Pt}{last:List Int}{l:List Sg}(h0:(ptE p last l).err=0):lastB (ptE p last l).next=true:=by
 have hv:=A12 l p.ex;unfold ptE at *;split at h0
 .cases h0
 .rename_i hn
  have hlb:lastB last=true:=by
   cases hq:lastB last
   .exact absurd (.inr hq) hn
   .rfl
  rw[if_neg hn];split at h0
  .rename_i h1
   exact absurd h0 h1
  .rename_i h1
   rw[if_neg h1];split
   .exact YS hlb hv
   .split
    .exact YS hlb hv
    .exact YS hlb hv
theorem FitS.step {m:Mo}{s:St}(h:FitS m s){env:List Sg}(h0:RP m s env=0):FitS m (stp m s env):=by
 have hok:=h.ok;have hr:=UG m s.ls env h.ll;have hpl:=hok.sh.pl;have hcl:=hok.sh.cl;have l1:=UC (OQ m s.ls env) s.P (by omega);have l2:=VZ m ((OQ m s.ls env).map PtR.hit) s.C hcl;refine⟨h.me,?_,?_,ADG h.ws,?_,by simp [stp,hr],fun l hl=>?_⟩
 .refine AIL (by simp [Q5,stp,l1]; omega) fun i a x e1 e2=>?_
  have hi:i<m.pts.length:=CJ e1;rw[jS hi] at e1; cases e1
  have hx:x.l=rowP (ptE m.pts[i] (s.ls[i]'(by rw[h.ll]; exact hi)) env).hit (s.P[i]'(by omega)):=by
   unfold Q5 at e2;rw[zH] at e2
   have:(stp m s env).P[i]?=some (rowP ((OQ m s.ls env)[i]'(by omega)).hit (s.P[i]'(by omega))):=by
    show(LX (OQ m s.ls env) s.P)[i]?=_;rw[jS (by omega),UD _ _ i (by omega) (by omega)]
   rw[this] at e2; cases e2;rw[ZM m s.ls env i hi (by rw[h.ll]; exact hi) (by omega)]
  exact AT1 (UM h.fp i m.pts[i] ⟨.any,s.P[i]'(by omega)⟩ (jS hi) (by simp [Q5]<;>omega)) hx
 .refine AIL (by simp [Q5,stp,l2]; omega) fun i a x e1 e2=>?_
  have hi:i<m.crs.length:=CJ e1;rw[jS hi] at e1; cases e1
  have hx:x.l=rowC m m.crs[i] ((OQ m s.ls env).map PtR.hit) (s.C[i]'(by omega)):=by
   unfold Q5 at e2;rw[zH] at e2
   have:(stp m s env).C[i]?=some (rowC m m.crs[i] ((OQ m s.ls env).map PtR.hit) (s.C[i]'(by omega))):=by
    show(NJ m ((OQ m s.ls env).map PtR.hit) s.C)[i]?=_;rw[jS (by omega),V3 _ _ _ i hi (by omega)]
   rw[this] at e2; cases e2;rfl
  exact AT2 (UM h.fc i m.crs[i] ⟨.any,s.C[i]'(by omega)⟩ (jS hi) (by simp [Q5]<;>omega)) hx
 .unfold stp
  dsimp only
  split
  .exact ADG h.wi
  .exact h.wi
 .obtain⟨r,hrm,rfl⟩:=zM.1 hl
  have he:=ZU PtR.err h0 r hrm;obtain⟨p,hp,rfl⟩:=zM.1 hrm;exact ATT he
theorem ASW {m:Mo}(h:EY m=0):FitS m (zS m):=by
 refine⟨h,?_,?_,by show G9 0=true; decide,by show G9 0=true; decide,(AZ9 m).ll,fun l hl=>?_⟩
 .rw[show JY okP m.pts (Q5 (zS m).P)=JY okP m.pts (m.pts.map fun p=>zIs p.bins.length) from WM (ok:=okP) (fun _ _ _ h=>AO8 h) _ _ _ (by rw[SN]; simp [zS,zP,zIs])]
  exact WJ (ok:=okP) _ (fun p=>by unfold okP; simp [zIs,UF]; simp [zeros]) _
 .rw[show JY (okC m) m.crs (Q5 (zS m).C)=JY (okC m) m.crs (m.crs.map fun c=>zIs (GK (szs m c.pts))) from WM (ok:=okC m) (fun _ _ _ h=>AO9 h) _ _ _ (by rw[SN]; simp [zS,zC,zIs])]
  exact WJ (ok:=okC m) _ (fun c=>by unfold okC; simp [zIs,UF]; simp [zeros]) _
 .rw[List.eq_of_mem_replicate hl]; decide
structure Sx (h H:Hp) (m:Mo) (c:Cvr) (t:Tk) (vb tb b8 b9 n0 K ob nb po co:Nat) (pb cbs:List Nat) (P C:List (List Int)) (sam ill:Int) (w:AV):Prop where
 gm:H[h.length]?=some (.live 2 [D5 m])
 gv:H[vb]?=some (.live 4 [ER c])
 gt:H[tb]?=some (.live 1 [KL t])
 g8:H[b8]?=some (.live 4 [FD])
 g9:H[b9]?=some (.live 1 [FY])
 o1:h.length<vb
 o2:vb<tb
 o3:tb<b8
 o4:b8<b9
 o5:b9<n0
 cs:CS n0 H ob nb po co pb cbs P C sam ill w
 lo:n0<=ob
 ln:n0<=nb
 ho:ob<K
 hn:nb<K
 hp:∀b∈pb,b<K
 hc:∀b∈cbs,b<K
 hpo:P≠[]->po<K
 hco:C≠[]->co<K
 kh:K<=H.length
 hx:ext h H
section
variable {h H:Hp} {m:Mo} {c:Cvr} {t:Tk} {vb tb b8 b9 n0 K ob nb po co:Nat} {pb cbs:List Nat} {P C:List (List Int)} {sam ill:Int} {w:AV} (S:Sx h H m c t vb tb b8 b9 n0 K ob nb po co pb cbs P C sam ill w)
include S
theorem Sx.keep {H':Hp}(hk:∀(b:Nat) (x:ABlk),b<K->H[b]?=some x->H'[b]?=some x)(hl:K<=H'.length)(hx:Sm.ext h H'):Sx h H' m c t vb tb b8 b9 n0 K ob nb po co pb cbs P C sam ill w:=by
 have o1:=S.o1; have o2:=S.o2; have o3:=S.o3; have o4:=S.o4; have o5:=S.o5; have lo:=S.lo; have ho:=S.ho;have cs:=S.cs
 refine⟨hk _ _ (by omega) S.gm,hk _ _ (by omega) S.gv,hk _ _ (by omega) S.gt,hk _ _ (by omega) S.g8,hk _ _ (by omega) S.g9,o1,o2,o3,o4,o5,
  ⟨hk _ _ S.ho cs.gc,hk _ _ S.hn cs.gt,cs.np.keep fun b x hb hg=>?_,cs.nc.keep fun b x hb hg=>?_,cs.dis,cs.xcp,cs.xcc,cs.xtp,cs.xtc,cs.xpo,cs.xco,cs.ct⟩,S.lo,S.ln,S.ho,S.hn,S.hp,S.hc,S.hpo,S.hco,hl,hx⟩
 .rcases hb with⟨hP,rfl⟩|hb
  .exact hk _ _ (S.hpo hP) hg
  .exact hk _ _ (S.hp _ hb) hg
 .rcases hb with⟨hC,rfl⟩|hb
  .exact hk _ _ (S.hco hC) hg
  .exact hk _ _ (S.hc _ hb) hg
theorem Sx.app (x:Hp):Sx h (H++x) m c t vb tb b8 b9 n0 K ob nb po co pb cbs P C sam ill w:=S.keep (fun _ _ _ hg=>FZ hg) (by have:=S.kh; simp; omega) (S.hx.app x)
theorem Sx.setP {i:Nat}(hi:i<pb.length)(ys:List Int)(hl:∀hx:i<P.length,ys.length=P[i].length):Sx h (H.set pb[i] (.live 1 (ys.map encI))) m c t vb tb b8 b9 n0 K ob nb po co pb cbs (P.set i ys) C sam ill w:=by
 have o1:=S.o1; have o2:=S.o2; have o3:=S.o3; have o4:=S.o4; have o5:=S.o5;have hb:=S.cs.np.lo _ (jQ hi);exact⟨CW S.gm (by omega),CW S.gv (by omega),CW S.gt (by omega),CW S.g8 (by omega),CW S.g9 (by omega),o1,o2,o3,o4,o5,S.cs.setP hi ys hl,S.lo,S.ln,S.ho,S.hn,S.hp,S.hc,fun q=>S.hpo (fun e=>q (by rw[e]; rfl)),S.hco,by rw[qI]; exact S.kh,S.hx.set (by omega) _⟩
theorem Sx.setC {i:Nat}(hi:i<cbs.length)(ys:List Int)(hl:∀hx:i<C.length,ys.length=C[i].length):Sx h (H.set cbs[i] (.live 1 (ys.map encI))) m c t vb tb b8 b9 n0 K ob nb po co pb cbs P (C.set i ys) sam ill w:=by
 have o1:=S.o1; have o2:=S.o2; have o3:=S.o3; have o4:=S.o4; have o5:=S.o5;have hb:=S.cs.nc.lo _ (jQ hi);exact⟨CW S.gm (by omega),CW S.gv (by omega),CW S.gt (by omega),CW S.g8 (by omega),CW S.g9 (by omega),o1,o2,o3,o4,o5,S.cs.setC hi ys hl,S.lo,S.ln,S.ho,S.hn,S.hp,S.hc,S.hpo,fun q=>S.hco (fun e=>q (by rw[e]; rfl)),by rw[qI]; exact S.kh,S.hx.set (by omega) _⟩
theorem Sx.setT (w':AV):Sx h (H.set nb (.live 1 [[w']])) m c t vb tb b8 b9 n0 K ob nb po co pb cbs P C sam ill w':=by
 have o1:=S.o1; have o2:=S.o2; have o3:=S.o3; have o4:=S.o4; have o5:=S.o5; have ln:=S.ln;exact⟨CW S.gm (by omega),CW S.gv (by omega),CW S.gt (by omega),CW S.g8 (by omega),CW S.g9 (by omega),o1,o2,o3,o4,o5,S.cs.setT w',S.lo,S.ln,S.ho,S.hn,S.hp,S.hc,S.hpo,S.hco,by rw[qI]; exact S.kh,S.hx.set (by omega) _⟩
theorem Sx.setN (sam' ill':Int):Sx h (H.set ob (.live 4 [cvR po P co C sam' ill'])) m c t vb tb b8 b9 n0 K ob nb po co pb cbs P C sam' ill' w:=by
 have o1:=S.o1; have o2:=S.o2; have o3:=S.o3; have o4:=S.o4; have o5:=S.o5; have lo:=S.lo;exact⟨CW S.gm (by omega),CW S.gv (by omega),CW S.gt (by omega),CW S.g8 (by omega),CW S.g9 (by omega),o1,o2,o3,o4,o5,S.cs.setN sam' ill',S.lo,S.ln,S.ho,S.hn,S.hp,S.hc,S.hpo,S.hco,by rw[qI]; exact S.kh,S.hx.set (by omega) _⟩
theorem Sx.m0:ED Tryz.prog H 22 (.ptr h.length 0 0)=some (.sl m.pm 6 (m.pts.map GL)):=by rw[DX WV S.gm (row:=D5 m) rfl,QJ]
theorem Sx.m1:ED Tryz.prog H 23 (.ptr h.length 0 1)=some (.sl m.cm 3 (m.crs.map GG)):=by rw[DX ABH S.gm (row:=D5 m) rfl,UO]
theorem Sx.v0:ED Tryz.prog H 26 (.ptr vb 0 0)=some (.sl c.pm 1 (c.pts.map encL)):=by rw[DX Q7 S.gv (row:=ER c) rfl,ALM]
theorem Sx.v1:ED Tryz.prog H 26 (.ptr vb 0 1)=some (.sl c.cm 1 (c.crs.map encL)):=by rw[DX Q7 S.gv (row:=ER c) rfl,ALK]
theorem Sx.v2:ED Tryz.prog H 3 (.ptr vb 0 2)=some (.int .i64 c.sam):=by rw[DX ag3 S.gv (row:=ER c) rfl,AP3]
theorem Sx.v3:ED Tryz.prog H 3 (.ptr vb 0 3)=some (.int .i64 c.ill):=by rw[DX ag3 S.gv (row:=ER c) rfl,AP2]
theorem Sx.t0:ED Tryz.prog H 26 (.ptr tb 0 0)=some (.sl t.m 1 (t.last.map encL)):=by rw[DX Q7 S.gt (row:=KL t) rfl,A0Q]
theorem Sx.rowP {i:Nat}(hi:i<P.length)(hip:i<pb.length):ED Tryz.prog H 26 (.ptr ob 0 0)=some (nlV po P)∧KN 1 H (nlV po P) (.int .i64 (i:Nat))=some (.ptr po i 0)∧ED Tryz.prog H 57 (.ptr po i 0)=some (.own pb[i] 0 P[i].length)∧H[pb[i]]?=some (.live 1 (P[i].map encI)) :=
 ⟨S.cs.l0,S.cs.np.ix hi,S.cs.np.ld hi,S.cs.np.row i hip hi⟩
theorem Sx.rowC {i:Nat}(hi:i<C.length)(hip:i<cbs.length):ED Tryz.prog H 26 (.ptr ob 0 1)=some (nlV co C)∧KN 1 H (nlV co C) (.int .i64 (i:Nat))=some (.ptr co i 0)∧ED Tryz.prog H 57 (.ptr co i 0)=some (.own cbs[i] 0 C[i].length)∧H[cbs[i]]?=some (.live 1 (C[i].map encI)) :=
 ⟨S.cs.l1,S.cs.nc.ix hi,S.cs.nc.ld hi,S.cs.nc.row i hip hi⟩
end
theorem AUK {H:Hp}{b:Nat}{xs:List Int}(hb:H[b]?=some (.live 1 (xs.map encI))){k:Nat}(hk:k<xs.length):KN 1 H (.own b 0 xs.length) (.int .i64 (k:Nat))=some (.ptr b k 0):=by
 have:=LZ (kk:=.i64) (off:=0) (len:=xs.length) hb hk;rw[jG] at this; exact this
theorem ATC {H:Hp}{b:Nat}{xs:List Int}(hb:H[b]?=some (.live 1 (xs.map encI))){k:Nat}(hk:k<xs.length)(v:Int):FX Tryz.prog H 3 (.ptr b k 0) (.int .i64 v)=some (H.set b (.live 1 ((xs.set k v).map encI))):=by
 rw[KY (P6 _ _) sz3 hb (NF hk) (by simp [encI]),List.map_set];rfl
def RQ (m:Mo)(c:Cvr)(t:Tk)(env:List Sg):Int:=if EY m=0 then (if(G5 m c&&ACJ m t)=true then RP m (stO c t) env else 1) else EY m
def ZJ (m:Mo)(c:Cvr)(t:Tk)(env:List Sg):Cvr:=if RQ m c t env=0 then cvS (stp m (stO c t) env) else zV
def ADR (m:Mo)(c:Cvr)(t:Tk)(env:List Sg):Tk:=if RQ m c t env=0 then tkS (stp m (stO c t) env) else zT
def tkW (s:St):List AV:=[fzG 1 MB s.ls]
theorem A04 (s:St):CvR (.agg (tkW s)) (.agg (KL (tkS s))):=by
 refine CvR.agg (CvRL.cons ?_ CvRL.nil);have h1:CvR (fzG 1 MB s.ls) (.sl (nm s.ls) 1 (s.ls.map MB)):=TT;have e:(isL s.ls).map encL=s.ls.map MB:=by unfold isL; rw[List.map_map]; rfl
 have e2:nm (isL s.ls)=nm s.ls:=by unfold isL; cases s.ls<;>rfl
 show CvR (fzG 1 MB s.ls) (.sl (nm (isL s.ls)) 1 ((isL s.ls).map encL));rw[e,e2]; exact h1
def AHT (m:Mo)(c:Cvr)(t:Tk)(env:List Sg):AV:=if RQ m c t env=0 then .tup [.agg (cvW (stp m (stO c t) env)),.agg (tkW (stp m (stO c t) env)),.int .i64 0] else .tup [.agg FD,.agg FY,.int .i64 (RQ m c t env)]
theorem AXI (m:Mo)(c:Cvr)(t:Tk)(env:List Sg):CvR (AHT m c t env) (.tup [.agg (ER (ZJ m c t env)),.agg (KL (ADR m c t env)),.int .i64 (RQ m c t env)]):=by
 unfold AHT ZJ ADR;split
 .rename_i h
  rw[h];exact CvR.tup (CvRL.cons (AVR _) (CvRL.cons (A04 _) (CvRL.refl _)))
 .exact ANI _
end Go.Proofs.YtocilianjfhifaaGreatDoor.Xe
