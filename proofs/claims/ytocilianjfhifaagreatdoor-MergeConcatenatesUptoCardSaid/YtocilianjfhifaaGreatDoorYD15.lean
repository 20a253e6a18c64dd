/- Part 15 of the proof (X21, X22, X23, Kz, X24, V1, V2, V3, V4, Kq); no condition. -/
import Derived.Test.YtocilianjfhifaaGreatDoorYD14
set_option linter.unusedVariables false
set_option linter.unusedSimpArgs false
set_option maxRecDepth 8000
namespace Go.Proofs.YtocilianjfhifaaGreatDoor.Xe
open Sm Bins Cov Wd Go.RowKit
open Bool renaming not_false→jC,not_true→jR,or_false→jT
open List renaming take_succ_eq_append_getElem→zL,map_cons→jD,map_nil→jE,append_nil→jF,length_map→jI,getElem_mem→jQ,getElem?_cons_zero→zB,getElem?_cons_succ→zG,length_take→zD,length_set→qI,drop_eq_nil_of_le→jW,mem_map→zM,contains_cons→jU,contains_nil→jJ
open Nat renaming le_of_ble_eq_true→jH,reduceEqDiff→jA,le_refl→jL,add_zero→jK,reduceAdd→jM,zero_add→jG,reduceBEq→jO
open Option renaming getD_some→jB,getD_none→jP
theorem A3U:Frz MB:=fun _ _ _ _=>⟨rfl,rfl⟩
structure Sy (h H:Hp) (m:Mo) (c:Cvr) (t:Tk) (vb tb b8 b9:Nat):Prop where
 gm:H[h.length]?=some (.live 2 [D5 m])
 gv:H[vb]?=some (.live 4 [ER c])
 gt:H[tb]?=some (.live 1 [KL t])
 g8:H[b8]?=some (.live 4 [FD])
 g9:H[b9]?=some (.live 1 [FY])
 o1:h.length<vb
 o2:vb<tb
 o3:tb<b8
 o4:b8<b9
 o5:b9<H.length
 hx:ext h H
theorem Sy.mk' (h:Hp)(m:Mo)(c:Cvr)(t:Tk):Sy h (h++[ABlk.live 2 [D5 m]]++[ABlk.live 4 [ER c]]++[ABlk.live 1 [KL t]]++[ABlk.live 4 [FD]]++[ABlk.live 1 [FY]]) m c t (h++[ABlk.live 2 [D5 m]]).length (h++[ABlk.live 2 [D5 m]]++[ABlk.live 4 [ER c]]).length
  (h++[ABlk.live 2 [D5 m]]++[ABlk.live 4 [ER c]]++[ABlk.live 1 [KL t]]).length (h++[ABlk.live 2 [D5 m]]++[ABlk.live 4 [ER c]]++[ABlk.live 1 [KL t]]++[ABlk.live 4 [FD]]).length :=
 ⟨CU (CU (CU (CU (CX _ _)))),CU (CU (CU (CX _ _))),CU (CU (CX _ _)),CU (CX _ _),CX _ _,by simp,by simp,by simp,by simp,by simp,((((ext.rfl' h).app _).app _).app _).app _ |>.app _⟩
theorem ZI {m:Mo}{c:Cvr}{t:Tk}{env:List Sg}{e:Int}(h:RQ m c t env=e)(hne:e≠0):AHT m c t env=.tup [.agg FD,.agg FY,.int .i64 e]:=by
 unfold AHT;rw[h,if_neg hne]
theorem hbs {α β:Type}(f:α->β)(l:List α)(k:Nat){h:k<l.length}:(l.take k).map f++[f l[k]]=(l.take (k+1)).map f:=by rw[zL h,List.map_append]; rfl
set_option maxHeartbeats 8000000 in
theorem AOG (G:Nat->AV)(m:Mo)(hm:MoOk m)(c:Cvr)(hcv:CvOk c)(t:Tk)(ht:TkOk t)(env:List Sg)(sm:SM)(h:Hp)(henv:env.length<=1099511627776)(hsg:∀s∈env,ACS s) :
  PCall (En G) 73 [.agg (D5 m),.agg (ER c),.agg (KL t),.sl sm 2 (env.map HY)] h (.tup [.agg (ER (ZJ m c t env)),.agg (KL (ADR m c t env)),.int .i64 (RQ m c t env)]):=by
 refine PCall.res (r:=AHT m c t env) ?_ (AXI _ _ _ _);refine ACalls.pure (R:=fun v H=>ext h H∧IX h.length H 5 v=AHT m c t env) 5 ?_ (fun v H ⟨a,b⟩=>⟨a,b⟩);refine acN Tryz.func73 rfl ?_;show awp _ _ _ _ _ (EN _ [.cell 8 28,.cell 9 47,.tmp 10] _);have Y:=Sy.mk' h m c t;simp -implicitDefEqProofs only[BC,BA,A8,AY,BB,AO,AQ,AL,BD,AX,AC,AA,AZ,AU,BH,A7,EX,FU,BQ,BX,BF,BN,↓reduceIte,jA,jB,jC,enP,bxM,bxV,bxT,KF,VS]
 generalize h++[ABlk.live 2 [D5 m]]++[ABlk.live 4 [ER c]]++[ABlk.live 1 [KL t]]++[ABlk.live 4 [FD]]++[ABlk.live 1 [FY]]=H0 at Y|-
 generalize (h++[ABlk.live 2 [D5 m]]++[ABlk.live 4 [ER c]]++[ABlk.live 1 [KL t]]++[ABlk.live 4 [FD]]).length=b9 at Y|-
 generalize (h++[ABlk.live 2 [D5 m]]++[ABlk.live 4 [ER c]]++[ABlk.live 1 [KL t]]).length=b8 at Y|-
 generalize (h++[ABlk.live 2 [D5 m]]++[ABlk.live 4 [ER c]]).length=tb at Y|-
 generalize (h++[ABlk.live 2 [D5 m]]).length=vb at Y|-
 have o1:=Y.o1; have o2:=Y.o2; have o3:=Y.o3; have o4:=Y.o4; have o5:=Y.o5
 have hend:∀(F:Fr) (e:Int),F 8=.ptr b8 0 0->F 9=.ptr b9 0 0->F 10=.int .i64 e->AHT m c t env=.tup [.agg FD,.agg FY,.int .i64 e]->∀H:Hp,H[b8]?=some (.live 4 [FD])->H[b9]?=some (.live 1 [FY])->ext h H ->
   EN Tryz.prog [.cell 8 28,.cell 9 47,.tmp 10] (fun v H=>ext h H∧IX h.length H 5 v=AHT m c t env) .ret F H:=fun F e f8 f9 f10 hw H g8 g9 hx=>by
  rw[TI (ba:=b8) (bb:=b9) f8 f9 (JI g8 rfl) (N8 g9 rfl),f10,hw];exact⟨hx,rfl⟩
 simp -implicitDefEqProofs only[AY,AO,AQ,AL,BD,AX,AC,AA,AZ,BZ,CB,BU,AB,jD,jE,jF,↓reduceIte,jB,jC,ldM Y.gm];refine(UH G m hm H0).use ?_;cases hb:(EY m==0)
 .have hne:EY m≠0:=by simpa using hb
  simp -implicitDefEqProofs only[EZ,BC,BA,BK,BI,A8,CP,DI,AY,BB,AO,AQ,AL,BD,AX,AC,EM,AA,AZ,AU,BH,BG,A7,IV,D6,BR,AB,CY,EK,↓reduceIte,jA,jB,jC,enP,jP,bne,hb,QL,ACB,stZ Y.g8 rfl,ABR (CW Y.g9 (show b9≠b8 by omega)) rfl];exact hend _ (EY m) (by simp -implicitDefEqProofs only[AA,↓reduceIte,jA]) (by simp -implicitDefEqProofs only[AA,↓reduceIte,jA]) (by simp -implicitDefEqProofs only[AA,↓reduceIte]) (ZI (by unfold RQ; rw[if_neg hne]) hne) _ (CW (EC Y.g8) (show b8≠b9 by omega)) (EC (CW Y.g9 (show b9≠b8 by omega))) ((Y.hx.set (by omega) _).set (by omega) _)
 have h0:EY m=0:=by simpa using hb
 simp -implicitDefEqProofs only[BC,BA,BO,BI,A8,DR,AY,BB,AO,AQ,AL,BD,AX,AC,AA,AZ,AU,BZ,BH,BG,A7,BQ,BR,CB,BU,AB,EK,jD,jE,jF,↓reduceIte,jA,jB,jR,jC,enP,bne,hb,ldM Y.gm,ldV Y.gv];refine(AU3 G m c hm hcv H0).use ?_;cases hf:G5 m c
 .simp -implicitDefEqProofs only[EZ,BC,BA,BK,BI,A8,CP,DI,AY,BB,BL,BV,CO,F7,AO,AQ,AL,BD,AX,AC,EM,AA,EW,AZ,AU,BH,BM,BG,A7,CQ,DY,IV,D6,IG,AB,CY,FI,↓reduceIte,jA,jB,jC,enP,jP,QL,ACB,stZ Y.g8 rfl,ABR (CW Y.g9 (show b9≠b8 by omega)) rfl]
  exact hend _ 1 (by simp -implicitDefEqProofs only[AA,↓reduceIte,jA]) (by simp -implicitDefEqProofs only[AA,↓reduceIte,jA]) (by simp -implicitDefEqProofs only[AA,↓reduceIte]) (ZI (by unfold RQ; rw[if_pos h0,if_neg (by rw[hf]; simp)]) (by decide)) _ (CW (EC Y.g8) (show b8≠b9 by omega)) (EC (CW Y.g9 (show b9≠b8 by omega))) ((Y.hx.set (by omega) _).set (by omega) _)
 simp -implicitDefEqProofs only[AY,BL,BV,CO,ES,AO,AQ,AL,BD,AX,AC,AA,AZ,BZ,BG,BQ,IG,CB,BU,AB,FI,jD,jE,jF,↓reduceIte,jA,jB,jR,jC,enP,ldM Y.gm,ldT Y.gt];refine(AOE G m hm t ht H0).use ?_;cases htr:ACJ m t
 .simp -implicitDefEqProofs only[EZ,BC,BA,BK,BI,A8,CP,DI,AY,BB,BL,BV,CO,ES,AO,AQ,AL,BD,AX,AC,EM,AA,AZ,AU,BH,BM,A7,CQ,DW,IV,D6,IG,AB,CY,FI,↓reduceIte,jA,jB,jC,enP,jP,QL,ACB,stZ Y.g8 rfl,ABR (CW Y.g9 (show b9≠b8 by omega)) rfl]
  exact hend _ 1 (by simp -implicitDefEqProofs only[AA,↓reduceIte,jA]) (by simp -implicitDefEqProofs only[AA,↓reduceIte,jA]) (by simp -implicitDefEqProofs only[AA,↓reduceIte]) (ZI (by unfold RQ; rw[if_pos h0,if_neg (by rw[htr]; simp)]) (by decide)) _ (CW (EC Y.g8) (show b8≠b9 by omega)) (EC (CW Y.g9 (show b9≠b8 by omega))) ((Y.hx.set (by omega) _).set (by omega) _)
 have hF:=AC4 hf htr;have hok:=hF.ok;have hg:=LV h0;have hE:RQ m c t env=RP m (stO c t) env:=by unfold RQ; rw[if_pos h0,if_pos (by rw[hf,htr]; rfl)]
 have hnum:=hg.num;have hnp:m.pts.length<=16:=by omega
 have hnc:m.crs.length<=16:=by omega
 have hsh:=hok.sh;have hll:=hok.ll;have hPl:=hsh.pl; have hCl:=hsh.cl;have hcp:(stO c t).P.length=c.pts.length:=by simp [stO]
 have hcc:(stO c t).C.length=c.crs.length:=by simp [stO]
 have hct:(stO c t).ls.length=t.last.length:=by simp [stO]
 have hrl:=UG m (stO c t).ls env hll;have hrg:=ZM m (stO c t).ls env;obtain⟨rs,hrs⟩:∃z,z=OQ m (stO c t).ls env:=⟨_,rfl⟩;rw[<-hrs] at hrl;have hsl:=UC rs (stO c t).P (by omega);have hscl:=VZ m (rs.map PtR.hit) (stO c t).C hCl;have hzl:=AAJ m;have hzc:=AAK m;simp -implicitDefEqProofs only[BC,BA,BO,BI,A8,DR,AY,BB,BL,BV,CO,ES,AO,AQ,AL,BD,AX,AC,AA,AZ,AU,BZ,BM,CQ,DW,BQ,IG,CB,BU,AB,FI,jD,jE,jF,↓reduceIte,jA,jB,jR,jC,enP,ldM Y.gm];refine(ANM G m hm hg H0).mono ?_;rintro _ H1 ⟨hx1,po,pb,co,cbs,rfl,N⟩;have hle1:=hx1.le
 have s1:FX Tryz.prog (H1++[ABlk.live 4 [FD]]) 28 (.ptr H1.length 0 0) (.agg (IB (nlV po (zP m)) (nlV co (zC m))))=some (H1++[ABlk.live 4 [IB (nlV po (zP m)) (nlV co (zC m))]]):=by
  rw[ADQ (CX _ _) rfl (MG _ _) (MG _ _),O7]
 simp -implicitDefEqProofs only[EZ,BC,BP,BA,A8,AY,BB,AO,AQ,AL,BD,AX,AC,EM,AA,AZ,AU,BH,BM,IY,A7,EX,IV,D6,BX,AB,CY,↓reduceIte,jA,jB,jC,enP,jP,KF,s1,ACB,VS,A09];have hl3:(H1++[ABlk.live 4 [IB (nlV po (zP m)) (nlV co (zC m))]]).length=H1.length+1:=by simp
 have hk3:(H1++[ABlk.live 4 [IB (nlV po (zP m)) (nlV co (zC m))]]++[ABlk.live 1 [FY]]).length=H1.length+2:=by simp
 have hx3:ext H1 (H1++[ABlk.live 4 [IB (nlV po (zP m)) (nlV co (zC m))]]++[ABlk.live 1 [FY]]):=((ext.rfl' H1).app _).app _;have gc3:(H1++[ABlk.live 4 [IB (nlV po (zP m)) (nlV co (zC m))]]++[ABlk.live 1 [FY]])[H1.length]?=some (.live 4 [cvR po (zP m) co (zC m) 0 0]):=CU (CX _ _);have gt3:(H1++[ABlk.live 4 [IB (nlV po (zP m)) (nlV co (zC m))]]++[ABlk.live 1 [FY]])[(H1++[ABlk.live 4 [IB (nlV po (zP m)) (nlV co (zC m))]]).length]?=some (.live 1 [[.sl .nil 0 []]]):=CX _ _
 generalize H1++[ABlk.live 4 [IB (nlV po (zP m)) (nlV co (zC m))]]++[ABlk.live 1 [FY]]=H3 at hk3 hx3 gc3 gt3|-
 generalize (H1++[ABlk.live 4 [IB (nlV po (zP m)) (nlV co (zC m))]]).length=nb at hl3 gt3|-
 have hlt:∀b,NLB po pb (zP m) b∨NLB co cbs (zC m) b->b<H1.length:=fun b hb=>by
  rcases hb with hb|hb
  .exact(N.np.lt hb).2
  .exact(N.nc.lt hb).2
 have X3:Sx h H3 m c t vb tb b8 b9 H0.length H3.length H1.length nb po co pb cbs (zP m) (zC m) 0 0 (.sl .nil 0 []) :=
  ⟨FP hx3 (FP hx1 Y.gm),FP hx3 (FP hx1 Y.gv),FP hx3 (FP hx1 Y.gt),FP hx3 (FP hx1 Y.g8),FP hx3 (FP hx1 Y.g9),o1,o2,o3,o4,o5,
   (N.ext hx3).cs gc3 gt3 (by omega) (fun b hb=>by have:=hlt b hb; omega),hle1,by omega,by omega,by omega,fun b hb=>by have:=hlt b (.inl (.inr hb)); omega,fun b hb=>by have:=hlt b (.inr (.inr hb)); omega,
   fun q=>by have:=hlt po (.inl (.inl ⟨q,rfl⟩)); omega,fun q=>by have:=hlt co (.inr (.inl ⟨q,rfl⟩)); omega,jL _,(Y.hx.trans hx1).trans hx3⟩
 generalize H1.length=ob at X3 hl3 hk3 hle1 hlt gc3;have hob:ob<H3.length:=by omega
 have hnb:nb<H3.length:=by omega
 have h3l:=X3.hx.le;clear gc3 gt3 hx3 hlt s1 hle1 hl3 hk3;have hlp:=N.np.len;have hlc:=N.nc.len;rw[hzl] at hlp;rw[hzc] at hlc;clear N hx1
 refine GM 0 (fun F H=>∃u w,F 4=.ptr h.length 0 0∧F 5=.ptr vb 0 0∧F 8=.ptr b8 0 0∧F 9=.ptr b9 0 0∧F 12=.ptr ob 0 0∧F 13=.ptr nb 0 0∧F 14=u∧F 15=.bool (rs.any PtR.bad)∧Sx h H m c t vb tb b8 b9 H0.length H3.length ob nb po co pb cbs (LX rs (stO c t).P) (zC m) 0 0 w∧outG 1 MP H3 (rs.map PtR.hit) u H∧outG 1 MB H3 (rs.map PtR.next) w H∧JX PtR.err rs=0)
  (fun F H=>∃e,F 8=.ptr b8 0 0∧F 9=.ptr b9 0 0∧F 10=.int .i64 e∧e≠0∧JX PtR.err rs=e∧H[b8]?=some (.live 4 [FD])∧H[b9]?=some (.live 1 [FY])∧ext h H) ?_ ?_ ?_
 .refine DK (fun n F H=>∃i u w,n+i=m.pts.length∧F 3=.sl sm 2 (env.map HY)∧F 4=.ptr h.length 0 0∧F 5=.ptr vb 0 0∧F 6=.ptr tb 0 0∧F 8=.ptr b8 0 0∧F 9=.ptr b9 0 0∧F 12=.ptr ob 0 0∧F 13=.ptr nb 0 0∧F 14=u∧F 15=.bool ((rs.take i).any PtR.bad)∧F 16=.int .i64 (i:Nat) ∧
    Sx h H m c t vb tb b8 b9 H0.length H3.length ob nb po co pb cbs (mix (LX rs (stO c t).P) (zP m) i) (zC m) 0 0 w∧outG 1 MP H3 ((rs.take i).map PtR.hit) u H∧outG 1 MB H3 ((rs.take i).map PtR.next) w H∧(∀b,isB u b->¬isB w b)∧JX PtR.err rs=JX PtR.err (rs.drop i)) m.pts.length
   ⟨0,.sl .nil 0 [],.sl .nil 0 [],by simp,by simp -implicitDefEqProofs only[AA,BF,BN,↓reduceIte,jA],by simp -implicitDefEqProofs only[AA,↓reduceIte,jA],by simp -implicitDefEqProofs only[AA,↓reduceIte,jA],by simp -implicitDefEqProofs only[AA,↓reduceIte,jA],by simp -implicitDefEqProofs only[AA,↓reduceIte,jA],by simp -implicitDefEqProofs only[AA,↓reduceIte,jA],by simp -implicitDefEqProofs only[AA,↓reduceIte,jA],by simp -implicitDefEqProofs only[AA,↓reduceIte,jA],by simp -implicitDefEqProofs only[AA,↓reduceIte,jA],by simp -implicitDefEqProofs only[AA,↓reduceIte,jA]<;>rfl,by simp -implicitDefEqProofs only[AA,↓reduceIte]<;>rfl,X3,outG.nil _ _ _ _,outG.nil _ _ _ _,fun b hb=>hb.elim,rfl⟩ ?_
  clear X3;rintro n F H ⟨i,u,w,hi,f3,f4,f5,f6,f8,f9,f12,f13,f14,f15,f16,S,hu,hw,hdis,hfst⟩;simp -implicitDefEqProofs only[BC,BA,BI,A8,AY,BB,AO,AQ,AL,BD,AX,AC,AA,AZ,BG,BQ,BR,BJ,DZ,AB,CZ,↓reduceIte,jA,jK,jB,jC,enP,QZ,IP,f4,f16,S.m0,jI];refine CV (fun hc=>?_) (fun hc=>?_)
  .have hi':i<m.pts.length:=by simpa using hc
   have hir:i<rs.length:=by omega
   have hiP:i<(stO c t).P.length:=by omega
   have hic:i<c.pts.length:=by omega
   have hit:i<t.last.length:=by omega
   have hip:i<pb.length:=by omega
   have hiz:i<(zP m).length:=by omega
   have hp:=hm.pts _ (jQ hi');have hls:(stO c t).ls[i]'(by omega)=t.last[i].l:=by simp [stO]
   have hPi:(stO c t).P[i]=c.pts[i].l:=by simp [stO]
   have hri:rs[i]=ptE m.pts[i] t.last[i].l env:=by
    have:=hrg i hi' (by omega) (by rw[<-hrs]; omega);rw[hls] at this;rw[<-this];congr 1
   have hcall:=ASN G m.pts[i] hp t.last[i].l t.last[i].m env sm H (ht.len _ (jQ hit)) henv hsg;rw[<-hri] at hcall;unfold ptV at hcall;rw[OZ _ _ _ hir] at hfst;have hbad:(rs.take (i+1)).any PtR.bad=((rs.take i).any PtR.bad||rs[i].bad):=by rw[zL hir,List.any_append]; simp
   simp -implicitDefEqProofs only[BC,BP,BO,A8];refine E8 (by kernel_rfl) ?_;simp -implicitDefEqProofs only[F6,EH,DT,EI,FT,FH,D9,EF,OU,GU,F9,AO,AA,AZ,BZ,BQ,BJ,CE,FK,AB,jD,jE,jF,↓reduceIte,jA,jM,jK,jB,enP,S9,IP,OI,SG,f3,f4,f6,f16,S.m0,DU hi',FM ACR ZH JR hi',S.t0,DU hit,DF KP hit,OC];refine⟨_,hcall,?_⟩;simp -implicitDefEqProofs only[F6,zB,zG,EH,DT,FB,EI,JW,OU,BC,BA,BI,A8,AY,BB,AO,AQ,AL,BD,AX,AC,AA,AZ,AU,BH,BG,BR,FK,GN,AB,EK,↓reduceIte,jA,jM,jB,jC,enP];cases he:(rs[i].err==0)
   .have hne:rs[i].err≠0:=by simpa using he
    rw[if_neg hne] at hfst;simp -implicitDefEqProofs only[EZ,BC,BA,BK,A8,CP,EE,NM,FQ,DI,AY,BB,AO,AQ,AL,BD,AX,AC,EM,AA,AZ,BG,A7,IV,D6,AB,CY,↓reduceIte,jA,jB,jC,enP,jP,bne,he,QL,ACB,f8,f9,stZ S.g8 rfl,ABR (CW S.g9 (show b9≠b8 by omega)) rfl];exact⟨rs[i].err,by trivial,by trivial,by trivial,hne,hfst,CW (EC S.g8) (show b8≠b9 by omega),EC (CW S.g9 (show b9≠b8 by omega)),(S.hx.set (by omega) _).set (by omega) _⟩
   have hz:rs[i].err=0:=by simpa using he
   rw[if_pos hz] at hfst;have kh:=S.kh;obtain⟨u2,Ha,hap,hu2,hk,hla,hna,⟨ou,lu,rfl⟩,hxa⟩:=hu.app2 AAO VY ADC ABB (by omega) (by rw[jI,zD]; omega) kh rs[i].hit;rw[hbs] at hu2;have hap':G8 Tryz.prog true H 26 26 u (.sl .full 1 [[.sl (nm rs[i].hit) 1 (rs[i].hit.map II)]])=some (.own ou 0 lu,Ha):=hap;have Sa:=S.keep (H':=Ha) (fun b x hb hg=>hk b x hg (fun q=>by have:=hu.lt q; omega)) (by omega) (hxa h (by omega) S.hx);have hwa:=hw.keepA hk (fun b h1 h2=>hdis b h2 h1);obtain⟨w2,Hb,hapb,hw2,hkb,hlb,hnb2,⟨ow,lw,rfl⟩,hxb⟩:=hwa.app2 AAO VY ADC ABB (by omega) (by rw[jI,zD]; omega) (by omega) rs[i].next;rw[hbs] at hw2;have hapb':G8 Tryz.prog true Ha 26 26 w (.sl .full 1 [[.sl (nm rs[i].next) 1 (rs[i].next.map encI)]])=some (.own ow 0 lw,Hb):=hapb;have Sb:=Sa.keep (H':=Hb) (fun b x hb hg=>hkb b x hg (fun q=>by have:=hwa.lt q; omega)) (by omega) (hxb h (by omega) Sa.hx)
   have hub:=hu2.keepA hkb (fun b h1 h2=>by
    have e1:=hna b h1;have e2:=hw.lt h2
    omega)
   have Sc:=Sb.setT (.own ow 0 lw);have huc:=hub.setB (b:=nb) hnb (.live 1 [[.own ow 0 lw]]);have hwc:=hw2.setB (b:=nb) hnb (.live 1 [[.own ow 0 lw]]);have hst:FX Tryz.prog Hb 26 (.ptr nb 0 0) (.own ow 0 lw)=some (Hb.set nb (.live 1 [[.own ow 0 lw]])):=O6 (row:=[w]) (Y9 _ _ _) AMJ Sb.cs.gt (by simp)
   have hdis2:∀b,isB (.own ou 0 lu) b->¬isB (.own ow 0 lw) b:=fun b h1 h2=>by
    have e1:=hna b h1;have e2:=hnb2 b h2;omega
   simp -implicitDefEqProofs only[EZ,FW,BC,BA,BO,A8,DR,AY,BB,BL,BV,CO,AO,AQ,AL,BD,AX,AC,EM,AA,AZ,BG,A7,EP,BQ,D6,BJ,GR,BX,AB,CY,↓reduceIte,jA,jK,jB,jR,jC,enP,SG,jP,bne,he,f14,AHB,hap',f13,Sa.cs.lt0,hapb',hst,f15]
   generalize Hb.set nb (.live 1 [[.own ow 0 lw]])=Hc at Sc huc hwc|-
   clear Sa Sb hwa hub hst hap hap' hapb hapb' hu hw hdis hu2 hw2 hk hkb S;refine SX (fun F H=>H=Hc∧F 3=.sl sm 2 (env.map HY)∧F 4=.ptr h.length 0 0∧F 5=.ptr vb 0 0∧F 6=.ptr tb 0 0∧F 8=.ptr b8 0 0∧F 9=.ptr b9 0 0∧F 12=.ptr ob 0 0∧F 13=.ptr nb 0 0∧F 14=.own ou 0 lu∧F 15=.bool ((rs.take (i+1)).any PtR.bad)∧F 16=.int .i64 (i:Nat)∧F 17=.sl (nm rs[i].hit) 1 (rs[i].hit.map II)) ?_ ?_
   .cases hq:(rs.take i).any PtR.bad
    .rw[hq,Bool.false_or] at hbad
     simp -implicitDefEqProofs only[AY,BB,ES,AO,AQ,AL,BD,AX,AC,AA,AZ,AU,BM,BG,A7,CQ,DW,↓reduceIte,jA,jB,jC];exact⟨trivial,by trivial,by trivial,by trivial,by trivial,by trivial,by trivial,by trivial,by trivial,by trivial,by rw[hbad],by trivial,by trivial⟩
    .rw[hq,Bool.true_or] at hbad
     simp -implicitDefEqProofs only[AY,BB,F7,AO,AQ,AL,BD,AX,AC,AA,EW,AZ,AU,BM,A7,CQ,DY,↓reduceIte,jA,jB,jC];exact⟨trivial,by trivial,by trivial,by trivial,by trivial,by trivial,by trivial,by trivial,by trivial,by trivial,by rw[hbad],by trivial,by trivial⟩
   clear f3 f4 f5 f6 f8 f9 f12 f13 f14 f15 f16;rintro F H ⟨rfl,f3,f4,f5,f6,f8,f9,f12,f13,f14,f15,f16,f17⟩;have hmx:=mix_len (ys:=LX rs (stO c t).P) (xs:=zP m) (i:=i) (by omega) (by omega);have hmi:=WC (ys:=LX rs (stO c t).P) (xs:=zP m) (i:=i) (j:=i) (by omega) (jL _) hiz (by omega);have hms:=mix_set (ys:=LX rs (stO c t).P) (xs:=zP m) (i:=i) (by omega) hiz (by omega);have hsg2:=UD rs (stO c t).P i hir hiP (by omega);have hz2:(zP m)[i]=zeros m.pts[i].bins.length:=by simp [zP]
   have hpe:=hsh.pe i hiP hi';obtain⟨M,hmm,hmx,hmi,hms⟩:∃M,mix (LX rs (stO c t).P) (zP m) i=M∧M.length=(zP m).length∧(∀h:i<M.length,M[i]=(zP m)[i])∧M.set i (LX rs (stO c t).P)[i]=mix (LX rs (stO c t).P) (zP m) (i+1):=⟨_,rfl,hmx,fun _=>hmi,hms⟩;rw[hmm] at Sc;rw[hsg2] at hms;have hhit:rs[i].hit.length<=1048576:=by rw[hri]; have:=AH1 m.pts[i] t.last[i].l env; have:=hp.num; omega
   have hnd:rs[i].hit.Nodup:=by rw[hri]; exact AAV _ _ _
   have hhl:∀x∈rs[i].hit,x<(stO c t).P[i].length:=fun x hx=>by rw[hri] at hx; rw[hpe]; exact AH0 _ _ _ x hx
   have hwn:Wn (stO c t).P[i]:=hsh.wp _ (jQ hiP);have hrwl:=QE rs[i].hit (stO c t).P[i];have hrow:=fun k=>XF k rs[i].hit (stO c t).P[i] hnd hhl
   have hzn:=Q9 m.pts[i].bins.length;have hbn:=hp.num;obtain⟨R,hR⟩:∃R,R=rowP rs[i].hit (stO c t).P[i]:=⟨_,rfl⟩;rw[<-hR] at hms hrwl;have hrz:R.length=(zeros m.pts[i].bins.length).length:=by omega
   simp -implicitDefEqProofs only[BC,BP,BA,A8,AY,BB,AO,AQ,AL,BD,AX,AC,AU,BH,A7,jB,jC]
   refine GM 2 (fun F H=>F 3=.sl sm 2 (env.map HY)∧F 4=.ptr h.length 0 0∧F 5=.ptr vb 0 0∧F 6=.ptr tb 0 0∧F 8=.ptr b8 0 0∧F 9=.ptr b9 0 0∧F 12=.ptr ob 0 0∧F 13=.ptr nb 0 0∧F 14=.own ou 0 lu∧F 15=.bool ((rs.take (i+1)).any PtR.bad)∧F 16=.int .i64 (i:Nat) ∧
    Sx h H m c t vb tb b8 b9 H0.length H3.length ob nb po co pb cbs (M.set i R) (zC m) 0 0 (.own ow 0 lw)∧outG 1 MP H3 ((rs.take (i+1)).map PtR.hit) (.own ou 0 lu) H∧outG 1 MB H3 ((rs.take (i+1)).map PtR.next) (.own ow 0 lw) H) (fun _ _=>False) ?_ ?_ (fun _ _ hh=>hh.elim)
   .have e0:M.set i (mix R (zeros m.pts[i].bins.length) 0)=M:=by
     show M.set i (zeros m.pts[i].bins.length)=M;rw[<-hz2,<-hmi (by omega),List.set_getElem_self]
    refine DK (fun n F H=>∃k,n+k=m.pts[i].bins.length∧F 3=.sl sm 2 (env.map HY)∧F 4=.ptr h.length 0 0∧F 5=.ptr vb 0 0∧F 6=.ptr tb 0 0∧F 8=.ptr b8 0 0∧F 9=.ptr b9 0 0∧F 12=.ptr ob 0 0∧F 13=.ptr nb 0 0∧F 14=.own ou 0 lu∧F 15=.bool ((rs.take (i+1)).any PtR.bad)∧F 16=.int .i64 (i:Nat)∧F 17=.sl (nm rs[i].hit) 1 (rs[i].hit.map II)∧F 21=.int .i64 (k:Nat) ∧
      Sx h H m c t vb tb b8 b9 H0.length H3.length ob nb po co pb cbs (M.set i (mix R (zeros m.pts[i].bins.length) k)) (zC m) 0 0 (.own ow 0 lw)∧outG 1 MP H3 ((rs.take (i+1)).map PtR.hit) (.own ou 0 lu) H∧outG 1 MB H3 ((rs.take (i+1)).map PtR.next) (.own ow 0 lw) H) m.pts[i].bins.length
     ⟨0,by simp,by simp -implicitDefEqProofs only[AA,↓reduceIte,jA,f3],by simp -implicitDefEqProofs only[AA,↓reduceIte,jA,f4],by simp -implicitDefEqProofs only[AA,↓reduceIte,jA,f5],by simp -implicitDefEqProofs only[AA,↓reduceIte,jA,f6],by simp -implicitDefEqProofs only[AA,↓reduceIte,jA,f8],by simp -implicitDefEqProofs only[AA,↓reduceIte,jA,f9],by simp -implicitDefEqProofs only[AA,↓reduceIte,jA,f12],by simp -implicitDefEqProofs only[AA,↓reduceIte,jA,f13],by simp -implicitDefEqProofs only[AA,↓reduceIte,jA,f14],by simp -implicitDefEqProofs only[AA,↓reduceIte,jA,f15],by simp -implicitDefEqProofs only[AA,↓reduceIte,jA,f16],by simp -implicitDefEqProofs only[AA,↓reduceIte,jA,f17],by simp -implicitDefEqProofs only[AA,↓reduceIte]<;>rfl,by rw[e0]; exact Sc,huc,hwc⟩ ?_
    clear Sc huc hwc f3 f4 f5 f6 f8 f9 f12 f13 f14 f15 f16 f17;rintro n' F H ⟨k,hk,f3,f4,f5,f6,f8,f9,f12,f13,f14,f15,f16,f17,f21,S,hu,hw⟩;have hkl:=mix_len (ys:=R) (xs:=zeros m.pts[i].bins.length) (i:=k) hrz (by omega);have hiM:i<(M.set i (mix R (zeros m.pts[i].bins.length) k)).length:=by rw[qI]; omega
    have hcur:(M.set i (mix R (zeros m.pts[i].bins.length) k))[i]=mix R (zeros m.pts[i].bins.length) k:=List.getElem_set_self _;obtain⟨q1,q2,q3,q4⟩:=S.rowP hiM hip;rw[hcur] at q3 q4;have hll2:(mix R (zeros m.pts[i].bins.length) k).length=m.pts[i].bins.length:=by omega
    simp -implicitDefEqProofs only[BC,BA,BI,A8,AY,BB,AO,AQ,AL,BD,AX,AC,AA,AZ,BG,BQ,BR,BJ,CE,DZ,AB,CZ,↓reduceIte,jA,jK,jB,jC,enP,OI,MJ,f12,f16,f21,q1,q2,q3,JD.2,hll2];refine CV (fun hc=>?_) (fun hc=>?_)
    .have hk':k<m.pts[i].bins.length:=by simpa using hc
     have hkP:k<c.pts[i].l.length:=by rw[<-hPi]; omega
     have hin:0<=c.pts[i].l[k]∧c.pts[i].l[k]<=1099511627776:=by
      rw[hPi] at hwn;exact hwn _ (jQ hkP)
     have hRk:R[k]'(by omega)=if decide (k∈rs[i].hit)=true then rz c.pts[i].l[k] else c.pts[i].l[k]:=by
      rw[<-getD_at R k (by omega),hR,hrow k,hPi,getD_at _ _ hkP];simp only[decide_eq_true_eq]
     have hset:=mix_set (ys:=R) (xs:=zeros m.pts[i].bins.length) (i:=k) hrz (by omega) (by omega);have hix:=AUK q4 (k:=k) (by omega);rw[hll2] at hix;have hst:=ATC q4 (k:=k) (by omega) (R[k]'(by omega));rw[hset] at hst;have S2:=S.setP hip (mix R (zeros m.pts[i].bins.length) (k+1)) (fun _=>by rw[hcur,mix_len hrz (by omega),hkl]);rw[List.set_set] at S2;have hu2:=hu.setB (b:=pb[i]) (S.hp _ (jQ hip)) (.live 1 ((mix R (zeros m.pts[i].bins.length) (k+1)).map encI));have hw2:=hw.setB (b:=pb[i]) (S.hp _ (jQ hip)) (.live 1 ((mix R (zeros m.pts[i].bins.length) (k+1)).map encI));simp -implicitDefEqProofs only[BC,BP,BO,A8];refine E8 (by kernel_rfl) ?_;simp -implicitDefEqProofs only[F6,EH,DT,EI,FT,FH,D9,EF,GU,F9,AO,AA,AZ,BZ,BQ,BJ,CE,AB,jD,jE,jF,↓reduceIte,jA,jM,jK,jB,enP,OI,MJ,JF,f5,f12,f16,f17,f21,q1,q2,q3,hll2,S.v0,DU hic,DF KP hic,OC,DU hkP,DF ag3 hkP,WP,APO];refine⟨_,has_ref G (rs[i].hit.map fun n:Nat=>(n:Int)) _ (k:Nat) H (by rw[jI]; exact hhit),?_⟩;rw[AUX]
     try simp -implicitDefEqProofs only[]
     refine⟨_,WB G c.pts[i].l[k] (decide (k∈rs[i].hit)) H hin.1 hin.2,?_⟩;rw[<-hRk]
     try simp -implicitDefEqProofs only[F6,EH,DT,JZ,FB,EI,JV,BA,A8,EJ,EQ,AY,BB,AO,AQ,AL,BD,AX,AC,AA,AZ,AU,BH,BG,A7,D6,BR,AB,CY,C9,↓reduceIte,jA,jG,jB,jC,enP,jP,hix,hst,f21,wrap_succ (show k<9223372036854775807 by omega)]
     exact⟨n'-1,by omega,k+1,by omega,by trivial,by trivial,by trivial,by trivial,by trivial,by trivial,by trivial,by trivial,by trivial,by trivial,by trivial,by first|trivial|exact f17|(rw[<-APO]; exact f17),by trivial,S2,hu2,hw2⟩
    .have hk':k=(zeros m.pts[i].bins.length).length:=by
      have:¬k<m.pts[i].bins.length:=by simpa using hc
      omega
     rw[hk',QY hrz] at S;simp -implicitDefEqProofs only[DJ,EG,KC,ET,AA,↓reduceIte,jA];exact⟨f3,f4,f5,f6,f8,f9,f12,f13,f14,f15,f16,S,hu,hw⟩
   .clear Sc huc hwc f3 f4 f5 f6 f8 f9 f12 f13 f14 f15 f16 f17
    rintro F H ⟨f3,f4,f5,f6,f8,f9,f12,f13,f14,f15,f16,S,hu,hw⟩;rw[hms] at S;simp -implicitDefEqProofs only[BA,A8,EJ,EU,EQ,AY,BB,AO,AQ,AL,BD,AX,AC,AA,AZ,AU,BH,BG,A7,BR,AB,C9,↓reduceIte,jA,jB,jC,enP,f16,wrap_succ (show i<9223372036854775807 by omega)];exact⟨n-1,by omega,i+1,_,_,by omega,by trivial,by trivial,by trivial,by trivial,by trivial,by trivial,by trivial,by trivial,by trivial,by trivial,by trivial,S,hu,hw,hdis2,hfst⟩
  .have hi':i=(zP m).length:=by
    have:¬i<m.pts.length:=by simpa using hc
    omega
   rw[List.take_of_length_le (by omega)] at f15 hu hw;rw[jW (by omega)] at hfst;rw[hi',QY (by omega)] at S;simp -implicitDefEqProofs only[DJ,EG,KC,ET,AA,↓reduceIte,jA];exact⟨u,w,f4,f5,f8,f9,f12,f13,f14,f15,S,hu,hw,hfst⟩
 .rintro F H ⟨u,w,f4,f5,f8,f9,f12,f13,f14,f15,S,hu,hw,hfst⟩
  simp -implicitDefEqProofs only[BC,BP,BA,A8,EU,AY,BB,AO,AQ,AL,BD,AX,AC,AU,BH,A7,↓reduceIte,jB,jC];refine GM 4 (fun F H=>F 5=.ptr vb 0 0∧F 8=.ptr b8 0 0∧F 9=.ptr b9 0 0∧F 12=.ptr ob 0 0∧F 13=.ptr nb 0 0∧F 15=.bool (rs.any PtR.bad)∧Sx h H m c t vb tb b8 b9 H0.length H3.length ob nb po co pb cbs (LX rs (stO c t).P) (NJ m (rs.map PtR.hit) (stO c t).C) 0 0 w∧outG 1 MB H3 (rs.map PtR.next) w H) (fun _ _=>False) ?_ ?_ (fun _ _ hh=>hh.elim)
  .refine DK (fun n F H=>∃i,n+i=m.crs.length∧F 4=.ptr h.length 0 0∧F 5=.ptr vb 0 0∧F 8=.ptr b8 0 0∧F 9=.ptr b9 0 0∧F 12=.ptr ob 0 0∧F 13=.ptr nb 0 0∧F 14=u∧F 15=.bool (rs.any PtR.bad)∧F 22=.int .i64 (i:Nat) ∧
     Sx h H m c t vb tb b8 b9 H0.length H3.length ob nb po co pb cbs (LX rs (stO c t).P) (mix (NJ m (rs.map PtR.hit) (stO c t).C) (zC m) i) 0 0 w∧outG 1 MP H3 (rs.map PtR.hit) u H∧outG 1 MB H3 (rs.map PtR.next) w H) m.crs.length
    ⟨0,by simp,by simp -implicitDefEqProofs only[AA,↓reduceIte,jA,f4],by simp -implicitDefEqProofs only[AA,↓reduceIte,jA,f5],by simp -implicitDefEqProofs only[AA,↓reduceIte,jA,f8],by simp -implicitDefEqProofs only[AA,↓reduceIte,jA,f9],by simp -implicitDefEqProofs only[AA,↓reduceIte,jA,f12],by simp -implicitDefEqProofs only[AA,↓reduceIte,jA,f13],by simp -implicitDefEqProofs only[AA,↓reduceIte,jA,f14],by simp -implicitDefEqProofs only[AA,↓reduceIte,jA,f15],by simp -implicitDefEqProofs only[AA,↓reduceIte]<;>rfl,S,hu,hw⟩ ?_
   clear S hu hw f4 f5 f8 f9 f12 f13 f14 f15;rintro n F H ⟨i,hi,f4,f5,f8,f9,f12,f13,f14,f15,f22,S,hu,hw⟩;simp -implicitDefEqProofs only[BC,BA,BI,A8,AY,BB,AO,AQ,AL,BD,AX,AC,AA,AZ,BG,BQ,BR,BJ,DZ,AB,CZ,↓reduceIte,jA,jG,jB,jC,enP,VQ,J8,f4,f22,S.m1,jI];refine CV (fun hc=>?_) (fun hc=>?_)
   .have hi':i<m.crs.length:=by simpa using hc
    have hiC:i<(stO c t).C.length:=by omega
    have hic:i<c.crs.length:=by omega
    have hip:i<cbs.length:=by omega
    have hiz:i<(zC m).length:=by omega
    have hcg:=hg.crs _ (jQ hi');have hfs:=hg.full.szs hcg.here;have hzl2:=LJ m m.crs[i].pts;have htwo:=hcg.two;have hfour:=hcg.four;have hpr:=hcg.prod;have hcr:=hm.crs _ (jQ hi');have hxe:=hcr.excl;have hCi:(stO c t).C[i]=c.crs[i].l:=by simp [stO]
    have hce:=hsh.ce i hiC hi';have hwn:Wn (stO c t).C[i]:=hsh.wc _ (jQ hiC)
    have hpos:0<m.pts.length:=by
     have:=hcg.here (m.crs[i].pts[0]'(by omega)) (jQ _);omega
    obtain⟨uo,rfl,guo⟩:∃uo,u=.own uo 0 (rs.map PtR.hit).length∧H[uo]?=some (.live 1 ((rs.map PtR.hit).map MP)):=by
     rcases hu with⟨q,_⟩|⟨_,o,_,e,g⟩
     .have q2:(rs.map PtR.hit).length=0:=by rw[q]; rfl
      rw[jI] at q2; omega
     .exact⟨o,e,g⟩
    have h64:∀x∈rs.map PtR.hit,x.length<=1048576:=fun x hx=>by
     obtain⟨r,hr,rfl⟩:=zM.1 hx;rw[hrs] at hr;obtain⟨p,hp,rfl⟩:=zM.1 hr;have h1:=AH1 p.1 p.2 env;have h2:=(hm.pts _ (List.of_mem_zip hp).1).num;omega
    have hhl:(rs.map PtR.hit).length=m.pts.length:=by rw[jI]; exact hrl
    have hmx:=mix_len (ys:=NJ m (rs.map PtR.hit) (stO c t).C) (xs:=zC m) (i:=i) (by omega) (by omega);have hmi:=WC (ys:=NJ m (rs.map PtR.hit) (stO c t).C) (xs:=zC m) (i:=i) (j:=i) (by omega) (jL _) hiz (by omega);have hms:=mix_set (ys:=NJ m (rs.map PtR.hit) (stO c t).C) (xs:=zC m) (i:=i) (by omega) hiz (by omega);have hsg2:=V3 m (rs.map PtR.hit) (stO c t).C i hi' hiC (by omega);have hz2:(zC m)[i]=zeros (GK (szs m m.crs[i].pts)):=by simp [zC]
    obtain⟨M,hmm,hmx,hmi,hms⟩:∃M,mix (NJ m (rs.map PtR.hit) (stO c t).C) (zC m) i=M∧M.length=(zC m).length∧(∀h:i<M.length,M[i]=(zC m)[i])∧M.set i (NJ m (rs.map PtR.hit) (stO c t).C)[i]=mix (NJ m (rs.map PtR.hit) (stO c t).C) (zC m) (i+1):=⟨_,rfl,hmx,fun _=>hmi,hms⟩;rw[hmm] at S;rw[hsg2] at hms;have hrwl:=QG m m.crs[i] (rs.map PtR.hit) (stO c t).C[i];have hrow:=AGJ m m.crs[i] (rs.map PtR.hit) (stO c t).C[i];have hzn:=Q9 (GK (szs m m.crs[i].pts));obtain⟨pn,hpn⟩:∃pn,pn=GK (szs m m.crs[i].pts):=⟨_,rfl⟩;rw[<-hpn] at hpr hce hz2 hzn;obtain⟨R,hR⟩:∃R,R=rowC m m.crs[i] (rs.map PtR.hit) (stO c t).C[i]:=⟨_,rfl⟩;rw[<-hR] at hms hrwl;have hrz:R.length=(zeros pn).length:=by omega
    have Sa:=S.app [ABlk.live 3 [GG m.crs[i]]];have hua:=hu.app [ABlk.live 3 [GG m.crs[i]]];have hwa:=hw.app [ABlk.live 3 [GG m.crs[i]]];have gx:=CX H (ABlk.live 3 [GG m.crs[i]]);have kh:=S.kh;have guo2:=CJ guo;simp -implicitDefEqProofs only[BC,BP,BA,BO,A8,AY,BB,AO,AQ,AL,BD,AX,AC,EM,AA,AZ,AU,BH,BG,A7,EX,BQ,D6,BJ,CE,BX,AB,CY,↓reduceIte,jA,jG,jB,jC,enP,WF,J8,jP,f4,f22,S.m1,DU hi',FM AAD XY KD hi',ASF,AQP _ _ [.str ⟨#[]⟩,.sl .nil 0 [],.sl .nil 0 []] rfl]
    generalize H++[ABlk.live 3 [GG m.crs[i]]]=Ha at Sa hua hwa gx|-
    have hxb:H.length ∉ cbs:=fun q=>by have:=S.hc _ q; omega
    have hxo:H.length≠uo:=by omega
    generalize H.length=xb at gx hxb hxo|-
    have huc:∀k,k<cbs.length->True:=fun _ _=>trivial
    clear guo guo2 hu hw S kh
    refine GM 6 (fun F H=>F 4=.ptr h.length 0 0∧F 5=.ptr vb 0 0∧F 8=.ptr b8 0 0∧F 9=.ptr b9 0 0∧F 12=.ptr ob 0 0∧F 13=.ptr nb 0 0∧F 14=.own uo 0 (rs.map PtR.hit).length∧F 15=.bool (rs.any PtR.bad)∧F 22=.int .i64 (i:Nat) ∧
     Sx h H m c t vb tb b8 b9 H0.length H3.length ob nb po co pb cbs (LX rs (stO c t).P) (M.set i R) 0 0 w∧outG 1 MP H3 (rs.map PtR.hit) (.own uo 0 (rs.map PtR.hit).length) H∧outG 1 MB H3 (rs.map PtR.next) w H) (fun _ _=>False) ?_ ?_ (fun _ _ hh=>hh.elim)
    .have e0:M.set i (mix R (zeros pn) 0)=M:=by
      show M.set i (zeros pn)=M;rw[<-hz2,<-hmi (by omega),List.set_getElem_self]
     refine DK (fun n F H=>∃k,n+k=pn∧F 4=.ptr h.length 0 0∧F 5=.ptr vb 0 0∧F 8=.ptr b8 0 0∧F 9=.ptr b9 0 0∧F 12=.ptr ob 0 0∧F 13=.ptr nb 0 0∧F 14=.own uo 0 (rs.map PtR.hit).length∧F 15=.bool (rs.any PtR.bad)∧F 22=.int .i64 (i:Nat)∧F 23=.ptr xb 0 0∧F 24=.int .i64 (k:Nat)∧H[xb]?=some (.live 3 [GG m.crs[i]]) ∧
       Sx h H m c t vb tb b8 b9 H0.length H3.length ob nb po co pb cbs (LX rs (stO c t).P) (M.set i (mix R (zeros pn) k)) 0 0 w∧outG 1 MP H3 (rs.map PtR.hit) (.own uo 0 (rs.map PtR.hit).length) H∧outG 1 MB H3 (rs.map PtR.next) w H) pn
      ⟨0,by simp,by simp -implicitDefEqProofs only[AA,↓reduceIte,jA,f4],by simp -implicitDefEqProofs only[AA,↓reduceIte,jA,f5],by simp -implicitDefEqProofs only[AA,↓reduceIte,jA,f8],by simp -implicitDefEqProofs only[AA,↓reduceIte,jA,f9],by simp -implicitDefEqProofs only[AA,↓reduceIte,jA,f12],by simp -implicitDefEqProofs only[AA,↓reduceIte,jA,f13],by simp -implicitDefEqProofs only[AA,↓reduceIte,jA,f14],by simp -implicitDefEqProofs only[AA,↓reduceIte,jA,f15],by simp -implicitDefEqProofs only[AA,↓reduceIte,jA,f22],by simp -implicitDefEqProofs only[AA,↓reduceIte,jA],by simp -implicitDefEqProofs only[AA,↓reduceIte]<;>rfl,gx,by rw[e0]; exact Sa,hua,hwa⟩ ?_
     clear Sa hua hwa gx f4 f5 f8 f9 f12 f13 f14 f15 f22;rintro n' F H ⟨k,hk,f4,f5,f8,f9,f12,f13,f14,f15,f22,f23,f24,gx,S,hu,hw⟩;have hkl:=mix_len (ys:=R) (xs:=zeros pn) (i:=k) hrz (by omega);have hiM:i<(M.set i (mix R (zeros pn) k)).length:=by rw[qI]; omega
     have hcur:(M.set i (mix R (zeros pn) k))[i]=mix R (zeros pn) k:=List.getElem_set_self _;obtain⟨q1,q2,q3,q4⟩:=S.rowC hiM hip;rw[hcur] at q3 q4;have hll2:(mix R (zeros pn) k).length=pn:=by omega
     simp -implicitDefEqProofs only[BC,BA,BI,A8,AY,BB,AO,AQ,AL,BD,AX,AC,AA,AZ,BG,BQ,BR,BJ,CE,DZ,AB,CZ,↓reduceIte,jA,jG,jB,jC,enP,OI,L6,f12,f22,f24,q1,q2,q3,JD.2,hll2];refine CV (fun hc=>?_) (fun hc=>?_)
     .have hk':k<pn:=by simpa using hc
      have hkC:k<c.crs[i].l.length:=by rw[<-hCi]; omega
      have hin:0<=c.crs[i].l[k]∧c.crs[i].l[k]<=1099511627776:=by
       rw[hCi] at hwn;exact hwn _ (jQ hkC)
      have hRk:R[k]'(by omega)=if(Q3 m m.crs[i] (NG (szs m m.crs[i].pts) k)&&allB m.crs[i].pts (NG (szs m m.crs[i].pts) k) (rs.map PtR.hit))=true then rz c.crs[i].l[k] else c.crs[i].l[k]:=by
       rw[<-getD_at R k (by omega),hR,hrow k (by omega),hCi,getD_at _ _ hkC];rfl
      have hset:=mix_set (ys:=R) (xs:=zeros pn) (i:=k) hrz (by omega) (by omega);have hix:=AUK q4 (k:=k) (by omega);rw[hll2] at hix;have hst:=ATC q4 (k:=k) (by omega) (R[k]'(by omega));rw[hset] at hst;have S2:=S.setC hip (mix R (zeros pn) (k+1)) (fun _=>by rw[hcur,mix_len hrz (by omega),hkl]);rw[List.set_set] at S2;have hu2:=hu.setB (b:=cbs[i]) (S.hc _ (jQ hip)) (.live 1 ((mix R (zeros pn) (k+1)).map encI));have hw2:=hw.setB (b:=cbs[i]) (S.hc _ (jQ hip)) (.live 1 ((mix R (zeros pn) (k+1)).map encI));have gx2:=CW (y:=.live 1 ((mix R (zeros pn) (k+1)).map encI)) gx (show xb≠cbs[i] from fun q=>hxb (by rw[q]; exact jQ hip));have hins:=UB (szs m m.crs[i].pts) k (fun n hn=>(hfs n hn).1);have htl:=QI hins
      have guo:H[uo]?=some (.live 1 ((rs.map PtR.hit).map MP)):=by
       rcases hu with⟨q,_⟩|⟨_,o,_,e,g⟩
       .have q2:(rs.map PtR.hit).length=0:=by rw[q]; rfl
        rw[jI] at q2; omega
       .cases e; exact g
      simp -implicitDefEqProofs only[BC,BP,BA,BO,A8,AY,AO,AQ,AL,BD,AX,AC,AA,AZ,BZ,BG,BQ,CB,BU,AB,jD,jE,jF,↓reduceIte,jA,jB,jC,enP,f4,f23,f24,ldM S.gm,ldC gx];refine(AGD G m m.crs[i] k H hcg.here hg.full (by omega) (by omega) (by omega)).use ?_;simp -implicitDefEqProofs only[A8,AY,BB,AO,AQ,AL,BD,AX,AC,AA,AZ,A7,↓reduceIte,jB,jC];have hcnt:=AE2 G m m.crs[i] (NG (szs m m.crs[i].pts) k) .any H hcg.here hins (by omega) (by omega);have hht:=AUS G m.crs[i] (NG (szs m m.crs[i].pts) k) .any (rs.map PtR.hit) uo H guo (fun p hp=>by have:=hcg.here p hp; rw[hhl]; exact this) (by omega) h64 (by omega);refine E8 (by kernel_rfl) ?_;simp -implicitDefEqProofs only[F6,EH,DT,EI,FN,GI,FT,FH,D9,EF,GU,F9,CO,AO,AA,AZ,BZ,BQ,BJ,CE,AB,jD,jE,jF,↓reduceIte,jA,jM,jG,jB,enP,OI,L6,JF,f4,f5,f12,f14,f22,f23,f24,q1,q2,q3,hll2,S.v1,DU hic,DF KP hic,OC,DU hkC,DF ag3 hkC,WP,ldM S.gm,ldC gx];refine⟨_,hcnt,?_⟩
      try simp -implicitDefEqProofs only[]
      cases h1:Q3 m m.crs[i] (NG (szs m m.crs[i].pts) k)
      .rw[h1,Bool.false_and] at hRk
       simp -implicitDefEqProofs only[F6,EH,DT,EI,FN,GI,ACH,I5,EF,GU,F9,CO,AO,AA,EW,AZ,AU,BZ,BM,CQ,DW,CE,jD,jE,jF,↓reduceIte,jA,jM,jB,enP,JF];refine⟨_,WB G c.crs[i].l[k] false H hin.1 hin.2,?_⟩;rw[<-hRk]
       try simp -implicitDefEqProofs only[F6,EH,DT,JZ,FB,EI,JV,BA,A8,EJ,EQ,AY,BB,AO,AQ,AL,BD,AX,AC,AA,AZ,AU,BH,BG,A7,D6,BR,AB,CY,C9,↓reduceIte,jA,jG,jB,jC,enP,jP,hix,hst,f24,wrap_succ (show k<9223372036854775807 by omega)]
       exact⟨n'-1,by omega,k+1,by omega,by trivial,by trivial,by trivial,by trivial,by trivial,by trivial,by trivial,by trivial,by trivial,by trivial,by trivial,gx2,S2,hu2,hw2⟩
      .rw[h1,Bool.true_and] at hRk
       simp -implicitDefEqProofs only[F6,EH,DT,EI,FN,GI,VN,FT,I5,FH,EF,GU,F9,CO,AO,AA,AZ,AU,BZ,BM,CQ,DY,BQ,CE,AB,jD,jE,jF,↓reduceIte,jA,jM,jB,enP,JF,f14,f23,ldC gx];refine⟨_,hht,?_⟩
       try simp -implicitDefEqProofs only[]
       refine⟨_,WB G c.crs[i].l[k] (allB m.crs[i].pts (NG (szs m m.crs[i].pts) k) (rs.map PtR.hit)) H hin.1 hin.2,?_⟩;rw[<-hRk]
       try simp -implicitDefEqProofs only[F6,EH,DT,JZ,FB,EI,JV,BA,A8,EJ,EQ,AY,BB,AO,AQ,AL,BD,AX,AC,AA,AZ,AU,BH,BG,A7,D6,BR,AB,CY,C9,↓reduceIte,jA,jG,jB,jC,enP,jP,hix,hst,f24,wrap_succ (show k<9223372036854775807 by omega)]
       exact⟨n'-1,by omega,k+1,by omega,by trivial,by trivial,by trivial,by trivial,by trivial,by trivial,by trivial,by trivial,by trivial,by trivial,by trivial,gx2,S2,hu2,hw2⟩
     .have hk':k=(zeros pn).length:=by
       have:¬k<pn:=by simpa using hc
       omega
      rw[hk',QY hrz] at S;simp -implicitDefEqProofs only[DJ,EG,KC,ET,AA,↓reduceIte,jA];exact⟨f4,f5,f8,f9,f12,f13,f14,f15,f22,S,hu,hw⟩
    .clear Sa hua hwa gx f4 f5 f8 f9 f12 f13 f14 f15 f22
     rintro F H ⟨f4,f5,f8,f9,f12,f13,f14,f15,f22,S,hu,hw⟩;rw[hms] at S;simp -implicitDefEqProofs only[BA,A8,EJ,EU,EQ,AY,BB,AO,AQ,AL,BD,AX,AC,AA,AZ,AU,BH,BG,A7,BR,AB,C9,↓reduceIte,jA,jB,jC,enP,f22,wrap_succ (show i<9223372036854775807 by omega)];exact⟨n-1,by omega,i+1,by omega,by trivial,by trivial,by trivial,by trivial,by trivial,by trivial,by trivial,by trivial,by trivial,S,hu,hw⟩
   .have hi':i=(zC m).length:=by
     have:¬i<m.crs.length:=by simpa using hc
     omega
    rw[hi',QY (by omega)] at S;simp -implicitDefEqProofs only[DJ,EG,KC,ET,AA,↓reduceIte,jA];exact⟨f5,f8,f9,f12,f13,f15,S,hw⟩
  .clear S hu hw f4 f5 f8 f9 f12 f13 f14 f15
   rintro F H ⟨f5,f8,f9,f12,f13,f15,S,hw⟩;have hsm:0<=c.sam∧c.sam<=1099511627776:=hok.sm;have hil:0<=c.ill∧c.ill<=1099511627776:=hok.il;simp -implicitDefEqProofs only[BC,BA,A8,EU,AY,AO,AQ,AL,BD,AX,AC,AA,AZ,AU,BZ,BM,BQ,BJ,CB,BU,AB,jD,jE,jF,↓reduceIte,jG,jB,jC,enP,U9,f5,S.v2];refine(WB G c.sam true H hsm.1 hsm.2).use ?_;have hst1:FX Tryz.prog H 3 (.ptr ob 0 2) (.int .i64 (rz c.sam))=some (H.set ob (.live 4 [cvR po (LX rs (stO c t).P) co (NJ m (rs.map PtR.hit) (stO c t).C) (rz c.sam) 0])):=O6 (P6 _ _) sz3 S.cs.gc (by simp [cvR]);have S1:=S.setN (rz c.sam) 0;have hw1:=hw.setB (b:=ob) hob (.live 4 [cvR po (LX rs (stO c t).P) co (NJ m (rs.map PtR.hit) (stO c t).C) (rz c.sam) 0]);simp -implicitDefEqProofs only[BC,BA,A8,AY,BB,AO,AQ,AL,BD,AX,AC,EM,AA,AZ,D6,BJ,AB,CY,↓reduceIte,jA,jG,jB,jC,enP,U9,jP,f12,hst1]
   generalize H.set ob (.live 4 [cvR po (LX rs (stO c t).P) co (NJ m (rs.map PtR.hit) (stO c t).C) (rz c.sam) 0])=Ha at S1 hw1|-
   simp -implicitDefEqProofs only[AY,AO,AQ,AL,BD,AX,AC,AA,AZ,BZ,BG,BQ,CB,BU,AB,jD,jE,jF,↓reduceIte,jA,jG,jB,jC,enP,WN,f5,S1.v3,f15];refine(WB G c.ill (rs.any PtR.bad) Ha hil.1 hil.2).use ?_;obtain⟨il,hill⟩:∃z,z=if rs.any PtR.bad=true then rz c.ill else c.ill:=⟨_,rfl⟩
   rw[<-hill];have hst2:FX Tryz.prog Ha 3 (.ptr ob 0 3) (.int .i64 il)=some (Ha.set ob (.live 4 [cvR po (LX rs (stO c t).P) co (NJ m (rs.map PtR.hit) (stO c t).C) (rz c.sam) il])):=O6 (P6 _ _) sz3 S1.cs.gc (by simp [cvR]);have S2:=S1.setN (rz c.sam) il;have hw2:=hw1.setB (b:=ob) hob (.live 4 [cvR po (LX rs (stO c t).P) co (NJ m (rs.map PtR.hit) (stO c t).C) (rz c.sam) il]);simp -implicitDefEqProofs only[BC,A8,AY,BB,AO,AQ,AL,BD,AX,AC,EM,AA,AZ,D6,BJ,AB,CY,↓reduceIte,jA,jG,jB,jC,enP,WN,jP,f12,hst2]
   generalize Ha.set ob (.live 4 [cvR po (LX rs (stO c t).P) co (NJ m (rs.map PtR.hit) (stO c t).C) (rz c.sam) il])=Hb at S2 hw2|-
   have lo:=S2.lo; have ln:=S2.ln;refine RH [(13,8)] (by kernel_rfl) ?_ ?_
   .simp -implicitDefEqProofs only[AA,↓reduceIte,jA,f8,f13,RI,UU,UE,and_true]
    omega
   simp -implicitDefEqProofs only[F6,EH,DT,JZ,FB,EI,JW,FH,JV,BK,A8,AO,AA,AZ,AU,BH,BQ,D6,AB,CY,↓reduceIte,jA,jM,jG,jB,enP,jP,f8,f9,f12,f13,JI S2.cs.gc rfl,N8 S2.cs.gt rfl,A0H S2.g8 rfl,AGF (CW S2.g9 (show b9≠b8 by omega)) rfl hw2.leaf];rw[TI (ba:=b8) (bb:=b9) (by simp -implicitDefEqProofs only[AA,↓reduceIte,jA,f8]) (by simp -implicitDefEqProofs only[AA,↓reduceIte,jA,f9]) (JI (CW (EC S2.g8) (show b8≠b9 by omega)) rfl) (N8 (EC (CW S2.g9 (show b9≠b8 by omega))) rfl)];refine⟨(S2.hx.set (by omega) _).set (by omega) _,?_⟩;obtain⟨st,hst⟩:∃z,z=stp m (stO c t) env:=⟨_,rfl⟩;have eP:LX rs (stO c t).P=st.P:=by rw[hst,hrs]; rfl
   have eC:NJ m (rs.map PtR.hit) (stO c t).C=st.C:=by rw[hst,hrs]; rfl
   have eL:rs.map PtR.next=st.ls:=by rw[hst,hrs]; rfl
   have eS:rz c.sam=st.sam:=by rw[hst]; rfl
   have eI:il=st.ill:=by rw[hill,hst,hrs]; rfl
   rw[eP,eC,eS,eI] at S2|-
   rw[eL] at hw2
   have np':NL H0.length ((Hb.set b8 (.live 4 [cvR po st.P co st.C st.sam st.ill])).set b9 (.live 1 [[w]])) po pb st.P:=S2.cs.np.keep fun b x hb hg=>by
    have:=S2.cs.np.lt hb;exact CW (CW hg (by omega)) (by omega)
   have nc':NL H0.length ((Hb.set b8 (.live 4 [cvR po st.P co st.C st.sam st.ill])).set b9 (.live 1 [[w]])) co cbs st.C:=S2.cs.nc.keep fun b x hb hg=>by
    have:=S2.cs.nc.lt hb;exact CW (CW hg (by omega)) (by omega)
   have hwf:=(hw2.setB (b:=b8) (by omega) (.live 4 [cvR po st.P co st.C st.sam st.ill])).setB (b:=b9) (by omega) (.live 1 [[w]]);have e1:=AVX st np' nc' h.length 0 (by omega);have e2:=SC A3U hwf h.length 1 h3l;have hz:RQ m c t env=0:=by rw[hE]; unfold RP; rw[<-hrs]; exact hfst
   unfold AHT;rw[if_pos hz,<-hst];show AV.tup [IX h.length _ 4 (.agg (cvR po st.P co st.C st.sam st.ill)),.agg [IX h.length _ 3 w],_]=_;rw[e1,e2];simp -implicitDefEqProofs only[AA,↓reduceIte];rfl
 .rintro F H ⟨e,f8,f9,f10,hne,hfst,g8,g9,hx⟩
  exact hend F e f8 f9 f10 (ZI (by rw[hE]; unfold RP; rw[<-hrs]; exact hfst) hne) H g8 g9 hx
theorem W9:CvOk zV:=⟨by decide,by decide,fun x hx=>(by cases hx),fun x hx=>(by cases hx)⟩
theorem AOM:TkOk zT:=⟨by decide,fun x hx=>(by cases hx)⟩
theorem AGG {m:Mo}{c:Cvr}{t:Tk}{env:List Sg}(h:RQ m c t env=0):G5 m c=true∧ACJ m t=true∧RP m (stO c t) env=0:=by
 unfold RQ at h;split at h
 .split at h
  .rename_i h2
   rw[Bool.and_eq_true] at h2;exact⟨h2.1,h2.2,h⟩
  .cases h
 .rename_i h2; exact absurd h h2
theorem AOX (m:Mo)(c:Cvr)(t:Tk)(env:List Sg):CvOk (ZJ m c t env):=by
 unfold ZJ;split
 .rename_i h
  obtain⟨h1,h2,h3⟩:=AGG h;exact XR ((AC4 h1 h2).step h3).fits
 .exact W9
theorem A05 {m:Mo}{s:St}(h:FitS m s):TkOk (tkS s):=by
 have h1:=h.ll;have hn:=(LV h.me).num;refine⟨by simp [tkS,isL]; omega,fun x hx=>?_⟩;obtain⟨y,hy,rfl⟩:=zM.1 hx;have:=h.ok.l7 y hy;show y.length<=_;omega
theorem AXJ (m:Mo)(c:Cvr)(t:Tk)(env:List Sg):TkOk (ADR m c t env):=by
 unfold ADR;split
 .rename_i h
  obtain⟨h1,h2,h3⟩:=AGG h;exact A05 ((AC4 h1 h2).step h3)
 .exact AOM
def AAS (m:Mo):Cvr->Tk->List (List Sg)->Cvr×Int
 | c,_,[]=>(c,0)
 | c,t,e::r=>if RQ m c t e=0 then AAS m (ZJ m c t e) (ADR m c t e) r else (zV,RQ m c t e)
def rnR (m:Mo)(l:List (List Sg)):Cvr×Int:=if EY m=0 then AAS m (emV m) (X0 m) l else (zV,EY m)
theorem AKF (m:Mo):∀(l:List (List Sg)) (c:Cvr) (t:Tk),(AAS m c t l).2≠0->(AAS m c t l).1=zV
 | [],_,_,h=>absurd rfl h
 | e::r,c,t,h=>by
   unfold AAS at h|-
   split
   .rename_i h2
    rw[if_pos h2] at h;exact AKF m r _ _ h
   .rfl
theorem AXV {m:Mo}{l:List (List Sg)}(h:(rnR m l).2≠0):(rnR m l).1=zV:=by
 unfold rnR at h|-
 split
 .rename_i h2
  rw[if_pos h2] at h;exact AKF _ _ _ _ h
 .rfl
def rnW (m:Mo)(l:List (List Sg)):List AV:=if(rnR m l).2=0 then ER (rnR m l).1 else FD
theorem A1F (m:Mo)(l:List (List Sg)):CvR (.agg (rnW m l)) (.agg (ER (rnR m l).1)):=by
 unfold rnW;split
 .exact CvR.refl _
 .rename_i h
  rw[AXV h]; exact AJL
theorem AVM (m:Mo):CvOk (emV m):=by
 unfold emV;split
 .rename_i h
  exact XR (MO h)
 .exact W9
theorem AZB (m:Mo):TkOk (X0 m):=by
 unfold X0;split
 .rename_i h
  have hn:=(LV h).num;refine⟨by simp [zLs]; omega,fun x hx=>?_⟩;obtain⟨y,_,rfl⟩:=zM.1 hx;simp
 .exact AOM
structure Rr (h H:Hp) (m:Mo) (c:Cvr) (t:Tk) (b4 cb tb:Nat):Prop where
 gm:H[h.length]?=some (.live 2 [D5 m])
 g4:H[b4]?=some (.live 4 [FD])
 gc:H[cb]?=some (.live 4 [ER c])
 gt:H[tb]?=some (.live 1 [KL t])
 o1:h.length<b4
 o2:b4<cb
 o3:cb<tb
 hx:ext h H
theorem Rr.ext {h H H':Hp}{m:Mo}{c:Cvr}{t:Tk}{b4 cb tb:Nat}(R:Rr h H m c t b4 cb tb)(hx:Sm.ext H H'):Rr h H' m c t b4 cb tb:=⟨FP hx R.gm,FP hx R.g4,FP hx R.gc,FP hx R.gt,R.o1,R.o2,R.o3,R.hx.trans hx⟩
theorem Rr.setC {h H:Hp}{m:Mo}{c:Cvr}{t:Tk}{b4 cb tb:Nat}(R:Rr h H m c t b4 cb tb)(c':Cvr):Rr h (H.set cb (.live 4 [ER c'])) m c' t b4 cb tb:=by
 have o1:=R.o1; have o2:=R.o2; have o3:=R.o3;exact⟨CW R.gm (by omega),CW R.g4 (by omega),EC R.gc,CW R.gt (by omega),o1,o2,o3,R.hx.set (by omega) _⟩
theorem Rr.setT {h H:Hp}{m:Mo}{c:Cvr}{t:Tk}{b4 cb tb:Nat}(R:Rr h H m c t b4 cb tb)(t':Tk):Rr h (H.set tb (.live 1 [KL t'])) m c t' b4 cb tb:=by
 have o1:=R.o1; have o2:=R.o2; have o3:=R.o3;exact⟨CW R.gm (by omega),CW R.g4 (by omega),CW R.gc (by omega),EC R.gt,o1,o2,o3,R.hx.set (by omega) _⟩
set_option maxHeartbeats 4000000 in
theorem AZ2 (G:Nat->AV)(m:Mo)(hm:MoOk m)(l:List Ss)(s:SM)(h:Hp)(hl:l.length<=1048576)(he:∀x∈l,x.l.length<=1048576∧∀s∈x.l,ACS s) :
  PCall (En G) 49 [.agg (D5 m),.sl s 1 (l.map VI)] h (.tup [.agg (ER (rnR m (l.map Ss.l)).1),.int .i64 (rnR m (l.map Ss.l)).2]):=by
 refine PCall.res (r:=.tup [.agg (rnW m (l.map Ss.l)),.int .i64 (rnR m (l.map Ss.l)).2]) ?_ (CvR.tup (CvRL.cons (A1F _ _) (CvRL.refl _)));refine RV 3 (fun n H=>?_) ?_
 .unfold rnW
  split<;>rfl
 refine ND (H:=hint [37] []) (enM G) Tryz.func49 rfl (by kernel_rfl) (by kernel_rfl) (jH (by kernel_rfl)) ?_;show awp _ _ _ _ _ (EN _ [.cell 4 28,.tmp 5] _);have gm:=CU (x:=ABlk.live 4 [FD]) (CX h (ABlk.live 2 [D5 m]));have g4:=CX (h++[ABlk.live 2 [D5 m]]) (ABlk.live 4 [FD]);have hx:ext h (h++[ABlk.live 2 [D5 m]]++[ABlk.live 4 [FD]]):=((ext.rfl' h).app _).app _;have hb4:h.length<(h++[ABlk.live 2 [D5 m]]).length:=by simp
 simp -implicitDefEqProofs only[DC,jU,jJ,jO,jT,BC,BA,A8,AY,BB,AL,BD,AX,AC,AA,AZ,AU,BH,A7,EX,FU,BQ,BX,BF,↓reduceIte,jA,jB,jC,enP,D8,bxM,KF]
 generalize h++[ABlk.live 2 [D5 m]]++[ABlk.live 4 [FD]]=H0 at gm g4 hx|-
 generalize (h++[ABlk.live 2 [D5 m]]).length=b4 at g4 hb4|-
 have hlt:=CJ g4;simp -implicitDefEqProofs only[DC,jU,jJ,jO,jT,AY,AL,BD,AX,AC,AA,AZ,BZ,CB,BU,AB,jD,jE,jF,↓reduceIte,jB,jC,D8,ldM gm];refine(ASP G m hm H0).use ?_;obtain⟨s1,s2,g6,g7,hx5⟩:=AYQ H0 (emV m) (X0 m);have R0:Rr h _ m (emV m) (X0 m) b4 H0.length (H0++[ABlk.live 4 [FD]]).length:=⟨FP hx5 gm,FP hx5 g4,g6,g7,hb4,hlt,by simp,hx.trans hx5⟩;simp -implicitDefEqProofs only[zB,zG,DC,jU,jJ,jO,jT,BC,BA,BI,A8,AY,BB,AL,BD,AX,AC,EM,AA,AZ,AU,BH,BG,A7,EX,D6,BR,FK,GN,BX,AB,CY,EK,↓reduceIte,jA,jB,jC,enP,D8,jP,KF,VS,s1,s2]
 generalize ((H0++[ABlk.live 4 [FD]]++[ABlk.live 1 [FY]]).set H0.length (ABlk.live 4 [ER (emV m)])).set (H0++[ABlk.live 4 [FD]]).length (ABlk.live 1 [KL (X0 m)])=H5 at R0|-
 generalize (H0++[ABlk.live 4 [FD]]).length=tb at R0|-
 generalize H0.length=cb at R0|-
 clear s1 s2 g6 g7 hx5 gm g4 hx hlt;cases hb:(EY m==0)
 .have hne:EY m≠0:=by simpa using hb
  have hr:rnR m (l.map Ss.l)=(zV,EY m):=by unfold rnR; rw[if_neg hne]
  simp -implicitDefEqProofs only[EZ,DC,jU,jJ,jO,jT,BC,BA,BK,A8,CP,DI,AY,BB,AL,BD,AX,AC,EM,AA,AZ,BG,A7,IV,D6,AB,CY,↓reduceIte,jA,jB,jC,enP,D8,jP,bne,hb,QL,stZ R0.g4 rfl];rw[N9 (ba:=b4) (by simp -implicitDefEqProofs only[AA,↓reduceIte,jA]) (JI (EC R0.g4) rfl)];refine⟨?_,R0.hx.set (by omega) _⟩;unfold rnW;rw[hr];simp -implicitDefEqProofs only[AA,↓reduceIte];rw[if_neg hne]
 have h0:EY m=0:=by simpa using hb
 have hr0:rnR m (l.map Ss.l)=AAS m (emV m) (X0 m) (l.map Ss.l):=by unfold rnR; rw[if_pos h0]
 simp -implicitDefEqProofs only[DC,jU,jJ,jO,jT,BC,BP,BA,BO,A8,DR,AY,BB,AL,BD,AX,AC,AU,BH,A7,jB,jR,jC,D8,bne,hb]
 refine DK (fun n F H=>∃k c t,n+k=l.length∧F 1=.sl s 1 (l.map VI)∧F 2=.ptr h.length 0 0∧F 4=.ptr b4 0 0∧F 6=.ptr cb 0 0∧F 7=.ptr tb 0 0∧F 9=.int .i64 (k:Nat)∧Rr h H m c t b4 cb tb∧CvOk c∧TkOk t∧rnR m (l.map Ss.l)=AAS m c t ((l.drop k).map Ss.l)) l.length
  ⟨0,emV m,X0 m,by simp,by simp -implicitDefEqProofs only[AA,BF,BN,↓reduceIte,jA],by simp -implicitDefEqProofs only[AA,↓reduceIte,jA],by simp -implicitDefEqProofs only[AA,↓reduceIte,jA],by simp -implicitDefEqProofs only[AA,↓reduceIte,jA],by simp -implicitDefEqProofs only[AA,↓reduceIte,jA],by simp -implicitDefEqProofs only[AA,↓reduceIte]<;>rfl,R0,AVM m,AZB m,hr0⟩ ?_
 clear R0 hr0;rintro n F H ⟨k,c,t,hk,f1,f2,f4,f6,f7,f9,R,hcv,htk,hrun⟩;simp -implicitDefEqProofs only[DC,jU,jJ,jO,jT,BC,BA,BI,A8,AY,BB,AL,BD,AX,AC,AA,AZ,BG,BR,DZ,AB,CZ,↓reduceIte,jA,jB,jC,enP,AYN,D8,f1,f9,jI];refine CV (fun hc=>?_) (fun hc=>?_)
 .have hk':k<l.length:=by simpa using hc
  obtain⟨e1,e2⟩:=he _ (jQ hk');rw[List.drop_eq_getElem_cons hk',jD] at hrun;unfold AAS at hrun;obtain⟨s1,s2,g6,g7,hx5⟩:=AYQ H (ZJ m c t l[k].l) (ADR m c t l[k].l);have R5:=R.ext hx5;have hlt:=CJ R.gt;have o1:=R.o1; have o2:=R.o2; have o3:=R.o3;simp -implicitDefEqProofs only[BC,BP,BO,A8];refine AJC (fun F H'=>∃b10 b11,F 1=.sl s 1 (l.map VI)∧F 2=.ptr h.length 0 0∧F 4=.ptr b4 0 0∧F 6=.ptr cb 0 0∧F 7=.ptr tb 0 0∧F 9=.int .i64 (k:Nat)∧F 10=.ptr b10 0 0∧F 11=.ptr b11 0 0∧F 12=.int .i64 (RQ m c t l[k].l)∧H'[b10]?=some (.live 4 [ER (ZJ m c t l[k].l)])∧H'[b11]?=some (.live 1 [KL (ADR m c t l[k].l)])∧tb<b10∧tb<b11∧Rr h H' m c t b4 cb tb) (fun _ _=>False) ?_ ?_ (fun _ _ hh=>hh.elim)
  .refine AWE [] [0,1,2,3,4,5,6,7,8,9,10,11] 12 13 [14,15,16] (by kernel_rfl) trivial ?_
   simp only[PM,zG,zB];simp -implicitDefEqProofs only[F6,DC,jU,jJ,jO,jT,EH,DT,EI,FT,AHO,FH,EF,OU,GU,AR5,AA,AZ,BZ,EX,BQ,CE,FK,AB,jD,jE,jF,↓reduceIte,jA,jM,jB,enP,A3P,f1,f2,f6,f7,f9,ldM R.gm,ldV R.gc,ldT R.gt,DU hk',DF A2E hk',AVG];refine⟨_,fun x=>AOG G m hm c hcv t htk l[k].l l[k].m _ (by omega) e2,?_⟩
   try simp -implicitDefEqProofs only[F6,zB,zG,DC,jU,jJ,jO,jT,EH,DT,FB,EI,OU,AA,AZ,FK,GN,AB,↓reduceIte,jA,jM,jB]
   have e10:(H++[ABlk.live 4 [FD]]).length=H.length+1:=by simp
   have e11:(H++[ABlk.live 1 [FY]]).length=H.length+1:=by simp
   refine⟨?_,?_⟩
   .simp -implicitDefEqProofs only[F6,DC,jU,jJ,jO,jT,EH,DT,JZ,FB,EI,JW,AHO,JV,VH,AA,AZ,EX,D6,BX,CY,↓reduceIte,jA,jM,jG,jB,enP,jP,KF,VS,s1,s2]
    exact⟨_,_,by trivial,by trivial,by trivial,by trivial,by trivial,by trivial,by trivial,by trivial,by trivial,g6,g7,by omega,by omega,R.ext hx5⟩
   .have t1:FX Tryz.prog (H++[ABlk.live 1 [FY]]++[ABlk.live 4 [FD]]) 28 (.ptr (H++[ABlk.live 1 [FY]]).length 0 0) (.agg (ER (ZJ m c t l[k].l)))=some (H++[ABlk.live 1 [FY]]++[ABlk.live 4 [ER (ZJ m c t l[k].l)]]):=by
     rw[stV (CX _ _) rfl,O7]
    have t2:=stT (t:=ADR m c t l[k].l) (CU (x:=ABlk.live 4 [ER (ZJ m c t l[k].l)]) (CX H (ABlk.live 1 [FY]))) rfl;simp -implicitDefEqProofs only[F6,DC,jU,jJ,jO,jT,EH,DT,JZ,FB,EI,JW,AHO,JV,VH,AA,AZ,EX,D6,BX,CY,↓reduceIte,jA,jM,jG,jB,enP,jP,KF,VS,t1,t2];exact⟨_,_,by trivial,by trivial,by trivial,by trivial,by trivial,by trivial,by trivial,by trivial,by trivial,CW (CX _ _) (by omega),EC (CU (CX _ _)),by omega,by omega,R.ext ((((ext.rfl' H).app _).app _).set (jL _) _)⟩
  clear R f1 f2 f4 f6 f7 f9 s1 s2 g6 g7 hx5 R5 hlt;rintro F H6 ⟨b10,b11,f1,f2,f4,f6,f7,f9,f10,f11,f12,g6,g7,hb10,hb11,R5⟩;simp -implicitDefEqProofs only[DC,jU,jJ,jO,jT,BC,BA,BI,A8,AY,BB,AL,BD,AX,AC,AA,AZ,AU,BH,BG,BR,AB,EK,↓reduceIte,jB,jC,enP,D8,f12];cases hz:(RQ m c t l[k].l==0)
  .have hne:RQ m c t l[k].l≠0:=by simpa using hz
   rw[if_neg hne] at hrun;simp -implicitDefEqProofs only[EZ,DC,jU,jJ,jO,jT,BC,BA,BK,A8,CP,EE,FQ,DI,AY,BB,AL,BD,AX,AC,EM,AA,AZ,BG,A7,IV,D6,AB,CY,↓reduceIte,jA,jB,jC,enP,D8,jP,bne,hz,QL,f4,stZ R5.g4 rfl];rw[N9 (ba:=b4) (by simp -implicitDefEqProofs only[AA,↓reduceIte,jA,f4]) (JI (EC R5.g4) rfl)];refine⟨?_,R5.hx.set (by omega) _⟩;unfold rnW;rw[hrun];simp -implicitDefEqProofs only[AA,↓reduceIte];rw[if_neg hne,f12]
  .have hz0:RQ m c t l[k].l=0:=by simpa using hz
   rw[if_pos hz0] at hrun;have R6:=R5.setC (ZJ m c t l[k].l);have g72:(H6.set cb (.live 4 [ER (ZJ m c t l[k].l)]))[b11]?=_:=CW g7 (show b11≠cb by omega);have R7:=R6.setT (ADR m c t l[k].l);simp -implicitDefEqProofs only[DC,jU,jJ,jO,jT,BC,BA,BO,A8,EJ,EQ,DR,AY,BB,AL,BD,AX,AC,EM,AA,AZ,AU,BH,BG,A7,BQ,D6,BR,AB,CY,C9,↓reduceIte,jA,jB,jR,jC,enP,D8,jP,bne,hz,f6,f10,ldV g6,stV R5.gc rfl,f7,f11,ldT g72,stT R6.gt rfl,f9,wrap_succ (show k<9223372036854775807 by omega)];exact⟨n-1,by omega,k+1,_,_,by omega,by trivial,by trivial,by trivial,by trivial,by trivial,by trivial,R7,AOX _ _ _ _,AXJ _ _ _ _,hrun⟩
 .have hk':¬k<l.length:=by simpa using hc
  rw[jW (by omega)] at hrun;have hr:rnR m (l.map Ss.l)=(c,0):=hrun;have o1:=R.o1;simp -implicitDefEqProofs only[DC,jU,jJ,jO,jT,BC,BA,BK,DJ,A8,EG,EU,ET,AY,BB,AL,BD,AX,AC,EM,AA,AZ,AU,BH,A7,BQ,D6,AB,CY,↓reduceIte,jA,jB,jC,enP,D8,jP,f4,f6,ldV R.gc,stV R.g4 rfl];rw[N9 (ba:=b4) (by simp -implicitDefEqProofs only[AA,↓reduceIte,jA,f4]) (ldV (EC R.g4))];refine⟨?_,R.hx.set (by omega) _⟩;unfold rnW;rw[hr];simp -implicitDefEqProofs only[AA,↓reduceIte]
theorem AZF (c:Cvr)(t:Tk):OA (cvS (stO c t))=OA c:=by
 unfold OA cvS stO;simp only[SN]
theorem AYT (P:List (List Int)):(isL P).map Is.l=P:=by unfold isL; rw[List.map_map]; exact List.map_id _
theorem A08 (s:St):stO (cvS s) (tkS s)=s:=by
 cases s with
 | mk P C a b ls =>
   unfold stO cvS tkS;simp only[AYT];congr 1
   .exact SN P
   .exact SN C
theorem AO3 (m:Mo):∀(l:List (List Sg)) (c:Cvr) (t:Tk),G5 m c=true->ACJ m t=true ->
  OA (AAS m c t l).1=OA (if(PI m (stO c t) l).1=0 then cvS (PI m (stO c t) l).2 else zV)∧(AAS m c t l).2=(PI m (stO c t) l).1
 | [],c,t,_,_=>by
   refine⟨?_,rfl⟩;show OA c=OA (if(0:Int)=0 then cvS (stO c t) else zV);rw[if_pos rfl,AZF]
 | e::r,c,t,hc,ht=>by
   have hF:=AC4 hc ht;have h0:=hF.me;have hE:RQ m c t e=RP m (stO c t) e:=by unfold RQ; rw[if_pos h0,if_pos (by rw[hc,ht]; rfl)]
   unfold AAS PI;rw[hE];rcases Classical.em (RP m (stO c t) e=0) with hz|hz
   .have hnz:¬RP m (stO c t) e≠0:=fun q=>q hz
    simp only[if_pos hz,if_neg hnz];have hn:=hF.step hz;have ih:=AO3 m r (cvS (stp m (stO c t) e)) (tkS (stp m (stO c t) e)) hn.fits hn.trk;rw[A08] at ih;unfold ZJ ADR;rw[hE,if_pos hz,if_pos hz];exact ih
   .have hnz:RP m (stO c t) e≠0:=hz
    simp only[if_neg hz,if_pos hnz];exact⟨trivial,trivial⟩
theorem A13 {m:Mo}(h:EY m=0):ACJ m (X0 m)=true:=by
 unfold X0 ACJ;rw[if_pos h];simp [h,zLs];intro _ _;rfl
theorem AZA {m:Mo}(h:EY m=0):G5 m (emV m)=true:=by
 unfold emV;rw[if_pos h];exact MO h
theorem A07 {m:Mo}(h:EY m=0):stO (emV m) (X0 m)=zS m:=by
 unfold stO emV X0 zS;rw[if_pos h,if_pos h];congr 1
 .simp [JJ,zPs,zP,zIs]
 .simp [JJ,zCs,zC,zIs]
 .show(zLs m).map Is.l=_
  unfold zLs;rw[List.map_map];exact List.map_const' ..
theorem ATO (m:Mo)(l:List (List Sg)):OA (rnR m l).1=OA (QW m l)∧(rnR m l).2=MF m l:=by
 unfold rnR QW MF;rcases Classical.em (EY m=0) with h|h
 .rw[if_pos h,if_pos h]
  have:=AO3 m l (emV m) (X0 m) (AZA h) (A13 h);rw[A07 h] at this;refine⟨?_,this.2⟩;rw[this.1];rcases Classical.em ((PI m (zS m) l).1=0) with h2|h2
  .rw[if_pos h2,if_pos ⟨h,h2⟩]
  .rw[if_neg h2,if_neg (fun q=>h2 q.2)]
 .rw[if_neg h,if_neg h,if_neg (fun q=>h q.1)]
  exact⟨rfl,rfl⟩
theorem AKD {m:Mo}:∀ {l:List (List Sg)} {s:St},FitS m s->(PI m s l).1=0->FitS m (PI m s l).2
 | [],_,h,_=>h
 | e::r,s,h,h0=>by
   unfold PI at h0|-
   split
   .rename_i hn
    rw[if_pos hn] at h0;exact absurd h0 hn
   .rename_i hn
    rw[if_neg hn] at h0;exact AKD (h.step (Classical.byContradiction hn)) h0
theorem AO2 (m:Mo):∀(l:List (List Sg)) (c:Cvr) (t:Tk),CvOk c->CvOk (AAS m c t l).1
 | [],_,_,h=>h
 | e::r,c,t,_=>by
   unfold AAS;split
   .exact AO2 m r _ _ (AOX _ _ _ _)
   .exact W9
theorem A1G (m:Mo)(l:List (List Sg)):CvOk (rnR m l).1:=by
 unfold rnR;split
 .exact AO2 _ _ _ _ (AVM m)
 .exact W9
theorem XC (h:Hp)(v:Cvr):FX Tryz.prog (h++[.live 4 [FD]]) 28 (.ptr h.length 0 0) (.agg (ER v))=some (h++[.live 4 [ER v]]):=by rw[stV (CX _ _) rfl,O7]
section
variable (G:Nat->AV)
end
end Go.Proofs.YtocilianjfhifaaGreatDoor.Xe
namespace Go.Proofs.YtocilianjfhifaaGreatDoor.Xe
open Sm Bins Cov Go.RowKit
open Nat renaming le_trans→zY
theorem A38:Tryz.prog.cellsOf 187=2:=by kernel_rfl
theorem A5Z:Tryz.prog.cellsOf 58=1:=by kernel_rfl
theorem A5Y:Tryz.prog.cellsOf 64=1:=by kernel_rfl
def A3A (s:Sg)(_:Nat):Prop:=ACS s
theorem A5O:Rd Tryz.prog 187 HY A3A:=by
 intro n
 match n with
 | 0=>exact RdAt.zero
 | 1=>exact AHY Tryz.underlying187
 | n+2 =>
   refine RdAt.map (fun x:ByteArray×Int×Unit=>((x.1,x.2.1):Sg)) (PQ Tryz.underlying187 (JQ rfl cl9 (fun _=>rfl) (rdStr _) (JQ rfl cl3 (fun _=>rfl) (rdI _) U5))) (fun _=>rfl) ?_;rintro⟨a,b,_⟩ N ⟨_,_,_,_,_,_,_,_,_,h2,_⟩;exact h2
def AX1 (x:Ss)(b:Nat):Prop:=okL A3A x.l b
theorem A5N:Rd Tryz.prog 58 VI AX1:=by
 intro n
 cases n with
 | zero=>exact RdAt.zero
 | succ n=>exact RdAt.map (fun x:SM×List Sg=>(⟨x.1,x.2⟩:Ss)) (NK Tryz.underlying58 A38 (by decide) AG1 (A5O n)) (fun _=>rfl) (fun x b h=>TR h)
theorem AXH {x:Ss}{b:Nat}(h:AX1 x b)(hb:b<=1048576):x.l.length<=1048576∧∀s∈x.l,ACS s:=by
 refine⟨zY (okL.length h) hb,fun s hs=>?_⟩;obtain⟨_,_,h2⟩:=okL.each h s hs;exact h2
structure Rn where
 m:SM
 l:List Ss
def A5S (x:Rn)(b:Nat):Prop:=okL AX1 x.l b
theorem AXW {x:Rn}{b:Nat}(h:A5S x b)(hb:b<=1048576):x.l.length<=1048576∧∀y∈x.l,y.l.length<=1048576∧∀s∈y.l,ACS s:=by
 refine⟨zY (okL.length h) hb,fun y hy=>?_⟩;obtain⟨b1,h1,h2⟩:=okL.each h y hy;exact AXH h2 (by omega)
end Go.Proofs.YtocilianjfhifaaGreatDoor.Xe
namespace Go.Proofs.YtocilianjfhifaaGreatDoor.Xe
open Sm Bins Cov Wd Go.RowKit
open Bool renaming not_false→jC,not_true→jR,false_eq_true→jY
open List renaming take_succ_eq_append_getElem→zL,getElem_of_mem→qK,getElem_mem→jQ,mem_map→zM,getD_eq_getElem?_getD→zN,getElem?_eq_getElem→jS,length_map→jI,length_take→zD,map_append→wI,take_of_length_le→jX,map_cons→jD,map_nil→jE,append_nil→jF,getElem?_cons_zero→zB,getElem?_cons_succ→zG,drop_zero→qE,length_append→zW,contains_nil→jJ,mem_append→qC
open Nat renaming le_of_ble_eq_true→jH,reduceEqDiff→jA,le_refl→jL,zero_add→jG,le_trans→zY,reduceBEq→jO
open Option renaming getD_some→jB,getD_none→jP
def stK (m:Mo)(l:List (List Sg))(k:Nat):St:=(l.take k).foldl (stp m) (zS m)
theorem ADP (m:Mo){l:List (List Sg)}{k:Nat}(hk:k<l.length):stK m l (k+1)=stp m (stK m l k) l[k]:=by
 unfold stK;rw[zL hk,List.foldl_append]; rfl
theorem AKE (m:Mo):∀(l:List (List Sg)) (s:St),(PI m s l).1=0->(PI m s l).2=l.foldl (stp m) s∧∀(k:Nat) (hk:k<l.length),RP m ((l.take k).foldl (stp m) s) l[k]=0
 | [],s,_=>⟨rfl,fun k hk=>by simp at hk⟩
 | e::r,s,h=>by
   have hz:RP m s e=0:=Classical.byContradiction fun hn=>by
    unfold PI at h;rw[if_pos hn] at h;exact hn h
   have hr:PI m s (e::r)=PI m (stp m s e) r:=by
    show(if RP m s e≠0 then (RP m s e,s) else PI m (stp m s e) r)=_;rw[if_neg (fun q=>q hz)]
   rw[hr] at h|-
   obtain⟨h1,h2⟩:=AKE m r (stp m s e) h;refine⟨h1,fun k hk=>?_⟩
   cases k with
   | zero=>exact hz
   | succ k=>exact h2 k (by simpa using hk)
structure RunOk (m:Mo) (l:List (List Sg)):Prop where
 me:EY m=0
 eq:(PI m (zS m) l).2=stK m l l.length
 e0:(PI m (zS m) l).1=0
 er:∀(k:Nat) (hk:k<l.length),RP m (stK m l k) l[k]=0
theorem ATL {m:Mo}{l:List (List Sg)}(h:MF m l=0):RunOk m l:=by
 unfold MF at h;split at h
 .rename_i hm
  obtain⟨h1,h2⟩:=AKE m l (zS m) h;refine⟨hm,?_,h,h2⟩;rw[h1];unfold stK;rw[List.take_length]
 .rename_i hm; exact absurd h hm
theorem RunOk.fit {m:Mo}{l:List (List Sg)}(h:RunOk m l):∀k,k<=l.length->FitS m (stK m l k)
 | 0,_=>ASW h.me
 | k+1,hk=>by
   rw[ADP m (by omega)];exact(h.fit k (by omega)).step (h.er k (by omega))
theorem RunOk.val {m:Mo}{l:List (List Sg)}(h:RunOk m l):QW m l=cvS (stK m l l.length):=by
 unfold QW;rw[if_pos ⟨h.me,h.e0⟩,h.eq]
structure Bd (k:Nat) (s:St):Prop where
 P:∀xs∈s.P,∀x∈xs,x<=(k:Int)
 C:∀xs∈s.C,∀x∈xs,x<=(k:Int)
 sam:s.sam=(k:Int)
 ill:s.ill<=(k:Int)
theorem ATI (n:Int):rz n<=n+1:=by unfold rz; omega
theorem A25 {n:Int}(h:n<1099511627776):rz n=n+1:=by unfold rz; omega
theorem Bd.step {m:Mo}{s:St}{k:Nat}(h:Bd k s)(hok:StOk m s)(hk:k<1099511627776)(env:List Sg):Bd (k+1) (stp m s env):=by
 have hr:=UG m s.ls env hok.ll;have hpl:=hok.sh.pl;have hcl:=hok.sh.cl;have l1:=UC (OQ m s.ls env) s.P (by omega);have l2:=VZ m ((OQ m s.ls env).map PtR.hit) s.C hcl;refine⟨fun xs hx x hxx=>?_,fun xs hx x hxx=>?_,?_,?_⟩
 .obtain⟨i,hi,rfl⟩:=qK (show xs∈LX (OQ m s.ls env) s.P from hx)
  have hi':i<s.P.length:=by omega
  have him:i<m.pts.length:=by omega
  rw[UD _ _ i (by omega) hi'] at hxx;obtain⟨j,hj,rfl⟩:=qK hxx;rw[QE] at hj;have hg:=ZM m s.ls env i him (by rw[hok.ll]; exact him) (by omega);have hpe:=hok.sh.pe i hi' him;rw[<-getD_at _ j (by rw[QE]; exact hj),XF j _ _ (by rw[hg]; exact AAV _ _ _) (fun x hx=>by rw[hg] at hx; rw[hpe]; exact AH0 _ _ _ x hx)];have hb:=h.P _ (jQ hi') _ (jQ hj);rw[getD_at _ j hj];have:=ATI (s.P[i][j]);split<;>omega
 .obtain⟨i,hi,rfl⟩:=qK (show xs∈NJ m ((OQ m s.ls env).map PtR.hit) s.C from hx)
  have hi':i<s.C.length:=by omega
  rw[V3 m _ _ i (by omega) hi'] at hxx;obtain⟨j,hj,rfl⟩:=qK hxx;have hj':=hj;rw[QG] at hj';rw[ADZ m _ _ _ j hj' hj];have hb:=h.C _ (jQ hi') _ (jQ hj');have:=ATI (s.C[i][j]);split<;>omega
 .show rz s.sam=_
  rw[h.sam,A25 (by omega)]; omega
 .have:=h.ill
  have h2:=ATI s.ill;unfold stp
  dsimp only
  split<;>omega
theorem A2L (m:Mo):Bd 0 (zS m):=by
 refine⟨fun xs hx x hxx=>?_,fun xs hx x hxx=>?_,rfl,Int.le_refl _⟩
 .obtain⟨p,_,rfl⟩:=zM.1 hx
  have:x=0:=List.eq_of_mem_replicate hxx;subst this; decide
 .obtain⟨p,_,rfl⟩:=zM.1 hx
  have:x=0:=List.eq_of_mem_replicate hxx;subst this; decide
theorem RunOk.bd {m:Mo}{l:List (List Sg)}(h:RunOk m l)(hl:l.length<=1048576):∀k,k<=l.length->Bd k (stK m l k)
 | 0,_=>A2L m
 | k+1,hk=>by
   rw[ADP m (by omega)];exact(h.bd hl k (by omega)).step (h.fit k (by omega)).ok (by omega) _
def rsK (m:Mo)(l:List (List Sg))(k:Nat):List PtR:=OQ m (stK m l k).ls (l.getD k [])
theorem ATM (m:Mo){l:List (List Sg)}{k:Nat}(hk:k<l.length):rsK m l k=OQ m (stK m l k).ls l[k]:=by
 unfold rsK;rw[zN,jS hk]; rfl
section
variable {m:Mo} {l:List (List Sg)} (R:RunOk m l)
include R
theorem RunOk.rl {k:Nat}(hk:k<l.length):(rsK m l k).length=m.pts.length:=by
 rw[ATM m hk];exact UG m _ _ (R.fit k (by omega)).ll
theorem RunOk.pl (k:Nat)(hk:k<=l.length):(stK m l k).P.length=m.pts.length:=(R.fit k hk).ok.sh.pl
theorem RunOk.row {k i:Nat}(hk:k<l.length)(hi:i<m.pts.length):(stK m l (k+1)).P.getD i []=rowP ((rsK m l k)[i]'(by rw[R.rl hk]; exact hi)).hit ((stK m l k).P.getD i []):=by
 have h1:=R.rl hk;have h2:=R.pl k (by omega);rw[ADP m hk];unfold stp
 dsimp only
 rw[<-ATM m hk];have hs:=UC (rsK m l k) (stK m l k).P (by omega);rw[zN,jS (by omega),UD _ _ i (by omega) (by omega),zN,jS (by omega)]; rfl
end
structure Tt where
 m:SM
 l:List Ss
def L9 (x:Tt):List AV:=[.sl x.m 1 (x.l.map VI)]
theorem AI0 (x:Tt):(L9 x)[0]?=some (.sl x.m 1 (x.l.map VI)):=rfl
theorem A3T:Frz L9:=fun _ _ _ _=>⟨rfl,rfl⟩
def Tt.ls (x:Tt):List (List Sg):=x.l.map Ss.l
def AR0 (x:Tt):Tt:=⟨AVW x.m (min x.l.length 20) x.l.length,x.l.take (min x.l.length 20)⟩
def AI5 (l:List Tt):List Tt:=(l.take (min l.length 5)).map AR0
structure TtOk (x:Tt):Prop where
 n:x.l.length<=1048576
 e:∀y∈x.l,y.l.length<=1048576∧∀s∈y.l,ACS s
theorem ALV (l:List Tt):(AI5 l).length<=5:=by
 unfold AI5;rw[jI,zD]; omega
theorem AQB {l:List Tt}(h:∀x∈l,TtOk x):∀x∈AI5 l,TtOk x:=fun x hx=>by
 obtain⟨y,hy,rfl⟩:=zM.1 hx;have:=h y (List.mem_of_mem_take hy);exact⟨by show(y.l.take _).length<=_; rw[zD]; have:=this.n; omega,fun z hz=>this.e z (List.mem_of_mem_take hz)⟩
theorem ALW {l:List Tt}:∀x∈AI5 l,x.l.length<=20:=fun x hx=>by
 obtain⟨y,hy,rfl⟩:=zM.1 hx;show(y.l.take _).length<=_;rw[zD]; omega
theorem AV4 (h:Hp)(s:SM)(xs:List (List AV)):FO Tryz.prog false h 96 1 [(0,.sl s 1 xs)]=some (.sl .full 1 [[.sl s 1 xs]],h):=by kernel_rfl
section
variable (G:Nat->AV)
theorem AQA (l:List Tt)(s:SM)(h:Hp)(hn:l.length<=1048576)(hl:∀x∈l,x.l.length<=1048576):PCall (En G) 77 [.sl s 1 (l.map L9)] h (.sl (nm (AI5 l)) 1 ((AI5 l).map L9)):=by
 refine N7 A3T ?_;refine acN Tryz.func77 rfl ?_;show awp _ _ _ _ _ (EN _ [.tmp 2] _);have e1:min ((l.length:Nat):Int) 5=((min l.length 5:Nat):Int):=by omega
 simp -implicitDefEqProofs only[Option.map_some,Option.map_none,BC,BP,BA,A8,AY,BB,AO,AQ,AL,BD,AX,AC,AA,AZ,AU,BH,IY,BG,A7,UZ,DZ,AF9,AB,AAY,BF,↓reduceIte,jA,jB,jC,enP,AYM,jI,e1,A0I AQN AMI (h:=h) (m:=s) (kk:=.i64) (xs:=l.map L9) (u:=min l.length 5) (by simp; omega),<-List.map_take];show _;unfold AI5;have hl':∀x∈l.take (min l.length 5),x.l.length<=1048576:=fun v hv=>hl v (List.mem_of_mem_take hv)
 have hn':(l.take (min l.length 5)).length<=1048576:=by rw[zD]; omega
 generalize l.take (min l.length 5)=xs at hl' hn'|-
 generalize AVW s (min l.length 5) l.length=s';clear e1
 refine DK (fun n F H=>∃k u,n+k=xs.length∧F 10=.sl s' 1 (xs.map L9)∧F 11=.int .i64 (xs.length:Nat)∧F 3=u∧F 12=.int .i64 (k:Nat)∧ext h H∧outG 1 L9 h ((xs.take k).map AR0) u H) xs.length
  ⟨0,.sl .nil 0 [],by simp,by simp -implicitDefEqProofs only[AA,↓reduceIte,jA],by simp -implicitDefEqProofs only[AA,↓reduceIte,jA,jI],by simp -implicitDefEqProofs only[AA,↓reduceIte,jA],by simp -implicitDefEqProofs only[AA,↓reduceIte]<;>rfl,ext.rfl' _,outG.nil _ _ _ _⟩ ?_
 rintro n F H ⟨k,u,hk,f10,f11,f3,f12,hx,ho⟩;simp -implicitDefEqProofs only[BC,BA,BI,A8,AY,BB,AO,AQ,AL,BD,AX,AC,AA,AZ,BR,AB,CZ,↓reduceIte,jB,jC,enP,f11,f12];refine CV (fun hc=>?_) (fun hc=>?_)
 .have hk':k<xs.length:=by simpa using hc
  obtain⟨u',H3,ha,ho2,_,hx2,_,_⟩:=ho.append (P:=Tryz.prog) AQN AMI A00 A17 (by omega) (by simp<;>omega) hx (AR0 xs[k]);have ha':G8 Tryz.prog true H 96 96 u (.sl .full 1 [[.sl (AVW xs[k].m (min xs[k].l.length 20) xs[k].l.length) 1 ((xs[k].l.take (min xs[k].l.length 20)).map VI)]])=some (u',H3):=ha;have e:(xs.take k).map AR0++[AR0 xs[k]]=(xs.take (k+1)).map AR0:=by rw[zL hk',wI]; rfl
  rw[e] at ho2;have e2:min ((xs[k].l.length:Nat):Int) 20=((min xs[k].l.length 20:Nat):Int):=by omega
  have hsl:=A0I A5I A2R (h:=H) (m:=xs[k].m) (kk:=.i64) (xs:=xs[k].l.map VI) (u:=min xs[k].l.length 20) (by simp; omega);rw[<-List.map_take,jI] at hsl;simp -implicitDefEqProofs only[Option.map_some,Option.map_none,EZ,FW,BC,BP,BA,BO,A8,EJ,EQ,AY,BB,AO,AQ,AL,BD,AX,AC,AA,AZ,AU,BH,BG,A7,EP,BQ,BR,UZ,CE,DZ,AF9,GR,BX,AB,C9,AAY,↓reduceIte,jA,jB,jC,enP,AYN,AYS,f10,f3,f12,DU hk',DF AZZ hk',AI0,jI,e2,hsl,AV4,ha',wrap_succ (show k<9223372036854775807 by omega)];exact⟨n-1,by omega,k+1,u',by omega,by trivial,by trivial,by trivial,by trivial,hx2,ho2⟩
 .have hk':¬k<xs.length:=by simpa using hc
  rw[jX (by omega)] at ho;simp -implicitDefEqProofs only[BC,BA,BK,DJ,A8,EG,EU,ET,CG,AY,BB,AO,AQ,AL,BD,AX,AC,AA,AZ,BG,A7,↓reduceIte,jA,jB,jC,f3];exact⟨hx,ho⟩
end
def mgR (m:Mo):Cvr->List (List (List Sg))->Cvr×Int
 | c,[]=>(c,0)
 | c,x::r=>if MF m x≠0 then (zV,MF m x) else mgR m (SS c (QW m x)) r
def JE (m:Mo)(l:List (List (List Sg))):Cvr×Int:=if EY m=0 then mgR m (JJ m) l else (zV,EY m)
def rwM (v:Cvr×Int):List AV:=if v.2=0 then ER v.1 else FD
theorem XE {m:Mo}{l:List (List Sg)}(h0:EY m=0)(h:MF m l=0):G5 m (QW m l)=true:=by
 unfold MF at h;rw[if_pos h0] at h;unfold QW;rw[if_pos ⟨h0,h⟩];exact(AKD (ASW h0) h).fits
theorem APK {m:Mo}:∀ {l:List (List (List Sg))} {c:Cvr},(mgR m c l).2≠0->(mgR m c l).1=zV
 | [],_,h=>absurd rfl h
 | x::r,c,h=>by
   unfold mgR at h|-
   split
   .rfl
   .rename_i hq
    rw[if_neg hq] at h;exact APK h
theorem AKY {m:Mo}{l:List (List (List Sg))}(h:(JE m l).2≠0):(JE m l).1=zV:=by
 unfold JE at h|-
 split
 .rename_i hq
  rw[if_pos hq] at h;exact APK h
 .rfl
theorem A1E {v:Cvr×Int}(hb:v.2≠0->v.1=zV):CvR (.tup [.agg (rwM v),.int .i64 v.2]) (.tup [.agg (ER v.1),.int .i64 v.2]):=by
 unfold rwM;split
 .exact CvR.refl _
 .rename_i h
  rw[hb h];exact CvR.tup (CvRL.cons AJL (CvRL.refl _))
theorem AXR (v:Cvr×Int)(n:Nat)(H:Hp):IX n H 3 (.tup [.agg (rwM v),.int .i64 v.2])=.tup [.agg (rwM v),.int .i64 v.2]:=by
 unfold rwM; split<;>rfl
theorem AD8 {m:Mo}(h0:EY m=0):∀ {l:List (List (List Sg))} {c:Cvr},G5 m c=true->(mgR m c l).2=0->G5 m (mgR m c l).1=true
 | [],_,hc,_=>hc
 | x::r,c,hc,h=>by
   unfold mgR at h|-
   split
   .rename_i hq
    rw[if_pos hq] at h;exact absurd h hq
   .rename_i hq
    rw[if_neg hq] at h;exact AD8 h0 (UL hc (XE h0 (Classical.byContradiction hq))) h
theorem XJ {m:Mo}{l:List (List (List Sg))}(h:(JE m l).2=0):G5 m (JE m l).1=true:=by
 unfold JE at h|-
 split
 .rename_i hq
  rw[if_pos hq] at h;exact AD8 hq (MO hq) h
 .rename_i hq
  rw[if_neg hq] at h;exact absurd h hq
theorem AC1 (m:Mo)(l:List (List (List Sg))):CvOk (JE m l).1:=by
 rcases Classical.em ((JE m l).2=0) with h|h
 .exact XR (XJ h)
 .rw[AKY h]; exact W9
theorem A2A (h:Hp)(a:Cvr):FO Tryz.prog false h 37 1 [(0,.agg (ER a))]=some (.sl .full 4 ([a].map ER),h):=by
 exact(by kernel_rfl:FO Tryz.prog false h 37 1 [(0,.agg [.sl a.pm 1 (a.pts.map encL),.sl a.cm 1 (a.crs.map encL),.int .i64 a.sam,.int .i64 a.ill])]=_)
set_option maxHeartbeats 2000000 in
theorem XX (G:Nat->AV)(hG:GOk G)(hT:OB G)(m:Mo)(hm:MoOk m)(l:List Tt)(s:SM)(h:Hp)(hl:l.length<=1048576)(he:∀x∈l,TtOk x) :
  PCall (En G) 78 [.agg (D5 m),.sl s 1 (l.map L9)] h (.tup [.agg (ER (JE m (l.map Tt.ls)).1),.int .i64 (JE m (l.map Tt.ls)).2]):=by
 refine PCall.res ?_ (A1E AKY);refine RV 3 (AXR _) ?_;refine acN Tryz.func78 rfl ?_;show awp _ _ _ _ _ (EN _ [.cell 4 28,.tmp 5] _);have gm:(h++[ABlk.live 2 [D5 m]]++[ABlk.live 4 [FD]])[h.length]?=some (ABlk.live 2 [D5 m]):=CU (CX _ _);have g4:(h++[ABlk.live 2 [D5 m]]++[ABlk.live 4 [FD]])[(h++[ABlk.live 2 [D5 m]]).length]?=some (ABlk.live 4 [FD]):=CX _ _;have o4:h.length<(h++[ABlk.live 2 [D5 m]]).length:=by simp
 have hx:ext h (h++[ABlk.live 2 [D5 m]]++[ABlk.live 4 [FD]]):=((ext.rfl' h).app _).app _;simp -implicitDefEqProofs only[BC,BA,A8,AY,BB,AO,AQ,AL,BD,AX,AC,AA,AZ,AU,BH,A7,EX,FU,BQ,BX,BF,↓reduceIte,jA,jB,jC,enP,bxM,KF]
 generalize h++[ABlk.live 2 [D5 m]]++[ABlk.live 4 [FD]]=H0 at gm g4 hx|-
 generalize (h++[ABlk.live 2 [D5 m]]).length=b4 at g4 o4|-
 obtain⟨s1,s2,E⟩:=A3N (emV m) (emT m) gm g4 o4 hx;have l4:=CJ g4;simp -implicitDefEqProofs only[AY,AO,AQ,AL,BD,AX,AC,AA,AZ,BZ,CB,BU,AB,jD,jE,jF,↓reduceIte,jB,jC,ldM gm];refine(AFS G hG m hm _).use ?_;simp -implicitDefEqProofs only[zB,zG,BC,BA,BI,A8,AY,BB,AO,AQ,AL,BD,AX,AC,EM,AA,AZ,AU,BH,BG,A7,EX,D6,BR,FK,GN,BX,AB,CY,EK,↓reduceIte,jA,jB,jC,enP,jP,KF,VS,s1,s2,bne]
 generalize ((H0++[ABlk.live 4 [FD]]++[ABlk.live 1 [FY]]).set H0.length (ABlk.live 4 [ER (emV m)])).set (H0++[ABlk.live 4 [FD]]).length (ABlk.live 1 [KL (emT m)])=H1 at E|-
 generalize H0.length=b6 at E l4|-
 clear s1 s2 gm g4 hx;cases h1:(EY m==0)
 .have h1':EY m≠0:=by simpa using h1
  have hne:JE m (l.map Tt.ls)=(zV,EY m):=by unfold JE; rw[if_neg h1']
  simp -implicitDefEqProofs only[EZ,BC,BA,BK,A8,CP,DI,AY,BB,AO,AQ,AL,BD,AX,AC,EM,AA,AZ,BG,A7,IV,D6,AB,CY,↓reduceIte,jA,jB,jC,enP,jP,QL,stZ E.g4 rfl];rw[N9 (ba:=b4) (by simp -implicitDefEqProofs only[AA,↓reduceIte,jA]) (JI (EC E.g4) rfl)];exact⟨by simp -implicitDefEqProofs only[AA,↓reduceIte,hne]; unfold rwM; rw[if_neg h1'],E.hx.set (by omega) _⟩
 have h1':EY m=0:=by simpa using h1
 have hem:emV m=JJ m:=by unfold emV; rw[if_pos h1']
 rw[hem] at E;have o6:=E.o6;have l6:=CJ E.g6;have E9:Al h (H1++[ABlk.live 4 [ER (JJ m)]]) m (JJ m) b4 H1.length:=⟨FZ E.gm,FZ E.g4,CX _ _,E.o4,by omega,E.hx.app _⟩;simp -implicitDefEqProofs only[BC,BP,BA,BO,A8,DR,AY,BB,AO,AQ,AL,BD,AX,AC,EM,AA,AZ,AU,BH,BG,EX,BQ,D6,DZ,BX,AB,CY,BF,BN,↓reduceIte,jA,jB,jR,jC,enP,AYM,jP,ldV E.g6,KF,AAP,jI]
 generalize H1++[ABlk.live 4 [ER (JJ m)]]=H2 at E9|-
 generalize H1.length=b9 at E9|-
 have hmR:JE m (l.map Tt.ls)=mgR m (JJ m) ((l.drop 0).map Tt.ls):=by unfold JE; rw[if_pos h1',qE]
 refine DK (fun n F H=>∃i c,n+i=l.length∧F 2=.ptr h.length 0 0∧F 4=.ptr b4 0 0∧F 9=.ptr b9 0 0∧F 25=.sl s 1 (l.map L9)∧F 26=.int .i64 (l.length:Nat)∧F 27=.int .i64 (i:Nat)∧Al h H m c b4 b9∧G5 m c=true∧JE m (l.map Tt.ls)=mgR m c ((l.drop i).map Tt.ls)) l.length
  ⟨0,JJ m,by simp,by simp -implicitDefEqProofs only[AA,↓reduceIte,jA],by simp -implicitDefEqProofs only[AA,↓reduceIte,jA],by simp -implicitDefEqProofs only[AA,↓reduceIte,jA],by simp -implicitDefEqProofs only[AA,↓reduceIte,jA],by simp -implicitDefEqProofs only[AA,↓reduceIte,jA],by simp -implicitDefEqProofs only[AA,↓reduceIte]<;>rfl,E9,MO h1',hmR⟩ ?_
 clear E E9 hmR;rintro n F H ⟨i,c,hi,f2,f4,f9,f25,f26,f27,E,hc,hrun⟩;simp -implicitDefEqProofs only[BC,BA,BI,A8,AY,BB,AO,AQ,AL,BD,AX,AC,AA,AZ,BR,AB,CZ,↓reduceIte,jB,jC,enP,f26,f27];refine CV (fun hcc=>?_) (fun hcc=>?_)
 .have hi':i<l.length:=by simpa using hcc
  rw[List.drop_eq_getElem_cons hi',jD] at hrun;have hxi:=he _ (jQ hi');simp -implicitDefEqProofs only[BC,BP,BA,BO,A8,AY,BB,AO,AQ,AL,BD,AX,AC,AA,AZ,BZ,BG,A7,BQ,CE,CB,BU,AB,jD,jE,jF,↓reduceIte,jA,jB,jC,enP,AYS,f25,f27,DU hi',DF AZZ hi',AI0,f2,ldM E.gm];refine(AWW G hG hT m hm l[i].l l[i].m H hxi.n (fun x hx=>(hxi.e x hx).1)).use ?_;have E1:=E.app [ABlk.live 4 [ER (QW m (l[i].l.map Ss.l))]];have gT:=ldV (CX H (ABlk.live 4 [ER (QW m (l[i].l.map Ss.l))]));have o4':=E.o4;cases hb:(MF m (l[i].l.map Ss.l)==0)
  .have hb':MF m (l[i].l.map Ss.l)≠0:=by simpa using hb
   have hr:JE m (l.map Tt.ls)=(zV,MF m (l[i].l.map Ss.l)):=by
    rw[hrun];show(if MF m (l[i].l.map Ss.l)≠0 then (zV,MF m (l[i].l.map Ss.l)) else _)=_;rw[if_pos hb']
   simp -implicitDefEqProofs only[zB,zG,EZ,BC,BA,BK,BI,A8,CP,EE,FQ,DI,AY,BB,AO,AQ,AL,BD,AX,AC,EM,AA,AZ,AU,BH,BG,A7,EX,IV,D6,BR,FK,GN,BX,AB,CY,EK,↓reduceIte,jA,jB,jC,enP,jP,KF,AAP,bne,hb,QL,f4,stZ E1.g4 rfl];rw[N9 (ba:=b4) (by simp -implicitDefEqProofs only[AA,↓reduceIte,jA,f4]) (JI (EC E1.g4) rfl)];exact⟨by simp -implicitDefEqProofs only[AA,↓reduceIte,hr]; unfold rwM; rw[if_neg hb'],E1.hx.set (by omega) _⟩
  .have hb':MF m (l[i].l.map Ss.l)=0:=by simpa using hb
   have hfi:=XE h1' hb'
   have hr:JE m (l.map Tt.ls)=mgR m (SS c (QW m (l[i].l.map Ss.l))) ((l.drop (i+1)).map Tt.ls):=by
    rw[hrun];show(if MF m (l[i].l.map Ss.l)≠0 then (zV,MF m (l[i].l.map Ss.l)) else _)=_;rw[if_neg (by rw[hb']; decide)];rfl
   simp -implicitDefEqProofs only[zB,zG,EZ,FW,BC,BA,BO,BI,A8,DR,AY,BB,AO,AQ,AL,BD,AX,AC,EM,AA,AZ,AU,BZ,BH,BG,A7,EX,EP,BQ,D6,BR,FK,GN,CB,BU,BX,AB,CY,EK,jD,jE,jF,↓reduceIte,jA,jB,jR,jC,enP,jP,KF,AAP,bne,hb,f9,ldV E1.g6,gT,A2A];refine(AD9 G m c [QW m (l[i].l.map Ss.l)] .full _ hc (fun v hv=>by rw[List.mem_singleton] at hv; rw[hv]; exact hfi) (by simp)).use ?_;simp -implicitDefEqProofs only[BA,A8,EJ,EQ,AY,BB,AO,AQ,AL,BD,AX,AC,EM,AA,AZ,AU,BH,BG,D6,BR,AB,CY,C9,↓reduceIte,jA,jB,jC,enP,jP,List.foldl_cons,List.foldl_nil,f9,stV E1.g6 rfl,f27,wrap_succ (show i<9223372036854775807 by omega)];exact⟨n-1,by omega,i+1,SS c (QW m (l[i].l.map Ss.l)),by omega,by trivial,by trivial,by trivial,by trivial,by trivial,by trivial,E1.put6 _,UL hc hfi,hr⟩
 .have hi':¬i<l.length:=by simpa using hcc
  rw[List.drop_eq_nil_of_le (by omega)] at hrun;have hr:JE m (l.map Tt.ls)=(c,0):=hrun;have o4':=E.o4;simp -implicitDefEqProofs only[BC,BA,BK,DJ,A8,EG,EU,ET,AY,BB,AO,AQ,AL,BD,AX,AC,EM,AA,AZ,AU,BH,A7,BQ,D6,AB,CY,↓reduceIte,jA,jB,jC,enP,jP,f4,f9,ldV E.g6,stV E.g4 rfl];rw[N9 (ba:=b4) (by simp -implicitDefEqProofs only[AA,↓reduceIte,jA,f4]) (ldV (EC E.g4))];exact⟨by simp -implicitDefEqProofs only[AA,↓reduceIte,hr]; unfold rwM; rw[if_pos rfl],E.hx.set (by omega) _⟩
def rsE (m:Mo):List (List (List Sg))->Int
 | []=>0
 | x::r=>if MF m x≠0 then MF m x else rsE m r
theorem APJ {m:Mo}:∀(l:List (List (List Sg))) (c:Cvr),(mgR m c l).2=rsE m l
 | [],_=>rfl
 | x::r,c=>by
   unfold mgR rsE;split
   .rfl
   .exact APJ r _
section
variable (G:Nat->AV)
end
theorem AHV {m:Mo}:∀ {a b:List (List (List Sg))},rsE m a=0->rsE m b=0->rsE m (a++b)=0
 | [],_,_,h=>h
 | x::r,b,ha,hb=>by
   show(if MF m x≠0 then MF m x else rsE m (r++b))=0;unfold rsE at ha;split at ha
   .rename_i hq; exact absurd ha hq
   .rename_i hq; rw[if_neg hq]; exact AHV ha hb
theorem ZL {m:Mo}:∀ {a:List (List (List Sg))},rsE m a=0->∀x∈a,MF m x=0
 | [],_,x,hx=>absurd hx List.not_mem_nil
 | y::r,h,x,hx=>by
   unfold rsE at h;split at h
   .rename_i hq; exact absurd h hq
   .rename_i hq
    rcases List.mem_cons.1 hx with rfl|hx
    .exact Classical.byContradiction hq
    .exact ZL h x hx
theorem AD7 {m:Mo}(h0:EY m=0):∀(l:List (List (List Sg))) {c:Cvr},G5 m c=true->rsE m l=0->OA (mgR m c l).1=X4 (OA c) (OA (mgR m (JJ m) l).1)
 | [],c,hc,_=>by
   show OA c=X4 (OA c) (OA (JJ m));rw[ASL,XW hc]
 | x::r,c,hc,h=>by
   have hz:MF m x=0:=ZL h x List.mem_cons_self
   have hr:rsE m r=0:=by
    unfold rsE at h;rw[if_neg (by rw[hz]; decide)] at h;exact h
   have hf:=XE h0 hz
   have e:∀d,(mgR m d (x::r)).1=(mgR m (SS d (QW m x)) r).1:=fun d=>by
    show(if MF m x≠0 then (zV,MF m x) else mgR m (SS d (QW m x)) r).1=_;rw[if_neg (by rw[hz]; decide)]
   have hw:WD (OA (mgR m (JJ m) r).1):=AEN (AD8 h0 (MO h0) (by rw[APJ]; exact hr));rw[e,e,AD7 h0 r (UL hc hf) hr,AD7 h0 r (UL (MO h0) hf) hr,Z9,Z9,XW hf,AN6 (AEN hc) (AEN hf) hw]
theorem APL {m:Mo}:∀(a b:List (List (List Sg))) (c:Cvr),rsE m a=0->mgR m c (a++b)=mgR m (mgR m c a).1 b
 | [],_,_,_=>rfl
 | x::r,b,c,h=>by
   have hz:MF m x=0:=ZL h x List.mem_cons_self
   have hr:rsE m r=0:=by
    unfold rsE at h;rw[if_neg (by rw[hz]; decide)] at h;exact h
   have e:∀l,mgR m c (x::l)=mgR m (SS c (QW m x)) l:=fun l=>by
    show(if MF m x≠0 then (zV,MF m x) else mgR m (SS c (QW m x)) l)=_;rw[if_neg (by rw[hz]; decide)]
   rw[List.cons_append,e,e,APL r b _ hr]
theorem UI {m:Mo}{l:List (List (List Sg))}(h:(JE m l).2=0):EY m=0∧rsE m l=0∧JE m l=mgR m (JJ m) l:=by
 have h0:EY m=0:=Classical.byContradiction fun q=>by
  unfold JE at h; rw[if_neg q] at h; exact q h
 have e:JE m l=mgR m (JJ m) l:=by unfold JE; rw[if_pos h0]
 exact⟨h0,by rw[e,APJ] at h; exact h,e⟩
theorem AT9 {m:Mo}{a b:List (List (List Sg))}(ha:(JE m a).2=0)(hb:(JE m b).2=0) :
  (JE m (a++b)).2=0∧OA (JE m (a++b)).1=X4 (OA (JE m a).1) (OA (JE m b).1):=by
 obtain⟨h0,ea,qa⟩:=UI ha;obtain⟨_,eb,qb⟩:=UI hb;have e:JE m (a++b)=mgR m (JJ m) (a++b):=by unfold JE; rw[if_pos h0]
 have hf:=XJ ha;rw[e,qb];refine⟨by rw[APJ]; exact AHV ea eb,?_⟩;rw[APL a b _ ea,<-qa];exact AD7 h0 b hf eb
theorem AT8 {m:Mo}(h0:EY m=0){x:List (List Sg)}(hx:MF m x=0):(JE m [x]).2=0∧eqV (JE m [x]).1 (rnR m x).1=true:=by
 have e:JE m [x]=(SS (JJ m) (QW m x),0):=by
  unfold JE;rw[if_pos h0];show(if MF m x≠0 then (zV,MF m x) else _)=_;rw[if_neg (by rw[hx]; decide)];rfl
 rw[e];exact⟨rfl,AP0.2 (by rw[Z9,XW (XE h0 hx),(ATO m x).1])⟩
def sumT:List Tt->Nat
 | []=>0
 | x::r=>x.l.length+sumT r
theorem AJX:∀(a b:List Tt),sumT (a++b)=sumT a+sumT b
 | [],b=>by show sumT b=0+sumT b; omega
 | x::r,b=>by
   show x.l.length+sumT (r++b)=x.l.length+sumT r+sumT b;rw[AJX r b]; omega
theorem AHS:∀ {a:List Tt},(∀x∈a,x.l.length<=20)->sumT a<=20*a.length
 | [],_=>jL _
 | x::r,h=>by
   have:=h x List.mem_cons_self;have:=AHS (a:=r) fun y hy=>h y (List.mem_cons_of_mem _ hy)
   show x.l.length+sumT r<=20*(r.length+1);omega
theorem ATK {m:Mo}{l:List (List Sg)}(h:MF m l=0)(hl:l.length<=1048576):(QW m l).sam=(l.length:Int):=by
 have R:=ATL h;rw[R.val];exact(R.bd hl l.length (jL _)).sam
theorem API {m:Mo}:∀(a:List Tt) {c:Cvr} {n:Nat},(∀x∈a,x.l.length<=20)->rsE m (a.map Tt.ls)=0->c.sam=(n:Int)->n+sumT a<=1048576->(mgR m c (a.map Tt.ls)).1.sam=((n+sumT a:Nat):Int)
 | [],c,n,_,_,hc,_=>hc
 | x::r,c,n,hf,h,hc,hn=>by
   have hz:MF m x.ls=0:=ZL h x.ls List.mem_cons_self
   have hr:rsE m (r.map Tt.ls)=0:=by
    rw[jD] at h;unfold rsE at h;rw[if_neg (by rw[hz]; decide)] at h;exact h
   have hl:=hf x List.mem_cons_self;have hn':n+(x.l.length+sumT r)<=1048576:=hn
   have hs:(QW m x.ls).sam=(x.l.length:Int):=by
    rw[ATK hz (by unfold Tt.ls; rw[jI]; omega)];unfold Tt.ls; rw[jI]
   have e:(mgR m c ((x::r).map Tt.ls)).1=(mgR m (SS c (QW m x.ls)) (r.map Tt.ls)).1:=by
    show(if MF m x.ls≠0 then (zV,MF m x.ls) else _).1=_;rw[if_neg (by rw[hz]; decide)]
   rw[e,API r (n:=n+x.l.length) (fun y hy=>hf y (List.mem_cons_of_mem _ hy)) hr ?_ (by omega)]
   .show((n+x.l.length+sumT r:Nat):Int)=((n+(x.l.length+sumT r):Nat):Int)
    omega
   .show Q8 c.sam (QW m x.ls).sam=_
    rw[hc,hs];unfold Q8;omega
theorem AT7 {m:Mo}{a:List Tt}(hf:∀x∈a,x.l.length<=20)(hn:a.length<=10)(h:(JE m (a.map Tt.ls)).2=0):(JE m (a.map Tt.ls)).1.sam=((sumT a:Nat):Int):=by
 obtain⟨_,e,q⟩:=UI h;have:=AHS hf;rw[q,API a (n:=0) hf e rfl (by omega),jG]
def A16 (b0:Nat)(ys:List Tt)(v:AV)(H:Hp):Prop:=(ys=[]∧v=.sl .full 1 [])∨∃o,b0<=o∧v=.own o 0 ys.length∧H[o]?=some (.live 1 (ys.map L9))
theorem app_full {P:Program}{t e:TypeId}{k b:Nat}{H:Hp}{ys:List (List AV)}{x:AV}(hu:P.underlying t=some (.slice e))(hs:szO P e=some k)(hz:TW P e=some k)(hb:NE P e=some b)(hy:KI H x=some (k,ys))(hne:ys≠[])(hr:room ys.length b) :
  G8 P true H t t (.sl .full k []) x=some (.own H.length 0 ys.length,H++[.live k ys]):=by
 have hl:¬ys.length=0:=by simpa using hne
 simp [G8,hu,hs,VO,hy,bump,hz,hb,hr,hl]
theorem AS2 {F:Fr}{i:Nat}{v:AV}(h:F i=v):upd F i v=F:=by
 funext j;unfold upd;split
 .rename_i e; rw[e,h]
 .rfl
theorem AQD {b0:Nat}{ys zs:List Tt}{v:AV}{H:Hp}(s:SM)(hc:A16 b0 ys v H)(hb:b0<=H.length)(hn:ys.length+zs.length<=8388608) :
  ∃v' H',G8 Tryz.prog true H 96 96 v (.sl s 1 (zs.map L9))=some (v',H')∧A16 b0 (ys++zs) v' H'∧(∀e:Hp,e.length<=b0->ext e H->ext e H')∧b0<=H'.length:=by
 cases zs with
 | nil =>
   refine⟨v,H,?_,by rw[jF]; exact hc,fun _ _ hx=>hx,hb⟩;have hs:KI H (.sl s 1 [])=some (1,[]):=J3 H s 1 [];rcases hc with⟨rfl,rfl⟩|⟨o,ho,rfl,hg⟩
   .simp [G8,AQN,AMI,VO,hs,bump]
   .have hco:KI H (.own o 0 ys.length)=some (1,ys.map L9):=by rw[O0 hg (by simp),qE,jX (by simp)]
    simp [G8,AQN,AMI,VO,hco,hs,bump]
 | cons z zs =>
   rcases hc with⟨rfl,rfl⟩|⟨o,ho,rfl,hg⟩
   .refine⟨.own H.length 0 (z::zs).length,H++[ABlk.live 1 ((z::zs).map L9)],?_,.inr ⟨H.length,hb,rfl,CX _ _⟩,fun e _ hx=>hx.app _,by simp; omega⟩
    have ha:=app_full (H:=H) AQN AMI A00 A17 (J3 H s 1 ((z::zs).map L9)) (by simp) (JM (by simp at hn|-; omega) (by omega));rw[jI] at ha;exact ha
   .have hol:=CJ hg
    refine⟨.own H.length 0 (ys++z::zs).length,H.set o .dead++[ABlk.live 1 ((ys++z::zs).map L9)],?_,.inr ⟨H.length,hb,rfl,?_⟩,fun e he hx=>(hx.set (zY he ho) _).app _,by simp; omega⟩
    .have hco:KI H (.own o 0 ys.length)=some (1,ys.map L9):=by rw[O0 hg (by simp),qE,jX (by simp)]
     rw[VD AQN AMI A00 A17 hco (J3 H s 1 ((z::zs).map L9)) (by simp) (JM (by simp at hn|-; omega) (by omega)),wI,jI,jI,zW]
    .rw[List.getElem?_append_right (by simp)]
     simp
theorem A1X (xs:List Tt):PZ (xs.map L9)=true:=by
 unfold PZ;rw[List.all_eq_true];intro r hr;obtain⟨x,_,rfl⟩:=zM.1 hr;rfl
theorem AZK {b0 i:Nat}{ys:List Tt}{v:AV}{H:Hp}(hc:A16 b0 ys v H) :
  ∃s H',(∀F:Fr,F i=v->QA (F,H) i=(upd F i (.sl s 1 (ys.map L9)),H'))∧∀e:Hp,e.length<=b0->ext e H->ext e H':=by
 rcases hc with⟨rfl,rfl⟩|⟨o,ho,rfl,hg⟩
 .exact⟨.full,H,fun F hF=>by rw[AS2 (v:=.sl .full 1 (([]:List Tt).map L9)) hF]; exact AYY F hF,fun _ _ hx=>hx⟩
 .have hz:=AK9 (i:=i) (off:=0) (len:=ys.length) hg (by simp) (by rw[qE,jX (by simp)]; exact A1X _)
  rw[qE,jX (by simp)] at hz;exact⟨.any,H.set o .dead,fun F hF=>hz F hF,fun e he hx=>hx.set (zY he ho) _⟩
theorem A18 (h:Hp):FO Tryz.prog false h 96 0 []=some (.sl .full 1 [],h):=by kernel_rfl
theorem AZV {m:Mo}{l:List Cvr}:CvOk (Y6 m l):=by
 rcases Classical.em (VR m l=0) with hz|hz
 .exact XR (ASE hz)
 .unfold Y6; rw[if_neg hz]; exact W9
structure Cc (h H:Hp) (m:Mo) (a b:Cvr) (ab bb:Nat):Prop where
 gm:H[h.length]?=some (ABlk.live 2 [D5 m])
 ga:H[ab]?=some (ABlk.live 4 [ER a])
 gb:H[bb]?=some (ABlk.live 4 [ER b])
 hx:ext h H
theorem Cc.ext {h H H':Hp}{m:Mo}{a b:Cvr}{ab bb:Nat}(t:Cc h H m a b ab bb)(hx:Sm.ext H H'):Cc h H' m a b ab bb:=⟨FP hx t.gm,FP hx t.ga,FP hx t.gb,t.hx.trans hx⟩
section
variable (G:Nat->AV)
set_option maxHeartbeats 4000000 in
theorem A0L (hG:GOk G)(hT:OB G)(m:Mo)(hm:MoOk m)(l:List Tt)(s:SM)(k:List Tt)(s':SM)(h:Hp)(hl:l.length<=1048576)(he:∀x∈l,TtOk x)(hk:k.length<=1048576)(hke:∀x∈k,TtOk x) :
  PCall (En G) 21 [.agg (D5 m),.sl s 1 (l.map L9),.sl s' 1 (k.map L9)] h (.bool true):=by
 refine ACalls.pure0 rfl ?_;refine ND (H:=hint [] [(11,[52])]) (enM G) Tryz.func21 rfl (by kernel_rfl) (by kernel_rfl) (jH (by kernel_rfl)) ?_;show awp _ _ _ _ _ (EN _ [.tmp 6] _);have gm:=CX h (ABlk.live 2 [D5 m]);have hx:ext h (h++[ABlk.live 2 [D5 m]]):=(ext.rfl' h).app _;simp -implicitDefEqProofs only[DC,jJ,jO,BC,BA,A8,AY,BB,AL,BD,AX,AC,AA,AZ,AU,BZ,BM,BG,A7,FU,CB,BU,BX,BF,BN,jD,jE,jF,↓reduceIte,jA,jB,jC,enP,jY,F8,bxM]
 generalize h++[ABlk.live 2 [D5 m]]=H at gm hx|-
 refine(AQA G l s H hl (fun x hx=>(he x hx).n)).use ?_;simp -implicitDefEqProofs only[DC,jJ,jO,AY,AL,BD,AX,AC,AA,AZ,BZ,BG,CB,BU,BF,BN,jD,jE,jF,↓reduceIte,jA,jB,jC,jY,F8];refine(AQA G k s' H hk (fun x hx=>(hke x hx).n)).use ?_;have hL:=ALV l;have eL:=AQB he;have fL:=ALW (l:=l);have hK:=ALV k;have eK:=AQB hke;have fK:=ALW (l:=k)
 generalize AI5 l=L at hL eL fL|-
 generalize AI5 k=K at hK eK fK|-
 simp -implicitDefEqProofs only[DC,jJ,jO,BC,BA,A8,AY,BB,AL,BD,AX,AC,AA,AZ,BZ,BG,A7,BQ,CB,BU,AB,jD,jE,jF,↓reduceIte,jA,jB,jC,enP,jY,F8,ldM gm];refine(XX G hG hT m hm L (nm L) H (by omega) eL).use ?_;have gm1:=CU (x:=ABlk.live 4 [ER (JE m (L.map Tt.ls)).1]) gm;have ga1:=CX H (ABlk.live 4 [ER (JE m (L.map Tt.ls)).1]);have hx1:=hx.app [ABlk.live 4 [ER (JE m (L.map Tt.ls)).1]];simp -implicitDefEqProofs only[zB,zG,DC,jJ,jO,BC,BA,A8,AY,BB,AL,BD,AX,AC,EM,AA,AZ,BG,A7,EX,BQ,D6,FK,GN,BX,AB,CY,↓reduceIte,jA,jB,jC,enP,jP,jY,F8,KF,XC]
 generalize H++[ABlk.live 4 [ER (JE m (L.map Tt.ls)).1]]=H1 at gm1 ga1 hx1|-
 generalize H.length=ab at ga1|-
 simp -implicitDefEqProofs only[DC,jJ,jO,AY,AL,BD,AX,AC,AA,AZ,BZ,BG,CB,BU,AB,jD,jE,jF,↓reduceIte,jA,jB,jC,jY,F8,ldM gm1];refine(XX G hG hT m hm K (nm K) H1 (by omega) eK).use ?_;have t2:Cc h (H1++[ABlk.live 4 [ER (JE m (K.map Tt.ls)).1]]) m (JE m (L.map Tt.ls)).1 (JE m (K.map Tt.ls)).1 ab H1.length:=⟨CU gm1,CU ga1,CX _ _,hx1.app _⟩;simp -implicitDefEqProofs only[zB,zG,DC,jJ,jO,BC,BA,A8,AY,BB,BL,BV,CO,AL,BD,AX,AC,EM,AA,AZ,AU,BH,BG,A7,EX,D6,BR,FK,GN,BX,AB,CY,EK,↓reduceIte,jA,jB,jC,enP,jP,jY,F8,KF,XC]
 generalize H1++[ABlk.live 4 [ER (JE m (K.map Tt.ls)).1]]=H2 at t2|-
 generalize H1.length=bb at t2|-
 clear gm gm1 ga1 hx hx1;simp -implicitDefEqProofs only[bne];cases ea:((JE m (L.map Tt.ls)).2==0)
 .simp -implicitDefEqProofs only[DC,jJ,jO,BC,BA,BI,A8,DI,AY,BB,BL,BV,CO,F7,AL,BD,AX,AC,AA,EW,AZ,AU,BZ,BM,CQ,DY,CB,BU,jE,jF,↓reduceIte,jA,jB,jC,jY,F8]
  refine(awake G hG hT _).use ?_;simp -implicitDefEqProofs only[DC,jJ,jO,BK,A8,CP,CG,AY,BB,AL,BD,AX,AC,AA,AZ,A7,↓reduceIte,jB,jC,jY,F8];exact⟨by trivial,t2.hx⟩
 simp -implicitDefEqProofs only[DC,jJ,jO,BI,A8,AY,BB,BL,BV,CO,ES,AL,BD,AX,AC,AA,AZ,AU,BH,BM,BG,CQ,DW,BR,AB,EK,↓reduceIte,jA,jB,jR,jC,enP,jY,F8,bne];cases eb:((JE m (K.map Tt.ls)).2==0)
 .simp -implicitDefEqProofs only[DC,jJ,jO,BC,BA,DI,AY,AL,BD,AX,BZ,CB,BU,jE,jF,↓reduceIte,jB,jC,jY,F8]
  refine(awake G hG hT _).use ?_;simp -implicitDefEqProofs only[DC,jJ,jO,BK,A8,CP,CG,AY,BB,AL,BD,AX,AC,AA,AZ,A7,↓reduceIte,jB,jC,jY,F8];exact⟨by trivial,t2.hx⟩
 have ea':(JE m (L.map Tt.ls)).2=0:=by simpa using ea
 have eb':(JE m (K.map Tt.ls)).2=0:=by simpa using eb
 obtain⟨v1,H3,ha1,hc1,he1,hb1⟩:=AQD (b0:=H2.length) (nm L) (H:=H2) (zs:=L) (.inl ⟨rfl,rfl⟩) (jL _) (by simp; omega);rw[List.nil_append] at hc1;obtain⟨v2,H4,ha2,hc2,he2,hb2⟩:=AQD (nm K) (zs:=K) hc1 hb1 (by omega);obtain⟨sB,H5,hz,he5⟩:=AZK (i:=52) hc2;have hx5:=he5 H2 (jL _) (he2 H2 (jL _) (he1 H2 (jL _) (ext.rfl' H2)));have t5:=t2.ext hx5;clear t2 hc1 hc2 he1 he2 he5 hx5;simp -implicitDefEqProofs only[EZ,DC,jJ,jO,BC,BA,BO,A8,DR,AY,AL,BD,AX,AC,AA,AZ,BG,EP,GR,BX,↓reduceIte,jA,jB,jR,jC,enP,jY,F8,A18];refine H9 (v:=v1) (h:=H3) ha1 ?_;simp -implicitDefEqProofs only[DC,jJ,jO,AY,AL,BD,AX,AC,AA,AZ,BG,GR,↓reduceIte,jA,jB,jC,enP,jY,F8];refine H9 (v:=v2) (h:=H4) ha2 ?_;simp -implicitDefEqProofs only[DC,jJ,jO,BC,BP,BA,A8,AY,BB,AL,BD,AX,AC,AA,AZ,AU,BH,BG,A7,DZ,AB,↓reduceIte,jA,jB,jC,enP,AYM,jY,F8,ALA,AL,hz];obtain⟨hm0,hsL,_⟩:=UI ea';obtain⟨_,hsK,_⟩:=UI eb';have hBz:rsE m ((L++K).map Tt.ls)=0:=by rw[wI]; exact AHV hsL hsK
 have hA:=AT9 ea' eb';rw[<-wI] at hA;have hBl:(L++K).length<=10:=by rw[zW]; omega
 have hBf:∀x∈L++K,x.l.length<=20:=fun x hx=>by
  rcases qC.1 hx with hx|hx
  .exact fL x hx
  .exact fK x hx
 have hBe:∀x∈L++K,TtOk x:=fun x hx=>by
  rcases qC.1 hx with hx|hx
  .exact eL x hx
  .exact eK x hx
 have hsam:=AT7 hBf hBl hA.1;have hfa:=XJ ea';have hfb:=XJ eb';have hE2:VR m [(JE m (L.map Tt.ls)).1,(JE m (K.map Tt.ls)).1]=0:=AWL hfa hfb;have hsame:eqV (JE m ((L++K).map Tt.ls)).1 (Y6 m [(JE m (L.map Tt.ls)).1,(JE m (K.map Tt.ls)).1])=true:=AP0.2 (by rw[hA.2,AZE hE2]);have hA0:=hA.1;have oka:=AC1 m (L.map Tt.ls);have okb:=AC1 m (K.map Tt.ls)
 generalize L++K=B at hBz hBl hBf hBe hsam hsame hA0|-
 generalize (JE m (L.map Tt.ls)).1=a at t5 hE2 hsame oka|-
 generalize (JE m (K.map Tt.ls)).1=b at t5 hE2 hsame okb|-
 clear hA hfa hfb ea eb ea' eb' hsL hsK hz ha1 ha2;simp -implicitDefEqProofs only[jI];refine GM 0 (fun F H=>F 3=.ptr h.length 0 0∧F 7=.ptr ab 0 0∧F 9=.ptr bb 0 0∧F 11=.sl sB 1 (B.map L9)∧F 12=.int .i64 (sumT B:Nat)∧H=H5) (fun _ _=>False) ?_ ?_ (fun _ _ hh=>hh.elim)
 .refine DK (fun n F H=>∃i,n+i=B.length∧F 3=.ptr h.length 0 0∧F 7=.ptr ab 0 0∧F 9=.ptr bb 0 0∧F 11=.sl sB 1 (B.map L9)∧F 12=.int .i64 (sumT (B.take i):Nat)∧F 53=.sl sB 1 (B.map L9)∧F 54=.int .i64 (B.length:Nat)∧F 55=.int .i64 (i:Nat)∧H=H5) B.length
   ⟨0,by simp,by simp -implicitDefEqProofs only[AA,↓reduceIte,jA],by simp -implicitDefEqProofs only[AA,↓reduceIte,jA],by simp -implicitDefEqProofs only[AA,↓reduceIte,jA],by simp -implicitDefEqProofs only[AA,↓reduceIte,jA],by simp -implicitDefEqProofs only[AA,↓reduceIte,jA]<;>rfl,by simp -implicitDefEqProofs only[AA,↓reduceIte,jA],by simp -implicitDefEqProofs only[AA,↓reduceIte,jA],by simp -implicitDefEqProofs only[AA,↓reduceIte]<;>rfl,rfl⟩ ?_
  rintro n F H ⟨i,hi,f3,f7,f9,f11,f12,f53,f54,f55,rfl⟩;simp -implicitDefEqProofs only[DC,jJ,jO,BC,BA,BI,A8,AY,BB,AL,BD,AX,AC,AA,AZ,BR,AB,CZ,↓reduceIte,jB,jC,enP,jY,F8,f54,f55];refine CV (fun hc=>?_) (fun hc=>?_)
  .have hi':i<B.length:=by simpa using hc
   have hs1:sumT (B.take (i+1))=sumT (B.take i)+B[i].l.length:=by
    rw[zL hi',AJX]; rfl
   have hs2:=AHS (a:=B.take (i+1)) fun x hx=>hBf x (List.mem_of_mem_take hx)
   have hs3:(B.take (i+1)).length<=B.length:=by rw[zD]; omega
   have hw:IntKind.i64.wrap (((sumT (B.take i):Nat):Int)+((B[i].l.length:Nat):Int))=((sumT (B.take (i+1)):Nat):Int):=by rw[wrap_i64 (by omega) (by omega)]; omega
   simp -implicitDefEqProofs only[DC,jJ,jO,BC,BP,BA,BO,A8,EJ,EQ,AY,BB,AL,BD,AX,AC,AA,AZ,AU,BH,BG,A7,BQ,BR,CE,DZ,AB,C9,↓reduceIte,jA,jB,jC,enP,AYN,AYS,jY,F8,f53,f55,DU hi',DF AZZ hi',AI0,f12,jI,hw,wrap_succ (show i<9223372036854775807 by omega)];exact⟨n-1,by omega,i+1,by omega,by trivial,by trivial,by trivial,by trivial,by trivial,by trivial,by trivial,by trivial,by trivial⟩
  .have hi':¬i<B.length:=by simpa using hc
   rw[jX (by omega)] at f12;simp -implicitDefEqProofs only[DJ,EG,KC,ET,AA,↓reduceIte,jA];exact⟨by trivial,by trivial,by trivial,by trivial,by trivial,by trivial⟩
 rintro F H ⟨f3,f7,f9,f11,f12,rfl⟩;simp -implicitDefEqProofs only[DC,jJ,jO,BC,BA,A8,EU,AY,AL,BD,AX,AC,AA,AZ,BZ,BG,BQ,CB,BU,AB,jD,jE,jF,↓reduceIte,jA,jB,jC,enP,jY,F8,f3,f11,ldM t5.gm];refine(XX G hG hT m hm B sB H (by omega) hBe).use ?_;have t6:=t5.ext ((ext.rfl' H).app [ABlk.live 4 [ER (JE m (B.map Tt.ls)).1]]);have gc6:=CX H (ABlk.live 4 [ER (JE m (B.map Tt.ls)).1]);simp -implicitDefEqProofs only[zB,zG,DC,jJ,jO,BC,BA,A8,AY,BB,AL,BD,AX,AC,EM,AA,AZ,BG,A7,EX,BQ,D6,FK,GN,BX,AB,CY,↓reduceIte,jA,jB,jC,enP,jP,jY,F8,KF,XC,f3,f7,f9]
 generalize H++[ABlk.live 4 [ER (JE m (B.map Tt.ls)).1]]=H6 at t6 gc6|-
 generalize H.length=cb at gc6|-
 simp -implicitDefEqProofs only[DC,jJ,jO,AY,AL,BD,AX,AC,AA,AZ,BZ,BQ,CB,BU,AB,jD,jE,jF,↓reduceIte,jA,jB,jC,enP,jY,F8,f3,f7,f9,ldM t6.gm,ldV t6.ga,ldV t6.gb];refine(AOI G hG hT m a b hm oka okb H6).use ?_;have t7:=t6.ext ((ext.rfl' H6).app [ABlk.live 4 [ER (Y6 m [a,b])]]);have gc7:=CU (x:=ABlk.live 4 [ER (Y6 m [a,b])]) gc6;have gd7:=CX H6 (ABlk.live 4 [ER (Y6 m [a,b])]);rw[hE2,hA0];simp -implicitDefEqProofs only[zB,zG,DC,jJ,jO,BC,BA,A8,AY,BB,BL,BV,CO,ES,AL,BD,AX,AC,EM,AA,AZ,AU,BH,BM,BG,A7,CQ,DW,EX,BQ,D6,BR,FK,GN,BX,AB,CY,EK,↓reduceIte,jA,jB,jR,jC,enP,jP,jY,F8,KF,XC,bne,beq_self_eq_true]
 generalize H6++[ABlk.live 4 [ER (Y6 m [a,b])]]=H7 at t7 gc7 gd7|-
 generalize H6.length=db at gd7|-
 have ldS:ED Tryz.prog H7 3 (.ptr cb 0 2)=some (.int .i64 ((sumT B:Nat):Int)):=by rw[DX ag3 gc7 (row:=ER (JE m (B.map Tt.ls)).1) rfl,<-hsam]; rfl
 simp -implicitDefEqProofs only[DC,jJ,jO,BL,BV,CO,ES,AL,BD,AX,AC,AA,AZ,BZ,BQ,CB,BU,AB,jD,jE,jF,↓reduceIte,jA,jB,jC,enP,jY,F8,ldV gc7,ldV gd7];refine(ATH G _ _ _ (AC1 m _) AZV).use ?_;rw[hsame];simp -implicitDefEqProofs only[DC,jJ,jO,BC,BP,BA,BO,BI,A8,DR,AY,BB,BL,BV,CO,ES,AL,BD,AX,AC,AA,AZ,AU,BH,BM,BG,CQ,DW,BQ,BR,IG,BJ,DZ,AB,EK,FI,↓reduceIte,jA,jG,jB,jR,jC,enP,U9,AYM,jY,F8,f12,ldS,bne,beq_self_eq_true,f11,jI];have hx7:=t7.hx;have gm7:=t7.gm
 refine DK (fun n F H=>∃i,n+i=B.length∧F 3=.ptr h.length 0 0∧F 95=.sl sB 1 (B.map L9)∧F 96=.int .i64 (B.length:Nat)∧F 97=.int .i64 (i:Nat)∧ext H7 H) B.length
  ⟨0,by simp,by simp -implicitDefEqProofs only[AA,↓reduceIte,jA,f3],by simp -implicitDefEqProofs only[AA,↓reduceIte,jA],by simp -implicitDefEqProofs only[AA,↓reduceIte,jA],by simp -implicitDefEqProofs only[AA,↓reduceIte]<;>rfl,ext.rfl' _⟩ ?_
 clear f3 f7 f9 f11 f12 t5 t6 t7 gc6 gc7 gd7 ldS;rintro n F H' ⟨i,hi,f3,f95,f96,f97,hxH⟩;simp -implicitDefEqProofs only[DC,jJ,jO,BC,BA,BI,A8,AY,BB,AL,BD,AX,AC,AA,AZ,BR,AB,CZ,↓reduceIte,jB,jC,enP,jY,F8,f96,f97];refine CV (fun hc=>?_) (fun hc=>?_)
 .have hi':i<B.length:=by simpa using hc
  have hxi:=hBe _ (jQ hi');have hzi:MF m B[i].ls=0:=ZL hBz _ (zM.2 ⟨_,jQ hi',rfl⟩);obtain⟨o1,o2⟩:=AT8 hm0 hzi;have gmH:=FP hxH gm7;have hrp:=XX G hG hT m hm [B[i]] .full H' (by simp) (fun x hx=>by rw[List.mem_singleton] at hx; rw[hx]; exact hxi);have hrp':PCall (En G) 78 [.agg (D5 m),.sl .full 1 [[.sl B[i].m 1 (B[i].l.map VI)]]] H' (.tup [.agg (ER (JE m [B[i].ls]).1),.int .i64 (JE m [B[i].ls]).2]):=hrp;have gm1:=CU (x:=ABlk.live 4 [ER (JE m [B[i].ls]).1]) gmH;have gc1:=CX H' (ABlk.live 4 [ER (JE m [B[i].ls]).1]);have hx1:=hxH.app [ABlk.live 4 [ER (JE m [B[i].ls]).1]];simp -implicitDefEqProofs only[EZ,FW,DC,jJ,jO,BC,BP,BA,BO,A8,AY,BB,AL,BD,AX,AC,AA,AZ,BZ,BG,A7,EP,BQ,CE,CB,BU,BX,AB,jD,jE,jF,↓reduceIte,jA,jB,jC,enP,AYS,jY,F8,f95,f97,DU hi',DF AZZ hi',AI0,f3,ldM gmH,AV4];refine hrp'.use ?_;rw[o1];simp -implicitDefEqProofs only[zB,zG,DC,jJ,jO,BC,BA,A8,AY,BB,AL,BD,AX,AC,EM,AA,AZ,BG,A7,EX,BQ,D6,FK,GN,BX,AB,CY,↓reduceIte,jA,jB,jC,enP,jP,jY,F8,KF,XC,f3]
  generalize H'++[ABlk.live 4 [ER (JE m [B[i].ls]).1]]=H8 at gm1 gc1 hx1|-
  generalize H'.length=eb at gc1|-
  simp -implicitDefEqProofs only[DC,jJ,jO,AY,AL,BD,AX,AC,AA,AZ,BZ,BG,CB,BU,AB,jD,jE,jF,↓reduceIte,jA,jB,jC,jY,F8,f3,ldM gm1];refine(AZ2 G m hm B[i].l B[i].m H8 hxi.n hxi.e).use ?_;have hE:(rnR m (B[i].l.map Ss.l)).2=0:=by rw[(ATO m _).2]; exact hzi
  rw[hE];have gc2:=CU (x:=ABlk.live 4 [ER (rnR m (B[i].l.map Ss.l)).1]) gc1;have gd2:=CX H8 (ABlk.live 4 [ER (rnR m (B[i].l.map Ss.l)).1]);have hx2:=hx1.app [ABlk.live 4 [ER (rnR m (B[i].l.map Ss.l)).1]];simp -implicitDefEqProofs only[zB,zG,DC,jJ,jO,BC,BA,A8,AY,BB,BL,BV,CO,ES,AL,BD,AX,AC,EM,AA,AZ,AU,BZ,BH,BM,BG,A7,CQ,DW,EX,BQ,D6,BR,FK,GN,CB,BU,BX,AB,CY,EK,jD,jE,jF,↓reduceIte,jA,jB,jR,jC,enP,jP,jY,F8,KF,XC,bne,beq_self_eq_true,ldV gc2,ldV gd2];refine(ATH G _ _ _ (AC1 m _) (A1G m _)).use ?_;have o2':eqV (JE m [B[i].ls]).1 (rnR m (B[i].l.map Ss.l)).1=true:=o2;rw[o2'];simp -implicitDefEqProofs only[DC,jJ,jO,BA,BO,BI,A8,EJ,EQ,DR,AY,BB,BL,BV,CO,ES,AL,BD,AX,AC,AA,AZ,AU,BH,BM,BG,CQ,DW,BR,IG,AB,C9,FI,↓reduceIte,jA,jB,jR,jC,enP,jY,F8,f97,wrap_succ (show i<9223372036854775807 by omega)];exact⟨n-1,by omega,i+1,by omega,by trivial,by trivial,by trivial,by trivial,hx2⟩
 .simp -implicitDefEqProofs only[DC,jJ,jO,BC,BA,DJ,A8,EG,EU,ET,AY,AL,BD,AX,BZ,CB,BU,jE,jF,↓reduceIte,jB,jC,jY,F8]
  refine(awake G hG hT _).use ?_;simp -implicitDefEqProofs only[DC,jJ,jO,BK,A8,CG,AY,BB,AL,BD,AX,AC,AA,AZ,A7,↓reduceIte,jB,jC,jY,F8];exact⟨by trivial,hx7.trans hxH⟩
end
end Go.Proofs.YtocilianjfhifaaGreatDoor.Xe
namespace Go.Proofs.YtocilianjfhifaaGreatDoor.Xe
open Sm Bins Cov Go.RowKit
def A29 (x:Tt)(b:Nat):Prop:=okL AX1 x.l b
theorem A5M:Rd Tryz.prog 64 L9 A29:=by
 intro n
 cases n with
 | zero=>exact RdAt.zero
 | succ n=>exact RdAt.map (fun x:SM×List Ss=>(⟨x.1,x.2⟩:Tt)) (NK Tryz.underlying64 A5Z (by decide) (fun _=>rfl) (A5N n)) (fun _=>rfl) (fun x b h=>TR h)
structure Rq where
 m:SM
 l:List Tt
def A3B (x:Rq)(b:Nat):Prop:=okL A29 x.l b
def A3Y (z:Rq):List AV:=[.sl z.m 1 (z.l.map L9)]
theorem A6M:Rd Tryz.prog 96 A3Y A3B:=by
 intro n
 cases n with
 | zero=>exact RdAt.zero
 | succ n=>exact RdAt.map (fun x:SM×List Tt=>(⟨x.1,x.2⟩:Rq)) (NK Tryz.underlying96 A5Y (by decide) (fun _=>rfl) (A5M n)) (fun _=>rfl) (fun x b h=>TR h)
theorem A5C {x:Rq}{b:Nat}(h:A3B x b)(hb:b<=1048576):x.l.length<=1048576∧∀y∈x.l,TtOk y:=by
 refine⟨Nat.le_trans (okL.length h) hb,fun y hy=>?_⟩;obtain⟨b1,h1,h2⟩:=okL.each h y hy;have h3:=AXW (x:=⟨y.m,y.l⟩) h2 (by omega);exact⟨h3.1,h3.2⟩
end Go.Proofs.YtocilianjfhifaaGreatDoor.Xe
