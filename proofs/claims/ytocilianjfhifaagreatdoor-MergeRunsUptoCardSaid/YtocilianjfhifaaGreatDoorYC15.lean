/- Part 15 of the proof (X21, X22, X23, Kz, X24, V1, V2, V3, Kq); no condition. -/
import Derived.Test.YtocilianjfhifaaGreatDoorYC14
set_option linter.unusedVariables false
set_option linter.unusedSimpArgs false
set_option maxRecDepth 8000
namespace Go.Proofs.YtocilianjfhifaaGreatDoor.Xe
open Sm Bins Cov Wd Go.RowKit
open Bool renaming not_false→jC,not_true→jT,or_false→jQ
open List renaming take_succ_eq_append_getElem→zL,map_cons→jD,map_nil→jE,append_nil→jF,length_map→jI,getElem_mem→jS,getElem?_cons_zero→zB,getElem?_cons_succ→zG,length_take→zD,length_set→qI,drop_eq_nil_of_le→jW,mem_map→zO,contains_cons→jR,contains_nil→jJ
open Nat renaming le_of_ble_eq_true→jH,reduceEqDiff→jA,le_refl→jM,add_zero→jL,reduceAdd→jK,zero_add→jG,reduceBEq→jO
open Option renaming getD_some→jB,getD_none→jP
theorem A21:Frz MB:=fun _ _ _ _=>⟨rfl,rfl⟩
structure Sy (h H:Hp) (m:Mo) (c:Cvr) (t:Tk) (vb tb b8 b9:Nat):Prop where
 gm:H[h.length]?=some (.live 2 [D6 m])
 gv:H[vb]?=some (.live 4 [ER c])
 gt:H[tb]?=some (.live 1 [KF t])
 g8:H[b8]?=some (.live 4 [FC])
 g9:H[b9]?=some (.live 1 [F5])
 o1:h.length<vb
 o2:vb<tb
 o3:tb<b8
 o4:b8<b9
 o5:b9<H.length
 hx:ext h H
theorem Sy.mk' (h:Hp)(m:Mo)(c:Cvr)(t:Tk):Sy h (h++[ABlk.live 2 [D6 m]]++[ABlk.live 4 [ER c]]++[ABlk.live 1 [KF t]]++[ABlk.live 4 [FC]]++[ABlk.live 1 [F5]]) m c t (h++[ABlk.live 2 [D6 m]]).length (h++[ABlk.live 2 [D6 m]]++[ABlk.live 4 [ER c]]).length
  (h++[ABlk.live 2 [D6 m]]++[ABlk.live 4 [ER c]]++[ABlk.live 1 [KF t]]).length (h++[ABlk.live 2 [D6 m]]++[ABlk.live 4 [ER c]]++[ABlk.live 1 [KF t]]++[ABlk.live 4 [FC]]).length :=
 ⟨CV (CV (CV (CV (CY _ _)))),CV (CV (CV (CY _ _))),CV (CV (CY _ _)),CV (CY _ _),CY _ _,by simp,by simp,by simp,by simp,by simp,((((ext.rfl' h).app _).app _).app _).app _ |>.app _⟩
theorem YX {m:Mo}{c:Cvr}{t:Tk}{env:List Sg}{e:Int}(h:RF m c t env=e)(hne:e≠0):AHE m c t env=.tup [.agg FC,.agg F5,.int .i64 e]:=by
 unfold AHE;rw[h,if_neg hne]
theorem hbs {α β:Type}(f:α->β)(l:List α)(k:Nat){h:k<l.length}:(l.take k).map f++[f l[k]]=(l.take (k+1)).map f:=by rw[zL h,List.map_append]; rfl
set_option maxHeartbeats 8000000 in
theorem AN1 (G:Nat->AV)(m:Mo)(hm:MoOk m)(c:Cvr)(hcv:CvOk c)(t:Tk)(ht:TkOk t)(env:List Sg)(sm:SM)(h:Hp)(henv:env.length<=1099511627776)(hsg:∀s∈env,ACI s) :
  PCall (En G) 73 [.agg (D6 m),.agg (ER c),.agg (KF t),.sl sm 2 (env.map G7)] h (.tup [.agg (ER (YY m c t env)),.agg (KF (ADF m c t env)),.int .i64 (RF m c t env)]):=by
 refine PCall.res (r:=AHE m c t env) ?_ (AWO _ _ _ _);refine ACalls.pure (R:=fun v H=>ext h H∧IV h.length H 5 v=AHE m c t env) 5 ?_ (fun v H ⟨a,b⟩=>⟨a,b⟩);refine acN Tryz.func73 rfl ?_;show awp _ _ _ _ _ (EN _ [.cell 8 28,.cell 9 47,.tmp 10] _);have Y:=Sy.mk' h m c t;simp -implicitDefEqProofs only[BC,BA,A8,AY,BB,AO,AQ,AL,BD,AX,AC,AA,AZ,AU,BH,A7,FD,FU,BQ,BZ,BF,BN,↓reduceIte,jA,jB,jC,enP,bxM,bxV,bxT,KE,VO]
 generalize h++[ABlk.live 2 [D6 m]]++[ABlk.live 4 [ER c]]++[ABlk.live 1 [KF t]]++[ABlk.live 4 [FC]]++[ABlk.live 1 [F5]]=H0 at Y|-
 generalize (h++[ABlk.live 2 [D6 m]]++[ABlk.live 4 [ER c]]++[ABlk.live 1 [KF t]]++[ABlk.live 4 [FC]]).length=b9 at Y|-
 generalize (h++[ABlk.live 2 [D6 m]]++[ABlk.live 4 [ER c]]++[ABlk.live 1 [KF t]]).length=b8 at Y|-
 generalize (h++[ABlk.live 2 [D6 m]]++[ABlk.live 4 [ER c]]).length=tb at Y|-
 generalize (h++[ABlk.live 2 [D6 m]]).length=vb at Y|-
 have o1:=Y.o1; have o2:=Y.o2; have o3:=Y.o3; have o4:=Y.o4; have o5:=Y.o5
 have hend:∀(F:Fr) (e:Int),F 8=.ptr b8 0 0->F 9=.ptr b9 0 0->F 10=.int .i64 e->AHE m c t env=.tup [.agg FC,.agg F5,.int .i64 e]->∀H:Hp,H[b8]?=some (.live 4 [FC])->H[b9]?=some (.live 1 [F5])->ext h H ->
   EN Tryz.prog [.cell 8 28,.cell 9 47,.tmp 10] (fun v H=>ext h H∧IV h.length H 5 v=AHE m c t env) .ret F H:=fun F e f8 f9 f10 hw H g8 g9 hx=>by
  rw[TE (ba:=b8) (bb:=b9) f8 f9 (IM g8 rfl) (NZ g9 rfl),f10,hw];exact⟨hx,rfl⟩
 simp -implicitDefEqProofs only[AY,AO,AQ,AL,BD,AX,AC,AA,AZ,BX,CB,BU,AB,jD,jE,jF,↓reduceIte,jB,jC,ldM Y.gm];refine(PM G m hm H0).use ?_;cases hb:(EU m==0)
 .have hne:EU m≠0:=by simpa using hb
  simp -implicitDefEqProofs only[EY,BC,BA,BK,BI,A8,CP,DI,AY,BB,AO,AQ,AL,BD,AX,AC,EM,AA,AZ,AU,BH,BG,A7,G9,D5,BR,AB,CX,EK,↓reduceIte,jA,jB,jC,enP,jP,bne,hb,N8,ABY,stZ Y.g8 rfl,ABD (CW Y.g9 (show b9≠b8 by omega)) rfl];exact hend _ (EU m) (by simp -implicitDefEqProofs only[AA,↓reduceIte,jA]) (by simp -implicitDefEqProofs only[AA,↓reduceIte,jA]) (by simp -implicitDefEqProofs only[AA,↓reduceIte]) (YX (by unfold RF; rw[if_neg hne]) hne) _ (CW (D8 Y.g8) (show b8≠b9 by omega)) (D8 (CW Y.g9 (show b9≠b8 by omega))) ((Y.hx.set (by omega) _).set (by omega) _)
 have h0:EU m=0:=by simpa using hb
 simp -implicitDefEqProofs only[BC,BA,BO,BI,A8,DT,AY,BB,AO,AQ,AL,BD,AX,AC,AA,AZ,AU,BX,BH,BG,A7,BQ,BR,CB,BU,AB,EK,jD,jE,jF,↓reduceIte,jA,jB,jT,jC,enP,bne,hb,ldM Y.gm,ldV Y.gv];refine(AEA G m c hm hcv H0).use ?_;cases hf:GK m c
 .simp -implicitDefEqProofs only[EY,BC,BA,BK,BI,A8,CP,DI,AY,BB,BL,BV,CO,F7,AO,AQ,AL,BD,AX,AC,EM,AA,EX,AZ,AU,BH,BM,BG,A7,CQ,DY,G9,D5,IE,AB,CX,FK,↓reduceIte,jA,jB,jC,enP,jP,N8,ABY,stZ Y.g8 rfl,ABD (CW Y.g9 (show b9≠b8 by omega)) rfl]
  exact hend _ 1 (by simp -implicitDefEqProofs only[AA,↓reduceIte,jA]) (by simp -implicitDefEqProofs only[AA,↓reduceIte,jA]) (by simp -implicitDefEqProofs only[AA,↓reduceIte]) (YX (by unfold RF; rw[if_pos h0,if_neg (by rw[hf]; simp)]) (by decide)) _ (CW (D8 Y.g8) (show b8≠b9 by omega)) (D8 (CW Y.g9 (show b9≠b8 by omega))) ((Y.hx.set (by omega) _).set (by omega) _)
 simp -implicitDefEqProofs only[AY,BL,BV,CO,ES,AO,AQ,AL,BD,AX,AC,AA,AZ,BX,BG,BQ,IE,CB,BU,AB,FK,jD,jE,jF,↓reduceIte,jA,jB,jT,jC,enP,ldM Y.gm,ldT Y.gt];refine(ANZ G m hm t ht H0).use ?_;cases htr:AB7 m t
 .simp -implicitDefEqProofs only[EY,BC,BA,BK,BI,A8,CP,DI,AY,BB,BL,BV,CO,ES,AO,AQ,AL,BD,AX,AC,EM,AA,AZ,AU,BH,BM,A7,CQ,DX,G9,D5,IE,AB,CX,FK,↓reduceIte,jA,jB,jC,enP,jP,N8,ABY,stZ Y.g8 rfl,ABD (CW Y.g9 (show b9≠b8 by omega)) rfl]
  exact hend _ 1 (by simp -implicitDefEqProofs only[AA,↓reduceIte,jA]) (by simp -implicitDefEqProofs only[AA,↓reduceIte,jA]) (by simp -implicitDefEqProofs only[AA,↓reduceIte]) (YX (by unfold RF; rw[if_pos h0,if_neg (by rw[htr]; simp)]) (by decide)) _ (CW (D8 Y.g8) (show b8≠b9 by omega)) (D8 (CW Y.g9 (show b9≠b8 by omega))) ((Y.hx.set (by omega) _).set (by omega) _)
 have hF:=ACU hf htr;have hok:=hF.ok;have hg:=LX h0;have hE:RF m c t env=U0 m (stO c t) env:=by unfold RF; rw[if_pos h0,if_pos (by rw[hf,htr]; rfl)]
 have hnum:=hg.num;have hnp:m.pts.length<=16:=by omega
 have hnc:m.crs.length<=16:=by omega
 have hsh:=hok.sh;have hll:=hok.ll;have hPl:=hsh.pl; have hCl:=hsh.cl;have hcp:(stO c t).P.length=c.pts.length:=by simp [stO]
 have hcc:(stO c t).C.length=c.crs.length:=by simp [stO]
 have hct:(stO c t).ls.length=t.last.length:=by simp [stO]
 have hrl:=Y6 m (stO c t).ls env hll;have hrg:=ADP m (stO c t).ls env;obtain⟨rs,hrs⟩:∃z,z=QI m (stO c t).ls env:=⟨_,rfl⟩;rw[<-hrs] at hrl;have hsl:=YZ rs (stO c t).P (by omega);have hscl:=Y2 m (rs.map PtR.hit) (stO c t).C hCl;have hzl:=Z7 m;have hzc:=Z8 m;simp -implicitDefEqProofs only[BC,BA,BO,BI,A8,DT,AY,BB,BL,BV,CO,ES,AO,AQ,AL,BD,AX,AC,AA,AZ,AU,BX,BM,CQ,DX,BQ,IE,CB,BU,AB,FK,jD,jE,jF,↓reduceIte,jA,jB,jT,jC,enP,ldM Y.gm];refine(AM7 G m hm hg H0).mono ?_;rintro _ H1 ⟨hx1,po,pb,co,cbs,rfl,N⟩;have hle1:=hx1.le
 have s1:FW Tryz.prog (H1++[ABlk.live 4 [FC]]) 28 (.ptr H1.length 0 0) (.agg (H9 (nlV po (zP m)) (nlV co (zC m))))=some (H1++[ABlk.live 4 [H9 (nlV po (zP m)) (nlV co (zC m))]]):=by
  rw[ADE (CY _ _) rfl (MG _ _) (MG _ _),OZ]
 simp -implicitDefEqProofs only[EY,BC,BP,BA,A8,AY,BB,AO,AQ,AL,BD,AX,AC,EM,AA,AZ,AU,BH,BM,IK,A7,FD,G9,D5,BZ,AB,CX,↓reduceIte,jA,jB,jC,enP,jP,KE,s1,ABY,VO,A0F];have hl3:(H1++[ABlk.live 4 [H9 (nlV po (zP m)) (nlV co (zC m))]]).length=H1.length+1:=by simp
 have hk3:(H1++[ABlk.live 4 [H9 (nlV po (zP m)) (nlV co (zC m))]]++[ABlk.live 1 [F5]]).length=H1.length+2:=by simp
 have hx3:ext H1 (H1++[ABlk.live 4 [H9 (nlV po (zP m)) (nlV co (zC m))]]++[ABlk.live 1 [F5]]):=((ext.rfl' H1).app _).app _;have gc3:(H1++[ABlk.live 4 [H9 (nlV po (zP m)) (nlV co (zC m))]]++[ABlk.live 1 [F5]])[H1.length]?=some (.live 4 [cvR po (zP m) co (zC m) 0 0]):=CV (CY _ _);have gt3:(H1++[ABlk.live 4 [H9 (nlV po (zP m)) (nlV co (zC m))]]++[ABlk.live 1 [F5]])[(H1++[ABlk.live 4 [H9 (nlV po (zP m)) (nlV co (zC m))]]).length]?=some (.live 1 [[.sl .nil 0 []]]):=CY _ _
 generalize H1++[ABlk.live 4 [H9 (nlV po (zP m)) (nlV co (zC m))]]++[ABlk.live 1 [F5]]=H3 at hk3 hx3 gc3 gt3|-
 generalize (H1++[ABlk.live 4 [H9 (nlV po (zP m)) (nlV co (zC m))]]).length=nb at hl3 gt3|-
 have hlt:∀b,NLB po pb (zP m) b∨NLB co cbs (zC m) b->b<H1.length:=fun b hb=>by
  rcases hb with hb|hb
  .exact(N.np.lt hb).2
  .exact(N.nc.lt hb).2
 have X3:Sx h H3 m c t vb tb b8 b9 H0.length H3.length H1.length nb po co pb cbs (zP m) (zC m) 0 0 (.sl .nil 0 []) :=
  ⟨FP hx3 (FP hx1 Y.gm),FP hx3 (FP hx1 Y.gv),FP hx3 (FP hx1 Y.gt),FP hx3 (FP hx1 Y.g8),FP hx3 (FP hx1 Y.g9),o1,o2,o3,o4,o5,
   (N.ext hx3).cs gc3 gt3 (by omega) (fun b hb=>by have:=hlt b hb; omega),hle1,by omega,by omega,by omega,fun b hb=>by have:=hlt b (.inl (.inr hb)); omega,fun b hb=>by have:=hlt b (.inr (.inr hb)); omega,
   fun q=>by have:=hlt po (.inl (.inl ⟨q,rfl⟩)); omega,fun q=>by have:=hlt co (.inr (.inl ⟨q,rfl⟩)); omega,jM _,(Y.hx.trans hx1).trans hx3⟩
 generalize H1.length=ob at X3 hl3 hk3 hle1 hlt gc3;have hob:ob<H3.length:=by omega
 have hnb:nb<H3.length:=by omega
 have h3l:=X3.hx.le;clear gc3 gt3 hx3 hlt s1 hle1 hl3 hk3;have hlp:=N.np.len;have hlc:=N.nc.len;rw[hzl] at hlp;rw[hzc] at hlc;clear N hx1
 refine GN 0 (fun F H=>∃u w,F 4=.ptr h.length 0 0∧F 5=.ptr vb 0 0∧F 8=.ptr b8 0 0∧F 9=.ptr b9 0 0∧F 12=.ptr ob 0 0∧F 13=.ptr nb 0 0∧F 14=u∧F 15=.bool (rs.any PtR.bad)∧Sx h H m c t vb tb b8 b9 H0.length H3.length ob nb po co pb cbs (MC rs (stO c t).P) (zC m) 0 0 w∧outG 1 MN H3 (rs.map PtR.hit) u H∧outG 1 MB H3 (rs.map PtR.next) w H∧JX PtR.err rs=0)
  (fun F H=>∃e,F 8=.ptr b8 0 0∧F 9=.ptr b9 0 0∧F 10=.int .i64 e∧e≠0∧JX PtR.err rs=e∧H[b8]?=some (.live 4 [FC])∧H[b9]?=some (.live 1 [F5])∧ext h H) ?_ ?_ ?_
 .refine DK (fun n F H=>∃i u w,n+i=m.pts.length∧F 3=.sl sm 2 (env.map G7)∧F 4=.ptr h.length 0 0∧F 5=.ptr vb 0 0∧F 6=.ptr tb 0 0∧F 8=.ptr b8 0 0∧F 9=.ptr b9 0 0∧F 12=.ptr ob 0 0∧F 13=.ptr nb 0 0∧F 14=u∧F 15=.bool ((rs.take i).any PtR.bad)∧F 16=.int .i64 (i:Nat) ∧
    Sx h H m c t vb tb b8 b9 H0.length H3.length ob nb po co pb cbs (mix (MC rs (stO c t).P) (zP m) i) (zC m) 0 0 w∧outG 1 MN H3 ((rs.take i).map PtR.hit) u H∧outG 1 MB H3 ((rs.take i).map PtR.next) w H∧(∀b,isB u b->¬isB w b)∧JX PtR.err rs=JX PtR.err (rs.drop i)) m.pts.length
   ⟨0,.sl .nil 0 [],.sl .nil 0 [],by simp,by simp -implicitDefEqProofs only[AA,BF,BN,↓reduceIte,jA],by simp -implicitDefEqProofs only[AA,↓reduceIte,jA],by simp -implicitDefEqProofs only[AA,↓reduceIte,jA],by simp -implicitDefEqProofs only[AA,↓reduceIte,jA],by simp -implicitDefEqProofs only[AA,↓reduceIte,jA],by simp -implicitDefEqProofs only[AA,↓reduceIte,jA],by simp -implicitDefEqProofs only[AA,↓reduceIte,jA],by simp -implicitDefEqProofs only[AA,↓reduceIte,jA],by simp -implicitDefEqProofs only[AA,↓reduceIte,jA],by simp -implicitDefEqProofs only[AA,↓reduceIte,jA]<;>rfl,by simp -implicitDefEqProofs only[AA,↓reduceIte]<;>rfl,X3,outG.nil _ _ _ _,outG.nil _ _ _ _,fun b hb=>hb.elim,rfl⟩ ?_
  clear X3;rintro n F H ⟨i,u,w,hi,f3,f4,f5,f6,f8,f9,f12,f13,f14,f15,f16,S,hu,hw,hdis,hfst⟩;simp -implicitDefEqProofs only[BC,BA,BI,A8,AY,BB,AO,AQ,AL,BD,AX,AC,AA,AZ,BG,BQ,BR,BJ,D7,AB,DC,↓reduceIte,jA,jL,jB,jC,enP,QS,IR,f4,f16,S.m0,jI];refine CU (fun hc=>?_) (fun hc=>?_)
  .have hi':i<m.pts.length:=by simpa using hc
   have hir:i<rs.length:=by omega
   have hiP:i<(stO c t).P.length:=by omega
   have hic:i<c.pts.length:=by omega
   have hit:i<t.last.length:=by omega
   have hip:i<pb.length:=by omega
   have hiz:i<(zP m).length:=by omega
   have hp:=hm.pts _ (jS hi');have hls:(stO c t).ls[i]'(by omega)=t.last[i].l:=by simp [stO]
   have hPi:(stO c t).P[i]=c.pts[i].l:=by simp [stO]
   have hri:rs[i]=ptE m.pts[i] t.last[i].l env:=by
    have:=hrg i hi' (by omega) (by rw[<-hrs]; omega);rw[hls] at this;rw[<-this];congr 1
   have hcall:=AR7 G m.pts[i] hp t.last[i].l t.last[i].m env sm H (ht.len _ (jS hit)) henv hsg;rw[<-hri] at hcall;unfold ptV at hcall;rw[OO _ _ _ hir] at hfst;have hbad:(rs.take (i+1)).any PtR.bad=((rs.take i).any PtR.bad||rs[i].bad):=by rw[zL hir,List.any_append]; simp
   simp -implicitDefEqProofs only[BC,BP,BO,A8];refine EZ (by kernel_rfl) ?_;simp -implicitDefEqProofs only[FZ,ED,DN,EF,FO,FB,D9,EE,LU,GH,F8,AO,AA,AZ,BX,BQ,BJ,CE,FI,AB,jD,jE,jF,↓reduceIte,jA,jK,jL,jB,enP,SS,IR,N7,RZ,f3,f4,f6,f16,S.m0,DU hi',FM ACG YW JR hi',S.t0,DU hit,DF KC hit,NE];refine⟨_,hcall,?_⟩;simp -implicitDefEqProofs only[FZ,zB,zG,ED,DN,E8,EF,I7,LU,BC,BA,BI,A8,AY,BB,AO,AQ,AL,BD,AX,AC,AA,AZ,AU,BH,BG,BR,FI,GU,AB,EK,↓reduceIte,jA,jK,jB,jC,enP];cases he:(rs[i].err==0)
   .have hne:rs[i].err≠0:=by simpa using he
    rw[if_neg hne] at hfst;simp -implicitDefEqProofs only[EY,BC,BA,BK,A8,CP,EG,NG,FQ,DI,AY,BB,AO,AQ,AL,BD,AX,AC,EM,AA,AZ,BG,A7,G9,D5,AB,CX,↓reduceIte,jA,jB,jC,enP,jP,bne,he,N8,ABY,f8,f9,stZ S.g8 rfl,ABD (CW S.g9 (show b9≠b8 by omega)) rfl];exact⟨rs[i].err,by trivial,by trivial,by trivial,hne,hfst,CW (D8 S.g8) (show b8≠b9 by omega),D8 (CW S.g9 (show b9≠b8 by omega)),(S.hx.set (by omega) _).set (by omega) _⟩
   have hz:rs[i].err=0:=by simpa using he
   rw[if_pos hz] at hfst;have kh:=S.kh;obtain⟨u2,Ha,hap,hu2,hk,hla,hna,⟨ou,lu,rfl⟩,hxa⟩:=hu.app2 YU VJ AB6 ZQ (by omega) (by rw[jI,zD]; omega) kh rs[i].hit;rw[hbs] at hu2;have hap':H7 Tryz.prog true H 26 26 u (.sl .full 1 [[.sl (nm rs[i].hit) 1 (rs[i].hit.map IG)]])=some (.own ou 0 lu,Ha):=hap;have Sa:=S.keep (H':=Ha) (fun b x hb hg=>hk b x hg (fun q=>by have:=hu.lt q; omega)) (by omega) (hxa h (by omega) S.hx);have hwa:=hw.keepA hk (fun b h1 h2=>hdis b h2 h1);obtain⟨w2,Hb,hapb,hw2,hkb,hlb,hnb2,⟨ow,lw,rfl⟩,hxb⟩:=hwa.app2 YU VJ AB6 ZQ (by omega) (by rw[jI,zD]; omega) (by omega) rs[i].next;rw[hbs] at hw2;have hapb':H7 Tryz.prog true Ha 26 26 w (.sl .full 1 [[.sl (nm rs[i].next) 1 (rs[i].next.map encI)]])=some (.own ow 0 lw,Hb):=hapb;have Sb:=Sa.keep (H':=Hb) (fun b x hb hg=>hkb b x hg (fun q=>by have:=hwa.lt q; omega)) (by omega) (hxb h (by omega) Sa.hx)
   have hub:=hu2.keepA hkb (fun b h1 h2=>by
    have e1:=hna b h1;have e2:=hw.lt h2
    omega)
   have Sc:=Sb.setT (.own ow 0 lw);have huc:=hub.setB (b:=nb) hnb (.live 1 [[.own ow 0 lw]]);have hwc:=hw2.setB (b:=nb) hnb (.live 1 [[.own ow 0 lw]]);have hst:FW Tryz.prog Hb 26 (.ptr nb 0 0) (.own ow 0 lw)=some (Hb.set nb (.live 1 [[.own ow 0 lw]])):=OY (row:=[w]) (YM _ _ _) ALZ Sb.cs.gt (by simp)
   have hdis2:∀b,isB (.own ou 0 lu) b->¬isB (.own ow 0 lw) b:=fun b h1 h2=>by
    have e1:=hna b h1;have e2:=hnb2 b h2;omega
   simp -implicitDefEqProofs only[EY,FT,BC,BA,BO,A8,DT,AY,BB,BL,BV,CO,AO,AQ,AL,BD,AX,AC,EM,AA,AZ,BG,A7,EP,BQ,D5,BJ,GR,BZ,AB,CX,↓reduceIte,jA,jL,jB,jT,jC,enP,RZ,jP,bne,he,f14,AEU,hap',f13,Sa.cs.lt0,hapb',hst,f15]
   generalize Hb.set nb (.live 1 [[.own ow 0 lw]])=Hc at Sc huc hwc|-
   clear Sa Sb hwa hub hst hap hap' hapb hapb' hu hw hdis hu2 hw2 hk hkb S;refine SK (fun F H=>H=Hc∧F 3=.sl sm 2 (env.map G7)∧F 4=.ptr h.length 0 0∧F 5=.ptr vb 0 0∧F 6=.ptr tb 0 0∧F 8=.ptr b8 0 0∧F 9=.ptr b9 0 0∧F 12=.ptr ob 0 0∧F 13=.ptr nb 0 0∧F 14=.own ou 0 lu∧F 15=.bool ((rs.take (i+1)).any PtR.bad)∧F 16=.int .i64 (i:Nat)∧F 17=.sl (nm rs[i].hit) 1 (rs[i].hit.map IG)) ?_ ?_
   .cases hq:(rs.take i).any PtR.bad
    .rw[hq,Bool.false_or] at hbad
     simp -implicitDefEqProofs only[AY,BB,ES,AO,AQ,AL,BD,AX,AC,AA,AZ,AU,BM,BG,A7,CQ,DX,↓reduceIte,jA,jB,jC];exact⟨trivial,by trivial,by trivial,by trivial,by trivial,by trivial,by trivial,by trivial,by trivial,by trivial,by rw[hbad],by trivial,by trivial⟩
    .rw[hq,Bool.true_or] at hbad
     simp -implicitDefEqProofs only[AY,BB,F7,AO,AQ,AL,BD,AX,AC,AA,EX,AZ,AU,BM,A7,CQ,DY,↓reduceIte,jA,jB,jC];exact⟨trivial,by trivial,by trivial,by trivial,by trivial,by trivial,by trivial,by trivial,by trivial,by trivial,by rw[hbad],by trivial,by trivial⟩
   clear f3 f4 f5 f6 f8 f9 f12 f13 f14 f15 f16;rintro F H ⟨rfl,f3,f4,f5,f6,f8,f9,f12,f13,f14,f15,f16,f17⟩;have hmx:=mix_len (ys:=MC rs (stO c t).P) (xs:=zP m) (i:=i) (by omega) (by omega);have hmi:=V4 (ys:=MC rs (stO c t).P) (xs:=zP m) (i:=i) (j:=i) (by omega) (jM _) hiz (by omega);have hms:=mix_set (ys:=MC rs (stO c t).P) (xs:=zP m) (i:=i) (by omega) hiz (by omega);have hsg2:=Y0 rs (stO c t).P i hir hiP (by omega);have hz2:(zP m)[i]=zeros m.pts[i].bins.length:=by simp [zP]
   have hpe:=hsh.pe i hiP hi';obtain⟨M,hmm,hmx,hmi,hms⟩:∃M,mix (MC rs (stO c t).P) (zP m) i=M∧M.length=(zP m).length∧(∀h:i<M.length,M[i]=(zP m)[i])∧M.set i (MC rs (stO c t).P)[i]=mix (MC rs (stO c t).P) (zP m) (i+1):=⟨_,rfl,hmx,fun _=>hmi,hms⟩;rw[hmm] at Sc;rw[hsg2] at hms;have hhit:rs[i].hit.length<=1048576:=by rw[hri]; have:=AHL m.pts[i] t.last[i].l env; have:=hp.num; omega
   have hnd:rs[i].hit.Nodup:=by rw[hri]; exact AF4 _ _ _
   have hhl:∀x∈rs[i].hit,x<(stO c t).P[i].length:=fun x hx=>by rw[hri] at hx; rw[hpe]; exact AL9 _ _ _ x hx
   have hwn:Wn (stO c t).P[i]:=hsh.wp _ (jS hiP);have hrwl:=UC rs[i].hit (stO c t).P[i];have hrow:=fun k=>AAH k rs[i].hit (stO c t).P[i] hnd hhl
   have hzn:=QY m.pts[i].bins.length;have hbn:=hp.num;obtain⟨R,hR⟩:∃R,R=rowP rs[i].hit (stO c t).P[i]:=⟨_,rfl⟩;rw[<-hR] at hms hrwl;have hrz:R.length=(zeros m.pts[i].bins.length).length:=by omega
   simp -implicitDefEqProofs only[BC,BP,BA,A8,AY,BB,AO,AQ,AL,BD,AX,AC,AU,BH,A7,jB,jC]
   refine GN 2 (fun F H=>F 3=.sl sm 2 (env.map G7)∧F 4=.ptr h.length 0 0∧F 5=.ptr vb 0 0∧F 6=.ptr tb 0 0∧F 8=.ptr b8 0 0∧F 9=.ptr b9 0 0∧F 12=.ptr ob 0 0∧F 13=.ptr nb 0 0∧F 14=.own ou 0 lu∧F 15=.bool ((rs.take (i+1)).any PtR.bad)∧F 16=.int .i64 (i:Nat) ∧
    Sx h H m c t vb tb b8 b9 H0.length H3.length ob nb po co pb cbs (M.set i R) (zC m) 0 0 (.own ow 0 lw)∧outG 1 MN H3 ((rs.take (i+1)).map PtR.hit) (.own ou 0 lu) H∧outG 1 MB H3 ((rs.take (i+1)).map PtR.next) (.own ow 0 lw) H) (fun _ _=>False) ?_ ?_ (fun _ _ hh=>hh.elim)
   .have e0:M.set i (mix R (zeros m.pts[i].bins.length) 0)=M:=by
     show M.set i (zeros m.pts[i].bins.length)=M;rw[<-hz2,<-hmi (by omega),List.set_getElem_self]
    refine DK (fun n F H=>∃k,n+k=m.pts[i].bins.length∧F 3=.sl sm 2 (env.map G7)∧F 4=.ptr h.length 0 0∧F 5=.ptr vb 0 0∧F 6=.ptr tb 0 0∧F 8=.ptr b8 0 0∧F 9=.ptr b9 0 0∧F 12=.ptr ob 0 0∧F 13=.ptr nb 0 0∧F 14=.own ou 0 lu∧F 15=.bool ((rs.take (i+1)).any PtR.bad)∧F 16=.int .i64 (i:Nat)∧F 17=.sl (nm rs[i].hit) 1 (rs[i].hit.map IG)∧F 21=.int .i64 (k:Nat) ∧
      Sx h H m c t vb tb b8 b9 H0.length H3.length ob nb po co pb cbs (M.set i (mix R (zeros m.pts[i].bins.length) k)) (zC m) 0 0 (.own ow 0 lw)∧outG 1 MN H3 ((rs.take (i+1)).map PtR.hit) (.own ou 0 lu) H∧outG 1 MB H3 ((rs.take (i+1)).map PtR.next) (.own ow 0 lw) H) m.pts[i].bins.length
     ⟨0,by simp,by simp -implicitDefEqProofs only[AA,↓reduceIte,jA,f3],by simp -implicitDefEqProofs only[AA,↓reduceIte,jA,f4],by simp -implicitDefEqProofs only[AA,↓reduceIte,jA,f5],by simp -implicitDefEqProofs only[AA,↓reduceIte,jA,f6],by simp -implicitDefEqProofs only[AA,↓reduceIte,jA,f8],by simp -implicitDefEqProofs only[AA,↓reduceIte,jA,f9],by simp -implicitDefEqProofs only[AA,↓reduceIte,jA,f12],by simp -implicitDefEqProofs only[AA,↓reduceIte,jA,f13],by simp -implicitDefEqProofs only[AA,↓reduceIte,jA,f14],by simp -implicitDefEqProofs only[AA,↓reduceIte,jA,f15],by simp -implicitDefEqProofs only[AA,↓reduceIte,jA,f16],by simp -implicitDefEqProofs only[AA,↓reduceIte,jA,f17],by simp -implicitDefEqProofs only[AA,↓reduceIte]<;>rfl,by rw[e0]; exact Sc,huc,hwc⟩ ?_
    clear Sc huc hwc f3 f4 f5 f6 f8 f9 f12 f13 f14 f15 f16 f17;rintro n' F H ⟨k,hk,f3,f4,f5,f6,f8,f9,f12,f13,f14,f15,f16,f17,f21,S,hu,hw⟩;have hkl:=mix_len (ys:=R) (xs:=zeros m.pts[i].bins.length) (i:=k) hrz (by omega);have hiM:i<(M.set i (mix R (zeros m.pts[i].bins.length) k)).length:=by rw[qI]; omega
    have hcur:(M.set i (mix R (zeros m.pts[i].bins.length) k))[i]=mix R (zeros m.pts[i].bins.length) k:=List.getElem_set_self _;obtain⟨q1,q2,q3,q4⟩:=S.rowP hiM hip;rw[hcur] at q3 q4;have hll2:(mix R (zeros m.pts[i].bins.length) k).length=m.pts[i].bins.length:=by omega
    simp -implicitDefEqProofs only[BC,BA,BI,A8,AY,BB,AO,AQ,AL,BD,AX,AC,AA,AZ,BG,BQ,BR,BJ,CE,D7,AB,DC,↓reduceIte,jA,jL,jB,jC,enP,N7,L8,f12,f16,f21,q1,q2,q3,JA.2,hll2];refine CU (fun hc=>?_) (fun hc=>?_)
    .have hk':k<m.pts[i].bins.length:=by simpa using hc
     have hkP:k<c.pts[i].l.length:=by rw[<-hPi]; omega
     have hin:0<=c.pts[i].l[k]∧c.pts[i].l[k]<=1099511627776:=by
      rw[hPi] at hwn;exact hwn _ (jS hkP)
     have hRk:R[k]'(by omega)=if decide (k∈rs[i].hit)=true then rz c.pts[i].l[k] else c.pts[i].l[k]:=by
      rw[<-getD_at R k (by omega),hR,hrow k,hPi,getD_at _ _ hkP];simp only[decide_eq_true_eq]
     have hset:=mix_set (ys:=R) (xs:=zeros m.pts[i].bins.length) (i:=k) hrz (by omega) (by omega);have hix:=AT0 q4 (k:=k) (by omega);rw[hll2] at hix;have hst:=ASV q4 (k:=k) (by omega) (R[k]'(by omega));rw[hset] at hst;have S2:=S.setP hip (mix R (zeros m.pts[i].bins.length) (k+1)) (fun _=>by rw[hcur,mix_len hrz (by omega),hkl]);rw[List.set_set] at S2;have hu2:=hu.setB (b:=pb[i]) (S.hp _ (jS hip)) (.live 1 ((mix R (zeros m.pts[i].bins.length) (k+1)).map encI));have hw2:=hw.setB (b:=pb[i]) (S.hp _ (jS hip)) (.live 1 ((mix R (zeros m.pts[i].bins.length) (k+1)).map encI));simp -implicitDefEqProofs only[BC,BP,BO,A8];refine EZ (by kernel_rfl) ?_;simp -implicitDefEqProofs only[FZ,ED,DN,EF,FO,FB,D9,EE,GH,F8,AO,AA,AZ,BX,BQ,BJ,CE,AB,jD,jE,jF,↓reduceIte,jA,jK,jL,jB,enP,N7,L8,JF,f5,f12,f16,f17,f21,q1,q2,q3,hll2,S.v0,DU hic,DF KC hic,NE,DU hkP,DF ag3 hkP,WF,APD];refine⟨_,has_ref G (rs[i].hit.map fun n:Nat=>(n:Int)) _ (k:Nat) H (by rw[jI]; exact hhit),?_⟩;rw[AUC]
     try simp -implicitDefEqProofs only[]
     refine⟨_,V3 G c.pts[i].l[k] (decide (k∈rs[i].hit)) H hin.1 hin.2,?_⟩;rw[<-hRk]
     try simp -implicitDefEqProofs only[FZ,ED,DN,JJ,E8,EF,JH,BA,A8,EJ,EQ,AY,BB,AO,AQ,AL,BD,AX,AC,AA,AZ,AU,BH,BG,A7,D5,BR,AB,CX,CZ,↓reduceIte,jA,jG,jB,jC,enP,jP,hix,hst,f21,wrap_succ (show k<9223372036854775807 by omega)]
     exact⟨n'-1,by omega,k+1,by omega,by trivial,by trivial,by trivial,by trivial,by trivial,by trivial,by trivial,by trivial,by trivial,by trivial,by trivial,by first|trivial|exact f17|(rw[<-APD]; exact f17),by trivial,S2,hu2,hw2⟩
    .have hk':k=(zeros m.pts[i].bins.length).length:=by
      have:¬k<m.pts[i].bins.length:=by simpa using hc
      omega
     rw[hk',QR hrz] at S;simp -implicitDefEqProofs only[DJ,EI,J3,ET,AA,↓reduceIte,jA];exact⟨f3,f4,f5,f6,f8,f9,f12,f13,f14,f15,f16,S,hu,hw⟩
   .clear Sc huc hwc f3 f4 f5 f6 f8 f9 f12 f13 f14 f15 f16 f17
    rintro F H ⟨f3,f4,f5,f6,f8,f9,f12,f13,f14,f15,f16,S,hu,hw⟩;rw[hms] at S;simp -implicitDefEqProofs only[BA,A8,EJ,EW,EQ,AY,BB,AO,AQ,AL,BD,AX,AC,AA,AZ,AU,BH,BG,A7,BR,AB,CZ,↓reduceIte,jA,jB,jC,enP,f16,wrap_succ (show i<9223372036854775807 by omega)];exact⟨n-1,by omega,i+1,_,_,by omega,by trivial,by trivial,by trivial,by trivial,by trivial,by trivial,by trivial,by trivial,by trivial,by trivial,by trivial,S,hu,hw,hdis2,hfst⟩
  .have hi':i=(zP m).length:=by
    have:¬i<m.pts.length:=by simpa using hc
    omega
   rw[List.take_of_length_le (by omega)] at f15 hu hw;rw[jW (by omega)] at hfst;rw[hi',QR (by omega)] at S;simp -implicitDefEqProofs only[DJ,EI,J3,ET,AA,↓reduceIte,jA];exact⟨u,w,f4,f5,f8,f9,f12,f13,f14,f15,S,hu,hw,hfst⟩
 .rintro F H ⟨u,w,f4,f5,f8,f9,f12,f13,f14,f15,S,hu,hw,hfst⟩
  simp -implicitDefEqProofs only[BC,BP,BA,A8,EW,AY,BB,AO,AQ,AL,BD,AX,AC,AU,BH,A7,↓reduceIte,jB,jC];refine GN 4 (fun F H=>F 5=.ptr vb 0 0∧F 8=.ptr b8 0 0∧F 9=.ptr b9 0 0∧F 12=.ptr ob 0 0∧F 13=.ptr nb 0 0∧F 15=.bool (rs.any PtR.bad)∧Sx h H m c t vb tb b8 b9 H0.length H3.length ob nb po co pb cbs (MC rs (stO c t).P) (NW m (rs.map PtR.hit) (stO c t).C) 0 0 w∧outG 1 MB H3 (rs.map PtR.next) w H) (fun _ _=>False) ?_ ?_ (fun _ _ hh=>hh.elim)
  .refine DK (fun n F H=>∃i,n+i=m.crs.length∧F 4=.ptr h.length 0 0∧F 5=.ptr vb 0 0∧F 8=.ptr b8 0 0∧F 9=.ptr b9 0 0∧F 12=.ptr ob 0 0∧F 13=.ptr nb 0 0∧F 14=u∧F 15=.bool (rs.any PtR.bad)∧F 22=.int .i64 (i:Nat) ∧
     Sx h H m c t vb tb b8 b9 H0.length H3.length ob nb po co pb cbs (MC rs (stO c t).P) (mix (NW m (rs.map PtR.hit) (stO c t).C) (zC m) i) 0 0 w∧outG 1 MN H3 (rs.map PtR.hit) u H∧outG 1 MB H3 (rs.map PtR.next) w H) m.crs.length
    ⟨0,by simp,by simp -implicitDefEqProofs only[AA,↓reduceIte,jA,f4],by simp -implicitDefEqProofs only[AA,↓reduceIte,jA,f5],by simp -implicitDefEqProofs only[AA,↓reduceIte,jA,f8],by simp -implicitDefEqProofs only[AA,↓reduceIte,jA,f9],by simp -implicitDefEqProofs only[AA,↓reduceIte,jA,f12],by simp -implicitDefEqProofs only[AA,↓reduceIte,jA,f13],by simp -implicitDefEqProofs only[AA,↓reduceIte,jA,f14],by simp -implicitDefEqProofs only[AA,↓reduceIte,jA,f15],by simp -implicitDefEqProofs only[AA,↓reduceIte]<;>rfl,S,hu,hw⟩ ?_
   clear S hu hw f4 f5 f8 f9 f12 f13 f14 f15;rintro n F H ⟨i,hi,f4,f5,f8,f9,f12,f13,f14,f15,f22,S,hu,hw⟩;simp -implicitDefEqProofs only[BC,BA,BI,A8,AY,BB,AO,AQ,AL,BD,AX,AC,AA,AZ,BG,BQ,BR,BJ,D7,AB,DC,↓reduceIte,jA,jG,jB,jC,enP,VL,J4,f4,f22,S.m1,jI];refine CU (fun hc=>?_) (fun hc=>?_)
   .have hi':i<m.crs.length:=by simpa using hc
    have hiC:i<(stO c t).C.length:=by omega
    have hic:i<c.crs.length:=by omega
    have hip:i<cbs.length:=by omega
    have hiz:i<(zC m).length:=by omega
    have hcg:=hg.crs _ (jS hi');have hfs:=hg.full.szs hcg.here;have hzl2:=LJ m m.crs[i].pts;have htwo:=hcg.two;have hfour:=hcg.four;have hpr:=hcg.prod;have hcr:=hm.crs _ (jS hi');have hxe:=hcr.excl;have hCi:(stO c t).C[i]=c.crs[i].l:=by simp [stO]
    have hce:=hsh.ce i hiC hi';have hwn:Wn (stO c t).C[i]:=hsh.wc _ (jS hiC)
    have hpos:0<m.pts.length:=by
     have:=hcg.here (m.crs[i].pts[0]'(by omega)) (jS _);omega
    obtain⟨uo,rfl,guo⟩:∃uo,u=.own uo 0 (rs.map PtR.hit).length∧H[uo]?=some (.live 1 ((rs.map PtR.hit).map MN)):=by
     rcases hu with⟨q,_⟩|⟨_,o,_,e,g⟩
     .have q2:(rs.map PtR.hit).length=0:=by rw[q]; rfl
      rw[jI] at q2; omega
     .exact⟨o,e,g⟩
    have h64:∀x∈rs.map PtR.hit,x.length<=1048576:=fun x hx=>by
     obtain⟨r,hr,rfl⟩:=zO.1 hx;rw[hrs] at hr;obtain⟨p,hp,rfl⟩:=zO.1 hr;have h1:=AHL p.1 p.2 env;have h2:=(hm.pts _ (List.of_mem_zip hp).1).num;omega
    have hhl:(rs.map PtR.hit).length=m.pts.length:=by rw[jI]; exact hrl
    have hmx:=mix_len (ys:=NW m (rs.map PtR.hit) (stO c t).C) (xs:=zC m) (i:=i) (by omega) (by omega);have hmi:=V4 (ys:=NW m (rs.map PtR.hit) (stO c t).C) (xs:=zC m) (i:=i) (j:=i) (by omega) (jM _) hiz (by omega);have hms:=mix_set (ys:=NW m (rs.map PtR.hit) (stO c t).C) (xs:=zC m) (i:=i) (by omega) hiz (by omega);have hsg2:=Y3 m (rs.map PtR.hit) (stO c t).C i hi' hiC (by omega);have hz2:(zC m)[i]=zeros (GL (szs m m.crs[i].pts)):=by simp [zC]
    obtain⟨M,hmm,hmx,hmi,hms⟩:∃M,mix (NW m (rs.map PtR.hit) (stO c t).C) (zC m) i=M∧M.length=(zC m).length∧(∀h:i<M.length,M[i]=(zC m)[i])∧M.set i (NW m (rs.map PtR.hit) (stO c t).C)[i]=mix (NW m (rs.map PtR.hit) (stO c t).C) (zC m) (i+1):=⟨_,rfl,hmx,fun _=>hmi,hms⟩;rw[hmm] at S;rw[hsg2] at hms;have hrwl:=RI m m.crs[i] (rs.map PtR.hit) (stO c t).C[i];have hrow:=AF1 m m.crs[i] (rs.map PtR.hit) (stO c t).C[i];have hzn:=QY (GL (szs m m.crs[i].pts));obtain⟨pn,hpn⟩:∃pn,pn=GL (szs m m.crs[i].pts):=⟨_,rfl⟩;rw[<-hpn] at hpr hce hz2 hzn;obtain⟨R,hR⟩:∃R,R=rowC m m.crs[i] (rs.map PtR.hit) (stO c t).C[i]:=⟨_,rfl⟩;rw[<-hR] at hms hrwl;have hrz:R.length=(zeros pn).length:=by omega
    have Sa:=S.app [ABlk.live 3 [GG m.crs[i]]];have hua:=hu.app [ABlk.live 3 [GG m.crs[i]]];have hwa:=hw.app [ABlk.live 3 [GG m.crs[i]]];have gx:=CY H (ABlk.live 3 [GG m.crs[i]]);have kh:=S.kh;have guo2:=CJ guo;simp -implicitDefEqProofs only[BC,BP,BA,BO,A8,AY,BB,AO,AQ,AL,BD,AX,AC,EM,AA,AZ,AU,BH,BG,A7,FD,BQ,D5,BJ,CE,BZ,AB,CX,↓reduceIte,jA,jG,jB,jC,enP,V7,J4,jP,f4,f22,S.m1,DU hi',FM ZV XH J7 hi',AR3,AQA _ _ [.str ⟨#[]⟩,.sl .nil 0 [],.sl .nil 0 []] rfl]
    generalize H++[ABlk.live 3 [GG m.crs[i]]]=Ha at Sa hua hwa gx|-
    have hxb:H.length ∉ cbs:=fun q=>by have:=S.hc _ q; omega
    have hxo:H.length≠uo:=by omega
    generalize H.length=xb at gx hxb hxo|-
    have huc:∀k,k<cbs.length->True:=fun _ _=>trivial
    clear guo guo2 hu hw S kh
    refine GN 6 (fun F H=>F 4=.ptr h.length 0 0∧F 5=.ptr vb 0 0∧F 8=.ptr b8 0 0∧F 9=.ptr b9 0 0∧F 12=.ptr ob 0 0∧F 13=.ptr nb 0 0∧F 14=.own uo 0 (rs.map PtR.hit).length∧F 15=.bool (rs.any PtR.bad)∧F 22=.int .i64 (i:Nat) ∧
     Sx h H m c t vb tb b8 b9 H0.length H3.length ob nb po co pb cbs (MC rs (stO c t).P) (M.set i R) 0 0 w∧outG 1 MN H3 (rs.map PtR.hit) (.own uo 0 (rs.map PtR.hit).length) H∧outG 1 MB H3 (rs.map PtR.next) w H) (fun _ _=>False) ?_ ?_ (fun _ _ hh=>hh.elim)
    .have e0:M.set i (mix R (zeros pn) 0)=M:=by
      show M.set i (zeros pn)=M;rw[<-hz2,<-hmi (by omega),List.set_getElem_self]
     refine DK (fun n F H=>∃k,n+k=pn∧F 4=.ptr h.length 0 0∧F 5=.ptr vb 0 0∧F 8=.ptr b8 0 0∧F 9=.ptr b9 0 0∧F 12=.ptr ob 0 0∧F 13=.ptr nb 0 0∧F 14=.own uo 0 (rs.map PtR.hit).length∧F 15=.bool (rs.any PtR.bad)∧F 22=.int .i64 (i:Nat)∧F 23=.ptr xb 0 0∧F 24=.int .i64 (k:Nat)∧H[xb]?=some (.live 3 [GG m.crs[i]]) ∧
       Sx h H m c t vb tb b8 b9 H0.length H3.length ob nb po co pb cbs (MC rs (stO c t).P) (M.set i (mix R (zeros pn) k)) 0 0 w∧outG 1 MN H3 (rs.map PtR.hit) (.own uo 0 (rs.map PtR.hit).length) H∧outG 1 MB H3 (rs.map PtR.next) w H) pn
      ⟨0,by simp,by simp -implicitDefEqProofs only[AA,↓reduceIte,jA,f4],by simp -implicitDefEqProofs only[AA,↓reduceIte,jA,f5],by simp -implicitDefEqProofs only[AA,↓reduceIte,jA,f8],by simp -implicitDefEqProofs only[AA,↓reduceIte,jA,f9],by simp -implicitDefEqProofs only[AA,↓reduceIte,jA,f12],by simp -implicitDefEqProofs only[AA,↓reduceIte,jA,f13],by simp -implicitDefEqProofs only[AA,↓reduceIte,jA,f14],by simp -implicitDefEqProofs only[AA,↓reduceIte,jA,f15],by simp -implicitDefEqProofs only[AA,↓reduceIte,jA,f22],by simp -implicitDefEqProofs only[AA,↓reduceIte,jA],by simp -implicitDefEqProofs only[AA,↓reduceIte]<;>rfl,gx,by rw[e0]; exact Sa,hua,hwa⟩ ?_
     clear Sa hua hwa gx f4 f5 f8 f9 f12 f13 f14 f15 f22;rintro n' F H ⟨k,hk,f4,f5,f8,f9,f12,f13,f14,f15,f22,f23,f24,gx,S,hu,hw⟩;have hkl:=mix_len (ys:=R) (xs:=zeros pn) (i:=k) hrz (by omega);have hiM:i<(M.set i (mix R (zeros pn) k)).length:=by rw[qI]; omega
     have hcur:(M.set i (mix R (zeros pn) k))[i]=mix R (zeros pn) k:=List.getElem_set_self _;obtain⟨q1,q2,q3,q4⟩:=S.rowC hiM hip;rw[hcur] at q3 q4;have hll2:(mix R (zeros pn) k).length=pn:=by omega
     simp -implicitDefEqProofs only[BC,BA,BI,A8,AY,BB,AO,AQ,AL,BD,AX,AC,AA,AZ,BG,BQ,BR,BJ,CE,D7,AB,DC,↓reduceIte,jA,jG,jB,jC,enP,N7,KX,f12,f22,f24,q1,q2,q3,JA.2,hll2];refine CU (fun hc=>?_) (fun hc=>?_)
     .have hk':k<pn:=by simpa using hc
      have hkC:k<c.crs[i].l.length:=by rw[<-hCi]; omega
      have hin:0<=c.crs[i].l[k]∧c.crs[i].l[k]<=1099511627776:=by
       rw[hCi] at hwn;exact hwn _ (jS hkC)
      have hRk:R[k]'(by omega)=if(QT m m.crs[i] (NF (szs m m.crs[i].pts) k)&&allB m.crs[i].pts (NF (szs m m.crs[i].pts) k) (rs.map PtR.hit))=true then rz c.crs[i].l[k] else c.crs[i].l[k]:=by
       rw[<-getD_at R k (by omega),hR,hrow k (by omega),hCi,getD_at _ _ hkC];rfl
      have hset:=mix_set (ys:=R) (xs:=zeros pn) (i:=k) hrz (by omega) (by omega);have hix:=AT0 q4 (k:=k) (by omega);rw[hll2] at hix;have hst:=ASV q4 (k:=k) (by omega) (R[k]'(by omega));rw[hset] at hst;have S2:=S.setC hip (mix R (zeros pn) (k+1)) (fun _=>by rw[hcur,mix_len hrz (by omega),hkl]);rw[List.set_set] at S2;have hu2:=hu.setB (b:=cbs[i]) (S.hc _ (jS hip)) (.live 1 ((mix R (zeros pn) (k+1)).map encI));have hw2:=hw.setB (b:=cbs[i]) (S.hc _ (jS hip)) (.live 1 ((mix R (zeros pn) (k+1)).map encI));have gx2:=CW (y:=.live 1 ((mix R (zeros pn) (k+1)).map encI)) gx (show xb≠cbs[i] from fun q=>hxb (by rw[q]; exact jS hip));have hins:=UA (szs m m.crs[i].pts) k (fun n hn=>(hfs n hn).1);have htl:=P9 hins
      have guo:H[uo]?=some (.live 1 ((rs.map PtR.hit).map MN)):=by
       rcases hu with⟨q,_⟩|⟨_,o,_,e,g⟩
       .have q2:(rs.map PtR.hit).length=0:=by rw[q]; rfl
        rw[jI] at q2; omega
       .cases e; exact g
      simp -implicitDefEqProofs only[BC,BP,BA,BO,A8,AY,AO,AQ,AL,BD,AX,AC,AA,AZ,BX,BG,BQ,CB,BU,AB,jD,jE,jF,↓reduceIte,jA,jB,jC,enP,f4,f23,f24,ldM S.gm,ldC gx];refine(AFV G m m.crs[i] k H hcg.here hg.full (by omega) (by omega) (by omega)).use ?_;simp -implicitDefEqProofs only[A8,AY,BB,AO,AQ,AL,BD,AX,AC,AA,AZ,A7,↓reduceIte,jB,jC];have hcnt:=AEO G m m.crs[i] (NF (szs m m.crs[i].pts) k) .any H hcg.here hins (by omega) (by omega);have hht:=AT8 G m.crs[i] (NF (szs m m.crs[i].pts) k) .any (rs.map PtR.hit) uo H guo (fun p hp=>by have:=hcg.here p hp; rw[hhl]; exact this) (by omega) h64 (by omega);refine EZ (by kernel_rfl) ?_;simp -implicitDefEqProofs only[FZ,ED,DN,EF,FN,GI,FO,FB,D9,EE,GH,F8,CO,AO,AA,AZ,BX,BQ,BJ,CE,AB,jD,jE,jF,↓reduceIte,jA,jK,jG,jB,enP,N7,KX,JF,f4,f5,f12,f14,f22,f23,f24,q1,q2,q3,hll2,S.v1,DU hic,DF KC hic,NE,DU hkC,DF ag3 hkC,WF,ldM S.gm,ldC gx];refine⟨_,hcnt,?_⟩
      try simp -implicitDefEqProofs only[]
      cases h1:QT m m.crs[i] (NF (szs m m.crs[i].pts) k)
      .rw[h1,Bool.false_and] at hRk
       simp -implicitDefEqProofs only[FZ,ED,DN,EF,FN,GI,AB4,I5,EE,GH,F8,CO,AO,AA,EX,AZ,AU,BX,BM,CQ,DX,CE,jD,jE,jF,↓reduceIte,jA,jK,jB,enP,JF];refine⟨_,V3 G c.crs[i].l[k] false H hin.1 hin.2,?_⟩;rw[<-hRk]
       try simp -implicitDefEqProofs only[FZ,ED,DN,JJ,E8,EF,JH,BA,A8,EJ,EQ,AY,BB,AO,AQ,AL,BD,AX,AC,AA,AZ,AU,BH,BG,A7,D5,BR,AB,CX,CZ,↓reduceIte,jA,jG,jB,jC,enP,jP,hix,hst,f24,wrap_succ (show k<9223372036854775807 by omega)]
       exact⟨n'-1,by omega,k+1,by omega,by trivial,by trivial,by trivial,by trivial,by trivial,by trivial,by trivial,by trivial,by trivial,by trivial,by trivial,gx2,S2,hu2,hw2⟩
      .rw[h1,Bool.true_and] at hRk
       simp -implicitDefEqProofs only[FZ,ED,DN,EF,FN,GI,VI,FO,I5,FB,EE,GH,F8,CO,AO,AA,AZ,AU,BX,BM,CQ,DY,BQ,CE,AB,jD,jE,jF,↓reduceIte,jA,jK,jB,enP,JF,f14,f23,ldC gx];refine⟨_,hht,?_⟩
       try simp -implicitDefEqProofs only[]
       refine⟨_,V3 G c.crs[i].l[k] (allB m.crs[i].pts (NF (szs m m.crs[i].pts) k) (rs.map PtR.hit)) H hin.1 hin.2,?_⟩;rw[<-hRk]
       try simp -implicitDefEqProofs only[FZ,ED,DN,JJ,E8,EF,JH,BA,A8,EJ,EQ,AY,BB,AO,AQ,AL,BD,AX,AC,AA,AZ,AU,BH,BG,A7,D5,BR,AB,CX,CZ,↓reduceIte,jA,jG,jB,jC,enP,jP,hix,hst,f24,wrap_succ (show k<9223372036854775807 by omega)]
       exact⟨n'-1,by omega,k+1,by omega,by trivial,by trivial,by trivial,by trivial,by trivial,by trivial,by trivial,by trivial,by trivial,by trivial,by trivial,gx2,S2,hu2,hw2⟩
     .have hk':k=(zeros pn).length:=by
       have:¬k<pn:=by simpa using hc
       omega
      rw[hk',QR hrz] at S;simp -implicitDefEqProofs only[DJ,EI,J3,ET,AA,↓reduceIte,jA];exact⟨f4,f5,f8,f9,f12,f13,f14,f15,f22,S,hu,hw⟩
    .clear Sa hua hwa gx f4 f5 f8 f9 f12 f13 f14 f15 f22
     rintro F H ⟨f4,f5,f8,f9,f12,f13,f14,f15,f22,S,hu,hw⟩;rw[hms] at S;simp -implicitDefEqProofs only[BA,A8,EJ,EW,EQ,AY,BB,AO,AQ,AL,BD,AX,AC,AA,AZ,AU,BH,BG,A7,BR,AB,CZ,↓reduceIte,jA,jB,jC,enP,f22,wrap_succ (show i<9223372036854775807 by omega)];exact⟨n-1,by omega,i+1,by omega,by trivial,by trivial,by trivial,by trivial,by trivial,by trivial,by trivial,by trivial,by trivial,S,hu,hw⟩
   .have hi':i=(zC m).length:=by
     have:¬i<m.crs.length:=by simpa using hc
     omega
    rw[hi',QR (by omega)] at S;simp -implicitDefEqProofs only[DJ,EI,J3,ET,AA,↓reduceIte,jA];exact⟨f5,f8,f9,f12,f13,f15,S,hw⟩
  .clear S hu hw f4 f5 f8 f9 f12 f13 f14 f15
   rintro F H ⟨f5,f8,f9,f12,f13,f15,S,hw⟩;have hsm:0<=c.sam∧c.sam<=1099511627776:=hok.sm;have hil:0<=c.ill∧c.ill<=1099511627776:=hok.il;simp -implicitDefEqProofs only[BC,BA,A8,EW,AY,AO,AQ,AL,BD,AX,AC,AA,AZ,AU,BX,BM,BQ,BJ,CB,BU,AB,jD,jE,jF,↓reduceIte,jG,jB,jC,enP,TU,f5,S.v2];refine(V3 G c.sam true H hsm.1 hsm.2).use ?_;have hst1:FW Tryz.prog H 3 (.ptr ob 0 2) (.int .i64 (rz c.sam))=some (H.set ob (.live 4 [cvR po (MC rs (stO c t).P) co (NW m (rs.map PtR.hit) (stO c t).C) (rz c.sam) 0])):=OY (PV _ _) sz3 S.cs.gc (by simp [cvR]);have S1:=S.setN (rz c.sam) 0;have hw1:=hw.setB (b:=ob) hob (.live 4 [cvR po (MC rs (stO c t).P) co (NW m (rs.map PtR.hit) (stO c t).C) (rz c.sam) 0]);simp -implicitDefEqProofs only[BC,BA,A8,AY,BB,AO,AQ,AL,BD,AX,AC,EM,AA,AZ,D5,BJ,AB,CX,↓reduceIte,jA,jG,jB,jC,enP,TU,jP,f12,hst1]
   generalize H.set ob (.live 4 [cvR po (MC rs (stO c t).P) co (NW m (rs.map PtR.hit) (stO c t).C) (rz c.sam) 0])=Ha at S1 hw1|-
   simp -implicitDefEqProofs only[AY,AO,AQ,AL,BD,AX,AC,AA,AZ,BX,BG,BQ,CB,BU,AB,jD,jE,jF,↓reduceIte,jA,jG,jB,jC,enP,U6,f5,S1.v3,f15];refine(V3 G c.ill (rs.any PtR.bad) Ha hil.1 hil.2).use ?_;obtain⟨il,hill⟩:∃z,z=if rs.any PtR.bad=true then rz c.ill else c.ill:=⟨_,rfl⟩
   rw[<-hill];have hst2:FW Tryz.prog Ha 3 (.ptr ob 0 3) (.int .i64 il)=some (Ha.set ob (.live 4 [cvR po (MC rs (stO c t).P) co (NW m (rs.map PtR.hit) (stO c t).C) (rz c.sam) il])):=OY (PV _ _) sz3 S1.cs.gc (by simp [cvR]);have S2:=S1.setN (rz c.sam) il;have hw2:=hw1.setB (b:=ob) hob (.live 4 [cvR po (MC rs (stO c t).P) co (NW m (rs.map PtR.hit) (stO c t).C) (rz c.sam) il]);simp -implicitDefEqProofs only[BC,A8,AY,BB,AO,AQ,AL,BD,AX,AC,EM,AA,AZ,D5,BJ,AB,CX,↓reduceIte,jA,jG,jB,jC,enP,U6,jP,f12,hst2]
   generalize Ha.set ob (.live 4 [cvR po (MC rs (stO c t).P) co (NW m (rs.map PtR.hit) (stO c t).C) (rz c.sam) il])=Hb at S2 hw2|-
   have lo:=S2.lo; have ln:=S2.ln;refine Q7 [(13,8)] (by kernel_rfl) ?_ ?_
   .simp -implicitDefEqProofs only[AA,↓reduceIte,jA,f8,f13,Q9,UN,UB,and_true]
    omega
   simp -implicitDefEqProofs only[FZ,ED,DN,JJ,E8,EF,I7,FB,JH,BK,A8,AO,AA,AZ,AU,BH,BQ,D5,AB,CX,↓reduceIte,jA,jK,jG,jB,enP,jP,f8,f9,f12,f13,IM S2.cs.gc rfl,NZ S2.cs.gt rfl,AZM S2.g8 rfl,AFX (CW S2.g9 (show b9≠b8 by omega)) rfl hw2.leaf];rw[TE (ba:=b8) (bb:=b9) (by simp -implicitDefEqProofs only[AA,↓reduceIte,jA,f8]) (by simp -implicitDefEqProofs only[AA,↓reduceIte,jA,f9]) (IM (CW (D8 S2.g8) (show b8≠b9 by omega)) rfl) (NZ (D8 (CW S2.g9 (show b9≠b8 by omega))) rfl)];refine⟨(S2.hx.set (by omega) _).set (by omega) _,?_⟩;obtain⟨st,hst⟩:∃z,z=stp m (stO c t) env:=⟨_,rfl⟩;have eP:MC rs (stO c t).P=st.P:=by rw[hst,hrs]; rfl
   have eC:NW m (rs.map PtR.hit) (stO c t).C=st.C:=by rw[hst,hrs]; rfl
   have eL:rs.map PtR.next=st.ls:=by rw[hst,hrs]; rfl
   have eS:rz c.sam=st.sam:=by rw[hst]; rfl
   have eI:il=st.ill:=by rw[hill,hst,hrs]; rfl
   rw[eP,eC,eS,eI] at S2|-
   rw[eL] at hw2
   have np':NL H0.length ((Hb.set b8 (.live 4 [cvR po st.P co st.C st.sam st.ill])).set b9 (.live 1 [[w]])) po pb st.P:=S2.cs.np.keep fun b x hb hg=>by
    have:=S2.cs.np.lt hb;exact CW (CW hg (by omega)) (by omega)
   have nc':NL H0.length ((Hb.set b8 (.live 4 [cvR po st.P co st.C st.sam st.ill])).set b9 (.live 1 [[w]])) co cbs st.C:=S2.cs.nc.keep fun b x hb hg=>by
    have:=S2.cs.nc.lt hb;exact CW (CW hg (by omega)) (by omega)
   have hwf:=(hw2.setB (b:=b8) (by omega) (.live 4 [cvR po st.P co st.C st.sam st.ill])).setB (b:=b9) (by omega) (.live 1 [[w]]);have e1:=AVC st np' nc' h.length 0 (by omega);have e2:=RV A21 hwf h.length 1 h3l;have hz:RF m c t env=0:=by rw[hE]; unfold U0; rw[<-hrs]; exact hfst
   unfold AHE;rw[if_pos hz,<-hst];show AV.tup [IV h.length _ 4 (.agg (cvR po st.P co st.C st.sam st.ill)),.agg [IV h.length _ 3 w],_]=_;rw[e1,e2];simp -implicitDefEqProofs only[AA,↓reduceIte];rfl
 .rintro F H ⟨e,f8,f9,f10,hne,hfst,g8,g9,hx⟩
  exact hend F e f8 f9 f10 (YX (by rw[hE]; unfold U0; rw[<-hrs]; exact hfst) hne) H g8 g9 hx
theorem SV:CvOk zV:=⟨by decide,by decide,fun x hx=>(by cases hx),fun x hx=>(by cases hx)⟩
theorem AN7:TkOk zT:=⟨by decide,fun x hx=>(by cases hx)⟩
theorem AFY {m:Mo}{c:Cvr}{t:Tk}{env:List Sg}(h:RF m c t env=0):GK m c=true∧AB7 m t=true∧U0 m (stO c t) env=0:=by
 unfold RF at h;split at h
 .split at h
  .rename_i h2
   rw[Bool.and_eq_true] at h2;exact⟨h2.1,h2.2,h⟩
  .cases h
 .rename_i h2; exact absurd h h2
theorem AOI (m:Mo)(c:Cvr)(t:Tk)(env:List Sg):CvOk (YY m c t env):=by
 unfold YY;split
 .rename_i h
  obtain⟨h1,h2,h3⟩:=AFY h;exact UL ((ACU h1 h2).step h3).fits
 .exact SV
theorem A0A {m:Mo}{s:St}(h:FitS m s):TkOk (tkS s):=by
 have h1:=h.ll;have hn:=(LX h.me).num;refine⟨by simp [tkS,isL]; omega,fun x hx=>?_⟩;obtain⟨y,hy,rfl⟩:=zO.1 hx;have:=h.ok.l7 y hy;show y.length<=_;omega
theorem AWP (m:Mo)(c:Cvr)(t:Tk)(env:List Sg):TkOk (ADF m c t env):=by
 unfold ADF;split
 .rename_i h
  obtain⟨h1,h2,h3⟩:=AFY h;exact A0A ((ACU h1 h2).step h3)
 .exact AN7
def AAG (m:Mo):Cvr->Tk->List (List Sg)->Cvr×Int
 | c,_,[]=>(c,0)
 | c,t,e::r=>if RF m c t e=0 then AAG m (YY m c t e) (ADF m c t e) r else (zV,RF m c t e)
def rnR (m:Mo)(l:List (List Sg)):Cvr×Int:=if EU m=0 then AAG m (emV m) (VM m) l else (zV,EU m)
theorem AJT (m:Mo):∀(l:List (List Sg)) (c:Cvr) (t:Tk),(AAG m c t l).2≠0->(AAG m c t l).1=zV
 | [],_,_,h=>absurd rfl h
 | e::r,c,t,h=>by
   unfold AAG at h|-
   split
   .rename_i h2
    rw[if_pos h2] at h;exact AJT m r _ _ h
   .rfl
theorem AWY {m:Mo}{l:List (List Sg)}(h:(rnR m l).2≠0):(rnR m l).1=zV:=by
 unfold rnR at h|-
 split
 .rename_i h2
  rw[if_pos h2] at h;exact AJT _ _ _ _ h
 .rfl
def rnW (m:Mo)(l:List (List Sg)):List AV:=if(rnR m l).2=0 then ER (rnR m l).1 else FC
theorem A0L (m:Mo)(l:List (List Sg)):CvR (.agg (rnW m l)) (.agg (ER (rnR m l).1)):=by
 unfold rnW;split
 .exact CvR.refl _
 .rename_i h
  rw[AWY h]; exact AFR
theorem AU0 (m:Mo):CvOk (emV m):=by
 unfold emV;split
 .rename_i h
  exact UL (OQ h)
 .exact SV
theorem AYJ (m:Mo):TkOk (VM m):=by
 unfold VM;split
 .rename_i h
  have hn:=(LX h).num;refine⟨by simp [zLs]; omega,fun x hx=>?_⟩;obtain⟨y,_,rfl⟩:=zO.1 hx;simp
 .exact AN7
structure Rr (h H:Hp) (m:Mo) (c:Cvr) (t:Tk) (b4 cb tb:Nat):Prop where
 gm:H[h.length]?=some (.live 2 [D6 m])
 g4:H[b4]?=some (.live 4 [FC])
 gc:H[cb]?=some (.live 4 [ER c])
 gt:H[tb]?=some (.live 1 [KF t])
 o1:h.length<b4
 o2:b4<cb
 o3:cb<tb
 hx:ext h H
theorem Rr.ext {h H H':Hp}{m:Mo}{c:Cvr}{t:Tk}{b4 cb tb:Nat}(R:Rr h H m c t b4 cb tb)(hx:Sm.ext H H'):Rr h H' m c t b4 cb tb:=⟨FP hx R.gm,FP hx R.g4,FP hx R.gc,FP hx R.gt,R.o1,R.o2,R.o3,R.hx.trans hx⟩
theorem Rr.setC {h H:Hp}{m:Mo}{c:Cvr}{t:Tk}{b4 cb tb:Nat}(R:Rr h H m c t b4 cb tb)(c':Cvr):Rr h (H.set cb (.live 4 [ER c'])) m c' t b4 cb tb:=by
 have o1:=R.o1; have o2:=R.o2; have o3:=R.o3;exact⟨CW R.gm (by omega),CW R.g4 (by omega),D8 R.gc,CW R.gt (by omega),o1,o2,o3,R.hx.set (by omega) _⟩
theorem Rr.setT {h H:Hp}{m:Mo}{c:Cvr}{t:Tk}{b4 cb tb:Nat}(R:Rr h H m c t b4 cb tb)(t':Tk):Rr h (H.set tb (.live 1 [KF t'])) m c t' b4 cb tb:=by
 have o1:=R.o1; have o2:=R.o2; have o3:=R.o3;exact⟨CW R.gm (by omega),CW R.g4 (by omega),CW R.gc (by omega),D8 R.gt,o1,o2,o3,R.hx.set (by omega) _⟩
set_option maxHeartbeats 4000000 in
theorem AY7 (G:Nat->AV)(m:Mo)(hm:MoOk m)(l:List Ss)(s:SM)(h:Hp)(hl:l.length<=1048576)(he:∀x∈l,x.l.length<=1048576∧∀s∈x.l,ACI s) :
  PCall (En G) 49 [.agg (D6 m),.sl s 1 (l.map WE)] h (.tup [.agg (ER (rnR m (l.map Ss.l)).1),.int .i64 (rnR m (l.map Ss.l)).2]):=by
 refine PCall.res (r:=.tup [.agg (rnW m (l.map Ss.l)),.int .i64 (rnR m (l.map Ss.l)).2]) ?_ (CvR.tup (CvRL.cons (A0L _ _) (CvRL.refl _)));refine QL 3 (fun n H=>?_) ?_
 .unfold rnW
  split<;>rfl
 refine LV (H:=hint [37] []) (enM G) Tryz.func49 rfl (by kernel_rfl) (by kernel_rfl) (jH (by kernel_rfl)) ?_;show awp _ _ _ _ _ (EN _ [.cell 4 28,.tmp 5] _);have gm:=CV (x:=ABlk.live 4 [FC]) (CY h (ABlk.live 2 [D6 m]));have g4:=CY (h++[ABlk.live 2 [D6 m]]) (ABlk.live 4 [FC]);have hx:ext h (h++[ABlk.live 2 [D6 m]]++[ABlk.live 4 [FC]]):=((ext.rfl' h).app _).app _;have hb4:h.length<(h++[ABlk.live 2 [D6 m]]).length:=by simp
 simp -implicitDefEqProofs only[C9,jR,jJ,jO,jQ,BC,BA,A8,AY,BB,AL,BD,AX,AC,AA,AZ,AU,BH,A7,FD,FU,BQ,BZ,BF,↓reduceIte,jA,jB,jC,enP,DZ,bxM,KE]
 generalize h++[ABlk.live 2 [D6 m]]++[ABlk.live 4 [FC]]=H0 at gm g4 hx|-
 generalize (h++[ABlk.live 2 [D6 m]]).length=b4 at g4 hb4|-
 have hlt:=CJ g4;simp -implicitDefEqProofs only[C9,jR,jJ,jO,jQ,AY,AL,BD,AX,AC,AA,AZ,BX,CB,BU,AB,jD,jE,jF,↓reduceIte,jB,jC,DZ,ldM gm];refine(AG8 G m hm H0).use ?_;obtain⟨s1,s2,g6,g7,hx5⟩:=AXY H0 (emV m) (VM m);have R0:Rr h _ m (emV m) (VM m) b4 H0.length (H0++[ABlk.live 4 [FC]]).length:=⟨FP hx5 gm,FP hx5 g4,g6,g7,hb4,hlt,by simp,hx.trans hx5⟩;simp -implicitDefEqProofs only[zB,zG,C9,jR,jJ,jO,jQ,BC,BA,BI,A8,AY,BB,AL,BD,AX,AC,EM,AA,AZ,AU,BH,BG,A7,FD,D5,BR,FI,GU,BZ,AB,CX,EK,↓reduceIte,jA,jB,jC,enP,DZ,jP,KE,VO,s1,s2]
 generalize ((H0++[ABlk.live 4 [FC]]++[ABlk.live 1 [F5]]).set H0.length (ABlk.live 4 [ER (emV m)])).set (H0++[ABlk.live 4 [FC]]).length (ABlk.live 1 [KF (VM m)])=H5 at R0|-
 generalize (H0++[ABlk.live 4 [FC]]).length=tb at R0|-
 generalize H0.length=cb at R0|-
 clear s1 s2 g6 g7 hx5 gm g4 hx hlt;cases hb:(EU m==0)
 .have hne:EU m≠0:=by simpa using hb
  have hr:rnR m (l.map Ss.l)=(zV,EU m):=by unfold rnR; rw[if_neg hne]
  simp -implicitDefEqProofs only[EY,C9,jR,jJ,jO,jQ,BC,BA,BK,A8,CP,DI,AY,BB,AL,BD,AX,AC,EM,AA,AZ,BG,A7,G9,D5,AB,CX,↓reduceIte,jA,jB,jC,enP,DZ,jP,bne,hb,N8,stZ R0.g4 rfl];rw[KG (ba:=b4) (by simp -implicitDefEqProofs only[AA,↓reduceIte,jA]) (IM (D8 R0.g4) rfl)];refine⟨?_,R0.hx.set (by omega) _⟩;unfold rnW;rw[hr];simp -implicitDefEqProofs only[AA,↓reduceIte];rw[if_neg hne]
 have h0:EU m=0:=by simpa using hb
 have hr0:rnR m (l.map Ss.l)=AAG m (emV m) (VM m) (l.map Ss.l):=by unfold rnR; rw[if_pos h0]
 simp -implicitDefEqProofs only[C9,jR,jJ,jO,jQ,BC,BP,BA,BO,A8,DT,AY,BB,AL,BD,AX,AC,AU,BH,A7,jB,jT,jC,DZ,bne,hb]
 refine DK (fun n F H=>∃k c t,n+k=l.length∧F 1=.sl s 1 (l.map WE)∧F 2=.ptr h.length 0 0∧F 4=.ptr b4 0 0∧F 6=.ptr cb 0 0∧F 7=.ptr tb 0 0∧F 9=.int .i64 (k:Nat)∧Rr h H m c t b4 cb tb∧CvOk c∧TkOk t∧rnR m (l.map Ss.l)=AAG m c t ((l.drop k).map Ss.l)) l.length
  ⟨0,emV m,VM m,by simp,by simp -implicitDefEqProofs only[AA,BF,BN,↓reduceIte,jA],by simp -implicitDefEqProofs only[AA,↓reduceIte,jA],by simp -implicitDefEqProofs only[AA,↓reduceIte,jA],by simp -implicitDefEqProofs only[AA,↓reduceIte,jA],by simp -implicitDefEqProofs only[AA,↓reduceIte,jA],by simp -implicitDefEqProofs only[AA,↓reduceIte]<;>rfl,R0,AU0 m,AYJ m,hr0⟩ ?_
 clear R0 hr0;rintro n F H ⟨k,c,t,hk,f1,f2,f4,f6,f7,f9,R,hcv,htk,hrun⟩;simp -implicitDefEqProofs only[C9,jR,jJ,jO,jQ,BC,BA,BI,A8,AY,BB,AL,BD,AX,AC,AA,AZ,BG,BR,D7,AB,DC,↓reduceIte,jA,jB,jC,enP,A0Y,DZ,f1,f9,jI];refine CU (fun hc=>?_) (fun hc=>?_)
 .have hk':k<l.length:=by simpa using hc
  obtain⟨e1,e2⟩:=he _ (jS hk');rw[List.drop_eq_getElem_cons hk',jD] at hrun;unfold AAG at hrun;obtain⟨s1,s2,g6,g7,hx5⟩:=AXY H (YY m c t l[k].l) (ADF m c t l[k].l);have R5:=R.ext hx5;have hlt:=CJ R.gt;have o1:=R.o1; have o2:=R.o2; have o3:=R.o3;simp -implicitDefEqProofs only[BC,BP,BO,A8];refine AIS (fun F H'=>∃b10 b11,F 1=.sl s 1 (l.map WE)∧F 2=.ptr h.length 0 0∧F 4=.ptr b4 0 0∧F 6=.ptr cb 0 0∧F 7=.ptr tb 0 0∧F 9=.int .i64 (k:Nat)∧F 10=.ptr b10 0 0∧F 11=.ptr b11 0 0∧F 12=.int .i64 (RF m c t l[k].l)∧H'[b10]?=some (.live 4 [ER (YY m c t l[k].l)])∧H'[b11]?=some (.live 1 [KF (ADF m c t l[k].l)])∧tb<b10∧tb<b11∧Rr h H' m c t b4 cb tb) (fun _ _=>False) ?_ ?_ (fun _ _ hh=>hh.elim)
  .refine AVT [] [0,1,2,3,4,5,6,7,8,9,10,11] 12 13 [14,15,16] (by kernel_rfl) trivial ?_
   simp only[PD,zG,zB];simp -implicitDefEqProofs only[FZ,C9,jR,jJ,jO,jQ,ED,DN,EF,FO,YQ,FB,EE,LU,GH,AAY,AA,AZ,BX,FD,BQ,CE,FI,AB,jD,jE,jF,↓reduceIte,jA,jK,jB,enP,A2W,f1,f2,f6,f7,f9,ldM R.gm,ldV R.gc,ldT R.gt,DU hk',DF A1L hk',AUT];refine⟨_,fun x=>AN1 G m hm c hcv t htk l[k].l l[k].m _ (by omega) e2,?_⟩
   try simp -implicitDefEqProofs only[FZ,zB,zG,C9,jR,jJ,jO,jQ,ED,DN,E8,EF,LU,AA,AZ,FI,GU,AB,↓reduceIte,jA,jK,jB]
   have e10:(H++[ABlk.live 4 [FC]]).length=H.length+1:=by simp
   have e11:(H++[ABlk.live 1 [F5]]).length=H.length+1:=by simp
   refine⟨?_,?_⟩
   .simp -implicitDefEqProofs only[FZ,C9,jR,jJ,jO,jQ,ED,DN,JJ,E8,EF,I7,YQ,JH,VD,AA,AZ,FD,D5,BZ,CX,↓reduceIte,jA,jK,jG,jB,enP,jP,KE,VO,s1,s2]
    exact⟨_,_,by trivial,by trivial,by trivial,by trivial,by trivial,by trivial,by trivial,by trivial,by trivial,g6,g7,by omega,by omega,R.ext hx5⟩
   .have t1:FW Tryz.prog (H++[ABlk.live 1 [F5]]++[ABlk.live 4 [FC]]) 28 (.ptr (H++[ABlk.live 1 [F5]]).length 0 0) (.agg (ER (YY m c t l[k].l)))=some (H++[ABlk.live 1 [F5]]++[ABlk.live 4 [ER (YY m c t l[k].l)]]):=by
     rw[stV (CY _ _) rfl,OZ]
    have t2:=stT (t:=ADF m c t l[k].l) (CV (x:=ABlk.live 4 [ER (YY m c t l[k].l)]) (CY H (ABlk.live 1 [F5]))) rfl;simp -implicitDefEqProofs only[FZ,C9,jR,jJ,jO,jQ,ED,DN,JJ,E8,EF,I7,YQ,JH,VD,AA,AZ,FD,D5,BZ,CX,↓reduceIte,jA,jK,jG,jB,enP,jP,KE,VO,t1,t2];exact⟨_,_,by trivial,by trivial,by trivial,by trivial,by trivial,by trivial,by trivial,by trivial,by trivial,CW (CY _ _) (by omega),D8 (CV (CY _ _)),by omega,by omega,R.ext ((((ext.rfl' H).app _).app _).set (jM _) _)⟩
  clear R f1 f2 f4 f6 f7 f9 s1 s2 g6 g7 hx5 R5 hlt;rintro F H6 ⟨b10,b11,f1,f2,f4,f6,f7,f9,f10,f11,f12,g6,g7,hb10,hb11,R5⟩;simp -implicitDefEqProofs only[C9,jR,jJ,jO,jQ,BC,BA,BI,A8,AY,BB,AL,BD,AX,AC,AA,AZ,AU,BH,BG,BR,AB,EK,↓reduceIte,jB,jC,enP,DZ,f12];cases hz:(RF m c t l[k].l==0)
  .have hne:RF m c t l[k].l≠0:=by simpa using hz
   rw[if_neg hne] at hrun;simp -implicitDefEqProofs only[EY,C9,jR,jJ,jO,jQ,BC,BA,BK,A8,CP,EG,FQ,DI,AY,BB,AL,BD,AX,AC,EM,AA,AZ,BG,A7,G9,D5,AB,CX,↓reduceIte,jA,jB,jC,enP,DZ,jP,bne,hz,N8,f4,stZ R5.g4 rfl];rw[KG (ba:=b4) (by simp -implicitDefEqProofs only[AA,↓reduceIte,jA,f4]) (IM (D8 R5.g4) rfl)];refine⟨?_,R5.hx.set (by omega) _⟩;unfold rnW;rw[hrun];simp -implicitDefEqProofs only[AA,↓reduceIte];rw[if_neg hne,f12]
  .have hz0:RF m c t l[k].l=0:=by simpa using hz
   rw[if_pos hz0] at hrun;have R6:=R5.setC (YY m c t l[k].l);have g72:(H6.set cb (.live 4 [ER (YY m c t l[k].l)]))[b11]?=_:=CW g7 (show b11≠cb by omega);have R7:=R6.setT (ADF m c t l[k].l);simp -implicitDefEqProofs only[C9,jR,jJ,jO,jQ,BC,BA,BO,A8,EJ,EQ,DT,AY,BB,AL,BD,AX,AC,EM,AA,AZ,AU,BH,BG,A7,BQ,D5,BR,AB,CX,CZ,↓reduceIte,jA,jB,jT,jC,enP,DZ,jP,bne,hz,f6,f10,ldV g6,stV R5.gc rfl,f7,f11,ldT g72,stT R6.gt rfl,f9,wrap_succ (show k<9223372036854775807 by omega)];exact⟨n-1,by omega,k+1,_,_,by omega,by trivial,by trivial,by trivial,by trivial,by trivial,by trivial,R7,AOI _ _ _ _,AWP _ _ _ _,hrun⟩
 .have hk':¬k<l.length:=by simpa using hc
  rw[jW (by omega)] at hrun;have hr:rnR m (l.map Ss.l)=(c,0):=hrun;have o1:=R.o1;simp -implicitDefEqProofs only[C9,jR,jJ,jO,jQ,BC,BA,BK,DJ,A8,EI,EW,ET,AY,BB,AL,BD,AX,AC,EM,AA,AZ,AU,BH,A7,BQ,D5,AB,CX,↓reduceIte,jA,jB,jC,enP,DZ,jP,f4,f6,ldV R.gc,stV R.g4 rfl];rw[KG (ba:=b4) (by simp -implicitDefEqProofs only[AA,↓reduceIte,jA,f4]) (ldV (D8 R.g4))];refine⟨?_,R.hx.set (by omega) _⟩;unfold rnW;rw[hr];simp -implicitDefEqProofs only[AA,↓reduceIte]
theorem AYM (c:Cvr)(t:Tk):QC (cvS (stO c t))=QC c:=by
 unfold QC cvS stO;simp only[SE]
theorem AX0 (P:List (List Int)):(isL P).map Is.l=P:=by unfold isL; rw[List.map_map]; exact List.map_id _
theorem A0E (s:St):stO (cvS s) (tkS s)=s:=by
 cases s with
 | mk P C a b ls =>
   unfold stO cvS tkS;simp only[AX0];congr 1
   .exact SE P
   .exact SE C
theorem AOR (m:Mo):∀(l:List (List Sg)) (c:Cvr) (t:Tk),GK m c=true->AB7 m t=true ->
  QC (AAG m c t l).1=QC (if(SL m (stO c t) l).1=0 then cvS (SL m (stO c t) l).2 else zV)∧(AAG m c t l).2=(SL m (stO c t) l).1
 | [],c,t,_,_=>by
   refine⟨?_,rfl⟩;show QC c=QC (if(0:Int)=0 then cvS (stO c t) else zV);rw[if_pos rfl,AYM]
 | e::r,c,t,hc,ht=>by
   have hF:=ACU hc ht;have h0:=hF.me;have hE:RF m c t e=U0 m (stO c t) e:=by unfold RF; rw[if_pos h0,if_pos (by rw[hc,ht]; rfl)]
   unfold AAG SL;rw[hE];rcases Classical.em (U0 m (stO c t) e=0) with hz|hz
   .have hnz:¬U0 m (stO c t) e≠0:=fun q=>q hz
    simp only[if_pos hz,if_neg hnz];have hn:=hF.step hz;have ih:=AOR m r (cvS (stp m (stO c t) e)) (tkS (stp m (stO c t) e)) hn.fits hn.trk;rw[A0E] at ih;unfold YY ADF;rw[hE,if_pos hz,if_pos hz];exact ih
   .have hnz:U0 m (stO c t) e≠0:=hz
    simp only[if_neg hz,if_pos hnz];exact⟨trivial,trivial⟩
theorem A1B {m:Mo}(h:EU m=0):AB7 m (VM m)=true:=by
 unfold VM AB7;rw[if_pos h];simp [h,zLs];intro _ _;rfl
theorem AYI {m:Mo}(h:EU m=0):GK m (emV m)=true:=by
 unfold emV;rw[if_pos h];exact OQ h
theorem A0D {m:Mo}(h:EU m=0):stO (emV m) (VM m)=zS m:=by
 unfold stO emV VM zS;rw[if_pos h,if_pos h];congr 1
 .simp [KR,zPs,zP,zIs]
 .simp [KR,zCs,zC,zIs]
 .show(zLs m).map Is.l=_
  unfold zLs;rw[List.map_map];exact List.map_const' ..
theorem AL6 (m:Mo)(l:List (List Sg)):QC (rnR m l).1=QC (AAF m l)∧(rnR m l).2=OB m l:=by
 unfold rnR AAF OB;rcases Classical.em (EU m=0) with h|h
 .rw[if_pos h,if_pos h]
  have:=AOR m l (emV m) (VM m) (AYI h) (A1B h);rw[A0D h] at this;refine⟨?_,this.2⟩;rw[this.1];rcases Classical.em ((SL m (zS m) l).1=0) with h2|h2
  .rw[if_pos h2,if_pos ⟨h,h2⟩]
  .rw[if_neg h2,if_neg (fun q=>h2 q.2)]
 .rw[if_neg h,if_neg h,if_neg (fun q=>h q.1)]
  exact⟨rfl,rfl⟩
theorem AJS {m:Mo}:∀ {l:List (List Sg)} {s:St},FitS m s->(SL m s l).1=0->FitS m (SL m s l).2
 | [],_,h,_=>h
 | e::r,s,h,h0=>by
   unfold SL at h0|-
   split
   .rename_i hn
    rw[if_pos hn] at h0;exact absurd h0 hn
   .rename_i hn
    rw[if_neg hn] at h0;exact AJS (h.step (Classical.byContradiction hn)) h0
theorem AOQ (m:Mo):∀(l:List (List Sg)) (c:Cvr) (t:Tk),CvOk c->CvOk (AAG m c t l).1
 | [],_,_,h=>h
 | e::r,c,t,_=>by
   unfold AAG;split
   .exact AOQ m r _ _ (AOI _ _ _ _)
   .exact SV
theorem A0M (m:Mo)(l:List (List Sg)):CvOk (rnR m l).1:=by
 unfold rnR;split
 .exact AOQ _ _ _ _ (AU0 m)
 .exact SV
theorem AOH (h:Hp)(v:Cvr):FW Tryz.prog (h++[.live 4 [FC]]) 28 (.ptr h.length 0 0) (.agg (ER v))=some (h++[.live 4 [ER v]]):=by rw[stV (CY _ _) rfl,OZ]
section
variable (G:Nat->AV)
end
end Go.Proofs.YtocilianjfhifaaGreatDoor.Xe
namespace Go.Proofs.YtocilianjfhifaaGreatDoor.Xe
open Sm Bins Cov Go.RowKit
open Nat renaming le_trans→zZ
theorem A3E:Tryz.prog.cellsOf 187=2:=by kernel_rfl
theorem A5A:Tryz.prog.cellsOf 58=1:=by kernel_rfl
theorem A49:Tryz.prog.cellsOf 64=1:=by kernel_rfl
def A2H (s:Sg)(_:Nat):Prop:=ACI s
theorem A4Z:Rd Tryz.prog 187 G7 A2H:=by
 intro n
 match n with
 | 0=>exact RdAt.zero
 | 1=>exact AHI Tryz.underlying187
 | n+2 =>
   refine RdAt.map (fun x:ByteArray×Int×Unit=>((x.1,x.2.1):Sg)) (PI Tryz.underlying187 (JQ rfl cl9 (fun _=>rfl) (rdStr _) (JQ rfl cl3 (fun _=>rfl) (rdI _) U2))) (fun _=>rfl) ?_;rintro⟨a,b,_⟩ N ⟨_,_,_,_,_,_,_,_,_,h2,_⟩;exact h2
def AXA (x:Ss)(b:Nat):Prop:=okL A2H x.l b
theorem A4Y:Rd Tryz.prog 58 WE AXA:=by
 intro n
 cases n with
 | zero=>exact RdAt.zero
 | succ n=>exact RdAt.map (fun x:SM×List Sg=>(⟨x.1,x.2⟩:Ss)) (NJ Tryz.underlying58 A3E (by decide) AGL (A4Z n)) (fun _=>rfl) (fun x b h=>TQ h)
theorem AWN {x:Ss}{b:Nat}(h:AXA x b)(hb:b<=1048576):x.l.length<=1048576∧∀s∈x.l,ACI s:=by
 refine⟨zZ (okL.length h) hb,fun s hs=>?_⟩;obtain⟨_,_,h2⟩:=okL.each h s hs;exact h2
structure Rn where
 m:SM
 l:List Ss
def A43 (x:Rn)(b:Nat):Prop:=okL AXA x.l b
theorem AWZ {x:Rn}{b:Nat}(h:A43 x b)(hb:b<=1048576):x.l.length<=1048576∧∀y∈x.l,y.l.length<=1048576∧∀s∈y.l,ACI s:=by
 refine⟨zZ (okL.length h) hb,fun y hy=>?_⟩;obtain⟨b1,h1,h2⟩:=okL.each h y hy;exact AWN h2 (by omega)
end Go.Proofs.YtocilianjfhifaaGreatDoor.Xe
namespace Go.Proofs.YtocilianjfhifaaGreatDoor.Xe
open Sm Bins Cov Wd Go.RowKit
open Bool renaming not_false→jC,not_true→jT,or_false→jQ,false_eq_true→jY
open List renaming length_map→jI,length_take→zD,mem_map→zO,take_succ_eq_append_getElem→zL,take_of_length_le→jX,map_cons→jD,map_nil→jE,append_nil→jF,getElem?_cons_zero→zB,getElem?_cons_succ→zG,drop_zero→qC,drop_eq_getElem_cons→zJ,getElem_mem→jS,drop_eq_nil_of_le→jW,contains_cons→jR,contains_nil→jJ
open Nat renaming le_of_ble_eq_true→jH,reduceEqDiff→jA,reduceBEq→jO,reduceAdd→jK
open Option renaming getD_some→jB,getD_none→jP
def stK (m:Mo)(l:List (List Sg))(k:Nat):St:=(l.take k).foldl (stp m) (zS m)
structure RunOk (m:Mo) (l:List (List Sg)):Prop where
 me:EU m=0
 eq:(SL m (zS m) l).2=stK m l l.length
 e0:(SL m (zS m) l).1=0
 er:∀(k:Nat) (hk:k<l.length),U0 m (stK m l k) l[k]=0
section
variable {m:Mo} {l:List (List Sg)} (R:RunOk m l)
include R
end
structure Tt where
 m:SM
 l:List Ss
def TF (x:Tt):List AV:=[.sl x.m 1 (x.l.map WE)]
theorem AM4 (x:Tt):(TF x)[0]?=some (.sl x.m 1 (x.l.map WE)):=rfl
theorem A20:Frz TF:=fun _ _ _ _=>⟨rfl,rfl⟩
def Tt.ls (x:Tt):List (List Sg):=x.l.map Ss.l
def ARP (x:Tt):Tt:=⟨AVA x.m (min x.l.length 20) x.l.length,x.l.take (min x.l.length 20)⟩
def AK8 (l:List Tt):List Tt:=(l.take (min l.length 5)).map ARP
structure TtOk (x:Tt):Prop where
 n:x.l.length<=1048576
 e:∀y∈x.l,y.l.length<=1048576∧∀s∈y.l,ACI s
theorem AVB (l:List Tt):(AK8 l).length<=5:=by
 unfold AK8;rw[jI,zD]; omega
theorem AYR {l:List Tt}(h:∀x∈l,TtOk x):∀x∈AK8 l,TtOk x:=fun x hx=>by
 obtain⟨y,hy,rfl⟩:=zO.1 hx;have:=h y (List.mem_of_mem_take hy);exact⟨by show(y.l.take _).length<=_; rw[zD]; have:=this.n; omega,fun z hz=>this.e z (List.mem_of_mem_take hz)⟩
theorem A1E (h:Hp)(s:SM)(xs:List (List AV)):FY Tryz.prog false h 96 1 [(0,.sl s 1 xs)]=some (.sl .full 1 [[.sl s 1 xs]],h):=by kernel_rfl
section
variable (G:Nat->AV)
theorem AYQ (l:List Tt)(s:SM)(h:Hp)(hn:l.length<=1048576)(hl:∀x∈l,x.l.length<=1048576):PCall (En G) 77 [.sl s 1 (l.map TF)] h (.sl (nm (AK8 l)) 1 ((AK8 l).map TF)):=by
 refine MW A20 ?_;refine acN Tryz.func77 rfl ?_;show awp _ _ _ _ _ (EN _ [.tmp 2] _);have e1:min ((l.length:Nat):Int) 5=((min l.length 5:Nat):Int):=by omega
 simp -implicitDefEqProofs only[Option.map_some,Option.map_none,BC,BP,BA,A8,AY,BB,AO,AQ,AL,BD,AX,AC,AA,AZ,AU,BH,IK,BG,A7,UU,D7,AA8,AB,V5,BF,↓reduceIte,jA,jB,jC,enP,A0X,jI,e1,AZN A1V A0B (h:=h) (m:=s) (kk:=.i64) (xs:=l.map TF) (u:=min l.length 5) (by simp; omega),<-List.map_take];show _;unfold AK8;have hl':∀x∈l.take (min l.length 5),x.l.length<=1048576:=fun v hv=>hl v (List.mem_of_mem_take hv)
 have hn':(l.take (min l.length 5)).length<=1048576:=by rw[zD]; omega
 generalize l.take (min l.length 5)=xs at hl' hn'|-
 generalize AVA s (min l.length 5) l.length=s';clear e1
 refine DK (fun n F H=>∃k u,n+k=xs.length∧F 10=.sl s' 1 (xs.map TF)∧F 11=.int .i64 (xs.length:Nat)∧F 3=u∧F 12=.int .i64 (k:Nat)∧ext h H∧outG 1 TF h ((xs.take k).map ARP) u H) xs.length
  ⟨0,.sl .nil 0 [],by simp,by simp -implicitDefEqProofs only[AA,↓reduceIte,jA],by simp -implicitDefEqProofs only[AA,↓reduceIte,jA,jI],by simp -implicitDefEqProofs only[AA,↓reduceIte,jA],by simp -implicitDefEqProofs only[AA,↓reduceIte]<;>rfl,ext.rfl' _,outG.nil _ _ _ _⟩ ?_
 rintro n F H ⟨k,u,hk,f10,f11,f3,f12,hx,ho⟩;simp -implicitDefEqProofs only[BC,BA,BI,A8,AY,BB,AO,AQ,AL,BD,AX,AC,AA,AZ,BR,AB,DC,↓reduceIte,jB,jC,enP,f11,f12];refine CU (fun hc=>?_) (fun hc=>?_)
 .have hk':k<xs.length:=by simpa using hc
  obtain⟨u',H3,ha,ho2,_,hx2,_,_⟩:=ho.append (P:=Tryz.prog) A1V A0B A4Q A5H (by omega) (by simp<;>omega) hx (ARP xs[k]);have ha':H7 Tryz.prog true H 96 96 u (.sl .full 1 [[.sl (AVA xs[k].m (min xs[k].l.length 20) xs[k].l.length) 1 ((xs[k].l.take (min xs[k].l.length 20)).map WE)]])=some (u',H3):=ha;have e:(xs.take k).map ARP++[ARP xs[k]]=(xs.take (k+1)).map ARP:=by rw[zL hk',List.map_append]; rfl
  rw[e] at ho2;have e2:min ((xs[k].l.length:Nat):Int) 20=((min xs[k].l.length 20:Nat):Int):=by omega
  have hsl:=AZN A4S A1Z (h:=H) (m:=xs[k].m) (kk:=.i64) (xs:=xs[k].l.map WE) (u:=min xs[k].l.length 20) (by simp; omega);rw[<-List.map_take,jI] at hsl;simp -implicitDefEqProofs only[Option.map_some,Option.map_none,EY,FT,BC,BP,BA,BO,A8,EJ,EQ,AY,BB,AO,AQ,AL,BD,AX,AC,AA,AZ,AU,BH,BG,A7,EP,BQ,BR,UU,CE,D7,AA8,GR,BZ,AB,CZ,V5,↓reduceIte,jA,jB,jC,enP,A0Y,A02,f10,f3,f12,DU hk',DF A1K hk',AM4,jI,e2,hsl,A1E,ha',wrap_succ (show k<9223372036854775807 by omega)];exact⟨n-1,by omega,k+1,u',by omega,by trivial,by trivial,by trivial,by trivial,hx2,ho2⟩
 .have hk':¬k<xs.length:=by simpa using hc
  rw[jX (by omega)] at ho;simp -implicitDefEqProofs only[BC,BA,BK,DJ,A8,EI,EW,ET,CG,AY,BB,AO,AQ,AL,BD,AX,AC,AA,AZ,BG,A7,↓reduceIte,jA,jB,jC,f3];exact⟨hx,ho⟩
end
def mgR (m:Mo):Cvr->List (List (List Sg))->Cvr×Int
 | c,[]=>(c,0)
 | c,x::r=>if OB m x≠0 then (zV,OB m x) else mgR m (O6 c (AAF m x)) r
def OU (m:Mo)(l:List (List (List Sg))):Cvr×Int:=if EU m=0 then mgR m (KR m) l else (zV,EU m)
def rwM (v:Cvr×Int):List AV:=if v.2=0 then ER v.1 else FC
theorem AAE {m:Mo}{l:List (List Sg)}(h0:EU m=0)(h:OB m l=0):GK m (AAF m l)=true:=by
 unfold OB at h;rw[if_pos h0] at h;unfold AAF;rw[if_pos ⟨h0,h⟩];exact(AJS (AZ5 h0) h).fits
theorem APA {m:Mo}:∀ {l:List (List (List Sg))} {c:Cvr},(mgR m c l).2≠0->(mgR m c l).1=zV
 | [],_,h=>absurd rfl h
 | x::r,c,h=>by
   unfold mgR at h|-
   split
   .rfl
   .rename_i hq
    rw[if_neg hq] at h;exact APA h
theorem ADW {m:Mo}{l:List (List (List Sg))}(h:(OU m l).2≠0):(OU m l).1=zV:=by
 unfold OU at h|-
 split
 .rename_i hq
  rw[if_pos hq] at h;exact APA h
 .rfl
theorem AS0 {v:Cvr×Int}(hb:v.2≠0->v.1=zV):CvR (.tup [.agg (rwM v),.int .i64 v.2]) (.tup [.agg (ER v.1),.int .i64 v.2]):=by
 unfold rwM;split
 .exact CvR.refl _
 .rename_i h
  rw[hb h];exact CvR.tup (CvRL.cons AFR (CvRL.refl _))
theorem AOP (v:Cvr×Int)(n:Nat)(H:Hp):IV n H 3 (.tup [.agg (rwM v),.int .i64 v.2])=.tup [.agg (rwM v),.int .i64 v.2]:=by
 unfold rwM; split<;>rfl
theorem AKC {m:Mo}(h0:EU m=0):∀ {l:List (List (List Sg))} {c:Cvr},GK m c=true->(mgR m c l).2=0->GK m (mgR m c l).1=true
 | [],_,hc,_=>hc
 | x::r,c,hc,h=>by
   unfold mgR at h|-
   split
   .rename_i hq
    rw[if_pos hq] at h;exact absurd h hq
   .rename_i hq
    rw[if_neg hq] at h;exact AKC h0 (AAS hc (AAE h0 (Classical.byContradiction hq))) h
theorem AQX {m:Mo}{l:List (List (List Sg))}(h:(OU m l).2=0):GK m (OU m l).1=true:=by
 unfold OU at h|-
 split
 .rename_i hq
  rw[if_pos hq] at h;exact AKC hq (OQ hq) h
 .rename_i hq
  rw[if_neg hq] at h;exact absurd h hq
theorem AXV (m:Mo)(l:List (List (List Sg))):CvOk (OU m l).1:=by
 rcases Classical.em ((OU m l).2=0) with h|h
 .exact UL (AQX h)
 .rw[ADW h]; exact SV
theorem AVJ (h:Hp)(a:Cvr):FY Tryz.prog false h 37 1 [(0,.agg (ER a))]=some (.sl .full 4 ([a].map ER),h):=by
 exact(by kernel_rfl:FY Tryz.prog false h 37 1 [(0,.agg [.sl a.pm 1 (a.pts.map encL),.sl a.cm 1 (a.crs.map encL),.int .i64 a.sam,.int .i64 a.ill])]=_)
set_option maxHeartbeats 2000000 in
theorem AR6 (G:Nat->AV)(hG:GOk G)(hT:O7 G)(m:Mo)(hm:MoOk m)(l:List Tt)(s:SM)(h:Hp)(hl:l.length<=1048576)(he:∀x∈l,TtOk x) :
  PCall (En G) 78 [.agg (D6 m),.sl s 1 (l.map TF)] h (.tup [.agg (ER (OU m (l.map Tt.ls)).1),.int .i64 (OU m (l.map Tt.ls)).2]):=by
 refine PCall.res ?_ (AS0 ADW);refine QL 3 (AOP _) ?_;refine acN Tryz.func78 rfl ?_;show awp _ _ _ _ _ (EN _ [.cell 4 28,.tmp 5] _);have gm:(h++[ABlk.live 2 [D6 m]]++[ABlk.live 4 [FC]])[h.length]?=some (ABlk.live 2 [D6 m]):=CV (CY _ _);have g4:(h++[ABlk.live 2 [D6 m]]++[ABlk.live 4 [FC]])[(h++[ABlk.live 2 [D6 m]]).length]?=some (ABlk.live 4 [FC]):=CY _ _;have o4:h.length<(h++[ABlk.live 2 [D6 m]]).length:=by simp
 have hx:ext h (h++[ABlk.live 2 [D6 m]]++[ABlk.live 4 [FC]]):=((ext.rfl' h).app _).app _;simp -implicitDefEqProofs only[BC,BA,A8,AY,BB,AO,AQ,AL,BD,AX,AC,AA,AZ,AU,BH,A7,FD,FU,BQ,BZ,BF,↓reduceIte,jA,jB,jC,enP,bxM,KE]
 generalize h++[ABlk.live 2 [D6 m]]++[ABlk.live 4 [FC]]=H0 at gm g4 hx|-
 generalize (h++[ABlk.live 2 [D6 m]]).length=b4 at g4 o4|-
 obtain⟨s1,s2,E⟩:=A2U (emV m) (emT m) gm g4 o4 hx;have l4:=CJ g4;simp -implicitDefEqProofs only[AY,AO,AQ,AL,BD,AX,AC,AA,AZ,BX,CB,BU,AB,jD,jE,jF,↓reduceIte,jB,jC,ldM gm];refine(AN3 G hG m hm _).use ?_;simp -implicitDefEqProofs only[zB,zG,BC,BA,BI,A8,AY,BB,AO,AQ,AL,BD,AX,AC,EM,AA,AZ,AU,BH,BG,A7,FD,D5,BR,FI,GU,BZ,AB,CX,EK,↓reduceIte,jA,jB,jC,enP,jP,KE,VO,s1,s2,bne]
 generalize ((H0++[ABlk.live 4 [FC]]++[ABlk.live 1 [F5]]).set H0.length (ABlk.live 4 [ER (emV m)])).set (H0++[ABlk.live 4 [FC]]).length (ABlk.live 1 [KF (emT m)])=H1 at E|-
 generalize H0.length=b6 at E l4|-
 clear s1 s2 gm g4 hx;cases h1:(EU m==0)
 .have h1':EU m≠0:=by simpa using h1
  have hne:OU m (l.map Tt.ls)=(zV,EU m):=by unfold OU; rw[if_neg h1']
  simp -implicitDefEqProofs only[EY,BC,BA,BK,A8,CP,DI,AY,BB,AO,AQ,AL,BD,AX,AC,EM,AA,AZ,BG,A7,G9,D5,AB,CX,↓reduceIte,jA,jB,jC,enP,jP,N8,stZ E.g4 rfl];rw[KG (ba:=b4) (by simp -implicitDefEqProofs only[AA,↓reduceIte,jA]) (IM (D8 E.g4) rfl)];exact⟨by simp -implicitDefEqProofs only[AA,↓reduceIte,hne]; unfold rwM; rw[if_neg h1'],E.hx.set (by omega) _⟩
 have h1':EU m=0:=by simpa using h1
 have hem:emV m=KR m:=by unfold emV; rw[if_pos h1']
 rw[hem] at E;have o6:=E.o6;have l6:=CJ E.g6;have E9:Al h (H1++[ABlk.live 4 [ER (KR m)]]) m (KR m) b4 H1.length:=⟨FX E.gm,FX E.g4,CY _ _,E.o4,by omega,E.hx.app _⟩;simp -implicitDefEqProofs only[BC,BP,BA,BO,A8,DT,AY,BB,AO,AQ,AL,BD,AX,AC,EM,AA,AZ,AU,BH,BG,FD,BQ,D5,D7,BZ,AB,CX,BF,BN,↓reduceIte,jA,jB,jT,jC,enP,A0X,jP,ldV E.g6,KE,XZ,jI]
 generalize H1++[ABlk.live 4 [ER (KR m)]]=H2 at E9|-
 generalize H1.length=b9 at E9|-
 have hmR:OU m (l.map Tt.ls)=mgR m (KR m) ((l.drop 0).map Tt.ls):=by unfold OU; rw[if_pos h1',qC]
 refine DK (fun n F H=>∃i c,n+i=l.length∧F 2=.ptr h.length 0 0∧F 4=.ptr b4 0 0∧F 9=.ptr b9 0 0∧F 25=.sl s 1 (l.map TF)∧F 26=.int .i64 (l.length:Nat)∧F 27=.int .i64 (i:Nat)∧Al h H m c b4 b9∧GK m c=true∧OU m (l.map Tt.ls)=mgR m c ((l.drop i).map Tt.ls)) l.length
  ⟨0,KR m,by simp,by simp -implicitDefEqProofs only[AA,↓reduceIte,jA],by simp -implicitDefEqProofs only[AA,↓reduceIte,jA],by simp -implicitDefEqProofs only[AA,↓reduceIte,jA],by simp -implicitDefEqProofs only[AA,↓reduceIte,jA],by simp -implicitDefEqProofs only[AA,↓reduceIte,jA],by simp -implicitDefEqProofs only[AA,↓reduceIte]<;>rfl,E9,OQ h1',hmR⟩ ?_
 clear E E9 hmR;rintro n F H ⟨i,c,hi,f2,f4,f9,f25,f26,f27,E,hc,hrun⟩;simp -implicitDefEqProofs only[BC,BA,BI,A8,AY,BB,AO,AQ,AL,BD,AX,AC,AA,AZ,BR,AB,DC,↓reduceIte,jB,jC,enP,f26,f27];refine CU (fun hcc=>?_) (fun hcc=>?_)
 .have hi':i<l.length:=by simpa using hcc
  rw[zJ hi',jD] at hrun;have hxi:=he _ (jS hi');simp -implicitDefEqProofs only[BC,BP,BA,BO,A8,AY,BB,AO,AQ,AL,BD,AX,AC,AA,AZ,BX,BG,A7,BQ,CE,CB,BU,AB,jD,jE,jF,↓reduceIte,jA,jB,jC,enP,A02,f25,f27,DU hi',DF A1K hi',AM4,f2,ldM E.gm];refine(AV7 G hG hT m hm l[i].l l[i].m H hxi.n (fun x hx=>(hxi.e x hx).1)).use ?_;have E1:=E.app [ABlk.live 4 [ER (AAF m (l[i].l.map Ss.l))]];have gT:=ldV (CY H (ABlk.live 4 [ER (AAF m (l[i].l.map Ss.l))]));have o4':=E.o4;cases hb:(OB m (l[i].l.map Ss.l)==0)
  .have hb':OB m (l[i].l.map Ss.l)≠0:=by simpa using hb
   have hr:OU m (l.map Tt.ls)=(zV,OB m (l[i].l.map Ss.l)):=by
    rw[hrun];show(if OB m (l[i].l.map Ss.l)≠0 then (zV,OB m (l[i].l.map Ss.l)) else _)=_;rw[if_pos hb']
   simp -implicitDefEqProofs only[zB,zG,EY,BC,BA,BK,BI,A8,CP,EG,FQ,DI,AY,BB,AO,AQ,AL,BD,AX,AC,EM,AA,AZ,AU,BH,BG,A7,FD,G9,D5,BR,FI,GU,BZ,AB,CX,EK,↓reduceIte,jA,jB,jC,enP,jP,KE,XZ,bne,hb,N8,f4,stZ E1.g4 rfl];rw[KG (ba:=b4) (by simp -implicitDefEqProofs only[AA,↓reduceIte,jA,f4]) (IM (D8 E1.g4) rfl)];exact⟨by simp -implicitDefEqProofs only[AA,↓reduceIte,hr]; unfold rwM; rw[if_neg hb'],E1.hx.set (by omega) _⟩
  .have hb':OB m (l[i].l.map Ss.l)=0:=by simpa using hb
   have hfi:=AAE h1' hb'
   have hr:OU m (l.map Tt.ls)=mgR m (O6 c (AAF m (l[i].l.map Ss.l))) ((l.drop (i+1)).map Tt.ls):=by
    rw[hrun];show(if OB m (l[i].l.map Ss.l)≠0 then (zV,OB m (l[i].l.map Ss.l)) else _)=_;rw[if_neg (by rw[hb']; decide)];rfl
   simp -implicitDefEqProofs only[zB,zG,EY,FT,BC,BA,BO,BI,A8,DT,AY,BB,AO,AQ,AL,BD,AX,AC,EM,AA,AZ,AU,BX,BH,BG,A7,FD,EP,BQ,D5,BR,FI,GU,CB,BU,BZ,AB,CX,EK,jD,jE,jF,↓reduceIte,jA,jB,jT,jC,enP,jP,KE,XZ,bne,hb,f9,ldV E1.g6,gT,AVJ];refine(AMM G m c [AAF m (l[i].l.map Ss.l)] .full _ hc (fun v hv=>by rw[List.mem_singleton] at hv; rw[hv]; exact hfi) (by simp)).use ?_;simp -implicitDefEqProofs only[BA,A8,EJ,EQ,AY,BB,AO,AQ,AL,BD,AX,AC,EM,AA,AZ,AU,BH,BG,D5,BR,AB,CX,CZ,↓reduceIte,jA,jB,jC,enP,jP,List.foldl_cons,List.foldl_nil,f9,stV E1.g6 rfl,f27,wrap_succ (show i<9223372036854775807 by omega)];exact⟨n-1,by omega,i+1,O6 c (AAF m (l[i].l.map Ss.l)),by omega,by trivial,by trivial,by trivial,by trivial,by trivial,by trivial,E1.put6 _,AAS hc hfi,hr⟩
 .have hi':¬i<l.length:=by simpa using hcc
  rw[jW (by omega)] at hrun;have hr:OU m (l.map Tt.ls)=(c,0):=hrun;have o4':=E.o4;simp -implicitDefEqProofs only[BC,BA,BK,DJ,A8,EI,EW,ET,AY,BB,AO,AQ,AL,BD,AX,AC,EM,AA,AZ,AU,BH,A7,BQ,D5,AB,CX,↓reduceIte,jA,jB,jC,enP,jP,f4,f9,ldV E.g6,stV E.g4 rfl];rw[KG (ba:=b4) (by simp -implicitDefEqProofs only[AA,↓reduceIte,jA,f4]) (ldV (D8 E.g4))];exact⟨by simp -implicitDefEqProofs only[AA,↓reduceIte,hr]; unfold rwM; rw[if_pos rfl],E.hx.set (by omega) _⟩
def rsE (m:Mo):List (List (List Sg))->Int
 | []=>0
 | x::r=>if OB m x≠0 then OB m x else rsE m r
def rsV (m:Mo)(l:List (List (List Sg))):List Cvr:=l.map fun x=>(rnR m x).1
def SN (m:Mo)(l:List (List (List Sg))):Cvr×Int :=
 if EU m≠0 then (zV,EU m) else if rsE m l≠0 then (zV,rsE m l) else (ACF m (rsV m l),QD m (rsV m l))
theorem AS3 {m:Mo}{l:List (List Sg)}(h0:EU m=0)(h:OB m l=0):GK m (rnR m l).1=true:=by
 rw[ARC (AL6 m l).1]; exact AAE h0 h
theorem Y5 {m:Mo}(h0:EU m=0):∀ {l:List (List (List Sg))},rsE m l=0->∀v∈rsV m l,GK m v=true
 | [],_,v,hv=>absurd hv List.not_mem_nil
 | x::r,h,v,hv=>by
   unfold rsE at h;split at h
   .rename_i hq; exact absurd h hq
   .rename_i hq
    have hq':OB m x=0:=Classical.byContradiction hq;rcases List.mem_cons.1 hv with rfl|hv
    .exact AS3 h0 hq'
    .exact Y5 h0 h v hv
theorem AO8 {m:Mo}:∀(l:List (List (List Sg))) (c:Cvr),(mgR m c l).2=rsE m l
 | [],_=>rfl
 | x::r,c=>by
   unfold mgR rsE;split
   .rfl
   .exact AO8 r _
theorem AO9 {m:Mo}:∀(l:List (List (List Sg))) (c d:Cvr),QC c=QC d->rsE m l=0->QC (mgR m c l).1=QC ((rsV m l).foldl O6 d)
 | [],_,_,h,_=>h
 | x::r,c,d,h,h0=>by
   unfold rsE at h0;split at h0
   .rename_i hq; exact absurd h0 hq
   .rename_i hq
    unfold mgR;rw[if_neg hq];show _=QC ((rsV m r).foldl O6 (O6 d (rnR m x).1));exact AO9 r _ _ (by rw[AK5,AK5,h,(AL6 m x).1]) h0
theorem A0P (m:Mo)(l:List (List (List Sg))):(SN m l).2=(OU m l).2:=by
 unfold SN OU;rcases Classical.em (EU m=0) with h0|h0
 .rw[if_neg (by simpa using h0),if_pos h0,AO8]
  rcases Classical.em (rsE m l=0) with h1|h1
  .rw[if_neg (by simpa using h1),h1]
   exact Q8.2 ⟨h0,Y5 h0 h1⟩
  .rw[if_pos h1]
 .rw[if_pos h0,if_neg h0]
theorem AS7 (m:Mo)(l:List (List (List Sg))):QC (OU m l).1=QC (SN m l).1:=by
 rcases Classical.em ((OU m l).2=0) with h|h
 .have h0:EU m=0:=Classical.byContradiction fun q=>by
   unfold OU at h; rw[if_neg q] at h; exact q h
  unfold OU at h|-
  rw[if_pos h0] at h|-
  rw[AO8] at h;unfold SN;rw[if_neg (by simpa using h0),if_neg (by simpa using h)];have ha:QD m (rsV m l)=0:=Q8.2 ⟨h0,Y5 h0 h⟩;unfold ACF;rw[if_pos ha];exact AO9 l _ _ rfl h
 .rw[ADW h]
  unfold OU at h;unfold SN;rcases Classical.em (EU m=0) with h0|h0
  .rw[if_pos h0,AO8] at h
   rw[if_neg (by simpa using h0),if_pos h]
  .rw[if_pos h0]
theorem AW7 (m:Mo)(l:List (List (List Sg))):CvOk (SN m l).1:=by
 unfold SN;split
 .exact SV
 .split
  .exact SV
  .rcases Classical.em (QD m (rsV m l)=0) with hz|hz
   .exact UL (AR2 hz)
   .unfold ACF; rw[if_neg hz]; exact SV
theorem AS8 {m:Mo}{l:List (List (List Sg))}(h:(SN m l).2≠0):(SN m l).1=zV:=by
 unfold SN at h|-
 split
 .rfl
 .rename_i h1
  rw[if_neg h1] at h;split
  .rfl
  .rename_i h2
   rw[if_neg h2] at h;unfold ACF;rw[if_neg h]
set_option maxHeartbeats 4000000 in
theorem AV6 (G:Nat->AV)(m:Mo)(hm:MoOk m)(l:List Tt)(s:SM)(h:Hp)(hl:l.length<=1048576)(he:∀x∈l,TtOk x) :
  PCall (En G) 79 [.agg (D6 m),.sl s 1 (l.map TF)] h (.tup [.agg (ER (SN m (l.map Tt.ls)).1),.int .i64 (SN m (l.map Tt.ls)).2]):=by
 refine PCall.res ?_ (AS0 AS8);refine QL 3 (AOP _) ?_;refine LV (H:=hint [29] [(42,[41])]) (enM G) Tryz.func79 rfl (by kernel_rfl) (by kernel_rfl) (jH (by kernel_rfl)) ?_;show awp _ _ _ _ _ (EN _ [.cell 4 28,.tmp 5] _);have gm:(h++[ABlk.live 2 [D6 m]]++[ABlk.live 4 [FC]])[h.length]?=some (ABlk.live 2 [D6 m]):=CV (CY _ _);have g4:(h++[ABlk.live 2 [D6 m]]++[ABlk.live 4 [FC]])[(h++[ABlk.live 2 [D6 m]]).length]?=some (ABlk.live 4 [FC]):=CY _ _;have o4:h.length<(h++[ABlk.live 2 [D6 m]]).length:=by simp
 have hx:ext h (h++[ABlk.live 2 [D6 m]]++[ABlk.live 4 [FC]]):=((ext.rfl' h).app _).app _;simp -implicitDefEqProofs only[C9,jR,jJ,jO,jQ,BC,BA,A8,AY,BB,AL,BD,AX,AC,AA,AZ,AU,BH,A7,FD,FU,BQ,BZ,BF,↓reduceIte,jA,jB,jC,enP,jY,G8,bxM,KE]
 generalize h++[ABlk.live 2 [D6 m]]++[ABlk.live 4 [FC]]=H0 at gm g4 hx|-
 generalize (h++[ABlk.live 2 [D6 m]]).length=b4 at g4 o4|-
 have l4:=CJ g4;simp -implicitDefEqProofs only[C9,jR,jJ,jO,jQ,AY,AL,BD,AX,AC,AA,AZ,BX,CB,BU,AB,jD,jE,jF,↓reduceIte,jB,jC,jY,G8,ldM gm];refine(PM G m hm _).use ?_;simp -implicitDefEqProofs only[C9,jR,jJ,jO,jQ,BC,BA,BI,A8,AY,BB,AL,BD,AX,AC,AA,AZ,AU,BH,BG,A7,BR,AB,EK,↓reduceIte,jB,jC,enP,jY,G8,bne];cases h1:(EU m==0)
 .have h1':EU m≠0:=by simpa using h1
  have hne:SN m (l.map Tt.ls)=(zV,EU m):=by unfold SN; rw[if_pos h1']
  simp -implicitDefEqProofs only[EY,C9,jR,jJ,jO,jQ,BC,BA,BK,A8,CP,DI,AY,BB,AL,BD,AX,AC,EM,AA,AZ,BG,A7,G9,D5,AB,CX,↓reduceIte,jA,jB,jC,enP,jP,jY,G8,N8,stZ g4 rfl];rw[KG (ba:=b4) (by simp -implicitDefEqProofs only[AA,↓reduceIte,jA]) (IM (D8 g4) rfl)];exact⟨by simp -implicitDefEqProofs only[AA,↓reduceIte,hne]; unfold rwM; rw[if_neg h1'],hx.set (by omega) _⟩
 have h1':EU m=0:=by simpa using h1
 have hne:¬EU m≠0:=by simpa using h1'
 simp -implicitDefEqProofs only[C9,jR,jJ,jO,jQ,BC,BP,BA,BO,A8,DT,AY,BB,AL,BD,AX,AC,AU,BH,IK,A7,↓reduceIte,jB,jT,jC,jY,G8]
 refine GN 0 (fun F H=>F 2=.ptr h.length 0 0∧F 4=.ptr b4 0 0∧outG 4 ER H0 (rsV m (l.map Tt.ls)) (F 7) H∧ext H0 H∧rsE m (l.map Tt.ls)=0)
  (fun F H=>F 4=.ptr b4 0 0∧F 5=.int .i64 (rsE m (l.map Tt.ls))∧H[b4]?=some (ABlk.live 4 [FC])∧ext h H∧rsE m (l.map Tt.ls)≠0) ?_ ?_ ?_
 .refine DK (fun n F H=>∃i v,n+i=l.length∧F 1=.sl s 1 (l.map TF)∧F 2=.ptr h.length 0 0∧F 4=.ptr b4 0 0∧F 7=v∧F 8=.int .i64 (i:Nat)∧outG 4 ER H0 (rsV m ((l.take i).map Tt.ls)) v H∧ext H0 H∧rsE m (l.map Tt.ls)=rsE m ((l.drop i).map Tt.ls)) l.length
   ⟨0,.sl .nil 0 [],by simp,by simp -implicitDefEqProofs only[AA,BF,BN,↓reduceIte,jA],by simp -implicitDefEqProofs only[AA,↓reduceIte,jA],by simp -implicitDefEqProofs only[AA,↓reduceIte,jA],by simp -implicitDefEqProofs only[AA,↓reduceIte,jA],by simp -implicitDefEqProofs only[AA,↓reduceIte]<;>rfl,outG.nil _ _ _ _,ext.rfl' _,rfl⟩ ?_
  rintro n F H ⟨i,v,hi,f1,f2,f4,f7,f8,hv,hxH,hrun⟩;simp -implicitDefEqProofs only[C9,jR,jJ,jO,jQ,BC,BA,BI,A8,AY,BB,AL,BD,AX,AC,AA,AZ,BG,BR,D7,AB,DC,↓reduceIte,jA,jB,jC,enP,A0X,jY,G8,f1,f8,jI];refine CU (fun hc=>?_) (fun hc=>?_)
  .have hi':i<l.length:=by simpa using hc
   have hxi:=he _ (jS hi');have gmH:=FP hxH gm;have g4H:=FP hxH g4;rw[zJ hi',jD] at hrun;have hE:=(AL6 m (l[i].l.map Ss.l)).2;simp -implicitDefEqProofs only[BC,BP,BO,A8];refine EZ (by kernel_rfl) ?_;simp -implicitDefEqProofs only[FZ,C9,jR,jJ,jO,jQ,ED,DN,EF,FO,FB,EE,LU,GH,AAY,AA,AZ,BX,BQ,CE,FI,AB,jD,jE,jF,↓reduceIte,jA,jK,jB,enP,A02,f1,f2,f8,ldM gmH,DU hi',DF A1K hi',AM4];refine⟨_,fun x=>AY7 G m hm l[i].l l[i].m _ hxi.n hxi.e,?_⟩;have g4':=FX (x:=[ABlk.live 4 [ER (rnR m (l[i].l.map Ss.l)).1]]) g4H;have hxH':=hxH.app [ABlk.live 4 [ER (rnR m (l[i].l.map Ss.l)).1]];have gT:=ldV (CY H (ABlk.live 4 [ER (rnR m (l[i].l.map Ss.l)).1]))
   try simp -implicitDefEqProofs only[FZ,zB,zG,C9,jR,jJ,jO,jQ,ED,DN,JJ,E8,EF,I7,YQ,JH,LU,BC,BA,BI,A8,AY,BB,AL,BD,AX,AC,AA,AZ,AU,BH,BG,FD,D5,BR,FI,GU,BZ,AB,CX,EK,↓reduceIte,jA,jK,Nat.zero_add,jB,jC,enP,jP,jY,G8,KE,XZ]
   rw[hE];cases hb:(OB m (l[i].l.map Ss.l)==0)
   .have hb':OB m (l[i].l.map Ss.l)≠0:=by simpa using hb
    have hr:rsE m (l.map Tt.ls)=OB m (l[i].l.map Ss.l):=by
     rw[hrun];show(if OB m (l[i].l.map Ss.l)≠0 then OB m (l[i].l.map Ss.l) else _)=_;rw[if_pos hb']
    simp -implicitDefEqProofs only[EY,C9,jR,jJ,jO,jQ,BC,BA,BK,A8,CP,EG,NG,FQ,DI,AY,BB,AL,BD,AX,AC,EM,AA,AZ,BG,A7,G9,D5,AB,CX,↓reduceIte,jA,jB,jC,enP,jP,jY,G8,bne,hb,N8,f4,stZ g4' rfl];exact⟨by trivial,by rw[hr],D8 g4',(hx.trans hxH').set (by omega) _,by rw[hr]; exact hb'⟩
   .have hb':OB m (l[i].l.map Ss.l)=0:=by simpa using hb
    have hr:rsE m (l.map Tt.ls)=rsE m ((l.drop (i+1)).map Tt.ls):=by
     rw[hrun];show(if OB m (l[i].l.map Ss.l)≠0 then OB m (l[i].l.map Ss.l) else _)=_;rw[if_neg (by rw[hb']; decide)]
    have hn:(rsV m ((l.take i).map Tt.ls)).length<8388608:=by unfold rsV; simp; omega
    obtain⟨v',H2,hap,hv2,_,hx2,_,_⟩:=(hv.app [ABlk.live 4 [ER (rnR m (l[i].l.map Ss.l)).1]]).append A4T AB8 A4R A5I (by omega) hn hxH' (rnR m (l[i].l.map Ss.l)).1
    have htk:rsV m ((l.take i).map Tt.ls)++[(rnR m (l[i].l.map Ss.l)).1]=rsV m ((l.take (i+1)).map Tt.ls):=by
     rw[zL hi',List.map_append];unfold rsV;rw[List.map_append];rfl
    rw[htk] at hv2;have hap':H7 Tryz.prog true (H++[ABlk.live 4 [ER (rnR m (l[i].l.map Ss.l)).1]]) 37 37 v (.sl .full 4 [ER (rnR m (l[i].l.map Ss.l)).1])=some (v',H2):=hap;simp -implicitDefEqProofs only[EY,FT,C9,jR,jJ,jO,jQ,BA,BO,A8,EJ,EQ,DT,AY,BB,AL,BD,AX,AC,AA,AZ,AU,BH,BG,A7,EP,BQ,BR,GR,BZ,AB,CZ,jD,jE,↓reduceIte,jA,jB,jT,jC,enP,jY,G8,bne,hb,f7,gT,AVJ,hap',f8,wrap_succ (show i<9223372036854775807 by omega)];exact⟨n-1,by omega,i+1,v',by omega,by trivial,by trivial,by trivial,by trivial,by trivial,hv2,hx2,hr⟩
  .have hi':¬i<l.length:=by simpa using hc
   rw[jX (by omega)] at hv;rw[jW (by omega)] at hrun;simp -implicitDefEqProofs only[DJ,EI,J3,ET,AA,↓reduceIte,jA];exact⟨by trivial,by trivial,by rw[f7]; exact hv,hxH,hrun⟩
 .rintro F H ⟨f2,f4,hv,hxH,hz0⟩
  have gmH:=FP hxH gm;have g4H:=FP hxH g4;have hr:SN m (l.map Tt.ls)=(ACF m (rsV m (l.map Tt.ls)),QD m (rsV m (l.map Tt.ls))):=by unfold SN; rw[if_neg hne,if_neg (by simpa using hz0)]
  have hlen:(rsV m (l.map Tt.ls)).length=l.length:=by unfold rsV; simp
  have hok:∀v∈rsV m (l.map Tt.ls),CvOk v:=fun v hv=>by
   obtain⟨x,_,rfl⟩:=zO.1 hv;exact A0M m x
  rw[hr];have hal:QD m (rsV m (l.map Tt.ls))=0:=Q8.2 ⟨h1',Y5 h1' hz0⟩;have hrw:rwM (ACF m (rsV m (l.map Tt.ls)),QD m (rsV m (l.map Tt.ls)))=ER (ACF m (rsV m (l.map Tt.ls))):=by unfold rwM; rw[if_pos hal]
  rw[hrw];rcases hv with⟨e,f7⟩|⟨hne2,b,b1,f7,b3⟩
  .rw[e] at hok hlen|-
   have hz:=AX5 (H:=H) (i:=41) (k:=0) (m:=.nil) (xs:=[]);simp -implicitDefEqProofs only[C9,jR,jJ,jO,jQ,BC,BA,A8,EW,AY,AL,BD,AX,AC,AA,AZ,BX,BG,BQ,CB,BU,AB,jD,jE,jF,↓reduceIte,jA,jB,jC,enP,jY,G8,f2,f7,ldM gmH,ZG,AL,hz];refine((AP2 G m [] .nil hm (fun v hv=>by cases hv) (by simp) _).args (CvRL.cons (CvR.refl _) (CvRL.cons (CvR.sl (Cv.nil 0 4)) CvRL.nil))).use ?_;simp -implicitDefEqProofs only[zB,zG,C9,jR,jJ,jO,jQ,BK,A8,AY,BB,AL,BD,AX,AC,EM,AA,AZ,A7,D5,FI,GU,AB,CX,↓reduceIte,jA,jB,jC,enP,jP,jY,G8,f4,stV g4H rfl];rw[KG (ba:=b4) (by simp -implicitDefEqProofs only[AA,↓reduceIte,jA,f4]) (ldV (D8 g4H))];exact⟨by simp -implicitDefEqProofs only[AA,↓reduceIte],(hx.trans hxH).set (by omega) _⟩
  .have hz:=AD5 (i:=41) (off:=0) (len:=(rsV m (l.map Tt.ls)).length) b3 (by simp) (by rw[qC,jX (by simp)]; exact Rk.frzCv _)
   rw[qC,jX (by simp)] at hz;have hx':ext H0 (H.set b ABlk.dead):=hxH.set b1 _;have g4':=FP hx' g4;simp -implicitDefEqProofs only[C9,jR,jJ,jO,jQ,BC,BA,A8,EW,AY,AL,BD,AX,AC,AA,AZ,BX,BG,BQ,CB,BU,AB,jD,jE,jF,↓reduceIte,jA,jB,jC,enP,jY,G8,f2,f7,ldM gmH,ZG,AL,hz];refine(AP2 G m (rsV m (l.map Tt.ls)) .any hm hok (by omega) _).use ?_;simp -implicitDefEqProofs only[zB,zG,C9,jR,jJ,jO,jQ,BK,A8,AY,BB,AL,BD,AX,AC,EM,AA,AZ,A7,D5,FI,GU,AB,CX,↓reduceIte,jA,jB,jC,enP,jP,jY,G8,f4,stV g4' rfl];rw[KG (ba:=b4) (by simp -implicitDefEqProofs only[AA,↓reduceIte,jA,f4]) (ldV (D8 g4'))];exact⟨by simp -implicitDefEqProofs only[AA,↓reduceIte],(hx.trans hx').set (by omega) _⟩
 .rintro F H ⟨f4,f5,g4',hx',hne2⟩
  have hr:SN m (l.map Tt.ls)=(zV,rsE m (l.map Tt.ls)):=by unfold SN; rw[if_neg hne,if_pos hne2]
  simp -implicitDefEqProofs only[CP,EG];rw[KG (ba:=b4) f4 (IM g4' rfl)];exact⟨by rw[f5,hr]; unfold rwM; rw[if_neg hne2],hx'⟩
theorem AQW (m:Mo)(l:List (List (List Sg))):eqV (OU m l).1 (SN m l).1=true:=AYG.2 (AS7 m l)
section
variable (G:Nat->AV)
set_option maxHeartbeats 1000000 in
theorem A1P (hG:GOk G)(hT:O7 G)(m:Mo)(hm:MoOk m)(l:List Tt)(s:SM)(h:Hp)(hl:l.length<=1048576)(he:∀x∈l,TtOk x) :
  PCall (En G) 20 [.agg (D6 m),.sl s 1 (l.map TF)] h (.bool true):=by
 refine ACalls.pure0 rfl ?_;refine acN Tryz.func20 rfl ?_;show awp _ _ _ _ _ (EN _ [.tmp 4] _);have gm:=CY h (ABlk.live 2 [D6 m]);have hx:ext h (h++[ABlk.live 2 [D6 m]]):=(ext.rfl' h).app _;simp -implicitDefEqProofs only[BC,BA,A8,AY,BB,AO,AQ,AL,BD,AX,AC,AA,AZ,AU,BX,BM,BG,A7,FU,CB,BU,BZ,BF,BN,jD,jE,jF,↓reduceIte,jA,jB,jC,enP,bxM]
 generalize h++[ABlk.live 2 [D6 m]]=H at gm hx|-
 refine(AYQ G l s H hl (fun x hx=>(he x hx).n)).use ?_;have hL:(AK8 l).length<=1048576:=by have:=AVB l; omega
 have eL:=AYR he
 generalize AK8 l=L at hL eL|-
 simp -implicitDefEqProofs only[BC,BA,A8,AY,BB,AO,AQ,AL,BD,AX,AC,AA,AZ,BX,BG,A7,BQ,CB,BU,AB,jD,jE,jF,↓reduceIte,jA,jB,jC,enP,ldM gm];refine(AR6 G hG hT m hm L (nm L) H hL eL).use ?_;have gm1:=CV (x:=ABlk.live 4 [ER (OU m (L.map Tt.ls)).1]) gm;have gc1:=CY H (ABlk.live 4 [ER (OU m (L.map Tt.ls)).1]);have hx1:=hx.app [ABlk.live 4 [ER (OU m (L.map Tt.ls)).1]];simp -implicitDefEqProofs only[zB,zG,BC,BA,A8,AY,BB,AO,AQ,AL,BD,AX,AC,EM,AA,AZ,BG,A7,FD,BQ,D5,FI,GU,BZ,AB,CX,↓reduceIte,jA,jB,jC,enP,jP,KE,AOH]
 generalize H++[ABlk.live 4 [ER (OU m (L.map Tt.ls)).1]]=H1 at gm1 gc1 hx1|-
 generalize H.length=cb at gc1|-
 simp -implicitDefEqProofs only[AY,AO,AQ,AL,BD,AX,AC,AA,AZ,BX,BG,CB,BU,AB,jD,jE,jF,↓reduceIte,jA,jB,jC,ldM gm1];refine(AV6 G m hm L (nm L) H1 hL eL).use ?_;have gc2:=CV (x:=ABlk.live 4 [ER (SN m (L.map Tt.ls)).1]) gc1;have gd2:=CY H1 (ABlk.live 4 [ER (SN m (L.map Tt.ls)).1]);have hx2:=hx1.app [ABlk.live 4 [ER (SN m (L.map Tt.ls)).1]];rw[A0P];simp -implicitDefEqProofs only[zB,zG,BC,BA,A8,AY,BB,AO,AQ,AL,BD,AX,AC,EM,AA,AZ,BX,BG,A7,FD,BQ,D5,FI,GU,CB,BU,BZ,AB,CX,jD,jE,jF,↓reduceIte,jA,jB,jC,enP,jP,KE,AOH,ldV gc2,ldV gd2];refine(A0K G _ _ _ (AXV m _) (AW7 m _)).use ?_;rw[AQW];simp -implicitDefEqProofs only[AY,BL,BV,CO,F9,AO,AQ,AL,BD,AX,AC,AA,AZ,AU,BX,BM,BG,CQ,DY,BR,CB,BU,AB,EC,jE,jF,↓reduceIte,jA,jB,jC,enP,beq_self_eq_true];refine(awake G hG hT _).use ?_;simp -implicitDefEqProofs only[BK,A8,CG,AY,BB,AO,AQ,AL,BD,AX,AC,AA,AZ,AU,BM,A7,CQ,DY,↓reduceIte,jA,jB,jC];exact⟨by trivial,hx2⟩
end
end Go.Proofs.YtocilianjfhifaaGreatDoor.Xe
namespace Go.Proofs.YtocilianjfhifaaGreatDoor.Xe
open Sm Bins Cov Go.RowKit
def A2G (x:Tt)(b:Nat):Prop:=okL AXA x.l b
theorem A4X:Rd Tryz.prog 64 TF A2G:=by
 intro n
 cases n with
 | zero=>exact RdAt.zero
 | succ n=>exact RdAt.map (fun x:SM×List Ss=>(⟨x.1,x.2⟩:Tt)) (NJ Tryz.underlying64 A5A (by decide) (fun _=>rfl) (A4Y n)) (fun _=>rfl) (fun x b h=>TQ h)
structure Rq where
 m:SM
 l:List Tt
def A2I (x:Rq)(b:Nat):Prop:=okL A2G x.l b
def A24 (z:Rq):List AV:=[.sl z.m 1 (z.l.map TF)]
theorem A5X:Rd Tryz.prog 96 A24 A2I:=by
 intro n
 cases n with
 | zero=>exact RdAt.zero
 | succ n=>exact RdAt.map (fun x:SM×List Tt=>(⟨x.1,x.2⟩:Rq)) (NJ Tryz.underlying96 A49 (by decide) (fun _=>rfl) (A4X n)) (fun _=>rfl) (fun x b h=>TQ h)
theorem A4K {x:Rq}{b:Nat}(h:A2I x b)(hb:b<=1048576):x.l.length<=1048576∧∀y∈x.l,TtOk y:=by
 refine⟨Nat.le_trans (okL.length h) hb,fun y hy=>?_⟩;obtain⟨b1,h1,h2⟩:=okL.each h y hy;have h3:=AWZ (x:=⟨y.m,y.l⟩) h2 (by omega);exact⟨h3.1,h3.2⟩
end Go.Proofs.YtocilianjfhifaaGreatDoor.Xe
