/- Part 15 of the proof (X21, X22, X23, Kz, X24); no condition. -/
import Derived.Test.YtocilianjfhifaaGreatDoorY14
set_option linter.unusedVariables false
set_option linter.unusedSimpArgs false
set_option maxRecDepth 8000
namespace Go.Proofs.YtocilianjfhifaaGreatDoor.Xe
open Sm Bins Cov Wd Go.RowKit
theorem AYC:Frz KY:=fun _ _ _ _=>⟨rfl,rfl⟩
structure Sy (h H:Hp) (m:Mo) (c:Cvr) (t:Tk) (vb tb b8 b9:Nat):Prop where
 gm:H[h.length]? = some (.live 2 [EP m])
 gv:H[vb]? = some (.live 4 [F7 c])
 gt:H[tb]? = some (.live 1 [KU t])
 g8:H[b8]? = some (.live 4 [FW])
 g9:H[b9]? = some (.live 1 [F6])
 o1:h.length < vb
 o2:vb < tb
 o3:tb < b8
 o4:b8 < b9
 o5:b9 < H.length
 hx:ext h H
theorem Sy.mk' (h:Hp) (m:Mo) (c:Cvr) (t:Tk):Sy h (h ++ [ABlk.live 2 [EP m]] ++ [ABlk.live 4 [F7 c]] ++ [ABlk.live 1 [KU t]] ++ [ABlk.live 4 [FW]] ++ [ABlk.live 1 [F6]]) m c t (h ++ [ABlk.live 2 [EP m]]).length (h ++ [ABlk.live 2 [EP m]] ++ [ABlk.live 4 [F7 c]]).length
  (h ++ [ABlk.live 2 [EP m]] ++ [ABlk.live 4 [F7 c]] ++ [ABlk.live 1 [KU t]]).length (h ++ [ABlk.live 2 [EP m]] ++ [ABlk.live 4 [F7 c]] ++ [ABlk.live 1 [KU t]] ++ [ABlk.live 4 [FW]]).length :=
 ⟨CW (CW (CW (CW (CY _ _)))),CW (CW (CW (CY _ _))),CW (CW (CY _ _)),CW (CY _ _),CY _ _,by simp,by simp,by simp,by simp,by simp,((((ext.rfl' h).app _).app _).app _).app _ |>.app _⟩
theorem WZ {m:Mo} {c:Cvr} {t:Tk} {env:List Sg} {e:Int} (h:P9 m c t env=e) (hne:e≠0):AE9 m c t env = .tup [.agg FW,.agg F6,.int .i64 e]:=by
 unfold AE9
 rw [h,if_neg hne]
theorem hbs {α β:Type} (f:α→β) (l:List α) (k:Nat) {h:k < l.length}:(l.take k).map f ++ [f l[k]]=(l.take (k+1)).map f:=by rw [List.take_succ_eq_append_getElem h,List.map_append]; rfl
set_option maxHeartbeats 8000000 in
theorem AKY (G:Nat→AV) (m:Mo) (hm:MoOk m) (c:Cvr) (hcv:CvOk c) (t:Tk) (ht:TkOk t) (env:List Sg) (sm:SM) (h:Hp) (henv:env.length≤1099511627776) (hsg : ∀ s∈env,AAP s) :
  PCall (En G) 73 [.agg (EP m),.agg (F7 c),.agg (KU t),.sl sm 2 (env.map GN)] h (.tup [.agg (F7 (W9 m c t env)),.agg (KU (ABG m c t env)),.int .i64 (P9 m c t env)]):=by
 refine PCall.res (r:=AE9 m c t env) ?_ (ASA _ _ _ _)
 refine ACalls.pure (R:=fun v H=>ext h H∧IQ h.length H 5 v=AE9 m c t env) 5 ?_ (fun v H ⟨a,b⟩=>⟨a,b⟩)
 refine CB (H:=Hint.none) (enM G) Tryz.func73 rfl (by kernel_rfl) (by kernel_rfl) (nLb (by kernel_rfl)) ?_
 show awp _ _ _ _ _ (EG _ [.cell 8 28,.cell 9 47,.tmp 10] _)
 have Y:=Sy.mk' h m c t
 simp -implicitDefEqProofs only [BC,BA,A8,AY,BB,AO,AQ,AL,BD,AX,AC,AA,A7,AU,BH,AZ,F5,FY,BV,CE,BF,BN,↓reduceIte,Nat.reduceEqDiff,oGs,bNf,enP,bxM,bxV,bxT,OE,AAM]
 generalize h ++ [ABlk.live 2 [EP m]] ++ [ABlk.live 4 [F7 c]] ++ [ABlk.live 1 [KU t]] ++ [ABlk.live 4 [FW]] ++ [ABlk.live 1 [F6]]=H0 at Y ⊢
 generalize (h ++ [ABlk.live 2 [EP m]] ++ [ABlk.live 4 [F7 c]] ++ [ABlk.live 1 [KU t]] ++ [ABlk.live 4 [FW]]).length=b9 at Y ⊢
 generalize (h ++ [ABlk.live 2 [EP m]] ++ [ABlk.live 4 [F7 c]] ++ [ABlk.live 1 [KU t]]).length=b8 at Y ⊢
 generalize (h ++ [ABlk.live 2 [EP m]] ++ [ABlk.live 4 [F7 c]]).length=tb at Y ⊢
 generalize (h ++ [ABlk.live 2 [EP m]]).length=vb at Y ⊢
 have o1:=Y.o1; have o2:=Y.o2; have o3:=Y.o3; have o4:=Y.o4; have o5:=Y.o5
 have hend : ∀ (F:Fr) (e:Int),F 8 = .ptr b8 0 0→F 9 = .ptr b9 0 0→F 10 = .int .i64 e→AE9 m c t env = .tup [.agg FW,.agg F6,.int .i64 e]→∀ H:Hp,H[b8]? = some (.live 4 [FW])→H[b9]? = some (.live 1 [F6])→ext h H →
   EG Tryz.prog [.cell 8 28,.cell 9 47,.tmp 10] (fun v H=>ext h H∧IQ h.length H 5 v=AE9 m c t env) .ret F H:=fun F e f8 f9 f10 hw H g8 g9 hx=>by
  rw [U5 (ba:=b8) (bb:=b9) f8 f9 (J5 g8 rfl) (O0 g9 rfl),f10,hw]
  exact ⟨hx,rfl⟩
 simp -implicitDefEqProofs only [AY,AO,AQ,AL,BD,AX,AC,AA,A7,BX,BZ,BU,AB,lMc,lMn,lAn,↓reduceIte,oGs,bNf,ldM Y.gm]
 refine (RP G m hm H0).use ?_
 cases hb:(FX m == 0)
 ·have hne:FX m≠0:=by simpa using hb
  simp -implicitDefEqProofs only [FI,BC,BA,BK,BI,A8,CP,C9,AY,BB,AO,AQ,AL,BD,AX,AC,EW,AA,A7,AU,BH,BG,AZ,I8,EM,BR,AB,DK,EN,↓reduceIte,Nat.reduceEqDiff,oGs,bNf,enP,Option.getD_none,bne,hb,TF,ACU,stZ Y.g8 rfl,ABF (CX Y.g9 (show b9≠b8 by omega)) rfl]
  exact hend _ (FX m) (by simp -implicitDefEqProofs only [AA,↓reduceIte,Nat.reduceEqDiff]) (by simp -implicitDefEqProofs only [AA,↓reduceIte,Nat.reduceEqDiff]) (by simp -implicitDefEqProofs only [AA,↓reduceIte]) (WZ (by unfold P9; rw [if_neg hne]) hne) _ (CX (EJ Y.g8) (show b8≠b9 by omega)) (EJ (CX Y.g9 (show b9≠b8 by omega))) ((Y.hx.set (by omega) _).set (by omega) _)
 have h0:FX m=0:=by simpa using hb
 simp -implicitDefEqProofs only [BC,BA,BO,BI,A8,DN,AY,BB,AO,AQ,AL,BD,AX,AC,AA,A7,AU,BX,BH,BG,AZ,BV,BR,BZ,BU,AB,EN,lMc,lMn,lAn,↓reduceIte,Nat.reduceEqDiff,oGs,bNt,bNf,enP,bne,hb,ldM Y.gm,ldV Y.gv]
 refine (AP4 G m c hm hcv H0).use ?_
 cases hf:MV m c
 ·simp -implicitDefEqProofs only [FI,BC,BA,BK,BI,A8,CP,C9,AY,BB,BJ,BQ,CO,FN,AO,AQ,AL,BD,AX,AC,EW,AA,EQ,A7,AU,BH,BM,BG,AZ,CU,DT,I8,EM,H9,AB,DK,EZ,↓reduceIte,Nat.reduceEqDiff,oGs,bNf,enP,Option.getD_none,TF,ACU,stZ Y.g8 rfl,ABF (CX Y.g9 (show b9≠b8 by omega)) rfl]
  exact hend _ 1 (by simp -implicitDefEqProofs only [AA,↓reduceIte,Nat.reduceEqDiff]) (by simp -implicitDefEqProofs only [AA,↓reduceIte,Nat.reduceEqDiff]) (by simp -implicitDefEqProofs only [AA,↓reduceIte]) (WZ (by unfold P9; rw [if_pos h0,if_neg (by rw [hf]; simp)]) (by decide)) _ (CX (EJ Y.g8) (show b8≠b9 by omega)) (EJ (CX Y.g9 (show b9≠b8 by omega))) ((Y.hx.set (by omega) _).set (by omega) _)
 simp -implicitDefEqProofs only [AY,BJ,BQ,CO,EK,AO,AQ,AL,BD,AX,AC,AA,A7,BX,BG,BV,H9,BZ,BU,AB,EZ,lMc,lMn,lAn,↓reduceIte,Nat.reduceEqDiff,oGs,bNt,bNf,enP,ldM Y.gm,ldT Y.gt]
 refine (AKW G m hm t ht H0).use ?_
 cases htr:AAE m t
 ·simp -implicitDefEqProofs only [FI,BC,BA,BK,BI,A8,CP,C9,AY,BB,BJ,BQ,CO,EK,AO,AQ,AL,BD,AX,AC,EW,AA,A7,AU,BH,BM,AZ,CU,DL,I8,EM,H9,AB,DK,EZ,↓reduceIte,Nat.reduceEqDiff,oGs,bNf,enP,Option.getD_none,TF,ACU,stZ Y.g8 rfl,ABF (CX Y.g9 (show b9≠b8 by omega)) rfl]
  exact hend _ 1 (by simp -implicitDefEqProofs only [AA,↓reduceIte,Nat.reduceEqDiff]) (by simp -implicitDefEqProofs only [AA,↓reduceIte,Nat.reduceEqDiff]) (by simp -implicitDefEqProofs only [AA,↓reduceIte]) (WZ (by unfold P9; rw [if_pos h0,if_neg (by rw [htr]; simp)]) (by decide)) _ (CX (EJ Y.g8) (show b8≠b9 by omega)) (EJ (CX Y.g9 (show b9≠b8 by omega))) ((Y.hx.set (by omega) _).set (by omega) _)
 have hF:=AAX hf htr
 have hok:=hF.ok
 have hg:=PV h0
 have hE:P9 m c t env=SI m (stO c t) env:=by unfold P9; rw [if_pos h0,if_pos (by rw [hf,htr]; rfl)]
 have hnum:=hg.num
 have hnp:m.pts.length≤16:=by omega
 have hnc:m.crs.length≤16:=by omega
 have hsh:=hok.sh
 have hll:=hok.ll
 have hPl:=hsh.pl; have hCl:=hsh.cl
 have hcp:(stO c t).P.length=c.pts.length:=by simp [stO]
 have hcc:(stO c t).C.length=c.crs.length:=by simp [stO]
 have hct:(stO c t).ls.length=t.last.length:=by simp [stO]
 have hrl:=XH m (stO c t).ls env hll
 have hrg:=ABP m (stO c t).ls env
 obtain ⟨rs,hrs⟩ : ∃ z,z=PD m (stO c t).ls env:=⟨_,rfl⟩
 rw [← hrs] at hrl
 have hsl:=XA rs (stO c t).P (by omega)
 have hscl:=XC m (rs.map PtR.hit) (stO c t).C hCl
 have hzl:=YD m
 have hzc:=YF m
 simp -implicitDefEqProofs only [BC,BA,BO,BI,A8,DN,AY,BB,BJ,BQ,CO,EK,AO,AQ,AL,BD,AX,AC,AA,A7,AU,BX,BM,CU,DL,BV,H9,BZ,BU,AB,EZ,lMc,lMn,lAn,↓reduceIte,Nat.reduceEqDiff,oGs,bNt,bNf,enP,ldM Y.gm]
 refine (AKB G m hm hg H0).mono ?_
 rintro _ H1 ⟨hx1,po,pb,co,cbs,rfl,N⟩
 have hle1:=hx1.le
 have s1:FK Tryz.prog (H1 ++ [ABlk.live 4 [FW]]) 28 (.ptr H1.length 0 0) (.agg (IE (nlV po (zP m)) (nlV co (zC m))))=some (H1 ++ [ABlk.live 4 [IE (nlV po (zP m)) (nlV co (zC m))]]):=by
  rw [ADV (CY _ _) rfl (LC _ _) (LC _ _),PQ]
 simp -implicitDefEqProofs only [FI,BC,BP,BA,A8,AY,BB,AO,AQ,AL,BD,AX,AC,EW,AA,A7,AU,BH,BM,JG,AZ,F5,I8,EM,CE,AB,DK,↓reduceIte,Nat.reduceEqDiff,oGs,bNf,enP,Option.getD_none,OE,s1,ACU,AAM,AVO]
 have hl3:(H1 ++ [ABlk.live 4 [IE (nlV po (zP m)) (nlV co (zC m))]]).length=H1.length+1:=by simp
 have hk3:(H1 ++ [ABlk.live 4 [IE (nlV po (zP m)) (nlV co (zC m))]] ++ [ABlk.live 1 [F6]]).length=H1.length+2:=by simp
 have hx3:ext H1 (H1 ++ [ABlk.live 4 [IE (nlV po (zP m)) (nlV co (zC m))]] ++ [ABlk.live 1 [F6]]):=((ext.rfl' H1).app _).app _
 have gc3:(H1 ++ [ABlk.live 4 [IE (nlV po (zP m)) (nlV co (zC m))]] ++ [ABlk.live 1 [F6]])[H1.length]? = some (.live 4 [cvR po (zP m) co (zC m) 0 0]):=CW (CY _ _)
 have gt3:(H1 ++ [ABlk.live 4 [IE (nlV po (zP m)) (nlV co (zC m))]] ++ [ABlk.live 1 [F6]])[(H1 ++ [ABlk.live 4 [IE (nlV po (zP m)) (nlV co (zC m))]]).length]? = some (.live 1 [[.sl .nil 0 []]]):=CY _ _
 generalize H1 ++ [ABlk.live 4 [IE (nlV po (zP m)) (nlV co (zC m))]] ++ [ABlk.live 1 [F6]]=H3 at hk3 hx3 gc3 gt3 ⊢
 generalize (H1 ++ [ABlk.live 4 [IE (nlV po (zP m)) (nlV co (zC m))]]).length=nb at hl3 gt3 ⊢
 have hlt : ∀ b,NLB po pb (zP m) b∨NLB co cbs (zC m) b→b < H1.length:=fun b hb=>by
  rcases hb with hb | hb
  ·exact (N.np.lt hb).2
  ·exact (N.nc.lt hb).2
 have X3:Sx h H3 m c t vb tb b8 b9 H0.length H3.length H1.length nb po co pb cbs (zP m) (zC m) 0 0 (.sl .nil 0 []) :=
  ⟨FT hx3 (FT hx1 Y.gm),FT hx3 (FT hx1 Y.gv),FT hx3 (FT hx1 Y.gt),FT hx3 (FT hx1 Y.g8),FT hx3 (FT hx1 Y.g9),o1,o2,o3,o4,o5,
   (N.ext hx3).cs gc3 gt3 (by omega) (fun b hb=>by have:=hlt b hb; omega),hle1,by omega,by omega,by omega,fun b hb=>by have:=hlt b (.inl (.inr hb)); omega,fun b hb=>by have:=hlt b (.inr (.inr hb)); omega,
   fun q=>by have:=hlt po (.inl (.inl ⟨q,rfl⟩)); omega,fun q=>by have:=hlt co (.inr (.inl ⟨q,rfl⟩)); omega,Nat.le_refl _,(Y.hx.trans hx1).trans hx3⟩
 generalize H1.length=ob at X3 hl3 hk3 hle1 hlt gc3
 have hob:ob < H3.length:=by omega
 have hnb:nb < H3.length:=by omega
 have h3l:=X3.hx.le
 clear gc3 gt3 hx3 hlt s1 hle1 hl3 hk3
 have hlp:=N.np.len
 have hlc:=N.nc.len
 rw [hzl] at hlp
 rw [hzc] at hlc
 clear N hx1
 refine G7 0 (fun F H => ∃ u w,F 4 = .ptr h.length 0 0∧F 5 = .ptr vb 0 0∧F 8 = .ptr b8 0 0∧F 9 = .ptr b9 0 0∧F 12 = .ptr ob 0 0∧F 13 = .ptr nb 0 0∧F 14=u∧F 15 = .bool (rs.any PtR.bad)∧Sx h H m c t vb tb b8 b9 H0.length H3.length ob nb po co pb cbs (KZ rs (stO c t).P) (zC m) 0 0 w∧outG 1 LH H3 (rs.map PtR.hit) u H∧outG 1 KY H3 (rs.map PtR.next) w H∧JE PtR.err rs=0)
  (fun F H => ∃ e,F 8 = .ptr b8 0 0∧F 9 = .ptr b9 0 0∧F 10 = .int .i64 e∧e≠0∧JE PtR.err rs=e∧H[b8]? = some (.live 4 [FW])∧H[b9]? = some (.live 1 [F6])∧ext h H) ?_ ?_ ?_
 ·refine DR (fun n F H => ∃ i u w,n+i=m.pts.length∧F 3 = .sl sm 2 (env.map GN)∧F 4 = .ptr h.length 0 0∧F 5 = .ptr vb 0 0∧F 6 = .ptr tb 0 0∧F 8 = .ptr b8 0 0∧F 9 = .ptr b9 0 0∧F 12 = .ptr ob 0 0∧F 13 = .ptr nb 0 0∧F 14=u∧F 15 = .bool ((rs.take i).any PtR.bad)∧F 16 = .int .i64 (i:Nat) ∧
    Sx h H m c t vb tb b8 b9 H0.length H3.length ob nb po co pb cbs (mix (KZ rs (stO c t).P) (zP m) i) (zC m) 0 0 w∧outG 1 LH H3 ((rs.take i).map PtR.hit) u H∧outG 1 KY H3 ((rs.take i).map PtR.next) w H∧(∀ b,isB u b→¬ isB w b)∧JE PtR.err rs=JE PtR.err (rs.drop i)) m.pts.length
   ⟨0,.sl .nil 0 [],.sl .nil 0 [],by simp,by simp -implicitDefEqProofs only [AA,BF,BN,↓reduceIte,Nat.reduceEqDiff],by simp -implicitDefEqProofs only [AA,↓reduceIte,Nat.reduceEqDiff],by simp -implicitDefEqProofs only [AA,↓reduceIte,Nat.reduceEqDiff],by simp -implicitDefEqProofs only [AA,↓reduceIte,Nat.reduceEqDiff],by simp -implicitDefEqProofs only [AA,↓reduceIte,Nat.reduceEqDiff],by simp -implicitDefEqProofs only [AA,↓reduceIte,Nat.reduceEqDiff],by simp -implicitDefEqProofs only [AA,↓reduceIte,Nat.reduceEqDiff],by simp -implicitDefEqProofs only [AA,↓reduceIte,Nat.reduceEqDiff],by simp -implicitDefEqProofs only [AA,↓reduceIte,Nat.reduceEqDiff],by simp -implicitDefEqProofs only [AA,↓reduceIte,Nat.reduceEqDiff] <;> rfl,by simp -implicitDefEqProofs only [AA,↓reduceIte] <;> rfl,X3,outG.nil _ _ _ _,outG.nil _ _ _ _,fun b hb=>hb.elim,rfl⟩ ?_
  clear X3
  rintro n F H ⟨i,u,w,hi,f3,f4,f5,f6,f8,f9,f12,f13,f14,f15,f16,S,hu,hw,hdis,hfst⟩
  simp -implicitDefEqProofs only [BC,BA,BI,A8,AY,BB,AO,AQ,AL,BD,AX,AC,AA,A7,BG,BV,BR,BL,D7,AB,DC,↓reduceIte,Nat.reduceEqDiff,Nat.add_zero,oGs,bNf,enP,QO,IU,f4,f16,S.m0,lLm]
  refine CV (fun hc => ?_) (fun hc => ?_)
  ·have hi':i < m.pts.length:=by simpa using hc
   have hir:i < rs.length:=by omega
   have hiP:i < (stO c t).P.length:=by omega
   have hic:i < c.pts.length:=by omega
   have hit:i < t.last.length:=by omega
   have hip:i < pb.length:=by omega
   have hiz:i < (zP m).length:=by omega
   have hp:=hm.pts _ (List.getElem_mem hi')
   have hls:(stO c t).ls[i]'(by omega)=t.last[i].l:=by simp [stO]
   have hPi:(stO c t).P[i]=c.pts[i].l:=by simp [stO]
   have hri:rs[i]=ptE m.pts[i] t.last[i].l env:=by
    have:=hrg i hi' (by omega) (by rw [← hrs]; omega)
    rw [hls] at this
    rw [← this]
    congr 1
   have hcall:=AN8 G m.pts[i] hp t.last[i].l t.last[i].m env sm H (ht.len _ (List.getElem_mem hit)) henv hsg
   rw [← hri] at hcall
   unfold ptV at hcall
   rw [NS _ _ _ hir] at hfst
   have hbad:(rs.take (i+1)).any PtR.bad=((rs.take i).any PtR.bad || rs[i].bad):=by rw [List.take_succ_eq_append_getElem hir,List.any_append]; simp
   simp -implicitDefEqProofs only [BC,BP,BO,A8]
   refine FC (by kernel_rfl) ?_
   simp -implicitDefEqProofs only [F9,EE,DX,EI,FO,FP,EH,EC,LW,GR,GH,AO,AA,A7,BX,BV,BL,CG,FQ,AB,lMc,lMn,lAn,↓reduceIte,Nat.reduceEqDiff,Nat.reduceAdd,Nat.add_zero,oGs,enP,PU,IU,PH,SX,f3,f4,f6,f16,S.m0,DZ hi',FV ADO AAF JF hi',S.t0,DZ hit,DV MS hit,QX]
   refine ⟨_,hcall,?_⟩
   simp -implicitDefEqProofs only [F9,List.getElem?_cons_zero,List.getElem?_cons_succ,EE,DX,FB,EI,JR,LW,BC,BA,BI,A8,AY,BB,AO,AQ,AL,BD,AX,AC,AA,A7,AU,BH,BG,BR,FQ,G9,AB,EN,↓reduceIte,Nat.reduceEqDiff,Nat.reduceAdd,oGs,bNf,enP]
   cases he:(rs[i].err == 0)
   ·have hne:rs[i].err≠0:=by simpa using he
    rw [if_neg hne] at hfst
    simp -implicitDefEqProofs only [FI,BC,BA,BK,A8,CP,D8,NE,E8,C9,AY,BB,AO,AQ,AL,BD,AX,AC,EW,AA,A7,BG,AZ,I8,EM,AB,DK,↓reduceIte,Nat.reduceEqDiff,oGs,bNf,enP,Option.getD_none,bne,he,TF,ACU,f8,f9,stZ S.g8 rfl,ABF (CX S.g9 (show b9≠b8 by omega)) rfl]
    exact ⟨rs[i].err,by first | trivial | exact f8,by first | trivial | exact f9,by first | trivial | rfl,hne,hfst,CX (EJ S.g8) (show b8≠b9 by omega),EJ (CX S.g9 (show b9≠b8 by omega)),(S.hx.set (by omega) _).set (by omega) _⟩
   have hz:rs[i].err=0:=by simpa using he
   rw [if_pos hz] at hfst
   have kh:=S.kh
   obtain ⟨u2,Ha,hap,hu2,hk,hla,hna,⟨ou,lu,rfl⟩,hxa⟩:=hu.app2 AE6 YJ AJA AGC (by omega) (by rw [lLm,List.length_take]; omega) kh rs[i].hit
   rw [hbs] at hu2
   have hap':GV Tryz.prog true H 26 26 u (.sl .full 1 [[.sl (nm rs[i].hit) 1 (rs[i].hit.map IV)]])=some (.own ou 0 lu,Ha):=hap
   have Sa:=S.keep (H':=Ha) (fun b x hb hg=>hk b x hg (fun q=>by have:=hu.lt q; omega)) (by omega) (hxa h (by omega) S.hx)
   have hwa:=hw.keepA hk (fun b h1 h2=>hdis b h2 h1)
   obtain ⟨w2,Hb,hapb,hw2,hkb,hlb,hnb2,⟨ow,lw,rfl⟩,hxb⟩:=hwa.app2 AE6 YJ AJA AGC (by omega) (by rw [lLm,List.length_take]; omega) (by omega) rs[i].next
   rw [hbs] at hw2
   have hapb':GV Tryz.prog true Ha 26 26 w (.sl .full 1 [[.sl (nm rs[i].next) 1 (rs[i].next.map encI)]])=some (.own ow 0 lw,Hb):=hapb
   have Sb:=Sa.keep (H':=Hb) (fun b x hb hg=>hkb b x hg (fun q=>by have:=hwa.lt q; omega)) (by omega) (hxb h (by omega) Sa.hx)
   have hub:=hu2.keepA hkb (fun b h1 h2=>by
    have e1:=hna b h1
    have e2:=hw.lt h2
    omega)
   have Sc:=Sb.setT (.own ow 0 lw)
   have huc:=hub.setB (b:=nb) hnb (.live 1 [[.own ow 0 lw]])
   have hwc:=hw2.setB (b:=nb) hnb (.live 1 [[.own ow 0 lw]])
   have hst:FK Tryz.prog Hb 26 (.ptr nb 0 0) (.own ow 0 lw)=some (Hb.set nb (.live 1 [[.own ow 0 lw]])):=NM (row := [w]) (WJ _ _ _) AJD Sb.cs.gt (by simp)
   have hdis2 : ∀ b,isB (.own ou 0 lu) b→¬ isB (.own ow 0 lw) b:=fun b h1 h2=>by
    have e1:=hna b h1
    have e2:=hnb2 b h2
    omega
   simp -implicitDefEqProofs only [FI,FZ,BC,BA,BO,A8,DN,AY,BB,BJ,BQ,CO,AO,AQ,AL,BD,AX,AC,EW,AA,A7,BG,AZ,ES,BV,EM,BL,II,CE,AB,DK,↓reduceIte,Nat.reduceEqDiff,Nat.add_zero,oGs,bNt,bNf,enP,SX,Option.getD_none,bne,he,f14,AQ2,hap',f13,Sa.cs.lt0,hapb',hst,f15]
   generalize Hb.set nb (.live 1 [[.own ow 0 lw]])=Hc at Sc huc hwc ⊢
   clear Sa Sb hwa hub hst hap hap' hapb hapb' hu hw hdis hu2 hw2 hk hkb S
   refine QL (fun F H=>H=Hc∧F 3 = .sl sm 2 (env.map GN)∧F 4 = .ptr h.length 0 0∧F 5 = .ptr vb 0 0∧F 6 = .ptr tb 0 0∧F 8 = .ptr b8 0 0∧F 9 = .ptr b9 0 0∧F 12 = .ptr ob 0 0∧F 13 = .ptr nb 0 0∧F 14 = .own ou 0 lu∧F 15 = .bool ((rs.take (i+1)).any PtR.bad)∧F 16 = .int .i64 (i:Nat)∧F 17 = .sl (nm rs[i].hit) 1 (rs[i].hit.map IV)) ?_ ?_
   ·cases hq:(rs.take i).any PtR.bad
    ·rw [hq,Bool.false_or] at hbad
     simp -implicitDefEqProofs only [AY,BB,EK,AO,AQ,AL,BD,AX,AC,AA,A7,AU,BM,BG,AZ,CU,DL,↓reduceIte,Nat.reduceEqDiff,oGs,bNf]
     exact ⟨trivial,by first | trivial | exact f3,by first | trivial | exact f4,by first | trivial | exact f5,by first | trivial | exact f6,by first | trivial | exact f8,by first | trivial | exact f9,by first | trivial | exact f12,by first | trivial | exact f13,by first | trivial | rfl,by rw [hbad],by first | trivial | exact f16,by first | trivial | rfl⟩
    ·rw [hq,Bool.true_or] at hbad
     simp -implicitDefEqProofs only [AY,BB,FN,AO,AQ,AL,BD,AX,AC,AA,EQ,A7,AU,BM,AZ,CU,DT,↓reduceIte,Nat.reduceEqDiff,oGs,bNf]
     exact ⟨trivial,by first | trivial | exact f3,by first | trivial | exact f4,by first | trivial | exact f5,by first | trivial | exact f6,by first | trivial | exact f8,by first | trivial | exact f9,by first | trivial | exact f12,by first | trivial | exact f13,by first | trivial | rfl,by rw [hbad],by first | trivial | exact f16,by first | trivial | rfl⟩
   clear f3 f4 f5 f6 f8 f9 f12 f13 f14 f15 f16
   rintro F H ⟨rfl,f3,f4,f5,f6,f8,f9,f12,f13,f14,f15,f16,f17⟩
   have hmx:=mix_len (ys:=KZ rs (stO c t).P) (xs:=zP m) (i:=i) (by omega) (by omega)
   have hmi:=TZ (ys:=KZ rs (stO c t).P) (xs:=zP m) (i:=i) (j:=i) (by omega) (Nat.le_refl _) hiz (by omega)
   have hms:=mix_set (ys:=KZ rs (stO c t).P) (xs:=zP m) (i:=i) (by omega) hiz (by omega)
   have hsg2:=XB rs (stO c t).P i hir hiP (by omega)
   have hz2:(zP m)[i]=zeros m.pts[i].bins.length:=by simp [zP]
   have hpe:=hsh.pe i hiP hi'
   obtain ⟨M,hmm,hmx,hmi,hms⟩ : ∃ M,mix (KZ rs (stO c t).P) (zP m) i=M∧M.length=(zP m).length∧(∀ h:i < M.length,M[i]=(zP m)[i])∧M.set i (KZ rs (stO c t).P)[i]=mix (KZ rs (stO c t).P) (zP m) (i+1):=⟨_,rfl,hmx,fun _=>hmi,hms⟩
   rw [hmm] at Sc
   rw [hsg2] at hms
   have hhit:rs[i].hit.length≤1048576:=by rw [hri]; have:=AFE m.pts[i] t.last[i].l env; have:=hp.num; omega
   have hnd:rs[i].hit.Nodup:=by rw [hri]; exact AD3 _ _ _
   have hhl : ∀ x∈rs[i].hit,x < (stO c t).P[i].length:=fun x hx=>by rw [hri] at hx; rw [hpe]; exact AJN _ _ _ x hx
   have hwn:Wn (stO c t).P[i]:=hsh.wp _ (List.getElem_mem hiP)
   have hrwl:=RH rs[i].hit (stO c t).P[i]
   have hrow:=fun k=>YP k rs[i].hit (stO c t).P[i] hnd hhl
   have hzn:=PX m.pts[i].bins.length
   have hbn:=hp.num
   obtain ⟨R,hR⟩ : ∃ R,R=rowP rs[i].hit (stO c t).P[i]:=⟨_,rfl⟩
   rw [← hR] at hms hrwl
   have hrz:R.length=(zeros m.pts[i].bins.length).length:=by omega
   simp -implicitDefEqProofs only [BC,BP,BA,A8,AY,BB,AO,AQ,AL,BD,AX,AC,AU,BH,AZ,oGs,bNf]
   refine G7 2 (fun F H=>F 3 = .sl sm 2 (env.map GN)∧F 4 = .ptr h.length 0 0∧F 5 = .ptr vb 0 0∧F 6 = .ptr tb 0 0∧F 8 = .ptr b8 0 0∧F 9 = .ptr b9 0 0∧F 12 = .ptr ob 0 0∧F 13 = .ptr nb 0 0∧F 14 = .own ou 0 lu∧F 15 = .bool ((rs.take (i+1)).any PtR.bad)∧F 16 = .int .i64 (i:Nat) ∧
    Sx h H m c t vb tb b8 b9 H0.length H3.length ob nb po co pb cbs (M.set i R) (zC m) 0 0 (.own ow 0 lw)∧outG 1 LH H3 ((rs.take (i+1)).map PtR.hit) (.own ou 0 lu) H∧outG 1 KY H3 ((rs.take (i+1)).map PtR.next) (.own ow 0 lw) H) (fun _ _=>False) ?_ ?_ (fun _ _ hh=>hh.elim)
   ·have e0:M.set i (mix R (zeros m.pts[i].bins.length) 0)=M:=by
     show M.set i (zeros m.pts[i].bins.length)=M
     rw [← hz2,← hmi (by omega),List.set_getElem_self]
    refine DR (fun n F H => ∃ k,n+k=m.pts[i].bins.length∧F 3 = .sl sm 2 (env.map GN)∧F 4 = .ptr h.length 0 0∧F 5 = .ptr vb 0 0∧F 6 = .ptr tb 0 0∧F 8 = .ptr b8 0 0∧F 9 = .ptr b9 0 0∧F 12 = .ptr ob 0 0∧F 13 = .ptr nb 0 0∧F 14 = .own ou 0 lu∧F 15 = .bool ((rs.take (i+1)).any PtR.bad)∧F 16 = .int .i64 (i:Nat)∧F 17 = .sl (nm rs[i].hit) 1 (rs[i].hit.map IV)∧F 21 = .int .i64 (k:Nat) ∧
      Sx h H m c t vb tb b8 b9 H0.length H3.length ob nb po co pb cbs (M.set i (mix R (zeros m.pts[i].bins.length) k)) (zC m) 0 0 (.own ow 0 lw)∧outG 1 LH H3 ((rs.take (i+1)).map PtR.hit) (.own ou 0 lu) H∧outG 1 KY H3 ((rs.take (i+1)).map PtR.next) (.own ow 0 lw) H) m.pts[i].bins.length
     ⟨0,by simp,by simp -implicitDefEqProofs only [AA,↓reduceIte,Nat.reduceEqDiff,f3],by simp -implicitDefEqProofs only [AA,↓reduceIte,Nat.reduceEqDiff,f4],by simp -implicitDefEqProofs only [AA,↓reduceIte,Nat.reduceEqDiff,f5],by simp -implicitDefEqProofs only [AA,↓reduceIte,Nat.reduceEqDiff,f6],by simp -implicitDefEqProofs only [AA,↓reduceIte,Nat.reduceEqDiff,f8],by simp -implicitDefEqProofs only [AA,↓reduceIte,Nat.reduceEqDiff,f9],by simp -implicitDefEqProofs only [AA,↓reduceIte,Nat.reduceEqDiff,f12],by simp -implicitDefEqProofs only [AA,↓reduceIte,Nat.reduceEqDiff,f13],by simp -implicitDefEqProofs only [AA,↓reduceIte,Nat.reduceEqDiff,f14],by simp -implicitDefEqProofs only [AA,↓reduceIte,Nat.reduceEqDiff,f15],by simp -implicitDefEqProofs only [AA,↓reduceIte,Nat.reduceEqDiff,f16],by simp -implicitDefEqProofs only [AA,↓reduceIte,Nat.reduceEqDiff,f17],by simp -implicitDefEqProofs only [AA,↓reduceIte] <;> rfl,by rw [e0]; exact Sc,huc,hwc⟩ ?_
    clear Sc huc hwc f3 f4 f5 f6 f8 f9 f12 f13 f14 f15 f16 f17
    rintro n' F H ⟨k,hk,f3,f4,f5,f6,f8,f9,f12,f13,f14,f15,f16,f17,f21,S,hu,hw⟩
    have hkl:=mix_len (ys:=R) (xs:=zeros m.pts[i].bins.length) (i:=k) hrz (by omega)
    have hiM:i < (M.set i (mix R (zeros m.pts[i].bins.length) k)).length:=by rw [List.length_set]; omega
    have hcur:(M.set i (mix R (zeros m.pts[i].bins.length) k))[i]=mix R (zeros m.pts[i].bins.length) k:=List.getElem_set_self _
    obtain ⟨q1,q2,q3,q4⟩:=S.rowP hiM hip
    rw [hcur] at q3 q4
    have hll2:(mix R (zeros m.pts[i].bins.length) k).length=m.pts[i].bins.length:=by omega
    simp -implicitDefEqProofs only [BC,BA,BI,A8,AY,BB,AO,AQ,AL,BD,AX,AC,AA,A7,BG,BV,BR,BL,CG,D7,AB,DC,↓reduceIte,Nat.reduceEqDiff,Nat.add_zero,oGs,bNf,enP,PH,MX,f12,f16,f21,q1,q2,q3,JJ.2,hll2]
    refine CV (fun hc => ?_) (fun hc => ?_)
    ·have hk':k < m.pts[i].bins.length:=by simpa using hc
     have hkP:k < c.pts[i].l.length:=by rw [← hPi]; omega
     have hin:0≤c.pts[i].l[k]∧c.pts[i].l[k]≤1099511627776:=by
      rw [hPi] at hwn
      exact hwn _ (List.getElem_mem hkP)
     have hRk:R[k]'(by omega)=if decide (k∈rs[i].hit)=true then rz c.pts[i].l[k] else c.pts[i].l[k]:=by
      rw [← getD_at R k (by omega),hR,hrow k,hPi,getD_at _ _ hkP]
      simp only [decide_eq_true_eq]
     have hset:=mix_set (ys:=R) (xs:=zeros m.pts[i].bins.length) (i:=k) hrz (by omega) (by omega)
     have hix:=APV q4 (k:=k) (by omega)
     rw [hll2] at hix
     have hst:=AOZ q4 (k:=k) (by omega) (R[k]'(by omega))
     rw [hset] at hst
     have S2:=S.setP hip (mix R (zeros m.pts[i].bins.length) (k+1)) (fun _=>by rw [hcur,mix_len hrz (by omega),hkl])
     rw [List.set_set] at S2
     have hu2:=hu.setB (b:=pb[i]) (S.hp _ (List.getElem_mem hip)) (.live 1 ((mix R (zeros m.pts[i].bins.length) (k+1)).map encI))
     have hw2:=hw.setB (b:=pb[i]) (S.hp _ (List.getElem_mem hip)) (.live 1 ((mix R (zeros m.pts[i].bins.length) (k+1)).map encI))
     simp -implicitDefEqProofs only [BC,BP,BO,A8]
     refine FC (by kernel_rfl) ?_
     simp -implicitDefEqProofs only [F9,EE,DX,EI,FO,FP,EH,EC,GR,GH,AO,AA,A7,BX,BV,BL,CG,AB,lMc,lMn,lAn,↓reduceIte,Nat.reduceEqDiff,Nat.reduceAdd,Nat.add_zero,oGs,enP,PH,MX,JM,f5,f12,f16,f17,f21,q1,q2,q3,hll2,S.v0,DZ hic,DV MS hic,QX,DZ hkP,DV ag3 hkP,SY,AL5]
     refine ⟨_,has_ref G (rs[i].hit.map fun n:Nat=>(n:Int)) _ (k:Nat) H (by rw [lLm]; exact hhit),?_⟩
     rw [AP2]
     try simp -implicitDefEqProofs only []
     refine ⟨_,TY G c.pts[i].l[k] (decide (k∈rs[i].hit)) H hin.1 hin.2,?_⟩
     rw [← hRk]
     try simp -implicitDefEqProofs only [F9,EE,DX,KP,FB,EI,KO,BA,A8,EF,ER,AY,BB,AO,AQ,AL,BD,AX,AC,AA,A7,AU,BH,BG,AZ,EM,BR,AB,DK,DF,↓reduceIte,Nat.reduceEqDiff,Nat.zero_add,oGs,bNf,enP,Option.getD_none,hix,hst,f21,wrap_succ (show k < 9223372036854775807 by omega)]
     exact ⟨n' - 1,by omega,k+1,by omega,by first | trivial | exact f3,by first | trivial | exact f4,by first | trivial | exact f5,by first | trivial | exact f6,by first | trivial | exact f8,by first | trivial | exact f9,by first | trivial | exact f12,by first | trivial | exact f13,by first | trivial | exact f14,by first | trivial | exact f15,by first | trivial | exact f16,by first | trivial | exact f17 | (rw [← AL5]; exact f17),by first | trivial | rfl,S2,hu2,hw2⟩
    ·have hk':k=(zeros m.pts[i].bins.length).length:=by
      have : ¬ k < m.pts[i].bins.length:=by simpa using hc
      omega
     rw [hk',PT hrz] at S
     simp -implicitDefEqProofs only [DJ,ED,KI,EU,AA,↓reduceIte,Nat.reduceEqDiff]
     exact ⟨f3,f4,f5,f6,f8,f9,f12,f13,f14,f15,f16,S,hu,hw⟩
   ·clear Sc huc hwc f3 f4 f5 f6 f8 f9 f12 f13 f14 f15 f16 f17
    rintro F H ⟨f3,f4,f5,f6,f8,f9,f12,f13,f14,f15,f16,S,hu,hw⟩
    rw [hms] at S
    simp -implicitDefEqProofs only [BA,A8,EF,EX,ER,AY,BB,AO,AQ,AL,BD,AX,AC,AA,A7,AU,BH,BG,AZ,BR,AB,DF,↓reduceIte,Nat.reduceEqDiff,oGs,bNf,enP,f16,wrap_succ (show i < 9223372036854775807 by omega)]
    exact ⟨n - 1,by omega,i+1,_,_,by omega,by first | trivial | exact f3,by first | trivial | exact f4,by first | trivial | exact f5,by first | trivial | exact f6,by first | trivial | exact f8,by first | trivial | exact f9,by first | trivial | exact f12,by first | trivial | exact f13,by first | trivial | exact f14,by first | trivial | exact f15,by first | trivial | rfl,S,hu,hw,hdis2,hfst⟩
  ·have hi':i=(zP m).length:=by
    have : ¬ i < m.pts.length:=by simpa using hc
    omega
   rw [List.take_of_length_le (by omega)] at f15 hu hw
   rw [List.drop_eq_nil_of_le (by omega)] at hfst
   rw [hi',PT (by omega)] at S
   simp -implicitDefEqProofs only [DJ,ED,KI,EU,AA,↓reduceIte,Nat.reduceEqDiff]
   exact ⟨u,w,f4,f5,f8,f9,f12,f13,f14,f15,S,hu,hw,hfst⟩
 ·rintro F H ⟨u,w,f4,f5,f8,f9,f12,f13,f14,f15,S,hu,hw,hfst⟩
  simp -implicitDefEqProofs only [BC,BP,BA,A8,EX,AY,BB,AO,AQ,AL,BD,AX,AC,AU,BH,AZ,↓reduceIte,oGs,bNf]
  refine G7 4 (fun F H=>F 5 = .ptr vb 0 0∧F 8 = .ptr b8 0 0∧F 9 = .ptr b9 0 0∧F 12 = .ptr ob 0 0∧F 13 = .ptr nb 0 0∧F 15 = .bool (rs.any PtR.bad)∧Sx h H m c t vb tb b8 b9 H0.length H3.length ob nb po co pb cbs (KZ rs (stO c t).P) (MN m (rs.map PtR.hit) (stO c t).C) 0 0 w∧outG 1 KY H3 (rs.map PtR.next) w H) (fun _ _=>False) ?_ ?_ (fun _ _ hh=>hh.elim)
  ·refine DR (fun n F H => ∃ i,n+i=m.crs.length∧F 4 = .ptr h.length 0 0∧F 5 = .ptr vb 0 0∧F 8 = .ptr b8 0 0∧F 9 = .ptr b9 0 0∧F 12 = .ptr ob 0 0∧F 13 = .ptr nb 0 0∧F 14=u∧F 15 = .bool (rs.any PtR.bad)∧F 22 = .int .i64 (i:Nat) ∧
     Sx h H m c t vb tb b8 b9 H0.length H3.length ob nb po co pb cbs (KZ rs (stO c t).P) (mix (MN m (rs.map PtR.hit) (stO c t).C) (zC m) i) 0 0 w∧outG 1 LH H3 (rs.map PtR.hit) u H∧outG 1 KY H3 (rs.map PtR.next) w H) m.crs.length
    ⟨0,by simp,by simp -implicitDefEqProofs only [AA,↓reduceIte,Nat.reduceEqDiff,f4],by simp -implicitDefEqProofs only [AA,↓reduceIte,Nat.reduceEqDiff,f5],by simp -implicitDefEqProofs only [AA,↓reduceIte,Nat.reduceEqDiff,f8],by simp -implicitDefEqProofs only [AA,↓reduceIte,Nat.reduceEqDiff,f9],by simp -implicitDefEqProofs only [AA,↓reduceIte,Nat.reduceEqDiff,f12],by simp -implicitDefEqProofs only [AA,↓reduceIte,Nat.reduceEqDiff,f13],by simp -implicitDefEqProofs only [AA,↓reduceIte,Nat.reduceEqDiff,f14],by simp -implicitDefEqProofs only [AA,↓reduceIte,Nat.reduceEqDiff,f15],by simp -implicitDefEqProofs only [AA,↓reduceIte] <;> rfl,S,hu,hw⟩ ?_
   clear S hu hw f4 f5 f8 f9 f12 f13 f14 f15
   rintro n F H ⟨i,hi,f4,f5,f8,f9,f12,f13,f14,f15,f22,S,hu,hw⟩
   simp -implicitDefEqProofs only [BC,BA,BI,A8,AY,BB,AO,AQ,AL,BD,AX,AC,AA,A7,BG,BV,BR,BL,D7,AB,DC,↓reduceIte,Nat.reduceEqDiff,Nat.zero_add,oGs,bNf,enP,V8,J6,f4,f22,S.m1,lLm]
   refine CV (fun hc => ?_) (fun hc => ?_)
   ·have hi':i < m.crs.length:=by simpa using hc
    have hiC:i < (stO c t).C.length:=by omega
    have hic:i < c.crs.length:=by omega
    have hip:i < cbs.length:=by omega
    have hiz:i < (zC m).length:=by omega
    have hcg:=hg.crs _ (List.getElem_mem hi')
    have hfs:=hg.full.szs hcg.here
    have hzl2:=N7 m m.crs[i].pts
    have htwo:=hcg.two
    have hfour:=hcg.four
    have hpr:=hcg.prod
    have hcr:=hm.crs _ (List.getElem_mem hi')
    have hxe:=hcr.excl
    have hCi:(stO c t).C[i]=c.crs[i].l:=by simp [stO]
    have hce:=hsh.ce i hiC hi'
    have hwn:Wn (stO c t).C[i]:=hsh.wc _ (List.getElem_mem hiC)
    have hpos:0 < m.pts.length:=by
     have:=hcg.here (m.crs[i].pts[0]'(by omega)) (List.getElem_mem _)
     omega
    obtain ⟨uo,rfl,guo⟩ : ∃ uo,u = .own uo 0 (rs.map PtR.hit).length∧H[uo]? = some (.live 1 ((rs.map PtR.hit).map LH)):=by
     rcases hu with ⟨q,_⟩ | ⟨_,o,_,e,g⟩
     ·have q2:(rs.map PtR.hit).length=0:=by rw [q]; rfl
      rw [lLm] at q2; omega
     ·exact ⟨o,e,g⟩
    have h64 : ∀ x∈rs.map PtR.hit,x.length≤1048576:=fun x hx=>by
     obtain ⟨r,hr,rfl⟩:=List.mem_map.1 hx
     rw [hrs] at hr
     obtain ⟨p,hp,rfl⟩:=List.mem_map.1 hr
     have h1:=AFE p.1 p.2 env
     have h2:=(hm.pts _ (List.of_mem_zip hp).1).num
     omega
    have hhl:(rs.map PtR.hit).length=m.pts.length:=by rw [lLm]; exact hrl
    have hmx:=mix_len (ys:=MN m (rs.map PtR.hit) (stO c t).C) (xs:=zC m) (i:=i) (by omega) (by omega)
    have hmi:=TZ (ys:=MN m (rs.map PtR.hit) (stO c t).C) (xs:=zC m) (i:=i) (j:=i) (by omega) (Nat.le_refl _) hiz (by omega)
    have hms:=mix_set (ys:=MN m (rs.map PtR.hit) (stO c t).C) (xs:=zC m) (i:=i) (by omega) hiz (by omega)
    have hsg2:=XD m (rs.map PtR.hit) (stO c t).C i hi' hiC (by omega)
    have hz2:(zC m)[i]=zeros (H8 (szs m m.crs[i].pts)):=by simp [zC]
    obtain ⟨M,hmm,hmx,hmi,hms⟩ : ∃ M,mix (MN m (rs.map PtR.hit) (stO c t).C) (zC m) i=M∧M.length=(zC m).length∧(∀ h:i < M.length,M[i]=(zC m)[i])∧M.set i (MN m (rs.map PtR.hit) (stO c t).C)[i]=mix (MN m (rs.map PtR.hit) (stO c t).C) (zC m) (i+1):=⟨_,rfl,hmx,fun _=>hmi,hms⟩
    rw [hmm] at S
    rw [hsg2] at hms
    have hrwl:=QB m m.crs[i] (rs.map PtR.hit) (stO c t).C[i]
    have hrow:=AD0 m m.crs[i] (rs.map PtR.hit) (stO c t).C[i]
    have hzn:=PX (H8 (szs m m.crs[i].pts))
    obtain ⟨pn,hpn⟩ : ∃ pn,pn=H8 (szs m m.crs[i].pts):=⟨_,rfl⟩
    rw [← hpn] at hpr hce hz2 hzn
    obtain ⟨R,hR⟩ : ∃ R,R=rowC m m.crs[i] (rs.map PtR.hit) (stO c t).C[i]:=⟨_,rfl⟩
    rw [← hR] at hms hrwl
    have hrz:R.length=(zeros pn).length:=by omega
    have Sa:=S.app [ABlk.live 3 [GL m.crs[i]]]
    have hua:=hu.app [ABlk.live 3 [GL m.crs[i]]]
    have hwa:=hw.app [ABlk.live 3 [GL m.crs[i]]]
    have gx:=CY H (ABlk.live 3 [GL m.crs[i]])
    have kh:=S.kh
    have guo2:=CQ guo
    simp -implicitDefEqProofs only [BC,BP,BA,BO,A8,AY,BB,AO,AQ,AL,BD,AX,AC,EW,AA,A7,AU,BH,BG,AZ,F5,BV,EM,BL,CG,CE,AB,DK,↓reduceIte,Nat.reduceEqDiff,Nat.zero_add,oGs,bNf,enP,YV,J6,Option.getD_none,f4,f22,S.m1,DZ hi',FV AAN WY JZ hi',AUD,AR7 _ _ [.str ⟨#[]⟩,.sl .nil 0 [],.sl .nil 0 []] rfl]
    generalize H ++ [ABlk.live 3 [GL m.crs[i]]]=Ha at Sa hua hwa gx ⊢
    have hxb:H.length ∉ cbs:=fun q=>by have:=S.hc _ q; omega
    have hxo:H.length≠uo:=by omega
    generalize H.length=xb at gx hxb hxo ⊢
    have huc : ∀ k,k < cbs.length→True:=fun _ _=>trivial
    clear guo guo2 hu hw S kh
    refine G7 6 (fun F H=>F 4 = .ptr h.length 0 0∧F 5 = .ptr vb 0 0∧F 8 = .ptr b8 0 0∧F 9 = .ptr b9 0 0∧F 12 = .ptr ob 0 0∧F 13 = .ptr nb 0 0∧F 14 = .own uo 0 (rs.map PtR.hit).length∧F 15 = .bool (rs.any PtR.bad)∧F 22 = .int .i64 (i:Nat) ∧
     Sx h H m c t vb tb b8 b9 H0.length H3.length ob nb po co pb cbs (KZ rs (stO c t).P) (M.set i R) 0 0 w∧outG 1 LH H3 (rs.map PtR.hit) (.own uo 0 (rs.map PtR.hit).length) H∧outG 1 KY H3 (rs.map PtR.next) w H) (fun _ _=>False) ?_ ?_ (fun _ _ hh=>hh.elim)
    ·have e0:M.set i (mix R (zeros pn) 0)=M:=by
      show M.set i (zeros pn)=M
      rw [← hz2,← hmi (by omega),List.set_getElem_self]
     refine DR (fun n F H => ∃ k,n+k=pn∧F 4 = .ptr h.length 0 0∧F 5 = .ptr vb 0 0∧F 8 = .ptr b8 0 0∧F 9 = .ptr b9 0 0∧F 12 = .ptr ob 0 0∧F 13 = .ptr nb 0 0∧F 14 = .own uo 0 (rs.map PtR.hit).length∧F 15 = .bool (rs.any PtR.bad)∧F 22 = .int .i64 (i:Nat)∧F 23 = .ptr xb 0 0∧F 24 = .int .i64 (k:Nat)∧H[xb]? = some (.live 3 [GL m.crs[i]]) ∧
       Sx h H m c t vb tb b8 b9 H0.length H3.length ob nb po co pb cbs (KZ rs (stO c t).P) (M.set i (mix R (zeros pn) k)) 0 0 w∧outG 1 LH H3 (rs.map PtR.hit) (.own uo 0 (rs.map PtR.hit).length) H∧outG 1 KY H3 (rs.map PtR.next) w H) pn
      ⟨0,by simp,by simp -implicitDefEqProofs only [AA,↓reduceIte,Nat.reduceEqDiff,f4],by simp -implicitDefEqProofs only [AA,↓reduceIte,Nat.reduceEqDiff,f5],by simp -implicitDefEqProofs only [AA,↓reduceIte,Nat.reduceEqDiff,f8],by simp -implicitDefEqProofs only [AA,↓reduceIte,Nat.reduceEqDiff,f9],by simp -implicitDefEqProofs only [AA,↓reduceIte,Nat.reduceEqDiff,f12],by simp -implicitDefEqProofs only [AA,↓reduceIte,Nat.reduceEqDiff,f13],by simp -implicitDefEqProofs only [AA,↓reduceIte,Nat.reduceEqDiff,f14],by simp -implicitDefEqProofs only [AA,↓reduceIte,Nat.reduceEqDiff,f15],by simp -implicitDefEqProofs only [AA,↓reduceIte,Nat.reduceEqDiff,f22],by simp -implicitDefEqProofs only [AA,↓reduceIte,Nat.reduceEqDiff],by simp -implicitDefEqProofs only [AA,↓reduceIte] <;> rfl,gx,by rw [e0]; exact Sa,hua,hwa⟩ ?_
     clear Sa hua hwa gx f4 f5 f8 f9 f12 f13 f14 f15 f22
     rintro n' F H ⟨k,hk,f4,f5,f8,f9,f12,f13,f14,f15,f22,f23,f24,gx,S,hu,hw⟩
     have hkl:=mix_len (ys:=R) (xs:=zeros pn) (i:=k) hrz (by omega)
     have hiM:i < (M.set i (mix R (zeros pn) k)).length:=by rw [List.length_set]; omega
     have hcur:(M.set i (mix R (zeros pn) k))[i]=mix R (zeros pn) k:=List.getElem_set_self _
     obtain ⟨q1,q2,q3,q4⟩:=S.rowC hiM hip
     rw [hcur] at q3 q4
     have hll2:(mix R (zeros pn) k).length=pn:=by omega
     simp -implicitDefEqProofs only [BC,BA,BI,A8,AY,BB,AO,AQ,AL,BD,AX,AC,AA,A7,BG,BV,BR,BL,CG,D7,AB,DC,↓reduceIte,Nat.reduceEqDiff,Nat.zero_add,oGs,bNf,enP,PH,MW,f12,f22,f24,q1,q2,q3,JJ.2,hll2]
     refine CV (fun hc => ?_) (fun hc => ?_)
     ·have hk':k < pn:=by simpa using hc
      have hkC:k < c.crs[i].l.length:=by rw [← hCi]; omega
      have hin:0≤c.crs[i].l[k]∧c.crs[i].l[k]≤1099511627776:=by
       rw [hCi] at hwn
       exact hwn _ (List.getElem_mem hkC)
      have hRk:R[k]'(by omega)=if (UB m m.crs[i] (NV (szs m m.crs[i].pts) k) && allB m.crs[i].pts (NV (szs m m.crs[i].pts) k) (rs.map PtR.hit))=true then rz c.crs[i].l[k] else c.crs[i].l[k]:=by
       rw [← getD_at R k (by omega),hR,hrow k (by omega),hCi,getD_at _ _ hkC]
       rfl
      have hset:=mix_set (ys:=R) (xs:=zeros pn) (i:=k) hrz (by omega) (by omega)
      have hix:=APV q4 (k:=k) (by omega)
      rw [hll2] at hix
      have hst:=AOZ q4 (k:=k) (by omega) (R[k]'(by omega))
      rw [hset] at hst
      have S2:=S.setC hip (mix R (zeros pn) (k+1)) (fun _=>by rw [hcur,mix_len hrz (by omega),hkl])
      rw [List.set_set] at S2
      have hu2:=hu.setB (b:=cbs[i]) (S.hc _ (List.getElem_mem hip)) (.live 1 ((mix R (zeros pn) (k+1)).map encI))
      have hw2:=hw.setB (b:=cbs[i]) (S.hc _ (List.getElem_mem hip)) (.live 1 ((mix R (zeros pn) (k+1)).map encI))
      have gx2:=CX (y := .live 1 ((mix R (zeros pn) (k+1)).map encI)) gx (show xb≠cbs[i] from fun q=>hxb (by rw [q]; exact List.getElem_mem hip))
      have hins:=WV (szs m m.crs[i].pts) k (fun n hn=>(hfs n hn).1)
      have htl:=RQ hins
      have guo:H[uo]? = some (.live 1 ((rs.map PtR.hit).map LH)):=by
       rcases hu with ⟨q,_⟩ | ⟨_,o,_,e,g⟩
       ·have q2:(rs.map PtR.hit).length=0:=by rw [q]; rfl
        rw [lLm] at q2; omega
       ·cases e; exact g
      simp -implicitDefEqProofs only [BC,BP,BA,BO,A8,AY,AO,AQ,AL,BD,AX,AC,AA,A7,BX,BG,BV,BZ,BU,AB,lMc,lMn,lAn,↓reduceIte,Nat.reduceEqDiff,oGs,bNf,enP,f4,f23,f24,ldM S.gm,ldC gx]
      refine (ADT G m m.crs[i] k H hcg.here hg.full (by omega) (by omega) (by omega)).use ?_
      simp -implicitDefEqProofs only [A8,AY,BB,AO,AQ,AL,BD,AX,AC,AA,A7,AZ,↓reduceIte,oGs,bNf]
      have hcnt:=ACK G m m.crs[i] (NV (szs m m.crs[i].pts) k) .any H hcg.here hins (by omega) (by omega)
      have hht:=APZ G m.crs[i] (NV (szs m m.crs[i].pts) k) .any (rs.map PtR.hit) uo H guo (fun p hp=>by have:=hcg.here p hp; rw [hhl]; exact this) (by omega) h64 (by omega)
      refine FC (by kernel_rfl) ?_
      simp -implicitDefEqProofs only [F9,EE,DX,EI,FH,GI,FO,FP,EH,EC,GR,GH,CO,AO,AA,A7,BX,BV,BL,CG,AB,lMc,lMn,lAn,↓reduceIte,Nat.reduceEqDiff,Nat.reduceAdd,Nat.zero_add,oGs,enP,PH,MW,JM,f4,f5,f12,f14,f22,f23,f24,q1,q2,q3,hll2,S.v1,DZ hic,DV MS hic,QX,DZ hkC,DV ag3 hkC,SY,ldM S.gm,ldC gx]
      refine ⟨_,hcnt,?_⟩
      try simp -implicitDefEqProofs only []
      cases h1:UB m m.crs[i] (NV (szs m m.crs[i].pts) k)
      ·rw [h1,Bool.false_and] at hRk
       simp -implicitDefEqProofs only [F9,EE,DX,EI,FH,GI,AAC,IZ,EC,GR,GH,CO,AO,AA,EQ,A7,AU,BX,BM,CU,DL,CG,lMc,lMn,lAn,↓reduceIte,Nat.reduceEqDiff,Nat.reduceAdd,oGs,enP,JM]
       refine ⟨_,TY G c.crs[i].l[k] false H hin.1 hin.2,?_⟩
       rw [← hRk]
       try simp -implicitDefEqProofs only [F9,EE,DX,KP,FB,EI,KO,BA,A8,EF,ER,AY,BB,AO,AQ,AL,BD,AX,AC,AA,A7,AU,BH,BG,AZ,EM,BR,AB,DK,DF,↓reduceIte,Nat.reduceEqDiff,Nat.zero_add,oGs,bNf,enP,Option.getD_none,hix,hst,f24,wrap_succ (show k < 9223372036854775807 by omega)]
       exact ⟨n' - 1,by omega,k+1,by omega,by first | trivial | exact f4,by first | trivial | exact f5,by first | trivial | exact f8,by first | trivial | exact f9,by first | trivial | exact f12,by first | trivial | exact f13,by first | trivial | exact f14,by first | trivial | exact f15,by first | trivial | exact f22,by first | trivial | exact f23,by first | trivial | rfl,gx2,S2,hu2,hw2⟩
      ·rw [h1,Bool.true_and] at hRk
       simp -implicitDefEqProofs only [F9,EE,DX,EI,FH,GI,TI,FO,IZ,FP,EC,GR,GH,CO,AO,AA,A7,AU,BX,BM,CU,DT,BV,CG,AB,lMc,lMn,lAn,↓reduceIte,Nat.reduceEqDiff,Nat.reduceAdd,oGs,enP,JM,f14,f23,ldC gx]
       refine ⟨_,hht,?_⟩
       try simp -implicitDefEqProofs only []
       refine ⟨_,TY G c.crs[i].l[k] (allB m.crs[i].pts (NV (szs m m.crs[i].pts) k) (rs.map PtR.hit)) H hin.1 hin.2,?_⟩
       rw [← hRk]
       try simp -implicitDefEqProofs only [F9,EE,DX,KP,FB,EI,KO,BA,A8,EF,ER,AY,BB,AO,AQ,AL,BD,AX,AC,AA,A7,AU,BH,BG,AZ,EM,BR,AB,DK,DF,↓reduceIte,Nat.reduceEqDiff,Nat.zero_add,oGs,bNf,enP,Option.getD_none,hix,hst,f24,wrap_succ (show k < 9223372036854775807 by omega)]
       exact ⟨n' - 1,by omega,k+1,by omega,by first | trivial | exact f4,by first | trivial | exact f5,by first | trivial | exact f8,by first | trivial | exact f9,by first | trivial | exact f12,by first | trivial | exact f13,by first | trivial | exact f14,by first | trivial | exact f15,by first | trivial | exact f22,by first | trivial | exact f23,by first | trivial | rfl,gx2,S2,hu2,hw2⟩
     ·have hk':k=(zeros pn).length:=by
       have : ¬ k < pn:=by simpa using hc
       omega
      rw [hk',PT hrz] at S
      simp -implicitDefEqProofs only [DJ,ED,KI,EU,AA,↓reduceIte,Nat.reduceEqDiff]
      exact ⟨f4,f5,f8,f9,f12,f13,f14,f15,f22,S,hu,hw⟩
    ·clear Sa hua hwa gx f4 f5 f8 f9 f12 f13 f14 f15 f22
     rintro F H ⟨f4,f5,f8,f9,f12,f13,f14,f15,f22,S,hu,hw⟩
     rw [hms] at S
     simp -implicitDefEqProofs only [BA,A8,EF,EX,ER,AY,BB,AO,AQ,AL,BD,AX,AC,AA,A7,AU,BH,BG,AZ,BR,AB,DF,↓reduceIte,Nat.reduceEqDiff,oGs,bNf,enP,f22,wrap_succ (show i < 9223372036854775807 by omega)]
     exact ⟨n - 1,by omega,i+1,by omega,by first | trivial | exact f4,by first | trivial | exact f5,by first | trivial | exact f8,by first | trivial | exact f9,by first | trivial | exact f12,by first | trivial | exact f13,by first | trivial | exact f14,by first | trivial | exact f15,by first | trivial | rfl,S,hu,hw⟩
   ·have hi':i=(zC m).length:=by
     have : ¬ i < m.crs.length:=by simpa using hc
     omega
    rw [hi',PT (by omega)] at S
    simp -implicitDefEqProofs only [DJ,ED,KI,EU,AA,↓reduceIte,Nat.reduceEqDiff]
    exact ⟨f5,f8,f9,f12,f13,f15,S,hw⟩
  ·clear S hu hw f4 f5 f8 f9 f12 f13 f14 f15
   rintro F H ⟨f5,f8,f9,f12,f13,f15,S,hw⟩
   have hsm:0≤c.sam∧c.sam≤1099511627776:=hok.sm
   have hil:0≤c.ill∧c.ill≤1099511627776:=hok.il
   simp -implicitDefEqProofs only [BC,BA,A8,EX,AY,AO,AQ,AL,BD,AX,AC,AA,A7,AU,BX,BM,BV,BL,BZ,BU,AB,lMc,lMn,lAn,↓reduceIte,Nat.zero_add,oGs,bNf,enP,Y5,f5,S.v2]
   refine (TY G c.sam true H hsm.1 hsm.2).use ?_
   have hst1:FK Tryz.prog H 3 (.ptr ob 0 2) (.int .i64 (rz c.sam))=some (H.set ob (.live 4 [cvR po (KZ rs (stO c t).P) co (MN m (rs.map PtR.hit) (stO c t).C) (rz c.sam) 0])):=NM (PK _ _) sz3 S.cs.gc (by simp [cvR])
   have S1:=S.setN (rz c.sam) 0
   have hw1:=hw.setB (b:=ob) hob (.live 4 [cvR po (KZ rs (stO c t).P) co (MN m (rs.map PtR.hit) (stO c t).C) (rz c.sam) 0])
   simp -implicitDefEqProofs only [BC,BA,A8,AY,BB,AO,AQ,AL,BD,AX,AC,EW,AA,A7,EM,BL,AB,DK,↓reduceIte,Nat.reduceEqDiff,Nat.zero_add,oGs,bNf,enP,Y5,Option.getD_none,f12,hst1]
   generalize H.set ob (.live 4 [cvR po (KZ rs (stO c t).P) co (MN m (rs.map PtR.hit) (stO c t).C) (rz c.sam) 0])=Ha at S1 hw1 ⊢
   simp -implicitDefEqProofs only [AY,AO,AQ,AL,BD,AX,AC,AA,A7,BX,BG,BV,BZ,BU,AB,lMc,lMn,lAn,↓reduceIte,Nat.reduceEqDiff,Nat.zero_add,oGs,bNf,enP,Y4,f5,S1.v3,f15]
   refine (TY G c.ill (rs.any PtR.bad) Ha hil.1 hil.2).use ?_
   obtain ⟨il,hill⟩ : ∃ z,z=if rs.any PtR.bad=true then rz c.ill else c.ill:=⟨_,rfl⟩
   rw [← hill]
   have hst2:FK Tryz.prog Ha 3 (.ptr ob 0 3) (.int .i64 il)=some (Ha.set ob (.live 4 [cvR po (KZ rs (stO c t).P) co (MN m (rs.map PtR.hit) (stO c t).C) (rz c.sam) il])):=NM (PK _ _) sz3 S1.cs.gc (by simp [cvR])
   have S2:=S1.setN (rz c.sam) il
   have hw2:=hw1.setB (b:=ob) hob (.live 4 [cvR po (KZ rs (stO c t).P) co (MN m (rs.map PtR.hit) (stO c t).C) (rz c.sam) il])
   simp -implicitDefEqProofs only [BC,A8,AY,BB,AO,AQ,AL,BD,AX,AC,EW,AA,A7,EM,BL,AB,DK,↓reduceIte,Nat.reduceEqDiff,Nat.zero_add,oGs,bNf,enP,Y4,Option.getD_none,f12,hst2]
   generalize Ha.set ob (.live 4 [cvR po (KZ rs (stO c t).P) co (MN m (rs.map PtR.hit) (stO c t).C) (rz c.sam) il])=Hb at S2 hw2 ⊢
   have lo:=S2.lo; have ln:=S2.ln
   refine U9 [(13,8)] (by kernel_rfl) ?_ ?_
   ·simp -implicitDefEqProofs only [AA,↓reduceIte,Nat.reduceEqDiff,f8,f13,VB,YA,XF,and_true]
    omega
   simp -implicitDefEqProofs only [F9,EE,DX,KP,FB,EI,JR,FP,KO,BK,A8,AO,AA,A7,AU,BH,BV,EM,AB,DK,↓reduceIte,Nat.reduceEqDiff,Nat.reduceAdd,Nat.zero_add,oGs,enP,Option.getD_none,f8,f9,f12,f13,J5 S2.cs.gc rfl,O0 S2.cs.gt rfl,AUZ S2.g8 rfl,AG2 (CX S2.g9 (show b9≠b8 by omega)) rfl hw2.leaf]
   rw [U5 (ba:=b8) (bb:=b9) (by simp -implicitDefEqProofs only [AA,↓reduceIte,Nat.reduceEqDiff,f8]) (by simp -implicitDefEqProofs only [AA,↓reduceIte,Nat.reduceEqDiff,f9]) (J5 (CX (EJ S2.g8) (show b8≠b9 by omega)) rfl) (O0 (EJ (CX S2.g9 (show b9≠b8 by omega))) rfl)]
   refine ⟨(S2.hx.set (by omega) _).set (by omega) _,?_⟩
   obtain ⟨st,hst⟩ : ∃ z,z=stp m (stO c t) env:=⟨_,rfl⟩
   have eP:KZ rs (stO c t).P=st.P:=by rw [hst,hrs]; rfl
   have eC:MN m (rs.map PtR.hit) (stO c t).C=st.C:=by rw [hst,hrs]; rfl
   have eL:rs.map PtR.next=st.ls:=by rw [hst,hrs]; rfl
   have eS:rz c.sam=st.sam:=by rw [hst]; rfl
   have eI:il=st.ill:=by rw [hill,hst,hrs]; rfl
   rw [eP,eC,eS,eI] at S2 ⊢
   rw [eL] at hw2
   have np':NL H0.length ((Hb.set b8 (.live 4 [cvR po st.P co st.C st.sam st.ill])).set b9 (.live 1 [[w]])) po pb st.P:=S2.cs.np.keep fun b x hb hg=>by
    have:=S2.cs.np.lt hb
    exact CX (CX hg (by omega)) (by omega)
   have nc':NL H0.length ((Hb.set b8 (.live 4 [cvR po st.P co st.C st.sam st.ill])).set b9 (.live 1 [[w]])) co cbs st.C:=S2.cs.nc.keep fun b x hb hg=>by
    have:=S2.cs.nc.lt hb
    exact CX (CX hg (by omega)) (by omega)
   have hwf:=(hw2.setB (b:=b8) (by omega) (.live 4 [cvR po st.P co st.C st.sam st.ill])).setB (b:=b9) (by omega) (.live 1 [[w]])
   have e1:=AQU st np' nc' h.length 0 (by omega)
   have e2:=XT AYC hwf h.length 1 h3l
   have hz:P9 m c t env=0:=by rw [hE]; unfold SI; rw [← hrs]; exact hfst
   unfold AE9
   rw [if_pos hz,← hst]
   show AV.tup [IQ h.length _ 4 (.agg (cvR po st.P co st.C st.sam st.ill)),.agg [IQ h.length _ 3 w],_]=_
   rw [e1,e2]
   simp -implicitDefEqProofs only [AA,↓reduceIte]
   rfl
 ·rintro F H ⟨e,f8,f9,f10,hne,hfst,g8,g9,hx⟩
  exact hend F e f8 f9 f10 (WZ (by rw [hE]; unfold SI; rw [← hrs]; exact hfst) hne) H g8 g9 hx
theorem WQ:CvOk zV:=⟨by decide,by decide,fun x hx=>(by cases hx),fun x hx=>(by cases hx)⟩
theorem AK3:TkOk zT:=⟨by decide,fun x hx=>(by cases hx)⟩
theorem ADW {m:Mo} {c:Cvr} {t:Tk} {env:List Sg} (h:P9 m c t env=0):MV m c=true∧AAE m t=true∧SI m (stO c t) env=0:=by
 unfold P9 at h
 split at h
 ·split at h
  ·rename_i h2
   rw [Bool.and_eq_true] at h2
   exact ⟨h2.1,h2.2,h⟩
  ·cases h
 ·rename_i h2; exact absurd h h2
theorem ALG (m:Mo) (c:Cvr) (t:Tk) (env:List Sg):CvOk (W9 m c t env):=by
 unfold W9
 split
 ·rename_i h
  obtain ⟨h1,h2,h3⟩:=ADW h
  exact Y8 ((AAX h1 h2).step h3).fits
 ·exact WQ
theorem AVI {m:Mo} {s:St} (h:FitS m s):TkOk (tkS s):=by
 have h1:=h.ll
 have hn:=(PV h.me).num
 refine ⟨by simp [tkS,isL]; omega,fun x hx => ?_⟩
 obtain ⟨y,hy,rfl⟩:=List.mem_map.1 hx
 have:=h.ok.l7 y hy
 show y.length≤_
 omega
theorem ASB (m:Mo) (c:Cvr) (t:Tk) (env:List Sg):TkOk (ABG m c t env):=by
 unfold ABG
 split
 ·rename_i h
  obtain ⟨h1,h2,h3⟩:=ADW h
  exact AVI ((AAX h1 h2).step h3)
 ·exact AK3
def YN (m:Mo):Cvr→Tk→List (List Sg)→Cvr × Int
 | c,_,[]=>(c,0)
 | c,t,e :: r=>if P9 m c t e=0 then YN m (W9 m c t e) (ABG m c t e) r else (zV,P9 m c t e)
def rnR (m:Mo) (l:List (List Sg)):Cvr × Int:=if FX m=0 then YN m (emV m) (VF m) l else (zV,FX m)
theorem AHH (m:Mo) : ∀ (l:List (List Sg)) (c:Cvr) (t:Tk),(YN m c t l).2≠0→(YN m c t l).1=zV
 | [],_,_,h=>absurd rfl h
 | e :: r,c,t,h=>by
   unfold YN at h ⊢
   split
   ·rename_i h2
    rw [if_pos h2] at h
    exact AHH m r _ _ h
   ·rfl
theorem ASN {m:Mo} {l:List (List Sg)} (h:(rnR m l).2≠0):(rnR m l).1=zV:=by
 unfold rnR at h ⊢
 split
 ·rename_i h2
  rw [if_pos h2] at h
  exact AHH _ _ _ _ h
 ·rfl
def rnW (m:Mo) (l:List (List Sg)):List AV:=if (rnR m l).2=0 then F7 (rnR m l).1 else FW
theorem AVV (m:Mo) (l:List (List Sg)):CvR (.agg (rnW m l)) (.agg (F7 (rnR m l).1)):=by
 unfold rnW
 split
 ·exact CvR.refl _
 ·rename_i h
  rw [ASN h]; exact AOG
theorem AQK (m:Mo):CvOk (emV m):=by
 unfold emV
 split
 ·rename_i h
  exact Y8 (ZY h)
 ·exact WQ
theorem ATV (m:Mo):TkOk (VF m):=by
 unfold VF
 split
 ·rename_i h
  have hn:=(PV h).num
  refine ⟨by simp [zLs]; omega,fun x hx => ?_⟩
  obtain ⟨y,_,rfl⟩:=List.mem_map.1 hx
  simp
 ·exact AK3
structure Rr (h H:Hp) (m:Mo) (c:Cvr) (t:Tk) (b4 cb tb:Nat):Prop where
 gm:H[h.length]? = some (.live 2 [EP m])
 g4:H[b4]? = some (.live 4 [FW])
 gc:H[cb]? = some (.live 4 [F7 c])
 gt:H[tb]? = some (.live 1 [KU t])
 o1:h.length < b4
 o2:b4 < cb
 o3:cb < tb
 hx:ext h H
theorem Rr.ext {h H H':Hp} {m:Mo} {c:Cvr} {t:Tk} {b4 cb tb:Nat} (R:Rr h H m c t b4 cb tb) (hx:Sm.ext H H'):Rr h H' m c t b4 cb tb:=⟨FT hx R.gm,FT hx R.g4,FT hx R.gc,FT hx R.gt,R.o1,R.o2,R.o3,R.hx.trans hx⟩
theorem Rr.setC {h H:Hp} {m:Mo} {c:Cvr} {t:Tk} {b4 cb tb:Nat} (R:Rr h H m c t b4 cb tb) (c':Cvr):Rr h (H.set cb (.live 4 [F7 c'])) m c' t b4 cb tb:=by
 have o1:=R.o1; have o2:=R.o2; have o3:=R.o3
 exact ⟨CX R.gm (by omega),CX R.g4 (by omega),EJ R.gc,CX R.gt (by omega),o1,o2,o3,R.hx.set (by omega) _⟩
theorem Rr.setT {h H:Hp} {m:Mo} {c:Cvr} {t:Tk} {b4 cb tb:Nat} (R:Rr h H m c t b4 cb tb) (t':Tk):Rr h (H.set tb (.live 1 [KU t'])) m c t' b4 cb tb:=by
 have o1:=R.o1; have o2:=R.o2; have o3:=R.o3
 exact ⟨CX R.gm (by omega),CX R.g4 (by omega),CX R.gc (by omega),EJ R.gt,o1,o2,o3,R.hx.set (by omega) _⟩
set_option maxHeartbeats 4000000 in
theorem AUI (G:Nat→AV) (m:Mo) (hm:MoOk m) (l:List Ss) (s:SM) (h:Hp) (hl:l.length≤1048576) (he : ∀ x∈l,x.l.length≤1048576∧∀ s∈x.l,AAP s) :
  PCall (En G) 49 [.agg (EP m),.sl s 1 (l.map NT)] h (.tup [.agg (F7 (rnR m (l.map Ss.l)).1),.int .i64 (rnR m (l.map Ss.l)).2]):=by
 refine PCall.res (r := .tup [.agg (rnW m (l.map Ss.l)),.int .i64 (rnR m (l.map Ss.l)).2]) ?_ (CvR.tup (CvRL.cons (AVV _ _) (CvRL.refl _)))
 refine XG 3 (fun n H => ?_) ?_
 ·unfold rnW
  split <;> rfl
 refine CB (H:=hint [37] []) (enM G) Tryz.func49 rfl (by kernel_rfl) (by kernel_rfl) (nLb (by kernel_rfl)) ?_
 show awp _ _ _ _ _ (EG _ [.cell 4 28,.tmp 5] _)
 have gm:=CW (x:=ABlk.live 4 [FW]) (CY h (ABlk.live 2 [EP m]))
 have g4:=CY (h ++ [ABlk.live 2 [EP m]]) (ABlk.live 4 [FW])
 have hx:ext h (h ++ [ABlk.live 2 [EP m]] ++ [ABlk.live 4 [FW]]):=((ext.rfl' h).app _).app _
 have hb4:h.length < (h ++ [ABlk.live 2 [EP m]]).length:=by simp
 simp -implicitDefEqProofs only [D5,List.contains_cons,List.contains_nil,Nat.reduceBEq,Bool.or_false,BC,BA,A8,AY,BB,AL,BD,AX,AC,AA,A7,AU,BH,AZ,F5,FY,BV,CE,BF,↓reduceIte,Nat.reduceEqDiff,oGs,bNf,enP,D9,bxM,OE]
 generalize h ++ [ABlk.live 2 [EP m]] ++ [ABlk.live 4 [FW]]=H0 at gm g4 hx ⊢
 generalize (h ++ [ABlk.live 2 [EP m]]).length=b4 at g4 hb4 ⊢
 have hlt:=CQ g4
 simp -implicitDefEqProofs only [D5,List.contains_cons,List.contains_nil,Nat.reduceBEq,Bool.or_false,AY,AL,BD,AX,AC,AA,A7,BX,BZ,BU,AB,lMc,lMn,lAn,↓reduceIte,oGs,bNf,D9,ldM gm]
 refine (AOA G m hm H0).use ?_
 obtain ⟨s1,s2,g6,g7,hx5⟩:=AX6 H0 (emV m) (VF m)
 have R0:Rr h _ m (emV m) (VF m) b4 H0.length (H0 ++ [ABlk.live 4 [FW]]).length:=⟨FT hx5 gm,FT hx5 g4,g6,g7,hb4,hlt,by simp,hx.trans hx5⟩
 simp -implicitDefEqProofs only [List.getElem?_cons_zero,List.getElem?_cons_succ,D5,List.contains_cons,List.contains_nil,Nat.reduceBEq,Bool.or_false,BC,BA,BI,A8,AY,BB,AL,BD,AX,AC,EW,AA,A7,AU,BH,BG,AZ,F5,EM,BR,FQ,G9,CE,AB,DK,EN,↓reduceIte,Nat.reduceEqDiff,oGs,bNf,enP,D9,Option.getD_none,OE,AAM,s1,s2]
 generalize ((H0 ++ [ABlk.live 4 [FW]] ++ [ABlk.live 1 [F6]]).set H0.length (ABlk.live 4 [F7 (emV m)])).set (H0 ++ [ABlk.live 4 [FW]]).length (ABlk.live 1 [KU (VF m)])=H5 at R0 ⊢
 generalize (H0 ++ [ABlk.live 4 [FW]]).length=tb at R0 ⊢
 generalize H0.length=cb at R0 ⊢
 clear s1 s2 g6 g7 hx5 gm g4 hx hlt
 cases hb:(FX m == 0)
 ·have hne:FX m≠0:=by simpa using hb
  have hr:rnR m (l.map Ss.l)=(zV,FX m):=by unfold rnR; rw [if_neg hne]
  simp -implicitDefEqProofs only [FI,D5,List.contains_cons,List.contains_nil,Nat.reduceBEq,Bool.or_false,BC,BA,BK,A8,CP,C9,AY,BB,AL,BD,AX,AC,EW,AA,A7,BG,AZ,I8,EM,AB,DK,↓reduceIte,Nat.reduceEqDiff,oGs,bNf,enP,D9,Option.getD_none,bne,hb,TF,stZ R0.g4 rfl]
  rw [U6 (ba:=b4) (by simp -implicitDefEqProofs only [AA,↓reduceIte,Nat.reduceEqDiff]) (J5 (EJ R0.g4) rfl)]
  refine ⟨?_,R0.hx.set (by omega) _⟩
  unfold rnW
  rw [hr]
  simp -implicitDefEqProofs only [AA,↓reduceIte]
  rw [if_neg hne]
 have h0:FX m=0:=by simpa using hb
 have hr0:rnR m (l.map Ss.l)=YN m (emV m) (VF m) (l.map Ss.l):=by unfold rnR; rw [if_pos h0]
 simp -implicitDefEqProofs only [D5,List.contains_cons,List.contains_nil,Nat.reduceBEq,Bool.or_false,BC,BP,BA,BO,A8,DN,AY,BB,AL,BD,AX,AC,AU,BH,AZ,oGs,bNt,bNf,D9,bne,hb]
 refine DR (fun n F H => ∃ k c t,n+k=l.length∧F 1 = .sl s 1 (l.map NT)∧F 2 = .ptr h.length 0 0∧F 4 = .ptr b4 0 0∧F 6 = .ptr cb 0 0∧F 7 = .ptr tb 0 0∧F 9 = .int .i64 (k:Nat)∧Rr h H m c t b4 cb tb∧CvOk c∧TkOk t∧rnR m (l.map Ss.l)=YN m c t ((l.drop k).map Ss.l)) l.length
  ⟨0,emV m,VF m,by simp,by simp -implicitDefEqProofs only [AA,BF,BN,↓reduceIte,Nat.reduceEqDiff],by simp -implicitDefEqProofs only [AA,↓reduceIte,Nat.reduceEqDiff],by simp -implicitDefEqProofs only [AA,↓reduceIte,Nat.reduceEqDiff],by simp -implicitDefEqProofs only [AA,↓reduceIte,Nat.reduceEqDiff],by simp -implicitDefEqProofs only [AA,↓reduceIte,Nat.reduceEqDiff],by simp -implicitDefEqProofs only [AA,↓reduceIte] <;> rfl,R0,AQK m,ATV m,hr0⟩ ?_
 clear R0 hr0
 rintro n F H ⟨k,c,t,hk,f1,f2,f4,f6,f7,f9,R,hcv,htk,hrun⟩
 simp -implicitDefEqProofs only [D5,List.contains_cons,List.contains_nil,Nat.reduceBEq,Bool.or_false,BC,BA,BI,A8,AY,BB,AL,BD,AX,AC,AA,A7,BG,BR,D7,AB,DC,↓reduceIte,Nat.reduceEqDiff,oGs,bNf,enP,APL,D9,f1,f9,lLm]
 refine CV (fun hc => ?_) (fun hc => ?_)
 ·have hk':k < l.length:=by simpa using hc
  obtain ⟨e1,e2⟩:=he _ (List.getElem_mem hk')
  rw [List.drop_eq_getElem_cons hk',lMc] at hrun
  unfold YN at hrun
  obtain ⟨s1,s2,g6,g7,hx5⟩:=AX6 H (W9 m c t l[k].l) (ABG m c t l[k].l)
  have R5:=R.ext hx5
  have hlt:=CQ R.gt
  have o1:=R.o1; have o2:=R.o2; have o3:=R.o3
  simp -implicitDefEqProofs only [BC,BP,BO,A8]
  refine AGH (fun F H' => ∃ b10 b11,F 1 = .sl s 1 (l.map NT)∧F 2 = .ptr h.length 0 0∧F 4 = .ptr b4 0 0∧F 6 = .ptr cb 0 0∧F 7 = .ptr tb 0 0∧F 9 = .int .i64 (k:Nat)∧F 10 = .ptr b10 0 0∧F 11 = .ptr b11 0 0∧F 12 = .int .i64 (P9 m c t l[k].l)∧H'[b10]? = some (.live 4 [F7 (W9 m c t l[k].l)])∧H'[b11]? = some (.live 1 [KU (ABG m c t l[k].l)])∧tb < b10∧tb < b11∧Rr h H' m c t b4 cb tb) (fun _ _=>False) ?_ ?_ (fun _ _ hh=>hh.elim)
  ·refine ARC [] [0,1,2,3,4,5,6,7,8,9,10,11] 12 13 [14,15,16] (by kernel_rfl) trivial ?_
   simp only [OJ,List.getElem?_cons_succ,List.getElem?_cons_zero]
   simp -implicitDefEqProofs only [F9,D5,List.contains_cons,List.contains_nil,Nat.reduceBEq,Bool.or_false,EE,DX,EI,FO,AE5,FP,EC,LW,GR,ANX,AA,A7,BX,F5,BV,CG,FQ,AB,lMc,lMn,lAn,↓reduceIte,Nat.reduceEqDiff,Nat.reduceAdd,oGs,enP,ATE,f1,f2,f6,f7,f9,ldM R.gm,ldV R.gc,ldT R.gt,DZ hk',DV ARL hk',AKA]
   refine ⟨_,fun x=>AKY G m hm c hcv t htk l[k].l l[k].m _ (by omega) e2,?_⟩
   try simp -implicitDefEqProofs only [F9,List.getElem?_cons_zero,List.getElem?_cons_succ,D5,List.contains_cons,List.contains_nil,Nat.reduceBEq,Bool.or_false,EE,DX,FB,EI,LW,AA,A7,FQ,G9,AB,↓reduceIte,Nat.reduceEqDiff,Nat.reduceAdd,oGs]
   have e10:(H ++ [ABlk.live 4 [FW]]).length=H.length+1:=by simp
   have e11:(H ++ [ABlk.live 1 [F6]]).length=H.length+1:=by simp
   refine ⟨?_,?_⟩
   ·simp -implicitDefEqProofs only [F9,D5,List.contains_cons,List.contains_nil,Nat.reduceBEq,Bool.or_false,EE,DX,KP,FB,EI,JR,AE5,KO,TE,AA,A7,F5,EM,CE,DK,↓reduceIte,Nat.reduceEqDiff,Nat.reduceAdd,Nat.zero_add,oGs,enP,Option.getD_none,OE,AAM,s1,s2]
    exact ⟨_,_,by first | trivial | exact f1,by first | trivial | exact f2,by first | trivial | exact f4,by first | trivial | exact f6,by first | trivial | exact f7,by first | trivial | exact f9,by first | trivial | rfl,by first | trivial | rfl,by first | trivial | rfl,g6,g7,by omega,by omega,R.ext hx5⟩
   ·have t1:FK Tryz.prog (H ++ [ABlk.live 1 [F6]] ++ [ABlk.live 4 [FW]]) 28 (.ptr (H ++ [ABlk.live 1 [F6]]).length 0 0) (.agg (F7 (W9 m c t l[k].l)))=some (H ++ [ABlk.live 1 [F6]] ++ [ABlk.live 4 [F7 (W9 m c t l[k].l)]]):=by
     rw [stV (CY _ _) rfl,PQ]
    have t2:=stT (t:=ABG m c t l[k].l) (CW (x:=ABlk.live 4 [F7 (W9 m c t l[k].l)]) (CY H (ABlk.live 1 [F6]))) rfl
    simp -implicitDefEqProofs only [F9,D5,List.contains_cons,List.contains_nil,Nat.reduceBEq,Bool.or_false,EE,DX,KP,FB,EI,JR,AE5,KO,TE,AA,A7,F5,EM,CE,DK,↓reduceIte,Nat.reduceEqDiff,Nat.reduceAdd,Nat.zero_add,oGs,enP,Option.getD_none,OE,AAM,t1,t2]
    exact ⟨_,_,by first | trivial | exact f1,by first | trivial | exact f2,by first | trivial | exact f4,by first | trivial | exact f6,by first | trivial | exact f7,by first | trivial | exact f9,by first | trivial | rfl,by first | trivial | rfl,by first | trivial | rfl,CX (CY _ _) (by omega),EJ (CW (CY _ _)),by omega,by omega,R.ext ((((ext.rfl' H).app _).app _).set (Nat.le_refl _) _)⟩
  clear R f1 f2 f4 f6 f7 f9 s1 s2 g6 g7 hx5 R5 hlt
  rintro F H6 ⟨b10,b11,f1,f2,f4,f6,f7,f9,f10,f11,f12,g6,g7,hb10,hb11,R5⟩
  simp -implicitDefEqProofs only [D5,List.contains_cons,List.contains_nil,Nat.reduceBEq,Bool.or_false,BC,BA,BI,A8,AY,BB,AL,BD,AX,AC,AA,A7,AU,BH,BG,BR,AB,EN,↓reduceIte,oGs,bNf,enP,D9,f12]
  cases hz:(P9 m c t l[k].l == 0)
  ·have hne:P9 m c t l[k].l≠0:=by simpa using hz
   rw [if_neg hne] at hrun
   simp -implicitDefEqProofs only [FI,D5,List.contains_cons,List.contains_nil,Nat.reduceBEq,Bool.or_false,BC,BA,BK,A8,CP,D8,E8,C9,AY,BB,AL,BD,AX,AC,EW,AA,A7,BG,AZ,I8,EM,AB,DK,↓reduceIte,Nat.reduceEqDiff,oGs,bNf,enP,D9,Option.getD_none,bne,hz,TF,f4,stZ R5.g4 rfl]
   rw [U6 (ba:=b4) (by simp -implicitDefEqProofs only [AA,↓reduceIte,Nat.reduceEqDiff,f4]) (J5 (EJ R5.g4) rfl)]
   refine ⟨?_,R5.hx.set (by omega) _⟩
   unfold rnW
   rw [hrun]
   simp -implicitDefEqProofs only [AA,↓reduceIte]
   rw [if_neg hne,f12]
  ·have hz0:P9 m c t l[k].l=0:=by simpa using hz
   rw [if_pos hz0] at hrun
   have R6:=R5.setC (W9 m c t l[k].l)
   have g72:(H6.set cb (.live 4 [F7 (W9 m c t l[k].l)]))[b11]? = _:=CX g7 (show b11≠cb by omega)
   have R7:=R6.setT (ABG m c t l[k].l)
   simp -implicitDefEqProofs only [D5,List.contains_cons,List.contains_nil,Nat.reduceBEq,Bool.or_false,BC,BA,BO,A8,EF,ER,DN,AY,BB,AL,BD,AX,AC,EW,AA,A7,AU,BH,BG,AZ,BV,EM,BR,AB,DK,DF,↓reduceIte,Nat.reduceEqDiff,oGs,bNt,bNf,enP,D9,Option.getD_none,bne,hz,f6,f10,ldV g6,stV R5.gc rfl,f7,f11,ldT g72,stT R6.gt rfl,f9,wrap_succ (show k < 9223372036854775807 by omega)]
   exact ⟨n - 1,by omega,k+1,_,_,by omega,by first | trivial | exact f1,by first | trivial | exact f2,by first | trivial | exact f4,by first | trivial | exact f6,by first | trivial | exact f7,by first | trivial | rfl,R7,ALG _ _ _ _,ASB _ _ _ _,hrun⟩
 ·have hk' : ¬ k < l.length:=by simpa using hc
  rw [List.drop_eq_nil_of_le (by omega)] at hrun
  have hr:rnR m (l.map Ss.l)=(c,0):=hrun
  have o1:=R.o1
  simp -implicitDefEqProofs only [D5,List.contains_cons,List.contains_nil,Nat.reduceBEq,Bool.or_false,BC,BA,BK,DJ,A8,ED,EX,EU,AY,BB,AL,BD,AX,AC,EW,AA,A7,AU,BH,AZ,BV,EM,AB,DK,↓reduceIte,Nat.reduceEqDiff,oGs,bNf,enP,D9,Option.getD_none,f4,f6,ldV R.gc,stV R.g4 rfl]
  rw [U6 (ba:=b4) (by simp -implicitDefEqProofs only [AA,↓reduceIte,Nat.reduceEqDiff,f4]) (ldV (EJ R.g4))]
  refine ⟨?_,R.hx.set (by omega) _⟩
  unfold rnW
  rw [hr]
  simp -implicitDefEqProofs only [AA,↓reduceIte]
theorem ATY (c:Cvr) (t:Tk):AAK (cvS (stO c t))=AAK c:=by
 unfold AAK cvS stO
 simp only [QJ]
theorem ATF (P:List (List Int)):(isL P).map Is.l=P:=by unfold isL; rw [List.map_map]; exact List.map_id _
theorem AVN (s:St):stO (cvS s) (tkS s)=s:=by
 cases s with
 | mk P C a b ls =>
   unfold stO cvS tkS
   simp only [ATF]
   congr 1
   ·exact QJ P
   ·exact QJ C
theorem ALN (m:Mo) : ∀ (l:List (List Sg)) (c:Cvr) (t:Tk),MV m c=true→AAE m t=true →
  AAK (YN m c t l).1=AAK (if (QM m (stO c t) l).1=0 then cvS (QM m (stO c t) l).2 else zV)∧(YN m c t l).2=(QM m (stO c t) l).1
 | [],c,t,_,_=>by
   refine ⟨?_,rfl⟩
   show AAK c=AAK (if (0:Int)=0 then cvS (stO c t) else zV)
   rw [if_pos rfl,ATY]
 | e :: r,c,t,hc,ht=>by
   have hF:=AAX hc ht
   have h0:=hF.me
   have hE:P9 m c t e=SI m (stO c t) e:=by unfold P9; rw [if_pos h0,if_pos (by rw [hc,ht]; rfl)]
   unfold YN QM
   rw [hE]
   rcases Classical.em (SI m (stO c t) e=0) with hz | hz
   ·have hnz : ¬ SI m (stO c t) e≠0:=fun q=>q hz
    simp only [if_pos hz,if_neg hnz]
    have hn:=hF.step hz
    have ih:=ALN m r (cvS (stp m (stO c t) e)) (tkS (stp m (stO c t) e)) hn.fits hn.trk
    rw [AVN] at ih
    unfold W9 ABG
    rw [hE,if_pos hz,if_pos hz]
    exact ih
   ·have hnz:SI m (stO c t) e≠0:=hz
    simp only [if_neg hz,if_pos hnz]
    exact ⟨trivial,trivial⟩
theorem AWJ {m:Mo} (h:FX m=0):AAE m (VF m)=true:=by
 unfold VF AAE
 rw [if_pos h]
 simp [h,zLs]
 intro _ _
 rfl
theorem ATU {m:Mo} (h:FX m=0):MV m (emV m)=true:=by
 unfold emV
 rw [if_pos h]
 exact ZY h
theorem AVM {m:Mo} (h:FX m=0):stO (emV m) (VF m)=zS m:=by
 unfold stO emV VF zS
 rw [if_pos h,if_pos h]
 congr 1
 ·simp [WE,zPs,zP,zIs]
 ·simp [WE,zCs,zC,zIs]
 ·show (zLs m).map Is.l=_
  unfold zLs
  rw [List.map_map]
  exact List.map_const' ..
theorem AVX (m:Mo) (l:List (List Sg)):AAK (rnR m l).1=AAK (YM m l)∧(rnR m l).2=AFB m l:=by
 unfold rnR YM AFB
 rcases Classical.em (FX m=0) with h | h
 ·rw [if_pos h,if_pos h]
  have:=ALN m l (emV m) (VF m) (ATU h) (AWJ h)
  rw [AVM h] at this
  refine ⟨?_,this.2⟩
  rw [this.1]
  rcases Classical.em ((QM m (zS m) l).1=0) with h2 | h2
  ·rw [if_pos h2,if_pos ⟨h,h2⟩]
  ·rw [if_neg h2,if_neg (fun q=>h2 q.2)]
 ·rw [if_neg h,if_neg h,if_neg (fun q=>h q.1)]
  exact ⟨rfl,rfl⟩
theorem AHG {m:Mo} : ∀ {l:List (List Sg)} {s:St},FitS m s→(QM m s l).1=0→FitS m (QM m s l).2
 | [],_,h,_=>h
 | e :: r,s,h,h0=>by
   unfold QM at h0 ⊢
   split
   ·rename_i hn
    rw [if_pos hn] at h0
    exact absurd h0 hn
   ·rename_i hn
    rw [if_neg hn] at h0
    exact AHG (h.step (Classical.byContradiction hn)) h0
theorem ASI (m:Mo) (l:List (List Sg)):CvOk (YM m l):=by
 unfold YM
 split
 ·rename_i h
  exact Y8 (AHG (AVD h.1) h.2).fits
 ·exact WQ
theorem ALM (m:Mo) : ∀ (l:List (List Sg)) (c:Cvr) (t:Tk),CvOk c→CvOk (YN m c t l).1
 | [],_,_,h=>h
 | e :: r,c,t,_=>by
   unfold YN
   split
   ·exact ALM m r _ _ (ALG _ _ _ _)
   ·exact WQ
theorem AVW (m:Mo) (l:List (List Sg)):CvOk (rnR m l).1:=by
 unfold rnR
 split
 ·exact ALM _ _ _ _ (AQK m)
 ·exact WQ
theorem ALF (h:Hp) (v:Cvr):FK Tryz.prog (h ++ [.live 4 [FW]]) 28 (.ptr h.length 0 0) (.agg (F7 v))=some (h ++ [.live 4 [F7 v]]):=by rw [stV (CY _ _) rfl,PQ]
section
variable (G:Nat→AV)
set_option maxHeartbeats 1000000 in
theorem AX7 (hG:GOk G) (hT:X9 G) (m:Mo) (hm:MoOk m) (l:List Ss) (s:SM) (h:Hp) (hl:l.length≤1048576) (he : ∀ x∈l,x.l.length≤1048576∧∀ s∈x.l,AAP s) :
  PCall (En G) 8 [.agg (EP m),.sl s 1 (l.map NT)] h (.bool true):=by
 refine ACalls.pure0 rfl ?_
 refine CB (H:=Hint.none) (enM G) Tryz.func8 rfl (by kernel_rfl) (by kernel_rfl) (nLb (by kernel_rfl)) ?_
 show awp _ _ _ _ _ (EG _ [.tmp 4] _)
 have gm:=CY h (ABlk.live 2 [EP m])
 have hx:ext h (h ++ [ABlk.live 2 [EP m]]):=(ext.rfl' h).app _
 simp -implicitDefEqProofs only [BC,BA,A8,AY,BB,AO,AQ,AL,BD,AX,AC,AA,A7,AU,BM,AZ,FY,BV,CE,BF,↓reduceIte,Nat.reduceEqDiff,oGs,bNf,enP,bxM]
 generalize h ++ [ABlk.live 2 [EP m]]=H at gm hx ⊢
 simp -implicitDefEqProofs only [AY,AO,AQ,AL,BD,AX,AC,AA,A7,BX,BZ,BU,AB,lMc,lMn,lAn,↓reduceIte,oGs,bNf,ldM gm]
 refine (Rk.small_some G m hm H).use ?_
 intro b
 cases b
 ·simp -implicitDefEqProofs only [BC,BA,BI,A8,C9,AY,BB,BJ,BQ,CO,FN,AO,AQ,AL,BD,AX,AC,AA,EQ,A7,AU,BX,BM,BG,CU,DT,H9,BZ,BU,AB,EZ,lMn,lAn,↓reduceIte,Nat.reduceEqDiff,oGs,bNf]
  refine (AGI G hG hT H).use ?_
  simp -implicitDefEqProofs only [BK,A8,CP,CJ,AY,BB,AO,AQ,AL,BD,AX,AC,AA,A7,AZ,↓reduceIte,oGs,bNf]
  exact ⟨by first | trivial | rfl,hx⟩
 simp -implicitDefEqProofs only [AY,BJ,BQ,CO,EK,AO,AQ,AL,BD,AX,AC,AA,A7,BX,BG,H9,BZ,BU,AB,EZ,BF,BN,lMc,lMn,lAn,↓reduceIte,Nat.reduceEqDiff,oGs,bNt,bNf]
 refine (AYE G l s hl H).use ?_
 intro b
 cases b
 ·simp -implicitDefEqProofs only [BC,BA,BI,A8,C9,AY,BB,BJ,BQ,CO,EK,AO,AQ,AL,BD,AX,AC,AA,A7,AU,BX,BM,CU,DL,H9,BZ,BU,AB,EZ,lMn,lAn,↓reduceIte,Nat.reduceEqDiff,oGs,bNf]
  refine (AGI G hG hT H).use ?_
  simp -implicitDefEqProofs only [BK,A8,CP,CJ,AY,BB,AO,AQ,AL,BD,AX,AC,AA,A7,AZ,↓reduceIte,oGs,bNf]
  exact ⟨by first | trivial | rfl,hx⟩
 simp -implicitDefEqProofs only [BC,BA,BO,BI,A8,DN,AY,BB,BJ,BQ,CO,EK,AO,AQ,AL,BD,AX,AC,AA,A7,AU,BX,BM,BG,CU,DL,BV,H9,BZ,BU,AB,EZ,BF,BN,lMc,lMn,lAn,↓reduceIte,Nat.reduceEqDiff,oGs,bNt,bNf,enP,ldM gm]
 refine (AI4 G hG hT m hm l s H hl (fun x hx=>(he x hx).1)).use ?_
 have gm1:=CW (x:=ABlk.live 4 [F7 (YM m (l.map Ss.l))]) gm
 have gc1:=CY H (ABlk.live 4 [F7 (YM m (l.map Ss.l))])
 have hx1:=hx.app [ABlk.live 4 [F7 (YM m (l.map Ss.l))]]
 have hlt:H.length < (H ++ [ABlk.live 4 [F7 (YM m (l.map Ss.l))]]).length:=by simp
 simp -implicitDefEqProofs only [List.getElem?_cons_zero,List.getElem?_cons_succ,BC,BA,A8,AY,BB,AO,AQ,AL,BD,AX,AC,EW,AA,A7,BG,AZ,F5,BV,EM,FQ,G9,CE,AB,DK,↓reduceIte,Nat.reduceEqDiff,oGs,bNf,enP,Option.getD_none,OE,ALF]
 generalize H ++ [ABlk.live 4 [F7 (YM m (l.map Ss.l))]]=H1 at gm1 gc1 hx1 hlt ⊢
 generalize H.length=cb at gc1 hlt ⊢
 simp -implicitDefEqProofs only [AY,AO,AQ,AL,BD,AX,AC,AA,A7,BX,BG,BZ,BU,AB,BF,BN,lMc,lMn,lAn,↓reduceIte,Nat.reduceEqDiff,oGs,bNf,ldM gm1]
 refine (AUI G m hm l s H1 hl he).use ?_
 obtain ⟨r1,r2⟩:=AVX m (l.map Ss.l)
 have gc2:=CW (x:=ABlk.live 4 [F7 (rnR m (l.map Ss.l)).1]) gc1
 have gd2:=CY H1 (ABlk.live 4 [F7 (rnR m (l.map Ss.l)).1])
 have hx2:=hx1.app [ABlk.live 4 [F7 (rnR m (l.map Ss.l)).1]]
 rw [r2]
 simp -implicitDefEqProofs only [List.getElem?_cons_zero,List.getElem?_cons_succ,BC,BA,A8,AY,BB,AO,AQ,AL,BD,AX,AC,EW,AA,A7,BX,BG,AZ,F5,BV,EM,FQ,G9,BZ,BU,CE,AB,DK,lMc,lMn,lAn,↓reduceIte,Nat.reduceEqDiff,oGs,bNf,enP,Option.getD_none,OE,ALF,ldV gc2,ldV gd2]
 refine (AVU G _ _ _ (ASI m _) (AVW m _)).use ?_
 rw [ATT.2 r1.symm]
 simp -implicitDefEqProofs only [AY,BJ,BQ,CO,GG,AO,AQ,AL,BD,AX,AC,AA,A7,AU,BX,BM,BG,CU,DT,BR,BZ,BU,AB,DY,lMn,lAn,↓reduceIte,Nat.reduceEqDiff,oGs,bNf,enP,beq_self_eq_true]
 refine (AGI G hG hT _).use ?_
 simp -implicitDefEqProofs only [BK,A8,CJ,AY,BB,AO,AQ,AL,BD,AX,AC,AA,A7,AU,BM,AZ,CU,DT,↓reduceIte,Nat.reduceEqDiff,oGs,bNf]
 exact ⟨by first | trivial | rfl,hx2⟩
end
end Go.Proofs.YtocilianjfhifaaGreatDoor.Xe
namespace Go.Proofs.YtocilianjfhifaaGreatDoor.Xe
open Sm Bins Cov Go.RowKit
theorem AYP:Tryz.prog.cellsOf 187=2:=by kernel_rfl
theorem A0H:Tryz.prog.cellsOf 58=1:=by kernel_rfl
def AXU (s:Sg) (_:Nat):Prop:=AAP s
theorem AZ8:Rd Tryz.prog 187 GN AXU:=by
 intro n
 match n with
 | 0=>exact RdAt.zero
 | 1=>exact AFC Tryz.underlying187
 | n+2 =>
   refine RdAt.map (fun x:ByteArray × Int × Unit=>((x.1,x.2.1):Sg)) (OM Tryz.underlying187 (I7 rfl cl9 (fun _=>rfl) (rdStr _) (I7 rfl cl3 (fun _=>rfl) (rdI _) SL))) (fun _=>rfl) ?_
   rintro ⟨a,b,_⟩ N ⟨_,_,_,_,_,_,_,_,_,h2,_⟩
   exact h2
def AV3 (x:Ss) (b:Nat):Prop:=okL AXU x.l b
theorem AZ7:Rd Tryz.prog 58 NT AV3:=by
 intro n
 cases n with
 | zero=>exact RdAt.zero
 | succ n=>exact RdAt.map (fun x:SM × List Sg=>(⟨x.1,x.2⟩:Ss)) (MZ Tryz.underlying58 AYP (by decide) AEK (AZ8 n)) (fun _=>rfl) (fun x b h=>SQ h)
theorem AR9 {x:Ss} {b:Nat} (h:AV3 x b) (hb:b≤1048576):x.l.length≤1048576∧∀ s∈x.l,AAP s:=by
 refine ⟨Nat.le_trans (okL.length h) hb,fun s hs => ?_⟩
 obtain ⟨_,_,h2⟩:=okL.each h s hs
 exact h2
structure Rn where
 m:SM
 l:List Ss
def AXV (x:Rn) (b:Nat):Prop:=okL AV3 x.l b
def AYG (z:Rn):List AV := [.sl z.m 1 (z.l.map NT)]
theorem A0Y:Rd Tryz.prog 64 AYG AXV:=by
 intro n
 cases n with
 | zero=>exact RdAt.zero
 | succ n=>exact RdAt.map (fun x:SM × List Ss=>(⟨x.1,x.2⟩:Rn)) (MZ Tryz.underlying64 A0H (by decide) (fun _=>rfl) (AZ7 n)) (fun _=>rfl) (fun x b h=>SQ h)
theorem AZW {x:Rn} {b:Nat} (h:AXV x b) (hb:b≤1048576):x.l.length≤1048576∧∀ y∈x.l,y.l.length≤1048576∧∀ s∈y.l,AAP s:=by
 refine ⟨Nat.le_trans (okL.length h) hb,fun y hy => ?_⟩
 obtain ⟨b1,h1,h2⟩:=okL.each h y hy
 exact AR9 h2 (by omega)
end Go.Proofs.YtocilianjfhifaaGreatDoor.Xe
namespace Go.Proofs.YtocilianjfhifaaGreatDoor.Xe
open Sm Bins Cov Wd Go.RowKit
def stK (m:Mo) (l:List (List Sg)) (k:Nat):St:=(l.take k).foldl (stp m) (zS m)
structure RunOk (m:Mo) (l:List (List Sg)):Prop where
 me:FX m=0
 eq:(QM m (zS m) l).2=stK m l l.length
 e0:(QM m (zS m) l).1=0
 er : ∀ (k:Nat) (hk:k < l.length),SI m (stK m l k) l[k]=0
section
variable {m:Mo} {l:List (List Sg)} (R:RunOk m l)
include R
end
end Go.Proofs.YtocilianjfhifaaGreatDoor.Xe
