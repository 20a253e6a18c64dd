/- Part 15 of the proof (X21, X22, Kz, X24, X27, X28, Ky); no condition. -/
import Derived.Test.YtocilianjfhifaaGreatDoorYA14
set_option linter.unusedVariables false
set_option linter.unusedSimpArgs false
set_option maxRecDepth 8000
namespace Go.Proofs.YtocilianjfhifaaGreatDoor.Xe
open Sm Bins Cov Wd Go.RowKit
theorem AVB:Frz J5:=fun _ _ _ _=>⟨rfl,rfl⟩
structure Sy (h H:Hp) (m:Mo) (c:Cvr) (t:Tk) (vb tb b8 b9:Nat):Prop where
 gm:H[h.length]? = some (.live 2 [EN m])
 gv:H[vb]? = some (.live 4 [FZ c])
 gt:H[tb]? = some (.live 1 [IM t])
 g8:H[b8]? = some (.live 4 [F5])
 g9:H[b9]? = some (.live 1 [F8])
 o1:h.length < vb
 o2:vb < tb
 o3:tb < b8
 o4:b8 < b9
 o5:b9 < H.length
 hx:ext h H
theorem Sy.mk' (h:Hp) (m:Mo) (c:Cvr) (t:Tk):Sy h (h ++ [ABlk.live 2 [EN m]] ++ [ABlk.live 4 [FZ c]] ++ [ABlk.live 1 [IM t]] ++ [ABlk.live 4 [F5]] ++ [ABlk.live 1 [F8]]) m c t (h ++ [ABlk.live 2 [EN m]]).length (h ++ [ABlk.live 2 [EN m]] ++ [ABlk.live 4 [FZ c]]).length
  (h ++ [ABlk.live 2 [EN m]] ++ [ABlk.live 4 [FZ c]] ++ [ABlk.live 1 [IM t]]).length (h ++ [ABlk.live 2 [EN m]] ++ [ABlk.live 4 [FZ c]] ++ [ABlk.live 1 [IM t]] ++ [ABlk.live 4 [F5]]).length :=
 ⟨CX (CX (CX (CX (CY _ _)))),CX (CX (CX (CY _ _))),CX (CX (CY _ _)),CX (CY _ _),CY _ _,by simp,by simp,by simp,by simp,by simp,((((ext.rfl' h).app _).app _).app _).app _ |>.app _⟩
theorem XL {m:Mo} {c:Cvr} {t:Tk} {env:List Sg} {e:Int} (h:OT m c t env=e) (hne:e≠0):AFI m c t env = .tup [.agg F5,.agg F8,.int .i64 e]:=by
 unfold AFI
 rw [h,if_neg hne]
theorem hbs {α β:Type} (f:α→β) (l:List α) (k:Nat) {h:k < l.length}:(l.take k).map f ++ [f l[k]]=(l.take (k+1)).map f:=by rw [List.take_succ_eq_append_getElem h,List.map_append]; rfl
set_option maxHeartbeats 8000000 in
theorem AK6 (G:Nat→AV) (m:Mo) (hm:MoOk m) (c:Cvr) (hcv:CvOk c) (t:Tk) (ht:TkOk t) (env:List Sg) (sm:SM) (h:Hp) (henv:env.length≤1099511627776) (hsg : ∀ s∈env,AD0 s) :
  PCall (En G) 73 [.agg (EN m),.agg (FZ c),.agg (IM t),.sl sm 2 (env.map GH)] h (.tup [.agg (FZ (AAR m c t env)),.agg (IM (AFJ m c t env)),.int .i64 (OT m c t env)]):=by
 refine PCall.res (r:=AFI m c t env) ?_ (ASJ _ _ _ _)
 refine ACalls.pure (R:=fun v H=>ext h H∧II h.length H 5 v=AFI m c t env) 5 ?_ (fun v H ⟨a,b⟩=>⟨a,b⟩)
 refine CB (H:=Hint.none) (enM G) Tryz.func73 rfl (by kernel_rfl) (by kernel_rfl) (nLb (by kernel_rfl)) ?_
 show awp _ _ _ _ _ (EE _ [.cell 8 28,.cell 9 47,.tmp 10] _)
 have Y:=Sy.mk' h m c t
 simp -implicitDefEqProofs only [BC,BA,A8,AY,BB,AO,AQ,AL,BD,AX,AC,AA,A7,AU,BH,AZ,GG,FV,BV,CE,BF,BN,↓reduceIte,Nat.reduceEqDiff,oGs,bNf,enP,bxM,bxV,bxT,SB,ADY]
 generalize h ++ [ABlk.live 2 [EN m]] ++ [ABlk.live 4 [FZ c]] ++ [ABlk.live 1 [IM t]] ++ [ABlk.live 4 [F5]] ++ [ABlk.live 1 [F8]]=H0 at Y ⊢
 generalize (h ++ [ABlk.live 2 [EN m]] ++ [ABlk.live 4 [FZ c]] ++ [ABlk.live 1 [IM t]] ++ [ABlk.live 4 [F5]]).length=b9 at Y ⊢
 generalize (h ++ [ABlk.live 2 [EN m]] ++ [ABlk.live 4 [FZ c]] ++ [ABlk.live 1 [IM t]]).length=b8 at Y ⊢
 generalize (h ++ [ABlk.live 2 [EN m]] ++ [ABlk.live 4 [FZ c]]).length=tb at Y ⊢
 generalize (h ++ [ABlk.live 2 [EN m]]).length=vb at Y ⊢
 have o1:=Y.o1; have o2:=Y.o2; have o3:=Y.o3; have o4:=Y.o4; have o5:=Y.o5
 have hend : ∀ (F:Fr) (e:Int),F 8 = .ptr b8 0 0→F 9 = .ptr b9 0 0→F 10 = .int .i64 e→AFI m c t env = .tup [.agg F5,.agg F8,.int .i64 e]→∀ H:Hp,H[b8]? = some (.live 4 [F5])→H[b9]? = some (.live 1 [F8])→ext h H →
   EE Tryz.prog [.cell 8 28,.cell 9 47,.tmp 10] (fun v H=>ext h H∧II h.length H 5 v=AFI m c t env) .ret F H:=fun F e f8 f9 f10 hw H g8 g9 hx=>by
  rw [VI (ba:=b8) (bb:=b9) f8 f9 (KN g8 rfl) (OB g9 rfl),f10,hw]
  exact ⟨hx,rfl⟩
 simp -implicitDefEqProofs only [AY,AO,AQ,AL,BD,AX,AC,AA,A7,BX,BZ,BU,AB,lMc,lMn,lAn,↓reduceIte,oGs,bNf,ldM Y.gm]
 refine (Y8 G m hm H0).use ?_
 cases hb:(GN m == 0)
 ·have hne:GN m≠0:=by simpa using hb
  simp -implicitDefEqProofs only [FT,BC,BA,BL,BI,A8,CP,C9,AY,BB,AO,AQ,AL,BD,AX,AC,E8,AA,A7,AU,BH,BG,AZ,JE,EP,BR,AB,DW,EJ,↓reduceIte,Nat.reduceEqDiff,oGs,bNf,enP,Option.getD_none,bne,hb,TM,V7,stZ Y.g8 rfl,VS (CV Y.g9 (show b9≠b8 by omega)) rfl]
  exact hend _ (GN m) (by simp -implicitDefEqProofs only [AA,↓reduceIte,Nat.reduceEqDiff]) (by simp -implicitDefEqProofs only [AA,↓reduceIte,Nat.reduceEqDiff]) (by simp -implicitDefEqProofs only [AA,↓reduceIte]) (XL (by unfold OT; rw [if_neg hne]) hne) _ (CV (EI Y.g8) (show b8≠b9 by omega)) (EI (CV Y.g9 (show b9≠b8 by omega))) ((Y.hx.set (by omega) _).set (by omega) _)
 have h0:GN m=0:=by simpa using hb
 simp -implicitDefEqProofs only [BC,BA,BO,BI,A8,DU,AY,BB,AO,AQ,AL,BD,AX,AC,AA,A7,AU,BX,BH,BG,AZ,BV,BR,BZ,BU,AB,EJ,lMc,lMn,lAn,↓reduceIte,Nat.reduceEqDiff,oGs,bNt,bNf,enP,bne,hb,ldM Y.gm,ldV Y.gv]
 refine (AQF G m c hm hcv H0).use ?_
 cases hf:KY m c
 ·simp -implicitDefEqProofs only [FT,BC,BA,BL,BI,A8,CP,C9,AY,BB,BJ,BP,CO,FK,AO,AQ,AL,BD,AX,AC,E8,AA,EQ,A7,AU,BH,BM,BG,AZ,CQ,DN,JE,EP,G6,AB,DW,EX,↓reduceIte,Nat.reduceEqDiff,oGs,bNf,enP,Option.getD_none,TM,V7,stZ Y.g8 rfl,VS (CV Y.g9 (show b9≠b8 by omega)) rfl]
  exact hend _ 1 (by simp -implicitDefEqProofs only [AA,↓reduceIte,Nat.reduceEqDiff]) (by simp -implicitDefEqProofs only [AA,↓reduceIte,Nat.reduceEqDiff]) (by simp -implicitDefEqProofs only [AA,↓reduceIte]) (XL (by unfold OT; rw [if_pos h0,if_neg (by rw [hf]; simp)]) (by decide)) _ (CV (EI Y.g8) (show b8≠b9 by omega)) (EI (CV Y.g9 (show b9≠b8 by omega))) ((Y.hx.set (by omega) _).set (by omega) _)
 simp -implicitDefEqProofs only [AY,BJ,BP,CO,EK,AO,AQ,AL,BD,AX,AC,AA,A7,BX,BG,BV,G6,BZ,BU,AB,EX,lMc,lMn,lAn,↓reduceIte,Nat.reduceEqDiff,oGs,bNt,bNf,enP,ldM Y.gm,ldT Y.gt]
 refine (AK4 G m hm t ht H0).use ?_
 cases htr:ADK m t
 ·simp -implicitDefEqProofs only [FT,BC,BA,BL,BI,A8,CP,C9,AY,BB,BJ,BP,CO,EK,AO,AQ,AL,BD,AX,AC,E8,AA,A7,AU,BH,BM,AZ,CQ,DK,JE,EP,G6,AB,DW,EX,↓reduceIte,Nat.reduceEqDiff,oGs,bNf,enP,Option.getD_none,TM,V7,stZ Y.g8 rfl,VS (CV Y.g9 (show b9≠b8 by omega)) rfl]
  exact hend _ 1 (by simp -implicitDefEqProofs only [AA,↓reduceIte,Nat.reduceEqDiff]) (by simp -implicitDefEqProofs only [AA,↓reduceIte,Nat.reduceEqDiff]) (by simp -implicitDefEqProofs only [AA,↓reduceIte]) (XL (by unfold OT; rw [if_pos h0,if_neg (by rw [htr]; simp)]) (by decide)) _ (CV (EI Y.g8) (show b8≠b9 by omega)) (EI (CV Y.g9 (show b9≠b8 by omega))) ((Y.hx.set (by omega) _).set (by omega) _)
 have hF:=X6 hf htr
 have hok:=hF.ok
 have hg:=PZ h0
 have hE:OT m c t env=VO m (stO c t) env:=by unfold OT; rw [if_pos h0,if_pos (by rw [hf,htr]; rfl)]
 have hnum:=hg.num
 have hnp:m.pts.length≤16:=by omega
 have hnc:m.crs.length≤16:=by omega
 have hsh:=hok.sh
 have hll:=hok.ll
 have hPl:=hsh.pl; have hCl:=hsh.cl
 have hcp:(stO c t).P.length=c.pts.length:=by simp [stO]
 have hcc:(stO c t).C.length=c.crs.length:=by simp [stO]
 have hct:(stO c t).ls.length=t.last.length:=by simp [stO]
 have hrl:=RP m (stO c t).ls env hll
 have hrg:=XR m (stO c t).ls env
 obtain ⟨rs,hrs⟩ : ∃ z,z=NG m (stO c t).ls env:=⟨_,rfl⟩
 rw [← hrs] at hrl
 have hsl:=RH rs (stO c t).P (by omega)
 have hscl:=UA m (rs.map PtR.hit) (stO c t).C hCl
 have hzl:=YS m
 have hzc:=YT m
 simp -implicitDefEqProofs only [BC,BA,BO,BI,A8,DU,AY,BB,BJ,BP,CO,EK,AO,AQ,AL,BD,AX,AC,AA,A7,AU,BX,BM,CQ,DK,BV,G6,BZ,BU,AB,EX,lMc,lMn,lAn,↓reduceIte,Nat.reduceEqDiff,oGs,bNt,bNf,enP,ldM Y.gm]
 refine (AKH G m hm hg H0).mono ?_
 rintro _ H1 ⟨hx1,po,pb,co,cbs,rfl,N⟩
 have hle1:=hx1.le
 have s1:FM Tryz.prog (H1 ++ [ABlk.live 4 [F5]]) 28 (.ptr H1.length 0 0) (.agg (IQ (nlV po (zP m)) (nlV co (zC m))))=some (H1 ++ [ABlk.live 4 [IQ (nlV po (zP m)) (nlV co (zC m))]]):=by
  rw [AHB (CY _ _) rfl (KX _ _) (KX _ _),SS]
 simp -implicitDefEqProofs only [FT,BC,BQ,BA,A8,AY,BB,AO,AQ,AL,BD,AX,AC,E8,AA,A7,AU,BH,BM,JD,AZ,GG,JE,EP,CE,AB,DW,↓reduceIte,Nat.reduceEqDiff,oGs,bNf,enP,Option.getD_none,SB,s1,V7,ADY,AVX]
 have hl3:(H1 ++ [ABlk.live 4 [IQ (nlV po (zP m)) (nlV co (zC m))]]).length=H1.length+1:=by simp
 have hk3:(H1 ++ [ABlk.live 4 [IQ (nlV po (zP m)) (nlV co (zC m))]] ++ [ABlk.live 1 [F8]]).length=H1.length+2:=by simp
 have hx3:ext H1 (H1 ++ [ABlk.live 4 [IQ (nlV po (zP m)) (nlV co (zC m))]] ++ [ABlk.live 1 [F8]]):=((ext.rfl' H1).app _).app _
 have gc3:(H1 ++ [ABlk.live 4 [IQ (nlV po (zP m)) (nlV co (zC m))]] ++ [ABlk.live 1 [F8]])[H1.length]? = some (.live 4 [cvR po (zP m) co (zC m) 0 0]):=CX (CY _ _)
 have gt3:(H1 ++ [ABlk.live 4 [IQ (nlV po (zP m)) (nlV co (zC m))]] ++ [ABlk.live 1 [F8]])[(H1 ++ [ABlk.live 4 [IQ (nlV po (zP m)) (nlV co (zC m))]]).length]? = some (.live 1 [[.sl .nil 0 []]]):=CY _ _
 generalize H1 ++ [ABlk.live 4 [IQ (nlV po (zP m)) (nlV co (zC m))]] ++ [ABlk.live 1 [F8]]=H3 at hk3 hx3 gc3 gt3 ⊢
 generalize (H1 ++ [ABlk.live 4 [IQ (nlV po (zP m)) (nlV co (zC m))]]).length=nb at hl3 gt3 ⊢
 have hlt : ∀ b,NLB po pb (zP m) b∨NLB co cbs (zC m) b→b < H1.length:=fun b hb=>by
  rcases hb with hb | hb
  ·exact (N.np.lt hb).2
  ·exact (N.nc.lt hb).2
 have X3:Sx h H3 m c t vb tb b8 b9 H0.length H3.length H1.length nb po co pb cbs (zP m) (zC m) 0 0 (.sl .nil 0 []) :=
  ⟨EU hx3 (EU hx1 Y.gm),EU hx3 (EU hx1 Y.gv),EU hx3 (EU hx1 Y.gt),EU hx3 (EU hx1 Y.g8),EU hx3 (EU hx1 Y.g9),o1,o2,o3,o4,o5,
   (N.ext hx3).cs gc3 gt3 (by omega) (fun b hb=>by have:=hlt b hb; omega),hle1,by omega,by omega,by omega,fun b hb=>by have:=hlt b (.inl (.inr hb)); omega,fun b hb=>by have:=hlt b (.inr (.inr hb)); omega,
   fun q=>by have:=hlt po (.inl (.inl ⟨q,rfl⟩)); omega,fun q=>by have:=hlt co (.inr (.inl ⟨q,rfl⟩)); omega,Nat.le_refl _,(Y.hx.trans hx1).trans hx3⟩
 generalize H1.length=ob at X3 hl3 hk3 hle1 hlt gc3
 have hob:ob < H3.length:=by omega
 have hnb:nb < H3.length:=by omega
 have h3l:=X3.hx.le
 clear gc3 gt3 hx3 hlt s1 hle1 hl3 hk3
 have hlp:=N.np.len
 have hlc:=N.nc.len
 rw [hzl] at hlp
 rw [hzc] at hlc
 clear N hx1
 refine G9 0 (fun F H => ∃ u w,F 4 = .ptr h.length 0 0∧F 5 = .ptr vb 0 0∧F 8 = .ptr b8 0 0∧F 9 = .ptr b9 0 0∧F 12 = .ptr ob 0 0∧F 13 = .ptr nb 0 0∧F 14=u∧F 15 = .bool (rs.any PtR.bad)∧Sx h H m c t vb tb b8 b9 H0.length H3.length ob nb po co pb cbs (KP rs (stO c t).P) (zC m) 0 0 w∧outG 1 LG H3 (rs.map PtR.hit) u H∧outG 1 J5 H3 (rs.map PtR.next) w H∧JG PtR.err rs=0)
  (fun F H => ∃ e,F 8 = .ptr b8 0 0∧F 9 = .ptr b9 0 0∧F 10 = .int .i64 e∧e≠0∧JG PtR.err rs=e∧H[b8]? = some (.live 4 [F5])∧H[b9]? = some (.live 1 [F8])∧ext h H) ?_ ?_ ?_
 ·refine DR (fun n F H => ∃ i u w,n+i=m.pts.length∧F 3 = .sl sm 2 (env.map GH)∧F 4 = .ptr h.length 0 0∧F 5 = .ptr vb 0 0∧F 6 = .ptr tb 0 0∧F 8 = .ptr b8 0 0∧F 9 = .ptr b9 0 0∧F 12 = .ptr ob 0 0∧F 13 = .ptr nb 0 0∧F 14=u∧F 15 = .bool ((rs.take i).any PtR.bad)∧F 16 = .int .i64 (i:Nat) ∧
    Sx h H m c t vb tb b8 b9 H0.length H3.length ob nb po co pb cbs (mix (KP rs (stO c t).P) (zP m) i) (zC m) 0 0 w∧outG 1 LG H3 ((rs.take i).map PtR.hit) u H∧outG 1 J5 H3 ((rs.take i).map PtR.next) w H∧(∀ b,isB u b→¬ isB w b)∧JG PtR.err rs=JG PtR.err (rs.drop i)) m.pts.length
   ⟨0,.sl .nil 0 [],.sl .nil 0 [],by simp,by simp -implicitDefEqProofs only [AA,BF,BN,↓reduceIte,Nat.reduceEqDiff],by simp -implicitDefEqProofs only [AA,↓reduceIte,Nat.reduceEqDiff],by simp -implicitDefEqProofs only [AA,↓reduceIte,Nat.reduceEqDiff],by simp -implicitDefEqProofs only [AA,↓reduceIte,Nat.reduceEqDiff],by simp -implicitDefEqProofs only [AA,↓reduceIte,Nat.reduceEqDiff],by simp -implicitDefEqProofs only [AA,↓reduceIte,Nat.reduceEqDiff],by simp -implicitDefEqProofs only [AA,↓reduceIte,Nat.reduceEqDiff],by simp -implicitDefEqProofs only [AA,↓reduceIte,Nat.reduceEqDiff],by simp -implicitDefEqProofs only [AA,↓reduceIte,Nat.reduceEqDiff],by simp -implicitDefEqProofs only [AA,↓reduceIte,Nat.reduceEqDiff] <;> rfl,by simp -implicitDefEqProofs only [AA,↓reduceIte] <;> rfl,X3,outG.nil _ _ _ _,outG.nil _ _ _ _,fun b hb=>hb.elim,rfl⟩ ?_
  clear X3
  rintro n F H ⟨i,u,w,hi,f3,f4,f5,f6,f8,f9,f12,f13,f14,f15,f16,S,hu,hw,hdis,hfst⟩
  simp -implicitDefEqProofs only [BC,BA,BI,A8,AY,BB,AO,AQ,AL,BD,AX,AC,AA,A7,BG,BV,BR,BK,D6,AB,DF,↓reduceIte,Nat.reduceEqDiff,Nat.add_zero,oGs,bNf,enP,QI,IX,f4,f16,S.m0,lLm]
  refine CW (fun hc => ?_) (fun hc => ?_)
  ·have hi':i < m.pts.length:=by simpa using hc
   have hir:i < rs.length:=by omega
   have hiP:i < (stO c t).P.length:=by omega
   have hic:i < c.pts.length:=by omega
   have hit:i < t.last.length:=by omega
   have hip:i < pb.length:=by omega
   have hiz:i < (zP m).length:=by omega
   have hp:=hm.pts _ (List.getElem_mem hi')
   have hls:(stO c t).ls[i]'(by omega)=t.last[i].l:=by simp [stO]
   have hPi:(stO c t).P[i]=c.pts[i].l:=by simp [stO]
   have hri:rs[i]=ptE m.pts[i] t.last[i].l env:=by
    have:=hrg i hi' (by omega) (by rw [← hrs]; omega)
    rw [hls] at this
    rw [← this]
    congr 1
   have hcall:=AOK G m.pts[i] hp t.last[i].l t.last[i].m env sm H (ht.len _ (List.getElem_mem hit)) henv hsg
   rw [← hri] at hcall
   unfold ptV at hcall
   rw [NU _ _ _ hir] at hfst
   have hbad:(rs.take (i+1)).any PtR.bad=((rs.take i).any PtR.bad || rs[i].bad):=by rw [List.take_succ_eq_append_getElem hir,List.any_append]; simp
   simp -implicitDefEqProofs only [BC,BQ,BO,A8]
   refine FD (by kernel_rfl) ?_
   simp -implicitDefEqProofs only [F9,EH,DX,EM,FP,FQ,EG,ED,NM,GV,GI,AO,AA,A7,BX,BV,BK,CG,FW,AB,lMc,lMn,lAn,↓reduceIte,Nat.reduceEqDiff,Nat.reduceAdd,Nat.add_zero,oGs,enP,PY,IX,NH,OZ,f3,f4,f6,f16,S.m0,D5 hi',FO AC8 YX JC hi',S.t0,D5 hit,DT LD hit,NV]
   refine ⟨_,hcall,?_⟩
   simp -implicitDefEqProofs only [F9,List.getElem?_cons_zero,List.getElem?_cons_succ,EH,DX,FC,EM,J8,NM,BC,BA,BI,A8,AY,BB,AO,AQ,AL,BD,AX,AC,AA,A7,AU,BH,BG,BR,FW,IB,AB,EJ,↓reduceIte,Nat.reduceEqDiff,Nat.reduceAdd,oGs,bNf,enP]
   cases he:(rs[i].err == 0)
   ·have hne:rs[i].err≠0:=by simpa using he
    rw [if_neg hne] at hfst
    simp -implicitDefEqProofs only [FT,BC,BA,BL,A8,CP,D8,MR,FB,C9,AY,BB,AO,AQ,AL,BD,AX,AC,E8,AA,A7,BG,AZ,JE,EP,AB,DW,↓reduceIte,Nat.reduceEqDiff,oGs,bNf,enP,Option.getD_none,bne,he,TM,V7,f8,f9,stZ S.g8 rfl,VS (CV S.g9 (show b9≠b8 by omega)) rfl]
    exact ⟨rs[i].err,by first | trivial | exact f8,by first | trivial | exact f9,by first | trivial | rfl,hne,hfst,CV (EI S.g8) (show b8≠b9 by omega),EI (CV S.g9 (show b9≠b8 by omega)),(S.hx.set (by omega) _).set (by omega) _⟩
   have hz:rs[i].err=0:=by simpa using he
   rw [if_pos hz] at hfst
   have kh:=S.kh
   obtain ⟨u2,Ha,hap,hu2,hk,hla,hna,⟨ou,lu,rfl⟩,hxa⟩:=hu.app2 AM0 ADL AOP AOA (by omega) (by rw [lLm,List.length_take]; omega) kh rs[i].hit
   rw [hbs] at hu2
   have hap':GU Tryz.prog true H 26 26 u (.sl .full 1 [[.sl (nm rs[i].hit) 1 (rs[i].hit.map IV)]])=some (.own ou 0 lu,Ha):=hap
   have Sa:=S.keep (H':=Ha) (fun b x hb hg=>hk b x hg (fun q=>by have:=hu.lt q; omega)) (by omega) (hxa h (by omega) S.hx)
   have hwa:=hw.keepA hk (fun b h1 h2=>hdis b h2 h1)
   obtain ⟨w2,Hb,hapb,hw2,hkb,hlb,hnb2,⟨ow,lw,rfl⟩,hxb⟩:=hwa.app2 AM0 ADL AOP AOA (by omega) (by rw [lLm,List.length_take]; omega) (by omega) rs[i].next
   rw [hbs] at hw2
   have hapb':GU Tryz.prog true Ha 26 26 w (.sl .full 1 [[.sl (nm rs[i].next) 1 (rs[i].next.map encI)]])=some (.own ow 0 lw,Hb):=hapb
   have Sb:=Sa.keep (H':=Hb) (fun b x hb hg=>hkb b x hg (fun q=>by have:=hwa.lt q; omega)) (by omega) (hxb h (by omega) Sa.hx)
   have hub:=hu2.keepA hkb (fun b h1 h2=>by
    have e1:=hna b h1
    have e2:=hw.lt h2
    omega)
   have Sc:=Sb.setT (.own ow 0 lw)
   have huc:=hub.setB (b:=nb) hnb (.live 1 [[.own ow 0 lw]])
   have hwc:=hw2.setB (b:=nb) hnb (.live 1 [[.own ow 0 lw]])
   have hst:FM Tryz.prog Hb 26 (.ptr nb 0 0) (.own ow 0 lw)=some (Hb.set nb (.live 1 [[.own ow 0 lw]])):=MX (row := [w]) (XA _ _ _) AFH Sb.cs.gt (by simp)
   have hdis2 : ∀ b,isB (.own ou 0 lu) b→¬ isB (.own ow 0 lw) b:=fun b h1 h2=>by
    have e1:=hna b h1
    have e2:=hnb2 b h2
    omega
   simp -implicitDefEqProofs only [FT,F6,BC,BA,BO,A8,DU,AY,BB,BJ,BP,CO,AO,AQ,AL,BD,AX,AC,E8,AA,A7,BG,AZ,ES,BV,EP,BK,IJ,CE,AB,DW,↓reduceIte,Nat.reduceEqDiff,Nat.add_zero,oGs,bNt,bNf,enP,OZ,Option.getD_none,bne,he,f14,AY1,hap',f13,Sa.cs.lt0,hapb',hst,f15]
   generalize Hb.set nb (.live 1 [[.own ow 0 lw]])=Hc at Sc huc hwc ⊢
   clear Sa Sb hwa hub hst hap hap' hapb hapb' hu hw hdis hu2 hw2 hk hkb S
   refine QO (fun F H=>H=Hc∧F 3 = .sl sm 2 (env.map GH)∧F 4 = .ptr h.length 0 0∧F 5 = .ptr vb 0 0∧F 6 = .ptr tb 0 0∧F 8 = .ptr b8 0 0∧F 9 = .ptr b9 0 0∧F 12 = .ptr ob 0 0∧F 13 = .ptr nb 0 0∧F 14 = .own ou 0 lu∧F 15 = .bool ((rs.take (i+1)).any PtR.bad)∧F 16 = .int .i64 (i:Nat)∧F 17 = .sl (nm rs[i].hit) 1 (rs[i].hit.map IV)) ?_ ?_
   ·cases hq:(rs.take i).any PtR.bad
    ·rw [hq,Bool.false_or] at hbad
     simp -implicitDefEqProofs only [AY,BB,EK,AO,AQ,AL,BD,AX,AC,AA,A7,AU,BM,BG,AZ,CQ,DK,↓reduceIte,Nat.reduceEqDiff,oGs,bNf]
     exact ⟨trivial,by first | trivial | exact f3,by first | trivial | exact f4,by first | trivial | exact f5,by first | trivial | exact f6,by first | trivial | exact f8,by first | trivial | exact f9,by first | trivial | exact f12,by first | trivial | exact f13,by first | trivial | rfl,by rw [hbad],by first | trivial | exact f16,by first | trivial | rfl⟩
    ·rw [hq,Bool.true_or] at hbad
     simp -implicitDefEqProofs only [AY,BB,FK,AO,AQ,AL,BD,AX,AC,AA,EQ,A7,AU,BM,AZ,CQ,DN,↓reduceIte,Nat.reduceEqDiff,oGs,bNf]
     exact ⟨trivial,by first | trivial | exact f3,by first | trivial | exact f4,by first | trivial | exact f5,by first | trivial | exact f6,by first | trivial | exact f8,by first | trivial | exact f9,by first | trivial | exact f12,by first | trivial | exact f13,by first | trivial | rfl,by rw [hbad],by first | trivial | exact f16,by first | trivial | rfl⟩
   clear f3 f4 f5 f6 f8 f9 f12 f13 f14 f15 f16
   rintro F H ⟨rfl,f3,f4,f5,f6,f8,f9,f12,f13,f14,f15,f16,f17⟩
   have hmx:=mix_len (ys:=KP rs (stO c t).P) (xs:=zP m) (i:=i) (by omega) (by omega)
   have hmi:=UJ (ys:=KP rs (stO c t).P) (xs:=zP m) (i:=i) (j:=i) (by omega) (Nat.le_refl _) hiz (by omega)
   have hms:=mix_set (ys:=KP rs (stO c t).P) (xs:=zP m) (i:=i) (by omega) hiz (by omega)
   have hsg2:=RI rs (stO c t).P i hir hiP (by omega)
   have hz2:(zP m)[i]=zeros m.pts[i].bins.length:=by simp [zP]
   have hpe:=hsh.pe i hiP hi'
   obtain ⟨M,hmm,hmx,hmi,hms⟩ : ∃ M,mix (KP rs (stO c t).P) (zP m) i=M∧M.length=(zP m).length∧(∀ h:i < M.length,M[i]=(zP m)[i])∧M.set i (KP rs (stO c t).P)[i]=mix (KP rs (stO c t).P) (zP m) (i+1):=⟨_,rfl,hmx,fun _=>hmi,hms⟩
   rw [hmm] at Sc
   rw [hsg2] at hms
   have hhit:rs[i].hit.length≤1048576:=by rw [hri]; have:=AFN m.pts[i] t.last[i].l env; have:=hp.num; omega
   have hnd:rs[i].hit.Nodup:=by rw [hri]; exact Y5 _ _ _
   have hhl : ∀ x∈rs[i].hit,x < (stO c t).P[i].length:=fun x hx=>by rw [hri] at hx; rw [hpe]; exact AFM _ _ _ x hx
   have hwn:Wn (stO c t).P[i]:=hsh.wp _ (List.getElem_mem hiP)
   have hrwl:=PE rs[i].hit (stO c t).P[i]
   have hrow:=fun k=>U7 k rs[i].hit (stO c t).P[i] hnd hhl
   have hzn:=P7 m.pts[i].bins.length
   have hbn:=hp.num
   obtain ⟨R,hR⟩ : ∃ R,R=rowP rs[i].hit (stO c t).P[i]:=⟨_,rfl⟩
   rw [← hR] at hms hrwl
   have hrz:R.length=(zeros m.pts[i].bins.length).length:=by omega
   simp -implicitDefEqProofs only [BC,BQ,BA,A8,AY,BB,AO,AQ,AL,BD,AX,AC,AU,BH,AZ,oGs,bNf]
   refine G9 2 (fun F H=>F 3 = .sl sm 2 (env.map GH)∧F 4 = .ptr h.length 0 0∧F 5 = .ptr vb 0 0∧F 6 = .ptr tb 0 0∧F 8 = .ptr b8 0 0∧F 9 = .ptr b9 0 0∧F 12 = .ptr ob 0 0∧F 13 = .ptr nb 0 0∧F 14 = .own ou 0 lu∧F 15 = .bool ((rs.take (i+1)).any PtR.bad)∧F 16 = .int .i64 (i:Nat) ∧
    Sx h H m c t vb tb b8 b9 H0.length H3.length ob nb po co pb cbs (M.set i R) (zC m) 0 0 (.own ow 0 lw)∧outG 1 LG H3 ((rs.take (i+1)).map PtR.hit) (.own ou 0 lu) H∧outG 1 J5 H3 ((rs.take (i+1)).map PtR.next) (.own ow 0 lw) H) (fun _ _=>False) ?_ ?_ (fun _ _ hh=>hh.elim)
   ·have e0:M.set i (mix R (zeros m.pts[i].bins.length) 0)=M:=by
     show M.set i (zeros m.pts[i].bins.length)=M
     rw [← hz2,← hmi (by omega),List.set_getElem_self]
    refine DR (fun n F H => ∃ k,n+k=m.pts[i].bins.length∧F 3 = .sl sm 2 (env.map GH)∧F 4 = .ptr h.length 0 0∧F 5 = .ptr vb 0 0∧F 6 = .ptr tb 0 0∧F 8 = .ptr b8 0 0∧F 9 = .ptr b9 0 0∧F 12 = .ptr ob 0 0∧F 13 = .ptr nb 0 0∧F 14 = .own ou 0 lu∧F 15 = .bool ((rs.take (i+1)).any PtR.bad)∧F 16 = .int .i64 (i:Nat)∧F 17 = .sl (nm rs[i].hit) 1 (rs[i].hit.map IV)∧F 21 = .int .i64 (k:Nat) ∧
      Sx h H m c t vb tb b8 b9 H0.length H3.length ob nb po co pb cbs (M.set i (mix R (zeros m.pts[i].bins.length) k)) (zC m) 0 0 (.own ow 0 lw)∧outG 1 LG H3 ((rs.take (i+1)).map PtR.hit) (.own ou 0 lu) H∧outG 1 J5 H3 ((rs.take (i+1)).map PtR.next) (.own ow 0 lw) H) m.pts[i].bins.length
     ⟨0,by simp,by simp -implicitDefEqProofs only [AA,↓reduceIte,Nat.reduceEqDiff,f3],by simp -implicitDefEqProofs only [AA,↓reduceIte,Nat.reduceEqDiff,f4],by simp -implicitDefEqProofs only [AA,↓reduceIte,Nat.reduceEqDiff,f5],by simp -implicitDefEqProofs only [AA,↓reduceIte,Nat.reduceEqDiff,f6],by simp -implicitDefEqProofs only [AA,↓reduceIte,Nat.reduceEqDiff,f8],by simp -implicitDefEqProofs only [AA,↓reduceIte,Nat.reduceEqDiff,f9],by simp -implicitDefEqProofs only [AA,↓reduceIte,Nat.reduceEqDiff,f12],by simp -implicitDefEqProofs only [AA,↓reduceIte,Nat.reduceEqDiff,f13],by simp -implicitDefEqProofs only [AA,↓reduceIte,Nat.reduceEqDiff,f14],by simp -implicitDefEqProofs only [AA,↓reduceIte,Nat.reduceEqDiff,f15],by simp -implicitDefEqProofs only [AA,↓reduceIte,Nat.reduceEqDiff,f16],by simp -implicitDefEqProofs only [AA,↓reduceIte,Nat.reduceEqDiff,f17],by simp -implicitDefEqProofs only [AA,↓reduceIte] <;> rfl,by rw [e0]; exact Sc,huc,hwc⟩ ?_
    clear Sc huc hwc f3 f4 f5 f6 f8 f9 f12 f13 f14 f15 f16 f17
    rintro n' F H ⟨k,hk,f3,f4,f5,f6,f8,f9,f12,f13,f14,f15,f16,f17,f21,S,hu,hw⟩
    have hkl:=mix_len (ys:=R) (xs:=zeros m.pts[i].bins.length) (i:=k) hrz (by omega)
    have hiM:i < (M.set i (mix R (zeros m.pts[i].bins.length) k)).length:=by rw [List.length_set]; omega
    have hcur:(M.set i (mix R (zeros m.pts[i].bins.length) k))[i]=mix R (zeros m.pts[i].bins.length) k:=List.getElem_set_self _
    obtain ⟨q1,q2,q3,q4⟩:=S.rowP hiM hip
    rw [hcur] at q3 q4
    have hll2:(mix R (zeros m.pts[i].bins.length) k).length=m.pts[i].bins.length:=by omega
    simp -implicitDefEqProofs only [BC,BA,BI,A8,AY,BB,AO,AQ,AL,BD,AX,AC,AA,A7,BG,BV,BR,BK,CG,D6,AB,DF,↓reduceIte,Nat.reduceEqDiff,Nat.add_zero,oGs,bNf,enP,NH,L9,f12,f16,f21,q1,q2,q3,JB.2,hll2]
    refine CW (fun hc => ?_) (fun hc => ?_)
    ·have hk':k < m.pts[i].bins.length:=by simpa using hc
     have hkP:k < c.pts[i].l.length:=by rw [← hPi]; omega
     have hin:0≤c.pts[i].l[k]∧c.pts[i].l[k]≤1099511627776:=by
      rw [hPi] at hwn
      exact hwn _ (List.getElem_mem hkP)
     have hRk:R[k]'(by omega)=if decide (k∈rs[i].hit)=true then rz c.pts[i].l[k] else c.pts[i].l[k]:=by
      rw [← getD_at R k (by omega),hR,hrow k,hPi,getD_at _ _ hkP]
      simp only [decide_eq_true_eq]
     have hset:=mix_set (ys:=R) (xs:=zeros m.pts[i].bins.length) (i:=k) hrz (by omega) (by omega)
     have hix:=AP6 q4 (k:=k) (by omega)
     rw [hll2] at hix
     have hst:=AO7 q4 (k:=k) (by omega) (R[k]'(by omega))
     rw [hset] at hst
     have S2:=S.setP hip (mix R (zeros m.pts[i].bins.length) (k+1)) (fun _=>by rw [hcur,mix_len hrz (by omega),hkl])
     rw [List.set_set] at S2
     have hu2:=hu.setB (b:=pb[i]) (S.hp _ (List.getElem_mem hip)) (.live 1 ((mix R (zeros m.pts[i].bins.length) (k+1)).map encI))
     have hw2:=hw.setB (b:=pb[i]) (S.hp _ (List.getElem_mem hip)) (.live 1 ((mix R (zeros m.pts[i].bins.length) (k+1)).map encI))
     simp -implicitDefEqProofs only [BC,BQ,BO,A8]
     refine FD (by kernel_rfl) ?_
     simp -implicitDefEqProofs only [F9,EH,DX,EM,FP,FQ,EG,ED,GV,GI,AO,AA,A7,BX,BV,BK,CG,AB,lMc,lMn,lAn,↓reduceIte,Nat.reduceEqDiff,Nat.reduceAdd,Nat.add_zero,oGs,enP,NH,L9,JH,f5,f12,f16,f17,f21,q1,q2,q3,hll2,S.v0,D5 hic,DT LD hic,NV,D5 hkP,DT ag3 hkP,TD,AL8]
     refine ⟨_,has_ref G (rs[i].hit.map fun n:Nat=>(n:Int)) _ (k:Nat) H (by rw [lLm]; exact hhit),?_⟩
     rw [AQD]
     try simp -implicitDefEqProofs only []
     refine ⟨_,UI G c.pts[i].l[k] (decide (k∈rs[i].hit)) H hin.1 hin.2,?_⟩
     rw [← hRk]
     try simp -implicitDefEqProofs only [F9,EH,DX,LP,FC,EM,KL,BA,A8,EF,ER,AY,BB,AO,AQ,AL,BD,AX,AC,AA,A7,AU,BH,BG,AZ,EP,BR,AB,DW,DI,↓reduceIte,Nat.reduceEqDiff,Nat.zero_add,oGs,bNf,enP,Option.getD_none,hix,hst,f21,wrap_succ (show k < 9223372036854775807 by omega)]
     exact ⟨n' - 1,by omega,k+1,by omega,by first | trivial | exact f3,by first | trivial | exact f4,by first | trivial | exact f5,by first | trivial | exact f6,by first | trivial | exact f8,by first | trivial | exact f9,by first | trivial | exact f12,by first | trivial | exact f13,by first | trivial | exact f14,by first | trivial | exact f15,by first | trivial | exact f16,by first | trivial | exact f17 | (rw [← AL8]; exact f17),by first | trivial | rfl,S2,hu2,hw2⟩
    ·have hk':k=(zeros m.pts[i].bins.length).length:=by
      have : ¬ k < m.pts[i].bins.length:=by simpa using hc
      omega
     rw [hk',PX hrz] at S
     simp -implicitDefEqProofs only [DL,EC,KG,EW,AA,↓reduceIte,Nat.reduceEqDiff]
     exact ⟨f3,f4,f5,f6,f8,f9,f12,f13,f14,f15,f16,S,hu,hw⟩
   ·clear Sc huc hwc f3 f4 f5 f6 f8 f9 f12 f13 f14 f15 f16 f17
    rintro F H ⟨f3,f4,f5,f6,f8,f9,f12,f13,f14,f15,f16,S,hu,hw⟩
    rw [hms] at S
    simp -implicitDefEqProofs only [BA,A8,EF,EY,ER,AY,BB,AO,AQ,AL,BD,AX,AC,AA,A7,AU,BH,BG,AZ,BR,AB,DI,↓reduceIte,Nat.reduceEqDiff,oGs,bNf,enP,f16,wrap_succ (show i < 9223372036854775807 by omega)]
    exact ⟨n - 1,by omega,i+1,_,_,by omega,by first | trivial | exact f3,by first | trivial | exact f4,by first | trivial | exact f5,by first | trivial | exact f6,by first | trivial | exact f8,by first | trivial | exact f9,by first | trivial | exact f12,by first | trivial | exact f13,by first | trivial | exact f14,by first | trivial | exact f15,by first | trivial | rfl,S,hu,hw,hdis2,hfst⟩
  ·have hi':i=(zP m).length:=by
    have : ¬ i < m.pts.length:=by simpa using hc
    omega
   rw [List.take_of_length_le (by omega)] at f15 hu hw
   rw [List.drop_eq_nil_of_le (by omega)] at hfst
   rw [hi',PX (by omega)] at S
   simp -implicitDefEqProofs only [DL,EC,KG,EW,AA,↓reduceIte,Nat.reduceEqDiff]
   exact ⟨u,w,f4,f5,f8,f9,f12,f13,f14,f15,S,hu,hw,hfst⟩
 ·rintro F H ⟨u,w,f4,f5,f8,f9,f12,f13,f14,f15,S,hu,hw,hfst⟩
  simp -implicitDefEqProofs only [BC,BQ,BA,A8,EY,AY,BB,AO,AQ,AL,BD,AX,AC,AU,BH,AZ,↓reduceIte,oGs,bNf]
  refine G9 4 (fun F H=>F 5 = .ptr vb 0 0∧F 8 = .ptr b8 0 0∧F 9 = .ptr b9 0 0∧F 12 = .ptr ob 0 0∧F 13 = .ptr nb 0 0∧F 15 = .bool (rs.any PtR.bad)∧Sx h H m c t vb tb b8 b9 H0.length H3.length ob nb po co pb cbs (KP rs (stO c t).P) (MJ m (rs.map PtR.hit) (stO c t).C) 0 0 w∧outG 1 J5 H3 (rs.map PtR.next) w H) (fun _ _=>False) ?_ ?_ (fun _ _ hh=>hh.elim)
  ·refine DR (fun n F H => ∃ i,n+i=m.crs.length∧F 4 = .ptr h.length 0 0∧F 5 = .ptr vb 0 0∧F 8 = .ptr b8 0 0∧F 9 = .ptr b9 0 0∧F 12 = .ptr ob 0 0∧F 13 = .ptr nb 0 0∧F 14=u∧F 15 = .bool (rs.any PtR.bad)∧F 22 = .int .i64 (i:Nat) ∧
     Sx h H m c t vb tb b8 b9 H0.length H3.length ob nb po co pb cbs (KP rs (stO c t).P) (mix (MJ m (rs.map PtR.hit) (stO c t).C) (zC m) i) 0 0 w∧outG 1 LG H3 (rs.map PtR.hit) u H∧outG 1 J5 H3 (rs.map PtR.next) w H) m.crs.length
    ⟨0,by simp,by simp -implicitDefEqProofs only [AA,↓reduceIte,Nat.reduceEqDiff,f4],by simp -implicitDefEqProofs only [AA,↓reduceIte,Nat.reduceEqDiff,f5],by simp -implicitDefEqProofs only [AA,↓reduceIte,Nat.reduceEqDiff,f8],by simp -implicitDefEqProofs only [AA,↓reduceIte,Nat.reduceEqDiff,f9],by simp -implicitDefEqProofs only [AA,↓reduceIte,Nat.reduceEqDiff,f12],by simp -implicitDefEqProofs only [AA,↓reduceIte,Nat.reduceEqDiff,f13],by simp -implicitDefEqProofs only [AA,↓reduceIte,Nat.reduceEqDiff,f14],by simp -implicitDefEqProofs only [AA,↓reduceIte,Nat.reduceEqDiff,f15],by simp -implicitDefEqProofs only [AA,↓reduceIte] <;> rfl,S,hu,hw⟩ ?_
   clear S hu hw f4 f5 f8 f9 f12 f13 f14 f15
   rintro n F H ⟨i,hi,f4,f5,f8,f9,f12,f13,f14,f15,f22,S,hu,hw⟩
   simp -implicitDefEqProofs only [BC,BA,BI,A8,AY,BB,AO,AQ,AL,BD,AX,AC,AA,A7,BG,BV,BR,BK,D6,AB,DF,↓reduceIte,Nat.reduceEqDiff,Nat.zero_add,oGs,bNf,enP,VQ,JZ,f4,f22,S.m1,lLm]
   refine CW (fun hc => ?_) (fun hc => ?_)
   ·have hi':i < m.crs.length:=by simpa using hc
    have hiC:i < (stO c t).C.length:=by omega
    have hic:i < c.crs.length:=by omega
    have hip:i < cbs.length:=by omega
    have hiz:i < (zC m).length:=by omega
    have hcg:=hg.crs _ (List.getElem_mem hi')
    have hfs:=hg.full.szs hcg.here
    have hzl2:=NF m m.crs[i].pts
    have htwo:=hcg.two
    have hfour:=hcg.four
    have hpr:=hcg.prod
    have hcr:=hm.crs _ (List.getElem_mem hi')
    have hxe:=hcr.excl
    have hCi:(stO c t).C[i]=c.crs[i].l:=by simp [stO]
    have hce:=hsh.ce i hiC hi'
    have hwn:Wn (stO c t).C[i]:=hsh.wc _ (List.getElem_mem hiC)
    have hpos:0 < m.pts.length:=by
     have:=hcg.here (m.crs[i].pts[0]'(by omega)) (List.getElem_mem _)
     omega
    obtain ⟨uo,rfl,guo⟩ : ∃ uo,u = .own uo 0 (rs.map PtR.hit).length∧H[uo]? = some (.live 1 ((rs.map PtR.hit).map LG)):=by
     rcases hu with ⟨q,_⟩ | ⟨_,o,_,e,g⟩
     ·have q2:(rs.map PtR.hit).length=0:=by rw [q]; rfl
      rw [lLm] at q2; omega
     ·exact ⟨o,e,g⟩
    have h64 : ∀ x∈rs.map PtR.hit,x.length≤1048576:=fun x hx=>by
     obtain ⟨r,hr,rfl⟩:=List.mem_map.1 hx
     rw [hrs] at hr
     obtain ⟨p,hp,rfl⟩:=List.mem_map.1 hr
     have h1:=AFN p.1 p.2 env
     have h2:=(hm.pts _ (List.of_mem_zip hp).1).num
     omega
    have hhl:(rs.map PtR.hit).length=m.pts.length:=by rw [lLm]; exact hrl
    have hmx:=mix_len (ys:=MJ m (rs.map PtR.hit) (stO c t).C) (xs:=zC m) (i:=i) (by omega) (by omega)
    have hmi:=UJ (ys:=MJ m (rs.map PtR.hit) (stO c t).C) (xs:=zC m) (i:=i) (j:=i) (by omega) (Nat.le_refl _) hiz (by omega)
    have hms:=mix_set (ys:=MJ m (rs.map PtR.hit) (stO c t).C) (xs:=zC m) (i:=i) (by omega) hiz (by omega)
    have hsg2:=UB m (rs.map PtR.hit) (stO c t).C i hi' hiC (by omega)
    have hz2:(zC m)[i]=zeros (IC (szs m m.crs[i].pts)):=by simp [zC]
    obtain ⟨M,hmm,hmx,hmi,hms⟩ : ∃ M,mix (MJ m (rs.map PtR.hit) (stO c t).C) (zC m) i=M∧M.length=(zC m).length∧(∀ h:i < M.length,M[i]=(zC m)[i])∧M.set i (MJ m (rs.map PtR.hit) (stO c t).C)[i]=mix (MJ m (rs.map PtR.hit) (stO c t).C) (zC m) (i+1):=⟨_,rfl,hmx,fun _=>hmi,hms⟩
    rw [hmm] at S
    rw [hsg2] at hms
    have hrwl:=PG m m.crs[i] (rs.map PtR.hit) (stO c t).C[i]
    have hrow:=AD9 m m.crs[i] (rs.map PtR.hit) (stO c t).C[i]
    have hzn:=P7 (IC (szs m m.crs[i].pts))
    obtain ⟨pn,hpn⟩ : ∃ pn,pn=IC (szs m m.crs[i].pts):=⟨_,rfl⟩
    rw [← hpn] at hpr hce hz2 hzn
    obtain ⟨R,hR⟩ : ∃ R,R=rowC m m.crs[i] (rs.map PtR.hit) (stO c t).C[i]:=⟨_,rfl⟩
    rw [← hR] at hms hrwl
    have hrz:R.length=(zeros pn).length:=by omega
    have Sa:=S.app [ABlk.live 3 [F7 m.crs[i]]]
    have hua:=hu.app [ABlk.live 3 [F7 m.crs[i]]]
    have hwa:=hw.app [ABlk.live 3 [F7 m.crs[i]]]
    have gx:=CY H (ABlk.live 3 [F7 m.crs[i]])
    have kh:=S.kh
    have guo2:=CU guo
    simp -implicitDefEqProofs only [BC,BQ,BA,BO,A8,AY,BB,AO,AQ,AL,BD,AX,AC,E8,AA,A7,AU,BH,BG,AZ,GG,BV,EP,BK,CG,CE,AB,DW,↓reduceIte,Nat.reduceEqDiff,Nat.zero_add,oGs,bNf,enP,ZA,JZ,Option.getD_none,f4,f22,S.m1,D5 hi',FO AAX XK JX hi',ARS,AO8 _ _ [.str ⟨#[]⟩,.sl .nil 0 [],.sl .nil 0 []] rfl]
    generalize H ++ [ABlk.live 3 [F7 m.crs[i]]]=Ha at Sa hua hwa gx ⊢
    have hxb:H.length ∉ cbs:=fun q=>by have:=S.hc _ q; omega
    have hxo:H.length≠uo:=by omega
    generalize H.length=xb at gx hxb hxo ⊢
    have huc : ∀ k,k < cbs.length→True:=fun _ _=>trivial
    clear guo guo2 hu hw S kh
    refine G9 6 (fun F H=>F 4 = .ptr h.length 0 0∧F 5 = .ptr vb 0 0∧F 8 = .ptr b8 0 0∧F 9 = .ptr b9 0 0∧F 12 = .ptr ob 0 0∧F 13 = .ptr nb 0 0∧F 14 = .own uo 0 (rs.map PtR.hit).length∧F 15 = .bool (rs.any PtR.bad)∧F 22 = .int .i64 (i:Nat) ∧
     Sx h H m c t vb tb b8 b9 H0.length H3.length ob nb po co pb cbs (KP rs (stO c t).P) (M.set i R) 0 0 w∧outG 1 LG H3 (rs.map PtR.hit) (.own uo 0 (rs.map PtR.hit).length) H∧outG 1 J5 H3 (rs.map PtR.next) w H) (fun _ _=>False) ?_ ?_ (fun _ _ hh=>hh.elim)
    ·have e0:M.set i (mix R (zeros pn) 0)=M:=by
      show M.set i (zeros pn)=M
      rw [← hz2,← hmi (by omega),List.set_getElem_self]
     refine DR (fun n F H => ∃ k,n+k=pn∧F 4 = .ptr h.length 0 0∧F 5 = .ptr vb 0 0∧F 8 = .ptr b8 0 0∧F 9 = .ptr b9 0 0∧F 12 = .ptr ob 0 0∧F 13 = .ptr nb 0 0∧F 14 = .own uo 0 (rs.map PtR.hit).length∧F 15 = .bool (rs.any PtR.bad)∧F 22 = .int .i64 (i:Nat)∧F 23 = .ptr xb 0 0∧F 24 = .int .i64 (k:Nat)∧H[xb]? = some (.live 3 [F7 m.crs[i]]) ∧
       Sx h H m c t vb tb b8 b9 H0.length H3.length ob nb po co pb cbs (KP rs (stO c t).P) (M.set i (mix R (zeros pn) k)) 0 0 w∧outG 1 LG H3 (rs.map PtR.hit) (.own uo 0 (rs.map PtR.hit).length) H∧outG 1 J5 H3 (rs.map PtR.next) w H) pn
      ⟨0,by simp,by simp -implicitDefEqProofs only [AA,↓reduceIte,Nat.reduceEqDiff,f4],by simp -implicitDefEqProofs only [AA,↓reduceIte,Nat.reduceEqDiff,f5],by simp -implicitDefEqProofs only [AA,↓reduceIte,Nat.reduceEqDiff,f8],by simp -implicitDefEqProofs only [AA,↓reduceIte,Nat.reduceEqDiff,f9],by simp -implicitDefEqProofs only [AA,↓reduceIte,Nat.reduceEqDiff,f12],by simp -implicitDefEqProofs only [AA,↓reduceIte,Nat.reduceEqDiff,f13],by simp -implicitDefEqProofs only [AA,↓reduceIte,Nat.reduceEqDiff,f14],by simp -implicitDefEqProofs only [AA,↓reduceIte,Nat.reduceEqDiff,f15],by simp -implicitDefEqProofs only [AA,↓reduceIte,Nat.reduceEqDiff,f22],by simp -implicitDefEqProofs only [AA,↓reduceIte,Nat.reduceEqDiff],by simp -implicitDefEqProofs only [AA,↓reduceIte] <;> rfl,gx,by rw [e0]; exact Sa,hua,hwa⟩ ?_
     clear Sa hua hwa gx f4 f5 f8 f9 f12 f13 f14 f15 f22
     rintro n' F H ⟨k,hk,f4,f5,f8,f9,f12,f13,f14,f15,f22,f23,f24,gx,S,hu,hw⟩
     have hkl:=mix_len (ys:=R) (xs:=zeros pn) (i:=k) hrz (by omega)
     have hiM:i < (M.set i (mix R (zeros pn) k)).length:=by rw [List.length_set]; omega
     have hcur:(M.set i (mix R (zeros pn) k))[i]=mix R (zeros pn) k:=List.getElem_set_self _
     obtain ⟨q1,q2,q3,q4⟩:=S.rowC hiM hip
     rw [hcur] at q3 q4
     have hll2:(mix R (zeros pn) k).length=pn:=by omega
     simp -implicitDefEqProofs only [BC,BA,BI,A8,AY,BB,AO,AQ,AL,BD,AX,AC,AA,A7,BG,BV,BR,BK,CG,D6,AB,DF,↓reduceIte,Nat.reduceEqDiff,Nat.zero_add,oGs,bNf,enP,NH,L8,f12,f22,f24,q1,q2,q3,JB.2,hll2]
     refine CW (fun hc => ?_) (fun hc => ?_)
     ·have hk':k < pn:=by simpa using hc
      have hkC:k < c.crs[i].l.length:=by rw [← hCi]; omega
      have hin:0≤c.crs[i].l[k]∧c.crs[i].l[k]≤1099511627776:=by
       rw [hCi] at hwn
       exact hwn _ (List.getElem_mem hkC)
      have hRk:R[k]'(by omega)=if (RU m m.crs[i] (MZ (szs m m.crs[i].pts) k) && allB m.crs[i].pts (MZ (szs m m.crs[i].pts) k) (rs.map PtR.hit))=true then rz c.crs[i].l[k] else c.crs[i].l[k]:=by
       rw [← getD_at R k (by omega),hR,hrow k (by omega),hCi,getD_at _ _ hkC]
       rfl
      have hset:=mix_set (ys:=R) (xs:=zeros pn) (i:=k) hrz (by omega) (by omega)
      have hix:=AP6 q4 (k:=k) (by omega)
      rw [hll2] at hix
      have hst:=AO7 q4 (k:=k) (by omega) (R[k]'(by omega))
      rw [hset] at hst
      have S2:=S.setC hip (mix R (zeros pn) (k+1)) (fun _=>by rw [hcur,mix_len hrz (by omega),hkl])
      rw [List.set_set] at S2
      have hu2:=hu.setB (b:=cbs[i]) (S.hc _ (List.getElem_mem hip)) (.live 1 ((mix R (zeros pn) (k+1)).map encI))
      have hw2:=hw.setB (b:=cbs[i]) (S.hc _ (List.getElem_mem hip)) (.live 1 ((mix R (zeros pn) (k+1)).map encI))
      have gx2:=CV (y := .live 1 ((mix R (zeros pn) (k+1)).map encI)) gx (show xb≠cbs[i] from fun q=>hxb (by rw [q]; exact List.getElem_mem hip))
      have hins:=TZ (szs m m.crs[i].pts) k (fun n hn=>(hfs n hn).1)
      have htl:=RS hins
      have guo:H[uo]? = some (.live 1 ((rs.map PtR.hit).map LG)):=by
       rcases hu with ⟨q,_⟩ | ⟨_,o,_,e,g⟩
       ·have q2:(rs.map PtR.hit).length=0:=by rw [q]; rfl
        rw [lLm] at q2; omega
       ·cases e; exact g
      simp -implicitDefEqProofs only [BC,BQ,BA,BO,A8,AY,AO,AQ,AL,BD,AX,AC,AA,A7,BX,BG,BV,BZ,BU,AB,lMc,lMn,lAn,↓reduceIte,Nat.reduceEqDiff,oGs,bNf,enP,f4,f23,f24,ldM S.gm,ldC gx]
      refine (AD5 G m m.crs[i] k H hcg.here hg.full (by omega) (by omega) (by omega)).use ?_
      simp -implicitDefEqProofs only [A8,AY,BB,AO,AQ,AL,BD,AX,AC,AA,A7,AZ,↓reduceIte,oGs,bNf]
      have hcnt:=ACT G m m.crs[i] (MZ (szs m m.crs[i].pts) k) .any H hcg.here hins (by omega) (by omega)
      have hht:=AQA G m.crs[i] (MZ (szs m m.crs[i].pts) k) .any (rs.map PtR.hit) uo H guo (fun p hp=>by have:=hcg.here p hp; rw [hhl]; exact this) (by omega) h64 (by omega)
      refine FD (by kernel_rfl) ?_
      simp -implicitDefEqProofs only [F9,EH,DX,EM,FI,GK,FP,FQ,EG,ED,GV,GI,CO,AO,AA,A7,BX,BV,BK,CG,AB,lMc,lMn,lAn,↓reduceIte,Nat.reduceEqDiff,Nat.reduceAdd,Nat.zero_add,oGs,enP,NH,L8,JH,f4,f5,f12,f14,f22,f23,f24,q1,q2,q3,hll2,S.v1,D5 hic,DT LD hic,NV,D5 hkC,DT ag3 hkC,TD,ldM S.gm,ldC gx]
      refine ⟨_,hcnt,?_⟩
      try simp -implicitDefEqProofs only []
      cases h1:RU m m.crs[i] (MZ (szs m m.crs[i].pts) k)
      ·rw [h1,Bool.false_and] at hRk
       simp -implicitDefEqProofs only [F9,EH,DX,EM,FI,GK,AAP,I5,ED,GV,GI,CO,AO,AA,EQ,A7,AU,BX,BM,CQ,DK,CG,lMc,lMn,lAn,↓reduceIte,Nat.reduceEqDiff,Nat.reduceAdd,oGs,enP,JH]
       refine ⟨_,UI G c.crs[i].l[k] false H hin.1 hin.2,?_⟩
       rw [← hRk]
       try simp -implicitDefEqProofs only [F9,EH,DX,LP,FC,EM,KL,BA,A8,EF,ER,AY,BB,AO,AQ,AL,BD,AX,AC,AA,A7,AU,BH,BG,AZ,EP,BR,AB,DW,DI,↓reduceIte,Nat.reduceEqDiff,Nat.zero_add,oGs,bNf,enP,Option.getD_none,hix,hst,f24,wrap_succ (show k < 9223372036854775807 by omega)]
       exact ⟨n' - 1,by omega,k+1,by omega,by first | trivial | exact f4,by first | trivial | exact f5,by first | trivial | exact f8,by first | trivial | exact f9,by first | trivial | exact f12,by first | trivial | exact f13,by first | trivial | exact f14,by first | trivial | exact f15,by first | trivial | exact f22,by first | trivial | exact f23,by first | trivial | rfl,gx2,S2,hu2,hw2⟩
      ·rw [h1,Bool.true_and] at hRk
       simp -implicitDefEqProofs only [F9,EH,DX,EM,FI,GK,TQ,FP,I5,FQ,ED,GV,GI,CO,AO,AA,A7,AU,BX,BM,CQ,DN,BV,CG,AB,lMc,lMn,lAn,↓reduceIte,Nat.reduceEqDiff,Nat.reduceAdd,oGs,enP,JH,f14,f23,ldC gx]
       refine ⟨_,hht,?_⟩
       try simp -implicitDefEqProofs only []
       refine ⟨_,UI G c.crs[i].l[k] (allB m.crs[i].pts (MZ (szs m m.crs[i].pts) k) (rs.map PtR.hit)) H hin.1 hin.2,?_⟩
       rw [← hRk]
       try simp -implicitDefEqProofs only [F9,EH,DX,LP,FC,EM,KL,BA,A8,EF,ER,AY,BB,AO,AQ,AL,BD,AX,AC,AA,A7,AU,BH,BG,AZ,EP,BR,AB,DW,DI,↓reduceIte,Nat.reduceEqDiff,Nat.zero_add,oGs,bNf,enP,Option.getD_none,hix,hst,f24,wrap_succ (show k < 9223372036854775807 by omega)]
       exact ⟨n' - 1,by omega,k+1,by omega,by first | trivial | exact f4,by first | trivial | exact f5,by first | trivial | exact f8,by first | trivial | exact f9,by first | trivial | exact f12,by first | trivial | exact f13,by first | trivial | exact f14,by first | trivial | exact f15,by first | trivial | exact f22,by first | trivial | exact f23,by first | trivial | rfl,gx2,S2,hu2,hw2⟩
     ·have hk':k=(zeros pn).length:=by
       have : ¬ k < pn:=by simpa using hc
       omega
      rw [hk',PX hrz] at S
      simp -implicitDefEqProofs only [DL,EC,KG,EW,AA,↓reduceIte,Nat.reduceEqDiff]
      exact ⟨f4,f5,f8,f9,f12,f13,f14,f15,f22,S,hu,hw⟩
    ·clear Sa hua hwa gx f4 f5 f8 f9 f12 f13 f14 f15 f22
     rintro F H ⟨f4,f5,f8,f9,f12,f13,f14,f15,f22,S,hu,hw⟩
     rw [hms] at S
     simp -implicitDefEqProofs only [BA,A8,EF,EY,ER,AY,BB,AO,AQ,AL,BD,AX,AC,AA,A7,AU,BH,BG,AZ,BR,AB,DI,↓reduceIte,Nat.reduceEqDiff,oGs,bNf,enP,f22,wrap_succ (show i < 9223372036854775807 by omega)]
     exact ⟨n - 1,by omega,i+1,by omega,by first | trivial | exact f4,by first | trivial | exact f5,by first | trivial | exact f8,by first | trivial | exact f9,by first | trivial | exact f12,by first | trivial | exact f13,by first | trivial | exact f14,by first | trivial | exact f15,by first | trivial | rfl,S,hu,hw⟩
   ·have hi':i=(zC m).length:=by
     have : ¬ i < m.crs.length:=by simpa using hc
     omega
    rw [hi',PX (by omega)] at S
    simp -implicitDefEqProofs only [DL,EC,KG,EW,AA,↓reduceIte,Nat.reduceEqDiff]
    exact ⟨f5,f8,f9,f12,f13,f15,S,hw⟩
  ·clear S hu hw f4 f5 f8 f9 f12 f13 f14 f15
   rintro F H ⟨f5,f8,f9,f12,f13,f15,S,hw⟩
   have hsm:0≤c.sam∧c.sam≤1099511627776:=hok.sm
   have hil:0≤c.ill∧c.ill≤1099511627776:=hok.il
   simp -implicitDefEqProofs only [BC,BA,A8,EY,AY,AO,AQ,AL,BD,AX,AC,AA,A7,AU,BX,BM,BV,BK,BZ,BU,AB,lMc,lMn,lAn,↓reduceIte,Nat.zero_add,oGs,bNf,enP,WV,f5,S.v2]
   refine (UI G c.sam true H hsm.1 hsm.2).use ?_
   have hst1:FM Tryz.prog H 3 (.ptr ob 0 2) (.int .i64 (rz c.sam))=some (H.set ob (.live 4 [cvR po (KP rs (stO c t).P) co (MJ m (rs.map PtR.hit) (stO c t).C) (rz c.sam) 0])):=MX (PQ _ _) sz3 S.cs.gc (by simp [cvR])
   have S1:=S.setN (rz c.sam) 0
   have hw1:=hw.setB (b:=ob) hob (.live 4 [cvR po (KP rs (stO c t).P) co (MJ m (rs.map PtR.hit) (stO c t).C) (rz c.sam) 0])
   simp -implicitDefEqProofs only [BC,BA,A8,AY,BB,AO,AQ,AL,BD,AX,AC,E8,AA,A7,EP,BK,AB,DW,↓reduceIte,Nat.reduceEqDiff,Nat.zero_add,oGs,bNf,enP,WV,Option.getD_none,f12,hst1]
   generalize H.set ob (.live 4 [cvR po (KP rs (stO c t).P) co (MJ m (rs.map PtR.hit) (stO c t).C) (rz c.sam) 0])=Ha at S1 hw1 ⊢
   simp -implicitDefEqProofs only [AY,AO,AQ,AL,BD,AX,AC,AA,A7,BX,BG,BV,BZ,BU,AB,lMc,lMn,lAn,↓reduceIte,Nat.reduceEqDiff,Nat.zero_add,oGs,bNf,enP,WU,f5,S1.v3,f15]
   refine (UI G c.ill (rs.any PtR.bad) Ha hil.1 hil.2).use ?_
   obtain ⟨il,hill⟩ : ∃ z,z=if rs.any PtR.bad=true then rz c.ill else c.ill:=⟨_,rfl⟩
   rw [← hill]
   have hst2:FM Tryz.prog Ha 3 (.ptr ob 0 3) (.int .i64 il)=some (Ha.set ob (.live 4 [cvR po (KP rs (stO c t).P) co (MJ m (rs.map PtR.hit) (stO c t).C) (rz c.sam) il])):=MX (PQ _ _) sz3 S1.cs.gc (by simp [cvR])
   have S2:=S1.setN (rz c.sam) il
   have hw2:=hw1.setB (b:=ob) hob (.live 4 [cvR po (KP rs (stO c t).P) co (MJ m (rs.map PtR.hit) (stO c t).C) (rz c.sam) il])
   simp -implicitDefEqProofs only [BC,A8,AY,BB,AO,AQ,AL,BD,AX,AC,E8,AA,A7,EP,BK,AB,DW,↓reduceIte,Nat.reduceEqDiff,Nat.zero_add,oGs,bNf,enP,WU,Option.getD_none,f12,hst2]
   generalize Ha.set ob (.live 4 [cvR po (KP rs (stO c t).P) co (MJ m (rs.map PtR.hit) (stO c t).C) (rz c.sam) il])=Hb at S2 hw2 ⊢
   have lo:=S2.lo; have ln:=S2.ln
   refine VK [(13,8)] (by kernel_rfl) ?_ ?_
   ·simp -implicitDefEqProofs only [AA,↓reduceIte,Nat.reduceEqDiff,f8,f13,VM,YP,XP,and_true]
    omega
   simp -implicitDefEqProofs only [F9,EH,DX,LP,FC,EM,J8,FQ,KL,BL,A8,AO,AA,A7,AU,BH,BV,EP,AB,DW,↓reduceIte,Nat.reduceEqDiff,Nat.reduceAdd,Nat.zero_add,oGs,enP,Option.getD_none,f8,f9,f12,f13,KN S2.cs.gc rfl,OB S2.cs.gt rfl,AO9 S2.g8 rfl,AHA (CV S2.g9 (show b9≠b8 by omega)) rfl hw2.leaf]
   rw [VI (ba:=b8) (bb:=b9) (by simp -implicitDefEqProofs only [AA,↓reduceIte,Nat.reduceEqDiff,f8]) (by simp -implicitDefEqProofs only [AA,↓reduceIte,Nat.reduceEqDiff,f9]) (KN (CV (EI S2.g8) (show b8≠b9 by omega)) rfl) (OB (EI (CV S2.g9 (show b9≠b8 by omega))) rfl)]
   refine ⟨(S2.hx.set (by omega) _).set (by omega) _,?_⟩
   obtain ⟨st,hst⟩ : ∃ z,z=stp m (stO c t) env:=⟨_,rfl⟩
   have eP:KP rs (stO c t).P=st.P:=by rw [hst,hrs]; rfl
   have eC:MJ m (rs.map PtR.hit) (stO c t).C=st.C:=by rw [hst,hrs]; rfl
   have eL:rs.map PtR.next=st.ls:=by rw [hst,hrs]; rfl
   have eS:rz c.sam=st.sam:=by rw [hst]; rfl
   have eI:il=st.ill:=by rw [hill,hst,hrs]; rfl
   rw [eP,eC,eS,eI] at S2 ⊢
   rw [eL] at hw2
   have np':NL H0.length ((Hb.set b8 (.live 4 [cvR po st.P co st.C st.sam st.ill])).set b9 (.live 1 [[w]])) po pb st.P:=S2.cs.np.keep fun b x hb hg=>by
    have:=S2.cs.np.lt hb
    exact CV (CV hg (by omega)) (by omega)
   have nc':NL H0.length ((Hb.set b8 (.live 4 [cvR po st.P co st.C st.sam st.ill])).set b9 (.live 1 [[w]])) co cbs st.C:=S2.cs.nc.keep fun b x hb hg=>by
    have:=S2.cs.nc.lt hb
    exact CV (CV hg (by omega)) (by omega)
   have hwf:=(hw2.setB (b:=b8) (by omega) (.live 4 [cvR po st.P co st.C st.sam st.ill])).setB (b:=b9) (by omega) (.live 1 [[w]])
   have e1:=AKN st np' nc' h.length 0 (by omega)
   have e2:=AIC AVB hwf h.length 1 h3l
   have hz:OT m c t env=0:=by rw [hE]; unfold VO; rw [← hrs]; exact hfst
   unfold AFI
   rw [if_pos hz,← hst]
   show AV.tup [II h.length _ 4 (.agg (cvR po st.P co st.C st.sam st.ill)),.agg [II h.length _ 3 w],_]=_
   rw [e1,e2]
   simp -implicitDefEqProofs only [AA,↓reduceIte]
   rfl
 ·rintro F H ⟨e,f8,f9,f10,hne,hfst,g8,g9,hx⟩
  exact hend F e f8 f9 f10 (XL (by rw [hE]; unfold VO; rw [← hrs]; exact hfst) hne) H g8 g9 hx
theorem AR5:CvOk zV:=⟨by decide,by decide,fun x hx=>(by cases hx),fun x hx=>(by cases hx)⟩
theorem ALB:TkOk zT:=⟨by decide,fun x hx=>(by cases hx)⟩
theorem YY {m:Mo} {c:Cvr} {t:Tk} {env:List Sg} (h:OT m c t env=0):KY m c=true∧ADK m t=true∧VO m (stO c t) env=0:=by
 unfold OT at h
 split at h
 ·split at h
  ·rename_i h2
   rw [Bool.and_eq_true] at h2
   exact ⟨h2.1,h2.2,h⟩
  ·cases h
 ·rename_i h2; exact absurd h h2
theorem ALM (m:Mo) (c:Cvr) (t:Tk) (env:List Sg):CvOk (AAR m c t env):=by
 unfold AAR
 split
 ·rename_i h
  obtain ⟨h1,h2,h3⟩:=YY h
  exact AN4 ((X6 h1 h2).step h3).fits
 ·exact AR5
theorem AJH {m:Mo} {s:St} (h:FitS m s):TkOk (tkS s):=by
 have h1:=h.ll
 have hn:=(PZ h.me).num
 refine ⟨by simp [tkS,isL]; omega,fun x hx => ?_⟩
 obtain ⟨y,hy,rfl⟩:=List.mem_map.1 hx
 have:=h.ok.l7 y hy
 show y.length≤_
 omega
theorem ASL (m:Mo) (c:Cvr) (t:Tk) (env:List Sg):TkOk (AFJ m c t env):=by
 unfold AFJ
 split
 ·rename_i h
  obtain ⟨h1,h2,h3⟩:=YY h
  exact AJH ((X6 h1 h2).step h3)
 ·exact ALB
structure Rr (h H:Hp) (m:Mo) (c:Cvr) (t:Tk) (b4 cb tb:Nat):Prop where
 gm:H[h.length]? = some (.live 2 [EN m])
 g4:H[b4]? = some (.live 4 [F5])
 gc:H[cb]? = some (.live 4 [FZ c])
 gt:H[tb]? = some (.live 1 [IM t])
 o1:h.length < b4
 o2:b4 < cb
 o3:cb < tb
 hx:ext h H
theorem Rr.ext {h H H':Hp} {m:Mo} {c:Cvr} {t:Tk} {b4 cb tb:Nat} (R:Rr h H m c t b4 cb tb) (hx:Sm.ext H H'):Rr h H' m c t b4 cb tb:=⟨EU hx R.gm,EU hx R.g4,EU hx R.gc,EU hx R.gt,R.o1,R.o2,R.o3,R.hx.trans hx⟩
end Go.Proofs.YtocilianjfhifaaGreatDoor.Xe
namespace Go.Proofs.YtocilianjfhifaaGreatDoor.Xe
open Sm Bins Cov Go.RowKit
theorem AYR:Tryz.prog.cellsOf 187=2:=by kernel_rfl
theorem A0M:Tryz.prog.cellsOf 47=1:=by kernel_rfl
def AX3 (s:Sg) (_:Nat):Prop:=AD0 s
theorem AZ9:Rd Tryz.prog 187 GH AX3:=by
 intro n
 match n with
 | 0=>exact RdAt.zero
 | 1=>exact WH Tryz.underlying187
 | n+2 =>
   refine RdAt.map (fun x:ByteArray × Int × Unit=>((x.1,x.2.1):Sg)) (LY Tryz.underlying187 (HY rfl cl9 (fun _=>rfl) (rdStr _) (HY rfl cl3 (fun _=>rfl) (rdI _) O5))) (fun _=>rfl) ?_
   rintro ⟨a,b,_⟩ N ⟨_,_,_,_,_,_,_,_,_,h2,_⟩
   exact h2
def AX2 (x:Ss) (b:Nat):Prop:=okL AX3 x.l b
theorem A01:Rd Tryz.prog 58 RY AX2:=by
 intro n
 cases n with
 | zero=>exact RdAt.zero
 | succ n=>exact RdAt.map (fun x:SM × List Sg=>(⟨x.1,x.2⟩:Ss)) (MK Tryz.underlying58 AYR (by decide) AEV (AZ9 n)) (fun _=>rfl) (fun x b h=>QF h)
theorem AZX {x:Ss} {b:Nat} (h:AX2 x b) (hb:b≤1048576):x.l.length≤1048576∧∀ s∈x.l,AD0 s:=by
 refine ⟨Nat.le_trans (okL.length h) hb,fun s hs => ?_⟩
 obtain ⟨_,_,h2⟩:=okL.each h s hs
 exact h2
def AV7 (t:Tk) (b:Nat):Prop:=okL AH0 t.last b
theorem AZ8:Rd Tryz.prog 47 IM AV7:=by
 intro n
 match n with
 | 0=>exact RdAt.zero
 | 1=>exact WH Tryz.underlying47
 | n+2 =>
   have rdXs:RdAt Tryz.prog (n+1) 26 (fun x:SM × List Is => [.sl x.1 1 (x.2.map encL)]) (fun x b => ∃ b',b'+1≤b∧okL AH0 x.2 b'):=MK Tryz.underlying26 AT7 (by decide) YC (ASY n)
   refine RdAt.map (fun x:(SM × List Is) × Unit=>(⟨x.1.1,x.1.2⟩:Tk)) (LY Tryz.underlying47 (HY rfl AT8 (fun _=>rfl) rdXs O5)) (fun x=>rfl) ?_
   rintro ⟨a,_⟩ N ⟨_,hN,b1,b2,hb,h1,_⟩
   exact (QF h1).mono (by omega)
theorem ASE {t:Tk} {b:Nat} (h:AV7 t b) (hb:b≤1048576):TkOk t:=by
 refine ⟨Nat.le_trans (okL.length h) hb,fun x hx => ?_⟩
 obtain ⟨b4,h4,h5⟩:=okL.each h x hx
 have:=okL.length h5
 omega
end Go.Proofs.YtocilianjfhifaaGreatDoor.Xe
namespace Go.Proofs.YtocilianjfhifaaGreatDoor.Xe
open Sm Bins Cov Wd Go.RowKit
def stK (m:Mo) (l:List (List Sg)) (k:Nat):St:=(l.take k).foldl (stp m) (zS m)
theorem ABN (m:Mo) {l:List (List Sg)} {k:Nat} (hk:k < l.length):stK m l (k+1)=stp m (stK m l k) l[k]:=by
 unfold stK
 rw [List.take_succ_eq_append_getElem hk,List.foldl_append]; rfl
structure RunOk (m:Mo) (l:List (List Sg)):Prop where
 me:GN m=0
 eq:(XQ m (zS m) l).2=stK m l l.length
 e0:(XQ m (zS m) l).1=0
 er : ∀ (k:Nat) (hk:k < l.length),VO m (stK m l k) l[k]=0
theorem RunOk.fit {m:Mo} {l:List (List Sg)} (h:RunOk m l) : ∀ k,k≤l.length→FitS m (stK m l k)
 | 0,_=>AVN h.me
 | k+1,hk=>by
   rw [ABN m (by omega)]
   exact (h.fit k (by omega)).step (h.er k (by omega))
structure Bd (k:Nat) (s:St):Prop where
 P : ∀ xs∈s.P,∀ x∈xs,x≤(k:Int)
 C : ∀ xs∈s.C,∀ x∈xs,x≤(k:Int)
 sam:s.sam=(k:Int)
 ill:s.ill≤(k:Int)
theorem APE (n:Int):rz n≤n+1:=by unfold rz; omega
theorem AXV {n:Int} (h:n < 1099511627776):rz n=n+1:=by unfold rz; omega
theorem Bd.step {m:Mo} {s:St} {k:Nat} (h:Bd k s) (hok:StOk m s) (hk:k < 1099511627776) (env:List Sg):Bd (k+1) (stp m s env):=by
 have hr:=RP m s.ls env hok.ll
 have hpl:=hok.sh.pl
 have hcl:=hok.sh.cl
 have l1:=RH (NG m s.ls env) s.P (by omega)
 have l2:=UA m ((NG m s.ls env).map PtR.hit) s.C hcl
 refine ⟨fun xs hx x hxx => ?_,fun xs hx x hxx => ?_,?_,?_⟩
 ·obtain ⟨i,hi,rfl⟩:=List.getElem_of_mem (show xs∈KP (NG m s.ls env) s.P from hx)
  have hi':i < s.P.length:=by omega
  have him:i < m.pts.length:=by omega
  rw [RI _ _ i (by omega) hi'] at hxx
  obtain ⟨j,hj,rfl⟩:=List.getElem_of_mem hxx
  rw [PE] at hj
  have hg:=XR m s.ls env i him (by rw [hok.ll]; exact him) (by omega)
  have hpe:=hok.sh.pe i hi' him
  rw [← getD_at _ j (by rw [PE]; exact hj),U7 j _ _ (by rw [hg]; exact Y5 _ _ _) (fun x hx=>by rw [hg] at hx; rw [hpe]; exact AFM _ _ _ x hx)]
  have hb:=h.P _ (List.getElem_mem hi') _ (List.getElem_mem hj)
  rw [getD_at _ j hj]
  have:=APE (s.P[i][j])
  split <;> omega
 ·obtain ⟨i,hi,rfl⟩:=List.getElem_of_mem (show xs∈MJ m ((NG m s.ls env).map PtR.hit) s.C from hx)
  have hi':i < s.C.length:=by omega
  rw [UB m _ _ i (by omega) hi'] at hxx
  obtain ⟨j,hj,rfl⟩:=List.getElem_of_mem hxx
  have hj':=hj
  rw [PG] at hj'
  rw [ABU m _ _ _ j hj' hj]
  have hb:=h.C _ (List.getElem_mem hi') _ (List.getElem_mem hj')
  have:=APE (s.C[i][j])
  split <;> omega
 ·show rz s.sam=_
  rw [h.sam,AXV (by omega)]; omega
 ·have:=h.ill
  have h2:=APE s.ill
  unfold stp
  dsimp only
  split <;> omega
def rsK (m:Mo) (l:List (List Sg)) (k:Nat):List PtR:=NG m (stK m l k).ls (l.getD k [])
theorem AJQ (m:Mo) {l:List (List Sg)} {k:Nat} (hk:k < l.length):rsK m l k=NG m (stK m l k).ls l[k]:=by
 unfold rsK
 rw [List.getD_eq_getElem?_getD,List.getElem?_eq_getElem hk]; rfl
section
variable {m:Mo} {l:List (List Sg)} (R:RunOk m l)
include R
theorem RunOk.rl {k:Nat} (hk:k < l.length):(rsK m l k).length=m.pts.length:=by
 rw [AJQ m hk]
 exact RP m _ _ (R.fit k (by omega)).ll
theorem RunOk.pl (k:Nat) (hk:k≤l.length):(stK m l k).P.length=m.pts.length:=(R.fit k hk).ok.sh.pl
theorem RunOk.last {k i:Nat} (hk:k < l.length) (hi:i < m.pts.length):(stK m l (k+1)).ls.getD i []=((rsK m l k)[i]'(by rw [R.rl hk]; exact hi)).next:=by
 have h1:=R.rl hk
 rw [ABN m hk]
 unfold stp
 dsimp only
 rw [← AJQ m hk,List.getD_eq_getElem?_getD,List.getElem?_map,List.getElem?_eq_getElem (by omega)]; rfl
theorem RunOk.row {k i:Nat} (hk:k < l.length) (hi:i < m.pts.length):(stK m l (k+1)).P.getD i []=rowP ((rsK m l k)[i]'(by rw [R.rl hk]; exact hi)).hit ((stK m l k).P.getD i []):=by
 have h1:=R.rl hk
 have h2:=R.pl k (by omega)
 rw [ABN m hk]
 unfold stp
 dsimp only
 rw [← AJQ m hk]
 have hs:=RH (rsK m l k) (stK m l k).P (by omega)
 rw [List.getD_eq_getElem?_getD,List.getElem?_eq_getElem (by omega),RI _ _ i (by omega) (by omega),List.getD_eq_getElem?_getD,List.getElem?_eq_getElem (by omega)]; rfl
end
noncomputable def WO (s:Hp × AV) (x:Is):Hp × AV:=match GU Tryz.prog true (s.1 ++ [ABlk.live 1 (x.l.map encI)] ++ [ABlk.live 1 [[.own s.1.length 0 x.l.length]]]) 26 26 s.2 (.own (s.1 ++ [ABlk.live 1 (x.l.map encI)]).length 0 1) with
 | some (v,H)=>(H,v)
 | none=>s
noncomputable def lsF (h:Hp) (ls:List Is):Hp × AV:=ls.foldl WO (h,.sl .nil 0 [])
theorem AJ7 (h:Hp) (ls:List Is) (hl:ls.length≤1048576) : ∀ i,i≤ls.length→ext h (lsF h (ls.take i)).1∧∃ o bs,(lsF h (ls.take i)).2=nlV o ((ls.take i).map Is.l)∧NL h.length (lsF h (ls.take i)).1 o bs ((ls.take i).map Is.l)
 | 0,_=>⟨ext.rfl' h,0,[],rfl,NL.nil _ _ _⟩
 | i+1,hi=>by
   have hi':i < ls.length:=by omega
   obtain ⟨hx,o,bs,e,N⟩:=AJ7 h ls hl i (by omega)
   have es:lsF h (ls.take (i+1))=WO (lsF h (ls.take i)) ls[i]:=by
    unfold lsF
    rw [List.take_succ_eq_append_getElem hi',List.foldl_append]; rfl
   rw [es]
   generalize lsF h (ls.take i)=s at hx e N ⊢
   obtain ⟨H,v⟩:=s
   simp only at hx e N
   subst e
   have N2:=(N.app [ABlk.live 1 (ls[i].l.map encI)]).app [ABlk.live 1 [[.own H.length 0 ls[i].l.length]]]
   have gb:=CX (x:=ABlk.live 1 [[.own H.length 0 ls[i].l.length]]) (CY H (ABlk.live 1 (ls[i].l.map encI)))
   have gt:=CY (H ++ [ABlk.live 1 (ls[i].l.map encI)]) (ABlk.live 1 [[.own H.length 0 ls[i].l.length]])
   have hle:=hx.le
   obtain ⟨H3,ha,N3,_,_,hx3⟩:=N2.snoc gb hle (by simp; omega) (fun q=>by have:=N.mem_lt q; omega) (fun q e=>by have:=N.top_lt q; omega) gt (by simp; omega)
   have e2:(ls.take i).map Is.l ++ [ls[i].l]=(ls.take (i+1)).map Is.l:=by rw [List.take_succ_eq_append_getElem hi',List.map_append]; rfl
   rw [e2] at ha N3
   have est:WO (H,nlV o ((ls.take i).map Is.l)) ls[i]=(H3,nlV (H ++ [ABlk.live 1 (ls[i].l.map encI)] ++ [ABlk.live 1 [[.own H.length 0 ls[i].l.length]]]).length ((ls.take (i+1)).map Is.l)):=by
    unfold WO
    simp only [ha]
   rw [est]
   exact ⟨hx3 h (Nat.le_refl _) ((hx.app _).app _),_,_,rfl,N3⟩
theorem AL9 (h:Hp) (ls:List Is) (hl:ls.length≤1048576):ext h (lsF h ls).1∧∃ o bs,(lsF h ls).2=nlV o (ls.map Is.l)∧NL h.length (lsF h ls).1 o bs (ls.map Is.l):=by
 have:=AJ7 h ls hl ls.length (Nat.le_refl _)
 rw [List.take_length] at this
 exact this
def tkA (s:St):Tk:=⟨.any,isL s.ls⟩
def XN (m:Mo) (c:Cvr) (t:Tk) (env:List Sg):Tk:=if OT m c t env=0 then tkA (stp m (stO c t) env) else zT
def XM (m:Mo) (c:Cvr) (t:Tk) (env:List Sg):AV:=if OT m c t env=0 then .tup [.agg (cvW (stp m (stO c t) env)),.agg [.sl .any 1 ((stp m (stO c t) env).ls.map J5)],.int .i64 0] else .tup [.agg F5,.agg F8,.int .i64 (OT m c t env)]
theorem ASF (s:St):IM (tkA s) = [.sl .any 1 (s.ls.map J5)]:=by
 unfold IM tkA isL
 rw [List.map_map]; rfl
theorem APA (m:Mo) (c:Cvr) (t:Tk) (env:List Sg):CvR (XM m c t env) (.tup [.agg (FZ (AAR m c t env)),.agg (IM (XN m c t env)),.int .i64 (OT m c t env)]):=by
 unfold XM AAR XN
 split
 ·rename_i h
  rw [h,ASF]
  exact CvR.tup (CvRL.cons (AKM _) (CvRL.refl _))
 ·exact AQM _
theorem U4 {m:Mo} {c:Cvr} {t:Tk} {env:List Sg} {e:Int} (h:OT m c t env=e) (hne:e≠0):XM m c t env = .tup [.agg F5,.agg F8,.int .i64 e]:=by
 unfold XM
 rw [h,if_neg hne]
section
variable (G:Nat→AV)
theorem AEH (ls:List Is) (s:SM) (h:Hp) (hl:ls.length≤1048576) (he : ∀ x∈ls,x.l≠[]∧x.l.length≤1048576) :
  ACalls (En G) 135 [.sl s 1 (ls.map encL)] h fun v H=>v=(lsF h ls).2∧H=(lsF h ls).1:=by
 refine CB (H:=hint [15] []) (enM G) Tryz.func135 rfl (by kernel_rfl) (by kernel_rfl) (nLb (by kernel_rfl)) ?_
 show awp _ _ _ _ _ (EE _ [.tmp 2] _)
 simp -implicitDefEqProofs only [D7,List.contains_cons,List.contains_nil,Nat.reduceBEq,Bool.or_false,BC,BQ,BA,A8,AY,BB,AL,BD,AX,AC,AA,A7,AU,BH,JD,BG,AZ,D6,AB,BF,↓reduceIte,Nat.reduceEqDiff,oGs,bNf,enP,TA,D9,lLm]
 refine DR (fun n F H => ∃ i,n+i=ls.length∧F 3=(lsF h (ls.take i)).2∧F 6 = .sl s 1 (ls.map encL)∧F 7 = .int .i64 (ls.length:Nat)∧F 8 = .int .i64 (i:Nat)∧H=(lsF h (ls.take i)).1) ls.length
  ⟨0,by simp,by simp -implicitDefEqProofs only [AA,↓reduceIte,Nat.reduceEqDiff]; rfl,by simp -implicitDefEqProofs only [AA,↓reduceIte,Nat.reduceEqDiff],by simp -implicitDefEqProofs only [AA,↓reduceIte,Nat.reduceEqDiff],by simp -implicitDefEqProofs only [AA,↓reduceIte]; rfl,rfl⟩ ?_
 rintro n F H ⟨i,hi,f3,f6,f7,f8,rfl⟩
 simp -implicitDefEqProofs only [D7,List.contains_cons,List.contains_nil,Nat.reduceBEq,Bool.or_false,BC,BA,BI,A8,AY,BB,AL,BD,AX,AC,AA,A7,BR,AB,DF,↓reduceIte,oGs,bNf,enP,D9,f7,f8]
 refine CW (fun hc => ?_) (fun hc => ?_)
 ·have hi':i < ls.length:=by simpa using hc
  obtain ⟨hne,hlen⟩:=he _ (List.getElem_mem hi')
  obtain ⟨hx,o,bs,e,N⟩:=AJ7 h ls hl i (by omega)
  have es:lsF h (ls.take (i+1))=WO (lsF h (ls.take i)) ls[i]:=by
   unfold lsF
   rw [List.take_succ_eq_append_getElem hi',List.foldl_append]; rfl
  generalize lsF h (ls.take i)=z at hx e N es f3 ⊢
  obtain ⟨H,v⟩:=z
  simp only at hx e N f3 ⊢
  subst e
  simp -implicitDefEqProofs only [D7,List.contains_cons,List.contains_nil,Nat.reduceBEq,Bool.or_false,BC,BQ,BA,BO,A8,AY,BB,AL,BD,AX,AC,AA,A7,BX,BG,AZ,BV,CG,BZ,BU,AB,lMc,lMn,lAn,↓reduceIte,Nat.reduceEqDiff,oGs,bNf,enP,NH,D9,f6,f8,D5 hi',DT LD hi',NV,f3]
  refine (AGJ G ls[i].l ls[i].m H (by omega)).mono ?_
  rintro u H1 hcl
  obtain ⟨_,rfl,rfl⟩:ls[i].l.map encI≠[]∧u = .own H.length 0 (ls[i].l.map encI).length∧H1=H ++ [ABlk.live 1 (ls[i].l.map encI)]:=by
   rcases hcl with ⟨e,_⟩ | ⟨e,_⟩ | h3
   ·exact absurd (by simpa using e) hne
   ·exact absurd (by simpa using e) hne
   ·exact h3
  have N2:=(N.app [ABlk.live 1 (ls[i].l.map encI)]).app [ABlk.live 1 [[.own H.length 0 ls[i].l.length]]]
  have gb:=CX (x:=ABlk.live 1 [[.own H.length 0 ls[i].l.length]]) (CY H (ABlk.live 1 (ls[i].l.map encI)))
  have gt:=CY (H ++ [ABlk.live 1 (ls[i].l.map encI)]) (ABlk.live 1 [[.own H.length 0 ls[i].l.length]])
  have hle:=hx.le
  obtain ⟨H3,ha,N3,_,_,hx3⟩:=N2.snoc gb hle (by simp; omega) (fun q=>by have:=N.mem_lt q; omega) (fun q e=>by have:=N.top_lt q; omega) gt (by simp; omega)
  have e2:(ls.take i).map Is.l ++ [ls[i].l]=(ls.take (i+1)).map Is.l:=by rw [List.take_succ_eq_append_getElem hi',List.map_append]; rfl
  rw [e2] at ha
  have est:WO (H,nlV o ((ls.take i).map Is.l)) ls[i]=(H3,nlV (H ++ [ABlk.live 1 (ls[i].l.map encI)] ++ [ABlk.live 1 [[.own H.length 0 ls[i].l.length]]]).length ((ls.take (i+1)).map Is.l)):=by
   unfold WO
   simp only [ha]
  rw [est] at es
  rw [lLm]
  simp -implicitDefEqProofs only [FT,F6,D7,List.contains_cons,List.contains_nil,Nat.reduceBEq,Bool.or_false,BA,A8,EF,ER,AY,BB,AL,BD,AX,AC,AA,A7,AU,BH,BG,AZ,ES,BR,IJ,CE,AB,DI,↓reduceIte,Nat.reduceEqDiff,oGs,bNf,enP,D9,YJ,f3,ha,f6,f7,f8,wrap_succ (show i < 9223372036854775807 by omega)]
  exact ⟨n - 1,by omega,i+1,by omega,by rw [es],by first | trivial | exact f6,by first | trivial | exact f7,by first | trivial | rfl,by rw [es]⟩
 ·have hi' : ¬ i < ls.length:=by simpa using hc
  rw [List.take_of_length_le (by omega)] at f3 ⊢
  simp -implicitDefEqProofs only [D7,List.contains_cons,List.contains_nil,Nat.reduceBEq,Bool.or_false,BC,BA,BL,DL,A8,EC,EY,EW,CJ,AY,BB,AL,BD,AX,AC,AA,A7,BG,AZ,↓reduceIte,Nat.reduceEqDiff,oGs,bNf,D9,f3]
  exact ⟨trivial,trivial⟩
theorem AVK (o:Nat) (P:List (List Int)):I9 (nlV o P)=some [nlV o P]:=by cases P <;> rfl
theorem AST {m:Mo} {c:Cvr} (hf:KY m c=true) (hg:Cov.Good m):(∀ x∈c.pts,x.l≠[]∧x.l.length≤1048576)∧∀ x∈c.crs,x.l≠[]∧x.l.length≤1048576:=by
 obtain ⟨_,h2,h3,_,_⟩:=VE.1 hf
 refine ⟨fun x hx => ?_,fun x hx => ?_⟩
 ·obtain ⟨p,hp,ho⟩:=X7 h2 x hx
  unfold okP at ho
  simp only [Bool.and_eq_true,beq_iff_eq] at ho
  have:=hg.full p hp
  exact ⟨fun e=>by rw [e] at ho; simp at ho; omega,by omega⟩
 ·obtain ⟨q,hq,ho⟩:=X7 h3 x hx
  unfold okC at ho
  simp only [Bool.and_eq_true,beq_iff_eq] at ho
  have hcg:=hg.crs q hq
  have hfs:=hg.full.szs hcg.here
  have hpos:0 < IC (szs m q.pts):=by
   have gen : ∀ (l:List Nat) (a:Nat),0 < a→(∀ n∈l,1≤n∧n≤64)→0 < l.foldl (· * ·) a:=by
    intro l
    induction l with
    | nil=>intro a ha _; exact ha
    | cons y l ih =>
      intro a ha h
      exact ih (a * y) (Nat.mul_pos ha (h y (by simp)).1) (fun n hn=>h n (by simp [hn]))
   exact gen _ 1 (by decide) hfs
  have:=hcg.prod
  exact ⟨fun e=>by rw [e] at ho; simp at ho; omega,by omega⟩
set_option maxHeartbeats 8000000 in
theorem AI9 (hG:GOk G) (hT:Q5 G) (m:Mo) (hm:MoOk m) (c:Cvr) (hcv:CvOk c) (t:Tk) (ht:TkOk t) (env:List Sg) (sm:SM) (h:Hp) (henv:env.length≤1099511627776) :
  PCall (En G) 72 [.agg (EN m),.agg (FZ c),.agg (IM t),.sl sm 2 (env.map GH)] h (.tup [.agg (FZ (AAR m c t env)),.agg (IM (XN m c t env)),.int .i64 (OT m c t env)]):=by
 refine PCall.res (r:=XM m c t env) ?_ (APA _ _ _ _)
 refine ACalls.pure (R:=fun v H=>ext h H∧II h.length H 5 v=XM m c t env) 5 ?_ (fun v H ⟨a,b⟩=>⟨a,b⟩)
 refine CB (H:=hint [1000034,1000037] []) (enM G) Tryz.func72 rfl (by kernel_rfl) (by kernel_rfl) (nLb (by kernel_rfl)) ?_
 show awp _ _ _ _ _ (EE _ [.cell 8 28,.cell 9 47,.tmp 10] _)
 have Y:=Sy.mk' h m c t
 simp -implicitDefEqProofs only [D7,List.contains_cons,List.contains_nil,Nat.reduceBEq,Bool.or_false,BC,BA,A8,AY,BB,AL,BD,AX,AC,AA,A7,AU,BH,AZ,GG,FV,BV,CE,BF,BN,↓reduceIte,Nat.reduceEqDiff,oGs,bNf,enP,D9,bxM,bxV,bxT,SB,ADY]
 generalize h ++ [ABlk.live 2 [EN m]] ++ [ABlk.live 4 [FZ c]] ++ [ABlk.live 1 [IM t]] ++ [ABlk.live 4 [F5]] ++ [ABlk.live 1 [F8]]=H0 at Y ⊢
 generalize (h ++ [ABlk.live 2 [EN m]] ++ [ABlk.live 4 [FZ c]] ++ [ABlk.live 1 [IM t]] ++ [ABlk.live 4 [F5]]).length=b9 at Y ⊢
 generalize (h ++ [ABlk.live 2 [EN m]] ++ [ABlk.live 4 [FZ c]] ++ [ABlk.live 1 [IM t]]).length=b8 at Y ⊢
 generalize (h ++ [ABlk.live 2 [EN m]] ++ [ABlk.live 4 [FZ c]]).length=tb at Y ⊢
 generalize (h ++ [ABlk.live 2 [EN m]]).length=vb at Y ⊢
 have o1:=Y.o1; have o2:=Y.o2; have o3:=Y.o3; have o4:=Y.o4; have o5:=Y.o5
 have hend : ∀ (F:Fr) (e:Int),F 8 = .ptr b8 0 0→F 9 = .ptr b9 0 0→F 10 = .int .i64 e→XM m c t env = .tup [.agg F5,.agg F8,.int .i64 e]→∀ H:Hp,H[b8]? = some (.live 4 [F5])→H[b9]? = some (.live 1 [F8])→ext h H →
   EE Tryz.prog [.cell 8 28,.cell 9 47,.tmp 10] (fun v H=>ext h H∧II h.length H 5 v=XM m c t env) .ret F H:=fun F e f8 f9 f10 hw H g8 g9 hx=>by
  rw [VI (ba:=b8) (bb:=b9) f8 f9 (KN g8 rfl) (OB g9 rfl),f10,hw]
  exact ⟨hx,rfl⟩
 simp -implicitDefEqProofs only [D7,List.contains_cons,List.contains_nil,Nat.reduceBEq,Bool.or_false,AY,AL,BD,AX,AC,AA,A7,BX,BZ,BU,AB,lMc,lMn,lAn,↓reduceIte,oGs,bNf,D9,ldM Y.gm]
 refine (QG G hG m hm H0).use ?_
 cases hb:(GN m == 0)
 ·have hne:GN m≠0:=by simpa using hb
  simp -implicitDefEqProofs only [FT,D7,List.contains_cons,List.contains_nil,Nat.reduceBEq,Bool.or_false,BC,BA,BL,BI,A8,CP,C9,AY,BB,AL,BD,AX,AC,E8,AA,A7,AU,BH,BG,AZ,JE,EP,BR,AB,DW,EJ,↓reduceIte,Nat.reduceEqDiff,oGs,bNf,enP,D9,Option.getD_none,bne,hb,TM,V7,stZ Y.g8 rfl,VS (CV Y.g9 (show b9≠b8 by omega)) rfl]
  exact hend _ (GN m) (by simp -implicitDefEqProofs only [AA,↓reduceIte,Nat.reduceEqDiff]) (by simp -implicitDefEqProofs only [AA,↓reduceIte,Nat.reduceEqDiff]) (by simp -implicitDefEqProofs only [AA,↓reduceIte]) (U4 (by unfold OT; rw [if_neg hne]) hne) _ (CV (EI Y.g8) (show b8≠b9 by omega)) (EI (CV Y.g9 (show b9≠b8 by omega))) ((Y.hx.set (by omega) _).set (by omega) _)
 have h0:GN m=0:=by simpa using hb
 simp -implicitDefEqProofs only [D7,List.contains_cons,List.contains_nil,Nat.reduceBEq,Bool.or_false,BC,BA,BO,BI,A8,DU,AY,BB,AL,BD,AX,AC,AA,A7,AU,BX,BH,BG,AZ,BV,BR,BZ,BU,AB,EJ,lMc,lMn,lAn,↓reduceIte,Nat.reduceEqDiff,oGs,bNt,bNf,enP,D9,bne,hb,ldM Y.gm,ldV Y.gv]
 refine (ANV G hG hT m c hm hcv H0).use ?_
 cases hf:KY m c
 ·simp -implicitDefEqProofs only [FT,D7,List.contains_cons,List.contains_nil,Nat.reduceBEq,Bool.or_false,BC,BA,BL,BI,A8,CP,C9,AY,BB,BJ,BP,CO,FK,AL,BD,AX,AC,E8,AA,EQ,A7,AU,BH,BM,BG,AZ,CQ,DN,JE,EP,G6,AB,DW,EX,↓reduceIte,Nat.reduceEqDiff,oGs,bNf,enP,D9,Option.getD_none,TM,V7,stZ Y.g8 rfl,VS (CV Y.g9 (show b9≠b8 by omega)) rfl]
  exact hend _ 1 (by simp -implicitDefEqProofs only [AA,↓reduceIte,Nat.reduceEqDiff]) (by simp -implicitDefEqProofs only [AA,↓reduceIte,Nat.reduceEqDiff]) (by simp -implicitDefEqProofs only [AA,↓reduceIte]) (U4 (by unfold OT; rw [if_pos h0,if_neg (by rw [hf]; simp)]) (by decide)) _ (CV (EI Y.g8) (show b8≠b9 by omega)) (EI (CV Y.g9 (show b9≠b8 by omega))) ((Y.hx.set (by omega) _).set (by omega) _)
 simp -implicitDefEqProofs only [D7,List.contains_cons,List.contains_nil,Nat.reduceBEq,Bool.or_false,AY,BJ,BP,CO,EK,AL,BD,AX,AC,AA,A7,BX,BG,BV,G6,BZ,BU,AB,EX,lMc,lMn,lAn,↓reduceIte,Nat.reduceEqDiff,oGs,bNt,bNf,enP,D9,ldM Y.gm,ldT Y.gt]
 refine (AI8 G hG m hm t ht H0).use ?_
 cases htr:ADK m t
 ·simp -implicitDefEqProofs only [FT,D7,List.contains_cons,List.contains_nil,Nat.reduceBEq,Bool.or_false,BC,BA,BL,BI,A8,CP,C9,AY,BB,BJ,BP,CO,EK,AL,BD,AX,AC,E8,AA,A7,AU,BH,BM,AZ,CQ,DK,JE,EP,G6,AB,DW,EX,↓reduceIte,Nat.reduceEqDiff,oGs,bNf,enP,D9,Option.getD_none,TM,V7,stZ Y.g8 rfl,VS (CV Y.g9 (show b9≠b8 by omega)) rfl]
  exact hend _ 1 (by simp -implicitDefEqProofs only [AA,↓reduceIte,Nat.reduceEqDiff]) (by simp -implicitDefEqProofs only [AA,↓reduceIte,Nat.reduceEqDiff]) (by simp -implicitDefEqProofs only [AA,↓reduceIte]) (U4 (by unfold OT; rw [if_pos h0,if_neg (by rw [htr]; simp)]) (by decide)) _ (CV (EI Y.g8) (show b8≠b9 by omega)) (EI (CV Y.g9 (show b9≠b8 by omega))) ((Y.hx.set (by omega) _).set (by omega) _)
 have hF:=X6 hf htr
 have hok:=hF.ok
 have hg:=PZ h0
 have hE:OT m c t env=VO m (stO c t) env:=by unfold OT; rw [if_pos h0,if_pos (by rw [hf,htr]; rfl)]
 obtain ⟨r1,r2⟩:=AST hf hg
 obtain ⟨xa,po,pb,ea,Na⟩:=AL9 H0 c.pts hcv.pts
 have da:=AEH G c.pts c.pm H0 hcv.pts r1
 obtain ⟨Ha,va,hHa⟩ : ∃ H v,(H,v)=lsF H0 c.pts:=⟨_,_,rfl⟩
 rw [← hHa] at xa ea Na da
 simp only at xa ea Na da
 subst ea
 obtain ⟨xb,co,cbs,eb,Nb⟩:=AL9 Ha c.crs hcv.crs
 have db:=AEH G c.crs c.cm Ha hcv.crs r2
 obtain ⟨Hb,vb2,hHb⟩ : ∃ H v,(H,v)=lsF Ha c.crs:=⟨_,_,rfl⟩
 rw [← hHb] at xb eb Nb db
 simp only at xb eb Nb db
 subst eb
 clear hHa hHb
 have hla:=xa.le
 have hlb:=xb.le
 have v0:DZ Tryz.prog H0 26 (.ptr vb 0 0)=some (.sl c.pm 1 (c.pts.map encL)):=by rw [DJ NZ Y.gv (row:=FZ c) rfl,AIL]
 have v1:DZ Tryz.prog H0 26 (.ptr vb 0 1)=some (.sl c.cm 1 (c.crs.map encL)):=by rw [DJ NZ Y.gv (row:=FZ c) rfl,AET]
 have w1:DZ Tryz.prog Ha 26 (.ptr vb 0 1)=some (.sl c.cm 1 (c.crs.map encL)):=by rw [DJ NZ (EU xa Y.gv) (row:=FZ c) rfl,AET]
 have gm:=EU xb (EU xa Y.gm)
 have gv:=EU xb (EU xa Y.gv)
 have gt:=EU xb (EU xa Y.gt)
 have g8:=EU xb (EU xa Y.g8)
 have g9:=EU xb (EU xa Y.g9)
 have hxb:=(Y.hx.trans xa).trans xb
 have N:NC H0.length Hb po pb co cbs (stO c t).P (stO c t).C:=⟨Na.keep fun b x _ hg=>EU xb hg,Nb.base hla,fun b h1 h2=>by
  have:=(Na.lt h1).2
  have:=(Nb.lt h2).1
  omega⟩
 have st1:FM Tryz.prog Hb 26 (.ptr vb 0 0) (nlV po (c.pts.map Is.l))=some (Hb.set vb (.live 4 [[nlV po (c.pts.map Is.l),.sl c.cm 1 (c.crs.map encL),.int .i64 c.sam,.int .i64 c.ill]])):=MX (row:=FZ c) (AVK _ _) AFH gv (by simp [FZ])
 have gv1:(Hb.set vb (.live 4 [[nlV po (c.pts.map Is.l),.sl c.cm 1 (c.crs.map encL),.int .i64 c.sam,.int .i64 c.ill]]))[vb]? = _:=EI gv
 have st2:FM Tryz.prog (Hb.set vb (.live 4 [[nlV po (c.pts.map Is.l),.sl c.cm 1 (c.crs.map encL),.int .i64 c.sam,.int .i64 c.ill]])) 26 (.ptr vb 0 1) (nlV co (c.crs.map Is.l))=some ((Hb.set vb (.live 4 [[nlV po (c.pts.map Is.l),.sl c.cm 1 (c.crs.map encL),.int .i64 c.sam,.int .i64 c.ill]])).set vb (.live 4 [cvR po (c.pts.map Is.l) co (c.crs.map Is.l) c.sam c.ill])):=MX (row := [nlV po (c.pts.map Is.l),.sl c.cm 1 (c.crs.map encL),.int .i64 c.sam,.int .i64 c.ill]) (AVK _ _) AFH gv1 (by simp)
 rw [List.set_set] at st2
 simp -implicitDefEqProofs only [D7,List.contains_cons,List.contains_nil,Nat.reduceBEq,Bool.or_false,BC,BO,BI,A8,DU,AY,BB,BJ,BP,CO,EK,AL,BD,AX,AC,AA,A7,AU,BM,CQ,DK,G6,AB,EX,↓reduceIte,Nat.reduceEqDiff,oGs,bNt,bNf,D9]
 refine AGP (fun F H=>F 3 = .sl sm 2 (env.map GH)∧F 4 = .ptr h.length 0 0∧F 5 = .ptr vb 0 0∧F 6 = .ptr tb 0 0∧F 8 = .ptr b8 0 0∧F 9 = .ptr b9 0 0∧H=Hb.set vb (.live 4 [cvR po (stO c t).P co (stO c t).C c.sam c.ill])) (fun _ _=>False) ?_ ?_ (fun _ _ hh=>hh.elim)
 ·refine ARK [] [0,1,3] 2 4 [5,6,7,8,9] (by kernel_rfl) trivial ?_
  simp only [OM,List.getElem?_cons_succ,List.getElem?_cons_zero]
  simp -implicitDefEqProofs only [F9,AGW,ACY,D7,List.contains_cons,List.contains_nil,Nat.reduceBEq,Bool.or_false,EH,DX,FC,EM,FQ,EG,AA,A7,BX,BV,BK,AB,lMc,lMn,lAn,↓reduceIte,Nat.reduceEqDiff,Nat.reduceAdd,Nat.add_zero,Nat.zero_add,oGs,enP,L9,L8,v0]
  refine ⟨?_,?_⟩
  ·refine ⟨_,_,da,?_⟩
   simp -implicitDefEqProofs only [F9,AGW,ACY,D7,List.contains_cons,List.contains_nil,Nat.reduceBEq,Bool.or_false,Bool.or_true,EH,DX,EM,KL,EG,AA,A7,BX,EP,BK,AB,lMc,lMn,lAn,↓reduceIte,Nat.reduceEqDiff,Nat.reduceAdd,Nat.add_zero,Nat.zero_add,oGs,enP,L9,Option.getD_none,w1]
   refine ⟨_,_,db,?_⟩
   simp -implicitDefEqProofs only [F9,D7,List.contains_cons,List.contains_nil,Nat.reduceBEq,Bool.or_false,EH,DX,LP,FC,EM,KL,EG,TL,AA,A7,EP,BK,AB,DW,BF,BN,↓reduceIte,Nat.reduceEqDiff,Nat.reduceAdd,Nat.zero_add,oGs,enP,L8,Option.getD_none,st1,st2]
   exact ⟨by first | trivial | rfl,by first | trivial | rfl,by first | trivial | rfl,by first | trivial | rfl,by first | trivial | rfl,by first | trivial | rfl,rfl⟩
  ·simp -implicitDefEqProofs only [F9,AGW,ACY,D7,List.contains_cons,List.contains_nil,Nat.reduceBEq,Bool.or_false,Bool.or_true,EH,DX,EM,KL,EG,AA,A7,BX,EP,BK,AB,lMc,lMn,lAn,↓reduceIte,Nat.reduceEqDiff,Nat.reduceAdd,Nat.add_zero,Nat.zero_add,oGs,enP,L9,Option.getD_none,v1]
   refine ⟨_,_,da,?_⟩
   try simp -implicitDefEqProofs only []
   refine ⟨_,_,db,?_⟩
   simp -implicitDefEqProofs only [F9,D7,List.contains_cons,List.contains_nil,Nat.reduceBEq,Bool.or_false,EH,DX,LP,FC,EM,KL,EG,TL,AA,A7,EP,BK,AB,DW,BF,BN,↓reduceIte,Nat.reduceEqDiff,Nat.reduceAdd,Nat.zero_add,oGs,enP,L8,Option.getD_none,st1,st2]
   exact ⟨by first | trivial | rfl,by first | trivial | rfl,by first | trivial | rfl,by first | trivial | rfl,by first | trivial | rfl,by first | trivial | rfl,rfl⟩
 ·rintro F H ⟨f3,f4,f5,f6,f8,f9,rfl⟩
  clear st1 st2 gv1 v0 v1 w1 da db
  have gm2:(Hb.set vb (.live 4 [cvR po (stO c t).P co (stO c t).C c.sam c.ill]))[h.length]? = _:=CV gm (by omega)
  have gt2:(Hb.set vb (.live 4 [cvR po (stO c t).P co (stO c t).C c.sam c.ill]))[tb]? = _:=CV gt (by omega)
  have g82:(Hb.set vb (.live 4 [cvR po (stO c t).P co (stO c t).C c.sam c.ill]))[b8]? = _:=CV g8 (by omega)
  have g92:(Hb.set vb (.live 4 [cvR po (stO c t).P co (stO c t).C c.sam c.ill]))[b9]? = _:=CV g9 (by omega)
  have gc2:(Hb.set vb (.live 4 [cvR po (stO c t).P co (stO c t).C c.sam c.ill]))[vb]? = _:=EI gv
  have hx2:=hxb.set (b:=vb) (by omega) (.live 4 [cvR po (stO c t).P co (stO c t).C c.sam c.ill])
  have N2:=N.keep (H':=Hb.set vb (.live 4 [cvR po (stO c t).P co (stO c t).C c.sam c.ill])) fun b x hb _ hg=>CV hg (by omega)
  have hl2:(Hb.set vb (.live 4 [cvR po (stO c t).P co (stO c t).C c.sam c.ill])).length=Hb.length:=by simp
  generalize Hb.set vb (.live 4 [cvR po (stO c t).P co (stO c t).C c.sam c.ill])=H2 at gm2 gt2 g82 g92 gc2 hx2 N2 hl2 ⊢
  have S:CS H0.length H2 vb tb po co pb cbs (stO c t).P (stO c t).C c.sam c.ill (.sl t.m 1 (t.last.map encL)):=N2.cs gc2 gt2 (by omega) (fun b hb=>by
   rcases hb with hb | hb
   ·have:=(N2.np.lt hb).1; omega
   ·have:=(N2.nc.lt hb).1; omega)
  have T:TLs H2 (.sl t.m 1 (t.last.map encL)) (stO c t).ls := .inr (.inl ⟨_,_,rfl,RowsL.encL t.last⟩)
  simp -implicitDefEqProofs only [D7,List.contains_cons,List.contains_nil,Nat.reduceBEq,Bool.or_false,BC,BA,A8,AY,AL,BD,AX,AC,AA,A7,BX,BG,BV,BZ,BU,AB,lMc,lMn,lAn,↓reduceIte,Nat.reduceEqDiff,oGs,bNf,enP,D9,f3,f4,f5,f6,ldM gm2]
  refine (ZY G hG hT m hm hg S hok.sh (stO c t).ls hok.ll (fun x hx=>by have:=hok.l7 x hx; omega) T env sm henv hok.sm hok.il).mono ?_
  intro v H' hQ
  unfold AUO at hQ
  rcases hQ with ⟨e,hne,hfst,rfl,hxe⟩ | ⟨hfst,rfl,lb,hlb2,glb,S',hFr⟩
  ·have hbe:(e == 0)=false:=by simpa using hne
   have g8':=EU hxe g82
   have g9':=EU hxe g92
   simp -implicitDefEqProofs only [FT,D7,List.contains_cons,List.contains_nil,Nat.reduceBEq,Bool.or_false,BC,BA,BL,BI,A8,CP,C9,AY,BB,AL,BD,AX,AC,E8,AA,A7,AU,BH,BG,AZ,JE,EP,BR,AB,DW,EJ,↓reduceIte,Nat.reduceEqDiff,oGs,bNf,enP,D9,Option.getD_none,bne,hbe,TM,V7,f8,f9,stZ g8' rfl,VS (CV g9' (show b9≠b8 by omega)) rfl]
   exact hend _ e (by simp -implicitDefEqProofs only [AA,↓reduceIte,Nat.reduceEqDiff,f8]) (by simp -implicitDefEqProofs only [AA,↓reduceIte,Nat.reduceEqDiff,f9]) (by simp -implicitDefEqProofs only [AA,↓reduceIte]) (U4 (by rw [hE]; exact hfst) hne) _ (CV (EI g8') (show b8≠b9 by omega)) (EI (CV g9' (show b9≠b8 by omega))) (((hx2.trans hxe).set (by omega) _).set (by omega) _)
  ·have hpl : ∀ b∈pb,H0.length≤b:=S.np.lo
   have hcl : ∀ b∈cbs,H0.length≤b:=S.nc.lo
   have hhl:=Y.hx.le
   have g8':=hFr.get _ _ g82 (by omega) (by omega) (fun q=>by have:=hpl _ q; omega) (fun q=>by have:=hcl _ q; omega)
   have g9':=hFr.get _ _ g92 (by omega) (by omega) (fun q=>by have:=hpl _ q; omega) (fun q=>by have:=hcl _ q; omega)
   have hx3:=hFr.ext hx2 (by omega) (by omega) (fun b hb=>by have:=hpl _ hb; omega) (fun b hb=>by have:=hcl _ hb; omega)
   have hz:OT m c t env=0:=by rw [hE]; exact hfst
   obtain ⟨st,hst⟩ : ∃ z,z=stp m (stO c t) env:=⟨_,rfl⟩
   have eS:CS H0.length H' vb tb po co pb cbs st.P st.C st.sam st.ill (.own lb 0 m.pts.length):=by rw [hst]; exact S'
   have eL:H'[lb]? = some (.live 1 (st.ls.map J5)):=by rw [hst]; exact glb
   have hsl:st.ls.length=m.pts.length:=by rw [hst]; exact (hok.step env).ll
   have hlt:=CU glb
   simp -implicitDefEqProofs only [D7,List.contains_cons,List.contains_nil,Nat.reduceBEq,Bool.or_false,BC,BA,BO,BI,A8,DU,AY,BB,AL,BD,AX,AC,AA,A7,AU,BH,BG,AZ,BR,AB,EJ,↓reduceIte,oGs,bNt,bNf,enP,D9,bne,beq_self_eq_true]
   refine VK [(6,8)] (by kernel_rfl) ?_ ?_
   ·simp -implicitDefEqProofs only [AA,↓reduceIte,Nat.reduceEqDiff,f6,f8,VM,YP,XP,and_true]
    omega
   simp -implicitDefEqProofs only [F9,D7,List.contains_cons,List.contains_nil,Nat.reduceBEq,Bool.or_false,EH,DX,LP,FC,EM,J8,FQ,KL,BL,A8,AA,A7,AU,BH,BV,EP,AB,DW,↓reduceIte,Nat.reduceEqDiff,Nat.reduceAdd,Nat.zero_add,oGs,enP,Option.getD_none,f5,f6,f8,f9,KN eS.gc rfl,OB eS.gt rfl,AO9 g8' rfl,AHA (v3 := .own lb 0 m.pts.length) (CV g9' (show b9≠b8 by omega)) rfl rfl]
   rw [VI (ba:=b8) (bb:=b9) (by simp -implicitDefEqProofs only [AA,↓reduceIte,Nat.reduceEqDiff,f8]) (by simp -implicitDefEqProofs only [AA,↓reduceIte,Nat.reduceEqDiff,f9]) (KN (CV (EI g8') (show b8≠b9 by omega)) rfl) (OB (EI (CV g9' (show b9≠b8 by omega))) rfl)]
   refine ⟨(hx3.set (by omega) _).set (by omega) _,?_⟩
   have np':NL H0.length ((H'.set b8 (.live 4 [cvR po st.P co st.C st.sam st.ill])).set b9 (.live 1 [[.own lb 0 m.pts.length]])) po pb st.P:=eS.np.keep fun b x hb hg=>by
    have:=eS.np.lt hb
    exact CV (CV hg (by omega)) (by omega)
   have nc':NL H0.length ((H'.set b8 (.live 4 [cvR po st.P co st.C st.sam st.ill])).set b9 (.live 1 [[.own lb 0 m.pts.length]])) co cbs st.C:=eS.nc.keep fun b x hb hg=>by
    have:=eS.nc.lt hb
    exact CV (CV hg (by omega)) (by omega)
   have gl':((H'.set b8 (.live 4 [cvR po st.P co st.C st.sam st.ill])).set b9 (.live 1 [[.own lb 0 m.pts.length]]))[lb]? = _:=CV (CV eL (show lb≠b8 by omega)) (show lb≠b9 by omega)
   have e1:=AKN st np' nc' h.length 0 (by omega)
   have e3:II h.length ((H'.set b8 (.live 4 [cvR po st.P co st.C st.sam st.ill])).set b9 (.live 1 [[.own lb 0 m.pts.length]])) 3 (.own lb 0 m.pts.length) = .sl .any 1 (st.ls.map J5):=by
    generalize (H'.set b8 (.live 4 [cvR po st.P co st.C st.sam st.ill])).set b9 (.live 1 [[.own lb 0 m.pts.length]])=Hz at gl' ⊢
    rw [← hsl]
    exact X4 (d:=1) AVB (by omega) gl'
   unfold XM
   rw [if_pos hz,← hst]
   show AV.tup [II h.length _ 4 (.agg (cvR po st.P co st.C st.sam st.ill)),.agg [II h.length _ 3 (.own lb 0 m.pts.length)],_]=_
   rw [e1,e3]
   simp -implicitDefEqProofs only [AA,↓reduceIte]
   rfl
end
theorem AVS {m:Mo} {s:St} (h:FitS m s):TkOk (tkA s):=⟨(AJH h).num,(AJH h).len⟩
theorem APB (m:Mo) (c:Cvr) (t:Tk) (env:List Sg):TkOk (XN m c t env):=by
 unfold XN
 split
 ·rename_i h
  obtain ⟨h1,h2,h3⟩:=YY h
  exact AVS ((X6 h1 h2).step h3)
 ·exact ALB
theorem AM4 (m:Mo) (c:Cvr) (t:Tk) (env:List Sg):(XN m c t env).last=(AFJ m c t env).last:=by
 unfold XN AFJ
 split <;> rfl
theorem AN1 {a b:List Is} (h:a=b):TC a b=true:=by rw [YB,h]
def UQ (s:Cvr × Tk):List AV:=FZ s.1 ++ IM s.2
theorem AEU (s:Cvr × Tk):(UQ s).length=5:=rfl
theorem A0R (h:Hp) (s:Cvr × Tk):O3 h (.agg (UQ s))=some (.ptr h.length 0 0,h ++ [.live 5 [UQ s]]):=rfl
theorem AU9 {h:Hp} {b:Nat} {s:Cvr × Tk} (hb:h[b]? = some (.live 5 [UQ s])):DZ Tryz.prog h 28 (.ptr b 0 0)=some (.agg (FZ s.1)):=by
 rw [IY AW5 AJI hb rfl (by rw [AEU]; omega)]; rfl
theorem AU8 {h:Hp} {b:Nat} {s:Cvr × Tk} (hb:h[b]? = some (.live 5 [UQ s])):DZ Tryz.prog h 47 (.ptr b 0 4)=some (.agg (IM s.2)):=by
 rw [IY AW4 AM2 hb rfl (by rw [AEU]; omega)]; rfl
section
variable (G:Nat→AV)
set_option maxHeartbeats 1000000 in
theorem AVA (hG:GOk G) (hT:Q5 G) (m:Mo) (hm:MoOk m) (c:Cvr) (hcv:CvOk c) (t:Tk) (ht:TkOk t) (l:List Sg) (sm:SM) (h:Hp) (hl:l.length≤1048576) (hok : ∀ s∈l,AD0 s) :
  PCall (En G) 15 [.agg (EN m),.agg (UQ (c,t)),.sl sm 2 (l.map GH)] h (.bool true):=by
 refine ACalls.pure0 rfl ?_
 refine CB (H:=Hint.none) (enM G) Tryz.func15 rfl (by kernel_rfl) (by kernel_rfl) (nLb (by kernel_rfl)) ?_
 show awp _ _ _ _ _ (EE _ [.tmp 6] _)
 have gm:=CX (x:=ABlk.live 5 [UQ (c,t)]) (CY h (ABlk.live 2 [EN m]))
 have gs:=CY (h ++ [ABlk.live 2 [EN m]]) (ABlk.live 5 [UQ (c,t)])
 have hx:ext h (h ++ [ABlk.live 2 [EN m]] ++ [ABlk.live 5 [UQ (c,t)]]):=((ext.rfl' h).app _).app _
 simp -implicitDefEqProofs only [BC,BA,A8,AY,BB,AO,AQ,AL,BD,AX,AC,AA,A7,AU,BM,AZ,FV,BV,CE,BF,BN,↓reduceIte,Nat.reduceEqDiff,oGs,bNf,enP,bxM,A0R]
 generalize h ++ [ABlk.live 2 [EN m]] ++ [ABlk.live 5 [UQ (c,t)]]=H at gm gs hx ⊢
 generalize (h ++ [ABlk.live 2 [EN m]]).length=sb at gs ⊢
 simp -implicitDefEqProofs only [AY,AO,AQ,AL,BD,AX,AC,AA,A7,BX,BZ,BU,AB,lMc,lMn,lAn,↓reduceIte,oGs,bNf,ldM gm]
 refine (Rk.small_some G m hm H).use ?_
 intro b
 cases b
 ·simp -implicitDefEqProofs only [BC,BA,BI,A8,C9,AY,BB,BJ,BP,CO,FK,AO,AQ,AL,BD,AX,AC,AA,EQ,A7,AU,BX,BM,BG,CQ,DN,G6,BZ,BU,AB,EX,lMn,lAn,↓reduceIte,Nat.reduceEqDiff,oGs,bNf]
  refine (AGQ G hG hT H).use ?_
  simp -implicitDefEqProofs only [BL,A8,CP,CJ,AY,BB,AO,AQ,AL,BD,AX,AC,AA,A7,AZ,↓reduceIte,oGs,bNf]
  exact ⟨by first | trivial | rfl,hx⟩
 simp -implicitDefEqProofs only [BI,A8,AY,BB,BJ,BP,CO,EK,AO,AQ,AL,BD,AX,AC,AA,A7,AU,BH,BM,BG,CQ,DK,BR,G6,D6,AB,EZ,EX,BF,BN,↓reduceIte,Nat.reduceEqDiff,oGs,bNt,bNf,enP,AWA,lLm]
 rcases Bool.eq_false_or_eq_true (decide (((l.length:Nat):Int) > 20)) with h1 | h1
 ·simp -implicitDefEqProofs only [BC,BA,C9,AY,AO,AQ,AL,BD,AX,BX,BZ,BU,lMn,lAn,oGs,bNf,h1]
  refine (AGQ G hG hT H).use ?_
  simp -implicitDefEqProofs only [BL,A8,CP,CJ,AY,BB,AO,AQ,AL,BD,AX,AC,AA,A7,AZ,↓reduceIte,oGs,bNf]
  exact ⟨by first | trivial | rfl,hx⟩
 simp -implicitDefEqProofs only [BC,BA,BO,A8,DU,AY,AO,AQ,AL,BD,AX,AC,AA,A7,BX,BG,BV,BK,BZ,BU,AB,BF,BN,lMc,lMn,lAn,↓reduceIte,Nat.reduceEqDiff,Nat.add_zero,Nat.zero_add,oGs,bNf,enP,AQJ,AQI,h1,ldM gm,AU9 gs,AU8 gs]
 refine (AI9 G hG hT m hm c hcv t ht l sm H (by omega)).use ?_
 obtain ⟨s1,s2,g7,g8,hx5⟩:=AYD H (AAR m c t l) (XN m c t l)
 have gm1:=EU hx5 gm
 have gs1:=EU hx5 gs
 have hx1:=hx.trans hx5
 simp -implicitDefEqProofs only [List.getElem?_cons_zero,List.getElem?_cons_succ,BC,BA,A8,AY,BB,AO,AQ,AL,BD,AX,AC,E8,AA,A7,BG,AZ,GG,BV,EP,FW,IB,CE,AB,DW,↓reduceIte,Nat.reduceEqDiff,oGs,bNf,enP,Option.getD_none,SB,ADY,s1,s2]
 generalize ((H ++ [ABlk.live 4 [F5]] ++ [ABlk.live 1 [F8]]).set H.length (ABlk.live 4 [FZ (AAR m c t l)])).set (H ++ [ABlk.live 4 [F5]]).length (ABlk.live 1 [IM (XN m c t l)])=H1 at g7 g8 gm1 gs1 hx1 ⊢
 generalize (H ++ [ABlk.live 4 [F5]]).length=b8 at g8 ⊢
 generalize H.length=b7 at g7 ⊢
 clear s1 s2 hx5 gm gs hx
 simp -implicitDefEqProofs only [AY,AO,AQ,AL,BD,AX,AC,AA,A7,BX,BG,BV,BK,BZ,BU,AB,BF,BN,lMc,lMn,lAn,↓reduceIte,Nat.reduceEqDiff,Nat.add_zero,Nat.zero_add,oGs,bNf,enP,AQJ,AQI,ldM gm1,AU9 gs1,AU8 gs1]
 refine (AK6 G m hm c hcv t ht l sm H1 (by omega) hok).use ?_
 obtain ⟨s1,s2,k7,k8,hx5⟩:=AYD H1 (AAR m c t l) (AFJ m c t l)
 have g72:=EU hx5 g7
 have g82:=EU hx5 g8
 have hx2:=hx1.trans hx5
 simp -implicitDefEqProofs only [List.getElem?_cons_zero,List.getElem?_cons_succ,BC,BA,A8,AY,BB,AO,AQ,AL,BD,AX,AC,E8,AA,A7,BG,AZ,GG,BV,EP,FW,IB,CE,AB,DW,↓reduceIte,Nat.reduceEqDiff,oGs,bNf,enP,Option.getD_none,SB,ADY,s1,s2]
 generalize ((H1 ++ [ABlk.live 4 [F5]] ++ [ABlk.live 1 [F8]]).set H1.length (ABlk.live 4 [FZ (AAR m c t l)])).set (H1 ++ [ABlk.live 4 [F5]]).length (ABlk.live 1 [IM (AFJ m c t l)])=H2 at g72 g82 k7 k8 hx2 ⊢
 generalize (H1 ++ [ABlk.live 4 [F5]]).length=b11 at k8 ⊢
 generalize H1.length=b10 at k7 ⊢
 simp -implicitDefEqProofs only [AY,AO,AQ,AL,BD,AX,AC,AA,A7,BX,BV,BZ,BU,AB,lMc,lMn,lAn,↓reduceIte,Nat.reduceEqDiff,oGs,bNf,enP,ldV g72,ldV k7]
 refine (AV1 G _ _ H2 (ALM m c t l) (ALM m c t l)).use ?_
 rw [AQN]
 simp -implicitDefEqProofs only [AY,BJ,BP,CO,FY,AO,AQ,AL,BD,AX,AC,AA,A7,BX,BG,BV,BZ,BU,AB,lMc,lMn,lAn,↓reduceIte,Nat.reduceEqDiff,oGs,bNf,enP,ldT g82,ldT k8]
 refine (AD1 G _ _ (APB m c t l) (ASL m c t l) H2).use ?_
 rw [AN1 (AM4 m c t l)]
 simp -implicitDefEqProofs only [AY,BJ,BP,CO,FY,AO,AQ,AL,BD,AX,AC,AA,A7,AU,BX,BM,BG,CQ,DN,BR,BZ,BU,AB,DY,lMn,lAn,↓reduceIte,Nat.reduceEqDiff,oGs,bNf,enP,beq_self_eq_true]
 refine (AGQ G hG hT H2).use ?_
 simp -implicitDefEqProofs only [BL,A8,CJ,AY,BB,AO,AQ,AL,BD,AX,AC,AA,A7,AU,BM,AZ,CQ,DN,↓reduceIte,Nat.reduceEqDiff,oGs,bNf]
 exact ⟨by first | trivial | rfl,hx2⟩
end
end Go.Proofs.YtocilianjfhifaaGreatDoor.Xe
namespace Go.Proofs.YtocilianjfhifaaGreatDoor.Xe
open Sm Bins Cov Go.RowKit
theorem A02:Tryz.prog.cellsOf 89=5:=by kernel_rfl
def AX1 (s:Cvr × Tk) (b:Nat):Prop := ∃ b1 b2,b1+b2≤b∧okV s.1 b1∧AV7 s.2 b2
theorem AXW:Rd Tryz.prog 89 UQ AX1:=by
 intro n
 match n with
 | 0=>exact RdAt.zero
 | 1=>exact WH Tryz.underlying89
 | n+2 =>
   refine RdAt.map (fun x:Cvr × Tk × Unit=>((x.1,x.2.1):Cvr × Tk)) (LY Tryz.underlying89 (HY rfl A0N ACN (rdV _) (HY rfl A0M ACO (AZ8 _) O5))) (fun x=>rfl) ?_
   rintro ⟨a,b,_⟩ N ⟨_,hN,b1,b2,hb,h1,b3,b4,hb2,h2,_⟩
   exact ⟨b1,b3,by omega,h1,h2⟩
theorem AZW {s:Cvr × Tk} {b:Nat} (h:AX1 s b) (hb:b≤1048576):CvOk s.1∧TkOk s.2:=by
 obtain ⟨b1,b2,h0,h1,h2⟩:=h
 exact ⟨AT2 h1 (by omega),ASE h2 (by omega)⟩
end Go.Proofs.YtocilianjfhifaaGreatDoor.Xe
