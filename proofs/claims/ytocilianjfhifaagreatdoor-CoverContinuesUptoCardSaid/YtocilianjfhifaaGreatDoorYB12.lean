/- Part 12 of the proof (X13, X14, X15, X16, X17, X19, X20, X21, X22, X23, Kz, X24, X27); no condition. -/
import Derived.Test.YtocilianjfhifaaGreatDoorYB11
set_option linter.unusedVariables false
set_option linter.unusedSimpArgs false
set_option maxRecDepth 8000
namespace Go.Proofs.YtocilianjfhifaaGreatDoor.Xe
open Sm Bins Cov Wd Go.RowKit
def NLB (o:Nat) (bs:List Nat) (xss:List (List Int)) (b:Nat):Prop:=(xss≠[]∧b=o)∨b∈bs
theorem NL.lt {n0:Nat} {H:Hp} {o:Nat} {bs:List Nat} {xss:List (List Int)} (N:NL n0 H o bs xss) {b:Nat} (hb:NLB o bs xss b):n0≤b∧b < H.length:=by
 rcases hb with ⟨h,rfl⟩ | h
 ·exact ⟨N.lo' h,N.top_lt h⟩
 ·exact ⟨N.lo _ h,N.mem_lt h⟩
theorem NL.base {n0 k:Nat} {H:Hp} {o:Nat} {bs:List Nat} {xss:List (List Int)} (N:NL n0 H o bs xss) (h:k≤n0):NL k H o bs xss :=
 ⟨N.len,N.top,N.row,N.nodup,N.out,fun b hb=>Nat.le_trans h (N.lo b hb),fun q=>Nat.le_trans h (N.lo' q)⟩
theorem AEA {o:Nat} {bs:List Nat} {xss:List (List Int)} {q:Nat} (h:isB (nlV o xss) q):NLB o bs xss q := .inl (AC6 h)
theorem AGZ {o t b:Nat} {bs:List Nat} {xss:List (List Int)} {xs:List Int} {q:Nat} (h:NLB t (bs ++ [b]) (xss ++ [xs]) q):q=t∨NLB o bs xss q∨q=b:=by
 rcases h with ⟨_,rfl⟩ | h
 ·exact .inl rfl
 ·rcases List.mem_append.1 h with h | h
  ·exact .inr (.inl (.inr h))
  ·exact .inr (.inr (by simpa using h))
def zP (m:Mo):List (List Int):=m.pts.map fun p=>zeros p.bins.length
def zC (m:Mo):List (List Int):=m.crs.map fun c=>zeros (I4 (szs m c.pts))
theorem AG4 (m:Mo):(zP m).length=m.pts.length:=by simp [zP]
theorem AG5 (m:Mo):(zC m).length=m.crs.length:=by simp [zC]
theorem AP7 (m:Mo) (i:Nat) (hi:i < m.pts.length):(zP m).take (i+1)=(zP m).take i ++ [zeros m.pts[i].bins.length]:=by
 have hl:i < (zP m).length:=by unfold zP; simpa using hi
 rw [List.take_succ_eq_append_getElem hl]; simp [zP]
theorem AP8 (m:Mo) (i:Nat) (hi:i < m.crs.length):(zC m).take (i+1)=(zC m).take i ++ [zeros (I4 (szs m m.crs[i].pts))]:=by
 have hl:i < (zC m).length:=by unfold zC; simpa using hi
 rw [List.take_succ_eq_append_getElem hl]; simp [zC]
theorem ABB (n:Nat):(zeros n).length=n:=by simp [zeros]
structure NC (n0:Nat) (H:Hp) (po:Nat) (pb:List Nat) (co:Nat) (cbs:List Nat) (P C:List (List Int)):Prop where
 np:NL n0 H po pb P
 nc:NL n0 H co cbs C
 dis : ∀ b,NLB po pb P b→¬ NLB co cbs C b
theorem NC.keep {n0:Nat} {H H':Hp} {po:Nat} {pb:List Nat} {co:Nat} {cbs:List Nat} {P C:List (List Int)} (N:NC n0 H po pb co cbs P C) (hk : ∀ b x,n0≤b→b < H.length→H[b]? = some x→H'[b]? = some x):NC n0 H' po pb co cbs P C :=
 ⟨N.np.keep fun b x hb h=>hk b x (N.np.lt hb).1 (N.np.lt hb).2 h,N.nc.keep fun b x hb h=>hk b x (N.nc.lt hb).1 (N.nc.lt hb).2 h,N.dis⟩
theorem NC.base {n0 k:Nat} {H:Hp} {po:Nat} {pb:List Nat} {co:Nat} {cbs:List Nat} {P C:List (List Int)} (N:NC n0 H po pb co cbs P C) (h:k≤n0):NC k H po pb co cbs P C:=⟨N.np.base h,N.nc.base h,N.dis⟩
theorem NC.cs {n0:Nat} {H:Hp} {po:Nat} {pb:List Nat} {co:Nat} {cbs:List Nat} {P C:List (List Int)} (N:NC n0 H po pb co cbs P C) {cb tb:Nat} {sam ill:Int} {v3:AV} (gc:H[cb]? = some (.live 4 [cvR po P co C sam ill])) (gt:H[tb]? = some (.live 1 [[v3]])) (ht:cb≠tb)
  (hc : ∀ b,NLB po pb P b∨NLB co cbs C b→b≠cb∧b≠tb):CS n0 H cb tb po co pb cbs P C sam ill v3:=by
 refine ⟨gc,gt,N.np,N.nc,fun b h1 h2=>N.dis b (.inr h1) (.inr h2),fun h=>(hc _ (.inl (.inr h))).1 rfl,fun h=>(hc _ (.inr (.inr h))).1 rfl,fun h=>(hc _ (.inl (.inr h))).2 rfl,fun h=>(hc _ (.inr (.inr h))).2 rfl,fun h=>⟨fun q=>N.dis _ (.inl ⟨h,rfl⟩) (.inr q),?_,?_⟩,fun h=>⟨fun q=>N.dis _ (.inr q) (.inl ⟨h,rfl⟩),?_,?_⟩,ht⟩
 ·exact fun e=>(hc _ (.inl (.inl ⟨h,rfl⟩))).1 e.symm
 ·exact fun e=>(hc _ (.inl (.inl ⟨h,rfl⟩))).2 e.symm
 ·exact fun e=>(hc _ (.inr (.inl ⟨h,rfl⟩))).1 e.symm
 ·exact fun e=>(hc _ (.inr (.inl ⟨h,rfl⟩))).2 e.symm
structure EmO (h H:Hp) (m:Mo) (po:Nat) (pb:List Nat) (co:Nat) (cbs:List Nat) (v3:AV):Prop where
 nc:NC h.length H po pb co cbs (zP m) (zC m)
 o3:outG 1 (fun _:Pt=>E8) h m.pts v3 H
set_option maxHeartbeats 4000000 in
theorem ALX (G:Nat→AV) (m:Mo) (hm:MoOk m) (hg:Cov.Good m) (h:Hp):ACalls (En G) 127 [.agg (EC m)] h fun v H=>ext h H∧∃ po pb co cbs v3,v = .tup [.agg (IW (nlV po (zP m)) (nlV co (zC m))),.agg [v3]]∧EmO h H m po pb co cbs v3:=by
 have hm1:=hm.np
 have hm2:=hm.nc
 have hnum:=hg.num
 refine CE (H:=hint [22,23,24,45,46,47] []) (enM G) Tryz.func127 rfl (by kernel_rfl) (by kernel_rfl) (nLb (by kernel_rfl)) ?_
 show awp _ _ _ _ _ (D9 _ [.cell 2 28,.cell 3 47] _)
 have E:=Em.mk' h m
 simp -implicitDefEqProofs only [CY,List.contains_cons,List.contains_nil,Nat.reduceBEq,Bool.or_false,BC,BA,A8,AY,BB,AL,BD,AX,AC,AA,AZ,EZ,FX,BQ,BM,BX,AB,BF,↓reduceIte,Nat.reduceEqDiff,Nat.add_zero,oGs,bNf,enP,LP,CZ,bxM,NQ,XB]
 generalize h ++ [ABlk.live 2 [EC m]] ++ [ABlk.live 4 [FD]] ++ [ABlk.live 1 [E8]] ++ [ABlk.live 4 [FD]] ++ [ABlk.live 1 [E8]]=H0 at E ⊢
 generalize (h ++ [ABlk.live 2 [EC m]] ++ [ABlk.live 4 [FD]] ++ [ABlk.live 1 [E8]] ++ [ABlk.live 4 [FD]]).length=b5 at E ⊢
 generalize (h ++ [ABlk.live 2 [EC m]] ++ [ABlk.live 4 [FD]] ++ [ABlk.live 1 [E8]]).length=b4 at E ⊢
 generalize (h ++ [ABlk.live 2 [EC m]] ++ [ABlk.live 4 [FD]]).length=b3 at E ⊢
 generalize (h ++ [ABlk.live 2 [EC m]]).length=b2 at E ⊢
 have o2:=E.o2; have o3:=E.o3; have o4:=E.o4; have o5:=E.o5
 have hlt0:=E.lt
 simp -implicitDefEqProofs only [CY,List.contains_cons,List.contains_nil,Nat.reduceBEq,Bool.or_false,BV,A8,AY,BB,AL,BD,AX,AC,AA,AZ,AU,BI,BG,D8,AB,↓reduceIte,oGs,bNf,enP,UY,CZ,E.m0,lLm]
 refine JJ 0 (fun F H => ∃ po pb v3,F 1 = .ptr h.length 0 0∧F 2 = .ptr b2 0 0∧F 3 = .ptr b3 0 0∧F 4 = .ptr b4 0 0∧F 5 = .ptr b5 0 0∧Em h H m b2 b3 b4 b5 (nlV po (zP m)) (.sl .nil 0 []) v3∧NL H0.length H po pb (zP m)∧outG 1 (fun _:Pt=>E8) H0 m.pts v3 H∧(∀ b,NLB po pb (zP m) b→¬ isB v3 b)∧H0.length≤H.length) (fun _ _=>False) ?_ ?_ (fun _ _ hh=>hh.elim)
 ·refine DY (fun n F H => ∃ i po pb v3,n+i=m.pts.length∧F 1 = .ptr h.length 0 0∧F 2 = .ptr b2 0 0∧F 3 = .ptr b3 0 0∧F 4 = .ptr b4 0 0∧F 5 = .ptr b5 0 0∧F 11 = .sl m.pm 6 (m.pts.map FO)∧F 12 = .int .i64 m.pts.length∧F 13 = .int .i64 (i:Nat)∧Em h H m b2 b3 b4 b5 (nlV po ((zP m).take i)) (.sl .nil 0 []) v3∧NL H0.length H po pb ((zP m).take i)∧outG 1 (fun _:Pt=>E8) H0 (m.pts.take i) v3 H∧(∀ b,NLB po pb ((zP m).take i) b→¬ isB v3 b)∧H0.length≤H.length) m.pts.length
   ⟨0,0,[],.sl .nil 0 [],by simp,by simp -implicitDefEqProofs only [AA,↓reduceIte,Nat.reduceEqDiff],by simp -implicitDefEqProofs only [AA,↓reduceIte,Nat.reduceEqDiff],by simp -implicitDefEqProofs only [AA,↓reduceIte,Nat.reduceEqDiff],by simp -implicitDefEqProofs only [AA,↓reduceIte,Nat.reduceEqDiff],by simp -implicitDefEqProofs only [AA,↓reduceIte,Nat.reduceEqDiff],by simp -implicitDefEqProofs only [AA,↓reduceIte,Nat.reduceEqDiff],by simp -implicitDefEqProofs only [AA,↓reduceIte,Nat.reduceEqDiff],by simp -implicitDefEqProofs only [AA,↓reduceIte]; rfl,by rw [List.take_zero]; exact E,by rw [List.take_zero]; exact NL.nil _ _ _,by rw [List.take_zero]; exact outG.nil _ _ _ _,fun b _ hb'=>hb',Nat.le_refl _⟩ ?_
  clear E
  rintro n F H ⟨i,po,pb,v3,hi,f1,f2,f3,f4,f5,f11,f12,f13,E,N,ho3,hdis,hle⟩
  simp -implicitDefEqProofs only [CY,List.contains_cons,List.contains_nil,Nat.reduceBEq,Bool.or_false,BC,BA,BL,A8,AY,BB,AL,BD,AX,AC,AA,AZ,BU,AB,DT,↓reduceIte,oGs,bNf,enP,CZ,f12,f13]
  refine DC (fun hc => ?_) (fun hc => ?_)
  ·have hi':i < m.pts.length:=by simpa using hc
   have h64:=(hg.full _ (List.getElem_mem hi')).2
   have hP:=AP7 m i hi'
   have hzl:=ABB m.pts[i].bins.length
   have htl:((zP m).take i).length≤1048576:=by rw [List.length_take,AG4]; omega
   simp -implicitDefEqProofs only [CY,List.contains_cons,List.contains_nil,Nat.reduceBEq,Bool.or_false,BC,BV,BA,BR,A8,AY,BB,AL,BD,AX,AC,EM,AA,AZ,EZ,BQ,D6,CV,BX,AB,DI,↓reduceIte,Nat.reduceEqDiff,oGs,bNf,enP,UZ,CZ,Option.getD_none,f11,f13,EF hi',FK AA9 X8 II hi',APS,AM7 _ _ [.str ⟨#[]⟩,.int .i64 0,.int .i64 0,.str ⟨#[]⟩,.sl .nil 0 [],.sl .nil 0 []] rfl]
   have hl1:(H ++ [ABlk.live 6 [FO m.pts[i]]]).length=H.length+1:=by simp
   have E1:=E.app [.live 6 [FO m.pts[i]]]
   have N1:=N.app [.live 6 [FO m.pts[i]]]
   have ho1:=ho3.app [.live 6 [FO m.pts[i]]]
   have lp:DL Tryz.prog (H ++ [ABlk.live 6 [FO m.pts[i]]]) 54 (.ptr H.length 0 5)=some (.sl m.pts[i].bm 4 (m.pts[i].bins.map F6)):=by rw [DJ V5,PP]
   generalize H ++ [ABlk.live 6 [FO m.pts[i]]]=Ha at hl1 E1 N1 ho1 lp ⊢
   have N2:=(N1.app [.live 1 ((zeros m.pts[i].bins.length).map encI)]).app [.live 1 [[.own Ha.length 0 m.pts[i].bins.length]]]
   have E2:=(E1.app [.live 1 ((zeros m.pts[i].bins.length).map encI)]).app [.live 1 [[.own Ha.length 0 m.pts[i].bins.length]]]
   have ho2:=(ho1.app [.live 1 ((zeros m.pts[i].bins.length).map encI)]).app [.live 1 [[.own Ha.length 0 m.pts[i].bins.length]]]
   have gb:=CJ (x:=ABlk.live 1 [[.own Ha.length 0 m.pts[i].bins.length]]) (C9 Ha (ABlk.live 1 ((zeros m.pts[i].bins.length).map encI)))
   have gt:=C9 (Ha ++ [ABlk.live 1 ((zeros m.pts[i].bins.length).map encI)]) (ABlk.live 1 [[.own Ha.length 0 m.pts[i].bins.length]])
   have hl2:(Ha ++ [ABlk.live 1 ((zeros m.pts[i].bins.length).map encI)] ++ [ABlk.live 1 [[.own Ha.length 0 m.pts[i].bins.length]]]).length=Ha.length+2:=by simp
   refine F7 (by kernel_rfl) ?_
   simp -implicitDefEqProofs only [GR,FI,FQ,CY,List.contains_cons,List.contains_nil,Nat.reduceBEq,Bool.or_false,Bool.or_true,EU,D7,EW,JX,F9,PK,FB,LV,AA,AZ,EE,BQ,LX,BM,D8,H9,BX,AB,↓reduceIte,Nat.reduceEqDiff,Nat.reduceAdd,Nat.add_zero,Nat.zero_add,oGs,enP,N8,ZI,LM,f4,E1.l4,lp,lLm,mkI _ _ (show m.pts[i].bins.length≤1048576 by omega),ADX]
   generalize Ha ++ [ABlk.live 1 ((zeros m.pts[i].bins.length).map encI)] ++ [ABlk.live 1 [[.own Ha.length 0 m.pts[i].bins.length]]]=Hb at N2 E2 ho2 gb gt hl2 ⊢
   generalize (Ha ++ [ABlk.live 1 ((zeros m.pts[i].bins.length).map encI)]).length=tb at gt ⊢
   obtain ⟨H2,hap,N3,hk,hl3,hx3⟩:=N2.snoc gb (by omega) (by omega) (fun q=>by have:=N.mem_lt q; omega) (fun q e=>by have:=N.top_lt q; omega) (by rw [hzl]; exact gt) htl
   rw [← hP] at N3 hap
   have hne:(zP m).take (i+1)≠[]:=by rw [hP]; simp
   have E3:=E2.keep hk (fun b hb=>by
    obtain ⟨q,rfl⟩:=AC6 hb
    have:=N.lo' q; omega) (hx3 h (by omega))
   rw [QU _ hne] at hap
   refine JC hap ?_
   have E4:=E3.set4 (.own Hb.length 0 ((zP m).take (i+1)).length) (.sl .nil 0 [])
   have ho4:=(ho2.keepA hk (fun b hb hb'=>hdis b (AEA hb') hb)).setB (b:=b4) (by omega) (.live 4 [IW (.own Hb.length 0 ((zP m).take (i+1)).length) (.sl .nil 0 [])])
   have N4:NL H0.length (H2.set b4 (.live 4 [IW (.own Hb.length 0 ((zP m).take (i+1)).length) (.sl .nil 0 [])])) Hb.length (pb ++ [Ha.length]) ((zP m).take (i+1)):=N3.keep fun b x hb hg=>CU hg (by have:=N3.lt hb; omega)
   have hl4:(H2.set b4 (.live 4 [IW (.own Hb.length 0 ((zP m).take (i+1)).length) (.sl .nil 0 [])])).length=H2.length:=by simp
   simp -implicitDefEqProofs only [GR,CY,List.contains_cons,List.contains_nil,Nat.reduceBEq,Bool.or_false,EU,D7,JW,FZ,EW,JK,FB,BA,A8,AY,AL,BD,AX,AA,AZ,D6,BM,AB,DI,↓reduceIte,Nat.reduceEqDiff,Nat.reduceAdd,Nat.add_zero,Nat.zero_add,oGs,bNf,enP,N8,CZ,Option.getD_none,f4,E3.s4]
   generalize H2.set b4 (.live 4 [IW (.own Hb.length 0 ((zP m).take (i+1)).length) (.sl .nil 0 [])])=H4 at E4 ho4 N4 hl4 ⊢
   obtain ⟨v3',H5,hap3,ho5,hk3,hl5,hn3,⟨o3',l3,rfl⟩,hx5⟩:=ho4.app2 AG9 YZ AKK AIM (by omega) (by rw [List.length_take]; omega) (by omega) m.pts[i]
   rw [← List.take_succ_eq_append_getElem hi'] at ho5
   have E5:=E4.keep hk3 (fun b hb=>by have:=ho4.lt hb; omega) (hx5 h (by omega))
   have E6:=E5.set5 (.own o3' 0 l3)
   have ho6:=ho5.setB (b:=b5) (by omega) (.live 1 [[.own o3' 0 l3]])
   have N5:NL H0.length (H5.set b5 (.live 1 [[.own o3' 0 l3]])) Hb.length (pb ++ [Ha.length]) ((zP m).take (i+1)):=N4.keep fun b x hb hg=>CU (hk3 b x hg (fun q=>by
    rw [hP] at hb
    rcases AGZ (o:=po) hb with rfl | hb | rfl
    ·have:=ho3.lt q; omega
    ·exact hdis _ hb q
    ·have:=ho3.lt q; omega)) (by have:=N4.lt hb; omega)
   simp -implicitDefEqProofs only [FI,FQ,CY,List.contains_cons,List.contains_nil,Nat.reduceBEq,Bool.or_false,AY,AL,BD,AX,AC,AA,AZ,AU,JS,EE,BQ,H9,BX,AB,↓reduceIte,Nat.reduceEqDiff,Nat.add_zero,oGs,bNf,enP,SC,CZ,f5,E4.l5,ATO]
   refine JC (v := .own o3' 0 l3) (h:=H5) hap3 ?_
   simp -implicitDefEqProofs only [CY,List.contains_cons,List.contains_nil,Nat.reduceBEq,Bool.or_false,BA,A8,EP,FC,AY,BB,AL,BD,AX,AC,EM,AA,AZ,AU,BI,BG,D6,BU,BM,AB,DI,DV,↓reduceIte,Nat.reduceEqDiff,Nat.add_zero,oGs,bNf,enP,SC,CZ,Option.getD_none,f5,E5.s5,f13,wrap_succ (show i < 9223372036854775807 by omega)]
   rw [← QU _ hne] at E6
   exact ⟨n - 1,by omega,i+1,Hb.length,_,.own o3' 0 l3,by omega,by first | trivial | exact f1,by first | trivial | exact f2,by first | trivial | exact f3,by first | trivial | exact f4,by first | trivial | exact f5,by first | trivial | exact f11,by first | trivial | exact f12,by first | trivial | rfl,E6,N5,ho6,fun b hb hb'=>by
    have h1:=hn3 b hb'
    have h2:=N4.lt hb
    omega,by rw [List.length_set]; omega⟩
  ·have hi' : ¬ i < m.pts.length:=by simpa using hc
   rw [List.take_of_length_le (by rw [AG4]; omega)] at N E hdis
   rw [List.take_of_length_le (by omega)] at ho3
   simp -implicitDefEqProofs only [DW,ER,O1,FM,AA,↓reduceIte,Nat.reduceEqDiff]
   exact ⟨po,pb,v3,f1,f2,f3,f4,f5,E,N,ho3,hdis,hle⟩
 ·rintro F H ⟨po,pb,v3,f1,f2,f3,f4,f5,E,N,ho3,hdis,hle⟩
  simp -implicitDefEqProofs only [CY,List.contains_cons,List.contains_nil,Nat.reduceBEq,Bool.or_false,BC,BV,BA,A8,FN,AY,BB,AL,BD,AX,AC,AA,AZ,AU,BI,BG,BQ,BM,D8,AB,↓reduceIte,Nat.zero_add,oGs,bNf,enP,AA1,N9,CZ,f1,E.m1,lLm]
  refine JJ 2 (fun F H => ∃ co cbs,F 2 = .ptr b2 0 0∧F 3 = .ptr b3 0 0∧F 4 = .ptr b4 0 0∧F 5 = .ptr b5 0 0∧Em h H m b2 b3 b4 b5 (nlV po (zP m)) (nlV co (zC m)) v3∧NC H0.length H po pb co cbs (zP m) (zC m)∧outG 1 (fun _:Pt=>E8) H0 m.pts v3 H) (fun _ _=>False) ?_ ?_ (fun _ _ hh=>hh.elim)
  ·refine DY (fun n F H => ∃ i co cbs,n+i=m.crs.length∧F 1 = .ptr h.length 0 0∧F 2 = .ptr b2 0 0∧F 3 = .ptr b3 0 0∧F 4 = .ptr b4 0 0∧F 5 = .ptr b5 0 0∧F 33 = .sl m.cm 3 (m.crs.map F5)∧F 34 = .int .i64 m.crs.length∧F 35 = .int .i64 (i:Nat)∧Em h H m b2 b3 b4 b5 (nlV po (zP m)) (nlV co ((zC m).take i)) v3∧NL H0.length H po pb (zP m)∧NL H0.length H co cbs ((zC m).take i)∧outG 1 (fun _:Pt=>E8) H0 m.pts v3 H∧(∀ b,NLB co cbs ((zC m).take i) b→¬ NLB po pb (zP m) b∧¬ isB v3 b)∧H0.length≤H.length) m.crs.length
    ⟨0,0,[],by simp,by simp -implicitDefEqProofs only [AA,↓reduceIte,Nat.reduceEqDiff,f1],by simp -implicitDefEqProofs only [AA,↓reduceIte,Nat.reduceEqDiff,f2],by simp -implicitDefEqProofs only [AA,↓reduceIte,Nat.reduceEqDiff,f3],by simp -implicitDefEqProofs only [AA,↓reduceIte,Nat.reduceEqDiff,f4],by simp -implicitDefEqProofs only [AA,↓reduceIte,Nat.reduceEqDiff,f5],by simp -implicitDefEqProofs only [AA,↓reduceIte,Nat.reduceEqDiff],by simp -implicitDefEqProofs only [AA,↓reduceIte,Nat.reduceEqDiff],by simp -implicitDefEqProofs only [AA,↓reduceIte]; rfl,by rw [List.take_zero]; exact E,N,by rw [List.take_zero]; exact NL.nil _ _ _,ho3,(fun b hb=>by
     rcases hb with ⟨q,_⟩ | q
     ·exact absurd rfl q
     ·cases q),hle⟩ ?_
   clear f1 f2 f3 f4 f5 E N ho3 hdis hle
   rintro n F H ⟨i,co,cbs,hi,f1,f2,f3,f4,f5,f33,f34,f35,E,NP,N,ho3,hdis,hle⟩
   simp -implicitDefEqProofs only [CY,List.contains_cons,List.contains_nil,Nat.reduceBEq,Bool.or_false,BC,BA,BL,A8,AY,BB,AL,BD,AX,AC,AA,AZ,BU,AB,DT,↓reduceIte,oGs,bNf,enP,CZ,f34,f35]
   refine DC (fun hc => ?_) (fun hc => ?_)
   ·have hi':i < m.crs.length:=by simpa using hc
    have hcg:=hg.crs _ (List.getElem_mem hi')
    have hfs:=hg.full.szs hcg.here
    have hsl:=VE m m.crs[i].pts
    have hfour:=hcg.four
    have hpr:=hcg.prod
    have hC:=AP8 m i hi'
    have hzl:=ABB (I4 (szs m m.crs[i].pts))
    have htl:((zC m).take i).length≤1048576:=by rw [List.length_take,AG5]; omega
    simp -implicitDefEqProofs only [CY,List.contains_cons,List.contains_nil,Nat.reduceBEq,Bool.or_false,BC,BV,BA,BR,A8,AY,BB,AL,BD,AX,AC,EM,AA,AZ,EZ,BQ,D6,CV,BX,AB,DI,↓reduceIte,Nat.reduceEqDiff,oGs,bNf,enP,AFO,CZ,Option.getD_none,f33,f35,EF hi',FK AGV AAX J8 hi',APR,AM6 _ _ [.str ⟨#[]⟩,.sl .nil 0 [],.sl .nil 0 []] rfl]
    have hl1:(H ++ [ABlk.live 3 [F5 m.crs[i]]]).length=H.length+1:=by simp
    have E1:=E.app [.live 3 [F5 m.crs[i]]]
    have N1:=N.app [.live 3 [F5 m.crs[i]]]
    have NP1:=NP.app [.live 3 [F5 m.crs[i]]]
    have ho1:=ho3.app [.live 3 [F5 m.crs[i]]]
    have gc1:=C9 H (.live 3 [F5 m.crs[i]])
    generalize H ++ [ABlk.live 3 [F5 m.crs[i]]]=Ha at hl1 E1 N1 NP1 ho1 gc1 ⊢
    generalize hpn:I4 (szs m m.crs[i].pts)=pn at hC hzl hpr
    have N2:=(N1.app [.live 1 ((zeros pn).map encI)]).app [.live 1 [[.own Ha.length 0 pn]]]
    have NP2:=(NP1.app [.live 1 ((zeros pn).map encI)]).app [.live 1 [[.own Ha.length 0 pn]]]
    have E2:=(E1.app [.live 1 ((zeros pn).map encI)]).app [.live 1 [[.own Ha.length 0 pn]]]
    have ho2:=(ho1.app [.live 1 ((zeros pn).map encI)]).app [.live 1 [[.own Ha.length 0 pn]]]
    have gb:=CJ (x:=ABlk.live 1 [[.own Ha.length 0 pn]]) (C9 Ha (ABlk.live 1 ((zeros pn).map encI)))
    have gt:=C9 (Ha ++ [ABlk.live 1 ((zeros pn).map encI)]) (ABlk.live 1 [[.own Ha.length 0 pn]])
    have hl2:(Ha ++ [ABlk.live 1 ((zeros pn).map encI)] ++ [ABlk.live 1 [[.own Ha.length 0 pn]]]).length=Ha.length+2:=by simp
    refine F7 (by kernel_rfl) ?_
    simp -implicitDefEqProofs only [GR,CY,List.contains_cons,List.contains_nil,Nat.reduceBEq,Bool.or_false,Bool.or_true,EU,D7,EW,F9,PK,FB,IJ,IB,AA,AZ,CB,BQ,LX,BM,AB,lMc,lMn,lAn,↓reduceIte,Nat.reduceEqDiff,Nat.reduceAdd,Nat.zero_add,oGs,enP,N7,f1,f4,E1.l4',ldM E1.gm,ldC gc1]
    refine ⟨_,OX G m _ _ hcg.here (by omega),?_⟩
    try simp -implicitDefEqProofs only []
    refine ⟨_,OH G _ _ _ (fun n hn=>(hfs n hn).2) (by omega),?_⟩
    rw [hpn]
    try simp -implicitDefEqProofs only [GR,FI,FQ,CY,List.contains_cons,List.contains_nil,Nat.reduceBEq,Bool.or_false,Bool.or_true,EU,D7,EW,JX,LV,AA,AZ,EE,H9,BX,↓reduceIte,Nat.reduceEqDiff,Nat.reduceAdd,oGs,enP,mkI _ _ (show pn≤1048576 by omega),ADX]
    generalize Ha ++ [ABlk.live 1 ((zeros pn).map encI)] ++ [ABlk.live 1 [[.own Ha.length 0 pn]]]=Hb at N2 NP2 E2 ho2 gb gt hl2 ⊢
    generalize (Ha ++ [ABlk.live 1 ((zeros pn).map encI)]).length=tb at gt ⊢
    obtain ⟨H2,hap,N3,hk,hl3,hx3⟩:=N2.snoc gb (by omega) (by omega) (fun q=>by have:=N.mem_lt q; omega) (fun q e=>by have:=N.top_lt q; omega) (by rw [hzl]; exact gt) htl
    rw [← hC] at N3 hap
    have hne:(zC m).take (i+1)≠[]:=by rw [hC]; simp
    have E3:=E2.keep hk (fun b hb=>by
     obtain ⟨q,rfl⟩:=AC6 hb
     have:=N.lo' q; omega) (hx3 h (by omega))
    rw [QU _ hne] at hap
    refine JC hap ?_
    have E4:=E3.set4 (nlV po (zP m)) (.own Hb.length 0 ((zC m).take (i+1)).length)
    have ho4:=(ho2.keepA hk (fun b hb hb'=>(hdis b (AEA hb')).2 hb)).setB (b:=b4) (by omega) (.live 4 [IW (nlV po (zP m)) (.own Hb.length 0 ((zC m).take (i+1)).length)])
    have N4:NL H0.length (H2.set b4 (.live 4 [IW (nlV po (zP m)) (.own Hb.length 0 ((zC m).take (i+1)).length)])) Hb.length (cbs ++ [Ha.length]) ((zC m).take (i+1)):=N3.keep fun b x hb hg=>CU hg (by have:=N3.lt hb; omega)
    have NP4:NL H0.length (H2.set b4 (.live 4 [IW (nlV po (zP m)) (.own Hb.length 0 ((zC m).take (i+1)).length)])) po pb (zP m):=NP2.keep fun b x hb hg=>CU (hk b x hg (fun q=>(hdis b (AEA q)).1 hb)) (by have:=NP.lt hb; omega)
    simp -implicitDefEqProofs only [GR,CY,List.contains_cons,List.contains_nil,Nat.reduceBEq,Bool.or_false,EU,D7,JW,FZ,EW,JK,FB,BA,A8,EP,FC,AY,BB,AL,BD,AX,AC,AA,AZ,AU,BI,BG,D6,BU,BM,AB,DI,DV,↓reduceIte,Nat.reduceEqDiff,Nat.reduceAdd,Nat.zero_add,oGs,bNf,enP,N7,CZ,Option.getD_none,f4,E3.s4',f35,wrap_succ (show i < 9223372036854775807 by omega)]
    have hl4:(H2.set b4 (.live 4 [IW (nlV po (zP m)) (.own Hb.length 0 ((zC m).take (i+1)).length)])).length=H2.length:=by simp
    generalize H2.set b4 (.live 4 [IW (nlV po (zP m)) (.own Hb.length 0 ((zC m).take (i+1)).length)])=H4 at E4 ho4 N4 NP4 hl4 ⊢
    rw [← QU Hb.length hne] at E4
    exact ⟨n - 1,by omega,i+1,Hb.length,_,by omega,by first | trivial | exact f1,by first | trivial | exact f2,by first | trivial | exact f3,by first | trivial | exact f4,by first | trivial | exact f5,by first | trivial | exact f33,by first | trivial | exact f34,by first | trivial | rfl,E4,NP4,N4,ho4,fun b hb=>by
     rw [hC] at hb
     rcases AGZ (o:=co) hb with rfl | hb | rfl
     ·exact ⟨fun q=>by have:=NP.lt q; omega,fun q=>by have:=ho3.lt q; omega⟩
     ·exact hdis _ hb
     ·exact ⟨fun q=>by have:=NP.lt q; omega,fun q=>by have:=ho3.lt q; omega⟩,by omega⟩
   ·have hi' : ¬ i < m.crs.length:=by simpa using hc
    rw [List.take_of_length_le (by rw [AG5]; omega)] at N E hdis
    simp -implicitDefEqProofs only [DW,ER,O1,FM,AA,↓reduceIte,Nat.reduceEqDiff]
    exact ⟨co,cbs,f2,f3,f4,f5,E,⟨NP,N,fun b h1 h2=>(hdis b h2).1 h1⟩,ho3⟩
  ·rintro F' H' ⟨co,cbs,g2,g3,g4,g5,E',N,q3⟩
   simp -implicitDefEqProofs only [BC,A8,FN,↓reduceIte]
   have p2:=E'.o2; have p3:=E'.o3; have p4:=E'.o4; have p5:=E'.o5
   refine QG [(5,2)] (by kernel_rfl) ?_ ?_
   ·simp -implicitDefEqProofs only [g2,g5,QH,SX,RJ,and_true]
    omega
   simp -implicitDefEqProofs only [GR,CY,List.contains_cons,List.contains_nil,Nat.reduceBEq,Bool.or_false,EU,D7,JW,FZ,EW,F9,JK,BK,A8,AA,AZ,BQ,D6,AB,DI,↓reduceIte,Nat.reduceEqDiff,Nat.reduceAdd,Nat.zero_add,oGs,enP,Option.getD_none,g2,g3,g4,g5,J3 E'.g4 rfl,MK E'.g5 rfl,AJD E'.g2 rfl (MJ _ _) (MJ _ _),AEP (CU E'.g3 (show b3≠b2 by omega)) rfl q3.leaf]
   rw [AOQ (ba:=b2) (bb:=b3) (by simp -implicitDefEqProofs only [AA,↓reduceIte,Nat.reduceEqDiff,g2]) (by simp -implicitDefEqProofs only [AA,↓reduceIte,Nat.reduceEqDiff,g3]) (J3 (CU (DZ E'.g2) (show b2≠b3 by omega)) rfl) (MK (DZ (CU E'.g3 (show b3≠b2 by omega))) rfl)]
   exact ⟨(E'.hx.set (by omega) _).set (by omega) _,po,pb,co,cbs,v3,rfl,(N.keep (H':=(H'.set b2 (.live 4 [IW (nlV po (zP m)) (nlV co (zC m))])).set b3 (.live 1 [[v3]])) fun b x hb _ hg=>CU (CU hg (by omega)) (by omega)).base (by omega),((q3.setB (b:=b2) (by omega) _).setB (b:=b3) (by omega) _).base (by omega)⟩
theorem AUN (H0:Hp) {v1 v2 v3:AV} (h1:v1.leaf=true) (h2:v2.leaf=true) (h3:v3.leaf=true) :
  EY Tryz.prog (H0 ++ [ABlk.live 4 [FD]] ++ [ABlk.live 1 [E8]]) 28 (.ptr H0.length 0 0) (.agg (IW v1 v2))=some ((H0 ++ [ABlk.live 4 [FD]] ++ [ABlk.live 1 [E8]]).set H0.length (ABlk.live 4 [IW v1 v2])) ∧
  EY Tryz.prog ((H0 ++ [ABlk.live 4 [FD]] ++ [ABlk.live 1 [E8]]).set H0.length (ABlk.live 4 [IW v1 v2])) 47 (.ptr (H0 ++ [ABlk.live 4 [FD]]).length 0 0) (.agg [v3])=some (((H0 ++ [ABlk.live 4 [FD]] ++ [ABlk.live 1 [E8]]).set H0.length (ABlk.live 4 [IW v1 v2])).set (H0 ++ [ABlk.live 4 [FD]]).length (ABlk.live 1 [[v3]])) ∧
  (((H0 ++ [ABlk.live 4 [FD]] ++ [ABlk.live 1 [E8]]).set H0.length (ABlk.live 4 [IW v1 v2])).set (H0 ++ [ABlk.live 4 [FD]]).length (ABlk.live 1 [[v3]]))[H0.length]? = some (ABlk.live 4 [IW v1 v2]) ∧
  (((H0 ++ [ABlk.live 4 [FD]] ++ [ABlk.live 1 [E8]]).set H0.length (ABlk.live 4 [IW v1 v2])).set (H0 ++ [ABlk.live 4 [FD]]).length (ABlk.live 1 [[v3]]))[(H0 ++ [ABlk.live 4 [FD]]).length]? = some (ABlk.live 1 [[v3]]) ∧
  ext H0 (((H0 ++ [ABlk.live 4 [FD]] ++ [ABlk.live 1 [E8]]).set H0.length (ABlk.live 4 [IW v1 v2])).set (H0 ++ [ABlk.live 4 [FD]]).length (ABlk.live 1 [[v3]])) :=
 ⟨AJD (CJ (C9 _ _)) rfl h1 h2,AEP (CU (C9 _ _) (by simp)) rfl h3,CU (DZ (CJ (C9 _ _))) (by simp),DZ (CU (C9 _ _) (by simp)),((((ext.rfl' H0).app _).app _).set (Nat.le_refl _) _).set (by simp) _⟩
theorem NC.ext {n0:Nat} {H H':Hp} {po:Nat} {pb:List Nat} {co:Nat} {cbs:List Nat} {P C:List (List Int)} (N:NC n0 H po pb co cbs P C) (hx:Sm.ext H H'):NC n0 H' po pb co cbs P C:=N.keep fun _ _ _ _ hg=>EK hx hg
theorem outG.ext {α:Type} {k:Nat} {f:α→List AV} {h H H':Hp} {ys:List α} {v:AV} (ho:outG k f h ys v H) (hx:Sm.ext H H'):outG k f h ys v H':=by
 obtain ⟨y,rfl⟩:=hx
 exact ho.app y
def EmQ (h:Hp) (m:Mo) (v:AV) (H:Hp):Prop:=ext h H∧((FW m≠0∧v = .tup [.agg FD,.agg E8,.int .i64 (FW m)]) ∨
 (FW m=0∧∃ po pb co cbs v3,v = .tup [.agg (IW (nlV po (zP m)) (nlV co (zC m))),.agg [v3],.int .i64 0]∧EmO h H m po pb co cbs v3))
set_option maxHeartbeats 1000000 in
theorem AMH (G:Nat→AV) (hG:GOk G) (m:Mo) (hm:MoOk m) (h:Hp):ACalls (En G) 67 [.agg (EC m)] h (EmQ h m):=by
 refine CE (H:=Hint.none) (enM G) Tryz.func67 rfl (by kernel_rfl) (by kernel_rfl) (nLb (by kernel_rfl)) ?_
 show awp _ _ _ _ _ (D9 _ [.cell 2 28,.cell 3 47,.tmp 4] _)
 unfold EmQ
 have E:=Ee.mk' h m
 simp -implicitDefEqProofs only [BC,BA,A8,AY,BB,AO,AQ,AL,BD,AX,AC,AA,AZ,AU,BI,A7,EZ,FX,BQ,BX,BF,↓reduceIte,Nat.reduceEqDiff,oGs,bNf,enP,bxM,NQ,XB]
 generalize h ++ [ABlk.live 2 [EC m]] ++ [ABlk.live 4 [FD]] ++ [ABlk.live 1 [E8]]=H0 at E ⊢
 generalize (h ++ [ABlk.live 2 [EC m]] ++ [ABlk.live 4 [FD]]).length=b3 at E ⊢
 generalize (h ++ [ABlk.live 2 [EC m]]).length=b2 at E ⊢
 have o2:=E.o2; have o3:=E.o3; have hlt:=E.lt
 simp -implicitDefEqProofs only [AY,AO,AQ,AL,BD,AX,AC,AA,AZ,CB,CG,BP,AB,lMc,lMn,lAn,↓reduceIte,oGs,bNf,ldM E.gm]
 refine (LH G hG m hm _).use ?_
 cases hb:(FW m == 0)
 ·have h0:FW m≠0:=by simpa using hb
  simp -implicitDefEqProofs only [FI,BC,BA,BK,BL,A8,CX,DU,AY,BB,AO,AQ,AL,BD,AX,AC,EM,AA,AZ,AU,BI,BG,A7,JL,D6,BU,AB,DI,EQ,↓reduceIte,Nat.reduceEqDiff,oGs,bNf,enP,Option.getD_none,bne,hb,XZ,ACF,stZ E.g2 rfl,ABG (CU E.g3 (show b3≠b2 by omega)) rfl]
  rw [TL (ba:=b2) (bb:=b3) (by simp -implicitDefEqProofs only [AA,↓reduceIte,Nat.reduceEqDiff]) (by simp -implicitDefEqProofs only [AA,↓reduceIte,Nat.reduceEqDiff]) (J3 (CU (DZ E.g2) (show b2≠b3 by omega)) rfl) (MK (DZ (CU E.g3 (show b3≠b2 by omega))) rfl)]
  exact ⟨(E.hx.set (by omega) _).set (by omega) _,.inl ⟨h0,by simp -implicitDefEqProofs only [AA,↓reduceIte]⟩⟩
 ·have h0:FW m=0:=by simpa using hb
  have hg:=OI h0
  simp -implicitDefEqProofs only [BC,BA,BR,BL,A8,D5,AY,BB,AO,AQ,AL,BD,AX,AC,AA,AZ,AU,CB,BI,BG,A7,BQ,BU,CG,BP,AB,EQ,lMc,lMn,lAn,↓reduceIte,Nat.reduceEqDiff,oGs,bNt,bNf,enP,bne,hb,ldM E.gm]
  refine (ALX G m hm hg _).mono ?_
  rintro v H1 ⟨hx1,po,pb,co,cbs,v3,rfl,EO⟩
  obtain ⟨s1,s2,g6,g7,hx5⟩:=AUN H1 (MJ po (zP m)) (MJ co (zC m)) EO.o3.leaf
  have g2:=EK hx5 (EK hx1 E.g2)
  have g3:=EK hx5 (EK hx1 E.g3)
  have hx:=(E.hx.trans hx1).trans hx5
  have hle1:=hx1.le
  have h7:b2 < (H1 ++ [ABlk.live 4 [FD]]).length:=by simp; omega
  have N5:=EO.nc.ext hx5
  have q5:=outG.ext EO.o3 hx5
  simp -implicitDefEqProofs only [List.getElem?_cons_zero,List.getElem?_cons_succ,BC,A8,AY,BB,AO,AQ,AL,BD,AX,AC,EM,AA,AZ,BG,EZ,D6,FT,IG,BX,AB,DI,↓reduceIte,Nat.reduceEqDiff,oGs,bNf,enP,Option.getD_none,NQ,XB,s1,s2]
  generalize ((H1 ++ [ABlk.live 4 [FD]] ++ [ABlk.live 1 [E8]]).set H1.length (ABlk.live 4 [IW (nlV po (zP m)) (nlV co (zC m))])).set (H1 ++ [ABlk.live 4 [FD]]).length (ABlk.live 1 [[v3]])=H5 at g6 g7 g2 g3 hx N5 q5 ⊢
  generalize (H1 ++ [ABlk.live 4 [FD]]).length=b7 at g7 h7 ⊢
  refine QG [(7,2)] (by kernel_rfl) ?_ ?_
  ·simp -implicitDefEqProofs only [AA,↓reduceIte,Nat.reduceEqDiff,QH,SX,RJ,and_true]
   omega
  simp -implicitDefEqProofs only [GR,EU,D7,JW,FZ,EW,J5,F9,JK,BK,A8,AO,AA,AZ,AU,BI,BQ,D6,AB,DI,↓reduceIte,Nat.reduceEqDiff,Nat.reduceAdd,Nat.zero_add,oGs,enP,Option.getD_none,J3 g6 rfl,MK g7 rfl,AJD g2 rfl (MJ po (zP m)) (MJ co (zC m)),AEP (CU g3 (show b3≠b2 by omega)) rfl q5.leaf]
  rw [TL (ba:=b2) (bb:=b3) (by simp -implicitDefEqProofs only [AA,↓reduceIte,Nat.reduceEqDiff]) (by simp -implicitDefEqProofs only [AA,↓reduceIte,Nat.reduceEqDiff]) (J3 (CU (DZ g2) (show b2≠b3 by omega)) rfl) (MK (DZ (CU g3 (show b3≠b2 by omega))) rfl)]
  have hhl:=E.hx.le
  refine ⟨(hx.set (by omega) _).set (by omega) _,.inr ⟨h0,po,pb,co,cbs,v3,by simp -implicitDefEqProofs only [AA,↓reduceIte],?_,?_⟩⟩
  ·exact (N5.keep (H':=(H5.set b2 (.live 4 [IW (nlV po (zP m)) (nlV co (zC m))])).set b3 (.live 1 [[v3]])) fun b x hb _ hg=>CU (CU hg (by omega)) (by omega)).base hhl
  ·exact ((q5.setB (b:=b2) (by omega) _).setB (b:=b3) (by omega) _).base hhl
structure St where
 P:List (List Int)
 C:List (List Int)
 sam:Int
 ill:Int
 ls:List (List Int)
def PY (m:Mo) (s:St) (env:List Sg):Int:=KD PtR.err (L9 m s.ls env)
def stp (m:Mo) (s:St) (env:List Sg):St:=⟨OG (L9 m s.ls env) s.P,P9 m ((L9 m s.ls env).map PtR.hit) s.C,rz s.sam,if (L9 m s.ls env).any PtR.bad=true then rz s.ill else s.ill,(L9 m s.ls env).map PtR.next⟩
structure StOk (m:Mo) (s:St):Prop where
 sh:ShapeOk m s.P s.C
 ll:s.ls.length=m.pts.length
 l7 : ∀ l∈s.ls,l.length≤7
 sm:0≤s.sam∧s.sam≤1099511627776
 il:0≤s.ill∧s.ill≤1099511627776
theorem ANG (p:Pt) (last:List Int) (l:List Sg):(ptE p last l).next.length≤7:=by
 have hn : ∀ v,(nextL last v).length≤7:=fun v=>by unfold nextL; rw [List.length_drop,List.length_append]; simp; omega
 unfold ptE
 split
 ·simp
 ·split
  ·simp
  ·split
   ·exact hn _
   ·split
    ·exact hn _
    ·exact hn _
theorem ShapeOk.step {m:Mo} {P C:List (List Int)} (h:ShapeOk m P C) {rs:List PtR} (hr:rs.length=m.pts.length) (hits:List (List Nat)):ShapeOk m (OG rs P) (P9 m hits C):=by
 have h1:rs.length=P.length:=by rw [hr,h.pl]
 have h2:=h.cl
 have l1:=RH rs P h1
 have l2:=VH m hits C h2
 refine ⟨by rw [l1]; exact h.pl,by rw [l2]; exact h2,fun i a b => ?_,fun i a b => ?_,AQO h.wp,AQP h.wc⟩
 ·rw [RI rs P i (by omega) (by omega),OZ]; exact h.pe i (by omega) b
 ·rw [VI m hits C i b (by omega),O0]; exact h.ce i (by omega) b
theorem StOk.step {m:Mo} {s:St} (h:StOk m s) (env:List Sg):StOk m (stp m s env):=by
 have hr:=RU m s.ls env h.ll
 refine ⟨h.sh.step hr _,by simp [stp,hr],fun l hl => ?_,AJH h.sm,?_⟩
 ·obtain ⟨r,hr,rfl⟩:=List.mem_map.1 hl
  obtain ⟨p,hp,rfl⟩:=List.mem_map.1 hr
  exact ANG _ _ _
 ·unfold stp
  dsimp only
  split
  ·exact AJH h.il
  ·exact h.il
def zS (m:Mo):St:=⟨zP m,zC m,0,0,List.replicate m.pts.length []⟩
theorem AEC (n:Nat):Wn (zeros n):=fun x hx=>by
 have:x=0:=by simpa [zeros] using (List.eq_of_mem_replicate hx)
 subst this; decide
theorem AS8 (m:Mo):StOk m (zS m):=by
 refine ⟨⟨AG4 m,AG5 m,fun i a b => ?_,fun i a b => ?_,fun xs hx => ?_,fun xs hx => ?_⟩,by simp [zS],fun l hl => ?_,⟨by show (0:Int)≤0; omega,by show (0:Int)≤1099511627776; omega⟩,⟨by show (0:Int)≤0; omega,by show (0:Int)≤1099511627776; omega⟩⟩
 ·simp [zS,zP,zeros]
 ·simp [zS,zC,zeros]
 ·obtain ⟨p,_,rfl⟩:=List.mem_map.1 hx
  exact AEC _
 ·obtain ⟨p,_,rfl⟩:=List.mem_map.1 hx
  exact AEC _
 ·rw [List.eq_of_mem_replicate hl]; simp
def NY (m:Mo):St→List (List Sg)→Int × St
 | s,[]=>(0,s)
 | s,e :: r=>if PY m s e≠0 then (PY m s e,s) else NY m (stp m s e) r
def VK (m:Mo) (l:List (List Sg)):Int:=if FW m=0 then (NY m (zS m) l).1 else FW m
def OJ (P:List (List Int)):List Is:=P.map fun x=>⟨.any,x⟩
def cvS (s:St):Cvr:=⟨nm (OJ s.P),OJ s.P,nm (OJ s.C),OJ s.C,s.sam,s.ill⟩
def QA (m:Mo) (l:List (List Sg)):Cvr:=if FW m=0∧(NY m (zS m) l).1=0 then cvS (NY m (zS m) l).2 else zV
def cvW (s:St):List AV := [fzG 1 encL (OJ s.P),fzG 1 encL (OJ s.C),.int .i64 s.sam,.int .i64 s.ill]
theorem AO1 (s:St):CvR (.agg (cvW s)) (.agg (ES (cvS s))):=CvR.agg (CvRL.cons U1 (CvRL.cons U1 (CvRL.refl _)))
def AHF (m:Mo) (l:List (List Sg)):List AV:=if FW m=0∧(NY m (zS m) l).1=0 then cvW (NY m (zS m) l).2 else FD
theorem AQT (m:Mo) (l:List (List Sg)):CvR (.agg (AHF m l)) (.agg (ES (QA m l))):=by
 unfold AHF QA
 split
 ·exact AO1 _
 ·exact AS7
structure Ss where
 m:SM
 l:List Sg
def KF (x:Ss):List AV := [.sl x.m 2 (x.l.map GH)]
theorem AIA (x:Ss):(KF x)[0]? = some (.sl x.m 2 (x.l.map GH)):=rfl
theorem AH8 {h H:Hp} (_:h.length≤H.length) (hg : ∀ (b:Nat) (x:ABlk),h[b]? = some x→H[b]? = some x):ext h H:=⟨H.drop h.length,by
 refine List.ext_getElem? fun i => ?_
 rcases Nat.lt_or_ge i h.length with hi | hi
 ·rw [List.getElem?_append_left hi,List.getElem?_eq_getElem hi]; exact hg i _ (List.getElem?_eq_getElem hi)
 ·rw [List.getElem?_append_right hi,List.getElem?_drop]; congr 1; omega⟩
theorem Fr1.ext {h0 h H:Hp} {cb tb:Nat} {pb cbs:List Nat} (hf:Fr1 h H cb tb pb cbs) (hx:Sm.ext h0 h) (h1:h0.length≤cb) (h2:h0.length≤tb) (h3 : ∀ b∈pb,h0.length≤b) (h4 : ∀ b∈cbs,h0.length≤b):Sm.ext h0 H :=
 AH8 (Nat.le_trans hx.le hf.le) fun b x hb=>by
  have hlt:=BZ hb
  exact hf.get b x (EK hx hb) (by omega) (by omega) (fun q=>by have:=h3 b q; omega) (fun q=>by have:=h4 b q; omega)
theorem AO2 (po:Nat) (P:List (List Int)) (co:Nat) (C:List (List Int)) (a b:Int):(cvR po P co C a b).all AV.leaf=true:=by
 simp [cvR,MJ]; exact ⟨rfl,rfl⟩
theorem ATH {H:Hp} {b:Nat} {row:List AV} {po:Nat} {P:List (List Int)} {co:Nat} {C:List (List Int)} {x y:Int} (hb:H[b]? = some (.live 4 [row])) (hr:row.length=4):EY Tryz.prog H 28 (.ptr b 0 0) (.agg (cvR po P co C x y))=some (H.set b (.live 4 [cvR po P co C x y])):=by
 rw [NJ (cs:=cvR po P co C x y) (SS (AO2 _ _ _ _ _ _)) AKS hb (by rw [hr]; exact Nat.le_refl 4)]
 have:splice row 0 (cvR po P co C x y)=cvR po P co C x y:=by unfold splice; rw [List.take_zero,List.drop_eq_nil_of_le (by rw [hr]; exact Nat.le_refl 4)]; simp
 rw [this]
theorem AO6 {n0:Nat} {H:Hp} {po co:Nat} {pb cbs:List Nat} (s:St) (np:NL n0 H po pb s.P) (nc:NL n0 H co cbs s.C) (n d:Nat) (hn:n≤n0):HY n H (d+4) (.agg (cvR po s.P co s.C s.sam s.ill)) = .agg (cvW s):=by
 show AV.agg [HY n H (d+3) (nlV po s.P),HY n H (d+3) (nlV co s.C),.int .i64 s.sam,.int .i64 s.ill]=_
 rw [np.frz n d hn,nc.frz n d hn]; rfl
theorem AMX {h H:Hp} {m:Mo} {v3:AV} (o:outG 1 (fun _:Pt=>E8) h m.pts v3 H):TLs H v3 (List.replicate m.pts.length []):=by
 rcases o with ⟨e,_⟩ | ⟨_,q,_,rfl,hq⟩
 ·rw [e]; exact .inl rfl
 ·refine .inr (.inr ⟨q,m.pts.map fun _=>E8,by simp,hq,?_⟩)
  rw [List.map_const']
  exact RowsL.nils _
set_option maxHeartbeats 4000000 in
theorem AAS (G:Nat→AV) (hG:GOk G) (hT:PX G) (m:Mo) (hm:MoOk m) (l:List Ss) (s:SM) (h:Hp) (hl:l.length≤1048576) (he : ∀ x∈l,x.l.length≤1048576) :
  PCall (En G) 48 [.agg (EC m),.sl s 1 (l.map KF)] h (.tup [.agg (ES (QA m (l.map Ss.l))),.int .i64 (VK m (l.map Ss.l))]):=by
 refine PCall.res (r := .tup [.agg (AHF m (l.map Ss.l)),.int .i64 (VK m (l.map Ss.l))]) ?_ (CvR.tup (CvRL.cons (AQT _ _) (CvRL.refl _)))
 refine ACalls.pure (R:=fun v H=>ext h H∧HY h.length H 5 v = .tup [.agg (AHF m (l.map Ss.l)),.int .i64 (VK m (l.map Ss.l))]) 5 ?_ (fun v H ⟨a,b⟩=>⟨a,b⟩)
 refine CE (H:=Hint.none) (enM G) Tryz.func48 rfl (by kernel_rfl) (by kernel_rfl) (nLb (by kernel_rfl)) ?_
 show awp _ _ _ _ _ (D9 _ [.cell 4 28,.tmp 5] _)
 have gm:=CJ (x:=ABlk.live 4 [FD]) (C9 h (ABlk.live 2 [EC m]))
 have g4:=C9 (h ++ [ABlk.live 2 [EC m]]) (ABlk.live 4 [FD])
 have hx:ext h (h ++ [ABlk.live 2 [EC m]] ++ [ABlk.live 4 [FD]]):=((ext.rfl' h).app _).app _
 have hb4:h.length < (h ++ [ABlk.live 2 [EC m]]).length:=by simp
 simp -implicitDefEqProofs only [BC,BA,A8,AY,BB,AO,AQ,AL,BD,AX,AC,AA,AZ,AU,BI,A7,EZ,FX,BQ,BX,BF,↓reduceIte,Nat.reduceEqDiff,oGs,bNf,enP,bxM,NQ]
 generalize h ++ [ABlk.live 2 [EC m]] ++ [ABlk.live 4 [FD]]=H0 at gm g4 hx ⊢
 generalize (h ++ [ABlk.live 2 [EC m]]).length=b4 at g4 hb4 ⊢
 have hlt:=BZ g4
 simp -implicitDefEqProofs only [AY,AO,AQ,AL,BD,AX,AC,AA,AZ,CB,CG,BP,AB,lMc,lMn,lAn,↓reduceIte,oGs,bNf,ldM gm]
 refine (AMH G hG m hm H0).mono ?_
 rintro v H1 ⟨hx1,⟨hne,rfl⟩ | ⟨h0,po,pb,co,cbs,v3,rfl,EO⟩⟩
 ·have hb:(FW m == 0)=false:=by simpa using hne
  obtain ⟨s1,s2,g6,g7,hx5⟩:=AUN H1 (v1 := .sl .nil 0 []) (v2 := .sl .nil 0 []) (v3 := .sl .nil 0 []) rfl rfl rfl
  have s1':EY Tryz.prog (H1 ++ [ABlk.live 4 [FD]] ++ [ABlk.live 1 [E8]]) 28 (.ptr H1.length 0 0) (.agg FD)=_:=s1
  have s2':EY Tryz.prog ((H1 ++ [ABlk.live 4 [FD]] ++ [ABlk.live 1 [E8]]).set H1.length (ABlk.live 4 [IW (.sl .nil 0 []) (.sl .nil 0 [])])) 47 (.ptr (H1 ++ [ABlk.live 4 [FD]]).length 0 0) (.agg E8)=_:=s2
  have g4':=EK hx5 (EK hx1 g4)
  have hx':=(hx.trans hx1).trans hx5
  simp -implicitDefEqProofs only [List.getElem?_cons_zero,List.getElem?_cons_succ,FI,BC,BA,BL,A8,DU,AY,BB,AO,AQ,AL,BD,AX,AC,EM,AA,AZ,AU,BI,BG,A7,EZ,JL,D6,BU,FT,IG,BX,AB,DI,EQ,↓reduceIte,Nat.reduceEqDiff,oGs,bNf,enP,Option.getD_none,NQ,XB,s1',s2',bne,hb,XZ]
  generalize ((H1 ++ [ABlk.live 4 [FD]] ++ [ABlk.live 1 [E8]]).set H1.length (ABlk.live 4 [IW (.sl .nil 0 []) (.sl .nil 0 [])])).set (H1 ++ [ABlk.live 4 [FD]]).length (ABlk.live 1 [[.sl .nil 0 []]])=H5 at g4' hx' ⊢
  simp -implicitDefEqProofs only [BK,A8,CX,AY,BB,AO,AQ,AL,BD,AX,AC,EM,AA,AZ,A7,DI,↓reduceIte,oGs,bNf,stZ g4' rfl]
  rw [ADO (ba:=b4) (by simp -implicitDefEqProofs only [AA,↓reduceIte,Nat.reduceEqDiff]) (J3 (DZ g4') rfl)]
  refine ⟨hx'.set (by omega) _,?_⟩
  unfold AHF VK
  rw [if_neg (fun q=>hne q.1),if_neg hne]
  rfl
 have hg:=OI h0
 have hnp:m.pts.length≤16:=by have:=hg.num; omega
 obtain ⟨s1,s2,g6,g7,hx5⟩:=AUN H1 (MJ po (zP m)) (MJ co (zC m)) EO.o3.leaf
 have gm5:=EK hx5 (EK hx1 gm)
 have g45:=EK hx5 (EK hx1 g4)
 have hx':=(hx.trans hx1).trans hx5
 have hle1:=hx1.le
 have N5:=EO.nc.ext hx5
 have q5:=AMX (outG.ext EO.o3 hx5)
 have hlb : ∀ b,NLB po pb (zP m) b∨NLB co cbs (zC m) b→b < H1.length:=fun b hb=>by
  rcases hb with hb | hb
  ·exact (EO.nc.np.lt hb).2
  ·exact (EO.nc.nc.lt hb).2
 have htl:(H1 ++ [ABlk.live 4 [FD]]).length=H1.length+1:=by simp
 simp -implicitDefEqProofs only [List.getElem?_cons_zero,List.getElem?_cons_succ,BC,BV,BA,BR,BL,A8,D5,AY,BB,AO,AQ,AL,BD,AX,AC,EM,AA,AZ,AU,BI,BG,A7,EZ,D6,BU,FT,IG,D8,BX,AB,DI,EQ,BF,BO,↓reduceIte,Nat.reduceEqDiff,oGs,bNt,bNf,enP,ALB,Option.getD_none,NQ,XB,s1,s2,bne,beq_self_eq_true,lLm]
 generalize ((H1 ++ [ABlk.live 4 [FD]] ++ [ABlk.live 1 [E8]]).set H1.length (ABlk.live 4 [IW (nlV po (zP m)) (nlV co (zC m))])).set (H1 ++ [ABlk.live 4 [FD]]).length (ABlk.live 1 [[v3]])=H5 at g6 g7 gm5 g45 hx' N5 q5 ⊢
 generalize (H1 ++ [ABlk.live 4 [FD]]).length=tb at g7 htl ⊢
 generalize H1.length=cb at g6 hlb htl hle1 ⊢
 have S5:CS H0.length H5 cb tb po co pb cbs (zS m).P (zS m).C (zS m).sam (zS m).ill v3:=N5.cs g6 g7 (by omega) (fun b hb=>by have:=hlb b hb; omega)
 refine DY (fun n F H => ∃ k st v3,n+k=l.length∧F 2 = .ptr h.length 0 0∧F 4 = .ptr b4 0 0∧F 6 = .ptr cb 0 0∧F 7 = .ptr tb 0 0∧F 22 = .sl s 1 (l.map KF)∧F 23 = .int .i64 (l.length:Nat)∧F 24 = .int .i64 (k:Nat)∧H[h.length]? = some (.live 2 [EC m])∧H[b4]? = some (.live 4 [FD]) ∧
   CS H0.length H cb tb po co pb cbs st.P st.C st.sam st.ill v3∧TLs H v3 st.ls∧StOk m st∧ext h H∧NY m (zS m) (l.map Ss.l)=NY m st ((l.drop k).map Ss.l)) l.length
  ⟨0,zS m,v3,by simp,by simp -implicitDefEqProofs only [AA,↓reduceIte,Nat.reduceEqDiff],by simp -implicitDefEqProofs only [AA,↓reduceIte,Nat.reduceEqDiff],by simp -implicitDefEqProofs only [AA,↓reduceIte,Nat.reduceEqDiff],by simp -implicitDefEqProofs only [AA,↓reduceIte,Nat.reduceEqDiff],by simp -implicitDefEqProofs only [AA,↓reduceIte,Nat.reduceEqDiff],by simp -implicitDefEqProofs only [AA,↓reduceIte,Nat.reduceEqDiff],by simp -implicitDefEqProofs only [AA,↓reduceIte] <;> rfl,gm5,g45,S5,q5,AS8 m,hx',rfl⟩ ?_
 clear gm5 g45 S5 q5 hx' N5 g6 g7 s1 s2 hx5
 rintro n F H ⟨k,st,v3',hk,f2,f4,f6,f7,f22,f23,f24,gmH,g4H,S,T,hok,hxH,hrun⟩
 simp -implicitDefEqProofs only [BC,BA,BL,A8,AY,BB,AO,AQ,AL,BD,AX,AC,AA,AZ,BU,AB,DT,↓reduceIte,oGs,bNf,enP,f23,f24]
 refine DC (fun hc => ?_) (fun hc => ?_)
 ·have hk':k < l.length:=by simpa using hc
  rw [List.drop_eq_getElem_cons hk',lMc] at hrun
  simp -implicitDefEqProofs only [BC,BV,BA,BR,A8,AY,BB,AO,AQ,AL,BD,AX,AC,AA,AZ,CB,BG,A7,BQ,CV,CG,BP,AB,lMc,lMn,lAn,↓reduceIte,Nat.reduceEqDiff,oGs,bNf,enP,ARU,f22,f24,EF hk',EI APT hk',AIA,f2,ldM gmH,f6,f7]
  refine (XH G hG hT m hm hg S hok.sh st.ls hok.ll (fun x hx=>by have:=hok.l7 x hx; omega) T l[k].l l[k].m (by have:=he _ (List.getElem_mem hk'); omega) hok.sm hok.il).mono ?_
  intro v H' hQ
  unfold ASZ at hQ
  rcases hQ with ⟨e,hne,hfst,rfl,hxe⟩ | ⟨hfst,rfl,lb,hlb2,glb,S',hFr⟩
  ·have hb:(e == 0)=false:=by simpa using hne
   have hse:PY m st l[k].l=e:=hfst
   have g4':=EK hxe g4H
   simp -implicitDefEqProofs only [FI,BC,BA,BK,BL,A8,CX,ED,FY,DU,AY,BB,AO,AQ,AL,BD,AX,AC,EM,AA,AZ,AU,BI,BG,A7,JL,D6,BU,AB,DI,EQ,↓reduceIte,Nat.reduceEqDiff,oGs,bNf,enP,Option.getD_none,bne,hb,XZ,f4,stZ g4' rfl]
   rw [ADO (ba:=b4) (by simp -implicitDefEqProofs only [AA,↓reduceIte,Nat.reduceEqDiff,f4]) (J3 (DZ g4') rfl)]
   refine ⟨(hxH.trans hxe).set (by omega) _,?_⟩
   have hr:NY m (zS m) (l.map Ss.l)=(e,st):=by
    rw [hrun]
    show (if PY m st l[k].l≠0 then (PY m st l[k].l,st) else _)=_
    rw [hse,if_pos hne]
   unfold AHF VK
   rw [if_neg (by rw [hr]; exact fun q=>hne q.2),if_pos h0,hr]
   simp -implicitDefEqProofs only [AA,↓reduceIte]
   rfl
  ·have hse:PY m st l[k].l=0:=hfst
   have hr:NY m (zS m) (l.map Ss.l)=NY m (stp m st l[k].l) ((l.drop (k+1)).map Ss.l):=by
    rw [hrun]
    show (if PY m st l[k].l≠0 then (PY m st l[k].l,st) else _)=_
    rw [hse,if_neg (by decide)]
   have hpl : ∀ b∈pb,H0.length≤b:=S.np.lo
   have hcl : ∀ b∈cbs,H0.length≤b:=S.nc.lo
   have hhl:=hx.le
   have gm':=hFr.get _ _ gmH (by omega) (by omega) (fun q=>by have:=hpl _ q; omega) (fun q=>by have:=hcl _ q; omega)
   have g4':=hFr.get _ _ g4H (by omega) (by omega) (fun q=>by have:=hpl _ q; omega) (fun q=>by have:=hcl _ q; omega)
   have hx2:=hFr.ext hxH (by omega) (by omega) (fun b hb=>by have:=hpl _ hb; omega) (fun b hb=>by have:=hcl _ hb; omega)
   have T':TLs H' (.own lb 0 m.pts.length) (stp m st l[k].l).ls:=by
    refine .inr (.inr ⟨lb,_,?_,glb,RowsL.map _⟩)
    rw [(hok.step l[k].l).ll]
   simp -implicitDefEqProofs only [BC,BA,BR,BL,A8,EP,FC,D5,AY,BB,AO,AQ,AL,BD,AX,AC,AA,AZ,AU,BI,BG,A7,BU,AB,DV,EQ,↓reduceIte,Nat.reduceEqDiff,oGs,bNt,bNf,enP,bne,beq_self_eq_true,f24,wrap_succ (show k < 9223372036854775807 by omega)]
   exact ⟨n - 1,by omega,k+1,stp m st l[k].l,_,by omega,by first | trivial | exact f2,by first | trivial | exact f4,by first | trivial | exact f6,by first | trivial | exact f7,by first | trivial | exact f22,by first | trivial | exact f23,by first | trivial | rfl,gm',g4',S',T',hok.step _,hx2,hr⟩
 ·have hk' : ¬ k < l.length:=by simpa using hc
  rw [List.drop_eq_nil_of_le (by omega)] at hrun
  have hr:NY m (zS m) (l.map Ss.l)=(0,st):=hrun
  simp -implicitDefEqProofs only [BC,BA,BK,DW,A8,ER,FN,FM,AY,BB,AO,AQ,AL,BD,AX,AC,EM,AA,AZ,AU,BI,A7,BQ,D6,AB,DI,↓reduceIte,Nat.reduceEqDiff,oGs,bNf,enP,Option.getD_none,f4,f6,J3 S.gc rfl,ATH g4H rfl]
  rw [ADO (ba:=b4) (by simp -implicitDefEqProofs only [AA,↓reduceIte,Nat.reduceEqDiff,f4]) (J3 (DZ g4H) rfl)]
  refine ⟨hxH.set (by omega) _,?_⟩
  have np':NL H0.length (H.set b4 (.live 4 [cvR po st.P co st.C st.sam st.ill])) po pb st.P:=S.np.keep fun b x hb hg=>CU hg (by have:=S.np.lt hb; omega)
  have nc':NL H0.length (H.set b4 (.live 4 [cvR po st.P co st.C st.sam st.ill])) co cbs st.C:=S.nc.keep fun b x hb hg=>CU hg (by have:=S.nc.lt hb; omega)
  have e1:=AO6 st np' nc' h.length 0 hx.le
  unfold AHF VK
  rw [if_pos (by rw [hr]; exact ⟨h0,rfl⟩),if_pos h0,hr]
  simp -implicitDefEqProofs only [AA,↓reduceIte]
  show AV.tup [HY h.length _ 4 (.agg (cvR po st.P co st.C st.sam st.ill)),.int .i64 0]=_
  rw [e1]
def AY5:Bin:=mkB ⟨#[108,111,119]⟩ 0 0 1
def ATR:Bin:=⟨⟨#[115,116,101,112]⟩,0,⟨.nil,[]⟩,.full,[⟨.full,[⟨0,0⟩]⟩,⟨.full,[⟨1,1⟩]⟩]⟩
def AY6:Bin:=mkB ⟨#[98,97,100]⟩ 2 3 3
def bX:Bin:=mkB ⟨#[120]⟩ 0 0 0
def bY:Bin:=mkB ⟨#[121]⟩ 0 1 9
def eP:Pt:=⟨⟨#[112]⟩,AR8,.full,[AY5,ATR,AY6]⟩
def eQ:Pt:=⟨⟨#[113]⟩,AR8,.full,[bX,bY]⟩
def eC:Cr:=⟨⟨#[99]⟩,.full,[0,1],.nil,[]⟩
def eM:Mo:=⟨.full,[eP,eQ],.full,[eC]⟩
def rL:List AV:=rowB ⟨#[108,111,119]⟩ 0 0 1
def rSt:List AV := [.str ⟨#[115,116,101,112]⟩,.int .i64 0,.sl .nil 0 [],.sl .full 1 [[.sl .full 2 [[.int .i64 0,.int .i64 0]]],[.sl .full 2 [[.int .i64 1,.int .i64 1]]]]]
def rBa:List AV:=rowB ⟨#[98,97,100]⟩ 2 3 3
def rX:List AV:=rowB ⟨#[120]⟩ 0 0 0
def rY:List AV:=rowB ⟨#[121]⟩ 0 1 9
def rE:List AV := [.int .i64 2,.int .i64 0,.str ⟨#[97]⟩,.sl .nil 0 []]
def rP:List AV := .str ⟨#[112]⟩ :: (rE ++ [.sl .full 4 [rL,rSt,rBa]])
def rQ:List AV := .str ⟨#[113]⟩ :: (rE ++ [.sl .full 4 [rX,rY]])
def rC:List AV := [.str ⟨#[99]⟩,.sl .full 1 [[.int .i64 0],[.int .i64 1]],.sl .nil 0 []]
def rM:List AV := [.sl .full 6 [rP,rQ],.sl .full 3 [rC]]
theorem cvB (s:ByteArray) (k lo hi:Int):CvRow (rowB s k lo hi) (F6 (mkB s k lo hi)):=CvRow.cons rfl (Cv.refl _) (CvRow.cons rfl (Cv.refl _) (CvRow.cons rfl (Cv.refl _) (CvRow.cons rfl (Cv.nil 0 1) CvRow.nil)))
theorem AYQ:CvRow rSt (F6 ATR):=CvRow.cons rfl (Cv.refl _) (CvRow.cons rfl (Cv.refl _) (CvRow.cons rfl (Cv.nil 0 2) (CvRow.cons rfl (Cv.refl _) CvRow.nil)))
theorem cvP (s:ByteArray) {xs ys:List (List AV)} (h:Cv (.sl .full 4 xs) (.sl .full 4 ys)):CvRow (.str s :: (rE ++ [.sl .full 4 xs])) (.str s :: (EH AR8 ++ [.sl .full 4 ys])) :=
 CvRow.cons rfl (Cv.refl _) (CvRow.cons rfl (Cv.refl _) (CvRow.cons rfl (Cv.refl _) (CvRow.cons rfl (Cv.refl _) (CvRow.cons rfl (Cv.nil 0 4) (CvRow.cons rfl h CvRow.nil)))))
theorem cv2 {m:SM} {k:Nat} {a b a' b':List AV} (h1:CvRow a a') (h2:CvRow b b'):Cv (.sl m k [a,b]) (.sl m k [a',b']):=Cv.rows rfl fun i r r' e1 e2=>by
 match i,e1,e2 with
 | 0,e1,e2=>cases e1; cases e2; exact h1
 | 1,e1,e2=>cases e1; cases e2; exact h2
 | _+2,e1,_=>cases e1
theorem cv3 {m:SM} {k:Nat} {a b c a' b' c':List AV} (h1:CvRow a a') (h2:CvRow b b') (h3:CvRow c c'):Cv (.sl m k [a,b,c]) (.sl m k [a',b',c']):=Cv.rows rfl fun i r r' e1 e2=>by
 match i,e1,e2 with
 | 0,e1,e2=>cases e1; cases e2; exact h1
 | 1,e1,e2=>cases e1; cases e2; exact h2
 | 2,e1,e2=>cases e1; cases e2; exact h3
 | _+3,e1,_=>cases e1
theorem cv1 {m:SM} {k:Nat} {a a':List AV} (h1:CvRow a a'):Cv (.sl m k [a]) (.sl m k [a']):=Cv.rows rfl fun i r r' e1 e2=>by
 match i,e1,e2 with
 | 0,e1,e2=>cases e1; cases e2; exact h1
 | _+1,e1,_=>cases e1
theorem AV4:CvR (.agg rM) (.agg (EC eM)) :=
 CvR.agg (CvRL.cons (CvR.sl (cv2 (cvP _ (cv3 (cvB _ _ _ _) AYQ (cvB _ _ _ _))) (cvP _ (cv2 (cvB _ _ _ _) (cvB _ _ _ _))))) (CvRL.cons (CvR.sl (cv1 (CvRow.cons rfl (Cv.refl _) (CvRow.cons rfl (Cv.refl _) (CvRow.cons rfl (Cv.nil 0 1) CvRow.nil))))) CvRL.nil))
theorem AY8 (h:Hp):I9 Tryz.prog h 53=some (.ptr h.length 0 0,h ++ [.live 4 [[.int .i64 0,.int .i64 0,.str ⟨#[]⟩,.sl .nil 0 []]]]):=IY (row := [.int .i64 0,.int .i64 0,.str ⟨#[]⟩,.sl .nil 0 []]) (by kernel_rfl)
theorem AVS (h:Hp) (row:List AV) (hr:row.length=4):EY Tryz.prog (h ++ [.live 4 [row]]) 53 (.ptr h.length 0 0) (.agg [.int .i64 2,.int .i64 0,.str ⟨#[97]⟩,.sl .nil 0 []])=some (h ++ [.live 4 [rE]]):=by
 have h1:=KN (P:=Tryz.prog) (t:=53) (h:=h) (k:=4) (j:=0) (row:=row) (cs:=rE) (v := .agg rE) rfl VF (by rw [hr]; exact Nat.le_refl 4)
 have h2:splice row 0 rE=rE:=by unfold splice; simp [hr,rE]
 rw [h2] at h1
 exact h1
theorem AVQ (h:Hp) (row:List AV) (hr:row.length=4):EY Tryz.prog (h ++ [.live 4 [row]]) 121 (.ptr h.length 0 0) (.agg rSt)=some (h ++ [.live 4 [rSt]]):=by
 have h1:=KN (P:=Tryz.prog) (t:=121) (h:=h) (k:=4) (j:=0) (row:=row) (cs:=rSt) (v := .agg rSt) rfl OW (by rw [hr]; exact Nat.le_refl 4)
 have h2:splice row 0 rSt=rSt:=by unfold splice; simp [hr,rSt]
 rw [h2] at h1
 exact h1
theorem AXH (h:Hp):EN Tryz.prog false h 119 2 [(0,.sl .full 2 [[.int .i64 0,.int .i64 0]]),(1,.sl .full 2 [[.int .i64 1,.int .i64 1]])]=some (.sl .full 1 [[.sl .full 2 [[.int .i64 0,.int .i64 0]]],[.sl .full 2 [[.int .i64 1,.int .i64 1]]]],h):=by kernel_rfl
theorem AVC (s:ByteArray) (xs:List (List AV)):JV Tryz.prog 121 [(0,.str s),(3,.sl .full 1 xs)]=some (.agg [.str s,.int .i64 0,.sl .nil 0 [],.sl .full 1 xs]):=by kernel_rfl
theorem AVD (s:ByteArray) (xs:List (List AV)):JV Tryz.prog 121 [(0,.str s),(2,.sl .full 2 xs)]=some (.agg [.str s,.int .i64 0,.sl .full 2 xs,.sl .nil 0 []]):=by kernel_rfl
theorem AXB (h:Hp):EN Tryz.prog false h 54 3 [(0,.agg rL),(1,.agg rSt),(2,.agg rBa)]=some (.sl .full 4 [rL,rSt,rBa],h):=by kernel_rfl
theorem AXA (h:Hp):EN Tryz.prog false h 54 2 [(0,.agg rX),(1,.agg rY)]=some (.sl .full 4 [rX,rY],h):=by kernel_rfl
theorem AXM (s:ByteArray) (xs:List (List AV)):JV Tryz.prog 56 [(0,.str s),(1,.agg rE),(2,.sl .full 4 xs)]=some (.agg (.str s :: (rE ++ [.sl .full 4 xs]))):=by kernel_rfl
theorem AXE (h:Hp):EN Tryz.prog false h 22 2 [(0,.agg rP),(1,.agg rQ)]=some (.sl .full 6 [rP,rQ],h):=by kernel_rfl
theorem AU9 (h:Hp) (a b:Int):EN Tryz.prog false h 57 2 [(0,.int .i64 a),(1,.int .i64 b)]=some (.sl .full 1 [[.int .i64 a],[.int .i64 b]],h):=by kernel_rfl
theorem AXK (xs:List (List AV)):JV Tryz.prog 71 [(0,.str ⟨#[99]⟩),(1,.sl .full 1 xs)]=some (.agg [.str ⟨#[99]⟩,.sl .full 1 xs,.sl .nil 0 []]):=by kernel_rfl
theorem AXC (h:Hp):EN Tryz.prog false h 23 1 [(0,.agg rC)]=some (.sl .full 3 [rC],h):=by kernel_rfl
theorem AXN:JV Tryz.prog 25 [(0,.sl .full 6 [rP,rQ]),(1,.sl .full 3 [rC])]=some (.agg rM):=by kernel_rfl
theorem AN3 {H:Hp} {b:Nat} {row:List AV} (hb:H[b]? = some (.live 4 [row])) (hr:row.length=4):DL Tryz.prog H 121 (.ptr b 0 0)=some (.agg row):=by
 rw [IK UI OW hb rfl (by rw [hr]; exact Nat.le_refl 4),List.drop_zero,List.take_of_length_le (by omega)]
theorem AYN {H:Hp} {b:Nat} {row:List AV} (hb:H[b]? = some (.live 4 [row])) (hr:row.length=4):DL Tryz.prog H 53 (.ptr b 0 0)=some (.agg row):=by
 rw [IK AAM VF hb rfl (by rw [hr]; exact Nat.le_refl 4),List.drop_zero,List.take_of_length_le (by omega)]
structure Se6 (h H:Hp) (b1 b2 b3 b4 b5 b6:Nat):Prop where
 g0:H[h.length]? = some (.live 2 [[.sl .nil 0 [],.sl .nil 0 []]])
 g1:H[b1]? = some (.live 4 [rE])
 g2:H[b2]? = some (.live 4 [rL])
 g3:H[b3]? = some (.live 4 [rSt])
 g4:H[b4]? = some (.live 4 [rBa])
 g5:H[b5]? = some (.live 4 [rX])
 g6:H[b6]? = some (.live 4 [rY])
 hx:ext h H
theorem Se6.mk' (h:Hp):Se6 h (h ++ [ABlk.live 2 [[.sl .nil 0 [],.sl .nil 0 []]]] ++ [ABlk.live 4 [rE]] ++ [ABlk.live 4 [rL]] ++ [ABlk.live 4 [rSt]] ++ [ABlk.live 4 [rBa]] ++ [ABlk.live 4 [rX]] ++ [ABlk.live 4 [rY]])
  (h ++ [ABlk.live 2 [[.sl .nil 0 [],.sl .nil 0 []]]]).length (h ++ [ABlk.live 2 [[.sl .nil 0 [],.sl .nil 0 []]]] ++ [ABlk.live 4 [rE]]).length (h ++ [ABlk.live 2 [[.sl .nil 0 [],.sl .nil 0 []]]] ++ [ABlk.live 4 [rE]] ++ [ABlk.live 4 [rL]]).length
  (h ++ [ABlk.live 2 [[.sl .nil 0 [],.sl .nil 0 []]]] ++ [ABlk.live 4 [rE]] ++ [ABlk.live 4 [rL]] ++ [ABlk.live 4 [rSt]]).length (h ++ [ABlk.live 2 [[.sl .nil 0 [],.sl .nil 0 []]]] ++ [ABlk.live 4 [rE]] ++ [ABlk.live 4 [rL]] ++ [ABlk.live 4 [rSt]] ++ [ABlk.live 4 [rBa]]).length
  (h ++ [ABlk.live 2 [[.sl .nil 0 [],.sl .nil 0 []]]] ++ [ABlk.live 4 [rE]] ++ [ABlk.live 4 [rL]] ++ [ABlk.live 4 [rSt]] ++ [ABlk.live 4 [rBa]] ++ [ABlk.live 4 [rX]]).length :=
 ⟨CJ (CJ (CJ (CJ (CJ (CJ (C9 _ _)))))),CJ (CJ (CJ (CJ (CJ (C9 _ _))))),CJ (CJ (CJ (CJ (C9 _ _)))),CJ (CJ (CJ (C9 _ _))),CJ (CJ (C9 _ _)),CJ (C9 _ _),C9 _ _,((((((ext.rfl' h).app _).app _).app _).app _).app _).app _ |>.app _⟩
section
variable (G:Nat→AV)
set_option maxHeartbeats 2000000 in
theorem AEX (h:Hp):PCall (En G) 95 [] h (.agg (EC eM)):=by
 refine PCall.res (r := .agg rM) ?_ AV4
 refine ACalls.pure 3 (R:=fun v H=>v = .agg rM∧ext h H) ?_ (fun v h' ⟨e,x⟩=>⟨x,by subst e; rfl⟩)
 refine CE (H:=Hint.none) (enM G) Tryz.func95 rfl (by kernel_rfl) (by kernel_rfl) (nLb (by kernel_rfl)) ?_
 show awp _ _ _ _ _ (D9 _ [.cell 0 25] _)
 have E:=Se6.mk' h
 have s2 : ∀ h':Hp,EY Tryz.prog (h' ++ [.live 4 [[.str ⟨#[]⟩,.int .i64 0,.sl .nil 0 [],.sl .nil 0 []]]]) 121 (.ptr h'.length 0 0) (.agg [.str ⟨#[115,116,101,112]⟩,.int .i64 0,.sl .nil 0 [],.sl .full 1 [[.sl .full 2 [[.int .i64 0,.int .i64 0]]],[.sl .full 2 [[.int .i64 1,.int .i64 1]]]]])=some (h' ++ [.live 4 [rSt]]):=fun h'=>AVQ h' _ rfl
 have r1:rowB ⟨#[108,111,119]⟩ 0 0 1=rL:=rfl
 have r2:rowB ⟨#[98,97,100]⟩ 2 3 3=rBa:=rfl
 have r3:rowB ⟨#[120]⟩ 0 0 0=rX:=rfl
 have r4:rowB ⟨#[121]⟩ 0 1 9=rY:=rfl
 simp -implicitDefEqProofs only [FI,FQ,BC,BA,A8,AY,BB,AO,AQ,AL,BD,AX,AC,EM,AA,AZ,AU,BI,GZ,EZ,JL,EE,BQ,D6,BX,AB,DI,↓reduceIte,Nat.reduceEqDiff,oGs,bNf,enP,Option.getD_none,AXU,AXJ,AY8,AVS _ [.int .i64 0,.int .i64 0,.str ⟨#[]⟩,.sl .nil 0 []] rfl,ATQ,ATN,AXI,AVD,AVC,AXH,ASV,ATG _ _ _ _ _ [.str ⟨#[]⟩,.int .i64 0,.sl .nil 0 [],.sl .nil 0 []] rfl,s2,r1,r2,r3,r4]
 generalize h ++ [ABlk.live 2 [[.sl .nil 0 [],.sl .nil 0 []]]] ++ [ABlk.live 4 [rE]] ++ [ABlk.live 4 [rL]] ++ [ABlk.live 4 [rSt]] ++ [ABlk.live 4 [rBa]] ++ [ABlk.live 4 [rX]] ++ [ABlk.live 4 [rY]]=H at E ⊢
 generalize (h ++ [ABlk.live 2 [[.sl .nil 0 [],.sl .nil 0 []]]] ++ [ABlk.live 4 [rE]] ++ [ABlk.live 4 [rL]] ++ [ABlk.live 4 [rSt]] ++ [ABlk.live 4 [rBa]] ++ [ABlk.live 4 [rX]]).length=b6 at E ⊢
 generalize (h ++ [ABlk.live 2 [[.sl .nil 0 [],.sl .nil 0 []]]] ++ [ABlk.live 4 [rE]] ++ [ABlk.live 4 [rL]] ++ [ABlk.live 4 [rSt]] ++ [ABlk.live 4 [rBa]]).length=b5 at E ⊢
 generalize (h ++ [ABlk.live 2 [[.sl .nil 0 [],.sl .nil 0 []]]] ++ [ABlk.live 4 [rE]] ++ [ABlk.live 4 [rL]] ++ [ABlk.live 4 [rSt]]).length=b4 at E ⊢
 generalize (h ++ [ABlk.live 2 [[.sl .nil 0 [],.sl .nil 0 []]]] ++ [ABlk.live 4 [rE]] ++ [ABlk.live 4 [rL]]).length=b3 at E ⊢
 generalize (h ++ [ABlk.live 2 [[.sl .nil 0 [],.sl .nil 0 []]]] ++ [ABlk.live 4 [rE]]).length=b2 at E ⊢
 generalize (h ++ [ABlk.live 2 [[.sl .nil 0 [],.sl .nil 0 []]]]).length=b1 at E ⊢
 have p1:AV.str ⟨#[112]⟩ :: (rE ++ [.sl .full 4 [rL,rSt,rBa]])=rP:=rfl
 have p2:AV.str ⟨#[113]⟩ :: (rE ++ [.sl .full 4 [rX,rY]])=rQ:=rfl
 have c1 : [AV.str ⟨#[99]⟩,.sl .full 1 [[.int .i64 0],[.int .i64 1]],.sl .nil 0 []]=rC:=rfl
 have hst:EY Tryz.prog H 25 (.ptr h.length 0 0) (.agg rM)=some (H.set h.length (.live 2 [rM])):=by
  rw [NJ (v := .agg rM) (cs:=rM) (row := [.sl .nil 0 [],.sl .nil 0 []]) rfl AM2 E.g0 (Nat.le_refl 2)]; rfl
 simp -implicitDefEqProofs only [FI,FQ,BK,A8,AY,BB,AO,AQ,AL,BD,AX,AC,EM,AA,AZ,AU,BI,GZ,JL,EE,BQ,D6,BX,AB,DI,↓reduceIte,Nat.reduceEqDiff,oGs,bNf,enP,Option.getD_none,AYN E.g1 rfl,AN3 E.g2 rfl,AN3 E.g3 rfl,AN3 E.g4 rfl,AN3 E.g5 rfl,AN3 E.g6 rfl,AXB,AXA,AXM,p1,p2,AXE,AU9,AXK,c1,AXC,AXN,hst]
 rw [AUZ (b:=h.length) (by simp -implicitDefEqProofs only [AA,↓reduceIte,Nat.reduceEqDiff]) (x := .agg rM) (by rw [IK AVE AM2 (DZ E.g0) rfl (Nat.le_refl 2)]; rfl)]
 exact ⟨rfl,E.hx.set (Nat.le_refl _) _⟩
end
def sgA (v:Int):Ss:=⟨.full,[(⟨#[97]⟩,v)]⟩
theorem AWJ:Frz KF:=fun _ _ _ _=>⟨rfl,rfl⟩
theorem AXQ (s:ByteArray) (v:Int):JV Tryz.prog 187 [(0,.str s),(1,.int .i64 v)]=some (.agg [.str s,.int .i64 v]):=by kernel_rfl
theorem AU7 (h:Hp) (s:ByteArray) (v:Int):EN Tryz.prog false h 58 1 [(0,.agg [.str s,.int .i64 v])]=some (.sl .full 2 [[.str s,.int .i64 v]],h):=by kernel_rfl
theorem AU6 (h:Hp) (xs:List (List AV)):EN Tryz.prog false h 64 1 [(0,.sl .full 2 xs)]=some (.sl .full 1 [[.sl .full 2 xs]],h):=by kernel_rfl
section
variable (G:Nat→AV)
theorem YS (xs:List Int) (s:SM) (h:Hp) (hn:xs.length≤1048576):PCall (En G) 96 [.sl s 1 (xs.map encI)] h (.sl (nm (xs.map sgA)) 1 ((xs.map sgA).map KF)):=by
 refine TF AWJ ?_
 refine CE (H:=Hint.none) (enM G) Tryz.func96 rfl (by kernel_rfl) (by kernel_rfl) (nLb (by kernel_rfl)) ?_
 show awp _ _ _ _ _ (D9 _ [.tmp 2] _)
 simp -implicitDefEqProofs only [BC,BV,BA,A8,AY,BB,AO,AQ,AL,BD,AX,AC,AU,BI,JS,A7,oGs,bNf,enP]
 refine DY (fun n F H => ∃ k u,n+k=xs.length∧F 0 = .sl s 1 (xs.map encI)∧F 3=u∧F 4 = .int .i64 (k:Nat)∧ext h H∧outG 1 KF h ((xs.take k).map sgA) u H) xs.length
  ⟨0,.sl .nil 0 [],by simp,by simp -implicitDefEqProofs only [AA,BF,↓reduceIte,Nat.reduceEqDiff],by simp -implicitDefEqProofs only [AA,↓reduceIte,Nat.reduceEqDiff],by simp -implicitDefEqProofs only [AA,↓reduceIte] <;> rfl,ext.rfl' _,outG.nil _ _ _ _⟩ ?_
 rintro n F H ⟨k,u,hk,f0,f3,f4,hx,ho⟩
 simp -implicitDefEqProofs only [BC,BA,BL,A8,AY,BB,AO,AQ,AL,BD,AX,AC,AA,AZ,BG,BU,D8,AB,DT,↓reduceIte,Nat.reduceEqDiff,oGs,bNf,enP,J6,f0,f4,lLm]
 refine DC (fun hc => ?_) (fun hc => ?_)
 ·have hk':k < xs.length:=by simpa using hc
  obtain ⟨u',H3,ha,ho2,_,hx2,_,_⟩:=ho.append (P:=Tryz.prog) AVM AT3 AYE AY0 (by omega) (by simp <;> omega) hx (sgA xs[k])
  have ha':GI Tryz.prog true H 64 64 u (.sl .full 1 [[.sl .full 2 [[.str ⟨#[97]⟩,.int .i64 xs[k]]]]])=some (u',H3):=ha
  have e:(xs.take k).map sgA ++ [sgA xs[k]]=(xs.take (k+1)).map sgA:=by rw [List.take_succ_eq_append_getElem hk',List.map_append]; rfl
  rw [e] at ho2
  simp -implicitDefEqProofs only [FI,FQ,BC,BV,BA,BR,A8,EP,FC,AY,BB,AO,AQ,AL,BD,AX,AC,AA,AZ,AU,BI,GZ,BG,A7,JL,EE,BQ,BU,CV,H9,BX,AB,DV,↓reduceIte,Nat.reduceEqDiff,oGs,bNf,enP,MB,f0,f3,f4,EF hk',EI ag3 hk',AIB,AXQ,AU7,AU6,ha',wrap_succ (show k < 9223372036854775807 by omega)]
  exact ⟨n - 1,by omega,k+1,u',by omega,by first | trivial | exact f0,by first | trivial | rfl,by first | trivial | rfl,hx2,ho2⟩
 ·have hk' : ¬ k < xs.length:=by simpa using hc
  rw [List.take_of_length_le (by omega)] at ho
  simp -implicitDefEqProofs only [BC,BA,BK,DW,A8,ER,FN,FM,CP,AY,BB,AO,AQ,AL,BD,AX,AC,AA,AZ,BG,A7,↓reduceIte,Nat.reduceEqDiff,oGs,bNf,f3]
  exact ⟨hx,ho⟩
theorem AWO (l:List Ss) (s:SM) (hn:l.length≤1048576) (h:Hp):Rk.SomeB (En G) 47 [.sl s 1 (l.map KF)] h:=by
 refine Rk.SomeB.of ?_
 refine CE (H:=Hint.none) (enM G) Tryz.func47 rfl (by kernel_rfl) (by kernel_rfl) (nLb (by kernel_rfl)) ?_
 show awp _ _ _ _ _ (D9 _ [.tmp 2] _)
 simp -implicitDefEqProofs only [BC,BV,BA,A8,AY,BB,AO,AQ,AL,BD,AX,AC,AU,BI,BJ,A7,oGs,bNf,enP]
 refine DY (fun n F H => ∃ i,n+i=l.length∧F 0 = .sl s 1 (l.map KF)∧F 3 = .int .i64 (i:Nat)∧H=h) l.length ⟨0,by simp,by simp -implicitDefEqProofs only [AA,BF,↓reduceIte,Nat.reduceEqDiff],by simp -implicitDefEqProofs only [AA,↓reduceIte] <;> rfl,rfl⟩ ?_
 rintro n F H ⟨i,hi,f0,f3,rfl⟩
 simp -implicitDefEqProofs only [BC,BA,AY,BH,BN,CO,AO,AQ,AL,BD,AX,AC,AA,AZ,BG,BU,D8,AB,DT,↓reduceIte,Nat.reduceEqDiff,oGs,bNf,enP,ALB,f0,f3,lLm]
 cases hc:decide (((i:Nat):Int) < ((l.length:Nat):Int))
 ·simp -implicitDefEqProofs only [BC,BA,BK,DW,BL,A8,ER,FN,FM,CP,D5,AY,BB,BH,BN,CO,G5,AO,AQ,AL,BD,AX,AC,AA,EJ,AZ,AU,BI,BJ,BG,A7,CQ,DN,BU,D8,AB,IV,↓reduceIte,Nat.reduceEqDiff,oGs,bNf,enP,ALB,f0,lLm]
  exact ⟨⟨_,rfl⟩,ext.rfl' _⟩
 have hi':i < l.length:=by simpa using hc
 simp -implicitDefEqProofs only [BL,A8,AY,BB,BH,BN,CO,FV,AO,AQ,AL,BD,AX,AC,AA,AZ,AU,BI,BJ,BG,CQ,DR,BU,AB,DT,↓reduceIte,Nat.reduceEqDiff,oGs,bNf,enP,f3]
 refine DC (fun hb => ?_) (fun hb => ?_)
 ·simp -implicitDefEqProofs only [BC,BV,BA,BR,BL,A8,AY,BB,AO,AQ,AL,BD,AX,AC,AA,AZ,AU,BI,BG,BQ,BU,CV,D8,AB,FU,↓reduceIte,Nat.reduceEqDiff,oGs,bNf,enP,AWF,ARU,f0,f3,EF hi',EI APT hi',AIA,lLm]
  refine DC (fun hd => ?_) (fun hd => ?_)
  ·simp -implicitDefEqProofs only [BC,BA,BK,A8,CX,ED,FY,CP,AY,BB,AO,AQ,AL,BD,AX,AC,AA,AU,BJ,A7,↓reduceIte,oGs,bNf]
   exact ⟨⟨_,rfl⟩,ext.rfl' _⟩
  ·simp -implicitDefEqProofs only [BA,BR,A8,EP,FC,AY,BB,AO,AQ,AL,BD,AX,AC,AA,AZ,AU,BI,BG,A7,BU,AB,DV,↓reduceIte,Nat.reduceEqDiff,oGs,bNf,enP,f3,wrap_succ (show i < 9223372036854775807 by omega)]
   exact ⟨n - 1,by omega,i+1,by omega,by first | trivial | exact f0,by first | trivial | rfl,trivial⟩
 ·simp -implicitDefEqProofs only [BC,BA,BK,DW,A8,ER,FN,FM,CP,AY,BB,AO,AQ,AL,BD,AX,AC,AA,AZ,AU,BI,BG,A7,BU,D8,AB,IV,↓reduceIte,Nat.reduceEqDiff,oGs,bNf,enP,ALB,f0,lLm]
  exact ⟨⟨_,rfl⟩,ext.rfl' _⟩
end
theorem eM_ok:MoOk eM:=⟨by decide,by decide,fun p hp=>by
 simp only [eM,List.mem_cons,List.not_mem_nil,or_false] at hp
 rcases hp with rfl | rfl
 ·exact ⟨by decide +kernel,by decide,by decide,fun b hb=>by
  simp only [eP,List.mem_cons,List.not_mem_nil,or_false] at hb
  rcases hb with rfl | rfl | rfl <;> exact ⟨by decide,by decide,by decide,by decide⟩⟩
 ·exact ⟨by decide +kernel,by decide,by decide,fun b hb=>by
  simp only [eQ,List.mem_cons,List.not_mem_nil,or_false] at hb
  rcases hb with rfl | rfl <;> exact ⟨by decide,by decide,by decide,by decide⟩⟩,fun c hc=>by
 simp only [eM,List.mem_singleton] at hc
 subst hc
 exact ⟨by decide,by decide,by decide,fun x hx=>by cases hx⟩⟩
theorem AWS:PtOk eP:=eM_ok.pts eP (by simp [eM])
def e46L:List Ss:=([0,1,3,1]:List Int).map sgA
def AGC:Cvr:=⟨.any,[⟨.any,[3,1,0]⟩,⟨.any,[1,3]⟩],.any,[⟨.any,[1,2,0,1,0,0]⟩],4,1⟩
theorem AWV:VK eM (e46L.map Ss.l)=0:=by kernel_rfl
theorem AWT:QA eM (e46L.map Ss.l)=AGC:=by kernel_rfl
theorem AWU:ptE eP [0] [(⟨#[97]⟩,1)]=⟨[0,1],[0,1],false,0⟩:=by kernel_rfl
def zM:Mo:=⟨.full,[⟨⟨#[]⟩,.mk 0 0 ⟨#[]⟩ .nil [],.nil,[]⟩],.nil,[]⟩
theorem AYF:FW zM=7:=by kernel_rfl
theorem AVI:MoOk zM:=⟨by decide,by decide,fun p hp=>by
 simp only [zM,List.mem_singleton] at hp
 subst hp
 exact ⟨by decide +kernel,by decide,by decide,fun b hb=>by cases hb⟩,fun c hc=>by cases hc⟩
def AP6:List AV := [.str ⟨#[]⟩,.int .i64 0,.int .i64 0,.str ⟨#[]⟩,.sl .nil 0 [],.sl .nil 0 []]
theorem AXL:JV Tryz.prog 56 []=some (.agg AP6):=by kernel_rfl
theorem AXD (h:Hp):EN Tryz.prog false h 22 1 [(0,.agg AP6)]=some (.sl .full 6 [AP6],h):=by kernel_rfl
theorem AVJ:CvRL [.agg [.sl .full 6 [AP6],.sl .nil 0 []]] [.agg (EC zM)]:=CvRL.cons (CvR.agg (CvRL.cons (CvR.sl (cv1 (CvRow.cons rfl (Cv.refl _) (CvRow.cons rfl (Cv.refl _) (CvRow.cons rfl (Cv.refl _) (CvRow.cons rfl (Cv.refl _) (CvRow.cons rfl (Cv.nil 0 4) (CvRow.cons rfl (Cv.nil 0 4) CvRow.nil)))))))) (CvRL.cons (CvR.sl (Cv.nil 0 3)) CvRL.nil))) CvRL.nil
theorem AU8 (h:Hp) (a b c d:Int):EN Tryz.prog false h 57 4 [(0,.int .i64 a),(1,.int .i64 b),(2,.int .i64 c),(3,.int .i64 d)]=some (.sl .full 1 [[.int .i64 a],[.int .i64 b],[.int .i64 c],[.int .i64 d]],h):=by kernel_rfl
theorem AYP:AAQ Tryz.prog 25 (.agg (EC eM)) 0=some (.sl .full 6 [FO eP,FO eQ]):=by kernel_rfl
theorem AV5:ptV ⟨[0,1],[0,1],false,0⟩ = .tup [.sl .any 1 [[.int .i64 0],[.int .i64 1]],.sl .any 1 [[.int .i64 0],[.int .i64 1]],.bool false,.int .i64 0]:=rfl
section
variable (G:Nat→AV)
set_option maxHeartbeats 4000000 in
theorem TN (hG:GOk G) (hT:PX G) (h:Hp):PCall (En G) 42 [] h (.bool true):=by
 refine ACalls.pure0 rfl ?_
 refine CE (H:=Hint.none) (enM G) Tryz.func42 rfl (by kernel_rfl) (by kernel_rfl) (nLb (by kernel_rfl)) ?_
 show awp _ _ _ _ _ (D9 _ [.tmp 0] _)
 simp -implicitDefEqProofs only [BC,BA,A8,AY,BB,AO,AQ,AL,BD,AX,AC,AU,CB,BJ,A7,CG,BP,lMn,lAn,oGs,bNf,enP]
 refine (AEX G h).use ?_
 simp -implicitDefEqProofs only [FI,FQ,AY,AO,AQ,AL,BD,AX,AC,AA,AZ,AU,CB,BI,EE,CG,BP,BX,lMc,lMn,lAn,↓reduceIte,oGs,bNf,enP,AU8]
 refine (show PCall (En G) 96 [.sl .full 1 [[.int .i64 0],[.int .i64 1],[.int .i64 3],[.int .i64 1]]] h (.sl .any 1 (e46L.map KF)) from YS G [0,1,3,1] .full h (by decide)).use ?_
 simp -implicitDefEqProofs only [AY,AO,AQ,AL,BD,AX,AC,AA,AZ,CB,CG,BP,lMc,lMn,lAn,↓reduceIte,Nat.reduceEqDiff,oGs,bNf]
 have hR:=AAS G hG hT eM eM_ok e46L .any h (by decide) (by decide)
 rw [AWT,AWV] at hR
 refine hR.use ?_
 simp -implicitDefEqProofs only [List.getElem?_cons_zero,List.getElem?_cons_succ,BC,A8,AY,BB,AO,AQ,AL,BD,AX,AC,EM,AA,AZ,BG,A7,EZ,D6,FT,IG,BX,AB,DI,↓reduceIte,Nat.reduceEqDiff,oGs,bNf,enP,Option.getD_none,NQ,AT5]
 have g:=C9 h (ABlk.live 4 [ES AGC])
 have hx:=(ext.rfl' h).app [ABlk.live 4 [ES AGC]]
 generalize h ++ [ABlk.live 4 [ES AGC]]=H at g hx ⊢
 refine F7 (by kernel_rfl) ?_
 simp -implicitDefEqProofs only [GR,EU,D7,EW,AQA,IJ,IB,AO,AA,AZ,CB,AQC,lMn,lAn,↓reduceIte,Nat.reduceAdd,oGs,enP]
 refine ⟨_,AEX G H,?_⟩
 have i0:JP 6 H (.sl .full 6 [FO eP,FO eQ]) (.int .i64 0)=some (.fptr 6 [FO eP,FO eQ] 0 0):=rfl
 have d0:DL Tryz.prog H 56 (.fptr 6 [FO eP,FO eQ] 0 0)=some (.agg (FO eP)):=FK (f:=FO) (xs := [eP,eQ]) (n:=0) AA9 X8 II (by decide)
 simp -implicitDefEqProofs only [GR,FI,FQ,EU,D7,EW,JX,F9,GG,IJ,IB,AO,AA,AZ,AU,CB,BI,EE,BQ,CV,BX,AB,lMc,lMn,lAn,↓reduceIte,Nat.reduceAdd,oGs,enP,UZ,ARU,AYP,i0,d0,AL7]
 refine ⟨_,(show PCall (En G) 96 [.sl .full 1 [[.int .i64 1]]] H (.sl .any 1 [KF (sgA 1)]) from YS G [1] .full H (by decide)),?_⟩
 have i1:JP 1 H (.sl .any 1 [KF (sgA 1)]) (.int .i64 0)=some (.fptr 1 [KF (sgA 1)] 0 0):=rfl
 have d1:DL Tryz.prog H 58 (.fptr 1 [KF (sgA 1)] 0 0)=some (.sl .full 2 [GH (⟨#[97]⟩,1)]):=O3 (row:=KF (sgA 1)) APT rfl rfl
 simp -implicitDefEqProofs only [GR,EU,D7,EW,G7,F9,J9,IJ,IB,AO,AA,AZ,CB,BQ,FT,AB,lMc,lMn,lAn,↓reduceIte,Nat.reduceEqDiff,Nat.reduceAdd,oGs,enP,i1,d1]
 have hP:PCall (En G) 43 [.agg (FO eP),.sl .full 1 [[.int .i64 0]],.sl .full 2 [GH (⟨#[97]⟩,1)]] H (ptV (ptE eP [0] [(⟨#[97]⟩,1)])):=U9 G hG eP AWS [0] .full [(⟨#[97]⟩,1)] .full H (by decide) (by decide)
 rw [AWU,AV5] at hP
 refine ⟨_,hP,?_⟩
 have l0:DL Tryz.prog H 26 (.ptr h.length 0 0)=some (.sl .any 1 [[.sl .any 1 [[.int .i64 3],[.int .i64 1],[.int .i64 0]]],[.sl .any 1 [[.int .i64 1],[.int .i64 3]]]]):=by rw [DK OA g (row:=ES AGC) rfl]; rfl
 have l1:DL Tryz.prog H 26 (.ptr h.length 0 1)=some (.sl .any 1 [[.sl .any 1 [[.int .i64 1],[.int .i64 2],[.int .i64 0],[.int .i64 1],[.int .i64 0],[.int .i64 0]]]]):=by rw [DK OA g (row:=ES AGC) rfl]; rfl
 have l2:DL Tryz.prog H 3 (.ptr h.length 0 2)=some (.int .i64 4):=by rw [DK ag3 g (row:=ES AGC) rfl]; rfl
 have l3:DL Tryz.prog H 3 (.ptr h.length 0 3)=some (.int .i64 1):=by rw [DK ag3 g (row:=ES AGC) rfl]; rfl
 have j0 : ∀ (xs:List (List AV)) (x:List AV),JP 1 H (.sl .any 1 (x :: xs)) (.int .i64 0)=some (.fptr 1 (x :: xs) 0 0):=fun xs x=>ABU (i:=0) (by decide) (by simp <;> omega)
 have j1 : ∀ (xs:List (List AV)) (x y:List AV),JP 1 H (.sl .any 1 (x :: y :: xs)) (.int .i64 1)=some (.fptr 1 (x :: y :: xs) 1 0):=fun xs x y=>ABU (i:=1) (by decide) (by simp <;> omega)
 have j2 : ∀ (xs:List (List AV)) (x y z:List AV),JP 1 H (.sl .any 1 (x :: y :: z :: xs)) (.int .i64 2)=some (.fptr 1 (x :: y :: z :: xs) 2 0):=fun xs x y z=>ABU (i:=2) (by decide) (by simp <;> omega)
 have j3 : ∀ (xs:List (List AV)) (x y z w:List AV),JP 1 H (.sl .any 1 (x :: y :: z :: w :: xs)) (.int .i64 3)=some (.fptr 1 (x :: y :: z :: w :: xs) 3 0):=fun xs x y z w=>ABU (i:=3) (by decide) (by simp <;> omega)
 have m0 : ∀ (xs:List (List AV)) (v:AV),DL Tryz.prog H 57 (.fptr 1 ([v] :: xs) 0 0)=some v:=fun xs v=>O3 (row := [v]) NR rfl rfl
 have n0 : ∀ (xs:List (List AV)) (v:AV),DL Tryz.prog H 3 (.fptr 1 ([v] :: xs) 0 0)=some v:=fun xs v=>O3 (row := [v]) ag3 rfl rfl
 have n1 : ∀ (xs:List (List AV)) (x:List AV) (v:AV),DL Tryz.prog H 3 (.fptr 1 (x :: [v] :: xs) 1 0)=some v:=fun xs x v=>O3 (row := [v]) ag3 rfl rfl
 have n2 : ∀ (xs:List (List AV)) (x y:List AV) (v:AV),DL Tryz.prog H 3 (.fptr 1 (x :: y :: [v] :: xs) 2 0)=some v:=fun xs x y v=>O3 (row := [v]) ag3 rfl rfl
 have n3 : ∀ (xs:List (List AV)) (x y z:List AV) (v:AV),DL Tryz.prog H 3 (.fptr 1 (x :: y :: z :: [v] :: xs) 3 0)=some v:=fun xs x y z v=>O3 (row := [v]) ag3 rfl rfl
 have z7:((7:Int) == 7)=true:=rfl
 have c2:(((2:Nat):Int) == 2)=true:=rfl
 have c1:(((1:Nat):Int) == 1)=true:=rfl
 have c3:(((3:Nat):Int) == 3)=true:=rfl
 have c6:(((6:Nat):Int) == 6)=true:=rfl
 simp -implicitDefEqProofs only [GR,List.getElem?_cons_zero,List.getElem?_cons_succ,FI,FQ,EU,D7,FZ,EW,J5,J9,BC,BA,BR,BL,A8,D5,AY,BB,BH,BN,CO,FV,EG,AO,AQ,AL,BD,AX,AC,AA,AZ,AU,CB,BI,BJ,BG,CQ,DR,DN,JL,EE,BQ,BU,GV,BM,CV,FT,IG,D8,CG,BP,BX,AB,DX,EQ,EX,lMc,lMn,lAn,↓reduceIte,Nat.reduceEqDiff,Nat.reduceAdd,Nat.add_zero,Nat.zero_add,oGs,bNt,bNf,enP,TV,YB,N8,N7,ADH,ADG,MB,J6,bne,beq_self_eq_true,l0,l1,l2,l3,j0,j1,j2,j3,m0,n0,n1,n2,n3,List.length_cons,List.length_nil,c1,c2,c3,c6,AXL,AXD,AXO]
 have hV:=(LH G hG zM AVI H).args AVJ
 rw [AYF] at hV
 refine hV.use ?_
 simp -implicitDefEqProofs only [BK,A8,CP,AY,BB,BH,BN,CO,FV,AO,AQ,AL,BD,AX,AC,AA,AZ,AU,BI,BJ,A7,CQ,DR,BU,AB,DX,↓reduceIte,Nat.reduceEqDiff,oGs,bNf,enP,z7]
 exact ⟨by first | trivial | rfl,hx⟩
end
theorem getD_at (xs:List Int) (k:Nat) (hk:k < xs.length):xs.getD k 0=xs[k]:=by rw [List.getD_eq_getElem?_getD,List.getElem?_eq_getElem hk]; rfl
theorem ACX (xs:List Int) (b k:Nat) (hb:b < xs.length):(raiseAt xs b).getD k 0=if b=k then rz (xs.getD b 0) else xs.getD k 0:=by
 unfold raiseAt
 rw [List.getD_eq_getElem?_getD,List.getElem?_set]
 split
 ·rfl
 ·rw [List.getD_eq_getElem?_getD]
theorem WB (k:Nat) : ∀ (hit:List Nat) (xs:List Int),hit.Nodup→(∀ x∈hit,x < xs.length)→(rowP hit xs).getD k 0=if k∈hit then rz (xs.getD k 0) else xs.getD k 0
 | [],xs,_,_=>by simp [rowP]
 | b :: hit,xs,hn,hl=>by
   obtain ⟨h1,h2⟩:=List.nodup_cons.1 hn
   have hb:=hl b (by simp)
   have ih:=WB k hit (raiseAt xs b) h2 (fun x hx=>by rw [PN]; exact hl x (by simp [hx]))
   have e:rowP (b :: hit) xs=rowP hit (raiseAt xs b):=rfl
   rw [e,ih,ACX xs b k hb]
   by_cases hk:k∈hit
   ·have hne:b≠k:=fun q=>h1 (by rw [q]; exact hk)
    rw [if_pos hk,if_neg hne,if_pos (by simp [hk])]
   ·rw [if_neg hk]
    by_cases hbk:b=k
    ·subst hbk
     rw [if_pos rfl,if_pos (by simp)]
    ·rw [if_neg hbk,if_neg (by simp [hk]; exact fun q=>hbk q.symm)]
theorem XP (bins:List Bin) (last:List Int) (v kind:Int) : ∀ k,(KY bins last v kind k).Nodup
 | 0=>by simp [KY]
 | k+1=>by
   have ih:=XP bins last v kind k
   simp only [KY]
   split
   ·refine List.nodup_append.2 ⟨ih,by simp,fun a ha c hc e => ?_⟩
    simp at hc
    have:=ZN bins last v kind k a ha
    omega
   ·simpa using ih
theorem ABP (p:Pt) (last:List Int) (l:List Sg):(ptE p last l).hit.Nodup:=by
 unfold ptE
 split
 ·simp
 ·split
  ·simp
  ·split
   ·simp
   ·split
    ·simp
    ·exact XP _ _ _ _ _
theorem ZO (bins:List Bin) (last:List Int) (v:Int) : ∀ k,∀ x∈KY bins last v 0 k,∃ b,bins[x]? = some b∧(b.kind == 0)=true
 | 0,x,hx=>by simp [KY] at hx
 | k+1,x,hx=>by
   simp only [KY] at hx
   rcases List.mem_append.1 hx with h | h
   ·exact ZO bins last v k x h
   ·split at h
    ·rename_i hq
     simp at h; subst h
     cases hb:bins[x]? with
     | none=>rw [hb] at hq; cases hq
     | some b =>
       rw [hb] at hq
       have hK1:hK last v 0 b=true:=hq
       unfold hK at hK1
       rw [Bool.and_eq_true] at hK1
       exact ⟨b,rfl,hK1.1⟩
    ·cases h
theorem ANI (p:Pt) (last:List Int) (l:List Sg) : ∀ x∈(ptE p last l).hit,(kindOf p x == 0)=true:=by
 intro x hx
 unfold ptE at hx
 split at hx
 ·cases hx
 ·split at hx
  ·cases hx
  ·split at hx
   ·cases hx
   ·split at hx
    ·cases hx
    ·obtain ⟨b,h1,h2⟩:=ZO _ _ _ _ x hx
     unfold kindOf; rw [h1]; exact h2
theorem RS {p:Nat→Bool} : ∀ {l:List Int} {k:Nat},TT p k l=true↔∀ j,j < l.length→countB (l.getD j 0) (p (k+j))=true
 | [],k=>by simp [TT]
 | n :: l,k=>by
   simp only [TT,Bool.and_eq_true]
   rw [RS (l:=l) (k:=k+1)]
   constructor
   ·rintro ⟨h1,h2⟩ j hj
    cases j with
    | zero=>exact h1
    | succ j =>
      have:=h2 j (by simpa using hj)
      rw [show k+(j+1)=k+1+j by omega]; exact this
   ·intro h
    refine ⟨h 0 (by simp),fun j hj => ?_⟩
    have:=h (j+1) (by simpa using hj)
    rw [show k+(j+1)=k+1+j by omega] at this; exact this
theorem ACB {n:Int} {p:Bool} (h:countB n p=true) (hp:p=true):countB (rz n) p=true:=by
 have h1:=UH h
 subst hp
 unfold countB
 simp only [Bool.true_or,Bool.and_true]
 rw [LZ] at *
 unfold rz; omega
theorem ANP {p:Pt} {last:List Int} {env:List Sg} {x y:Is} (hx:okP p x=true) (hy:y.l=rowP (ptE p last env).hit x.l):okP p y=true:=by
 unfold okP at *
 simp only [Bool.and_eq_true,beq_iff_eq] at *
 rw [hy,OZ]
 refine ⟨hx.1,RS.2 fun j hj => ?_⟩
 rw [OZ] at hj
 have h2:=RS.1 hx.2 j hj
 rw [WB j _ _ (ABP _ _ _) (fun z hz=>by rw [hx.1]; exact AHK _ _ _ z hz)]
 split
 ·rename_i hm
  exact ACB h2 (by rw [Nat.zero_add]; exact ANI _ _ _ j hm)
 ·exact h2
theorem AK1 (m:Mo) (x:Cr) (hits:List (List Nat)) (xs:List Int) (k:Nat) (hk:k < xs.length):(rowC m x hits xs).getD k 0=if crK m x hits k=true then rz (xs.getD k 0) else xs.getD k 0:=by
 have hl:k < (rowC m x hits xs).length:=by rw [O0]; exact hk
 rw [getD_at _ _ hl,Y6 m x hits xs k hk hl,getD_at _ _ hk]
theorem ANQ {m:Mo} {c:Cr} {hits:List (List Nat)} {x y:Is} (hx:okC m c x=true) (hy:y.l=rowC m c hits x.l):okC m c y=true:=by
 unfold okC at *
 simp only [Bool.and_eq_true,beq_iff_eq] at *
 rw [hy,O0]
 refine ⟨hx.1,RS.2 fun j hj => ?_⟩
 rw [O0] at hj
 have h2:=RS.1 hx.2 j hj
 rw [AK1 m c hits _ j hj]
 split
 ·rename_i hm
  unfold crK at hm
  rw [Bool.and_eq_true] at hm
  exact ACB h2 (by rw [Nat.zero_add]; exact hm.1)
 ·exact h2
theorem ADB {α:Type} {ok:α→Is→Bool} : ∀ {ws:List α} {xs:List Is},ws.length=xs.length→(∀ (i:Nat) (a:α) (x:Is),ws[i]? = some a→xs[i]? = some x→ok a x=true)→J7 ok ws xs=true
 | [],[],_,_=>rfl
 | w :: ws,x :: xs,hl,h=>by
   simp only [J7,Bool.and_eq_true]
   exact ⟨h 0 w x rfl rfl,ADB (by simpa using hl) fun i a y h1 h2=>h (i+1) a y (by simpa using h1) (by simpa using h2)⟩
 | [],_ :: _,hl,_=>by simp at hl
 | _ :: _,[],hl,_=>by simp at hl
def stO (c:Cvr) (t:Tk):St:=⟨c.pts.map Is.l,c.crs.map Is.l,c.sam,c.ill,t.last.map Is.l⟩
def isL (P:List (List Int)):List Is:=P.map fun x=>⟨nm x,x⟩
def tkS (s:St):Tk:=⟨nm (isL s.ls),isL s.ls⟩
structure FitS (m:Mo) (s:St):Prop where
 me:FW m=0
 fp:J7 okP m.pts (OJ s.P)=true
 fc:J7 (okC m) m.crs (OJ s.C)=true
 ws:JM s.sam=true
 wi:JM s.ill=true
 ll:s.ls.length=m.pts.length
 lb : ∀ l∈s.ls,lastB l=true
theorem AJL {p:Pt} {x y:Is} (h:x.l=y.l):okP p x=okP p y:=by unfold okP; rw [h]
theorem AJM {m:Mo} {c:Cr} {x y:Is} (h:x.l=y.l):okC m c x=okC m c y:=by unfold okC; rw [h]
theorem PH (P:List (List Int)):(OJ P).map (·.l)=P:=by unfold OJ; rw [List.map_map]; exact List.map_id _
theorem ADA {m:Mo} {c:Cvr} {t:Tk} (hc:LC m c=true) (ht:VC m t=true):FitS m (stO c t):=by
 obtain ⟨h1,h2,h3,h4,h5⟩:=QD.1 hc
 unfold VC at ht
 simp only [Bool.and_eq_true,beq_iff_eq] at ht
 obtain ⟨⟨_,k1⟩,k2⟩:=ht
 refine ⟨h1,?_,?_,h4,h5,?_,fun l hl => ?_⟩
 ·rw [← h2]
  exact SA (ok:=okP) (fun _ _ _ h=>AJL h) _ _ _ (PH _)
 ·rw [← h3]
  exact SA (ok:=okC m) (fun _ _ _ h=>AJM h) _ _ _ (PH _)
 ·show (t.last.map Is.l).length=_
  rw [lLm]; omega
 ·obtain ⟨x,hx,rfl⟩:=List.mem_map.1 hl
  exact List.all_eq_true.1 k2 x hx
theorem FitS.fits {m:Mo} {s:St} (h:FitS m s):LC m (cvS s)=true:=QD.2 ⟨h.me,h.fp,h.fc,h.ws,h.wi⟩
theorem FitS.trk {m:Mo} {s:St} (h:FitS m s):VC m (tkS s)=true:=by
 unfold VC tkS isL
 have h1:=h.me; have h2:=h.ll
 simp only [Bool.and_eq_true,beq_iff_eq,lLm,List.all_map]
 refine ⟨⟨h1,by omega⟩,?_⟩
 rw [List.all_eq_true]
 exact fun x hx=>h.lb x hx
theorem QE {α:Type} {ok:α→Is→Bool} {ws:List α} {xs:List Is} (h:J7 ok ws xs=true) (i:Nat) (a:α) (x:Is) (h1:ws[i]? = some a) (h2:xs[i]? = some x):ok a x=true:=by
 obtain ⟨y,hy,hk⟩:=AFY h i a h1
 rw [h2] at hy; cases hy; exact hk
theorem FitS.ok {m:Mo} {s:St} (h:FitS m s):StOk m s:=by
 have lp:=O6 h.fp
 have lc:=O6 h.fc
 have hpl:s.P.length=m.pts.length:=by rw [lp]; simp [OJ]
 have hcl:s.C.length=m.crs.length:=by rw [lc]; simp [OJ]
 refine ⟨⟨hpl,hcl,fun i a b => ?_,fun i a b => ?_,fun xs hx => ?_,fun xs hx => ?_⟩,h.ll,fun l hl => ?_,LZ.1 h.ws,LZ.1 h.wi⟩
 ·have:=QE h.fp i m.pts[i] ⟨.any,s.P[i]⟩ (List.getElem?_eq_getElem b) (by simp [OJ])
  unfold okP at this
  simp only [Bool.and_eq_true,beq_iff_eq] at this
  exact this.1
 ·have:=QE h.fc i m.crs[i] ⟨.any,s.C[i]⟩ (List.getElem?_eq_getElem b) (by simp [OJ])
  unfold okC at this
  simp only [Bool.and_eq_true,beq_iff_eq] at this
  exact this.1
 ·obtain ⟨i,hi,rfl⟩:=List.getElem_of_mem hx
  have:=QE h.fp i m.pts[i] ⟨.any,s.P[i]⟩ (List.getElem?_eq_getElem (by omega)) (by simp [OJ])
  unfold okP at this
  rw [Bool.and_eq_true] at this
  exact fun n hn=>LZ.1 (RQ this.2 n hn)
 ·obtain ⟨i,hi,rfl⟩:=List.getElem_of_mem hx
  have:=QE h.fc i m.crs[i] ⟨.any,s.C[i]⟩ (List.getElem?_eq_getElem (by omega)) (by simp [OJ])
  unfold okC at this
  rw [Bool.and_eq_true] at this
  exact fun n hn=>LZ.1 (RQ this.2 n hn)
 ·have:=h.lb l hl
  unfold lastB at this
  rw [Bool.and_eq_true] at this
  simpa using this.1
theorem YR {n:Int} (h:JM n=true):JM (rz n)=true:=by
 rw [LZ] at *
 unfold rz; omega
theorem AUY (l:List Sg) (e:Ex):(evE l e).1 < 65536:=by
 unfold evE
 split
 ·decide
 ·split
  ·exact AI6 l e
  ·decide
theorem UU {last:List Int} {v:Nat} (hl:lastB last=true) (hv:v < 65536):lastB (nextL last v)=true:=by
 unfold lastB at *
 simp only [Bool.and_eq_true,decide_eq_true_eq,Bool.not_eq_true'] at *
 obtain ⟨h1,h2⟩:=hl
 refine ⟨?_,?_⟩
 ·unfold nextL; rw [List.length_drop,List.length_append]; simp; omega
 ·rw [List.any_eq_false] at *
  intro x hx
  have hx':=List.mem_of_mem_drop hx
  rcases List.mem_append.1 hx' with h | h
  ·exact h2 x h
  ·simp at h; subst h
   unfold outW
   simp; omega
theorem ANH {p:Pt} {last:List Int} {l:List Sg} (h0:(ptE p last l).err=0):lastB (ptE p last l).next=true:=by
 have hv:=AUY l p.ex
 unfold ptE at *
 split at h0
 ·cases h0
 ·rename_i hn
  have hlb:lastB last=true:=by
   cases hq:lastB last
   ·exact absurd (.inr hq) hn
   ·rfl
  rw [if_neg hn]
  split at h0
  ·rename_i h1
   exact absurd h0 h1
  ·rename_i h1
   rw [if_neg h1]
   split
   ·exact UU hlb hv
   ·split
    ·exact UU hlb hv
    ·exact UU hlb hv
theorem FitS.step {m:Mo} {s:St} (h:FitS m s) {env:List Sg} (h0:PY m s env=0):FitS m (stp m s env):=by
 have hok:=h.ok
 have hr:=RU m s.ls env h.ll
 have hpl:=hok.sh.pl
 have hcl:=hok.sh.cl
 have l1:=RH (L9 m s.ls env) s.P (by omega)
 have l2:=VH m ((L9 m s.ls env).map PtR.hit) s.C hcl
 refine ⟨h.me,?_,?_,YR h.ws,?_,by simp [stp,hr],fun l hl => ?_⟩
 ·refine ADB (by simp [OJ,stp,l1]; omega) fun i a x e1 e2 => ?_
  have hi:i < m.pts.length:=BZ e1
  rw [List.getElem?_eq_getElem hi] at e1; cases e1
  have hx:x.l=rowP (ptE m.pts[i] (s.ls[i]'(by rw [h.ll]; exact hi)) env).hit (s.P[i]'(by omega)):=by
   unfold OJ at e2
   rw [List.getElem?_map] at e2
   have:(stp m s env).P[i]? = some (rowP ((L9 m s.ls env)[i]'(by omega)).hit (s.P[i]'(by omega))):=by
    show (OG (L9 m s.ls env) s.P)[i]? = _
    rw [List.getElem?_eq_getElem (by omega),RI _ _ i (by omega) (by omega)]
   rw [this] at e2; cases e2
   rw [Y8 m s.ls env i hi (by rw [h.ll]; exact hi) (by omega)]
  exact ANP (QE h.fp i m.pts[i] ⟨.any,s.P[i]'(by omega)⟩ (List.getElem?_eq_getElem hi) (by simp [OJ] <;> omega)) hx
 ·refine ADB (by simp [OJ,stp,l2]; omega) fun i a x e1 e2 => ?_
  have hi:i < m.crs.length:=BZ e1
  rw [List.getElem?_eq_getElem hi] at e1; cases e1
  have hx:x.l=rowC m m.crs[i] ((L9 m s.ls env).map PtR.hit) (s.C[i]'(by omega)):=by
   unfold OJ at e2
   rw [List.getElem?_map] at e2
   have:(stp m s env).C[i]? = some (rowC m m.crs[i] ((L9 m s.ls env).map PtR.hit) (s.C[i]'(by omega))):=by
    show (P9 m ((L9 m s.ls env).map PtR.hit) s.C)[i]? = _
    rw [List.getElem?_eq_getElem (by omega),VI _ _ _ i hi (by omega)]
   rw [this] at e2; cases e2
   rfl
  exact ANQ (QE h.fc i m.crs[i] ⟨.any,s.C[i]'(by omega)⟩ (List.getElem?_eq_getElem hi) (by simp [OJ] <;> omega)) hx
 ·unfold stp
  dsimp only
  split
  ·exact YR h.wi
  ·exact h.wi
 ·obtain ⟨r,hrm,rfl⟩:=List.mem_map.1 hl
  have he:=VR PtR.err h0 r hrm
  obtain ⟨p,hp,rfl⟩:=List.mem_map.1 hrm
  exact ANH he
theorem AMM {m:Mo} (h:FW m=0):FitS m (zS m):=by
 refine ⟨h,?_,?_,by show JM 0=true; decide,by show JM 0=true; decide,(AS8 m).ll,fun l hl => ?_⟩
 ·rw [show J7 okP m.pts (OJ (zS m).P)=J7 okP m.pts (m.pts.map fun p=>zIs p.bins.length) from SA (ok:=okP) (fun _ _ _ h=>AJL h) _ _ _ (by rw [PH]; simp [zS,zP,zIs])]
  exact RZ (ok:=okP) _ (fun p=>by unfold okP; simp [zIs,QB]; simp [zeros]) _
 ·rw [show J7 (okC m) m.crs (OJ (zS m).C)=J7 (okC m) m.crs (m.crs.map fun c=>zIs (I4 (szs m c.pts))) from SA (ok:=okC m) (fun _ _ _ h=>AJM h) _ _ _ (by rw [PH]; simp [zS,zC,zIs])]
  exact RZ (ok:=okC m) _ (fun c=>by unfold okC; simp [zIs,QB]; simp [zeros]) _
 ·rw [List.eq_of_mem_replicate hl]; decide
structure Sx (h H:Hp) (m:Mo) (c:Cvr) (t:Tk) (vb tb b8 b9 n0 K ob nb po co:Nat) (pb cbs:List Nat) (P C:List (List Int)) (sam ill:Int) (w:AV):Prop where
 gm:H[h.length]? = some (.live 2 [EC m])
 gv:H[vb]? = some (.live 4 [ES c])
 gt:H[tb]? = some (.live 1 [I7 t])
 g8:H[b8]? = some (.live 4 [FD])
 g9:H[b9]? = some (.live 1 [E8])
 o1:h.length < vb
 o2:vb < tb
 o3:tb < b8
 o4:b8 < b9
 o5:b9 < n0
 cs:CS n0 H ob nb po co pb cbs P C sam ill w
 lo:n0≤ob
 ln:n0≤nb
 ho:ob < K
 hn:nb < K
 hp : ∀ b∈pb,b < K
 hc : ∀ b∈cbs,b < K
 hpo:P≠[]→po < K
 hco:C≠[]→co < K
 kh:K≤H.length
 hx:ext h H
section
variable {h H:Hp} {m:Mo} {c:Cvr} {t:Tk} {vb tb b8 b9 n0 K ob nb po co:Nat} {pb cbs:List Nat} {P C:List (List Int)} {sam ill:Int} {w:AV} (S:Sx h H m c t vb tb b8 b9 n0 K ob nb po co pb cbs P C sam ill w)
include S
theorem Sx.keep {H':Hp} (hk : ∀ (b:Nat) (x:ABlk),b < K→H[b]? = some x→H'[b]? = some x) (hl:K≤H'.length) (hx:Sm.ext h H'):Sx h H' m c t vb tb b8 b9 n0 K ob nb po co pb cbs P C sam ill w:=by
 have o1:=S.o1; have o2:=S.o2; have o3:=S.o3; have o4:=S.o4; have o5:=S.o5; have lo:=S.lo; have ho:=S.ho
 have cs:=S.cs
 refine ⟨hk _ _ (by omega) S.gm,hk _ _ (by omega) S.gv,hk _ _ (by omega) S.gt,hk _ _ (by omega) S.g8,hk _ _ (by omega) S.g9,o1,o2,o3,o4,o5,
  ⟨hk _ _ S.ho cs.gc,hk _ _ S.hn cs.gt,cs.np.keep fun b x hb hg => ?_,cs.nc.keep fun b x hb hg => ?_,cs.dis,cs.xcp,cs.xcc,cs.xtp,cs.xtc,cs.xpo,cs.xco,cs.ct⟩,S.lo,S.ln,S.ho,S.hn,S.hp,S.hc,S.hpo,S.hco,hl,hx⟩
 ·rcases hb with ⟨hP,rfl⟩ | hb
  ·exact hk _ _ (S.hpo hP) hg
  ·exact hk _ _ (S.hp _ hb) hg
 ·rcases hb with ⟨hC,rfl⟩ | hb
  ·exact hk _ _ (S.hco hC) hg
  ·exact hk _ _ (S.hc _ hb) hg
theorem Sx.app (x:Hp):Sx h (H ++ x) m c t vb tb b8 b9 n0 K ob nb po co pb cbs P C sam ill w:=S.keep (fun _ _ _ hg=>FH hg) (by have:=S.kh; simp; omega) (S.hx.app x)
theorem Sx.v0:DL Tryz.prog H 26 (.ptr vb 0 0)=some (.sl c.pm 1 (c.pts.map encL)):=by rw [DK OA S.gv (row:=ES c) rfl,AF5]
theorem Sx.v1:DL Tryz.prog H 26 (.ptr vb 0 1)=some (.sl c.cm 1 (c.crs.map encL)):=by rw [DK OA S.gv (row:=ES c) rfl,AB3]
theorem Sx.v3:DL Tryz.prog H 3 (.ptr vb 0 3)=some (.int .i64 c.ill):=by rw [DK ag3 S.gv (row:=ES c) rfl,AJ7]
theorem Sx.rowP {i:Nat} (hi:i < P.length) (hip:i < pb.length):DL Tryz.prog H 26 (.ptr ob 0 0)=some (nlV po P)∧JP 1 H (nlV po P) (.int .i64 (i:Nat))=some (.ptr po i 0)∧DL Tryz.prog H 57 (.ptr po i 0)=some (.own pb[i] 0 P[i].length)∧H[pb[i]]? = some (.live 1 (P[i].map encI)) :=
 ⟨S.cs.l0,S.cs.np.ix hi,S.cs.np.ld hi,S.cs.np.row i hip hi⟩
end
def QO (m:Mo) (c:Cvr) (t:Tk) (env:List Sg):Int:=if FW m=0 then (if (LC m c && VC m t)=true then PY m (stO c t) env else 1) else FW m
def Q5 (m:Mo) (c:Cvr) (t:Tk) (env:List Sg):Cvr:=if QO m c t env=0 then cvS (stp m (stO c t) env) else zV
theorem AWL:Frz MN:=fun _ _ _ _=>⟨rfl,rfl⟩
structure Sy (h H:Hp) (m:Mo) (c:Cvr) (t:Tk) (vb tb b8 b9:Nat):Prop where
 gm:H[h.length]? = some (.live 2 [EC m])
 gv:H[vb]? = some (.live 4 [ES c])
 gt:H[tb]? = some (.live 1 [I7 t])
 g8:H[b8]? = some (.live 4 [FD])
 g9:H[b9]? = some (.live 1 [E8])
 o1:h.length < vb
 o2:vb < tb
 o3:tb < b8
 o4:b8 < b9
 o5:b9 < H.length
 hx:ext h H
theorem Sy.mk' (h:Hp) (m:Mo) (c:Cvr) (t:Tk):Sy h (h ++ [ABlk.live 2 [EC m]] ++ [ABlk.live 4 [ES c]] ++ [ABlk.live 1 [I7 t]] ++ [ABlk.live 4 [FD]] ++ [ABlk.live 1 [E8]]) m c t (h ++ [ABlk.live 2 [EC m]]).length (h ++ [ABlk.live 2 [EC m]] ++ [ABlk.live 4 [ES c]]).length
  (h ++ [ABlk.live 2 [EC m]] ++ [ABlk.live 4 [ES c]] ++ [ABlk.live 1 [I7 t]]).length (h ++ [ABlk.live 2 [EC m]] ++ [ABlk.live 4 [ES c]] ++ [ABlk.live 1 [I7 t]] ++ [ABlk.live 4 [FD]]).length :=
 ⟨CJ (CJ (CJ (CJ (C9 _ _)))),CJ (CJ (CJ (C9 _ _))),CJ (CJ (C9 _ _)),CJ (C9 _ _),C9 _ _,by simp,by simp,by simp,by simp,by simp,((((ext.rfl' h).app _).app _).app _).app _ |>.app _⟩
theorem ACP:CvOk zV:=⟨by decide,by decide,fun x hx=>(by cases hx),fun x hx=>(by cases hx)⟩
theorem ACQ:TkOk zT:=⟨by decide,fun x hx=>(by cases hx)⟩
theorem ABH {m:Mo} {c:Cvr} {t:Tk} {env:List Sg} (h:QO m c t env=0):LC m c=true∧VC m t=true∧PY m (stO c t) env=0:=by
 unfold QO at h
 split at h
 ·split at h
  ·rename_i h2
   rw [Bool.and_eq_true] at h2
   exact ⟨h2.1,h2.2,h⟩
  ·cases h
 ·rename_i h2; exact absurd h h2
theorem AQN (m:Mo) (c:Cvr) (t:Tk) (env:List Sg):CvOk (Q5 m c t env):=by
 unfold Q5
 split
 ·rename_i h
  obtain ⟨h1,h2,h3⟩:=ABH h
  exact TM ((ADA h1 h2).step h3).fits
 ·exact ACP
theorem AMY {m:Mo} {s:St} (h:FitS m s):TkOk (tkS s):=by
 have h1:=h.ll
 have hn:=(OI h.me).num
 refine ⟨by simp [tkS,isL]; omega,fun x hx => ?_⟩
 obtain ⟨y,hy,rfl⟩:=List.mem_map.1 hx
 have:=h.ok.l7 y hy
 show y.length≤_
 omega
theorem AU1 (m:Mo):CvOk (emV m):=by
 unfold emV
 split
 ·rename_i h
  exact TM (XT h)
 ·exact ACP
theorem ASD (m:Mo):TkOk (ADP m):=by
 unfold ADP
 split
 ·rename_i h
  have hn:=(OI h).num
  refine ⟨by simp [zLs]; omega,fun x hx => ?_⟩
  obtain ⟨y,_,rfl⟩:=List.mem_map.1 hx
  simp
 ·exact ACQ
structure Rr (h H:Hp) (m:Mo) (c:Cvr) (t:Tk) (b4 cb tb:Nat):Prop where
 gm:H[h.length]? = some (.live 2 [EC m])
 g4:H[b4]? = some (.live 4 [FD])
 gc:H[cb]? = some (.live 4 [ES c])
 gt:H[tb]? = some (.live 1 [I7 t])
 o1:h.length < b4
 o2:b4 < cb
 o3:cb < tb
 hx:ext h H
theorem Rr.ext {h H H':Hp} {m:Mo} {c:Cvr} {t:Tk} {b4 cb tb:Nat} (R:Rr h H m c t b4 cb tb) (hx:Sm.ext H H'):Rr h H' m c t b4 cb tb:=⟨EK hx R.gm,EK hx R.g4,EK hx R.gc,EK hx R.gt,R.o1,R.o2,R.o3,R.hx.trans hx⟩
theorem AKC (c:Cvr) (t:Tk):AL0 (cvS (stO c t))=AL0 c:=by
 unfold AL0 cvS stO
 simp only [PH]
theorem ARV (P:List (List Int)):(isL P).map Is.l=P:=by unfold isL; rw [List.map_map]; exact List.map_id _
theorem AT7 (s:St):stO (cvS s) (tkS s)=s:=by
 cases s with
 | mk P C a b ls =>
   unfold stO cvS tkS
   simp only [ARV]
   congr 1
   ·exact PH P
   ·exact PH C
theorem AU0 {m:Mo} (h:FW m=0):VC m (ADP m)=true:=by
 unfold ADP VC
 rw [if_pos h]
 simp [h,zLs]
 intro _ _
 rfl
theorem ASC {m:Mo} (h:FW m=0):LC m (emV m)=true:=by
 unfold emV
 rw [if_pos h]
 exact XT h
theorem AT6 {m:Mo} (h:FW m=0):stO (emV m) (ADP m)=zS m:=by
 unfold stO emV ADP zS
 rw [if_pos h,if_pos h]
 congr 1
 ·simp [SI,zPs,zP,zIs]
 ·simp [SI,zCs,zC,zIs]
 ·show (zLs m).map Is.l=_
  unfold zLs
  rw [List.map_map]
  exact List.map_const' ..
theorem AE3 {m:Mo} : ∀ {l:List (List Sg)} {s:St},FitS m s→(NY m s l).1=0→FitS m (NY m s l).2
 | [],_,h,_=>h
 | e :: r,s,h,h0=>by
   unfold NY at h0 ⊢
   split
   ·rename_i hn
    rw [if_pos hn] at h0
    exact absurd h0 hn
   ·rename_i hn
    rw [if_neg hn] at h0
    exact AE3 (h.step (Classical.byContradiction hn)) h0
theorem AQU (m:Mo) (l:List (List Sg)):CvOk (QA m l):=by
 unfold QA
 split
 ·rename_i h
  exact TM (AE3 (AMM h.1) h.2).fits
 ·exact ACP
theorem AJC (h:Hp) (v:Cvr):EY Tryz.prog (h ++ [.live 4 [FD]]) 28 (.ptr h.length 0 0) (.agg (ES v))=some (h ++ [.live 4 [ES v]]):=by rw [stV (C9 _ _) rfl,TB]
section
variable (G:Nat→AV)
end
end Go.Proofs.YtocilianjfhifaaGreatDoor.Xe
namespace Go.Proofs.YtocilianjfhifaaGreatDoor.Xe
open Sm Bins Cov Go.RowKit
theorem AW4:Tryz.prog.cellsOf 187=2:=by kernel_rfl
theorem AYT:Tryz.prog.cellsOf 58=1:=by kernel_rfl
def AV7 (s:Sg) (_:Nat):Prop:=AS0 s
theorem AYJ:Rd Tryz.prog 187 GH AV7:=by
 intro n
 match n with
 | 0=>exact RdAt.zero
 | 1=>exact ACW Tryz.underlying187
 | n+2 =>
   refine RdAt.map (fun x:ByteArray × Int × Unit=>((x.1,x.2.1):Sg)) (MW Tryz.underlying187 (IA rfl cl9 (fun _=>rfl) (rdStr _) (IA rfl cl3 (fun _=>rfl) (rdI _) QQ))) (fun _=>rfl) ?_
   rintro ⟨a,b,_⟩ N ⟨_,_,_,_,_,_,_,_,_,h2,_⟩
   exact h2
def AUG (x:Ss) (b:Nat):Prop:=okL AV7 x.l b
theorem AYI:Rd Tryz.prog 58 KF AUG:=by
 intro n
 cases n with
 | zero=>exact RdAt.zero
 | succ n=>exact RdAt.map (fun x:SM × List Sg=>(⟨x.1,x.2⟩:Ss)) (KW Tryz.underlying58 AW4 (by decide) AB4 (AYJ n)) (fun _=>rfl) (fun x b h=>QS h)
theorem AQM {x:Ss} {b:Nat} (h:AUG x b) (hb:b≤1048576):x.l.length≤1048576∧∀ s∈x.l,AS0 s:=by
 refine ⟨Nat.le_trans (okL.length h) hb,fun s hs => ?_⟩
 obtain ⟨_,_,h2⟩:=okL.each h s hs
 exact h2
structure Rn where
 m:SM
 l:List Ss
def AV8 (x:Rn) (b:Nat):Prop:=okL AUG x.l b
def AWR (z:Rn):List AV := [.sl z.m 1 (z.l.map KF)]
theorem AZB:Rd Tryz.prog 64 AWR AV8:=by
 intro n
 cases n with
 | zero=>exact RdAt.zero
 | succ n=>exact RdAt.map (fun x:SM × List Ss=>(⟨x.1,x.2⟩:Rn)) (KW Tryz.underlying64 AYT (by decide) (fun _=>rfl) (AYI n)) (fun _=>rfl) (fun x b h=>QS h)
theorem AX8 {x:Rn} {b:Nat} (h:AV8 x b) (hb:b≤1048576):x.l.length≤1048576∧∀ y∈x.l,y.l.length≤1048576∧∀ s∈y.l,AS0 s:=by
 refine ⟨Nat.le_trans (okL.length h) hb,fun y hy => ?_⟩
 obtain ⟨b1,h1,h2⟩:=okL.each h y hy
 exact AQM h2 (by omega)
end Go.Proofs.YtocilianjfhifaaGreatDoor.Xe
namespace Go.Proofs.YtocilianjfhifaaGreatDoor.Xe
open Sm Bins Cov Wd Go.RowKit
def stK (m:Mo) (l:List (List Sg)) (k:Nat):St:=(l.take k).foldl (stp m) (zS m)
theorem RG (m:Mo) {l:List (List Sg)} {k:Nat} (hk:k < l.length):stK m l (k+1)=stp m (stK m l k) l[k]:=by
 unfold stK
 rw [List.take_succ_eq_append_getElem hk,List.foldl_append]; rfl
theorem AE4 (m:Mo) : ∀ (l:List (List Sg)) (s:St),(NY m s l).1=0→(NY m s l).2=l.foldl (stp m) s∧∀ (k:Nat) (hk:k < l.length),PY m ((l.take k).foldl (stp m) s) l[k]=0
 | [],s,_=>⟨rfl,fun k hk=>by simp at hk⟩
 | e :: r,s,h=>by
   have hz:PY m s e=0:=Classical.byContradiction fun hn=>by
    unfold NY at h
    rw [if_pos hn] at h
    exact hn h
   have hr:NY m s (e :: r)=NY m (stp m s e) r:=by
    show (if PY m s e≠0 then (PY m s e,s) else NY m (stp m s e) r)=_
    rw [if_neg (fun q=>q hz)]
   rw [hr] at h ⊢
   obtain ⟨h1,h2⟩:=AE4 m r (stp m s e) h
   refine ⟨h1,fun k hk => ?_⟩
   cases k with
   | zero=>exact hz
   | succ k=>exact h2 k (by simpa using hk)
structure RunOk (m:Mo) (l:List (List Sg)):Prop where
 me:FW m=0
 eq:(NY m (zS m) l).2=stK m l l.length
 e0:(NY m (zS m) l).1=0
 er : ∀ (k:Nat) (hk:k < l.length),PY m (stK m l k) l[k]=0
theorem ANE {m:Mo} {l:List (List Sg)} (h:VK m l=0):RunOk m l:=by
 unfold VK at h
 split at h
 ·rename_i hm
  obtain ⟨h1,h2⟩:=AE4 m l (zS m) h
  refine ⟨hm,?_,h,h2⟩
  rw [h1]
  unfold stK
  rw [List.take_length]
 ·rename_i hm; exact absurd h hm
theorem RunOk.fit {m:Mo} {l:List (List Sg)} (h:RunOk m l) : ∀ k,k≤l.length→FitS m (stK m l k)
 | 0,_=>AMM h.me
 | k+1,hk=>by
   rw [RG m (by omega)]
   exact (h.fit k (by omega)).step (h.er k (by omega))
theorem RunOk.val {m:Mo} {l:List (List Sg)} (h:RunOk m l):QA m l=cvS (stK m l l.length):=by
 unfold QA
 rw [if_pos ⟨h.me,h.e0⟩,h.eq]
structure Bd (k:Nat) (s:St):Prop where
 P : ∀ xs∈s.P,∀ x∈xs,x≤(k:Int)
 C : ∀ xs∈s.C,∀ x∈xs,x≤(k:Int)
 sam:s.sam=(k:Int)
 ill:s.ill≤(k:Int)
theorem ANB (n:Int):rz n≤n+1:=by unfold rz; omega
theorem AV1 {n:Int} (h:n < 1099511627776):rz n=n+1:=by unfold rz; omega
theorem Bd.step {m:Mo} {s:St} {k:Nat} (h:Bd k s) (hok:StOk m s) (hk:k < 1099511627776) (env:List Sg):Bd (k+1) (stp m s env):=by
 have hr:=RU m s.ls env hok.ll
 have hpl:=hok.sh.pl
 have hcl:=hok.sh.cl
 have l1:=RH (L9 m s.ls env) s.P (by omega)
 have l2:=VH m ((L9 m s.ls env).map PtR.hit) s.C hcl
 refine ⟨fun xs hx x hxx => ?_,fun xs hx x hxx => ?_,?_,?_⟩
 ·obtain ⟨i,hi,rfl⟩:=List.getElem_of_mem (show xs∈OG (L9 m s.ls env) s.P from hx)
  have hi':i < s.P.length:=by omega
  have him:i < m.pts.length:=by omega
  rw [RI _ _ i (by omega) hi'] at hxx
  obtain ⟨j,hj,rfl⟩:=List.getElem_of_mem hxx
  rw [OZ] at hj
  have hg:=Y8 m s.ls env i him (by rw [hok.ll]; exact him) (by omega)
  have hpe:=hok.sh.pe i hi' him
  rw [← getD_at _ j (by rw [OZ]; exact hj),WB j _ _ (by rw [hg]; exact ABP _ _ _) (fun x hx=>by rw [hg] at hx; rw [hpe]; exact AHK _ _ _ x hx)]
  have hb:=h.P _ (List.getElem_mem hi') _ (List.getElem_mem hj)
  rw [getD_at _ j hj]
  have:=ANB (s.P[i][j])
  split <;> omega
 ·obtain ⟨i,hi,rfl⟩:=List.getElem_of_mem (show xs∈P9 m ((L9 m s.ls env).map PtR.hit) s.C from hx)
  have hi':i < s.C.length:=by omega
  rw [VI m _ _ i (by omega) hi'] at hxx
  obtain ⟨j,hj,rfl⟩:=List.getElem_of_mem hxx
  have hj':=hj
  rw [O0] at hj'
  rw [Y6 m _ _ _ j hj' hj]
  have hb:=h.C _ (List.getElem_mem hi') _ (List.getElem_mem hj')
  have:=ANB (s.C[i][j])
  split <;> omega
 ·show rz s.sam=_
  rw [h.sam,AV1 (by omega)]; omega
 ·have:=h.ill
  have h2:=ANB s.ill
  unfold stp
  dsimp only
  split <;> omega
def rsK (m:Mo) (l:List (List Sg)) (k:Nat):List PtR:=L9 m (stK m l k).ls (l.getD k [])
theorem AHG (m:Mo) {l:List (List Sg)} {k:Nat} (hk:k < l.length):rsK m l k=L9 m (stK m l k).ls l[k]:=by
 unfold rsK
 rw [List.getD_eq_getElem?_getD,List.getElem?_eq_getElem hk]; rfl
section
variable {m:Mo} {l:List (List Sg)} (R:RunOk m l)
include R
theorem RunOk.rl {k:Nat} (hk:k < l.length):(rsK m l k).length=m.pts.length:=by
 rw [AHG m hk]
 exact RU m _ _ (R.fit k (by omega)).ll
theorem RunOk.pl (k:Nat) (hk:k≤l.length):(stK m l k).P.length=m.pts.length:=(R.fit k hk).ok.sh.pl
theorem RunOk.last {k i:Nat} (hk:k < l.length) (hi:i < m.pts.length):(stK m l (k+1)).ls.getD i []=((rsK m l k)[i]'(by rw [R.rl hk]; exact hi)).next:=by
 have h1:=R.rl hk
 rw [RG m hk]
 unfold stp
 dsimp only
 rw [← AHG m hk,List.getD_eq_getElem?_getD,List.getElem?_map,List.getElem?_eq_getElem (by omega)]; rfl
theorem RunOk.row {k i:Nat} (hk:k < l.length) (hi:i < m.pts.length):(stK m l (k+1)).P.getD i []=rowP ((rsK m l k)[i]'(by rw [R.rl hk]; exact hi)).hit ((stK m l k).P.getD i []):=by
 have h1:=R.rl hk
 have h2:=R.pl k (by omega)
 rw [RG m hk]
 unfold stp
 dsimp only
 rw [← AHG m hk]
 have hs:=RH (rsK m l k) (stK m l k).P (by omega)
 rw [List.getD_eq_getElem?_getD,List.getElem?_eq_getElem (by omega),RI _ _ i (by omega) (by omega),List.getD_eq_getElem?_getD,List.getElem?_eq_getElem (by omega)]; rfl
end
noncomputable def UW (s:Hp × AV) (x:Is):Hp × AV:=match GI Tryz.prog true (s.1 ++ [ABlk.live 1 (x.l.map encI)] ++ [ABlk.live 1 [[.own s.1.length 0 x.l.length]]]) 26 26 s.2 (.own (s.1 ++ [ABlk.live 1 (x.l.map encI)]).length 0 1) with
 | some (v,H)=>(H,v)
 | none=>s
noncomputable def lsF (h:Hp) (ls:List Is):Hp × AV:=ls.foldl UW (h,.sl .nil 0 [])
theorem AHX (h:Hp) (ls:List Is) (hl:ls.length≤1048576) : ∀ i,i≤ls.length→ext h (lsF h (ls.take i)).1∧∃ o bs,(lsF h (ls.take i)).2=nlV o ((ls.take i).map Is.l)∧NL h.length (lsF h (ls.take i)).1 o bs ((ls.take i).map Is.l)
 | 0,_=>⟨ext.rfl' h,0,[],rfl,NL.nil _ _ _⟩
 | i+1,hi=>by
   have hi':i < ls.length:=by omega
   obtain ⟨hx,o,bs,e,N⟩:=AHX h ls hl i (by omega)
   have es:lsF h (ls.take (i+1))=UW (lsF h (ls.take i)) ls[i]:=by
    unfold lsF
    rw [List.take_succ_eq_append_getElem hi',List.foldl_append]; rfl
   rw [es]
   generalize lsF h (ls.take i)=s at hx e N ⊢
   obtain ⟨H,v⟩:=s
   simp only at hx e N
   subst e
   have N2:=(N.app [ABlk.live 1 (ls[i].l.map encI)]).app [ABlk.live 1 [[.own H.length 0 ls[i].l.length]]]
   have gb:=CJ (x:=ABlk.live 1 [[.own H.length 0 ls[i].l.length]]) (C9 H (ABlk.live 1 (ls[i].l.map encI)))
   have gt:=C9 (H ++ [ABlk.live 1 (ls[i].l.map encI)]) (ABlk.live 1 [[.own H.length 0 ls[i].l.length]])
   have hle:=hx.le
   obtain ⟨H3,ha,N3,_,_,hx3⟩:=N2.snoc gb hle (by simp; omega) (fun q=>by have:=N.mem_lt q; omega) (fun q e=>by have:=N.top_lt q; omega) gt (by simp; omega)
   have e2:(ls.take i).map Is.l ++ [ls[i].l]=(ls.take (i+1)).map Is.l:=by rw [List.take_succ_eq_append_getElem hi',List.map_append]; rfl
   rw [e2] at ha N3
   have est:UW (H,nlV o ((ls.take i).map Is.l)) ls[i]=(H3,nlV (H ++ [ABlk.live 1 (ls[i].l.map encI)] ++ [ABlk.live 1 [[.own H.length 0 ls[i].l.length]]]).length ((ls.take (i+1)).map Is.l)):=by
    unfold UW
    simp only [ha]
   rw [est]
   exact ⟨hx3 h (Nat.le_refl _) ((hx.app _).app _),_,_,rfl,N3⟩
theorem AJW (h:Hp) (ls:List Is) (hl:ls.length≤1048576):ext h (lsF h ls).1∧∃ o bs,(lsF h ls).2=nlV o (ls.map Is.l)∧NL h.length (lsF h ls).1 o bs (ls.map Is.l):=by
 have:=AHX h ls hl ls.length (Nat.le_refl _)
 rw [List.take_length] at this
 exact this
def tkA (s:St):Tk:=⟨.any,isL s.ls⟩
def Q3 (m:Mo) (c:Cvr) (t:Tk) (env:List Sg):Tk:=if QO m c t env=0 then tkA (stp m (stO c t) env) else zT
def VG (m:Mo) (c:Cvr) (t:Tk) (env:List Sg):AV:=if QO m c t env=0 then .tup [.agg (cvW (stp m (stO c t) env)),.agg [.sl .any 1 ((stp m (stO c t) env).ls.map MN)],.int .i64 0] else .tup [.agg FD,.agg E8,.int .i64 (QO m c t env)]
theorem AQH (s:St):I7 (tkA s) = [.sl .any 1 (s.ls.map MN)]:=by
 unfold I7 tkA isL
 rw [List.map_map]; rfl
theorem AM8 (m:Mo) (c:Cvr) (t:Tk) (env:List Sg):CvR (VG m c t env) (.tup [.agg (ES (Q5 m c t env)),.agg (I7 (Q3 m c t env)),.int .i64 (QO m c t env)]):=by
 unfold VG Q5 Q3
 split
 ·rename_i h
  rw [h,AQH]
  exact CvR.tup (CvRL.cons (AO1 _) (CvRL.refl _))
 ·exact AON _
theorem TA {m:Mo} {c:Cvr} {t:Tk} {env:List Sg} {e:Int} (h:QO m c t env=e) (hne:e≠0):VG m c t env = .tup [.agg FD,.agg E8,.int .i64 e]:=by
 unfold VG
 rw [h,if_neg hne]
section
variable (G:Nat→AV)
theorem ABT (ls:List Is) (s:SM) (h:Hp) (hl:ls.length≤1048576) (he : ∀ x∈ls,x.l≠[]∧x.l.length≤1048576) :
  ACalls (En G) 135 [.sl s 1 (ls.map encL)] h fun v H=>v=(lsF h ls).2∧H=(lsF h ls).1:=by
 refine CE (H:=hint [15] []) (enM G) Tryz.func135 rfl (by kernel_rfl) (by kernel_rfl) (nLb (by kernel_rfl)) ?_
 show awp _ _ _ _ _ (D9 _ [.tmp 2] _)
 simp -implicitDefEqProofs only [CY,List.contains_cons,List.contains_nil,Nat.reduceBEq,Bool.or_false,BC,BV,BA,A8,AY,BB,AL,BD,AX,AC,AA,AZ,AU,BI,JS,BG,A7,D8,AB,BF,↓reduceIte,Nat.reduceEqDiff,oGs,bNf,enP,YB,CZ,lLm]
 refine DY (fun n F H => ∃ i,n+i=ls.length∧F 3=(lsF h (ls.take i)).2∧F 6 = .sl s 1 (ls.map encL)∧F 7 = .int .i64 (ls.length:Nat)∧F 8 = .int .i64 (i:Nat)∧H=(lsF h (ls.take i)).1) ls.length
  ⟨0,by simp,by simp -implicitDefEqProofs only [AA,↓reduceIte,Nat.reduceEqDiff]; rfl,by simp -implicitDefEqProofs only [AA,↓reduceIte,Nat.reduceEqDiff],by simp -implicitDefEqProofs only [AA,↓reduceIte,Nat.reduceEqDiff],by simp -implicitDefEqProofs only [AA,↓reduceIte]; rfl,rfl⟩ ?_
 rintro n F H ⟨i,hi,f3,f6,f7,f8,rfl⟩
 simp -implicitDefEqProofs only [CY,List.contains_cons,List.contains_nil,Nat.reduceBEq,Bool.or_false,BC,BA,BL,A8,AY,BB,AL,BD,AX,AC,AA,AZ,BU,AB,DT,↓reduceIte,oGs,bNf,enP,CZ,f7,f8]
 refine DC (fun hc => ?_) (fun hc => ?_)
 ·have hi':i < ls.length:=by simpa using hc
  obtain ⟨hne,hlen⟩:=he _ (List.getElem_mem hi')
  obtain ⟨hx,o,bs,e,N⟩:=AHX h ls hl i (by omega)
  have es:lsF h (ls.take (i+1))=UW (lsF h (ls.take i)) ls[i]:=by
   unfold lsF
   rw [List.take_succ_eq_append_getElem hi',List.foldl_append]; rfl
  generalize lsF h (ls.take i)=z at hx e N es f3 ⊢
  obtain ⟨H,v⟩:=z
  simp only at hx e N f3 ⊢
  subst e
  simp -implicitDefEqProofs only [CY,List.contains_cons,List.contains_nil,Nat.reduceBEq,Bool.or_false,BC,BV,BA,BR,A8,AY,BB,AL,BD,AX,AC,AA,AZ,CB,BG,A7,BQ,CV,CG,BP,AB,lMc,lMn,lAn,↓reduceIte,Nat.reduceEqDiff,oGs,bNf,enP,TV,CZ,f6,f8,EF hi',EI NR hi',XU,f3]
  refine (ADV G ls[i].l ls[i].m H (by omega)).mono ?_
  rintro u H1 hcl
  obtain ⟨_,rfl,rfl⟩:ls[i].l.map encI≠[]∧u = .own H.length 0 (ls[i].l.map encI).length∧H1=H ++ [ABlk.live 1 (ls[i].l.map encI)]:=by
   rcases hcl with ⟨e,_⟩ | ⟨e,_⟩ | h3
   ·exact absurd (by simpa using e) hne
   ·exact absurd (by simpa using e) hne
   ·exact h3
  have N2:=(N.app [ABlk.live 1 (ls[i].l.map encI)]).app [ABlk.live 1 [[.own H.length 0 ls[i].l.length]]]
  have gb:=CJ (x:=ABlk.live 1 [[.own H.length 0 ls[i].l.length]]) (C9 H (ABlk.live 1 (ls[i].l.map encI)))
  have gt:=C9 (H ++ [ABlk.live 1 (ls[i].l.map encI)]) (ABlk.live 1 [[.own H.length 0 ls[i].l.length]])
  have hle:=hx.le
  obtain ⟨H3,ha,N3,_,_,hx3⟩:=N2.snoc gb hle (by simp; omega) (fun q=>by have:=N.mem_lt q; omega) (fun q e=>by have:=N.top_lt q; omega) gt (by simp; omega)
  have e2:(ls.take i).map Is.l ++ [ls[i].l]=(ls.take (i+1)).map Is.l:=by rw [List.take_succ_eq_append_getElem hi',List.map_append]; rfl
  rw [e2] at ha
  have est:UW (H,nlV o ((ls.take i).map Is.l)) ls[i]=(H3,nlV (H ++ [ABlk.live 1 (ls[i].l.map encI)] ++ [ABlk.live 1 [[.own H.length 0 ls[i].l.length]]]).length ((ls.take (i+1)).map Is.l)):=by
   unfold UW
   simp only [ha]
  rw [est] at es
  rw [lLm]
  simp -implicitDefEqProofs only [FI,FQ,CY,List.contains_cons,List.contains_nil,Nat.reduceBEq,Bool.or_false,BA,A8,EP,FC,AY,BB,AL,BD,AX,AC,AA,AZ,AU,BI,BG,A7,EE,BU,H9,BX,AB,DV,↓reduceIte,Nat.reduceEqDiff,oGs,bNf,enP,CZ,ADX,f3,ha,f6,f7,f8,wrap_succ (show i < 9223372036854775807 by omega)]
  exact ⟨n - 1,by omega,i+1,by omega,by rw [es],by first | trivial | exact f6,by first | trivial | exact f7,by first | trivial | rfl,by rw [es]⟩
 ·have hi' : ¬ i < ls.length:=by simpa using hc
  rw [List.take_of_length_le (by omega)] at f3 ⊢
  simp -implicitDefEqProofs only [CY,List.contains_cons,List.contains_nil,Nat.reduceBEq,Bool.or_false,BC,BA,BK,DW,A8,ER,FN,FM,CP,AY,BB,AL,BD,AX,AC,AA,AZ,BG,A7,↓reduceIte,Nat.reduceEqDiff,oGs,bNf,CZ,f3]
  exact ⟨trivial,trivial⟩
theorem ATV (o:Nat) (P:List (List Int)):H7 (nlV o P)=some [nlV o P]:=by cases P <;> rfl
theorem AQV {m:Mo} {c:Cvr} (hf:LC m c=true) (hg:Cov.Good m):(∀ x∈c.pts,x.l≠[]∧x.l.length≤1048576)∧∀ x∈c.crs,x.l≠[]∧x.l.length≤1048576:=by
 obtain ⟨_,h2,h3,_,_⟩:=QD.1 hf
 refine ⟨fun x hx => ?_,fun x hx => ?_⟩
 ·obtain ⟨p,hp,ho⟩:=VU h2 x hx
  unfold okP at ho
  simp only [Bool.and_eq_true,beq_iff_eq] at ho
  have:=hg.full p hp
  exact ⟨fun e=>by rw [e] at ho; simp at ho; omega,by omega⟩
 ·obtain ⟨q,hq,ho⟩:=VU h3 x hx
  unfold okC at ho
  simp only [Bool.and_eq_true,beq_iff_eq] at ho
  have hcg:=hg.crs q hq
  have hfs:=hg.full.szs hcg.here
  have hpos:0 < I4 (szs m q.pts):=by
   have gen : ∀ (l:List Nat) (a:Nat),0 < a→(∀ n∈l,1≤n∧n≤64)→0 < l.foldl (· * ·) a:=by
    intro l
    induction l with
    | nil=>intro a ha _; exact ha
    | cons y l ih =>
      intro a ha h
      exact ih (a * y) (Nat.mul_pos ha (h y (by simp)).1) (fun n hn=>h n (by simp [hn]))
   exact gen _ 1 (by decide) hfs
  have:=hcg.prod
  exact ⟨fun e=>by rw [e] at ho; simp at ho; omega,by omega⟩
set_option maxHeartbeats 8000000 in
theorem AGY (hG:GOk G) (hT:PX G) (m:Mo) (hm:MoOk m) (c:Cvr) (hcv:CvOk c) (t:Tk) (ht:TkOk t) (env:List Sg) (sm:SM) (h:Hp) (henv:env.length≤1099511627776) :
  PCall (En G) 72 [.agg (EC m),.agg (ES c),.agg (I7 t),.sl sm 2 (env.map GH)] h (.tup [.agg (ES (Q5 m c t env)),.agg (I7 (Q3 m c t env)),.int .i64 (QO m c t env)]):=by
 refine PCall.res (r:=VG m c t env) ?_ (AM8 _ _ _ _)
 refine ACalls.pure (R:=fun v H=>ext h H∧HY h.length H 5 v=VG m c t env) 5 ?_ (fun v H ⟨a,b⟩=>⟨a,b⟩)
 refine CE (H:=hint [1000034,1000037] []) (enM G) Tryz.func72 rfl (by kernel_rfl) (by kernel_rfl) (nLb (by kernel_rfl)) ?_
 show awp _ _ _ _ _ (D9 _ [.cell 8 28,.cell 9 47,.tmp 10] _)
 have Y:=Sy.mk' h m c t
 simp -implicitDefEqProofs only [CY,List.contains_cons,List.contains_nil,Nat.reduceBEq,Bool.or_false,BC,BA,A8,AY,BB,AL,BD,AX,AC,AA,AZ,AU,BI,A7,EZ,FX,BQ,BX,BF,BO,↓reduceIte,Nat.reduceEqDiff,oGs,bNf,enP,CZ,bxM,bxV,bxT,NQ,XB]
 generalize h ++ [ABlk.live 2 [EC m]] ++ [ABlk.live 4 [ES c]] ++ [ABlk.live 1 [I7 t]] ++ [ABlk.live 4 [FD]] ++ [ABlk.live 1 [E8]]=H0 at Y ⊢
 generalize (h ++ [ABlk.live 2 [EC m]] ++ [ABlk.live 4 [ES c]] ++ [ABlk.live 1 [I7 t]] ++ [ABlk.live 4 [FD]]).length=b9 at Y ⊢
 generalize (h ++ [ABlk.live 2 [EC m]] ++ [ABlk.live 4 [ES c]] ++ [ABlk.live 1 [I7 t]]).length=b8 at Y ⊢
 generalize (h ++ [ABlk.live 2 [EC m]] ++ [ABlk.live 4 [ES c]]).length=tb at Y ⊢
 generalize (h ++ [ABlk.live 2 [EC m]]).length=vb at Y ⊢
 have o1:=Y.o1; have o2:=Y.o2; have o3:=Y.o3; have o4:=Y.o4; have o5:=Y.o5
 have hend : ∀ (F:Fr) (e:Int),F 8 = .ptr b8 0 0→F 9 = .ptr b9 0 0→F 10 = .int .i64 e→VG m c t env = .tup [.agg FD,.agg E8,.int .i64 e]→∀ H:Hp,H[b8]? = some (.live 4 [FD])→H[b9]? = some (.live 1 [E8])→ext h H →
   D9 Tryz.prog [.cell 8 28,.cell 9 47,.tmp 10] (fun v H=>ext h H∧HY h.length H 5 v=VG m c t env) .ret F H:=fun F e f8 f9 f10 hw H g8 g9 hx=>by
  rw [TL (ba:=b8) (bb:=b9) f8 f9 (J3 g8 rfl) (MK g9 rfl),f10,hw]
  exact ⟨hx,rfl⟩
 simp -implicitDefEqProofs only [CY,List.contains_cons,List.contains_nil,Nat.reduceBEq,Bool.or_false,AY,AL,BD,AX,AC,AA,AZ,CB,CG,BP,AB,lMc,lMn,lAn,↓reduceIte,oGs,bNf,CZ,ldM Y.gm]
 refine (LH G hG m hm H0).use ?_
 cases hb:(FW m == 0)
 ·have hne:FW m≠0:=by simpa using hb
  simp -implicitDefEqProofs only [FI,CY,List.contains_cons,List.contains_nil,Nat.reduceBEq,Bool.or_false,BC,BA,BK,BL,A8,CX,DU,AY,BB,AL,BD,AX,AC,EM,AA,AZ,AU,BI,BG,A7,JL,D6,BU,AB,DI,EQ,↓reduceIte,Nat.reduceEqDiff,oGs,bNf,enP,CZ,Option.getD_none,bne,hb,XZ,ACF,stZ Y.g8 rfl,ABG (CU Y.g9 (show b9≠b8 by omega)) rfl]
  exact hend _ (FW m) (by simp -implicitDefEqProofs only [AA,↓reduceIte,Nat.reduceEqDiff]) (by simp -implicitDefEqProofs only [AA,↓reduceIte,Nat.reduceEqDiff]) (by simp -implicitDefEqProofs only [AA,↓reduceIte]) (TA (by unfold QO; rw [if_neg hne]) hne) _ (CU (DZ Y.g8) (show b8≠b9 by omega)) (DZ (CU Y.g9 (show b9≠b8 by omega))) ((Y.hx.set (by omega) _).set (by omega) _)
 have h0:FW m=0:=by simpa using hb
 simp -implicitDefEqProofs only [CY,List.contains_cons,List.contains_nil,Nat.reduceBEq,Bool.or_false,BC,BA,BR,BL,A8,D5,AY,BB,AL,BD,AX,AC,AA,AZ,AU,CB,BI,BG,A7,BQ,BU,CG,BP,AB,EQ,lMc,lMn,lAn,↓reduceIte,Nat.reduceEqDiff,oGs,bNt,bNf,enP,CZ,bne,hb,ldM Y.gm,ldV Y.gv]
 refine (ALR G hG hT m c hm hcv H0).use ?_
 cases hf:LC m c
 ·simp -implicitDefEqProofs only [FI,CY,List.contains_cons,List.contains_nil,Nat.reduceBEq,Bool.or_false,BC,BA,BK,BL,A8,CX,DU,AY,BB,BH,BN,CO,FP,AL,BD,AX,AC,EM,AA,EJ,AZ,AU,BI,BJ,BG,A7,CQ,DR,JL,D6,GV,AB,DI,EX,↓reduceIte,Nat.reduceEqDiff,oGs,bNf,enP,CZ,Option.getD_none,XZ,ACF,stZ Y.g8 rfl,ABG (CU Y.g9 (show b9≠b8 by omega)) rfl]
  exact hend _ 1 (by simp -implicitDefEqProofs only [AA,↓reduceIte,Nat.reduceEqDiff]) (by simp -implicitDefEqProofs only [AA,↓reduceIte,Nat.reduceEqDiff]) (by simp -implicitDefEqProofs only [AA,↓reduceIte]) (TA (by unfold QO; rw [if_pos h0,if_neg (by rw [hf]; simp)]) (by decide)) _ (CU (DZ Y.g8) (show b8≠b9 by omega)) (DZ (CU Y.g9 (show b9≠b8 by omega))) ((Y.hx.set (by omega) _).set (by omega) _)
 simp -implicitDefEqProofs only [CY,List.contains_cons,List.contains_nil,Nat.reduceBEq,Bool.or_false,AY,BH,BN,CO,EG,AL,BD,AX,AC,AA,AZ,CB,BG,BQ,GV,CG,BP,AB,EX,lMc,lMn,lAn,↓reduceIte,Nat.reduceEqDiff,oGs,bNt,bNf,enP,CZ,ldM Y.gm,ldT Y.gt]
 refine (X7 G hG m hm t ht H0).use ?_
 cases htr:VC m t
 ·simp -implicitDefEqProofs only [FI,CY,List.contains_cons,List.contains_nil,Nat.reduceBEq,Bool.or_false,BC,BA,BK,BL,A8,CX,DU,AY,BB,BH,BN,CO,EG,AL,BD,AX,AC,EM,AA,AZ,AU,BI,BJ,A7,CQ,DN,JL,D6,GV,AB,DI,EX,↓reduceIte,Nat.reduceEqDiff,oGs,bNf,enP,CZ,Option.getD_none,XZ,ACF,stZ Y.g8 rfl,ABG (CU Y.g9 (show b9≠b8 by omega)) rfl]
  exact hend _ 1 (by simp -implicitDefEqProofs only [AA,↓reduceIte,Nat.reduceEqDiff]) (by simp -implicitDefEqProofs only [AA,↓reduceIte,Nat.reduceEqDiff]) (by simp -implicitDefEqProofs only [AA,↓reduceIte]) (TA (by unfold QO; rw [if_pos h0,if_neg (by rw [htr]; simp)]) (by decide)) _ (CU (DZ Y.g8) (show b8≠b9 by omega)) (DZ (CU Y.g9 (show b9≠b8 by omega))) ((Y.hx.set (by omega) _).set (by omega) _)
 have hF:=ADA hf htr
 have hok:=hF.ok
 have hg:=OI h0
 have hE:QO m c t env=PY m (stO c t) env:=by unfold QO; rw [if_pos h0,if_pos (by rw [hf,htr]; rfl)]
 obtain ⟨r1,r2⟩:=AQV hf hg
 obtain ⟨xa,po,pb,ea,Na⟩:=AJW H0 c.pts hcv.pts
 have da:=ABT G c.pts c.pm H0 hcv.pts r1
 obtain ⟨Ha,va,hHa⟩ : ∃ H v,(H,v)=lsF H0 c.pts:=⟨_,_,rfl⟩
 rw [← hHa] at xa ea Na da
 simp only at xa ea Na da
 subst ea
 obtain ⟨xb,co,cbs,eb,Nb⟩:=AJW Ha c.crs hcv.crs
 have db:=ABT G c.crs c.cm Ha hcv.crs r2
 obtain ⟨Hb,vb2,hHb⟩ : ∃ H v,(H,v)=lsF Ha c.crs:=⟨_,_,rfl⟩
 rw [← hHb] at xb eb Nb db
 simp only at xb eb Nb db
 subst eb
 clear hHa hHb
 have hla:=xa.le
 have hlb:=xb.le
 have v0:DL Tryz.prog H0 26 (.ptr vb 0 0)=some (.sl c.pm 1 (c.pts.map encL)):=by rw [DK OA Y.gv (row:=ES c) rfl,AF5]
 have v1:DL Tryz.prog H0 26 (.ptr vb 0 1)=some (.sl c.cm 1 (c.crs.map encL)):=by rw [DK OA Y.gv (row:=ES c) rfl,AB3]
 have w1:DL Tryz.prog Ha 26 (.ptr vb 0 1)=some (.sl c.cm 1 (c.crs.map encL)):=by rw [DK OA (EK xa Y.gv) (row:=ES c) rfl,AB3]
 have gm:=EK xb (EK xa Y.gm)
 have gv:=EK xb (EK xa Y.gv)
 have gt:=EK xb (EK xa Y.gt)
 have g8:=EK xb (EK xa Y.g8)
 have g9:=EK xb (EK xa Y.g9)
 have hxb:=(Y.hx.trans xa).trans xb
 have N:NC H0.length Hb po pb co cbs (stO c t).P (stO c t).C:=⟨Na.keep fun b x _ hg=>EK xb hg,Nb.base hla,fun b h1 h2=>by
  have:=(Na.lt h1).2
  have:=(Nb.lt h2).1
  omega⟩
 have st1:EY Tryz.prog Hb 26 (.ptr vb 0 0) (nlV po (c.pts.map Is.l))=some (Hb.set vb (.live 4 [[nlV po (c.pts.map Is.l),.sl c.cm 1 (c.crs.map encL),.int .i64 c.sam,.int .i64 c.ill]])):=NJ (row:=ES c) (ATV _ _) AKT gv (by simp [ES])
 have gv1:(Hb.set vb (.live 4 [[nlV po (c.pts.map Is.l),.sl c.cm 1 (c.crs.map encL),.int .i64 c.sam,.int .i64 c.ill]]))[vb]? = _:=DZ gv
 have st2:EY Tryz.prog (Hb.set vb (.live 4 [[nlV po (c.pts.map Is.l),.sl c.cm 1 (c.crs.map encL),.int .i64 c.sam,.int .i64 c.ill]])) 26 (.ptr vb 0 1) (nlV co (c.crs.map Is.l))=some ((Hb.set vb (.live 4 [[nlV po (c.pts.map Is.l),.sl c.cm 1 (c.crs.map encL),.int .i64 c.sam,.int .i64 c.ill]])).set vb (.live 4 [cvR po (c.pts.map Is.l) co (c.crs.map Is.l) c.sam c.ill])):=NJ (row := [nlV po (c.pts.map Is.l),.sl c.cm 1 (c.crs.map encL),.int .i64 c.sam,.int .i64 c.ill]) (ATV _ _) AKT gv1 (by simp)
 rw [List.set_set] at st2
 simp -implicitDefEqProofs only [CY,List.contains_cons,List.contains_nil,Nat.reduceBEq,Bool.or_false,BC,BR,BL,A8,D5,AY,BB,BH,BN,CO,EG,AL,BD,AX,AC,AA,AZ,AU,BJ,CQ,DN,GV,AB,EX,↓reduceIte,Nat.reduceEqDiff,oGs,bNt,bNf,CZ]
 refine YN (fun F H=>F 3 = .sl sm 2 (env.map GH)∧F 4 = .ptr h.length 0 0∧F 5 = .ptr vb 0 0∧F 6 = .ptr tb 0 0∧F 8 = .ptr b8 0 0∧F 9 = .ptr b9 0 0∧H=Hb.set vb (.live 4 [cvR po (stO c t).P co (stO c t).C c.sam c.ill])) (fun _ _=>False) ?_ ?_ (fun _ _ hh=>hh.elim)
 ·refine AGO [] [0,1,3] 2 4 [5,6,7,8,9] (by kernel_rfl) trivial ?_
  simp only [MI,List.getElem?_cons_succ,List.getElem?_cons_zero]
  simp -implicitDefEqProofs only [GR,AD8,AAD,CY,List.contains_cons,List.contains_nil,Nat.reduceBEq,Bool.or_false,EU,D7,FZ,EW,F9,FB,AA,AZ,CB,BQ,BM,AB,lMc,lMn,lAn,↓reduceIte,Nat.reduceEqDiff,Nat.reduceAdd,Nat.add_zero,Nat.zero_add,oGs,enP,N8,N7,v0]
  refine ⟨?_,?_⟩
  ·refine ⟨_,_,da,?_⟩
   simp -implicitDefEqProofs only [GR,AD8,AAD,CY,List.contains_cons,List.contains_nil,Nat.reduceBEq,Bool.or_false,Bool.or_true,EU,D7,EW,JK,FB,AA,AZ,CB,D6,BM,AB,lMc,lMn,lAn,↓reduceIte,Nat.reduceEqDiff,Nat.reduceAdd,Nat.add_zero,Nat.zero_add,oGs,enP,N8,Option.getD_none,w1]
   refine ⟨_,_,db,?_⟩
   simp -implicitDefEqProofs only [GR,CY,List.contains_cons,List.contains_nil,Nat.reduceBEq,Bool.or_false,EU,D7,JW,FZ,EW,JK,FB,OC,AA,AZ,D6,BM,AB,DI,BF,BO,↓reduceIte,Nat.reduceEqDiff,Nat.reduceAdd,Nat.zero_add,oGs,enP,N7,Option.getD_none,st1,st2]
   exact ⟨by first | trivial | rfl,by first | trivial | rfl,by first | trivial | rfl,by first | trivial | rfl,by first | trivial | rfl,by first | trivial | rfl,rfl⟩
  ·simp -implicitDefEqProofs only [GR,AD8,AAD,CY,List.contains_cons,List.contains_nil,Nat.reduceBEq,Bool.or_false,Bool.or_true,EU,D7,EW,JK,FB,AA,AZ,CB,D6,BM,AB,lMc,lMn,lAn,↓reduceIte,Nat.reduceEqDiff,Nat.reduceAdd,Nat.add_zero,Nat.zero_add,oGs,enP,N8,Option.getD_none,v1]
   refine ⟨_,_,da,?_⟩
   try simp -implicitDefEqProofs only []
   refine ⟨_,_,db,?_⟩
   simp -implicitDefEqProofs only [GR,CY,List.contains_cons,List.contains_nil,Nat.reduceBEq,Bool.or_false,EU,D7,JW,FZ,EW,JK,FB,OC,AA,AZ,D6,BM,AB,DI,BF,BO,↓reduceIte,Nat.reduceEqDiff,Nat.reduceAdd,Nat.zero_add,oGs,enP,N7,Option.getD_none,st1,st2]
   exact ⟨by first | trivial | rfl,by first | trivial | rfl,by first | trivial | rfl,by first | trivial | rfl,by first | trivial | rfl,by first | trivial | rfl,rfl⟩
 ·rintro F H ⟨f3,f4,f5,f6,f8,f9,rfl⟩
  clear st1 st2 gv1 v0 v1 w1 da db
  have gm2:(Hb.set vb (.live 4 [cvR po (stO c t).P co (stO c t).C c.sam c.ill]))[h.length]? = _:=CU gm (by omega)
  have gt2:(Hb.set vb (.live 4 [cvR po (stO c t).P co (stO c t).C c.sam c.ill]))[tb]? = _:=CU gt (by omega)
  have g82:(Hb.set vb (.live 4 [cvR po (stO c t).P co (stO c t).C c.sam c.ill]))[b8]? = _:=CU g8 (by omega)
  have g92:(Hb.set vb (.live 4 [cvR po (stO c t).P co (stO c t).C c.sam c.ill]))[b9]? = _:=CU g9 (by omega)
  have gc2:(Hb.set vb (.live 4 [cvR po (stO c t).P co (stO c t).C c.sam c.ill]))[vb]? = _:=DZ gv
  have hx2:=hxb.set (b:=vb) (by omega) (.live 4 [cvR po (stO c t).P co (stO c t).C c.sam c.ill])
  have N2:=N.keep (H':=Hb.set vb (.live 4 [cvR po (stO c t).P co (stO c t).C c.sam c.ill])) fun b x hb _ hg=>CU hg (by omega)
  have hl2:(Hb.set vb (.live 4 [cvR po (stO c t).P co (stO c t).C c.sam c.ill])).length=Hb.length:=by simp
  generalize Hb.set vb (.live 4 [cvR po (stO c t).P co (stO c t).C c.sam c.ill])=H2 at gm2 gt2 g82 g92 gc2 hx2 N2 hl2 ⊢
  have S:CS H0.length H2 vb tb po co pb cbs (stO c t).P (stO c t).C c.sam c.ill (.sl t.m 1 (t.last.map encL)):=N2.cs gc2 gt2 (by omega) (fun b hb=>by
   rcases hb with hb | hb
   ·have:=(N2.np.lt hb).1; omega
   ·have:=(N2.nc.lt hb).1; omega)
  have T:TLs H2 (.sl t.m 1 (t.last.map encL)) (stO c t).ls := .inr (.inl ⟨_,_,rfl,RowsL.encL t.last⟩)
  simp -implicitDefEqProofs only [CY,List.contains_cons,List.contains_nil,Nat.reduceBEq,Bool.or_false,BC,BA,A8,AY,AL,BD,AX,AC,AA,AZ,CB,BG,BQ,CG,BP,AB,lMc,lMn,lAn,↓reduceIte,Nat.reduceEqDiff,oGs,bNf,enP,CZ,f3,f4,f5,f6,ldM gm2]
  refine (XH G hG hT m hm hg S hok.sh (stO c t).ls hok.ll (fun x hx=>by have:=hok.l7 x hx; omega) T env sm henv hok.sm hok.il).mono ?_
  intro v H' hQ
  unfold ASZ at hQ
  rcases hQ with ⟨e,hne,hfst,rfl,hxe⟩ | ⟨hfst,rfl,lb,hlb2,glb,S',hFr⟩
  ·have hbe:(e == 0)=false:=by simpa using hne
   have g8':=EK hxe g82
   have g9':=EK hxe g92
   simp -implicitDefEqProofs only [FI,CY,List.contains_cons,List.contains_nil,Nat.reduceBEq,Bool.or_false,BC,BA,BK,BL,A8,CX,DU,AY,BB,AL,BD,AX,AC,EM,AA,AZ,AU,BI,BG,A7,JL,D6,BU,AB,DI,EQ,↓reduceIte,Nat.reduceEqDiff,oGs,bNf,enP,CZ,Option.getD_none,bne,hbe,XZ,ACF,f8,f9,stZ g8' rfl,ABG (CU g9' (show b9≠b8 by omega)) rfl]
   exact hend _ e (by simp -implicitDefEqProofs only [AA,↓reduceIte,Nat.reduceEqDiff,f8]) (by simp -implicitDefEqProofs only [AA,↓reduceIte,Nat.reduceEqDiff,f9]) (by simp -implicitDefEqProofs only [AA,↓reduceIte]) (TA (by rw [hE]; exact hfst) hne) _ (CU (DZ g8') (show b8≠b9 by omega)) (DZ (CU g9' (show b9≠b8 by omega))) (((hx2.trans hxe).set (by omega) _).set (by omega) _)
  ·have hpl : ∀ b∈pb,H0.length≤b:=S.np.lo
   have hcl : ∀ b∈cbs,H0.length≤b:=S.nc.lo
   have hhl:=Y.hx.le
   have g8':=hFr.get _ _ g82 (by omega) (by omega) (fun q=>by have:=hpl _ q; omega) (fun q=>by have:=hcl _ q; omega)
   have g9':=hFr.get _ _ g92 (by omega) (by omega) (fun q=>by have:=hpl _ q; omega) (fun q=>by have:=hcl _ q; omega)
   have hx3:=hFr.ext hx2 (by omega) (by omega) (fun b hb=>by have:=hpl _ hb; omega) (fun b hb=>by have:=hcl _ hb; omega)
   have hz:QO m c t env=0:=by rw [hE]; exact hfst
   obtain ⟨st,hst⟩ : ∃ z,z=stp m (stO c t) env:=⟨_,rfl⟩
   have eS:CS H0.length H' vb tb po co pb cbs st.P st.C st.sam st.ill (.own lb 0 m.pts.length):=by rw [hst]; exact S'
   have eL:H'[lb]? = some (.live 1 (st.ls.map MN)):=by rw [hst]; exact glb
   have hsl:st.ls.length=m.pts.length:=by rw [hst]; exact (hok.step env).ll
   have hlt:=BZ glb
   simp -implicitDefEqProofs only [CY,List.contains_cons,List.contains_nil,Nat.reduceBEq,Bool.or_false,BC,BA,BR,BL,A8,D5,AY,BB,AL,BD,AX,AC,AA,AZ,AU,BI,BG,A7,BU,AB,EQ,↓reduceIte,oGs,bNt,bNf,enP,CZ,bne,beq_self_eq_true]
   refine QG [(6,8)] (by kernel_rfl) ?_ ?_
   ·simp -implicitDefEqProofs only [AA,↓reduceIte,Nat.reduceEqDiff,f6,f8,QH,SX,RJ,and_true]
    omega
   simp -implicitDefEqProofs only [GR,CY,List.contains_cons,List.contains_nil,Nat.reduceBEq,Bool.or_false,EU,D7,JW,FZ,EW,J5,F9,JK,BK,A8,AA,AZ,AU,BI,BQ,D6,AB,DI,↓reduceIte,Nat.reduceEqDiff,Nat.reduceAdd,Nat.zero_add,oGs,enP,Option.getD_none,f5,f6,f8,f9,J3 eS.gc rfl,MK eS.gt rfl,ATH g8' rfl,AEP (v3 := .own lb 0 m.pts.length) (CU g9' (show b9≠b8 by omega)) rfl rfl]
   rw [TL (ba:=b8) (bb:=b9) (by simp -implicitDefEqProofs only [AA,↓reduceIte,Nat.reduceEqDiff,f8]) (by simp -implicitDefEqProofs only [AA,↓reduceIte,Nat.reduceEqDiff,f9]) (J3 (CU (DZ g8') (show b8≠b9 by omega)) rfl) (MK (DZ (CU g9' (show b9≠b8 by omega))) rfl)]
   refine ⟨(hx3.set (by omega) _).set (by omega) _,?_⟩
   have np':NL H0.length ((H'.set b8 (.live 4 [cvR po st.P co st.C st.sam st.ill])).set b9 (.live 1 [[.own lb 0 m.pts.length]])) po pb st.P:=eS.np.keep fun b x hb hg=>by
    have:=eS.np.lt hb
    exact CU (CU hg (by omega)) (by omega)
   have nc':NL H0.length ((H'.set b8 (.live 4 [cvR po st.P co st.C st.sam st.ill])).set b9 (.live 1 [[.own lb 0 m.pts.length]])) co cbs st.C:=eS.nc.keep fun b x hb hg=>by
    have:=eS.nc.lt hb
    exact CU (CU hg (by omega)) (by omega)
   have gl':((H'.set b8 (.live 4 [cvR po st.P co st.C st.sam st.ill])).set b9 (.live 1 [[.own lb 0 m.pts.length]]))[lb]? = _:=CU (CU eL (show lb≠b8 by omega)) (show lb≠b9 by omega)
   have e1:=AO6 st np' nc' h.length 0 (by omega)
   have e3:HY h.length ((H'.set b8 (.live 4 [cvR po st.P co st.C st.sam st.ill])).set b9 (.live 1 [[.own lb 0 m.pts.length]])) 3 (.own lb 0 m.pts.length) = .sl .any 1 (st.ls.map MN):=by
    generalize (H'.set b8 (.live 4 [cvR po st.P co st.C st.sam st.ill])).set b9 (.live 1 [[.own lb 0 m.pts.length]])=Hz at gl' ⊢
    rw [← hsl]
    exact VS (d:=1) AWL (by omega) gl'
   unfold VG
   rw [if_pos hz,← hst]
   show AV.tup [HY h.length _ 4 (.agg (cvR po st.P co st.C st.sam st.ill)),.agg [HY h.length _ 3 (.own lb 0 m.pts.length)],_]=_
   rw [e1,e3]
   simp -implicitDefEqProofs only [AA,↓reduceIte]
   rfl
end
end Go.Proofs.YtocilianjfhifaaGreatDoor.Xe
