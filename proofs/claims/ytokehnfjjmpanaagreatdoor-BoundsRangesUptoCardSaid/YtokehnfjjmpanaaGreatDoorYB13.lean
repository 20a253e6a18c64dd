/- Part 13 of the proof (Wg, Wh, Wi, Wj, Wk, Wl, Wm); no condition. -/
import Derived.Test.YtokehnfjjmpanaaGreatDoorYB12
set_option linter.unusedVariables false
set_option linter.unusedSimpArgs false
set_option maxRecDepth 8000
namespace Go.Proofs.YtokehnfjjmpanaaGreatDoor.Bd
open Sm Bins Cov Xe Wd Go.RowKit
open Bool renaming not_false→jC,not_true→jW,or_false→jM,not_eq_true→qM
open Int renaming toNat_natCast→zG
open List renaming mem_append→zX,getElem?_set_ne→zL,length_set→qH,length_map→jR,getElem_mem→jT,drop_eq_getElem_cons→zO,map_cons→jF,map_nil→jD,append_nil→jE,drop_eq_nil_of_le→zS,any_eq_true→qR,take_succ_eq_append_getElem→zY,take_of_length_le→jY,getElem?_cons_zero→zB,getElem?_cons_succ→zD,nil_append→zJ,contains_cons→jO,contains_nil→jP,take_zero→zC,mem_cons→qI
open Nat renaming le_of_ble_eq_true→jJ,le_refl→jQ,zero_add→jG,reduceEqDiff→jA,reduceAdd→jL,add_zero→jH,lt_or_ge→jV,reduceBEq→jI
open Option renaming getD_some→jB,getD_none→jK
structure GoodP (p:Pr):Prop where
 hard : ∀ e∈p.hard,EOk e
 var : ∀ d∈p.dists,NC p.vars d.var=true
 ws : ∀ d∈p.dists,∀ w∈d.ws,U1 w=false
theorem AQ8 {p:Pr} (hs:PrS p) (h:KP p=0):GoodP p:=by
 obtain ⟨_,h2,h3,_⟩:=ZE h
 have hd : ∀ d∈p.dists,∃ ds,dsE p.vars ds d=0:=by
  intro d hd
  obtain ⟨j,hj,rfl⟩:=List.getElem_of_mem hd
  have:=PE h3 j (by simpa using hj)
  rw [ACZ hj] at this
  exact ⟨_,this⟩
 refine ⟨fun e he => ?_,fun d hx => ?_,fun d hx w hw => ?_⟩
 ·have hm:e∈p.hard ++ p.soft:=zX.2 (.inl he)
  have:=PE h2 e hm
  unfold xpE at this
  by_cases q:exE e≠0
  ·rw [if_pos q] at this; exact absurd this q
  ·exact ⟨hs.wts e hm,PK (by simpa using q)⟩
 ·obtain ⟨ds,h⟩:=hd d hx
  unfold dsE at h
  cases hr:NC p.vars d.var
  ·rw [hr] at h; simp at h
  ·rfl
 ·obtain ⟨ds,h⟩:=hd d hx
  unfold dsE at h
  by_cases h1:NC p.vars d.var=true
  ·rw [if_pos h1] at h
   by_cases h2:ds.any (fun x=>x.var == d.var)=true
   ·rw [if_pos h2] at h; cases h
   ·rw [if_neg h2] at h
    by_cases h3:d.ws.length > 16
    ·rw [if_pos h3] at h; cases h
    ·rw [if_neg h3] at h
     by_cases h4:d.ws.any U1=true
     ·rw [if_pos h4] at h; cases h
     ·have:=List.any_eq_false.1 (by simpa using h4) w hw
      simpa using this
  ·rw [if_neg h1] at h; cases h
theorem Nw.flag {h:Hp} {nb lb:Nat} {vars:List Vr} {s:NS} (n:Nw h nb lb vars s) (c:Bool) : ∃ h',GM Tryz.prog h 4 (.ptr nb 0 2) (.bool c)=some h'∧Nw h' nb lb vars (s.1,c)∧Kp nb lb h h':=by
 obtain ⟨mb,L,ents,h1,h2,h3,h4,h5,h6⟩:=n.ex
 have hst:GM Tryz.prog h 4 (.ptr nb 0 2) (.bool c)=some (h.set nb (.live 3 [[.mp mb,L,.bool c]])):=by
  rw [I5 (cs := [.bool c]) rfl sz4 h1 rfl (by simp)]; rfl
 refine ⟨_,hst,⟨⟨mb,L,ents,G7 h1,by rw [zL (Ne.symm h5)]; exact h2,h3,?_,h5,h6⟩,n.ne,by rw [qH]; exact n.lbl,n.len,n.wf⟩,(Kp.rfl' nb lb h).setN _⟩
 rcases h4 with h4 | ⟨e,hb,hn⟩
 ·exact .inl h4
 ·exact .inr ⟨e,by rw [zL n.ne]; exact hb,hn⟩
theorem Nw.ldF {h:Hp} {nb lb:Nat} {vars:List Vr} {s:NS} (n:Nw h nb lb vars s):DR Tryz.prog h 4 (.ptr nb 0 2)=some (.bool s.2):=by
 obtain ⟨mb,L,ents,h1,_⟩:=n.ex
 rw [DJ ag4 h1 rfl]; rfl
theorem Nw.of {h:Hp} {nb lb:Nat} {vars:List Vr} {s:NS} {c:Bool} (n:Nw h nb lb vars s) (e:s.2=c):Nw h nb lb vars (s.1,c):=by subst e; exact n
section
variable (G:Nat→AV)
set_option maxHeartbeats 4000000 in
theorem APX (nb lb:Nat) (base:Hp) (Bad:Prop) (p:Pr) (hs:PrS p) (hg:GoodP p) (l:List Rng) (h:Hp) (hk:Kp nb lb base h) (n:Nw h nb lb p.vars (l,false)) (hbad:MZ p l=none→Bad) :
  ACalls ((En G).wx (X0 nb lb base Bad)) 38 [.ptr nb 0 0,.agg (DY p)] h (NP nb lb p.vars h (MZ p l)):=by
 generalize hT:MZ p l=TOT at hbad ⊢
 have hlen:=n.len
 have hwf0:=n.wf
 refine IM (H:=Hint.none) (enM G) Tryz.func38 rfl (by kernel_rfl) (by kernel_rfl) (jJ (by kernel_rfl)) ?_
 show awp _ _ _ _ _ (EN _ [] _)
 have g3:=DF h (ABlk.live 5 [DY p])
 have n1:=n.ext ((ext.rfl' h).app [ABlk.live 5 [DY p]])
 have k1:=(Kp.rfl' nb lb h).app (ABlk.live 5 [DY p])
 have o3:=n.lt (jQ h.length)
 simp -implicitDefEqProofs only [BB,A8,A7,AZ,BA,AO,AQ,AL,BD,AY,AC,AA,AX,FQ,BO,BG,wxP,CB,AB,BF,BQ,↓reduceIte,jG,jB,jC,enP,ZR,QP]
 generalize h ++ [ABlk.live 5 [DY p]]=H0 at g3 n1 k1 ⊢
 generalize h.length=b3 at g3 o3 ⊢
 have ld24:DR Tryz.prog H0 24 (.ptr b3 0 3)=some (.sl p.dm 2 (p.dists.map JE)):=by rw [DJ ASV g3 (row:=DY p) rfl]; rfl
 have hkH:=hk.trans k1
 simp -implicitDefEqProofs only [CE,A7,AZ,BA,AO,AQ,AL,BD,AY,AC,AA,AX,AU,BH,BJ,FP,wxP,AB,↓reduceIte,jB,jC,enP,AQN,ld24,jR]
 -- the distributions
 refine IY 0 (fun F H => ∃ s,OL p.vars p.hard (wid s.1+1) (s.1,true)=TOT∧s.1.length=p.vars.length∧Nw H nb lb p.vars s∧Kp nb lb H0 H∧F 0 = .ptr nb 0 0∧F 3 = .ptr b3 0 0) (fun _ _=>False) ?_ ?_ (fun _ _ q=>q.elim)
 ·refine EG (fun m F H => ∃ i s,m+i=p.dists.length∧(UT (p.dists.drop i) s).bind (fun s=>OL p.vars p.hard (wid s.1+1) (s.1,true))=TOT∧s.1.length=p.vars.length∧Nw H nb lb p.vars s∧Kp nb lb H0 H∧F 0 = .ptr nb 0 0∧F 3 = .ptr b3 0 0∧F 11 = .sl p.dm 2 (p.dists.map JE)∧F 12 = .int .i64 (p.dists.length:Nat)∧F 13 = .int .i64 (i:Nat)) p.dists.length
   ⟨0,(l,false),by simp,by rw [List.drop_zero,← hT]; rfl,hlen,n1,Kp.rfl' _ _ _,by simp -implicitDefEqProofs only [AA,BF,↓reduceIte,jA],by simp -implicitDefEqProofs only [AA,↓reduceIte,jA],by simp -implicitDefEqProofs only [AA,↓reduceIte,jA],by simp -implicitDefEqProofs only [AA,↓reduceIte,jA],by simp -implicitDefEqProofs only [AA,↓reduceIte]; rfl⟩ ?_
  rintro m F H ⟨i,s,hi,hS,hsl,nH,kH,f0,f3,f11,f12,f13⟩
  simp -implicitDefEqProofs only [BB,A8,BI,A7,AZ,BA,AO,AQ,AL,BD,AY,AC,AA,AX,BU,wxP,AB,DV,↓reduceIte,jB,jC,enP,f12,f13]
  refine CQ (fun hc => ?_) (fun hc => ?_)
  ·have hi':i < p.dists.length:=by simpa using hc
   have hmem:=jT hi'
   rw [zO hi'] at hS
   have hS:((VB s p.dists[i]).bind (UT (p.dists.drop (i+1)))).bind _=TOT:=hS
   have kA:=kH.app (ABlk.live 2 [JE p.dists[i]])
   have nA:=nH.ext ((ext.rfl' H).app [ABlk.live 2 [JE p.dists[i]]])
   have gA:=DF H (ABlk.live 2 [JE p.dists[i]])
   have lA:DR Tryz.prog (H ++ [ABlk.live 2 [JE p.dists[i]]]) 52 (.ptr H.length 0 0)=some (.agg (JE p.dists[i])):=by rw [H7 AST AG5 gA (row:=JE p.dists[i]) rfl (jQ 2)]; rfl
   simp -implicitDefEqProofs only [BB,CE,A8,BR,A7,AZ,BA,AO,AQ,AL,BD,AY,AC,DU,AA,AX,BN,BJ,EZ,BO,CU,CG,BV,BP,wxP,CB,AB,BZ,jF,jD,jE,↓reduceIte,jA,jB,jC,enP,ACE,jK,f11,f13,EX hi',EU AST AG5 V6 hi',A1L,AZC,f0,lA]
   have hb:VB s p.dists[i]=none→Bad:=fun q=>hbad (by rw [q] at hS; exact hS.symm)
   refine ACalls.mono (APA G nb lb base Bad p.vars s p.dists[i] (hg.var _ hmem) (hg.ws _ hmem) (hs.ws _ hmem) _ (hkH.trans kA) nA hb) ?_
   rintro v H' ⟨s',e',n',k'⟩
   rw [e'] at hS
   have hS:(UT (p.dists.drop (i+1)) s').bind _=TOT:=hS
   simp -implicitDefEqProofs only [A8,A7,EO,FO,AZ,BA,AO,AQ,AL,BD,AY,AC,AA,AX,AU,BH,BJ,BU,wxP,AB,D6,↓reduceIte,jA,jB,jC,enP,f13,wrap_succ (show i < 9223372036854775807 by have:=hs.dists; omega)]
   exact ⟨m - 1,by omega,i+1,s',by omega,hS,n'.len,n',kA.trans k',by trivial,by trivial,by trivial,by trivial,by trivial⟩
  ·have hi' : ¬ i < p.dists.length:=by simpa using hc
   rw [zS (by omega)] at hS
   have hS:OL p.vars p.hard (wid s.1+1) (s.1,true)=TOT:=hS
   simp -implicitDefEqProofs only [EF,FC,MG,F8,AA,↓reduceIte,jA]
   exact ⟨s,hS,hsl,nH,kH,f0,f3⟩
 rintro F H ⟨s,hS,hsl,nH,kH,f0,f3⟩
 obtain ⟨H1,hst,nF,kF⟩:=nH.flag true
 simp -implicitDefEqProofs only [BB,CE,A8,A7,F6,AZ,BA,AO,AQ,AL,BD,AY,AC,DU,AA,AX,AU,BM,BJ,CU,BG,wxP,AB,BZ,↓reduceIte,jG,jB,jC,enP,AF3,jK,EM,EW,f0,hst]
 -- the rounds
 refine IY 2 (fun F H => ∃ s,TOT=some s∧Nw H nb lb p.vars s∧Kp nb lb H0 H) (fun _ _=>False) ?_ ?_ (fun _ _ q=>q.elim)
 ·refine EG (fun m F H => ∃ s,OL p.vars p.hard m s=TOT∧(s.2=true→wid s.1 < m)∧s.1.length=p.vars.length∧Nw H nb lb p.vars s∧Kp nb lb H0 H∧F 0 = .ptr nb 0 0∧F 3 = .ptr b3 0 0) (wid s.1+1)
   ⟨(s.1,true),hS,fun _=>by show wid s.1 < wid s.1+1; omega,hsl,nF,kH.trans kF,by first | exact f0 | (simp -implicitDefEqProofs only [f0]),by first | exact f3 | (simp -implicitDefEqProofs only [f3])⟩ ?_
  clear hS hsl nH kH f0 f3 hst nF kF
  rintro m F H ⟨s,hS,hm,hsl,nH,kH,f0,f3⟩
  simp -implicitDefEqProofs only [BB,A8,BI,A7,AZ,BA,AO,AQ,AL,BD,AY,AC,AA,AX,BJ,BO,BG,wxP,AB,↓reduceIte,jG,jB,jC,enP,AF3,EM,EW,f0,nH.ldF]
  refine CQ (fun hc => ?_) (fun hc => ?_)
  ·have hc:s.2=true:=hc
   obtain ⟨m,rfl⟩ : ∃ k,m=k+1:=⟨m - 1,by have:=hm hc; omega⟩
   have hm:=hm hc
   have hS:(QT p.vars p.hard s).bind (OL p.vars p.hard m)=TOT:=by
    have e:OL p.vars p.hard (m+1) s=if s.2=true then (QT p.vars p.hard s).bind (OL p.vars p.hard m) else some s:=rfl
    rw [e,if_pos hc] at hS; exact hS
   obtain ⟨H1,hst,nF,kF⟩:=nH.flag false
   have g3A:=(kH.trans kF).1 _ _ g3 o3.1 o3.2
   have l1:DR Tryz.prog H1 23 (.ptr b3 0 1)=some (.sl p.hm 4 (p.hard.map CW)):=by rw [DJ NM g3A (row:=DY p) rfl]; rfl
   simp -implicitDefEqProofs only [BB,CE,A8,BR,A7,AZ,BA,AO,AQ,AL,BD,AY,AC,DU,AA,AX,AU,BH,BM,BJ,BO,CU,BG,FP,wxP,AB,BZ,↓reduceIte,jA,jG,jB,jC,enP,TD,V5,AF3,jK,EM,EW,f0,f3,hst,l1,jR]
   have hhl:p.hard.length≤1048576:=by have:=hs.exprs; omega
   refine IY 4 (fun F H => ∃ t,QU p.vars p.hard (s.1,false)=some t∧Nw H nb lb p.vars t∧Kp nb lb H0 H∧F 0 = .ptr nb 0 0∧F 3 = .ptr b3 0 0) (fun _ _=>False) ?_ ?_ (fun _ _ q=>q.elim)
   ·refine EG (fun q F H => ∃ i t,q+i=p.hard.length∧QU p.vars p.hard (s.1,false)=QU p.vars (p.hard.drop i) t∧Nw H nb lb p.vars t∧Kp nb lb H0 H∧F 0 = .ptr nb 0 0∧F 3 = .ptr b3 0 0∧F 32 = .sl p.hm 4 (p.hard.map CW)∧F 33 = .int .i64 (p.hard.length:Nat)∧F 34 = .int .i64 (i:Nat)) p.hard.length
     ⟨0,(s.1,false),by simp,rfl,nF,kH.trans kF,by simp -implicitDefEqProofs only [AA,↓reduceIte,jA,f0],by simp -implicitDefEqProofs only [AA,↓reduceIte,jA,f3],by simp -implicitDefEqProofs only [AA,↓reduceIte,jA],by simp -implicitDefEqProofs only [AA,↓reduceIte,jA],by simp -implicitDefEqProofs only [AA,↓reduceIte]; rfl⟩ ?_
    clear f0 f3
    rintro q F H ⟨i,t,hq,hN,nt,kt,f0,f3,f32,f33,f34⟩
    simp -implicitDefEqProofs only [BB,A8,BI,A7,AZ,BA,AO,AQ,AL,BD,AY,AC,AA,AX,BU,wxP,AB,DV,↓reduceIte,jB,jC,enP,f33,f34]
    refine CQ (fun hc => ?_) (fun hc => ?_)
    ·have hi':i < p.hard.length:=by simpa using hc
     have hmem:=jT hi'
     rw [zO hi'] at hN
     have hN:QU p.vars p.hard (s.1,false)=(TP p.vars p.hard[i] t).bind (QU p.vars (p.hard.drop (i+1))):=hN
     have kA:=kt.app (ABlk.live 4 [CW p.hard[i]])
     have nA:=nt.ext ((ext.rfl' H).app [ABlk.live 4 [CW p.hard[i]]])
     simp -implicitDefEqProofs only [BB,CE,A8,BR,A7,AZ,BA,AO,AQ,AL,BD,AY,AC,DU,AA,AX,BN,BJ,EZ,BO,CU,CG,BV,BP,wxP,CB,AB,BZ,jF,jD,jE,↓reduceIte,jA,jB,jC,enP,LQ,jK,f32,f34,EX hi',EU KJ JR ES hi',AI9,AJQ _ _ [.int .i64 0,.int .i64 0,.str ⟨#[]⟩,.sl .nil 0 []] rfl,f0,ldE]
     have hb:TP p.vars p.hard[i] t=none→Bad:=fun q=>hbad (by
      rw [q] at hN
      have:QT p.vars p.hard s=none:=by unfold QT; rw [hN]; rfl
      rw [this] at hS; exact hS.symm)
     refine ACalls.mono (AHS G nb lb base Bad p.vars p.hard[i] (hg.hard _ hmem) t _ (hkH.trans kA) nA hb) ?_
     rintro v H' ⟨t',e',n',k'⟩
     rw [e'] at hN
     simp -implicitDefEqProofs only [A8,A7,EO,FO,AZ,BA,AO,AQ,AL,BD,AY,AC,AA,AX,AU,BH,BJ,BU,wxP,AB,D6,↓reduceIte,jA,jB,jC,enP,f34,wrap_succ (show i < 9223372036854775807 by omega)]
     exact ⟨q - 1,by omega,i+1,t',by omega,hN,n',kA.trans k',by trivial,by trivial,by trivial,by trivial,by trivial⟩
    ·have hi' : ¬ i < p.hard.length:=by simpa using hc
     rw [zS (by omega)] at hN
     simp -implicitDefEqProofs only [EF,FC,MG,F8,AA,↓reduceIte,jA]
     exact ⟨t,hN,nt,kt,f0,f3⟩
   clear f0 f3 hst nF kF l1 g3A
   rintro F H ⟨t,hN,nt,kt,f0,f3⟩
   have hR:QT p.vars p.hard s=if ADZ p.vars p.hard t.1=true then none else some t:=by unfold QT; rw [hN]; rfl
   have hste:=YJ p.vars p.hard (s.1,false) t hsl hN
   have g3A:=kt.1 _ _ g3 o3.1 o3.2
   have l1:DR Tryz.prog H 23 (.ptr b3 0 1)=some (.sl p.hm 4 (p.hard.map CW)):=by rw [DJ NM g3A (row:=DY p) rfl]; rfl
   simp -implicitDefEqProofs only [BB,CE,A8,A7,F6,AZ,BA,AO,AQ,AL,BD,AY,AC,AA,AX,AU,BH,BJ,BO,BG,FP,wxP,AB,↓reduceIte,jG,jB,jC,enP,TD,V5,f3,l1,jR]
   refine IY 6 (fun F H=>(∀ e∈p.hard,isF (evS p.vars t.1 e)=false)∧Nw H nb lb p.vars t∧Kp nb lb H0 H∧F 0 = .ptr nb 0 0∧F 3 = .ptr b3 0 0) (fun _ _=>False) ?_ ?_ (fun _ _ q=>q.elim)
   ·refine EG (fun q F H => ∃ i,q+i=p.hard.length∧(∀ e∈p.hard.take i,isF (evS p.vars t.1 e)=false)∧Nw H nb lb p.vars t∧Kp nb lb H0 H∧F 0 = .ptr nb 0 0∧F 3 = .ptr b3 0 0∧F 43 = .sl p.hm 4 (p.hard.map CW)∧F 44 = .int .i64 (p.hard.length:Nat)∧F 45 = .int .i64 (i:Nat)) p.hard.length
     ⟨0,by simp,by simp,nt,kt,by simp -implicitDefEqProofs only [AA,↓reduceIte,jA,f0],by simp -implicitDefEqProofs only [AA,↓reduceIte,jA,f3],by simp -implicitDefEqProofs only [AA,↓reduceIte,jA],by simp -implicitDefEqProofs only [AA,↓reduceIte,jA],by simp -implicitDefEqProofs only [AA,↓reduceIte]; rfl⟩ ?_
    clear f0 f3
    rintro q F H ⟨i,hq,hF,nt,kt,f0,f3,f43,f44,f45⟩
    simp -implicitDefEqProofs only [BB,A8,BI,A7,AZ,BA,AO,AQ,AL,BD,AY,AC,AA,AX,BU,wxP,AB,DV,↓reduceIte,jB,jC,enP,f44,f45]
    refine CQ (fun hc => ?_) (fun hc => ?_)
    ·have hi':i < p.hard.length:=by simpa using hc
     have hmem:=jT hi'
     have kA:=kt.app (ABlk.live 4 [CW p.hard[i]])
     have nA:=nt.ext ((ext.rfl' H).app [ABlk.live 4 [CW p.hard[i]]])
     simp -implicitDefEqProofs only [BB,CE,A8,BR,A7,AZ,BA,AO,AQ,AL,BD,AY,AC,DU,AA,AX,EZ,BO,CU,CG,wxP,CB,AB,BZ,↓reduceIte,jA,jB,jC,enP,LQ,jK,f43,f45,EX hi',EU KJ JR ES hi',AI9,AJQ _ _ [.int .i64 0,.int .i64 0,.str ⟨#[]⟩,.sl .nil 0 []] rfl]
     have lE:=ldE H p.hard[i]
     generalize H ++ [ABlk.live 4 [CW p.hard[i]]]=HA at kA nA lE ⊢
     generalize H.length=b9 at lE ⊢
     try simp -implicitDefEqProofs only []
     refine EK (by kernel_rfl) ?_
     simp -implicitDefEqProofs only [ET,DK,CY,D7,DL,EH,EC,C9,EI,EE,BI,A7,AO,AA,AX,BN,BO,BG,wxP,AB,jF,jD,jE,↓reduceIte,jA,jL,jH,jB,enP,L8,EM,FZ,EW,f0,lE]
     refine ⟨_,pcX (ACS G p.vars t nb lb p.hard[i] (hg.hard _ hmem) HA nA),?_⟩
     try simp -implicitDefEqProofs only []
     refine ⟨_,pcX (JX G _ HA),?_⟩
     try simp -implicitDefEqProofs only []
     refine CQ (fun hd => ?_) (fun hd => ?_)
     ·simp -implicitDefEqProofs only [ER,A8,AZ,AO,AQ,AL,BD,AY,AC,AA,AX,FI,wxP,wxX,AE9,AB4,AO8,CB,AB,↓reduceIte,jB,jC,enP,jK,AYO,AJ4 (P:=Tryz.prog) (t:=97) AW4]
      refine ⟨rfl,hkH.trans kA,hbad ?_⟩
      have:ADZ p.vars p.hard t.1=true:=qR.2 ⟨_,hmem,hd⟩
      rw [if_pos this] at hR
      rw [hR] at hS; exact hS.symm
     ·simp -implicitDefEqProofs only [A8,BR,A7,EO,FO,AZ,BA,AO,AQ,AL,BD,AY,AC,AA,AX,AU,BH,BJ,BU,wxP,AB,D6,↓reduceIte,jA,jB,jC,enP,f45,wrap_succ (show i < 9223372036854775807 by omega)]
      refine ⟨q - 1,by omega,i+1,by omega,fun e he => ?_,nA,kA,by trivial,by trivial,by trivial,by trivial,by trivial⟩
      rw [zY hi'] at he
      rcases zX.1 he with he | he
      ·exact hF e he
      ·rw [List.mem_singleton] at he; subst he; exact hd
    ·have hi' : ¬ i < p.hard.length:=by simpa using hc
     rw [jY (by omega)] at hF
     simp -implicitDefEqProofs only [EF,FC,MG,F8,AA,↓reduceIte,jA]
     exact ⟨hF,nt,kt,f0,f3⟩
   clear f0 f3 l1 g3A nt kt
   rintro F H ⟨hF,nt,kt,f0,f3⟩
   have hcf : ¬ ADZ p.vars p.hard t.1=true:=by
    unfold ADZ
    rw [qR]
    rintro ⟨e,he,hq⟩
    rw [hF e he] at hq; cases hq
   rw [if_neg hcf] at hR
   rw [hR] at hS
   have hS:OL p.vars p.hard m t=TOT:=hS
   simp -implicitDefEqProofs only [EO,F6,FO,↓reduceIte]
   refine ⟨m,by omega,t,hS,fun hc => ?_,nt.len,nt,kt,f0,f3⟩
   rcases hste.chg nH.wf hc with q | q
   ·cases q
   ·have:wid t.1 < wid s.1:=q
    omega
  ·have hc:s.2=false:=hc
   have hT:TOT=some s:=by
    rw [← hS]
    cases m with
    | zero=>show (if s.2=true then none else some s)=_; rw [hc]; rfl
    | succ m=>show (if s.2=true then _ else some s)=_; rw [hc]; rfl
   simp -implicitDefEqProofs only [EF,FC,MG,F8,↓reduceIte]
   exact ⟨s,hT,nH,kH⟩
 ·rintro F H ⟨s,hT,nH,kH⟩
  simp -implicitDefEqProofs only [F6,G9,↓reduceIte]
  exact ⟨s,hT,nH,k1.trans kH⟩
end
theorem Kp.setGe {nb lb:Nat} {a b:Hp} (h1:Kp nb lb a b) {c:Nat} (hc:a.length≤c) (x:ABlk):Kp nb lb a (b.set c x) :=
 ⟨fun k y q n1 n2=>by rw [zL (by have:=CS q; omega)]; exact h1.1 k y q n1 n2,by rw [qH]; exact h1.2⟩
theorem Nw.setCell {H:Hp} {nb lb:Nat} {vars:List Vr} {s:NS} (n:Nw H nb lb vars s) {c:Nat} {v:AV} (hc:H[c]? = some (.live 1 [[v]])) (h1:c≠nb) (h2:c≠lb) (x:ABlk):Nw (H.set c x) nb lb vars s:=by
 obtain ⟨mb,L,ents,e1,e2,e3,e4,e5,e6⟩:=n.ex
 have h3:c≠mb:=fun e=>by rw [e,e2] at hc; cases hc
 refine ⟨⟨mb,L,ents,by rw [zL h1]; exact e1,by rw [zL h3]; exact e2,e3,?_,e5,e6⟩,n.ne,by rw [qH]; exact n.lbl,n.len,n.wf⟩
 rcases e4 with e4 | ⟨e,hb,hn⟩
 ·exact .inl e4
 ·exact .inr ⟨e,by rw [zL h2]; exact hb,hn⟩
theorem A1K (h:Hp):J8 Tryz.prog h 97=some (.ptr h.length 0 0,h ++ [ABlk.live 0 [[]]]):=KI (row := []) (by kernel_rfl)
theorem AZB (h:Hp):GM Tryz.prog (h ++ [ABlk.live 0 [[]]]) 97 (.ptr h.length 0 0) (.agg [])=some (h ++ [ABlk.live 0 [[]]]):=by
 have hs:szO Tryz.prog 97=some 0:=by kernel_rfl
 rw [AAL (cs := []) (U2 rfl) hs (DF _ _) (jQ 0),MB]; rfl
theorem A1G:WT Tryz.prog (.ifc 97 (.agg #[])) 97 true=some (.tup [.agg [],.bool true]):=by kernel_rfl
theorem A1H:WT Tryz.prog .nilifc 97 true=some (.tup [.agg [],.bool false]):=by kernel_rfl
theorem AZ1:IE Tryz.prog 20 .neq (.ifc 97 (.agg #[])) .nilifc=some (.bool true):=by kernel_rfl
theorem AZ2:IE Tryz.prog 20 .neq .nilifc .nilifc=some (.bool false):=by kernel_rfl
theorem A0O:IE Tryz.prog 20 .eql (.ifc 97 (.agg #[])) .nilifc=some (.bool false):=by kernel_rfl
theorem A0P:IE Tryz.prog 20 .eql .nilifc .nilifc=some (.bool true):=by kernel_rfl
theorem AW9 {H:Hp} {c:Nat} {v:AV} (hc:H[c]? = some (.live 1 [[v]])) (b:Bool):GM Tryz.prog H 4 (.ptr c 0 0) (.bool b)=some (H.set c (.live 1 [[.bool b]])):=by
 rw [I5 (cs := [.bool b]) rfl sz4 hc rfl (by simp)]; rfl
section
variable (G:Nat→AV)
theorem AHK (c:Nat) (h:Hp) (v:AV) (hc:h[c]? = some (.live 1 [[v]])) (x:Option Value) (hx:x=none∨x=some emp):ADM (En G) 64 [.ptr c 0 0] h x fun H=>H=(h ++ [ABlk.live 0 [[]]]).set c (.live 1 [[.bool x.isNone]]):=by
 refine AOP (H:=Hint.none) (enM G) Tryz.func64 rfl (by kernel_rfl) (by kernel_rfl) (jJ (by kernel_rfl)) (jJ (by kernel_rfl)) rfl (jJ (by kernel_rfl)) ?_
 have hc':=DC (x:=ABlk.live 0 [[]]) hc
 have e0:(upd (upd (MC [AV.ptr c 0 0]) 4 (AKH x)) 1 (AKH x)) 0 = .ptr c 0 0:=rfl
 rcases hx with rfl | rfl
 ·have ei:AKH none = .nilifc:=rfl
  rw [ei] at e0 ⊢
  show awp _ _ _ _ _ (fun e _ h'=>(match e with | .exit _=>False | _=>True)∧h'=(h ++ [ABlk.live 0 [[]]]).set c (.live 1 [[.bool true]]))
  simp -implicitDefEqProofs only [zB,zD,BB,A8,BR,BI,A7,DN,AZ,BA,BL,BX,CO,IP,AO,AQ,AL,BD,AY,AC,DU,AA,EQ,AX,AU,BM,AM7,BJ,BC,CP,DZ,EZ,CU,BU,G8,JJ,wxP,AGU,CB,AB,BZ,BF,↓reduceIte,jA,jB,jC,enP,jK,A1H,A1K,AZB,AZ2,A0P,AW9 hc']
  exact ⟨trivial,trivial⟩
 ·have ei:AKH (some emp) = .ifc 97 (.agg #[]):=rfl
  rw [ei] at e0 ⊢
  show awp _ _ _ _ _ (fun e _ h'=>(match e with | .exit _=>False | _=>True)∧h'=(h ++ [ABlk.live 0 [[]]]).set c (.live 1 [[.bool false]]))
  simp -implicitDefEqProofs only [zB,zD,BB,A8,BR,BI,A7,DN,AZ,BA,BL,BX,CO,GL,AO,AQ,AL,BD,AY,AC,DU,AA,AX,AU,BM,AM7,BJ,BC,CP,DW,EZ,CU,BU,JG,G8,JJ,wxP,AGU,CB,AB,BZ,GG,BF,↓reduceIte,jA,jB,jW,jC,enP,jK,A1G,A1K,AZB,AZ1,A0O,AW9 hc']
  exact ⟨trivial,trivial⟩
theorem AU8 (nb lb cb pb:Nat) (base:Hp) (Bad:Prop) (p:Pr) (hs:PrS p) (hg:GoodP p) (l:List Rng) (h:Hp) (hcb:h[cb]? = some (.live 1 [[.ptr nb 0 0]])) (hpb:h[pb]? = some (.live 5 [DY p])) (hk:Kp nb lb base h) (n:Nw h nb lb p.vars (l,false)) (hbad:MZ p l=none→Bad) :
  ACalls ((En G).wx (X0 nb lb base Bad)) 37 ([] ++ [.ptr cb 0 0,.ptr pb 0 0]) h (NP nb lb p.vars h (MZ p l)):=by
 refine IM (H:=Hint.none) (enM G) Tryz.func37 rfl (by kernel_rfl) (by kernel_rfl) (jJ (by kernel_rfl)) ?_
 show awp _ _ _ _ _ (EN _ [] _)
 have lp:DR Tryz.prog h 27 (.ptr pb 0 0)=some (.agg (DY p)):=by rw [H7 VH UG hpb (row:=DY p) rfl (by rw [GZ]; exact jQ 5)]; rfl
 simp -implicitDefEqProofs only [A8,AZ,AO,AQ,AL,BD,AY,AC,AA,AX,BN,BO,BV,BP,wxP,AB,BF,BQ,jF,jD,jE,zJ,↓reduceIte,jA,jB,jC,enP,AUK hcb,lp]
 refine ACalls.mono (APX G nb lb base Bad p hs hg l h hk n hbad) ?_
 rintro v H q
 simp -implicitDefEqProofs only [G9,BA,AC]
 exact q
theorem al4 (h:Hp):J8 Tryz.prog h 4=some (.ptr h.length 0 0,h ++ [ABlk.live 1 [[.bool false]]]):=KI (row := [.bool false]) (by kernel_rfl)
def A3S (nb lb:Nat) (p:Pr) (l:List Rng) (h:Hp):AV→Hp→Prop:=fun v H=>(v = .bool true∧∃ s,MZ p l=some s∧Nw H nb lb p.vars s∧Kp nb lb h H)∨(v = .bool false∧MZ p l=none∧Kp nb lb h H)
theorem ASL (nb lb cb pb:Nat) (p:Pr) (hs:PrS p) (hg:GoodP p) (l:List Rng) (h:Hp) (hcb:h[cb]? = some (.live 1 [[.ptr nb 0 0]])) (hpb:h[pb]? = some (.live 5 [DY p])) (n:Nw h nb lb p.vars (l,false)) :
  ACalls (En G) 36 [.fn (.func 37) [] [.ptr cb 0 0,.ptr pb 0 0]] h (A3S nb lb p l h):=by
 have nA:=n.ext ((ext.rfl' h).app [ABlk.live 1 [[.bool false]]])
 have oc:=n.lt (jQ h.length)
 have kA:=(Kp.rfl' nb lb h).app (ABlk.live 1 [[.bool false]])
 have gc:=DF h (ABlk.live 1 [[.bool false]])
 refine AK5 (E:=En G) (X:=X0 nb lb (h ++ [ABlk.live 1 [[.bool false]]]) (MZ p l=none)) (R1:=fun H => ∃ v,NP nb lb p.vars (h ++ [ABlk.live 1 [[.bool false]]]) (MZ p l) v H) Tryz.func36 rfl (by kernel_rfl) ⟨rfl,rfl,rfl,rfl,rfl⟩ rfl
  ⟨rfl,rfl,rfl⟩ ⟨rfl,rfl,rfl⟩ ⟨rfl,rfl,rfl⟩ ⟨rfl,rfl,rfl⟩ ⟨rfl,rfl,rfl⟩ ⟨rfl,rfl,rfl⟩ (al4 h) ?_ ?_ ?_
 ·exact ACalls.mono (AU8 G nb lb cb pb _ _ p hs hg l _ (DC hcb) (DC hpb) (Kp.rfl' _ _ _) nA id) fun v H q=>⟨v,q⟩
 ·rintro h' ⟨v,s,e,n',k'⟩
  have g':=k'.1 _ _ gc oc.1 oc.2
  have g2:(h'.set h.length (.live 1 [[.bool true]]))[h.length]? = some (.live 1 [[.bool true]]):=G7 g'
  refine ⟨h'.set h.length (.live 1 [[.bool true]]),AW9 g' true,?_⟩
  have hd:=AHK G h.length (h'.set h.length (.live 1 [[.bool true]])) (.bool true) g2 none (.inl rfl)
  refine ⟨hd.1,fun g w cargs S ha=>(hd.2 g w cargs S ha).mono ?_⟩
  rintro e' u w' ⟨q1,q2,g3,h3,rfl,q3,q4⟩
  refine ⟨q1,q2,g3,_,⟨.bool true,?_,.inl ⟨rfl,s,e,?_,?_⟩⟩,q3,q4⟩
  ·exact I8 ag4 (G7 (DC g2))
  ·exact ((n'.setCell g' oc.1 oc.2 _).ext ((ext.rfl' _).app [ABlk.live 0 [[]]])).setCell (DC g2) oc.1 oc.2 _
  ·exact (((kA.trans k').setGe (jQ _) _).app _).setGe (jQ _) _
 ·rintro u h' ⟨rfl,k',hb⟩
  have g':=k'.1 _ _ gc oc.1 oc.2
  have hd:=AHK G h.length h' (.bool false) g' (some emp) (.inr rfl)
  refine ⟨hd.1,fun g w cargs S ha=>(hd.2 g w cargs S ha).mono ?_⟩
  rintro e' u w' ⟨q1,q2,g3,h3,rfl,q3,q4⟩
  refine ⟨q1,q2,g3,_,⟨.bool false,?_,.inr ⟨rfl,hb,?_⟩⟩,q3,q4⟩
  ·exact I8 ag4 (G7 (DC g'))
  ·exact ((kA.trans k').app _).setGe (jQ _) _
end
theorem AU2 {h H:Hp} (hg : ∀ (b:Nat) (x:ABlk),h[b]? = some x→H[b]? = some x):Sm.ext h H:=by
 refine ⟨H.drop h.length,?_⟩
 apply List.ext_getElem?
 intro i
 rcases jV i h.length with hi | hi
 ·rw [List.getElem?_append_left hi]
  have:h[i]? = some h[i]:=by simp [hi]
  rw [this,hg i _ this]
 ·rw [List.getElem?_append_right hi,List.getElem?_drop]
  congr 1; omega
theorem Kp.ext {nb lb:Nat} {h h0 H:Hp} (hx:Sm.ext h h0) (k:Kp nb lb h0 H) (h1:h.length≤nb) (h2:h.length≤lb):Sm.ext h H :=
 AU2 fun b x hb=>k.1 b x (FD hx hb) (by have:=CS hb; omega) (by have:=CS hb; omega)
theorem AJA (h:Hp):J8 Tryz.prog h 66=some (.ptr h.length 0 0,h ++ [ABlk.live 1 [[.nilp]]]):=KI (row := [.nilp]) (by kernel_rfl)
theorem AFG {H:Hp} {c nb:Nat} {v:AV} (hc:H[c]? = some (.live 1 [[v]])):GM Tryz.prog H 66 (.ptr c 0 0) (.ptr nb 0 0)=some (H.set c (.live 1 [[.ptr nb 0 0]])):=by
 rw [I5 (cs := [.ptr nb 0 0]) rfl A19 hc rfl (by simp)]; rfl
theorem AM2 (h:Hp):GN Tryz.prog false h 29 0 []=some (.sl .full 2 [],h):=by kernel_rfl
theorem A07 (b:Nat) (m:SM) (xs:List (List AV)):JZ Tryz.prog 73 [(0,.agg [.mp b,.sl m 2 xs])]=some (.agg [.mp b,.sl m 2 xs,.bool false]):=by kernel_rfl
theorem A08 (b c n:Nat):JZ Tryz.prog 73 [(0,.agg [.mp b,.own c 0 n])]=some (.agg [.mp b,.own c 0 n,.bool false]):=by kernel_rfl
def TQ (p:Pr) (l:List Rng):List Rng × Int:=if KP p≠0∨MH p.vars l=false then ([],1) else match MZ p l with
 | none=>([],11)
 | some s=>(s.1,0)
def AJ1 (p:Pr) (l:List Rng):SM:=if KP p≠0∨MH p.vars l=false then .nil else match MZ p l with
 | none => .nil
 | some s=>if s.1.length=0 then .full else .any
def VR (p:Pr) (l:List Rng):AV:=if KP p≠0∨MH p.vars l=false then .tup [.sl .nil 0 [],.int .i64 1] else match MZ p l with
 | none => .tup [.sl .nil 0 [],.int .i64 11]
 | some s => .tup [.sl (if s.1.length=0 then .full else .any) 2 (s.1.map encR),.int .i64 0]
theorem AI4 (H:Hp) (m:SM) (l:List Rng) (hl:l.length≤1048576) : ∃ L H',IU Tryz.prog true H 29 29 (.sl .full 2 []) (.sl m 2 (l.map encR))=some (L,H')∧Sm.ext H H'∧((l = []∧L = .sl .full 2 [])∨(l≠[]∧L = .own H.length 0 l.length∧H'[H.length]? = some (.live 2 (l.map encR)))):=by
 cases l with
 | nil=>exact ⟨_,_,ASS AG2 VC (.inr rfl),ext.rfl' _,.inl ⟨rfl,rfl⟩⟩
 | cons r l =>
   have h1:((r :: l).map encR)≠[]:=by simp
   have:=AI3 (xs := []) AG2 VC AS7 AR6 (QC H m 2 ((r :: l).map encR)) h1 (PV (by simp at hl ⊢; omega) (by omega))
   rw [List.length_nil,jG,jR,zJ] at this
   exact ⟨_,_,this,(ext.rfl' _).app _,.inr ⟨by simp,rfl,DF _ _⟩⟩
theorem AMP (K:Hp) (p:Pr) (L:AV):(evH K p L)[K.length+2]? = some (ABlk.live 2 [[AV.mp (K.length+1),L]]):=by simp [evH]
theorem AZ0 {H0 K H2:Hp} {p:Pr} {L:AV} {l:List Rng} (hK:Sm.ext H0 K) (hL:(l = []∧L = .sl .full 2 [])∨(l≠[]∧L = .own H0.length 0 l.length∧K[H0.length]? = some (.live 2 (l.map encR)))) (hx:Sm.ext (evH K p L) H2) {nb:Nat} (hnb:H2[nb]? = some (.live 3 [[.mp (K.length+1),L,.bool false]])) (h3:K.length+3≤nb)
  (hlen:l.length=p.vars.length) (hwf : ∀ r∈l,wfR r) : ∃ lb,Nw H2 nb lb p.vars (l,false)∧H0.length≤lb∧∃ xs,H2[lb]? = some (.live 2 xs):=by
 have hm2:(evH K p L)[K.length+1]? = some (ABlk.map (VF (QM p.vars 0))):=by simp [evH]
 have hle:(evH K p L).length=K.length+3:=by simp [evH]
 have hx2:=hx.le
 have hk:=hK.le
 rcases hL with ⟨e,eL⟩ | ⟨e,eL,hb⟩
 ·exact ⟨K.length+2,⟨⟨K.length+1,L,QM p.vars 0,hnb,FD hx hm2,fun n=>SV n _ _,.inl ⟨e,eL⟩,by omega,by omega⟩,by omega,by omega,hlen,hwf⟩,by omega,_,FD hx (AMP K p L)⟩
 ·have hlt:=CS hb
  exact ⟨H0.length,⟨⟨K.length+1,L,QM p.vars 0,hnb,FD hx hm2,fun n=>SV n _ _,.inr ⟨eL,FD hx (FD (SS K p L) hb),e⟩,by omega,by omega⟩,by omega,by omega,hlen,hwf⟩,jQ _,_,FD hx (FD (SS K p L) hb)⟩
section
variable (G:Nat→AV)
set_option maxHeartbeats 4000000 in
theorem AGR (hG:GOk G) (p:Pr) (hs:PrS p) (l:List Rng) (m:SM) (hl:l.length≤1048576) (h:Hp):PCall (En G) 14 [.agg (DY p),.sl m 2 (l.map encR)] h (VR p l):=by
 refine ACalls.pure (R:=fun v H=>Sm.ext h H∧JS h.length H 3 v=VR p l) 3 ?_ (fun v H q=>q)
 refine IM (H:=hint [19,1000020] []) (enM G) Tryz.func14 rfl (by kernel_rfl) (by kernel_rfl) (jJ (by kernel_rfl)) ?_
 show awp _ _ _ _ _ (EN _ [.tmp 4,.tmp 5] _)
 have ge:=DF h (ABlk.live 5 [DY p])
 have hx:ext h (h ++ [ABlk.live 5 [DY p]]):=(ext.rfl' h).app _
 have hlh:h.length < (h ++ [ABlk.live 5 [DY p]]).length:=by simp
 simp -implicitDefEqProofs only [D5,jO,jP,jI,jM,BB,A8,A7,AZ,BA,AL,BD,AY,AC,AA,AX,AU,BH,KZ,BC,FQ,BO,CB,BF,↓reduceIte,jA,jB,jC,enP,ED,QP]
 generalize h ++ [ABlk.live 5 [DY p]]=H at ge hx hlh ⊢
 generalize hpb:h.length=pb at ge hlh ⊢
 have lp:DR Tryz.prog H 27 (.ptr pb 0 0)=some (.agg (DY p)):=by rw [H7 VH UG ge (row:=DY p) rfl (by rw [GZ]; exact jQ 5)]; rfl
 simp -implicitDefEqProofs only [D5,jO,jP,jI,jM,AZ,AL,BD,AY,AC,AA,AX,BN,BV,BP,AB,jF,jD,jE,↓reduceIte,jB,jC,ED,lp]
 refine (UF G hG p hs H).use ?_
 simp -implicitDefEqProofs only [D5,jO,jP,jI,jM,AZ,BL,BX,CO,AL,BD,AY,AC,AA,AX,AU,BH,BJ,BU,AB,FT,↓reduceIte,jB,jC,enP,ED]
 refine IA (fun h1 => ?_) (fun h1 => ?_)
 ·have h1':KP p≠0:=by simpa using h1
  simp -implicitDefEqProofs only [D5,jO,jP,jI,jM,BB,A8,BK,BI,A7,CJ,JU,DI,AZ,BA,BL,BX,CO,F7,AL,BD,AY,AC,AA,EQ,AX,AU,BH,BM,KZ,BC,CP,DW,↓reduceIte,jA,jB,jC,ED,h1]
  refine ⟨hx,?_⟩
  unfold VR
  rw [if_pos (.inl h1')]; rfl
 have h1':KP p=0:=by simpa using h1
 simp -implicitDefEqProofs only [D5,jO,jP,jI,jM,BL,BX,CO,EY,AL,BD,AY,AC,AA,AX,BN,BJ,BO,BV,BP,AB,BF,BQ,jF,jD,jE,↓reduceIte,jA,jB,jC,enP,ED,h1,lp]
 refine (ACM G p hs l m hl H).use ?_
 simp -implicitDefEqProofs only [D5,jO,jP,jI,jM,BI,A7,AZ,BA,BL,BX,CO,EY,AL,BD,AY,AC,AA,AX,AU,BM,CP,DZ,JG,AB,GG,↓reduceIte,jA,jB,jC,ED,h1]
 cases h3:MH p.vars l
 ·simp -implicitDefEqProofs only [D5,jO,jP,jI,jM,BB,A8,BK,A7,CJ,JU,DI,AZ,BA,AL,BD,AY,AC,AA,AU,BH,KZ,BC,↓reduceIte,jA,jB,jC,ED]
  refine ⟨hx,?_⟩
  unfold VR
  rw [if_pos (.inr h3)]; rfl
 simp -implicitDefEqProofs only [BB,BR,A7,DN,jW]
 obtain ⟨hwf,hlen⟩:=JD.1 h3
 have hne : ¬ (KP p≠0∨MH p.vars l=false):=by rw [h1',h3]; simp
 have hg:=AQ8 hs h1'
 obtain ⟨L,H',ha,hxA,hL⟩:=AI4 H m l hl
 obtain ⟨L2,H2',ha2,hxA2,hL2⟩:=AI4 (H ++ [ABlk.live 1 [[.nilp]]]) m l hl
 have lf : ∀ {L:AV} {K H0:Hp},((l = []∧L = .sl .full 2 [])∨(l≠[]∧L = .own H0.length 0 l.length∧K[H0.length]? = some (.live 2 (l.map encR))))→(∃ m xs,L = .sl m 2 xs)∨∃ b n,L = .own b 0 n:=fun h=>by
  rcases h with ⟨_,e⟩ | ⟨_,e,_⟩
  ·exact .inl ⟨_,_,e⟩
  ·exact .inr ⟨_,_,e⟩
 have hLf:=lf hL
 have hLf2:=lf hL2
 have bd73 : ∀ {L:AV},((∃ m xs,L = .sl m 2 xs)∨∃ b n,L = .own b 0 n)→∀ b:Nat,JZ Tryz.prog 73 [(0,.agg [.mp b,L])]=some (.agg [.mp b,L,.bool false]):=fun hLf b=>by
  rcases hLf with ⟨m,xs,rfl⟩ | ⟨b,n,rfl⟩
  ·exact A07 _ _ _
  ·exact A08 _ _ _
 have bx73 : ∀ {L:AV},((∃ m xs,L = .sl m 2 xs)∨∃ b n,L = .own b 0 n)→∀ (K:Hp) (b:Nat),PO K (.agg [.mp b,L,.bool false])=some (.ptr K.length 0 0,K ++ [ABlk.live 3 [[.mp b,L,.bool false]]]):=fun hLf K b=>by
  rcases hLf with ⟨m,xs,rfl⟩ | ⟨b,n,rfl⟩ <;> rfl
 have ld69 : ∀ (K:Hp) (L:AV),DR Tryz.prog (evH K p L) 69 (.ptr (K.length+2) 0 0)=some (.agg [.mp (K.length+1),L]):=fun K L=>by
  rw [H7 A3Q A18 (AMP K p L) (row := [.mp (K.length+1),L]) rfl (jQ 2)]; rfl
 have lpX : ∀ K:Hp,Sm.ext H K→DR Tryz.prog K 27 (.ptr pb 0 0)=some (.agg (DY p)):=fun K hx=>by rw [H7 VH UG (FD hx ge) (row:=DY p) rfl (by rw [GZ]; exact jQ 5)]; rfl
 have hxc:Sm.ext H (H ++ [ABlk.live 1 [[.nilp]]]):=(ext.rfl' H).app _
 have lp1:=lpX H' hxA
 have lp2:=lpX _ hxc
 have lp3:=lpX H2' (hxc.trans hxA2)
 have lp4:=lpX (H' ++ [ABlk.live 1 [[.nilp]]]) (hxA.app _)
 -- the ends
 have leaf : ∀ (K H0 H2:Hp) (L:AV) (nb c:Nat),Sm.ext H H0→Sm.ext H0 K→((l = []∧L = .sl .full 2 [])∨(l≠[]∧L = .own H0.length 0 l.length∧K[H0.length]? = some (.live 2 (l.map encR))))→Sm.ext (evH K p L) H2→H2[nb]? = some (.live 3 [[.mp (K.length+1),L,.bool false]])→K.length+3≤nb→H2[c]? = some (.live 1 [[.nilp]])→H.length≤c →
   ∃ nb' lb cb,True∧AV.ptr c 0 0 = .ptr cb 0 0∧(H2.set c (.live 1 [[.ptr nb 0 0]]))[cb]? = some (.live 1 [[.ptr nb' 0 0]])∧Nw (H2.set c (.live 1 [[.ptr nb 0 0]])) nb' lb p.vars (l,false)∧pb < nb'∧pb < lb∧cb≠nb'∧cb≠lb∧Sm.ext H (H2.set c (.live 1 [[.ptr nb 0 0]])):=by
  intro K H0 H2 L nb c e1 e2 e3 e4 e5 e6 e7 e8
  obtain ⟨lb,n,hlb,xs,hxs⟩:=AZ0 e2 e3 e4 e5 e6 hlen hwf
  have hcl:c≠lb:=fun e=>by rw [e,hxs] at e7; cases e7
  have hcn:c≠nb:=fun e=>by rw [e,e5] at e7; cases e7
  have:=e1.le
  have:=e2.le
  exact ⟨nb,lb,c,trivial,rfl,G7 e7,n.setCell e7 hcn hcl _,by omega,by omega,hcn,hcl,(((e1.trans e2).trans (SS K p L)).trans e4).set e8 _⟩
 have hle:=hxA.le
 have hl1:(evH H' p L).length=H'.length+3:=by simp [evH]
 have hl3:(evH (H' ++ [ABlk.live 1 [[.nilp]]]) p L).length=H'.length+4:=by simp [evH]
 have hl4:(evH H2' p L2).length=H2'.length+3:=by simp [evH]
 have ca:=DF (evH H' p L ++ [ABlk.live 3 [[.mp (H'.length+1),L,.bool false]]]) (ABlk.live 1 [[.nilp]])
 have cb:=DC (x:=ABlk.live 3 [[.mp (H'.length+1),L,.bool false]]) (DF (evH H' p L) (ABlk.live 1 [[.nilp]]))
 have cc:(evH (H' ++ [ABlk.live 1 [[.nilp]]]) p L ++ [ABlk.live 3 [[.mp ((H' ++ [ABlk.live 1 [[.nilp]]]).length+1),L,.bool false]]])[H'.length]? = some (ABlk.live 1 [[.nilp]]):=DC (FD (SS _ p L) (DF H' (ABlk.live 1 [[.nilp]])))
 have cd:(evH H2' p L2 ++ [ABlk.live 3 [[.mp (H2'.length+1),L2,.bool false]]])[H.length]? = some (ABlk.live 1 [[.nilp]]):=DC (FD (SS _ p L2) (FD hxA2 (DF H (ABlk.live 1 [[.nilp]]))))
 have Na:=DC (x:=ABlk.live 1 [[.nilp]]) (DF (evH H' p L) (ABlk.live 3 [[.mp (H'.length+1),L,.bool false]]))
 have Nb:=DF (evH H' p L ++ [ABlk.live 1 [[.nilp]]]) (ABlk.live 3 [[.mp (H'.length+1),L,.bool false]])
 have Nc:=DF (evH (H' ++ [ABlk.live 1 [[.nilp]]]) p L) (ABlk.live 3 [[.mp ((H' ++ [ABlk.live 1 [[.nilp]]]).length+1),L,.bool false]])
 have Nd:=DF (evH H2' p L2) (ABlk.live 3 [[.mp (H2'.length+1),L2,.bool false]])
 have La:=leaf H' H _ L _ _ (ext.rfl' H) hxA hL (((ext.rfl' _).app _).app _) Na (by omega) ca (by simp; omega)
 have Lb:=leaf H' H _ L _ _ (ext.rfl' H) hxA hL (((ext.rfl' _).app _).app _) Nb (by simp; omega) cb (by omega)
 have Lc:=leaf (H' ++ [ABlk.live 1 [[.nilp]]]) H _ L _ _ (ext.rfl' H) (hxA.app _) (by
  rcases hL with q | ⟨q1,q2,q3⟩
  ·exact .inl q
  ·exact .inr ⟨q1,q2,DC q3⟩) ((ext.rfl' _).app _) Nc (by simp; omega) cc (by omega)
 have Ld:=leaf H2' (H ++ [ABlk.live 1 [[.nilp]]]) _ L2 _ _ hxc hxA2 hL2 ((ext.rfl' _).app _) Nd (by omega) cd (jQ _)
 refine QX (fun F H2 => ∃ nb lb cb,F 2 = .ptr pb 0 0∧F 6 = .ptr cb 0 0∧H2[cb]? = some (.live 1 [[.ptr nb 0 0]])∧Nw H2 nb lb p.vars (l,false)∧pb < nb∧pb < lb∧cb≠nb∧cb≠lb∧Sm.ext H H2) (fun _ _=>False) ?_ ?_ (fun _ _ q=>q.elim)
 ·refine Y5 (.ones [1,2] (.alt 0 (.alt 3 (.alt 4 (.ones [5,6,7] (.alt 8 (.ones [9,10] .done) (.alt 9 (.ones [8,10] .done) (.non)))) (.alt 9 (.ones [4,5,6,7,8,10] .done) (.non))) (.alt 9 (.ones [3,4,5,6,7,8,10] .done) (.non))) (.alt 3 (.ones [0] (.alt 4 (.ones [5,6,7] (.alt 8 (.ones [9,10] .done) (.alt 9 (.ones [8,10] .done) (.non)))) (.alt 9 (.ones [4,5,6,7,8,10] .done) (.non)))) (.alt 9 (.alt 0 (.ones [3,4,5,6,7,8,10] .done) (.alt 3 (.ones [0,4,5,6,7,8,10] .done) (.non))) (.non))))) (by kernel_rfl) ?_
  simp only [DT,KC,zD,zB]
  simp -implicitDefEqProofs only [ET,Y9,V7,ER,D5,jO,jP,jI,jM,Bool.or_true,DK,CY,D7,DL,EH,MW,ABP,QS,EC,FH,MV,KW,AA,AX,BN,EZ,FQ,GR,BO,CU,LV,CB,AB,BF,BQ,jF,jD,jE,↓reduceIte,jA,jL,jG,jB,enP,jK,EM,FZ,lp,lp1,lp2,lp3,lp4,AM2,ha,ha2,AJA]
  have new1:=VQ G p L hLf hs.vars H'
  have new3:=VQ G p L hLf hs.vars (H' ++ [ABlk.live 1 [[.nilp]]])
  have new4:=VQ G p L2 hLf2 hs.vars H2'
  have b1:=bd73 hLf
  have b2:=bd73 hLf2
  have x1:=bx73 hLf
  have x2:=bx73 hLf2
  refine ⟨⟨⟨⟨_,_,new1,?_⟩,⟨_,_,new3,?_⟩,trivial⟩,⟨_,_,new4,?_⟩,trivial⟩,⟨⟨_,_,new1,?_⟩,⟨_,_,new3,?_⟩,trivial⟩,⟨⟨_,_,new4,?_⟩,⟨_,_,new4,?_⟩,trivial⟩,trivial⟩
  ·simp -implicitDefEqProofs only [ET,ER,EP,D5,jO,jP,jI,jM,DK,CY,FK,D7,DL,KT,EC,FH,AA,AX,FI,BO,CU,CB,AB,BZ,↓reduceIte,jA,jL,jG,jB,enP,jK,EW,ld69,b1,x1,AJA,AFG ca,AFG cb]
   exact ⟨La,Lb,trivial⟩
  ·simp -implicitDefEqProofs only [ET,ER,EP,D5,jO,jP,jI,jM,DK,CY,FK,D7,DL,ABP,KT,EC,FH,AA,AX,FQ,FI,BO,CU,CB,AB,BZ,↓reduceIte,jA,jL,jG,jB,enP,jK,EW,ld69,b1,x1,AJA,AFG cc]
   exact Lc
  ·simp -implicitDefEqProofs only [ET,ER,EP,D5,jO,jP,jI,jM,DK,CY,FK,D7,DL,ABP,KT,EC,FH,AA,AX,FQ,FI,BO,CU,CB,AB,BZ,↓reduceIte,jA,jL,jG,jB,enP,jK,EW,ld69,b2,x2,AJA,AFG cd]
   exact Ld
  ·simp -implicitDefEqProofs only [ET,ER,EP,D5,jO,jP,jI,jM,DK,CY,FK,D7,DL,KT,EC,FH,AA,AX,FI,BO,CU,CB,AB,BZ,↓reduceIte,jA,jL,jG,jB,enP,jK,EW,ld69,b1,x1,AJA,AFG ca,AFG cb]
   exact ⟨La,Lb,trivial⟩
  ·simp -implicitDefEqProofs only [ET,ER,EP,D5,jO,jP,jI,jM,DK,CY,FK,D7,DL,ABP,KT,EC,FH,AA,AX,FQ,FI,BO,CU,CB,AB,BZ,↓reduceIte,jA,jL,jG,jB,enP,jK,EW,ld69,b1,x1,AJA,AFG cc]
   exact Lc
  ·simp -implicitDefEqProofs only [ET,ER,EP,D5,jO,jP,jI,jM,DK,CY,FK,D7,DL,ABP,KT,EC,FH,AA,AX,FQ,FI,BO,CU,CB,AB,BZ,↓reduceIte,jA,jL,jG,jB,enP,jK,EW,ld69,b2,x2,AJA,AFG cd]
   exact Ld
  ·simp -implicitDefEqProofs only [ET,ER,EP,D5,jO,jP,jI,jM,DK,CY,FK,D7,DL,ABP,KT,EC,FH,AA,AX,FQ,FI,BO,CU,CB,AB,BZ,↓reduceIte,jA,jL,jG,jB,enP,jK,EW,ld69,b2,x2,AJA,AFG cd]
   exact Ld
 clear La Lb Lc Ld Na Nb Nc Nd ca cb cc cd leaf
 rintro F H2 ⟨nb,lb,c,f2,f6,gc,n,o1,o2,o3,o4,hx2⟩
 have gp:=FD hx2 ge
 simp -implicitDefEqProofs only [D5,jO,jP,jI,jM,BB,A8,A7,AZ,AL,BD,AY,AC,AA,AX,BN,JQ,BV,BP,jF,jD,jE,↓reduceIte,jB,jC,ED,f2,f6]
 refine ACalls.mono (ASL G nb lb c pb p hs hg l H2 gc gp n) ?_
 have hxx:=hx.trans hx2
 have fr:VR p l=match MZ p l with
  | none => .tup [.sl .nil 0 [],.int .i64 11]
  | some s => .tup [.sl (if s.1.length=0 then .full else .any) 2 (s.1.map encR),.int .i64 0]:=by unfold VR; rw [if_neg hne]
 rintro v H3 (⟨rfl,s,e,n3,k3⟩ | ⟨rfl,e,k3⟩)
 ·simp -implicitDefEqProofs only [D5,jO,jP,jI,jM,BB,A8,BR,BI,A7,DN,AZ,BA,AL,BD,AY,AC,AA,AX,BO,JG,AB,GG,↓reduceIte,jA,jB,jW,jC,enP,ED]
  have gc3:=k3.1 _ _ gc o3 o4
  obtain ⟨mb,L3,ents,e1,e2,e3,e4,_⟩:=n3.ex
  have l29:DR Tryz.prog H3 29 (.ptr nb 0 1)=some L3:=by rw [DJ (by kernel_rfl) e1 rfl]; rfl
  simp -implicitDefEqProofs only [D5,jO,jP,jI,jM,BK,A7,JU,AZ,BA,AL,BD,AY,AC,AA,AX,AU,BH,BC,BO,BG,AB,↓reduceIte,jA,jH,jG,jB,jC,enP,ZQ,L8,ED,EM,EW,f6,AUK gc3,l29]
  refine ⟨k3.ext hxx (by omega) (by omega),?_⟩
  rw [fr,e]
  rcases e4 with ⟨q,rfl⟩ | ⟨rfl,hb,hn⟩
  ·show JS pb H3 3 (.tup [.sl .full 2 [],.int .i64 0]) = .tup [.sl (if s.1.length=0 then .full else .any) 2 (s.1.map encR),.int .i64 0]
   rw [q]; rfl
  ·have hz : ¬ s.1.length=0:=by simpa using hn
   show AV.tup [JS pb H3 2 (.own lb 0 s.1.length),JS pb H3 2 (.int .i64 0)] = .tup [.sl (if s.1.length=0 then .full else .any) 2 (s.1.map encR),.int .i64 0]
   rw [if_neg hz,AF0 ARC (by omega) hb]; rfl
 ·simp -implicitDefEqProofs only [D5,jO,jP,jI,jM,BB,A8,BK,BI,A7,CJ,JU,DI,AZ,BA,AL,BD,AY,AC,AA,AX,AU,BH,KZ,BC,JG,AB,GG,↓reduceIte,jA,jB,jC,ED]
  refine ⟨k3.ext hxx (by omega) (by omega),?_⟩
  rw [fr,e]; rfl
theorem AAX (hG:GOk G) (p:Pr) (hs:PrS p) (l:List Rng) (m:SM) (hl:l.length≤1048576) (h:Hp):PCall (En G) 14 [.agg (DY p),.sl m 2 (l.map encR)] h (.tup [.sl (AJ1 p l) 2 ((TQ p l).1.map encR),.int .i64 (TQ p l).2]):=by
 refine PCall.res (AGR G hG p hs l m hl h) ?_
 have hn:CvR (.sl .nil 0 []) (.sl .nil 2 []):=CvR.sl (Cv.nil 0 2)
 unfold VR TQ AJ1
 by_cases h:KP p≠0∨MH p.vars l=false
 ·rw [if_pos h,if_pos h,if_pos h]
  exact CvR.tup (CvRL.cons hn (CvRL.refl _))
 ·rw [if_neg h,if_neg h,if_neg h]
  cases MZ p l with
  | none=>exact CvR.tup (CvRL.cons hn (CvRL.refl _))
  | some s=>exact CvR.refl _
end
abbrev nA:ByteArray:=⟨#[97]⟩
abbrev nB:ByteArray:=⟨#[98]⟩
def vE (n:ByteArray):Ex := .mk 2 0 n .nil []
def lE (a b:Ex):Ex := .mk 17 0 ⟨#[]⟩ .full [a,b]
def kE4:Ex := .mk 1 4 ⟨#[]⟩ .nil []
def vA:Vr:=⟨nA,3,1,0⟩
def vB:Vr:=⟨nB,3,1,0⟩
def pS:Pr:=⟨.full,[vA,vB],.full,[lE (vE nA) (vE nB),lE (vE nB) kE4],.nil,[],.nil,[],.full,[⟨.full,[0,1]⟩]⟩
def cW:List AV := [.int .i64 1,.int .i64 4,.str ⟨#[]⟩,.sl .nil 0 []]
def w2:List AV := [.int .i64 17,.int .i64 0,.str ⟨#[]⟩,.sl .full 4 [CW (vE nB),cW]]
def wS:List AV := [.sl .full 4 [GH vA,GH vB],.sl .full 4 [CW (lE (vE nA) (vE nB)),w2],.sl .nil 0 [],.sl .nil 0 [],.sl .full 1 [[.sl .full 1 [[.int .i64 0],[.int .i64 1]]]]]
theorem wc2 {m:SM} {k:Nat} {a b a' b':List AV} (h1:CvRow a a') (h2:CvRow b b'):Cv (.sl m k [a,b]) (.sl m k [a',b']):=Cv.rows rfl fun i r r' e1 e2=>by
 match i,e1,e2 with
 | 0,e1,e2=>cases e1; cases e2; exact h1
 | 1,e1,e2=>cases e1; cases e2; exact h2
 | _+2,e1,_=>cases e1
theorem AF8 (op n:Int) (s:ByteArray) (m:SM) (a b:Ex):CW (.mk op n s m [a,b]) = [.int .i64 op,.int .i64 n,.str s,.sl m 4 [CW a,CW b]]:=by rw [NR]; rfl
theorem AIK (op n:Int) (s:ByteArray) (m:SM):CW (.mk op n s m []) = [.int .i64 op,.int .i64 n,.str s,.sl m 4 []]:=by rw [NR]; rfl
theorem AZN (e:Ex):CvRow (CW e) (CW e):=CvRow.refl fun v hv=>List.all_eq_true.1 (LY e) v hv
theorem A0T:CvRow cW (CW kE4):=by
 unfold kE4
 rw [AIK]
 exact CvRow.cons rfl (Cv.refl _) (CvRow.cons rfl (Cv.refl _) (CvRow.cons rfl (Cv.refl _) (CvRow.cons rfl (Cv.nil 0 4) CvRow.nil)))
theorem AY6:CvRow w2 (CW (lE (vE nB) kE4)):=by
 unfold lE
 rw [AF8]
 exact CvRow.cons rfl (Cv.refl _) (CvRow.cons rfl (Cv.refl _) (CvRow.cons rfl (Cv.refl _) (CvRow.cons rfl (wc2 (AZN _) A0T) CvRow.nil)))
theorem AY5:CvR (.agg wS) (.agg (DY pS)):=by
 have e:DY pS = [.sl .full 4 [GH vA,GH vB],.sl .full 4 [CW (lE (vE nA) (vE nB)),CW (lE (vE nB) kE4)],.sl .nil 4 [],.sl .nil 2 [],.sl .full 1 [[.sl .full 1 [[.int .i64 0],[.int .i64 1]]]]]:=rfl
 rw [e]
 exact CvR.agg (CvRL.cons (CvR.refl _) (CvRL.cons (CvR.sl (wc2 (AZN _) AY6)) (CvRL.cons (CvR.sl (Cv.nil 0 4)) (CvRL.cons (CvR.sl (Cv.nil 0 2)) (CvRL.cons (CvR.refl _) CvRL.nil)))))
theorem A1B (s:ByteArray):JZ Tryz.prog 40 [(0,.int .i64 2),(2,.str s)]=some (.agg [.int .i64 2,.int .i64 0,.str s,.sl .nil 0 []]):=by kernel_rfl
theorem AZD (h:Hp) (cs:List AV) (row:List AV) (hr:row.length=4) (hc:cs.length=4) (hl:cs.all AV.leaf=true):GM Tryz.prog (h ++ [.live 4 [row]]) 40 (.ptr h.length 0 0) (.agg cs)=some (h ++ [.live 4 [cs]]):=by
 rw [AD5 (cs:=cs) (U2 hl) (by rw [hc]; exact JR) (by rw [hr,hc]; exact jQ 4)]
 have:splice row 0 cs=cs:=by unfold splice; rw [zC,zS (by rw [hr,hc]; exact jQ 4)]; simp
 rw [this]
def z5:List AV := [.sl .nil 0 [],.sl .nil 0 [],.sl .nil 0 [],.sl .nil 0 [],.sl .nil 0 []]
def z4:List AV := [.int .i64 0,.int .i64 0,.str ⟨#[]⟩,.sl .nil 0 []]
theorem A1N (h:Hp):J8 Tryz.prog h 27=some (.ptr h.length 0 0,h ++ [.live 5 [z5]]):=KI (row:=z5) (by kernel_rfl)
theorem A1M (h:Hp):J8 Tryz.prog h 40=some (.ptr h.length 0 0,h ++ [.live 4 [z4]]):=AI9 h
theorem A3L (s:ByteArray) (w m:Int):JZ Tryz.prog 61 [(0,.str s),(1,.int .i64 w),(2,.int .i64 m)]=some (.agg [.str s,.int .i64 w,.int .i64 m,.int .i64 0]):=by kernel_rfl
theorem A3K (h:Hp) (s t:ByteArray) (a b c d e f:Int):GN Tryz.prog false h 22 2 [(0,.agg [.str s,.int .i64 a,.int .i64 b,.int .i64 c]),(1,.agg [.str t,.int .i64 d,.int .i64 e,.int .i64 f])]=some (.sl .full 4 [[.str s,.int .i64 a,.int .i64 b,.int .i64 c],[.str t,.int .i64 d,.int .i64 e,.int .i64 f]],h):=by kernel_rfl
theorem AVH (h:Hp) (a b:List AV) (ha:a.length=4) (hb:b.length=4) (la:a.all AV.leaf=true) (lb:b.all AV.leaf=true) (fa:a.all AV.frozen=true) (fb:b.all AV.frozen=true):GN Tryz.prog false h 23 2 [(0,.agg a),(1,.agg b)]=some (.sl .full 4 [a,b],h):=by
 have hz:AA0 Tryz.prog 40=some 4:=by kernel_rfl
 unfold GN
 simp only [ANG,JR,hz]
 have h2:AAM 4 0 [(0,AV.agg a),(1,AV.agg b)]=some [a,b]:=by simp [AAM,JL,la,lb,ha,hb]
 simp [h2,fa,fb]
theorem A1C (xs:List (List AV)):JZ Tryz.prog 40 [(0,.int .i64 17),(3,.sl .full 4 xs)]=some (.agg [.int .i64 17,.int .i64 0,.str ⟨#[]⟩,.sl .full 4 xs]):=by kernel_rfl
theorem A1D:JZ Tryz.prog 40 [(0,.int .i64 1),(1,.int .i64 4)]=some (.agg cW):=by kernel_rfl
theorem A3I (h:Hp) (a b:Int):GN Tryz.prog false h 45 2 [(0,.int .i64 a),(1,.int .i64 b)]=some (.sl .full 1 [[.int .i64 a],[.int .i64 b]],h):=by kernel_rfl
theorem A3J (h:Hp) (xs:List (List AV)):GN Tryz.prog false h 25 1 [(0,.sl .full 1 xs)]=some (.sl .full 1 [[.sl .full 1 xs]],h):=by kernel_rfl
theorem A3M (a b c:List (List AV)):JZ Tryz.prog 27 [(0,.sl .full 4 a),(1,.sl .full 4 b),(4,.sl .full 1 c)]=some (.agg [.sl .full 4 a,.sl .full 4 b,.sl .nil 0 [],.sl .nil 0 [],.sl .full 1 c]):=by kernel_rfl
theorem frE (e:Ex):(CW e).all AV.frozen=true:=by rw [NR]; rfl
theorem AZI {H:Hp} {b:Nat} {row cs:List AV} (hb:H[b]? = some (.live 5 [row])) (hr:row.length=5) (hc:cs.length=5) (hl:cs.all AV.leaf=true):GM Tryz.prog H 27 (.ptr b 0 0) (.agg cs)=some (H.set b (.live 5 [cs])):=by
 rw [AAL (cs:=cs) (U2 hl) (by rw [hc]; exact UG) hb (by rw [hr,hc]; exact jQ 5)]
 have:splice row 0 cs=cs:=by unfold splice; rw [zC,zS (by rw [hr,hc]; exact jQ 5)]; simp
 rw [this]
section
variable (G:Nat→AV)
theorem ABD (s:ByteArray) (h:Hp):PCall (En G) 33 [.str s] h (.agg (CW (vE s))):=by
 refine PCall.res (r := .agg [.int .i64 2,.int .i64 0,.str s,.sl .nil 0 []]) ?_ (by
  unfold vE
  rw [AIK]
  exact CvR.agg (CvRL.cons (CvR.refl _) (CvRL.cons (CvR.refl _) (CvRL.cons (CvR.refl _) (CvRL.cons (CvR.sl (Cv.nil 0 4)) CvRL.nil)))))
 refine JW 3 (fun n H=>rfl) ?_
 refine acN Tryz.func33 rfl ?_
 show awp _ _ _ _ _ (EN _ [.cell 2 40] _)
 simp -implicitDefEqProofs only [ER,EP,BB,A8,BK,A7,AZ,BA,AO,AQ,AL,BD,AY,AC,DU,AA,AX,AU,BH,BJ,EZ,FI,CU,CB,AB,BZ,BF,↓reduceIte,jA,jB,jC,enP,jK,AI9,A1B,AZD h [.int .i64 2,.int .i64 0,.str s,.sl .nil 0 []] [.int .i64 0,.int .i64 0,.str ⟨#[]⟩,.sl .nil 0 []] rfl rfl rfl]
 rw [AKQ _ _ _ _ _ _ _ _ _ (show _=AV.ptr h.length 0 0 by simp -implicitDefEqProofs only [AA,↓reduceIte,jA])]
 refine ⟨_,H7 KJ JR (DF _ _) (row := [.int .i64 2,.int .i64 0,.str s,.sl .nil 0 []]) rfl (jQ 4),rfl,(ext.rfl' h).app _⟩
theorem AZF (H:Hp) (e:Ex) (x:ABlk):GM Tryz.prog (H ++ [.live 4 [z4]] ++ [x]) 40 (.ptr H.length 0 0) (.agg (CW e))=some (H ++ [.live 4 [CW e]] ++ [x]):=by
 rw [AAL (cs:=CW e) (row:=z4) (U2 (LY e)) (by rw [ES]; exact JR) (DC (DF H (ABlk.live 4 [z4]))) (by rw [ES]; exact jQ 4),List.set_append_left _ _ (by simp),MB]
 have:splice z4 0 (CW e)=CW e:=by unfold splice; rw [zC,zS (by rw [ES]; exact jQ 4)]; simp
 rw [this]
theorem AZE (H:Hp) (e f:Ex):GM Tryz.prog (H ++ [ABlk.live 4 [CW e]] ++ [ABlk.live 4 [z4]]) 40 (.ptr (H ++ [ABlk.live 4 [z4]]).length 0 0) (.agg (CW f))=some (H ++ [ABlk.live 4 [CW e]] ++ [ABlk.live 4 [CW f]]):=by
 have:=AJQ (H ++ [ABlk.live 4 [CW e]]) f z4 rfl
 rw [← this]; simp
set_option maxHeartbeats 2000000 in
theorem AHC (h:Hp):PCall (En G) 32 [] h (.agg (DY pS)):=by
 refine PCall.res (r := .agg wS) ?_ AY5
 refine ACalls.pure (R:=fun v H=>v = .agg wS∧Sm.ext h H) 3 ?_ (fun v h' ⟨e,x⟩=>⟨x,by subst e; rfl⟩)
 refine acN Tryz.func32 rfl ?_
 show awp _ _ _ _ _ (EN _ [.cell 0 27] _)
 simp -implicitDefEqProofs only [BB,A8,A7,AZ,BA,AO,AQ,AL,BD,AY,AC,AU,BN,IB,EZ,BV,BP,CB,jF,jD,jE,jB,jC,enP,A1N]
 have g0:=DF h (ABlk.live 5 [z5])
 have hx:ext h (h ++ [ABlk.live 5 [z5]]):=(ext.rfl' h).app _
 generalize h ++ [ABlk.live 5 [z5]]=H at g0 hx ⊢
 generalize hb:h.length=zb at g0 ⊢
 refine (ABD G nA H).use ?_
 simp -implicitDefEqProofs only [AZ,AO,AQ,AL,BD,AY,AC,AU,BN,IB,BV,BP,jF,jD,jE,jB,jC]
 refine (ABD G nB H).use ?_
 simp -implicitDefEqProofs only [ER,EP,BB,A8,A7,AZ,BA,AO,AQ,AL,BD,AY,AC,DU,AA,AX,AU,BH,IB,EZ,FI,CU,CB,BZ,↓reduceIte,jA,jB,jC,enP,jK,A1M,AZF,AZE]
 have g1:=DC (x:=ABlk.live 4 [CW (vE nB)]) (DF H (ABlk.live 4 [CW (vE nA)]))
 have g2:=DF (H ++ [ABlk.live 4 [CW (vE nA)]]) (ABlk.live 4 [CW (vE nB)])
 have hl2:(H ++ [ABlk.live 4 [CW (vE nA)]]).length=(H ++ [ABlk.live 4 [z4]]).length:=by simp
 rw [hl2] at g2
 have gz:=DC (x:=ABlk.live 4 [CW (vE nB)]) (DC (x:=ABlk.live 4 [CW (vE nA)]) g0)
 have hx2:=(hx.app [ABlk.live 4 [CW (vE nA)]]).app [ABlk.live 4 [CW (vE nB)]]
 generalize H ++ [ABlk.live 4 [CW (vE nA)]] ++ [ABlk.live 4 [CW (vE nB)]]=H2 at g1 g2 gz hx2 ⊢
 generalize (H ++ [ABlk.live 4 [z4]]).length=b2 at g2 ⊢
 generalize H.length=b1 at g1 ⊢
 have s1:GN Tryz.prog false H2 23 2 [(0,.agg (CW (vE nA))),(1,.agg (CW (vE nB)))]=some (.sl .full 4 [CW (vE nA),CW (vE nB)],H2):=AVH H2 _ _ (ES _) (ES _) (LY _) (LY _) (frE _) (frE _)
 have s2:GN Tryz.prog false H2 23 2 [(0,.agg (CW (vE nB))),(1,.agg cW)]=some (.sl .full 4 [CW (vE nB),cW],H2):=AVH H2 _ _ (ES _) rfl (LY _) rfl (frE _) rfl
 have s3:GN Tryz.prog false H2 23 2 [(0,.agg [.int .i64 17,.int .i64 0,.str ⟨#[]⟩,.sl .full 4 [CW (vE nA),CW (vE nB)]]),(1,.agg [.int .i64 17,.int .i64 0,.str ⟨#[]⟩,.sl .full 4 [CW (vE nB),cW]])]=some (.sl .full 4 [[.int .i64 17,.int .i64 0,.str ⟨#[]⟩,.sl .full 4 [CW (vE nA),CW (vE nB)]],[.int .i64 17,.int .i64 0,.str ⟨#[]⟩,.sl .full 4 [CW (vE nB),cW]]],H2):=AVH H2 _ _ rfl rfl rfl rfl rfl rfl
 have ew:wS = [.sl .full 4 [[.str nA,.int .i64 3,.int .i64 1,.int .i64 0],[.str nB,.int .i64 3,.int .i64 1,.int .i64 0]],.sl .full 4 [[.int .i64 17,.int .i64 0,.str ⟨#[]⟩,.sl .full 4 [CW (vE nA),CW (vE nB)]],[.int .i64 17,.int .i64 0,.str ⟨#[]⟩,.sl .full 4 [CW (vE nB),cW]]],.sl .nil 0 [],.sl .nil 0 [],.sl .full 1 [[.sl .full 1 [[.int .i64 0],[.int .i64 1]]]]]:=by
  have e:CW (lE (vE nA) (vE nB)) = [.int .i64 17,.int .i64 0,.str ⟨#[]⟩,.sl .full 4 [CW (vE nA),CW (vE nB)]]:=AF8 _ _ _ _ _ _
  unfold wS w2; rw [e]; rfl
 have hst:GM Tryz.prog H2 27 (.ptr zb 0 0) (.agg [.sl .full 4 [[.str nA,.int .i64 3,.int .i64 1,.int .i64 0],[.str nB,.int .i64 3,.int .i64 1,.int .i64 0]],.sl .full 4 [[.int .i64 17,.int .i64 0,.str ⟨#[]⟩,.sl .full 4 [CW (vE nA),CW (vE nB)]],[.int .i64 17,.int .i64 0,.str ⟨#[]⟩,.sl .full 4 [CW (vE nB),cW]]],.sl .nil 0 [],.sl .nil 0 [],.sl .full 1 [[.sl .full 1 [[.int .i64 0],[.int .i64 1]]]]])=some (H2.set zb (.live 5 [wS])):=by
  rw [← ew]; exact AZI gz rfl rfl rfl
 simp -implicitDefEqProofs only [ER,EP,BK,A7,AZ,BA,AO,AQ,AL,BD,AY,AC,DU,AA,AX,AU,BH,IB,FI,GR,BO,CU,CB,AB,BZ,↓reduceIte,jA,jB,jC,enP,jK,A3L,A3K,G6 g1,G6 g2,s1,A1C,A1D,s2,s3,A3I,A3J,A3M,hst]
 rw [AKQ _ _ _ _ _ _ _ _ _ (show _=AV.ptr zb 0 0 by simp -implicitDefEqProofs only [AA,↓reduceIte,jA])]
 refine ⟨.agg wS,?_,rfl,hx2.set (by omega) _⟩
 rw [H7 VH UG (G7 gz) rfl (jQ 5)]; rfl
end
theorem AX9 (a b c d:Int):IE Tryz.prog 34 .eql (.agg [.int .i64 a,.int .i64 b]) (.agg [.int .i64 c,.int .i64 d])=some (.bool ((a == c) && ((b == d) && true))):=by kernel_rfl
theorem AMQ (a b:Rng):IE Tryz.prog 34 .eql (.agg (encR a)) (.agg (encR b))=some (.bool (a == b)):=by
 rw [← APY]; exact AX9 _ _ _ _
theorem AWL (h:Hp) (r s:Rng):GN Tryz.prog false h 29 2 [(0,.agg (encR r)),(1,.agg (encR s))]=some (.sl .full 2 ([r,s].map encR),h):=by kernel_rfl
theorem ASH (op:Int) (a b:Ex):JZ Tryz.prog 40 [(0,.int .i64 op),(3,.sl .full 4 [CW a,CW b])]=some (.agg (CW (.mk op 0 ⟨#[]⟩ .full [a,b]))):=by
 rw [AF8]
 have : ∀ xs:List (List AV),JZ Tryz.prog 40 [(0,.int .i64 op),(3,.sl .full 4 xs)]=some (.agg [.int .i64 op,.int .i64 0,.str ⟨#[]⟩,.sl .full 4 xs]):=fun xs=>by kernel_rfl
 exact this _
section
variable (G:Nat→AV)
theorem AHD (a b:List Rng) (m n:SM) (ha:a.length≤1048576) (h:Hp):PCall (En G) 10 [.sl m 2 (a.map encR),.sl n 2 (b.map encR)] h (.bool (a == b)):=by
 refine acN Tryz.func10 rfl ?_
 show awp _ _ _ _ _ (EN _ [.tmp 4] _)
 simp -implicitDefEqProofs only [BB,A8,BI,A7,AZ,BA,AO,AQ,AL,BD,AY,AC,AA,AX,AU,BM,BJ,BC,BU,FP,AB,FT,BF,BQ,↓reduceIte,jA,jB,jC,enX,enP,ZL,jR]
 refine CQ (fun hc => ?_) (fun hc => ?_)
 ·have hc:a.length≠b.length:=by
   intro e; rw [e] at hc; simp at hc
  simp -implicitDefEqProofs only [BB,A8,BK,A7,CJ,CV,AZ,BA,AO,AQ,AL,BD,AY,AC,AA,AU,BM,BC,↓reduceIte,jB,jC]
  refine ⟨?_,trivial⟩
  have:(a == b)=false:=by
   rw [← qM,beq_iff_eq]; exact fun e=>hc (by rw [e])
  rw [this]
 have hc:a.length=b.length:=by
  have:((a.length:Nat):Int)=((b.length:Nat):Int):=by simpa using hc
  omega
 simp -implicitDefEqProofs only [BB,CE,A8,BR,A7,AZ,BA,AO,AQ,AL,BD,AY,AC,AU,BH,BC,jB,jC]
 refine IY 0 (fun F H=>H=h∧a=b) (fun F H=>F 4 = .bool (a == b)∧H=h) ?_ ?_ ?_
 ·refine EG (fun n' F H => ∃ i,n'+i=a.length∧F 0 = .sl m 2 (a.map encR)∧F 1 = .sl n 2 (b.map encR)∧F 5 = .int .i64 (i:Nat)∧H=h∧∀ j (h1:j < a.length) (h2:j < b.length),j < i→a[j]=b[j]) a.length ⟨0,by simp,by simp -implicitDefEqProofs only [AA,BF,↓reduceIte,jA],by simp -implicitDefEqProofs only [AA,BF,BQ,↓reduceIte,jA],by simp -implicitDefEqProofs only [AA,↓reduceIte]; rfl,rfl,by intro j _ _ h; omega⟩ ?_
  rintro n' F H ⟨i,hi,f0,f1,f5,rfl,he⟩
  simp -implicitDefEqProofs only [BB,A8,BI,A7,AZ,BA,AO,AQ,AL,BD,AY,AC,AA,AX,BJ,BU,FP,AB,DV,↓reduceIte,jA,jB,jC,enP,ZL,f0,f5,jR]
  refine CQ (fun hd => ?_) (fun hd => ?_)
  ·have hi':i < a.length:=by simpa using hd
   have hi2:i < b.length:=by omega
   simp -implicitDefEqProofs only [BB,CE,BR,A7]
   refine EK (by kernel_rfl) ?_
   simp -implicitDefEqProofs only [ET,DK,CY,D7,DL,EH,EC,HY,D9,BI,A7,AO,AA,AX,BO,BU,CG,AB,↓reduceIte,jA,jL,jB,enP,JO,f0,f1,f5,EX hi',EX hi2,EU AJB VC RU hi',EU AJB VC RU hi2,AQE]
   refine CQ (fun hq => ?_) (fun hq => ?_)
   ·have hq:a[i]≠b[i]:=by simpa using hq
    simp -implicitDefEqProofs only [BB,A8,BK,A7,CJ,D8,L6,F9,AZ,BA,AO,AQ,AL,BD,AY,AC,AA,AU,BM,BC,↓reduceIte,jB,jC]
    refine ⟨?_,trivial⟩
    have:(a == b)=false:=by
     rw [← qM,beq_iff_eq]; intro e; subst e; exact hq rfl
    rw [this]
   ·have hq:a[i]=b[i]:=by simpa using hq
    simp -implicitDefEqProofs only [A8,BR,A7,EO,FO,AZ,BA,AO,AQ,AL,BD,AY,AC,AA,AX,AU,BH,BJ,BC,BU,AB,D6,↓reduceIte,jA,jB,jC,enP,f5,wrap_succ (show i < 9223372036854775807 by omega)]
    refine ⟨n' - 1,by omega,i+1,by omega,by trivial,by trivial,by trivial,trivial,fun j h1 h2 hj => ?_⟩
    rcases jV j i with q | q
    ·exact he j h1 h2 q
    ·obtain rfl:j=i:=by omega
     exact hq
  ·have hi' : ¬ i < a.length:=by simpa using hd
   simp -implicitDefEqProofs only [EF,FC,MG,F8,↓reduceIte]
   refine ⟨trivial,List.ext_getElem hc fun j h1 h2=>he j h1 h2 (by omega)⟩
 ·rintro F H ⟨rfl,rfl⟩
  simp -implicitDefEqProofs only [BB,A8,BK,A7,F6,CV,AZ,BA,AO,AQ,AL,BD,AY,AC,AA,AU,BM,BC,↓reduceIte,jB,jC]
  exact ⟨by simp,trivial⟩
 ·rintro F H ⟨f4,rfl⟩
  simp -implicitDefEqProofs only [CJ,D8,CV,f4]
  exact ⟨trivial,trivial⟩
theorem AZA:stL pS = [⟨0,7⟩,⟨0,7⟩]:=by kernel_rfl
theorem AXQ:TQ pS [⟨0,7⟩,⟨0,7⟩]=([⟨0,2⟩,⟨1,3⟩],0):=by kernel_rfl
theorem AX8:evP (.mk 7 0 ⟨#[]⟩ .full [vE nA,vE nB]) pS [⟨2,5⟩,⟨10,20⟩]=⟨12,25⟩:=by kernel_rfl
theorem AX7:evP (.mk 8 0 ⟨#[]⟩ .full [vE nA,vE nB]) pS [⟨2,5⟩,⟨10,20⟩]=⟨65518,65531⟩:=by kernel_rfl
theorem A0N:isT (evP (.mk 17 0 ⟨#[]⟩ .full [vE nA,vE nB]) pS [⟨2,5⟩,⟨10,20⟩])=true:=by kernel_rfl
theorem AB3:PrS pS:=by
 refine ⟨by show 2≤1048576; omega,?_,by show 2+0≤1048576; omega,?_,by show 0≤1048576; omega,fun d hd=>(by cases hd),by show 1≤1048576; omega,by show 2≤1048576; omega⟩
 ·intro v hv
  have hv:v∈[vA,vB]:=hv
  simp only [qI,List.not_mem_nil,or_false] at hv
  rcases hv with rfl | rfl <;> (show 1≤1048576; omega)
 ·intro e he
  have he:e∈[lE (vE nA) (vE nB),lE (vE nB) kE4]:=he
  simp only [qI,List.not_mem_nil,or_false] at he
  rcases he with rfl | rfl
  ·exact jJ (by kernel_rfl)
  ·exact jJ (by kernel_rfl)
theorem APB (op:Int):wt (.mk op 0 ⟨#[]⟩ .full [vE nA,vE nB])≤1048576:=jJ (by kernel_rfl)
set_option maxHeartbeats 2000000 in
theorem PM (hG:GOk G) (h:Hp):PCall (En G) 13 [] h (.bool true):=by
 refine ACalls.pure0 rfl ?_
 refine acN Tryz.func13 rfl ?_
 show awp _ _ _ _ _ (EN _ [.tmp 0] _)
 simp -implicitDefEqProofs only [BB,A8,A7,AZ,BA,AO,AQ,AL,BD,AY,AC,AU,BN,BM,BC,BV,BP,jD,jE,jB,jC,enP]
 refine (AHC G h).use ?_
 have s0:GM Tryz.prog (h ++ [ABlk.live 5 [z5]]) 27 (.ptr h.length 0 0) (.agg (DY pS))=some (h ++ [ABlk.live 5 [DY pS]]):=by
  rw [AZI (DF h (ABlk.live 5 [z5])) rfl (GZ _) (by kernel_rfl),MB]
 simp -implicitDefEqProofs only [ER,EP,BB,A8,A7,AZ,BA,AO,AQ,AL,BD,AY,AC,DU,AA,AX,AU,BN,BH,IB,BC,EZ,FI,GR,CU,BV,BP,CB,AB,BZ,jF,jD,jE,↓reduceIte,jA,jB,jC,enP,jK,A1N,s0,KR,AWL]
 have g1:=DF h (ABlk.live 5 [DY pS])
 have hx:ext h (h ++ [ABlk.live 5 [DY pS]]):=(ext.rfl' h).app _
 generalize h ++ [ABlk.live 5 [DY pS]]=H at g1 hx ⊢
 generalize h.length=b1 at g1 ⊢
 have lp:DR Tryz.prog H 27 (.ptr b1 0 0)=some (.agg (DY pS)):=by rw [H7 VH UG g1 (row:=DY pS) rfl (by rw [GZ]; exact jQ 5)]; rfl
 have bsE:GN Tryz.prog false H 23 2 [(0,.agg (CW (vE nA))),(1,.agg (CW (vE nB)))]=some (.sl .full 4 [CW (vE nA),CW (vE nB)],H):=AVH H _ _ (ES _) (ES _) (LY _) (LY _) (frE _) (frE _)
 refine (ABD G nA H).use ?_
 simp -implicitDefEqProofs only [AZ,AO,AQ,AL,BD,AY,AC,AU,BN,IB,BV,BP,jF,jD,jE,jB,jC]
 refine (ABD G nB H).use ?_
 simp -implicitDefEqProofs only [ER,EP,BB,A7,AZ,BA,AO,AQ,AL,BD,AY,AC,AA,AX,BC,GR,CB,↓reduceIte,jA,jB,jC,enP,bsE]
 refine EK (by kernel_rfl) ?_
 simp -implicitDefEqProofs only [ET,DK,CY,DL,EH,EC,TJ,EI,EE,AO,AA,AX,BN,BO,G8,AB,jF,jD,jE,↓reduceIte,jA,jL,jB,enP,lp]
 have hst:=AJP G hG pS AB3 H
 rw [AZA] at hst
 refine ⟨_,hst,?_⟩
 try simp -implicitDefEqProofs only [jF,jD]
 have hnar:=AAX G hG pS AB3 [⟨0,7⟩,⟨0,7⟩] (nm [(⟨0,7⟩:Rng),⟨0,7⟩]) (by decide) H
 rw [AXQ] at hnar
 refine ⟨_,hnar,?_⟩
 simp -implicitDefEqProofs only [ET,zB,zD,ER,EP,DK,CY,D7,DL,G5,TJ,BB,A8,A7,AZ,AO,AQ,AL,BD,AY,AC,AA,AX,AU,BN,BH,BJ,FI,BO,G8,JJ,BV,BP,AB,jF,jD,jE,↓reduceIte,jA,jL,jB,jC,enP,ASH,lp]
 have e1:=Q4 G hG (.mk 7 0 ⟨#[]⟩ .full [vE nA,vE nB]) (APB 7) pS AB3 [⟨2,5⟩,⟨10,20⟩] .full (by decide) H
 rw [AX8] at e1
 refine e1.use ?_
 have q1:((⟨12,25⟩:Rng) == ⟨12,25⟩)=true:=by decide
 simp -implicitDefEqProofs only [ER,EP,AZ,BL,BX,CO,GL,AO,AQ,AL,BD,AY,AC,AA,AX,AU,BN,BH,BJ,FI,BO,BU,BV,BP,AB,jF,jD,jE,↓reduceIte,jA,jB,jC,enP,KR,AMQ,q1,ASH,lp]
 have e2:=Q4 G hG (.mk 8 0 ⟨#[]⟩ .full [vE nA,vE nB]) (APB 8) pS AB3 [⟨2,5⟩,⟨10,20⟩] .full (by decide) H
 rw [AX7] at e2
 refine e2.use ?_
 have q2:((⟨65518,65531⟩:Rng) == ⟨65518,65531⟩)=true:=by decide
 simp -implicitDefEqProofs only [ER,EP,AZ,BL,BX,CO,GL,AO,AQ,AL,BD,AY,AC,AA,AX,AU,BN,BH,BM,BJ,CP,DW,FI,BO,BU,BV,BP,AB,jF,jD,jE,↓reduceIte,jA,jB,jC,enP,KR,AMQ,q2,ASH,lp]
 have e3:=AAZ G hG (.mk 17 0 ⟨#[]⟩ .full [vE nA,vE nB]) (APB 17) pS AB3 [⟨2,5⟩,⟨10,20⟩] .full (by decide) H
 rw [A0N] at e3
 refine e3.use ?_
 simp -implicitDefEqProofs only [ER,EP,AZ,BL,BX,CO,GL,AO,AQ,AL,BD,AY,AC,AA,AX,AU,BN,BH,BM,BJ,CP,DW,FI,GR,BV,BP,CB,AB,jF,jD,jE,↓reduceIte,jA,jB,jC,enP,KR,AIZ,AWL]
 have e4:=AHD G [⟨0,2⟩,⟨1,3⟩] [⟨0,2⟩,⟨1,3⟩] (AJ1 pS [⟨0,7⟩,⟨0,7⟩]) .full (by decide) H
 have q4:(([⟨0,2⟩,⟨1,3⟩]:List Rng) == [⟨0,2⟩,⟨1,3⟩])=true:=by decide
 rw [q4] at e4
 refine e4.use ?_
 simp -implicitDefEqProofs only [BK,A7,CV,AZ,BA,BL,BX,CO,GL,AO,AQ,AL,BD,AY,AC,AA,AX,AU,BH,BM,BJ,BC,CP,DW,BU,AB,CX,↓reduceIte,jA,jB,jC,enP]
 exact ⟨by trivial,hx⟩
end
theorem AT4 {r:Rng} {lo hi:Int} (h1:lo≤r.lo) (h2:r.hi≤hi):nxR r lo hi=r:=by
 unfold nxR
 cases r with | mk a b =>
 simp only at h1 h2 ⊢
 congr 1 <;> omega
theorem AQO {s:NS} {i:Nat} {lo hi:Int} (hi':i < s.1.length) (hw:wfR s.1[i]) (h1:lo≤s.1[i].lo) (h2:s.1[i].hi≤hi):NI s i lo hi=some s:=by
 have hgd:s.1.getD i GV=s.1[i]:=by rw [List.getD_eq_getElem?_getD,List.getElem?_eq_getElem hi']; rfl
 unfold NI
 rw [hgd,AT4 h1 h2,if_neg (by have:=hw.2.1; omega),set_self hi']
 simp
theorem AUH {s s':NS} {i:Nat} {lo hi:Int} (hi':i < s.1.length) (h:NI s i lo hi=some s') : ∃ h':i < s'.1.length,lo≤s'.1[i].lo∧s'.1[i].hi≤hi:=by
 unfold NI at h
 split at h
 ·cases h
 ·cases h
  refine ⟨by simpa using hi',?_⟩
  simp only [List.getElem_set_self]
  unfold nxR
  exact ⟨by show lo≤max _ lo; omega,by show min _ hi≤hi; omega⟩
def Sat (vars:List Vr) (l:List Rng) (d:Ds):Prop := ∃ i,i < vars.length∧d.var=(i:Nat)∧∃ h:i < l.length,(RD d.ws).1≤l[i].lo∧l[i].hi≤(RD d.ws).2
theorem Sat.ste {vars:List Vr} {s s':NS} {d:Ds} (h:Sat vars s.1 d) (st:Ste s s'):Sat vars s'.1 d:=by
 obtain ⟨i,h1,h2,h3,h4,h5⟩:=h
 have h3':i < s'.1.length:=by rw [st.len]; exact h3
 have:=st.sub i h3 h3'
 exact ⟨i,h1,h2,h3',by omega,by omega⟩
theorem ATA {vars:List Vr} {s s':NS} {d:Ds} (hl:s.1.length=vars.length) (hv:NC vars d.var=true) (h:VB s d=some s'):Sat vars s'.1 d:=by
 obtain ⟨i,hi,he,_⟩:=O4 hv
 unfold VB at h
 rw [he,zG] at h
 obtain ⟨h1,h2⟩:=AUH (by rw [hl]; exact hi) h
 exact ⟨i,hi,he,h1,h2⟩
theorem AMT {vars:List Vr} : ∀ (ds:List Ds),(∀ d∈ds,NC vars d.var=true)→∀ (s s':NS),s.1.length=vars.length→UT ds s=some s'→∀ d∈ds,Sat vars s'.1 d
 | [],_,_,_,_,_,d,hd=>by cases hd
 | x :: ds,hv,s,s',hl,h,d,hd=>by
   have h:(VB s x).bind (UT ds)=some s':=h
   cases hx:VB s x with
   | none=>rw [hx] at h; cases h
   | some t =>
     rw [hx] at h
     have h2:UT ds t=some s':=h
     obtain ⟨i,hi,he,_⟩:=O4 (hv x (by simp))
     have st:Ste s t:=NH (by rw [he,hl]; simpa using hi) hx
     have htl:t.1.length=vars.length:=by rw [st.len]; exact hl
     rcases qI.1 hd with rfl | hd
     ·exact (ATA hl (hv d (by simp)) hx).ste (ACY ds (fun y hy=>hv y (by simp [hy])) t s' htl h2)
     ·exact AMT ds (fun y hy=>hv y (by simp [hy])) t s' htl h2 d hd
theorem AIN {vars:List Vr} {l:List Rng} (hw : ∀ r∈l,wfR r) : ∀ (ds:List Ds),(∀ d∈ds,Sat vars l d)→UT ds (l,false)=some (l,false)
 | [],_=>rfl
 | d :: ds,h=>by
   obtain ⟨i,h1,h2,h3,h4,h5⟩:=h d (by simp)
   have e:VB (l,false) d=some (l,false):=by
    unfold VB
    rw [h2,zG]
    exact AQO h3 (hw _ (jT h3)) h4 h5
   show (VB (l,false) d).bind (UT ds)=_
   rw [e]
   exact AIN hw ds fun x hx=>h x (by simp [hx])
theorem AHY {vars:List Vr} {hard:List Ex} : ∀ (n:Nat) (t s:NS),t.1.length=vars.length→t.2=true→OL vars hard n t=some s→s.2=false∧Ste (t.1,true) (s.1,true)∧QT vars hard s=some s
 | 0,t,s,_,ht,h=>by
   have e:OL vars hard 0 t=if t.2=true then none else some t:=rfl
   rw [e,if_pos ht] at h; cases h
 | n+1,t,s,hl,ht,h=>by
   have e:OL vars hard (n+1) t=if t.2=true then (QT vars hard t).bind (OL vars hard n) else some t:=rfl
   rw [e,if_pos ht] at h
   cases hr:QT vars hard t with
   | none=>rw [hr] at h; cases h
   | some u =>
     rw [hr] at h
     have h:OL vars hard n u=some s:=h
     have st:=ATT hl hr
     have hul:u.1.length=vars.length:=by rw [st.len]; exact hl
     have st1:Ste (t.1,true) (u.1,true):=⟨st.len,st.sub,st.wf,st.wd,fun _ _ => .inl rfl,fun h=>(by cases h),fun h=>h⟩
     cases hu:u.2 with
     | true =>
       obtain ⟨a,b,c⟩:=AHY n u s hul hu h
       exact ⟨a,st1.trans b,c⟩
     | false =>
       have hs:s=u:=by
        cases n with
        | zero =>
          have e:OL vars hard 0 u=if u.2=true then none else some u:=rfl
          rw [e,hu] at h
          exact (Option.some.inj h).symm
        | succ n =>
          have e:OL vars hard (n+1) u=if u.2=true then (QT vars hard u).bind (OL vars hard n) else some u:=rfl
          rw [e,hu] at h
          exact (Option.some.inj h).symm
       subst hs
       obtain ⟨_,q⟩:=st.un hu
       have q:s.1=t.1:=q
       refine ⟨hu,st1,?_⟩
       have:QT vars hard s=QT vars hard t:=by unfold QT; rw [q]
       rw [this,hr]
theorem APW {p:Pr} (hg:GoodP p) {l:List Rng} (hl:l.length=p.vars.length) (hw : ∀ r∈l,wfR r) {s:NS} (h:MZ p l=some s):Ste (l,true) (s.1,true)∧MZ p s.1=some s:=by
 unfold MZ at h
 cases hd:UT p.dists (l,false) with
 | none=>rw [hd] at h; cases h
 | some t =>
   rw [hd] at h
   have h:OL p.vars p.hard (wid t.1+1) (t.1,true)=some s:=h
   have st:=ACY p.dists hg.var _ _ hl hd
   have htl:t.1.length=p.vars.length:=by rw [st.len]; exact hl
   obtain ⟨a,b,c⟩:=AHY _ (t.1,true) _ htl rfl h
   have st1:Ste (l,true) (t.1,true):=⟨st.len,st.sub,st.wf,st.wd,fun _ _ => .inl rfl,fun h=>(by cases h),fun h=>h⟩
   have st2:=st1.trans b
   refine ⟨st2,?_⟩
   have hws : ∀ r∈s.1,wfR r:=st2.wf hw
   have hsat : ∀ d∈p.dists,Sat p.vars s.1 d:=fun d hdm=>(AMT p.dists hg.var _ _ hl hd d hdm).ste (s:=(t.1,true)) (s':=(s.1,true)) b
   unfold MZ
   rw [AIN hws p.dists hsat]
   show OL p.vars p.hard (wid s.1+1) (s.1,true)=some s
   have e:OL p.vars p.hard (wid s.1+1) (s.1,true)=(QT p.vars p.hard (s.1,true)).bind (OL p.vars p.hard (wid s.1)):=rfl
   have e2:QT p.vars p.hard (s.1,true)=QT p.vars p.hard s:=rfl
   rw [e,e2,c]
   show OL p.vars p.hard (wid s.1) s=some s
   cases wid s.1 with
   | zero =>
     have e:OL p.vars p.hard 0 s=if s.2=true then none else some s:=rfl
     rw [e,a]; rfl
   | succ n =>
     have e:OL p.vars p.hard (n+1) s=if s.2=true then (QT p.vars p.hard s).bind (OL p.vars p.hard n) else some s:=rfl
     rw [e,a]; rfl
theorem AXR {p:Pr} (hs:PrS p) {l:List Rng} (h:(TQ p l).2=0):KP p=0∧MH p.vars l=true∧∃ s,MZ p l=some s∧(TQ p l).1=s.1∧Ste (l,true) (s.1,true)∧(∀ r∈s.1,wfR r)∧s.1.length=l.length∧TQ p s.1=(s.1,0):=by
 unfold TQ at h ⊢
 by_cases hc:KP p≠0∨MH p.vars l=false
 ·rw [if_pos hc] at h; cases h
 rw [if_neg hc] at h ⊢
 have hv:KP p=0:=by
  rcases Classical.em (KP p=0) with q | q
  ·exact q
  ·exact absurd (.inl q) hc
 have hf:MH p.vars l=true:=by
  cases q:MH p.vars l
  ·exact absurd (.inr q) hc
  ·rfl
 obtain ⟨hw,hl⟩:=JD.1 hf
 cases hr:MZ p l with
 | none=>rw [hr] at h; cases h
 | some s =>
   obtain ⟨st,hr2⟩:=APW (AQ8 hs hv) hl hw hr
   have hws : ∀ r∈s.1,wfR r:=st.wf hw
   have hls:s.1.length=l.length:=st.len
   have hf2:MH p.vars s.1=true:=JD.2 ⟨hws,by rw [hls]; exact hl⟩
   refine ⟨hv,hf,s,rfl,rfl,st,hws,hls,?_⟩
   rw [if_neg (by rw [hv,hf2]; simp),hr2]
theorem AUD {p:Pr} {l:List Rng} (h:(TQ p l).2≠0):(TQ p l).1 = []:=by
 unfold TQ at h ⊢
 by_cases hc:KP p≠0∨MH p.vars l=false
 ·rw [if_pos hc]
 rw [if_neg hc] at h ⊢
 cases hr:MZ p l with
 | none=>rfl
 | some s=>rw [hr] at h; exact absurd rfl h
section
variable (G:Nat→AV)
set_option maxHeartbeats 1000000 in
theorem ACK (p:Pr) (_hs:PrS p) (l:List Rng) (m:SM) (hl:l.length≤1048576) (h:Hp):PCall (En G) 17 [.agg (DY p),.sl m 2 (l.map encR)] h (.bool (MH p.vars l)):=by
 refine ACalls.pure0 rfl ?_
 refine acN Tryz.func17 rfl ?_
 show awp _ _ _ _ _ (EN _ [.tmp 4] _)
 have ge:=DF h (ABlk.live 5 [DY p])
 have hx:ext h (h ++ [ABlk.live 5 [DY p]]):=(ext.rfl' h).app _
 simp -implicitDefEqProofs only [BB,A8,A7,AZ,BA,AO,AQ,AL,BD,AY,AC,AA,AX,AU,BM,BJ,BC,FQ,BO,BG,FP,CB,AB,BF,BQ,↓reduceIte,jA,jH,jB,jC,enP,LU,ZL,QP]
 generalize h ++ [ABlk.live 5 [DY p]]=H at ge hx ⊢
 generalize h.length=eb at ge ⊢
 have l0:DR Tryz.prog H 22 (.ptr eb 0 0)=some (.sl p.vm 4 (p.vars.map GH)):=by rw [DJ VI ge (row:=DY p) rfl]; rfl
 simp -implicitDefEqProofs only [BI,A7,AZ,BA,AO,AQ,AL,BD,AY,AC,AA,AX,BU,FP,AB,FT,↓reduceIte,jA,jB,jC,enP,RH,l0,jR]
 refine CQ (fun hc => ?_) (fun hc => ?_)
 ·have hc:l.length≠p.vars.length:=by
   intro e; rw [e] at hc; simp at hc
  simp -implicitDefEqProofs only [BB,A8,BK,A7,CJ,CV,AZ,BA,AO,AQ,AL,BD,AY,AC,AA,AU,BM,BC,↓reduceIte,jB,jC]
  refine ⟨?_,hx⟩
  have:MH p.vars l=false:=by
   rw [← qM,JD]; exact fun q=>hc q.2
  rw [this]
 have hlen:l.length=p.vars.length:=by
  have:((l.length:Nat):Int)=((p.vars.length:Nat):Int):=by simpa using hc
  omega
 simp -implicitDefEqProofs only [BB,CE,A8,BR,A7,AZ,BA,AO,AQ,AL,BD,AY,AC,AU,BH,BC,jB,jC]
 refine IY 0 (fun F H'=>H'=H∧∀ r∈l,wfR r) (fun F H'=>F 4 = .bool (MH p.vars l)∧H'=H) ?_ ?_ ?_
 ·refine EG (fun n F H' => ∃ i,n+i=l.length∧F 1 = .sl m 2 (l.map encR)∧F 5 = .int .i64 (i:Nat)∧H'=H∧∀ r∈l.take i,wfR r) l.length ⟨0,by simp,by simp -implicitDefEqProofs only [AA,BF,BQ,↓reduceIte,jA],by simp -implicitDefEqProofs only [AA,↓reduceIte]; rfl,rfl,by simp⟩ ?_
  rintro n F H' ⟨i,hi,f1,f5,rfl,hw⟩
  simp -implicitDefEqProofs only [BB,A8,BI,A7,AZ,BA,AO,AQ,AL,BD,AY,AC,AA,AX,BJ,BU,FP,AB,DV,↓reduceIte,jA,jB,jC,enP,ZL,f1,f5,jR]
  refine CQ (fun hd => ?_) (fun hd => ?_)
  ·have hi':i < l.length:=by simpa using hd
   have d0:DR Tryz.prog H' 3 (.fptr 2 (l.map encR) i 0)=some (.int .i64 l[i].lo):=by rw [IC ag3 hi']; rfl
   have d1:DR Tryz.prog H' 3 (.fptr 2 (l.map encR) i 1)=some (.int .i64 l[i].hi):=by rw [IC ag3 hi']; rfl
   have bad : ∀ q:(decide (l[i].lo < 0) || (decide (l[i].lo > l[i].hi) || decide (l[i].hi > 65535)))=true,MH p.vars l=false:=fun q=>by
    rw [← qM]
    exact fun h=>nwf q ((JD.1 h).1 _ (jT hi'))
   simp -implicitDefEqProofs only [BB,CE,BR,A7]
   refine EK (by kernel_rfl) ?_
   simp -implicitDefEqProofs only [ET,DK,CY,DL,EJ,E8,EH,EC,HY,C9,D9,CO,AO,AA,AX,AU,BH,BO,BU,BG,CG,AB,DV,↓reduceIte,jA,jL,jH,jB,enP,JO,FB,f1,f5,EX hi',d0]
   refine OZ (fun h1 => ?_) (fun h1 => ?_)
   ·simp -implicitDefEqProofs only [ET,DK,CY,D7,DL,EJ,E8,QE,EH,GK,BB,A8,BK,BI,A7,CJ,D8,L6,F9,DI,AZ,BA,CO,AO,AQ,AL,BD,AY,AC,AA,EQ,AX,AU,BM,BC,CP,DW,↓reduceIte,jA,jL,jB,jC,h1]
    exact ⟨by rw [bad (by rw [h1]; rfl)],trivial⟩
   simp -implicitDefEqProofs only [ET,DK,CY,DL,EJ,E8,O0,EH,GK,EC,HY,C9,D9,CO,AO,AA,AX,AU,BM,CP,DZ,BO,BU,BG,CG,AB,FM,↓reduceIte,jA,jL,jH,jG,jB,enP,JO,FB,FN,h1,f1,f5,EX hi',d0,d1]
   refine OZ (fun h2 => ?_) (fun h2 => ?_)
   ·simp -implicitDefEqProofs only [ET,DK,CY,D7,DL,EJ,E8,QE,GK,BB,A8,BK,BI,A7,CJ,D8,L6,F9,DI,AZ,BA,CO,AO,AQ,AL,BD,AY,AC,AA,EQ,AX,AU,BM,BC,CP,DW,↓reduceIte,jA,jL,jB,jC,h1,h2]
    exact ⟨by rw [bad (by rw [h2]; simp)],trivial⟩
   simp -implicitDefEqProofs only [ET,DK,CY,D7,DL,EJ,E8,O0,EH,GK,EC,HY,C9,D9,BI,A7,CO,AO,AA,AX,AU,BH,BM,CP,DZ,BO,BU,BG,CG,AB,FM,↓reduceIte,jA,jL,jG,jB,enP,JO,FN,h1,h2,f1,f5,EX hi',d0,d1]
   refine CQ (fun h3 => ?_) (fun h3 => ?_)
   ·simp -implicitDefEqProofs only [BB,A8,BK,A7,CJ,D8,L6,F9,AZ,BA,AO,AQ,AL,BD,AY,AC,AA,AU,BM,BC,↓reduceIte,jB,jC]
    exact ⟨by rw [bad (by rw [h3]; simp)],trivial⟩
   ·simp -implicitDefEqProofs only [A8,BR,A7,EO,FO,AZ,BA,AO,AQ,AL,BD,AY,AC,AA,AX,AU,BH,BJ,BC,BU,AB,D6,↓reduceIte,jA,jB,jC,enP,f5,wrap_succ (show i < 9223372036854775807 by omega)]
    refine ⟨n - 1,by omega,i+1,by omega,by trivial,by trivial,trivial,fun r hr => ?_⟩
    rw [zY hi'] at hr
    rcases zX.1 hr with hr | hr
    ·exact hw r hr
    ·rw [List.mem_singleton] at hr
     subst hr
     simp at h1 h2 h3
     exact ⟨by omega,by omega,by omega⟩
  ·have hi' : ¬ i < l.length:=by simpa using hd
   rw [jY (by omega)] at hw
   simp -implicitDefEqProofs only [EF,FC,MG,F8,↓reduceIte]
   exact ⟨trivial,hw⟩
 ·rintro F H' ⟨rfl,hw⟩
  simp -implicitDefEqProofs only [BB,A8,BK,A7,F6,CV,AZ,BA,AO,AQ,AL,BD,AY,AC,AA,AU,BM,BC,↓reduceIte,jB,jC]
  exact ⟨by rw [JD.2 ⟨hw,hlen⟩],hx⟩
 ·rintro F H' ⟨f4,rfl⟩
  simp -implicitDefEqProofs only [CJ,D8,CV,f4]
  exact ⟨trivial,hx⟩
end
end Go.Proofs.YtokehnfjjmpanaaGreatDoor.Bd
