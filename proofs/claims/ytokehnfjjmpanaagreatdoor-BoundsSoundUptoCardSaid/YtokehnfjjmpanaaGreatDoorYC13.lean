/- Part 13 of the proof (Wg, Wh, Wi, Wj, Wk, Wm); no condition. -/
import Derived.Test.YtokehnfjjmpanaaGreatDoorYC12
set_option linter.unusedVariables false
set_option linter.unusedSimpArgs false
set_option maxRecDepth 8000
namespace Go.Proofs.YtokehnfjjmpanaaGreatDoor.Bd
open Sm Bins Cov Xe Wd Go.RowKit
open Bool renaming not_false→jC,not_true→jW,or_false→jO,not_eq_true→qP
open List renaming mem_append→zZ,getElem?_set_ne→zS,length_set→qM,length_map→jM,getElem_mem→jQ,drop_eq_getElem_cons→qC,map_cons→jF,map_nil→jD,append_nil→jE,drop_eq_nil_of_le→qF,any_eq_true→qZ,take_succ_eq_append_getElem→zT,take_of_length_le→jX,getElem?_cons_zero→jZ,getElem?_cons_succ→zC,nil_append→zK,contains_cons→jP,contains_nil→jR,take_zero→zM,mem_cons→qI
open Nat renaming le_of_ble_eq_true→jH,le_refl→jL,zero_add→jG,reduceEqDiff→jB,reduceAdd→jK,add_zero→jI,lt_or_ge→jT,reduceBEq→jS
open Option renaming getD_some→jA,getD_none→jJ
structure GoodP (p:Pr):Prop where
 hard : ∀ e∈p.hard,EOk e
 var : ∀ d∈p.dists,NI p.vars d.var=true
 ws : ∀ d∈p.dists,∀ w∈d.ws,VT w=false
theorem AU2 {p:Pr} (hs:PrS p) (h:NM p=0):GoodP p:=by
 obtain ⟨_,h2,h3,_⟩:=ADK h
 have hd : ∀ d∈p.dists,∃ ds,dsE p.vars ds d=0:=by
  intro d hd
  obtain ⟨j,hj,rfl⟩:=List.getElem_of_mem hd
  have:=PZ h3 j (by simpa using hj)
  rw [ACD hj] at this
  exact ⟨_,this⟩
 refine ⟨fun e he => ?_,fun d hx => ?_,fun d hx w hw => ?_⟩
 ·have hm:e∈p.hard ++ p.soft:=zZ.2 (.inl he)
  have:=PZ h2 e hm
  unfold xpE at this
  by_cases q:exE e≠0
  ·rw [if_pos q] at this; exact absurd this q
  ·exact ⟨hs.wts e hm,RY (by simpa using q)⟩
 ·obtain ⟨ds,h⟩:=hd d hx
  unfold dsE at h
  cases hr:NI p.vars d.var
  ·rw [hr] at h; simp at h
  ·rfl
 ·obtain ⟨ds,h⟩:=hd d hx
  unfold dsE at h
  by_cases h1:NI p.vars d.var=true
  ·rw [if_pos h1] at h
   by_cases h2:ds.any (fun x=>x.var == d.var)=true
   ·rw [if_pos h2] at h; cases h
   ·rw [if_neg h2] at h
    by_cases h3:d.ws.length > 16
    ·rw [if_pos h3] at h; cases h
    ·rw [if_neg h3] at h
     by_cases h4:d.ws.any VT=true
     ·rw [if_pos h4] at h; cases h
     ·have:=List.any_eq_false.1 (by simpa using h4) w hw
      simpa using this
  ·rw [if_neg h1] at h; cases h
theorem Nw.flag {h:Hp} {nb lb:Nat} {vars:List Vr} {s:NS} (n:Nw h nb lb vars s) (c:Bool) : ∃ h',F7 Tryz.prog h 4 (.ptr nb 0 2) (.bool c)=some h'∧Nw h' nb lb vars (s.1,c)∧Kp nb lb h h':=by
 obtain ⟨mb,L,ents,h1,h2,h3,h4,h5,h6⟩:=n.ex
 have hst:F7 Tryz.prog h 4 (.ptr nb 0 2) (.bool c)=some (h.set nb (.live 3 [[.mp mb,L,.bool c]])):=by
  rw [JG (cs := [.bool c]) rfl sz4 h1 rfl (by simp)]; rfl
 refine ⟨_,hst,⟨⟨mb,L,ents,G7 h1,by rw [zS (Ne.symm h5)]; exact h2,h3,?_,h5,h6⟩,n.ne,by rw [qM]; exact n.lbl,n.len,n.wf⟩,(Kp.rfl' nb lb h).setN _⟩
 rcases h4 with h4 | ⟨e,hb,hn⟩
 ·exact .inl h4
 ·exact .inr ⟨e,by rw [zS n.ne]; exact hb,hn⟩
theorem Nw.ldF {h:Hp} {nb lb:Nat} {vars:List Vr} {s:NS} (n:Nw h nb lb vars s):DL Tryz.prog h 4 (.ptr nb 0 2)=some (.bool s.2):=by
 obtain ⟨mb,L,ents,h1,_⟩:=n.ex
 rw [DC ag4 h1 rfl]; rfl
theorem Nw.of {h:Hp} {nb lb:Nat} {vars:List Vr} {s:NS} {c:Bool} (n:Nw h nb lb vars s) (e:s.2=c):Nw h nb lb vars (s.1,c):=by subst e; exact n
section
variable (G:Nat→AV)
set_option maxHeartbeats 4000000 in
theorem AOX (nb lb:Nat) (base:Hp) (Bad:Prop) (p:Pr) (hs:PrS p) (hg:GoodP p) (l:List Rng) (h:Hp) (hk:Kp nb lb base h) (n:Nw h nb lb p.vars (l,false)) (hbad:VM p l=none→Bad) :
  ACalls ((En G).wx (X0 nb lb base Bad)) 38 [.ptr nb 0 0,.agg (D8 p)] h (NP nb lb p.vars h (VM p l)):=by
 generalize hT:VM p l=TOT at hbad ⊢
 have hlen:=n.len
 have hwf0:=n.wf
 refine JB (H:=Hint.none) (enM G) Tryz.func38 rfl (by kernel_rfl) (by kernel_rfl) (jH (by kernel_rfl)) ?_
 show awp _ _ _ _ _ (EE _ [] _)
 have g3:=C9 h (ABlk.live 5 [D8 p])
 have n1:=n.ext ((ext.rfl' h).app [ABlk.live 5 [D8 p]])
 have k1:=(Kp.rfl' nb lb h).app (ABlk.live 5 [D8 p])
 have o3:=n.lt (jL h.length)
 simp -implicitDefEqProofs only [BC,A8,A7,AZ,BA,AC,AQ,AO,BD,AX,AL,AA,AY,FN,BP,BI,wxP,BZ,AB,BF,BQ,↓reduceIte,jG,jA,jC,enP,AB5,VS]
 generalize h ++ [ABlk.live 5 [D8 p]]=H0 at g3 n1 k1 ⊢
 generalize h.length=b3 at g3 o3 ⊢
 have ld24:DL Tryz.prog H0 24 (.ptr b3 0 3)=some (.sl p.dm 2 (p.dists.map IU)):=by rw [DC ARQ g3 (row:=D8 p) rfl]; rfl
 have hkH:=hk.trans k1
 simp -implicitDefEqProofs only [CB,A7,AZ,BA,AC,AQ,AO,BD,AX,AL,AA,AY,AU,BG,BH,E5,wxP,AB,↓reduceIte,jA,jC,enP,APM,ld24,jM]
 -- the distributions
 refine IY 0 (fun F H => ∃ s,XP p.vars p.hard (wid s.1+1) (s.1,true)=TOT∧s.1.length=p.vars.length∧Nw H nb lb p.vars s∧Kp nb lb H0 H∧F 0 = .ptr nb 0 0∧F 3 = .ptr b3 0 0) (fun _ _=>False) ?_ ?_ (fun _ _ q=>q.elim)
 ·refine D7 (fun m F H => ∃ i s,m+i=p.dists.length∧(AJ2 (p.dists.drop i) s).bind (fun s=>XP p.vars p.hard (wid s.1+1) (s.1,true))=TOT∧s.1.length=p.vars.length∧Nw H nb lb p.vars s∧Kp nb lb H0 H∧F 0 = .ptr nb 0 0∧F 3 = .ptr b3 0 0∧F 11 = .sl p.dm 2 (p.dists.map IU)∧F 12 = .int .i64 (p.dists.length:Nat)∧F 13 = .int .i64 (i:Nat)) p.dists.length
   ⟨0,(l,false),by simp,by rw [List.drop_zero,← hT]; rfl,hlen,n1,Kp.rfl' _ _ _,by simp -implicitDefEqProofs only [AA,BF,↓reduceIte,jB],by simp -implicitDefEqProofs only [AA,↓reduceIte,jB],by simp -implicitDefEqProofs only [AA,↓reduceIte,jB],by simp -implicitDefEqProofs only [AA,↓reduceIte,jB],by simp -implicitDefEqProofs only [AA,↓reduceIte]; rfl⟩ ?_
  rintro m F H ⟨i,s,hi,hS,hsl,nH,kH,f0,f3,f11,f12,f13⟩
  simp -implicitDefEqProofs only [BC,A8,BJ,A7,AZ,BA,AC,AQ,AO,BD,AX,AL,AA,AY,BU,wxP,AB,DF,↓reduceIte,jA,jC,enP,f12,f13]
  refine CV (fun hc => ?_) (fun hc => ?_)
  ·have hi':i < p.dists.length:=by simpa using hc
   have hmem:=jQ hi'
   rw [qC hi'] at hS
   have hS:((AEQ s p.dists[i]).bind (AJ2 (p.dists.drop (i+1)))).bind _=TOT:=hS
   have kA:=kH.app (ABlk.live 2 [IU p.dists[i]])
   have nA:=nH.ext ((ext.rfl' H).app [ABlk.live 2 [IU p.dists[i]]])
   have gA:=C9 H (ABlk.live 2 [IU p.dists[i]])
   have lA:DL Tryz.prog (H ++ [ABlk.live 2 [IU p.dists[i]]]) 52 (.ptr H.length 0 0)=some (.agg (IU p.dists[i])):=by rw [HY ARO AGO gA (row:=IU p.dists[i]) rfl (jL 2)]; rfl
   simp -implicitDefEqProofs only [BC,CB,A8,BR,A7,AZ,BA,AC,AQ,AO,BD,AX,AL,DZ,AA,AY,BO,BH,EZ,BP,CZ,CQ,BV,BN,wxP,BZ,AB,CE,jF,jD,jE,↓reduceIte,jB,jA,jC,enP,ABW,jJ,f11,f13,EF hi',EO ARO AGO UR hi',AXI,AVS,f0,lA]
   have hb:AEQ s p.dists[i]=none→Bad:=fun q=>hbad (by rw [q] at hS; exact hS.symm)
   refine ACalls.mono (AN8 G nb lb base Bad p.vars s p.dists[i] (hg.var _ hmem) (hg.ws _ hmem) (hs.ws _ hmem) _ (hkH.trans kA) nA hb) ?_
   rintro v H' ⟨s',e',n',k'⟩
   rw [e'] at hS
   have hS:(AJ2 (p.dists.drop (i+1)) s').bind _=TOT:=hS
   simp -implicitDefEqProofs only [A8,A7,EK,FI,AZ,BA,AC,AQ,AO,BD,AX,AL,AA,AY,AU,BG,BH,BU,wxP,AB,DY,↓reduceIte,jB,jA,jC,enP,f13,wrap_succ (show i < 9223372036854775807 by have:=hs.dists; omega)]
   exact ⟨m - 1,by omega,i+1,s',by omega,hS,n'.len,n',kA.trans k',by trivial,by trivial,by trivial,by trivial,by trivial⟩
  ·have hi' : ¬ i < p.dists.length:=by simpa using hc
   rw [qF (by omega)] at hS
   have hS:XP p.vars p.hard (wid s.1+1) (s.1,true)=TOT:=hS
   simp -implicitDefEqProofs only [D6,EU,MX,FX,AA,↓reduceIte,jB]
   exact ⟨s,hS,hsl,nH,kH,f0,f3⟩
 rintro F H ⟨s,hS,hsl,nH,kH,f0,f3⟩
 obtain ⟨H1,hst,nF,kF⟩:=nH.flag true
 simp -implicitDefEqProofs only [BC,CB,A8,A7,FT,AZ,BA,AC,AQ,AO,BD,AX,AL,DZ,AA,AY,AU,BM,BH,CZ,BI,wxP,AB,CE,↓reduceIte,jG,jA,jC,enP,AFG,jJ,ER,FK,f0,hst]
 -- the rounds
 refine IY 2 (fun F H => ∃ s,TOT=some s∧Nw H nb lb p.vars s∧Kp nb lb H0 H) (fun _ _=>False) ?_ ?_ (fun _ _ q=>q.elim)
 ·refine D7 (fun m F H => ∃ s,XP p.vars p.hard m s=TOT∧(s.2=true→wid s.1 < m)∧s.1.length=p.vars.length∧Nw H nb lb p.vars s∧Kp nb lb H0 H∧F 0 = .ptr nb 0 0∧F 3 = .ptr b3 0 0) (wid s.1+1)
   ⟨(s.1,true),hS,fun _=>by show wid s.1 < wid s.1+1; omega,hsl,nF,kH.trans kF,by first | exact f0 | (simp -implicitDefEqProofs only [f0]),by first | exact f3 | (simp -implicitDefEqProofs only [f3])⟩ ?_
  clear hS hsl nH kH f0 f3 hst nF kF
  rintro m F H ⟨s,hS,hm,hsl,nH,kH,f0,f3⟩
  simp -implicitDefEqProofs only [BC,A8,BJ,A7,AZ,BA,AC,AQ,AO,BD,AX,AL,AA,AY,BH,BP,BI,wxP,AB,↓reduceIte,jG,jA,jC,enP,AFG,ER,FK,f0,nH.ldF]
  refine CV (fun hc => ?_) (fun hc => ?_)
  ·have hc:s.2=true:=hc
   obtain ⟨m,rfl⟩ : ∃ k,m=k+1:=⟨m - 1,by have:=hm hc; omega⟩
   have hm:=hm hc
   have hS:(AAE p.vars p.hard s).bind (XP p.vars p.hard m)=TOT:=by
    have e:XP p.vars p.hard (m+1) s=if s.2=true then (AAE p.vars p.hard s).bind (XP p.vars p.hard m) else some s:=rfl
    rw [e,if_pos hc] at hS; exact hS
   obtain ⟨H1,hst,nF,kF⟩:=nH.flag false
   have g3A:=(kH.trans kF).1 _ _ g3 o3.1 o3.2
   have l1:DL Tryz.prog H1 23 (.ptr b3 0 1)=some (.sl p.hm 4 (p.hard.map CW)):=by rw [DC QU g3A (row:=D8 p) rfl]; rfl
   simp -implicitDefEqProofs only [BC,CB,A8,BR,A7,AZ,BA,AC,AQ,AO,BD,AX,AL,DZ,AA,AY,AU,BG,BM,BH,BP,CZ,BI,E5,wxP,AB,CE,↓reduceIte,jB,jG,jA,jC,enP,TT,AB6,AFG,jJ,ER,FK,f0,f3,hst,l1,jM]
   have hhl:p.hard.length≤1048576:=by have:=hs.exprs; omega
   refine IY 4 (fun F H => ∃ t,TD p.vars p.hard (s.1,false)=some t∧Nw H nb lb p.vars t∧Kp nb lb H0 H∧F 0 = .ptr nb 0 0∧F 3 = .ptr b3 0 0) (fun _ _=>False) ?_ ?_ (fun _ _ q=>q.elim)
   ·refine D7 (fun q F H => ∃ i t,q+i=p.hard.length∧TD p.vars p.hard (s.1,false)=TD p.vars (p.hard.drop i) t∧Nw H nb lb p.vars t∧Kp nb lb H0 H∧F 0 = .ptr nb 0 0∧F 3 = .ptr b3 0 0∧F 32 = .sl p.hm 4 (p.hard.map CW)∧F 33 = .int .i64 (p.hard.length:Nat)∧F 34 = .int .i64 (i:Nat)) p.hard.length
     ⟨0,(s.1,false),by simp,rfl,nF,kH.trans kF,by simp -implicitDefEqProofs only [AA,↓reduceIte,jB,f0],by simp -implicitDefEqProofs only [AA,↓reduceIte,jB,f3],by simp -implicitDefEqProofs only [AA,↓reduceIte,jB],by simp -implicitDefEqProofs only [AA,↓reduceIte,jB],by simp -implicitDefEqProofs only [AA,↓reduceIte]; rfl⟩ ?_
    clear f0 f3
    rintro q F H ⟨i,t,hq,hN,nt,kt,f0,f3,f32,f33,f34⟩
    simp -implicitDefEqProofs only [BC,A8,BJ,A7,AZ,BA,AC,AQ,AO,BD,AX,AL,AA,AY,BU,wxP,AB,DF,↓reduceIte,jA,jC,enP,f33,f34]
    refine CV (fun hc => ?_) (fun hc => ?_)
    ·have hi':i < p.hard.length:=by simpa using hc
     have hmem:=jQ hi'
     rw [qC hi'] at hN
     have hN:TD p.vars p.hard (s.1,false)=(RS p.vars p.hard[i] t).bind (TD p.vars (p.hard.drop (i+1))):=hN
     have kA:=kt.app (ABlk.live 4 [CW p.hard[i]])
     have nA:=nt.ext ((ext.rfl' H).app [ABlk.live 4 [CW p.hard[i]]])
     simp -implicitDefEqProofs only [BC,CB,A8,BR,A7,AZ,BA,AC,AQ,AO,BD,AX,AL,DZ,AA,AY,BO,BH,EZ,BP,CZ,CQ,BV,BN,wxP,BZ,AB,CE,jF,jD,jE,↓reduceIte,jB,jA,jC,enP,P9,jJ,f32,f34,EF hi',EO MK J4 EN hi',AF1,AGQ _ _ [.int .i64 0,.int .i64 0,.str ⟨#[]⟩,.sl .nil 0 []] rfl,f0,ldE]
     have hb:RS p.vars p.hard[i] t=none→Bad:=fun q=>hbad (by
      rw [q] at hN
      have:AAE p.vars p.hard s=none:=by unfold AAE; rw [hN]; rfl
      rw [this] at hS; exact hS.symm)
     refine ACalls.mono (AG9 G nb lb base Bad p.vars p.hard[i] (hg.hard _ hmem) t _ (hkH.trans kA) nA hb) ?_
     rintro v H' ⟨t',e',n',k'⟩
     rw [e'] at hN
     simp -implicitDefEqProofs only [A8,A7,EK,FI,AZ,BA,AC,AQ,AO,BD,AX,AL,AA,AY,AU,BG,BH,BU,wxP,AB,DY,↓reduceIte,jB,jA,jC,enP,f34,wrap_succ (show i < 9223372036854775807 by omega)]
     exact ⟨q - 1,by omega,i+1,t',by omega,hN,n',kA.trans k',by trivial,by trivial,by trivial,by trivial,by trivial⟩
    ·have hi' : ¬ i < p.hard.length:=by simpa using hc
     rw [qF (by omega)] at hN
     simp -implicitDefEqProofs only [D6,EU,MX,FX,AA,↓reduceIte,jB]
     exact ⟨t,hN,nt,kt,f0,f3⟩
   clear f0 f3 hst nF kF l1 g3A
   rintro F H ⟨t,hN,nt,kt,f0,f3⟩
   have hR:AAE p.vars p.hard s=if AIA p.vars p.hard t.1=true then none else some t:=by unfold AAE; rw [hN]; rfl
   have hste:=ABL p.vars p.hard (s.1,false) t hsl hN
   have g3A:=kt.1 _ _ g3 o3.1 o3.2
   have l1:DL Tryz.prog H 23 (.ptr b3 0 1)=some (.sl p.hm 4 (p.hard.map CW)):=by rw [DC QU g3A (row:=D8 p) rfl]; rfl
   simp -implicitDefEqProofs only [BC,CB,A8,A7,FT,AZ,BA,AC,AQ,AO,BD,AX,AL,AA,AY,AU,BG,BH,BP,BI,E5,wxP,AB,↓reduceIte,jG,jA,jC,enP,TT,AB6,f3,l1,jM]
   refine IY 6 (fun F H=>(∀ e∈p.hard,isF (evS p.vars t.1 e)=false)∧Nw H nb lb p.vars t∧Kp nb lb H0 H∧F 0 = .ptr nb 0 0∧F 3 = .ptr b3 0 0) (fun _ _=>False) ?_ ?_ (fun _ _ q=>q.elim)
   ·refine D7 (fun q F H => ∃ i,q+i=p.hard.length∧(∀ e∈p.hard.take i,isF (evS p.vars t.1 e)=false)∧Nw H nb lb p.vars t∧Kp nb lb H0 H∧F 0 = .ptr nb 0 0∧F 3 = .ptr b3 0 0∧F 43 = .sl p.hm 4 (p.hard.map CW)∧F 44 = .int .i64 (p.hard.length:Nat)∧F 45 = .int .i64 (i:Nat)) p.hard.length
     ⟨0,by simp,by simp,nt,kt,by simp -implicitDefEqProofs only [AA,↓reduceIte,jB,f0],by simp -implicitDefEqProofs only [AA,↓reduceIte,jB,f3],by simp -implicitDefEqProofs only [AA,↓reduceIte,jB],by simp -implicitDefEqProofs only [AA,↓reduceIte,jB],by simp -implicitDefEqProofs only [AA,↓reduceIte]; rfl⟩ ?_
    clear f0 f3
    rintro q F H ⟨i,hq,hF,nt,kt,f0,f3,f43,f44,f45⟩
    simp -implicitDefEqProofs only [BC,A8,BJ,A7,AZ,BA,AC,AQ,AO,BD,AX,AL,AA,AY,BU,wxP,AB,DF,↓reduceIte,jA,jC,enP,f44,f45]
    refine CV (fun hc => ?_) (fun hc => ?_)
    ·have hi':i < p.hard.length:=by simpa using hc
     have hmem:=jQ hi'
     have kA:=kt.app (ABlk.live 4 [CW p.hard[i]])
     have nA:=nt.ext ((ext.rfl' H).app [ABlk.live 4 [CW p.hard[i]]])
     simp -implicitDefEqProofs only [BC,CB,A8,BR,A7,AZ,BA,AC,AQ,AO,BD,AX,AL,DZ,AA,AY,EZ,BP,CZ,CQ,wxP,BZ,AB,CE,↓reduceIte,jB,jA,jC,enP,P9,jJ,f43,f45,EF hi',EO MK J4 EN hi',AF1,AGQ _ _ [.int .i64 0,.int .i64 0,.str ⟨#[]⟩,.sl .nil 0 []] rfl]
     have lE:=ldE H p.hard[i]
     generalize H ++ [ABlk.live 4 [CW p.hard[i]]]=HA at kA nA lE ⊢
     generalize H.length=b9 at lE ⊢
     try simp -implicitDefEqProofs only []
     refine EX (by kernel_rfl) ?_
     simp -implicitDefEqProofs only [FC,DV,CY,EC,DW,EP,ED,DN,EW,EJ,BJ,A7,AC,AA,AY,BO,BP,BI,wxP,AB,jF,jD,jE,↓reduceIte,jB,jK,jI,jA,enP,KY,ER,GK,FK,f0,lE]
     refine ⟨_,pcX (AB8 G p.vars t nb lb p.hard[i] (hg.hard _ hmem) HA nA),?_⟩
     try simp -implicitDefEqProofs only []
     refine ⟨_,pcX (JI G _ HA),?_⟩
     try simp -implicitDefEqProofs only []
     refine CV (fun hd => ?_) (fun hd => ?_)
     ·simp -implicitDefEqProofs only [FB,A8,AZ,AC,AQ,AO,BD,AX,AL,AA,AY,FZ,wxP,wxX,AEP,ABG,AN6,BZ,AB,↓reduceIte,jA,jC,enP,jJ,AXA,AJF (P:=Tryz.prog) (t:=97) AVL]
      refine ⟨rfl,hkH.trans kA,hbad ?_⟩
      have:AIA p.vars p.hard t.1=true:=qZ.2 ⟨_,hmem,hd⟩
      rw [if_pos this] at hR
      rw [hR] at hS; exact hS.symm
     ·simp -implicitDefEqProofs only [A8,BR,A7,EK,FI,AZ,BA,AC,AQ,AO,BD,AX,AL,AA,AY,AU,BG,BH,BU,wxP,AB,DY,↓reduceIte,jB,jA,jC,enP,f45,wrap_succ (show i < 9223372036854775807 by omega)]
      refine ⟨q - 1,by omega,i+1,by omega,fun e he => ?_,nA,kA,by trivial,by trivial,by trivial,by trivial,by trivial⟩
      rw [zT hi'] at he
      rcases zZ.1 he with he | he
      ·exact hF e he
      ·rw [List.mem_singleton] at he; subst he; exact hd
    ·have hi' : ¬ i < p.hard.length:=by simpa using hc
     rw [jX (by omega)] at hF
     simp -implicitDefEqProofs only [D6,EU,MX,FX,AA,↓reduceIte,jB]
     exact ⟨hF,nt,kt,f0,f3⟩
   clear f0 f3 l1 g3A nt kt
   rintro F H ⟨hF,nt,kt,f0,f3⟩
   have hcf : ¬ AIA p.vars p.hard t.1=true:=by
    unfold AIA
    rw [qZ]
    rintro ⟨e,he,hq⟩
    rw [hF e he] at hq; cases hq
   rw [if_neg hcf] at hR
   rw [hR] at hS
   have hS:XP p.vars p.hard m t=TOT:=hS
   simp -implicitDefEqProofs only [EK,FT,FI,↓reduceIte]
   refine ⟨m,by omega,t,hS,fun hc => ?_,nt.len,nt,kt,f0,f3⟩
   rcases hste.chg nH.wf hc with q | q
   ·cases q
   ·have:wid t.1 < wid s.1:=q
    omega
  ·have hc:s.2=false:=hc
   have hT:TOT=some s:=by
    rw [← hS]
    cases m with
    | zero=>show (if s.2=true then none else some s)=_; rw [hc]; rfl
    | succ m=>show (if s.2=true then _ else some s)=_; rw [hc]; rfl
   simp -implicitDefEqProofs only [D6,EU,MX,FX,↓reduceIte]
   exact ⟨s,hT,nH,kH⟩
 ·rintro F H ⟨s,hT,nH,kH⟩
  simp -implicitDefEqProofs only [FT,JK,↓reduceIte]
  exact ⟨s,hT,nH,k1.trans kH⟩
end
theorem Kp.setGe {nb lb:Nat} {a b:Hp} (h1:Kp nb lb a b) {c:Nat} (hc:a.length≤c) (x:ABlk):Kp nb lb a (b.set c x) :=
 ⟨fun k y q n1 n2=>by rw [zS (by have:=CP q; omega)]; exact h1.1 k y q n1 n2,by rw [qM]; exact h1.2⟩
theorem Nw.setCell {H:Hp} {nb lb:Nat} {vars:List Vr} {s:NS} (n:Nw H nb lb vars s) {c:Nat} {v:AV} (hc:H[c]? = some (.live 1 [[v]])) (h1:c≠nb) (h2:c≠lb) (x:ABlk):Nw (H.set c x) nb lb vars s:=by
 obtain ⟨mb,L,ents,e1,e2,e3,e4,e5,e6⟩:=n.ex
 have h3:c≠mb:=fun e=>by rw [e,e2] at hc; cases hc
 refine ⟨⟨mb,L,ents,by rw [zS h1]; exact e1,by rw [zS h3]; exact e2,e3,?_,e5,e6⟩,n.ne,by rw [qM]; exact n.lbl,n.len,n.wf⟩
 rcases e4 with e4 | ⟨e,hb,hn⟩
 ·exact .inl e4
 ·exact .inr ⟨e,by rw [zS h2]; exact hb,hn⟩
theorem AZ6 (h:Hp):JU Tryz.prog h 97=some (.ptr h.length 0 0,h ++ [ABlk.live 0 [[]]]):=J7 (row := []) (by kernel_rfl)
theorem AX0 (h:Hp):F7 Tryz.prog (h ++ [ABlk.live 0 [[]]]) 97 (.ptr h.length 0 0) (.agg [])=some (h ++ [ABlk.live 0 [[]]]):=by
 have hs:szO Tryz.prog 97=some 0:=by kernel_rfl
 rw [ZO (cs := []) (TK rfl) hs (C9 _ _) (jL 0),MS]; rfl
theorem AZ1:VK Tryz.prog (.ifc 97 (.agg #[])) 97 true=some (.tup [.agg [],.bool true]):=by kernel_rfl
theorem AZ2:VK Tryz.prog .nilifc 97 true=some (.tup [.agg [],.bool false]):=by kernel_rfl
theorem AYN:G8 Tryz.prog 20 .neq (.ifc 97 (.agg #[])) .nilifc=some (.bool true):=by kernel_rfl
theorem AYO:G8 Tryz.prog 20 .neq .nilifc .nilifc=some (.bool false):=by kernel_rfl
theorem AY9:G8 Tryz.prog 20 .eql (.ifc 97 (.agg #[])) .nilifc=some (.bool false):=by kernel_rfl
theorem AZA:G8 Tryz.prog 20 .eql .nilifc .nilifc=some (.bool true):=by kernel_rfl
theorem AVT {H:Hp} {c:Nat} {v:AV} (hc:H[c]? = some (.live 1 [[v]])) (b:Bool):F7 Tryz.prog H 4 (.ptr c 0 0) (.bool b)=some (H.set c (.live 1 [[.bool b]])):=by
 rw [JG (cs := [.bool b]) rfl sz4 hc rfl (by simp)]; rfl
section
variable (G:Nat→AV)
theorem AG1 (c:Nat) (h:Hp) (v:AV) (hc:h[c]? = some (.live 1 [[v]])) (x:Option Value) (hx:x=none∨x=some emp):AC3 (En G) 64 [.ptr c 0 0] h x fun H=>H=(h ++ [ABlk.live 0 [[]]]).set c (.live 1 [[.bool x.isNone]]):=by
 refine ANL (H:=Hint.none) (enM G) Tryz.func64 rfl (by kernel_rfl) (by kernel_rfl) (jH (by kernel_rfl)) (jH (by kernel_rfl)) rfl (jH (by kernel_rfl)) ?_
 have hc':=CX (x:=ABlk.live 0 [[]]) hc
 have e0:(upd (upd (LH [AV.ptr c 0 0]) 4 (AJQ x)) 1 (AJQ x)) 0 = .ptr c 0 0:=rfl
 rcases hx with rfl | rfl
 ·have ei:AJQ none = .nilifc:=rfl
  rw [ei] at e0 ⊢
  show awp _ _ _ _ _ (fun e _ h'=>(match e with | .exit _=>False | _=>True)∧h'=(h ++ [ABlk.live 0 [[]]]).set c (.live 1 [[.bool true]]))
  simp -implicitDefEqProofs only [jZ,zC,BC,A8,BR,BJ,A7,DX,AZ,BA,BL,BX,CG,JA,AC,AQ,AO,BD,AX,AL,DZ,AA,EG,AY,AU,BM,AL6,BH,BB,CO,DU,EZ,CZ,BU,GH,IW,wxP,AGD,BZ,AB,CE,BF,↓reduceIte,jB,jA,jC,enP,jJ,AZ2,AZ6,AX0,AYO,AZA,AVT hc']
  exact ⟨trivial,trivial⟩
 ·have ei:AJQ (some emp) = .ifc 97 (.agg #[]):=rfl
  rw [ei] at e0 ⊢
  show awp _ _ _ _ _ (fun e _ h'=>(match e with | .exit _=>False | _=>True)∧h'=(h ++ [ABlk.live 0 [[]]]).set c (.live 1 [[.bool false]]))
  simp -implicitDefEqProofs only [jZ,zC,BC,A8,BR,BJ,A7,DX,AZ,BA,BL,BX,CG,F8,AC,AQ,AO,BD,AX,AL,DZ,AA,AY,AU,BM,AL6,BH,BB,CO,DK,EZ,CZ,BU,I5,GH,IW,wxP,AGD,BZ,AB,CE,FO,BF,↓reduceIte,jB,jA,jW,jC,enP,jJ,AZ1,AZ6,AX0,AYN,AY9,AVT hc']
  exact ⟨trivial,trivial⟩
theorem ATR (nb lb cb pb:Nat) (base:Hp) (Bad:Prop) (p:Pr) (hs:PrS p) (hg:GoodP p) (l:List Rng) (h:Hp) (hcb:h[cb]? = some (.live 1 [[.ptr nb 0 0]])) (hpb:h[pb]? = some (.live 5 [D8 p])) (hk:Kp nb lb base h) (n:Nw h nb lb p.vars (l,false)) (hbad:VM p l=none→Bad) :
  ACalls ((En G).wx (X0 nb lb base Bad)) 37 ([] ++ [.ptr cb 0 0,.ptr pb 0 0]) h (NP nb lb p.vars h (VM p l)):=by
 refine JB (H:=Hint.none) (enM G) Tryz.func37 rfl (by kernel_rfl) (by kernel_rfl) (jH (by kernel_rfl)) ?_
 show awp _ _ _ _ _ (EE _ [] _)
 have lp:DL Tryz.prog h 27 (.ptr pb 0 0)=some (.agg (D8 p)):=by rw [HY WX VL hpb (row:=D8 p) rfl (by rw [GZ]; exact jL 5)]; rfl
 simp -implicitDefEqProofs only [A8,AZ,AC,AQ,AO,BD,AX,AL,AA,AY,BO,BP,BV,BN,wxP,AB,BF,BQ,jF,jD,jE,zK,↓reduceIte,jB,jA,jC,enP,AS9 hcb,lp]
 refine ACalls.mono (AOX G nb lb base Bad p hs hg l h hk n hbad) ?_
 rintro v H q
 simp -implicitDefEqProofs only [JK,BA,AL]
 exact q
theorem al4 (h:Hp):JU Tryz.prog h 4=some (.ptr h.length 0 0,h ++ [ABlk.live 1 [[.bool false]]]):=J7 (row := [.bool false]) (by kernel_rfl)
def A2F (nb lb:Nat) (p:Pr) (l:List Rng) (h:Hp):AV→Hp→Prop:=fun v H=>(v = .bool true∧∃ s,VM p l=some s∧Nw H nb lb p.vars s∧Kp nb lb h H)∨(v = .bool false∧VM p l=none∧Kp nb lb h H)
theorem ARD (nb lb cb pb:Nat) (p:Pr) (hs:PrS p) (hg:GoodP p) (l:List Rng) (h:Hp) (hcb:h[cb]? = some (.live 1 [[.ptr nb 0 0]])) (hpb:h[pb]? = some (.live 5 [D8 p])) (n:Nw h nb lb p.vars (l,false)) :
  ACalls (En G) 36 [.fn (.func 37) [] [.ptr cb 0 0,.ptr pb 0 0]] h (A2F nb lb p l h):=by
 have nA:=n.ext ((ext.rfl' h).app [ABlk.live 1 [[.bool false]]])
 have oc:=n.lt (jL h.length)
 have kA:=(Kp.rfl' nb lb h).app (ABlk.live 1 [[.bool false]])
 have gc:=C9 h (ABlk.live 1 [[.bool false]])
 refine AKD (E:=En G) (X:=X0 nb lb (h ++ [ABlk.live 1 [[.bool false]]]) (VM p l=none)) (R1:=fun H => ∃ v,NP nb lb p.vars (h ++ [ABlk.live 1 [[.bool false]]]) (VM p l) v H) Tryz.func36 rfl (by kernel_rfl) ⟨rfl,rfl,rfl,rfl,rfl⟩ rfl
  ⟨rfl,rfl,rfl⟩ ⟨rfl,rfl,rfl⟩ ⟨rfl,rfl,rfl⟩ ⟨rfl,rfl,rfl⟩ ⟨rfl,rfl,rfl⟩ ⟨rfl,rfl,rfl⟩ (al4 h) ?_ ?_ ?_
 ·exact ACalls.mono (ATR G nb lb cb pb _ _ p hs hg l _ (CX hcb) (CX hpb) (Kp.rfl' _ _ _) nA id) fun v H q=>⟨v,q⟩
 ·rintro h' ⟨v,s,e,n',k'⟩
  have g':=k'.1 _ _ gc oc.1 oc.2
  have g2:(h'.set h.length (.live 1 [[.bool true]]))[h.length]? = some (.live 1 [[.bool true]]):=G7 g'
  refine ⟨h'.set h.length (.live 1 [[.bool true]]),AVT g' true,?_⟩
  have hd:=AG1 G h.length (h'.set h.length (.live 1 [[.bool true]])) (.bool true) g2 none (.inl rfl)
  refine ⟨hd.1,fun g w cargs S ha=>(hd.2 g w cargs S ha).mono ?_⟩
  rintro e' u w' ⟨q1,q2,g3,h3,rfl,q3,q4⟩
  refine ⟨q1,q2,g3,_,⟨.bool true,?_,.inl ⟨rfl,s,e,?_,?_⟩⟩,q3,q4⟩
  ·exact IL ag4 (G7 (CX g2))
  ·exact ((n'.setCell g' oc.1 oc.2 _).ext ((ext.rfl' _).app [ABlk.live 0 [[]]])).setCell (CX g2) oc.1 oc.2 _
  ·exact (((kA.trans k').setGe (jL _) _).app _).setGe (jL _) _
 ·rintro u h' ⟨rfl,k',hb⟩
  have g':=k'.1 _ _ gc oc.1 oc.2
  have hd:=AG1 G h.length h' (.bool false) g' (some emp) (.inr rfl)
  refine ⟨hd.1,fun g w cargs S ha=>(hd.2 g w cargs S ha).mono ?_⟩
  rintro e' u w' ⟨q1,q2,g3,h3,rfl,q3,q4⟩
  refine ⟨q1,q2,g3,_,⟨.bool false,?_,.inr ⟨rfl,hb,?_⟩⟩,q3,q4⟩
  ·exact IL ag4 (G7 (CX g'))
  ·exact ((kA.trans k').app _).setGe (jL _) _
end
theorem ATN {h H:Hp} (hg : ∀ (b:Nat) (x:ABlk),h[b]? = some x→H[b]? = some x):Sm.ext h H:=by
 refine ⟨H.drop h.length,?_⟩
 apply List.ext_getElem?
 intro i
 rcases jT i h.length with hi | hi
 ·rw [List.getElem?_append_left hi]
  have:h[i]? = some h[i]:=by simp [hi]
  rw [this,hg i _ this]
 ·rw [List.getElem?_append_right hi,List.getElem?_drop]
  congr 1; omega
theorem Kp.ext {nb lb:Nat} {h h0 H:Hp} (hx:Sm.ext h h0) (k:Kp nb lb h0 H) (h1:h.length≤nb) (h2:h.length≤lb):Sm.ext h H :=
 ATN fun b x hb=>k.1 b x (FP hx hb) (by have:=CP hb; omega) (by have:=CP hb; omega)
theorem AIO (h:Hp):JU Tryz.prog h 66=some (.ptr h.length 0 0,h ++ [ABlk.live 1 [[.nilp]]]):=J7 (row := [.nilp]) (by kernel_rfl)
theorem AEV {H:Hp} {c nb:Nat} {v:AV} (hc:H[c]? = some (.live 1 [[v]])):F7 Tryz.prog H 66 (.ptr c 0 0) (.ptr nb 0 0)=some (H.set c (.live 1 [[.ptr nb 0 0]])):=by
 rw [JG (cs := [.ptr nb 0 0]) rfl A0U hc rfl (by simp)]; rfl
theorem AZL (h:Hp):FU Tryz.prog false h 29 0 []=some (.sl .full 2 [],h):=by kernel_rfl
theorem AZS (b:Nat) (m:SM) (xs:List (List AV)):JZ Tryz.prog 73 [(0,.agg [.mp b,.sl m 2 xs])]=some (.agg [.mp b,.sl m 2 xs,.bool false]):=by kernel_rfl
theorem AZT (b c n:Nat):JZ Tryz.prog 73 [(0,.agg [.mp b,.own c 0 n])]=some (.agg [.mp b,.own c 0 n,.bool false]):=by kernel_rfl
def AMW (p:Pr) (l:List Rng):List Rng × Int:=if NM p≠0∨TF p.vars l=false then ([],1) else match VM p l with
 | none=>([],11)
 | some s=>(s.1,0)
def AS2 (p:Pr) (l:List Rng):SM:=if NM p≠0∨TF p.vars l=false then .nil else match VM p l with
 | none => .nil
 | some s=>if s.1.length=0 then .full else .any
def AJD (p:Pr) (l:List Rng):AV:=if NM p≠0∨TF p.vars l=false then .tup [.sl .nil 0 [],.int .i64 1] else match VM p l with
 | none => .tup [.sl .nil 0 [],.int .i64 11]
 | some s => .tup [.sl (if s.1.length=0 then .full else .any) 2 (s.1.map encR),.int .i64 0]
theorem AU6 (H:Hp) (m:SM) (l:List Rng) (hl:l.length≤1048576) : ∃ L H',IQ Tryz.prog true H 29 29 (.sl .full 2 []) (.sl m 2 (l.map encR))=some (L,H')∧Sm.ext H H'∧((l = []∧L = .sl .full 2 [])∨(l≠[]∧L = .own H.length 0 l.length∧H'[H.length]? = some (.live 2 (l.map encR)))):=by
 cases l with
 | nil=>exact ⟨_,_,ARL AOM TY (.inr rfl),ext.rfl' _,.inl ⟨rfl,rfl⟩⟩
 | cons r l =>
   have h1:((r :: l).map encR)≠[]:=by simp
   have:=ARN (xs := []) AOM TY AXO AW5 (PD H m 2 ((r :: l).map encR)) h1 (OZ (by simp at hl ⊢; omega) (by omega))
   rw [List.length_nil,jG,jM,zK] at this
   exact ⟨_,_,this,(ext.rfl' _).app _,.inr ⟨by simp,rfl,C9 _ _⟩⟩
theorem ALP (K:Hp) (p:Pr) (L:AV):(evH K p L)[K.length+2]? = some (ABlk.live 2 [[AV.mp (K.length+1),L]]):=by simp [evH]
theorem AYM {H0 K H2:Hp} {p:Pr} {L:AV} {l:List Rng} (hK:Sm.ext H0 K) (hL:(l = []∧L = .sl .full 2 [])∨(l≠[]∧L = .own H0.length 0 l.length∧K[H0.length]? = some (.live 2 (l.map encR)))) (hx:Sm.ext (evH K p L) H2) {nb:Nat} (hnb:H2[nb]? = some (.live 3 [[.mp (K.length+1),L,.bool false]])) (h3:K.length+3≤nb)
  (hlen:l.length=p.vars.length) (hwf : ∀ r∈l,wfR r) : ∃ lb,Nw H2 nb lb p.vars (l,false)∧H0.length≤lb∧∃ xs,H2[lb]? = some (.live 2 xs):=by
 have hm2:(evH K p L)[K.length+1]? = some (ABlk.map (TV (PP p.vars 0))):=by simp [evH]
 have hle:(evH K p L).length=K.length+3:=by simp [evH]
 have hx2:=hx.le
 have hk:=hK.le
 rcases hL with ⟨e,eL⟩ | ⟨e,eL,hb⟩
 ·exact ⟨K.length+2,⟨⟨K.length+1,L,PP p.vars 0,hnb,FP hx hm2,fun n=>Q4 n _ _,.inl ⟨e,eL⟩,by omega,by omega⟩,by omega,by omega,hlen,hwf⟩,by omega,_,FP hx (ALP K p L)⟩
 ·have hlt:=CP hb
  exact ⟨H0.length,⟨⟨K.length+1,L,PP p.vars 0,hnb,FP hx hm2,fun n=>Q4 n _ _,.inr ⟨eL,FP hx (FP (TG K p L) hb),e⟩,by omega,by omega⟩,by omega,by omega,hlen,hwf⟩,jL _,_,FP hx (FP (TG K p L) hb)⟩
section
variable (G:Nat→AV)
set_option maxHeartbeats 4000000 in
theorem AF9 (hG:GOk G) (p:Pr) (hs:PrS p) (l:List Rng) (m:SM) (hl:l.length≤1048576) (h:Hp):PCall (En G) 14 [.agg (D8 p),.sl m 2 (l.map encR)] h (AJD p l):=by
 refine ACalls.pure (R:=fun v H=>Sm.ext h H∧JS h.length H 3 v=AJD p l) 3 ?_ (fun v H q=>q)
 refine JB (H:=hint [19,1000020] []) (enM G) Tryz.func14 rfl (by kernel_rfl) (by kernel_rfl) (jH (by kernel_rfl)) ?_
 show awp _ _ _ _ _ (EE _ [.tmp 4,.tmp 5] _)
 have ge:=C9 h (ABlk.live 5 [D8 p])
 have hx:ext h (h ++ [ABlk.live 5 [D8 p]]):=(ext.rfl' h).app _
 have hlh:h.length < (h ++ [ABlk.live 5 [D8 p]]).length:=by simp
 simp -implicitDefEqProofs only [EI,jP,jR,jS,jO,BC,A8,A7,AZ,BA,AO,BD,AX,AL,AA,AY,AU,BG,MC,BB,FN,BP,BZ,BF,↓reduceIte,jB,jA,jC,enP,E8,VS]
 generalize h ++ [ABlk.live 5 [D8 p]]=H at ge hx hlh ⊢
 generalize hpb:h.length=pb at ge hlh ⊢
 have lp:DL Tryz.prog H 27 (.ptr pb 0 0)=some (.agg (D8 p)):=by rw [HY WX VL ge (row:=D8 p) rfl (by rw [GZ]; exact jL 5)]; rfl
 simp -implicitDefEqProofs only [EI,jP,jR,jS,jO,AZ,AO,BD,AX,AL,AA,AY,BO,BV,BN,AB,jF,jD,jE,↓reduceIte,jA,jC,E8,lp]
 refine (WB G hG p hs H).use ?_
 simp -implicitDefEqProofs only [EI,jP,jR,jS,jO,AZ,BL,BX,CG,AO,BD,AX,AL,AA,AY,AU,BG,BH,BU,AB,FD,↓reduceIte,jA,jC,enP,E8]
 refine IV (fun h1 => ?_) (fun h1 => ?_)
 ·have h1':NM p≠0:=by simpa using h1
  simp -implicitDefEqProofs only [EI,jP,jR,jS,jO,BC,A8,BK,BJ,A7,CJ,JX,DR,AZ,BA,BL,BX,CG,FY,AO,BD,AX,AL,AA,EG,AY,AU,BG,BM,MC,BB,CO,DK,↓reduceIte,jB,jA,jC,E8,h1]
  refine ⟨hx,?_⟩
  unfold AJD
  rw [if_pos (.inl h1')]; rfl
 have h1':NM p=0:=by simpa using h1
 simp -implicitDefEqProofs only [EI,jP,jR,jS,jO,BL,BX,CG,EM,AO,BD,AX,AL,AA,AY,BO,BH,BP,BV,BN,AB,BF,BQ,jF,jD,jE,↓reduceIte,jB,jA,jC,enP,E8,h1,lp]
 refine (AHR G p hs l m hl H).use ?_
 simp -implicitDefEqProofs only [EI,jP,jR,jS,jO,BJ,A7,AZ,BA,BL,BX,CG,EM,AO,BD,AX,AL,AA,AY,AU,BM,CO,DU,I5,AB,FO,↓reduceIte,jB,jA,jC,E8,h1]
 cases h3:TF p.vars l
 ·simp -implicitDefEqProofs only [EI,jP,jR,jS,jO,BC,A8,BK,A7,CJ,JX,DR,AZ,BA,AO,BD,AX,AL,AA,AU,BG,MC,BB,↓reduceIte,jB,jA,jC,E8]
  refine ⟨hx,?_⟩
  unfold AJD
  rw [if_pos (.inr h3)]; rfl
 simp -implicitDefEqProofs only [BC,BR,A7,DX,jW]
 obtain ⟨hwf,hlen⟩:=MH.1 h3
 have hne : ¬ (NM p≠0∨TF p.vars l=false):=by rw [h1',h3]; simp
 have hg:=AU2 hs h1'
 obtain ⟨L,H',ha,hxA,hL⟩:=AU6 H m l hl
 obtain ⟨L2,H2',ha2,hxA2,hL2⟩:=AU6 (H ++ [ABlk.live 1 [[.nilp]]]) m l hl
 have lf : ∀ {L:AV} {K H0:Hp},((l = []∧L = .sl .full 2 [])∨(l≠[]∧L = .own H0.length 0 l.length∧K[H0.length]? = some (.live 2 (l.map encR))))→(∃ m xs,L = .sl m 2 xs)∨∃ b n,L = .own b 0 n:=fun h=>by
  rcases h with ⟨_,e⟩ | ⟨_,e,_⟩
  ·exact .inl ⟨_,_,e⟩
  ·exact .inr ⟨_,_,e⟩
 have hLf:=lf hL
 have hLf2:=lf hL2
 have bd73 : ∀ {L:AV},((∃ m xs,L = .sl m 2 xs)∨∃ b n,L = .own b 0 n)→∀ b:Nat,JZ Tryz.prog 73 [(0,.agg [.mp b,L])]=some (.agg [.mp b,L,.bool false]):=fun hLf b=>by
  rcases hLf with ⟨m,xs,rfl⟩ | ⟨b,n,rfl⟩
  ·exact AZS _ _ _
  ·exact AZT _ _ _
 have bx73 : ∀ {L:AV},((∃ m xs,L = .sl m 2 xs)∨∃ b n,L = .own b 0 n)→∀ (K:Hp) (b:Nat),PG K (.agg [.mp b,L,.bool false])=some (.ptr K.length 0 0,K ++ [ABlk.live 3 [[.mp b,L,.bool false]]]):=fun hLf K b=>by
  rcases hLf with ⟨m,xs,rfl⟩ | ⟨b,n,rfl⟩ <;> rfl
 have ld69 : ∀ (K:Hp) (L:AV),DL Tryz.prog (evH K p L) 69 (.ptr (K.length+2) 0 0)=some (.agg [.mp (K.length+1),L]):=fun K L=>by
  rw [HY A2D A0T (ALP K p L) (row := [.mp (K.length+1),L]) rfl (jL 2)]; rfl
 have lpX : ∀ K:Hp,Sm.ext H K→DL Tryz.prog K 27 (.ptr pb 0 0)=some (.agg (D8 p)):=fun K hx=>by rw [HY WX VL (FP hx ge) (row:=D8 p) rfl (by rw [GZ]; exact jL 5)]; rfl
 have hxc:Sm.ext H (H ++ [ABlk.live 1 [[.nilp]]]):=(ext.rfl' H).app _
 have lp1:=lpX H' hxA
 have lp2:=lpX _ hxc
 have lp3:=lpX H2' (hxc.trans hxA2)
 have lp4:=lpX (H' ++ [ABlk.live 1 [[.nilp]]]) (hxA.app _)
 -- the ends
 have leaf : ∀ (K H0 H2:Hp) (L:AV) (nb c:Nat),Sm.ext H H0→Sm.ext H0 K→((l = []∧L = .sl .full 2 [])∨(l≠[]∧L = .own H0.length 0 l.length∧K[H0.length]? = some (.live 2 (l.map encR))))→Sm.ext (evH K p L) H2→H2[nb]? = some (.live 3 [[.mp (K.length+1),L,.bool false]])→K.length+3≤nb→H2[c]? = some (.live 1 [[.nilp]])→H.length≤c →
   ∃ nb' lb cb,True∧AV.ptr c 0 0 = .ptr cb 0 0∧(H2.set c (.live 1 [[.ptr nb 0 0]]))[cb]? = some (.live 1 [[.ptr nb' 0 0]])∧Nw (H2.set c (.live 1 [[.ptr nb 0 0]])) nb' lb p.vars (l,false)∧pb < nb'∧pb < lb∧cb≠nb'∧cb≠lb∧Sm.ext H (H2.set c (.live 1 [[.ptr nb 0 0]])):=by
  intro K H0 H2 L nb c e1 e2 e3 e4 e5 e6 e7 e8
  obtain ⟨lb,n,hlb,xs,hxs⟩:=AYM e2 e3 e4 e5 e6 hlen hwf
  have hcl:c≠lb:=fun e=>by rw [e,hxs] at e7; cases e7
  have hcn:c≠nb:=fun e=>by rw [e,e5] at e7; cases e7
  have:=e1.le
  have:=e2.le
  exact ⟨nb,lb,c,trivial,rfl,G7 e7,n.setCell e7 hcn hcl _,by omega,by omega,hcn,hcl,(((e1.trans e2).trans (TG K p L)).trans e4).set e8 _⟩
 have hle:=hxA.le
 have hl1:(evH H' p L).length=H'.length+3:=by simp [evH]
 have hl3:(evH (H' ++ [ABlk.live 1 [[.nilp]]]) p L).length=H'.length+4:=by simp [evH]
 have hl4:(evH H2' p L2).length=H2'.length+3:=by simp [evH]
 have ca:=C9 (evH H' p L ++ [ABlk.live 3 [[.mp (H'.length+1),L,.bool false]]]) (ABlk.live 1 [[.nilp]])
 have cb:=CX (x:=ABlk.live 3 [[.mp (H'.length+1),L,.bool false]]) (C9 (evH H' p L) (ABlk.live 1 [[.nilp]]))
 have cc:(evH (H' ++ [ABlk.live 1 [[.nilp]]]) p L ++ [ABlk.live 3 [[.mp ((H' ++ [ABlk.live 1 [[.nilp]]]).length+1),L,.bool false]]])[H'.length]? = some (ABlk.live 1 [[.nilp]]):=CX (FP (TG _ p L) (C9 H' (ABlk.live 1 [[.nilp]])))
 have cd:(evH H2' p L2 ++ [ABlk.live 3 [[.mp (H2'.length+1),L2,.bool false]]])[H.length]? = some (ABlk.live 1 [[.nilp]]):=CX (FP (TG _ p L2) (FP hxA2 (C9 H (ABlk.live 1 [[.nilp]]))))
 have Na:=CX (x:=ABlk.live 1 [[.nilp]]) (C9 (evH H' p L) (ABlk.live 3 [[.mp (H'.length+1),L,.bool false]]))
 have Nb:=C9 (evH H' p L ++ [ABlk.live 1 [[.nilp]]]) (ABlk.live 3 [[.mp (H'.length+1),L,.bool false]])
 have Nc:=C9 (evH (H' ++ [ABlk.live 1 [[.nilp]]]) p L) (ABlk.live 3 [[.mp ((H' ++ [ABlk.live 1 [[.nilp]]]).length+1),L,.bool false]])
 have Nd:=C9 (evH H2' p L2) (ABlk.live 3 [[.mp (H2'.length+1),L2,.bool false]])
 have La:=leaf H' H _ L _ _ (ext.rfl' H) hxA hL (((ext.rfl' _).app _).app _) Na (by omega) ca (by simp; omega)
 have Lb:=leaf H' H _ L _ _ (ext.rfl' H) hxA hL (((ext.rfl' _).app _).app _) Nb (by simp; omega) cb (by omega)
 have Lc:=leaf (H' ++ [ABlk.live 1 [[.nilp]]]) H _ L _ _ (ext.rfl' H) (hxA.app _) (by
  rcases hL with q | ⟨q1,q2,q3⟩
  ·exact .inl q
  ·exact .inr ⟨q1,q2,CX q3⟩) ((ext.rfl' _).app _) Nc (by simp; omega) cc (by omega)
 have Ld:=leaf H2' (H ++ [ABlk.live 1 [[.nilp]]]) _ L2 _ _ hxc hxA2 hL2 ((ext.rfl' _).app _) Nd (by omega) cd (jL _)
 refine VG (fun F H2 => ∃ nb lb cb,F 2 = .ptr pb 0 0∧F 6 = .ptr cb 0 0∧H2[cb]? = some (.live 1 [[.ptr nb 0 0]])∧Nw H2 nb lb p.vars (l,false)∧pb < nb∧pb < lb∧cb≠nb∧cb≠lb∧Sm.ext H H2) (fun _ _=>False) ?_ ?_ (fun _ _ q=>q.elim)
 ·refine AIH (.ones [1,2] (.alt 0 (.alt 3 (.alt 4 (.ones [5,6,7] (.alt 8 (.ones [9,10] .done) (.alt 9 (.ones [8,10] .done) (.non)))) (.alt 9 (.ones [4,5,6,7,8,10] .done) (.non))) (.alt 9 (.ones [3,4,5,6,7,8,10] .done) (.non))) (.alt 3 (.ones [0] (.alt 4 (.ones [5,6,7] (.alt 8 (.ones [9,10] .done) (.alt 9 (.ones [8,10] .done) (.non)))) (.alt 9 (.ones [4,5,6,7,8,10] .done) (.non)))) (.alt 9 (.alt 0 (.ones [3,4,5,6,7,8,10] .done) (.alt 3 (.ones [0,4,5,6,7,8,10] .done) (.non))) (.non))))) (by kernel_rfl) ?_
  simp only [DT,KI,zC,jZ]
  simp -implicitDefEqProofs only [FC,AF7,ACK,FB,EI,jP,jR,jS,jO,Bool.or_true,DV,CY,EC,DW,EP,XB,ADI,PU,ED,GL,OE,NU,AA,AY,BO,EZ,FN,GM,BP,CZ,NL,BZ,AB,BF,BQ,jF,jD,jE,↓reduceIte,jB,jK,jG,jA,enP,jJ,ER,GK,lp,lp1,lp2,lp3,lp4,AZL,ha,ha2,AIO]
  have new1:=XM G p L hLf hs.vars H'
  have new3:=XM G p L hLf hs.vars (H' ++ [ABlk.live 1 [[.nilp]]])
  have new4:=XM G p L2 hLf2 hs.vars H2'
  have b1:=bd73 hLf
  have b2:=bd73 hLf2
  have x1:=bx73 hLf
  have x2:=bx73 hLf2
  refine ⟨⟨⟨⟨_,_,new1,?_⟩,⟨_,_,new3,?_⟩,trivial⟩,⟨_,_,new4,?_⟩,trivial⟩,⟨⟨_,_,new1,?_⟩,⟨_,_,new3,?_⟩,trivial⟩,⟨⟨_,_,new4,?_⟩,⟨_,_,new4,?_⟩,trivial⟩,trivial⟩
  ·simp -implicitDefEqProofs only [FC,FB,ES,EI,jP,jR,jS,jO,DV,CY,GN,EC,DW,NJ,ED,GL,AA,AY,FZ,BP,CZ,BZ,AB,CE,↓reduceIte,jB,jK,jG,jA,enP,jJ,FK,ld69,b1,x1,AIO,AEV ca,AEV cb]
   exact ⟨La,Lb,trivial⟩
  ·simp -implicitDefEqProofs only [FC,FB,ES,EI,jP,jR,jS,jO,DV,CY,GN,EC,DW,ADI,NJ,ED,GL,AA,AY,FN,FZ,BP,CZ,BZ,AB,CE,↓reduceIte,jB,jK,jG,jA,enP,jJ,FK,ld69,b1,x1,AIO,AEV cc]
   exact Lc
  ·simp -implicitDefEqProofs only [FC,FB,ES,EI,jP,jR,jS,jO,DV,CY,GN,EC,DW,ADI,NJ,ED,GL,AA,AY,FN,FZ,BP,CZ,BZ,AB,CE,↓reduceIte,jB,jK,jG,jA,enP,jJ,FK,ld69,b2,x2,AIO,AEV cd]
   exact Ld
  ·simp -implicitDefEqProofs only [FC,FB,ES,EI,jP,jR,jS,jO,DV,CY,GN,EC,DW,NJ,ED,GL,AA,AY,FZ,BP,CZ,BZ,AB,CE,↓reduceIte,jB,jK,jG,jA,enP,jJ,FK,ld69,b1,x1,AIO,AEV ca,AEV cb]
   exact ⟨La,Lb,trivial⟩
  ·simp -implicitDefEqProofs only [FC,FB,ES,EI,jP,jR,jS,jO,DV,CY,GN,EC,DW,ADI,NJ,ED,GL,AA,AY,FN,FZ,BP,CZ,BZ,AB,CE,↓reduceIte,jB,jK,jG,jA,enP,jJ,FK,ld69,b1,x1,AIO,AEV cc]
   exact Lc
  ·simp -implicitDefEqProofs only [FC,FB,ES,EI,jP,jR,jS,jO,DV,CY,GN,EC,DW,ADI,NJ,ED,GL,AA,AY,FN,FZ,BP,CZ,BZ,AB,CE,↓reduceIte,jB,jK,jG,jA,enP,jJ,FK,ld69,b2,x2,AIO,AEV cd]
   exact Ld
  ·simp -implicitDefEqProofs only [FC,FB,ES,EI,jP,jR,jS,jO,DV,CY,GN,EC,DW,ADI,NJ,ED,GL,AA,AY,FN,FZ,BP,CZ,BZ,AB,CE,↓reduceIte,jB,jK,jG,jA,enP,jJ,FK,ld69,b2,x2,AIO,AEV cd]
   exact Ld
 clear La Lb Lc Ld Na Nb Nc Nd ca cb cc cd leaf
 rintro F H2 ⟨nb,lb,c,f2,f6,gc,n,o1,o2,o3,o4,hx2⟩
 have gp:=FP hx2 ge
 simp -implicitDefEqProofs only [EI,jP,jR,jS,jO,BC,A8,A7,AZ,AO,BD,AX,AL,AA,AY,BO,JF,BV,BN,jF,jD,jE,↓reduceIte,jA,jC,E8,f2,f6]
 refine ACalls.mono (ARD G nb lb c pb p hs hg l H2 gc gp n) ?_
 have hxx:=hx.trans hx2
 have fr:AJD p l=match VM p l with
  | none => .tup [.sl .nil 0 [],.int .i64 11]
  | some s => .tup [.sl (if s.1.length=0 then .full else .any) 2 (s.1.map encR),.int .i64 0]:=by unfold AJD; rw [if_neg hne]
 rintro v H3 (⟨rfl,s,e,n3,k3⟩ | ⟨rfl,e,k3⟩)
 ·simp -implicitDefEqProofs only [EI,jP,jR,jS,jO,BC,A8,BR,BJ,A7,DX,AZ,BA,AO,BD,AX,AL,AA,AY,BP,I5,AB,FO,↓reduceIte,jB,jA,jW,jC,enP,E8]
  have gc3:=k3.1 _ _ gc o3 o4
  obtain ⟨mb,L3,ents,e1,e2,e3,e4,_⟩:=n3.ex
  have l29:DL Tryz.prog H3 29 (.ptr nb 0 1)=some L3:=by rw [DC (by kernel_rfl) e1 rfl]; rfl
  simp -implicitDefEqProofs only [EI,jP,jR,jS,jO,BK,A7,JX,AZ,BA,AO,BD,AX,AL,AA,AY,AU,BG,BB,BP,BI,AB,↓reduceIte,jB,jI,jG,jA,jC,enP,YY,KY,E8,ER,FK,f6,AS9 gc3,l29]
  refine ⟨k3.ext hxx (by omega) (by omega),?_⟩
  rw [fr,e]
  rcases e4 with ⟨q,rfl⟩ | ⟨rfl,hb,hn⟩
  ·show JS pb H3 3 (.tup [.sl .full 2 [],.int .i64 0]) = .tup [.sl (if s.1.length=0 then .full else .any) 2 (s.1.map encR),.int .i64 0]
   rw [q]; rfl
  ·have hz : ¬ s.1.length=0:=by simpa using hn
   show AV.tup [JS pb H3 2 (.own lb 0 s.1.length),JS pb H3 2 (.int .i64 0)] = .tup [.sl (if s.1.length=0 then .full else .any) 2 (s.1.map encR),.int .i64 0]
   rw [if_neg hz,AFD AU3 (by omega) hb]; rfl
 ·simp -implicitDefEqProofs only [EI,jP,jR,jS,jO,BC,A8,BK,BJ,A7,CJ,JX,DR,AZ,BA,AO,BD,AX,AL,AA,AY,AU,BG,MC,BB,I5,AB,FO,↓reduceIte,jB,jA,jC,E8]
  refine ⟨k3.ext hxx (by omega) (by omega),?_⟩
  rw [fr,e]; rfl
theorem Z7 (hG:GOk G) (p:Pr) (hs:PrS p) (l:List Rng) (m:SM) (hl:l.length≤1048576) (h:Hp):PCall (En G) 14 [.agg (D8 p),.sl m 2 (l.map encR)] h (.tup [.sl (AS2 p l) 2 ((AMW p l).1.map encR),.int .i64 (AMW p l).2]):=by
 refine PCall.res (AF9 G hG p hs l m hl h) ?_
 have hn:CvR (.sl .nil 0 []) (.sl .nil 2 []):=CvR.sl (Cv.nil 0 2)
 unfold AJD AMW AS2
 by_cases h:NM p≠0∨TF p.vars l=false
 ·rw [if_pos h,if_pos h,if_pos h]
  exact CvR.tup (CvRL.cons hn (CvRL.refl _))
 ·rw [if_neg h,if_neg h,if_neg h]
  cases VM p l with
  | none=>exact CvR.tup (CvRL.cons hn (CvRL.refl _))
  | some s=>exact CvR.refl _
end
abbrev nA:ByteArray:=⟨#[97]⟩
abbrev nB:ByteArray:=⟨#[98]⟩
def vE (n:ByteArray):Ex := .mk 2 0 n .nil []
def lE (a b:Ex):Ex := .mk 17 0 ⟨#[]⟩ .full [a,b]
def kE4:Ex := .mk 1 4 ⟨#[]⟩ .nil []
def vA:Vr:=⟨nA,3,1,0⟩
def vB:Vr:=⟨nB,3,1,0⟩
def pS:Pr:=⟨.full,[vA,vB],.full,[lE (vE nA) (vE nB),lE (vE nB) kE4],.nil,[],.nil,[],.full,[⟨.full,[0,1]⟩]⟩
def cW:List AV := [.int .i64 1,.int .i64 4,.str ⟨#[]⟩,.sl .nil 0 []]
def w2:List AV := [.int .i64 17,.int .i64 0,.str ⟨#[]⟩,.sl .full 4 [CW (vE nB),cW]]
def wS:List AV := [.sl .full 4 [FM vA,FM vB],.sl .full 4 [CW (lE (vE nA) (vE nB)),w2],.sl .nil 0 [],.sl .nil 0 [],.sl .full 1 [[.sl .full 1 [[.int .i64 0],[.int .i64 1]]]]]
theorem wc2 {m:SM} {k:Nat} {a b a' b':List AV} (h1:CvRow a a') (h2:CvRow b b'):Cv (.sl m k [a,b]) (.sl m k [a',b']):=Cv.rows rfl fun i r r' e1 e2=>by
 match i,e1,e2 with
 | 0,e1,e2=>cases e1; cases e2; exact h1
 | 1,e1,e2=>cases e1; cases e2; exact h2
 | _+2,e1,_=>cases e1
theorem AFL (op n:Int) (s:ByteArray) (m:SM) (a b:Ex):CW (.mk op n s m [a,b]) = [.int .i64 op,.int .i64 n,.str s,.sl m 4 [CW a,CW b]]:=by rw [MV]; rfl
theorem AHZ (op n:Int) (s:ByteArray) (m:SM):CW (.mk op n s m []) = [.int .i64 op,.int .i64 n,.str s,.sl m 4 []]:=by rw [MV]; rfl
theorem AYA (e:Ex):CvRow (CW e) (CW e):=CvRow.refl fun v hv=>List.all_eq_true.1 (KU e) v hv
theorem AZE:CvRow cW (CW kE4):=by
 unfold kE4
 rw [AHZ]
 exact CvRow.cons rfl (Cv.refl _) (CvRow.cons rfl (Cv.refl _) (CvRow.cons rfl (Cv.refl _) (CvRow.cons rfl (Cv.nil 0 4) CvRow.nil)))
theorem AXW:CvRow w2 (CW (lE (vE nB) kE4)):=by
 unfold lE
 rw [AFL]
 exact CvRow.cons rfl (Cv.refl _) (CvRow.cons rfl (Cv.refl _) (CvRow.cons rfl (Cv.refl _) (CvRow.cons rfl (wc2 (AYA _) AZE) CvRow.nil)))
theorem AXV:CvR (.agg wS) (.agg (D8 pS)):=by
 have e:D8 pS = [.sl .full 4 [FM vA,FM vB],.sl .full 4 [CW (lE (vE nA) (vE nB)),CW (lE (vE nB) kE4)],.sl .nil 4 [],.sl .nil 2 [],.sl .full 1 [[.sl .full 1 [[.int .i64 0],[.int .i64 1]]]]]:=rfl
 rw [e]
 exact CvR.agg (CvRL.cons (CvR.refl _) (CvRL.cons (CvR.sl (wc2 (AYA _) AXW)) (CvRL.cons (CvR.sl (Cv.nil 0 4)) (CvRL.cons (CvR.sl (Cv.nil 0 2)) (CvRL.cons (CvR.refl _) CvRL.nil)))))
theorem AZW (s:ByteArray):JZ Tryz.prog 40 [(0,.int .i64 2),(2,.str s)]=some (.agg [.int .i64 2,.int .i64 0,.str s,.sl .nil 0 []]):=by kernel_rfl
theorem AX1 (h:Hp) (cs:List AV) (row:List AV) (hr:row.length=4) (hc:cs.length=4) (hl:cs.all AV.leaf=true):F7 Tryz.prog (h ++ [.live 4 [row]]) 40 (.ptr h.length 0 0) (.agg cs)=some (h ++ [.live 4 [cs]]):=by
 rw [ADN (cs:=cs) (TK hl) (by rw [hc]; exact J4) (by rw [hr,hc]; exact jL 4)]
 have:splice row 0 cs=cs:=by unfold splice; rw [zM,qF (by rw [hr,hc]; exact jL 4)]; simp
 rw [this]
def z5:List AV := [.sl .nil 0 [],.sl .nil 0 [],.sl .nil 0 [],.sl .nil 0 [],.sl .nil 0 []]
def z4:List AV := [.int .i64 0,.int .i64 0,.str ⟨#[]⟩,.sl .nil 0 []]
theorem AZ8 (h:Hp):JU Tryz.prog h 27=some (.ptr h.length 0 0,h ++ [.live 5 [z5]]):=J7 (row:=z5) (by kernel_rfl)
theorem AZ7 (h:Hp):JU Tryz.prog h 40=some (.ptr h.length 0 0,h ++ [.live 4 [z4]]):=AF1 h
theorem A18 (s:ByteArray) (w m:Int):JZ Tryz.prog 61 [(0,.str s),(1,.int .i64 w),(2,.int .i64 m)]=some (.agg [.str s,.int .i64 w,.int .i64 m,.int .i64 0]):=by kernel_rfl
theorem A16 (h:Hp) (s t:ByteArray) (a b c d e f:Int):FU Tryz.prog false h 22 2 [(0,.agg [.str s,.int .i64 a,.int .i64 b,.int .i64 c]),(1,.agg [.str t,.int .i64 d,.int .i64 e,.int .i64 f])]=some (.sl .full 4 [[.str s,.int .i64 a,.int .i64 b,.int .i64 c],[.str t,.int .i64 d,.int .i64 e,.int .i64 f]],h):=by kernel_rfl
theorem AT1 (h:Hp) (a b:List AV) (ha:a.length=4) (hb:b.length=4) (la:a.all AV.leaf=true) (lb:b.all AV.leaf=true) (fa:a.all AV.frozen=true) (fb:b.all AV.frozen=true):FU Tryz.prog false h 23 2 [(0,.agg a),(1,.agg b)]=some (.sl .full 4 [a,b],h):=by
 have hz:YN Tryz.prog 40=some 4:=by kernel_rfl
 unfold FU
 simp only [AMF,J4,hz]
 have h2:ZP 4 0 [(0,AV.agg a),(1,AV.agg b)]=some [a,b]:=by simp [ZP,I8,la,lb,ha,hb]
 simp [h2,fa,fb]
theorem AZX (xs:List (List AV)):JZ Tryz.prog 40 [(0,.int .i64 17),(3,.sl .full 4 xs)]=some (.agg [.int .i64 17,.int .i64 0,.str ⟨#[]⟩,.sl .full 4 xs]):=by kernel_rfl
theorem AZY:JZ Tryz.prog 40 [(0,.int .i64 1),(1,.int .i64 4)]=some (.agg cW):=by kernel_rfl
theorem A14 (h:Hp) (a b:Int):FU Tryz.prog false h 45 2 [(0,.int .i64 a),(1,.int .i64 b)]=some (.sl .full 1 [[.int .i64 a],[.int .i64 b]],h):=by kernel_rfl
theorem A15 (h:Hp) (xs:List (List AV)):FU Tryz.prog false h 25 1 [(0,.sl .full 1 xs)]=some (.sl .full 1 [[.sl .full 1 xs]],h):=by kernel_rfl
theorem A19 (a b c:List (List AV)):JZ Tryz.prog 27 [(0,.sl .full 4 a),(1,.sl .full 4 b),(4,.sl .full 1 c)]=some (.agg [.sl .full 4 a,.sl .full 4 b,.sl .nil 0 [],.sl .nil 0 [],.sl .full 1 c]):=by kernel_rfl
theorem frE (e:Ex):(CW e).all AV.frozen=true:=by rw [MV]; rfl
theorem AX5 {H:Hp} {b:Nat} {row cs:List AV} (hb:H[b]? = some (.live 5 [row])) (hr:row.length=5) (hc:cs.length=5) (hl:cs.all AV.leaf=true):F7 Tryz.prog H 27 (.ptr b 0 0) (.agg cs)=some (H.set b (.live 5 [cs])):=by
 rw [ZO (cs:=cs) (TK hl) (by rw [hc]; exact VL) hb (by rw [hr,hc]; exact jL 5)]
 have:splice row 0 cs=cs:=by unfold splice; rw [zM,qF (by rw [hr,hc]; exact jL 5)]; simp
 rw [this]
section
variable (G:Nat→AV)
theorem AAP (s:ByteArray) (h:Hp):PCall (En G) 33 [.str s] h (.agg (CW (vE s))):=by
 refine PCall.res (r := .agg [.int .i64 2,.int .i64 0,.str s,.sl .nil 0 []]) ?_ (by
  unfold vE
  rw [AHZ]
  exact CvR.agg (CvRL.cons (CvR.refl _) (CvRL.cons (CvR.refl _) (CvRL.cons (CvR.refl _) (CvRL.cons (CvR.sl (Cv.nil 0 4)) CvRL.nil)))))
 refine LU 3 (fun n H=>rfl) ?_
 refine acN Tryz.func33 rfl ?_
 show awp _ _ _ _ _ (EE _ [.cell 2 40] _)
 simp -implicitDefEqProofs only [FB,ES,BC,A8,BK,A7,AZ,BA,AC,AQ,AO,BD,AX,AL,DZ,AA,AY,AU,BG,BH,EZ,FZ,CZ,BZ,AB,CE,BF,↓reduceIte,jB,jA,jC,enP,jJ,AF1,AZW,AX1 h [.int .i64 2,.int .i64 0,.str s,.sl .nil 0 []] [.int .i64 0,.int .i64 0,.str ⟨#[]⟩,.sl .nil 0 []] rfl rfl rfl]
 rw [AJY _ _ _ _ _ _ _ _ _ (show _=AV.ptr h.length 0 0 by simp -implicitDefEqProofs only [AA,↓reduceIte,jB])]
 refine ⟨_,HY MK J4 (C9 _ _) (row := [.int .i64 2,.int .i64 0,.str s,.sl .nil 0 []]) rfl (jL 4),rfl,(ext.rfl' h).app _⟩
theorem AX3 (H:Hp) (e:Ex) (x:ABlk):F7 Tryz.prog (H ++ [.live 4 [z4]] ++ [x]) 40 (.ptr H.length 0 0) (.agg (CW e))=some (H ++ [.live 4 [CW e]] ++ [x]):=by
 rw [ZO (cs:=CW e) (row:=z4) (TK (KU e)) (by rw [EN]; exact J4) (CX (C9 H (ABlk.live 4 [z4]))) (by rw [EN]; exact jL 4),List.set_append_left _ _ (by simp),MS]
 have:splice z4 0 (CW e)=CW e:=by unfold splice; rw [zM,qF (by rw [EN]; exact jL 4)]; simp
 rw [this]
theorem AX2 (H:Hp) (e f:Ex):F7 Tryz.prog (H ++ [ABlk.live 4 [CW e]] ++ [ABlk.live 4 [z4]]) 40 (.ptr (H ++ [ABlk.live 4 [z4]]).length 0 0) (.agg (CW f))=some (H ++ [ABlk.live 4 [CW e]] ++ [ABlk.live 4 [CW f]]):=by
 have:=AGQ (H ++ [ABlk.live 4 [CW e]]) f z4 rfl
 rw [← this]; simp
set_option maxHeartbeats 2000000 in
theorem AGU (h:Hp):PCall (En G) 32 [] h (.agg (D8 pS)):=by
 refine PCall.res (r := .agg wS) ?_ AXV
 refine ACalls.pure (R:=fun v H=>v = .agg wS∧Sm.ext h H) 3 ?_ (fun v h' ⟨e,x⟩=>⟨x,by subst e; rfl⟩)
 refine acN Tryz.func32 rfl ?_
 show awp _ _ _ _ _ (EE _ [.cell 0 27] _)
 simp -implicitDefEqProofs only [BC,A8,A7,AZ,BA,AC,AQ,AO,BD,AX,AL,AU,BO,GV,EZ,BV,BN,BZ,jF,jD,jE,jA,jC,enP,AZ8]
 have g0:=C9 h (ABlk.live 5 [z5])
 have hx:ext h (h ++ [ABlk.live 5 [z5]]):=(ext.rfl' h).app _
 generalize h ++ [ABlk.live 5 [z5]]=H at g0 hx ⊢
 generalize hb:h.length=zb at g0 ⊢
 refine (AAP G nA H).use ?_
 simp -implicitDefEqProofs only [AZ,AC,AQ,AO,BD,AX,AL,AU,BO,GV,BV,BN,jF,jD,jE,jA,jC]
 refine (AAP G nB H).use ?_
 simp -implicitDefEqProofs only [FB,ES,BC,A8,A7,AZ,BA,AC,AQ,AO,BD,AX,AL,DZ,AA,AY,AU,BG,GV,EZ,FZ,CZ,BZ,CE,↓reduceIte,jB,jA,jC,enP,jJ,AZ7,AX3,AX2]
 have g1:=CX (x:=ABlk.live 4 [CW (vE nB)]) (C9 H (ABlk.live 4 [CW (vE nA)]))
 have g2:=C9 (H ++ [ABlk.live 4 [CW (vE nA)]]) (ABlk.live 4 [CW (vE nB)])
 have hl2:(H ++ [ABlk.live 4 [CW (vE nA)]]).length=(H ++ [ABlk.live 4 [z4]]).length:=by simp
 rw [hl2] at g2
 have gz:=CX (x:=ABlk.live 4 [CW (vE nB)]) (CX (x:=ABlk.live 4 [CW (vE nA)]) g0)
 have hx2:=(hx.app [ABlk.live 4 [CW (vE nA)]]).app [ABlk.live 4 [CW (vE nB)]]
 generalize H ++ [ABlk.live 4 [CW (vE nA)]] ++ [ABlk.live 4 [CW (vE nB)]]=H2 at g1 g2 gz hx2 ⊢
 generalize (H ++ [ABlk.live 4 [z4]]).length=b2 at g2 ⊢
 generalize H.length=b1 at g1 ⊢
 have s1:FU Tryz.prog false H2 23 2 [(0,.agg (CW (vE nA))),(1,.agg (CW (vE nB)))]=some (.sl .full 4 [CW (vE nA),CW (vE nB)],H2):=AT1 H2 _ _ (EN _) (EN _) (KU _) (KU _) (frE _) (frE _)
 have s2:FU Tryz.prog false H2 23 2 [(0,.agg (CW (vE nB))),(1,.agg cW)]=some (.sl .full 4 [CW (vE nB),cW],H2):=AT1 H2 _ _ (EN _) rfl (KU _) rfl (frE _) rfl
 have s3:FU Tryz.prog false H2 23 2 [(0,.agg [.int .i64 17,.int .i64 0,.str ⟨#[]⟩,.sl .full 4 [CW (vE nA),CW (vE nB)]]),(1,.agg [.int .i64 17,.int .i64 0,.str ⟨#[]⟩,.sl .full 4 [CW (vE nB),cW]])]=some (.sl .full 4 [[.int .i64 17,.int .i64 0,.str ⟨#[]⟩,.sl .full 4 [CW (vE nA),CW (vE nB)]],[.int .i64 17,.int .i64 0,.str ⟨#[]⟩,.sl .full 4 [CW (vE nB),cW]]],H2):=AT1 H2 _ _ rfl rfl rfl rfl rfl rfl
 have ew:wS = [.sl .full 4 [[.str nA,.int .i64 3,.int .i64 1,.int .i64 0],[.str nB,.int .i64 3,.int .i64 1,.int .i64 0]],.sl .full 4 [[.int .i64 17,.int .i64 0,.str ⟨#[]⟩,.sl .full 4 [CW (vE nA),CW (vE nB)]],[.int .i64 17,.int .i64 0,.str ⟨#[]⟩,.sl .full 4 [CW (vE nB),cW]]],.sl .nil 0 [],.sl .nil 0 [],.sl .full 1 [[.sl .full 1 [[.int .i64 0],[.int .i64 1]]]]]:=by
  have e:CW (lE (vE nA) (vE nB)) = [.int .i64 17,.int .i64 0,.str ⟨#[]⟩,.sl .full 4 [CW (vE nA),CW (vE nB)]]:=AFL _ _ _ _ _ _
  unfold wS w2; rw [e]; rfl
 have hst:F7 Tryz.prog H2 27 (.ptr zb 0 0) (.agg [.sl .full 4 [[.str nA,.int .i64 3,.int .i64 1,.int .i64 0],[.str nB,.int .i64 3,.int .i64 1,.int .i64 0]],.sl .full 4 [[.int .i64 17,.int .i64 0,.str ⟨#[]⟩,.sl .full 4 [CW (vE nA),CW (vE nB)]],[.int .i64 17,.int .i64 0,.str ⟨#[]⟩,.sl .full 4 [CW (vE nB),cW]]],.sl .nil 0 [],.sl .nil 0 [],.sl .full 1 [[.sl .full 1 [[.int .i64 0],[.int .i64 1]]]]])=some (H2.set zb (.live 5 [wS])):=by
  rw [← ew]; exact AX5 gz rfl rfl rfl
 simp -implicitDefEqProofs only [FB,ES,BK,A7,AZ,BA,AC,AQ,AO,BD,AX,AL,DZ,AA,AY,AU,BG,GV,FZ,GM,BP,CZ,BZ,AB,CE,↓reduceIte,jB,jA,jC,enP,jJ,A18,A16,IR g1,IR g2,s1,AZX,AZY,s2,s3,A14,A15,A19,hst]
 rw [AJY _ _ _ _ _ _ _ _ _ (show _=AV.ptr zb 0 0 by simp -implicitDefEqProofs only [AA,↓reduceIte,jB])]
 refine ⟨.agg wS,?_,rfl,hx2.set (by omega) _⟩
 rw [HY WX VL (G7 gz) rfl (jL 5)]; rfl
end
theorem AWP (a b c d:Int):G8 Tryz.prog 34 .eql (.agg [.int .i64 a,.int .i64 b]) (.agg [.int .i64 c,.int .i64 d])=some (.bool ((a == c) && ((b == d) && true))):=by kernel_rfl
theorem ALQ (a b:Rng):G8 Tryz.prog 34 .eql (.agg (encR a)) (.agg (encR b))=some (.bool (a == b)):=by
 rw [← AOZ]; exact AWP _ _ _ _
theorem AU5 (h:Hp) (r s:Rng):FU Tryz.prog false h 29 2 [(0,.agg (encR r)),(1,.agg (encR s))]=some (.sl .full 2 ([r,s].map encR),h):=by kernel_rfl
theorem ARA (op:Int) (a b:Ex):JZ Tryz.prog 40 [(0,.int .i64 op),(3,.sl .full 4 [CW a,CW b])]=some (.agg (CW (.mk op 0 ⟨#[]⟩ .full [a,b]))):=by
 rw [AFL]
 have : ∀ xs:List (List AV),JZ Tryz.prog 40 [(0,.int .i64 op),(3,.sl .full 4 xs)]=some (.agg [.int .i64 op,.int .i64 0,.str ⟨#[]⟩,.sl .full 4 xs]):=fun xs=>by kernel_rfl
 exact this _
section
variable (G:Nat→AV)
theorem AOW (a b:List Rng) (m n:SM) (ha:a.length≤1048576) (h:Hp):PCall (En G) 10 [.sl m 2 (a.map encR),.sl n 2 (b.map encR)] h (.bool (a == b)):=by
 refine acN Tryz.func10 rfl ?_
 show awp _ _ _ _ _ (EE _ [.tmp 4] _)
 simp -implicitDefEqProofs only [BC,A8,BJ,A7,AZ,BA,AC,AQ,AO,BD,AX,AL,AA,AY,AU,BM,BH,BB,BU,E5,AB,FD,BF,BQ,↓reduceIte,jB,jA,jC,enX,enP,ADA,jM]
 refine CV (fun hc => ?_) (fun hc => ?_)
 ·have hc:a.length≠b.length:=by
   intro e; rw [e] at hc; simp at hc
  simp -implicitDefEqProofs only [BC,A8,BK,A7,CJ,CU,AZ,BA,AC,AQ,AO,BD,AX,AL,AA,AU,BM,BB,↓reduceIte,jA,jC]
  refine ⟨?_,trivial⟩
  have:(a == b)=false:=by
   rw [← qP,beq_iff_eq]; exact fun e=>hc (by rw [e])
  rw [this]
 have hc:a.length=b.length:=by
  have:((a.length:Nat):Int)=((b.length:Nat):Int):=by simpa using hc
  omega
 simp -implicitDefEqProofs only [BC,CB,A8,BR,A7,AZ,BA,AC,AQ,AO,BD,AX,AL,AU,BG,BB,jA,jC]
 refine IY 0 (fun F H=>H=h∧a=b) (fun F H=>F 4 = .bool (a == b)∧H=h) ?_ ?_ ?_
 ·refine D7 (fun n' F H => ∃ i,n'+i=a.length∧F 0 = .sl m 2 (a.map encR)∧F 1 = .sl n 2 (b.map encR)∧F 5 = .int .i64 (i:Nat)∧H=h∧∀ j (h1:j < a.length) (h2:j < b.length),j < i→a[j]=b[j]) a.length ⟨0,by simp,by simp -implicitDefEqProofs only [AA,BF,↓reduceIte,jB],by simp -implicitDefEqProofs only [AA,BF,BQ,↓reduceIte,jB],by simp -implicitDefEqProofs only [AA,↓reduceIte]; rfl,rfl,by intro j _ _ h; omega⟩ ?_
  rintro n' F H ⟨i,hi,f0,f1,f5,rfl,he⟩
  simp -implicitDefEqProofs only [BC,A8,BJ,A7,AZ,BA,AC,AQ,AO,BD,AX,AL,AA,AY,BH,BU,E5,AB,DF,↓reduceIte,jB,jA,jC,enP,ADA,f0,f5,jM]
  refine CV (fun hd => ?_) (fun hd => ?_)
  ·have hi':i < a.length:=by simpa using hd
   have hi2:i < b.length:=by omega
   simp -implicitDefEqProofs only [BC,CB,BR,A7]
   refine EX (by kernel_rfl) ?_
   simp -implicitDefEqProofs only [FC,DV,CY,EC,DW,EP,ED,IJ,EQ,BJ,A7,AC,AA,AY,BP,BU,CQ,AB,↓reduceIte,jB,jK,jA,enP,QS,f0,f1,f5,EF hi',EF hi2,EO AF2 TY O8 hi',EO AF2 TY O8 hi2,AUU]
   refine CV (fun hq => ?_) (fun hq => ?_)
   ·have hq:a[i]≠b[i]:=by simpa using hq
    simp -implicitDefEqProofs only [BC,A8,BK,A7,CJ,D5,LW,FV,AZ,BA,AC,AQ,AO,BD,AX,AL,AA,AU,BM,BB,↓reduceIte,jA,jC]
    refine ⟨?_,trivial⟩
    have:(a == b)=false:=by
     rw [← qP,beq_iff_eq]; intro e; subst e; exact hq rfl
    rw [this]
   ·have hq:a[i]=b[i]:=by simpa using hq
    simp -implicitDefEqProofs only [A8,BR,A7,EK,FI,AZ,BA,AC,AQ,AO,BD,AX,AL,AA,AY,AU,BG,BH,BB,BU,AB,DY,↓reduceIte,jB,jA,jC,enP,f5,wrap_succ (show i < 9223372036854775807 by omega)]
    refine ⟨n' - 1,by omega,i+1,by omega,by trivial,by trivial,by trivial,trivial,fun j h1 h2 hj => ?_⟩
    rcases jT j i with q | q
    ·exact he j h1 h2 q
    ·obtain rfl:j=i:=by omega
     exact hq
  ·have hi' : ¬ i < a.length:=by simpa using hd
   simp -implicitDefEqProofs only [D6,EU,MX,FX,↓reduceIte]
   refine ⟨trivial,List.ext_getElem hc fun j h1 h2=>he j h1 h2 (by omega)⟩
 ·rintro F H ⟨rfl,rfl⟩
  simp -implicitDefEqProofs only [BC,A8,BK,A7,FT,CU,AZ,BA,AC,AQ,AO,BD,AX,AL,AA,AU,BM,BB,↓reduceIte,jA,jC]
  exact ⟨by simp,trivial⟩
 ·rintro F H ⟨f4,rfl⟩
  simp -implicitDefEqProofs only [CJ,D5,CU,f4]
  exact ⟨trivial,trivial⟩
theorem AXZ:stL pS = [⟨0,7⟩,⟨0,7⟩]:=by kernel_rfl
theorem AV9:AMW pS [⟨0,7⟩,⟨0,7⟩]=([⟨0,2⟩,⟨1,3⟩],0):=by kernel_rfl
theorem AWN:evP (.mk 7 0 ⟨#[]⟩ .full [vE nA,vE nB]) pS [⟨2,5⟩,⟨10,20⟩]=⟨12,25⟩:=by kernel_rfl
theorem AWM:evP (.mk 8 0 ⟨#[]⟩ .full [vE nA,vE nB]) pS [⟨2,5⟩,⟨10,20⟩]=⟨65518,65531⟩:=by kernel_rfl
theorem AY8:isT (evP (.mk 17 0 ⟨#[]⟩ .full [vE nA,vE nB]) pS [⟨2,5⟩,⟨10,20⟩])=true:=by kernel_rfl
theorem ABF:PrS pS:=by
 refine ⟨by show 2≤1048576; omega,?_,by show 2+0≤1048576; omega,?_,by show 0≤1048576; omega,fun d hd=>(by cases hd),by show 1≤1048576; omega,by show 2≤1048576; omega⟩
 ·intro v hv
  have hv:v∈[vA,vB]:=hv
  simp only [qI,List.not_mem_nil,or_false] at hv
  rcases hv with rfl | rfl <;> (show 1≤1048576; omega)
 ·intro e he
  have he:e∈[lE (vE nA) (vE nB),lE (vE nB) kE4]:=he
  simp only [qI,List.not_mem_nil,or_false] at he
  rcases he with rfl | rfl
  ·exact jH (by kernel_rfl)
  ·exact jH (by kernel_rfl)
theorem AN9 (op:Int):wt (.mk op 0 ⟨#[]⟩ .full [vE nA,vE nB])≤1048576:=jH (by kernel_rfl)
set_option maxHeartbeats 2000000 in
theorem JY (hG:GOk G) (h:Hp):PCall (En G) 13 [] h (.bool true):=by
 refine ACalls.pure0 rfl ?_
 refine acN Tryz.func13 rfl ?_
 show awp _ _ _ _ _ (EE _ [.tmp 0] _)
 simp -implicitDefEqProofs only [BC,A8,A7,AZ,BA,AC,AQ,AO,BD,AX,AL,AU,BO,BM,BB,BV,BN,jD,jE,jA,jC,enP]
 refine (AGU G h).use ?_
 have s0:F7 Tryz.prog (h ++ [ABlk.live 5 [z5]]) 27 (.ptr h.length 0 0) (.agg (D8 pS))=some (h ++ [ABlk.live 5 [D8 pS]]):=by
  rw [AX5 (C9 h (ABlk.live 5 [z5])) rfl (GZ _) (by kernel_rfl),MS]
 simp -implicitDefEqProofs only [FB,ES,BC,A8,A7,AZ,BA,AC,AQ,AO,BD,AX,AL,DZ,AA,AY,AU,BO,BG,GV,BB,EZ,FZ,GM,CZ,BV,BN,BZ,AB,CE,jF,jD,jE,↓reduceIte,jB,jA,jC,enP,jJ,AZ8,s0,PW,AU5]
 have g1:=C9 h (ABlk.live 5 [D8 pS])
 have hx:ext h (h ++ [ABlk.live 5 [D8 pS]]):=(ext.rfl' h).app _
 generalize h ++ [ABlk.live 5 [D8 pS]]=H at g1 hx ⊢
 generalize h.length=b1 at g1 ⊢
 have lp:DL Tryz.prog H 27 (.ptr b1 0 0)=some (.agg (D8 pS)):=by rw [HY WX VL g1 (row:=D8 pS) rfl (by rw [GZ]; exact jL 5)]; rfl
 have bsE:FU Tryz.prog false H 23 2 [(0,.agg (CW (vE nA))),(1,.agg (CW (vE nB)))]=some (.sl .full 4 [CW (vE nA),CW (vE nB)],H):=AT1 H _ _ (EN _) (EN _) (KU _) (KU _) (frE _) (frE _)
 refine (AAP G nA H).use ?_
 simp -implicitDefEqProofs only [AZ,AC,AQ,AO,BD,AX,AL,AU,BO,GV,BV,BN,jF,jD,jE,jA,jC]
 refine (AAP G nB H).use ?_
 simp -implicitDefEqProofs only [FB,ES,BC,A7,AZ,BA,AC,AQ,AO,BD,AX,AL,AA,AY,BB,GM,BZ,↓reduceIte,jB,jA,jC,enP,bsE]
 refine EX (by kernel_rfl) ?_
 simp -implicitDefEqProofs only [FC,DV,CY,DW,EP,ED,OD,EW,EJ,AC,AA,AY,BO,BP,GH,AB,jF,jD,jE,↓reduceIte,jB,jK,jA,enP,lp]
 have hst:=AI2 G hG pS ABF H
 rw [AXZ] at hst
 refine ⟨_,hst,?_⟩
 try simp -implicitDefEqProofs only [jF,jD]
 have hnar:=Z7 G hG pS ABF [⟨0,7⟩,⟨0,7⟩] (nm [(⟨0,7⟩:Rng),⟨0,7⟩]) (by decide) H
 rw [AV9] at hnar
 refine ⟨_,hnar,?_⟩
 simp -implicitDefEqProofs only [FC,jZ,zC,FB,ES,DV,CY,EC,DW,G9,OD,BC,A8,A7,AZ,AC,AQ,AO,BD,AX,AL,AA,AY,AU,BO,BG,BH,FZ,BP,GH,IW,BV,BN,AB,jF,jD,jE,↓reduceIte,jB,jK,jA,jC,enP,ARA,lp]
 have e1:=OY G hG (.mk 7 0 ⟨#[]⟩ .full [vE nA,vE nB]) (AN9 7) pS ABF [⟨2,5⟩,⟨10,20⟩] .full (by decide) H
 rw [AWN] at e1
 refine e1.use ?_
 have q1:((⟨12,25⟩:Rng) == ⟨12,25⟩)=true:=by decide
 simp -implicitDefEqProofs only [FB,ES,AZ,BL,BX,CG,F8,AC,AQ,AO,BD,AX,AL,AA,AY,AU,BO,BG,BH,FZ,BP,BU,BV,BN,AB,jF,jD,jE,↓reduceIte,jB,jA,jC,enP,PW,ALQ,q1,ARA,lp]
 have e2:=OY G hG (.mk 8 0 ⟨#[]⟩ .full [vE nA,vE nB]) (AN9 8) pS ABF [⟨2,5⟩,⟨10,20⟩] .full (by decide) H
 rw [AWM] at e2
 refine e2.use ?_
 have q2:((⟨65518,65531⟩:Rng) == ⟨65518,65531⟩)=true:=by decide
 simp -implicitDefEqProofs only [FB,ES,AZ,BL,BX,CG,F8,AC,AQ,AO,BD,AX,AL,AA,AY,AU,BO,BG,BM,BH,CO,DK,FZ,BP,BU,BV,BN,AB,jF,jD,jE,↓reduceIte,jB,jA,jC,enP,PW,ALQ,q2,ARA,lp]
 have e3:=Z9 G hG (.mk 17 0 ⟨#[]⟩ .full [vE nA,vE nB]) (AN9 17) pS ABF [⟨2,5⟩,⟨10,20⟩] .full (by decide) H
 rw [AY8] at e3
 refine e3.use ?_
 simp -implicitDefEqProofs only [FB,ES,AZ,BL,BX,CG,F8,AC,AQ,AO,BD,AX,AL,AA,AY,AU,BO,BG,BM,BH,CO,DK,FZ,GM,BV,BN,BZ,AB,jF,jD,jE,↓reduceIte,jB,jA,jC,enP,PW,ARB,AU5]
 have e4:=AOW G [⟨0,2⟩,⟨1,3⟩] [⟨0,2⟩,⟨1,3⟩] (AS2 pS [⟨0,7⟩,⟨0,7⟩]) .full (by decide) H
 have q4:(([⟨0,2⟩,⟨1,3⟩]:List Rng) == [⟨0,2⟩,⟨1,3⟩])=true:=by decide
 rw [q4] at e4
 refine e4.use ?_
 simp -implicitDefEqProofs only [BK,A7,CU,AZ,BA,BL,BX,CG,F8,AC,AQ,AO,BD,AX,AL,AA,AY,AU,BG,BM,BH,BB,CO,DK,BU,AB,DJ,↓reduceIte,jB,jA,jC,enP]
 exact ⟨by trivial,hx⟩
end
section
variable (G:Nat→AV)
set_option maxHeartbeats 1000000 in
theorem AHQ (p:Pr) (_hs:PrS p) (l:List Rng) (m:SM) (hl:l.length≤1048576) (h:Hp):PCall (En G) 17 [.agg (D8 p),.sl m 2 (l.map encR)] h (.bool (TF p.vars l)):=by
 refine ACalls.pure0 rfl ?_
 refine acN Tryz.func17 rfl ?_
 show awp _ _ _ _ _ (EE _ [.tmp 4] _)
 have ge:=C9 h (ABlk.live 5 [D8 p])
 have hx:ext h (h ++ [ABlk.live 5 [D8 p]]):=(ext.rfl' h).app _
 simp -implicitDefEqProofs only [BC,A8,A7,AZ,BA,AC,AQ,AO,BD,AX,AL,AA,AY,AU,BM,BH,BB,FN,BP,BI,E5,BZ,AB,BF,BQ,↓reduceIte,jB,jI,jA,jC,enP,KZ,ADA,VS]
 generalize h ++ [ABlk.live 5 [D8 p]]=H at ge hx ⊢
 generalize h.length=eb at ge ⊢
 have l0:DL Tryz.prog H 22 (.ptr eb 0 0)=some (.sl p.vm 4 (p.vars.map FM)):=by rw [DC UW ge (row:=D8 p) rfl]; rfl
 simp -implicitDefEqProofs only [BJ,A7,AZ,BA,AC,AQ,AO,BD,AX,AL,AA,AY,BU,E5,AB,FD,↓reduceIte,jB,jA,jC,enP,QR,l0,jM]
 refine CV (fun hc => ?_) (fun hc => ?_)
 ·have hc:l.length≠p.vars.length:=by
   intro e; rw [e] at hc; simp at hc
  simp -implicitDefEqProofs only [BC,A8,BK,A7,CJ,CU,AZ,BA,AC,AQ,AO,BD,AX,AL,AA,AU,BM,BB,↓reduceIte,jA,jC]
  refine ⟨?_,hx⟩
  have:TF p.vars l=false:=by
   rw [← qP,MH]; exact fun q=>hc q.2
  rw [this]
 have hlen:l.length=p.vars.length:=by
  have:((l.length:Nat):Int)=((p.vars.length:Nat):Int):=by simpa using hc
  omega
 simp -implicitDefEqProofs only [BC,CB,A8,BR,A7,AZ,BA,AC,AQ,AO,BD,AX,AL,AU,BG,BB,jA,jC]
 refine IY 0 (fun F H'=>H'=H∧∀ r∈l,wfR r) (fun F H'=>F 4 = .bool (TF p.vars l)∧H'=H) ?_ ?_ ?_
 ·refine D7 (fun n F H' => ∃ i,n+i=l.length∧F 1 = .sl m 2 (l.map encR)∧F 5 = .int .i64 (i:Nat)∧H'=H∧∀ r∈l.take i,wfR r) l.length ⟨0,by simp,by simp -implicitDefEqProofs only [AA,BF,BQ,↓reduceIte,jB],by simp -implicitDefEqProofs only [AA,↓reduceIte]; rfl,rfl,by simp⟩ ?_
  rintro n F H' ⟨i,hi,f1,f5,rfl,hw⟩
  simp -implicitDefEqProofs only [BC,A8,BJ,A7,AZ,BA,AC,AQ,AO,BD,AX,AL,AA,AY,BH,BU,E5,AB,DF,↓reduceIte,jB,jA,jC,enP,ADA,f1,f5,jM]
  refine CV (fun hd => ?_) (fun hd => ?_)
  ·have hi':i < l.length:=by simpa using hd
   have d0:DL Tryz.prog H' 3 (.fptr 2 (l.map encR) i 0)=some (.int .i64 l[i].lo):=by rw [GG ag3 hi']; rfl
   have d1:DL Tryz.prog H' 3 (.fptr 2 (l.map encR) i 1)=some (.int .i64 l[i].hi):=by rw [GG ag3 hi']; rfl
   have bad : ∀ q:(decide (l[i].lo < 0) || (decide (l[i].lo > l[i].hi) || decide (l[i].hi > 65535)))=true,TF p.vars l=false:=fun q=>by
    rw [← qP]
    exact fun h=>nwf q ((MH.1 h).1 _ (jQ hi'))
   simp -implicitDefEqProofs only [BC,CB,BR,A7]
   refine EX (by kernel_rfl) ?_
   simp -implicitDefEqProofs only [FC,DV,CY,DW,D9,ET,EP,ED,IJ,DN,EQ,CG,AC,AA,AY,AU,BG,BP,BU,BI,CQ,AB,DF,↓reduceIte,jB,jK,jI,jA,enP,QS,GI,f1,f5,EF hi',d0]
   refine PH (fun h1 => ?_) (fun h1 => ?_)
   ·simp -implicitDefEqProofs only [FC,DV,CY,EC,DW,D9,ET,PI,EP,F6,BC,A8,BK,BJ,A7,CJ,D5,LW,FV,DR,AZ,BA,CG,AC,AQ,AO,BD,AX,AL,AA,EG,AY,AU,BM,BB,CO,DK,↓reduceIte,jB,jK,jA,jC,h1]
    exact ⟨by rw [bad (by rw [h1]; rfl)],trivial⟩
   simp -implicitDefEqProofs only [FC,DV,CY,DW,D9,ET,OB,EP,F6,ED,IJ,DN,EQ,CG,AC,AA,AY,AU,BM,CO,DU,BP,BU,BI,CQ,AB,EY,↓reduceIte,jB,jK,jI,jG,jA,enP,QS,GI,GR,h1,f1,f5,EF hi',d0,d1]
   refine PH (fun h2 => ?_) (fun h2 => ?_)
   ·simp -implicitDefEqProofs only [FC,DV,CY,EC,DW,D9,ET,PI,F6,BC,A8,BK,BJ,A7,CJ,D5,LW,FV,DR,AZ,BA,CG,AC,AQ,AO,BD,AX,AL,AA,EG,AY,AU,BM,BB,CO,DK,↓reduceIte,jB,jK,jA,jC,h1,h2]
    exact ⟨by rw [bad (by rw [h2]; simp)],trivial⟩
   simp -implicitDefEqProofs only [FC,DV,CY,EC,DW,D9,ET,OB,EP,F6,ED,IJ,DN,EQ,BJ,A7,CG,AC,AA,AY,AU,BG,BM,CO,DU,BP,BU,BI,CQ,AB,EY,↓reduceIte,jB,jK,jG,jA,enP,QS,GR,h1,h2,f1,f5,EF hi',d0,d1]
   refine CV (fun h3 => ?_) (fun h3 => ?_)
   ·simp -implicitDefEqProofs only [BC,A8,BK,A7,CJ,D5,LW,FV,AZ,BA,AC,AQ,AO,BD,AX,AL,AA,AU,BM,BB,↓reduceIte,jA,jC]
    exact ⟨by rw [bad (by rw [h3]; simp)],trivial⟩
   ·simp -implicitDefEqProofs only [A8,BR,A7,EK,FI,AZ,BA,AC,AQ,AO,BD,AX,AL,AA,AY,AU,BG,BH,BB,BU,AB,DY,↓reduceIte,jB,jA,jC,enP,f5,wrap_succ (show i < 9223372036854775807 by omega)]
    refine ⟨n - 1,by omega,i+1,by omega,by trivial,by trivial,trivial,fun r hr => ?_⟩
    rw [zT hi'] at hr
    rcases zZ.1 hr with hr | hr
    ·exact hw r hr
    ·rw [List.mem_singleton] at hr
     subst hr
     simp at h1 h2 h3
     exact ⟨by omega,by omega,by omega⟩
  ·have hi' : ¬ i < l.length:=by simpa using hd
   rw [jX (by omega)] at hw
   simp -implicitDefEqProofs only [D6,EU,MX,FX,↓reduceIte]
   exact ⟨trivial,hw⟩
 ·rintro F H' ⟨rfl,hw⟩
  simp -implicitDefEqProofs only [BC,A8,BK,A7,FT,CU,AZ,BA,AC,AQ,AO,BD,AX,AL,AA,AU,BM,BB,↓reduceIte,jA,jC]
  exact ⟨by rw [MH.2 ⟨hw,hlen⟩],hx⟩
 ·rintro F H' ⟨f4,rfl⟩
  simp -implicitDefEqProofs only [CJ,D5,CU,f4]
  exact ⟨trivial,hx⟩
end
end Go.Proofs.YtokehnfjjmpanaaGreatDoor.Bd
