/- Part 12 of the proof (Wg, Wh, Wi, Wj, Wk, Wl, Wm, Wn); no condition. -/
import Derived.Test.YtokehnfjjmpanaaGreatDoorYA11
set_option linter.unusedVariables false
set_option linter.unusedSimpArgs false
set_option maxRecDepth 8000
namespace Go.Proofs.YtokehnfjjmpanaaGreatDoor.Bd
open Sm Bins Cov Xe Wd Go.RowKit
open Bool renaming not_false→jC,not_true→jX,or_false→jO
open Int renaming toNat_natCast→zM
open List renaming mem_append→zX,getElem?_set_ne→zJ,length_map→jM,getElem_mem→jS,drop_eq_getElem_cons→qH,map_cons→jF,map_nil→jD,append_nil→jE,drop_eq_nil_of_le→zZ,any_eq_true→qP,take_succ_eq_append_getElem→zY,take_of_length_le→jY,getElem?_cons_zero→zG,getElem?_cons_succ→zK,nil_append→zA,contains_cons→jP,contains_nil→jQ,take_zero→zF,mem_cons→zV
open Nat renaming le_of_ble_eq_true→jH,le_refl→jL,zero_add→jG,reduceEqDiff→jA,reduceAdd→jK,add_zero→jI,lt_or_ge→jT,reduceBEq→jR
open Option renaming getD_some→jB,getD_none→jJ
structure GoodP (p:Pr):Prop where
 hard : ∀ e∈p.hard,EOk e
 var : ∀ d∈p.dists,LC p.vars d.var=true
 ws : ∀ d∈p.dists,∀ w∈d.ws,UD w=false
theorem AQX {p:Pr} (hs:PrS p) (h:LJ p=0):GoodP p:=by
 obtain ⟨_,h2,h3,_⟩:=WG h
 have hd : ∀ d∈p.dists,∃ ds,dsE p.vars ds d=0:=by
  intro d hd
  obtain ⟨j,hj,rfl⟩:=List.getElem_of_mem hd
  have:=OV h3 j (by simpa using hj)
  rw [ZZ hj] at this
  exact ⟨_,this⟩
 refine ⟨fun e he => ?_,fun d hx => ?_,fun d hx w hw => ?_⟩
 ·have hm:e∈p.hard ++ p.soft:=zX.2 (.inl he)
  have:=OV h2 e hm
  unfold xpE at this
  by_cases q:exE e≠0
  ·rw [if_pos q] at this; exact absurd this q
  ·exact ⟨hs.wts e hm,ABJ (by simpa using q)⟩
 ·obtain ⟨ds,h⟩:=hd d hx
  unfold dsE at h
  cases hr:LC p.vars d.var
  ·rw [hr] at h; simp at h
  ·rfl
 ·obtain ⟨ds,h⟩:=hd d hx
  unfold dsE at h
  by_cases h1:LC p.vars d.var=true
  ·rw [if_pos h1] at h
   by_cases h2:ds.any (fun x=>x.var == d.var)=true
   ·rw [if_pos h2] at h; cases h
   ·rw [if_neg h2] at h
    by_cases h3:d.ws.length > 16
    ·rw [if_pos h3] at h; cases h
    ·rw [if_neg h3] at h
     by_cases h4:d.ws.any UD=true
     ·rw [if_pos h4] at h; cases h
     ·have:=List.any_eq_false.1 (by simpa using h4) w hw
      simpa using this
  ·rw [if_neg h1] at h; cases h
theorem Nw.flag {h:Hp} {nb lb:Nat} {vars:List Vr} {s:NS} (n:Nw h nb lb vars s) (c:Bool) : ∃ h',FT Tryz.prog h 4 (.ptr nb 0 2) (.bool c)=some h'∧Nw h' nb lb vars (s.1,c)∧Kp nb lb h h':=by
 obtain ⟨mb,L,ents,h1,h2,h3,h4,h5,h6⟩:=n.ex
 have hst:FT Tryz.prog h 4 (.ptr nb 0 2) (.bool c)=some (h.set nb (.live 3 [[.mp mb,L,.bool c]])):=by
  rw [JA (cs := [.bool c]) rfl sz4 h1 rfl (by simp)]; rfl
 refine ⟨_,hst,⟨⟨mb,L,ents,G5 h1,by rw [zJ (Ne.symm h5)]; exact h2,h3,?_,h5,h6⟩,n.ne,by rw [List.length_set]; exact n.lbl,n.len,n.wf⟩,(Kp.rfl' nb lb h).setN _⟩
 rcases h4 with h4 | ⟨e,hb,hn⟩
 ·exact .inl h4
 ·exact .inr ⟨e,by rw [zJ n.ne]; exact hb,hn⟩
theorem Nw.ldF {h:Hp} {nb lb:Nat} {vars:List Vr} {s:NS} (n:Nw h nb lb vars s):DI Tryz.prog h 4 (.ptr nb 0 2)=some (.bool s.2):=by
 obtain ⟨mb,L,ents,h1,_⟩:=n.ex
 rw [DC ag4 h1 rfl]; rfl
theorem Nw.of {h:Hp} {nb lb:Nat} {vars:List Vr} {s:NS} {c:Bool} (n:Nw h nb lb vars s) (e:s.2=c):Nw h nb lb vars (s.1,c):=by subst e; exact n
section
variable (G:Nat→AV)
set_option maxHeartbeats 4000000 in
theorem ALK (nb lb:Nat) (base:Hp) (Bad:Prop) (p:Pr) (hs:PrS p) (hg:GoodP p) (l:List Rng) (h:Hp) (hk:Kp nb lb base h) (n:Nw h nb lb p.vars (l,false)) (hbad:P8 p l=none→Bad) :
  ACalls ((En G).wx (X0 nb lb base Bad)) 38 [.ptr nb 0 0,.agg (DX p)] h (NP nb lb p.vars h (P8 p l)):=by
 generalize hT:P8 p l=TOT at hbad ⊢
 have hlen:=n.len
 have hwf0:=n.wf
 refine IY (H:=Hint.none) (enM G) Tryz.func38 rfl (by kernel_rfl) (by kernel_rfl) (jH (by kernel_rfl)) ?_
 show awp _ _ _ _ _ (EH _ [] _)
 have g3:=C9 h (ABlk.live 5 [DX p])
 have n1:=n.ext ((ext.rfl' h).app [ABlk.live 5 [DX p]])
 have k1:=(Kp.rfl' nb lb h).app (ABlk.live 5 [DX p])
 have o3:=n.lt (jL h.length)
 simp -implicitDefEqProofs only [BB,A8,A7,AZ,BA,AC,AQ,AO,BD,AX,AL,AA,AY,FN,BN,BG,wxP,BV,AB,BF,CE,↓reduceIte,jG,jB,jC,enP,ACP,UC]
 generalize h ++ [ABlk.live 5 [DX p]]=H0 at g3 n1 k1 ⊢
 generalize h.length=b3 at g3 o3 ⊢
 have ld24:DI Tryz.prog H0 24 (.ptr b3 0 3)=some (.sl p.dm 2 (p.dists.map IQ)):=by rw [DC AQC g3 (row:=DX p) rfl]; rfl
 have hkH:=hk.trans k1
 simp -implicitDefEqProofs only [CJ,A7,AZ,BA,AC,AQ,AO,BD,AX,AL,AA,AY,AU,BH,BI,FH,wxP,AB,↓reduceIte,jB,jC,enP,AO3,ld24,jM]
 -- the distributions
 refine JC 0 (fun F H => ∃ s,NU p.vars p.hard (wid s.1+1) (s.1,true)=TOT∧s.1.length=p.vars.length∧Nw H nb lb p.vars s∧Kp nb lb H0 H∧F 0 = .ptr nb 0 0∧F 3 = .ptr b3 0 0) (fun _ _=>False) ?_ ?_ (fun _ _ q=>q.elim)
 ·refine D8 (fun m F H => ∃ i s,m+i=p.dists.length∧(WV (p.dists.drop i) s).bind (fun s=>NU p.vars p.hard (wid s.1+1) (s.1,true))=TOT∧s.1.length=p.vars.length∧Nw H nb lb p.vars s∧Kp nb lb H0 H∧F 0 = .ptr nb 0 0∧F 3 = .ptr b3 0 0∧F 11 = .sl p.dm 2 (p.dists.map IQ)∧F 12 = .int .i64 (p.dists.length:Nat)∧F 13 = .int .i64 (i:Nat)) p.dists.length
   ⟨0,(l,false),by simp,by rw [List.drop_zero,← hT]; rfl,hlen,n1,Kp.rfl' _ _ _,by simp -implicitDefEqProofs only [AA,BF,↓reduceIte,jA],by simp -implicitDefEqProofs only [AA,↓reduceIte,jA],by simp -implicitDefEqProofs only [AA,↓reduceIte,jA],by simp -implicitDefEqProofs only [AA,↓reduceIte,jA],by simp -implicitDefEqProofs only [AA,↓reduceIte]; rfl⟩ ?_
  rintro m F H ⟨i,s,hi,hS,hsl,nH,kH,f0,f3,f11,f12,f13⟩
  simp -implicitDefEqProofs only [BB,A8,BJ,A7,AZ,BA,AC,AQ,AO,BD,AX,AL,AA,AY,BR,wxP,AB,DF,↓reduceIte,jB,jC,enP,f12,f13]
  refine CS (fun hc => ?_) (fun hc => ?_)
  ·have hi':i < p.dists.length:=by simpa using hc
   have hmem:=jS hi'
   rw [qH hi'] at hS
   have hS:((UQ s p.dists[i]).bind (WV (p.dists.drop (i+1)))).bind _=TOT:=hS
   have kA:=kH.app (ABlk.live 2 [IQ p.dists[i]])
   have nA:=nH.ext ((ext.rfl' H).app [ABlk.live 2 [IQ p.dists[i]]])
   have gA:=C9 H (ABlk.live 2 [IQ p.dists[i]])
   have lA:DI Tryz.prog (H ++ [ABlk.live 2 [IQ p.dists[i]]]) 52 (.ptr H.length 0 0)=some (.agg (IQ p.dists[i])):=by rw [GV AQB AF9 gA (row:=IQ p.dists[i]) rfl (jL 2)]; rfl
   simp -implicitDefEqProofs only [BB,CJ,A8,BQ,A7,AZ,BA,AC,AQ,AO,BD,AX,AL,DV,AA,AY,BO,BI,EX,BN,CY,CU,BX,BP,wxP,BV,AB,BZ,jF,jD,jE,↓reduceIte,jA,jB,jC,enP,AAX,jJ,f11,f13,EJ hi',EM AQB AF9 V5 hi',AU8,ATD,f0,lA]
   have hb:UQ s p.dists[i]=none→Bad:=fun q=>hbad (by rw [q] at hS; exact hS.symm)
   refine ACalls.mono (AK3 G nb lb base Bad p.vars s p.dists[i] (hg.var _ hmem) (hg.ws _ hmem) (hs.ws _ hmem) _ (hkH.trans kA) nA hb) ?_
   rintro v H' ⟨s',e',n',k'⟩
   rw [e'] at hS
   have hS:(WV (p.dists.drop (i+1)) s').bind _=TOT:=hS
   simp -implicitDefEqProofs only [A8,A7,EO,FK,AZ,BA,AC,AQ,AO,BD,AX,AL,AA,AY,AU,BH,BI,BR,wxP,AB,DZ,↓reduceIte,jA,jB,jC,enP,f13,wrap_succ (show i < 9223372036854775807 by have:=hs.dists; omega)]
   exact ⟨m - 1,by omega,i+1,s',by omega,hS,n'.len,n',kA.trans k',by trivial,by trivial,by trivial,by trivial,by trivial⟩
  ·have hi' : ¬ i < p.dists.length:=by simpa using hc
   rw [zZ (by omega)] at hS
   have hS:NU p.vars p.hard (wid s.1+1) (s.1,true)=TOT:=hS
   simp -implicitDefEqProofs only [D6,E5,N8,GG,AA,↓reduceIte,jA]
   exact ⟨s,hS,hsl,nH,kH,f0,f3⟩
 rintro F H ⟨s,hS,hsl,nH,kH,f0,f3⟩
 obtain ⟨H1,hst,nF,kF⟩:=nH.flag true
 simp -implicitDefEqProofs only [BB,CJ,A8,A7,FY,AZ,BA,AC,AQ,AO,BD,AX,AL,DV,AA,AY,AU,BM,BI,CY,BG,wxP,AB,BZ,↓reduceIte,jG,jB,jC,enP,ACO,jJ,EK,EY,f0,hst]
 -- the rounds
 refine JC 2 (fun F H => ∃ s,TOT=some s∧Nw H nb lb p.vars s∧Kp nb lb H0 H) (fun _ _=>False) ?_ ?_ (fun _ _ q=>q.elim)
 ·refine D8 (fun m F H => ∃ s,NU p.vars p.hard m s=TOT∧(s.2=true→wid s.1 < m)∧s.1.length=p.vars.length∧Nw H nb lb p.vars s∧Kp nb lb H0 H∧F 0 = .ptr nb 0 0∧F 3 = .ptr b3 0 0) (wid s.1+1)
   ⟨(s.1,true),hS,fun _=>by show wid s.1 < wid s.1+1; omega,hsl,nF,kH.trans kF,by first | exact f0 | (simp -implicitDefEqProofs only [f0]),by first | exact f3 | (simp -implicitDefEqProofs only [f3])⟩ ?_
  clear hS hsl nH kH f0 f3 hst nF kF
  rintro m F H ⟨s,hS,hm,hsl,nH,kH,f0,f3⟩
  simp -implicitDefEqProofs only [BB,A8,BJ,A7,AZ,BA,AC,AQ,AO,BD,AX,AL,AA,AY,BI,BN,BG,wxP,AB,↓reduceIte,jG,jB,jC,enP,ACO,EK,EY,f0,nH.ldF]
  refine CS (fun hc => ?_) (fun hc => ?_)
  ·have hc:s.2=true:=hc
   obtain ⟨m,rfl⟩ : ∃ k,m=k+1:=⟨m - 1,by have:=hm hc; omega⟩
   have hm:=hm hc
   have hS:(QI p.vars p.hard s).bind (NU p.vars p.hard m)=TOT:=by
    have e:NU p.vars p.hard (m+1) s=if s.2=true then (QI p.vars p.hard s).bind (NU p.vars p.hard m) else some s:=rfl
    rw [e,if_pos hc] at hS; exact hS
   obtain ⟨H1,hst,nF,kF⟩:=nH.flag false
   have g3A:=(kH.trans kF).1 _ _ g3 o3.1 o3.2
   have l1:DI Tryz.prog H1 23 (.ptr b3 0 1)=some (.sl p.hm 4 (p.hard.map CV)):=by rw [DC QP g3A (row:=DX p) rfl]; rfl
   simp -implicitDefEqProofs only [BB,CJ,A8,BQ,A7,AZ,BA,AC,AQ,AO,BD,AX,AL,DV,AA,AY,AU,BH,BM,BI,BN,CY,BG,FH,wxP,AB,BZ,↓reduceIte,jA,jG,jB,jC,enP,TZ,ACQ,ACO,jJ,EK,EY,f0,f3,hst,l1,jM]
   have hhl:p.hard.length≤1048576:=by have:=hs.exprs; omega
   refine JC 4 (fun F H => ∃ t,U2 p.vars p.hard (s.1,false)=some t∧Nw H nb lb p.vars t∧Kp nb lb H0 H∧F 0 = .ptr nb 0 0∧F 3 = .ptr b3 0 0) (fun _ _=>False) ?_ ?_ (fun _ _ q=>q.elim)
   ·refine D8 (fun q F H => ∃ i t,q+i=p.hard.length∧U2 p.vars p.hard (s.1,false)=U2 p.vars (p.hard.drop i) t∧Nw H nb lb p.vars t∧Kp nb lb H0 H∧F 0 = .ptr nb 0 0∧F 3 = .ptr b3 0 0∧F 32 = .sl p.hm 4 (p.hard.map CV)∧F 33 = .int .i64 (p.hard.length:Nat)∧F 34 = .int .i64 (i:Nat)) p.hard.length
     ⟨0,(s.1,false),by simp,rfl,nF,kH.trans kF,by simp -implicitDefEqProofs only [AA,↓reduceIte,jA,f0],by simp -implicitDefEqProofs only [AA,↓reduceIte,jA,f3],by simp -implicitDefEqProofs only [AA,↓reduceIte,jA],by simp -implicitDefEqProofs only [AA,↓reduceIte,jA],by simp -implicitDefEqProofs only [AA,↓reduceIte]; rfl⟩ ?_
    clear f0 f3
    rintro q F H ⟨i,t,hq,hN,nt,kt,f0,f3,f32,f33,f34⟩
    simp -implicitDefEqProofs only [BB,A8,BJ,A7,AZ,BA,AC,AQ,AO,BD,AX,AL,AA,AY,BR,wxP,AB,DF,↓reduceIte,jB,jC,enP,f33,f34]
    refine CS (fun hc => ?_) (fun hc => ?_)
    ·have hi':i < p.hard.length:=by simpa using hc
     have hmem:=jS hi'
     rw [qH hi'] at hN
     have hN:U2 p.vars p.hard (s.1,false)=(SK p.vars p.hard[i] t).bind (U2 p.vars (p.hard.drop (i+1))):=hN
     have kA:=kt.app (ABlk.live 4 [CV p.hard[i]])
     have nA:=nt.ext ((ext.rfl' H).app [ABlk.live 4 [CV p.hard[i]]])
     simp -implicitDefEqProofs only [BB,CJ,A8,BQ,A7,AZ,BA,AC,AQ,AO,BD,AX,AL,DV,AA,AY,BO,BI,EX,BN,CY,CU,BX,BP,wxP,BV,AB,BZ,jF,jD,jE,↓reduceIte,jA,jB,jC,enP,QC,jJ,f32,f34,EJ hi',EM MC JU ER hi',AFU,AGA _ _ [.int .i64 0,.int .i64 0,.str ⟨#[]⟩,.sl .nil 0 []] rfl,f0,ldE]
     have hb:SK p.vars p.hard[i] t=none→Bad:=fun q=>hbad (by
      rw [q] at hN
      have:QI p.vars p.hard s=none:=by unfold QI; rw [hN]; rfl
      rw [this] at hS; exact hS.symm)
     refine ACalls.mono (AEE G nb lb base Bad p.vars p.hard[i] (hg.hard _ hmem) t _ (hkH.trans kA) nA hb) ?_
     rintro v H' ⟨t',e',n',k'⟩
     rw [e'] at hN
     simp -implicitDefEqProofs only [A8,A7,EO,FK,AZ,BA,AC,AQ,AO,BD,AX,AL,AA,AY,AU,BH,BI,BR,wxP,AB,DZ,↓reduceIte,jA,jB,jC,enP,f34,wrap_succ (show i < 9223372036854775807 by omega)]
     exact ⟨q - 1,by omega,i+1,t',by omega,hN,n',kA.trans k',by trivial,by trivial,by trivial,by trivial,by trivial⟩
    ·have hi' : ¬ i < p.hard.length:=by simpa using hc
     rw [zZ (by omega)] at hN
     simp -implicitDefEqProofs only [D6,E5,N8,GG,AA,↓reduceIte,jA]
     exact ⟨t,hN,nt,kt,f0,f3⟩
   clear f0 f3 hst nF kF l1 g3A
   rintro F H ⟨t,hN,nt,kt,f0,f3⟩
   have hR:QI p.vars p.hard s=if AKJ p.vars p.hard t.1=true then none else some t:=by unfold QI; rw [hN]; rfl
   have hste:=Y8 p.vars p.hard (s.1,false) t hsl hN
   have g3A:=kt.1 _ _ g3 o3.1 o3.2
   have l1:DI Tryz.prog H 23 (.ptr b3 0 1)=some (.sl p.hm 4 (p.hard.map CV)):=by rw [DC QP g3A (row:=DX p) rfl]; rfl
   simp -implicitDefEqProofs only [BB,CJ,A8,A7,FY,AZ,BA,AC,AQ,AO,BD,AX,AL,AA,AY,AU,BH,BI,BN,BG,FH,wxP,AB,↓reduceIte,jG,jB,jC,enP,TZ,ACQ,f3,l1,jM]
   refine JC 6 (fun F H=>(∀ e∈p.hard,isF (evS p.vars t.1 e)=false)∧Nw H nb lb p.vars t∧Kp nb lb H0 H∧F 0 = .ptr nb 0 0∧F 3 = .ptr b3 0 0) (fun _ _=>False) ?_ ?_ (fun _ _ q=>q.elim)
   ·refine D8 (fun q F H => ∃ i,q+i=p.hard.length∧(∀ e∈p.hard.take i,isF (evS p.vars t.1 e)=false)∧Nw H nb lb p.vars t∧Kp nb lb H0 H∧F 0 = .ptr nb 0 0∧F 3 = .ptr b3 0 0∧F 43 = .sl p.hm 4 (p.hard.map CV)∧F 44 = .int .i64 (p.hard.length:Nat)∧F 45 = .int .i64 (i:Nat)) p.hard.length
     ⟨0,by simp,by simp,nt,kt,by simp -implicitDefEqProofs only [AA,↓reduceIte,jA,f0],by simp -implicitDefEqProofs only [AA,↓reduceIte,jA,f3],by simp -implicitDefEqProofs only [AA,↓reduceIte,jA],by simp -implicitDefEqProofs only [AA,↓reduceIte,jA],by simp -implicitDefEqProofs only [AA,↓reduceIte]; rfl⟩ ?_
    clear f0 f3
    rintro q F H ⟨i,hq,hF,nt,kt,f0,f3,f43,f44,f45⟩
    simp -implicitDefEqProofs only [BB,A8,BJ,A7,AZ,BA,AC,AQ,AO,BD,AX,AL,AA,AY,BR,wxP,AB,DF,↓reduceIte,jB,jC,enP,f44,f45]
    refine CS (fun hc => ?_) (fun hc => ?_)
    ·have hi':i < p.hard.length:=by simpa using hc
     have hmem:=jS hi'
     have kA:=kt.app (ABlk.live 4 [CV p.hard[i]])
     have nA:=nt.ext ((ext.rfl' H).app [ABlk.live 4 [CV p.hard[i]]])
     simp -implicitDefEqProofs only [BB,CJ,A8,BQ,A7,AZ,BA,AC,AQ,AO,BD,AX,AL,DV,AA,AY,EX,BN,CY,CU,wxP,BV,AB,BZ,↓reduceIte,jA,jB,jC,enP,QC,jJ,f43,f45,EJ hi',EM MC JU ER hi',AFU,AGA _ _ [.int .i64 0,.int .i64 0,.str ⟨#[]⟩,.sl .nil 0 []] rfl]
     have lE:=ldE H p.hard[i]
     generalize H ++ [ABlk.live 4 [CV p.hard[i]]]=HA at kA nA lE ⊢
     generalize H.length=b9 at lE ⊢
     try simp -implicitDefEqProofs only []
     refine EZ (by kernel_rfl) ?_
     simp -implicitDefEqProofs only [FD,DR,CZ,D9,DU,ES,ED,DK,EP,EF,BJ,A7,AC,AA,AY,BO,BN,BG,wxP,AB,jF,jD,jE,↓reduceIte,jA,jK,jI,jB,enP,KE,EK,F7,EY,f0,lE]
     refine ⟨_,pcX (ZR G p.vars t nb lb p.hard[i] (hg.hard _ hmem) HA nA),?_⟩
     try simp -implicitDefEqProofs only []
     refine ⟨_,pcX (JE G _ HA),?_⟩
     try simp -implicitDefEqProofs only []
     refine CS (fun hd => ?_) (fun hd => ?_)
     ·simp -implicitDefEqProofs only [EU,A8,AZ,AC,AQ,AO,BD,AX,AL,AA,AY,FO,wxP,wxX,AB4,Y6,AK1,BV,AB,↓reduceIte,jB,jC,enP,jJ,ASQ,AGP (P:=Tryz.prog) (t:=97) ARO]
      refine ⟨rfl,hkH.trans kA,hbad ?_⟩
      have:AKJ p.vars p.hard t.1=true:=qP.2 ⟨_,hmem,hd⟩
      rw [if_pos this] at hR
      rw [hR] at hS; exact hS.symm
     ·simp -implicitDefEqProofs only [A8,BQ,A7,EO,FK,AZ,BA,AC,AQ,AO,BD,AX,AL,AA,AY,AU,BH,BI,BR,wxP,AB,DZ,↓reduceIte,jA,jB,jC,enP,f45,wrap_succ (show i < 9223372036854775807 by omega)]
      refine ⟨q - 1,by omega,i+1,by omega,fun e he => ?_,nA,kA,by trivial,by trivial,by trivial,by trivial,by trivial⟩
      rw [zY hi'] at he
      rcases zX.1 he with he | he
      ·exact hF e he
      ·rw [List.mem_singleton] at he; subst he; exact hd
    ·have hi' : ¬ i < p.hard.length:=by simpa using hc
     rw [jY (by omega)] at hF
     simp -implicitDefEqProofs only [D6,E5,N8,GG,AA,↓reduceIte,jA]
     exact ⟨hF,nt,kt,f0,f3⟩
   clear f0 f3 l1 g3A nt kt
   rintro F H ⟨hF,nt,kt,f0,f3⟩
   have hcf : ¬ AKJ p.vars p.hard t.1=true:=by
    unfold AKJ
    rw [qP]
    rintro ⟨e,he,hq⟩
    rw [hF e he] at hq; cases hq
   rw [if_neg hcf] at hR
   rw [hR] at hS
   have hS:NU p.vars p.hard m t=TOT:=hS
   simp -implicitDefEqProofs only [EO,FY,FK,↓reduceIte]
   refine ⟨m,by omega,t,hS,fun hc => ?_,nt.len,nt,kt,f0,f3⟩
   rcases hste.chg nH.wf hc with q | q
   ·cases q
   ·have:wid t.1 < wid s.1:=q
    omega
  ·have hc:s.2=false:=hc
   have hT:TOT=some s:=by
    rw [← hS]
    cases m with
    | zero=>show (if s.2=true then none else some s)=_; rw [hc]; rfl
    | succ m=>show (if s.2=true then _ else some s)=_; rw [hc]; rfl
   simp -implicitDefEqProofs only [D6,E5,N8,GG,↓reduceIte]
   exact ⟨s,hT,nH,kH⟩
 ·rintro F H ⟨s,hT,nH,kH⟩
  simp -implicitDefEqProofs only [FY,I7,↓reduceIte]
  exact ⟨s,hT,nH,k1.trans kH⟩
end
theorem Kp.setGe {nb lb:Nat} {a b:Hp} (h1:Kp nb lb a b) {c:Nat} (hc:a.length≤c) (x:ABlk):Kp nb lb a (b.set c x) :=
 ⟨fun k y q n1 n2=>by rw [zJ (by have:=CB q; omega)]; exact h1.1 k y q n1 n2,by rw [List.length_set]; exact h1.2⟩
theorem Nw.setCell {H:Hp} {nb lb:Nat} {vars:List Vr} {s:NS} (n:Nw H nb lb vars s) {c:Nat} {v:AV} (hc:H[c]? = some (.live 1 [[v]])) (h1:c≠nb) (h2:c≠lb) (x:ABlk):Nw (H.set c x) nb lb vars s:=by
 obtain ⟨mb,L,ents,e1,e2,e3,e4,e5,e6⟩:=n.ex
 have h3:c≠mb:=fun e=>by rw [e,e2] at hc; cases hc
 refine ⟨⟨mb,L,ents,by rw [zJ h1]; exact e1,by rw [zJ h3]; exact e2,e3,?_,e5,e6⟩,n.ne,by rw [List.length_set]; exact n.lbl,n.len,n.wf⟩
 rcases e4 with e4 | ⟨e,hb,hn⟩
 ·exact .inl e4
 ·exact .inr ⟨e,by rw [zJ h2]; exact hb,hn⟩
theorem AU6 (h:Hp):JF Tryz.prog h 97=some (.ptr h.length 0 0,h ++ [ABlk.live 0 [[]]]):=JP (row := []) (by kernel_rfl)
theorem ATB (h:Hp):FT Tryz.prog (h ++ [ABlk.live 0 [[]]]) 97 (.ptr h.length 0 0) (.agg [])=some (h ++ [ABlk.live 0 [[]]]):=by
 have hs:szO Tryz.prog 97=some 0:=by kernel_rfl
 rw [XP (cs := []) (Q8 rfl) hs (C9 _ _) (jL 0),LX]; rfl
theorem AU2:TV Tryz.prog (.ifc 97 (.agg #[])) 97 true=some (.tup [.agg [],.bool true]):=by kernel_rfl
theorem AU3:TV Tryz.prog .nilifc 97 true=some (.tup [.agg [],.bool false]):=by kernel_rfl
theorem ATT:G6 Tryz.prog 20 .neq (.ifc 97 (.agg #[])) .nilifc=some (.bool true):=by kernel_rfl
theorem ATU:G6 Tryz.prog 20 .neq .nilifc .nilifc=some (.bool false):=by kernel_rfl
theorem AUB:G6 Tryz.prog 20 .eql (.ifc 97 (.agg #[])) .nilifc=some (.bool false):=by kernel_rfl
theorem AUC:G6 Tryz.prog 20 .eql .nilifc .nilifc=some (.bool true):=by kernel_rfl
theorem ARR {H:Hp} {c:Nat} {v:AV} (hc:H[c]? = some (.live 1 [[v]])) (b:Bool):FT Tryz.prog H 4 (.ptr c 0 0) (.bool b)=some (H.set c (.live 1 [[.bool b]])):=by
 rw [JA (cs := [.bool b]) rfl sz4 hc rfl (by simp)]; rfl
section
variable (G:Nat→AV)
theorem AD5 (c:Nat) (h:Hp) (v:AV) (hc:h[c]? = some (.live 1 [[v]])) (x:Option Value) (hx:x=none∨x=some emp):AAQ (En G) 64 [.ptr c 0 0] h x fun H=>H=(h ++ [ABlk.live 0 [[]]]).set c (.live 1 [[.bool x.isNone]]):=by
 refine AKI (H:=Hint.none) (enM G) Tryz.func64 rfl (by kernel_rfl) (by kernel_rfl) (jH (by kernel_rfl)) (jH (by kernel_rfl)) rfl (jH (by kernel_rfl)) ?_
 have hc':=CX (x:=ABlk.live 0 [[]]) hc
 have e0:(upd (upd (KG [AV.ptr c 0 0]) 4 (AG1 x)) 1 (AG1 x)) 0 = .ptr c 0 0:=rfl
 rcases hx with rfl | rfl
 ·have ei:AG1 none = .nilifc:=rfl
  rw [ei] at e0 ⊢
  show awp _ _ _ _ _ (fun e _ h'=>(match e with | .exit _=>False | _=>True)∧h'=(h ++ [ABlk.live 0 [[]]]).set c (.live 1 [[.bool true]]))
  simp -implicitDefEqProofs only [zG,zK,BB,A8,BQ,BJ,A7,EC,AZ,BA,BL,BU,CO,I4,AC,AQ,AO,BD,AX,AL,DV,AA,EG,AY,AU,BM,AI4,BI,BC,CP,DN,EX,CY,BR,H7,JO,wxP,ADL,BV,AB,BZ,BF,↓reduceIte,jA,jB,jC,enP,jJ,AU3,AU6,ATB,ATU,AUC,ARR hc']
  exact ⟨trivial,trivial⟩
 ·have ei:AG1 (some emp) = .ifc 97 (.agg #[]):=rfl
  rw [ei] at e0 ⊢
  show awp _ _ _ _ _ (fun e _ h'=>(match e with | .exit _=>False | _=>True)∧h'=(h ++ [ABlk.live 0 [[]]]).set c (.live 1 [[.bool false]]))
  simp -implicitDefEqProofs only [zG,zK,BB,A8,BQ,BJ,A7,EC,AZ,BA,BL,BU,CO,GH,AC,AQ,AO,BD,AX,AL,DV,AA,AY,AU,BM,AI4,BI,BC,CP,DL,EX,CY,BR,I5,H7,JO,wxP,ADL,BV,AB,BZ,FP,BF,↓reduceIte,jA,jB,jX,jC,enP,jJ,AU2,AU6,ATB,ATT,AUB,ARR hc']
  exact ⟨trivial,trivial⟩
theorem APN (nb lb cb pb:Nat) (base:Hp) (Bad:Prop) (p:Pr) (hs:PrS p) (hg:GoodP p) (l:List Rng) (h:Hp) (hcb:h[cb]? = some (.live 1 [[.ptr nb 0 0]])) (hpb:h[pb]? = some (.live 5 [DX p])) (hk:Kp nb lb base h) (n:Nw h nb lb p.vars (l,false)) (hbad:P8 p l=none→Bad) :
  ACalls ((En G).wx (X0 nb lb base Bad)) 37 ([] ++ [.ptr cb 0 0,.ptr pb 0 0]) h (NP nb lb p.vars h (P8 p l)):=by
 refine IY (H:=Hint.none) (enM G) Tryz.func37 rfl (by kernel_rfl) (by kernel_rfl) (jH (by kernel_rfl)) ?_
 show awp _ _ _ _ _ (EH _ [] _)
 have lp:DI Tryz.prog h 27 (.ptr pb 0 0)=some (.agg (DX p)):=by rw [GV UE SB hpb (row:=DX p) rfl (by rw [IP]; exact jL 5)]; rfl
 simp -implicitDefEqProofs only [A8,AZ,AC,AQ,AO,BD,AX,AL,AA,AY,BO,BN,BX,BP,wxP,AB,BF,CE,jF,jD,jE,zA,↓reduceIte,jA,jB,jC,enP,AO7 hcb,lp]
 refine ACalls.mono (ALK G nb lb base Bad p hs hg l h hk n hbad) ?_
 rintro v H q
 simp -implicitDefEqProofs only [I7,BA,AL]
 exact q
theorem al4 (h:Hp):JF Tryz.prog h 4=some (.ptr h.length 0 0,h ++ [ABlk.live 1 [[.bool false]]]):=JP (row := [.bool false]) (by kernel_rfl)
def AW8 (nb lb:Nat) (p:Pr) (l:List Rng) (h:Hp):AV→Hp→Prop:=fun v H=>(v = .bool true∧∃ s,P8 p l=some s∧Nw H nb lb p.vars s∧Kp nb lb h H)∨(v = .bool false∧P8 p l=none∧Kp nb lb h H)
theorem ANJ (nb lb cb pb:Nat) (p:Pr) (hs:PrS p) (hg:GoodP p) (l:List Rng) (h:Hp) (hcb:h[cb]? = some (.live 1 [[.ptr nb 0 0]])) (hpb:h[pb]? = some (.live 5 [DX p])) (n:Nw h nb lb p.vars (l,false)) :
  ACalls (En G) 36 [.fn (.func 37) [] [.ptr cb 0 0,.ptr pb 0 0]] h (AW8 nb lb p l h):=by
 have nA:=n.ext ((ext.rfl' h).app [ABlk.live 1 [[.bool false]]])
 have oc:=n.lt (jL h.length)
 have kA:=(Kp.rfl' nb lb h).app (ABlk.live 1 [[.bool false]])
 have gc:=C9 h (ABlk.live 1 [[.bool false]])
 refine AHI (E:=En G) (X:=X0 nb lb (h ++ [ABlk.live 1 [[.bool false]]]) (P8 p l=none)) (R1:=fun H => ∃ v,NP nb lb p.vars (h ++ [ABlk.live 1 [[.bool false]]]) (P8 p l) v H) Tryz.func36 rfl (by kernel_rfl) ⟨rfl,rfl,rfl,rfl,rfl⟩ rfl
  ⟨rfl,rfl,rfl⟩ ⟨rfl,rfl,rfl⟩ ⟨rfl,rfl,rfl⟩ ⟨rfl,rfl,rfl⟩ ⟨rfl,rfl,rfl⟩ ⟨rfl,rfl,rfl⟩ (al4 h) ?_ ?_ ?_
 ·exact ACalls.mono (APN G nb lb cb pb _ _ p hs hg l _ (CX hcb) (CX hpb) (Kp.rfl' _ _ _) nA id) fun v H q=>⟨v,q⟩
 ·rintro h' ⟨v,s,e,n',k'⟩
  have g':=k'.1 _ _ gc oc.1 oc.2
  have g2:(h'.set h.length (.live 1 [[.bool true]]))[h.length]? = some (.live 1 [[.bool true]]):=G5 g'
  refine ⟨h'.set h.length (.live 1 [[.bool true]]),ARR g' true,?_⟩
  have hd:=AD5 G h.length (h'.set h.length (.live 1 [[.bool true]])) (.bool true) g2 none (.inl rfl)
  refine ⟨hd.1,fun g w cargs S ha=>(hd.2 g w cargs S ha).mono ?_⟩
  rintro e' u w' ⟨q1,q2,g3,h3,rfl,q3,q4⟩
  refine ⟨q1,q2,g3,_,⟨.bool true,?_,.inl ⟨rfl,s,e,?_,?_⟩⟩,q3,q4⟩
  ·exact IB ag4 (G5 (CX g2))
  ·exact ((n'.setCell g' oc.1 oc.2 _).ext ((ext.rfl' _).app [ABlk.live 0 [[]]])).setCell (CX g2) oc.1 oc.2 _
  ·exact (((kA.trans k').setGe (jL _) _).app _).setGe (jL _) _
 ·rintro u h' ⟨rfl,k',hb⟩
  have g':=k'.1 _ _ gc oc.1 oc.2
  have hd:=AD5 G h.length h' (.bool false) g' (some emp) (.inr rfl)
  refine ⟨hd.1,fun g w cargs S ha=>(hd.2 g w cargs S ha).mono ?_⟩
  rintro e' u w' ⟨q1,q2,g3,h3,rfl,q3,q4⟩
  refine ⟨q1,q2,g3,_,⟨.bool false,?_,.inr ⟨rfl,hb,?_⟩⟩,q3,q4⟩
  ·exact IB ag4 (G5 (CX g'))
  ·exact ((kA.trans k').app _).setGe (jL _) _
end
theorem APJ {h H:Hp} (hg : ∀ (b:Nat) (x:ABlk),h[b]? = some x→H[b]? = some x):Sm.ext h H:=by
 refine ⟨H.drop h.length,?_⟩
 apply List.ext_getElem?
 intro i
 rcases jT i h.length with hi | hi
 ·rw [List.getElem?_append_left hi]
  have:h[i]? = some h[i]:=by simp [hi]
  rw [this,hg i _ this]
 ·rw [List.getElem?_append_right hi,List.getElem?_drop]
  congr 1; omega
theorem Kp.ext {nb lb:Nat} {h h0 H:Hp} (hx:Sm.ext h h0) (k:Kp nb lb h0 H) (h1:h.length≤nb) (h2:h.length≤lb):Sm.ext h H :=
 APJ fun b x hb=>k.1 b x (FX hx hb) (by have:=CB hb; omega) (by have:=CB hb; omega)
theorem AFV (h:Hp):JF Tryz.prog h 66=some (.ptr h.length 0 0,h ++ [ABlk.live 1 [[.nilp]]]):=JP (row := [.nilp]) (by kernel_rfl)
theorem AB8 {H:Hp} {c nb:Nat} {v:AV} (hc:H[c]? = some (.live 1 [[v]])):FT Tryz.prog H 66 (.ptr c 0 0) (.ptr nb 0 0)=some (H.set c (.live 1 [[.ptr nb 0 0]])):=by
 rw [JA (cs := [.ptr nb 0 0]) rfl AVU hc rfl (by simp)]; rfl
theorem AUM (h:Hp):FM Tryz.prog false h 29 0 []=some (.sl .full 2 [],h):=by kernel_rfl
theorem AUS (b:Nat) (m:SM) (xs:List (List AV)):JL Tryz.prog 73 [(0,.agg [.mp b,.sl m 2 xs])]=some (.agg [.mp b,.sl m 2 xs,.bool false]):=by kernel_rfl
theorem AUT (b c n:Nat):JL Tryz.prog 73 [(0,.agg [.mp b,.own c 0 n])]=some (.agg [.mp b,.own c 0 n,.bool false]):=by kernel_rfl
def TY (p:Pr) (l:List Rng):List Rng × Int:=if LJ p≠0∨RU p.vars l=false then ([],1) else match P8 p l with
 | none=>([],11)
 | some s=>(s.1,0)
def AEF (p:Pr) (l:List Rng):SM:=if LJ p≠0∨RU p.vars l=false then .nil else match P8 p l with
 | none => .nil
 | some s=>if s.1.length=0 then .full else .any
def AGN (p:Pr) (l:List Rng):AV:=if LJ p≠0∨RU p.vars l=false then .tup [.sl .nil 0 [],.int .i64 1] else match P8 p l with
 | none => .tup [.sl .nil 0 [],.int .i64 11]
 | some s => .tup [.sl (if s.1.length=0 then .full else .any) 2 (s.1.map encR),.int .i64 0]
theorem AQ2 (H:Hp) (m:SM) (l:List Rng) (hl:l.length≤1048576) : ∃ L H',IC Tryz.prog true H 29 29 (.sl .full 2 []) (.sl m 2 (l.map encR))=some (L,H')∧Sm.ext H H'∧((l = []∧L = .sl .full 2 [])∨(l≠[]∧L = .own H.length 0 l.length∧H'[H.length]? = some (.live 2 (l.map encR)))):=by
 cases l with
 | nil=>exact ⟨_,_,ANO AJC SA (.inr rfl),ext.rfl' _,.inl ⟨rfl,rfl⟩⟩
 | cons r l =>
   have h1:((r :: l).map encR)≠[]:=by simp
   have:=ANP (xs := []) AJC SA AQ8 APU (NZ H m 2 ((r :: l).map encR)) h1 (OI (by simp at hl ⊢; omega) (by omega))
   rw [List.length_nil,jG,jM,zA] at this
   exact ⟨_,_,this,(ext.rfl' _).app _,.inr ⟨by simp,rfl,C9 _ _⟩⟩
theorem AIQ (K:Hp) (p:Pr) (L:AV):(evH K p L)[K.length+2]? = some (ABlk.live 2 [[AV.mp (K.length+1),L]]):=by simp [evH]
theorem ATS {H0 K H2:Hp} {p:Pr} {L:AV} {l:List Rng} (hK:Sm.ext H0 K) (hL:(l = []∧L = .sl .full 2 [])∨(l≠[]∧L = .own H0.length 0 l.length∧K[H0.length]? = some (.live 2 (l.map encR)))) (hx:Sm.ext (evH K p L) H2) {nb:Nat} (hnb:H2[nb]? = some (.live 3 [[.mp (K.length+1),L,.bool false]])) (h3:K.length+3≤nb)
  (hlen:l.length=p.vars.length) (hwf : ∀ r∈l,wfR r) : ∃ lb,Nw H2 nb lb p.vars (l,false)∧H0.length≤lb∧∃ xs,H2[lb]? = some (.live 2 xs):=by
 have hm2:(evH K p L)[K.length+1]? = some (ABlk.map (RV (OA p.vars 0))):=by simp [evH]
 have hle:(evH K p L).length=K.length+3:=by simp [evH]
 have hx2:=hx.le
 have hk:=hK.le
 rcases hL with ⟨e,eL⟩ | ⟨e,eL,hb⟩
 ·exact ⟨K.length+2,⟨⟨K.length+1,L,OA p.vars 0,hnb,FX hx hm2,fun n=>PX n _ _,.inl ⟨e,eL⟩,by omega,by omega⟩,by omega,by omega,hlen,hwf⟩,by omega,_,FX hx (AIQ K p L)⟩
 ·have hlt:=CB hb
  exact ⟨H0.length,⟨⟨K.length+1,L,OA p.vars 0,hnb,FX hx hm2,fun n=>PX n _ _,.inr ⟨eL,FX hx (FX (Q3 K p L) hb),e⟩,by omega,by omega⟩,by omega,by omega,hlen,hwf⟩,jL _,_,FX hx (FX (Q3 K p L) hb)⟩
section
variable (G:Nat→AV)
set_option maxHeartbeats 4000000 in
theorem ADH (hG:GOk G) (p:Pr) (hs:PrS p) (l:List Rng) (m:SM) (hl:l.length≤1048576) (h:Hp):PCall (En G) 14 [.agg (DX p),.sl m 2 (l.map encR)] h (AGN p l):=by
 refine ACalls.pure (R:=fun v H=>Sm.ext h H∧JH h.length H 3 v=AGN p l) 3 ?_ (fun v H q=>q)
 refine IY (H:=hint [19,1000020] []) (enM G) Tryz.func14 rfl (by kernel_rfl) (by kernel_rfl) (jH (by kernel_rfl)) ?_
 show awp _ _ _ _ _ (EH _ [.tmp 4,.tmp 5] _)
 have ge:=C9 h (ABlk.live 5 [DX p])
 have hx:ext h (h ++ [ABlk.live 5 [DX p]]):=(ext.rfl' h).app _
 have hlh:h.length < (h ++ [ABlk.live 5 [DX p]]).length:=by simp
 simp -implicitDefEqProofs only [EI,jP,jQ,jR,jO,BB,A8,A7,AZ,BA,AO,BD,AX,AL,AA,AY,AU,BH,LG,BC,FN,BN,BV,BF,↓reduceIte,jA,jB,jC,enP,FB,UC]
 generalize h ++ [ABlk.live 5 [DX p]]=H at ge hx hlh ⊢
 generalize hpb:h.length=pb at ge hlh ⊢
 have lp:DI Tryz.prog H 27 (.ptr pb 0 0)=some (.agg (DX p)):=by rw [GV UE SB ge (row:=DX p) rfl (by rw [IP]; exact jL 5)]; rfl
 simp -implicitDefEqProofs only [EI,jP,jQ,jR,jO,AZ,AO,BD,AX,AL,AA,AY,BO,BX,BP,AB,jF,jD,jE,↓reduceIte,jB,jC,FB,lp]
 refine (UX G hG p hs H).use ?_
 simp -implicitDefEqProofs only [EI,jP,jQ,jR,jO,AZ,BL,BU,CO,AO,BD,AX,AL,AA,AY,AU,BH,BI,BR,AB,FU,↓reduceIte,jB,jC,enP,FB]
 refine IK (fun h1 => ?_) (fun h1 => ?_)
 ·have h1':LJ p≠0:=by simpa using h1
  simp -implicitDefEqProofs only [EI,jP,jQ,jR,jO,BB,A8,BK,BJ,A7,CQ,QE,DY,AZ,BA,BL,BU,CO,F6,AO,BD,AX,AL,AA,EG,AY,AU,BH,BM,LG,BC,CP,DL,↓reduceIte,jA,jB,jC,FB,h1]
  refine ⟨hx,?_⟩
  unfold AGN
  rw [if_pos (.inl h1')]; rfl
 have h1':LJ p=0:=by simpa using h1
 simp -implicitDefEqProofs only [EI,jP,jQ,jR,jO,BL,BU,CO,EQ,AO,BD,AX,AL,AA,AY,BO,BI,BN,BX,BP,AB,BF,CE,jF,jD,jE,↓reduceIte,jA,jB,jC,enP,FB,h1,lp]
 refine (AEY G p hs l m hl H).use ?_
 simp -implicitDefEqProofs only [EI,jP,jQ,jR,jO,BJ,A7,AZ,BA,BL,BU,CO,EQ,AO,BD,AX,AL,AA,AY,AU,BM,CP,DN,I5,AB,FP,↓reduceIte,jA,jB,jC,FB,h1]
 cases h3:RU p.vars l
 ·simp -implicitDefEqProofs only [EI,jP,jQ,jR,jO,BB,A8,BK,A7,CQ,QE,DY,AZ,BA,AO,BD,AX,AL,AA,AU,BH,LG,BC,↓reduceIte,jA,jB,jC,FB]
  refine ⟨hx,?_⟩
  unfold AGN
  rw [if_pos (.inr h3)]; rfl
 simp -implicitDefEqProofs only [BB,BQ,A7,EC,jX]
 obtain ⟨hwf,hlen⟩:=OW.1 h3
 have hne : ¬ (LJ p≠0∨RU p.vars l=false):=by rw [h1',h3]; simp
 have hg:=AQX hs h1'
 obtain ⟨L,H',ha,hxA,hL⟩:=AQ2 H m l hl
 obtain ⟨L2,H2',ha2,hxA2,hL2⟩:=AQ2 (H ++ [ABlk.live 1 [[.nilp]]]) m l hl
 have lf : ∀ {L:AV} {K H0:Hp},((l = []∧L = .sl .full 2 [])∨(l≠[]∧L = .own H0.length 0 l.length∧K[H0.length]? = some (.live 2 (l.map encR))))→(∃ m xs,L = .sl m 2 xs)∨∃ b n,L = .own b 0 n:=fun h=>by
  rcases h with ⟨_,e⟩ | ⟨_,e,_⟩
  ·exact .inl ⟨_,_,e⟩
  ·exact .inr ⟨_,_,e⟩
 have hLf:=lf hL
 have hLf2:=lf hL2
 have bd73 : ∀ {L:AV},((∃ m xs,L = .sl m 2 xs)∨∃ b n,L = .own b 0 n)→∀ b:Nat,JL Tryz.prog 73 [(0,.agg [.mp b,L])]=some (.agg [.mp b,L,.bool false]):=fun hLf b=>by
  rcases hLf with ⟨m,xs,rfl⟩ | ⟨b,n,rfl⟩
  ·exact AUS _ _ _
  ·exact AUT _ _ _
 have bx73 : ∀ {L:AV},((∃ m xs,L = .sl m 2 xs)∨∃ b n,L = .own b 0 n)→∀ (K:Hp) (b:Nat),OE K (.agg [.mp b,L,.bool false])=some (.ptr K.length 0 0,K ++ [ABlk.live 3 [[.mp b,L,.bool false]]]):=fun hLf K b=>by
  rcases hLf with ⟨m,xs,rfl⟩ | ⟨b,n,rfl⟩ <;> rfl
 have ld69 : ∀ (K:Hp) (L:AV),DI Tryz.prog (evH K p L) 69 (.ptr (K.length+2) 0 0)=some (.agg [.mp (K.length+1),L]):=fun K L=>by
  rw [GV AW6 AVT (AIQ K p L) (row := [.mp (K.length+1),L]) rfl (jL 2)]; rfl
 have lpX : ∀ K:Hp,Sm.ext H K→DI Tryz.prog K 27 (.ptr pb 0 0)=some (.agg (DX p)):=fun K hx=>by rw [GV UE SB (FX hx ge) (row:=DX p) rfl (by rw [IP]; exact jL 5)]; rfl
 have hxc:Sm.ext H (H ++ [ABlk.live 1 [[.nilp]]]):=(ext.rfl' H).app _
 have lp1:=lpX H' hxA
 have lp2:=lpX _ hxc
 have lp3:=lpX H2' (hxc.trans hxA2)
 have lp4:=lpX (H' ++ [ABlk.live 1 [[.nilp]]]) (hxA.app _)
 -- the ends
 have leaf : ∀ (K H0 H2:Hp) (L:AV) (nb c:Nat),Sm.ext H H0→Sm.ext H0 K→((l = []∧L = .sl .full 2 [])∨(l≠[]∧L = .own H0.length 0 l.length∧K[H0.length]? = some (.live 2 (l.map encR))))→Sm.ext (evH K p L) H2→H2[nb]? = some (.live 3 [[.mp (K.length+1),L,.bool false]])→K.length+3≤nb→H2[c]? = some (.live 1 [[.nilp]])→H.length≤c →
   ∃ nb' lb cb,True∧AV.ptr c 0 0 = .ptr cb 0 0∧(H2.set c (.live 1 [[.ptr nb 0 0]]))[cb]? = some (.live 1 [[.ptr nb' 0 0]])∧Nw (H2.set c (.live 1 [[.ptr nb 0 0]])) nb' lb p.vars (l,false)∧pb < nb'∧pb < lb∧cb≠nb'∧cb≠lb∧Sm.ext H (H2.set c (.live 1 [[.ptr nb 0 0]])):=by
  intro K H0 H2 L nb c e1 e2 e3 e4 e5 e6 e7 e8
  obtain ⟨lb,n,hlb,xs,hxs⟩:=ATS e2 e3 e4 e5 e6 hlen hwf
  have hcl:c≠lb:=fun e=>by rw [e,hxs] at e7; cases e7
  have hcn:c≠nb:=fun e=>by rw [e,e5] at e7; cases e7
  have:=e1.le
  have:=e2.le
  exact ⟨nb,lb,c,trivial,rfl,G5 e7,n.setCell e7 hcn hcl _,by omega,by omega,hcn,hcl,(((e1.trans e2).trans (Q3 K p L)).trans e4).set e8 _⟩
 have hle:=hxA.le
 have hl1:(evH H' p L).length=H'.length+3:=by simp [evH]
 have hl3:(evH (H' ++ [ABlk.live 1 [[.nilp]]]) p L).length=H'.length+4:=by simp [evH]
 have hl4:(evH H2' p L2).length=H2'.length+3:=by simp [evH]
 have ca:=C9 (evH H' p L ++ [ABlk.live 3 [[.mp (H'.length+1),L,.bool false]]]) (ABlk.live 1 [[.nilp]])
 have cb:=CX (x:=ABlk.live 3 [[.mp (H'.length+1),L,.bool false]]) (C9 (evH H' p L) (ABlk.live 1 [[.nilp]]))
 have cc:(evH (H' ++ [ABlk.live 1 [[.nilp]]]) p L ++ [ABlk.live 3 [[.mp ((H' ++ [ABlk.live 1 [[.nilp]]]).length+1),L,.bool false]]])[H'.length]? = some (ABlk.live 1 [[.nilp]]):=CX (FX (Q3 _ p L) (C9 H' (ABlk.live 1 [[.nilp]])))
 have cd:(evH H2' p L2 ++ [ABlk.live 3 [[.mp (H2'.length+1),L2,.bool false]]])[H.length]? = some (ABlk.live 1 [[.nilp]]):=CX (FX (Q3 _ p L2) (FX hxA2 (C9 H (ABlk.live 1 [[.nilp]]))))
 have Na:=CX (x:=ABlk.live 1 [[.nilp]]) (C9 (evH H' p L) (ABlk.live 3 [[.mp (H'.length+1),L,.bool false]]))
 have Nb:=C9 (evH H' p L ++ [ABlk.live 1 [[.nilp]]]) (ABlk.live 3 [[.mp (H'.length+1),L,.bool false]])
 have Nc:=C9 (evH (H' ++ [ABlk.live 1 [[.nilp]]]) p L) (ABlk.live 3 [[.mp ((H' ++ [ABlk.live 1 [[.nilp]]]).length+1),L,.bool false]])
 have Nd:=C9 (evH H2' p L2) (ABlk.live 3 [[.mp (H2'.length+1),L2,.bool false]])
 have La:=leaf H' H _ L _ _ (ext.rfl' H) hxA hL (((ext.rfl' _).app _).app _) Na (by omega) ca (by simp; omega)
 have Lb:=leaf H' H _ L _ _ (ext.rfl' H) hxA hL (((ext.rfl' _).app _).app _) Nb (by simp; omega) cb (by omega)
 have Lc:=leaf (H' ++ [ABlk.live 1 [[.nilp]]]) H _ L _ _ (ext.rfl' H) (hxA.app _) (by
  rcases hL with q | ⟨q1,q2,q3⟩
  ·exact .inl q
  ·exact .inr ⟨q1,q2,CX q3⟩) ((ext.rfl' _).app _) Nc (by simp; omega) cc (by omega)
 have Ld:=leaf H2' (H ++ [ABlk.live 1 [[.nilp]]]) _ L2 _ _ hxc hxA2 hL2 ((ext.rfl' _).app _) Nd (by omega) cd (jL _)
 refine TS (fun F H2 => ∃ nb lb cb,F 2 = .ptr pb 0 0∧F 6 = .ptr cb 0 0∧H2[cb]? = some (.live 1 [[.ptr nb 0 0]])∧Nw H2 nb lb p.vars (l,false)∧pb < nb∧pb < lb∧cb≠nb∧cb≠lb∧Sm.ext H H2) (fun _ _=>False) ?_ ?_ (fun _ _ q=>q.elim)
 ·refine AFN (.ones [1,2] (.alt 0 (.alt 3 (.alt 4 (.ones [5,6,7] (.alt 8 (.ones [9,10] .done) (.alt 9 (.ones [8,10] .done) (.non)))) (.alt 9 (.ones [4,5,6,7,8,10] .done) (.non))) (.alt 9 (.ones [3,4,5,6,7,8,10] .done) (.non))) (.alt 3 (.ones [0] (.alt 4 (.ones [5,6,7] (.alt 8 (.ones [9,10] .done) (.alt 9 (.ones [8,10] .done) (.non)))) (.alt 9 (.ones [4,5,6,7,8,10] .done) (.non)))) (.alt 9 (.alt 0 (.ones [3,4,5,6,7,8,10] .done) (.alt 3 (.ones [0,4,5,6,7,8,10] .done) (.non))) (.non))))) (by kernel_rfl) ?_
  simp only [DT,J4,zK,zG]
  simp -implicitDefEqProofs only [FD,ADF,Z9,EU,EI,jP,jQ,jR,jO,Bool.or_true,DR,CZ,D9,DU,ES,VG,AA4,QS,ED,GI,OM,MN,AA,AY,BO,EX,FN,F9,BN,CY,MK,BV,AB,BF,CE,jF,jD,jE,↓reduceIte,jA,jK,jG,jB,enP,jJ,EK,F7,lp,lp1,lp2,lp3,lp4,AUM,ha,ha2,AFV]
  have new1:=VR G p L hLf hs.vars H'
  have new3:=VR G p L hLf hs.vars (H' ++ [ABlk.live 1 [[.nilp]]])
  have new4:=VR G p L2 hLf2 hs.vars H2'
  have b1:=bd73 hLf
  have b2:=bd73 hLf2
  have x1:=bx73 hLf
  have x2:=bx73 hLf2
  refine ⟨⟨⟨⟨_,_,new1,?_⟩,⟨_,_,new3,?_⟩,trivial⟩,⟨_,_,new4,?_⟩,trivial⟩,⟨⟨_,_,new1,?_⟩,⟨_,_,new3,?_⟩,trivial⟩,⟨⟨_,_,new4,?_⟩,⟨_,_,new4,?_⟩,trivial⟩,trivial⟩
  ·simp -implicitDefEqProofs only [FD,EU,EN,EI,jP,jQ,jR,jO,DR,CZ,GL,D9,DU,NJ,ED,GI,AA,AY,FO,BN,CY,BV,AB,BZ,↓reduceIte,jA,jK,jG,jB,enP,jJ,EY,ld69,b1,x1,AFV,AB8 ca,AB8 cb]
   exact ⟨La,Lb,trivial⟩
  ·simp -implicitDefEqProofs only [FD,EU,EN,EI,jP,jQ,jR,jO,DR,CZ,GL,D9,DU,AA4,NJ,ED,GI,AA,AY,FN,FO,BN,CY,BV,AB,BZ,↓reduceIte,jA,jK,jG,jB,enP,jJ,EY,ld69,b1,x1,AFV,AB8 cc]
   exact Lc
  ·simp -implicitDefEqProofs only [FD,EU,EN,EI,jP,jQ,jR,jO,DR,CZ,GL,D9,DU,AA4,NJ,ED,GI,AA,AY,FN,FO,BN,CY,BV,AB,BZ,↓reduceIte,jA,jK,jG,jB,enP,jJ,EY,ld69,b2,x2,AFV,AB8 cd]
   exact Ld
  ·simp -implicitDefEqProofs only [FD,EU,EN,EI,jP,jQ,jR,jO,DR,CZ,GL,D9,DU,NJ,ED,GI,AA,AY,FO,BN,CY,BV,AB,BZ,↓reduceIte,jA,jK,jG,jB,enP,jJ,EY,ld69,b1,x1,AFV,AB8 ca,AB8 cb]
   exact ⟨La,Lb,trivial⟩
  ·simp -implicitDefEqProofs only [FD,EU,EN,EI,jP,jQ,jR,jO,DR,CZ,GL,D9,DU,AA4,NJ,ED,GI,AA,AY,FN,FO,BN,CY,BV,AB,BZ,↓reduceIte,jA,jK,jG,jB,enP,jJ,EY,ld69,b1,x1,AFV,AB8 cc]
   exact Lc
  ·simp -implicitDefEqProofs only [FD,EU,EN,EI,jP,jQ,jR,jO,DR,CZ,GL,D9,DU,AA4,NJ,ED,GI,AA,AY,FN,FO,BN,CY,BV,AB,BZ,↓reduceIte,jA,jK,jG,jB,enP,jJ,EY,ld69,b2,x2,AFV,AB8 cd]
   exact Ld
  ·simp -implicitDefEqProofs only [FD,EU,EN,EI,jP,jQ,jR,jO,DR,CZ,GL,D9,DU,AA4,NJ,ED,GI,AA,AY,FN,FO,BN,CY,BV,AB,BZ,↓reduceIte,jA,jK,jG,jB,enP,jJ,EY,ld69,b2,x2,AFV,AB8 cd]
   exact Ld
 clear La Lb Lc Ld Na Nb Nc Nd ca cb cc cd leaf
 rintro F H2 ⟨nb,lb,c,f2,f6,gc,n,o1,o2,o3,o4,hx2⟩
 have gp:=FX hx2 ge
 simp -implicitDefEqProofs only [EI,jP,jQ,jR,jO,BB,A8,A7,AZ,AO,BD,AX,AL,AA,AY,BO,IX,BX,BP,jF,jD,jE,↓reduceIte,jB,jC,FB,f2,f6]
 refine ACalls.mono (ANJ G nb lb c pb p hs hg l H2 gc gp n) ?_
 have hxx:=hx.trans hx2
 have fr:AGN p l=match P8 p l with
  | none => .tup [.sl .nil 0 [],.int .i64 11]
  | some s => .tup [.sl (if s.1.length=0 then .full else .any) 2 (s.1.map encR),.int .i64 0]:=by unfold AGN; rw [if_neg hne]
 rintro v H3 (⟨rfl,s,e,n3,k3⟩ | ⟨rfl,e,k3⟩)
 ·simp -implicitDefEqProofs only [EI,jP,jQ,jR,jO,BB,A8,BQ,BJ,A7,EC,AZ,BA,AO,BD,AX,AL,AA,AY,BN,I5,AB,FP,↓reduceIte,jA,jB,jX,jC,enP,FB]
  have gc3:=k3.1 _ _ gc o3 o4
  obtain ⟨mb,L3,ents,e1,e2,e3,e4,_⟩:=n3.ex
  have l29:DI Tryz.prog H3 29 (.ptr nb 0 1)=some L3:=by rw [DC (by kernel_rfl) e1 rfl]; rfl
  simp -implicitDefEqProofs only [EI,jP,jQ,jR,jO,BK,A7,QE,AZ,BA,AO,BD,AX,AL,AA,AY,AU,BH,BC,BN,BG,AB,↓reduceIte,jA,jI,jG,jB,jC,enP,WQ,KE,FB,EK,EY,f6,AO7 gc3,l29]
  refine ⟨k3.ext hxx (by omega) (by omega),?_⟩
  rw [fr,e]
  rcases e4 with ⟨q,rfl⟩ | ⟨rfl,hb,hn⟩
  ·show JH pb H3 3 (.tup [.sl .full 2 [],.int .i64 0]) = .tup [.sl (if s.1.length=0 then .full else .any) 2 (s.1.map encR),.int .i64 0]
   rw [q]; rfl
  ·have hz : ¬ s.1.length=0:=by simpa using hn
   show AV.tup [JH pb H3 2 (.own lb 0 s.1.length),JH pb H3 2 (.int .i64 0)] = .tup [.sl (if s.1.length=0 then .full else .any) 2 (s.1.map encR),.int .i64 0]
   rw [if_neg hz,AIM AMM (by omega) hb]; rfl
 ·simp -implicitDefEqProofs only [EI,jP,jQ,jR,jO,BB,A8,BK,BJ,A7,CQ,QE,DY,AZ,BA,AO,BD,AX,AL,AA,AY,AU,BH,LG,BC,I5,AB,FP,↓reduceIte,jA,jB,jC,FB]
  refine ⟨k3.ext hxx (by omega) (by omega),?_⟩
  rw [fr,e]; rfl
theorem TC (hG:GOk G) (p:Pr) (hs:PrS p) (l:List Rng) (m:SM) (hl:l.length≤1048576) (h:Hp):PCall (En G) 14 [.agg (DX p),.sl m 2 (l.map encR)] h (.tup [.sl (AEF p l) 2 ((TY p l).1.map encR),.int .i64 (TY p l).2]):=by
 refine PCall.res (ADH G hG p hs l m hl h) ?_
 have hn:CvR (.sl .nil 0 []) (.sl .nil 2 []):=CvR.sl (Cv.nil 0 2)
 unfold AGN TY AEF
 by_cases h:LJ p≠0∨RU p.vars l=false
 ·rw [if_pos h,if_pos h,if_pos h]
  exact CvR.tup (CvRL.cons hn (CvRL.refl _))
 ·rw [if_neg h,if_neg h,if_neg h]
  cases P8 p l with
  | none=>exact CvR.tup (CvRL.cons hn (CvRL.refl _))
  | some s=>exact CvR.refl _
end
abbrev nA:ByteArray:=⟨#[97]⟩
abbrev nB:ByteArray:=⟨#[98]⟩
def vE (n:ByteArray):Ex := .mk 2 0 n .nil []
def lE (a b:Ex):Ex := .mk 17 0 ⟨#[]⟩ .full [a,b]
def kE4:Ex := .mk 1 4 ⟨#[]⟩ .nil []
def vA:Vr:=⟨nA,3,1,0⟩
def vB:Vr:=⟨nB,3,1,0⟩
def pS:Pr:=⟨.full,[vA,vB],.full,[lE (vE nA) (vE nB),lE (vE nB) kE4],.nil,[],.nil,[],.full,[⟨.full,[0,1]⟩]⟩
def cW:List AV := [.int .i64 1,.int .i64 4,.str ⟨#[]⟩,.sl .nil 0 []]
def w2:List AV := [.int .i64 17,.int .i64 0,.str ⟨#[]⟩,.sl .full 4 [CV (vE nB),cW]]
def wS:List AV := [.sl .full 4 [FC vA,FC vB],.sl .full 4 [CV (lE (vE nA) (vE nB)),w2],.sl .nil 0 [],.sl .nil 0 [],.sl .full 1 [[.sl .full 1 [[.int .i64 0],[.int .i64 1]]]]]
theorem wc2 {m:SM} {k:Nat} {a b a' b':List AV} (h1:CvRow a a') (h2:CvRow b b'):Cv (.sl m k [a,b]) (.sl m k [a',b']):=Cv.rows rfl fun i r r' e1 e2=>by
 match i,e1,e2 with
 | 0,e1,e2=>cases e1; cases e2; exact h1
 | 1,e1,e2=>cases e1; cases e2; exact h2
 | _+2,e1,_=>cases e1
theorem ACW (op n:Int) (s:ByteArray) (m:SM) (a b:Ex):CV (.mk op n s m [a,b]) = [.int .i64 op,.int .i64 n,.str s,.sl m 4 [CV a,CV b]]:=by rw [LY]; rfl
theorem AE5 (op n:Int) (s:ByteArray) (m:SM):CV (.mk op n s m []) = [.int .i64 op,.int .i64 n,.str s,.sl m 4 []]:=by rw [LY]; rfl
theorem ATK (e:Ex):CvRow (CV e) (CV e):=CvRow.refl fun v hv=>List.all_eq_true.1 (KZ e) v hv
theorem AUH:CvRow cW (CV kE4):=by
 unfold kE4
 rw [AE5]
 exact CvRow.cons rfl (Cv.refl _) (CvRow.cons rfl (Cv.refl _) (CvRow.cons rfl (Cv.refl _) (CvRow.cons rfl (Cv.nil 0 4) CvRow.nil)))
theorem AS8:CvRow w2 (CV (lE (vE nB) kE4)):=by
 unfold lE
 rw [ACW]
 exact CvRow.cons rfl (Cv.refl _) (CvRow.cons rfl (Cv.refl _) (CvRow.cons rfl (Cv.refl _) (CvRow.cons rfl (wc2 (ATK _) AUH) CvRow.nil)))
theorem AS7:CvR (.agg wS) (.agg (DX pS)):=by
 have e:DX pS = [.sl .full 4 [FC vA,FC vB],.sl .full 4 [CV (lE (vE nA) (vE nB)),CV (lE (vE nB) kE4)],.sl .nil 4 [],.sl .nil 2 [],.sl .full 1 [[.sl .full 1 [[.int .i64 0],[.int .i64 1]]]]]:=rfl
 rw [e]
 exact CvR.agg (CvRL.cons (CvR.refl _) (CvRL.cons (CvR.sl (wc2 (ATK _) AS8)) (CvRL.cons (CvR.sl (Cv.nil 0 4)) (CvRL.cons (CvR.sl (Cv.nil 0 2)) (CvRL.cons (CvR.refl _) CvRL.nil)))))
theorem AUX (s:ByteArray):JL Tryz.prog 40 [(0,.int .i64 2),(2,.str s)]=some (.agg [.int .i64 2,.int .i64 0,.str s,.sl .nil 0 []]):=by kernel_rfl
theorem ATE (h:Hp) (cs:List AV) (row:List AV) (hr:row.length=4) (hc:cs.length=4) (hl:cs.all AV.leaf=true):FT Tryz.prog (h ++ [.live 4 [row]]) 40 (.ptr h.length 0 0) (.agg cs)=some (h ++ [.live 4 [cs]]):=by
 rw [AA7 (cs:=cs) (Q8 hl) (by rw [hc]; exact JU) (by rw [hr,hc]; exact jL 4)]
 have:splice row 0 cs=cs:=by unfold splice; rw [zF,zZ (by rw [hr,hc]; exact jL 4)]; simp
 rw [this]
def z5:List AV := [.sl .nil 0 [],.sl .nil 0 [],.sl .nil 0 [],.sl .nil 0 [],.sl .nil 0 []]
def z4:List AV := [.int .i64 0,.int .i64 0,.str ⟨#[]⟩,.sl .nil 0 []]
theorem AVA (h:Hp):JF Tryz.prog h 27=some (.ptr h.length 0 0,h ++ [.live 5 [z5]]):=JP (row:=z5) (by kernel_rfl)
theorem AU9 (h:Hp):JF Tryz.prog h 40=some (.ptr h.length 0 0,h ++ [.live 4 [z4]]):=AFU h
theorem AWX (s:ByteArray) (w m:Int):JL Tryz.prog 61 [(0,.str s),(1,.int .i64 w),(2,.int .i64 m)]=some (.agg [.str s,.int .i64 w,.int .i64 m,.int .i64 0]):=by kernel_rfl
theorem AWW (h:Hp) (s t:ByteArray) (a b c d e f:Int):FM Tryz.prog false h 22 2 [(0,.agg [.str s,.int .i64 a,.int .i64 b,.int .i64 c]),(1,.agg [.str t,.int .i64 d,.int .i64 e,.int .i64 f])]=some (.sl .full 4 [[.str s,.int .i64 a,.int .i64 b,.int .i64 c],[.str t,.int .i64 d,.int .i64 e,.int .i64 f]],h):=by kernel_rfl
theorem APW (h:Hp) (a b:List AV) (ha:a.length=4) (hb:b.length=4) (la:a.all AV.leaf=true) (lb:b.all AV.leaf=true) (fa:a.all AV.frozen=true) (fb:b.all AV.frozen=true):FM Tryz.prog false h 23 2 [(0,.agg a),(1,.agg b)]=some (.sl .full 4 [a,b],h):=by
 have hz:YM Tryz.prog 40=some 4:=by kernel_rfl
 unfold FM
 simp only [AJD,JU,hz]
 have h2:XQ 4 0 [(0,AV.agg a),(1,AV.agg b)]=some [a,b]:=by simp [XQ,IM,la,lb,ha,hb]
 simp [h2,fa,fb]
theorem AUY (xs:List (List AV)):JL Tryz.prog 40 [(0,.int .i64 17),(3,.sl .full 4 xs)]=some (.agg [.int .i64 17,.int .i64 0,.str ⟨#[]⟩,.sl .full 4 xs]):=by kernel_rfl
theorem AUZ:JL Tryz.prog 40 [(0,.int .i64 1),(1,.int .i64 4)]=some (.agg cW):=by kernel_rfl
theorem AWU (h:Hp) (a b:Int):FM Tryz.prog false h 45 2 [(0,.int .i64 a),(1,.int .i64 b)]=some (.sl .full 1 [[.int .i64 a],[.int .i64 b]],h):=by kernel_rfl
theorem AWV (h:Hp) (xs:List (List AV)):FM Tryz.prog false h 25 1 [(0,.sl .full 1 xs)]=some (.sl .full 1 [[.sl .full 1 xs]],h):=by kernel_rfl
theorem AWY (a b c:List (List AV)):JL Tryz.prog 27 [(0,.sl .full 4 a),(1,.sl .full 4 b),(4,.sl .full 1 c)]=some (.agg [.sl .full 4 a,.sl .full 4 b,.sl .nil 0 [],.sl .nil 0 [],.sl .full 1 c]):=by kernel_rfl
theorem frE (e:Ex):(CV e).all AV.frozen=true:=by rw [LY]; rfl
theorem ATH {H:Hp} {b:Nat} {row cs:List AV} (hb:H[b]? = some (.live 5 [row])) (hr:row.length=5) (hc:cs.length=5) (hl:cs.all AV.leaf=true):FT Tryz.prog H 27 (.ptr b 0 0) (.agg cs)=some (H.set b (.live 5 [cs])):=by
 rw [XP (cs:=cs) (Q8 hl) (by rw [hc]; exact SB) hb (by rw [hr,hc]; exact jL 5)]
 have:splice row 0 cs=cs:=by unfold splice; rw [zF,zZ (by rw [hr,hc]; exact jL 5)]; simp
 rw [this]
section
variable (G:Nat→AV)
theorem YH (s:ByteArray) (h:Hp):PCall (En G) 33 [.str s] h (.agg (CV (vE s))):=by
 refine PCall.res (r := .agg [.int .i64 2,.int .i64 0,.str s,.sl .nil 0 []]) ?_ (by
  unfold vE
  rw [AE5]
  exact CvR.agg (CvRL.cons (CvR.refl _) (CvRL.cons (CvR.refl _) (CvRL.cons (CvR.refl _) (CvRL.cons (CvR.sl (Cv.nil 0 4)) CvRL.nil)))))
 refine MG 3 (fun n H=>rfl) ?_
 refine acN Tryz.func33 rfl ?_
 show awp _ _ _ _ _ (EH _ [.cell 2 40] _)
 simp -implicitDefEqProofs only [EU,EN,BB,A8,BK,A7,AZ,BA,AC,AQ,AO,BD,AX,AL,DV,AA,AY,AU,BH,BI,EX,FO,CY,BV,AB,BZ,BF,↓reduceIte,jA,jB,jC,enP,jJ,AFU,AUX,ATE h [.int .i64 2,.int .i64 0,.str s,.sl .nil 0 []] [.int .i64 0,.int .i64 0,.str ⟨#[]⟩,.sl .nil 0 []] rfl rfl rfl]
 rw [AG6 _ _ _ _ _ _ _ _ _ (show _=AV.ptr h.length 0 0 by simp -implicitDefEqProofs only [AA,↓reduceIte,jA])]
 refine ⟨_,GV MC JU (C9 _ _) (row := [.int .i64 2,.int .i64 0,.str s,.sl .nil 0 []]) rfl (jL 4),rfl,(ext.rfl' h).app _⟩
theorem ATG (H:Hp) (e:Ex) (x:ABlk):FT Tryz.prog (H ++ [.live 4 [z4]] ++ [x]) 40 (.ptr H.length 0 0) (.agg (CV e))=some (H ++ [.live 4 [CV e]] ++ [x]):=by
 rw [XP (cs:=CV e) (row:=z4) (Q8 (KZ e)) (by rw [ER]; exact JU) (CX (C9 H (ABlk.live 4 [z4]))) (by rw [ER]; exact jL 4),List.set_append_left _ _ (by simp),LX]
 have:splice z4 0 (CV e)=CV e:=by unfold splice; rw [zF,zZ (by rw [ER]; exact jL 4)]; simp
 rw [this]
theorem ATF (H:Hp) (e f:Ex):FT Tryz.prog (H ++ [ABlk.live 4 [CV e]] ++ [ABlk.live 4 [z4]]) 40 (.ptr (H ++ [ABlk.live 4 [z4]]).length 0 0) (.agg (CV f))=some (H ++ [ABlk.live 4 [CV e]] ++ [ABlk.live 4 [CV f]]):=by
 have:=AGA (H ++ [ABlk.live 4 [CV e]]) f z4 rfl
 rw [← this]; simp
set_option maxHeartbeats 2000000 in
theorem ADY (h:Hp):PCall (En G) 32 [] h (.agg (DX pS)):=by
 refine PCall.res (r := .agg wS) ?_ AS7
 refine ACalls.pure (R:=fun v H=>v = .agg wS∧Sm.ext h H) 3 ?_ (fun v h' ⟨e,x⟩=>⟨x,by subst e; rfl⟩)
 refine acN Tryz.func32 rfl ?_
 show awp _ _ _ _ _ (EH _ [.cell 0 27] _)
 simp -implicitDefEqProofs only [BB,A8,A7,AZ,BA,AC,AQ,AO,BD,AX,AL,AU,BO,GN,EX,BX,BP,BV,jF,jD,jE,jB,jC,enP,AVA]
 have g0:=C9 h (ABlk.live 5 [z5])
 have hx:ext h (h ++ [ABlk.live 5 [z5]]):=(ext.rfl' h).app _
 generalize h ++ [ABlk.live 5 [z5]]=H at g0 hx ⊢
 generalize hb:h.length=zb at g0 ⊢
 refine (YH G nA H).use ?_
 simp -implicitDefEqProofs only [AZ,AC,AQ,AO,BD,AX,AL,AU,BO,GN,BX,BP,jF,jD,jE,jB,jC]
 refine (YH G nB H).use ?_
 simp -implicitDefEqProofs only [EU,EN,BB,A8,A7,AZ,BA,AC,AQ,AO,BD,AX,AL,DV,AA,AY,AU,BH,GN,EX,FO,CY,BV,BZ,↓reduceIte,jA,jB,jC,enP,jJ,AU9,ATG,ATF]
 have g1:=CX (x:=ABlk.live 4 [CV (vE nB)]) (C9 H (ABlk.live 4 [CV (vE nA)]))
 have g2:=C9 (H ++ [ABlk.live 4 [CV (vE nA)]]) (ABlk.live 4 [CV (vE nB)])
 have hl2:(H ++ [ABlk.live 4 [CV (vE nA)]]).length=(H ++ [ABlk.live 4 [z4]]).length:=by simp
 rw [hl2] at g2
 have gz:=CX (x:=ABlk.live 4 [CV (vE nB)]) (CX (x:=ABlk.live 4 [CV (vE nA)]) g0)
 have hx2:=(hx.app [ABlk.live 4 [CV (vE nA)]]).app [ABlk.live 4 [CV (vE nB)]]
 generalize H ++ [ABlk.live 4 [CV (vE nA)]] ++ [ABlk.live 4 [CV (vE nB)]]=H2 at g1 g2 gz hx2 ⊢
 generalize (H ++ [ABlk.live 4 [z4]]).length=b2 at g2 ⊢
 generalize H.length=b1 at g1 ⊢
 have s1:FM Tryz.prog false H2 23 2 [(0,.agg (CV (vE nA))),(1,.agg (CV (vE nB)))]=some (.sl .full 4 [CV (vE nA),CV (vE nB)],H2):=APW H2 _ _ (ER _) (ER _) (KZ _) (KZ _) (frE _) (frE _)
 have s2:FM Tryz.prog false H2 23 2 [(0,.agg (CV (vE nB))),(1,.agg cW)]=some (.sl .full 4 [CV (vE nB),cW],H2):=APW H2 _ _ (ER _) rfl (KZ _) rfl (frE _) rfl
 have s3:FM Tryz.prog false H2 23 2 [(0,.agg [.int .i64 17,.int .i64 0,.str ⟨#[]⟩,.sl .full 4 [CV (vE nA),CV (vE nB)]]),(1,.agg [.int .i64 17,.int .i64 0,.str ⟨#[]⟩,.sl .full 4 [CV (vE nB),cW]])]=some (.sl .full 4 [[.int .i64 17,.int .i64 0,.str ⟨#[]⟩,.sl .full 4 [CV (vE nA),CV (vE nB)]],[.int .i64 17,.int .i64 0,.str ⟨#[]⟩,.sl .full 4 [CV (vE nB),cW]]],H2):=APW H2 _ _ rfl rfl rfl rfl rfl rfl
 have ew:wS = [.sl .full 4 [[.str nA,.int .i64 3,.int .i64 1,.int .i64 0],[.str nB,.int .i64 3,.int .i64 1,.int .i64 0]],.sl .full 4 [[.int .i64 17,.int .i64 0,.str ⟨#[]⟩,.sl .full 4 [CV (vE nA),CV (vE nB)]],[.int .i64 17,.int .i64 0,.str ⟨#[]⟩,.sl .full 4 [CV (vE nB),cW]]],.sl .nil 0 [],.sl .nil 0 [],.sl .full 1 [[.sl .full 1 [[.int .i64 0],[.int .i64 1]]]]]:=by
  have e:CV (lE (vE nA) (vE nB)) = [.int .i64 17,.int .i64 0,.str ⟨#[]⟩,.sl .full 4 [CV (vE nA),CV (vE nB)]]:=ACW _ _ _ _ _ _
  unfold wS w2; rw [e]; rfl
 have hst:FT Tryz.prog H2 27 (.ptr zb 0 0) (.agg [.sl .full 4 [[.str nA,.int .i64 3,.int .i64 1,.int .i64 0],[.str nB,.int .i64 3,.int .i64 1,.int .i64 0]],.sl .full 4 [[.int .i64 17,.int .i64 0,.str ⟨#[]⟩,.sl .full 4 [CV (vE nA),CV (vE nB)]],[.int .i64 17,.int .i64 0,.str ⟨#[]⟩,.sl .full 4 [CV (vE nB),cW]]],.sl .nil 0 [],.sl .nil 0 [],.sl .full 1 [[.sl .full 1 [[.int .i64 0],[.int .i64 1]]]]])=some (H2.set zb (.live 5 [wS])):=by
  rw [← ew]; exact ATH gz rfl rfl rfl
 simp -implicitDefEqProofs only [EU,EN,BK,A7,AZ,BA,AC,AQ,AO,BD,AX,AL,DV,AA,AY,AU,BH,GN,FO,F9,BN,CY,BV,AB,BZ,↓reduceIte,jA,jB,jC,enP,jJ,AWX,AWW,IU g1,IU g2,s1,AUY,AUZ,s2,s3,AWU,AWV,AWY,hst]
 rw [AG6 _ _ _ _ _ _ _ _ _ (show _=AV.ptr zb 0 0 by simp -implicitDefEqProofs only [AA,↓reduceIte,jA])]
 refine ⟨.agg wS,?_,rfl,hx2.set (by omega) _⟩
 rw [GV UE SB (G5 gz) rfl (jL 5)]; rfl
end
theorem ASG (a b c d:Int):G6 Tryz.prog 34 .eql (.agg [.int .i64 a,.int .i64 b]) (.agg [.int .i64 c,.int .i64 d])=some (.bool ((a == c) && ((b == d) && true))):=by kernel_rfl
theorem AQY (a b:Rng):G6 Tryz.prog 34 .eql (.agg (encR a)) (.agg (encR b))=some (.bool (a == b)):=by
 rw [← ALM]; exact ASG _ _ _ _
theorem AQ0 (h:Hp) (r s:Rng):FM Tryz.prog false h 29 2 [(0,.agg (encR r)),(1,.agg (encR s))]=some (.sl .full 2 ([r,s].map encR),h):=by kernel_rfl
theorem ANH (op:Int) (a b:Ex):JL Tryz.prog 40 [(0,.int .i64 op),(3,.sl .full 4 [CV a,CV b])]=some (.agg (CV (.mk op 0 ⟨#[]⟩ .full [a,b]))):=by
 rw [ACW]
 have : ∀ xs:List (List AV),JL Tryz.prog 40 [(0,.int .i64 op),(3,.sl .full 4 xs)]=some (.agg [.int .i64 op,.int .i64 0,.str ⟨#[]⟩,.sl .full 4 xs]):=fun xs=>by kernel_rfl
 exact this _
section
variable (G:Nat→AV)
theorem YX (a b:List Rng) (m n:SM) (ha:a.length≤1048576) (h:Hp):PCall (En G) 10 [.sl m 2 (a.map encR),.sl n 2 (b.map encR)] h (.bool (a == b)):=by
 refine acN Tryz.func10 rfl ?_
 show awp _ _ _ _ _ (EH _ [.tmp 4] _)
 simp -implicitDefEqProofs only [BB,A8,BJ,A7,AZ,BA,AC,AQ,AO,BD,AX,AL,AA,AY,AU,BM,BI,BC,BR,FH,AB,FU,BF,CE,↓reduceIte,jA,jB,jC,enX,enP,AEM,jM]
 refine CS (fun hc => ?_) (fun hc => ?_)
 ·have hc:a.length≠b.length:=by
   intro e; rw [e] at hc; simp at hc
  simp -implicitDefEqProofs only [BB,A8,BK,A7,CQ,CW,AZ,BA,AC,AQ,AO,BD,AX,AL,AA,AU,BM,BC,↓reduceIte,jB,jC]
  refine ⟨?_,trivial⟩
  have:(a == b)=false:=by
   rw [← Bool.not_eq_true,beq_iff_eq]; exact fun e=>hc (by rw [e])
  rw [this]
 have hc:a.length=b.length:=by
  have:((a.length:Nat):Int)=((b.length:Nat):Int):=by simpa using hc
  omega
 simp -implicitDefEqProofs only [BB,CJ,A8,BQ,A7,AZ,BA,AC,AQ,AO,BD,AX,AL,AU,BH,BC,jB,jC]
 refine JC 0 (fun F H=>H=h∧a=b) (fun F H=>F 4 = .bool (a == b)∧H=h) ?_ ?_ ?_
 ·refine D8 (fun n' F H => ∃ i,n'+i=a.length∧F 0 = .sl m 2 (a.map encR)∧F 1 = .sl n 2 (b.map encR)∧F 5 = .int .i64 (i:Nat)∧H=h∧∀ j (h1:j < a.length) (h2:j < b.length),j < i→a[j]=b[j]) a.length ⟨0,by simp,by simp -implicitDefEqProofs only [AA,BF,↓reduceIte,jA],by simp -implicitDefEqProofs only [AA,BF,CE,↓reduceIte,jA],by simp -implicitDefEqProofs only [AA,↓reduceIte]; rfl,rfl,by intro j _ _ h; omega⟩ ?_
  rintro n' F H ⟨i,hi,f0,f1,f5,rfl,he⟩
  simp -implicitDefEqProofs only [BB,A8,BJ,A7,AZ,BA,AC,AQ,AO,BD,AX,AL,AA,AY,BI,BR,FH,AB,DF,↓reduceIte,jA,jB,jC,enP,AEM,f0,f5,jM]
  refine CS (fun hd => ?_) (fun hd => ?_)
  ·have hi':i < a.length:=by simpa using hd
   have hi2:i < b.length:=by omega
   simp -implicitDefEqProofs only [BB,CJ,BQ,A7]
   refine EZ (by kernel_rfl) ?_
   simp -implicitDefEqProofs only [FD,DR,CZ,D9,DU,ES,ED,IJ,FI,BJ,A7,AC,AA,AY,BN,BR,CU,AB,↓reduceIte,jA,jK,jB,enP,RQ,f0,f1,f5,EJ hi',EJ hi2,EM AFW SA O9 hi',EM AFW SA O9 hi2,AQS]
   refine CS (fun hq => ?_) (fun hq => ?_)
   ·have hq:a[i]≠b[i]:=by simpa using hq
    simp -implicitDefEqProofs only [BB,A8,BK,A7,CQ,D5,MR,FV,AZ,BA,AC,AQ,AO,BD,AX,AL,AA,AU,BM,BC,↓reduceIte,jB,jC]
    refine ⟨?_,trivial⟩
    have:(a == b)=false:=by
     rw [← Bool.not_eq_true,beq_iff_eq]; intro e; subst e; exact hq rfl
    rw [this]
   ·have hq:a[i]=b[i]:=by simpa using hq
    simp -implicitDefEqProofs only [A8,BQ,A7,EO,FK,AZ,BA,AC,AQ,AO,BD,AX,AL,AA,AY,AU,BH,BI,BC,BR,AB,DZ,↓reduceIte,jA,jB,jC,enP,f5,wrap_succ (show i < 9223372036854775807 by omega)]
    refine ⟨n' - 1,by omega,i+1,by omega,by trivial,by trivial,by trivial,trivial,fun j h1 h2 hj => ?_⟩
    rcases jT j i with q | q
    ·exact he j h1 h2 q
    ·obtain rfl:j=i:=by omega
     exact hq
  ·have hi' : ¬ i < a.length:=by simpa using hd
   simp -implicitDefEqProofs only [D6,E5,N8,GG,↓reduceIte]
   refine ⟨trivial,List.ext_getElem hc fun j h1 h2=>he j h1 h2 (by omega)⟩
 ·rintro F H ⟨rfl,rfl⟩
  simp -implicitDefEqProofs only [BB,A8,BK,A7,FY,CW,AZ,BA,AC,AQ,AO,BD,AX,AL,AA,AU,BM,BC,↓reduceIte,jB,jC]
  exact ⟨by simp,trivial⟩
 ·rintro F H ⟨f4,rfl⟩
  simp -implicitDefEqProofs only [CQ,D5,CW,f4]
  exact ⟨trivial,trivial⟩
theorem ATA:stL pS = [⟨0,7⟩,⟨0,7⟩]:=by kernel_rfl
theorem AR2:TY pS [⟨0,7⟩,⟨0,7⟩]=([⟨0,2⟩,⟨1,3⟩],0):=by kernel_rfl
theorem ASE:evP (.mk 7 0 ⟨#[]⟩ .full [vE nA,vE nB]) pS [⟨2,5⟩,⟨10,20⟩]=⟨12,25⟩:=by kernel_rfl
theorem ASD:evP (.mk 8 0 ⟨#[]⟩ .full [vE nA,vE nB]) pS [⟨2,5⟩,⟨10,20⟩]=⟨65518,65531⟩:=by kernel_rfl
theorem AUA:isT (evP (.mk 17 0 ⟨#[]⟩ .full [vE nA,vE nB]) pS [⟨2,5⟩,⟨10,20⟩])=true:=by kernel_rfl
theorem Y5:PrS pS:=by
 refine ⟨by show 2≤1048576; omega,?_,by show 2+0≤1048576; omega,?_,by show 0≤1048576; omega,fun d hd=>(by cases hd),by show 1≤1048576; omega,by show 2≤1048576; omega⟩
 ·intro v hv
  have hv:v∈[vA,vB]:=hv
  simp only [zV,List.not_mem_nil,or_false] at hv
  rcases hv with rfl | rfl <;> (show 1≤1048576; omega)
 ·intro e he
  have he:e∈[lE (vE nA) (vE nB),lE (vE nB) kE4]:=he
  simp only [zV,List.not_mem_nil,or_false] at he
  rcases he with rfl | rfl
  ·exact jH (by kernel_rfl)
  ·exact jH (by kernel_rfl)
theorem AK4 (op:Int):wt (.mk op 0 ⟨#[]⟩ .full [vE nA,vE nB])≤1048576:=jH (by kernel_rfl)
set_option maxHeartbeats 2000000 in
theorem Q7 (hG:GOk G) (h:Hp):PCall (En G) 13 [] h (.bool true):=by
 refine ACalls.pure0 rfl ?_
 refine acN Tryz.func13 rfl ?_
 show awp _ _ _ _ _ (EH _ [.tmp 0] _)
 simp -implicitDefEqProofs only [BB,A8,A7,AZ,BA,AC,AQ,AO,BD,AX,AL,AU,BO,BM,BC,BX,BP,jD,jE,jB,jC,enP]
 refine (ADY G h).use ?_
 have s0:FT Tryz.prog (h ++ [ABlk.live 5 [z5]]) 27 (.ptr h.length 0 0) (.agg (DX pS))=some (h ++ [ABlk.live 5 [DX pS]]):=by
  rw [ATH (C9 h (ABlk.live 5 [z5])) rfl (IP _) (by kernel_rfl),LX]
 simp -implicitDefEqProofs only [EU,EN,BB,A8,A7,AZ,BA,AC,AQ,AO,BD,AX,AL,DV,AA,AY,AU,BO,BH,GN,BC,EX,FO,F9,CY,BX,BP,BV,AB,BZ,jF,jD,jE,↓reduceIte,jA,jB,jC,enP,jJ,AVA,s0,OC,AQ0]
 have g1:=C9 h (ABlk.live 5 [DX pS])
 have hx:ext h (h ++ [ABlk.live 5 [DX pS]]):=(ext.rfl' h).app _
 generalize h ++ [ABlk.live 5 [DX pS]]=H at g1 hx ⊢
 generalize h.length=b1 at g1 ⊢
 have lp:DI Tryz.prog H 27 (.ptr b1 0 0)=some (.agg (DX pS)):=by rw [GV UE SB g1 (row:=DX pS) rfl (by rw [IP]; exact jL 5)]; rfl
 have bsE:FM Tryz.prog false H 23 2 [(0,.agg (CV (vE nA))),(1,.agg (CV (vE nB)))]=some (.sl .full 4 [CV (vE nA),CV (vE nB)],H):=APW H _ _ (ER _) (ER _) (KZ _) (KZ _) (frE _) (frE _)
 refine (YH G nA H).use ?_
 simp -implicitDefEqProofs only [AZ,AC,AQ,AO,BD,AX,AL,AU,BO,GN,BX,BP,jF,jD,jE,jB,jC]
 refine (YH G nB H).use ?_
 simp -implicitDefEqProofs only [EU,EN,BB,A7,AZ,BA,AC,AQ,AO,BD,AX,AL,AA,AY,BC,F9,BV,↓reduceIte,jA,jB,jC,enP,bsE]
 refine EZ (by kernel_rfl) ?_
 simp -implicitDefEqProofs only [FD,DR,CZ,DU,ES,ED,QF,EP,EF,AC,AA,AY,BO,BN,H7,AB,jF,jD,jE,↓reduceIte,jA,jK,jB,enP,lp]
 have hst:=YU G hG pS Y5 H
 rw [ATA] at hst
 refine ⟨_,hst,?_⟩
 try simp -implicitDefEqProofs only [jF,jD]
 have hnar:=TC G hG pS Y5 [⟨0,7⟩,⟨0,7⟩] (nm [(⟨0,7⟩:Rng),⟨0,7⟩]) (by decide) H
 rw [AR2] at hnar
 refine ⟨_,hnar,?_⟩
 simp -implicitDefEqProofs only [FD,zG,zK,EU,EN,DR,CZ,D9,DU,G9,QF,BB,A8,A7,AZ,AC,AQ,AO,BD,AX,AL,AA,AY,AU,BO,BH,BI,FO,BN,H7,JO,BX,BP,AB,jF,jD,jE,↓reduceIte,jA,jK,jB,jC,enP,ANH,lp]
 have e1:=XK G hG (.mk 7 0 ⟨#[]⟩ .full [vE nA,vE nB]) (AK4 7) pS Y5 [⟨2,5⟩,⟨10,20⟩] .full (by decide) H
 rw [ASE] at e1
 refine e1.use ?_
 have q1:((⟨12,25⟩:Rng) == ⟨12,25⟩)=true:=by decide
 simp -implicitDefEqProofs only [EU,EN,AZ,BL,BU,CO,GH,AC,AQ,AO,BD,AX,AL,AA,AY,AU,BO,BH,BI,FO,BN,BR,BX,BP,AB,jF,jD,jE,↓reduceIte,jA,jB,jC,enP,OC,AQY,q1,ANH,lp]
 have e2:=XK G hG (.mk 8 0 ⟨#[]⟩ .full [vE nA,vE nB]) (AK4 8) pS Y5 [⟨2,5⟩,⟨10,20⟩] .full (by decide) H
 rw [ASD] at e2
 refine e2.use ?_
 have q2:((⟨65518,65531⟩:Rng) == ⟨65518,65531⟩)=true:=by decide
 simp -implicitDefEqProofs only [EU,EN,AZ,BL,BU,CO,GH,AC,AQ,AO,BD,AX,AL,AA,AY,AU,BO,BH,BM,BI,CP,DL,FO,BN,BR,BX,BP,AB,jF,jD,jE,↓reduceIte,jA,jB,jC,enP,OC,AQY,q2,ANH,lp]
 have e3:=AF3 G hG (.mk 17 0 ⟨#[]⟩ .full [vE nA,vE nB]) (AK4 17) pS Y5 [⟨2,5⟩,⟨10,20⟩] .full (by decide) H
 rw [AUA] at e3
 refine e3.use ?_
 simp -implicitDefEqProofs only [EU,EN,AZ,BL,BU,CO,GH,AC,AQ,AO,BD,AX,AL,AA,AY,AU,BO,BH,BM,BI,CP,DL,FO,F9,BX,BP,BV,AB,jF,jD,jE,↓reduceIte,jA,jB,jC,enP,OC,AQ1,AQ0]
 have e4:=YX G [⟨0,2⟩,⟨1,3⟩] [⟨0,2⟩,⟨1,3⟩] (AEF pS [⟨0,7⟩,⟨0,7⟩]) .full (by decide) H
 have q4:(([⟨0,2⟩,⟨1,3⟩]:List Rng) == [⟨0,2⟩,⟨1,3⟩])=true:=by decide
 rw [q4] at e4
 refine e4.use ?_
 simp -implicitDefEqProofs only [BK,A7,CW,AZ,BA,BL,BU,CO,GH,AC,AQ,AO,BD,AX,AL,AA,AY,AU,BH,BM,BI,BC,CP,DL,BR,AB,DW,↓reduceIte,jA,jB,jC,enP]
 exact ⟨by trivial,hx⟩
end
theorem AOQ {r:Rng} {lo hi:Int} (h1:lo≤r.lo) (h2:r.hi≤hi):nxR r lo hi=r:=by
 unfold nxR
 cases r with | mk a b =>
 simp only at h1 h2 ⊢
 congr 1 <;> omega
theorem AL4 {s:NS} {i:Nat} {lo hi:Int} (hi':i < s.1.length) (hw:wfR s.1[i]) (h1:lo≤s.1[i].lo) (h2:s.1[i].hi≤hi):MS s i lo hi=some s:=by
 have hgd:s.1.getD i JS=s.1[i]:=by rw [List.getD_eq_getElem?_getD,List.getElem?_eq_getElem hi']; rfl
 unfold MS
 rw [hgd,AOQ h1 h2,if_neg (by have:=hw.2.1; omega),set_self hi']
 simp
theorem AO4 {s s':NS} {i:Nat} {lo hi:Int} (hi':i < s.1.length) (h:MS s i lo hi=some s') : ∃ h':i < s'.1.length,lo≤s'.1[i].lo∧s'.1[i].hi≤hi:=by
 unfold MS at h
 split at h
 ·cases h
 ·cases h
  refine ⟨by simpa using hi',?_⟩
  simp only [List.getElem_set_self]
  unfold nxR
  exact ⟨by show lo≤max _ lo; omega,by show min _ hi≤hi; omega⟩
def Sat (vars:List Vr) (l:List Rng) (d:Ds):Prop := ∃ i,i < vars.length∧d.var=(i:Nat)∧∃ h:i < l.length,(P7 d.ws).1≤l[i].lo∧l[i].hi≤(P7 d.ws).2
theorem Sat.ste {vars:List Vr} {s s':NS} {d:Ds} (h:Sat vars s.1 d) (st:Ste s s'):Sat vars s'.1 d:=by
 obtain ⟨i,h1,h2,h3,h4,h5⟩:=h
 have h3':i < s'.1.length:=by rw [st.len]; exact h3
 have:=st.sub i h3 h3'
 exact ⟨i,h1,h2,h3',by omega,by omega⟩
theorem AN5 {vars:List Vr} {s s':NS} {d:Ds} (hl:s.1.length=vars.length) (hv:LC vars d.var=true) (h:UQ s d=some s'):Sat vars s'.1 d:=by
 obtain ⟨i,hi,he,_⟩:=OO hv
 unfold UQ at h
 rw [he,zM] at h
 obtain ⟨h1,h2⟩:=AO4 (by rw [hl]; exact hi) h
 exact ⟨i,hi,he,h1,h2⟩
theorem AIT {vars:List Vr} : ∀ (ds:List Ds),(∀ d∈ds,LC vars d.var=true)→∀ (s s':NS),s.1.length=vars.length→WV ds s=some s'→∀ d∈ds,Sat vars s'.1 d
 | [],_,_,_,_,_,d,hd=>by cases hd
 | x :: ds,hv,s,s',hl,h,d,hd=>by
   have h:(UQ s x).bind (WV ds)=some s':=h
   cases hx:UQ s x with
   | none=>rw [hx] at h; cases h
   | some t =>
     rw [hx] at h
     have h2:WV ds t=some s':=h
     obtain ⟨i,hi,he,_⟩:=OO (hv x (by simp))
     have st:Ste s t:=LP (by rw [he,hl]; simpa using hi) hx
     have htl:t.1.length=vars.length:=by rw [st.len]; exact hl
     rcases zV.1 hd with rfl | hd
     ·exact (AN5 hl (hv d (by simp)) hx).ste (ZY ds (fun y hy=>hv y (by simp [hy])) t s' htl h2)
     ·exact AIT ds (fun y hy=>hv y (by simp [hy])) t s' htl h2 d hd
theorem AE7 {vars:List Vr} {l:List Rng} (hw : ∀ r∈l,wfR r) : ∀ (ds:List Ds),(∀ d∈ds,Sat vars l d)→WV ds (l,false)=some (l,false)
 | [],_=>rfl
 | d :: ds,h=>by
   obtain ⟨i,h1,h2,h3,h4,h5⟩:=h d (by simp)
   have e:UQ (l,false) d=some (l,false):=by
    unfold UQ
    rw [h2,zM]
    exact AL4 h3 (hw _ (jS h3)) h4 h5
   show (UQ (l,false) d).bind (WV ds)=_
   rw [e]
   exact AE7 hw ds fun x hx=>h x (by simp [hx])
theorem AEK {vars:List Vr} {hard:List Ex} : ∀ (n:Nat) (t s:NS),t.1.length=vars.length→t.2=true→NU vars hard n t=some s→s.2=false∧Ste (t.1,true) (s.1,true)∧QI vars hard s=some s
 | 0,t,s,_,ht,h=>by
   have e:NU vars hard 0 t=if t.2=true then none else some t:=rfl
   rw [e,if_pos ht] at h; cases h
 | n+1,t,s,hl,ht,h=>by
   have e:NU vars hard (n+1) t=if t.2=true then (QI vars hard t).bind (NU vars hard n) else some t:=rfl
   rw [e,if_pos ht] at h
   cases hr:QI vars hard t with
   | none=>rw [hr] at h; cases h
   | some u =>
     rw [hr] at h
     have h:NU vars hard n u=some s:=h
     have st:=AOH hl hr
     have hul:u.1.length=vars.length:=by rw [st.len]; exact hl
     have st1:Ste (t.1,true) (u.1,true):=⟨st.len,st.sub,st.wf,st.wd,fun _ _ => .inl rfl,fun h=>(by cases h),fun h=>h⟩
     cases hu:u.2 with
     | true =>
       obtain ⟨a,b,c⟩:=AEK n u s hul hu h
       exact ⟨a,st1.trans b,c⟩
     | false =>
       have hs:s=u:=by
        cases n with
        | zero =>
          have e:NU vars hard 0 u=if u.2=true then none else some u:=rfl
          rw [e,hu] at h
          exact (Option.some.inj h).symm
        | succ n =>
          have e:NU vars hard (n+1) u=if u.2=true then (QI vars hard u).bind (NU vars hard n) else some u:=rfl
          rw [e,hu] at h
          exact (Option.some.inj h).symm
       subst hs
       obtain ⟨_,q⟩:=st.un hu
       have q:s.1=t.1:=q
       refine ⟨hu,st1,?_⟩
       have:QI vars hard s=QI vars hard t:=by unfold QI; rw [q]
       rw [this,hr]
theorem ALJ {p:Pr} (hg:GoodP p) {l:List Rng} (hl:l.length=p.vars.length) (hw : ∀ r∈l,wfR r) {s:NS} (h:P8 p l=some s):Ste (l,true) (s.1,true)∧P8 p s.1=some s:=by
 unfold P8 at h
 cases hd:WV p.dists (l,false) with
 | none=>rw [hd] at h; cases h
 | some t =>
   rw [hd] at h
   have h:NU p.vars p.hard (wid t.1+1) (t.1,true)=some s:=h
   have st:=ZY p.dists hg.var _ _ hl hd
   have htl:t.1.length=p.vars.length:=by rw [st.len]; exact hl
   obtain ⟨a,b,c⟩:=AEK _ (t.1,true) _ htl rfl h
   have st1:Ste (l,true) (t.1,true):=⟨st.len,st.sub,st.wf,st.wd,fun _ _ => .inl rfl,fun h=>(by cases h),fun h=>h⟩
   have st2:=st1.trans b
   refine ⟨st2,?_⟩
   have hws : ∀ r∈s.1,wfR r:=st2.wf hw
   have hsat : ∀ d∈p.dists,Sat p.vars s.1 d:=fun d hdm=>(AIT p.dists hg.var _ _ hl hd d hdm).ste (s:=(t.1,true)) (s':=(s.1,true)) b
   unfold P8
   rw [AE7 hws p.dists hsat]
   show NU p.vars p.hard (wid s.1+1) (s.1,true)=some s
   have e:NU p.vars p.hard (wid s.1+1) (s.1,true)=(QI p.vars p.hard (s.1,true)).bind (NU p.vars p.hard (wid s.1)):=rfl
   have e2:QI p.vars p.hard (s.1,true)=QI p.vars p.hard s:=rfl
   rw [e,e2,c]
   show NU p.vars p.hard (wid s.1) s=some s
   cases wid s.1 with
   | zero =>
     have e:NU p.vars p.hard 0 s=if s.2=true then none else some s:=rfl
     rw [e,a]; rfl
   | succ n =>
     have e:NU p.vars p.hard (n+1) s=if s.2=true then (QI p.vars p.hard s).bind (NU p.vars p.hard n) else some s:=rfl
     rw [e,a]; rfl
theorem AR3 {p:Pr} (hs:PrS p) {l:List Rng} (h:(TY p l).2=0):LJ p=0∧RU p.vars l=true∧∃ s,P8 p l=some s∧(TY p l).1=s.1∧Ste (l,true) (s.1,true)∧(∀ r∈s.1,wfR r)∧s.1.length=l.length∧TY p s.1=(s.1,0):=by
 unfold TY at h ⊢
 by_cases hc:LJ p≠0∨RU p.vars l=false
 ·rw [if_pos hc] at h; cases h
 rw [if_neg hc] at h ⊢
 have hv:LJ p=0:=by
  rcases Classical.em (LJ p=0) with q | q
  ·exact q
  ·exact absurd (.inl q) hc
 have hf:RU p.vars l=true:=by
  cases q:RU p.vars l
  ·exact absurd (.inr q) hc
  ·rfl
 obtain ⟨hw,hl⟩:=OW.1 hf
 cases hr:P8 p l with
 | none=>rw [hr] at h; cases h
 | some s =>
   obtain ⟨st,hr2⟩:=ALJ (AQX hs hv) hl hw hr
   have hws : ∀ r∈s.1,wfR r:=st.wf hw
   have hls:s.1.length=l.length:=st.len
   have hf2:RU p.vars s.1=true:=OW.2 ⟨hws,by rw [hls]; exact hl⟩
   refine ⟨hv,hf,s,rfl,rfl,st,hws,hls,?_⟩
   rw [if_neg (by rw [hv,hf2]; simp),hr2]
theorem AOX {p:Pr} {l:List Rng} (h:(TY p l).2≠0):(TY p l).1 = []:=by
 unfold TY at h ⊢
 by_cases hc:LJ p≠0∨RU p.vars l=false
 ·rw [if_pos hc]
 rw [if_neg hc] at h ⊢
 cases hr:P8 p l with
 | none=>rfl
 | some s=>rw [hr] at h; exact absurd rfl h
theorem ARZ {w:Int} (h0:0≤w) (h:w≤8):G6 Tryz.prog 3 .shl (.int .i64 1) (.int .i64 w)=some (.int .i64 (2 ^ w.toNat)):=by
 obtain ⟨n,rfl⟩:=Int.eq_ofNat_of_zero_le h0
 have:=ARU n (by omega)
 rw [this]
 simp
section
variable (G:Nat→AV)
set_option maxHeartbeats 1000000 in
theorem AJG (p:Pr) (hs:PrS p) (h:Hp):PCall (En G) 12 [.agg (DX p)] h (.sl (nm (stL p)) 2 ((stL p).map encR)):=by
 refine TM AMM ?_
 refine acN Tryz.func12 rfl ?_
 show awp _ _ _ _ _ (EH _ [.tmp 2] _)
 have ge:=C9 h (ABlk.live 5 [DX p])
 have hx:ext h (h ++ [ABlk.live 5 [DX p]]):=(ext.rfl' h).app _
 have lp:DI Tryz.prog (h ++ [ABlk.live 5 [DX p]]) 27 (.ptr h.length 0 0)=some (.agg (DX p)):=by rw [GV UE SB ge (row:=DX p) rfl (by rw [IP]; exact jL 5)]; rfl
 simp -implicitDefEqProofs only [BB,A8,A7,AZ,BA,AC,AQ,AO,BD,AX,AL,AA,AY,AU,BO,LG,BC,FN,BN,BX,BP,BV,AB,BF,jF,jD,jE,↓reduceIte,jA,jB,jC,enP,UC,lp]
 generalize h ++ [ABlk.live 5 [DX p]]=H0 at ge hx lp ⊢
 generalize h.length=eb at ge lp ⊢
 refine (AJB G p hs H0).use ?_
 simp -implicitDefEqProofs only [BJ,A7,AZ,BA,AC,AQ,AO,BD,AX,AL,AA,AY,AU,BH,BR,AB,FU,↓reduceIte,jB,jC,enP]
 refine CS (fun hc => ?_) (fun hc => ?_)
 ·have hc:LJ p≠0:=by simpa using hc
  simp -implicitDefEqProofs only [BB,A8,BK,A7,CQ,CW,AZ,BA,AC,AQ,AO,BD,AX,AL,AA,AU,LG,BC,↓reduceIte,jB,jC]
  have e:stL p = []:=by unfold stL; rw [if_pos hc]
  rw [e]
  exact ⟨hx,outG.nil _ _ _ _⟩
 have hc:LJ p=0:=by simpa using hc
 have e:stL p=p.vars.map stR:=by unfold stL; rw [if_neg (by simpa using hc)]
 rw [e]
 obtain ⟨hlen,hvar⟩:=AH3 (WG hc).1
 simp -implicitDefEqProofs only [BB,CJ,A8,BQ,A7,AZ,BA,AC,AQ,AO,BD,AX,AL,AU,BH,LG,BC,jB,jC]
 refine D8 (fun n F H => ∃ i u,n+i=p.vars.length∧F 1 = .ptr eb 0 0∧F 3=u∧F 4 = .int .i64 (i:Nat)∧ext H0 H∧outG 2 encR H0 ((p.vars.take i).map stR) u H) p.vars.length
  ⟨0,.sl .nil 0 [],by simp,by simp -implicitDefEqProofs only [AA,↓reduceIte,jA],by simp -implicitDefEqProofs only [AA,↓reduceIte,jA],by simp -implicitDefEqProofs only [AA,↓reduceIte]; rfl,ext.rfl' _,outG.nil _ _ _ _⟩ ?_
 rintro n F H ⟨i,u,hi,f1,f3,f4,hxH,ho⟩
 have l0:DI Tryz.prog H 22 (.ptr eb 0 0)=some (.sl p.vm 4 (p.vars.map FC)):=by rw [DC UF (FX hxH ge) (row:=DX p) rfl]; rfl
 simp -implicitDefEqProofs only [BB,A8,BJ,A7,AZ,BA,AC,AQ,AO,BD,AX,AL,AA,AY,BI,BN,BR,BG,FH,AB,DF,↓reduceIte,jA,jI,jB,jC,enP,QA,KT,f1,f4,l0,jM]
 refine CS (fun hc => ?_) (fun hc => ?_)
 ·have hi':i < p.vars.length:=by simpa using hc
  obtain ⟨_,hbad⟩:=hvar _ (jS hi')
  obtain ⟨w1,w8,_⟩:=AK6 hbad
  have g5:=C9 H (ABlk.live 4 [FC p.vars[i]])
  have ho1:=ho.app [ABlk.live 4 [FC p.vars[i]]]
  have hx1:=hxH.app [ABlk.live 4 [FC p.vars[i]]]
  simp -implicitDefEqProofs only [BB,CJ,A8,BQ,A7,AZ,BA,AC,AQ,AO,BD,AX,AL,DV,AA,AY,BI,EX,BN,CY,BG,CU,BV,AB,BZ,↓reduceIte,jA,jI,jG,jB,jC,enP,RS,KT,LD,jJ,f1,f4,l0,EJ hi',ldV hi',AQA,AOC]
  generalize H ++ [ABlk.live 4 [FC p.vars[i]]]=H1 at g5 ho1 hx1 ⊢
  generalize H.length=vb at g5 ⊢
  have d1:DI Tryz.prog H1 3 (.ptr vb 0 1)=some (.int .i64 p.vars[i].width):=by rw [DC ag3 g5 (row:=FC p.vars[i]) rfl]; rfl
  have d2:DI Tryz.prog H1 3 (.ptr vb 0 2)=some (.int .i64 p.vars[i].mode):=by rw [DC ag3 g5 (row:=FC p.vars[i]) rfl]; rfl
  have d3:DI Tryz.prog H1 3 (.ptr vb 0 3)=some (.int .i64 p.vars[i].value):=by rw [DC ag3 g5 (row:=FC p.vars[i]) rfl]; rfl
  obtain ⟨v',H',ha,ho',_,hx',_,_⟩:=ho1.append (P:=Tryz.prog) AJC SA AQ8 APU (by omega) (by rw [jM,List.length_take]; omega) hx1 (stR p.vars[i])
  have htk:(p.vars.take i).map stR ++ [stR p.vars[i]]=(p.vars.take (i+1)).map stR:=by rw [zY hi',List.map_append]; rfl
  rw [htk] at ho'
  simp -implicitDefEqProofs only [BJ,A7,AZ,BA,AC,AQ,AO,BD,AX,AL,AA,AY,AU,BH,BR,AB,DW,↓reduceIte,jB,jC,enP,d2]
  refine CS (fun hm => ?_) (fun hm => ?_)
  ·have hm:p.vars[i].mode=0:=by simpa using hm
   have er:stR p.vars[i]=⟨p.vars[i].value,p.vars[i].value⟩:=by unfold stR; rw [if_pos hm]
   rw [er] at ha
   simp -implicitDefEqProofs only [EU,EN,A8,A7,EO,FK,AZ,BA,AC,AQ,AO,BD,AX,AL,AA,AY,AU,BH,BI,BC,FO,F9,BN,BR,BG,MK,BV,AB,DZ,↓reduceIte,jA,jG,jB,jC,enP,SY,f3,d3,OC,APV,ha,f4,wrap_succ (show i < 9223372036854775807 by omega)]
   exact ⟨n - 1,by omega,i+1,v',by omega,by trivial,by trivial,by trivial,hx',ho'⟩
  ·have hm : ¬ p.vars[i].mode=0:=by simpa using hm
   have er:stR p.vars[i]=⟨0,2 ^ p.vars[i].width.toNat - 1⟩:=by unfold stR; rw [if_neg hm]
   rw [er] at ha
   have:=ATO w8
   have:=U1 p.vars[i].width.toNat
   simp -implicitDefEqProofs only [EU,EN,A8,A7,EO,FK,AZ,BA,AC,AQ,AO,BD,AX,AL,AA,AY,AU,BH,BI,BC,FO,F9,BN,BR,BG,MK,BV,AB,DZ,JJ,↓reduceIte,jA,jG,jB,jC,enP,L8,f3,d1,ARZ (show 0≤p.vars[i].width by omega) w8,wrap_i64 (n:=2 ^ p.vars[i].width.toNat - 1) (by omega) (by omega),AQ1,APV,ha,f4,wrap_succ (show i < 9223372036854775807 by omega)]
   exact ⟨n - 1,by omega,i+1,v',by omega,by trivial,by trivial,by trivial,hx',ho'⟩
 ·have hi' : ¬ i < p.vars.length:=by simpa using hc
  rw [jY (by omega)] at ho
  simp -implicitDefEqProofs only [BB,A8,BK,D6,A7,E5,FY,GG,CW,AZ,BA,AC,AQ,AO,BD,AX,AL,AA,AY,BI,BC,↓reduceIte,jA,jB,jC,f3]
  refine ⟨hx.trans hxH,?_⟩
  rcases ho with ⟨a,b⟩ | ⟨a,o,b,c,d⟩
  ·exact .inl ⟨a,b⟩
  ·exact .inr ⟨a,o,Nat.le_trans hx.le b,c,d⟩
theorem ASZ (hG:GOk G) (p:Pr) (hs:PrS p) (h:Hp):PCall (En G) 3 [.agg (DX p)] h (.bool true):=by
 refine ACalls.pure0 rfl ?_
 refine acN Tryz.func3 rfl ?_
 show awp _ _ _ _ _ (EH _ [.tmp 2] _)
 have ge:=C9 h (ABlk.live 5 [DX p])
 have hx:ext h (h ++ [ABlk.live 5 [DX p]]):=(ext.rfl' h).app _
 have lp:DI Tryz.prog (h ++ [ABlk.live 5 [DX p]]) 27 (.ptr h.length 0 0)=some (.agg (DX p)):=by rw [GV UE SB ge (row:=DX p) rfl (by rw [IP]; exact jL 5)]; rfl
 have hlen:(stL p).length≤1048576:=by
  unfold stL
  split
  ·simp
  ·rw [jM]; exact hs.vars
 simp -implicitDefEqProofs only [BB,A8,A7,AZ,BA,AC,AQ,AO,BD,AX,AL,AY,AU,BM,BC,FN,BV,BF,jB,jC,enP,UC]
 generalize h ++ [ABlk.live 5 [DX p]]=H at ge hx lp ⊢
 generalize h.length=eb at ge lp ⊢
 refine EZ (by kernel_rfl) ?_
 simp -implicitDefEqProofs only [FD,DR,CZ,DU,D7,EW,ES,ED,EP,EF,CO,AC,AA,AY,BO,BN,AB,jF,jD,jE,↓reduceIte,jA,jK,jB,enP,lp]
 refine ⟨_,YU G hG p hs H,?_⟩
 try simp -implicitDefEqProofs only [lp]
 refine ⟨_,AJG G p hs H,?_⟩
 try simp -implicitDefEqProofs only []
 have hsm:=YX G (stL p) (stL p) (nm (stL p)) (nm (stL p)) hlen H
 have q:(stL p == stL p)=true:=by simp
 rw [q] at hsm
 refine ⟨_,hsm,?_⟩
 try simp -implicitDefEqProofs only [FD,DR,CZ,D9,DU,PL,G9,FZ,EP,EF,BK,A7,CW,AC,AA,AY,AU,BO,BM,CP,DL,jD,jE,↓reduceIte,jA,jK,jB]
 refine ⟨_,Q7 G hG H,?_⟩
 simp -implicitDefEqProofs only []
 exact ⟨by trivial,hx⟩
end
section
variable (G:Nat→AV)
set_option maxHeartbeats 2000000 in
theorem AS0 (hG:GOk G) (p:Pr) (hs:PrS p) (l:List Rng) (m:SM) (hl:l.length≤1048576) (h:Hp):PCall (En G) 7 [.agg (DX p),.sl m 2 (l.map encR)] h (.bool true):=by
 refine ACalls.pure0 rfl ?_
 refine acN Tryz.func7 rfl ?_
 show awp _ _ _ _ _ (EH _ [.tmp 4] _)
 have ge:=C9 h (ABlk.live 5 [DX p])
 have hx:ext h (h ++ [ABlk.live 5 [DX p]]):=(ext.rfl' h).app _
 simp -implicitDefEqProofs only [BB,CJ,A8,A7,AZ,BA,AC,AQ,AO,BD,AX,AL,AA,AY,AU,BH,BM,BI,BC,FN,FH,BV,AB,BF,CE,↓reduceIte,jA,jB,jC,enP,AEM,UC,jM]
 generalize h ++ [ABlk.live 5 [DX p]]=H0 at ge hx ⊢
 generalize h.length=eb at ge ⊢
 refine JC 0 (fun F H=>F 1 = .sl m 2 (l.map encR)∧F 2 = .ptr eb 0 0∧ext H0 H) (fun F H=>F 4 = .bool true∧ext H0 H) ?_ ?_ ?_
 ·refine D8 (fun n F H => ∃ i,n+i=l.length∧F 1 = .sl m 2 (l.map encR)∧F 2 = .ptr eb 0 0∧F 12 = .sl m 2 (l.map encR)∧F 13 = .int .i64 (l.length:Nat)∧F 14 = .int .i64 (i:Nat)∧ext H0 H) l.length ⟨0,by simp,by simp -implicitDefEqProofs only [AA,BF,CE,↓reduceIte,jA],by simp -implicitDefEqProofs only [AA,↓reduceIte,jA],by simp -implicitDefEqProofs only [AA,↓reduceIte,jA],by simp -implicitDefEqProofs only [AA,↓reduceIte,jA],by simp -implicitDefEqProofs only [AA,↓reduceIte]; rfl,ext.rfl' _⟩ ?_
  rintro n F H ⟨i,hi,f1,f2,f12,f13,f14,hxH⟩
  simp -implicitDefEqProofs only [BB,A8,BJ,A7,AZ,BA,AC,AQ,AO,BD,AX,AL,AA,AY,BR,AB,DF,↓reduceIte,jB,jC,enP,f13,f14]
  refine CS (fun hc => ?_) (fun hc => ?_)
  ·have hi':i < l.length:=by simpa using hc
   have g6:=C9 H (ABlk.live 2 [encR l[i]])
   simp -implicitDefEqProofs only [BB,CJ,A8,BQ,A7,AZ,BA,AC,AQ,AO,BD,AX,AL,DV,AA,AY,EX,BN,CY,BG,CU,BV,AB,BZ,↓reduceIte,jA,jG,jB,jC,enP,RQ,GZ,jJ,f12,f14,EJ hi',EM AFW SA O9 hi',OD,VJ]
   have hx3:=hxH.app [ABlk.live 2 [encR l[i]]]
   generalize H ++ [ABlk.live 2 [encR l[i]]]=H1 at g6 hx3 ⊢
   generalize H.length=rb at g6 ⊢
   simp -implicitDefEqProofs only [BJ,A7,AZ,BA,AC,AQ,AO,BD,AX,AL,AA,AY,AU,BH,BR,AB,E8,↓reduceIte,jB,jC,enP,H6 g6]
   refine CS (fun h1 => ?_) (fun h1 => ?_)
   ·simp -implicitDefEqProofs only [BB,A8,AZ,AC,AQ,AO,BD,AX,BO,BX,BP,jD,jE,jB,jC]
    refine (Q7 G hG H1).use ?_
    simp -implicitDefEqProofs only [BK,A7,CQ,D5,MR,FV,AZ,BA,AC,AQ,AO,BD,AX,AL,AA,AY,BC,↓reduceIte,jB,jC]
    exact ⟨trivial,hx3⟩
   ·simp -implicitDefEqProofs only [A8,BQ,A7,EO,FK,AZ,BA,AC,AQ,AO,BD,AX,AL,AA,AY,AU,BH,BI,BR,AB,DZ,↓reduceIte,jA,jB,jC,enP,f14,wrap_succ (show i < 9223372036854775807 by omega)]
    exact ⟨n - 1,by omega,i+1,by omega,by trivial,by trivial,by trivial,by trivial,by trivial,hx3⟩
  ·simp -implicitDefEqProofs only [D6,E5,N8,GG,AA,↓reduceIte,jA]
   exact ⟨f1,f2,hxH⟩
 ·rintro F H ⟨f1,f2,hxH⟩
  have geH:=FX hxH ge
  have hxx:=hx.trans hxH
  have lp:DI Tryz.prog H 27 (.ptr eb 0 0)=some (.agg (DX p)):=by rw [GV UE SB geH (row:=DX p) rfl (by rw [IP]; exact jL 5)]; rfl
  simp -implicitDefEqProofs only [BB,A8,A7,FY,AZ,AC,AQ,AO,BD,AX,AL,AA,AY,BO,BI,BN,BX,BP,AB,jF,jD,jE,↓reduceIte,jA,jB,jC,enP,f1,f2,lp]
  refine (TC G hG p hs l m hl H).use ?_
  simp -implicitDefEqProofs only [zG,zK,BB,A8,BJ,A7,AZ,BA,AC,AQ,AO,BD,AX,AL,AA,AY,AU,BH,BI,BC,BR,H7,JO,AB,FU,↓reduceIte,jA,jB,jC,enP]
  refine CS (fun h1 => ?_) (fun h1 => ?_)
  ·have h1:(TY p l).2≠0:=by simpa using h1
   have ha:=AOX h1
   have hz:(((List.map encR (TY p l).1).length:Nat):Int)=0:=by rw [ha]; rfl
   have hz2:(((TY p l).1.length:Nat):Int)=0:=by rw [ha]; rfl
   have hd:(((TY p l).1.length:Nat):Int) == 0:=by rw [hz2]; rfl
   simp -implicitDefEqProofs only [BB,A8,AZ,BL,BU,CO,GH,AC,AQ,AO,BD,AX,AL,AA,AY,AU,BO,BH,BI,BR,FH,BX,BP,AB,DW,jD,jE,↓reduceIte,jA,jB,jC,enP,AEM,jM,hd]
   refine (Q7 G hG H).use ?_
   simp -implicitDefEqProofs only [BK,A7,CQ,CW,AZ,BA,AC,AQ,AO,BD,AX,AL,AA,AY,AU,BM,BC,CP,DL,↓reduceIte,jA,jB,jC,hd]
   exact ⟨by trivial,hxx⟩
  have h1:(TY p l).2=0:=by simpa using h1
  obtain ⟨hv,hf,s,hr,ha,st,hws,hls,hn2⟩:=AR3 hs h1
  rw [ha]
  have hle:(((s.1.length:Nat):Int) != ((l.length:Nat):Int))=false:=by rw [hls]; simp
  simp -implicitDefEqProofs only [BB,CJ,A8,BQ,BJ,A7,EC,AZ,BA,AC,AQ,AO,BD,AX,AL,AA,AY,AU,BH,BI,BR,FH,AB,FU,↓reduceIte,jA,jB,jC,enP,AEM,f1,jM,hle]
  refine JC 2 (fun F H'=>F 2 = .ptr eb 0 0∧F 7 = .sl (AEF p l) 2 (s.1.map encR)∧H'=H) (fun _ _=>False) ?_ ?_ (fun _ _ q=>q.elim)
  ·refine D8 (fun n F H' => ∃ i,n+i=s.1.length∧F 1 = .sl m 2 (l.map encR)∧F 2 = .ptr eb 0 0∧F 7 = .sl (AEF p l) 2 (s.1.map encR)∧F 43 = .int .i64 (s.1.length:Nat)∧F 44 = .int .i64 (i:Nat)∧H'=H) s.1.length ⟨0,by simp,by simp -implicitDefEqProofs only [AA,↓reduceIte,jA,f1],by simp -implicitDefEqProofs only [AA,↓reduceIte,jA,f2],by simp -implicitDefEqProofs only [AA,↓reduceIte,jA],by simp -implicitDefEqProofs only [AA,↓reduceIte,jA],by simp -implicitDefEqProofs only [AA,↓reduceIte]; rfl,rfl⟩ ?_
   clear f1 f2
   rintro n F H' ⟨i,hi,f1,f2,f7,f43,f44,rfl⟩
   simp -implicitDefEqProofs only [BB,A8,BJ,A7,AZ,BA,AC,AQ,AO,BD,AX,AL,AA,AY,BR,AB,DF,↓reduceIte,jB,jC,enP,f43,f44]
   refine CS (fun hc => ?_) (fun hc => ?_)
   ·have hi':i < s.1.length:=by simpa using hc
    have hil:i < l.length:=by omega
    have hsub:=st.sub i hil hi'
    have hwr:=hws _ (jS hi')
    have a0:DI Tryz.prog H' 3 (.fptr 2 (s.1.map encR) i 0)=some (.int .i64 s.1[i].lo):=by rw [GR ag3 hi']; rfl
    have a1:DI Tryz.prog H' 3 (.fptr 2 (s.1.map encR) i 1)=some (.int .i64 s.1[i].hi):=by rw [GR ag3 hi']; rfl
    have b0:DI Tryz.prog H' 3 (.fptr 2 (l.map encR) i 0)=some (.int .i64 l[i].lo):=by rw [GR ag3 hil]; rfl
    have b1:DI Tryz.prog H' 3 (.fptr 2 (l.map encR) i 1)=some (.int .i64 l[i].hi):=by rw [GR ag3 hil]; rfl
    have c1:decide (s.1[i].lo < l[i].lo)=false:=by
     have q:l[i].lo≤s.1[i].lo:=hsub.1
     rw [decide_eq_false_iff_not]; omega
    have c2:decide (s.1[i].hi > l[i].hi)=false:=by
     have q:s.1[i].hi≤l[i].hi:=hsub.2
     rw [decide_eq_false_iff_not]; omega
    have c3:decide (s.1[i].lo > s.1[i].hi)=false:=by rw [decide_eq_false_iff_not]; have:=hwr.2.1; omega
    simp -implicitDefEqProofs only [BB,CJ,A8,BQ,A7,AZ,BA,AC,AQ,AO,BD,AX,AL,AA,AY,BI,BC,↓reduceIte,jA,jB,jC,f44]
    refine EZ (by kernel_rfl) ?_
    simp -implicitDefEqProofs only [FD,DR,CZ,D9,DU,D7,EW,MX,ES,FZ,ED,IJ,DK,FI,A8,BQ,BJ,A7,EO,FK,EC,AZ,BA,CO,AC,AQ,AO,BD,AX,AL,AA,AY,AU,BH,BM,BI,CP,DN,BN,BR,BG,CU,AB,DZ,DF,E8,↓reduceIte,jA,jK,jI,jG,jB,jC,enP,RQ,GK,GZ,f1,f7,EJ hi',EJ hil,a0,a1,b0,b1,c1,c2,c3,f44,wrap_succ (show i < 9223372036854775807 by omega)]
    exact ⟨n - 1,by omega,i+1,by omega,by trivial,by trivial,by trivial,by trivial,by trivial,trivial⟩
   ·simp -implicitDefEqProofs only [D6,E5,N8,GG,AA,↓reduceIte,jA]
    exact ⟨f2,f7,trivial⟩
  ·clear f1 f2
   rintro F H' ⟨f2,f7,rfl⟩
   have hnar:=TC G hG p hs s.1 (AEF p l) (by omega) H'
   rw [hn2] at hnar
   simp -implicitDefEqProofs only [BB,A8,A7,FY,AZ,AC,AQ,AO,BD,AX,AL,AA,AY,BO,BI,BN,BX,BP,AB,jF,jD,jE,↓reduceIte,jA,jB,jC,enP,f2,f7,lp]
   refine hnar.use ?_
   simp -implicitDefEqProofs only [zG,zK,BB,A8,A7,AZ,BA,BL,BU,CO,GH,AC,AQ,AO,BD,AX,AL,AA,AY,AU,BO,BH,BI,BC,BR,H7,JO,BX,BP,AB,DW,jF,jD,jE,↓reduceIte,jA,jB,jC,enP,f7,Int.reduceBEq,beq_self_eq_true]
   have hsm:=YX G s.1 s.1 (AEF p l) (AEF p s.1) (by omega) H'
   have q:(s.1 == s.1)=true:=by simp
   rw [q] at hsm
   refine hsm.use ?_
   simp -implicitDefEqProofs only [AZ,BL,BU,CO,GH,AC,AQ,AO,BD,AX,AL,AA,AY,AU,BO,BM,BI,CP,DL,BX,BP,jD,jE,↓reduceIte,jA,jB,jC]
   refine (Q7 G hG H').use ?_
   simp -implicitDefEqProofs only [BK,A7,CW,AZ,BA,AC,AQ,AO,BD,AX,AL,AA,AY,AU,BM,BC,CP,DL,↓reduceIte,jA,jB,jC]
   exact ⟨by trivial,hxx⟩
 ·rintro F H ⟨f4,hxH⟩
  simp -implicitDefEqProofs only [CQ,D5,CW,f4]
  exact ⟨trivial,hx.trans hxH⟩
end
end Go.Proofs.YtokehnfjjmpanaaGreatDoor.Bd
