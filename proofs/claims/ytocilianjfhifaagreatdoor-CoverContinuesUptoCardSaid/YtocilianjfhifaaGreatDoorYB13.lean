/- Part 13 of the proof (X28); no condition. -/
import Derived.Test.YtocilianjfhifaaGreatDoorYB12
set_option linter.unusedVariables false
set_option linter.unusedSimpArgs false
set_option maxRecDepth 8000
namespace Go.Proofs.YtocilianjfhifaaGreatDoor.Xe
open Sm Bins Cov Wd Go.RowKit
theorem AT2 {m:Mo} {s:St} (h:FitS m s):TkOk (tkA s):=⟨(AMY h).num,(AMY h).len⟩
theorem AM9 (m:Mo) (c:Cvr) (t:Tk) (env:List Sg):TkOk (Q3 m c t env):=by
 unfold Q3
 split
 ·rename_i h
  obtain ⟨h1,h2,h3⟩:=ABH h
  exact AT2 ((ADA h1 h2).step h3)
 ·exact ACQ
section
variable (G:Nat→AV)
theorem ABM (m:Mo) : ∀ (l:List (List Sg)) (s:St),(∀ (k:Nat) (hk:k < l.length),PY m ((l.take k).foldl (stp m) s) l[k]=0)→NY m s l=(0,l.foldl (stp m) s)
 | [],_,_=>rfl
 | e :: r,s,h=>by
   have hz:PY m s e=0:=h 0 (by simp)
   show (if PY m s e≠0 then (PY m s e,s) else NY m (stp m s e) r)=_
   rw [if_neg (fun q=>q hz)]
   exact ABM m r (stp m s e) (fun k hk=>h (k+1) (by simpa using hk))
theorem RunOk.pre {m:Mo} {l:List (List Sg)} (R:RunOk m l) (k:Nat) (hk:k≤l.length):QA m (l.take k)=cvS (stK m l k)∧VK m (l.take k)=0:=by
 have h:=ABM m (l.take k) (zS m) (fun j hj=>by
  have hj':j < k:=by rw [List.length_take] at hj; omega
  have:=R.er j (by omega)
  unfold stK at this
  rw [List.take_take,Nat.min_eq_left (by omega),List.getElem_take]
  exact this)
 have e:(l.take k).foldl (stp m) (zS m)=stK m l k:=rfl
 rw [e] at h
 refine ⟨?_,?_⟩
 ·unfold QA
  rw [h,if_pos ⟨R.me,rfl⟩]
 ·unfold VK
  rw [if_pos R.me,h]
structure Cnu (m:Mo) (l:List (List Sg)) (k:Nat) (c:Cvr) (t:Tk):Prop where
 eq:stO c t=stK m l k
 cv:CvOk c
 tk:TkOk t
 fit:LC m c=true
 trk:VC m t=true
theorem AQJ (s:St):stO (cvS s) (tkA s)=s:=AT7 s
theorem AQG {m:Mo} {s:St} (h:FitS m s):VC m (tkA s)=true:=h.trk
theorem Cnu.step {m:Mo} {l:List (List Sg)} (R:RunOk m l) {k:Nat} {c:Cvr} {t:Tk} (h:Cnu m l k c t) (hk:k < l.length):QO m c t l[k]=0∧Cnu m l (k+1) (Q5 m c t l[k]) (Q3 m c t l[k]):=by
 have hE:QO m c t l[k]=0:=by
  unfold QO
  rw [if_pos R.me,if_pos (by rw [h.fit,h.trk]; rfl),h.eq]
  exact R.er k hk
 have hF:=R.fit (k+1) (by omega)
 have e1:Q5 m c t l[k]=cvS (stK m l (k+1)):=by unfold Q5; rw [if_pos hE,h.eq,← RG m hk]
 have e2:Q3 m c t l[k]=tkA (stK m l (k+1)):=by unfold Q3; rw [if_pos hE,h.eq,← RG m hk]
 refine ⟨hE,?_,AQN _ _ _ _,AM9 _ _ _ _,?_,?_⟩
 ·rw [e1,e2,AQJ]
 ·rw [e1]; exact hF.fits
 ·rw [e2]; exact AQG hF
theorem ASB {m:Mo} (h:FW m=0):VC m (emT m)=true:=by
 have:=AU0 h
 unfold emT
 unfold ADP at this
 rw [if_pos h] at this ⊢
 exact this
theorem AU2 (m:Mo):TkOk (emT m):=by
 have:=ASD m
 unfold ADP at this
 unfold emT
 split
 ·rename_i q; rw [if_pos q] at this; exact ⟨this.num,this.len⟩
 ·exact ACQ
theorem AQK {m:Mo} (h:FW m=0):stO (emV m) (emT m)=zS m:=by
 rw [← AT6 h]
 unfold stO emT ADP
 rw [if_pos h,if_pos h]
set_option maxHeartbeats 4000000 in
theorem AP5 (hG:GOk G) (hT:PX G) (m:Mo) (hm:MoOk m) (l:List Ss) (s:SM) (q:Int) (h:Hp) (hl:l.length≤1048576) (he : ∀ x∈l,x.l.length≤1048576∧∀ s∈x.l,AS0 s) :
  PCall (En G) 16 [.agg (EC m),.sl s 1 (l.map KF),.int .i64 q] h (.bool true):=by
 refine ACalls.pure0 rfl ?_
 refine CE (H:=hint [70,89] []) (enM G) Tryz.func16 rfl (by kernel_rfl) (by kernel_rfl) (nLb (by kernel_rfl)) ?_
 show awp _ _ _ _ _ (D9 _ [.tmp 6] _)
 have gm:=C9 h (ABlk.live 2 [EC m])
 have hx:ext h (h ++ [ABlk.live 2 [EC m]]):=(ext.rfl' h).app _
 simp -implicitDefEqProofs only [CY,List.contains_cons,List.contains_nil,Nat.reduceBEq,Bool.or_false,BC,BA,A8,AY,BB,AL,BD,AX,AC,AA,AZ,AU,BJ,A7,FX,BQ,BX,BF,↓reduceIte,Nat.reduceEqDiff,oGs,bNf,enP,CZ,bxM]
 generalize h ++ [ABlk.live 2 [EC m]]=H0 at gm hx ⊢
 simp -implicitDefEqProofs only [CY,List.contains_cons,List.contains_nil,Nat.reduceBEq,Bool.or_false,AY,AL,BD,AX,AC,AA,AZ,CB,CG,BP,AB,lMc,lMn,lAn,↓reduceIte,oGs,bNf,CZ,ldM gm]
 refine (Rk.small_some G m hm H0).use ?_
 intro b
 cases b
 ·simp -implicitDefEqProofs only [CY,List.contains_cons,List.contains_nil,Nat.reduceBEq,Bool.or_false,BC,BA,BL,A8,DU,AY,BB,BH,BN,CO,FP,AL,BD,AX,AC,AA,EJ,AZ,AU,CB,BJ,BG,CQ,DR,GV,CG,BP,AB,EX,lMn,lAn,↓reduceIte,Nat.reduceEqDiff,oGs,bNf,CZ]
  refine (TN G hG hT H0).use ?_
  simp -implicitDefEqProofs only [CY,List.contains_cons,List.contains_nil,Nat.reduceBEq,Bool.or_false,BK,A8,CX,CP,AY,BB,AL,BD,AX,AC,AA,AZ,A7,↓reduceIte,oGs,bNf,CZ]
  exact ⟨by first | trivial | rfl,hx⟩
 simp -implicitDefEqProofs only [CY,List.contains_cons,List.contains_nil,Nat.reduceBEq,Bool.or_false,AY,BH,BN,CO,EG,AL,BD,AX,AC,AA,AZ,CB,BG,GV,CG,BP,AB,EX,BF,BO,lMc,lMn,lAn,↓reduceIte,Nat.reduceEqDiff,oGs,bNt,bNf,CZ]
 refine (AWO G l s hl H0).use ?_
 intro b
 cases b
 ·simp -implicitDefEqProofs only [CY,List.contains_cons,List.contains_nil,Nat.reduceBEq,Bool.or_false,BC,BA,BL,A8,DU,AY,BB,BH,BN,CO,EG,FP,AL,BD,AX,AC,AA,EJ,AZ,AU,CB,BJ,BG,CQ,DR,DN,GV,CG,BP,AB,EX,lMn,lAn,↓reduceIte,Nat.reduceEqDiff,oGs,bNf,CZ]
  refine (TN G hG hT H0).use ?_
  simp -implicitDefEqProofs only [CY,List.contains_cons,List.contains_nil,Nat.reduceBEq,Bool.or_false,BK,A8,CX,CP,AY,BB,AL,BD,AX,AC,AA,AZ,A7,↓reduceIte,oGs,bNf,CZ]
  exact ⟨by first | trivial | rfl,hx⟩
 simp -implicitDefEqProofs only [CY,List.contains_cons,List.contains_nil,Nat.reduceBEq,Bool.or_false,AY,BH,BN,CO,EG,AL,BD,AX,AC,AA,AZ,AU,BI,BJ,BG,CQ,DN,BU,GV,AB,DT,EX,BF,BO,↓reduceIte,Nat.reduceEqDiff,oGs,bNt,bNf,enP,CZ]
 rcases Bool.eq_false_or_eq_true (decide (q < 0)) with h1 | h1
 ·simp -implicitDefEqProofs only [CY,List.contains_cons,List.contains_nil,Nat.reduceBEq,Bool.or_false,BC,BA,BL,A8,DU,AY,BB,BH,BN,CO,FP,AL,BD,AX,AC,AA,EJ,AZ,AU,CB,BJ,CQ,DR,CG,BP,lMn,lAn,↓reduceIte,Nat.reduceEqDiff,oGs,bNf,CZ,h1]
  refine (TN G hG hT H0).use ?_
  simp -implicitDefEqProofs only [CY,List.contains_cons,List.contains_nil,Nat.reduceBEq,Bool.or_false,BK,A8,CX,CP,AY,BB,AL,BD,AX,AC,AA,AZ,A7,↓reduceIte,oGs,bNf,CZ]
  exact ⟨by first | trivial | rfl,hx⟩
 simp -implicitDefEqProofs only [CY,List.contains_cons,List.contains_nil,Nat.reduceBEq,Bool.or_false,BL,A8,AY,BB,BH,BN,CO,EG,AL,BD,AX,AC,AA,AZ,AU,BJ,BG,CQ,DN,BU,D8,AB,FU,BF,BO,↓reduceIte,Nat.reduceEqDiff,oGs,bNf,enP,ALB,CZ,h1,lLm]
 rcases Bool.eq_false_or_eq_true (decide (q > ((l.length:Nat):Int))) with h2 | h2
 ·simp -implicitDefEqProofs only [CY,List.contains_cons,List.contains_nil,Nat.reduceBEq,Bool.or_false,BC,BA,DU,AY,AL,BD,AX,CB,CG,BP,lMn,lAn,oGs,bNf,CZ,h2]
  refine (TN G hG hT H0).use ?_
  simp -implicitDefEqProofs only [CY,List.contains_cons,List.contains_nil,Nat.reduceBEq,Bool.or_false,BK,A8,CX,CP,AY,BB,AL,BD,AX,AC,AA,AZ,A7,↓reduceIte,oGs,bNf,CZ]
  exact ⟨by first | trivial | rfl,hx⟩
 have hq0:0≤q:=by have:=of_decide_eq_false h1; omega
 have hq1:q≤((l.length:Nat):Int):=by have:=of_decide_eq_false h2; omega
 obtain ⟨n0,rfl⟩ : ∃ n:Nat,q=(n:Int):=⟨q.toNat,by omega⟩
 have hn0:n0≤l.length:=by omega
 simp -implicitDefEqProofs only [CY,List.contains_cons,List.contains_nil,Nat.reduceBEq,Bool.or_false,BC,BA,BR,A8,D5,AY,AL,BD,AX,AC,AA,AZ,CB,BG,BQ,CG,BP,AB,BF,BO,lMc,lMn,lAn,↓reduceIte,Nat.reduceEqDiff,oGs,bNf,enP,CZ,h2,ldM gm]
 refine (AAS G hG hT m hm l s H0 hl (fun x hx=>(he x hx).1)).use ?_
 have gm1:=CJ (x:=ABlk.live 4 [ES (QA m (l.map Ss.l))]) gm
 have gw1:=C9 H0 (ABlk.live 4 [ES (QA m (l.map Ss.l))])
 have hx1:=hx.app [ABlk.live 4 [ES (QA m (l.map Ss.l))]]
 have hmlt:=BZ gm
 have hlt:H0.length < (H0 ++ [ABlk.live 4 [ES (QA m (l.map Ss.l))]]).length:=by simp
 simp -implicitDefEqProofs only [List.getElem?_cons_zero,List.getElem?_cons_succ,CY,List.contains_cons,List.contains_nil,Nat.reduceBEq,Bool.or_false,BC,BA,BL,A8,AY,BB,AL,BD,AX,AC,EM,AA,AZ,AU,BI,BG,A7,EZ,D6,BU,FT,IG,BX,AB,DI,EQ,↓reduceIte,Nat.reduceEqDiff,oGs,bNf,enP,CZ,Option.getD_none,NQ,AJC]
 generalize H0 ++ [ABlk.live 4 [ES (QA m (l.map Ss.l))]]=H1 at gm1 gw1 hx1 hlt ⊢
 generalize H0.length=wb at gw1 hmlt hlt ⊢
 clear gm hx
 cases hb:(VK m (l.map Ss.l) == 0)
 ·simp -implicitDefEqProofs only [CY,List.contains_cons,List.contains_nil,Nat.reduceBEq,Bool.or_false,BC,BA,DU,AY,AL,BD,AX,CB,CG,BP,lMn,lAn,oGs,bNf,CZ,bne,hb]
  refine (TN G hG hT H1).use ?_
  simp -implicitDefEqProofs only [CY,List.contains_cons,List.contains_nil,Nat.reduceBEq,Bool.or_false,BK,A8,CX,CP,AY,BB,AL,BD,AX,AC,AA,AZ,A7,↓reduceIte,oGs,bNf,CZ]
  exact ⟨by first | trivial | rfl,hx1⟩
 have R:=ANE (by simpa using hb:VK m (l.map Ss.l)=0)
 have hLl:(l.map Ss.l).length=l.length:=by simp
 have hLk : ∀ (k:Nat) (hk:k < l.length),(l.map Ss.l)[k]'(by rw [hLl]; exact hk)=l[k].l:=fun k hk=>by simp
 simp -implicitDefEqProofs only [CY,List.contains_cons,List.contains_nil,Nat.reduceBEq,Bool.or_false,BC,BA,BR,A8,D5,AY,AL,BD,AX,AC,AA,AZ,CB,BQ,CG,BP,AB,lMc,lMn,lAn,↓reduceIte,Nat.reduceEqDiff,oGs,bNt,bNf,enP,CZ,bne,hb,ldM gm1]
 have hEp:=AIZ G hG m hm H1
 rw [R.me] at hEp
 refine hEp.use ?_
 obtain ⟨s1,s2,g9,g10,hx5⟩:=AUO H1 (emV m) (emT m)
 have gm2:=EK hx5 gm1
 have gw2:=EK hx5 gw1
 have hx2:=hx1.trans hx5
 have htl:(H1 ++ [ABlk.live 4 [FD]]).length=H1.length+1:=by simp
 simp -implicitDefEqProofs only [List.getElem?_cons_zero,List.getElem?_cons_succ,CY,List.contains_cons,List.contains_nil,Nat.reduceBEq,Bool.or_false,BC,BV,BA,A8,AY,BB,AL,BD,AX,AC,EM,AA,AZ,AU,BI,BG,A7,EZ,D6,FT,IG,BX,AB,DI,↓reduceIte,Nat.reduceEqDiff,oGs,bNf,enP,CZ,Option.getD_none,NQ,XB,s1,s2]
 generalize ((H1 ++ [ABlk.live 4 [FD]] ++ [ABlk.live 1 [E8]]).set H1.length (ABlk.live 4 [ES (emV m)])).set (H1 ++ [ABlk.live 4 [FD]]).length (ABlk.live 1 [I7 (emT m)])=H2 at g9 g10 gm2 gw2 hx2 ⊢
 generalize (H1 ++ [ABlk.live 4 [FD]]).length=tb at g10 htl ⊢
 generalize H1.length=cb at g9 hlt htl ⊢
 clear s1 s2 hx5 gm1 gw1 hx1
 have hcn0:Cnu m (l.map Ss.l) 0 (emV m) (emT m):=⟨by rw [AQK R.me]; rfl,AU1 m,AU2 m,ASC R.me,ASB R.me⟩
 have c0:((0:Int) == 0)=true:=rfl
 refine JJ 0 (fun F H => ∃ c t,F 3 = .ptr h.length 0 0∧F 7 = .ptr wb 0 0∧F 9 = .ptr cb 0 0∧F 10 = .ptr tb 0 0∧F 11 = .int .i64 0∧H[h.length]? = some (.live 2 [EC m])∧H[wb]? = some (.live 4 [ES (QA m (l.map Ss.l))])∧H[cb]? = some (.live 4 [ES c])∧H[tb]? = some (.live 1 [I7 t])∧Cnu m (l.map Ss.l) l.length c t∧ext h H) (fun _ _=>False) ?_ ?_ (fun _ _ hh=>hh.elim)
 ·refine DY (fun n F H => ∃ i c t,n+i=l.length∧F 1 = .sl s 1 (l.map KF)∧F 2 = .int .i64 (n0:Nat)∧F 3 = .ptr h.length 0 0∧F 7 = .ptr wb 0 0∧F 9 = .ptr cb 0 0∧F 10 = .ptr tb 0 0∧F 11 = .int .i64 0∧F 12 = .int .i64 (i:Nat)∧H[h.length]? = some (.live 2 [EC m])∧H[wb]? = some (.live 4 [ES (QA m (l.map Ss.l))])∧H[cb]? = some (.live 4 [ES c])∧H[tb]? = some (.live 1 [I7 t])∧Cnu m (l.map Ss.l) i c t∧ext h H) l.length
   ⟨0,emV m,emT m,by simp,by simp -implicitDefEqProofs only [AA,BF,BO,↓reduceIte,Nat.reduceEqDiff],by simp -implicitDefEqProofs only [AA,BF,BO,↓reduceIte,Nat.reduceEqDiff],by simp -implicitDefEqProofs only [AA,↓reduceIte,Nat.reduceEqDiff],by simp -implicitDefEqProofs only [AA,↓reduceIte,Nat.reduceEqDiff],by simp -implicitDefEqProofs only [AA,↓reduceIte,Nat.reduceEqDiff],by simp -implicitDefEqProofs only [AA,↓reduceIte,Nat.reduceEqDiff],by simp -implicitDefEqProofs only [AA,↓reduceIte,Nat.reduceEqDiff],by simp -implicitDefEqProofs only [AA,↓reduceIte] <;> rfl,gm2,gw2,g9,g10,hcn0,hx2⟩ ?_
  clear gm2 gw2 g9 g10 hx2
  rintro n F H ⟨i,c,t,hi,f1,f2,f3,f7,f9,f10,f11,f12,gm,gw,gc,gt,hcn,hx⟩
  simp -implicitDefEqProofs only [CY,List.contains_cons,List.contains_nil,Nat.reduceBEq,Bool.or_false,BC,BA,AY,BH,BN,CO,AL,BD,AX,AC,AA,AZ,BG,BU,D8,AB,DT,↓reduceIte,Nat.reduceEqDiff,oGs,bNf,enP,ALB,CZ,f1,f12,lLm]
  cases hc:decide (((i:Nat):Int) < ((l.length:Nat):Int))
  ·have hi':i=l.length:=by
    have : ¬ i < l.length:=by simpa using hc
    omega
   subst hi'
   simp -implicitDefEqProofs only [CY,List.contains_cons,List.contains_nil,Nat.reduceBEq,Bool.or_false,DW,BL,A8,ER,O1,FM,D5,AY,BB,BH,BN,CO,G5,AL,BD,AX,AC,AA,EJ,AZ,AU,BJ,CQ,DN,↓reduceIte,Nat.reduceEqDiff,oGs,bNf,CZ]
   exact ⟨c,t,by first | trivial | exact f3,by first | trivial | exact f7,by first | trivial | exact f9,by first | trivial | exact f10,by first | trivial | exact f11,gm,gw,gc,gt,hcn,hx⟩
  have hi':i < l.length:=by simpa using hc
  have hiL:i < (l.map Ss.l).length:=by omega
  have hhl:=hx.le
  simp -implicitDefEqProofs only [CY,List.contains_cons,List.contains_nil,Nat.reduceBEq,Bool.or_false,BC,BV,BA,BR,BL,A8,DU,AY,BB,BH,BN,CO,FV,AL,BD,AX,AC,AA,AZ,AU,BI,BJ,BG,CQ,DR,BU,AB,DX,↓reduceIte,Nat.reduceEqDiff,oGs,bNf,enP,CZ,f11,c0,f12,f2]
  refine QF (fun F H=>F 1 = .sl s 1 (l.map KF)∧F 2 = .int .i64 (n0:Nat)∧F 3 = .ptr h.length 0 0∧F 7 = .ptr wb 0 0∧F 9 = .ptr cb 0 0∧F 10 = .ptr tb 0 0∧F 12 = .int .i64 (i:Nat)∧H[h.length]? = some (.live 2 [EC m])∧H[wb]? = some (.live 4 [ES (QA m (l.map Ss.l))])∧H[cb]? = some (.live 4 [ES c])∧H[tb]? = some (.live 1 [I7 t])∧ext h H) (fun _ _=>False) ?_ ?_ ?_ (fun _ _ hh=>hh.elim)
  ·intro hbq
   have hin:i=n0:=by
    have:=eq_of_beq hbq
    omega
   obtain ⟨p1,p2⟩:=R.pre n0 (by omega)
   have hsl : ∀ H:Hp,KT Tryz.prog H 64 (.sl s 1 (l.map KF)) none (some (.int .i64 ((n0:Nat):Int))) none=some (.sl (ASJ s n0 l.length) 1 ((l.take n0).map KF)):=fun H=>by
    rw [AVY AVM AT3 (h:=H) (m:=s) (kk := .i64) (xs:=l.map KF) (u:=n0) (by simp; omega),List.map_take,lLm]
   have hrun : ∀ x:Hp,PCall (En G) 48 [.agg (EC m),.sl (ASJ s n0 l.length) 1 ((l.take n0).map KF)] (H ++ x) (.tup [.agg (ES (QA m ((l.map Ss.l).take n0))),.int .i64 (VK m ((l.map Ss.l).take n0))]):=fun x=>by
    rw [← List.map_take]
    exact AAS G hG hT m hm (l.take n0) _ (H ++ x) (by rw [List.length_take]; omega) (fun x hx=>(he x (List.mem_of_mem_take hx)).1)
   rw [p1,p2] at hrun
   simp -implicitDefEqProofs only [BC]
   refine F7 (by kernel_rfl) ?_
   simp -implicitDefEqProofs only [GR,Option.map_some,Option.map_none,CY,List.contains_cons,List.contains_nil,Nat.reduceBEq,Bool.or_false,EU,D7,EW,G7,F9,AP9,J9,IJ,ACD,AA,AZ,CB,BQ,YH,FT,AB,lMc,lMn,lAn,↓reduceIte,Nat.reduceEqDiff,Nat.reduceAdd,oGs,enP,f1,f2,f3,ldM gm,hsl]
   refine ⟨_,hrun,?_⟩
   have gm2:=CJ (x:=ABlk.live 4 [ES (cvS (stK m (l.map Ss.l) n0))]) gm
   have gw2:=CJ (x:=ABlk.live 4 [ES (cvS (stK m (l.map Ss.l) n0))]) gw
   have gc2:=CJ (x:=ABlk.live 4 [ES (cvS (stK m (l.map Ss.l) n0))]) gc
   have gt2:=CJ (x:=ABlk.live 4 [ES (cvS (stK m (l.map Ss.l) n0))]) gt
   have gp2:=C9 H (ABlk.live 4 [ES (cvS (stK m (l.map Ss.l) n0))])
   have hx2:=hx.app [ABlk.live 4 [ES (cvS (stK m (l.map Ss.l) n0))]]
   have hcvk:CvOk (cvS (stK m (l.map Ss.l) n0)):=TM (R.fit n0 (by omega)).fits
   have hsame:eqV (cvS (stK m (l.map Ss.l) n0)) c=true:=by
    rw [AJ6,← hin,← hcn.eq,AKC]
   simp -implicitDefEqProofs only [GR,List.getElem?_cons_zero,List.getElem?_cons_succ,CY,List.contains_cons,List.contains_nil,Nat.reduceBEq,Bool.or_false,EU,D7,JW,FZ,EW,J5,YG,JK,J9,BC,BA,A8,AY,BH,BN,CO,EG,AL,BD,AX,AC,AA,AZ,AU,BI,BG,EZ,BQ,D6,BU,FT,IG,BX,AB,DI,EQ,↓reduceIte,Nat.reduceEqDiff,Nat.reduceAdd,Nat.zero_add,oGs,bNt,bNf,enP,CZ,Option.getD_none,NQ,AJC,bne,c0]
   generalize H ++ [ABlk.live 4 [ES (cvS (stK m (l.map Ss.l) n0))]]=Ha at gm2 gw2 gc2 gt2 gp2 hx2 ⊢
   simp -implicitDefEqProofs only [CY,List.contains_cons,List.contains_nil,Nat.reduceBEq,Bool.or_false,BH,BN,CO,EG,AL,BD,AX,AC,AA,AZ,CB,BQ,CG,BP,AB,lMc,lMn,lAn,↓reduceIte,Nat.reduceEqDiff,oGs,bNf,enP,CZ,f9,ldV gp2,ldV gc2]
   refine (ANA G _ _ Ha hcvk hcn.cv).use ?_
   rw [hsame]
   simp -implicitDefEqProofs only [CY,List.contains_cons,List.contains_nil,Nat.reduceBEq,Bool.or_false,BR,BL,A8,OC,D5,AY,BB,BH,BN,CO,EG,AL,BD,AX,AC,AA,AZ,AU,BJ,CQ,DN,GV,AB,EX,↓reduceIte,Nat.reduceEqDiff,oGs,bNt,bNf,CZ]
   exact ⟨by first | trivial | exact f1,by first | trivial | exact f2,by first | trivial | exact f3,by first | trivial | exact f7,by first | trivial | exact f9,by first | trivial | exact f10,by first | trivial | exact f12,gm2,gw2,gc2,gt2,hx2⟩
  ·intro _
   simp -implicitDefEqProofs only [BR,OC,AA,↓reduceIte,Nat.reduceEqDiff]
   exact ⟨by first | trivial | exact f1,by first | trivial | exact f2,by first | trivial | exact f3,by first | trivial | exact f7,by first | trivial | exact f9,by first | trivial | exact f10,by first | trivial | exact f12,gm,gw,gc,gt,hx⟩
  clear f1 f2 f3 f7 f9 f10 f11 f12 gm gw gc gt hx
  rintro F H ⟨f1,f2,f3,f7,f9,f10,f12,gm,gw,gc,gt,hx⟩
  obtain ⟨hE,hcn2⟩:=hcn.step R hiL
  have hci:=hcn.cv
  have hti:=hcn.tk
  have hl1:=(he _ (List.getElem_mem hi')).1
  rw [hLk i hi'] at hE hcn2
  obtain ⟨s1,s2,g6,g7,hx5⟩:=AUO H (Q5 m c t l[i].l) (Q3 m c t l[i].l)
  have hlt:=BZ gt
  have hltc:=BZ gc
  simp -implicitDefEqProofs only [BC,A8]
  refine YN (fun F H' => ∃ b15 b16,F 1 = .sl s 1 (l.map KF)∧F 2 = .int .i64 (n0:Nat)∧F 3 = .ptr h.length 0 0∧F 7 = .ptr wb 0 0∧F 9 = .ptr cb 0 0∧F 10 = .ptr tb 0 0∧F 12 = .int .i64 (i:Nat)∧F 15 = .ptr b15 0 0∧F 16 = .ptr b16 0 0∧F 17 = .int .i64 0∧H'[b15]? = some (.live 4 [ES (Q5 m c t l[i].l)])∧H'[b16]? = some (.live 1 [I7 (Q3 m c t l[i].l)])∧tb < b15∧tb < b16∧ext H H') (fun _ _=>False) ?_ ?_ (fun _ _ hh=>hh.elim)
  ·refine AGO [] [0,1,2,3,4,5,6,7,8,9,10,11] 12 13 [14,15,16] (by kernel_rfl) trivial ?_
   simp only [MI,List.getElem?_cons_succ,List.getElem?_cons_zero]
   simp -implicitDefEqProofs only [GR,CY,List.contains_cons,List.contains_nil,Nat.reduceBEq,Bool.or_false,Bool.or_true,EU,D7,EW,G7,YG,F9,GG,J9,IJ,ACD,AA,AZ,CB,EZ,BQ,CV,FT,AB,lMc,lMn,lAn,↓reduceIte,Nat.reduceEqDiff,Nat.reduceAdd,oGs,enP,ARU,f1,f3,f9,f10,f12,ldM gm,ldV gc,ldT gt,EF hi',EI APT hi',AIA]
   have hsm : ∀ x:Hp,PCall (En G) 72 [.agg (EC m),.agg (ES c),.agg (I7 t),.sl l[i].m 2 (l[i].l.map GH)] (H ++ x) (.tup [.agg (ES (Q5 m c t l[i].l)),.agg (I7 (Q3 m c t l[i].l)),.int .i64 (QO m c t l[i].l)]):=fun x=>AGY G hG hT m hm c hci t hti l[i].l l[i].m _ (by omega)
   rw [hE] at hsm
   refine ⟨_,hsm,?_⟩
   try simp -implicitDefEqProofs only [GR,List.getElem?_cons_zero,List.getElem?_cons_succ,CY,List.contains_cons,List.contains_nil,Nat.reduceBEq,Bool.or_false,EU,D7,FZ,EW,J9,AA,AZ,FT,IG,AB,↓reduceIte,Nat.reduceEqDiff,Nat.reduceAdd,oGs]
   have e10:(H ++ [ABlk.live 4 [FD]]).length=H.length+1:=by simp
   have e11:(H ++ [ABlk.live 1 [E8]]).length=H.length+1:=by simp
   refine ⟨?_,?_⟩
   ·simp -implicitDefEqProofs only [GR,CY,List.contains_cons,List.contains_nil,Nat.reduceBEq,Bool.or_false,EU,D7,JW,FZ,EW,J5,YG,JK,OC,AA,AZ,EZ,D6,BX,DI,↓reduceIte,Nat.reduceEqDiff,Nat.reduceAdd,Nat.zero_add,oGs,enP,Option.getD_none,NQ,XB,s1,s2]
    exact ⟨_,_,by first | trivial | exact f1,by first | trivial | exact f2,by first | trivial | exact f3,by first | trivial | exact f7,by first | trivial | exact f9,by first | trivial | exact f10,by first | trivial | exact f12,by first | trivial | rfl,by first | trivial | rfl,by first | trivial | rfl,g6,g7,by omega,by omega,hx5⟩
   ·have t1:EY Tryz.prog (H ++ [ABlk.live 1 [E8]] ++ [ABlk.live 4 [FD]]) 28 (.ptr (H ++ [ABlk.live 1 [E8]]).length 0 0) (.agg (ES (Q5 m c t l[i].l)))=some (H ++ [ABlk.live 1 [E8]] ++ [ABlk.live 4 [ES (Q5 m c t l[i].l)]]):=by
     rw [stV (C9 _ _) rfl,TB]
    have t2:=stT (t:=Q3 m c t l[i].l) (CJ (x:=ABlk.live 4 [ES (Q5 m c t l[i].l)]) (C9 H (ABlk.live 1 [E8]))) rfl
    simp -implicitDefEqProofs only [GR,CY,List.contains_cons,List.contains_nil,Nat.reduceBEq,Bool.or_false,EU,D7,JW,FZ,EW,J5,YG,JK,OC,AA,AZ,EZ,D6,BX,DI,↓reduceIte,Nat.reduceEqDiff,Nat.reduceAdd,Nat.zero_add,oGs,enP,Option.getD_none,NQ,XB,t1,t2]
    exact ⟨_,_,by first | trivial | exact f1,by first | trivial | exact f2,by first | trivial | exact f3,by first | trivial | exact f7,by first | trivial | exact f9,by first | trivial | exact f10,by first | trivial | exact f12,by first | trivial | rfl,by first | trivial | rfl,by first | trivial | rfl,CU (C9 _ _) (by omega),DZ (CJ (C9 _ _)),by omega,by omega,(((ext.rfl' H).app _).app _).set (Nat.le_refl _) _⟩
  clear f1 f2 f3 f7 f9 f10 f12 s1 s2 g6 g7 hx5
  rintro F H' ⟨b15,b16,f1,f2,f3,f7,f9,f10,f12,f15,f16,f17,g6,g7,hb15,hb16,hx5⟩
  have gm2:=EK hx5 gm
  have gw2:=EK hx5 gw
  have gc2:=EK hx5 gc
  have gt2:=EK hx5 gt
  have hx2:=hx.trans hx5
  have gm3:(H'.set cb (.live 4 [ES (Q5 m c t l[i].l)]))[h.length]? = _:=CU gm2 (by omega)
  have gw3:(H'.set cb (.live 4 [ES (Q5 m c t l[i].l)]))[wb]? = _:=CU gw2 (by omega)
  have gt3:(H'.set cb (.live 4 [ES (Q5 m c t l[i].l)]))[tb]? = _:=CU gt2 (by omega)
  have g73:(H'.set cb (.live 4 [ES (Q5 m c t l[i].l)]))[b16]? = _:=CU g7 (by omega)
  simp -implicitDefEqProofs only [CY,List.contains_cons,List.contains_nil,Nat.reduceBEq,Bool.or_false,BC,BA,A8,EP,FC,AY,BB,AL,BD,AX,AC,EM,AA,AZ,AU,BI,BG,A7,BQ,D6,BU,AB,DI,DV,↓reduceIte,Nat.reduceEqDiff,oGs,bNf,enP,CZ,Option.getD_none,f9,f15,ldV g6,stV gc2 rfl,f10,f16,ldT g73,stT gt3 rfl,f17,f12,wrap_succ (show i < 9223372036854775807 by omega)]
  exact ⟨n - 1,by omega,i+1,_,_,by omega,by first | trivial | exact f1,by first | trivial | exact f2,by first | trivial | exact f3,by first | trivial | exact f7,by first | trivial | exact f9,by first | trivial | exact f10,by first | trivial | rfl,by first | trivial | rfl,CU gm3 (by omega),CU gw3 (by omega),CU (DZ gc2) (show cb≠tb by omega),DZ gt3,hcn2,(hx2.set (by omega) _).set (by omega) _⟩
 ·clear gm2 gw2 g9 g10 hx2
  rintro F H ⟨c,t,f3,f7,f9,f10,f11,gm,gw,gc,gt,hcn,hx⟩
  have hsame:eqV (QA m (l.map Ss.l)) c=true:=by
   rw [AJ6,R.val,hLl,← hcn.eq,AKC]
  simp -implicitDefEqProofs only [CY,List.contains_cons,List.contains_nil,Nat.reduceBEq,Bool.or_false,BC,BA,A8,FN,AY,BH,BN,CO,FV,AL,BD,AX,AC,AA,AZ,AU,CB,BI,BG,BQ,BU,CG,BP,AB,DX,lMc,lMn,lAn,↓reduceIte,Nat.reduceEqDiff,oGs,bNf,enP,CZ,f7,f9,f11,c0,ldV gw,ldV gc]
  refine (ANA G _ _ H (AQU m _) hcn.cv).use ?_
  rw [hsame]
  simp -implicitDefEqProofs only [CY,List.contains_cons,List.contains_nil,Nat.reduceBEq,Bool.or_false,AY,BH,BN,CO,FV,AL,BD,AX,AC,AA,AZ,AU,CB,BJ,BG,CQ,DR,BQ,CG,BP,AB,lMc,lMn,lAn,↓reduceIte,Nat.reduceEqDiff,oGs,bNf,enP,CZ,f3,f10,ldM gm,ldT gt]
  refine (X7 G hG m hm t hcn.tk H).use ?_
  rw [hcn.trk]
  simp -implicitDefEqProofs only [CY,List.contains_cons,List.contains_nil,Nat.reduceBEq,Bool.or_false,AY,BH,BN,CO,FV,AL,BD,AX,AC,AA,AZ,AU,CB,BJ,BG,CQ,DR,CG,BP,lMn,lAn,↓reduceIte,Nat.reduceEqDiff,oGs,bNf,CZ]
  refine (TN G hG hT H).use ?_
  simp -implicitDefEqProofs only [CY,List.contains_cons,List.contains_nil,Nat.reduceBEq,Bool.or_false,BK,A8,CP,AY,BB,AL,BD,AX,AC,AA,AZ,AU,BJ,A7,CQ,DR,↓reduceIte,Nat.reduceEqDiff,oGs,bNf,CZ]
  exact ⟨by first | trivial | rfl,hx⟩
end
end Go.Proofs.YtocilianjfhifaaGreatDoor.Xe
