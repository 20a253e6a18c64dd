/- Part 12 of the proof (W8, W9, Wa, Wb, Wc, Wd, We, Wf); no condition. -/
import Derived.Test.YtokehnfjjmpanaaGreatDoorYB11
set_option linter.unusedVariables false
set_option linter.unusedSimpArgs false
set_option maxRecDepth 8000
namespace Go.Proofs.YtokehnfjjmpanaaGreatDoor.Bd
open Sm Bins Cov Xe Wd Go.RowKit
open Bool renaming not_false→jC,eq_iff_iff→qZ,or_false→jM
open Int renaming toNat_natCast→zG,le_refl→qK,eq_ofNat_of_zero_le→zI
open List renaming length_map→jR,take_zero→zC,drop_eq_nil_of_le→zS,take_succ_eq_append_getElem→zY,getElem?_set_ne→zL,getElem_mem→jT,length_take→qG,map_cons→jF,map_nil→jD,append_nil→jE,mem_cons_of_mem→qU,take_of_length_le→jY,getD_eq_getElem?_getD→zF,getElem?_eq_getElem→jU,getElem?_map→zA,contains_cons→jO,contains_nil→jP,getElem?_cons_succ→zD,getElem?_cons_zero→zB,length_set→qH,take_succ_cons→zT,nil_append→zJ,cons_append→zV,drop_eq_getElem_cons→zO
open Nat renaming le_refl→jQ,le_of_ble_eq_true→jJ,reduceEqDiff→jA,zero_add→jG,add_zero→jH,reduceAdd→jL,reduceBEq→jI
open Option renaming getD_some→jB,getD_none→jK,map_some→qP
theorem YH {e:Ex} (h:JH e=0):1≤e.op∧e.op≤25∧(e.op=4∨e.op=5∨e.op=6∨e.op=25→e.args.length=1)∧(e.op=22→e.args.length=3)∧(e.op=23→e.args.length % 2=1∧3≤e.args.length)∧(7≤e.op→e.op≤21→e.args.length=2):=by
 have hO:VG e=false:=by
  unfold JH at h
  cases hb:VG e
  ·rfl
  ·rw [hb] at h; simp at h
 have hN:AC9 e=false:=by
  unfold JH at h
  cases hb:AC9 e
  ·rfl
  ·rw [hO,hb] at h; simp at h
 have hS:Z8 e=false:=by
  unfold JH at h
  cases hb:Z8 e
  ·rfl
  ·rw [hO,hN,hb] at h; simp at h
 have hops:WU e.op e.args.length=true:=by
  unfold Z8 at hS
  rw [Bool.or_eq_false_iff] at hS
  simpa using hS.2
 have h1:1≤e.op∧e.op≤25:=by unfold VG at hO; simp at hO; omega
 have har:e.op≠23→((e.args.length:Nat):Int)=arity e.op:=fun n23=>by
  unfold WU at hops
  rw [if_neg (by simpa using n23)] at hops
  simpa using hops
 refine ⟨h1.1,h1.2,fun q => ?_,fun q => ?_,fun q => ?_,fun q1 q2 => ?_⟩
 ·have:=har (by omega)
  unfold arity at this
  rw [if_neg (by omega),if_neg (by omega),if_pos (by omega)] at this
  omega
 ·have:=har (by omega)
  rw [q] at this
  simp [arity] at this; omega
 ·unfold WU at hops; rw [q] at hops; simp at hops; omega
 ·have:=har (by omega)
  unfold arity at this
  rw [if_neg (by omega),if_neg (by omega),if_neg (by omega),if_neg (by omega),if_neg (by omega)] at this
  omega
def arR (vs:List Rng) (n:Nat):List (List AV):=vs.map encR ++ List.replicate (n - vs.length) zR
theorem ASP (n:Nat):arR [] n=List.replicate n zR:=by simp [arR]
theorem ASQ {vs:List Rng} {n:Nat} (h:vs.length=n):arR vs n=vs.map encR:=by simp [arR,h]
theorem AVO {vs:List Rng} {n:Nat} (h:vs.length < n) (r:Rng):(arR vs n).set vs.length (encR r)=arR (vs ++ [r]) n:=by
 unfold arR
 rw [List.set_append_right _ _ (by simp)]
 simp only [jR,Nat.sub_self]
 obtain ⟨m,hm⟩ : ∃ m,n - vs.length=m+1:=⟨n - vs.length - 1,by omega⟩
 rw [hm,List.replicate_succ,List.set_cons_zero]
 have:n - (vs ++ [r]).length=m:=by simp; omega
 rw [this]; simp
theorem AYS {vs:List Rng} {n:Nat} (h:vs.length < n):(arR vs n)[vs.length]? = some zR:=by
 unfold arR
 rw [List.getElem?_append_right (by simp),jR,Nat.sub_self,List.getElem?_replicate,if_pos (by omega)]
theorem A2S (h:Hp) (n:Nat) (hn:n≤1048576):J5 Tryz.prog true h 29 (.int .i64 (n:Int)) (.int .i64 (n:Int))=some (.own h.length 0 n,h ++ [.live 2 (arR [] n)]):=by
 have hz:OE Tryz.prog 34=some zR:=by kernel_rfl
 have hr:room n 16:=PV (by omega) (by omega)
 unfold J5
 simp only [AG2,VC,AR6,hz,zG]
 rw [if_pos ⟨by omega,qK _,hr,rfl⟩,ASP]; rfl
theorem AFH {H:Hp} {b i:Nat} {xs:List (List AV)} {row:List AV} (r:Rng) (hb:H[b]? = some (.live 2 xs)) (hi:xs[i]? = some row) (hr:row.length=2):GM Tryz.prog H 34 (.ptr b i 0) (.agg (encR r))=some (H.set b (.live 2 (xs.set i (encR r)))):=by
 rw [I5 (cs:=encR r) (U2 rfl) VC hb hi (by rw [hr]; exact jQ 2)]
 have:splice row 0 (encR r)=encR r:=by unfold splice; rw [zC,zS (by rw [hr]; exact jQ 2)]; simp
 rw [this]
theorem A2F {H:Hp} {b n:Nat} {xs:List (List AV)} (hb:H[b]? = some (.live 2 xs)) (h1:1≤n):LD Tryz.prog H 29 (.own b 0 n) (some (.int .i64 1)) none none=some (.own b 1 (n - 1)):=by
 unfold LD
 simp only [AG2,hb,VC,JY]
 simp [h1]
theorem AXC {H:Hp} {b:Nat} {vs:List Rng} {n:Nat} (r:Rng) (hb:H[b]? = some (.live 2 (arR vs n))) (h:vs.length < n):GM Tryz.prog H 34 (.ptr b vs.length 0) (.agg (encR r))=some (H.set b (.live 2 (arR (vs ++ [r]) n))):=by
 rw [AFH r hb (AYS h) rfl,AVO h]
theorem AEL (p:List Vr) (l:List Rng) (xs:List Ex) (j:Nat) (hj:j < xs.length):MQ p l (xs.take (j+1))=MQ p l (xs.take j) ++ [evS p l xs[j]]:=by
 rw [J6,J6,zY hj,List.map_append]; rfl
structure Lp (h H:Hp) (eb bz ob:Nat) (e:Ex) (rows:List (List AV)):Prop where
 ge:H[eb]? = some (ABlk.live 4 [CW e])
 gz:H[bz]? = some (ABlk.live 2 [zR])
 go:H[ob]? = some (ABlk.live 2 rows)
 hx:Sm.ext h H
 hz:h.length≤bz
 ho:h.length≤ob
 n1:eb≠ob
 n2:bz≠ob
theorem Lp.app {h H:Hp} {eb bz ob:Nat} {e:Ex} {rows:List (List AV)} (q:Lp h H eb bz ob e rows) (x:ABlk):Lp h (H ++ [x]) eb bz ob e rows :=
 ⟨DC q.ge,DC q.gz,DC q.go,q.hx.app _,q.hz,q.ho,q.n1,q.n2⟩
theorem Lp.put {h H:Hp} {eb bz ob:Nat} {e:Ex} {rows:List (List AV)} (q:Lp h H eb bz ob e rows) (rows':List (List AV)):Lp h (H.set ob (.live 2 rows')) eb bz ob e rows' :=
 ⟨by rw [zL (Ne.symm q.n1)]; exact q.ge,by rw [zL (Ne.symm q.n2)]; exact q.gz,G7 q.go,q.hx.set q.ho _,q.hz,q.ho,q.n1,q.n2⟩
theorem Lp.z {h H:Hp} {eb bz ob:Nat} {e:Ex} {rows:List (List AV)} (q:Lp h H eb bz ob e rows):Z0 h H bz:=⟨q.gz,q.hx,q.hz⟩
section
variable (G:Nat→AV)
set_option maxHeartbeats 4000000 in
theorem ZV (vars:List Vr) (l:List Rng) (hl:l.length=vars.length) (hw : ∀ r∈l,wfR r) (vb:Nat) (e:Ex):(pre e).length≤1048576→(∀ x∈pre e,JH x=0)→∀ h:Hp,EvO h vb vars l→PCall (En G) 49 [.ptr vb 0 0,.agg (CW e)] h (.agg (encR (evS vars l e))):=by
 induction e using Ex.induct with | h e ih => ?_
 intro hwt hval h hev
 have hpl:=congrArg List.length (pre_eq e)
 rw [List.length_cons] at hpl
 have hal:e.args.length≤1048576:=by have:=TN e.args; omega
 have hnode:=hval e (by rw [pre_eq]; simp)
 obtain ⟨a1,a25,ar1,ar3,arI,ar2⟩:=YH hnode
 have hn1:=(VP hnode).1
 refine JW 2 (fun n H=>rfl) ?_
 refine acN Tryz.func49 rfl ?_
 show awp _ _ _ _ _ (EN _ [.cell 4 34] _)
 have q:Lp h (h ++ [ABlk.live 4 [CW e]] ++ [ABlk.live 2 [zR]] ++ [ABlk.live 2 (arR [] e.args.length)]) h.length (h ++ [ABlk.live 4 [CW e]]).length (h ++ [ABlk.live 4 [CW e]] ++ [ABlk.live 2 [zR]]).length e (arR [] e.args.length) :=
  ⟨DC (DC (DF _ _)),DC (DF _ _),DF _ _,(((ext.rfl' h).app _).app _).app _,by simp,by simp,by simp,by simp⟩
 have g3:=DC (x:=ABlk.live 2 [zR]) (DF h (ABlk.live 4 [CW e]))
 have l3:DR Tryz.prog (h ++ [ABlk.live 4 [CW e]] ++ [ABlk.live 2 [zR]]) 23 (.ptr h.length 0 3)=some (.sl e.m 4 (e.args.map CW)):=by rw [DJ NM g3 (row:=CW e) rfl,NE]
 simp -implicitDefEqProofs only [BB,A8,A7,AZ,BA,AO,AQ,AL,BD,AY,AC,AA,AX,BC,EZ,FQ,BO,VJ,BG,FP,CB,AB,BF,BQ,↓reduceIte,jA,jG,jB,jC,enP,TD,IJ,bxE,KG,l3,jR,A2S _ _ hal]
 generalize h ++ [ABlk.live 4 [CW e]] ++ [ABlk.live 2 [zR]] ++ [ABlk.live 2 (arR [] e.args.length)]=H1 at q ⊢
 generalize (h ++ [ABlk.live 4 [CW e]] ++ [ABlk.live 2 [zR]]).length=ob at q ⊢
 generalize (h ++ [ABlk.live 4 [CW e]]).length=bz at q ⊢
 generalize h.length=eb at q ⊢
 have l3:DR Tryz.prog H1 23 (.ptr eb 0 3)=some (.sl e.m 4 (e.args.map CW)):=by rw [DJ NM q.ge (row:=CW e) rfl,NE]
 simp -implicitDefEqProofs only [CE,A7,AZ,BA,AO,AQ,AL,BD,AY,AC,AA,AX,AU,BH,BJ,FP,AB,↓reduceIte,jB,jC,enP,TD,l3,jR]
 refine EG (fun n F H => ∃ j,n+j=e.args.length∧F 0 = .ptr vb 0 0∧F 3 = .ptr eb 0 0∧F 4 = .ptr bz 0 0∧F 5 = .own ob 0 e.args.length∧F 14 = .sl e.m 4 (e.args.map CW)∧F 15 = .int .i64 (e.args.length:Nat)∧F 16 = .int .i64 (j:Nat)∧Lp h H eb bz ob e (arR (MQ vars l (e.args.take j)) e.args.length)) e.args.length
  ⟨0,by simp,by simp -implicitDefEqProofs only [AA,BF,↓reduceIte,jA],by simp -implicitDefEqProofs only [AA,↓reduceIte,jA],by simp -implicitDefEqProofs only [AA,↓reduceIte,jA],by simp -implicitDefEqProofs only [AA,↓reduceIte,jA],by simp -implicitDefEqProofs only [AA,↓reduceIte,jA],by simp -implicitDefEqProofs only [AA,↓reduceIte,jA],by simp -implicitDefEqProofs only [AA,↓reduceIte]; rfl,q⟩ ?_
 clear q l3
 rintro n F H ⟨j,hj,f0,f3,f4,f5,f14,f15,f16,q⟩
 simp -implicitDefEqProofs only [BB,A8,BI,A7,AZ,BA,AO,AQ,AL,BD,AY,AC,AA,AX,BU,AB,DV,↓reduceIte,jB,jC,enP,f15,f16]
 refine CQ (fun hc => ?_) (fun hc => ?_)
 ·have hj':j < e.args.length:=by simpa using hc
  have hmem:e.args[j]∈e.args:=jT hj'
  have hpm:=N7 hmem
  have hlen:(MQ vars l (e.args.take j)).length=j:=by rw [OQ,qG]; omega
  have q2:=q.app (ABlk.live 4 [CW e.args[j]])
  have hst:=AXC (evS vars l e.args[j]) q2.go (by rw [hlen]; exact hj')
  rw [hlen,← AEL vars l e.args j hj'] at hst
  have i1:I4 2 (H ++ [ABlk.live 4 [CW e.args[j]]]) (.own ob 0 e.args.length) (.int .i64 (j:Nat))=some (.ptr ob (0+j) 0):=JK q2.go hj'
  rw [jG] at i1
  simp -implicitDefEqProofs only [BB,CE,A8,BR,A7,AZ,BA,AO,AQ,AL,BD,AY,AC,DU,AA,AX,BN,BJ,BC,EZ,BO,CU,CG,BV,BP,CB,AB,BZ,jF,jD,jE,↓reduceIte,jA,jB,jC,enP,LQ,jK,f14,f16,EX hj',EU KJ JR ES hj',AI9,AJQ _ _ [.int .i64 0,.int .i64 0,.str ⟨#[]⟩,.sl .nil 0 []] rfl,f0,f5,ldE]
  refine (ih e.args[j] hmem (by omega) (fun x hx=>hval x (by rw [pre_eq]; exact qU _ (ND hmem x hx))) _ (hev.ext q2.hx)).use ?_
  simp -implicitDefEqProofs only [A8,A7,EO,FO,AZ,BA,AO,AQ,AL,BD,AY,AC,DU,AA,AX,AU,BH,BJ,CU,BU,CG,AB,BZ,D6,↓reduceIte,jA,jB,jC,enP,JO,jK,i1,hst,f16,wrap_succ (show j < 9223372036854775807 by omega)]
  exact ⟨n - 1,by omega,j+1,by omega,by trivial,by trivial,by trivial,by trivial,by trivial,by trivial,by trivial,q2.put _⟩
 have hj' : ¬ j < e.args.length:=by simpa using hc
 rw [jY (by omega),ASQ (OQ vars l e.args)] at q
 generalize hvs:MQ vars l e.args=vs at q
 have hvl:vs.length=e.args.length:=by rw [← hvs,OQ]
 have hwf : ∀ r∈vs,wfR r:=by
  intro r hr
  rw [← hvs,J6] at hr
  obtain ⟨a,ha,rfl⟩:=List.mem_map.1 hr
  exact X6 vars hw a fun x hx=>hval x (by rw [pre_eq]; exact qU _ (ND ha x hx))
 have hes:evS vars l e=evO vars l e.op e.n e.name vs:=by rw [ACT,hvs]
 have ix : ∀ k:Nat,k < vs.length→I4 2 H (.own ob 0 e.args.length) (.int .i64 (k:Nat))=some (.ptr ob k 0):=fun k hk=>by
  have:=JK (kk := .i64) (off:=0) (n:=k) (len:=e.args.length) q.go (by omega)
  rw [jG] at this; exact this
 have ld : ∀ k:Nat,∀ hk:k < vs.length,DR Tryz.prog H 34 (.ptr ob k 0)=some (.agg (encR (vs.getD k GV))):=fun k hk=>by
  rw [RI q.go hk,zF,jU hk]; rfl
 have w0:=SG hwf 0
 have w1:=SG hwf 1
 have l0:DR Tryz.prog H 3 (.ptr eb 0 0)=some (.int .i64 e.op):=by rw [DJ ag3 q.ge (row:=CW e) rfl,JC]
 have l1:DR Tryz.prog H 3 (.ptr eb 0 1)=some (.int .i64 e.n):=by rw [DJ ag3 q.ge (row:=CW e) rfl,XF]
 have lE:=G6 q.ge
 have fin : ∀ {F:Fr} {r:Rng},F 4 = .ptr bz 0 0→r=evO vars l e.op e.n e.name vs→EN Tryz.prog [.cell 4 34] (fun v H=>v = .agg (encR (evS vars l e))∧Sm.ext h H) .ret F (H.set bz (.live 2 [encR r])):=fun hF hr=>q.z.out hF (by rw [hr,hes])
 simp -implicitDefEqProofs only [BB,CE,A8,EF,BI,A7,FC,F6,F8,AZ,BA,AO,AQ,AL,BD,AY,AC,AA,AX,AU,BH,BC,BO,BU,BG,AB,CX,↓reduceIte,jA,jH,jB,jC,enP,FU,f3,l0]
 by_cases h1:e.op=1
 ·have c1:(e.op == 1)=true:=by simpa using h1
  simp -implicitDefEqProofs only [BB,A8,DI,AZ,AO,AQ,AL,BD,AY,AC,AA,AX,BN,BO,BG,BV,BP,AB,jF,jD,jE,↓reduceIte,jA,jG,jB,jC,enP,XR,c1,f3,l1]
  refine (P5 G _ _).use ?_
  simp -implicitDefEqProofs only [BK,A7,CJ,D8,AZ,BA,AO,AQ,AL,BD,AY,AC,DU,AA,AX,CU,BZ,↓reduceIte,jA,jC,enP,jK,f4,q.z.st]
  exact fin (by simp -implicitDefEqProofs only [AA,↓reduceIte,jA,f4]) (by unfold evO; rw [if_pos h1])
 have c1:(e.op == 1)=false:=by simpa using h1
 by_cases h2:e.op=2
 ·have c2:(e.op == 2)=true:=by simpa using h2
  simp -implicitDefEqProofs only [BB,A8,BI,A7,DI,DN,AZ,BA,AO,AQ,AL,BD,AY,AC,AA,AX,AU,BN,BH,BJ,BC,BO,BU,BV,BP,AB,CX,jF,jD,jE,↓reduceIte,jA,jB,jC,enP,c1,c2,f0,f3,lE]
  refine (PY G vars l vb e H (hev.ext q.hx)).use ?_
  rw [if_pos h2]
  simp -implicitDefEqProofs only [BB,A8,BI,A7,AZ,BA,AO,AQ,AL,BD,AY,AC,AA,AX,AU,BH,BJ,BC,BU,AB,FV,↓reduceIte,jB,jC,enP]
  have hr:=P9 (JB e.name) vars
  refine CQ (fun hp => ?_) (fun hp => ?_)
  ·have hp:0≤plc vars e.name:=by simpa using hp
   obtain ⟨i,hi⟩:=zI hp
   have hil:i < l.length:=by unfold plc at hi; omega
   obtain ⟨mb,L,k,tl,ents,g1,g2,g3,g4⟩:=(hev.ext q.hx).ex
   obtain ⟨qp,s1,s2,_⟩:=g4.at' hil
   have l29:DR Tryz.prog H 29 (.ptr vb 0 1)=some L:=by rw [DJ (by kernel_rfl) g1 (row := .mp mb :: L :: tl) rfl]; rfl
   simp -implicitDefEqProofs only [BB,A8,BK,A7,CJ,D8,AZ,BA,AO,AQ,AL,BD,AY,AC,DU,AA,AX,BJ,BO,CU,BG,CG,AB,BZ,↓reduceIte,jA,jG,jB,jC,enP,JO,ZQ,jK,EM,EW,f0,hi,l29,s1,s2,f4,q.z.st]
   refine fin (by simp -implicitDefEqProofs only [AA,↓reduceIte,jA,f4]) ?_
   unfold evO AJM
   rw [if_neg h1,if_pos h2,if_pos hp,hi,zG,zF,jU hil]; rfl
  ·have hp : ¬ 0≤plc vars e.name:=by simpa using hp
   simp -implicitDefEqProofs only [BB,A8,BR,A7,AZ,AO,AQ,AL,BD,AY,BN,BV,BP,jD,jE,jB,jC]
   refine (LC G _).use ?_
   simp -implicitDefEqProofs only [BK,A7,CJ,D8,AZ,BA,AO,AQ,AL,BD,AY,AC,DU,AA,AX,CU,BZ,↓reduceIte,jA,jC,enP,jK,f4,q.z.st]
   exact fin (by simp -implicitDefEqProofs only [AA,↓reduceIte,jA,f4]) (by unfold evO AJM; rw [if_neg h1,if_pos h2,if_neg hp])
 have c2:(e.op == 2)=false:=by simpa using h2
 by_cases h3:e.op=3
 ·have c3:(e.op == 3)=true:=by simpa using h3
  simp -implicitDefEqProofs only [BB,A8,BR,BI,A7,DI,DN,AZ,BA,AO,AQ,AL,BD,AY,AC,AA,AX,AU,BN,BH,BC,BU,BV,BP,AB,CX,jD,jE,↓reduceIte,jA,jB,jC,enP,c1,c2,c3]
  refine (LC G _).use ?_
  simp -implicitDefEqProofs only [BK,A7,CJ,D8,AZ,BA,AO,AQ,AL,BD,AY,AC,DU,AA,AX,CU,BZ,↓reduceIte,jA,jC,enP,jK,f4,q.z.st]
  exact fin (by simp -implicitDefEqProofs only [AA,↓reduceIte,jA,f4]) (by unfold evO; rw [if_neg h1,if_neg h2,if_pos (.inl h3)])
 have c3:(e.op == 3)=false:=by simpa using h3
 by_cases h24:e.op=24
 ·have c24:(e.op == 24)=true:=by simpa using h24
  simp -implicitDefEqProofs only [BB,A8,BI,A7,DI,DN,AZ,BA,AO,AQ,AL,BD,AY,AC,AA,AX,AU,BN,BH,BC,BU,BV,BP,AB,CX,jD,jE,↓reduceIte,jA,jB,jC,enP,c1,c2,c3,c24]
  refine (LC G _).use ?_
  simp -implicitDefEqProofs only [BK,A7,CJ,D8,AZ,BA,AO,AQ,AL,BD,AY,AC,DU,AA,AX,CU,BZ,↓reduceIte,jA,jC,enP,jK,f4,q.z.st]
  exact fin (by simp -implicitDefEqProofs only [AA,↓reduceIte,jA,f4]) (by unfold evO; rw [if_neg h1,if_neg h2,if_pos (.inr h24)])
 have c24:(e.op == 24)=false:=by simpa using h24
 have hO:evO vars l e.op e.n e.name vs=opR e.op vs:=by unfold evO; rw [if_neg h1,if_neg h2,if_neg (by omega)]
 rw [hO] at fin
 have len1:0 < vs.length:=by
  rcases (show (e.op=4∨e.op=5∨e.op=6∨e.op=25)∨e.op=22∨e.op=23∨(7≤e.op∧e.op≤21) by omega) with h | h | h | h
  ·have:=ar1 h; omega
  ·have:=ar3 h; omega
  ·have:=arI h; omega
  ·have:=ar2 h.1 h.2; omega
 have x0:I4 2 H (.own ob 0 e.args.length) (.int .i64 0)=some (.ptr ob 0 0):=ix 0 len1
 have d0:=ld 0 len1
 by_cases h4:e.op=4
 ·have c4:(e.op == 4)=true:=by simpa using h4
  simp -implicitDefEqProofs only [BB,A8,BI,A7,DI,DN,AZ,BA,AO,AQ,AL,BD,AY,AC,AA,AX,AU,BH,BC,BU,AB,CX,↓reduceIte,jA,jB,jC,enP,c1,c2,c3,c24,c4]
  refine EK (by kernel_rfl) ?_
  simp -implicitDefEqProofs only [ET,DK,CY,DL,EH,EC,FH,D9,EI,EE,AO,AA,AX,AU,BN,BH,BO,CU,CG,AB,jF,jD,jE,↓reduceIte,jA,jL,jG,jB,enP,JO,jK,f5,x0,d0]
  refine ⟨_,JX G _ _,?_⟩
  try simp -implicitDefEqProofs only [f5,x0,d0]
  refine ⟨_,MM G _ _,?_⟩
  try simp -implicitDefEqProofs only []
  refine ⟨_,KA G _ _ _,?_⟩
  simp -implicitDefEqProofs only [FK,D7,BK,A7,CJ,D8,BZ,f4,q.z.st]
  exact fin (by simp -implicitDefEqProofs only [AA,↓reduceIte,jA,f4]) (by unfold opR; rw [if_pos h4])
 have c4:(e.op == 4)=false:=by simpa using h4
 by_cases h5:e.op=5
 ·have c5:(e.op == 5)=true:=by simpa using h5
  have dl:DR Tryz.prog H 3 (.ptr ob 0 0)=some (.int .i64 (vs.getD 0 GV).lo):=by
   rw [DJ ag3 q.go (row:=encR (vs.getD 0 GV)) (by rw [zA,zF,jU len1]; rfl)]; rfl
  have dh:DR Tryz.prog H 3 (.ptr ob 0 1)=some (.int .i64 (vs.getD 0 GV).hi):=by
   rw [DJ ag3 q.go (row:=encR (vs.getD 0 GV)) (by rw [zA,zF,jU len1]; rfl)]; rfl
  obtain ⟨v0,v1,v2⟩:=w0
  simp -implicitDefEqProofs only [BB,A8,BI,A7,DI,DN,AZ,BA,AO,AQ,AL,BD,AY,AC,AA,AX,AU,BH,BC,BU,AB,CX,↓reduceIte,jA,jB,jC,enP,c1,c2,c3,c24,c4,c5]
  refine EK (by kernel_rfl) ?_
  simp -implicitDefEqProofs only [ET,ER,EP,DK,CY,FK,D7,DL,EH,KT,EC,FH,HY,C9,D9,BK,A7,CJ,D8,AO,AA,AX,AU,BH,FI,BO,CU,BU,BG,CG,AB,BZ,II,↓reduceIte,jA,jL,jH,jG,jB,enP,JO,FB,FN,jK,f5,x0,dl,dh,wrap_i64 (n:=65535 - (vs.getD 0 GV).hi) (by omega) (by omega),wrap_i64 (n:=65535 - (vs.getD 0 GV).lo) (by omega) (by omega),KR,f4,q.z.st]
  exact fin (by simp -implicitDefEqProofs only [AA,↓reduceIte,jA,f4]) (by unfold opR; rw [if_neg h4,if_pos h5])
 have c5:(e.op == 5)=false:=by simpa using h5
 by_cases h6:e.op=6
 ·have c6:(e.op == 6)=true:=by simpa using h6
  simp -implicitDefEqProofs only [BB,A8,BI,A7,DI,DN,AZ,BA,AO,AQ,AL,BD,AY,AC,AA,AX,AU,BN,BH,BJ,BC,BO,BU,CG,BV,BP,AB,CX,jF,jD,jE,↓reduceIte,jA,jB,jC,enP,JO,c1,c2,c3,c24,c4,c5,c6,f5,x0,d0]
  refine (AQF G _ w0 _).use ?_
  simp -implicitDefEqProofs only [BK,A7,CJ,D8,AZ,BA,AO,AQ,AL,BD,AY,AC,DU,AA,AX,CU,BZ,↓reduceIte,jA,jC,enP,jK,f4,q.z.st]
  exact fin (by simp -implicitDefEqProofs only [AA,↓reduceIte,jA,f4]) (by unfold opR; rw [if_neg h4,if_neg h5,if_pos h6])
 have c6:(e.op == 6)=false:=by simpa using h6
 by_cases h25:e.op=25
 ·have c25:(e.op == 25)=true:=by simpa using h25
  simp -implicitDefEqProofs only [BB,A8,BI,A7,DI,DN,AZ,BA,AO,AQ,AL,BD,AY,AC,AA,AX,AU,BN,BH,BJ,BC,BO,BU,CG,BV,BP,AB,CX,jF,jD,jE,↓reduceIte,jA,jB,jC,enP,JO,c1,c2,c3,c24,c4,c5,c6,c25,f5,x0,d0]
  refine (ANV G _ w0 _).use ?_
  simp -implicitDefEqProofs only [BK,A7,CJ,D8,AZ,BA,AO,AQ,AL,BD,AY,AC,DU,AA,AX,CU,BZ,↓reduceIte,jA,jC,enP,jK,f4,q.z.st]
  exact fin (by simp -implicitDefEqProofs only [AA,↓reduceIte,jA,f4]) (by unfold opR; rw [if_neg h4,if_neg h5,if_neg h6,if_pos h25])
 have c25:(e.op == 25)=false:=by simpa using h25
 by_cases h22:e.op=22
 ·have c22:(e.op == 22)=true:=by simpa using h22
  have hv3:vs.length=3:=by rw [hvl,ar3 h22]
  have x1:I4 2 H (.own ob 0 e.args.length) (.int .i64 1)=some (.ptr ob 1 0):=ix 1 (by omega)
  have x2:I4 2 H (.own ob 0 e.args.length) (.int .i64 2)=some (.ptr ob 2 0):=ix 2 (by omega)
  simp -implicitDefEqProofs only [BB,A8,BI,A7,DI,DN,AZ,BA,AO,AQ,AL,BD,AY,AC,AA,AX,AU,BH,BC,BU,AB,CX,↓reduceIte,jA,jB,jC,enP,c1,c2,c3,c24,c4,c5,c6,c25,c22]
  refine EK (by kernel_rfl) ?_
  simp -implicitDefEqProofs only [ET,DK,CY,DL,EH,EC,FH,D9,EI,EE,AO,AA,AX,AU,BN,BH,BO,CU,CG,AB,jF,jD,jE,↓reduceIte,jA,jL,jG,jB,enP,JO,jK,f5,x0,d0,x1,ld 1 (by omega),x2,ld 2 (by omega)]
  refine ⟨_,AR5 G _ _ _ _,?_⟩
  simp -implicitDefEqProofs only [FK,D7,BK,A7,CJ,D8,BZ,f4,q.z.st]
  exact fin (by simp -implicitDefEqProofs only [AA,↓reduceIte,jA,f4]) (by unfold opR; rw [if_neg h4,if_neg h5,if_neg h6,if_neg h25,if_pos h22])
 have c22:(e.op == 22)=false:=by simpa using h22
 by_cases h23:e.op=23
 ·have c23:(e.op == 23)=true:=by simpa using h23
  simp -implicitDefEqProofs only [BB,A8,BI,A7,DI,DN,AZ,BA,AO,AQ,AL,BD,AY,AC,AA,AX,AU,BH,BC,BU,AB,CX,↓reduceIte,jA,jB,jC,enP,c1,c2,c3,c24,c4,c5,c6,c25,c22,c23]
  refine EK (by kernel_rfl) ?_
  simp -implicitDefEqProofs only [ET,qP,Option.map_none,DK,CY,DL,EH,EC,FH,X5,D9,EI,EE,AO,AA,AX,AU,BN,BH,BO,CU,OG,CG,AB,jF,jD,jE,↓reduceIte,jA,jL,jG,jB,enP,JO,jK,f5,x0,d0,A2F q.go (show 1≤e.args.length by omega)]
  have hins:=AQZ G (vs.getD 0 GV) vs ob H q.go (by omega) (by omega)
  rw [hvl] at hins
  refine ⟨_,hins,?_⟩
  simp -implicitDefEqProofs only [FK,D7,BK,A7,CJ,D8,BZ,f4,q.z.st]
  exact fin (by simp -implicitDefEqProofs only [AA,↓reduceIte,jA,f4]) (by unfold opR; rw [if_neg h4,if_neg h5,if_neg h6,if_neg h25,if_neg h22,if_pos h23])
 have c23:(e.op == 23)=false:=by simpa using h23
 have hop:7≤e.op∧e.op≤21:=by omega
 have hv2:vs.length=2:=by rw [hvl,ar2 hop.1 hop.2]
 have x1:I4 2 H (.own ob 0 e.args.length) (.int .i64 1)=some (.ptr ob 1 0):=ix 1 (by omega)
 simp -implicitDefEqProofs only [BB,A8,BR,BI,A7,EO,DN,AZ,BA,AO,AQ,AL,BD,AY,AC,AA,AX,AU,BH,BC,BU,AB,CX,↓reduceIte,jA,jB,jC,enP,c1,c2,c3,c24,c4,c5,c6,c25,c22,c23]
 refine EK (by kernel_rfl) ?_
 simp -implicitDefEqProofs only [ET,DK,CY,DL,EH,EC,FH,C9,D9,EI,EE,AO,AA,AX,AU,BN,BH,BO,CU,BG,CG,AB,jF,jD,jE,↓reduceIte,jA,jL,jH,jG,jB,enP,JO,FU,jK,f3,l0,f5,x0,d0,x1,ld 1 (by omega)]
 refine ⟨_,ASF G e.op _ _ w0 w1 hop _,?_⟩
 simp -implicitDefEqProofs only [FK,D7,BK,A7,BZ,f4,q.z.st]
 exact fin (by simp -implicitDefEqProofs only [AA,↓reduceIte,jA,f4]) (by unfold opR; rw [if_neg h4,if_neg h5,if_neg h6,if_neg h25,if_neg h22,if_neg h23])
end
theorem ARC:Frz encR:=fun _ _ _ _=>⟨rfl,rfl⟩
def MH (vars:List Vr) (l:List Rng):Bool:=l.all (fun r=>decide (wfR r)) && (l.length == vars.length)
theorem JD {vars:List Vr} {l:List Rng}:MH vars l=true↔(∀ r∈l,wfR r)∧l.length=vars.length:=by
 unfold MH
 rw [Bool.and_eq_true,List.all_eq_true]
 simp
theorem nwf {r:Rng} (h:(decide (r.lo < 0) || (decide (r.lo > r.hi) || decide (r.hi > 65535)))=true) : ¬ wfR r:=by
 intro q
 obtain ⟨a,b,c⟩:=q
 simp at h; omega
section
variable (G:Nat→AV)
theorem ACM (p:Pr) (_hs:PrS p) (l:List Rng) (m:SM) (hl:l.length≤1048576) (h:Hp):PCall (En G) 34 [.agg (DY p),.sl m 2 (l.map encR)] h (.bool (MH p.vars l)):=by
 refine ACalls.pure0 rfl ?_
 refine acN Tryz.func34 rfl ?_
 show awp _ _ _ _ _ (EN _ [.tmp 4] _)
 have ge:=DF h (ABlk.live 5 [DY p])
 have hx:ext h (h ++ [ABlk.live 5 [DY p]]):=(ext.rfl' h).app _
 simp -implicitDefEqProofs only [BB,CE,A8,A7,AZ,BA,AO,AQ,AL,BD,AY,AC,AA,AX,AU,BH,BM,BJ,BC,FQ,FP,CB,AB,BF,BQ,↓reduceIte,jA,jB,jC,enP,ZL,QP,jR]
 generalize h ++ [ABlk.live 5 [DY p]]=H0 at ge hx ⊢
 generalize h.length=eb at ge ⊢
 refine EG (fun n F H => ∃ i,n+i=l.length∧F 1 = .sl m 2 (l.map encR)∧F 2 = .ptr eb 0 0∧F 7 = .sl m 2 (l.map encR)∧F 8 = .int .i64 (l.length:Nat)∧F 9 = .int .i64 (i:Nat)∧ext H0 H∧∀ r∈l.take i,wfR r) l.length ⟨0,by simp,by simp -implicitDefEqProofs only [AA,BF,BQ,↓reduceIte,jA],by simp -implicitDefEqProofs only [AA,↓reduceIte,jA],by simp -implicitDefEqProofs only [AA,↓reduceIte,jA],by simp -implicitDefEqProofs only [AA,↓reduceIte,jA],by simp -implicitDefEqProofs only [AA,↓reduceIte]; rfl,ext.rfl' _,by simp⟩ ?_
 rintro n F H ⟨i,hi,f1,f2,f7,f8,f9,hxH,hw⟩
 simp -implicitDefEqProofs only [BB,A8,BI,A7,AZ,BA,AO,AQ,AL,BD,AY,AC,AA,AX,BU,AB,DV,↓reduceIte,jB,jC,enP,f8,f9]
 refine CQ (fun hc => ?_) (fun hc => ?_)
 ·have hi':i < l.length:=by simpa using hc
  have hxx:=hx.trans hxH
  have g6:=DF H (ABlk.live 2 [encR l[i]])
  simp -implicitDefEqProofs only [BB,CE,A8,BR,A7,AZ,BA,AO,AQ,AL,BD,AY,AC,DU,AA,AX,EZ,BO,CU,BG,CG,CB,AB,BZ,↓reduceIte,jA,jH,jB,jC,enP,JO,FB,jK,f7,f9,EX hi',EU AJB VC RU hi',KG,NF]
  have bad : ∀ q:(decide (l[i].lo < 0) || (decide (l[i].lo > l[i].hi) || decide (l[i].hi > 65535)))=true,MH p.vars l=false:=fun q=>by
   rw [← Bool.not_eq_true]
   exact fun h=>nwf q ((JD.1 h).1 _ (jT hi'))
  have hx2:=hxx.app [ABlk.live 2 [encR l[i]]]
  have hx3:=hxH.app [ABlk.live 2 [encR l[i]]]
  generalize H ++ [ABlk.live 2 [encR l[i]]]=H1 at g6 hx2 hx3 ⊢
  generalize H.length=rb at g6 ⊢
  simp -implicitDefEqProofs only [AZ,BL,BX,CO,AO,AQ,AL,BD,AY,AC,AA,AX,AU,BH,BJ,BU,AB,DV,↓reduceIte,jB,jC,enP,FX g6,GI g6]
  refine IA (fun h1 => ?_) (fun h1 => ?_)
  ·simp -implicitDefEqProofs only [BB,A8,BK,BI,A7,CJ,D8,F9,CV,DI,AZ,BA,BL,BX,CO,F7,AO,AQ,AL,BD,AY,AC,AA,EQ,AX,AU,BM,BJ,BC,CP,DW,↓reduceIte,jA,jB,jC,h1]
   exact ⟨by rw [bad (by rw [h1]; rfl)],hx2⟩
  simp -implicitDefEqProofs only [AZ,BL,BX,CO,EY,AO,AQ,AL,BD,AY,AC,AA,AX,AU,BM,BJ,CP,DZ,BO,BU,BG,AB,FM,↓reduceIte,jA,jH,jG,jB,jC,enP,FB,FN,h1,FX g6,GI g6]
  refine IA (fun h2 => ?_) (fun h2 => ?_)
  ·simp -implicitDefEqProofs only [BB,A8,BK,BI,A7,CJ,D8,F9,CV,DI,AZ,BA,BL,BX,CO,F7,AO,AQ,AL,BD,AY,AC,AA,EQ,AX,AU,BM,BC,CP,DW,↓reduceIte,jA,jB,jC,h1,h2]
   exact ⟨by rw [bad (by rw [h2]; simp)],hx2⟩
  simp -implicitDefEqProofs only [BI,A7,AZ,BA,BL,BX,CO,EY,AO,AQ,AL,BD,AY,AC,AA,AX,AU,BH,BM,CP,DZ,BO,BU,BG,AB,FM,↓reduceIte,jA,jG,jB,jC,enP,FN,h1,h2,FX g6,GI g6]
  refine CQ (fun h3 => ?_) (fun h3 => ?_)
  ·simp -implicitDefEqProofs only [BB,A8,BK,A7,CJ,D8,F9,CV,AZ,BA,AO,AQ,AL,BD,AY,AC,AA,AU,BM,BC,↓reduceIte,jB,jC]
   exact ⟨by rw [bad (by rw [h3]; simp)],hx2⟩
  ·simp -implicitDefEqProofs only [A8,BR,A7,EO,FO,AZ,BA,AO,AQ,AL,BD,AY,AC,AA,AX,AU,BH,BJ,BU,AB,D6,↓reduceIte,jA,jB,jC,enP,f9,wrap_succ (show i < 9223372036854775807 by omega)]
   refine ⟨n - 1,by omega,i+1,by omega,by trivial,by trivial,by trivial,by trivial,by trivial,hx3,fun r hr => ?_⟩
   rw [zY hi'] at hr
   rcases List.mem_append.1 hr with hr | hr
   ·exact hw r hr
   ·rw [List.mem_singleton] at hr
    subst hr
    simp at h1 h2 h3
    exact ⟨by omega,by omega,by omega⟩
 ·have hi' : ¬ i < l.length:=by simpa using hc
  rw [jY (by omega)] at hw
  have l0:DR Tryz.prog H 22 (.ptr eb 0 0)=some (.sl p.vm 4 (p.vars.map GH)):=by rw [DJ VI (FD hxH ge) (row:=DY p) rfl]; rfl
  simp -implicitDefEqProofs only [BB,A8,BK,EF,A7,FC,F6,F8,CV,AZ,BA,AO,AQ,AL,BD,AY,AC,AA,AX,BJ,BC,BO,BU,BG,FP,AB,CX,↓reduceIte,jA,jH,jB,jC,enP,RH,LU,ZL,f1,f2,l0,jR]
  refine ⟨?_,hx.trans hxH⟩
  congr 1
  rw [qZ,JD]
  simp
  constructor
  ·intro h; exact ⟨hw,by omega⟩
  ·intro h; omega
theorem AJ8 (w:Int) (h0:0≤w) (h1:w≤16) (h:Hp):PCall (En G) 31 [.int .i64 w] h (.int .i64 (2 ^ w.toNat - 1)):=by
 obtain ⟨n,rfl⟩:=zI h0
 refine acN Tryz.func31 rfl ?_
 show awp _ _ _ _ _ (EN _ [.tmp 2] _)
 have d1:decide (((n:Nat):Int) < 0)=false:=by rw [decide_eq_false_iff_not]; omega
 have d2:decide (((n:Nat):Int) > 16)=false:=by simp; omega
 have hp:=Nat.pow_le_pow_right (by decide:0 < 2) (show n≤16 by omega)
 have hp0:0 < 2 ^ n:=Nat.pow_pos (by decide)
 have e:((2 ^ n:Nat):Int)=(2:Int) ^ n:=by simp
 simp -implicitDefEqProofs only [BB,A8,BR,BK,BI,A7,CV,DN,AZ,BA,BL,BX,CO,EY,AO,AQ,AL,BD,AY,AC,AA,AX,AU,BH,BM,BJ,BC,CP,DZ,BU,AB,II,DV,FM,BF,↓reduceIte,jA,jB,jC,enX,enP,d1,d2,AZM n (by omega),wrap_i64 (n:=((2 ^ n:Nat):Int) - 1) (by omega) (by omega)]
 exact ⟨by rw [e,zG],trivial⟩
def stR (v:Vr):Rng:=if v.mode=0 then ⟨v.value,v.value⟩ else ⟨0,2 ^ v.width.toNat - 1⟩
def stL (p:Pr):List Rng:=if KP p≠0 then [] else p.vars.map stR
theorem ZE {p:Pr} (h:KP p=0):KU p.vars=0∧KN p.vars (p.hard ++ p.soft)=0∧NW p.vars p.dists=0∧gOK p.vars p.groups=true:=by
 unfold KP at h
 by_cases h1:KU p.vars≠0
 ·rw [if_pos h1] at h; exact absurd h h1
 rw [if_neg h1] at h
 by_cases h2:KN p.vars (p.hard ++ p.soft)≠0
 ·rw [if_pos h2] at h; exact absurd h h2
 rw [if_neg h2] at h
 by_cases h3:NW p.vars p.dists≠0
 ·rw [if_pos h3] at h; exact absurd h h3
 rw [if_neg h3] at h
 refine ⟨by simpa using h1,by simpa using h2,by simpa using h3,?_⟩
 cases hg:gOK p.vars p.groups
 ·rw [hg] at h; simp at h
 ·rfl
theorem ATE {l:List Vr} (h:KU l=0):l.length≤16∧∀ v∈l,JF v.name=true∧MF v=false:=by
 unfold KU at h
 by_cases h1:l.length > 16
 ·rw [if_pos h1] at h; cases h
 rw [if_neg h1] at h
 by_cases h2:PH vrE l≠0
 ·rw [if_pos h2] at h; exact absurd h h2
 refine ⟨by omega,fun v hv => ?_⟩
 have:=PE (by simpa using h2) v hv
 unfold vrE at this
 cases hn:JF v.name
 ·rw [hn] at this; simp at this
 ·rw [hn] at this
  cases hb:MF v
  ·exact ⟨rfl,rfl⟩
  ·rw [hb] at this; simp at this
theorem AWY {v:Vr} (h:MF v=false):1≤v.width∧v.width≤8∧0≤v.mode∧v.mode≤2∧0≤v.value∧v.value < 2 ^ v.width.toNat:=by
 unfold MF at h
 simp only [Bool.or_eq_false_iff,decide_eq_false_iff_not] at h
 obtain ⟨⟨⟨⟨⟨⟨h1,h2⟩,h3⟩,h4⟩,h5⟩,h6⟩,_⟩:=h
 exact ⟨by omega,by omega,by omega,by omega,by omega,by omega⟩
theorem AYK (h:Hp) (r:Rng):GN Tryz.prog false h 29 1 [(0,.agg (encR r))]=some (.sl .full 2 [encR r],h):=by kernel_rfl
set_option maxHeartbeats 1000000 in
theorem AJP (hG:GOk G) (p:Pr) (hs:PrS p) (h:Hp):PCall (En G) 11 [.agg (DY p)] h (.sl (nm (stL p)) 2 ((stL p).map encR)):=by
 refine ZI ARC ?_
 refine acN Tryz.func11 rfl ?_
 show awp _ _ _ _ _ (EN _ [.tmp 2] _)
 have ge:=DF h (ABlk.live 5 [DY p])
 have hx:ext h (h ++ [ABlk.live 5 [DY p]]):=(ext.rfl' h).app _
 have lp:DR Tryz.prog (h ++ [ABlk.live 5 [DY p]]) 27 (.ptr h.length 0 0)=some (.agg (DY p)):=by rw [H7 VH UG ge (row:=DY p) rfl (by rw [GZ]; exact jQ 5)]; rfl
 simp -implicitDefEqProofs only [BB,A8,A7,AZ,BA,AO,AQ,AL,BD,AY,AC,AA,AX,AU,BN,KZ,BC,FQ,BO,BV,BP,CB,AB,BF,jF,jD,jE,↓reduceIte,jA,jB,jC,enP,QP,lp]
 generalize h ++ [ABlk.live 5 [DY p]]=H0 at ge hx lp ⊢
 generalize h.length=eb at ge lp ⊢
 refine (UF G hG p hs H0).use ?_
 simp -implicitDefEqProofs only [BI,A7,AZ,BA,AO,AQ,AL,BD,AY,AC,AA,AX,AU,BH,BU,AB,FT,↓reduceIte,jB,jC,enP]
 refine CQ (fun hc => ?_) (fun hc => ?_)
 ·have hc:KP p≠0:=by simpa using hc
  simp -implicitDefEqProofs only [BB,A8,BK,A7,CJ,CV,AZ,BA,AO,AQ,AL,BD,AY,AC,AA,AU,KZ,BC,↓reduceIte,jB,jC]
  have e:stL p = []:=by unfold stL; rw [if_pos hc]
  rw [e]
  exact ⟨hx,outG.nil _ _ _ _⟩
 have hc:KP p=0:=by simpa using hc
 have e:stL p=p.vars.map stR:=by unfold stL; rw [if_neg (by simpa using hc)]
 rw [e]
 obtain ⟨hlen,hvar⟩:=ATE (ZE hc).1
 have l0:DR Tryz.prog H0 22 (.ptr eb 0 0)=some (.sl p.vm 4 (p.vars.map GH)):=by rw [DJ VI ge (row:=DY p) rfl]; rfl
 simp -implicitDefEqProofs only [BB,CE,A8,BR,A7,AZ,BA,AO,AQ,AL,BD,AY,AC,AA,AX,AU,BH,KZ,BJ,BC,BO,BG,FP,AB,↓reduceIte,jA,jH,jB,jC,enP,RH,LU,l0,jR]
 refine EG (fun n F H => ∃ i u,n+i=p.vars.length∧F 3=u∧F 10 = .sl p.vm 4 (p.vars.map GH)∧F 11 = .int .i64 (p.vars.length:Nat)∧F 12 = .int .i64 (i:Nat)∧ext H0 H∧outG 2 encR H0 ((p.vars.take i).map stR) u H) p.vars.length
  ⟨0,.sl .nil 0 [],by simp,by simp -implicitDefEqProofs only [AA,↓reduceIte,jA],by simp -implicitDefEqProofs only [AA,↓reduceIte,jA],by simp -implicitDefEqProofs only [AA,↓reduceIte,jA],by simp -implicitDefEqProofs only [AA,↓reduceIte]; rfl,ext.rfl' _,outG.nil _ _ _ _⟩ ?_
 rintro n F H ⟨i,u,hi,f3,f10,f11,f12,hxH,ho⟩
 simp -implicitDefEqProofs only [BB,A8,BI,A7,AZ,BA,AO,AQ,AL,BD,AY,AC,AA,AX,BU,AB,DV,↓reduceIte,jB,jC,enP,f11,f12]
 refine CQ (fun hc => ?_) (fun hc => ?_)
 ·have hi':i < p.vars.length:=by simpa using hc
  obtain ⟨_,hbad⟩:=hvar _ (jT hi')
  obtain ⟨w1,w8,_⟩:=AWY hbad
  have g5:=DF H (ABlk.live 4 [GH p.vars[i]])
  have ho1:=ho.app [ABlk.live 4 [GH p.vars[i]]]
  have hx1:=hxH.app [ABlk.live 4 [GH p.vars[i]]]
  simp -implicitDefEqProofs only [BB,CE,A8,BR,A7,AZ,BA,AO,AQ,AL,BD,AY,AC,DU,AA,AX,EZ,BO,CU,BG,CG,CB,AB,BZ,↓reduceIte,jA,jG,jB,jC,enP,VE,NV,jK,f10,f12,EX hi',ldV hi',AYW,AW8]
  generalize H ++ [ABlk.live 4 [GH p.vars[i]]]=H1 at g5 ho1 hx1 ⊢
  generalize H.length=vb at g5 ⊢
  have d1:DR Tryz.prog H1 3 (.ptr vb 0 1)=some (.int .i64 p.vars[i].width):=by rw [DJ ag3 g5 (row:=GH p.vars[i]) rfl]; rfl
  have d2:DR Tryz.prog H1 3 (.ptr vb 0 2)=some (.int .i64 p.vars[i].mode):=by rw [DJ ag3 g5 (row:=GH p.vars[i]) rfl]; rfl
  have d3:DR Tryz.prog H1 3 (.ptr vb 0 3)=some (.int .i64 p.vars[i].value):=by rw [DJ ag3 g5 (row:=GH p.vars[i]) rfl]; rfl
  obtain ⟨v',H',ha,ho',_,hx',_,_⟩:=ho1.append (P:=Tryz.prog) AG2 VC AS7 AR6 (by omega) (by rw [jR,qG]; omega) hx1 (stR p.vars[i])
  have htk:(p.vars.take i).map stR ++ [stR p.vars[i]]=(p.vars.take (i+1)).map stR:=by rw [zY hi',List.map_append]; rfl
  rw [htk] at ho'
  simp -implicitDefEqProofs only [BI,A7,AZ,BA,AO,AQ,AL,BD,AY,AC,AA,AX,AU,BH,BU,AB,CX,↓reduceIte,jB,jC,enP,d2]
  refine CQ (fun hm => ?_) (fun hm => ?_)
  ·have hm:p.vars[i].mode=0:=by simpa using hm
   have er:stR p.vars[i]=⟨p.vars[i].value,p.vars[i].value⟩:=by unfold stR; rw [if_pos hm]
   rw [er] at ha
   simp -implicitDefEqProofs only [A8,AZ,AO,AQ,AL,BD,AY,AC,AA,AX,BN,BJ,BO,BG,BV,BP,AB,jF,jD,jE,↓reduceIte,jA,jG,jB,jC,enP,XQ,f3,d3]
   refine (P5 G _ _).use ?_
   simp -implicitDefEqProofs only [ER,EP,A8,A7,EO,FO,AZ,BA,AO,AQ,AL,BD,AY,AC,AA,AX,AU,BH,BJ,BC,GR,BU,LV,CB,AB,D6,↓reduceIte,jA,jB,jC,enP,AYK,ha,f12,wrap_succ (show i < 9223372036854775807 by omega)]
   exact ⟨n - 1,by omega,i+1,v',by omega,by trivial,by trivial,by trivial,by trivial,hx',ho'⟩
  ·have hm : ¬ p.vars[i].mode=0:=by simpa using hm
   have er:stR p.vars[i]=⟨0,2 ^ p.vars[i].width.toNat - 1⟩:=by unfold stR; rw [if_neg hm]
   rw [er] at ha
   simp -implicitDefEqProofs only [A8,AZ,AO,AQ,AL,BD,AY,AC,AA,AX,BN,BJ,BO,BG,BV,BP,AB,jF,jD,jE,↓reduceIte,jA,jG,jB,jC,enP,OO,f3,d1]
   refine (AJ8 G _ (by omega) (by omega) _).use ?_
   simp -implicitDefEqProofs only [ER,EP,A8,A7,EO,FO,AZ,BA,AO,AQ,AL,BD,AY,AC,AA,AX,AU,BH,BJ,BC,FI,GR,BU,LV,CB,AB,D6,↓reduceIte,jA,jB,jC,enP,KR,AYK,ha,f12,wrap_succ (show i < 9223372036854775807 by omega)]
   exact ⟨n - 1,by omega,i+1,v',by omega,by trivial,by trivial,by trivial,by trivial,hx',ho'⟩
 ·have hi' : ¬ i < p.vars.length:=by simpa using hc
  rw [jY (by omega)] at ho
  simp -implicitDefEqProofs only [BB,A8,BK,EF,A7,FC,F6,F8,CV,AZ,BA,AO,AQ,AL,BD,AY,AC,AA,AX,BJ,BC,↓reduceIte,jA,jB,jC,f3]
  refine ⟨hx.trans hxH,?_⟩
  rcases ho with ⟨a,b⟩ | ⟨a,o,b,c,d⟩
  ·exact .inl ⟨a,b⟩
  ·exact .inr ⟨a,o,Nat.le_trans hx.le b,c,d⟩
def evP (e:Ex) (p:Pr) (l:List Rng):Rng:=if exE e≠0∨KP p≠0∨MH p.vars l=false then GV else evS p.vars l e
theorem APG (e:Ex) (p:Pr) (l:List Rng):wfR (evP e p l):=by
 unfold evP
 by_cases h:exE e≠0∨KP p≠0∨MH p.vars l=false
 ·rw [if_pos h]; exact TB
 ·rw [if_neg h]
  have h1:exE e=0:=by
   rcases Classical.em (exE e=0) with q | q
   ·exact q
   ·exact absurd (.inl q) h
  have h3:MH p.vars l=true:=by
   cases q:MH p.vars l
   ·exact absurd (.inr (.inr q)) h
   ·rfl
  exact X6 p.vars (JD.1 h3).1 e (PK h1)
set_option maxHeartbeats 1000000 in
theorem Q4 (hG:GOk G) (e:Ex) (he:wt e≤1048576) (p:Pr) (hs:PrS p) (l:List Rng) (m:SM) (hl:l.length≤1048576) (h:Hp):PCall (En G) 22 [.agg (CW e),.agg (DY p),.sl m 2 (l.map encR)] h (.agg (encR (evP e p l))):=by
 refine JW 2 (fun n H=>rfl) ?_
 refine IM (H:=hint [1000024] []) (enM G) Tryz.func22 rfl (by kernel_rfl) (by kernel_rfl) (jJ (by kernel_rfl)) ?_
 show awp _ _ _ _ _ (EN _ [.cell 6 34] _)
 have z:Z0 h (h ++ [ABlk.live 4 [CW e]] ++ [ABlk.live 5 [DY p]] ++ [ABlk.live 2 [zR]]) (h ++ [ABlk.live 4 [CW e]] ++ [ABlk.live 5 [DY p]]).length:=⟨DF _ _,(((ext.rfl' h).app _).app _).app _,by simp⟩
 have ge:=DC (x:=ABlk.live 2 [zR]) (DC (x:=ABlk.live 5 [DY p]) (DF h (ABlk.live 4 [CW e])))
 have gp:=DC (x:=ABlk.live 2 [zR]) (DF (h ++ [ABlk.live 4 [CW e]]) (ABlk.live 5 [DY p]))
 simp -implicitDefEqProofs only [D5,jO,jP,jI,jM,BB,A8,A7,AZ,BA,AL,BD,AY,AC,AA,AX,EZ,FQ,BO,CB,BF,BQ,↓reduceIte,jA,jB,jC,enP,ED,bxE,QP,KG]
 generalize h ++ [ABlk.live 4 [CW e]] ++ [ABlk.live 5 [DY p]] ++ [ABlk.live 2 [zR]]=H at z ge gp ⊢
 generalize (h ++ [ABlk.live 4 [CW e]] ++ [ABlk.live 5 [DY p]]).length=bz at z ge gp ⊢
 generalize (h ++ [ABlk.live 4 [CW e]]).length=pb at z ge gp ⊢
 generalize h.length=eb at z ge gp ⊢
 have lp:DR Tryz.prog H 27 (.ptr pb 0 0)=some (.agg (DY p)):=by rw [H7 VH UG gp (row:=DY p) rfl (by rw [GZ]; exact jQ 5)]; rfl
 simp -implicitDefEqProofs only [D5,jO,jP,jI,jM,AZ,AL,BD,AY,AC,AA,AX,BN,BV,BP,AB,jF,jD,jE,↓reduceIte,jB,jC,ED,G6 ge]
 refine (TG G hG e H (AE6 he)).use ?_
 simp -implicitDefEqProofs only [D5,jO,jP,jI,jM,AZ,BL,BX,CO,AL,BD,AY,AC,AA,AX,AU,BH,BJ,BU,AB,FT,↓reduceIte,jB,jC,enP,ED]
 refine IA (fun h1 => ?_) (fun h1 => ?_)
 ·have h1':exE e≠0:=by simpa using h1
  simp -implicitDefEqProofs only [D5,jO,jP,jI,jM,BB,A8,BI,A7,DI,AZ,BA,BL,BX,CO,F7,AL,BD,AY,AC,AA,EQ,AX,AU,BN,BM,BJ,CP,DW,BV,BP,jD,jE,↓reduceIte,jA,jB,jC,ED,h1]
  refine (LC G _).use ?_
  simp -implicitDefEqProofs only [D5,jO,jP,jI,jM,BK,A7,CJ,AZ,BA,AL,BD,AY,AC,DU,AA,AX,CU,BZ,↓reduceIte,jA,jC,enP,ED,jK,z.st]
  exact z.out (by simp -implicitDefEqProofs only [AA,↓reduceIte,jA]) (by unfold evP; rw [if_pos (.inl h1')])
 have h1':exE e=0:=by simpa using h1
 simp -implicitDefEqProofs only [D5,jO,jP,jI,jM,BL,BX,CO,EY,AL,BD,AY,AC,AA,AX,BN,BO,BV,BP,AB,jF,jD,jE,↓reduceIte,jA,jB,jC,enP,ED,h1,lp]
 refine (UF G hG p hs H).use ?_
 simp -implicitDefEqProofs only [D5,jO,jP,jI,jM,AZ,BL,BX,CO,EY,AL,BD,AY,AC,AA,AX,AU,BH,BM,BJ,CP,DZ,BU,AB,FT,↓reduceIte,jA,jB,jC,enP,ED,h1]
 refine IA (fun h2 => ?_) (fun h2 => ?_)
 ·have h2':KP p≠0:=by simpa using h2
  simp -implicitDefEqProofs only [D5,jO,jP,jI,jM,BB,A8,BI,A7,DI,AZ,BA,BL,BX,CO,F7,AL,BD,AY,AC,AA,EQ,AX,AU,BN,BM,CP,DW,BV,BP,jD,jE,↓reduceIte,jA,jB,jC,ED,h2]
  refine (LC G _).use ?_
  simp -implicitDefEqProofs only [D5,jO,jP,jI,jM,BK,A7,CJ,AZ,BA,AL,BD,AY,AC,DU,AA,AX,CU,BZ,↓reduceIte,jA,jC,enP,ED,jK,z.st]
  exact z.out (by simp -implicitDefEqProofs only [AA,↓reduceIte,jA]) (by unfold evP; rw [if_pos (.inr (.inl h2'))])
 have h2':KP p=0:=by simpa using h2
 simp -implicitDefEqProofs only [D5,jO,jP,jI,jM,BL,BX,CO,EY,AL,BD,AY,AC,AA,AX,BN,BJ,BO,BV,BP,AB,BF,BQ,jF,jD,jE,↓reduceIte,jA,jB,jC,enP,ED,h2,lp]
 refine (ACM G p hs l m hl H).use ?_
 simp -implicitDefEqProofs only [D5,jO,jP,jI,jM,BI,A7,AZ,BA,BL,BX,CO,EY,AL,BD,AY,AC,AA,AX,AU,BM,CP,DZ,JG,AB,GG,↓reduceIte,jA,jB,jC,ED,h2]
 cases h3:MH p.vars l
 ·simp -implicitDefEqProofs only [D5,jO,jP,jI,jM,BB,A8,DI,AZ,AL,BD,AY,BN,BV,BP,jD,jE,jB,jC,ED]
  refine (LC G _).use ?_
  simp -implicitDefEqProofs only [D5,jO,jP,jI,jM,BK,A7,CJ,AZ,BA,AL,BD,AY,AC,DU,AA,AX,CU,BZ,↓reduceIte,jA,jC,enP,ED,jK,z.st]
  exact z.out (by simp -implicitDefEqProofs only [AA,↓reduceIte,jA]) (by unfold evP; rw [if_pos (.inr (.inr h3))])
 simp -implicitDefEqProofs only [BB,BR,A7,DN,Bool.not_true]
 have hev:evP e p l=evS p.vars l e:=by unfold evP; rw [if_neg (by rw [h1',h2',h3]; simp)]
 obtain ⟨hw,hll⟩:=JD.1 h3
 have hLO:LOk H (.sl m 2 (l.map encR)) l := .inl ⟨m,rfl⟩
 have hE:=ARP H p (.sl m 2 (l.map encR)) l hLO
 have hxE:=SS H p (.sl m 2 (l.map encR))
 have zE:Z0 h (evH H p (.sl m 2 (l.map encR))) bz:=⟨FD hxE z.gz,z.hx.trans hxE,z.hl⟩
 have hnew:=VQ G p (.sl m 2 (l.map encR)) (.inl ⟨_,_,rfl⟩) hs.vars H
 have heval:=ZV G p.vars l hll hw (H.length+2) e (by have:=QI e; omega) (PK h1') _ hE
 refine Y6 [] [0,1] 2 3 [4,5] (by kernel_rfl) trivial ?_
 simp only [KC,zD,zB]
 simp -implicitDefEqProofs only [ET,Y9,V7,D5,jO,jP,jI,jM,DK,CY,D7,DL,EH,EC,AA,AX,BN,BO,AB,BF,BQ,jF,jD,jE,↓reduceIte,jA,jL,jB,enP,lp]
 refine ⟨?_,?_⟩
 ·try simp -implicitDefEqProofs only []
  refine ⟨_,_,hnew,?_⟩
  simp -implicitDefEqProofs only [ET,D5,jO,jP,jI,jM,DK,CY,DL,FH,EI,EE,AA,AX,BN,CU,AB,jF,jD,jE,↓reduceIte,jA,jL,jG,jB,enP,jK,G6 (FD hxE ge)]
  refine ⟨_,heval,?_⟩
  simp -implicitDefEqProofs only [FK,D7,BK,A7,BZ,zE.st]
  exact zE.out (by simp -implicitDefEqProofs only [AA,↓reduceIte,jA]) hev.symm
 ·simp -implicitDefEqProofs only [ET,Y9,V7,D5,jO,jP,jI,jM,DK,CY,DL,FH,EI,EE,AA,AX,BN,CU,AB,jF,jD,jE,↓reduceIte,jA,jL,jG,jB,enP,jK,G6 ge]
  refine ⟨_,_,hnew,?_⟩
  try simp -implicitDefEqProofs only []
  refine ⟨_,heval,?_⟩
  simp -implicitDefEqProofs only [FK,D7,BK,A7,BZ,zE.st]
  exact zE.out (by simp -implicitDefEqProofs only [AA,↓reduceIte,jA]) hev.symm
theorem AAZ (hG:GOk G) (e:Ex) (he:wt e≤1048576) (p:Pr) (hs:PrS p) (l:List Rng) (m:SM) (hl:l.length≤1048576) (h:Hp):PCall (En G) 24 [.agg (CW e),.agg (DY p),.sl m 2 (l.map encR)] h (.bool (isT (evP e p l))):=by
 refine ACalls.pure0 rfl ?_
 refine acN Tryz.func24 rfl ?_
 show awp _ _ _ _ _ (EN _ [.tmp 6] _)
 have ge:=DC (x:=ABlk.live 5 [DY p]) (DF h (ABlk.live 4 [CW e]))
 have gp:=DF (h ++ [ABlk.live 4 [CW e]]) (ABlk.live 5 [DY p])
 have hx:=((ext.rfl' h).app [ABlk.live 4 [CW e]]).app [ABlk.live 5 [DY p]]
 simp -implicitDefEqProofs only [BB,A8,A7,AZ,BA,AO,AQ,AL,BD,AY,AC,AA,AX,AU,BM,BC,FQ,BO,CB,BF,BQ,↓reduceIte,jA,jB,jC,enP,bxE,QP]
 generalize h ++ [ABlk.live 4 [CW e]] ++ [ABlk.live 5 [DY p]]=H at hx ge gp ⊢
 generalize (h ++ [ABlk.live 4 [CW e]]).length=pb at ge gp ⊢
 generalize h.length=eb at ge gp ⊢
 have lp:DR Tryz.prog H 27 (.ptr pb 0 0)=some (.agg (DY p)):=by rw [H7 VH UG gp (row:=DY p) rfl (by rw [GZ]; exact jQ 5)]; rfl
 simp -implicitDefEqProofs only [AZ,AO,AQ,AL,BD,AY,AC,AA,AX,BN,BJ,BO,BV,BP,AB,BF,BQ,jF,jD,jE,↓reduceIte,jA,jB,jC,enP,G6 ge,lp]
 refine (Q4 G hG e he p hs l m hl H).use ?_
 simp -implicitDefEqProofs only [AZ,AO,AQ,AL,BD,AY,AC,AA,AX,BN,BV,BP,jF,jD,jE,↓reduceIte,jB,jC]
 refine (MM G _ _).use ?_
 simp -implicitDefEqProofs only [BK,A7,CV,AZ,BA,AO,AQ,AL,BD,AY,AC,AA,AX,BC,↓reduceIte,jB,jC]
 exact ⟨by trivial,hx⟩
theorem ALG (hG:GOk G) (e:Ex) (he:wt e≤1048576) (p:Pr) (hs:PrS p) (l:List Rng) (m:SM) (hl:l.length≤1048576) (h:Hp):PCall (En G) 26 [.agg (CW e),.agg (DY p),.sl m 2 (l.map encR)] h (.bool (isF (evP e p l))):=by
 refine ACalls.pure0 rfl ?_
 refine acN Tryz.func26 rfl ?_
 show awp _ _ _ _ _ (EN _ [.tmp 6] _)
 have ge:=DC (x:=ABlk.live 5 [DY p]) (DF h (ABlk.live 4 [CW e]))
 have gp:=DF (h ++ [ABlk.live 4 [CW e]]) (ABlk.live 5 [DY p])
 have hx:=((ext.rfl' h).app [ABlk.live 4 [CW e]]).app [ABlk.live 5 [DY p]]
 simp -implicitDefEqProofs only [BB,A8,A7,AZ,BA,AO,AQ,AL,BD,AY,AC,AA,AX,AU,BM,BC,FQ,BO,CB,BF,BQ,↓reduceIte,jA,jB,jC,enP,bxE,QP]
 generalize h ++ [ABlk.live 4 [CW e]] ++ [ABlk.live 5 [DY p]]=H at hx ge gp ⊢
 generalize (h ++ [ABlk.live 4 [CW e]]).length=pb at ge gp ⊢
 generalize h.length=eb at ge gp ⊢
 have lp:DR Tryz.prog H 27 (.ptr pb 0 0)=some (.agg (DY p)):=by rw [H7 VH UG gp (row:=DY p) rfl (by rw [GZ]; exact jQ 5)]; rfl
 simp -implicitDefEqProofs only [AZ,AO,AQ,AL,BD,AY,AC,AA,AX,BN,BJ,BO,BV,BP,AB,BF,BQ,jF,jD,jE,↓reduceIte,jA,jB,jC,enP,G6 ge,lp]
 refine (Q4 G hG e he p hs l m hl H).use ?_
 simp -implicitDefEqProofs only [AZ,AO,AQ,AL,BD,AY,AC,AA,AX,BN,BV,BP,jF,jD,jE,↓reduceIte,jB,jC]
 refine (JX G _ _).use ?_
 simp -implicitDefEqProofs only [BK,A7,CV,AZ,BA,AO,AQ,AL,BD,AY,AC,AA,AX,BC,↓reduceIte,jB,jC]
 exact ⟨by trivial,hx⟩
end
abbrev NS:=List Rng × Bool
def nxR (r:Rng) (lo hi:Int):Rng:=⟨max r.lo lo,min r.hi hi⟩
def NI (s:NS) (i:Nat) (lo hi:Int):Option NS:=if (nxR (s.1.getD i GV) lo hi).lo > (nxR (s.1.getD i GV) lo hi).hi then none else some (s.1.set i (nxR (s.1.getD i GV) lo hi),s.2 || !((nxR (s.1.getD i GV) lo hi) == s.1.getD i GV))
def NwL (h:Hp) (L:AV) (lb:Nat) (l:List Rng):Prop:=(l = []∧L = .sl .full 2 [])∨(L = .own lb 0 l.length∧h[lb]? = some (.live 2 (l.map encR))∧l≠[])
structure Nw (h:Hp) (nb lb:Nat) (vars:List Vr) (s:NS):Prop where
 ex : ∃ mb L ents,h[nb]? = some (.live 3 [[.mp mb,L,.bool s.2]])∧h[mb]? = some (.map (VF ents))∧(∀ n,U5 ents n=AFK n vars 0)∧NwL h L lb s.1∧mb≠nb∧mb≠lb
 ne:nb≠lb
 lbl:lb < h.length
 len:s.1.length=vars.length
 wf : ∀ r∈s.1,wfR r
def Kp (nb lb:Nat) (h H:Hp):Prop:=(∀ b x,h[b]? = some x→b≠nb→b≠lb→H[b]? = some x)∧h.length≤H.length
theorem Kp.rfl' (nb lb:Nat) (h:Hp):Kp nb lb h h:=⟨fun _ _ q _ _=>q,jQ _⟩
theorem Kp.trans {nb lb:Nat} {a b c:Hp} (h1:Kp nb lb a b) (h2:Kp nb lb b c):Kp nb lb a c:=⟨fun k x q n1 n2=>h2.1 k x (h1.1 k x q n1 n2) n1 n2,Nat.le_trans h1.2 h2.2⟩
theorem Kp.app {nb lb:Nat} {a b:Hp} (h1:Kp nb lb a b) (x:ABlk):Kp nb lb a (b ++ [x]):=⟨fun k y q n1 n2=>DC (h1.1 k y q n1 n2),Nat.le_trans h1.2 (by simp)⟩
theorem Kp.ofExt {nb lb:Nat} {a b:Hp} (h:Sm.ext a b):Kp nb lb a b:=⟨fun _ _ q _ _=>FD h q,h.le⟩
theorem Kp.setN {nb lb:Nat} {a b:Hp} (h1:Kp nb lb a b) (x:ABlk):Kp nb lb a (b.set nb x):=⟨fun k y q n1 n2=>by rw [zL (Ne.symm n1)]; exact h1.1 k y q n1 n2,by rw [qH]; exact h1.2⟩
theorem Kp.setL {nb lb:Nat} {a b:Hp} (h1:Kp nb lb a b) (x:ABlk):Kp nb lb a (b.set lb x):=⟨fun k y q n1 n2=>by rw [zL (Ne.symm n2)]; exact h1.1 k y q n1 n2,by rw [qH]; exact h1.2⟩
def emp:Value := .iface 97 (.agg #[])
def X0 (nb lb:Nat) (base:Hp) (Bad:Prop):Value→Hp→Prop:=fun u H=>u=emp∧Kp nb lb base H∧Bad
def NP (nb lb:Nat) (vars:List Vr) (h:Hp) (r:Option NS):AV→Hp→Prop:=fun _ H => ∃ s,r=some s∧Nw H nb lb vars s∧Kp nb lb h H
theorem Nw.ev {h:Hp} {nb lb:Nat} {vars:List Vr} {s:NS} (n:Nw h nb lb vars s):EvO h nb vars s.1:=by
 obtain ⟨mb,L,ents,h1,h2,h3,h4,_,_⟩:=n.ex
 refine ⟨mb,L,3,_,ents,h1,h2,h3,?_⟩
 rcases h4 with ⟨e,rfl⟩ | ⟨rfl,hb,_⟩
 ·rw [e]; exact .inl ⟨.full,rfl⟩
 ·exact .inr ⟨lb,rfl,hb⟩
theorem Nw.ext {h H:Hp} {nb lb:Nat} {vars:List Vr} {s:NS} (n:Nw h nb lb vars s) (hx:Sm.ext h H):Nw H nb lb vars s:=by
 obtain ⟨mb,L,ents,h1,h2,h3,h4,h5,h6⟩:=n.ex
 refine ⟨⟨mb,L,ents,FD hx h1,FD hx h2,h3,?_,h5,h6⟩,n.ne,Nat.lt_of_lt_of_le n.lbl hx.le,n.len,n.wf⟩
 rcases h4 with h4 | ⟨e,hb,hn⟩
 ·exact .inl h4
 ·exact .inr ⟨e,FD hx hb,hn⟩
theorem Nw.lt {h:Hp} {nb lb:Nat} {vars:List Vr} {s:NS} (n:Nw h nb lb vars s) {b:Nat} (hb:h.length≤b):b≠nb∧b≠lb:=by
 obtain ⟨mb,L,ents,h1,_⟩:=n.ex
 have:=CS h1
 have:=n.lbl
 exact ⟨by omega,by omega⟩
theorem NP.post {nb lb:Nat} {vars:List Vr} {h h':Hp} {r:Option NS} {v:AV} {H:Hp} (hk:Kp nb lb h h') (q:NP nb lb vars h' r v H):NP nb lb vars h r v H:=by
 obtain ⟨s,e,n,k⟩:=q
 exact ⟨s,e,n,hk.trans k⟩
theorem AXP (a b c d:Int):IE Tryz.prog 34 .neq (.agg [.int .i64 a,.int .i64 b]) (.agg [.int .i64 c,.int .i64 d])=some (.bool (!((a == c) && ((b == d) && true)))):=by kernel_rfl
theorem APY (a b:Rng):((a.lo == b.lo) && ((a.hi == b.hi) && true))=(a == b):=by
 cases a; cases b
 rw [qZ]
 simp
theorem AQE (a b:Rng):IE Tryz.prog 34 .neq (.agg (encR a)) (.agg (encR b))=some (.bool (!(a == b))):=by
 rw [← APY]; exact AXP _ _ _ _
theorem A1E (r:Rng) (lo hi:Int):JZ Tryz.prog 34 [(0,.int .i64 (max r.lo lo)),(1,.int .i64 (min r.hi hi))]=some (.agg (encR (nxR r lo hi))):=KR _ _
theorem AW4:Tryz.prog.underlying 97=some (.struct #[]):=by kernel_rfl
theorem AYO:JZ Tryz.prog 97 []=some (.agg []):=by kernel_rfl
theorem set_self {l:List Rng} {i:Nat} (hi:i < l.length):l.set i l[i]=l:=by
 apply List.ext_getElem?
 intro j
 rw [List.getElem?_set]
 by_cases h:i=j
 ·subst h; rw [if_pos rfl,if_pos hi,jU hi]
 ·rw [if_neg h]
theorem Nw.put {h:Hp} {nb lb:Nat} {vars:List Vr} {s:NS} (n:Nw h nb lb vars s) {i:Nat} (hi:i < s.1.length) {r:Rng} (hr:wfR r) : ∃ mb L ents,h[nb]? = some (.live 3 [[.mp mb,L,.bool s.2]])∧L = .own lb 0 s.1.length∧h[lb]? = some (.live 2 (s.1.map encR)) ∧
  Nw ((h.set lb (.live 2 ((s.1.set i r).map encR))).set nb (.live 3 [[.mp mb,L,.bool true]])) nb lb vars (s.1.set i r,true)∧h[mb]? = some (.map (VF ents)):=by
 obtain ⟨mb,L,ents,h1,h2,h3,h4,h5,h6⟩:=n.ex
 have hne:=n.ne
 rcases h4 with ⟨e,_⟩ | ⟨rfl,hb,hnl⟩
 ·rw [e] at hi; simp at hi
 refine ⟨mb,_,ents,h1,rfl,hb,⟨⟨mb,.own lb 0 s.1.length,ents,?_,?_,h3,.inr ⟨by rw [qH],?_,by intro q; have:=congrArg List.length q; simp at this; rw [this] at hi; simp at hi⟩,h5,h6⟩,hne,by rw [qH,qH]; exact n.lbl,by rw [qH]; exact n.len,?_⟩,h2⟩
 ·exact G7 (x := .live 3 [[.mp mb,.own lb 0 s.1.length,.bool s.2]]) (by rw [zL (Ne.symm hne)]; exact h1)
 ·rw [zL (Ne.symm h5),zL (Ne.symm h6)]; exact h2
 ·rw [zL hne]; exact G7 hb
 ·intro x hx
  rcases List.mem_or_eq_of_mem_set hx with hx | rfl
  ·exact n.wf x hx
  ·exact hr
section
variable (G:Nat→AV)
set_option maxHeartbeats 2000000 in
theorem LP (nb lb:Nat) (base:Hp) (Bad:Prop) (vars:List Vr) (s:NS) (i:Nat) (hi:i < vars.length) (lo hi':Int) (b1 : -1048576≤lo) (b2:lo≤1048576) (b3 : -1048576≤hi') (b4:hi'≤1048576) (h:Hp) (hk:Kp nb lb base h) (n:Nw h nb lb vars s) (hbad:NI s i lo hi'=none→Bad) :
  ACalls ((En G).wx (X0 nb lb base Bad)) 117 [.ptr nb 0 0,.int .i64 (i:Nat),.int .i64 lo,.int .i64 hi'] h (NP nb lb vars h (NI s i lo hi')):=by
 have hil:i < s.1.length:=by rw [n.len]; exact hi
 have hgd:s.1.getD i GV=s.1[i]:=by rw [zF,jU hil]; rfl
 have hlim:NI s i lo hi'=if (nxR s.1[i] lo hi').lo > (nxR s.1[i] lo hi').hi then none else some (s.1.set i (nxR s.1[i] lo hi'),s.2 || !((nxR s.1[i] lo hi') == s.1[i])):=by unfold NI; rw [hgd]
 rw [hlim] at hbad ⊢
 obtain ⟨mb,L,ents,h1,rfl,hb,_,_⟩:=n.put hil (n.wf _ (jT hil))
 have hwf:=n.wf _ (jT hil)
 refine IM (H:=Hint.none) (enM G) Tryz.func117 rfl (by kernel_rfl) (by kernel_rfl) (jJ (by kernel_rfl)) ?_
 show awp _ _ _ _ _ (EN _ [] _)
 have l29 : ∀ {H:Hp} {c:Bool},H[nb]? = some (.live 3 [[.mp mb,.own lb 0 s.1.length,.bool c]])→DR Tryz.prog H 29 (.ptr nb 0 1)=some (.own lb 0 s.1.length):=fun q=>by rw [DJ (by kernel_rfl) q (row:=_) rfl]; rfl
 have i1:I4 2 h (.own lb 0 s.1.length) (.int .i64 (i:Nat))=some (.ptr lb (0+i) 0):=JK hb hil
 rw [jG] at i1
 simp -implicitDefEqProofs only [BB,A8,A7,AZ,BA,AO,AQ,AL,BD,AY,AC,DU,AA,AX,BJ,EZ,BO,CU,BG,CG,wxP,CB,AB,BZ,BF,BQ,↓reduceIte,jA,jH,jG,jB,jC,enP,JO,FB,ZQ,L8,jK,EM,EW,l29 h1,i1,RI hb hil,KG,NF]
 have g8:=DF h (ABlk.live 2 [encR s.1[i]])
 have n8:=n.ext ((ext.rfl' h).app [ABlk.live 2 [encR s.1[i]]])
 have k8:=(Kp.rfl' nb lb h).app (ABlk.live 2 [encR s.1[i]])
 have nb8:=DC (x:=ABlk.live 2 [encR s.1[i]]) h1
 have lb8:=DC (x:=ABlk.live 2 [encR s.1[i]]) hb
 have ne8:h.length≠nb∧h.length≠lb:=⟨fun e=>by have:=CS h1; omega,fun e=>by have:=CS hb; omega⟩
 generalize h ++ [ABlk.live 2 [encR s.1[i]]]=H8 at g8 n8 k8 nb8 lb8 ⊢
 generalize h.length=b8 at g8 ne8 ⊢
 simp -implicitDefEqProofs only [ER,EP,BB,A8,A7,AZ,BA,AO,AQ,AL,BD,AY,AC,DU,AA,AX,BJ,EZ,FI,BO,CU,BG,Q8,TK,wxP,CB,AB,BZ,NU,O6,BF,BQ,↓reduceIte,jA,jG,jB,jC,enP,FN,jK,FX g8,GI g8,A1E,KG,NF]
 have g9:=DF H8 (ABlk.live 2 [encR (nxR s.1[i] lo hi')])
 have n9:=n8.ext ((ext.rfl' H8).app [ABlk.live 2 [encR (nxR s.1[i] lo hi')]])
 have k9:=k8.app (ABlk.live 2 [encR (nxR s.1[i] lo hi')])
 have nb9:=DC (x:=ABlk.live 2 [encR (nxR s.1[i] lo hi')]) nb8
 have lb9:=DC (x:=ABlk.live 2 [encR (nxR s.1[i] lo hi')]) lb8
 have g8':=DC (x:=ABlk.live 2 [encR (nxR s.1[i] lo hi')]) g8
 have ne9:H8.length≠nb∧H8.length≠lb:=⟨fun e=>by have:=CS nb8; omega,fun e=>by have:=CS lb8; omega⟩
 generalize H8 ++ [ABlk.live 2 [encR (nxR s.1[i] lo hi')]]=H9 at g9 n9 k9 nb9 lb9 g8' ⊢
 generalize H8.length=b9 at g9 ne9 ⊢
 have hst:=AFH (nxR s.1[i] lo hi') lb9 (i:=i) (row:=encR s.1[i]) (by rw [zA,jU hil]; rfl) rfl
 rw [← List.map_set] at hst
 simp -implicitDefEqProofs only [BI,A7,AZ,BA,AO,AQ,AL,BD,AY,AC,AA,AX,BO,BU,wxP,AB,↓reduceIte,jA,jB,jC,enP,IW g9,IW g8',AQE]
 refine CQ (fun hc => ?_) (fun hc => ?_)
 ·simp -implicitDefEqProofs only [BB]
  refine EK (by kernel_rfl) ?_
  have i9:I4 2 H9 (.own lb 0 s.1.length) (.int .i64 (i:Nat))=some (.ptr lb (0+i) 0):=JK lb9 hil
  rw [jG] at i9
  simp -implicitDefEqProofs only [ET,DK,CY,FK,D7,DL,EH,EC,FH,C9,D9,A8,A7,AZ,AO,AQ,AL,BD,AY,AC,AA,AX,AU,BM,BJ,BO,CU,BG,CG,wxP,AB,BZ,BF,BQ,↓reduceIte,jA,jL,jH,jG,jB,jC,enP,JO,ZQ,L8,AF3,jK,EM,FZ,EW,l29 nb9,IW g9,i9,hst]
  have nbA:(H9.set lb (.live 2 ((s.1.set i (nxR s.1[i] lo hi')).map encR)))[nb]? = some (.live 3 [[.mp mb,.own lb 0 s.1.length,.bool s.2]]):=by rw [zL (Ne.symm n.ne)]; exact nb9
  have g9A:(H9.set lb (.live 2 ((s.1.set i (nxR s.1[i] lo hi')).map encR)))[b9]? = some (.live 2 [encR (nxR s.1[i] lo hi')]):=by rw [zL (Ne.symm ne9.2)]; exact g9
  have hst4:GM Tryz.prog (H9.set lb (.live 2 ((s.1.set i (nxR s.1[i] lo hi')).map encR))) 4 (.ptr nb 0 2) (.bool true)=some ((H9.set lb (.live 2 ((s.1.set i (nxR s.1[i] lo hi')).map encR))).set nb (.live 3 [[.mp mb,.own lb 0 s.1.length,.bool true]])):=by
   rw [I5 (cs := [.bool true]) rfl sz4 nbA rfl (by simp)]; rfl
  simp -implicitDefEqProofs only [BB,A8,A7,AZ,BA,AO,AQ,AL,BD,AY,AC,DU,AA,AX,BO,BG,wxP,AB,BZ,↓reduceIte,jA,jH,jB,jC,enP,FB,hst4]
  have g9B:((H9.set lb (.live 2 ((s.1.set i (nxR s.1[i] lo hi')).map encR))).set nb (.live 3 [[.mp mb,.own lb 0 s.1.length,.bool true]]))[b9]? = some (.live 2 [encR (nxR s.1[i] lo hi')]):=by rw [zL (Ne.symm ne9.1)]; exact g9A
  have kB:=(k9.setL (ABlk.live 2 ((s.1.set i (nxR s.1[i] lo hi')).map encR))).setN (ABlk.live 3 [[.mp mb,.own lb 0 s.1.length,.bool true]])
  simp -implicitDefEqProofs only [BI,A7,AZ,BA,AO,AQ,AL,BD,AY,AC,AA,AX,BO,BU,BG,wxP,AB,FM,↓reduceIte,jA,jG,jB,jC,enP,FN,FX g9B,GI g9B]
  refine CQ (fun hd => ?_) (fun hd => ?_)
  ·have hd:(nxR s.1[i] lo hi').lo > (nxR s.1[i] lo hi').hi:=by simpa using hd
   simp -implicitDefEqProofs only [ER,A8,AZ,AO,AQ,AL,BD,AY,AC,AA,AX,FI,wxP,wxX,AE9,AB4,AO8,CB,AB,↓reduceIte,jB,jC,enP,jK,AYO,AJ4 (P:=Tryz.prog) (t:=97) AW4]
   exact ⟨rfl,hk.trans kB,hbad (by rw [if_pos hd])⟩
  ·have hd : ¬ (nxR s.1[i] lo hi').lo > (nxR s.1[i] lo hi').hi:=by simpa using hd
   simp -implicitDefEqProofs only [BR,G9]
   refine ⟨_,by rw [if_neg hd],?_,kB⟩
   have hwn:wfR (nxR s.1[i] lo hi'):=by
    obtain ⟨q0,q1,q2⟩:=hwf
    refine ⟨?_,by omega,?_⟩
    ·show 0≤max s.1[i].lo lo; omega
    ·show min s.1[i].hi hi'≤65535; omega
   obtain ⟨mb',L',ents',e1,e2,e3,e4,e5⟩:=n9.put hil hwn
   rw [nb9] at e1
   cases e1
   have ht:(s.2 || !((nxR s.1[i] lo hi') == s.1[i]))=true:=by rw [hc]; simp
   rw [ht]
   exact e4
 ·have he:nxR s.1[i] lo hi'=s.1[i]:=by simpa using hc
  simp -implicitDefEqProofs only [BB,A8,BR,BI,A7,AZ,BA,AO,AQ,AL,BD,AY,AC,AA,AX,BO,BU,BG,wxP,AB,FM,↓reduceIte,jA,jH,jG,jB,jC,enP,FB,FN,FX g9,GI g9]
  refine CQ (fun hd => ?_) (fun hd => ?_)
  ·have hd:(nxR s.1[i] lo hi').lo > (nxR s.1[i] lo hi').hi:=by simpa using hd
   simp -implicitDefEqProofs only [ER,A8,AZ,AO,AQ,AL,BD,AY,AC,AA,AX,FI,wxP,wxX,AE9,AB4,AO8,CB,AB,↓reduceIte,jB,jC,enP,jK,AYO,AJ4 (P:=Tryz.prog) (t:=97) AW4]
   exact ⟨rfl,hk.trans k9,hbad (by rw [if_pos hd])⟩
  ·have hd : ¬ (nxR s.1[i] lo hi').lo > (nxR s.1[i] lo hi').hi:=by simpa using hd
   simp -implicitDefEqProofs only [BR,G9]
   refine ⟨_,by rw [if_neg hd],?_,k9⟩
   rw [he,set_self hil]
   simpa using n9
end
def vix (vars:List Vr) (e:Ex):Int:=if e.op=2 then plc vars e.name else -1
theorem QG (vars:List Vr) (e:Ex):vix vars e < vars.length:=by
 have:=P9 (JB e.name) vars
 unfold vix plc
 split <;> omega
def atV (vars:List Vr) (a:Ex) (f:NS→Nat→Option NS) (s:NS):Option NS:=if 0≤vix vars a then f s (vix vars a).toNat else some s
def AFL (vars:List Vr) (s:NS) (a b:Ex) (gap:Int):Option NS :=
 (atV vars a (fun s i=>NI s i 0 ((evS vars s.1 b).hi - gap)) s).bind fun s=>atV vars b (fun s i=>NI s i ((evS vars s.1 a).lo+gap) 65535) s
def YX (f:NS→Nat→Rng→Option NS) (vars:List Vr) (s:NS) (a b:Ex):Option NS :=
 (atV vars a (fun s i=>f s i (evS vars s.1 b)) s).bind fun s=>atV vars b (fun s i=>f s i (evS vars s.1 a)) s
def feq (s:NS) (i:Nat) (r:Rng):Option NS:=NI s i r.lo r.hi
def fne (s:NS) (i:Nat) (r:Rng):Option NS :=
 if sgl r=true then (if (s.1.getD i GV).lo=r.lo then NI s i (r.lo+1) 65535 else some s).bind fun s=>if (s.1.getD i GV).hi=r.lo then NI s i 0 (r.lo - 1) else some s else some s
theorem A2X (r:Rng):AAE Tryz.prog 34 (.agg (encR r)) 0=some (.int .i64 r.lo):=by kernel_rfl
theorem A2Y (r:Rng):AAE Tryz.prog 34 (.agg (encR r)) 1=some (.int .i64 r.hi):=by kernel_rfl
section
variable (G:Nat→AV)
structure EOk (e:Ex):Prop where
 w:wt e≤1048576
 n : ∀ x∈pre e,JH x=0
theorem EOk.arg {e a:Ex} (h:EOk e) (ha:a∈e.args):EOk a:=by
 refine ⟨?_,fun x hx=>h.n x (by rw [pre_eq]; exact qU _ (ND ha x hx))⟩
 have h1:=PX e
 have h2:=WA ha
 have:=h.w
 omega
theorem ACS (vars:List Vr) (s:NS) (nb lb:Nat) (e:Ex) (he:EOk e) (h:Hp) (n:Nw h nb lb vars s):PCall (En G) 49 [.ptr nb 0 0,.agg (CW e)] h (.agg (encR (evS vars s.1 e))) :=
 ZV G vars s.1 n.len n.wf nb e (by have:=QI e; have:=he.w; omega) he.n h n.ev
theorem wfE {vars:List Vr} {s:NS} {nb lb:Nat} {e:Ex} (he:EOk e) {h:Hp} (n:Nw h nb lb vars s):wfR (evS vars s.1 e):=X6 vars n.wf e he.n
set_option maxHeartbeats 2000000 in
theorem AB5 (nb lb:Nat) (base:Hp) (Bad:Prop) (vars:List Vr) (s:NS) (a b:Ex) (ha:EOk a) (hb:EOk b) (gap:Int) (hg:0≤gap∧gap≤1) (h:Hp) (hk:Kp nb lb base h) (n:Nw h nb lb vars s) (hbad:AFL vars s a b gap=none→Bad) :
  ACalls ((En G).wx (X0 nb lb base Bad)) 121 [.ptr nb 0 0,.agg (CW a),.agg (CW b),.int .i64 gap] h (NP nb lb vars h (AFL vars s a b gap)):=by
 refine IM (H:=Hint.none) (enM G) Tryz.func121 rfl (by kernel_rfl) (by kernel_rfl) (jJ (by kernel_rfl)) ?_
 show awp _ _ _ _ _ (EN _ [] _)
 have g5:=DC (x:=ABlk.live 4 [CW b]) (DF h (ABlk.live 4 [CW a]))
 have g6:=DF (h ++ [ABlk.live 4 [CW a]]) (ABlk.live 4 [CW b])
 have n1:=n.ext (((ext.rfl' h).app [ABlk.live 4 [CW a]]).app [ABlk.live 4 [CW b]])
 have k1:=((Kp.rfl' nb lb h).app (ABlk.live 4 [CW a])).app (ABlk.live 4 [CW b])
 have o5:=n.lt (jQ h.length)
 have o6:=n.lt (b:=(h ++ [ABlk.live 4 [CW a]]).length) (by simp)
 simp -implicitDefEqProofs only [BB,A8,A7,AZ,BA,AO,AQ,AL,BD,AY,AC,AA,AX,FQ,wxP,CB,BF,BQ,↓reduceIte,jA,jB,jC,enP,bxE]
 generalize h ++ [ABlk.live 4 [CW a]] ++ [ABlk.live 4 [CW b]]=H at g5 g6 n1 k1 ⊢
 generalize (h ++ [ABlk.live 4 [CW a]]).length=b6 at g5 g6 o6 ⊢
 generalize h.length=b5 at g5 g6 o5 ⊢
 have hkH:=hk.trans k1
 refine EK (by kernel_rfl) ?_
 simp -implicitDefEqProofs only [ET,DK,CY,D7,DL,EH,G5,EC,C9,EI,EE,BB,A8,A7,AZ,AO,AQ,AL,BD,AY,AC,AA,AX,AU,BN,BH,BJ,BO,BU,BG,wxP,AB,BF,jF,jD,jE,↓reduceIte,jA,jL,jH,jB,jC,enP,L8,EM,FZ,EW,G6 g5]
 refine ⟨_,PY G vars s.1 nb a H n1.ev,?_⟩
 simp -implicitDefEqProofs only [BI,A7,BA,AC,AA,AX,AB,FV,↓reduceIte]
 have hra:=QG vars a
 have hrb:=QG vars b
 have hva:(if a.op=2 then plc vars a.name else -1)=vix vars a:=rfl
 have hvb:(if b.op=2 then plc vars b.name else -1)=vix vars b:=rfl
 rw [hva]
 unfold AFL at hbad ⊢
 refine OU (fun F H' => ∃ s1,atV vars a (fun s i=>NI s i 0 ((evS vars s.1 b).hi - gap)) s=some s1∧Nw H' nb lb vars s1∧Kp nb lb H H'∧F 0 = .ptr nb 0 0∧F 3 = .int .i64 gap∧F 5 = .ptr b5 0 0∧F 6 = .ptr b6 0 0) (fun _ _=>False) (fun hc => ?_) (fun hc => ?_) ?_ (fun _ _ q=>q.elim)
 ·have hc:0≤vix vars a:=by simpa using hc
  have w:=wfE hb n1
  obtain ⟨w0,w1,w2⟩:=w
  obtain ⟨i,hi⟩:=zI hc
  have hat:atV vars a (fun s i=>NI s i 0 ((evS vars s.1 b).hi - gap)) s=NI s i 0 ((evS vars s.1 b).hi - gap):=by unfold atV; rw [if_pos hc,hi,zG]
  rw [hat] at hbad ⊢
  refine JI 10 _ (by kernel_rfl) rfl rfl ?_
  simp only [zT,zC]
  simp -implicitDefEqProofs only [ET,DK,CY,DL,EH,EC,C9,ALR,EI,EE,AO,AA,AX,AU,BN,BH,BO,BG,ALS,BV,BP,wxP,AB,BF,jF,jD,jE,↓reduceIte,jA,jL,jH,jB,enP,L8,EM,FZ,EW,G6 g6]
  refine ⟨_,ACS G vars s nb lb b hb H n1,?_⟩
  simp -implicitDefEqProofs only [ET,DK,CY,D7,DL,EH,HY,AO,AA,AX,BU,wxP,AB,II,BF,BQ,↓reduceIte,jA,jL,jB,enP,A2Y,hi,wrap_i64 (n:=(evS vars s.1 b).hi - gap) (by omega) (by omega)]
  refine ACalls.mono (LP G nb lb base Bad vars s i (by omega) 0 ((evS vars s.1 b).hi - gap) (by omega) (by omega) (by omega) (by omega) H hkH n1 (fun q=>hbad (by rw [q]; rfl))) ?_
  rintro v H' ⟨s',e',n',k'⟩
  simp -implicitDefEqProofs only [KW,AA,BF,BQ,↓reduceIte,jA,TR]
  exact ⟨s',e',n',k',by trivial,by trivial,by trivial,by trivial⟩
 ·have hc : ¬ 0≤vix vars a:=by simpa using hc
  simp -implicitDefEqProofs only [BR,KW,AA,BF,BQ,↓reduceIte,jA]
  exact ⟨s,by unfold atV; rw [if_neg hc],n1,Kp.rfl' _ _ _,by trivial,by trivial,by trivial,by trivial⟩
 rintro F H2 ⟨s1,e1,n2,k2,f0,f3,f5,f6⟩
 rw [e1] at hbad ⊢
 have hbad:atV vars b (fun s i=>NI s i ((evS vars s.1 a).lo+gap) 65535) s1=none→Bad:=hbad
 have g5:=k2.1 _ _ g5 o5.1 o5.2
 have g6:=k2.1 _ _ g6 o6.1 o6.2
 have hkH:=hkH.trans k2
 have k12:=k1.trans k2
 simp -implicitDefEqProofs only [BB,A7]
 refine EK (by kernel_rfl) ?_
 simp -implicitDefEqProofs only [ET,DK,CY,D7,DL,EH,G5,EC,C9,EI,EE,BB,A8,A7,AZ,AO,AQ,AL,BD,AY,AC,AA,AX,AU,BN,BH,BJ,BO,BU,BG,wxP,AB,jF,jD,jE,↓reduceIte,jA,jL,jH,jB,jC,enP,L8,EM,FZ,EW,f0,f6,G6 g6]
 refine ⟨_,PY G vars s1.1 nb b H2 n2.ev,?_⟩
 simp -implicitDefEqProofs only [BI,A7,BA,AC,AA,AX,AB,FV,↓reduceIte]
 rw [hvb]
 refine CQ (fun hc => ?_) (fun hc => ?_)
 ·have hc:0≤vix vars b:=by simpa using hc
  have w:=wfE ha n2
  obtain ⟨w0,w1,w2⟩:=w
  obtain ⟨i,hi⟩:=zI hc
  have hat:atV vars b (fun s i=>NI s i ((evS vars s.1 a).lo+gap) 65535) s1=NI s1 i ((evS vars s1.1 a).lo+gap) 65535:=by unfold atV; rw [if_pos hc,hi,zG]
  rw [hat] at hbad
  refine JI 10 _ (by kernel_rfl) rfl rfl ?_
  simp only [zT,zC]
  simp -implicitDefEqProofs only [ET,DK,CY,DL,EH,EC,C9,ALR,EI,EE,AO,AA,AX,AU,BN,BH,BO,BG,ALS,BV,BP,wxP,AB,jF,jD,jE,↓reduceIte,jA,jL,jH,jB,enP,L8,EM,FZ,EW,f0,f3,f5,G6 g5]
  refine ⟨_,ACS G vars s1 nb lb a ha H2 n2,?_⟩
  simp -implicitDefEqProofs only [ET,DK,CY,D7,DL,EH,HY,AO,AA,AX,BU,wxP,AB,D6,↓reduceIte,jA,jL,jB,enP,A2X,hi,f3,wrap_i64 (n:=(evS vars s1.1 a).lo+gap) (by omega) (by omega)]
  refine ACalls.mono (LP G nb lb base Bad vars s1 i (by omega) ((evS vars s1.1 a).lo+gap) 65535 (by omega) (by omega) (by omega) (by omega) H2 hkH n2 hbad) ?_
  rintro v H' ⟨s',e',n',k'⟩
  simp -implicitDefEqProofs only [G9,TR]
  exact ⟨s',by rw [← e',← hat]; rfl,n',k12.trans k'⟩
 ·have hc : ¬ 0≤vix vars b:=by simpa using hc
  simp -implicitDefEqProofs only [BR,G9]
  exact ⟨s1,by rw [Option.bind_some]; unfold atV; rw [if_neg hc],n2,k12⟩
end
theorem AET (E:Env) (fid:FuncId) (first args caps:List AV) (h:Hp) (K:AV→Hp→Prop):AM1 E (.fn (.func fid) first caps) args h K=ACalls E fid (first ++ (args ++ caps)) h K:=rfl
theorem A11 {G:Nat→AV} {X:Value→Hp→Prop} {f:FuncId} {args:List AV} {h:Hp} {r:AV} {K:AV→Hp→Prop} (hc:PCall (En G) f args h r) (hk:K r h):ACalls ((En G).wx X) f args h K:=PCall.use (E:=(En G).wx X) hc hk
theorem Nw.own {h:Hp} {nb lb:Nat} {vars:List Vr} {s:NS} (n:Nw h nb lb vars s) {i:Nat} (hi:i < s.1.length) : ∃ mb,h[nb]? = some (.live 3 [[.mp mb,.own lb 0 s.1.length,.bool s.2]])∧h[lb]? = some (.live 2 (s.1.map encR)):=by
 obtain ⟨mb,L,ents,h1,rfl,hb,_⟩:=n.put hi (n.wf _ (jT hi))
 exact ⟨mb,h1,hb⟩
section
variable (G:Nat→AV)
theorem ARH (nb lb:Nat) (base:Hp) (Bad:Prop) (vars:List Vr) (s:NS) (i:Nat) (hi:i < vars.length) (r:Rng) (hr:wfR r) (cb:Nat) (h:Hp) (hcb:h[cb]? = some (.live 1 [[.ptr nb 0 0]])) (hk:Kp nb lb base h) (n:Nw h nb lb vars s) (hbad:feq s i r=none→Bad) :
  ACalls ((En G).wx (X0 nb lb base Bad)) 119 ([.int .i64 (i:Nat),.agg (encR r)] ++ [.ptr cb 0 0]) h (NP nb lb vars h (feq s i r)):=by
 obtain ⟨r0,r1,r2⟩:=hr
 refine IM (H:=Hint.none) (enM G) Tryz.func119 rfl (by kernel_rfl) (by kernel_rfl) (jJ (by kernel_rfl)) ?_
 show awp _ _ _ _ _ (EN _ [] _)
 have g4:=DF h (ABlk.live 2 [encR r])
 have n1:=n.ext ((ext.rfl' h).app [ABlk.live 2 [encR r]])
 have k1:=(Kp.rfl' nb lb h).app (ABlk.live 2 [encR r])
 have hcb':=DC (x:=ABlk.live 2 [encR r]) hcb
 simp -implicitDefEqProofs only [BB,A8,A7,AZ,BA,AO,AQ,AL,BD,AY,AC,AA,AX,FQ,BO,wxP,CB,BF,BQ,zJ,zV,↓reduceIte,jA,jB,jC,enP,bxR]
 generalize h ++ [ABlk.live 2 [encR r]]=H at g4 n1 k1 hcb' ⊢
 generalize h.length=b4 at g4 ⊢
 simp -implicitDefEqProofs only [AZ,AO,AQ,AL,BD,AY,AC,AA,AX,BN,BJ,BO,BG,BV,BP,wxP,AB,BF,jF,jD,jE,↓reduceIte,jA,jH,jG,jB,jC,enP,FB,FN,I8 (t:=66) (by kernel_rfl) hcb',FX g4,GI g4]
 refine ACalls.mono (LP G nb lb base Bad vars s i hi r.lo r.hi (by omega) (by omega) (by omega) (by omega) H (hk.trans k1) n1 hbad) ?_
 rintro v H' q
 simp -implicitDefEqProofs only [G9,BA,AC]
 exact q.post k1
set_option maxHeartbeats 1000000 in
theorem ARF (nb lb:Nat) (base:Hp) (Bad:Prop) (vars:List Vr) (s:NS) (i:Nat) (hi:i < vars.length) (r:Rng) (hr:wfR r) (h:Hp) (hk:Kp nb lb base h) (n:Nw h nb lb vars s) (hbad:fne s i r=none→Bad) :
  ACalls ((En G).wx (X0 nb lb base Bad)) 120 ([.ptr nb 0 0] ++ ([.int .i64 (i:Nat),.agg (encR r)] ++ [])) h (NP nb lb vars h (fne s i r)):=by
 obtain ⟨r0,r1,r2⟩:=hr
 refine IM (H:=Hint.none) (enM G) Tryz.func120 rfl (by kernel_rfl) (by kernel_rfl) (jJ (by kernel_rfl)) ?_
 show awp _ _ _ _ _ (EN _ [] _)
 have g5:=DF h (ABlk.live 2 [encR r])
 have n1:=n.ext ((ext.rfl' h).app [ABlk.live 2 [encR r]])
 have k1:=(Kp.rfl' nb lb h).app (ABlk.live 2 [encR r])
 have o5:=n.lt (jQ h.length)
 simp -implicitDefEqProofs only [BB,A8,A7,AZ,BA,AO,AQ,AL,BD,AY,AC,AA,AX,FQ,BO,wxP,CB,BF,BQ,jE,zJ,zV,↓reduceIte,jB,jC,enP,bxR]
 generalize h ++ [ABlk.live 2 [encR r]]=H at g5 n1 k1 ⊢
 generalize h.length=b5 at g5 o5 ⊢
 have hkH:=hk.trans k1
 simp -implicitDefEqProofs only [AZ,AO,AQ,AL,BD,AY,AC,AA,AX,BN,BV,BP,AB,jF,jD,jE,↓reduceIte,jB,jC,IW g5]
 refine A11 (MK G r H) ?_
 simp -implicitDefEqProofs only [BI,A7,AZ,BA,AO,AQ,AL,BD,AY,AC,AA,AX,JG,AB,GG,↓reduceIte,jB,jC]
 unfold fne at hbad ⊢
 refine CQ (fun hc => ?_) (fun hc => ?_)
 ·have hc:sgl r=false:=by simpa using hc
  simp -implicitDefEqProofs only [BK,CJ,ZW]
  rw [hc]
  exact ⟨s,rfl,n1,k1⟩
 have hc:sgl r=true:=by simpa using hc
 rw [if_pos hc] at hbad ⊢
 have hil:i < s.1.length:=by rw [n.len]; exact hi
 have gd : ∀ t:NS,∀ hit:i < t.1.length,t.1.getD i GV=t.1[i]:=fun t hit=>by rw [zF,jU hit]; rfl
 obtain ⟨mb,h1,hb⟩:=n1.own hil
 have l29 : ∀ {H:Hp} {c:Bool} {m mb:Nat},H[nb]? = some (.live 3 [[.mp mb,.own lb 0 m,.bool c]])→DR Tryz.prog H 29 (.ptr nb 0 1)=some (.own lb 0 m):=fun q=>by rw [DJ (by kernel_rfl) q (row:=_) rfl]; rfl
 have i1:I4 2 H (.own lb 0 s.1.length) (.int .i64 (i:Nat))=some (.ptr lb (0+i) 0):=JK hb hil
 rw [jG] at i1
 have dlo:DR Tryz.prog H 3 (.ptr lb i 0)=some (.int .i64 s.1[i].lo):=by
  rw [DJ ag3 hb (row:=encR s.1[i]) (by rw [zA,jU hil]; rfl)]; rfl
 simp -implicitDefEqProofs only [BB,BR,A7]
 refine EK (by kernel_rfl) ?_
 simp -implicitDefEqProofs only [ET,DK,CY,D7,DL,EH,EC,HY,C9,D9,BI,A7,AO,AA,AX,BO,BU,BG,CG,wxP,AB,CX,BF,BQ,↓reduceIte,jA,jL,jH,jG,jB,enP,JO,FB,ZQ,L8,EM,FZ,EW,l29 h1,i1,dlo,FX g5]
 rw [gd s hil] at hbad ⊢
 refine OU (fun F H' => ∃ s1,(if s.1[i].lo=r.lo then NI s i (r.lo+1) 65535 else some s)=some s1∧Nw H' nb lb vars s1∧Kp nb lb H H'∧F 0 = .ptr nb 0 0∧F 1 = .int .i64 (i:Nat)∧F 5 = .ptr b5 0 0) (fun _ _=>False) (fun hc => ?_) (fun hc => ?_) ?_ (fun _ _ q=>q.elim)
 ·have hc:s.1[i].lo=r.lo:=by simpa using hc
  rw [if_pos hc] at hbad ⊢
  simp -implicitDefEqProofs only [A8,AZ,AO,AQ,AL,BD,AY,AC,AA,AX,AU,BN,BH,BJ,BO,BU,BG,BV,BP,wxP,AB,D6,BF,BQ,jF,jD,jE,↓reduceIte,jA,jH,jB,jC,enP,FB,FX g5,wrap_i64 (n:=r.lo+1) (by omega) (by omega)]
  refine ACalls.mono (LP G nb lb base Bad vars s i hi (r.lo+1) 65535 (by omega) (by omega) (by omega) (by omega) H hkH n1 (fun q=>hbad (by rw [q]; rfl))) ?_
  rintro v H' ⟨s',e',n',k'⟩
  simp -implicitDefEqProofs only [KW,BA,AC,AA,BF,BQ,↓reduceIte,jA]
  exact ⟨s',e',n',k',by trivial,by trivial,by trivial⟩
 ·have hc : ¬ s.1[i].lo=r.lo:=by simpa using hc
  rw [if_neg hc] at hbad ⊢
  simp -implicitDefEqProofs only [BR,KW,AA,BF,BQ,↓reduceIte,jA]
  exact ⟨s,rfl,n1,Kp.rfl' _ _ _,by trivial,by trivial,by trivial⟩
 clear i1 dlo
 rintro F H2 ⟨s1,e1,n2,k2,f0,f1,f5⟩
 rw [e1] at hbad ⊢
 have hbad:(if (s1.1.getD i GV).hi=r.lo then NI s1 i 0 (r.lo - 1) else some s1)=none→Bad:=hbad
 have g5:=k2.1 _ _ g5 o5.1 o5.2
 have hkH:=hkH.trans k2
 have k12:=k1.trans k2
 have hil:i < s1.1.length:=by rw [n2.len]; exact hi
 obtain ⟨mb,h1,hb⟩:=n2.own hil
 have i1:I4 2 H2 (.own lb 0 s1.1.length) (.int .i64 (i:Nat))=some (.ptr lb (0+i) 0):=JK hb hil
 rw [jG] at i1
 have dhi:DR Tryz.prog H2 3 (.ptr lb i 1)=some (.int .i64 s1.1[i].hi):=by
  rw [DJ ag3 hb (row:=encR s1.1[i]) (by rw [zA,jU hil]; rfl)]; rfl
 rw [gd s1 hil] at hbad
 simp -implicitDefEqProofs only [BB,A7]
 refine EK (by kernel_rfl) ?_
 simp -implicitDefEqProofs only [ET,DK,CY,D7,DL,EH,EC,HY,C9,D9,BI,A7,AO,AA,AX,BO,BU,BG,CG,wxP,AB,CX,↓reduceIte,jA,jL,jH,jG,jB,enP,JO,FB,FN,ZQ,L8,EM,FZ,EW,f0,f1,f5,l29 h1,i1,dhi,FX g5]
 refine CQ (fun hc => ?_) (fun hc => ?_)
 ·have hc:s1.1[i].hi=r.lo:=by simpa using hc
  rw [if_pos hc] at hbad
  simp -implicitDefEqProofs only [A8,AZ,AO,AQ,AL,BD,AY,AC,AA,AX,AU,BN,BH,BJ,BO,BU,BG,BV,BP,wxP,AB,II,jF,jD,jE,↓reduceIte,jA,jH,jB,jC,enP,FB,f0,f1,f5,FX g5,wrap_i64 (n:=r.lo - 1) (by omega) (by omega)]
  refine ACalls.mono (LP G nb lb base Bad vars s1 i hi 0 (r.lo - 1) (by omega) (by omega) (by omega) (by omega) H2 hkH n2 hbad) ?_
  rintro v H' ⟨s',e',n',k'⟩
  simp -implicitDefEqProofs only [G9,BA,AC]
  exact ⟨s',by rw [Option.bind_some,gd s1 hil,if_pos hc]; exact e',n',k12.trans k'⟩
 ·have hc : ¬ s1.1[i].hi=r.lo:=by simpa using hc
  simp -implicitDefEqProofs only [BR,G9]
  exact ⟨s1,by rw [Option.bind_some,gd s1 hil,if_neg hc],n2,k12⟩
set_option maxHeartbeats 2000000 in
theorem AAQ (nb lb:Nat) (base:Hp) (Bad:Prop) (vars:List Vr) (s:NS) (a b:Ex) (ha:EOk a) (hb:EOk b) (fid:FuncId) (first caps:List AV) (f:NS→Nat→Rng→Option NS) (h:Hp) (hk:Kp nb lb base h) (n:Nw h nb lb vars s)
  (hf : ∀ (s:NS) (i:Nat) (r:Rng) (H:Hp),i < vars.length→wfR r→Kp nb lb h H→Nw H nb lb vars s→(f s i r=none→Bad)→ACalls ((En G).wx (X0 nb lb base Bad)) fid (first ++ ([.int .i64 (i:Nat),.agg (encR r)] ++ caps)) H (NP nb lb vars H (f s i r)))
  (hbad:YX f vars s a b=none→Bad) :
  ACalls ((En G).wx (X0 nb lb base Bad)) 118 [.ptr nb 0 0,.agg (CW a),.agg (CW b),.fn (.func fid) first caps] h (NP nb lb vars h (YX f vars s a b)):=by
 refine IM (H:=Hint.none) (enM G) Tryz.func118 rfl (by kernel_rfl) (by kernel_rfl) (jJ (by kernel_rfl)) ?_
 show awp _ _ _ _ _ (EN _ [] _)
 have g5:=DC (x:=ABlk.live 4 [CW b]) (DF h (ABlk.live 4 [CW a]))
 have g6:=DF (h ++ [ABlk.live 4 [CW a]]) (ABlk.live 4 [CW b])
 have n1:=n.ext (((ext.rfl' h).app [ABlk.live 4 [CW a]]).app [ABlk.live 4 [CW b]])
 have k1:=((Kp.rfl' nb lb h).app (ABlk.live 4 [CW a])).app (ABlk.live 4 [CW b])
 have o5:=n.lt (jQ h.length)
 have o6:=n.lt (b:=(h ++ [ABlk.live 4 [CW a]]).length) (by simp)
 simp -implicitDefEqProofs only [BB,A8,A7,AZ,BA,AO,AQ,AL,BD,AY,AC,AA,AX,FQ,wxP,CB,BF,BQ,↓reduceIte,jA,jB,jC,enP,bxE]
 generalize h ++ [ABlk.live 4 [CW a]] ++ [ABlk.live 4 [CW b]]=H at g5 g6 n1 k1 ⊢
 generalize (h ++ [ABlk.live 4 [CW a]]).length=b6 at g5 g6 o6 ⊢
 generalize h.length=b5 at g5 g6 o5 ⊢
 have hkH:=hk.trans k1
 refine EK (by kernel_rfl) ?_
 simp -implicitDefEqProofs only [ET,DK,CY,D7,DL,EH,G5,EC,C9,EI,EE,BB,A8,A7,AZ,AO,AQ,AL,BD,AY,AC,AA,AX,AU,BN,BH,BJ,BO,BU,BG,wxP,AB,BF,jF,jD,jE,↓reduceIte,jA,jL,jH,jB,jC,enP,L8,EM,FZ,EW,G6 g5]
 refine ⟨_,PY G vars s.1 nb a H n1.ev,?_⟩
 simp -implicitDefEqProofs only [BI,A7,BA,AC,AA,AX,AB,FV,↓reduceIte]
 have hra:=QG vars a
 have hrb:=QG vars b
 have hva:(if a.op=2 then plc vars a.name else -1)=vix vars a:=rfl
 have hvb:(if b.op=2 then plc vars b.name else -1)=vix vars b:=rfl
 rw [hva]
 unfold YX at hbad ⊢
 refine OU (fun F H' => ∃ s1,atV vars a (fun s i=>f s i (evS vars s.1 b)) s=some s1∧Nw H' nb lb vars s1∧Kp nb lb H H'∧F 0 = .ptr nb 0 0∧F 3 = .fn (.func fid) first caps∧F 5 = .ptr b5 0 0∧F 6 = .ptr b6 0 0) (fun _ _=>False) (fun hc => ?_) (fun hc => ?_) ?_ (fun _ _ q=>q.elim)
 ·have hc:0≤vix vars a:=by simpa using hc
  obtain ⟨i,hi⟩:=zI hc
  have hat:atV vars a (fun s i=>f s i (evS vars s.1 b)) s=f s i (evS vars s.1 b):=by unfold atV; rw [if_pos hc,hi,zG]
  rw [hat] at hbad ⊢
  refine JI 7 _ (by kernel_rfl) rfl rfl ?_
  simp only [zT,zC]
  simp -implicitDefEqProofs only [ET,DK,CY,D7,DL,EH,EC,C9,EI,EE,AO,AA,AX,BN,BO,BG,BV,wxP,AB,BF,BQ,jF,jD,jE,↓reduceIte,jA,jL,jH,jB,enP,L8,EM,FZ,EW,G6 g6]
  refine ⟨_,ACS G vars s nb lb b hb H n1,?_⟩
  simp -implicitDefEqProofs only [zJ,zV,hi,AET]
  refine ACalls.mono (hf s i _ H (by omega) (wfE hb n1) k1 n1 (fun q=>hbad (by rw [q]; rfl))) ?_
  rintro v H' ⟨s',e',n',k'⟩
  simp -implicitDefEqProofs only [KW,AA,BF,BQ,↓reduceIte,jA,TR]
  exact ⟨s',e',n',k',by trivial,by trivial,by trivial,by trivial⟩
 ·have hc : ¬ 0≤vix vars a:=by simpa using hc
  simp -implicitDefEqProofs only [BR,KW,AA,BF,BQ,↓reduceIte,jA]
  exact ⟨s,by unfold atV; rw [if_neg hc],n1,Kp.rfl' _ _ _,by trivial,by trivial,by trivial,by trivial⟩
 rintro F H2 ⟨s1,e1,n2,k2,f0,f3,f5,f6⟩
 rw [e1] at hbad ⊢
 have hbad:atV vars b (fun s i=>f s i (evS vars s.1 a)) s1=none→Bad:=hbad
 have g5:=k2.1 _ _ g5 o5.1 o5.2
 have g6:=k2.1 _ _ g6 o6.1 o6.2
 have hkH:=hkH.trans k2
 have k12:=k1.trans k2
 simp -implicitDefEqProofs only [BB,A7]
 refine EK (by kernel_rfl) ?_
 simp -implicitDefEqProofs only [ET,DK,CY,D7,DL,EH,G5,EC,C9,EI,EE,BB,A8,A7,AZ,AO,AQ,AL,BD,AY,AC,AA,AX,AU,BN,BH,BJ,BO,BU,BG,wxP,AB,jF,jD,jE,↓reduceIte,jA,jL,jH,jB,jC,enP,L8,EM,FZ,EW,f0,f6,G6 g6]
 refine ⟨_,PY G vars s1.1 nb b H2 n2.ev,?_⟩
 simp -implicitDefEqProofs only [BI,A7,BA,AC,AA,AX,AB,FV,↓reduceIte]
 rw [hvb]
 refine CQ (fun hc => ?_) (fun hc => ?_)
 ·have hc:0≤vix vars b:=by simpa using hc
  obtain ⟨i,hi⟩:=zI hc
  have hat:atV vars b (fun s i=>f s i (evS vars s.1 a)) s1=f s1 i (evS vars s1.1 a):=by unfold atV; rw [if_pos hc,hi,zG]
  rw [hat] at hbad
  refine JI 7 _ (by kernel_rfl) rfl rfl ?_
  simp only [zT,zC]
  simp -implicitDefEqProofs only [ET,DK,CY,D7,DL,EH,EC,C9,EI,EE,AO,AA,AX,BN,BO,BG,BV,wxP,AB,jF,jD,jE,↓reduceIte,jA,jL,jH,jB,enP,L8,EM,FZ,EW,f0,f3,f5,G6 g5]
  refine ⟨_,ACS G vars s1 nb lb a ha H2 n2,?_⟩
  simp -implicitDefEqProofs only [zJ,zV,hi,f3,AET]
  refine ACalls.mono (hf s1 i _ H2 (by omega) (wfE ha n2) k12 n2 hbad) ?_
  rintro v H' ⟨s',e',n',k'⟩
  simp -implicitDefEqProofs only [G9,TR]
  exact ⟨s',by rw [← e',← hat]; rfl,n',k12.trans k'⟩
 ·have hc : ¬ 0≤vix vars b:=by simpa using hc
  simp -implicitDefEqProofs only [BR,G9]
  exact ⟨s1,by rw [Option.bind_some]; unfold atV; rw [if_neg hc],n2,k12⟩
end
def AB9:List Rng→Int × Int→Int × Int
 | a :: b :: r,p=>AB9 r (if a.lo≤b.hi then (min p.1 a.lo,max p.2 b.hi) else p)
 | _,p=>p
theorem AN2 (l:List Rng) (k:Nat) (p:Int × Int) (hk:k+1 < l.length):AB9 (l.drop k) p=AB9 (l.drop (k+2)) (if l[k].lo≤l[k+1].hi then (min p.1 l[k].lo,max p.2 l[k+1].hi) else p):=by
 rw [zO (by omega:k < l.length),zO hk]; rfl
theorem AQK (l:List Rng) (k:Nat) (p:Int × Int) (hk:l.length≤k+1):AB9 (l.drop k) p=p:=by
 rcases Nat.lt_or_ge k l.length with h | h
 ·rw [zO h,zS hk]; rfl
 ·rw [zS h]; rfl
def AN0 (vars:List Vr) (s:NS) (i:Nat) (args:List Ex):Option NS:=NI s i (AB9 (MQ vars s.1 args) (65536,-1)).1 (AB9 (MQ vars s.1 args) (65536,-1)).2
def ZC (p:Int × Int) (w:Wg):Int × Int:=if w.w > 0 then (min p.1 w.lo,max p.2 w.hi) else p
def RD (ws:List Wg):Int × Int:=ws.foldl ZC (65536,-1)
def VB (s:NS) (d:Ds):Option NS:=NI s d.var.toNat (RD d.ws).1 (RD d.ws).2
theorem AM5 {w:Wg} (h:U1 w=false):0≤w.lo∧w.lo≤w.hi∧w.hi≤65535:=by
 unfold U1 at h
 simp only [Bool.or_eq_false_iff,decide_eq_false_iff_not] at h
 obtain ⟨⟨⟨⟨h1,h2⟩,h3⟩,_⟩,_⟩:=h
 exact ⟨by omega,by omega,by omega⟩
theorem pcX {G:Nat→AV} {X:Value→Hp→Prop} {f:FuncId} {args:List AV} {h:Hp} {r:AV} (hc:PCall (En G) f args h r):PCall ((En G).wx X) f args h r:=hc
section
variable (G:Nat→AV)
set_option maxHeartbeats 2000000 in
theorem AHW (nb lb:Nat) (base:Hp) (Bad:Prop) (vars:List Vr) (s:NS) (i:Nat) (hi:i < vars.length) (args:List Ex) (m:SM) (ha : ∀ a∈args,EOk a) (hal:args.length≤1048576) (h:Hp) (hk:Kp nb lb base h) (n:Nw h nb lb vars s) (hbad:AN0 vars s i args=none→Bad) :
  ACalls ((En G).wx (X0 nb lb base Bad)) 122 [.ptr nb 0 0,.int .i64 (i:Nat),.sl m 4 (args.map CW)] h (NP nb lb vars h (AN0 vars s i args)):=by
 refine IM (H:=hint [25,34] []) (enM G) Tryz.func122 rfl (by kernel_rfl) (by kernel_rfl) (jJ (by kernel_rfl)) ?_
 show awp _ _ _ _ _ (EN _ [] _)
 simp -implicitDefEqProofs only [D5,jO,jP,jI,jM,BB,CE,A8,A7,AZ,BA,AL,BD,AY,AC,AU,BH,BC,wxP,jB,jC,enP,ED]
 refine IY 0 (fun F H => ∃ lo hi',F 0 = .ptr nb 0 0∧F 1 = .int .i64 (i:Nat)∧F 6 = .int .i64 lo∧F 7 = .int .i64 hi'∧ext h H∧(0≤lo∧lo≤65536∧-1≤hi'∧hi'≤65535)∧AB9 (MQ vars s.1 args) (65536,-1)=(lo,hi')) (fun _ _=>False) ?_ ?_ (fun _ _ q=>q.elim)
 ·refine EG (fun n F H => ∃ k lo hi',n+k=args.length+1∧F 0 = .ptr nb 0 0∧F 1 = .int .i64 (i:Nat)∧F 2 = .sl m 4 (args.map CW)∧F 6 = .int .i64 lo∧F 7 = .int .i64 hi'∧F 8 = .int .i64 (k:Nat)∧ext h H∧(0≤lo∧lo≤65536∧-1≤hi'∧hi'≤65535)∧AB9 (MQ vars s.1 args) (65536,-1)=AB9 ((MQ vars s.1 args).drop k) (lo,hi')) (args.length+1)
   ⟨0,65536,-1,by simp,by simp -implicitDefEqProofs only [AA,BF,↓reduceIte,jA],by simp -implicitDefEqProofs only [AA,BF,BQ,↓reduceIte,jA],by simp -implicitDefEqProofs only [AA,BF,BQ,↓reduceIte,jA],by simp -implicitDefEqProofs only [AA,↓reduceIte,jA],by simp -implicitDefEqProofs only [AA,↓reduceIte,jA],by simp -implicitDefEqProofs only [AA,↓reduceIte]; rfl,ext.rfl' _,by decide,rfl⟩ ?_
  rintro q F H ⟨k,lo,hi',hq,f0,f1,f2,f6,f7,f8,hx,hbd,he⟩
  simp -implicitDefEqProofs only [D5,jO,jP,jI,jM,BB,A8,BI,A7,AZ,BA,AL,BD,AY,AC,AA,AX,AU,BH,BJ,BU,FP,wxP,AB,D6,DV,↓reduceIte,jA,jB,jC,enP,TD,ED,f2,f8,wrap_succ (show k < 9223372036854775807 by omega),jR]
  refine CQ (fun hc => ?_) (fun hc => ?_)
  ·have hc:k+1 < args.length:=by simp at hc; omega
   have hlen:=OQ vars s.1 args
   have hst:=AN2 (MQ vars s.1 args) k (lo,hi') (by omega)
   have nH:=n.ext hx
   have a1:=ha _ (jT (show k < args.length by omega))
   have a2:=ha _ (jT hc)
   have ev1:(MQ vars s.1 args)[k]'(by omega)=evS vars s.1 args[k]:=by simp [J6]
   have ev2:(MQ vars s.1 args)[k+1]'(by omega)=evS vars s.1 args[k+1]:=by simp [J6]
   rw [ev1,ev2] at hst
   obtain ⟨p0,p1,p2⟩:=wfE a1 nH
   obtain ⟨q0,q1,q2⟩:=wfE a2 nH
   simp -implicitDefEqProofs only [BB,CE,BR,A7]
   refine QX (fun F H'=>F 0 = .ptr nb 0 0∧F 1 = .int .i64 (i:Nat)∧F 2 = .sl m 4 (args.map CW)∧F 6 = .int .i64 lo∧F 7 = .int .i64 hi'∧F 8 = .int .i64 (k:Nat)∧ext H H'∧∃ b9 b10,F 9 = .ptr b9 0 0∧F 10 = .ptr b10 0 0∧H'[b9]? = some (.live 2 [encR (evS vars s.1 args[k])])∧H'[b10]? = some (.live 2 [encR (evS vars s.1 args[k+1])])) (fun _ _=>False) ?_ ?_ (fun _ _ q=>q.elim)
   ·refine Y6 [] [0,1,2,3,4,5,6,7,8,9,10,11,12,13,14,15,16] 17 18 [19,20] (by kernel_rfl) trivial ?_
    simp only [KC,zD,zB]
    have g : ∀ r s:Rng,(H ++ [ABlk.live 2 [encR r]] ++ [ABlk.live 2 [encR s]])[H.length]? = some (.live 2 [encR r])∧(H ++ [ABlk.live 2 [encR r]] ++ [ABlk.live 2 [encR s]])[(H ++ [ABlk.live 2 [zR]]).length]? = some (.live 2 [encR s]):=fun r s=>by
     refine ⟨DC (DF _ _),?_⟩
     have:=DF (H ++ [ABlk.live 2 [encR r]]) (ABlk.live 2 [encR s])
     rw [← this]; simp
    have sB : ∀ r s:Rng,GM Tryz.prog (H ++ [ABlk.live 2 [encR r]] ++ [ABlk.live 2 [zR]]) 34 (.ptr (H ++ [ABlk.live 2 [zR]]).length 0 0) (.agg (encR s))=some (H ++ [ABlk.live 2 [encR r]] ++ [ABlk.live 2 [encR s]]):=fun r s=>by
     have:=NF (H ++ [ABlk.live 2 [encR r]]) s
     rw [← this]; simp
    have hxx : ∀ r s:Rng,ext H (H ++ [ABlk.live 2 [encR r]] ++ [ABlk.live 2 [encR s]]):=fun r s=>((ext.rfl' H).app _).app _
    simp -implicitDefEqProofs only [ET,D5,jO,jP,jI,jM,Bool.or_true,DK,CY,D7,DL,EH,MW,EC,HY,C9,D9,EI,Q3,AA,AX,AU,BN,BH,EZ,BO,BU,BG,CG,wxP,AB,D6,jF,jD,jE,↓reduceIte,jA,jL,jH,jB,enP,LQ,L8,EM,FZ,EW,f0,f1,f2,f6,f7,f8,wrap_succ (show k < 9223372036854775807 by omega),EX (show k < args.length by omega),EX hc,EU KJ JR ES (show k < args.length by omega),EU KJ JR ES hc]
    refine ⟨_,fun x=>pcX (ACS G vars s nb lb args[k] a1 _ (nH.ext ((ext.rfl' H).app x))),?_⟩
    try simp -implicitDefEqProofs only [f0,f1,f2,f6,f7,f8,wrap_succ (show k < 9223372036854775807 by omega),EX (show k < args.length by omega),EX hc,EU KJ JR ES (show k < args.length by omega),EU KJ JR ES hc]
    refine ⟨_,fun x=>pcX (ACS G vars s nb lb args[k+1] a2 _ (nH.ext ((ext.rfl' H).app x))),?_⟩
    try simp -implicitDefEqProofs only []
    have A:=fun r s=>(g r s).1
    have B:=fun r s=>(g r s).2
    refine ⟨?_,?_⟩
    ·simp -implicitDefEqProofs only [ET,D5,jO,jP,jI,jM,DK,CY,FK,D7,DL,MW,FH,KW,AA,AX,EZ,CU,wxP,CB,BZ,↓reduceIte,jA,jL,jG,jB,enP,jK,KG,AD6,NF,sB]
     exact ⟨f0,f1,f2,f6,f7,f8,hxx _ _,_,_,by trivial,by trivial,A _ _,B _ _⟩
    ·simp -implicitDefEqProofs only [ET,D5,jO,jP,jI,jM,DK,CY,FK,D7,DL,MW,FH,KW,AA,AX,EZ,CU,wxP,CB,BZ,↓reduceIte,jA,jL,jG,jB,enP,jK,KG,AD6,NF,sB]
     exact ⟨f0,f1,f2,f6,f7,f8,hxx _ _,_,_,by trivial,by trivial,B _ _,A _ _⟩
   clear f0 f1 f2 f6 f7 f8
   rintro F H1 ⟨f0,f1,f2,f6,f7,f8,hx1,b9,b10,f9,f10,g9,g10⟩
   have hxx:=hx.trans hx1
   have w2:IntKind.i64.wrap ((k:Int)+2)=((k+2:Nat):Int):=by rw [wrap_i64 (by omega) (by omega)]; omega
   simp -implicitDefEqProofs only [D5,jO,jP,jI,jM,BB,A8,BI,A7,AZ,BA,AL,BD,AY,AC,AA,AX,BO,BU,BG,wxP,AB,IR,↓reduceIte,jA,jH,jG,jB,jC,enP,FB,FN,ED,f9,f10,FX g9,GI g10]
   refine CQ (fun hd => ?_) (fun hd => ?_)
   ·have hd:(evS vars s.1 args[k]).lo≤(evS vars s.1 args[k+1]).hi:=by simpa using hd
    rw [if_pos hd] at hst
    refine EK (by kernel_rfl) ?_
    simp -implicitDefEqProofs only [ET,D5,jO,jP,jI,jM,DK,CY,D7,DL,EH,G5,EC,C9,MV,A8,A7,EO,FO,AZ,BA,AL,BD,AY,AC,AA,AX,AU,BH,BJ,BC,BO,BU,BG,Q8,TK,wxP,AB,D6,NU,O6,↓reduceIte,jA,jL,jH,jG,jB,jC,enP,FB,FN,ED,f6,f7,f8,f9,f10,FX g9,GI g10,w2]
    exact ⟨q - 2,by omega,k+2,_,_,by omega,by trivial,by trivial,by trivial,by trivial,by trivial,by trivial,hxx,⟨by omega,by omega,by omega,by omega⟩,by rw [he,hst]⟩
   ·have hd : ¬ (evS vars s.1 args[k]).lo≤(evS vars s.1 args[k+1]).hi:=by simpa using hd
    rw [if_neg hd] at hst
    simp -implicitDefEqProofs only [D5,jO,jP,jI,jM,A8,BR,A7,EO,FO,AZ,BA,AL,BD,AY,AC,AA,AX,AU,BH,BJ,BC,BU,wxP,AB,D6,↓reduceIte,jA,jB,jC,enP,ED,f8,w2]
    exact ⟨q - 2,by omega,k+2,_,_,by omega,by trivial,by trivial,by trivial,by trivial,by trivial,by trivial,hxx,hbd,by rw [he,hst]⟩
  ·have hc : ¬ k+1 < args.length:=by simp at hc; omega
   rw [AQK _ _ _ (by rw [OQ]; omega)] at he
   simp -implicitDefEqProofs only [EF,FC,MG,F8,AA,↓reduceIte,jA]
   exact ⟨lo,hi',f0,f1,f6,f7,hx,hbd,he⟩
 ·rintro F H ⟨lo,hi',f0,f1,f6,f7,hx,⟨b1,b2,b3,b4⟩,he⟩
  have nH:=n.ext hx
  have kH:=Kp.ofExt (nb:=nb) (lb:=lb) hx
  unfold AN0 at hbad ⊢
  rw [he] at hbad ⊢
  simp -implicitDefEqProofs only [D5,jO,jP,jI,jM,A8,A7,F6,AZ,AL,BD,AY,AC,AA,AX,BN,BJ,BV,BP,jF,jD,jE,↓reduceIte,jA,jB,jC,ED,f0,f1,f6,f7]
  refine ACalls.mono (LP G nb lb base Bad vars s i hi lo hi' (by omega) (by omega) (by omega) (by omega) H (hk.trans kH) nH hbad) ?_
  rintro v H' qq
  simp -implicitDefEqProofs only [G9,BA,AC]
  exact qq.post kH
set_option maxHeartbeats 1000000 in
theorem APA (nb lb:Nat) (base:Hp) (Bad:Prop) (vars:List Vr) (s:NS) (d:Ds) (hv:NC vars d.var=true) (hw : ∀ w∈d.ws,U1 w=false) (hwl:d.ws.length≤1048576) (h:Hp) (hk:Kp nb lb base h) (n:Nw h nb lb vars s) (hbad:VB s d=none→Bad) :
  ACalls ((En G).wx (X0 nb lb base Bad)) 65 [.ptr nb 0 0,.agg (JE d)] h (NP nb lb vars h (VB s d)):=by
 obtain ⟨i,hi,hvi,_⟩:=O4 hv
 refine IM (H:=Hint.none) (enM G) Tryz.func65 rfl (by kernel_rfl) (by kernel_rfl) (jJ (by kernel_rfl)) ?_
 show awp _ _ _ _ _ (EN _ [] _)
 have g3:=DF h (ABlk.live 2 [JE d])
 have hx0:ext h (h ++ [ABlk.live 2 [JE d]]):=(ext.rfl' h).app _
 simp -implicitDefEqProofs only [BB,A8,A7,AZ,BA,AO,AQ,AL,BD,AY,AC,AA,AX,AU,BH,BC,FQ,BO,BG,wxP,CB,AB,BF,BQ,↓reduceIte,jA,jG,jB,jC,enP,V3,bxD]
 generalize h ++ [ABlk.live 2 [JE d]]=H0 at g3 hx0 ⊢
 generalize h.length=b3 at g3 ⊢
 have l50:DR Tryz.prog H0 50 (.ptr b3 0 1)=some (.sl d.wm 4 (d.ws.map JA)):=by rw [DJ AVU g3 (row:=JE d) rfl]; rfl
 simp -implicitDefEqProofs only [CE,A7,AZ,BA,AO,AQ,AL,BD,AY,AC,AA,AX,AU,BH,BJ,FP,wxP,AB,↓reduceIte,jB,jC,enP,AN7,l50,jR]
 refine IY 0 (fun F H=>F 0 = .ptr nb 0 0∧F 3 = .ptr b3 0 0∧F 4 = .int .i64 (RD d.ws).1∧F 5 = .int .i64 (RD d.ws).2∧ext H0 H∧(0≤(RD d.ws).1∧(RD d.ws).1≤65536∧-1≤(RD d.ws).2∧(RD d.ws).2≤65535)) (fun _ _=>False) ?_ ?_ (fun _ _ q=>q.elim)
 ·refine EG (fun n F H => ∃ k,n+k=d.ws.length∧F 0 = .ptr nb 0 0∧F 3 = .ptr b3 0 0∧F 4 = .int .i64 (RD (d.ws.take k)).1∧F 5 = .int .i64 (RD (d.ws.take k)).2∧F 9 = .sl d.wm 4 (d.ws.map JA)∧F 10 = .int .i64 (d.ws.length:Nat)∧F 11 = .int .i64 (k:Nat)∧ext H0 H∧(0≤(RD (d.ws.take k)).1∧(RD (d.ws.take k)).1≤65536∧-1≤(RD (d.ws.take k)).2∧(RD (d.ws.take k)).2≤65535)) d.ws.length
   ⟨0,by simp,by simp -implicitDefEqProofs only [AA,BF,↓reduceIte,jA],by simp -implicitDefEqProofs only [AA,↓reduceIte,jA],by simp -implicitDefEqProofs only [AA,↓reduceIte,jA]; rfl,by simp -implicitDefEqProofs only [AA,↓reduceIte,jA]; rfl,by simp -implicitDefEqProofs only [AA,↓reduceIte,jA],by simp -implicitDefEqProofs only [AA,↓reduceIte,jA],by simp -implicitDefEqProofs only [AA,↓reduceIte]; rfl,ext.rfl' _,by rw [zC]; decide⟩ ?_
  rintro q F H ⟨k,hq,f0,f3,f4,f5,f9,f10,f11,hx,hbd⟩
  simp -implicitDefEqProofs only [BB,A8,BI,A7,AZ,BA,AO,AQ,AL,BD,AY,AC,AA,AX,BU,wxP,AB,DV,↓reduceIte,jB,jC,enP,f10,f11]
  refine CQ (fun hc => ?_) (fun hc => ?_)
  ·have hk':k < d.ws.length:=by simpa using hc
   have hst:RD (d.ws.take (k+1))=ZC (RD (d.ws.take k)) d.ws[k]:=by unfold RD; rw [zY hk',List.foldl_append]; rfl
   obtain ⟨w0,w1,w2⟩:=AM5 (hw _ (jT hk'))
   have g7:=DF H (ABlk.live 4 [JA d.ws[k]])
   have hx1:=hx.app [ABlk.live 4 [JA d.ws[k]]]
   simp -implicitDefEqProofs only [BB,CE,A8,BR,A7,AZ,BA,AO,AQ,AL,BD,AY,AC,DU,AA,AX,EZ,BO,CU,BG,CG,wxP,CB,AB,BZ,↓reduceIte,jA,jG,jB,jC,enP,AUO,ZP,jK,f9,f11,EX hk',EU AVT ANI TV hk',AYV,AW7]
   generalize H ++ [ABlk.live 4 [JA d.ws[k]]]=H1 at g7 hx1 ⊢
   generalize H.length=b7 at g7 ⊢
   have e0:DR Tryz.prog H1 3 (.ptr b7 0 0)=some (.int .i64 d.ws[k].lo):=by rw [DJ ag3 g7 (row:=JA d.ws[k]) rfl]; rfl
   have e1:DR Tryz.prog H1 3 (.ptr b7 0 1)=some (.int .i64 d.ws[k].hi):=by rw [DJ ag3 g7 (row:=JA d.ws[k]) rfl]; rfl
   have e2:DR Tryz.prog H1 3 (.ptr b7 0 2)=some (.int .i64 d.ws[k].w):=by rw [DJ ag3 g7 (row:=JA d.ws[k]) rfl]; rfl
   simp -implicitDefEqProofs only [BI,A7,AZ,BA,AO,AQ,AL,BD,AY,AC,AA,AX,AU,BH,BU,wxP,AB,FM,↓reduceIte,jB,jC,enP,e2]
   unfold ZC at hst
   refine CQ (fun hd => ?_) (fun hd => ?_)
   ·have hd:d.ws[k].w > 0:=by simpa using hd
    rw [if_pos hd] at hst
    refine EK (by kernel_rfl) ?_
    simp -implicitDefEqProofs only [ET,DK,CY,D7,DL,EH,G5,EC,C9,MV,A8,A7,EO,FO,AZ,BA,AO,AQ,AL,BD,AY,AC,AA,AX,AU,BH,BJ,BO,BU,BG,Q8,TK,wxP,AB,D6,NU,O6,↓reduceIte,jA,jL,jH,jG,jB,jC,enP,QL,TF,f4,f5,e0,e1,f11,wrap_succ (show k < 9223372036854775807 by omega)]
    refine ⟨q - 1,by omega,k+1,by omega,by trivial,by trivial,by rw [hst],by rw [hst],by trivial,by trivial,by trivial,hx1,?_⟩
    rw [hst]
    exact ⟨by show 0≤min _ _; omega,by show min _ _≤_; omega,by show -1≤max _ _; omega,by show max _ _≤_; omega⟩
   ·have hd : ¬ d.ws[k].w > 0:=by simpa using hd
    rw [if_neg hd] at hst
    simp -implicitDefEqProofs only [A8,BR,A7,EO,FO,AZ,BA,AO,AQ,AL,BD,AY,AC,AA,AX,AU,BH,BJ,BU,wxP,AB,D6,↓reduceIte,jA,jB,jC,enP,f11,wrap_succ (show k < 9223372036854775807 by omega)]
    exact ⟨q - 1,by omega,k+1,by omega,by trivial,by trivial,by rw [hst]; exact f4,by rw [hst]; exact f5,by trivial,by trivial,by trivial,hx1,by rw [hst]; exact hbd⟩
  ·have hk' : ¬ k < d.ws.length:=by simpa using hc
   rw [jY (by omega)] at f4 f5 hbd
   simp -implicitDefEqProofs only [EF,FC,MG,F8,AA,↓reduceIte,jA]
   exact ⟨f0,f3,f4,f5,hx,hbd⟩
 ·rintro F H ⟨f0,f3,f4,f5,hx,⟨b1,b2,b3',b4⟩⟩
  have hxx:=hx0.trans hx
  have nH:=n.ext hxx
  have kH:=Kp.ofExt (nb:=nb) (lb:=lb) hxx
  have l3:DR Tryz.prog H 3 (.ptr b3 0 0)=some (.int .i64 d.var):=by rw [DJ ag3 (FD hx g3) (row:=JE d) rfl]; rfl
  have hd:VB s d=NI s i (RD d.ws).1 (RD d.ws).2:=by unfold VB; rw [hvi,zG]
  rw [hd] at hbad ⊢
  simp -implicitDefEqProofs only [A8,A7,F6,AZ,AO,AQ,AL,BD,AY,AC,AA,AX,BN,BJ,BO,BG,BV,BP,wxP,AB,jF,jD,jE,↓reduceIte,jA,jH,jB,jC,enP,V4,f0,f3,f4,f5,l3,hvi]
  refine ACalls.mono (LP G nb lb base Bad vars s i hi _ _ (by omega) (by omega) (by omega) (by omega) H (hk.trans kH) nH hbad) ?_
  rintro v H' qq
  simp -implicitDefEqProofs only [G9,BA,AC]
  exact qq.post kH
end
def ex0:Ex := .mk 0 0 ⟨#[]⟩ .nil []
def AQG (vars:List Vr) (op:Int) (name:ByteArray) (args:List Ex) (rec:NS→Option NS) (s:NS):Option NS :=
 if op=2∧0≤plc vars name then NI s (plc vars name).toNat 1 65535
 else if op=4 then atV vars (args.getD 0 ex0) (fun s i=>NI s i 0 0) s
 else if op=19 then rec s
 else if op=15 then YX feq vars s (args.getD 0 ex0) (args.getD 1 ex0)
 else if op=16 then YX fne vars s (args.getD 0 ex0) (args.getD 1 ex0)
 else if op=17 then AFL vars s (args.getD 0 ex0) (args.getD 1 ex0) 1
 else if op=18 then AFL vars s (args.getD 0 ex0) (args.getD 1 ex0) 0
 else if op=23 then atV vars (args.getD 0 ex0) (fun s i=>AN0 vars s i (args.drop 1)) s
 else some s
mutual
def TP (vars:List Vr):Ex→NS→Option NS
 | .mk op _ name _ args=>AQG vars op name args (QU vars args)
def QU (vars:List Vr):List Ex→NS→Option NS
 | []=>fun s=>some s
 | e :: es=>fun s=>(TP vars e s).bind (QU vars es)
end
theorem AFP (vars:List Vr) (e:Ex) (s:NS):TP vars e s=AQG vars e.op e.name e.args (QU vars e.args) s:=by cases e; simp [TP,Ex.op,Ex.name,Ex.args]
theorem AUK {h:Hp} {c nb:Nat} (hc:h[c]? = some (.live 1 [[.ptr nb 0 0]])):DR Tryz.prog h 66 (.ptr c 0 0)=some (.ptr nb 0 0):=I8 A3R hc
theorem A3H (h:Hp) (nb:Nat):PO h (.ptr nb 0 0)=some (.ptr h.length 0 0,h ++ [ABlk.live 1 [[.ptr nb 0 0]]]):=rfl
section
variable (G:Nat→AV)
set_option maxHeartbeats 4000000 in
theorem AHS (nb lb:Nat) (base:Hp) (Bad:Prop) (vars:List Vr) (e:Ex):EOk e→∀ (s:NS) (h:Hp),Kp nb lb base h→Nw h nb lb vars s→(TP vars e s=none→Bad) →
  ACalls ((En G).wx (X0 nb lb base Bad)) 66 [.ptr nb 0 0,.agg (CW e)] h (NP nb lb vars h (TP vars e s)):=by
 induction e using Ex.induct with | h e ih => ?_
 intro he s h hk n hbad
 have hnode:=he.n e (by rw [pre_eq]; simp)
 obtain ⟨a1,a25,ar1,ar3,arI,ar2⟩:=YH hnode
 have hal:e.args.length≤1048576:=by have:=he.w; have:=PX e; have:=WB e.args; omega
 rw [AFP] at hbad ⊢
 refine IM (H:=Hint.none) (enM G) Tryz.func66 rfl (by kernel_rfl) (by kernel_rfl) (jJ (by kernel_rfl)) ?_
 show awp _ _ _ _ _ (EN _ [] _)
 have g2:=DC (x:=ABlk.live 4 [CW e]) (DF h (ABlk.live 1 [[.ptr nb 0 0]]))
 have g3:=DF (h ++ [ABlk.live 1 [[.ptr nb 0 0]]]) (ABlk.live 4 [CW e])
 have n1:=n.ext (((ext.rfl' h).app [ABlk.live 1 [[.ptr nb 0 0]]]).app [ABlk.live 4 [CW e]])
 have k1:=((Kp.rfl' nb lb h).app (ABlk.live 1 [[.ptr nb 0 0]])).app (ABlk.live 4 [CW e])
 have o2:=n.lt (jQ h.length)
 have o3:=n.lt (b:=(h ++ [ABlk.live 1 [[.ptr nb 0 0]]]).length) (by simp)
 simp -implicitDefEqProofs only [BB,A8,A7,AZ,BA,AO,AQ,AL,BD,AY,AC,AA,AX,FQ,wxP,CB,BF,BQ,↓reduceIte,jA,jB,jC,enP,A3H,bxE]
 generalize h ++ [ABlk.live 1 [[.ptr nb 0 0]]] ++ [ABlk.live 4 [CW e]]=H at g2 g3 n1 k1 ⊢
 generalize (h ++ [ABlk.live 1 [[.ptr nb 0 0]]]).length=b3 at g2 g3 o3 ⊢
 generalize h.length=b2 at g2 g3 o2 ⊢
 have hkH:=hk.trans k1
 have q2:=AUK g2
 have qE:=G6 g3
 have q0:DR Tryz.prog H 3 (.ptr b3 0 0)=some (.int .i64 e.op):=by rw [DJ ag3 g3 (row:=CW e) rfl,JC]
 have q3:DR Tryz.prog H 23 (.ptr b3 0 3)=some (.sl e.m 4 (e.args.map CW)):=by rw [DJ NM g3 (row:=CW e) rfl,NE]
 have gd : ∀ (k:Nat) (hk:k < e.args.length),e.args.getD k ex0=e.args[k]:=fun k hk=>by rw [zF,jU hk]; rfl
 refine EK (by kernel_rfl) ?_
 simp -implicitDefEqProofs only [ET,DK,CY,D7,DL,G5,EC,C9,EI,EE,BB,A8,A7,AZ,AO,AQ,AL,BD,AY,AC,AA,AX,AU,BN,BH,BJ,BO,BU,BG,wxP,AB,jF,jD,jE,↓reduceIte,jA,jL,jH,jB,jC,enP,L8,EM,FZ,EW,q2,qE]
 refine ⟨_,PY G vars s.1 nb e H n1.ev,?_⟩
 simp -implicitDefEqProofs only [BI,A7,BA,AC,AA,AX,AB,FV,↓reduceIte]
 have hve:(if e.op=2 then plc vars e.name else -1)=vix vars e:=rfl
 rw [hve]
 have hre:=QG vars e
 unfold AQG at hbad ⊢
 refine CQ (fun hc => ?_) (fun hc => ?_)
 ·have hc:0≤vix vars e:=by simpa using hc
  have h2:e.op=2∧0≤plc vars e.name:=by
   unfold vix at hc
   by_cases q:e.op=2
   ·rw [if_pos q] at hc; exact ⟨q,hc⟩
   ·rw [if_neg q] at hc; omega
  have hv:vix vars e=plc vars e.name:=by unfold vix; rw [if_pos h2.1]
  rw [if_pos h2] at hbad ⊢
  rw [← hv] at hbad ⊢
  obtain ⟨i,hi⟩:=zI hc
  rw [hi,zG] at hbad ⊢
  simp -implicitDefEqProofs only [BB,A8,AZ,AO,AQ,AL,BD,AY,AC,AA,AX,AU,BN,BH,BJ,BO,BV,BP,wxP,AB,jF,jD,jE,↓reduceIte,jA,jB,jC,enP,q2]
  refine ACalls.mono (LP G nb lb base Bad vars s i (by omega) 1 65535 (by omega) (by omega) (by omega) (by omega) H hkH n1 hbad) ?_
  rintro v H' qq
  simp -implicitDefEqProofs only [BK,A7,CJ,ZW,BA,AC]
  exact qq.post k1
 have hc : ¬ 0≤vix vars e:=by simpa using hc
 have hn2 : ¬ (e.op=2∧0≤plc vars e.name):=fun q=>hc (by unfold vix; rw [if_pos q.1]; exact q.2)
 rw [if_neg hn2] at hbad ⊢
 simp -implicitDefEqProofs only [BB,CE,A8,BR,BI,A7,AZ,BA,AO,AQ,AL,BD,AY,AC,AA,AX,AU,BH,BC,BO,BU,BG,wxP,AB,CX,↓reduceIte,jA,jH,jB,jC,enP,FU,q0]
 by_cases h4:e.op=4
 ·have c4:(e.op == 4)=true:=by simpa using h4
  rw [if_pos h4] at hbad ⊢
  have hl:=ar1 (.inl h4)
  have x0:0 < e.args.length:=by omega
  have m0:e.args[0]∈e.args:=jT x0
  have i0:I4 4 H (.sl e.m 4 (e.args.map CW)) (.int .i64 0)=some (.fptr 4 (e.args.map CW) 0 0):=EX (n:=0) x0
  have d0:DR Tryz.prog H 40 (.fptr 4 (e.args.map CW) 0 0)=some (.agg (CW e.args[0])):=EU KJ JR ES x0
  rw [gd 0 x0] at hbad ⊢
  simp -implicitDefEqProofs only [BB,DI,c4]
  refine EK (by kernel_rfl) ?_
  simp -implicitDefEqProofs only [ET,DK,CY,D7,DL,G5,EC,C9,D9,EI,EE,BB,A8,A7,AZ,AO,AQ,AL,BD,AY,AC,AA,AX,AU,BN,BH,BJ,BO,BU,BG,CG,wxP,AB,jF,jD,jE,↓reduceIte,jA,jL,jH,jG,jB,jC,enP,LQ,IJ,L8,EM,FZ,EW,q2,q3,i0,d0]
  refine ⟨_,PY G vars s.1 nb e.args[0] H n1.ev,?_⟩
  simp -implicitDefEqProofs only [BI,A7,BA,AC,AA,AX,AB,FV,↓reduceIte]
  have hva:(if e.args[0].op=2 then plc vars e.args[0].name else -1)=vix vars e.args[0]:=rfl
  rw [hva]
  have hra:=QG vars e.args[0]
  unfold atV at hbad ⊢
  refine CQ (fun hd => ?_) (fun hd => ?_)
  ·have hd:(0:Int)≤vix vars e.args[0]:=by simpa using hd
   rw [if_pos hd] at hbad ⊢
   obtain ⟨i,hi⟩:=zI hd
   rw [hi,zG] at hbad ⊢
   simp -implicitDefEqProofs only [A8,AZ,AO,AQ,AL,BD,AY,AC,AA,AX,AU,BN,BH,BJ,BO,BV,BP,wxP,AB,jF,jD,jE,↓reduceIte,jA,jB,jC,enP,q2,hi]
   refine ACalls.mono (LP G nb lb base Bad vars s i (by omega) 0 0 (by omega) (by omega) (by omega) (by omega) H hkH n1 hbad) ?_
   rintro v H' qq
   simp -implicitDefEqProofs only [EO,G9,BA,AC]
   exact qq.post k1
  ·have hd : ¬ (0:Int)≤vix vars e.args[0]:=by simpa using hd
   rw [if_neg hd]
   simp -implicitDefEqProofs only [BR,EO,G9]
   exact ⟨s,rfl,n1,k1⟩
 have c4:(e.op == 4)=false:=by simpa using h4
 rw [if_neg h4] at hbad ⊢
 by_cases h19:e.op=19
 ·have c19:(e.op == 19)=true:=by simpa using h19
  rw [if_pos h19] at hbad ⊢
  have hl:=ar2 (by omega) (by omega)
  have x0:0 < e.args.length:=by omega
  have x1:1 < e.args.length:=by omega
  have m0:e.args[0]∈e.args:=jT x0
  have m1:e.args[1]∈e.args:=jT x1
  have i0:I4 4 H (.sl e.m 4 (e.args.map CW)) (.int .i64 0)=some (.fptr 4 (e.args.map CW) 0 0):=EX (n:=0) x0
  have d0:DR Tryz.prog H 40 (.fptr 4 (e.args.map CW) 0 0)=some (.agg (CW e.args[0])):=EU KJ JR ES x0
  have hnl : ∀ s,QU vars e.args s=(TP vars e.args[0] s).bind fun s=>TP vars e.args[1] s:=fun s=>by
   have:e.args = [e.args[0],e.args[1]]:=by
    apply List.ext_getElem (by simp [hl])
    intro j hj _
    match j,hj with
    | 0,_=>rfl
    | 1,_=>rfl
    | j+2,hj=>omega
   conv=>lhs; rw [this]
   show (TP vars e.args[0] s).bind (fun s=>(TP vars e.args[1] s).bind fun s=>some s)=_
   congr 1; funext s; cases TP vars e.args[1] s <;> rfl
  rw [hnl] at hbad ⊢
  simp -implicitDefEqProofs only [BB,A8,BI,A7,DI,DN,AZ,BA,AO,AQ,AL,BD,AY,AC,AA,AX,AU,BH,BC,BU,wxP,AB,CX,↓reduceIte,jA,jB,jC,enP,c4,c19]
  refine QX (fun F H' => ∃ s1,TP vars e.args[0] s=some s1∧Nw H' nb lb vars s1∧Kp nb lb H H'∧F 2 = .ptr b2 0 0∧F 3 = .ptr b3 0 0) (fun _ _=>False) ?_ ?_ (fun _ _ q=>q.elim)
  ·refine JI 5 _ (by kernel_rfl) rfl rfl ?_
   simp only [zT,zC]
   simp -implicitDefEqProofs only [ET,DK,CY,D7,DL,EC,C9,D9,AO,AA,AX,AU,BN,BH,BO,BG,CG,BV,BP,wxP,AB,jF,jD,jE,↓reduceIte,jA,jL,jG,jB,enP,LQ,IJ,q2,q3,i0,d0]
   refine ACalls.mono (ih e.args[0] m0 (he.arg m0) s H hkH n1 (fun q=>hbad (by rw [q]; rfl))) ?_
   rintro v H' ⟨s',e',n',k'⟩
   simp -implicitDefEqProofs only [KW,AA,↓reduceIte,jA,TR]
   exact ⟨s',e',n',k',by trivial,by trivial⟩
  rintro F H2 ⟨s1,e1,n2,k2,f2,f3⟩
  rw [e1] at hbad ⊢
  have hbad:TP vars e.args[1] s1=none→Bad:=hbad
  have g2:=k2.1 _ _ g2 o2.1 o2.2
  have g3:=k2.1 _ _ g3 o3.1 o3.2
  have q3:DR Tryz.prog H2 23 (.ptr b3 0 3)=some (.sl e.m 4 (e.args.map CW)):=by rw [DJ NM g3 (row:=CW e) rfl,NE]
  have i1:I4 4 H2 (.sl e.m 4 (e.args.map CW)) (.int .i64 1)=some (.fptr 4 (e.args.map CW) 1 0):=EX (n:=1) x1
  have d1:DR Tryz.prog H2 40 (.fptr 4 (e.args.map CW) 1 0)=some (.agg (CW e.args[1])):=EU KJ JR ES x1
  simp -implicitDefEqProofs only [A7]
  refine JI 5 _ (by kernel_rfl) rfl rfl ?_
  simp only [zT,zC]
  simp -implicitDefEqProofs only [ET,DK,CY,D7,DL,EC,C9,D9,AO,AA,AX,AU,BN,BH,BO,BG,CG,BV,BP,wxP,AB,jF,jD,jE,↓reduceIte,jA,jL,jG,jB,enP,LQ,IJ,f2,f3,AUK g2,q3,i1,d1]
  refine ACalls.mono (ih e.args[1] m1 (he.arg m1) s1 H2 (hkH.trans k2) n2 hbad) ?_
  rintro v H' qq
  simp -implicitDefEqProofs only [EO,G9,TR]
  exact qq.post (k1.trans k2)
 have c19:(e.op == 19)=false:=by simpa using h19
 rw [if_neg h19] at hbad ⊢
 by_cases h15:e.op=15
 ·have c15:(e.op == 15)=true:=by simpa using h15
  rw [if_pos h15] at hbad ⊢
  have hl:=ar2 (by omega) (by omega)
  have x0:0 < e.args.length:=by omega
  have x1:1 < e.args.length:=by omega
  have m0:e.args[0]∈e.args:=jT x0
  have m1:e.args[1]∈e.args:=jT x1
  have i0:I4 4 H (.sl e.m 4 (e.args.map CW)) (.int .i64 0)=some (.fptr 4 (e.args.map CW) 0 0):=EX (n:=0) x0
  have d0:DR Tryz.prog H 40 (.fptr 4 (e.args.map CW) 0 0)=some (.agg (CW e.args[0])):=EU KJ JR ES x0
  have i1:I4 4 H (.sl e.m 4 (e.args.map CW)) (.int .i64 1)=some (.fptr 4 (e.args.map CW) 1 0):=EX (n:=1) x1
  have d1:DR Tryz.prog H 40 (.fptr 4 (e.args.map CW) 1 0)=some (.agg (CW e.args[1])):=EU KJ JR ES x1
  rw [gd 0 x0,gd 1 x1] at hbad ⊢
  simp -implicitDefEqProofs only [BB,A8,BI,A7,DI,DN,AZ,BA,AO,AQ,AL,BD,AY,AC,AA,AX,AU,BH,BC,BU,wxP,AB,CX,↓reduceIte,jA,jB,jC,enP,c4,c19,c15]
  refine JI 10 _ (by kernel_rfl) rfl rfl ?_
  simp only [zT,zC]
  simp -implicitDefEqProofs only [ET,DK,CY,D7,DL,EC,ABO,C9,D9,AO,AA,AX,AU,BN,BH,BO,JQ,BG,CG,BV,BP,wxP,AB,jF,jD,jE,↓reduceIte,jA,jL,jG,jB,enP,LQ,IJ,q2,q3,i0,d0,i1,d1]
  refine ACalls.mono (AAQ G nb lb base Bad vars s e.args[0] e.args[1] (he.arg m0) (he.arg m1) 119 [] [.ptr b2 0 0] feq H hkH n1 (fun s i r H' hi hr hk' n' hb'=>ARH G nb lb base Bad vars s i hi r hr b2 H' (hk'.1 _ _ g2 o2.1 o2.2) (hkH.trans hk') n' hb') hbad) ?_
  rintro v H' qq
  simp -implicitDefEqProofs only [EO,G9,TR]
  exact qq.post k1
 have c15:(e.op == 15)=false:=by simpa using h15
 rw [if_neg h15] at hbad ⊢
 by_cases h16:e.op=16
 ·have c16:(e.op == 16)=true:=by simpa using h16
  rw [if_pos h16] at hbad ⊢
  have hl:=ar2 (by omega) (by omega)
  have x0:0 < e.args.length:=by omega
  have x1:1 < e.args.length:=by omega
  have m0:e.args[0]∈e.args:=jT x0
  have m1:e.args[1]∈e.args:=jT x1
  have i0:I4 4 H (.sl e.m 4 (e.args.map CW)) (.int .i64 0)=some (.fptr 4 (e.args.map CW) 0 0):=EX (n:=0) x0
  have d0:DR Tryz.prog H 40 (.fptr 4 (e.args.map CW) 0 0)=some (.agg (CW e.args[0])):=EU KJ JR ES x0
  have i1:I4 4 H (.sl e.m 4 (e.args.map CW)) (.int .i64 1)=some (.fptr 4 (e.args.map CW) 1 0):=EX (n:=1) x1
  have d1:DR Tryz.prog H 40 (.fptr 4 (e.args.map CW) 1 0)=some (.agg (CW e.args[1])):=EU KJ JR ES x1
  rw [gd 0 x0,gd 1 x1] at hbad ⊢
  simp -implicitDefEqProofs only [BB,A8,BI,A7,DI,DN,AZ,BA,AO,AQ,AL,BD,AY,AC,AA,AX,AU,BH,BC,BU,wxP,AB,CX,↓reduceIte,jA,jB,jC,enP,c4,c19,c15,c16]
  refine JI 11 _ (by kernel_rfl) rfl rfl ?_
  simp only [zT,zC]
  simp -implicitDefEqProofs only [ET,DK,CY,D7,DL,EC,ABO,C9,D9,AO,AA,AX,AU,BN,BH,BO,JQ,BG,CG,BV,BP,wxP,AB,jF,jD,jE,↓reduceIte,jA,jL,jG,jB,enP,LQ,IJ,q2,q3,i0,d0,i1,d1]
  refine ACalls.mono (AAQ G nb lb base Bad vars s e.args[0] e.args[1] (he.arg m0) (he.arg m1) 120 [.ptr nb 0 0] [] fne H hkH n1 (fun s i r H' hi hr hk' n' hb'=>ARF G nb lb base Bad vars s i hi r hr H' (hkH.trans hk') n' hb') hbad) ?_
  rintro v H' qq
  simp -implicitDefEqProofs only [EO,G9,TR]
  exact qq.post k1
 have c16:(e.op == 16)=false:=by simpa using h16
 rw [if_neg h16] at hbad ⊢
 by_cases h17:e.op=17
 ·have c17:(e.op == 17)=true:=by simpa using h17
  rw [if_pos h17] at hbad ⊢
  have hl:=ar2 (by omega) (by omega)
  have x0:0 < e.args.length:=by omega
  have x1:1 < e.args.length:=by omega
  have m0:e.args[0]∈e.args:=jT x0
  have m1:e.args[1]∈e.args:=jT x1
  have i0:I4 4 H (.sl e.m 4 (e.args.map CW)) (.int .i64 0)=some (.fptr 4 (e.args.map CW) 0 0):=EX (n:=0) x0
  have d0:DR Tryz.prog H 40 (.fptr 4 (e.args.map CW) 0 0)=some (.agg (CW e.args[0])):=EU KJ JR ES x0
  have i1:I4 4 H (.sl e.m 4 (e.args.map CW)) (.int .i64 1)=some (.fptr 4 (e.args.map CW) 1 0):=EX (n:=1) x1
  have d1:DR Tryz.prog H 40 (.fptr 4 (e.args.map CW) 1 0)=some (.agg (CW e.args[1])):=EU KJ JR ES x1
  rw [gd 0 x0,gd 1 x1] at hbad ⊢
  simp -implicitDefEqProofs only [BB,A8,BI,A7,DI,DN,AZ,BA,AO,AQ,AL,BD,AY,AC,AA,AX,AU,BH,BC,BU,wxP,AB,CX,↓reduceIte,jA,jB,jC,enP,c4,c19,c15,c16,c17]
  refine JI 9 _ (by kernel_rfl) rfl rfl ?_
  simp only [zT,zC]
  simp -implicitDefEqProofs only [ET,DK,CY,D7,DL,EC,C9,D9,AO,AA,AX,AU,BN,BH,BO,BG,CG,BV,BP,wxP,AB,jF,jD,jE,↓reduceIte,jA,jL,jG,jB,enP,LQ,IJ,q2,q3,i0,d0,i1,d1]
  refine ACalls.mono (AB5 G nb lb base Bad vars s e.args[0] e.args[1] (he.arg m0) (he.arg m1) 1 (by decide) H hkH n1 hbad) ?_
  rintro v H' qq
  simp -implicitDefEqProofs only [EO,G9,TR]
  exact qq.post k1
 have c17:(e.op == 17)=false:=by simpa using h17
 rw [if_neg h17] at hbad ⊢
 by_cases h18:e.op=18
 ·have c18:(e.op == 18)=true:=by simpa using h18
  rw [if_pos h18] at hbad ⊢
  have hl:=ar2 (by omega) (by omega)
  have x0:0 < e.args.length:=by omega
  have x1:1 < e.args.length:=by omega
  have m0:e.args[0]∈e.args:=jT x0
  have m1:e.args[1]∈e.args:=jT x1
  have i0:I4 4 H (.sl e.m 4 (e.args.map CW)) (.int .i64 0)=some (.fptr 4 (e.args.map CW) 0 0):=EX (n:=0) x0
  have d0:DR Tryz.prog H 40 (.fptr 4 (e.args.map CW) 0 0)=some (.agg (CW e.args[0])):=EU KJ JR ES x0
  have i1:I4 4 H (.sl e.m 4 (e.args.map CW)) (.int .i64 1)=some (.fptr 4 (e.args.map CW) 1 0):=EX (n:=1) x1
  have d1:DR Tryz.prog H 40 (.fptr 4 (e.args.map CW) 1 0)=some (.agg (CW e.args[1])):=EU KJ JR ES x1
  rw [gd 0 x0,gd 1 x1] at hbad ⊢
  simp -implicitDefEqProofs only [BB,A8,BI,A7,DI,DN,AZ,BA,AO,AQ,AL,BD,AY,AC,AA,AX,AU,BH,BC,BU,wxP,AB,CX,↓reduceIte,jA,jB,jC,enP,c4,c19,c15,c16,c17,c18]
  refine JI 9 _ (by kernel_rfl) rfl rfl ?_
  simp only [zT,zC]
  simp -implicitDefEqProofs only [ET,DK,CY,D7,DL,EC,C9,D9,AO,AA,AX,AU,BN,BH,BO,BG,CG,BV,BP,wxP,AB,jF,jD,jE,↓reduceIte,jA,jL,jG,jB,enP,LQ,IJ,q2,q3,i0,d0,i1,d1]
  refine ACalls.mono (AB5 G nb lb base Bad vars s e.args[0] e.args[1] (he.arg m0) (he.arg m1) 0 (by decide) H hkH n1 hbad) ?_
  rintro v H' qq
  simp -implicitDefEqProofs only [EO,G9,TR]
  exact qq.post k1
 have c18:(e.op == 18)=false:=by simpa using h18
 rw [if_neg h18] at hbad ⊢
 by_cases h23:e.op=23
 ·have c23:(e.op == 23)=true:=by simpa using h23
  rw [if_pos h23] at hbad ⊢
  have hl:=arI h23
  have x0:0 < e.args.length:=by omega
  have m0:e.args[0]∈e.args:=jT x0
  have i0:I4 4 H (.sl e.m 4 (e.args.map CW)) (.int .i64 0)=some (.fptr 4 (e.args.map CW) 0 0):=EX (n:=0) x0
  have d0:DR Tryz.prog H 40 (.fptr 4 (e.args.map CW) 0 0)=some (.agg (CW e.args[0])):=EU KJ JR ES x0
  rw [gd 0 x0] at hbad ⊢
  simp -implicitDefEqProofs only [BB,A8,BI,A7,DI,DN,AZ,BA,AO,AQ,AL,BD,AY,AC,AA,AX,AU,BH,BC,BU,wxP,AB,CX,↓reduceIte,jA,jB,jC,enP,c4,c19,c15,c16,c17,c18,c23]
  refine EK (by kernel_rfl) ?_
  simp -implicitDefEqProofs only [ET,DK,CY,D7,DL,G5,EC,C9,D9,EI,EE,BB,A8,A7,AZ,AO,AQ,AL,BD,AY,AC,AA,AX,AU,BN,BH,BJ,BO,BU,BG,CG,wxP,AB,jF,jD,jE,↓reduceIte,jA,jL,jH,jG,jB,jC,enP,LQ,IJ,L8,EM,FZ,EW,q2,q3,i0,d0]
  refine ⟨_,PY G vars s.1 nb e.args[0] H n1.ev,?_⟩
  simp -implicitDefEqProofs only [BI,A7,BA,AC,AA,AX,AB,FV,↓reduceIte]
  have hva:(if e.args[0].op=2 then plc vars e.args[0].name else -1)=vix vars e.args[0]:=rfl
  rw [hva]
  have hra:=QG vars e.args[0]
  unfold atV at hbad ⊢
  have hsl:LD Tryz.prog H 23 (.sl e.m 4 (e.args.map CW)) (some (.int .i64 1)) none none=some (.sl e.m 4 ((e.args.drop 1).map CW)):=by
   have:=ATL (h:=H) (m:=e.m) (kk := .i64) (xs:=e.args.map CW) (l:=1) ANG JR (by rw [jR]; omega)
   rw [List.map_drop]; exact this
  refine CQ (fun hd => ?_) (fun hd => ?_)
  ·have hd:(0:Int)≤vix vars e.args[0]:=by simpa using hd
   rw [if_pos hd] at hbad ⊢
   obtain ⟨i,hi⟩:=zI hd
   rw [hi,zG] at hbad ⊢
   simp -implicitDefEqProofs only []
   refine JI 5 _ (by kernel_rfl) rfl rfl ?_
   simp only [zT,zC]
   simp -implicitDefEqProofs only [ET,qP,Option.map_none,DK,CY,D7,DL,EH,EC,X5,C9,AO,AA,AX,AU,BN,BH,BO,OG,BG,BV,BP,wxP,AB,jF,jD,jE,↓reduceIte,jA,jL,jG,jB,enP,IJ,q2,q3,hsl,hi]
   refine ACalls.mono (AHW G nb lb base Bad vars s i (by omega) (e.args.drop 1) e.m (fun a ha=>he.arg (List.mem_of_mem_drop ha)) (by rw [List.length_drop]; omega) H hkH n1 hbad) ?_
   rintro v H' qq
   simp -implicitDefEqProofs only [EO,G9,TR]
   exact qq.post k1
  ·have hd : ¬ (0:Int)≤vix vars e.args[0]:=by simpa using hd
   rw [if_neg hd]
   simp -implicitDefEqProofs only [BR,EO,G9]
   exact ⟨s,rfl,n1,k1⟩
 have c23:(e.op == 23)=false:=by simpa using h23
 rw [if_neg h23] at hbad ⊢
 simp -implicitDefEqProofs only [BB,A8,BR,BI,A7,EO,G9,DN,AZ,BA,AO,AQ,AL,BD,AY,AC,AA,AX,AU,BH,BC,BU,wxP,AB,CX,↓reduceIte,jA,jB,jC,enP,c4,c19,c15,c16,c17,c18,c23]
 exact ⟨s,rfl,n1,k1⟩
end
def AFA (r:Rng):Nat:=(r.hi - r.lo).toNat
def wid (l:List Rng):Nat:=(l.map AFA).sum
theorem ALT : ∀ (l:List Rng) (i:Nat) (hi:i < l.length) (r:Rng),wid (l.set i r)+AFA l[i]=wid l+AFA r
 | x :: l,0,_,r=>by simp [wid]; omega
 | x :: l,i+1,hi,r=>by
   have:=ALT l i (by simpa using hi) r
   simp only [wid] at this ⊢
   simp only [List.set_cons_succ,jF,List.sum_cons,List.getElem_cons_succ]
   omega
structure Ste (s s':NS):Prop where
 len:s'.1.length=s.1.length
 sub : ∀ (i:Nat) (h:i < s.1.length) (h':i < s'.1.length),s.1[i].lo≤s'.1[i].lo∧s'.1[i].hi≤s.1[i].hi
 wf:(∀ r∈s.1,wfR r)→∀ r∈s'.1,wfR r
 wd:(∀ r∈s.1,wfR r)→wid s'.1≤wid s.1
 chg:(∀ r∈s.1,wfR r)→s'.2=true→s.2=true∨wid s'.1 < wid s.1
 un:s'.2=false→s.2=false∧s'.1=s.1
 keep:s.2=true→s'.2=true
theorem Ste.rfl' (s:NS):Ste s s:=⟨rfl,fun _ _ _=>⟨qK _,qK _⟩,fun h=>h,fun _=>jQ _,fun _ h => .inl h,fun h=>⟨h,rfl⟩,fun h=>h⟩
theorem Ste.trans {a b c:NS} (h1:Ste a b) (h2:Ste b c):Ste a c:=by
 refine ⟨h2.len.trans h1.len,fun i h h' => ?_,fun w=>h2.wf (h1.wf w),fun w=>Nat.le_trans (h2.wd (h1.wf w)) (h1.wd w),fun w hc => ?_,fun hc => ?_,fun h=>h2.keep (h1.keep h)⟩
 ·have hb:i < b.1.length:=by rw [h1.len]; exact h
  have p:=h1.sub i h hb
  have q:=h2.sub i hb h'
  exact ⟨Int.le_trans p.1 q.1,Int.le_trans q.2 p.2⟩
 ·have hw:=h1.wd w
  have hw2:=h2.wd (h1.wf w)
  rcases h2.chg (h1.wf w) hc with q | q
  ·rcases h1.chg w q with q | q
   ·exact .inl q
   ·exact .inr (by omega)
  ·exact .inr (by omega)
 ·obtain ⟨p,q⟩:=h2.un hc
  obtain ⟨p',q'⟩:=h1.un p
  exact ⟨p',q.trans q'⟩
theorem NH {s s':NS} {i:Nat} {lo hi:Int} (hi':i < s.1.length) (h:NI s i lo hi=some s'):Ste s s':=by
 have hgd:s.1.getD i GV=s.1[i]:=by rw [zF,jU hi']; rfl
 unfold NI at h
 rw [hgd] at h
 by_cases hd:(nxR s.1[i] lo hi).lo > (nxR s.1[i] lo hi).hi
 ·rw [if_pos hd] at h; cases h
 rw [if_neg hd] at h
 cases h
 have hlo:s.1[i].lo≤(nxR s.1[i] lo hi).lo:=by show s.1[i].lo≤max s.1[i].lo lo; omega
 have hhi:(nxR s.1[i] lo hi).hi≤s.1[i].hi:=by show min s.1[i].hi hi≤s.1[i].hi; omega
 have hws:=ALT s.1 i hi' (nxR s.1[i] lo hi)
 have hwd:AFA (nxR s.1[i] lo hi)≤AFA s.1[i]:=by unfold AFA; omega
 refine ⟨by simp,fun j h h' => ?_,fun w r hr => ?_,fun w=>by show wid (s.1.set i _)≤_; omega,fun w hc => ?_,fun hc => ?_,fun h=>by show (s.2 || _)=true; rw [h]; rfl⟩
 ·show s.1[j].lo≤((s.1.set i (nxR s.1[i] lo hi))[j]'(h')).lo∧_
  rw [List.getElem_set]
  by_cases e:i=j
  ·subst e; rw [if_pos rfl]; exact ⟨hlo,hhi⟩
  ·rw [if_neg e]; exact ⟨qK _,qK _⟩
 ·rcases List.mem_or_eq_of_mem_set hr with hr | rfl
  ·exact w r hr
  ·obtain ⟨q0,q1,q2⟩:=w _ (jT hi')
   exact ⟨by omega,by omega,by omega⟩
 ·have hc:(s.2 || !((nxR s.1[i] lo hi) == s.1[i]))=true:=hc
  rcases Bool.or_eq_true_iff.1 hc with h | h
  ·exact .inl h
  ·right
   have hne:nxR s.1[i] lo hi≠s.1[i]:=by simpa using h
   have:AFA (nxR s.1[i] lo hi) < AFA s.1[i]:=by
    obtain ⟨q0,q1,q2⟩:=w _ (jT hi')
    unfold AFA
    have : ¬ ((nxR s.1[i] lo hi).lo=s.1[i].lo∧(nxR s.1[i] lo hi).hi=s.1[i].hi):=fun ⟨a,b⟩=>hne (by
     cases hx:nxR s.1[i] lo hi; cases hy:s.1[i]; rw [hx,hy] at a b; simp at a b; rw [a,b])
    omega
   show wid (s.1.set i _) < _
   omega
 ·have hc:(s.2 || !((nxR s.1[i] lo hi) == s.1[i]))=false:=hc
  rw [Bool.or_eq_false_iff] at hc
  have he:nxR s.1[i] lo hi=s.1[i]:=by simpa using hc.2
  refine ⟨hc.1,?_⟩
  show s.1.set i (nxR s.1[i] lo hi)=s.1
  rw [he,set_self hi']
theorem TZ {r:Option NS} {f:NS→Option NS} {s s':NS} (h:r.bind f=some s') (h1 : ∀ t,r=some t→Ste s t) (h2 : ∀ t,r=some t→Ste s t→f t=some s'→Ste t s'):Ste s s':=by
 cases r with
 | none=>cases h
 | some t=>exact (h1 t rfl).trans (h2 t rfl (h1 t rfl) h)
theorem WQ {vars:List Vr} {a:Ex} {f:NS→Nat→Option NS} {s s':NS} (hl:s.1.length=vars.length) (hf : ∀ i,i < s.1.length→∀ s',f s i=some s'→Ste s s') (h:atV vars a f s=some s'):Ste s s':=by
 unfold atV at h
 by_cases hc:0≤vix vars a
 ·rw [if_pos hc] at h
  have:=QG vars a
  exact hf _ (by omega) s' h
 ·rw [if_neg hc] at h; cases h; exact .rfl' _
theorem AFO (vars:List Vr) (e:Ex) : ∀ (s s':NS),s.1.length=vars.length→TP vars e s=some s'→Ste s s':=by
 induction e using Ex.induct with | h e ih => ?_
 intro s s' hl h
 rw [AFP] at h
 unfold AQG at h
 by_cases h2:e.op=2∧0≤plc vars e.name
 ·rw [if_pos h2] at h
  have hr:=P9 (JB e.name) vars
  exact NH (by have:=h2.2; unfold plc at *; omega) h
 rw [if_neg h2] at h
 by_cases h4:e.op=4
 ·rw [if_pos h4] at h
  exact WQ hl (fun i hi s' h=>NH hi h) h
 rw [if_neg h4] at h
 by_cases h19:e.op=19
 ·rw [if_pos h19] at h
  have key : ∀ (xs:List Ex),(∀ a∈xs,a∈e.args)→∀ (s s':NS),s.1.length=vars.length→QU vars xs s=some s'→Ste s s':=by
   intro xs
   induction xs with
   | nil=>intro _ s s' _ h; cases h; exact .rfl' _
   | cons x xs ihx =>
     intro hm s s' hl h
     have h:(TP vars x s).bind (QU vars xs)=some s':=h
     exact TZ h (fun t ht=>ih x (hm x (by simp)) s t hl ht) (fun t _ st ht=>ihx (fun a ha=>hm a (by simp [ha])) t s' (by rw [st.len]; exact hl) ht)
  exact key e.args (fun a h=>h) s s' hl h
 rw [if_neg h19] at h
 have eith : ∀ (f:NS→Nat→Rng→Option NS) (a b:Ex),(∀ (s s':NS) (i:Nat) (r:Rng),i < s.1.length→f s i r=some s'→Ste s s')→YX f vars s a b=some s'→Ste s s':=fun f a b hf h=>by
  unfold YX at h
  exact TZ h (fun t ht=>WQ hl (fun i hi s' h=>hf _ _ _ _ hi h) ht) (fun t _ st ht=>WQ (by rw [st.len]; exact hl) (fun i hi s' h=>hf _ _ _ _ hi h) ht)
 by_cases h15:e.op=15
 ·rw [if_pos h15] at h
  exact eith feq _ _ (fun s s' i r hi h=>NH hi h) h
 rw [if_neg h15] at h
 by_cases h16:e.op=16
 ·rw [if_pos h16] at h
  refine eith fne _ _ (fun s s' i r hi h => ?_) h
  unfold fne at h
  by_cases hs:sgl r=true
  ·rw [if_pos hs] at h
   refine TZ h (fun t ht => ?_) (fun t _ st ht => ?_)
   ·split at ht
    ·exact NH hi ht
    ·cases ht; exact .rfl' _
   ·split at ht
    ·exact NH (by rw [st.len]; exact hi) ht
    ·cases ht; exact .rfl' _
  ·rw [if_neg hs] at h; cases h; exact .rfl' _
 rw [if_neg h16] at h
 have ord : ∀ (a b:Ex) (gap:Int),AFL vars s a b gap=some s'→Ste s s':=fun a b gap h=>by
  unfold AFL at h
  exact TZ h (fun t ht=>WQ hl (fun i hi s' h=>NH hi h) ht) (fun t _ st ht=>WQ (by rw [st.len]; exact hl) (fun i hi s' h=>NH hi h) ht)
 by_cases h17:e.op=17
 ·rw [if_pos h17] at h; exact ord _ _ _ h
 rw [if_neg h17] at h
 by_cases h18:e.op=18
 ·rw [if_pos h18] at h; exact ord _ _ _ h
 rw [if_neg h18] at h
 by_cases h23:e.op=23
 ·rw [if_pos h23] at h
  exact WQ hl (fun i hi s' h=>NH hi h) h
 rw [if_neg h23] at h
 cases h; exact .rfl' _
theorem YJ (vars:List Vr) : ∀ (xs:List Ex) (s s':NS),s.1.length=vars.length→QU vars xs s=some s'→Ste s s'
 | [],s,s',_,h=>by cases h; exact .rfl' _
 | x :: xs,s,s',hl,h=>by
   have h:(TP vars x s).bind (QU vars xs)=some s':=h
   exact TZ h (fun t ht=>AFO vars x s t hl ht) (fun t _ st ht=>YJ vars xs t s' (by rw [st.len]; exact hl) ht)
def ADZ (vars:List Vr) (hard:List Ex) (l:List Rng):Bool:=hard.any fun e=>isF (evS vars l e)
def QT (vars:List Vr) (hard:List Ex) (s:NS):Option NS:=(QU vars hard (s.1,false)).bind fun s'=>if ADZ vars hard s'.1=true then none else some s'
def OL (vars:List Vr) (hard:List Ex):Nat→NS→Option NS
 | 0,s=>if s.2=true then none else some s
 | n+1,s=>if s.2=true then (QT vars hard s).bind (OL vars hard n) else some s
def UT:List Ds→NS→Option NS
 | []=>fun s=>some s
 | d :: ds=>fun s=>(VB s d).bind (UT ds)
def MZ (p:Pr) (l:List Rng):Option NS:=(UT p.dists (l,false)).bind fun s=>OL p.vars p.hard (wid s.1+1) (s.1,true)
theorem ATT {vars:List Vr} {hard:List Ex} {s s':NS} (hl:s.1.length=vars.length) (h:QT vars hard s=some s'):Ste (s.1,false) s':=by
 unfold QT at h
 cases hx:QU vars hard (s.1,false) with
 | none=>rw [hx] at h; cases h
 | some t =>
   rw [hx] at h
   have h:(if ADZ vars hard t.1=true then none else some t)=some s':=h
   split at h
   ·cases h
   ·cases h; exact YJ vars hard _ _ hl hx
theorem ACY {vars:List Vr} : ∀ (ds:List Ds),(∀ d∈ds,NC vars d.var=true)→∀ (s s':NS),s.1.length=vars.length→UT ds s=some s'→Ste s s'
 | [],_,s,s',_,h=>by cases h; exact .rfl' _
 | d :: ds,hv,s,s',hl,h=>by
   have h:(VB s d).bind (UT ds)=some s':=h
   obtain ⟨i,hi,he,_⟩:=O4 (hv d (by simp))
   exact TZ h (fun t ht=>NH (by rw [he,hl]; simpa using hi) ht) (fun t _ st ht=>ACY ds (fun x hx=>hv x (by simp [hx])) t s' (by rw [st.len]; exact hl) ht)
end Go.Proofs.YtokehnfjjmpanaaGreatDoor.Bd
