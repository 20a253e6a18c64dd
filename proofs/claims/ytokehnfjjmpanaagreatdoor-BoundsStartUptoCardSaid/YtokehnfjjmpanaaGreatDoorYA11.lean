/- Part 11 of the proof (W8, W9, Wa, Wb, Wc, Wd, We, Wf); no condition. -/
import Derived.Test.YtokehnfjjmpanaaGreatDoorYA10
set_option linter.unusedVariables false
set_option linter.unusedSimpArgs false
set_option maxRecDepth 8000
namespace Go.Proofs.YtokehnfjjmpanaaGreatDoor.Bd
open Sm Bins Cov Xe Wd Go.RowKit
open Bool renaming not_false→jC,or_false→jO
open Int renaming toNat_natCast→zM,eq_ofNat_of_zero_le→zL
open List renaming length_map→jM,take_zero→zF,drop_eq_nil_of_le→zZ,take_succ_eq_append_getElem→zY,getElem?_set_ne→zJ,getElem_mem→jS,length_take→zT,map_cons→jF,map_nil→jD,append_nil→jE,take_of_length_le→jY,getD_eq_getElem?_getD→qG,getElem?_eq_getElem→jV,getElem?_map→zB,contains_cons→jP,contains_nil→jQ,getElem?_cons_succ→zK,getElem?_cons_zero→zG,take_succ_cons→qI,nil_append→zA,cons_append→zN,drop_eq_getElem_cons→qH
open Nat renaming le_refl→jL,le_of_ble_eq_true→jH,reduceEqDiff→jA,zero_add→jG,add_zero→jI,reduceAdd→jK,reduceBEq→jR
open Option renaming getD_some→jB,getD_none→jJ,map_some→qM
theorem AIE {e:Ex} (h:IZ e=0):1≤e.op∧e.op≤25∧(e.op=4∨e.op=5∨e.op=6∨e.op=25→e.args.length=1)∧(e.op=22→e.args.length=3)∧(e.op=23→e.args.length % 2=1∧3≤e.args.length)∧(7≤e.op→e.op≤21→e.args.length=2):=by
 have hO:RX e=false:=by
  unfold IZ at h
  cases hb:RX e
  ·rfl
  ·rw [hb] at h; simp at h
 have hN:AAE e=false:=by
  unfold IZ at h
  cases hb:AAE e
  ·rfl
  ·rw [hO,hb] at h; simp at h
 have hS:XB e=false:=by
  unfold IZ at h
  cases hb:XB e
  ·rfl
  ·rw [hO,hN,hb] at h; simp at h
 have hops:TW e.op e.args.length=true:=by
  unfold XB at hS
  rw [Bool.or_eq_false_iff] at hS
  simpa using hS.2
 have h1:1≤e.op∧e.op≤25:=by unfold RX at hO; simp at hO; omega
 have har:e.op≠23→((e.args.length:Nat):Int)=arity e.op:=fun n23=>by
  unfold TW at hops
  rw [if_neg (by simpa using n23)] at hops
  simpa using hops
 refine ⟨h1.1,h1.2,fun q => ?_,fun q => ?_,fun q => ?_,fun q1 q2 => ?_⟩
 ·have:=har (by omega)
  unfold arity at this
  rw [if_neg (by omega),if_neg (by omega),if_pos (by omega)] at this
  omega
 ·have:=har (by omega)
  rw [q] at this
  simp [arity] at this; omega
 ·unfold TW at hops; rw [q] at hops; simp at hops; omega
 ·have:=har (by omega)
  unfold arity at this
  rw [if_neg (by omega),if_neg (by omega),if_neg (by omega),if_neg (by omega),if_neg (by omega)] at this
  omega
def arR (vs:List Rng) (n:Nat):List (List AV):=vs.map encR ++ List.replicate (n - vs.length) zR
theorem ANL (n:Nat):arR [] n=List.replicate n zR:=by simp [arR]
theorem ANM {vs:List Rng} {n:Nat} (h:vs.length=n):arR vs n=vs.map encR:=by simp [arR,h]
theorem AP5 {vs:List Rng} {n:Nat} (h:vs.length < n) (r:Rng):(arR vs n).set vs.length (encR r)=arR (vs ++ [r]) n:=by
 unfold arR
 rw [List.set_append_right _ _ (by simp)]
 simp only [jM,Nat.sub_self]
 obtain ⟨m,hm⟩ : ∃ m,n - vs.length=m+1:=⟨n - vs.length - 1,by omega⟩
 rw [hm,List.replicate_succ,List.set_cons_zero]
 have:n - (vs ++ [r]).length=m:=by simp; omega
 rw [this]; simp
theorem ASU {vs:List Rng} {n:Nat} (h:vs.length < n):(arR vs n)[vs.length]? = some zR:=by
 unfold arR
 rw [List.getElem?_append_right (by simp),jM,Nat.sub_self,List.getElem?_replicate,if_pos (by omega)]
theorem AWB (h:Hp) (n:Nat) (hn:n≤1048576):JD Tryz.prog true h 29 (.int .i64 (n:Int)) (.int .i64 (n:Int))=some (.own h.length 0 n,h ++ [.live 2 (arR [] n)]):=by
 have hz:MJ Tryz.prog 34=some zR:=by kernel_rfl
 have hr:room n 16:=OI (by omega) (by omega)
 unfold JD
 simp only [AJC,SA,APU,hz,zM]
 rw [if_pos ⟨by omega,Int.le_refl _,hr,rfl⟩,ANL]; rfl
theorem AH8 {H:Hp} {b i:Nat} {xs:List (List AV)} {row:List AV} (r:Rng) (hb:H[b]? = some (.live 2 xs)) (hi:xs[i]? = some row) (hr:row.length=2):FT Tryz.prog H 34 (.ptr b i 0) (.agg (encR r))=some (H.set b (.live 2 (xs.set i (encR r)))):=by
 rw [JA (cs:=encR r) (Q8 rfl) SA hb hi (by rw [hr]; exact jL 2)]
 have:splice row 0 (encR r)=encR r:=by unfold splice; rw [zF,zZ (by rw [hr]; exact jL 2)]; simp
 rw [this]
theorem AVZ {H:Hp} {b n:Nat} {xs:List (List AV)} (hb:H[b]? = some (.live 2 xs)) (h1:1≤n):J8 Tryz.prog H 29 (.own b 0 n) (some (.int .i64 1)) none none=some (.own b 1 (n - 1)):=by
 unfold J8
 simp only [AJC,hb,SA,I9]
 simp [h1]
theorem ARS {H:Hp} {b:Nat} {vs:List Rng} {n:Nat} (r:Rng) (hb:H[b]? = some (.live 2 (arR vs n))) (h:vs.length < n):FT Tryz.prog H 34 (.ptr b vs.length 0) (.agg (encR r))=some (H.set b (.live 2 (arR (vs ++ [r]) n))):=by
 rw [AH8 r hb (ASU h) rfl,AP5 h]
theorem AKE (p:List Vr) (l:List Rng) (xs:List Ex) (j:Nat) (hj:j < xs.length):QM p l (xs.take (j+1))=QM p l (xs.take j) ++ [evS p l xs[j]]:=by
 rw [NY,NY,zY hj,List.map_append]; rfl
structure Lp (h H:Hp) (eb bz ob:Nat) (e:Ex) (rows:List (List AV)):Prop where
 ge:H[eb]? = some (ABlk.live 4 [CV e])
 gz:H[bz]? = some (ABlk.live 2 [zR])
 go:H[ob]? = some (ABlk.live 2 rows)
 hx:Sm.ext h H
 hz:h.length≤bz
 ho:h.length≤ob
 n1:eb≠ob
 n2:bz≠ob
theorem Lp.app {h H:Hp} {eb bz ob:Nat} {e:Ex} {rows:List (List AV)} (q:Lp h H eb bz ob e rows) (x:ABlk):Lp h (H ++ [x]) eb bz ob e rows :=
 ⟨CX q.ge,CX q.gz,CX q.go,q.hx.app _,q.hz,q.ho,q.n1,q.n2⟩
theorem Lp.put {h H:Hp} {eb bz ob:Nat} {e:Ex} {rows:List (List AV)} (q:Lp h H eb bz ob e rows) (rows':List (List AV)):Lp h (H.set ob (.live 2 rows')) eb bz ob e rows' :=
 ⟨by rw [zJ (Ne.symm q.n1)]; exact q.ge,by rw [zJ (Ne.symm q.n2)]; exact q.gz,G5 q.go,q.hx.set q.ho _,q.hz,q.ho,q.n1,q.n2⟩
theorem Lp.z {h H:Hp} {eb bz ob:Nat} {e:Ex} {rows:List (List AV)} (q:Lp h H eb bz ob e rows):Z0 h H bz:=⟨q.gz,q.hx,q.hz⟩
section
variable (G:Nat→AV)
set_option maxHeartbeats 4000000 in
theorem ABK (vars:List Vr) (l:List Rng) (hl:l.length=vars.length) (hw : ∀ r∈l,wfR r) (vb:Nat) (e:Ex):(pre e).length≤1048576→(∀ x∈pre e,IZ x=0)→∀ h:Hp,EvO h vb vars l→PCall (En G) 49 [.ptr vb 0 0,.agg (CV e)] h (.agg (encR (evS vars l e))):=by
 induction e using Ex.induct with | h e ih => ?_
 intro hwt hval h hev
 have hpl:=congrArg List.length (pre_eq e)
 rw [List.length_cons] at hpl
 have hal:e.args.length≤1048576:=by have:=VO e.args; omega
 have hnode:=hval e (by rw [pre_eq]; simp)
 obtain ⟨a1,a25,ar1,ar3,arI,ar2⟩:=AIE hnode
 have hn1:=(AED hnode).1
 refine MG 2 (fun n H=>rfl) ?_
 refine acN Tryz.func49 rfl ?_
 show awp _ _ _ _ _ (EH _ [.cell 4 34] _)
 have q:Lp h (h ++ [ABlk.live 4 [CV e]] ++ [ABlk.live 2 [zR]] ++ [ABlk.live 2 (arR [] e.args.length)]) h.length (h ++ [ABlk.live 4 [CV e]]).length (h ++ [ABlk.live 4 [CV e]] ++ [ABlk.live 2 [zR]]).length e (arR [] e.args.length) :=
  ⟨CX (CX (C9 _ _)),CX (C9 _ _),C9 _ _,(((ext.rfl' h).app _).app _).app _,by simp,by simp,by simp,by simp⟩
 have g3:=CX (x:=ABlk.live 2 [zR]) (C9 h (ABlk.live 4 [CV e]))
 have l3:DI Tryz.prog (h ++ [ABlk.live 4 [CV e]] ++ [ABlk.live 2 [zR]]) 23 (.ptr h.length 0 3)=some (.sl e.m 4 (e.args.map CV)):=by rw [DC QP g3 (row:=CV e) rfl,RH]
 simp -implicitDefEqProofs only [BB,A8,A7,AZ,BA,AC,AQ,AO,BD,AX,AL,AA,AY,BC,EX,FN,BN,RY,BG,FH,BV,AB,BF,CE,↓reduceIte,jA,jG,jB,jC,enP,TZ,JQ,bxE,OD,l3,jM,AWB _ _ hal]
 generalize h ++ [ABlk.live 4 [CV e]] ++ [ABlk.live 2 [zR]] ++ [ABlk.live 2 (arR [] e.args.length)]=H1 at q ⊢
 generalize (h ++ [ABlk.live 4 [CV e]] ++ [ABlk.live 2 [zR]]).length=ob at q ⊢
 generalize (h ++ [ABlk.live 4 [CV e]]).length=bz at q ⊢
 generalize h.length=eb at q ⊢
 have l3:DI Tryz.prog H1 23 (.ptr eb 0 3)=some (.sl e.m 4 (e.args.map CV)):=by rw [DC QP q.ge (row:=CV e) rfl,RH]
 simp -implicitDefEqProofs only [CJ,A7,AZ,BA,AC,AQ,AO,BD,AX,AL,AA,AY,AU,BH,BI,FH,AB,↓reduceIte,jB,jC,enP,TZ,l3,jM]
 refine D8 (fun n F H => ∃ j,n+j=e.args.length∧F 0 = .ptr vb 0 0∧F 3 = .ptr eb 0 0∧F 4 = .ptr bz 0 0∧F 5 = .own ob 0 e.args.length∧F 14 = .sl e.m 4 (e.args.map CV)∧F 15 = .int .i64 (e.args.length:Nat)∧F 16 = .int .i64 (j:Nat)∧Lp h H eb bz ob e (arR (QM vars l (e.args.take j)) e.args.length)) e.args.length
  ⟨0,by simp,by simp -implicitDefEqProofs only [AA,BF,↓reduceIte,jA],by simp -implicitDefEqProofs only [AA,↓reduceIte,jA],by simp -implicitDefEqProofs only [AA,↓reduceIte,jA],by simp -implicitDefEqProofs only [AA,↓reduceIte,jA],by simp -implicitDefEqProofs only [AA,↓reduceIte,jA],by simp -implicitDefEqProofs only [AA,↓reduceIte,jA],by simp -implicitDefEqProofs only [AA,↓reduceIte]; rfl,q⟩ ?_
 clear q l3
 rintro n F H ⟨j,hj,f0,f3,f4,f5,f14,f15,f16,q⟩
 simp -implicitDefEqProofs only [BB,A8,BJ,A7,AZ,BA,AC,AQ,AO,BD,AX,AL,AA,AY,BR,AB,DF,↓reduceIte,jB,jC,enP,f15,f16]
 refine CS (fun hc => ?_) (fun hc => ?_)
 ·have hj':j < e.args.length:=by simpa using hc
  have hmem:e.args[j]∈e.args:=jS hj'
  have hpm:=PV hmem
  have hlen:(QM vars l (e.args.take j)).length=j:=by rw [S9,zT]; omega
  have q2:=q.app (ABlk.live 4 [CV e.args[j]])
  have hst:=ARS (evS vars l e.args[j]) q2.go (by rw [hlen]; exact hj')
  rw [hlen,← AKE vars l e.args j hj'] at hst
  have i1:JV 2 (H ++ [ABlk.live 4 [CV e.args[j]]]) (.own ob 0 e.args.length) (.int .i64 (j:Nat))=some (.ptr ob (0+j) 0):=KD q2.go hj'
  rw [jG] at i1
  simp -implicitDefEqProofs only [BB,CJ,A8,BQ,A7,AZ,BA,AC,AQ,AO,BD,AX,AL,DV,AA,AY,BO,BI,BC,EX,BN,CY,CU,BX,BP,BV,AB,BZ,jF,jD,jE,↓reduceIte,jA,jB,jC,enP,QC,jJ,f14,f16,EJ hj',EM MC JU ER hj',AFU,AGA _ _ [.int .i64 0,.int .i64 0,.str ⟨#[]⟩,.sl .nil 0 []] rfl,f0,f5,ldE]
  refine (ih e.args[j] hmem (by omega) (fun x hx=>hval x (by rw [pre_eq]; exact List.mem_cons_of_mem _ (QW hmem x hx))) _ (hev.ext q2.hx)).use ?_
  simp -implicitDefEqProofs only [A8,A7,EO,FK,AZ,BA,AC,AQ,AO,BD,AX,AL,DV,AA,AY,AU,BH,BI,CY,BR,CU,AB,BZ,DZ,↓reduceIte,jA,jB,jC,enP,RQ,jJ,i1,hst,f16,wrap_succ (show j < 9223372036854775807 by omega)]
  exact ⟨n - 1,by omega,j+1,by omega,by trivial,by trivial,by trivial,by trivial,by trivial,by trivial,by trivial,q2.put _⟩
 have hj' : ¬ j < e.args.length:=by simpa using hc
 rw [jY (by omega),ANM (S9 vars l e.args)] at q
 generalize hvs:QM vars l e.args=vs at q
 have hvl:vs.length=e.args.length:=by rw [← hvs,S9]
 have hwf : ∀ r∈vs,wfR r:=by
  intro r hr
  rw [← hvs,NY] at hr
  obtain ⟨a,ha,rfl⟩:=List.mem_map.1 hr
  exact AQL vars hw a fun x hx=>hval x (by rw [pre_eq]; exact List.mem_cons_of_mem _ (QW ha x hx))
 have hes:evS vars l e=evO vars l e.op e.n e.name vs:=by rw [AMV,hvs]
 have ix : ∀ k:Nat,k < vs.length→JV 2 H (.own ob 0 e.args.length) (.int .i64 (k:Nat))=some (.ptr ob k 0):=fun k hk=>by
  have:=KD (kk := .i64) (off:=0) (n:=k) (len:=e.args.length) q.go (by omega)
  rw [jG] at this; exact this
 have ld : ∀ k:Nat,∀ hk:k < vs.length,DI Tryz.prog H 34 (.ptr ob k 0)=some (.agg (encR (vs.getD k JS))):=fun k hk=>by
  rw [ZF q.go hk,qG,jV hk]; rfl
 have w0:=TE hwf 0
 have w1:=TE hwf 1
 have l0:DI Tryz.prog H 3 (.ptr eb 0 0)=some (.int .i64 e.op):=by rw [DC ag3 q.ge (row:=CV e) rfl,I8]
 have l1:DI Tryz.prog H 3 (.ptr eb 0 1)=some (.int .i64 e.n):=by rw [DC ag3 q.ge (row:=CV e) rfl,XU]
 have lE:=IU q.ge
 have fin : ∀ {F:Fr} {r:Rng},F 4 = .ptr bz 0 0→r=evO vars l e.op e.n e.name vs→EH Tryz.prog [.cell 4 34] (fun v H=>v = .agg (encR (evS vars l e))∧Sm.ext h H) .ret F (H.set bz (.live 2 [encR r])):=fun hF hr=>q.z.out hF (by rw [hr,hes])
 simp -implicitDefEqProofs only [BB,CJ,A8,D6,BJ,A7,E5,FY,GG,AZ,BA,AC,AQ,AO,BD,AX,AL,AA,AY,AU,BH,BC,BN,BR,BG,AB,DW,↓reduceIte,jA,jI,jB,jC,enP,G8,f3,l0]
 by_cases h1:e.op=1
 ·have c1:(e.op == 1)=true:=by simpa using h1
  simp -implicitDefEqProofs only [BB,A8,DY,AZ,AC,AQ,AO,BD,AX,AL,AA,AY,BO,BN,BG,BX,BP,AB,jF,jD,jE,↓reduceIte,jA,jG,jB,jC,enP,ZP,c1,f3,l1]
  refine (NR G _ _).use ?_
  simp -implicitDefEqProofs only [BK,A7,CQ,D5,AZ,BA,AC,AQ,AO,BD,AX,AL,DV,AA,AY,CY,BZ,↓reduceIte,jA,jC,enP,jJ,f4,q.z.st]
  exact fin (by simp -implicitDefEqProofs only [AA,↓reduceIte,jA,f4]) (by unfold evO; rw [if_pos h1])
 have c1:(e.op == 1)=false:=by simpa using h1
 by_cases h2:e.op=2
 ·have c2:(e.op == 2)=true:=by simpa using h2
  simp -implicitDefEqProofs only [BB,A8,BJ,A7,DY,EC,AZ,BA,AC,AQ,AO,BD,AX,AL,AA,AY,AU,BO,BH,BI,BC,BN,BR,BX,BP,AB,DW,jF,jD,jE,↓reduceIte,jA,jB,jC,enP,c1,c2,f0,f3,lE]
  refine (NM G vars l vb e H (hev.ext q.hx)).use ?_
  rw [if_pos h2]
  simp -implicitDefEqProofs only [BB,A8,BJ,A7,AZ,BA,AC,AQ,AO,BD,AX,AL,AA,AY,AU,BH,BI,BC,BR,AB,FQ,↓reduceIte,jB,jC,enP]
  have hr:=QJ (JB e.name) vars
  refine CS (fun hp => ?_) (fun hp => ?_)
  ·have hp:0≤plc vars e.name:=by simpa using hp
   obtain ⟨i,hi⟩:=zL hp
   have hil:i < l.length:=by unfold plc at hi; omega
   obtain ⟨mb,L,k,tl,ents,g1,g2,g3,g4⟩:=(hev.ext q.hx).ex
   obtain ⟨qp,s1,s2,_⟩:=g4.at' hil
   have l29:DI Tryz.prog H 29 (.ptr vb 0 1)=some L:=by rw [DC (by kernel_rfl) g1 (row := .mp mb :: L :: tl) rfl]; rfl
   simp -implicitDefEqProofs only [BB,A8,BK,A7,CQ,D5,AZ,BA,AC,AQ,AO,BD,AX,AL,DV,AA,AY,BI,BN,CY,BG,CU,AB,BZ,↓reduceIte,jA,jG,jB,jC,enP,RQ,WQ,jJ,EK,EY,f0,hi,l29,s1,s2,f4,q.z.st]
   refine fin (by simp -implicitDefEqProofs only [AA,↓reduceIte,jA,f4]) ?_
   unfold evO AN9
   rw [if_neg h1,if_pos h2,if_pos hp,hi,zM,qG,jV hil]; rfl
  ·have hp : ¬ 0≤plc vars e.name:=by simpa using hp
   simp -implicitDefEqProofs only [BB,A8,BQ,A7,AZ,AC,AQ,AO,BD,AX,BO,BX,BP,jD,jE,jB,jC]
   refine (LW G _).use ?_
   simp -implicitDefEqProofs only [BK,A7,CQ,D5,AZ,BA,AC,AQ,AO,BD,AX,AL,DV,AA,AY,CY,BZ,↓reduceIte,jA,jC,enP,jJ,f4,q.z.st]
   exact fin (by simp -implicitDefEqProofs only [AA,↓reduceIte,jA,f4]) (by unfold evO AN9; rw [if_neg h1,if_pos h2,if_neg hp])
 have c2:(e.op == 2)=false:=by simpa using h2
 by_cases h3:e.op=3
 ·have c3:(e.op == 3)=true:=by simpa using h3
  simp -implicitDefEqProofs only [BB,A8,BQ,BJ,A7,DY,EC,AZ,BA,AC,AQ,AO,BD,AX,AL,AA,AY,AU,BO,BH,BC,BR,BX,BP,AB,DW,jD,jE,↓reduceIte,jA,jB,jC,enP,c1,c2,c3]
  refine (LW G _).use ?_
  simp -implicitDefEqProofs only [BK,A7,CQ,D5,AZ,BA,AC,AQ,AO,BD,AX,AL,DV,AA,AY,CY,BZ,↓reduceIte,jA,jC,enP,jJ,f4,q.z.st]
  exact fin (by simp -implicitDefEqProofs only [AA,↓reduceIte,jA,f4]) (by unfold evO; rw [if_neg h1,if_neg h2,if_pos (.inl h3)])
 have c3:(e.op == 3)=false:=by simpa using h3
 by_cases h24:e.op=24
 ·have c24:(e.op == 24)=true:=by simpa using h24
  simp -implicitDefEqProofs only [BB,A8,BJ,A7,DY,EC,AZ,BA,AC,AQ,AO,BD,AX,AL,AA,AY,AU,BO,BH,BC,BR,BX,BP,AB,DW,jD,jE,↓reduceIte,jA,jB,jC,enP,c1,c2,c3,c24]
  refine (LW G _).use ?_
  simp -implicitDefEqProofs only [BK,A7,CQ,D5,AZ,BA,AC,AQ,AO,BD,AX,AL,DV,AA,AY,CY,BZ,↓reduceIte,jA,jC,enP,jJ,f4,q.z.st]
  exact fin (by simp -implicitDefEqProofs only [AA,↓reduceIte,jA,f4]) (by unfold evO; rw [if_neg h1,if_neg h2,if_pos (.inr h24)])
 have c24:(e.op == 24)=false:=by simpa using h24
 have hO:evO vars l e.op e.n e.name vs=opR e.op vs:=by unfold evO; rw [if_neg h1,if_neg h2,if_neg (by omega)]
 rw [hO] at fin
 have len1:0 < vs.length:=by
  rcases (show (e.op=4∨e.op=5∨e.op=6∨e.op=25)∨e.op=22∨e.op=23∨(7≤e.op∧e.op≤21) by omega) with h | h | h | h
  ·have:=ar1 h; omega
  ·have:=ar3 h; omega
  ·have:=arI h; omega
  ·have:=ar2 h.1 h.2; omega
 have x0:JV 2 H (.own ob 0 e.args.length) (.int .i64 0)=some (.ptr ob 0 0):=ix 0 len1
 have d0:=ld 0 len1
 by_cases h4:e.op=4
 ·have c4:(e.op == 4)=true:=by simpa using h4
  simp -implicitDefEqProofs only [BB,A8,BJ,A7,DY,EC,AZ,BA,AC,AQ,AO,BD,AX,AL,AA,AY,AU,BH,BC,BR,AB,DW,↓reduceIte,jA,jB,jC,enP,c1,c2,c3,c24,c4]
  refine EZ (by kernel_rfl) ?_
  simp -implicitDefEqProofs only [FD,DR,CZ,DU,ES,ED,GI,FI,EP,EF,AC,AA,AY,AU,BO,BH,BN,CY,CU,AB,jF,jD,jE,↓reduceIte,jA,jK,jG,jB,enP,RQ,jJ,f5,x0,d0]
  refine ⟨_,JE G _ _,?_⟩
  try simp -implicitDefEqProofs only [f5,x0,d0]
  refine ⟨_,KO G _ _,?_⟩
  try simp -implicitDefEqProofs only []
  refine ⟨_,JI G _ _ _,?_⟩
  simp -implicitDefEqProofs only [GL,D9,BK,A7,CQ,D5,BZ,f4,q.z.st]
  exact fin (by simp -implicitDefEqProofs only [AA,↓reduceIte,jA,f4]) (by unfold opR; rw [if_pos h4])
 have c4:(e.op == 4)=false:=by simpa using h4
 by_cases h5:e.op=5
 ·have c5:(e.op == 5)=true:=by simpa using h5
  have dl:DI Tryz.prog H 3 (.ptr ob 0 0)=some (.int .i64 (vs.getD 0 JS).lo):=by
   rw [DC ag3 q.go (row:=encR (vs.getD 0 JS)) (by rw [zB,qG,jV len1]; rfl)]; rfl
  have dh:DI Tryz.prog H 3 (.ptr ob 0 1)=some (.int .i64 (vs.getD 0 JS).hi):=by
   rw [DC ag3 q.go (row:=encR (vs.getD 0 JS)) (by rw [zB,qG,jV len1]; rfl)]; rfl
  obtain ⟨v0,v1,v2⟩:=w0
  simp -implicitDefEqProofs only [BB,A8,BJ,A7,DY,EC,AZ,BA,AC,AQ,AO,BD,AX,AL,AA,AY,AU,BH,BC,BR,AB,DW,↓reduceIte,jA,jB,jC,enP,c1,c2,c3,c24,c4,c5]
  refine EZ (by kernel_rfl) ?_
  simp -implicitDefEqProofs only [FD,EU,EN,DR,CZ,GL,D9,DU,ES,NJ,ED,GI,IJ,DK,FI,BK,A7,CQ,D5,AC,AA,AY,AU,BH,FO,BN,CY,BR,BG,CU,AB,BZ,JJ,↓reduceIte,jA,jK,jI,jG,jB,enP,RQ,GK,GZ,jJ,f5,x0,dl,dh,wrap_i64 (n:=65535 - (vs.getD 0 JS).hi) (by omega) (by omega),wrap_i64 (n:=65535 - (vs.getD 0 JS).lo) (by omega) (by omega),OC,f4,q.z.st]
  exact fin (by simp -implicitDefEqProofs only [AA,↓reduceIte,jA,f4]) (by unfold opR; rw [if_neg h4,if_pos h5])
 have c5:(e.op == 5)=false:=by simpa using h5
 by_cases h6:e.op=6
 ·have c6:(e.op == 6)=true:=by simpa using h6
  simp -implicitDefEqProofs only [BB,A8,BJ,A7,DY,EC,AZ,BA,AC,AQ,AO,BD,AX,AL,AA,AY,AU,BO,BH,BI,BC,BN,BR,CU,BX,BP,AB,DW,jF,jD,jE,↓reduceIte,jA,jB,jC,enP,RQ,c1,c2,c3,c24,c4,c5,c6,f5,x0,d0]
  refine (AL0 G _ w0 _).use ?_
  simp -implicitDefEqProofs only [BK,A7,CQ,D5,AZ,BA,AC,AQ,AO,BD,AX,AL,DV,AA,AY,CY,BZ,↓reduceIte,jA,jC,enP,jJ,f4,q.z.st]
  exact fin (by simp -implicitDefEqProofs only [AA,↓reduceIte,jA,f4]) (by unfold opR; rw [if_neg h4,if_neg h5,if_pos h6])
 have c6:(e.op == 6)=false:=by simpa using h6
 by_cases h25:e.op=25
 ·have c25:(e.op == 25)=true:=by simpa using h25
  simp -implicitDefEqProofs only [BB,A8,BJ,A7,DY,EC,AZ,BA,AC,AQ,AO,BD,AX,AL,AA,AY,AU,BO,BH,BI,BC,BN,BR,CU,BX,BP,AB,DW,jF,jD,jE,↓reduceIte,jA,jB,jC,enP,RQ,c1,c2,c3,c24,c4,c5,c6,c25,f5,x0,d0]
  refine (AJS G _ w0 _).use ?_
  simp -implicitDefEqProofs only [BK,A7,CQ,D5,AZ,BA,AC,AQ,AO,BD,AX,AL,DV,AA,AY,CY,BZ,↓reduceIte,jA,jC,enP,jJ,f4,q.z.st]
  exact fin (by simp -implicitDefEqProofs only [AA,↓reduceIte,jA,f4]) (by unfold opR; rw [if_neg h4,if_neg h5,if_neg h6,if_pos h25])
 have c25:(e.op == 25)=false:=by simpa using h25
 by_cases h22:e.op=22
 ·have c22:(e.op == 22)=true:=by simpa using h22
  have hv3:vs.length=3:=by rw [hvl,ar3 h22]
  have x1:JV 2 H (.own ob 0 e.args.length) (.int .i64 1)=some (.ptr ob 1 0):=ix 1 (by omega)
  have x2:JV 2 H (.own ob 0 e.args.length) (.int .i64 2)=some (.ptr ob 2 0):=ix 2 (by omega)
  simp -implicitDefEqProofs only [BB,A8,BJ,A7,DY,EC,AZ,BA,AC,AQ,AO,BD,AX,AL,AA,AY,AU,BH,BC,BR,AB,DW,↓reduceIte,jA,jB,jC,enP,c1,c2,c3,c24,c4,c5,c6,c25,c22]
  refine EZ (by kernel_rfl) ?_
  simp -implicitDefEqProofs only [FD,DR,CZ,DU,ES,ED,GI,FI,EP,EF,AC,AA,AY,AU,BO,BH,BN,CY,CU,AB,jF,jD,jE,↓reduceIte,jA,jK,jG,jB,enP,RQ,jJ,f5,x0,d0,x1,ld 1 (by omega),x2,ld 2 (by omega)]
  refine ⟨_,AM9 G _ _ _ _,?_⟩
  simp -implicitDefEqProofs only [GL,D9,BK,A7,CQ,D5,BZ,f4,q.z.st]
  exact fin (by simp -implicitDefEqProofs only [AA,↓reduceIte,jA,f4]) (by unfold opR; rw [if_neg h4,if_neg h5,if_neg h6,if_neg h25,if_pos h22])
 have c22:(e.op == 22)=false:=by simpa using h22
 by_cases h23:e.op=23
 ·have c23:(e.op == 23)=true:=by simpa using h23
  simp -implicitDefEqProofs only [BB,A8,BJ,A7,DY,EC,AZ,BA,AC,AQ,AO,BD,AX,AL,AA,AY,AU,BH,BC,BR,AB,DW,↓reduceIte,jA,jB,jC,enP,c1,c2,c3,c24,c4,c5,c6,c25,c22,c23]
  refine EZ (by kernel_rfl) ?_
  simp -implicitDefEqProofs only [FD,qM,Option.map_none,DR,CZ,DU,ES,ED,GI,VF,FI,EP,EF,AC,AA,AY,AU,BO,BH,BN,CY,NK,CU,AB,jF,jD,jE,↓reduceIte,jA,jK,jG,jB,enP,RQ,jJ,f5,x0,d0,AVZ q.go (show 1≤e.args.length by omega)]
  have hins:=AME G (vs.getD 0 JS) vs ob H q.go (by omega) (by omega)
  rw [hvl] at hins
  refine ⟨_,hins,?_⟩
  simp -implicitDefEqProofs only [GL,D9,BK,A7,CQ,D5,BZ,f4,q.z.st]
  exact fin (by simp -implicitDefEqProofs only [AA,↓reduceIte,jA,f4]) (by unfold opR; rw [if_neg h4,if_neg h5,if_neg h6,if_neg h25,if_neg h22,if_pos h23])
 have c23:(e.op == 23)=false:=by simpa using h23
 have hop:7≤e.op∧e.op≤21:=by omega
 have hv2:vs.length=2:=by rw [hvl,ar2 hop.1 hop.2]
 have x1:JV 2 H (.own ob 0 e.args.length) (.int .i64 1)=some (.ptr ob 1 0):=ix 1 (by omega)
 simp -implicitDefEqProofs only [BB,A8,BQ,BJ,A7,EO,EC,AZ,BA,AC,AQ,AO,BD,AX,AL,AA,AY,AU,BH,BC,BR,AB,DW,↓reduceIte,jA,jB,jC,enP,c1,c2,c3,c24,c4,c5,c6,c25,c22,c23]
 refine EZ (by kernel_rfl) ?_
 simp -implicitDefEqProofs only [FD,DR,CZ,DU,ES,ED,GI,DK,FI,EP,EF,AC,AA,AY,AU,BO,BH,BN,CY,BG,CU,AB,jF,jD,jE,↓reduceIte,jA,jK,jI,jG,jB,enP,RQ,G8,jJ,f3,l0,f5,x0,d0,x1,ld 1 (by omega)]
 refine ⟨_,ANG G e.op _ _ w0 w1 hop _,?_⟩
 simp -implicitDefEqProofs only [GL,D9,BK,A7,BZ,f4,q.z.st]
 exact fin (by simp -implicitDefEqProofs only [AA,↓reduceIte,jA,f4]) (by unfold opR; rw [if_neg h4,if_neg h5,if_neg h6,if_neg h25,if_neg h22,if_neg h23])
end
theorem AMM:Frz encR:=fun _ _ _ _=>⟨rfl,rfl⟩
def RU (vars:List Vr) (l:List Rng):Bool:=l.all (fun r=>decide (wfR r)) && (l.length == vars.length)
theorem OW {vars:List Vr} {l:List Rng}:RU vars l=true↔(∀ r∈l,wfR r)∧l.length=vars.length:=by
 unfold RU
 rw [Bool.and_eq_true,List.all_eq_true]
 simp
theorem nwf {r:Rng} (h:(decide (r.lo < 0) || (decide (r.lo > r.hi) || decide (r.hi > 65535)))=true) : ¬ wfR r:=by
 intro q
 obtain ⟨a,b,c⟩:=q
 simp at h; omega
section
variable (G:Nat→AV)
theorem AEY (p:Pr) (_hs:PrS p) (l:List Rng) (m:SM) (hl:l.length≤1048576) (h:Hp):PCall (En G) 34 [.agg (DX p),.sl m 2 (l.map encR)] h (.bool (RU p.vars l)):=by
 refine ACalls.pure0 rfl ?_
 refine acN Tryz.func34 rfl ?_
 show awp _ _ _ _ _ (EH _ [.tmp 4] _)
 have ge:=C9 h (ABlk.live 5 [DX p])
 have hx:ext h (h ++ [ABlk.live 5 [DX p]]):=(ext.rfl' h).app _
 simp -implicitDefEqProofs only [BB,CJ,A8,A7,AZ,BA,AC,AQ,AO,BD,AX,AL,AA,AY,AU,BH,BM,BI,BC,FN,FH,BV,AB,BF,CE,↓reduceIte,jA,jB,jC,enP,AEM,UC,jM]
 generalize h ++ [ABlk.live 5 [DX p]]=H0 at ge hx ⊢
 generalize h.length=eb at ge ⊢
 refine D8 (fun n F H => ∃ i,n+i=l.length∧F 1 = .sl m 2 (l.map encR)∧F 2 = .ptr eb 0 0∧F 7 = .sl m 2 (l.map encR)∧F 8 = .int .i64 (l.length:Nat)∧F 9 = .int .i64 (i:Nat)∧ext H0 H∧∀ r∈l.take i,wfR r) l.length ⟨0,by simp,by simp -implicitDefEqProofs only [AA,BF,CE,↓reduceIte,jA],by simp -implicitDefEqProofs only [AA,↓reduceIte,jA],by simp -implicitDefEqProofs only [AA,↓reduceIte,jA],by simp -implicitDefEqProofs only [AA,↓reduceIte,jA],by simp -implicitDefEqProofs only [AA,↓reduceIte]; rfl,ext.rfl' _,by simp⟩ ?_
 rintro n F H ⟨i,hi,f1,f2,f7,f8,f9,hxH,hw⟩
 simp -implicitDefEqProofs only [BB,A8,BJ,A7,AZ,BA,AC,AQ,AO,BD,AX,AL,AA,AY,BR,AB,DF,↓reduceIte,jB,jC,enP,f8,f9]
 refine CS (fun hc => ?_) (fun hc => ?_)
 ·have hi':i < l.length:=by simpa using hc
  have hxx:=hx.trans hxH
  have g6:=C9 H (ABlk.live 2 [encR l[i]])
  simp -implicitDefEqProofs only [BB,CJ,A8,BQ,A7,AZ,BA,AC,AQ,AO,BD,AX,AL,DV,AA,AY,EX,BN,CY,BG,CU,BV,AB,BZ,↓reduceIte,jA,jI,jB,jC,enP,RQ,GK,jJ,f7,f9,EJ hi',EM AFW SA O9 hi',OD,VJ]
  have bad : ∀ q:(decide (l[i].lo < 0) || (decide (l[i].lo > l[i].hi) || decide (l[i].hi > 65535)))=true,RU p.vars l=false:=fun q=>by
   rw [← Bool.not_eq_true]
   exact fun h=>nwf q ((OW.1 h).1 _ (jS hi'))
  have hx2:=hxx.app [ABlk.live 2 [encR l[i]]]
  have hx3:=hxH.app [ABlk.live 2 [encR l[i]]]
  generalize H ++ [ABlk.live 2 [encR l[i]]]=H1 at g6 hx2 hx3 ⊢
  generalize H.length=rb at g6 ⊢
  simp -implicitDefEqProofs only [AZ,BL,BU,CO,AC,AQ,AO,BD,AX,AL,AA,AY,AU,BH,BI,BR,AB,DF,↓reduceIte,jB,jC,enP,GU g6,H6 g6]
  refine IK (fun h1 => ?_) (fun h1 => ?_)
  ·simp -implicitDefEqProofs only [BB,A8,BK,BJ,A7,CQ,D5,FV,CW,DY,AZ,BA,BL,BU,CO,F6,AC,AQ,AO,BD,AX,AL,AA,EG,AY,AU,BM,BI,BC,CP,DL,↓reduceIte,jA,jB,jC,h1]
   exact ⟨by rw [bad (by rw [h1]; rfl)],hx2⟩
  simp -implicitDefEqProofs only [AZ,BL,BU,CO,EQ,AC,AQ,AO,BD,AX,AL,AA,AY,AU,BM,BI,CP,DN,BN,BR,BG,AB,E8,↓reduceIte,jA,jI,jG,jB,jC,enP,GK,GZ,h1,GU g6,H6 g6]
  refine IK (fun h2 => ?_) (fun h2 => ?_)
  ·simp -implicitDefEqProofs only [BB,A8,BK,BJ,A7,CQ,D5,FV,CW,DY,AZ,BA,BL,BU,CO,F6,AC,AQ,AO,BD,AX,AL,AA,EG,AY,AU,BM,BC,CP,DL,↓reduceIte,jA,jB,jC,h1,h2]
   exact ⟨by rw [bad (by rw [h2]; simp)],hx2⟩
  simp -implicitDefEqProofs only [BJ,A7,AZ,BA,BL,BU,CO,EQ,AC,AQ,AO,BD,AX,AL,AA,AY,AU,BH,BM,CP,DN,BN,BR,BG,AB,E8,↓reduceIte,jA,jG,jB,jC,enP,GZ,h1,h2,GU g6,H6 g6]
  refine CS (fun h3 => ?_) (fun h3 => ?_)
  ·simp -implicitDefEqProofs only [BB,A8,BK,A7,CQ,D5,FV,CW,AZ,BA,AC,AQ,AO,BD,AX,AL,AA,AU,BM,BC,↓reduceIte,jB,jC]
   exact ⟨by rw [bad (by rw [h3]; simp)],hx2⟩
  ·simp -implicitDefEqProofs only [A8,BQ,A7,EO,FK,AZ,BA,AC,AQ,AO,BD,AX,AL,AA,AY,AU,BH,BI,BR,AB,DZ,↓reduceIte,jA,jB,jC,enP,f9,wrap_succ (show i < 9223372036854775807 by omega)]
   refine ⟨n - 1,by omega,i+1,by omega,by trivial,by trivial,by trivial,by trivial,by trivial,hx3,fun r hr => ?_⟩
   rw [zY hi'] at hr
   rcases List.mem_append.1 hr with hr | hr
   ·exact hw r hr
   ·rw [List.mem_singleton] at hr
    subst hr
    simp at h1 h2 h3
    exact ⟨by omega,by omega,by omega⟩
 ·have hi' : ¬ i < l.length:=by simpa using hc
  rw [jY (by omega)] at hw
  have l0:DI Tryz.prog H 22 (.ptr eb 0 0)=some (.sl p.vm 4 (p.vars.map FC)):=by rw [DC UF (FX hxH ge) (row:=DX p) rfl]; rfl
  simp -implicitDefEqProofs only [BB,A8,BK,D6,A7,E5,FY,GG,CW,AZ,BA,AC,AQ,AO,BD,AX,AL,AA,AY,BI,BC,BN,BR,BG,FH,AB,DW,↓reduceIte,jA,jI,jB,jC,enP,QA,KT,AEM,f1,f2,l0,jM]
  refine ⟨?_,hx.trans hxH⟩
  congr 1
  rw [Bool.eq_iff_iff,OW]
  simp
  constructor
  ·intro h; exact ⟨hw,by omega⟩
  ·intro h; omega
theorem AGS (w:Int) (h0:0≤w) (h1:w≤16) (h:Hp):PCall (En G) 31 [.int .i64 w] h (.int .i64 (2 ^ w.toNat - 1)):=by
 obtain ⟨n,rfl⟩:=zL h0
 refine acN Tryz.func31 rfl ?_
 show awp _ _ _ _ _ (EH _ [.tmp 2] _)
 have d1:decide (((n:Nat):Int) < 0)=false:=by rw [decide_eq_false_iff_not]; omega
 have d2:decide (((n:Nat):Int) > 16)=false:=by simp; omega
 have hp:=Nat.pow_le_pow_right (by decide:0 < 2) (show n≤16 by omega)
 have hp0:0 < 2 ^ n:=Nat.pow_pos (by decide)
 have e:((2 ^ n:Nat):Int)=(2:Int) ^ n:=by simp
 simp -implicitDefEqProofs only [BB,A8,BQ,BK,BJ,A7,CW,EC,AZ,BA,BL,BU,CO,EQ,AC,AQ,AO,BD,AX,AL,AA,AY,AU,BH,BM,BI,BC,CP,DN,BR,AB,JJ,DF,E8,BF,↓reduceIte,jA,jB,jC,enX,enP,d1,d2,ARU n (by omega),wrap_i64 (n:=((2 ^ n:Nat):Int) - 1) (by omega) (by omega)]
 exact ⟨by rw [e,zM],trivial⟩
def stR (v:Vr):Rng:=if v.mode=0 then ⟨v.value,v.value⟩ else ⟨0,2 ^ v.width.toNat - 1⟩
def stL (p:Pr):List Rng:=if LJ p≠0 then [] else p.vars.map stR
theorem WG {p:Pr} (h:LJ p=0):JW p.vars=0∧JR p.vars (p.hard ++ p.soft)=0∧MB p.vars p.dists=0∧gOK p.vars p.groups=true:=by
 unfold LJ at h
 by_cases h1:JW p.vars≠0
 ·rw [if_pos h1] at h; exact absurd h h1
 rw [if_neg h1] at h
 by_cases h2:JR p.vars (p.hard ++ p.soft)≠0
 ·rw [if_pos h2] at h; exact absurd h h2
 rw [if_neg h2] at h
 by_cases h3:MB p.vars p.dists≠0
 ·rw [if_pos h3] at h; exact absurd h h3
 rw [if_neg h3] at h
 refine ⟨by simpa using h1,by simpa using h2,by simpa using h3,?_⟩
 cases hg:gOK p.vars p.groups
 ·rw [hg] at h; simp at h
 ·rfl
theorem AH3 {l:List Vr} (h:JW l=0):l.length≤16∧∀ v∈l,II v.name=true∧KI v=false:=by
 unfold JW at h
 by_cases h1:l.length > 16
 ·rw [if_pos h1] at h; cases h
 rw [if_neg h1] at h
 by_cases h2:NE vrE l≠0
 ·rw [if_pos h2] at h; exact absurd h h2
 refine ⟨by omega,fun v hv => ?_⟩
 have:=OV (by simpa using h2) v hv
 unfold vrE at this
 cases hn:II v.name
 ·rw [hn] at this; simp at this
 ·rw [hn] at this
  cases hb:KI v
  ·exact ⟨rfl,rfl⟩
  ·rw [hb] at this; simp at this
theorem AK6 {v:Vr} (h:KI v=false):1≤v.width∧v.width≤8∧0≤v.mode∧v.mode≤2∧0≤v.value∧v.value < 2 ^ v.width.toNat:=by
 unfold KI at h
 simp only [Bool.or_eq_false_iff,decide_eq_false_iff_not] at h
 obtain ⟨⟨⟨⟨⟨⟨h1,h2⟩,h3⟩,h4⟩,h5⟩,h6⟩,_⟩:=h
 exact ⟨by omega,by omega,by omega,by omega,by omega,by omega⟩
theorem ATO {w:Int} (h:w≤8):(2:Int) ^ w.toNat≤256:=by
 have hp:=Nat.pow_le_pow_right (by decide:0 < 2) (show w.toNat≤8 by omega)
 have e:(2:Int) ^ w.toNat=((2 ^ w.toNat:Nat):Int):=by simp
 omega
theorem APV (h:Hp) (r:Rng):FM Tryz.prog false h 29 1 [(0,.agg (encR r))]=some (.sl .full 2 [encR r],h):=by kernel_rfl
set_option maxHeartbeats 1000000 in
theorem YU (hG:GOk G) (p:Pr) (hs:PrS p) (h:Hp):PCall (En G) 11 [.agg (DX p)] h (.sl (nm (stL p)) 2 ((stL p).map encR)):=by
 refine TM AMM ?_
 refine acN Tryz.func11 rfl ?_
 show awp _ _ _ _ _ (EH _ [.tmp 2] _)
 have ge:=C9 h (ABlk.live 5 [DX p])
 have hx:ext h (h ++ [ABlk.live 5 [DX p]]):=(ext.rfl' h).app _
 have lp:DI Tryz.prog (h ++ [ABlk.live 5 [DX p]]) 27 (.ptr h.length 0 0)=some (.agg (DX p)):=by rw [GV UE SB ge (row:=DX p) rfl (by rw [IP]; exact jL 5)]; rfl
 simp -implicitDefEqProofs only [BB,A8,A7,AZ,BA,AC,AQ,AO,BD,AX,AL,AA,AY,AU,BO,LG,BC,FN,BN,BX,BP,BV,AB,BF,jF,jD,jE,↓reduceIte,jA,jB,jC,enP,UC,lp]
 generalize h ++ [ABlk.live 5 [DX p]]=H0 at ge hx lp ⊢
 generalize h.length=eb at ge lp ⊢
 refine (UX G hG p hs H0).use ?_
 simp -implicitDefEqProofs only [BJ,A7,AZ,BA,AC,AQ,AO,BD,AX,AL,AA,AY,AU,BH,BR,AB,FU,↓reduceIte,jB,jC,enP]
 refine CS (fun hc => ?_) (fun hc => ?_)
 ·have hc:LJ p≠0:=by simpa using hc
  simp -implicitDefEqProofs only [BB,A8,BK,A7,CQ,CW,AZ,BA,AC,AQ,AO,BD,AX,AL,AA,AU,LG,BC,↓reduceIte,jB,jC]
  have e:stL p = []:=by unfold stL; rw [if_pos hc]
  rw [e]
  exact ⟨hx,outG.nil _ _ _ _⟩
 have hc:LJ p=0:=by simpa using hc
 have e:stL p=p.vars.map stR:=by unfold stL; rw [if_neg (by simpa using hc)]
 rw [e]
 obtain ⟨hlen,hvar⟩:=AH3 (WG hc).1
 have l0:DI Tryz.prog H0 22 (.ptr eb 0 0)=some (.sl p.vm 4 (p.vars.map FC)):=by rw [DC UF ge (row:=DX p) rfl]; rfl
 simp -implicitDefEqProofs only [BB,CJ,A8,BQ,A7,AZ,BA,AC,AQ,AO,BD,AX,AL,AA,AY,AU,BH,LG,BI,BC,BN,BG,FH,AB,↓reduceIte,jA,jI,jB,jC,enP,QA,KT,l0,jM]
 refine D8 (fun n F H => ∃ i u,n+i=p.vars.length∧F 3=u∧F 10 = .sl p.vm 4 (p.vars.map FC)∧F 11 = .int .i64 (p.vars.length:Nat)∧F 12 = .int .i64 (i:Nat)∧ext H0 H∧outG 2 encR H0 ((p.vars.take i).map stR) u H) p.vars.length
  ⟨0,.sl .nil 0 [],by simp,by simp -implicitDefEqProofs only [AA,↓reduceIte,jA],by simp -implicitDefEqProofs only [AA,↓reduceIte,jA],by simp -implicitDefEqProofs only [AA,↓reduceIte,jA],by simp -implicitDefEqProofs only [AA,↓reduceIte]; rfl,ext.rfl' _,outG.nil _ _ _ _⟩ ?_
 rintro n F H ⟨i,u,hi,f3,f10,f11,f12,hxH,ho⟩
 simp -implicitDefEqProofs only [BB,A8,BJ,A7,AZ,BA,AC,AQ,AO,BD,AX,AL,AA,AY,BR,AB,DF,↓reduceIte,jB,jC,enP,f11,f12]
 refine CS (fun hc => ?_) (fun hc => ?_)
 ·have hi':i < p.vars.length:=by simpa using hc
  obtain ⟨_,hbad⟩:=hvar _ (jS hi')
  obtain ⟨w1,w8,_⟩:=AK6 hbad
  have g5:=C9 H (ABlk.live 4 [FC p.vars[i]])
  have ho1:=ho.app [ABlk.live 4 [FC p.vars[i]]]
  have hx1:=hxH.app [ABlk.live 4 [FC p.vars[i]]]
  simp -implicitDefEqProofs only [BB,CJ,A8,BQ,A7,AZ,BA,AC,AQ,AO,BD,AX,AL,DV,AA,AY,EX,BN,CY,BG,CU,BV,AB,BZ,↓reduceIte,jA,jG,jB,jC,enP,RS,LD,jJ,f10,f12,EJ hi',ldV hi',AQA,AOC]
  generalize H ++ [ABlk.live 4 [FC p.vars[i]]]=H1 at g5 ho1 hx1 ⊢
  generalize H.length=vb at g5 ⊢
  have d1:DI Tryz.prog H1 3 (.ptr vb 0 1)=some (.int .i64 p.vars[i].width):=by rw [DC ag3 g5 (row:=FC p.vars[i]) rfl]; rfl
  have d2:DI Tryz.prog H1 3 (.ptr vb 0 2)=some (.int .i64 p.vars[i].mode):=by rw [DC ag3 g5 (row:=FC p.vars[i]) rfl]; rfl
  have d3:DI Tryz.prog H1 3 (.ptr vb 0 3)=some (.int .i64 p.vars[i].value):=by rw [DC ag3 g5 (row:=FC p.vars[i]) rfl]; rfl
  obtain ⟨v',H',ha,ho',_,hx',_,_⟩:=ho1.append (P:=Tryz.prog) AJC SA AQ8 APU (by omega) (by rw [jM,zT]; omega) hx1 (stR p.vars[i])
  have htk:(p.vars.take i).map stR ++ [stR p.vars[i]]=(p.vars.take (i+1)).map stR:=by rw [zY hi',List.map_append]; rfl
  rw [htk] at ho'
  simp -implicitDefEqProofs only [BJ,A7,AZ,BA,AC,AQ,AO,BD,AX,AL,AA,AY,AU,BH,BR,AB,DW,↓reduceIte,jB,jC,enP,d2]
  refine CS (fun hm => ?_) (fun hm => ?_)
  ·have hm:p.vars[i].mode=0:=by simpa using hm
   have er:stR p.vars[i]=⟨p.vars[i].value,p.vars[i].value⟩:=by unfold stR; rw [if_pos hm]
   rw [er] at ha
   simp -implicitDefEqProofs only [A8,AZ,AC,AQ,AO,BD,AX,AL,AA,AY,BO,BI,BN,BG,BX,BP,AB,jF,jD,jE,↓reduceIte,jA,jG,jB,jC,enP,SY,f3,d3]
   refine (NR G _ _).use ?_
   simp -implicitDefEqProofs only [EU,EN,A8,A7,EO,FK,AZ,BA,AC,AQ,AO,BD,AX,AL,AA,AY,AU,BH,BI,BC,F9,BR,MK,BV,AB,DZ,↓reduceIte,jA,jB,jC,enP,APV,ha,f12,wrap_succ (show i < 9223372036854775807 by omega)]
   exact ⟨n - 1,by omega,i+1,v',by omega,by trivial,by trivial,by trivial,by trivial,hx',ho'⟩
  ·have hm : ¬ p.vars[i].mode=0:=by simpa using hm
   have er:stR p.vars[i]=⟨0,2 ^ p.vars[i].width.toNat - 1⟩:=by unfold stR; rw [if_neg hm]
   rw [er] at ha
   simp -implicitDefEqProofs only [A8,AZ,AC,AQ,AO,BD,AX,AL,AA,AY,BO,BI,BN,BG,BX,BP,AB,jF,jD,jE,↓reduceIte,jA,jG,jB,jC,enP,L8,f3,d1]
   refine (AGS G _ (by omega) (by omega) _).use ?_
   simp -implicitDefEqProofs only [EU,EN,A8,A7,EO,FK,AZ,BA,AC,AQ,AO,BD,AX,AL,AA,AY,AU,BH,BI,BC,FO,F9,BR,MK,BV,AB,DZ,↓reduceIte,jA,jB,jC,enP,OC,APV,ha,f12,wrap_succ (show i < 9223372036854775807 by omega)]
   exact ⟨n - 1,by omega,i+1,v',by omega,by trivial,by trivial,by trivial,by trivial,hx',ho'⟩
 ·have hi' : ¬ i < p.vars.length:=by simpa using hc
  rw [jY (by omega)] at ho
  simp -implicitDefEqProofs only [BB,A8,BK,D6,A7,E5,FY,GG,CW,AZ,BA,AC,AQ,AO,BD,AX,AL,AA,AY,BI,BC,↓reduceIte,jA,jB,jC,f3]
  refine ⟨hx.trans hxH,?_⟩
  rcases ho with ⟨a,b⟩ | ⟨a,o,b,c,d⟩
  ·exact .inl ⟨a,b⟩
  ·exact .inr ⟨a,o,Nat.le_trans hx.le b,c,d⟩
def evP (e:Ex) (p:Pr) (l:List Rng):Rng:=if exE e≠0∨LJ p≠0∨RU p.vars l=false then JS else evS p.vars l e
set_option maxHeartbeats 1000000 in
theorem XK (hG:GOk G) (e:Ex) (he:wt e≤1048576) (p:Pr) (hs:PrS p) (l:List Rng) (m:SM) (hl:l.length≤1048576) (h:Hp):PCall (En G) 22 [.agg (CV e),.agg (DX p),.sl m 2 (l.map encR)] h (.agg (encR (evP e p l))):=by
 refine MG 2 (fun n H=>rfl) ?_
 refine IY (H:=hint [1000024] []) (enM G) Tryz.func22 rfl (by kernel_rfl) (by kernel_rfl) (jH (by kernel_rfl)) ?_
 show awp _ _ _ _ _ (EH _ [.cell 6 34] _)
 have z:Z0 h (h ++ [ABlk.live 4 [CV e]] ++ [ABlk.live 5 [DX p]] ++ [ABlk.live 2 [zR]]) (h ++ [ABlk.live 4 [CV e]] ++ [ABlk.live 5 [DX p]]).length:=⟨C9 _ _,(((ext.rfl' h).app _).app _).app _,by simp⟩
 have ge:=CX (x:=ABlk.live 2 [zR]) (CX (x:=ABlk.live 5 [DX p]) (C9 h (ABlk.live 4 [CV e])))
 have gp:=CX (x:=ABlk.live 2 [zR]) (C9 (h ++ [ABlk.live 4 [CV e]]) (ABlk.live 5 [DX p]))
 simp -implicitDefEqProofs only [EI,jP,jQ,jR,jO,BB,A8,A7,AZ,BA,AO,BD,AX,AL,AA,AY,EX,FN,BN,BV,BF,CE,↓reduceIte,jA,jB,jC,enP,FB,bxE,UC,OD]
 generalize h ++ [ABlk.live 4 [CV e]] ++ [ABlk.live 5 [DX p]] ++ [ABlk.live 2 [zR]]=H at z ge gp ⊢
 generalize (h ++ [ABlk.live 4 [CV e]] ++ [ABlk.live 5 [DX p]]).length=bz at z ge gp ⊢
 generalize (h ++ [ABlk.live 4 [CV e]]).length=pb at z ge gp ⊢
 generalize h.length=eb at z ge gp ⊢
 have lp:DI Tryz.prog H 27 (.ptr pb 0 0)=some (.agg (DX p)):=by rw [GV UE SB gp (row:=DX p) rfl (by rw [IP]; exact jL 5)]; rfl
 simp -implicitDefEqProofs only [EI,jP,jQ,jR,jO,AZ,AO,BD,AX,AL,AA,AY,BO,BX,BP,AB,jF,jD,jE,↓reduceIte,jB,jC,FB,IU ge]
 refine (UO G hG e H (ANV he)).use ?_
 simp -implicitDefEqProofs only [EI,jP,jQ,jR,jO,AZ,BL,BU,CO,AO,BD,AX,AL,AA,AY,AU,BH,BI,BR,AB,FU,↓reduceIte,jB,jC,enP,FB]
 refine IK (fun h1 => ?_) (fun h1 => ?_)
 ·have h1':exE e≠0:=by simpa using h1
  simp -implicitDefEqProofs only [EI,jP,jQ,jR,jO,BB,A8,BJ,A7,DY,AZ,BA,BL,BU,CO,F6,AO,BD,AX,AL,AA,EG,AY,AU,BO,BM,BI,CP,DL,BX,BP,jD,jE,↓reduceIte,jA,jB,jC,FB,h1]
  refine (LW G _).use ?_
  simp -implicitDefEqProofs only [EI,jP,jQ,jR,jO,BK,A7,CQ,AZ,BA,AO,BD,AX,AL,DV,AA,AY,CY,BZ,↓reduceIte,jA,jC,enP,FB,jJ,z.st]
  exact z.out (by simp -implicitDefEqProofs only [AA,↓reduceIte,jA]) (by unfold evP; rw [if_pos (.inl h1')])
 have h1':exE e=0:=by simpa using h1
 simp -implicitDefEqProofs only [EI,jP,jQ,jR,jO,BL,BU,CO,EQ,AO,BD,AX,AL,AA,AY,BO,BN,BX,BP,AB,jF,jD,jE,↓reduceIte,jA,jB,jC,enP,FB,h1,lp]
 refine (UX G hG p hs H).use ?_
 simp -implicitDefEqProofs only [EI,jP,jQ,jR,jO,AZ,BL,BU,CO,EQ,AO,BD,AX,AL,AA,AY,AU,BH,BM,BI,CP,DN,BR,AB,FU,↓reduceIte,jA,jB,jC,enP,FB,h1]
 refine IK (fun h2 => ?_) (fun h2 => ?_)
 ·have h2':LJ p≠0:=by simpa using h2
  simp -implicitDefEqProofs only [EI,jP,jQ,jR,jO,BB,A8,BJ,A7,DY,AZ,BA,BL,BU,CO,F6,AO,BD,AX,AL,AA,EG,AY,AU,BO,BM,CP,DL,BX,BP,jD,jE,↓reduceIte,jA,jB,jC,FB,h2]
  refine (LW G _).use ?_
  simp -implicitDefEqProofs only [EI,jP,jQ,jR,jO,BK,A7,CQ,AZ,BA,AO,BD,AX,AL,DV,AA,AY,CY,BZ,↓reduceIte,jA,jC,enP,FB,jJ,z.st]
  exact z.out (by simp -implicitDefEqProofs only [AA,↓reduceIte,jA]) (by unfold evP; rw [if_pos (.inr (.inl h2'))])
 have h2':LJ p=0:=by simpa using h2
 simp -implicitDefEqProofs only [EI,jP,jQ,jR,jO,BL,BU,CO,EQ,AO,BD,AX,AL,AA,AY,BO,BI,BN,BX,BP,AB,BF,CE,jF,jD,jE,↓reduceIte,jA,jB,jC,enP,FB,h2,lp]
 refine (AEY G p hs l m hl H).use ?_
 simp -implicitDefEqProofs only [EI,jP,jQ,jR,jO,BJ,A7,AZ,BA,BL,BU,CO,EQ,AO,BD,AX,AL,AA,AY,AU,BM,CP,DN,I5,AB,FP,↓reduceIte,jA,jB,jC,FB,h2]
 cases h3:RU p.vars l
 ·simp -implicitDefEqProofs only [EI,jP,jQ,jR,jO,BB,A8,DY,AZ,AO,BD,AX,BO,BX,BP,jD,jE,jB,jC,FB]
  refine (LW G _).use ?_
  simp -implicitDefEqProofs only [EI,jP,jQ,jR,jO,BK,A7,CQ,AZ,BA,AO,BD,AX,AL,DV,AA,AY,CY,BZ,↓reduceIte,jA,jC,enP,FB,jJ,z.st]
  exact z.out (by simp -implicitDefEqProofs only [AA,↓reduceIte,jA]) (by unfold evP; rw [if_pos (.inr (.inr h3))])
 simp -implicitDefEqProofs only [BB,BQ,A7,EC,Bool.not_true]
 have hev:evP e p l=evS p.vars l e:=by unfold evP; rw [if_neg (by rw [h1',h2',h3]; simp)]
 obtain ⟨hw,hll⟩:=OW.1 h3
 have hLO:LOk H (.sl m 2 (l.map encR)) l := .inl ⟨m,rfl⟩
 have hE:=ASF H p (.sl m 2 (l.map encR)) l hLO
 have hxE:=Q3 H p (.sl m 2 (l.map encR))
 have zE:Z0 h (evH H p (.sl m 2 (l.map encR))) bz:=⟨FX hxE z.gz,z.hx.trans hxE,z.hl⟩
 have hnew:=VR G p (.sl m 2 (l.map encR)) (.inl ⟨_,_,rfl⟩) hs.vars H
 have heval:=ABK G p.vars l hll hw (H.length+2) e (by have:=U0 e; omega) (ABJ h1') _ hE
 refine AFO [] [0,1] 2 3 [4,5] (by kernel_rfl) trivial ?_
 simp only [J4,zK,zG]
 simp -implicitDefEqProofs only [FD,ADF,Z9,EI,jP,jQ,jR,jO,DR,CZ,D9,DU,ES,ED,AA,AY,BO,BN,AB,BF,CE,jF,jD,jE,↓reduceIte,jA,jK,jB,enP,lp]
 refine ⟨?_,?_⟩
 ·try simp -implicitDefEqProofs only []
  refine ⟨_,_,hnew,?_⟩
  simp -implicitDefEqProofs only [FD,EI,jP,jQ,jR,jO,DR,CZ,DU,GI,EP,EF,AA,AY,BO,CY,AB,jF,jD,jE,↓reduceIte,jA,jK,jG,jB,enP,jJ,IU (FX hxE ge)]
  refine ⟨_,heval,?_⟩
  simp -implicitDefEqProofs only [GL,D9,BK,A7,BZ,zE.st]
  exact zE.out (by simp -implicitDefEqProofs only [AA,↓reduceIte,jA]) hev.symm
 ·simp -implicitDefEqProofs only [FD,ADF,Z9,EI,jP,jQ,jR,jO,DR,CZ,DU,GI,EP,EF,AA,AY,BO,CY,AB,jF,jD,jE,↓reduceIte,jA,jK,jG,jB,enP,jJ,IU ge]
  refine ⟨_,_,hnew,?_⟩
  try simp -implicitDefEqProofs only []
  refine ⟨_,heval,?_⟩
  simp -implicitDefEqProofs only [GL,D9,BK,A7,BZ,zE.st]
  exact zE.out (by simp -implicitDefEqProofs only [AA,↓reduceIte,jA]) hev.symm
theorem AF3 (hG:GOk G) (e:Ex) (he:wt e≤1048576) (p:Pr) (hs:PrS p) (l:List Rng) (m:SM) (hl:l.length≤1048576) (h:Hp):PCall (En G) 24 [.agg (CV e),.agg (DX p),.sl m 2 (l.map encR)] h (.bool (isT (evP e p l))):=by
 refine ACalls.pure0 rfl ?_
 refine acN Tryz.func24 rfl ?_
 show awp _ _ _ _ _ (EH _ [.tmp 6] _)
 have ge:=CX (x:=ABlk.live 5 [DX p]) (C9 h (ABlk.live 4 [CV e]))
 have gp:=C9 (h ++ [ABlk.live 4 [CV e]]) (ABlk.live 5 [DX p])
 have hx:=((ext.rfl' h).app [ABlk.live 4 [CV e]]).app [ABlk.live 5 [DX p]]
 simp -implicitDefEqProofs only [BB,A8,A7,AZ,BA,AC,AQ,AO,BD,AX,AL,AA,AY,AU,BM,BC,FN,BN,BV,BF,CE,↓reduceIte,jA,jB,jC,enP,bxE,UC]
 generalize h ++ [ABlk.live 4 [CV e]] ++ [ABlk.live 5 [DX p]]=H at hx ge gp ⊢
 generalize (h ++ [ABlk.live 4 [CV e]]).length=pb at ge gp ⊢
 generalize h.length=eb at ge gp ⊢
 have lp:DI Tryz.prog H 27 (.ptr pb 0 0)=some (.agg (DX p)):=by rw [GV UE SB gp (row:=DX p) rfl (by rw [IP]; exact jL 5)]; rfl
 simp -implicitDefEqProofs only [AZ,AC,AQ,AO,BD,AX,AL,AA,AY,BO,BI,BN,BX,BP,AB,BF,CE,jF,jD,jE,↓reduceIte,jA,jB,jC,enP,IU ge,lp]
 refine (XK G hG e he p hs l m hl H).use ?_
 simp -implicitDefEqProofs only [AZ,AC,AQ,AO,BD,AX,AL,AA,AY,BO,BX,BP,jF,jD,jE,↓reduceIte,jB,jC]
 refine (KO G _ _).use ?_
 simp -implicitDefEqProofs only [BK,A7,CW,AZ,BA,AC,AQ,AO,BD,AX,AL,AA,AY,BC,↓reduceIte,jB,jC]
 exact ⟨by trivial,hx⟩
end
abbrev NS:=List Rng × Bool
def nxR (r:Rng) (lo hi:Int):Rng:=⟨max r.lo lo,min r.hi hi⟩
def MS (s:NS) (i:Nat) (lo hi:Int):Option NS:=if (nxR (s.1.getD i JS) lo hi).lo > (nxR (s.1.getD i JS) lo hi).hi then none else some (s.1.set i (nxR (s.1.getD i JS) lo hi),s.2 || !((nxR (s.1.getD i JS) lo hi) == s.1.getD i JS))
def NwL (h:Hp) (L:AV) (lb:Nat) (l:List Rng):Prop:=(l = []∧L = .sl .full 2 [])∨(L = .own lb 0 l.length∧h[lb]? = some (.live 2 (l.map encR))∧l≠[])
structure Nw (h:Hp) (nb lb:Nat) (vars:List Vr) (s:NS):Prop where
 ex : ∃ mb L ents,h[nb]? = some (.live 3 [[.mp mb,L,.bool s.2]])∧h[mb]? = some (.map (RV ents))∧(∀ n,RD ents n=ACA n vars 0)∧NwL h L lb s.1∧mb≠nb∧mb≠lb
 ne:nb≠lb
 lbl:lb < h.length
 len:s.1.length=vars.length
 wf : ∀ r∈s.1,wfR r
def Kp (nb lb:Nat) (h H:Hp):Prop:=(∀ b x,h[b]? = some x→b≠nb→b≠lb→H[b]? = some x)∧h.length≤H.length
theorem Kp.rfl' (nb lb:Nat) (h:Hp):Kp nb lb h h:=⟨fun _ _ q _ _=>q,jL _⟩
theorem Kp.trans {nb lb:Nat} {a b c:Hp} (h1:Kp nb lb a b) (h2:Kp nb lb b c):Kp nb lb a c:=⟨fun k x q n1 n2=>h2.1 k x (h1.1 k x q n1 n2) n1 n2,Nat.le_trans h1.2 h2.2⟩
theorem Kp.app {nb lb:Nat} {a b:Hp} (h1:Kp nb lb a b) (x:ABlk):Kp nb lb a (b ++ [x]):=⟨fun k y q n1 n2=>CX (h1.1 k y q n1 n2),Nat.le_trans h1.2 (by simp)⟩
theorem Kp.ofExt {nb lb:Nat} {a b:Hp} (h:Sm.ext a b):Kp nb lb a b:=⟨fun _ _ q _ _=>FX h q,h.le⟩
theorem Kp.setN {nb lb:Nat} {a b:Hp} (h1:Kp nb lb a b) (x:ABlk):Kp nb lb a (b.set nb x):=⟨fun k y q n1 n2=>by rw [zJ (Ne.symm n1)]; exact h1.1 k y q n1 n2,by rw [List.length_set]; exact h1.2⟩
theorem Kp.setL {nb lb:Nat} {a b:Hp} (h1:Kp nb lb a b) (x:ABlk):Kp nb lb a (b.set lb x):=⟨fun k y q n1 n2=>by rw [zJ (Ne.symm n2)]; exact h1.1 k y q n1 n2,by rw [List.length_set]; exact h1.2⟩
def emp:Value := .iface 97 (.agg #[])
def X0 (nb lb:Nat) (base:Hp) (Bad:Prop):Value→Hp→Prop:=fun u H=>u=emp∧Kp nb lb base H∧Bad
def NP (nb lb:Nat) (vars:List Vr) (h:Hp) (r:Option NS):AV→Hp→Prop:=fun _ H => ∃ s,r=some s∧Nw H nb lb vars s∧Kp nb lb h H
theorem Nw.ev {h:Hp} {nb lb:Nat} {vars:List Vr} {s:NS} (n:Nw h nb lb vars s):EvO h nb vars s.1:=by
 obtain ⟨mb,L,ents,h1,h2,h3,h4,_,_⟩:=n.ex
 refine ⟨mb,L,3,_,ents,h1,h2,h3,?_⟩
 rcases h4 with ⟨e,rfl⟩ | ⟨rfl,hb,_⟩
 ·rw [e]; exact .inl ⟨.full,rfl⟩
 ·exact .inr ⟨lb,rfl,hb⟩
theorem Nw.ext {h H:Hp} {nb lb:Nat} {vars:List Vr} {s:NS} (n:Nw h nb lb vars s) (hx:Sm.ext h H):Nw H nb lb vars s:=by
 obtain ⟨mb,L,ents,h1,h2,h3,h4,h5,h6⟩:=n.ex
 refine ⟨⟨mb,L,ents,FX hx h1,FX hx h2,h3,?_,h5,h6⟩,n.ne,Nat.lt_of_lt_of_le n.lbl hx.le,n.len,n.wf⟩
 rcases h4 with h4 | ⟨e,hb,hn⟩
 ·exact .inl h4
 ·exact .inr ⟨e,FX hx hb,hn⟩
theorem Nw.lt {h:Hp} {nb lb:Nat} {vars:List Vr} {s:NS} (n:Nw h nb lb vars s) {b:Nat} (hb:h.length≤b):b≠nb∧b≠lb:=by
 obtain ⟨mb,L,ents,h1,_⟩:=n.ex
 have:=CB h1
 have:=n.lbl
 exact ⟨by omega,by omega⟩
theorem NP.post {nb lb:Nat} {vars:List Vr} {h h':Hp} {r:Option NS} {v:AV} {H:Hp} (hk:Kp nb lb h h') (q:NP nb lb vars h' r v H):NP nb lb vars h r v H:=by
 obtain ⟨s,e,n,k⟩:=q
 exact ⟨s,e,n,hk.trans k⟩
theorem AR1 (a b c d:Int):G6 Tryz.prog 34 .neq (.agg [.int .i64 a,.int .i64 b]) (.agg [.int .i64 c,.int .i64 d])=some (.bool (!((a == c) && ((b == d) && true)))):=by kernel_rfl
theorem ALM (a b:Rng):((a.lo == b.lo) && ((a.hi == b.hi) && true))=(a == b):=by
 cases a; cases b
 rw [Bool.eq_iff_iff]
 simp
theorem AQS (a b:Rng):G6 Tryz.prog 34 .neq (.agg (encR a)) (.agg (encR b))=some (.bool (!(a == b))):=by
 rw [← ALM]; exact AR1 _ _ _ _
theorem AU0 (r:Rng) (lo hi:Int):JL Tryz.prog 34 [(0,.int .i64 (max r.lo lo)),(1,.int .i64 (min r.hi hi))]=some (.agg (encR (nxR r lo hi))):=OC _ _
theorem ARO:Tryz.prog.underlying 97=some (.struct #[]):=by kernel_rfl
theorem ASQ:JL Tryz.prog 97 []=some (.agg []):=by kernel_rfl
theorem set_self {l:List Rng} {i:Nat} (hi:i < l.length):l.set i l[i]=l:=by
 apply List.ext_getElem?
 intro j
 rw [List.getElem?_set]
 by_cases h:i=j
 ·subst h; rw [if_pos rfl,if_pos hi,jV hi]
 ·rw [if_neg h]
theorem Nw.put {h:Hp} {nb lb:Nat} {vars:List Vr} {s:NS} (n:Nw h nb lb vars s) {i:Nat} (hi:i < s.1.length) {r:Rng} (hr:wfR r) : ∃ mb L ents,h[nb]? = some (.live 3 [[.mp mb,L,.bool s.2]])∧L = .own lb 0 s.1.length∧h[lb]? = some (.live 2 (s.1.map encR)) ∧
  Nw ((h.set lb (.live 2 ((s.1.set i r).map encR))).set nb (.live 3 [[.mp mb,L,.bool true]])) nb lb vars (s.1.set i r,true)∧h[mb]? = some (.map (RV ents)):=by
 obtain ⟨mb,L,ents,h1,h2,h3,h4,h5,h6⟩:=n.ex
 have hne:=n.ne
 rcases h4 with ⟨e,_⟩ | ⟨rfl,hb,hnl⟩
 ·rw [e] at hi; simp at hi
 refine ⟨mb,_,ents,h1,rfl,hb,⟨⟨mb,.own lb 0 s.1.length,ents,?_,?_,h3,.inr ⟨by rw [List.length_set],?_,by intro q; have:=congrArg List.length q; simp at this; rw [this] at hi; simp at hi⟩,h5,h6⟩,hne,by rw [List.length_set,List.length_set]; exact n.lbl,by rw [List.length_set]; exact n.len,?_⟩,h2⟩
 ·exact G5 (x := .live 3 [[.mp mb,.own lb 0 s.1.length,.bool s.2]]) (by rw [zJ (Ne.symm hne)]; exact h1)
 ·rw [zJ (Ne.symm h5),zJ (Ne.symm h6)]; exact h2
 ·rw [zJ hne]; exact G5 hb
 ·intro x hx
  rcases List.mem_or_eq_of_mem_set hx with hx | rfl
  ·exact n.wf x hx
  ·exact hr
section
variable (G:Nat→AV)
set_option maxHeartbeats 2000000 in
theorem J7 (nb lb:Nat) (base:Hp) (Bad:Prop) (vars:List Vr) (s:NS) (i:Nat) (hi:i < vars.length) (lo hi':Int) (b1 : -1048576≤lo) (b2:lo≤1048576) (b3 : -1048576≤hi') (b4:hi'≤1048576) (h:Hp) (hk:Kp nb lb base h) (n:Nw h nb lb vars s) (hbad:MS s i lo hi'=none→Bad) :
  ACalls ((En G).wx (X0 nb lb base Bad)) 117 [.ptr nb 0 0,.int .i64 (i:Nat),.int .i64 lo,.int .i64 hi'] h (NP nb lb vars h (MS s i lo hi')):=by
 have hil:i < s.1.length:=by rw [n.len]; exact hi
 have hgd:s.1.getD i JS=s.1[i]:=by rw [qG,jV hil]; rfl
 have hlim:MS s i lo hi'=if (nxR s.1[i] lo hi').lo > (nxR s.1[i] lo hi').hi then none else some (s.1.set i (nxR s.1[i] lo hi'),s.2 || !((nxR s.1[i] lo hi') == s.1[i])):=by unfold MS; rw [hgd]
 rw [hlim] at hbad ⊢
 obtain ⟨mb,L,ents,h1,rfl,hb,_,_⟩:=n.put hil (n.wf _ (jS hil))
 have hwf:=n.wf _ (jS hil)
 refine IY (H:=Hint.none) (enM G) Tryz.func117 rfl (by kernel_rfl) (by kernel_rfl) (jH (by kernel_rfl)) ?_
 show awp _ _ _ _ _ (EH _ [] _)
 have l29 : ∀ {H:Hp} {c:Bool},H[nb]? = some (.live 3 [[.mp mb,.own lb 0 s.1.length,.bool c]])→DI Tryz.prog H 29 (.ptr nb 0 1)=some (.own lb 0 s.1.length):=fun q=>by rw [DC (by kernel_rfl) q (row:=_) rfl]; rfl
 have i1:JV 2 h (.own lb 0 s.1.length) (.int .i64 (i:Nat))=some (.ptr lb (0+i) 0):=KD hb hil
 rw [jG] at i1
 simp -implicitDefEqProofs only [BB,A8,A7,AZ,BA,AC,AQ,AO,BD,AX,AL,DV,AA,AY,BI,EX,BN,CY,BG,CU,wxP,BV,AB,BZ,BF,CE,↓reduceIte,jA,jI,jG,jB,jC,enP,RQ,GK,WQ,KE,jJ,EK,EY,l29 h1,i1,ZF hb hil,OD,VJ]
 have g8:=C9 h (ABlk.live 2 [encR s.1[i]])
 have n8:=n.ext ((ext.rfl' h).app [ABlk.live 2 [encR s.1[i]]])
 have k8:=(Kp.rfl' nb lb h).app (ABlk.live 2 [encR s.1[i]])
 have nb8:=CX (x:=ABlk.live 2 [encR s.1[i]]) h1
 have lb8:=CX (x:=ABlk.live 2 [encR s.1[i]]) hb
 have ne8:h.length≠nb∧h.length≠lb:=⟨fun e=>by have:=CB h1; omega,fun e=>by have:=CB hb; omega⟩
 generalize h ++ [ABlk.live 2 [encR s.1[i]]]=H8 at g8 n8 k8 nb8 lb8 ⊢
 generalize h.length=b8 at g8 ne8 ⊢
 simp -implicitDefEqProofs only [EU,EN,BB,A8,A7,AZ,BA,AC,AQ,AO,BD,AX,AL,DV,AA,AY,BI,EX,FO,BN,CY,BG,XM,YP,wxP,BV,AB,BZ,SL,U3,BF,CE,↓reduceIte,jA,jG,jB,jC,enP,GZ,jJ,GU g8,H6 g8,AU0,OD,VJ]
 have g9:=C9 H8 (ABlk.live 2 [encR (nxR s.1[i] lo hi')])
 have n9:=n8.ext ((ext.rfl' H8).app [ABlk.live 2 [encR (nxR s.1[i] lo hi')]])
 have k9:=k8.app (ABlk.live 2 [encR (nxR s.1[i] lo hi')])
 have nb9:=CX (x:=ABlk.live 2 [encR (nxR s.1[i] lo hi')]) nb8
 have lb9:=CX (x:=ABlk.live 2 [encR (nxR s.1[i] lo hi')]) lb8
 have g8':=CX (x:=ABlk.live 2 [encR (nxR s.1[i] lo hi')]) g8
 have ne9:H8.length≠nb∧H8.length≠lb:=⟨fun e=>by have:=CB nb8; omega,fun e=>by have:=CB lb8; omega⟩
 generalize H8 ++ [ABlk.live 2 [encR (nxR s.1[i] lo hi')]]=H9 at g9 n9 k9 nb9 lb9 g8' ⊢
 generalize H8.length=b9 at g9 ne9 ⊢
 have hst:=AH8 (nxR s.1[i] lo hi') lb9 (i:=i) (row:=encR s.1[i]) (by rw [zB,jV hil]; rfl) rfl
 rw [← List.map_set] at hst
 simp -implicitDefEqProofs only [BJ,A7,AZ,BA,AC,AQ,AO,BD,AX,AL,AA,AY,BN,BR,wxP,AB,↓reduceIte,jA,jB,jC,enP,IW g9,IW g8',AQS]
 refine CS (fun hc => ?_) (fun hc => ?_)
 ·simp -implicitDefEqProofs only [BB]
  refine EZ (by kernel_rfl) ?_
  have i9:JV 2 H9 (.own lb 0 s.1.length) (.int .i64 (i:Nat))=some (.ptr lb (0+i) 0):=KD lb9 hil
  rw [jG] at i9
  simp -implicitDefEqProofs only [FD,DR,CZ,GL,D9,DU,ES,ED,GI,DK,FI,A8,A7,AZ,AC,AQ,AO,BD,AX,AL,AA,AY,AU,BM,BI,BN,CY,BG,CU,wxP,AB,BZ,BF,CE,↓reduceIte,jA,jK,jI,jG,jB,jC,enP,RQ,WQ,KE,ACO,jJ,EK,F7,EY,l29 nb9,IW g9,i9,hst]
  have nbA:(H9.set lb (.live 2 ((s.1.set i (nxR s.1[i] lo hi')).map encR)))[nb]? = some (.live 3 [[.mp mb,.own lb 0 s.1.length,.bool s.2]]):=by rw [zJ (Ne.symm n.ne)]; exact nb9
  have g9A:(H9.set lb (.live 2 ((s.1.set i (nxR s.1[i] lo hi')).map encR)))[b9]? = some (.live 2 [encR (nxR s.1[i] lo hi')]):=by rw [zJ (Ne.symm ne9.2)]; exact g9
  have hst4:FT Tryz.prog (H9.set lb (.live 2 ((s.1.set i (nxR s.1[i] lo hi')).map encR))) 4 (.ptr nb 0 2) (.bool true)=some ((H9.set lb (.live 2 ((s.1.set i (nxR s.1[i] lo hi')).map encR))).set nb (.live 3 [[.mp mb,.own lb 0 s.1.length,.bool true]])):=by
   rw [JA (cs := [.bool true]) rfl sz4 nbA rfl (by simp)]; rfl
  simp -implicitDefEqProofs only [BB,A8,A7,AZ,BA,AC,AQ,AO,BD,AX,AL,DV,AA,AY,BN,BG,wxP,AB,BZ,↓reduceIte,jA,jI,jB,jC,enP,GK,hst4]
  have g9B:((H9.set lb (.live 2 ((s.1.set i (nxR s.1[i] lo hi')).map encR))).set nb (.live 3 [[.mp mb,.own lb 0 s.1.length,.bool true]]))[b9]? = some (.live 2 [encR (nxR s.1[i] lo hi')]):=by rw [zJ (Ne.symm ne9.1)]; exact g9A
  have kB:=(k9.setL (ABlk.live 2 ((s.1.set i (nxR s.1[i] lo hi')).map encR))).setN (ABlk.live 3 [[.mp mb,.own lb 0 s.1.length,.bool true]])
  simp -implicitDefEqProofs only [BJ,A7,AZ,BA,AC,AQ,AO,BD,AX,AL,AA,AY,BN,BR,BG,wxP,AB,E8,↓reduceIte,jA,jG,jB,jC,enP,GZ,GU g9B,H6 g9B]
  refine CS (fun hd => ?_) (fun hd => ?_)
  ·have hd:(nxR s.1[i] lo hi').lo > (nxR s.1[i] lo hi').hi:=by simpa using hd
   simp -implicitDefEqProofs only [EU,A8,AZ,AC,AQ,AO,BD,AX,AL,AA,AY,FO,wxP,wxX,AB4,Y6,AK1,BV,AB,↓reduceIte,jB,jC,enP,jJ,ASQ,AGP (P:=Tryz.prog) (t:=97) ARO]
   exact ⟨rfl,hk.trans kB,hbad (by rw [if_pos hd])⟩
  ·have hd : ¬ (nxR s.1[i] lo hi').lo > (nxR s.1[i] lo hi').hi:=by simpa using hd
   simp -implicitDefEqProofs only [BQ,I7]
   refine ⟨_,by rw [if_neg hd],?_,kB⟩
   have hwn:wfR (nxR s.1[i] lo hi'):=by
    obtain ⟨q0,q1,q2⟩:=hwf
    refine ⟨?_,by omega,?_⟩
    ·show 0≤max s.1[i].lo lo; omega
    ·show min s.1[i].hi hi'≤65535; omega
   obtain ⟨mb',L',ents',e1,e2,e3,e4,e5⟩:=n9.put hil hwn
   rw [nb9] at e1
   cases e1
   have ht:(s.2 || !((nxR s.1[i] lo hi') == s.1[i]))=true:=by rw [hc]; simp
   rw [ht]
   exact e4
 ·have he:nxR s.1[i] lo hi'=s.1[i]:=by simpa using hc
  simp -implicitDefEqProofs only [BB,A8,BQ,BJ,A7,AZ,BA,AC,AQ,AO,BD,AX,AL,AA,AY,BN,BR,BG,wxP,AB,E8,↓reduceIte,jA,jI,jG,jB,jC,enP,GK,GZ,GU g9,H6 g9]
  refine CS (fun hd => ?_) (fun hd => ?_)
  ·have hd:(nxR s.1[i] lo hi').lo > (nxR s.1[i] lo hi').hi:=by simpa using hd
   simp -implicitDefEqProofs only [EU,A8,AZ,AC,AQ,AO,BD,AX,AL,AA,AY,FO,wxP,wxX,AB4,Y6,AK1,BV,AB,↓reduceIte,jB,jC,enP,jJ,ASQ,AGP (P:=Tryz.prog) (t:=97) ARO]
   exact ⟨rfl,hk.trans k9,hbad (by rw [if_pos hd])⟩
  ·have hd : ¬ (nxR s.1[i] lo hi').lo > (nxR s.1[i] lo hi').hi:=by simpa using hd
   simp -implicitDefEqProofs only [BQ,I7]
   refine ⟨_,by rw [if_neg hd],?_,k9⟩
   rw [he,set_self hil]
   simpa using n9
end
def vix (vars:List Vr) (e:Ex):Int:=if e.op=2 then plc vars e.name else -1
theorem RZ (vars:List Vr) (e:Ex):vix vars e < vars.length:=by
 have:=QJ (JB e.name) vars
 unfold vix plc
 split <;> omega
def atV (vars:List Vr) (a:Ex) (f:NS→Nat→Option NS) (s:NS):Option NS:=if 0≤vix vars a then f s (vix vars a).toNat else some s
def AGJ (vars:List Vr) (s:NS) (a b:Ex) (gap:Int):Option NS :=
 (atV vars a (fun s i=>MS s i 0 ((evS vars s.1 b).hi - gap)) s).bind fun s=>atV vars b (fun s i=>MS s i ((evS vars s.1 a).lo+gap) 65535) s
def ZX (f:NS→Nat→Rng→Option NS) (vars:List Vr) (s:NS) (a b:Ex):Option NS :=
 (atV vars a (fun s i=>f s i (evS vars s.1 b)) s).bind fun s=>atV vars b (fun s i=>f s i (evS vars s.1 a)) s
def feq (s:NS) (i:Nat) (r:Rng):Option NS:=MS s i r.lo r.hi
def fne (s:NS) (i:Nat) (r:Rng):Option NS :=
 if sgl r=true then (if (s.1.getD i JS).lo=r.lo then MS s i (r.lo+1) 65535 else some s).bind fun s=>if (s.1.getD i JS).hi=r.lo then MS s i 0 (r.lo - 1) else some s else some s
theorem AWC (r:Rng):XH Tryz.prog 34 (.agg (encR r)) 0=some (.int .i64 r.lo):=by kernel_rfl
theorem AWD (r:Rng):XH Tryz.prog 34 (.agg (encR r)) 1=some (.int .i64 r.hi):=by kernel_rfl
section
variable (G:Nat→AV)
structure EOk (e:Ex):Prop where
 w:wt e≤1048576
 n : ∀ x∈pre e,IZ x=0
theorem EOk.arg {e a:Ex} (h:EOk e) (ha:a∈e.args):EOk a:=by
 refine ⟨?_,fun x hx=>h.n x (by rw [pre_eq]; exact List.mem_cons_of_mem _ (QW ha x hx))⟩
 have h1:=OG e
 have h2:=TD ha
 have:=h.w
 omega
theorem ZR (vars:List Vr) (s:NS) (nb lb:Nat) (e:Ex) (he:EOk e) (h:Hp) (n:Nw h nb lb vars s):PCall (En G) 49 [.ptr nb 0 0,.agg (CV e)] h (.agg (encR (evS vars s.1 e))) :=
 ABK G vars s.1 n.len n.wf nb e (by have:=U0 e; have:=he.w; omega) he.n h n.ev
theorem wfE {vars:List Vr} {s:NS} {nb lb:Nat} {e:Ex} (he:EOk e) {h:Hp} (n:Nw h nb lb vars s):wfR (evS vars s.1 e):=AQL vars n.wf e he.n
set_option maxHeartbeats 2000000 in
theorem Y7 (nb lb:Nat) (base:Hp) (Bad:Prop) (vars:List Vr) (s:NS) (a b:Ex) (ha:EOk a) (hb:EOk b) (gap:Int) (hg:0≤gap∧gap≤1) (h:Hp) (hk:Kp nb lb base h) (n:Nw h nb lb vars s) (hbad:AGJ vars s a b gap=none→Bad) :
  ACalls ((En G).wx (X0 nb lb base Bad)) 121 [.ptr nb 0 0,.agg (CV a),.agg (CV b),.int .i64 gap] h (NP nb lb vars h (AGJ vars s a b gap)):=by
 refine IY (H:=Hint.none) (enM G) Tryz.func121 rfl (by kernel_rfl) (by kernel_rfl) (jH (by kernel_rfl)) ?_
 show awp _ _ _ _ _ (EH _ [] _)
 have g5:=CX (x:=ABlk.live 4 [CV b]) (C9 h (ABlk.live 4 [CV a]))
 have g6:=C9 (h ++ [ABlk.live 4 [CV a]]) (ABlk.live 4 [CV b])
 have n1:=n.ext (((ext.rfl' h).app [ABlk.live 4 [CV a]]).app [ABlk.live 4 [CV b]])
 have k1:=((Kp.rfl' nb lb h).app (ABlk.live 4 [CV a])).app (ABlk.live 4 [CV b])
 have o5:=n.lt (jL h.length)
 have o6:=n.lt (b:=(h ++ [ABlk.live 4 [CV a]]).length) (by simp)
 simp -implicitDefEqProofs only [BB,A8,A7,AZ,BA,AC,AQ,AO,BD,AX,AL,AA,AY,FN,wxP,BV,BF,CE,↓reduceIte,jA,jB,jC,enP,bxE]
 generalize h ++ [ABlk.live 4 [CV a]] ++ [ABlk.live 4 [CV b]]=H at g5 g6 n1 k1 ⊢
 generalize (h ++ [ABlk.live 4 [CV a]]).length=b6 at g5 g6 o6 ⊢
 generalize h.length=b5 at g5 g6 o5 ⊢
 have hkH:=hk.trans k1
 refine EZ (by kernel_rfl) ?_
 simp -implicitDefEqProofs only [FD,DR,CZ,D9,DU,ES,G9,ED,DK,EP,EF,BB,A8,A7,AZ,AC,AQ,AO,BD,AX,AL,AA,AY,AU,BO,BH,BI,BN,BR,BG,wxP,AB,BF,jF,jD,jE,↓reduceIte,jA,jK,jI,jB,jC,enP,KE,EK,F7,EY,IU g5]
 refine ⟨_,NM G vars s.1 nb a H n1.ev,?_⟩
 simp -implicitDefEqProofs only [BJ,A7,BA,AL,AA,AY,AB,FQ,↓reduceIte]
 have hra:=RZ vars a
 have hrb:=RZ vars b
 have hva:(if a.op=2 then plc vars a.name else -1)=vix vars a:=rfl
 have hvb:(if b.op=2 then plc vars b.name else -1)=vix vars b:=rfl
 rw [hva]
 unfold AGJ at hbad ⊢
 refine PH (fun F H' => ∃ s1,atV vars a (fun s i=>MS s i 0 ((evS vars s.1 b).hi - gap)) s=some s1∧Nw H' nb lb vars s1∧Kp nb lb H H'∧F 0 = .ptr nb 0 0∧F 3 = .int .i64 gap∧F 5 = .ptr b5 0 0∧F 6 = .ptr b6 0 0) (fun _ _=>False) (fun hc => ?_) (fun hc => ?_) ?_ (fun _ _ q=>q.elim)
 ·have hc:0≤vix vars a:=by simpa using hc
  have w:=wfE hb n1
  obtain ⟨w0,w1,w2⟩:=w
  obtain ⟨i,hi⟩:=zL hc
  have hat:atV vars a (fun s i=>MS s i 0 ((evS vars s.1 b).hi - gap)) s=MS s i 0 ((evS vars s.1 b).hi - gap):=by unfold atV; rw [if_pos hc,hi,zM]
  rw [hat] at hbad ⊢
  refine KX 10 _ (by kernel_rfl) rfl rfl ?_
  simp only [qI,zF]
  simp -implicitDefEqProofs only [FD,DR,CZ,DU,ES,ED,DK,AHY,EP,EF,AC,AA,AY,AU,BO,BH,BN,BG,AHZ,BX,BP,wxP,AB,BF,jF,jD,jE,↓reduceIte,jA,jK,jI,jB,enP,KE,EK,F7,EY,IU g6]
  refine ⟨_,ZR G vars s nb lb b hb H n1,?_⟩
  simp -implicitDefEqProofs only [FD,DR,CZ,D9,DU,ES,IJ,AC,AA,AY,BR,wxP,AB,JJ,BF,CE,↓reduceIte,jA,jK,jB,enP,AWD,hi,wrap_i64 (n:=(evS vars s.1 b).hi - gap) (by omega) (by omega)]
  refine ACalls.mono (J7 G nb lb base Bad vars s i (by omega) 0 ((evS vars s.1 b).hi - gap) (by omega) (by omega) (by omega) (by omega) H hkH n1 (fun q=>hbad (by rw [q]; rfl))) ?_
  rintro v H' ⟨s',e',n',k'⟩
  simp -implicitDefEqProofs only [MN,AA,BF,CE,↓reduceIte,jA,ZG]
  exact ⟨s',e',n',k',by trivial,by trivial,by trivial,by trivial⟩
 ·have hc : ¬ 0≤vix vars a:=by simpa using hc
  simp -implicitDefEqProofs only [BQ,MN,AA,BF,CE,↓reduceIte,jA]
  exact ⟨s,by unfold atV; rw [if_neg hc],n1,Kp.rfl' _ _ _,by trivial,by trivial,by trivial,by trivial⟩
 rintro F H2 ⟨s1,e1,n2,k2,f0,f3,f5,f6⟩
 rw [e1] at hbad ⊢
 have hbad:atV vars b (fun s i=>MS s i ((evS vars s.1 a).lo+gap) 65535) s1=none→Bad:=hbad
 have g5:=k2.1 _ _ g5 o5.1 o5.2
 have g6:=k2.1 _ _ g6 o6.1 o6.2
 have hkH:=hkH.trans k2
 have k12:=k1.trans k2
 simp -implicitDefEqProofs only [BB,A7]
 refine EZ (by kernel_rfl) ?_
 simp -implicitDefEqProofs only [FD,DR,CZ,D9,DU,ES,G9,ED,DK,EP,EF,BB,A8,A7,AZ,AC,AQ,AO,BD,AX,AL,AA,AY,AU,BO,BH,BI,BN,BR,BG,wxP,AB,jF,jD,jE,↓reduceIte,jA,jK,jI,jB,jC,enP,KE,EK,F7,EY,f0,f6,IU g6]
 refine ⟨_,NM G vars s1.1 nb b H2 n2.ev,?_⟩
 simp -implicitDefEqProofs only [BJ,A7,BA,AL,AA,AY,AB,FQ,↓reduceIte]
 rw [hvb]
 refine CS (fun hc => ?_) (fun hc => ?_)
 ·have hc:0≤vix vars b:=by simpa using hc
  have w:=wfE ha n2
  obtain ⟨w0,w1,w2⟩:=w
  obtain ⟨i,hi⟩:=zL hc
  have hat:atV vars b (fun s i=>MS s i ((evS vars s.1 a).lo+gap) 65535) s1=MS s1 i ((evS vars s1.1 a).lo+gap) 65535:=by unfold atV; rw [if_pos hc,hi,zM]
  rw [hat] at hbad
  refine KX 10 _ (by kernel_rfl) rfl rfl ?_
  simp only [qI,zF]
  simp -implicitDefEqProofs only [FD,DR,CZ,DU,ES,ED,DK,AHY,EP,EF,AC,AA,AY,AU,BO,BH,BN,BG,AHZ,BX,BP,wxP,AB,jF,jD,jE,↓reduceIte,jA,jK,jI,jB,enP,KE,EK,F7,EY,f0,f3,f5,IU g5]
  refine ⟨_,ZR G vars s1 nb lb a ha H2 n2,?_⟩
  simp -implicitDefEqProofs only [FD,DR,CZ,D9,DU,ES,IJ,AC,AA,AY,BR,wxP,AB,DZ,↓reduceIte,jA,jK,jB,enP,AWC,hi,f3,wrap_i64 (n:=(evS vars s1.1 a).lo+gap) (by omega) (by omega)]
  refine ACalls.mono (J7 G nb lb base Bad vars s1 i (by omega) ((evS vars s1.1 a).lo+gap) 65535 (by omega) (by omega) (by omega) (by omega) H2 hkH n2 hbad) ?_
  rintro v H' ⟨s',e',n',k'⟩
  simp -implicitDefEqProofs only [I7,ZG]
  exact ⟨s',by rw [← e',← hat]; rfl,n',k12.trans k'⟩
 ·have hc : ¬ 0≤vix vars b:=by simpa using hc
  simp -implicitDefEqProofs only [BQ,I7]
  exact ⟨s1,by rw [Option.bind_some]; unfold atV; rw [if_neg hc],n2,k12⟩
end
theorem ABS (E:Env) (fid:FuncId) (first args caps:List AV) (h:Hp) (K:AV→Hp→Prop):AIZ E (.fn (.func fid) first caps) args h K=ACalls E fid (first ++ (args ++ caps)) h K:=rfl
theorem AVM {G:Nat→AV} {X:Value→Hp→Prop} {f:FuncId} {args:List AV} {h:Hp} {r:AV} {K:AV→Hp→Prop} (hc:PCall (En G) f args h r) (hk:K r h):ACalls ((En G).wx X) f args h K:=PCall.use (E:=(En G).wx X) hc hk
theorem Nw.own {h:Hp} {nb lb:Nat} {vars:List Vr} {s:NS} (n:Nw h nb lb vars s) {i:Nat} (hi:i < s.1.length) : ∃ mb,h[nb]? = some (.live 3 [[.mp mb,.own lb 0 s.1.length,.bool s.2]])∧h[lb]? = some (.live 2 (s.1.map encR)):=by
 obtain ⟨mb,L,ents,h1,rfl,hb,_⟩:=n.put hi (n.wf _ (jS hi))
 exact ⟨mb,h1,hb⟩
section
variable (G:Nat→AV)
theorem AMP (nb lb:Nat) (base:Hp) (Bad:Prop) (vars:List Vr) (s:NS) (i:Nat) (hi:i < vars.length) (r:Rng) (hr:wfR r) (cb:Nat) (h:Hp) (hcb:h[cb]? = some (.live 1 [[.ptr nb 0 0]])) (hk:Kp nb lb base h) (n:Nw h nb lb vars s) (hbad:feq s i r=none→Bad) :
  ACalls ((En G).wx (X0 nb lb base Bad)) 119 ([.int .i64 (i:Nat),.agg (encR r)] ++ [.ptr cb 0 0]) h (NP nb lb vars h (feq s i r)):=by
 obtain ⟨r0,r1,r2⟩:=hr
 refine IY (H:=Hint.none) (enM G) Tryz.func119 rfl (by kernel_rfl) (by kernel_rfl) (jH (by kernel_rfl)) ?_
 show awp _ _ _ _ _ (EH _ [] _)
 have g4:=C9 h (ABlk.live 2 [encR r])
 have n1:=n.ext ((ext.rfl' h).app [ABlk.live 2 [encR r]])
 have k1:=(Kp.rfl' nb lb h).app (ABlk.live 2 [encR r])
 have hcb':=CX (x:=ABlk.live 2 [encR r]) hcb
 simp -implicitDefEqProofs only [BB,A8,A7,AZ,BA,AC,AQ,AO,BD,AX,AL,AA,AY,FN,BN,wxP,BV,BF,CE,zA,zN,↓reduceIte,jA,jB,jC,enP,bxR]
 generalize h ++ [ABlk.live 2 [encR r]]=H at g4 n1 k1 hcb' ⊢
 generalize h.length=b4 at g4 ⊢
 simp -implicitDefEqProofs only [AZ,AC,AQ,AO,BD,AX,AL,AA,AY,BO,BI,BN,BG,BX,BP,wxP,AB,BF,jF,jD,jE,↓reduceIte,jA,jI,jG,jB,jC,enP,GK,GZ,IB (t:=66) (by kernel_rfl) hcb',GU g4,H6 g4]
 refine ACalls.mono (J7 G nb lb base Bad vars s i hi r.lo r.hi (by omega) (by omega) (by omega) (by omega) H (hk.trans k1) n1 hbad) ?_
 rintro v H' q
 simp -implicitDefEqProofs only [I7,BA,AL]
 exact q.post k1
set_option maxHeartbeats 1000000 in
theorem AMO (nb lb:Nat) (base:Hp) (Bad:Prop) (vars:List Vr) (s:NS) (i:Nat) (hi:i < vars.length) (r:Rng) (hr:wfR r) (h:Hp) (hk:Kp nb lb base h) (n:Nw h nb lb vars s) (hbad:fne s i r=none→Bad) :
  ACalls ((En G).wx (X0 nb lb base Bad)) 120 ([.ptr nb 0 0] ++ ([.int .i64 (i:Nat),.agg (encR r)] ++ [])) h (NP nb lb vars h (fne s i r)):=by
 obtain ⟨r0,r1,r2⟩:=hr
 refine IY (H:=Hint.none) (enM G) Tryz.func120 rfl (by kernel_rfl) (by kernel_rfl) (jH (by kernel_rfl)) ?_
 show awp _ _ _ _ _ (EH _ [] _)
 have g5:=C9 h (ABlk.live 2 [encR r])
 have n1:=n.ext ((ext.rfl' h).app [ABlk.live 2 [encR r]])
 have k1:=(Kp.rfl' nb lb h).app (ABlk.live 2 [encR r])
 have o5:=n.lt (jL h.length)
 simp -implicitDefEqProofs only [BB,A8,A7,AZ,BA,AC,AQ,AO,BD,AX,AL,AA,AY,FN,BN,wxP,BV,BF,CE,jE,zA,zN,↓reduceIte,jB,jC,enP,bxR]
 generalize h ++ [ABlk.live 2 [encR r]]=H at g5 n1 k1 ⊢
 generalize h.length=b5 at g5 o5 ⊢
 have hkH:=hk.trans k1
 simp -implicitDefEqProofs only [AZ,AC,AQ,AO,BD,AX,AL,AA,AY,BO,BX,BP,AB,jF,jD,jE,↓reduceIte,jB,jC,IW g5]
 refine AVM (KL G r H) ?_
 simp -implicitDefEqProofs only [BJ,A7,AZ,BA,AC,AQ,AO,BD,AX,AL,AA,AY,I5,AB,FP,↓reduceIte,jB,jC]
 unfold fne at hbad ⊢
 refine CS (fun hc => ?_) (fun hc => ?_)
 ·have hc:sgl r=false:=by simpa using hc
  simp -implicitDefEqProofs only [BK,CQ,AMY]
  rw [hc]
  exact ⟨s,rfl,n1,k1⟩
 have hc:sgl r=true:=by simpa using hc
 rw [if_pos hc] at hbad ⊢
 have hil:i < s.1.length:=by rw [n.len]; exact hi
 have gd : ∀ t:NS,∀ hit:i < t.1.length,t.1.getD i JS=t.1[i]:=fun t hit=>by rw [qG,jV hit]; rfl
 obtain ⟨mb,h1,hb⟩:=n1.own hil
 have l29 : ∀ {H:Hp} {c:Bool} {m mb:Nat},H[nb]? = some (.live 3 [[.mp mb,.own lb 0 m,.bool c]])→DI Tryz.prog H 29 (.ptr nb 0 1)=some (.own lb 0 m):=fun q=>by rw [DC (by kernel_rfl) q (row:=_) rfl]; rfl
 have i1:JV 2 H (.own lb 0 s.1.length) (.int .i64 (i:Nat))=some (.ptr lb (0+i) 0):=KD hb hil
 rw [jG] at i1
 have dlo:DI Tryz.prog H 3 (.ptr lb i 0)=some (.int .i64 s.1[i].lo):=by
  rw [DC ag3 hb (row:=encR s.1[i]) (by rw [zB,jV hil]; rfl)]; rfl
 simp -implicitDefEqProofs only [BB,BQ,A7]
 refine EZ (by kernel_rfl) ?_
 simp -implicitDefEqProofs only [FD,DR,CZ,D9,DU,ES,ED,IJ,DK,FI,BJ,A7,AC,AA,AY,BN,BR,BG,CU,wxP,AB,DW,BF,CE,↓reduceIte,jA,jK,jI,jG,jB,enP,RQ,GK,WQ,KE,EK,F7,EY,l29 h1,i1,dlo,GU g5]
 rw [gd s hil] at hbad ⊢
 refine PH (fun F H' => ∃ s1,(if s.1[i].lo=r.lo then MS s i (r.lo+1) 65535 else some s)=some s1∧Nw H' nb lb vars s1∧Kp nb lb H H'∧F 0 = .ptr nb 0 0∧F 1 = .int .i64 (i:Nat)∧F 5 = .ptr b5 0 0) (fun _ _=>False) (fun hc => ?_) (fun hc => ?_) ?_ (fun _ _ q=>q.elim)
 ·have hc:s.1[i].lo=r.lo:=by simpa using hc
  rw [if_pos hc] at hbad ⊢
  simp -implicitDefEqProofs only [A8,AZ,AC,AQ,AO,BD,AX,AL,AA,AY,AU,BO,BH,BI,BN,BR,BG,BX,BP,wxP,AB,DZ,BF,CE,jF,jD,jE,↓reduceIte,jA,jI,jB,jC,enP,GK,GU g5,wrap_i64 (n:=r.lo+1) (by omega) (by omega)]
  refine ACalls.mono (J7 G nb lb base Bad vars s i hi (r.lo+1) 65535 (by omega) (by omega) (by omega) (by omega) H hkH n1 (fun q=>hbad (by rw [q]; rfl))) ?_
  rintro v H' ⟨s',e',n',k'⟩
  simp -implicitDefEqProofs only [MN,BA,AL,AA,BF,CE,↓reduceIte,jA]
  exact ⟨s',e',n',k',by trivial,by trivial,by trivial⟩
 ·have hc : ¬ s.1[i].lo=r.lo:=by simpa using hc
  rw [if_neg hc] at hbad ⊢
  simp -implicitDefEqProofs only [BQ,MN,AA,BF,CE,↓reduceIte,jA]
  exact ⟨s,rfl,n1,Kp.rfl' _ _ _,by trivial,by trivial,by trivial⟩
 clear i1 dlo
 rintro F H2 ⟨s1,e1,n2,k2,f0,f1,f5⟩
 rw [e1] at hbad ⊢
 have hbad:(if (s1.1.getD i JS).hi=r.lo then MS s1 i 0 (r.lo - 1) else some s1)=none→Bad:=hbad
 have g5:=k2.1 _ _ g5 o5.1 o5.2
 have hkH:=hkH.trans k2
 have k12:=k1.trans k2
 have hil:i < s1.1.length:=by rw [n2.len]; exact hi
 obtain ⟨mb,h1,hb⟩:=n2.own hil
 have i1:JV 2 H2 (.own lb 0 s1.1.length) (.int .i64 (i:Nat))=some (.ptr lb (0+i) 0):=KD hb hil
 rw [jG] at i1
 have dhi:DI Tryz.prog H2 3 (.ptr lb i 1)=some (.int .i64 s1.1[i].hi):=by
  rw [DC ag3 hb (row:=encR s1.1[i]) (by rw [zB,jV hil]; rfl)]; rfl
 rw [gd s1 hil] at hbad
 simp -implicitDefEqProofs only [BB,A7]
 refine EZ (by kernel_rfl) ?_
 simp -implicitDefEqProofs only [FD,DR,CZ,D9,DU,ES,ED,IJ,DK,FI,BJ,A7,AC,AA,AY,BN,BR,BG,CU,wxP,AB,DW,↓reduceIte,jA,jK,jI,jG,jB,enP,RQ,GK,GZ,WQ,KE,EK,F7,EY,f0,f1,f5,l29 h1,i1,dhi,GU g5]
 refine CS (fun hc => ?_) (fun hc => ?_)
 ·have hc:s1.1[i].hi=r.lo:=by simpa using hc
  rw [if_pos hc] at hbad
  simp -implicitDefEqProofs only [A8,AZ,AC,AQ,AO,BD,AX,AL,AA,AY,AU,BO,BH,BI,BN,BR,BG,BX,BP,wxP,AB,JJ,jF,jD,jE,↓reduceIte,jA,jI,jB,jC,enP,GK,f0,f1,f5,GU g5,wrap_i64 (n:=r.lo - 1) (by omega) (by omega)]
  refine ACalls.mono (J7 G nb lb base Bad vars s1 i hi 0 (r.lo - 1) (by omega) (by omega) (by omega) (by omega) H2 hkH n2 hbad) ?_
  rintro v H' ⟨s',e',n',k'⟩
  simp -implicitDefEqProofs only [I7,BA,AL]
  exact ⟨s',by rw [Option.bind_some,gd s1 hil,if_pos hc]; exact e',n',k12.trans k'⟩
 ·have hc : ¬ s1.1[i].hi=r.lo:=by simpa using hc
  simp -implicitDefEqProofs only [BQ,I7]
  exact ⟨s1,by rw [Option.bind_some,gd s1 hil,if_neg hc],n2,k12⟩
set_option maxHeartbeats 2000000 in
theorem XV (nb lb:Nat) (base:Hp) (Bad:Prop) (vars:List Vr) (s:NS) (a b:Ex) (ha:EOk a) (hb:EOk b) (fid:FuncId) (first caps:List AV) (f:NS→Nat→Rng→Option NS) (h:Hp) (hk:Kp nb lb base h) (n:Nw h nb lb vars s)
  (hf : ∀ (s:NS) (i:Nat) (r:Rng) (H:Hp),i < vars.length→wfR r→Kp nb lb h H→Nw H nb lb vars s→(f s i r=none→Bad)→ACalls ((En G).wx (X0 nb lb base Bad)) fid (first ++ ([.int .i64 (i:Nat),.agg (encR r)] ++ caps)) H (NP nb lb vars H (f s i r)))
  (hbad:ZX f vars s a b=none→Bad) :
  ACalls ((En G).wx (X0 nb lb base Bad)) 118 [.ptr nb 0 0,.agg (CV a),.agg (CV b),.fn (.func fid) first caps] h (NP nb lb vars h (ZX f vars s a b)):=by
 refine IY (H:=Hint.none) (enM G) Tryz.func118 rfl (by kernel_rfl) (by kernel_rfl) (jH (by kernel_rfl)) ?_
 show awp _ _ _ _ _ (EH _ [] _)
 have g5:=CX (x:=ABlk.live 4 [CV b]) (C9 h (ABlk.live 4 [CV a]))
 have g6:=C9 (h ++ [ABlk.live 4 [CV a]]) (ABlk.live 4 [CV b])
 have n1:=n.ext (((ext.rfl' h).app [ABlk.live 4 [CV a]]).app [ABlk.live 4 [CV b]])
 have k1:=((Kp.rfl' nb lb h).app (ABlk.live 4 [CV a])).app (ABlk.live 4 [CV b])
 have o5:=n.lt (jL h.length)
 have o6:=n.lt (b:=(h ++ [ABlk.live 4 [CV a]]).length) (by simp)
 simp -implicitDefEqProofs only [BB,A8,A7,AZ,BA,AC,AQ,AO,BD,AX,AL,AA,AY,FN,wxP,BV,BF,CE,↓reduceIte,jA,jB,jC,enP,bxE]
 generalize h ++ [ABlk.live 4 [CV a]] ++ [ABlk.live 4 [CV b]]=H at g5 g6 n1 k1 ⊢
 generalize (h ++ [ABlk.live 4 [CV a]]).length=b6 at g5 g6 o6 ⊢
 generalize h.length=b5 at g5 g6 o5 ⊢
 have hkH:=hk.trans k1
 refine EZ (by kernel_rfl) ?_
 simp -implicitDefEqProofs only [FD,DR,CZ,D9,DU,ES,G9,ED,DK,EP,EF,BB,A8,A7,AZ,AC,AQ,AO,BD,AX,AL,AA,AY,AU,BO,BH,BI,BN,BR,BG,wxP,AB,BF,jF,jD,jE,↓reduceIte,jA,jK,jI,jB,jC,enP,KE,EK,F7,EY,IU g5]
 refine ⟨_,NM G vars s.1 nb a H n1.ev,?_⟩
 simp -implicitDefEqProofs only [BJ,A7,BA,AL,AA,AY,AB,FQ,↓reduceIte]
 have hra:=RZ vars a
 have hrb:=RZ vars b
 have hva:(if a.op=2 then plc vars a.name else -1)=vix vars a:=rfl
 have hvb:(if b.op=2 then plc vars b.name else -1)=vix vars b:=rfl
 rw [hva]
 unfold ZX at hbad ⊢
 refine PH (fun F H' => ∃ s1,atV vars a (fun s i=>f s i (evS vars s.1 b)) s=some s1∧Nw H' nb lb vars s1∧Kp nb lb H H'∧F 0 = .ptr nb 0 0∧F 3 = .fn (.func fid) first caps∧F 5 = .ptr b5 0 0∧F 6 = .ptr b6 0 0) (fun _ _=>False) (fun hc => ?_) (fun hc => ?_) ?_ (fun _ _ q=>q.elim)
 ·have hc:0≤vix vars a:=by simpa using hc
  obtain ⟨i,hi⟩:=zL hc
  have hat:atV vars a (fun s i=>f s i (evS vars s.1 b)) s=f s i (evS vars s.1 b):=by unfold atV; rw [if_pos hc,hi,zM]
  rw [hat] at hbad ⊢
  refine KX 7 _ (by kernel_rfl) rfl rfl ?_
  simp only [qI,zF]
  simp -implicitDefEqProofs only [FD,DR,CZ,D9,DU,ES,ED,DK,EP,EF,AC,AA,AY,BO,BN,BG,BX,wxP,AB,BF,CE,jF,jD,jE,↓reduceIte,jA,jK,jI,jB,enP,KE,EK,F7,EY,IU g6]
  refine ⟨_,ZR G vars s nb lb b hb H n1,?_⟩
  simp -implicitDefEqProofs only [zA,zN,hi,ABS]
  refine ACalls.mono (hf s i _ H (by omega) (wfE hb n1) k1 n1 (fun q=>hbad (by rw [q]; rfl))) ?_
  rintro v H' ⟨s',e',n',k'⟩
  simp -implicitDefEqProofs only [MN,AA,BF,CE,↓reduceIte,jA,ZG]
  exact ⟨s',e',n',k',by trivial,by trivial,by trivial,by trivial⟩
 ·have hc : ¬ 0≤vix vars a:=by simpa using hc
  simp -implicitDefEqProofs only [BQ,MN,AA,BF,CE,↓reduceIte,jA]
  exact ⟨s,by unfold atV; rw [if_neg hc],n1,Kp.rfl' _ _ _,by trivial,by trivial,by trivial,by trivial⟩
 rintro F H2 ⟨s1,e1,n2,k2,f0,f3,f5,f6⟩
 rw [e1] at hbad ⊢
 have hbad:atV vars b (fun s i=>f s i (evS vars s.1 a)) s1=none→Bad:=hbad
 have g5:=k2.1 _ _ g5 o5.1 o5.2
 have g6:=k2.1 _ _ g6 o6.1 o6.2
 have hkH:=hkH.trans k2
 have k12:=k1.trans k2
 simp -implicitDefEqProofs only [BB,A7]
 refine EZ (by kernel_rfl) ?_
 simp -implicitDefEqProofs only [FD,DR,CZ,D9,DU,ES,G9,ED,DK,EP,EF,BB,A8,A7,AZ,AC,AQ,AO,BD,AX,AL,AA,AY,AU,BO,BH,BI,BN,BR,BG,wxP,AB,jF,jD,jE,↓reduceIte,jA,jK,jI,jB,jC,enP,KE,EK,F7,EY,f0,f6,IU g6]
 refine ⟨_,NM G vars s1.1 nb b H2 n2.ev,?_⟩
 simp -implicitDefEqProofs only [BJ,A7,BA,AL,AA,AY,AB,FQ,↓reduceIte]
 rw [hvb]
 refine CS (fun hc => ?_) (fun hc => ?_)
 ·have hc:0≤vix vars b:=by simpa using hc
  obtain ⟨i,hi⟩:=zL hc
  have hat:atV vars b (fun s i=>f s i (evS vars s.1 a)) s1=f s1 i (evS vars s1.1 a):=by unfold atV; rw [if_pos hc,hi,zM]
  rw [hat] at hbad
  refine KX 7 _ (by kernel_rfl) rfl rfl ?_
  simp only [qI,zF]
  simp -implicitDefEqProofs only [FD,DR,CZ,D9,DU,ES,ED,DK,EP,EF,AC,AA,AY,BO,BN,BG,BX,wxP,AB,jF,jD,jE,↓reduceIte,jA,jK,jI,jB,enP,KE,EK,F7,EY,f0,f3,f5,IU g5]
  refine ⟨_,ZR G vars s1 nb lb a ha H2 n2,?_⟩
  simp -implicitDefEqProofs only [zA,zN,hi,f3,ABS]
  refine ACalls.mono (hf s1 i _ H2 (by omega) (wfE ha n2) k12 n2 hbad) ?_
  rintro v H' ⟨s',e',n',k'⟩
  simp -implicitDefEqProofs only [I7,ZG]
  exact ⟨s',by rw [← e',← hat]; rfl,n',k12.trans k'⟩
 ·have hc : ¬ 0≤vix vars b:=by simpa using hc
  simp -implicitDefEqProofs only [BQ,I7]
  exact ⟨s1,by rw [Option.bind_some]; unfold atV; rw [if_neg hc],n2,k12⟩
end
def ACD:List Rng→Int × Int→Int × Int
 | a :: b :: r,p=>ACD r (if a.lo≤b.hi then (min p.1 a.lo,max p.2 b.hi) else p)
 | _,p=>p
theorem AJV (l:List Rng) (k:Nat) (p:Int × Int) (hk:k+1 < l.length):ACD (l.drop k) p=ACD (l.drop (k+2)) (if l[k].lo≤l[k+1].hi then (min p.1 l[k].lo,max p.2 l[k+1].hi) else p):=by
 rw [qH (by omega:k < l.length),qH hk]; rfl
theorem AL1 (l:List Rng) (k:Nat) (p:Int × Int) (hk:l.length≤k+1):ACD (l.drop k) p=p:=by
 rcases Nat.lt_or_ge k l.length with h | h
 ·rw [qH h,zZ hk]; rfl
 ·rw [zZ h]; rfl
def AO0 (vars:List Vr) (s:NS) (i:Nat) (args:List Ex):Option NS:=MS s i (ACD (QM vars s.1 args) (65536,-1)).1 (ACD (QM vars s.1 args) (65536,-1)).2
def ARA (p:Int × Int) (w:Wg):Int × Int:=if w.w > 0 then (min p.1 w.lo,max p.2 w.hi) else p
def P7 (ws:List Wg):Int × Int:=ws.foldl ARA (65536,-1)
def UQ (s:NS) (d:Ds):Option NS:=MS s d.var.toNat (P7 d.ws).1 (P7 d.ws).2
theorem AP2 {w:Wg} (h:UD w=false):0≤w.lo∧w.lo≤w.hi∧w.hi≤65535:=by
 unfold UD at h
 simp only [Bool.or_eq_false_iff,decide_eq_false_iff_not] at h
 obtain ⟨⟨⟨⟨h1,h2⟩,h3⟩,_⟩,_⟩:=h
 exact ⟨by omega,by omega,by omega⟩
theorem pcX {G:Nat→AV} {X:Value→Hp→Prop} {f:FuncId} {args:List AV} {h:Hp} {r:AV} (hc:PCall (En G) f args h r):PCall ((En G).wx X) f args h r:=hc
section
variable (G:Nat→AV)
set_option maxHeartbeats 2000000 in
theorem AEI (nb lb:Nat) (base:Hp) (Bad:Prop) (vars:List Vr) (s:NS) (i:Nat) (hi:i < vars.length) (args:List Ex) (m:SM) (ha : ∀ a∈args,EOk a) (hal:args.length≤1048576) (h:Hp) (hk:Kp nb lb base h) (n:Nw h nb lb vars s) (hbad:AO0 vars s i args=none→Bad) :
  ACalls ((En G).wx (X0 nb lb base Bad)) 122 [.ptr nb 0 0,.int .i64 (i:Nat),.sl m 4 (args.map CV)] h (NP nb lb vars h (AO0 vars s i args)):=by
 refine IY (H:=hint [25,34] []) (enM G) Tryz.func122 rfl (by kernel_rfl) (by kernel_rfl) (jH (by kernel_rfl)) ?_
 show awp _ _ _ _ _ (EH _ [] _)
 simp -implicitDefEqProofs only [EI,jP,jQ,jR,jO,BB,CJ,A8,A7,AZ,BA,AO,BD,AX,AL,AU,BH,BC,wxP,jB,jC,enP,FB]
 refine JC 0 (fun F H => ∃ lo hi',F 0 = .ptr nb 0 0∧F 1 = .int .i64 (i:Nat)∧F 6 = .int .i64 lo∧F 7 = .int .i64 hi'∧ext h H∧(0≤lo∧lo≤65536∧-1≤hi'∧hi'≤65535)∧ACD (QM vars s.1 args) (65536,-1)=(lo,hi')) (fun _ _=>False) ?_ ?_ (fun _ _ q=>q.elim)
 ·refine D8 (fun n F H => ∃ k lo hi',n+k=args.length+1∧F 0 = .ptr nb 0 0∧F 1 = .int .i64 (i:Nat)∧F 2 = .sl m 4 (args.map CV)∧F 6 = .int .i64 lo∧F 7 = .int .i64 hi'∧F 8 = .int .i64 (k:Nat)∧ext h H∧(0≤lo∧lo≤65536∧-1≤hi'∧hi'≤65535)∧ACD (QM vars s.1 args) (65536,-1)=ACD ((QM vars s.1 args).drop k) (lo,hi')) (args.length+1)
   ⟨0,65536,-1,by simp,by simp -implicitDefEqProofs only [AA,BF,↓reduceIte,jA],by simp -implicitDefEqProofs only [AA,BF,CE,↓reduceIte,jA],by simp -implicitDefEqProofs only [AA,BF,CE,↓reduceIte,jA],by simp -implicitDefEqProofs only [AA,↓reduceIte,jA],by simp -implicitDefEqProofs only [AA,↓reduceIte,jA],by simp -implicitDefEqProofs only [AA,↓reduceIte]; rfl,ext.rfl' _,by decide,rfl⟩ ?_
  rintro q F H ⟨k,lo,hi',hq,f0,f1,f2,f6,f7,f8,hx,hbd,he⟩
  simp -implicitDefEqProofs only [EI,jP,jQ,jR,jO,BB,A8,BJ,A7,AZ,BA,AO,BD,AX,AL,AA,AY,AU,BH,BI,BR,FH,wxP,AB,DZ,DF,↓reduceIte,jA,jB,jC,enP,TZ,FB,f2,f8,wrap_succ (show k < 9223372036854775807 by omega),jM]
  refine CS (fun hc => ?_) (fun hc => ?_)
  ·have hc:k+1 < args.length:=by simp at hc; omega
   have hlen:=S9 vars s.1 args
   have hst:=AJV (QM vars s.1 args) k (lo,hi') (by omega)
   have nH:=n.ext hx
   have a1:=ha _ (jS (show k < args.length by omega))
   have a2:=ha _ (jS hc)
   have ev1:(QM vars s.1 args)[k]'(by omega)=evS vars s.1 args[k]:=by simp [NY]
   have ev2:(QM vars s.1 args)[k+1]'(by omega)=evS vars s.1 args[k+1]:=by simp [NY]
   rw [ev1,ev2] at hst
   obtain ⟨p0,p1,p2⟩:=wfE a1 nH
   obtain ⟨q0,q1,q2⟩:=wfE a2 nH
   simp -implicitDefEqProofs only [BB,CJ,BQ,A7]
   refine TS (fun F H'=>F 0 = .ptr nb 0 0∧F 1 = .int .i64 (i:Nat)∧F 2 = .sl m 4 (args.map CV)∧F 6 = .int .i64 lo∧F 7 = .int .i64 hi'∧F 8 = .int .i64 (k:Nat)∧ext H H'∧∃ b9 b10,F 9 = .ptr b9 0 0∧F 10 = .ptr b10 0 0∧H'[b9]? = some (.live 2 [encR (evS vars s.1 args[k])])∧H'[b10]? = some (.live 2 [encR (evS vars s.1 args[k+1])])) (fun _ _=>False) ?_ ?_ (fun _ _ q=>q.elim)
   ·refine AFO [] [0,1,2,3,4,5,6,7,8,9,10,11,12,13,14,15,16] 17 18 [19,20] (by kernel_rfl) trivial ?_
    simp only [J4,zK,zG]
    have g : ∀ r s:Rng,(H ++ [ABlk.live 2 [encR r]] ++ [ABlk.live 2 [encR s]])[H.length]? = some (.live 2 [encR r])∧(H ++ [ABlk.live 2 [encR r]] ++ [ABlk.live 2 [encR s]])[(H ++ [ABlk.live 2 [zR]]).length]? = some (.live 2 [encR s]):=fun r s=>by
     refine ⟨CX (C9 _ _),?_⟩
     have:=C9 (H ++ [ABlk.live 2 [encR r]]) (ABlk.live 2 [encR s])
     rw [← this]; simp
    have sB : ∀ r s:Rng,FT Tryz.prog (H ++ [ABlk.live 2 [encR r]] ++ [ABlk.live 2 [zR]]) 34 (.ptr (H ++ [ABlk.live 2 [zR]]).length 0 0) (.agg (encR s))=some (H ++ [ABlk.live 2 [encR r]] ++ [ABlk.live 2 [encR s]]):=fun r s=>by
     have:=VJ (H ++ [ABlk.live 2 [encR r]]) s
     rw [← this]; simp
    have hxx : ∀ r s:Rng,ext H (H ++ [ABlk.live 2 [encR r]] ++ [ABlk.live 2 [encR s]]):=fun r s=>((ext.rfl' H).app _).app _
    simp -implicitDefEqProofs only [FD,EI,jP,jQ,jR,jO,Bool.or_true,DR,CZ,D9,DU,ES,VG,ED,IJ,DK,FI,EP,AKK,AA,AY,AU,BO,BH,EX,BN,BR,BG,CU,wxP,AB,DZ,jF,jD,jE,↓reduceIte,jA,jK,jI,jB,enP,QC,KE,EK,F7,EY,f0,f1,f2,f6,f7,f8,wrap_succ (show k < 9223372036854775807 by omega),EJ (show k < args.length by omega),EJ hc,EM MC JU ER (show k < args.length by omega),EM MC JU ER hc]
    refine ⟨_,fun x=>pcX (ZR G vars s nb lb args[k] a1 _ (nH.ext ((ext.rfl' H).app x))),?_⟩
    try simp -implicitDefEqProofs only [f0,f1,f2,f6,f7,f8,wrap_succ (show k < 9223372036854775807 by omega),EJ (show k < args.length by omega),EJ hc,EM MC JU ER (show k < args.length by omega),EM MC JU ER hc]
    refine ⟨_,fun x=>pcX (ZR G vars s nb lb args[k+1] a2 _ (nH.ext ((ext.rfl' H).app x))),?_⟩
    try simp -implicitDefEqProofs only []
    have A:=fun r s=>(g r s).1
    have B:=fun r s=>(g r s).2
    refine ⟨?_,?_⟩
    ·simp -implicitDefEqProofs only [FD,EI,jP,jQ,jR,jO,DR,CZ,GL,D9,DU,VG,GI,MN,AA,AY,EX,CY,wxP,BV,BZ,↓reduceIte,jA,jK,jG,jB,enP,jJ,OD,ALH,VJ,sB]
     exact ⟨f0,f1,f2,f6,f7,f8,hxx _ _,_,_,by trivial,by trivial,A _ _,B _ _⟩
    ·simp -implicitDefEqProofs only [FD,EI,jP,jQ,jR,jO,DR,CZ,GL,D9,DU,VG,GI,MN,AA,AY,EX,CY,wxP,BV,BZ,↓reduceIte,jA,jK,jG,jB,enP,jJ,OD,ALH,VJ,sB]
     exact ⟨f0,f1,f2,f6,f7,f8,hxx _ _,_,_,by trivial,by trivial,B _ _,A _ _⟩
   clear f0 f1 f2 f6 f7 f8
   rintro F H1 ⟨f0,f1,f2,f6,f7,f8,hx1,b9,b10,f9,f10,g9,g10⟩
   have hxx:=hx.trans hx1
   have w2:IntKind.i64.wrap ((k:Int)+2)=((k+2:Nat):Int):=by rw [wrap_i64 (by omega) (by omega)]; omega
   simp -implicitDefEqProofs only [EI,jP,jQ,jR,jO,BB,A8,BJ,A7,AZ,BA,AO,BD,AX,AL,AA,AY,BN,BR,BG,wxP,AB,KH,↓reduceIte,jA,jI,jG,jB,jC,enP,GK,GZ,FB,f9,f10,GU g9,H6 g10]
   refine CS (fun hd => ?_) (fun hd => ?_)
   ·have hd:(evS vars s.1 args[k]).lo≤(evS vars s.1 args[k+1]).hi:=by simpa using hd
    rw [if_pos hd] at hst
    refine EZ (by kernel_rfl) ?_
    simp -implicitDefEqProofs only [FD,EI,jP,jQ,jR,jO,DR,CZ,D9,DU,ES,G9,ED,DK,OM,A8,A7,EO,FK,AZ,BA,AO,BD,AX,AL,AA,AY,AU,BH,BI,BC,BN,BR,BG,XM,YP,wxP,AB,DZ,SL,U3,↓reduceIte,jA,jK,jI,jG,jB,jC,enP,GK,GZ,FB,f6,f7,f8,f9,f10,GU g9,H6 g10,w2]
    exact ⟨q - 2,by omega,k+2,_,_,by omega,by trivial,by trivial,by trivial,by trivial,by trivial,by trivial,hxx,⟨by omega,by omega,by omega,by omega⟩,by rw [he,hst]⟩
   ·have hd : ¬ (evS vars s.1 args[k]).lo≤(evS vars s.1 args[k+1]).hi:=by simpa using hd
    rw [if_neg hd] at hst
    simp -implicitDefEqProofs only [EI,jP,jQ,jR,jO,A8,BQ,A7,EO,FK,AZ,BA,AO,BD,AX,AL,AA,AY,AU,BH,BI,BC,BR,wxP,AB,DZ,↓reduceIte,jA,jB,jC,enP,FB,f8,w2]
    exact ⟨q - 2,by omega,k+2,_,_,by omega,by trivial,by trivial,by trivial,by trivial,by trivial,by trivial,hxx,hbd,by rw [he,hst]⟩
  ·have hc : ¬ k+1 < args.length:=by simp at hc; omega
   rw [AL1 _ _ _ (by rw [S9]; omega)] at he
   simp -implicitDefEqProofs only [D6,E5,N8,GG,AA,↓reduceIte,jA]
   exact ⟨lo,hi',f0,f1,f6,f7,hx,hbd,he⟩
 ·rintro F H ⟨lo,hi',f0,f1,f6,f7,hx,⟨b1,b2,b3,b4⟩,he⟩
  have nH:=n.ext hx
  have kH:=Kp.ofExt (nb:=nb) (lb:=lb) hx
  unfold AO0 at hbad ⊢
  rw [he] at hbad ⊢
  simp -implicitDefEqProofs only [EI,jP,jQ,jR,jO,A8,A7,FY,AZ,AO,BD,AX,AL,AA,AY,BO,BI,BX,BP,jF,jD,jE,↓reduceIte,jA,jB,jC,FB,f0,f1,f6,f7]
  refine ACalls.mono (J7 G nb lb base Bad vars s i hi lo hi' (by omega) (by omega) (by omega) (by omega) H (hk.trans kH) nH hbad) ?_
  rintro v H' qq
  simp -implicitDefEqProofs only [I7,BA,AL]
  exact qq.post kH
set_option maxHeartbeats 1000000 in
theorem AK3 (nb lb:Nat) (base:Hp) (Bad:Prop) (vars:List Vr) (s:NS) (d:Ds) (hv:LC vars d.var=true) (hw : ∀ w∈d.ws,UD w=false) (hwl:d.ws.length≤1048576) (h:Hp) (hk:Kp nb lb base h) (n:Nw h nb lb vars s) (hbad:UQ s d=none→Bad) :
  ACalls ((En G).wx (X0 nb lb base Bad)) 65 [.ptr nb 0 0,.agg (IQ d)] h (NP nb lb vars h (UQ s d)):=by
 obtain ⟨i,hi,hvi,_⟩:=OO hv
 refine IY (H:=Hint.none) (enM G) Tryz.func65 rfl (by kernel_rfl) (by kernel_rfl) (jH (by kernel_rfl)) ?_
 show awp _ _ _ _ _ (EH _ [] _)
 have g3:=C9 h (ABlk.live 2 [IQ d])
 have hx0:ext h (h ++ [ABlk.live 2 [IQ d]]):=(ext.rfl' h).app _
 simp -implicitDefEqProofs only [BB,A8,A7,AZ,BA,AC,AQ,AO,BD,AX,AL,AA,AY,AU,BH,BC,FN,BN,BG,wxP,BV,AB,BF,CE,↓reduceIte,jA,jG,jB,jC,enP,WR,bxD]
 generalize h ++ [ABlk.live 2 [IQ d]]=H0 at g3 hx0 ⊢
 generalize h.length=b3 at g3 ⊢
 have l50:DI Tryz.prog H0 50 (.ptr b3 0 1)=some (.sl d.wm 4 (d.ws.map IR)):=by rw [DC ASW g3 (row:=IQ d) rfl]; rfl
 simp -implicitDefEqProofs only [CJ,A7,AZ,BA,AC,AQ,AO,BD,AX,AL,AA,AY,AU,BH,BI,FH,wxP,AB,↓reduceIte,jB,jC,enP,AL3,l50,jM]
 refine JC 0 (fun F H=>F 0 = .ptr nb 0 0∧F 3 = .ptr b3 0 0∧F 4 = .int .i64 (P7 d.ws).1∧F 5 = .int .i64 (P7 d.ws).2∧ext H0 H∧(0≤(P7 d.ws).1∧(P7 d.ws).1≤65536∧-1≤(P7 d.ws).2∧(P7 d.ws).2≤65535)) (fun _ _=>False) ?_ ?_ (fun _ _ q=>q.elim)
 ·refine D8 (fun n F H => ∃ k,n+k=d.ws.length∧F 0 = .ptr nb 0 0∧F 3 = .ptr b3 0 0∧F 4 = .int .i64 (P7 (d.ws.take k)).1∧F 5 = .int .i64 (P7 (d.ws.take k)).2∧F 9 = .sl d.wm 4 (d.ws.map IR)∧F 10 = .int .i64 (d.ws.length:Nat)∧F 11 = .int .i64 (k:Nat)∧ext H0 H∧(0≤(P7 (d.ws.take k)).1∧(P7 (d.ws.take k)).1≤65536∧-1≤(P7 (d.ws.take k)).2∧(P7 (d.ws.take k)).2≤65535)) d.ws.length
   ⟨0,by simp,by simp -implicitDefEqProofs only [AA,BF,↓reduceIte,jA],by simp -implicitDefEqProofs only [AA,↓reduceIte,jA],by simp -implicitDefEqProofs only [AA,↓reduceIte,jA]; rfl,by simp -implicitDefEqProofs only [AA,↓reduceIte,jA]; rfl,by simp -implicitDefEqProofs only [AA,↓reduceIte,jA],by simp -implicitDefEqProofs only [AA,↓reduceIte,jA],by simp -implicitDefEqProofs only [AA,↓reduceIte]; rfl,ext.rfl' _,by rw [zF]; decide⟩ ?_
  rintro q F H ⟨k,hq,f0,f3,f4,f5,f9,f10,f11,hx,hbd⟩
  simp -implicitDefEqProofs only [BB,A8,BJ,A7,AZ,BA,AC,AQ,AO,BD,AX,AL,AA,AY,BR,wxP,AB,DF,↓reduceIte,jB,jC,enP,f10,f11]
  refine CS (fun hc => ?_) (fun hc => ?_)
  ·have hk':k < d.ws.length:=by simpa using hc
   have hst:P7 (d.ws.take (k+1))=ARA (P7 (d.ws.take k)) d.ws[k]:=by unfold P7; rw [zY hk',List.foldl_append]; rfl
   obtain ⟨w0,w1,w2⟩:=AP2 (hw _ (jS hk'))
   have g7:=C9 H (ABlk.live 4 [IR d.ws[k]])
   have hx1:=hx.app [ABlk.live 4 [IR d.ws[k]]]
   simp -implicitDefEqProofs only [BB,CJ,A8,BQ,A7,AZ,BA,AC,AQ,AO,BD,AX,AL,DV,AA,AY,EX,BN,CY,BG,CU,wxP,BV,AB,BZ,↓reduceIte,jA,jG,jB,jC,enP,AR6,ZO,jJ,f9,f11,EJ hk',EM ASV ALD TQ hk',AU7,ATC]
   generalize H ++ [ABlk.live 4 [IR d.ws[k]]]=H1 at g7 hx1 ⊢
   generalize H.length=b7 at g7 ⊢
   have e0:DI Tryz.prog H1 3 (.ptr b7 0 0)=some (.int .i64 d.ws[k].lo):=by rw [DC ag3 g7 (row:=IR d.ws[k]) rfl]; rfl
   have e1:DI Tryz.prog H1 3 (.ptr b7 0 1)=some (.int .i64 d.ws[k].hi):=by rw [DC ag3 g7 (row:=IR d.ws[k]) rfl]; rfl
   have e2:DI Tryz.prog H1 3 (.ptr b7 0 2)=some (.int .i64 d.ws[k].w):=by rw [DC ag3 g7 (row:=IR d.ws[k]) rfl]; rfl
   simp -implicitDefEqProofs only [BJ,A7,AZ,BA,AC,AQ,AO,BD,AX,AL,AA,AY,AU,BH,BR,wxP,AB,E8,↓reduceIte,jB,jC,enP,e2]
   unfold ARA at hst
   refine CS (fun hd => ?_) (fun hd => ?_)
   ·have hd:d.ws[k].w > 0:=by simpa using hd
    rw [if_pos hd] at hst
    refine EZ (by kernel_rfl) ?_
    simp -implicitDefEqProofs only [FD,DR,CZ,D9,DU,ES,G9,ED,DK,OM,A8,A7,EO,FK,AZ,BA,AC,AQ,AO,BD,AX,AL,AA,AY,AU,BH,BI,BN,BR,BG,XM,YP,wxP,AB,DZ,SL,U3,↓reduceIte,jA,jK,jI,jG,jB,jC,enP,O8,QZ,f4,f5,e0,e1,f11,wrap_succ (show k < 9223372036854775807 by omega)]
    refine ⟨q - 1,by omega,k+1,by omega,by trivial,by trivial,by rw [hst],by rw [hst],by trivial,by trivial,by trivial,hx1,?_⟩
    rw [hst]
    exact ⟨by show 0≤min _ _; omega,by show min _ _≤_; omega,by show -1≤max _ _; omega,by show max _ _≤_; omega⟩
   ·have hd : ¬ d.ws[k].w > 0:=by simpa using hd
    rw [if_neg hd] at hst
    simp -implicitDefEqProofs only [A8,BQ,A7,EO,FK,AZ,BA,AC,AQ,AO,BD,AX,AL,AA,AY,AU,BH,BI,BR,wxP,AB,DZ,↓reduceIte,jA,jB,jC,enP,f11,wrap_succ (show k < 9223372036854775807 by omega)]
    exact ⟨q - 1,by omega,k+1,by omega,by trivial,by trivial,by rw [hst]; exact f4,by rw [hst]; exact f5,by trivial,by trivial,by trivial,hx1,by rw [hst]; exact hbd⟩
  ·have hk' : ¬ k < d.ws.length:=by simpa using hc
   rw [jY (by omega)] at f4 f5 hbd
   simp -implicitDefEqProofs only [D6,E5,N8,GG,AA,↓reduceIte,jA]
   exact ⟨f0,f3,f4,f5,hx,hbd⟩
 ·rintro F H ⟨f0,f3,f4,f5,hx,⟨b1,b2,b3',b4⟩⟩
  have hxx:=hx0.trans hx
  have nH:=n.ext hxx
  have kH:=Kp.ofExt (nb:=nb) (lb:=lb) hxx
  have l3:DI Tryz.prog H 3 (.ptr b3 0 0)=some (.int .i64 d.var):=by rw [DC ag3 (FX hx g3) (row:=IQ d) rfl]; rfl
  have hd:UQ s d=MS s i (P7 d.ws).1 (P7 d.ws).2:=by unfold UQ; rw [hvi,zM]
  rw [hd] at hbad ⊢
  simp -implicitDefEqProofs only [A8,A7,FY,AZ,AC,AQ,AO,BD,AX,AL,AA,AY,BO,BI,BN,BG,BX,BP,wxP,AB,jF,jD,jE,↓reduceIte,jA,jI,jB,jC,enP,U6,f0,f3,f4,f5,l3,hvi]
  refine ACalls.mono (J7 G nb lb base Bad vars s i hi _ _ (by omega) (by omega) (by omega) (by omega) H (hk.trans kH) nH hbad) ?_
  rintro v H' qq
  simp -implicitDefEqProofs only [I7,BA,AL]
  exact qq.post kH
end
def ex0:Ex := .mk 0 0 ⟨#[]⟩ .nil []
def AOY (vars:List Vr) (op:Int) (name:ByteArray) (args:List Ex) (rec:NS→Option NS) (s:NS):Option NS :=
 if op=2∧0≤plc vars name then MS s (plc vars name).toNat 1 65535
 else if op=4 then atV vars (args.getD 0 ex0) (fun s i=>MS s i 0 0) s
 else if op=19 then rec s
 else if op=15 then ZX feq vars s (args.getD 0 ex0) (args.getD 1 ex0)
 else if op=16 then ZX fne vars s (args.getD 0 ex0) (args.getD 1 ex0)
 else if op=17 then AGJ vars s (args.getD 0 ex0) (args.getD 1 ex0) 1
 else if op=18 then AGJ vars s (args.getD 0 ex0) (args.getD 1 ex0) 0
 else if op=23 then atV vars (args.getD 0 ex0) (fun s i=>AO0 vars s i (args.drop 1)) s
 else some s
mutual
def SK (vars:List Vr):Ex→NS→Option NS
 | .mk op _ name _ args=>AOY vars op name args (U2 vars args)
def U2 (vars:List Vr):List Ex→NS→Option NS
 | []=>fun s=>some s
 | e :: es=>fun s=>(SK vars e s).bind (U2 vars es)
end
theorem AIG (vars:List Vr) (e:Ex) (s:NS):SK vars e s=AOY vars e.op e.name e.args (U2 vars e.args) s:=by cases e; simp [SK,Ex.op,Ex.name,Ex.args]
theorem AO7 {h:Hp} {c nb:Nat} (hc:h[c]? = some (.live 1 [[.ptr nb 0 0]])):DI Tryz.prog h 66 (.ptr c 0 0)=some (.ptr nb 0 0):=IB AW7 hc
theorem AWS (h:Hp) (nb:Nat):OE h (.ptr nb 0 0)=some (.ptr h.length 0 0,h ++ [ABlk.live 1 [[.ptr nb 0 0]]]):=rfl
section
variable (G:Nat→AV)
set_option maxHeartbeats 4000000 in
theorem AEE (nb lb:Nat) (base:Hp) (Bad:Prop) (vars:List Vr) (e:Ex):EOk e→∀ (s:NS) (h:Hp),Kp nb lb base h→Nw h nb lb vars s→(SK vars e s=none→Bad) →
  ACalls ((En G).wx (X0 nb lb base Bad)) 66 [.ptr nb 0 0,.agg (CV e)] h (NP nb lb vars h (SK vars e s)):=by
 induction e using Ex.induct with | h e ih => ?_
 intro he s h hk n hbad
 have hnode:=he.n e (by rw [pre_eq]; simp)
 obtain ⟨a1,a25,ar1,ar3,arI,ar2⟩:=AIE hnode
 have hal:e.args.length≤1048576:=by have:=he.w; have:=OG e; have:=VH e.args; omega
 rw [AIG] at hbad ⊢
 refine IY (H:=Hint.none) (enM G) Tryz.func66 rfl (by kernel_rfl) (by kernel_rfl) (jH (by kernel_rfl)) ?_
 show awp _ _ _ _ _ (EH _ [] _)
 have g2:=CX (x:=ABlk.live 4 [CV e]) (C9 h (ABlk.live 1 [[.ptr nb 0 0]]))
 have g3:=C9 (h ++ [ABlk.live 1 [[.ptr nb 0 0]]]) (ABlk.live 4 [CV e])
 have n1:=n.ext (((ext.rfl' h).app [ABlk.live 1 [[.ptr nb 0 0]]]).app [ABlk.live 4 [CV e]])
 have k1:=((Kp.rfl' nb lb h).app (ABlk.live 1 [[.ptr nb 0 0]])).app (ABlk.live 4 [CV e])
 have o2:=n.lt (jL h.length)
 have o3:=n.lt (b:=(h ++ [ABlk.live 1 [[.ptr nb 0 0]]]).length) (by simp)
 simp -implicitDefEqProofs only [BB,A8,A7,AZ,BA,AC,AQ,AO,BD,AX,AL,AA,AY,FN,wxP,BV,BF,CE,↓reduceIte,jA,jB,jC,enP,AWS,bxE]
 generalize h ++ [ABlk.live 1 [[.ptr nb 0 0]]] ++ [ABlk.live 4 [CV e]]=H at g2 g3 n1 k1 ⊢
 generalize (h ++ [ABlk.live 1 [[.ptr nb 0 0]]]).length=b3 at g2 g3 o3 ⊢
 generalize h.length=b2 at g2 g3 o2 ⊢
 have hkH:=hk.trans k1
 have q2:=AO7 g2
 have qE:=IU g3
 have q0:DI Tryz.prog H 3 (.ptr b3 0 0)=some (.int .i64 e.op):=by rw [DC ag3 g3 (row:=CV e) rfl,I8]
 have q3:DI Tryz.prog H 23 (.ptr b3 0 3)=some (.sl e.m 4 (e.args.map CV)):=by rw [DC QP g3 (row:=CV e) rfl,RH]
 have gd : ∀ (k:Nat) (hk:k < e.args.length),e.args.getD k ex0=e.args[k]:=fun k hk=>by rw [qG,jV hk]; rfl
 refine EZ (by kernel_rfl) ?_
 simp -implicitDefEqProofs only [FD,DR,CZ,D9,DU,G9,ED,DK,EP,EF,BB,A8,A7,AZ,AC,AQ,AO,BD,AX,AL,AA,AY,AU,BO,BH,BI,BN,BR,BG,wxP,AB,jF,jD,jE,↓reduceIte,jA,jK,jI,jB,jC,enP,KE,EK,F7,EY,q2,qE]
 refine ⟨_,NM G vars s.1 nb e H n1.ev,?_⟩
 simp -implicitDefEqProofs only [BJ,A7,BA,AL,AA,AY,AB,FQ,↓reduceIte]
 have hve:(if e.op=2 then plc vars e.name else -1)=vix vars e:=rfl
 rw [hve]
 have hre:=RZ vars e
 unfold AOY at hbad ⊢
 refine CS (fun hc => ?_) (fun hc => ?_)
 ·have hc:0≤vix vars e:=by simpa using hc
  have h2:e.op=2∧0≤plc vars e.name:=by
   unfold vix at hc
   by_cases q:e.op=2
   ·rw [if_pos q] at hc; exact ⟨q,hc⟩
   ·rw [if_neg q] at hc; omega
  have hv:vix vars e=plc vars e.name:=by unfold vix; rw [if_pos h2.1]
  rw [if_pos h2] at hbad ⊢
  rw [← hv] at hbad ⊢
  obtain ⟨i,hi⟩:=zL hc
  rw [hi,zM] at hbad ⊢
  simp -implicitDefEqProofs only [BB,A8,AZ,AC,AQ,AO,BD,AX,AL,AA,AY,AU,BO,BH,BI,BN,BX,BP,wxP,AB,jF,jD,jE,↓reduceIte,jA,jB,jC,enP,q2]
  refine ACalls.mono (J7 G nb lb base Bad vars s i (by omega) 1 65535 (by omega) (by omega) (by omega) (by omega) H hkH n1 hbad) ?_
  rintro v H' qq
  simp -implicitDefEqProofs only [BK,A7,CQ,AMY,BA,AL]
  exact qq.post k1
 have hc : ¬ 0≤vix vars e:=by simpa using hc
 have hn2 : ¬ (e.op=2∧0≤plc vars e.name):=fun q=>hc (by unfold vix; rw [if_pos q.1]; exact q.2)
 rw [if_neg hn2] at hbad ⊢
 simp -implicitDefEqProofs only [BB,CJ,A8,BQ,BJ,A7,AZ,BA,AC,AQ,AO,BD,AX,AL,AA,AY,AU,BH,BC,BN,BR,BG,wxP,AB,DW,↓reduceIte,jA,jI,jB,jC,enP,G8,q0]
 by_cases h4:e.op=4
 ·have c4:(e.op == 4)=true:=by simpa using h4
  rw [if_pos h4] at hbad ⊢
  have hl:=ar1 (.inl h4)
  have x0:0 < e.args.length:=by omega
  have m0:e.args[0]∈e.args:=jS x0
  have i0:JV 4 H (.sl e.m 4 (e.args.map CV)) (.int .i64 0)=some (.fptr 4 (e.args.map CV) 0 0):=EJ (n:=0) x0
  have d0:DI Tryz.prog H 40 (.fptr 4 (e.args.map CV) 0 0)=some (.agg (CV e.args[0])):=EM MC JU ER x0
  rw [gd 0 x0] at hbad ⊢
  simp -implicitDefEqProofs only [BB,DY,c4]
  refine EZ (by kernel_rfl) ?_
  simp -implicitDefEqProofs only [FD,DR,CZ,D9,DU,G9,ED,DK,FI,EP,EF,BB,A8,A7,AZ,AC,AQ,AO,BD,AX,AL,AA,AY,AU,BO,BH,BI,BN,BR,BG,CU,wxP,AB,jF,jD,jE,↓reduceIte,jA,jK,jI,jG,jB,jC,enP,QC,JQ,KE,EK,F7,EY,q2,q3,i0,d0]
  refine ⟨_,NM G vars s.1 nb e.args[0] H n1.ev,?_⟩
  simp -implicitDefEqProofs only [BJ,A7,BA,AL,AA,AY,AB,FQ,↓reduceIte]
  have hva:(if e.args[0].op=2 then plc vars e.args[0].name else -1)=vix vars e.args[0]:=rfl
  rw [hva]
  have hra:=RZ vars e.args[0]
  unfold atV at hbad ⊢
  refine CS (fun hd => ?_) (fun hd => ?_)
  ·have hd:(0:Int)≤vix vars e.args[0]:=by simpa using hd
   rw [if_pos hd] at hbad ⊢
   obtain ⟨i,hi⟩:=zL hd
   rw [hi,zM] at hbad ⊢
   simp -implicitDefEqProofs only [A8,AZ,AC,AQ,AO,BD,AX,AL,AA,AY,AU,BO,BH,BI,BN,BX,BP,wxP,AB,jF,jD,jE,↓reduceIte,jA,jB,jC,enP,q2,hi]
   refine ACalls.mono (J7 G nb lb base Bad vars s i (by omega) 0 0 (by omega) (by omega) (by omega) (by omega) H hkH n1 hbad) ?_
   rintro v H' qq
   simp -implicitDefEqProofs only [EO,I7,BA,AL]
   exact qq.post k1
  ·have hd : ¬ (0:Int)≤vix vars e.args[0]:=by simpa using hd
   rw [if_neg hd]
   simp -implicitDefEqProofs only [BQ,EO,I7]
   exact ⟨s,rfl,n1,k1⟩
 have c4:(e.op == 4)=false:=by simpa using h4
 rw [if_neg h4] at hbad ⊢
 by_cases h19:e.op=19
 ·have c19:(e.op == 19)=true:=by simpa using h19
  rw [if_pos h19] at hbad ⊢
  have hl:=ar2 (by omega) (by omega)
  have x0:0 < e.args.length:=by omega
  have x1:1 < e.args.length:=by omega
  have m0:e.args[0]∈e.args:=jS x0
  have m1:e.args[1]∈e.args:=jS x1
  have i0:JV 4 H (.sl e.m 4 (e.args.map CV)) (.int .i64 0)=some (.fptr 4 (e.args.map CV) 0 0):=EJ (n:=0) x0
  have d0:DI Tryz.prog H 40 (.fptr 4 (e.args.map CV) 0 0)=some (.agg (CV e.args[0])):=EM MC JU ER x0
  have hnl : ∀ s,U2 vars e.args s=(SK vars e.args[0] s).bind fun s=>SK vars e.args[1] s:=fun s=>by
   have:e.args = [e.args[0],e.args[1]]:=by
    apply List.ext_getElem (by simp [hl])
    intro j hj _
    match j,hj with
    | 0,_=>rfl
    | 1,_=>rfl
    | j+2,hj=>omega
   conv=>lhs; rw [this]
   show (SK vars e.args[0] s).bind (fun s=>(SK vars e.args[1] s).bind fun s=>some s)=_
   congr 1; funext s; cases SK vars e.args[1] s <;> rfl
  rw [hnl] at hbad ⊢
  simp -implicitDefEqProofs only [BB,A8,BJ,A7,DY,EC,AZ,BA,AC,AQ,AO,BD,AX,AL,AA,AY,AU,BH,BC,BR,wxP,AB,DW,↓reduceIte,jA,jB,jC,enP,c4,c19]
  refine TS (fun F H' => ∃ s1,SK vars e.args[0] s=some s1∧Nw H' nb lb vars s1∧Kp nb lb H H'∧F 2 = .ptr b2 0 0∧F 3 = .ptr b3 0 0) (fun _ _=>False) ?_ ?_ (fun _ _ q=>q.elim)
  ·refine KX 5 _ (by kernel_rfl) rfl rfl ?_
   simp only [qI,zF]
   simp -implicitDefEqProofs only [FD,DR,CZ,D9,DU,ED,DK,FI,AC,AA,AY,AU,BO,BH,BN,BG,CU,BX,BP,wxP,AB,jF,jD,jE,↓reduceIte,jA,jK,jG,jB,enP,QC,JQ,q2,q3,i0,d0]
   refine ACalls.mono (ih e.args[0] m0 (he.arg m0) s H hkH n1 (fun q=>hbad (by rw [q]; rfl))) ?_
   rintro v H' ⟨s',e',n',k'⟩
   simp -implicitDefEqProofs only [MN,AA,↓reduceIte,jA,ZG]
   exact ⟨s',e',n',k',by trivial,by trivial⟩
  rintro F H2 ⟨s1,e1,n2,k2,f2,f3⟩
  rw [e1] at hbad ⊢
  have hbad:SK vars e.args[1] s1=none→Bad:=hbad
  have g2:=k2.1 _ _ g2 o2.1 o2.2
  have g3:=k2.1 _ _ g3 o3.1 o3.2
  have q3:DI Tryz.prog H2 23 (.ptr b3 0 3)=some (.sl e.m 4 (e.args.map CV)):=by rw [DC QP g3 (row:=CV e) rfl,RH]
  have i1:JV 4 H2 (.sl e.m 4 (e.args.map CV)) (.int .i64 1)=some (.fptr 4 (e.args.map CV) 1 0):=EJ (n:=1) x1
  have d1:DI Tryz.prog H2 40 (.fptr 4 (e.args.map CV) 1 0)=some (.agg (CV e.args[1])):=EM MC JU ER x1
  simp -implicitDefEqProofs only [A7]
  refine KX 5 _ (by kernel_rfl) rfl rfl ?_
  simp only [qI,zF]
  simp -implicitDefEqProofs only [FD,DR,CZ,D9,DU,ED,DK,FI,AC,AA,AY,AU,BO,BH,BN,BG,CU,BX,BP,wxP,AB,jF,jD,jE,↓reduceIte,jA,jK,jG,jB,enP,QC,JQ,f2,f3,AO7 g2,q3,i1,d1]
  refine ACalls.mono (ih e.args[1] m1 (he.arg m1) s1 H2 (hkH.trans k2) n2 hbad) ?_
  rintro v H' qq
  simp -implicitDefEqProofs only [EO,I7,ZG]
  exact qq.post (k1.trans k2)
 have c19:(e.op == 19)=false:=by simpa using h19
 rw [if_neg h19] at hbad ⊢
 by_cases h15:e.op=15
 ·have c15:(e.op == 15)=true:=by simpa using h15
  rw [if_pos h15] at hbad ⊢
  have hl:=ar2 (by omega) (by omega)
  have x0:0 < e.args.length:=by omega
  have x1:1 < e.args.length:=by omega
  have m0:e.args[0]∈e.args:=jS x0
  have m1:e.args[1]∈e.args:=jS x1
  have i0:JV 4 H (.sl e.m 4 (e.args.map CV)) (.int .i64 0)=some (.fptr 4 (e.args.map CV) 0 0):=EJ (n:=0) x0
  have d0:DI Tryz.prog H 40 (.fptr 4 (e.args.map CV) 0 0)=some (.agg (CV e.args[0])):=EM MC JU ER x0
  have i1:JV 4 H (.sl e.m 4 (e.args.map CV)) (.int .i64 1)=some (.fptr 4 (e.args.map CV) 1 0):=EJ (n:=1) x1
  have d1:DI Tryz.prog H 40 (.fptr 4 (e.args.map CV) 1 0)=some (.agg (CV e.args[1])):=EM MC JU ER x1
  rw [gd 0 x0,gd 1 x1] at hbad ⊢
  simp -implicitDefEqProofs only [BB,A8,BJ,A7,DY,EC,AZ,BA,AC,AQ,AO,BD,AX,AL,AA,AY,AU,BH,BC,BR,wxP,AB,DW,↓reduceIte,jA,jB,jC,enP,c4,c19,c15]
  refine KX 10 _ (by kernel_rfl) rfl rfl ?_
  simp only [qI,zF]
  simp -implicitDefEqProofs only [FD,DR,CZ,D9,DU,ED,YN,DK,FI,AC,AA,AY,AU,BO,BH,BN,IX,BG,CU,BX,BP,wxP,AB,jF,jD,jE,↓reduceIte,jA,jK,jG,jB,enP,QC,JQ,q2,q3,i0,d0,i1,d1]
  refine ACalls.mono (XV G nb lb base Bad vars s e.args[0] e.args[1] (he.arg m0) (he.arg m1) 119 [] [.ptr b2 0 0] feq H hkH n1 (fun s i r H' hi hr hk' n' hb'=>AMP G nb lb base Bad vars s i hi r hr b2 H' (hk'.1 _ _ g2 o2.1 o2.2) (hkH.trans hk') n' hb') hbad) ?_
  rintro v H' qq
  simp -implicitDefEqProofs only [EO,I7,ZG]
  exact qq.post k1
 have c15:(e.op == 15)=false:=by simpa using h15
 rw [if_neg h15] at hbad ⊢
 by_cases h16:e.op=16
 ·have c16:(e.op == 16)=true:=by simpa using h16
  rw [if_pos h16] at hbad ⊢
  have hl:=ar2 (by omega) (by omega)
  have x0:0 < e.args.length:=by omega
  have x1:1 < e.args.length:=by omega
  have m0:e.args[0]∈e.args:=jS x0
  have m1:e.args[1]∈e.args:=jS x1
  have i0:JV 4 H (.sl e.m 4 (e.args.map CV)) (.int .i64 0)=some (.fptr 4 (e.args.map CV) 0 0):=EJ (n:=0) x0
  have d0:DI Tryz.prog H 40 (.fptr 4 (e.args.map CV) 0 0)=some (.agg (CV e.args[0])):=EM MC JU ER x0
  have i1:JV 4 H (.sl e.m 4 (e.args.map CV)) (.int .i64 1)=some (.fptr 4 (e.args.map CV) 1 0):=EJ (n:=1) x1
  have d1:DI Tryz.prog H 40 (.fptr 4 (e.args.map CV) 1 0)=some (.agg (CV e.args[1])):=EM MC JU ER x1
  rw [gd 0 x0,gd 1 x1] at hbad ⊢
  simp -implicitDefEqProofs only [BB,A8,BJ,A7,DY,EC,AZ,BA,AC,AQ,AO,BD,AX,AL,AA,AY,AU,BH,BC,BR,wxP,AB,DW,↓reduceIte,jA,jB,jC,enP,c4,c19,c15,c16]
  refine KX 11 _ (by kernel_rfl) rfl rfl ?_
  simp only [qI,zF]
  simp -implicitDefEqProofs only [FD,DR,CZ,D9,DU,ED,YN,DK,FI,AC,AA,AY,AU,BO,BH,BN,IX,BG,CU,BX,BP,wxP,AB,jF,jD,jE,↓reduceIte,jA,jK,jG,jB,enP,QC,JQ,q2,q3,i0,d0,i1,d1]
  refine ACalls.mono (XV G nb lb base Bad vars s e.args[0] e.args[1] (he.arg m0) (he.arg m1) 120 [.ptr nb 0 0] [] fne H hkH n1 (fun s i r H' hi hr hk' n' hb'=>AMO G nb lb base Bad vars s i hi r hr H' (hkH.trans hk') n' hb') hbad) ?_
  rintro v H' qq
  simp -implicitDefEqProofs only [EO,I7,ZG]
  exact qq.post k1
 have c16:(e.op == 16)=false:=by simpa using h16
 rw [if_neg h16] at hbad ⊢
 by_cases h17:e.op=17
 ·have c17:(e.op == 17)=true:=by simpa using h17
  rw [if_pos h17] at hbad ⊢
  have hl:=ar2 (by omega) (by omega)
  have x0:0 < e.args.length:=by omega
  have x1:1 < e.args.length:=by omega
  have m0:e.args[0]∈e.args:=jS x0
  have m1:e.args[1]∈e.args:=jS x1
  have i0:JV 4 H (.sl e.m 4 (e.args.map CV)) (.int .i64 0)=some (.fptr 4 (e.args.map CV) 0 0):=EJ (n:=0) x0
  have d0:DI Tryz.prog H 40 (.fptr 4 (e.args.map CV) 0 0)=some (.agg (CV e.args[0])):=EM MC JU ER x0
  have i1:JV 4 H (.sl e.m 4 (e.args.map CV)) (.int .i64 1)=some (.fptr 4 (e.args.map CV) 1 0):=EJ (n:=1) x1
  have d1:DI Tryz.prog H 40 (.fptr 4 (e.args.map CV) 1 0)=some (.agg (CV e.args[1])):=EM MC JU ER x1
  rw [gd 0 x0,gd 1 x1] at hbad ⊢
  simp -implicitDefEqProofs only [BB,A8,BJ,A7,DY,EC,AZ,BA,AC,AQ,AO,BD,AX,AL,AA,AY,AU,BH,BC,BR,wxP,AB,DW,↓reduceIte,jA,jB,jC,enP,c4,c19,c15,c16,c17]
  refine KX 9 _ (by kernel_rfl) rfl rfl ?_
  simp only [qI,zF]
  simp -implicitDefEqProofs only [FD,DR,CZ,D9,DU,ED,DK,FI,AC,AA,AY,AU,BO,BH,BN,BG,CU,BX,BP,wxP,AB,jF,jD,jE,↓reduceIte,jA,jK,jG,jB,enP,QC,JQ,q2,q3,i0,d0,i1,d1]
  refine ACalls.mono (Y7 G nb lb base Bad vars s e.args[0] e.args[1] (he.arg m0) (he.arg m1) 1 (by decide) H hkH n1 hbad) ?_
  rintro v H' qq
  simp -implicitDefEqProofs only [EO,I7,ZG]
  exact qq.post k1
 have c17:(e.op == 17)=false:=by simpa using h17
 rw [if_neg h17] at hbad ⊢
 by_cases h18:e.op=18
 ·have c18:(e.op == 18)=true:=by simpa using h18
  rw [if_pos h18] at hbad ⊢
  have hl:=ar2 (by omega) (by omega)
  have x0:0 < e.args.length:=by omega
  have x1:1 < e.args.length:=by omega
  have m0:e.args[0]∈e.args:=jS x0
  have m1:e.args[1]∈e.args:=jS x1
  have i0:JV 4 H (.sl e.m 4 (e.args.map CV)) (.int .i64 0)=some (.fptr 4 (e.args.map CV) 0 0):=EJ (n:=0) x0
  have d0:DI Tryz.prog H 40 (.fptr 4 (e.args.map CV) 0 0)=some (.agg (CV e.args[0])):=EM MC JU ER x0
  have i1:JV 4 H (.sl e.m 4 (e.args.map CV)) (.int .i64 1)=some (.fptr 4 (e.args.map CV) 1 0):=EJ (n:=1) x1
  have d1:DI Tryz.prog H 40 (.fptr 4 (e.args.map CV) 1 0)=some (.agg (CV e.args[1])):=EM MC JU ER x1
  rw [gd 0 x0,gd 1 x1] at hbad ⊢
  simp -implicitDefEqProofs only [BB,A8,BJ,A7,DY,EC,AZ,BA,AC,AQ,AO,BD,AX,AL,AA,AY,AU,BH,BC,BR,wxP,AB,DW,↓reduceIte,jA,jB,jC,enP,c4,c19,c15,c16,c17,c18]
  refine KX 9 _ (by kernel_rfl) rfl rfl ?_
  simp only [qI,zF]
  simp -implicitDefEqProofs only [FD,DR,CZ,D9,DU,ED,DK,FI,AC,AA,AY,AU,BO,BH,BN,BG,CU,BX,BP,wxP,AB,jF,jD,jE,↓reduceIte,jA,jK,jG,jB,enP,QC,JQ,q2,q3,i0,d0,i1,d1]
  refine ACalls.mono (Y7 G nb lb base Bad vars s e.args[0] e.args[1] (he.arg m0) (he.arg m1) 0 (by decide) H hkH n1 hbad) ?_
  rintro v H' qq
  simp -implicitDefEqProofs only [EO,I7,ZG]
  exact qq.post k1
 have c18:(e.op == 18)=false:=by simpa using h18
 rw [if_neg h18] at hbad ⊢
 by_cases h23:e.op=23
 ·have c23:(e.op == 23)=true:=by simpa using h23
  rw [if_pos h23] at hbad ⊢
  have hl:=arI h23
  have x0:0 < e.args.length:=by omega
  have m0:e.args[0]∈e.args:=jS x0
  have i0:JV 4 H (.sl e.m 4 (e.args.map CV)) (.int .i64 0)=some (.fptr 4 (e.args.map CV) 0 0):=EJ (n:=0) x0
  have d0:DI Tryz.prog H 40 (.fptr 4 (e.args.map CV) 0 0)=some (.agg (CV e.args[0])):=EM MC JU ER x0
  rw [gd 0 x0] at hbad ⊢
  simp -implicitDefEqProofs only [BB,A8,BJ,A7,DY,EC,AZ,BA,AC,AQ,AO,BD,AX,AL,AA,AY,AU,BH,BC,BR,wxP,AB,DW,↓reduceIte,jA,jB,jC,enP,c4,c19,c15,c16,c17,c18,c23]
  refine EZ (by kernel_rfl) ?_
  simp -implicitDefEqProofs only [FD,DR,CZ,D9,DU,G9,ED,DK,FI,EP,EF,BB,A8,A7,AZ,AC,AQ,AO,BD,AX,AL,AA,AY,AU,BO,BH,BI,BN,BR,BG,CU,wxP,AB,jF,jD,jE,↓reduceIte,jA,jK,jI,jG,jB,jC,enP,QC,JQ,KE,EK,F7,EY,q2,q3,i0,d0]
  refine ⟨_,NM G vars s.1 nb e.args[0] H n1.ev,?_⟩
  simp -implicitDefEqProofs only [BJ,A7,BA,AL,AA,AY,AB,FQ,↓reduceIte]
  have hva:(if e.args[0].op=2 then plc vars e.args[0].name else -1)=vix vars e.args[0]:=rfl
  rw [hva]
  have hra:=RZ vars e.args[0]
  unfold atV at hbad ⊢
  have hsl:J8 Tryz.prog H 23 (.sl e.m 4 (e.args.map CV)) (some (.int .i64 1)) none none=some (.sl e.m 4 ((e.args.drop 1).map CV)):=by
   have:=AOD (h:=H) (m:=e.m) (kk := .i64) (xs:=e.args.map CV) (l:=1) AJD JU (by rw [jM]; omega)
   rw [List.map_drop]; exact this
  refine CS (fun hd => ?_) (fun hd => ?_)
  ·have hd:(0:Int)≤vix vars e.args[0]:=by simpa using hd
   rw [if_pos hd] at hbad ⊢
   obtain ⟨i,hi⟩:=zL hd
   rw [hi,zM] at hbad ⊢
   simp -implicitDefEqProofs only []
   refine KX 5 _ (by kernel_rfl) rfl rfl ?_
   simp only [qI,zF]
   simp -implicitDefEqProofs only [FD,qM,Option.map_none,DR,CZ,D9,DU,ES,ED,VF,DK,AC,AA,AY,AU,BO,BH,BN,NK,BG,BX,BP,wxP,AB,jF,jD,jE,↓reduceIte,jA,jK,jG,jB,enP,JQ,q2,q3,hsl,hi]
   refine ACalls.mono (AEI G nb lb base Bad vars s i (by omega) (e.args.drop 1) e.m (fun a ha=>he.arg (List.mem_of_mem_drop ha)) (by rw [List.length_drop]; omega) H hkH n1 hbad) ?_
   rintro v H' qq
   simp -implicitDefEqProofs only [EO,I7,ZG]
   exact qq.post k1
  ·have hd : ¬ (0:Int)≤vix vars e.args[0]:=by simpa using hd
   rw [if_neg hd]
   simp -implicitDefEqProofs only [BQ,EO,I7]
   exact ⟨s,rfl,n1,k1⟩
 have c23:(e.op == 23)=false:=by simpa using h23
 rw [if_neg h23] at hbad ⊢
 simp -implicitDefEqProofs only [BB,A8,BQ,BJ,A7,EO,I7,EC,AZ,BA,AC,AQ,AO,BD,AX,AL,AA,AY,AU,BH,BC,BR,wxP,AB,DW,↓reduceIte,jA,jB,jC,enP,c4,c19,c15,c16,c17,c18,c23]
 exact ⟨s,rfl,n1,k1⟩
end
def AB5 (r:Rng):Nat:=(r.hi - r.lo).toNat
def wid (l:List Rng):Nat:=(l.map AB5).sum
theorem AH0 : ∀ (l:List Rng) (i:Nat) (hi:i < l.length) (r:Rng),wid (l.set i r)+AB5 l[i]=wid l+AB5 r
 | x :: l,0,_,r=>by simp [wid]; omega
 | x :: l,i+1,hi,r=>by
   have:=AH0 l i (by simpa using hi) r
   simp only [wid] at this ⊢
   simp only [List.set_cons_succ,jF,List.sum_cons,List.getElem_cons_succ]
   omega
structure Ste (s s':NS):Prop where
 len:s'.1.length=s.1.length
 sub : ∀ (i:Nat) (h:i < s.1.length) (h':i < s'.1.length),s.1[i].lo≤s'.1[i].lo∧s'.1[i].hi≤s.1[i].hi
 wf:(∀ r∈s.1,wfR r)→∀ r∈s'.1,wfR r
 wd:(∀ r∈s.1,wfR r)→wid s'.1≤wid s.1
 chg:(∀ r∈s.1,wfR r)→s'.2=true→s.2=true∨wid s'.1 < wid s.1
 un:s'.2=false→s.2=false∧s'.1=s.1
 keep:s.2=true→s'.2=true
theorem Ste.rfl' (s:NS):Ste s s:=⟨rfl,fun _ _ _=>⟨Int.le_refl _,Int.le_refl _⟩,fun h=>h,fun _=>jL _,fun _ h => .inl h,fun h=>⟨h,rfl⟩,fun h=>h⟩
theorem Ste.trans {a b c:NS} (h1:Ste a b) (h2:Ste b c):Ste a c:=by
 refine ⟨h2.len.trans h1.len,fun i h h' => ?_,fun w=>h2.wf (h1.wf w),fun w=>Nat.le_trans (h2.wd (h1.wf w)) (h1.wd w),fun w hc => ?_,fun hc => ?_,fun h=>h2.keep (h1.keep h)⟩
 ·have hb:i < b.1.length:=by rw [h1.len]; exact h
  have p:=h1.sub i h hb
  have q:=h2.sub i hb h'
  exact ⟨Int.le_trans p.1 q.1,Int.le_trans q.2 p.2⟩
 ·have hw:=h1.wd w
  have hw2:=h2.wd (h1.wf w)
  rcases h2.chg (h1.wf w) hc with q | q
  ·rcases h1.chg w q with q | q
   ·exact .inl q
   ·exact .inr (by omega)
  ·exact .inr (by omega)
 ·obtain ⟨p,q⟩:=h2.un hc
  obtain ⟨p',q'⟩:=h1.un p
  exact ⟨p',q.trans q'⟩
theorem LP {s s':NS} {i:Nat} {lo hi:Int} (hi':i < s.1.length) (h:MS s i lo hi=some s'):Ste s s':=by
 have hgd:s.1.getD i JS=s.1[i]:=by rw [qG,jV hi']; rfl
 unfold MS at h
 rw [hgd] at h
 by_cases hd:(nxR s.1[i] lo hi).lo > (nxR s.1[i] lo hi).hi
 ·rw [if_pos hd] at h; cases h
 rw [if_neg hd] at h
 cases h
 have hlo:s.1[i].lo≤(nxR s.1[i] lo hi).lo:=by show s.1[i].lo≤max s.1[i].lo lo; omega
 have hhi:(nxR s.1[i] lo hi).hi≤s.1[i].hi:=by show min s.1[i].hi hi≤s.1[i].hi; omega
 have hws:=AH0 s.1 i hi' (nxR s.1[i] lo hi)
 have hwd:AB5 (nxR s.1[i] lo hi)≤AB5 s.1[i]:=by unfold AB5; omega
 refine ⟨by simp,fun j h h' => ?_,fun w r hr => ?_,fun w=>by show wid (s.1.set i _)≤_; omega,fun w hc => ?_,fun hc => ?_,fun h=>by show (s.2 || _)=true; rw [h]; rfl⟩
 ·show s.1[j].lo≤((s.1.set i (nxR s.1[i] lo hi))[j]'(h')).lo∧_
  rw [List.getElem_set]
  by_cases e:i=j
  ·subst e; rw [if_pos rfl]; exact ⟨hlo,hhi⟩
  ·rw [if_neg e]; exact ⟨Int.le_refl _,Int.le_refl _⟩
 ·rcases List.mem_or_eq_of_mem_set hr with hr | rfl
  ·exact w r hr
  ·obtain ⟨q0,q1,q2⟩:=w _ (jS hi')
   exact ⟨by omega,by omega,by omega⟩
 ·have hc:(s.2 || !((nxR s.1[i] lo hi) == s.1[i]))=true:=hc
  rcases Bool.or_eq_true_iff.1 hc with h | h
  ·exact .inl h
  ·right
   have hne:nxR s.1[i] lo hi≠s.1[i]:=by simpa using h
   have:AB5 (nxR s.1[i] lo hi) < AB5 s.1[i]:=by
    obtain ⟨q0,q1,q2⟩:=w _ (jS hi')
    unfold AB5
    have : ¬ ((nxR s.1[i] lo hi).lo=s.1[i].lo∧(nxR s.1[i] lo hi).hi=s.1[i].hi):=fun ⟨a,b⟩=>hne (by
     cases hx:nxR s.1[i] lo hi; cases hy:s.1[i]; rw [hx,hy] at a b; simp at a b; rw [a,b])
    omega
   show wid (s.1.set i _) < _
   omega
 ·have hc:(s.2 || !((nxR s.1[i] lo hi) == s.1[i]))=false:=hc
  rw [Bool.or_eq_false_iff] at hc
  have he:nxR s.1[i] lo hi=s.1[i]:=by simpa using hc.2
  refine ⟨hc.1,?_⟩
  show s.1.set i (nxR s.1[i] lo hi)=s.1
  rw [he,set_self hi']
theorem QN {r:Option NS} {f:NS→Option NS} {s s':NS} (h:r.bind f=some s') (h1 : ∀ t,r=some t→Ste s t) (h2 : ∀ t,r=some t→Ste s t→f t=some s'→Ste t s'):Ste s s':=by
 cases r with
 | none=>cases h
 | some t=>exact (h1 t rfl).trans (h2 t rfl (h1 t rfl) h)
theorem TT {vars:List Vr} {a:Ex} {f:NS→Nat→Option NS} {s s':NS} (hl:s.1.length=vars.length) (hf : ∀ i,i < s.1.length→∀ s',f s i=some s'→Ste s s') (h:atV vars a f s=some s'):Ste s s':=by
 unfold atV at h
 by_cases hc:0≤vix vars a
 ·rw [if_pos hc] at h
  have:=RZ vars a
  exact hf _ (by omega) s' h
 ·rw [if_neg hc] at h; cases h; exact .rfl' _
theorem AOW (vars:List Vr) (e:Ex) : ∀ (s s':NS),s.1.length=vars.length→SK vars e s=some s'→Ste s s':=by
 induction e using Ex.induct with | h e ih => ?_
 intro s s' hl h
 rw [AIG] at h
 unfold AOY at h
 by_cases h2:e.op=2∧0≤plc vars e.name
 ·rw [if_pos h2] at h
  have hr:=QJ (JB e.name) vars
  exact LP (by have:=h2.2; unfold plc at *; omega) h
 rw [if_neg h2] at h
 by_cases h4:e.op=4
 ·rw [if_pos h4] at h
  exact TT hl (fun i hi s' h=>LP hi h) h
 rw [if_neg h4] at h
 by_cases h19:e.op=19
 ·rw [if_pos h19] at h
  have key : ∀ (xs:List Ex),(∀ a∈xs,a∈e.args)→∀ (s s':NS),s.1.length=vars.length→U2 vars xs s=some s'→Ste s s':=by
   intro xs
   induction xs with
   | nil=>intro _ s s' _ h; cases h; exact .rfl' _
   | cons x xs ihx =>
     intro hm s s' hl h
     have h:(SK vars x s).bind (U2 vars xs)=some s':=h
     exact QN h (fun t ht=>ih x (hm x (by simp)) s t hl ht) (fun t _ st ht=>ihx (fun a ha=>hm a (by simp [ha])) t s' (by rw [st.len]; exact hl) ht)
  exact key e.args (fun a h=>h) s s' hl h
 rw [if_neg h19] at h
 have eith : ∀ (f:NS→Nat→Rng→Option NS) (a b:Ex),(∀ (s s':NS) (i:Nat) (r:Rng),i < s.1.length→f s i r=some s'→Ste s s')→ZX f vars s a b=some s'→Ste s s':=fun f a b hf h=>by
  unfold ZX at h
  exact QN h (fun t ht=>TT hl (fun i hi s' h=>hf _ _ _ _ hi h) ht) (fun t _ st ht=>TT (by rw [st.len]; exact hl) (fun i hi s' h=>hf _ _ _ _ hi h) ht)
 by_cases h15:e.op=15
 ·rw [if_pos h15] at h
  exact eith feq _ _ (fun s s' i r hi h=>LP hi h) h
 rw [if_neg h15] at h
 by_cases h16:e.op=16
 ·rw [if_pos h16] at h
  refine eith fne _ _ (fun s s' i r hi h => ?_) h
  unfold fne at h
  by_cases hs:sgl r=true
  ·rw [if_pos hs] at h
   refine QN h (fun t ht => ?_) (fun t _ st ht => ?_)
   ·split at ht
    ·exact LP hi ht
    ·cases ht; exact .rfl' _
   ·split at ht
    ·exact LP (by rw [st.len]; exact hi) ht
    ·cases ht; exact .rfl' _
  ·rw [if_neg hs] at h; cases h; exact .rfl' _
 rw [if_neg h16] at h
 have ord : ∀ (a b:Ex) (gap:Int),AGJ vars s a b gap=some s'→Ste s s':=fun a b gap h=>by
  unfold AGJ at h
  exact QN h (fun t ht=>TT hl (fun i hi s' h=>LP hi h) ht) (fun t _ st ht=>TT (by rw [st.len]; exact hl) (fun i hi s' h=>LP hi h) ht)
 by_cases h17:e.op=17
 ·rw [if_pos h17] at h; exact ord _ _ _ h
 rw [if_neg h17] at h
 by_cases h18:e.op=18
 ·rw [if_pos h18] at h; exact ord _ _ _ h
 rw [if_neg h18] at h
 by_cases h23:e.op=23
 ·rw [if_pos h23] at h
  exact TT hl (fun i hi s' h=>LP hi h) h
 rw [if_neg h23] at h
 cases h; exact .rfl' _
theorem Y8 (vars:List Vr) : ∀ (xs:List Ex) (s s':NS),s.1.length=vars.length→U2 vars xs s=some s'→Ste s s'
 | [],s,s',_,h=>by cases h; exact .rfl' _
 | x :: xs,s,s',hl,h=>by
   have h:(SK vars x s).bind (U2 vars xs)=some s':=h
   exact QN h (fun t ht=>AOW vars x s t hl ht) (fun t _ st ht=>Y8 vars xs t s' (by rw [st.len]; exact hl) ht)
def AKJ (vars:List Vr) (hard:List Ex) (l:List Rng):Bool:=hard.any fun e=>isF (evS vars l e)
def QI (vars:List Vr) (hard:List Ex) (s:NS):Option NS:=(U2 vars hard (s.1,false)).bind fun s'=>if AKJ vars hard s'.1=true then none else some s'
def NU (vars:List Vr) (hard:List Ex):Nat→NS→Option NS
 | 0,s=>if s.2=true then none else some s
 | n+1,s=>if s.2=true then (QI vars hard s).bind (NU vars hard n) else some s
def WV:List Ds→NS→Option NS
 | []=>fun s=>some s
 | d :: ds=>fun s=>(UQ s d).bind (WV ds)
def P8 (p:Pr) (l:List Rng):Option NS:=(WV p.dists (l,false)).bind fun s=>NU p.vars p.hard (wid s.1+1) (s.1,true)
theorem AOH {vars:List Vr} {hard:List Ex} {s s':NS} (hl:s.1.length=vars.length) (h:QI vars hard s=some s'):Ste (s.1,false) s':=by
 unfold QI at h
 cases hx:U2 vars hard (s.1,false) with
 | none=>rw [hx] at h; cases h
 | some t =>
   rw [hx] at h
   have h:(if AKJ vars hard t.1=true then none else some t)=some s':=h
   split at h
   ·cases h
   ·cases h; exact Y8 vars hard _ _ hl hx
theorem ZY {vars:List Vr} : ∀ (ds:List Ds),(∀ d∈ds,LC vars d.var=true)→∀ (s s':NS),s.1.length=vars.length→WV ds s=some s'→Ste s s'
 | [],_,s,s',_,h=>by cases h; exact .rfl' _
 | d :: ds,hv,s,s',hl,h=>by
   have h:(UQ s d).bind (WV ds)=some s':=h
   obtain ⟨i,hi,he,_⟩:=OO (hv d (by simp))
   exact QN h (fun t ht=>LP (by rw [he,hl]; simpa using hi) ht) (fun t _ st ht=>ZY ds (fun x hx=>hv x (by simp [hx])) t s' (by rw [st.len]; exact hl) ht)
end Go.Proofs.YtokehnfjjmpanaaGreatDoor.Bd
