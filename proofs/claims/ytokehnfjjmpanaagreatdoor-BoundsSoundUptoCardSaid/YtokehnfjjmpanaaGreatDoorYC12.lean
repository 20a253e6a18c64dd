/- Part 12 of the proof (W8, W9, Wa, Wb, Wc, Wd, We, Wf); no condition. -/
import Derived.Test.YtokehnfjjmpanaaGreatDoorYC11
set_option linter.unusedVariables false
set_option linter.unusedSimpArgs false
set_option maxRecDepth 8000
namespace Go.Proofs.YtokehnfjjmpanaaGreatDoor.Bd
open Sm Bins Cov Xe Wd Go.RowKit
open Bool renaming not_false→jC,eq_iff_iff→qG,or_false→jO
open Int renaming toNat_natCast→zG,le_refl→zJ,eq_ofNat_of_zero_le→zI
open List renaming replicate→qJ,length_map→jM,take_zero→zM,drop_eq_nil_of_le→qF,take_succ_eq_append_getElem→zT,getElem?_set_ne→zS,getElem_mem→jQ,length_take→zV,map_cons→jF,map_nil→jD,append_nil→jE,mem_cons_of_mem→qN,take_of_length_le→jX,getD_eq_getElem?_getD→zD,getElem?_eq_getElem→jU,getElem?_map→zB,contains_cons→jP,contains_nil→jR,getElem?_cons_succ→zC,getElem?_cons_zero→jZ,length_set→qM,take_succ_cons→qO,nil_append→zK,cons_append→zU,drop_eq_getElem_cons→qC
open Nat renaming le_refl→jL,le_of_ble_eq_true→jH,reduceEqDiff→jB,zero_add→jG,add_zero→jI,reduceAdd→jK,reduceBEq→jS
open Option renaming getD_some→jA,getD_none→jJ,map_some→qU
theorem AAV {e:Ex} (h:I4 e=0):1≤e.op∧e.op≤25∧(e.op=4∨e.op=5∨e.op=6∨e.op=25→e.args.length=1)∧(e.op=22→e.args.length=3)∧(e.op=23→e.args.length % 2=1∧3≤e.args.length)∧(7≤e.op→e.op≤21→e.args.length=2):=by
 have hO:TW e=false:=by
  unfold I4 at h
  cases hb:TW e
  ·rfl
  ·rw [hb] at h; simp at h
 have hN:ACR e=false:=by
  unfold I4 at h
  cases hb:ACR e
  ·rfl
  ·rw [hO,hb] at h; simp at h
 have hS:ZA e=false:=by
  unfold I4 at h
  cases hb:ZA e
  ·rfl
  ·rw [hO,hN,hb] at h; simp at h
 have hops:VP e.op e.args.length=true:=by
  unfold ZA at hS
  rw [Bool.or_eq_false_iff] at hS
  simpa using hS.2
 have h1:1≤e.op∧e.op≤25:=by unfold TW at hO; simp at hO; omega
 have har:e.op≠23→((e.args.length:Nat):Int)=arity e.op:=fun n23=>by
  unfold VP at hops
  rw [if_neg (by simpa using n23)] at hops
  simpa using hops
 refine ⟨h1.1,h1.2,fun q => ?_,fun q => ?_,fun q => ?_,fun q1 q2 => ?_⟩
 ·have:=har (by omega)
  unfold arity at this
  rw [if_neg (by omega),if_neg (by omega),if_pos (by omega)] at this
  omega
 ·have:=har (by omega)
  rw [q] at this
  simp [arity] at this; omega
 ·unfold VP at hops; rw [q] at hops; simp at hops; omega
 ·have:=har (by omega)
  unfold arity at this
  rw [if_neg (by omega),if_neg (by omega),if_neg (by omega),if_neg (by omega),if_neg (by omega)] at this
  omega
def arR (vs:List Rng) (n:Nat):List (List AV):=vs.map encR ++ qJ (n - vs.length) zR
theorem ARI (n:Nat):arR [] n=qJ n zR:=by simp [arR]
theorem ARJ {vs:List Rng} {n:Nat} (h:vs.length=n):arR vs n=vs.map encR:=by simp [arR,h]
theorem AT9 {vs:List Rng} {n:Nat} (h:vs.length < n) (r:Rng):(arR vs n).set vs.length (encR r)=arR (vs ++ [r]) n:=by
 unfold arR
 rw [List.set_append_right _ _ (by simp)]
 simp only [jM,Nat.sub_self]
 obtain ⟨m,hm⟩ : ∃ m,n - vs.length=m+1:=⟨n - vs.length - 1,by omega⟩
 rw [hm,List.replicate_succ,List.set_cons_zero]
 have:n - (vs ++ [r]).length=m:=by simp; omega
 rw [this]; simp
theorem AXE {vs:List Rng} {n:Nat} (h:vs.length < n):(arR vs n)[vs.length]? = some zR:=by
 unfold arR
 rw [List.getElem?_append_right (by simp),jM,Nat.sub_self,List.getElem?_replicate,if_pos (by omega)]
theorem A1E (h:Hp) (n:Nat) (hn:n≤1048576):I9 Tryz.prog true h 29 (.int .i64 (n:Int)) (.int .i64 (n:Int))=some (.own h.length 0 n,h ++ [.live 2 (arR [] n)]):=by
 have hz:MR Tryz.prog 34=some zR:=by kernel_rfl
 have hr:room n 16:=OZ (by omega) (by omega)
 unfold I9
 simp only [AOM,TY,AW5,hz,zG]
 rw [if_pos ⟨by omega,zJ _,hr,rfl⟩,ARI]; rfl
theorem AK5 {H:Hp} {b i:Nat} {xs:List (List AV)} {row:List AV} (r:Rng) (hb:H[b]? = some (.live 2 xs)) (hi:xs[i]? = some row) (hr:row.length=2):F7 Tryz.prog H 34 (.ptr b i 0) (.agg (encR r))=some (H.set b (.live 2 (xs.set i (encR r)))):=by
 rw [JG (cs:=encR r) (TK rfl) TY hb hi (by rw [hr]; exact jL 2)]
 have:splice row 0 (encR r)=encR r:=by unfold splice; rw [zM,qF (by rw [hr]; exact jL 2)]; simp
 rw [this]
theorem A00 {H:Hp} {b n:Nat} {xs:List (List AV)} (hb:H[b]? = some (.live 2 xs)) (h1:1≤n):KG Tryz.prog H 29 (.own b 0 n) (some (.int .i64 1)) none none=some (.own b 1 (n - 1)):=by
 unfold KG
 simp only [AOM,hb,TY,JL]
 simp [h1]
theorem AVU {H:Hp} {b:Nat} {vs:List Rng} {n:Nat} (r:Rng) (hb:H[b]? = some (.live 2 (arR vs n))) (h:vs.length < n):F7 Tryz.prog H 34 (.ptr b vs.length 0) (.agg (encR r))=some (H.set b (.live 2 (arR (vs ++ [r]) n))):=by
 rw [AK5 r hb (AXE h) rfl,AT9 h]
theorem ANI (p:List Vr) (l:List Rng) (xs:List Ex) (j:Nat) (hj:j < xs.length):RZ p l (xs.take (j+1))=RZ p l (xs.take j) ++ [evS p l xs[j]]:=by
 rw [MN,MN,zT hj,List.map_append]; rfl
structure Lp (h H:Hp) (eb bz ob:Nat) (e:Ex) (rows:List (List AV)):Prop where
 ge:H[eb]? = some (ABlk.live 4 [CW e])
 gz:H[bz]? = some (ABlk.live 2 [zR])
 go:H[ob]? = some (ABlk.live 2 rows)
 hx:Sm.ext h H
 hz:h.length≤bz
 ho:h.length≤ob
 n1:eb≠ob
 n2:bz≠ob
theorem Lp.app {h H:Hp} {eb bz ob:Nat} {e:Ex} {rows:List (List AV)} (q:Lp h H eb bz ob e rows) (x:ABlk):Lp h (H ++ [x]) eb bz ob e rows :=
 ⟨CX q.ge,CX q.gz,CX q.go,q.hx.app _,q.hz,q.ho,q.n1,q.n2⟩
theorem Lp.put {h H:Hp} {eb bz ob:Nat} {e:Ex} {rows:List (List AV)} (q:Lp h H eb bz ob e rows) (rows':List (List AV)):Lp h (H.set ob (.live 2 rows')) eb bz ob e rows' :=
 ⟨by rw [zS (Ne.symm q.n1)]; exact q.ge,by rw [zS (Ne.symm q.n2)]; exact q.gz,G7 q.go,q.hx.set q.ho _,q.hz,q.ho,q.n1,q.n2⟩
theorem Lp.z {h H:Hp} {eb bz ob:Nat} {e:Ex} {rows:List (List AV)} (q:Lp h H eb bz ob e rows):Z0 h H bz:=⟨q.gz,q.hx,q.hz⟩
section
variable (G:Nat→AV)
set_option maxHeartbeats 4000000 in
theorem AD2 (vars:List Vr) (l:List Rng) (hl:l.length=vars.length) (hw : ∀ r∈l,wfR r) (vb:Nat) (e:Ex):(pre e).length≤1048576→(∀ x∈pre e,I4 x=0)→∀ h:Hp,EvO h vb vars l→PCall (En G) 49 [.ptr vb 0 0,.agg (CW e)] h (.agg (encR (evS vars l e))):=by
 induction e using Ex.induct with | h e ih => ?_
 intro hwt hval h hev
 have hpl:=congrArg List.length (pre_eq e)
 rw [List.length_cons] at hpl
 have hal:e.args.length≤1048576:=by have:=UF e.args; omega
 have hnode:=hval e (by rw [pre_eq]; simp)
 obtain ⟨a1,a25,ar1,ar3,arI,ar2⟩:=AAV hnode
 have hn1:=(UG hnode).1
 refine LU 2 (fun n H=>rfl) ?_
 refine acN Tryz.func49 rfl ?_
 show awp _ _ _ _ _ (EE _ [.cell 4 34] _)
 have q:Lp h (h ++ [ABlk.live 4 [CW e]] ++ [ABlk.live 2 [zR]] ++ [ABlk.live 2 (arR [] e.args.length)]) h.length (h ++ [ABlk.live 4 [CW e]]).length (h ++ [ABlk.live 4 [CW e]] ++ [ABlk.live 2 [zR]]).length e (arR [] e.args.length) :=
  ⟨CX (CX (C9 _ _)),CX (C9 _ _),C9 _ _,(((ext.rfl' h).app _).app _).app _,by simp,by simp,by simp,by simp⟩
 have g3:=CX (x:=ABlk.live 2 [zR]) (C9 h (ABlk.live 4 [CW e]))
 have l3:DL Tryz.prog (h ++ [ABlk.live 4 [CW e]] ++ [ABlk.live 2 [zR]]) 23 (.ptr h.length 0 3)=some (.sl e.m 4 (e.args.map CW)):=by rw [DC QU g3 (row:=CW e) rfl,SB]
 simp -implicitDefEqProofs only [BC,A8,A7,AZ,BA,AC,AQ,AO,BD,AX,AL,AA,AY,BB,EZ,FN,BP,QV,BI,E5,BZ,AB,BF,BQ,↓reduceIte,jB,jG,jA,jC,enP,TT,JW,bxE,OU,l3,jM,A1E _ _ hal]
 generalize h ++ [ABlk.live 4 [CW e]] ++ [ABlk.live 2 [zR]] ++ [ABlk.live 2 (arR [] e.args.length)]=H1 at q ⊢
 generalize (h ++ [ABlk.live 4 [CW e]] ++ [ABlk.live 2 [zR]]).length=ob at q ⊢
 generalize (h ++ [ABlk.live 4 [CW e]]).length=bz at q ⊢
 generalize h.length=eb at q ⊢
 have l3:DL Tryz.prog H1 23 (.ptr eb 0 3)=some (.sl e.m 4 (e.args.map CW)):=by rw [DC QU q.ge (row:=CW e) rfl,SB]
 simp -implicitDefEqProofs only [CB,A7,AZ,BA,AC,AQ,AO,BD,AX,AL,AA,AY,AU,BG,BH,E5,AB,↓reduceIte,jA,jC,enP,TT,l3,jM]
 refine D7 (fun n F H => ∃ j,n+j=e.args.length∧F 0 = .ptr vb 0 0∧F 3 = .ptr eb 0 0∧F 4 = .ptr bz 0 0∧F 5 = .own ob 0 e.args.length∧F 14 = .sl e.m 4 (e.args.map CW)∧F 15 = .int .i64 (e.args.length:Nat)∧F 16 = .int .i64 (j:Nat)∧Lp h H eb bz ob e (arR (RZ vars l (e.args.take j)) e.args.length)) e.args.length
  ⟨0,by simp,by simp -implicitDefEqProofs only [AA,BF,↓reduceIte,jB],by simp -implicitDefEqProofs only [AA,↓reduceIte,jB],by simp -implicitDefEqProofs only [AA,↓reduceIte,jB],by simp -implicitDefEqProofs only [AA,↓reduceIte,jB],by simp -implicitDefEqProofs only [AA,↓reduceIte,jB],by simp -implicitDefEqProofs only [AA,↓reduceIte,jB],by simp -implicitDefEqProofs only [AA,↓reduceIte]; rfl,q⟩ ?_
 clear q l3
 rintro n F H ⟨j,hj,f0,f3,f4,f5,f14,f15,f16,q⟩
 simp -implicitDefEqProofs only [BC,A8,BJ,A7,AZ,BA,AC,AQ,AO,BD,AX,AL,AA,AY,BU,AB,DF,↓reduceIte,jA,jC,enP,f15,f16]
 refine CV (fun hc => ?_) (fun hc => ?_)
 ·have hj':j < e.args.length:=by simpa using hc
  have hmem:e.args[j]∈e.args:=jQ hj'
  have hpm:=O3 hmem
  have hlen:(RZ vars l (e.args.take j)).length=j:=by rw [UQ,zV]; omega
  have q2:=q.app (ABlk.live 4 [CW e.args[j]])
  have hst:=AVU (evS vars l e.args[j]) q2.go (by rw [hlen]; exact hj')
  rw [hlen,← ANI vars l e.args j hj'] at hst
  have i1:JM 2 (H ++ [ABlk.live 4 [CW e.args[j]]]) (.own ob 0 e.args.length) (.int .i64 (j:Nat))=some (.ptr ob (0+j) 0):=J9 q2.go hj'
  rw [jG] at i1
  simp -implicitDefEqProofs only [BC,CB,A8,BR,A7,AZ,BA,AC,AQ,AO,BD,AX,AL,DZ,AA,AY,BO,BH,BB,EZ,BP,CZ,CQ,BV,BN,BZ,AB,CE,jF,jD,jE,↓reduceIte,jB,jA,jC,enP,P9,jJ,f14,f16,EF hj',EO MK J4 EN hj',AF1,AGQ _ _ [.int .i64 0,.int .i64 0,.str ⟨#[]⟩,.sl .nil 0 []] rfl,f0,f5,ldE]
  refine (ih e.args[j] hmem (by omega) (fun x hx=>hval x (by rw [pre_eq]; exact qN _ (LG hmem x hx))) _ (hev.ext q2.hx)).use ?_
  simp -implicitDefEqProofs only [A8,A7,EK,FI,AZ,BA,AC,AQ,AO,BD,AX,AL,DZ,AA,AY,AU,BG,BH,CZ,BU,CQ,AB,CE,DY,↓reduceIte,jB,jA,jC,enP,QS,jJ,i1,hst,f16,wrap_succ (show j < 9223372036854775807 by omega)]
  exact ⟨n - 1,by omega,j+1,by omega,by trivial,by trivial,by trivial,by trivial,by trivial,by trivial,by trivial,q2.put _⟩
 have hj' : ¬ j < e.args.length:=by simpa using hc
 rw [jX (by omega),ARJ (UQ vars l e.args)] at q
 generalize hvs:RZ vars l e.args=vs at q
 have hvl:vs.length=e.args.length:=by rw [← hvs,UQ]
 have hwf : ∀ r∈vs,wfR r:=by
  intro r hr
  rw [← hvs,MN] at hr
  obtain ⟨a,ha,rfl⟩:=List.mem_map.1 hr
  exact AOE vars hw a fun x hx=>hval x (by rw [pre_eq]; exact qN _ (LG ha x hx))
 have hes:evS vars l e=evO vars l e.op e.n e.name vs:=by rw [AJX,hvs]
 have ix : ∀ k:Nat,k < vs.length→JM 2 H (.own ob 0 e.args.length) (.int .i64 (k:Nat))=some (.ptr ob k 0):=fun k hk=>by
  have:=J9 (kk := .i64) (off:=0) (n:=k) (len:=e.args.length) q.go (by omega)
  rw [jG] at this; exact this
 have ld : ∀ k:Nat,∀ hk:k < vs.length,DL Tryz.prog H 34 (.ptr ob k 0)=some (.agg (encR (vs.getD k IP))):=fun k hk=>by
  rw [ABS q.go hk,zD,jU hk]; rfl
 have w0:=UY hwf 0
 have w1:=UY hwf 1
 have l0:DL Tryz.prog H 3 (.ptr eb 0 0)=some (.int .i64 e.op):=by rw [DC ag3 q.ge (row:=CW e) rfl,JE]
 have l1:DL Tryz.prog H 3 (.ptr eb 0 1)=some (.int .i64 e.n):=by rw [DC ag3 q.ge (row:=CW e) rfl,X8]
 have lE:=IR q.ge
 have fin : ∀ {F:Fr} {r:Rng},F 4 = .ptr bz 0 0→r=evO vars l e.op e.n e.name vs→EE Tryz.prog [.cell 4 34] (fun v H=>v = .agg (encR (evS vars l e))∧Sm.ext h H) .ret F (H.set bz (.live 2 [encR r])):=fun hF hr=>q.z.out hF (by rw [hr,hes])
 simp -implicitDefEqProofs only [BC,CB,A8,D6,BJ,A7,EU,FT,FX,AZ,BA,AC,AQ,AO,BD,AX,AL,AA,AY,AU,BG,BB,BP,BU,BI,AB,DJ,↓reduceIte,jB,jI,jA,jC,enP,GU,f3,l0]
 by_cases h1:e.op=1
 ·have c1:(e.op == 1)=true:=by simpa using h1
  simp -implicitDefEqProofs only [BC,A8,DR,AZ,AC,AQ,AO,BD,AX,AL,AA,AY,BO,BP,BI,BV,BN,AB,jF,jD,jE,↓reduceIte,jB,jG,jA,jC,enP,Y0,c1,f3,l1]
  refine (O4 G _ _).use ?_
  simp -implicitDefEqProofs only [BK,A7,CJ,D5,AZ,BA,AC,AQ,AO,BD,AX,AL,DZ,AA,AY,CZ,CE,↓reduceIte,jB,jC,enP,jJ,f4,q.z.st]
  exact fin (by simp -implicitDefEqProofs only [AA,↓reduceIte,jB,f4]) (by unfold evO; rw [if_pos h1])
 have c1:(e.op == 1)=false:=by simpa using h1
 by_cases h2:e.op=2
 ·have c2:(e.op == 2)=true:=by simpa using h2
  simp -implicitDefEqProofs only [BC,A8,BJ,A7,DR,DX,AZ,BA,AC,AQ,AO,BD,AX,AL,AA,AY,AU,BO,BG,BH,BB,BP,BU,BV,BN,AB,DJ,jF,jD,jE,↓reduceIte,jB,jA,jC,enP,c1,c2,f0,f3,lE]
  refine (O1 G vars l vb e H (hev.ext q.hx)).use ?_
  rw [if_pos h2]
  simp -implicitDefEqProofs only [BC,A8,BJ,A7,AZ,BA,AC,AQ,AO,BD,AX,AL,AA,AY,AU,BG,BH,BB,BU,AB,FQ,↓reduceIte,jA,jC,enP]
  have hr:=QD (JH e.name) vars
  refine CV (fun hp => ?_) (fun hp => ?_)
  ·have hp:0≤plc vars e.name:=by simpa using hp
   obtain ⟨i,hi⟩:=zI hp
   have hil:i < l.length:=by unfold plc at hi; omega
   obtain ⟨mb,L,k,tl,ents,g1,g2,g3,g4⟩:=(hev.ext q.hx).ex
   obtain ⟨qp,s1,s2,_⟩:=g4.at' hil
   have l29:DL Tryz.prog H 29 (.ptr vb 0 1)=some L:=by rw [DC (by kernel_rfl) g1 (row := .mp mb :: L :: tl) rfl]; rfl
   simp -implicitDefEqProofs only [BC,A8,BK,A7,CJ,D5,AZ,BA,AC,AQ,AO,BD,AX,AL,DZ,AA,AY,BH,BP,CZ,BI,CQ,AB,CE,↓reduceIte,jB,jG,jA,jC,enP,QS,YY,jJ,ER,FK,f0,hi,l29,s1,s2,f4,q.z.st]
   refine fin (by simp -implicitDefEqProofs only [AA,↓reduceIte,jB,f4]) ?_
   unfold evO AOI
   rw [if_neg h1,if_pos h2,if_pos hp,hi,zG,zD,jU hil]; rfl
  ·have hp : ¬ 0≤plc vars e.name:=by simpa using hp
   simp -implicitDefEqProofs only [BC,A8,BR,A7,AZ,AC,AQ,AO,BD,AX,BO,BV,BN,jD,jE,jA,jC]
   refine (MQ G _).use ?_
   simp -implicitDefEqProofs only [BK,A7,CJ,D5,AZ,BA,AC,AQ,AO,BD,AX,AL,DZ,AA,AY,CZ,CE,↓reduceIte,jB,jC,enP,jJ,f4,q.z.st]
   exact fin (by simp -implicitDefEqProofs only [AA,↓reduceIte,jB,f4]) (by unfold evO AOI; rw [if_neg h1,if_pos h2,if_neg hp])
 have c2:(e.op == 2)=false:=by simpa using h2
 by_cases h3:e.op=3
 ·have c3:(e.op == 3)=true:=by simpa using h3
  simp -implicitDefEqProofs only [BC,A8,BR,BJ,A7,DR,DX,AZ,BA,AC,AQ,AO,BD,AX,AL,AA,AY,AU,BO,BG,BB,BU,BV,BN,AB,DJ,jD,jE,↓reduceIte,jB,jA,jC,enP,c1,c2,c3]
  refine (MQ G _).use ?_
  simp -implicitDefEqProofs only [BK,A7,CJ,D5,AZ,BA,AC,AQ,AO,BD,AX,AL,DZ,AA,AY,CZ,CE,↓reduceIte,jB,jC,enP,jJ,f4,q.z.st]
  exact fin (by simp -implicitDefEqProofs only [AA,↓reduceIte,jB,f4]) (by unfold evO; rw [if_neg h1,if_neg h2,if_pos (.inl h3)])
 have c3:(e.op == 3)=false:=by simpa using h3
 by_cases h24:e.op=24
 ·have c24:(e.op == 24)=true:=by simpa using h24
  simp -implicitDefEqProofs only [BC,A8,BJ,A7,DR,DX,AZ,BA,AC,AQ,AO,BD,AX,AL,AA,AY,AU,BO,BG,BB,BU,BV,BN,AB,DJ,jD,jE,↓reduceIte,jB,jA,jC,enP,c1,c2,c3,c24]
  refine (MQ G _).use ?_
  simp -implicitDefEqProofs only [BK,A7,CJ,D5,AZ,BA,AC,AQ,AO,BD,AX,AL,DZ,AA,AY,CZ,CE,↓reduceIte,jB,jC,enP,jJ,f4,q.z.st]
  exact fin (by simp -implicitDefEqProofs only [AA,↓reduceIte,jB,f4]) (by unfold evO; rw [if_neg h1,if_neg h2,if_pos (.inr h24)])
 have c24:(e.op == 24)=false:=by simpa using h24
 have hO:evO vars l e.op e.n e.name vs=opR e.op vs:=by unfold evO; rw [if_neg h1,if_neg h2,if_neg (by omega)]
 rw [hO] at fin
 have len1:0 < vs.length:=by
  rcases (show (e.op=4∨e.op=5∨e.op=6∨e.op=25)∨e.op=22∨e.op=23∨(7≤e.op∧e.op≤21) by omega) with h | h | h | h
  ·have:=ar1 h; omega
  ·have:=ar3 h; omega
  ·have:=arI h; omega
  ·have:=ar2 h.1 h.2; omega
 have x0:JM 2 H (.own ob 0 e.args.length) (.int .i64 0)=some (.ptr ob 0 0):=ix 0 len1
 have d0:=ld 0 len1
 by_cases h4:e.op=4
 ·have c4:(e.op == 4)=true:=by simpa using h4
  simp -implicitDefEqProofs only [BC,A8,BJ,A7,DR,DX,AZ,BA,AC,AQ,AO,BD,AX,AL,AA,AY,AU,BG,BB,BU,AB,DJ,↓reduceIte,jB,jA,jC,enP,c1,c2,c3,c24,c4]
  refine EX (by kernel_rfl) ?_
  simp -implicitDefEqProofs only [FC,DV,CY,DW,EP,ED,GL,EQ,EW,EJ,AC,AA,AY,AU,BO,BG,BP,CZ,CQ,AB,jF,jD,jE,↓reduceIte,jB,jK,jG,jA,enP,QS,jJ,f5,x0,d0]
  refine ⟨_,JI G _ _,?_⟩
  try simp -implicitDefEqProofs only [f5,x0,d0]
  refine ⟨_,LX G _ _,?_⟩
  try simp -implicitDefEqProofs only []
  refine ⟨_,J3 G _ _ _,?_⟩
  simp -implicitDefEqProofs only [GN,EC,BK,A7,CJ,D5,CE,f4,q.z.st]
  exact fin (by simp -implicitDefEqProofs only [AA,↓reduceIte,jB,f4]) (by unfold opR; rw [if_pos h4])
 have c4:(e.op == 4)=false:=by simpa using h4
 by_cases h5:e.op=5
 ·have c5:(e.op == 5)=true:=by simpa using h5
  have dl:DL Tryz.prog H 3 (.ptr ob 0 0)=some (.int .i64 (vs.getD 0 IP).lo):=by
   rw [DC ag3 q.go (row:=encR (vs.getD 0 IP)) (by rw [zB,zD,jU len1]; rfl)]; rfl
  have dh:DL Tryz.prog H 3 (.ptr ob 0 1)=some (.int .i64 (vs.getD 0 IP).hi):=by
   rw [DC ag3 q.go (row:=encR (vs.getD 0 IP)) (by rw [zB,zD,jU len1]; rfl)]; rfl
  obtain ⟨v0,v1,v2⟩:=w0
  simp -implicitDefEqProofs only [BC,A8,BJ,A7,DR,DX,AZ,BA,AC,AQ,AO,BD,AX,AL,AA,AY,AU,BG,BB,BU,AB,DJ,↓reduceIte,jB,jA,jC,enP,c1,c2,c3,c24,c4,c5]
  refine EX (by kernel_rfl) ?_
  simp -implicitDefEqProofs only [FC,FB,ES,DV,CY,GN,EC,DW,EP,NJ,ED,GL,IJ,DN,EQ,BK,A7,CJ,D5,AC,AA,AY,AU,BG,FZ,BP,CZ,BU,BI,CQ,AB,CE,IZ,↓reduceIte,jB,jK,jI,jG,jA,enP,QS,GI,GR,jJ,f5,x0,dl,dh,wrap_i64 (n:=65535 - (vs.getD 0 IP).hi) (by omega) (by omega),wrap_i64 (n:=65535 - (vs.getD 0 IP).lo) (by omega) (by omega),PW,f4,q.z.st]
  exact fin (by simp -implicitDefEqProofs only [AA,↓reduceIte,jB,f4]) (by unfold opR; rw [if_neg h4,if_pos h5])
 have c5:(e.op == 5)=false:=by simpa using h5
 by_cases h6:e.op=6
 ·have c6:(e.op == 6)=true:=by simpa using h6
  simp -implicitDefEqProofs only [BC,A8,BJ,A7,DR,DX,AZ,BA,AC,AQ,AO,BD,AX,AL,AA,AY,AU,BO,BG,BH,BB,BP,BU,CQ,BV,BN,AB,DJ,jF,jD,jE,↓reduceIte,jB,jA,jC,enP,QS,c1,c2,c3,c24,c4,c5,c6,f5,x0,d0]
  refine (APE G _ w0 _).use ?_
  simp -implicitDefEqProofs only [BK,A7,CJ,D5,AZ,BA,AC,AQ,AO,BD,AX,AL,DZ,AA,AY,CZ,CE,↓reduceIte,jB,jC,enP,jJ,f4,q.z.st]
  exact fin (by simp -implicitDefEqProofs only [AA,↓reduceIte,jB,f4]) (by unfold opR; rw [if_neg h4,if_neg h5,if_pos h6])
 have c6:(e.op == 6)=false:=by simpa using h6
 by_cases h25:e.op=25
 ·have c25:(e.op == 25)=true:=by simpa using h25
  simp -implicitDefEqProofs only [BC,A8,BJ,A7,DR,DX,AZ,BA,AC,AQ,AO,BD,AX,AL,AA,AY,AU,BO,BG,BH,BB,BP,BU,CQ,BV,BN,AB,DJ,jF,jD,jE,↓reduceIte,jB,jA,jC,enP,QS,c1,c2,c3,c24,c4,c5,c6,c25,f5,x0,d0]
  refine (AMT G _ w0 _).use ?_
  simp -implicitDefEqProofs only [BK,A7,CJ,D5,AZ,BA,AC,AQ,AO,BD,AX,AL,DZ,AA,AY,CZ,CE,↓reduceIte,jB,jC,enP,jJ,f4,q.z.st]
  exact fin (by simp -implicitDefEqProofs only [AA,↓reduceIte,jB,f4]) (by unfold opR; rw [if_neg h4,if_neg h5,if_neg h6,if_pos h25])
 have c25:(e.op == 25)=false:=by simpa using h25
 by_cases h22:e.op=22
 ·have c22:(e.op == 22)=true:=by simpa using h22
  have hv3:vs.length=3:=by rw [hvl,ar3 h22]
  have x1:JM 2 H (.own ob 0 e.args.length) (.int .i64 1)=some (.ptr ob 1 0):=ix 1 (by omega)
  have x2:JM 2 H (.own ob 0 e.args.length) (.int .i64 2)=some (.ptr ob 2 0):=ix 2 (by omega)
  simp -implicitDefEqProofs only [BC,A8,BJ,A7,DR,DX,AZ,BA,AC,AQ,AO,BD,AX,AL,AA,AY,AU,BG,BB,BU,AB,DJ,↓reduceIte,jB,jA,jC,enP,c1,c2,c3,c24,c4,c5,c6,c25,c22]
  refine EX (by kernel_rfl) ?_
  simp -implicitDefEqProofs only [FC,DV,CY,DW,EP,ED,GL,EQ,EW,EJ,AC,AA,AY,AU,BO,BG,BP,CZ,CQ,AB,jF,jD,jE,↓reduceIte,jB,jK,jG,jA,enP,QS,jJ,f5,x0,d0,x1,ld 1 (by omega),x2,ld 2 (by omega)]
  refine ⟨_,AQY G _ _ _ _,?_⟩
  simp -implicitDefEqProofs only [GN,EC,BK,A7,CJ,D5,CE,f4,q.z.st]
  exact fin (by simp -implicitDefEqProofs only [AA,↓reduceIte,jB,f4]) (by unfold opR; rw [if_neg h4,if_neg h5,if_neg h6,if_neg h25,if_pos h22])
 have c22:(e.op == 22)=false:=by simpa using h22
 by_cases h23:e.op=23
 ·have c23:(e.op == 23)=true:=by simpa using h23
  simp -implicitDefEqProofs only [BC,A8,BJ,A7,DR,DX,AZ,BA,AC,AQ,AO,BD,AX,AL,AA,AY,AU,BG,BB,BU,AB,DJ,↓reduceIte,jB,jA,jC,enP,c1,c2,c3,c24,c4,c5,c6,c25,c22,c23]
  refine EX (by kernel_rfl) ?_
  simp -implicitDefEqProofs only [FC,qU,Option.map_none,DV,CY,DW,EP,ED,GL,XA,EQ,EW,EJ,AC,AA,AY,AU,BO,BG,BP,CZ,NK,CQ,AB,jF,jD,jE,↓reduceIte,jB,jK,jG,jA,enP,QS,jJ,f5,x0,d0,A00 q.go (show 1≤e.args.length by omega)]
  have hins:=APX G (vs.getD 0 IP) vs ob H q.go (by omega) (by omega)
  rw [hvl] at hins
  refine ⟨_,hins,?_⟩
  simp -implicitDefEqProofs only [GN,EC,BK,A7,CJ,D5,CE,f4,q.z.st]
  exact fin (by simp -implicitDefEqProofs only [AA,↓reduceIte,jB,f4]) (by unfold opR; rw [if_neg h4,if_neg h5,if_neg h6,if_neg h25,if_neg h22,if_pos h23])
 have c23:(e.op == 23)=false:=by simpa using h23
 have hop:7≤e.op∧e.op≤21:=by omega
 have hv2:vs.length=2:=by rw [hvl,ar2 hop.1 hop.2]
 have x1:JM 2 H (.own ob 0 e.args.length) (.int .i64 1)=some (.ptr ob 1 0):=ix 1 (by omega)
 simp -implicitDefEqProofs only [BC,A8,BR,BJ,A7,EK,DX,AZ,BA,AC,AQ,AO,BD,AX,AL,AA,AY,AU,BG,BB,BU,AB,DJ,↓reduceIte,jB,jA,jC,enP,c1,c2,c3,c24,c4,c5,c6,c25,c22,c23]
 refine EX (by kernel_rfl) ?_
 simp -implicitDefEqProofs only [FC,DV,CY,DW,EP,ED,GL,DN,EQ,EW,EJ,AC,AA,AY,AU,BO,BG,BP,CZ,BI,CQ,AB,jF,jD,jE,↓reduceIte,jB,jK,jI,jG,jA,enP,QS,GU,jJ,f3,l0,f5,x0,d0,x1,ld 1 (by omega)]
 refine ⟨_,AQ9 G e.op _ _ w0 w1 hop _,?_⟩
 simp -implicitDefEqProofs only [GN,EC,BK,A7,CE,f4,q.z.st]
 exact fin (by simp -implicitDefEqProofs only [AA,↓reduceIte,jB,f4]) (by unfold opR; rw [if_neg h4,if_neg h5,if_neg h6,if_neg h25,if_neg h22,if_neg h23])
end
theorem AU3:Frz encR:=fun _ _ _ _=>⟨rfl,rfl⟩
def TF (vars:List Vr) (l:List Rng):Bool:=l.all (fun r=>decide (wfR r)) && (l.length == vars.length)
theorem MH {vars:List Vr} {l:List Rng}:TF vars l=true↔(∀ r∈l,wfR r)∧l.length=vars.length:=by
 unfold TF
 rw [Bool.and_eq_true,List.all_eq_true]
 simp
theorem nwf {r:Rng} (h:(decide (r.lo < 0) || (decide (r.lo > r.hi) || decide (r.hi > 65535)))=true) : ¬ wfR r:=by
 intro q
 obtain ⟨a,b,c⟩:=q
 simp at h; omega
section
variable (G:Nat→AV)
theorem AHR (p:Pr) (_hs:PrS p) (l:List Rng) (m:SM) (hl:l.length≤1048576) (h:Hp):PCall (En G) 34 [.agg (D8 p),.sl m 2 (l.map encR)] h (.bool (TF p.vars l)):=by
 refine ACalls.pure0 rfl ?_
 refine acN Tryz.func34 rfl ?_
 show awp _ _ _ _ _ (EE _ [.tmp 4] _)
 have ge:=C9 h (ABlk.live 5 [D8 p])
 have hx:ext h (h ++ [ABlk.live 5 [D8 p]]):=(ext.rfl' h).app _
 simp -implicitDefEqProofs only [BC,CB,A8,A7,AZ,BA,AC,AQ,AO,BD,AX,AL,AA,AY,AU,BG,BM,BH,BB,FN,E5,BZ,AB,BF,BQ,↓reduceIte,jB,jA,jC,enP,ADA,VS,jM]
 generalize h ++ [ABlk.live 5 [D8 p]]=H0 at ge hx ⊢
 generalize h.length=eb at ge ⊢
 refine D7 (fun n F H => ∃ i,n+i=l.length∧F 1 = .sl m 2 (l.map encR)∧F 2 = .ptr eb 0 0∧F 7 = .sl m 2 (l.map encR)∧F 8 = .int .i64 (l.length:Nat)∧F 9 = .int .i64 (i:Nat)∧ext H0 H∧∀ r∈l.take i,wfR r) l.length ⟨0,by simp,by simp -implicitDefEqProofs only [AA,BF,BQ,↓reduceIte,jB],by simp -implicitDefEqProofs only [AA,↓reduceIte,jB],by simp -implicitDefEqProofs only [AA,↓reduceIte,jB],by simp -implicitDefEqProofs only [AA,↓reduceIte,jB],by simp -implicitDefEqProofs only [AA,↓reduceIte]; rfl,ext.rfl' _,by simp⟩ ?_
 rintro n F H ⟨i,hi,f1,f2,f7,f8,f9,hxH,hw⟩
 simp -implicitDefEqProofs only [BC,A8,BJ,A7,AZ,BA,AC,AQ,AO,BD,AX,AL,AA,AY,BU,AB,DF,↓reduceIte,jA,jC,enP,f8,f9]
 refine CV (fun hc => ?_) (fun hc => ?_)
 ·have hi':i < l.length:=by simpa using hc
  have hxx:=hx.trans hxH
  have g6:=C9 H (ABlk.live 2 [encR l[i]])
  simp -implicitDefEqProofs only [BC,CB,A8,BR,A7,AZ,BA,AC,AQ,AO,BD,AX,AL,DZ,AA,AY,EZ,BP,CZ,BI,CQ,BZ,AB,CE,↓reduceIte,jB,jI,jA,jC,enP,QS,GI,jJ,f7,f9,EF hi',EO AF2 TY O8 hi',OU,UA]
  have bad : ∀ q:(decide (l[i].lo < 0) || (decide (l[i].lo > l[i].hi) || decide (l[i].hi > 65535)))=true,TF p.vars l=false:=fun q=>by
   rw [← Bool.not_eq_true]
   exact fun h=>nwf q ((MH.1 h).1 _ (jQ hi'))
  have hx2:=hxx.app [ABlk.live 2 [encR l[i]]]
  have hx3:=hxH.app [ABlk.live 2 [encR l[i]]]
  generalize H ++ [ABlk.live 2 [encR l[i]]]=H1 at g6 hx2 hx3 ⊢
  generalize H.length=rb at g6 ⊢
  simp -implicitDefEqProofs only [AZ,BL,BX,CG,AC,AQ,AO,BD,AX,AL,AA,AY,AU,BG,BH,BU,AB,DF,↓reduceIte,jA,jC,enP,G5 g6,IA g6]
  refine IV (fun h1 => ?_) (fun h1 => ?_)
  ·simp -implicitDefEqProofs only [BC,A8,BK,BJ,A7,CJ,D5,FV,CU,DR,AZ,BA,BL,BX,CG,FY,AC,AQ,AO,BD,AX,AL,AA,EG,AY,AU,BM,BH,BB,CO,DK,↓reduceIte,jB,jA,jC,h1]
   exact ⟨by rw [bad (by rw [h1]; rfl)],hx2⟩
  simp -implicitDefEqProofs only [AZ,BL,BX,CG,EM,AC,AQ,AO,BD,AX,AL,AA,AY,AU,BM,BH,CO,DU,BP,BU,BI,AB,EY,↓reduceIte,jB,jI,jG,jA,jC,enP,GI,GR,h1,G5 g6,IA g6]
  refine IV (fun h2 => ?_) (fun h2 => ?_)
  ·simp -implicitDefEqProofs only [BC,A8,BK,BJ,A7,CJ,D5,FV,CU,DR,AZ,BA,BL,BX,CG,FY,AC,AQ,AO,BD,AX,AL,AA,EG,AY,AU,BM,BB,CO,DK,↓reduceIte,jB,jA,jC,h1,h2]
   exact ⟨by rw [bad (by rw [h2]; simp)],hx2⟩
  simp -implicitDefEqProofs only [BJ,A7,AZ,BA,BL,BX,CG,EM,AC,AQ,AO,BD,AX,AL,AA,AY,AU,BG,BM,CO,DU,BP,BU,BI,AB,EY,↓reduceIte,jB,jG,jA,jC,enP,GR,h1,h2,G5 g6,IA g6]
  refine CV (fun h3 => ?_) (fun h3 => ?_)
  ·simp -implicitDefEqProofs only [BC,A8,BK,A7,CJ,D5,FV,CU,AZ,BA,AC,AQ,AO,BD,AX,AL,AA,AU,BM,BB,↓reduceIte,jA,jC]
   exact ⟨by rw [bad (by rw [h3]; simp)],hx2⟩
  ·simp -implicitDefEqProofs only [A8,BR,A7,EK,FI,AZ,BA,AC,AQ,AO,BD,AX,AL,AA,AY,AU,BG,BH,BU,AB,DY,↓reduceIte,jB,jA,jC,enP,f9,wrap_succ (show i < 9223372036854775807 by omega)]
   refine ⟨n - 1,by omega,i+1,by omega,by trivial,by trivial,by trivial,by trivial,by trivial,hx3,fun r hr => ?_⟩
   rw [zT hi'] at hr
   rcases List.mem_append.1 hr with hr | hr
   ·exact hw r hr
   ·rw [List.mem_singleton] at hr
    subst hr
    simp at h1 h2 h3
    exact ⟨by omega,by omega,by omega⟩
 ·have hi' : ¬ i < l.length:=by simpa using hc
  rw [jX (by omega)] at hw
  have l0:DL Tryz.prog H 22 (.ptr eb 0 0)=some (.sl p.vm 4 (p.vars.map FM)):=by rw [DC UW (FP hxH ge) (row:=D8 p) rfl]; rfl
  simp -implicitDefEqProofs only [BC,A8,BK,D6,A7,EU,FT,FX,CU,AZ,BA,AC,AQ,AO,BD,AX,AL,AA,AY,BH,BB,BP,BU,BI,E5,AB,DJ,↓reduceIte,jB,jI,jA,jC,enP,QR,KZ,ADA,f1,f2,l0,jM]
  refine ⟨?_,hx.trans hxH⟩
  congr 1
  rw [qG,MH]
  simp
  constructor
  ·intro h; exact ⟨hw,by omega⟩
  ·intro h; omega
theorem AJI (w:Int) (h0:0≤w) (h1:w≤16) (h:Hp):PCall (En G) 31 [.int .i64 w] h (.int .i64 (2 ^ w.toNat - 1)):=by
 obtain ⟨n,rfl⟩:=zI h0
 refine acN Tryz.func31 rfl ?_
 show awp _ _ _ _ _ (EE _ [.tmp 2] _)
 have d1:decide (((n:Nat):Int) < 0)=false:=by rw [decide_eq_false_iff_not]; omega
 have d2:decide (((n:Nat):Int) > 16)=false:=by simp; omega
 have hp:=Nat.pow_le_pow_right (by decide:0 < 2) (show n≤16 by omega)
 have hp0:0 < 2 ^ n:=Nat.pow_pos (by decide)
 have e:((2 ^ n:Nat):Int)=(2:Int) ^ n:=by simp
 simp -implicitDefEqProofs only [BC,A8,BR,BK,BJ,A7,CU,DX,AZ,BA,BL,BX,CG,EM,AC,AQ,AO,BD,AX,AL,AA,AY,AU,BG,BM,BH,BB,CO,DU,BU,AB,IZ,DF,EY,BF,↓reduceIte,jB,jA,jC,enX,enP,d1,d2,AX9 n (by omega),wrap_i64 (n:=((2 ^ n:Nat):Int) - 1) (by omega) (by omega)]
 exact ⟨by rw [e,zG],trivial⟩
def stR (v:Vr):Rng:=if v.mode=0 then ⟨v.value,v.value⟩ else ⟨0,2 ^ v.width.toNat - 1⟩
def stL (p:Pr):List Rng:=if NM p≠0 then [] else p.vars.map stR
theorem ADK {p:Pr} (h:NM p=0):KD p.vars=0∧KA p.vars (p.hard ++ p.soft)=0∧NC p.vars p.dists=0∧gOK p.vars p.groups=true:=by
 unfold NM at h
 by_cases h1:KD p.vars≠0
 ·rw [if_pos h1] at h; exact absurd h h1
 rw [if_neg h1] at h
 by_cases h2:KA p.vars (p.hard ++ p.soft)≠0
 ·rw [if_pos h2] at h; exact absurd h h2
 rw [if_neg h2] at h
 by_cases h3:NC p.vars p.dists≠0
 ·rw [if_pos h3] at h; exact absurd h h3
 rw [if_neg h3] at h
 refine ⟨by simpa using h1,by simpa using h2,by simpa using h3,?_⟩
 cases hg:gOK p.vars p.groups
 ·rw [hg] at h; simp at h
 ·rfl
theorem AR4 {l:List Vr} (h:KD l=0):l.length≤16∧∀ v∈l,IX v.name=true∧LJ v=false:=by
 unfold KD at h
 by_cases h1:l.length > 16
 ·rw [if_pos h1] at h; cases h
 rw [if_neg h1] at h
 by_cases h2:OM vrE l≠0
 ·rw [if_pos h2] at h; exact absurd h h2
 refine ⟨by omega,fun v hv => ?_⟩
 have:=PZ (by simpa using h2) v hv
 unfold vrE at this
 cases hn:IX v.name
 ·rw [hn] at this; simp at this
 ·rw [hn] at this
  cases hb:LJ v
  ·exact ⟨rfl,rfl⟩
  ·rw [hb] at this; simp at this
theorem AVJ {v:Vr} (h:LJ v=false):1≤v.width∧v.width≤8∧0≤v.mode∧v.mode≤2∧0≤v.value∧v.value < 2 ^ v.width.toNat:=by
 unfold LJ at h
 simp only [Bool.or_eq_false_iff,decide_eq_false_iff_not] at h
 obtain ⟨⟨⟨⟨⟨⟨h1,h2⟩,h3⟩,h4⟩,h5⟩,h6⟩,_⟩:=h
 exact ⟨by omega,by omega,by omega,by omega,by omega,by omega⟩
theorem AZM (h:Hp) (r:Rng):FU Tryz.prog false h 29 1 [(0,.agg (encR r))]=some (.sl .full 2 [encR r],h):=by kernel_rfl
set_option maxHeartbeats 1000000 in
theorem AI2 (hG:GOk G) (p:Pr) (hs:PrS p) (h:Hp):PCall (En G) 11 [.agg (D8 p)] h (.sl (nm (stL p)) 2 ((stL p).map encR)):=by
 refine U7 AU3 ?_
 refine acN Tryz.func11 rfl ?_
 show awp _ _ _ _ _ (EE _ [.tmp 2] _)
 have ge:=C9 h (ABlk.live 5 [D8 p])
 have hx:ext h (h ++ [ABlk.live 5 [D8 p]]):=(ext.rfl' h).app _
 have lp:DL Tryz.prog (h ++ [ABlk.live 5 [D8 p]]) 27 (.ptr h.length 0 0)=some (.agg (D8 p)):=by rw [HY WX VL ge (row:=D8 p) rfl (by rw [GZ]; exact jL 5)]; rfl
 simp -implicitDefEqProofs only [BC,A8,A7,AZ,BA,AC,AQ,AO,BD,AX,AL,AA,AY,AU,BO,MC,BB,FN,BP,BV,BN,BZ,AB,BF,jF,jD,jE,↓reduceIte,jB,jA,jC,enP,VS,lp]
 generalize h ++ [ABlk.live 5 [D8 p]]=H0 at ge hx lp ⊢
 generalize h.length=eb at ge lp ⊢
 refine (WB G hG p hs H0).use ?_
 simp -implicitDefEqProofs only [BJ,A7,AZ,BA,AC,AQ,AO,BD,AX,AL,AA,AY,AU,BG,BU,AB,FD,↓reduceIte,jA,jC,enP]
 refine CV (fun hc => ?_) (fun hc => ?_)
 ·have hc:NM p≠0:=by simpa using hc
  simp -implicitDefEqProofs only [BC,A8,BK,A7,CJ,CU,AZ,BA,AC,AQ,AO,BD,AX,AL,AA,AU,MC,BB,↓reduceIte,jA,jC]
  have e:stL p = []:=by unfold stL; rw [if_pos hc]
  rw [e]
  exact ⟨hx,outG.nil _ _ _ _⟩
 have hc:NM p=0:=by simpa using hc
 have e:stL p=p.vars.map stR:=by unfold stL; rw [if_neg (by simpa using hc)]
 rw [e]
 obtain ⟨hlen,hvar⟩:=AR4 (ADK hc).1
 have l0:DL Tryz.prog H0 22 (.ptr eb 0 0)=some (.sl p.vm 4 (p.vars.map FM)):=by rw [DC UW ge (row:=D8 p) rfl]; rfl
 simp -implicitDefEqProofs only [BC,CB,A8,BR,A7,AZ,BA,AC,AQ,AO,BD,AX,AL,AA,AY,AU,BG,MC,BH,BB,BP,BI,E5,AB,↓reduceIte,jB,jI,jA,jC,enP,QR,KZ,l0,jM]
 refine D7 (fun n F H => ∃ i u,n+i=p.vars.length∧F 3=u∧F 10 = .sl p.vm 4 (p.vars.map FM)∧F 11 = .int .i64 (p.vars.length:Nat)∧F 12 = .int .i64 (i:Nat)∧ext H0 H∧outG 2 encR H0 ((p.vars.take i).map stR) u H) p.vars.length
  ⟨0,.sl .nil 0 [],by simp,by simp -implicitDefEqProofs only [AA,↓reduceIte,jB],by simp -implicitDefEqProofs only [AA,↓reduceIte,jB],by simp -implicitDefEqProofs only [AA,↓reduceIte,jB],by simp -implicitDefEqProofs only [AA,↓reduceIte]; rfl,ext.rfl' _,outG.nil _ _ _ _⟩ ?_
 rintro n F H ⟨i,u,hi,f3,f10,f11,f12,hxH,ho⟩
 simp -implicitDefEqProofs only [BC,A8,BJ,A7,AZ,BA,AC,AQ,AO,BD,AX,AL,AA,AY,BU,AB,DF,↓reduceIte,jA,jC,enP,f11,f12]
 refine CV (fun hc => ?_) (fun hc => ?_)
 ·have hi':i < p.vars.length:=by simpa using hc
  obtain ⟨_,hbad⟩:=hvar _ (jQ hi')
  obtain ⟨w1,w8,_⟩:=AVJ hbad
  have g5:=C9 H (ABlk.live 4 [FM p.vars[i]])
  have ho1:=ho.app [ABlk.live 4 [FM p.vars[i]]]
  have hx1:=hxH.app [ABlk.live 4 [FM p.vars[i]]]
  simp -implicitDefEqProofs only [BC,CB,A8,BR,A7,AZ,BA,AC,AQ,AO,BD,AX,AL,DZ,AA,AY,EZ,BP,CZ,BI,CQ,BZ,AB,CE,↓reduceIte,jB,jG,jA,jC,enP,TU,MZ,jJ,f10,f12,EF hi',ldV hi',AXH,AVR]
  generalize H ++ [ABlk.live 4 [FM p.vars[i]]]=H1 at g5 ho1 hx1 ⊢
  generalize H.length=vb at g5 ⊢
  have d1:DL Tryz.prog H1 3 (.ptr vb 0 1)=some (.int .i64 p.vars[i].width):=by rw [DC ag3 g5 (row:=FM p.vars[i]) rfl]; rfl
  have d2:DL Tryz.prog H1 3 (.ptr vb 0 2)=some (.int .i64 p.vars[i].mode):=by rw [DC ag3 g5 (row:=FM p.vars[i]) rfl]; rfl
  have d3:DL Tryz.prog H1 3 (.ptr vb 0 3)=some (.int .i64 p.vars[i].value):=by rw [DC ag3 g5 (row:=FM p.vars[i]) rfl]; rfl
  obtain ⟨v',H',ha,ho',_,hx',_,_⟩:=ho1.append (P:=Tryz.prog) AOM TY AXO AW5 (by omega) (by rw [jM,zV]; omega) hx1 (stR p.vars[i])
  have htk:(p.vars.take i).map stR ++ [stR p.vars[i]]=(p.vars.take (i+1)).map stR:=by rw [zT hi',List.map_append]; rfl
  rw [htk] at ho'
  simp -implicitDefEqProofs only [BJ,A7,AZ,BA,AC,AQ,AO,BD,AX,AL,AA,AY,AU,BG,BU,AB,DJ,↓reduceIte,jA,jC,enP,d2]
  refine CV (fun hm => ?_) (fun hm => ?_)
  ·have hm:p.vars[i].mode=0:=by simpa using hm
   have er:stR p.vars[i]=⟨p.vars[i].value,p.vars[i].value⟩:=by unfold stR; rw [if_pos hm]
   rw [er] at ha
   simp -implicitDefEqProofs only [A8,AZ,AC,AQ,AO,BD,AX,AL,AA,AY,BO,BH,BP,BI,BV,BN,AB,jF,jD,jE,↓reduceIte,jB,jG,jA,jC,enP,WM,f3,d3]
   refine (O4 G _ _).use ?_
   simp -implicitDefEqProofs only [FB,ES,A8,A7,EK,FI,AZ,BA,AC,AQ,AO,BD,AX,AL,AA,AY,AU,BG,BH,BB,GM,BU,NL,BZ,AB,DY,↓reduceIte,jB,jA,jC,enP,AZM,ha,f12,wrap_succ (show i < 9223372036854775807 by omega)]
   exact ⟨n - 1,by omega,i+1,v',by omega,by trivial,by trivial,by trivial,by trivial,hx',ho'⟩
  ·have hm : ¬ p.vars[i].mode=0:=by simpa using hm
   have er:stR p.vars[i]=⟨0,2 ^ p.vars[i].width.toNat - 1⟩:=by unfold stR; rw [if_neg hm]
   rw [er] at ha
   simp -implicitDefEqProofs only [A8,AZ,AC,AQ,AO,BD,AX,AL,AA,AY,BO,BH,BP,BI,BV,BN,AB,jF,jD,jE,↓reduceIte,jB,jG,jA,jC,enP,NW,f3,d1]
   refine (AJI G _ (by omega) (by omega) _).use ?_
   simp -implicitDefEqProofs only [FB,ES,A8,A7,EK,FI,AZ,BA,AC,AQ,AO,BD,AX,AL,AA,AY,AU,BG,BH,BB,FZ,GM,BU,NL,BZ,AB,DY,↓reduceIte,jB,jA,jC,enP,PW,AZM,ha,f12,wrap_succ (show i < 9223372036854775807 by omega)]
   exact ⟨n - 1,by omega,i+1,v',by omega,by trivial,by trivial,by trivial,by trivial,hx',ho'⟩
 ·have hi' : ¬ i < p.vars.length:=by simpa using hc
  rw [jX (by omega)] at ho
  simp -implicitDefEqProofs only [BC,A8,BK,D6,A7,EU,FT,FX,CU,AZ,BA,AC,AQ,AO,BD,AX,AL,AA,AY,BH,BB,↓reduceIte,jB,jA,jC,f3]
  refine ⟨hx.trans hxH,?_⟩
  rcases ho with ⟨a,b⟩ | ⟨a,o,b,c,d⟩
  ·exact .inl ⟨a,b⟩
  ·exact .inr ⟨a,o,Nat.le_trans hx.le b,c,d⟩
def evP (e:Ex) (p:Pr) (l:List Rng):Rng:=if exE e≠0∨NM p≠0∨TF p.vars l=false then IP else evS p.vars l e
set_option maxHeartbeats 1000000 in
theorem OY (hG:GOk G) (e:Ex) (he:wt e≤1048576) (p:Pr) (hs:PrS p) (l:List Rng) (m:SM) (hl:l.length≤1048576) (h:Hp):PCall (En G) 22 [.agg (CW e),.agg (D8 p),.sl m 2 (l.map encR)] h (.agg (encR (evP e p l))):=by
 refine LU 2 (fun n H=>rfl) ?_
 refine JB (H:=hint [1000024] []) (enM G) Tryz.func22 rfl (by kernel_rfl) (by kernel_rfl) (jH (by kernel_rfl)) ?_
 show awp _ _ _ _ _ (EE _ [.cell 6 34] _)
 have z:Z0 h (h ++ [ABlk.live 4 [CW e]] ++ [ABlk.live 5 [D8 p]] ++ [ABlk.live 2 [zR]]) (h ++ [ABlk.live 4 [CW e]] ++ [ABlk.live 5 [D8 p]]).length:=⟨C9 _ _,(((ext.rfl' h).app _).app _).app _,by simp⟩
 have ge:=CX (x:=ABlk.live 2 [zR]) (CX (x:=ABlk.live 5 [D8 p]) (C9 h (ABlk.live 4 [CW e])))
 have gp:=CX (x:=ABlk.live 2 [zR]) (C9 (h ++ [ABlk.live 4 [CW e]]) (ABlk.live 5 [D8 p]))
 simp -implicitDefEqProofs only [EI,jP,jR,jS,jO,BC,A8,A7,AZ,BA,AO,BD,AX,AL,AA,AY,EZ,FN,BP,BZ,BF,BQ,↓reduceIte,jB,jA,jC,enP,E8,bxE,VS,OU]
 generalize h ++ [ABlk.live 4 [CW e]] ++ [ABlk.live 5 [D8 p]] ++ [ABlk.live 2 [zR]]=H at z ge gp ⊢
 generalize (h ++ [ABlk.live 4 [CW e]] ++ [ABlk.live 5 [D8 p]]).length=bz at z ge gp ⊢
 generalize (h ++ [ABlk.live 4 [CW e]]).length=pb at z ge gp ⊢
 generalize h.length=eb at z ge gp ⊢
 have lp:DL Tryz.prog H 27 (.ptr pb 0 0)=some (.agg (D8 p)):=by rw [HY WX VL gp (row:=D8 p) rfl (by rw [GZ]; exact jL 5)]; rfl
 simp -implicitDefEqProofs only [EI,jP,jR,jS,jO,AZ,AO,BD,AX,AL,AA,AY,BO,BV,BN,AB,jF,jD,jE,↓reduceIte,jA,jC,E8,IR ge]
 refine (V6 G hG e H (AIS he)).use ?_
 simp -implicitDefEqProofs only [EI,jP,jR,jS,jO,AZ,BL,BX,CG,AO,BD,AX,AL,AA,AY,AU,BG,BH,BU,AB,FD,↓reduceIte,jA,jC,enP,E8]
 refine IV (fun h1 => ?_) (fun h1 => ?_)
 ·have h1':exE e≠0:=by simpa using h1
  simp -implicitDefEqProofs only [EI,jP,jR,jS,jO,BC,A8,BJ,A7,DR,AZ,BA,BL,BX,CG,FY,AO,BD,AX,AL,AA,EG,AY,AU,BO,BM,BH,CO,DK,BV,BN,jD,jE,↓reduceIte,jB,jA,jC,E8,h1]
  refine (MQ G _).use ?_
  simp -implicitDefEqProofs only [EI,jP,jR,jS,jO,BK,A7,CJ,AZ,BA,AO,BD,AX,AL,DZ,AA,AY,CZ,CE,↓reduceIte,jB,jC,enP,E8,jJ,z.st]
  exact z.out (by simp -implicitDefEqProofs only [AA,↓reduceIte,jB]) (by unfold evP; rw [if_pos (.inl h1')])
 have h1':exE e=0:=by simpa using h1
 simp -implicitDefEqProofs only [EI,jP,jR,jS,jO,BL,BX,CG,EM,AO,BD,AX,AL,AA,AY,BO,BP,BV,BN,AB,jF,jD,jE,↓reduceIte,jB,jA,jC,enP,E8,h1,lp]
 refine (WB G hG p hs H).use ?_
 simp -implicitDefEqProofs only [EI,jP,jR,jS,jO,AZ,BL,BX,CG,EM,AO,BD,AX,AL,AA,AY,AU,BG,BM,BH,CO,DU,BU,AB,FD,↓reduceIte,jB,jA,jC,enP,E8,h1]
 refine IV (fun h2 => ?_) (fun h2 => ?_)
 ·have h2':NM p≠0:=by simpa using h2
  simp -implicitDefEqProofs only [EI,jP,jR,jS,jO,BC,A8,BJ,A7,DR,AZ,BA,BL,BX,CG,FY,AO,BD,AX,AL,AA,EG,AY,AU,BO,BM,CO,DK,BV,BN,jD,jE,↓reduceIte,jB,jA,jC,E8,h2]
  refine (MQ G _).use ?_
  simp -implicitDefEqProofs only [EI,jP,jR,jS,jO,BK,A7,CJ,AZ,BA,AO,BD,AX,AL,DZ,AA,AY,CZ,CE,↓reduceIte,jB,jC,enP,E8,jJ,z.st]
  exact z.out (by simp -implicitDefEqProofs only [AA,↓reduceIte,jB]) (by unfold evP; rw [if_pos (.inr (.inl h2'))])
 have h2':NM p=0:=by simpa using h2
 simp -implicitDefEqProofs only [EI,jP,jR,jS,jO,BL,BX,CG,EM,AO,BD,AX,AL,AA,AY,BO,BH,BP,BV,BN,AB,BF,BQ,jF,jD,jE,↓reduceIte,jB,jA,jC,enP,E8,h2,lp]
 refine (AHR G p hs l m hl H).use ?_
 simp -implicitDefEqProofs only [EI,jP,jR,jS,jO,BJ,A7,AZ,BA,BL,BX,CG,EM,AO,BD,AX,AL,AA,AY,AU,BM,CO,DU,I5,AB,FO,↓reduceIte,jB,jA,jC,E8,h2]
 cases h3:TF p.vars l
 ·simp -implicitDefEqProofs only [EI,jP,jR,jS,jO,BC,A8,DR,AZ,AO,BD,AX,BO,BV,BN,jD,jE,jA,jC,E8]
  refine (MQ G _).use ?_
  simp -implicitDefEqProofs only [EI,jP,jR,jS,jO,BK,A7,CJ,AZ,BA,AO,BD,AX,AL,DZ,AA,AY,CZ,CE,↓reduceIte,jB,jC,enP,E8,jJ,z.st]
  exact z.out (by simp -implicitDefEqProofs only [AA,↓reduceIte,jB]) (by unfold evP; rw [if_pos (.inr (.inr h3))])
 simp -implicitDefEqProofs only [BC,BR,A7,DX,Bool.not_true]
 have hev:evP e p l=evS p.vars l e:=by unfold evP; rw [if_neg (by rw [h1',h2',h3]; simp)]
 obtain ⟨hw,hll⟩:=MH.1 h3
 have hLO:LOk H (.sl m 2 (l.map encR)) l := .inl ⟨m,rfl⟩
 have hE:=AWO H p (.sl m 2 (l.map encR)) l hLO
 have hxE:=TG H p (.sl m 2 (l.map encR))
 have zE:Z0 h (evH H p (.sl m 2 (l.map encR))) bz:=⟨FP hxE z.gz,z.hx.trans hxE,z.hl⟩
 have hnew:=XM G p (.sl m 2 (l.map encR)) (.inl ⟨_,_,rfl⟩) hs.vars H
 have heval:=AD2 G p.vars l hll hw (H.length+2) e (by have:=WF e; omega) (RY h1') _ hE
 refine AII [] [0,1] 2 3 [4,5] (by kernel_rfl) trivial ?_
 simp only [KI,zC,jZ]
 simp -implicitDefEqProofs only [FC,AF7,ACK,EI,jP,jR,jS,jO,DV,CY,EC,DW,EP,ED,AA,AY,BO,BP,AB,BF,BQ,jF,jD,jE,↓reduceIte,jB,jK,jA,enP,lp]
 refine ⟨?_,?_⟩
 ·try simp -implicitDefEqProofs only []
  refine ⟨_,_,hnew,?_⟩
  simp -implicitDefEqProofs only [FC,EI,jP,jR,jS,jO,DV,CY,DW,GL,EW,EJ,AA,AY,BO,CZ,AB,jF,jD,jE,↓reduceIte,jB,jK,jG,jA,enP,jJ,IR (FP hxE ge)]
  refine ⟨_,heval,?_⟩
  simp -implicitDefEqProofs only [GN,EC,BK,A7,CE,zE.st]
  exact zE.out (by simp -implicitDefEqProofs only [AA,↓reduceIte,jB]) hev.symm
 ·simp -implicitDefEqProofs only [FC,AF7,ACK,EI,jP,jR,jS,jO,DV,CY,DW,GL,EW,EJ,AA,AY,BO,CZ,AB,jF,jD,jE,↓reduceIte,jB,jK,jG,jA,enP,jJ,IR ge]
  refine ⟨_,_,hnew,?_⟩
  try simp -implicitDefEqProofs only []
  refine ⟨_,heval,?_⟩
  simp -implicitDefEqProofs only [GN,EC,BK,A7,CE,zE.st]
  exact zE.out (by simp -implicitDefEqProofs only [AA,↓reduceIte,jB]) hev.symm
theorem Z9 (hG:GOk G) (e:Ex) (he:wt e≤1048576) (p:Pr) (hs:PrS p) (l:List Rng) (m:SM) (hl:l.length≤1048576) (h:Hp):PCall (En G) 24 [.agg (CW e),.agg (D8 p),.sl m 2 (l.map encR)] h (.bool (isT (evP e p l))):=by
 refine ACalls.pure0 rfl ?_
 refine acN Tryz.func24 rfl ?_
 show awp _ _ _ _ _ (EE _ [.tmp 6] _)
 have ge:=CX (x:=ABlk.live 5 [D8 p]) (C9 h (ABlk.live 4 [CW e]))
 have gp:=C9 (h ++ [ABlk.live 4 [CW e]]) (ABlk.live 5 [D8 p])
 have hx:=((ext.rfl' h).app [ABlk.live 4 [CW e]]).app [ABlk.live 5 [D8 p]]
 simp -implicitDefEqProofs only [BC,A8,A7,AZ,BA,AC,AQ,AO,BD,AX,AL,AA,AY,AU,BM,BB,FN,BP,BZ,BF,BQ,↓reduceIte,jB,jA,jC,enP,bxE,VS]
 generalize h ++ [ABlk.live 4 [CW e]] ++ [ABlk.live 5 [D8 p]]=H at hx ge gp ⊢
 generalize (h ++ [ABlk.live 4 [CW e]]).length=pb at ge gp ⊢
 generalize h.length=eb at ge gp ⊢
 have lp:DL Tryz.prog H 27 (.ptr pb 0 0)=some (.agg (D8 p)):=by rw [HY WX VL gp (row:=D8 p) rfl (by rw [GZ]; exact jL 5)]; rfl
 simp -implicitDefEqProofs only [AZ,AC,AQ,AO,BD,AX,AL,AA,AY,BO,BH,BP,BV,BN,AB,BF,BQ,jF,jD,jE,↓reduceIte,jB,jA,jC,enP,IR ge,lp]
 refine (OY G hG e he p hs l m hl H).use ?_
 simp -implicitDefEqProofs only [AZ,AC,AQ,AO,BD,AX,AL,AA,AY,BO,BV,BN,jF,jD,jE,↓reduceIte,jA,jC]
 refine (LX G _ _).use ?_
 simp -implicitDefEqProofs only [BK,A7,CU,AZ,BA,AC,AQ,AO,BD,AX,AL,AA,AY,BB,↓reduceIte,jA,jC]
 exact ⟨by trivial,hx⟩
theorem AKO (hG:GOk G) (e:Ex) (he:wt e≤1048576) (p:Pr) (hs:PrS p) (l:List Rng) (m:SM) (hl:l.length≤1048576) (h:Hp):PCall (En G) 26 [.agg (CW e),.agg (D8 p),.sl m 2 (l.map encR)] h (.bool (isF (evP e p l))):=by
 refine ACalls.pure0 rfl ?_
 refine acN Tryz.func26 rfl ?_
 show awp _ _ _ _ _ (EE _ [.tmp 6] _)
 have ge:=CX (x:=ABlk.live 5 [D8 p]) (C9 h (ABlk.live 4 [CW e]))
 have gp:=C9 (h ++ [ABlk.live 4 [CW e]]) (ABlk.live 5 [D8 p])
 have hx:=((ext.rfl' h).app [ABlk.live 4 [CW e]]).app [ABlk.live 5 [D8 p]]
 simp -implicitDefEqProofs only [BC,A8,A7,AZ,BA,AC,AQ,AO,BD,AX,AL,AA,AY,AU,BM,BB,FN,BP,BZ,BF,BQ,↓reduceIte,jB,jA,jC,enP,bxE,VS]
 generalize h ++ [ABlk.live 4 [CW e]] ++ [ABlk.live 5 [D8 p]]=H at hx ge gp ⊢
 generalize (h ++ [ABlk.live 4 [CW e]]).length=pb at ge gp ⊢
 generalize h.length=eb at ge gp ⊢
 have lp:DL Tryz.prog H 27 (.ptr pb 0 0)=some (.agg (D8 p)):=by rw [HY WX VL gp (row:=D8 p) rfl (by rw [GZ]; exact jL 5)]; rfl
 simp -implicitDefEqProofs only [AZ,AC,AQ,AO,BD,AX,AL,AA,AY,BO,BH,BP,BV,BN,AB,BF,BQ,jF,jD,jE,↓reduceIte,jB,jA,jC,enP,IR ge,lp]
 refine (OY G hG e he p hs l m hl H).use ?_
 simp -implicitDefEqProofs only [AZ,AC,AQ,AO,BD,AX,AL,AA,AY,BO,BV,BN,jF,jD,jE,↓reduceIte,jA,jC]
 refine (JI G _ _).use ?_
 simp -implicitDefEqProofs only [BK,A7,CU,AZ,BA,AC,AQ,AO,BD,AX,AL,AA,AY,BB,↓reduceIte,jA,jC]
 exact ⟨by trivial,hx⟩
end
abbrev NS:=List Rng × Bool
def nxR (r:Rng) (lo hi:Int):Rng:=⟨max r.lo lo,min r.hi hi⟩
def OI (s:NS) (i:Nat) (lo hi:Int):Option NS:=if (nxR (s.1.getD i IP) lo hi).lo > (nxR (s.1.getD i IP) lo hi).hi then none else some (s.1.set i (nxR (s.1.getD i IP) lo hi),s.2 || !((nxR (s.1.getD i IP) lo hi) == s.1.getD i IP))
def NwL (h:Hp) (L:AV) (lb:Nat) (l:List Rng):Prop:=(l = []∧L = .sl .full 2 [])∨(L = .own lb 0 l.length∧h[lb]? = some (.live 2 (l.map encR))∧l≠[])
structure Nw (h:Hp) (nb lb:Nat) (vars:List Vr) (s:NS):Prop where
 ex : ∃ mb L ents,h[nb]? = some (.live 3 [[.mp mb,L,.bool s.2]])∧h[mb]? = some (.map (TV ents))∧(∀ n,TN ents n=AE0 n vars 0)∧NwL h L lb s.1∧mb≠nb∧mb≠lb
 ne:nb≠lb
 lbl:lb < h.length
 len:s.1.length=vars.length
 wf : ∀ r∈s.1,wfR r
def Kp (nb lb:Nat) (h H:Hp):Prop:=(∀ b x,h[b]? = some x→b≠nb→b≠lb→H[b]? = some x)∧h.length≤H.length
theorem Kp.rfl' (nb lb:Nat) (h:Hp):Kp nb lb h h:=⟨fun _ _ q _ _=>q,jL _⟩
theorem Kp.trans {nb lb:Nat} {a b c:Hp} (h1:Kp nb lb a b) (h2:Kp nb lb b c):Kp nb lb a c:=⟨fun k x q n1 n2=>h2.1 k x (h1.1 k x q n1 n2) n1 n2,Nat.le_trans h1.2 h2.2⟩
theorem Kp.app {nb lb:Nat} {a b:Hp} (h1:Kp nb lb a b) (x:ABlk):Kp nb lb a (b ++ [x]):=⟨fun k y q n1 n2=>CX (h1.1 k y q n1 n2),Nat.le_trans h1.2 (by simp)⟩
theorem Kp.ofExt {nb lb:Nat} {a b:Hp} (h:Sm.ext a b):Kp nb lb a b:=⟨fun _ _ q _ _=>FP h q,h.le⟩
theorem Kp.setN {nb lb:Nat} {a b:Hp} (h1:Kp nb lb a b) (x:ABlk):Kp nb lb a (b.set nb x):=⟨fun k y q n1 n2=>by rw [zS (Ne.symm n1)]; exact h1.1 k y q n1 n2,by rw [qM]; exact h1.2⟩
theorem Kp.setL {nb lb:Nat} {a b:Hp} (h1:Kp nb lb a b) (x:ABlk):Kp nb lb a (b.set lb x):=⟨fun k y q n1 n2=>by rw [zS (Ne.symm n2)]; exact h1.1 k y q n1 n2,by rw [qM]; exact h1.2⟩
def emp:Value := .iface 97 (.agg #[])
def X0 (nb lb:Nat) (base:Hp) (Bad:Prop):Value→Hp→Prop:=fun u H=>u=emp∧Kp nb lb base H∧Bad
def NP (nb lb:Nat) (vars:List Vr) (h:Hp) (r:Option NS):AV→Hp→Prop:=fun _ H => ∃ s,r=some s∧Nw H nb lb vars s∧Kp nb lb h H
theorem Nw.ev {h:Hp} {nb lb:Nat} {vars:List Vr} {s:NS} (n:Nw h nb lb vars s):EvO h nb vars s.1:=by
 obtain ⟨mb,L,ents,h1,h2,h3,h4,_,_⟩:=n.ex
 refine ⟨mb,L,3,_,ents,h1,h2,h3,?_⟩
 rcases h4 with ⟨e,rfl⟩ | ⟨rfl,hb,_⟩
 ·rw [e]; exact .inl ⟨.full,rfl⟩
 ·exact .inr ⟨lb,rfl,hb⟩
theorem Nw.ext {h H:Hp} {nb lb:Nat} {vars:List Vr} {s:NS} (n:Nw h nb lb vars s) (hx:Sm.ext h H):Nw H nb lb vars s:=by
 obtain ⟨mb,L,ents,h1,h2,h3,h4,h5,h6⟩:=n.ex
 refine ⟨⟨mb,L,ents,FP hx h1,FP hx h2,h3,?_,h5,h6⟩,n.ne,Nat.lt_of_lt_of_le n.lbl hx.le,n.len,n.wf⟩
 rcases h4 with h4 | ⟨e,hb,hn⟩
 ·exact .inl h4
 ·exact .inr ⟨e,FP hx hb,hn⟩
theorem Nw.lt {h:Hp} {nb lb:Nat} {vars:List Vr} {s:NS} (n:Nw h nb lb vars s) {b:Nat} (hb:h.length≤b):b≠nb∧b≠lb:=by
 obtain ⟨mb,L,ents,h1,_⟩:=n.ex
 have:=CP h1
 have:=n.lbl
 exact ⟨by omega,by omega⟩
theorem NP.post {nb lb:Nat} {vars:List Vr} {h h':Hp} {r:Option NS} {v:AV} {H:Hp} (hk:Kp nb lb h h') (q:NP nb lb vars h' r v H):NP nb lb vars h r v H:=by
 obtain ⟨s,e,n,k⟩:=q
 exact ⟨s,e,n,hk.trans k⟩
theorem AV8 (a b c d:Int):G8 Tryz.prog 34 .neq (.agg [.int .i64 a,.int .i64 b]) (.agg [.int .i64 c,.int .i64 d])=some (.bool (!((a == c) && ((b == d) && true)))):=by kernel_rfl
theorem AOZ (a b:Rng):((a.lo == b.lo) && ((a.hi == b.hi) && true))=(a == b):=by
 cases a; cases b
 rw [qG]
 simp
theorem AUU (a b:Rng):G8 Tryz.prog 34 .neq (.agg (encR a)) (.agg (encR b))=some (.bool (!(a == b))):=by
 rw [← AOZ]; exact AV8 _ _ _ _
theorem AZZ (r:Rng) (lo hi:Int):JZ Tryz.prog 34 [(0,.int .i64 (max r.lo lo)),(1,.int .i64 (min r.hi hi))]=some (.agg (encR (nxR r lo hi))):=PW _ _
theorem AVL:Tryz.prog.underlying 97=some (.struct #[]):=by kernel_rfl
theorem AXA:JZ Tryz.prog 97 []=some (.agg []):=by kernel_rfl
theorem set_self {l:List Rng} {i:Nat} (hi:i < l.length):l.set i l[i]=l:=by
 apply List.ext_getElem?
 intro j
 rw [List.getElem?_set]
 by_cases h:i=j
 ·subst h; rw [if_pos rfl,if_pos hi,jU hi]
 ·rw [if_neg h]
theorem Nw.put {h:Hp} {nb lb:Nat} {vars:List Vr} {s:NS} (n:Nw h nb lb vars s) {i:Nat} (hi:i < s.1.length) {r:Rng} (hr:wfR r) : ∃ mb L ents,h[nb]? = some (.live 3 [[.mp mb,L,.bool s.2]])∧L = .own lb 0 s.1.length∧h[lb]? = some (.live 2 (s.1.map encR)) ∧
  Nw ((h.set lb (.live 2 ((s.1.set i r).map encR))).set nb (.live 3 [[.mp mb,L,.bool true]])) nb lb vars (s.1.set i r,true)∧h[mb]? = some (.map (TV ents)):=by
 obtain ⟨mb,L,ents,h1,h2,h3,h4,h5,h6⟩:=n.ex
 have hne:=n.ne
 rcases h4 with ⟨e,_⟩ | ⟨rfl,hb,hnl⟩
 ·rw [e] at hi; simp at hi
 refine ⟨mb,_,ents,h1,rfl,hb,⟨⟨mb,.own lb 0 s.1.length,ents,?_,?_,h3,.inr ⟨by rw [qM],?_,by intro q; have:=congrArg List.length q; simp at this; rw [this] at hi; simp at hi⟩,h5,h6⟩,hne,by rw [qM,qM]; exact n.lbl,by rw [qM]; exact n.len,?_⟩,h2⟩
 ·exact G7 (x := .live 3 [[.mp mb,.own lb 0 s.1.length,.bool s.2]]) (by rw [zS (Ne.symm hne)]; exact h1)
 ·rw [zS (Ne.symm h5),zS (Ne.symm h6)]; exact h2
 ·rw [zS hne]; exact G7 hb
 ·intro x hx
  rcases List.mem_or_eq_of_mem_set hx with hx | rfl
  ·exact n.wf x hx
  ·exact hr
section
variable (G:Nat→AV)
set_option maxHeartbeats 2000000 in
theorem KN (nb lb:Nat) (base:Hp) (Bad:Prop) (vars:List Vr) (s:NS) (i:Nat) (hi:i < vars.length) (lo hi':Int) (b1 : -1048576≤lo) (b2:lo≤1048576) (b3 : -1048576≤hi') (b4:hi'≤1048576) (h:Hp) (hk:Kp nb lb base h) (n:Nw h nb lb vars s) (hbad:OI s i lo hi'=none→Bad) :
  ACalls ((En G).wx (X0 nb lb base Bad)) 117 [.ptr nb 0 0,.int .i64 (i:Nat),.int .i64 lo,.int .i64 hi'] h (NP nb lb vars h (OI s i lo hi')):=by
 have hil:i < s.1.length:=by rw [n.len]; exact hi
 have hgd:s.1.getD i IP=s.1[i]:=by rw [zD,jU hil]; rfl
 have hlim:OI s i lo hi'=if (nxR s.1[i] lo hi').lo > (nxR s.1[i] lo hi').hi then none else some (s.1.set i (nxR s.1[i] lo hi'),s.2 || !((nxR s.1[i] lo hi') == s.1[i])):=by unfold OI; rw [hgd]
 rw [hlim] at hbad ⊢
 obtain ⟨mb,L,ents,h1,rfl,hb,_,_⟩:=n.put hil (n.wf _ (jQ hil))
 have hwf:=n.wf _ (jQ hil)
 refine JB (H:=Hint.none) (enM G) Tryz.func117 rfl (by kernel_rfl) (by kernel_rfl) (jH (by kernel_rfl)) ?_
 show awp _ _ _ _ _ (EE _ [] _)
 have l29 : ∀ {H:Hp} {c:Bool},H[nb]? = some (.live 3 [[.mp mb,.own lb 0 s.1.length,.bool c]])→DL Tryz.prog H 29 (.ptr nb 0 1)=some (.own lb 0 s.1.length):=fun q=>by rw [DC (by kernel_rfl) q (row:=_) rfl]; rfl
 have i1:JM 2 h (.own lb 0 s.1.length) (.int .i64 (i:Nat))=some (.ptr lb (0+i) 0):=J9 hb hil
 rw [jG] at i1
 simp -implicitDefEqProofs only [BC,A8,A7,AZ,BA,AC,AQ,AO,BD,AX,AL,DZ,AA,AY,BH,EZ,BP,CZ,BI,CQ,wxP,BZ,AB,CE,BF,BQ,↓reduceIte,jB,jI,jG,jA,jC,enP,QS,GI,YY,KY,jJ,ER,FK,l29 h1,i1,ABS hb hil,OU,UA]
 have g8:=C9 h (ABlk.live 2 [encR s.1[i]])
 have n8:=n.ext ((ext.rfl' h).app [ABlk.live 2 [encR s.1[i]]])
 have k8:=(Kp.rfl' nb lb h).app (ABlk.live 2 [encR s.1[i]])
 have nb8:=CX (x:=ABlk.live 2 [encR s.1[i]]) h1
 have lb8:=CX (x:=ABlk.live 2 [encR s.1[i]]) hb
 have ne8:h.length≠nb∧h.length≠lb:=⟨fun e=>by have:=CP h1; omega,fun e=>by have:=CP hb; omega⟩
 generalize h ++ [ABlk.live 2 [encR s.1[i]]]=H8 at g8 n8 k8 nb8 lb8 ⊢
 generalize h.length=b8 at g8 ne8 ⊢
 simp -implicitDefEqProofs only [FB,ES,BC,A8,A7,AZ,BA,AC,AQ,AO,BD,AX,AL,DZ,AA,AY,BH,EZ,FZ,BP,CZ,BI,ZL,AA0,wxP,BZ,AB,CE,UH,WI,BF,BQ,↓reduceIte,jB,jG,jA,jC,enP,GR,jJ,G5 g8,IA g8,AZZ,OU,UA]
 have g9:=C9 H8 (ABlk.live 2 [encR (nxR s.1[i] lo hi')])
 have n9:=n8.ext ((ext.rfl' H8).app [ABlk.live 2 [encR (nxR s.1[i] lo hi')]])
 have k9:=k8.app (ABlk.live 2 [encR (nxR s.1[i] lo hi')])
 have nb9:=CX (x:=ABlk.live 2 [encR (nxR s.1[i] lo hi')]) nb8
 have lb9:=CX (x:=ABlk.live 2 [encR (nxR s.1[i] lo hi')]) lb8
 have g8':=CX (x:=ABlk.live 2 [encR (nxR s.1[i] lo hi')]) g8
 have ne9:H8.length≠nb∧H8.length≠lb:=⟨fun e=>by have:=CP nb8; omega,fun e=>by have:=CP lb8; omega⟩
 generalize H8 ++ [ABlk.live 2 [encR (nxR s.1[i] lo hi')]]=H9 at g9 n9 k9 nb9 lb9 g8' ⊢
 generalize H8.length=b9 at g9 ne9 ⊢
 have hst:=AK5 (nxR s.1[i] lo hi') lb9 (i:=i) (row:=encR s.1[i]) (by rw [zB,jU hil]; rfl) rfl
 rw [← List.map_set] at hst
 simp -implicitDefEqProofs only [BJ,A7,AZ,BA,AC,AQ,AO,BD,AX,AL,AA,AY,BP,BU,wxP,AB,↓reduceIte,jB,jA,jC,enP,JD g9,JD g8',AUU]
 refine CV (fun hc => ?_) (fun hc => ?_)
 ·simp -implicitDefEqProofs only [BC]
  refine EX (by kernel_rfl) ?_
  have i9:JM 2 H9 (.own lb 0 s.1.length) (.int .i64 (i:Nat))=some (.ptr lb (0+i) 0):=J9 lb9 hil
  rw [jG] at i9
  simp -implicitDefEqProofs only [FC,DV,CY,GN,EC,DW,EP,ED,GL,DN,EQ,A8,A7,AZ,AC,AQ,AO,BD,AX,AL,AA,AY,AU,BM,BH,BP,CZ,BI,CQ,wxP,AB,CE,BF,BQ,↓reduceIte,jB,jK,jI,jG,jA,jC,enP,QS,YY,KY,AFG,jJ,ER,GK,FK,l29 nb9,JD g9,i9,hst]
  have nbA:(H9.set lb (.live 2 ((s.1.set i (nxR s.1[i] lo hi')).map encR)))[nb]? = some (.live 3 [[.mp mb,.own lb 0 s.1.length,.bool s.2]]):=by rw [zS (Ne.symm n.ne)]; exact nb9
  have g9A:(H9.set lb (.live 2 ((s.1.set i (nxR s.1[i] lo hi')).map encR)))[b9]? = some (.live 2 [encR (nxR s.1[i] lo hi')]):=by rw [zS (Ne.symm ne9.2)]; exact g9
  have hst4:F7 Tryz.prog (H9.set lb (.live 2 ((s.1.set i (nxR s.1[i] lo hi')).map encR))) 4 (.ptr nb 0 2) (.bool true)=some ((H9.set lb (.live 2 ((s.1.set i (nxR s.1[i] lo hi')).map encR))).set nb (.live 3 [[.mp mb,.own lb 0 s.1.length,.bool true]])):=by
   rw [JG (cs := [.bool true]) rfl sz4 nbA rfl (by simp)]; rfl
  simp -implicitDefEqProofs only [BC,A8,A7,AZ,BA,AC,AQ,AO,BD,AX,AL,DZ,AA,AY,BP,BI,wxP,AB,CE,↓reduceIte,jB,jI,jA,jC,enP,GI,hst4]
  have g9B:((H9.set lb (.live 2 ((s.1.set i (nxR s.1[i] lo hi')).map encR))).set nb (.live 3 [[.mp mb,.own lb 0 s.1.length,.bool true]]))[b9]? = some (.live 2 [encR (nxR s.1[i] lo hi')]):=by rw [zS (Ne.symm ne9.1)]; exact g9A
  have kB:=(k9.setL (ABlk.live 2 ((s.1.set i (nxR s.1[i] lo hi')).map encR))).setN (ABlk.live 3 [[.mp mb,.own lb 0 s.1.length,.bool true]])
  simp -implicitDefEqProofs only [BJ,A7,AZ,BA,AC,AQ,AO,BD,AX,AL,AA,AY,BP,BU,BI,wxP,AB,EY,↓reduceIte,jB,jG,jA,jC,enP,GR,G5 g9B,IA g9B]
  refine CV (fun hd => ?_) (fun hd => ?_)
  ·have hd:(nxR s.1[i] lo hi').lo > (nxR s.1[i] lo hi').hi:=by simpa using hd
   simp -implicitDefEqProofs only [FB,A8,AZ,AC,AQ,AO,BD,AX,AL,AA,AY,FZ,wxP,wxX,AEP,ABG,AN6,BZ,AB,↓reduceIte,jA,jC,enP,jJ,AXA,AJF (P:=Tryz.prog) (t:=97) AVL]
   exact ⟨rfl,hk.trans kB,hbad (by rw [if_pos hd])⟩
  ·have hd : ¬ (nxR s.1[i] lo hi').lo > (nxR s.1[i] lo hi').hi:=by simpa using hd
   simp -implicitDefEqProofs only [BR,JK]
   refine ⟨_,by rw [if_neg hd],?_,kB⟩
   have hwn:wfR (nxR s.1[i] lo hi'):=by
    obtain ⟨q0,q1,q2⟩:=hwf
    refine ⟨?_,by omega,?_⟩
    ·show 0≤max s.1[i].lo lo; omega
    ·show min s.1[i].hi hi'≤65535; omega
   obtain ⟨mb',L',ents',e1,e2,e3,e4,e5⟩:=n9.put hil hwn
   rw [nb9] at e1
   cases e1
   have ht:(s.2 || !((nxR s.1[i] lo hi') == s.1[i]))=true:=by rw [hc]; simp
   rw [ht]
   exact e4
 ·have he:nxR s.1[i] lo hi'=s.1[i]:=by simpa using hc
  simp -implicitDefEqProofs only [BC,A8,BR,BJ,A7,AZ,BA,AC,AQ,AO,BD,AX,AL,AA,AY,BP,BU,BI,wxP,AB,EY,↓reduceIte,jB,jI,jG,jA,jC,enP,GI,GR,G5 g9,IA g9]
  refine CV (fun hd => ?_) (fun hd => ?_)
  ·have hd:(nxR s.1[i] lo hi').lo > (nxR s.1[i] lo hi').hi:=by simpa using hd
   simp -implicitDefEqProofs only [FB,A8,AZ,AC,AQ,AO,BD,AX,AL,AA,AY,FZ,wxP,wxX,AEP,ABG,AN6,BZ,AB,↓reduceIte,jA,jC,enP,jJ,AXA,AJF (P:=Tryz.prog) (t:=97) AVL]
   exact ⟨rfl,hk.trans k9,hbad (by rw [if_pos hd])⟩
  ·have hd : ¬ (nxR s.1[i] lo hi').lo > (nxR s.1[i] lo hi').hi:=by simpa using hd
   simp -implicitDefEqProofs only [BR,JK]
   refine ⟨_,by rw [if_neg hd],?_,k9⟩
   rw [he,set_self hil]
   simpa using n9
end
def vix (vars:List Vr) (e:Ex):Int:=if e.op=2 then plc vars e.name else -1
theorem SX (vars:List Vr) (e:Ex):vix vars e < vars.length:=by
 have:=QD (JH e.name) vars
 unfold vix plc
 split <;> omega
def atV (vars:List Vr) (a:Ex) (f:NS→Nat→Option NS) (s:NS):Option NS:=if 0≤vix vars a then f s (vix vars a).toNat else some s
def AE1 (vars:List Vr) (s:NS) (a b:Ex) (gap:Int):Option NS :=
 (atV vars a (fun s i=>OI s i 0 ((evS vars s.1 b).hi - gap)) s).bind fun s=>atV vars b (fun s i=>OI s i ((evS vars s.1 a).lo+gap) 65535) s
def YA (f:NS→Nat→Rng→Option NS) (vars:List Vr) (s:NS) (a b:Ex):Option NS :=
 (atV vars a (fun s i=>f s i (evS vars s.1 b)) s).bind fun s=>atV vars b (fun s i=>f s i (evS vars s.1 a)) s
def feq (s:NS) (i:Nat) (r:Rng):Option NS:=OI s i r.lo r.hi
def fne (s:NS) (i:Nat) (r:Rng):Option NS :=
 if sgl r=true then (if (s.1.getD i IP).lo=r.lo then OI s i (r.lo+1) 65535 else some s).bind fun s=>if (s.1.getD i IP).hi=r.lo then OI s i 0 (r.lo - 1) else some s else some s
theorem A1I (r:Rng):ZH Tryz.prog 34 (.agg (encR r)) 0=some (.int .i64 r.lo):=by kernel_rfl
theorem A1J (r:Rng):ZH Tryz.prog 34 (.agg (encR r)) 1=some (.int .i64 r.hi):=by kernel_rfl
section
variable (G:Nat→AV)
structure EOk (e:Ex):Prop where
 w:wt e≤1048576
 n : ∀ x∈pre e,I4 x=0
theorem EOk.arg {e a:Ex} (h:EOk e) (ha:a∈e.args):EOk a:=by
 refine ⟨?_,fun x hx=>h.n x (by rw [pre_eq]; exact qN _ (LG ha x hx))⟩
 have h1:=PQ e
 have h2:=UX ha
 have:=h.w
 omega
theorem AB8 (vars:List Vr) (s:NS) (nb lb:Nat) (e:Ex) (he:EOk e) (h:Hp) (n:Nw h nb lb vars s):PCall (En G) 49 [.ptr nb 0 0,.agg (CW e)] h (.agg (encR (evS vars s.1 e))) :=
 AD2 G vars s.1 n.len n.wf nb e (by have:=WF e; have:=he.w; omega) he.n h n.ev
theorem wfE {vars:List Vr} {s:NS} {nb lb:Nat} {e:Ex} (he:EOk e) {h:Hp} (n:Nw h nb lb vars s):wfR (evS vars s.1 e):=AOE vars n.wf e he.n
set_option maxHeartbeats 2000000 in
theorem ABH (nb lb:Nat) (base:Hp) (Bad:Prop) (vars:List Vr) (s:NS) (a b:Ex) (ha:EOk a) (hb:EOk b) (gap:Int) (hg:0≤gap∧gap≤1) (h:Hp) (hk:Kp nb lb base h) (n:Nw h nb lb vars s) (hbad:AE1 vars s a b gap=none→Bad) :
  ACalls ((En G).wx (X0 nb lb base Bad)) 121 [.ptr nb 0 0,.agg (CW a),.agg (CW b),.int .i64 gap] h (NP nb lb vars h (AE1 vars s a b gap)):=by
 refine JB (H:=Hint.none) (enM G) Tryz.func121 rfl (by kernel_rfl) (by kernel_rfl) (jH (by kernel_rfl)) ?_
 show awp _ _ _ _ _ (EE _ [] _)
 have g5:=CX (x:=ABlk.live 4 [CW b]) (C9 h (ABlk.live 4 [CW a]))
 have g6:=C9 (h ++ [ABlk.live 4 [CW a]]) (ABlk.live 4 [CW b])
 have n1:=n.ext (((ext.rfl' h).app [ABlk.live 4 [CW a]]).app [ABlk.live 4 [CW b]])
 have k1:=((Kp.rfl' nb lb h).app (ABlk.live 4 [CW a])).app (ABlk.live 4 [CW b])
 have o5:=n.lt (jL h.length)
 have o6:=n.lt (b:=(h ++ [ABlk.live 4 [CW a]]).length) (by simp)
 simp -implicitDefEqProofs only [BC,A8,A7,AZ,BA,AC,AQ,AO,BD,AX,AL,AA,AY,FN,wxP,BZ,BF,BQ,↓reduceIte,jB,jA,jC,enP,bxE]
 generalize h ++ [ABlk.live 4 [CW a]] ++ [ABlk.live 4 [CW b]]=H at g5 g6 n1 k1 ⊢
 generalize (h ++ [ABlk.live 4 [CW a]]).length=b6 at g5 g6 o6 ⊢
 generalize h.length=b5 at g5 g6 o5 ⊢
 have hkH:=hk.trans k1
 refine EX (by kernel_rfl) ?_
 simp -implicitDefEqProofs only [FC,DV,CY,EC,DW,EP,G9,ED,DN,EW,EJ,BC,A8,A7,AZ,AC,AQ,AO,BD,AX,AL,AA,AY,AU,BO,BG,BH,BP,BU,BI,wxP,AB,BF,jF,jD,jE,↓reduceIte,jB,jK,jI,jA,jC,enP,KY,ER,GK,FK,IR g5]
 refine ⟨_,O1 G vars s.1 nb a H n1.ev,?_⟩
 simp -implicitDefEqProofs only [BJ,A7,BA,AL,AA,AY,AB,FQ,↓reduceIte]
 have hra:=SX vars a
 have hrb:=SX vars b
 have hva:(if a.op=2 then plc vars a.name else -1)=vix vars a:=rfl
 have hvb:(if b.op=2 then plc vars b.name else -1)=vix vars b:=rfl
 rw [hva]
 unfold AE1 at hbad ⊢
 refine QL (fun F H' => ∃ s1,atV vars a (fun s i=>OI s i 0 ((evS vars s.1 b).hi - gap)) s=some s1∧Nw H' nb lb vars s1∧Kp nb lb H H'∧F 0 = .ptr nb 0 0∧F 3 = .int .i64 gap∧F 5 = .ptr b5 0 0∧F 6 = .ptr b6 0 0) (fun _ _=>False) (fun hc => ?_) (fun hc => ?_) ?_ (fun _ _ q=>q.elim)
 ·have hc:0≤vix vars a:=by simpa using hc
  have w:=wfE hb n1
  obtain ⟨w0,w1,w2⟩:=w
  obtain ⟨i,hi⟩:=zI hc
  have hat:atV vars a (fun s i=>OI s i 0 ((evS vars s.1 b).hi - gap)) s=OI s i 0 ((evS vars s.1 b).hi - gap):=by unfold atV; rw [if_pos hc,hi,zG]
  rw [hat] at hbad ⊢
  refine MB 10 _ (by kernel_rfl) rfl rfl ?_
  simp only [qO,zM]
  simp -implicitDefEqProofs only [FC,DV,CY,DW,EP,ED,DN,AKV,EW,EJ,AC,AA,AY,AU,BO,BG,BP,BI,AKW,BV,BN,wxP,AB,BF,jF,jD,jE,↓reduceIte,jB,jK,jI,jA,enP,KY,ER,GK,FK,IR g6]
  refine ⟨_,AB8 G vars s nb lb b hb H n1,?_⟩
  simp -implicitDefEqProofs only [FC,DV,CY,EC,DW,EP,IJ,AC,AA,AY,BU,wxP,AB,IZ,BF,BQ,↓reduceIte,jB,jK,jA,enP,A1J,hi,wrap_i64 (n:=(evS vars s.1 b).hi - gap) (by omega) (by omega)]
  refine ACalls.mono (KN G nb lb base Bad vars s i (by omega) 0 ((evS vars s.1 b).hi - gap) (by omega) (by omega) (by omega) (by omega) H hkH n1 (fun q=>hbad (by rw [q]; rfl))) ?_
  rintro v H' ⟨s',e',n',k'⟩
  simp -implicitDefEqProofs only [NU,AA,BF,BQ,↓reduceIte,jB,ABT]
  exact ⟨s',e',n',k',by trivial,by trivial,by trivial,by trivial⟩
 ·have hc : ¬ 0≤vix vars a:=by simpa using hc
  simp -implicitDefEqProofs only [BR,NU,AA,BF,BQ,↓reduceIte,jB]
  exact ⟨s,by unfold atV; rw [if_neg hc],n1,Kp.rfl' _ _ _,by trivial,by trivial,by trivial,by trivial⟩
 rintro F H2 ⟨s1,e1,n2,k2,f0,f3,f5,f6⟩
 rw [e1] at hbad ⊢
 have hbad:atV vars b (fun s i=>OI s i ((evS vars s.1 a).lo+gap) 65535) s1=none→Bad:=hbad
 have g5:=k2.1 _ _ g5 o5.1 o5.2
 have g6:=k2.1 _ _ g6 o6.1 o6.2
 have hkH:=hkH.trans k2
 have k12:=k1.trans k2
 simp -implicitDefEqProofs only [BC,A7]
 refine EX (by kernel_rfl) ?_
 simp -implicitDefEqProofs only [FC,DV,CY,EC,DW,EP,G9,ED,DN,EW,EJ,BC,A8,A7,AZ,AC,AQ,AO,BD,AX,AL,AA,AY,AU,BO,BG,BH,BP,BU,BI,wxP,AB,jF,jD,jE,↓reduceIte,jB,jK,jI,jA,jC,enP,KY,ER,GK,FK,f0,f6,IR g6]
 refine ⟨_,O1 G vars s1.1 nb b H2 n2.ev,?_⟩
 simp -implicitDefEqProofs only [BJ,A7,BA,AL,AA,AY,AB,FQ,↓reduceIte]
 rw [hvb]
 refine CV (fun hc => ?_) (fun hc => ?_)
 ·have hc:0≤vix vars b:=by simpa using hc
  have w:=wfE ha n2
  obtain ⟨w0,w1,w2⟩:=w
  obtain ⟨i,hi⟩:=zI hc
  have hat:atV vars b (fun s i=>OI s i ((evS vars s.1 a).lo+gap) 65535) s1=OI s1 i ((evS vars s1.1 a).lo+gap) 65535:=by unfold atV; rw [if_pos hc,hi,zG]
  rw [hat] at hbad
  refine MB 10 _ (by kernel_rfl) rfl rfl ?_
  simp only [qO,zM]
  simp -implicitDefEqProofs only [FC,DV,CY,DW,EP,ED,DN,AKV,EW,EJ,AC,AA,AY,AU,BO,BG,BP,BI,AKW,BV,BN,wxP,AB,jF,jD,jE,↓reduceIte,jB,jK,jI,jA,enP,KY,ER,GK,FK,f0,f3,f5,IR g5]
  refine ⟨_,AB8 G vars s1 nb lb a ha H2 n2,?_⟩
  simp -implicitDefEqProofs only [FC,DV,CY,EC,DW,EP,IJ,AC,AA,AY,BU,wxP,AB,DY,↓reduceIte,jB,jK,jA,enP,A1I,hi,f3,wrap_i64 (n:=(evS vars s1.1 a).lo+gap) (by omega) (by omega)]
  refine ACalls.mono (KN G nb lb base Bad vars s1 i (by omega) ((evS vars s1.1 a).lo+gap) 65535 (by omega) (by omega) (by omega) (by omega) H2 hkH n2 hbad) ?_
  rintro v H' ⟨s',e',n',k'⟩
  simp -implicitDefEqProofs only [JK,ABT]
  exact ⟨s',by rw [← e',← hat]; rfl,n',k12.trans k'⟩
 ·have hc : ¬ 0≤vix vars b:=by simpa using hc
  simp -implicitDefEqProofs only [BR,JK]
  exact ⟨s1,by rw [Option.bind_some]; unfold atV; rw [if_neg hc],n2,k12⟩
end
theorem AEA (E:Env) (fid:FuncId) (first args caps:List AV) (h:Hp) (K:AV→Hp→Prop):AL1 E (.fn (.func fid) first caps) args h K=ACalls E fid (first ++ (args ++ caps)) h K:=rfl
theorem A0L {G:Nat→AV} {X:Value→Hp→Prop} {f:FuncId} {args:List AV} {h:Hp} {r:AV} {K:AV→Hp→Prop} (hc:PCall (En G) f args h r) (hk:K r h):ACalls ((En G).wx X) f args h K:=PCall.use (E:=(En G).wx X) hc hk
theorem Nw.own {h:Hp} {nb lb:Nat} {vars:List Vr} {s:NS} (n:Nw h nb lb vars s) {i:Nat} (hi:i < s.1.length) : ∃ mb,h[nb]? = some (.live 3 [[.mp mb,.own lb 0 s.1.length,.bool s.2]])∧h[lb]? = some (.live 2 (s.1.map encR)):=by
 obtain ⟨mb,L,ents,h1,rfl,hb,_⟩:=n.put hi (n.wf _ (jQ hi))
 exact ⟨mb,h1,hb⟩
section
variable (G:Nat→AV)
theorem AQB (nb lb:Nat) (base:Hp) (Bad:Prop) (vars:List Vr) (s:NS) (i:Nat) (hi:i < vars.length) (r:Rng) (hr:wfR r) (cb:Nat) (h:Hp) (hcb:h[cb]? = some (.live 1 [[.ptr nb 0 0]])) (hk:Kp nb lb base h) (n:Nw h nb lb vars s) (hbad:feq s i r=none→Bad) :
  ACalls ((En G).wx (X0 nb lb base Bad)) 119 ([.int .i64 (i:Nat),.agg (encR r)] ++ [.ptr cb 0 0]) h (NP nb lb vars h (feq s i r)):=by
 obtain ⟨r0,r1,r2⟩:=hr
 refine JB (H:=Hint.none) (enM G) Tryz.func119 rfl (by kernel_rfl) (by kernel_rfl) (jH (by kernel_rfl)) ?_
 show awp _ _ _ _ _ (EE _ [] _)
 have g4:=C9 h (ABlk.live 2 [encR r])
 have n1:=n.ext ((ext.rfl' h).app [ABlk.live 2 [encR r]])
 have k1:=(Kp.rfl' nb lb h).app (ABlk.live 2 [encR r])
 have hcb':=CX (x:=ABlk.live 2 [encR r]) hcb
 simp -implicitDefEqProofs only [BC,A8,A7,AZ,BA,AC,AQ,AO,BD,AX,AL,AA,AY,FN,BP,wxP,BZ,BF,BQ,zK,zU,↓reduceIte,jB,jA,jC,enP,bxR]
 generalize h ++ [ABlk.live 2 [encR r]]=H at g4 n1 k1 hcb' ⊢
 generalize h.length=b4 at g4 ⊢
 simp -implicitDefEqProofs only [AZ,AC,AQ,AO,BD,AX,AL,AA,AY,BO,BH,BP,BI,BV,BN,wxP,AB,BF,jF,jD,jE,↓reduceIte,jB,jI,jG,jA,jC,enP,GI,GR,IL (t:=66) (by kernel_rfl) hcb',G5 g4,IA g4]
 refine ACalls.mono (KN G nb lb base Bad vars s i hi r.lo r.hi (by omega) (by omega) (by omega) (by omega) H (hk.trans k1) n1 hbad) ?_
 rintro v H' q
 simp -implicitDefEqProofs only [JK,BA,AL]
 exact q.post k1
set_option maxHeartbeats 1000000 in
theorem AP9 (nb lb:Nat) (base:Hp) (Bad:Prop) (vars:List Vr) (s:NS) (i:Nat) (hi:i < vars.length) (r:Rng) (hr:wfR r) (h:Hp) (hk:Kp nb lb base h) (n:Nw h nb lb vars s) (hbad:fne s i r=none→Bad) :
  ACalls ((En G).wx (X0 nb lb base Bad)) 120 ([.ptr nb 0 0] ++ ([.int .i64 (i:Nat),.agg (encR r)] ++ [])) h (NP nb lb vars h (fne s i r)):=by
 obtain ⟨r0,r1,r2⟩:=hr
 refine JB (H:=Hint.none) (enM G) Tryz.func120 rfl (by kernel_rfl) (by kernel_rfl) (jH (by kernel_rfl)) ?_
 show awp _ _ _ _ _ (EE _ [] _)
 have g5:=C9 h (ABlk.live 2 [encR r])
 have n1:=n.ext ((ext.rfl' h).app [ABlk.live 2 [encR r]])
 have k1:=(Kp.rfl' nb lb h).app (ABlk.live 2 [encR r])
 have o5:=n.lt (jL h.length)
 simp -implicitDefEqProofs only [BC,A8,A7,AZ,BA,AC,AQ,AO,BD,AX,AL,AA,AY,FN,BP,wxP,BZ,BF,BQ,jE,zK,zU,↓reduceIte,jA,jC,enP,bxR]
 generalize h ++ [ABlk.live 2 [encR r]]=H at g5 n1 k1 ⊢
 generalize h.length=b5 at g5 o5 ⊢
 have hkH:=hk.trans k1
 simp -implicitDefEqProofs only [AZ,AC,AQ,AO,BD,AX,AL,AA,AY,BO,BV,BN,AB,jF,jD,jE,↓reduceIte,jA,jC,JD g5]
 refine A0L (LQ G r H) ?_
 simp -implicitDefEqProofs only [BJ,A7,AZ,BA,AC,AQ,AO,BD,AX,AL,AA,AY,I5,AB,FO,↓reduceIte,jA,jC]
 unfold fne at hbad ⊢
 refine CV (fun hc => ?_) (fun hc => ?_)
 ·have hc:sgl r=false:=by simpa using hc
  simp -implicitDefEqProofs only [BK,CJ,AQL]
  rw [hc]
  exact ⟨s,rfl,n1,k1⟩
 have hc:sgl r=true:=by simpa using hc
 rw [if_pos hc] at hbad ⊢
 have hil:i < s.1.length:=by rw [n.len]; exact hi
 have gd : ∀ t:NS,∀ hit:i < t.1.length,t.1.getD i IP=t.1[i]:=fun t hit=>by rw [zD,jU hit]; rfl
 obtain ⟨mb,h1,hb⟩:=n1.own hil
 have l29 : ∀ {H:Hp} {c:Bool} {m mb:Nat},H[nb]? = some (.live 3 [[.mp mb,.own lb 0 m,.bool c]])→DL Tryz.prog H 29 (.ptr nb 0 1)=some (.own lb 0 m):=fun q=>by rw [DC (by kernel_rfl) q (row:=_) rfl]; rfl
 have i1:JM 2 H (.own lb 0 s.1.length) (.int .i64 (i:Nat))=some (.ptr lb (0+i) 0):=J9 hb hil
 rw [jG] at i1
 have dlo:DL Tryz.prog H 3 (.ptr lb i 0)=some (.int .i64 s.1[i].lo):=by
  rw [DC ag3 hb (row:=encR s.1[i]) (by rw [zB,jU hil]; rfl)]; rfl
 simp -implicitDefEqProofs only [BC,BR,A7]
 refine EX (by kernel_rfl) ?_
 simp -implicitDefEqProofs only [FC,DV,CY,EC,DW,EP,ED,IJ,DN,EQ,BJ,A7,AC,AA,AY,BP,BU,BI,CQ,wxP,AB,DJ,BF,BQ,↓reduceIte,jB,jK,jI,jG,jA,enP,QS,GI,YY,KY,ER,GK,FK,l29 h1,i1,dlo,G5 g5]
 rw [gd s hil] at hbad ⊢
 refine QL (fun F H' => ∃ s1,(if s.1[i].lo=r.lo then OI s i (r.lo+1) 65535 else some s)=some s1∧Nw H' nb lb vars s1∧Kp nb lb H H'∧F 0 = .ptr nb 0 0∧F 1 = .int .i64 (i:Nat)∧F 5 = .ptr b5 0 0) (fun _ _=>False) (fun hc => ?_) (fun hc => ?_) ?_ (fun _ _ q=>q.elim)
 ·have hc:s.1[i].lo=r.lo:=by simpa using hc
  rw [if_pos hc] at hbad ⊢
  simp -implicitDefEqProofs only [A8,AZ,AC,AQ,AO,BD,AX,AL,AA,AY,AU,BO,BG,BH,BP,BU,BI,BV,BN,wxP,AB,DY,BF,BQ,jF,jD,jE,↓reduceIte,jB,jI,jA,jC,enP,GI,G5 g5,wrap_i64 (n:=r.lo+1) (by omega) (by omega)]
  refine ACalls.mono (KN G nb lb base Bad vars s i hi (r.lo+1) 65535 (by omega) (by omega) (by omega) (by omega) H hkH n1 (fun q=>hbad (by rw [q]; rfl))) ?_
  rintro v H' ⟨s',e',n',k'⟩
  simp -implicitDefEqProofs only [NU,BA,AL,AA,BF,BQ,↓reduceIte,jB]
  exact ⟨s',e',n',k',by trivial,by trivial,by trivial⟩
 ·have hc : ¬ s.1[i].lo=r.lo:=by simpa using hc
  rw [if_neg hc] at hbad ⊢
  simp -implicitDefEqProofs only [BR,NU,AA,BF,BQ,↓reduceIte,jB]
  exact ⟨s,rfl,n1,Kp.rfl' _ _ _,by trivial,by trivial,by trivial⟩
 clear i1 dlo
 rintro F H2 ⟨s1,e1,n2,k2,f0,f1,f5⟩
 rw [e1] at hbad ⊢
 have hbad:(if (s1.1.getD i IP).hi=r.lo then OI s1 i 0 (r.lo - 1) else some s1)=none→Bad:=hbad
 have g5:=k2.1 _ _ g5 o5.1 o5.2
 have hkH:=hkH.trans k2
 have k12:=k1.trans k2
 have hil:i < s1.1.length:=by rw [n2.len]; exact hi
 obtain ⟨mb,h1,hb⟩:=n2.own hil
 have i1:JM 2 H2 (.own lb 0 s1.1.length) (.int .i64 (i:Nat))=some (.ptr lb (0+i) 0):=J9 hb hil
 rw [jG] at i1
 have dhi:DL Tryz.prog H2 3 (.ptr lb i 1)=some (.int .i64 s1.1[i].hi):=by
  rw [DC ag3 hb (row:=encR s1.1[i]) (by rw [zB,jU hil]; rfl)]; rfl
 rw [gd s1 hil] at hbad
 simp -implicitDefEqProofs only [BC,A7]
 refine EX (by kernel_rfl) ?_
 simp -implicitDefEqProofs only [FC,DV,CY,EC,DW,EP,ED,IJ,DN,EQ,BJ,A7,AC,AA,AY,BP,BU,BI,CQ,wxP,AB,DJ,↓reduceIte,jB,jK,jI,jG,jA,enP,QS,GI,GR,YY,KY,ER,GK,FK,f0,f1,f5,l29 h1,i1,dhi,G5 g5]
 refine CV (fun hc => ?_) (fun hc => ?_)
 ·have hc:s1.1[i].hi=r.lo:=by simpa using hc
  rw [if_pos hc] at hbad
  simp -implicitDefEqProofs only [A8,AZ,AC,AQ,AO,BD,AX,AL,AA,AY,AU,BO,BG,BH,BP,BU,BI,BV,BN,wxP,AB,IZ,jF,jD,jE,↓reduceIte,jB,jI,jA,jC,enP,GI,f0,f1,f5,G5 g5,wrap_i64 (n:=r.lo - 1) (by omega) (by omega)]
  refine ACalls.mono (KN G nb lb base Bad vars s1 i hi 0 (r.lo - 1) (by omega) (by omega) (by omega) (by omega) H2 hkH n2 hbad) ?_
  rintro v H' ⟨s',e',n',k'⟩
  simp -implicitDefEqProofs only [JK,BA,AL]
  exact ⟨s',by rw [Option.bind_some,gd s1 hil,if_pos hc]; exact e',n',k12.trans k'⟩
 ·have hc : ¬ s1.1[i].hi=r.lo:=by simpa using hc
  simp -implicitDefEqProofs only [BR,JK]
  exact ⟨s1,by rw [Option.bind_some,gd s1 hil,if_neg hc],n2,k12⟩
set_option maxHeartbeats 2000000 in
theorem ZV (nb lb:Nat) (base:Hp) (Bad:Prop) (vars:List Vr) (s:NS) (a b:Ex) (ha:EOk a) (hb:EOk b) (fid:FuncId) (first caps:List AV) (f:NS→Nat→Rng→Option NS) (h:Hp) (hk:Kp nb lb base h) (n:Nw h nb lb vars s)
  (hf : ∀ (s:NS) (i:Nat) (r:Rng) (H:Hp),i < vars.length→wfR r→Kp nb lb h H→Nw H nb lb vars s→(f s i r=none→Bad)→ACalls ((En G).wx (X0 nb lb base Bad)) fid (first ++ ([.int .i64 (i:Nat),.agg (encR r)] ++ caps)) H (NP nb lb vars H (f s i r)))
  (hbad:YA f vars s a b=none→Bad) :
  ACalls ((En G).wx (X0 nb lb base Bad)) 118 [.ptr nb 0 0,.agg (CW a),.agg (CW b),.fn (.func fid) first caps] h (NP nb lb vars h (YA f vars s a b)):=by
 refine JB (H:=Hint.none) (enM G) Tryz.func118 rfl (by kernel_rfl) (by kernel_rfl) (jH (by kernel_rfl)) ?_
 show awp _ _ _ _ _ (EE _ [] _)
 have g5:=CX (x:=ABlk.live 4 [CW b]) (C9 h (ABlk.live 4 [CW a]))
 have g6:=C9 (h ++ [ABlk.live 4 [CW a]]) (ABlk.live 4 [CW b])
 have n1:=n.ext (((ext.rfl' h).app [ABlk.live 4 [CW a]]).app [ABlk.live 4 [CW b]])
 have k1:=((Kp.rfl' nb lb h).app (ABlk.live 4 [CW a])).app (ABlk.live 4 [CW b])
 have o5:=n.lt (jL h.length)
 have o6:=n.lt (b:=(h ++ [ABlk.live 4 [CW a]]).length) (by simp)
 simp -implicitDefEqProofs only [BC,A8,A7,AZ,BA,AC,AQ,AO,BD,AX,AL,AA,AY,FN,wxP,BZ,BF,BQ,↓reduceIte,jB,jA,jC,enP,bxE]
 generalize h ++ [ABlk.live 4 [CW a]] ++ [ABlk.live 4 [CW b]]=H at g5 g6 n1 k1 ⊢
 generalize (h ++ [ABlk.live 4 [CW a]]).length=b6 at g5 g6 o6 ⊢
 generalize h.length=b5 at g5 g6 o5 ⊢
 have hkH:=hk.trans k1
 refine EX (by kernel_rfl) ?_
 simp -implicitDefEqProofs only [FC,DV,CY,EC,DW,EP,G9,ED,DN,EW,EJ,BC,A8,A7,AZ,AC,AQ,AO,BD,AX,AL,AA,AY,AU,BO,BG,BH,BP,BU,BI,wxP,AB,BF,jF,jD,jE,↓reduceIte,jB,jK,jI,jA,jC,enP,KY,ER,GK,FK,IR g5]
 refine ⟨_,O1 G vars s.1 nb a H n1.ev,?_⟩
 simp -implicitDefEqProofs only [BJ,A7,BA,AL,AA,AY,AB,FQ,↓reduceIte]
 have hra:=SX vars a
 have hrb:=SX vars b
 have hva:(if a.op=2 then plc vars a.name else -1)=vix vars a:=rfl
 have hvb:(if b.op=2 then plc vars b.name else -1)=vix vars b:=rfl
 rw [hva]
 unfold YA at hbad ⊢
 refine QL (fun F H' => ∃ s1,atV vars a (fun s i=>f s i (evS vars s.1 b)) s=some s1∧Nw H' nb lb vars s1∧Kp nb lb H H'∧F 0 = .ptr nb 0 0∧F 3 = .fn (.func fid) first caps∧F 5 = .ptr b5 0 0∧F 6 = .ptr b6 0 0) (fun _ _=>False) (fun hc => ?_) (fun hc => ?_) ?_ (fun _ _ q=>q.elim)
 ·have hc:0≤vix vars a:=by simpa using hc
  obtain ⟨i,hi⟩:=zI hc
  have hat:atV vars a (fun s i=>f s i (evS vars s.1 b)) s=f s i (evS vars s.1 b):=by unfold atV; rw [if_pos hc,hi,zG]
  rw [hat] at hbad ⊢
  refine MB 7 _ (by kernel_rfl) rfl rfl ?_
  simp only [qO,zM]
  simp -implicitDefEqProofs only [FC,DV,CY,EC,DW,EP,ED,DN,EW,EJ,AC,AA,AY,BO,BP,BI,BV,wxP,AB,BF,BQ,jF,jD,jE,↓reduceIte,jB,jK,jI,jA,enP,KY,ER,GK,FK,IR g6]
  refine ⟨_,AB8 G vars s nb lb b hb H n1,?_⟩
  simp -implicitDefEqProofs only [zK,zU,hi,AEA]
  refine ACalls.mono (hf s i _ H (by omega) (wfE hb n1) k1 n1 (fun q=>hbad (by rw [q]; rfl))) ?_
  rintro v H' ⟨s',e',n',k'⟩
  simp -implicitDefEqProofs only [NU,AA,BF,BQ,↓reduceIte,jB,ABT]
  exact ⟨s',e',n',k',by trivial,by trivial,by trivial,by trivial⟩
 ·have hc : ¬ 0≤vix vars a:=by simpa using hc
  simp -implicitDefEqProofs only [BR,NU,AA,BF,BQ,↓reduceIte,jB]
  exact ⟨s,by unfold atV; rw [if_neg hc],n1,Kp.rfl' _ _ _,by trivial,by trivial,by trivial,by trivial⟩
 rintro F H2 ⟨s1,e1,n2,k2,f0,f3,f5,f6⟩
 rw [e1] at hbad ⊢
 have hbad:atV vars b (fun s i=>f s i (evS vars s.1 a)) s1=none→Bad:=hbad
 have g5:=k2.1 _ _ g5 o5.1 o5.2
 have g6:=k2.1 _ _ g6 o6.1 o6.2
 have hkH:=hkH.trans k2
 have k12:=k1.trans k2
 simp -implicitDefEqProofs only [BC,A7]
 refine EX (by kernel_rfl) ?_
 simp -implicitDefEqProofs only [FC,DV,CY,EC,DW,EP,G9,ED,DN,EW,EJ,BC,A8,A7,AZ,AC,AQ,AO,BD,AX,AL,AA,AY,AU,BO,BG,BH,BP,BU,BI,wxP,AB,jF,jD,jE,↓reduceIte,jB,jK,jI,jA,jC,enP,KY,ER,GK,FK,f0,f6,IR g6]
 refine ⟨_,O1 G vars s1.1 nb b H2 n2.ev,?_⟩
 simp -implicitDefEqProofs only [BJ,A7,BA,AL,AA,AY,AB,FQ,↓reduceIte]
 rw [hvb]
 refine CV (fun hc => ?_) (fun hc => ?_)
 ·have hc:0≤vix vars b:=by simpa using hc
  obtain ⟨i,hi⟩:=zI hc
  have hat:atV vars b (fun s i=>f s i (evS vars s.1 a)) s1=f s1 i (evS vars s1.1 a):=by unfold atV; rw [if_pos hc,hi,zG]
  rw [hat] at hbad
  refine MB 7 _ (by kernel_rfl) rfl rfl ?_
  simp only [qO,zM]
  simp -implicitDefEqProofs only [FC,DV,CY,EC,DW,EP,ED,DN,EW,EJ,AC,AA,AY,BO,BP,BI,BV,wxP,AB,jF,jD,jE,↓reduceIte,jB,jK,jI,jA,enP,KY,ER,GK,FK,f0,f3,f5,IR g5]
  refine ⟨_,AB8 G vars s1 nb lb a ha H2 n2,?_⟩
  simp -implicitDefEqProofs only [zK,zU,hi,f3,AEA]
  refine ACalls.mono (hf s1 i _ H2 (by omega) (wfE ha n2) k12 n2 hbad) ?_
  rintro v H' ⟨s',e',n',k'⟩
  simp -implicitDefEqProofs only [JK,ABT]
  exact ⟨s',by rw [← e',← hat]; rfl,n',k12.trans k'⟩
 ·have hc : ¬ 0≤vix vars b:=by simpa using hc
  simp -implicitDefEqProofs only [BR,JK]
  exact ⟨s1,by rw [Option.bind_some]; unfold atV; rw [if_neg hc],n2,k12⟩
end
def RG:List Rng→Int × Int→Int × Int
 | a :: b :: r,p=>RG r (if a.lo≤b.hi then (min p.1 a.lo,max p.2 b.hi) else p)
 | _,p=>p
theorem AMX (l:List Rng) (k:Nat) (p:Int × Int) (hk:k+1 < l.length):RG (l.drop k) p=RG (l.drop (k+2)) (if l[k].lo≤l[k+1].hi then (min p.1 l[k].lo,max p.2 l[k+1].hi) else p):=by
 rw [qC (by omega:k < l.length),qC hk]; rfl
theorem APK (l:List Rng) (k:Nat) (p:Int × Int) (hk:l.length≤k+1):RG (l.drop k) p=p:=by
 rcases Nat.lt_or_ge k l.length with h | h
 ·rw [qC h,qF hk]; rfl
 ·rw [qF h]; rfl
def APJ (vars:List Vr) (s:NS) (i:Nat) (args:List Ex):Option NS:=OI s i (RG (RZ vars s.1 args) (65536,-1)).1 (RG (RZ vars s.1 args) (65536,-1)).2
def RD (p:Int × Int) (w:Wg):Int × Int:=if w.w > 0 then (min p.1 w.lo,max p.2 w.hi) else p
def SS (ws:List Wg):Int × Int:=ws.foldl RD (65536,-1)
def AEQ (s:NS) (d:Ds):Option NS:=OI s d.var.toNat (SS d.ws).1 (SS d.ws).2
theorem AT6 {w:Wg} (h:VT w=false):0≤w.lo∧w.lo≤w.hi∧w.hi≤65535:=by
 unfold VT at h
 simp only [Bool.or_eq_false_iff,decide_eq_false_iff_not] at h
 obtain ⟨⟨⟨⟨h1,h2⟩,h3⟩,_⟩,_⟩:=h
 exact ⟨by omega,by omega,by omega⟩
theorem pcX {G:Nat→AV} {X:Value→Hp→Prop} {f:FuncId} {args:List AV} {h:Hp} {r:AV} (hc:PCall (En G) f args h r):PCall ((En G).wx X) f args h r:=hc
section
variable (G:Nat→AV)
set_option maxHeartbeats 2000000 in
theorem AHB (nb lb:Nat) (base:Hp) (Bad:Prop) (vars:List Vr) (s:NS) (i:Nat) (hi:i < vars.length) (args:List Ex) (m:SM) (ha : ∀ a∈args,EOk a) (hal:args.length≤1048576) (h:Hp) (hk:Kp nb lb base h) (n:Nw h nb lb vars s) (hbad:APJ vars s i args=none→Bad) :
  ACalls ((En G).wx (X0 nb lb base Bad)) 122 [.ptr nb 0 0,.int .i64 (i:Nat),.sl m 4 (args.map CW)] h (NP nb lb vars h (APJ vars s i args)):=by
 refine JB (H:=hint [25,34] []) (enM G) Tryz.func122 rfl (by kernel_rfl) (by kernel_rfl) (jH (by kernel_rfl)) ?_
 show awp _ _ _ _ _ (EE _ [] _)
 simp -implicitDefEqProofs only [EI,jP,jR,jS,jO,BC,CB,A8,A7,AZ,BA,AO,BD,AX,AL,AU,BG,BB,wxP,jA,jC,enP,E8]
 refine IY 0 (fun F H => ∃ lo hi',F 0 = .ptr nb 0 0∧F 1 = .int .i64 (i:Nat)∧F 6 = .int .i64 lo∧F 7 = .int .i64 hi'∧ext h H∧(0≤lo∧lo≤65536∧-1≤hi'∧hi'≤65535)∧RG (RZ vars s.1 args) (65536,-1)=(lo,hi')) (fun _ _=>False) ?_ ?_ (fun _ _ q=>q.elim)
 ·refine D7 (fun n F H => ∃ k lo hi',n+k=args.length+1∧F 0 = .ptr nb 0 0∧F 1 = .int .i64 (i:Nat)∧F 2 = .sl m 4 (args.map CW)∧F 6 = .int .i64 lo∧F 7 = .int .i64 hi'∧F 8 = .int .i64 (k:Nat)∧ext h H∧(0≤lo∧lo≤65536∧-1≤hi'∧hi'≤65535)∧RG (RZ vars s.1 args) (65536,-1)=RG ((RZ vars s.1 args).drop k) (lo,hi')) (args.length+1)
   ⟨0,65536,-1,by simp,by simp -implicitDefEqProofs only [AA,BF,↓reduceIte,jB],by simp -implicitDefEqProofs only [AA,BF,BQ,↓reduceIte,jB],by simp -implicitDefEqProofs only [AA,BF,BQ,↓reduceIte,jB],by simp -implicitDefEqProofs only [AA,↓reduceIte,jB],by simp -implicitDefEqProofs only [AA,↓reduceIte,jB],by simp -implicitDefEqProofs only [AA,↓reduceIte]; rfl,ext.rfl' _,by decide,rfl⟩ ?_
  rintro q F H ⟨k,lo,hi',hq,f0,f1,f2,f6,f7,f8,hx,hbd,he⟩
  simp -implicitDefEqProofs only [EI,jP,jR,jS,jO,BC,A8,BJ,A7,AZ,BA,AO,BD,AX,AL,AA,AY,AU,BG,BH,BU,E5,wxP,AB,DY,DF,↓reduceIte,jB,jA,jC,enP,TT,E8,f2,f8,wrap_succ (show k < 9223372036854775807 by omega),jM]
  refine CV (fun hc => ?_) (fun hc => ?_)
  ·have hc:k+1 < args.length:=by simp at hc; omega
   have hlen:=UQ vars s.1 args
   have hst:=AMX (RZ vars s.1 args) k (lo,hi') (by omega)
   have nH:=n.ext hx
   have a1:=ha _ (jQ (show k < args.length by omega))
   have a2:=ha _ (jQ hc)
   have ev1:(RZ vars s.1 args)[k]'(by omega)=evS vars s.1 args[k]:=by simp [MN]
   have ev2:(RZ vars s.1 args)[k+1]'(by omega)=evS vars s.1 args[k+1]:=by simp [MN]
   rw [ev1,ev2] at hst
   obtain ⟨p0,p1,p2⟩:=wfE a1 nH
   obtain ⟨q0,q1,q2⟩:=wfE a2 nH
   simp -implicitDefEqProofs only [BC,CB,BR,A7]
   refine VG (fun F H'=>F 0 = .ptr nb 0 0∧F 1 = .int .i64 (i:Nat)∧F 2 = .sl m 4 (args.map CW)∧F 6 = .int .i64 lo∧F 7 = .int .i64 hi'∧F 8 = .int .i64 (k:Nat)∧ext H H'∧∃ b9 b10,F 9 = .ptr b9 0 0∧F 10 = .ptr b10 0 0∧H'[b9]? = some (.live 2 [encR (evS vars s.1 args[k])])∧H'[b10]? = some (.live 2 [encR (evS vars s.1 args[k+1])])) (fun _ _=>False) ?_ ?_ (fun _ _ q=>q.elim)
   ·refine AII [] [0,1,2,3,4,5,6,7,8,9,10,11,12,13,14,15,16] 17 18 [19,20] (by kernel_rfl) trivial ?_
    simp only [KI,zC,jZ]
    have g : ∀ r s:Rng,(H ++ [ABlk.live 2 [encR r]] ++ [ABlk.live 2 [encR s]])[H.length]? = some (.live 2 [encR r])∧(H ++ [ABlk.live 2 [encR r]] ++ [ABlk.live 2 [encR s]])[(H ++ [ABlk.live 2 [zR]]).length]? = some (.live 2 [encR s]):=fun r s=>by
     refine ⟨CX (C9 _ _),?_⟩
     have:=C9 (H ++ [ABlk.live 2 [encR r]]) (ABlk.live 2 [encR s])
     rw [← this]; simp
    have sB : ∀ r s:Rng,F7 Tryz.prog (H ++ [ABlk.live 2 [encR r]] ++ [ABlk.live 2 [zR]]) 34 (.ptr (H ++ [ABlk.live 2 [zR]]).length 0 0) (.agg (encR s))=some (H ++ [ABlk.live 2 [encR r]] ++ [ABlk.live 2 [encR s]]):=fun r s=>by
     have:=UA (H ++ [ABlk.live 2 [encR r]]) s
     rw [← this]; simp
    have hxx : ∀ r s:Rng,ext H (H ++ [ABlk.live 2 [encR r]] ++ [ABlk.live 2 [encR s]]):=fun r s=>((ext.rfl' H).app _).app _
    simp -implicitDefEqProofs only [FC,EI,jP,jR,jS,jO,Bool.or_true,DV,CY,EC,DW,EP,XB,ED,IJ,DN,EQ,EW,ANM,AA,AY,AU,BO,BG,EZ,BP,BU,BI,CQ,wxP,AB,DY,jF,jD,jE,↓reduceIte,jB,jK,jI,jA,enP,P9,KY,ER,GK,FK,f0,f1,f2,f6,f7,f8,wrap_succ (show k < 9223372036854775807 by omega),EF (show k < args.length by omega),EF hc,EO MK J4 EN (show k < args.length by omega),EO MK J4 EN hc]
    refine ⟨_,fun x=>pcX (AB8 G vars s nb lb args[k] a1 _ (nH.ext ((ext.rfl' H).app x))),?_⟩
    try simp -implicitDefEqProofs only [f0,f1,f2,f6,f7,f8,wrap_succ (show k < 9223372036854775807 by omega),EF (show k < args.length by omega),EF hc,EO MK J4 EN (show k < args.length by omega),EO MK J4 EN hc]
    refine ⟨_,fun x=>pcX (AB8 G vars s nb lb args[k+1] a2 _ (nH.ext ((ext.rfl' H).app x))),?_⟩
    try simp -implicitDefEqProofs only []
    have A:=fun r s=>(g r s).1
    have B:=fun r s=>(g r s).2
    refine ⟨?_,?_⟩
    ·simp -implicitDefEqProofs only [FC,EI,jP,jR,jS,jO,DV,CY,GN,EC,DW,XB,GL,NU,AA,AY,EZ,CZ,wxP,BZ,CE,↓reduceIte,jB,jK,jG,jA,enP,jJ,OU,AOU,UA,sB]
     exact ⟨f0,f1,f2,f6,f7,f8,hxx _ _,_,_,by trivial,by trivial,A _ _,B _ _⟩
    ·simp -implicitDefEqProofs only [FC,EI,jP,jR,jS,jO,DV,CY,GN,EC,DW,XB,GL,NU,AA,AY,EZ,CZ,wxP,BZ,CE,↓reduceIte,jB,jK,jG,jA,enP,jJ,OU,AOU,UA,sB]
     exact ⟨f0,f1,f2,f6,f7,f8,hxx _ _,_,_,by trivial,by trivial,B _ _,A _ _⟩
   clear f0 f1 f2 f6 f7 f8
   rintro F H1 ⟨f0,f1,f2,f6,f7,f8,hx1,b9,b10,f9,f10,g9,g10⟩
   have hxx:=hx.trans hx1
   have w2:IntKind.i64.wrap ((k:Int)+2)=((k+2:Nat):Int):=by rw [wrap_i64 (by omega) (by omega)]; omega
   simp -implicitDefEqProofs only [EI,jP,jR,jS,jO,BC,A8,BJ,A7,AZ,BA,AO,BD,AX,AL,AA,AY,BP,BU,BI,wxP,AB,I7,↓reduceIte,jB,jI,jG,jA,jC,enP,GI,GR,E8,f9,f10,G5 g9,IA g10]
   refine CV (fun hd => ?_) (fun hd => ?_)
   ·have hd:(evS vars s.1 args[k]).lo≤(evS vars s.1 args[k+1]).hi:=by simpa using hd
    rw [if_pos hd] at hst
    refine EX (by kernel_rfl) ?_
    simp -implicitDefEqProofs only [FC,EI,jP,jR,jS,jO,DV,CY,EC,DW,EP,G9,ED,DN,OE,A8,A7,EK,FI,AZ,BA,AO,BD,AX,AL,AA,AY,AU,BG,BH,BB,BP,BU,BI,ZL,AA0,wxP,AB,DY,UH,WI,↓reduceIte,jB,jK,jI,jG,jA,jC,enP,GI,GR,E8,f6,f7,f8,f9,f10,G5 g9,IA g10,w2]
    exact ⟨q - 2,by omega,k+2,_,_,by omega,by trivial,by trivial,by trivial,by trivial,by trivial,by trivial,hxx,⟨by omega,by omega,by omega,by omega⟩,by rw [he,hst]⟩
   ·have hd : ¬ (evS vars s.1 args[k]).lo≤(evS vars s.1 args[k+1]).hi:=by simpa using hd
    rw [if_neg hd] at hst
    simp -implicitDefEqProofs only [EI,jP,jR,jS,jO,A8,BR,A7,EK,FI,AZ,BA,AO,BD,AX,AL,AA,AY,AU,BG,BH,BB,BU,wxP,AB,DY,↓reduceIte,jB,jA,jC,enP,E8,f8,w2]
    exact ⟨q - 2,by omega,k+2,_,_,by omega,by trivial,by trivial,by trivial,by trivial,by trivial,by trivial,hxx,hbd,by rw [he,hst]⟩
  ·have hc : ¬ k+1 < args.length:=by simp at hc; omega
   rw [APK _ _ _ (by rw [UQ]; omega)] at he
   simp -implicitDefEqProofs only [D6,EU,MX,FX,AA,↓reduceIte,jB]
   exact ⟨lo,hi',f0,f1,f6,f7,hx,hbd,he⟩
 ·rintro F H ⟨lo,hi',f0,f1,f6,f7,hx,⟨b1,b2,b3,b4⟩,he⟩
  have nH:=n.ext hx
  have kH:=Kp.ofExt (nb:=nb) (lb:=lb) hx
  unfold APJ at hbad ⊢
  rw [he] at hbad ⊢
  simp -implicitDefEqProofs only [EI,jP,jR,jS,jO,A8,A7,FT,AZ,AO,BD,AX,AL,AA,AY,BO,BH,BV,BN,jF,jD,jE,↓reduceIte,jB,jA,jC,E8,f0,f1,f6,f7]
  refine ACalls.mono (KN G nb lb base Bad vars s i hi lo hi' (by omega) (by omega) (by omega) (by omega) H (hk.trans kH) nH hbad) ?_
  rintro v H' qq
  simp -implicitDefEqProofs only [JK,BA,AL]
  exact qq.post kH
set_option maxHeartbeats 1000000 in
theorem AN8 (nb lb:Nat) (base:Hp) (Bad:Prop) (vars:List Vr) (s:NS) (d:Ds) (hv:NI vars d.var=true) (hw : ∀ w∈d.ws,VT w=false) (hwl:d.ws.length≤1048576) (h:Hp) (hk:Kp nb lb base h) (n:Nw h nb lb vars s) (hbad:AEQ s d=none→Bad) :
  ACalls ((En G).wx (X0 nb lb base Bad)) 65 [.ptr nb 0 0,.agg (IU d)] h (NP nb lb vars h (AEQ s d)):=by
 obtain ⟨i,hi,hvi,_⟩:=U4 hv
 refine JB (H:=Hint.none) (enM G) Tryz.func65 rfl (by kernel_rfl) (by kernel_rfl) (jH (by kernel_rfl)) ?_
 show awp _ _ _ _ _ (EE _ [] _)
 have g3:=C9 h (ABlk.live 2 [IU d])
 have hx0:ext h (h ++ [ABlk.live 2 [IU d]]):=(ext.rfl' h).app _
 simp -implicitDefEqProofs only [BC,A8,A7,AZ,BA,AC,AQ,AO,BD,AX,AL,AA,AY,AU,BG,BB,FN,BP,BI,wxP,BZ,AB,BF,BQ,↓reduceIte,jB,jG,jA,jC,enP,WO,bxD]
 generalize h ++ [ABlk.live 2 [IU d]]=H0 at g3 hx0 ⊢
 generalize h.length=b3 at g3 ⊢
 have l50:DL Tryz.prog H0 50 (.ptr b3 0 1)=some (.sl d.wm 4 (d.ws.map IG)):=by rw [DC AUF g3 (row:=IU d) rfl]; rfl
 simp -implicitDefEqProofs only [CB,A7,AZ,BA,AC,AQ,AO,BD,AX,AL,AA,AY,AU,BG,BH,E5,wxP,AB,↓reduceIte,jA,jC,enP,AM2,l50,jM]
 refine IY 0 (fun F H=>F 0 = .ptr nb 0 0∧F 3 = .ptr b3 0 0∧F 4 = .int .i64 (SS d.ws).1∧F 5 = .int .i64 (SS d.ws).2∧ext H0 H∧(0≤(SS d.ws).1∧(SS d.ws).1≤65536∧-1≤(SS d.ws).2∧(SS d.ws).2≤65535)) (fun _ _=>False) ?_ ?_ (fun _ _ q=>q.elim)
 ·refine D7 (fun n F H => ∃ k,n+k=d.ws.length∧F 0 = .ptr nb 0 0∧F 3 = .ptr b3 0 0∧F 4 = .int .i64 (SS (d.ws.take k)).1∧F 5 = .int .i64 (SS (d.ws.take k)).2∧F 9 = .sl d.wm 4 (d.ws.map IG)∧F 10 = .int .i64 (d.ws.length:Nat)∧F 11 = .int .i64 (k:Nat)∧ext H0 H∧(0≤(SS (d.ws.take k)).1∧(SS (d.ws.take k)).1≤65536∧-1≤(SS (d.ws.take k)).2∧(SS (d.ws.take k)).2≤65535)) d.ws.length
   ⟨0,by simp,by simp -implicitDefEqProofs only [AA,BF,↓reduceIte,jB],by simp -implicitDefEqProofs only [AA,↓reduceIte,jB],by simp -implicitDefEqProofs only [AA,↓reduceIte,jB]; rfl,by simp -implicitDefEqProofs only [AA,↓reduceIte,jB]; rfl,by simp -implicitDefEqProofs only [AA,↓reduceIte,jB],by simp -implicitDefEqProofs only [AA,↓reduceIte,jB],by simp -implicitDefEqProofs only [AA,↓reduceIte]; rfl,ext.rfl' _,by rw [zM]; decide⟩ ?_
  rintro q F H ⟨k,hq,f0,f3,f4,f5,f9,f10,f11,hx,hbd⟩
  simp -implicitDefEqProofs only [BC,A8,BJ,A7,AZ,BA,AC,AQ,AO,BD,AX,AL,AA,AY,BU,wxP,AB,DF,↓reduceIte,jA,jC,enP,f10,f11]
  refine CV (fun hc => ?_) (fun hc => ?_)
  ·have hk':k < d.ws.length:=by simpa using hc
   have hst:SS (d.ws.take (k+1))=RD (SS (d.ws.take k)) d.ws[k]:=by unfold SS; rw [zT hk',List.foldl_append]; rfl
   obtain ⟨w0,w1,w2⟩:=AT6 (hw _ (jQ hk'))
   have g7:=C9 H (ABlk.live 4 [IG d.ws[k]])
   have hx1:=hx.app [ABlk.live 4 [IG d.ws[k]]]
   simp -implicitDefEqProofs only [BC,CB,A8,BR,A7,AZ,BA,AC,AQ,AO,BD,AX,AL,DZ,AA,AY,EZ,BP,CZ,BI,CQ,wxP,BZ,AB,CE,↓reduceIte,jB,jG,jA,jC,enP,ATC,YX,jJ,f9,f11,EF hk',EO AUE AMH SA hk',AXG,AVQ]
   generalize H ++ [ABlk.live 4 [IG d.ws[k]]]=H1 at g7 hx1 ⊢
   generalize H.length=b7 at g7 ⊢
   have e0:DL Tryz.prog H1 3 (.ptr b7 0 0)=some (.int .i64 d.ws[k].lo):=by rw [DC ag3 g7 (row:=IG d.ws[k]) rfl]; rfl
   have e1:DL Tryz.prog H1 3 (.ptr b7 0 1)=some (.int .i64 d.ws[k].hi):=by rw [DC ag3 g7 (row:=IG d.ws[k]) rfl]; rfl
   have e2:DL Tryz.prog H1 3 (.ptr b7 0 2)=some (.int .i64 d.ws[k].w):=by rw [DC ag3 g7 (row:=IG d.ws[k]) rfl]; rfl
   simp -implicitDefEqProofs only [BJ,A7,AZ,BA,AC,AQ,AO,BD,AX,AL,AA,AY,AU,BG,BU,wxP,AB,EY,↓reduceIte,jA,jC,enP,e2]
   unfold RD at hst
   refine CV (fun hd => ?_) (fun hd => ?_)
   ·have hd:d.ws[k].w > 0:=by simpa using hd
    rw [if_pos hd] at hst
    refine EX (by kernel_rfl) ?_
    simp -implicitDefEqProofs only [FC,DV,CY,EC,DW,EP,G9,ED,DN,OE,A8,A7,EK,FI,AZ,BA,AC,AQ,AO,BD,AX,AL,AA,AY,AU,BG,BH,BP,BU,BI,ZL,AA0,wxP,AB,DY,UH,WI,↓reduceIte,jB,jK,jI,jG,jA,jC,enP,PO,RJ,f4,f5,e0,e1,f11,wrap_succ (show k < 9223372036854775807 by omega)]
    refine ⟨q - 1,by omega,k+1,by omega,by trivial,by trivial,by rw [hst],by rw [hst],by trivial,by trivial,by trivial,hx1,?_⟩
    rw [hst]
    exact ⟨by show 0≤min _ _; omega,by show min _ _≤_; omega,by show -1≤max _ _; omega,by show max _ _≤_; omega⟩
   ·have hd : ¬ d.ws[k].w > 0:=by simpa using hd
    rw [if_neg hd] at hst
    simp -implicitDefEqProofs only [A8,BR,A7,EK,FI,AZ,BA,AC,AQ,AO,BD,AX,AL,AA,AY,AU,BG,BH,BU,wxP,AB,DY,↓reduceIte,jB,jA,jC,enP,f11,wrap_succ (show k < 9223372036854775807 by omega)]
    exact ⟨q - 1,by omega,k+1,by omega,by trivial,by trivial,by rw [hst]; exact f4,by rw [hst]; exact f5,by trivial,by trivial,by trivial,hx1,by rw [hst]; exact hbd⟩
  ·have hk' : ¬ k < d.ws.length:=by simpa using hc
   rw [jX (by omega)] at f4 f5 hbd
   simp -implicitDefEqProofs only [D6,EU,MX,FX,AA,↓reduceIte,jB]
   exact ⟨f0,f3,f4,f5,hx,hbd⟩
 ·rintro F H ⟨f0,f3,f4,f5,hx,⟨b1,b2,b3',b4⟩⟩
  have hxx:=hx0.trans hx
  have nH:=n.ext hxx
  have kH:=Kp.ofExt (nb:=nb) (lb:=lb) hxx
  have l3:DL Tryz.prog H 3 (.ptr b3 0 0)=some (.int .i64 d.var):=by rw [DC ag3 (FP hx g3) (row:=IU d) rfl]; rfl
  have hd:AEQ s d=OI s i (SS d.ws).1 (SS d.ws).2:=by unfold AEQ; rw [hvi,zG]
  rw [hd] at hbad ⊢
  simp -implicitDefEqProofs only [A8,A7,FT,AZ,AC,AQ,AO,BD,AX,AL,AA,AY,BO,BH,BP,BI,BV,BN,wxP,AB,jF,jD,jE,↓reduceIte,jB,jI,jA,jC,enP,UO,f0,f3,f4,f5,l3,hvi]
  refine ACalls.mono (KN G nb lb base Bad vars s i hi _ _ (by omega) (by omega) (by omega) (by omega) H (hk.trans kH) nH hbad) ?_
  rintro v H' qq
  simp -implicitDefEqProofs only [JK,BA,AL]
  exact qq.post kH
end
def ex0:Ex := .mk 0 0 ⟨#[]⟩ .nil []
def APG (vars:List Vr) (op:Int) (name:ByteArray) (args:List Ex) (rec:NS→Option NS) (s:NS):Option NS :=
 if op=2∧0≤plc vars name then OI s (plc vars name).toNat 1 65535
 else if op=4 then atV vars (args.getD 0 ex0) (fun s i=>OI s i 0 0) s
 else if op=19 then rec s
 else if op=15 then YA feq vars s (args.getD 0 ex0) (args.getD 1 ex0)
 else if op=16 then YA fne vars s (args.getD 0 ex0) (args.getD 1 ex0)
 else if op=17 then AE1 vars s (args.getD 0 ex0) (args.getD 1 ex0) 1
 else if op=18 then AE1 vars s (args.getD 0 ex0) (args.getD 1 ex0) 0
 else if op=23 then atV vars (args.getD 0 ex0) (fun s i=>APJ vars s i (args.drop 1)) s
 else some s
mutual
def RS (vars:List Vr):Ex→NS→Option NS
 | .mk op _ name _ args=>APG vars op name args (TD vars args)
def TD (vars:List Vr):List Ex→NS→Option NS
 | []=>fun s=>some s
 | e :: es=>fun s=>(RS vars e s).bind (TD vars es)
end
theorem AE4 (vars:List Vr) (e:Ex) (s:NS):RS vars e s=APG vars e.op e.name e.args (TD vars e.args) s:=by cases e; simp [RS,Ex.op,Ex.name,Ex.args]
theorem AS9 {h:Hp} {c nb:Nat} (hc:h[c]? = some (.live 1 [[.ptr nb 0 0]])):DL Tryz.prog h 66 (.ptr c 0 0)=some (.ptr nb 0 0):=IL A2E hc
theorem A12 (h:Hp) (nb:Nat):PG h (.ptr nb 0 0)=some (.ptr h.length 0 0,h ++ [ABlk.live 1 [[.ptr nb 0 0]]]):=rfl
section
variable (G:Nat→AV)
set_option maxHeartbeats 4000000 in
theorem AG9 (nb lb:Nat) (base:Hp) (Bad:Prop) (vars:List Vr) (e:Ex):EOk e→∀ (s:NS) (h:Hp),Kp nb lb base h→Nw h nb lb vars s→(RS vars e s=none→Bad) →
  ACalls ((En G).wx (X0 nb lb base Bad)) 66 [.ptr nb 0 0,.agg (CW e)] h (NP nb lb vars h (RS vars e s)):=by
 induction e using Ex.induct with | h e ih => ?_
 intro he s h hk n hbad
 have hnode:=he.n e (by rw [pre_eq]; simp)
 obtain ⟨a1,a25,ar1,ar3,arI,ar2⟩:=AAV hnode
 have hal:e.args.length≤1048576:=by have:=he.w; have:=PQ e; have:=XC e.args; omega
 rw [AE4] at hbad ⊢
 refine JB (H:=Hint.none) (enM G) Tryz.func66 rfl (by kernel_rfl) (by kernel_rfl) (jH (by kernel_rfl)) ?_
 show awp _ _ _ _ _ (EE _ [] _)
 have g2:=CX (x:=ABlk.live 4 [CW e]) (C9 h (ABlk.live 1 [[.ptr nb 0 0]]))
 have g3:=C9 (h ++ [ABlk.live 1 [[.ptr nb 0 0]]]) (ABlk.live 4 [CW e])
 have n1:=n.ext (((ext.rfl' h).app [ABlk.live 1 [[.ptr nb 0 0]]]).app [ABlk.live 4 [CW e]])
 have k1:=((Kp.rfl' nb lb h).app (ABlk.live 1 [[.ptr nb 0 0]])).app (ABlk.live 4 [CW e])
 have o2:=n.lt (jL h.length)
 have o3:=n.lt (b:=(h ++ [ABlk.live 1 [[.ptr nb 0 0]]]).length) (by simp)
 simp -implicitDefEqProofs only [BC,A8,A7,AZ,BA,AC,AQ,AO,BD,AX,AL,AA,AY,FN,wxP,BZ,BF,BQ,↓reduceIte,jB,jA,jC,enP,A12,bxE]
 generalize h ++ [ABlk.live 1 [[.ptr nb 0 0]]] ++ [ABlk.live 4 [CW e]]=H at g2 g3 n1 k1 ⊢
 generalize (h ++ [ABlk.live 1 [[.ptr nb 0 0]]]).length=b3 at g2 g3 o3 ⊢
 generalize h.length=b2 at g2 g3 o2 ⊢
 have hkH:=hk.trans k1
 have q2:=AS9 g2
 have qE:=IR g3
 have q0:DL Tryz.prog H 3 (.ptr b3 0 0)=some (.int .i64 e.op):=by rw [DC ag3 g3 (row:=CW e) rfl,JE]
 have q3:DL Tryz.prog H 23 (.ptr b3 0 3)=some (.sl e.m 4 (e.args.map CW)):=by rw [DC QU g3 (row:=CW e) rfl,SB]
 have gd : ∀ (k:Nat) (hk:k < e.args.length),e.args.getD k ex0=e.args[k]:=fun k hk=>by rw [zD,jU hk]; rfl
 refine EX (by kernel_rfl) ?_
 simp -implicitDefEqProofs only [FC,DV,CY,EC,DW,G9,ED,DN,EW,EJ,BC,A8,A7,AZ,AC,AQ,AO,BD,AX,AL,AA,AY,AU,BO,BG,BH,BP,BU,BI,wxP,AB,jF,jD,jE,↓reduceIte,jB,jK,jI,jA,jC,enP,KY,ER,GK,FK,q2,qE]
 refine ⟨_,O1 G vars s.1 nb e H n1.ev,?_⟩
 simp -implicitDefEqProofs only [BJ,A7,BA,AL,AA,AY,AB,FQ,↓reduceIte]
 have hve:(if e.op=2 then plc vars e.name else -1)=vix vars e:=rfl
 rw [hve]
 have hre:=SX vars e
 unfold APG at hbad ⊢
 refine CV (fun hc => ?_) (fun hc => ?_)
 ·have hc:0≤vix vars e:=by simpa using hc
  have h2:e.op=2∧0≤plc vars e.name:=by
   unfold vix at hc
   by_cases q:e.op=2
   ·rw [if_pos q] at hc; exact ⟨q,hc⟩
   ·rw [if_neg q] at hc; omega
  have hv:vix vars e=plc vars e.name:=by unfold vix; rw [if_pos h2.1]
  rw [if_pos h2] at hbad ⊢
  rw [← hv] at hbad ⊢
  obtain ⟨i,hi⟩:=zI hc
  rw [hi,zG] at hbad ⊢
  simp -implicitDefEqProofs only [BC,A8,AZ,AC,AQ,AO,BD,AX,AL,AA,AY,AU,BO,BG,BH,BP,BV,BN,wxP,AB,jF,jD,jE,↓reduceIte,jB,jA,jC,enP,q2]
  refine ACalls.mono (KN G nb lb base Bad vars s i (by omega) 1 65535 (by omega) (by omega) (by omega) (by omega) H hkH n1 hbad) ?_
  rintro v H' qq
  simp -implicitDefEqProofs only [BK,A7,CJ,AQL,BA,AL]
  exact qq.post k1
 have hc : ¬ 0≤vix vars e:=by simpa using hc
 have hn2 : ¬ (e.op=2∧0≤plc vars e.name):=fun q=>hc (by unfold vix; rw [if_pos q.1]; exact q.2)
 rw [if_neg hn2] at hbad ⊢
 simp -implicitDefEqProofs only [BC,CB,A8,BR,BJ,A7,AZ,BA,AC,AQ,AO,BD,AX,AL,AA,AY,AU,BG,BB,BP,BU,BI,wxP,AB,DJ,↓reduceIte,jB,jI,jA,jC,enP,GU,q0]
 by_cases h4:e.op=4
 ·have c4:(e.op == 4)=true:=by simpa using h4
  rw [if_pos h4] at hbad ⊢
  have hl:=ar1 (.inl h4)
  have x0:0 < e.args.length:=by omega
  have m0:e.args[0]∈e.args:=jQ x0
  have i0:JM 4 H (.sl e.m 4 (e.args.map CW)) (.int .i64 0)=some (.fptr 4 (e.args.map CW) 0 0):=EF (n:=0) x0
  have d0:DL Tryz.prog H 40 (.fptr 4 (e.args.map CW) 0 0)=some (.agg (CW e.args[0])):=EO MK J4 EN x0
  rw [gd 0 x0] at hbad ⊢
  simp -implicitDefEqProofs only [BC,DR,c4]
  refine EX (by kernel_rfl) ?_
  simp -implicitDefEqProofs only [FC,DV,CY,EC,DW,G9,ED,DN,EQ,EW,EJ,BC,A8,A7,AZ,AC,AQ,AO,BD,AX,AL,AA,AY,AU,BO,BG,BH,BP,BU,BI,CQ,wxP,AB,jF,jD,jE,↓reduceIte,jB,jK,jI,jG,jA,jC,enP,P9,JW,KY,ER,GK,FK,q2,q3,i0,d0]
  refine ⟨_,O1 G vars s.1 nb e.args[0] H n1.ev,?_⟩
  simp -implicitDefEqProofs only [BJ,A7,BA,AL,AA,AY,AB,FQ,↓reduceIte]
  have hva:(if e.args[0].op=2 then plc vars e.args[0].name else -1)=vix vars e.args[0]:=rfl
  rw [hva]
  have hra:=SX vars e.args[0]
  unfold atV at hbad ⊢
  refine CV (fun hd => ?_) (fun hd => ?_)
  ·have hd:(0:Int)≤vix vars e.args[0]:=by simpa using hd
   rw [if_pos hd] at hbad ⊢
   obtain ⟨i,hi⟩:=zI hd
   rw [hi,zG] at hbad ⊢
   simp -implicitDefEqProofs only [A8,AZ,AC,AQ,AO,BD,AX,AL,AA,AY,AU,BO,BG,BH,BP,BV,BN,wxP,AB,jF,jD,jE,↓reduceIte,jB,jA,jC,enP,q2,hi]
   refine ACalls.mono (KN G nb lb base Bad vars s i (by omega) 0 0 (by omega) (by omega) (by omega) (by omega) H hkH n1 hbad) ?_
   rintro v H' qq
   simp -implicitDefEqProofs only [EK,JK,BA,AL]
   exact qq.post k1
  ·have hd : ¬ (0:Int)≤vix vars e.args[0]:=by simpa using hd
   rw [if_neg hd]
   simp -implicitDefEqProofs only [BR,EK,JK]
   exact ⟨s,rfl,n1,k1⟩
 have c4:(e.op == 4)=false:=by simpa using h4
 rw [if_neg h4] at hbad ⊢
 by_cases h19:e.op=19
 ·have c19:(e.op == 19)=true:=by simpa using h19
  rw [if_pos h19] at hbad ⊢
  have hl:=ar2 (by omega) (by omega)
  have x0:0 < e.args.length:=by omega
  have x1:1 < e.args.length:=by omega
  have m0:e.args[0]∈e.args:=jQ x0
  have m1:e.args[1]∈e.args:=jQ x1
  have i0:JM 4 H (.sl e.m 4 (e.args.map CW)) (.int .i64 0)=some (.fptr 4 (e.args.map CW) 0 0):=EF (n:=0) x0
  have d0:DL Tryz.prog H 40 (.fptr 4 (e.args.map CW) 0 0)=some (.agg (CW e.args[0])):=EO MK J4 EN x0
  have hnl : ∀ s,TD vars e.args s=(RS vars e.args[0] s).bind fun s=>RS vars e.args[1] s:=fun s=>by
   have:e.args = [e.args[0],e.args[1]]:=by
    apply List.ext_getElem (by simp [hl])
    intro j hj _
    match j,hj with
    | 0,_=>rfl
    | 1,_=>rfl
    | j+2,hj=>omega
   conv=>lhs; rw [this]
   show (RS vars e.args[0] s).bind (fun s=>(RS vars e.args[1] s).bind fun s=>some s)=_
   congr 1; funext s; cases RS vars e.args[1] s <;> rfl
  rw [hnl] at hbad ⊢
  simp -implicitDefEqProofs only [BC,A8,BJ,A7,DR,DX,AZ,BA,AC,AQ,AO,BD,AX,AL,AA,AY,AU,BG,BB,BU,wxP,AB,DJ,↓reduceIte,jB,jA,jC,enP,c4,c19]
  refine VG (fun F H' => ∃ s1,RS vars e.args[0] s=some s1∧Nw H' nb lb vars s1∧Kp nb lb H H'∧F 2 = .ptr b2 0 0∧F 3 = .ptr b3 0 0) (fun _ _=>False) ?_ ?_ (fun _ _ q=>q.elim)
  ·refine MB 5 _ (by kernel_rfl) rfl rfl ?_
   simp only [qO,zM]
   simp -implicitDefEqProofs only [FC,DV,CY,EC,DW,ED,DN,EQ,AC,AA,AY,AU,BO,BG,BP,BI,CQ,BV,BN,wxP,AB,jF,jD,jE,↓reduceIte,jB,jK,jG,jA,enP,P9,JW,q2,q3,i0,d0]
   refine ACalls.mono (ih e.args[0] m0 (he.arg m0) s H hkH n1 (fun q=>hbad (by rw [q]; rfl))) ?_
   rintro v H' ⟨s',e',n',k'⟩
   simp -implicitDefEqProofs only [NU,AA,↓reduceIte,jB,ABT]
   exact ⟨s',e',n',k',by trivial,by trivial⟩
  rintro F H2 ⟨s1,e1,n2,k2,f2,f3⟩
  rw [e1] at hbad ⊢
  have hbad:RS vars e.args[1] s1=none→Bad:=hbad
  have g2:=k2.1 _ _ g2 o2.1 o2.2
  have g3:=k2.1 _ _ g3 o3.1 o3.2
  have q3:DL Tryz.prog H2 23 (.ptr b3 0 3)=some (.sl e.m 4 (e.args.map CW)):=by rw [DC QU g3 (row:=CW e) rfl,SB]
  have i1:JM 4 H2 (.sl e.m 4 (e.args.map CW)) (.int .i64 1)=some (.fptr 4 (e.args.map CW) 1 0):=EF (n:=1) x1
  have d1:DL Tryz.prog H2 40 (.fptr 4 (e.args.map CW) 1 0)=some (.agg (CW e.args[1])):=EO MK J4 EN x1
  simp -implicitDefEqProofs only [A7]
  refine MB 5 _ (by kernel_rfl) rfl rfl ?_
  simp only [qO,zM]
  simp -implicitDefEqProofs only [FC,DV,CY,EC,DW,ED,DN,EQ,AC,AA,AY,AU,BO,BG,BP,BI,CQ,BV,BN,wxP,AB,jF,jD,jE,↓reduceIte,jB,jK,jG,jA,enP,P9,JW,f2,f3,AS9 g2,q3,i1,d1]
  refine ACalls.mono (ih e.args[1] m1 (he.arg m1) s1 H2 (hkH.trans k2) n2 hbad) ?_
  rintro v H' qq
  simp -implicitDefEqProofs only [EK,JK,ABT]
  exact qq.post (k1.trans k2)
 have c19:(e.op == 19)=false:=by simpa using h19
 rw [if_neg h19] at hbad ⊢
 by_cases h15:e.op=15
 ·have c15:(e.op == 15)=true:=by simpa using h15
  rw [if_pos h15] at hbad ⊢
  have hl:=ar2 (by omega) (by omega)
  have x0:0 < e.args.length:=by omega
  have x1:1 < e.args.length:=by omega
  have m0:e.args[0]∈e.args:=jQ x0
  have m1:e.args[1]∈e.args:=jQ x1
  have i0:JM 4 H (.sl e.m 4 (e.args.map CW)) (.int .i64 0)=some (.fptr 4 (e.args.map CW) 0 0):=EF (n:=0) x0
  have d0:DL Tryz.prog H 40 (.fptr 4 (e.args.map CW) 0 0)=some (.agg (CW e.args[0])):=EO MK J4 EN x0
  have i1:JM 4 H (.sl e.m 4 (e.args.map CW)) (.int .i64 1)=some (.fptr 4 (e.args.map CW) 1 0):=EF (n:=1) x1
  have d1:DL Tryz.prog H 40 (.fptr 4 (e.args.map CW) 1 0)=some (.agg (CW e.args[1])):=EO MK J4 EN x1
  rw [gd 0 x0,gd 1 x1] at hbad ⊢
  simp -implicitDefEqProofs only [BC,A8,BJ,A7,DR,DX,AZ,BA,AC,AQ,AO,BD,AX,AL,AA,AY,AU,BG,BB,BU,wxP,AB,DJ,↓reduceIte,jB,jA,jC,enP,c4,c19,c15]
  refine MB 10 _ (by kernel_rfl) rfl rfl ?_
  simp only [qO,zM]
  simp -implicitDefEqProofs only [FC,DV,CY,EC,DW,ED,AAZ,DN,EQ,AC,AA,AY,AU,BO,BG,BP,JF,BI,CQ,BV,BN,wxP,AB,jF,jD,jE,↓reduceIte,jB,jK,jG,jA,enP,P9,JW,q2,q3,i0,d0,i1,d1]
  refine ACalls.mono (ZV G nb lb base Bad vars s e.args[0] e.args[1] (he.arg m0) (he.arg m1) 119 [] [.ptr b2 0 0] feq H hkH n1 (fun s i r H' hi hr hk' n' hb'=>AQB G nb lb base Bad vars s i hi r hr b2 H' (hk'.1 _ _ g2 o2.1 o2.2) (hkH.trans hk') n' hb') hbad) ?_
  rintro v H' qq
  simp -implicitDefEqProofs only [EK,JK,ABT]
  exact qq.post k1
 have c15:(e.op == 15)=false:=by simpa using h15
 rw [if_neg h15] at hbad ⊢
 by_cases h16:e.op=16
 ·have c16:(e.op == 16)=true:=by simpa using h16
  rw [if_pos h16] at hbad ⊢
  have hl:=ar2 (by omega) (by omega)
  have x0:0 < e.args.length:=by omega
  have x1:1 < e.args.length:=by omega
  have m0:e.args[0]∈e.args:=jQ x0
  have m1:e.args[1]∈e.args:=jQ x1
  have i0:JM 4 H (.sl e.m 4 (e.args.map CW)) (.int .i64 0)=some (.fptr 4 (e.args.map CW) 0 0):=EF (n:=0) x0
  have d0:DL Tryz.prog H 40 (.fptr 4 (e.args.map CW) 0 0)=some (.agg (CW e.args[0])):=EO MK J4 EN x0
  have i1:JM 4 H (.sl e.m 4 (e.args.map CW)) (.int .i64 1)=some (.fptr 4 (e.args.map CW) 1 0):=EF (n:=1) x1
  have d1:DL Tryz.prog H 40 (.fptr 4 (e.args.map CW) 1 0)=some (.agg (CW e.args[1])):=EO MK J4 EN x1
  rw [gd 0 x0,gd 1 x1] at hbad ⊢
  simp -implicitDefEqProofs only [BC,A8,BJ,A7,DR,DX,AZ,BA,AC,AQ,AO,BD,AX,AL,AA,AY,AU,BG,BB,BU,wxP,AB,DJ,↓reduceIte,jB,jA,jC,enP,c4,c19,c15,c16]
  refine MB 11 _ (by kernel_rfl) rfl rfl ?_
  simp only [qO,zM]
  simp -implicitDefEqProofs only [FC,DV,CY,EC,DW,ED,AAZ,DN,EQ,AC,AA,AY,AU,BO,BG,BP,JF,BI,CQ,BV,BN,wxP,AB,jF,jD,jE,↓reduceIte,jB,jK,jG,jA,enP,P9,JW,q2,q3,i0,d0,i1,d1]
  refine ACalls.mono (ZV G nb lb base Bad vars s e.args[0] e.args[1] (he.arg m0) (he.arg m1) 120 [.ptr nb 0 0] [] fne H hkH n1 (fun s i r H' hi hr hk' n' hb'=>AP9 G nb lb base Bad vars s i hi r hr H' (hkH.trans hk') n' hb') hbad) ?_
  rintro v H' qq
  simp -implicitDefEqProofs only [EK,JK,ABT]
  exact qq.post k1
 have c16:(e.op == 16)=false:=by simpa using h16
 rw [if_neg h16] at hbad ⊢
 by_cases h17:e.op=17
 ·have c17:(e.op == 17)=true:=by simpa using h17
  rw [if_pos h17] at hbad ⊢
  have hl:=ar2 (by omega) (by omega)
  have x0:0 < e.args.length:=by omega
  have x1:1 < e.args.length:=by omega
  have m0:e.args[0]∈e.args:=jQ x0
  have m1:e.args[1]∈e.args:=jQ x1
  have i0:JM 4 H (.sl e.m 4 (e.args.map CW)) (.int .i64 0)=some (.fptr 4 (e.args.map CW) 0 0):=EF (n:=0) x0
  have d0:DL Tryz.prog H 40 (.fptr 4 (e.args.map CW) 0 0)=some (.agg (CW e.args[0])):=EO MK J4 EN x0
  have i1:JM 4 H (.sl e.m 4 (e.args.map CW)) (.int .i64 1)=some (.fptr 4 (e.args.map CW) 1 0):=EF (n:=1) x1
  have d1:DL Tryz.prog H 40 (.fptr 4 (e.args.map CW) 1 0)=some (.agg (CW e.args[1])):=EO MK J4 EN x1
  rw [gd 0 x0,gd 1 x1] at hbad ⊢
  simp -implicitDefEqProofs only [BC,A8,BJ,A7,DR,DX,AZ,BA,AC,AQ,AO,BD,AX,AL,AA,AY,AU,BG,BB,BU,wxP,AB,DJ,↓reduceIte,jB,jA,jC,enP,c4,c19,c15,c16,c17]
  refine MB 9 _ (by kernel_rfl) rfl rfl ?_
  simp only [qO,zM]
  simp -implicitDefEqProofs only [FC,DV,CY,EC,DW,ED,DN,EQ,AC,AA,AY,AU,BO,BG,BP,BI,CQ,BV,BN,wxP,AB,jF,jD,jE,↓reduceIte,jB,jK,jG,jA,enP,P9,JW,q2,q3,i0,d0,i1,d1]
  refine ACalls.mono (ABH G nb lb base Bad vars s e.args[0] e.args[1] (he.arg m0) (he.arg m1) 1 (by decide) H hkH n1 hbad) ?_
  rintro v H' qq
  simp -implicitDefEqProofs only [EK,JK,ABT]
  exact qq.post k1
 have c17:(e.op == 17)=false:=by simpa using h17
 rw [if_neg h17] at hbad ⊢
 by_cases h18:e.op=18
 ·have c18:(e.op == 18)=true:=by simpa using h18
  rw [if_pos h18] at hbad ⊢
  have hl:=ar2 (by omega) (by omega)
  have x0:0 < e.args.length:=by omega
  have x1:1 < e.args.length:=by omega
  have m0:e.args[0]∈e.args:=jQ x0
  have m1:e.args[1]∈e.args:=jQ x1
  have i0:JM 4 H (.sl e.m 4 (e.args.map CW)) (.int .i64 0)=some (.fptr 4 (e.args.map CW) 0 0):=EF (n:=0) x0
  have d0:DL Tryz.prog H 40 (.fptr 4 (e.args.map CW) 0 0)=some (.agg (CW e.args[0])):=EO MK J4 EN x0
  have i1:JM 4 H (.sl e.m 4 (e.args.map CW)) (.int .i64 1)=some (.fptr 4 (e.args.map CW) 1 0):=EF (n:=1) x1
  have d1:DL Tryz.prog H 40 (.fptr 4 (e.args.map CW) 1 0)=some (.agg (CW e.args[1])):=EO MK J4 EN x1
  rw [gd 0 x0,gd 1 x1] at hbad ⊢
  simp -implicitDefEqProofs only [BC,A8,BJ,A7,DR,DX,AZ,BA,AC,AQ,AO,BD,AX,AL,AA,AY,AU,BG,BB,BU,wxP,AB,DJ,↓reduceIte,jB,jA,jC,enP,c4,c19,c15,c16,c17,c18]
  refine MB 9 _ (by kernel_rfl) rfl rfl ?_
  simp only [qO,zM]
  simp -implicitDefEqProofs only [FC,DV,CY,EC,DW,ED,DN,EQ,AC,AA,AY,AU,BO,BG,BP,BI,CQ,BV,BN,wxP,AB,jF,jD,jE,↓reduceIte,jB,jK,jG,jA,enP,P9,JW,q2,q3,i0,d0,i1,d1]
  refine ACalls.mono (ABH G nb lb base Bad vars s e.args[0] e.args[1] (he.arg m0) (he.arg m1) 0 (by decide) H hkH n1 hbad) ?_
  rintro v H' qq
  simp -implicitDefEqProofs only [EK,JK,ABT]
  exact qq.post k1
 have c18:(e.op == 18)=false:=by simpa using h18
 rw [if_neg h18] at hbad ⊢
 by_cases h23:e.op=23
 ·have c23:(e.op == 23)=true:=by simpa using h23
  rw [if_pos h23] at hbad ⊢
  have hl:=arI h23
  have x0:0 < e.args.length:=by omega
  have m0:e.args[0]∈e.args:=jQ x0
  have i0:JM 4 H (.sl e.m 4 (e.args.map CW)) (.int .i64 0)=some (.fptr 4 (e.args.map CW) 0 0):=EF (n:=0) x0
  have d0:DL Tryz.prog H 40 (.fptr 4 (e.args.map CW) 0 0)=some (.agg (CW e.args[0])):=EO MK J4 EN x0
  rw [gd 0 x0] at hbad ⊢
  simp -implicitDefEqProofs only [BC,A8,BJ,A7,DR,DX,AZ,BA,AC,AQ,AO,BD,AX,AL,AA,AY,AU,BG,BB,BU,wxP,AB,DJ,↓reduceIte,jB,jA,jC,enP,c4,c19,c15,c16,c17,c18,c23]
  refine EX (by kernel_rfl) ?_
  simp -implicitDefEqProofs only [FC,DV,CY,EC,DW,G9,ED,DN,EQ,EW,EJ,BC,A8,A7,AZ,AC,AQ,AO,BD,AX,AL,AA,AY,AU,BO,BG,BH,BP,BU,BI,CQ,wxP,AB,jF,jD,jE,↓reduceIte,jB,jK,jI,jG,jA,jC,enP,P9,JW,KY,ER,GK,FK,q2,q3,i0,d0]
  refine ⟨_,O1 G vars s.1 nb e.args[0] H n1.ev,?_⟩
  simp -implicitDefEqProofs only [BJ,A7,BA,AL,AA,AY,AB,FQ,↓reduceIte]
  have hva:(if e.args[0].op=2 then plc vars e.args[0].name else -1)=vix vars e.args[0]:=rfl
  rw [hva]
  have hra:=SX vars e.args[0]
  unfold atV at hbad ⊢
  have hsl:KG Tryz.prog H 23 (.sl e.m 4 (e.args.map CW)) (some (.int .i64 1)) none none=some (.sl e.m 4 ((e.args.drop 1).map CW)):=by
   have:=ASA (h:=H) (m:=e.m) (kk := .i64) (xs:=e.args.map CW) (l:=1) AMF J4 (by rw [jM]; omega)
   rw [List.map_drop]; exact this
  refine CV (fun hd => ?_) (fun hd => ?_)
  ·have hd:(0:Int)≤vix vars e.args[0]:=by simpa using hd
   rw [if_pos hd] at hbad ⊢
   obtain ⟨i,hi⟩:=zI hd
   rw [hi,zG] at hbad ⊢
   simp -implicitDefEqProofs only []
   refine MB 5 _ (by kernel_rfl) rfl rfl ?_
   simp only [qO,zM]
   simp -implicitDefEqProofs only [FC,qU,Option.map_none,DV,CY,EC,DW,EP,ED,XA,DN,AC,AA,AY,AU,BO,BG,BP,NK,BI,BV,BN,wxP,AB,jF,jD,jE,↓reduceIte,jB,jK,jG,jA,enP,JW,q2,q3,hsl,hi]
   refine ACalls.mono (AHB G nb lb base Bad vars s i (by omega) (e.args.drop 1) e.m (fun a ha=>he.arg (List.mem_of_mem_drop ha)) (by rw [List.length_drop]; omega) H hkH n1 hbad) ?_
   rintro v H' qq
   simp -implicitDefEqProofs only [EK,JK,ABT]
   exact qq.post k1
  ·have hd : ¬ (0:Int)≤vix vars e.args[0]:=by simpa using hd
   rw [if_neg hd]
   simp -implicitDefEqProofs only [BR,EK,JK]
   exact ⟨s,rfl,n1,k1⟩
 have c23:(e.op == 23)=false:=by simpa using h23
 rw [if_neg h23] at hbad ⊢
 simp -implicitDefEqProofs only [BC,A8,BR,BJ,A7,EK,JK,DX,AZ,BA,AC,AQ,AO,BD,AX,AL,AA,AY,AU,BG,BB,BU,wxP,AB,DJ,↓reduceIte,jB,jA,jC,enP,c4,c19,c15,c16,c17,c18,c23]
 exact ⟨s,rfl,n1,k1⟩
end
def AER (r:Rng):Nat:=(r.hi - r.lo).toNat
def wid (l:List Rng):Nat:=(l.map AER).sum
theorem AKX : ∀ (l:List Rng) (i:Nat) (hi:i < l.length) (r:Rng),wid (l.set i r)+AER l[i]=wid l+AER r
 | x :: l,0,_,r=>by simp [wid]; omega
 | x :: l,i+1,hi,r=>by
   have:=AKX l i (by simpa using hi) r
   simp only [wid] at this ⊢
   simp only [List.set_cons_succ,jF,List.sum_cons,List.getElem_cons_succ]
   omega
structure Ste (s s':NS):Prop where
 len:s'.1.length=s.1.length
 sub : ∀ (i:Nat) (h:i < s.1.length) (h':i < s'.1.length),s.1[i].lo≤s'.1[i].lo∧s'.1[i].hi≤s.1[i].hi
 wf:(∀ r∈s.1,wfR r)→∀ r∈s'.1,wfR r
 wd:(∀ r∈s.1,wfR r)→wid s'.1≤wid s.1
 chg:(∀ r∈s.1,wfR r)→s'.2=true→s.2=true∨wid s'.1 < wid s.1
 un:s'.2=false→s.2=false∧s'.1=s.1
 keep:s.2=true→s'.2=true
theorem Ste.rfl' (s:NS):Ste s s:=⟨rfl,fun _ _ _=>⟨zJ _,zJ _⟩,fun h=>h,fun _=>jL _,fun _ h => .inl h,fun h=>⟨h,rfl⟩,fun h=>h⟩
theorem Ste.trans {a b c:NS} (h1:Ste a b) (h2:Ste b c):Ste a c:=by
 refine ⟨h2.len.trans h1.len,fun i h h' => ?_,fun w=>h2.wf (h1.wf w),fun w=>Nat.le_trans (h2.wd (h1.wf w)) (h1.wd w),fun w hc => ?_,fun hc => ?_,fun h=>h2.keep (h1.keep h)⟩
 ·have hb:i < b.1.length:=by rw [h1.len]; exact h
  have p:=h1.sub i h hb
  have q:=h2.sub i hb h'
  exact ⟨Int.le_trans p.1 q.1,Int.le_trans q.2 p.2⟩
 ·have hw:=h1.wd w
  have hw2:=h2.wd (h1.wf w)
  rcases h2.chg (h1.wf w) hc with q | q
  ·rcases h1.chg w q with q | q
   ·exact .inl q
   ·exact .inr (by omega)
  ·exact .inr (by omega)
 ·obtain ⟨p,q⟩:=h2.un hc
  obtain ⟨p',q'⟩:=h1.un p
  exact ⟨p',q.trans q'⟩
theorem NV {s s':NS} {i:Nat} {lo hi:Int} (hi':i < s.1.length) (h:OI s i lo hi=some s'):Ste s s':=by
 have hgd:s.1.getD i IP=s.1[i]:=by rw [zD,jU hi']; rfl
 unfold OI at h
 rw [hgd] at h
 by_cases hd:(nxR s.1[i] lo hi).lo > (nxR s.1[i] lo hi).hi
 ·rw [if_pos hd] at h; cases h
 rw [if_neg hd] at h
 cases h
 have hlo:s.1[i].lo≤(nxR s.1[i] lo hi).lo:=by show s.1[i].lo≤max s.1[i].lo lo; omega
 have hhi:(nxR s.1[i] lo hi).hi≤s.1[i].hi:=by show min s.1[i].hi hi≤s.1[i].hi; omega
 have hws:=AKX s.1 i hi' (nxR s.1[i] lo hi)
 have hwd:AER (nxR s.1[i] lo hi)≤AER s.1[i]:=by unfold AER; omega
 refine ⟨by simp,fun j h h' => ?_,fun w r hr => ?_,fun w=>by show wid (s.1.set i _)≤_; omega,fun w hc => ?_,fun hc => ?_,fun h=>by show (s.2 || _)=true; rw [h]; rfl⟩
 ·show s.1[j].lo≤((s.1.set i (nxR s.1[i] lo hi))[j]'(h')).lo∧_
  rw [List.getElem_set]
  by_cases e:i=j
  ·subst e; rw [if_pos rfl]; exact ⟨hlo,hhi⟩
  ·rw [if_neg e]; exact ⟨zJ _,zJ _⟩
 ·rcases List.mem_or_eq_of_mem_set hr with hr | rfl
  ·exact w r hr
  ·obtain ⟨q0,q1,q2⟩:=w _ (jQ hi')
   exact ⟨by omega,by omega,by omega⟩
 ·have hc:(s.2 || !((nxR s.1[i] lo hi) == s.1[i]))=true:=hc
  rcases Bool.or_eq_true_iff.1 hc with h | h
  ·exact .inl h
  ·right
   have hne:nxR s.1[i] lo hi≠s.1[i]:=by simpa using h
   have:AER (nxR s.1[i] lo hi) < AER s.1[i]:=by
    obtain ⟨q0,q1,q2⟩:=w _ (jQ hi')
    unfold AER
    have : ¬ ((nxR s.1[i] lo hi).lo=s.1[i].lo∧(nxR s.1[i] lo hi).hi=s.1[i].hi):=fun ⟨a,b⟩=>hne (by
     cases hx:nxR s.1[i] lo hi; cases hy:s.1[i]; rw [hx,hy] at a b; simp at a b; rw [a,b])
    omega
   show wid (s.1.set i _) < _
   omega
 ·have hc:(s.2 || !((nxR s.1[i] lo hi) == s.1[i]))=false:=hc
  rw [Bool.or_eq_false_iff] at hc
  have he:nxR s.1[i] lo hi=s.1[i]:=by simpa using hc.2
  refine ⟨hc.1,?_⟩
  show s.1.set i (nxR s.1[i] lo hi)=s.1
  rw [he,set_self hi']
theorem UT {r:Option NS} {f:NS→Option NS} {s s':NS} (h:r.bind f=some s') (h1 : ∀ t,r=some t→Ste s t) (h2 : ∀ t,r=some t→Ste s t→f t=some s'→Ste t s'):Ste s s':=by
 cases r with
 | none=>cases h
 | some t=>exact (h1 t rfl).trans (h2 t rfl (h1 t rfl) h)
theorem VH {vars:List Vr} {a:Ex} {f:NS→Nat→Option NS} {s s':NS} (hl:s.1.length=vars.length) (hf : ∀ i,i < s.1.length→∀ s',f s i=some s'→Ste s s') (h:atV vars a f s=some s'):Ste s s':=by
 unfold atV at h
 by_cases hc:0≤vix vars a
 ·rw [if_pos hc] at h
  have:=SX vars a
  exact hf _ (by omega) s' h
 ·rw [if_neg hc] at h; cases h; exact .rfl' _
theorem AS1 (vars:List Vr) (e:Ex) : ∀ (s s':NS),s.1.length=vars.length→RS vars e s=some s'→Ste s s':=by
 induction e using Ex.induct with | h e ih => ?_
 intro s s' hl h
 rw [AE4] at h
 unfold APG at h
 by_cases h2:e.op=2∧0≤plc vars e.name
 ·rw [if_pos h2] at h
  have hr:=QD (JH e.name) vars
  exact NV (by have:=h2.2; unfold plc at *; omega) h
 rw [if_neg h2] at h
 by_cases h4:e.op=4
 ·rw [if_pos h4] at h
  exact VH hl (fun i hi s' h=>NV hi h) h
 rw [if_neg h4] at h
 by_cases h19:e.op=19
 ·rw [if_pos h19] at h
  have key : ∀ (xs:List Ex),(∀ a∈xs,a∈e.args)→∀ (s s':NS),s.1.length=vars.length→TD vars xs s=some s'→Ste s s':=by
   intro xs
   induction xs with
   | nil=>intro _ s s' _ h; cases h; exact .rfl' _
   | cons x xs ihx =>
     intro hm s s' hl h
     have h:(RS vars x s).bind (TD vars xs)=some s':=h
     exact UT h (fun t ht=>ih x (hm x (by simp)) s t hl ht) (fun t _ st ht=>ihx (fun a ha=>hm a (by simp [ha])) t s' (by rw [st.len]; exact hl) ht)
  exact key e.args (fun a h=>h) s s' hl h
 rw [if_neg h19] at h
 have eith : ∀ (f:NS→Nat→Rng→Option NS) (a b:Ex),(∀ (s s':NS) (i:Nat) (r:Rng),i < s.1.length→f s i r=some s'→Ste s s')→YA f vars s a b=some s'→Ste s s':=fun f a b hf h=>by
  unfold YA at h
  exact UT h (fun t ht=>VH hl (fun i hi s' h=>hf _ _ _ _ hi h) ht) (fun t _ st ht=>VH (by rw [st.len]; exact hl) (fun i hi s' h=>hf _ _ _ _ hi h) ht)
 by_cases h15:e.op=15
 ·rw [if_pos h15] at h
  exact eith feq _ _ (fun s s' i r hi h=>NV hi h) h
 rw [if_neg h15] at h
 by_cases h16:e.op=16
 ·rw [if_pos h16] at h
  refine eith fne _ _ (fun s s' i r hi h => ?_) h
  unfold fne at h
  by_cases hs:sgl r=true
  ·rw [if_pos hs] at h
   refine UT h (fun t ht => ?_) (fun t _ st ht => ?_)
   ·split at ht
    ·exact NV hi ht
    ·cases ht; exact .rfl' _
   ·split at ht
    ·exact NV (by rw [st.len]; exact hi) ht
    ·cases ht; exact .rfl' _
  ·rw [if_neg hs] at h; cases h; exact .rfl' _
 rw [if_neg h16] at h
 have ord : ∀ (a b:Ex) (gap:Int),AE1 vars s a b gap=some s'→Ste s s':=fun a b gap h=>by
  unfold AE1 at h
  exact UT h (fun t ht=>VH hl (fun i hi s' h=>NV hi h) ht) (fun t _ st ht=>VH (by rw [st.len]; exact hl) (fun i hi s' h=>NV hi h) ht)
 by_cases h17:e.op=17
 ·rw [if_pos h17] at h; exact ord _ _ _ h
 rw [if_neg h17] at h
 by_cases h18:e.op=18
 ·rw [if_pos h18] at h; exact ord _ _ _ h
 rw [if_neg h18] at h
 by_cases h23:e.op=23
 ·rw [if_pos h23] at h
  exact VH hl (fun i hi s' h=>NV hi h) h
 rw [if_neg h23] at h
 cases h; exact .rfl' _
theorem ABL (vars:List Vr) : ∀ (xs:List Ex) (s s':NS),s.1.length=vars.length→TD vars xs s=some s'→Ste s s'
 | [],s,s',_,h=>by cases h; exact .rfl' _
 | x :: xs,s,s',hl,h=>by
   have h:(RS vars x s).bind (TD vars xs)=some s':=h
   exact UT h (fun t ht=>AS1 vars x s t hl ht) (fun t _ st ht=>ABL vars xs t s' (by rw [st.len]; exact hl) ht)
def AIA (vars:List Vr) (hard:List Ex) (l:List Rng):Bool:=hard.any fun e=>isF (evS vars l e)
def AAE (vars:List Vr) (hard:List Ex) (s:NS):Option NS:=(TD vars hard (s.1,false)).bind fun s'=>if AIA vars hard s'.1=true then none else some s'
def XP (vars:List Vr) (hard:List Ex):Nat→NS→Option NS
 | 0,s=>if s.2=true then none else some s
 | n+1,s=>if s.2=true then (AAE vars hard s).bind (XP vars hard n) else some s
def AJ2:List Ds→NS→Option NS
 | []=>fun s=>some s
 | d :: ds=>fun s=>(AEQ s d).bind (AJ2 ds)
def VM (p:Pr) (l:List Rng):Option NS:=(AJ2 p.dists (l,false)).bind fun s=>XP p.vars p.hard (wid s.1+1) (s.1,true)
theorem ASI {vars:List Vr} {hard:List Ex} {s s':NS} (hl:s.1.length=vars.length) (h:AAE vars hard s=some s'):Ste (s.1,false) s':=by
 unfold AAE at h
 cases hx:TD vars hard (s.1,false) with
 | none=>rw [hx] at h; cases h
 | some t =>
   rw [hx] at h
   have h:(if AIA vars hard t.1=true then none else some t)=some s':=h
   split at h
   ·cases h
   ·cases h; exact ABL vars hard _ _ hl hx
end Go.Proofs.YtokehnfjjmpanaaGreatDoor.Bd
