/- Part 9 of the proof (V2, V3, V4, V5, V6, V7, V8, Kb, Kw); no condition. -/
import Derived.LaidMore
import Derived.Shelf.Vars
import Derived.Test.YtokehnfjjmpanaaGreatDoorYA8
set_option linter.unusedVariables false
set_option linter.unusedSimpArgs false
set_option maxRecDepth 8000
namespace Go.Proofs.YtokehnfjjmpanaaGreatDoor.Bd
open Sm Bins Cov Xe Go.RowKit
open Bool renaming not_false→jC,or_true→qF,or_false→jO,not_true→jX
open Int renaming toNat_natCast→zM,eq_ofNat_of_zero_le→zL
open List renaming length_cons→qA,length_map→jM,getElem_mem→jS,append_assoc→zS,map_cons→jF,map_nil→jD,append_nil→jE,take_of_length_le→jY,nil_append→zA,cons_append→zN,length_append→zQ,take_zero→zF,getElem?_eq_getElem→jV,length_take→zT,any_eq_true→qP,getElem_of_mem→qC,take_succ_eq_append_getElem→zY,drop_eq_getElem_cons→qH,getElem?_set→jW,getElem?_eq_none→zC,eq_nil_of_length_eq_zero→qN,mem_append→zX,contains_cons→jP,contains_nil→jQ
open Nat renaming le_of_ble_eq_true→jH,reduceEqDiff→jA,add_zero→jI,zero_add→jG,lt_or_ge→jT,le_refl→jL,reduceBEq→jR
open Option renaming getD_some→jB,getD_none→jJ
def RF (x:Ex):Bool:=(x.op == 3) || (x.op == 24)
def UM (l:List Vr) (x:Ex):Bool:=(x.op == 2) && decide (plc l x.name < 0)
def AKO (e:Ex):Bool:=(pre e).any RF
def AKB (l:List Vr) (e:Ex):Bool:=(pre e).any (UM l)
def plE (l:List Vr) (e:Ex):Int:=if AKO e=true then 9 else if AKB l e=true then 7 else 0
def xpE (l:List Vr) (e:Ex):Int:=if exE e≠0 then exE e else plE l e
def JR (l:List Vr) (xs:List Ex):Int:=NE (xpE l) xs
theorem AET {α:Type} (f:α→Int) : ∀ xs ys:List α,NE f (xs ++ ys)=if NE f xs≠0 then NE f xs else NE f ys
 | [],ys=>by simp [NE]
 | x :: xs,ys=>by
   have ih:=AET f xs ys
   show (if f x≠0 then f x else NE f (xs ++ ys))=if (if f x≠0 then f x else NE f xs)≠0 then (if f x≠0 then f x else NE f xs) else NE f ys
   rw [ih]
   by_cases h:f x≠0
   ·rw [if_pos h,if_pos h,if_pos h]
   ·rw [if_neg h,if_neg h]
section
variable (G:Nat→AV)
theorem AHJ (e:Ex):(pre e).length≤1048576→∀ h:Hp,PCall (En G) 128 [.agg (CV e)] h (.bool (AKO e)):=by
 induction e using Ex.induct with | h e ih => ?_
 intro hw h
 have hpl:=congrArg List.length (pre_eq e)
 rw [qA] at hpl
 have hal:e.args.length≤1048576:=by have:=VO e.args; omega
 have hev:AKO e=(RF e || (IG e.args).any RF):=by unfold AKO; rw [pre_eq,List.any_cons]
 rw [hev]
 refine ACalls.pure0 rfl ?_
 refine acN Tryz.func128 rfl ?_
 show awp _ _ _ _ _ (EH _ [.tmp 2] _)
 have ge:=C9 h (ABlk.live 4 [CV e])
 have hx:ext h (h ++ [ABlk.live 4 [CV e]]):=(ext.rfl' h).app _
 simp -implicitDefEqProofs only [BB,A8,A7,AZ,BA,AC,AQ,AO,BD,AX,AL,AA,AY,AU,BM,BC,FN,BN,BG,BV,AB,BF,↓reduceIte,jA,jI,jB,jC,enP,G8,bxE]
 generalize h ++ [ABlk.live 4 [CV e]]=H1 at ge hx ⊢
 generalize h.length=eb at ge ⊢
 have l0:DI Tryz.prog H1 3 (.ptr eb 0 0)=some (.int .i64 e.op):=by rw [DC ag3 ge (row:=CV e) rfl,I8]
 have l3:DI Tryz.prog H1 23 (.ptr eb 0 3)=some (.sl e.m 4 (e.args.map CV)):=by rw [DC QP ge (row:=CV e) rfl,RH]
 simp -implicitDefEqProofs only [AZ,BL,BU,CO,AC,AQ,AO,BD,AX,AL,AA,AY,AU,BH,BI,BR,AB,DW,↓reduceIte,jB,jC,enP,l0]
 cases b3:(e.op == 3)
 case true =>
  simp -implicitDefEqProofs only [BB,A8,BK,BJ,A7,CQ,CW,DY,AZ,BA,BL,BU,CO,F6,AC,AQ,AO,BD,AX,AL,AA,EG,AY,AU,BM,BC,CP,DL,↓reduceIte,jA,jB,jC,b3]
  exact ⟨by unfold RF; rw [b3]; rfl,hx⟩
 simp -implicitDefEqProofs only [BJ,A7,AZ,BA,BL,BU,CO,EQ,AC,AQ,AO,BD,AX,AL,AA,AY,AU,BH,BM,CP,DN,BN,BR,BG,AB,DW,↓reduceIte,jA,jI,jB,jC,enP,G8,b3,l0]
 cases b4:(e.op == 24)
 case true =>
  simp -implicitDefEqProofs only [BB,A8,BK,A7,CQ,CW,DY,AZ,BA,AC,AQ,AO,BD,AX,AL,AA,AU,BM,BC,↓reduceIte,jB,jC,b4]
  exact ⟨by unfold RF; rw [b3,b4]; rfl,hx⟩
 have h0:RF e=false:=by unfold RF; rw [b3,b4]; rfl
 rw [h0,Bool.false_or]
 simp -implicitDefEqProofs only [BB,CJ,A8,BQ,A7,EC,AZ,BA,AC,AQ,AO,BD,AX,AL,AU,BH,BC,jB,jC,b4]
 refine D8 (fun k F H => ∃ j,k+j=e.args.length∧F 1 = .ptr eb 0 0∧F 3 = .int .i64 (j:Nat)∧H=H1∧(IG (e.args.take j)).any RF=false) e.args.length ⟨0,by simp,by simp -implicitDefEqProofs only [AA,↓reduceIte,jA],by simp -implicitDefEqProofs only [AA,↓reduceIte]; rfl,rfl,rfl⟩ ?_
 rintro k F H ⟨j,hj,f1,f3,rfl,hkn⟩
 simp -implicitDefEqProofs only [BB,A8,BJ,A7,AZ,BA,AC,AQ,AO,BD,AX,AL,AA,AY,BI,BN,BR,BG,FH,AB,DF,↓reduceIte,jA,jG,jB,jC,enP,TZ,JQ,f1,f3,l3,jM]
 refine CS (fun hc => ?_) (fun hc => ?_)
 ·have hj':j < e.args.length:=by simpa using hc
  have hmem:e.args[j]∈e.args:=jS hj'
  have hsplit:IG e.args=IG (e.args.take j) ++ (pre e.args[j] ++ IG (e.args.drop (j+1))):=by
   rw [← zS,← KA _ _ hj',← MH,List.take_append_drop]
  simp -implicitDefEqProofs only [BB,CJ,A8,BQ,A7,AZ,AC,AQ,AO,BD,AX,AL,AA,AY,BO,BI,BN,BG,CU,BX,BP,AB,jF,jD,jE,↓reduceIte,jA,jG,jB,jC,enP,QC,JQ,f1,f3,l3,EJ hj',EM MC JU ER hj']
  refine (ih e.args[j] hmem (by have:=PV hmem; omega) H).use ?_
  simp -implicitDefEqProofs only [BJ,A7,BA,AL,AA,AY,↓reduceIte]
  refine CS (fun hb => ?_) (fun hb => ?_)
  ·simp -implicitDefEqProofs only [BB,A8,BK,A7,CQ,D5,FV,CW,AZ,BA,AC,AQ,AO,BD,AX,AL,AA,AU,BM,BC,↓reduceIte,jB,jC]
   refine ⟨?_,hx⟩
   have hb:(pre e.args[j]).any RF=true:=hb
   rw [hsplit,List.any_append,List.any_append,hb]; simp
  ·simp -implicitDefEqProofs only [A8,BQ,A7,EO,FK,AZ,BA,AC,AQ,AO,BD,AX,AL,AA,AY,AU,BH,BI,BC,BR,AB,DZ,↓reduceIte,jA,jB,jC,enP,f3,wrap_succ (show j < 9223372036854775807 by omega)]
   have hb:(pre e.args[j]).any RF=false:=hb
   exact ⟨k - 1,by omega,j+1,by omega,by trivial,rfl,trivial,by rw [KA _ _ hj',List.any_append,hkn,hb]; rfl⟩
 ·have hj' : ¬ j < e.args.length:=by simpa using hc
  rw [jY (by omega)] at hkn
  simp -implicitDefEqProofs only [BB,A8,BK,D6,A7,E5,FY,GG,CW,AZ,BA,AC,AQ,AO,BD,AX,AL,AA,AU,BM,BC,↓reduceIte,jB,jC]
  exact ⟨by rw [hkn],hx⟩
theorem AEU (l:List Vr) (m:SM) (hl:l.length≤1048576) (e:Ex):(pre e).length≤1048576→∀ h:Hp,PCall (En G) 129 [.sl m 4 (l.map FC),.agg (CV e)] h (.bool (AKB l e)):=by
 induction e using Ex.induct with | h e ih => ?_
 intro hw h
 have hpl:=congrArg List.length (pre_eq e)
 rw [qA] at hpl
 have hal:e.args.length≤1048576:=by have:=VO e.args; omega
 have hev:AKB l e=(UM l e || (IG e.args).any (UM l)):=by unfold AKB; rw [pre_eq,List.any_cons]
 rw [hev]
 refine ACalls.pure0 rfl ?_
 refine acN Tryz.func129 rfl ?_
 show awp _ _ _ _ _ (EH _ [.tmp 4] _)
 have ge:=C9 h (ABlk.live 4 [CV e])
 have hx:ext h (h ++ [ABlk.live 4 [CV e]]):=(ext.rfl' h).app _
 simp -implicitDefEqProofs only [BB,A8,A7,AZ,BA,AC,AQ,AO,BD,AX,AL,AA,AY,AU,BM,BC,FN,BN,BG,BV,AB,BF,CE,↓reduceIte,jA,jI,jB,jC,enP,G8,bxE]
 generalize h ++ [ABlk.live 4 [CV e]]=H1 at ge hx ⊢
 generalize h.length=eb at ge ⊢
 have l0:DI Tryz.prog H1 3 (.ptr eb 0 0)=some (.int .i64 e.op):=by rw [DC ag3 ge (row:=CV e) rfl,I8]
 have l2:DI Tryz.prog H1 9 (.ptr eb 0 2)=some (.str e.name):=by rw [DC ag9 ge (row:=CV e) rfl,OH]
 have l3:DI Tryz.prog H1 23 (.ptr eb 0 3)=some (.sl e.m 4 (e.args.map CV)):=by rw [DC QP ge (row:=CV e) rfl,RH]
 simp -implicitDefEqProofs only [AZ,BL,BU,CO,AC,AQ,AO,BD,AX,AL,AA,AY,AU,BH,BI,BR,AB,DW,↓reduceIte,jB,jC,enP,l0]
 refine PO (fun F H=>F 0 = .sl m 4 (l.map FC)∧F 3 = .ptr eb 0 0∧F 15 = .bool (UM l e)∧H=H1) ?_ ?_
 ·cases b2:(e.op == 2)
  ·simp -implicitDefEqProofs only [AZ,BA,BL,BU,CO,I4,AC,AQ,AO,BD,AX,AL,AA,EG,AY,AU,BM,CP,DN,BF,↓reduceIte,jA,jB,jC,b2]
   exact ⟨trivial,trivial,by unfold UM; rw [b2]; rfl,trivial⟩
  ·simp -implicitDefEqProofs only [BL,BU,CO,GH,AC,AQ,AO,BD,AX,AL,AA,AY,BO,BI,BN,BG,BX,BP,AB,BF,jF,jD,jE,↓reduceIte,jA,jG,jB,jC,enP,L9,b2,l2]
   refine (U5 G l m e.name H1 (by omega)).use ?_
   simp -implicitDefEqProofs only [AZ,BA,BL,BU,CO,GH,AC,AQ,AO,BD,AX,AL,AA,AY,AU,BH,BM,CP,DL,BR,AB,DF,BF,↓reduceIte,jA,jB,jC,enP,b2]
   exact ⟨trivial,trivial,by unfold UM; rw [b2]; rfl,trivial⟩
 rintro F H ⟨f0,f3,f15,rfl⟩
 simp -implicitDefEqProofs only [BJ,A7,AY,f15]
 refine CS (fun hb => ?_) (fun hb => ?_)
 ·simp -implicitDefEqProofs only [BB,A8,BK,A7,CQ,CW,AZ,BA,AC,AQ,AO,BD,AX,AL,AA,AU,BM,BC,↓reduceIte,jB,jC]
  exact ⟨by rw [hb]; rfl,hx⟩
 rw [hb,Bool.false_or]
 simp -implicitDefEqProofs only [BB,CJ,A8,BQ,A7,AZ,BA,AC,AQ,AO,BD,AX,AL,AU,BH,BC,jB,jC]
 refine D8 (fun k F H' => ∃ j,k+j=e.args.length∧F 0 = .sl m 4 (l.map FC)∧F 3 = .ptr eb 0 0∧F 5 = .int .i64 (j:Nat)∧H'=H∧(IG (e.args.take j)).any (UM l)=false) e.args.length ⟨0,by simp,by simp -implicitDefEqProofs only [AA,↓reduceIte,jA,f0],by simp -implicitDefEqProofs only [AA,↓reduceIte,jA,f3],by simp -implicitDefEqProofs only [AA,↓reduceIte]; rfl,rfl,rfl⟩ ?_
 clear f0 f3 f15
 rintro k F H ⟨j,hj,f0,f3,f5,rfl,hkn⟩
 simp -implicitDefEqProofs only [BB,A8,BJ,A7,AZ,BA,AC,AQ,AO,BD,AX,AL,AA,AY,BI,BN,BR,BG,FH,AB,DF,↓reduceIte,jA,jG,jB,jC,enP,TZ,JQ,f3,f5,l3,jM]
 refine CS (fun hc => ?_) (fun hc => ?_)
 ·have hj':j < e.args.length:=by simpa using hc
  have hmem:e.args[j]∈e.args:=jS hj'
  have hsplit:IG e.args=IG (e.args.take j) ++ (pre e.args[j] ++ IG (e.args.drop (j+1))):=by
   rw [← zS,← KA _ _ hj',← MH,List.take_append_drop]
  simp -implicitDefEqProofs only [BB,CJ,A8,BQ,A7,AZ,AC,AQ,AO,BD,AX,AL,AA,AY,BO,BI,BN,BG,CU,BX,BP,AB,jF,jD,jE,↓reduceIte,jA,jG,jB,jC,enP,QC,JQ,f0,f3,f5,l3,EJ hj',EM MC JU ER hj']
  refine (ih e.args[j] hmem (by have:=PV hmem; omega) H).use ?_
  simp -implicitDefEqProofs only [BJ,A7,BA,AL,AA,AY,↓reduceIte]
  refine CS (fun hb => ?_) (fun hb => ?_)
  ·simp -implicitDefEqProofs only [BB,A8,BK,A7,CQ,D5,FV,CW,AZ,BA,AC,AQ,AO,BD,AX,AL,AA,AU,BM,BC,↓reduceIte,jB,jC]
   refine ⟨?_,hx⟩
   have hb:(pre e.args[j]).any (UM l)=true:=hb
   rw [hsplit,List.any_append,List.any_append,hb]; simp
  ·simp -implicitDefEqProofs only [A8,BQ,A7,EO,FK,AZ,BA,AC,AQ,AO,BD,AX,AL,AA,AY,AU,BH,BI,BC,BR,AB,DZ,↓reduceIte,jA,jB,jC,enP,f5,wrap_succ (show j < 9223372036854775807 by omega)]
   have hb:(pre e.args[j]).any (UM l)=false:=hb
   exact ⟨k - 1,by omega,j+1,by omega,by trivial,by trivial,rfl,trivial,by rw [KA _ _ hj',List.any_append,hkn,hb]; rfl⟩
 ·have hj' : ¬ j < e.args.length:=by simpa using hc
  rw [jY (by omega)] at hkn
  simp -implicitDefEqProofs only [BB,A8,BK,D6,A7,E5,FY,GG,CW,AZ,BA,AC,AQ,AO,BD,AX,AL,AA,AU,BM,BC,↓reduceIte,jB,jC]
  exact ⟨by rw [hkn],hx⟩
theorem AJO (l:List Vr) (m:SM) (hl:l.length≤1048576) (e:Ex) (hw:(pre e).length≤1048576) (h:Hp):PCall (En G) 86 [.sl m 4 (l.map FC),.agg (CV e)] h (.int .i64 (plE l e)):=by
 refine ACalls.pure0 rfl ?_
 refine acN Tryz.func86 rfl ?_
 show awp _ _ _ _ _ (EH _ [.tmp 4] _)
 simp -implicitDefEqProofs only [BB,A8,A7,AZ,BA,AC,AQ,AO,BD,AX,AL,AA,AY,AU,BO,BH,BC,FN,BN,BX,BP,BV,AB,BF,CE,jF,jD,jE,↓reduceIte,jA,jB,jC,enP,bxE,ldE]
 refine (AHJ G e hw _).use ?_
 simp -implicitDefEqProofs only [BJ,A7,BA,AL,AA,AY,↓reduceIte]
 refine CS (fun hb => ?_) (fun hb => ?_)
 ·simp -implicitDefEqProofs only [BB,A8,BK,A7,CQ,CW,AZ,BA,AC,AQ,AO,BD,AX,AL,AA,AU,BH,BC,↓reduceIte,jB,jC]
  exact ⟨by unfold plE; rw [hb]; rfl,_,rfl⟩
 simp -implicitDefEqProofs only [BB,A8,BQ,A7,AZ,AC,AQ,AO,BD,AX,AL,AA,AY,BO,BI,BN,BX,BP,AB,BF,jF,jD,jE,↓reduceIte,jA,jB,jC,enP,ldE]
 refine (AEU G l m hl e hw _).use ?_
 simp -implicitDefEqProofs only [BJ,A7,BA,AL,AA,AY,↓reduceIte]
 refine CS (fun hf => ?_) (fun hf => ?_)
 ·simp -implicitDefEqProofs only [BB,A8,BK,A7,CQ,CW,AZ,BA,AC,AQ,AO,BD,AX,AL,AA,AU,BH,BC,↓reduceIte,jB,jC]
  exact ⟨by unfold plE; rw [hb,hf]; rfl,_,rfl⟩
 ·simp -implicitDefEqProofs only [BB,A8,BQ,BK,A7,CW,AZ,BA,AC,AQ,AO,BD,AX,AL,AA,AU,BH,BC,↓reduceIte,jB,jC]
  exact ⟨by unfold plE; rw [hb,hf]; rfl,_,rfl⟩
theorem RG (l:List Vr) (m:SM) (hl:l.length≤1048576) (xs:List Ex) (s:SM) (hx:xs.length≤1048576) (hw : ∀ e∈xs,wt e≤1048576) (h:Hp):PCall (En G) 44 [.sl m 4 (l.map FC),.sl s 4 (xs.map CV)] h (.int .i64 (JR l xs)):=by
 refine acN Tryz.func44 rfl ?_
 show awp _ _ _ _ _ (EH _ [.tmp 4] _)
 simp -implicitDefEqProofs only [BB,CJ,A8,A7,AZ,BA,AC,AQ,AO,BD,AX,AL,AU,BH,BC,jB,jC,enX,enP]
 refine D8 (fun n F H => ∃ i,n+i=xs.length∧(∀ (j:Nat) (hj:j < i) (hl:j < xs.length),xpE l xs[j]=0)∧F 0 = .sl m 4 (l.map FC)∧F 1 = .sl s 4 (xs.map CV)∧F 5 = .int .i64 (i:Nat)∧H=h) xs.length ⟨0,by simp,fun j hj=>absurd hj (by omega),by simp -implicitDefEqProofs only [AA,BF,↓reduceIte,jA],by simp -implicitDefEqProofs only [AA,BF,CE,↓reduceIte,jA],by simp -implicitDefEqProofs only [AA,↓reduceIte]; rfl,rfl⟩ ?_
 rintro n F H ⟨i,hi,hb,f0,f1,f5,rfl⟩
 simp -implicitDefEqProofs only [BB,A8,BJ,A7,AZ,BA,AC,AQ,AO,BD,AX,AL,AA,AY,BI,BR,FH,AB,DF,↓reduceIte,jA,jB,jC,enP,TZ,f1,f5,jM]
 refine CS (fun hc => ?_) (fun hc => ?_)
 ·have hi':i < xs.length:=by simpa using hc
  have hwi:=hw _ (jS hi')
  have hbad:xpE l xs[i]≠0→JR l xs=xpE l xs[i]:=fun hz=>O6 (xpE l) xs i hi' (fun j hj=>hb j hj (by omega)) hz
  simp -implicitDefEqProofs only [BB,CJ,A8,BQ,A7,AZ,AC,AQ,AO,BD,AX,AL,AA,AY,BO,BI,BN,CU,BX,BP,AB,jF,jD,jE,↓reduceIte,jA,jB,jC,enP,QC,f1,f5,EJ hi',EM MC JU ER hi']
  refine (AE2 G xs[i] H hwi).use ?_
  simp -implicitDefEqProofs only [BB,A8,BJ,A7,AZ,BA,AC,AQ,AO,BD,AX,AL,AA,AY,AU,BH,BI,BC,BR,AB,FU,↓reduceIte,jB,jC,enP]
  refine CS (fun he => ?_) (fun he => ?_)
  ·have he':exE xs[i]≠0:=by simpa [bne] using he
   have hxp:xpE l xs[i]=exE xs[i]:=by unfold xpE; rw [if_pos he']
   simp -implicitDefEqProofs only [BB,A8,BK,A7,CQ,D5,FV,CW,AZ,BA,AC,AQ,AO,BD,AX,AL,AA,AY,BI,BC,↓reduceIte,jA,jB,jC]
   exact ⟨by rw [hbad (by rw [hxp]; exact he'),hxp],trivial⟩
  have he':exE xs[i]=0:=by simpa [bne] using he
  have hxp:xpE l xs[i]=plE l xs[i]:=by unfold xpE; rw [if_neg (by simp [he'])]
  simp -implicitDefEqProofs only [BB,A8,BQ,A7,AZ,AC,AQ,AO,BD,AX,AL,AA,AY,BO,BI,BN,CU,BX,BP,AB,jF,jD,jE,↓reduceIte,jA,jB,jC,enP,QC,f0,f1,f5,EJ hi',EM MC JU ER hi']
  refine (AJO G l m hl xs[i] (by have:=U0 xs[i]; omega) H).use ?_
  simp -implicitDefEqProofs only [BB,A8,BJ,A7,AZ,BA,AC,AQ,AO,BD,AX,AL,AA,AY,AU,BH,BI,BC,BR,AB,FU,↓reduceIte,jB,jC,enP]
  refine CS (fun hp => ?_) (fun hp => ?_)
  ·have hp':plE l xs[i]≠0:=by simpa [bne] using hp
   simp -implicitDefEqProofs only [BB,A8,BK,A7,CQ,D5,FV,CW,AZ,BA,AC,AQ,AO,BD,AX,AL,AA,AY,BI,BC,↓reduceIte,jA,jB,jC]
   exact ⟨by rw [hbad (by rw [hxp]; exact hp'),hxp],trivial⟩
  ·have hp':plE l xs[i]=0:=by simpa [bne] using hp
   simp -implicitDefEqProofs only [A8,BQ,A7,EO,FK,AZ,BA,AC,AQ,AO,BD,AX,AL,AA,AY,AU,BH,BI,BC,BR,AB,DZ,↓reduceIte,jA,jB,jC,enP,f5,wrap_succ (show i < 9223372036854775807 by omega)]
   refine ⟨n - 1,by omega,i+1,by omega,fun j hj hl => ?_,by trivial,by trivial,rfl,trivial⟩
   rcases jT j i with h1 | h1
   ·exact hb j h1 hl
   ·obtain rfl:j=i:=by omega
    rw [hxp]; exact hp'
 ·have hi' : ¬ i < xs.length:=by simpa using hc
  simp -implicitDefEqProofs only [BB,A8,BK,D6,A7,E5,FY,GG,CW,AZ,BA,AC,AQ,AO,BD,AX,AL,AA,AU,BH,BC,↓reduceIte,jB,jC]
  exact ⟨by rw [JR,ND (xpE l) xs fun j hj=>hb j (by omega) hj],trivial⟩
end
theorem AST (e:Ex):decide (((nmL [3,24] [] (pre e)).length:Int) > 0)=AKO e:=by
 have h:=ACC (fun _=>false) [3,24] (pre e) []
 have h1:(nmL [3,24] [] (pre e)).all (fun _=>false)=decide ((nmL [3,24] [] (pre e)).length=0):=by
  cases nmL [3,24] [] (pre e) <;> simp
 rw [h1] at h
 unfold AKO
 have h2:(pre e).any RF = !((pre e).all fun e => !Rk.hasB [3,24] e.op || false):=by
  rw [List.not_all_eq_any_not]
  congr 1
  funext x
  unfold RF Rk.hasB
  rw [Bool.eq_iff_iff]
  simp
  constructor
  ·rintro (h | h) <;> simp [h]
  ·rintro (h | h) <;> simp [h]
 rw [h2]
 simp only [List.all_nil,Bool.true_and] at h
 rw [← h]
 cases nmL [3,24] [] (pre e) <;> simp
theorem ASA (l:List Vr) (e:Ex):(nmL [2] [] (pre e)).any (fun n=>decide (plc l n < 0))=AKB l e:=by
 have h:=ACC (fun n => !decide (plc l n < 0)) [2] (pre e) []
 simp only [List.all_nil,Bool.true_and] at h
 rw [← Bool.not_inj_iff,List.not_any_eq_all_not,h]
 unfold AKB
 rw [List.not_any_eq_all_not]
 congr 1
 funext x
 unfold UM Rk.hasB
 rw [Bool.eq_iff_iff]
 simp
 constructor
 ·rintro (h1 | h1)
  ·exact .inl fun e=>h1 e.symm
  ·exact .inr h1
 ·rintro (h1 | h1)
  ·exact .inl fun e=>h1 e.symm
  ·exact .inr h1
theorem AUO (h:Hp) (a b:SM) (x y:List (List AV)):FM Tryz.prog false h 159 2 [(0,.sl a 4 x),(1,.sl b 4 y)]=some (.sl .full 1 [[.sl a 4 x],[.sl b 4 y]],h):=by kernel_rfl
section
variable (G:Nat→AV)
theorem AT8 (p:Pr) (n:ByteArray) (c:Nat) (h:Hp) (hc:h[c]? = some (.live 5 [DX p])) (hl:p.vars.length≤1048576):PCall (En G) 112 ([.str n] ++ [.ptr c 0 0]) h (.bool (decide (plc p.vars n < 0))):=by
 refine acN Tryz.func112 rfl ?_
 show awp _ _ _ _ _ (EH _ [.tmp 3] _)
 have l0:DI Tryz.prog h 22 (.ptr c 0 0)=some (.sl p.vm 4 (p.vars.map FC)):=by rw [DC UF hc (row:=DX p) rfl]; rfl
 simp -implicitDefEqProofs only [BB,A8,A7,AZ,BA,AC,AQ,AO,BD,AX,AL,AA,AY,AU,BO,BM,BI,BC,BN,BG,BX,BP,AB,BF,CE,jF,jD,jE,zA,zN,↓reduceIte,jA,jI,jB,jC,enX,enP,KT,l0]
 refine (index_prog G p.vars p.vm n h (by omega)).use ?_
 simp -implicitDefEqProofs only [BK,A7,CW,AZ,BA,AC,AQ,AO,BD,AX,AL,AA,AY,AU,BH,BC,BR,AB,DF,↓reduceIte,jB,jC,enP]
 exact ⟨trivial,trivial⟩
theorem AG5 (hG:GOk G) (p:Pr) (hl:p.vars.length≤1048576) (hx:p.hard.length+p.soft.length≤1048576) (hw : ∀ e∈p.hard ++ p.soft,wt e≤1048576) (h:Hp):PCall (En G) 59 [.agg (DX p)] h (.int .i64 (JR p.vars (p.hard ++ p.soft))):=by
 refine ACalls.pure0 rfl ?_
 refine acN Tryz.func59 rfl ?_
 show awp _ _ _ _ _ (EH _ [.tmp 2] _)
 have ge:=C9 h (ABlk.live 5 [DX p])
 have hxx:ext h (h ++ [ABlk.live 5 [DX p]]):=(ext.rfl' h).app _
 simp -implicitDefEqProofs only [BB,A8,A7,AZ,BA,AC,AQ,AO,BD,AX,AL,AA,AY,AU,BH,BC,FN,BN,BG,BV,AB,BF,↓reduceIte,jA,jG,jB,jC,enP,ACQ,UC]
 generalize h ++ [ABlk.live 5 [DX p]]=H1 at ge hxx ⊢
 generalize h.length=eb at ge ⊢
 have l1:DI Tryz.prog H1 23 (.ptr eb 0 1)=some (.sl p.hm 4 (p.hard.map CV)):=by rw [DC QP ge (row:=DX p) rfl]; rfl
 have l2:DI Tryz.prog H1 23 (.ptr eb 0 2)=some (.sl p.sm 4 (p.soft.map CV)):=by rw [DC QP ge (row:=DX p) rfl]; rfl
 simp -implicitDefEqProofs only [EU,EN,AZ,AC,AQ,AO,BD,AX,AL,AA,AY,BO,F9,BN,BG,BX,BP,BV,AB,jF,jD,jE,↓reduceIte,jA,jG,jB,jC,enP,AMT,l1,l2,AUO]
 have hfl:fl [⟨p.hm,p.hard⟩,⟨p.sm,p.soft⟩]=p.hard ++ p.soft:=by simp [fl]
 have hcc:=AFD G [⟨p.hm,p.hard⟩,⟨p.sm,p.soft⟩] .full (by simp) (by rw [hfl,zQ]; omega) H1
 rw [hfl] at hcc
 refine hcc.use ?_
 have hxl:(p.hard ++ p.soft).length≤1048576:=by rw [zQ]; omega
 generalize p.hard ++ p.soft=xs at hw hxl ⊢
 simp -implicitDefEqProofs only [CJ,A7,AZ,BA,AC,AQ,AO,BD,AX,AL,AA,AY,AU,BH,BI,FH,AB,↓reduceIte,jB,jC,enP,TZ,jM]
 refine D8 (fun n F H => ∃ i,n+i=xs.length∧(∀ (j:Nat) (hj:j < i) (hl:j < xs.length),xpE p.vars xs[j]=0)∧F 1 = .ptr eb 0 0∧F 11 = .sl (nm xs) 4 (xs.map CV)∧F 12 = .int .i64 (xs.length:Nat)∧F 13 = .int .i64 (i:Nat)∧H[eb]? = some (.live 5 [DX p])∧ext h H) xs.length ⟨0,by simp,fun j hj=>absurd hj (by omega),by simp -implicitDefEqProofs only [AA,↓reduceIte,jA],by simp -implicitDefEqProofs only [AA,↓reduceIte,jA],by simp -implicitDefEqProofs only [AA,↓reduceIte,jA],by simp -implicitDefEqProofs only [AA,↓reduceIte]; rfl,ge,hxx⟩ ?_
 clear ge hxx l1 l2
 rintro n F H ⟨i,hi,hb,f1,f11,f12,f13,ge,hxx⟩
 simp -implicitDefEqProofs only [BB,A8,BJ,A7,AZ,BA,AC,AQ,AO,BD,AX,AL,AA,AY,BR,AB,DF,↓reduceIte,jB,jC,enP,f12,f13]
 refine CS (fun hc => ?_) (fun hc => ?_)
 ·have hi':i < xs.length:=by simpa using hc
  have hwi:=hw _ (jS hi')
  have hbad:xpE p.vars xs[i]≠0→JR p.vars xs=xpE p.vars xs[i]:=fun hz=>O6 (xpE p.vars) xs i hi' (fun j hj=>hb j hj (by omega)) hz
  have ge1:(H ++ [ABlk.live 4 [CV xs[i]]])[eb]? = _:=CX ge
  have hx1:ext h (H ++ [ABlk.live 4 [CV xs[i]]]):=hxx.app _
  have gE:=C9 H (ABlk.live 4 [CV xs[i]])
  have al40:JF Tryz.prog H 40=some (.ptr H.length 0 0,H ++ [.live 4 [[.int .i64 0,.int .i64 0,.str ⟨#[]⟩,.sl .nil 0 []]]]):=JP (row := [.int .i64 0,.int .i64 0,.str ⟨#[]⟩,.sl .nil 0 []]) (by kernel_rfl)
  have st40:FT Tryz.prog (H ++ [.live 4 [[.int .i64 0,.int .i64 0,.str ⟨#[]⟩,.sl .nil 0 []]]]) 40 (.ptr H.length 0 0) (.agg (CV xs[i]))=some (H ++ [.live 4 [CV xs[i]]]):=by
   have hle:(CV xs[i]).length=4:=ER _
   rw [XP (cs:=CV xs[i]) (row := [.int .i64 0,.int .i64 0,.str ⟨#[]⟩,.sl .nil 0 []]) (Q8 (by rw [LY]; rfl)) (by rw [hle]; exact JU) (C9 _ _) (by rw [hle]; exact jL 4),LX]
   have:splice [.int .i64 0,.int .i64 0,.str ⟨#[]⟩,.sl .nil 0 []] 0 (CV xs[i])=CV xs[i]:=by
    unfold splice; rw [zF,List.drop_eq_nil_of_le (by rw [hle]; exact jL 4)]; simp
   rw [this]
  simp -implicitDefEqProofs only [BB,CJ,A8,BQ,A7,AZ,BA,AC,AQ,AO,BD,AX,AL,DV,AA,AY,EX,BN,CY,CU,BV,AB,BZ,↓reduceIte,jA,jB,jC,enP,QC,jJ,f11,f13,EJ hi',EM MC JU ER hi',al40,st40]
  generalize H ++ [ABlk.live 4 [CV xs[i]]]=H1 at ge1 hx1 gE ⊢
  simp -implicitDefEqProofs only [AZ,AC,AQ,AO,BD,AX,AL,AA,AY,BO,BX,BP,AB,jF,jD,jE,↓reduceIte,jB,jC,IU gE]
  refine (ACU G hG xs[i] _ hwi).use ?_
  simp -implicitDefEqProofs only [BB,A8,BJ,A7,AZ,BA,AC,AQ,AO,BD,AX,AL,AA,AY,AU,BH,BI,BC,BR,AB,FU,↓reduceIte,jB,jC,enP]
  refine CS (fun he => ?_) (fun he => ?_)
  ·have he':exE xs[i]≠0:=by simpa [bne] using he
   have hxp:xpE p.vars xs[i]=exE xs[i]:=by unfold xpE; rw [if_pos he']
   simp -implicitDefEqProofs only [BB,A8,BK,A7,CQ,D5,FV,CW,AZ,BA,AC,AQ,AO,BD,AX,AL,AA,AY,BI,BC,↓reduceIte,jA,jB,jC]
   exact ⟨by rw [hbad (by rw [hxp]; exact he'),hxp],hx1⟩
  have he':exE xs[i]=0:=by simpa [bne] using he
  have hxp:xpE p.vars xs[i]=plE p.vars xs[i]:=by unfold xpE; rw [if_neg (by simp [he'])]
  simp -implicitDefEqProofs only [BB,A8,BQ,A7,AZ,AC,AQ,AO,BD,AX,AL,AA,AY,BO,BN,BX,BP,AB,jF,jD,jE,↓reduceIte,jA,jB,jC,enP,IU gE]
  refine (AF2 G xs[i] hwi _).use ?_
  simp -implicitDefEqProofs only [BJ,A7,AZ,BA,AC,AQ,AO,BD,AX,AL,AA,AY,AU,BH,BR,FH,AB,E8,↓reduceIte,jB,jC,enP,XR,jM,AST]
  refine CS (fun ha => ?_) (fun ha => ?_)
  ·have hpl:plE p.vars xs[i]=9:=by unfold plE; rw [if_pos ha]
   simp -implicitDefEqProofs only [BB,A8,BK,A7,CQ,D5,FV,CW,AZ,BA,AC,AQ,AO,BD,AX,AL,AA,AU,BH,BC,↓reduceIte,jB,jC]
   exact ⟨by rw [hbad (by rw [hxp,hpl]; decide),hxp,hpl],hx1⟩
  simp -implicitDefEqProofs only [BB,A8,BQ,A7,AZ,AC,AQ,AO,BD,AX,AL,AA,AY,BO,BN,BX,BP,AB,jF,jD,jE,↓reduceIte,jA,jB,jC,enP,IU gE]
  refine (AHS G xs[i] hwi _).use ?_
  simp -implicitDefEqProofs only [AZ,AC,AQ,AO,BD,AX,AL,AA,AY,BO,IX,BX,BP,jF,jD,jE,↓reduceIte,jA,jB,jC,f1]
  have hnl:(nmL [2] [] (pre xs[i])).length≤1048576:=by
   have h1:=ACB [2] (pre xs[i]) []
   have h2:=U0 xs[i]
   simp at h1; omega
  refine (APD G (nmL [2] [] (pre xs[i])) (nm (nmL [2] [] (pre xs[i]))) 112 [.ptr eb 0 0] (fun n=>decide (plc p.vars n < 0)) H1 (by omega) fun n _=>AT8 G p n eb _ ge1 hl).use ?_
  simp -implicitDefEqProofs only [BJ,A7,BA,AL,AA,AY,↓reduceIte,ASA]
  refine CS (fun hf => ?_) (fun hf => ?_)
  ·have hpl:plE p.vars xs[i]=7:=by unfold plE; rw [ha,hf]; rfl
   simp -implicitDefEqProofs only [BB,A8,BK,A7,CQ,D5,FV,CW,AZ,BA,AC,AQ,AO,BD,AX,AL,AA,AU,BH,BC,↓reduceIte,jB,jC]
   exact ⟨by rw [hbad (by rw [hxp,hpl]; decide),hxp,hpl],hx1⟩
  ·have hpl:plE p.vars xs[i]=0:=by unfold plE; rw [ha,hf]; rfl
   simp -implicitDefEqProofs only [A8,BQ,A7,EO,FK,AZ,BA,AC,AQ,AO,BD,AX,AL,AA,AY,AU,BH,BI,BR,AB,DZ,↓reduceIte,jA,jB,jC,enP,f13,wrap_succ (show i < 9223372036854775807 by omega)]
   refine ⟨n - 1,by omega,i+1,by omega,fun j hj hl => ?_,by trivial,by trivial,by trivial,rfl,ge1,hx1⟩
   rcases jT j i with h1 | h1
   ·exact hb j h1 hl
   ·obtain rfl:j=i:=by omega
    rw [hxp]; exact hpl
 ·have hi' : ¬ i < xs.length:=by simpa using hc
  simp -implicitDefEqProofs only [BB,A8,BK,D6,A7,E5,FY,GG,CW,AZ,BA,AC,AQ,AO,BD,AX,AL,AA,AU,BH,BC,↓reduceIte,jB,jC]
  exact ⟨by rw [JR,ND (xpE p.vars) xs fun j hj=>hb j (by omega) hj],hxx⟩
end
def LC (l:List Vr) (i:Int):Bool:=decide (0≤i) && (decide (i < l.length) && (match l[i.toNat]? with | some v => !(v.mode == 0) | none=>false))
def UD (x:Wg):Bool:=decide (x.lo < 0) || decide (x.lo > x.hi) || decide (x.hi > 65535) || decide (x.w < 0) || decide (x.w > 1000)
def dsE (l:List Vr) (ds:List Ds) (d:Ds):Int:=if LC l d.var=true then if ds.any (fun x=>x.var == d.var)=true then 8 else if d.ws.length > 16 then 2 else if d.ws.any UD=true then 1 else 0 else 1
def dsI (l:List Vr) (ds:List Ds) (i:Nat):Int:=match ds[i]? with | some d=>dsE l (ds.take i) d | none=>0
def MB (l:List Vr) (ds:List Ds):Int:=NE (dsI l ds) (List.range ds.length)
theorem ZZ {l:List Vr} {ds:List Ds} {i:Nat} (hi:i < ds.length):dsI l ds i=dsE l (ds.take i) ds[i]:=by unfold dsI; rw [jV hi]
theorem Z4 {l:List Vr} {ds:List Ds} {i:Nat} (hi:i < ds.length) (hb : ∀ j,j < i→dsI l ds j=0) (h:dsE l (ds.take i) ds[i]≠0):MB l ds=dsE l (ds.take i) ds[i]:=by
 have:=O6 (dsI l ds) (List.range ds.length) i (by simpa using hi) (fun j hj=>by rw [List.getElem_range]; exact hb j hj) (by rw [List.getElem_range,ZZ hi]; exact h)
 rw [List.getElem_range,ZZ hi] at this
 exact this
theorem XW {l:List Vr} {ds:List Ds} (hb : ∀ j,j < ds.length→dsI l ds j=0):MB l ds=0 :=
 ND _ _ fun j hj=>by rw [List.getElem_range]; exact hb j (by simpa using hj)
theorem TJ {l:List Vr} {n:Nat} (hn:n < l.length):LC l (n:Nat) = !(l[n].mode == 0):=by
 unfold LC
 rw [decide_eq_true (by omega),decide_eq_true (by omega),zM,jV hn]; rfl
theorem AU8 (h:Hp):JF Tryz.prog h 52=some (.ptr h.length 0 0,h ++ [.live 2 [[.int .i64 0,.sl .nil 0 []]]]):=JP (row := [.int .i64 0,.sl .nil 0 []]) (by kernel_rfl)
theorem ATD (h:Hp) (v:Ds):FT Tryz.prog (h ++ [.live 2 [[.int .i64 0,.sl .nil 0 []]]]) 52 (.ptr h.length 0 0) (.agg (IQ v))=some (h ++ [.live 2 [IQ v]]):=by
 rw [XP (cs:=IQ v) (row := [.int .i64 0,.sl .nil 0 []]) rfl AF9 (C9 _ _) (by exact jL 2),LX]
 rfl
theorem AU7 (h:Hp):JF Tryz.prog h 89=some (.ptr h.length 0 0,h ++ [.live 4 [[.int .i64 0,.int .i64 0,.int .i64 0,.bool false]]]):=JP (row := [.int .i64 0,.int .i64 0,.int .i64 0,.bool false]) (by kernel_rfl)
theorem ATC (h:Hp) (v:Wg):FT Tryz.prog (h ++ [.live 4 [[.int .i64 0,.int .i64 0,.int .i64 0,.bool false]]]) 89 (.ptr h.length 0 0) (.agg (IR v))=some (h ++ [.live 4 [IR v]]):=by
 rw [XP (cs:=IR v) (row := [.int .i64 0,.int .i64 0,.int .i64 0,.bool false]) rfl ALD (C9 _ _) (by exact jL 4),LX]
 rfl
theorem AVQ {l:List Ds} {h:Hp} {m:SM} {i:Nat} (hi:i≤l.length) : ∃ m',J8 Tryz.prog h 24 (.sl m 2 (l.map IQ)) none (some (.int .i64 (i:Nat))) none=some (.sl m' 2 ((l.take i).map IQ)) :=
 ⟨APP m i (l.map IQ).length,by rw [AQO AVO AF9 (by rw [jM]; exact hi),List.map_take]⟩
section
variable (G:Nat→AV)
theorem SG (p:Pr) (i:Int) (hl:p.vars.length≤1048576) (h:Hp):PCall (En G) 113 [.agg (DX p),.int .i64 i] h (.bool (LC p.vars i)):=by
 refine ACalls.pure0 rfl ?_
 refine acN Tryz.func113 rfl ?_
 show awp _ _ _ _ _ (EH _ [.tmp 4] _)
 have l0:DI Tryz.prog (h ++ [ABlk.live 5 [DX p]]) 22 (.ptr h.length 0 0)=some (.sl p.vm 4 (p.vars.map FC)):=by rw [DC UF (C9 _ _) (row:=DX p) rfl]; rfl
 simp -implicitDefEqProofs only [BB,A8,A7,AZ,BA,BL,BU,CO,AC,AQ,AO,BD,AX,AL,AA,AY,AU,BH,BM,BI,BC,FN,BR,BV,AB,FQ,BF,CE,↓reduceIte,jA,jB,jC,enP,UC]
 cases b1:decide (i≥0)
 ·simp -implicitDefEqProofs only [BK,A7,CW,AZ,BA,BL,BU,CO,I4,AC,AQ,AO,BD,AX,AL,AA,EG,AY,AU,BM,BI,BC,CP,DN,↓reduceIte,jA,jB,jC,b1]
  refine ⟨?_,_,rfl⟩
  unfold LC; rw [show decide (0≤i)=false from b1]; rfl
 have h0:0≤i:=by simpa using b1
 obtain ⟨n,rfl⟩:=zL h0
 simp -implicitDefEqProofs only [AZ,BL,BU,CO,GH,AC,AQ,AO,BD,AX,AL,AA,AY,AU,BM,BI,CP,DL,BN,BR,BG,FH,AB,DF,BF,CE,↓reduceIte,jA,jI,jB,jC,enP,QA,KT,b1,l0,jM]
 cases b2:decide (((n:Nat):Int) < ((p.vars.length:Nat):Int))
 ·simp -implicitDefEqProofs only [BK,A7,CW,AZ,BA,BL,BU,CO,I4,AC,AQ,AO,BD,AX,AL,AA,EG,AY,AU,BM,BC,CP,DN,↓reduceIte,jA,jB,jC,b2]
  refine ⟨?_,_,rfl⟩
  unfold LC; rw [b2]; simp
 have hn:n < p.vars.length:=by simpa using b2
 have l2:DI Tryz.prog (h ++ [ABlk.live 5 [DX p]]) 3 (.fptr 4 (p.vars.map FC) n 2)=some (.int .i64 p.vars[n].mode):=by rw [GR ag3 hn]; rfl
 simp -implicitDefEqProofs only [BK,A7,CW,AZ,BA,BL,BU,CO,GH,AC,AQ,AO,BD,AX,AL,AA,AY,AU,BH,BM,BI,BC,CP,DL,BN,BR,BG,CU,AB,FU,BF,CE,↓reduceIte,jA,jI,jG,jB,jC,enP,RS,KT,LD,b2,l0,EJ hn,l2,bne]
 exact ⟨by rw [TJ hn],_,rfl⟩
theorem AT7 (x d:Ds) (c:Nat) (h:Hp) (hc:h[c]? = some (.live 2 [IQ d])):PCall (En G) 115 ([.agg (IQ x)] ++ [.ptr c 0 0]) h (.bool (x.var == d.var)):=by
 refine ACalls.pure0 rfl ?_
 refine acN Tryz.func115 rfl ?_
 show awp _ _ _ _ _ (EH _ [.tmp 3] _)
 have hc':(h ++ [ABlk.live 2 [IQ x]])[c]? = _:=CX hc
 have l0:DI Tryz.prog (h ++ [ABlk.live 2 [IQ x]]) 3 (.ptr h.length 0 0)=some (.int .i64 x.var):=by rw [DC ag3 (C9 _ _) (row:=IQ x) rfl]; rfl
 have l1:DI Tryz.prog (h ++ [ABlk.live 2 [IQ x]]) 3 (.ptr c 0 0)=some (.int .i64 d.var):=by rw [DC ag3 hc' (row:=IQ d) rfl]; rfl
 simp -implicitDefEqProofs only [BB,A8,BK,A7,CW,AZ,BA,AC,AQ,AO,BD,AX,AL,AA,AY,AU,BM,BC,FN,BN,BR,BG,BV,AB,DW,BF,CE,zA,zN,↓reduceIte,jA,jI,jB,jC,enP,U6,bxD,l0,l1]
 exact ⟨trivial,_,rfl⟩
theorem AT5 (x:Wg) (h:Hp):PCall (En G) 165 ([.agg (IR x)] ++ []) h (.bool (UD x)):=by
 refine ACalls.pure0 rfl ?_
 refine acN Tryz.func165 rfl ?_
 show awp _ _ _ _ _ (EH _ [.tmp 2] _)
 have l0:DI Tryz.prog (h ++ [ABlk.live 4 [IR x]]) 3 (.ptr h.length 0 0)=some (.int .i64 x.lo):=by rw [DC ag3 (C9 _ _) (row:=IR x) rfl]; rfl
 have l1:DI Tryz.prog (h ++ [ABlk.live 4 [IR x]]) 3 (.ptr h.length 0 1)=some (.int .i64 x.hi):=by rw [DC ag3 (C9 _ _) (row:=IR x) rfl]; rfl
 have l2:DI Tryz.prog (h ++ [ABlk.live 4 [IR x]]) 3 (.ptr h.length 0 2)=some (.int .i64 x.w):=by rw [DC ag3 (C9 _ _) (row:=IR x) rfl]; rfl
 simp -implicitDefEqProofs only [BB,A8,A7,AZ,BA,AC,AQ,AO,BD,AX,AL,AA,AY,AU,BM,BC,FN,BN,BG,BV,AB,BF,jE,↓reduceIte,jA,jI,jB,jC,enP,O8,AWQ]
 unfold UD
 cases b1:decide (x.lo < 0)
 case true =>
  simp -implicitDefEqProofs only [Bool.true_or,BK,A7,CW,AZ,BA,BL,BU,CO,F6,AC,AQ,AO,BD,AX,AL,AA,EG,AY,AU,BH,BM,BI,BC,CP,DL,BR,AB,DF,↓reduceIte,jA,jB,jC,enP,l0,b1]
  exact ⟨trivial,_,rfl⟩
 cases b2:decide (x.lo > x.hi)
 case true =>
  simp -implicitDefEqProofs only [qF,Bool.true_or,BK,A7,CW,AZ,BA,BL,BU,CO,EQ,F6,AC,AQ,AO,BD,AX,AL,AA,EG,AY,AU,BH,BM,BI,BC,CP,DL,DN,BN,BR,BG,AB,DF,E8,↓reduceIte,jA,jI,jG,jB,jC,enP,O8,QZ,l0,l1,b1,b2]
  exact ⟨trivial,_,rfl⟩
 cases b3:decide (x.hi > 65535)
 case true =>
  simp -implicitDefEqProofs only [jO,qF,Bool.true_or,BK,A7,CW,AZ,BA,BL,BU,CO,EQ,F6,AC,AQ,AO,BD,AX,AL,AA,EG,AY,AU,BH,BM,BI,BC,CP,DL,DN,BN,BR,BG,AB,DF,E8,↓reduceIte,jA,jI,jG,jB,jC,enP,O8,QZ,l0,l1,b1,b2,b3]
  exact ⟨trivial,_,rfl⟩
 cases b4:decide (x.w < 0)
 case true =>
  simp -implicitDefEqProofs only [jO,qF,Bool.true_or,BK,A7,CW,AZ,BA,BL,BU,CO,EQ,F6,AC,AQ,AO,BD,AX,AL,AA,EG,AY,AU,BH,BM,BI,BC,CP,DL,DN,BN,BR,BG,AB,DF,E8,↓reduceIte,jA,jI,jG,jB,jC,enP,O8,QZ,ZO,l0,l1,l2,b1,b2,b3,b4]
  exact ⟨trivial,_,rfl⟩
 cases b5:decide (x.w > 1000)
 all_goals
  simp -implicitDefEqProofs only [jO,qF,BK,A7,CW,AZ,BA,BL,BU,CO,EQ,AC,AQ,AO,BD,AX,AL,AA,AY,AU,BH,BM,BI,BC,CP,DN,BN,BR,BG,AB,DF,E8,↓reduceIte,jA,jI,jG,jB,jC,enP,O8,QZ,ZO,l0,l1,l2,b1,b2,b3,b4,b5]
  exact ⟨trivial,_,rfl⟩
theorem AB6 (xs:List Wg) (m:SM) (hl:xs.length≤1048576) (h:Hp):PCall (En G) 116 [.sl m 4 (xs.map IR)] h (.bool (!(xs.any UD))):=by
 refine acN Tryz.func116 rfl ?_
 show awp _ _ _ _ _ (EH _ [.tmp 2] _)
 simp -implicitDefEqProofs only [BB,A8,A7,AZ,BA,AC,AQ,AO,BD,AX,AL,AA,AY,AU,BO,BM,BI,BC,BX,BP,BF,jF,jD,jE,↓reduceIte,jA,jB,jC,enX,enP]
 refine (AR7 G xs m 165 [] UD h (by omega) fun x _=>AT5 G x h).use ?_
 simp -implicitDefEqProofs only [BK,A7,CW,AZ,BA,AC,AQ,AO,BD,AX,AL,AA,AY,BC,I5,AB,FP,↓reduceIte,jB,jC]
 exact ⟨trivial,trivial⟩
theorem AG9 (p:Pr) (hl:p.vars.length≤1048576) (hd:p.dists.length≤1048576) (hw : ∀ d∈p.dists,d.ws.length≤1048576) (h:Hp):PCall (En G) 61 [.agg (DX p)] h (.int .i64 (MB p.vars p.dists)):=by
 refine ACalls.pure0 rfl ?_
 refine acN Tryz.func61 rfl ?_
 show awp _ _ _ _ _ (EH _ [.tmp 2] _)
 have ge:=C9 h (ABlk.live 5 [DX p])
 have hxx:ext h (h ++ [ABlk.live 5 [DX p]]):=(ext.rfl' h).app _
 simp -implicitDefEqProofs only [BB,A8,A7,AZ,BA,AC,AQ,AO,BD,AX,AL,AA,AY,AU,BH,BC,FN,BN,BG,BV,AB,BF,↓reduceIte,jA,jG,jB,jC,enP,ACP,UC]
 generalize h ++ [ABlk.live 5 [DX p]]=H1 at ge hxx ⊢
 generalize h.length=eb at ge ⊢
 have l3:DI Tryz.prog H1 24 (.ptr eb 0 3)=some (.sl p.dm 2 (p.dists.map IQ)):=by rw [DC AQC ge (row:=DX p) rfl]; rfl
 simp -implicitDefEqProofs only [CJ,A7,AZ,BA,AC,AQ,AO,BD,AX,AL,AA,AY,AU,BH,BI,FH,AB,↓reduceIte,jB,jC,enP,AO3,l3,jM]
 refine D8 (fun n F H => ∃ i,n+i=p.dists.length∧(∀ (j:Nat),j < i→dsI p.vars p.dists j=0)∧F 1 = .ptr eb 0 0∧F 6 = .sl p.dm 2 (p.dists.map IQ)∧F 7 = .int .i64 (p.dists.length:Nat)∧F 8 = .int .i64 (i:Nat)∧H[eb]? = some (.live 5 [DX p])∧ext h H) p.dists.length ⟨0,by simp,fun j hj=>absurd hj (by omega),by simp -implicitDefEqProofs only [AA,↓reduceIte,jA],by simp -implicitDefEqProofs only [AA,↓reduceIte,jA],by simp -implicitDefEqProofs only [AA,↓reduceIte,jA],by simp -implicitDefEqProofs only [AA,↓reduceIte]; rfl,ge,hxx⟩ ?_
 clear ge hxx l3
 rintro n F H ⟨i,hi,hb,f1,f6,f7,f8,ge,hxx⟩
 simp -implicitDefEqProofs only [BB,A8,BJ,A7,AZ,BA,AC,AQ,AO,BD,AX,AL,AA,AY,BR,AB,DF,↓reduceIte,jB,jC,enP,f7,f8]
 refine CS (fun hc => ?_) (fun hc => ?_)
 ·have hi':i < p.dists.length:=by simpa using hc
  have hwi:=hw _ (jS hi')
  have hbad:=Z4 hi' hb
  have hat:=ZZ (l:=p.vars) hi'
  have ge1:(H ++ [ABlk.live 2 [IQ p.dists[i]]])[eb]? = _:=CX ge
  have hx1:ext h (H ++ [ABlk.live 2 [IQ p.dists[i]]]):=hxx.app _
  have gE:=C9 H (ABlk.live 2 [IQ p.dists[i]])
  simp -implicitDefEqProofs only [BB,CJ,A8,BQ,A7,AZ,BA,AC,AQ,AO,BD,AX,AL,DV,AA,AY,BI,BC,EX,BN,CY,CU,BV,AB,BZ,↓reduceIte,jA,jB,jC,enP,AAX,jJ,f6,f8,EJ hi',EM AQB AF9 V5 hi',AU8,ATD]
  generalize H ++ [ABlk.live 2 [IQ p.dists[i]]]=H1 at ge1 hx1 gE ⊢
  have lp:DI Tryz.prog H1 27 (.ptr eb 0 0)=some (.agg (DX p)):=by rw [GV UE SB ge1 (row:=DX p) rfl (by rw [IP]; exact jL 5)]; rfl
  have l3:DI Tryz.prog H1 24 (.ptr eb 0 3)=some (.sl p.dm 2 (p.dists.map IQ)):=by rw [DC AQC ge1 (row:=DX p) rfl]; rfl
  have d0:DI Tryz.prog H1 3 (.ptr H.length 0 0)=some (.int .i64 p.dists[i].var):=by rw [DC ag3 gE (row:=IQ p.dists[i]) rfl]; rfl
  have d1:DI Tryz.prog H1 50 (.ptr H.length 0 1)=some (.sl p.dists[i].wm 4 (p.dists[i].ws.map IR)):=by rw [DC ASW gE (row:=IQ p.dists[i]) rfl]; rfl
  obtain ⟨m',ht⟩:=AVQ (h:=H1) (m:=p.dm) (Nat.le_of_lt hi')
  simp -implicitDefEqProofs only [AZ,AC,AQ,AO,BD,AX,AL,AA,AY,BO,BN,BG,BX,BP,AB,jF,jD,jE,↓reduceIte,jA,jI,jB,jC,enP,U6,f1,lp,d0]
  refine (SG G p _ hl _).use ?_
  cases b1:LC p.vars p.dists[i].var
  ·have he:dsE p.vars (p.dists.take i) p.dists[i]=1:=by unfold dsE; rw [b1]; rfl
   simp -implicitDefEqProofs only [BB,A8,BK,BJ,A7,CQ,D5,FV,CW,DY,AZ,BA,AC,AQ,AO,BD,AX,AL,AA,AY,AU,BH,BC,I5,AB,FP,↓reduceIte,jB,jC]
   exact ⟨by rw [hbad (by rw [he]; decide),he],hx1⟩
  simp -implicitDefEqProofs only [Option.map_some,Option.map_none,BB,A8,BJ,A7,EC,AZ,BA,AC,AQ,AO,BD,AX,AL,AA,AY,BO,BI,BC,BN,I5,IX,NK,BG,BX,BP,AB,FP,jF,jD,jE,↓reduceIte,jA,jG,jB,jX,jC,enP,ACP,f1,l3,ht]
  refine (AMI G (p.dists.take i) m' 115 [.ptr H.length 0 0] (fun x=>x.var == p.dists[i].var) H1 (by rw [zT]; omega) fun x _=>AT7 G x p.dists[i] _ _ gE).use ?_
  cases b2:(p.dists.take i).any fun x=>x.var == p.dists[i].var
  case true =>
   have he:dsE p.vars (p.dists.take i) p.dists[i]=8:=by unfold dsE; rw [b1,b2]; rfl
   simp -implicitDefEqProofs only [BB,A8,BK,BJ,A7,CQ,D5,FV,CW,DY,AZ,BA,AC,AQ,AO,BD,AX,AL,AA,AY,AU,BH,BC,↓reduceIte,jB,jC]
   exact ⟨by rw [hbad (by rw [he]; decide),he],hx1⟩
  simp -implicitDefEqProofs only [BB,A8,BJ,A7,EC,AZ,BA,AC,AQ,AO,BD,AX,AL,AA,AY,AU,BH,BC,BN,BR,BG,FH,AB,E8,↓reduceIte,jA,jG,jB,jC,enP,AL3,WR,d1,jM]
  refine CS (fun b3 => ?_) (fun b3 => ?_)
  ·have he:dsE p.vars (p.dists.take i) p.dists[i]=2:=by unfold dsE; rw [b1,b2,if_pos rfl,if_neg (by decide),if_pos (by simp at b3; omega)]
   simp -implicitDefEqProofs only [BB,A8,BK,A7,CQ,D5,FV,CW,AZ,BA,AC,AQ,AO,BD,AX,AL,AA,AU,BH,BC,↓reduceIte,jB,jC]
   exact ⟨by rw [hbad (by rw [he]; decide),he],hx1⟩
  simp -implicitDefEqProofs only [BB,A8,AZ,AC,AQ,AO,BD,AX,AL,AA,AY,BO,BN,BG,BX,BP,AB,jF,jD,jE,↓reduceIte,jA,jG,jB,jC,enP,WR,d1]
  refine (AB6 G p.dists[i].ws p.dists[i].wm hwi _).use ?_
  cases b4:p.dists[i].ws.any UD
  case true =>
   have he:dsE p.vars (p.dists.take i) p.dists[i]=1:=by unfold dsE; rw [b1,b2,if_pos rfl,if_neg (by decide),if_neg (by simp at b3; omega),b4]; rfl
   simp -implicitDefEqProofs only [BB,A8,BK,BJ,A7,CQ,D5,FV,CW,DY,AZ,BA,AC,AQ,AO,BD,AX,AL,AA,AY,AU,BH,BC,I5,AB,FP,↓reduceIte,jB,jX,jC]
   exact ⟨by rw [hbad (by rw [he]; decide),he],hx1⟩
  have he:dsE p.vars (p.dists.take i) p.dists[i]=0:=by unfold dsE; rw [b1,b2,if_pos rfl,if_neg (by decide),if_neg (by simp at b3; omega),b4]; rfl
  simp -implicitDefEqProofs only [A8,BQ,BJ,A7,EO,FK,EC,AZ,BA,AC,AQ,AO,BD,AX,AL,AA,AY,AU,BH,BI,BC,BR,I5,AB,DZ,FP,↓reduceIte,jA,jB,jX,jC,enP,f8,wrap_succ (show i < 9223372036854775807 by omega)]
  refine ⟨n - 1,by omega,i+1,by omega,fun j hj => ?_,by trivial,by trivial,by trivial,rfl,ge1,hx1⟩
  rcases jT j i with h1 | h1
  ·exact hb j h1
  ·obtain rfl:j=i:=by omega
   rw [hat,he]
 ·have hi' : ¬ i < p.dists.length:=by simpa using hc
  simp -implicitDefEqProofs only [BB,A8,BK,D6,A7,E5,FY,GG,CW,AZ,BA,AC,AQ,AO,BD,AX,AL,AA,AU,BH,BC,↓reduceIte,jB,jC]
  exact ⟨by rw [XW fun j hj=>hb j (by omega)],hxx⟩
end
section
variable (G:Nat→AV)
set_option maxHeartbeats 1000000 in
theorem AKG (l:List Vr) (m:SM) (ds:List Ds) (s:SM) (hl:l.length≤1048576) (hd:ds.length≤1048576) (hw : ∀ d∈ds,d.ws.length≤1048576) (h:Hp):PCall (En G) 45 [.sl m 4 (l.map FC),.sl s 2 (ds.map IQ)] h (.int .i64 (MB l ds)):=by
 refine ACalls.pure0 rfl ?_
 refine acN Tryz.func45 rfl ?_
 show awp _ _ _ _ _ (EH _ [.tmp 4] _)
 simp -implicitDefEqProofs only [BB,CJ,A8,A7,AZ,BA,AC,AQ,AO,BD,AX,AL,AU,BH,BC,jB,jC,enP]
 refine D8 (fun n F H => ∃ i,n+i=ds.length∧(∀ (j:Nat),j < i→dsI l ds j=0)∧F 0 = .sl m 4 (l.map FC)∧F 1 = .sl s 2 (ds.map IQ)∧F 5 = .int .i64 (i:Nat)∧ext h H) ds.length ⟨0,by simp,fun j hj=>absurd hj (by omega),by simp -implicitDefEqProofs only [AA,BF,↓reduceIte,jA],by simp -implicitDefEqProofs only [AA,BF,CE,↓reduceIte,jA],by simp -implicitDefEqProofs only [AA,↓reduceIte]; rfl,ext.rfl' h⟩ ?_
 rintro n F H ⟨i,hi,hb,f0,f1,f5,hxx⟩
 simp -implicitDefEqProofs only [BB,A8,BJ,A7,AZ,BA,AC,AQ,AO,BD,AX,AL,AA,AY,BI,BR,FH,AB,DF,↓reduceIte,jA,jB,jC,enP,AO3,f1,f5,jM]
 refine CS (fun hc => ?_) (fun hc => ?_)
 ·have hi':i < ds.length:=by simpa using hc
  have hwi:=hw _ (jS hi')
  have hbad:=Z4 hi' hb
  have hat:=ZZ (l:=l) hi'
  have d0 : ∀ {k:Nat} (hk:k < ds.length) (H:Hp),DI Tryz.prog H 3 (.fptr 2 (ds.map IQ) k 0)=some (.int .i64 ds[k].var):=fun hk H=>by rw [GR ag3 hk]; rfl
  have d1 : ∀ H:Hp,DI Tryz.prog H 50 (.fptr 2 (ds.map IQ) i 1)=some (.sl ds[i].wm 4 (ds[i].ws.map IR)):=fun H=>by rw [GR ASW hi']; rfl
  simp -implicitDefEqProofs only [BB,CJ,A8,BQ,A7,AZ,BL,BU,CO,AC,AQ,AO,BD,AX,AL,AA,AY,AU,BH,BI,BN,BR,BG,CU,AB,DF,↓reduceIte,jA,jI,jB,jC,enP,AAX,U6,f0,f1,f5,EJ hi',d0 hi']
  refine PO (fun F' H'=>F' 0 = .sl m 4 (l.map FC)∧F' 1 = .sl s 2 (ds.map IQ)∧F' 5 = .int .i64 (i:Nat)∧F' 42 = .bool (!LC l ds[i].var)∧H'=H) ?_ ?_
  ·cases b1:decide (ds[i].var < 0)
   case true =>
    simp -implicitDefEqProofs only [AZ,BA,BL,BU,CO,F6,AC,AQ,AO,BD,AX,AL,AA,EG,AY,AU,BM,BI,CP,DL,↓reduceIte,jA,jB,jC,b1,f0,f1,f5]
    refine ⟨trivial,trivial,trivial,?_,trivial⟩
    have:LC l ds[i].var=false:=by unfold LC; rw [decide_eq_false (by simp at b1; omega)]; rfl
    rw [this]; rfl
   have h0:0≤ds[i].var:=by simpa using b1
   obtain ⟨k,hk⟩:=zL h0
   rw [hk] at b1 ⊢
   have d0':=d0 hi' H
   rw [hk] at d0'
   cases b2:decide (((k:Nat):Int)≥((l.length:Nat):Int))
   case true =>
    simp -implicitDefEqProofs only [AZ,BA,BL,BU,CO,EQ,F6,AC,AQ,AO,BD,AX,AL,AA,EG,AY,AU,BM,BI,CP,DL,DN,BN,BR,BG,CU,FH,AB,FQ,↓reduceIte,jA,jI,jB,jC,enP,QA,AAX,U6,b1,b2,f0,f1,f5,EJ hi',d0',jM]
    refine ⟨trivial,trivial,trivial,?_,trivial⟩
    have:LC l ((k:Nat):Int)=false:=by unfold LC; rw [decide_eq_false (p:=((k:Nat):Int) < (l.length:Int)) (by simp at b2; omega)]; simp
    rw [this]; rfl
   have hk':k < l.length:=by simp at b2; omega
   have l2:DI Tryz.prog H 3 (.fptr 4 (l.map FC) k 2)=some (.int .i64 l[k].mode):=by rw [GR ag3 hk']; rfl
   simp -implicitDefEqProofs only [AZ,BA,BL,BU,CO,EQ,AC,AQ,AO,BD,AX,AL,AA,AY,AU,BH,BM,BI,CP,DN,BN,BR,BG,CU,FH,AB,DW,FQ,↓reduceIte,jA,jI,jG,jB,jC,enP,RS,QA,AAX,U6,LD,b1,b2,f0,f1,f5,EJ hi',d0',jM,EJ hk',l2]
   exact ⟨trivial,trivial,trivial,by rw [TJ hk',Bool.not_not],trivial⟩
  clear f0 f1 f5
  rintro F H0 ⟨f0,f1,f5,f42,rfl⟩
  simp -implicitDefEqProofs only [BJ,A7,AY,f42]
  cases b1:LC l ds[i].var
  ·have he:dsE l (ds.take i) ds[i]=1:=by unfold dsE; rw [b1]; rfl
   simp -implicitDefEqProofs only [BB,A8,BK,A7,CQ,D5,FV,CW,DY,AZ,BA,AC,AQ,AO,BD,AX,AL,AA,AU,BH,BC,↓reduceIte,jB,jC]
   exact ⟨by rw [hbad (by rw [he]; decide),he],hxx⟩
  simp -implicitDefEqProofs only [BB,CJ,A8,BQ,A7,EC,AZ,BA,AC,AQ,AO,BD,AX,AL,AU,BH,BC,jB,jX,jC]
  refine JC 2 (fun F' H'=>F' 0 = .sl m 4 (l.map FC)∧F' 1 = .sl s 2 (ds.map IQ)∧F' 5 = .int .i64 (i:Nat)∧H'=H0∧((ds.take i).any fun x=>x.var == ds[i].var)=false) (fun F' H'=>F' 4 = .int .i64 (MB l ds)∧H'=H0) ?_ ?_ ?_
  ·refine D8 (fun n' F' H' => ∃ k,n'+k=i∧(∀ (j:Nat) (hj:j < k) (hl:j < ds.length),(ds[j].var == ds[i].var)=false)∧F' 0 = .sl m 4 (l.map FC)∧F' 1 = .sl s 2 (ds.map IQ)∧F' 5 = .int .i64 (i:Nat)∧F' 6 = .int .i64 (k:Nat)∧H'=H0) i ⟨0,by simp,fun j hj=>absurd hj (by omega),by simp -implicitDefEqProofs only [AA,↓reduceIte,jA,f0],by simp -implicitDefEqProofs only [AA,↓reduceIte,jA,f1],by simp -implicitDefEqProofs only [AA,↓reduceIte,jA,f5],by simp -implicitDefEqProofs only [AA,↓reduceIte]; rfl,rfl⟩ ?_
   clear f0 f1 f5 f42
   rintro n' F H ⟨k,hk,hbk,f0,f1,f5,f6,rfl⟩
   simp -implicitDefEqProofs only [BB,A8,BJ,A7,AZ,BA,AC,AQ,AO,BD,AX,AL,AA,AY,BI,BR,AB,DF,↓reduceIte,jA,jB,jC,enP,f5,f6]
   refine CS (fun hc => ?_) (fun hc => ?_)
   ·have hk':k < i:=by simpa using hc
    have hk2:k < ds.length:=by omega
    simp -implicitDefEqProofs only [BB,CJ,BQ,A7]
    refine EZ (by kernel_rfl) ?_
    simp -implicitDefEqProofs only [FD,DR,CZ,D9,DU,ES,ED,IJ,DK,FI,BJ,A7,AC,AA,AY,BN,BR,BG,CU,AB,DW,↓reduceIte,jA,Nat.reduceAdd,jI,jB,enP,AAX,U6,f1,f5,f6,EJ hk2,EJ hi',d0 hk2,d0 hi']
    refine CS (fun he => ?_) (fun he => ?_)
    ·have hany:((ds.take i).any fun x=>x.var == ds[i].var)=true:=qP.2 ⟨ds[k],by
      have:(ds.take i)[k]'(by rw [zT]; omega)=ds[k]:=List.getElem_take
      rw [← this]; exact jS _,he⟩
     have hz:dsE l (ds.take i) ds[i]=8:=by unfold dsE; rw [b1,hany]; rfl
     simp -implicitDefEqProofs only [BB,A8,BK,A7,CQ,D5,MR,FV,AZ,BA,AC,AQ,AO,BD,AX,AL,AA,AU,BH,BC,↓reduceIte,jB,jC]
     exact ⟨by rw [hbad (by rw [hz]; decide),hz],trivial⟩
    ·simp -implicitDefEqProofs only [A8,BQ,A7,EO,FK,AZ,BA,AC,AQ,AO,BD,AX,AL,AA,AY,AU,BH,BI,BC,BR,AB,DZ,↓reduceIte,jA,jB,jC,enP,f6,wrap_succ (show k < 9223372036854775807 by omega)]
     refine ⟨n' - 1,by omega,k+1,by omega,fun j hj hl => ?_,by trivial,by trivial,by trivial,rfl,trivial⟩
     rcases jT j k with h1 | h1
     ·exact hbk j h1 hl
     ·obtain rfl:j=k:=by omega
      exact he
   ·have hk' : ¬ k < i:=by simpa using hc
    simp -implicitDefEqProofs only [D6,E5,N8,GG,AA,↓reduceIte,jA]
    refine ⟨f0,f1,f5,trivial,?_⟩
    rw [List.any_eq_false]
    intro x hx
    obtain ⟨j,hj,rfl⟩:=qC hx
    rw [zT] at hj
    rw [List.getElem_take,hbk j (by omega) (by omega)]; decide
  ·rintro F' H' ⟨g0,g1,g5,rfl,b2⟩
   simp -implicitDefEqProofs only [BB,A8,BJ,A7,FY,AZ,BA,AC,AQ,AO,BD,AX,AL,AA,AY,AU,BH,BI,BN,BR,BG,CU,FH,AB,E8,↓reduceIte,jA,jG,jB,jC,enP,AAX,AL3,WR,g1,g5,EJ hi',d1,jM]
   refine CS (fun b3 => ?_) (fun b3 => ?_)
   ·have he:dsE l (ds.take i) ds[i]=2:=by unfold dsE; rw [b1,b2,if_pos rfl,if_neg (by decide),if_pos (by simp at b3; omega)]
    simp -implicitDefEqProofs only [BB,A8,BK,A7,CQ,D5,FV,CW,AZ,BA,AC,AQ,AO,BD,AX,AL,AA,AU,BH,BC,↓reduceIte,jB,jC]
    exact ⟨by rw [hbad (by rw [he]; decide),he],hxx⟩
   simp -implicitDefEqProofs only [BB,CJ,A8,BQ,A7,AZ,BA,AC,AQ,AO,BD,AX,AL,AU,BH,BC,jB,jC]
   refine JC 4 (fun F2 H2=>F2 0 = .sl m 4 (l.map FC)∧F2 1 = .sl s 2 (ds.map IQ)∧F2 5 = .int .i64 (i:Nat)∧ext h H2∧ds[i].ws.any UD=false) (fun F2 H2=>F2 4 = .int .i64 (MB l ds)∧ext h H2) ?_ ?_ ?_
   ·refine D8 (fun n' F2 H2 => ∃ k,n'+k=ds[i].ws.length∧(∀ (j:Nat) (hj:j < k) (hl:j < ds[i].ws.length),UD ds[i].ws[j]=false)∧F2 0 = .sl m 4 (l.map FC)∧F2 1 = .sl s 2 (ds.map IQ)∧F2 5 = .int .i64 (i:Nat)∧F2 7 = .int .i64 (k:Nat)∧ext h H2) ds[i].ws.length ⟨0,by simp,fun j hj=>absurd hj (by omega),by simp -implicitDefEqProofs only [AA,↓reduceIte,jA,g0],by simp -implicitDefEqProofs only [AA,↓reduceIte,jA,g1],by simp -implicitDefEqProofs only [AA,↓reduceIte,jA,g5],by simp -implicitDefEqProofs only [AA,↓reduceIte]; rfl,hxx⟩ ?_
    clear f0 f1 f5 f42 g0 g1 g5 hxx
    rintro n' F H ⟨k,hk,hbk,f0,f1,f5,f7,hxx⟩
    simp -implicitDefEqProofs only [BB,A8,BJ,A7,AZ,BA,AC,AQ,AO,BD,AX,AL,AA,AY,BI,BN,BR,BG,CU,FH,AB,DF,↓reduceIte,jA,jG,jB,jC,enP,AAX,AL3,WR,f1,f5,f7,EJ hi',d1,jM]
    refine CS (fun hc => ?_) (fun hc => ?_)
    ·have hk':k < ds[i].ws.length:=by simpa using hc
     have hx1:ext h (H ++ [ABlk.live 4 [IR ds[i].ws[k]]]):=hxx.app _
     have gE:=C9 H (ABlk.live 4 [IR ds[i].ws[k]])
     simp -implicitDefEqProofs only [BB,CJ,A8,BQ,A7,AZ,BA,AC,AQ,AO,BD,AX,AL,DV,AA,AY,BI,EX,BN,CY,BG,CU,BV,AB,BZ,↓reduceIte,jA,jI,jG,jB,jC,enP,AAX,AR6,WR,O8,jJ,f1,f5,f7,EJ hi',d1,EJ hk',EM ASV ALD TQ hk',AU7,ATC]
     generalize H ++ [ABlk.live 4 [IR ds[i].ws[k]]]=H1 at hx1 gE ⊢
     generalize hx:ds[i].ws[k]=x at gE
     have l0:DI Tryz.prog H1 3 (.ptr H.length 0 0)=some (.int .i64 x.lo):=by rw [DC ag3 gE (row:=IR x) rfl]; rfl
     have l1:DI Tryz.prog H1 3 (.ptr H.length 0 1)=some (.int .i64 x.hi):=by rw [DC ag3 gE (row:=IR x) rfl]; rfl
     have l2:DI Tryz.prog H1 3 (.ptr H.length 0 2)=some (.int .i64 x.w):=by rw [DC ag3 gE (row:=IR x) rfl]; rfl
     simp -implicitDefEqProofs only [AZ,BL,BU,CO,AC,AQ,AO,BD,AX,AL,AA,AY,AU,BH,BI,BR,AB,DF,↓reduceIte,jB,jC,enP,l0]
     refine PO (fun F' H'=>F' 0 = .sl m 4 (l.map FC)∧F' 1 = .sl s 2 (ds.map IQ)∧F' 5 = .int .i64 (i:Nat)∧F' 7 = .int .i64 (k:Nat)∧F' 108 = .bool (UD x)∧H'=H1) ?_ ?_
     ·unfold UD
      cases b1:decide (x.lo < 0)
      case true =>
       simp -implicitDefEqProofs only [Bool.true_or,AZ,BA,BL,BU,CO,F6,AC,AQ,AO,BD,AX,AL,AA,EG,AY,AU,BM,BI,CP,DL,↓reduceIte,jA,jB,jC,b1,f0,f1,f5,f7]
       exact ⟨trivial,trivial,trivial,trivial,trivial,trivial⟩
      cases b2:decide (x.lo > x.hi)
      case true =>
       simp -implicitDefEqProofs only [qF,Bool.true_or,AZ,BA,BL,BU,CO,EQ,F6,AC,AQ,AO,BD,AX,AL,AA,EG,AY,AU,BM,BI,CP,DL,DN,BN,BR,BG,AB,E8,↓reduceIte,jA,jI,jG,jB,jC,enP,O8,QZ,l0,l1,b1,b2,f0,f1,f5,f7]
       exact ⟨trivial,trivial,trivial,trivial,trivial,trivial⟩
      cases b3:decide (x.hi > 65535)
      case true =>
       simp -implicitDefEqProofs only [jO,qF,Bool.true_or,AZ,BA,BL,BU,CO,EQ,F6,AC,AQ,AO,BD,AX,AL,AA,EG,AY,AU,BH,BM,BI,CP,DL,DN,BN,BR,BG,AB,E8,↓reduceIte,jA,jI,jG,jB,jC,enP,O8,QZ,l0,l1,b1,b2,b3,f0,f1,f5,f7]
       exact ⟨trivial,trivial,trivial,trivial,trivial,trivial⟩
      cases b4:decide (x.w < 0)
      case true =>
       simp -implicitDefEqProofs only [jO,qF,Bool.true_or,AZ,BA,BL,BU,CO,EQ,F6,AC,AQ,AO,BD,AX,AL,AA,EG,AY,AU,BH,BM,BI,CP,DL,DN,BN,BR,BG,AB,DF,E8,↓reduceIte,jA,jI,jG,jB,jC,enP,O8,QZ,ZO,l0,l1,l2,b1,b2,b3,b4,f0,f1,f5,f7]
       exact ⟨trivial,trivial,trivial,trivial,trivial,trivial⟩
      cases b5:decide (x.w > 1000)
      all_goals
       simp -implicitDefEqProofs only [jO,qF,AZ,BA,BL,BU,CO,EQ,AC,AQ,AO,BD,AX,AL,AA,AY,AU,BH,BM,BI,CP,DN,BN,BR,BG,AB,DF,E8,↓reduceIte,jA,jI,jG,jB,jC,enP,O8,QZ,ZO,l0,l1,l2,b1,b2,b3,b4,b5,f0,f1,f5,f7]
       exact ⟨trivial,trivial,trivial,trivial,trivial,trivial⟩
     clear f0 f1 f5 f7
     rintro F H2 ⟨f0,f1,f5,f7,f108,rfl⟩
     simp -implicitDefEqProofs only [BJ,A7,AY,f108]
     refine CS (fun b4 => ?_) (fun b4 => ?_)
     ·have hany:ds[i].ws.any UD=true:=qP.2 ⟨x,by rw [← hx]; exact jS _,b4⟩
      have he:dsE l (ds.take i) ds[i]=1:=by unfold dsE; rw [b1,b2,if_pos rfl,if_neg (by decide),if_neg (by simp at b3; omega),hany]; rfl
      simp -implicitDefEqProofs only [BB,A8,BK,A7,CQ,D5,MR,FV,AZ,BA,AC,AQ,AO,BD,AX,AL,AA,AU,BH,BC,↓reduceIte,jB,jC]
      exact ⟨by rw [hbad (by rw [he]; decide),he],hx1⟩
     ·simp -implicitDefEqProofs only [A8,BQ,A7,EO,FK,AZ,BA,AC,AQ,AO,BD,AX,AL,AA,AY,AU,BH,BI,BC,BR,AB,DZ,↓reduceIte,jA,jB,jC,enP,f7,wrap_succ (show k < 9223372036854775807 by omega)]
      refine ⟨n' - 1,by omega,k+1,by omega,fun j hj hl => ?_,by trivial,by trivial,by trivial,rfl,hx1⟩
      rcases jT j k with h1 | h1
      ·exact hbk j h1 hl
      ·obtain rfl:j=k:=by omega
       rw [hx]; exact b4
    ·have hk' : ¬ k < ds[i].ws.length:=by simpa using hc
     simp -implicitDefEqProofs only [D6,E5,N8,GG,AA,↓reduceIte,jA]
     refine ⟨f0,f1,f5,hxx,?_⟩
     rw [List.any_eq_false]
     intro x hx
     obtain ⟨j,hj,rfl⟩:=qC hx
     rw [hbk j (by omega) hj]; decide
   ·rintro F2 H2 ⟨g0,g1,g5,hx2,b4⟩
    have he:dsE l (ds.take i) ds[i]=0:=by unfold dsE; rw [b1,b2,if_pos rfl,if_neg (by decide),if_neg (by simp at b3; omega),b4]; rfl
    simp -implicitDefEqProofs only [A8,A7,EO,FY,FK,AZ,BA,AC,AQ,AO,BD,AX,AL,AA,AY,AU,BH,BI,BC,BR,AB,DZ,↓reduceIte,jA,jB,jC,enP,g5,wrap_succ (show i < 9223372036854775807 by omega)]
    refine ⟨n - 1,by omega,i+1,by omega,fun j hj => ?_,by first | exact g0 | trivial,by first | exact g1 | trivial,rfl,hx2⟩
    rcases jT j i with h1 | h1
    ·exact hb j h1
    ·obtain rfl:j=i:=by omega
     rw [hat,he]
   ·rintro F2 H2 ⟨g4,hx2⟩
    simp -implicitDefEqProofs only [CQ,D5,FV,CW,g4]
    exact ⟨trivial,hx2⟩
  ·rintro F' H' ⟨g4,rfl⟩
   simp -implicitDefEqProofs only [CQ,D5,FV,CW,g4]
   exact ⟨trivial,hxx⟩
 ·have hi' : ¬ i < ds.length:=by simpa using hc
  simp -implicitDefEqProofs only [BB,A8,BK,D6,A7,E5,FY,GG,CW,AZ,BA,AC,AQ,AO,BD,AX,AL,AA,AU,BH,BC,↓reduceIte,jB,jC]
  exact ⟨by rw [XW fun j hj=>hb j (by omega)],hxx⟩
end
def flG (gs:List Gp):List Int:=gs.flatMap Gp.l
theorem AEX {gs:List Gp} {i:Nat} (hi:i < gs.length):flG (gs.take (i+1))=flG (gs.take i) ++ gs[i].l:=by
 unfold flG; rw [zY hi,List.flatMap_append]; simp
theorem ABG {gs:List Gp} {i j:Nat} (hi:i < gs.length) (hj:j < gs[i].l.length):flG gs=(flG (gs.take i) ++ gs[i].l.take j) ++ gs[i].l[j] :: (gs[i].l.drop (j+1) ++ flG (gs.drop (i+1))):=by
 have h1:gs=gs.take i ++ gs[i] :: gs.drop (i+1):=by rw [← qH hi,List.take_append_drop]
 have h2:flG gs=flG (gs.take i) ++ (gs[i].l ++ flG (gs.drop (i+1))):=by
  unfold flG
  conv=>lhs; rw [h1]
  rw [List.flatMap_append,List.flatMap_cons]
 have h3:gs[i].l=gs[i].l.take j ++ gs[i].l[j] :: gs[i].l.drop (j+1):=by rw [← qH hj,List.take_append_drop]
 have h4:gs[i].l ++ flG (gs.drop (i+1))=(gs[i].l.take j ++ gs[i].l[j] :: gs[i].l.drop (j+1)) ++ flG (gs.drop (i+1)):=by rw [← h3]
 rw [h2,h4]
 simp only [zS,zN]
def gOK (l:List Vr) (gs:List Gp):Bool:=decide ((∀ g∈gs,g.l≠[])∧(∀ x∈flG gs,0≤x∧x < l.length)∧∀ i:Fin l.length,(flG gs).count ((i.1:Nat):Int)=if l[i.1].mode=0 then 0 else 1)
theorem AIL {l:List Vr} {gs:List Gp} {g:Gp} (hg:g∈gs) (h:g.l = []):gOK l gs=false:=decide_eq_false fun ⟨h1,_⟩=>h1 g hg h
theorem ACK {l:List Vr} {gs:List Gp} {x:Int} (hx:x∈flG gs) (h : ¬ (0≤x∧x < l.length)):gOK l gs=false:=decide_eq_false fun ⟨_,h1,_⟩=>h (h1 x hx)
theorem VX {l:List Vr} {gs:List Gp} {i:Nat} (hi:i < l.length) (h:(flG gs).count ((i:Nat):Int)≠if l[i].mode=0 then 0 else 1):gOK l gs=false:=decide_eq_false fun ⟨_,_,h1⟩=>h (h1 ⟨i,hi⟩)
theorem OO {l:List Vr} {x:Int} (h:LC l x=true) : ∃ k,∃ hk:k < l.length,x=(k:Nat)∧¬ l[k].mode=0:=by
 unfold LC at h
 simp only [Bool.and_eq_true,decide_eq_true_eq] at h
 obtain ⟨h0,h1,h2⟩:=h
 have hk:x.toNat < l.length:=by omega
 rw [jV hk] at h2
 exact ⟨x.toNat,hk,by omega,by simpa using h2⟩
theorem API {l:List Vr} {gs:List Gp} {x:Int} (hx:x∈flG gs) (h:LC l x=false):gOK l gs=false:=by
 by_cases hr:0≤x∧x < l.length
 ·obtain ⟨k,rfl⟩:=zL hr.1
  have hk:k < l.length:=by omega
  rw [TJ hk] at h
  refine VX hk ?_
  rw [if_pos (by simpa using h)]
  have:=List.count_pos_iff.2 hx
  omega
 ·exact ACK hx hr
def bR (done:List Int) (n:Nat):List (List AV):=(List.range n).map fun i => [AV.bool (decide (((i:Nat):Int)∈done))]
def cR (done:List Int) (n:Nat):List (List AV):=(List.range n).map fun i => [AV.int .i64 ((done.count ((i:Nat):Int):Nat):Int)]
theorem XC (done:List Int) (n:Nat):(bR done n).length=n:=by simp [bR]
theorem WY (done:List Int) (n:Nat):(cR done n).length=n:=by simp [cR]
theorem VB (done:List Int) {n i:Nat} (hi:i < n):(bR done n)[i]? = some [AV.bool (decide (((i:Nat):Int)∈done))]:=by simp [bR,hi]
theorem U8 (done:List Int) {n i:Nat} (hi:i < n):(cR done n)[i]? = some [AV.int .i64 ((done.count ((i:Nat):Int):Nat):Int)]:=by simp [cR,hi]
theorem ASS (done:List Int) {n k:Nat} (hk:k < n):(bR done n).set k [.bool true]=bR (done ++ [(k:Int)]) n:=by
 apply List.ext_getElem?
 intro i
 rw [jW]
 by_cases hi:i < n
 ·by_cases e:k=i
  ·subst e
   rw [if_pos rfl,if_pos (by rw [XC]; exact hi),VB _ hi]
   simp
  ·rw [if_neg e,VB _ hi,VB _ hi]
   congr 3
   simp
   rintro h; omega
 ·rw [zC (by rw [XC]; omega)]
  split
  ·rw [if_neg (by rw [XC]; omega),zC (by rw [XC]; omega)]
  ·rw [zC (by rw [XC]; omega)]
theorem ASM (done:List Int) {n k:Nat} (hk:k < n):(cR done n).set k [.int .i64 ((done.count ((k:Nat):Int)+1:Nat):Int)]=cR (done ++ [(k:Int)]) n:=by
 apply List.ext_getElem?
 intro i
 rw [jW]
 by_cases hi:i < n
 ·by_cases e:k=i
  ·subst e
   rw [if_pos rfl,if_pos (by rw [WY]; exact hi),U8 _ hi,List.count_append]
   simp
  ·rw [if_neg e,U8 _ hi,U8 _ hi,List.count_append]
   have:((k:Nat):Int)≠((i:Nat):Int):=by omega
   simp [this]
 ·rw [zC (by rw [WY]; omega)]
  split
  ·rw [if_neg (by rw [WY]; omega),zC (by rw [WY]; omega)]
  ·rw [zC (by rw [WY]; omega)]
theorem ATX (h:Hp) (n:Nat) (hn:n≤1048576):JD Tryz.prog true h 138 (.int .i64 (n:Int)) (.int .i64 (n:Int))=some (.own h.length 0 n,h ++ [.live 1 (bR [] n)]):=by
 have hz:MJ Tryz.prog 4=some [.bool false]:=by kernel_rfl
 have hr:room n 1:=OI (by omega) (by omega)
 unfold JD
 simp only [AS9,sz4,AUJ,hz,zM]
 rw [if_pos ⟨by omega,Int.le_refl _,hr,rfl⟩]
 have:bR [] n=List.replicate n [.bool false]:=by
  apply List.ext_getElem?
  intro i
  by_cases hi:i < n
  ·rw [VB _ hi,List.getElem?_replicate,if_pos hi]; simp
  ·rw [zC (by rw [XC]; omega),zC (by simp; omega)]
 rw [this]
 simp
theorem AWA (h:Hp) (n:Nat) (hn:n≤1048576):JD Tryz.prog true h 45 (.int .i64 (n:Int)) (.int .i64 (n:Int))=some (.own h.length 0 n,h ++ [.live 1 (cR [] n)]):=by
 have hz:MJ Tryz.prog 3=some [.int .i64 0]:=by kernel_rfl
 have hr:room n 8:=OI (by omega) (by omega)
 unfold JD
 simp only [AVN,sz3,AWP,hz,zM]
 rw [if_pos ⟨by omega,Int.le_refl _,hr,rfl⟩]
 have:cR [] n=List.replicate n [.int .i64 0]:=by
  apply List.ext_getElem?
  intro i
  by_cases hi:i < n
  ·rw [U8 _ hi,List.getElem?_replicate,if_pos hi]; simp
  ·rw [zC (by rw [WY]; omega),zC (by simp; omega)]
 rw [this]
 simp
theorem AVY {h:Hp} {o j:Nat} {rows:List (List AV)} (ho:h[o]? = some (.live 1 rows)) (hj : ∃ v,rows[j]? = some [v]) (b:Bool):FT Tryz.prog h 4 (.ptr o j 0) (.bool b)=some (h.set o (.live 1 (rows.set j [.bool b]))):=by
 obtain ⟨v,hv⟩:=hj
 rw [JA (cs := [.bool b]) rfl sz4 ho hv (by simp)]; rfl
theorem AVX {h:Hp} {o j:Nat} {rows:List (List AV)} {x:Int} (ho:h[o]? = some (.live 1 rows)) (hj : ∃ v,rows[j]? = some [v]):FT Tryz.prog h 3 (.ptr o j 0) (.int .i64 x)=some (h.set o (.live 1 (rows.set j [.int .i64 x]))):=by
 obtain ⟨v,hv⟩:=hj
 rw [JA (cs := [.int .i64 x]) rfl sz3 ho hv (by simp)]; rfl
section
variable (G:Nat→AV)
set_option maxHeartbeats 1000000 in
theorem AG3 (l:List Vr) (m:SM) (gs:List Gp) (s:SM) (hl:l.length≤1048576) (hg:gs.length≤1048576) (hw:(flG gs).length≤1048576) (h:Hp):PCall (En G) 46 [.sl m 4 (l.map FC),.sl s 1 (gs.map PY)] h (.bool (gOK l gs)):=by
 refine ACalls.pure0 rfl ?_
 refine acN Tryz.func46 rfl ?_
 show awp _ _ _ _ _ (EH _ [.tmp 4] _)
 simp -implicitDefEqProofs only [BB,CJ,A8,A7,AZ,BA,AC,AQ,AO,BD,AX,AL,AA,AY,AU,BH,BM,BI,BC,RY,FH,BV,AB,BF,↓reduceIte,jA,jB,jC,enP,QA,jM,AWA h l.length hl]
 refine JC 0 (fun F H=>F 0 = .sl m 4 (l.map FC)∧F 5 = .own h.length 0 l.length∧H=h ++ [ABlk.live 1 (cR (flG gs) l.length)]∧(∀ g∈gs,g.l≠[])∧∀ x∈flG gs,0≤x∧x < l.length) (fun F H=>F 4 = .bool (gOK l gs)∧ext h H) ?_ ?_ ?_
 ·refine D8 (fun n F H => ∃ i,n+i=gs.length∧F 0 = .sl m 4 (l.map FC)∧F 1 = .sl s 1 (gs.map PY)∧F 5 = .own h.length 0 l.length∧F 6 = .int .i64 (i:Nat)∧H=h ++ [ABlk.live 1 (cR (flG (gs.take i)) l.length)]∧(∀ g∈gs.take i,g.l≠[])∧∀ x∈flG (gs.take i),0≤x∧x < l.length) gs.length ⟨0,by simp,by simp -implicitDefEqProofs only [AA,BF,↓reduceIte,jA],by simp -implicitDefEqProofs only [AA,BF,CE,↓reduceIte,jA],by simp -implicitDefEqProofs only [AA,↓reduceIte,jA],by simp -implicitDefEqProofs only [AA,↓reduceIte]; rfl,rfl,by simp,by simp [flG]⟩ ?_
  rintro n F H ⟨i,hi,f0,f1,f5,f6,rfl,hne,hin⟩
  simp -implicitDefEqProofs only [BB,A8,BJ,A7,AZ,BA,AC,AQ,AO,BD,AX,AL,AA,AY,BI,BR,FH,AB,DF,↓reduceIte,jA,jB,jC,enP,ATZ,f1,f6,jM]
  refine CS (fun hc => ?_) (fun hc => ?_)
  ·have hi':i < gs.length:=by simpa using hc
   have lg : ∀ H:Hp,DI Tryz.prog H 45 (.fptr 1 (gs.map PY) i 0)=some (.sl gs[i].m 1 (gs[i].l.map qencI)):=fun H=>by rw [GR ASX hi']; rfl
   simp -implicitDefEqProofs only [BB,CJ,A8,BQ,BJ,A7,AZ,BA,AC,AQ,AO,BD,AX,AL,AA,AY,AU,BH,BI,BN,BR,CU,FH,AB,DW,↓reduceIte,jA,jB,jC,enP,APA,AJ0,f1,f6,EJ hi',lg,jM]
   refine CS (fun hz => ?_) (fun hz => ?_)
   ·simp -implicitDefEqProofs only [BB,A8,BK,A7,CQ,D5,MR,FV,AZ,BA,AC,AQ,AO,BD,AX,AL,AA,AU,BM,BC,↓reduceIte,jB,jC]
    exact ⟨by rw [AIL (jS hi') (qN (by simpa using hz))],_,rfl⟩
   have hnz:gs[i].l≠[]:=by
    intro e; rw [e] at hz; simp at hz
   simp -implicitDefEqProofs only [BB,CJ,A8,BQ,A7,AZ,BA,AC,AQ,AO,BD,AX,AL,AU,BH,BC,jB,jC]
   refine JC 2 (fun F' H'=>F' 0 = .sl m 4 (l.map FC)∧F' 1 = .sl s 1 (gs.map PY)∧F' 5 = .own h.length 0 l.length∧F' 6 = .int .i64 (i:Nat)∧H'=h ++ [ABlk.live 1 (cR (flG (gs.take i) ++ gs[i].l) l.length)]∧∀ x∈flG (gs.take i) ++ gs[i].l,0≤x∧x < l.length) (fun F' H'=>F' 4 = .bool (gOK l gs)∧ext h H') ?_ ?_ ?_
   ·refine D8 (fun n' F' H' => ∃ j,n'+j=gs[i].l.length∧F' 0 = .sl m 4 (l.map FC)∧F' 1 = .sl s 1 (gs.map PY)∧F' 5 = .own h.length 0 l.length∧F' 6 = .int .i64 (i:Nat)∧F' 7 = .int .i64 (j:Nat)∧H'=h ++ [ABlk.live 1 (cR (flG (gs.take i) ++ gs[i].l.take j) l.length)]∧∀ x∈flG (gs.take i) ++ gs[i].l.take j,0≤x∧x < l.length) gs[i].l.length ⟨0,by simp,by simp -implicitDefEqProofs only [AA,↓reduceIte,jA,f0],by simp -implicitDefEqProofs only [AA,↓reduceIte,jA,f1],by simp -implicitDefEqProofs only [AA,↓reduceIte,jA,f5],by simp -implicitDefEqProofs only [AA,↓reduceIte,jA,f6],by simp -implicitDefEqProofs only [AA,↓reduceIte]; rfl,by rw [zF,jE],by rw [zF,jE]; exact hin⟩ ?_
    clear f0 f1 f5 f6
    rintro n' F H ⟨j,hj,f0,f1,f5,f6,f7,rfl,hin2⟩
    simp -implicitDefEqProofs only [BB,A8,BJ,A7,AZ,BA,AC,AQ,AO,BD,AX,AL,AA,AY,BI,BN,BR,CU,FH,AB,DF,↓reduceIte,jA,jB,jC,enP,APA,AJ0,f1,f6,f7,EJ hi',lg,jM]
    refine CS (fun hc => ?_) (fun hc => ?_)
    ·have hj':j < gs[i].l.length:=by simpa using hc
     have hsp:=ABG hi' hj'
     have hmem:gs[i].l[j]∈flG gs:=by rw [hsp]; simp
     have l3 : ∀ H:Hp,DI Tryz.prog H 3 (.fptr 1 (gs[i].l.map qencI) j 0)=some (.int .i64 gs[i].l[j]):=fun H=>by rw [GR ag3 hj']; rfl
     simp -implicitDefEqProofs only [BB,CJ,A8,BQ,A7,AZ,BA,BL,BU,CO,AC,AQ,AO,BD,AX,AL,AA,AY,AU,BH,BI,BC,BN,BR,CU,AB,DF,↓reduceIte,jA,jB,jC,enP,APA,AGW,f1,f6,f7,EJ hi',lg,EJ hj',l3]
     cases b1:decide (gs[i].l[j] < 0)
     case true =>
      simp -implicitDefEqProofs only [BB,A8,BK,BJ,A7,CQ,D5,MR,FV,DY,AZ,BA,BL,BU,CO,F6,AC,AQ,AO,BD,AX,AL,AA,EG,AY,AU,BM,BC,CP,DL,↓reduceIte,jA,jB,jC,b1]
      exact ⟨by rw [ACK hmem (by simp at b1; omega)],_,rfl⟩
     simp -implicitDefEqProofs only [BJ,A7,AZ,BA,BL,BU,CO,EQ,AC,AQ,AO,BD,AX,AL,AA,AY,AU,BM,BI,CP,DN,BR,FH,AB,FQ,↓reduceIte,jA,jB,jC,enP,QA,b1,f0,jM]
     refine CS (fun b2 => ?_) (fun b2 => ?_)
     ·simp -implicitDefEqProofs only [BB,A8,BK,A7,CQ,D5,MR,FV,AZ,BA,AC,AQ,AO,BD,AX,AL,AA,AU,BM,BC,↓reduceIte,jB,jC]
      exact ⟨by rw [ACK hmem (by simp at b2; omega)],_,rfl⟩
     have h0:0≤gs[i].l[j]:=by simpa using b1
     obtain ⟨k,hk⟩:=zL h0
     have hkl:k < l.length:=by rw [hk] at b2; simp at b2; omega
     have hb0:=C9 h (ABlk.live 1 (cR (flG (gs.take i) ++ gs[i].l.take j) l.length))
     have hcnt:(flG (gs.take i) ++ gs[i].l.take j).count ((k:Nat):Int)≤1048576:=by
      have h1:=List.count_le_length (a:=((k:Nat):Int)) (l:=flG (gs.take i) ++ gs[i].l.take j)
      have h2:(flG (gs.take i) ++ gs[i].l.take j).length≤(flG gs).length:=by
       rw [hsp]; simp only [zQ]; omega
      omega
     have hjb:j≤1048576:=by
      have h2:gs[i].l.length≤(flG gs).length:=by
       rw [hsp]; simp only [zQ,qA,zT,List.length_drop]; omega
      omega
     have lc:DI Tryz.prog (h ++ [ABlk.live 1 (cR (flG (gs.take i) ++ gs[i].l.take j) l.length)]) 3 (.ptr h.length k 0)=some (.int .i64 (((flG (gs.take i) ++ gs[i].l.take j).count ((k:Nat):Int):Nat):Int)):=by
      rw [DC ag3 hb0 (U8 _ hkl)]; rfl
     have hst:=AVX (x:=(((flG (gs.take i) ++ gs[i].l.take j).count ((k:Nat):Int)+1:Nat):Int)) hb0 (j:=k) ⟨_,U8 _ hkl⟩
     rw [ASM _ hkl,LX] at hst
     have hap:(flG (gs.take i) ++ gs[i].l.take j) ++ [((k:Nat):Int)]=flG (gs.take i) ++ gs[i].l.take (j+1):=by
      rw [zY hj',hk,zS]
     simp -implicitDefEqProofs only [A8,BQ,A7,EO,FK,AZ,BA,AC,AQ,AO,BD,AX,AL,DV,AA,AY,AU,BH,BI,BC,BN,CY,BR,CU,AB,BZ,DZ,↓reduceIte,jA,jG,jB,jC,enP,AGW,jJ,f5,hk,KD hb0 hkl,lc,wrap_succ (show (flG (gs.take i) ++ gs[i].l.take j).count ((k:Nat):Int) < 9223372036854775807 by omega),hst,f7,wrap_succ (show j < 9223372036854775807 by omega)]
     refine ⟨n' - 1,by omega,j+1,by omega,by trivial,by trivial,by trivial,by trivial,rfl,by rw [← hap],fun x hx => ?_⟩
     rw [← hap] at hx
     rcases zX.1 hx with hx | hx
     ·exact hin2 x hx
     ·rw [List.mem_singleton] at hx
      rw [hx]; omega
    ·have hj' : ¬ j < gs[i].l.length:=by simpa using hc
     have e:gs[i].l.take j=gs[i].l:=jY (by omega)
     rw [e] at hin2
     simp -implicitDefEqProofs only [D6,E5,N8,GG,AA,↓reduceIte,jA]
     exact ⟨f0,f1,f5,f6,by rw [e],hin2⟩
   ·rintro F' H' ⟨g0,g1,g5,g6,rfl,hin2⟩
    simp -implicitDefEqProofs only [A8,A7,EO,FY,FK,AZ,BA,AC,AQ,AO,BD,AX,AL,AA,AY,AU,BH,BI,BC,BR,AB,DZ,↓reduceIte,jA,jB,jC,enP,g6,wrap_succ (show i < 9223372036854775807 by omega)]
    have hft:=AEX hi'
    refine ⟨n - 1,by omega,i+1,by omega,by first | exact g0 | trivial,by first | exact g1 | trivial,by first | exact g5 | trivial,rfl,by rw [hft],fun g hg => ?_,by rw [hft]; exact hin2⟩
    rw [zY hi'] at hg
    rcases zX.1 hg with hg | hg
    ·exact hne g hg
    ·rw [List.mem_singleton] at hg; rw [hg]; exact hnz
   ·rintro F' H' ⟨g4,hx⟩
    simp -implicitDefEqProofs only [CQ,D5,MR,FV,g4]
    exact ⟨trivial,hx⟩
  ·have hi' : ¬ i < gs.length:=by simpa using hc
   rw [jY (by omega)] at hne hin
   simp -implicitDefEqProofs only [D6,E5,N8,GG,AA,↓reduceIte,jA]
   exact ⟨f0,f5,by rw [jY (by omega)],hne,hin⟩
 ·rintro F H ⟨f0,f5,rfl,hne,hin⟩
  have hb0:=C9 h (ABlk.live 1 (cR (flG gs) l.length))
  have hx0:ext h (h ++ [ABlk.live 1 (cR (flG gs) l.length)]):=⟨_,rfl⟩
  generalize h ++ [ABlk.live 1 (cR (flG gs) l.length)]=H0 at hb0 hx0 ⊢
  simp -implicitDefEqProofs only [BB,CJ,A8,A7,FY,AZ,BA,AC,AQ,AO,BD,AX,AL,AU,BH,BC,↓reduceIte,jB,jC]
  refine D8 (fun n F H => ∃ i,n+i=l.length∧(∀ (j:Nat),j < i→∀ hj:j < l.length,(flG gs).count ((j:Nat):Int)=if l[j].mode=0 then 0 else 1)∧F 0 = .sl m 4 (l.map FC)∧F 5 = .own h.length 0 l.length∧F 9 = .int .i64 (i:Nat)∧H=H0) l.length ⟨0,by simp,fun j hj=>absurd hj (by omega),by simp -implicitDefEqProofs only [AA,↓reduceIte,jA,f0],by simp -implicitDefEqProofs only [AA,↓reduceIte,jA,f5],by simp -implicitDefEqProofs only [AA,↓reduceIte]; rfl,rfl⟩ ?_
  clear f0 f5
  rintro n F H ⟨i,hi,hb,f0,f5,f9,rfl⟩
  simp -implicitDefEqProofs only [BB,A8,BJ,A7,AZ,BA,AC,AQ,AO,BD,AX,AL,AA,AY,BI,BR,FH,AB,DF,↓reduceIte,jA,jB,jC,enP,QA,f0,f9,jM]
  refine CS (fun hc => ?_) (fun hc => ?_)
  ·have hi':i < l.length:=by simpa using hc
   have l2:DI Tryz.prog H 3 (.fptr 4 (l.map FC) i 2)=some (.int .i64 l[i].mode):=by rw [GR ag3 hi']; rfl
   have lc:DI Tryz.prog H 3 (.ptr h.length i 0)=some (.int .i64 (((flG gs).count ((i:Nat):Int):Nat):Int)):=by
    rw [DC ag3 hb0 (U8 _ hi')]; rfl
   have nxt:(flG gs).count ((i:Nat):Int)=(if l[i].mode=0 then 0 else 1)→∀ (j:Nat),j < i+1→∀ hj:j < l.length,(flG gs).count ((j:Nat):Int)=if l[j].mode=0 then 0 else 1:=fun he j hj hl=>by
    rcases jT j i with h1 | h1
    ·exact hb j h1 hl
    ·obtain rfl:j=i:=by omega
     exact he
   simp -implicitDefEqProofs only [BB,CJ,A8,BQ,BJ,A7,AZ,BA,AC,AQ,AO,BD,AX,AL,AA,AY,AU,BH,BI,BC,BN,BR,BG,CU,AB,DW,↓reduceIte,jA,jG,jB,jC,enP,RS,LD,f0,f9,EJ hi',l2]
   refine CS (fun b1 => ?_) (fun b1 => ?_)
   ·have hm:l[i].mode=0:=by simpa using b1
    simp -implicitDefEqProofs only [BB,A8,BJ,A7,AZ,BA,AC,AQ,AO,BD,AX,AL,AA,AY,AU,BH,BI,BC,BN,BR,CU,AB,FU,↓reduceIte,jA,jG,jB,jC,enP,AGW,f5,f9,KD hb0 hi',lc]
    refine CS (fun b2 => ?_) (fun b2 => ?_)
    ·simp -implicitDefEqProofs only [BB,A8,BK,A7,CQ,D5,FV,CW,AZ,BA,AC,AQ,AO,BD,AX,AL,AA,AU,BM,BC,↓reduceIte,jB,jC]
     refine ⟨?_,hx0⟩
     rw [VX hi' (by rw [if_pos hm]; simp [bne] at b2; exact fun e=>b2 e)]
    ·have he:=nxt (by rw [if_pos hm]; simp [bne] at b2; exact b2)
     simp -implicitDefEqProofs only [A8,BQ,A7,EO,FK,AZ,BA,AC,AQ,AO,BD,AX,AL,AA,AY,AU,BH,BI,BC,BR,AB,DZ,↓reduceIte,jA,jB,jC,enP,f9,wrap_succ (show i < 9223372036854775807 by omega)]
     exact ⟨n - 1,by omega,i+1,by omega,he,by trivial,by trivial,rfl,trivial⟩
   ·have hm : ¬ l[i].mode=0:=by simpa using b1
    simp -implicitDefEqProofs only [BB,A8,BQ,BJ,A7,AZ,BA,AC,AQ,AO,BD,AX,AL,AA,AY,BI,BN,BR,CU,AB,FU,↓reduceIte,jA,jG,jB,jC,enP,AGW,f5,f9,KD hb0 hi',lc]
    refine CS (fun b2 => ?_) (fun b2 => ?_)
    ·simp -implicitDefEqProofs only [BB,A8,BK,A7,CQ,D5,FV,CW,AZ,BA,AC,AQ,AO,BD,AX,AL,AA,AU,BM,BC,↓reduceIte,jB,jC]
     refine ⟨?_,hx0⟩
     rw [VX hi' (by rw [if_neg hm]; intro e; rw [e] at b2; exact absurd b2 (by decide))]
    ·have he:=nxt (by rw [if_neg hm]; simp [bne] at b2; omega)
     simp -implicitDefEqProofs only [A8,BQ,A7,EO,FK,AZ,BA,AC,AQ,AO,BD,AX,AL,AA,AY,AU,BH,BI,BC,BR,AB,DZ,↓reduceIte,jA,jB,jC,enP,f9,wrap_succ (show i < 9223372036854775807 by omega)]
     exact ⟨n - 1,by omega,i+1,by omega,he,by trivial,by trivial,rfl,trivial⟩
  ·have hi' : ¬ i < l.length:=by simpa using hc
   simp -implicitDefEqProofs only [BB,A8,BK,D6,A7,E5,FY,GG,CW,AZ,BA,AC,AQ,AO,BD,AX,AL,AA,AU,BM,BC,↓reduceIte,jB,jC]
   refine ⟨?_,hx0⟩
   rw [show gOK l gs=true from decide_eq_true ⟨hne,hin,fun i=>hb i.1 (by omega) i.2⟩]
 ·rintro F H ⟨f4,hx⟩
  simp -implicitDefEqProofs only [CQ,D5,CW,f4]
  exact ⟨trivial,hx⟩
end
section
variable (G:Nat→AV)
set_option maxHeartbeats 1000000 in
theorem AES (p:Pr) (hl:p.vars.length≤1048576) (hg:p.groups.length≤1048576) (hw:(flG p.groups).length≤1048576) (h:Hp):PCall (En G) 63 [.agg (DX p)] h (.int .i64 (if gOK p.vars p.groups=true then 0 else 1)):=by
 refine ACalls.pure0 rfl ?_
 refine acN Tryz.func63 rfl ?_
 show awp _ _ _ _ _ (EH _ [.tmp 2] _)
 have ge:=C9 h (ABlk.live 5 [DX p])
 have hxx:ext h (h ++ [ABlk.live 5 [DX p]]):=(ext.rfl' h).app _
 simp -implicitDefEqProofs only [BB,A8,A7,AZ,BA,AC,AQ,AO,BD,AX,AL,AA,AY,AU,BH,BC,FN,BN,BG,BV,AB,BF,↓reduceIte,jA,jI,jB,jC,enP,KT,UC]
 generalize h ++ [ABlk.live 5 [DX p]]=hb at ge hxx ⊢
 generalize h.length=eb at ge ⊢
 have nb:gOK p.vars p.groups=false→(AV.int .i64 1=AV.int .i64 (if gOK p.vars p.groups=true then 0 else 1)):=fun hh=>by rw [hh]; rfl
 have l0:DI Tryz.prog hb 22 (.ptr eb 0 0)=some (.sl p.vm 4 (p.vars.map FC)):=by rw [DC UF ge (row:=DX p) rfl]; rfl
 simp -implicitDefEqProofs only [BB,A8,A7,AZ,BA,AC,AQ,AO,BD,AX,AL,AA,AY,BC,BN,RY,BG,FH,BV,AB,↓reduceIte,jA,jG,jB,jC,enP,QA,AMS,l0,jM,ATX hb p.vars.length hl]
 have geA : ∀ x:ABlk,(hb ++ [x])[eb]? = some (ABlk.live 5 [DX p]):=fun x=>CX ge
 have l4 : ∀ x:ABlk,DI Tryz.prog (hb ++ [x]) 25 (.ptr eb 0 4)=some (.sl p.gm 1 (p.groups.map PY)):=fun x=>by rw [DC AVD (geA x) (row:=DX p) rfl]; rfl
 have lp : ∀ x:ABlk,DI Tryz.prog (hb ++ [x]) 27 (.ptr eb 0 0)=some (.agg (DX p)):=fun x=>by rw [GV UE SB (geA x) (row:=DX p) rfl (by rw [IP]; exact jL 5)]; rfl
 have l0A : ∀ x:ABlk,DI Tryz.prog (hb ++ [x]) 22 (.ptr eb 0 0)=some (.sl p.vm 4 (p.vars.map FC)):=fun x=>by rw [DC UF (geA x) (row:=DX p) rfl]; rfl
 have hxA : ∀ x:ABlk,ext h (hb ++ [x]):=fun x=>hxx.app _
 simp -implicitDefEqProofs only [CJ,A7,AZ,BA,AC,AQ,AO,BD,AX,AL,AA,AY,AU,BH,BI,FH,AB,↓reduceIte,jB,jC,enP,ATZ,l4,jM]
 refine JC 0 (fun F H=>F 1 = .ptr eb 0 0∧F 3 = .own hb.length 0 p.vars.length∧H=hb ++ [ABlk.live 1 (bR (flG p.groups) p.vars.length)]∧(∀ g∈p.groups,g.l≠[])∧(∀ x∈flG p.groups,LC p.vars x=true)∧∀ x:Int,(flG p.groups).count x≤1) (fun F H=>F 2 = .int .i64 (if gOK p.vars p.groups=true then 0 else 1)∧ext h H) ?_ ?_ ?_
 ·refine D8 (fun n F H => ∃ i,n+i=p.groups.length∧F 1 = .ptr eb 0 0∧F 3 = .own hb.length 0 p.vars.length∧F 14 = .sl p.gm 1 (p.groups.map PY)∧F 15 = .int .i64 (p.groups.length:Nat)∧F 16 = .int .i64 (i:Nat)∧H=hb ++ [ABlk.live 1 (bR (flG (p.groups.take i)) p.vars.length)]∧(∀ g∈p.groups.take i,g.l≠[])∧(∀ x∈flG (p.groups.take i),LC p.vars x=true)∧∀ x:Int,(flG (p.groups.take i)).count x≤1) p.groups.length ⟨0,by simp,by simp -implicitDefEqProofs only [AA,↓reduceIte,jA],by simp -implicitDefEqProofs only [AA,↓reduceIte,jA],by simp -implicitDefEqProofs only [AA,↓reduceIte,jA],by simp -implicitDefEqProofs only [AA,↓reduceIte,jA],by simp -implicitDefEqProofs only [AA,↓reduceIte]; rfl,rfl,by simp,by simp [flG],by simp [flG]⟩ ?_
  rintro n F H ⟨i,hi,f1,f3,f14,f15,f16,rfl,hne,hin,hct⟩
  simp -implicitDefEqProofs only [BB,A8,BJ,A7,AZ,BA,AC,AQ,AO,BD,AX,AL,AA,AY,BR,AB,DF,↓reduceIte,jB,jC,enP,f15,f16]
  refine CS (fun hc => ?_) (fun hc => ?_)
  ·have hi':i < p.groups.length:=by simpa using hc
   have lg : ∀ H:Hp,DI Tryz.prog H 45 (.fptr 1 (p.groups.map PY) i 0)=some (.sl p.groups[i].m 1 (p.groups[i].l.map qencI)):=fun H=>by rw [GR ASX hi']; rfl
   simp -implicitDefEqProofs only [BB,CJ,A8,BQ,BJ,A7,AZ,BA,AC,AQ,AO,BD,AX,AL,AA,AY,AU,BH,BI,BC,BN,BR,CU,FH,AB,DW,↓reduceIte,jA,jB,jC,enP,APA,AJ0,f14,f16,EJ hi',lg,jM]
   refine CS (fun hz => ?_) (fun hz => ?_)
   ·simp -implicitDefEqProofs only [BB,A8,BK,A7,CQ,D5,MR,FV,AZ,BA,AC,AQ,AO,BD,AX,AL,AA,AU,BH,BC,↓reduceIte,jB,jC]
    exact ⟨nb (AIL (jS hi') (qN (by simpa using hz))),hxA _⟩
   have hnz:p.groups[i].l≠[]:=by
    intro e; rw [e] at hz; simp at hz
   simp -implicitDefEqProofs only [BB,CJ,A8,BQ,A7,AZ,BA,AC,AQ,AO,BD,AX,AL,AA,AY,AU,BH,BI,FH,AB,↓reduceIte,jA,jB,jC,enP,AJ0,jM]
   refine JC 2 (fun F' H'=>F' 1 = .ptr eb 0 0∧F' 3 = .own hb.length 0 p.vars.length∧F' 14 = .sl p.gm 1 (p.groups.map PY)∧F' 15 = .int .i64 (p.groups.length:Nat)∧F' 16 = .int .i64 (i:Nat)∧H'=hb ++ [ABlk.live 1 (bR (flG (p.groups.take i) ++ p.groups[i].l) p.vars.length)]∧(∀ x∈flG (p.groups.take i) ++ p.groups[i].l,LC p.vars x=true)∧∀ x:Int,(flG (p.groups.take i) ++ p.groups[i].l).count x≤1) (fun F' H'=>F' 2 = .int .i64 (if gOK p.vars p.groups=true then 0 else 1)∧ext h H') ?_ ?_ ?_
   ·refine D8 (fun n' F' H' => ∃ j,n'+j=p.groups[i].l.length∧F' 1 = .ptr eb 0 0∧F' 3 = .own hb.length 0 p.vars.length∧F' 14 = .sl p.gm 1 (p.groups.map PY)∧F' 15 = .int .i64 (p.groups.length:Nat)∧F' 16 = .int .i64 (i:Nat)∧F' 23 = .sl p.groups[i].m 1 (p.groups[i].l.map qencI)∧F' 24 = .int .i64 (p.groups[i].l.length:Nat)∧F' 25 = .int .i64 (j:Nat)∧H'=hb ++ [ABlk.live 1 (bR (flG (p.groups.take i) ++ p.groups[i].l.take j) p.vars.length)]∧(∀ x∈flG (p.groups.take i) ++ p.groups[i].l.take j,LC p.vars x=true)∧∀ x:Int,(flG (p.groups.take i) ++ p.groups[i].l.take j).count x≤1) p.groups[i].l.length
     ⟨0,by simp,by simp -implicitDefEqProofs only [AA,↓reduceIte,jA,f1],by simp -implicitDefEqProofs only [AA,↓reduceIte,jA,f3],by simp -implicitDefEqProofs only [AA,↓reduceIte,jA,f14],by simp -implicitDefEqProofs only [AA,↓reduceIte,jA,f15],by simp -implicitDefEqProofs only [AA,↓reduceIte,jA,f16],by simp -implicitDefEqProofs only [AA,↓reduceIte,jA],by simp -implicitDefEqProofs only [AA,↓reduceIte,jA],by simp -implicitDefEqProofs only [AA,↓reduceIte]; rfl,by rw [zF,jE],by rw [zF,jE]; exact hin,by rw [zF,jE]; exact hct⟩ ?_
    clear f1 f3 f14 f15 f16
    rintro n' F H ⟨j,hj,f1,f3,f14,f15,f16,f23,f24,f25,rfl,hin2,hct2⟩
    simp -implicitDefEqProofs only [BB,A8,BJ,A7,AZ,BA,AC,AQ,AO,BD,AX,AL,AA,AY,BR,AB,DF,↓reduceIte,jB,jC,enP,f24,f25]
    refine CS (fun hc => ?_) (fun hc => ?_)
    ·have hj':j < p.groups[i].l.length:=by simpa using hc
     have hsp:=ABG hi' hj'
     have hmem:p.groups[i].l[j]∈flG p.groups:=by rw [hsp]; simp
     have l3 : ∀ H:Hp,DI Tryz.prog H 3 (.fptr 1 (p.groups[i].l.map qencI) j 0)=some (.int .i64 p.groups[i].l[j]):=fun H=>by rw [GR ag3 hj']; rfl
     simp -implicitDefEqProofs only [BB,CJ,A8,BQ,A7,AZ,BA,AC,AQ,AO,BD,AX,AL,AA,AY,BO,BI,BC,BN,CU,BX,BP,AB,jF,jD,jE,↓reduceIte,jA,jB,jC,enP,AGW,f23,f25,EJ hj',l3,f1,lp]
     refine (SG G p _ hl _).use ?_
     cases b1:LC p.vars p.groups[i].l[j]
     ·simp -implicitDefEqProofs only [BB,A8,BK,BJ,A7,CQ,D5,MR,FV,DY,AZ,BA,BL,BU,CO,F6,AC,AQ,AO,BD,AX,AL,AA,EG,AY,AU,BH,BM,BI,BC,CP,DL,I5,AB,FP,↓reduceIte,jA,jB,jC]
      exact ⟨nb (API hmem b1),hxA _⟩
     obtain ⟨k,hkl,hk,hm⟩:=OO b1
     have hb0:=C9 hb (ABlk.live 1 (bR (flG (p.groups.take i) ++ p.groups[i].l.take j) p.vars.length))
     have lc:DI Tryz.prog (hb ++ [ABlk.live 1 (bR (flG (p.groups.take i) ++ p.groups[i].l.take j) p.vars.length)]) 4 (.ptr hb.length k 0)=some (.bool (decide (((k:Nat):Int)∈flG (p.groups.take i) ++ p.groups[i].l.take j))):=by
      rw [DC ag4 hb0 (VB _ hkl)]; rfl
     have hst:=AVY hb0 (j:=k) ⟨_,VB _ hkl⟩ true
     rw [ASS _ hkl,LX] at hst
     have hap:(flG (p.groups.take i) ++ p.groups[i].l.take j) ++ [((k:Nat):Int)]=flG (p.groups.take i) ++ p.groups[i].l.take (j+1):=by
      rw [zY hj',hk,zS]
     have hjb:j≤1048576:=by
      have h2:p.groups[i].l.length≤(flG p.groups).length:=by
       rw [hsp]; simp only [zQ,qA,zT,List.length_drop]; omega
      omega
     simp -implicitDefEqProofs only [BJ,A7,AZ,BA,BL,BU,CO,EQ,AC,AQ,AO,BD,AX,AL,AA,AY,AU,BM,BI,CP,DN,BN,I5,CU,AB,FP,↓reduceIte,jA,jG,jB,jX,jC,enP,AMB,f3,hk,KD hb0 hkl,lc]
     refine CS (fun b2 => ?_) (fun b2 => ?_)
     ·simp -implicitDefEqProofs only [BB,A8,BK,A7,CQ,D5,MR,FV,AZ,BA,AC,AQ,AO,BD,AX,AL,AA,AU,BH,BC,↓reduceIte,jB,jC]
      refine ⟨nb (VX hkl ?_),hxA _⟩
      have h1:0 < (flG (p.groups.take i) ++ p.groups[i].l.take j).count ((k:Nat):Int):=List.count_pos_iff.2 (by simpa using b2)
      rw [if_neg hm,hsp,List.count_append,hk,List.count_cons_self]; omega
     ·have hnin : ¬ ((k:Nat):Int)∈flG (p.groups.take i) ++ p.groups[i].l.take j:=by simpa using b2
      simp -implicitDefEqProofs only [A8,BQ,A7,EO,FK,AZ,BA,AC,AQ,AO,BD,AX,AL,DV,AA,AY,AU,BH,BM,BI,CY,BR,CU,AB,BZ,DZ,↓reduceIte,jA,jG,jB,jC,enP,AMB,jJ,f3,KD hb0 hkl,hst,f25,wrap_succ (show j < 9223372036854775807 by omega)]
      refine ⟨n' - 1,by omega,j+1,by omega,by trivial,by trivial,by trivial,by trivial,by trivial,by trivial,by trivial,rfl,by rw [← hap],fun x hx => ?_,fun x => ?_⟩
      ·rw [← hap] at hx
       rcases zX.1 hx with hx | hx
       ·exact hin2 x hx
       ·rw [List.mem_singleton] at hx
        rw [hx,← hk]; exact b1
      ·rw [← hap,List.count_append]
       have h1:=hct2 x
       by_cases hxk:((k:Nat):Int)=x
       ·subst hxk
        rw [List.count_eq_zero.2 hnin]; simp
       ·rw [List.count_append] at h1
        simp [hxk]; exact h1
    ·have hj' : ¬ j < p.groups[i].l.length:=by simpa using hc
     have e:p.groups[i].l.take j=p.groups[i].l:=jY (by omega)
     rw [e] at hin2 hct2
     simp -implicitDefEqProofs only [D6,E5,N8,GG,AA,↓reduceIte,jA]
     exact ⟨f1,f3,f14,f15,f16,by rw [e],hin2,hct2⟩
   ·rintro F' H' ⟨g1,g3,g14,g15,g16,rfl,hin2,hct2⟩
    simp -implicitDefEqProofs only [A8,A7,EO,FY,FK,AZ,BA,AC,AQ,AO,BD,AX,AL,AA,AY,AU,BH,BI,BR,AB,DZ,↓reduceIte,jA,jB,jC,enP,g16,wrap_succ (show i < 9223372036854775807 by omega)]
    have hft:=AEX hi'
    refine ⟨n - 1,by omega,i+1,by omega,by first | exact g1 | trivial,by first | exact g3 | trivial,by first | exact g14 | trivial,by first | exact g15 | trivial,rfl,by rw [hft],fun g hg => ?_,by rw [hft]; exact hin2,by rw [hft]; exact hct2⟩
    rw [zY hi'] at hg
    rcases zX.1 hg with hg | hg
    ·exact hne g hg
    ·rw [List.mem_singleton] at hg; rw [hg]; exact hnz
   ·rintro F' H' ⟨g2,hx⟩
    simp -implicitDefEqProofs only [CQ,D5,MR,FV,g2]
    exact ⟨trivial,hx⟩
  ·have hi' : ¬ i < p.groups.length:=by simpa using hc
   rw [jY (by omega)] at hne hin hct
   simp -implicitDefEqProofs only [D6,E5,N8,GG,AA,↓reduceIte,jA]
   exact ⟨f1,f3,by rw [jY (by omega)],hne,hin,hct⟩
 ·rintro F H ⟨f1,f3,rfl,hne,hin,hct⟩
  have hb0:=C9 hb (ABlk.live 1 (bR (flG p.groups) p.vars.length))
  have l0':=l0A (ABlk.live 1 (bR (flG p.groups) p.vars.length))
  have lp':=lp (ABlk.live 1 (bR (flG p.groups) p.vars.length))
  have hx0:=hxA (ABlk.live 1 (bR (flG p.groups) p.vars.length))
  generalize hb ++ [ABlk.live 1 (bR (flG p.groups) p.vars.length)]=H0 at hb0 hx0 l0' lp' ⊢
  simp -implicitDefEqProofs only [BB,CJ,A8,A7,FY,AZ,BA,AC,AQ,AO,BD,AX,AL,AA,AY,AU,BH,BI,BN,BG,FH,AB,↓reduceIte,jI,jB,jC,enP,QA,KT,f1,l0',jM]
  refine D8 (fun n F H => ∃ i,n+i=p.vars.length∧(∀ (j:Nat),j < i→j < p.vars.length→LC p.vars (j:Nat)=true→((j:Nat):Int)∈flG p.groups)∧F 1 = .ptr eb 0 0∧F 3 = .own hb.length 0 p.vars.length∧F 46 = .int .i64 (p.vars.length:Nat)∧F 47 = .int .i64 (i:Nat)∧H=H0) p.vars.length ⟨0,by simp,fun j hj=>absurd hj (by omega),by simp -implicitDefEqProofs only [AA,↓reduceIte,jA,f1],by simp -implicitDefEqProofs only [AA,↓reduceIte,jA,f3],by simp -implicitDefEqProofs only [AA,↓reduceIte,jA],by simp -implicitDefEqProofs only [AA,↓reduceIte]; rfl,rfl⟩ ?_
  clear f1 f3
  rintro n F H ⟨i,hi,hbb,f1,f3,f46,f47,rfl⟩
  simp -implicitDefEqProofs only [BB,A8,BJ,A7,AZ,BA,AC,AQ,AO,BD,AX,AL,AA,AY,BR,AB,DF,↓reduceIte,jB,jC,enP,f46,f47]
  refine CS (fun hc => ?_) (fun hc => ?_)
  ·have hi':i < p.vars.length:=by simpa using hc
   have lc:DI Tryz.prog H 4 (.ptr hb.length i 0)=some (.bool (decide (((i:Nat):Int)∈flG p.groups))):=by
    rw [DC ag4 hb0 (VB _ hi')]; rfl
   simp -implicitDefEqProofs only [BB,CJ,A8,BQ,A7,AZ,BA,AC,AQ,AO,BD,AX,AL,AA,AY,BO,BI,BC,BN,BX,BP,AB,jF,jD,jE,↓reduceIte,jA,jB,jC,enP,f1,f47,lp']
   refine (SG G p _ hl _).use ?_
   have nxt:(LC p.vars (i:Nat)=true→((i:Nat):Int)∈flG p.groups)→∀ (j:Nat),j < i+1→j < p.vars.length→LC p.vars (j:Nat)=true→((j:Nat):Int)∈flG p.groups:=fun he j hj hl hr=>by
    rcases jT j i with h1 | h1
    ·exact hbb j h1 hl hr
    ·obtain rfl:j=i:=by omega
     exact he hr
   cases b1:LC p.vars ((i:Nat):Int)
   ·have he:=nxt (fun q=>by rw [b1] at q; cases q)
    simp -implicitDefEqProofs only [A8,BQ,BJ,A7,EO,FK,EC,AZ,BA,BL,BU,CO,I4,AC,AQ,AO,BD,AX,AL,AA,EG,AY,AU,BH,BM,BI,CP,DN,BR,AB,DZ,↓reduceIte,jA,jB,jC,enP,f47,wrap_succ (show i < 9223372036854775807 by omega)]
    exact ⟨n - 1,by omega,i+1,by omega,he,by trivial,by trivial,by trivial,rfl,trivial⟩
   simp -implicitDefEqProofs only [BJ,A7,AZ,BA,BL,BU,CO,GH,AC,AQ,AO,BD,AX,AL,AA,AY,AU,BM,BI,CP,DL,BN,I5,CU,AB,FP,↓reduceIte,jA,jG,jB,jC,enP,AMB,f3,f47,KD hb0 hi',lc]
   refine CS (fun b2 => ?_) (fun b2 => ?_)
   ·simp -implicitDefEqProofs only [BB,A8,BK,A7,CQ,D5,FV,CW,AZ,BA,AC,AQ,AO,BD,AX,AL,AA,AU,BH,BC,↓reduceIte,jB,jC]
    refine ⟨nb (VX hi' ?_),hx0⟩
    have h1 : ¬ ((i:Nat):Int)∈flG p.groups:=by simpa using b2
    have h2 : ¬ p.vars[i].mode=0:=by rw [TJ hi'] at b1; simpa using b1
    rw [if_neg h2,List.count_eq_zero.2 h1]; decide
   ·have he:=nxt (fun _=>by simpa using b2)
    simp -implicitDefEqProofs only [A8,BQ,A7,EO,FK,AZ,BA,AC,AQ,AO,BD,AX,AL,AA,AY,AU,BH,BI,BR,AB,DZ,↓reduceIte,jA,jB,jC,enP,f47,wrap_succ (show i < 9223372036854775807 by omega)]
    exact ⟨n - 1,by omega,i+1,by omega,he,by trivial,by trivial,by trivial,rfl,trivial⟩
  ·have hi' : ¬ i < p.vars.length:=by simpa using hc
   simp -implicitDefEqProofs only [BB,A8,BK,D6,A7,E5,FY,GG,CW,AZ,BA,AC,AQ,AO,BD,AX,AL,AA,AU,BH,BC,↓reduceIte,jB,jC]
   refine ⟨?_,hx0⟩
   have:gOK p.vars p.groups=true:=decide_eq_true ⟨hne,fun x hx=>by
    obtain ⟨k,hk,rfl,_⟩:=OO (hin x hx)
    omega,fun j=>by
    by_cases hr:LC p.vars ((j.1:Nat):Int)=true
    ·have h1:=List.count_pos_iff.2 (hbb j.1 (by omega) j.2 hr)
     have h2:=hct ((j.1:Nat):Int)
     rw [TJ j.2] at hr
     rw [if_neg (by simpa using hr)]; omega
    ·have h1 : ¬ ((j.1:Nat):Int)∈flG p.groups:=fun hm=>hr (hin _ hm)
     rw [TJ j.2] at hr
     rw [if_pos (by simpa using hr)]
     exact List.count_eq_zero.2 h1⟩
   rw [this]; rfl
 ·rintro F H ⟨f2,hx⟩
  simp -implicitDefEqProofs only [CQ,D5,CW,f2]
  exact ⟨trivial,hx⟩
end
structure PrS (p:Pr):Prop where
 vars:p.vars.length≤1048576
 names : ∀ v∈p.vars,v.name.size≤1048576
 exprs:p.hard.length+p.soft.length≤1048576
 wts : ∀ e∈p.hard ++ p.soft,wt e≤1048576
 dists:p.dists.length≤1048576
 ws : ∀ d∈p.dists,d.ws.length≤1048576
 groups:p.groups.length≤1048576
 members:(flG p.groups).length≤1048576
def LJ (p:Pr):Int:=if JW p.vars≠0 then JW p.vars else if JR p.vars (p.hard ++ p.soft)≠0 then JR p.vars (p.hard ++ p.soft) else if MB p.vars p.dists≠0 then MB p.vars p.dists else if gOK p.vars p.groups=true then 0 else 1
section
variable (G:Nat→AV)
theorem AFG (fs:List (FuncId × List AV × Int)) (b:Nat) (hn:fs.length≤1048576) (h:Hp) (hb:h[b]? = some (.live 1 (fs.map fun x => [.fn (.func x.1) [] x.2.1]))) (hf : ∀ x∈fs,PCall (En G) x.1 ([] ++ x.2.1) h (.int .i64 x.2.2)):PCall (En G) 55 [.own b 0 fs.length] h (.int .i64 (NE (fun x=>x.2.2) fs)):=by
 refine ACalls.pure0 rfl ?_
 refine acN Tryz.func55 rfl ?_
 show awp _ _ _ _ _ (EH _ [.tmp 2] _)
 simp -implicitDefEqProofs only [BB,CJ,A8,A7,AZ,BA,AC,AQ,AO,BD,AX,AL,AA,AY,AU,BH,BI,BC,FH,AB,BF,↓reduceIte,jA,jB,jC,enP,AT0]
 refine JC 0 (fun F H=>H=h∧∀ x∈fs,x.2.2=0) (fun F H=>F 2 = .int .i64 (NE (fun x=>x.2.2) fs)∧ext h H) ?_ ?_ ?_
 ·refine D8 (fun n F H => ∃ i,n+i=fs.length∧F 6 = .own b 0 fs.length∧F 7 = .int .i64 (fs.length:Nat)∧F 8 = .int .i64 (i:Nat)∧H=h∧∀ (j:Nat) (hj:j < i) (hl:j < fs.length),fs[j].2.2=0) fs.length ⟨0,by simp,by simp -implicitDefEqProofs only [AA,↓reduceIte,jA],by simp -implicitDefEqProofs only [AA,↓reduceIte,jA],by simp -implicitDefEqProofs only [AA,↓reduceIte]; rfl,rfl,by intro j hj; omega⟩ ?_
  rintro n F H ⟨i,hi,f6,f7,f8,rfl,hz⟩
  simp -implicitDefEqProofs only [BB,A8,BJ,A7,AZ,BA,AC,AQ,AO,BD,AX,AL,AA,AY,BR,AB,DF,↓reduceIte,jB,jC,enP,f7,f8]
  refine CS (fun hc => ?_) (fun hc => ?_)
  ·have hi':i < fs.length:=by simpa using hc
   have lf:DI Tryz.prog H 95 (.ptr b i 0)=some (.fn (.func fs[i].1) [] fs[i].2.1):=by
    rw [DC (row := [.fn (.func fs[i].1) [] fs[i].2.1]) AW5 hb (by rw [List.getElem?_map,jV hi']; rfl)]; rfl
   simp -implicitDefEqProofs only [BB,CJ,A8,BQ,A7,AZ,BA,AC,AQ,AO,BD,AX,AL,AA,AY,BI,BC,BN,CU,BX,BP,AB,jD,zA,↓reduceIte,jA,jG,jB,jC,enP,AT3,f6,f8,KD hb hi',lf]
   refine (hf _ (jS hi')).use ?_
   simp -implicitDefEqProofs only [BB,A8,BJ,A7,AZ,BA,AC,AQ,AO,BD,AX,AL,AA,AY,AU,BH,BI,BC,BR,AB,FU,↓reduceIte,jB,jC,enP]
   refine CS (fun hz' => ?_) (fun hz' => ?_)
   ·simp -implicitDefEqProofs only [BB,A8,BK,A7,CQ,D5,MR,FV,AZ,BA,AC,AQ,AO,BD,AX,AL,AA,AY,BI,BC,↓reduceIte,jA,jB,jC]
    exact ⟨by rw [O6 (fun x:FuncId × List AV × Int=>x.2.2) fs i hi' (fun j hj=>hz j hj (by omega)) (by simpa using hz')],ext.rfl' _⟩
   ·simp -implicitDefEqProofs only [A8,BQ,A7,EO,FK,AZ,BA,AC,AQ,AO,BD,AX,AL,AA,AY,AU,BH,BI,BR,AB,DZ,↓reduceIte,jA,jB,jC,enP,f8,wrap_succ (show i < 9223372036854775807 by omega)]
    refine ⟨n - 1,by omega,i+1,by omega,by trivial,by trivial,rfl,trivial,fun j hj hl => ?_⟩
    rcases jT j i with h1 | h1
    ·exact hz j h1 hl
    ·obtain rfl:j=i:=by omega
     simpa using hz'
  ·have hi' : ¬ i < fs.length:=by simpa using hc
   simp -implicitDefEqProofs only [D6,E5,N8,GG,↓reduceIte]
   refine ⟨trivial,fun x hx => ?_⟩
   obtain ⟨j,hj,rfl⟩:=qC hx
   exact hz j (by omega) hj
 ·rintro F H ⟨rfl,hz⟩
  simp -implicitDefEqProofs only [BB,A8,BK,A7,FY,CW,AZ,BA,AC,AQ,AO,BD,AX,AL,AA,AU,BH,BC,↓reduceIte,jB,jC]
  exact ⟨by rw [ND _ fs fun j hj=>hz _ (jS hj)],ext.rfl' _⟩
 ·rintro F H ⟨f2,hx⟩
  simp -implicitDefEqProofs only [CQ,D5,CW,f2]
  exact ⟨trivial,hx⟩
theorem APT (hG:GOk G) (p:Pr) (hs:PrS p) (b:Nat) (h:Hp) (hb:h[b]? = some (.live 5 [DX p])):PCall (En G) 56 ([] ++ [.ptr b 0 0]) h (.int .i64 (JW p.vars)):=by
 refine acN Tryz.func56 rfl ?_
 show awp _ _ _ _ _ (EH _ [.tmp 1] _)
 have l0:DI Tryz.prog h 22 (.ptr b 0 0)=some (.sl p.vm 4 (p.vars.map FC)):=by rw [DC UF hb (row:=DX p) rfl]; rfl
 simp -implicitDefEqProofs only [BB,A8,A7,AZ,BA,AC,AQ,AO,BD,AX,AL,AA,AY,AU,BO,BH,BC,BN,BG,BX,BP,AB,BF,jF,jD,jE,zA,↓reduceIte,jA,jI,jB,jC,enX,enP,KT,l0]
 refine (AJA G hG p.vars p.vm h hs.vars hs.names).use ?_
 simp -implicitDefEqProofs only [BK,A7,CW,AZ,BA,AC,AQ,AO,BD,AX,AL,AA,AY,BC,↓reduceIte,jB,jC]
 exact ⟨trivial,trivial⟩
theorem APS (hG:GOk G) (p:Pr) (hs:PrS p) (b:Nat) (h:Hp) (hb:h[b]? = some (.live 5 [DX p])):PCall (En G) 58 ([] ++ [.ptr b 0 0]) h (.int .i64 (JR p.vars (p.hard ++ p.soft))):=by
 refine acN Tryz.func58 rfl ?_
 show awp _ _ _ _ _ (EH _ [.tmp 1] _)
 have lp:DI Tryz.prog h 27 (.ptr b 0 0)=some (.agg (DX p)):=by rw [GV UE SB hb (row:=DX p) rfl (by rw [IP]; exact jL 5)]; rfl
 simp -implicitDefEqProofs only [BB,A8,A7,AZ,BA,AC,AQ,AO,BD,AX,AL,AA,AY,AU,BO,BH,BC,BN,BX,BP,AB,BF,jF,jD,jE,zA,↓reduceIte,jA,jB,jC,enX,enP,lp]
 refine (AG5 G hG p hs.vars hs.exprs hs.wts h).use ?_
 simp -implicitDefEqProofs only [BK,A7,CW,AZ,BA,AC,AQ,AO,BD,AX,AL,AA,AY,BC,↓reduceIte,jB,jC]
 exact ⟨trivial,trivial⟩
theorem APR (p:Pr) (hs:PrS p) (b:Nat) (h:Hp) (hb:h[b]? = some (.live 5 [DX p])):PCall (En G) 60 ([] ++ [.ptr b 0 0]) h (.int .i64 (MB p.vars p.dists)):=by
 refine acN Tryz.func60 rfl ?_
 show awp _ _ _ _ _ (EH _ [.tmp 1] _)
 have lp:DI Tryz.prog h 27 (.ptr b 0 0)=some (.agg (DX p)):=by rw [GV UE SB hb (row:=DX p) rfl (by rw [IP]; exact jL 5)]; rfl
 simp -implicitDefEqProofs only [BB,A8,A7,AZ,BA,AC,AQ,AO,BD,AX,AL,AA,AY,AU,BO,BH,BC,BN,BX,BP,AB,BF,jF,jD,jE,zA,↓reduceIte,jA,jB,jC,enX,enP,lp]
 refine (AG9 G p hs.vars hs.dists hs.ws h).use ?_
 simp -implicitDefEqProofs only [BK,A7,CW,AZ,BA,AC,AQ,AO,BD,AX,AL,AA,AY,BC,↓reduceIte,jB,jC]
 exact ⟨trivial,trivial⟩
theorem APQ (p:Pr) (hs:PrS p) (b:Nat) (h:Hp) (hb:h[b]? = some (.live 5 [DX p])):PCall (En G) 62 ([] ++ [.ptr b 0 0]) h (.int .i64 (if gOK p.vars p.groups=true then 0 else 1)):=by
 refine acN Tryz.func62 rfl ?_
 show awp _ _ _ _ _ (EH _ [.tmp 1] _)
 have lp:DI Tryz.prog h 27 (.ptr b 0 0)=some (.agg (DX p)):=by rw [GV UE SB hb (row:=DX p) rfl (by rw [IP]; exact jL 5)]; rfl
 simp -implicitDefEqProofs only [BB,A8,A7,AZ,BA,AC,AQ,AO,BD,AX,AL,AA,AY,AU,BO,BH,BC,BN,BX,BP,AB,BF,jF,jD,jE,zA,↓reduceIte,jA,jB,jC,enX,enP,lp]
 refine (AES G p hs.vars hs.groups hs.members h).use ?_
 simp -implicitDefEqProofs only [BK,A7,CW,AZ,BA,AC,AQ,AO,BD,AX,AL,AA,AY,BC,↓reduceIte,jB,jC]
 exact ⟨trivial,trivial⟩
theorem AUP (h:Hp) (a b c d:Fn) (k l m n:List AV):FM Tryz.prog true h 126 4 [(0,.fn a [] k),(1,.fn b [] l),(2,.fn c [] m),(3,.fn d [] n)]=some (.own h.length 0 4,h ++ [ABlk.live 1 [[.fn a [] k],[.fn b [] l],[.fn c [] m],[.fn d [] n]]]):=by kernel_rfl
theorem UX (hG:GOk G) (p:Pr) (hs:PrS p) (h:Hp):PCall (En G) 29 [.agg (DX p)] h (.int .i64 (LJ p)):=by
 refine ACalls.pure0 rfl ?_
 refine IY (H:=hint [7] []) (enM G) Tryz.func29 rfl (by kernel_rfl) (by kernel_rfl) (jH (by kernel_rfl)) ?_
 show awp _ _ _ _ _ (EH _ [.tmp 2] _)
 have ge:=C9 h (ABlk.live 5 [DX p])
 have hxx:ext h (h ++ [ABlk.live 5 [DX p]]):=(ext.rfl' h).app _
 simp -implicitDefEqProofs only [EU,EN,EI,jP,jQ,jR,jO,BB,A8,A7,AZ,BA,AO,BD,AX,AL,AA,AY,AU,BO,BH,BC,FN,F9,IX,BX,BP,BV,BF,jF,jD,jE,↓reduceIte,jA,jB,jC,enP,FB,UC,AUP]
 generalize h ++ [ABlk.live 5 [DX p]]=hb at ge hxx ⊢
 generalize h.length=eb at ge ⊢
 have hx2:=hxx.app [ABlk.live 1 [[AV.fn (.func 56) [] [.ptr eb 0 0]],[.fn (.func 58) [] [.ptr eb 0 0]],[.fn (.func 60) [] [.ptr eb 0 0]],[.fn (.func 62) [] [.ptr eb 0 0]]]]
 have ge2:=CX (x:=ABlk.live 1 [[AV.fn (.func 56) [] [.ptr eb 0 0]],[.fn (.func 58) [] [.ptr eb 0 0]],[.fn (.func 60) [] [.ptr eb 0 0]],[.fn (.func 62) [] [.ptr eb 0 0]]]) ge
 refine (AFG G [(56,[.ptr eb 0 0],JW p.vars),(58,[.ptr eb 0 0],JR p.vars (p.hard ++ p.soft)),(60,[.ptr eb 0 0],MB p.vars p.dists),(62,[.ptr eb 0 0],if gOK p.vars p.groups=true then 0 else 1)] hb.length (by simp) _ (C9 _ _) ?_).use ?_
 ·intro x hx
  simp only [List.mem_cons,List.not_mem_nil,or_false] at hx
  rcases hx with rfl | rfl | rfl | rfl
  ·exact APT G hG p hs eb _ ge2
  ·exact APS G hG p hs eb _ ge2
  ·exact APR G p hs eb _ ge2
  ·exact APQ G p hs eb _ ge2
 ·simp -implicitDefEqProofs only [EI,jP,jQ,jR,jO,BK,A7,CW,AZ,BA,AO,BD,AX,AL,AA,AY,BC,jF,jD,↓reduceIte,jB,jC,FB]
  refine ⟨?_,hx2⟩
  simp only [NE,LJ]
  by_cases h1:JW p.vars≠0
  ·rw [if_pos h1,if_pos h1]
  rw [if_neg h1,if_neg h1]
  by_cases h2:JR p.vars (p.hard ++ p.soft)≠0
  ·rw [if_pos h2,if_pos h2]
  rw [if_neg h2,if_neg h2]
  by_cases h3:MB p.vars p.dists≠0
  ·rw [if_pos h3,if_pos h3]
  rw [if_neg h3,if_neg h3]
  cases gOK p.vars p.groups <;> rfl
theorem AJB (p:Pr) (hs:PrS p) (h:Hp):PCall (En G) 16 [.agg (DX p)] h (.int .i64 (LJ p)):=by
 refine ACalls.pure0 rfl ?_
 refine acN Tryz.func16 rfl ?_
 show awp _ _ _ _ _ (EH _ [.tmp 2] _)
 have ge:=C9 h (ABlk.live 5 [DX p])
 have hxx:ext h (h ++ [ABlk.live 5 [DX p]]):=(ext.rfl' h).app _
 simp -implicitDefEqProofs only [BB,A8,A7,AZ,BA,AC,AQ,AO,BD,AX,AL,AA,AY,AU,BH,BC,FN,BN,BG,BV,AB,BF,↓reduceIte,jA,jI,jB,jC,enP,KT,UC]
 generalize h ++ [ABlk.live 5 [DX p]]=hb at ge hxx ⊢
 generalize h.length=eb at ge ⊢
 have l0:DI Tryz.prog hb 22 (.ptr eb 0 0)=some (.sl p.vm 4 (p.vars.map FC)):=by rw [DC UF ge (row:=DX p) rfl]; rfl
 have l1:DI Tryz.prog hb 23 (.ptr eb 0 1)=some (.sl p.hm 4 (p.hard.map CV)):=by rw [DC QP ge (row:=DX p) rfl]; rfl
 have l2:DI Tryz.prog hb 23 (.ptr eb 0 2)=some (.sl p.sm 4 (p.soft.map CV)):=by rw [DC QP ge (row:=DX p) rfl]; rfl
 have l3:DI Tryz.prog hb 24 (.ptr eb 0 3)=some (.sl p.dm 2 (p.dists.map IQ)):=by rw [DC AQC ge (row:=DX p) rfl]; rfl
 have l4:DI Tryz.prog hb 25 (.ptr eb 0 4)=some (.sl p.gm 1 (p.groups.map PY)):=by rw [DC AVD ge (row:=DX p) rfl]; rfl
 have hex:=hs.exprs
 have happ:JR p.vars (p.hard ++ p.soft)=if JR p.vars p.hard≠0 then JR p.vars p.hard else JR p.vars p.soft:=AET _ _ _
 simp -implicitDefEqProofs only [AZ,AC,AQ,AO,BD,AX,AL,AA,AY,BO,BX,BP,AB,jF,jD,jE,↓reduceIte,jB,jC,l0]
 refine (AAR G p.vars p.vm hb hs.vars hs.names).use ?_
 simp -implicitDefEqProofs only [BB,A8,BJ,A7,AZ,BA,AC,AQ,AO,BD,AX,AL,AA,AY,AU,BH,BI,BC,BR,AB,FU,↓reduceIte,jB,jC,enP]
 refine CS (fun h1 => ?_) (fun h1 => ?_)
 ·simp -implicitDefEqProofs only [BB,A8,BK,A7,CQ,CW,AZ,BA,AC,AQ,AO,BD,AX,AL,AA,AY,BI,BC,↓reduceIte,jA,jB,jC]
  have h1:JW p.vars≠0:=by simpa using h1
  exact ⟨by unfold LJ; rw [if_pos h1],hxx⟩
 have h1 : ¬ JW p.vars≠0:=by simpa using h1
 simp -implicitDefEqProofs only [BB,A8,BQ,A7,AZ,AC,AQ,AO,BD,AX,AL,AA,AY,BO,BN,BG,BX,BP,AB,jF,jD,jE,↓reduceIte,jA,jI,jG,jB,jC,enP,KT,ACQ,l0,l1]
 refine (RG G p.vars p.vm hs.vars p.hard p.hm (by omega) (fun e he=>hs.wts e (zX.2 (.inl he))) hb).use ?_
 simp -implicitDefEqProofs only [BB,A8,BJ,A7,AZ,BA,AC,AQ,AO,BD,AX,AL,AA,AY,AU,BH,BI,BC,BR,AB,FU,↓reduceIte,jB,jC,enP]
 refine CS (fun h2 => ?_) (fun h2 => ?_)
 ·simp -implicitDefEqProofs only [BB,A8,BK,A7,CQ,CW,AZ,BA,AC,AQ,AO,BD,AX,AL,AA,AY,BI,BC,↓reduceIte,jA,jB,jC]
  have h2:JR p.vars p.hard≠0:=by simpa using h2
  rw [if_pos h2] at happ
  exact ⟨by unfold LJ; rw [if_neg h1,happ,if_pos h2],hxx⟩
 have h2 : ¬ JR p.vars p.hard≠0:=by simpa using h2
 rw [if_neg h2] at happ
 simp -implicitDefEqProofs only [BB,A8,BQ,A7,AZ,AC,AQ,AO,BD,AX,AL,AA,AY,BO,BN,BG,BX,BP,AB,jF,jD,jE,↓reduceIte,jA,jI,jG,jB,jC,enP,KT,AMT,l0,l2]
 refine (RG G p.vars p.vm hs.vars p.soft p.sm (by omega) (fun e he=>hs.wts e (zX.2 (.inr he))) hb).use ?_
 simp -implicitDefEqProofs only [BB,A8,BJ,A7,AZ,BA,AC,AQ,AO,BD,AX,AL,AA,AY,AU,BH,BI,BC,BR,AB,FU,↓reduceIte,jB,jC,enP]
 refine CS (fun h3 => ?_) (fun h3 => ?_)
 ·simp -implicitDefEqProofs only [BB,A8,BK,A7,CQ,CW,AZ,BA,AC,AQ,AO,BD,AX,AL,AA,AY,BI,BC,↓reduceIte,jA,jB,jC]
  have h3:JR p.vars p.soft≠0:=by simpa using h3
  exact ⟨by unfold LJ; rw [if_neg h1,happ,if_pos h3],hxx⟩
 have h3 : ¬ JR p.vars p.soft≠0:=by simpa using h3
 simp -implicitDefEqProofs only [BB,A8,BQ,A7,AZ,AC,AQ,AO,BD,AX,AL,AA,AY,BO,BN,BG,BX,BP,AB,jF,jD,jE,↓reduceIte,jA,jI,jG,jB,jC,enP,KT,ACP,l0,l3]
 refine (AKG G p.vars p.vm p.dists p.dm hs.vars hs.dists hs.ws hb).use ?_
 simp -implicitDefEqProofs only [BB,A8,BJ,A7,AZ,BA,AC,AQ,AO,BD,AX,AL,AA,AY,AU,BH,BI,BC,BR,AB,FU,↓reduceIte,jB,jC,enP]
 refine CS (fun h4 => ?_) (fun h4 => ?_)
 ·simp -implicitDefEqProofs only [BB,A8,BK,A7,CQ,CW,AZ,BA,AC,AQ,AO,BD,AX,AL,AA,AY,BI,BC,↓reduceIte,jA,jB,jC]
  have h4:MB p.vars p.dists≠0:=by simpa using h4
  exact ⟨by unfold LJ; rw [if_neg h1,happ,if_neg h3,if_pos h4],hxx⟩
 have h4 : ¬ MB p.vars p.dists≠0:=by simpa using h4
 simp -implicitDefEqProofs only [BB,A8,BQ,A7,AZ,AC,AQ,AO,BD,AX,AL,AA,AY,BO,BN,BG,BX,BP,AB,jF,jD,jE,↓reduceIte,jA,jI,jG,jB,jC,enP,KT,AMS,l0,l4]
 refine (AG3 G p.vars p.vm p.groups p.gm hs.vars hs.groups hs.members hb).use ?_
 simp -implicitDefEqProofs only [BJ,A7,AZ,BA,AC,AQ,AO,BD,AX,AL,AA,AY,I5,AB,FP,↓reduceIte,jB,jC]
 refine CS (fun h5 => ?_) (fun h5 => ?_)
 ·simp -implicitDefEqProofs only [BB,A8,BK,A7,CQ,CW,AZ,BA,AC,AQ,AO,BD,AX,AL,AA,AU,BH,BC,↓reduceIte,jB,jC]
  have h5 : ¬ gOK p.vars p.groups=true:=by simpa using h5
  exact ⟨by unfold LJ; rw [if_neg h1,happ,if_neg h3,if_neg h4,if_neg h5],hxx⟩
 ·simp -implicitDefEqProofs only [BB,A8,BQ,BK,A7,CW,AZ,BA,AC,AQ,AO,BD,AX,AL,AA,AU,BH,BC,↓reduceIte,jB,jC]
  have h5:gOK p.vars p.groups=true:=by simpa using h5
  exact ⟨by unfold LJ; rw [if_neg h1,happ,if_neg h3,if_neg h4,if_pos h5],hxx⟩
end
end Go.Proofs.YtokehnfjjmpanaaGreatDoor.Bd
namespace Go.Proofs.YtokehnfjjmpanaaGreatDoor.Cov
open Sm Bins Go.Proofs.YtokehnfjjmpanaaGreatDoor.Bd Go.RowKit
theorem cl3:Tryz.prog.cellsOf 3=1:=by kernel_rfl
theorem cl4:Tryz.prog.cellsOf 4=1:=by kernel_rfl
theorem cl9:Tryz.prog.cellsOf 9=1:=by kernel_rfl
theorem AWO:Tryz.prog.cellsOf 22=1:=by kernel_rfl
theorem ASL:Tryz.prog.cellsOf 23=1:=by kernel_rfl
theorem AWN:Tryz.prog.cellsOf 24=1:=by kernel_rfl
theorem AWM:Tryz.prog.cellsOf 25=1:=by kernel_rfl
theorem AXB:Tryz.prog.cellsOf 27=5:=by kernel_rfl
theorem AWL:Tryz.prog.cellsOf 34=2:=by kernel_rfl
theorem AUG:Tryz.prog.cellsOf 40=4:=by kernel_rfl
theorem AWK:Tryz.prog.cellsOf 45=1:=by kernel_rfl
theorem AWJ:Tryz.prog.cellsOf 50=1:=by kernel_rfl
theorem AWI:Tryz.prog.cellsOf 52=2:=by kernel_rfl
theorem AWH:Tryz.prog.cellsOf 61=4:=by kernel_rfl
theorem AWG:Tryz.prog.cellsOf 89=4:=by kernel_rfl
theorem rdI:Rd Tryz.prog 3 Bins.qencI okI:=ARW Tryz.underlying3
theorem rdStr:Rd Tryz.prog 9 encStr okS:=ARV Tryz.underlying9
theorem SI {α:Type} {ok:α→Nat→Prop} {xs:List α} {b:Nat} (h : ∃ b',b'+1≤b∧okL ok xs b'):okL ok xs b:=by obtain ⟨b',h1,h2⟩:=h; exact h2.mono (by omega)
theorem AGF {t:TypeId} {f:Field} {fs:List Field} {α:Type} {enc:α→List AV} {ok:α→Nat→Prop} (hu:Tryz.prog.underlying t=some (.struct (f :: fs).toArray)):RdAt Tryz.prog 1 t enc ok:=by
 intro H ench w cs d ps h
 obtain ⟨zs,m,hm,_,_,hl,hz⟩:=DataW.trod_struct hu h
 obtain rfl:m=0:=by omega
 have:=hz 0 _ rfl
 simp only [DataW.trod] at this
 have h0:zs = []:=by cases zs with
  | nil=>rfl
  | cons a l=>simp at this
 subst h0; simp at hl
def okE (e:Ex) (b:Nat):Prop:=wt e≤b
theorem AEC : ∀ {l:List Ex} {b:Nat},okL okE l b→wts l≤b
 | [],b,_=>Nat.zero_le _
 | x :: xs,b,⟨b1,b2,h1,_,h3,h4⟩=>by
   have:=AEC h4
   simp only [wts]; unfold okE at h3; omega
theorem rdE : ∀ n:Nat,RdAt Tryz.prog n 40 CV okE:=by
 intro n
 induction n using Nat.strongRecOn with
 | _ n ih =>
   match n,ih with
   | 0,_=>exact RdAt.zero
   | 1,_=>exact AGF Tryz.underlying40
   | n+2,ih =>
     have rdA:RdAt Tryz.prog (n+1) 23 (fun x:SM × List Ex => [.sl x.1 4 (x.2.map CV)]) (fun x b => ∃ b',b'+1≤b∧okL okE x.2 b'):=NQ Tryz.underlying23 AUG (by decide) ER (ih n (by omega))
     refine RdAt.map (fun x:Int × Int × ByteArray × (SM × List Ex) × Unit=>Ex.mk x.1 x.2.1 x.2.2.1 x.2.2.2.1.1 x.2.2.2.1.2)
      (OQ Tryz.underlying40 (IE rfl cl3 (fun _=>rfl) (rdI _) (IE rfl cl3 (fun _=>rfl) (rdI _) (IE rfl cl9 (fun _=>rfl) (rdStr _) (IE rfl ASL (fun _=>rfl) rdA TK))))) (fun x=>by rw [LY]; rfl) ?_
     rintro ⟨a,b,c,d,_⟩ N ⟨_,hN,b1,b2,hb,h1,b3,b4,hb2,h2,b5,b6,hb3,h3,b7,b8,hb4,⟨b9,h5,h6⟩,_⟩
     have h7:=AEC h6
     unfold okS at h3
     show wt _≤_
     rw [OG]
     simp only [Ex.name,Ex.args]
     simp only at h3 h7
     omega
theorem rdR:Rd Tryz.prog 34 encR (fun _ _=>True):=by
 intro n
 cases n with
 | zero=>exact RdAt.zero
 | succ n=>exact RdAt.map (fun x:Int × Int × Unit=>(⟨x.1,x.2.1⟩:Rng)) (OQ Tryz.underlying34 (IE rfl cl3 (fun _=>rfl) (rdI n) (IE rfl cl3 (fun _=>rfl) (rdI n) TK))) (fun _=>rfl) (fun _ _ _=>trivial)
structure Rl where
 m:SM
 l:List Rng
def AV9 (x:Rl) (b:Nat):Prop:=x.l.length≤b
theorem AW9:Rd Tryz.prog 29 (fun x:Rl => [.sl x.m 2 (x.l.map encR)]) AV9:=by
 intro n
 cases n with
 | zero=>exact RdAt.zero
 | succ n=>exact RdAt.map (fun x:SM × List Rng=>(⟨x.1,x.2⟩:Rl)) (NQ Tryz.underlying29 AWL (by decide) O9 (rdR n)) (fun _=>rfl) (fun x b h=>(SI h).length)
def AON (v:Vr) (b:Nat):Prop:=v.name.size≤b
theorem AV2:Rd Tryz.prog 61 FC AON:=by
 intro n
 cases n with
 | zero=>exact RdAt.zero
 | succ n =>
   refine RdAt.map (fun x:ByteArray × Int × Int × Int × Unit=>(⟨x.1,x.2.1,x.2.2.1,x.2.2.2.1⟩:Vr)) (OQ Tryz.underlying61 (IE rfl cl9 (fun _=>rfl) (rdStr n) (IE rfl cl3 (fun _=>rfl) (rdI n) (IE rfl cl3 (fun _=>rfl) (rdI n) (IE rfl cl3 (fun _=>rfl) (rdI n) TK))))) (fun _=>rfl) ?_
   rintro ⟨a,b,c,d,_⟩ N ⟨_,hN,b1,b2,hb,h1,_⟩
   unfold okS at h1
   show a.size≤N
   simp only at h1
   omega
theorem AV1:Rd Tryz.prog 89 IR (fun _ _=>True):=by
 intro n
 cases n with
 | zero=>exact RdAt.zero
 | succ n=>exact RdAt.map (fun x:Int × Int × Int × Bool × Unit=>(⟨x.1,x.2.1,x.2.2.1,x.2.2.2.1⟩:Wg)) (OQ Tryz.underlying89 (IE rfl cl3 (fun _=>rfl) (rdI n) (IE rfl cl3 (fun _=>rfl) (rdI n) (IE rfl cl3 (fun _=>rfl) (rdI n) (IE rfl cl4 (fun _=>rfl) (AOK Tryz.underlying4 n) TK))))) (fun _=>rfl) (fun _ _ _=>trivial)
def AOO (d:Ds) (b:Nat):Prop:=d.ws.length≤b
theorem AV4:Rd Tryz.prog 52 IQ AOO:=by
 intro n
 match n with
 | 0=>exact RdAt.zero
 | 1=>exact AGF Tryz.underlying52
 | n+2 =>
   have rdW:RdAt Tryz.prog (n+1) 50 (fun x:SM × List Wg => [.sl x.1 4 (x.2.map IR)]) (fun x b => ∃ b',b'+1≤b∧okL (fun _ _=>True) x.2 b'):=NQ Tryz.underlying50 AWG (by decide) TQ (AV1 n)
   refine RdAt.map (fun x:Int × (SM × List Wg) × Unit=>(⟨x.1,x.2.1.1,x.2.1.2⟩:Ds)) (OQ Tryz.underlying52 (IE rfl cl3 (fun _=>rfl) (rdI _) (IE rfl AWJ (fun _=>rfl) rdW TK))) (fun _=>rfl) ?_
   rintro ⟨a,b,_⟩ N ⟨_,hN,b1,b2,hb,h1,b3,b4,hb2,h2,_⟩
   have:=(SI h2).length
   show b.2.length≤N
   simp only at this
   omega
def ALW (g:Gp) (b:Nat):Prop:=g.l.length≤b
theorem AV3:Rd Tryz.prog 45 PY ALW:=by
 intro n
 cases n with
 | zero=>exact RdAt.zero
 | succ n=>exact RdAt.map (fun x:SM × List Int=>(⟨x.1,x.2⟩:Gp)) (NQ Tryz.underlying45 cl3 (by decide) (fun _=>rfl) (rdI n)) (fun _=>rfl) (fun x b h=>(SI h).length)
theorem ABA : ∀ {l:List Gp} {b:Nat},okL ALW l b→(flG l).length≤b
 | [],b,_=>Nat.zero_le _
 | x :: xs,b,⟨b1,b2,h1,_,h3,h4⟩=>by
   have:=ABA h4
   unfold ALW at h3
   show ((x :: xs).flatMap Gp.l).length≤b
   rw [List.flatMap_cons,List.length_append]
   unfold flG at this
   omega
def ATR (p:Pr) (b:Nat):Prop := ∃ b1 b2 b3 b4 b5,b1+b2+b3+b4+b5≤b∧okL AON p.vars b1∧okL okE p.hard b2∧okL okE p.soft b3∧okL AOO p.dists b4∧okL ALW p.groups b5
theorem AXA:Rd Tryz.prog 27 DX ATR:=by
 intro n
 match n with
 | 0=>exact RdAt.zero
 | 1=>exact AGF Tryz.underlying27
 | n+2 =>
   have r1:RdAt Tryz.prog (n+1) 22 (fun x:SM × List Vr => [.sl x.1 4 (x.2.map FC)]) (fun x b => ∃ b',b'+1≤b∧okL AON x.2 b'):=NQ Tryz.underlying22 AWH (by decide) ZT (AV2 n)
   have r2:RdAt Tryz.prog (n+1) 23 (fun x:SM × List Ex => [.sl x.1 4 (x.2.map CV)]) (fun x b => ∃ b',b'+1≤b∧okL okE x.2 b'):=NQ Tryz.underlying23 AUG (by decide) ER (rdE n)
   have r4:RdAt Tryz.prog (n+1) 24 (fun x:SM × List Ds => [.sl x.1 2 (x.2.map IQ)]) (fun x b => ∃ b',b'+1≤b∧okL AOO x.2 b'):=NQ Tryz.underlying24 AWI (by decide) V5 (AV4 n)
   have r5:RdAt Tryz.prog (n+1) 25 (fun x:SM × List Gp => [.sl x.1 1 (x.2.map PY)]) (fun x b => ∃ b',b'+1≤b∧okL ALW x.2 b'):=NQ Tryz.underlying25 AWK (by decide) (fun _=>rfl) (AV3 n)
   refine RdAt.map (fun x:(SM × List Vr) × (SM × List Ex) × (SM × List Ex) × (SM × List Ds) × (SM × List Gp) × Unit=>(⟨x.1.1,x.1.2,x.2.1.1,x.2.1.2,x.2.2.1.1,x.2.2.1.2,x.2.2.2.1.1,x.2.2.2.1.2,x.2.2.2.2.1.1,x.2.2.2.2.1.2⟩:Pr))
    (OQ Tryz.underlying27 (IE rfl AWO (fun _=>rfl) r1 (IE rfl ASL (fun _=>rfl) r2 (IE rfl ASL (fun _=>rfl) r2 (IE rfl AWN (fun _=>rfl) r4 (IE rfl AWM (fun _=>rfl) r5 TK)))))) (fun _=>rfl) ?_
   rintro ⟨a,b,c,d,e,_⟩ N ⟨_,hN,b1,b2,hb,h1,b3,b4,hb2,h2,b5,b6,hb3,h3,b7,b8,hb4,h4,b9,b10,hb5,h5,_⟩
   exact ⟨b1,b3,b5,b7,b9,by omega,SI h1,SI h2,SI h3,SI h4,SI h5⟩
theorem AV6 {p:Pr} {b:Nat} (h:ATR p b) (hb:b≤1048576):PrS p:=by
 obtain ⟨b1,b2,b3,b4,b5,h0,h1,h2,h3,h4,h5⟩:=h
 have l1:=h1.length
 have l2:=h2.length
 have l3:=h3.length
 have l4:=h4.length
 have l5:=h5.length
 have l6:=ABA h5
 refine ⟨by omega,fun v hv => ?_,by omega,fun e he => ?_,by omega,fun d hd => ?_,by omega,by omega⟩
 ·obtain ⟨b6,h6,h7⟩:=h1.each v hv
  unfold AON at h7; omega
 ·rcases List.mem_append.1 he with he | he
  ·obtain ⟨b6,h6,h7⟩:=h2.each e he
   unfold okE at h7; omega
  ·obtain ⟨b6,h6,h7⟩:=h3.each e he
   unfold okE at h7; omega
 ·obtain ⟨b6,h6,h7⟩:=h4.each d hd
  unfold AOO at h7; omega
end Go.Proofs.YtokehnfjjmpanaaGreatDoor.Cov
namespace Go.Proofs.YtokehnfjjmpanaaGreatDoor.Cov
open Sm Bins Go.RowKit
noncomputable def AL8 (z:Int):Nat→AV:=fun n=>if n=0 then .fptr 1 [[.sl .any 1 (kw.map encStr)]] 0 0 else if n=1 then .fptr 1 [[.int .i64 z]] 0 0 else .junk
theorem AT2 (z:Int):GOk (AL8 z):=⟨⟨.any,rfl⟩,z,rfl⟩
theorem AMA {H:Type}:(Rows.laid_testbench_lexer_keywords:DataW H) = .slice (kw.map fun s => .lit (.string s.data.toList)) []:=rfl
theorem AN8 {w:World} {g:Nat} {k:IntKind} {z:Int} (h:w.cell? ⟨g,0,none⟩=some (.int k z)):RepF (M0 w) (.fptr 1 [[.int k z]] 0 0) (.pointer (some ⟨g,0,none⟩)):=by
 simp only [World.cell?] at h
 split at h
 case h_2=>simp at h
 rename_i cc ty fz hw
 have hcc:cc[0]? = some (.int k z):=by simpa using h
 refine .fptr 1 [[.int k z]] 0 0 g 0 cc ty fz (fun _ _ => .int k z) hw ?_ ?_ ?_
 ·intro i row hrow
  cases i with
  | zero =>
    simp at hrow; subst hrow
    refine ⟨rfl,fun j v hv => ?_⟩
    cases j with
    | zero=>simp at hv; subst hv; rfl
    | succ j=>simp at hv
  | succ i=>simp at hrow
 ·intro i j hi hj
  obtain rfl:i=0:=by simpa using hi
  obtain rfl:j=0:=by omega
  exact hcc
 ·intro i j row v hrow hv
  cases i with
  | zero =>
    simp at hrow; subst hrow
    cases j with
    | zero=>simp at hv; subst hv; exact .int _ _
    | succ j=>simp at hv
  | succ i=>simp at hrow
theorem AVL {W:World} (h:laidMetH Tryz.prog [("math/bits.deBruijn32tab",Rows.laid_math_bits_deBruijn32tab),("math/bits.deBruijn64tab",Rows.laid_math_bits_deBruijn64tab),("internal/strconv.uint64pow10",Rows.laid_internal_strconv_uint64pow10),("testbench/lexer.keywords",Rows.laid_testbench_lexer_keywords)] W) (hsh:W.ShapedOpen Tryz.prog) :
  ∃ z,∀ n,RepF (M0 W) (AL8 z n) (.pointer (some ⟨n,0,none⟩)):=by
 rw [MakeChecks.laidMetH_plain _ _ _ (by kernel_rfl)] at h
 obtain ⟨ps,⟨_,_,_,_,_,_,_,_,_,_,⟨_,_,_,_,_,_,_,_,_,_,⟨_,_,_,_,_,_,_,_,_,_,⟨g3,t3,cs3,f3,p3,q3,hg3,ht3,hv3,hd3,_,_⟩,_⟩,_⟩,_⟩,_,_⟩:=h
 have hgk:Tryz.prog.globalNamed "testbench/lexer.keywords" = some 0:=by kernel_rfl
 have htk:(Tryz.prog.globals[0]?).map (·.type)=some 120:=by kernel_rfl
 obtain rfl:=Option.some.inj (hgk.symm.trans hg3)
 obtain rfl:=Option.some.inj (htk.symm.trans ht3)
 obtain ⟨c,h1,h2⟩:=AJ2 Tryz.underlying120 Tryz.underlying9 cl9 AMA hd3
 obtain ⟨z,hz⟩:=cell_of_shapedOpen_int (P:=Tryz.prog) (g:=1) (t:=3) (zero := #[.int .i64 0]) hsh (of_decide_eq_true (by kernel_rfl)) (by kernel_rfl) rfl (by kernel_rfl) (by kernel_rfl) Tryz.underlying3
 refine ⟨z,fun n => ?_⟩
 unfold AL8
 split
 ·rename_i hn; subst hn
  exact AN7 hg3 hv3 h1 h2 rfl
 ·split
  ·rename_i hn; subst hn
   exact AN8 hz
  ·exact .junk _
end Go.Proofs.YtokehnfjjmpanaaGreatDoor.Cov
