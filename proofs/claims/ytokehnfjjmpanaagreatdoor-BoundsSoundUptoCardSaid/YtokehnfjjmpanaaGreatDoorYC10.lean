/- Part 10 of the proof (V2, V3, V4, V5, V6, V7, V8, Kb, Kw); no condition. -/
import Derived.LaidMore
import Derived.Shelf.Vars
import Derived.Test.YtokehnfjjmpanaaGreatDoorYC9
set_option linter.unusedVariables false
set_option linter.unusedSimpArgs false
set_option maxRecDepth 8000
namespace Go.Proofs.YtokehnfjjmpanaaGreatDoor.Bd
open Sm Bins Cov Xe Go.RowKit
open Bool renaming not_false→jC,eq_iff_iff→qG,or_true→qK,or_false→jO,not_true→jW
open Int renaming toNat_natCast→zG,eq_ofNat_of_zero_le→zI,le_refl→zJ
open List renaming length_cons→qH,length_map→jM,getElem_mem→jQ,append_assoc→zY,take_append_drop→wB,map_cons→jF,map_nil→jD,append_nil→jE,take_of_length_le→jX,nil_append→zK,cons_append→zU,length_append→zX,take_zero→zM,getElem?_eq_getElem→jU,length_take→zV,any_eq_true→qZ,getElem_of_mem→qB,take_succ_eq_append_getElem→zT,drop_eq_getElem_cons→qC,getElem?_set→jY,getElem?_eq_none→zF,replicate→qJ,eq_nil_of_length_eq_zero→qY,mem_append→zZ,contains_cons→jP,contains_nil→jR
open Nat renaming le_of_ble_eq_true→jH,reduceEqDiff→jB,add_zero→jI,zero_add→jG,lt_or_ge→jT,le_refl→jL,reduceBEq→jS
open Option renaming getD_some→jA,getD_none→jJ
def TP (x:Ex):Bool:=(x.op == 3) || (x.op == 24)
def V4 (l:List Vr) (x:Ex):Bool:=(x.op == 2) && decide (plc l x.name < 0)
def ANQ (e:Ex):Bool:=(pre e).any TP
def ANF (l:List Vr) (e:Ex):Bool:=(pre e).any (V4 l)
def plE (l:List Vr) (e:Ex):Int:=if ANQ e=true then 9 else if ANF l e=true then 7 else 0
def xpE (l:List Vr) (e:Ex):Int:=if exE e≠0 then exE e else plE l e
def KA (l:List Vr) (xs:List Ex):Int:=OM (xpE l) xs
theorem AHL {α:Type} (f:α→Int) : ∀ xs ys:List α,OM f (xs ++ ys)=if OM f xs≠0 then OM f xs else OM f ys
 | [],ys=>by simp [OM]
 | x :: xs,ys=>by
   have ih:=AHL f xs ys
   show (if f x≠0 then f x else OM f (xs ++ ys))=if (if f x≠0 then f x else OM f xs)≠0 then (if f x≠0 then f x else OM f xs) else OM f ys
   rw [ih]
   by_cases h:f x≠0
   ·rw [if_pos h,if_pos h,if_pos h]
   ·rw [if_neg h,if_neg h]
section
variable (G:Nat→AV)
theorem AKF (e:Ex):(pre e).length≤1048576→∀ h:Hp,PCall (En G) 128 [.agg (CW e)] h (.bool (ANQ e)):=by
 induction e using Ex.induct with | h e ih => ?_
 intro hw h
 have hpl:=congrArg List.length (pre_eq e)
 rw [qH] at hpl
 have hal:e.args.length≤1048576:=by have:=UF e.args; omega
 have hev:ANQ e=(TP e || (II e.args).any TP):=by unfold ANQ; rw [pre_eq,List.any_cons]
 rw [hev]
 refine ACalls.pure0 rfl ?_
 refine acN Tryz.func128 rfl ?_
 show awp _ _ _ _ _ (EE _ [.tmp 2] _)
 have ge:=C9 h (ABlk.live 4 [CW e])
 have hx:ext h (h ++ [ABlk.live 4 [CW e]]):=(ext.rfl' h).app _
 simp -implicitDefEqProofs only [BC,A8,A7,AZ,BA,AC,AQ,AO,BD,AX,AL,AA,AY,AU,BM,BB,FN,BP,BI,BZ,AB,BF,↓reduceIte,jB,jI,jA,jC,enP,GU,bxE]
 generalize h ++ [ABlk.live 4 [CW e]]=H1 at ge hx ⊢
 generalize h.length=eb at ge ⊢
 have l0:DL Tryz.prog H1 3 (.ptr eb 0 0)=some (.int .i64 e.op):=by rw [DC ag3 ge (row:=CW e) rfl,JE]
 have l3:DL Tryz.prog H1 23 (.ptr eb 0 3)=some (.sl e.m 4 (e.args.map CW)):=by rw [DC QU ge (row:=CW e) rfl,SB]
 simp -implicitDefEqProofs only [AZ,BL,BX,CG,AC,AQ,AO,BD,AX,AL,AA,AY,AU,BG,BH,BU,AB,DJ,↓reduceIte,jA,jC,enP,l0]
 cases b3:(e.op == 3)
 case true =>
  simp -implicitDefEqProofs only [BC,A8,BK,BJ,A7,CJ,CU,DR,AZ,BA,BL,BX,CG,FY,AC,AQ,AO,BD,AX,AL,AA,EG,AY,AU,BM,BB,CO,DK,↓reduceIte,jB,jA,jC,b3]
  exact ⟨by unfold TP; rw [b3]; rfl,hx⟩
 simp -implicitDefEqProofs only [BJ,A7,AZ,BA,BL,BX,CG,EM,AC,AQ,AO,BD,AX,AL,AA,AY,AU,BG,BM,CO,DU,BP,BU,BI,AB,DJ,↓reduceIte,jB,jI,jA,jC,enP,GU,b3,l0]
 cases b4:(e.op == 24)
 case true =>
  simp -implicitDefEqProofs only [BC,A8,BK,A7,CJ,CU,DR,AZ,BA,AC,AQ,AO,BD,AX,AL,AA,AU,BM,BB,↓reduceIte,jA,jC,b4]
  exact ⟨by unfold TP; rw [b3,b4]; rfl,hx⟩
 have h0:TP e=false:=by unfold TP; rw [b3,b4]; rfl
 rw [h0,Bool.false_or]
 simp -implicitDefEqProofs only [BC,CB,A8,BR,A7,DX,AZ,BA,AC,AQ,AO,BD,AX,AL,AU,BG,BB,jA,jC,b4]
 refine D7 (fun k F H => ∃ j,k+j=e.args.length∧F 1 = .ptr eb 0 0∧F 3 = .int .i64 (j:Nat)∧H=H1∧(II (e.args.take j)).any TP=false) e.args.length ⟨0,by simp,by simp -implicitDefEqProofs only [AA,↓reduceIte,jB],by simp -implicitDefEqProofs only [AA,↓reduceIte]; rfl,rfl,rfl⟩ ?_
 rintro k F H ⟨j,hj,f1,f3,rfl,hkn⟩
 simp -implicitDefEqProofs only [BC,A8,BJ,A7,AZ,BA,AC,AQ,AO,BD,AX,AL,AA,AY,BH,BP,BU,BI,E5,AB,DF,↓reduceIte,jB,jG,jA,jC,enP,TT,JW,f1,f3,l3,jM]
 refine CV (fun hc => ?_) (fun hc => ?_)
 ·have hj':j < e.args.length:=by simpa using hc
  have hmem:e.args[j]∈e.args:=jQ hj'
  have hsplit:II e.args=II (e.args.take j) ++ (pre e.args[j] ++ II (e.args.drop (j+1))):=by
   rw [← zY,← J6 _ _ hj',← LV,wB]
  simp -implicitDefEqProofs only [BC,CB,A8,BR,A7,AZ,AC,AQ,AO,BD,AX,AL,AA,AY,BO,BH,BP,BI,CQ,BV,BN,AB,jF,jD,jE,↓reduceIte,jB,jG,jA,jC,enP,P9,JW,f1,f3,l3,EF hj',EO MK J4 EN hj']
  refine (ih e.args[j] hmem (by have:=O3 hmem; omega) H).use ?_
  simp -implicitDefEqProofs only [BJ,A7,BA,AL,AA,AY,↓reduceIte]
  refine CV (fun hb => ?_) (fun hb => ?_)
  ·simp -implicitDefEqProofs only [BC,A8,BK,A7,CJ,D5,FV,CU,AZ,BA,AC,AQ,AO,BD,AX,AL,AA,AU,BM,BB,↓reduceIte,jA,jC]
   refine ⟨?_,hx⟩
   have hb:(pre e.args[j]).any TP=true:=hb
   rw [hsplit,List.any_append,List.any_append,hb]; simp
  ·simp -implicitDefEqProofs only [A8,BR,A7,EK,FI,AZ,BA,AC,AQ,AO,BD,AX,AL,AA,AY,AU,BG,BH,BB,BU,AB,DY,↓reduceIte,jB,jA,jC,enP,f3,wrap_succ (show j < 9223372036854775807 by omega)]
   have hb:(pre e.args[j]).any TP=false:=hb
   exact ⟨k - 1,by omega,j+1,by omega,by trivial,rfl,trivial,by rw [J6 _ _ hj',List.any_append,hkn,hb]; rfl⟩
 ·have hj' : ¬ j < e.args.length:=by simpa using hc
  rw [jX (by omega)] at hkn
  simp -implicitDefEqProofs only [BC,A8,BK,D6,A7,EU,FT,FX,CU,AZ,BA,AC,AQ,AO,BD,AX,AL,AA,AU,BM,BB,↓reduceIte,jA,jC]
  exact ⟨by rw [hkn],hx⟩
theorem AHM (l:List Vr) (m:SM) (hl:l.length≤1048576) (e:Ex):(pre e).length≤1048576→∀ h:Hp,PCall (En G) 129 [.sl m 4 (l.map FM),.agg (CW e)] h (.bool (ANF l e)):=by
 induction e using Ex.induct with | h e ih => ?_
 intro hw h
 have hpl:=congrArg List.length (pre_eq e)
 rw [qH] at hpl
 have hal:e.args.length≤1048576:=by have:=UF e.args; omega
 have hev:ANF l e=(V4 l e || (II e.args).any (V4 l)):=by unfold ANF; rw [pre_eq,List.any_cons]
 rw [hev]
 refine ACalls.pure0 rfl ?_
 refine acN Tryz.func129 rfl ?_
 show awp _ _ _ _ _ (EE _ [.tmp 4] _)
 have ge:=C9 h (ABlk.live 4 [CW e])
 have hx:ext h (h ++ [ABlk.live 4 [CW e]]):=(ext.rfl' h).app _
 simp -implicitDefEqProofs only [BC,A8,A7,AZ,BA,AC,AQ,AO,BD,AX,AL,AA,AY,AU,BM,BB,FN,BP,BI,BZ,AB,BF,BQ,↓reduceIte,jB,jI,jA,jC,enP,GU,bxE]
 generalize h ++ [ABlk.live 4 [CW e]]=H1 at ge hx ⊢
 generalize h.length=eb at ge ⊢
 have l0:DL Tryz.prog H1 3 (.ptr eb 0 0)=some (.int .i64 e.op):=by rw [DC ag3 ge (row:=CW e) rfl,JE]
 have l2:DL Tryz.prog H1 9 (.ptr eb 0 2)=some (.str e.name):=by rw [DC ag9 ge (row:=CW e) rfl,O9]
 have l3:DL Tryz.prog H1 23 (.ptr eb 0 3)=some (.sl e.m 4 (e.args.map CW)):=by rw [DC QU ge (row:=CW e) rfl,SB]
 simp -implicitDefEqProofs only [AZ,BL,BX,CG,AC,AQ,AO,BD,AX,AL,AA,AY,AU,BG,BH,BU,AB,DJ,↓reduceIte,jA,jC,enP,l0]
 refine QP (fun F H=>F 0 = .sl m 4 (l.map FM)∧F 3 = .ptr eb 0 0∧F 15 = .bool (V4 l e)∧H=H1) ?_ ?_
 ·cases b2:(e.op == 2)
  ·simp -implicitDefEqProofs only [AZ,BA,BL,BX,CG,JA,AC,AQ,AO,BD,AX,AL,AA,EG,AY,AU,BM,CO,DU,BF,↓reduceIte,jB,jA,jC,b2]
   exact ⟨trivial,trivial,by unfold V4; rw [b2]; rfl,trivial⟩
  ·simp -implicitDefEqProofs only [BL,BX,CG,F8,AC,AQ,AO,BD,AX,AL,AA,AY,BO,BH,BP,BI,BV,BN,AB,BF,jF,jD,jE,↓reduceIte,jB,jG,jA,jC,enP,KO,b2,l2]
   refine (WL G l m e.name H1 (by omega)).use ?_
   simp -implicitDefEqProofs only [AZ,BA,BL,BX,CG,F8,AC,AQ,AO,BD,AX,AL,AA,AY,AU,BG,BM,CO,DK,BU,AB,DF,BF,↓reduceIte,jB,jA,jC,enP,b2]
   exact ⟨trivial,trivial,by unfold V4; rw [b2]; rfl,trivial⟩
 rintro F H ⟨f0,f3,f15,rfl⟩
 simp -implicitDefEqProofs only [BJ,A7,AY,f15]
 refine CV (fun hb => ?_) (fun hb => ?_)
 ·simp -implicitDefEqProofs only [BC,A8,BK,A7,CJ,CU,AZ,BA,AC,AQ,AO,BD,AX,AL,AA,AU,BM,BB,↓reduceIte,jA,jC]
  exact ⟨by rw [hb]; rfl,hx⟩
 rw [hb,Bool.false_or]
 simp -implicitDefEqProofs only [BC,CB,A8,BR,A7,AZ,BA,AC,AQ,AO,BD,AX,AL,AU,BG,BB,jA,jC]
 refine D7 (fun k F H' => ∃ j,k+j=e.args.length∧F 0 = .sl m 4 (l.map FM)∧F 3 = .ptr eb 0 0∧F 5 = .int .i64 (j:Nat)∧H'=H∧(II (e.args.take j)).any (V4 l)=false) e.args.length ⟨0,by simp,by simp -implicitDefEqProofs only [AA,↓reduceIte,jB,f0],by simp -implicitDefEqProofs only [AA,↓reduceIte,jB,f3],by simp -implicitDefEqProofs only [AA,↓reduceIte]; rfl,rfl,rfl⟩ ?_
 clear f0 f3 f15
 rintro k F H ⟨j,hj,f0,f3,f5,rfl,hkn⟩
 simp -implicitDefEqProofs only [BC,A8,BJ,A7,AZ,BA,AC,AQ,AO,BD,AX,AL,AA,AY,BH,BP,BU,BI,E5,AB,DF,↓reduceIte,jB,jG,jA,jC,enP,TT,JW,f3,f5,l3,jM]
 refine CV (fun hc => ?_) (fun hc => ?_)
 ·have hj':j < e.args.length:=by simpa using hc
  have hmem:e.args[j]∈e.args:=jQ hj'
  have hsplit:II e.args=II (e.args.take j) ++ (pre e.args[j] ++ II (e.args.drop (j+1))):=by
   rw [← zY,← J6 _ _ hj',← LV,wB]
  simp -implicitDefEqProofs only [BC,CB,A8,BR,A7,AZ,AC,AQ,AO,BD,AX,AL,AA,AY,BO,BH,BP,BI,CQ,BV,BN,AB,jF,jD,jE,↓reduceIte,jB,jG,jA,jC,enP,P9,JW,f0,f3,f5,l3,EF hj',EO MK J4 EN hj']
  refine (ih e.args[j] hmem (by have:=O3 hmem; omega) H).use ?_
  simp -implicitDefEqProofs only [BJ,A7,BA,AL,AA,AY,↓reduceIte]
  refine CV (fun hb => ?_) (fun hb => ?_)
  ·simp -implicitDefEqProofs only [BC,A8,BK,A7,CJ,D5,FV,CU,AZ,BA,AC,AQ,AO,BD,AX,AL,AA,AU,BM,BB,↓reduceIte,jA,jC]
   refine ⟨?_,hx⟩
   have hb:(pre e.args[j]).any (V4 l)=true:=hb
   rw [hsplit,List.any_append,List.any_append,hb]; simp
  ·simp -implicitDefEqProofs only [A8,BR,A7,EK,FI,AZ,BA,AC,AQ,AO,BD,AX,AL,AA,AY,AU,BG,BH,BB,BU,AB,DY,↓reduceIte,jB,jA,jC,enP,f5,wrap_succ (show j < 9223372036854775807 by omega)]
   have hb:(pre e.args[j]).any (V4 l)=false:=hb
   exact ⟨k - 1,by omega,j+1,by omega,by trivial,by trivial,rfl,trivial,by rw [J6 _ _ hj',List.any_append,hkn,hb]; rfl⟩
 ·have hj' : ¬ j < e.args.length:=by simpa using hc
  rw [jX (by omega)] at hkn
  simp -implicitDefEqProofs only [BC,A8,BK,D6,A7,EU,FT,FX,CU,AZ,BA,AC,AQ,AO,BD,AX,AL,AA,AU,BM,BB,↓reduceIte,jA,jC]
  exact ⟨by rw [hkn],hx⟩
theorem AMQ (l:List Vr) (m:SM) (hl:l.length≤1048576) (e:Ex) (hw:(pre e).length≤1048576) (h:Hp):PCall (En G) 86 [.sl m 4 (l.map FM),.agg (CW e)] h (.int .i64 (plE l e)):=by
 refine ACalls.pure0 rfl ?_
 refine acN Tryz.func86 rfl ?_
 show awp _ _ _ _ _ (EE _ [.tmp 4] _)
 simp -implicitDefEqProofs only [BC,A8,A7,AZ,BA,AC,AQ,AO,BD,AX,AL,AA,AY,AU,BO,BG,BB,FN,BP,BV,BN,BZ,AB,BF,BQ,jF,jD,jE,↓reduceIte,jB,jA,jC,enP,bxE,ldE]
 refine (AKF G e hw _).use ?_
 simp -implicitDefEqProofs only [BJ,A7,BA,AL,AA,AY,↓reduceIte]
 refine CV (fun hb => ?_) (fun hb => ?_)
 ·simp -implicitDefEqProofs only [BC,A8,BK,A7,CJ,CU,AZ,BA,AC,AQ,AO,BD,AX,AL,AA,AU,BG,BB,↓reduceIte,jA,jC]
  exact ⟨by unfold plE; rw [hb]; rfl,_,rfl⟩
 simp -implicitDefEqProofs only [BC,A8,BR,A7,AZ,AC,AQ,AO,BD,AX,AL,AA,AY,BO,BH,BP,BV,BN,AB,BF,jF,jD,jE,↓reduceIte,jB,jA,jC,enP,ldE]
 refine (AHM G l m hl e hw _).use ?_
 simp -implicitDefEqProofs only [BJ,A7,BA,AL,AA,AY,↓reduceIte]
 refine CV (fun hf => ?_) (fun hf => ?_)
 ·simp -implicitDefEqProofs only [BC,A8,BK,A7,CJ,CU,AZ,BA,AC,AQ,AO,BD,AX,AL,AA,AU,BG,BB,↓reduceIte,jA,jC]
  exact ⟨by unfold plE; rw [hb,hf]; rfl,_,rfl⟩
 ·simp -implicitDefEqProofs only [BC,A8,BR,BK,A7,CU,AZ,BA,AC,AQ,AO,BD,AX,AL,AA,AU,BG,BB,↓reduceIte,jA,jC]
  exact ⟨by unfold plE; rw [hb,hf]; rfl,_,rfl⟩
theorem TQ (l:List Vr) (m:SM) (hl:l.length≤1048576) (xs:List Ex) (s:SM) (hx:xs.length≤1048576) (hw : ∀ e∈xs,wt e≤1048576) (h:Hp):PCall (En G) 44 [.sl m 4 (l.map FM),.sl s 4 (xs.map CW)] h (.int .i64 (KA l xs)):=by
 refine acN Tryz.func44 rfl ?_
 show awp _ _ _ _ _ (EE _ [.tmp 4] _)
 simp -implicitDefEqProofs only [BC,CB,A8,A7,AZ,BA,AC,AQ,AO,BD,AX,AL,AU,BG,BB,jA,jC,enX,enP]
 refine D7 (fun n F H => ∃ i,n+i=xs.length∧(∀ (j:Nat) (hj:j < i) (hl:j < xs.length),xpE l xs[j]=0)∧F 0 = .sl m 4 (l.map FM)∧F 1 = .sl s 4 (xs.map CW)∧F 5 = .int .i64 (i:Nat)∧H=h) xs.length ⟨0,by simp,fun j hj=>absurd hj (by omega),by simp -implicitDefEqProofs only [AA,BF,↓reduceIte,jB],by simp -implicitDefEqProofs only [AA,BF,BQ,↓reduceIte,jB],by simp -implicitDefEqProofs only [AA,↓reduceIte]; rfl,rfl⟩ ?_
 rintro n F H ⟨i,hi,hb,f0,f1,f5,rfl⟩
 simp -implicitDefEqProofs only [BC,A8,BJ,A7,AZ,BA,AC,AQ,AO,BD,AX,AL,AA,AY,BH,BU,E5,AB,DF,↓reduceIte,jB,jA,jC,enP,TT,f1,f5,jM]
 refine CV (fun hc => ?_) (fun hc => ?_)
 ·have hi':i < xs.length:=by simpa using hc
  have hwi:=hw _ (jQ hi')
  have hbad:xpE l xs[i]≠0→KA l xs=xpE l xs[i]:=fun hz=>QF (xpE l) xs i hi' (fun j hj=>hb j hj (by omega)) hz
  simp -implicitDefEqProofs only [BC,CB,A8,BR,A7,AZ,AC,AQ,AO,BD,AX,AL,AA,AY,BO,BH,BP,CQ,BV,BN,AB,jF,jD,jE,↓reduceIte,jB,jA,jC,enP,P9,f1,f5,EF hi',EO MK J4 EN hi']
  refine (AHV G xs[i] H hwi).use ?_
  simp -implicitDefEqProofs only [BC,A8,BJ,A7,AZ,BA,AC,AQ,AO,BD,AX,AL,AA,AY,AU,BG,BH,BB,BU,AB,FD,↓reduceIte,jA,jC,enP]
  refine CV (fun he => ?_) (fun he => ?_)
  ·have he':exE xs[i]≠0:=by simpa [bne] using he
   have hxp:xpE l xs[i]=exE xs[i]:=by unfold xpE; rw [if_pos he']
   simp -implicitDefEqProofs only [BC,A8,BK,A7,CJ,D5,FV,CU,AZ,BA,AC,AQ,AO,BD,AX,AL,AA,AY,BH,BB,↓reduceIte,jB,jA,jC]
   exact ⟨by rw [hbad (by rw [hxp]; exact he'),hxp],trivial⟩
  have he':exE xs[i]=0:=by simpa [bne] using he
  have hxp:xpE l xs[i]=plE l xs[i]:=by unfold xpE; rw [if_neg (by simp [he'])]
  simp -implicitDefEqProofs only [BC,A8,BR,A7,AZ,AC,AQ,AO,BD,AX,AL,AA,AY,BO,BH,BP,CQ,BV,BN,AB,jF,jD,jE,↓reduceIte,jB,jA,jC,enP,P9,f0,f1,f5,EF hi',EO MK J4 EN hi']
  refine (AMQ G l m hl xs[i] (by have:=WF xs[i]; omega) H).use ?_
  simp -implicitDefEqProofs only [BC,A8,BJ,A7,AZ,BA,AC,AQ,AO,BD,AX,AL,AA,AY,AU,BG,BH,BB,BU,AB,FD,↓reduceIte,jA,jC,enP]
  refine CV (fun hp => ?_) (fun hp => ?_)
  ·have hp':plE l xs[i]≠0:=by simpa [bne] using hp
   simp -implicitDefEqProofs only [BC,A8,BK,A7,CJ,D5,FV,CU,AZ,BA,AC,AQ,AO,BD,AX,AL,AA,AY,BH,BB,↓reduceIte,jB,jA,jC]
   exact ⟨by rw [hbad (by rw [hxp]; exact hp'),hxp],trivial⟩
  ·have hp':plE l xs[i]=0:=by simpa [bne] using hp
   simp -implicitDefEqProofs only [A8,BR,A7,EK,FI,AZ,BA,AC,AQ,AO,BD,AX,AL,AA,AY,AU,BG,BH,BB,BU,AB,DY,↓reduceIte,jB,jA,jC,enP,f5,wrap_succ (show i < 9223372036854775807 by omega)]
   refine ⟨n - 1,by omega,i+1,by omega,fun j hj hl => ?_,by trivial,by trivial,rfl,trivial⟩
   rcases jT j i with h1 | h1
   ·exact hb j h1 hl
   ·obtain rfl:j=i:=by omega
    rw [hxp]; exact hp'
 ·have hi' : ¬ i < xs.length:=by simpa using hc
  simp -implicitDefEqProofs only [BC,A8,BK,D6,A7,EU,FT,FX,CU,AZ,BA,AC,AQ,AO,BD,AX,AL,AA,AU,BG,BB,↓reduceIte,jA,jC]
  exact ⟨by rw [KA,OL (xpE l) xs fun j hj=>hb j (by omega) hj],trivial⟩
end
theorem AXD (e:Ex):decide (((nmL [3,24] [] (pre e)).length:Int) > 0)=ANQ e:=by
 have h:=AE3 (fun _=>false) [3,24] (pre e) []
 have h1:(nmL [3,24] [] (pre e)).all (fun _=>false)=decide ((nmL [3,24] [] (pre e)).length=0):=by
  cases nmL [3,24] [] (pre e) <;> simp
 rw [h1] at h
 unfold ANQ
 have h2:(pre e).any TP = !((pre e).all fun e => !Rk.hasB [3,24] e.op || false):=by
  rw [List.not_all_eq_any_not]
  congr 1
  funext x
  unfold TP Rk.hasB
  rw [qG]
  simp
  constructor
  ·rintro (h | h) <;> simp [h]
  ·rintro (h | h) <;> simp [h]
 rw [h2]
 simp only [List.all_nil,Bool.true_and] at h
 rw [← h]
 cases nmL [3,24] [] (pre e) <;> simp
theorem AWH (l:List Vr) (e:Ex):(nmL [2] [] (pre e)).any (fun n=>decide (plc l n < 0))=ANF l e:=by
 have h:=AE3 (fun n => !decide (plc l n < 0)) [2] (pre e) []
 simp only [List.all_nil,Bool.true_and] at h
 rw [← Bool.not_inj_iff,List.not_any_eq_all_not,h]
 unfold ANF
 rw [List.not_any_eq_all_not]
 congr 1
 funext x
 unfold V4 Rk.hasB
 rw [qG]
 simp
 constructor
 ·rintro (h1 | h1)
  ·exact .inl fun e=>h1 e.symm
  ·exact .inr h1
 ·rintro (h1 | h1)
  ·exact .inl fun e=>h1 e.symm
  ·exact .inr h1
theorem AZO (h:Hp) (a b:SM) (x y:List (List AV)):FU Tryz.prog false h 159 2 [(0,.sl a 4 x),(1,.sl b 4 y)]=some (.sl .full 1 [[.sl a 4 x],[.sl b 4 y]],h):=by kernel_rfl
section
variable (G:Nat→AV)
theorem AY6 (p:Pr) (n:ByteArray) (c:Nat) (h:Hp) (hc:h[c]? = some (.live 5 [D8 p])) (hl:p.vars.length≤1048576):PCall (En G) 112 ([.str n] ++ [.ptr c 0 0]) h (.bool (decide (plc p.vars n < 0))):=by
 refine acN Tryz.func112 rfl ?_
 show awp _ _ _ _ _ (EE _ [.tmp 3] _)
 have l0:DL Tryz.prog h 22 (.ptr c 0 0)=some (.sl p.vm 4 (p.vars.map FM)):=by rw [DC UW hc (row:=D8 p) rfl]; rfl
 simp -implicitDefEqProofs only [BC,A8,A7,AZ,BA,AC,AQ,AO,BD,AX,AL,AA,AY,AU,BO,BM,BH,BB,BP,BI,BV,BN,AB,BF,BQ,jF,jD,jE,zK,zU,↓reduceIte,jB,jI,jA,jC,enX,enP,KZ,l0]
 refine (index_prog G p.vars p.vm n h (by omega)).use ?_
 simp -implicitDefEqProofs only [BK,A7,CU,AZ,BA,AC,AQ,AO,BD,AX,AL,AA,AY,AU,BG,BB,BU,AB,DF,↓reduceIte,jA,jC,enP]
 exact ⟨trivial,trivial⟩
theorem AJV (hG:GOk G) (p:Pr) (hl:p.vars.length≤1048576) (hx:p.hard.length+p.soft.length≤1048576) (hw : ∀ e∈p.hard ++ p.soft,wt e≤1048576) (h:Hp):PCall (En G) 59 [.agg (D8 p)] h (.int .i64 (KA p.vars (p.hard ++ p.soft))):=by
 refine ACalls.pure0 rfl ?_
 refine acN Tryz.func59 rfl ?_
 show awp _ _ _ _ _ (EE _ [.tmp 2] _)
 have ge:=C9 h (ABlk.live 5 [D8 p])
 have hxx:ext h (h ++ [ABlk.live 5 [D8 p]]):=(ext.rfl' h).app _
 simp -implicitDefEqProofs only [BC,A8,A7,AZ,BA,AC,AQ,AO,BD,AX,AL,AA,AY,AU,BG,BB,FN,BP,BI,BZ,AB,BF,↓reduceIte,jB,jG,jA,jC,enP,AB6,VS]
 generalize h ++ [ABlk.live 5 [D8 p]]=H1 at ge hxx ⊢
 generalize h.length=eb at ge ⊢
 have l1:DL Tryz.prog H1 23 (.ptr eb 0 1)=some (.sl p.hm 4 (p.hard.map CW)):=by rw [DC QU ge (row:=D8 p) rfl]; rfl
 have l2:DL Tryz.prog H1 23 (.ptr eb 0 2)=some (.sl p.sm 4 (p.soft.map CW)):=by rw [DC QU ge (row:=D8 p) rfl]; rfl
 simp -implicitDefEqProofs only [FB,ES,AZ,AC,AQ,AO,BD,AX,AL,AA,AY,BO,GM,BP,BI,BV,BN,BZ,AB,jF,jD,jE,↓reduceIte,jB,jG,jA,jC,enP,AQG,l1,l2,AZO]
 have hfl:fl [⟨p.hm,p.hard⟩,⟨p.sm,p.soft⟩]=p.hard ++ p.soft:=by simp [fl]
 have hcc:=AH8 G [⟨p.hm,p.hard⟩,⟨p.sm,p.soft⟩] .full (by simp) (by rw [hfl,zX]; omega) H1
 rw [hfl] at hcc
 refine hcc.use ?_
 have hxl:(p.hard ++ p.soft).length≤1048576:=by rw [zX]; omega
 generalize p.hard ++ p.soft=xs at hw hxl ⊢
 simp -implicitDefEqProofs only [CB,A7,AZ,BA,AC,AQ,AO,BD,AX,AL,AA,AY,AU,BG,BH,E5,AB,↓reduceIte,jA,jC,enP,TT,jM]
 refine D7 (fun n F H => ∃ i,n+i=xs.length∧(∀ (j:Nat) (hj:j < i) (hl:j < xs.length),xpE p.vars xs[j]=0)∧F 1 = .ptr eb 0 0∧F 11 = .sl (nm xs) 4 (xs.map CW)∧F 12 = .int .i64 (xs.length:Nat)∧F 13 = .int .i64 (i:Nat)∧H[eb]? = some (.live 5 [D8 p])∧ext h H) xs.length ⟨0,by simp,fun j hj=>absurd hj (by omega),by simp -implicitDefEqProofs only [AA,↓reduceIte,jB],by simp -implicitDefEqProofs only [AA,↓reduceIte,jB],by simp -implicitDefEqProofs only [AA,↓reduceIte,jB],by simp -implicitDefEqProofs only [AA,↓reduceIte]; rfl,ge,hxx⟩ ?_
 clear ge hxx l1 l2
 rintro n F H ⟨i,hi,hb,f1,f11,f12,f13,ge,hxx⟩
 simp -implicitDefEqProofs only [BC,A8,BJ,A7,AZ,BA,AC,AQ,AO,BD,AX,AL,AA,AY,BU,AB,DF,↓reduceIte,jA,jC,enP,f12,f13]
 refine CV (fun hc => ?_) (fun hc => ?_)
 ·have hi':i < xs.length:=by simpa using hc
  have hwi:=hw _ (jQ hi')
  have hbad:xpE p.vars xs[i]≠0→KA p.vars xs=xpE p.vars xs[i]:=fun hz=>QF (xpE p.vars) xs i hi' (fun j hj=>hb j hj (by omega)) hz
  have ge1:(H ++ [ABlk.live 4 [CW xs[i]]])[eb]? = _:=CX ge
  have hx1:ext h (H ++ [ABlk.live 4 [CW xs[i]]]):=hxx.app _
  have gE:=C9 H (ABlk.live 4 [CW xs[i]])
  have al40:JU Tryz.prog H 40=some (.ptr H.length 0 0,H ++ [.live 4 [[.int .i64 0,.int .i64 0,.str ⟨#[]⟩,.sl .nil 0 []]]]):=J7 (row := [.int .i64 0,.int .i64 0,.str ⟨#[]⟩,.sl .nil 0 []]) (by kernel_rfl)
  have st40:F7 Tryz.prog (H ++ [.live 4 [[.int .i64 0,.int .i64 0,.str ⟨#[]⟩,.sl .nil 0 []]]]) 40 (.ptr H.length 0 0) (.agg (CW xs[i]))=some (H ++ [.live 4 [CW xs[i]]]):=by
   have hle:(CW xs[i]).length=4:=EN _
   rw [ZO (cs:=CW xs[i]) (row := [.int .i64 0,.int .i64 0,.str ⟨#[]⟩,.sl .nil 0 []]) (TK (by rw [MV]; rfl)) (by rw [hle]; exact J4) (C9 _ _) (by rw [hle]; exact jL 4),MS]
   have:splice [.int .i64 0,.int .i64 0,.str ⟨#[]⟩,.sl .nil 0 []] 0 (CW xs[i])=CW xs[i]:=by
    unfold splice; rw [zM,List.drop_eq_nil_of_le (by rw [hle]; exact jL 4)]; simp
   rw [this]
  simp -implicitDefEqProofs only [BC,CB,A8,BR,A7,AZ,BA,AC,AQ,AO,BD,AX,AL,DZ,AA,AY,EZ,BP,CZ,CQ,BZ,AB,CE,↓reduceIte,jB,jA,jC,enP,P9,jJ,f11,f13,EF hi',EO MK J4 EN hi',al40,st40]
  generalize H ++ [ABlk.live 4 [CW xs[i]]]=H1 at ge1 hx1 gE ⊢
  simp -implicitDefEqProofs only [AZ,AC,AQ,AO,BD,AX,AL,AA,AY,BO,BV,BN,AB,jF,jD,jE,↓reduceIte,jA,jC,IR gE]
  refine (AFJ G hG xs[i] _ hwi).use ?_
  simp -implicitDefEqProofs only [BC,A8,BJ,A7,AZ,BA,AC,AQ,AO,BD,AX,AL,AA,AY,AU,BG,BH,BB,BU,AB,FD,↓reduceIte,jA,jC,enP]
  refine CV (fun he => ?_) (fun he => ?_)
  ·have he':exE xs[i]≠0:=by simpa [bne] using he
   have hxp:xpE p.vars xs[i]=exE xs[i]:=by unfold xpE; rw [if_pos he']
   simp -implicitDefEqProofs only [BC,A8,BK,A7,CJ,D5,FV,CU,AZ,BA,AC,AQ,AO,BD,AX,AL,AA,AY,BH,BB,↓reduceIte,jB,jA,jC]
   exact ⟨by rw [hbad (by rw [hxp]; exact he'),hxp],hx1⟩
  have he':exE xs[i]=0:=by simpa [bne] using he
  have hxp:xpE p.vars xs[i]=plE p.vars xs[i]:=by unfold xpE; rw [if_neg (by simp [he'])]
  simp -implicitDefEqProofs only [BC,A8,BR,A7,AZ,AC,AQ,AO,BD,AX,AL,AA,AY,BO,BP,BV,BN,AB,jF,jD,jE,↓reduceIte,jB,jA,jC,enP,IR gE]
  refine (AIW G xs[i] hwi _).use ?_
  simp -implicitDefEqProofs only [BJ,A7,AZ,BA,AC,AQ,AO,BD,AX,AL,AA,AY,AU,BG,BU,E5,AB,EY,↓reduceIte,jA,jC,enP,ZQ,jM,AXD]
  refine CV (fun ha => ?_) (fun ha => ?_)
  ·have hpl:plE p.vars xs[i]=9:=by unfold plE; rw [if_pos ha]
   simp -implicitDefEqProofs only [BC,A8,BK,A7,CJ,D5,FV,CU,AZ,BA,AC,AQ,AO,BD,AX,AL,AA,AU,BG,BB,↓reduceIte,jA,jC]
   exact ⟨by rw [hbad (by rw [hxp,hpl]; decide),hxp,hpl],hx1⟩
  simp -implicitDefEqProofs only [BC,A8,BR,A7,AZ,AC,AQ,AO,BD,AX,AL,AA,AY,BO,BP,BV,BN,AB,jF,jD,jE,↓reduceIte,jB,jA,jC,enP,IR gE]
  refine (AKP G xs[i] hwi _).use ?_
  simp -implicitDefEqProofs only [AZ,AC,AQ,AO,BD,AX,AL,AA,AY,BO,JF,BV,BN,jF,jD,jE,↓reduceIte,jB,jA,jC,f1]
  have hnl:(nmL [2] [] (pre xs[i])).length≤1048576:=by
   have h1:=AE2 [2] (pre xs[i]) []
   have h2:=WF xs[i]
   simp at h1; omega
  refine (ATH G (nmL [2] [] (pre xs[i])) (nm (nmL [2] [] (pre xs[i]))) 112 [.ptr eb 0 0] (fun n=>decide (plc p.vars n < 0)) H1 (by omega) fun n _=>AY6 G p n eb _ ge1 hl).use ?_
  simp -implicitDefEqProofs only [BJ,A7,BA,AL,AA,AY,↓reduceIte,AWH]
  refine CV (fun hf => ?_) (fun hf => ?_)
  ·have hpl:plE p.vars xs[i]=7:=by unfold plE; rw [ha,hf]; rfl
   simp -implicitDefEqProofs only [BC,A8,BK,A7,CJ,D5,FV,CU,AZ,BA,AC,AQ,AO,BD,AX,AL,AA,AU,BG,BB,↓reduceIte,jA,jC]
   exact ⟨by rw [hbad (by rw [hxp,hpl]; decide),hxp,hpl],hx1⟩
  ·have hpl:plE p.vars xs[i]=0:=by unfold plE; rw [ha,hf]; rfl
   simp -implicitDefEqProofs only [A8,BR,A7,EK,FI,AZ,BA,AC,AQ,AO,BD,AX,AL,AA,AY,AU,BG,BH,BU,AB,DY,↓reduceIte,jB,jA,jC,enP,f13,wrap_succ (show i < 9223372036854775807 by omega)]
   refine ⟨n - 1,by omega,i+1,by omega,fun j hj hl => ?_,by trivial,by trivial,by trivial,rfl,ge1,hx1⟩
   rcases jT j i with h1 | h1
   ·exact hb j h1 hl
   ·obtain rfl:j=i:=by omega
    rw [hxp]; exact hpl
 ·have hi' : ¬ i < xs.length:=by simpa using hc
  simp -implicitDefEqProofs only [BC,A8,BK,D6,A7,EU,FT,FX,CU,AZ,BA,AC,AQ,AO,BD,AX,AL,AA,AU,BG,BB,↓reduceIte,jA,jC]
  exact ⟨by rw [KA,OL (xpE p.vars) xs fun j hj=>hb j (by omega) hj],hxx⟩
end
def NI (l:List Vr) (i:Int):Bool:=decide (0≤i) && (decide (i < l.length) && (match l[i.toNat]? with | some v => !(v.mode == 0) | none=>false))
def VT (x:Wg):Bool:=decide (x.lo < 0) || decide (x.lo > x.hi) || decide (x.hi > 65535) || decide (x.w < 0) || decide (x.w > 1000)
def dsE (l:List Vr) (ds:List Ds) (d:Ds):Int:=if NI l d.var=true then if ds.any (fun x=>x.var == d.var)=true then 8 else if d.ws.length > 16 then 2 else if d.ws.any VT=true then 1 else 0 else 1
def dsI (l:List Vr) (ds:List Ds) (i:Nat):Int:=match ds[i]? with | some d=>dsE l (ds.take i) d | none=>0
def NC (l:List Vr) (ds:List Ds):Int:=OM (dsI l ds) (List.range ds.length)
theorem ACD {l:List Vr} {ds:List Ds} {i:Nat} (hi:i < ds.length):dsI l ds i=dsE l (ds.take i) ds[i]:=by unfold dsI; rw [jU hi]
theorem ACE {l:List Vr} {ds:List Ds} {i:Nat} (hi:i < ds.length) (hb : ∀ j,j < i→dsI l ds j=0) (h:dsE l (ds.take i) ds[i]≠0):NC l ds=dsE l (ds.take i) ds[i]:=by
 have:=QF (dsI l ds) (List.range ds.length) i (by simpa using hi) (fun j hj=>by rw [List.getElem_range]; exact hb j hj) (by rw [List.getElem_range,ACD hi]; exact h)
 rw [List.getElem_range,ACD hi] at this
 exact this
theorem ZW {l:List Vr} {ds:List Ds} (hb : ∀ j,j < ds.length→dsI l ds j=0):NC l ds=0 :=
 OL _ _ fun j hj=>by rw [List.getElem_range]; exact hb j (by simpa using hj)
theorem U5 {l:List Vr} {n:Nat} (hn:n < l.length):NI l (n:Nat) = !(l[n].mode == 0):=by
 unfold NI
 rw [decide_eq_true (by omega),decide_eq_true (by omega),zG,jU hn]; rfl
theorem AXI (h:Hp):JU Tryz.prog h 52=some (.ptr h.length 0 0,h ++ [.live 2 [[.int .i64 0,.sl .nil 0 []]]]):=J7 (row := [.int .i64 0,.sl .nil 0 []]) (by kernel_rfl)
theorem AVS (h:Hp) (v:Ds):F7 Tryz.prog (h ++ [.live 2 [[.int .i64 0,.sl .nil 0 []]]]) 52 (.ptr h.length 0 0) (.agg (IU v))=some (h ++ [.live 2 [IU v]]):=by
 rw [ZO (cs:=IU v) (row := [.int .i64 0,.sl .nil 0 []]) rfl AGO (C9 _ _) (by exact jL 2),MS]
 rfl
theorem AXG (h:Hp):JU Tryz.prog h 89=some (.ptr h.length 0 0,h ++ [.live 4 [[.int .i64 0,.int .i64 0,.int .i64 0,.bool false]]]):=J7 (row := [.int .i64 0,.int .i64 0,.int .i64 0,.bool false]) (by kernel_rfl)
theorem AVQ (h:Hp) (v:Wg):F7 Tryz.prog (h ++ [.live 4 [[.int .i64 0,.int .i64 0,.int .i64 0,.bool false]]]) 89 (.ptr h.length 0 0) (.agg (IG v))=some (h ++ [.live 4 [IG v]]):=by
 rw [ZO (cs:=IG v) (row := [.int .i64 0,.int .i64 0,.int .i64 0,.bool false]) rfl AMH (C9 _ _) (by exact jL 4),MS]
 rfl
theorem A0P {l:List Ds} {h:Hp} {m:SM} {i:Nat} (hi:i≤l.length) : ∃ m',KG Tryz.prog h 24 (.sl m 2 (l.map IU)) none (some (.int .i64 (i:Nat))) none=some (.sl m' 2 ((l.take i).map IU)) :=
 ⟨ATU m i (l.map IU).length,by rw [AUP A0N AGO (by rw [jM]; exact hi),List.map_take]⟩
section
variable (G:Nat→AV)
theorem UE (p:Pr) (i:Int) (hl:p.vars.length≤1048576) (h:Hp):PCall (En G) 113 [.agg (D8 p),.int .i64 i] h (.bool (NI p.vars i)):=by
 refine ACalls.pure0 rfl ?_
 refine acN Tryz.func113 rfl ?_
 show awp _ _ _ _ _ (EE _ [.tmp 4] _)
 have l0:DL Tryz.prog (h ++ [ABlk.live 5 [D8 p]]) 22 (.ptr h.length 0 0)=some (.sl p.vm 4 (p.vars.map FM)):=by rw [DC UW (C9 _ _) (row:=D8 p) rfl]; rfl
 simp -implicitDefEqProofs only [BC,A8,A7,AZ,BA,BL,BX,CG,AC,AQ,AO,BD,AX,AL,AA,AY,AU,BG,BM,BH,BB,FN,BU,BZ,AB,FQ,BF,BQ,↓reduceIte,jB,jA,jC,enP,VS]
 cases b1:decide (i≥0)
 ·simp -implicitDefEqProofs only [BK,A7,CU,AZ,BA,BL,BX,CG,JA,AC,AQ,AO,BD,AX,AL,AA,EG,AY,AU,BM,BH,BB,CO,DU,↓reduceIte,jB,jA,jC,b1]
  refine ⟨?_,_,rfl⟩
  unfold NI; rw [show decide (0≤i)=false from b1]; rfl
 have h0:0≤i:=by simpa using b1
 obtain ⟨n,rfl⟩:=zI h0
 simp -implicitDefEqProofs only [AZ,BL,BX,CG,F8,AC,AQ,AO,BD,AX,AL,AA,AY,AU,BM,BH,CO,DK,BP,BU,BI,E5,AB,DF,BF,BQ,↓reduceIte,jB,jI,jA,jC,enP,QR,KZ,b1,l0,jM]
 cases b2:decide (((n:Nat):Int) < ((p.vars.length:Nat):Int))
 ·simp -implicitDefEqProofs only [BK,A7,CU,AZ,BA,BL,BX,CG,JA,AC,AQ,AO,BD,AX,AL,AA,EG,AY,AU,BM,BB,CO,DU,↓reduceIte,jB,jA,jC,b2]
  refine ⟨?_,_,rfl⟩
  unfold NI; rw [b2]; simp
 have hn:n < p.vars.length:=by simpa using b2
 have l2:DL Tryz.prog (h ++ [ABlk.live 5 [D8 p]]) 3 (.fptr 4 (p.vars.map FM) n 2)=some (.int .i64 p.vars[n].mode):=by rw [GG ag3 hn]; rfl
 simp -implicitDefEqProofs only [BK,A7,CU,AZ,BA,BL,BX,CG,F8,AC,AQ,AO,BD,AX,AL,AA,AY,AU,BG,BM,BH,BB,CO,DK,BP,BU,BI,CQ,AB,FD,BF,BQ,↓reduceIte,jB,jI,jG,jA,jC,enP,TU,KZ,MZ,b2,l0,EF hn,l2,bne]
 exact ⟨by rw [U5 hn],_,rfl⟩
theorem AY5 (x d:Ds) (c:Nat) (h:Hp) (hc:h[c]? = some (.live 2 [IU d])):PCall (En G) 115 ([.agg (IU x)] ++ [.ptr c 0 0]) h (.bool (x.var == d.var)):=by
 refine ACalls.pure0 rfl ?_
 refine acN Tryz.func115 rfl ?_
 show awp _ _ _ _ _ (EE _ [.tmp 3] _)
 have hc':(h ++ [ABlk.live 2 [IU x]])[c]? = _:=CX hc
 have l0:DL Tryz.prog (h ++ [ABlk.live 2 [IU x]]) 3 (.ptr h.length 0 0)=some (.int .i64 x.var):=by rw [DC ag3 (C9 _ _) (row:=IU x) rfl]; rfl
 have l1:DL Tryz.prog (h ++ [ABlk.live 2 [IU x]]) 3 (.ptr c 0 0)=some (.int .i64 d.var):=by rw [DC ag3 hc' (row:=IU d) rfl]; rfl
 simp -implicitDefEqProofs only [BC,A8,BK,A7,CU,AZ,BA,AC,AQ,AO,BD,AX,AL,AA,AY,AU,BM,BB,FN,BP,BU,BI,BZ,AB,DJ,BF,BQ,zK,zU,↓reduceIte,jB,jI,jA,jC,enP,UO,bxD,l0,l1]
 exact ⟨trivial,_,rfl⟩
theorem AY3 (x:Wg) (h:Hp):PCall (En G) 165 ([.agg (IG x)] ++ []) h (.bool (VT x)):=by
 refine ACalls.pure0 rfl ?_
 refine acN Tryz.func165 rfl ?_
 show awp _ _ _ _ _ (EE _ [.tmp 2] _)
 have l0:DL Tryz.prog (h ++ [ABlk.live 4 [IG x]]) 3 (.ptr h.length 0 0)=some (.int .i64 x.lo):=by rw [DC ag3 (C9 _ _) (row:=IG x) rfl]; rfl
 have l1:DL Tryz.prog (h ++ [ABlk.live 4 [IG x]]) 3 (.ptr h.length 0 1)=some (.int .i64 x.hi):=by rw [DC ag3 (C9 _ _) (row:=IG x) rfl]; rfl
 have l2:DL Tryz.prog (h ++ [ABlk.live 4 [IG x]]) 3 (.ptr h.length 0 2)=some (.int .i64 x.w):=by rw [DC ag3 (C9 _ _) (row:=IG x) rfl]; rfl
 simp -implicitDefEqProofs only [BC,A8,A7,AZ,BA,AC,AQ,AO,BD,AX,AL,AA,AY,AU,BM,BB,FN,BP,BI,BZ,AB,BF,jE,↓reduceIte,jB,jI,jA,jC,enP,PO,A10]
 unfold VT
 cases b1:decide (x.lo < 0)
 case true =>
  simp -implicitDefEqProofs only [Bool.true_or,BK,A7,CU,AZ,BA,BL,BX,CG,FY,AC,AQ,AO,BD,AX,AL,AA,EG,AY,AU,BG,BM,BH,BB,CO,DK,BU,AB,DF,↓reduceIte,jB,jA,jC,enP,l0,b1]
  exact ⟨trivial,_,rfl⟩
 cases b2:decide (x.lo > x.hi)
 case true =>
  simp -implicitDefEqProofs only [qK,Bool.true_or,BK,A7,CU,AZ,BA,BL,BX,CG,EM,FY,AC,AQ,AO,BD,AX,AL,AA,EG,AY,AU,BG,BM,BH,BB,CO,DK,DU,BP,BU,BI,AB,DF,EY,↓reduceIte,jB,jI,jG,jA,jC,enP,PO,RJ,l0,l1,b1,b2]
  exact ⟨trivial,_,rfl⟩
 cases b3:decide (x.hi > 65535)
 case true =>
  simp -implicitDefEqProofs only [jO,qK,Bool.true_or,BK,A7,CU,AZ,BA,BL,BX,CG,EM,FY,AC,AQ,AO,BD,AX,AL,AA,EG,AY,AU,BG,BM,BH,BB,CO,DK,DU,BP,BU,BI,AB,DF,EY,↓reduceIte,jB,jI,jG,jA,jC,enP,PO,RJ,l0,l1,b1,b2,b3]
  exact ⟨trivial,_,rfl⟩
 cases b4:decide (x.w < 0)
 case true =>
  simp -implicitDefEqProofs only [jO,qK,Bool.true_or,BK,A7,CU,AZ,BA,BL,BX,CG,EM,FY,AC,AQ,AO,BD,AX,AL,AA,EG,AY,AU,BG,BM,BH,BB,CO,DK,DU,BP,BU,BI,AB,DF,EY,↓reduceIte,jB,jI,jG,jA,jC,enP,PO,RJ,YX,l0,l1,l2,b1,b2,b3,b4]
  exact ⟨trivial,_,rfl⟩
 cases b5:decide (x.w > 1000)
 all_goals
  simp -implicitDefEqProofs only [jO,qK,BK,A7,CU,AZ,BA,BL,BX,CG,EM,AC,AQ,AO,BD,AX,AL,AA,AY,AU,BG,BM,BH,BB,CO,DU,BP,BU,BI,AB,DF,EY,↓reduceIte,jB,jI,jG,jA,jC,enP,PO,RJ,YX,l0,l1,l2,b1,b2,b3,b4,b5]
  exact ⟨trivial,_,rfl⟩
theorem AET (xs:List Wg) (m:SM) (hl:xs.length≤1048576) (h:Hp):PCall (En G) 116 [.sl m 4 (xs.map IG)] h (.bool (!(xs.any VT))):=by
 refine acN Tryz.func116 rfl ?_
 show awp _ _ _ _ _ (EE _ [.tmp 2] _)
 simp -implicitDefEqProofs only [BC,A8,A7,AZ,BA,AC,AQ,AO,BD,AX,AL,AA,AY,AU,BO,BM,BH,BB,BV,BN,BF,jF,jD,jE,↓reduceIte,jB,jA,jC,enX,enP]
 refine (AWE G xs m 165 [] VT h (by omega) fun x _=>AY3 G x h).use ?_
 simp -implicitDefEqProofs only [BK,A7,CU,AZ,BA,AC,AQ,AO,BD,AX,AL,AA,AY,BB,I5,AB,FO,↓reduceIte,jA,jC]
 exact ⟨trivial,trivial⟩
theorem AJ5 (p:Pr) (hl:p.vars.length≤1048576) (hd:p.dists.length≤1048576) (hw : ∀ d∈p.dists,d.ws.length≤1048576) (h:Hp):PCall (En G) 61 [.agg (D8 p)] h (.int .i64 (NC p.vars p.dists)):=by
 refine ACalls.pure0 rfl ?_
 refine acN Tryz.func61 rfl ?_
 show awp _ _ _ _ _ (EE _ [.tmp 2] _)
 have ge:=C9 h (ABlk.live 5 [D8 p])
 have hxx:ext h (h ++ [ABlk.live 5 [D8 p]]):=(ext.rfl' h).app _
 simp -implicitDefEqProofs only [BC,A8,A7,AZ,BA,AC,AQ,AO,BD,AX,AL,AA,AY,AU,BG,BB,FN,BP,BI,BZ,AB,BF,↓reduceIte,jB,jG,jA,jC,enP,AB5,VS]
 generalize h ++ [ABlk.live 5 [D8 p]]=H1 at ge hxx ⊢
 generalize h.length=eb at ge ⊢
 have l3:DL Tryz.prog H1 24 (.ptr eb 0 3)=some (.sl p.dm 2 (p.dists.map IU)):=by rw [DC ARQ ge (row:=D8 p) rfl]; rfl
 simp -implicitDefEqProofs only [CB,A7,AZ,BA,AC,AQ,AO,BD,AX,AL,AA,AY,AU,BG,BH,E5,AB,↓reduceIte,jA,jC,enP,APM,l3,jM]
 refine D7 (fun n F H => ∃ i,n+i=p.dists.length∧(∀ (j:Nat),j < i→dsI p.vars p.dists j=0)∧F 1 = .ptr eb 0 0∧F 6 = .sl p.dm 2 (p.dists.map IU)∧F 7 = .int .i64 (p.dists.length:Nat)∧F 8 = .int .i64 (i:Nat)∧H[eb]? = some (.live 5 [D8 p])∧ext h H) p.dists.length ⟨0,by simp,fun j hj=>absurd hj (by omega),by simp -implicitDefEqProofs only [AA,↓reduceIte,jB],by simp -implicitDefEqProofs only [AA,↓reduceIte,jB],by simp -implicitDefEqProofs only [AA,↓reduceIte,jB],by simp -implicitDefEqProofs only [AA,↓reduceIte]; rfl,ge,hxx⟩ ?_
 clear ge hxx l3
 rintro n F H ⟨i,hi,hb,f1,f6,f7,f8,ge,hxx⟩
 simp -implicitDefEqProofs only [BC,A8,BJ,A7,AZ,BA,AC,AQ,AO,BD,AX,AL,AA,AY,BU,AB,DF,↓reduceIte,jA,jC,enP,f7,f8]
 refine CV (fun hc => ?_) (fun hc => ?_)
 ·have hi':i < p.dists.length:=by simpa using hc
  have hwi:=hw _ (jQ hi')
  have hbad:=ACE hi' hb
  have hat:=ACD (l:=p.vars) hi'
  have ge1:(H ++ [ABlk.live 2 [IU p.dists[i]]])[eb]? = _:=CX ge
  have hx1:ext h (H ++ [ABlk.live 2 [IU p.dists[i]]]):=hxx.app _
  have gE:=C9 H (ABlk.live 2 [IU p.dists[i]])
  simp -implicitDefEqProofs only [BC,CB,A8,BR,A7,AZ,BA,AC,AQ,AO,BD,AX,AL,DZ,AA,AY,BH,BB,EZ,BP,CZ,CQ,BZ,AB,CE,↓reduceIte,jB,jA,jC,enP,ABW,jJ,f6,f8,EF hi',EO ARO AGO UR hi',AXI,AVS]
  generalize H ++ [ABlk.live 2 [IU p.dists[i]]]=H1 at ge1 hx1 gE ⊢
  have lp:DL Tryz.prog H1 27 (.ptr eb 0 0)=some (.agg (D8 p)):=by rw [HY WX VL ge1 (row:=D8 p) rfl (by rw [GZ]; exact jL 5)]; rfl
  have l3:DL Tryz.prog H1 24 (.ptr eb 0 3)=some (.sl p.dm 2 (p.dists.map IU)):=by rw [DC ARQ ge1 (row:=D8 p) rfl]; rfl
  have d0:DL Tryz.prog H1 3 (.ptr H.length 0 0)=some (.int .i64 p.dists[i].var):=by rw [DC ag3 gE (row:=IU p.dists[i]) rfl]; rfl
  have d1:DL Tryz.prog H1 50 (.ptr H.length 0 1)=some (.sl p.dists[i].wm 4 (p.dists[i].ws.map IG)):=by rw [DC AUF gE (row:=IU p.dists[i]) rfl]; rfl
  obtain ⟨m',ht⟩:=A0P (h:=H1) (m:=p.dm) (Nat.le_of_lt hi')
  simp -implicitDefEqProofs only [AZ,AC,AQ,AO,BD,AX,AL,AA,AY,BO,BP,BI,BV,BN,AB,jF,jD,jE,↓reduceIte,jB,jI,jA,jC,enP,UO,f1,lp,d0]
  refine (UE G p _ hl _).use ?_
  cases b1:NI p.vars p.dists[i].var
  ·have he:dsE p.vars (p.dists.take i) p.dists[i]=1:=by unfold dsE; rw [b1]; rfl
   simp -implicitDefEqProofs only [BC,A8,BK,BJ,A7,CJ,D5,FV,CU,DR,AZ,BA,AC,AQ,AO,BD,AX,AL,AA,AY,AU,BG,BB,I5,AB,FO,↓reduceIte,jA,jC]
   exact ⟨by rw [hbad (by rw [he]; decide),he],hx1⟩
  simp -implicitDefEqProofs only [Option.map_some,Option.map_none,BC,A8,BJ,A7,DX,AZ,BA,AC,AQ,AO,BD,AX,AL,AA,AY,BO,BH,BB,BP,I5,JF,NK,BI,BV,BN,AB,FO,jF,jD,jE,↓reduceIte,jB,jG,jA,jW,jC,enP,AB5,f1,l3,ht]
  refine (AP4 G (p.dists.take i) m' 115 [.ptr H.length 0 0] (fun x=>x.var == p.dists[i].var) H1 (by rw [zV]; omega) fun x _=>AY5 G x p.dists[i] _ _ gE).use ?_
  cases b2:(p.dists.take i).any fun x=>x.var == p.dists[i].var
  case true =>
   have he:dsE p.vars (p.dists.take i) p.dists[i]=8:=by unfold dsE; rw [b1,b2]; rfl
   simp -implicitDefEqProofs only [BC,A8,BK,BJ,A7,CJ,D5,FV,CU,DR,AZ,BA,AC,AQ,AO,BD,AX,AL,AA,AY,AU,BG,BB,↓reduceIte,jA,jC]
   exact ⟨by rw [hbad (by rw [he]; decide),he],hx1⟩
  simp -implicitDefEqProofs only [BC,A8,BJ,A7,DX,AZ,BA,AC,AQ,AO,BD,AX,AL,AA,AY,AU,BG,BB,BP,BU,BI,E5,AB,EY,↓reduceIte,jB,jG,jA,jC,enP,AM2,WO,d1,jM]
  refine CV (fun b3 => ?_) (fun b3 => ?_)
  ·have he:dsE p.vars (p.dists.take i) p.dists[i]=2:=by unfold dsE; rw [b1,b2,if_pos rfl,if_neg (by decide),if_pos (by simp at b3; omega)]
   simp -implicitDefEqProofs only [BC,A8,BK,A7,CJ,D5,FV,CU,AZ,BA,AC,AQ,AO,BD,AX,AL,AA,AU,BG,BB,↓reduceIte,jA,jC]
   exact ⟨by rw [hbad (by rw [he]; decide),he],hx1⟩
  simp -implicitDefEqProofs only [BC,A8,AZ,AC,AQ,AO,BD,AX,AL,AA,AY,BO,BP,BI,BV,BN,AB,jF,jD,jE,↓reduceIte,jB,jG,jA,jC,enP,WO,d1]
  refine (AET G p.dists[i].ws p.dists[i].wm hwi _).use ?_
  cases b4:p.dists[i].ws.any VT
  case true =>
   have he:dsE p.vars (p.dists.take i) p.dists[i]=1:=by unfold dsE; rw [b1,b2,if_pos rfl,if_neg (by decide),if_neg (by simp at b3; omega),b4]; rfl
   simp -implicitDefEqProofs only [BC,A8,BK,BJ,A7,CJ,D5,FV,CU,DR,AZ,BA,AC,AQ,AO,BD,AX,AL,AA,AY,AU,BG,BB,I5,AB,FO,↓reduceIte,jA,jW,jC]
   exact ⟨by rw [hbad (by rw [he]; decide),he],hx1⟩
  have he:dsE p.vars (p.dists.take i) p.dists[i]=0:=by unfold dsE; rw [b1,b2,if_pos rfl,if_neg (by decide),if_neg (by simp at b3; omega),b4]; rfl
  simp -implicitDefEqProofs only [A8,BR,BJ,A7,EK,FI,DX,AZ,BA,AC,AQ,AO,BD,AX,AL,AA,AY,AU,BG,BH,BB,BU,I5,AB,DY,FO,↓reduceIte,jB,jA,jW,jC,enP,f8,wrap_succ (show i < 9223372036854775807 by omega)]
  refine ⟨n - 1,by omega,i+1,by omega,fun j hj => ?_,by trivial,by trivial,by trivial,rfl,ge1,hx1⟩
  rcases jT j i with h1 | h1
  ·exact hb j h1
  ·obtain rfl:j=i:=by omega
   rw [hat,he]
 ·have hi' : ¬ i < p.dists.length:=by simpa using hc
  simp -implicitDefEqProofs only [BC,A8,BK,D6,A7,EU,FT,FX,CU,AZ,BA,AC,AQ,AO,BD,AX,AL,AA,AU,BG,BB,↓reduceIte,jA,jC]
  exact ⟨by rw [ZW fun j hj=>hb j (by omega)],hxx⟩
end
section
variable (G:Nat→AV)
set_option maxHeartbeats 1000000 in
theorem ANK (l:List Vr) (m:SM) (ds:List Ds) (s:SM) (hl:l.length≤1048576) (hd:ds.length≤1048576) (hw : ∀ d∈ds,d.ws.length≤1048576) (h:Hp):PCall (En G) 45 [.sl m 4 (l.map FM),.sl s 2 (ds.map IU)] h (.int .i64 (NC l ds)):=by
 refine ACalls.pure0 rfl ?_
 refine acN Tryz.func45 rfl ?_
 show awp _ _ _ _ _ (EE _ [.tmp 4] _)
 simp -implicitDefEqProofs only [BC,CB,A8,A7,AZ,BA,AC,AQ,AO,BD,AX,AL,AU,BG,BB,jA,jC,enP]
 refine D7 (fun n F H => ∃ i,n+i=ds.length∧(∀ (j:Nat),j < i→dsI l ds j=0)∧F 0 = .sl m 4 (l.map FM)∧F 1 = .sl s 2 (ds.map IU)∧F 5 = .int .i64 (i:Nat)∧ext h H) ds.length ⟨0,by simp,fun j hj=>absurd hj (by omega),by simp -implicitDefEqProofs only [AA,BF,↓reduceIte,jB],by simp -implicitDefEqProofs only [AA,BF,BQ,↓reduceIte,jB],by simp -implicitDefEqProofs only [AA,↓reduceIte]; rfl,ext.rfl' h⟩ ?_
 rintro n F H ⟨i,hi,hb,f0,f1,f5,hxx⟩
 simp -implicitDefEqProofs only [BC,A8,BJ,A7,AZ,BA,AC,AQ,AO,BD,AX,AL,AA,AY,BH,BU,E5,AB,DF,↓reduceIte,jB,jA,jC,enP,APM,f1,f5,jM]
 refine CV (fun hc => ?_) (fun hc => ?_)
 ·have hi':i < ds.length:=by simpa using hc
  have hwi:=hw _ (jQ hi')
  have hbad:=ACE hi' hb
  have hat:=ACD (l:=l) hi'
  have d0 : ∀ {k:Nat} (hk:k < ds.length) (H:Hp),DL Tryz.prog H 3 (.fptr 2 (ds.map IU) k 0)=some (.int .i64 ds[k].var):=fun hk H=>by rw [GG ag3 hk]; rfl
  have d1 : ∀ H:Hp,DL Tryz.prog H 50 (.fptr 2 (ds.map IU) i 1)=some (.sl ds[i].wm 4 (ds[i].ws.map IG)):=fun H=>by rw [GG AUF hi']; rfl
  simp -implicitDefEqProofs only [BC,CB,A8,BR,A7,AZ,BL,BX,CG,AC,AQ,AO,BD,AX,AL,AA,AY,AU,BG,BH,BP,BU,BI,CQ,AB,DF,↓reduceIte,jB,jI,jA,jC,enP,ABW,UO,f0,f1,f5,EF hi',d0 hi']
  refine QP (fun F' H'=>F' 0 = .sl m 4 (l.map FM)∧F' 1 = .sl s 2 (ds.map IU)∧F' 5 = .int .i64 (i:Nat)∧F' 42 = .bool (!NI l ds[i].var)∧H'=H) ?_ ?_
  ·cases b1:decide (ds[i].var < 0)
   case true =>
    simp -implicitDefEqProofs only [AZ,BA,BL,BX,CG,FY,AC,AQ,AO,BD,AX,AL,AA,EG,AY,AU,BM,BH,CO,DK,↓reduceIte,jB,jA,jC,b1,f0,f1,f5]
    refine ⟨trivial,trivial,trivial,?_,trivial⟩
    have:NI l ds[i].var=false:=by unfold NI; rw [decide_eq_false (by simp at b1; omega)]; rfl
    rw [this]; rfl
   have h0:0≤ds[i].var:=by simpa using b1
   obtain ⟨k,hk⟩:=zI h0
   rw [hk] at b1 ⊢
   have d0':=d0 hi' H
   rw [hk] at d0'
   cases b2:decide (((k:Nat):Int)≥((l.length:Nat):Int))
   case true =>
    simp -implicitDefEqProofs only [AZ,BA,BL,BX,CG,EM,FY,AC,AQ,AO,BD,AX,AL,AA,EG,AY,AU,BM,BH,CO,DK,DU,BP,BU,BI,CQ,E5,AB,FQ,↓reduceIte,jB,jI,jA,jC,enP,QR,ABW,UO,b1,b2,f0,f1,f5,EF hi',d0',jM]
    refine ⟨trivial,trivial,trivial,?_,trivial⟩
    have:NI l ((k:Nat):Int)=false:=by unfold NI; rw [decide_eq_false (p:=((k:Nat):Int) < (l.length:Int)) (by simp at b2; omega)]; simp
    rw [this]; rfl
   have hk':k < l.length:=by simp at b2; omega
   have l2:DL Tryz.prog H 3 (.fptr 4 (l.map FM) k 2)=some (.int .i64 l[k].mode):=by rw [GG ag3 hk']; rfl
   simp -implicitDefEqProofs only [AZ,BA,BL,BX,CG,EM,AC,AQ,AO,BD,AX,AL,AA,AY,AU,BG,BM,BH,CO,DU,BP,BU,BI,CQ,E5,AB,DJ,FQ,↓reduceIte,jB,jI,jG,jA,jC,enP,TU,QR,ABW,UO,MZ,b1,b2,f0,f1,f5,EF hi',d0',jM,EF hk',l2]
   exact ⟨trivial,trivial,trivial,by rw [U5 hk',Bool.not_not],trivial⟩
  clear f0 f1 f5
  rintro F H0 ⟨f0,f1,f5,f42,rfl⟩
  simp -implicitDefEqProofs only [BJ,A7,AY,f42]
  cases b1:NI l ds[i].var
  ·have he:dsE l (ds.take i) ds[i]=1:=by unfold dsE; rw [b1]; rfl
   simp -implicitDefEqProofs only [BC,A8,BK,A7,CJ,D5,FV,CU,DR,AZ,BA,AC,AQ,AO,BD,AX,AL,AA,AU,BG,BB,↓reduceIte,jA,jC]
   exact ⟨by rw [hbad (by rw [he]; decide),he],hxx⟩
  simp -implicitDefEqProofs only [BC,CB,A8,BR,A7,DX,AZ,BA,AC,AQ,AO,BD,AX,AL,AU,BG,BB,jA,jW,jC]
  refine IY 2 (fun F' H'=>F' 0 = .sl m 4 (l.map FM)∧F' 1 = .sl s 2 (ds.map IU)∧F' 5 = .int .i64 (i:Nat)∧H'=H0∧((ds.take i).any fun x=>x.var == ds[i].var)=false) (fun F' H'=>F' 4 = .int .i64 (NC l ds)∧H'=H0) ?_ ?_ ?_
  ·refine D7 (fun n' F' H' => ∃ k,n'+k=i∧(∀ (j:Nat) (hj:j < k) (hl:j < ds.length),(ds[j].var == ds[i].var)=false)∧F' 0 = .sl m 4 (l.map FM)∧F' 1 = .sl s 2 (ds.map IU)∧F' 5 = .int .i64 (i:Nat)∧F' 6 = .int .i64 (k:Nat)∧H'=H0) i ⟨0,by simp,fun j hj=>absurd hj (by omega),by simp -implicitDefEqProofs only [AA,↓reduceIte,jB,f0],by simp -implicitDefEqProofs only [AA,↓reduceIte,jB,f1],by simp -implicitDefEqProofs only [AA,↓reduceIte,jB,f5],by simp -implicitDefEqProofs only [AA,↓reduceIte]; rfl,rfl⟩ ?_
   clear f0 f1 f5 f42
   rintro n' F H ⟨k,hk,hbk,f0,f1,f5,f6,rfl⟩
   simp -implicitDefEqProofs only [BC,A8,BJ,A7,AZ,BA,AC,AQ,AO,BD,AX,AL,AA,AY,BH,BU,AB,DF,↓reduceIte,jB,jA,jC,enP,f5,f6]
   refine CV (fun hc => ?_) (fun hc => ?_)
   ·have hk':k < i:=by simpa using hc
    have hk2:k < ds.length:=by omega
    simp -implicitDefEqProofs only [BC,CB,BR,A7]
    refine EX (by kernel_rfl) ?_
    simp -implicitDefEqProofs only [FC,DV,CY,EC,DW,EP,ED,IJ,DN,EQ,BJ,A7,AC,AA,AY,BP,BU,BI,CQ,AB,DJ,↓reduceIte,jB,Nat.reduceAdd,jI,jA,enP,ABW,UO,f1,f5,f6,EF hk2,EF hi',d0 hk2,d0 hi']
    refine CV (fun he => ?_) (fun he => ?_)
    ·have hany:((ds.take i).any fun x=>x.var == ds[i].var)=true:=qZ.2 ⟨ds[k],by
      have:(ds.take i)[k]'(by rw [zV]; omega)=ds[k]:=List.getElem_take
      rw [← this]; exact jQ _,he⟩
     have hz:dsE l (ds.take i) ds[i]=8:=by unfold dsE; rw [b1,hany]; rfl
     simp -implicitDefEqProofs only [BC,A8,BK,A7,CJ,D5,LW,FV,AZ,BA,AC,AQ,AO,BD,AX,AL,AA,AU,BG,BB,↓reduceIte,jA,jC]
     exact ⟨by rw [hbad (by rw [hz]; decide),hz],trivial⟩
    ·simp -implicitDefEqProofs only [A8,BR,A7,EK,FI,AZ,BA,AC,AQ,AO,BD,AX,AL,AA,AY,AU,BG,BH,BB,BU,AB,DY,↓reduceIte,jB,jA,jC,enP,f6,wrap_succ (show k < 9223372036854775807 by omega)]
     refine ⟨n' - 1,by omega,k+1,by omega,fun j hj hl => ?_,by trivial,by trivial,by trivial,rfl,trivial⟩
     rcases jT j k with h1 | h1
     ·exact hbk j h1 hl
     ·obtain rfl:j=k:=by omega
      exact he
   ·have hk' : ¬ k < i:=by simpa using hc
    simp -implicitDefEqProofs only [D6,EU,MX,FX,AA,↓reduceIte,jB]
    refine ⟨f0,f1,f5,trivial,?_⟩
    rw [List.any_eq_false]
    intro x hx
    obtain ⟨j,hj,rfl⟩:=qB hx
    rw [zV] at hj
    rw [List.getElem_take,hbk j (by omega) (by omega)]; decide
  ·rintro F' H' ⟨g0,g1,g5,rfl,b2⟩
   simp -implicitDefEqProofs only [BC,A8,BJ,A7,FT,AZ,BA,AC,AQ,AO,BD,AX,AL,AA,AY,AU,BG,BH,BP,BU,BI,CQ,E5,AB,EY,↓reduceIte,jB,jG,jA,jC,enP,ABW,AM2,WO,g1,g5,EF hi',d1,jM]
   refine CV (fun b3 => ?_) (fun b3 => ?_)
   ·have he:dsE l (ds.take i) ds[i]=2:=by unfold dsE; rw [b1,b2,if_pos rfl,if_neg (by decide),if_pos (by simp at b3; omega)]
    simp -implicitDefEqProofs only [BC,A8,BK,A7,CJ,D5,FV,CU,AZ,BA,AC,AQ,AO,BD,AX,AL,AA,AU,BG,BB,↓reduceIte,jA,jC]
    exact ⟨by rw [hbad (by rw [he]; decide),he],hxx⟩
   simp -implicitDefEqProofs only [BC,CB,A8,BR,A7,AZ,BA,AC,AQ,AO,BD,AX,AL,AU,BG,BB,jA,jC]
   refine IY 4 (fun F2 H2=>F2 0 = .sl m 4 (l.map FM)∧F2 1 = .sl s 2 (ds.map IU)∧F2 5 = .int .i64 (i:Nat)∧ext h H2∧ds[i].ws.any VT=false) (fun F2 H2=>F2 4 = .int .i64 (NC l ds)∧ext h H2) ?_ ?_ ?_
   ·refine D7 (fun n' F2 H2 => ∃ k,n'+k=ds[i].ws.length∧(∀ (j:Nat) (hj:j < k) (hl:j < ds[i].ws.length),VT ds[i].ws[j]=false)∧F2 0 = .sl m 4 (l.map FM)∧F2 1 = .sl s 2 (ds.map IU)∧F2 5 = .int .i64 (i:Nat)∧F2 7 = .int .i64 (k:Nat)∧ext h H2) ds[i].ws.length ⟨0,by simp,fun j hj=>absurd hj (by omega),by simp -implicitDefEqProofs only [AA,↓reduceIte,jB,g0],by simp -implicitDefEqProofs only [AA,↓reduceIte,jB,g1],by simp -implicitDefEqProofs only [AA,↓reduceIte,jB,g5],by simp -implicitDefEqProofs only [AA,↓reduceIte]; rfl,hxx⟩ ?_
    clear f0 f1 f5 f42 g0 g1 g5 hxx
    rintro n' F H ⟨k,hk,hbk,f0,f1,f5,f7,hxx⟩
    simp -implicitDefEqProofs only [BC,A8,BJ,A7,AZ,BA,AC,AQ,AO,BD,AX,AL,AA,AY,BH,BP,BU,BI,CQ,E5,AB,DF,↓reduceIte,jB,jG,jA,jC,enP,ABW,AM2,WO,f1,f5,f7,EF hi',d1,jM]
    refine CV (fun hc => ?_) (fun hc => ?_)
    ·have hk':k < ds[i].ws.length:=by simpa using hc
     have hx1:ext h (H ++ [ABlk.live 4 [IG ds[i].ws[k]]]):=hxx.app _
     have gE:=C9 H (ABlk.live 4 [IG ds[i].ws[k]])
     simp -implicitDefEqProofs only [BC,CB,A8,BR,A7,AZ,BA,AC,AQ,AO,BD,AX,AL,DZ,AA,AY,BH,EZ,BP,CZ,BI,CQ,BZ,AB,CE,↓reduceIte,jB,jI,jG,jA,jC,enP,ABW,ATC,WO,PO,jJ,f1,f5,f7,EF hi',d1,EF hk',EO AUE AMH SA hk',AXG,AVQ]
     generalize H ++ [ABlk.live 4 [IG ds[i].ws[k]]]=H1 at hx1 gE ⊢
     generalize hx:ds[i].ws[k]=x at gE
     have l0:DL Tryz.prog H1 3 (.ptr H.length 0 0)=some (.int .i64 x.lo):=by rw [DC ag3 gE (row:=IG x) rfl]; rfl
     have l1:DL Tryz.prog H1 3 (.ptr H.length 0 1)=some (.int .i64 x.hi):=by rw [DC ag3 gE (row:=IG x) rfl]; rfl
     have l2:DL Tryz.prog H1 3 (.ptr H.length 0 2)=some (.int .i64 x.w):=by rw [DC ag3 gE (row:=IG x) rfl]; rfl
     simp -implicitDefEqProofs only [AZ,BL,BX,CG,AC,AQ,AO,BD,AX,AL,AA,AY,AU,BG,BH,BU,AB,DF,↓reduceIte,jA,jC,enP,l0]
     refine QP (fun F' H'=>F' 0 = .sl m 4 (l.map FM)∧F' 1 = .sl s 2 (ds.map IU)∧F' 5 = .int .i64 (i:Nat)∧F' 7 = .int .i64 (k:Nat)∧F' 108 = .bool (VT x)∧H'=H1) ?_ ?_
     ·unfold VT
      cases b1:decide (x.lo < 0)
      case true =>
       simp -implicitDefEqProofs only [Bool.true_or,AZ,BA,BL,BX,CG,FY,AC,AQ,AO,BD,AX,AL,AA,EG,AY,AU,BM,BH,CO,DK,↓reduceIte,jB,jA,jC,b1,f0,f1,f5,f7]
       exact ⟨trivial,trivial,trivial,trivial,trivial,trivial⟩
      cases b2:decide (x.lo > x.hi)
      case true =>
       simp -implicitDefEqProofs only [qK,Bool.true_or,AZ,BA,BL,BX,CG,EM,FY,AC,AQ,AO,BD,AX,AL,AA,EG,AY,AU,BM,BH,CO,DK,DU,BP,BU,BI,AB,EY,↓reduceIte,jB,jI,jG,jA,jC,enP,PO,RJ,l0,l1,b1,b2,f0,f1,f5,f7]
       exact ⟨trivial,trivial,trivial,trivial,trivial,trivial⟩
      cases b3:decide (x.hi > 65535)
      case true =>
       simp -implicitDefEqProofs only [jO,qK,Bool.true_or,AZ,BA,BL,BX,CG,EM,FY,AC,AQ,AO,BD,AX,AL,AA,EG,AY,AU,BG,BM,BH,CO,DK,DU,BP,BU,BI,AB,EY,↓reduceIte,jB,jI,jG,jA,jC,enP,PO,RJ,l0,l1,b1,b2,b3,f0,f1,f5,f7]
       exact ⟨trivial,trivial,trivial,trivial,trivial,trivial⟩
      cases b4:decide (x.w < 0)
      case true =>
       simp -implicitDefEqProofs only [jO,qK,Bool.true_or,AZ,BA,BL,BX,CG,EM,FY,AC,AQ,AO,BD,AX,AL,AA,EG,AY,AU,BG,BM,BH,CO,DK,DU,BP,BU,BI,AB,DF,EY,↓reduceIte,jB,jI,jG,jA,jC,enP,PO,RJ,YX,l0,l1,l2,b1,b2,b3,b4,f0,f1,f5,f7]
       exact ⟨trivial,trivial,trivial,trivial,trivial,trivial⟩
      cases b5:decide (x.w > 1000)
      all_goals
       simp -implicitDefEqProofs only [jO,qK,AZ,BA,BL,BX,CG,EM,AC,AQ,AO,BD,AX,AL,AA,AY,AU,BG,BM,BH,CO,DU,BP,BU,BI,AB,DF,EY,↓reduceIte,jB,jI,jG,jA,jC,enP,PO,RJ,YX,l0,l1,l2,b1,b2,b3,b4,b5,f0,f1,f5,f7]
       exact ⟨trivial,trivial,trivial,trivial,trivial,trivial⟩
     clear f0 f1 f5 f7
     rintro F H2 ⟨f0,f1,f5,f7,f108,rfl⟩
     simp -implicitDefEqProofs only [BJ,A7,AY,f108]
     refine CV (fun b4 => ?_) (fun b4 => ?_)
     ·have hany:ds[i].ws.any VT=true:=qZ.2 ⟨x,by rw [← hx]; exact jQ _,b4⟩
      have he:dsE l (ds.take i) ds[i]=1:=by unfold dsE; rw [b1,b2,if_pos rfl,if_neg (by decide),if_neg (by simp at b3; omega),hany]; rfl
      simp -implicitDefEqProofs only [BC,A8,BK,A7,CJ,D5,LW,FV,AZ,BA,AC,AQ,AO,BD,AX,AL,AA,AU,BG,BB,↓reduceIte,jA,jC]
      exact ⟨by rw [hbad (by rw [he]; decide),he],hx1⟩
     ·simp -implicitDefEqProofs only [A8,BR,A7,EK,FI,AZ,BA,AC,AQ,AO,BD,AX,AL,AA,AY,AU,BG,BH,BB,BU,AB,DY,↓reduceIte,jB,jA,jC,enP,f7,wrap_succ (show k < 9223372036854775807 by omega)]
      refine ⟨n' - 1,by omega,k+1,by omega,fun j hj hl => ?_,by trivial,by trivial,by trivial,rfl,hx1⟩
      rcases jT j k with h1 | h1
      ·exact hbk j h1 hl
      ·obtain rfl:j=k:=by omega
       rw [hx]; exact b4
    ·have hk' : ¬ k < ds[i].ws.length:=by simpa using hc
     simp -implicitDefEqProofs only [D6,EU,MX,FX,AA,↓reduceIte,jB]
     refine ⟨f0,f1,f5,hxx,?_⟩
     rw [List.any_eq_false]
     intro x hx
     obtain ⟨j,hj,rfl⟩:=qB hx
     rw [hbk j (by omega) hj]; decide
   ·rintro F2 H2 ⟨g0,g1,g5,hx2,b4⟩
    have he:dsE l (ds.take i) ds[i]=0:=by unfold dsE; rw [b1,b2,if_pos rfl,if_neg (by decide),if_neg (by simp at b3; omega),b4]; rfl
    simp -implicitDefEqProofs only [A8,A7,EK,FT,FI,AZ,BA,AC,AQ,AO,BD,AX,AL,AA,AY,AU,BG,BH,BB,BU,AB,DY,↓reduceIte,jB,jA,jC,enP,g5,wrap_succ (show i < 9223372036854775807 by omega)]
    refine ⟨n - 1,by omega,i+1,by omega,fun j hj => ?_,by first | exact g0 | trivial,by first | exact g1 | trivial,rfl,hx2⟩
    rcases jT j i with h1 | h1
    ·exact hb j h1
    ·obtain rfl:j=i:=by omega
     rw [hat,he]
   ·rintro F2 H2 ⟨g4,hx2⟩
    simp -implicitDefEqProofs only [CJ,D5,FV,CU,g4]
    exact ⟨trivial,hx2⟩
  ·rintro F' H' ⟨g4,rfl⟩
   simp -implicitDefEqProofs only [CJ,D5,FV,CU,g4]
   exact ⟨trivial,hxx⟩
 ·have hi' : ¬ i < ds.length:=by simpa using hc
  simp -implicitDefEqProofs only [BC,A8,BK,D6,A7,EU,FT,FX,CU,AZ,BA,AC,AQ,AO,BD,AX,AL,AA,AU,BG,BB,↓reduceIte,jA,jC]
  exact ⟨by rw [ZW fun j hj=>hb j (by omega)],hxx⟩
end
def flG (gs:List Gp):List Int:=gs.flatMap Gp.l
theorem AHP {gs:List Gp} {i:Nat} (hi:i < gs.length):flG (gs.take (i+1))=flG (gs.take i) ++ gs[i].l:=by
 unfold flG; rw [zT hi,List.flatMap_append]; simp
theorem AD0 {gs:List Gp} {i j:Nat} (hi:i < gs.length) (hj:j < gs[i].l.length):flG gs=(flG (gs.take i) ++ gs[i].l.take j) ++ gs[i].l[j] :: (gs[i].l.drop (j+1) ++ flG (gs.drop (i+1))):=by
 have h1:gs=gs.take i ++ gs[i] :: gs.drop (i+1):=by rw [← qC hi,wB]
 have h2:flG gs=flG (gs.take i) ++ (gs[i].l ++ flG (gs.drop (i+1))):=by
  unfold flG
  conv=>lhs; rw [h1]
  rw [List.flatMap_append,List.flatMap_cons]
 have h3:gs[i].l=gs[i].l.take j ++ gs[i].l[j] :: gs[i].l.drop (j+1):=by rw [← qC hj,wB]
 have h4:gs[i].l ++ flG (gs.drop (i+1))=(gs[i].l.take j ++ gs[i].l[j] :: gs[i].l.drop (j+1)) ++ flG (gs.drop (i+1)):=by rw [← h3]
 rw [h2,h4]
 simp only [zY,zU]
def gOK (l:List Vr) (gs:List Gp):Bool:=decide ((∀ g∈gs,g.l≠[])∧(∀ x∈flG gs,0≤x∧x < l.length)∧∀ i:Fin l.length,(flG gs).count ((i.1:Nat):Int)=if l[i.1].mode=0 then 0 else 1)
theorem ALK {l:List Vr} {gs:List Gp} {g:Gp} (hg:g∈gs) (h:g.l = []):gOK l gs=false:=decide_eq_false fun ⟨h1,_⟩=>h1 g hg h
theorem AFC {l:List Vr} {gs:List Gp} {x:Int} (hx:x∈flG gs) (h : ¬ (0≤x∧x < l.length)):gOK l gs=false:=decide_eq_false fun ⟨_,h1,_⟩=>h (h1 x hx)
theorem XY {l:List Vr} {gs:List Gp} {i:Nat} (hi:i < l.length) (h:(flG gs).count ((i:Nat):Int)≠if l[i].mode=0 then 0 else 1):gOK l gs=false:=decide_eq_false fun ⟨_,_,h1⟩=>h (h1 ⟨i,hi⟩)
theorem U4 {l:List Vr} {x:Int} (h:NI l x=true) : ∃ k,∃ hk:k < l.length,x=(k:Nat)∧¬ l[k].mode=0:=by
 unfold NI at h
 simp only [Bool.and_eq_true,decide_eq_true_eq] at h
 obtain ⟨h0,h1,h2⟩:=h
 have hk:x.toNat < l.length:=by omega
 rw [jU hk] at h2
 exact ⟨x.toNat,hk,by omega,by simpa using h2⟩
theorem ATM {l:List Vr} {gs:List Gp} {x:Int} (hx:x∈flG gs) (h:NI l x=false):gOK l gs=false:=by
 by_cases hr:0≤x∧x < l.length
 ·obtain ⟨k,rfl⟩:=zI hr.1
  have hk:k < l.length:=by omega
  rw [U5 hk] at h
  refine XY hk ?_
  rw [if_pos (by simpa using h)]
  have:=List.count_pos_iff.2 hx
  omega
 ·exact AFC hx hr
def bR (done:List Int) (n:Nat):List (List AV):=(List.range n).map fun i => [AV.bool (decide (((i:Nat):Int)∈done))]
def cR (done:List Int) (n:Nat):List (List AV):=(List.range n).map fun i => [AV.int .i64 ((done.count ((i:Nat):Int):Nat):Int)]
theorem ZB (done:List Int) (n:Nat):(bR done n).length=n:=by simp [bR]
theorem Y7 (done:List Int) (n:Nat):(cR done n).length=n:=by simp [cR]
theorem WV (done:List Int) {n i:Nat} (hi:i < n):(bR done n)[i]? = some [AV.bool (decide (((i:Nat):Int)∈done))]:=by simp [bR,hi]
theorem WR (done:List Int) {n i:Nat} (hi:i < n):(cR done n)[i]? = some [AV.int .i64 ((done.count ((i:Nat):Int):Nat):Int)]:=by simp [cR,hi]
theorem AXC (done:List Int) {n k:Nat} (hk:k < n):(bR done n).set k [.bool true]=bR (done ++ [(k:Int)]) n:=by
 apply List.ext_getElem?
 intro i
 rw [jY]
 by_cases hi:i < n
 ·by_cases e:k=i
  ·subst e
   rw [if_pos rfl,if_pos (by rw [ZB]; exact hi),WV _ hi]
   simp
  ·rw [if_neg e,WV _ hi,WV _ hi]
   congr 3
   simp
   rintro h; omega
 ·rw [zF (by rw [ZB]; omega)]
  split
  ·rw [if_neg (by rw [ZB]; omega),zF (by rw [ZB]; omega)]
  ·rw [zF (by rw [ZB]; omega)]
theorem AWZ (done:List Int) {n k:Nat} (hk:k < n):(cR done n).set k [.int .i64 ((done.count ((k:Nat):Int)+1:Nat):Int)]=cR (done ++ [(k:Int)]) n:=by
 apply List.ext_getElem?
 intro i
 rw [jY]
 by_cases hi:i < n
 ·by_cases e:k=i
  ·subst e
   rw [if_pos rfl,if_pos (by rw [Y7]; exact hi),WR _ hi,List.count_append]
   simp
  ·rw [if_neg e,WR _ hi,WR _ hi,List.count_append]
   have:((k:Nat):Int)≠((i:Nat):Int):=by omega
   simp [this]
 ·rw [zF (by rw [Y7]; omega)]
  split
  ·rw [if_neg (by rw [Y7]; omega),zF (by rw [Y7]; omega)]
  ·rw [zF (by rw [Y7]; omega)]
theorem AYT (h:Hp) (n:Nat) (hn:n≤1048576):I9 Tryz.prog true h 138 (.int .i64 (n:Int)) (.int .i64 (n:Int))=some (.own h.length 0 n,h ++ [.live 1 (bR [] n)]):=by
 have hz:MR Tryz.prog 4=some [.bool false]:=by kernel_rfl
 have hr:room n 1:=OZ (by omega) (by omega)
 unfold I9
 simp only [AXX,sz4,AZG,hz,zG]
 rw [if_pos ⟨by omega,zJ _,hr,rfl⟩]
 have:bR [] n=qJ n [.bool false]:=by
  apply List.ext_getElem?
  intro i
  by_cases hi:i < n
  ·rw [WV _ hi,List.getElem?_replicate,if_pos hi]; simp
  ·rw [zF (by rw [ZB]; omega),zF (by simp; omega)]
 rw [this]
 simp
theorem A1D (h:Hp) (n:Nat) (hn:n≤1048576):I9 Tryz.prog true h 45 (.int .i64 (n:Int)) (.int .i64 (n:Int))=some (.own h.length 0 n,h ++ [.live 1 (cR [] n)]):=by
 have hz:MR Tryz.prog 3=some [.int .i64 0]:=by kernel_rfl
 have hr:room n 8:=OZ (by omega) (by omega)
 unfold I9
 simp only [AVM,sz3,AW4,hz,zG]
 rw [if_pos ⟨by omega,zJ _,hr,rfl⟩]
 have:cR [] n=qJ n [.int .i64 0]:=by
  apply List.ext_getElem?
  intro i
  by_cases hi:i < n
  ·rw [WR _ hi,List.getElem?_replicate,if_pos hi]; simp
  ·rw [zF (by rw [Y7]; omega),zF (by simp; omega)]
 rw [this]
 simp
theorem A0Z {h:Hp} {o j:Nat} {rows:List (List AV)} (ho:h[o]? = some (.live 1 rows)) (hj : ∃ v,rows[j]? = some [v]) (b:Bool):F7 Tryz.prog h 4 (.ptr o j 0) (.bool b)=some (h.set o (.live 1 (rows.set j [.bool b]))):=by
 obtain ⟨v,hv⟩:=hj
 rw [JG (cs := [.bool b]) rfl sz4 ho hv (by simp)]; rfl
theorem A0Y {h:Hp} {o j:Nat} {rows:List (List AV)} {x:Int} (ho:h[o]? = some (.live 1 rows)) (hj : ∃ v,rows[j]? = some [v]):F7 Tryz.prog h 3 (.ptr o j 0) (.int .i64 x)=some (h.set o (.live 1 (rows.set j [.int .i64 x]))):=by
 obtain ⟨v,hv⟩:=hj
 rw [JG (cs := [.int .i64 x]) rfl sz3 ho hv (by simp)]; rfl
section
variable (G:Nat→AV)
set_option maxHeartbeats 1000000 in
theorem AJS (l:List Vr) (m:SM) (gs:List Gp) (s:SM) (hl:l.length≤1048576) (hg:gs.length≤1048576) (hw:(flG gs).length≤1048576) (h:Hp):PCall (En G) 46 [.sl m 4 (l.map FM),.sl s 1 (gs.map Q5)] h (.bool (gOK l gs)):=by
 refine ACalls.pure0 rfl ?_
 refine acN Tryz.func46 rfl ?_
 show awp _ _ _ _ _ (EE _ [.tmp 4] _)
 simp -implicitDefEqProofs only [BC,CB,A8,A7,AZ,BA,AC,AQ,AO,BD,AX,AL,AA,AY,AU,BG,BM,BH,BB,QV,E5,BZ,AB,BF,↓reduceIte,jB,jA,jC,enP,QR,jM,A1D h l.length hl]
 refine IY 0 (fun F H=>F 0 = .sl m 4 (l.map FM)∧F 5 = .own h.length 0 l.length∧H=h ++ [ABlk.live 1 (cR (flG gs) l.length)]∧(∀ g∈gs,g.l≠[])∧∀ x∈flG gs,0≤x∧x < l.length) (fun F H=>F 4 = .bool (gOK l gs)∧ext h H) ?_ ?_ ?_
 ·refine D7 (fun n F H => ∃ i,n+i=gs.length∧F 0 = .sl m 4 (l.map FM)∧F 1 = .sl s 1 (gs.map Q5)∧F 5 = .own h.length 0 l.length∧F 6 = .int .i64 (i:Nat)∧H=h ++ [ABlk.live 1 (cR (flG (gs.take i)) l.length)]∧(∀ g∈gs.take i,g.l≠[])∧∀ x∈flG (gs.take i),0≤x∧x < l.length) gs.length ⟨0,by simp,by simp -implicitDefEqProofs only [AA,BF,↓reduceIte,jB],by simp -implicitDefEqProofs only [AA,BF,BQ,↓reduceIte,jB],by simp -implicitDefEqProofs only [AA,↓reduceIte,jB],by simp -implicitDefEqProofs only [AA,↓reduceIte]; rfl,rfl,by simp,by simp [flG]⟩ ?_
  rintro n F H ⟨i,hi,f0,f1,f5,f6,rfl,hne,hin⟩
  simp -implicitDefEqProofs only [BC,A8,BJ,A7,AZ,BA,AC,AQ,AO,BD,AX,AL,AA,AY,BH,BU,E5,AB,DF,↓reduceIte,jB,jA,jC,enP,AYU,f1,f6,jM]
  refine CV (fun hc => ?_) (fun hc => ?_)
  ·have hi':i < gs.length:=by simpa using hc
   have lg : ∀ H:Hp,DL Tryz.prog H 45 (.fptr 1 (gs.map Q5) i 0)=some (.sl gs[i].m 1 (gs[i].l.map qencI)):=fun H=>by rw [GG AXJ hi']; rfl
   simp -implicitDefEqProofs only [BC,CB,A8,BR,BJ,A7,AZ,BA,AC,AQ,AO,BD,AX,AL,AA,AY,AU,BG,BH,BP,BU,CQ,E5,AB,DJ,↓reduceIte,jB,jA,jC,enP,ATD,ABR,f1,f6,EF hi',lg,jM]
   refine CV (fun hz => ?_) (fun hz => ?_)
   ·simp -implicitDefEqProofs only [BC,A8,BK,A7,CJ,D5,LW,FV,AZ,BA,AC,AQ,AO,BD,AX,AL,AA,AU,BM,BB,↓reduceIte,jA,jC]
    exact ⟨by rw [ALK (jQ hi') (qY (by simpa using hz))],_,rfl⟩
   have hnz:gs[i].l≠[]:=by
    intro e; rw [e] at hz; simp at hz
   simp -implicitDefEqProofs only [BC,CB,A8,BR,A7,AZ,BA,AC,AQ,AO,BD,AX,AL,AU,BG,BB,jA,jC]
   refine IY 2 (fun F' H'=>F' 0 = .sl m 4 (l.map FM)∧F' 1 = .sl s 1 (gs.map Q5)∧F' 5 = .own h.length 0 l.length∧F' 6 = .int .i64 (i:Nat)∧H'=h ++ [ABlk.live 1 (cR (flG (gs.take i) ++ gs[i].l) l.length)]∧∀ x∈flG (gs.take i) ++ gs[i].l,0≤x∧x < l.length) (fun F' H'=>F' 4 = .bool (gOK l gs)∧ext h H') ?_ ?_ ?_
   ·refine D7 (fun n' F' H' => ∃ j,n'+j=gs[i].l.length∧F' 0 = .sl m 4 (l.map FM)∧F' 1 = .sl s 1 (gs.map Q5)∧F' 5 = .own h.length 0 l.length∧F' 6 = .int .i64 (i:Nat)∧F' 7 = .int .i64 (j:Nat)∧H'=h ++ [ABlk.live 1 (cR (flG (gs.take i) ++ gs[i].l.take j) l.length)]∧∀ x∈flG (gs.take i) ++ gs[i].l.take j,0≤x∧x < l.length) gs[i].l.length ⟨0,by simp,by simp -implicitDefEqProofs only [AA,↓reduceIte,jB,f0],by simp -implicitDefEqProofs only [AA,↓reduceIte,jB,f1],by simp -implicitDefEqProofs only [AA,↓reduceIte,jB,f5],by simp -implicitDefEqProofs only [AA,↓reduceIte,jB,f6],by simp -implicitDefEqProofs only [AA,↓reduceIte]; rfl,by rw [zM,jE],by rw [zM,jE]; exact hin⟩ ?_
    clear f0 f1 f5 f6
    rintro n' F H ⟨j,hj,f0,f1,f5,f6,f7,rfl,hin2⟩
    simp -implicitDefEqProofs only [BC,A8,BJ,A7,AZ,BA,AC,AQ,AO,BD,AX,AL,AA,AY,BH,BP,BU,CQ,E5,AB,DF,↓reduceIte,jB,jA,jC,enP,ATD,ABR,f1,f6,f7,EF hi',lg,jM]
    refine CV (fun hc => ?_) (fun hc => ?_)
    ·have hj':j < gs[i].l.length:=by simpa using hc
     have hsp:=AD0 hi' hj'
     have hmem:gs[i].l[j]∈flG gs:=by rw [hsp]; simp
     have l3 : ∀ H:Hp,DL Tryz.prog H 3 (.fptr 1 (gs[i].l.map qencI) j 0)=some (.int .i64 gs[i].l[j]):=fun H=>by rw [GG ag3 hj']; rfl
     simp -implicitDefEqProofs only [BC,CB,A8,BR,A7,AZ,BA,BL,BX,CG,AC,AQ,AO,BD,AX,AL,AA,AY,AU,BG,BH,BB,BP,BU,CQ,AB,DF,↓reduceIte,jB,jA,jC,enP,ATD,RH,f1,f6,f7,EF hi',lg,EF hj',l3]
     cases b1:decide (gs[i].l[j] < 0)
     case true =>
      simp -implicitDefEqProofs only [BC,A8,BK,BJ,A7,CJ,D5,LW,FV,DR,AZ,BA,BL,BX,CG,FY,AC,AQ,AO,BD,AX,AL,AA,EG,AY,AU,BM,BB,CO,DK,↓reduceIte,jB,jA,jC,b1]
      exact ⟨by rw [AFC hmem (by simp at b1; omega)],_,rfl⟩
     simp -implicitDefEqProofs only [BJ,A7,AZ,BA,BL,BX,CG,EM,AC,AQ,AO,BD,AX,AL,AA,AY,AU,BM,BH,CO,DU,BU,E5,AB,FQ,↓reduceIte,jB,jA,jC,enP,QR,b1,f0,jM]
     refine CV (fun b2 => ?_) (fun b2 => ?_)
     ·simp -implicitDefEqProofs only [BC,A8,BK,A7,CJ,D5,LW,FV,AZ,BA,AC,AQ,AO,BD,AX,AL,AA,AU,BM,BB,↓reduceIte,jA,jC]
      exact ⟨by rw [AFC hmem (by simp at b2; omega)],_,rfl⟩
     have h0:0≤gs[i].l[j]:=by simpa using b1
     obtain ⟨k,hk⟩:=zI h0
     have hkl:k < l.length:=by rw [hk] at b2; simp at b2; omega
     have hb0:=C9 h (ABlk.live 1 (cR (flG (gs.take i) ++ gs[i].l.take j) l.length))
     have hcnt:(flG (gs.take i) ++ gs[i].l.take j).count ((k:Nat):Int)≤1048576:=by
      have h1:=List.count_le_length (a:=((k:Nat):Int)) (l:=flG (gs.take i) ++ gs[i].l.take j)
      have h2:(flG (gs.take i) ++ gs[i].l.take j).length≤(flG gs).length:=by
       rw [hsp]; simp only [zX]; omega
      omega
     have hjb:j≤1048576:=by
      have h2:gs[i].l.length≤(flG gs).length:=by
       rw [hsp]; simp only [zX,qH,zV,List.length_drop]; omega
      omega
     have lc:DL Tryz.prog (h ++ [ABlk.live 1 (cR (flG (gs.take i) ++ gs[i].l.take j) l.length)]) 3 (.ptr h.length k 0)=some (.int .i64 (((flG (gs.take i) ++ gs[i].l.take j).count ((k:Nat):Int):Nat):Int)):=by
      rw [DC ag3 hb0 (WR _ hkl)]; rfl
     have hst:=A0Y (x:=(((flG (gs.take i) ++ gs[i].l.take j).count ((k:Nat):Int)+1:Nat):Int)) hb0 (j:=k) ⟨_,WR _ hkl⟩
     rw [AWZ _ hkl,MS] at hst
     have hap:(flG (gs.take i) ++ gs[i].l.take j) ++ [((k:Nat):Int)]=flG (gs.take i) ++ gs[i].l.take (j+1):=by
      rw [zT hj',hk,zY]
     simp -implicitDefEqProofs only [A8,BR,A7,EK,FI,AZ,BA,AC,AQ,AO,BD,AX,AL,DZ,AA,AY,AU,BG,BH,BB,BP,CZ,BU,CQ,AB,CE,DY,↓reduceIte,jB,jG,jA,jC,enP,RH,jJ,f5,hk,J9 hb0 hkl,lc,wrap_succ (show (flG (gs.take i) ++ gs[i].l.take j).count ((k:Nat):Int) < 9223372036854775807 by omega),hst,f7,wrap_succ (show j < 9223372036854775807 by omega)]
     refine ⟨n' - 1,by omega,j+1,by omega,by trivial,by trivial,by trivial,by trivial,rfl,by rw [← hap],fun x hx => ?_⟩
     rw [← hap] at hx
     rcases zZ.1 hx with hx | hx
     ·exact hin2 x hx
     ·rw [List.mem_singleton] at hx
      rw [hx]; omega
    ·have hj' : ¬ j < gs[i].l.length:=by simpa using hc
     have e:gs[i].l.take j=gs[i].l:=jX (by omega)
     rw [e] at hin2
     simp -implicitDefEqProofs only [D6,EU,MX,FX,AA,↓reduceIte,jB]
     exact ⟨f0,f1,f5,f6,by rw [e],hin2⟩
   ·rintro F' H' ⟨g0,g1,g5,g6,rfl,hin2⟩
    simp -implicitDefEqProofs only [A8,A7,EK,FT,FI,AZ,BA,AC,AQ,AO,BD,AX,AL,AA,AY,AU,BG,BH,BB,BU,AB,DY,↓reduceIte,jB,jA,jC,enP,g6,wrap_succ (show i < 9223372036854775807 by omega)]
    have hft:=AHP hi'
    refine ⟨n - 1,by omega,i+1,by omega,by first | exact g0 | trivial,by first | exact g1 | trivial,by first | exact g5 | trivial,rfl,by rw [hft],fun g hg => ?_,by rw [hft]; exact hin2⟩
    rw [zT hi'] at hg
    rcases zZ.1 hg with hg | hg
    ·exact hne g hg
    ·rw [List.mem_singleton] at hg; rw [hg]; exact hnz
   ·rintro F' H' ⟨g4,hx⟩
    simp -implicitDefEqProofs only [CJ,D5,LW,FV,g4]
    exact ⟨trivial,hx⟩
  ·have hi' : ¬ i < gs.length:=by simpa using hc
   rw [jX (by omega)] at hne hin
   simp -implicitDefEqProofs only [D6,EU,MX,FX,AA,↓reduceIte,jB]
   exact ⟨f0,f5,by rw [jX (by omega)],hne,hin⟩
 ·rintro F H ⟨f0,f5,rfl,hne,hin⟩
  have hb0:=C9 h (ABlk.live 1 (cR (flG gs) l.length))
  have hx0:ext h (h ++ [ABlk.live 1 (cR (flG gs) l.length)]):=⟨_,rfl⟩
  generalize h ++ [ABlk.live 1 (cR (flG gs) l.length)]=H0 at hb0 hx0 ⊢
  simp -implicitDefEqProofs only [BC,CB,A8,A7,FT,AZ,BA,AC,AQ,AO,BD,AX,AL,AU,BG,BB,↓reduceIte,jA,jC]
  refine D7 (fun n F H => ∃ i,n+i=l.length∧(∀ (j:Nat),j < i→∀ hj:j < l.length,(flG gs).count ((j:Nat):Int)=if l[j].mode=0 then 0 else 1)∧F 0 = .sl m 4 (l.map FM)∧F 5 = .own h.length 0 l.length∧F 9 = .int .i64 (i:Nat)∧H=H0) l.length ⟨0,by simp,fun j hj=>absurd hj (by omega),by simp -implicitDefEqProofs only [AA,↓reduceIte,jB,f0],by simp -implicitDefEqProofs only [AA,↓reduceIte,jB,f5],by simp -implicitDefEqProofs only [AA,↓reduceIte]; rfl,rfl⟩ ?_
  clear f0 f5
  rintro n F H ⟨i,hi,hb,f0,f5,f9,rfl⟩
  simp -implicitDefEqProofs only [BC,A8,BJ,A7,AZ,BA,AC,AQ,AO,BD,AX,AL,AA,AY,BH,BU,E5,AB,DF,↓reduceIte,jB,jA,jC,enP,QR,f0,f9,jM]
  refine CV (fun hc => ?_) (fun hc => ?_)
  ·have hi':i < l.length:=by simpa using hc
   have l2:DL Tryz.prog H 3 (.fptr 4 (l.map FM) i 2)=some (.int .i64 l[i].mode):=by rw [GG ag3 hi']; rfl
   have lc:DL Tryz.prog H 3 (.ptr h.length i 0)=some (.int .i64 (((flG gs).count ((i:Nat):Int):Nat):Int)):=by
    rw [DC ag3 hb0 (WR _ hi')]; rfl
   have nxt:(flG gs).count ((i:Nat):Int)=(if l[i].mode=0 then 0 else 1)→∀ (j:Nat),j < i+1→∀ hj:j < l.length,(flG gs).count ((j:Nat):Int)=if l[j].mode=0 then 0 else 1:=fun he j hj hl=>by
    rcases jT j i with h1 | h1
    ·exact hb j h1 hl
    ·obtain rfl:j=i:=by omega
     exact he
   simp -implicitDefEqProofs only [BC,CB,A8,BR,BJ,A7,AZ,BA,AC,AQ,AO,BD,AX,AL,AA,AY,AU,BG,BH,BB,BP,BU,BI,CQ,AB,DJ,↓reduceIte,jB,jG,jA,jC,enP,TU,MZ,f0,f9,EF hi',l2]
   refine CV (fun b1 => ?_) (fun b1 => ?_)
   ·have hm:l[i].mode=0:=by simpa using b1
    simp -implicitDefEqProofs only [BC,A8,BJ,A7,AZ,BA,AC,AQ,AO,BD,AX,AL,AA,AY,AU,BG,BH,BB,BP,BU,CQ,AB,FD,↓reduceIte,jB,jG,jA,jC,enP,RH,f5,f9,J9 hb0 hi',lc]
    refine CV (fun b2 => ?_) (fun b2 => ?_)
    ·simp -implicitDefEqProofs only [BC,A8,BK,A7,CJ,D5,FV,CU,AZ,BA,AC,AQ,AO,BD,AX,AL,AA,AU,BM,BB,↓reduceIte,jA,jC]
     refine ⟨?_,hx0⟩
     rw [XY hi' (by rw [if_pos hm]; simp [bne] at b2; exact fun e=>b2 e)]
    ·have he:=nxt (by rw [if_pos hm]; simp [bne] at b2; exact b2)
     simp -implicitDefEqProofs only [A8,BR,A7,EK,FI,AZ,BA,AC,AQ,AO,BD,AX,AL,AA,AY,AU,BG,BH,BB,BU,AB,DY,↓reduceIte,jB,jA,jC,enP,f9,wrap_succ (show i < 9223372036854775807 by omega)]
     exact ⟨n - 1,by omega,i+1,by omega,he,by trivial,by trivial,rfl,trivial⟩
   ·have hm : ¬ l[i].mode=0:=by simpa using b1
    simp -implicitDefEqProofs only [BC,A8,BR,BJ,A7,AZ,BA,AC,AQ,AO,BD,AX,AL,AA,AY,BH,BP,BU,CQ,AB,FD,↓reduceIte,jB,jG,jA,jC,enP,RH,f5,f9,J9 hb0 hi',lc]
    refine CV (fun b2 => ?_) (fun b2 => ?_)
    ·simp -implicitDefEqProofs only [BC,A8,BK,A7,CJ,D5,FV,CU,AZ,BA,AC,AQ,AO,BD,AX,AL,AA,AU,BM,BB,↓reduceIte,jA,jC]
     refine ⟨?_,hx0⟩
     rw [XY hi' (by rw [if_neg hm]; intro e; rw [e] at b2; exact absurd b2 (by decide))]
    ·have he:=nxt (by rw [if_neg hm]; simp [bne] at b2; omega)
     simp -implicitDefEqProofs only [A8,BR,A7,EK,FI,AZ,BA,AC,AQ,AO,BD,AX,AL,AA,AY,AU,BG,BH,BB,BU,AB,DY,↓reduceIte,jB,jA,jC,enP,f9,wrap_succ (show i < 9223372036854775807 by omega)]
     exact ⟨n - 1,by omega,i+1,by omega,he,by trivial,by trivial,rfl,trivial⟩
  ·have hi' : ¬ i < l.length:=by simpa using hc
   simp -implicitDefEqProofs only [BC,A8,BK,D6,A7,EU,FT,FX,CU,AZ,BA,AC,AQ,AO,BD,AX,AL,AA,AU,BM,BB,↓reduceIte,jA,jC]
   refine ⟨?_,hx0⟩
   rw [show gOK l gs=true from decide_eq_true ⟨hne,hin,fun i=>hb i.1 (by omega) i.2⟩]
 ·rintro F H ⟨f4,hx⟩
  simp -implicitDefEqProofs only [CJ,D5,CU,f4]
  exact ⟨trivial,hx⟩
end
section
variable (G:Nat→AV)
set_option maxHeartbeats 1000000 in
theorem AHK (p:Pr) (hl:p.vars.length≤1048576) (hg:p.groups.length≤1048576) (hw:(flG p.groups).length≤1048576) (h:Hp):PCall (En G) 63 [.agg (D8 p)] h (.int .i64 (if gOK p.vars p.groups=true then 0 else 1)):=by
 refine ACalls.pure0 rfl ?_
 refine acN Tryz.func63 rfl ?_
 show awp _ _ _ _ _ (EE _ [.tmp 2] _)
 have ge:=C9 h (ABlk.live 5 [D8 p])
 have hxx:ext h (h ++ [ABlk.live 5 [D8 p]]):=(ext.rfl' h).app _
 simp -implicitDefEqProofs only [BC,A8,A7,AZ,BA,AC,AQ,AO,BD,AX,AL,AA,AY,AU,BG,BB,FN,BP,BI,BZ,AB,BF,↓reduceIte,jB,jI,jA,jC,enP,KZ,VS]
 generalize h ++ [ABlk.live 5 [D8 p]]=hb at ge hxx ⊢
 generalize h.length=eb at ge ⊢
 have nb:gOK p.vars p.groups=false→(AV.int .i64 1=AV.int .i64 (if gOK p.vars p.groups=true then 0 else 1)):=fun hh=>by rw [hh]; rfl
 have l0:DL Tryz.prog hb 22 (.ptr eb 0 0)=some (.sl p.vm 4 (p.vars.map FM)):=by rw [DC UW ge (row:=D8 p) rfl]; rfl
 simp -implicitDefEqProofs only [BC,A8,A7,AZ,BA,AC,AQ,AO,BD,AX,AL,AA,AY,BB,BP,QV,BI,E5,BZ,AB,↓reduceIte,jB,jG,jA,jC,enP,QR,AQF,l0,jM,AYT hb p.vars.length hl]
 have geA : ∀ x:ABlk,(hb ++ [x])[eb]? = some (ABlk.live 5 [D8 p]):=fun x=>CX ge
 have l4 : ∀ x:ABlk,DL Tryz.prog (hb ++ [x]) 25 (.ptr eb 0 4)=some (.sl p.gm 1 (p.groups.map Q5)):=fun x=>by rw [DC A0B (geA x) (row:=D8 p) rfl]; rfl
 have lp : ∀ x:ABlk,DL Tryz.prog (hb ++ [x]) 27 (.ptr eb 0 0)=some (.agg (D8 p)):=fun x=>by rw [HY WX VL (geA x) (row:=D8 p) rfl (by rw [GZ]; exact jL 5)]; rfl
 have l0A : ∀ x:ABlk,DL Tryz.prog (hb ++ [x]) 22 (.ptr eb 0 0)=some (.sl p.vm 4 (p.vars.map FM)):=fun x=>by rw [DC UW (geA x) (row:=D8 p) rfl]; rfl
 have hxA : ∀ x:ABlk,ext h (hb ++ [x]):=fun x=>hxx.app _
 simp -implicitDefEqProofs only [CB,A7,AZ,BA,AC,AQ,AO,BD,AX,AL,AA,AY,AU,BG,BH,E5,AB,↓reduceIte,jA,jC,enP,AYU,l4,jM]
 refine IY 0 (fun F H=>F 1 = .ptr eb 0 0∧F 3 = .own hb.length 0 p.vars.length∧H=hb ++ [ABlk.live 1 (bR (flG p.groups) p.vars.length)]∧(∀ g∈p.groups,g.l≠[])∧(∀ x∈flG p.groups,NI p.vars x=true)∧∀ x:Int,(flG p.groups).count x≤1) (fun F H=>F 2 = .int .i64 (if gOK p.vars p.groups=true then 0 else 1)∧ext h H) ?_ ?_ ?_
 ·refine D7 (fun n F H => ∃ i,n+i=p.groups.length∧F 1 = .ptr eb 0 0∧F 3 = .own hb.length 0 p.vars.length∧F 14 = .sl p.gm 1 (p.groups.map Q5)∧F 15 = .int .i64 (p.groups.length:Nat)∧F 16 = .int .i64 (i:Nat)∧H=hb ++ [ABlk.live 1 (bR (flG (p.groups.take i)) p.vars.length)]∧(∀ g∈p.groups.take i,g.l≠[])∧(∀ x∈flG (p.groups.take i),NI p.vars x=true)∧∀ x:Int,(flG (p.groups.take i)).count x≤1) p.groups.length ⟨0,by simp,by simp -implicitDefEqProofs only [AA,↓reduceIte,jB],by simp -implicitDefEqProofs only [AA,↓reduceIte,jB],by simp -implicitDefEqProofs only [AA,↓reduceIte,jB],by simp -implicitDefEqProofs only [AA,↓reduceIte,jB],by simp -implicitDefEqProofs only [AA,↓reduceIte]; rfl,rfl,by simp,by simp [flG],by simp [flG]⟩ ?_
  rintro n F H ⟨i,hi,f1,f3,f14,f15,f16,rfl,hne,hin,hct⟩
  simp -implicitDefEqProofs only [BC,A8,BJ,A7,AZ,BA,AC,AQ,AO,BD,AX,AL,AA,AY,BU,AB,DF,↓reduceIte,jA,jC,enP,f15,f16]
  refine CV (fun hc => ?_) (fun hc => ?_)
  ·have hi':i < p.groups.length:=by simpa using hc
   have lg : ∀ H:Hp,DL Tryz.prog H 45 (.fptr 1 (p.groups.map Q5) i 0)=some (.sl p.groups[i].m 1 (p.groups[i].l.map qencI)):=fun H=>by rw [GG AXJ hi']; rfl
   simp -implicitDefEqProofs only [BC,CB,A8,BR,BJ,A7,AZ,BA,AC,AQ,AO,BD,AX,AL,AA,AY,AU,BG,BH,BB,BP,BU,CQ,E5,AB,DJ,↓reduceIte,jB,jA,jC,enP,ATD,ABR,f14,f16,EF hi',lg,jM]
   refine CV (fun hz => ?_) (fun hz => ?_)
   ·simp -implicitDefEqProofs only [BC,A8,BK,A7,CJ,D5,LW,FV,AZ,BA,AC,AQ,AO,BD,AX,AL,AA,AU,BG,BB,↓reduceIte,jA,jC]
    exact ⟨nb (ALK (jQ hi') (qY (by simpa using hz))),hxA _⟩
   have hnz:p.groups[i].l≠[]:=by
    intro e; rw [e] at hz; simp at hz
   simp -implicitDefEqProofs only [BC,CB,A8,BR,A7,AZ,BA,AC,AQ,AO,BD,AX,AL,AA,AY,AU,BG,BH,E5,AB,↓reduceIte,jB,jA,jC,enP,ABR,jM]
   refine IY 2 (fun F' H'=>F' 1 = .ptr eb 0 0∧F' 3 = .own hb.length 0 p.vars.length∧F' 14 = .sl p.gm 1 (p.groups.map Q5)∧F' 15 = .int .i64 (p.groups.length:Nat)∧F' 16 = .int .i64 (i:Nat)∧H'=hb ++ [ABlk.live 1 (bR (flG (p.groups.take i) ++ p.groups[i].l) p.vars.length)]∧(∀ x∈flG (p.groups.take i) ++ p.groups[i].l,NI p.vars x=true)∧∀ x:Int,(flG (p.groups.take i) ++ p.groups[i].l).count x≤1) (fun F' H'=>F' 2 = .int .i64 (if gOK p.vars p.groups=true then 0 else 1)∧ext h H') ?_ ?_ ?_
   ·refine D7 (fun n' F' H' => ∃ j,n'+j=p.groups[i].l.length∧F' 1 = .ptr eb 0 0∧F' 3 = .own hb.length 0 p.vars.length∧F' 14 = .sl p.gm 1 (p.groups.map Q5)∧F' 15 = .int .i64 (p.groups.length:Nat)∧F' 16 = .int .i64 (i:Nat)∧F' 23 = .sl p.groups[i].m 1 (p.groups[i].l.map qencI)∧F' 24 = .int .i64 (p.groups[i].l.length:Nat)∧F' 25 = .int .i64 (j:Nat)∧H'=hb ++ [ABlk.live 1 (bR (flG (p.groups.take i) ++ p.groups[i].l.take j) p.vars.length)]∧(∀ x∈flG (p.groups.take i) ++ p.groups[i].l.take j,NI p.vars x=true)∧∀ x:Int,(flG (p.groups.take i) ++ p.groups[i].l.take j).count x≤1) p.groups[i].l.length
     ⟨0,by simp,by simp -implicitDefEqProofs only [AA,↓reduceIte,jB,f1],by simp -implicitDefEqProofs only [AA,↓reduceIte,jB,f3],by simp -implicitDefEqProofs only [AA,↓reduceIte,jB,f14],by simp -implicitDefEqProofs only [AA,↓reduceIte,jB,f15],by simp -implicitDefEqProofs only [AA,↓reduceIte,jB,f16],by simp -implicitDefEqProofs only [AA,↓reduceIte,jB],by simp -implicitDefEqProofs only [AA,↓reduceIte,jB],by simp -implicitDefEqProofs only [AA,↓reduceIte]; rfl,by rw [zM,jE],by rw [zM,jE]; exact hin,by rw [zM,jE]; exact hct⟩ ?_
    clear f1 f3 f14 f15 f16
    rintro n' F H ⟨j,hj,f1,f3,f14,f15,f16,f23,f24,f25,rfl,hin2,hct2⟩
    simp -implicitDefEqProofs only [BC,A8,BJ,A7,AZ,BA,AC,AQ,AO,BD,AX,AL,AA,AY,BU,AB,DF,↓reduceIte,jA,jC,enP,f24,f25]
    refine CV (fun hc => ?_) (fun hc => ?_)
    ·have hj':j < p.groups[i].l.length:=by simpa using hc
     have hsp:=AD0 hi' hj'
     have hmem:p.groups[i].l[j]∈flG p.groups:=by rw [hsp]; simp
     have l3 : ∀ H:Hp,DL Tryz.prog H 3 (.fptr 1 (p.groups[i].l.map qencI) j 0)=some (.int .i64 p.groups[i].l[j]):=fun H=>by rw [GG ag3 hj']; rfl
     simp -implicitDefEqProofs only [BC,CB,A8,BR,A7,AZ,BA,AC,AQ,AO,BD,AX,AL,AA,AY,BO,BH,BB,BP,CQ,BV,BN,AB,jF,jD,jE,↓reduceIte,jB,jA,jC,enP,RH,f23,f25,EF hj',l3,f1,lp]
     refine (UE G p _ hl _).use ?_
     cases b1:NI p.vars p.groups[i].l[j]
     ·simp -implicitDefEqProofs only [BC,A8,BK,BJ,A7,CJ,D5,LW,FV,DR,AZ,BA,BL,BX,CG,FY,AC,AQ,AO,BD,AX,AL,AA,EG,AY,AU,BG,BM,BH,BB,CO,DK,I5,AB,FO,↓reduceIte,jB,jA,jC]
      exact ⟨nb (ATM hmem b1),hxA _⟩
     obtain ⟨k,hkl,hk,hm⟩:=U4 b1
     have hb0:=C9 hb (ABlk.live 1 (bR (flG (p.groups.take i) ++ p.groups[i].l.take j) p.vars.length))
     have lc:DL Tryz.prog (hb ++ [ABlk.live 1 (bR (flG (p.groups.take i) ++ p.groups[i].l.take j) p.vars.length)]) 4 (.ptr hb.length k 0)=some (.bool (decide (((k:Nat):Int)∈flG (p.groups.take i) ++ p.groups[i].l.take j))):=by
      rw [DC ag4 hb0 (WV _ hkl)]; rfl
     have hst:=A0Z hb0 (j:=k) ⟨_,WV _ hkl⟩ true
     rw [AXC _ hkl,MS] at hst
     have hap:(flG (p.groups.take i) ++ p.groups[i].l.take j) ++ [((k:Nat):Int)]=flG (p.groups.take i) ++ p.groups[i].l.take (j+1):=by
      rw [zT hj',hk,zY]
     have hjb:j≤1048576:=by
      have h2:p.groups[i].l.length≤(flG p.groups).length:=by
       rw [hsp]; simp only [zX,qH,zV,List.length_drop]; omega
      omega
     simp -implicitDefEqProofs only [BJ,A7,AZ,BA,BL,BX,CG,EM,AC,AQ,AO,BD,AX,AL,AA,AY,AU,BM,BH,CO,DU,BP,I5,CQ,AB,FO,↓reduceIte,jB,jG,jA,jW,jC,enP,APU,f3,hk,J9 hb0 hkl,lc]
     refine CV (fun b2 => ?_) (fun b2 => ?_)
     ·simp -implicitDefEqProofs only [BC,A8,BK,A7,CJ,D5,LW,FV,AZ,BA,AC,AQ,AO,BD,AX,AL,AA,AU,BG,BB,↓reduceIte,jA,jC]
      refine ⟨nb (XY hkl ?_),hxA _⟩
      have h1:0 < (flG (p.groups.take i) ++ p.groups[i].l.take j).count ((k:Nat):Int):=List.count_pos_iff.2 (by simpa using b2)
      rw [if_neg hm,hsp,List.count_append,hk,List.count_cons_self]; omega
     ·have hnin : ¬ ((k:Nat):Int)∈flG (p.groups.take i) ++ p.groups[i].l.take j:=by simpa using b2
      simp -implicitDefEqProofs only [A8,BR,A7,EK,FI,AZ,BA,AC,AQ,AO,BD,AX,AL,DZ,AA,AY,AU,BG,BM,BH,CZ,BU,CQ,AB,CE,DY,↓reduceIte,jB,jG,jA,jC,enP,APU,jJ,f3,J9 hb0 hkl,hst,f25,wrap_succ (show j < 9223372036854775807 by omega)]
      refine ⟨n' - 1,by omega,j+1,by omega,by trivial,by trivial,by trivial,by trivial,by trivial,by trivial,by trivial,rfl,by rw [← hap],fun x hx => ?_,fun x => ?_⟩
      ·rw [← hap] at hx
       rcases zZ.1 hx with hx | hx
       ·exact hin2 x hx
       ·rw [List.mem_singleton] at hx
        rw [hx,← hk]; exact b1
      ·rw [← hap,List.count_append]
       have h1:=hct2 x
       by_cases hxk:((k:Nat):Int)=x
       ·subst hxk
        rw [List.count_eq_zero.2 hnin]; simp
       ·rw [List.count_append] at h1
        simp [hxk]; exact h1
    ·have hj' : ¬ j < p.groups[i].l.length:=by simpa using hc
     have e:p.groups[i].l.take j=p.groups[i].l:=jX (by omega)
     rw [e] at hin2 hct2
     simp -implicitDefEqProofs only [D6,EU,MX,FX,AA,↓reduceIte,jB]
     exact ⟨f1,f3,f14,f15,f16,by rw [e],hin2,hct2⟩
   ·rintro F' H' ⟨g1,g3,g14,g15,g16,rfl,hin2,hct2⟩
    simp -implicitDefEqProofs only [A8,A7,EK,FT,FI,AZ,BA,AC,AQ,AO,BD,AX,AL,AA,AY,AU,BG,BH,BU,AB,DY,↓reduceIte,jB,jA,jC,enP,g16,wrap_succ (show i < 9223372036854775807 by omega)]
    have hft:=AHP hi'
    refine ⟨n - 1,by omega,i+1,by omega,by first | exact g1 | trivial,by first | exact g3 | trivial,by first | exact g14 | trivial,by first | exact g15 | trivial,rfl,by rw [hft],fun g hg => ?_,by rw [hft]; exact hin2,by rw [hft]; exact hct2⟩
    rw [zT hi'] at hg
    rcases zZ.1 hg with hg | hg
    ·exact hne g hg
    ·rw [List.mem_singleton] at hg; rw [hg]; exact hnz
   ·rintro F' H' ⟨g2,hx⟩
    simp -implicitDefEqProofs only [CJ,D5,LW,FV,g2]
    exact ⟨trivial,hx⟩
  ·have hi' : ¬ i < p.groups.length:=by simpa using hc
   rw [jX (by omega)] at hne hin hct
   simp -implicitDefEqProofs only [D6,EU,MX,FX,AA,↓reduceIte,jB]
   exact ⟨f1,f3,by rw [jX (by omega)],hne,hin,hct⟩
 ·rintro F H ⟨f1,f3,rfl,hne,hin,hct⟩
  have hb0:=C9 hb (ABlk.live 1 (bR (flG p.groups) p.vars.length))
  have l0':=l0A (ABlk.live 1 (bR (flG p.groups) p.vars.length))
  have lp':=lp (ABlk.live 1 (bR (flG p.groups) p.vars.length))
  have hx0:=hxA (ABlk.live 1 (bR (flG p.groups) p.vars.length))
  generalize hb ++ [ABlk.live 1 (bR (flG p.groups) p.vars.length)]=H0 at hb0 hx0 l0' lp' ⊢
  simp -implicitDefEqProofs only [BC,CB,A8,A7,FT,AZ,BA,AC,AQ,AO,BD,AX,AL,AA,AY,AU,BG,BH,BP,BI,E5,AB,↓reduceIte,jI,jA,jC,enP,QR,KZ,f1,l0',jM]
  refine D7 (fun n F H => ∃ i,n+i=p.vars.length∧(∀ (j:Nat),j < i→j < p.vars.length→NI p.vars (j:Nat)=true→((j:Nat):Int)∈flG p.groups)∧F 1 = .ptr eb 0 0∧F 3 = .own hb.length 0 p.vars.length∧F 46 = .int .i64 (p.vars.length:Nat)∧F 47 = .int .i64 (i:Nat)∧H=H0) p.vars.length ⟨0,by simp,fun j hj=>absurd hj (by omega),by simp -implicitDefEqProofs only [AA,↓reduceIte,jB,f1],by simp -implicitDefEqProofs only [AA,↓reduceIte,jB,f3],by simp -implicitDefEqProofs only [AA,↓reduceIte,jB],by simp -implicitDefEqProofs only [AA,↓reduceIte]; rfl,rfl⟩ ?_
  clear f1 f3
  rintro n F H ⟨i,hi,hbb,f1,f3,f46,f47,rfl⟩
  simp -implicitDefEqProofs only [BC,A8,BJ,A7,AZ,BA,AC,AQ,AO,BD,AX,AL,AA,AY,BU,AB,DF,↓reduceIte,jA,jC,enP,f46,f47]
  refine CV (fun hc => ?_) (fun hc => ?_)
  ·have hi':i < p.vars.length:=by simpa using hc
   have lc:DL Tryz.prog H 4 (.ptr hb.length i 0)=some (.bool (decide (((i:Nat):Int)∈flG p.groups))):=by
    rw [DC ag4 hb0 (WV _ hi')]; rfl
   simp -implicitDefEqProofs only [BC,CB,A8,BR,A7,AZ,BA,AC,AQ,AO,BD,AX,AL,AA,AY,BO,BH,BB,BP,BV,BN,AB,jF,jD,jE,↓reduceIte,jB,jA,jC,enP,f1,f47,lp']
   refine (UE G p _ hl _).use ?_
   have nxt:(NI p.vars (i:Nat)=true→((i:Nat):Int)∈flG p.groups)→∀ (j:Nat),j < i+1→j < p.vars.length→NI p.vars (j:Nat)=true→((j:Nat):Int)∈flG p.groups:=fun he j hj hl hr=>by
    rcases jT j i with h1 | h1
    ·exact hbb j h1 hl hr
    ·obtain rfl:j=i:=by omega
     exact he hr
   cases b1:NI p.vars ((i:Nat):Int)
   ·have he:=nxt (fun q=>by rw [b1] at q; cases q)
    simp -implicitDefEqProofs only [A8,BR,BJ,A7,EK,FI,DX,AZ,BA,BL,BX,CG,JA,AC,AQ,AO,BD,AX,AL,AA,EG,AY,AU,BG,BM,BH,CO,DU,BU,AB,DY,↓reduceIte,jB,jA,jC,enP,f47,wrap_succ (show i < 9223372036854775807 by omega)]
    exact ⟨n - 1,by omega,i+1,by omega,he,by trivial,by trivial,by trivial,rfl,trivial⟩
   simp -implicitDefEqProofs only [BJ,A7,AZ,BA,BL,BX,CG,F8,AC,AQ,AO,BD,AX,AL,AA,AY,AU,BM,BH,CO,DK,BP,I5,CQ,AB,FO,↓reduceIte,jB,jG,jA,jC,enP,APU,f3,f47,J9 hb0 hi',lc]
   refine CV (fun b2 => ?_) (fun b2 => ?_)
   ·simp -implicitDefEqProofs only [BC,A8,BK,A7,CJ,D5,FV,CU,AZ,BA,AC,AQ,AO,BD,AX,AL,AA,AU,BG,BB,↓reduceIte,jA,jC]
    refine ⟨nb (XY hi' ?_),hx0⟩
    have h1 : ¬ ((i:Nat):Int)∈flG p.groups:=by simpa using b2
    have h2 : ¬ p.vars[i].mode=0:=by rw [U5 hi'] at b1; simpa using b1
    rw [if_neg h2,List.count_eq_zero.2 h1]; decide
   ·have he:=nxt (fun _=>by simpa using b2)
    simp -implicitDefEqProofs only [A8,BR,A7,EK,FI,AZ,BA,AC,AQ,AO,BD,AX,AL,AA,AY,AU,BG,BH,BU,AB,DY,↓reduceIte,jB,jA,jC,enP,f47,wrap_succ (show i < 9223372036854775807 by omega)]
    exact ⟨n - 1,by omega,i+1,by omega,he,by trivial,by trivial,by trivial,rfl,trivial⟩
  ·have hi' : ¬ i < p.vars.length:=by simpa using hc
   simp -implicitDefEqProofs only [BC,A8,BK,D6,A7,EU,FT,FX,CU,AZ,BA,AC,AQ,AO,BD,AX,AL,AA,AU,BG,BB,↓reduceIte,jA,jC]
   refine ⟨?_,hx0⟩
   have:gOK p.vars p.groups=true:=decide_eq_true ⟨hne,fun x hx=>by
    obtain ⟨k,hk,rfl,_⟩:=U4 (hin x hx)
    omega,fun j=>by
    by_cases hr:NI p.vars ((j.1:Nat):Int)=true
    ·have h1:=List.count_pos_iff.2 (hbb j.1 (by omega) j.2 hr)
     have h2:=hct ((j.1:Nat):Int)
     rw [U5 j.2] at hr
     rw [if_neg (by simpa using hr)]; omega
    ·have h1 : ¬ ((j.1:Nat):Int)∈flG p.groups:=fun hm=>hr (hin _ hm)
     rw [U5 j.2] at hr
     rw [if_pos (by simpa using hr)]
     exact List.count_eq_zero.2 h1⟩
   rw [this]; rfl
 ·rintro F H ⟨f2,hx⟩
  simp -implicitDefEqProofs only [CJ,D5,CU,f2]
  exact ⟨trivial,hx⟩
end
structure PrS (p:Pr):Prop where
 vars:p.vars.length≤1048576
 names : ∀ v∈p.vars,v.name.size≤1048576
 exprs:p.hard.length+p.soft.length≤1048576
 wts : ∀ e∈p.hard ++ p.soft,wt e≤1048576
 dists:p.dists.length≤1048576
 ws : ∀ d∈p.dists,d.ws.length≤1048576
 groups:p.groups.length≤1048576
 members:(flG p.groups).length≤1048576
def NM (p:Pr):Int:=if KD p.vars≠0 then KD p.vars else if KA p.vars (p.hard ++ p.soft)≠0 then KA p.vars (p.hard ++ p.soft) else if NC p.vars p.dists≠0 then NC p.vars p.dists else if gOK p.vars p.groups=true then 0 else 1
section
variable (G:Nat→AV)
theorem AIB (fs:List (FuncId × List AV × Int)) (b:Nat) (hn:fs.length≤1048576) (h:Hp) (hb:h[b]? = some (.live 1 (fs.map fun x => [.fn (.func x.1) [] x.2.1]))) (hf : ∀ x∈fs,PCall (En G) x.1 ([] ++ x.2.1) h (.int .i64 x.2.2)):PCall (En G) 55 [.own b 0 fs.length] h (.int .i64 (OM (fun x=>x.2.2) fs)):=by
 refine ACalls.pure0 rfl ?_
 refine acN Tryz.func55 rfl ?_
 show awp _ _ _ _ _ (EE _ [.tmp 2] _)
 simp -implicitDefEqProofs only [BC,CB,A8,A7,AZ,BA,AC,AQ,AO,BD,AX,AL,AA,AY,AU,BG,BH,BB,E5,AB,BF,↓reduceIte,jB,jA,jC,enP,AYV]
 refine IY 0 (fun F H=>H=h∧∀ x∈fs,x.2.2=0) (fun F H=>F 2 = .int .i64 (OM (fun x=>x.2.2) fs)∧ext h H) ?_ ?_ ?_
 ·refine D7 (fun n F H => ∃ i,n+i=fs.length∧F 6 = .own b 0 fs.length∧F 7 = .int .i64 (fs.length:Nat)∧F 8 = .int .i64 (i:Nat)∧H=h∧∀ (j:Nat) (hj:j < i) (hl:j < fs.length),fs[j].2.2=0) fs.length ⟨0,by simp,by simp -implicitDefEqProofs only [AA,↓reduceIte,jB],by simp -implicitDefEqProofs only [AA,↓reduceIte,jB],by simp -implicitDefEqProofs only [AA,↓reduceIte]; rfl,rfl,by intro j hj; omega⟩ ?_
  rintro n F H ⟨i,hi,f6,f7,f8,rfl,hz⟩
  simp -implicitDefEqProofs only [BC,A8,BJ,A7,AZ,BA,AC,AQ,AO,BD,AX,AL,AA,AY,BU,AB,DF,↓reduceIte,jA,jC,enP,f7,f8]
  refine CV (fun hc => ?_) (fun hc => ?_)
  ·have hi':i < fs.length:=by simpa using hc
   have lf:DL Tryz.prog H 95 (.ptr b i 0)=some (.fn (.func fs[i].1) [] fs[i].2.1):=by
    rw [DC (row := [.fn (.func fs[i].1) [] fs[i].2.1]) A2C hb (by rw [List.getElem?_map,jU hi']; rfl)]; rfl
   simp -implicitDefEqProofs only [BC,CB,A8,BR,A7,AZ,BA,AC,AQ,AO,BD,AX,AL,AA,AY,BH,BB,BP,CQ,BV,BN,AB,jD,zK,↓reduceIte,jB,jG,jA,jC,enP,AYZ,f6,f8,J9 hb hi',lf]
   refine (hf _ (jQ hi')).use ?_
   simp -implicitDefEqProofs only [BC,A8,BJ,A7,AZ,BA,AC,AQ,AO,BD,AX,AL,AA,AY,AU,BG,BH,BB,BU,AB,FD,↓reduceIte,jA,jC,enP]
   refine CV (fun hz' => ?_) (fun hz' => ?_)
   ·simp -implicitDefEqProofs only [BC,A8,BK,A7,CJ,D5,LW,FV,AZ,BA,AC,AQ,AO,BD,AX,AL,AA,AY,BH,BB,↓reduceIte,jB,jA,jC]
    exact ⟨by rw [QF (fun x:FuncId × List AV × Int=>x.2.2) fs i hi' (fun j hj=>hz j hj (by omega)) (by simpa using hz')],ext.rfl' _⟩
   ·simp -implicitDefEqProofs only [A8,BR,A7,EK,FI,AZ,BA,AC,AQ,AO,BD,AX,AL,AA,AY,AU,BG,BH,BU,AB,DY,↓reduceIte,jB,jA,jC,enP,f8,wrap_succ (show i < 9223372036854775807 by omega)]
    refine ⟨n - 1,by omega,i+1,by omega,by trivial,by trivial,rfl,trivial,fun j hj hl => ?_⟩
    rcases jT j i with h1 | h1
    ·exact hz j h1 hl
    ·obtain rfl:j=i:=by omega
     simpa using hz'
  ·have hi' : ¬ i < fs.length:=by simpa using hc
   simp -implicitDefEqProofs only [D6,EU,MX,FX,↓reduceIte]
   refine ⟨trivial,fun x hx => ?_⟩
   obtain ⟨j,hj,rfl⟩:=qB hx
   exact hz j (by omega) hj
 ·rintro F H ⟨rfl,hz⟩
  simp -implicitDefEqProofs only [BC,A8,BK,A7,FT,CU,AZ,BA,AC,AQ,AO,BD,AX,AL,AA,AU,BG,BB,↓reduceIte,jA,jC]
  exact ⟨by rw [OL _ fs fun j hj=>hz _ (jQ hj)],ext.rfl' _⟩
 ·rintro F H ⟨f2,hx⟩
  simp -implicitDefEqProofs only [CJ,D5,CU,f2]
  exact ⟨trivial,hx⟩
theorem ATY (hG:GOk G) (p:Pr) (hs:PrS p) (b:Nat) (h:Hp) (hb:h[b]? = some (.live 5 [D8 p])):PCall (En G) 56 ([] ++ [.ptr b 0 0]) h (.int .i64 (KD p.vars)):=by
 refine acN Tryz.func56 rfl ?_
 show awp _ _ _ _ _ (EE _ [.tmp 1] _)
 have l0:DL Tryz.prog h 22 (.ptr b 0 0)=some (.sl p.vm 4 (p.vars.map FM)):=by rw [DC UW hb (row:=D8 p) rfl]; rfl
 simp -implicitDefEqProofs only [BC,A8,A7,AZ,BA,AC,AQ,AO,BD,AX,AL,AA,AY,AU,BO,BG,BB,BP,BI,BV,BN,AB,BF,jF,jD,jE,zK,↓reduceIte,jB,jI,jA,jC,enX,enP,KZ,l0]
 refine (AMD G hG p.vars p.vm h hs.vars hs.names).use ?_
 simp -implicitDefEqProofs only [BK,A7,CU,AZ,BA,AC,AQ,AO,BD,AX,AL,AA,AY,BB,↓reduceIte,jA,jC]
 exact ⟨trivial,trivial⟩
theorem ATX (hG:GOk G) (p:Pr) (hs:PrS p) (b:Nat) (h:Hp) (hb:h[b]? = some (.live 5 [D8 p])):PCall (En G) 58 ([] ++ [.ptr b 0 0]) h (.int .i64 (KA p.vars (p.hard ++ p.soft))):=by
 refine acN Tryz.func58 rfl ?_
 show awp _ _ _ _ _ (EE _ [.tmp 1] _)
 have lp:DL Tryz.prog h 27 (.ptr b 0 0)=some (.agg (D8 p)):=by rw [HY WX VL hb (row:=D8 p) rfl (by rw [GZ]; exact jL 5)]; rfl
 simp -implicitDefEqProofs only [BC,A8,A7,AZ,BA,AC,AQ,AO,BD,AX,AL,AA,AY,AU,BO,BG,BB,BP,BV,BN,AB,BF,jF,jD,jE,zK,↓reduceIte,jB,jA,jC,enX,enP,lp]
 refine (AJV G hG p hs.vars hs.exprs hs.wts h).use ?_
 simp -implicitDefEqProofs only [BK,A7,CU,AZ,BA,AC,AQ,AO,BD,AX,AL,AA,AY,BB,↓reduceIte,jA,jC]
 exact ⟨trivial,trivial⟩
theorem ATW (p:Pr) (hs:PrS p) (b:Nat) (h:Hp) (hb:h[b]? = some (.live 5 [D8 p])):PCall (En G) 60 ([] ++ [.ptr b 0 0]) h (.int .i64 (NC p.vars p.dists)):=by
 refine acN Tryz.func60 rfl ?_
 show awp _ _ _ _ _ (EE _ [.tmp 1] _)
 have lp:DL Tryz.prog h 27 (.ptr b 0 0)=some (.agg (D8 p)):=by rw [HY WX VL hb (row:=D8 p) rfl (by rw [GZ]; exact jL 5)]; rfl
 simp -implicitDefEqProofs only [BC,A8,A7,AZ,BA,AC,AQ,AO,BD,AX,AL,AA,AY,AU,BO,BG,BB,BP,BV,BN,AB,BF,jF,jD,jE,zK,↓reduceIte,jB,jA,jC,enX,enP,lp]
 refine (AJ5 G p hs.vars hs.dists hs.ws h).use ?_
 simp -implicitDefEqProofs only [BK,A7,CU,AZ,BA,AC,AQ,AO,BD,AX,AL,AA,AY,BB,↓reduceIte,jA,jC]
 exact ⟨trivial,trivial⟩
theorem ATV (p:Pr) (hs:PrS p) (b:Nat) (h:Hp) (hb:h[b]? = some (.live 5 [D8 p])):PCall (En G) 62 ([] ++ [.ptr b 0 0]) h (.int .i64 (if gOK p.vars p.groups=true then 0 else 1)):=by
 refine acN Tryz.func62 rfl ?_
 show awp _ _ _ _ _ (EE _ [.tmp 1] _)
 have lp:DL Tryz.prog h 27 (.ptr b 0 0)=some (.agg (D8 p)):=by rw [HY WX VL hb (row:=D8 p) rfl (by rw [GZ]; exact jL 5)]; rfl
 simp -implicitDefEqProofs only [BC,A8,A7,AZ,BA,AC,AQ,AO,BD,AX,AL,AA,AY,AU,BO,BG,BB,BP,BV,BN,AB,BF,jF,jD,jE,zK,↓reduceIte,jB,jA,jC,enX,enP,lp]
 refine (AHK G p hs.vars hs.groups hs.members h).use ?_
 simp -implicitDefEqProofs only [BK,A7,CU,AZ,BA,AC,AQ,AO,BD,AX,AL,AA,AY,BB,↓reduceIte,jA,jC]
 exact ⟨trivial,trivial⟩
theorem AZP (h:Hp) (a b c d:Fn) (k l m n:List AV):FU Tryz.prog true h 126 4 [(0,.fn a [] k),(1,.fn b [] l),(2,.fn c [] m),(3,.fn d [] n)]=some (.own h.length 0 4,h ++ [ABlk.live 1 [[.fn a [] k],[.fn b [] l],[.fn c [] m],[.fn d [] n]]]):=by kernel_rfl
theorem WB (hG:GOk G) (p:Pr) (hs:PrS p) (h:Hp):PCall (En G) 29 [.agg (D8 p)] h (.int .i64 (NM p)):=by
 refine ACalls.pure0 rfl ?_
 refine JB (H:=hint [7] []) (enM G) Tryz.func29 rfl (by kernel_rfl) (by kernel_rfl) (jH (by kernel_rfl)) ?_
 show awp _ _ _ _ _ (EE _ [.tmp 2] _)
 have ge:=C9 h (ABlk.live 5 [D8 p])
 have hxx:ext h (h ++ [ABlk.live 5 [D8 p]]):=(ext.rfl' h).app _
 simp -implicitDefEqProofs only [FB,ES,EI,jP,jR,jS,jO,BC,A8,A7,AZ,BA,AO,BD,AX,AL,AA,AY,AU,BO,BG,BB,FN,GM,JF,BV,BN,BZ,BF,jF,jD,jE,↓reduceIte,jB,jA,jC,enP,E8,VS,AZP]
 generalize h ++ [ABlk.live 5 [D8 p]]=hb at ge hxx ⊢
 generalize h.length=eb at ge ⊢
 have hx2:=hxx.app [ABlk.live 1 [[AV.fn (.func 56) [] [.ptr eb 0 0]],[.fn (.func 58) [] [.ptr eb 0 0]],[.fn (.func 60) [] [.ptr eb 0 0]],[.fn (.func 62) [] [.ptr eb 0 0]]]]
 have ge2:=CX (x:=ABlk.live 1 [[AV.fn (.func 56) [] [.ptr eb 0 0]],[.fn (.func 58) [] [.ptr eb 0 0]],[.fn (.func 60) [] [.ptr eb 0 0]],[.fn (.func 62) [] [.ptr eb 0 0]]]) ge
 refine (AIB G [(56,[.ptr eb 0 0],KD p.vars),(58,[.ptr eb 0 0],KA p.vars (p.hard ++ p.soft)),(60,[.ptr eb 0 0],NC p.vars p.dists),(62,[.ptr eb 0 0],if gOK p.vars p.groups=true then 0 else 1)] hb.length (by simp) _ (C9 _ _) ?_).use ?_
 ·intro x hx
  simp only [List.mem_cons,List.not_mem_nil,or_false] at hx
  rcases hx with rfl | rfl | rfl | rfl
  ·exact ATY G hG p hs eb _ ge2
  ·exact ATX G hG p hs eb _ ge2
  ·exact ATW G p hs eb _ ge2
  ·exact ATV G p hs eb _ ge2
 ·simp -implicitDefEqProofs only [EI,jP,jR,jS,jO,BK,A7,CU,AZ,BA,AO,BD,AX,AL,AA,AY,BB,jF,jD,↓reduceIte,jA,jC,E8]
  refine ⟨?_,hx2⟩
  simp only [OM,NM]
  by_cases h1:KD p.vars≠0
  ·rw [if_pos h1,if_pos h1]
  rw [if_neg h1,if_neg h1]
  by_cases h2:KA p.vars (p.hard ++ p.soft)≠0
  ·rw [if_pos h2,if_pos h2]
  rw [if_neg h2,if_neg h2]
  by_cases h3:NC p.vars p.dists≠0
  ·rw [if_pos h3,if_pos h3]
  rw [if_neg h3,if_neg h3]
  cases gOK p.vars p.groups <;> rfl
theorem ADL (p:Pr) (hs:PrS p) (h:Hp):PCall (En G) 16 [.agg (D8 p)] h (.int .i64 (NM p)):=by
 refine ACalls.pure0 rfl ?_
 refine acN Tryz.func16 rfl ?_
 show awp _ _ _ _ _ (EE _ [.tmp 2] _)
 have ge:=C9 h (ABlk.live 5 [D8 p])
 have hxx:ext h (h ++ [ABlk.live 5 [D8 p]]):=(ext.rfl' h).app _
 simp -implicitDefEqProofs only [BC,A8,A7,AZ,BA,AC,AQ,AO,BD,AX,AL,AA,AY,AU,BG,BB,FN,BP,BI,BZ,AB,BF,↓reduceIte,jB,jI,jA,jC,enP,KZ,VS]
 generalize h ++ [ABlk.live 5 [D8 p]]=hb at ge hxx ⊢
 generalize h.length=eb at ge ⊢
 have l0:DL Tryz.prog hb 22 (.ptr eb 0 0)=some (.sl p.vm 4 (p.vars.map FM)):=by rw [DC UW ge (row:=D8 p) rfl]; rfl
 have l1:DL Tryz.prog hb 23 (.ptr eb 0 1)=some (.sl p.hm 4 (p.hard.map CW)):=by rw [DC QU ge (row:=D8 p) rfl]; rfl
 have l2:DL Tryz.prog hb 23 (.ptr eb 0 2)=some (.sl p.sm 4 (p.soft.map CW)):=by rw [DC QU ge (row:=D8 p) rfl]; rfl
 have l3:DL Tryz.prog hb 24 (.ptr eb 0 3)=some (.sl p.dm 2 (p.dists.map IU)):=by rw [DC ARQ ge (row:=D8 p) rfl]; rfl
 have l4:DL Tryz.prog hb 25 (.ptr eb 0 4)=some (.sl p.gm 1 (p.groups.map Q5)):=by rw [DC A0B ge (row:=D8 p) rfl]; rfl
 have hex:=hs.exprs
 have happ:KA p.vars (p.hard ++ p.soft)=if KA p.vars p.hard≠0 then KA p.vars p.hard else KA p.vars p.soft:=AHL _ _ _
 simp -implicitDefEqProofs only [AZ,AC,AQ,AO,BD,AX,AL,AA,AY,BO,BV,BN,AB,jF,jD,jE,↓reduceIte,jA,jC,l0]
 refine (AC4 G p.vars p.vm hb hs.vars hs.names).use ?_
 simp -implicitDefEqProofs only [BC,A8,BJ,A7,AZ,BA,AC,AQ,AO,BD,AX,AL,AA,AY,AU,BG,BH,BB,BU,AB,FD,↓reduceIte,jA,jC,enP]
 refine CV (fun h1 => ?_) (fun h1 => ?_)
 ·simp -implicitDefEqProofs only [BC,A8,BK,A7,CJ,CU,AZ,BA,AC,AQ,AO,BD,AX,AL,AA,AY,BH,BB,↓reduceIte,jB,jA,jC]
  have h1:KD p.vars≠0:=by simpa using h1
  exact ⟨by unfold NM; rw [if_pos h1],hxx⟩
 have h1 : ¬ KD p.vars≠0:=by simpa using h1
 simp -implicitDefEqProofs only [BC,A8,BR,A7,AZ,AC,AQ,AO,BD,AX,AL,AA,AY,BO,BP,BI,BV,BN,AB,jF,jD,jE,↓reduceIte,jB,jI,jG,jA,jC,enP,KZ,AB6,l0,l1]
 refine (TQ G p.vars p.vm hs.vars p.hard p.hm (by omega) (fun e he=>hs.wts e (zZ.2 (.inl he))) hb).use ?_
 simp -implicitDefEqProofs only [BC,A8,BJ,A7,AZ,BA,AC,AQ,AO,BD,AX,AL,AA,AY,AU,BG,BH,BB,BU,AB,FD,↓reduceIte,jA,jC,enP]
 refine CV (fun h2 => ?_) (fun h2 => ?_)
 ·simp -implicitDefEqProofs only [BC,A8,BK,A7,CJ,CU,AZ,BA,AC,AQ,AO,BD,AX,AL,AA,AY,BH,BB,↓reduceIte,jB,jA,jC]
  have h2:KA p.vars p.hard≠0:=by simpa using h2
  rw [if_pos h2] at happ
  exact ⟨by unfold NM; rw [if_neg h1,happ,if_pos h2],hxx⟩
 have h2 : ¬ KA p.vars p.hard≠0:=by simpa using h2
 rw [if_neg h2] at happ
 simp -implicitDefEqProofs only [BC,A8,BR,A7,AZ,AC,AQ,AO,BD,AX,AL,AA,AY,BO,BP,BI,BV,BN,AB,jF,jD,jE,↓reduceIte,jB,jI,jG,jA,jC,enP,KZ,AQG,l0,l2]
 refine (TQ G p.vars p.vm hs.vars p.soft p.sm (by omega) (fun e he=>hs.wts e (zZ.2 (.inr he))) hb).use ?_
 simp -implicitDefEqProofs only [BC,A8,BJ,A7,AZ,BA,AC,AQ,AO,BD,AX,AL,AA,AY,AU,BG,BH,BB,BU,AB,FD,↓reduceIte,jA,jC,enP]
 refine CV (fun h3 => ?_) (fun h3 => ?_)
 ·simp -implicitDefEqProofs only [BC,A8,BK,A7,CJ,CU,AZ,BA,AC,AQ,AO,BD,AX,AL,AA,AY,BH,BB,↓reduceIte,jB,jA,jC]
  have h3:KA p.vars p.soft≠0:=by simpa using h3
  exact ⟨by unfold NM; rw [if_neg h1,happ,if_pos h3],hxx⟩
 have h3 : ¬ KA p.vars p.soft≠0:=by simpa using h3
 simp -implicitDefEqProofs only [BC,A8,BR,A7,AZ,AC,AQ,AO,BD,AX,AL,AA,AY,BO,BP,BI,BV,BN,AB,jF,jD,jE,↓reduceIte,jB,jI,jG,jA,jC,enP,KZ,AB5,l0,l3]
 refine (ANK G p.vars p.vm p.dists p.dm hs.vars hs.dists hs.ws hb).use ?_
 simp -implicitDefEqProofs only [BC,A8,BJ,A7,AZ,BA,AC,AQ,AO,BD,AX,AL,AA,AY,AU,BG,BH,BB,BU,AB,FD,↓reduceIte,jA,jC,enP]
 refine CV (fun h4 => ?_) (fun h4 => ?_)
 ·simp -implicitDefEqProofs only [BC,A8,BK,A7,CJ,CU,AZ,BA,AC,AQ,AO,BD,AX,AL,AA,AY,BH,BB,↓reduceIte,jB,jA,jC]
  have h4:NC p.vars p.dists≠0:=by simpa using h4
  exact ⟨by unfold NM; rw [if_neg h1,happ,if_neg h3,if_pos h4],hxx⟩
 have h4 : ¬ NC p.vars p.dists≠0:=by simpa using h4
 simp -implicitDefEqProofs only [BC,A8,BR,A7,AZ,AC,AQ,AO,BD,AX,AL,AA,AY,BO,BP,BI,BV,BN,AB,jF,jD,jE,↓reduceIte,jB,jI,jG,jA,jC,enP,KZ,AQF,l0,l4]
 refine (AJS G p.vars p.vm p.groups p.gm hs.vars hs.groups hs.members hb).use ?_
 simp -implicitDefEqProofs only [BJ,A7,AZ,BA,AC,AQ,AO,BD,AX,AL,AA,AY,I5,AB,FO,↓reduceIte,jA,jC]
 refine CV (fun h5 => ?_) (fun h5 => ?_)
 ·simp -implicitDefEqProofs only [BC,A8,BK,A7,CJ,CU,AZ,BA,AC,AQ,AO,BD,AX,AL,AA,AU,BG,BB,↓reduceIte,jA,jC]
  have h5 : ¬ gOK p.vars p.groups=true:=by simpa using h5
  exact ⟨by unfold NM; rw [if_neg h1,happ,if_neg h3,if_neg h4,if_neg h5],hxx⟩
 ·simp -implicitDefEqProofs only [BC,A8,BR,BK,A7,CU,AZ,BA,AC,AQ,AO,BD,AX,AL,AA,AU,BG,BB,↓reduceIte,jA,jC]
  have h5:gOK p.vars p.groups=true:=by simpa using h5
  exact ⟨by unfold NM; rw [if_neg h1,happ,if_neg h3,if_neg h4,if_pos h5],hxx⟩
end
end Go.Proofs.YtokehnfjjmpanaaGreatDoor.Bd
namespace Go.Proofs.YtokehnfjjmpanaaGreatDoor.Cov
open Sm Bins Go.Proofs.YtokehnfjjmpanaaGreatDoor.Bd Go.RowKit
theorem cl3:Tryz.prog.cellsOf 3=1:=by kernel_rfl
theorem cl4:Tryz.prog.cellsOf 4=1:=by kernel_rfl
theorem cl9:Tryz.prog.cellsOf 9=1:=by kernel_rfl
theorem A1Y:Tryz.prog.cellsOf 22=1:=by kernel_rfl
theorem AWY:Tryz.prog.cellsOf 23=1:=by kernel_rfl
theorem A1X:Tryz.prog.cellsOf 24=1:=by kernel_rfl
theorem A1W:Tryz.prog.cellsOf 25=1:=by kernel_rfl
theorem A1V:Tryz.prog.cellsOf 27=5:=by kernel_rfl
theorem A1U:Tryz.prog.cellsOf 29=1:=by kernel_rfl
theorem A1T:Tryz.prog.cellsOf 34=2:=by kernel_rfl
theorem AWX:Tryz.prog.cellsOf 40=4:=by kernel_rfl
theorem A1R:Tryz.prog.cellsOf 45=1:=by kernel_rfl
theorem A1Q:Tryz.prog.cellsOf 50=1:=by kernel_rfl
theorem A1P:Tryz.prog.cellsOf 52=2:=by kernel_rfl
theorem A1N:Tryz.prog.cellsOf 61=4:=by kernel_rfl
theorem A1M:Tryz.prog.cellsOf 89=4:=by kernel_rfl
theorem rdI:Rd Tryz.prog 3 Bins.qencI okI:=AVZ Tryz.underlying3
theorem rdStr:Rd Tryz.prog 9 encStr okS:=AVY Tryz.underlying9
theorem TB {α:Type} {ok:α→Nat→Prop} {xs:List α} {b:Nat} (h : ∃ b',b'+1≤b∧okL ok xs b'):okL ok xs b:=by obtain ⟨b',h1,h2⟩:=h; exact h2.mono (by omega)
theorem AEY {t:TypeId} {f:Field} {fs:List Field} {α:Type} {enc:α→List AV} {ok:α→Nat→Prop} (hu:Tryz.prog.underlying t=some (.struct (f :: fs).toArray)):RdAt Tryz.prog 1 t enc ok:=by
 intro H ench w cs d ps h
 obtain ⟨zs,m,hm,_,_,hl,hz⟩:=DataW.trod_struct hu h
 obtain rfl:m=0:=by omega
 have:=hz 0 _ rfl
 simp only [DataW.trod] at this
 have h0:zs = []:=by cases zs with
  | nil=>rfl
  | cons a l=>simp at this
 subst h0; simp at hl
def okE (e:Ex) (b:Nat):Prop:=wt e≤b
theorem AG8 : ∀ {l:List Ex} {b:Nat},okL okE l b→wts l≤b
 | [],b,_=>Nat.zero_le _
 | x :: xs,b,⟨b1,b2,h1,_,h3,h4⟩=>by
   have:=AG8 h4
   simp only [wts]; unfold okE at h3; omega
theorem rdE : ∀ n:Nat,RdAt Tryz.prog n 40 CW okE:=by
 intro n
 induction n using Nat.strongRecOn with
 | _ n ih =>
   match n,ih with
   | 0,_=>exact RdAt.zero
   | 1,_=>exact AEY Tryz.underlying40
   | n+2,ih =>
     have rdA:RdAt Tryz.prog (n+1) 23 (fun x:SM × List Ex => [.sl x.1 4 (x.2.map CW)]) (fun x b => ∃ b',b'+1≤b∧okL okE x.2 b'):=NT Tryz.underlying23 AWX (by decide) EN (ih n (by omega))
     refine RdAt.map (fun x:Int × Int × ByteArray × (SM × List Ex) × Unit=>Ex.mk x.1 x.2.1 x.2.2.1 x.2.2.2.1.1 x.2.2.2.1.2)
      (OG Tryz.underlying40 (H6 rfl cl3 (fun _=>rfl) (rdI _) (H6 rfl cl3 (fun _=>rfl) (rdI _) (H6 rfl cl9 (fun _=>rfl) (rdStr _) (H6 rfl AWY (fun _=>rfl) rdA TA))))) (fun x=>by rw [MV]; rfl) ?_
     rintro ⟨a,b,c,d,_⟩ N ⟨_,hN,b1,b2,hb,h1,b3,b4,hb2,h2,b5,b6,hb3,h3,b7,b8,hb4,⟨b9,h5,h6⟩,_⟩
     have h7:=AG8 h6
     unfold okS at h3
     show wt _≤_
     rw [PQ]
     simp only [Ex.name,Ex.args]
     simp only at h3 h7
     omega
theorem rdR:Rd Tryz.prog 34 encR (fun _ _=>True):=by
 intro n
 cases n with
 | zero=>exact RdAt.zero
 | succ n=>exact RdAt.map (fun x:Int × Int × Unit=>(⟨x.1,x.2.1⟩:Rng)) (OG Tryz.underlying34 (H6 rfl cl3 (fun _=>rfl) (rdI n) (H6 rfl cl3 (fun _=>rfl) (rdI n) TA))) (fun _=>rfl) (fun _ _ _=>trivial)
structure Rl where
 m:SM
 l:List Rng
def A1C (x:Rl) (b:Nat):Prop:=x.l.length≤b
theorem A04:Rd Tryz.prog 29 (fun x:Rl => [.sl x.m 2 (x.l.map encR)]) A1C:=by
 intro n
 cases n with
 | zero=>exact RdAt.zero
 | succ n=>exact RdAt.map (fun x:SM × List Rng=>(⟨x.1,x.2⟩:Rl)) (NT Tryz.underlying29 A1T (by decide) O8 (rdR n)) (fun _=>rfl) (fun x b h=>(TB h).length)
def ASS (v:Vr) (b:Nat):Prop:=v.name.size≤b
theorem A03:Rd Tryz.prog 61 FM ASS:=by
 intro n
 cases n with
 | zero=>exact RdAt.zero
 | succ n =>
   refine RdAt.map (fun x:ByteArray × Int × Int × Int × Unit=>(⟨x.1,x.2.1,x.2.2.1,x.2.2.2.1⟩:Vr)) (OG Tryz.underlying61 (H6 rfl cl9 (fun _=>rfl) (rdStr n) (H6 rfl cl3 (fun _=>rfl) (rdI n) (H6 rfl cl3 (fun _=>rfl) (rdI n) (H6 rfl cl3 (fun _=>rfl) (rdI n) TA))))) (fun _=>rfl) ?_
   rintro ⟨a,b,c,d,_⟩ N ⟨_,hN,b1,b2,hb,h1,_⟩
   unfold okS at h1
   show a.size≤N
   simp only at h1
   omega
theorem A02:Rd Tryz.prog 89 IG (fun _ _=>True):=by
 intro n
 cases n with
 | zero=>exact RdAt.zero
 | succ n=>exact RdAt.map (fun x:Int × Int × Int × Bool × Unit=>(⟨x.1,x.2.1,x.2.2.1,x.2.2.2.1⟩:Wg)) (OG Tryz.underlying89 (H6 rfl cl3 (fun _=>rfl) (rdI n) (H6 rfl cl3 (fun _=>rfl) (rdI n) (H6 rfl cl3 (fun _=>rfl) (rdI n) (H6 rfl cl4 (fun _=>rfl) (ASN Tryz.underlying4 n) TA))))) (fun _=>rfl) (fun _ _ _=>trivial)
def AST (d:Ds) (b:Nat):Prop:=d.ws.length≤b
theorem A07:Rd Tryz.prog 52 IU AST:=by
 intro n
 match n with
 | 0=>exact RdAt.zero
 | 1=>exact AEY Tryz.underlying52
 | n+2 =>
   have rdW:RdAt Tryz.prog (n+1) 50 (fun x:SM × List Wg => [.sl x.1 4 (x.2.map IG)]) (fun x b => ∃ b',b'+1≤b∧okL (fun _ _=>True) x.2 b'):=NT Tryz.underlying50 A1M (by decide) SA (A02 n)
   refine RdAt.map (fun x:Int × (SM × List Wg) × Unit=>(⟨x.1,x.2.1.1,x.2.1.2⟩:Ds)) (OG Tryz.underlying52 (H6 rfl cl3 (fun _=>rfl) (rdI _) (H6 rfl A1Q (fun _=>rfl) rdW TA))) (fun _=>rfl) ?_
   rintro ⟨a,b,_⟩ N ⟨_,hN,b1,b2,hb,h1,b3,b4,hb2,h2,_⟩
   have:=(TB h2).length
   show b.2.length≤N
   simp only at this
   omega
def APA (g:Gp) (b:Nat):Prop:=g.l.length≤b
theorem A06:Rd Tryz.prog 45 Q5 APA:=by
 intro n
 cases n with
 | zero=>exact RdAt.zero
 | succ n=>exact RdAt.map (fun x:SM × List Int=>(⟨x.1,x.2⟩:Gp)) (NT Tryz.underlying45 cl3 (by decide) (fun _=>rfl) (rdI n)) (fun _=>rfl) (fun x b h=>(TB h).length)
theorem ADS : ∀ {l:List Gp} {b:Nat},okL APA l b→(flG l).length≤b
 | [],b,_=>Nat.zero_le _
 | x :: xs,b,⟨b1,b2,h1,_,h3,h4⟩=>by
   have:=ADS h4
   unfold APA at h3
   show ((x :: xs).flatMap Gp.l).length≤b
   rw [List.flatMap_cons,List.length_append]
   unfold flG at this
   omega
def AV6 (p:Pr) (b:Nat):Prop := ∃ b1 b2 b3 b4 b5,b1+b2+b3+b4+b5≤b∧okL ASS p.vars b1∧okL okE p.hard b2∧okL okE p.soft b3∧okL AST p.dists b4∧okL APA p.groups b5
theorem A05:Rd Tryz.prog 27 D8 AV6:=by
 intro n
 match n with
 | 0=>exact RdAt.zero
 | 1=>exact AEY Tryz.underlying27
 | n+2 =>
   have r1:RdAt Tryz.prog (n+1) 22 (fun x:SM × List Vr => [.sl x.1 4 (x.2.map FM)]) (fun x b => ∃ b',b'+1≤b∧okL ASS x.2 b'):=NT Tryz.underlying22 A1N (by decide) AB9 (A03 n)
   have r2:RdAt Tryz.prog (n+1) 23 (fun x:SM × List Ex => [.sl x.1 4 (x.2.map CW)]) (fun x b => ∃ b',b'+1≤b∧okL okE x.2 b'):=NT Tryz.underlying23 AWX (by decide) EN (rdE n)
   have r4:RdAt Tryz.prog (n+1) 24 (fun x:SM × List Ds => [.sl x.1 2 (x.2.map IU)]) (fun x b => ∃ b',b'+1≤b∧okL AST x.2 b'):=NT Tryz.underlying24 A1P (by decide) UR (A07 n)
   have r5:RdAt Tryz.prog (n+1) 25 (fun x:SM × List Gp => [.sl x.1 1 (x.2.map Q5)]) (fun x b => ∃ b',b'+1≤b∧okL APA x.2 b'):=NT Tryz.underlying25 A1R (by decide) (fun _=>rfl) (A06 n)
   refine RdAt.map (fun x:(SM × List Vr) × (SM × List Ex) × (SM × List Ex) × (SM × List Ds) × (SM × List Gp) × Unit=>(⟨x.1.1,x.1.2,x.2.1.1,x.2.1.2,x.2.2.1.1,x.2.2.1.2,x.2.2.2.1.1,x.2.2.2.1.2,x.2.2.2.2.1.1,x.2.2.2.2.1.2⟩:Pr))
    (OG Tryz.underlying27 (H6 rfl A1Y (fun _=>rfl) r1 (H6 rfl AWY (fun _=>rfl) r2 (H6 rfl AWY (fun _=>rfl) r2 (H6 rfl A1X (fun _=>rfl) r4 (H6 rfl A1W (fun _=>rfl) r5 TA)))))) (fun _=>rfl) ?_
   rintro ⟨a,b,c,d,e,_⟩ N ⟨_,hN,b1,b2,hb,h1,b3,b4,hb2,h2,b5,b6,hb3,h3,b7,b8,hb4,h4,b9,b10,hb5,h5,_⟩
   exact ⟨b1,b3,b5,b7,b9,by omega,TB h1,TB h2,TB h3,TB h4,TB h5⟩
theorem AV2 {p:Pr} {b:Nat} (h:AV6 p b) (hb:b≤1048576):PrS p:=by
 obtain ⟨b1,b2,b3,b4,b5,h0,h1,h2,h3,h4,h5⟩:=h
 have l1:=h1.length
 have l2:=h2.length
 have l3:=h3.length
 have l4:=h4.length
 have l5:=h5.length
 have l6:=ADS h5
 refine ⟨by omega,fun v hv => ?_,by omega,fun e he => ?_,by omega,fun d hd => ?_,by omega,by omega⟩
 ·obtain ⟨b6,h6,h7⟩:=h1.each v hv
  unfold ASS at h7; omega
 ·rcases List.mem_append.1 he with he | he
  ·obtain ⟨b6,h6,h7⟩:=h2.each e he
   unfold okE at h7; omega
  ·obtain ⟨b6,h6,h7⟩:=h3.each e he
   unfold okE at h7; omega
 ·obtain ⟨b6,h6,h7⟩:=h4.each d hd
  unfold AST at h7; omega
end Go.Proofs.YtokehnfjjmpanaaGreatDoor.Cov
namespace Go.Proofs.YtokehnfjjmpanaaGreatDoor.Cov
open Sm Bins Go.RowKit
noncomputable def APR (z:Int):Nat→AV:=fun n=>if n=0 then .fptr 1 [[.sl .any 1 (kw.map encStr)]] 0 0 else if n=1 then .fptr 1 [[.int .i64 z]] 0 0 else .junk
theorem AYX (z:Int):GOk (APR z):=⟨⟨.any,rfl⟩,z,rfl⟩
theorem APT {H:Type}:(Rows.laid_testbench_lexer_keywords:DataW H) = .slice (kw.map fun s => .lit (.string s.data.toList)) []:=rfl
theorem AR6 {w:World} {g:Nat} {k:IntKind} {z:Int} (h:w.cell? ⟨g,0,none⟩=some (.int k z)):RepF (M0 w) (.fptr 1 [[.int k z]] 0 0) (.pointer (some ⟨g,0,none⟩)):=by
 simp only [World.cell?] at h
 split at h
 case h_2=>simp at h
 rename_i cc ty fz hw
 have hcc:cc[0]? = some (.int k z):=by simpa using h
 refine .fptr 1 [[.int k z]] 0 0 g 0 cc ty fz (fun _ _ => .int k z) hw ?_ ?_ ?_
 ·intro i row hrow
  cases i with
  | zero =>
    simp at hrow; subst hrow
    refine ⟨rfl,fun j v hv => ?_⟩
    cases j with
    | zero=>simp at hv; subst hv; rfl
    | succ j=>simp at hv
  | succ i=>simp at hrow
 ·intro i j hi hj
  obtain rfl:i=0:=by simpa using hi
  obtain rfl:j=0:=by omega
  exact hcc
 ·intro i j row v hrow hv
  cases i with
  | zero =>
    simp at hrow; subst hrow
    cases j with
    | zero=>simp at hv; subst hv; exact .int _ _
    | succ j=>simp at hv
  | succ i=>simp at hrow
theorem A0H {W:World} (h:laidMetH Tryz.prog [("math/bits.deBruijn32tab",Rows.laid_math_bits_deBruijn32tab),("math/bits.deBruijn64tab",Rows.laid_math_bits_deBruijn64tab),("internal/strconv.uint64pow10",Rows.laid_internal_strconv_uint64pow10),("testbench/lexer.keywords",Rows.laid_testbench_lexer_keywords)] W) (hsh:W.ShapedOpen Tryz.prog) :
  ∃ z,∀ n,RepF (M0 W) (APR z n) (.pointer (some ⟨n,0,none⟩)):=by
 rw [MakeChecks.laidMetH_plain _ _ _ (by kernel_rfl)] at h
 obtain ⟨ps,⟨_,_,_,_,_,_,_,_,_,_,⟨_,_,_,_,_,_,_,_,_,_,⟨_,_,_,_,_,_,_,_,_,_,⟨g3,t3,cs3,f3,p3,q3,hg3,ht3,hv3,hd3,_,_⟩,_⟩,_⟩,_⟩,_,_⟩:=h
 have hgk:Tryz.prog.globalNamed "testbench/lexer.keywords" = some 0:=by kernel_rfl
 have htk:(Tryz.prog.globals[0]?).map (·.type)=some 120:=by kernel_rfl
 obtain rfl:=Option.some.inj (hgk.symm.trans hg3)
 obtain rfl:=Option.some.inj (htk.symm.trans ht3)
 obtain ⟨c,h1,h2⟩:=AM4 Tryz.underlying120 Tryz.underlying9 cl9 APT hd3
 obtain ⟨z,hz⟩:=cell_of_shapedOpen_int (P:=Tryz.prog) (g:=1) (t:=3) (zero := #[.int .i64 0]) hsh (of_decide_eq_true (by kernel_rfl)) (by kernel_rfl) rfl (by kernel_rfl) (by kernel_rfl) Tryz.underlying3
 refine ⟨z,fun n => ?_⟩
 unfold APR
 split
 ·rename_i hn; subst hn
  exact AR5 hg3 hv3 h1 h2 rfl
 ·split
  ·rename_i hn; subst hn
   exact AR6 hz
  ·exact .junk _
end Go.Proofs.YtokehnfjjmpanaaGreatDoor.Cov
