/- Part 9 of the proof (V2, V3, V4, V5, V6, V7, V8, Yc, Kb, Kw); no condition. -/
import Derived.LaidMore
import Derived.Shelf.Vars
import Derived.Test.YtgnoolgeijmlaaaGreatDoorZA8
set_option linter.unusedVariables false
set_option linter.unusedSimpArgs false
set_option maxRecDepth 8000
namespace Go.Proofs.YtgnoolgeijmlaaaGreatDoor.Bd
open Sm Bins Cov Xe Go.RowKit
open Bool renaming not_false→jC,false_or→qF,eq_iff_iff→qB,true_and→zV,or_true→qV,or_false→jW,not_true→jV
open Int renaming toNat_natCast→qZ,eq_ofNat_of_zero_le→qW
open List renaming length_cons→zO,length_map→jM,getElem_mem→jX,append_assoc→zH,map_cons→jF,map_nil→jE,append_nil→jD,take_of_length_le→zB,nil_append→zU,cons_append→qC,length_append→zS,take_zero→qA,getElem?_eq_getElem→jS,length_take→zQ,getElem_of_mem→qL,take_succ_eq_append_getElem→qJ,drop_eq_getElem_cons→zT,getElem?_set→zC,getElem?_eq_none→zG,replicate→jK,eq_nil_of_length_eq_zero→zZ,mem_append→zY,mem_singleton→qX,contains_cons→jZ,contains_nil→jY
open Nat renaming le_of_ble_eq_true→jH,reduceEqDiff→jA,add_zero→jI,zero_add→jG,lt_or_ge→jT,le_refl→jO,reduceBEq→zA
open Option renaming getD_some→jB,getD_none→jJ
def PL (x:Ex):Bool:=(x.op == 3) || (x.op == 24)
def Q4 (l:List Vr) (x:Ex):Bool:=(x.op == 2) && decide (plc l x.name < 0)
def YX (e:Ex):Bool:=(pre e).any PL
def VO (l:List Vr) (e:Ex):Bool:=(pre e).any (Q4 l)
def plE (l:List Vr) (e:Ex):Int:=if YX e=true then 9 else if VO l e=true then 7 else 0
def xpE (l:List Vr) (e:Ex):Int:=if exE e≠0 then exE e else plE l e
def KD (l:List Vr) (xs:List Ex):Int:=N8 (xpE l) xs
theorem AH2 {α:Type} (f:α→Int) : ∀ xs ys:List α,N8 f (xs ++ ys)=if N8 f xs≠0 then N8 f xs else N8 f ys
 | [],ys=>by simp [N8]
 | x :: xs,ys=>by
   have ih:=AH2 f xs ys
   show (if f x≠0 then f x else N8 f (xs ++ ys))=if (if f x≠0 then f x else N8 f xs)≠0 then (if f x≠0 then f x else N8 f xs) else N8 f ys
   rw [ih]
   by_cases h:f x≠0
   ·rw [if_pos h,if_pos h,if_pos h]
   ·rw [if_neg h,if_neg h]
section
variable (G:Nat→AV)
theorem AKV (e:Ex):(pre e).length≤1048576→∀ h:Hp,PCall (En G) 159 [.agg (DR e)] h (.bool (YX e)):=by
 induction e using Ex.induct with | h e ih => ?_
 intro hw h
 have hpl:=congrArg List.length (pre_eq e)
 rw [zO] at hpl
 have hal:e.args.length≤1048576:=by have:=XM e.args; omega
 have hev:YX e=(PL e || (IR e.args).any PL):=by unfold YX; rw [pre_eq,List.any_cons]
 rw [hev]
 refine ACalls.pure0 rfl ?_
 refine acN Tryz.func159 rfl ?_
 show awp _ _ _ _ _ (EH _ [.tmp 2] _)
 have ge:=CV h (ABlk.live 4 [DR e])
 have hx:ext h (h ++ [ABlk.live 4 [DR e]]):=(ext.rfl' h).app _
 simp -implicitDefEqProofs only [BC,A8,A7,AZ,BB,AC,AQ,AO,BD,AX,AL,AA,AY,AU,BL,BA,FK,BO,BJ,BR,AB,BF,↓reduceIte,jA,jI,jB,jC,enP,IP,bxE]
 generalize h ++ [ABlk.live 4 [DR e]]=H1 at ge hx ⊢
 generalize h.length=eb at ge ⊢
 have l0:DF Tryz.prog H1 3 (.ptr eb 0 0)=some (.int .i64 e.op):=by rw [DI ag3 ge (row:=DR e) rfl,JS]
 have l3:DF Tryz.prog H1 23 (.ptr eb 0 3)=some (.sl e.m 4 (e.args.map DR)):=by rw [DI WT ge (row:=DR e) rfl,YN]
 simp -implicitDefEqProofs only [AZ,BM,CE,CQ,AC,AQ,AO,BD,AX,AL,AA,AY,AU,BH,BG,BX,AB,EC,↓reduceIte,jB,jC,enP,l0]
 cases b3:(e.op == 3)
 case true =>
  simp -implicitDefEqProofs only [BC,A8,BK,BI,A7,CW,CU,D6,AZ,BB,BM,CE,CQ,GM,AC,AQ,AO,BD,AX,AL,AA,EO,AY,AU,BL,BA,CS,DL,↓reduceIte,jA,jB,jC,b3]
  exact ⟨by unfold PL; rw [b3]; rfl,hx⟩
 simp -implicitDefEqProofs only [BI,A7,AZ,BB,BM,CE,CQ,EZ,AC,AQ,AO,BD,AX,AL,AA,AY,AU,BH,BL,CS,DU,BO,BX,BJ,AB,EC,↓reduceIte,jA,jI,jB,jC,enP,IP,b3,l0]
 cases b4:(e.op == 24)
 case true =>
  simp -implicitDefEqProofs only [BC,A8,BK,A7,CW,CU,D6,AZ,BB,AC,AQ,AO,BD,AX,AL,AA,AU,BL,BA,↓reduceIte,jB,jC,b4]
  exact ⟨by unfold PL; rw [b3,b4]; rfl,hx⟩
 have h0:PL e=false:=by unfold PL; rw [b3,b4]; rfl
 rw [h0,qF]
 simp -implicitDefEqProofs only [BC,CG,A8,BQ,A7,D9,AZ,BB,AC,AQ,AO,BD,AX,AL,AU,BH,BA,jB,jC,b4]
 refine D5 (fun k F H => ∃ j,k+j=e.args.length∧F 1 = .ptr eb 0 0∧F 3 = .int .i64 (j:Nat)∧H=H1∧(IR (e.args.take j)).any PL=false) e.args.length ⟨0,by simp,by simp -implicitDefEqProofs only [AA,↓reduceIte,jA],by simp -implicitDefEqProofs only [AA,↓reduceIte]; rfl,rfl,rfl⟩ ?_
 rintro k F H ⟨j,hj,f1,f3,rfl,hkn⟩
 simp -implicitDefEqProofs only [BC,A8,BI,A7,AZ,BB,AC,AQ,AO,BD,AX,AL,AA,AY,BG,BO,BX,BJ,EW,AB,C9,↓reduceIte,jA,jG,jB,jC,enP,WE,OI,f1,f3,l3,jM]
 refine CX (fun hc => ?_) (fun hc => ?_)
 ·have hj':j < e.args.length:=by simpa using hc
  have hmem:e.args[j]∈e.args:=jX hj'
  have hsplit:IR e.args=IR (e.args.take j) ++ (pre e.args[j] ++ IR (e.args.drop (j+1))):=by
   rw [← zH,← KW _ _ hj',← NF,List.take_append_drop]
  simp -implicitDefEqProofs only [BC,CG,A8,BQ,A7,AZ,AC,AQ,AO,BD,AX,AL,AA,AY,BZ,BG,BO,BJ,CO,CB,BP,AB,jF,jE,jD,↓reduceIte,jA,jG,jB,jC,enP,AAQ,OI,f1,f3,l3,EQ hj',FQ WS OZ G9 hj']
  refine (ih e.args[j] hmem (by have:=QY hmem; omega) H).use ?_
  simp -implicitDefEqProofs only [BI,A7,BB,AL,AA,AY,↓reduceIte]
  refine CX (fun hb => ?_) (fun hb => ?_)
  ·simp -implicitDefEqProofs only [BC,A8,BK,A7,CW,EN,FV,CU,AZ,BB,AC,AQ,AO,BD,AX,AL,AA,AU,BL,BA,↓reduceIte,jB,jC]
   refine ⟨?_,hx⟩
   have hb:(pre e.args[j]).any PL=true:=hb
   rw [hsplit,List.any_append,List.any_append,hb]; simp
  ·simp -implicitDefEqProofs only [A8,BQ,A7,ET,EX,AZ,BB,AC,AQ,AO,BD,AX,AL,AA,AY,AU,BH,BG,BA,BX,AB,DX,↓reduceIte,jA,jB,jC,enP,f3,wrap_succ (show j < 9223372036854775807 by omega)]
   have hb:(pre e.args[j]).any PL=false:=hb
   exact ⟨k - 1,by omega,j+1,by omega,by trivial,rfl,trivial,by rw [KW _ _ hj',List.any_append,hkn,hb]; rfl⟩
 ·have hj' : ¬ j < e.args.length:=by simpa using hc
  rw [zB (by omega)] at hkn
  simp -implicitDefEqProofs only [BC,A8,BK,DW,A7,EP,FH,FM,CU,AZ,BB,AC,AQ,AO,BD,AX,AL,AA,AU,BL,BA,↓reduceIte,jB,jC]
  exact ⟨by rw [hkn],hx⟩
theorem AH3 (l:List Vr) (m:SM) (hl:l.length≤1048576) (e:Ex):(pre e).length≤1048576→∀ h:Hp,PCall (En G) 160 [.sl m 4 (l.map E5),.agg (DR e)] h (.bool (VO l e)):=by
 induction e using Ex.induct with | h e ih => ?_
 intro hw h
 have hpl:=congrArg List.length (pre_eq e)
 rw [zO] at hpl
 have hal:e.args.length≤1048576:=by have:=XM e.args; omega
 have hev:VO l e=(Q4 l e || (IR e.args).any (Q4 l)):=by unfold VO; rw [pre_eq,List.any_cons]
 rw [hev]
 refine ACalls.pure0 rfl ?_
 refine acN Tryz.func160 rfl ?_
 show awp _ _ _ _ _ (EH _ [.tmp 4] _)
 have ge:=CV h (ABlk.live 4 [DR e])
 have hx:ext h (h ++ [ABlk.live 4 [DR e]]):=(ext.rfl' h).app _
 simp -implicitDefEqProofs only [BC,A8,A7,AZ,BB,AC,AQ,AO,BD,AX,AL,AA,AY,AU,BL,BA,FK,BO,BJ,BR,AB,BF,BU,↓reduceIte,jA,jI,jB,jC,enP,IP,bxE]
 generalize h ++ [ABlk.live 4 [DR e]]=H1 at ge hx ⊢
 generalize h.length=eb at ge ⊢
 have l0:DF Tryz.prog H1 3 (.ptr eb 0 0)=some (.int .i64 e.op):=by rw [DI ag3 ge (row:=DR e) rfl,JS]
 have l2:DF Tryz.prog H1 9 (.ptr eb 0 2)=some (.str e.name):=by rw [DI ag9 ge (row:=DR e) rfl,PM]
 have l3:DF Tryz.prog H1 23 (.ptr eb 0 3)=some (.sl e.m 4 (e.args.map DR)):=by rw [DI WT ge (row:=DR e) rfl,YN]
 simp -implicitDefEqProofs only [AZ,BM,CE,CQ,AC,AQ,AO,BD,AX,AL,AA,AY,AU,BH,BG,BX,AB,EC,↓reduceIte,jB,jC,enP,l0]
 refine RV (fun F H=>F 0 = .sl m 4 (l.map E5)∧F 3 = .ptr eb 0 0∧F 15 = .bool (Q4 l e)∧H=H1) ?_ ?_
 ·cases b2:(e.op == 2)
  ·simp -implicitDefEqProofs only [AZ,BB,BM,CE,CQ,I7,AC,AQ,AO,BD,AX,AL,AA,EO,AY,AU,BL,CS,DU,BF,↓reduceIte,jA,jB,jC,b2]
   exact ⟨trivial,trivial,by unfold Q4; rw [b2]; rfl,trivial⟩
  ·simp -implicitDefEqProofs only [BM,CE,CQ,FY,AC,AQ,AO,BD,AX,AL,AA,AY,BZ,BG,BO,BJ,CB,BP,AB,BF,jF,jE,jD,↓reduceIte,jA,jG,jB,jC,enP,MX,b2,l2]
   refine (WI G l m e.name H1 (by omega)).use ?_
   simp -implicitDefEqProofs only [AZ,BB,BM,CE,CQ,FY,AC,AQ,AO,BD,AX,AL,AA,AY,AU,BH,BL,CS,DL,BX,AB,C9,BF,↓reduceIte,jA,jB,jC,enP,b2]
   exact ⟨trivial,trivial,by unfold Q4; rw [b2]; rfl,trivial⟩
 rintro F H ⟨f0,f3,f15,rfl⟩
 simp -implicitDefEqProofs only [BI,A7,AY,f15]
 refine CX (fun hb => ?_) (fun hb => ?_)
 ·simp -implicitDefEqProofs only [BC,A8,BK,A7,CW,CU,AZ,BB,AC,AQ,AO,BD,AX,AL,AA,AU,BL,BA,↓reduceIte,jB,jC]
  exact ⟨by rw [hb]; rfl,hx⟩
 rw [hb,qF]
 simp -implicitDefEqProofs only [BC,CG,A8,BQ,A7,AZ,BB,AC,AQ,AO,BD,AX,AL,AU,BH,BA,jB,jC]
 refine D5 (fun k F H' => ∃ j,k+j=e.args.length∧F 0 = .sl m 4 (l.map E5)∧F 3 = .ptr eb 0 0∧F 5 = .int .i64 (j:Nat)∧H'=H∧(IR (e.args.take j)).any (Q4 l)=false) e.args.length ⟨0,by simp,by simp -implicitDefEqProofs only [AA,↓reduceIte,jA,f0],by simp -implicitDefEqProofs only [AA,↓reduceIte,jA,f3],by simp -implicitDefEqProofs only [AA,↓reduceIte]; rfl,rfl,rfl⟩ ?_
 clear f0 f3 f15
 rintro k F H ⟨j,hj,f0,f3,f5,rfl,hkn⟩
 simp -implicitDefEqProofs only [BC,A8,BI,A7,AZ,BB,AC,AQ,AO,BD,AX,AL,AA,AY,BG,BO,BX,BJ,EW,AB,C9,↓reduceIte,jA,jG,jB,jC,enP,WE,OI,f3,f5,l3,jM]
 refine CX (fun hc => ?_) (fun hc => ?_)
 ·have hj':j < e.args.length:=by simpa using hc
  have hmem:e.args[j]∈e.args:=jX hj'
  have hsplit:IR e.args=IR (e.args.take j) ++ (pre e.args[j] ++ IR (e.args.drop (j+1))):=by
   rw [← zH,← KW _ _ hj',← NF,List.take_append_drop]
  simp -implicitDefEqProofs only [BC,CG,A8,BQ,A7,AZ,AC,AQ,AO,BD,AX,AL,AA,AY,BZ,BG,BO,BJ,CO,CB,BP,AB,jF,jE,jD,↓reduceIte,jA,jG,jB,jC,enP,AAQ,OI,f0,f3,f5,l3,EQ hj',FQ WS OZ G9 hj']
  refine (ih e.args[j] hmem (by have:=QY hmem; omega) H).use ?_
  simp -implicitDefEqProofs only [BI,A7,BB,AL,AA,AY,↓reduceIte]
  refine CX (fun hb => ?_) (fun hb => ?_)
  ·simp -implicitDefEqProofs only [BC,A8,BK,A7,CW,EN,FV,CU,AZ,BB,AC,AQ,AO,BD,AX,AL,AA,AU,BL,BA,↓reduceIte,jB,jC]
   refine ⟨?_,hx⟩
   have hb:(pre e.args[j]).any (Q4 l)=true:=hb
   rw [hsplit,List.any_append,List.any_append,hb]; simp
  ·simp -implicitDefEqProofs only [A8,BQ,A7,ET,EX,AZ,BB,AC,AQ,AO,BD,AX,AL,AA,AY,AU,BH,BG,BA,BX,AB,DX,↓reduceIte,jA,jB,jC,enP,f5,wrap_succ (show j < 9223372036854775807 by omega)]
   have hb:(pre e.args[j]).any (Q4 l)=false:=hb
   exact ⟨k - 1,by omega,j+1,by omega,by trivial,by trivial,rfl,trivial,by rw [KW _ _ hj',List.any_append,hkn,hb]; rfl⟩
 ·have hj' : ¬ j < e.args.length:=by simpa using hc
  rw [zB (by omega)] at hkn
  simp -implicitDefEqProofs only [BC,A8,BK,DW,A7,EP,FH,FM,CU,AZ,BB,AC,AQ,AO,BD,AX,AL,AA,AU,BL,BA,↓reduceIte,jB,jC]
  exact ⟨by rw [hkn],hx⟩
theorem ANF (l:List Vr) (m:SM) (hl:l.length≤1048576) (e:Ex) (hw:(pre e).length≤1048576) (h:Hp):PCall (En G) 111 [.sl m 4 (l.map E5),.agg (DR e)] h (.int .i64 (plE l e)):=by
 refine ACalls.pure0 rfl ?_
 refine acN Tryz.func111 rfl ?_
 show awp _ _ _ _ _ (EH _ [.tmp 4] _)
 simp -implicitDefEqProofs only [BC,A8,A7,AZ,BB,AC,AQ,AO,BD,AX,AL,AA,AY,AU,BZ,BH,BA,FK,BO,CB,BP,BR,AB,BF,BU,jF,jE,jD,↓reduceIte,jA,jB,jC,enP,bxE,ldE]
 refine (AKV G e hw _).use ?_
 simp -implicitDefEqProofs only [BI,A7,BB,AL,AA,AY,↓reduceIte]
 refine CX (fun hb => ?_) (fun hb => ?_)
 ·simp -implicitDefEqProofs only [BC,A8,BK,A7,CW,CU,AZ,BB,AC,AQ,AO,BD,AX,AL,AA,AU,BH,BA,↓reduceIte,jB,jC]
  exact ⟨by unfold plE; rw [hb]; rfl,_,rfl⟩
 simp -implicitDefEqProofs only [BC,A8,BQ,A7,AZ,AC,AQ,AO,BD,AX,AL,AA,AY,BZ,BG,BO,CB,BP,AB,BF,jF,jE,jD,↓reduceIte,jA,jB,jC,enP,ldE]
 refine (AH3 G l m hl e hw _).use ?_
 simp -implicitDefEqProofs only [BI,A7,BB,AL,AA,AY,↓reduceIte]
 refine CX (fun hf => ?_) (fun hf => ?_)
 ·simp -implicitDefEqProofs only [BC,A8,BK,A7,CW,CU,AZ,BB,AC,AQ,AO,BD,AX,AL,AA,AU,BH,BA,↓reduceIte,jB,jC]
  exact ⟨by unfold plE; rw [hb,hf]; rfl,_,rfl⟩
 ·simp -implicitDefEqProofs only [BC,A8,BQ,BK,A7,CU,AZ,BB,AC,AQ,AO,BD,AX,AL,AA,AU,BH,BA,↓reduceIte,jB,jC]
  exact ⟨by unfold plE; rw [hb,hf]; rfl,_,rfl⟩
theorem TT (l:List Vr) (m:SM) (hl:l.length≤1048576) (xs:List Ex) (s:SM) (hx:xs.length≤1048576) (hw : ∀ e∈xs,wt e≤1048576) (h:Hp):PCall (En G) 51 [.sl m 4 (l.map E5),.sl s 4 (xs.map DR)] h (.int .i64 (KD l xs)):=by
 refine acN Tryz.func51 rfl ?_
 show awp _ _ _ _ _ (EH _ [.tmp 4] _)
 simp -implicitDefEqProofs only [BC,CG,A8,A7,AZ,BB,AC,AQ,AO,BD,AX,AL,AU,BH,BA,jB,jC,enX,enP]
 refine D5 (fun n F H => ∃ i,n+i=xs.length∧(∀ (j:Nat) (hj:j < i) (hl:j < xs.length),xpE l xs[j]=0)∧F 0 = .sl m 4 (l.map E5)∧F 1 = .sl s 4 (xs.map DR)∧F 5 = .int .i64 (i:Nat)∧H=h) xs.length ⟨0,by simp,fun j hj=>absurd hj (by omega),by simp -implicitDefEqProofs only [AA,BF,↓reduceIte,jA],by simp -implicitDefEqProofs only [AA,BF,BU,↓reduceIte,jA],by simp -implicitDefEqProofs only [AA,↓reduceIte]; rfl,rfl⟩ ?_
 rintro n F H ⟨i,hi,hb,f0,f1,f5,rfl⟩
 simp -implicitDefEqProofs only [BC,A8,BI,A7,AZ,BB,AC,AQ,AO,BD,AX,AL,AA,AY,BG,BX,EW,AB,C9,↓reduceIte,jA,jB,jC,enP,WE,f1,f5,jM]
 refine CX (fun hc => ?_) (fun hc => ?_)
 ·have hi':i < xs.length:=by simpa using hc
  have hwi:=hw _ (jX hi')
  have hbad:xpE l xs[i]≠0→KD l xs=xpE l xs[i]:=fun hz=>QG (xpE l) xs i hi' (fun j hj=>hb j hj (by omega)) hz
  simp -implicitDefEqProofs only [BC,CG,A8,BQ,A7,AZ,AC,AQ,AO,BD,AX,AL,AA,AY,BZ,BG,BO,CO,CB,BP,AB,jF,jE,jD,↓reduceIte,jA,jB,jC,enP,AAQ,f1,f5,EQ hi',FQ WS OZ G9 hi']
  refine (Z9 G xs[i] H hwi).use ?_
  simp -implicitDefEqProofs only [BC,A8,BI,A7,AZ,BB,AC,AQ,AO,BD,AX,AL,AA,AY,AU,BH,BG,BA,BX,AB,EU,↓reduceIte,jB,jC,enP]
  refine CX (fun he => ?_) (fun he => ?_)
  ·have he':exE xs[i]≠0:=by simpa [bne] using he
   have hxp:xpE l xs[i]=exE xs[i]:=by unfold xpE; rw [if_pos he']
   simp -implicitDefEqProofs only [BC,A8,BK,A7,CW,EN,FV,CU,AZ,BB,AC,AQ,AO,BD,AX,AL,AA,AY,BG,BA,↓reduceIte,jA,jB,jC]
   exact ⟨by rw [hbad (by rw [hxp]; exact he'),hxp],trivial⟩
  have he':exE xs[i]=0:=by simpa [bne] using he
  have hxp:xpE l xs[i]=plE l xs[i]:=by unfold xpE; rw [if_neg (by simp [he'])]
  simp -implicitDefEqProofs only [BC,A8,BQ,A7,AZ,AC,AQ,AO,BD,AX,AL,AA,AY,BZ,BG,BO,CO,CB,BP,AB,jF,jE,jD,↓reduceIte,jA,jB,jC,enP,AAQ,f0,f1,f5,EQ hi',FQ WS OZ G9 hi']
  refine (ANF G l m hl xs[i] (by have:=Y8 xs[i]; omega) H).use ?_
  simp -implicitDefEqProofs only [BC,A8,BI,A7,AZ,BB,AC,AQ,AO,BD,AX,AL,AA,AY,AU,BH,BG,BA,BX,AB,EU,↓reduceIte,jB,jC,enP]
  refine CX (fun hp => ?_) (fun hp => ?_)
  ·have hp':plE l xs[i]≠0:=by simpa [bne] using hp
   simp -implicitDefEqProofs only [BC,A8,BK,A7,CW,EN,FV,CU,AZ,BB,AC,AQ,AO,BD,AX,AL,AA,AY,BG,BA,↓reduceIte,jA,jB,jC]
   exact ⟨by rw [hbad (by rw [hxp]; exact hp'),hxp],trivial⟩
  ·have hp':plE l xs[i]=0:=by simpa [bne] using hp
   simp -implicitDefEqProofs only [A8,BQ,A7,ET,EX,AZ,BB,AC,AQ,AO,BD,AX,AL,AA,AY,AU,BH,BG,BA,BX,AB,DX,↓reduceIte,jA,jB,jC,enP,f5,wrap_succ (show i < 9223372036854775807 by omega)]
   refine ⟨n - 1,by omega,i+1,by omega,fun j hj hl => ?_,by trivial,by trivial,rfl,trivial⟩
   rcases jT j i with h1 | h1
   ·exact hb j h1 hl
   ·obtain rfl:j=i:=by omega
    rw [hxp]; exact hp'
 ·have hi' : ¬ i < xs.length:=by simpa using hc
  simp -implicitDefEqProofs only [BC,A8,BK,DW,A7,EP,FH,FM,CU,AZ,BB,AC,AQ,AO,BD,AX,AL,AA,AU,BH,BA,↓reduceIte,jB,jC]
  exact ⟨by rw [KD,OH (xpE l) xs fun j hj=>hb j (by omega) hj],trivial⟩
end
theorem ARP (e:Ex):decide (((nmL [3,24] [] (pre e)).length:Int) > 0)=YX e:=by
 have h:=AFJ (fun _=>false) [3,24] (pre e) []
 have h1:(nmL [3,24] [] (pre e)).all (fun _=>false)=decide ((nmL [3,24] [] (pre e)).length=0):=by
  cases nmL [3,24] [] (pre e) <;> simp
 rw [h1] at h
 unfold YX
 have h2:(pre e).any PL = !((pre e).all fun e => !Rk.hasB [3,24] e.op || false):=by
  rw [List.not_all_eq_any_not]
  congr 1
  funext x
  unfold PL Rk.hasB
  rw [qB]
  simp
  constructor
  ·rintro (h | h) <;> simp [h]
  ·rintro (h | h) <;> simp [h]
 rw [h2]
 simp only [List.all_nil,zV] at h
 rw [← h]
 cases nmL [3,24] [] (pre e) <;> simp
theorem AQP (l:List Vr) (e:Ex):(nmL [2] [] (pre e)).any (fun n=>decide (plc l n < 0))=VO l e:=by
 have h:=AFJ (fun n => !decide (plc l n < 0)) [2] (pre e) []
 simp only [List.all_nil,zV] at h
 rw [← Bool.not_inj_iff,List.not_any_eq_all_not,h]
 unfold VO
 rw [List.not_any_eq_all_not]
 congr 1
 funext x
 unfold Q4 Rk.hasB
 rw [qB]
 simp
 constructor
 ·rintro (h1 | h1)
  ·exact .inl fun e=>h1 e.symm
  ·exact .inr h1
 ·rintro (h1 | h1)
  ·exact .inl fun e=>h1 e.symm
  ·exact .inr h1
theorem A02 (h:Hp) (a b:SM) (x y:List (List AV)):ER Tryz.prog false h 188 2 [(0,.sl a 4 x),(1,.sl b 4 y)]=some (.sl .full 1 [[.sl a 4 x],[.sl b 4 y]],h):=by kernel_rfl
section
variable (G:Nat→AV)
theorem AZ3 (p:Pr) (n:ByteArray) (c:Nat) (h:Hp) (hc:h[c]? = some (.live 5 [DZ p])) (hl:p.vars.length≤1048576):PCall (En G) 126 ([.str n] ++ [.ptr c 0 0]) h (.bool (decide (plc p.vars n < 0))):=by
 refine acN Tryz.func126 rfl ?_
 show awp _ _ _ _ _ (EH _ [.tmp 3] _)
 have l0:DF Tryz.prog h 22 (.ptr c 0 0)=some (.sl p.vm 4 (p.vars.map E5)):=by rw [DI UD hc (row:=DZ p) rfl]; rfl
 simp -implicitDefEqProofs only [BC,A8,A7,AZ,BB,AC,AQ,AO,BD,AX,AL,AA,AY,AU,BZ,BL,BG,BA,BO,BJ,CB,BP,AB,BF,BU,jF,jE,jD,zU,qC,↓reduceIte,jA,jI,jB,jC,enX,enP,KH,l0]
 refine (index_prog G p.vars p.vm n h (by omega)).use ?_
 simp -implicitDefEqProofs only [BK,A7,CU,AZ,BB,AC,AQ,AO,BD,AX,AL,AA,AY,AU,BH,BA,BX,AB,C9,↓reduceIte,jB,jC,enP]
 exact ⟨trivial,trivial⟩
theorem AKC (hG:GOk G) (p:Pr) (hl:p.vars.length≤1048576) (hx:p.hard.length+p.soft.length≤1048576) (hw : ∀ e∈p.hard ++ p.soft,wt e≤1048576) (h:Hp):PCall (En G) 62 [.agg (DZ p)] h (.int .i64 (KD p.vars (p.hard ++ p.soft))):=by
 refine ACalls.pure0 rfl ?_
 refine acN Tryz.func62 rfl ?_
 show awp _ _ _ _ _ (EH _ [.tmp 2] _)
 have ge:=CV h (ABlk.live 5 [DZ p])
 have hxx:ext h (h ++ [ABlk.live 5 [DZ p]]):=(ext.rfl' h).app _
 simp -implicitDefEqProofs only [BC,A8,A7,AZ,BB,AC,AQ,AO,BD,AX,AL,AA,AY,AU,BH,BA,FK,BO,BJ,BR,AB,BF,↓reduceIte,jA,jG,jB,jC,enP,AQV,TZ]
 generalize h ++ [ABlk.live 5 [DZ p]]=H1 at ge hxx ⊢
 generalize h.length=eb at ge ⊢
 have l1:DF Tryz.prog H1 23 (.ptr eb 0 1)=some (.sl p.hm 4 (p.hard.map DR)):=by rw [DI WT ge (row:=DZ p) rfl]; rfl
 have l2:DF Tryz.prog H1 23 (.ptr eb 0 2)=some (.sl p.sm 4 (p.soft.map DR)):=by rw [DI WT ge (row:=DZ p) rfl]; rfl
 simp -implicitDefEqProofs only [FT,FX,AZ,AC,AQ,AO,BD,AX,AL,AA,AY,BZ,FU,BO,BJ,CB,BP,BR,AB,jF,jE,jD,↓reduceIte,jA,jG,jB,jC,enP,AQU,l1,l2,A02]
 have hfl:fl [⟨p.hm,p.hard⟩,⟨p.sm,p.soft⟩]=p.hard ++ p.soft:=by simp [fl]
 have hcc:=AIK G [⟨p.hm,p.hard⟩,⟨p.sm,p.soft⟩] .full (by simp) (by rw [hfl,zS]; omega) H1
 rw [hfl] at hcc
 refine hcc.use ?_
 have hxl:(p.hard ++ p.soft).length≤1048576:=by rw [zS]; omega
 generalize p.hard ++ p.soft=xs at hw hxl ⊢
 simp -implicitDefEqProofs only [CG,A7,AZ,BB,AC,AQ,AO,BD,AX,AL,AA,AY,AU,BH,BG,EW,AB,↓reduceIte,jB,jC,enP,WE,jM]
 refine D5 (fun n F H => ∃ i,n+i=xs.length∧(∀ (j:Nat) (hj:j < i) (hl:j < xs.length),xpE p.vars xs[j]=0)∧F 1 = .ptr eb 0 0∧F 11 = .sl (nm xs) 4 (xs.map DR)∧F 12 = .int .i64 (xs.length:Nat)∧F 13 = .int .i64 (i:Nat)∧H[eb]? = some (.live 5 [DZ p])∧ext h H) xs.length ⟨0,by simp,fun j hj=>absurd hj (by omega),by simp -implicitDefEqProofs only [AA,↓reduceIte,jA],by simp -implicitDefEqProofs only [AA,↓reduceIte,jA],by simp -implicitDefEqProofs only [AA,↓reduceIte,jA],by simp -implicitDefEqProofs only [AA,↓reduceIte]; rfl,ge,hxx⟩ ?_
 clear ge hxx l1 l2
 rintro n F H ⟨i,hi,hb,f1,f11,f12,f13,ge,hxx⟩
 simp -implicitDefEqProofs only [BC,A8,BI,A7,AZ,BB,AC,AQ,AO,BD,AX,AL,AA,AY,BX,AB,C9,↓reduceIte,jB,jC,enP,f12,f13]
 refine CX (fun hc => ?_) (fun hc => ?_)
 ·have hi':i < xs.length:=by simpa using hc
  have hwi:=hw _ (jX hi')
  have hbad:xpE p.vars xs[i]≠0→KD p.vars xs=xpE p.vars xs[i]:=fun hz=>QG (xpE p.vars) xs i hi' (fun j hj=>hb j hj (by omega)) hz
  have ge1:(H ++ [ABlk.live 4 [DR xs[i]]])[eb]? = _:=BN ge
  have hx1:ext h (H ++ [ABlk.live 4 [DR xs[i]]]):=hxx.app _
  have gE:=CV H (ABlk.live 4 [DR xs[i]])
  have al40:JO Tryz.prog H 37=some (.ptr H.length 0 0,H ++ [.live 4 [[.int .i64 0,.int .i64 0,.str ⟨#[]⟩,.sl .nil 0 []]]]):=JE (row := [.int .i64 0,.int .i64 0,.str ⟨#[]⟩,.sl .nil 0 []]) (by kernel_rfl)
  have st40:FB Tryz.prog (H ++ [.live 4 [[.int .i64 0,.int .i64 0,.str ⟨#[]⟩,.sl .nil 0 []]]]) 37 (.ptr H.length 0 0) (.agg (DR xs[i]))=some (H ++ [.live 4 [DR xs[i]]]):=by
   have hle:(DR xs[i]).length=4:=G9 _
   rw [XG (cs:=DR xs[i]) (row := [.int .i64 0,.int .i64 0,.str ⟨#[]⟩,.sl .nil 0 []]) (QN (by rw [MH]; rfl)) (by rw [hle]; exact OZ) (CV _ _) (by rw [hle]; exact jO 4),LD]
   have:splice [.int .i64 0,.int .i64 0,.str ⟨#[]⟩,.sl .nil 0 []] 0 (DR xs[i])=DR xs[i]:=by
    unfold splice; rw [qA,List.drop_eq_nil_of_le (by rw [hle]; exact jO 4)]; simp
   rw [this]
  simp -implicitDefEqProofs only [BC,CG,A8,BQ,A7,AZ,BB,AC,AQ,AO,BD,AX,AL,DK,AA,AY,EF,BO,DC,CO,BR,AB,CJ,↓reduceIte,jA,jB,jC,enP,AAQ,jJ,f11,f13,EQ hi',FQ WS OZ G9 hi',al40,st40]
  generalize H ++ [ABlk.live 4 [DR xs[i]]]=H1 at ge1 hx1 gE ⊢
  simp -implicitDefEqProofs only [AZ,AC,AQ,AO,BD,AX,AL,AA,AY,BZ,CB,BP,AB,jF,jE,jD,↓reduceIte,jB,jC,IU gE]
  refine (YL G hG xs[i] _ hwi).use ?_
  simp -implicitDefEqProofs only [BC,A8,BI,A7,AZ,BB,AC,AQ,AO,BD,AX,AL,AA,AY,AU,BH,BG,BA,BX,AB,EU,↓reduceIte,jB,jC,enP]
  refine CX (fun he => ?_) (fun he => ?_)
  ·have he':exE xs[i]≠0:=by simpa [bne] using he
   have hxp:xpE p.vars xs[i]=exE xs[i]:=by unfold xpE; rw [if_pos he']
   simp -implicitDefEqProofs only [BC,A8,BK,A7,CW,EN,FV,CU,AZ,BB,AC,AQ,AO,BD,AX,AL,AA,AY,BG,BA,↓reduceIte,jA,jB,jC]
   exact ⟨by rw [hbad (by rw [hxp]; exact he'),hxp],hx1⟩
  have he':exE xs[i]=0:=by simpa [bne] using he
  have hxp:xpE p.vars xs[i]=plE p.vars xs[i]:=by unfold xpE; rw [if_neg (by simp [he'])]
  simp -implicitDefEqProofs only [BC,A8,BQ,A7,AZ,AC,AQ,AO,BD,AX,AL,AA,AY,BZ,BO,CB,BP,AB,jF,jE,jD,↓reduceIte,jA,jB,jC,enP,IU gE]
  refine (AAI G xs[i] hwi _).use ?_
  simp -implicitDefEqProofs only [BI,A7,AZ,BB,AC,AQ,AO,BD,AX,AL,AA,AY,AU,BH,BX,EW,AB,F6,↓reduceIte,jB,jC,enP,ADO,jM,ARP]
  refine CX (fun ha => ?_) (fun ha => ?_)
  ·have hpl:plE p.vars xs[i]=9:=by unfold plE; rw [if_pos ha]
   simp -implicitDefEqProofs only [BC,A8,BK,A7,CW,EN,FV,CU,AZ,BB,AC,AQ,AO,BD,AX,AL,AA,AU,BH,BA,↓reduceIte,jB,jC]
   exact ⟨by rw [hbad (by rw [hxp,hpl]; decide),hxp,hpl],hx1⟩
  simp -implicitDefEqProofs only [BC,A8,BQ,A7,AZ,AC,AQ,AO,BD,AX,AL,AA,AY,BZ,BO,CB,BP,AB,jF,jE,jD,↓reduceIte,jA,jB,jC,enP,IU gE]
  refine (ADB G xs[i] hwi _).use ?_
  simp -implicitDefEqProofs only [AZ,AC,AQ,AO,BD,AX,AL,AA,AY,BZ,II,CB,BP,jF,jE,jD,↓reduceIte,jA,jB,jC,f1]
  have hnl:(nmL [2] [] (pre xs[i])).length≤1048576:=by
   have h1:=AA5 [2] (pre xs[i]) []
   have h2:=Y8 xs[i]
   simp at h1; omega
  refine (ATU G (nmL [2] [] (pre xs[i])) (nm (nmL [2] [] (pre xs[i]))) 126 [.ptr eb 0 0] (fun n=>decide (plc p.vars n < 0)) H1 (by omega) fun n _=>AZ3 G p n eb _ ge1 hl).use ?_
  simp -implicitDefEqProofs only [BI,A7,BB,AL,AA,AY,↓reduceIte,AQP]
  refine CX (fun hf => ?_) (fun hf => ?_)
  ·have hpl:plE p.vars xs[i]=7:=by unfold plE; rw [ha,hf]; rfl
   simp -implicitDefEqProofs only [BC,A8,BK,A7,CW,EN,FV,CU,AZ,BB,AC,AQ,AO,BD,AX,AL,AA,AU,BH,BA,↓reduceIte,jB,jC]
   exact ⟨by rw [hbad (by rw [hxp,hpl]; decide),hxp,hpl],hx1⟩
  ·have hpl:plE p.vars xs[i]=0:=by unfold plE; rw [ha,hf]; rfl
   simp -implicitDefEqProofs only [A8,BQ,A7,ET,EX,AZ,BB,AC,AQ,AO,BD,AX,AL,AA,AY,AU,BH,BG,BX,AB,DX,↓reduceIte,jA,jB,jC,enP,f13,wrap_succ (show i < 9223372036854775807 by omega)]
   refine ⟨n - 1,by omega,i+1,by omega,fun j hj hl => ?_,by trivial,by trivial,by trivial,rfl,ge1,hx1⟩
   rcases jT j i with h1 | h1
   ·exact hb j h1 hl
   ·obtain rfl:j=i:=by omega
    rw [hxp]; exact hpl
 ·have hi' : ¬ i < xs.length:=by simpa using hc
  simp -implicitDefEqProofs only [BC,A8,BK,DW,A7,EP,FH,FM,CU,AZ,BB,AC,AQ,AO,BD,AX,AL,AA,AU,BH,BA,↓reduceIte,jB,jC]
  exact ⟨by rw [KD,OH (xpE p.vars) xs fun j hj=>hb j (by omega) hj],hxx⟩
end
def O0 (l:List Vr) (i:Int):Bool:=decide (0≤i) && (decide (i < l.length) && (match l[i.toNat]? with | some v => !(v.mode == 0) | none=>false))
def AC0 (x:Wg):Bool:=decide (x.lo < 0) || decide (x.lo > x.hi) || decide (x.hi > 65535) || decide (x.w < 0) || decide (x.w > 1000)
def dsE (l:List Vr) (ds:List Ds) (d:Ds):Int:=if O0 l d.var=true then if ds.any (fun x=>x.var == d.var)=true then 8 else if d.ws.length > 16 then 2 else if d.ws.any AC0=true then 1 else 0 else 1
def dsI (l:List Vr) (ds:List Ds) (i:Nat):Int:=match ds[i]? with | some d=>dsE l (ds.take i) d | none=>0
def MZ (l:List Vr) (ds:List Ds):Int:=N8 (dsI l ds) (List.range ds.length)
theorem AF7 {l:List Vr} {ds:List Ds} {i:Nat} (hi:i < ds.length):dsI l ds i=dsE l (ds.take i) ds[i]:=by unfold dsI; rw [jS hi]
theorem ACS {l:List Vr} {ds:List Ds} {i:Nat} (hi:i < ds.length) (hb : ∀ j,j < i→dsI l ds j=0) (h:dsE l (ds.take i) ds[i]≠0):MZ l ds=dsE l (ds.take i) ds[i]:=by
 have:=QG (dsI l ds) (List.range ds.length) i (by simpa using hi) (fun j hj=>by rw [List.getElem_range]; exact hb j hj) (by rw [List.getElem_range,AF7 hi]; exact h)
 rw [List.getElem_range,AF7 hi] at this
 exact this
theorem AAB {l:List Vr} {ds:List Ds} (hb : ∀ j,j < ds.length→dsI l ds j=0):MZ l ds=0 :=
 OH _ _ fun j hj=>by rw [List.getElem_range]; exact hb j (by simpa using hj)
theorem U5 {l:List Vr} {n:Nat} (hn:n < l.length):O0 l (n:Nat) = !(l[n].mode == 0):=by
 unfold O0
 rw [decide_eq_true (by omega),decide_eq_true (by omega),qZ,jS hn]; rfl
theorem A3L (h:Hp):JO Tryz.prog h 141=some (.ptr h.length 0 0,h ++ [.live 2 [[.int .i64 0,.sl .nil 0 []]]]):=JE (row := [.int .i64 0,.sl .nil 0 []]) (by kernel_rfl)
theorem A19 (h:Hp) (v:Ds):FB Tryz.prog (h ++ [.live 2 [[.int .i64 0,.sl .nil 0 []]]]) 141 (.ptr h.length 0 0) (.agg (KA v))=some (h ++ [.live 2 [KA v]]):=by
 rw [XG (cs:=KA v) (row := [.int .i64 0,.sl .nil 0 []]) rfl AG1 (CV _ _) (by exact jO 2),LD]
 rfl
theorem A3K (h:Hp):JO Tryz.prog h 143=some (.ptr h.length 0 0,h ++ [.live 4 [[.int .i64 0,.int .i64 0,.int .i64 0,.bool false]]]):=JE (row := [.int .i64 0,.int .i64 0,.int .i64 0,.bool false]) (by kernel_rfl)
theorem A18 (h:Hp) (v:Wg):FB Tryz.prog (h ++ [.live 4 [[.int .i64 0,.int .i64 0,.int .i64 0,.bool false]]]) 143 (.ptr h.length 0 0) (.agg (JZ v))=some (h ++ [.live 4 [JZ v]]):=by
 rw [XG (cs:=JZ v) (row := [.int .i64 0,.int .i64 0,.int .i64 0,.bool false]) rfl ALS (CV _ _) (by exact jO 4),LD]
 rfl
theorem A1Z {l:List Ds} {h:Hp} {m:SM} {i:Nat} (hi:i≤l.length) : ∃ m',LC Tryz.prog h 24 (.sl m 2 (l.map KA)) none (some (.int .i64 (i:Nat))) none=some (.sl m' 2 ((l.take i).map KA)) :=
 ⟨AOB m i (l.map KA).length,by rw [ALT A1X AG1 (by rw [jM]; exact hi),List.map_take]⟩
section
variable (G:Nat→AV)
theorem UI (p:Pr) (i:Int) (_:p.vars.length≤1048576) (h:Hp):PCall (En G) 127 [.agg (DZ p),.int .i64 i] h (.bool (O0 p.vars i)):=by
 refine ACalls.pure0 rfl ?_
 refine acN Tryz.func127 rfl ?_
 show awp _ _ _ _ _ (EH _ [.tmp 4] _)
 have l0:DF Tryz.prog (h ++ [ABlk.live 5 [DZ p]]) 22 (.ptr h.length 0 0)=some (.sl p.vm 4 (p.vars.map E5)):=by rw [DI UD (CV _ _) (row:=DZ p) rfl]; rfl
 simp -implicitDefEqProofs only [BC,A8,A7,AZ,BB,BM,CE,CQ,AC,AQ,AO,BD,AX,AL,AA,AY,AU,BH,BL,BG,BA,FK,BX,BR,AB,F7,BF,BU,↓reduceIte,jA,jB,jC,enP,TZ]
 cases b1:decide (i≥0)
 ·simp -implicitDefEqProofs only [BK,A7,CU,AZ,BB,BM,CE,CQ,I7,AC,AQ,AO,BD,AX,AL,AA,EO,AY,AU,BL,BG,BA,CS,DU,↓reduceIte,jA,jB,jC,b1]
  refine ⟨?_,_,rfl⟩
  unfold O0; rw [show decide (0≤i)=false from b1]; rfl
 have h0:0≤i:=by simpa using b1
 obtain ⟨n,rfl⟩:=qW h0
 simp -implicitDefEqProofs only [AZ,BM,CE,CQ,FY,AC,AQ,AO,BD,AX,AL,AA,AY,AU,BL,BG,CS,DL,BO,BX,BJ,EW,AB,C9,BF,BU,↓reduceIte,jA,jI,jB,jC,enP,RG,KH,b1,l0,jM]
 cases b2:decide (((n:Nat):Int) < ((p.vars.length:Nat):Int))
 ·simp -implicitDefEqProofs only [BK,A7,CU,AZ,BB,BM,CE,CQ,I7,AC,AQ,AO,BD,AX,AL,AA,EO,AY,AU,BL,BA,CS,DU,↓reduceIte,jA,jB,jC,b2]
  refine ⟨?_,_,rfl⟩
  unfold O0; rw [b2]; simp
 have hn:n < p.vars.length:=by simpa using b2
 have l2:DF Tryz.prog (h ++ [ABlk.live 5 [DZ p]]) 3 (.fptr 4 (p.vars.map E5) n 2)=some (.int .i64 p.vars[n].mode):=by rw [FO ag3 hn]; rfl
 simp -implicitDefEqProofs only [BK,A7,CU,AZ,BB,BM,CE,CQ,FY,AC,AQ,AO,BD,AX,AL,AA,AY,AU,BH,BL,BG,BA,CS,DL,BO,BX,BJ,CO,AB,EU,BF,BU,↓reduceIte,jA,jI,jG,jB,jC,enP,RH,KH,MM,b2,l0,EQ hn,l2,bne]
 exact ⟨by rw [U5 hn],_,rfl⟩
theorem AZ2 (x d:Ds) (c:Nat) (h:Hp) (hc:h[c]? = some (.live 2 [KA d])):PCall (En G) 129 ([.agg (KA x)] ++ [.ptr c 0 0]) h (.bool (x.var == d.var)):=by
 refine ACalls.pure0 rfl ?_
 refine acN Tryz.func129 rfl ?_
 show awp _ _ _ _ _ (EH _ [.tmp 3] _)
 have hc':(h ++ [ABlk.live 2 [KA x]])[c]? = _:=BN hc
 have l0:DF Tryz.prog (h ++ [ABlk.live 2 [KA x]]) 3 (.ptr h.length 0 0)=some (.int .i64 x.var):=by rw [DI ag3 (CV _ _) (row:=KA x) rfl]; rfl
 have l1:DF Tryz.prog (h ++ [ABlk.live 2 [KA x]]) 3 (.ptr c 0 0)=some (.int .i64 d.var):=by rw [DI ag3 hc' (row:=KA d) rfl]; rfl
 simp -implicitDefEqProofs only [BC,A8,BK,A7,CU,AZ,BB,AC,AQ,AO,BD,AX,AL,AA,AY,AU,BL,BA,FK,BO,BX,BJ,BR,AB,EC,BF,BU,zU,qC,↓reduceIte,jA,jI,jB,jC,enP,VE,bxD,l0,l1]
 exact ⟨trivial,_,rfl⟩
theorem AZ0 (x:Wg) (h:Hp):PCall (En G) 180 ([.agg (JZ x)] ++ []) h (.bool (AC0 x)):=by
 refine ACalls.pure0 rfl ?_
 refine acN Tryz.func180 rfl ?_
 show awp _ _ _ _ _ (EH _ [.tmp 2] _)
 have l0:DF Tryz.prog (h ++ [ABlk.live 4 [JZ x]]) 3 (.ptr h.length 0 0)=some (.int .i64 x.lo):=by rw [DI ag3 (CV _ _) (row:=JZ x) rfl]; rfl
 have l1:DF Tryz.prog (h ++ [ABlk.live 4 [JZ x]]) 3 (.ptr h.length 0 1)=some (.int .i64 x.hi):=by rw [DI ag3 (CV _ _) (row:=JZ x) rfl]; rfl
 have l2:DF Tryz.prog (h ++ [ABlk.live 4 [JZ x]]) 3 (.ptr h.length 0 2)=some (.int .i64 x.w):=by rw [DI ag3 (CV _ _) (row:=JZ x) rfl]; rfl
 simp -implicitDefEqProofs only [BC,A8,A7,AZ,BB,AC,AQ,AO,BD,AX,AL,AA,AY,AU,BL,BA,FK,BO,BJ,BR,AB,BF,jD,↓reduceIte,jA,jI,jB,jC,enP,OU,A3B]
 unfold AC0
 cases b1:decide (x.lo < 0)
 case true =>
  simp -implicitDefEqProofs only [Bool.true_or,BK,A7,CU,AZ,BB,BM,CE,CQ,GM,AC,AQ,AO,BD,AX,AL,AA,EO,AY,AU,BH,BL,BG,BA,CS,DL,BX,AB,C9,↓reduceIte,jA,jB,jC,enP,l0,b1]
  exact ⟨trivial,_,rfl⟩
 cases b2:decide (x.lo > x.hi)
 case true =>
  simp -implicitDefEqProofs only [qV,Bool.true_or,BK,A7,CU,AZ,BB,BM,CE,CQ,EZ,GM,AC,AQ,AO,BD,AX,AL,AA,EO,AY,AU,BH,BL,BG,BA,CS,DL,DU,BO,BX,BJ,AB,C9,F6,↓reduceIte,jA,jI,jG,jB,jC,enP,OU,Q5,l0,l1,b1,b2]
  exact ⟨trivial,_,rfl⟩
 cases b3:decide (x.hi > 65535)
 case true =>
  simp -implicitDefEqProofs only [jW,qV,Bool.true_or,BK,A7,CU,AZ,BB,BM,CE,CQ,EZ,GM,AC,AQ,AO,BD,AX,AL,AA,EO,AY,AU,BH,BL,BG,BA,CS,DL,DU,BO,BX,BJ,AB,C9,F6,↓reduceIte,jA,jI,jG,jB,jC,enP,OU,Q5,l0,l1,b1,b2,b3]
  exact ⟨trivial,_,rfl⟩
 cases b4:decide (x.w < 0)
 case true =>
  simp -implicitDefEqProofs only [jW,qV,Bool.true_or,BK,A7,CU,AZ,BB,BM,CE,CQ,EZ,GM,AC,AQ,AO,BD,AX,AL,AA,EO,AY,AU,BH,BL,BG,BA,CS,DL,DU,BO,BX,BJ,AB,C9,F6,↓reduceIte,jA,jI,jG,jB,jC,enP,OU,Q5,ABA,l0,l1,l2,b1,b2,b3,b4]
  exact ⟨trivial,_,rfl⟩
 cases b5:decide (x.w > 1000)
 all_goals
  simp -implicitDefEqProofs only [jW,qV,BK,A7,CU,AZ,BB,BM,CE,CQ,EZ,AC,AQ,AO,BD,AX,AL,AA,AY,AU,BH,BL,BG,BA,CS,DU,BO,BX,BJ,AB,C9,F6,↓reduceIte,jA,jI,jG,jB,jC,enP,OU,Q5,ABA,l0,l1,l2,b1,b2,b3,b4,b5]
  exact ⟨trivial,_,rfl⟩
theorem AE4 (xs:List Wg) (m:SM) (hl:xs.length≤1048576) (h:Hp):PCall (En G) 130 [.sl m 4 (xs.map JZ)] h (.bool (!(xs.any AC0))):=by
 refine acN Tryz.func130 rfl ?_
 show awp _ _ _ _ _ (EH _ [.tmp 2] _)
 simp -implicitDefEqProofs only [BC,A8,A7,AZ,BB,AC,AQ,AO,BD,AX,AL,AA,AY,AU,BZ,BL,BG,BA,CB,BP,BF,jF,jE,jD,↓reduceIte,jA,jB,jC,enX,enP]
 refine (AXB G xs m 180 [] AC0 h (by omega) fun x _=>AZ0 G x h).use ?_
 simp -implicitDefEqProofs only [BK,A7,CU,AZ,BB,AC,AQ,AO,BD,AX,AL,AA,AY,BA,IQ,AB,FI,↓reduceIte,jB,jC]
 exact ⟨trivial,trivial⟩
theorem AKI (p:Pr) (hl:p.vars.length≤1048576) (hd:p.dists.length≤1048576) (hw : ∀ d∈p.dists,d.ws.length≤1048576) (h:Hp):PCall (En G) 64 [.agg (DZ p)] h (.int .i64 (MZ p.vars p.dists)):=by
 refine ACalls.pure0 rfl ?_
 refine acN Tryz.func64 rfl ?_
 show awp _ _ _ _ _ (EH _ [.tmp 2] _)
 have ge:=CV h (ABlk.live 5 [DZ p])
 have hxx:ext h (h ++ [ABlk.live 5 [DZ p]]):=(ext.rfl' h).app _
 simp -implicitDefEqProofs only [BC,A8,A7,AZ,BB,AC,AQ,AO,BD,AX,AL,AA,AY,AU,BH,BA,FK,BO,BJ,BR,AB,BF,↓reduceIte,jA,jG,jB,jC,enP,AKB,TZ]
 generalize h ++ [ABlk.live 5 [DZ p]]=H1 at ge hxx ⊢
 generalize h.length=eb at ge ⊢
 have l3:DF Tryz.prog H1 24 (.ptr eb 0 3)=some (.sl p.dm 2 (p.dists.map KA)):=by rw [DI AX4 ge (row:=DZ p) rfl]; rfl
 simp -implicitDefEqProofs only [CG,A7,AZ,BB,AC,AQ,AO,BD,AX,AL,AA,AY,AU,BH,BG,EW,AB,↓reduceIte,jB,jC,enP,AW5,l3,jM]
 refine D5 (fun n F H => ∃ i,n+i=p.dists.length∧(∀ (j:Nat),j < i→dsI p.vars p.dists j=0)∧F 1 = .ptr eb 0 0∧F 6 = .sl p.dm 2 (p.dists.map KA)∧F 7 = .int .i64 (p.dists.length:Nat)∧F 8 = .int .i64 (i:Nat)∧H[eb]? = some (.live 5 [DZ p])∧ext h H) p.dists.length ⟨0,by simp,fun j hj=>absurd hj (by omega),by simp -implicitDefEqProofs only [AA,↓reduceIte,jA],by simp -implicitDefEqProofs only [AA,↓reduceIte,jA],by simp -implicitDefEqProofs only [AA,↓reduceIte,jA],by simp -implicitDefEqProofs only [AA,↓reduceIte]; rfl,ge,hxx⟩ ?_
 clear ge hxx l3
 rintro n F H ⟨i,hi,hb,f1,f6,f7,f8,ge,hxx⟩
 simp -implicitDefEqProofs only [BC,A8,BI,A7,AZ,BB,AC,AQ,AO,BD,AX,AL,AA,AY,BX,AB,C9,↓reduceIte,jB,jC,enP,f7,f8]
 refine CX (fun hc => ?_) (fun hc => ?_)
 ·have hi':i < p.dists.length:=by simpa using hc
  have hwi:=hw _ (jX hi')
  have hbad:=ACS hi' hb
  have hat:=AF7 (l:=p.vars) hi'
  have ge1:(H ++ [ABlk.live 2 [KA p.dists[i]]])[eb]? = _:=BN ge
  have hx1:ext h (H ++ [ABlk.live 2 [KA p.dists[i]]]):=hxx.app _
  have gE:=CV H (ABlk.live 2 [KA p.dists[i]])
  simp -implicitDefEqProofs only [BC,CG,A8,BQ,A7,AZ,BB,AC,AQ,AO,BD,AX,AL,DK,AA,AY,BG,BA,EF,BO,DC,CO,BR,AB,CJ,↓reduceIte,jA,jB,jC,enP,AFO,jJ,f6,f8,EQ hi',FQ AVZ AG1 ACO hi',A3L,A19]
  generalize H ++ [ABlk.live 2 [KA p.dists[i]]]=H1 at ge1 hx1 gE ⊢
  have lp:DF Tryz.prog H1 27 (.ptr eb 0 0)=some (.agg (DZ p)):=by rw [GH VR UG ge1 (row:=DZ p) rfl (by rw [JF]; exact jO 5)]; rfl
  have l3:DF Tryz.prog H1 24 (.ptr eb 0 3)=some (.sl p.dm 2 (p.dists.map KA)):=by rw [DI AX4 ge1 (row:=DZ p) rfl]; rfl
  have d0:DF Tryz.prog H1 3 (.ptr H.length 0 0)=some (.int .i64 p.dists[i].var):=by rw [DI ag3 gE (row:=KA p.dists[i]) rfl]; rfl
  have d1:DF Tryz.prog H1 139 (.ptr H.length 0 1)=some (.sl p.dists[i].wm 4 (p.dists[i].ws.map JZ)):=by rw [DI AV0 gE (row:=KA p.dists[i]) rfl]; rfl
  obtain ⟨m',ht⟩:=A1Z (h:=H1) (m:=p.dm) (Nat.le_of_lt hi')
  simp -implicitDefEqProofs only [AZ,AC,AQ,AO,BD,AX,AL,AA,AY,BZ,BO,BJ,CB,BP,AB,jF,jE,jD,↓reduceIte,jA,jI,jB,jC,enP,VE,f1,lp,d0]
  refine (UI G p _ hl _).use ?_
  cases b1:O0 p.vars p.dists[i].var
  ·have he:dsE p.vars (p.dists.take i) p.dists[i]=1:=by unfold dsE; rw [b1]; rfl
   simp -implicitDefEqProofs only [BC,A8,BK,BI,A7,CW,EN,FV,CU,D6,AZ,BB,AC,AQ,AO,BD,AX,AL,AA,AY,AU,BH,BA,IQ,AB,FI,↓reduceIte,jB,jC]
   exact ⟨by rw [hbad (by rw [he]; decide),he],hx1⟩
  simp -implicitDefEqProofs only [Option.map_some,Option.map_none,BC,A8,BI,A7,D9,AZ,BB,AC,AQ,AO,BD,AX,AL,AA,AY,BZ,BG,BA,BO,IQ,II,NI,BJ,CB,BP,AB,FI,jF,jE,jD,↓reduceIte,jA,jG,jB,jV,jC,enP,AKB,f1,l3,ht]
  refine (AQJ G (p.dists.take i) m' 129 [.ptr H.length 0 0] (fun x=>x.var == p.dists[i].var) H1 (by rw [zQ]; omega) fun x _=>AZ2 G x p.dists[i] _ _ gE).use ?_
  cases b2:(p.dists.take i).any fun x=>x.var == p.dists[i].var
  case true =>
   have he:dsE p.vars (p.dists.take i) p.dists[i]=8:=by unfold dsE; rw [b1,b2]; rfl
   simp -implicitDefEqProofs only [BC,A8,BK,BI,A7,CW,EN,FV,CU,D6,AZ,BB,AC,AQ,AO,BD,AX,AL,AA,AY,AU,BH,BA,↓reduceIte,jB,jC]
   exact ⟨by rw [hbad (by rw [he]; decide),he],hx1⟩
  simp -implicitDefEqProofs only [BC,A8,BI,A7,D9,AZ,BB,AC,AQ,AO,BD,AX,AL,AA,AY,AU,BH,BA,BO,BX,BJ,EW,AB,F6,↓reduceIte,jA,jG,jB,jC,enP,AL8,YH,d1,jM]
  refine CX (fun b3 => ?_) (fun b3 => ?_)
  ·have he:dsE p.vars (p.dists.take i) p.dists[i]=2:=by unfold dsE; rw [b1,b2,if_pos rfl,if_neg (by decide),if_pos (by simp at b3; omega)]
   simp -implicitDefEqProofs only [BC,A8,BK,A7,CW,EN,FV,CU,AZ,BB,AC,AQ,AO,BD,AX,AL,AA,AU,BH,BA,↓reduceIte,jB,jC]
   exact ⟨by rw [hbad (by rw [he]; decide),he],hx1⟩
  simp -implicitDefEqProofs only [BC,A8,AZ,AC,AQ,AO,BD,AX,AL,AA,AY,BZ,BO,BJ,CB,BP,AB,jF,jE,jD,↓reduceIte,jA,jG,jB,jC,enP,YH,d1]
  refine (AE4 G p.dists[i].ws p.dists[i].wm hwi _).use ?_
  cases b4:p.dists[i].ws.any AC0
  case true =>
   have he:dsE p.vars (p.dists.take i) p.dists[i]=1:=by unfold dsE; rw [b1,b2,if_pos rfl,if_neg (by decide),if_neg (by simp at b3; omega),b4]; rfl
   simp -implicitDefEqProofs only [BC,A8,BK,BI,A7,CW,EN,FV,CU,D6,AZ,BB,AC,AQ,AO,BD,AX,AL,AA,AY,AU,BH,BA,IQ,AB,FI,↓reduceIte,jB,jV,jC]
   exact ⟨by rw [hbad (by rw [he]; decide),he],hx1⟩
  have he:dsE p.vars (p.dists.take i) p.dists[i]=0:=by unfold dsE; rw [b1,b2,if_pos rfl,if_neg (by decide),if_neg (by simp at b3; omega),b4]; rfl
  simp -implicitDefEqProofs only [A8,BQ,BI,A7,ET,EX,D9,AZ,BB,AC,AQ,AO,BD,AX,AL,AA,AY,AU,BH,BG,BA,BX,IQ,AB,DX,FI,↓reduceIte,jA,jB,jV,jC,enP,f8,wrap_succ (show i < 9223372036854775807 by omega)]
  refine ⟨n - 1,by omega,i+1,by omega,fun j hj => ?_,by trivial,by trivial,by trivial,rfl,ge1,hx1⟩
  rcases jT j i with h1 | h1
  ·exact hb j h1
  ·obtain rfl:j=i:=by omega
   rw [hat,he]
 ·have hi' : ¬ i < p.dists.length:=by simpa using hc
  simp -implicitDefEqProofs only [BC,A8,BK,DW,A7,EP,FH,FM,CU,AZ,BB,AC,AQ,AO,BD,AX,AL,AA,AU,BH,BA,↓reduceIte,jB,jC]
  exact ⟨by rw [AAB fun j hj=>hb j (by omega)],hxx⟩
end
section
variable (G:Nat→AV)
set_option maxHeartbeats 1000000 in
theorem AN8 (l:List Vr) (m:SM) (ds:List Ds) (s:SM) (hl:l.length≤1048576) (hd:ds.length≤1048576) (hw : ∀ d∈ds,d.ws.length≤1048576) (h:Hp):PCall (En G) 52 [.sl m 4 (l.map E5),.sl s 2 (ds.map KA)] h (.int .i64 (MZ l ds)):=by
 refine ACalls.pure0 rfl ?_
 refine acN Tryz.func52 rfl ?_
 show awp _ _ _ _ _ (EH _ [.tmp 4] _)
 simp -implicitDefEqProofs only [BC,CG,A8,A7,AZ,BB,AC,AQ,AO,BD,AX,AL,AU,BH,BA,jB,jC,enP]
 refine D5 (fun n F H => ∃ i,n+i=ds.length∧(∀ (j:Nat),j < i→dsI l ds j=0)∧F 0 = .sl m 4 (l.map E5)∧F 1 = .sl s 2 (ds.map KA)∧F 5 = .int .i64 (i:Nat)∧ext h H) ds.length ⟨0,by simp,fun j hj=>absurd hj (by omega),by simp -implicitDefEqProofs only [AA,BF,↓reduceIte,jA],by simp -implicitDefEqProofs only [AA,BF,BU,↓reduceIte,jA],by simp -implicitDefEqProofs only [AA,↓reduceIte]; rfl,ext.rfl' h⟩ ?_
 rintro n F H ⟨i,hi,hb,f0,f1,f5,hxx⟩
 simp -implicitDefEqProofs only [BC,A8,BI,A7,AZ,BB,AC,AQ,AO,BD,AX,AL,AA,AY,BG,BX,EW,AB,C9,↓reduceIte,jA,jB,jC,enP,AW5,f1,f5,jM]
 refine CX (fun hc => ?_) (fun hc => ?_)
 ·have hi':i < ds.length:=by simpa using hc
  have hwi:=hw _ (jX hi')
  have hbad:=ACS hi' hb
  have hat:=AF7 (l:=l) hi'
  have d0 : ∀ {k:Nat} (hk:k < ds.length) (H:Hp),DF Tryz.prog H 3 (.fptr 2 (ds.map KA) k 0)=some (.int .i64 ds[k].var):=fun hk H=>by rw [FO ag3 hk]; rfl
  have d1 : ∀ H:Hp,DF Tryz.prog H 139 (.fptr 2 (ds.map KA) i 1)=some (.sl ds[i].wm 4 (ds[i].ws.map JZ)):=fun H=>by rw [FO AV0 hi']; rfl
  simp -implicitDefEqProofs only [BC,CG,A8,BQ,A7,AZ,BM,CE,CQ,AC,AQ,AO,BD,AX,AL,AA,AY,AU,BH,BG,BO,BX,BJ,CO,AB,C9,↓reduceIte,jA,jI,jB,jC,enP,AFO,VE,f0,f1,f5,EQ hi',d0 hi']
  refine RV (fun F' H'=>F' 0 = .sl m 4 (l.map E5)∧F' 1 = .sl s 2 (ds.map KA)∧F' 5 = .int .i64 (i:Nat)∧F' 42 = .bool (!O0 l ds[i].var)∧H'=H) ?_ ?_
  ·cases b1:decide (ds[i].var < 0)
   case true =>
    simp -implicitDefEqProofs only [AZ,BB,BM,CE,CQ,GM,AC,AQ,AO,BD,AX,AL,AA,EO,AY,AU,BL,BG,CS,DL,↓reduceIte,jA,jB,jC,b1,f0,f1,f5]
    refine ⟨trivial,trivial,trivial,?_,trivial⟩
    have:O0 l ds[i].var=false:=by unfold O0; rw [decide_eq_false (by simp at b1; omega)]; rfl
    rw [this]; rfl
   have h0:0≤ds[i].var:=by simpa using b1
   obtain ⟨k,hk⟩:=qW h0
   rw [hk] at b1 ⊢
   have d0':=d0 hi' H
   rw [hk] at d0'
   cases b2:decide (((k:Nat):Int)≥((l.length:Nat):Int))
   case true =>
    simp -implicitDefEqProofs only [AZ,BB,BM,CE,CQ,EZ,GM,AC,AQ,AO,BD,AX,AL,AA,EO,AY,AU,BL,BG,CS,DL,DU,BO,BX,BJ,CO,EW,AB,F7,↓reduceIte,jA,jI,jB,jC,enP,RG,AFO,VE,b1,b2,f0,f1,f5,EQ hi',d0',jM]
    refine ⟨trivial,trivial,trivial,?_,trivial⟩
    have:O0 l ((k:Nat):Int)=false:=by unfold O0; rw [decide_eq_false (p:=((k:Nat):Int) < (l.length:Int)) (by simp at b2; omega)]; simp
    rw [this]; rfl
   have hk':k < l.length:=by simp at b2; omega
   have l2:DF Tryz.prog H 3 (.fptr 4 (l.map E5) k 2)=some (.int .i64 l[k].mode):=by rw [FO ag3 hk']; rfl
   simp -implicitDefEqProofs only [AZ,BB,BM,CE,CQ,EZ,AC,AQ,AO,BD,AX,AL,AA,AY,AU,BH,BL,BG,CS,DU,BO,BX,BJ,CO,EW,AB,EC,F7,↓reduceIte,jA,jI,jG,jB,jC,enP,RH,RG,AFO,MM,VE,b1,b2,f0,f1,f5,EQ hi',d0',jM,EQ hk',l2]
   exact ⟨trivial,trivial,trivial,by rw [U5 hk',Bool.not_not],trivial⟩
  clear f0 f1 f5
  rintro F H0 ⟨f0,f1,f5,f42,rfl⟩
  simp -implicitDefEqProofs only [BI,A7,AY,f42]
  cases b1:O0 l ds[i].var
  ·have he:dsE l (ds.take i) ds[i]=1:=by unfold dsE; rw [b1]; rfl
   simp -implicitDefEqProofs only [BC,A8,BK,A7,CW,EN,FV,CU,D6,AZ,BB,AC,AQ,AO,BD,AX,AL,AA,AU,BH,BA,↓reduceIte,jB,jC]
   exact ⟨by rw [hbad (by rw [he]; decide),he],hxx⟩
  simp -implicitDefEqProofs only [BC,CG,A8,BQ,A7,D9,AZ,BB,AC,AQ,AO,BD,AX,AL,AU,BH,BA,jB,jV,jC]
  refine G6 2 (fun F' H'=>F' 0 = .sl m 4 (l.map E5)∧F' 1 = .sl s 2 (ds.map KA)∧F' 5 = .int .i64 (i:Nat)∧H'=H0∧((ds.take i).any fun x=>x.var == ds[i].var)=false) (fun F' H'=>F' 4 = .int .i64 (MZ l ds)∧H'=H0) ?_ ?_ ?_
  ·refine D5 (fun n' F' H' => ∃ k,n'+k=i∧(∀ (j:Nat) (hj:j < k) (hl:j < ds.length),(ds[j].var == ds[i].var)=false)∧F' 0 = .sl m 4 (l.map E5)∧F' 1 = .sl s 2 (ds.map KA)∧F' 5 = .int .i64 (i:Nat)∧F' 6 = .int .i64 (k:Nat)∧H'=H0) i ⟨0,by simp,fun j hj=>absurd hj (by omega),by simp -implicitDefEqProofs only [AA,↓reduceIte,jA,f0],by simp -implicitDefEqProofs only [AA,↓reduceIte,jA,f1],by simp -implicitDefEqProofs only [AA,↓reduceIte,jA,f5],by simp -implicitDefEqProofs only [AA,↓reduceIte]; rfl,rfl⟩ ?_
   clear f0 f1 f5 f42
   rintro n' F H ⟨k,hk,hbk,f0,f1,f5,f6,rfl⟩
   simp -implicitDefEqProofs only [BC,A8,BI,A7,AZ,BB,AC,AQ,AO,BD,AX,AL,AA,AY,BG,BX,AB,C9,↓reduceIte,jA,jB,jC,enP,f5,f6]
   refine CX (fun hc => ?_) (fun hc => ?_)
   ·have hk':k < i:=by simpa using hc
    have hk2:k < ds.length:=by omega
    simp -implicitDefEqProofs only [BC,CG,BQ,A7]
    refine GL (by kernel_rfl) ?_
    simp -implicitDefEqProofs only [FC,DT,CZ,D8,DV,ED,EK,IE,D7,ES,BI,A7,AC,AA,AY,BO,BX,BJ,CO,AB,EC,↓reduceIte,jA,Nat.reduceAdd,jI,jB,enP,AFO,VE,f1,f5,f6,EQ hk2,EQ hi',d0 hk2,d0 hi']
    refine CX (fun he => ?_) (fun he => ?_)
    ·have hany:((ds.take i).any fun x=>x.var == ds[i].var)=true:=List.any_eq_true.2 ⟨ds[k],by
      have:(ds.take i)[k]'(by rw [zQ]; omega)=ds[k]:=List.getElem_take
      rw [← this]; exact jX _,he⟩
     have hz:dsE l (ds.take i) ds[i]=8:=by unfold dsE; rw [b1,hany]; rfl
     simp -implicitDefEqProofs only [BC,A8,BK,A7,CW,EN,NM,FV,AZ,BB,AC,AQ,AO,BD,AX,AL,AA,AU,BH,BA,↓reduceIte,jB,jC]
     exact ⟨by rw [hbad (by rw [hz]; decide),hz],trivial⟩
    ·simp -implicitDefEqProofs only [A8,BQ,A7,ET,EX,AZ,BB,AC,AQ,AO,BD,AX,AL,AA,AY,AU,BH,BG,BA,BX,AB,DX,↓reduceIte,jA,jB,jC,enP,f6,wrap_succ (show k < 9223372036854775807 by omega)]
     refine ⟨n' - 1,by omega,k+1,by omega,fun j hj hl => ?_,by trivial,by trivial,by trivial,rfl,trivial⟩
     rcases jT j k with h1 | h1
     ·exact hbk j h1 hl
     ·obtain rfl:j=k:=by omega
      exact he
   ·have hk' : ¬ k < i:=by simpa using hc
    simp -implicitDefEqProofs only [DW,EP,KE,FM,AA,↓reduceIte,jA]
    refine ⟨f0,f1,f5,trivial,?_⟩
    rw [List.any_eq_false]
    intro x hx
    obtain ⟨j,hj,rfl⟩:=qL hx
    rw [zQ] at hj
    rw [List.getElem_take,hbk j (by omega) (by omega)]; decide
  ·rintro F' H' ⟨g0,g1,g5,rfl,b2⟩
   simp -implicitDefEqProofs only [BC,A8,BI,A7,FH,AZ,BB,AC,AQ,AO,BD,AX,AL,AA,AY,AU,BH,BG,BO,BX,BJ,CO,EW,AB,F6,↓reduceIte,jA,jG,jB,jC,enP,AFO,AL8,YH,g1,g5,EQ hi',d1,jM]
   refine CX (fun b3 => ?_) (fun b3 => ?_)
   ·have he:dsE l (ds.take i) ds[i]=2:=by unfold dsE; rw [b1,b2,if_pos rfl,if_neg (by decide),if_pos (by simp at b3; omega)]
    simp -implicitDefEqProofs only [BC,A8,BK,A7,CW,EN,FV,CU,AZ,BB,AC,AQ,AO,BD,AX,AL,AA,AU,BH,BA,↓reduceIte,jB,jC]
    exact ⟨by rw [hbad (by rw [he]; decide),he],hxx⟩
   simp -implicitDefEqProofs only [BC,CG,A8,BQ,A7,AZ,BB,AC,AQ,AO,BD,AX,AL,AU,BH,BA,jB,jC]
   refine G6 4 (fun F2 H2=>F2 0 = .sl m 4 (l.map E5)∧F2 1 = .sl s 2 (ds.map KA)∧F2 5 = .int .i64 (i:Nat)∧ext h H2∧ds[i].ws.any AC0=false) (fun F2 H2=>F2 4 = .int .i64 (MZ l ds)∧ext h H2) ?_ ?_ ?_
   ·refine D5 (fun n' F2 H2 => ∃ k,n'+k=ds[i].ws.length∧(∀ (j:Nat) (hj:j < k) (hl:j < ds[i].ws.length),AC0 ds[i].ws[j]=false)∧F2 0 = .sl m 4 (l.map E5)∧F2 1 = .sl s 2 (ds.map KA)∧F2 5 = .int .i64 (i:Nat)∧F2 7 = .int .i64 (k:Nat)∧ext h H2) ds[i].ws.length ⟨0,by simp,fun j hj=>absurd hj (by omega),by simp -implicitDefEqProofs only [AA,↓reduceIte,jA,g0],by simp -implicitDefEqProofs only [AA,↓reduceIte,jA,g1],by simp -implicitDefEqProofs only [AA,↓reduceIte,jA,g5],by simp -implicitDefEqProofs only [AA,↓reduceIte]; rfl,hxx⟩ ?_
    clear f0 f1 f5 f42 g0 g1 g5 hxx
    rintro n' F H ⟨k,hk,hbk,f0,f1,f5,f7,hxx⟩
    simp -implicitDefEqProofs only [BC,A8,BI,A7,AZ,BB,AC,AQ,AO,BD,AX,AL,AA,AY,BG,BO,BX,BJ,CO,EW,AB,C9,↓reduceIte,jA,jG,jB,jC,enP,AFO,AL8,YH,f1,f5,f7,EQ hi',d1,jM]
    refine CX (fun hc => ?_) (fun hc => ?_)
    ·have hk':k < ds[i].ws.length:=by simpa using hc
     have hx1:ext h (H ++ [ABlk.live 4 [JZ ds[i].ws[k]]]):=hxx.app _
     have gE:=CV H (ABlk.live 4 [JZ ds[i].ws[k]])
     simp -implicitDefEqProofs only [BC,CG,A8,BQ,A7,AZ,BB,AC,AQ,AO,BD,AX,AL,DK,AA,AY,BG,EF,BO,DC,BJ,CO,BR,AB,CJ,↓reduceIte,jA,jI,jG,jB,jC,enP,AFO,AVL,YH,OU,jJ,f1,f5,f7,EQ hi',d1,EQ hk',FQ AVY ALS ZK hk',A3K,A18]
     generalize H ++ [ABlk.live 4 [JZ ds[i].ws[k]]]=H1 at hx1 gE ⊢
     generalize hx:ds[i].ws[k]=x at gE
     have l0:DF Tryz.prog H1 3 (.ptr H.length 0 0)=some (.int .i64 x.lo):=by rw [DI ag3 gE (row:=JZ x) rfl]; rfl
     have l1:DF Tryz.prog H1 3 (.ptr H.length 0 1)=some (.int .i64 x.hi):=by rw [DI ag3 gE (row:=JZ x) rfl]; rfl
     have l2:DF Tryz.prog H1 3 (.ptr H.length 0 2)=some (.int .i64 x.w):=by rw [DI ag3 gE (row:=JZ x) rfl]; rfl
     simp -implicitDefEqProofs only [AZ,BM,CE,CQ,AC,AQ,AO,BD,AX,AL,AA,AY,AU,BH,BG,BX,AB,C9,↓reduceIte,jB,jC,enP,l0]
     refine RV (fun F' H'=>F' 0 = .sl m 4 (l.map E5)∧F' 1 = .sl s 2 (ds.map KA)∧F' 5 = .int .i64 (i:Nat)∧F' 7 = .int .i64 (k:Nat)∧F' 108 = .bool (AC0 x)∧H'=H1) ?_ ?_
     ·unfold AC0
      cases b1:decide (x.lo < 0)
      case true =>
       simp -implicitDefEqProofs only [Bool.true_or,AZ,BB,BM,CE,CQ,GM,AC,AQ,AO,BD,AX,AL,AA,EO,AY,AU,BL,BG,CS,DL,↓reduceIte,jA,jB,jC,b1,f0,f1,f5,f7]
       exact ⟨trivial,trivial,trivial,trivial,trivial,trivial⟩
      cases b2:decide (x.lo > x.hi)
      case true =>
       simp -implicitDefEqProofs only [qV,Bool.true_or,AZ,BB,BM,CE,CQ,EZ,GM,AC,AQ,AO,BD,AX,AL,AA,EO,AY,AU,BL,BG,CS,DL,DU,BO,BX,BJ,AB,F6,↓reduceIte,jA,jI,jG,jB,jC,enP,OU,Q5,l0,l1,b1,b2,f0,f1,f5,f7]
       exact ⟨trivial,trivial,trivial,trivial,trivial,trivial⟩
      cases b3:decide (x.hi > 65535)
      case true =>
       simp -implicitDefEqProofs only [jW,qV,Bool.true_or,AZ,BB,BM,CE,CQ,EZ,GM,AC,AQ,AO,BD,AX,AL,AA,EO,AY,AU,BH,BL,BG,CS,DL,DU,BO,BX,BJ,AB,F6,↓reduceIte,jA,jI,jG,jB,jC,enP,OU,Q5,l0,l1,b1,b2,b3,f0,f1,f5,f7]
       exact ⟨trivial,trivial,trivial,trivial,trivial,trivial⟩
      cases b4:decide (x.w < 0)
      case true =>
       simp -implicitDefEqProofs only [jW,qV,Bool.true_or,AZ,BB,BM,CE,CQ,EZ,GM,AC,AQ,AO,BD,AX,AL,AA,EO,AY,AU,BH,BL,BG,CS,DL,DU,BO,BX,BJ,AB,C9,F6,↓reduceIte,jA,jI,jG,jB,jC,enP,OU,Q5,ABA,l0,l1,l2,b1,b2,b3,b4,f0,f1,f5,f7]
       exact ⟨trivial,trivial,trivial,trivial,trivial,trivial⟩
      cases b5:decide (x.w > 1000)
      all_goals
       simp -implicitDefEqProofs only [jW,qV,AZ,BB,BM,CE,CQ,EZ,AC,AQ,AO,BD,AX,AL,AA,AY,AU,BH,BL,BG,CS,DU,BO,BX,BJ,AB,C9,F6,↓reduceIte,jA,jI,jG,jB,jC,enP,OU,Q5,ABA,l0,l1,l2,b1,b2,b3,b4,b5,f0,f1,f5,f7]
       exact ⟨trivial,trivial,trivial,trivial,trivial,trivial⟩
     clear f0 f1 f5 f7
     rintro F H2 ⟨f0,f1,f5,f7,f108,rfl⟩
     simp -implicitDefEqProofs only [BI,A7,AY,f108]
     refine CX (fun b4 => ?_) (fun b4 => ?_)
     ·have hany:ds[i].ws.any AC0=true:=List.any_eq_true.2 ⟨x,by rw [← hx]; exact jX _,b4⟩
      have he:dsE l (ds.take i) ds[i]=1:=by unfold dsE; rw [b1,b2,if_pos rfl,if_neg (by decide),if_neg (by simp at b3; omega),hany]; rfl
      simp -implicitDefEqProofs only [BC,A8,BK,A7,CW,EN,NM,FV,AZ,BB,AC,AQ,AO,BD,AX,AL,AA,AU,BH,BA,↓reduceIte,jB,jC]
      exact ⟨by rw [hbad (by rw [he]; decide),he],hx1⟩
     ·simp -implicitDefEqProofs only [A8,BQ,A7,ET,EX,AZ,BB,AC,AQ,AO,BD,AX,AL,AA,AY,AU,BH,BG,BA,BX,AB,DX,↓reduceIte,jA,jB,jC,enP,f7,wrap_succ (show k < 9223372036854775807 by omega)]
      refine ⟨n' - 1,by omega,k+1,by omega,fun j hj hl => ?_,by trivial,by trivial,by trivial,rfl,hx1⟩
      rcases jT j k with h1 | h1
      ·exact hbk j h1 hl
      ·obtain rfl:j=k:=by omega
       rw [hx]; exact b4
    ·have hk' : ¬ k < ds[i].ws.length:=by simpa using hc
     simp -implicitDefEqProofs only [DW,EP,KE,FM,AA,↓reduceIte,jA]
     refine ⟨f0,f1,f5,hxx,?_⟩
     rw [List.any_eq_false]
     intro x hx
     obtain ⟨j,hj,rfl⟩:=qL hx
     rw [hbk j (by omega) hj]; decide
   ·rintro F2 H2 ⟨g0,g1,g5,hx2,b4⟩
    have he:dsE l (ds.take i) ds[i]=0:=by unfold dsE; rw [b1,b2,if_pos rfl,if_neg (by decide),if_neg (by simp at b3; omega),b4]; rfl
    simp -implicitDefEqProofs only [A8,A7,ET,FH,EX,AZ,BB,AC,AQ,AO,BD,AX,AL,AA,AY,AU,BH,BG,BA,BX,AB,DX,↓reduceIte,jA,jB,jC,enP,g5,wrap_succ (show i < 9223372036854775807 by omega)]
    refine ⟨n - 1,by omega,i+1,by omega,fun j hj => ?_,by first | exact g0 | trivial,by first | exact g1 | trivial,rfl,hx2⟩
    rcases jT j i with h1 | h1
    ·exact hb j h1
    ·obtain rfl:j=i:=by omega
     rw [hat,he]
   ·rintro F2 H2 ⟨g4,hx2⟩
    simp -implicitDefEqProofs only [CW,EN,FV,CU,g4]
    exact ⟨trivial,hx2⟩
  ·rintro F' H' ⟨g4,rfl⟩
   simp -implicitDefEqProofs only [CW,EN,FV,CU,g4]
   exact ⟨trivial,hxx⟩
 ·have hi' : ¬ i < ds.length:=by simpa using hc
  simp -implicitDefEqProofs only [BC,A8,BK,DW,A7,EP,FH,FM,CU,AZ,BB,AC,AQ,AO,BD,AX,AL,AA,AU,BH,BA,↓reduceIte,jB,jC]
  exact ⟨by rw [AAB fun j hj=>hb j (by omega)],hxx⟩
end
def flG (gs:List Gp):List Int:=gs.flatMap Gp.l
theorem YG {gs:List Gp} {i:Nat} (hi:i < gs.length):flG (gs.take (i+1))=flG (gs.take i) ++ gs[i].l:=by
 unfold flG; rw [qJ hi,List.flatMap_append]; simp
theorem SI {gs:List Gp} {i j:Nat} (hi:i < gs.length) (hj:j < gs[i].l.length):flG gs=(flG (gs.take i) ++ gs[i].l.take j) ++ gs[i].l[j] :: (gs[i].l.drop (j+1) ++ flG (gs.drop (i+1))):=by
 have h1:gs=gs.take i ++ gs[i] :: gs.drop (i+1):=by rw [← zT hi,List.take_append_drop]
 have h2:flG gs=flG (gs.take i) ++ (gs[i].l ++ flG (gs.drop (i+1))):=by
  unfold flG
  conv=>lhs; rw [h1]
  rw [List.flatMap_append,List.flatMap_cons]
 have h3:gs[i].l=gs[i].l.take j ++ gs[i].l[j] :: gs[i].l.drop (j+1):=by rw [← zT hj,List.take_append_drop]
 have h4:gs[i].l ++ flG (gs.drop (i+1))=(gs[i].l.take j ++ gs[i].l[j] :: gs[i].l.drop (j+1)) ++ flG (gs.drop (i+1)):=by rw [← h3]
 rw [h2,h4]
 simp only [zH,qC]
def gOK (l:List Vr) (gs:List Gp):Bool:=decide ((∀ g∈gs,g.l≠[])∧(∀ x∈flG gs,0≤x∧x < l.length)∧∀ i:Fin l.length,(flG gs).count ((i.1:Nat):Int)=if l[i.1].mode=0 then 0 else 1)
theorem AMC {l:List Vr} {gs:List Gp} {g:Gp} (hg:g∈gs) (h:g.l = []):gOK l gs=false:=decide_eq_false fun ⟨h1,_⟩=>h1 g hg h
theorem AFU {l:List Vr} {gs:List Gp} {x:Int} (hx:x∈flG gs) (h : ¬ (0≤x∧x < l.length)):gOK l gs=false:=decide_eq_false fun ⟨_,h1,_⟩=>h (h1 x hx)
theorem X9 {l:List Vr} {gs:List Gp} {i:Nat} (hi:i < l.length) (h:(flG gs).count ((i:Nat):Int)≠if l[i].mode=0 then 0 else 1):gOK l gs=false:=decide_eq_false fun ⟨_,_,h1⟩=>h (h1 ⟨i,hi⟩)
theorem AD8 {l:List Vr} {x:Int} (h:O0 l x=true) : ∃ k,∃ hk:k < l.length,x=(k:Nat)∧¬ l[k].mode=0:=by
 unfold O0 at h
 simp only [Bool.and_eq_true,decide_eq_true_eq] at h
 obtain ⟨h0,h1,h2⟩:=h
 have hk:x.toNat < l.length:=by omega
 rw [jS hk] at h2
 exact ⟨x.toNat,hk,by omega,by simpa using h2⟩
theorem AT1 {l:List Vr} {gs:List Gp} {x:Int} (hx:x∈flG gs) (h:O0 l x=false):gOK l gs=false:=by
 by_cases hr:0≤x∧x < l.length
 ·obtain ⟨k,rfl⟩:=qW hr.1
  have hk:k < l.length:=by omega
  rw [U5 hk] at h
  refine X9 hk ?_
  rw [if_pos (by simpa using h)]
  have:=List.count_pos_iff.2 hx
  omega
 ·exact AFU hx hr
def bR (done:List Int) (n:Nat):List (List AV):=(List.range n).map fun i => [AV.bool (decide (((i:Nat):Int)∈done))]
def cR (done:List Int) (n:Nat):List (List AV):=(List.range n).map fun i => [AV.int .i64 ((done.count ((i:Nat):Int):Nat):Int)]
theorem ZQ (done:List Int) (n:Nat):(bR done n).length=n:=by simp [bR]
theorem WP (done:List Int) (n:Nat):(cR done n).length=n:=by simp [cR]
theorem WQ (done:List Int) {n i:Nat} (hi:i < n):(bR done n)[i]? = some [AV.bool (decide (((i:Nat):Int)∈done))]:=by simp [bR,hi]
theorem UW (done:List Int) {n i:Nat} (hi:i < n):(cR done n)[i]? = some [AV.int .i64 ((done.count ((i:Nat):Int):Nat):Int)]:=by simp [cR,hi]
theorem AXZ (done:List Int) {n k:Nat} (hk:k < n):(bR done n).set k [.bool true]=bR (done ++ [(k:Int)]) n:=by
 apply List.ext_getElem?
 intro i
 rw [zC]
 by_cases hi:i < n
 ·by_cases e:k=i
  ·subst e
   rw [if_pos rfl,if_pos (by rw [ZQ]; exact hi),WQ _ hi]
   simp
  ·rw [if_neg e,WQ _ hi,WQ _ hi]
   congr 3
   simp
   rintro h; omega
 ·rw [zG (by rw [ZQ]; omega)]
  split
  ·rw [if_neg (by rw [ZQ]; omega),zG (by rw [ZQ]; omega)]
  ·rw [zG (by rw [ZQ]; omega)]
theorem AXT (done:List Int) {n k:Nat} (hk:k < n):(cR done n).set k [.int .i64 ((done.count ((k:Nat):Int)+1:Nat):Int)]=cR (done ++ [(k:Int)]) n:=by
 apply List.ext_getElem?
 intro i
 rw [zC]
 by_cases hi:i < n
 ·by_cases e:k=i
  ·subst e
   rw [if_pos rfl,if_pos (by rw [WP]; exact hi),UW _ hi,List.count_append]
   simp
  ·rw [if_neg e,UW _ hi,UW _ hi,List.count_append]
   have:((k:Nat):Int)≠((i:Nat):Int):=by omega
   simp [this]
 ·rw [zG (by rw [WP]; omega)]
  split
  ·rw [if_neg (by rw [WP]; omega),zG (by rw [WP]; omega)]
  ·rw [zG (by rw [WP]; omega)]
theorem AZK (h:Hp) (n:Nat) (hn:n≤1048576):JH Tryz.prog true h 55 (.int .i64 (n:Int)) (.int .i64 (n:Int))=some (.own h.length 0 n,h ++ [.live 1 (bR [] n)]):=by
 have hz:NH Tryz.prog 4=some [.bool false]:=by kernel_rfl
 have hr:room n 1:=QW (by omega) (by omega)
 unfold JH
 simp only [A1W,sz4,A3A,hz,qZ]
 rw [if_pos ⟨by omega,Int.le_refl _,hr,rfl⟩]
 have:bR [] n=jK n [.bool false]:=by
  apply List.ext_getElem?
  intro i
  by_cases hi:i < n
  ·rw [WQ _ hi,List.getElem?_replicate,if_pos hi]; simp
  ·rw [zG (by rw [ZQ]; omega),zG (by simp; omega)]
 rw [this]
 simp
theorem AZJ (h:Hp) (n:Nat) (hn:n≤1048576):JH Tryz.prog true h 29 (.int .i64 (n:Int)) (.int .i64 (n:Int))=some (.own h.length 0 n,h ++ [.live 1 (cR [] n)]):=by
 have hz:NH Tryz.prog 3=some [.int .i64 0]:=by kernel_rfl
 have hr:room n 8:=QW (by omega) (by omega)
 unfold JH
 simp only [AYN,sz3,A0L,hz,qZ]
 rw [if_pos ⟨by omega,Int.le_refl _,hr,rfl⟩]
 have:cR [] n=jK n [.int .i64 0]:=by
  apply List.ext_getElem?
  intro i
  by_cases hi:i < n
  ·rw [UW _ hi,List.getElem?_replicate,if_pos hi]; simp
  ·rw [zG (by rw [WP]; omega),zG (by simp; omega)]
 rw [this]
 simp
theorem A16 {h:Hp} {o j:Nat} {rows:List (List AV)} (ho:h[o]? = some (.live 1 rows)) (hj : ∃ v,rows[j]? = some [v]) (b:Bool):FB Tryz.prog h 4 (.ptr o j 0) (.bool b)=some (h.set o (.live 1 (rows.set j [.bool b]))):=by
 obtain ⟨v,hv⟩:=hj
 rw [GV (cs := [.bool b]) rfl sz4 ho hv (by simp)]; rfl
theorem A15 {h:Hp} {o j:Nat} {rows:List (List AV)} {x:Int} (ho:h[o]? = some (.live 1 rows)) (hj : ∃ v,rows[j]? = some [v]):FB Tryz.prog h 3 (.ptr o j 0) (.int .i64 x)=some (h.set o (.live 1 (rows.set j [.int .i64 x]))):=by
 obtain ⟨v,hv⟩:=hj
 rw [GV (cs := [.int .i64 x]) rfl sz3 ho hv (by simp)]; rfl
section
variable (G:Nat→AV)
set_option maxHeartbeats 1000000 in
theorem AJ2 (l:List Vr) (m:SM) (gs:List Gp) (s:SM) (hl:l.length≤1048576) (hg:gs.length≤1048576) (hw:(flG gs).length≤1048576) (h:Hp):PCall (En G) 53 [.sl m 4 (l.map E5),.sl s 1 (gs.map MO)] h (.bool (gOK l gs)):=by
 refine ACalls.pure0 rfl ?_
 refine acN Tryz.func53 rfl ?_
 show awp _ _ _ _ _ (EH _ [.tmp 4] _)
 simp -implicitDefEqProofs only [BC,CG,A8,A7,AZ,BB,AC,AQ,AO,BD,AX,AL,AA,AY,AU,BH,BL,BG,BA,OY,EW,BR,AB,BF,↓reduceIte,jA,jB,jC,enP,RG,jM,AZJ h l.length hl]
 refine G6 0 (fun F H=>F 0 = .sl m 4 (l.map E5)∧F 5 = .own h.length 0 l.length∧H=h ++ [ABlk.live 1 (cR (flG gs) l.length)]∧(∀ g∈gs,g.l≠[])∧∀ x∈flG gs,0≤x∧x < l.length) (fun F H=>F 4 = .bool (gOK l gs)∧ext h H) ?_ ?_ ?_
 ·refine D5 (fun n F H => ∃ i,n+i=gs.length∧F 0 = .sl m 4 (l.map E5)∧F 1 = .sl s 1 (gs.map MO)∧F 5 = .own h.length 0 l.length∧F 6 = .int .i64 (i:Nat)∧H=h ++ [ABlk.live 1 (cR (flG (gs.take i)) l.length)]∧(∀ g∈gs.take i,g.l≠[])∧∀ x∈flG (gs.take i),0≤x∧x < l.length) gs.length ⟨0,by simp,by simp -implicitDefEqProofs only [AA,BF,↓reduceIte,jA],by simp -implicitDefEqProofs only [AA,BF,BU,↓reduceIte,jA],by simp -implicitDefEqProofs only [AA,↓reduceIte,jA],by simp -implicitDefEqProofs only [AA,↓reduceIte]; rfl,rfl,by simp,by simp [flG]⟩ ?_
  rintro n F H ⟨i,hi,f0,f1,f5,f6,rfl,hne,hin⟩
  simp -implicitDefEqProofs only [BC,A8,BI,A7,AZ,BB,AC,AQ,AO,BD,AX,AL,AA,AY,BG,BX,EW,AB,C9,↓reduceIte,jA,jB,jC,enP,ATL,f1,f6,jM]
  refine CX (fun hc => ?_) (fun hc => ?_)
  ·have hi':i < gs.length:=by simpa using hc
   have lg : ∀ H:Hp,DF Tryz.prog H 29 (.fptr 1 (gs.map MO) i 0)=some (.sl gs[i].m 1 (gs[i].l.map qencI)):=fun H=>by rw [FO AOK hi']; rfl
   simp -implicitDefEqProofs only [BC,CG,A8,BQ,BI,A7,AZ,BB,AC,AQ,AO,BD,AX,AL,AA,AY,AU,BH,BG,BO,BX,CO,EW,AB,EC,↓reduceIte,jA,jB,jC,enP,AJV,VN,f1,f6,EQ hi',lg,jM]
   refine CX (fun hz => ?_) (fun hz => ?_)
   ·simp -implicitDefEqProofs only [BC,A8,BK,A7,CW,EN,NM,FV,AZ,BB,AC,AQ,AO,BD,AX,AL,AA,AU,BL,BA,↓reduceIte,jB,jC]
    exact ⟨by rw [AMC (jX hi') (zZ (by simpa using hz))],_,rfl⟩
   have hnz:gs[i].l≠[]:=by
    intro e; rw [e] at hz; simp at hz
   simp -implicitDefEqProofs only [BC,CG,A8,BQ,A7,AZ,BB,AC,AQ,AO,BD,AX,AL,AU,BH,BA,jB,jC]
   refine G6 2 (fun F' H'=>F' 0 = .sl m 4 (l.map E5)∧F' 1 = .sl s 1 (gs.map MO)∧F' 5 = .own h.length 0 l.length∧F' 6 = .int .i64 (i:Nat)∧H'=h ++ [ABlk.live 1 (cR (flG (gs.take i) ++ gs[i].l) l.length)]∧∀ x∈flG (gs.take i) ++ gs[i].l,0≤x∧x < l.length) (fun F' H'=>F' 4 = .bool (gOK l gs)∧ext h H') ?_ ?_ ?_
   ·refine D5 (fun n' F' H' => ∃ j,n'+j=gs[i].l.length∧F' 0 = .sl m 4 (l.map E5)∧F' 1 = .sl s 1 (gs.map MO)∧F' 5 = .own h.length 0 l.length∧F' 6 = .int .i64 (i:Nat)∧F' 7 = .int .i64 (j:Nat)∧H'=h ++ [ABlk.live 1 (cR (flG (gs.take i) ++ gs[i].l.take j) l.length)]∧∀ x∈flG (gs.take i) ++ gs[i].l.take j,0≤x∧x < l.length) gs[i].l.length ⟨0,by simp,by simp -implicitDefEqProofs only [AA,↓reduceIte,jA,f0],by simp -implicitDefEqProofs only [AA,↓reduceIte,jA,f1],by simp -implicitDefEqProofs only [AA,↓reduceIte,jA,f5],by simp -implicitDefEqProofs only [AA,↓reduceIte,jA,f6],by simp -implicitDefEqProofs only [AA,↓reduceIte]; rfl,by rw [qA,jD],by rw [qA,jD]; exact hin⟩ ?_
    clear f0 f1 f5 f6
    rintro n' F H ⟨j,hj,f0,f1,f5,f6,f7,rfl,hin2⟩
    simp -implicitDefEqProofs only [BC,A8,BI,A7,AZ,BB,AC,AQ,AO,BD,AX,AL,AA,AY,BG,BO,BX,CO,EW,AB,C9,↓reduceIte,jA,jB,jC,enP,AJV,VN,f1,f6,f7,EQ hi',lg,jM]
    refine CX (fun hc => ?_) (fun hc => ?_)
    ·have hj':j < gs[i].l.length:=by simpa using hc
     have hsp:=SI hi' hj'
     have hmem:gs[i].l[j]∈flG gs:=by rw [hsp]; simp
     have l3 : ∀ H:Hp,DF Tryz.prog H 3 (.fptr 1 (gs[i].l.map qencI) j 0)=some (.int .i64 gs[i].l[j]):=fun H=>by rw [FO ag3 hj']; rfl
     simp -implicitDefEqProofs only [BC,CG,A8,BQ,A7,AZ,BB,BM,CE,CQ,AC,AQ,AO,BD,AX,AL,AA,AY,AU,BH,BG,BA,BO,BX,CO,AB,C9,↓reduceIte,jA,jB,jC,enP,AJV,WG,f1,f6,f7,EQ hi',lg,EQ hj',l3]
     cases b1:decide (gs[i].l[j] < 0)
     case true =>
      simp -implicitDefEqProofs only [BC,A8,BK,BI,A7,CW,EN,NM,FV,D6,AZ,BB,BM,CE,CQ,GM,AC,AQ,AO,BD,AX,AL,AA,EO,AY,AU,BL,BA,CS,DL,↓reduceIte,jA,jB,jC,b1]
      exact ⟨by rw [AFU hmem (by simp at b1; omega)],_,rfl⟩
     simp -implicitDefEqProofs only [BI,A7,AZ,BB,BM,CE,CQ,EZ,AC,AQ,AO,BD,AX,AL,AA,AY,AU,BL,BG,CS,DU,BX,EW,AB,F7,↓reduceIte,jA,jB,jC,enP,RG,b1,f0,jM]
     refine CX (fun b2 => ?_) (fun b2 => ?_)
     ·simp -implicitDefEqProofs only [BC,A8,BK,A7,CW,EN,NM,FV,AZ,BB,AC,AQ,AO,BD,AX,AL,AA,AU,BL,BA,↓reduceIte,jB,jC]
      exact ⟨by rw [AFU hmem (by simp at b2; omega)],_,rfl⟩
     have h0:0≤gs[i].l[j]:=by simpa using b1
     obtain ⟨k,hk⟩:=qW h0
     have hkl:k < l.length:=by rw [hk] at b2; simp at b2; omega
     have hb0:=CV h (ABlk.live 1 (cR (flG (gs.take i) ++ gs[i].l.take j) l.length))
     have hcnt:(flG (gs.take i) ++ gs[i].l.take j).count ((k:Nat):Int)≤1048576:=by
      have h1:=List.count_le_length (a:=((k:Nat):Int)) (l:=flG (gs.take i) ++ gs[i].l.take j)
      have h2:(flG (gs.take i) ++ gs[i].l.take j).length≤(flG gs).length:=by
       rw [hsp]; simp only [zS]; omega
      omega
     have hjb:j≤1048576:=by
      have h2:gs[i].l.length≤(flG gs).length:=by
       rw [hsp]; simp only [zS,zO,zQ,List.length_drop]; omega
      omega
     have lc:DF Tryz.prog (h ++ [ABlk.live 1 (cR (flG (gs.take i) ++ gs[i].l.take j) l.length)]) 3 (.ptr h.length k 0)=some (.int .i64 (((flG (gs.take i) ++ gs[i].l.take j).count ((k:Nat):Int):Nat):Int)):=by
      rw [DI ag3 hb0 (UW _ hkl)]; rfl
     have hst:=A15 (x:=(((flG (gs.take i) ++ gs[i].l.take j).count ((k:Nat):Int)+1:Nat):Int)) hb0 (j:=k) ⟨_,UW _ hkl⟩
     rw [AXT _ hkl,LD] at hst
     have hap:(flG (gs.take i) ++ gs[i].l.take j) ++ [((k:Nat):Int)]=flG (gs.take i) ++ gs[i].l.take (j+1):=by
      rw [qJ hj',hk,zH]
     simp -implicitDefEqProofs only [A8,BQ,A7,ET,EX,AZ,BB,AC,AQ,AO,BD,AX,AL,DK,AA,AY,AU,BH,BG,BA,BO,DC,BX,CO,AB,CJ,DX,↓reduceIte,jA,jG,jB,jC,enP,WG,jJ,f5,hk,PD hb0 hkl,lc,wrap_succ (show (flG (gs.take i) ++ gs[i].l.take j).count ((k:Nat):Int) < 9223372036854775807 by omega),hst,f7,wrap_succ (show j < 9223372036854775807 by omega)]
     refine ⟨n' - 1,by omega,j+1,by omega,by trivial,by trivial,by trivial,by trivial,rfl,by rw [← hap],fun x hx => ?_⟩
     rw [← hap] at hx
     rcases zY.1 hx with hx | hx
     ·exact hin2 x hx
     ·rw [qX] at hx
      rw [hx]; omega
    ·have hj' : ¬ j < gs[i].l.length:=by simpa using hc
     have e:gs[i].l.take j=gs[i].l:=zB (by omega)
     rw [e] at hin2
     simp -implicitDefEqProofs only [DW,EP,KE,FM,AA,↓reduceIte,jA]
     exact ⟨f0,f1,f5,f6,by rw [e],hin2⟩
   ·rintro F' H' ⟨g0,g1,g5,g6,rfl,hin2⟩
    simp -implicitDefEqProofs only [A8,A7,ET,FH,EX,AZ,BB,AC,AQ,AO,BD,AX,AL,AA,AY,AU,BH,BG,BA,BX,AB,DX,↓reduceIte,jA,jB,jC,enP,g6,wrap_succ (show i < 9223372036854775807 by omega)]
    have hft:=YG hi'
    refine ⟨n - 1,by omega,i+1,by omega,by first | exact g0 | trivial,by first | exact g1 | trivial,by first | exact g5 | trivial,rfl,by rw [hft],fun g hg => ?_,by rw [hft]; exact hin2⟩
    rw [qJ hi'] at hg
    rcases zY.1 hg with hg | hg
    ·exact hne g hg
    ·rw [qX] at hg; rw [hg]; exact hnz
   ·rintro F' H' ⟨g4,hx⟩
    simp -implicitDefEqProofs only [CW,EN,NM,FV,g4]
    exact ⟨trivial,hx⟩
  ·have hi' : ¬ i < gs.length:=by simpa using hc
   rw [zB (by omega)] at hne hin
   simp -implicitDefEqProofs only [DW,EP,KE,FM,AA,↓reduceIte,jA]
   exact ⟨f0,f5,by rw [zB (by omega)],hne,hin⟩
 ·rintro F H ⟨f0,f5,rfl,hne,hin⟩
  have hb0:=CV h (ABlk.live 1 (cR (flG gs) l.length))
  have hx0:ext h (h ++ [ABlk.live 1 (cR (flG gs) l.length)]):=⟨_,rfl⟩
  generalize h ++ [ABlk.live 1 (cR (flG gs) l.length)]=H0 at hb0 hx0 ⊢
  simp -implicitDefEqProofs only [BC,CG,A8,A7,FH,AZ,BB,AC,AQ,AO,BD,AX,AL,AU,BH,BA,↓reduceIte,jB,jC]
  refine D5 (fun n F H => ∃ i,n+i=l.length∧(∀ (j:Nat),j < i→∀ hj:j < l.length,(flG gs).count ((j:Nat):Int)=if l[j].mode=0 then 0 else 1)∧F 0 = .sl m 4 (l.map E5)∧F 5 = .own h.length 0 l.length∧F 9 = .int .i64 (i:Nat)∧H=H0) l.length ⟨0,by simp,fun j hj=>absurd hj (by omega),by simp -implicitDefEqProofs only [AA,↓reduceIte,jA,f0],by simp -implicitDefEqProofs only [AA,↓reduceIte,jA,f5],by simp -implicitDefEqProofs only [AA,↓reduceIte]; rfl,rfl⟩ ?_
  clear f0 f5
  rintro n F H ⟨i,hi,hb,f0,f5,f9,rfl⟩
  simp -implicitDefEqProofs only [BC,A8,BI,A7,AZ,BB,AC,AQ,AO,BD,AX,AL,AA,AY,BG,BX,EW,AB,C9,↓reduceIte,jA,jB,jC,enP,RG,f0,f9,jM]
  refine CX (fun hc => ?_) (fun hc => ?_)
  ·have hi':i < l.length:=by simpa using hc
   have l2:DF Tryz.prog H 3 (.fptr 4 (l.map E5) i 2)=some (.int .i64 l[i].mode):=by rw [FO ag3 hi']; rfl
   have lc:DF Tryz.prog H 3 (.ptr h.length i 0)=some (.int .i64 (((flG gs).count ((i:Nat):Int):Nat):Int)):=by
    rw [DI ag3 hb0 (UW _ hi')]; rfl
   have nxt:(flG gs).count ((i:Nat):Int)=(if l[i].mode=0 then 0 else 1)→∀ (j:Nat),j < i+1→∀ hj:j < l.length,(flG gs).count ((j:Nat):Int)=if l[j].mode=0 then 0 else 1:=fun he j hj hl=>by
    rcases jT j i with h1 | h1
    ·exact hb j h1 hl
    ·obtain rfl:j=i:=by omega
     exact he
   simp -implicitDefEqProofs only [BC,CG,A8,BQ,BI,A7,AZ,BB,AC,AQ,AO,BD,AX,AL,AA,AY,AU,BH,BG,BA,BO,BX,BJ,CO,AB,EC,↓reduceIte,jA,jG,jB,jC,enP,RH,MM,f0,f9,EQ hi',l2]
   refine CX (fun b1 => ?_) (fun b1 => ?_)
   ·have hm:l[i].mode=0:=by simpa using b1
    simp -implicitDefEqProofs only [BC,A8,BI,A7,AZ,BB,AC,AQ,AO,BD,AX,AL,AA,AY,AU,BH,BG,BA,BO,BX,CO,AB,EU,↓reduceIte,jA,jG,jB,jC,enP,WG,f5,f9,PD hb0 hi',lc]
    refine CX (fun b2 => ?_) (fun b2 => ?_)
    ·simp -implicitDefEqProofs only [BC,A8,BK,A7,CW,EN,FV,CU,AZ,BB,AC,AQ,AO,BD,AX,AL,AA,AU,BL,BA,↓reduceIte,jB,jC]
     refine ⟨?_,hx0⟩
     rw [X9 hi' (by rw [if_pos hm]; simp [bne] at b2; exact fun e=>b2 e)]
    ·have he:=nxt (by rw [if_pos hm]; simp [bne] at b2; exact b2)
     simp -implicitDefEqProofs only [A8,BQ,A7,ET,EX,AZ,BB,AC,AQ,AO,BD,AX,AL,AA,AY,AU,BH,BG,BA,BX,AB,DX,↓reduceIte,jA,jB,jC,enP,f9,wrap_succ (show i < 9223372036854775807 by omega)]
     exact ⟨n - 1,by omega,i+1,by omega,he,by trivial,by trivial,rfl,trivial⟩
   ·have hm : ¬ l[i].mode=0:=by simpa using b1
    simp -implicitDefEqProofs only [BC,A8,BQ,BI,A7,AZ,BB,AC,AQ,AO,BD,AX,AL,AA,AY,BG,BO,BX,CO,AB,EU,↓reduceIte,jA,jG,jB,jC,enP,WG,f5,f9,PD hb0 hi',lc]
    refine CX (fun b2 => ?_) (fun b2 => ?_)
    ·simp -implicitDefEqProofs only [BC,A8,BK,A7,CW,EN,FV,CU,AZ,BB,AC,AQ,AO,BD,AX,AL,AA,AU,BL,BA,↓reduceIte,jB,jC]
     refine ⟨?_,hx0⟩
     rw [X9 hi' (by rw [if_neg hm]; intro e; rw [e] at b2; exact absurd b2 (by decide))]
    ·have he:=nxt (by rw [if_neg hm]; simp [bne] at b2; omega)
     simp -implicitDefEqProofs only [A8,BQ,A7,ET,EX,AZ,BB,AC,AQ,AO,BD,AX,AL,AA,AY,AU,BH,BG,BA,BX,AB,DX,↓reduceIte,jA,jB,jC,enP,f9,wrap_succ (show i < 9223372036854775807 by omega)]
     exact ⟨n - 1,by omega,i+1,by omega,he,by trivial,by trivial,rfl,trivial⟩
  ·have hi' : ¬ i < l.length:=by simpa using hc
   simp -implicitDefEqProofs only [BC,A8,BK,DW,A7,EP,FH,FM,CU,AZ,BB,AC,AQ,AO,BD,AX,AL,AA,AU,BL,BA,↓reduceIte,jB,jC]
   refine ⟨?_,hx0⟩
   rw [show gOK l gs=true from decide_eq_true ⟨hne,hin,fun i=>hb i.1 (by omega) i.2⟩]
 ·rintro F H ⟨f4,hx⟩
  simp -implicitDefEqProofs only [CW,EN,CU,f4]
  exact ⟨trivial,hx⟩
end
section
variable (G:Nat→AV)
set_option maxHeartbeats 1000000 in
theorem AH0 (p:Pr) (hl:p.vars.length≤1048576) (hg:p.groups.length≤1048576) (hw:(flG p.groups).length≤1048576) (h:Hp):PCall (En G) 66 [.agg (DZ p)] h (.int .i64 (if gOK p.vars p.groups=true then 0 else 1)):=by
 refine ACalls.pure0 rfl ?_
 refine acN Tryz.func66 rfl ?_
 show awp _ _ _ _ _ (EH _ [.tmp 2] _)
 have ge:=CV h (ABlk.live 5 [DZ p])
 have hxx:ext h (h ++ [ABlk.live 5 [DZ p]]):=(ext.rfl' h).app _
 simp -implicitDefEqProofs only [BC,A8,A7,AZ,BB,AC,AQ,AO,BD,AX,AL,AA,AY,AU,BH,BA,FK,BO,BJ,BR,AB,BF,↓reduceIte,jA,jI,jB,jC,enP,KH,TZ]
 generalize h ++ [ABlk.live 5 [DZ p]]=hb at ge hxx ⊢
 generalize h.length=eb at ge ⊢
 have nb:gOK p.vars p.groups=false→(AV.int .i64 1=AV.int .i64 (if gOK p.vars p.groups=true then 0 else 1)):=fun hh=>by rw [hh]; rfl
 have l0:DF Tryz.prog hb 22 (.ptr eb 0 0)=some (.sl p.vm 4 (p.vars.map E5)):=by rw [DI UD ge (row:=DZ p) rfl]; rfl
 simp -implicitDefEqProofs only [BC,A8,A7,AZ,BB,AC,AQ,AO,BD,AX,AL,AA,AY,BA,BO,OY,BJ,EW,BR,AB,↓reduceIte,jA,jG,jB,jC,enP,RG,ZF,l0,jM,AZK hb p.vars.length hl]
 have geA : ∀ x:ABlk,(hb ++ [x])[eb]? = some (ABlk.live 5 [DZ p]):=fun x=>BN ge
 have l4 : ∀ x:ABlk,DF Tryz.prog (hb ++ [x]) 25 (.ptr eb 0 4)=some (.sl p.gm 1 (p.groups.map MO)):=fun x=>by rw [DI AUX (geA x) (row:=DZ p) rfl]; rfl
 have lp : ∀ x:ABlk,DF Tryz.prog (hb ++ [x]) 27 (.ptr eb 0 0)=some (.agg (DZ p)):=fun x=>by rw [GH VR UG (geA x) (row:=DZ p) rfl (by rw [JF]; exact jO 5)]; rfl
 have l0A : ∀ x:ABlk,DF Tryz.prog (hb ++ [x]) 22 (.ptr eb 0 0)=some (.sl p.vm 4 (p.vars.map E5)):=fun x=>by rw [DI UD (geA x) (row:=DZ p) rfl]; rfl
 have hxA : ∀ x:ABlk,ext h (hb ++ [x]):=fun x=>hxx.app _
 simp -implicitDefEqProofs only [CG,A7,AZ,BB,AC,AQ,AO,BD,AX,AL,AA,AY,AU,BH,BG,EW,AB,↓reduceIte,jB,jC,enP,ATL,l4,jM]
 refine G6 0 (fun F H=>F 1 = .ptr eb 0 0∧F 3 = .own hb.length 0 p.vars.length∧H=hb ++ [ABlk.live 1 (bR (flG p.groups) p.vars.length)]∧(∀ g∈p.groups,g.l≠[])∧(∀ x∈flG p.groups,O0 p.vars x=true)∧∀ x:Int,(flG p.groups).count x≤1) (fun F H=>F 2 = .int .i64 (if gOK p.vars p.groups=true then 0 else 1)∧ext h H) ?_ ?_ ?_
 ·refine D5 (fun n F H => ∃ i,n+i=p.groups.length∧F 1 = .ptr eb 0 0∧F 3 = .own hb.length 0 p.vars.length∧F 14 = .sl p.gm 1 (p.groups.map MO)∧F 15 = .int .i64 (p.groups.length:Nat)∧F 16 = .int .i64 (i:Nat)∧H=hb ++ [ABlk.live 1 (bR (flG (p.groups.take i)) p.vars.length)]∧(∀ g∈p.groups.take i,g.l≠[])∧(∀ x∈flG (p.groups.take i),O0 p.vars x=true)∧∀ x:Int,(flG (p.groups.take i)).count x≤1) p.groups.length ⟨0,by simp,by simp -implicitDefEqProofs only [AA,↓reduceIte,jA],by simp -implicitDefEqProofs only [AA,↓reduceIte,jA],by simp -implicitDefEqProofs only [AA,↓reduceIte,jA],by simp -implicitDefEqProofs only [AA,↓reduceIte,jA],by simp -implicitDefEqProofs only [AA,↓reduceIte]; rfl,rfl,by simp,by simp [flG],by simp [flG]⟩ ?_
  rintro n F H ⟨i,hi,f1,f3,f14,f15,f16,rfl,hne,hin,hct⟩
  simp -implicitDefEqProofs only [BC,A8,BI,A7,AZ,BB,AC,AQ,AO,BD,AX,AL,AA,AY,BX,AB,C9,↓reduceIte,jB,jC,enP,f15,f16]
  refine CX (fun hc => ?_) (fun hc => ?_)
  ·have hi':i < p.groups.length:=by simpa using hc
   have lg : ∀ H:Hp,DF Tryz.prog H 29 (.fptr 1 (p.groups.map MO) i 0)=some (.sl p.groups[i].m 1 (p.groups[i].l.map qencI)):=fun H=>by rw [FO AOK hi']; rfl
   simp -implicitDefEqProofs only [BC,CG,A8,BQ,BI,A7,AZ,BB,AC,AQ,AO,BD,AX,AL,AA,AY,AU,BH,BG,BA,BO,BX,CO,EW,AB,EC,↓reduceIte,jA,jB,jC,enP,AJV,VN,f14,f16,EQ hi',lg,jM]
   refine CX (fun hz => ?_) (fun hz => ?_)
   ·simp -implicitDefEqProofs only [BC,A8,BK,A7,CW,EN,NM,FV,AZ,BB,AC,AQ,AO,BD,AX,AL,AA,AU,BH,BA,↓reduceIte,jB,jC]
    exact ⟨nb (AMC (jX hi') (zZ (by simpa using hz))),hxA _⟩
   have hnz:p.groups[i].l≠[]:=by
    intro e; rw [e] at hz; simp at hz
   simp -implicitDefEqProofs only [BC,CG,A8,BQ,A7,AZ,BB,AC,AQ,AO,BD,AX,AL,AA,AY,AU,BH,BG,EW,AB,↓reduceIte,jA,jB,jC,enP,VN,jM]
   refine G6 2 (fun F' H'=>F' 1 = .ptr eb 0 0∧F' 3 = .own hb.length 0 p.vars.length∧F' 14 = .sl p.gm 1 (p.groups.map MO)∧F' 15 = .int .i64 (p.groups.length:Nat)∧F' 16 = .int .i64 (i:Nat)∧H'=hb ++ [ABlk.live 1 (bR (flG (p.groups.take i) ++ p.groups[i].l) p.vars.length)]∧(∀ x∈flG (p.groups.take i) ++ p.groups[i].l,O0 p.vars x=true)∧∀ x:Int,(flG (p.groups.take i) ++ p.groups[i].l).count x≤1) (fun F' H'=>F' 2 = .int .i64 (if gOK p.vars p.groups=true then 0 else 1)∧ext h H') ?_ ?_ ?_
   ·refine D5 (fun n' F' H' => ∃ j,n'+j=p.groups[i].l.length∧F' 1 = .ptr eb 0 0∧F' 3 = .own hb.length 0 p.vars.length∧F' 14 = .sl p.gm 1 (p.groups.map MO)∧F' 15 = .int .i64 (p.groups.length:Nat)∧F' 16 = .int .i64 (i:Nat)∧F' 23 = .sl p.groups[i].m 1 (p.groups[i].l.map qencI)∧F' 24 = .int .i64 (p.groups[i].l.length:Nat)∧F' 25 = .int .i64 (j:Nat)∧H'=hb ++ [ABlk.live 1 (bR (flG (p.groups.take i) ++ p.groups[i].l.take j) p.vars.length)]∧(∀ x∈flG (p.groups.take i) ++ p.groups[i].l.take j,O0 p.vars x=true)∧∀ x:Int,(flG (p.groups.take i) ++ p.groups[i].l.take j).count x≤1) p.groups[i].l.length
     ⟨0,by simp,by simp -implicitDefEqProofs only [AA,↓reduceIte,jA,f1],by simp -implicitDefEqProofs only [AA,↓reduceIte,jA,f3],by simp -implicitDefEqProofs only [AA,↓reduceIte,jA,f14],by simp -implicitDefEqProofs only [AA,↓reduceIte,jA,f15],by simp -implicitDefEqProofs only [AA,↓reduceIte,jA,f16],by simp -implicitDefEqProofs only [AA,↓reduceIte,jA],by simp -implicitDefEqProofs only [AA,↓reduceIte,jA],by simp -implicitDefEqProofs only [AA,↓reduceIte]; rfl,by rw [qA,jD],by rw [qA,jD]; exact hin,by rw [qA,jD]; exact hct⟩ ?_
    clear f1 f3 f14 f15 f16
    rintro n' F H ⟨j,hj,f1,f3,f14,f15,f16,f23,f24,f25,rfl,hin2,hct2⟩
    simp -implicitDefEqProofs only [BC,A8,BI,A7,AZ,BB,AC,AQ,AO,BD,AX,AL,AA,AY,BX,AB,C9,↓reduceIte,jB,jC,enP,f24,f25]
    refine CX (fun hc => ?_) (fun hc => ?_)
    ·have hj':j < p.groups[i].l.length:=by simpa using hc
     have hsp:=SI hi' hj'
     have hmem:p.groups[i].l[j]∈flG p.groups:=by rw [hsp]; simp
     have l3 : ∀ H:Hp,DF Tryz.prog H 3 (.fptr 1 (p.groups[i].l.map qencI) j 0)=some (.int .i64 p.groups[i].l[j]):=fun H=>by rw [FO ag3 hj']; rfl
     simp -implicitDefEqProofs only [BC,CG,A8,BQ,A7,AZ,BB,AC,AQ,AO,BD,AX,AL,AA,AY,BZ,BG,BA,BO,CO,CB,BP,AB,jF,jE,jD,↓reduceIte,jA,jB,jC,enP,WG,f23,f25,EQ hj',l3,f1,lp]
     refine (UI G p _ hl _).use ?_
     cases b1:O0 p.vars p.groups[i].l[j]
     ·simp -implicitDefEqProofs only [BC,A8,BK,BI,A7,CW,EN,NM,FV,D6,AZ,BB,BM,CE,CQ,GM,AC,AQ,AO,BD,AX,AL,AA,EO,AY,AU,BH,BL,BG,BA,CS,DL,IQ,AB,FI,↓reduceIte,jA,jB,jC]
      exact ⟨nb (AT1 hmem b1),hxA _⟩
     obtain ⟨k,hkl,hk,hm⟩:=AD8 b1
     have hb0:=CV hb (ABlk.live 1 (bR (flG (p.groups.take i) ++ p.groups[i].l.take j) p.vars.length))
     have lc:DF Tryz.prog (hb ++ [ABlk.live 1 (bR (flG (p.groups.take i) ++ p.groups[i].l.take j) p.vars.length)]) 4 (.ptr hb.length k 0)=some (.bool (decide (((k:Nat):Int)∈flG (p.groups.take i) ++ p.groups[i].l.take j))):=by
      rw [DI ag4 hb0 (WQ _ hkl)]; rfl
     have hst:=A16 hb0 (j:=k) ⟨_,WQ _ hkl⟩ true
     rw [AXZ _ hkl,LD] at hst
     have hap:(flG (p.groups.take i) ++ p.groups[i].l.take j) ++ [((k:Nat):Int)]=flG (p.groups.take i) ++ p.groups[i].l.take (j+1):=by
      rw [qJ hj',hk,zH]
     have hjb:j≤1048576:=by
      have h2:p.groups[i].l.length≤(flG p.groups).length:=by
       rw [hsp]; simp only [zS,zO,zQ,List.length_drop]; omega
      omega
     simp -implicitDefEqProofs only [BI,A7,AZ,BB,BM,CE,CQ,EZ,AC,AQ,AO,BD,AX,AL,AA,AY,AU,BL,BG,CS,DU,BO,IQ,CO,AB,FI,↓reduceIte,jA,jG,jB,jV,jC,enP,ATQ,f3,hk,PD hb0 hkl,lc]
     refine CX (fun b2 => ?_) (fun b2 => ?_)
     ·simp -implicitDefEqProofs only [BC,A8,BK,A7,CW,EN,NM,FV,AZ,BB,AC,AQ,AO,BD,AX,AL,AA,AU,BH,BA,↓reduceIte,jB,jC]
      refine ⟨nb (X9 hkl ?_),hxA _⟩
      have h1:0 < (flG (p.groups.take i) ++ p.groups[i].l.take j).count ((k:Nat):Int):=List.count_pos_iff.2 (by simpa using b2)
      rw [if_neg hm,hsp,List.count_append,hk,List.count_cons_self]; omega
     ·have hnin : ¬ ((k:Nat):Int)∈flG (p.groups.take i) ++ p.groups[i].l.take j:=by simpa using b2
      simp -implicitDefEqProofs only [A8,BQ,A7,ET,EX,AZ,BB,AC,AQ,AO,BD,AX,AL,DK,AA,AY,AU,BH,BL,BG,DC,BX,CO,AB,CJ,DX,↓reduceIte,jA,jG,jB,jC,enP,ATQ,jJ,f3,PD hb0 hkl,hst,f25,wrap_succ (show j < 9223372036854775807 by omega)]
      refine ⟨n' - 1,by omega,j+1,by omega,by trivial,by trivial,by trivial,by trivial,by trivial,by trivial,by trivial,rfl,by rw [← hap],fun x hx => ?_,fun x => ?_⟩
      ·rw [← hap] at hx
       rcases zY.1 hx with hx | hx
       ·exact hin2 x hx
       ·rw [qX] at hx
        rw [hx,← hk]; exact b1
      ·rw [← hap,List.count_append]
       have h1:=hct2 x
       by_cases hxk:((k:Nat):Int)=x
       ·subst hxk
        rw [List.count_eq_zero.2 hnin]; simp
       ·rw [List.count_append] at h1
        simp [hxk]; exact h1
    ·have hj' : ¬ j < p.groups[i].l.length:=by simpa using hc
     have e:p.groups[i].l.take j=p.groups[i].l:=zB (by omega)
     rw [e] at hin2 hct2
     simp -implicitDefEqProofs only [DW,EP,KE,FM,AA,↓reduceIte,jA]
     exact ⟨f1,f3,f14,f15,f16,by rw [e],hin2,hct2⟩
   ·rintro F' H' ⟨g1,g3,g14,g15,g16,rfl,hin2,hct2⟩
    simp -implicitDefEqProofs only [A8,A7,ET,FH,EX,AZ,BB,AC,AQ,AO,BD,AX,AL,AA,AY,AU,BH,BG,BX,AB,DX,↓reduceIte,jA,jB,jC,enP,g16,wrap_succ (show i < 9223372036854775807 by omega)]
    have hft:=YG hi'
    refine ⟨n - 1,by omega,i+1,by omega,by first | exact g1 | trivial,by first | exact g3 | trivial,by first | exact g14 | trivial,by first | exact g15 | trivial,rfl,by rw [hft],fun g hg => ?_,by rw [hft]; exact hin2,by rw [hft]; exact hct2⟩
    rw [qJ hi'] at hg
    rcases zY.1 hg with hg | hg
    ·exact hne g hg
    ·rw [qX] at hg; rw [hg]; exact hnz
   ·rintro F' H' ⟨g2,hx⟩
    simp -implicitDefEqProofs only [CW,EN,NM,FV,g2]
    exact ⟨trivial,hx⟩
  ·have hi' : ¬ i < p.groups.length:=by simpa using hc
   rw [zB (by omega)] at hne hin hct
   simp -implicitDefEqProofs only [DW,EP,KE,FM,AA,↓reduceIte,jA]
   exact ⟨f1,f3,by rw [zB (by omega)],hne,hin,hct⟩
 ·rintro F H ⟨f1,f3,rfl,hne,hin,hct⟩
  have hb0:=CV hb (ABlk.live 1 (bR (flG p.groups) p.vars.length))
  have l0':=l0A (ABlk.live 1 (bR (flG p.groups) p.vars.length))
  have lp':=lp (ABlk.live 1 (bR (flG p.groups) p.vars.length))
  have hx0:=hxA (ABlk.live 1 (bR (flG p.groups) p.vars.length))
  generalize hb ++ [ABlk.live 1 (bR (flG p.groups) p.vars.length)]=H0 at hb0 hx0 l0' lp' ⊢
  simp -implicitDefEqProofs only [BC,CG,A8,A7,FH,AZ,BB,AC,AQ,AO,BD,AX,AL,AA,AY,AU,BH,BG,BO,BJ,EW,AB,↓reduceIte,jI,jB,jC,enP,RG,KH,f1,l0',jM]
  refine D5 (fun n F H => ∃ i,n+i=p.vars.length∧(∀ (j:Nat),j < i→j < p.vars.length→O0 p.vars (j:Nat)=true→((j:Nat):Int)∈flG p.groups)∧F 1 = .ptr eb 0 0∧F 3 = .own hb.length 0 p.vars.length∧F 46 = .int .i64 (p.vars.length:Nat)∧F 47 = .int .i64 (i:Nat)∧H=H0) p.vars.length ⟨0,by simp,fun j hj=>absurd hj (by omega),by simp -implicitDefEqProofs only [AA,↓reduceIte,jA,f1],by simp -implicitDefEqProofs only [AA,↓reduceIte,jA,f3],by simp -implicitDefEqProofs only [AA,↓reduceIte,jA],by simp -implicitDefEqProofs only [AA,↓reduceIte]; rfl,rfl⟩ ?_
  clear f1 f3
  rintro n F H ⟨i,hi,hbb,f1,f3,f46,f47,rfl⟩
  simp -implicitDefEqProofs only [BC,A8,BI,A7,AZ,BB,AC,AQ,AO,BD,AX,AL,AA,AY,BX,AB,C9,↓reduceIte,jB,jC,enP,f46,f47]
  refine CX (fun hc => ?_) (fun hc => ?_)
  ·have hi':i < p.vars.length:=by simpa using hc
   have lc:DF Tryz.prog H 4 (.ptr hb.length i 0)=some (.bool (decide (((i:Nat):Int)∈flG p.groups))):=by
    rw [DI ag4 hb0 (WQ _ hi')]; rfl
   simp -implicitDefEqProofs only [BC,CG,A8,BQ,A7,AZ,BB,AC,AQ,AO,BD,AX,AL,AA,AY,BZ,BG,BA,BO,CB,BP,AB,jF,jE,jD,↓reduceIte,jA,jB,jC,enP,f1,f47,lp']
   refine (UI G p _ hl _).use ?_
   have nxt:(O0 p.vars (i:Nat)=true→((i:Nat):Int)∈flG p.groups)→∀ (j:Nat),j < i+1→j < p.vars.length→O0 p.vars (j:Nat)=true→((j:Nat):Int)∈flG p.groups:=fun he j hj hl hr=>by
    rcases jT j i with h1 | h1
    ·exact hbb j h1 hl hr
    ·obtain rfl:j=i:=by omega
     exact he hr
   cases b1:O0 p.vars ((i:Nat):Int)
   ·have he:=nxt (fun q=>by rw [b1] at q; cases q)
    simp -implicitDefEqProofs only [A8,BQ,BI,A7,ET,EX,D9,AZ,BB,BM,CE,CQ,I7,AC,AQ,AO,BD,AX,AL,AA,EO,AY,AU,BH,BL,BG,CS,DU,BX,AB,DX,↓reduceIte,jA,jB,jC,enP,f47,wrap_succ (show i < 9223372036854775807 by omega)]
    exact ⟨n - 1,by omega,i+1,by omega,he,by trivial,by trivial,by trivial,rfl,trivial⟩
   simp -implicitDefEqProofs only [BI,A7,AZ,BB,BM,CE,CQ,FY,AC,AQ,AO,BD,AX,AL,AA,AY,AU,BL,BG,CS,DL,BO,IQ,CO,AB,FI,↓reduceIte,jA,jG,jB,jC,enP,ATQ,f3,f47,PD hb0 hi',lc]
   refine CX (fun b2 => ?_) (fun b2 => ?_)
   ·simp -implicitDefEqProofs only [BC,A8,BK,A7,CW,EN,FV,CU,AZ,BB,AC,AQ,AO,BD,AX,AL,AA,AU,BH,BA,↓reduceIte,jB,jC]
    refine ⟨nb (X9 hi' ?_),hx0⟩
    have h1 : ¬ ((i:Nat):Int)∈flG p.groups:=by simpa using b2
    have h2 : ¬ p.vars[i].mode=0:=by rw [U5 hi'] at b1; simpa using b1
    rw [if_neg h2,List.count_eq_zero.2 h1]; decide
   ·have he:=nxt (fun _=>by simpa using b2)
    simp -implicitDefEqProofs only [A8,BQ,A7,ET,EX,AZ,BB,AC,AQ,AO,BD,AX,AL,AA,AY,AU,BH,BG,BX,AB,DX,↓reduceIte,jA,jB,jC,enP,f47,wrap_succ (show i < 9223372036854775807 by omega)]
    exact ⟨n - 1,by omega,i+1,by omega,he,by trivial,by trivial,by trivial,rfl,trivial⟩
  ·have hi' : ¬ i < p.vars.length:=by simpa using hc
   simp -implicitDefEqProofs only [BC,A8,BK,DW,A7,EP,FH,FM,CU,AZ,BB,AC,AQ,AO,BD,AX,AL,AA,AU,BH,BA,↓reduceIte,jB,jC]
   refine ⟨?_,hx0⟩
   have:gOK p.vars p.groups=true:=decide_eq_true ⟨hne,fun x hx=>by
    obtain ⟨k,hk,rfl,_⟩:=AD8 (hin x hx)
    omega,fun j=>by
    by_cases hr:O0 p.vars ((j.1:Nat):Int)=true
    ·have h1:=List.count_pos_iff.2 (hbb j.1 (by omega) j.2 hr)
     have h2:=hct ((j.1:Nat):Int)
     rw [U5 j.2] at hr
     rw [if_neg (by simpa using hr)]; omega
    ·have h1 : ¬ ((j.1:Nat):Int)∈flG p.groups:=fun hm=>hr (hin _ hm)
     rw [U5 j.2] at hr
     rw [if_pos (by simpa using hr)]
     exact List.count_eq_zero.2 h1⟩
   rw [this]; rfl
 ·rintro F H ⟨f2,hx⟩
  simp -implicitDefEqProofs only [CW,EN,CU,f2]
  exact ⟨trivial,hx⟩
end
structure PrS (p:Pr):Prop where
 vars:p.vars.length≤1048576
 names : ∀ v∈p.vars,v.name.size≤1048576
 exprs:p.hard.length+p.soft.length≤1048576
 wts : ∀ e∈p.hard ++ p.soft,wt e≤1048576
 dists:p.dists.length≤1048576
 ws : ∀ d∈p.dists,d.ws.length≤1048576
 groups:p.groups.length≤1048576
 members:(flG p.groups).length≤1048576
def NJ (p:Pr):Int:=if KO p.vars≠0 then KO p.vars else if KD p.vars (p.hard ++ p.soft)≠0 then KD p.vars (p.hard ++ p.soft) else if MZ p.vars p.dists≠0 then MZ p.vars p.dists else if gOK p.vars p.groups=true then 0 else 1
section
variable (G:Nat→AV)
theorem AIN (fs:List (FuncId × List AV × Int)) (b:Nat) (hn:fs.length≤1048576) (h:Hp) (hb:h[b]? = some (.live 1 (fs.map fun x => [.fn (.func x.1) [] x.2.1]))) (hf : ∀ x∈fs,PCall (En G) x.1 ([] ++ x.2.1) h (.int .i64 x.2.2)):PCall (En G) 58 [.own b 0 fs.length] h (.int .i64 (N8 (fun x=>x.2.2) fs)):=by
 refine ACalls.pure0 rfl ?_
 refine acN Tryz.func58 rfl ?_
 show awp _ _ _ _ _ (EH _ [.tmp 2] _)
 simp -implicitDefEqProofs only [BC,CG,A8,A7,AZ,BB,AC,AQ,AO,BD,AX,AL,AA,AY,AU,BH,BG,BA,EW,AB,BF,↓reduceIte,jA,jB,jC,enP,AZN]
 refine G6 0 (fun F H=>H=h∧∀ x∈fs,x.2.2=0) (fun F H=>F 2 = .int .i64 (N8 (fun x=>x.2.2) fs)∧ext h H) ?_ ?_ ?_
 ·refine D5 (fun n F H => ∃ i,n+i=fs.length∧F 6 = .own b 0 fs.length∧F 7 = .int .i64 (fs.length:Nat)∧F 8 = .int .i64 (i:Nat)∧H=h∧∀ (j:Nat) (hj:j < i) (hl:j < fs.length),fs[j].2.2=0) fs.length ⟨0,by simp,by simp -implicitDefEqProofs only [AA,↓reduceIte,jA],by simp -implicitDefEqProofs only [AA,↓reduceIte,jA],by simp -implicitDefEqProofs only [AA,↓reduceIte]; rfl,rfl,by intro j hj; omega⟩ ?_
  rintro n F H ⟨i,hi,f6,f7,f8,rfl,hz⟩
  simp -implicitDefEqProofs only [BC,A8,BI,A7,AZ,BB,AC,AQ,AO,BD,AX,AL,AA,AY,BX,AB,C9,↓reduceIte,jB,jC,enP,f7,f8]
  refine CX (fun hc => ?_) (fun hc => ?_)
  ·have hi':i < fs.length:=by simpa using hc
   have lf:DF Tryz.prog H 103 (.ptr b i 0)=some (.fn (.func fs[i].1) [] fs[i].2.1):=by
    rw [DI (row := [.fn (.func fs[i].1) [] fs[i].2.1]) A1M hb (by rw [List.getElem?_map,jS hi']; rfl)]; rfl
   simp -implicitDefEqProofs only [BC,CG,A8,BQ,A7,AZ,BB,AC,AQ,AO,BD,AX,AL,AA,AY,BG,BA,BO,CO,CB,BP,AB,jE,zU,↓reduceIte,jA,jG,jB,jC,enP,AZW,f6,f8,PD hb hi',lf]
   refine (hf _ (jX hi')).use ?_
   simp -implicitDefEqProofs only [BC,A8,BI,A7,AZ,BB,AC,AQ,AO,BD,AX,AL,AA,AY,AU,BH,BG,BA,BX,AB,EU,↓reduceIte,jB,jC,enP]
   refine CX (fun hz' => ?_) (fun hz' => ?_)
   ·simp -implicitDefEqProofs only [BC,A8,BK,A7,CW,EN,NM,FV,AZ,BB,AC,AQ,AO,BD,AX,AL,AA,AY,BG,BA,↓reduceIte,jA,jB,jC]
    exact ⟨by rw [QG (fun x:FuncId × List AV × Int=>x.2.2) fs i hi' (fun j hj=>hz j hj (by omega)) (by simpa using hz')],ext.rfl' _⟩
   ·simp -implicitDefEqProofs only [A8,BQ,A7,ET,EX,AZ,BB,AC,AQ,AO,BD,AX,AL,AA,AY,AU,BH,BG,BX,AB,DX,↓reduceIte,jA,jB,jC,enP,f8,wrap_succ (show i < 9223372036854775807 by omega)]
    refine ⟨n - 1,by omega,i+1,by omega,by trivial,by trivial,rfl,trivial,fun j hj hl => ?_⟩
    rcases jT j i with h1 | h1
    ·exact hz j h1 hl
    ·obtain rfl:j=i:=by omega
     simpa using hz'
  ·have hi' : ¬ i < fs.length:=by simpa using hc
   simp -implicitDefEqProofs only [DW,EP,KE,FM,↓reduceIte]
   refine ⟨trivial,fun x hx => ?_⟩
   obtain ⟨j,hj,rfl⟩:=qL hx
   exact hz j (by omega) hj
 ·rintro F H ⟨rfl,hz⟩
  simp -implicitDefEqProofs only [BC,A8,BK,A7,FH,CU,AZ,BB,AC,AQ,AO,BD,AX,AL,AA,AU,BH,BA,↓reduceIte,jB,jC]
  exact ⟨by rw [OH _ fs fun j hj=>hz _ (jX hj)],ext.rfl' _⟩
 ·rintro F H ⟨f2,hx⟩
  simp -implicitDefEqProofs only [CW,EN,CU,f2]
  exact ⟨trivial,hx⟩
theorem AUH (hG:GOk G) (p:Pr) (hs:PrS p) (b:Nat) (h:Hp) (hb:h[b]? = some (.live 5 [DZ p])):PCall (En G) 59 ([] ++ [.ptr b 0 0]) h (.int .i64 (KO p.vars)):=by
 refine acN Tryz.func59 rfl ?_
 show awp _ _ _ _ _ (EH _ [.tmp 1] _)
 have l0:DF Tryz.prog h 22 (.ptr b 0 0)=some (.sl p.vm 4 (p.vars.map E5)):=by rw [DI UD hb (row:=DZ p) rfl]; rfl
 simp -implicitDefEqProofs only [BC,A8,A7,AZ,BB,AC,AQ,AO,BD,AX,AL,AA,AY,AU,BZ,BH,BA,BO,BJ,CB,BP,AB,BF,jF,jE,jD,zU,↓reduceIte,jA,jI,jB,jC,enX,enP,KH,l0]
 refine (AMY G hG p.vars p.vm h hs.vars hs.names).use ?_
 simp -implicitDefEqProofs only [BK,A7,CU,AZ,BB,AC,AQ,AO,BD,AX,AL,AA,AY,BA,↓reduceIte,jB,jC]
 exact ⟨trivial,trivial⟩
theorem AUG (hG:GOk G) (p:Pr) (hs:PrS p) (b:Nat) (h:Hp) (hb:h[b]? = some (.live 5 [DZ p])):PCall (En G) 61 ([] ++ [.ptr b 0 0]) h (.int .i64 (KD p.vars (p.hard ++ p.soft))):=by
 refine acN Tryz.func61 rfl ?_
 show awp _ _ _ _ _ (EH _ [.tmp 1] _)
 have lp:DF Tryz.prog h 27 (.ptr b 0 0)=some (.agg (DZ p)):=by rw [GH VR UG hb (row:=DZ p) rfl (by rw [JF]; exact jO 5)]; rfl
 simp -implicitDefEqProofs only [BC,A8,A7,AZ,BB,AC,AQ,AO,BD,AX,AL,AA,AY,AU,BZ,BH,BA,BO,CB,BP,AB,BF,jF,jE,jD,zU,↓reduceIte,jA,jB,jC,enX,enP,lp]
 refine (AKC G hG p hs.vars hs.exprs hs.wts h).use ?_
 simp -implicitDefEqProofs only [BK,A7,CU,AZ,BB,AC,AQ,AO,BD,AX,AL,AA,AY,BA,↓reduceIte,jB,jC]
 exact ⟨trivial,trivial⟩
theorem AUF (p:Pr) (hs:PrS p) (b:Nat) (h:Hp) (hb:h[b]? = some (.live 5 [DZ p])):PCall (En G) 63 ([] ++ [.ptr b 0 0]) h (.int .i64 (MZ p.vars p.dists)):=by
 refine acN Tryz.func63 rfl ?_
 show awp _ _ _ _ _ (EH _ [.tmp 1] _)
 have lp:DF Tryz.prog h 27 (.ptr b 0 0)=some (.agg (DZ p)):=by rw [GH VR UG hb (row:=DZ p) rfl (by rw [JF]; exact jO 5)]; rfl
 simp -implicitDefEqProofs only [BC,A8,A7,AZ,BB,AC,AQ,AO,BD,AX,AL,AA,AY,AU,BZ,BH,BA,BO,CB,BP,AB,BF,jF,jE,jD,zU,↓reduceIte,jA,jB,jC,enX,enP,lp]
 refine (AKI G p hs.vars hs.dists hs.ws h).use ?_
 simp -implicitDefEqProofs only [BK,A7,CU,AZ,BB,AC,AQ,AO,BD,AX,AL,AA,AY,BA,↓reduceIte,jB,jC]
 exact ⟨trivial,trivial⟩
theorem AUE (p:Pr) (hs:PrS p) (b:Nat) (h:Hp) (hb:h[b]? = some (.live 5 [DZ p])):PCall (En G) 65 ([] ++ [.ptr b 0 0]) h (.int .i64 (if gOK p.vars p.groups=true then 0 else 1)):=by
 refine acN Tryz.func65 rfl ?_
 show awp _ _ _ _ _ (EH _ [.tmp 1] _)
 have lp:DF Tryz.prog h 27 (.ptr b 0 0)=some (.agg (DZ p)):=by rw [GH VR UG hb (row:=DZ p) rfl (by rw [JF]; exact jO 5)]; rfl
 simp -implicitDefEqProofs only [BC,A8,A7,AZ,BB,AC,AQ,AO,BD,AX,AL,AA,AY,AU,BZ,BH,BA,BO,CB,BP,AB,BF,jF,jE,jD,zU,↓reduceIte,jA,jB,jC,enX,enP,lp]
 refine (AH0 G p hs.vars hs.groups hs.members h).use ?_
 simp -implicitDefEqProofs only [BK,A7,CU,AZ,BB,AC,AQ,AO,BD,AX,AL,AA,AY,BA,↓reduceIte,jB,jC]
 exact ⟨trivial,trivial⟩
theorem A03 (h:Hp) (a b c d:Fn) (k l m n:List AV):ER Tryz.prog true h 149 4 [(0,.fn a [] k),(1,.fn b [] l),(2,.fn c [] m),(3,.fn d [] n)]=some (.own h.length 0 4,h ++ [ABlk.live 1 [[.fn a [] k],[.fn b [] l],[.fn c [] m],[.fn d [] n]]]):=by kernel_rfl
theorem ABN (hG:GOk G) (p:Pr) (hs:PrS p) (h:Hp):PCall (En G) 33 [.agg (DZ p)] h (.int .i64 (NJ p)):=by
 refine ACalls.pure0 rfl ?_
 refine KL (H:=hint [7] []) (enM G) Tryz.func33 rfl (by kernel_rfl) (by kernel_rfl) (jH (by kernel_rfl)) ?_
 show awp _ _ _ _ _ (EH _ [.tmp 2] _)
 have ge:=CV h (ABlk.live 5 [DZ p])
 have hxx:ext h (h ++ [ABlk.live 5 [DZ p]]):=(ext.rfl' h).app _
 simp -implicitDefEqProofs only [FT,FX,F9,jZ,jY,zA,jW,BC,A8,A7,AZ,BB,AO,BD,AX,AL,AA,AY,AU,BZ,BH,BA,FK,FU,II,CB,BP,BR,BF,jF,jE,jD,↓reduceIte,jA,jB,jC,enP,G8,TZ,A03]
 generalize h ++ [ABlk.live 5 [DZ p]]=hb at ge hxx ⊢
 generalize h.length=eb at ge ⊢
 have hx2:=hxx.app [ABlk.live 1 [[AV.fn (.func 59) [] [.ptr eb 0 0]],[.fn (.func 61) [] [.ptr eb 0 0]],[.fn (.func 63) [] [.ptr eb 0 0]],[.fn (.func 65) [] [.ptr eb 0 0]]]]
 have ge2:=BN (x:=ABlk.live 1 [[AV.fn (.func 59) [] [.ptr eb 0 0]],[.fn (.func 61) [] [.ptr eb 0 0]],[.fn (.func 63) [] [.ptr eb 0 0]],[.fn (.func 65) [] [.ptr eb 0 0]]]) ge
 refine (AIN G [(59,[.ptr eb 0 0],KO p.vars),(61,[.ptr eb 0 0],KD p.vars (p.hard ++ p.soft)),(63,[.ptr eb 0 0],MZ p.vars p.dists),(65,[.ptr eb 0 0],if gOK p.vars p.groups=true then 0 else 1)] hb.length (by simp) _ (CV _ _) ?_).use ?_
 ·intro x hx
  simp only [List.mem_cons,List.not_mem_nil,or_false] at hx
  rcases hx with rfl | rfl | rfl | rfl
  ·exact AUH G hG p hs eb _ ge2
  ·exact AUG G hG p hs eb _ ge2
  ·exact AUF G p hs eb _ ge2
  ·exact AUE G p hs eb _ ge2
 ·simp -implicitDefEqProofs only [F9,jZ,jY,zA,jW,BK,A7,CU,AZ,BB,AO,BD,AX,AL,AA,AY,BA,jF,jE,↓reduceIte,jB,jC,G8]
  refine ⟨?_,hx2⟩
  simp only [N8,NJ]
  by_cases h1:KO p.vars≠0
  ·rw [if_pos h1,if_pos h1]
  rw [if_neg h1,if_neg h1]
  by_cases h2:KD p.vars (p.hard ++ p.soft)≠0
  ·rw [if_pos h2,if_pos h2]
  rw [if_neg h2,if_neg h2]
  by_cases h3:MZ p.vars p.dists≠0
  ·rw [if_pos h3,if_pos h3]
  rw [if_neg h3,if_neg h3]
  cases gOK p.vars p.groups <;> rfl
theorem ADZ (p:Pr) (hs:PrS p) (h:Hp):PCall (En G) 22 [.agg (DZ p)] h (.int .i64 (NJ p)):=by
 refine ACalls.pure0 rfl ?_
 refine acN Tryz.func22 rfl ?_
 show awp _ _ _ _ _ (EH _ [.tmp 2] _)
 have ge:=CV h (ABlk.live 5 [DZ p])
 have hxx:ext h (h ++ [ABlk.live 5 [DZ p]]):=(ext.rfl' h).app _
 simp -implicitDefEqProofs only [BC,A8,A7,AZ,BB,AC,AQ,AO,BD,AX,AL,AA,AY,AU,BH,BA,FK,BO,BJ,BR,AB,BF,↓reduceIte,jA,jI,jB,jC,enP,KH,TZ]
 generalize h ++ [ABlk.live 5 [DZ p]]=hb at ge hxx ⊢
 generalize h.length=eb at ge ⊢
 have l0:DF Tryz.prog hb 22 (.ptr eb 0 0)=some (.sl p.vm 4 (p.vars.map E5)):=by rw [DI UD ge (row:=DZ p) rfl]; rfl
 have l1:DF Tryz.prog hb 23 (.ptr eb 0 1)=some (.sl p.hm 4 (p.hard.map DR)):=by rw [DI WT ge (row:=DZ p) rfl]; rfl
 have l2:DF Tryz.prog hb 23 (.ptr eb 0 2)=some (.sl p.sm 4 (p.soft.map DR)):=by rw [DI WT ge (row:=DZ p) rfl]; rfl
 have l3:DF Tryz.prog hb 24 (.ptr eb 0 3)=some (.sl p.dm 2 (p.dists.map KA)):=by rw [DI AX4 ge (row:=DZ p) rfl]; rfl
 have l4:DF Tryz.prog hb 25 (.ptr eb 0 4)=some (.sl p.gm 1 (p.groups.map MO)):=by rw [DI AUX ge (row:=DZ p) rfl]; rfl
 have hex:=hs.exprs
 have happ:KD p.vars (p.hard ++ p.soft)=if KD p.vars p.hard≠0 then KD p.vars p.hard else KD p.vars p.soft:=AH2 _ _ _
 simp -implicitDefEqProofs only [AZ,AC,AQ,AO,BD,AX,AL,AA,AY,BZ,CB,BP,AB,jF,jE,jD,↓reduceIte,jB,jC,l0]
 refine (ADG G p.vars p.vm hb hs.vars hs.names).use ?_
 simp -implicitDefEqProofs only [BC,A8,BI,A7,AZ,BB,AC,AQ,AO,BD,AX,AL,AA,AY,AU,BH,BG,BA,BX,AB,EU,↓reduceIte,jB,jC,enP]
 refine CX (fun h1 => ?_) (fun h1 => ?_)
 ·simp -implicitDefEqProofs only [BC,A8,BK,A7,CW,CU,AZ,BB,AC,AQ,AO,BD,AX,AL,AA,AY,BG,BA,↓reduceIte,jA,jB,jC]
  have h1:KO p.vars≠0:=by simpa using h1
  exact ⟨by unfold NJ; rw [if_pos h1],hxx⟩
 have h1 : ¬ KO p.vars≠0:=by simpa using h1
 simp -implicitDefEqProofs only [BC,A8,BQ,A7,AZ,AC,AQ,AO,BD,AX,AL,AA,AY,BZ,BO,BJ,CB,BP,AB,jF,jE,jD,↓reduceIte,jA,jI,jG,jB,jC,enP,KH,AQV,l0,l1]
 refine (TT G p.vars p.vm hs.vars p.hard p.hm (by omega) (fun e he=>hs.wts e (zY.2 (.inl he))) hb).use ?_
 simp -implicitDefEqProofs only [BC,A8,BI,A7,AZ,BB,AC,AQ,AO,BD,AX,AL,AA,AY,AU,BH,BG,BA,BX,AB,EU,↓reduceIte,jB,jC,enP]
 refine CX (fun h2 => ?_) (fun h2 => ?_)
 ·simp -implicitDefEqProofs only [BC,A8,BK,A7,CW,CU,AZ,BB,AC,AQ,AO,BD,AX,AL,AA,AY,BG,BA,↓reduceIte,jA,jB,jC]
  have h2:KD p.vars p.hard≠0:=by simpa using h2
  rw [if_pos h2] at happ
  exact ⟨by unfold NJ; rw [if_neg h1,happ,if_pos h2],hxx⟩
 have h2 : ¬ KD p.vars p.hard≠0:=by simpa using h2
 rw [if_neg h2] at happ
 simp -implicitDefEqProofs only [BC,A8,BQ,A7,AZ,AC,AQ,AO,BD,AX,AL,AA,AY,BZ,BO,BJ,CB,BP,AB,jF,jE,jD,↓reduceIte,jA,jI,jG,jB,jC,enP,KH,AQU,l0,l2]
 refine (TT G p.vars p.vm hs.vars p.soft p.sm (by omega) (fun e he=>hs.wts e (zY.2 (.inr he))) hb).use ?_
 simp -implicitDefEqProofs only [BC,A8,BI,A7,AZ,BB,AC,AQ,AO,BD,AX,AL,AA,AY,AU,BH,BG,BA,BX,AB,EU,↓reduceIte,jB,jC,enP]
 refine CX (fun h3 => ?_) (fun h3 => ?_)
 ·simp -implicitDefEqProofs only [BC,A8,BK,A7,CW,CU,AZ,BB,AC,AQ,AO,BD,AX,AL,AA,AY,BG,BA,↓reduceIte,jA,jB,jC]
  have h3:KD p.vars p.soft≠0:=by simpa using h3
  exact ⟨by unfold NJ; rw [if_neg h1,happ,if_pos h3],hxx⟩
 have h3 : ¬ KD p.vars p.soft≠0:=by simpa using h3
 simp -implicitDefEqProofs only [BC,A8,BQ,A7,AZ,AC,AQ,AO,BD,AX,AL,AA,AY,BZ,BO,BJ,CB,BP,AB,jF,jE,jD,↓reduceIte,jA,jI,jG,jB,jC,enP,KH,AKB,l0,l3]
 refine (AN8 G p.vars p.vm p.dists p.dm hs.vars hs.dists hs.ws hb).use ?_
 simp -implicitDefEqProofs only [BC,A8,BI,A7,AZ,BB,AC,AQ,AO,BD,AX,AL,AA,AY,AU,BH,BG,BA,BX,AB,EU,↓reduceIte,jB,jC,enP]
 refine CX (fun h4 => ?_) (fun h4 => ?_)
 ·simp -implicitDefEqProofs only [BC,A8,BK,A7,CW,CU,AZ,BB,AC,AQ,AO,BD,AX,AL,AA,AY,BG,BA,↓reduceIte,jA,jB,jC]
  have h4:MZ p.vars p.dists≠0:=by simpa using h4
  exact ⟨by unfold NJ; rw [if_neg h1,happ,if_neg h3,if_pos h4],hxx⟩
 have h4 : ¬ MZ p.vars p.dists≠0:=by simpa using h4
 simp -implicitDefEqProofs only [BC,A8,BQ,A7,AZ,AC,AQ,AO,BD,AX,AL,AA,AY,BZ,BO,BJ,CB,BP,AB,jF,jE,jD,↓reduceIte,jA,jI,jG,jB,jC,enP,KH,ZF,l0,l4]
 refine (AJ2 G p.vars p.vm p.groups p.gm hs.vars hs.groups hs.members hb).use ?_
 simp -implicitDefEqProofs only [BI,A7,AZ,BB,AC,AQ,AO,BD,AX,AL,AA,AY,IQ,AB,FI,↓reduceIte,jB,jC]
 refine CX (fun h5 => ?_) (fun h5 => ?_)
 ·simp -implicitDefEqProofs only [BC,A8,BK,A7,CW,CU,AZ,BB,AC,AQ,AO,BD,AX,AL,AA,AU,BH,BA,↓reduceIte,jB,jC]
  have h5 : ¬ gOK p.vars p.groups=true:=by simpa using h5
  exact ⟨by unfold NJ; rw [if_neg h1,happ,if_neg h3,if_neg h4,if_neg h5],hxx⟩
 ·simp -implicitDefEqProofs only [BC,A8,BQ,BK,A7,CU,AZ,BB,AC,AQ,AO,BD,AX,AL,AA,AU,BH,BA,↓reduceIte,jB,jC]
  have h5:gOK p.vars p.groups=true:=by simpa using h5
  exact ⟨by unfold NJ; rw [if_neg h1,happ,if_neg h3,if_neg h4,if_pos h5],hxx⟩
end
end Go.Proofs.YtgnoolgeijmlaaaGreatDoor.Bd
set_option linter.unusedSimpArgs false
set_option maxRecDepth 8000
namespace Go.Proofs.YtgnoolgeijmlaaaGreatDoor.Bd
open Sm Bins Cov Xe Wd Go.RowKit
def AT9 (vars:List Vr) (a:List Int):List Sg:=List.zipWith (fun v z=>(v.name,z)) vars a
section
variable (G:Nat→AV)
end
end Go.Proofs.YtgnoolgeijmlaaaGreatDoor.Bd
namespace Go.Proofs.YtgnoolgeijmlaaaGreatDoor.Cov
open Sm Bins Go.Proofs.YtgnoolgeijmlaaaGreatDoor.Bd Go.RowKit
theorem cl3:Tryz.prog.cellsOf 3=1:=by kernel_rfl
theorem cl4:Tryz.prog.cellsOf 4=1:=by kernel_rfl
theorem cl9:Tryz.prog.cellsOf 9=1:=by kernel_rfl
theorem A28:Tryz.prog.cellsOf 22=1:=by kernel_rfl
theorem AXR:Tryz.prog.cellsOf 23=1:=by kernel_rfl
theorem A27:Tryz.prog.cellsOf 24=1:=by kernel_rfl
theorem A26:Tryz.prog.cellsOf 25=1:=by kernel_rfl
theorem A3U:Tryz.prog.cellsOf 27=5:=by kernel_rfl
theorem A0B:Tryz.prog.cellsOf 37=4:=by kernel_rfl
theorem A25:Tryz.prog.cellsOf 29=1:=by kernel_rfl
theorem A0I:Tryz.prog.cellsOf 139=1:=by kernel_rfl
theorem A0H:Tryz.prog.cellsOf 141=2:=by kernel_rfl
theorem A22:Tryz.prog.cellsOf 65=4:=by kernel_rfl
theorem A0G:Tryz.prog.cellsOf 143=4:=by kernel_rfl
theorem rdI:Rd Tryz.prog 3 Bins.qencI okI:=AWU Tryz.underlying3
theorem rdStr:Rd Tryz.prog 9 encStr okS:=AWT Tryz.underlying9
theorem UJ {α:Type} {ok:α→Nat→Prop} {xs:List α} {b:Nat} (h : ∃ b',b'+1≤b∧okL ok xs b'):okL ok xs b:=by obtain ⟨b',h1,h2⟩:=h; exact h2.mono (by omega)
theorem AFF {t:TypeId} {f:Field} {fs:List Field} {α:Type} {enc:α→List AV} {ok:α→Nat→Prop} (hu:Tryz.prog.underlying t=some (.struct (f :: fs).toArray)):RdAt Tryz.prog 1 t enc ok:=by
 intro H ench w cs d ps h
 obtain ⟨zs,m,hm,_,_,hl,hz⟩:=DataW.trod_struct hu h
 obtain rfl:m=0:=by omega
 have:=hz 0 _ rfl
 simp only [DataW.trod] at this
 have h0:zs = []:=by cases zs with
  | nil=>rfl
  | cons a l=>simp at this
 subst h0; simp at hl
def okE (e:Ex) (b:Nat):Prop:=wt e≤b
theorem AHO : ∀ {l:List Ex} {b:Nat},okL okE l b→wts l≤b
 | [],b,_=>Nat.zero_le _
 | x :: xs,b,⟨b1,b2,h1,_,h3,h4⟩=>by
   have:=AHO h4
   simp only [wts]; unfold okE at h3; omega
theorem rdE : ∀ n:Nat,RdAt Tryz.prog n 37 DR okE:=by
 intro n
 induction n using Nat.strongRecOn with
 | _ n ih =>
   match n,ih with
   | 0,_=>exact RdAt.zero
   | 1,_=>exact AFF Tryz.underlying37
   | n+2,ih =>
     have rdA:RdAt Tryz.prog (n+1) 23 (fun x:SM × List Ex => [.sl x.1 4 (x.2.map DR)]) (fun x b => ∃ b',b'+1≤b∧okL okE x.2 b'):=O1 Tryz.underlying23 A0B (by decide) G9 (ih n (by omega))
     refine RdAt.map (fun x:Int × Int × ByteArray × (SM × List Ex) × Unit=>Ex.mk x.1 x.2.1 x.2.2.1 x.2.2.2.1.1 x.2.2.2.1.2)
      (OA Tryz.underlying37 (IJ rfl cl3 (fun _=>rfl) (rdI _) (IJ rfl cl3 (fun _=>rfl) (rdI _) (IJ rfl cl9 (fun _=>rfl) (rdStr _) (IJ rfl AXR (fun _=>rfl) rdA TE))))) (fun x=>by rw [MH]; rfl) ?_
     rintro ⟨a,b,c,d,_⟩ N ⟨_,hN,b1,b2,hb,h1,b3,b4,hb2,h2,b5,b6,hb3,h3,b7,b8,hb4,⟨b9,h5,h6⟩,_⟩
     have h7:=AHO h6
     unfold okS at h3
     show wt _≤_
     rw [PK]
     simp only [Ex.name,Ex.args]
     simp only at h3 h7
     omega
def AS5 (v:Vr) (b:Nat):Prop:=v.name.size≤b
theorem A2E:Rd Tryz.prog 65 E5 AS5:=by
 intro n
 cases n with
 | zero=>exact RdAt.zero
 | succ n =>
   refine RdAt.map (fun x:ByteArray × Int × Int × Int × Unit=>(⟨x.1,x.2.1,x.2.2.1,x.2.2.2.1⟩:Vr)) (OA Tryz.underlying65 (IJ rfl cl9 (fun _=>rfl) (rdStr n) (IJ rfl cl3 (fun _=>rfl) (rdI n) (IJ rfl cl3 (fun _=>rfl) (rdI n) (IJ rfl cl3 (fun _=>rfl) (rdI n) TE))))) (fun _=>rfl) ?_
   rintro ⟨a,b,c,d,_⟩ N ⟨_,hN,b1,b2,hb,h1,_⟩
   unfold okS at h1
   show a.size≤N
   simp only at h1
   omega
theorem A2D:Rd Tryz.prog 143 JZ (fun _ _=>True):=by
 intro n
 cases n with
 | zero=>exact RdAt.zero
 | succ n=>exact RdAt.map (fun x:Int × Int × Int × Bool × Unit=>(⟨x.1,x.2.1,x.2.2.1,x.2.2.2.1⟩:Wg)) (OA Tryz.underlying143 (IJ rfl cl3 (fun _=>rfl) (rdI n) (IJ rfl cl3 (fun _=>rfl) (rdI n) (IJ rfl cl3 (fun _=>rfl) (rdI n) (IJ rfl cl4 (fun _=>rfl) (AS2 Tryz.underlying4 n) TE))))) (fun _=>rfl) (fun _ _ _=>trivial)
def AS6 (d:Ds) (b:Nat):Prop:=d.ws.length≤b
theorem A2H:Rd Tryz.prog 141 KA AS6:=by
 intro n
 match n with
 | 0=>exact RdAt.zero
 | 1=>exact AFF Tryz.underlying141
 | n+2 =>
   have rdW:RdAt Tryz.prog (n+1) 139 (fun x:SM × List Wg => [.sl x.1 4 (x.2.map JZ)]) (fun x b => ∃ b',b'+1≤b∧okL (fun _ _=>True) x.2 b'):=O1 Tryz.underlying139 A0G (by decide) ZK (A2D n)
   refine RdAt.map (fun x:Int × (SM × List Wg) × Unit=>(⟨x.1,x.2.1.1,x.2.1.2⟩:Ds)) (OA Tryz.underlying141 (IJ rfl cl3 (fun _=>rfl) (rdI _) (IJ rfl A0I (fun _=>rfl) rdW TE))) (fun _=>rfl) ?_
   rintro ⟨a,b,_⟩ N ⟨_,hN,b1,b2,hb,h1,b3,b4,hb2,h2,_⟩
   have:=(UJ h2).length
   show b.2.length≤N
   simp only at this
   omega
def APV (g:Gp) (b:Nat):Prop:=g.l.length≤b
theorem A2G:Rd Tryz.prog 29 MO APV:=by
 intro n
 cases n with
 | zero=>exact RdAt.zero
 | succ n=>exact RdAt.map (fun x:SM × List Int=>(⟨x.1,x.2⟩:Gp)) (O1 Tryz.underlying29 cl3 (by decide) (fun _=>rfl) (rdI n)) (fun _=>rfl) (fun x b h=>(UJ h).length)
theorem AEA : ∀ {l:List Gp} {b:Nat},okL APV l b→(flG l).length≤b
 | [],b,_=>Nat.zero_le _
 | x :: xs,b,⟨b1,b2,h1,_,h3,h4⟩=>by
   have:=AEA h4
   unfold APV at h3
   show ((x :: xs).flatMap Gp.l).length≤b
   rw [List.flatMap_cons,List.length_append]
   unfold flG at this
   omega
def AZF (p:Pr) (b:Nat):Prop := ∃ b1 b2 b3 b4 b5,b1+b2+b3+b4+b5≤b∧okL AS5 p.vars b1∧okL okE p.hard b2∧okL okE p.soft b3∧okL AS6 p.dists b4∧okL APV p.groups b5
theorem A3R:Rd Tryz.prog 27 DZ AZF:=by
 intro n
 match n with
 | 0=>exact RdAt.zero
 | 1=>exact AFF Tryz.underlying27
 | n+2 =>
   have r1:RdAt Tryz.prog (n+1) 22 (fun x:SM × List Vr => [.sl x.1 4 (x.2.map E5)]) (fun x b => ∃ b',b'+1≤b∧okL AS5 x.2 b'):=O1 Tryz.underlying22 A22 (by decide) ACN (A2E n)
   have r2:RdAt Tryz.prog (n+1) 23 (fun x:SM × List Ex => [.sl x.1 4 (x.2.map DR)]) (fun x b => ∃ b',b'+1≤b∧okL okE x.2 b'):=O1 Tryz.underlying23 A0B (by decide) G9 (rdE n)
   have r4:RdAt Tryz.prog (n+1) 24 (fun x:SM × List Ds => [.sl x.1 2 (x.2.map KA)]) (fun x b => ∃ b',b'+1≤b∧okL AS6 x.2 b'):=O1 Tryz.underlying24 A0H (by decide) ACO (A2H n)
   have r5:RdAt Tryz.prog (n+1) 25 (fun x:SM × List Gp => [.sl x.1 1 (x.2.map MO)]) (fun x b => ∃ b',b'+1≤b∧okL APV x.2 b'):=O1 Tryz.underlying25 A25 (by decide) (fun _=>rfl) (A2G n)
   refine RdAt.map (fun x:(SM × List Vr) × (SM × List Ex) × (SM × List Ex) × (SM × List Ds) × (SM × List Gp) × Unit=>(⟨x.1.1,x.1.2,x.2.1.1,x.2.1.2,x.2.2.1.1,x.2.2.1.2,x.2.2.2.1.1,x.2.2.2.1.2,x.2.2.2.2.1.1,x.2.2.2.2.1.2⟩:Pr))
    (OA Tryz.underlying27 (IJ rfl A28 (fun _=>rfl) r1 (IJ rfl AXR (fun _=>rfl) r2 (IJ rfl AXR (fun _=>rfl) r2 (IJ rfl A27 (fun _=>rfl) r4 (IJ rfl A26 (fun _=>rfl) r5 TE)))))) (fun _=>rfl) ?_
   rintro ⟨a,b,c,d,e,_⟩ N ⟨_,hN,b1,b2,hb,h1,b3,b4,hb2,h2,b5,b6,hb3,h3,b7,b8,hb4,h4,b9,b10,hb5,h5,_⟩
   exact ⟨b1,b3,b5,b7,b9,by omega,UJ h1,UJ h2,UJ h3,UJ h4,UJ h5⟩
theorem A2J {p:Pr} {b:Nat} (h:AZF p b) (hb:b≤1048576):PrS p:=by
 obtain ⟨b1,b2,b3,b4,b5,h0,h1,h2,h3,h4,h5⟩:=h
 have l1:=h1.length
 have l2:=h2.length
 have l3:=h3.length
 have l4:=h4.length
 have l5:=h5.length
 have l6:=AEA h5
 refine ⟨by omega,fun v hv => ?_,by omega,fun e he => ?_,by omega,fun d hd => ?_,by omega,by omega⟩
 ·obtain ⟨b6,h6,h7⟩:=h1.each v hv
  unfold AS5 at h7; omega
 ·rcases List.mem_append.1 he with he | he
  ·obtain ⟨b6,h6,h7⟩:=h2.each e he
   unfold okE at h7; omega
  ·obtain ⟨b6,h6,h7⟩:=h3.each e he
   unfold okE at h7; omega
 ·obtain ⟨b6,h6,h7⟩:=h4.each d hd
  unfold AS6 at h7; omega
end Go.Proofs.YtgnoolgeijmlaaaGreatDoor.Cov
namespace Go.Proofs.YtgnoolgeijmlaaaGreatDoor.Cov
open Sm Bins Go.RowKit
noncomputable def AP8 (z:Int):Nat→AV:=fun n=>if n=0 then .fptr 1 [[.sl .any 1 (kw.map encStr)]] 0 0 else if n=1 then .fptr 1 [[.int .i64 z]] 0 0 else .junk
theorem AZQ (z:Int):GOk (AP8 z):=⟨⟨.any,rfl⟩,z,rfl⟩
theorem AQA {H:Type}:(Rows.laid_testbench_lexer_keywords:DataW H) = .slice (kw.map fun s => .lit (.string s.data.toList)) []:=rfl
theorem ASI {w:World} {g:Nat} {k:IntKind} {z:Int} (h:w.cell? ⟨g,0,none⟩=some (.int k z)):RepF (M0 w) (.fptr 1 [[.int k z]] 0 0) (.pointer (some ⟨g,0,none⟩)):=by
 simp only [World.cell?] at h
 split at h
 case h_2=>simp at h
 rename_i cc ty fz hw
 have hcc:cc[0]? = some (.int k z):=by simpa using h
 refine .fptr 1 [[.int k z]] 0 0 g 0 cc ty fz (fun _ _ => .int k z) hw ?_ ?_ ?_
 ·intro i row hrow
  cases i with
  | zero =>
    simp at hrow; subst hrow
    refine ⟨rfl,fun j v hv => ?_⟩
    cases j with
    | zero=>simp at hv; subst hv; rfl
    | succ j=>simp at hv
  | succ i=>simp at hrow
 ·intro i j hi hj
  obtain rfl:i=0:=by simpa using hi
  obtain rfl:j=0:=by omega
  exact hcc
 ·intro i j row v hrow hv
  cases i with
  | zero =>
    simp at hrow; subst hrow
    cases j with
    | zero=>simp at hv; subst hv; exact .int _ _
    | succ j=>simp at hv
  | succ i=>simp at hrow
theorem A1U {W:World} (h:laidMetH Tryz.prog [("math/bits.deBruijn32tab",Rows.laid_math_bits_deBruijn32tab),("math/bits.deBruijn64tab",Rows.laid_math_bits_deBruijn64tab),("internal/strconv.uint64pow10",Rows.laid_internal_strconv_uint64pow10),("testbench/lexer.keywords",Rows.laid_testbench_lexer_keywords)] W) (hsh:W.ShapedOpen Tryz.prog) :
  ∃ z,∀ n,RepF (M0 W) (AP8 z n) (.pointer (some ⟨n,0,none⟩)):=by
 rw [MakeChecks.laidMetH_plain _ _ _ (by kernel_rfl)] at h
 obtain ⟨ps,⟨_,_,_,_,_,_,_,_,_,_,⟨_,_,_,_,_,_,_,_,_,_,⟨_,_,_,_,_,_,_,_,_,_,⟨g3,t3,cs3,f3,p3,q3,hg3,ht3,hv3,hd3,_,_⟩,_⟩,_⟩,_⟩,_,_⟩:=h
 have hgk:Tryz.prog.globalNamed "testbench/lexer.keywords" = some 0:=by kernel_rfl
 have htk:(Tryz.prog.globals[0]?).map (·.type)=some 97:=by kernel_rfl
 obtain rfl:=Option.some.inj (hgk.symm.trans hg3)
 obtain rfl:=Option.some.inj (htk.symm.trans ht3)
 obtain ⟨c,h1,h2⟩:=ANR Tryz.underlying97 Tryz.underlying9 cl9 AQA hd3
 obtain ⟨z,hz⟩:=cell_of_shapedOpen_int (P:=Tryz.prog) (g:=1) (t:=3) (zero := #[.int .i64 0]) hsh (of_decide_eq_true (by kernel_rfl)) (by kernel_rfl) rfl (by kernel_rfl) (by kernel_rfl) Tryz.underlying3
 refine ⟨z,fun n => ?_⟩
 unfold AP8
 split
 ·rename_i hn; subst hn
  exact ASH hg3 hv3 h1 h2 rfl
 ·split
  ·rename_i hn; subst hn
   exact ASI hz
  ·exact .junk _
end Go.Proofs.YtgnoolgeijmlaaaGreatDoor.Cov
