/- Part 10 of the proof (V2, V3, V4, V5, V6, V7, V8, Kb, Kw); no condition. -/
import Derived.LaidMore
import Derived.Shelf.Vars
import Derived.Test.YtokehnfjjmpanaaGreatDoorYB9
set_option linter.unusedVariables false
set_option linter.unusedSimpArgs false
set_option maxRecDepth 8000
namespace Go.Proofs.YtokehnfjjmpanaaGreatDoor.Bd
open Sm Bins Cov Xe Go.RowKit
open Bool renaming not_false→jC,eq_iff_iff→qZ,true_or→wB,or_true→qC,or_false→jM,not_true→jW
open Int renaming toNat_natCast→zG,eq_ofNat_of_zero_le→zI,le_refl→qK
open List renaming length_cons→qF,length_map→jR,getElem_mem→jT,append_assoc→qA,take_append_drop→qY,map_cons→jF,map_nil→jD,append_nil→jE,take_of_length_le→jY,nil_append→zJ,cons_append→zV,length_append→qB,take_zero→zC,getElem?_eq_getElem→jU,length_take→qG,any_eq_true→qR,getElem_of_mem→qJ,take_succ_eq_append_getElem→zY,drop_eq_getElem_cons→zO,getElem?_set→jZ,getElem?_eq_none→zM,eq_nil_of_length_eq_zero→qX,mem_append→zX,contains_cons→jO,contains_nil→jP
open Nat renaming le_of_ble_eq_true→jJ,reduceEqDiff→jA,add_zero→jH,zero_add→jG,lt_or_ge→jV,le_refl→jQ,reduceBEq→jI
open Option renaming getD_some→jB,getD_none→jK
def U7 (x:Ex):Bool:=(x.op == 3) || (x.op == 24)
def U6 (l:List Vr) (x:Ex):Bool:=(x.op == 2) && decide (plc l x.name < 0)
def AK6 (e:Ex):Bool:=(pre e).any U7
def AH8 (l:List Vr) (e:Ex):Bool:=(pre e).any (U6 l)
def plE (l:List Vr) (e:Ex):Int:=if AK6 e=true then 9 else if AH8 l e=true then 7 else 0
def xpE (l:List Vr) (e:Ex):Int:=if exE e≠0 then exE e else plE l e
def KN (l:List Vr) (xs:List Ex):Int:=PH (xpE l) xs
theorem AH7 {α:Type} (f:α→Int) : ∀ xs ys:List α,PH f (xs ++ ys)=if PH f xs≠0 then PH f xs else PH f ys
 | [],ys=>by simp [PH]
 | x :: xs,ys=>by
   have ih:=AH7 f xs ys
   show (if f x≠0 then f x else PH f (xs ++ ys))=if (if f x≠0 then f x else PH f xs)≠0 then (if f x≠0 then f x else PH f xs) else PH f ys
   rw [ih]
   by_cases h:f x≠0
   ·rw [if_pos h,if_pos h,if_pos h]
   ·rw [if_neg h,if_neg h]
section
variable (G:Nat→AV)
theorem AK7 (e:Ex):(pre e).length≤1048576→∀ h:Hp,PCall (En G) 128 [.agg (CW e)] h (.bool (AK6 e)):=by
 induction e using Ex.induct with | h e ih => ?_
 intro hw h
 have hpl:=congrArg List.length (pre_eq e)
 rw [qF] at hpl
 have hal:e.args.length≤1048576:=by have:=TN e.args; omega
 have hev:AK6 e=(U7 e || (IZ e.args).any U7):=by unfold AK6; rw [pre_eq,List.any_cons]
 rw [hev]
 refine ACalls.pure0 rfl ?_
 refine acN Tryz.func128 rfl ?_
 show awp _ _ _ _ _ (EN _ [.tmp 2] _)
 have ge:=DF h (ABlk.live 4 [CW e])
 have hx:ext h (h ++ [ABlk.live 4 [CW e]]):=(ext.rfl' h).app _
 simp -implicitDefEqProofs only [BB,A8,A7,AZ,BA,AO,AQ,AL,BD,AY,AC,AA,AX,AU,BM,BC,FQ,BO,BG,CB,AB,BF,↓reduceIte,jA,jH,jB,jC,enP,FU,bxE]
 generalize h ++ [ABlk.live 4 [CW e]]=H1 at ge hx ⊢
 generalize h.length=eb at ge ⊢
 have l0:DR Tryz.prog H1 3 (.ptr eb 0 0)=some (.int .i64 e.op):=by rw [DJ ag3 ge (row:=CW e) rfl,JC]
 have l3:DR Tryz.prog H1 23 (.ptr eb 0 3)=some (.sl e.m 4 (e.args.map CW)):=by rw [DJ NM ge (row:=CW e) rfl,NE]
 simp -implicitDefEqProofs only [AZ,BL,BX,CO,AO,AQ,AL,BD,AY,AC,AA,AX,AU,BH,BJ,BU,AB,CX,↓reduceIte,jB,jC,enP,l0]
 cases b3:(e.op == 3)
 case true =>
  simp -implicitDefEqProofs only [BB,A8,BK,BI,A7,CJ,CV,DI,AZ,BA,BL,BX,CO,F7,AO,AQ,AL,BD,AY,AC,AA,EQ,AX,AU,BM,BC,CP,DW,↓reduceIte,jA,jB,jC,b3]
  exact ⟨by unfold U7; rw [b3]; rfl,hx⟩
 simp -implicitDefEqProofs only [BI,A7,AZ,BA,BL,BX,CO,EY,AO,AQ,AL,BD,AY,AC,AA,AX,AU,BH,BM,CP,DZ,BO,BU,BG,AB,CX,↓reduceIte,jA,jH,jB,jC,enP,FU,b3,l0]
 cases b4:(e.op == 24)
 case true =>
  simp -implicitDefEqProofs only [BB,A8,BK,A7,CJ,CV,DI,AZ,BA,AO,AQ,AL,BD,AY,AC,AA,AU,BM,BC,↓reduceIte,jB,jC,b4]
  exact ⟨by unfold U7; rw [b3,b4]; rfl,hx⟩
 have h0:U7 e=false:=by unfold U7; rw [b3,b4]; rfl
 rw [h0,Bool.false_or]
 simp -implicitDefEqProofs only [BB,CE,A8,BR,A7,DN,AZ,BA,AO,AQ,AL,BD,AY,AC,AU,BH,BC,jB,jC,b4]
 refine EG (fun k F H => ∃ j,k+j=e.args.length∧F 1 = .ptr eb 0 0∧F 3 = .int .i64 (j:Nat)∧H=H1∧(IZ (e.args.take j)).any U7=false) e.args.length ⟨0,by simp,by simp -implicitDefEqProofs only [AA,↓reduceIte,jA],by simp -implicitDefEqProofs only [AA,↓reduceIte]; rfl,rfl,rfl⟩ ?_
 rintro k F H ⟨j,hj,f1,f3,rfl,hkn⟩
 simp -implicitDefEqProofs only [BB,A8,BI,A7,AZ,BA,AO,AQ,AL,BD,AY,AC,AA,AX,BJ,BO,BU,BG,FP,AB,DV,↓reduceIte,jA,jG,jB,jC,enP,TD,IJ,f1,f3,l3,jR]
 refine CQ (fun hc => ?_) (fun hc => ?_)
 ·have hj':j < e.args.length:=by simpa using hc
  have hmem:e.args[j]∈e.args:=jT hj'
  have hsplit:IZ e.args=IZ (e.args.take j) ++ (pre e.args[j] ++ IZ (e.args.drop (j+1))):=by
   rw [← qA,← KH _ _ hj',← ML,qY]
  simp -implicitDefEqProofs only [BB,CE,A8,BR,A7,AZ,AO,AQ,AL,BD,AY,AC,AA,AX,BN,BJ,BO,BG,CG,BV,BP,AB,jF,jD,jE,↓reduceIte,jA,jG,jB,jC,enP,LQ,IJ,f1,f3,l3,EX hj',EU KJ JR ES hj']
  refine (ih e.args[j] hmem (by have:=N7 hmem; omega) H).use ?_
  simp -implicitDefEqProofs only [BI,A7,BA,AC,AA,AX,↓reduceIte]
  refine CQ (fun hb => ?_) (fun hb => ?_)
  ·simp -implicitDefEqProofs only [BB,A8,BK,A7,CJ,D8,F9,CV,AZ,BA,AO,AQ,AL,BD,AY,AC,AA,AU,BM,BC,↓reduceIte,jB,jC]
   refine ⟨?_,hx⟩
   have hb:(pre e.args[j]).any U7=true:=hb
   rw [hsplit,List.any_append,List.any_append,hb]; simp
  ·simp -implicitDefEqProofs only [A8,BR,A7,EO,FO,AZ,BA,AO,AQ,AL,BD,AY,AC,AA,AX,AU,BH,BJ,BC,BU,AB,D6,↓reduceIte,jA,jB,jC,enP,f3,wrap_succ (show j < 9223372036854775807 by omega)]
   have hb:(pre e.args[j]).any U7=false:=hb
   exact ⟨k - 1,by omega,j+1,by omega,by trivial,rfl,trivial,by rw [KH _ _ hj',List.any_append,hkn,hb]; rfl⟩
 ·have hj' : ¬ j < e.args.length:=by simpa using hc
  rw [jY (by omega)] at hkn
  simp -implicitDefEqProofs only [BB,A8,BK,EF,A7,FC,F6,F8,CV,AZ,BA,AO,AQ,AL,BD,AY,AC,AA,AU,BM,BC,↓reduceIte,jB,jC]
  exact ⟨by rw [hkn],hx⟩
theorem AH9 (l:List Vr) (m:SM) (hl:l.length≤1048576) (e:Ex):(pre e).length≤1048576→∀ h:Hp,PCall (En G) 129 [.sl m 4 (l.map GH),.agg (CW e)] h (.bool (AH8 l e)):=by
 induction e using Ex.induct with | h e ih => ?_
 intro hw h
 have hpl:=congrArg List.length (pre_eq e)
 rw [qF] at hpl
 have hal:e.args.length≤1048576:=by have:=TN e.args; omega
 have hev:AH8 l e=(U6 l e || (IZ e.args).any (U6 l)):=by unfold AH8; rw [pre_eq,List.any_cons]
 rw [hev]
 refine ACalls.pure0 rfl ?_
 refine acN Tryz.func129 rfl ?_
 show awp _ _ _ _ _ (EN _ [.tmp 4] _)
 have ge:=DF h (ABlk.live 4 [CW e])
 have hx:ext h (h ++ [ABlk.live 4 [CW e]]):=(ext.rfl' h).app _
 simp -implicitDefEqProofs only [BB,A8,A7,AZ,BA,AO,AQ,AL,BD,AY,AC,AA,AX,AU,BM,BC,FQ,BO,BG,CB,AB,BF,BQ,↓reduceIte,jA,jH,jB,jC,enP,FU,bxE]
 generalize h ++ [ABlk.live 4 [CW e]]=H1 at ge hx ⊢
 generalize h.length=eb at ge ⊢
 have l0:DR Tryz.prog H1 3 (.ptr eb 0 0)=some (.int .i64 e.op):=by rw [DJ ag3 ge (row:=CW e) rfl,JC]
 have l2:DR Tryz.prog H1 9 (.ptr eb 0 2)=some (.str e.name):=by rw [DJ ag9 ge (row:=CW e) rfl,OB]
 have l3:DR Tryz.prog H1 23 (.ptr eb 0 3)=some (.sl e.m 4 (e.args.map CW)):=by rw [DJ NM ge (row:=CW e) rfl,NE]
 simp -implicitDefEqProofs only [AZ,BL,BX,CO,AO,AQ,AL,BD,AY,AC,AA,AX,AU,BH,BJ,BU,AB,CX,↓reduceIte,jB,jC,enP,l0]
 refine NZ (fun F H=>F 0 = .sl m 4 (l.map GH)∧F 3 = .ptr eb 0 0∧F 15 = .bool (U6 l e)∧H=H1) ?_ ?_
 ·cases b2:(e.op == 2)
  ·simp -implicitDefEqProofs only [AZ,BA,BL,BX,CO,IP,AO,AQ,AL,BD,AY,AC,AA,EQ,AX,AU,BM,CP,DZ,BF,↓reduceIte,jA,jB,jC,b2]
   exact ⟨trivial,trivial,by unfold U6; rw [b2]; rfl,trivial⟩
  ·simp -implicitDefEqProofs only [BL,BX,CO,GL,AO,AQ,AL,BD,AY,AC,AA,AX,BN,BJ,BO,BG,BV,BP,AB,BF,jF,jD,jE,↓reduceIte,jA,jG,jB,jC,enP,KF,b2,l2]
   refine (XP G l m e.name H1 (by omega)).use ?_
   simp -implicitDefEqProofs only [AZ,BA,BL,BX,CO,GL,AO,AQ,AL,BD,AY,AC,AA,AX,AU,BH,BM,CP,DW,BU,AB,DV,BF,↓reduceIte,jA,jB,jC,enP,b2]
   exact ⟨trivial,trivial,by unfold U6; rw [b2]; rfl,trivial⟩
 rintro F H ⟨f0,f3,f15,rfl⟩
 simp -implicitDefEqProofs only [BI,A7,AX,f15]
 refine CQ (fun hb => ?_) (fun hb => ?_)
 ·simp -implicitDefEqProofs only [BB,A8,BK,A7,CJ,CV,AZ,BA,AO,AQ,AL,BD,AY,AC,AA,AU,BM,BC,↓reduceIte,jB,jC]
  exact ⟨by rw [hb]; rfl,hx⟩
 rw [hb,Bool.false_or]
 simp -implicitDefEqProofs only [BB,CE,A8,BR,A7,AZ,BA,AO,AQ,AL,BD,AY,AC,AU,BH,BC,jB,jC]
 refine EG (fun k F H' => ∃ j,k+j=e.args.length∧F 0 = .sl m 4 (l.map GH)∧F 3 = .ptr eb 0 0∧F 5 = .int .i64 (j:Nat)∧H'=H∧(IZ (e.args.take j)).any (U6 l)=false) e.args.length ⟨0,by simp,by simp -implicitDefEqProofs only [AA,↓reduceIte,jA,f0],by simp -implicitDefEqProofs only [AA,↓reduceIte,jA,f3],by simp -implicitDefEqProofs only [AA,↓reduceIte]; rfl,rfl,rfl⟩ ?_
 clear f0 f3 f15
 rintro k F H ⟨j,hj,f0,f3,f5,rfl,hkn⟩
 simp -implicitDefEqProofs only [BB,A8,BI,A7,AZ,BA,AO,AQ,AL,BD,AY,AC,AA,AX,BJ,BO,BU,BG,FP,AB,DV,↓reduceIte,jA,jG,jB,jC,enP,TD,IJ,f3,f5,l3,jR]
 refine CQ (fun hc => ?_) (fun hc => ?_)
 ·have hj':j < e.args.length:=by simpa using hc
  have hmem:e.args[j]∈e.args:=jT hj'
  have hsplit:IZ e.args=IZ (e.args.take j) ++ (pre e.args[j] ++ IZ (e.args.drop (j+1))):=by
   rw [← qA,← KH _ _ hj',← ML,qY]
  simp -implicitDefEqProofs only [BB,CE,A8,BR,A7,AZ,AO,AQ,AL,BD,AY,AC,AA,AX,BN,BJ,BO,BG,CG,BV,BP,AB,jF,jD,jE,↓reduceIte,jA,jG,jB,jC,enP,LQ,IJ,f0,f3,f5,l3,EX hj',EU KJ JR ES hj']
  refine (ih e.args[j] hmem (by have:=N7 hmem; omega) H).use ?_
  simp -implicitDefEqProofs only [BI,A7,BA,AC,AA,AX,↓reduceIte]
  refine CQ (fun hb => ?_) (fun hb => ?_)
  ·simp -implicitDefEqProofs only [BB,A8,BK,A7,CJ,D8,F9,CV,AZ,BA,AO,AQ,AL,BD,AY,AC,AA,AU,BM,BC,↓reduceIte,jB,jC]
   refine ⟨?_,hx⟩
   have hb:(pre e.args[j]).any (U6 l)=true:=hb
   rw [hsplit,List.any_append,List.any_append,hb]; simp
  ·simp -implicitDefEqProofs only [A8,BR,A7,EO,FO,AZ,BA,AO,AQ,AL,BD,AY,AC,AA,AX,AU,BH,BJ,BC,BU,AB,D6,↓reduceIte,jA,jB,jC,enP,f5,wrap_succ (show j < 9223372036854775807 by omega)]
   have hb:(pre e.args[j]).any (U6 l)=false:=hb
   exact ⟨k - 1,by omega,j+1,by omega,by trivial,by trivial,rfl,trivial,by rw [KH _ _ hj',List.any_append,hkn,hb]; rfl⟩
 ·have hj' : ¬ j < e.args.length:=by simpa using hc
  rw [jY (by omega)] at hkn
  simp -implicitDefEqProofs only [BB,A8,BK,EF,A7,FC,F6,F8,CV,AZ,BA,AO,AQ,AL,BD,AY,AC,AA,AU,BM,BC,↓reduceIte,jB,jC]
  exact ⟨by rw [hkn],hx⟩
theorem ANR (l:List Vr) (m:SM) (hl:l.length≤1048576) (e:Ex) (hw:(pre e).length≤1048576) (h:Hp):PCall (En G) 86 [.sl m 4 (l.map GH),.agg (CW e)] h (.int .i64 (plE l e)):=by
 refine ACalls.pure0 rfl ?_
 refine acN Tryz.func86 rfl ?_
 show awp _ _ _ _ _ (EN _ [.tmp 4] _)
 simp -implicitDefEqProofs only [BB,A8,A7,AZ,BA,AO,AQ,AL,BD,AY,AC,AA,AX,AU,BN,BH,BC,FQ,BO,BV,BP,CB,AB,BF,BQ,jF,jD,jE,↓reduceIte,jA,jB,jC,enP,bxE,ldE]
 refine (AK7 G e hw _).use ?_
 simp -implicitDefEqProofs only [BI,A7,BA,AC,AA,AX,↓reduceIte]
 refine CQ (fun hb => ?_) (fun hb => ?_)
 ·simp -implicitDefEqProofs only [BB,A8,BK,A7,CJ,CV,AZ,BA,AO,AQ,AL,BD,AY,AC,AA,AU,BH,BC,↓reduceIte,jB,jC]
  exact ⟨by unfold plE; rw [hb]; rfl,_,rfl⟩
 simp -implicitDefEqProofs only [BB,A8,BR,A7,AZ,AO,AQ,AL,BD,AY,AC,AA,AX,BN,BJ,BO,BV,BP,AB,BF,jF,jD,jE,↓reduceIte,jA,jB,jC,enP,ldE]
 refine (AH9 G l m hl e hw _).use ?_
 simp -implicitDefEqProofs only [BI,A7,BA,AC,AA,AX,↓reduceIte]
 refine CQ (fun hf => ?_) (fun hf => ?_)
 ·simp -implicitDefEqProofs only [BB,A8,BK,A7,CJ,CV,AZ,BA,AO,AQ,AL,BD,AY,AC,AA,AU,BH,BC,↓reduceIte,jB,jC]
  exact ⟨by unfold plE; rw [hb,hf]; rfl,_,rfl⟩
 ·simp -implicitDefEqProofs only [BB,A8,BR,BK,A7,CV,AZ,BA,AO,AQ,AL,BD,AY,AC,AA,AU,BH,BC,↓reduceIte,jB,jC]
  exact ⟨by unfold plE; rw [hb,hf]; rfl,_,rfl⟩
theorem U8 (l:List Vr) (m:SM) (hl:l.length≤1048576) (xs:List Ex) (s:SM) (hx:xs.length≤1048576) (hw : ∀ e∈xs,wt e≤1048576) (h:Hp):PCall (En G) 44 [.sl m 4 (l.map GH),.sl s 4 (xs.map CW)] h (.int .i64 (KN l xs)):=by
 refine acN Tryz.func44 rfl ?_
 show awp _ _ _ _ _ (EN _ [.tmp 4] _)
 simp -implicitDefEqProofs only [BB,CE,A8,A7,AZ,BA,AO,AQ,AL,BD,AY,AC,AU,BH,BC,jB,jC,enX,enP]
 refine EG (fun n F H => ∃ i,n+i=xs.length∧(∀ (j:Nat) (hj:j < i) (hl:j < xs.length),xpE l xs[j]=0)∧F 0 = .sl m 4 (l.map GH)∧F 1 = .sl s 4 (xs.map CW)∧F 5 = .int .i64 (i:Nat)∧H=h) xs.length ⟨0,by simp,fun j hj=>absurd hj (by omega),by simp -implicitDefEqProofs only [AA,BF,↓reduceIte,jA],by simp -implicitDefEqProofs only [AA,BF,BQ,↓reduceIte,jA],by simp -implicitDefEqProofs only [AA,↓reduceIte]; rfl,rfl⟩ ?_
 rintro n F H ⟨i,hi,hb,f0,f1,f5,rfl⟩
 simp -implicitDefEqProofs only [BB,A8,BI,A7,AZ,BA,AO,AQ,AL,BD,AY,AC,AA,AX,BJ,BU,FP,AB,DV,↓reduceIte,jA,jB,jC,enP,TD,f1,f5,jR]
 refine CQ (fun hc => ?_) (fun hc => ?_)
 ·have hi':i < xs.length:=by simpa using hc
  have hwi:=hw _ (jT hi')
  have hbad:xpE l xs[i]≠0→KN l xs=xpE l xs[i]:=fun hz=>RP (xpE l) xs i hi' (fun j hj=>hb j hj (by omega)) hz
  simp -implicitDefEqProofs only [BB,CE,A8,BR,A7,AZ,AO,AQ,AL,BD,AY,AC,AA,AX,BN,BJ,BO,CG,BV,BP,AB,jF,jD,jE,↓reduceIte,jA,jB,jC,enP,LQ,f1,f5,EX hi',EU KJ JR ES hi']
  refine (AIG G xs[i] H hwi).use ?_
  simp -implicitDefEqProofs only [BB,A8,BI,A7,AZ,BA,AO,AQ,AL,BD,AY,AC,AA,AX,AU,BH,BJ,BC,BU,AB,FT,↓reduceIte,jB,jC,enP]
  refine CQ (fun he => ?_) (fun he => ?_)
  ·have he':exE xs[i]≠0:=by simpa [bne] using he
   have hxp:xpE l xs[i]=exE xs[i]:=by unfold xpE; rw [if_pos he']
   simp -implicitDefEqProofs only [BB,A8,BK,A7,CJ,D8,F9,CV,AZ,BA,AO,AQ,AL,BD,AY,AC,AA,AX,BJ,BC,↓reduceIte,jA,jB,jC]
   exact ⟨by rw [hbad (by rw [hxp]; exact he'),hxp],trivial⟩
  have he':exE xs[i]=0:=by simpa [bne] using he
  have hxp:xpE l xs[i]=plE l xs[i]:=by unfold xpE; rw [if_neg (by simp [he'])]
  simp -implicitDefEqProofs only [BB,A8,BR,A7,AZ,AO,AQ,AL,BD,AY,AC,AA,AX,BN,BJ,BO,CG,BV,BP,AB,jF,jD,jE,↓reduceIte,jA,jB,jC,enP,LQ,f0,f1,f5,EX hi',EU KJ JR ES hi']
  refine (ANR G l m hl xs[i] (by have:=QI xs[i]; omega) H).use ?_
  simp -implicitDefEqProofs only [BB,A8,BI,A7,AZ,BA,AO,AQ,AL,BD,AY,AC,AA,AX,AU,BH,BJ,BC,BU,AB,FT,↓reduceIte,jB,jC,enP]
  refine CQ (fun hp => ?_) (fun hp => ?_)
  ·have hp':plE l xs[i]≠0:=by simpa [bne] using hp
   simp -implicitDefEqProofs only [BB,A8,BK,A7,CJ,D8,F9,CV,AZ,BA,AO,AQ,AL,BD,AY,AC,AA,AX,BJ,BC,↓reduceIte,jA,jB,jC]
   exact ⟨by rw [hbad (by rw [hxp]; exact hp'),hxp],trivial⟩
  ·have hp':plE l xs[i]=0:=by simpa [bne] using hp
   simp -implicitDefEqProofs only [A8,BR,A7,EO,FO,AZ,BA,AO,AQ,AL,BD,AY,AC,AA,AX,AU,BH,BJ,BC,BU,AB,D6,↓reduceIte,jA,jB,jC,enP,f5,wrap_succ (show i < 9223372036854775807 by omega)]
   refine ⟨n - 1,by omega,i+1,by omega,fun j hj hl => ?_,by trivial,by trivial,rfl,trivial⟩
   rcases jV j i with h1 | h1
   ·exact hb j h1 hl
   ·obtain rfl:j=i:=by omega
    rw [hxp]; exact hp'
 ·have hi' : ¬ i < xs.length:=by simpa using hc
  simp -implicitDefEqProofs only [BB,A8,BK,EF,A7,FC,F6,F8,CV,AZ,BA,AO,AQ,AL,BD,AY,AC,AA,AU,BH,BC,↓reduceIte,jB,jC]
  exact ⟨by rw [KN,PG (xpE l) xs fun j hj=>hb j (by omega) hj],trivial⟩
end
theorem AYR (e:Ex):decide (((nmL [3,24] [] (pre e)).length:Int) > 0)=AK6 e:=by
 have h:=AFN (fun _=>false) [3,24] (pre e) []
 have h1:(nmL [3,24] [] (pre e)).all (fun _=>false)=decide ((nmL [3,24] [] (pre e)).length=0):=by
  cases nmL [3,24] [] (pre e) <;> simp
 rw [h1] at h
 unfold AK6
 have h2:(pre e).any U7 = !((pre e).all fun e => !Rk.hasB [3,24] e.op || false):=by
  rw [List.not_all_eq_any_not]
  congr 1
  funext x
  unfold U7 Rk.hasB
  rw [qZ]
  simp
  constructor
  ·rintro (h | h) <;> simp [h]
  ·rintro (h | h) <;> simp [h]
 rw [h2]
 simp only [List.all_nil,Bool.true_and] at h
 rw [← h]
 cases nmL [3,24] [] (pre e) <;> simp
theorem AX1 (l:List Vr) (e:Ex):(nmL [2] [] (pre e)).any (fun n=>decide (plc l n < 0))=AH8 l e:=by
 have h:=AFN (fun n => !decide (plc l n < 0)) [2] (pre e) []
 simp only [List.all_nil,Bool.true_and] at h
 rw [← Bool.not_inj_iff,List.not_any_eq_all_not,h]
 unfold AH8
 rw [List.not_any_eq_all_not]
 congr 1
 funext x
 unfold U6 Rk.hasB
 rw [qZ]
 simp
 constructor
 ·rintro (h1 | h1)
  ·exact .inl fun e=>h1 e.symm
  ·exact .inr h1
 ·rintro (h1 | h1)
  ·exact .inl fun e=>h1 e.symm
  ·exact .inr h1
theorem A01 (h:Hp) (a b:SM) (x y:List (List AV)):GN Tryz.prog false h 159 2 [(0,.sl a 4 x),(1,.sl b 4 y)]=some (.sl .full 1 [[.sl a 4 x],[.sl b 4 y]],h):=by kernel_rfl
section
variable (G:Nat→AV)
theorem A0K (p:Pr) (n:ByteArray) (c:Nat) (h:Hp) (hc:h[c]? = some (.live 5 [DY p])) (hl:p.vars.length≤1048576):PCall (En G) 112 ([.str n] ++ [.ptr c 0 0]) h (.bool (decide (plc p.vars n < 0))):=by
 refine acN Tryz.func112 rfl ?_
 show awp _ _ _ _ _ (EN _ [.tmp 3] _)
 have l0:DR Tryz.prog h 22 (.ptr c 0 0)=some (.sl p.vm 4 (p.vars.map GH)):=by rw [DJ VI hc (row:=DY p) rfl]; rfl
 simp -implicitDefEqProofs only [BB,A8,A7,AZ,BA,AO,AQ,AL,BD,AY,AC,AA,AX,AU,BN,BM,BJ,BC,BO,BG,BV,BP,AB,BF,BQ,jF,jD,jE,zJ,zV,↓reduceIte,jA,jH,jB,jC,enX,enP,LU,l0]
 refine (index_prog G p.vars p.vm n h (by omega)).use ?_
 simp -implicitDefEqProofs only [BK,A7,CV,AZ,BA,AO,AQ,AL,BD,AY,AC,AA,AX,AU,BH,BC,BU,AB,DV,↓reduceIte,jB,jC,enP]
 exact ⟨trivial,trivial⟩
theorem AKO (hG:GOk G) (p:Pr) (hl:p.vars.length≤1048576) (hx:p.hard.length+p.soft.length≤1048576) (hw : ∀ e∈p.hard ++ p.soft,wt e≤1048576) (h:Hp):PCall (En G) 59 [.agg (DY p)] h (.int .i64 (KN p.vars (p.hard ++ p.soft))):=by
 refine ACalls.pure0 rfl ?_
 refine acN Tryz.func59 rfl ?_
 show awp _ _ _ _ _ (EN _ [.tmp 2] _)
 have ge:=DF h (ABlk.live 5 [DY p])
 have hxx:ext h (h ++ [ABlk.live 5 [DY p]]):=(ext.rfl' h).app _
 simp -implicitDefEqProofs only [BB,A8,A7,AZ,BA,AO,AQ,AL,BD,AY,AC,AA,AX,AU,BH,BC,FQ,BO,BG,CB,AB,BF,↓reduceIte,jA,jG,jB,jC,enP,V5,QP]
 generalize h ++ [ABlk.live 5 [DY p]]=H1 at ge hxx ⊢
 generalize h.length=eb at ge ⊢
 have l1:DR Tryz.prog H1 23 (.ptr eb 0 1)=some (.sl p.hm 4 (p.hard.map CW)):=by rw [DJ NM ge (row:=DY p) rfl]; rfl
 have l2:DR Tryz.prog H1 23 (.ptr eb 0 2)=some (.sl p.sm 4 (p.soft.map CW)):=by rw [DJ NM ge (row:=DY p) rfl]; rfl
 simp -implicitDefEqProofs only [ER,EP,AZ,AO,AQ,AL,BD,AY,AC,AA,AX,BN,GR,BO,BG,BV,BP,CB,AB,jF,jD,jE,↓reduceIte,jA,jG,jB,jC,enP,ARN,l1,l2,A01]
 have hfl:fl [⟨p.hm,p.hard⟩,⟨p.sm,p.soft⟩]=p.hard ++ p.soft:=by simp [fl]
 have hcc:=AIT G [⟨p.hm,p.hard⟩,⟨p.sm,p.soft⟩] .full (by simp) (by rw [hfl,qB]; omega) H1
 rw [hfl] at hcc
 refine hcc.use ?_
 have hxl:(p.hard ++ p.soft).length≤1048576:=by rw [qB]; omega
 generalize p.hard ++ p.soft=xs at hw hxl ⊢
 simp -implicitDefEqProofs only [CE,A7,AZ,BA,AO,AQ,AL,BD,AY,AC,AA,AX,AU,BH,BJ,FP,AB,↓reduceIte,jB,jC,enP,TD,jR]
 refine EG (fun n F H => ∃ i,n+i=xs.length∧(∀ (j:Nat) (hj:j < i) (hl:j < xs.length),xpE p.vars xs[j]=0)∧F 1 = .ptr eb 0 0∧F 11 = .sl (nm xs) 4 (xs.map CW)∧F 12 = .int .i64 (xs.length:Nat)∧F 13 = .int .i64 (i:Nat)∧H[eb]? = some (.live 5 [DY p])∧ext h H) xs.length ⟨0,by simp,fun j hj=>absurd hj (by omega),by simp -implicitDefEqProofs only [AA,↓reduceIte,jA],by simp -implicitDefEqProofs only [AA,↓reduceIte,jA],by simp -implicitDefEqProofs only [AA,↓reduceIte,jA],by simp -implicitDefEqProofs only [AA,↓reduceIte]; rfl,ge,hxx⟩ ?_
 clear ge hxx l1 l2
 rintro n F H ⟨i,hi,hb,f1,f11,f12,f13,ge,hxx⟩
 simp -implicitDefEqProofs only [BB,A8,BI,A7,AZ,BA,AO,AQ,AL,BD,AY,AC,AA,AX,BU,AB,DV,↓reduceIte,jB,jC,enP,f12,f13]
 refine CQ (fun hc => ?_) (fun hc => ?_)
 ·have hi':i < xs.length:=by simpa using hc
  have hwi:=hw _ (jT hi')
  have hbad:xpE p.vars xs[i]≠0→KN p.vars xs=xpE p.vars xs[i]:=fun hz=>RP (xpE p.vars) xs i hi' (fun j hj=>hb j hj (by omega)) hz
  have ge1:(H ++ [ABlk.live 4 [CW xs[i]]])[eb]? = _:=DC ge
  have hx1:ext h (H ++ [ABlk.live 4 [CW xs[i]]]):=hxx.app _
  have gE:=DF H (ABlk.live 4 [CW xs[i]])
  have al40:J8 Tryz.prog H 40=some (.ptr H.length 0 0,H ++ [.live 4 [[.int .i64 0,.int .i64 0,.str ⟨#[]⟩,.sl .nil 0 []]]]):=KI (row := [.int .i64 0,.int .i64 0,.str ⟨#[]⟩,.sl .nil 0 []]) (by kernel_rfl)
  have st40:GM Tryz.prog (H ++ [.live 4 [[.int .i64 0,.int .i64 0,.str ⟨#[]⟩,.sl .nil 0 []]]]) 40 (.ptr H.length 0 0) (.agg (CW xs[i]))=some (H ++ [.live 4 [CW xs[i]]]):=by
   have hle:(CW xs[i]).length=4:=ES _
   rw [AAL (cs:=CW xs[i]) (row := [.int .i64 0,.int .i64 0,.str ⟨#[]⟩,.sl .nil 0 []]) (U2 (by rw [NR]; rfl)) (by rw [hle]; exact JR) (DF _ _) (by rw [hle]; exact jQ 4),MB]
   have:splice [.int .i64 0,.int .i64 0,.str ⟨#[]⟩,.sl .nil 0 []] 0 (CW xs[i])=CW xs[i]:=by
    unfold splice; rw [zC,List.drop_eq_nil_of_le (by rw [hle]; exact jQ 4)]; simp
   rw [this]
  simp -implicitDefEqProofs only [BB,CE,A8,BR,A7,AZ,BA,AO,AQ,AL,BD,AY,AC,DU,AA,AX,EZ,BO,CU,CG,CB,AB,BZ,↓reduceIte,jA,jB,jC,enP,LQ,jK,f11,f13,EX hi',EU KJ JR ES hi',al40,st40]
  generalize H ++ [ABlk.live 4 [CW xs[i]]]=H1 at ge1 hx1 gE ⊢
  simp -implicitDefEqProofs only [AZ,AO,AQ,AL,BD,AY,AC,AA,AX,BN,BV,BP,AB,jF,jD,jE,↓reduceIte,jB,jC,G6 gE]
  refine (AF6 G hG xs[i] _ hwi).use ?_
  simp -implicitDefEqProofs only [BB,A8,BI,A7,AZ,BA,AO,AQ,AL,BD,AY,AC,AA,AX,AU,BH,BJ,BC,BU,AB,FT,↓reduceIte,jB,jC,enP]
  refine CQ (fun he => ?_) (fun he => ?_)
  ·have he':exE xs[i]≠0:=by simpa [bne] using he
   have hxp:xpE p.vars xs[i]=exE xs[i]:=by unfold xpE; rw [if_pos he']
   simp -implicitDefEqProofs only [BB,A8,BK,A7,CJ,D8,F9,CV,AZ,BA,AO,AQ,AL,BD,AY,AC,AA,AX,BJ,BC,↓reduceIte,jA,jB,jC]
   exact ⟨by rw [hbad (by rw [hxp]; exact he'),hxp],hx1⟩
  have he':exE xs[i]=0:=by simpa [bne] using he
  have hxp:xpE p.vars xs[i]=plE p.vars xs[i]:=by unfold xpE; rw [if_neg (by simp [he'])]
  simp -implicitDefEqProofs only [BB,A8,BR,A7,AZ,AO,AQ,AL,BD,AY,AC,AA,AX,BN,BO,BV,BP,AB,jF,jD,jE,↓reduceIte,jA,jB,jC,enP,G6 gE]
  refine (AJI G xs[i] hwi _).use ?_
  simp -implicitDefEqProofs only [BI,A7,AZ,BA,AO,AQ,AL,BD,AY,AC,AA,AX,AU,BH,BU,FP,AB,FM,↓reduceIte,jB,jC,enP,AAN,jR,AYR]
  refine CQ (fun ha => ?_) (fun ha => ?_)
  ·have hpl:plE p.vars xs[i]=9:=by unfold plE; rw [if_pos ha]
   simp -implicitDefEqProofs only [BB,A8,BK,A7,CJ,D8,F9,CV,AZ,BA,AO,AQ,AL,BD,AY,AC,AA,AU,BH,BC,↓reduceIte,jB,jC]
   exact ⟨by rw [hbad (by rw [hxp,hpl]; decide),hxp,hpl],hx1⟩
  simp -implicitDefEqProofs only [BB,A8,BR,A7,AZ,AO,AQ,AL,BD,AY,AC,AA,AX,BN,BO,BV,BP,AB,jF,jD,jE,↓reduceIte,jA,jB,jC,enP,G6 gE]
  refine (ALI G xs[i] hwi _).use ?_
  simp -implicitDefEqProofs only [AZ,AO,AQ,AL,BD,AY,AC,AA,AX,BN,JQ,BV,BP,jF,jD,jE,↓reduceIte,jA,jB,jC,f1]
  have hnl:(nmL [2] [] (pre xs[i])).length≤1048576:=by
   have h1:=AFM [2] (pre xs[i]) []
   have h2:=QI xs[i]
   simp at h1; omega
  refine (AUU G (nmL [2] [] (pre xs[i])) (nm (nmL [2] [] (pre xs[i]))) 112 [.ptr eb 0 0] (fun n=>decide (plc p.vars n < 0)) H1 (by omega) fun n _=>A0K G p n eb _ ge1 hl).use ?_
  simp -implicitDefEqProofs only [BI,A7,BA,AC,AA,AX,↓reduceIte,AX1]
  refine CQ (fun hf => ?_) (fun hf => ?_)
  ·have hpl:plE p.vars xs[i]=7:=by unfold plE; rw [ha,hf]; rfl
   simp -implicitDefEqProofs only [BB,A8,BK,A7,CJ,D8,F9,CV,AZ,BA,AO,AQ,AL,BD,AY,AC,AA,AU,BH,BC,↓reduceIte,jB,jC]
   exact ⟨by rw [hbad (by rw [hxp,hpl]; decide),hxp,hpl],hx1⟩
  ·have hpl:plE p.vars xs[i]=0:=by unfold plE; rw [ha,hf]; rfl
   simp -implicitDefEqProofs only [A8,BR,A7,EO,FO,AZ,BA,AO,AQ,AL,BD,AY,AC,AA,AX,AU,BH,BJ,BU,AB,D6,↓reduceIte,jA,jB,jC,enP,f13,wrap_succ (show i < 9223372036854775807 by omega)]
   refine ⟨n - 1,by omega,i+1,by omega,fun j hj hl => ?_,by trivial,by trivial,by trivial,rfl,ge1,hx1⟩
   rcases jV j i with h1 | h1
   ·exact hb j h1 hl
   ·obtain rfl:j=i:=by omega
    rw [hxp]; exact hpl
 ·have hi' : ¬ i < xs.length:=by simpa using hc
  simp -implicitDefEqProofs only [BB,A8,BK,EF,A7,FC,F6,F8,CV,AZ,BA,AO,AQ,AL,BD,AY,AC,AA,AU,BH,BC,↓reduceIte,jB,jC]
  exact ⟨by rw [KN,PG (xpE p.vars) xs fun j hj=>hb j (by omega) hj],hxx⟩
end
def NC (l:List Vr) (i:Int):Bool:=decide (0≤i) && (decide (i < l.length) && (match l[i.toNat]? with | some v => !(v.mode == 0) | none=>false))
def U1 (x:Wg):Bool:=decide (x.lo < 0) || decide (x.lo > x.hi) || decide (x.hi > 65535) || decide (x.w < 0) || decide (x.w > 1000)
def dsE (l:List Vr) (ds:List Ds) (d:Ds):Int:=if NC l d.var=true then if ds.any (fun x=>x.var == d.var)=true then 8 else if d.ws.length > 16 then 2 else if d.ws.any U1=true then 1 else 0 else 1
def dsI (l:List Vr) (ds:List Ds) (i:Nat):Int:=match ds[i]? with | some d=>dsE l (ds.take i) d | none=>0
def NW (l:List Vr) (ds:List Ds):Int:=PH (dsI l ds) (List.range ds.length)
theorem ACZ {l:List Vr} {ds:List Ds} {i:Nat} (hi:i < ds.length):dsI l ds i=dsE l (ds.take i) ds[i]:=by unfold dsI; rw [jU hi]
theorem AC0 {l:List Vr} {ds:List Ds} {i:Nat} (hi:i < ds.length) (hb : ∀ j,j < i→dsI l ds j=0) (h:dsE l (ds.take i) ds[i]≠0):NW l ds=dsE l (ds.take i) ds[i]:=by
 have:=RP (dsI l ds) (List.range ds.length) i (by simpa using hi) (fun j hj=>by rw [List.getElem_range]; exact hb j hj) (by rw [List.getElem_range,ACZ hi]; exact h)
 rw [List.getElem_range,ACZ hi] at this
 exact this
theorem AAR {l:List Vr} {ds:List Ds} (hb : ∀ j,j < ds.length→dsI l ds j=0):NW l ds=0 :=
 PG _ _ fun j hj=>by rw [List.getElem_range]; exact hb j (by simpa using hj)
theorem WG {l:List Vr} {n:Nat} (hn:n < l.length):NC l (n:Nat) = !(l[n].mode == 0):=by
 unfold NC
 rw [decide_eq_true (by omega),decide_eq_true (by omega),zG,jU hn]; rfl
theorem A1L (h:Hp):J8 Tryz.prog h 52=some (.ptr h.length 0 0,h ++ [.live 2 [[.int .i64 0,.sl .nil 0 []]]]):=KI (row := [.int .i64 0,.sl .nil 0 []]) (by kernel_rfl)
theorem AZC (h:Hp) (v:Ds):GM Tryz.prog (h ++ [.live 2 [[.int .i64 0,.sl .nil 0 []]]]) 52 (.ptr h.length 0 0) (.agg (JE v))=some (h ++ [.live 2 [JE v]]):=by
 rw [AAL (cs:=JE v) (row := [.int .i64 0,.sl .nil 0 []]) rfl AG5 (DF _ _) (by exact jQ 2),MB]
 rfl
theorem AYV (h:Hp):J8 Tryz.prog h 89=some (.ptr h.length 0 0,h ++ [.live 4 [[.int .i64 0,.int .i64 0,.int .i64 0,.bool false]]]):=KI (row := [.int .i64 0,.int .i64 0,.int .i64 0,.bool false]) (by kernel_rfl)
theorem AW7 (h:Hp) (v:Wg):GM Tryz.prog (h ++ [.live 4 [[.int .i64 0,.int .i64 0,.int .i64 0,.bool false]]]) 89 (.ptr h.length 0 0) (.agg (JA v))=some (h ++ [.live 4 [JA v]]):=by
 rw [AAL (cs:=JA v) (row := [.int .i64 0,.int .i64 0,.int .i64 0,.bool false]) rfl ANI (DF _ _) (by exact jQ 4),MB]
 rfl
theorem A14 {l:List Ds} {h:Hp} {m:SM} {i:Nat} (hi:i≤l.length) : ∃ m',LD Tryz.prog h 24 (.sl m 2 (l.map JE)) none (some (.int .i64 (i:Nat))) none=some (.sl m' 2 ((l.take i).map JE)) :=
 ⟨AVB m i (l.map JE).length,by rw [AV6 A12 AG5 (by rw [jR]; exact hi),List.map_take]⟩
section
variable (G:Nat→AV)
theorem VM (p:Pr) (i:Int) (hl:p.vars.length≤1048576) (h:Hp):PCall (En G) 113 [.agg (DY p),.int .i64 i] h (.bool (NC p.vars i)):=by
 refine ACalls.pure0 rfl ?_
 refine acN Tryz.func113 rfl ?_
 show awp _ _ _ _ _ (EN _ [.tmp 4] _)
 have l0:DR Tryz.prog (h ++ [ABlk.live 5 [DY p]]) 22 (.ptr h.length 0 0)=some (.sl p.vm 4 (p.vars.map GH)):=by rw [DJ VI (DF _ _) (row:=DY p) rfl]; rfl
 simp -implicitDefEqProofs only [BB,A8,A7,AZ,BA,BL,BX,CO,AO,AQ,AL,BD,AY,AC,AA,AX,AU,BH,BM,BJ,BC,FQ,BU,CB,AB,FV,BF,BQ,↓reduceIte,jA,jB,jC,enP,QP]
 cases b1:decide (i≥0)
 ·simp -implicitDefEqProofs only [BK,A7,CV,AZ,BA,BL,BX,CO,IP,AO,AQ,AL,BD,AY,AC,AA,EQ,AX,AU,BM,BJ,BC,CP,DZ,↓reduceIte,jA,jB,jC,b1]
  refine ⟨?_,_,rfl⟩
  unfold NC; rw [show decide (0≤i)=false from b1]; rfl
 have h0:0≤i:=by simpa using b1
 obtain ⟨n,rfl⟩:=zI h0
 simp -implicitDefEqProofs only [AZ,BL,BX,CO,GL,AO,AQ,AL,BD,AY,AC,AA,AX,AU,BM,BJ,CP,DW,BO,BU,BG,FP,AB,DV,BF,BQ,↓reduceIte,jA,jH,jB,jC,enP,RH,LU,b1,l0,jR]
 cases b2:decide (((n:Nat):Int) < ((p.vars.length:Nat):Int))
 ·simp -implicitDefEqProofs only [BK,A7,CV,AZ,BA,BL,BX,CO,IP,AO,AQ,AL,BD,AY,AC,AA,EQ,AX,AU,BM,BC,CP,DZ,↓reduceIte,jA,jB,jC,b2]
  refine ⟨?_,_,rfl⟩
  unfold NC; rw [b2]; simp
 have hn:n < p.vars.length:=by simpa using b2
 have l2:DR Tryz.prog (h ++ [ABlk.live 5 [DY p]]) 3 (.fptr 4 (p.vars.map GH) n 2)=some (.int .i64 p.vars[n].mode):=by rw [IC ag3 hn]; rfl
 simp -implicitDefEqProofs only [BK,A7,CV,AZ,BA,BL,BX,CO,GL,AO,AQ,AL,BD,AY,AC,AA,AX,AU,BH,BM,BJ,BC,CP,DW,BO,BU,BG,CG,AB,FT,BF,BQ,↓reduceIte,jA,jH,jG,jB,jC,enP,VE,LU,NV,b2,l0,EX hn,l2,bne]
 exact ⟨by rw [WG hn],_,rfl⟩
theorem A0J (x d:Ds) (c:Nat) (h:Hp) (hc:h[c]? = some (.live 2 [JE d])):PCall (En G) 115 ([.agg (JE x)] ++ [.ptr c 0 0]) h (.bool (x.var == d.var)):=by
 refine ACalls.pure0 rfl ?_
 refine acN Tryz.func115 rfl ?_
 show awp _ _ _ _ _ (EN _ [.tmp 3] _)
 have hc':(h ++ [ABlk.live 2 [JE x]])[c]? = _:=DC hc
 have l0:DR Tryz.prog (h ++ [ABlk.live 2 [JE x]]) 3 (.ptr h.length 0 0)=some (.int .i64 x.var):=by rw [DJ ag3 (DF _ _) (row:=JE x) rfl]; rfl
 have l1:DR Tryz.prog (h ++ [ABlk.live 2 [JE x]]) 3 (.ptr c 0 0)=some (.int .i64 d.var):=by rw [DJ ag3 hc' (row:=JE d) rfl]; rfl
 simp -implicitDefEqProofs only [BB,A8,BK,A7,CV,AZ,BA,AO,AQ,AL,BD,AY,AC,AA,AX,AU,BM,BC,FQ,BO,BU,BG,CB,AB,CX,BF,BQ,zJ,zV,↓reduceIte,jA,jH,jB,jC,enP,V4,bxD,l0,l1]
 exact ⟨trivial,_,rfl⟩
theorem A0H (x:Wg) (h:Hp):PCall (En G) 165 ([.agg (JA x)] ++ []) h (.bool (U1 x)):=by
 refine ACalls.pure0 rfl ?_
 refine acN Tryz.func165 rfl ?_
 show awp _ _ _ _ _ (EN _ [.tmp 2] _)
 have l0:DR Tryz.prog (h ++ [ABlk.live 4 [JA x]]) 3 (.ptr h.length 0 0)=some (.int .i64 x.lo):=by rw [DJ ag3 (DF _ _) (row:=JA x) rfl]; rfl
 have l1:DR Tryz.prog (h ++ [ABlk.live 4 [JA x]]) 3 (.ptr h.length 0 1)=some (.int .i64 x.hi):=by rw [DJ ag3 (DF _ _) (row:=JA x) rfl]; rfl
 have l2:DR Tryz.prog (h ++ [ABlk.live 4 [JA x]]) 3 (.ptr h.length 0 2)=some (.int .i64 x.w):=by rw [DJ ag3 (DF _ _) (row:=JA x) rfl]; rfl
 simp -implicitDefEqProofs only [BB,A8,A7,AZ,BA,AO,AQ,AL,BD,AY,AC,AA,AX,AU,BM,BC,FQ,BO,BG,CB,AB,BF,jE,↓reduceIte,jA,jH,jB,jC,enP,QL,A3E]
 unfold U1
 cases b1:decide (x.lo < 0)
 case true =>
  simp -implicitDefEqProofs only [wB,BK,A7,CV,AZ,BA,BL,BX,CO,F7,AO,AQ,AL,BD,AY,AC,AA,EQ,AX,AU,BH,BM,BJ,BC,CP,DW,BU,AB,DV,↓reduceIte,jA,jB,jC,enP,l0,b1]
  exact ⟨trivial,_,rfl⟩
 cases b2:decide (x.lo > x.hi)
 case true =>
  simp -implicitDefEqProofs only [qC,wB,BK,A7,CV,AZ,BA,BL,BX,CO,EY,F7,AO,AQ,AL,BD,AY,AC,AA,EQ,AX,AU,BH,BM,BJ,BC,CP,DW,DZ,BO,BU,BG,AB,DV,FM,↓reduceIte,jA,jH,jG,jB,jC,enP,QL,TF,l0,l1,b1,b2]
  exact ⟨trivial,_,rfl⟩
 cases b3:decide (x.hi > 65535)
 case true =>
  simp -implicitDefEqProofs only [jM,qC,wB,BK,A7,CV,AZ,BA,BL,BX,CO,EY,F7,AO,AQ,AL,BD,AY,AC,AA,EQ,AX,AU,BH,BM,BJ,BC,CP,DW,DZ,BO,BU,BG,AB,DV,FM,↓reduceIte,jA,jH,jG,jB,jC,enP,QL,TF,l0,l1,b1,b2,b3]
  exact ⟨trivial,_,rfl⟩
 cases b4:decide (x.w < 0)
 case true =>
  simp -implicitDefEqProofs only [jM,qC,wB,BK,A7,CV,AZ,BA,BL,BX,CO,EY,F7,AO,AQ,AL,BD,AY,AC,AA,EQ,AX,AU,BH,BM,BJ,BC,CP,DW,DZ,BO,BU,BG,AB,DV,FM,↓reduceIte,jA,jH,jG,jB,jC,enP,QL,TF,ZP,l0,l1,l2,b1,b2,b3,b4]
  exact ⟨trivial,_,rfl⟩
 cases b5:decide (x.w > 1000)
 all_goals
  simp -implicitDefEqProofs only [jM,qC,BK,A7,CV,AZ,BA,BL,BX,CO,EY,AO,AQ,AL,BD,AY,AC,AA,AX,AU,BH,BM,BJ,BC,CP,DZ,BO,BU,BG,AB,DV,FM,↓reduceIte,jA,jH,jG,jB,jC,enP,QL,TF,ZP,l0,l1,l2,b1,b2,b3,b4,b5]
  exact ⟨trivial,_,rfl⟩
theorem AFC (xs:List Wg) (m:SM) (hl:xs.length≤1048576) (h:Hp):PCall (En G) 116 [.sl m 4 (xs.map JA)] h (.bool (!(xs.any U1))):=by
 refine acN Tryz.func116 rfl ?_
 show awp _ _ _ _ _ (EN _ [.tmp 2] _)
 simp -implicitDefEqProofs only [BB,A8,A7,AZ,BA,AO,AQ,AL,BD,AY,AC,AA,AX,AU,BN,BM,BJ,BC,BV,BP,BF,jF,jD,jE,↓reduceIte,jA,jB,jC,enX,enP]
 refine (AXY G xs m 165 [] U1 h (by omega) fun x _=>A0H G x h).use ?_
 simp -implicitDefEqProofs only [BK,A7,CV,AZ,BA,AO,AQ,AL,BD,AY,AC,AA,AX,BC,JG,AB,GG,↓reduceIte,jB,jC]
 exact ⟨trivial,trivial⟩
theorem AKV (p:Pr) (hl:p.vars.length≤1048576) (hd:p.dists.length≤1048576) (hw : ∀ d∈p.dists,d.ws.length≤1048576) (h:Hp):PCall (En G) 61 [.agg (DY p)] h (.int .i64 (NW p.vars p.dists)):=by
 refine ACalls.pure0 rfl ?_
 refine acN Tryz.func61 rfl ?_
 show awp _ _ _ _ _ (EN _ [.tmp 2] _)
 have ge:=DF h (ABlk.live 5 [DY p])
 have hxx:ext h (h ++ [ABlk.live 5 [DY p]]):=(ext.rfl' h).app _
 simp -implicitDefEqProofs only [BB,A8,A7,AZ,BA,AO,AQ,AL,BD,AY,AC,AA,AX,AU,BH,BC,FQ,BO,BG,CB,AB,BF,↓reduceIte,jA,jG,jB,jC,enP,ZR,QP]
 generalize h ++ [ABlk.live 5 [DY p]]=H1 at ge hxx ⊢
 generalize h.length=eb at ge ⊢
 have l3:DR Tryz.prog H1 24 (.ptr eb 0 3)=some (.sl p.dm 2 (p.dists.map JE)):=by rw [DJ ASV ge (row:=DY p) rfl]; rfl
 simp -implicitDefEqProofs only [CE,A7,AZ,BA,AO,AQ,AL,BD,AY,AC,AA,AX,AU,BH,BJ,FP,AB,↓reduceIte,jB,jC,enP,AQN,l3,jR]
 refine EG (fun n F H => ∃ i,n+i=p.dists.length∧(∀ (j:Nat),j < i→dsI p.vars p.dists j=0)∧F 1 = .ptr eb 0 0∧F 6 = .sl p.dm 2 (p.dists.map JE)∧F 7 = .int .i64 (p.dists.length:Nat)∧F 8 = .int .i64 (i:Nat)∧H[eb]? = some (.live 5 [DY p])∧ext h H) p.dists.length ⟨0,by simp,fun j hj=>absurd hj (by omega),by simp -implicitDefEqProofs only [AA,↓reduceIte,jA],by simp -implicitDefEqProofs only [AA,↓reduceIte,jA],by simp -implicitDefEqProofs only [AA,↓reduceIte,jA],by simp -implicitDefEqProofs only [AA,↓reduceIte]; rfl,ge,hxx⟩ ?_
 clear ge hxx l3
 rintro n F H ⟨i,hi,hb,f1,f6,f7,f8,ge,hxx⟩
 simp -implicitDefEqProofs only [BB,A8,BI,A7,AZ,BA,AO,AQ,AL,BD,AY,AC,AA,AX,BU,AB,DV,↓reduceIte,jB,jC,enP,f7,f8]
 refine CQ (fun hc => ?_) (fun hc => ?_)
 ·have hi':i < p.dists.length:=by simpa using hc
  have hwi:=hw _ (jT hi')
  have hbad:=AC0 hi' hb
  have hat:=ACZ (l:=p.vars) hi'
  have ge1:(H ++ [ABlk.live 2 [JE p.dists[i]]])[eb]? = _:=DC ge
  have hx1:ext h (H ++ [ABlk.live 2 [JE p.dists[i]]]):=hxx.app _
  have gE:=DF H (ABlk.live 2 [JE p.dists[i]])
  simp -implicitDefEqProofs only [BB,CE,A8,BR,A7,AZ,BA,AO,AQ,AL,BD,AY,AC,DU,AA,AX,BJ,BC,EZ,BO,CU,CG,CB,AB,BZ,↓reduceIte,jA,jB,jC,enP,ACE,jK,f6,f8,EX hi',EU AST AG5 V6 hi',A1L,AZC]
  generalize H ++ [ABlk.live 2 [JE p.dists[i]]]=H1 at ge1 hx1 gE ⊢
  have lp:DR Tryz.prog H1 27 (.ptr eb 0 0)=some (.agg (DY p)):=by rw [H7 VH UG ge1 (row:=DY p) rfl (by rw [GZ]; exact jQ 5)]; rfl
  have l3:DR Tryz.prog H1 24 (.ptr eb 0 3)=some (.sl p.dm 2 (p.dists.map JE)):=by rw [DJ ASV ge1 (row:=DY p) rfl]; rfl
  have d0:DR Tryz.prog H1 3 (.ptr H.length 0 0)=some (.int .i64 p.dists[i].var):=by rw [DJ ag3 gE (row:=JE p.dists[i]) rfl]; rfl
  have d1:DR Tryz.prog H1 50 (.ptr H.length 0 1)=some (.sl p.dists[i].wm 4 (p.dists[i].ws.map JA)):=by rw [DJ AVU gE (row:=JE p.dists[i]) rfl]; rfl
  obtain ⟨m',ht⟩:=A14 (h:=H1) (m:=p.dm) (Nat.le_of_lt hi')
  simp -implicitDefEqProofs only [AZ,AO,AQ,AL,BD,AY,AC,AA,AX,BN,BO,BG,BV,BP,AB,jF,jD,jE,↓reduceIte,jA,jH,jB,jC,enP,V4,f1,lp,d0]
  refine (VM G p _ hl _).use ?_
  cases b1:NC p.vars p.dists[i].var
  ·have he:dsE p.vars (p.dists.take i) p.dists[i]=1:=by unfold dsE; rw [b1]; rfl
   simp -implicitDefEqProofs only [BB,A8,BK,BI,A7,CJ,D8,F9,CV,DI,AZ,BA,AO,AQ,AL,BD,AY,AC,AA,AX,AU,BH,BC,JG,AB,GG,↓reduceIte,jB,jC]
   exact ⟨by rw [hbad (by rw [he]; decide),he],hx1⟩
  simp -implicitDefEqProofs only [Option.map_some,Option.map_none,BB,A8,BI,A7,DN,AZ,BA,AO,AQ,AL,BD,AY,AC,AA,AX,BN,BJ,BC,BO,JG,JQ,OG,BG,BV,BP,AB,GG,jF,jD,jE,↓reduceIte,jA,jG,jB,jW,jC,enP,ZR,f1,l3,ht]
  refine (AQ7 G (p.dists.take i) m' 115 [.ptr H.length 0 0] (fun x=>x.var == p.dists[i].var) H1 (by rw [qG]; omega) fun x _=>A0J G x p.dists[i] _ _ gE).use ?_
  cases b2:(p.dists.take i).any fun x=>x.var == p.dists[i].var
  case true =>
   have he:dsE p.vars (p.dists.take i) p.dists[i]=8:=by unfold dsE; rw [b1,b2]; rfl
   simp -implicitDefEqProofs only [BB,A8,BK,BI,A7,CJ,D8,F9,CV,DI,AZ,BA,AO,AQ,AL,BD,AY,AC,AA,AX,AU,BH,BC,↓reduceIte,jB,jC]
   exact ⟨by rw [hbad (by rw [he]; decide),he],hx1⟩
  simp -implicitDefEqProofs only [BB,A8,BI,A7,DN,AZ,BA,AO,AQ,AL,BD,AY,AC,AA,AX,AU,BH,BC,BO,BU,BG,FP,AB,FM,↓reduceIte,jA,jG,jB,jC,enP,AN7,V3,d1,jR]
  refine CQ (fun b3 => ?_) (fun b3 => ?_)
  ·have he:dsE p.vars (p.dists.take i) p.dists[i]=2:=by unfold dsE; rw [b1,b2,if_pos rfl,if_neg (by decide),if_pos (by simp at b3; omega)]
   simp -implicitDefEqProofs only [BB,A8,BK,A7,CJ,D8,F9,CV,AZ,BA,AO,AQ,AL,BD,AY,AC,AA,AU,BH,BC,↓reduceIte,jB,jC]
   exact ⟨by rw [hbad (by rw [he]; decide),he],hx1⟩
  simp -implicitDefEqProofs only [BB,A8,AZ,AO,AQ,AL,BD,AY,AC,AA,AX,BN,BO,BG,BV,BP,AB,jF,jD,jE,↓reduceIte,jA,jG,jB,jC,enP,V3,d1]
  refine (AFC G p.dists[i].ws p.dists[i].wm hwi _).use ?_
  cases b4:p.dists[i].ws.any U1
  case true =>
   have he:dsE p.vars (p.dists.take i) p.dists[i]=1:=by unfold dsE; rw [b1,b2,if_pos rfl,if_neg (by decide),if_neg (by simp at b3; omega),b4]; rfl
   simp -implicitDefEqProofs only [BB,A8,BK,BI,A7,CJ,D8,F9,CV,DI,AZ,BA,AO,AQ,AL,BD,AY,AC,AA,AX,AU,BH,BC,JG,AB,GG,↓reduceIte,jB,jW,jC]
   exact ⟨by rw [hbad (by rw [he]; decide),he],hx1⟩
  have he:dsE p.vars (p.dists.take i) p.dists[i]=0:=by unfold dsE; rw [b1,b2,if_pos rfl,if_neg (by decide),if_neg (by simp at b3; omega),b4]; rfl
  simp -implicitDefEqProofs only [A8,BR,BI,A7,EO,FO,DN,AZ,BA,AO,AQ,AL,BD,AY,AC,AA,AX,AU,BH,BJ,BC,BU,JG,AB,D6,GG,↓reduceIte,jA,jB,jW,jC,enP,f8,wrap_succ (show i < 9223372036854775807 by omega)]
  refine ⟨n - 1,by omega,i+1,by omega,fun j hj => ?_,by trivial,by trivial,by trivial,rfl,ge1,hx1⟩
  rcases jV j i with h1 | h1
  ·exact hb j h1
  ·obtain rfl:j=i:=by omega
   rw [hat,he]
 ·have hi' : ¬ i < p.dists.length:=by simpa using hc
  simp -implicitDefEqProofs only [BB,A8,BK,EF,A7,FC,F6,F8,CV,AZ,BA,AO,AQ,AL,BD,AY,AC,AA,AU,BH,BC,↓reduceIte,jB,jC]
  exact ⟨by rw [AAR fun j hj=>hb j (by omega)],hxx⟩
end
section
variable (G:Nat→AV)
set_option maxHeartbeats 1000000 in
theorem AOO (l:List Vr) (m:SM) (ds:List Ds) (s:SM) (hl:l.length≤1048576) (hd:ds.length≤1048576) (hw : ∀ d∈ds,d.ws.length≤1048576) (h:Hp):PCall (En G) 45 [.sl m 4 (l.map GH),.sl s 2 (ds.map JE)] h (.int .i64 (NW l ds)):=by
 refine ACalls.pure0 rfl ?_
 refine acN Tryz.func45 rfl ?_
 show awp _ _ _ _ _ (EN _ [.tmp 4] _)
 simp -implicitDefEqProofs only [BB,CE,A8,A7,AZ,BA,AO,AQ,AL,BD,AY,AC,AU,BH,BC,jB,jC,enP]
 refine EG (fun n F H => ∃ i,n+i=ds.length∧(∀ (j:Nat),j < i→dsI l ds j=0)∧F 0 = .sl m 4 (l.map GH)∧F 1 = .sl s 2 (ds.map JE)∧F 5 = .int .i64 (i:Nat)∧ext h H) ds.length ⟨0,by simp,fun j hj=>absurd hj (by omega),by simp -implicitDefEqProofs only [AA,BF,↓reduceIte,jA],by simp -implicitDefEqProofs only [AA,BF,BQ,↓reduceIte,jA],by simp -implicitDefEqProofs only [AA,↓reduceIte]; rfl,ext.rfl' h⟩ ?_
 rintro n F H ⟨i,hi,hb,f0,f1,f5,hxx⟩
 simp -implicitDefEqProofs only [BB,A8,BI,A7,AZ,BA,AO,AQ,AL,BD,AY,AC,AA,AX,BJ,BU,FP,AB,DV,↓reduceIte,jA,jB,jC,enP,AQN,f1,f5,jR]
 refine CQ (fun hc => ?_) (fun hc => ?_)
 ·have hi':i < ds.length:=by simpa using hc
  have hwi:=hw _ (jT hi')
  have hbad:=AC0 hi' hb
  have hat:=ACZ (l:=l) hi'
  have d0 : ∀ {k:Nat} (hk:k < ds.length) (H:Hp),DR Tryz.prog H 3 (.fptr 2 (ds.map JE) k 0)=some (.int .i64 ds[k].var):=fun hk H=>by rw [IC ag3 hk]; rfl
  have d1 : ∀ H:Hp,DR Tryz.prog H 50 (.fptr 2 (ds.map JE) i 1)=some (.sl ds[i].wm 4 (ds[i].ws.map JA)):=fun H=>by rw [IC AVU hi']; rfl
  simp -implicitDefEqProofs only [BB,CE,A8,BR,A7,AZ,BL,BX,CO,AO,AQ,AL,BD,AY,AC,AA,AX,AU,BH,BJ,BO,BU,BG,CG,AB,DV,↓reduceIte,jA,jH,jB,jC,enP,ACE,V4,f0,f1,f5,EX hi',d0 hi']
  refine NZ (fun F' H'=>F' 0 = .sl m 4 (l.map GH)∧F' 1 = .sl s 2 (ds.map JE)∧F' 5 = .int .i64 (i:Nat)∧F' 42 = .bool (!NC l ds[i].var)∧H'=H) ?_ ?_
  ·cases b1:decide (ds[i].var < 0)
   case true =>
    simp -implicitDefEqProofs only [AZ,BA,BL,BX,CO,F7,AO,AQ,AL,BD,AY,AC,AA,EQ,AX,AU,BM,BJ,CP,DW,↓reduceIte,jA,jB,jC,b1,f0,f1,f5]
    refine ⟨trivial,trivial,trivial,?_,trivial⟩
    have:NC l ds[i].var=false:=by unfold NC; rw [decide_eq_false (by simp at b1; omega)]; rfl
    rw [this]; rfl
   have h0:0≤ds[i].var:=by simpa using b1
   obtain ⟨k,hk⟩:=zI h0
   rw [hk] at b1 ⊢
   have d0':=d0 hi' H
   rw [hk] at d0'
   cases b2:decide (((k:Nat):Int)≥((l.length:Nat):Int))
   case true =>
    simp -implicitDefEqProofs only [AZ,BA,BL,BX,CO,EY,F7,AO,AQ,AL,BD,AY,AC,AA,EQ,AX,AU,BM,BJ,CP,DW,DZ,BO,BU,BG,CG,FP,AB,FV,↓reduceIte,jA,jH,jB,jC,enP,RH,ACE,V4,b1,b2,f0,f1,f5,EX hi',d0',jR]
    refine ⟨trivial,trivial,trivial,?_,trivial⟩
    have:NC l ((k:Nat):Int)=false:=by unfold NC; rw [decide_eq_false (p:=((k:Nat):Int) < (l.length:Int)) (by simp at b2; omega)]; simp
    rw [this]; rfl
   have hk':k < l.length:=by simp at b2; omega
   have l2:DR Tryz.prog H 3 (.fptr 4 (l.map GH) k 2)=some (.int .i64 l[k].mode):=by rw [IC ag3 hk']; rfl
   simp -implicitDefEqProofs only [AZ,BA,BL,BX,CO,EY,AO,AQ,AL,BD,AY,AC,AA,AX,AU,BH,BM,BJ,CP,DZ,BO,BU,BG,CG,FP,AB,CX,FV,↓reduceIte,jA,jH,jG,jB,jC,enP,VE,RH,ACE,V4,NV,b1,b2,f0,f1,f5,EX hi',d0',jR,EX hk',l2]
   exact ⟨trivial,trivial,trivial,by rw [WG hk',Bool.not_not],trivial⟩
  clear f0 f1 f5
  rintro F H0 ⟨f0,f1,f5,f42,rfl⟩
  simp -implicitDefEqProofs only [BI,A7,AX,f42]
  cases b1:NC l ds[i].var
  ·have he:dsE l (ds.take i) ds[i]=1:=by unfold dsE; rw [b1]; rfl
   simp -implicitDefEqProofs only [BB,A8,BK,A7,CJ,D8,F9,CV,DI,AZ,BA,AO,AQ,AL,BD,AY,AC,AA,AU,BH,BC,↓reduceIte,jB,jC]
   exact ⟨by rw [hbad (by rw [he]; decide),he],hxx⟩
  simp -implicitDefEqProofs only [BB,CE,A8,BR,A7,DN,AZ,BA,AO,AQ,AL,BD,AY,AC,AU,BH,BC,jB,jW,jC]
  refine IY 2 (fun F' H'=>F' 0 = .sl m 4 (l.map GH)∧F' 1 = .sl s 2 (ds.map JE)∧F' 5 = .int .i64 (i:Nat)∧H'=H0∧((ds.take i).any fun x=>x.var == ds[i].var)=false) (fun F' H'=>F' 4 = .int .i64 (NW l ds)∧H'=H0) ?_ ?_ ?_
  ·refine EG (fun n' F' H' => ∃ k,n'+k=i∧(∀ (j:Nat) (hj:j < k) (hl:j < ds.length),(ds[j].var == ds[i].var)=false)∧F' 0 = .sl m 4 (l.map GH)∧F' 1 = .sl s 2 (ds.map JE)∧F' 5 = .int .i64 (i:Nat)∧F' 6 = .int .i64 (k:Nat)∧H'=H0) i ⟨0,by simp,fun j hj=>absurd hj (by omega),by simp -implicitDefEqProofs only [AA,↓reduceIte,jA,f0],by simp -implicitDefEqProofs only [AA,↓reduceIte,jA,f1],by simp -implicitDefEqProofs only [AA,↓reduceIte,jA,f5],by simp -implicitDefEqProofs only [AA,↓reduceIte]; rfl,rfl⟩ ?_
   clear f0 f1 f5 f42
   rintro n' F H ⟨k,hk,hbk,f0,f1,f5,f6,rfl⟩
   simp -implicitDefEqProofs only [BB,A8,BI,A7,AZ,BA,AO,AQ,AL,BD,AY,AC,AA,AX,BJ,BU,AB,DV,↓reduceIte,jA,jB,jC,enP,f5,f6]
   refine CQ (fun hc => ?_) (fun hc => ?_)
   ·have hk':k < i:=by simpa using hc
    have hk2:k < ds.length:=by omega
    simp -implicitDefEqProofs only [BB,CE,BR,A7]
    refine EK (by kernel_rfl) ?_
    simp -implicitDefEqProofs only [ET,DK,CY,D7,DL,EH,EC,HY,C9,D9,BI,A7,AO,AA,AX,BO,BU,BG,CG,AB,CX,↓reduceIte,jA,Nat.reduceAdd,jH,jB,enP,ACE,V4,f1,f5,f6,EX hk2,EX hi',d0 hk2,d0 hi']
    refine CQ (fun he => ?_) (fun he => ?_)
    ·have hany:((ds.take i).any fun x=>x.var == ds[i].var)=true:=qR.2 ⟨ds[k],by
      have:(ds.take i)[k]'(by rw [qG]; omega)=ds[k]:=List.getElem_take
      rw [← this]; exact jT _,he⟩
     have hz:dsE l (ds.take i) ds[i]=8:=by unfold dsE; rw [b1,hany]; rfl
     simp -implicitDefEqProofs only [BB,A8,BK,A7,CJ,D8,L6,F9,AZ,BA,AO,AQ,AL,BD,AY,AC,AA,AU,BH,BC,↓reduceIte,jB,jC]
     exact ⟨by rw [hbad (by rw [hz]; decide),hz],trivial⟩
    ·simp -implicitDefEqProofs only [A8,BR,A7,EO,FO,AZ,BA,AO,AQ,AL,BD,AY,AC,AA,AX,AU,BH,BJ,BC,BU,AB,D6,↓reduceIte,jA,jB,jC,enP,f6,wrap_succ (show k < 9223372036854775807 by omega)]
     refine ⟨n' - 1,by omega,k+1,by omega,fun j hj hl => ?_,by trivial,by trivial,by trivial,rfl,trivial⟩
     rcases jV j k with h1 | h1
     ·exact hbk j h1 hl
     ·obtain rfl:j=k:=by omega
      exact he
   ·have hk' : ¬ k < i:=by simpa using hc
    simp -implicitDefEqProofs only [EF,FC,MG,F8,AA,↓reduceIte,jA]
    refine ⟨f0,f1,f5,trivial,?_⟩
    rw [List.any_eq_false]
    intro x hx
    obtain ⟨j,hj,rfl⟩:=qJ hx
    rw [qG] at hj
    rw [List.getElem_take,hbk j (by omega) (by omega)]; decide
  ·rintro F' H' ⟨g0,g1,g5,rfl,b2⟩
   simp -implicitDefEqProofs only [BB,A8,BI,A7,F6,AZ,BA,AO,AQ,AL,BD,AY,AC,AA,AX,AU,BH,BJ,BO,BU,BG,CG,FP,AB,FM,↓reduceIte,jA,jG,jB,jC,enP,ACE,AN7,V3,g1,g5,EX hi',d1,jR]
   refine CQ (fun b3 => ?_) (fun b3 => ?_)
   ·have he:dsE l (ds.take i) ds[i]=2:=by unfold dsE; rw [b1,b2,if_pos rfl,if_neg (by decide),if_pos (by simp at b3; omega)]
    simp -implicitDefEqProofs only [BB,A8,BK,A7,CJ,D8,F9,CV,AZ,BA,AO,AQ,AL,BD,AY,AC,AA,AU,BH,BC,↓reduceIte,jB,jC]
    exact ⟨by rw [hbad (by rw [he]; decide),he],hxx⟩
   simp -implicitDefEqProofs only [BB,CE,A8,BR,A7,AZ,BA,AO,AQ,AL,BD,AY,AC,AU,BH,BC,jB,jC]
   refine IY 4 (fun F2 H2=>F2 0 = .sl m 4 (l.map GH)∧F2 1 = .sl s 2 (ds.map JE)∧F2 5 = .int .i64 (i:Nat)∧ext h H2∧ds[i].ws.any U1=false) (fun F2 H2=>F2 4 = .int .i64 (NW l ds)∧ext h H2) ?_ ?_ ?_
   ·refine EG (fun n' F2 H2 => ∃ k,n'+k=ds[i].ws.length∧(∀ (j:Nat) (hj:j < k) (hl:j < ds[i].ws.length),U1 ds[i].ws[j]=false)∧F2 0 = .sl m 4 (l.map GH)∧F2 1 = .sl s 2 (ds.map JE)∧F2 5 = .int .i64 (i:Nat)∧F2 7 = .int .i64 (k:Nat)∧ext h H2) ds[i].ws.length ⟨0,by simp,fun j hj=>absurd hj (by omega),by simp -implicitDefEqProofs only [AA,↓reduceIte,jA,g0],by simp -implicitDefEqProofs only [AA,↓reduceIte,jA,g1],by simp -implicitDefEqProofs only [AA,↓reduceIte,jA,g5],by simp -implicitDefEqProofs only [AA,↓reduceIte]; rfl,hxx⟩ ?_
    clear f0 f1 f5 f42 g0 g1 g5 hxx
    rintro n' F H ⟨k,hk,hbk,f0,f1,f5,f7,hxx⟩
    simp -implicitDefEqProofs only [BB,A8,BI,A7,AZ,BA,AO,AQ,AL,BD,AY,AC,AA,AX,BJ,BO,BU,BG,CG,FP,AB,DV,↓reduceIte,jA,jG,jB,jC,enP,ACE,AN7,V3,f1,f5,f7,EX hi',d1,jR]
    refine CQ (fun hc => ?_) (fun hc => ?_)
    ·have hk':k < ds[i].ws.length:=by simpa using hc
     have hx1:ext h (H ++ [ABlk.live 4 [JA ds[i].ws[k]]]):=hxx.app _
     have gE:=DF H (ABlk.live 4 [JA ds[i].ws[k]])
     simp -implicitDefEqProofs only [BB,CE,A8,BR,A7,AZ,BA,AO,AQ,AL,BD,AY,AC,DU,AA,AX,BJ,EZ,BO,CU,BG,CG,CB,AB,BZ,↓reduceIte,jA,jH,jG,jB,jC,enP,ACE,AUO,V3,QL,jK,f1,f5,f7,EX hi',d1,EX hk',EU AVT ANI TV hk',AYV,AW7]
     generalize H ++ [ABlk.live 4 [JA ds[i].ws[k]]]=H1 at hx1 gE ⊢
     generalize hx:ds[i].ws[k]=x at gE
     have l0:DR Tryz.prog H1 3 (.ptr H.length 0 0)=some (.int .i64 x.lo):=by rw [DJ ag3 gE (row:=JA x) rfl]; rfl
     have l1:DR Tryz.prog H1 3 (.ptr H.length 0 1)=some (.int .i64 x.hi):=by rw [DJ ag3 gE (row:=JA x) rfl]; rfl
     have l2:DR Tryz.prog H1 3 (.ptr H.length 0 2)=some (.int .i64 x.w):=by rw [DJ ag3 gE (row:=JA x) rfl]; rfl
     simp -implicitDefEqProofs only [AZ,BL,BX,CO,AO,AQ,AL,BD,AY,AC,AA,AX,AU,BH,BJ,BU,AB,DV,↓reduceIte,jB,jC,enP,l0]
     refine NZ (fun F' H'=>F' 0 = .sl m 4 (l.map GH)∧F' 1 = .sl s 2 (ds.map JE)∧F' 5 = .int .i64 (i:Nat)∧F' 7 = .int .i64 (k:Nat)∧F' 108 = .bool (U1 x)∧H'=H1) ?_ ?_
     ·unfold U1
      cases b1:decide (x.lo < 0)
      case true =>
       simp -implicitDefEqProofs only [wB,AZ,BA,BL,BX,CO,F7,AO,AQ,AL,BD,AY,AC,AA,EQ,AX,AU,BM,BJ,CP,DW,↓reduceIte,jA,jB,jC,b1,f0,f1,f5,f7]
       exact ⟨trivial,trivial,trivial,trivial,trivial,trivial⟩
      cases b2:decide (x.lo > x.hi)
      case true =>
       simp -implicitDefEqProofs only [qC,wB,AZ,BA,BL,BX,CO,EY,F7,AO,AQ,AL,BD,AY,AC,AA,EQ,AX,AU,BM,BJ,CP,DW,DZ,BO,BU,BG,AB,FM,↓reduceIte,jA,jH,jG,jB,jC,enP,QL,TF,l0,l1,b1,b2,f0,f1,f5,f7]
       exact ⟨trivial,trivial,trivial,trivial,trivial,trivial⟩
      cases b3:decide (x.hi > 65535)
      case true =>
       simp -implicitDefEqProofs only [jM,qC,wB,AZ,BA,BL,BX,CO,EY,F7,AO,AQ,AL,BD,AY,AC,AA,EQ,AX,AU,BH,BM,BJ,CP,DW,DZ,BO,BU,BG,AB,FM,↓reduceIte,jA,jH,jG,jB,jC,enP,QL,TF,l0,l1,b1,b2,b3,f0,f1,f5,f7]
       exact ⟨trivial,trivial,trivial,trivial,trivial,trivial⟩
      cases b4:decide (x.w < 0)
      case true =>
       simp -implicitDefEqProofs only [jM,qC,wB,AZ,BA,BL,BX,CO,EY,F7,AO,AQ,AL,BD,AY,AC,AA,EQ,AX,AU,BH,BM,BJ,CP,DW,DZ,BO,BU,BG,AB,DV,FM,↓reduceIte,jA,jH,jG,jB,jC,enP,QL,TF,ZP,l0,l1,l2,b1,b2,b3,b4,f0,f1,f5,f7]
       exact ⟨trivial,trivial,trivial,trivial,trivial,trivial⟩
      cases b5:decide (x.w > 1000)
      all_goals
       simp -implicitDefEqProofs only [jM,qC,AZ,BA,BL,BX,CO,EY,AO,AQ,AL,BD,AY,AC,AA,AX,AU,BH,BM,BJ,CP,DZ,BO,BU,BG,AB,DV,FM,↓reduceIte,jA,jH,jG,jB,jC,enP,QL,TF,ZP,l0,l1,l2,b1,b2,b3,b4,b5,f0,f1,f5,f7]
       exact ⟨trivial,trivial,trivial,trivial,trivial,trivial⟩
     clear f0 f1 f5 f7
     rintro F H2 ⟨f0,f1,f5,f7,f108,rfl⟩
     simp -implicitDefEqProofs only [BI,A7,AX,f108]
     refine CQ (fun b4 => ?_) (fun b4 => ?_)
     ·have hany:ds[i].ws.any U1=true:=qR.2 ⟨x,by rw [← hx]; exact jT _,b4⟩
      have he:dsE l (ds.take i) ds[i]=1:=by unfold dsE; rw [b1,b2,if_pos rfl,if_neg (by decide),if_neg (by simp at b3; omega),hany]; rfl
      simp -implicitDefEqProofs only [BB,A8,BK,A7,CJ,D8,L6,F9,AZ,BA,AO,AQ,AL,BD,AY,AC,AA,AU,BH,BC,↓reduceIte,jB,jC]
      exact ⟨by rw [hbad (by rw [he]; decide),he],hx1⟩
     ·simp -implicitDefEqProofs only [A8,BR,A7,EO,FO,AZ,BA,AO,AQ,AL,BD,AY,AC,AA,AX,AU,BH,BJ,BC,BU,AB,D6,↓reduceIte,jA,jB,jC,enP,f7,wrap_succ (show k < 9223372036854775807 by omega)]
      refine ⟨n' - 1,by omega,k+1,by omega,fun j hj hl => ?_,by trivial,by trivial,by trivial,rfl,hx1⟩
      rcases jV j k with h1 | h1
      ·exact hbk j h1 hl
      ·obtain rfl:j=k:=by omega
       rw [hx]; exact b4
    ·have hk' : ¬ k < ds[i].ws.length:=by simpa using hc
     simp -implicitDefEqProofs only [EF,FC,MG,F8,AA,↓reduceIte,jA]
     refine ⟨f0,f1,f5,hxx,?_⟩
     rw [List.any_eq_false]
     intro x hx
     obtain ⟨j,hj,rfl⟩:=qJ hx
     rw [hbk j (by omega) hj]; decide
   ·rintro F2 H2 ⟨g0,g1,g5,hx2,b4⟩
    have he:dsE l (ds.take i) ds[i]=0:=by unfold dsE; rw [b1,b2,if_pos rfl,if_neg (by decide),if_neg (by simp at b3; omega),b4]; rfl
    simp -implicitDefEqProofs only [A8,A7,EO,F6,FO,AZ,BA,AO,AQ,AL,BD,AY,AC,AA,AX,AU,BH,BJ,BC,BU,AB,D6,↓reduceIte,jA,jB,jC,enP,g5,wrap_succ (show i < 9223372036854775807 by omega)]
    refine ⟨n - 1,by omega,i+1,by omega,fun j hj => ?_,by first | exact g0 | trivial,by first | exact g1 | trivial,rfl,hx2⟩
    rcases jV j i with h1 | h1
    ·exact hb j h1
    ·obtain rfl:j=i:=by omega
     rw [hat,he]
   ·rintro F2 H2 ⟨g4,hx2⟩
    simp -implicitDefEqProofs only [CJ,D8,F9,CV,g4]
    exact ⟨trivial,hx2⟩
  ·rintro F' H' ⟨g4,rfl⟩
   simp -implicitDefEqProofs only [CJ,D8,F9,CV,g4]
   exact ⟨trivial,hxx⟩
 ·have hi' : ¬ i < ds.length:=by simpa using hc
  simp -implicitDefEqProofs only [BB,A8,BK,EF,A7,FC,F6,F8,CV,AZ,BA,AO,AQ,AL,BD,AY,AC,AA,AU,BH,BC,↓reduceIte,jB,jC]
  exact ⟨by rw [AAR fun j hj=>hb j (by omega)],hxx⟩
end
def flG (gs:List Gp):List Int:=gs.flatMap Gp.l
theorem AIC {gs:List Gp} {i:Nat} (hi:i < gs.length):flG (gs.take (i+1))=flG (gs.take i) ++ gs[i].l:=by
 unfold flG; rw [zY hi,List.flatMap_append]; simp
theorem AEJ {gs:List Gp} {i j:Nat} (hi:i < gs.length) (hj:j < gs[i].l.length):flG gs=(flG (gs.take i) ++ gs[i].l.take j) ++ gs[i].l[j] :: (gs[i].l.drop (j+1) ++ flG (gs.drop (i+1))):=by
 have h1:gs=gs.take i ++ gs[i] :: gs.drop (i+1):=by rw [← zO hi,qY]
 have h2:flG gs=flG (gs.take i) ++ (gs[i].l ++ flG (gs.drop (i+1))):=by
  unfold flG
  conv=>lhs; rw [h1]
  rw [List.flatMap_append,List.flatMap_cons]
 have h3:gs[i].l=gs[i].l.take j ++ gs[i].l[j] :: gs[i].l.drop (j+1):=by rw [← zO hj,qY]
 have h4:gs[i].l ++ flG (gs.drop (i+1))=(gs[i].l.take j ++ gs[i].l[j] :: gs[i].l.drop (j+1)) ++ flG (gs.drop (i+1)):=by rw [← h3]
 rw [h2,h4]
 simp only [qA,zV]
def gOK (l:List Vr) (gs:List Gp):Bool:=decide ((∀ g∈gs,g.l≠[])∧(∀ x∈flG gs,0≤x∧x < l.length)∧∀ i:Fin l.length,(flG gs).count ((i.1:Nat):Int)=if l[i.1].mode=0 then 0 else 1)
theorem AMK {l:List Vr} {gs:List Gp} {g:Gp} (hg:g∈gs) (h:g.l = []):gOK l gs=false:=decide_eq_false fun ⟨h1,_⟩=>h1 g hg h
theorem AFZ {l:List Vr} {gs:List Gp} {x:Int} (hx:x∈flG gs) (h : ¬ (0≤x∧x < l.length)):gOK l gs=false:=decide_eq_false fun ⟨_,h1,_⟩=>h (h1 x hx)
theorem YQ {l:List Vr} {gs:List Gp} {i:Nat} (hi:i < l.length) (h:(flG gs).count ((i:Nat):Int)≠if l[i].mode=0 then 0 else 1):gOK l gs=false:=decide_eq_false fun ⟨_,_,h1⟩=>h (h1 ⟨i,hi⟩)
theorem O4 {l:List Vr} {x:Int} (h:NC l x=true) : ∃ k,∃ hk:k < l.length,x=(k:Nat)∧¬ l[k].mode=0:=by
 unfold NC at h
 simp only [Bool.and_eq_true,decide_eq_true_eq] at h
 obtain ⟨h0,h1,h2⟩:=h
 have hk:x.toNat < l.length:=by omega
 rw [jU hk] at h2
 exact ⟨x.toNat,hk,by omega,by simpa using h2⟩
theorem AU0 {l:List Vr} {gs:List Gp} {x:Int} (hx:x∈flG gs) (h:NC l x=false):gOK l gs=false:=by
 by_cases hr:0≤x∧x < l.length
 ·obtain ⟨k,rfl⟩:=zI hr.1
  have hk:k < l.length:=by omega
  rw [WG hk] at h
  refine YQ hk ?_
  rw [if_pos (by simpa using h)]
  have:=List.count_pos_iff.2 hx
  omega
 ·exact AFZ hx hr
def bR (done:List Int) (n:Nat):List (List AV):=(List.range n).map fun i => [AV.bool (decide (((i:Nat):Int)∈done))]
def cR (done:List Int) (n:Nat):List (List AV):=(List.range n).map fun i => [AV.int .i64 ((done.count ((i:Nat):Int):Nat):Int)]
theorem Z9 (done:List Int) (n:Nat):(bR done n).length=n:=by simp [bR]
theorem Z4 (done:List Int) (n:Nat):(cR done n).length=n:=by simp [cR]
theorem XX (done:List Int) {n i:Nat} (hi:i < n):(bR done n)[i]? = some [AV.bool (decide (((i:Nat):Int)∈done))]:=by simp [bR,hi]
theorem XU (done:List Int) {n i:Nat} (hi:i < n):(cR done n)[i]? = some [AV.int .i64 ((done.count ((i:Nat):Int):Nat):Int)]:=by simp [cR,hi]
theorem AYQ (done:List Int) {n k:Nat} (hk:k < n):(bR done n).set k [.bool true]=bR (done ++ [(k:Int)]) n:=by
 apply List.ext_getElem?
 intro i
 rw [jZ]
 by_cases hi:i < n
 ·by_cases e:k=i
  ·subst e
   rw [if_pos rfl,if_pos (by rw [Z9]; exact hi),XX _ hi]
   simp
  ·rw [if_neg e,XX _ hi,XX _ hi]
   congr 3
   simp
   rintro h; omega
 ·rw [zM (by rw [Z9]; omega)]
  split
  ·rw [if_neg (by rw [Z9]; omega),zM (by rw [Z9]; omega)]
  ·rw [zM (by rw [Z9]; omega)]
theorem AYI (done:List Int) {n k:Nat} (hk:k < n):(cR done n).set k [.int .i64 ((done.count ((k:Nat):Int)+1:Nat):Int)]=cR (done ++ [(k:Int)]) n:=by
 apply List.ext_getElem?
 intro i
 rw [jZ]
 by_cases hi:i < n
 ·by_cases e:k=i
  ·subst e
   rw [if_pos rfl,if_pos (by rw [Z4]; exact hi),XU _ hi,List.count_append]
   simp
  ·rw [if_neg e,XU _ hi,XU _ hi,List.count_append]
   have:((k:Nat):Int)≠((i:Nat):Int):=by omega
   simp [this]
 ·rw [zM (by rw [Z4]; omega)]
  split
  ·rw [if_neg (by rw [Z4]; omega),zM (by rw [Z4]; omega)]
  ·rw [zM (by rw [Z4]; omega)]
theorem AZ6 (h:Hp) (n:Nat) (hn:n≤1048576):J5 Tryz.prog true h 138 (.int .i64 (n:Int)) (.int .i64 (n:Int))=some (.own h.length 0 n,h ++ [.live 1 (bR [] n)]):=by
 have hz:OE Tryz.prog 4=some [.bool false]:=by kernel_rfl
 have hr:room n 1:=PV (by omega) (by omega)
 unfold J5
 simp only [AY8,sz4,A0W,hz,zG]
 rw [if_pos ⟨by omega,qK _,hr,rfl⟩]
 have:bR [] n=List.replicate n [.bool false]:=by
  apply List.ext_getElem?
  intro i
  by_cases hi:i < n
  ·rw [XX _ hi,List.getElem?_replicate,if_pos hi]; simp
  ·rw [zM (by rw [Z9]; omega),zM (by simp; omega)]
 rw [this]
 simp
theorem A2R (h:Hp) (n:Nat) (hn:n≤1048576):J5 Tryz.prog true h 45 (.int .i64 (n:Int)) (.int .i64 (n:Int))=some (.own h.length 0 n,h ++ [.live 1 (cR [] n)]):=by
 have hz:OE Tryz.prog 3=some [.int .i64 0]:=by kernel_rfl
 have hr:room n 8:=PV (by omega) (by omega)
 unfold J5
 simp only [AY7,sz3,A0U,hz,zG]
 rw [if_pos ⟨by omega,qK _,hr,rfl⟩]
 have:cR [] n=List.replicate n [.int .i64 0]:=by
  apply List.ext_getElem?
  intro i
  by_cases hi:i < n
  ·rw [XU _ hi,List.getElem?_replicate,if_pos hi]; simp
  ·rw [zM (by rw [Z4]; omega),zM (by simp; omega)]
 rw [this]
 simp
theorem A2E {h:Hp} {o j:Nat} {rows:List (List AV)} (ho:h[o]? = some (.live 1 rows)) (hj : ∃ v,rows[j]? = some [v]) (b:Bool):GM Tryz.prog h 4 (.ptr o j 0) (.bool b)=some (h.set o (.live 1 (rows.set j [.bool b]))):=by
 obtain ⟨v,hv⟩:=hj
 rw [I5 (cs := [.bool b]) rfl sz4 ho hv (by simp)]; rfl
theorem A2D {h:Hp} {o j:Nat} {rows:List (List AV)} {x:Int} (ho:h[o]? = some (.live 1 rows)) (hj : ∃ v,rows[j]? = some [v]):GM Tryz.prog h 3 (.ptr o j 0) (.int .i64 x)=some (h.set o (.live 1 (rows.set j [.int .i64 x]))):=by
 obtain ⟨v,hv⟩:=hj
 rw [I5 (cs := [.int .i64 x]) rfl sz3 ho hv (by simp)]; rfl
section
variable (G:Nat→AV)
set_option maxHeartbeats 1000000 in
theorem AKJ (l:List Vr) (m:SM) (gs:List Gp) (s:SM) (hl:l.length≤1048576) (hg:gs.length≤1048576) (hw:(flG gs).length≤1048576) (h:Hp):PCall (En G) 46 [.sl m 4 (l.map GH),.sl s 1 (gs.map SX)] h (.bool (gOK l gs)):=by
 refine ACalls.pure0 rfl ?_
 refine acN Tryz.func46 rfl ?_
 show awp _ _ _ _ _ (EN _ [.tmp 4] _)
 simp -implicitDefEqProofs only [BB,CE,A8,A7,AZ,BA,AO,AQ,AL,BD,AY,AC,AA,AX,AU,BH,BM,BJ,BC,VJ,FP,CB,AB,BF,↓reduceIte,jA,jB,jC,enP,RH,jR,A2R h l.length hl]
 refine IY 0 (fun F H=>F 0 = .sl m 4 (l.map GH)∧F 5 = .own h.length 0 l.length∧H=h ++ [ABlk.live 1 (cR (flG gs) l.length)]∧(∀ g∈gs,g.l≠[])∧∀ x∈flG gs,0≤x∧x < l.length) (fun F H=>F 4 = .bool (gOK l gs)∧ext h H) ?_ ?_ ?_
 ·refine EG (fun n F H => ∃ i,n+i=gs.length∧F 0 = .sl m 4 (l.map GH)∧F 1 = .sl s 1 (gs.map SX)∧F 5 = .own h.length 0 l.length∧F 6 = .int .i64 (i:Nat)∧H=h ++ [ABlk.live 1 (cR (flG (gs.take i)) l.length)]∧(∀ g∈gs.take i,g.l≠[])∧∀ x∈flG (gs.take i),0≤x∧x < l.length) gs.length ⟨0,by simp,by simp -implicitDefEqProofs only [AA,BF,↓reduceIte,jA],by simp -implicitDefEqProofs only [AA,BF,BQ,↓reduceIte,jA],by simp -implicitDefEqProofs only [AA,↓reduceIte,jA],by simp -implicitDefEqProofs only [AA,↓reduceIte]; rfl,rfl,by simp,by simp [flG]⟩ ?_
  rintro n F H ⟨i,hi,f0,f1,f5,f6,rfl,hne,hin⟩
  simp -implicitDefEqProofs only [BB,A8,BI,A7,AZ,BA,AO,AQ,AL,BD,AY,AC,AA,AX,BJ,BU,FP,AB,DV,↓reduceIte,jA,jB,jC,enP,AZ7,f1,f6,jR]
  refine CQ (fun hc => ?_) (fun hc => ?_)
  ·have hi':i < gs.length:=by simpa using hc
   have lg : ∀ H:Hp,DR Tryz.prog H 45 (.fptr 1 (gs.map SX) i 0)=some (.sl gs[i].m 1 (gs[i].l.map qencI)):=fun H=>by rw [IC AYX hi']; rfl
   simp -implicitDefEqProofs only [BB,CE,A8,BR,BI,A7,AZ,BA,AO,AQ,AL,BD,AY,AC,AA,AX,AU,BH,BJ,BO,BU,CG,FP,AB,CX,↓reduceIte,jA,jB,jC,enP,AUP,AH0,f1,f6,EX hi',lg,jR]
   refine CQ (fun hz => ?_) (fun hz => ?_)
   ·simp -implicitDefEqProofs only [BB,A8,BK,A7,CJ,D8,L6,F9,AZ,BA,AO,AQ,AL,BD,AY,AC,AA,AU,BM,BC,↓reduceIte,jB,jC]
    exact ⟨by rw [AMK (jT hi') (qX (by simpa using hz))],_,rfl⟩
   have hnz:gs[i].l≠[]:=by
    intro e; rw [e] at hz; simp at hz
   simp -implicitDefEqProofs only [BB,CE,A8,BR,A7,AZ,BA,AO,AQ,AL,BD,AY,AC,AU,BH,BC,jB,jC]
   refine IY 2 (fun F' H'=>F' 0 = .sl m 4 (l.map GH)∧F' 1 = .sl s 1 (gs.map SX)∧F' 5 = .own h.length 0 l.length∧F' 6 = .int .i64 (i:Nat)∧H'=h ++ [ABlk.live 1 (cR (flG (gs.take i) ++ gs[i].l) l.length)]∧∀ x∈flG (gs.take i) ++ gs[i].l,0≤x∧x < l.length) (fun F' H'=>F' 4 = .bool (gOK l gs)∧ext h H') ?_ ?_ ?_
   ·refine EG (fun n' F' H' => ∃ j,n'+j=gs[i].l.length∧F' 0 = .sl m 4 (l.map GH)∧F' 1 = .sl s 1 (gs.map SX)∧F' 5 = .own h.length 0 l.length∧F' 6 = .int .i64 (i:Nat)∧F' 7 = .int .i64 (j:Nat)∧H'=h ++ [ABlk.live 1 (cR (flG (gs.take i) ++ gs[i].l.take j) l.length)]∧∀ x∈flG (gs.take i) ++ gs[i].l.take j,0≤x∧x < l.length) gs[i].l.length ⟨0,by simp,by simp -implicitDefEqProofs only [AA,↓reduceIte,jA,f0],by simp -implicitDefEqProofs only [AA,↓reduceIte,jA,f1],by simp -implicitDefEqProofs only [AA,↓reduceIte,jA,f5],by simp -implicitDefEqProofs only [AA,↓reduceIte,jA,f6],by simp -implicitDefEqProofs only [AA,↓reduceIte]; rfl,by rw [zC,jE],by rw [zC,jE]; exact hin⟩ ?_
    clear f0 f1 f5 f6
    rintro n' F H ⟨j,hj,f0,f1,f5,f6,f7,rfl,hin2⟩
    simp -implicitDefEqProofs only [BB,A8,BI,A7,AZ,BA,AO,AQ,AL,BD,AY,AC,AA,AX,BJ,BO,BU,CG,FP,AB,DV,↓reduceIte,jA,jB,jC,enP,AUP,AH0,f1,f6,f7,EX hi',lg,jR]
    refine CQ (fun hc => ?_) (fun hc => ?_)
    ·have hj':j < gs[i].l.length:=by simpa using hc
     have hsp:=AEJ hi' hj'
     have hmem:gs[i].l[j]∈flG gs:=by rw [hsp]; simp
     have l3 : ∀ H:Hp,DR Tryz.prog H 3 (.fptr 1 (gs[i].l.map qencI) j 0)=some (.int .i64 gs[i].l[j]):=fun H=>by rw [IC ag3 hj']; rfl
     simp -implicitDefEqProofs only [BB,CE,A8,BR,A7,AZ,BA,BL,BX,CO,AO,AQ,AL,BD,AY,AC,AA,AX,AU,BH,BJ,BC,BO,BU,CG,AB,DV,↓reduceIte,jA,jB,jC,enP,AUP,WV,f1,f6,f7,EX hi',lg,EX hj',l3]
     cases b1:decide (gs[i].l[j] < 0)
     case true =>
      simp -implicitDefEqProofs only [BB,A8,BK,BI,A7,CJ,D8,L6,F9,DI,AZ,BA,BL,BX,CO,F7,AO,AQ,AL,BD,AY,AC,AA,EQ,AX,AU,BM,BC,CP,DW,↓reduceIte,jA,jB,jC,b1]
      exact ⟨by rw [AFZ hmem (by simp at b1; omega)],_,rfl⟩
     simp -implicitDefEqProofs only [BI,A7,AZ,BA,BL,BX,CO,EY,AO,AQ,AL,BD,AY,AC,AA,AX,AU,BM,BJ,CP,DZ,BU,FP,AB,FV,↓reduceIte,jA,jB,jC,enP,RH,b1,f0,jR]
     refine CQ (fun b2 => ?_) (fun b2 => ?_)
     ·simp -implicitDefEqProofs only [BB,A8,BK,A7,CJ,D8,L6,F9,AZ,BA,AO,AQ,AL,BD,AY,AC,AA,AU,BM,BC,↓reduceIte,jB,jC]
      exact ⟨by rw [AFZ hmem (by simp at b2; omega)],_,rfl⟩
     have h0:0≤gs[i].l[j]:=by simpa using b1
     obtain ⟨k,hk⟩:=zI h0
     have hkl:k < l.length:=by rw [hk] at b2; simp at b2; omega
     have hb0:=DF h (ABlk.live 1 (cR (flG (gs.take i) ++ gs[i].l.take j) l.length))
     have hcnt:(flG (gs.take i) ++ gs[i].l.take j).count ((k:Nat):Int)≤1048576:=by
      have h1:=List.count_le_length (a:=((k:Nat):Int)) (l:=flG (gs.take i) ++ gs[i].l.take j)
      have h2:(flG (gs.take i) ++ gs[i].l.take j).length≤(flG gs).length:=by
       rw [hsp]; simp only [qB]; omega
      omega
     have hjb:j≤1048576:=by
      have h2:gs[i].l.length≤(flG gs).length:=by
       rw [hsp]; simp only [qB,qF,qG,List.length_drop]; omega
      omega
     have lc:DR Tryz.prog (h ++ [ABlk.live 1 (cR (flG (gs.take i) ++ gs[i].l.take j) l.length)]) 3 (.ptr h.length k 0)=some (.int .i64 (((flG (gs.take i) ++ gs[i].l.take j).count ((k:Nat):Int):Nat):Int)):=by
      rw [DJ ag3 hb0 (XU _ hkl)]; rfl
     have hst:=A2D (x:=(((flG (gs.take i) ++ gs[i].l.take j).count ((k:Nat):Int)+1:Nat):Int)) hb0 (j:=k) ⟨_,XU _ hkl⟩
     rw [AYI _ hkl,MB] at hst
     have hap:(flG (gs.take i) ++ gs[i].l.take j) ++ [((k:Nat):Int)]=flG (gs.take i) ++ gs[i].l.take (j+1):=by
      rw [zY hj',hk,qA]
     simp -implicitDefEqProofs only [A8,BR,A7,EO,FO,AZ,BA,AO,AQ,AL,BD,AY,AC,DU,AA,AX,AU,BH,BJ,BC,BO,CU,BU,CG,AB,BZ,D6,↓reduceIte,jA,jG,jB,jC,enP,WV,jK,f5,hk,JK hb0 hkl,lc,wrap_succ (show (flG (gs.take i) ++ gs[i].l.take j).count ((k:Nat):Int) < 9223372036854775807 by omega),hst,f7,wrap_succ (show j < 9223372036854775807 by omega)]
     refine ⟨n' - 1,by omega,j+1,by omega,by trivial,by trivial,by trivial,by trivial,rfl,by rw [← hap],fun x hx => ?_⟩
     rw [← hap] at hx
     rcases zX.1 hx with hx | hx
     ·exact hin2 x hx
     ·rw [List.mem_singleton] at hx
      rw [hx]; omega
    ·have hj' : ¬ j < gs[i].l.length:=by simpa using hc
     have e:gs[i].l.take j=gs[i].l:=jY (by omega)
     rw [e] at hin2
     simp -implicitDefEqProofs only [EF,FC,MG,F8,AA,↓reduceIte,jA]
     exact ⟨f0,f1,f5,f6,by rw [e],hin2⟩
   ·rintro F' H' ⟨g0,g1,g5,g6,rfl,hin2⟩
    simp -implicitDefEqProofs only [A8,A7,EO,F6,FO,AZ,BA,AO,AQ,AL,BD,AY,AC,AA,AX,AU,BH,BJ,BC,BU,AB,D6,↓reduceIte,jA,jB,jC,enP,g6,wrap_succ (show i < 9223372036854775807 by omega)]
    have hft:=AIC hi'
    refine ⟨n - 1,by omega,i+1,by omega,by first | exact g0 | trivial,by first | exact g1 | trivial,by first | exact g5 | trivial,rfl,by rw [hft],fun g hg => ?_,by rw [hft]; exact hin2⟩
    rw [zY hi'] at hg
    rcases zX.1 hg with hg | hg
    ·exact hne g hg
    ·rw [List.mem_singleton] at hg; rw [hg]; exact hnz
   ·rintro F' H' ⟨g4,hx⟩
    simp -implicitDefEqProofs only [CJ,D8,L6,F9,g4]
    exact ⟨trivial,hx⟩
  ·have hi' : ¬ i < gs.length:=by simpa using hc
   rw [jY (by omega)] at hne hin
   simp -implicitDefEqProofs only [EF,FC,MG,F8,AA,↓reduceIte,jA]
   exact ⟨f0,f5,by rw [jY (by omega)],hne,hin⟩
 ·rintro F H ⟨f0,f5,rfl,hne,hin⟩
  have hb0:=DF h (ABlk.live 1 (cR (flG gs) l.length))
  have hx0:ext h (h ++ [ABlk.live 1 (cR (flG gs) l.length)]):=⟨_,rfl⟩
  generalize h ++ [ABlk.live 1 (cR (flG gs) l.length)]=H0 at hb0 hx0 ⊢
  simp -implicitDefEqProofs only [BB,CE,A8,A7,F6,AZ,BA,AO,AQ,AL,BD,AY,AC,AU,BH,BC,↓reduceIte,jB,jC]
  refine EG (fun n F H => ∃ i,n+i=l.length∧(∀ (j:Nat),j < i→∀ hj:j < l.length,(flG gs).count ((j:Nat):Int)=if l[j].mode=0 then 0 else 1)∧F 0 = .sl m 4 (l.map GH)∧F 5 = .own h.length 0 l.length∧F 9 = .int .i64 (i:Nat)∧H=H0) l.length ⟨0,by simp,fun j hj=>absurd hj (by omega),by simp -implicitDefEqProofs only [AA,↓reduceIte,jA,f0],by simp -implicitDefEqProofs only [AA,↓reduceIte,jA,f5],by simp -implicitDefEqProofs only [AA,↓reduceIte]; rfl,rfl⟩ ?_
  clear f0 f5
  rintro n F H ⟨i,hi,hb,f0,f5,f9,rfl⟩
  simp -implicitDefEqProofs only [BB,A8,BI,A7,AZ,BA,AO,AQ,AL,BD,AY,AC,AA,AX,BJ,BU,FP,AB,DV,↓reduceIte,jA,jB,jC,enP,RH,f0,f9,jR]
  refine CQ (fun hc => ?_) (fun hc => ?_)
  ·have hi':i < l.length:=by simpa using hc
   have l2:DR Tryz.prog H 3 (.fptr 4 (l.map GH) i 2)=some (.int .i64 l[i].mode):=by rw [IC ag3 hi']; rfl
   have lc:DR Tryz.prog H 3 (.ptr h.length i 0)=some (.int .i64 (((flG gs).count ((i:Nat):Int):Nat):Int)):=by
    rw [DJ ag3 hb0 (XU _ hi')]; rfl
   have nxt:(flG gs).count ((i:Nat):Int)=(if l[i].mode=0 then 0 else 1)→∀ (j:Nat),j < i+1→∀ hj:j < l.length,(flG gs).count ((j:Nat):Int)=if l[j].mode=0 then 0 else 1:=fun he j hj hl=>by
    rcases jV j i with h1 | h1
    ·exact hb j h1 hl
    ·obtain rfl:j=i:=by omega
     exact he
   simp -implicitDefEqProofs only [BB,CE,A8,BR,BI,A7,AZ,BA,AO,AQ,AL,BD,AY,AC,AA,AX,AU,BH,BJ,BC,BO,BU,BG,CG,AB,CX,↓reduceIte,jA,jG,jB,jC,enP,VE,NV,f0,f9,EX hi',l2]
   refine CQ (fun b1 => ?_) (fun b1 => ?_)
   ·have hm:l[i].mode=0:=by simpa using b1
    simp -implicitDefEqProofs only [BB,A8,BI,A7,AZ,BA,AO,AQ,AL,BD,AY,AC,AA,AX,AU,BH,BJ,BC,BO,BU,CG,AB,FT,↓reduceIte,jA,jG,jB,jC,enP,WV,f5,f9,JK hb0 hi',lc]
    refine CQ (fun b2 => ?_) (fun b2 => ?_)
    ·simp -implicitDefEqProofs only [BB,A8,BK,A7,CJ,D8,F9,CV,AZ,BA,AO,AQ,AL,BD,AY,AC,AA,AU,BM,BC,↓reduceIte,jB,jC]
     refine ⟨?_,hx0⟩
     rw [YQ hi' (by rw [if_pos hm]; simp [bne] at b2; exact fun e=>b2 e)]
    ·have he:=nxt (by rw [if_pos hm]; simp [bne] at b2; exact b2)
     simp -implicitDefEqProofs only [A8,BR,A7,EO,FO,AZ,BA,AO,AQ,AL,BD,AY,AC,AA,AX,AU,BH,BJ,BC,BU,AB,D6,↓reduceIte,jA,jB,jC,enP,f9,wrap_succ (show i < 9223372036854775807 by omega)]
     exact ⟨n - 1,by omega,i+1,by omega,he,by trivial,by trivial,rfl,trivial⟩
   ·have hm : ¬ l[i].mode=0:=by simpa using b1
    simp -implicitDefEqProofs only [BB,A8,BR,BI,A7,AZ,BA,AO,AQ,AL,BD,AY,AC,AA,AX,BJ,BO,BU,CG,AB,FT,↓reduceIte,jA,jG,jB,jC,enP,WV,f5,f9,JK hb0 hi',lc]
    refine CQ (fun b2 => ?_) (fun b2 => ?_)
    ·simp -implicitDefEqProofs only [BB,A8,BK,A7,CJ,D8,F9,CV,AZ,BA,AO,AQ,AL,BD,AY,AC,AA,AU,BM,BC,↓reduceIte,jB,jC]
     refine ⟨?_,hx0⟩
     rw [YQ hi' (by rw [if_neg hm]; intro e; rw [e] at b2; exact absurd b2 (by decide))]
    ·have he:=nxt (by rw [if_neg hm]; simp [bne] at b2; omega)
     simp -implicitDefEqProofs only [A8,BR,A7,EO,FO,AZ,BA,AO,AQ,AL,BD,AY,AC,AA,AX,AU,BH,BJ,BC,BU,AB,D6,↓reduceIte,jA,jB,jC,enP,f9,wrap_succ (show i < 9223372036854775807 by omega)]
     exact ⟨n - 1,by omega,i+1,by omega,he,by trivial,by trivial,rfl,trivial⟩
  ·have hi' : ¬ i < l.length:=by simpa using hc
   simp -implicitDefEqProofs only [BB,A8,BK,EF,A7,FC,F6,F8,CV,AZ,BA,AO,AQ,AL,BD,AY,AC,AA,AU,BM,BC,↓reduceIte,jB,jC]
   refine ⟨?_,hx0⟩
   rw [show gOK l gs=true from decide_eq_true ⟨hne,hin,fun i=>hb i.1 (by omega) i.2⟩]
 ·rintro F H ⟨f4,hx⟩
  simp -implicitDefEqProofs only [CJ,D8,CV,f4]
  exact ⟨trivial,hx⟩
end
section
variable (G:Nat→AV)
set_option maxHeartbeats 1000000 in
theorem AH6 (p:Pr) (hl:p.vars.length≤1048576) (hg:p.groups.length≤1048576) (hw:(flG p.groups).length≤1048576) (h:Hp):PCall (En G) 63 [.agg (DY p)] h (.int .i64 (if gOK p.vars p.groups=true then 0 else 1)):=by
 refine ACalls.pure0 rfl ?_
 refine acN Tryz.func63 rfl ?_
 show awp _ _ _ _ _ (EN _ [.tmp 2] _)
 have ge:=DF h (ABlk.live 5 [DY p])
 have hxx:ext h (h ++ [ABlk.live 5 [DY p]]):=(ext.rfl' h).app _
 simp -implicitDefEqProofs only [BB,A8,A7,AZ,BA,AO,AQ,AL,BD,AY,AC,AA,AX,AU,BH,BC,FQ,BO,BG,CB,AB,BF,↓reduceIte,jA,jH,jB,jC,enP,LU,QP]
 generalize h ++ [ABlk.live 5 [DY p]]=hb at ge hxx ⊢
 generalize h.length=eb at ge ⊢
 have nb:gOK p.vars p.groups=false→(AV.int .i64 1=AV.int .i64 (if gOK p.vars p.groups=true then 0 else 1)):=fun hh=>by rw [hh]; rfl
 have l0:DR Tryz.prog hb 22 (.ptr eb 0 0)=some (.sl p.vm 4 (p.vars.map GH)):=by rw [DJ VI ge (row:=DY p) rfl]; rfl
 simp -implicitDefEqProofs only [BB,A8,A7,AZ,BA,AO,AQ,AL,BD,AY,AC,AA,AX,BC,BO,VJ,BG,FP,CB,AB,↓reduceIte,jA,jG,jB,jC,enP,RH,ARL,l0,jR,AZ6 hb p.vars.length hl]
 have geA : ∀ x:ABlk,(hb ++ [x])[eb]? = some (ABlk.live 5 [DY p]):=fun x=>DC ge
 have l4 : ∀ x:ABlk,DR Tryz.prog (hb ++ [x]) 25 (.ptr eb 0 4)=some (.sl p.gm 1 (p.groups.map SX)):=fun x=>by rw [DJ A1Q (geA x) (row:=DY p) rfl]; rfl
 have lp : ∀ x:ABlk,DR Tryz.prog (hb ++ [x]) 27 (.ptr eb 0 0)=some (.agg (DY p)):=fun x=>by rw [H7 VH UG (geA x) (row:=DY p) rfl (by rw [GZ]; exact jQ 5)]; rfl
 have l0A : ∀ x:ABlk,DR Tryz.prog (hb ++ [x]) 22 (.ptr eb 0 0)=some (.sl p.vm 4 (p.vars.map GH)):=fun x=>by rw [DJ VI (geA x) (row:=DY p) rfl]; rfl
 have hxA : ∀ x:ABlk,ext h (hb ++ [x]):=fun x=>hxx.app _
 simp -implicitDefEqProofs only [CE,A7,AZ,BA,AO,AQ,AL,BD,AY,AC,AA,AX,AU,BH,BJ,FP,AB,↓reduceIte,jB,jC,enP,AZ7,l4,jR]
 refine IY 0 (fun F H=>F 1 = .ptr eb 0 0∧F 3 = .own hb.length 0 p.vars.length∧H=hb ++ [ABlk.live 1 (bR (flG p.groups) p.vars.length)]∧(∀ g∈p.groups,g.l≠[])∧(∀ x∈flG p.groups,NC p.vars x=true)∧∀ x:Int,(flG p.groups).count x≤1) (fun F H=>F 2 = .int .i64 (if gOK p.vars p.groups=true then 0 else 1)∧ext h H) ?_ ?_ ?_
 ·refine EG (fun n F H => ∃ i,n+i=p.groups.length∧F 1 = .ptr eb 0 0∧F 3 = .own hb.length 0 p.vars.length∧F 14 = .sl p.gm 1 (p.groups.map SX)∧F 15 = .int .i64 (p.groups.length:Nat)∧F 16 = .int .i64 (i:Nat)∧H=hb ++ [ABlk.live 1 (bR (flG (p.groups.take i)) p.vars.length)]∧(∀ g∈p.groups.take i,g.l≠[])∧(∀ x∈flG (p.groups.take i),NC p.vars x=true)∧∀ x:Int,(flG (p.groups.take i)).count x≤1) p.groups.length ⟨0,by simp,by simp -implicitDefEqProofs only [AA,↓reduceIte,jA],by simp -implicitDefEqProofs only [AA,↓reduceIte,jA],by simp -implicitDefEqProofs only [AA,↓reduceIte,jA],by simp -implicitDefEqProofs only [AA,↓reduceIte,jA],by simp -implicitDefEqProofs only [AA,↓reduceIte]; rfl,rfl,by simp,by simp [flG],by simp [flG]⟩ ?_
  rintro n F H ⟨i,hi,f1,f3,f14,f15,f16,rfl,hne,hin,hct⟩
  simp -implicitDefEqProofs only [BB,A8,BI,A7,AZ,BA,AO,AQ,AL,BD,AY,AC,AA,AX,BU,AB,DV,↓reduceIte,jB,jC,enP,f15,f16]
  refine CQ (fun hc => ?_) (fun hc => ?_)
  ·have hi':i < p.groups.length:=by simpa using hc
   have lg : ∀ H:Hp,DR Tryz.prog H 45 (.fptr 1 (p.groups.map SX) i 0)=some (.sl p.groups[i].m 1 (p.groups[i].l.map qencI)):=fun H=>by rw [IC AYX hi']; rfl
   simp -implicitDefEqProofs only [BB,CE,A8,BR,BI,A7,AZ,BA,AO,AQ,AL,BD,AY,AC,AA,AX,AU,BH,BJ,BC,BO,BU,CG,FP,AB,CX,↓reduceIte,jA,jB,jC,enP,AUP,AH0,f14,f16,EX hi',lg,jR]
   refine CQ (fun hz => ?_) (fun hz => ?_)
   ·simp -implicitDefEqProofs only [BB,A8,BK,A7,CJ,D8,L6,F9,AZ,BA,AO,AQ,AL,BD,AY,AC,AA,AU,BH,BC,↓reduceIte,jB,jC]
    exact ⟨nb (AMK (jT hi') (qX (by simpa using hz))),hxA _⟩
   have hnz:p.groups[i].l≠[]:=by
    intro e; rw [e] at hz; simp at hz
   simp -implicitDefEqProofs only [BB,CE,A8,BR,A7,AZ,BA,AO,AQ,AL,BD,AY,AC,AA,AX,AU,BH,BJ,FP,AB,↓reduceIte,jA,jB,jC,enP,AH0,jR]
   refine IY 2 (fun F' H'=>F' 1 = .ptr eb 0 0∧F' 3 = .own hb.length 0 p.vars.length∧F' 14 = .sl p.gm 1 (p.groups.map SX)∧F' 15 = .int .i64 (p.groups.length:Nat)∧F' 16 = .int .i64 (i:Nat)∧H'=hb ++ [ABlk.live 1 (bR (flG (p.groups.take i) ++ p.groups[i].l) p.vars.length)]∧(∀ x∈flG (p.groups.take i) ++ p.groups[i].l,NC p.vars x=true)∧∀ x:Int,(flG (p.groups.take i) ++ p.groups[i].l).count x≤1) (fun F' H'=>F' 2 = .int .i64 (if gOK p.vars p.groups=true then 0 else 1)∧ext h H') ?_ ?_ ?_
   ·refine EG (fun n' F' H' => ∃ j,n'+j=p.groups[i].l.length∧F' 1 = .ptr eb 0 0∧F' 3 = .own hb.length 0 p.vars.length∧F' 14 = .sl p.gm 1 (p.groups.map SX)∧F' 15 = .int .i64 (p.groups.length:Nat)∧F' 16 = .int .i64 (i:Nat)∧F' 23 = .sl p.groups[i].m 1 (p.groups[i].l.map qencI)∧F' 24 = .int .i64 (p.groups[i].l.length:Nat)∧F' 25 = .int .i64 (j:Nat)∧H'=hb ++ [ABlk.live 1 (bR (flG (p.groups.take i) ++ p.groups[i].l.take j) p.vars.length)]∧(∀ x∈flG (p.groups.take i) ++ p.groups[i].l.take j,NC p.vars x=true)∧∀ x:Int,(flG (p.groups.take i) ++ p.groups[i].l.take j).count x≤1) p.groups[i].l.length
     ⟨0,by simp,by simp -implicitDefEqProofs only [AA,↓reduceIte,jA,f1],by simp -implicitDefEqProofs only [AA,↓reduceIte,jA,f3],by simp -implicitDefEqProofs only [AA,↓reduceIte,jA,f14],by simp -implicitDefEqProofs only [AA,↓reduceIte,jA,f15],by simp -implicitDefEqProofs only [AA,↓reduceIte,jA,f16],by simp -implicitDefEqProofs only [AA,↓reduceIte,jA],by simp -implicitDefEqProofs only [AA,↓reduceIte,jA],by simp -implicitDefEqProofs only [AA,↓reduceIte]; rfl,by rw [zC,jE],by rw [zC,jE]; exact hin,by rw [zC,jE]; exact hct⟩ ?_
    clear f1 f3 f14 f15 f16
    rintro n' F H ⟨j,hj,f1,f3,f14,f15,f16,f23,f24,f25,rfl,hin2,hct2⟩
    simp -implicitDefEqProofs only [BB,A8,BI,A7,AZ,BA,AO,AQ,AL,BD,AY,AC,AA,AX,BU,AB,DV,↓reduceIte,jB,jC,enP,f24,f25]
    refine CQ (fun hc => ?_) (fun hc => ?_)
    ·have hj':j < p.groups[i].l.length:=by simpa using hc
     have hsp:=AEJ hi' hj'
     have hmem:p.groups[i].l[j]∈flG p.groups:=by rw [hsp]; simp
     have l3 : ∀ H:Hp,DR Tryz.prog H 3 (.fptr 1 (p.groups[i].l.map qencI) j 0)=some (.int .i64 p.groups[i].l[j]):=fun H=>by rw [IC ag3 hj']; rfl
     simp -implicitDefEqProofs only [BB,CE,A8,BR,A7,AZ,BA,AO,AQ,AL,BD,AY,AC,AA,AX,BN,BJ,BC,BO,CG,BV,BP,AB,jF,jD,jE,↓reduceIte,jA,jB,jC,enP,WV,f23,f25,EX hj',l3,f1,lp]
     refine (VM G p _ hl _).use ?_
     cases b1:NC p.vars p.groups[i].l[j]
     ·simp -implicitDefEqProofs only [BB,A8,BK,BI,A7,CJ,D8,L6,F9,DI,AZ,BA,BL,BX,CO,F7,AO,AQ,AL,BD,AY,AC,AA,EQ,AX,AU,BH,BM,BJ,BC,CP,DW,JG,AB,GG,↓reduceIte,jA,jB,jC]
      exact ⟨nb (AU0 hmem b1),hxA _⟩
     obtain ⟨k,hkl,hk,hm⟩:=O4 b1
     have hb0:=DF hb (ABlk.live 1 (bR (flG (p.groups.take i) ++ p.groups[i].l.take j) p.vars.length))
     have lc:DR Tryz.prog (hb ++ [ABlk.live 1 (bR (flG (p.groups.take i) ++ p.groups[i].l.take j) p.vars.length)]) 4 (.ptr hb.length k 0)=some (.bool (decide (((k:Nat):Int)∈flG (p.groups.take i) ++ p.groups[i].l.take j))):=by
      rw [DJ ag4 hb0 (XX _ hkl)]; rfl
     have hst:=A2E hb0 (j:=k) ⟨_,XX _ hkl⟩ true
     rw [AYQ _ hkl,MB] at hst
     have hap:(flG (p.groups.take i) ++ p.groups[i].l.take j) ++ [((k:Nat):Int)]=flG (p.groups.take i) ++ p.groups[i].l.take (j+1):=by
      rw [zY hj',hk,qA]
     have hjb:j≤1048576:=by
      have h2:p.groups[i].l.length≤(flG p.groups).length:=by
       rw [hsp]; simp only [qB,qF,qG,List.length_drop]; omega
      omega
     simp -implicitDefEqProofs only [BI,A7,AZ,BA,BL,BX,CO,EY,AO,AQ,AL,BD,AY,AC,AA,AX,AU,BM,BJ,CP,DZ,BO,JG,CG,AB,GG,↓reduceIte,jA,jG,jB,jW,jC,enP,AQW,f3,hk,JK hb0 hkl,lc]
     refine CQ (fun b2 => ?_) (fun b2 => ?_)
     ·simp -implicitDefEqProofs only [BB,A8,BK,A7,CJ,D8,L6,F9,AZ,BA,AO,AQ,AL,BD,AY,AC,AA,AU,BH,BC,↓reduceIte,jB,jC]
      refine ⟨nb (YQ hkl ?_),hxA _⟩
      have h1:0 < (flG (p.groups.take i) ++ p.groups[i].l.take j).count ((k:Nat):Int):=List.count_pos_iff.2 (by simpa using b2)
      rw [if_neg hm,hsp,List.count_append,hk,List.count_cons_self]; omega
     ·have hnin : ¬ ((k:Nat):Int)∈flG (p.groups.take i) ++ p.groups[i].l.take j:=by simpa using b2
      simp -implicitDefEqProofs only [A8,BR,A7,EO,FO,AZ,BA,AO,AQ,AL,BD,AY,AC,DU,AA,AX,AU,BH,BM,BJ,CU,BU,CG,AB,BZ,D6,↓reduceIte,jA,jG,jB,jC,enP,AQW,jK,f3,JK hb0 hkl,hst,f25,wrap_succ (show j < 9223372036854775807 by omega)]
      refine ⟨n' - 1,by omega,j+1,by omega,by trivial,by trivial,by trivial,by trivial,by trivial,by trivial,by trivial,rfl,by rw [← hap],fun x hx => ?_,fun x => ?_⟩
      ·rw [← hap] at hx
       rcases zX.1 hx with hx | hx
       ·exact hin2 x hx
       ·rw [List.mem_singleton] at hx
        rw [hx,← hk]; exact b1
      ·rw [← hap,List.count_append]
       have h1:=hct2 x
       by_cases hxk:((k:Nat):Int)=x
       ·subst hxk
        rw [List.count_eq_zero.2 hnin]; simp
       ·rw [List.count_append] at h1
        simp [hxk]; exact h1
    ·have hj' : ¬ j < p.groups[i].l.length:=by simpa using hc
     have e:p.groups[i].l.take j=p.groups[i].l:=jY (by omega)
     rw [e] at hin2 hct2
     simp -implicitDefEqProofs only [EF,FC,MG,F8,AA,↓reduceIte,jA]
     exact ⟨f1,f3,f14,f15,f16,by rw [e],hin2,hct2⟩
   ·rintro F' H' ⟨g1,g3,g14,g15,g16,rfl,hin2,hct2⟩
    simp -implicitDefEqProofs only [A8,A7,EO,F6,FO,AZ,BA,AO,AQ,AL,BD,AY,AC,AA,AX,AU,BH,BJ,BU,AB,D6,↓reduceIte,jA,jB,jC,enP,g16,wrap_succ (show i < 9223372036854775807 by omega)]
    have hft:=AIC hi'
    refine ⟨n - 1,by omega,i+1,by omega,by first | exact g1 | trivial,by first | exact g3 | trivial,by first | exact g14 | trivial,by first | exact g15 | trivial,rfl,by rw [hft],fun g hg => ?_,by rw [hft]; exact hin2,by rw [hft]; exact hct2⟩
    rw [zY hi'] at hg
    rcases zX.1 hg with hg | hg
    ·exact hne g hg
    ·rw [List.mem_singleton] at hg; rw [hg]; exact hnz
   ·rintro F' H' ⟨g2,hx⟩
    simp -implicitDefEqProofs only [CJ,D8,L6,F9,g2]
    exact ⟨trivial,hx⟩
  ·have hi' : ¬ i < p.groups.length:=by simpa using hc
   rw [jY (by omega)] at hne hin hct
   simp -implicitDefEqProofs only [EF,FC,MG,F8,AA,↓reduceIte,jA]
   exact ⟨f1,f3,by rw [jY (by omega)],hne,hin,hct⟩
 ·rintro F H ⟨f1,f3,rfl,hne,hin,hct⟩
  have hb0:=DF hb (ABlk.live 1 (bR (flG p.groups) p.vars.length))
  have l0':=l0A (ABlk.live 1 (bR (flG p.groups) p.vars.length))
  have lp':=lp (ABlk.live 1 (bR (flG p.groups) p.vars.length))
  have hx0:=hxA (ABlk.live 1 (bR (flG p.groups) p.vars.length))
  generalize hb ++ [ABlk.live 1 (bR (flG p.groups) p.vars.length)]=H0 at hb0 hx0 l0' lp' ⊢
  simp -implicitDefEqProofs only [BB,CE,A8,A7,F6,AZ,BA,AO,AQ,AL,BD,AY,AC,AA,AX,AU,BH,BJ,BO,BG,FP,AB,↓reduceIte,jH,jB,jC,enP,RH,LU,f1,l0',jR]
  refine EG (fun n F H => ∃ i,n+i=p.vars.length∧(∀ (j:Nat),j < i→j < p.vars.length→NC p.vars (j:Nat)=true→((j:Nat):Int)∈flG p.groups)∧F 1 = .ptr eb 0 0∧F 3 = .own hb.length 0 p.vars.length∧F 46 = .int .i64 (p.vars.length:Nat)∧F 47 = .int .i64 (i:Nat)∧H=H0) p.vars.length ⟨0,by simp,fun j hj=>absurd hj (by omega),by simp -implicitDefEqProofs only [AA,↓reduceIte,jA,f1],by simp -implicitDefEqProofs only [AA,↓reduceIte,jA,f3],by simp -implicitDefEqProofs only [AA,↓reduceIte,jA],by simp -implicitDefEqProofs only [AA,↓reduceIte]; rfl,rfl⟩ ?_
  clear f1 f3
  rintro n F H ⟨i,hi,hbb,f1,f3,f46,f47,rfl⟩
  simp -implicitDefEqProofs only [BB,A8,BI,A7,AZ,BA,AO,AQ,AL,BD,AY,AC,AA,AX,BU,AB,DV,↓reduceIte,jB,jC,enP,f46,f47]
  refine CQ (fun hc => ?_) (fun hc => ?_)
  ·have hi':i < p.vars.length:=by simpa using hc
   have lc:DR Tryz.prog H 4 (.ptr hb.length i 0)=some (.bool (decide (((i:Nat):Int)∈flG p.groups))):=by
    rw [DJ ag4 hb0 (XX _ hi')]; rfl
   simp -implicitDefEqProofs only [BB,CE,A8,BR,A7,AZ,BA,AO,AQ,AL,BD,AY,AC,AA,AX,BN,BJ,BC,BO,BV,BP,AB,jF,jD,jE,↓reduceIte,jA,jB,jC,enP,f1,f47,lp']
   refine (VM G p _ hl _).use ?_
   have nxt:(NC p.vars (i:Nat)=true→((i:Nat):Int)∈flG p.groups)→∀ (j:Nat),j < i+1→j < p.vars.length→NC p.vars (j:Nat)=true→((j:Nat):Int)∈flG p.groups:=fun he j hj hl hr=>by
    rcases jV j i with h1 | h1
    ·exact hbb j h1 hl hr
    ·obtain rfl:j=i:=by omega
     exact he hr
   cases b1:NC p.vars ((i:Nat):Int)
   ·have he:=nxt (fun q=>by rw [b1] at q; cases q)
    simp -implicitDefEqProofs only [A8,BR,BI,A7,EO,FO,DN,AZ,BA,BL,BX,CO,IP,AO,AQ,AL,BD,AY,AC,AA,EQ,AX,AU,BH,BM,BJ,CP,DZ,BU,AB,D6,↓reduceIte,jA,jB,jC,enP,f47,wrap_succ (show i < 9223372036854775807 by omega)]
    exact ⟨n - 1,by omega,i+1,by omega,he,by trivial,by trivial,by trivial,rfl,trivial⟩
   simp -implicitDefEqProofs only [BI,A7,AZ,BA,BL,BX,CO,GL,AO,AQ,AL,BD,AY,AC,AA,AX,AU,BM,BJ,CP,DW,BO,JG,CG,AB,GG,↓reduceIte,jA,jG,jB,jC,enP,AQW,f3,f47,JK hb0 hi',lc]
   refine CQ (fun b2 => ?_) (fun b2 => ?_)
   ·simp -implicitDefEqProofs only [BB,A8,BK,A7,CJ,D8,F9,CV,AZ,BA,AO,AQ,AL,BD,AY,AC,AA,AU,BH,BC,↓reduceIte,jB,jC]
    refine ⟨nb (YQ hi' ?_),hx0⟩
    have h1 : ¬ ((i:Nat):Int)∈flG p.groups:=by simpa using b2
    have h2 : ¬ p.vars[i].mode=0:=by rw [WG hi'] at b1; simpa using b1
    rw [if_neg h2,List.count_eq_zero.2 h1]; decide
   ·have he:=nxt (fun _=>by simpa using b2)
    simp -implicitDefEqProofs only [A8,BR,A7,EO,FO,AZ,BA,AO,AQ,AL,BD,AY,AC,AA,AX,AU,BH,BJ,BU,AB,D6,↓reduceIte,jA,jB,jC,enP,f47,wrap_succ (show i < 9223372036854775807 by omega)]
    exact ⟨n - 1,by omega,i+1,by omega,he,by trivial,by trivial,by trivial,rfl,trivial⟩
  ·have hi' : ¬ i < p.vars.length:=by simpa using hc
   simp -implicitDefEqProofs only [BB,A8,BK,EF,A7,FC,F6,F8,CV,AZ,BA,AO,AQ,AL,BD,AY,AC,AA,AU,BH,BC,↓reduceIte,jB,jC]
   refine ⟨?_,hx0⟩
   have:gOK p.vars p.groups=true:=decide_eq_true ⟨hne,fun x hx=>by
    obtain ⟨k,hk,rfl,_⟩:=O4 (hin x hx)
    omega,fun j=>by
    by_cases hr:NC p.vars ((j.1:Nat):Int)=true
    ·have h1:=List.count_pos_iff.2 (hbb j.1 (by omega) j.2 hr)
     have h2:=hct ((j.1:Nat):Int)
     rw [WG j.2] at hr
     rw [if_neg (by simpa using hr)]; omega
    ·have h1 : ¬ ((j.1:Nat):Int)∈flG p.groups:=fun hm=>hr (hin _ hm)
     rw [WG j.2] at hr
     rw [if_pos (by simpa using hr)]
     exact List.count_eq_zero.2 h1⟩
   rw [this]; rfl
 ·rintro F H ⟨f2,hx⟩
  simp -implicitDefEqProofs only [CJ,D8,CV,f2]
  exact ⟨trivial,hx⟩
end
structure PrS (p:Pr):Prop where
 vars:p.vars.length≤1048576
 names : ∀ v∈p.vars,v.name.size≤1048576
 exprs:p.hard.length+p.soft.length≤1048576
 wts : ∀ e∈p.hard ++ p.soft,wt e≤1048576
 dists:p.dists.length≤1048576
 ws : ∀ d∈p.dists,d.ws.length≤1048576
 groups:p.groups.length≤1048576
 members:(flG p.groups).length≤1048576
def KP (p:Pr):Int:=if KU p.vars≠0 then KU p.vars else if KN p.vars (p.hard ++ p.soft)≠0 then KN p.vars (p.hard ++ p.soft) else if NW p.vars p.dists≠0 then NW p.vars p.dists else if gOK p.vars p.groups=true then 0 else 1
section
variable (G:Nat→AV)
theorem AIV (fs:List (FuncId × List AV × Int)) (b:Nat) (hn:fs.length≤1048576) (h:Hp) (hb:h[b]? = some (.live 1 (fs.map fun x => [.fn (.func x.1) [] x.2.1]))) (hf : ∀ x∈fs,PCall (En G) x.1 ([] ++ x.2.1) h (.int .i64 x.2.2)):PCall (En G) 55 [.own b 0 fs.length] h (.int .i64 (PH (fun x=>x.2.2) fs)):=by
 refine ACalls.pure0 rfl ?_
 refine acN Tryz.func55 rfl ?_
 show awp _ _ _ _ _ (EN _ [.tmp 2] _)
 simp -implicitDefEqProofs only [BB,CE,A8,A7,AZ,BA,AO,AQ,AL,BD,AY,AC,AA,AX,AU,BH,BJ,BC,FP,AB,BF,↓reduceIte,jA,jB,jC,enP,AZ8]
 refine IY 0 (fun F H=>H=h∧∀ x∈fs,x.2.2=0) (fun F H=>F 2 = .int .i64 (PH (fun x=>x.2.2) fs)∧ext h H) ?_ ?_ ?_
 ·refine EG (fun n F H => ∃ i,n+i=fs.length∧F 6 = .own b 0 fs.length∧F 7 = .int .i64 (fs.length:Nat)∧F 8 = .int .i64 (i:Nat)∧H=h∧∀ (j:Nat) (hj:j < i) (hl:j < fs.length),fs[j].2.2=0) fs.length ⟨0,by simp,by simp -implicitDefEqProofs only [AA,↓reduceIte,jA],by simp -implicitDefEqProofs only [AA,↓reduceIte,jA],by simp -implicitDefEqProofs only [AA,↓reduceIte]; rfl,rfl,by intro j hj; omega⟩ ?_
  rintro n F H ⟨i,hi,f6,f7,f8,rfl,hz⟩
  simp -implicitDefEqProofs only [BB,A8,BI,A7,AZ,BA,AO,AQ,AL,BD,AY,AC,AA,AX,BU,AB,DV,↓reduceIte,jB,jC,enP,f7,f8]
  refine CQ (fun hc => ?_) (fun hc => ?_)
  ·have hi':i < fs.length:=by simpa using hc
   have lf:DR Tryz.prog H 95 (.ptr b i 0)=some (.fn (.func fs[i].1) [] fs[i].2.1):=by
    rw [DJ (row := [.fn (.func fs[i].1) [] fs[i].2.1]) A3P hb (by rw [List.getElem?_map,jU hi']; rfl)]; rfl
   simp -implicitDefEqProofs only [BB,CE,A8,BR,A7,AZ,BA,AO,AQ,AL,BD,AY,AC,AA,AX,BJ,BC,BO,CG,BV,BP,AB,jD,zJ,↓reduceIte,jA,jG,jB,jC,enP,A0E,f6,f8,JK hb hi',lf]
   refine (hf _ (jT hi')).use ?_
   simp -implicitDefEqProofs only [BB,A8,BI,A7,AZ,BA,AO,AQ,AL,BD,AY,AC,AA,AX,AU,BH,BJ,BC,BU,AB,FT,↓reduceIte,jB,jC,enP]
   refine CQ (fun hz' => ?_) (fun hz' => ?_)
   ·simp -implicitDefEqProofs only [BB,A8,BK,A7,CJ,D8,L6,F9,AZ,BA,AO,AQ,AL,BD,AY,AC,AA,AX,BJ,BC,↓reduceIte,jA,jB,jC]
    exact ⟨by rw [RP (fun x:FuncId × List AV × Int=>x.2.2) fs i hi' (fun j hj=>hz j hj (by omega)) (by simpa using hz')],ext.rfl' _⟩
   ·simp -implicitDefEqProofs only [A8,BR,A7,EO,FO,AZ,BA,AO,AQ,AL,BD,AY,AC,AA,AX,AU,BH,BJ,BU,AB,D6,↓reduceIte,jA,jB,jC,enP,f8,wrap_succ (show i < 9223372036854775807 by omega)]
    refine ⟨n - 1,by omega,i+1,by omega,by trivial,by trivial,rfl,trivial,fun j hj hl => ?_⟩
    rcases jV j i with h1 | h1
    ·exact hz j h1 hl
    ·obtain rfl:j=i:=by omega
     simpa using hz'
  ·have hi' : ¬ i < fs.length:=by simpa using hc
   simp -implicitDefEqProofs only [EF,FC,MG,F8,↓reduceIte]
   refine ⟨trivial,fun x hx => ?_⟩
   obtain ⟨j,hj,rfl⟩:=qJ hx
   exact hz j (by omega) hj
 ·rintro F H ⟨rfl,hz⟩
  simp -implicitDefEqProofs only [BB,A8,BK,A7,F6,CV,AZ,BA,AO,AQ,AL,BD,AY,AC,AA,AU,BH,BC,↓reduceIte,jB,jC]
  exact ⟨by rw [PG _ fs fun j hj=>hz _ (jT hj)],ext.rfl' _⟩
 ·rintro F H ⟨f2,hx⟩
  simp -implicitDefEqProofs only [CJ,D8,CV,f2]
  exact ⟨trivial,hx⟩
theorem AVF (hG:GOk G) (p:Pr) (hs:PrS p) (b:Nat) (h:Hp) (hb:h[b]? = some (.live 5 [DY p])):PCall (En G) 56 ([] ++ [.ptr b 0 0]) h (.int .i64 (KU p.vars)):=by
 refine acN Tryz.func56 rfl ?_
 show awp _ _ _ _ _ (EN _ [.tmp 1] _)
 have l0:DR Tryz.prog h 22 (.ptr b 0 0)=some (.sl p.vm 4 (p.vars.map GH)):=by rw [DJ VI hb (row:=DY p) rfl]; rfl
 simp -implicitDefEqProofs only [BB,A8,A7,AZ,BA,AO,AQ,AL,BD,AY,AC,AA,AX,AU,BN,BH,BC,BO,BG,BV,BP,AB,BF,jF,jD,jE,zJ,↓reduceIte,jA,jH,jB,jC,enX,enP,LU,l0]
 refine (ANE G hG p.vars p.vm h hs.vars hs.names).use ?_
 simp -implicitDefEqProofs only [BK,A7,CV,AZ,BA,AO,AQ,AL,BD,AY,AC,AA,AX,BC,↓reduceIte,jB,jC]
 exact ⟨trivial,trivial⟩
theorem AVE (hG:GOk G) (p:Pr) (hs:PrS p) (b:Nat) (h:Hp) (hb:h[b]? = some (.live 5 [DY p])):PCall (En G) 58 ([] ++ [.ptr b 0 0]) h (.int .i64 (KN p.vars (p.hard ++ p.soft))):=by
 refine acN Tryz.func58 rfl ?_
 show awp _ _ _ _ _ (EN _ [.tmp 1] _)
 have lp:DR Tryz.prog h 27 (.ptr b 0 0)=some (.agg (DY p)):=by rw [H7 VH UG hb (row:=DY p) rfl (by rw [GZ]; exact jQ 5)]; rfl
 simp -implicitDefEqProofs only [BB,A8,A7,AZ,BA,AO,AQ,AL,BD,AY,AC,AA,AX,AU,BN,BH,BC,BO,BV,BP,AB,BF,jF,jD,jE,zJ,↓reduceIte,jA,jB,jC,enX,enP,lp]
 refine (AKO G hG p hs.vars hs.exprs hs.wts h).use ?_
 simp -implicitDefEqProofs only [BK,A7,CV,AZ,BA,AO,AQ,AL,BD,AY,AC,AA,AX,BC,↓reduceIte,jB,jC]
 exact ⟨trivial,trivial⟩
theorem AVD (p:Pr) (hs:PrS p) (b:Nat) (h:Hp) (hb:h[b]? = some (.live 5 [DY p])):PCall (En G) 60 ([] ++ [.ptr b 0 0]) h (.int .i64 (NW p.vars p.dists)):=by
 refine acN Tryz.func60 rfl ?_
 show awp _ _ _ _ _ (EN _ [.tmp 1] _)
 have lp:DR Tryz.prog h 27 (.ptr b 0 0)=some (.agg (DY p)):=by rw [H7 VH UG hb (row:=DY p) rfl (by rw [GZ]; exact jQ 5)]; rfl
 simp -implicitDefEqProofs only [BB,A8,A7,AZ,BA,AO,AQ,AL,BD,AY,AC,AA,AX,AU,BN,BH,BC,BO,BV,BP,AB,BF,jF,jD,jE,zJ,↓reduceIte,jA,jB,jC,enX,enP,lp]
 refine (AKV G p hs.vars hs.dists hs.ws h).use ?_
 simp -implicitDefEqProofs only [BK,A7,CV,AZ,BA,AO,AQ,AL,BD,AY,AC,AA,AX,BC,↓reduceIte,jB,jC]
 exact ⟨trivial,trivial⟩
theorem AVC (p:Pr) (hs:PrS p) (b:Nat) (h:Hp) (hb:h[b]? = some (.live 5 [DY p])):PCall (En G) 62 ([] ++ [.ptr b 0 0]) h (.int .i64 (if gOK p.vars p.groups=true then 0 else 1)):=by
 refine acN Tryz.func62 rfl ?_
 show awp _ _ _ _ _ (EN _ [.tmp 1] _)
 have lp:DR Tryz.prog h 27 (.ptr b 0 0)=some (.agg (DY p)):=by rw [H7 VH UG hb (row:=DY p) rfl (by rw [GZ]; exact jQ 5)]; rfl
 simp -implicitDefEqProofs only [BB,A8,A7,AZ,BA,AO,AQ,AL,BD,AY,AC,AA,AX,AU,BN,BH,BC,BO,BV,BP,AB,BF,jF,jD,jE,zJ,↓reduceIte,jA,jB,jC,enX,enP,lp]
 refine (AH6 G p hs.vars hs.groups hs.members h).use ?_
 simp -implicitDefEqProofs only [BK,A7,CV,AZ,BA,AO,AQ,AL,BD,AY,AC,AA,AX,BC,↓reduceIte,jB,jC]
 exact ⟨trivial,trivial⟩
theorem A02 (h:Hp) (a b c d:Fn) (k l m n:List AV):GN Tryz.prog true h 126 4 [(0,.fn a [] k),(1,.fn b [] l),(2,.fn c [] m),(3,.fn d [] n)]=some (.own h.length 0 4,h ++ [ABlk.live 1 [[.fn a [] k],[.fn b [] l],[.fn c [] m],[.fn d [] n]]]):=by kernel_rfl
theorem UF (hG:GOk G) (p:Pr) (hs:PrS p) (h:Hp):PCall (En G) 29 [.agg (DY p)] h (.int .i64 (KP p)):=by
 refine ACalls.pure0 rfl ?_
 refine IM (H:=hint [7] []) (enM G) Tryz.func29 rfl (by kernel_rfl) (by kernel_rfl) (jJ (by kernel_rfl)) ?_
 show awp _ _ _ _ _ (EN _ [.tmp 2] _)
 have ge:=DF h (ABlk.live 5 [DY p])
 have hxx:ext h (h ++ [ABlk.live 5 [DY p]]):=(ext.rfl' h).app _
 simp -implicitDefEqProofs only [ER,EP,D5,jO,jP,jI,jM,BB,A8,A7,AZ,BA,AL,BD,AY,AC,AA,AX,AU,BN,BH,BC,FQ,GR,JQ,BV,BP,CB,BF,jF,jD,jE,↓reduceIte,jA,jB,jC,enP,ED,QP,A02]
 generalize h ++ [ABlk.live 5 [DY p]]=hb at ge hxx ⊢
 generalize h.length=eb at ge ⊢
 have hx2:=hxx.app [ABlk.live 1 [[AV.fn (.func 56) [] [.ptr eb 0 0]],[.fn (.func 58) [] [.ptr eb 0 0]],[.fn (.func 60) [] [.ptr eb 0 0]],[.fn (.func 62) [] [.ptr eb 0 0]]]]
 have ge2:=DC (x:=ABlk.live 1 [[AV.fn (.func 56) [] [.ptr eb 0 0]],[.fn (.func 58) [] [.ptr eb 0 0]],[.fn (.func 60) [] [.ptr eb 0 0]],[.fn (.func 62) [] [.ptr eb 0 0]]]) ge
 refine (AIV G [(56,[.ptr eb 0 0],KU p.vars),(58,[.ptr eb 0 0],KN p.vars (p.hard ++ p.soft)),(60,[.ptr eb 0 0],NW p.vars p.dists),(62,[.ptr eb 0 0],if gOK p.vars p.groups=true then 0 else 1)] hb.length (by simp) _ (DF _ _) ?_).use ?_
 ·intro x hx
  simp only [List.mem_cons,List.not_mem_nil,or_false] at hx
  rcases hx with rfl | rfl | rfl | rfl
  ·exact AVF G hG p hs eb _ ge2
  ·exact AVE G hG p hs eb _ ge2
  ·exact AVD G p hs eb _ ge2
  ·exact AVC G p hs eb _ ge2
 ·simp -implicitDefEqProofs only [D5,jO,jP,jI,jM,BK,A7,CV,AZ,BA,AL,BD,AY,AC,AA,AX,BC,jF,jD,↓reduceIte,jB,jC,ED]
  refine ⟨?_,hx2⟩
  simp only [PH,KP]
  by_cases h1:KU p.vars≠0
  ·rw [if_pos h1,if_pos h1]
  rw [if_neg h1,if_neg h1]
  by_cases h2:KN p.vars (p.hard ++ p.soft)≠0
  ·rw [if_pos h2,if_pos h2]
  rw [if_neg h2,if_neg h2]
  by_cases h3:NW p.vars p.dists≠0
  ·rw [if_pos h3,if_pos h3]
  rw [if_neg h3,if_neg h3]
  cases gOK p.vars p.groups <;> rfl
theorem ZF (p:Pr) (hs:PrS p) (h:Hp):PCall (En G) 16 [.agg (DY p)] h (.int .i64 (KP p)):=by
 refine ACalls.pure0 rfl ?_
 refine acN Tryz.func16 rfl ?_
 show awp _ _ _ _ _ (EN _ [.tmp 2] _)
 have ge:=DF h (ABlk.live 5 [DY p])
 have hxx:ext h (h ++ [ABlk.live 5 [DY p]]):=(ext.rfl' h).app _
 simp -implicitDefEqProofs only [BB,A8,A7,AZ,BA,AO,AQ,AL,BD,AY,AC,AA,AX,AU,BH,BC,FQ,BO,BG,CB,AB,BF,↓reduceIte,jA,jH,jB,jC,enP,LU,QP]
 generalize h ++ [ABlk.live 5 [DY p]]=hb at ge hxx ⊢
 generalize h.length=eb at ge ⊢
 have l0:DR Tryz.prog hb 22 (.ptr eb 0 0)=some (.sl p.vm 4 (p.vars.map GH)):=by rw [DJ VI ge (row:=DY p) rfl]; rfl
 have l1:DR Tryz.prog hb 23 (.ptr eb 0 1)=some (.sl p.hm 4 (p.hard.map CW)):=by rw [DJ NM ge (row:=DY p) rfl]; rfl
 have l2:DR Tryz.prog hb 23 (.ptr eb 0 2)=some (.sl p.sm 4 (p.soft.map CW)):=by rw [DJ NM ge (row:=DY p) rfl]; rfl
 have l3:DR Tryz.prog hb 24 (.ptr eb 0 3)=some (.sl p.dm 2 (p.dists.map JE)):=by rw [DJ ASV ge (row:=DY p) rfl]; rfl
 have l4:DR Tryz.prog hb 25 (.ptr eb 0 4)=some (.sl p.gm 1 (p.groups.map SX)):=by rw [DJ A1Q ge (row:=DY p) rfl]; rfl
 have hex:=hs.exprs
 have happ:KN p.vars (p.hard ++ p.soft)=if KN p.vars p.hard≠0 then KN p.vars p.hard else KN p.vars p.soft:=AH7 _ _ _
 simp -implicitDefEqProofs only [AZ,AO,AQ,AL,BD,AY,AC,AA,AX,BN,BV,BP,AB,jF,jD,jE,↓reduceIte,jB,jC,l0]
 refine (ADN G p.vars p.vm hb hs.vars hs.names).use ?_
 simp -implicitDefEqProofs only [BB,A8,BI,A7,AZ,BA,AO,AQ,AL,BD,AY,AC,AA,AX,AU,BH,BJ,BC,BU,AB,FT,↓reduceIte,jB,jC,enP]
 refine CQ (fun h1 => ?_) (fun h1 => ?_)
 ·simp -implicitDefEqProofs only [BB,A8,BK,A7,CJ,CV,AZ,BA,AO,AQ,AL,BD,AY,AC,AA,AX,BJ,BC,↓reduceIte,jA,jB,jC]
  have h1:KU p.vars≠0:=by simpa using h1
  exact ⟨by unfold KP; rw [if_pos h1],hxx⟩
 have h1 : ¬ KU p.vars≠0:=by simpa using h1
 simp -implicitDefEqProofs only [BB,A8,BR,A7,AZ,AO,AQ,AL,BD,AY,AC,AA,AX,BN,BO,BG,BV,BP,AB,jF,jD,jE,↓reduceIte,jA,jH,jG,jB,jC,enP,LU,V5,l0,l1]
 refine (U8 G p.vars p.vm hs.vars p.hard p.hm (by omega) (fun e he=>hs.wts e (zX.2 (.inl he))) hb).use ?_
 simp -implicitDefEqProofs only [BB,A8,BI,A7,AZ,BA,AO,AQ,AL,BD,AY,AC,AA,AX,AU,BH,BJ,BC,BU,AB,FT,↓reduceIte,jB,jC,enP]
 refine CQ (fun h2 => ?_) (fun h2 => ?_)
 ·simp -implicitDefEqProofs only [BB,A8,BK,A7,CJ,CV,AZ,BA,AO,AQ,AL,BD,AY,AC,AA,AX,BJ,BC,↓reduceIte,jA,jB,jC]
  have h2:KN p.vars p.hard≠0:=by simpa using h2
  rw [if_pos h2] at happ
  exact ⟨by unfold KP; rw [if_neg h1,happ,if_pos h2],hxx⟩
 have h2 : ¬ KN p.vars p.hard≠0:=by simpa using h2
 rw [if_neg h2] at happ
 simp -implicitDefEqProofs only [BB,A8,BR,A7,AZ,AO,AQ,AL,BD,AY,AC,AA,AX,BN,BO,BG,BV,BP,AB,jF,jD,jE,↓reduceIte,jA,jH,jG,jB,jC,enP,LU,ARN,l0,l2]
 refine (U8 G p.vars p.vm hs.vars p.soft p.sm (by omega) (fun e he=>hs.wts e (zX.2 (.inr he))) hb).use ?_
 simp -implicitDefEqProofs only [BB,A8,BI,A7,AZ,BA,AO,AQ,AL,BD,AY,AC,AA,AX,AU,BH,BJ,BC,BU,AB,FT,↓reduceIte,jB,jC,enP]
 refine CQ (fun h3 => ?_) (fun h3 => ?_)
 ·simp -implicitDefEqProofs only [BB,A8,BK,A7,CJ,CV,AZ,BA,AO,AQ,AL,BD,AY,AC,AA,AX,BJ,BC,↓reduceIte,jA,jB,jC]
  have h3:KN p.vars p.soft≠0:=by simpa using h3
  exact ⟨by unfold KP; rw [if_neg h1,happ,if_pos h3],hxx⟩
 have h3 : ¬ KN p.vars p.soft≠0:=by simpa using h3
 simp -implicitDefEqProofs only [BB,A8,BR,A7,AZ,AO,AQ,AL,BD,AY,AC,AA,AX,BN,BO,BG,BV,BP,AB,jF,jD,jE,↓reduceIte,jA,jH,jG,jB,jC,enP,LU,ZR,l0,l3]
 refine (AOO G p.vars p.vm p.dists p.dm hs.vars hs.dists hs.ws hb).use ?_
 simp -implicitDefEqProofs only [BB,A8,BI,A7,AZ,BA,AO,AQ,AL,BD,AY,AC,AA,AX,AU,BH,BJ,BC,BU,AB,FT,↓reduceIte,jB,jC,enP]
 refine CQ (fun h4 => ?_) (fun h4 => ?_)
 ·simp -implicitDefEqProofs only [BB,A8,BK,A7,CJ,CV,AZ,BA,AO,AQ,AL,BD,AY,AC,AA,AX,BJ,BC,↓reduceIte,jA,jB,jC]
  have h4:NW p.vars p.dists≠0:=by simpa using h4
  exact ⟨by unfold KP; rw [if_neg h1,happ,if_neg h3,if_pos h4],hxx⟩
 have h4 : ¬ NW p.vars p.dists≠0:=by simpa using h4
 simp -implicitDefEqProofs only [BB,A8,BR,A7,AZ,AO,AQ,AL,BD,AY,AC,AA,AX,BN,BO,BG,BV,BP,AB,jF,jD,jE,↓reduceIte,jA,jH,jG,jB,jC,enP,LU,ARL,l0,l4]
 refine (AKJ G p.vars p.vm p.groups p.gm hs.vars hs.groups hs.members hb).use ?_
 simp -implicitDefEqProofs only [BI,A7,AZ,BA,AO,AQ,AL,BD,AY,AC,AA,AX,JG,AB,GG,↓reduceIte,jB,jC]
 refine CQ (fun h5 => ?_) (fun h5 => ?_)
 ·simp -implicitDefEqProofs only [BB,A8,BK,A7,CJ,CV,AZ,BA,AO,AQ,AL,BD,AY,AC,AA,AU,BH,BC,↓reduceIte,jB,jC]
  have h5 : ¬ gOK p.vars p.groups=true:=by simpa using h5
  exact ⟨by unfold KP; rw [if_neg h1,happ,if_neg h3,if_neg h4,if_neg h5],hxx⟩
 ·simp -implicitDefEqProofs only [BB,A8,BR,BK,A7,CV,AZ,BA,AO,AQ,AL,BD,AY,AC,AA,AU,BH,BC,↓reduceIte,jB,jC]
  have h5:gOK p.vars p.groups=true:=by simpa using h5
  exact ⟨by unfold KP; rw [if_neg h1,happ,if_neg h3,if_neg h4,if_pos h5],hxx⟩
end
end Go.Proofs.YtokehnfjjmpanaaGreatDoor.Bd
namespace Go.Proofs.YtokehnfjjmpanaaGreatDoor.Cov
open Sm Bins Go.Proofs.YtokehnfjjmpanaaGreatDoor.Bd Go.RowKit
theorem cl3:Tryz.prog.cellsOf 3=1:=by kernel_rfl
theorem cl4:Tryz.prog.cellsOf 4=1:=by kernel_rfl
theorem cl9:Tryz.prog.cellsOf 9=1:=by kernel_rfl
theorem A3D:Tryz.prog.cellsOf 22=1:=by kernel_rfl
theorem AYH:Tryz.prog.cellsOf 23=1:=by kernel_rfl
theorem A3C:Tryz.prog.cellsOf 24=1:=by kernel_rfl
theorem A3B:Tryz.prog.cellsOf 25=1:=by kernel_rfl
theorem A3A:Tryz.prog.cellsOf 27=5:=by kernel_rfl
theorem A29:Tryz.prog.cellsOf 29=1:=by kernel_rfl
theorem A28:Tryz.prog.cellsOf 34=2:=by kernel_rfl
theorem AYG:Tryz.prog.cellsOf 40=4:=by kernel_rfl
theorem A26:Tryz.prog.cellsOf 45=1:=by kernel_rfl
theorem A25:Tryz.prog.cellsOf 50=1:=by kernel_rfl
theorem A24:Tryz.prog.cellsOf 52=2:=by kernel_rfl
theorem A22:Tryz.prog.cellsOf 61=4:=by kernel_rfl
theorem A21:Tryz.prog.cellsOf 89=4:=by kernel_rfl
theorem rdI:Rd Tryz.prog 3 Bins.qencI okI:=AXH Tryz.underlying3
theorem rdStr:Rd Tryz.prog 9 encStr okS:=AXG Tryz.underlying9
theorem UM {α:Type} {ok:α→Nat→Prop} {xs:List α} {b:Nat} (h : ∃ b',b'+1≤b∧okL ok xs b'):okL ok xs b:=by obtain ⟨b',h1,h2⟩:=h; exact h2.mono (by omega)
theorem AFJ {t:TypeId} {f:Field} {fs:List Field} {α:Type} {enc:α→List AV} {ok:α→Nat→Prop} (hu:Tryz.prog.underlying t=some (.struct (f :: fs).toArray)):RdAt Tryz.prog 1 t enc ok:=by
 intro H ench w cs d ps h
 obtain ⟨zs,m,hm,_,_,hl,hz⟩:=DataW.trod_struct hu h
 obtain rfl:m=0:=by omega
 have:=hz 0 _ rfl
 simp only [DataW.trod] at this
 have h0:zs = []:=by cases zs with
  | nil=>rfl
  | cons a l=>simp at this
 subst h0; simp at hl
def okE (e:Ex) (b:Nat):Prop:=wt e≤b
theorem AHR : ∀ {l:List Ex} {b:Nat},okL okE l b→wts l≤b
 | [],b,_=>Nat.zero_le _
 | x :: xs,b,⟨b1,b2,h1,_,h3,h4⟩=>by
   have:=AHR h4
   simp only [wts]; unfold okE at h3; omega
theorem rdE : ∀ n:Nat,RdAt Tryz.prog n 40 CW okE:=by
 intro n
 induction n using Nat.strongRecOn with
 | _ n ih =>
   match n,ih with
   | 0,_=>exact RdAt.zero
   | 1,_=>exact AFJ Tryz.underlying40
   | n+2,ih =>
     have rdA:RdAt Tryz.prog (n+1) 23 (fun x:SM × List Ex => [.sl x.1 4 (x.2.map CW)]) (fun x b => ∃ b',b'+1≤b∧okL okE x.2 b'):=OJ Tryz.underlying23 AYG (by decide) ES (ih n (by omega))
     refine RdAt.map (fun x:Int × Int × ByteArray × (SM × List Ex) × Unit=>Ex.mk x.1 x.2.1 x.2.2.1 x.2.2.2.1.1 x.2.2.2.1.2)
      (O5 Tryz.underlying40 (IK rfl cl3 (fun _=>rfl) (rdI _) (IK rfl cl3 (fun _=>rfl) (rdI _) (IK rfl cl9 (fun _=>rfl) (rdStr _) (IK rfl AYH (fun _=>rfl) rdA UK))))) (fun x=>by rw [NR]; rfl) ?_
     rintro ⟨a,b,c,d,_⟩ N ⟨_,hN,b1,b2,hb,h1,b3,b4,hb2,h2,b5,b6,hb3,h3,b7,b8,hb4,⟨b9,h5,h6⟩,_⟩
     have h7:=AHR h6
     unfold okS at h3
     show wt _≤_
     rw [PX]
     simp only [Ex.name,Ex.args]
     simp only at h3 h7
     omega
theorem rdR:Rd Tryz.prog 34 encR (fun _ _=>True):=by
 intro n
 cases n with
 | zero=>exact RdAt.zero
 | succ n=>exact RdAt.map (fun x:Int × Int × Unit=>(⟨x.1,x.2.1⟩:Rng)) (O5 Tryz.underlying34 (IK rfl cl3 (fun _=>rfl) (rdI n) (IK rfl cl3 (fun _=>rfl) (rdI n) UK))) (fun _=>rfl) (fun _ _ _=>trivial)
structure Rl where
 m:SM
 l:List Rng
def A2Q (x:Rl) (b:Nat):Prop:=x.l.length≤b
theorem A2J:Rd Tryz.prog 29 (fun x:Rl => [.sl x.m 2 (x.l.map encR)]) A2Q:=by
 intro n
 cases n with
 | zero=>exact RdAt.zero
 | succ n=>exact RdAt.map (fun x:SM × List Rng=>(⟨x.1,x.2⟩:Rl)) (OJ Tryz.underlying29 A28 (by decide) RU (rdR n)) (fun _=>rfl) (fun x b h=>(UM h).length)
def AT1 (v:Vr) (b:Nat):Prop:=v.name.size≤b
theorem A2I:Rd Tryz.prog 61 GH AT1:=by
 intro n
 cases n with
 | zero=>exact RdAt.zero
 | succ n =>
   refine RdAt.map (fun x:ByteArray × Int × Int × Int × Unit=>(⟨x.1,x.2.1,x.2.2.1,x.2.2.2.1⟩:Vr)) (O5 Tryz.underlying61 (IK rfl cl9 (fun _=>rfl) (rdStr n) (IK rfl cl3 (fun _=>rfl) (rdI n) (IK rfl cl3 (fun _=>rfl) (rdI n) (IK rfl cl3 (fun _=>rfl) (rdI n) UK))))) (fun _=>rfl) ?_
   rintro ⟨a,b,c,d,_⟩ N ⟨_,hN,b1,b2,hb,h1,_⟩
   unfold okS at h1
   show a.size≤N
   simp only at h1
   omega
theorem A2H:Rd Tryz.prog 89 JA (fun _ _=>True):=by
 intro n
 cases n with
 | zero=>exact RdAt.zero
 | succ n=>exact RdAt.map (fun x:Int × Int × Int × Bool × Unit=>(⟨x.1,x.2.1,x.2.2.1,x.2.2.2.1⟩:Wg)) (O5 Tryz.underlying89 (IK rfl cl3 (fun _=>rfl) (rdI n) (IK rfl cl3 (fun _=>rfl) (rdI n) (IK rfl cl3 (fun _=>rfl) (rdI n) (IK rfl cl4 (fun _=>rfl) (ATX Tryz.underlying4 n) UK))))) (fun _=>rfl) (fun _ _ _=>trivial)
def AT2 (d:Ds) (b:Nat):Prop:=d.ws.length≤b
theorem A2M:Rd Tryz.prog 52 JE AT2:=by
 intro n
 match n with
 | 0=>exact RdAt.zero
 | 1=>exact AFJ Tryz.underlying52
 | n+2 =>
   have rdW:RdAt Tryz.prog (n+1) 50 (fun x:SM × List Wg => [.sl x.1 4 (x.2.map JA)]) (fun x b => ∃ b',b'+1≤b∧okL (fun _ _=>True) x.2 b'):=OJ Tryz.underlying50 A21 (by decide) TV (A2H n)
   refine RdAt.map (fun x:Int × (SM × List Wg) × Unit=>(⟨x.1,x.2.1.1,x.2.1.2⟩:Ds)) (O5 Tryz.underlying52 (IK rfl cl3 (fun _=>rfl) (rdI _) (IK rfl A25 (fun _=>rfl) rdW UK))) (fun _=>rfl) ?_
   rintro ⟨a,b,_⟩ N ⟨_,hN,b1,b2,hb,h1,b3,b4,hb2,h2,_⟩
   have:=(UM h2).length
   show b.2.length≤N
   simp only at this
   omega
def AQA (g:Gp) (b:Nat):Prop:=g.l.length≤b
theorem A2L:Rd Tryz.prog 45 SX AQA:=by
 intro n
 cases n with
 | zero=>exact RdAt.zero
 | succ n=>exact RdAt.map (fun x:SM × List Int=>(⟨x.1,x.2⟩:Gp)) (OJ Tryz.underlying45 cl3 (by decide) (fun _=>rfl) (rdI n)) (fun _=>rfl) (fun x b h=>(UM h).length)
theorem AEC : ∀ {l:List Gp} {b:Nat},okL AQA l b→(flG l).length≤b
 | [],b,_=>Nat.zero_le _
 | x :: xs,b,⟨b1,b2,h1,_,h3,h4⟩=>by
   have:=AEC h4
   unfold AQA at h3
   show ((x :: xs).flatMap Gp.l).length≤b
   rw [List.flatMap_cons,List.length_append]
   unfold flG at this
   omega
def AXN (p:Pr) (b:Nat):Prop := ∃ b1 b2 b3 b4 b5,b1+b2+b3+b4+b5≤b∧okL AT1 p.vars b1∧okL okE p.hard b2∧okL okE p.soft b3∧okL AT2 p.dists b4∧okL AQA p.groups b5
theorem A2K:Rd Tryz.prog 27 DY AXN:=by
 intro n
 match n with
 | 0=>exact RdAt.zero
 | 1=>exact AFJ Tryz.underlying27
 | n+2 =>
   have r1:RdAt Tryz.prog (n+1) 22 (fun x:SM × List Vr => [.sl x.1 4 (x.2.map GH)]) (fun x b => ∃ b',b'+1≤b∧okL AT1 x.2 b'):=OJ Tryz.underlying22 A22 (by decide) ACU (A2I n)
   have r2:RdAt Tryz.prog (n+1) 23 (fun x:SM × List Ex => [.sl x.1 4 (x.2.map CW)]) (fun x b => ∃ b',b'+1≤b∧okL okE x.2 b'):=OJ Tryz.underlying23 AYG (by decide) ES (rdE n)
   have r4:RdAt Tryz.prog (n+1) 24 (fun x:SM × List Ds => [.sl x.1 2 (x.2.map JE)]) (fun x b => ∃ b',b'+1≤b∧okL AT2 x.2 b'):=OJ Tryz.underlying24 A24 (by decide) V6 (A2M n)
   have r5:RdAt Tryz.prog (n+1) 25 (fun x:SM × List Gp => [.sl x.1 1 (x.2.map SX)]) (fun x b => ∃ b',b'+1≤b∧okL AQA x.2 b'):=OJ Tryz.underlying25 A26 (by decide) (fun _=>rfl) (A2L n)
   refine RdAt.map (fun x:(SM × List Vr) × (SM × List Ex) × (SM × List Ex) × (SM × List Ds) × (SM × List Gp) × Unit=>(⟨x.1.1,x.1.2,x.2.1.1,x.2.1.2,x.2.2.1.1,x.2.2.1.2,x.2.2.2.1.1,x.2.2.2.1.2,x.2.2.2.2.1.1,x.2.2.2.2.1.2⟩:Pr))
    (O5 Tryz.underlying27 (IK rfl A3D (fun _=>rfl) r1 (IK rfl AYH (fun _=>rfl) r2 (IK rfl AYH (fun _=>rfl) r2 (IK rfl A3C (fun _=>rfl) r4 (IK rfl A3B (fun _=>rfl) r5 UK)))))) (fun _=>rfl) ?_
   rintro ⟨a,b,c,d,e,_⟩ N ⟨_,hN,b1,b2,hb,h1,b3,b4,hb2,h2,b5,b6,hb3,h3,b7,b8,hb4,h4,b9,b10,hb5,h5,_⟩
   exact ⟨b1,b3,b5,b7,b9,by omega,UM h1,UM h2,UM h3,UM h4,UM h5⟩
theorem AXK {p:Pr} {b:Nat} (h:AXN p b) (hb:b≤1048576):PrS p:=by
 obtain ⟨b1,b2,b3,b4,b5,h0,h1,h2,h3,h4,h5⟩:=h
 have l1:=h1.length
 have l2:=h2.length
 have l3:=h3.length
 have l4:=h4.length
 have l5:=h5.length
 have l6:=AEC h5
 refine ⟨by omega,fun v hv => ?_,by omega,fun e he => ?_,by omega,fun d hd => ?_,by omega,by omega⟩
 ·obtain ⟨b6,h6,h7⟩:=h1.each v hv
  unfold AT1 at h7; omega
 ·rcases List.mem_append.1 he with he | he
  ·obtain ⟨b6,h6,h7⟩:=h2.each e he
   unfold okE at h7; omega
  ·obtain ⟨b6,h6,h7⟩:=h3.each e he
   unfold okE at h7; omega
 ·obtain ⟨b6,h6,h7⟩:=h4.each d hd
  unfold AT2 at h7; omega
end Go.Proofs.YtokehnfjjmpanaaGreatDoor.Cov
namespace Go.Proofs.YtokehnfjjmpanaaGreatDoor.Cov
open Sm Bins Go.RowKit
noncomputable def AQT (z:Int):Nat→AV:=fun n=>if n=0 then .fptr 1 [[.sl .any 1 (kw.map encStr)]] 0 0 else if n=1 then .fptr 1 [[.int .i64 z]] 0 0 else .junk
theorem A0C (z:Int):GOk (AQT z):=⟨⟨.any,rfl⟩,z,rfl⟩
theorem AQV {H:Type}:(Rows.laid_testbench_lexer_keywords:DataW H) = .slice (kw.map fun s => .lit (.string s.data.toList)) []:=rfl
theorem ATG {w:World} {g:Nat} {k:IntKind} {z:Int} (h:w.cell? ⟨g,0,none⟩=some (.int k z)):RepF (M0 w) (.fptr 1 [[.int k z]] 0 0) (.pointer (some ⟨g,0,none⟩)):=by
 simp only [World.cell?] at h
 split at h
 case h_2=>simp at h
 rename_i cc ty fz hw
 have hcc:cc[0]? = some (.int k z):=by simpa using h
 refine .fptr 1 [[.int k z]] 0 0 g 0 cc ty fz (fun _ _ => .int k z) hw ?_ ?_ ?_
 ·intro i row hrow
  cases i with
  | zero =>
    simp at hrow; subst hrow
    refine ⟨rfl,fun j v hv => ?_⟩
    cases j with
    | zero=>simp at hv; subst hv; rfl
    | succ j=>simp at hv
  | succ i=>simp at hrow
 ·intro i j hi hj
  obtain rfl:i=0:=by simpa using hi
  obtain rfl:j=0:=by omega
  exact hcc
 ·intro i j row v hrow hv
  cases i with
  | zero =>
    simp at hrow; subst hrow
    cases j with
    | zero=>simp at hv; subst hv; exact .int _ _
    | succ j=>simp at hv
  | succ i=>simp at hrow
theorem A1Y {W:World} (h:laidMetH Tryz.prog [("math/bits.deBruijn32tab",Rows.laid_math_bits_deBruijn32tab),("math/bits.deBruijn64tab",Rows.laid_math_bits_deBruijn64tab),("internal/strconv.uint64pow10",Rows.laid_internal_strconv_uint64pow10),("testbench/lexer.keywords",Rows.laid_testbench_lexer_keywords)] W) (hsh:W.ShapedOpen Tryz.prog) :
  ∃ z,∀ n,RepF (M0 W) (AQT z n) (.pointer (some ⟨n,0,none⟩)):=by
 rw [MakeChecks.laidMetH_plain _ _ _ (by kernel_rfl)] at h
 obtain ⟨ps,⟨_,_,_,_,_,_,_,_,_,_,⟨_,_,_,_,_,_,_,_,_,_,⟨_,_,_,_,_,_,_,_,_,_,⟨g3,t3,cs3,f3,p3,q3,hg3,ht3,hv3,hd3,_,_⟩,_⟩,_⟩,_⟩,_,_⟩:=h
 have hgk:Tryz.prog.globalNamed "testbench/lexer.keywords" = some 0:=by kernel_rfl
 have htk:(Tryz.prog.globals[0]?).map (·.type)=some 120:=by kernel_rfl
 obtain rfl:=Option.some.inj (hgk.symm.trans hg3)
 obtain rfl:=Option.some.inj (htk.symm.trans ht3)
 obtain ⟨c,h1,h2⟩:=AN9 Tryz.underlying120 Tryz.underlying9 cl9 AQV hd3
 obtain ⟨z,hz⟩:=cell_of_shapedOpen_int (P:=Tryz.prog) (g:=1) (t:=3) (zero := #[.int .i64 0]) hsh (of_decide_eq_true (by kernel_rfl)) (by kernel_rfl) rfl (by kernel_rfl) (by kernel_rfl) Tryz.underlying3
 refine ⟨z,fun n => ?_⟩
 unfold AQT
 split
 ·rename_i hn; subst hn
  exact ATF hg3 hv3 h1 h2 rfl
 ·split
  ·rename_i hn; subst hn
   exact ATG hz
  ·exact .junk _
end Go.Proofs.YtokehnfjjmpanaaGreatDoor.Cov
