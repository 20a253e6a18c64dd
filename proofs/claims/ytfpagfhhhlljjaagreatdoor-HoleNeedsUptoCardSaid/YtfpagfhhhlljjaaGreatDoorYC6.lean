/- Part 6 of the proof (E5, E6, E7, E8, E9, E10, M1, M2, L1, M4); no condition. -/
import Derived.Test.YtfpagfhhhlljjaaGreatDoorYC5
set_option linter.unusedVariables false
set_option linter.unusedSimpArgs false
set_option maxRecDepth 8000
namespace Go.Proofs.YtfpagfhhhlljjaaGreatDoor.Cov
open Sm Bins Go.RowKit
open Bool renaming not_false→jB,not_true→jV,eq_iff_iff→qP,or_false→jR
open List renaming map_cons→jE,map_nil→jD,append_nil→jF,length_map→jI,getElem?_append_left→zM,getElem?_set→zB,getElem?_eq_none→qN,length_take→qB,cons_append→qK,take_succ_eq_append_getElem→zN,mem_append→zY,mem_cons→qI,nil_append→qF,getElem_mem→jO,mem_cons_of_mem→qW,append_assoc→zI,take_of_length_le→jW,getElem?_eq_getElem→jL,length_cons→zW,foldl_cons→wF,getElem?_map→jX,drop_eq_nil_of_le→zG,drop_zero→zO,length_append→zZ,contains_cons→jS,contains_nil→jJ,drop_eq_getElem_cons→zQ
open Nat renaming le_of_ble_eq_true→jH,reduceEqDiff→jC,add_zero→jM,zero_add→jG,le_refl→jK,le_trans→qJ,reduceBEq→jP,reduceAdd→jQ
open Option renaming getD_some→jA,getD_none→jT
def TF (s:ByteArray):Bool:=s.toList == (⟨#[]⟩:ByteArray).toList
def badO (e:Ex):Bool:=decide (e.op < 1) || decide (e.op > 25)
def AHP (e:Ex):Bool:=((e.op == 1) && (decide (e.n < 0) || decide (e.n > 65535))) || (!(e.op == 1) && !(e.n == 0))
def AET (e:Ex):Bool:=(!KR e.op && !TF e.name) || !Y8 e.op e.args.length
def WY (e:Ex):Bool:=((e.op == 2) && !RP e.name) || (((e.op == 3) || (e.op == 24)) && !IB e.name)
def J8 (e:Ex):Int:=if badO e then 1 else if AHP e then 1 else if AET e then 1 else if WY e then 7 else 0
theorem ARO (G:Nat→AV) (hG:GOk G) (e:Ex) (h:Hp) (hl:e.name.size≤1048576):PCall (En G) 70 [.agg (CY e)] h (.int .i64 (J8 e)):=by
 refine ACalls.pure0 rfl ?_
 refine acN Tryz.func70 rfl ?_
 show awp _ _ _ _ _ (D8 _ [.tmp 2] _)
 simp -implicitDefEqProofs only [BC,BA,A8,AY,BB,BK,BV,CO,AO,AQ,AL,BD,AX,AC,AA,AZ,AU,BH,BG,A7,FM,BX,BQ,BN,CB,AB,DR,BF,↓reduceIte,jC,jM,jA,jB,enP,HY,bxE,DV ag3,J4]
 refine U7 (fun F H=>F 3 = .bool (KR e.op)∧F 1 = .ptr h.length 0 0∧H=h ++ [.live 4 [CY e]]) ?_ ?_
 ·cases b2:(e.op == 2) <;> cases b3:(e.op == 3)
  all_goals
   simp -implicitDefEqProofs only [AY,BB,BK,BV,CO,EF,FI,AO,AQ,AL,BD,AX,AC,AA,EK,AZ,AU,BH,BM,BG,A7,CP,DL,DN,BX,BQ,BN,AB,DR,↓reduceIte,jC,jM,jA,jB,enP,HY,b2,b3,DV ag3,J4]
   exact ⟨by simp [KR,b2,b3],trivial,trivial⟩
 rintro F H ⟨f3,f1,rfl⟩
 simp -implicitDefEqProofs only [BC,BP,BA,A8,AY,BK,BV,CO,AO,AQ,AL,BD,AX,AC,AA,AZ,AU,BH,BG,BX,BQ,BN,AB,C9,↓reduceIte,jM,jA,jB,enP,HY,f1,f3,DV ag3,J4]
 refine U7 (fun F H=>F 17 = .bool (badO e)∧F 3 = .bool (KR e.op)∧F 1 = .ptr h.length 0 0∧H=h ++ [.live 4 [CY e]]) ?_ ?_
 ·cases b2:decide (e.op < 1)
  all_goals
   simp -implicitDefEqProofs only [AY,BB,BK,BV,CO,EF,FI,AO,AQ,AL,BD,AX,AC,AA,EK,AZ,AU,BH,BM,A7,CP,DL,DN,BX,BQ,BN,AB,FD,↓reduceIte,jC,jM,jA,jB,enP,HY,b2,f1,f3,DV ag3,J4]
   exact ⟨by simp [badO,b2],trivial,trivial,trivial⟩
 clear f1 f3
 rintro F H ⟨f17,f3,f1,rfl⟩
 simp -implicitDefEqProofs only [BI,A8,AZ,f17]
 refine CV (fun ho => ?_) (fun ho => ?_)
 ·simp -implicitDefEqProofs only [BC,BA,BJ,A8,CQ,ED,CJ,AY,BB,AO,AQ,AL,BD,AX,AC,AA,AU,BH,A7,↓reduceIte,jA,jB]
  exact ⟨by unfold J8; rw [if_pos ho],_,rfl⟩
 simp -implicitDefEqProofs only [BC,BA,AY,BK,BV,CO,AO,AQ,AL,BD,AX,AC,AA,AZ,AU,BH,BG,BX,BQ,BN,AB,DR,↓reduceIte,jM,jA,jB,enP,HY,f1,f3,DV ag3,J4,YH]
 refine U7 (fun F H=>F 26 = .bool (AHP e)∧F 3 = .bool (KR e.op)∧F 1 = .ptr h.length 0 0∧H=h ++ [.live 4 [CY e]]) ?_ ?_
 ·cases b1:(e.op == 1) <;> cases b2:decide (e.n < 0) <;> cases b3:decide (e.n > 65535) <;> cases b4:(e.n == 0)
  all_goals
   simp -implicitDefEqProofs only [AY,BB,BK,BV,CO,FY,EF,JD,FI,UA,AO,AQ,AL,BD,AX,AC,AA,EK,AZ,AU,BH,BM,BG,A7,CP,DL,DN,BX,BQ,BN,AB,ET,C9,FD,↓reduceIte,jC,jM,jG,jA,jV,jB,enP,HY,ZM,bne,b1,b2,b3,b4,f1,f3,DV ag3,J4,YH]
   exact ⟨by simp [AHP,b1,b2,b3,b4],trivial,trivial,trivial⟩
 clear f1 f3 f17
 rintro F H ⟨f26,f3,f1,rfl⟩
 simp -implicitDefEqProofs only [BI,A8,AZ,f26]
 refine CV (fun hn => ?_) (fun hn => ?_)
 ·simp -implicitDefEqProofs only [BC,BA,BJ,A8,CQ,ED,CJ,AY,BB,AO,AQ,AL,BD,AX,AC,AA,AU,BH,A7,↓reduceIte,jA,jB]
  exact ⟨by unfold J8; rw [if_neg (by simp [ho]),if_pos hn],_,rfl⟩
 simp -implicitDefEqProofs only [BC,BA,AY,BK,BV,CO,AO,AQ,AL,BD,AX,AC,AA,AZ,BG,GU,AB,EP,↓reduceIte,jA,jB,f1,f3,DV ag9,PO]
 refine U7 (fun F H=>F 50 = .bool (AET e)∧F 3 = .bool (KR e.op)∧F 1 = .ptr h.length 0 0∧H=h ++ [.live 4 [CY e]]) ?_ ?_
 ·cases bm:KR e.op <;> cases b5:TF e.name
  all_goals
   have b6:=b5
   unfold TF at b6
   simp -implicitDefEqProofs only [AY,BB,BK,BV,CO,FY,EF,JD,FI,AO,AQ,AL,BD,AX,AC,AA,EK,AZ,AU,BU,BM,H9,BG,A7,CP,DL,DN,BX,BQ,BN,BZ,BO,AB,ADR,jE,jD,jF,↓reduceIte,jC,jG,jA,jV,jB,enP,LD,bne,bm,b6,f1,f3,DV ag9,PO,ldE]
  ·exact ⟨by simp [AET,bm,b5],trivial,trivial,trivial⟩
  all_goals
   refine (AED G e _).use ?_
   simp -implicitDefEqProofs only [AY,BB,BK,BV,CO,EF,AO,AQ,AL,BD,AX,AC,AA,AZ,AU,BM,A7,CP,DN,GU,AB,EP,↓reduceIte,jC,jA,jB,bne,bm,f1,f3]
   exact ⟨by simp [AET,bm,b5],trivial,trivial,trivial⟩
 clear f1 f3 f26
 rintro F H ⟨f50,f3,f1,rfl⟩
 simp -implicitDefEqProofs only [BI,A8,AZ,f50]
 refine CV (fun hs => ?_) (fun hs => ?_)
 ·simp -implicitDefEqProofs only [BC,BA,BJ,A8,CQ,ED,CJ,AY,BB,AO,AQ,AL,BD,AX,AC,AA,AU,BH,A7,↓reduceIte,jA,jB]
  exact ⟨by unfold J8; rw [if_neg (by simp [ho]),if_neg (by simp [hn]),if_pos hs],_,rfl⟩
 simp -implicitDefEqProofs only [BC,BA,AY,BK,BV,CO,AO,AQ,AL,BD,AX,AC,AA,AZ,AU,BH,BG,BX,BQ,BN,AB,DR,↓reduceIte,jM,jA,jB,enP,HY,f1,f3,DV ag9,DV ag3,J4,PO]
 have fin : ∀ b,WY e=b→J8 e=if b then 7 else 0:=by
  intro b hb
  unfold J8; rw [if_neg (by simp [ho]),if_neg (by simp [hn]),if_neg (by simp [hs]),hb]
 cases b2:(e.op == 2)
 ·simp -implicitDefEqProofs only [AY,BK,BV,CO,EF,JD,AO,AQ,AL,BD,AX,AC,AA,EK,AZ,AU,BH,BM,BG,CP,DN,BX,BQ,BN,AB,DR,↓reduceIte,jC,jM,jA,jB,enP,HY,b2,f1,f3,DV ag9,DV ag3,J4,PO]
  cases b3:(e.op == 3) <;> cases b4:(e.op == 24)
  all_goals
   simp -implicitDefEqProofs only [BC,BA,BR,BJ,BI,A8,EH,CJ,DI,AY,BB,BK,BV,CO,FY,EF,JD,FI,AO,AQ,AL,BD,AX,AC,AA,EK,AZ,AU,BU,BH,BM,BG,A7,CP,DL,DN,BX,BQ,BN,BZ,BO,AB,DR,jE,jD,jF,↓reduceIte,jC,jM,jG,jA,jB,enP,HY,LD,b3,b4,f1,f3,DV ag9,DV ag3,J4,PO]
  ·exact ⟨by rw [fin false (by simp [WY,b2,b3,b4])]; rfl,_,rfl⟩
  all_goals
   refine (NU G hG.kw e.name _ (by omega)).use ?_
   cases bi:IB e.name
   ·simp -implicitDefEqProofs only [BC,BA,BJ,BI,A8,CQ,ED,CJ,CZ,AY,BB,BK,BV,CO,FY,EF,AO,AQ,AL,BD,AX,AC,AA,AZ,AU,BH,BM,A7,CP,DL,DN,GU,AB,EP,↓reduceIte,jC,jA,jB]
    exact ⟨by rw [fin true (by simp [WY,b2,b3,b4,bi])]; rfl,_,rfl⟩
   ·simp -implicitDefEqProofs only [BC,BA,BR,BJ,BI,A8,EH,CJ,DI,AY,BB,BK,BV,CO,FY,EF,AO,AQ,AL,BD,AX,AC,AA,AZ,AU,BH,BM,A7,CP,DL,DN,GU,AB,EP,↓reduceIte,jC,jA,jV,jB]
    exact ⟨by rw [fin false (by simp [WY,b2,b3,b4,bi])]; rfl,_,rfl⟩
 ·have e2:e.op=2:=by simpa using b2
  simp -implicitDefEqProofs only [BK,BV,CO,FY,AO,AQ,AL,BD,AX,AC,AA,AZ,BU,BX,BN,BZ,BO,AB,jE,jD,jF,↓reduceIte,jC,jG,jA,jB,enP,LD,b2,f1,f3,DV ag9,DV ag3,J4,PO]
  refine (ANA G hG e.name _ hl).use ?_
  cases bi:RP e.name
  ·simp -implicitDefEqProofs only [BC,BA,BJ,BI,A8,CQ,ED,CJ,CZ,AY,BB,BK,BV,CO,FY,FI,UA,AO,AQ,AL,BD,AX,AC,AA,EK,AZ,AU,BH,BM,BG,A7,CP,DL,GU,AB,EP,↓reduceIte,jC,jA,jB]
   exact ⟨by rw [fin true (by simp [WY,b2,bi])]; rfl,_,rfl⟩
  ·simp -implicitDefEqProofs only [BC,BA,BR,BJ,BI,A8,EH,CJ,DI,AY,BB,BK,BV,CO,FY,EF,JD,AO,AQ,AL,BD,AX,AC,AA,EK,AZ,AU,BH,BM,BG,A7,CP,DL,DN,BX,BQ,GU,BN,AB,DR,EP,↓reduceIte,jC,jM,jA,jV,jB,enP,HY,f1,DV ag3,J4,e2,Int.reduceBEq]
   exact ⟨by rw [fin false (by simp [WY,e2,bi])]; rfl,_,rfl⟩
def ADT (e:Ex):Bool:=badO e || decide (e.n < 0) || decide (e.n > 65535) || (!(e.n == 0) && !(e.op == 1)) || (!TF e.name && !KR e.op)
def ALO (op:Int) (n:Nat):Bool:=((op == 23) && (decide ((n:Int) < 3) || decide ((n:Int) > 33) || ((n:Int) % 2 == 0))) || (!(op == 23) && !((n:Int) == arity op))
theorem A0P (op:Int) (n:Nat):ALO op n = !Y8 op n:=by
 unfold ALO Y8
 rcases hc:(op == 23) with _ | _
 ·simp
 ·have h1:decide ((n:Int) < 3) = !decide ((n:Int)≥3):=by rw [qP]; simp
  have h2:decide ((n:Int) > 33) = !decide ((n:Int)≤33):=by rw [qP]; simp
  have h3:((n:Int) % 2 == 0) = !((n:Int) % 2 == 1):=by rw [qP]; simp; omega
  rw [h1,h2,h3]
  cases ((n:Int) % 2 == 1) <;> cases decide ((n:Int)≥3) <;> cases decide ((n:Int)≤33) <;> rfl
theorem A0Q (e:Ex):(ADT e || ALO e.op e.args.length)=(badO e || AHP e || AET e):=by
 rw [A0P]
 unfold ADT AHP AET
 rcases h1:(e.op == 1) with _ | _
 ·rcases h2:(e.n == 0) with _ | _
  ·simp
  ·have h3:decide (e.n < 0)=false:=by simp at h2 ⊢; omega
   have h4:decide (e.n > 65535)=false:=by simp at h2 ⊢; omega
   rw [h3,h4]
   cases badO e <;> cases TF e.name <;> cases KR e.op <;> cases Y8 e.op e.args.length <;> rfl
 ·cases badO e <;> cases TF e.name <;> cases KR e.op <;> cases Y8 e.op e.args.length <;> cases decide (e.n < 0) <;> cases decide (e.n > 65535) <;> cases (e.n == 0) <;> rfl
theorem Y9 (e:Ex):J8 e=if ADT e then 1 else if ALO e.op e.args.length then 1 else if WY e then 7 else 0:=by
 have:=A0Q e
 unfold J8
 revert this
 cases ADT e <;> cases ALO e.op e.args.length <;> cases badO e <;> cases AHP e <;> cases AET e <;> simp
set_option maxHeartbeats 1000000 in
theorem AQO (G:Nat→AV) (e:Ex) (h:Hp) (hl:e.name.size≤1048576):PCall (En G) 153 [.agg (CY e)] h (.int .i64 (J8 e)):=by
 refine ACalls.pure0 rfl ?_
 refine acN Tryz.func153 rfl ?_
 show awp _ _ _ _ _ (D8 _ [.tmp 2] _)
 simp -implicitDefEqProofs only [BC,BA,A8,AY,BB,BK,BV,CO,AO,AQ,AL,BD,AX,AC,AA,AZ,AU,BH,BG,A7,FM,BX,BQ,BN,CB,AB,C9,BF,↓reduceIte,jC,jM,jA,jB,enP,HY,bxE,DV ag3,J4]
 refine U7 (fun F H=>F 42 = .bool (ADT e)∧F 1 = .ptr h.length 0 0∧H=h ++ [.live 4 [CY e]]) ?_ ?_
 ·cases b1:decide (e.op < 1)
  case true =>
   simp -implicitDefEqProofs only [AY,BB,BK,BV,CO,FI,UA,AO,AQ,AL,BD,AX,AC,AA,EK,AZ,AU,BM,BG,CP,DL,↓reduceIte,jC,jA,jB,b1]
   exact ⟨by simp [ADT,badO,b1],trivial,trivial⟩
  simp -implicitDefEqProofs only [AY,BK,BV,CO,EF,AO,AQ,AL,BD,AX,AC,AA,AZ,AU,BH,BM,BG,CP,DN,BX,BQ,BN,AB,FD,↓reduceIte,jC,jM,jA,jB,enP,HY,b1,DV ag3,J4,YH]
  cases b2:decide (e.op > 25)
  case true =>
   simp -implicitDefEqProofs only [AY,BB,BK,BV,CO,FI,UA,AO,AQ,AL,BD,AX,AC,AA,EK,AZ,AU,BM,BG,CP,DL,↓reduceIte,jC,jA,jB,b2]
   exact ⟨by simp [ADT,badO,b2],trivial,trivial⟩
  simp -implicitDefEqProofs only [AY,BK,BV,CO,EF,AO,AQ,AL,BD,AX,AC,AA,AZ,AU,BH,BM,BG,CP,DN,BX,BQ,BN,AB,C9,↓reduceIte,jC,jG,jA,jB,enP,ZM,b2,DV ag3,J4,YH]
  have bO:badO e=false:=by unfold badO; rw [b1,b2]; rfl
  cases b3:decide (e.n < 0)
  case true =>
   simp -implicitDefEqProofs only [AY,BB,BK,BV,CO,FI,UA,AO,AQ,AL,BD,AX,AC,AA,EK,AZ,AU,BM,BG,CP,DL,↓reduceIte,jC,jA,jB,b3]
   exact ⟨by simp only [ADT,b3]; simp,trivial,trivial⟩
  simp -implicitDefEqProofs only [AY,BK,BV,CO,EF,AO,AQ,AL,BD,AX,AC,AA,AZ,AU,BH,BM,BG,CP,DN,BX,BQ,BN,AB,FD,↓reduceIte,jC,jG,jA,jB,enP,ZM,b3,DV ag3,J4,YH]
  cases b4:decide (e.n > 65535)
  case true =>
   simp -implicitDefEqProofs only [AY,BB,BK,BV,CO,FI,UA,AO,AQ,AL,BD,AX,AC,AA,EK,AZ,AU,BM,BG,CP,DL,↓reduceIte,jC,jA,jB,b4]
   exact ⟨by simp only [ADT,b4]; simp,trivial,trivial⟩
  simp -implicitDefEqProofs only [BK,BV,CO,EF,AO,AQ,AL,BD,AX,AC,AA,AZ,AU,BH,BG,BX,BQ,BN,AB,ET,↓reduceIte,jC,jG,jA,jB,enP,ZM,b4,bne,DV ag3,DV ag9,J4,YH,PO]
  have fin : ∀ b,((!(e.n == 0) && !(e.op == 1)) || (!TF e.name && !KR e.op))=b→ADT e=b:=by
   intro b hb
   unfold ADT; rw [bO,b3,b4]; simpa using hb
  cases b5:(e.n == 0) <;> cases b6:(e.op == 1) <;> cases b7:TF e.name
  all_goals
   have b8:=b7
   unfold TF at b8
   simp -implicitDefEqProofs only [AY,BB,BK,BV,CO,FY,EF,JD,FI,UA,AO,AQ,AL,BD,AX,AC,AA,EK,AZ,AU,BU,BH,BM,H9,BG,CP,DL,DN,BX,BQ,BN,BZ,BO,AB,ET,ADR,jE,jD,jF,↓reduceIte,jC,jM,jG,jA,jV,jB,enP,HY,LD,bne,b5,b6,b8,DV ag3,DV ag9,J4,YH,PO]
  all_goals first
   | exact ⟨by rw [fin _ rfl]; simp [b5,b6,b7],trivial,trivial⟩
   | refine (VE G e.op _).use ?_
     simp -implicitDefEqProofs only [AY,BB,BK,BV,CO,FY,EF,AO,AQ,AL,BD,AX,AC,AA,AZ,AU,BM,CP,DL,DN,GU,AB,EP,↓reduceIte,jC,jA,jB]
     exact ⟨by rw [fin _ rfl]; simp [b5,b6,b7],trivial,trivial⟩
 rintro F H ⟨f42,f1,rfl⟩
 simp -implicitDefEqProofs only [BI,A8,AZ,f42]
 refine CV (fun ho => ?_) (fun ho => ?_)
 ·simp -implicitDefEqProofs only [BC,BA,BJ,A8,CQ,CJ,AY,BB,AO,AQ,AL,BD,AX,AC,AA,AU,BH,A7,↓reduceIte,jA,jB]
  exact ⟨by rw [Y9,if_pos ho],_,rfl⟩
 simp -implicitDefEqProofs only [BC,BA,BR,A8,AY,BB,BK,BV,CO,AO,AQ,AL,BD,AX,AC,AA,AZ,AU,BH,BG,A7,BX,BQ,BN,D6,AB,DR,↓reduceIte,jC,jM,jG,jA,jB,enP,TW,HY,MR,f1,DV ag3,DV RQ,J4,YG,jI]
 generalize hn:e.args.length=n
 have hm:(n:Int).tmod 2=(n:Int) % 2:=Int.tmod_eq_emod_of_nonneg (by omega)
 have br:JB Tryz.prog 3 .rem (.int .i64 (n:Int)) (.int .i64 2)=some (.int .i64 ((n:Int) % 2)):=by rw [ABF _ _ _ _ _ (by decide),hm]
 refine U7 (fun F H=>F 73 = .bool (ALO e.op n)∧F 1 = .ptr h.length 0 0∧H=h ++ [.live 4 [CY e]]) ?_ ?_
 ·cases b1:(e.op == 23)
  ·simp -implicitDefEqProofs only [AY,BK,BV,CO,FY,EF,JD,UA,AO,AQ,AL,BD,AX,AC,AA,EK,AZ,AU,BU,BH,BM,BG,CP,DN,BX,BQ,BN,BZ,BO,AB,ET,jE,jD,jF,↓reduceIte,jC,jM,jA,jB,enP,HY,bne,b1,f1,DV ag3,J4]
   refine (ASY G e.op _).use ?_
   simp -implicitDefEqProofs only [AY,BB,BK,BV,CO,FY,EF,AO,AQ,AL,BD,AX,AC,AA,AZ,AU,BM,CP,DL,DN,BQ,AB,ET,↓reduceIte,jC,jA,jB,enP,bne]
   exact ⟨by unfold ALO; rw [b1]; simp,f1,trivial⟩
  ·cases b2:decide ((n:Int) < 3) <;> cases b3:decide ((n:Int) > 33) <;> cases b4:((n:Int) % 2 == 0)
   all_goals
    simp -implicitDefEqProofs only [AY,BB,BK,BV,CO,FY,EF,JD,FI,UA,AO,AQ,AL,BD,AX,AC,AA,EK,AZ,AU,BH,BM,BG,CP,DL,DN,BX,BQ,BN,AB,DR,ET,C9,FD,↓reduceIte,jC,jM,jA,jV,jB,enP,HY,bne,b1,b2,b3,b4,br,f1,DV ag3,J4]
    exact ⟨by unfold ALO; rw [b1,b2,b3,b4]; simp,trivial,trivial⟩
 clear f1 f42
 rintro F H ⟨f73,f1,rfl⟩
 simp -implicitDefEqProofs only [BI,A8,AZ,f73]
 subst hn
 refine CV (fun hs => ?_) (fun hs => ?_)
 ·simp -implicitDefEqProofs only [BC,BA,BJ,A8,CQ,CJ,AY,BB,AO,AQ,AL,BD,AX,AC,AA,AU,BH,A7,↓reduceIte,jA,jB]
  exact ⟨by rw [Y9,if_neg (by simp [ho]),if_pos hs],_,rfl⟩
 simp -implicitDefEqProofs only [BC,BA,BR,A8,AY,BK,BV,CO,AO,AQ,AL,BD,AX,AC,AA,AZ,AU,BH,BG,BX,BQ,BN,AB,DR,↓reduceIte,jM,jA,jB,enP,HY,f1,DV ag3,DV ag9,J4,PO]
 have fin : ∀ b,WY e=b→J8 e=if b then 7 else 0:=by
  intro b hb
  rw [Y9,if_neg (by simp [ho]),if_neg (by simp [hs]),hb]
 cases b2:(e.op == 2)
 ·simp -implicitDefEqProofs only [AY,BK,BV,CO,EF,JD,AO,AQ,AL,BD,AX,AC,AA,EK,AZ,AU,BU,BM,BG,CP,DN,BX,BN,BZ,BO,AB,jE,jD,jF,↓reduceIte,jC,jM,jA,jB,enP,HY,b2,f1,DV ag9,DV ag3,J4,PO]
  refine (VE G e.op _).use ?_
  cases bm:KR e.op
  ·have hv:WY e=false:=by
    unfold KR at bm; simp only [Bool.or_eq_false_iff] at bm
    simp [WY,bm.1.1,bm.1.2,bm.2]
   simp -implicitDefEqProofs only [BC,BA,BR,BJ,BI,A8,CJ,DI,AY,BB,BK,BV,CO,EF,JD,AO,AQ,AL,BD,AX,AC,AA,EK,AZ,AU,BH,BM,BG,A7,CP,DN,↓reduceIte,jC,jA,jB]
   exact ⟨by rw [fin false hv]; rfl,_,rfl⟩
  have hv:WY e = !IB e.name:=by
   unfold KR at bm; rw [b2] at bm; simp only [Bool.false_or] at bm
   unfold WY; rw [b2,bm]; simp
  simp -implicitDefEqProofs only [BK,BV,CO,FY,EF,AO,AQ,AL,BD,AX,AC,AA,AZ,AU,BU,BH,BM,BG,CP,DL,BX,BQ,BN,BZ,BO,AB,ET,jE,jD,jF,↓reduceIte,jC,jM,jG,jA,jB,enP,HY,LD,bne,b2,f1,DV ag9,DV ag3,J4,PO]
  refine (WR G e.name _).use ?_
  cases bi:IB e.name
  ·simp -implicitDefEqProofs only [BC,BA,BJ,BI,A8,CQ,CJ,CZ,AY,BB,BK,BV,CO,FY,EF,AO,AQ,AL,BD,AX,AC,AA,AZ,AU,BH,BM,A7,CP,DL,DN,GU,AB,EP,↓reduceIte,jC,jA,jB]
   exact ⟨by rw [fin true (by rw [hv,bi]; rfl)]; rfl,_,rfl⟩
  ·simp -implicitDefEqProofs only [BC,BA,BR,BJ,BI,A8,CJ,DI,AY,BB,BK,BV,CO,FY,EF,AO,AQ,AL,BD,AX,AC,AA,AZ,AU,BH,BM,A7,CP,DL,DN,GU,AB,EP,↓reduceIte,jC,jA,jV,jB]
   exact ⟨by rw [fin false (by rw [hv,bi]; rfl)]; rfl,_,rfl⟩
 ·have e2:e.op=2:=by simpa using b2
  have hv:WY e = !RP e.name:=by
   unfold WY; rw [e2]; simp
  simp -implicitDefEqProofs only [BK,BV,CO,FY,AO,AQ,AL,BD,AX,AC,AA,AZ,BU,BX,BN,BZ,BO,AB,jE,jD,jF,↓reduceIte,jC,jG,jA,jB,enP,LD,b2,f1,DV ag9,DV ag3,J4,PO]
  refine (AR2 G e.name _ hl).use ?_
  cases bi:RP e.name
  ·simp -implicitDefEqProofs only [BC,BA,BJ,BI,A8,CQ,CJ,CZ,AY,BB,BK,BV,CO,FY,FI,UA,AO,AQ,AL,BD,AX,AC,AA,EK,AZ,AU,BH,BM,BG,A7,CP,DL,GU,AB,EP,↓reduceIte,jC,jA,jB]
   exact ⟨by rw [fin true (by rw [hv,bi]; rfl)]; rfl,_,rfl⟩
  ·simp -implicitDefEqProofs only [AY,BK,BV,CO,FY,EF,AO,AQ,AL,BD,AX,AC,AA,AZ,AU,BU,BM,BG,CP,DL,BX,GU,BN,BZ,BO,AB,EP,jE,jD,jF,↓reduceIte,jC,jM,jA,jV,jB,enP,HY,f1,DV ag3,J4]
   refine (VE G e.op _).use ?_
   have bm:KR e.op=true:=by rw [e2]; rfl
   simp -implicitDefEqProofs only [BC,BA,BR,BJ,BI,A8,CJ,DI,AY,BB,BK,BV,CO,FY,EF,JD,AO,AQ,AL,BD,AX,AC,AA,EK,AZ,AU,BH,BM,BG,A7,CP,DL,DN,BX,BQ,BN,AB,ET,↓reduceIte,jC,jM,jA,jV,jB,enP,HY,bne,bm,f1,DV ag3,J4,b2]
   exact ⟨by rw [fin false (by rw [hv,bi]; rfl)]; rfl,_,rfl⟩
theorem AF5:KJ Tryz.prog 113=some false:=by kernel_rfl
theorem A1D:szO Tryz.prog 113=some 1:=by kernel_rfl
theorem AA5 (h:Hp):JY Tryz.prog h 48=some (.ptr h.length 0 0,h ++ [.live 4 [[.int .i64 0,.int .i64 0,.str ⟨#[]⟩,.sl .nil 0 []]]]):=JL (row := [.int .i64 0,.int .i64 0,.str ⟨#[]⟩,.sl .nil 0 []]) (by kernel_rfl)
theorem AIM (h:Hp) (e:Ex) (row:List AV) (hr:row.length=4):FB Tryz.prog (h ++ [.live 4 [row]]) 48 (.ptr h.length 0 0) (.agg (CY e))=some (h ++ [.live 4 [CY e]]):=by
 rw [NM (PN (ZT e)) (by rw [H7]; exact MM) (by rw [H7,hr]; exact jK _)]
 have:splice row 0 (CY e)=CY e:=by unfold splice; simp [H7,hr]
 rw [this]
theorem A8L (h:Hp):JY Tryz.prog h 34=some (.ptr h.length 0 0,h ++ [.live 1 [[.int .i64 0]]]):=JL (row := [.int .i64 0]) (by kernel_rfl)
theorem al3 (h:Hp):JY Tryz.prog h 3=some (.ptr h.length 0 0,h ++ [.live 1 [[.int .i64 0]]]):=JL (row := [.int .i64 0]) (by kernel_rfl)
theorem A1U (h:Hp):JY Tryz.prog h 113=some (.ptr h.length 0 0,h ++ [.live 1 [[.nilfn]]]):=JL (row := [.nilfn]) (by kernel_rfl)
theorem JF {h:Hp} {t:TypeId} {b:Nat} {v:AV} (hag:KJ Tryz.prog t=some false) (hb:h[b]? = some (.live 1 [[v]])):DX Tryz.prog h t (.ptr b 0 0)=some v:=by
 rw [DJ hag hb (row := [v]) rfl]; rfl
theorem QS {h:Hp} {t:TypeId} {b:Nat} {v u:AV} (hs:szO Tryz.prog t=some 1) (hc:IW u=some [u]) (hb:h[b]? = some (.live 1 [[v]])):FB Tryz.prog h t (.ptr b 0 0) u=some (h.set b (.live 1 [[u]])):=by
 rw [JC hc hs hb (row := [v]) rfl (by simp)]; rfl
theorem A8E (h:Hp) (f:Fn) (a b:List AV):OT h (.fn f a b)=some (.ptr h.length 0 0,h ++ [.live 1 [[.fn f a b]]]):=rfl
def Chg (c:Nat) (h h':Hp):Prop:=h.length≤h'.length∧∀ b,b < h.length→b≠c→h'[b]? = h[b]?
theorem Chg.refl (c:Nat) (h:Hp):Chg c h h:=⟨jK _,fun _ _ _=>rfl⟩
theorem Chg.trans {c:Nat} {a b d:Hp} (h1:Chg c a b) (h2:Chg c b d):Chg c a d :=
 ⟨qJ h1.1 h2.1,fun i hi hc=>by rw [h2.2 i (Nat.lt_of_lt_of_le hi h1.1) hc,h1.2 i hi hc]⟩
theorem Chg.app (c:Nat) (h x:Hp):Chg c h (h ++ x):=⟨by simp,fun i hi _=>zM hi⟩
theorem Chg.set (c:Nat) (h:Hp) (x:ABlk):Chg c h (h.set c x):=⟨by simp,fun i _ hc=>by rw [zB,if_neg (fun e=>hc e.symm)]⟩
theorem Chg.get {c b:Nat} {h h':Hp} {x:ABlk} (hc:Chg c h h') (hb:h[b]? = some x) (hne:b≠c):h'[b]? = some x:=by
 rw [hc.2 b (CE hb) hne]; exact hb
theorem Chg.above {c:Nat} {h h':Hp} (hc:Chg c h h') (hl:h.length≤c) : ∃ x,h'=h ++ x:=by
 refine ⟨h'.drop h.length,?_⟩
 have:h'.take h.length=h:=by
  refine List.ext_getElem? fun i => ?_
  rcases Nat.lt_or_ge i h.length with hi | hi
  ·rw [List.getElem?_take_of_lt hi,hc.2 i hi (by omega)]
  ·rw [qN (by rw [qB]; omega),qN hi]
 conv=>lhs; rw [← List.take_append_drop h.length h',this]
def run (upd:Ex→Int→Int) (cont:Int→Bool):List Ex→Int→Int × Bool
 | [],z=>(z,true)
 | e :: es,z=>if cont (upd e z) then run upd cont es (upd e z) else (upd e z,false)
theorem run_go {upd:Ex→Int→Int} {cont:Int→Bool} : ∀ {xs:List Ex} (ys:List Ex) {z z':Int},run upd cont xs z=(z',true)→run upd cont (xs ++ ys) z=run upd cont ys z'
 | [],ys,z,z',h=>by cases h; rfl
 | x :: xs,ys,z,z',h=>by
   simp only [run,qK] at h ⊢
   split at h
   ·rename_i hc; rw [if_pos hc]; exact run_go ys h
   ·cases h
theorem run_stop {upd:Ex→Int→Int} {cont:Int→Bool} : ∀ {xs:List Ex} (ys:List Ex) {z z':Int},run upd cont xs z=(z',false)→run upd cont (xs ++ ys) z=(z',false)
 | [],ys,z,z',h=>by cases h
 | x :: xs,ys,z,z',h=>by
   simp only [run,qK] at h ⊢
   split at h
   ·rename_i hc; rw [if_pos hc]; exact run_stop ys h
   ·rename_i hc; rw [if_neg hc]; exact h
theorem NT (xs:List Ex) (j:Nat) (hj:j < xs.length):IQ (xs.take (j+1))=IQ (xs.take j) ++ pre xs[j]:=by
 rw [zN hj,PE]; simp [IQ]
theorem VC {a:Ex} : ∀ {xs:List Ex},a∈xs→∀ x∈pre a,x∈IQ xs
 | [],h,_,_=>by cases h
 | y :: ys,h,x,hx=>by
   simp only [IQ,zY]
   cases qI.1 h with
   | inl e=>subst e; exact .inl hx
   | inr e=>exact .inr (VC e x hx)
def AQN (G:Nat→AV) (k:FuncId) (upd:Ex→Int→Int) (cont:Int→Bool) (e:Ex):Prop :=
 ∀ (h:Hp) (c:Nat) (z:Int),h[c]? = some (.live 1 [[.int .i64 z]])→ACalls (En G) k [.agg (CY e),.ptr c 0 0] h fun v h'=>v = .bool (cont (upd e z))∧Chg c h h'∧h'[c]? = some (.live 1 [[.int .i64 (upd e z)]])
theorem ASM (G:Nat→AV) (k:FuncId) (upd:Ex→Int→Int) (cont:Int→Bool) (c vb db:Nat) (hv:vb≠c) (hd:db≠c) (e:Ex) :
  wt e≤1099511627776→(∀ x∈pre e,AQN G k upd cont x)→∀ (h:Hp) (z:Int),h[c]? = some (.live 1 [[.int .i64 z]])→h[vb]? = some (.live 1 [[.fn (.func k) [] [.ptr c 0 0]]]) →
   h[db]? = some (.live 1 [[.fn (.func 104) [] [.ptr vb 0 0,.ptr db 0 0]]]) →
   ACalls (En G) 104 [.agg (CY e),.ptr vb 0 0,.ptr db 0 0] h fun v h'=>v = .bool (run upd cont (pre e) z).2∧Chg c h h'∧h'[c]? = some (.live 1 [[.int .i64 (run upd cont (pre e) z).1]]):=by
 induction e using Ex.induct with | h e ih => ?_
 intro hw hvis h z hc hvb hdb
 have hcl:=CE hc
 have hal:e.args.length≤1099511627776:=by have:=SY e.args; have:=L9 e; omega
 refine acN Tryz.func104 rfl ?_
 show awp _ _ _ _ _ (D8 _ [.tmp 4] _)
 simp -implicitDefEqProofs only [BC,BA,A8,AY,BB,AO,AQ,AL,BD,AX,AC,AA,AZ,AU,BM,A7,FM,BX,BZ,BO,CB,AB,BF,BL,jE,jD,qF,qK,↓reduceIte,jC,jA,jB,enP,bxE,JF AF5 (CU hvb),ldE]
 refine (hvis e (by rw [pre_eq]; simp) _ c z (CU hc)).mono ?_
 rintro v h1 ⟨rfl,hch,hc1⟩
 have hch0:=(Chg.app c h _).trans hch
 have hb3:h1[h.length]? = some (.live 4 [CY e]):=hch.get (CW _ _) (by omega)
 have hrun:run upd cont (pre e) z=if cont (upd e z) then run upd cont (IQ e.args) (upd e z) else (upd e z,false):=by rw [pre_eq]; rfl
 simp -implicitDefEqProofs only [BI,A8,AY,BB,AO,AQ,AL,BD,AX,AC,AA,AZ,GU,AB,EP,↓reduceIte,jA,jB]
 cases hct:cont (upd e z)
 ·simp -implicitDefEqProofs only [BC,BA,BJ,A8,CQ,CJ,CZ,AY,BB,AO,AQ,AL,BD,AX,AC,AA,AU,BM,A7,↓reduceIte,jA,jB]
  rw [hrun,hct]
  exact ⟨rfl,hch0,hc1⟩
 rw [hct,if_pos rfl] at hrun
 have hvb1:=hch0.get hvb hv
 have hdb1:=hch0.get hdb hd
 have l3:DX Tryz.prog h1 46 (.ptr h.length 0 3)=some (.sl e.m 4 (e.args.map CY)):=by rw [DJ RQ hb3 (row:=CY e) rfl,YG]
 simp -implicitDefEqProofs only [BC,BP,BA,BR,A8,DI,AY,BB,AO,AQ,AL,BD,AX,AC,AA,AZ,AU,BH,BG,BX,BN,D6,AB,↓reduceIte,jC,jG,jA,jV,jB,enP,TW,MR,l3,jI]
 refine DY (fun n F H => ∃ j z',n+j=e.args.length∧F 1 = .ptr vb 0 0∧F 2 = .ptr db 0 0∧F 12 = .sl e.m 4 (e.args.map CY)∧F 13 = .int .i64 e.args.length∧F 14 = .int .i64 (j:Nat)∧Chg c h H∧H[c]? = some (.live 1 [[.int .i64 z']])∧run upd cont (IQ (e.args.take j)) (upd e z)=(z',true)) e.args.length ⟨0,upd e z,by simp,by simp -implicitDefEqProofs only [AA,BF,BL,↓reduceIte,jC],by simp -implicitDefEqProofs only [AA,BF,BL,↓reduceIte,jC],by simp -implicitDefEqProofs only [AA,↓reduceIte,jC],by simp -implicitDefEqProofs only [AA,↓reduceIte,jC],by simp -implicitDefEqProofs only [AA,↓reduceIte]; rfl,hch0,hc1,rfl⟩ ?_
 rintro n F H ⟨j,z',hj,f1,f2,f12,f13,f14,hC,hcz,hr⟩
 simp -implicitDefEqProofs only [BC,BA,BI,A8,AY,BB,AO,AQ,AL,BD,AX,AC,AA,AZ,BQ,AB,C9,↓reduceIte,jA,jB,enP,f13,f14]
 refine CV (fun hlt => ?_) (fun hlt => ?_)
 ·have hj':j < e.args.length:=by simpa using hlt
  have hdH:H[db]? = some (.live 1 [[.fn (.func 104) [] [.ptr vb 0 0,.ptr db 0 0]]]):=hC.get hdb hd
  have hvH:H[vb]? = some (.live 1 [[.fn (.func k) [] [.ptr c 0 0]]]):=hC.get hvb hv
  simp -implicitDefEqProofs only [BC,BP,BA,BR,A8,AY,BB,AO,AQ,AL,BD,AX,AC,ES,AA,AZ,FO,BX,EI,CG,BZ,BO,CB,AB,DT,jE,jD,qF,qK,↓reduceIte,jC,jA,jB,enP,WP,jT,f12,f14,D7 hj',FP U4 MM H7 hj',AA5,AIM _ _ [.int .i64 0,.int .i64 0,.str ⟨#[]⟩,.sl .nil 0 []] rfl,f2,JF AF5 (CU hdH),ldE]
  have hmem:e.args[j]∈e.args:=jO hj'
  refine (ih e.args[j] hmem (by have:=SX hmem; have:=L9 e; omega) (fun x hx=>hvis x (by rw [pre_eq]; exact qW _ (VC hmem x hx))) _ z' (CU hcz) (CU hvH) (CU hdH)).mono ?_
  rintro v h2 ⟨rfl,hch2,hc2⟩
  have hC2:=hC.trans ((Chg.app c H _).trans hch2)
  have hsplit:IQ e.args=IQ (e.args.take j) ++ (pre e.args[j] ++ IQ (e.args.drop (j+1))):=by
   rw [← zI,← NT _ _ hj',← PE,List.take_append_drop]
  simp -implicitDefEqProofs only [BI,A8,AY,BB,AO,AQ,AL,BD,AX,AC,AA,AZ,GU,AB,EP,↓reduceIte,jA,jB]
  rcases hrr:run upd cont (pre e.args[j]) z' with ⟨z2,b2⟩
  rw [hrr] at hc2
  cases b2
  ·simp -implicitDefEqProofs only [BC,BA,BJ,A8,CQ,ED,F7,CJ,CZ,AY,BB,AO,AQ,AL,BD,AX,AC,AA,AU,BM,A7,↓reduceIte,jA,jB]
   have:run upd cont (pre e) z=(z2,false):=by rw [hrun,hsplit,run_go _ hr]; exact run_stop _ hrr
   rw [this]
   exact ⟨rfl,hC2,hc2⟩
  ·simp -implicitDefEqProofs only [BA,BR,A8,EH,ER,DI,AY,BB,AO,AQ,AL,BD,AX,AC,AA,AZ,AU,BH,BG,BQ,AB,DK,↓reduceIte,jC,jA,jV,jB,enP,f1,f2,f12,f13,f14,wrap_succ (show j < 9223372036854775807 by omega)]
   refine ⟨n - 1,by omega,j+1,z2,by omega,trivial,trivial,trivial,trivial,rfl,hC2,hc2,?_⟩
   rw [NT _ _ hj',run_go _ hr]; exact hrr
 ·have hj' : ¬ j < e.args.length:=by simpa using hlt
  simp -implicitDefEqProofs only [BC,BA,BJ,DW,A8,EG,EY,EZ,CJ,AY,BB,AO,AQ,AL,BD,AX,AC,AA,AU,BM,A7,↓reduceIte,jA,jB]
  rw [jW (by omega)] at hr
  rw [hrun,hr]
  exact ⟨rfl,hC,hcz⟩
theorem AE0 (G:Nat→AV) (k:FuncId) (upd:Ex→Int→Int) (cont:Int→Bool) (c:Nat) (e:Ex) (hw:wt e≤1099511627776) (hvis : ∀ x∈pre e,AQN G k upd cont x) (h:Hp) (z:Int) (hc:h[c]? = some (.live 1 [[.int .i64 z]])) :
  ACalls (En G) 68 [.agg (CY e),.fn (.func k) [] [.ptr c 0 0]] h fun _ h'=>Chg c h h'∧h'[c]? = some (.live 1 [[.int .i64 (run upd cont (pre e) z).1]]):=by
 have hcl:=CE hc
 refine acN Tryz.func68 rfl ?_
 show awp _ _ _ _ _ (D8 _ [] _)
 simp -implicitDefEqProofs only [BC,BA,A8,AY,BB,AO,AQ,AL,BD,AX,AC,AA,AZ,FO,FM,EI,G9,CB,BF,BL,jE,jD,↓reduceIte,jC,jA,jB,enP,jT,bxE,A8E,A1U]
 have g0:(h ++ [ABlk.live 4 [CY e]] ++ [ABlk.live 1 [[AV.fn (.func k) [] [.ptr c 0 0]]]] ++ [ABlk.live 1 [[AV.nilfn]]])[(h ++ [ABlk.live 4 [CY e]] ++ [ABlk.live 1 [[AV.fn (.func k) [] [.ptr c 0 0]]]]).length]? = some (.live 1 [[.nilfn]]):=CW _ _
 simp -implicitDefEqProofs only [BA,A8,AY,BB,AO,AQ,AL,BD,AX,ES,AA,AZ,BX,DT,↓reduceIte,jC,jA,jB,enP,QS A1D (A1X _ _ _) g0]
 generalize hdb:(h ++ [ABlk.live 4 [CY e]] ++ [ABlk.live 1 [[AV.fn (.func k) [] [.ptr c 0 0]]]]).length=db at g0 ⊢
 generalize hvb:(h ++ [ABlk.live 4 [CY e]]).length=vb
 have hvl:vb=h.length+1:=by rw [← hvb]; simp
 have hdl:db=h.length+2:=by rw [← hdb]; simp
 generalize hH:(h ++ [ABlk.live 4 [CY e]] ++ [ABlk.live 1 [[AV.fn (.func k) [] [.ptr c 0 0]]]] ++ [ABlk.live 1 [[AV.nilfn]]]).set db (.live 1 [[AV.fn (.func 104) [] [.ptr vb 0 0,.ptr db 0 0]]])=H
 have h1:H[db]? = some (.live 1 [[.fn (.func 104) [] [.ptr vb 0 0,.ptr db 0 0]]]):=by rw [← hH]; exact EJ g0
 have h2:H[vb]? = some (.live 1 [[.fn (.func k) [] [.ptr c 0 0]]]):=by
  rw [← hH]; refine DU ?_ (by omega)
  rw [← hvb]; exact CU (CW _ _)
 have h3:H[h.length]? = some (.live 4 [CY e]):=by
  rw [← hH]; refine DU ?_ (by omega)
  exact CU (CU (CW _ _))
 have h4:H[c]? = some (.live 1 [[.int .i64 z]]):=by
  rw [← hH]; refine DU ?_ (by omega)
  exact CU (CU (CU hc))
 have hC:Chg c h H:=by
  refine ⟨by rw [← hH]; simp,fun b hb hbc => ?_⟩
  obtain ⟨x,hx⟩ : ∃ x,h[b]? = some x:=⟨_,jL hb⟩
  rw [← hH,hx]
  exact DU (CU (CU (CU hx))) (by omega)
 simp -implicitDefEqProofs only [AY,AO,AQ,AL,BD,AX,AC,AA,AZ,BX,BZ,BO,AB,jE,jD,qF,qK,↓reduceIte,jC,jA,jB,enP,JF AF5 h1,MG h3]
 refine (ASM G k upd cont c vb db (by omega) (by omega) e hw hvis H z h4 h2 h1).mono ?_
 rintro v h' ⟨rfl,hch,hc1⟩
 simp -implicitDefEqProofs only [ADB,BB,AC]
 exact ⟨hC.trans hch,hc1⟩
theorem AMJ (G:Nat→AV) (e:Ex):AQN G 107 (fun _ z=>IntKind.i64.wrap (z+1)) (fun _=>true) e:=by
 intro h c z hc
 have hcl:=CE hc
 refine acN Tryz.func107 rfl ?_
 show awp _ _ _ _ _ (D8 _ [.tmp 3] _)
 simp -implicitDefEqProofs only [BC,BA,BJ,A8,CJ,AY,BB,AO,AQ,AL,BD,AX,AC,ES,AA,AZ,AU,BH,BM,A7,FM,BX,EI,BQ,CB,AB,DT,DK,BF,BL,↓reduceIte,jC,jA,jB,enP,jT,bxE,JF ag3 (CU hc),QS sz3 (U5 _ _) (CU hc)]
 exact ⟨trivial,(Chg.app c h _).trans (Chg.set c _ _),EJ (CU hc)⟩
theorem AKS (G:Nat→AV) (hG:GOk G) (e:Ex) (hl:e.name.size≤1048576):AQN G 69 (fun e _=>J8 e) (fun z=>z == 0) e:=by
 intro h c z hc
 have hcl:=CE hc
 refine acN Tryz.func69 rfl ?_
 show awp _ _ _ _ _ (D8 _ [.tmp 3] _)
 simp -implicitDefEqProofs only [BC,BA,A8,AY,BB,AO,AQ,AL,BD,AX,AC,AA,AZ,AU,BU,BM,A7,FM,BX,BZ,BO,CB,AB,BF,jE,jD,jF,↓reduceIte,jC,jA,jB,enP,bxE,ldE]
 refine (ARO G hG e _ hl).use ?_
 have hs:=EJ (y := .live 1 [[.int .i64 (J8 e)]]) (CU (x := .live 4 [CY e]) hc)
 simp -implicitDefEqProofs only [BC,BA,BJ,A8,CJ,AY,BB,AO,AQ,AL,BD,AX,AC,ES,AA,AZ,AU,BH,A7,BX,EI,BQ,AB,DT,DR,BF,BL,↓reduceIte,jC,jA,jB,enP,jT,QS A19 (U5 _ _) (CU hc),JF AXD hs]
 exact ⟨trivial,(Chg.app c h _).trans (Chg.set c _ _),hs⟩
theorem AIX : ∀ (xs:List Ex) (n:Nat),n+xs.length≤1099511627776→run (fun _ z=>IntKind.i64.wrap (z+1)) (fun _=>true) xs (n:Int)=(((n+xs.length:Nat):Int),true)
 | [],n,_=>rfl
 | x :: xs,n,h=>by
   simp only [zW] at h
   simp only [run,if_true]
   rw [wrap_succ (by omega),AIX xs (n+1) (by omega),zW]
   congr 1; omega
def errs (xs:List Ex):Int:=xs.foldl (fun z e=>if z=0 then J8 e else z) 0
theorem AHD : ∀ (xs:List Ex) (z:Int),z≠0→xs.foldl (fun z e=>if z=0 then J8 e else z) z=z
 | [],_,_=>rfl
 | x :: xs,z,h=>by rw [wF,if_neg h]; exact AHD xs z h
theorem AIZ : ∀ (xs:List Ex),(run (fun e _=>J8 e) (fun z=>z == 0) xs 0).1=errs xs
 | []=>rfl
 | x :: xs=>by
   simp only [run,errs,wF,if_true]
   rcases hn:(J8 x == 0) with _ | _
   ·have:J8 x≠0:=by simpa using hn
    rw [AHD _ _ this]; rfl
   ·have:J8 x=0:=by simpa using hn
    rw [this]; simp only [if_true]; exact AIZ xs
theorem AJG {x e:Ex} (hx:x∈pre e):x.name.size≤wt e:=by
 induction e using Ex.induct with | h e ih => ?_
 rw [pre_eq] at hx
 have hw:=L9 e
 rcases qI.1 hx with rfl | hx
 ·omega
 have : ∀ l:List Ex,(∀ a∈l,x∈pre a→x.name.size≤wt a)→x∈IQ l→x.name.size≤wts l:=by
  intro l
  induction l with
  | nil=>intro _ h; simp [IQ] at h
  | cons y l ih2 =>
    intro hh h
    simp only [IQ,zY] at h
    simp only [wts]
    rcases h with h | h
    ·have:=hh y (by simp) h; omega
    ·have:=ih2 (fun a ha=>hh a (by simp [ha])) h; omega
 have:=this e.args (fun a ha=>ih a ha) hx
 omega
theorem AQV (G:Nat→AV) (e:Ex) (h:Hp) (hw:wt e≤1099511627776):PCall (En G) 72 [.agg (CY e)] h (.int .i64 (pre e).length):=by
 refine ACalls.pure0 rfl ?_
 refine acN Tryz.func72 rfl ?_
 show awp _ _ _ _ _ (D8 _ [.tmp 2] _)
 have hg:=CW (h ++ [ABlk.live 4 [CY e]]) (.live 1 [[.int .i64 0]])
 have hs:(h ++ [ABlk.live 4 [CY e]] ++ [ABlk.live 1 [[.int .i64 0]]]).set (h ++ [ABlk.live 4 [CY e]]).length (.live 1 [[.int .i64 0]])=h ++ [ABlk.live 4 [CY e]] ++ [ABlk.live 1 [[.int .i64 0]]]:=AGG _ _ _
 simp -implicitDefEqProofs only [BC,BA,A8,AY,BB,AO,AQ,AL,BD,AX,AC,ES,AA,AZ,AU,BU,BH,A7,FO,FM,BX,EI,G9,BZ,BO,CB,AB,DT,BF,jE,jD,jF,↓reduceIte,jC,jA,jB,enP,jT,bxE,al3,QS sz3 (U5 _ _) hg,hs,MG (CU (CW h _))]
 refine (AE0 G 107 _ _ _ e hw (fun x _=>AMJ G x) _ 0 hg).mono ?_
 rintro v h' ⟨hch,hc1⟩
 simp -implicitDefEqProofs only [BC,BA,BJ,A8,CJ,AY,BB,AO,AQ,AL,BD,AX,AC,AA,AZ,A7,BX,AB,↓reduceIte,jC,jA,jB,enP,JF ag3 hc1]
 have:=AIX (pre e) 0 (by have:=AGM e; omega)
 simp only [jG] at this
 exact ⟨by rw [show (0:Int)=((0:Nat):Int) from rfl,this],(((Chg.app _ h _).trans (Chg.app _ _ _)).trans hch).above (by simp)⟩
theorem ANX (G:Nat→AV) (e:Ex):wt e≤1099511627776→∀ h:Hp,PCall (En G) 71 [.agg (CY e)] h (.int .i64 (dep e)):=by
 induction e using Ex.induct with | h e ih => ?_
 intro hw h
 have hal:e.args.length≤1099511627776:=by have:=SY e.args; have:=L9 e; omega
 refine ACalls.pure0 rfl ?_
 refine acN Tryz.func71 rfl ?_
 show awp _ _ _ _ _ (D8 _ [.tmp 2] _)
 simp -implicitDefEqProofs only [BC,BP,BA,A8,AY,BB,AO,AQ,AL,BD,AX,AC,AA,AZ,AU,BH,BG,A7,FM,BX,BN,D6,CB,AB,BF,↓reduceIte,jC,jG,jA,jB,enP,TW,MR,bxE,DV RQ,YG,jI]
 have hdw:dep e≤1099511627776:=qJ (AWB e) hw
 refine DY (fun n F H => ∃ j,n+j=e.args.length∧F 3 = .int .i64 (deps (e.args.take j):Nat)∧F 7 = .sl e.m 4 (e.args.map CY)∧F 8 = .int .i64 e.args.length∧F 9 = .int .i64 (j:Nat)∧∃ x,H=h ++ x) e.args.length ⟨0,by simp,by simp -implicitDefEqProofs only [AA,↓reduceIte,jC]; rfl,by simp -implicitDefEqProofs only [AA,↓reduceIte,jC],by simp -implicitDefEqProofs only [AA,↓reduceIte,jC],by simp -implicitDefEqProofs only [AA,↓reduceIte]; rfl,⟨_,rfl⟩⟩ ?_
 rintro n F H ⟨j,hj,f3,f7,f8,f9,x,rfl⟩
 simp -implicitDefEqProofs only [BC,BA,BI,A8,AY,BB,AO,AQ,AL,BD,AX,AC,AA,AZ,BQ,AB,C9,↓reduceIte,jA,jB,enP,f8,f9]
 refine CV (fun hlt => ?_) (fun hlt => ?_)
 ·have hj':j < e.args.length:=by simpa using hlt
  have hmem:e.args[j]∈e.args:=jO hj'
  simp -implicitDefEqProofs only [BC,BP,BA,BR,A8,AY,BB,AO,AQ,AL,BD,AX,AC,ES,AA,AZ,BU,BG,FO,BX,EI,CG,BZ,BO,CB,AB,DT,jE,jD,jF,↓reduceIte,jC,jA,jB,enP,WP,jT,f3,f7,f9,D7 hj',FP U4 MM H7 hj',AA5,AIM _ _ [.int .i64 0,.int .i64 0,.str ⟨#[]⟩,.sl .nil 0 []] rfl,ldE]
  refine (ih e.args[j] hmem (by have:=SX hmem; have:=L9 e; omega) _).use ?_
  simp -implicitDefEqProofs only [BA,A8,EH,ER,AY,BB,AO,AQ,AL,BD,AX,AC,AA,AZ,AU,BH,BG,A7,BQ,AOW,AB,DK,AGU,↓reduceIte,jC,jA,jB,enP,f7,f8,f9,wrap_succ (show j < 9223372036854775807 by omega)]
  refine ⟨n - 1,by omega,j+1,by omega,?_,trivial,trivial,rfl,_,by rw [zI]⟩
  rw [AFV _ _ hj']
  congr 1
  omega
 ·have hj' : ¬ j < e.args.length:=by simpa using hlt
  rw [jW (by omega)] at f3
  rw [AHH] at hdw ⊢
  simp -implicitDefEqProofs only [BC,BA,BJ,DW,A8,EG,EY,EZ,CJ,AY,BB,AO,AQ,AL,BD,AX,AC,AA,AZ,AU,BH,BG,A7,BQ,AB,DK,↓reduceIte,jC,jA,jB,enP,f3,wrap_succ (show deps e.args < 9223372036854775807 by omega)]
  exact ⟨trivial,x,rfl⟩
def exE (e:Ex):Int:=if errs (pre e)=0∧(24 < dep e∨400 < (pre e).length) then 2 else errs (pre e)
def WN (e:Ex):Prop:=wt e≤274877906944∧∀ x∈pre e,x.name.size≤1048576
theorem A1Y {e:Ex} (hw:wt e≤1048576):WN e:=⟨by omega,fun x hx=>by have:=AJG hx; omega⟩
theorem VZ (G:Nat→AV) (hG:GOk G) (e:Ex) (h:Hp) (hn:WN e):PCall (En G) 38 [.agg (CY e)] h (.int .i64 (exE e)):=by
 refine ACalls.pure0 rfl ?_
 refine acN Tryz.func38 rfl ?_
 show awp _ _ _ _ _ (D8 _ [.tmp 2] _)
 have hg:=CW (h ++ [ABlk.live 4 [CY e]]) (.live 1 [[.int .i64 0]])
 have hs:(h ++ [ABlk.live 4 [CY e]] ++ [ABlk.live 1 [[.int .i64 0]]]).set (h ++ [ABlk.live 4 [CY e]]).length (.live 1 [[.int .i64 0]])=h ++ [ABlk.live 4 [CY e]] ++ [ABlk.live 1 [[.int .i64 0]]]:=AGG _ _ _
 have hb:=CU (x:=ABlk.live 1 [[.int .i64 0]]) (CW h (.live 4 [CY e]))
 have hw:=hn.1
 simp -implicitDefEqProofs only [BC,BA,A8,AY,BB,AO,AQ,AL,BD,AX,AC,ES,AA,AZ,AU,BU,BH,A7,FO,FM,BX,EI,G9,BZ,BO,CB,AB,DT,BF,jE,jD,jF,↓reduceIte,jC,jA,jB,enP,jT,bxE,A8L,QS A19 (U5 _ _) hg,hs,MG hb]
 refine (AE0 G 69 _ _ _ e (by omega) (fun x hx=>AKS G hG x (hn.2 x hx)) _ 0 hg).mono ?_
 rintro v h' ⟨hch,hc1⟩
 rw [AIZ] at hc1
 have hb':=hch.get hb (by simp)
 have hab:=(((Chg.app _ h _).trans (Chg.app _ _ _)).trans hch).above (show h.length≤(h ++ [ABlk.live 4 [CY e]]).length by simp)
 simp -implicitDefEqProofs only [BC,BA,A8,AY,BB,BK,BV,CO,AO,AQ,AL,BD,AX,AC,AA,AZ,AU,BH,BG,BX,BQ,AB,DR,↓reduceIte,jC,jA,jB,enP,JF AXD hc1]
 rcases he:(errs (pre e) == 0) with _ | _
 ·simp -implicitDefEqProofs only [BC,BA,BR,BJ,BI,A8,CJ,DI,AY,BB,BK,BV,CO,JD,UA,AO,AQ,AL,BD,AX,AC,AA,EK,AZ,AU,BM,A7,CP,DN,BX,AB,↓reduceIte,jC,jA,jB,enP,JF AXD hc1]
  have:errs (pre e)≠0:=by simpa using he
  exact ⟨by unfold exE; rw [if_neg (fun hh=>this hh.1)],hab⟩
 have he0:errs (pre e)=0:=by simpa using he
 simp -implicitDefEqProofs only [BK,BV,CO,FY,AO,AQ,AL,BD,AX,AC,AA,AZ,BU,BX,BZ,BO,AB,jE,jD,jF,↓reduceIte,jC,jA,jB,enP,MG hb']
 refine (ANX G e (by omega) _).use ?_
 simp -implicitDefEqProofs only [BK,BV,CO,FY,AO,AQ,AL,BD,AX,AC,AA,AZ,AU,BH,BG,BQ,AB,FD,↓reduceIte,jC,jA,jB,enP]
 refine JE (fun hd => ?_) (fun hd => ?_)
 ·simp -implicitDefEqProofs only [BC,BA,BJ,BI,A8,CQ,CJ,CZ,AY,BB,BK,BV,CO,FY,FI,AO,AQ,AL,BD,AX,AC,AA,EK,AZ,AU,BH,BM,A7,CP,DL,↓reduceIte,jC,jA,jB,hd]
  exact ⟨by unfold exE; rw [if_pos ⟨he0,.inl (by simp at hd; omega)⟩],hab⟩
 simp -implicitDefEqProofs only [BK,BV,CO,EF,AO,AQ,AL,BD,AX,AC,AA,AZ,BU,BX,BZ,BO,AB,jE,jD,jF,↓reduceIte,jC,jA,jB,enP,hd,MG hb']
 refine (AQV G e _ (by omega)).use ?_
 simp -implicitDefEqProofs only [BI,A8,AY,BB,BK,BV,CO,FY,EF,AO,AQ,AL,BD,AX,AC,AA,AZ,AU,BH,BM,CP,DL,DN,BQ,AB,FD,↓reduceIte,jC,jA,jB,enP]
 refine CV (fun hn => ?_) (fun hn => ?_)
 ·simp -implicitDefEqProofs only [BC,BA,BJ,A8,CQ,CJ,AY,BB,AO,AQ,AL,BD,AX,AC,AA,AU,BH,A7,↓reduceIte,jA,jB]
  exact ⟨by unfold exE; rw [if_pos ⟨he0,.inr (by simp at hn; omega)⟩],hab⟩
 ·simp -implicitDefEqProofs only [BC,BA,BR,BJ,A8,CJ,AY,BB,AO,AQ,AL,BD,AX,AC,AA,AZ,A7,BX,AB,↓reduceIte,jC,jA,jB,enP,JF AXD hc1]
  exact ⟨by unfold exE; rw [if_neg (fun hh=>by simp at hn hd; omega)],hab⟩
theorem YB (G:Nat→AV) (hG:GOk G) (e:Ex) (h:Hp) (hw:wt e≤1048576):PCall (En G) 38 [.agg (CY e)] h (.int .i64 (exE e)):=VZ G hG e h (A1Y hw)
theorem SG {E:Env} {H:Hint} {x y:Code} {F:Fr} {h:Hp} {Q:AEx→Fr→Hp→Prop} {b:Bool} (N R:Fr→Hp→Prop) (h1:b=true→awp E H x F h (AUU N R)) (h2:b=false→awp E H y F h (AUU N R)) (hn : ∀ F h,N F h→Q .normal F h) (hr : ∀ F h,R F h→Q .ret F h) :
 ADN E H x y F h Q (.bool b):=⟨fun e=>AHR N R (h1 e) hn hr,fun e=>AHR N R (h2 e) hn hr⟩
def isB (v:AV) (b:Nat):Prop:=match v with
 | .own b' _ _=>b'=b
 | _=>False
def sv (h:Hp) (m:Nat) (v:AV):Prop := ∃ vs:List ByteArray,vs.length≤m∧((vs = []∧∃ k,v = .sl .nil k [])∨∃ b,v = .own b 0 vs.length∧h[b]? = some (.live 1 (vs.map encStr)))
theorem AZR (G:Nat→AV) (k:Nat) (v:ByteArray) (h:Hp):PCall (En G) 154 [.sl .nil k [],.str v] h (.bool false):=by
 refine acN Tryz.func154 rfl ?_
 show awp _ _ _ _ _ (D8 _ [.tmp 4] _)
 simp -implicitDefEqProofs only [BC,BP,BA,A8,AY,BB,AO,AQ,AL,BD,AX,AC,AU,BH,BM,A7,jA,jB,enP]
 refine DY (fun n F H=>F 0 = .sl .nil k []∧F 5 = .int .i64 0∧H=h) 0 ⟨rfl,rfl,rfl⟩ ?_
 rintro n F H ⟨f0,f5,rfl⟩
 simp -implicitDefEqProofs only [BC,BA,BI,A8,AY,BB,AO,AQ,AL,BD,AX,AC,AA,AZ,BG,BQ,D6,AB,C9,↓reduceIte,jC,jA,jB,enP,AJX,f0,f5,List.length_nil]
 have:decide ((0:Int) < ((0:Nat):Int))=false:=by simp
 simp -implicitDefEqProofs only [BC,BA,BJ,DW,A8,EG,EY,EZ,CJ,DI,AY,BB,AO,AQ,AL,BD,AX,AC,AA,AU,BM,A7,↓reduceIte,jA,jB,this]
 exact ⟨trivial,trivial⟩
theorem row_map {α:Type} {f:α→List AV} {xs:List α} {k:Nat} (hk:k < xs.length):(xs.map f)[k]? = some (f xs[k]):=by
 rw [jX,jL hk]; rfl
theorem FQ {h x:Hp} {y:ABlk} {b:Nat} (hb:h[b]? = some y):(h ++ x)[b]? = some y:=by
 rw [zM (CE hb)]; exact hb
theorem AZQ (G:Nat→AV) (xs:List ByteArray) (b:Nat) (v:ByteArray) (h:Hp) (hb:h[b]? = some (.live 1 (xs.map encStr))) (hl:xs.length≤1099511627776) :
  PCall (En G) 154 [.own b 0 xs.length,.str v] h (.bool (JU xs v)):=by
 refine acN Tryz.func154 rfl ?_
 show awp _ _ _ _ _ (D8 _ [.tmp 4] _)
 simp -implicitDefEqProofs only [BC,BP,BA,A8,AY,BB,AO,AQ,AL,BD,AX,AC,AU,BH,BM,A7,jA,jB,enP]
 refine DY (fun n F H => ∃ k,n+k=xs.length∧F 0 = .own b 0 xs.length∧F 1 = .str v∧F 5 = .int .i64 (k:Nat)∧H=h∧JU xs v=JU (xs.drop k) v) xs.length ⟨0,by simp,rfl,rfl,rfl,rfl,rfl⟩ ?_
 rintro n F H ⟨k,hk,f0,f1,f5,rfl,hin⟩
 simp -implicitDefEqProofs only [BC,BA,BI,A8,AY,BB,AO,AQ,AL,BD,AX,AC,AA,AZ,BG,BQ,D6,AB,C9,↓reduceIte,jC,jA,jB,enP,AJX,f0,f1,f5]
 refine CV (fun hc => ?_) (fun hc => ?_)
 ·have hc':k < xs.length:=by simpa using hc
  have hs:JU (xs.drop k) v=((v.toList == xs[k].toList) || JU (xs.drop (k+1)) v):=QL _ xs k hc'
  have l1:DX Tryz.prog H 9 (.ptr b k 0)=some (.str xs[k]):=by rw [DJ ag9 hb (row:=encStr xs[k]) (row_map hc')]; rfl
  simp -implicitDefEqProofs only [BC,BP,BA,BR,BI,A8,AY,BB,AO,AQ,AL,BD,AX,AC,AA,AZ,BG,BX,BQ,CG,AB,MK,↓reduceIte,jC,jG,jA,jB,enP,AR0,f0,f1,f5,I5 hb hc',l1]
  refine CV (fun hb => ?_) (fun hb => ?_)
  ·simp -implicitDefEqProofs only [BC,BA,BJ,A8,CQ,ED,F7,CJ,AY,BB,AO,AQ,AL,BD,AX,AC,AA,AU,BM,A7,↓reduceIte,jA,jB]
   refine ⟨?_,trivial⟩
   rw [hin,hs,show (v.toList == xs[k].toList)=true by rw [BEq.comm]; exact hb]; rfl
  ·simp -implicitDefEqProofs only [BA,BR,A8,EH,ER,AY,BB,AO,AQ,AL,BD,AX,AC,AA,AZ,AU,BH,BG,A7,BQ,AB,DK,↓reduceIte,jC,jA,jB,enP,f5,wrap_succ (show k < 9223372036854775807 by omega)]
   refine ⟨n - 1,by omega,k+1,by omega,f0,f1,rfl,trivial,?_⟩
   rw [hin,hs,show (v.toList == xs[k].toList)=false by rw [BEq.comm]; exact hb]; rfl
 ·have hc' : ¬ k < xs.length:=by simpa using hc
  simp -implicitDefEqProofs only [BC,BA,BJ,DW,A8,EG,EY,EZ,CJ,AY,BB,AO,AQ,AL,BD,AX,AC,AA,AU,BM,A7,↓reduceIte,jA,jB]
  exact ⟨by rw [hin,zG (by omega)]; rfl,trivial⟩
theorem AVM (G:Nat→AV) {h:Hp} {m:Nat} {v:AV} (s:ByteArray) (hv:sv h m v) (hm:m≤1099511627776) : ∃ r,PCall (En G) 154 [v,.str s] h (.bool r):=by
 obtain ⟨vs,hl,⟨_,k,rfl⟩ | ⟨b,rfl,hb⟩⟩:=hv
 ·exact ⟨_,AZR G k s h⟩
 ·exact ⟨_,AZQ G vs b s h hb (by omega)⟩
theorem AWQ (h:Hp) (s:ByteArray):EN Tryz.prog false h 65 1 [(0,.str s)]=some (.sl .full 1 [[.str s]],h):=by kernel_rfl
theorem AW7 {h:Hp} {m:Nat} {v:AV} (s:ByteArray) (hv:sv h m v) (hm:m≤1099511627776) : ∃ v' h',FZ Tryz.prog true h 65 65 v (.sl .full 1 [[.str s]])=some (v',h')∧sv h' (m+1) v'∧(∀ b,isB v' b→b=h.length) ∧
  h.length≤h'.length∧∀ b,b < h.length→¬ isB v b→h'[b]? = h[b]? := by
 obtain ⟨vs,hl,⟨rfl,k,rfl⟩ | ⟨b,rfl,hb⟩⟩:=hv
 ·refine ⟨_,_,PX AX2 sz9 AXQ A0I (IM h .full 1 [[.str s]]) (by simp) (IX (by simp) (by omega)),⟨[s],by simp,.inr ⟨h.length,rfl,CW _ _⟩⟩,fun b hb=>hb.symm,by simp,fun b hb _=>zM hb⟩
 ·have hc:JP h (.own b 0 vs.length)=some (1,vs.map encStr):=by
   rw [LG hb (by simp),zO,jW (by simp)]
  refine ⟨_,_,PW AX2 sz9 AXQ A0I hc (IM h .full 1 [[.str s]]) (by simp) (by unfold room; simp; omega),⟨vs ++ [s],by simp; omega,.inr ⟨h.length,by simp,by simp [encStr]⟩⟩,fun b hb=>hb.symm,by simp,fun o ho hn => ?_⟩
  rw [zM (by simpa using ho)]
  have hn' : ¬ b=o:=hn
  rw [zB,if_neg hn']
def wRow (n dd:Nat) (f:Int) (v1 v2:AV):List AV := [.int .i64 n,.int .i64 dd,.int .i64 f,v1,v2]
structure St (h:Hp) (c m1 m2 n dd:Nat) (f:Int) (v1 v2:AV):Prop where
 w:h[c]? = some (.live 5 [wRow n dd f v1 v2])
 s1:sv h m1 v1
 s2:sv h m2 v2
 ap : ∀ b,isB v1 b→¬ isB v2 b
theorem sv.b {h:Hp} {m:Nat} {v:AV} {b:Nat} (hs:sv h m v) (hb:isB v b) : ∃ vs:List ByteArray,h[b]? = some (.live 1 (vs.map encStr)):=by
 obtain ⟨vs,_,⟨_,k,rfl⟩ | ⟨b',rfl,h'⟩⟩:=hs
 ·exact hb.elim
 ·cases hb; exact ⟨vs,h'⟩
theorem sv.ne {h:Hp} {m b c:Nat} {v:AV} {row:List AV} (hs:sv h m v) (hc:h[c]? = some (.live 5 [row])) (hb:isB v b):b≠c:=by
 intro e; subst e
 obtain ⟨vs,h'⟩:=hs.b hb
 rw [h'] at hc; cases hc
theorem sv.keep {h h':Hp} {m m':Nat} {v:AV} (hs:sv h m v) (hm:m≤m') (hk : ∀ b,isB v b→h'[b]? = h[b]?):sv h' m' v:=by
 obtain ⟨vs,hl,⟨e,k,rfl⟩ | ⟨b,rfl,hb⟩⟩:=hs
 ·exact ⟨vs,by omega,.inl ⟨e,k,rfl⟩⟩
 ·exact ⟨vs,by omega,.inr ⟨b,rfl,by rw [hk b rfl]; exact hb⟩⟩
structure Ch (c:Nat) (v1 v2:AV) (h:Hp) (v1' v2':AV) (h':Hp):Prop where
 len:h.length≤h'.length
 get : ∀ b,b < h.length→b≠c→¬ isB v1 b→¬ isB v2 b→h'[b]? = h[b]?
 n1 : ∀ b,isB v1' b→isB v1 b∨h.length≤b
 n2 : ∀ b,isB v2' b→isB v2 b∨h.length≤b
theorem Ch.refl (c:Nat) (v1 v2:AV) (h:Hp):Ch c v1 v2 h v1 v2 h:=⟨jK _,fun _ _ _ _ _=>rfl,fun _ h => .inl h,fun _ h => .inl h⟩
theorem Ch.trans {c:Nat} {v1 v2 u1 u2 w1 w2:AV} {a b d:Hp} (h1:Ch c v1 v2 a u1 u2 b) (h2:Ch c u1 u2 b w1 w2 d):Ch c v1 v2 a w1 w2 d:=by
 refine ⟨qJ h1.len h2.len,fun i hi hc hv hu => ?_,fun i hi => ?_,fun i hi => ?_⟩
 ·rw [h2.get i (Nat.lt_of_lt_of_le hi h1.len) hc (fun e=>(h1.n1 i e).elim hv (fun e=>by omega)) (fun e=>(h1.n2 i e).elim hu (fun e=>by omega)),h1.get i hi hc hv hu]
 ·rcases h2.n1 i hi with h | h
  ·exact h1.n1 i h
  ·exact .inr (qJ h1.len h)
 ·rcases h2.n2 i hi with h | h
  ·exact h1.n2 i h
  ·exact .inr (qJ h1.len h)
theorem Ch.app (c:Nat) (v1 v2:AV) (h x:Hp):Ch c v1 v2 h v1 v2 (h ++ x):=⟨by simp,fun _ hi _ _ _=>zM hi,fun _ h => .inl h,fun _ h => .inl h⟩
theorem Ch.set (c:Nat) (v1 v2:AV) (h:Hp) (x:ABlk):Ch c v1 v2 h v1 v2 (h.set c x):=⟨by simp,fun _ _ hc _ _=>by rw [zB,if_neg (fun e=>hc e.symm)],fun _ h => .inl h,fun _ h => .inl h⟩
theorem St.app {h:Hp} {c m1 m2 n dd:Nat} {f:Int} {v1 v2:AV} (s:St h c m1 m2 n dd f v1 v2) (x:Hp):St (h ++ x) c m1 m2 n dd f v1 v2:=by
 have keep : ∀ v m,sv h m v→sv (h ++ x) m v:=fun v m hv=>hv.keep (jK _) fun b hb=>by
  obtain ⟨vs,h'⟩:=hv.b hb
  exact zM (CE h')
 exact ⟨FQ s.w,keep _ _ s.s1,keep _ _ s.s2,s.ap⟩
theorem St.set {h:Hp} {c m1 m2 n dd:Nat} {f:Int} {v1 v2:AV} (s:St h c m1 m2 n dd f v1 v2) (n' dd':Nat) (f':Int):St (h.set c (.live 5 [wRow n' dd' f' v1 v2])) c m1 m2 n' dd' f' v1 v2:=by
 have keep : ∀ v m,sv h m v→sv (h.set c (.live 5 [wRow n' dd' f' v1 v2])) m v:=fun v m hv=>hv.keep (jK _) fun b hb=>by
  rw [zB,if_neg (fun e=>hv.ne s.w hb e.symm)]
 exact ⟨EJ s.w,keep _ _ s.s1,keep _ _ s.s2,s.ap⟩
section
variable {h:Hp} {c m1 m2 n dd:Nat} {f:Int} {v1 v2:AV} (s:St h c m1 m2 n dd f v1 v2)
include s
theorem St.l0:DX Tryz.prog h 3 (.ptr c 0 0)=some (.int .i64 n):=by rw [DJ ag3 s.w (row:=wRow n dd f v1 v2) rfl]; rfl
theorem St.l1:DX Tryz.prog h 3 (.ptr c 0 1)=some (.int .i64 dd):=by rw [DJ ag3 s.w (row:=wRow n dd f v1 v2) rfl]; rfl
theorem St.l2:DX Tryz.prog h 34 (.ptr c 0 2)=some (.int .i64 f):=by rw [DJ AXD s.w (row:=wRow n dd f v1 v2) rfl]; rfl
theorem St.l3:DX Tryz.prog h 65 (.ptr c 0 3)=some v1:=by rw [DJ AS3 s.w (row:=wRow n dd f v1 v2) rfl]; rfl
theorem St.l4:DX Tryz.prog h 65 (.ptr c 0 4)=some v2:=by rw [DJ AS3 s.w (row:=wRow n dd f v1 v2) rfl]; rfl
theorem St.t0 (x:Nat):FB Tryz.prog h 3 (.ptr c 0 0) (.int .i64 x)=some (h.set c (.live 5 [wRow x dd f v1 v2])):=by
 rw [JC (U5 _ _) sz3 s.w (row:=wRow n dd f v1 v2) rfl (by simp [wRow])]; rfl
theorem St.t1 (x:Nat):FB Tryz.prog h 3 (.ptr c 0 1) (.int .i64 x)=some (h.set c (.live 5 [wRow n x f v1 v2])):=by
 rw [JC (U5 _ _) sz3 s.w (row:=wRow n dd f v1 v2) rfl (by simp [wRow])]; rfl
theorem St.t2 (x:Int):FB Tryz.prog h 34 (.ptr c 0 2) (.int .i64 x)=some (h.set c (.live 5 [wRow n dd x v1 v2])):=by
 rw [JC (U5 _ _) A19 s.w (row:=wRow n dd f v1 v2) rfl (by simp [wRow])]; rfl
end
theorem St.app3 {h:Hp} {c m1 m2 n dd:Nat} {f:Int} {v1 v2:AV} (s:St h c m1 m2 n dd f v1 v2) (x:ByteArray) (hm:m1≤1099511627776) :
  ∃ v' h',FZ Tryz.prog true h 65 65 v1 (.sl .full 1 [[.str x]])=some (v',h')∧FB Tryz.prog h' 65 (.ptr c 0 3) v'=some (h'.set c (.live 5 [wRow n dd f v' v2])) ∧
    St (h'.set c (.live 5 [wRow n dd f v' v2])) c (m1+1) m2 n dd f v' v2∧Ch c v1 v2 h v' v2 (h'.set c (.live 5 [wRow n dd f v' v2])):=by
 obtain ⟨v',h',ha,hs,hb,hl,hk⟩:=AW7 x s.s1 hm
 have hc1 : ¬ isB v1 c:=fun e=>s.s1.ne s.w e rfl
 have hc2 : ¬ isB v2 c:=fun e=>s.s2.ne s.w e rfl
 have hcl:=CE s.w
 have hw:h'[c]? = some (.live 5 [wRow n dd f v1 v2]):=by rw [hk c hcl hc1]; exact s.w
 have hvc : ∀ b,isB v' b→b≠c:=fun b hb' e=>by have:=hb b hb'; omega
 have hac:IW v'=some [v']:=by
  obtain ⟨vs,_,⟨_,k,rfl⟩ | ⟨b,rfl,_⟩⟩:=hs <;> rfl
 refine ⟨v',h',ha,by rw [JC hac A17 hw (row:=wRow n dd f v1 v2) rfl (by simp [wRow])]; rfl,⟨EJ hw,hs.keep (jK _) fun b hb' => ?_,s.s2.keep (jK _) fun b hb' => ?_,fun b h1 h2 => ?_⟩,⟨by simpa using hl,fun b hbl hne h1 h2 => ?_,fun b hb' => .inr (by rw [hb b hb']; exact jK _),fun b hb' => .inl hb'⟩⟩
 ·rw [zB,if_neg (fun e=>hvc b hb' e.symm)]
 ·obtain ⟨_,hx⟩:=s.s2.b hb'
  rw [zB,if_neg (fun e=>hc2 (by rw [e]; exact hb')),hk b (CE hx) (fun e=>s.ap b e hb')]
 ·obtain ⟨_,hx⟩:=s.s2.b h2
  have:=hb b h1; have:=CE hx; omega
 ·rw [zB,if_neg (fun e=>hne e.symm),hk b hbl h1]
theorem St.app4 {h:Hp} {c m1 m2 n dd:Nat} {f:Int} {v1 v2:AV} (s:St h c m1 m2 n dd f v1 v2) (x:ByteArray) (hm:m2≤1099511627776) :
  ∃ v' h',FZ Tryz.prog true h 65 65 v2 (.sl .full 1 [[.str x]])=some (v',h')∧FB Tryz.prog h' 65 (.ptr c 0 4) v'=some (h'.set c (.live 5 [wRow n dd f v1 v'])) ∧
    St (h'.set c (.live 5 [wRow n dd f v1 v'])) c m1 (m2+1) n dd f v1 v'∧Ch c v1 v2 h v1 v' (h'.set c (.live 5 [wRow n dd f v1 v'])):=by
 obtain ⟨v',h',ha,hs,hb,hl,hk⟩:=AW7 x s.s2 hm
 have hc1 : ¬ isB v1 c:=fun e=>s.s1.ne s.w e rfl
 have hc2 : ¬ isB v2 c:=fun e=>s.s2.ne s.w e rfl
 have hcl:=CE s.w
 have hw:h'[c]? = some (.live 5 [wRow n dd f v1 v2]):=by rw [hk c hcl hc2]; exact s.w
 have hvc : ∀ b,isB v' b→b≠c:=fun b hb' e=>by have:=hb b hb'; omega
 have hac:IW v'=some [v']:=by
  obtain ⟨vs,_,⟨_,k,rfl⟩ | ⟨b,rfl,_⟩⟩:=hs <;> rfl
 refine ⟨v',h',ha,by rw [JC hac A17 hw (row:=wRow n dd f v1 v2) rfl (by simp [wRow])]; rfl,⟨EJ hw,s.s1.keep (jK _) fun b hb' => ?_,hs.keep (jK _) fun b hb' => ?_,fun b h1 h2 => ?_⟩,⟨by simpa using hl,fun b hbl hne h1 h2 => ?_,fun b hb' => .inl hb',fun b hb' => .inr (by rw [hb b hb']; exact jK _)⟩⟩
 ·obtain ⟨_,hx⟩:=s.s1.b hb'
  rw [zB,if_neg (fun e=>hc1 (by rw [e]; exact hb')),hk b (CE hx) (fun e=>s.ap b hb' e)]
 ·rw [zB,if_neg (fun e=>hvc b hb' e.symm)]
 ·obtain ⟨_,hx⟩:=s.s1.b h1
  have:=hb b h2; have:=CE hx; omega
 ·rw [zB,if_neg (fun e=>hne e.symm),hk b hbl h2]
def VN (z:Int) (xs:List Ex):Int:=xs.foldl (fun z e=>if z=0 then J8 e else z) z
theorem AKV (z:Int) (xs ys:List Ex):VN z (xs ++ ys)=VN (VN z xs) ys:=List.foldl_append
theorem St.weak {h:Hp} {c m1 m2 m1' m2' n dd:Nat} {f:Int} {v1 v2:AV} (s:St h c m1 m2 n dd f v1 v2) (h1:m1≤m1') (h2:m2≤m2'):St h c m1' m2' n dd f v1 v2 :=
 ⟨s.w,s.s1.keep h1 fun _ _=>rfl,s.s2.keep h2 fun _ _=>rfl,s.ap⟩
def Md (e:Ex) (c d:Nat) (v1 v2:AV) (h:Hp) (m1 m2 n dd:Nat) (f:Int) (F:Nat→AV) (H:Hp):Prop :=
 F 0 = .ptr c 0 0∧F 2 = .int .i64 (d:Nat)∧F 4 = .ptr h.length 0 0∧∃ u1 u2,St H c m1 m2 n dd f u1 u2∧Ch c v1 v2 (h ++ [.live 4 [CY e]]) u1 u2 H
theorem AJD (xs:List Ex):(IQ xs).length≤wts xs:=by
 induction xs with
 | nil=>simp [IQ,wts]
 | cons x xs ih=>have:=AGM x; simp only [IQ,wts,zZ]; omega
theorem AH4 : ∀ (xs:List Ex) (j:Nat) (hj:j < xs.length),wts (xs.take j)+wt xs[j]≤wts xs
 | x :: xs,0,_=>by simp [wts]
 | x :: xs,j+1,h=>by
   have:=AH4 xs j (by simpa using h)
   simp only [List.take_succ_cons,wts,List.getElem_cons_succ]; omega
theorem YJ : ∀ (xs:List Ex) (j:Nat),deps (xs.take j)≤wts xs
 | [],j=>by simp [deps,wts]
 | x :: xs,0=>by simp [deps]
 | x :: xs,j+1=>by
   have h1:=YJ xs j
   have h2:=AWB x
   simp only [List.take_succ_cons,deps,wts]; omega
theorem AYE (G:Nat→AV) (c:Nat) (e:Ex):WN e→∀ (h:Hp) (d n dd:Nat) (f:Int) (v1 v2:AV),d+wt e≤549755813888→n+wt e≤549755813888→dd≤1099511627776→St h c n n n dd f v1 v2 →
  ACalls (En G) 110 [.ptr c 0 0,.agg (CY e),.int .i64 (d:Nat)] h fun _ h' => ∃ u1 u2,St h' c (n+(pre e).length) (n+(pre e).length) (n+(pre e).length) (max dd (d+deps e.args)) (VN f (pre e)) u1 u2∧Ch c v1 v2 h u1 u2 h':=by
 induction e using Ex.induct with | h e ih => ?_
 intro hwn h d n dd f v1 v2 hd hn hdd s
 have hw:=hwn.1
 have hnm:e.name.size≤1048576:=hwn.2 e (by rw [pre_eq]; simp)
 have hal:e.args.length≤wts e.args:=SY e.args
 have hwe:=L9 e
 have hcl:=CE s.w
 have hbox : ∀ (u1 u2:AV) (H:Hp),Ch c v1 v2 (h ++ [.live 4 [CY e]]) u1 u2 H→H[h.length]? = some (.live 4 [CY e]):=by
  intro u1 u2 H hC
  rw [hC.get h.length (by simp) (by omega) (fun hb => ?_) (fun hb => ?_)]
  ·exact CW _ _
  ·obtain ⟨_,hx⟩:=s.s1.b hb
   have:=CE hx; omega
  ·obtain ⟨_,hx⟩:=s.s2.b hb
   have:=CE hx; omega
 have lb0 : ∀ H:Hp,H[h.length]? = some (.live 4 [CY e])→DX Tryz.prog H 3 (.ptr h.length 0 0)=some (.int .i64 e.op):=fun H hH=>by rw [DJ ag3 hH (row:=CY e) rfl,J4]
 have lb2 : ∀ H:Hp,H[h.length]? = some (.live 4 [CY e])→DX Tryz.prog H 9 (.ptr h.length 0 2)=some (.str e.name):=fun H hH=>by rw [DJ ag9 hH (row:=CY e) rfl,PO]
 have lb3 : ∀ H:Hp,H[h.length]? = some (.live 4 [CY e])→DX Tryz.prog H 46 (.ptr h.length 0 3)=some (.sl e.m 4 (e.args.map CY)):=fun H hH=>by rw [DJ RQ hH (row:=CY e) rfl,YG]
 refine NY (H:=hint [56,85] []) (enM G) Tryz.func110 rfl (by kernel_rfl) (by kernel_rfl) (jH (by kernel_rfl)) ?_
 show awp _ _ _ _ _ (D8 _ [] _)
 have s0:=s.app [.live 4 [CY e]]
 have c0:=Ch.app c v1 v2 h [.live 4 [CY e]]
 simp -implicitDefEqProofs only [DC,jS,jJ,jP,jR,BC,BA,A8,AY,BB,AL,BD,AX,AC,ES,AA,AZ,AU,BH,BG,FM,BX,EI,BQ,BN,CB,AB,DT,DK,BF,BL,↓reduceIte,jC,jM,jG,jA,jB,enP,AP7,AHA,D5,jT,GR,IV,bxE,s0.l0,wrap_succ (show n < 9223372036854775807 by omega),s0.t0]
 have s1:=s0.set (n+1) dd f
 have c1:=Ch.set c v1 v2 (h ++ [.live 4 [CY e]]) (.live 5 [wRow (n+1) dd f v1 v2])
 clear s0
 generalize (h ++ [ABlk.live 4 [CY e]]).set c (.live 5 [wRow (n+1) dd f v1 v2])=H1 at s1 c1 ⊢
 simp -implicitDefEqProofs only [DC,jS,jJ,jP,jR,BI,A8,AY,BB,AL,BD,AX,AC,AA,AZ,BQ,AB,FD,↓reduceIte,jC,jA,jB,enP,D5,s1.l1]
 refine SG (Md e c d v1 v2 h n n (n+1) (max dd d) f) (fun _ _=>False) (fun hb => ?_) (fun hb => ?_) ?_ (fun _ _ hh=>hh.elim)
 ·simp -implicitDefEqProofs only [DC,jS,jJ,jP,jR,BA,QC,AY,BB,AL,BD,AX,AC,ES,AA,AZ,BG,EI,BN,AB,DT,BF,BL,↓reduceIte,jC,jG,jA,jB,enP,AHA,D5,jT,GR,IV,s1.t1]
  refine ⟨rfl,rfl,rfl,v1,v2,?_,c1.trans (Ch.set c _ _ _ _)⟩
  have:max dd d=d:=by simp at hb; omega
  rw [this]
  exact s1.set (n+1) d f
 ·simp -implicitDefEqProofs only [BR,QC]
  refine ⟨rfl,rfl,rfl,v1,v2,?_,c1⟩
  have:max dd d=dd:=by simp at hb; omega
  rw [this]
  exact s1
 clear s1 c1
 rintro F H ⟨f0,f2,f4,u1,u2,s,hC⟩
 simp -implicitDefEqProofs only [DC,jS,jJ,jP,jR,BC,BA,BI,A8,AY,BB,AL,BD,AX,AC,AA,AZ,AU,BH,BG,BX,BQ,BN,AB,DR,↓reduceIte,jG,jA,jB,enP,YA,D5,GR,IV,f0,s.l2]
 refine SG (Md e c d v1 v2 h n n (n+1) (max dd d) (VN f [e])) (fun _ _=>False) (fun hb => ?_) (fun hb => ?_) ?_ (fun _ _ hh=>hh.elim)
 ·simp -implicitDefEqProofs only [DC,jS,jJ,jP,jR,BA,AY,AL,BD,AX,AC,AA,AZ,BU,BG,BX,BZ,BO,AB,jE,jD,jF,↓reduceIte,jC,jA,jB,enP,D5,f0,f2,f4,MG (hbox _ _ _ hC)]
  refine (AQO G e _ hnm).use ?_
  simp -implicitDefEqProofs only [DC,jS,jJ,jP,jR,QC,AY,BB,AL,BD,AX,AC,ES,AA,AZ,EI,BN,AB,DT,↓reduceIte,jC,jG,jA,jB,enP,YA,D5,jT,GR,IV,s.t2,f0,f2,f4]
  refine ⟨f0,f2,f4,u1,u2,?_,hC.trans (Ch.set c _ _ _ _)⟩
  have:VN f [e]=J8 e:=by
   have:f=0:=by simpa using hb
   subst this; rfl
  rw [this]
  exact s.set _ _ _
 ·simp -implicitDefEqProofs only [BR,QC]
  refine ⟨f0,f2,f4,u1,u2,?_,hC⟩
  have:VN f [e]=f:=by
   have:f≠0:=by simpa using hb
   show (if f=0 then J8 e else f)=f
   rw [if_neg this]
  rw [this]; exact s
 clear f0 f2 f4 s hC
 rintro F H ⟨f0,f2,f4,u1,u2,s,hC⟩
 simp -implicitDefEqProofs only [BC,A8]
 refine FN (by kernel_rfl) ?_
 have hB:=hbox _ _ _ hC
 refine AXO (fun F H=>(∃ b,F 47 = .bool b)∧Md e c d v1 v2 h n n (n+1) (max dd d) (VN f [e]) F H) ?_ ?_
 ·cases b2:(e.op == 2)
  ·simp -implicitDefEqProofs only [G5,DC,jS,jJ,jP,jR,EM,D9,FU,EQ,GK,IY,AGA,GH,KA,FT,J7,EX,CO,AA,EK,AZ,AU,BH,BM,CP,DN,BX,BQ,BN,AB,DR,↓reduceIte,jC,jQ,jM,jA,enP,HY,f0,f2,f4,lb0 _ hB,b2]
   exact ⟨⟨_,rfl⟩,f0,f2,f4,u1,u2,s,hC⟩
  ·obtain ⟨r,hr⟩:=AVM G e.name s.s1 (by omega)
   simp -implicitDefEqProofs only [G5,DC,jS,jJ,jP,jR,EM,D9,EQ,GK,IY,Q9,GH,FT,J7,ATB,EX,H6,GN,CO,AA,AZ,AU,BU,BH,BX,BQ,GU,BN,AB,DR,jE,jD,jF,↓reduceIte,jC,jQ,jM,jG,jA,enP,HY,LD,AP6,GR,OW,IV,f0,f2,f4,lb0 _ hB,lb2 _ hB,b2,s.l3]
   refine ⟨_,hr,?_⟩
   simp -implicitDefEqProofs only [G5,DC,jS,jJ,jP,jR,EM,D9,FU,EQ,KA,AA,AZ,AU,BM,CP,DL,AB,EP,↓reduceIte,jC,jQ,jA,f0,f2,f4]
   exact ⟨⟨_,rfl⟩,f0,f2,f4,u1,u2,s,hC⟩
 clear f0 f2 f4 s hC hB
 rintro F H ⟨⟨b,f47⟩,f0,f2,f4,u1,u2,s,hC⟩
 have hB:=hbox _ _ _ hC
 simp -implicitDefEqProofs only [BI,A8,AZ,f47]
 refine SG (Md e c d v1 v2 h (n+1) n (n+1) (max dd d) (VN f [e])) (fun _ _=>False) (fun hb => ?_) (fun hb => ?_) ?_ (fun _ _ hh=>hh.elim)
 ·obtain ⟨v',H',ha,ht,s',hC'⟩:=s.app3 e.name (by omega)
  refine FN (by kernel_rfl) ?_
  simp -implicitDefEqProofs only [G5,FK,FH,DC,jS,jJ,jP,jR,EM,D9,OM,FU,EQ,GH,I8,FT,NF,EX,JM,QC,AA,AZ,EC,BX,EI,BN,GL,CB,AB,DT,↓reduceIte,jC,jQ,jG,jA,enP,LD,AP6,jT,GR,OW,IV,f0,f2,f4,lb2 _ hB,s.l3,AWQ,ha,ht]
  exact ⟨f0,f2,f4,_,_,s',hC.trans hC'⟩
 ·simp -implicitDefEqProofs only [BR,QC]
  exact ⟨f0,f2,f4,_,_,s.weak (by omega) (by omega),hC⟩
 clear f0 f2 f4 s hC hB
 rintro F H ⟨f0,f2,f4,u1,u2,s,hC⟩
 have hB:=hbox _ _ _ hC
 simp -implicitDefEqProofs only [BC,A8]
 refine FN (by kernel_rfl) ?_
 refine AXO (fun F H=>(∃ b,F 76 = .bool b)∧Md e c d v1 v2 h (n+1) n (n+1) (max dd d) (VN f [e]) F H) ?_ ?_
 ·obtain ⟨r,hr⟩:=AVM G e.name s.s2 (by omega)
  cases b2:(e.op == 3)
  ·cases b3:(e.op == 24)
   ·simp -implicitDefEqProofs only [G5,DC,jS,jJ,jP,jR,EM,D9,FU,EQ,GK,IY,AL7,AGA,GH,KA,FT,J7,EX,CO,AA,EK,AZ,AU,BH,BM,CP,DN,BX,BQ,BN,AB,DR,↓reduceIte,jC,jQ,jM,jA,enP,HY,f0,f2,f4,lb0 _ hB,b2,b3]
    exact ⟨⟨_,rfl⟩,f0,f2,f4,u1,u2,s,hC⟩
   ·simp -implicitDefEqProofs only [G5,DC,jS,jJ,jP,jR,EM,D9,EQ,GK,IY,Q9,AL7,GH,KA,FT,J7,ATB,EX,H6,GN,CO,AA,AZ,AU,BU,BH,BM,CP,DN,BX,BQ,GU,BN,AB,DR,jE,jD,jF,↓reduceIte,jC,jQ,jM,jG,jA,enP,HY,LD,AG9,GR,OW,IV,f0,f2,f4,lb0 _ hB,lb2 _ hB,b2,b3,s.l4]
    refine ⟨_,hr,?_⟩
    simp -implicitDefEqProofs only [G5,DC,jS,jJ,jP,jR,EM,D9,FU,EQ,KA,AA,AZ,AU,BM,CP,DL,AB,EP,↓reduceIte,jC,jQ,jA,f0,f2,f4]
    exact ⟨⟨_,rfl⟩,f0,f2,f4,u1,u2,s,hC⟩
  ·simp -implicitDefEqProofs only [G5,DC,jS,jJ,jP,jR,EM,D9,EQ,GK,IY,Q9,AXK,GH,KA,FT,J7,ATB,EX,H6,GN,CO,AA,EK,AZ,AU,BU,BH,BM,CP,DL,BX,BQ,GU,BN,AB,DR,jE,jD,jF,↓reduceIte,jC,jQ,jM,jG,jA,enP,HY,LD,AG9,GR,OW,IV,f0,f2,f4,lb0 _ hB,lb2 _ hB,b2,s.l4]
   refine ⟨_,hr,?_⟩
   simp -implicitDefEqProofs only [G5,DC,jS,jJ,jP,jR,EM,D9,FU,EQ,KA,AA,AZ,AU,BM,CP,DL,AB,EP,↓reduceIte,jC,jQ,jA,f0,f2,f4]
   exact ⟨⟨_,rfl⟩,f0,f2,f4,u1,u2,s,hC⟩
 clear f0 f2 f4 s hC hB f47
 rintro F H ⟨⟨b,f76⟩,f0,f2,f4,u1,u2,s,hC⟩
 have hB:=hbox _ _ _ hC
 simp -implicitDefEqProofs only [BI,A8,AZ,f76]
 refine SG (Md e c d v1 v2 h (n+1) (n+1) (n+1) (max dd d) (VN f [e])) (fun _ _=>False) (fun hb => ?_) (fun hb => ?_) ?_ (fun _ _ hh=>hh.elim)
 ·obtain ⟨v',H',ha,ht,s',hC'⟩:=s.app4 e.name (by omega)
  refine FN (by kernel_rfl) ?_
  simp -implicitDefEqProofs only [G5,FK,FH,DC,jS,jJ,jP,jR,Bool.or_true,EM,D9,OM,FU,EQ,GH,I8,FT,NF,EX,JM,QC,AA,AZ,EC,BX,EI,BN,GL,CB,AB,DT,↓reduceIte,jC,jQ,jG,jA,enP,LD,AG9,jT,GR,OW,IV,f0,f2,f4,lb2 _ hB,s.l4,AWQ,ha,ht]
  exact ⟨f0,f2,f4,_,_,s',hC.trans hC'⟩
 ·simp -implicitDefEqProofs only [BR,QC]
  exact ⟨f0,f2,f4,_,_,s.weak (by omega) (by omega),hC⟩
 clear f0 f2 f4 s hC hB f76
 rintro F H ⟨f0,f2,f4,u1,u2,s,hC⟩
 simp -implicitDefEqProofs only [DC,jS,jJ,jP,jR,BC,BP,BA,A8,AY,BB,AL,BD,AX,AC,AU,BH,A7,jA,jB,D5]
 refine DY (fun k F H => ∃ j,k+j=e.args.length∧F 6 = .int .i64 (j:Nat)∧Md e c d v1 v2 h (n+1+(IQ (e.args.take j)).length) (n+1+(IQ (e.args.take j)).length) (n+1+(IQ (e.args.take j)).length) (max dd (d+deps (e.args.take j))) (VN (VN f [e]) (IQ (e.args.take j))) F H) e.args.length ⟨0,by simp,rfl,f0,f2,f4,u1,u2,s,hC⟩ ?_
 clear f0 f2 f4 s hC
 rintro k F H ⟨j,hj,f6,f0,f2,f4,u1,u2,s,hC⟩
 have hB:=hbox _ _ _ hC
 simp -implicitDefEqProofs only [DC,jS,jJ,jP,jR,BC,BA,BI,A8,AY,BB,AL,BD,AX,AC,AA,AZ,BG,BX,BQ,BN,D6,AB,C9,↓reduceIte,jC,jG,jA,jB,enP,TW,MR,D5,f6,f4,lb3 _ hB,jI]
 refine CV (fun hlt => ?_) (fun hlt => ?_)
 ·have hj':j < e.args.length:=by simpa using hlt
  have hmem:e.args[j]∈e.args:=jO hj'
  have hwa:=SX hmem
  have hpl:(IQ (e.args.take j)).length+(pre e.args[j]).length≤wts e.args:=by
   have h1:=AJD e.args
   have h2:IQ e.args=IQ (e.args.take j) ++ (pre e.args[j] ++ IQ (e.args.drop (j+1))):=by
    rw [← zI,← NT _ _ hj',← PE,List.take_append_drop]
   rw [h2] at h1; simp at h1; omega
  have hsp:(IQ (e.args.take j)).length+wt e.args[j]≤wts e.args:=by
   have h1:=AJD (e.args.take j)
   have h2:=AH4 e.args j hj'
   omega
  have hdt:deps (e.args.take j)≤wts e.args:=YJ e.args j
  simp -implicitDefEqProofs only [DC,jS,jJ,jP,jR,BC,BP,BA,BR,A8,AY,AL,BD,AX,AC,AA,AZ,AU,BU,BH,BG,BX,BQ,BN,CG,BZ,BO,AB,DK,jE,jD,jF,↓reduceIte,jC,jG,jA,jB,enP,WP,MR,D5,f0,f2,f4,f6,lb3 _ hB,D7 hj',FP U4 MM H7 hj',wrap_succ (show d < 9223372036854775807 by omega)]
  refine (ih e.args[j] hmem ⟨by omega,fun x hx=>hwn.2 x (by rw [pre_eq]; exact qW _ (VC hmem x hx))⟩ H (d+1) _ _ _ u1 u2 (by omega) (by omega) (by omega) s).mono ?_
  rintro v H' ⟨w1,w2,s',hC'⟩
  simp -implicitDefEqProofs only [DC,jS,jJ,jP,jR,BA,A8,EH,ER,AY,BB,AL,BD,AX,AC,AA,AZ,AU,BH,BG,A7,BQ,AB,DK,↓reduceIte,jC,jA,jB,enP,D5,f6,wrap_succ (show j < 9223372036854775807 by omega)]
  refine ⟨k - 1,by omega,j+1,by omega,rfl,f0,f2,f4,w1,w2,?_,hC.trans hC'⟩
  rw [NT _ _ hj',AFV _ _ hj',AKV,zZ]
  have e1:max (max dd (d+deps (e.args.take j))) (d+1+deps e.args[j].args)=max dd (d+max (deps (e.args.take j)) (dep e.args[j])):=by
   rw [AHH]; omega
  rw [e1,Nat.add_assoc (n+1)] at s'
  exact s'
 ·have hj' : ¬ j < e.args.length:=by simpa using hlt
  rw [jW (by omega)] at s
  simp -implicitDefEqProofs only [DW,EG,EY,EZ,ADB,↓reduceIte]
  refine ⟨u1,u2,?_,c0.trans hC⟩
  have e1:n+1+(IQ e.args).length=n+(pre e).length:=by rw [pre_eq]; simp; omega
  have e2:VN (VN f [e]) (IQ e.args)=VN f (pre e):=by rw [pre_eq,← AKV]; rfl
  rw [e1,e2] at s
  exact s
theorem A6L:KW Tryz.prog 118 []=some (.agg [.int .i64 0,.int .i64 0,.int .i64 0,.sl .nil 0 [],.sl .nil 0 []]):=by kernel_rfl
theorem A5Z (h:Hp):OT h (.agg [.int .i64 0,.int .i64 0,.int .i64 0,.sl .nil 0 [],.sl .nil 0 []])=some (.ptr h.length 0 0,h ++ [.live 5 [wRow 0 0 0 (.sl .nil 0 []) (.sl .nil 0 [])]]):=TQ rfl
theorem AUD (G:Nat→AV) (e:Ex) (hwn:WN e) (h:Hp) :
  ACalls (En G) 74 [.agg (CY e)] h fun v h' => ∃ c m u1 u2,v = .ptr c 0 0∧St h' c m m (pre e).length (dep e) (errs (pre e)) u1 u2∧∃ x,h'=h ++ x:=by
 refine acN Tryz.func74 rfl ?_
 show awp _ _ _ _ _ (D8 _ [.tmp 2] _)
 simp -implicitDefEqProofs only [FK,BC,BA,A8,AY,BB,AO,AQ,AL,BD,AX,AC,AA,AZ,AU,BU,BH,A0S,BG,A7,FM,KY,BX,BZ,BO,CB,AB,BF,jE,jD,jF,↓reduceIte,jC,jA,jB,enP,bxE,A6L,A5Z,MG (CU (CW h _))]
 have nb : ∀ b,¬ isB (.sl .nil 0 []) b:=fun b hb=>hb
 have hw:=hwn.1
 refine (AYE G _ e hwn _ 1 0 0 0 (.sl .nil 0 []) (.sl .nil 0 []) (by omega) (by omega) (by omega) ⟨CW _ _,⟨[],by simp,.inl ⟨rfl,_,rfl⟩⟩,⟨[],by simp,.inl ⟨rfl,_,rfl⟩⟩,fun b hb=>(nb b hb).elim⟩).mono ?_
 rintro v h' ⟨u1,u2,s,hC⟩
 simp -implicitDefEqProofs only [BC,BA,BJ,A8,CJ,AY,BB,AO,AQ,AL,BD,AX,AC,AA,AZ,BG,A7,↓reduceIte,jC,jA,jB]
 have e1:0+(pre e).length=(pre e).length:=jG _
 have e2:max 0 (1+deps e.args)=dep e:=by rw [AHH]; omega
 rw [e1,e2] at s
 refine ⟨_,_,u1,u2,rfl,s,?_⟩
 have hC2:=((Ch.app (h ++ [ABlk.live 4 [CY e]]).length (.sl .nil 0 []) (.sl .nil 0 []) h [.live 4 [CY e]]).trans (Ch.app _ _ _ _ [.live 5 [wRow 0 0 0 (.sl .nil 0 []) (.sl .nil 0 [])]])).trans hC
 refine Chg.above (c:=(h ++ [ABlk.live 4 [CY e]]).length) ⟨hC2.len,fun b hb hne=>hC2.get b hb hne (nb b) (nb b)⟩ (by simp)
theorem AHB (G:Nat→AV) (e:Ex) (h:Hp) (hw:WN e):PCall (En G) 40 [.agg (CY e)] h (.int .i64 (exE e)):=by
 refine ACalls.pure0 rfl ?_
 refine acN Tryz.func40 rfl ?_
 show awp _ _ _ _ _ (D8 _ [.tmp 2] _)
 simp -implicitDefEqProofs only [BC,BA,A8,AY,BB,AO,AQ,AL,BD,AX,AC,AA,AZ,AU,BU,BH,A7,FM,BX,BZ,BO,CB,AB,BF,jE,jD,jF,↓reduceIte,jC,jA,jB,enP,bxE,ldE]
 refine (AUD G e hw _).mono ?_
 rintro v h' ⟨c,m,u1,u2,rfl,s,x,rfl⟩
 simp -implicitDefEqProofs only [BC,BA,A8,AY,BB,BK,BV,CO,AO,AQ,AL,BD,AX,AC,AA,AZ,AU,BH,BG,A7,BX,BQ,BN,AB,DR,↓reduceIte,jG,jA,jB,enP,YA,GR,IV,s.l2]
 rcases he:(errs (pre e) == 0) with _ | _
 ·simp -implicitDefEqProofs only [BC,BA,BR,BJ,BI,A8,CJ,DI,AY,BB,BK,BV,CO,JD,UA,AO,AQ,AL,BD,AX,AC,AA,EK,AZ,AU,BM,BG,A7,CP,DN,BX,BN,AB,↓reduceIte,jC,jG,jA,jB,enP,YA,GR,IV,s.l2]
  have:errs (pre e)≠0:=by simpa using he
  exact ⟨by unfold exE; rw [if_neg (fun hh=>this hh.1)],_,by rw [zI]⟩
 have he0:errs (pre e)=0:=by simpa using he
 simp -implicitDefEqProofs only [BK,BV,CO,FY,AO,AQ,AL,BD,AX,AC,AA,AZ,AU,BH,BG,BX,BQ,BN,AB,FD,↓reduceIte,jC,jG,jA,jB,enP,AHA,GR,IV,s.l1]
 refine JE (fun hd => ?_) (fun hd => ?_)
 ·simp -implicitDefEqProofs only [BC,BA,BJ,BI,A8,CQ,CJ,CZ,AY,BB,BK,BV,CO,FY,FI,AO,AQ,AL,BD,AX,AC,AA,EK,AZ,AU,BH,BM,A7,CP,DL,↓reduceIte,jC,jA,jB,hd]
  exact ⟨by unfold exE; rw [if_pos ⟨he0,.inl (by simp at hd; omega)⟩],_,by rw [zI]⟩
 simp -implicitDefEqProofs only [BI,A8,AY,BB,BK,BV,CO,FY,EF,AO,AQ,AL,BD,AX,AC,AA,AZ,AU,BH,BM,BG,CP,DL,DN,BX,BQ,BN,AB,FD,↓reduceIte,jC,jM,jA,jB,enP,AP7,GR,IV,hd,s.l0]
 refine CV (fun hn => ?_) (fun hn => ?_)
 ·simp -implicitDefEqProofs only [BC,BA,BJ,A8,CQ,CJ,AY,BB,AO,AQ,AL,BD,AX,AC,AA,AU,BH,A7,↓reduceIte,jA,jB]
  exact ⟨by unfold exE; rw [if_pos ⟨he0,.inr (by simp at hn; omega)⟩],_,by rw [zI]⟩
 ·simp -implicitDefEqProofs only [BC,BA,BR,BJ,A8,CJ,AY,BB,AO,AQ,AL,BD,AX,AC,AA,AZ,BG,A7,BX,BN,AB,↓reduceIte,jC,jG,jA,jB,enP,YA,GR,IV,s.l2]
  exact ⟨by unfold exE; rw [if_neg (fun hh=>by simp at hn hd; omega)],_,by rw [zI]⟩
structure Is where
 m:SM
 l:List Int
def encL (x:Is):List AV := [.sl x.m 1 (x.l.map qencI)]
theorem AV2 (x:Is):(encL x)[0]? = some (.sl x.m 1 (x.l.map qencI)):=rfl
theorem ADF (x:Is):(encL x).length=1:=rfl
structure Pt where
 name:ByteArray
 ex:Ex
 bm:SM
 bins:List Bin
def F9 (p:Pt):List AV := .str p.name :: (CY p.ex ++ [.sl p.bm 4 (p.bins.map GV)])
theorem AV0 (p:Pt):(F9 p)[0]? = some (.str p.name):=rfl
theorem U0 (p:Pt):(F9 p)[5]? = some (.sl p.bm 4 (p.bins.map GV)):=by unfold F9; rw [II]; rfl
theorem I7 (p:Pt):(F9 p).length=6:=by unfold F9; rw [II]; rfl
theorem ZR (p:Pt):(F9 p).all AV.leaf=true:=by unfold F9; rw [II]; rfl
theorem AP9 (p:Pt):((F9 p).drop 1).take 4=CY p.ex:=by unfold F9; rw [II]; rfl
theorem bxP (h:Hp) (p:Pt):OT h (.agg (F9 p))=some (.ptr h.length 0 0,h ++ [.live 6 [F9 p]]):=by
 have:=TQ (h:=h) (ZR p)
 rw [I7] at this; exact this
theorem AU1 {h:Hp} {b:Nat} {p:Pt} (hb:h[b]? = some (.live 6 [F9 p])):DX Tryz.prog h 48 (.ptr b 0 1)=some (.agg (CY p.ex)):=by
 rw [G8 U4 MM hb rfl (by rw [I7]; omega),AP9]
structure Cr where
 name:ByteArray
 pm:SM
 pts:List Int
 xm:SM
 excl:List Is
def G6 (c:Cr):List AV := [.str c.name,.sl c.pm 1 (c.pts.map qencI),.sl c.xm 1 (c.excl.map encL)]
theorem AQB (c:Cr):(G6 c)[0]? = some (.str c.name):=rfl
theorem U2 (c:Cr):(G6 c)[1]? = some (.sl c.pm 1 (c.pts.map qencI)):=rfl
theorem AQA (c:Cr):(G6 c)[2]? = some (.sl c.xm 1 (c.excl.map encL)):=rfl
theorem MH (c:Cr):(G6 c).length=3:=rfl
theorem bxC (h:Hp) (c:Cr):OT h (.agg (G6 c))=some (.ptr h.length 0 0,h ++ [.live 3 [G6 c]]):=rfl
structure Mo where
 pm:SM
 pts:List Pt
 cm:SM
 crs:List Cr
def EE (m:Mo):List AV := [.sl m.pm 6 (m.pts.map F9),.sl m.cm 3 (m.crs.map G6)]
theorem SE (m:Mo):(EE m)[0]? = some (.sl m.pm 6 (m.pts.map F9)):=rfl
theorem U1 (m:Mo):(EE m)[1]? = some (.sl m.cm 3 (m.crs.map G6)):=rfl
theorem AV1 (m:Mo):(EE m).length=2:=rfl
theorem bxM (h:Hp) (m:Mo):OT h (.agg (EE m))=some (.ptr h.length 0 0,h ++ [.live 2 [EE m]]):=rfl
def ANT:List ByteArray→List ByteArray→Bool
 | _,[]=>false
 | seen,x :: xs=>JU seen x || ANT (seen ++ [x]) xs
def TY (l:List ByteArray):Bool:=ANT [] l
theorem ZU (N:List ByteArray) (i:Nat) (hi:i < N.length):ANT (N.take i) (N.drop i)=(JU (N.take i) N[i] || ANT (N.take (i+1)) (N.drop (i+1))):=by
 rw [zQ hi,zN hi]; rfl
theorem MO {α:Type} {l:List α} {i:Nat} {hi:i < l.length} {x:α} (h:l[i]? = some x):l[i]=x:=by
 rw [jL hi] at h; exact Option.some.inj h
theorem APT (G:Nat→AV) (x:Bin) (h:Hp):PCall (En G) 85 [.agg (GV x)] h (.str x.name):=by
 refine ACalls.pure0 rfl ?_
 refine acN Tryz.func85 rfl ?_
 show awp _ _ _ _ _ (D8 _ [.tmp 2] _)
 simp -implicitDefEqProofs only [BC,BA,BJ,A8,CJ,AY,BB,AO,AQ,AL,BD,AX,AC,AA,AZ,AU,H9,A7,FM,BX,BN,CB,AB,BF,↓reduceIte,jC,jM,jA,jB,enP,ANO,bxB,DV ag9,AV6]
 exact ⟨trivial,_,rfl⟩
theorem ARA (G:Nat→AV) (xs:List Bin) (m:SM) (h:Hp) (hl:xs.length≤1099511627776) :
  PCall (En G) 84 [.sl m 4 (xs.map GV),.fn (.func 85) [] []] h (.bool (TY (xs.map (·.name)))):=by
 refine acN Tryz.func84 rfl ?_
 show awp _ _ _ _ _ (D8 _ [.tmp 4] _)
 simp -implicitDefEqProofs only [BC,BP,BA,A8,AY,BB,AO,AQ,AL,BD,AX,AC,AA,AZ,AU,BH,BM,BG,A7,D6,AB,BF,↓reduceIte,jC,jA,jB,enP,XU,jI]
 generalize hN:xs.map (·.name)=N
 have hNl:N.length=xs.length:=by rw [← hN]; simp
 have hNi : ∀ i (hi:i < xs.length),N[i]? = some xs[i].name:=fun i hi=>by rw [← hN,jX,jL hi]; rfl
 refine DY (fun n F H => ∃ i,n+i=xs.length∧F 0 = .sl m 4 (xs.map GV)∧F 1 = .fn (.func 85) [] []∧F 8 = .int .i64 xs.length∧F 9 = .int .i64 (i:Nat)∧H=h∧TY N=ANT (N.take i) (N.drop i)) xs.length ⟨0,by simp,by simp -implicitDefEqProofs only [AA,BF,↓reduceIte,jC],by simp -implicitDefEqProofs only [AA,BF,BL,↓reduceIte,jC],by simp -implicitDefEqProofs only [AA,↓reduceIte,jC],by simp -implicitDefEqProofs only [AA,↓reduceIte]; rfl,rfl,rfl⟩ ?_
 rintro n F H ⟨i,hi,f0,f1,f8,f9,rfl,hd⟩
 simp -implicitDefEqProofs only [BC,BA,BI,A8,AY,BB,AO,AQ,AL,BD,AX,AC,AA,AZ,BQ,AB,C9,↓reduceIte,jA,jB,enP,f8,f9]
 refine CV (fun hc => ?_) (fun hc => ?_)
 ·have hi':i < xs.length:=by simpa using hc
  have hdrop:=ZU N i (by omega)
  rw [MO (hNi i hi')] at hdrop
  simp -implicitDefEqProofs only [BC,BP,BA,BR,A8,AY,BB,AO,AQ,AL,BD,AX,AC,AA,AZ,AU,BH,BG,A7,↓reduceIte,jC,jA,jB,f9]
  refine JA 2 (fun F' H'=>F' 0 = .sl m 4 (xs.map GV)∧F' 1 = .fn (.func 85) [] []∧F' 8 = .int .i64 xs.length∧F' 9 = .int .i64 (i:Nat)∧H'=H∧JU (N.take i) xs[i].name=false) (fun F' H'=>F' 4 = .bool (TY N)∧H'=H) ?_ ?_ ?_
  ·refine DY (fun n F' H' => ∃ k,n+k=i∧F' 0 = .sl m 4 (xs.map GV)∧F' 1 = .fn (.func 85) [] []∧F' 8 = .int .i64 xs.length∧F' 9 = .int .i64 (i:Nat)∧F' 5 = .int .i64 (i:Nat)∧F' 12 = .int .i64 (i:Nat)∧F' 13 = .int .i64 (k:Nat)∧H'=H∧JU (N.take i) xs[i].name=JU ((N.take i).drop k) xs[i].name) i ⟨0,by simp,by simp -implicitDefEqProofs only [AA,↓reduceIte,jC,f0],by simp -implicitDefEqProofs only [AA,↓reduceIte,jC,f1],by simp -implicitDefEqProofs only [AA,↓reduceIte,jC,f8],by simp -implicitDefEqProofs only [AA,↓reduceIte,jC,f9],by simp -implicitDefEqProofs only [AA,↓reduceIte,jC],by simp -implicitDefEqProofs only [AA,↓reduceIte,jC],by simp -implicitDefEqProofs only [AA,↓reduceIte]; rfl,rfl,rfl⟩ ?_
   clear f0 f1 f8 f9
   rintro n' F H' ⟨k,hk,f0,f1,f8,f9,f5,f12,f13,rfl,hin⟩
   simp -implicitDefEqProofs only [BC,BA,BI,A8,AY,BB,AO,AQ,AL,BD,AX,AC,AA,AZ,BQ,AB,C9,↓reduceIte,jA,jB,enP,f12,f13]
   refine CV (fun hc => ?_) (fun hc => ?_)
   ·have hk':k < i:=by simpa using hc
    have hk2:k < xs.length:=by omega
    have hs:=QL (fun u=>xs[i].name.toList == u.toList) (N.take i) k (by rw [qB]; omega)
    have hx:(N.take i)[k]'(by rw [qB]; omega)=xs[k].name:=by
     rw [List.getElem_take]; exact MO (hNi k hk2)
    rw [hx] at hs
    simp -implicitDefEqProofs only [BC,BP,BA,BR,A8,AY,BB,AO,AQ,AL,BD,AX,AC,AA,AZ,BG,A7,↓reduceIte,jC,jA,jB,f13]
    refine FN (by kernel_rfl) ?_
    simp -implicitDefEqProofs only [G5,EM,D9,EQ,GH,FT,J7,EU,H6,GN,AO,AA,AZ,BX,BQ,CG,AB,jE,jD,jF,↓reduceIte,jC,jQ,jA,enP,ZC,f0,f1,f5,D7 hi',D7 hk2,FP AEU YY MI hi',FP AEU YY MI hk2]
    refine ⟨_,APT G xs[i] _,?_⟩
    refine ⟨_,APT G xs[k] _,?_⟩
    try simp -implicitDefEqProofs only [D9,FU,BI,A8,AA,AZ,AB,MK,↓reduceIte]
    refine CV (fun hb => ?_) (fun hb => ?_)
    ·simp -implicitDefEqProofs only [BC,BA,BJ,A8,CQ,ED,RI,F7,AY,BB,AO,AQ,AL,BD,AX,AC,AA,AU,BM,A7,↓reduceIte,jA,jB]
     refine ⟨?_,trivial⟩
     have:JU (N.take i) xs[i].name=true:=by
      rw [hin]; unfold JU; rw [hs,hb]; rfl
     rw [hd,hdrop,this]; rfl
    ·simp -implicitDefEqProofs only [BA,BR,A8,EH,ER,AY,BB,AO,AQ,AL,BD,AX,AC,AA,AZ,AU,BH,BG,BQ,AB,DK,↓reduceIte,jC,jA,jB,enP,f13,wrap_succ (show k < 9223372036854775807 by omega)]
     refine ⟨n' - 1,by omega,k+1,by omega,f0,f1,f8,f9,f5,f12,rfl,trivial,?_⟩
     rw [hin]; unfold JU; rw [hs,hb]; rfl
   ·have hk' : ¬ k < i:=by simpa using hc
    simp -implicitDefEqProofs only [DW,EG,NG,EZ,AA,↓reduceIte,jC]
    refine ⟨f0,f1,f8,f9,trivial,?_⟩
    rw [hin,zG (by rw [qB]; omega)]; rfl
  ·rintro F' H' ⟨g0,g1,g8,g9,rfl,hn⟩
   simp -implicitDefEqProofs only [BA,A8,EH,EY,ER,AY,BB,AO,AQ,AL,BD,AX,AC,AA,AZ,AU,BH,BG,BQ,AB,DK,↓reduceIte,jC,jA,jB,enP,g9,wrap_succ (show i < 9223372036854775807 by omega)]
   refine ⟨n - 1,by omega,i+1,by omega,g0,g1,g8,rfl,trivial,?_⟩
   rw [hd,hdrop,hn]; rfl
  ·rintro F' H' ⟨g4,rfl⟩
   simp -implicitDefEqProofs only [CQ,ED,F7,CJ,g4]
   exact ⟨trivial,trivial⟩
 ·have hi' : ¬ i < xs.length:=by simpa using hc
  simp -implicitDefEqProofs only [BC,BA,BJ,DW,A8,EG,EY,EZ,CJ,AY,BB,AO,AQ,AL,BD,AX,AC,AA,AU,BM,A7,↓reduceIte,jA,jB]
  exact ⟨by rw [hd,zG (by omega)]; rfl,trivial⟩
theorem APR (G:Nat→AV) (x:Pt) (h:Hp):PCall (En G) 52 [.agg (F9 x)] h (.str x.name):=by
 refine ACalls.pure0 rfl ?_
 refine acN Tryz.func52 rfl ?_
 show awp _ _ _ _ _ (D8 _ [.tmp 2] _)
 simp -implicitDefEqProofs only [BC,BA,BJ,A8,CJ,AY,BB,AO,AQ,AL,BD,AX,AC,AA,AZ,AU,H9,A7,FM,BX,BN,CB,AB,BF,↓reduceIte,jC,jM,jA,jB,enP,ANP,bxP,DV ag9,AV0]
 exact ⟨trivial,_,rfl⟩
theorem AQ8 (G:Nat→AV) (xs:List Pt) (m:SM) (h:Hp) (hl:xs.length≤1099511627776) :
  PCall (En G) 51 [.sl m 6 (xs.map F9),.fn (.func 52) [] []] h (.bool (TY (xs.map (·.name)))):=by
 refine acN Tryz.func51 rfl ?_
 show awp _ _ _ _ _ (D8 _ [.tmp 4] _)
 simp -implicitDefEqProofs only [BC,BP,BA,A8,AY,BB,AO,AQ,AL,BD,AX,AC,AA,AZ,AU,BH,BM,BG,A7,D6,AB,BF,↓reduceIte,jC,jA,jB,enP,UQ,jI]
 generalize hN:xs.map (·.name)=N
 have hNl:N.length=xs.length:=by rw [← hN]; simp
 have hNi : ∀ i (hi:i < xs.length),N[i]? = some xs[i].name:=fun i hi=>by rw [← hN,jX,jL hi]; rfl
 refine DY (fun n F H => ∃ i,n+i=xs.length∧F 0 = .sl m 6 (xs.map F9)∧F 1 = .fn (.func 52) [] []∧F 8 = .int .i64 xs.length∧F 9 = .int .i64 (i:Nat)∧H=h∧TY N=ANT (N.take i) (N.drop i)) xs.length ⟨0,by simp,by simp -implicitDefEqProofs only [AA,BF,↓reduceIte,jC],by simp -implicitDefEqProofs only [AA,BF,BL,↓reduceIte,jC],by simp -implicitDefEqProofs only [AA,↓reduceIte,jC],by simp -implicitDefEqProofs only [AA,↓reduceIte]; rfl,rfl,rfl⟩ ?_
 rintro n F H ⟨i,hi,f0,f1,f8,f9,rfl,hd⟩
 simp -implicitDefEqProofs only [BC,BA,BI,A8,AY,BB,AO,AQ,AL,BD,AX,AC,AA,AZ,BQ,AB,C9,↓reduceIte,jA,jB,enP,f8,f9]
 refine CV (fun hc => ?_) (fun hc => ?_)
 ·have hi':i < xs.length:=by simpa using hc
  have hdrop:=ZU N i (by omega)
  rw [MO (hNi i hi')] at hdrop
  simp -implicitDefEqProofs only [BC,BP,BA,BR,A8,AY,BB,AO,AQ,AL,BD,AX,AC,AA,AZ,AU,BH,BG,A7,↓reduceIte,jC,jA,jB,f9]
  refine JA 2 (fun F' H'=>F' 0 = .sl m 6 (xs.map F9)∧F' 1 = .fn (.func 52) [] []∧F' 8 = .int .i64 xs.length∧F' 9 = .int .i64 (i:Nat)∧H'=H∧JU (N.take i) xs[i].name=false) (fun F' H'=>F' 4 = .bool (TY N)∧H'=H) ?_ ?_ ?_
  ·refine DY (fun n F' H' => ∃ k,n+k=i∧F' 0 = .sl m 6 (xs.map F9)∧F' 1 = .fn (.func 52) [] []∧F' 8 = .int .i64 xs.length∧F' 9 = .int .i64 (i:Nat)∧F' 5 = .int .i64 (i:Nat)∧F' 12 = .int .i64 (i:Nat)∧F' 13 = .int .i64 (k:Nat)∧H'=H∧JU (N.take i) xs[i].name=JU ((N.take i).drop k) xs[i].name) i ⟨0,by simp,by simp -implicitDefEqProofs only [AA,↓reduceIte,jC,f0],by simp -implicitDefEqProofs only [AA,↓reduceIte,jC,f1],by simp -implicitDefEqProofs only [AA,↓reduceIte,jC,f8],by simp -implicitDefEqProofs only [AA,↓reduceIte,jC,f9],by simp -implicitDefEqProofs only [AA,↓reduceIte,jC],by simp -implicitDefEqProofs only [AA,↓reduceIte,jC],by simp -implicitDefEqProofs only [AA,↓reduceIte]; rfl,rfl,rfl⟩ ?_
   clear f0 f1 f8 f9
   rintro n' F H' ⟨k,hk,f0,f1,f8,f9,f5,f12,f13,rfl,hin⟩
   simp -implicitDefEqProofs only [BC,BA,BI,A8,AY,BB,AO,AQ,AL,BD,AX,AC,AA,AZ,BQ,AB,C9,↓reduceIte,jA,jB,enP,f12,f13]
   refine CV (fun hc => ?_) (fun hc => ?_)
   ·have hk':k < i:=by simpa using hc
    have hk2:k < xs.length:=by omega
    have hs:=QL (fun u=>xs[i].name.toList == u.toList) (N.take i) k (by rw [qB]; omega)
    have hx:(N.take i)[k]'(by rw [qB]; omega)=xs[k].name:=by
     rw [List.getElem_take]; exact MO (hNi k hk2)
    rw [hx] at hs
    simp -implicitDefEqProofs only [BC,BP,BA,BR,A8,AY,BB,AO,AQ,AL,BD,AX,AC,AA,AZ,BG,A7,↓reduceIte,jC,jA,jB,f13]
    refine FN (by kernel_rfl) ?_
    simp -implicitDefEqProofs only [G5,EM,D9,EQ,GH,FT,J7,EU,H6,GN,AO,AA,AZ,BX,BQ,CG,AB,jE,jD,jF,↓reduceIte,jC,jQ,jA,enP,WQ,f0,f1,f5,D7 hi',D7 hk2,FP AEV AAY I7 hi',FP AEV AAY I7 hk2]
    refine ⟨_,APR G xs[i] _,?_⟩
    refine ⟨_,APR G xs[k] _,?_⟩
    try simp -implicitDefEqProofs only [D9,FU,BI,A8,AA,AZ,AB,MK,↓reduceIte]
    refine CV (fun hb => ?_) (fun hb => ?_)
    ·simp -implicitDefEqProofs only [BC,BA,BJ,A8,CQ,ED,RI,F7,AY,BB,AO,AQ,AL,BD,AX,AC,AA,AU,BM,A7,↓reduceIte,jA,jB]
     refine ⟨?_,trivial⟩
     have:JU (N.take i) xs[i].name=true:=by
      rw [hin]; unfold JU; rw [hs,hb]; rfl
     rw [hd,hdrop,this]; rfl
    ·simp -implicitDefEqProofs only [BA,BR,A8,EH,ER,AY,BB,AO,AQ,AL,BD,AX,AC,AA,AZ,AU,BH,BG,BQ,AB,DK,↓reduceIte,jC,jA,jB,enP,f13,wrap_succ (show k < 9223372036854775807 by omega)]
     refine ⟨n' - 1,by omega,k+1,by omega,f0,f1,f8,f9,f5,f12,rfl,trivial,?_⟩
     rw [hin]; unfold JU; rw [hs,hb]; rfl
   ·have hk' : ¬ k < i:=by simpa using hc
    simp -implicitDefEqProofs only [DW,EG,NG,EZ,AA,↓reduceIte,jC]
    refine ⟨f0,f1,f8,f9,trivial,?_⟩
    rw [hin,zG (by rw [qB]; omega)]; rfl
  ·rintro F' H' ⟨g0,g1,g8,g9,rfl,hn⟩
   simp -implicitDefEqProofs only [BA,A8,EH,EY,ER,AY,BB,AO,AQ,AL,BD,AX,AC,AA,AZ,AU,BH,BG,BQ,AB,DK,↓reduceIte,jC,jA,jB,enP,g9,wrap_succ (show i < 9223372036854775807 by omega)]
   refine ⟨n - 1,by omega,i+1,by omega,g0,g1,g8,rfl,trivial,?_⟩
   rw [hd,hdrop,hn]; rfl
  ·rintro F' H' ⟨g4,rfl⟩
   simp -implicitDefEqProofs only [CQ,ED,F7,CJ,g4]
   exact ⟨trivial,trivial⟩
 ·have hi' : ¬ i < xs.length:=by simpa using hc
  simp -implicitDefEqProofs only [BC,BA,BJ,DW,A8,EG,EY,EZ,CJ,AY,BB,AO,AQ,AL,BD,AX,AC,AA,AU,BM,A7,↓reduceIte,jA,jB]
  exact ⟨by rw [hd,zG (by omega)]; rfl,trivial⟩
theorem APS (G:Nat→AV) (x:Cr) (h:Hp):PCall (En G) 55 [.agg (G6 x)] h (.str x.name):=by
 refine ACalls.pure0 rfl ?_
 refine acN Tryz.func55 rfl ?_
 show awp _ _ _ _ _ (D8 _ [.tmp 2] _)
 simp -implicitDefEqProofs only [BC,BA,BJ,A8,CJ,AY,BB,AO,AQ,AL,BD,AX,AC,AA,AZ,AU,H9,A7,FM,BX,BN,CB,AB,BF,↓reduceIte,jC,jM,jA,jB,enP,ANM,bxC,DV ag9,AQB]
 exact ⟨trivial,_,rfl⟩
theorem AQ9 (G:Nat→AV) (xs:List Cr) (m:SM) (h:Hp) (hl:xs.length≤1099511627776) :
  PCall (En G) 54 [.sl m 3 (xs.map G6),.fn (.func 55) [] []] h (.bool (TY (xs.map (·.name)))):=by
 refine acN Tryz.func54 rfl ?_
 show awp _ _ _ _ _ (D8 _ [.tmp 4] _)
 simp -implicitDefEqProofs only [BC,BP,BA,A8,AY,BB,AO,AQ,AL,BD,AX,AC,AA,AZ,AU,BH,BM,BG,A7,D6,AB,BF,↓reduceIte,jC,jA,jB,enP,AEF,jI]
 generalize hN:xs.map (·.name)=N
 have hNl:N.length=xs.length:=by rw [← hN]; simp
 have hNi : ∀ i (hi:i < xs.length),N[i]? = some xs[i].name:=fun i hi=>by rw [← hN,jX,jL hi]; rfl
 refine DY (fun n F H => ∃ i,n+i=xs.length∧F 0 = .sl m 3 (xs.map G6)∧F 1 = .fn (.func 55) [] []∧F 8 = .int .i64 xs.length∧F 9 = .int .i64 (i:Nat)∧H=h∧TY N=ANT (N.take i) (N.drop i)) xs.length ⟨0,by simp,by simp -implicitDefEqProofs only [AA,BF,↓reduceIte,jC],by simp -implicitDefEqProofs only [AA,BF,BL,↓reduceIte,jC],by simp -implicitDefEqProofs only [AA,↓reduceIte,jC],by simp -implicitDefEqProofs only [AA,↓reduceIte]; rfl,rfl,rfl⟩ ?_
 rintro n F H ⟨i,hi,f0,f1,f8,f9,rfl,hd⟩
 simp -implicitDefEqProofs only [BC,BA,BI,A8,AY,BB,AO,AQ,AL,BD,AX,AC,AA,AZ,BQ,AB,C9,↓reduceIte,jA,jB,enP,f8,f9]
 refine CV (fun hc => ?_) (fun hc => ?_)
 ·have hi':i < xs.length:=by simpa using hc
  have hdrop:=ZU N i (by omega)
  rw [MO (hNi i hi')] at hdrop
  simp -implicitDefEqProofs only [BC,BP,BA,BR,A8,AY,BB,AO,AQ,AL,BD,AX,AC,AA,AZ,AU,BH,BG,A7,↓reduceIte,jC,jA,jB,f9]
  refine JA 2 (fun F' H'=>F' 0 = .sl m 3 (xs.map G6)∧F' 1 = .fn (.func 55) [] []∧F' 8 = .int .i64 xs.length∧F' 9 = .int .i64 (i:Nat)∧H'=H∧JU (N.take i) xs[i].name=false) (fun F' H'=>F' 4 = .bool (TY N)∧H'=H) ?_ ?_ ?_
  ·refine DY (fun n F' H' => ∃ k,n+k=i∧F' 0 = .sl m 3 (xs.map G6)∧F' 1 = .fn (.func 55) [] []∧F' 8 = .int .i64 xs.length∧F' 9 = .int .i64 (i:Nat)∧F' 5 = .int .i64 (i:Nat)∧F' 12 = .int .i64 (i:Nat)∧F' 13 = .int .i64 (k:Nat)∧H'=H∧JU (N.take i) xs[i].name=JU ((N.take i).drop k) xs[i].name) i ⟨0,by simp,by simp -implicitDefEqProofs only [AA,↓reduceIte,jC,f0],by simp -implicitDefEqProofs only [AA,↓reduceIte,jC,f1],by simp -implicitDefEqProofs only [AA,↓reduceIte,jC,f8],by simp -implicitDefEqProofs only [AA,↓reduceIte,jC,f9],by simp -implicitDefEqProofs only [AA,↓reduceIte,jC],by simp -implicitDefEqProofs only [AA,↓reduceIte,jC],by simp -implicitDefEqProofs only [AA,↓reduceIte]; rfl,rfl,rfl⟩ ?_
   clear f0 f1 f8 f9
   rintro n' F H' ⟨k,hk,f0,f1,f8,f9,f5,f12,f13,rfl,hin⟩
   simp -implicitDefEqProofs only [BC,BA,BI,A8,AY,BB,AO,AQ,AL,BD,AX,AC,AA,AZ,BQ,AB,C9,↓reduceIte,jA,jB,enP,f12,f13]
   refine CV (fun hc => ?_) (fun hc => ?_)
   ·have hk':k < i:=by simpa using hc
    have hk2:k < xs.length:=by omega
    have hs:=QL (fun u=>xs[i].name.toList == u.toList) (N.take i) k (by rw [qB]; omega)
    have hx:(N.take i)[k]'(by rw [qB]; omega)=xs[k].name:=by
     rw [List.getElem_take]; exact MO (hNi k hk2)
    rw [hx] at hs
    simp -implicitDefEqProofs only [BC,BP,BA,BR,A8,AY,BB,AO,AQ,AL,BD,AX,AC,AA,AZ,BG,A7,↓reduceIte,jC,jA,jB,f13]
    refine FN (by kernel_rfl) ?_
    simp -implicitDefEqProofs only [G5,EM,D9,EQ,GH,FT,J7,EU,H6,GN,AO,AA,AZ,BX,BQ,CG,AB,jE,jD,jF,↓reduceIte,jC,jQ,jA,enP,XZ,f0,f1,f5,D7 hi',D7 hk2,FP AOH AGH MH hi',FP AOH AGH MH hk2]
    refine ⟨_,APS G xs[i] _,?_⟩
    refine ⟨_,APS G xs[k] _,?_⟩
    try simp -implicitDefEqProofs only [D9,FU,BI,A8,AA,AZ,AB,MK,↓reduceIte]
    refine CV (fun hb => ?_) (fun hb => ?_)
    ·simp -implicitDefEqProofs only [BC,BA,BJ,A8,CQ,ED,RI,F7,AY,BB,AO,AQ,AL,BD,AX,AC,AA,AU,BM,A7,↓reduceIte,jA,jB]
     refine ⟨?_,trivial⟩
     have:JU (N.take i) xs[i].name=true:=by
      rw [hin]; unfold JU; rw [hs,hb]; rfl
     rw [hd,hdrop,this]; rfl
    ·simp -implicitDefEqProofs only [BA,BR,A8,EH,ER,AY,BB,AO,AQ,AL,BD,AX,AC,AA,AZ,AU,BH,BG,BQ,AB,DK,↓reduceIte,jC,jA,jB,enP,f13,wrap_succ (show k < 9223372036854775807 by omega)]
     refine ⟨n' - 1,by omega,k+1,by omega,f0,f1,f8,f9,f5,f12,rfl,trivial,?_⟩
     rw [hin]; unfold JU; rw [hs,hb]; rfl
   ·have hk' : ¬ k < i:=by simpa using hc
    simp -implicitDefEqProofs only [DW,EG,NG,EZ,AA,↓reduceIte,jC]
    refine ⟨f0,f1,f8,f9,trivial,?_⟩
    rw [hin,zG (by rw [qB]; omega)]; rfl
  ·rintro F' H' ⟨g0,g1,g8,g9,rfl,hn⟩
   simp -implicitDefEqProofs only [BA,A8,EH,EY,ER,AY,BB,AO,AQ,AL,BD,AX,AC,AA,AZ,AU,BH,BG,BQ,AB,DK,↓reduceIte,jC,jA,jB,enP,g9,wrap_succ (show i < 9223372036854775807 by omega)]
   refine ⟨n - 1,by omega,i+1,by omega,g0,g1,g8,rfl,trivial,?_⟩
   rw [hd,hdrop,hn]; rfl
  ·rintro F' H' ⟨g4,rfl⟩
   simp -implicitDefEqProofs only [CQ,ED,F7,CJ,g4]
   exact ⟨trivial,trivial⟩
 ·have hi' : ¬ i < xs.length:=by simpa using hc
  simp -implicitDefEqProofs only [BC,BA,BJ,DW,A8,EG,EY,EZ,CJ,AY,BB,AO,AQ,AL,BD,AX,AC,AA,AU,BM,A7,↓reduceIte,jA,jB]
  exact ⟨by rw [hd,zG (by omega)]; rfl,trivial⟩
def L6 {α:Type} (f:α→Int):List α→Int
 | []=>0
 | x :: xs=>if f x=0 then L6 f xs else f x
theorem VH {α:Type} (f:α→Int) (xs:List α) (k:Nat) (hk:k < xs.length):L6 f (xs.drop k)=if f xs[k]=0 then L6 f (xs.drop (k+1)) else f xs[k]:=by
 rw [zQ hk]; rfl
def I4 (p:Pt):Int :=
 if IB p.name=false then 7 else if exE p.ex≠0 then exE p.ex else if p.bins.length=0 then 1 else if 64 < p.bins.length then 2 else
  if L6 IZ p.bins≠0 then L6 IZ p.bins else if TY (p.bins.map (·.name)) then 8 else 0
structure PtOk (p:Pt):Prop where
 ex:wt p.ex≤1048576
 name:p.name.size≤1048576
 num:p.bins.length≤1048576
 bins : ∀ b∈p.bins,BinOk b
theorem AXA (h:Hp):JY Tryz.prog h 56=some (.ptr h.length 0 0,h ++ [.live 4 [[.str ⟨#[]⟩,.int .i64 0,.sl .nil 0 [],.sl .nil 0 []]]]):=JL (row := [.str ⟨#[]⟩,.int .i64 0,.sl .nil 0 [],.sl .nil 0 []]) (by kernel_rfl)
theorem AX8 (h:Hp) (b:Bin) (row:List AV) (hr:row.length=4):FB Tryz.prog (h ++ [.live 4 [row]]) 56 (.ptr h.length 0 0) (.agg (GV b))=some (h ++ [.live 4 [GV b]]):=by
 rw [NM (PN rfl) (by rw [MI]; exact YY) (by rw [MI,hr]; exact jK _)]
 have:splice row 0 (GV b)=GV b:=by unfold splice; simp [MI,hr]
 rw [this]
theorem AB4 (G:Nat→AV) (hG:GOk G) (p:Pt) (hp:PtOk p) (h:Hp):PCall (En G) 50 [.agg (F9 p)] h (.int .i64 (I4 p)):=by
 refine ACalls.pure0 rfl ?_
 have hp1:=hp.ex
 have hp2:=hp.name
 have hp3:=hp.num
 refine acN Tryz.func50 rfl ?_
 show awp _ _ _ _ _ (D8 _ [.tmp 2] _)
 simp -implicitDefEqProofs only [BC,BA,A8,AY,BB,AO,AQ,AL,BD,AX,AC,AA,AZ,AU,BU,BH,A7,FM,BX,BN,BZ,BO,CB,AB,BF,jE,jD,jF,↓reduceIte,jC,jM,jA,jB,enP,ANP,bxP,DV ag9,AV0]
 refine (NU G hG.kw p.name _ (by omega)).use ?_
 simp -implicitDefEqProofs only [BI,A8,AY,BB,AO,AQ,AL,BD,AX,AC,AA,AZ,GU,AB,EP,↓reduceIte,jA,jB]
 cases h1:IB p.name
 ·simp -implicitDefEqProofs only [BC,BA,BJ,A8,CQ,CJ,CZ,AY,BB,AO,AQ,AL,BD,AX,AC,AA,AU,BH,A7,↓reduceIte,jA,jB]
  exact ⟨by unfold I4; rw [if_pos h1],_,rfl⟩
 have h1' : ¬ IB p.name=false:=by rw [h1]; decide
 simp -implicitDefEqProofs only [BC,BA,BR,A8,DI,AY,AO,AQ,AL,BD,AX,AC,AA,AZ,BU,BX,BN,BZ,BO,AB,jE,jD,jF,↓reduceIte,jC,jG,jA,jV,jB,enP,AC8,AU1 (CW h _)]
 refine (YB G hG p.ex _ hp1).use ?_
 simp -implicitDefEqProofs only [BC,BA,BI,A8,AY,BB,AO,AQ,AL,BD,AX,AC,AA,AZ,AU,BH,BG,A7,BQ,AB,ET,↓reduceIte,jA,jB,enP]
 refine CV (fun h2 => ?_) (fun h2 => ?_)
 ·simp -implicitDefEqProofs only [BC,BA,BJ,A8,CQ,CJ,AY,BB,AO,AQ,AL,BD,AX,AC,AA,AZ,BG,A7,↓reduceIte,jC,jA,jB]
  exact ⟨by unfold I4; rw [if_neg h1',if_pos (by simpa using h2)],_,rfl⟩
 have h2' : ¬ exE p.ex≠0:=by simpa using h2
 simp -implicitDefEqProofs only [BC,BP,BA,BR,BI,A8,AY,BB,AO,AQ,AL,BD,AX,AC,AA,AZ,AU,BH,A7,BX,BQ,BN,D6,AB,DR,↓reduceIte,jC,jG,jA,jB,enP,XU,KU,DV AD1,U0,jI]
 refine CV (fun h3 => ?_) (fun h3 => ?_)
 ·simp -implicitDefEqProofs only [BC,BA,BJ,A8,CQ,ED,CJ,AY,BB,AO,AQ,AL,BD,AX,AC,AA,AU,BH,A7,↓reduceIte,jA,jB]
  exact ⟨by unfold I4; rw [if_neg h1',if_neg h2',if_pos (by simp at h3; simpa using h3)],_,rfl⟩
 have h3' : ¬ p.bins.length=0:=by simp at h3; simpa using h3
 simp -implicitDefEqProofs only [BC,BA,BI,A8,AY,BB,AO,AQ,AL,BD,AX,AC,AA,AZ,AU,BH,A7,BX,BQ,BN,D6,AB,FD,↓reduceIte,jC,jG,jA,jB,enP,XU,KU,DV AD1,U0,jI]
 refine CV (fun h4 => ?_) (fun h4 => ?_)
 ·simp -implicitDefEqProofs only [BC,BA,BJ,A8,CQ,ED,CJ,AY,BB,AO,AQ,AL,BD,AX,AC,AA,AU,BH,A7,↓reduceIte,jA,jB]
  exact ⟨by unfold I4; rw [if_neg h1',if_neg h2',if_neg h3',if_pos (by simp at h4; omega)],_,rfl⟩
 have h4' : ¬ 64 < p.bins.length:=by simp at h4; omega
 have hpt:I4 p=if L6 IZ p.bins≠0 then L6 IZ p.bins else if TY (p.bins.map (·.name)) then 8 else 0:=by
  unfold I4; rw [if_neg h1',if_neg h2',if_neg h3',if_neg h4']
 simp -implicitDefEqProofs only [BC,BP,BA,BR,A8,EH,AY,BB,AO,AQ,AL,BD,AX,AC,AA,AZ,AU,BH,BG,BX,BN,D6,AB,↓reduceIte,jC,jG,jA,jB,enP,XU,KU,DV AD1,U0,jI]
 refine JA 1 (fun F H=>F 1 = .ptr h.length 0 0∧H[h.length]? = some (.live 6 [F9 p])∧(∃ x,H=h ++ x)∧L6 IZ p.bins=0) (fun F H=>F 2 = .int .i64 (I4 p)∧∃ x,H=h ++ x) ?_ ?_ ?_
 ·refine DY (fun n F H => ∃ k,n+k=p.bins.length∧F 1 = .ptr h.length 0 0∧F 28 = .sl p.bm 4 (p.bins.map GV)∧F 29 = .int .i64 p.bins.length∧F 30 = .int .i64 (k:Nat)∧H[h.length]? = some (.live 6 [F9 p])∧(∃ x,H=h ++ x)∧L6 IZ p.bins=L6 IZ (p.bins.drop k)) p.bins.length ⟨0,by simp,by simp -implicitDefEqProofs only [AA,↓reduceIte,jC],by simp -implicitDefEqProofs only [AA,↓reduceIte,jC],by simp -implicitDefEqProofs only [AA,↓reduceIte,jC],by simp -implicitDefEqProofs only [AA,↓reduceIte]; rfl,CW _ _,⟨_,rfl⟩,rfl⟩ ?_
  rintro n F H ⟨k,hk,f1,f28,f29,f30,hb,⟨x,hx⟩,hf⟩
  simp -implicitDefEqProofs only [BC,BA,BI,A8,AY,BB,AO,AQ,AL,BD,AX,AC,AA,AZ,BQ,AB,C9,↓reduceIte,jA,jB,enP,f29,f30]
  refine CV (fun hc => ?_) (fun hc => ?_)
  ·have hk':k < p.bins.length:=by simpa using hc
   have hs:=VH IZ p.bins k hk'
   simp -implicitDefEqProofs only [BC,BP,BA,BR,A8,AY,BB,AO,AQ,AL,BD,AX,AC,ES,AA,AZ,BU,FO,BX,EI,CG,BZ,BO,CB,AB,DT,jE,jD,jF,↓reduceIte,jC,jA,jB,enP,ZC,jT,f28,f30,D7 hk',FP AEU YY MI hk',AXA,AX8 _ _ [.str ⟨#[]⟩,.int .i64 0,.sl .nil 0 [],.sl .nil 0 []] rfl,ldB]
   refine (valid_prog G hG.kw p.bins[k] (hp.bins _ (jO hk')) _).use ?_
   simp -implicitDefEqProofs only [BC,BA,BI,A8,AY,BB,AO,AQ,AL,BD,AX,AC,AA,AZ,AU,BH,BG,A7,BQ,AB,ET,↓reduceIte,jA,jB,enP]
   refine CV (fun hv => ?_) (fun hv => ?_)
   ·simp -implicitDefEqProofs only [BC,BA,BJ,A8,CQ,ED,RI,F7,AY,BB,AO,AQ,AL,BD,AX,AC,AA,AZ,BG,A7,↓reduceIte,jC,jA,jB]
    have hv':IZ p.bins[k]≠0:=by simpa using hv
    have:L6 IZ p.bins=IZ p.bins[k]:=by rw [hf,hs,if_neg hv']
    exact ⟨by rw [hpt,this,if_pos hv'],x ++ _,by rw [hx,zI]⟩
   ·have hv':IZ p.bins[k]=0:=by simpa using hv
    simp -implicitDefEqProofs only [BA,BR,A8,EH,ER,AY,BB,AO,AQ,AL,BD,AX,AC,AA,AZ,AU,BH,BG,BQ,AB,DK,↓reduceIte,jC,jA,jB,enP,f30,wrap_succ (show k < 9223372036854775807 by omega)]
    exact ⟨n - 1,by omega,k+1,by omega,f1,f28,f29,rfl,CU hb,⟨x ++ _,by rw [hx,zI]⟩,by rw [hf,hs,if_pos hv']⟩
  ·have hk' : ¬ k < p.bins.length:=by simpa using hc
   simp -implicitDefEqProofs only [DW,EG,NG,EZ,AA,↓reduceIte,jC]
   exact ⟨f1,hb,⟨x,hx⟩,by rw [hf,zG (by omega)]; rfl⟩
 ·rintro F H ⟨f1,hb,⟨x,hx⟩,hf⟩
  have l5:DX Tryz.prog H 49 (.ptr h.length 0 5)=some (.sl p.bm 4 (p.bins.map GV)):=by rw [DJ AD1 hb (row:=F9 p) rfl,U0]
  simp -implicitDefEqProofs only [BC,BA,A8,EY,AY,AO,AQ,AL,BD,AX,AC,AA,AZ,BU,BX,BN,BZ,BO,AB,jE,jD,jF,↓reduceIte,jG,jA,jB,enP,KU,f1,l5]
  refine (ARA G p.bins p.bm H (by omega)).use ?_
  simp -implicitDefEqProofs only [BI,A8,BB,AC,AA,AZ,↓reduceIte]
  cases hd:TY (p.bins.map (·.name))
  ·simp -implicitDefEqProofs only [BC,BA,BR,BJ,A8,CJ,DI,AY,BB,AO,AQ,AL,BD,AX,AC,AA,AU,BH,A7,↓reduceIte,jA,jB]
   exact ⟨by rw [hpt,hf,hd]; rfl,x,hx⟩
  ·simp -implicitDefEqProofs only [BC,BA,BJ,A8,CQ,CJ,CZ,AY,BB,AO,AQ,AL,BD,AX,AC,AA,AU,BH,A7,↓reduceIte,jA,jB]
   exact ⟨by rw [hpt,hf,hd]; rfl,x,hx⟩
 ·rintro F H ⟨f2,hx⟩
  simp -implicitDefEqProofs only [CQ,ED,CJ,f2]
  exact ⟨trivial,hx⟩
def outG {α:Type} (k:Nat) (f:α→List AV) (h:Hp) (ys:List α) (v:AV) (H:Hp):Prop :=
 (ys = []∧v = .sl .nil 0 [])∨(ys≠[]∧∃ o,h.length≤o∧v = .own o 0 ys.length∧H[o]? = some (.live k (ys.map f)))
theorem outG.nil {α:Type} (k:Nat) (f:α→List AV) (h H:Hp):outG k f h [] (.sl .nil 0 []) H := .inl ⟨rfl,rfl⟩
theorem outG.keep {α:Type} {k:Nat} {f:α→List AV} {h H H':Hp} {ys:List α} {v:AV} (ho:outG k f h ys v H) (hk : ∀ b,isB v b→H'[b]? = H[b]?):outG k f h ys v H':=by
 rcases ho with h1 | ⟨h1,o,h2,rfl,h3⟩
 ·exact .inl h1
 ·exact .inr ⟨h1,o,h2,rfl,by rw [hk o rfl]; exact h3⟩
theorem outG.lt {α:Type} {k:Nat} {f:α→List AV} {h H:Hp} {ys:List α} {v:AV} {b:Nat} (ho:outG k f h ys v H) (hb:isB v b):h.length≤b∧b < H.length:=by
 rcases ho with ⟨_,rfl⟩ | ⟨_,o,h2,rfl,h3⟩
 ·exact hb.elim
 ·cases hb; exact ⟨h2,CE h3⟩
theorem outG.app {α:Type} {k:Nat} {f:α→List AV} {h H:Hp} {ys:List α} {v:AV} (ho:outG k f h ys v H) (x:Hp):outG k f h ys v (H ++ x) :=
 ho.keep fun _ hb=>zM (ho.lt hb).2
theorem outG.append {P:Program} {t e:TypeId} {α:Type} {k bs:Nat} {f:α→List AV} {h H:Hp} {ys:List α} {v:AV} (ho:outG k f h ys v H) (hu:P.underlying t=some (.slice e)) (hs:szO P e=some k) (hz:UB P e=some k) (hb:MS P e=some bs) (hbs:bs≤4194304) (hl:ys.length < 8388608) (he:ext h H) (y:α) :
  ∃ v' H',FZ P true H t t v (.sl .full k [f y])=some (v',H')∧outG k f h (ys ++ [y]) v' H'∧(∀ b x,H[b]? = some x→¬ isB v b→H'[b]? = some x)∧ext h H'∧H.length≤H'.length∧∀ b,isB v' b→b=H.length:=by
 have h1:([f y]:List (List AV))≠[]:=by simp
 rcases ho with ⟨rfl,rfl⟩ | ⟨hne,o,h2,rfl,h3⟩
 ·exact ⟨_,_,PX hu hs hz hb (IM H .full k [f y]) h1 (IX (by simp) hbs),.inr ⟨by simp,H.length,he.le,rfl,by simp⟩,fun b x hb _=>FQ hb,he.app _,by simp,fun b hb=>hb.symm⟩
 ·have hc:JP H (.own o 0 ys.length)=some (k,ys.map f):=by
   rw [LG h3 (by simp),zO,jW (by simp)]
  refine ⟨_,_,PW hu hs hz hb hc (IM H .full k [f y]) h1 (IX (by simp; omega) hbs),.inr ⟨by simp,H.length,he.le,by simp,by simp⟩,fun b x hb hn => ?_,(he.set h2 _).app _,by simp,fun b hb=>hb.symm⟩
  have hn' : ¬ o=b:=hn
  refine FQ ?_
  rw [zB,if_neg hn']; exact hb
theorem outG.len {P:Program} {t:TypeId} {α:Type} {k:Nat} {f:α→List AV} {h H:Hp} {ys:List α} {v:AV} (ho:outG k f h ys v H) (hl:(∀ m k xs,KX P t (.sl m k xs)=some (.int .i64 xs.length))∧∀ b off len,KX P t (.own b off len)=some (.int .i64 len)):KX P t v=some (.int .i64 ys.length):=by
 rcases ho with ⟨rfl,rfl⟩ | ⟨_,o,_,rfl,_⟩
 ·exact hl.1 _ _ _
 ·exact hl.2 _ _ _
def nm {α:Type} (ys:List α):SM:=match ys with
 | [] => .nil
 | _ => .any
theorem frzF_own (n:Nat) (h:Hp) (d b off len k:Nat) (xs:List (List AV)) (hn : ¬ b < n) (hb:h[b]? = some (.live k xs)):IG n h (d+1) (.own b off len)=if off+len≤xs.length∧(((xs.drop off).take len).map (·.map (IG n h d))).all (·.all AV.leaf)=true then .sl .any k (((xs.drop off).take len).map (·.map (IG n h d))) else .junk:=by
 rw [IG]
 simp only [hn,if_false,hb]
def Frz {α:Type} (f:α→List AV):Prop := ∀ (n:Nat) (h:Hp) (d:Nat) (x:α),(f x).map (IG n h (d+1))=f x∧(f x).all AV.leaf=true
theorem frz_rows {α:Type} {f:α→List AV} (hf:Frz f) (n:Nat) (h:Hp) (d:Nat) (xs:List α):(xs.map f).map (·.map (IG n h (d+1)))=xs.map f:=by
 rw [List.map_map]
 exact List.map_congr_left fun x _=>(hf n h d x).1
theorem frz_own {α:Type} {f:α→List AV} (hf:Frz f) {n d k:Nat} {h:Hp} {o:Nat} {xs:List α} (hn:n≤o) (ho:h[o]? = some (.live k (xs.map f))):IG n h (d+2) (.own o 0 xs.length) = .sl .any k (xs.map f):=by
 rw [frzF_own n h (d+1) o 0 xs.length k _ (by omega) ho,zO,jW (by simp),frz_rows hf n h d xs]
 rw [if_pos]
 refine ⟨by simp,?_⟩
 rw [List.all_eq_true]
 intro row hr
 obtain ⟨x,_,rfl⟩:=List.mem_map.1 hr
 exact (hf n h d x).2
theorem P5 {E:Env} {f:FuncId} {args:List AV} {h:Hp} {α:Type} {k:Nat} {enc:α→List AV} (hf:Frz enc) {ys:List α} (hc:ACalls E f args h fun v H=>ext h H∧outG k enc h ys v H):PCall E f args h (.sl (nm ys) k (ys.map enc)):=by
 have h1:ACalls E f args h fun v H=>v=(if ys.length=0 then AV.sl .nil 0 [] else .sl .any k (ys.map enc))∧H=h:=by
  refine ACalls.pure 2 hc ?_
  rintro v H ⟨hex,hout⟩
  refine ⟨hex,?_⟩
  rcases hout with ⟨rfl,rfl⟩ | ⟨hne,o,ho1,rfl,ho⟩
  ·rfl
  ·rw [if_neg (by simpa using hne)]; exact frz_own hf ho1 ho
 refine h1.conv ?_
 rintro v H ⟨rfl,rfl⟩
 refine ⟨_,⟨rfl,rfl⟩,?_⟩
 intro g cv hr
 cases ys with
 | nil=>exact AJS hr
 | cons y ys=>exact hr
def JQ (m:Mo) (p:Int):List Bin:=match m.pts[p.toNat]? with
 | some q=>q.bins
 | none => []
def szs (m:Mo) (l:List Int):List Nat:=l.map fun p=>(JQ m p).length
def Here (m:Mo) (l:List Int):Prop := ∀ p∈l,0≤p∧p < (m.pts.length:Int)
theorem Here.toNat {m:Mo} {l:List Int} (hh:Here m l) {k:Nat} (hk:k < l.length):(l[k]).toNat < m.pts.length:=by
 have:=hh _ (jO hk); omega
theorem Here.bins {m:Mo} {l:List Int} (hh:Here m l) {k:Nat} (hk:k < l.length):(m.pts[(l[k]).toNat]'(hh.toNat hk)).bins=JQ m l[k]:=by
 unfold JQ; rw [jL (hh.toNat hk)]
theorem Here.ix {m:Mo} {l:List Int} (hh:Here m l) {k:Nat} (hk:k < l.length) (h:Hp) (s:SM):JG 6 h (.sl s 6 (m.pts.map F9)) (.int .i64 l[k])=some (.fptr 6 (m.pts.map F9) (l[k]).toNat 0):=by
 have:=hh _ (jO hk)
 exact A1I this.1 (by rw [jI]; exact this.2)
theorem Here.ld {m:Mo} {l:List Int} (hh:Here m l) {k:Nat} (hk:k < l.length) (h:Hp) : ∃ s,DX Tryz.prog h 49 (.fptr 6 (m.pts.map F9) (l[k]).toNat 5)=some (.sl s 4 ((JQ m l[k]).map GV)):=by
 rw [DZ AD1 (hh.toNat hk),U0,hh.bins hk]
 exact ⟨_,rfl⟩
theorem A5K:Frz qencI:=fun _ _ _ _=>⟨rfl,rfl⟩
theorem ALK (h:Hp) (v:Int):EN Tryz.prog false h 26 1 [(0,.int .i64 v)]=some (.sl .full 1 [[.int .i64 v]],h):=by kernel_rfl
def JH (n:Nat):List AV := [.int .i64 (n:Int)]
theorem A21:Frz JH:=fun _ _ _ _=>⟨rfl,rfl⟩
theorem encN0 (n:Nat):(JH n)[0]? = some (.int .i64 (n:Int)):=rfl
theorem encI0 (n:Int):(qencI n)[0]? = some (.int .i64 n):=rfl
theorem AII (m:Mo) (l:List Int) (k:Nat) (hk:k < l.length):szs m (l.take (k+1))=szs m (l.take k) ++ [(JQ m l[k]).length]:=by
 unfold szs; rw [zN hk,List.map_append]; rfl
theorem WB (G:Nat→AV) (m:Mo) (c:Cr) (h:Hp) (hh:Here m c.pts) (hl:c.pts.length≤1048576):PCall (En G) 86 [.agg (EE m),.agg (G6 c)] h (.sl (nm (szs m c.pts)) 1 ((szs m c.pts).map JH)):=by
 refine P5 A21 ?_
 refine acN Tryz.func86 rfl ?_
 show awp _ _ _ _ _ (D8 _ [.tmp 4] _)
 simp -implicitDefEqProofs only [BC,BP,BA,A8,AY,BB,AO,AQ,AL,BD,AX,AC,AA,AZ,AU,BH,GZ,BG,A7,FM,BX,BN,D6,CB,AB,BF,BL,↓reduceIte,jC,jG,jA,jB,enP,KH,NH,bxM,bxC,DV OA,U2,jI]
 have hb0:(h ++ [ABlk.live 2 [EE m]] ++ [ABlk.live 3 [G6 c]])[h.length]? = some (.live 2 [EE m]):=CU (CW _ _)
 refine DY (fun n F H => ∃ k,n+k=c.pts.length∧F 2 = .ptr h.length 0 0∧F 9 = .sl c.pm 1 (c.pts.map qencI)∧F 10 = .int .i64 c.pts.length∧F 11 = .int .i64 (k:Nat)∧H[h.length]? = some (.live 2 [EE m])∧ext h H∧(∀ b,isB (F 5) b→h.length < b)∧outG 1 JH h (szs m (c.pts.take k)) (F 5) H) c.pts.length ⟨0,by simp,by simp -implicitDefEqProofs only [AA,↓reduceIte,jC],by simp -implicitDefEqProofs only [AA,↓reduceIte,jC],by simp -implicitDefEqProofs only [AA,↓reduceIte,jC],by simp -implicitDefEqProofs only [AA,↓reduceIte]; rfl,hb0,((ext.rfl' h).app _).app _,fun b hb=>hb.elim,outG.nil _ _ _ _⟩ ?_
 rintro n F H ⟨k,hk,f2,f9,f10,f11,hb,he,hlt,ho⟩
 simp -implicitDefEqProofs only [BC,BA,BI,A8,AY,BB,AO,AQ,AL,BD,AX,AC,AA,AZ,BQ,AB,C9,↓reduceIte,jA,jB,enP,f10,f11]
 refine CV (fun hc => ?_) (fun hc => ?_)
 ·have hk':k < c.pts.length:=by simpa using hc
  have lm:DX Tryz.prog H 22 (.ptr h.length 0 0)=some (.sl m.pm 6 (m.pts.map F9)):=by rw [DJ Z7 hb (row:=EE m) rfl,SE]
  obtain ⟨s,ls⟩:=hh.ld hk' H
  have hzl:(szs m (c.pts.take k)).length < 8388608:=by unfold szs; simp; omega
  obtain ⟨v',H',ha,ho',hkeep,he',hle,hb'⟩:=ho.append VJ sz3 YV YM (by omega) hzl he (JQ m c.pts[k]).length
  simp -implicitDefEqProofs only [FK,FH,BC,BP,BA,BR,A8,AY,BB,AO,AQ,AL,BD,AX,AC,AA,AZ,BG,A7,EC,BX,BN,CG,D6,GL,CB,AB,↓reduceIte,jC,jM,jG,jA,jB,enP,WQ,JV,JS,XU,KU,f2,f9,f11,D7 hk',DZ ag3 hk',encI0,lm,hh.ix hk',ls,jI,ALK]
  refine LY (v:=v') (h:=H') (by rw [show [[AV.int .i64 ((JQ m c.pts[k]).length:Int)]] = [JH (JQ m c.pts[k]).length] from rfl,ha]) ?_
  simp -implicitDefEqProofs only [BA,A8,EH,ER,AY,BB,AO,AQ,AL,BD,AX,AC,AA,AZ,AU,BH,BG,A7,BQ,AB,DK,↓reduceIte,jC,jA,jB,enP,f11,wrap_succ (show k < 9223372036854775807 by omega)]
  refine ⟨n - 1,by omega,k+1,by omega,f2,f9,f10,rfl,hkeep _ _ hb (fun e=>by have:=hlt _ e; omega),he',fun b hbb => ?_,?_⟩
  ·have:=hb' b hbb; have:=CE hb; omega
  ·rw [AII m c.pts k hk']; exact ho'
 ·have hk' : ¬ k < c.pts.length:=by simpa using hc
  rw [jW (by omega)] at ho
  simp -implicitDefEqProofs only [BC,BA,BJ,DW,A8,EG,EY,EZ,CJ,AY,BB,AO,AQ,AL,BD,AX,AC,AA,AZ,BG,A7,↓reduceIte,jC,jA,jB]
  exact ⟨he,ho⟩
def JO (l:List Nat):Nat:=l.foldl (· * ·) 1
theorem AB2 (l:List Nat) (k:Nat) (hk:k < l.length):JO (l.take (k+1))=JO (l.take k) * l[k]:=by
 unfold JO; rw [zN hk,List.foldl_append]; rfl
theorem AB3 (l:List Nat) (k:Nat) (h : ∀ n∈l,n≤64) (hk:l.length≤k):JO l≤64 ^ k:=by
 have gen : ∀ (l:List Nat) (a:Nat) (j:Nat),(∀ n∈l,n≤64)→a≤64 ^ j→l.foldl (· * ·) a≤64 ^ (j+l.length):=by
  intro l
  induction l with
  | nil=>intro a j _ ha; exact ha
  | cons x l ih =>
    intro a j hl ha
    rw [wF,zW,show j+(l.length+1)=(j+1)+l.length by omega]
    refine ih _ _ (fun n hn=>hl n (by simp [hn])) ?_
    rw [Nat.pow_succ]
    exact Nat.mul_le_mul ha (hl x (by simp))
 have:=gen l 1 0 h (by simp)
 rw [jG] at this
 exact qJ this (Nat.pow_le_pow_right (by omega) hk)
theorem XL (G:Nat→AV) (l:List Nat) (s:SM) (h:Hp) (hl : ∀ n∈l,n≤64) (hk:l.length≤4):PCall (En G) 87 [.sl s 1 (l.map JH)] h (.int .i64 (JO l)):=by
 refine acN Tryz.func87 rfl ?_
 show awp _ _ _ _ _ (D8 _ [.tmp 2] _)
 simp -implicitDefEqProofs only [BC,BP,BA,A8,AY,BB,AO,AQ,AL,BD,AX,AC,AA,AZ,AU,BH,BG,A7,D6,AB,BF,↓reduceIte,jC,jA,jB,enP,KH,jI]
 have hp : ∀ k,JO (l.take k)≤16777216:=fun k=>by
  have:=AB3 (l.take k) 4 (fun n hn=>hl n (List.mem_of_mem_take hn)) (by rw [qB]; omega)
  simpa using this
 refine DY (fun n F H => ∃ k,n+k=l.length∧F 3 = .int .i64 (JO (l.take k))∧F 6 = .sl s 1 (l.map JH)∧F 7 = .int .i64 l.length∧F 8 = .int .i64 (k:Nat)∧H=h) l.length ⟨0,by simp,by simp -implicitDefEqProofs only [AA,↓reduceIte,jC]; rfl,by simp -implicitDefEqProofs only [AA,↓reduceIte,jC],by simp -implicitDefEqProofs only [AA,↓reduceIte,jC],by simp -implicitDefEqProofs only [AA,↓reduceIte]; rfl,rfl⟩ ?_
 rintro n F H ⟨k,hk,f3,f6,f7,f8,rfl⟩
 simp -implicitDefEqProofs only [BC,BA,BI,A8,AY,BB,AO,AQ,AL,BD,AX,AC,AA,AZ,BQ,AB,C9,↓reduceIte,jA,jB,enP,f7,f8]
 refine CV (fun hc => ?_) (fun hc => ?_)
 ·have hk':k < l.length:=by simpa using hc
  have h1:=hp (k+1)
  rw [AB2 l k hk'] at h1
  have hw:IntKind.i64.wrap ((JO (l.take k):Int) * (l[k]:Int))=((JO (l.take (k+1)):Nat):Int):=by
   rw [AB2 l k hk',← Int.natCast_mul,KC (by omega)]
  simp -implicitDefEqProofs only [BC,BP,BA,BR,A8,EH,ER,AY,BB,AO,AQ,AL,BD,AX,AC,AA,AZ,AU,BH,BG,A7,BX,BQ,CG,AB,DK,PV,↓reduceIte,jC,jA,jB,enP,JS,f3,f6,f8,D7 hk',DZ ag3 hk',encN0,hw,wrap_succ (show k < 9223372036854775807 by omega)]
  exact ⟨n - 1,by omega,k+1,by omega,rfl,trivial,f7,rfl,trivial⟩
 ·have hk' : ¬ k < l.length:=by simpa using hc
  rw [jW (by omega)] at f3
  simp -implicitDefEqProofs only [BC,BA,BJ,DW,A8,EG,EY,EZ,CJ,AY,BB,AO,AQ,AL,BD,AX,AC,AA,AZ,BG,A7,↓reduceIte,jC,jA,jB,f3]
  exact ⟨trivial,trivial⟩
def J3:List Nat→List Int→Bool
 | [],[]=>true
 | n :: ns,x :: xs=>decide (0≤x) && decide (x < (n:Int)) && J3 ns xs
 | _,_=>false
theorem AVF (ns:List Nat):J3 ns []=(ns.length == 0):=by cases ns <;> rfl
theorem QD : ∀ {ns:List Nat} {xs:List Int},J3 ns xs=true→ns.length=xs.length
 | [],[],_=>rfl
 | n :: ns,x :: xs,h=>by
   simp only [J3,Bool.and_eq_true] at h
   simp [QD h.2]
 | [],_ :: _,h=>by cases h
 | _ :: _,[],h=>by cases h
theorem inside_prog (G:Nat→AV) (ns:List Nat) (xs:List Int) (s t:SM) (h:Hp) (hn:ns.length≤1048576):PCall (En G) 90 [.sl s 1 (ns.map JH),.sl t 1 (xs.map qencI)] h (.bool (J3 ns xs)):=by
 refine acN Tryz.func90 rfl ?_
 show awp _ _ _ _ _ (D8 _ [.tmp 4] _)
 simp -implicitDefEqProofs only [BC,BP,BA,A8,AY,BB,AO,AQ,AL,BD,AX,AC,AA,AZ,AU,BH,BM,BG,A7,D6,AB,BF,BL,↓reduceIte,jC,jA,jB,enP,KH,jI]
 refine DY (fun n F H => ∃ k,n+k=xs.length∧k≤ns.length∧F 0 = .sl s 1 (ns.map JH)∧F 1 = .sl t 1 (xs.map qencI)∧F 7 = .sl t 1 (xs.map qencI)∧F 8 = .int .i64 xs.length∧F 9 = .int .i64 (k:Nat)∧H=h∧J3 ns xs=J3 (ns.drop k) (xs.drop k)) xs.length ⟨0,by simp,by simp,by simp -implicitDefEqProofs only [AA,BF,↓reduceIte,jC],by simp -implicitDefEqProofs only [AA,BF,BL,↓reduceIte,jC],by simp -implicitDefEqProofs only [AA,↓reduceIte,jC],by simp -implicitDefEqProofs only [AA,↓reduceIte,jC],by simp -implicitDefEqProofs only [AA,↓reduceIte]; rfl,rfl,rfl⟩ ?_
 rintro n F H ⟨k,hk,hkn,f0,f1,f7,f8,f9,rfl,hi⟩
 simp -implicitDefEqProofs only [BC,BA,BI,A8,AY,BB,AO,AQ,AL,BD,AX,AC,AA,AZ,BQ,AB,C9,↓reduceIte,jA,jB,enP,f8,f9]
 refine CV (fun hc => ?_) (fun hc => ?_)
 ·have hk':k < xs.length:=by simpa using hc
  rw [zQ hk'] at hi
  simp -implicitDefEqProofs only [BC,BP,BA,BR,A8,AY,BB,BK,BV,CO,AO,AQ,AL,BD,AX,AC,AA,AZ,BG,A7,BX,BQ,CG,D6,AB,FX,↓reduceIte,jC,jA,jB,enP,JS,KH,f0,f7,f9,D7 hk',DZ ag3 hk',encI0,jI]
  refine JE (fun ha => ?_) (fun ha => ?_)
  ·simp -implicitDefEqProofs only [BC,BA,BJ,BI,A8,CQ,ED,F7,CJ,CZ,AY,BB,BK,BV,CO,FI,AO,AQ,AL,BD,AX,AC,AA,EK,AZ,AU,BM,BG,A7,CP,DL,↓reduceIte,jC,jA,jB,ha]
   have:ns.length≤k:=by simp at ha; omega
   rw [zG this] at hi
   exact ⟨by rw [hi]; rfl,trivial⟩
  have hkn':k < ns.length:=by simp at ha; omega
  rw [zQ hkn'] at hi
  simp -implicitDefEqProofs only [AY,BK,BV,CO,EF,AO,AQ,AL,BD,AX,AC,AA,AZ,AU,BH,BM,BG,CP,DN,BQ,AB,C9,↓reduceIte,jC,jA,jB,enP,ha]
  refine JE (fun hb => ?_) (fun hb => ?_)
  ·simp -implicitDefEqProofs only [BC,BA,BJ,BI,A8,CQ,ED,F7,CJ,CZ,AY,BB,BK,BV,CO,FI,AO,AQ,AL,BD,AX,AC,AA,EK,AZ,AU,BM,A7,CP,DL,↓reduceIte,jC,jA,jB,hb]
   have:decide (0≤xs[k])=false:=by simp at hb ⊢; omega
   exact ⟨by rw [hi]; unfold J3; rw [this]; rfl,trivial⟩
  have h0:decide (0≤xs[k])=true:=by simp at hb ⊢; omega
  simp -implicitDefEqProofs only [BI,A8,AY,BB,BK,BV,CO,EF,AO,AQ,AL,BD,AX,AC,AA,AZ,AU,BM,BG,CP,DN,BX,BQ,CG,AB,FX,↓reduceIte,jC,jA,jB,enP,JS,hb,f0,D7 hkn',DZ ag3 hkn',encN0]
  refine CV (fun hd => ?_) (fun hd => ?_)
  ·simp -implicitDefEqProofs only [BC,BA,BJ,A8,CQ,ED,F7,CJ,AY,BB,AO,AQ,AL,BD,AX,AC,AA,AU,BM,A7,↓reduceIte,jA,jB]
   have:decide (xs[k] < (ns[k]:Int))=false:=by simp at hd ⊢; omega
   exact ⟨by rw [hi]; unfold J3; rw [this,h0]; rfl,trivial⟩
  have h1:decide (xs[k] < (ns[k]:Int))=true:=by simp at hd ⊢; omega
  simp -implicitDefEqProofs only [BA,BR,A8,EH,ER,AY,BB,AO,AQ,AL,BD,AX,AC,AA,AZ,AU,BH,BG,BQ,AB,DK,↓reduceIte,jC,jA,jB,enP,f9,wrap_succ (show k < 9223372036854775807 by omega)]
  refine ⟨n - 1,by omega,k+1,by omega,by omega,f0,f1,f7,f8,rfl,trivial,?_⟩
  rw [hi]
  conv=>lhs; unfold J3
  rw [h0,h1]; rfl
 ·have hk' : ¬ k < xs.length:=by simpa using hc
  simp -implicitDefEqProofs only [BC,BA,BJ,DW,A8,EG,EY,EZ,CJ,AY,BB,AO,AQ,AL,BD,AX,AC,AA,AZ,BG,A7,BQ,D6,AB,DR,↓reduceIte,jC,jA,jB,enP,KH,f0,f1,jI]
  refine ⟨?_,trivial⟩
  rw [hi,zG (show xs.length≤k by omega),AVF,List.length_drop]
  congr 1
  rw [qP]; simp; omega
end Go.Proofs.YtfpagfhhhlljjaaGreatDoor.Cov
