/- Part 5 of the proof (E5, E6, E7, E8, E9, E10, M1, M2, L1, M4); no condition. -/
import Derived.Test.YtocilianjfhifaaGreatDoorYB4
set_option linter.unusedVariables false
set_option linter.unusedSimpArgs false
set_option maxRecDepth 8000
namespace Go.Proofs.YtocilianjfhifaaGreatDoor.Cov
open Sm Bins Go.RowKit
def QT (s:ByteArray):Bool:=s.toList == (⟨#[]⟩:ByteArray).toList
def U5 (e:Ex):Bool:=decide (e.op < 1) || decide (e.op > 25)
def ADZ (e:Ex):Bool:=((e.op == 1) && (decide (e.n < 0) || decide (e.n > 65535))) || (!(e.op == 1) && !(e.n == 0))
def AA8 (e:Ex):Bool:=(!KI e.op && !QT e.name) || !WF e.op e.args.length
def U4 (e:Ex):Bool:=((e.op == 2) && !P5 e.name) || (((e.op == 3) || (e.op == 24)) && !GK e.name)
def JO (e:Ex):Int:=if U5 e then 1 else if ADZ e then 1 else if AA8 e then 1 else if U4 e then 7 else 0
theorem ALA (G:Nat→AV) (hG:GOk G) (e:Ex) (h:Hp) (hl:e.name.size≤1048576):PCall (En G) 198 [.agg (EH e)] h (.int .i64 (JO e)):=by
 refine ACalls.pure0 rfl ?_
 refine CE (H:=Hint.none) (enM G) Tryz.func198 rfl (by kernel_rfl) (by kernel_rfl) (nLb (by kernel_rfl)) ?_
 show awp _ _ _ _ _ (D9 _ [.tmp 2] _)
 simp -implicitDefEqProofs only [BC,BA,A8,AY,BB,BH,BN,CO,AO,AQ,AL,BD,AX,AC,AA,AZ,AU,BI,BG,A7,FX,BQ,BU,BM,BX,AB,DX,BF,↓reduceIte,Nat.reduceEqDiff,Nat.add_zero,oGs,bNf,enP,H6,bxE,DJ ag3,JF]
 refine SY (fun F H=>F 3 = .bool (KI e.op)∧F 1 = .ptr h.length 0 0∧H=h ++ [.live 4 [EH e]]) ?_ ?_
 ·cases b2:(e.op == 2) <;> cases b3:(e.op == 3)
  all_goals
   simp -implicitDefEqProofs only [AY,BB,BH,BN,CO,EG,FP,AO,AQ,AL,BD,AX,AC,AA,EJ,AZ,AU,BI,BJ,BG,A7,CQ,DR,DN,BQ,BU,BM,AB,DX,↓reduceIte,Nat.reduceEqDiff,Nat.add_zero,oGs,bNf,enP,H6,b2,b3,DJ ag3,JF]
   exact ⟨by simp [KI,b2,b3],trivial,trivial⟩
 rintro F H ⟨f3,f1,rfl⟩
 simp -implicitDefEqProofs only [BC,BV,BA,A8,AY,BH,BN,CO,AO,AQ,AL,BD,AX,AC,AA,AZ,AU,BI,BG,BQ,BU,BM,AB,DT,↓reduceIte,Nat.add_zero,oGs,bNf,enP,H6,f1,f3,DJ ag3,JF]
 refine SY (fun F H=>F 17 = .bool (U5 e)∧F 3 = .bool (KI e.op)∧F 1 = .ptr h.length 0 0∧H=h ++ [.live 4 [EH e]]) ?_ ?_
 ·cases b2:decide (e.op < 1)
  all_goals
   simp -implicitDefEqProofs only [AY,BB,BH,BN,CO,EG,FP,AO,AQ,AL,BD,AX,AC,AA,EJ,AZ,AU,BI,BJ,A7,CQ,DR,DN,BQ,BU,BM,AB,FU,↓reduceIte,Nat.reduceEqDiff,Nat.add_zero,oGs,bNf,enP,H6,b2,f1,f3,DJ ag3,JF]
   exact ⟨by simp [U5,b2],trivial,trivial,trivial⟩
 clear f1 f3
 rintro F H ⟨f17,f3,f1,rfl⟩
 simp -implicitDefEqProofs only [BL,A8,AZ,f17]
 refine DC (fun ho => ?_) (fun ho => ?_)
 ·simp -implicitDefEqProofs only [BC,BA,BK,A8,CX,ED,CP,AY,BB,AO,AQ,AL,BD,AX,AC,AA,AU,BI,A7,↓reduceIte,oGs,bNf]
  exact ⟨by unfold JO; rw [if_pos ho],_,rfl⟩
 simp -implicitDefEqProofs only [BC,BA,AY,BH,BN,CO,AO,AQ,AL,BD,AX,AC,AA,AZ,AU,BI,BG,BQ,BU,BM,AB,DX,↓reduceIte,Nat.add_zero,oGs,bNf,enP,H6,f1,f3,DJ ag3,JF,XW]
 refine SY (fun F H=>F 26 = .bool (ADZ e)∧F 3 = .bool (KI e.op)∧F 1 = .ptr h.length 0 0∧H=h ++ [.live 4 [EH e]]) ?_ ?_
 ·cases b1:(e.op == 1) <;> cases b2:decide (e.n < 0) <;> cases b3:decide (e.n > 65535) <;> cases b4:(e.n == 0)
  all_goals
   simp -implicitDefEqProofs only [AY,BB,BH,BN,CO,FV,EG,G5,FP,Q9,AO,AQ,AL,BD,AX,AC,AA,EJ,AZ,AU,BI,BJ,BG,A7,CQ,DR,DN,BQ,BU,BM,AB,EQ,DT,FU,↓reduceIte,Nat.reduceEqDiff,Nat.add_zero,Nat.zero_add,oGs,bNt,bNf,enP,H6,ZY,bne,b1,b2,b3,b4,f1,f3,DJ ag3,JF,XW]
   exact ⟨by simp [ADZ,b1,b2,b3,b4],trivial,trivial,trivial⟩
 clear f1 f3 f17
 rintro F H ⟨f26,f3,f1,rfl⟩
 simp -implicitDefEqProofs only [BL,A8,AZ,f26]
 refine DC (fun hn => ?_) (fun hn => ?_)
 ·simp -implicitDefEqProofs only [BC,BA,BK,A8,CX,ED,CP,AY,BB,AO,AQ,AL,BD,AX,AC,AA,AU,BI,A7,↓reduceIte,oGs,bNf]
  exact ⟨by unfold JO; rw [if_neg (by simp [ho]),if_pos hn],_,rfl⟩
 simp -implicitDefEqProofs only [BC,BA,AY,BH,BN,CO,AO,AQ,AL,BD,AX,AC,AA,AZ,BG,GV,AB,EX,↓reduceIte,oGs,bNf,f1,f3,DJ ag9,PD]
 refine SY (fun F H=>F 50 = .bool (AA8 e)∧F 3 = .bool (KI e.op)∧F 1 = .ptr h.length 0 0∧H=h ++ [.live 4 [EH e]]) ?_ ?_
 ·cases bm:KI e.op <;> cases b5:QT e.name
  all_goals
   have b6:=b5
   unfold QT at b6
   simp -implicitDefEqProofs only [AY,BB,BH,BN,CO,FV,EG,G5,FP,AO,AQ,AL,BD,AX,AC,AA,EJ,AZ,AU,CB,BJ,GZ,BG,A7,CQ,DR,DN,BQ,BU,BM,CG,BP,AB,AAG,lMc,lMn,lAn,↓reduceIte,Nat.reduceEqDiff,Nat.zero_add,oGs,bNt,bNf,enP,KR,bne,bm,b6,f1,f3,DJ ag9,PD,ldE]
  ·exact ⟨by simp [AA8,bm,b5],trivial,trivial,trivial⟩
  all_goals
   refine (AA0 G e _).use ?_
   simp -implicitDefEqProofs only [AY,BB,BH,BN,CO,EG,AO,AQ,AL,BD,AX,AC,AA,AZ,AU,BJ,A7,CQ,DN,GV,AB,EX,↓reduceIte,Nat.reduceEqDiff,oGs,bNf,bne,bm,f1,f3]
   exact ⟨by simp [AA8,bm,b5],trivial,trivial,trivial⟩
 clear f1 f3 f26
 rintro F H ⟨f50,f3,f1,rfl⟩
 simp -implicitDefEqProofs only [BL,A8,AZ,f50]
 refine DC (fun hs => ?_) (fun hs => ?_)
 ·simp -implicitDefEqProofs only [BC,BA,BK,A8,CX,ED,CP,AY,BB,AO,AQ,AL,BD,AX,AC,AA,AU,BI,A7,↓reduceIte,oGs,bNf]
  exact ⟨by unfold JO; rw [if_neg (by simp [ho]),if_neg (by simp [hn]),if_pos hs],_,rfl⟩
 simp -implicitDefEqProofs only [BC,BA,AY,BH,BN,CO,AO,AQ,AL,BD,AX,AC,AA,AZ,AU,BI,BG,BQ,BU,BM,AB,DX,↓reduceIte,Nat.add_zero,oGs,bNf,enP,H6,f1,f3,DJ ag9,DJ ag3,JF,PD]
 have fin : ∀ b,U4 e=b→JO e=if b then 7 else 0:=by
  intro b hb
  unfold JO; rw [if_neg (by simp [ho]),if_neg (by simp [hn]),if_neg (by simp [hs]),hb]
 cases b2:(e.op == 2)
 ·simp -implicitDefEqProofs only [AY,BH,BN,CO,EG,G5,AO,AQ,AL,BD,AX,AC,AA,EJ,AZ,AU,BI,BJ,BG,CQ,DN,BQ,BU,BM,AB,DX,↓reduceIte,Nat.reduceEqDiff,Nat.add_zero,oGs,bNf,enP,H6,b2,f1,f3,DJ ag9,DJ ag3,JF,PD]
  cases b3:(e.op == 3) <;> cases b4:(e.op == 24)
  all_goals
   simp -implicitDefEqProofs only [BC,BA,BR,BK,BL,A8,EP,CP,D5,AY,BB,BH,BN,CO,FV,EG,G5,FP,AO,AQ,AL,BD,AX,AC,AA,EJ,AZ,AU,CB,BI,BJ,BG,A7,CQ,DR,DN,BQ,BU,BM,CG,BP,AB,DX,lMc,lMn,lAn,↓reduceIte,Nat.reduceEqDiff,Nat.add_zero,Nat.zero_add,oGs,bNf,enP,H6,KR,b3,b4,f1,f3,DJ ag9,DJ ag3,JF,PD]
  ·exact ⟨by rw [fin false (by simp [U4,b2,b3,b4])]; rfl,_,rfl⟩
  all_goals
   refine (L6 G hG.kw e.name _ (by omega)).use ?_
   cases bi:GK e.name
   ·simp -implicitDefEqProofs only [BC,BA,BK,BL,A8,CX,ED,CP,DU,AY,BB,BH,BN,CO,FV,EG,AO,AQ,AL,BD,AX,AC,AA,AZ,AU,BI,BJ,A7,CQ,DR,DN,GV,AB,EX,↓reduceIte,Nat.reduceEqDiff,oGs,bNf]
    exact ⟨by rw [fin true (by simp [U4,b2,b3,b4,bi])]; rfl,_,rfl⟩
   ·simp -implicitDefEqProofs only [BC,BA,BR,BK,BL,A8,EP,CP,D5,AY,BB,BH,BN,CO,FV,EG,AO,AQ,AL,BD,AX,AC,AA,AZ,AU,BI,BJ,A7,CQ,DR,DN,GV,AB,EX,↓reduceIte,Nat.reduceEqDiff,oGs,bNt,bNf]
    exact ⟨by rw [fin false (by simp [U4,b2,b3,b4,bi])]; rfl,_,rfl⟩
 ·have e2:e.op=2:=by simpa using b2
  simp -implicitDefEqProofs only [BH,BN,CO,FV,AO,AQ,AL,BD,AX,AC,AA,AZ,CB,BQ,BM,CG,BP,AB,lMc,lMn,lAn,↓reduceIte,Nat.reduceEqDiff,Nat.zero_add,oGs,bNf,enP,KR,b2,f1,f3,DJ ag9,DJ ag3,JF,PD]
  refine (AH1 G hG e.name _ hl).use ?_
  cases bi:P5 e.name
  ·simp -implicitDefEqProofs only [BC,BA,BK,BL,A8,CX,ED,CP,DU,AY,BB,BH,BN,CO,FV,FP,Q9,AO,AQ,AL,BD,AX,AC,AA,EJ,AZ,AU,BI,BJ,BG,A7,CQ,DR,GV,AB,EX,↓reduceIte,Nat.reduceEqDiff,oGs,bNf]
   exact ⟨by rw [fin true (by simp [U4,b2,bi])]; rfl,_,rfl⟩
  ·simp -implicitDefEqProofs only [BC,BA,BR,BK,BL,A8,EP,CP,D5,AY,BB,BH,BN,CO,FV,EG,G5,AO,AQ,AL,BD,AX,AC,AA,EJ,AZ,AU,BI,BJ,BG,A7,CQ,DR,DN,BQ,BU,GV,BM,AB,DX,EX,↓reduceIte,Nat.reduceEqDiff,Nat.add_zero,oGs,bNt,bNf,enP,H6,f1,DJ ag3,JF,e2,Int.reduceBEq]
   exact ⟨by rw [fin false (by simp [U4,e2,bi])]; rfl,_,rfl⟩
def AAI (e:Ex):Bool:=U5 e || decide (e.n < 0) || decide (e.n > 65535) || (!(e.n == 0) && !(e.op == 1)) || (!QT e.name && !KI e.op)
def AGN (op:Int) (n:Nat):Bool:=((op == 23) && (decide ((n:Int) < 3) || decide ((n:Int) > 33) || ((n:Int) % 2 == 0))) || (!(op == 23) && !((n:Int) == arity op))
theorem ASO (op:Int) (n:Nat):AGN op n = !WF op n:=by
 unfold AGN WF
 rcases hc:(op == 23) with _ | _
 ·simp
 ·have h1:decide ((n:Int) < 3) = !decide ((n:Int)≥3):=by rw [Bool.eq_iff_iff]; simp
  have h2:decide ((n:Int) > 33) = !decide ((n:Int)≤33):=by rw [Bool.eq_iff_iff]; simp
  have h3:((n:Int) % 2 == 0) = !((n:Int) % 2 == 1):=by rw [Bool.eq_iff_iff]; simp; omega
  rw [h1,h2,h3]
  cases ((n:Int) % 2 == 1) <;> cases decide ((n:Int)≥3) <;> cases decide ((n:Int)≤33) <;> rfl
theorem ASP (e:Ex):(AAI e || AGN e.op e.args.length)=(U5 e || ADZ e || AA8 e):=by
 rw [ASO]
 unfold AAI ADZ AA8
 rcases h1:(e.op == 1) with _ | _
 ·rcases h2:(e.n == 0) with _ | _
  ·simp
  ·have h3:decide (e.n < 0)=false:=by simp at h2 ⊢; omega
   have h4:decide (e.n > 65535)=false:=by simp at h2 ⊢; omega
   rw [h3,h4]
   cases U5 e <;> cases QT e.name <;> cases KI e.op <;> cases WF e.op e.args.length <;> rfl
 ·cases U5 e <;> cases QT e.name <;> cases KI e.op <;> cases WF e.op e.args.length <;> cases decide (e.n < 0) <;> cases decide (e.n > 65535) <;> cases (e.n == 0) <;> rfl
theorem WG (e:Ex):JO e=if AAI e then 1 else if AGN e.op e.args.length then 1 else if U4 e then 7 else 0:=by
 have:=ASP e
 unfold JO
 revert this
 cases AAI e <;> cases AGN e.op e.args.length <;> cases U5 e <;> cases ADZ e <;> cases AA8 e <;> simp
set_option maxHeartbeats 1000000 in
theorem AKM (G:Nat→AV) (e:Ex) (h:Hp) (hl:e.name.size≤1048576):PCall (En G) 225 [.agg (EH e)] h (.int .i64 (JO e)):=by
 refine ACalls.pure0 rfl ?_
 refine CE (H:=Hint.none) (enM G) Tryz.func225 rfl (by kernel_rfl) (by kernel_rfl) (nLb (by kernel_rfl)) ?_
 show awp _ _ _ _ _ (D9 _ [.tmp 2] _)
 simp -implicitDefEqProofs only [BC,BA,A8,AY,BB,BH,BN,CO,AO,AQ,AL,BD,AX,AC,AA,AZ,AU,BI,BG,A7,FX,BQ,BU,BM,BX,AB,DT,BF,↓reduceIte,Nat.reduceEqDiff,Nat.add_zero,oGs,bNf,enP,H6,bxE,DJ ag3,JF]
 refine SY (fun F H=>F 42 = .bool (AAI e)∧F 1 = .ptr h.length 0 0∧H=h ++ [.live 4 [EH e]]) ?_ ?_
 ·cases b1:decide (e.op < 1)
  case true =>
   simp -implicitDefEqProofs only [AY,BB,BH,BN,CO,FP,Q9,AO,AQ,AL,BD,AX,AC,AA,EJ,AZ,AU,BJ,BG,CQ,DR,↓reduceIte,Nat.reduceEqDiff,oGs,bNf,b1]
   exact ⟨by simp [AAI,U5,b1],trivial,trivial⟩
  simp -implicitDefEqProofs only [AY,BH,BN,CO,EG,AO,AQ,AL,BD,AX,AC,AA,AZ,AU,BI,BJ,BG,CQ,DN,BQ,BU,BM,AB,FU,↓reduceIte,Nat.reduceEqDiff,Nat.add_zero,oGs,bNf,enP,H6,b1,DJ ag3,JF,XW]
  cases b2:decide (e.op > 25)
  case true =>
   simp -implicitDefEqProofs only [AY,BB,BH,BN,CO,FP,Q9,AO,AQ,AL,BD,AX,AC,AA,EJ,AZ,AU,BJ,BG,CQ,DR,↓reduceIte,Nat.reduceEqDiff,oGs,bNf,b2]
   exact ⟨by simp [AAI,U5,b2],trivial,trivial⟩
  simp -implicitDefEqProofs only [AY,BH,BN,CO,EG,AO,AQ,AL,BD,AX,AC,AA,AZ,AU,BI,BJ,BG,CQ,DN,BQ,BU,BM,AB,DT,↓reduceIte,Nat.reduceEqDiff,Nat.zero_add,oGs,bNf,enP,ZY,b2,DJ ag3,JF,XW]
  have bO:U5 e=false:=by unfold U5; rw [b1,b2]; rfl
  cases b3:decide (e.n < 0)
  case true =>
   simp -implicitDefEqProofs only [AY,BB,BH,BN,CO,FP,Q9,AO,AQ,AL,BD,AX,AC,AA,EJ,AZ,AU,BJ,BG,CQ,DR,↓reduceIte,Nat.reduceEqDiff,oGs,bNf,b3]
   exact ⟨by simp only [AAI,b3]; simp,trivial,trivial⟩
  simp -implicitDefEqProofs only [AY,BH,BN,CO,EG,AO,AQ,AL,BD,AX,AC,AA,AZ,AU,BI,BJ,BG,CQ,DN,BQ,BU,BM,AB,FU,↓reduceIte,Nat.reduceEqDiff,Nat.zero_add,oGs,bNf,enP,ZY,b3,DJ ag3,JF,XW]
  cases b4:decide (e.n > 65535)
  case true =>
   simp -implicitDefEqProofs only [AY,BB,BH,BN,CO,FP,Q9,AO,AQ,AL,BD,AX,AC,AA,EJ,AZ,AU,BJ,BG,CQ,DR,↓reduceIte,Nat.reduceEqDiff,oGs,bNf,b4]
   exact ⟨by simp only [AAI,b4]; simp,trivial,trivial⟩
  simp -implicitDefEqProofs only [BH,BN,CO,EG,AO,AQ,AL,BD,AX,AC,AA,AZ,AU,BI,BG,BQ,BU,BM,AB,EQ,↓reduceIte,Nat.reduceEqDiff,Nat.zero_add,oGs,bNf,enP,ZY,b4,bne,DJ ag3,DJ ag9,JF,XW,PD]
  have fin : ∀ b,((!(e.n == 0) && !(e.op == 1)) || (!QT e.name && !KI e.op))=b→AAI e=b:=by
   intro b hb
   unfold AAI; rw [bO,b3,b4]; simpa using hb
  cases b5:(e.n == 0) <;> cases b6:(e.op == 1) <;> cases b7:QT e.name
  all_goals
   have b8:=b7
   unfold QT at b8
   simp -implicitDefEqProofs only [AY,BB,BH,BN,CO,FV,EG,G5,FP,Q9,AO,AQ,AL,BD,AX,AC,AA,EJ,AZ,AU,CB,BI,BJ,GZ,BG,CQ,DR,DN,BQ,BU,BM,CG,BP,AB,EQ,AAG,lMc,lMn,lAn,↓reduceIte,Nat.reduceEqDiff,Nat.add_zero,Nat.zero_add,oGs,bNt,bNf,enP,H6,KR,bne,b5,b6,b8,DJ ag3,DJ ag9,JF,XW,PD]
  all_goals first
   | exact ⟨by rw [fin _ rfl]; simp [b5,b6,b7],trivial,trivial⟩
   | refine (WH G e.op _).use ?_
     simp -implicitDefEqProofs only [AY,BB,BH,BN,CO,FV,EG,AO,AQ,AL,BD,AX,AC,AA,AZ,AU,BJ,CQ,DR,DN,GV,AB,EX,↓reduceIte,Nat.reduceEqDiff,oGs,bNf]
     exact ⟨by rw [fin _ rfl]; simp [b5,b6,b7],trivial,trivial⟩
 rintro F H ⟨f42,f1,rfl⟩
 simp -implicitDefEqProofs only [BL,A8,AZ,f42]
 refine DC (fun ho => ?_) (fun ho => ?_)
 ·simp -implicitDefEqProofs only [BC,BA,BK,A8,CX,CP,AY,BB,AO,AQ,AL,BD,AX,AC,AA,AU,BI,A7,↓reduceIte,oGs,bNf]
  exact ⟨by rw [WG,if_pos ho],_,rfl⟩
 simp -implicitDefEqProofs only [BC,BA,BR,A8,AY,BB,BH,BN,CO,AO,AQ,AL,BD,AX,AC,AA,AZ,AU,BI,BG,A7,BQ,BU,BM,D8,AB,DX,↓reduceIte,Nat.reduceEqDiff,Nat.add_zero,Nat.zero_add,oGs,bNf,enP,AC4,H6,O7,f1,DJ ag3,DJ AGW,JF,XV,lLm]
 generalize hn:e.args.length=n
 have hm:(n:Int).tmod 2=(n:Int) % 2:=Int.tmod_eq_emod_of_nonneg (by omega)
 have br:IZ Tryz.prog 3 .rem (.int .i64 (n:Int)) (.int .i64 2)=some (.int .i64 ((n:Int) % 2)):=by rw [AKF _ _ _ _ _ (by decide),hm]
 refine SY (fun F H=>F 73 = .bool (AGN e.op n)∧F 1 = .ptr h.length 0 0∧H=h ++ [.live 4 [EH e]]) ?_ ?_
 ·cases b1:(e.op == 23)
  ·simp -implicitDefEqProofs only [AY,BH,BN,CO,FV,EG,G5,Q9,AO,AQ,AL,BD,AX,AC,AA,EJ,AZ,AU,CB,BI,BJ,BG,CQ,DN,BQ,BU,BM,CG,BP,AB,EQ,lMc,lMn,lAn,↓reduceIte,Nat.reduceEqDiff,Nat.add_zero,oGs,bNf,enP,H6,bne,b1,f1,DJ ag3,JF]
   refine (AMA G e.op _).use ?_
   simp -implicitDefEqProofs only [AY,BB,BH,BN,CO,FV,EG,AO,AQ,AL,BD,AX,AC,AA,AZ,AU,BJ,CQ,DR,DN,BU,AB,EQ,↓reduceIte,Nat.reduceEqDiff,oGs,bNf,enP,bne]
   exact ⟨by unfold AGN; rw [b1]; simp,f1,trivial⟩
  ·cases b2:decide ((n:Int) < 3) <;> cases b3:decide ((n:Int) > 33) <;> cases b4:((n:Int) % 2 == 0)
   all_goals
    simp -implicitDefEqProofs only [AY,BB,BH,BN,CO,FV,EG,G5,FP,Q9,AO,AQ,AL,BD,AX,AC,AA,EJ,AZ,AU,BI,BJ,BG,CQ,DR,DN,BQ,BU,BM,AB,DX,EQ,DT,FU,↓reduceIte,Nat.reduceEqDiff,Nat.add_zero,oGs,bNt,bNf,enP,H6,bne,b1,b2,b3,b4,br,f1,DJ ag3,JF]
    exact ⟨by unfold AGN; rw [b1,b2,b3,b4]; simp,trivial,trivial⟩
 clear f1 f42
 rintro F H ⟨f73,f1,rfl⟩
 simp -implicitDefEqProofs only [BL,A8,AZ,f73]
 subst hn
 refine DC (fun hs => ?_) (fun hs => ?_)
 ·simp -implicitDefEqProofs only [BC,BA,BK,A8,CX,CP,AY,BB,AO,AQ,AL,BD,AX,AC,AA,AU,BI,A7,↓reduceIte,oGs,bNf]
  exact ⟨by rw [WG,if_neg (by simp [ho]),if_pos hs],_,rfl⟩
 simp -implicitDefEqProofs only [BC,BA,BR,A8,AY,BH,BN,CO,AO,AQ,AL,BD,AX,AC,AA,AZ,AU,BI,BG,BQ,BU,BM,AB,DX,↓reduceIte,Nat.add_zero,oGs,bNf,enP,H6,f1,DJ ag3,DJ ag9,JF,PD]
 have fin : ∀ b,U4 e=b→JO e=if b then 7 else 0:=by
  intro b hb
  rw [WG,if_neg (by simp [ho]),if_neg (by simp [hs]),hb]
 cases b2:(e.op == 2)
 ·simp -implicitDefEqProofs only [AY,BH,BN,CO,EG,G5,AO,AQ,AL,BD,AX,AC,AA,EJ,AZ,AU,CB,BJ,BG,CQ,DN,BQ,BM,CG,BP,AB,lMc,lMn,lAn,↓reduceIte,Nat.reduceEqDiff,Nat.add_zero,oGs,bNf,enP,H6,b2,f1,DJ ag9,DJ ag3,JF,PD]
  refine (WH G e.op _).use ?_
  cases bm:KI e.op
  ·have hv:U4 e=false:=by
    unfold KI at bm; simp only [Bool.or_eq_false_iff] at bm
    simp [U4,bm.1.1,bm.1.2,bm.2]
   simp -implicitDefEqProofs only [BC,BA,BR,BK,BL,A8,CP,D5,AY,BB,BH,BN,CO,EG,G5,AO,AQ,AL,BD,AX,AC,AA,EJ,AZ,AU,BI,BJ,BG,A7,CQ,DN,↓reduceIte,Nat.reduceEqDiff,oGs,bNf]
   exact ⟨by rw [fin false hv]; rfl,_,rfl⟩
  have hv:U4 e = !GK e.name:=by
   unfold KI at bm; rw [b2] at bm; simp only [Bool.false_or] at bm
   unfold U4; rw [b2,bm]; simp
  simp -implicitDefEqProofs only [BH,BN,CO,FV,EG,AO,AQ,AL,BD,AX,AC,AA,AZ,AU,CB,BI,BJ,BG,CQ,DR,BQ,BU,BM,CG,BP,AB,EQ,lMc,lMn,lAn,↓reduceIte,Nat.reduceEqDiff,Nat.add_zero,Nat.zero_add,oGs,bNf,enP,H6,KR,bne,b2,f1,DJ ag9,DJ ag3,JF,PD]
  refine (U0 G e.name _).use ?_
  cases bi:GK e.name
  ·simp -implicitDefEqProofs only [BC,BA,BK,BL,A8,CX,CP,DU,AY,BB,BH,BN,CO,FV,EG,AO,AQ,AL,BD,AX,AC,AA,AZ,AU,BI,BJ,A7,CQ,DR,DN,GV,AB,EX,↓reduceIte,Nat.reduceEqDiff,oGs,bNf]
   exact ⟨by rw [fin true (by rw [hv,bi]; rfl)]; rfl,_,rfl⟩
  ·simp -implicitDefEqProofs only [BC,BA,BR,BK,BL,A8,CP,D5,AY,BB,BH,BN,CO,FV,EG,AO,AQ,AL,BD,AX,AC,AA,AZ,AU,BI,BJ,A7,CQ,DR,DN,GV,AB,EX,↓reduceIte,Nat.reduceEqDiff,oGs,bNt,bNf]
   exact ⟨by rw [fin false (by rw [hv,bi]; rfl)]; rfl,_,rfl⟩
 ·have e2:e.op=2:=by simpa using b2
  have hv:U4 e = !P5 e.name:=by
   unfold U4; rw [e2]; simp
  simp -implicitDefEqProofs only [BH,BN,CO,FV,AO,AQ,AL,BD,AX,AC,AA,AZ,CB,BQ,BM,CG,BP,AB,lMc,lMn,lAn,↓reduceIte,Nat.reduceEqDiff,Nat.zero_add,oGs,bNf,enP,KR,b2,f1,DJ ag9,DJ ag3,JF,PD]
  refine (ALG G e.name _ hl).use ?_
  cases bi:P5 e.name
  ·simp -implicitDefEqProofs only [BC,BA,BK,BL,A8,CX,CP,DU,AY,BB,BH,BN,CO,FV,FP,Q9,AO,AQ,AL,BD,AX,AC,AA,EJ,AZ,AU,BI,BJ,BG,A7,CQ,DR,GV,AB,EX,↓reduceIte,Nat.reduceEqDiff,oGs,bNf]
   exact ⟨by rw [fin true (by rw [hv,bi]; rfl)]; rfl,_,rfl⟩
  ·simp -implicitDefEqProofs only [AY,BH,BN,CO,FV,EG,AO,AQ,AL,BD,AX,AC,AA,AZ,AU,CB,BJ,BG,CQ,DR,BQ,GV,BM,CG,BP,AB,EX,lMc,lMn,lAn,↓reduceIte,Nat.reduceEqDiff,Nat.add_zero,oGs,bNt,bNf,enP,H6,f1,DJ ag3,JF]
   refine (WH G e.op _).use ?_
   have bm:KI e.op=true:=by rw [e2]; rfl
   simp -implicitDefEqProofs only [BC,BA,BR,BK,BL,A8,CP,D5,AY,BB,BH,BN,CO,FV,EG,G5,AO,AQ,AL,BD,AX,AC,AA,EJ,AZ,AU,BI,BJ,BG,A7,CQ,DR,DN,BQ,BU,BM,AB,EQ,↓reduceIte,Nat.reduceEqDiff,Nat.add_zero,oGs,bNt,bNf,enP,H6,bne,bm,f1,DJ ag3,JF,b2]
   exact ⟨by rw [fin false (by rw [hv,bi]; rfl)]; rfl,_,rfl⟩
theorem ACJ:JU Tryz.prog 196=some false:=by kernel_rfl
theorem ATB:szO Tryz.prog 196=some 1:=by kernel_rfl
theorem ASW (h:Hp):I9 Tryz.prog h 53=some (.ptr h.length 0 0,h ++ [.live 4 [[.int .i64 0,.int .i64 0,.str ⟨#[]⟩,.sl .nil 0 []]]]):=IY (row := [.int .i64 0,.int .i64 0,.str ⟨#[]⟩,.sl .nil 0 []]) (by kernel_rfl)
theorem AQL (h:Hp) (e:Ex) (row:List AV) (hr:row.length=4):EY Tryz.prog (h ++ [.live 4 [row]]) 53 (.ptr h.length 0 0) (.agg (EH e))=some (h ++ [.live 4 [EH e]]):=by
 rw [KN (SS (AB7 e)) (by rw [I8]; exact VF) (by rw [I8,hr]; exact Nat.le_refl _)]
 have:splice row 0 (EH e)=EH e:=by unfold splice; simp [I8,hr]
 rw [this]
theorem AY9 (h:Hp):I9 Tryz.prog h 38=some (.ptr h.length 0 0,h ++ [.live 1 [[.int .i64 0]]]):=IY (row := [.int .i64 0]) (by kernel_rfl)
theorem al3 (h:Hp):I9 Tryz.prog h 3=some (.ptr h.length 0 0,h ++ [.live 1 [[.int .i64 0]]]):=IY (row := [.int .i64 0]) (by kernel_rfl)
theorem ATS (h:Hp):I9 Tryz.prog h 196=some (.ptr h.length 0 0,h ++ [.live 1 [[.nilfn]]]):=IY (row := [.nilfn]) (by kernel_rfl)
theorem IU {h:Hp} {t:TypeId} {b:Nat} {v:AV} (hag:JU Tryz.prog t=some false) (hb:h[b]? = some (.live 1 [[v]])):DL Tryz.prog h t (.ptr b 0 0)=some v:=by
 rw [DK hag hb (row := [v]) rfl]; rfl
theorem PM {h:Hp} {t:TypeId} {b:Nat} {v u:AV} (hs:szO Tryz.prog t=some 1) (hc:H7 u=some [u]) (hb:h[b]? = some (.live 1 [[v]])):EY Tryz.prog h t (.ptr b 0 0) u=some (h.set b (.live 1 [[u]])):=by
 rw [KA hc hs hb (row := [v]) rfl (by simp)]; rfl
theorem AY1 (h:Hp) (f:Fn) (a b:List AV):NU h (.fn f a b)=some (.ptr h.length 0 0,h ++ [.live 1 [[.fn f a b]]]):=rfl
def Chg (c:Nat) (h h':Hp):Prop:=h.length≤h'.length∧∀ b,b < h.length→b≠c→h'[b]? = h[b]?
theorem Chg.refl (c:Nat) (h:Hp):Chg c h h:=⟨Nat.le_refl _,fun _ _ _=>rfl⟩
theorem Chg.trans {c:Nat} {a b d:Hp} (h1:Chg c a b) (h2:Chg c b d):Chg c a d :=
 ⟨Nat.le_trans h1.1 h2.1,fun i hi hc=>by rw [h2.2 i (Nat.lt_of_lt_of_le hi h1.1) hc,h1.2 i hi hc]⟩
theorem Chg.app (c:Nat) (h x:Hp):Chg c h (h ++ x):=⟨by simp,fun i hi _=>List.getElem?_append_left hi⟩
theorem Chg.set (c:Nat) (h:Hp) (x:ABlk):Chg c h (h.set c x):=⟨by simp,fun i _ hc=>by rw [List.getElem?_set,if_neg (fun e=>hc e.symm)]⟩
theorem Chg.get {c b:Nat} {h h':Hp} {x:ABlk} (hc:Chg c h h') (hb:h[b]? = some x) (hne:b≠c):h'[b]? = some x:=by
 rw [hc.2 b (BZ hb) hne]; exact hb
theorem Chg.above {c:Nat} {h h':Hp} (hc:Chg c h h') (hl:h.length≤c) : ∃ x,h'=h ++ x:=by
 refine ⟨h'.drop h.length,?_⟩
 have:h'.take h.length=h:=by
  refine List.ext_getElem? fun i => ?_
  rcases Nat.lt_or_ge i h.length with hi | hi
  ·rw [List.getElem?_take_of_lt hi,hc.2 i hi (by omega)]
  ·rw [List.getElem?_eq_none (by rw [List.length_take]; omega),List.getElem?_eq_none hi]
 conv=>lhs; rw [← List.take_append_drop h.length h',this]
def run (upd:Ex→Int→Int) (cont:Int→Bool):List Ex→Int→Int × Bool
 | [],z=>(z,true)
 | e :: es,z=>if cont (upd e z) then run upd cont es (upd e z) else (upd e z,false)
theorem run_go {upd:Ex→Int→Int} {cont:Int→Bool} : ∀ {xs:List Ex} (ys:List Ex) {z z':Int},run upd cont xs z=(z',true)→run upd cont (xs ++ ys) z=run upd cont ys z'
 | [],ys,z,z',h=>by cases h; rfl
 | x :: xs,ys,z,z',h=>by
   simp only [run,List.cons_append] at h ⊢
   split at h
   ·rename_i hc; rw [if_pos hc]; exact run_go ys h
   ·cases h
theorem run_stop {upd:Ex→Int→Int} {cont:Int→Bool} : ∀ {xs:List Ex} (ys:List Ex) {z z':Int},run upd cont xs z=(z',false)→run upd cont (xs ++ ys) z=(z',false)
 | [],ys,z,z',h=>by cases h
 | x :: xs,ys,z,z',h=>by
   simp only [run,List.cons_append] at h ⊢
   split at h
   ·rename_i hc; rw [if_pos hc]; exact run_stop ys h
   ·rename_i hc; rw [if_neg hc]; exact h
theorem OM (xs:List Ex) (j:Nat) (hj:j < xs.length):JB (xs.take (j+1))=JB (xs.take j) ++ pre xs[j]:=by
 rw [List.take_succ_eq_append_getElem hj,PO]; simp [JB]
theorem ACZ {a:Ex} : ∀ {xs:List Ex},a∈xs→∀ x∈pre a,x∈JB xs
 | [],h,_,_=>by cases h
 | y :: ys,h,x,hx=>by
   simp only [JB,List.mem_append]
   cases List.mem_cons.1 h with
   | inl e=>subst e; exact .inl hx
   | inr e=>exact .inr (ACZ e x hx)
def AKI (G:Nat→AV) (k:FuncId) (upd:Ex→Int→Int) (cont:Int→Bool) (e:Ex):Prop :=
 ∀ (h:Hp) (c:Nat) (z:Int),h[c]? = some (.live 1 [[.int .i64 z]])→ACalls (En G) k [.agg (EH e),.ptr c 0 0] h fun v h'=>v = .bool (cont (upd e z))∧Chg c h h'∧h'[c]? = some (.live 1 [[.int .i64 (upd e z)]])
theorem ALY (G:Nat→AV) (k:FuncId) (upd:Ex→Int→Int) (cont:Int→Bool) (c vb db:Nat) (hv:vb≠c) (hd:db≠c) (e:Ex) :
  wt e≤1099511627776→(∀ x∈pre e,AKI G k upd cont x)→∀ (h:Hp) (z:Int),h[c]? = some (.live 1 [[.int .i64 z]])→h[vb]? = some (.live 1 [[.fn (.func k) [] [.ptr c 0 0]]]) →
   h[db]? = some (.live 1 [[.fn (.func 230) [] [.ptr vb 0 0,.ptr db 0 0]]]) →
   ACalls (En G) 230 [.agg (EH e),.ptr vb 0 0,.ptr db 0 0] h fun v h'=>v = .bool (run upd cont (pre e) z).2∧Chg c h h'∧h'[c]? = some (.live 1 [[.int .i64 (run upd cont (pre e) z).1]]):=by
 induction e using Ex.induct with | h e ih => ?_
 intro hw hvis h z hc hvb hdb
 have hcl:=BZ hc
 have hal:e.args.length≤1099511627776:=by have:=S9 e.args; have:=LY e; omega
 refine CE (H:=Hint.none) (enM G) Tryz.func230 rfl (by kernel_rfl) (by kernel_rfl) (nLb (by kernel_rfl)) ?_
 show awp _ _ _ _ _ (D9 _ [.tmp 4] _)
 simp -implicitDefEqProofs only [BC,BA,A8,AY,BB,AO,AQ,AL,BD,AX,AC,AA,AZ,AU,BJ,A7,FX,BQ,CG,BP,BX,AB,BF,BO,lMc,lMn,List.nil_append,List.cons_append,↓reduceIte,Nat.reduceEqDiff,oGs,bNf,enP,bxE,IU ACJ (CJ hvb),ldE]
 refine (hvis e (by rw [pre_eq]; simp) _ c z (CJ hc)).mono ?_
 rintro v h1 ⟨rfl,hch,hc1⟩
 have hch0:=(Chg.app c h _).trans hch
 have hb3:h1[h.length]? = some (.live 4 [EH e]):=hch.get (C9 _ _) (by omega)
 have hrun:run upd cont (pre e) z=if cont (upd e z) then run upd cont (JB e.args) (upd e z) else (upd e z,false):=by rw [pre_eq]; rfl
 simp -implicitDefEqProofs only [BL,A8,AY,BB,AO,AQ,AL,BD,AX,AC,AA,AZ,GV,AB,EX,↓reduceIte,oGs,bNf]
 cases hct:cont (upd e z)
 ·simp -implicitDefEqProofs only [BC,BA,BK,A8,CX,CP,DU,AY,BB,AO,AQ,AL,BD,AX,AC,AA,AU,BJ,A7,↓reduceIte,oGs,bNf]
  rw [hrun,hct]
  exact ⟨rfl,hch0,hc1⟩
 rw [hct,if_pos rfl] at hrun
 have hvb1:=hch0.get hvb hv
 have hdb1:=hch0.get hdb hd
 have l3:DL Tryz.prog h1 51 (.ptr h.length 0 3)=some (.sl e.m 4 (e.args.map EH)):=by rw [DK AGW hb3 (row:=EH e) rfl,XV]
 simp -implicitDefEqProofs only [BC,BV,BA,BR,A8,D5,AY,BB,AO,AQ,AL,BD,AX,AC,AA,AZ,AU,BI,BG,BQ,BM,D8,AB,↓reduceIte,Nat.reduceEqDiff,Nat.zero_add,oGs,bNt,bNf,enP,AC4,O7,l3,lLm]
 refine DY (fun n F H => ∃ j z',n+j=e.args.length∧F 1 = .ptr vb 0 0∧F 2 = .ptr db 0 0∧F 12 = .sl e.m 4 (e.args.map EH)∧F 13 = .int .i64 e.args.length∧F 14 = .int .i64 (j:Nat)∧Chg c h H∧H[c]? = some (.live 1 [[.int .i64 z']])∧run upd cont (JB (e.args.take j)) (upd e z)=(z',true)) e.args.length ⟨0,upd e z,by simp,by simp -implicitDefEqProofs only [AA,BF,BO,↓reduceIte,Nat.reduceEqDiff],by simp -implicitDefEqProofs only [AA,BF,BO,↓reduceIte,Nat.reduceEqDiff],by simp -implicitDefEqProofs only [AA,↓reduceIte,Nat.reduceEqDiff],by simp -implicitDefEqProofs only [AA,↓reduceIte,Nat.reduceEqDiff],by simp -implicitDefEqProofs only [AA,↓reduceIte]; rfl,hch0,hc1,rfl⟩ ?_
 rintro n F H ⟨j,z',hj,f1,f2,f12,f13,f14,hC,hcz,hr⟩
 simp -implicitDefEqProofs only [BC,BA,BL,A8,AY,BB,AO,AQ,AL,BD,AX,AC,AA,AZ,BU,AB,DT,↓reduceIte,oGs,bNf,enP,f13,f14]
 refine DC (fun hlt => ?_) (fun hlt => ?_)
 ·have hj':j < e.args.length:=by simpa using hlt
  have hdH:H[db]? = some (.live 1 [[.fn (.func 230) [] [.ptr vb 0 0,.ptr db 0 0]]]):=hC.get hdb hd
  have hvH:H[vb]? = some (.live 1 [[.fn (.func k) [] [.ptr c 0 0]]]):=hC.get hvb hv
  simp -implicitDefEqProofs only [BC,BV,BA,BR,A8,AY,BB,AO,AQ,AL,BD,AX,AC,EM,AA,AZ,EZ,BQ,D6,CV,CG,BP,BX,AB,DI,lMc,lMn,List.nil_append,List.cons_append,↓reduceIte,Nat.reduceEqDiff,oGs,bNf,enP,ALF,Option.getD_none,f12,f14,EF hj',FK AAM VF I8 hj',ASW,AQL _ _ [.int .i64 0,.int .i64 0,.str ⟨#[]⟩,.sl .nil 0 []] rfl,f2,IU ACJ (CJ hdH),ldE]
  have hmem:e.args[j]∈e.args:=List.getElem_mem hj'
  refine (ih e.args[j] hmem (by have:=QK hmem; have:=LY e; omega) (fun x hx=>hvis x (by rw [pre_eq]; exact List.mem_cons_of_mem _ (ACZ hmem x hx))) _ z' (CJ hcz) (CJ hvH) (CJ hdH)).mono ?_
  rintro v h2 ⟨rfl,hch2,hc2⟩
  have hC2:=hC.trans ((Chg.app c H _).trans hch2)
  have hsplit:JB e.args=JB (e.args.take j) ++ (pre e.args[j] ++ JB (e.args.drop (j+1))):=by
   rw [← List.append_assoc,← OM _ _ hj',← PO,List.take_append_drop]
  simp -implicitDefEqProofs only [BL,A8,AY,BB,AO,AQ,AL,BD,AX,AC,AA,AZ,GV,AB,EX,↓reduceIte,oGs,bNf]
  rcases hrr:run upd cont (pre e.args[j]) z' with ⟨z2,b2⟩
  rw [hrr] at hc2
  cases b2
  ·simp -implicitDefEqProofs only [BC,BA,BK,A8,CX,ED,FY,CP,DU,AY,BB,AO,AQ,AL,BD,AX,AC,AA,AU,BJ,A7,↓reduceIte,oGs,bNf]
   have:run upd cont (pre e) z=(z2,false):=by rw [hrun,hsplit,run_go _ hr]; exact run_stop _ hrr
   rw [this]
   exact ⟨rfl,hC2,hc2⟩
  ·simp -implicitDefEqProofs only [BA,BR,A8,EP,FC,D5,AY,BB,AO,AQ,AL,BD,AX,AC,AA,AZ,AU,BI,BG,BU,AB,DV,↓reduceIte,Nat.reduceEqDiff,oGs,bNt,bNf,enP,f1,f2,f12,f13,f14,wrap_succ (show j < 9223372036854775807 by omega)]
   refine ⟨n - 1,by omega,j+1,z2,by omega,trivial,trivial,trivial,trivial,rfl,hC2,hc2,?_⟩
   rw [OM _ _ hj',run_go _ hr]; exact hrr
 ·have hj' : ¬ j < e.args.length:=by simpa using hlt
  simp -implicitDefEqProofs only [BC,BA,BK,DW,A8,ER,FN,FM,CP,AY,BB,AO,AQ,AL,BD,AX,AC,AA,AU,BJ,A7,↓reduceIte,oGs,bNf]
  rw [List.take_of_length_le (by omega)] at hr
  rw [hrun,hr]
  exact ⟨rfl,hC,hcz⟩
theorem ABD (G:Nat→AV) (k:FuncId) (upd:Ex→Int→Int) (cont:Int→Bool) (c:Nat) (e:Ex) (hw:wt e≤1099511627776) (hvis : ∀ x∈pre e,AKI G k upd cont x) (h:Hp) (z:Int) (hc:h[c]? = some (.live 1 [[.int .i64 z]])) :
  ACalls (En G) 196 [.agg (EH e),.fn (.func k) [] [.ptr c 0 0]] h fun _ h'=>Chg c h h'∧h'[c]? = some (.live 1 [[.int .i64 (run upd cont (pre e) z).1]]):=by
 have hcl:=BZ hc
 refine CE (H:=Hint.none) (enM G) Tryz.func196 rfl (by kernel_rfl) (by kernel_rfl) (nLb (by kernel_rfl)) ?_
 show awp _ _ _ _ _ (D9 _ [] _)
 simp -implicitDefEqProofs only [BC,BA,A8,AY,BB,AO,AQ,AL,BD,AX,AC,AA,AZ,EZ,FX,D6,G8,BX,BF,BO,lMc,lMn,↓reduceIte,Nat.reduceEqDiff,oGs,bNf,enP,Option.getD_none,bxE,AY1,ATS]
 have g0:(h ++ [ABlk.live 4 [EH e]] ++ [ABlk.live 1 [[AV.fn (.func k) [] [.ptr c 0 0]]]] ++ [ABlk.live 1 [[AV.nilfn]]])[(h ++ [ABlk.live 4 [EH e]] ++ [ABlk.live 1 [[AV.fn (.func k) [] [.ptr c 0 0]]]]).length]? = some (.live 1 [[.nilfn]]):=C9 _ _
 simp -implicitDefEqProofs only [BA,A8,AY,BB,AO,AQ,AL,BD,AX,EM,AA,AZ,BQ,DI,↓reduceIte,Nat.reduceEqDiff,oGs,bNf,enP,PM ATB (ATW _ _ _) g0]
 generalize hdb:(h ++ [ABlk.live 4 [EH e]] ++ [ABlk.live 1 [[AV.fn (.func k) [] [.ptr c 0 0]]]]).length=db at g0 ⊢
 generalize hvb:(h ++ [ABlk.live 4 [EH e]]).length=vb
 have hvl:vb=h.length+1:=by rw [← hvb]; simp
 have hdl:db=h.length+2:=by rw [← hdb]; simp
 generalize hH:(h ++ [ABlk.live 4 [EH e]] ++ [ABlk.live 1 [[AV.fn (.func k) [] [.ptr c 0 0]]]] ++ [ABlk.live 1 [[AV.nilfn]]]).set db (.live 1 [[AV.fn (.func 230) [] [.ptr vb 0 0,.ptr db 0 0]]])=H
 have h1:H[db]? = some (.live 1 [[.fn (.func 230) [] [.ptr vb 0 0,.ptr db 0 0]]]):=by rw [← hH]; exact DZ g0
 have h2:H[vb]? = some (.live 1 [[.fn (.func k) [] [.ptr c 0 0]]]):=by
  rw [← hH]; refine CU ?_ (by omega)
  rw [← hvb]; exact CJ (C9 _ _)
 have h3:H[h.length]? = some (.live 4 [EH e]):=by
  rw [← hH]; refine CU ?_ (by omega)
  exact CJ (CJ (C9 _ _))
 have h4:H[c]? = some (.live 1 [[.int .i64 z]]):=by
  rw [← hH]; refine CU ?_ (by omega)
  exact CJ (CJ (CJ hc))
 have hC:Chg c h H:=by
  refine ⟨by rw [← hH]; simp,fun b hb hbc => ?_⟩
  obtain ⟨x,hx⟩ : ∃ x,h[b]? = some x:=⟨_,List.getElem?_eq_getElem hb⟩
  rw [← hH,hx]
  exact CU (CJ (CJ (CJ hx))) (by omega)
 simp -implicitDefEqProofs only [AY,AO,AQ,AL,BD,AX,AC,AA,AZ,BQ,CG,BP,AB,lMc,lMn,List.nil_append,List.cons_append,↓reduceIte,Nat.reduceEqDiff,oGs,bNf,enP,IU ACJ h1,ML h3]
 refine (ALY G k upd cont c vb db (by omega) (by omega) e hw hvis H z h4 h2 h1).mono ?_
 rintro v h' ⟨rfl,hch,hc1⟩
 simp -implicitDefEqProofs only [ADN,BB,AC]
 exact ⟨hC.trans hch,hc1⟩
theorem AHA (G:Nat→AV) (e:Ex):AKI G 233 (fun _ z=>IntKind.i64.wrap (z+1)) (fun _=>true) e:=by
 intro h c z hc
 have hcl:=BZ hc
 refine CE (H:=Hint.none) (enM G) Tryz.func233 rfl (by kernel_rfl) (by kernel_rfl) (nLb (by kernel_rfl)) ?_
 show awp _ _ _ _ _ (D9 _ [.tmp 3] _)
 simp -implicitDefEqProofs only [BC,BA,BK,A8,CP,AY,BB,AO,AQ,AL,BD,AX,AC,EM,AA,AZ,AU,BI,BJ,A7,FX,BQ,D6,BU,BX,AB,DI,DV,BF,BO,↓reduceIte,Nat.reduceEqDiff,oGs,bNf,enP,Option.getD_none,bxE,IU ag3 (CJ hc),PM sz3 (SQ _ _) (CJ hc)]
 exact ⟨trivial,(Chg.app c h _).trans (Chg.set c _ _),DZ (CJ hc)⟩
theorem AF0 (G:Nat→AV) (hG:GOk G) (e:Ex) (hl:e.name.size≤1048576):AKI G 197 (fun e _=>JO e) (fun z=>z == 0) e:=by
 intro h c z hc
 have hcl:=BZ hc
 refine CE (H:=Hint.none) (enM G) Tryz.func197 rfl (by kernel_rfl) (by kernel_rfl) (nLb (by kernel_rfl)) ?_
 show awp _ _ _ _ _ (D9 _ [.tmp 3] _)
 simp -implicitDefEqProofs only [BC,BA,A8,AY,BB,AO,AQ,AL,BD,AX,AC,AA,AZ,AU,CB,BJ,A7,FX,BQ,CG,BP,BX,AB,BF,lMc,lMn,lAn,↓reduceIte,Nat.reduceEqDiff,oGs,bNf,enP,bxE,ldE]
 refine (ALA G hG e _ hl).use ?_
 have hs:=DZ (y := .live 1 [[.int .i64 (JO e)]]) (CJ (x := .live 4 [EH e]) hc)
 simp -implicitDefEqProofs only [BC,BA,BK,A8,CP,AY,BB,AO,AQ,AL,BD,AX,AC,EM,AA,AZ,AU,BI,A7,BQ,D6,BU,AB,DI,DX,BF,BO,↓reduceIte,Nat.reduceEqDiff,oGs,bNf,enP,Option.getD_none,PM AT4 (SQ _ _) (CJ hc),IU APU hs]
 exact ⟨trivial,(Chg.app c h _).trans (Chg.set c _ _),hs⟩
theorem AEY : ∀ (xs:List Ex) (n:Nat),n+xs.length≤1099511627776→run (fun _ z=>IntKind.i64.wrap (z+1)) (fun _=>true) xs (n:Int)=(((n+xs.length:Nat):Int),true)
 | [],n,_=>rfl
 | x :: xs,n,h=>by
   simp only [List.length_cons] at h
   simp only [run,if_true]
   rw [wrap_succ (by omega),AEY xs (n+1) (by omega),List.length_cons]
   congr 1; omega
def errs (xs:List Ex):Int:=xs.foldl (fun z e=>if z=0 then JO e else z) 0
theorem ADM : ∀ (xs:List Ex) (z:Int),z≠0→xs.foldl (fun z e=>if z=0 then JO e else z) z=z
 | [],_,_=>rfl
 | x :: xs,z,h=>by rw [List.foldl_cons,if_neg h]; exact ADM xs z h
theorem AEZ : ∀ (xs:List Ex),(run (fun e _=>JO e) (fun z=>z == 0) xs 0).1=errs xs
 | []=>rfl
 | x :: xs=>by
   simp only [run,errs,List.foldl_cons,if_true]
   rcases hn:(JO x == 0) with _ | _
   ·have:JO x≠0:=by simpa using hn
    rw [ADM _ _ this]; rfl
   ·have:JO x=0:=by simpa using hn
    rw [this]; simp only [if_true]; exact AEZ xs
theorem AFD {x e:Ex} (hx:x∈pre e):x.name.size≤wt e:=by
 induction e using Ex.induct with | h e ih => ?_
 rw [pre_eq] at hx
 have hw:=LY e
 rcases List.mem_cons.1 hx with rfl | hx
 ·omega
 have : ∀ l:List Ex,(∀ a∈l,x∈pre a→x.name.size≤wt a)→x∈JB l→x.name.size≤wts l:=by
  intro l
  induction l with
  | nil=>intro _ h; simp [JB] at h
  | cons y l ih2 =>
    intro hh h
    simp only [JB,List.mem_append] at h
    simp only [wts]
    rcases h with h | h
    ·have:=hh y (by simp) h; omega
    ·have:=ih2 (fun a ha=>hh a (by simp [ha])) h; omega
 have:=this e.args (fun a ha=>ih a ha) hx
 omega
theorem AKV (G:Nat→AV) (e:Ex) (h:Hp) (hw:wt e≤1099511627776):PCall (En G) 200 [.agg (EH e)] h (.int .i64 (pre e).length):=by
 refine ACalls.pure0 rfl ?_
 refine CE (H:=Hint.none) (enM G) Tryz.func200 rfl (by kernel_rfl) (by kernel_rfl) (nLb (by kernel_rfl)) ?_
 show awp _ _ _ _ _ (D9 _ [.tmp 2] _)
 have hg:=C9 (h ++ [ABlk.live 4 [EH e]]) (.live 1 [[.int .i64 0]])
 have hs:(h ++ [ABlk.live 4 [EH e]] ++ [ABlk.live 1 [[.int .i64 0]]]).set (h ++ [ABlk.live 4 [EH e]]).length (.live 1 [[.int .i64 0]])=h ++ [ABlk.live 4 [EH e]] ++ [ABlk.live 1 [[.int .i64 0]]]:=ACU _ _ _
 simp -implicitDefEqProofs only [BC,BA,A8,AY,BB,AO,AQ,AL,BD,AX,AC,EM,AA,AZ,AU,CB,BI,A7,EZ,FX,BQ,D6,G8,CG,BP,BX,AB,DI,BF,lMc,lMn,lAn,↓reduceIte,Nat.reduceEqDiff,oGs,bNf,enP,Option.getD_none,bxE,al3,PM sz3 (SQ _ _) hg,hs,ML (CJ (C9 h _))]
 refine (ABD G 233 _ _ _ e hw (fun x _=>AHA G x) _ 0 hg).mono ?_
 rintro v h' ⟨hch,hc1⟩
 simp -implicitDefEqProofs only [BC,BA,BK,A8,CP,AY,BB,AO,AQ,AL,BD,AX,AC,AA,AZ,A7,BQ,AB,↓reduceIte,Nat.reduceEqDiff,oGs,bNf,enP,IU ag3 hc1]
 have:=AEY (pre e) 0 (by have:=ACY e; omega)
 simp only [Nat.zero_add] at this
 exact ⟨by rw [show (0:Int)=((0:Nat):Int) from rfl,this],(((Chg.app _ h _).trans (Chg.app _ _ _)).trans hch).above (by simp)⟩
theorem AIH (G:Nat→AV) (e:Ex):wt e≤1099511627776→∀ h:Hp,PCall (En G) 199 [.agg (EH e)] h (.int .i64 (dep e)):=by
 induction e using Ex.induct with | h e ih => ?_
 intro hw h
 have hal:e.args.length≤1099511627776:=by have:=S9 e.args; have:=LY e; omega
 refine ACalls.pure0 rfl ?_
 refine CE (H:=Hint.none) (enM G) Tryz.func199 rfl (by kernel_rfl) (by kernel_rfl) (nLb (by kernel_rfl)) ?_
 show awp _ _ _ _ _ (D9 _ [.tmp 2] _)
 simp -implicitDefEqProofs only [BC,BV,BA,A8,AY,BB,AO,AQ,AL,BD,AX,AC,AA,AZ,AU,BI,BG,A7,FX,BQ,BM,D8,BX,AB,BF,↓reduceIte,Nat.reduceEqDiff,Nat.zero_add,oGs,bNf,enP,AC4,O7,bxE,DJ AGW,XV,lLm]
 have hdw:dep e≤1099511627776:=Nat.le_trans (AO0 e) hw
 refine DY (fun n F H => ∃ j,n+j=e.args.length∧F 3 = .int .i64 (deps (e.args.take j):Nat)∧F 7 = .sl e.m 4 (e.args.map EH)∧F 8 = .int .i64 e.args.length∧F 9 = .int .i64 (j:Nat)∧∃ x,H=h ++ x) e.args.length ⟨0,by simp,by simp -implicitDefEqProofs only [AA,↓reduceIte,Nat.reduceEqDiff]; rfl,by simp -implicitDefEqProofs only [AA,↓reduceIte,Nat.reduceEqDiff],by simp -implicitDefEqProofs only [AA,↓reduceIte,Nat.reduceEqDiff],by simp -implicitDefEqProofs only [AA,↓reduceIte]; rfl,⟨_,rfl⟩⟩ ?_
 rintro n F H ⟨j,hj,f3,f7,f8,f9,x,rfl⟩
 simp -implicitDefEqProofs only [BC,BA,BL,A8,AY,BB,AO,AQ,AL,BD,AX,AC,AA,AZ,BU,AB,DT,↓reduceIte,oGs,bNf,enP,f8,f9]
 refine DC (fun hlt => ?_) (fun hlt => ?_)
 ·have hj':j < e.args.length:=by simpa using hlt
  have hmem:e.args[j]∈e.args:=List.getElem_mem hj'
  simp -implicitDefEqProofs only [BC,BV,BA,BR,A8,AY,BB,AO,AQ,AL,BD,AX,AC,EM,AA,AZ,CB,BG,EZ,BQ,D6,CV,CG,BP,BX,AB,DI,lMc,lMn,lAn,↓reduceIte,Nat.reduceEqDiff,oGs,bNf,enP,ALF,Option.getD_none,f3,f7,f9,EF hj',FK AAM VF I8 hj',ASW,AQL _ _ [.int .i64 0,.int .i64 0,.str ⟨#[]⟩,.sl .nil 0 []] rfl,ldE]
  refine (ih e.args[j] hmem (by have:=QK hmem; have:=LY e; omega) _).use ?_
  simp -implicitDefEqProofs only [BA,A8,EP,FC,AY,BB,AO,AQ,AL,BD,AX,AC,AA,AZ,AU,BI,BG,A7,BU,AS9,AB,DV,ANX,↓reduceIte,Nat.reduceEqDiff,oGs,bNf,enP,f7,f8,f9,wrap_succ (show j < 9223372036854775807 by omega)]
  refine ⟨n - 1,by omega,j+1,by omega,?_,trivial,trivial,rfl,_,by rw [List.append_assoc]⟩
  rw [ACA _ _ hj']
  congr 1
  omega
 ·have hj' : ¬ j < e.args.length:=by simpa using hlt
  rw [List.take_of_length_le (by omega)] at f3
  rw [ADS] at hdw ⊢
  simp -implicitDefEqProofs only [BC,BA,BK,DW,A8,ER,FN,FM,CP,AY,BB,AO,AQ,AL,BD,AX,AC,AA,AZ,AU,BI,BG,A7,BU,AB,DV,↓reduceIte,Nat.reduceEqDiff,oGs,bNf,enP,f3,wrap_succ (show deps e.args < 9223372036854775807 by omega)]
  exact ⟨trivial,x,rfl⟩
def exE (e:Ex):Int:=if errs (pre e)=0∧(24 < dep e∨400 < (pre e).length) then 2 else errs (pre e)
theorem VW (G:Nat→AV) (hG:GOk G) (e:Ex) (h:Hp) (hw:wt e≤1048576):PCall (En G) 151 [.agg (EH e)] h (.int .i64 (exE e)):=by
 refine ACalls.pure0 rfl ?_
 refine CE (H:=Hint.none) (enM G) Tryz.func151 rfl (by kernel_rfl) (by kernel_rfl) (nLb (by kernel_rfl)) ?_
 show awp _ _ _ _ _ (D9 _ [.tmp 2] _)
 have hg:=C9 (h ++ [ABlk.live 4 [EH e]]) (.live 1 [[.int .i64 0]])
 have hs:(h ++ [ABlk.live 4 [EH e]] ++ [ABlk.live 1 [[.int .i64 0]]]).set (h ++ [ABlk.live 4 [EH e]]).length (.live 1 [[.int .i64 0]])=h ++ [ABlk.live 4 [EH e]] ++ [ABlk.live 1 [[.int .i64 0]]]:=ACU _ _ _
 have hb:=CJ (x:=ABlk.live 1 [[.int .i64 0]]) (C9 h (.live 4 [EH e]))
 simp -implicitDefEqProofs only [BC,BA,A8,AY,BB,AO,AQ,AL,BD,AX,AC,EM,AA,AZ,AU,CB,BI,A7,EZ,FX,BQ,D6,G8,CG,BP,BX,AB,DI,BF,lMc,lMn,lAn,↓reduceIte,Nat.reduceEqDiff,oGs,bNf,enP,Option.getD_none,bxE,AY9,PM AT4 (SQ _ _) hg,hs,ML hb]
 refine (ABD G 197 _ _ _ e (by omega) (fun x hx=>AF0 G hG x (by have:=AFD hx; omega)) _ 0 hg).mono ?_
 rintro v h' ⟨hch,hc1⟩
 rw [AEZ] at hc1
 have hb':=hch.get hb (by simp)
 have hab:=(((Chg.app _ h _).trans (Chg.app _ _ _)).trans hch).above (show h.length≤(h ++ [ABlk.live 4 [EH e]]).length by simp)
 simp -implicitDefEqProofs only [BC,BA,A8,AY,BB,BH,BN,CO,AO,AQ,AL,BD,AX,AC,AA,AZ,AU,BI,BG,BQ,BU,AB,DX,↓reduceIte,Nat.reduceEqDiff,oGs,bNf,enP,IU APU hc1]
 rcases he:(errs (pre e) == 0) with _ | _
 ·simp -implicitDefEqProofs only [BC,BA,BR,BK,BL,A8,CP,D5,AY,BB,BH,BN,CO,G5,Q9,AO,AQ,AL,BD,AX,AC,AA,EJ,AZ,AU,BJ,A7,CQ,DN,BQ,AB,↓reduceIte,Nat.reduceEqDiff,oGs,bNf,enP,IU APU hc1]
  have:errs (pre e)≠0:=by simpa using he
  exact ⟨by unfold exE; rw [if_neg (fun hh=>this hh.1)],hab⟩
 have he0:errs (pre e)=0:=by simpa using he
 simp -implicitDefEqProofs only [BH,BN,CO,FV,AO,AQ,AL,BD,AX,AC,AA,AZ,CB,BQ,CG,BP,AB,lMc,lMn,lAn,↓reduceIte,Nat.reduceEqDiff,oGs,bNf,enP,ML hb']
 refine (AIH G e (by omega) _).use ?_
 simp -implicitDefEqProofs only [BH,BN,CO,FV,AO,AQ,AL,BD,AX,AC,AA,AZ,AU,BI,BG,BU,AB,FU,↓reduceIte,Nat.reduceEqDiff,oGs,bNf,enP]
 refine GU (fun hd => ?_) (fun hd => ?_)
 ·simp -implicitDefEqProofs only [BC,BA,BK,BL,A8,CX,CP,DU,AY,BB,BH,BN,CO,FV,FP,AO,AQ,AL,BD,AX,AC,AA,EJ,AZ,AU,BI,BJ,A7,CQ,DR,↓reduceIte,Nat.reduceEqDiff,oGs,bNf,hd]
  exact ⟨by unfold exE; rw [if_pos ⟨he0,.inl (by simp at hd; omega)⟩],hab⟩
 simp -implicitDefEqProofs only [BH,BN,CO,EG,AO,AQ,AL,BD,AX,AC,AA,AZ,CB,BQ,CG,BP,AB,lMc,lMn,lAn,↓reduceIte,Nat.reduceEqDiff,oGs,bNf,enP,hd,ML hb']
 refine (AKV G e _ (by omega)).use ?_
 simp -implicitDefEqProofs only [BL,A8,AY,BB,BH,BN,CO,FV,EG,AO,AQ,AL,BD,AX,AC,AA,AZ,AU,BI,BJ,CQ,DR,DN,BU,AB,FU,↓reduceIte,Nat.reduceEqDiff,oGs,bNf,enP]
 refine DC (fun hn => ?_) (fun hn => ?_)
 ·simp -implicitDefEqProofs only [BC,BA,BK,A8,CX,CP,AY,BB,AO,AQ,AL,BD,AX,AC,AA,AU,BI,A7,↓reduceIte,oGs,bNf]
  exact ⟨by unfold exE; rw [if_pos ⟨he0,.inr (by simp at hn; omega)⟩],hab⟩
 ·simp -implicitDefEqProofs only [BC,BA,BR,BK,A8,CP,AY,BB,AO,AQ,AL,BD,AX,AC,AA,AZ,A7,BQ,AB,↓reduceIte,Nat.reduceEqDiff,oGs,bNf,enP,IU APU hc1]
  exact ⟨by unfold exE; rw [if_neg (fun hh=>by simp at hn hd; omega)],hab⟩
theorem QF {E:Env} {H:Hint} {x y:Code} {F:Fr} {h:Hp} {Q:AEx→Fr→Hp→Prop} {b:Bool} (N R:Fr→Hp→Prop) (h1:b=true→awp E H x F h (ARN N R)) (h2:b=false→awp E H y F h (ARN N R)) (hn : ∀ F h,N F h→Q .normal F h) (hr : ∀ F h,R F h→Q .ret F h) :
 AAC E H x y F h Q (.bool b):=⟨fun e=>YN N R (h1 e) hn hr,fun e=>YN N R (h2 e) hn hr⟩
def isB (v:AV) (b:Nat):Prop:=match v with
 | .own b' _ _=>b'=b
 | _=>False
def sv (h:Hp) (m:Nat) (v:AV):Prop := ∃ vs:List ByteArray,vs.length≤m∧((vs = []∧∃ k,v = .sl .nil k [])∨∃ b,v = .own b 0 vs.length∧h[b]? = some (.live 1 (vs.map encStr)))
theorem ARZ (G:Nat→AV) (k:Nat) (v:ByteArray) (h:Hp):PCall (En G) 226 [.sl .nil k [],.str v] h (.bool false):=by
 refine CE (H:=Hint.none) (enM G) Tryz.func226 rfl (by kernel_rfl) (by kernel_rfl) (nLb (by kernel_rfl)) ?_
 show awp _ _ _ _ _ (D9 _ [.tmp 4] _)
 simp -implicitDefEqProofs only [BC,BV,BA,A8,AY,BB,AO,AQ,AL,BD,AX,AC,AU,BI,BJ,A7,oGs,bNf,enP]
 refine DY (fun n F H=>F 0 = .sl .nil k []∧F 5 = .int .i64 0∧H=h) 0 ⟨rfl,rfl,rfl⟩ ?_
 rintro n F H ⟨f0,f5,rfl⟩
 simp -implicitDefEqProofs only [BC,BA,BL,A8,AY,BB,AO,AQ,AL,BD,AX,AC,AA,AZ,BG,BU,D8,AB,DT,↓reduceIte,Nat.reduceEqDiff,oGs,bNf,enP,XM,f0,f5,List.length_nil]
 have:decide ((0:Int) < ((0:Nat):Int))=false:=by simp
 simp -implicitDefEqProofs only [BC,BA,BK,DW,A8,ER,FN,FM,CP,D5,AY,BB,AO,AQ,AL,BD,AX,AC,AA,AU,BJ,A7,↓reduceIte,oGs,bNf,this]
 exact ⟨trivial,trivial⟩
theorem NE {α:Type} {f:α→List AV} {xs:List α} {k:Nat} (hk:k < xs.length):(xs.map f)[k]? = some (f xs[k]):=by
 rw [List.getElem?_map,List.getElem?_eq_getElem hk]; rfl
theorem FH {h x:Hp} {y:ABlk} {b:Nat} (hb:h[b]? = some y):(h ++ x)[b]? = some y:=by
 rw [List.getElem?_append_left (BZ hb)]; exact hb
theorem ARY (G:Nat→AV) (xs:List ByteArray) (b:Nat) (v:ByteArray) (h:Hp) (hb:h[b]? = some (.live 1 (xs.map encStr))) (hl:xs.length≤1099511627776) :
  PCall (En G) 226 [.own b 0 xs.length,.str v] h (.bool (IQ xs v)):=by
 refine CE (H:=Hint.none) (enM G) Tryz.func226 rfl (by kernel_rfl) (by kernel_rfl) (nLb (by kernel_rfl)) ?_
 show awp _ _ _ _ _ (D9 _ [.tmp 4] _)
 simp -implicitDefEqProofs only [BC,BV,BA,A8,AY,BB,AO,AQ,AL,BD,AX,AC,AU,BI,BJ,A7,oGs,bNf,enP]
 refine DY (fun n F H => ∃ k,n+k=xs.length∧F 0 = .own b 0 xs.length∧F 1 = .str v∧F 5 = .int .i64 (k:Nat)∧H=h∧IQ xs v=IQ (xs.drop k) v) xs.length ⟨0,by simp,rfl,rfl,rfl,rfl,rfl⟩ ?_
 rintro n F H ⟨k,hk,f0,f1,f5,rfl,hin⟩
 simp -implicitDefEqProofs only [BC,BA,BL,A8,AY,BB,AO,AQ,AL,BD,AX,AC,AA,AZ,BG,BU,D8,AB,DT,↓reduceIte,Nat.reduceEqDiff,oGs,bNf,enP,XM,f0,f1,f5]
 refine DC (fun hc => ?_) (fun hc => ?_)
 ·have hc':k < xs.length:=by simpa using hc
  have hs:IQ (xs.drop k) v=((v.toList == xs[k].toList) || IQ (xs.drop (k+1)) v):=PG _ xs k hc'
  have l1:DL Tryz.prog H 9 (.ptr b k 0)=some (.str xs[k]):=by rw [DK ag9 hb (row:=encStr xs[k]) (NE hc')]; rfl
  simp -implicitDefEqProofs only [BC,BV,BA,BR,BL,A8,AY,BB,AO,AQ,AL,BD,AX,AC,AA,AZ,BG,BQ,BU,CV,AB,MP,↓reduceIte,Nat.reduceEqDiff,Nat.zero_add,oGs,bNf,enP,ABV,f0,f1,f5,LJ hb hc',l1]
  refine DC (fun hb => ?_) (fun hb => ?_)
  ·simp -implicitDefEqProofs only [BC,BA,BK,A8,CX,ED,FY,CP,AY,BB,AO,AQ,AL,BD,AX,AC,AA,AU,BJ,A7,↓reduceIte,oGs,bNf]
   refine ⟨?_,trivial⟩
   rw [hin,hs,show (v.toList == xs[k].toList)=true by rw [BEq.comm]; exact hb]; rfl
  ·simp -implicitDefEqProofs only [BA,BR,A8,EP,FC,AY,BB,AO,AQ,AL,BD,AX,AC,AA,AZ,AU,BI,BG,A7,BU,AB,DV,↓reduceIte,Nat.reduceEqDiff,oGs,bNf,enP,f5,wrap_succ (show k < 9223372036854775807 by omega)]
   refine ⟨n - 1,by omega,k+1,by omega,f0,f1,rfl,trivial,?_⟩
   rw [hin,hs,show (v.toList == xs[k].toList)=false by rw [BEq.comm]; exact hb]; rfl
 ·have hc' : ¬ k < xs.length:=by simpa using hc
  simp -implicitDefEqProofs only [BC,BA,BK,DW,A8,ER,FN,FM,CP,AY,BB,AO,AQ,AL,BD,AX,AC,AA,AU,BJ,A7,↓reduceIte,oGs,bNf]
  exact ⟨by rw [hin,List.drop_eq_nil_of_le (by omega)]; rfl,trivial⟩
theorem AOD (G:Nat→AV) {h:Hp} {m:Nat} {v:AV} (s:ByteArray) (hv:sv h m v) (hm:m≤8388608) : ∃ r,PCall (En G) 226 [v,.str s] h (.bool r):=by
 obtain ⟨vs,hl,⟨_,k,rfl⟩ | ⟨b,rfl,hb⟩⟩:=hv
 ·exact ⟨_,ARZ G k s h⟩
 ·exact ⟨_,ARY G vs b s h hb (by omega)⟩
theorem APE (h:Hp) (s:ByteArray):EN Tryz.prog false h 179 1 [(0,.str s)]=some (.sl .full 1 [[.str s]],h):=by kernel_rfl
theorem APN {h:Hp} {m:Nat} {v:AV} (s:ByteArray) (hv:sv h m v) (hm:m≤8388608) : ∃ v' h',GI Tryz.prog true h 179 179 v (.sl .full 1 [[.str s]])=some (v',h')∧sv h' (m+1) v'∧(∀ b,isB v' b→b=h.length) ∧
  h.length≤h'.length∧∀ b,b < h.length→¬ isB v b→h'[b]? = h[b]? := by
 obtain ⟨vs,hl,⟨rfl,k,rfl⟩ | ⟨b,rfl,hb⟩⟩:=hv
 ·refine ⟨_,_,TQ AMW sz9 AMK AO9 (JR h .full 1 [[.str s]]) (by simp) (IR (by simp) (by omega)),⟨[s],by simp,.inr ⟨h.length,rfl,C9 _ _⟩⟩,fun b hb=>hb.symm,by simp,fun b hb _=>List.getElem?_append_left hb⟩
 ·have hc:JH h (.own b 0 vs.length)=some (1,vs.map encStr):=by
   rw [OT hb (by simp),List.drop_zero,List.take_of_length_le (by simp)]
  refine ⟨_,_,TP AMW sz9 AMK AO9 hc (JR h .full 1 [[.str s]]) (by simp) (IR (by simp; omega) (by omega)),⟨vs ++ [s],by simp; omega,.inr ⟨h.length,by simp,by simp [encStr]⟩⟩,fun b hb=>hb.symm,by simp,fun o ho hn => ?_⟩
  rw [List.getElem?_append_left (by simpa using ho)]
  have hn' : ¬ b=o:=hn
  rw [List.getElem?_set,if_neg hn']
def wRow (n dd:Nat) (f:Int) (v1 v2:AV):List AV := [.int .i64 n,.int .i64 dd,.int .i64 f,v1,v2]
structure St (h:Hp) (c m1 m2 n dd:Nat) (f:Int) (v1 v2:AV):Prop where
 w:h[c]? = some (.live 5 [wRow n dd f v1 v2])
 s1:sv h m1 v1
 s2:sv h m2 v2
 ap : ∀ b,isB v1 b→¬ isB v2 b
theorem sv.b {h:Hp} {m:Nat} {v:AV} {b:Nat} (hs:sv h m v) (hb:isB v b) : ∃ vs:List ByteArray,h[b]? = some (.live 1 (vs.map encStr)):=by
 obtain ⟨vs,_,⟨_,k,rfl⟩ | ⟨b',rfl,h'⟩⟩:=hs
 ·exact hb.elim
 ·cases hb; exact ⟨vs,h'⟩
theorem sv.ne {h:Hp} {m b c:Nat} {v:AV} {row:List AV} (hs:sv h m v) (hc:h[c]? = some (.live 5 [row])) (hb:isB v b):b≠c:=by
 intro e; subst e
 obtain ⟨vs,h'⟩:=hs.b hb
 rw [h'] at hc; cases hc
theorem sv.keep {h h':Hp} {m m':Nat} {v:AV} (hs:sv h m v) (hm:m≤m') (hk : ∀ b,isB v b→h'[b]? = h[b]?):sv h' m' v:=by
 obtain ⟨vs,hl,⟨e,k,rfl⟩ | ⟨b,rfl,hb⟩⟩:=hs
 ·exact ⟨vs,by omega,.inl ⟨e,k,rfl⟩⟩
 ·exact ⟨vs,by omega,.inr ⟨b,rfl,by rw [hk b rfl]; exact hb⟩⟩
structure Ch (c:Nat) (v1 v2:AV) (h:Hp) (v1' v2':AV) (h':Hp):Prop where
 len:h.length≤h'.length
 get : ∀ b,b < h.length→b≠c→¬ isB v1 b→¬ isB v2 b→h'[b]? = h[b]?
 n1 : ∀ b,isB v1' b→isB v1 b∨h.length≤b
 n2 : ∀ b,isB v2' b→isB v2 b∨h.length≤b
theorem Ch.refl (c:Nat) (v1 v2:AV) (h:Hp):Ch c v1 v2 h v1 v2 h:=⟨Nat.le_refl _,fun _ _ _ _ _=>rfl,fun _ h => .inl h,fun _ h => .inl h⟩
theorem Ch.trans {c:Nat} {v1 v2 u1 u2 w1 w2:AV} {a b d:Hp} (h1:Ch c v1 v2 a u1 u2 b) (h2:Ch c u1 u2 b w1 w2 d):Ch c v1 v2 a w1 w2 d:=by
 refine ⟨Nat.le_trans h1.len h2.len,fun i hi hc hv hu => ?_,fun i hi => ?_,fun i hi => ?_⟩
 ·rw [h2.get i (Nat.lt_of_lt_of_le hi h1.len) hc (fun e=>(h1.n1 i e).elim hv (fun e=>by omega)) (fun e=>(h1.n2 i e).elim hu (fun e=>by omega)),h1.get i hi hc hv hu]
 ·rcases h2.n1 i hi with h | h
  ·exact h1.n1 i h
  ·exact .inr (Nat.le_trans h1.len h)
 ·rcases h2.n2 i hi with h | h
  ·exact h1.n2 i h
  ·exact .inr (Nat.le_trans h1.len h)
theorem Ch.app (c:Nat) (v1 v2:AV) (h x:Hp):Ch c v1 v2 h v1 v2 (h ++ x):=⟨by simp,fun _ hi _ _ _=>List.getElem?_append_left hi,fun _ h => .inl h,fun _ h => .inl h⟩
theorem Ch.set (c:Nat) (v1 v2:AV) (h:Hp) (x:ABlk):Ch c v1 v2 h v1 v2 (h.set c x):=⟨by simp,fun _ _ hc _ _=>by rw [List.getElem?_set,if_neg (fun e=>hc e.symm)],fun _ h => .inl h,fun _ h => .inl h⟩
theorem St.app {h:Hp} {c m1 m2 n dd:Nat} {f:Int} {v1 v2:AV} (s:St h c m1 m2 n dd f v1 v2) (x:Hp):St (h ++ x) c m1 m2 n dd f v1 v2:=by
 have keep : ∀ v m,sv h m v→sv (h ++ x) m v:=fun v m hv=>hv.keep (Nat.le_refl _) fun b hb=>by
  obtain ⟨vs,h'⟩:=hv.b hb
  exact List.getElem?_append_left (BZ h')
 exact ⟨FH s.w,keep _ _ s.s1,keep _ _ s.s2,s.ap⟩
theorem St.set {h:Hp} {c m1 m2 n dd:Nat} {f:Int} {v1 v2:AV} (s:St h c m1 m2 n dd f v1 v2) (n' dd':Nat) (f':Int):St (h.set c (.live 5 [wRow n' dd' f' v1 v2])) c m1 m2 n' dd' f' v1 v2:=by
 have keep : ∀ v m,sv h m v→sv (h.set c (.live 5 [wRow n' dd' f' v1 v2])) m v:=fun v m hv=>hv.keep (Nat.le_refl _) fun b hb=>by
  rw [List.getElem?_set,if_neg (fun e=>hv.ne s.w hb e.symm)]
 exact ⟨DZ s.w,keep _ _ s.s1,keep _ _ s.s2,s.ap⟩
section
variable {h:Hp} {c m1 m2 n dd:Nat} {f:Int} {v1 v2:AV} (s:St h c m1 m2 n dd f v1 v2)
include s
theorem St.l0:DL Tryz.prog h 3 (.ptr c 0 0)=some (.int .i64 n):=by rw [DK ag3 s.w (row:=wRow n dd f v1 v2) rfl]; rfl
theorem St.l1:DL Tryz.prog h 3 (.ptr c 0 1)=some (.int .i64 dd):=by rw [DK ag3 s.w (row:=wRow n dd f v1 v2) rfl]; rfl
theorem St.l2:DL Tryz.prog h 38 (.ptr c 0 2)=some (.int .i64 f):=by rw [DK APU s.w (row:=wRow n dd f v1 v2) rfl]; rfl
theorem St.l3:DL Tryz.prog h 179 (.ptr c 0 3)=some v1:=by rw [DK ACK s.w (row:=wRow n dd f v1 v2) rfl]; rfl
theorem St.l4:DL Tryz.prog h 179 (.ptr c 0 4)=some v2:=by rw [DK ACK s.w (row:=wRow n dd f v1 v2) rfl]; rfl
theorem St.t0 (x:Nat):EY Tryz.prog h 3 (.ptr c 0 0) (.int .i64 x)=some (h.set c (.live 5 [wRow x dd f v1 v2])):=by
 rw [KA (SQ _ _) sz3 s.w (row:=wRow n dd f v1 v2) rfl (by simp [wRow])]; rfl
theorem St.t1 (x:Nat):EY Tryz.prog h 3 (.ptr c 0 1) (.int .i64 x)=some (h.set c (.live 5 [wRow n x f v1 v2])):=by
 rw [KA (SQ _ _) sz3 s.w (row:=wRow n dd f v1 v2) rfl (by simp [wRow])]; rfl
theorem St.t2 (x:Int):EY Tryz.prog h 38 (.ptr c 0 2) (.int .i64 x)=some (h.set c (.live 5 [wRow n dd x v1 v2])):=by
 rw [KA (SQ _ _) AT4 s.w (row:=wRow n dd f v1 v2) rfl (by simp [wRow])]; rfl
end
theorem St.app3 {h:Hp} {c m1 m2 n dd:Nat} {f:Int} {v1 v2:AV} (s:St h c m1 m2 n dd f v1 v2) (x:ByteArray) (hm:m1≤8388608) :
  ∃ v' h',GI Tryz.prog true h 179 179 v1 (.sl .full 1 [[.str x]])=some (v',h')∧EY Tryz.prog h' 179 (.ptr c 0 3) v'=some (h'.set c (.live 5 [wRow n dd f v' v2])) ∧
    St (h'.set c (.live 5 [wRow n dd f v' v2])) c (m1+1) m2 n dd f v' v2∧Ch c v1 v2 h v' v2 (h'.set c (.live 5 [wRow n dd f v' v2])):=by
 obtain ⟨v',h',ha,hs,hb,hl,hk⟩:=APN x s.s1 hm
 have hc1 : ¬ isB v1 c:=fun e=>s.s1.ne s.w e rfl
 have hc2 : ¬ isB v2 c:=fun e=>s.s2.ne s.w e rfl
 have hcl:=BZ s.w
 have hw:h'[c]? = some (.live 5 [wRow n dd f v1 v2]):=by rw [hk c hcl hc1]; exact s.w
 have hvc : ∀ b,isB v' b→b≠c:=fun b hb' e=>by have:=hb b hb'; omega
 have hac:H7 v'=some [v']:=by
  obtain ⟨vs,_,⟨_,k,rfl⟩ | ⟨b,rfl,_⟩⟩:=hs <;> rfl
 refine ⟨v',h',ha,by rw [KA hac AM4 hw (row:=wRow n dd f v1 v2) rfl (by simp [wRow])]; rfl,⟨DZ hw,hs.keep (Nat.le_refl _) fun b hb' => ?_,s.s2.keep (Nat.le_refl _) fun b hb' => ?_,fun b h1 h2 => ?_⟩,⟨by simpa using hl,fun b hbl hne h1 h2 => ?_,fun b hb' => .inr (by rw [hb b hb']; exact Nat.le_refl _),fun b hb' => .inl hb'⟩⟩
 ·rw [List.getElem?_set,if_neg (fun e=>hvc b hb' e.symm)]
 ·obtain ⟨_,hx⟩:=s.s2.b hb'
  rw [List.getElem?_set,if_neg (fun e=>hc2 (by rw [e]; exact hb')),hk b (BZ hx) (fun e=>s.ap b e hb')]
 ·obtain ⟨_,hx⟩:=s.s2.b h2
  have:=hb b h1; have:=BZ hx; omega
 ·rw [List.getElem?_set,if_neg (fun e=>hne e.symm),hk b hbl h1]
theorem St.app4 {h:Hp} {c m1 m2 n dd:Nat} {f:Int} {v1 v2:AV} (s:St h c m1 m2 n dd f v1 v2) (x:ByteArray) (hm:m2≤8388608) :
  ∃ v' h',GI Tryz.prog true h 179 179 v2 (.sl .full 1 [[.str x]])=some (v',h')∧EY Tryz.prog h' 179 (.ptr c 0 4) v'=some (h'.set c (.live 5 [wRow n dd f v1 v'])) ∧
    St (h'.set c (.live 5 [wRow n dd f v1 v'])) c m1 (m2+1) n dd f v1 v'∧Ch c v1 v2 h v1 v' (h'.set c (.live 5 [wRow n dd f v1 v'])):=by
 obtain ⟨v',h',ha,hs,hb,hl,hk⟩:=APN x s.s2 hm
 have hc1 : ¬ isB v1 c:=fun e=>s.s1.ne s.w e rfl
 have hc2 : ¬ isB v2 c:=fun e=>s.s2.ne s.w e rfl
 have hcl:=BZ s.w
 have hw:h'[c]? = some (.live 5 [wRow n dd f v1 v2]):=by rw [hk c hcl hc2]; exact s.w
 have hvc : ∀ b,isB v' b→b≠c:=fun b hb' e=>by have:=hb b hb'; omega
 have hac:H7 v'=some [v']:=by
  obtain ⟨vs,_,⟨_,k,rfl⟩ | ⟨b,rfl,_⟩⟩:=hs <;> rfl
 refine ⟨v',h',ha,by rw [KA hac AM4 hw (row:=wRow n dd f v1 v2) rfl (by simp [wRow])]; rfl,⟨DZ hw,s.s1.keep (Nat.le_refl _) fun b hb' => ?_,hs.keep (Nat.le_refl _) fun b hb' => ?_,fun b h1 h2 => ?_⟩,⟨by simpa using hl,fun b hbl hne h1 h2 => ?_,fun b hb' => .inl hb',fun b hb' => .inr (by rw [hb b hb']; exact Nat.le_refl _)⟩⟩
 ·obtain ⟨_,hx⟩:=s.s1.b hb'
  rw [List.getElem?_set,if_neg (fun e=>hc1 (by rw [e]; exact hb')),hk b (BZ hx) (fun e=>s.ap b hb' e)]
 ·rw [List.getElem?_set,if_neg (fun e=>hvc b hb' e.symm)]
 ·obtain ⟨_,hx⟩:=s.s1.b h1
  have:=hb b h2; have:=BZ hx; omega
 ·rw [List.getElem?_set,if_neg (fun e=>hne e.symm),hk b hbl h2]
def TW (z:Int) (xs:List Ex):Int:=xs.foldl (fun z e=>if z=0 then JO e else z) z
theorem AF2 (z:Int) (xs ys:List Ex):TW z (xs ++ ys)=TW (TW z xs) ys:=List.foldl_append
theorem St.weak {h:Hp} {c m1 m2 m1' m2' n dd:Nat} {f:Int} {v1 v2:AV} (s:St h c m1 m2 n dd f v1 v2) (h1:m1≤m1') (h2:m2≤m2'):St h c m1' m2' n dd f v1 v2 :=
 ⟨s.w,s.s1.keep h1 fun _ _=>rfl,s.s2.keep h2 fun _ _=>rfl,s.ap⟩
def Md (e:Ex) (c d:Nat) (v1 v2:AV) (h:Hp) (m1 m2 n dd:Nat) (f:Int) (F:Nat→AV) (H:Hp):Prop :=
 F 0 = .ptr c 0 0∧F 2 = .int .i64 (d:Nat)∧F 4 = .ptr h.length 0 0∧∃ u1 u2,St H c m1 m2 n dd f u1 u2∧Ch c v1 v2 (h ++ [.live 4 [EH e]]) u1 u2 H
theorem AFC (xs:List Ex):(JB xs).length≤wts xs:=by
 induction xs with
 | nil=>simp [JB,wts]
 | cons x xs ih=>have:=ACY x; simp only [JB,wts,List.length_append]; omega
theorem AED : ∀ (xs:List Ex) (j:Nat) (hj:j < xs.length),wts (xs.take j)+wt xs[j]≤wts xs
 | x :: xs,0,_=>by simp [wts]
 | x :: xs,j+1,h=>by
   have:=AED xs j (by simpa using h)
   simp only [List.take_succ_cons,wts,List.getElem_cons_succ]; omega
theorem VY : ∀ (xs:List Ex) (j:Nat),deps (xs.take j)≤wts xs
 | [],j=>by simp [deps,wts]
 | x :: xs,0=>by simp [deps]
 | x :: xs,j+1=>by
   have h1:=VY xs j
   have h2:=AO0 x
   simp only [List.take_succ_cons,deps,wts]; omega
theorem AQS (G:Nat→AV) (c:Nat) (e:Ex):wt e≤1048576→∀ (h:Hp) (d n dd:Nat) (f:Int) (v1 v2:AV),d+wt e≤8388608→n+wt e≤8388608→dd≤16777216→St h c n n n dd f v1 v2 →
  ACalls (En G) 193 [.ptr c 0 0,.agg (EH e),.int .i64 (d:Nat)] h fun _ h' => ∃ u1 u2,St h' c (n+(pre e).length) (n+(pre e).length) (n+(pre e).length) (max dd (d+deps e.args)) (TW f (pre e)) u1 u2∧Ch c v1 v2 h u1 u2 h':=by
 induction e using Ex.induct with | h e ih => ?_
 intro hw h d n dd f v1 v2 hd hn hdd s
 have hal:e.args.length≤wts e.args:=S9 e.args
 have hwe:=LY e
 have hcl:=BZ s.w
 have hbox : ∀ (u1 u2:AV) (H:Hp),Ch c v1 v2 (h ++ [.live 4 [EH e]]) u1 u2 H→H[h.length]? = some (.live 4 [EH e]):=by
  intro u1 u2 H hC
  rw [hC.get h.length (by simp) (by omega) (fun hb => ?_) (fun hb => ?_)]
  ·exact C9 _ _
  ·obtain ⟨_,hx⟩:=s.s1.b hb
   have:=BZ hx; omega
  ·obtain ⟨_,hx⟩:=s.s2.b hb
   have:=BZ hx; omega
 have lb0 : ∀ H:Hp,H[h.length]? = some (.live 4 [EH e])→DL Tryz.prog H 3 (.ptr h.length 0 0)=some (.int .i64 e.op):=fun H hH=>by rw [DK ag3 hH (row:=EH e) rfl,JF]
 have lb2 : ∀ H:Hp,H[h.length]? = some (.live 4 [EH e])→DL Tryz.prog H 9 (.ptr h.length 0 2)=some (.str e.name):=fun H hH=>by rw [DK ag9 hH (row:=EH e) rfl,PD]
 have lb3 : ∀ H:Hp,H[h.length]? = some (.live 4 [EH e])→DL Tryz.prog H 51 (.ptr h.length 0 3)=some (.sl e.m 4 (e.args.map EH)):=fun H hH=>by rw [DK AGW hH (row:=EH e) rfl,XV]
 refine CE (H:=hint [56,85] []) (enM G) Tryz.func193 rfl (by kernel_rfl) (by kernel_rfl) (nLb (by kernel_rfl)) ?_
 show awp _ _ _ _ _ (D9 _ [] _)
 have s0:=s.app [.live 4 [EH e]]
 have c0:=Ch.app c v1 v2 h [.live 4 [EH e]]
 simp -implicitDefEqProofs only [CY,List.contains_cons,List.contains_nil,Nat.reduceBEq,Bool.or_false,BC,BA,A8,AY,BB,AL,BD,AX,AC,EM,AA,AZ,AU,BI,BG,FX,BQ,D6,BU,BM,BX,AB,DI,DV,BF,BO,↓reduceIte,Nat.reduceEqDiff,Nat.add_zero,Nat.zero_add,oGs,bNf,enP,AJ3,AJ2,CZ,Option.getD_none,GL,IM,bxE,s0.l0,wrap_succ (show n < 9223372036854775807 by omega),s0.t0]
 have s1:=s0.set (n+1) dd f
 have c1:=Ch.set c v1 v2 (h ++ [.live 4 [EH e]]) (.live 5 [wRow (n+1) dd f v1 v2])
 clear s0
 generalize (h ++ [ABlk.live 4 [EH e]]).set c (.live 5 [wRow (n+1) dd f v1 v2])=H1 at s1 c1 ⊢
 simp -implicitDefEqProofs only [CY,List.contains_cons,List.contains_nil,Nat.reduceBEq,Bool.or_false,BL,A8,AY,BB,AL,BD,AX,AC,AA,AZ,BU,AB,FU,↓reduceIte,Nat.reduceEqDiff,oGs,bNf,enP,CZ,s1.l1]
 refine QF (Md e c d v1 v2 h n n (n+1) (max dd d) f) (fun _ _=>False) (fun hb => ?_) (fun hb => ?_) ?_ (fun _ _ hh=>hh.elim)
 ·simp -implicitDefEqProofs only [CY,List.contains_cons,List.contains_nil,Nat.reduceBEq,Bool.or_false,BA,OC,AY,BB,AL,BD,AX,AC,EM,AA,AZ,BG,D6,BM,AB,DI,BF,BO,↓reduceIte,Nat.reduceEqDiff,Nat.zero_add,oGs,bNf,enP,AJ2,CZ,Option.getD_none,GL,IM,s1.t1]
  refine ⟨rfl,rfl,rfl,v1,v2,?_,c1.trans (Ch.set c _ _ _ _)⟩
  have:max dd d=d:=by simp at hb; omega
  rw [this]
  exact s1.set (n+1) d f
 ·simp -implicitDefEqProofs only [BR,OC]
  refine ⟨rfl,rfl,rfl,v1,v2,?_,c1⟩
  have:max dd d=dd:=by simp at hb; omega
  rw [this]
  exact s1
 clear s1 c1
 rintro F H ⟨f0,f2,f4,u1,u2,s,hC⟩
 simp -implicitDefEqProofs only [CY,List.contains_cons,List.contains_nil,Nat.reduceBEq,Bool.or_false,BC,BA,BL,A8,AY,BB,AL,BD,AX,AC,AA,AZ,AU,BI,BG,BQ,BU,BM,AB,DX,↓reduceIte,Nat.zero_add,oGs,bNf,enP,AJ1,CZ,GL,IM,f0,s.l2]
 refine QF (Md e c d v1 v2 h n n (n+1) (max dd d) (TW f [e])) (fun _ _=>False) (fun hb => ?_) (fun hb => ?_) ?_ (fun _ _ hh=>hh.elim)
 ·simp -implicitDefEqProofs only [CY,List.contains_cons,List.contains_nil,Nat.reduceBEq,Bool.or_false,BA,AY,AL,BD,AX,AC,AA,AZ,CB,BG,BQ,CG,BP,AB,lMc,lMn,lAn,↓reduceIte,Nat.reduceEqDiff,oGs,bNf,enP,CZ,f0,f2,f4,ML (hbox _ _ _ hC)]
  refine (AKM G e _ (by omega)).use ?_
  simp -implicitDefEqProofs only [CY,List.contains_cons,List.contains_nil,Nat.reduceBEq,Bool.or_false,OC,AY,BB,AL,BD,AX,AC,EM,AA,AZ,D6,BM,AB,DI,↓reduceIte,Nat.reduceEqDiff,Nat.zero_add,oGs,bNf,enP,AJ1,CZ,Option.getD_none,GL,IM,s.t2,f0,f2,f4]
  refine ⟨f0,f2,f4,u1,u2,?_,hC.trans (Ch.set c _ _ _ _)⟩
  have:TW f [e]=JO e:=by
   have:f=0:=by simpa using hb
   subst this; rfl
  rw [this]
  exact s.set _ _ _
 ·simp -implicitDefEqProofs only [BR,OC]
  refine ⟨f0,f2,f4,u1,u2,?_,hC⟩
  have:TW f [e]=f:=by
   have:f≠0:=by simpa using hb
   show (if f=0 then JO e else f)=f
   rw [if_neg this]
  rw [this]; exact s
 clear f0 f2 f4 s hC
 rintro F H ⟨f0,f2,f4,u1,u2,s,hC⟩
 simp -implicitDefEqProofs only [BC,A8]
 refine F7 (by kernel_rfl) ?_
 have hB:=hbox _ _ _ hC
 refine AP3 (fun F H=>(∃ b,F 47 = .bool b)∧Md e c d v1 v2 h n n (n+1) (max dd d) (TW f [e]) F H) ?_ ?_
 ·cases b2:(e.op == 2)
  ·simp -implicitDefEqProofs only [GR,CY,List.contains_cons,List.contains_nil,Nat.reduceBEq,Bool.or_false,EU,D7,FZ,EW,JD,KQ,AKJ,G7,NV,F9,LW,FB,CO,AA,EJ,AZ,AU,BI,BJ,CQ,DN,BQ,BU,BM,AB,DX,↓reduceIte,Nat.reduceEqDiff,Nat.reduceAdd,Nat.add_zero,oGs,enP,H6,f0,f2,f4,lb0 _ hB,b2]
   exact ⟨⟨_,rfl⟩,f0,f2,f4,u1,u2,s,hC⟩
  ·obtain ⟨r,hr⟩:=AOD G e.name s.s1 (by omega)
   simp -implicitDefEqProofs only [GR,CY,List.contains_cons,List.contains_nil,Nat.reduceBEq,Bool.or_false,EU,D7,EW,JD,KQ,AAT,G7,F9,LW,AKL,FB,IJ,IB,CO,AA,AZ,AU,CB,BI,BQ,BU,GV,BM,AB,DX,lMc,lMn,lAn,↓reduceIte,Nat.reduceEqDiff,Nat.reduceAdd,Nat.add_zero,Nat.zero_add,oGs,enP,H6,KR,AJ0,GL,MV,IM,f0,f2,f4,lb0 _ hB,lb2 _ hB,b2,s.l3]
   refine ⟨_,hr,?_⟩
   simp -implicitDefEqProofs only [GR,CY,List.contains_cons,List.contains_nil,Nat.reduceBEq,Bool.or_false,EU,D7,FZ,EW,NV,AA,AZ,AU,BJ,CQ,DR,AB,EX,↓reduceIte,Nat.reduceEqDiff,Nat.reduceAdd,oGs,f0,f2,f4]
   exact ⟨⟨_,rfl⟩,f0,f2,f4,u1,u2,s,hC⟩
 clear f0 f2 f4 s hC hB
 rintro F H ⟨⟨b,f47⟩,f0,f2,f4,u1,u2,s,hC⟩
 have hB:=hbox _ _ _ hC
 simp -implicitDefEqProofs only [BL,A8,AZ,f47]
 refine QF (Md e c d v1 v2 h (n+1) n (n+1) (max dd d) (TW f [e])) (fun _ _=>False) (fun hb => ?_) (fun hb => ?_) ?_ (fun _ _ hh=>hh.elim)
 ·obtain ⟨v',H',ha,ht,s',hC'⟩:=s.app3 e.name (by omega)
  refine F7 (by kernel_rfl) ?_
  simp -implicitDefEqProofs only [GR,FI,FQ,CY,List.contains_cons,List.contains_nil,Nat.reduceBEq,Bool.or_false,EU,D7,JW,FZ,EW,G7,JX,F9,JK,FB,LV,OC,AA,AZ,EE,BQ,D6,BM,H9,BX,AB,DI,↓reduceIte,Nat.reduceEqDiff,Nat.reduceAdd,Nat.zero_add,oGs,enP,KR,AJ0,Option.getD_none,GL,MV,IM,f0,f2,f4,lb2 _ hB,s.l3,APE,ha,ht]
  exact ⟨f0,f2,f4,_,_,s',hC.trans hC'⟩
 ·simp -implicitDefEqProofs only [BR,OC]
  exact ⟨f0,f2,f4,_,_,s.weak (by omega) (by omega),hC⟩
 clear f0 f2 f4 s hC hB
 rintro F H ⟨f0,f2,f4,u1,u2,s,hC⟩
 have hB:=hbox _ _ _ hC
 simp -implicitDefEqProofs only [BC,A8]
 refine F7 (by kernel_rfl) ?_
 refine AP3 (fun F H=>(∃ b,F 76 = .bool b)∧Md e c d v1 v2 h (n+1) n (n+1) (max dd d) (TW f [e]) F H) ?_ ?_
 ·obtain ⟨r,hr⟩:=AOD G e.name s.s2 (by omega)
  cases b2:(e.op == 3)
  ·cases b3:(e.op == 24)
   ·simp -implicitDefEqProofs only [GR,CY,List.contains_cons,List.contains_nil,Nat.reduceBEq,Bool.or_false,EU,D7,FZ,EW,JD,KQ,ATY,AKJ,G7,NV,F9,LW,FB,CO,AA,EJ,AZ,AU,BI,BJ,CQ,DN,BQ,BU,BM,AB,DX,↓reduceIte,Nat.reduceEqDiff,Nat.reduceAdd,Nat.add_zero,oGs,enP,H6,f0,f2,f4,lb0 _ hB,b2,b3]
    exact ⟨⟨_,rfl⟩,f0,f2,f4,u1,u2,s,hC⟩
   ·simp -implicitDefEqProofs only [GR,CY,List.contains_cons,List.contains_nil,Nat.reduceBEq,Bool.or_false,EU,D7,EW,JD,KQ,AAT,ATY,G7,NV,F9,LW,AKL,FB,IJ,IB,CO,AA,AZ,AU,CB,BI,BJ,CQ,DN,BQ,BU,GV,BM,AB,DX,lMc,lMn,lAn,↓reduceIte,Nat.reduceEqDiff,Nat.reduceAdd,Nat.add_zero,Nat.zero_add,oGs,enP,H6,KR,ADK,GL,MV,IM,f0,f2,f4,lb0 _ hB,lb2 _ hB,b2,b3,s.l4]
    refine ⟨_,hr,?_⟩
    simp -implicitDefEqProofs only [GR,CY,List.contains_cons,List.contains_nil,Nat.reduceBEq,Bool.or_false,EU,D7,FZ,EW,NV,AA,AZ,AU,BJ,CQ,DR,AB,EX,↓reduceIte,Nat.reduceEqDiff,Nat.reduceAdd,oGs,f0,f2,f4]
    exact ⟨⟨_,rfl⟩,f0,f2,f4,u1,u2,s,hC⟩
  ·simp -implicitDefEqProofs only [GR,CY,List.contains_cons,List.contains_nil,Nat.reduceBEq,Bool.or_false,EU,D7,EW,JD,KQ,AAT,AX7,G7,NV,F9,LW,AKL,FB,IJ,IB,CO,AA,EJ,AZ,AU,CB,BI,BJ,CQ,DR,BQ,BU,GV,BM,AB,DX,lMc,lMn,lAn,↓reduceIte,Nat.reduceEqDiff,Nat.reduceAdd,Nat.add_zero,Nat.zero_add,oGs,enP,H6,KR,ADK,GL,MV,IM,f0,f2,f4,lb0 _ hB,lb2 _ hB,b2,s.l4]
   refine ⟨_,hr,?_⟩
   simp -implicitDefEqProofs only [GR,CY,List.contains_cons,List.contains_nil,Nat.reduceBEq,Bool.or_false,EU,D7,FZ,EW,NV,AA,AZ,AU,BJ,CQ,DR,AB,EX,↓reduceIte,Nat.reduceEqDiff,Nat.reduceAdd,oGs,f0,f2,f4]
   exact ⟨⟨_,rfl⟩,f0,f2,f4,u1,u2,s,hC⟩
 clear f0 f2 f4 s hC hB f47
 rintro F H ⟨⟨b,f76⟩,f0,f2,f4,u1,u2,s,hC⟩
 have hB:=hbox _ _ _ hC
 simp -implicitDefEqProofs only [BL,A8,AZ,f76]
 refine QF (Md e c d v1 v2 h (n+1) (n+1) (n+1) (max dd d) (TW f [e])) (fun _ _=>False) (fun hb => ?_) (fun hb => ?_) ?_ (fun _ _ hh=>hh.elim)
 ·obtain ⟨v',H',ha,ht,s',hC'⟩:=s.app4 e.name (by omega)
  refine F7 (by kernel_rfl) ?_
  simp -implicitDefEqProofs only [GR,FI,FQ,CY,List.contains_cons,List.contains_nil,Nat.reduceBEq,Bool.or_false,Bool.or_true,EU,D7,JW,FZ,EW,G7,JX,F9,JK,FB,LV,OC,AA,AZ,EE,BQ,D6,BM,H9,BX,AB,DI,↓reduceIte,Nat.reduceEqDiff,Nat.reduceAdd,Nat.zero_add,oGs,enP,KR,ADK,Option.getD_none,GL,MV,IM,f0,f2,f4,lb2 _ hB,s.l4,APE,ha,ht]
  exact ⟨f0,f2,f4,_,_,s',hC.trans hC'⟩
 ·simp -implicitDefEqProofs only [BR,OC]
  exact ⟨f0,f2,f4,_,_,s.weak (by omega) (by omega),hC⟩
 clear f0 f2 f4 s hC hB f76
 rintro F H ⟨f0,f2,f4,u1,u2,s,hC⟩
 simp -implicitDefEqProofs only [CY,List.contains_cons,List.contains_nil,Nat.reduceBEq,Bool.or_false,BC,BV,BA,A8,AY,BB,AL,BD,AX,AC,AU,BI,A7,oGs,bNf,CZ]
 refine DY (fun k F H => ∃ j,k+j=e.args.length∧F 6 = .int .i64 (j:Nat)∧Md e c d v1 v2 h (n+1+(JB (e.args.take j)).length) (n+1+(JB (e.args.take j)).length) (n+1+(JB (e.args.take j)).length) (max dd (d+deps (e.args.take j))) (TW (TW f [e]) (JB (e.args.take j))) F H) e.args.length ⟨0,by simp,rfl,f0,f2,f4,u1,u2,s,hC⟩ ?_
 clear f0 f2 f4 s hC
 rintro k F H ⟨j,hj,f6,f0,f2,f4,u1,u2,s,hC⟩
 have hB:=hbox _ _ _ hC
 simp -implicitDefEqProofs only [CY,List.contains_cons,List.contains_nil,Nat.reduceBEq,Bool.or_false,BC,BA,BL,A8,AY,BB,AL,BD,AX,AC,AA,AZ,BG,BQ,BU,BM,D8,AB,DT,↓reduceIte,Nat.reduceEqDiff,Nat.zero_add,oGs,bNf,enP,AC4,O7,CZ,f6,f4,lb3 _ hB,lLm]
 refine DC (fun hlt => ?_) (fun hlt => ?_)
 ·have hj':j < e.args.length:=by simpa using hlt
  have hmem:e.args[j]∈e.args:=List.getElem_mem hj'
  have hwa:=QK hmem
  have hpl:(JB (e.args.take j)).length+(pre e.args[j]).length≤wts e.args:=by
   have h1:=AFC e.args
   have h2:JB e.args=JB (e.args.take j) ++ (pre e.args[j] ++ JB (e.args.drop (j+1))):=by
    rw [← List.append_assoc,← OM _ _ hj',← PO,List.take_append_drop]
   rw [h2] at h1; simp at h1; omega
  have hsp:(JB (e.args.take j)).length+wt e.args[j]≤wts e.args:=by
   have h1:=AFC (e.args.take j)
   have h2:=AED e.args j hj'
   omega
  have hdt:deps (e.args.take j)≤wts e.args:=VY e.args j
  simp -implicitDefEqProofs only [CY,List.contains_cons,List.contains_nil,Nat.reduceBEq,Bool.or_false,BC,BV,BA,BR,A8,AY,AL,BD,AX,AC,AA,AZ,AU,CB,BI,BG,BQ,BU,BM,CV,CG,BP,AB,DV,lMc,lMn,lAn,↓reduceIte,Nat.reduceEqDiff,Nat.zero_add,oGs,bNf,enP,ALF,O7,CZ,f0,f2,f4,f6,lb3 _ hB,EF hj',FK AAM VF I8 hj',wrap_succ (show d < 9223372036854775807 by omega)]
  refine (ih e.args[j] hmem (by omega) H (d+1) _ _ _ u1 u2 (by omega) (by omega) (by omega) s).mono ?_
  rintro v H' ⟨w1,w2,s',hC'⟩
  simp -implicitDefEqProofs only [CY,List.contains_cons,List.contains_nil,Nat.reduceBEq,Bool.or_false,BA,A8,EP,FC,AY,BB,AL,BD,AX,AC,AA,AZ,AU,BI,BG,A7,BU,AB,DV,↓reduceIte,Nat.reduceEqDiff,oGs,bNf,enP,CZ,f6,wrap_succ (show j < 9223372036854775807 by omega)]
  refine ⟨k - 1,by omega,j+1,by omega,rfl,f0,f2,f4,w1,w2,?_,hC.trans hC'⟩
  rw [OM _ _ hj',ACA _ _ hj',AF2,List.length_append]
  have e1:max (max dd (d+deps (e.args.take j))) (d+1+deps e.args[j].args)=max dd (d+max (deps (e.args.take j)) (dep e.args[j])):=by
   rw [ADS]; omega
  rw [e1,Nat.add_assoc (n+1)] at s'
  exact s'
 ·have hj' : ¬ j < e.args.length:=by simpa using hlt
  rw [List.take_of_length_le (by omega)] at s
  simp -implicitDefEqProofs only [DW,ER,FN,FM,ADN,↓reduceIte]
  refine ⟨u1,u2,?_,c0.trans hC⟩
  have e1:n+1+(JB e.args).length=n+(pre e).length:=by rw [pre_eq]; simp; omega
  have e2:TW (TW f [e]) (JB e.args)=TW f (pre e):=by rw [pre_eq,← AF2]; rfl
  rw [e1,e2] at s
  exact s
theorem AXR:JV Tryz.prog 181 []=some (.agg [.int .i64 0,.int .i64 0,.int .i64 0,.sl .nil 0 [],.sl .nil 0 []]):=by kernel_rfl
theorem AW8 (h:Hp):NU h (.agg [.int .i64 0,.int .i64 0,.int .i64 0,.sl .nil 0 [],.sl .nil 0 []])=some (.ptr h.length 0 0,h ++ [.live 5 [wRow 0 0 0 (.sl .nil 0 []) (.sl .nil 0 [])]]):=V3 rfl
theorem ANM (G:Nat→AV) (e:Ex) (hw:wt e≤1048576) (h:Hp) :
  ACalls (En G) 149 [.agg (EH e)] h fun v h' => ∃ c m u1 u2,v = .ptr c 0 0∧St h' c m m (pre e).length (dep e) (errs (pre e)) u1 u2∧∃ x,h'=h ++ x:=by
 refine CE (H:=Hint.none) (enM G) Tryz.func149 rfl (by kernel_rfl) (by kernel_rfl) (nLb (by kernel_rfl)) ?_
 show awp _ _ _ _ _ (D9 _ [.tmp 2] _)
 simp -implicitDefEqProofs only [FI,BC,BA,A8,AY,BB,AO,AQ,AL,BD,AX,AC,AA,AZ,AU,CB,BI,ASR,BG,A7,FX,JL,BQ,CG,BP,BX,AB,BF,lMc,lMn,lAn,↓reduceIte,Nat.reduceEqDiff,oGs,bNf,enP,bxE,AXR,AW8,ML (CJ (C9 h _))]
 have nb : ∀ b,¬ isB (.sl .nil 0 []) b:=fun b hb=>hb
 refine (AQS G _ e hw _ 1 0 0 0 (.sl .nil 0 []) (.sl .nil 0 []) (by omega) (by omega) (by omega) ⟨C9 _ _,⟨[],by simp,.inl ⟨rfl,_,rfl⟩⟩,⟨[],by simp,.inl ⟨rfl,_,rfl⟩⟩,fun b hb=>(nb b hb).elim⟩).mono ?_
 rintro v h' ⟨u1,u2,s,hC⟩
 simp -implicitDefEqProofs only [BC,BA,BK,A8,CP,AY,BB,AO,AQ,AL,BD,AX,AC,AA,AZ,BG,A7,↓reduceIte,Nat.reduceEqDiff,oGs,bNf]
 have e1:0+(pre e).length=(pre e).length:=Nat.zero_add _
 have e2:max 0 (1+deps e.args)=dep e:=by rw [ADS]; omega
 rw [e1,e2] at s
 refine ⟨_,_,u1,u2,rfl,s,?_⟩
 have hC2:=((Ch.app (h ++ [ABlk.live 4 [EH e]]).length (.sl .nil 0 []) (.sl .nil 0 []) h [.live 4 [EH e]]).trans (Ch.app _ _ _ _ [.live 5 [wRow 0 0 0 (.sl .nil 0 []) (.sl .nil 0 [])]])).trans hC
 refine Chg.above (c:=(h ++ [ABlk.live 4 [EH e]]).length) ⟨hC2.len,fun b hb hne=>hC2.get b hb hne (nb b) (nb b)⟩ (by simp)
structure Is where
 m:SM
 l:List Int
def encL (x:Is):List AV := [.sl x.m 1 (x.l.map encI)]
theorem XU (x:Is):(encL x)[0]? = some (.sl x.m 1 (x.l.map encI)):=rfl
theorem AF9 (x:Is):(encL x).length=1:=rfl
structure Pt where
 name:ByteArray
 ex:Ex
 bm:SM
 bins:List Bin
def FO (p:Pt):List AV := .str p.name :: (EH p.ex ++ [.sl p.bm 4 (p.bins.map F6)])
theorem ATK (p:Pt):(FO p)[0]? = some (.str p.name):=rfl
theorem PP (p:Pt):(FO p)[5]? = some (.sl p.bm 4 (p.bins.map F6)):=by unfold FO; rw [MO]; rfl
theorem II (p:Pt):(FO p).length=6:=by unfold FO; rw [MO]; rfl
theorem AB5 (p:Pt):(FO p).all AV.leaf=true:=by unfold FO; rw [MO]; rfl
theorem AJ8 (p:Pt):((FO p).drop 1).take 4=EH p.ex:=by unfold FO; rw [MO]; rfl
theorem bxP (h:Hp) (p:Pt):NU h (.agg (FO p))=some (.ptr h.length 0 0,h ++ [.live 6 [FO p]]):=by
 have:=V3 (h:=h) (AB5 p)
 rw [II] at this; exact this
theorem AN1 {h:Hp} {b:Nat} {p:Pt} (hb:h[b]? = some (.live 6 [FO p])):DL Tryz.prog h 53 (.ptr b 0 1)=some (.agg (EH p.ex)):=by
 rw [IK AAM VF hb rfl (by rw [II]; omega),AJ8]
structure Cr where
 name:ByteArray
 pm:SM
 pts:List Int
 xm:SM
 excl:List Is
def F5 (c:Cr):List AV := [.str c.name,.sl c.pm 1 (c.pts.map encI),.sl c.xm 1 (c.excl.map encL)]
theorem AOW (c:Cr):(F5 c)[0]? = some (.str c.name):=rfl
theorem AGB (c:Cr):(F5 c)[1]? = some (.sl c.pm 1 (c.pts.map encI)):=rfl
theorem AJ9 (c:Cr):(F5 c)[2]? = some (.sl c.xm 1 (c.excl.map encL)):=rfl
theorem J8 (c:Cr):(F5 c).length=3:=rfl
theorem bxC (h:Hp) (c:Cr):NU h (.agg (F5 c))=some (.ptr h.length 0 0,h ++ [.live 3 [F5 c]]):=rfl
structure Mo where
 pm:SM
 pts:List Pt
 cm:SM
 crs:List Cr
def EC (m:Mo):List AV := [.sl m.pm 6 (m.pts.map FO),.sl m.cm 3 (m.crs.map F5)]
theorem O8 (m:Mo):(EC m)[0]? = some (.sl m.pm 6 (m.pts.map FO)):=rfl
theorem VX (m:Mo):(EC m)[1]? = some (.sl m.cm 3 (m.crs.map F5)):=rfl
theorem AOV (m:Mo):(EC m).length=2:=rfl
theorem bxM (h:Hp) (m:Mo):NU h (.agg (EC m))=some (.ptr h.length 0 0,h ++ [.live 2 [EC m]]):=rfl
def AIE:List ByteArray→List ByteArray→Bool
 | _,[]=>false
 | seen,x :: xs=>IQ seen x || AIE (seen ++ [x]) xs
def Q8 (l:List ByteArray):Bool:=AIE [] l
theorem WS (N:List ByteArray) (i:Nat) (hi:i < N.length):AIE (N.take i) (N.drop i)=(IQ (N.take i) N[i] || AIE (N.take (i+1)) (N.drop (i+1))):=by
 rw [List.drop_eq_getElem_cons hi,List.take_succ_eq_append_getElem hi]; rfl
theorem KP {α:Type} {l:List α} {i:Nat} {hi:i < l.length} {x:α} (h:l[i]? = some x):l[i]=x:=by
 rw [List.getElem?_eq_getElem hi] at h; exact Option.some.inj h
theorem AJT (G:Nat→AV) (x:Bin) (h:Hp):PCall (En G) 154 [.agg (F6 x)] h (.str x.name):=by
 refine ACalls.pure0 rfl ?_
 refine CE (H:=Hint.none) (enM G) Tryz.func154 rfl (by kernel_rfl) (by kernel_rfl) (nLb (by kernel_rfl)) ?_
 show awp _ _ _ _ _ (D9 _ [.tmp 2] _)
 simp -implicitDefEqProofs only [BC,BA,BK,A8,CP,AY,BB,AO,AQ,AL,BD,AX,AC,AA,AZ,AU,GZ,A7,FX,BQ,BM,BX,AB,BF,↓reduceIte,Nat.reduceEqDiff,Nat.add_zero,oGs,bNf,enP,AJ5,bxB,DJ ag9,ATL]
 exact ⟨trivial,_,rfl⟩
theorem AK5 (G:Nat→AV) (xs:List Bin) (m:SM) (h:Hp) (hl:xs.length≤1099511627776) :
  PCall (En G) 153 [.sl m 4 (xs.map F6),.fn (.func 154) [] []] h (.bool (Q8 (xs.map (·.name)))):=by
 refine CE (H:=Hint.none) (enM G) Tryz.func153 rfl (by kernel_rfl) (by kernel_rfl) (nLb (by kernel_rfl)) ?_
 show awp _ _ _ _ _ (D9 _ [.tmp 4] _)
 simp -implicitDefEqProofs only [BC,BV,BA,A8,AY,BB,AO,AQ,AL,BD,AX,AC,AA,AZ,AU,BI,BJ,BG,A7,D8,AB,BF,↓reduceIte,Nat.reduceEqDiff,oGs,bNf,enP,ZI,lLm]
 generalize hN:xs.map (·.name)=N
 have hNl:N.length=xs.length:=by rw [← hN]; simp
 have hNi : ∀ i (hi:i < xs.length),N[i]? = some xs[i].name:=fun i hi=>by rw [← hN,List.getElem?_map,List.getElem?_eq_getElem hi]; rfl
 refine DY (fun n F H => ∃ i,n+i=xs.length∧F 0 = .sl m 4 (xs.map F6)∧F 1 = .fn (.func 154) [] []∧F 8 = .int .i64 xs.length∧F 9 = .int .i64 (i:Nat)∧H=h∧Q8 N=AIE (N.take i) (N.drop i)) xs.length ⟨0,by simp,by simp -implicitDefEqProofs only [AA,BF,↓reduceIte,Nat.reduceEqDiff],by simp -implicitDefEqProofs only [AA,BF,BO,↓reduceIte,Nat.reduceEqDiff],by simp -implicitDefEqProofs only [AA,↓reduceIte,Nat.reduceEqDiff],by simp -implicitDefEqProofs only [AA,↓reduceIte]; rfl,rfl,rfl⟩ ?_
 rintro n F H ⟨i,hi,f0,f1,f8,f9,rfl,hd⟩
 simp -implicitDefEqProofs only [BC,BA,BL,A8,AY,BB,AO,AQ,AL,BD,AX,AC,AA,AZ,BU,AB,DT,↓reduceIte,oGs,bNf,enP,f8,f9]
 refine DC (fun hc => ?_) (fun hc => ?_)
 ·have hi':i < xs.length:=by simpa using hc
  have hdrop:=WS N i (by omega)
  rw [KP (hNi i hi')] at hdrop
  simp -implicitDefEqProofs only [BC,BV,BA,BR,A8,AY,BB,AO,AQ,AL,BD,AX,AC,AA,AZ,AU,BI,BG,A7,↓reduceIte,Nat.reduceEqDiff,oGs,bNf,f9]
  refine JJ 2 (fun F' H'=>F' 0 = .sl m 4 (xs.map F6)∧F' 1 = .fn (.func 154) [] []∧F' 8 = .int .i64 xs.length∧F' 9 = .int .i64 (i:Nat)∧H'=H∧IQ (N.take i) xs[i].name=false) (fun F' H'=>F' 4 = .bool (Q8 N)∧H'=H) ?_ ?_ ?_
  ·refine DY (fun n F' H' => ∃ k,n+k=i∧F' 0 = .sl m 4 (xs.map F6)∧F' 1 = .fn (.func 154) [] []∧F' 8 = .int .i64 xs.length∧F' 9 = .int .i64 (i:Nat)∧F' 5 = .int .i64 (i:Nat)∧F' 12 = .int .i64 (i:Nat)∧F' 13 = .int .i64 (k:Nat)∧H'=H∧IQ (N.take i) xs[i].name=IQ ((N.take i).drop k) xs[i].name) i ⟨0,by simp,by simp -implicitDefEqProofs only [AA,↓reduceIte,Nat.reduceEqDiff,f0],by simp -implicitDefEqProofs only [AA,↓reduceIte,Nat.reduceEqDiff,f1],by simp -implicitDefEqProofs only [AA,↓reduceIte,Nat.reduceEqDiff,f8],by simp -implicitDefEqProofs only [AA,↓reduceIte,Nat.reduceEqDiff,f9],by simp -implicitDefEqProofs only [AA,↓reduceIte,Nat.reduceEqDiff],by simp -implicitDefEqProofs only [AA,↓reduceIte,Nat.reduceEqDiff],by simp -implicitDefEqProofs only [AA,↓reduceIte]; rfl,rfl,rfl⟩ ?_
   clear f0 f1 f8 f9
   rintro n' F H' ⟨k,hk,f0,f1,f8,f9,f5,f12,f13,rfl,hin⟩
   simp -implicitDefEqProofs only [BC,BA,BL,A8,AY,BB,AO,AQ,AL,BD,AX,AC,AA,AZ,BU,AB,DT,↓reduceIte,oGs,bNf,enP,f12,f13]
   refine DC (fun hc => ?_) (fun hc => ?_)
   ·have hk':k < i:=by simpa using hc
    have hk2:k < xs.length:=by omega
    have hs:=PG (fun u=>xs[i].name.toList == u.toList) (N.take i) k (by rw [List.length_take]; omega)
    have hx:(N.take i)[k]'(by rw [List.length_take]; omega)=xs[k].name:=by
     rw [List.getElem_take]; exact KP (hNi k hk2)
    rw [hx] at hs
    simp -implicitDefEqProofs only [BC,BV,BA,BR,A8,AY,BB,AO,AQ,AL,BD,AX,AC,AA,AZ,BG,A7,↓reduceIte,Nat.reduceEqDiff,oGs,bNf,f13]
    refine F7 (by kernel_rfl) ?_
    simp -implicitDefEqProofs only [GR,EU,D7,EW,G7,F9,LW,GG,IJ,IB,AO,AA,AZ,BQ,BU,CV,AB,lMc,lMn,lAn,↓reduceIte,Nat.reduceEqDiff,Nat.reduceAdd,oGs,enP,AH0,f0,f1,f5,EF hi',EF hk2,FK UI OW LD hi',FK UI OW LD hk2]
    refine ⟨_,AJT G xs[i] _,?_⟩
    refine ⟨_,AJT G xs[k] _,?_⟩
    try simp -implicitDefEqProofs only [D7,FZ,BL,A8,AA,AZ,AB,MP,↓reduceIte]
    refine DC (fun hb => ?_) (fun hb => ?_)
    ·simp -implicitDefEqProofs only [BC,BA,BK,A8,CX,ED,TU,FY,AY,BB,AO,AQ,AL,BD,AX,AC,AA,AU,BJ,A7,↓reduceIte,oGs,bNf]
     refine ⟨?_,trivial⟩
     have:IQ (N.take i) xs[i].name=true:=by
      rw [hin]; unfold IQ; rw [hs,hb]; rfl
     rw [hd,hdrop,this]; rfl
    ·simp -implicitDefEqProofs only [BA,BR,A8,EP,FC,AY,BB,AO,AQ,AL,BD,AX,AC,AA,AZ,AU,BI,BG,BU,AB,DV,↓reduceIte,Nat.reduceEqDiff,oGs,bNf,enP,f13,wrap_succ (show k < 9223372036854775807 by omega)]
     refine ⟨n' - 1,by omega,k+1,by omega,f0,f1,f8,f9,f5,f12,rfl,trivial,?_⟩
     rw [hin]; unfold IQ; rw [hs,hb]; rfl
   ·have hk' : ¬ k < i:=by simpa using hc
    simp -implicitDefEqProofs only [DW,ER,O1,FM,AA,↓reduceIte,Nat.reduceEqDiff]
    refine ⟨f0,f1,f8,f9,trivial,?_⟩
    rw [hin,List.drop_eq_nil_of_le (by rw [List.length_take]; omega)]; rfl
  ·rintro F' H' ⟨g0,g1,g8,g9,rfl,hn⟩
   simp -implicitDefEqProofs only [BA,A8,EP,FN,FC,AY,BB,AO,AQ,AL,BD,AX,AC,AA,AZ,AU,BI,BG,BU,AB,DV,↓reduceIte,Nat.reduceEqDiff,oGs,bNf,enP,g9,wrap_succ (show i < 9223372036854775807 by omega)]
   refine ⟨n - 1,by omega,i+1,by omega,g0,g1,g8,rfl,trivial,?_⟩
   rw [hd,hdrop,hn]; rfl
  ·rintro F' H' ⟨g4,rfl⟩
   simp -implicitDefEqProofs only [CX,ED,FY,CP,g4]
   exact ⟨trivial,trivial⟩
 ·have hi' : ¬ i < xs.length:=by simpa using hc
  simp -implicitDefEqProofs only [BC,BA,BK,DW,A8,ER,FN,FM,CP,AY,BB,AO,AQ,AL,BD,AX,AC,AA,AU,BJ,A7,↓reduceIte,oGs,bNf]
  exact ⟨by rw [hd,List.drop_eq_nil_of_le (by omega)]; rfl,trivial⟩
theorem AJR (G:Nat→AV) (x:Pt) (h:Hp):PCall (En G) 129 [.agg (FO x)] h (.str x.name):=by
 refine ACalls.pure0 rfl ?_
 refine CE (H:=Hint.none) (enM G) Tryz.func129 rfl (by kernel_rfl) (by kernel_rfl) (nLb (by kernel_rfl)) ?_
 show awp _ _ _ _ _ (D9 _ [.tmp 2] _)
 simp -implicitDefEqProofs only [BC,BA,BK,A8,CP,AY,BB,AO,AQ,AL,BD,AX,AC,AA,AZ,AU,GZ,A7,FX,BQ,BM,BX,AB,BF,↓reduceIte,Nat.reduceEqDiff,Nat.add_zero,oGs,bNf,enP,AOK,bxP,DJ ag9,ATK]
 exact ⟨trivial,_,rfl⟩
theorem AK3 (G:Nat→AV) (xs:List Pt) (m:SM) (h:Hp) (hl:xs.length≤1099511627776) :
  PCall (En G) 128 [.sl m 6 (xs.map FO),.fn (.func 129) [] []] h (.bool (Q8 (xs.map (·.name)))):=by
 refine CE (H:=Hint.none) (enM G) Tryz.func128 rfl (by kernel_rfl) (by kernel_rfl) (nLb (by kernel_rfl)) ?_
 show awp _ _ _ _ _ (D9 _ [.tmp 4] _)
 simp -implicitDefEqProofs only [BC,BV,BA,A8,AY,BB,AO,AQ,AL,BD,AX,AC,AA,AZ,AU,BI,BJ,BG,A7,D8,AB,BF,↓reduceIte,Nat.reduceEqDiff,oGs,bNf,enP,UY,lLm]
 generalize hN:xs.map (·.name)=N
 have hNl:N.length=xs.length:=by rw [← hN]; simp
 have hNi : ∀ i (hi:i < xs.length),N[i]? = some xs[i].name:=fun i hi=>by rw [← hN,List.getElem?_map,List.getElem?_eq_getElem hi]; rfl
 refine DY (fun n F H => ∃ i,n+i=xs.length∧F 0 = .sl m 6 (xs.map FO)∧F 1 = .fn (.func 129) [] []∧F 8 = .int .i64 xs.length∧F 9 = .int .i64 (i:Nat)∧H=h∧Q8 N=AIE (N.take i) (N.drop i)) xs.length ⟨0,by simp,by simp -implicitDefEqProofs only [AA,BF,↓reduceIte,Nat.reduceEqDiff],by simp -implicitDefEqProofs only [AA,BF,BO,↓reduceIte,Nat.reduceEqDiff],by simp -implicitDefEqProofs only [AA,↓reduceIte,Nat.reduceEqDiff],by simp -implicitDefEqProofs only [AA,↓reduceIte]; rfl,rfl,rfl⟩ ?_
 rintro n F H ⟨i,hi,f0,f1,f8,f9,rfl,hd⟩
 simp -implicitDefEqProofs only [BC,BA,BL,A8,AY,BB,AO,AQ,AL,BD,AX,AC,AA,AZ,BU,AB,DT,↓reduceIte,oGs,bNf,enP,f8,f9]
 refine DC (fun hc => ?_) (fun hc => ?_)
 ·have hi':i < xs.length:=by simpa using hc
  have hdrop:=WS N i (by omega)
  rw [KP (hNi i hi')] at hdrop
  simp -implicitDefEqProofs only [BC,BV,BA,BR,A8,AY,BB,AO,AQ,AL,BD,AX,AC,AA,AZ,AU,BI,BG,A7,↓reduceIte,Nat.reduceEqDiff,oGs,bNf,f9]
  refine JJ 2 (fun F' H'=>F' 0 = .sl m 6 (xs.map FO)∧F' 1 = .fn (.func 129) [] []∧F' 8 = .int .i64 xs.length∧F' 9 = .int .i64 (i:Nat)∧H'=H∧IQ (N.take i) xs[i].name=false) (fun F' H'=>F' 4 = .bool (Q8 N)∧H'=H) ?_ ?_ ?_
  ·refine DY (fun n F' H' => ∃ k,n+k=i∧F' 0 = .sl m 6 (xs.map FO)∧F' 1 = .fn (.func 129) [] []∧F' 8 = .int .i64 xs.length∧F' 9 = .int .i64 (i:Nat)∧F' 5 = .int .i64 (i:Nat)∧F' 12 = .int .i64 (i:Nat)∧F' 13 = .int .i64 (k:Nat)∧H'=H∧IQ (N.take i) xs[i].name=IQ ((N.take i).drop k) xs[i].name) i ⟨0,by simp,by simp -implicitDefEqProofs only [AA,↓reduceIte,Nat.reduceEqDiff,f0],by simp -implicitDefEqProofs only [AA,↓reduceIte,Nat.reduceEqDiff,f1],by simp -implicitDefEqProofs only [AA,↓reduceIte,Nat.reduceEqDiff,f8],by simp -implicitDefEqProofs only [AA,↓reduceIte,Nat.reduceEqDiff,f9],by simp -implicitDefEqProofs only [AA,↓reduceIte,Nat.reduceEqDiff],by simp -implicitDefEqProofs only [AA,↓reduceIte,Nat.reduceEqDiff],by simp -implicitDefEqProofs only [AA,↓reduceIte]; rfl,rfl,rfl⟩ ?_
   clear f0 f1 f8 f9
   rintro n' F H' ⟨k,hk,f0,f1,f8,f9,f5,f12,f13,rfl,hin⟩
   simp -implicitDefEqProofs only [BC,BA,BL,A8,AY,BB,AO,AQ,AL,BD,AX,AC,AA,AZ,BU,AB,DT,↓reduceIte,oGs,bNf,enP,f12,f13]
   refine DC (fun hc => ?_) (fun hc => ?_)
   ·have hk':k < i:=by simpa using hc
    have hk2:k < xs.length:=by omega
    have hs:=PG (fun u=>xs[i].name.toList == u.toList) (N.take i) k (by rw [List.length_take]; omega)
    have hx:(N.take i)[k]'(by rw [List.length_take]; omega)=xs[k].name:=by
     rw [List.getElem_take]; exact KP (hNi k hk2)
    rw [hx] at hs
    simp -implicitDefEqProofs only [BC,BV,BA,BR,A8,AY,BB,AO,AQ,AL,BD,AX,AC,AA,AZ,BG,A7,↓reduceIte,Nat.reduceEqDiff,oGs,bNf,f13]
    refine F7 (by kernel_rfl) ?_
    simp -implicitDefEqProofs only [GR,EU,D7,EW,G7,F9,LW,GG,IJ,IB,AO,AA,AZ,BQ,BU,CV,AB,lMc,lMn,lAn,↓reduceIte,Nat.reduceEqDiff,Nat.reduceAdd,oGs,enP,UZ,f0,f1,f5,EF hi',EF hk2,FK AA9 X8 II hi',FK AA9 X8 II hk2]
    refine ⟨_,AJR G xs[i] _,?_⟩
    refine ⟨_,AJR G xs[k] _,?_⟩
    try simp -implicitDefEqProofs only [D7,FZ,BL,A8,AA,AZ,AB,MP,↓reduceIte]
    refine DC (fun hb => ?_) (fun hb => ?_)
    ·simp -implicitDefEqProofs only [BC,BA,BK,A8,CX,ED,TU,FY,AY,BB,AO,AQ,AL,BD,AX,AC,AA,AU,BJ,A7,↓reduceIte,oGs,bNf]
     refine ⟨?_,trivial⟩
     have:IQ (N.take i) xs[i].name=true:=by
      rw [hin]; unfold IQ; rw [hs,hb]; rfl
     rw [hd,hdrop,this]; rfl
    ·simp -implicitDefEqProofs only [BA,BR,A8,EP,FC,AY,BB,AO,AQ,AL,BD,AX,AC,AA,AZ,AU,BI,BG,BU,AB,DV,↓reduceIte,Nat.reduceEqDiff,oGs,bNf,enP,f13,wrap_succ (show k < 9223372036854775807 by omega)]
     refine ⟨n' - 1,by omega,k+1,by omega,f0,f1,f8,f9,f5,f12,rfl,trivial,?_⟩
     rw [hin]; unfold IQ; rw [hs,hb]; rfl
   ·have hk' : ¬ k < i:=by simpa using hc
    simp -implicitDefEqProofs only [DW,ER,O1,FM,AA,↓reduceIte,Nat.reduceEqDiff]
    refine ⟨f0,f1,f8,f9,trivial,?_⟩
    rw [hin,List.drop_eq_nil_of_le (by rw [List.length_take]; omega)]; rfl
  ·rintro F' H' ⟨g0,g1,g8,g9,rfl,hn⟩
   simp -implicitDefEqProofs only [BA,A8,EP,FN,FC,AY,BB,AO,AQ,AL,BD,AX,AC,AA,AZ,AU,BI,BG,BU,AB,DV,↓reduceIte,Nat.reduceEqDiff,oGs,bNf,enP,g9,wrap_succ (show i < 9223372036854775807 by omega)]
   refine ⟨n - 1,by omega,i+1,by omega,g0,g1,g8,rfl,trivial,?_⟩
   rw [hd,hdrop,hn]; rfl
  ·rintro F' H' ⟨g4,rfl⟩
   simp -implicitDefEqProofs only [CX,ED,FY,CP,g4]
   exact ⟨trivial,trivial⟩
 ·have hi' : ¬ i < xs.length:=by simpa using hc
  simp -implicitDefEqProofs only [BC,BA,BK,DW,A8,ER,FN,FM,CP,AY,BB,AO,AQ,AL,BD,AX,AC,AA,AU,BJ,A7,↓reduceIte,oGs,bNf]
  exact ⟨by rw [hd,List.drop_eq_nil_of_le (by omega)]; rfl,trivial⟩
theorem AJS (G:Nat→AV) (x:Cr) (h:Hp):PCall (En G) 132 [.agg (F5 x)] h (.str x.name):=by
 refine ACalls.pure0 rfl ?_
 refine CE (H:=Hint.none) (enM G) Tryz.func132 rfl (by kernel_rfl) (by kernel_rfl) (nLb (by kernel_rfl)) ?_
 show awp _ _ _ _ _ (D9 _ [.tmp 2] _)
 simp -implicitDefEqProofs only [BC,BA,BK,A8,CP,AY,BB,AO,AQ,AL,BD,AX,AC,AA,AZ,AU,GZ,A7,FX,BQ,BM,BX,AB,BF,↓reduceIte,Nat.reduceEqDiff,Nat.add_zero,oGs,bNf,enP,AOJ,bxC,DJ ag9,AOW]
 exact ⟨trivial,_,rfl⟩
theorem AK4 (G:Nat→AV) (xs:List Cr) (m:SM) (h:Hp) (hl:xs.length≤1099511627776) :
  PCall (En G) 131 [.sl m 3 (xs.map F5),.fn (.func 132) [] []] h (.bool (Q8 (xs.map (·.name)))):=by
 refine CE (H:=Hint.none) (enM G) Tryz.func131 rfl (by kernel_rfl) (by kernel_rfl) (nLb (by kernel_rfl)) ?_
 show awp _ _ _ _ _ (D9 _ [.tmp 4] _)
 simp -implicitDefEqProofs only [BC,BV,BA,A8,AY,BB,AO,AQ,AL,BD,AX,AC,AA,AZ,AU,BI,BJ,BG,A7,D8,AB,BF,↓reduceIte,Nat.reduceEqDiff,oGs,bNf,enP,AA1,lLm]
 generalize hN:xs.map (·.name)=N
 have hNl:N.length=xs.length:=by rw [← hN]; simp
 have hNi : ∀ i (hi:i < xs.length),N[i]? = some xs[i].name:=fun i hi=>by rw [← hN,List.getElem?_map,List.getElem?_eq_getElem hi]; rfl
 refine DY (fun n F H => ∃ i,n+i=xs.length∧F 0 = .sl m 3 (xs.map F5)∧F 1 = .fn (.func 132) [] []∧F 8 = .int .i64 xs.length∧F 9 = .int .i64 (i:Nat)∧H=h∧Q8 N=AIE (N.take i) (N.drop i)) xs.length ⟨0,by simp,by simp -implicitDefEqProofs only [AA,BF,↓reduceIte,Nat.reduceEqDiff],by simp -implicitDefEqProofs only [AA,BF,BO,↓reduceIte,Nat.reduceEqDiff],by simp -implicitDefEqProofs only [AA,↓reduceIte,Nat.reduceEqDiff],by simp -implicitDefEqProofs only [AA,↓reduceIte]; rfl,rfl,rfl⟩ ?_
 rintro n F H ⟨i,hi,f0,f1,f8,f9,rfl,hd⟩
 simp -implicitDefEqProofs only [BC,BA,BL,A8,AY,BB,AO,AQ,AL,BD,AX,AC,AA,AZ,BU,AB,DT,↓reduceIte,oGs,bNf,enP,f8,f9]
 refine DC (fun hc => ?_) (fun hc => ?_)
 ·have hi':i < xs.length:=by simpa using hc
  have hdrop:=WS N i (by omega)
  rw [KP (hNi i hi')] at hdrop
  simp -implicitDefEqProofs only [BC,BV,BA,BR,A8,AY,BB,AO,AQ,AL,BD,AX,AC,AA,AZ,AU,BI,BG,A7,↓reduceIte,Nat.reduceEqDiff,oGs,bNf,f9]
  refine JJ 2 (fun F' H'=>F' 0 = .sl m 3 (xs.map F5)∧F' 1 = .fn (.func 132) [] []∧F' 8 = .int .i64 xs.length∧F' 9 = .int .i64 (i:Nat)∧H'=H∧IQ (N.take i) xs[i].name=false) (fun F' H'=>F' 4 = .bool (Q8 N)∧H'=H) ?_ ?_ ?_
  ·refine DY (fun n F' H' => ∃ k,n+k=i∧F' 0 = .sl m 3 (xs.map F5)∧F' 1 = .fn (.func 132) [] []∧F' 8 = .int .i64 xs.length∧F' 9 = .int .i64 (i:Nat)∧F' 5 = .int .i64 (i:Nat)∧F' 12 = .int .i64 (i:Nat)∧F' 13 = .int .i64 (k:Nat)∧H'=H∧IQ (N.take i) xs[i].name=IQ ((N.take i).drop k) xs[i].name) i ⟨0,by simp,by simp -implicitDefEqProofs only [AA,↓reduceIte,Nat.reduceEqDiff,f0],by simp -implicitDefEqProofs only [AA,↓reduceIte,Nat.reduceEqDiff,f1],by simp -implicitDefEqProofs only [AA,↓reduceIte,Nat.reduceEqDiff,f8],by simp -implicitDefEqProofs only [AA,↓reduceIte,Nat.reduceEqDiff,f9],by simp -implicitDefEqProofs only [AA,↓reduceIte,Nat.reduceEqDiff],by simp -implicitDefEqProofs only [AA,↓reduceIte,Nat.reduceEqDiff],by simp -implicitDefEqProofs only [AA,↓reduceIte]; rfl,rfl,rfl⟩ ?_
   clear f0 f1 f8 f9
   rintro n' F H' ⟨k,hk,f0,f1,f8,f9,f5,f12,f13,rfl,hin⟩
   simp -implicitDefEqProofs only [BC,BA,BL,A8,AY,BB,AO,AQ,AL,BD,AX,AC,AA,AZ,BU,AB,DT,↓reduceIte,oGs,bNf,enP,f12,f13]
   refine DC (fun hc => ?_) (fun hc => ?_)
   ·have hk':k < i:=by simpa using hc
    have hk2:k < xs.length:=by omega
    have hs:=PG (fun u=>xs[i].name.toList == u.toList) (N.take i) k (by rw [List.length_take]; omega)
    have hx:(N.take i)[k]'(by rw [List.length_take]; omega)=xs[k].name:=by
     rw [List.getElem_take]; exact KP (hNi k hk2)
    rw [hx] at hs
    simp -implicitDefEqProofs only [BC,BV,BA,BR,A8,AY,BB,AO,AQ,AL,BD,AX,AC,AA,AZ,BG,A7,↓reduceIte,Nat.reduceEqDiff,oGs,bNf,f13]
    refine F7 (by kernel_rfl) ?_
    simp -implicitDefEqProofs only [GR,EU,D7,EW,G7,F9,LW,GG,IJ,IB,AO,AA,AZ,BQ,BU,CV,AB,lMc,lMn,lAn,↓reduceIte,Nat.reduceEqDiff,Nat.reduceAdd,oGs,enP,AFO,f0,f1,f5,EF hi',EF hk2,FK AGV AAX J8 hi',FK AGV AAX J8 hk2]
    refine ⟨_,AJS G xs[i] _,?_⟩
    refine ⟨_,AJS G xs[k] _,?_⟩
    try simp -implicitDefEqProofs only [D7,FZ,BL,A8,AA,AZ,AB,MP,↓reduceIte]
    refine DC (fun hb => ?_) (fun hb => ?_)
    ·simp -implicitDefEqProofs only [BC,BA,BK,A8,CX,ED,TU,FY,AY,BB,AO,AQ,AL,BD,AX,AC,AA,AU,BJ,A7,↓reduceIte,oGs,bNf]
     refine ⟨?_,trivial⟩
     have:IQ (N.take i) xs[i].name=true:=by
      rw [hin]; unfold IQ; rw [hs,hb]; rfl
     rw [hd,hdrop,this]; rfl
    ·simp -implicitDefEqProofs only [BA,BR,A8,EP,FC,AY,BB,AO,AQ,AL,BD,AX,AC,AA,AZ,AU,BI,BG,BU,AB,DV,↓reduceIte,Nat.reduceEqDiff,oGs,bNf,enP,f13,wrap_succ (show k < 9223372036854775807 by omega)]
     refine ⟨n' - 1,by omega,k+1,by omega,f0,f1,f8,f9,f5,f12,rfl,trivial,?_⟩
     rw [hin]; unfold IQ; rw [hs,hb]; rfl
   ·have hk' : ¬ k < i:=by simpa using hc
    simp -implicitDefEqProofs only [DW,ER,O1,FM,AA,↓reduceIte,Nat.reduceEqDiff]
    refine ⟨f0,f1,f8,f9,trivial,?_⟩
    rw [hin,List.drop_eq_nil_of_le (by rw [List.length_take]; omega)]; rfl
  ·rintro F' H' ⟨g0,g1,g8,g9,rfl,hn⟩
   simp -implicitDefEqProofs only [BA,A8,EP,FN,FC,AY,BB,AO,AQ,AL,BD,AX,AC,AA,AZ,AU,BI,BG,BU,AB,DV,↓reduceIte,Nat.reduceEqDiff,oGs,bNf,enP,g9,wrap_succ (show i < 9223372036854775807 by omega)]
   refine ⟨n - 1,by omega,i+1,by omega,g0,g1,g8,rfl,trivial,?_⟩
   rw [hd,hdrop,hn]; rfl
  ·rintro F' H' ⟨g4,rfl⟩
   simp -implicitDefEqProofs only [CX,ED,FY,CP,g4]
   exact ⟨trivial,trivial⟩
 ·have hi' : ¬ i < xs.length:=by simpa using hc
  simp -implicitDefEqProofs only [BC,BA,BK,DW,A8,ER,FN,FM,CP,AY,BB,AO,AQ,AL,BD,AX,AC,AA,AU,BJ,A7,↓reduceIte,oGs,bNf]
  exact ⟨by rw [hd,List.drop_eq_nil_of_le (by omega)]; rfl,trivial⟩
def KD {α:Type} (f:α→Int):List α→Int
 | []=>0
 | x :: xs=>if f x=0 then KD f xs else f x
theorem TI {α:Type} (f:α→Int) (xs:List α) (k:Nat) (hk:k < xs.length):KD f (xs.drop k)=if f xs[k]=0 then KD f (xs.drop (k+1)) else f xs[k]:=by
 rw [List.drop_eq_getElem_cons hk]; rfl
def IL (p:Pt):Int :=
 if GK p.name=false then 7 else if exE p.ex≠0 then exE p.ex else if p.bins.length=0 then 1 else if 64 < p.bins.length then 2 else
  if KD IP p.bins≠0 then KD IP p.bins else if Q8 (p.bins.map (·.name)) then 8 else 0
structure PtOk (p:Pt):Prop where
 ex:wt p.ex≤1048576
 name:p.name.size≤1048576
 num:p.bins.length≤1048576
 bins : ∀ b∈p.bins,BinOk b
theorem ASV (h:Hp):I9 Tryz.prog h 121=some (.ptr h.length 0 0,h ++ [.live 4 [[.str ⟨#[]⟩,.int .i64 0,.sl .nil 0 [],.sl .nil 0 []]]]):=IY (row := [.str ⟨#[]⟩,.int .i64 0,.sl .nil 0 [],.sl .nil 0 []]) (by kernel_rfl)
theorem AVR (h:Hp) (b:Bin) (row:List AV) (hr:row.length=4):EY Tryz.prog (h ++ [.live 4 [row]]) 121 (.ptr h.length 0 0) (.agg (F6 b))=some (h ++ [.live 4 [F6 b]]):=by
 rw [KN (SS rfl) (by rw [LD]; exact OW) (by rw [LD,hr]; exact Nat.le_refl _)]
 have:splice row 0 (F6 b)=F6 b:=by unfold splice; simp [LD,hr]
 rw [this]
theorem ZA (G:Nat→AV) (hG:GOk G) (p:Pt) (hp:PtOk p) (h:Hp):PCall (En G) 97 [.agg (FO p)] h (.int .i64 (IL p)):=by
 refine ACalls.pure0 rfl ?_
 have hp1:=hp.ex
 have hp2:=hp.name
 have hp3:=hp.num
 refine CE (H:=Hint.none) (enM G) Tryz.func97 rfl (by kernel_rfl) (by kernel_rfl) (nLb (by kernel_rfl)) ?_
 show awp _ _ _ _ _ (D9 _ [.tmp 2] _)
 simp -implicitDefEqProofs only [BC,BA,A8,AY,BB,AO,AQ,AL,BD,AX,AC,AA,AZ,AU,CB,BI,A7,FX,BQ,BM,CG,BP,BX,AB,BF,lMc,lMn,lAn,↓reduceIte,Nat.reduceEqDiff,Nat.add_zero,oGs,bNf,enP,AOK,bxP,DJ ag9,ATK]
 refine (L6 G hG.kw p.name _ (by omega)).use ?_
 simp -implicitDefEqProofs only [BL,A8,AY,BB,AO,AQ,AL,BD,AX,AC,AA,AZ,GV,AB,EX,↓reduceIte,oGs,bNf]
 cases h1:GK p.name
 ·simp -implicitDefEqProofs only [BC,BA,BK,A8,CX,CP,DU,AY,BB,AO,AQ,AL,BD,AX,AC,AA,AU,BI,A7,↓reduceIte,oGs,bNf]
  exact ⟨by unfold IL; rw [if_pos h1],_,rfl⟩
 have h1' : ¬ GK p.name=false:=by rw [h1]; decide
 simp -implicitDefEqProofs only [BC,BA,BR,A8,D5,AY,AO,AQ,AL,BD,AX,AC,AA,AZ,CB,BQ,BM,CG,BP,AB,lMc,lMn,lAn,↓reduceIte,Nat.reduceEqDiff,Nat.zero_add,oGs,bNt,bNf,enP,ADF,AN1 (C9 h _)]
 refine (VW G hG p.ex _ hp1).use ?_
 simp -implicitDefEqProofs only [BC,BA,BL,A8,AY,BB,AO,AQ,AL,BD,AX,AC,AA,AZ,AU,BI,BG,A7,BU,AB,EQ,↓reduceIte,oGs,bNf,enP]
 refine DC (fun h2 => ?_) (fun h2 => ?_)
 ·simp -implicitDefEqProofs only [BC,BA,BK,A8,CX,CP,AY,BB,AO,AQ,AL,BD,AX,AC,AA,AZ,BG,A7,↓reduceIte,Nat.reduceEqDiff,oGs,bNf]
  exact ⟨by unfold IL; rw [if_neg h1',if_pos (by simpa using h2)],_,rfl⟩
 have h2' : ¬ exE p.ex≠0:=by simpa using h2
 simp -implicitDefEqProofs only [BC,BV,BA,BR,BL,A8,AY,BB,AO,AQ,AL,BD,AX,AC,AA,AZ,AU,BI,A7,BQ,BU,BM,D8,AB,DX,↓reduceIte,Nat.reduceEqDiff,Nat.zero_add,oGs,bNf,enP,ZI,LM,DJ V5,PP,lLm]
 refine DC (fun h3 => ?_) (fun h3 => ?_)
 ·simp -implicitDefEqProofs only [BC,BA,BK,A8,CX,ED,CP,AY,BB,AO,AQ,AL,BD,AX,AC,AA,AU,BI,A7,↓reduceIte,oGs,bNf]
  exact ⟨by unfold IL; rw [if_neg h1',if_neg h2',if_pos (by simp at h3; simpa using h3)],_,rfl⟩
 have h3' : ¬ p.bins.length=0:=by simp at h3; simpa using h3
 simp -implicitDefEqProofs only [BC,BA,BL,A8,AY,BB,AO,AQ,AL,BD,AX,AC,AA,AZ,AU,BI,A7,BQ,BU,BM,D8,AB,FU,↓reduceIte,Nat.reduceEqDiff,Nat.zero_add,oGs,bNf,enP,ZI,LM,DJ V5,PP,lLm]
 refine DC (fun h4 => ?_) (fun h4 => ?_)
 ·simp -implicitDefEqProofs only [BC,BA,BK,A8,CX,ED,CP,AY,BB,AO,AQ,AL,BD,AX,AC,AA,AU,BI,A7,↓reduceIte,oGs,bNf]
  exact ⟨by unfold IL; rw [if_neg h1',if_neg h2',if_neg h3',if_pos (by simp at h4; omega)],_,rfl⟩
 have h4' : ¬ 64 < p.bins.length:=by simp at h4; omega
 have hpt:IL p=if KD IP p.bins≠0 then KD IP p.bins else if Q8 (p.bins.map (·.name)) then 8 else 0:=by
  unfold IL; rw [if_neg h1',if_neg h2',if_neg h3',if_neg h4']
 simp -implicitDefEqProofs only [BC,BV,BA,BR,A8,EP,AY,BB,AO,AQ,AL,BD,AX,AC,AA,AZ,AU,BI,BG,BQ,BM,D8,AB,↓reduceIte,Nat.reduceEqDiff,Nat.zero_add,oGs,bNf,enP,ZI,LM,DJ V5,PP,lLm]
 refine JJ 1 (fun F H=>F 1 = .ptr h.length 0 0∧H[h.length]? = some (.live 6 [FO p])∧(∃ x,H=h ++ x)∧KD IP p.bins=0) (fun F H=>F 2 = .int .i64 (IL p)∧∃ x,H=h ++ x) ?_ ?_ ?_
 ·refine DY (fun n F H => ∃ k,n+k=p.bins.length∧F 1 = .ptr h.length 0 0∧F 28 = .sl p.bm 4 (p.bins.map F6)∧F 29 = .int .i64 p.bins.length∧F 30 = .int .i64 (k:Nat)∧H[h.length]? = some (.live 6 [FO p])∧(∃ x,H=h ++ x)∧KD IP p.bins=KD IP (p.bins.drop k)) p.bins.length ⟨0,by simp,by simp -implicitDefEqProofs only [AA,↓reduceIte,Nat.reduceEqDiff],by simp -implicitDefEqProofs only [AA,↓reduceIte,Nat.reduceEqDiff],by simp -implicitDefEqProofs only [AA,↓reduceIte,Nat.reduceEqDiff],by simp -implicitDefEqProofs only [AA,↓reduceIte]; rfl,C9 _ _,⟨_,rfl⟩,rfl⟩ ?_
  rintro n F H ⟨k,hk,f1,f28,f29,f30,hb,⟨x,hx⟩,hf⟩
  simp -implicitDefEqProofs only [BC,BA,BL,A8,AY,BB,AO,AQ,AL,BD,AX,AC,AA,AZ,BU,AB,DT,↓reduceIte,oGs,bNf,enP,f29,f30]
  refine DC (fun hc => ?_) (fun hc => ?_)
  ·have hk':k < p.bins.length:=by simpa using hc
   have hs:=TI IP p.bins k hk'
   simp -implicitDefEqProofs only [BC,BV,BA,BR,A8,AY,BB,AO,AQ,AL,BD,AX,AC,EM,AA,AZ,CB,EZ,BQ,D6,CV,CG,BP,BX,AB,DI,lMc,lMn,lAn,↓reduceIte,Nat.reduceEqDiff,oGs,bNf,enP,AH0,Option.getD_none,f28,f30,EF hk',FK UI OW LD hk',ASV,AVR _ _ [.str ⟨#[]⟩,.int .i64 0,.sl .nil 0 [],.sl .nil 0 []] rfl,ldB]
   refine (YT G hG.kw p.bins[k] (hp.bins _ (List.getElem_mem hk')) _).use ?_
   simp -implicitDefEqProofs only [BC,BA,BL,A8,AY,BB,AO,AQ,AL,BD,AX,AC,AA,AZ,AU,BI,BG,A7,BU,AB,EQ,↓reduceIte,oGs,bNf,enP]
   refine DC (fun hv => ?_) (fun hv => ?_)
   ·simp -implicitDefEqProofs only [BC,BA,BK,A8,CX,ED,TU,FY,AY,BB,AO,AQ,AL,BD,AX,AC,AA,AZ,BG,A7,↓reduceIte,Nat.reduceEqDiff,oGs,bNf]
    have hv':IP p.bins[k]≠0:=by simpa using hv
    have:KD IP p.bins=IP p.bins[k]:=by rw [hf,hs,if_neg hv']
    exact ⟨by rw [hpt,this,if_pos hv'],x ++ _,by rw [hx,List.append_assoc]⟩
   ·have hv':IP p.bins[k]=0:=by simpa using hv
    simp -implicitDefEqProofs only [BA,BR,A8,EP,FC,AY,BB,AO,AQ,AL,BD,AX,AC,AA,AZ,AU,BI,BG,BU,AB,DV,↓reduceIte,Nat.reduceEqDiff,oGs,bNf,enP,f30,wrap_succ (show k < 9223372036854775807 by omega)]
    exact ⟨n - 1,by omega,k+1,by omega,f1,f28,f29,rfl,CJ hb,⟨x ++ _,by rw [hx,List.append_assoc]⟩,by rw [hf,hs,if_pos hv']⟩
  ·have hk' : ¬ k < p.bins.length:=by simpa using hc
   simp -implicitDefEqProofs only [DW,ER,O1,FM,AA,↓reduceIte,Nat.reduceEqDiff]
   exact ⟨f1,hb,⟨x,hx⟩,by rw [hf,List.drop_eq_nil_of_le (by omega)]; rfl⟩
 ·rintro F H ⟨f1,hb,⟨x,hx⟩,hf⟩
  have l5:DL Tryz.prog H 54 (.ptr h.length 0 5)=some (.sl p.bm 4 (p.bins.map F6)):=by rw [DK V5 hb (row:=FO p) rfl,PP]
  simp -implicitDefEqProofs only [BC,BA,A8,FN,AY,AO,AQ,AL,BD,AX,AC,AA,AZ,CB,BQ,BM,CG,BP,AB,lMc,lMn,lAn,↓reduceIte,Nat.zero_add,oGs,bNf,enP,LM,f1,l5]
  refine (AK5 G p.bins p.bm H (by omega)).use ?_
  simp -implicitDefEqProofs only [BL,A8,BB,AC,AA,AZ,↓reduceIte]
  cases hd:Q8 (p.bins.map (·.name))
  ·simp -implicitDefEqProofs only [BC,BA,BR,BK,A8,CP,D5,AY,BB,AO,AQ,AL,BD,AX,AC,AA,AU,BI,A7,↓reduceIte,oGs,bNf]
   exact ⟨by rw [hpt,hf,hd]; rfl,x,hx⟩
  ·simp -implicitDefEqProofs only [BC,BA,BK,A8,CX,CP,DU,AY,BB,AO,AQ,AL,BD,AX,AC,AA,AU,BI,A7,↓reduceIte,oGs,bNf]
   exact ⟨by rw [hpt,hf,hd]; rfl,x,hx⟩
 ·rintro F H ⟨f2,hx⟩
  simp -implicitDefEqProofs only [CX,ED,CP,f2]
  exact ⟨trivial,hx⟩
def outG {α:Type} (k:Nat) (f:α→List AV) (h:Hp) (ys:List α) (v:AV) (H:Hp):Prop :=
 (ys = []∧v = .sl .nil 0 [])∨(ys≠[]∧∃ o,h.length≤o∧v = .own o 0 ys.length∧H[o]? = some (.live k (ys.map f)))
theorem outG.nil {α:Type} (k:Nat) (f:α→List AV) (h H:Hp):outG k f h [] (.sl .nil 0 []) H := .inl ⟨rfl,rfl⟩
theorem outG.keep {α:Type} {k:Nat} {f:α→List AV} {h H H':Hp} {ys:List α} {v:AV} (ho:outG k f h ys v H) (hk : ∀ b,isB v b→H'[b]? = H[b]?):outG k f h ys v H':=by
 rcases ho with h1 | ⟨h1,o,h2,rfl,h3⟩
 ·exact .inl h1
 ·exact .inr ⟨h1,o,h2,rfl,by rw [hk o rfl]; exact h3⟩
theorem outG.lt {α:Type} {k:Nat} {f:α→List AV} {h H:Hp} {ys:List α} {v:AV} {b:Nat} (ho:outG k f h ys v H) (hb:isB v b):h.length≤b∧b < H.length:=by
 rcases ho with ⟨_,rfl⟩ | ⟨_,o,h2,rfl,h3⟩
 ·exact hb.elim
 ·cases hb; exact ⟨h2,BZ h3⟩
theorem outG.app {α:Type} {k:Nat} {f:α→List AV} {h H:Hp} {ys:List α} {v:AV} (ho:outG k f h ys v H) (x:Hp):outG k f h ys v (H ++ x) :=
 ho.keep fun _ hb=>List.getElem?_append_left (ho.lt hb).2
theorem outG.append {P:Program} {t e:TypeId} {α:Type} {k bs:Nat} {f:α→List AV} {h H:Hp} {ys:List α} {v:AV} (ho:outG k f h ys v H) (hu:P.underlying t=some (.slice e)) (hs:szO P e=some k) (hz:TR P e=some k) (hb:LQ P e=some bs) (hbs:bs≤4194304) (hl:ys.length < 8388608) (he:ext h H) (y:α) :
  ∃ v' H',GI P true H t t v (.sl .full k [f y])=some (v',H')∧outG k f h (ys ++ [y]) v' H'∧(∀ b x,H[b]? = some x→¬ isB v b→H'[b]? = some x)∧ext h H'∧H.length≤H'.length∧∀ b,isB v' b→b=H.length:=by
 have h1:([f y]:List (List AV))≠[]:=by simp
 rcases ho with ⟨rfl,rfl⟩ | ⟨hne,o,h2,rfl,h3⟩
 ·exact ⟨_,_,TQ hu hs hz hb (JR H .full k [f y]) h1 (IR (by simp) hbs),.inr ⟨by simp,H.length,he.le,rfl,by simp⟩,fun b x hb _=>FH hb,he.app _,by simp,fun b hb=>hb.symm⟩
 ·have hc:JH H (.own o 0 ys.length)=some (k,ys.map f):=by
   rw [OT h3 (by simp),List.drop_zero,List.take_of_length_le (by simp)]
  refine ⟨_,_,TP hu hs hz hb hc (JR H .full k [f y]) h1 (IR (by simp; omega) hbs),.inr ⟨by simp,H.length,he.le,by simp,by simp⟩,fun b x hb hn => ?_,(he.set h2 _).app _,by simp,fun b hb=>hb.symm⟩
  have hn' : ¬ o=b:=hn
  refine FH ?_
  rw [List.getElem?_set,if_neg hn']; exact hb
theorem outG.len {P:Program} {t:TypeId} {α:Type} {k:Nat} {f:α→List AV} {h H:Hp} {ys:List α} {v:AV} (ho:outG k f h ys v H) (hl:(∀ m k xs,J4 P t (.sl m k xs)=some (.int .i64 xs.length))∧∀ b off len,J4 P t (.own b off len)=some (.int .i64 len)):J4 P t v=some (.int .i64 ys.length):=by
 rcases ho with ⟨rfl,rfl⟩ | ⟨_,o,_,rfl,_⟩
 ·exact hl.1 _ _ _
 ·exact hl.2 _ _ _
def nm {α:Type} (ys:List α):SM:=match ys with
 | [] => .nil
 | _ => .any
theorem AFU (n:Nat) (h:Hp) (d b off len k:Nat) (xs:List (List AV)) (hn : ¬ b < n) (hb:h[b]? = some (.live k xs)):HY n h (d+1) (.own b off len)=if off+len≤xs.length∧(((xs.drop off).take len).map (·.map (HY n h d))).all (·.all AV.leaf)=true then .sl .any k (((xs.drop off).take len).map (·.map (HY n h d))) else .junk:=by
 rw [HY]
 simp only [hn,if_false,hb]
def Frz {α:Type} (f:α→List AV):Prop := ∀ (n:Nat) (h:Hp) (d:Nat) (x:α),(f x).map (HY n h (d+1))=f x∧(f x).all AV.leaf=true
theorem AOG {α:Type} {f:α→List AV} (hf:Frz f) (n:Nat) (h:Hp) (d:Nat) (xs:List α):(xs.map f).map (·.map (HY n h (d+1)))=xs.map f:=by
 rw [List.map_map]
 exact List.map_congr_left fun x _=>(hf n h d x).1
theorem VS {α:Type} {f:α→List AV} (hf:Frz f) {n d k:Nat} {h:Hp} {o:Nat} {xs:List α} (hn:n≤o) (ho:h[o]? = some (.live k (xs.map f))):HY n h (d+2) (.own o 0 xs.length) = .sl .any k (xs.map f):=by
 rw [AFU n h (d+1) o 0 xs.length k _ (by omega) ho,List.drop_zero,List.take_of_length_le (by simp),AOG hf n h d xs]
 rw [if_pos]
 refine ⟨by simp,?_⟩
 rw [List.all_eq_true]
 intro row hr
 obtain ⟨x,_,rfl⟩:=List.mem_map.1 hr
 exact (hf n h d x).2
theorem TF {E:Env} {f:FuncId} {args:List AV} {h:Hp} {α:Type} {k:Nat} {enc:α→List AV} (hf:Frz enc) {ys:List α} (hc:ACalls E f args h fun v H=>ext h H∧outG k enc h ys v H):PCall E f args h (.sl (nm ys) k (ys.map enc)):=by
 have h1:ACalls E f args h fun v H=>v=(if ys.length=0 then AV.sl .nil 0 [] else .sl .any k (ys.map enc))∧H=h:=by
  refine ACalls.pure 2 hc ?_
  rintro v H ⟨hex,hout⟩
  refine ⟨hex,?_⟩
  rcases hout with ⟨rfl,rfl⟩ | ⟨hne,o,ho1,rfl,ho⟩
  ·rfl
  ·rw [if_neg (by simpa using hne)]; exact VS hf ho1 ho
 refine h1.conv ?_
 rintro v H ⟨rfl,rfl⟩
 refine ⟨_,⟨rfl,rfl⟩,?_⟩
 intro g cv hr
 cases ys with
 | nil=>exact ANU hr
 | cons y ys=>exact hr
def KE (m:Mo) (p:Int):List Bin:=match m.pts[p.toNat]? with
 | some q=>q.bins
 | none => []
def szs (m:Mo) (l:List Int):List Nat:=l.map fun p=>(KE m p).length
def Here (m:Mo) (l:List Int):Prop := ∀ p∈l,0≤p∧p < (m.pts.length:Int)
theorem Here.toNat {m:Mo} {l:List Int} (hh:Here m l) {k:Nat} (hk:k < l.length):(l[k]).toNat < m.pts.length:=by
 have:=hh _ (List.getElem_mem hk); omega
theorem Here.bins {m:Mo} {l:List Int} (hh:Here m l) {k:Nat} (hk:k < l.length):(m.pts[(l[k]).toNat]'(hh.toNat hk)).bins=KE m l[k]:=by
 unfold KE; rw [List.getElem?_eq_getElem (hh.toNat hk)]
theorem Here.ix {m:Mo} {l:List Int} (hh:Here m l) {k:Nat} (hk:k < l.length) (h:Hp) (s:SM):JP 6 h (.sl s 6 (m.pts.map FO)) (.int .i64 l[k])=some (.fptr 6 (m.pts.map FO) (l[k]).toNat 0):=by
 have:=hh _ (List.getElem_mem hk)
 exact ABU this.1 (by rw [lLm]; exact this.2)
theorem Here.ld {m:Mo} {l:List Int} (hh:Here m l) {k:Nat} (hk:k < l.length) (h:Hp) : ∃ s,DL Tryz.prog h 54 (.fptr 6 (m.pts.map FO) (l[k]).toNat 5)=some (.sl s 4 ((KE m l[k]).map F6)):=by
 rw [EI V5 (hh.toNat hk),PP,hh.bins hk]
 exact ⟨_,rfl⟩
theorem AWN:Frz encI:=fun _ _ _ _=>⟨rfl,rfl⟩
theorem AL7 (h:Hp) (v:Int):EN Tryz.prog false h 57 1 [(0,.int .i64 v)]=some (.sl .full 1 [[.int .i64 v]],h):=by kernel_rfl
def JE (n:Nat):List AV := [.int .i64 (n:Int)]
theorem AWK:Frz JE:=fun _ _ _ _=>⟨rfl,rfl⟩
theorem encN0 (n:Nat):(JE n)[0]? = some (.int .i64 (n:Int)):=rfl
theorem encI0 (n:Int):(encI n)[0]? = some (.int .i64 n):=rfl
theorem AM0 (m:Mo) (l:List Int) (k:Nat) (hk:k < l.length):szs m (l.take (k+1))=szs m (l.take k) ++ [(KE m l[k]).length]:=by
 unfold szs; rw [List.take_succ_eq_append_getElem hk,List.map_append]; rfl
theorem OX (G:Nat→AV) (m:Mo) (c:Cr) (h:Hp) (hh:Here m c.pts) (hl:c.pts.length≤1048576):PCall (En G) 167 [.agg (EC m),.agg (F5 c)] h (.sl (nm (szs m c.pts)) 1 ((szs m c.pts).map JE)):=by
 refine TF AWK ?_
 refine CE (H:=Hint.none) (enM G) Tryz.func167 rfl (by kernel_rfl) (by kernel_rfl) (nLb (by kernel_rfl)) ?_
 show awp _ _ _ _ _ (D9 _ [.tmp 4] _)
 simp -implicitDefEqProofs only [BC,BV,BA,A8,AY,BB,AO,AQ,AL,BD,AX,AC,AA,AZ,AU,BI,JS,BG,A7,FX,BQ,BM,D8,BX,AB,BF,BO,↓reduceIte,Nat.reduceEqDiff,Nat.zero_add,oGs,bNf,enP,J6,SB,bxM,bxC,DJ NR,AGB,lLm]
 have hb0:(h ++ [ABlk.live 2 [EC m]] ++ [ABlk.live 3 [F5 c]])[h.length]? = some (.live 2 [EC m]):=CJ (C9 _ _)
 refine DY (fun n F H => ∃ k,n+k=c.pts.length∧F 2 = .ptr h.length 0 0∧F 9 = .sl c.pm 1 (c.pts.map encI)∧F 10 = .int .i64 c.pts.length∧F 11 = .int .i64 (k:Nat)∧H[h.length]? = some (.live 2 [EC m])∧ext h H∧(∀ b,isB (F 5) b→h.length < b)∧outG 1 JE h (szs m (c.pts.take k)) (F 5) H) c.pts.length ⟨0,by simp,by simp -implicitDefEqProofs only [AA,↓reduceIte,Nat.reduceEqDiff],by simp -implicitDefEqProofs only [AA,↓reduceIte,Nat.reduceEqDiff],by simp -implicitDefEqProofs only [AA,↓reduceIte,Nat.reduceEqDiff],by simp -implicitDefEqProofs only [AA,↓reduceIte]; rfl,hb0,((ext.rfl' h).app _).app _,fun b hb=>hb.elim,outG.nil _ _ _ _⟩ ?_
 rintro n F H ⟨k,hk,f2,f9,f10,f11,hb,he,hlt,ho⟩
 simp -implicitDefEqProofs only [BC,BA,BL,A8,AY,BB,AO,AQ,AL,BD,AX,AC,AA,AZ,BU,AB,DT,↓reduceIte,oGs,bNf,enP,f10,f11]
 refine DC (fun hc => ?_) (fun hc => ?_)
 ·have hk':k < c.pts.length:=by simpa using hc
  have lm:DL Tryz.prog H 22 (.ptr h.length 0 0)=some (.sl m.pm 6 (m.pts.map FO)):=by rw [DK U7 hb (row:=EC m) rfl,O8]
  obtain ⟨s,ls⟩:=hh.ld hk' H
  have hzl:(szs m (c.pts.take k)).length < 8388608:=by unfold szs; simp; omega
  obtain ⟨v',H',ha,ho',hkeep,he',hle,hb'⟩:=ho.append UN sz3 YP WV (by omega) hzl he (KE m c.pts[k]).length
  simp -implicitDefEqProofs only [FI,FQ,BC,BV,BA,BR,A8,AY,BB,AO,AQ,AL,BD,AX,AC,AA,AZ,BG,A7,EE,BQ,BM,CV,D8,H9,BX,AB,↓reduceIte,Nat.reduceEqDiff,Nat.add_zero,Nat.zero_add,oGs,bNf,enP,UZ,LP,ZI,LM,MB,f2,f9,f11,EF hk',EI ag3 hk',encI0,lm,hh.ix hk',ls,lLm,AL7]
  refine JC (v:=v') (h:=H') (by rw [show [[AV.int .i64 ((KE m c.pts[k]).length:Int)]] = [JE (KE m c.pts[k]).length] from rfl,ha]) ?_
  simp -implicitDefEqProofs only [BA,A8,EP,FC,AY,BB,AO,AQ,AL,BD,AX,AC,AA,AZ,AU,BI,BG,A7,BU,AB,DV,↓reduceIte,Nat.reduceEqDiff,oGs,bNf,enP,f11,wrap_succ (show k < 9223372036854775807 by omega)]
  refine ⟨n - 1,by omega,k+1,by omega,f2,f9,f10,rfl,hkeep _ _ hb (fun e=>by have:=hlt _ e; omega),he',fun b hbb => ?_,?_⟩
  ·have:=hb' b hbb; have:=BZ hb; omega
  ·rw [AM0 m c.pts k hk']; exact ho'
 ·have hk' : ¬ k < c.pts.length:=by simpa using hc
  rw [List.take_of_length_le (by omega)] at ho
  simp -implicitDefEqProofs only [BC,BA,BK,DW,A8,ER,FN,FM,CP,AY,BB,AO,AQ,AL,BD,AX,AC,AA,AZ,BG,A7,↓reduceIte,Nat.reduceEqDiff,oGs,bNf]
  exact ⟨he,ho⟩
def I4 (l:List Nat):Nat:=l.foldl (· * ·) 1
theorem Y9 (l:List Nat) (k:Nat) (hk:k < l.length):I4 (l.take (k+1))=I4 (l.take k) * l[k]:=by
 unfold I4; rw [List.take_succ_eq_append_getElem hk,List.foldl_append]; rfl
theorem ANJ (l:List Nat) (k:Nat) (h : ∀ n∈l,n≤64) (hk:l.length≤k):I4 l≤64 ^ k:=by
 have gen : ∀ (l:List Nat) (a:Nat) (j:Nat),(∀ n∈l,n≤64)→a≤64 ^ j→l.foldl (· * ·) a≤64 ^ (j+l.length):=by
  intro l
  induction l with
  | nil=>intro a j _ ha; exact ha
  | cons x l ih =>
    intro a j hl ha
    rw [List.foldl_cons,List.length_cons,show j+(l.length+1)=(j+1)+l.length by omega]
    refine ih _ _ (fun n hn=>hl n (by simp [hn])) ?_
    rw [Nat.pow_succ]
    exact Nat.mul_le_mul ha (hl x (by simp))
 have:=gen l 1 0 h (by simp)
 rw [Nat.zero_add] at this
 exact Nat.le_trans this (Nat.pow_le_pow_right (by omega) hk)
theorem AHL (l:List Nat) (k:Nat) (h : ∀ n∈l,1≤n):I4 (l.take k)≤I4 l:=by
 have gen : ∀ (l:List Nat) (a:Nat),(∀ n∈l,1≤n)→a≤l.foldl (· * ·) a:=by
  intro l
  induction l with
  | nil=>intro a _; exact Nat.le_refl _
  | cons x l ih =>
    intro a hl
    rw [List.foldl_cons]
    refine Nat.le_trans ?_ (ih _ (fun n hn=>hl n (by simp [hn])))
    exact Nat.le_mul_of_pos_right a (hl x (by simp))
 have h2:I4 l=(l.drop k).foldl (· * ·) (I4 (l.take k)):=by
  unfold I4
  conv=>lhs; rw [← List.take_append_drop k l,List.foldl_append]
 rw [h2]
 exact gen _ _ (fun n hn=>h n (List.mem_of_mem_drop hn))
theorem OH (G:Nat→AV) (l:List Nat) (s:SM) (h:Hp) (hl : ∀ n∈l,n≤64) (hk:l.length≤4):PCall (En G) 180 [.sl s 1 (l.map JE)] h (.int .i64 (I4 l)):=by
 refine CE (H:=Hint.none) (enM G) Tryz.func180 rfl (by kernel_rfl) (by kernel_rfl) (nLb (by kernel_rfl)) ?_
 show awp _ _ _ _ _ (D9 _ [.tmp 2] _)
 simp -implicitDefEqProofs only [BC,BV,BA,A8,AY,BB,AO,AQ,AL,BD,AX,AC,AA,AZ,AU,BI,BG,A7,D8,AB,BF,↓reduceIte,Nat.reduceEqDiff,oGs,bNf,enP,J6,lLm]
 have hp : ∀ k,I4 (l.take k)≤16777216:=fun k=>by
  have:=ANJ (l.take k) 4 (fun n hn=>hl n (List.mem_of_mem_take hn)) (by rw [List.length_take]; omega)
  simpa using this
 refine DY (fun n F H => ∃ k,n+k=l.length∧F 3 = .int .i64 (I4 (l.take k))∧F 6 = .sl s 1 (l.map JE)∧F 7 = .int .i64 l.length∧F 8 = .int .i64 (k:Nat)∧H=h) l.length ⟨0,by simp,by simp -implicitDefEqProofs only [AA,↓reduceIte,Nat.reduceEqDiff]; rfl,by simp -implicitDefEqProofs only [AA,↓reduceIte,Nat.reduceEqDiff],by simp -implicitDefEqProofs only [AA,↓reduceIte,Nat.reduceEqDiff],by simp -implicitDefEqProofs only [AA,↓reduceIte]; rfl,rfl⟩ ?_
 rintro n F H ⟨k,hk,f3,f6,f7,f8,rfl⟩
 simp -implicitDefEqProofs only [BC,BA,BL,A8,AY,BB,AO,AQ,AL,BD,AX,AC,AA,AZ,BU,AB,DT,↓reduceIte,oGs,bNf,enP,f7,f8]
 refine DC (fun hc => ?_) (fun hc => ?_)
 ·have hk':k < l.length:=by simpa using hc
  have h1:=hp (k+1)
  rw [Y9 l k hk'] at h1
  have hw:IntKind.i64.wrap ((I4 (l.take k):Int) * (l[k]:Int))=((I4 (l.take (k+1)):Nat):Int):=by
   rw [Y9 l k hk',← Int.natCast_mul,OU (by omega)]
  simp -implicitDefEqProofs only [BC,BV,BA,BR,A8,EP,FC,AY,BB,AO,AQ,AL,BD,AX,AC,AA,AZ,AU,BI,BG,A7,BQ,BU,CV,AB,DV,AKG,↓reduceIte,Nat.reduceEqDiff,oGs,bNf,enP,MB,f3,f6,f8,EF hk',EI ag3 hk',encN0,hw,wrap_succ (show k < 9223372036854775807 by omega)]
  exact ⟨n - 1,by omega,k+1,by omega,rfl,trivial,f7,rfl,trivial⟩
 ·have hk' : ¬ k < l.length:=by simpa using hc
  rw [List.take_of_length_le (by omega)] at f3
  simp -implicitDefEqProofs only [BC,BA,BK,DW,A8,ER,FN,FM,CP,AY,BB,AO,AQ,AL,BD,AX,AC,AA,AZ,BG,A7,↓reduceIte,Nat.reduceEqDiff,oGs,bNf,f3]
  exact ⟨trivial,trivial⟩
def P6:List Nat→List Int→Bool
 | [],[]=>true
 | n :: ns,x :: xs=>decide (0≤x) && decide (x < (n:Int)) && P6 ns xs
 | _,_=>false
theorem AOB (ns:List Nat):P6 ns []=(ns.length == 0):=by cases ns <;> rfl
theorem ZL : ∀ {ns:List Nat} {xs:List Int},P6 ns xs=true→ns.length=xs.length
 | [],[],_=>rfl
 | n :: ns,x :: xs,h=>by
   simp only [P6,Bool.and_eq_true] at h
   simp [ZL h.2]
 | [],_ :: _,h=>by cases h
 | _ :: _,[],h=>by cases h
theorem inside_prog (G:Nat→AV) (ns:List Nat) (xs:List Int) (s t:SM) (h:Hp) (hn:ns.length≤1048576):PCall (En G) 182 [.sl s 1 (ns.map JE),.sl t 1 (xs.map encI)] h (.bool (P6 ns xs)):=by
 refine CE (H:=Hint.none) (enM G) Tryz.func182 rfl (by kernel_rfl) (by kernel_rfl) (nLb (by kernel_rfl)) ?_
 show awp _ _ _ _ _ (D9 _ [.tmp 4] _)
 simp -implicitDefEqProofs only [BC,BV,BA,A8,AY,BB,AO,AQ,AL,BD,AX,AC,AA,AZ,AU,BI,BJ,BG,A7,D8,AB,BF,BO,↓reduceIte,Nat.reduceEqDiff,oGs,bNf,enP,J6,lLm]
 refine DY (fun n F H => ∃ k,n+k=xs.length∧k≤ns.length∧F 0 = .sl s 1 (ns.map JE)∧F 1 = .sl t 1 (xs.map encI)∧F 7 = .sl t 1 (xs.map encI)∧F 8 = .int .i64 xs.length∧F 9 = .int .i64 (k:Nat)∧H=h∧P6 ns xs=P6 (ns.drop k) (xs.drop k)) xs.length ⟨0,by simp,by simp,by simp -implicitDefEqProofs only [AA,BF,↓reduceIte,Nat.reduceEqDiff],by simp -implicitDefEqProofs only [AA,BF,BO,↓reduceIte,Nat.reduceEqDiff],by simp -implicitDefEqProofs only [AA,↓reduceIte,Nat.reduceEqDiff],by simp -implicitDefEqProofs only [AA,↓reduceIte,Nat.reduceEqDiff],by simp -implicitDefEqProofs only [AA,↓reduceIte]; rfl,rfl,rfl⟩ ?_
 rintro n F H ⟨k,hk,hkn,f0,f1,f7,f8,f9,rfl,hi⟩
 simp -implicitDefEqProofs only [BC,BA,BL,A8,AY,BB,AO,AQ,AL,BD,AX,AC,AA,AZ,BU,AB,DT,↓reduceIte,oGs,bNf,enP,f8,f9]
 refine DC (fun hc => ?_) (fun hc => ?_)
 ·have hk':k < xs.length:=by simpa using hc
  rw [List.drop_eq_getElem_cons hk'] at hi
  simp -implicitDefEqProofs only [BC,BV,BA,BR,A8,AY,BB,BH,BN,CO,AO,AQ,AL,BD,AX,AC,AA,AZ,BG,A7,BQ,BU,CV,D8,AB,G6,↓reduceIte,Nat.reduceEqDiff,oGs,bNf,enP,MB,J6,f0,f7,f9,EF hk',EI ag3 hk',encI0,lLm]
  refine GU (fun ha => ?_) (fun ha => ?_)
  ·simp -implicitDefEqProofs only [BC,BA,BK,BL,A8,CX,ED,FY,CP,DU,AY,BB,BH,BN,CO,FP,AO,AQ,AL,BD,AX,AC,AA,EJ,AZ,AU,BJ,BG,A7,CQ,DR,↓reduceIte,Nat.reduceEqDiff,oGs,bNf,ha]
   have:ns.length≤k:=by simp at ha; omega
   rw [List.drop_eq_nil_of_le this] at hi
   exact ⟨by rw [hi]; rfl,trivial⟩
  have hkn':k < ns.length:=by simp at ha; omega
  rw [List.drop_eq_getElem_cons hkn'] at hi
  simp -implicitDefEqProofs only [AY,BH,BN,CO,EG,AO,AQ,AL,BD,AX,AC,AA,AZ,AU,BI,BJ,BG,CQ,DN,BU,AB,DT,↓reduceIte,Nat.reduceEqDiff,oGs,bNf,enP,ha]
  refine GU (fun hb => ?_) (fun hb => ?_)
  ·simp -implicitDefEqProofs only [BC,BA,BK,BL,A8,CX,ED,FY,CP,DU,AY,BB,BH,BN,CO,FP,AO,AQ,AL,BD,AX,AC,AA,EJ,AZ,AU,BJ,A7,CQ,DR,↓reduceIte,Nat.reduceEqDiff,oGs,bNf,hb]
   have:decide (0≤xs[k])=false:=by simp at hb ⊢; omega
   exact ⟨by rw [hi]; unfold P6; rw [this]; rfl,trivial⟩
  have h0:decide (0≤xs[k])=true:=by simp at hb ⊢; omega
  simp -implicitDefEqProofs only [BL,A8,AY,BB,BH,BN,CO,EG,AO,AQ,AL,BD,AX,AC,AA,AZ,AU,BJ,BG,CQ,DN,BQ,BU,CV,AB,G6,↓reduceIte,Nat.reduceEqDiff,oGs,bNf,enP,MB,hb,f0,EF hkn',EI ag3 hkn',encN0]
  refine DC (fun hd => ?_) (fun hd => ?_)
  ·simp -implicitDefEqProofs only [BC,BA,BK,A8,CX,ED,FY,CP,AY,BB,AO,AQ,AL,BD,AX,AC,AA,AU,BJ,A7,↓reduceIte,oGs,bNf]
   have:decide (xs[k] < (ns[k]:Int))=false:=by simp at hd ⊢; omega
   exact ⟨by rw [hi]; unfold P6; rw [this,h0]; rfl,trivial⟩
  have h1:decide (xs[k] < (ns[k]:Int))=true:=by simp at hd ⊢; omega
  simp -implicitDefEqProofs only [BA,BR,A8,EP,FC,AY,BB,AO,AQ,AL,BD,AX,AC,AA,AZ,AU,BI,BG,BU,AB,DV,↓reduceIte,Nat.reduceEqDiff,oGs,bNf,enP,f9,wrap_succ (show k < 9223372036854775807 by omega)]
  refine ⟨n - 1,by omega,k+1,by omega,by omega,f0,f1,f7,f8,rfl,trivial,?_⟩
  rw [hi]
  conv=>lhs; unfold P6
  rw [h0,h1]; rfl
 ·have hk' : ¬ k < xs.length:=by simpa using hc
  simp -implicitDefEqProofs only [BC,BA,BK,DW,A8,ER,FN,FM,CP,AY,BB,AO,AQ,AL,BD,AX,AC,AA,AZ,BG,A7,BU,D8,AB,DX,↓reduceIte,Nat.reduceEqDiff,oGs,bNf,enP,J6,f0,f1,lLm]
  refine ⟨?_,trivial⟩
  rw [hi,List.drop_eq_nil_of_le (show xs.length≤k by omega),AOB,List.length_drop]
  congr 1
  rw [Bool.eq_iff_iff]; simp; omega
end Go.Proofs.YtocilianjfhifaaGreatDoor.Cov
