/- Part 9 of the proof (U1, U2, U3, U4, U5, U6, U7, U8, V1); no condition. -/
import Derived.Shelf.Spec.SlicesGrow
import Derived.Test.YtokehnfjjmpanaaGreatDoorYB8
set_option linter.unusedVariables false
set_option linter.unusedSimpArgs false
set_option maxRecDepth 8000
namespace Go.Proofs.YtokehnfjjmpanaaGreatDoor.Bd
open Sm Bins Cov Xe Go.RowKit
open Bool renaming not_false→jC,not_eq_true→qM,or_true→qC,or_false→jM,not_true→jW
open List renaming length_map→jR,map_cons→jF,map_nil→jD,nil_append→zJ,cons_append→zV,getElem_mem→jT,append_nil→jE,length_take→qG,getElem?_cons_zero→zB,getElem?_cons_succ→zD,mem_of_getElem?→zN,getElem_of_mem→qJ,take_succ_eq_append_getElem→zY,take_of_length_le→jY,length_append→qB
open Nat renaming le_of_ble_eq_true→jJ,reduceEqDiff→jA,lt_or_ge→jV,add_zero→jH,reduceAdd→jL,zero_add→jG,le_refl→jQ
open Option renaming getD_some→jB,map_some→qP,getD_none→jK
structure Vr where
 name:ByteArray
 width:Int
 mode:Int
 value:Int
def GH (v:Vr):List AV := [.str v.name,.int .i64 v.width,.int .i64 v.mode,.int .i64 v.value]
theorem ACU (v:Vr):(GH v).length=4:=rfl
theorem ARV (v:Vr):(GH v)[0]? = some (.str v.name):=rfl
theorem ARU (v:Vr):(GH v)[1]? = some (.int .i64 v.width):=rfl
theorem ART (v:Vr):(GH v)[2]? = some (.int .i64 v.mode):=rfl
theorem AWK (v:Vr):(GH v)[3]? = some (.int .i64 v.value):=rfl
structure Wg where
 lo:Int
 hi:Int
 w:Int
 each:Bool
def JA (x:Wg):List AV := [.int .i64 x.lo,.int .i64 x.hi,.int .i64 x.w,.bool x.each]
theorem TV (x:Wg):(JA x).length=4:=rfl
structure Ds where
 var:Int
 wm:SM
 ws:List Wg
def JE (d:Ds):List AV := [.int .i64 d.var,.sl d.wm 4 (d.ws.map JA)]
theorem V6 (d:Ds):(JE d).length=2:=rfl
structure Gp where
 m:SM
 l:List Int
def SX (g:Gp):List AV := [.sl g.m 1 (g.l.map qencI)]
structure Pr where
 vm:SM
 vars:List Vr
 hm:SM
 hard:List Ex
 sm:SM
 soft:List Ex
 dm:SM
 dists:List Ds
 gm:SM
 groups:List Gp
def DY (p:Pr):List AV := [.sl p.vm 4 (p.vars.map GH),.sl p.hm 4 (p.hard.map CW),.sl p.sm 4 (p.soft.map CW),.sl p.dm 2 (p.dists.map JE),.sl p.gm 1 (p.groups.map SX)]
theorem GZ (p:Pr):(DY p).length=5:=rfl
theorem bxV (h:Hp) (v:Vr):PO h (.agg (GH v))=some (.ptr h.length 0 0,h ++ [.live 4 [GH v]]):=rfl
theorem A3E (h:Hp) (v:Wg):PO h (.agg (JA v))=some (.ptr h.length 0 0,h ++ [.live 4 [JA v]]):=rfl
theorem bxD (h:Hp) (v:Ds):PO h (.agg (JE v))=some (.ptr h.length 0 0,h ++ [.live 2 [JE v]]):=rfl
theorem QP (h:Hp) (p:Pr):PO h (.agg (DY p))=some (.ptr h.length 0 0,h ++ [.live 5 [DY p]]):=rfl
def KQ {α:Type} (p:α→Bool):List α→Int
 | [] => -1
 | x :: r=>if p x=true then 0 else if KQ p r < 0 then -1 else KQ p r+1
theorem P9 {α:Type} (p:α→Bool) : ∀ xs:List α,-1≤KQ p xs∧KQ p xs < xs.length
 | []=>by simp [KQ]
 | x :: r=>by
   have:=P9 p r
   simp only [KQ,List.length_cons]
   split
   ·omega
   ·split <;> omega
theorem QA {α:Type} (p:α→Bool) : ∀ (xs:List α) (k:Nat) (hk:k < xs.length),(∀ (j:Nat) (hj:j < k),p (xs[j]'(by omega))=false)→p xs[k]=true→KQ p xs=k
 | x :: r,0,_,_,h=>by
   have h:p x=true:=h
   simp [KQ,h]
 | x :: r,k+1,hk,hb,h=>by
   have h0:p x=false:=hb 0 (by omega)
   have ih:=QA p r k (by simpa using hk) (fun j hj=>hb (j+1) (by omega)) h
   simp only [KQ,h0,ih,Bool.false_eq_true,if_false]
   rw [if_neg (by omega)]; omega
theorem O9 {α:Type} (p:α→Bool) : ∀ (xs:List α),(∀ (j:Nat) (hj:j < xs.length),p xs[j]=false)→KQ p xs = -1
 | [],_=>rfl
 | x :: r,hb=>by
   have h0:p x=false:=hb 0 (by simp)
   have ih:=O9 p r (fun j hj=>hb (j+1) (by simpa using hj))
   simp [KQ,h0,ih]
theorem TT {α:Type} (p:α→Bool) : ∀ xs:List α,decide (KQ p xs≥0)=xs.any p
 | []=>rfl
 | x :: r=>by
   have ih:=TT p r
   rw [List.any_cons,← ih]
   rcases Bool.eq_false_or_eq_true (p x) with hx | hx
   ·have h1:KQ p (x :: r)=0:=by simp [KQ,hx]
    rw [h1,hx]; rfl
   ·have h1:KQ p (x :: r)=if KQ p r < 0 then -1 else KQ p r+1:=by simp [KQ,hx]
    rw [h1,hx,Bool.false_or]
    by_cases h:KQ p r < 0
    ·rw [if_pos h,decide_eq_false (by omega),decide_eq_false (by omega)]
    ·rw [if_neg h,decide_eq_true (by omega),decide_eq_true (by omega)]
theorem ACG {α:Type} (p:α→Bool) : ∀ (xs:List α),0≤KQ p xs→∃ k,∃ hk:k < xs.length,KQ p xs=(k:Nat)∧p xs[k]=true∧∀ (j:Nat) (hj:j < k),p (xs[j]'(by omega))=false
 | [],h=>by simp [KQ] at h
 | x :: r,h=>by
   cases hx:p x with
   | true=>exact ⟨0,by simp,by simp [KQ,hx],hx,fun j hj=>absurd hj (by omega)⟩
   | false =>
     have h1:KQ p (x :: r)=if KQ p r < 0 then -1 else KQ p r+1:=by simp [KQ,hx]
     rw [h1] at h ⊢
     split at h
     ·omega
     ·rename_i hn
      rw [if_neg hn]
      obtain ⟨k,hk,e1,e2,e3⟩:=ACG p r (by omega)
      refine ⟨k+1,by simpa using hk,by omega,e2,fun j hj => ?_⟩
      cases j with
      | zero=>exact hx
      | succ j=>exact e3 j (by omega)
theorem AOI {α:Type} (p:α→Bool) (xs:List α) (h:KQ p xs < 0) : ∀ x∈xs,p x=false:=by
 intro x hx
 have:=TT p xs
 rw [decide_eq_false (by omega)] at this
 have:=List.any_eq_false.1 this.symm x hx
 simpa using this
theorem AEG (G:Nat→AV) (xs:List Vr) (m:SM) (fid:FuncId) (caps:List AV) (p:Vr→Bool) (h:Hp) (hn:xs.length≤1099511627776) (hf : ∀ x∈xs,PCall (En G) fid ([.agg (GH x)] ++ caps) h (.bool (p x))) :
  PCall (En G) 158 [.sl m 4 (xs.map GH),.fn (.func fid) [] caps] h (.int .i64 (KQ p xs)):=by
 refine acN Tryz.func158 rfl ?_
 show awp _ _ _ _ _ (EN _ [.tmp 4] _)
 simp -implicitDefEqProofs only [BB,CE,A8,A7,AZ,BA,AO,AQ,AL,BD,AY,AC,AA,AX,AU,BH,BJ,BC,FP,AB,BF,↓reduceIte,jA,jB,jC,enX,enP,RH,jR]
 refine EG (fun n F H => ∃ k,n+k=xs.length∧(∀ (j:Nat) (hj:j < k) (hl:j < xs.length),p xs[j]=false)∧F 0 = .sl m 4 (xs.map GH)∧F 1 = .fn (.func fid) [] caps∧F 7 = .int .i64 (xs.length:Nat)∧F 8 = .int .i64 (k:Nat)∧H=h) xs.length ⟨0,by simp,fun j hj=>absurd hj (by omega),by simp -implicitDefEqProofs only [AA,BF,↓reduceIte,jA],by simp -implicitDefEqProofs only [AA,BF,BQ,↓reduceIte,jA],by simp -implicitDefEqProofs only [AA,↓reduceIte,jA],by simp -implicitDefEqProofs only [AA,↓reduceIte]; rfl,rfl⟩ ?_
 rintro n F H ⟨k,hk,hb,f0,f1,f7,f8,rfl⟩
 simp -implicitDefEqProofs only [BB,A8,BI,A7,AZ,BA,AO,AQ,AL,BD,AY,AC,AA,AX,BU,AB,DV,↓reduceIte,jB,jC,enP,f7,f8]
 refine CQ (fun hc => ?_) (fun hc => ?_)
 ·have hk':k < xs.length:=by simpa using hc
  simp -implicitDefEqProofs only [BB,CE,A8,BR,A7,AZ,BA,AO,AQ,AL,BD,AY,AC,AA,AX,BJ,BC,BO,CG,BV,BP,AB,jF,jD,zJ,zV,↓reduceIte,jA,jB,jC,enP,VE,f0,f1,f8,EX hk',EU A1P APR ACU hk']
  refine (hf _ (jT hk')).use ?_
  simp -implicitDefEqProofs only [BI,A7,BA,AC,AA,AX,↓reduceIte]
  refine CQ (fun hp => ?_) (fun hp => ?_)
  ·simp -implicitDefEqProofs only [BB,A8,BK,A7,CJ,D8,F9,CV,AZ,BA,AO,AQ,AL,BD,AY,AC,AA,AX,BJ,BC,↓reduceIte,jA,jB,jC,f8]
   exact ⟨by rw [QA p xs k hk' (fun j hj=>hb j hj (by omega)) hp],trivial⟩
  ·simp -implicitDefEqProofs only [A8,BR,A7,EO,FO,AZ,BA,AO,AQ,AL,BD,AY,AC,AA,AX,AU,BH,BJ,BU,AB,D6,↓reduceIte,jA,jB,jC,enP,f8,wrap_succ (show k < 9223372036854775807 by omega)]
   refine ⟨n - 1,by omega,k+1,by omega,fun j hj hl => ?_,by trivial,by trivial,by trivial,rfl,trivial⟩
   rcases jV j k with h1 | h1
   ·exact hb j h1 hl
   ·obtain rfl:j=k:=by omega
    exact hp
 ·simp -implicitDefEqProofs only [BB,A8,BK,EF,A7,FC,F6,F8,CV,AZ,BA,AO,AQ,AL,BD,AY,AC,AA,AU,BH,BC,↓reduceIte,jB,jC]
  have hk' : ¬ k < xs.length:=by simpa using hc
  exact ⟨by rw [O9 p xs fun j hj=>hb j (by omega) hj],trivial⟩
theorem AUT (G:Nat→AV) (xs:List Vr) (m:SM) (fid:FuncId) (caps:List AV) (p:Vr→Bool) (h:Hp) (hn:xs.length≤1099511627776) (hf : ∀ x∈xs,PCall (En G) fid ([.agg (GH x)] ++ caps) h (.bool (p x))) :
  PCall (En G) 105 [.sl m 4 (xs.map GH),.fn (.func fid) [] caps] h (.bool (xs.any p)):=by
 refine acN Tryz.func105 rfl ?_
 show awp _ _ _ _ _ (EN _ [.tmp 4] _)
 simp -implicitDefEqProofs only [BB,A8,A7,AZ,BA,AO,AQ,AL,BD,AY,AC,AA,AX,AU,BN,BM,BJ,BC,BV,BP,BF,BQ,jF,jD,jE,↓reduceIte,jA,jB,jC,enX,enP]
 refine (AEG G xs m fid caps p h hn hf).use ?_
 simp -implicitDefEqProofs only [BK,A7,CV,AZ,BA,AO,AQ,AL,BD,AY,AC,AA,AX,AU,BH,BC,BU,AB,FV,↓reduceIte,jB,jC,enP,TT]
 exact ⟨trivial,trivial⟩
theorem AKG (G:Nat→AV) (xs:List Ds) (m:SM) (fid:FuncId) (caps:List AV) (p:Ds→Bool) (h:Hp) (hn:xs.length≤1099511627776) (hf : ∀ x∈xs,PCall (En G) fid ([.agg (JE x)] ++ caps) h (.bool (p x))) :
  PCall (En G) 163 [.sl m 2 (xs.map JE),.fn (.func fid) [] caps] h (.int .i64 (KQ p xs)):=by
 refine acN Tryz.func163 rfl ?_
 show awp _ _ _ _ _ (EN _ [.tmp 4] _)
 simp -implicitDefEqProofs only [BB,CE,A8,A7,AZ,BA,AO,AQ,AL,BD,AY,AC,AA,AX,AU,BH,BJ,BC,FP,AB,BF,↓reduceIte,jA,jB,jC,enX,enP,AQN,jR]
 refine EG (fun n F H => ∃ k,n+k=xs.length∧(∀ (j:Nat) (hj:j < k) (hl:j < xs.length),p xs[j]=false)∧F 0 = .sl m 2 (xs.map JE)∧F 1 = .fn (.func fid) [] caps∧F 7 = .int .i64 (xs.length:Nat)∧F 8 = .int .i64 (k:Nat)∧H=h) xs.length ⟨0,by simp,fun j hj=>absurd hj (by omega),by simp -implicitDefEqProofs only [AA,BF,↓reduceIte,jA],by simp -implicitDefEqProofs only [AA,BF,BQ,↓reduceIte,jA],by simp -implicitDefEqProofs only [AA,↓reduceIte,jA],by simp -implicitDefEqProofs only [AA,↓reduceIte]; rfl,rfl⟩ ?_
 rintro n F H ⟨k,hk,hb,f0,f1,f7,f8,rfl⟩
 simp -implicitDefEqProofs only [BB,A8,BI,A7,AZ,BA,AO,AQ,AL,BD,AY,AC,AA,AX,BU,AB,DV,↓reduceIte,jB,jC,enP,f7,f8]
 refine CQ (fun hc => ?_) (fun hc => ?_)
 ·have hk':k < xs.length:=by simpa using hc
  simp -implicitDefEqProofs only [BB,CE,A8,BR,A7,AZ,BA,AO,AQ,AL,BD,AY,AC,AA,AX,BJ,BC,BO,CG,BV,BP,AB,jF,jD,zJ,zV,↓reduceIte,jA,jB,jC,enP,ACE,f0,f1,f8,EX hk',EU AST AG5 V6 hk']
  refine (hf _ (jT hk')).use ?_
  simp -implicitDefEqProofs only [BI,A7,BA,AC,AA,AX,↓reduceIte]
  refine CQ (fun hp => ?_) (fun hp => ?_)
  ·simp -implicitDefEqProofs only [BB,A8,BK,A7,CJ,D8,F9,CV,AZ,BA,AO,AQ,AL,BD,AY,AC,AA,AX,BJ,BC,↓reduceIte,jA,jB,jC,f8]
   exact ⟨by rw [QA p xs k hk' (fun j hj=>hb j hj (by omega)) hp],trivial⟩
  ·simp -implicitDefEqProofs only [A8,BR,A7,EO,FO,AZ,BA,AO,AQ,AL,BD,AY,AC,AA,AX,AU,BH,BJ,BU,AB,D6,↓reduceIte,jA,jB,jC,enP,f8,wrap_succ (show k < 9223372036854775807 by omega)]
   refine ⟨n - 1,by omega,k+1,by omega,fun j hj hl => ?_,by trivial,by trivial,by trivial,rfl,trivial⟩
   rcases jV j k with h1 | h1
   ·exact hb j h1 hl
   ·obtain rfl:j=k:=by omega
    exact hp
 ·simp -implicitDefEqProofs only [BB,A8,BK,EF,A7,FC,F6,F8,CV,AZ,BA,AO,AQ,AL,BD,AY,AC,AA,AU,BH,BC,↓reduceIte,jB,jC]
  have hk' : ¬ k < xs.length:=by simpa using hc
  exact ⟨by rw [O9 p xs fun j hj=>hb j (by omega) hj],trivial⟩
theorem AQ7 (G:Nat→AV) (xs:List Ds) (m:SM) (fid:FuncId) (caps:List AV) (p:Ds→Bool) (h:Hp) (hn:xs.length≤1099511627776) (hf : ∀ x∈xs,PCall (En G) fid ([.agg (JE x)] ++ caps) h (.bool (p x))) :
  PCall (En G) 114 [.sl m 2 (xs.map JE),.fn (.func fid) [] caps] h (.bool (xs.any p)):=by
 refine acN Tryz.func114 rfl ?_
 show awp _ _ _ _ _ (EN _ [.tmp 4] _)
 simp -implicitDefEqProofs only [BB,A8,A7,AZ,BA,AO,AQ,AL,BD,AY,AC,AA,AX,AU,BN,BM,BJ,BC,BV,BP,BF,BQ,jF,jD,jE,↓reduceIte,jA,jB,jC,enX,enP]
 refine (AKG G xs m fid caps p h hn hf).use ?_
 simp -implicitDefEqProofs only [BK,A7,CV,AZ,BA,AO,AQ,AL,BD,AY,AC,AA,AX,AU,BH,BC,BU,AB,FV,↓reduceIte,jB,jC,enP,TT]
 exact ⟨trivial,trivial⟩
theorem AQ5 (G:Nat→AV) (xs:List Wg) (m:SM) (fid:FuncId) (caps:List AV) (p:Wg→Bool) (h:Hp) (hn:xs.length≤1099511627776) (hf : ∀ x∈xs,PCall (En G) fid ([.agg (JA x)] ++ caps) h (.bool (p x))) :
  PCall (En G) 196 [.sl m 4 (xs.map JA),.fn (.func fid) [] caps] h (.int .i64 (KQ p xs)):=by
 refine acN Tryz.func196 rfl ?_
 show awp _ _ _ _ _ (EN _ [.tmp 4] _)
 simp -implicitDefEqProofs only [BB,CE,A8,A7,AZ,BA,AO,AQ,AL,BD,AY,AC,AA,AX,AU,BH,BJ,BC,FP,AB,BF,↓reduceIte,jA,jB,jC,enX,enP,AN7,jR]
 refine EG (fun n F H => ∃ k,n+k=xs.length∧(∀ (j:Nat) (hj:j < k) (hl:j < xs.length),p xs[j]=false)∧F 0 = .sl m 4 (xs.map JA)∧F 1 = .fn (.func fid) [] caps∧F 7 = .int .i64 (xs.length:Nat)∧F 8 = .int .i64 (k:Nat)∧H=h) xs.length ⟨0,by simp,fun j hj=>absurd hj (by omega),by simp -implicitDefEqProofs only [AA,BF,↓reduceIte,jA],by simp -implicitDefEqProofs only [AA,BF,BQ,↓reduceIte,jA],by simp -implicitDefEqProofs only [AA,↓reduceIte,jA],by simp -implicitDefEqProofs only [AA,↓reduceIte]; rfl,rfl⟩ ?_
 rintro n F H ⟨k,hk,hb,f0,f1,f7,f8,rfl⟩
 simp -implicitDefEqProofs only [BB,A8,BI,A7,AZ,BA,AO,AQ,AL,BD,AY,AC,AA,AX,BU,AB,DV,↓reduceIte,jB,jC,enP,f7,f8]
 refine CQ (fun hc => ?_) (fun hc => ?_)
 ·have hk':k < xs.length:=by simpa using hc
  simp -implicitDefEqProofs only [BB,CE,A8,BR,A7,AZ,BA,AO,AQ,AL,BD,AY,AC,AA,AX,BJ,BC,BO,CG,BV,BP,AB,jF,jD,zJ,zV,↓reduceIte,jA,jB,jC,enP,AUO,f0,f1,f8,EX hk',EU AVT ANI TV hk']
  refine (hf _ (jT hk')).use ?_
  simp -implicitDefEqProofs only [BI,A7,BA,AC,AA,AX,↓reduceIte]
  refine CQ (fun hp => ?_) (fun hp => ?_)
  ·simp -implicitDefEqProofs only [BB,A8,BK,A7,CJ,D8,F9,CV,AZ,BA,AO,AQ,AL,BD,AY,AC,AA,AX,BJ,BC,↓reduceIte,jA,jB,jC,f8]
   exact ⟨by rw [QA p xs k hk' (fun j hj=>hb j hj (by omega)) hp],trivial⟩
  ·simp -implicitDefEqProofs only [A8,BR,A7,EO,FO,AZ,BA,AO,AQ,AL,BD,AY,AC,AA,AX,AU,BH,BJ,BU,AB,D6,↓reduceIte,jA,jB,jC,enP,f8,wrap_succ (show k < 9223372036854775807 by omega)]
   refine ⟨n - 1,by omega,k+1,by omega,fun j hj hl => ?_,by trivial,by trivial,by trivial,rfl,trivial⟩
   rcases jV j k with h1 | h1
   ·exact hb j h1 hl
   ·obtain rfl:j=k:=by omega
    exact hp
 ·simp -implicitDefEqProofs only [BB,A8,BK,EF,A7,FC,F6,F8,CV,AZ,BA,AO,AQ,AL,BD,AY,AC,AA,AU,BH,BC,↓reduceIte,jB,jC]
  have hk' : ¬ k < xs.length:=by simpa using hc
  exact ⟨by rw [O9 p xs fun j hj=>hb j (by omega) hj],trivial⟩
theorem AXY (G:Nat→AV) (xs:List Wg) (m:SM) (fid:FuncId) (caps:List AV) (p:Wg→Bool) (h:Hp) (hn:xs.length≤1099511627776) (hf : ∀ x∈xs,PCall (En G) fid ([.agg (JA x)] ++ caps) h (.bool (p x))) :
  PCall (En G) 164 [.sl m 4 (xs.map JA),.fn (.func fid) [] caps] h (.bool (xs.any p)):=by
 refine acN Tryz.func164 rfl ?_
 show awp _ _ _ _ _ (EN _ [.tmp 4] _)
 simp -implicitDefEqProofs only [BB,A8,A7,AZ,BA,AO,AQ,AL,BD,AY,AC,AA,AX,AU,BN,BM,BJ,BC,BV,BP,BF,BQ,jF,jD,jE,↓reduceIte,jA,jB,jC,enX,enP]
 refine (AQ5 G xs m fid caps p h hn hf).use ?_
 simp -implicitDefEqProofs only [BK,A7,CV,AZ,BA,AO,AQ,AL,BD,AY,AC,AA,AX,AU,BH,BC,BU,AB,FV,↓reduceIte,jB,jC,enP,TT]
 exact ⟨trivial,trivial⟩
theorem AZ9 {h:Hp} {xs:List ByteArray} {k:Nat} (hk:k < xs.length):DR Tryz.prog h 9 (.fptr 1 (xs.map encStr) k 0)=some (.str xs[k]):=by rw [IC ag9 hk]; rfl
theorem AOE (G:Nat→AV) (xs:List ByteArray) (m:SM) (fid:FuncId) (caps:List AV) (p:ByteArray→Bool) (h:Hp) (hn:xs.length≤1099511627776) (hf : ∀ x∈xs,PCall (En G) fid ([.str x] ++ caps) h (.bool (p x))) :
  PCall (En G) 162 [.sl m 1 (xs.map encStr),.fn (.func fid) [] caps] h (.int .i64 (KQ p xs)):=by
 refine acN Tryz.func162 rfl ?_
 show awp _ _ _ _ _ (EN _ [.tmp 4] _)
 simp -implicitDefEqProofs only [BB,CE,A8,A7,AZ,BA,AO,AQ,AL,BD,AY,AC,AA,AX,AU,BH,BJ,BC,FP,AB,BF,↓reduceIte,jA,jB,jC,enX,enP,AAN,jR]
 refine EG (fun n F H => ∃ k,n+k=xs.length∧(∀ (j:Nat) (hj:j < k) (hl:j < xs.length),p xs[j]=false)∧F 0 = .sl m 1 (xs.map encStr)∧F 1 = .fn (.func fid) [] caps∧F 7 = .int .i64 (xs.length:Nat)∧F 8 = .int .i64 (k:Nat)∧H=h) xs.length ⟨0,by simp,fun j hj=>absurd hj (by omega),by simp -implicitDefEqProofs only [AA,BF,↓reduceIte,jA],by simp -implicitDefEqProofs only [AA,BF,BQ,↓reduceIte,jA],by simp -implicitDefEqProofs only [AA,↓reduceIte,jA],by simp -implicitDefEqProofs only [AA,↓reduceIte]; rfl,rfl⟩ ?_
 rintro n F H ⟨k,hk,hb,f0,f1,f7,f8,rfl⟩
 simp -implicitDefEqProofs only [BB,A8,BI,A7,AZ,BA,AO,AQ,AL,BD,AY,AC,AA,AX,BU,AB,DV,↓reduceIte,jB,jC,enP,f7,f8]
 refine CQ (fun hc => ?_) (fun hc => ?_)
 ·have hk':k < xs.length:=by simpa using hc
  simp -implicitDefEqProofs only [BB,CE,A8,BR,A7,AZ,BA,AO,AQ,AL,BD,AY,AC,AA,AX,BJ,BC,BO,CG,BV,BP,AB,jF,jD,zJ,zV,↓reduceIte,jA,jB,jC,enP,AH2,f0,f1,f8,EX hk',AZ9 hk']
  refine (hf _ (jT hk')).use ?_
  simp -implicitDefEqProofs only [BI,A7,BA,AC,AA,AX,↓reduceIte]
  refine CQ (fun hp => ?_) (fun hp => ?_)
  ·simp -implicitDefEqProofs only [BB,A8,BK,A7,CJ,D8,F9,CV,AZ,BA,AO,AQ,AL,BD,AY,AC,AA,AX,BJ,BC,↓reduceIte,jA,jB,jC,f8]
   exact ⟨by rw [QA p xs k hk' (fun j hj=>hb j hj (by omega)) hp],trivial⟩
  ·simp -implicitDefEqProofs only [A8,BR,A7,EO,FO,AZ,BA,AO,AQ,AL,BD,AY,AC,AA,AX,AU,BH,BJ,BU,AB,D6,↓reduceIte,jA,jB,jC,enP,f8,wrap_succ (show k < 9223372036854775807 by omega)]
   refine ⟨n - 1,by omega,k+1,by omega,fun j hj hl => ?_,by trivial,by trivial,by trivial,rfl,trivial⟩
   rcases jV j k with h1 | h1
   ·exact hb j h1 hl
   ·obtain rfl:j=k:=by omega
    exact hp
 ·simp -implicitDefEqProofs only [BB,A8,BK,EF,A7,FC,F6,F8,CV,AZ,BA,AO,AQ,AL,BD,AY,AC,AA,AU,BH,BC,↓reduceIte,jB,jC]
  have hk' : ¬ k < xs.length:=by simpa using hc
  exact ⟨by rw [O9 p xs fun j hj=>hb j (by omega) hj],trivial⟩
theorem AUU (G:Nat→AV) (xs:List ByteArray) (m:SM) (fid:FuncId) (caps:List AV) (p:ByteArray→Bool) (h:Hp) (hn:xs.length≤1099511627776) (hf : ∀ x∈xs,PCall (En G) fid ([.str x] ++ caps) h (.bool (p x))) :
  PCall (En G) 110 [.sl m 1 (xs.map encStr),.fn (.func fid) [] caps] h (.bool (xs.any p)):=by
 refine acN Tryz.func110 rfl ?_
 show awp _ _ _ _ _ (EN _ [.tmp 4] _)
 simp -implicitDefEqProofs only [BB,A8,A7,AZ,BA,AO,AQ,AL,BD,AY,AC,AA,AX,AU,BN,BM,BJ,BC,BV,BP,BF,BQ,jF,jD,jE,↓reduceIte,jA,jB,jC,enX,enP]
 refine (AOE G xs m fid caps p h hn hf).use ?_
 simp -implicitDefEqProofs only [BK,A7,CV,AZ,BA,AO,AQ,AL,BD,AY,AC,AA,AX,AU,BH,BC,BU,AB,FV,↓reduceIte,jB,jC,enP,TT]
 exact ⟨trivial,trivial⟩
def dgS (k:Nat):ByteArray:=⟨#[UInt8.ofNat (48+k)]⟩
def AWN:ByteArray:=⟨#[48,49,50,51,52,53,54,55,56,57,97,98,99,100,101,102,103,104,105,106,107,108,109,110,111,112,113,114,115,116,117,118,119,120,121,122]⟩
theorem sl36 : ∀ (k:Nat),k < 8→∀ h:Hp,LD Tryz.prog h 9 (.str AWN) (some (.int .i64 (k:Nat))) (some (.int .i64 ((k+1:Nat):Int))) none=some (.str (dgS k))
 | 0,_,h=>by kernel_rfl
 | 1,_,h=>by kernel_rfl
 | 2,_,h=>by kernel_rfl
 | 3,_,h=>by kernel_rfl
 | 4,_,h=>by kernel_rfl
 | 5,_,h=>by kernel_rfl
 | 6,_,h=>by kernel_rfl
 | 7,_,h=>by kernel_rfl
 | n+8,q,_=>absurd q (by omega)
theorem AJR (G:Nat→AV) (k:Nat) (hk:k < 8) (h:Hp):PCall (En G) 222 [.int .i64 (k:Nat)] h (.str (dgS k)):=by
 refine acN Tryz.func222 rfl ?_
 show awp _ _ _ _ _ (EN _ [.tmp 2] _)
 have hd:decide (((k:Nat):Int) < 10)=true:=by simp; omega
 have:=sl36 k hk h
 unfold AWN at this
 simp -implicitDefEqProofs only [qP,Option.map_none,BB,A8,BK,BI,A7,CJ,CV,DI,AZ,BA,AO,AQ,AL,BD,AY,AC,AA,AX,AU,BH,IB,BJ,BC,BU,OG,AB,D6,DV,BF,↓reduceIte,jA,jB,jC,enX,enP,hd,wrap_succ (show k < 9223372036854775807 by omega),this]
 exact ⟨trivial,trivial⟩
theorem AO1 (G:Nat→AV) (k:Nat) (hk:k < 8) (h:Hp):PCall (En G) 192 [.int .i64 (k:Nat)] h (.str (dgS k)):=by
 have h1:PCall (En G) 219 [.int .i64 (k:Nat),.int .i64 10] h (.str (dgS k)):=by
  refine acN Tryz.func219 rfl ?_
  show awp _ _ _ _ _ (EN _ [.tmp 4] _)
  have d1:((10:Int) == 10)=true:=rfl
  have d2:decide ((0:Int)≤((k:Nat):Int))=true:=by simp
  have d3:decide (((k:Nat):Int) < 100)=true:=by simp; omega
  simp -implicitDefEqProofs only [BB,A8,BI,A7,DI,AZ,BA,BL,BX,CO,GL,AO,AQ,AL,BD,AY,AC,AA,AX,AU,BN,BH,BM,IB,BJ,BC,CP,DW,BU,BV,BP,AB,CX,DV,IR,BF,BQ,jF,jD,jE,↓reduceIte,jA,jB,jC,enX,enP,d1,d2,d3]
  refine (AJR G k hk h).use ?_
  simp -implicitDefEqProofs only [BK,A7,CJ,CV,AZ,BA,AO,AQ,AL,BD,AY,AC,AA,AX,BC,↓reduceIte,jB,jC]
  exact ⟨trivial,trivial⟩
 have h2:PCall (En G) 207 [.int .i64 (k:Nat)] h (.str (dgS k)):=by
  refine acN Tryz.func207 rfl ?_
  show awp _ _ _ _ _ (EN _ [.tmp 2] _)
  simp -implicitDefEqProofs only [BB,A8,A7,AZ,BA,AO,AQ,AL,BD,AY,AC,AA,AX,AU,BN,BH,IB,BJ,BC,BV,BP,BF,jF,jD,jE,↓reduceIte,jA,jB,jC,enX,enP]
  refine h1.use ?_
  simp -implicitDefEqProofs only [BK,A7,CV,AZ,BA,AO,AQ,AL,BD,AY,AC,AA,AX,BC,↓reduceIte,jB,jC]
  exact ⟨trivial,trivial⟩
 refine acN Tryz.func192 rfl ?_
 show awp _ _ _ _ _ (EN _ [.tmp 2] _)
 simp -implicitDefEqProofs only [BB,A8,A7,AZ,BA,AO,AQ,AL,BD,AY,AC,AA,AX,AU,BN,IB,BJ,BC,BV,BP,BF,jF,jD,jE,↓reduceIte,jA,jB,jC,enX,enP]
 refine h2.use ?_
 simp -implicitDefEqProofs only [BK,A7,CV,AZ,BA,AO,AQ,AL,BD,AY,AC,AA,AX,BC,↓reduceIte,jB,jC]
 exact ⟨trivial,trivial⟩
theorem AOS (G:Nat→AV) (k:Nat) (hk:k < 8) (h:Hp):PCall (En G) 200 [.int .i64 (k:Nat)] h (.int .i64 (-(k:Int))):=by
 refine acN Tryz.func200 rfl ?_
 show awp _ _ _ _ _ (EN _ [.tmp 2] _)
 simp -implicitDefEqProofs only [BB,A8,BI,A7,AZ,BA,AO,AQ,AL,BD,AY,AC,AA,AX,AU,BH,BJ,BC,BU,AB,FM,BF,↓reduceIte,jA,jB,jC,enX,enP]
 refine CQ (fun hc => ?_) (fun hc => ?_)
 ·have e:IntKind.i64.wrap (0 - ((k:Nat):Int)) = -(k:Int):=by rw [wrap_i64 (by omega) (by omega)]; omega
  simp -implicitDefEqProofs only [BB,A8,BK,A7,CJ,CV,AZ,BA,AO,AQ,AL,BD,AY,AC,AA,AX,BJ,BC,JG,AB,AWZ,BF,↓reduceIte,jA,jB,jC,e]
  exact ⟨trivial,trivial⟩
 ·have e:((k:Nat):Int) = -(k:Int):=by
   have : ¬ ((k:Nat):Int) > 0:=by simpa using hc
   omega
  simp -implicitDefEqProofs only [BB,A8,BR,BK,A7,CV,AZ,BA,AO,AQ,AL,BD,AY,AC,AA,AX,BJ,BC,BF,↓reduceIte,jA,jB,jC]
  exact ⟨by rw [← e],trivial⟩
theorem ALK (G:Nat→AV) (k:Nat) (hk:k < 8) (h:Hp):PCall (En G) 169 [.int .i64 (k:Nat)] h (.str (dgS k)):=by
 refine acN Tryz.func169 rfl ?_
 show awp _ _ _ _ _ (EN _ [.tmp 2] _)
 simp -implicitDefEqProofs only [BB,A8,A7,AZ,BA,AO,AQ,AL,BD,AY,AC,AA,AX,AU,BN,IB,BJ,BC,BV,BP,BF,jF,jD,jE,↓reduceIte,jA,jB,jC,enX,enP]
 refine (AOS G k hk h).use ?_
 simp -implicitDefEqProofs only [BB,CE,A7,AZ,BA,AO,AQ,AL,BD,AY,AC,AA,AX,BC,↓reduceIte,jB,jC]
 refine EG (fun n F H=>n=0∧F 0 = .int .i64 (k:Nat)∧F 3 = .str ⟨#[]⟩∧F 4 = .int .i64 (-(k:Int))∧H=h) 0 ⟨rfl,by simp -implicitDefEqProofs only [AA,BF,↓reduceIte,jA],by simp -implicitDefEqProofs only [AA,↓reduceIte,jA],by simp -implicitDefEqProofs only [AA,↓reduceIte],rfl⟩ ?_
 rintro n F H ⟨rfl,f0,f3,f4,rfl⟩
 have e1:(-(k:Int)).tmod 10 = -(k:Int):=by
  rw [Int.neg_tmod,Int.tmod_eq_emod_of_nonneg (by omega)]; omega
 have e2:(-(k:Int)).tdiv 10=0:=by
  rw [Int.neg_tdiv,Int.tdiv_eq_ediv_of_nonneg (by omega)]; omega
 have e3:(48:Int) - -(k:Int)=48+(k:Int):=by omega
 have r1:IE Tryz.prog 3 .rem (.int .i64 (-(k:Int))) (.int .i64 10)=some (.int .i64 (-(k:Int))):=by rw [UY _ _ _ _ _ (by decide),e1]
 have r2:IE Tryz.prog 3 .quo (.int .i64 (-(k:Int))) (.int .i64 10)=some (.int .i64 0):=by rw [AM4 _ _ _ _ _ (by decide),e2]; rfl
 have a1:IE Tryz.prog 9 .add (.str (dgS k)) (.str ⟨#[]⟩)=some (.str (dgS k)):=by
  rw [RZ (by show 1+0≤_; omega)]
  congr 2
 have z:((0:Int) == 0)=true:=rfl
 have dc:=ARZ k hk
 change _=some (AV.str (dgS k)) at dc
 have n0:decide (((k:Nat):Int) < 0)=false:=by simp
 simp -implicitDefEqProofs only [ER,EP,BB,CE,A8,BR,BK,EF,BI,A7,F6,F8,CV,DI,DN,AZ,BA,AO,AQ,AL,BD,AY,AC,AA,AX,AU,BH,BJ,BC,GR,BU,QF,CB,AB,II,CX,DV,↓reduceIte,jA,jB,jC,enP,A0R,f0,f3,f4,r1,r2,e3,A00,dc,a1,z,n0]
 exact ⟨trivial,trivial⟩
theorem A04 (a:ByteArray) (k:Nat) (ha:a.size≤1048576):IE Tryz.prog 9 .add (.str a) (.str ⟨#[91]⟩)=some (.str (a ++ (⟨#[91]⟩:ByteArray)))∧IE Tryz.prog 9 .add (.str (a ++ (⟨#[91]⟩:ByteArray))) (.str (dgS k))=some (.str (a ++ (⟨#[91]⟩:ByteArray) ++ dgS k)) ∧
  IE Tryz.prog 9 .add (.str (a ++ (⟨#[91]⟩:ByteArray) ++ dgS k)) (.str ⟨#[93]⟩)=some (.str (elN a k)) :=
 ⟨RZ (by show a.size+1≤_; omega),RZ (by rw [WP]; show a.size+1+1≤_; omega),RZ (by rw [WP,WP]; show a.size+1+1+1≤_; omega)⟩
theorem ZY (G:Nat→AV) (a:ByteArray) (k:Nat) (hk:k < 8) (h:Hp) (ha:a.size≤1048576):PCall (En G) 157 [.str a,.int .i64 (k:Nat)] h (.str (elN a k)):=by
 refine acN Tryz.func157 rfl ?_
 show awp _ _ _ _ _ (EN _ [.tmp 4] _)
 obtain ⟨b1,b2,b3⟩:=A04 a k ha
 simp -implicitDefEqProofs only [BB,A8,A7,AZ,BA,AO,AQ,AL,BD,AY,AC,AA,AX,AU,BN,IB,BJ,BC,BU,BV,BP,AB,BF,BQ,jF,jD,jE,↓reduceIte,jA,jB,jC,enX,enP,b1]
 refine (AO1 G k hk h).use ?_
 simp -implicitDefEqProofs only [BK,A7,CV,AZ,BA,AO,AQ,AL,BD,AY,AC,AA,AX,AU,IB,BC,BU,AB,↓reduceIte,jA,jB,jC,enP,b2,b3]
 exact ⟨trivial,trivial⟩
theorem ACV (G:Nat→AV) (a:ByteArray) (k:Nat) (hk:k < 8) (h:Hp) (ha:a.size≤1048576):PCall (En G) 127 [.str a,.int .i64 (k:Nat)] h (.str (elN a k)):=by
 refine acN Tryz.func127 rfl ?_
 show awp _ _ _ _ _ (EN _ [.tmp 4] _)
 obtain ⟨b1,b2,b3⟩:=A04 a k ha
 simp -implicitDefEqProofs only [BB,A8,A7,AZ,BA,AO,AQ,AL,BD,AY,AC,AA,AX,AU,BN,IB,BJ,BC,BU,BV,BP,AB,BF,BQ,jF,jD,jE,↓reduceIte,jA,jB,jC,enX,enP,b1]
 refine (ALK G k hk h).use ?_
 simp -implicitDefEqProofs only [BK,A7,CV,AZ,BA,AO,AQ,AL,BD,AY,AC,AA,AX,AU,IB,BC,BU,AB,↓reduceIte,jA,jB,jC,enP,b2,b3]
 exact ⟨trivial,trivial⟩
theorem RV (a:ByteArray) (k:Nat):(elN a k).data.toList=a.data.toList ++ [91,UInt8.ofNat (48+k),93]:=by
 unfold elN
 simp [ByteArray.data_append]
theorem ADB {a b:ByteArray} (h:a.data.toList=b.data.toList):a=b:=by
 obtain ⟨⟨x⟩⟩:=a
 obtain ⟨⟨y⟩⟩:=b
 have:x=y:=h
 rw [this]
theorem AI1 (a:ByteArray):(⟨a.data.toList.toArray⟩:ByteArray)=a:=by obtain ⟨⟨x⟩⟩:=a; rfl
theorem AGC {k:Nat} (hk:k < 8):(UInt8.ofNat (48+k)).toNat=48+k:=by
 rw [UInt8.toNat_ofNat']; omega
theorem AMS {a:ByteArray} {i j:Nat} (hi:i < 8) (hj:j < 8) (h:elN a i=elN a j):i=j:=by
 have:=congrArg (fun x=>x.data.toList) h
 simp only [RV,List.append_cancel_left_eq,List.cons.injEq,and_true,true_and] at this
 have:=congrArg UInt8.toNat this
 rw [AGC hi,AGC hj] at this
 omega
theorem AEP {a:ByteArray} {k:Nat} (hk:k < 8) (hn:IQ a=true):J9 (elN a k)=some (a.data.toList,UInt8.ofNat (48+k)):=by
 have h1:elN a k=⟨(a.data.toList ++ [91,UInt8.ofNat (48+k),93]).toArray⟩:=ADB (RV a k)
 have hne:a.data.toList≠[]:=(SQ (l:=a.data.toList) (by rw [AI1]; exact hn)).1
 rw [h1,YW hne,AI1,hn,AGC hk]
 simp
 omega
theorem MR {s:ByteArray} {a:List UInt8} {d:UInt8} (h:J9 s=some (a,d)):48≤d.toNat∧d.toNat - 48 < 8∧IQ ⟨a.toArray⟩=true∧s=elN ⟨a.toArray⟩ (d.toNat - 48)∧a.length+3=s.size:=by
 unfold J9 at h
 split at h
 case isFalse=>cases h
 rename_i hl
 split at h
 case h_2=>cases h
 rename_i x d' y hm
 split at h
 case isFalse=>cases h
 rename_i hc
 cases h
 simp only [Bool.and_eq_true,beq_iff_eq,decide_eq_true_eq] at hc
 obtain ⟨⟨⟨⟨rfl,rfl⟩,c1⟩,c2⟩,c3⟩:=hc
 refine ⟨c1,by omega,c3,ADB ?_,?_⟩
 ·rw [RV]
  have e:UInt8.ofNat (48+(d.toNat - 48))=d:=by rw [show 48+(d.toNat - 48)=d.toNat by omega]; simp
  rw [e,← hm]
  simp
 ·have:s.size=s.data.toList.length:=(Array.length_toList (xs:=s.data)).symm
  rw [this,qG]; omega
theorem Z7 (a b:ByteArray):(a.toList == b.toList)=true↔a=b:=by
 rw [beq_iff_eq,ByteArray.toList_eq,ByteArray.toList_eq]
 exact ⟨ADB,fun h=>by rw [h]⟩
theorem AYN {a b:ByteArray} (h:a≠b):(a.toList == b.toList)=false:=by
 rw [← qM,Z7]; exact h
def JB (n:ByteArray) (v:Vr):Bool:=v.name.toList == n.toList
def plc (l:List Vr) (n:ByteArray):Int:=KQ (JB n) l
theorem A0I (G:Nat→AV) (v:Vr) (n:ByteArray) (c:Nat) (h:Hp) (hc:h[c]? = some (.live 1 [[.str n]])):PCall (En G) 159 ([.agg (GH v)] ++ [.ptr c 0 0]) h (.bool (JB n v)):=by
 refine ACalls.pure0 rfl ?_
 refine acN Tryz.func159 rfl ?_
 show awp _ _ _ _ _ (EN _ [.tmp 3] _)
 have hc':(h ++ [ABlk.live 4 [GH v]])[c]? = _:=DC hc
 simp -implicitDefEqProofs only [BB,A8,BK,A7,CV,AZ,BA,AO,AQ,AL,BD,AY,AC,AA,AX,AU,BM,BC,FQ,BO,BU,BG,CB,AB,KY,BF,BQ,zJ,zV,↓reduceIte,jA,jH,jB,jC,enP,PI,bxV,E5 ag9,ARV,I8 ag9 hc']
 exact ⟨rfl,_,rfl⟩
theorem index_prog (G:Nat→AV) (l:List Vr) (m:SM) (n:ByteArray) (h:Hp) (hl:l.length≤1099511627776):PCall (En G) 104 [.sl m 4 (l.map GH),.str n] h (.int .i64 (plc l n)):=by
 refine ACalls.pure0 rfl ?_
 refine acN Tryz.func104 rfl ?_
 show awp _ _ _ _ _ (EN _ [.tmp 4] _)
 simp -implicitDefEqProofs only [AVI,BB,A8,A7,AZ,BA,AO,AQ,AL,BD,AY,AC,AA,AX,AU,BN,BH,BJ,BC,FQ,JQ,BV,BP,CB,BF,BQ,jF,jD,jE,↓reduceIte,jA,jB,jC,enP]
 refine (AEG G l m 159 [.ptr h.length 0 0] (JB n) _ hl fun x _=>A0I G x n h.length _ (DF _ _)).use ?_
 simp -implicitDefEqProofs only [BK,A7,CV,AZ,BA,AO,AQ,AL,BD,AY,AC,AA,AX,BC,↓reduceIte,jB,jC]
 exact ⟨rfl,_,rfl⟩
theorem XP (G:Nat→AV) (l:List Vr) (m:SM) (n:ByteArray) (h:Hp) (hl:l.length≤1099511627776):PCall (En G) 84 [.sl m 4 (l.map GH),.str n] h (.int .i64 (plc l n)):=by
 refine acN Tryz.func84 rfl ?_
 show awp _ _ _ _ _ (EN _ [.tmp 4] _)
 simp -implicitDefEqProofs only [BB,CE,A8,A7,AZ,BA,AO,AQ,AL,BD,AY,AC,AU,BH,BC,jB,jC,enX,enP]
 refine EG (fun k F H => ∃ j,k+j=l.length∧(∀ (i:Nat) (hi:i < j) (hl:i < l.length),JB n l[i]=false)∧F 0 = .sl m 4 (l.map GH)∧F 1 = .str n∧F 5 = .int .i64 (j:Nat)∧H=h) l.length ⟨0,by simp,fun i hi=>absurd hi (by omega),by simp -implicitDefEqProofs only [AA,BF,↓reduceIte,jA],by simp -implicitDefEqProofs only [AA,BF,BQ,↓reduceIte,jA],by simp -implicitDefEqProofs only [AA,↓reduceIte]; rfl,rfl⟩ ?_
 rintro k F H ⟨j,hj,hb,f0,f1,f5,rfl⟩
 simp -implicitDefEqProofs only [BB,A8,BI,A7,AZ,BA,AO,AQ,AL,BD,AY,AC,AA,AX,BJ,BU,FP,AB,DV,↓reduceIte,jA,jB,jC,enP,RH,f0,f5,jR]
 refine CQ (fun hc => ?_) (fun hc => ?_)
 ·have hj':j < l.length:=by simpa using hc
  have l0:DR Tryz.prog H 9 (.fptr 4 (l.map GH) j 0)=some (.str l[j].name):=by rw [IC ag9 hj']; rfl
  simp -implicitDefEqProofs only [BB,CE,A8,BR,BI,A7,AZ,BA,AO,AQ,AL,BD,AY,AC,AA,AX,BJ,BO,BU,BG,CG,AB,KY,↓reduceIte,jA,jH,jB,jC,enP,VE,PI,f0,f1,f5,EX hj',l0]
  refine CQ (fun hp => ?_) (fun hp => ?_)
  ·simp -implicitDefEqProofs only [BB,A8,BK,A7,CJ,D8,F9,CV,AZ,BA,AO,AQ,AL,BD,AY,AC,AA,AX,BJ,BC,↓reduceIte,jA,jB,jC,f5]
   exact ⟨by rw [plc,QA (JB n) l j hj' (fun i hi=>hb i hi (by omega)) hp],trivial⟩
  ·simp -implicitDefEqProofs only [A8,BR,A7,EO,FO,AZ,BA,AO,AQ,AL,BD,AY,AC,AA,AX,AU,BH,BJ,BC,BU,AB,D6,↓reduceIte,jA,jB,jC,enP,f5,wrap_succ (show j < 9223372036854775807 by omega)]
   refine ⟨k - 1,by omega,j+1,by omega,fun i hi hl => ?_,by trivial,by trivial,rfl,trivial⟩
   rcases jV i j with h1 | h1
   ·exact hb i h1 hl
   ·obtain rfl:i=j:=by omega
    exact hp
 ·simp -implicitDefEqProofs only [BB,A8,BK,EF,A7,FC,F6,F8,CV,AZ,BA,AO,AQ,AL,BD,AY,AC,AA,AU,BH,BC,↓reduceIte,jB,jC]
  have hj' : ¬ j < l.length:=by simpa using hc
  exact ⟨by rw [plc,O9 (JB n) l fun i hi=>hb i (by omega) hi],trivial⟩
theorem AYD (s:ByteArray):(Lib.cut s.data.toList [91]).1.length≤s.size:=by
 have:=AMZ s.data.toList
 have e:s.data.toList.length=s.size:=Array.length_toList
 omega
theorem AJ2 (G:Nat→AV) (hG:GOk G) (s:ByteArray) (h:Hp) (hl:s.size≤1048576):PCall (En G) 103 [.str s] h (.bool (JF s)):=by
 refine acN Tryz.func103 rfl ?_
 show awp _ _ _ _ _ (EN _ [.tmp 2] _)
 simp -implicitDefEqProofs only [BB,A8,A7,AZ,BA,AO,AQ,AL,BD,AY,AC,AA,AX,AU,BN,BM,BJ,BC,BV,BP,BF,jF,jD,jE,↓reduceIte,jA,jB,jC,enX,enP]
 refine (P8 G hG.kw s h (by omega)).use ?_
 cases hn:IQ s
 case true =>
  simp -implicitDefEqProofs only [BB,A8,BK,BI,A7,CJ,CV,DI,AZ,BA,AO,AQ,AL,BD,AY,AC,AA,AX,AU,BM,BC,↓reduceIte,jB,jC]
  exact ⟨by unfold JF; rw [hn,qC],trivial⟩
 have hv:JF s=(J9 s).isSome:=by unfold JF; rw [hn,jM]
 rw [hv]
 clear hn hv
 simp -implicitDefEqProofs only [BB,A8,BR,BI,A7,DN,AZ,BA,AO,AQ,AL,BD,AY,AC,AA,AX,AU,BN,IB,BJ,BV,BP,BF,jF,jD,jE,↓reduceIte,jA,jB,jC]
 refine (AC1 G hG s h hl).use ?_
 have he:=ACW s
 have hal:=AYD s
 unfold cutV
 generalize Lib.cut s.data.toList [91]=c at he hal ⊢
 obtain ⟨a,b,f⟩:=c
 simp only at he hal
 simp -implicitDefEqProofs only [zB,zD,BB,A8,A7,AZ,BA,BL,BX,CO,AO,AQ,AL,BD,AY,AC,AA,AX,BJ,BC,JG,G8,JJ,AB,GG,↓reduceIte,jA,jB,jC]
 cases f
 ·simp -implicitDefEqProofs only [BB,A8,BK,BI,A7,CJ,CV,DI,AZ,BA,BL,BX,CO,F7,AO,AQ,AL,BD,AY,AC,AA,EQ,AX,AU,BM,BC,CP,DW,↓reduceIte,jA,jB,jC]
  exact ⟨by rw [he]; rfl,trivial⟩
 simp -implicitDefEqProofs only [BL,BX,CO,EY,AO,AQ,AL,BD,AY,AC,AA,AX,BN,BJ,BV,BP,jF,jD,jE,↓reduceIte,jA,jB,jW,jC]
 refine (P8 G hG.kw ⟨a.toArray⟩ h (by rw [szl]; omega)).use ?_
 simp -implicitDefEqProofs only [BI,A7,AZ,BA,BL,BX,CO,EY,AO,AQ,AL,BD,AY,AC,AA,AX,AU,BM,CP,DZ,JG,AB,GG,↓reduceIte,jA,jB,jC]
 cases hna:IQ ⟨a.toArray⟩
 ·simp -implicitDefEqProofs only [BB,A8,BK,A7,CJ,CV,DI,AZ,BA,AO,AQ,AL,BD,AY,AC,AA,AU,BM,BC,↓reduceIte,jB,jC]
  exact ⟨by rw [he,hna]; rfl,trivial⟩
 simp -implicitDefEqProofs only [BB,CE,A8,BR,A7,DN,AZ,BA,AO,AQ,AL,BD,AY,AC,AU,BH,BJ,jB,jW,jC]
 refine EG (fun n F H => ∃ k,n+k=8∧(∀ j,j < k→j < 8→s≠elN ⟨a.toArray⟩ j)∧F 0 = .str s∧F 3 = .str ⟨a.toArray⟩∧F 22 = .int .i64 (k:Nat)∧H=h) 8 ⟨0,by simp,fun j hj=>absurd hj (by omega),by simp -implicitDefEqProofs only [AA,BF,↓reduceIte,jA],by simp -implicitDefEqProofs only [AA,↓reduceIte,jA],by simp -implicitDefEqProofs only [AA,↓reduceIte]; rfl,rfl⟩ ?_
 rintro n F H ⟨k,hk,hb,f0,f3,f22,rfl⟩
 simp -implicitDefEqProofs only [BB,A8,BI,A7,AZ,BA,AO,AQ,AL,BD,AY,AC,AA,AX,AU,BH,BU,AB,DV,↓reduceIte,jB,jC,enP,f22]
 refine CQ (fun hc => ?_) (fun hc => ?_)
 ·have hk':k < 8:=by simp at hc; omega
  simp -implicitDefEqProofs only [BB,CE,A8,BR,A7,AZ,BA,AO,AQ,AL,BD,AY,AC,AA,AX,BN,BJ,BC,BV,BP,jF,jD,jE,↓reduceIte,jA,jB,jC,f0,f3,f22]
  refine (ZY G ⟨a.toArray⟩ k hk' H (by rw [szl]; omega)).use ?_
  simp -implicitDefEqProofs only [BI,A7,AZ,BA,AO,AQ,AL,BD,AY,AC,AA,AX,BU,AB,KY,↓reduceIte,jA,jB,jC,enP,f0]
  refine CQ (fun hp => ?_) (fun hp => ?_)
  ·simp -implicitDefEqProofs only [BB,A8,BK,A7,CJ,D8,F9,CV,AZ,BA,AO,AQ,AL,BD,AY,AC,AA,AU,BM,BC,↓reduceIte,jB,jC]
   exact ⟨by rw [(Z7 _ _).1 hp,AEP hk' hna]; rfl,trivial⟩
  ·simp -implicitDefEqProofs only [A8,BR,A7,EO,FO,AZ,BA,AO,AQ,AL,BD,AY,AC,AA,AX,AU,BH,BJ,BU,AB,D6,↓reduceIte,jA,jB,jC,enP,f22,wrap_succ (show k < 9223372036854775807 by omega)]
   refine ⟨n - 1,by omega,k+1,by omega,fun j hj h8 => ?_,by trivial,by trivial,rfl,trivial⟩
   rcases jV j k with h1 | h1
   ·exact hb j h1 h8
   ·obtain rfl:j=k:=by omega
    intro e
    rw [(Z7 _ _).2 e] at hp
    cases hp
 ·simp -implicitDefEqProofs only [BB,A8,BK,EF,A7,FC,F6,F8,CV,AZ,BA,AO,AQ,AL,BD,AY,AC,AA,AU,BM,BC,↓reduceIte,jB,jC]
  have hk':8≤k:=by simp at hc; omega
  refine ⟨?_,trivial⟩
  rcases hcase:J9 s with _ | ⟨a',d⟩
  ·rfl
  ·exfalso
   obtain ⟨c1,c2,c3,c4,_⟩:=MR hcase
   rw [he,hna] at hcase
   have:a'=a:=by
    simp only [Bool.and_true,if_true] at hcase
    split at hcase
    ·split at hcase
     ·cases hcase; rfl
     ·cases hcase
    ·cases hcase
   subst this
   exact hb _ (by omega) c2 c4
theorem AYA {a:ByteArray} {k i:Nat} (hi:i < (elN a k).size) (h:i=a.size):(elN a k)[i]=91:=by
 subst h
 have h1:(elN a k).data.toList[a.size]? = some 91:=by
  rw [RV,List.getElem?_append_right (by show a.data.toList.length≤a.data.size; simp)]
  have:a.size - a.data.toList.length=0:=by show a.data.size - a.data.toList.length=0; simp
  rw [this]; rfl
 have h2:(elN a k).data[a.size]? = some 91:=by rw [← Array.getElem?_toList]; exact h1
 have hk':a.size < (elN a k).data.size:=hi
 rw [Array.getElem?_eq_getElem hk'] at h2
 exact Option.some.inj h2
theorem AGA (a:ByteArray) (k:Nat):(elN a k).extract 0 a.size=a:=by
 refine ADB ?_
 have:(elN a k)=⟨(a.data.toList ++ [91,UInt8.ofNat (48+k),93]).toArray⟩:=ADB (RV a k)
 rw [this]
 have e:a.size=a.data.toList.length:=(Array.length_toList (xs:=a.data)).symm
 rw [e,AMO]
theorem AO0 (G:Nat→AV) (s:ByteArray) (h:Hp) (hl:s.size≤1048576):PCall (En G) 126 [.str s] h (.bool (JF s)):=by
 refine acN Tryz.func126 rfl ?_
 show awp _ _ _ _ _ (EN _ [.tmp 2] _)
 simp -implicitDefEqProofs only [BB,A8,A7,AZ,BA,AO,AQ,AL,BD,AY,AC,AA,AX,AU,BN,BM,BJ,BC,BV,BP,BF,jF,jD,jE,↓reduceIte,jA,jB,jC,enX,enP]
 refine (RJ G s h).use ?_
 cases hn:IQ s
 case true =>
  simp -implicitDefEqProofs only [BB,A8,BK,BI,A7,CJ,CV,DI,AZ,BA,AO,AQ,AL,BD,AY,AC,AA,AX,AU,BM,BC,↓reduceIte,jB,jC]
  exact ⟨by unfold JF; rw [hn,qC],trivial⟩
 have hv:JF s=(J9 s).isSome:=by unfold JF; rw [hn,jM]
 rw [hv]
 clear hn hv
 simp -implicitDefEqProofs only [BB,CE,A8,BR,BI,A7,DN,AZ,BA,AO,AQ,AL,BD,AY,AC,AA,AX,AU,BH,BC,↓reduceIte,jB,jC]
 refine EG (fun n F H => ∃ k,1≤k∧n+k=s.size+1∧(∀ a j,j < 8→IQ a=true→a.size < k→s≠elN a j)∧F 0 = .str s∧F 3 = .int .i64 (k:Nat)∧H=h) s.size ⟨1,by omega,by omega,fun a j hj ha hs e => ?_,by simp -implicitDefEqProofs only [AA,BF,↓reduceIte,jA],by simp -implicitDefEqProofs only [AA,↓reduceIte]; rfl,rfl⟩ ?_
 ·have:=(SQ (l:=a.data.toList) (by rw [AI1]; exact ha)).1
  have h2:a.data.toList.length=a.size:=Array.length_toList
  have:=List.length_pos_iff.2 this
  omega
 rintro n F H ⟨k,hk1,hk,hb,f0,f3,rfl⟩
 simp -implicitDefEqProofs only [BB,A8,BI,A7,AZ,BA,AO,AQ,AL,BD,AY,AC,AA,AX,BJ,BU,FP,AB,DV,↓reduceIte,jA,jB,jC,enP,ln9,f0,f3]
 refine CQ (fun hc => ?_) (fun hc => ?_)
 ·have hk':k < s.size:=by simpa using hc
  have hnext : ∀ F':Fr,F' 0 = .str s→F' 3 = .int .i64 (k:Nat)→(∀ a j,j < 8→IQ a=true→a.size=k→s≠elN a j)→∃ m,m < n∧∃ k',1≤k'∧m+k'=s.size+1∧(∀ a j,j < 8→IQ a=true→a.size < k'→s≠elN a j)∧k'=k+1:=fun F' _ _ hk2 =>
   ⟨n - 1,by omega,k+1,by omega,by omega,fun a j hj ha hs=>by
    rcases jV a.size k with h1 | h1
    ·exact hb a j hj ha h1
    ·exact hk2 a j hj ha (by omega),rfl⟩
  simp -implicitDefEqProofs only [BB,CE,A8,BR,A7,AZ,BL,BX,CO,AO,AQ,AL,BD,AY,AC,AA,AX,AU,BH,BJ,BU,LJ,AB,FT,↓reduceIte,jA,jB,jC,enP,f0,f3,ix9 s k .i64 hk']
  refine IA (fun hx => ?_) (fun hx => ?_)
  ·simp -implicitDefEqProofs only [A8,EF,BI,A7,FC,F6,FO,DI,AZ,BA,BL,BX,CO,F7,AO,AQ,AL,BD,AY,AC,AA,EQ,AX,AU,BH,BM,BJ,BC,CP,DW,BU,AB,D6,↓reduceIte,jA,jB,jC,enP,hx,f3,wrap_succ (show k < 9223372036854775807 by omega)]
   obtain ⟨m,hm,k',h1,h2,h3,rfl⟩:=hnext F f0 f3 (fun a j hj ha hs e=>by
    subst e
    rw [AYA hk' hs.symm] at hx
    revert hx; decide)
   exact ⟨m,hm,k+1,h1,h2,h3,by trivial,rfl,trivial⟩
  simp -implicitDefEqProofs only [qP,Option.map_none,BL,BX,CO,EY,AO,AQ,AL,BD,AY,AC,AA,AX,BN,BJ,OG,BV,BP,AB,jF,jD,jE,↓reduceIte,jA,jB,jC,enP,hx,f0,f3,ABV (Nat.le_of_lt hk')]
  refine (RJ G (s.extract 0 k) _).use ?_
  simp -implicitDefEqProofs only [BI,A7,AZ,BA,BL,BX,CO,EY,AO,AQ,AL,BD,AY,AC,AA,AX,AU,BM,CP,DZ,JG,AB,GG,↓reduceIte,jA,jB,jC,hx]
  refine CQ (fun hy => ?_) (fun hy => ?_)
  ·simp -implicitDefEqProofs only [A8,EF,A7,FC,F6,FO,AZ,BA,AO,AQ,AL,BD,AY,AC,AA,AX,AU,BH,BJ,BC,BU,AB,D6,↓reduceIte,jA,jB,jC,enP,f3,wrap_succ (show k < 9223372036854775807 by omega)]
   obtain ⟨m,hm,k',h1,h2,h3,rfl⟩:=hnext F f0 f3 (fun a j hj ha hs e=>by
    subst e
    subst hs
    rw [AGA,ha] at hy
    cases hy)
   exact ⟨m,hm,k+1,h1,h2,h3,by trivial,rfl,trivial⟩
  have hna:IQ (s.extract 0 k)=true:=by simpa using hy
  simp -implicitDefEqProofs only [BB,CE,A8,BR,A7,AZ,BA,AO,AQ,AL,BD,AY,AC,AU,BH,BC,jB,jC]
  refine IY 2 (fun F' H'=>F' 0 = .str s∧F' 3 = .int .i64 (k:Nat)∧H'=H∧∀ j,j < 8→s≠elN (s.extract 0 k) j) (fun F' H'=>F' 2 = .bool (J9 s).isSome∧H'=H) ?_ ?_ ?_
  ·refine EG (fun n' F' H' => ∃ i,n'+i=8∧(∀ j,j < i→j < 8→s≠elN (s.extract 0 k) j)∧F' 0 = .str s∧F' 3 = .int .i64 (k:Nat)∧F' 4 = .int .i64 (i:Nat)∧H'=H) 8 ⟨0,by simp,fun j hj=>absurd hj (by omega),by simp -implicitDefEqProofs only [AA,↓reduceIte,jA,f0],by simp -implicitDefEqProofs only [AA,↓reduceIte,jA,f3],by simp -implicitDefEqProofs only [AA,↓reduceIte]; rfl,rfl⟩ ?_
   clear f0 f3
   rintro n' F H ⟨i,hi,hbi,f0,f3,f4,rfl⟩
   simp -implicitDefEqProofs only [BB,A8,BI,A7,AZ,BA,AO,AQ,AL,BD,AY,AC,AA,AX,AU,BH,BJ,BU,AB,DV,↓reduceIte,jB,jC,enP,f4]
   refine CQ (fun hc => ?_) (fun hc => ?_)
   ·have hi':i < 8:=by simp at hc; omega
    simp -implicitDefEqProofs only [qP,Option.map_none,BB,CE,A8,BR,A7,AZ,AO,AQ,AL,BD,AY,AC,AA,AX,BN,BJ,OG,BV,BP,AB,jF,jD,jE,↓reduceIte,jA,jB,jC,enP,f0,f3,f4,ABV (Nat.le_of_lt hk')]
    refine (ACV G (s.extract 0 k) i hi' _ (by simp [ByteArray.size_extract]; omega)).use ?_
    simp -implicitDefEqProofs only [BI,A7,AZ,BA,AO,AQ,AL,BD,AY,AC,AA,AX,BU,AB,KY,↓reduceIte,jA,jB,jC,enP]
    refine CQ (fun hp => ?_) (fun hp => ?_)
    ·simp -implicitDefEqProofs only [BB,A8,BK,A7,CJ,D8,L6,F9,AZ,BA,AO,AQ,AL,BD,AY,AC,AA,AU,BM,BC,↓reduceIte,jB,jC]
     refine ⟨?_,trivial⟩
     have:=(Z7 _ _).1 hp
     rw [this,AEP hi' hna]; rfl
    ·simp -implicitDefEqProofs only [A8,BR,A7,EO,FO,AZ,BA,AO,AQ,AL,BD,AY,AC,AA,AX,AU,BH,BJ,BC,BU,AB,D6,↓reduceIte,jA,jB,jC,enP,f4,wrap_succ (show i < 9223372036854775807 by omega)]
     refine ⟨n' - 1,by omega,i+1,by omega,fun j hj h8 => ?_,by trivial,by trivial,rfl,trivial⟩
     rcases jV j i with h1 | h1
     ·exact hbi j h1 h8
     ·obtain rfl:j=i:=by omega
      intro e
      rw [(Z7 _ _).2 e] at hp
      cases hp
   ·have hi':8≤i:=by simp at hc; omega
    simp -implicitDefEqProofs only [EF,FC,MG,F8,AA,↓reduceIte,jA]
    exact ⟨f0,f3,trivial,fun j hj=>hbi j (by omega) hj⟩
  ·rintro F' H' ⟨g0,g3,rfl,hno⟩
   simp -implicitDefEqProofs only [A8,A7,EO,F6,FO,AZ,BA,AO,AQ,AL,BD,AY,AC,AA,AX,AU,BH,BJ,BC,BU,AB,D6,↓reduceIte,jA,jB,jC,enP,g3,wrap_succ (show k < 9223372036854775807 by omega)]
   obtain ⟨m,hm,k',h1,h2,h3,rfl⟩:=hnext F' g0 g3 (fun a j hj ha hs e=>by
    refine hno j hj ?_
    rw [e,← hs,AGA])
   exact ⟨m,hm,k+1,h1,h2,h3,by first | exact g0 | trivial,rfl,trivial⟩
  ·rintro F' H' ⟨g2,rfl⟩
   simp -implicitDefEqProofs only [CJ,D8,F9,CV,g2]
   exact ⟨trivial,trivial⟩
 ·have hk' : ¬ k < s.size:=by simpa using hc
  simp -implicitDefEqProofs only [BB,A8,BK,EF,A7,FC,F6,F8,CV,AZ,BA,AO,AQ,AL,BD,AY,AC,AA,AU,BM,BC,↓reduceIte,jB,jC]
  refine ⟨?_,trivial⟩
  rcases hcase:J9 s with _ | ⟨a,d⟩
  ·rfl
  ·exfalso
   obtain ⟨c1,c2,c3,c4,c5⟩:=MR hcase
   refine hb ⟨a.toArray⟩ _ c2 c3 ?_ c4
   rw [szl]; omega
def QB (l:List Vr) (s:ByteArray):Bool:=match J9 s with
 | some (a,d)=>decide (1≤d.toNat - 48) && decide (plc l (elN ⟨a.toArray⟩ (d.toNat - 48 - 1)) < 0)
 | none=>false
theorem AR2 {s:ByteArray} (h:IQ s=true):(Lib.cut s.data.toList [91]).2.2=false:=by
 obtain ⟨_,hne⟩:=SQ (l:=s.data.toList) (by rw [AI1]; exact h)
 have:Lib.index s.data.toList [91] = -1:=Lib.index_none fun j _=>by
  rw [← qM]
  intro ho
  have:=Lib.occAt_head rfl ho
  exact hne 91 (zN this) rfl
 unfold Lib.cut
 rw [this,if_neg (by omega)]
theorem AR3 {s:ByteArray} {a:List UInt8} {d:UInt8} (h:J9 s=some (a,d)):(Lib.cut s.data.toList [91]).1=a∧(Lib.cut s.data.toList [91]).2.2=true:=by
 rw [ACW] at h
 split at h
 case isFalse=>cases h
 rename_i hc
 split at h
 case h_2=>cases h
 split at h
 case isFalse=>cases h
 cases h
 exact ⟨rfl,(Bool.and_eq_true_iff.1 hc).1⟩
theorem ARA (G:Nat→AV) (hG:GOk G) (l:List Vr) (m:SM) (s:ByteArray) (h:Hp) (hl:l.length≤1099511627776) (hs:s.size≤1048576) (hv:JF s=true):PCall (En G) 107 [.sl m 4 (l.map GH),.str s] h (.bool (QB l s)):=by
 refine acN Tryz.func107 rfl ?_
 show awp _ _ _ _ _ (EN _ [.tmp 4] _)
 simp -implicitDefEqProofs only [BB,A8,A7,AZ,BA,AO,AQ,AL,BD,AY,AC,AA,AX,AU,BN,BM,IB,BJ,BC,BV,BP,BF,BQ,jF,jD,jE,↓reduceIte,jA,jB,jC,enX,enP]
 refine (AC1 G hG s h hs).use ?_
 unfold cutV
 rcases hcase:J9 s with _ | ⟨a,d⟩
 ·have hn:IQ s=true:=by
   unfold JF at hv; rw [hcase] at hv; simpa using hv
  have hg:QB l s=false:=by unfold QB; rw [hcase]
  rw [AR2 hn,hg]
  simp -implicitDefEqProofs only [zB,zD,BB,A8,BK,BI,A7,CJ,CV,DI,AZ,BA,AO,AQ,AL,BD,AY,AC,AA,AX,AU,BM,BJ,BC,JG,G8,JJ,AB,GG,↓reduceIte,jA,jB,jC]
  exact ⟨trivial,trivial⟩
 obtain ⟨e1,e2⟩:=AR3 hcase
 obtain ⟨c1,c2,c3,c4,c5⟩:=MR hcase
 have hg:QB l s=(decide (1≤d.toNat - 48) && decide (plc l (elN ⟨a.toArray⟩ (d.toNat - 48 - 1)) < 0)):=by unfold QB; rw [hcase]
 rw [e1,e2,hg]
 clear hg hcase e1 e2
 generalize d.toNat - 48=q at c2 c4 ⊢
 simp -implicitDefEqProofs only [zB,zD,BB,CE,A8,BR,BI,A7,DN,AZ,BA,AO,AQ,AL,BD,AY,AC,AA,AX,AU,BH,BJ,BC,JG,G8,JJ,AB,GG,↓reduceIte,jA,jB,jW,jC]
 refine EG (fun n F H => ∃ k,n+k=8∧1≤k∧(∀ j,1≤j→j < k→j≠q)∧F 0 = .sl m 4 (l.map GH)∧F 1 = .str s∧F 5 = .str ⟨a.toArray⟩∧F 8 = .int .i64 (k:Nat)∧H=h) 7 ⟨1,by simp,by omega,fun j h1 h2=>absurd h2 (by omega),by simp -implicitDefEqProofs only [AA,BF,↓reduceIte,jA],by simp -implicitDefEqProofs only [AA,BF,BQ,↓reduceIte,jA],by simp -implicitDefEqProofs only [AA,↓reduceIte,jA],by simp -implicitDefEqProofs only [AA,↓reduceIte]; rfl,rfl⟩ ?_
 rintro n F H ⟨k,hk,hk1,hb,f0,f1,f5,f8,rfl⟩
 simp -implicitDefEqProofs only [BB,A8,BI,A7,AZ,BA,AO,AQ,AL,BD,AY,AC,AA,AX,AU,BH,BJ,BU,AB,DV,↓reduceIte,jB,jC,enP,f8]
 refine CQ (fun hc => ?_) (fun hc => ?_)
 ·have hk':k < 8:=by simp at hc; omega
  simp -implicitDefEqProofs only [BB,CE,A8,BR,A7,AZ,AO,AQ,AL,BD,AY,AC,AA,AX,BN,BJ,BV,BP,jF,jD,jE,↓reduceIte,jA,jB,jC,f1,f5,f8]
  refine (ZY G ⟨a.toArray⟩ k hk' H (by rw [szl]; omega)).use ?_
  simp -implicitDefEqProofs only [BI,A7,AZ,BA,AO,AQ,AL,BD,AY,AC,AA,AX,BU,AB,KY,↓reduceIte,jA,jB,jC,enP,f1]
  refine CQ (fun hp => ?_) (fun hp => ?_)
  ·have hq:k=q:=by
    have:=(Z7 _ _).1 hp
    rw [c4] at this
    exact (AMS c2 hk' this).symm
   have hw:IntKind.i64.wrap (((k:Nat):Int) - 1)=((k - 1:Nat):Int):=by rw [wrap_i64 (by omega) (by omega)]; omega
   simp -implicitDefEqProofs only [BB,A8,AZ,AO,AQ,AL,BD,AY,AC,AA,AX,AU,BN,BH,BJ,BU,BV,BP,AB,II,jF,jD,jE,↓reduceIte,jA,jB,jC,enP,f0,f5,f8,hw]
   refine (ZY G ⟨a.toArray⟩ (k - 1) (by omega) H (by rw [szl]; omega)).use ?_
   simp -implicitDefEqProofs only [AZ,AO,AQ,AL,BD,AY,AC,AA,AX,BN,BV,BP,jF,jD,jE,↓reduceIte,jA,jB,jC,f0]
   refine (index_prog G l m _ H hl).use ?_
   simp -implicitDefEqProofs only [BK,A7,CJ,D8,F9,CV,AZ,BA,AO,AQ,AL,BD,AY,AC,AA,AX,AU,BH,BC,BU,AB,DV,↓reduceIte,jB,jC,enP]
   refine ⟨?_,trivial⟩
   rw [← hq,decide_eq_true hk1,Bool.true_and]
  ·simp -implicitDefEqProofs only [A8,BR,A7,EO,FO,AZ,BA,AO,AQ,AL,BD,AY,AC,AA,AX,AU,BH,BJ,BC,BU,AB,D6,↓reduceIte,jA,jB,jC,enP,f8,wrap_succ (show k < 9223372036854775807 by omega)]
   refine ⟨n - 1,by omega,k+1,by omega,by omega,fun j h1 h2 => ?_,by trivial,by trivial,by trivial,rfl,trivial⟩
   rcases jV j k with h3 | h3
   ·exact hb j h1 h3
   ·obtain rfl:j=k:=by omega
    intro e
    rw [(Z7 _ _).2 (by rw [c4,e])] at hp
    cases hp
 ·simp -implicitDefEqProofs only [BB,A8,BK,EF,A7,FC,F6,F8,CV,AZ,BA,AO,AQ,AL,BD,AY,AC,AA,AU,BM,BC,↓reduceIte,jB,jC]
  have hk':8≤k:=by simp at hc; omega
  refine ⟨?_,trivial⟩
  have : ¬ 1≤q:=fun h1=>hb q h1 (by omega) rfl
  rw [decide_eq_false this,Bool.false_and]
theorem ASJ {s:ByteArray} {k:Nat} (hk:k < s.size):s.data.toList[k]? = some s[k]:=by
 have h2:s.data[k]? = some s[k]:=Array.getElem?_eq_getElem hk
 rw [Array.getElem?_toList]; exact h2
theorem A03 {s:ByteArray} (hv:JF s=true) {k:Nat} (hk:k < s.size) (hb:s[k]=91) : ∃ a d,J9 s=some (a,d)∧k=a.length∧s.extract 0 k=⟨a.toArray⟩:=by
 have hg:=ASJ hk
 rw [hb] at hg
 rcases hcase:J9 s with _ | ⟨a,d⟩
 ·exfalso
  have hn:IQ s=true:=by unfold JF at hv; rw [hcase] at hv; simpa using hv
  exact (SQ (l:=s.data.toList) (by rw [AI1]; exact hn)).2 91 (zN hg) rfl
 ·obtain ⟨c1,c2,c3,c4,c5⟩:=MR hcase
  refine ⟨a,d,rfl,?_⟩
  have hna:=(SQ c3).2
  rw [c4,RV] at hg
  have hkk:k=a.length:=by
   rcases Nat.lt_trichotomy k a.length with h1 | h1 | h1
   ·exfalso
    rw [List.getElem?_append_left (by simpa using h1)] at hg
    exact hna 91 (zN hg) rfl
   ·exact h1
   ·exfalso
    rw [List.getElem?_append_right (by simp; omega)] at hg
    simp only at hg
    obtain ⟨j,hj⟩ : ∃ j,k - a.length=j+1:=⟨k - a.length - 1,by omega⟩
    rw [hj,zD] at hg
    have:j=0∨j=1:=by omega
    rcases this with rfl | rfl
    ·simp only [zB,Option.some.injEq] at hg
     have:=congrArg UInt8.toNat hg
     rw [AGC c2] at this
     have h91:(91:UInt8).toNat=91:=rfl
     omega
    ·simp only [zD,zB,Option.some.injEq] at hg
     exact absurd hg (by decide)
  refine ⟨hkk,?_⟩
  have:=AGA ⟨a.toArray⟩ (d.toNat - 48)
  rw [szl,← c4,← hkk] at this
  exact this
theorem AUZ (G:Nat→AV) (l:List Vr) (m:SM) (h:Hp) (hl:l.length≤1048576) (hv : ∀ v∈l,JF v.name=true∧v.name.size≤1048576):PCall (En G) 85 [.sl m 4 (l.map GH)] h (.bool (l.any fun v=>QB l v.name)):=by
 refine acN Tryz.func85 rfl ?_
 show awp _ _ _ _ _ (EN _ [.tmp 2] _)
 simp -implicitDefEqProofs only [BB,CE,A8,A7,AZ,BA,AO,AQ,AL,BD,AY,AC,AU,BH,BM,BC,jB,jC,enX,enP]
 refine EG (fun n F H => ∃ i,n+i=l.length∧(∀ (j:Nat) (hj:j < i) (hl:j < l.length),QB l l[j].name=false)∧F 0 = .sl m 4 (l.map GH)∧F 3 = .int .i64 (i:Nat)∧H=h) l.length ⟨0,by simp,fun j hj=>absurd hj (by omega),by simp -implicitDefEqProofs only [AA,BF,↓reduceIte,jA],by simp -implicitDefEqProofs only [AA,↓reduceIte]; rfl,rfl⟩ ?_
 rintro n F H ⟨i,hi,hb,f0,f3,rfl⟩
 simp -implicitDefEqProofs only [BB,A8,BI,A7,AZ,BA,AO,AQ,AL,BD,AY,AC,AA,AX,BJ,BU,FP,AB,DV,↓reduceIte,jA,jB,jC,enP,RH,f0,f3,jR]
 refine CQ (fun hc => ?_) (fun hc => ?_)
 ·have hi':i < l.length:=by simpa using hc
  obtain ⟨hvi,hsz⟩:=hv _ (jT hi')
  have l0:DR Tryz.prog H 9 (.fptr 4 (l.map GH) i 0)=some (.str l[i].name):=by rw [IC ag9 hi']; rfl
  have hany:QB l l[i].name=true→(l.any fun v=>QB l v.name)=true:=fun hg=>List.any_eq_true.2 ⟨_,jT hi',hg⟩
  generalize hs:l[i].name=s at hvi hsz l0 hany
  simp -implicitDefEqProofs only [BB,CE,A8,BR,A7,AZ,BA,AO,AQ,AL,BD,AY,AC,AU,BH,BC,jB,jC]
  refine IY 2 (fun F' H'=>F' 0 = .sl m 4 (l.map GH)∧F' 3 = .int .i64 (i:Nat)∧H'=H∧QB l s=false) (fun F' H'=>F' 2 = .bool (l.any fun v=>QB l v.name)∧H'=H) ?_ ?_ ?_
  ·refine EG (fun n' F' H' => ∃ k,1≤k∧n'+k=s.size+1∧(∀ a d,J9 s=some (a,d)→a.length < k→QB l s=false)∧F' 0 = .sl m 4 (l.map GH)∧F' 3 = .int .i64 (i:Nat)∧F' 4 = .int .i64 (k:Nat)∧H'=H) s.size ⟨1,by omega,by omega,fun a d ha h1 => ?_,by simp -implicitDefEqProofs only [AA,↓reduceIte,jA,f0],by simp -implicitDefEqProofs only [AA,↓reduceIte,jA,f3],by simp -implicitDefEqProofs only [AA,↓reduceIte]; rfl,rfl⟩ ?_
   ·exfalso
    have:=(SQ (MR ha).2.2.1).1
    have:=List.length_pos_iff.2 this
    omega
   clear f0 f3
   rintro n' F H ⟨k,hk1,hk,hbk,f0,f3,f4,rfl⟩
   simp -implicitDefEqProofs only [BB,A8,BI,A7,AZ,BA,AO,AQ,AL,BD,AY,AC,AA,AX,BJ,BO,BU,BG,CG,FP,AB,DV,↓reduceIte,jA,jH,jB,jC,enP,ln9,VE,PI,f0,f3,f4,EX hi',l0]
   refine CQ (fun hc => ?_) (fun hc => ?_)
   ·have hk':k < s.size:=by simpa using hc
    simp -implicitDefEqProofs only [BB,CE,A8,BR,BI,A7,AZ,BA,AO,AQ,AL,BD,AY,AC,AA,AX,AU,BH,BJ,BO,BU,BG,CG,LJ,AB,FT,↓reduceIte,jA,jH,jB,jC,enP,VE,PI,f0,f3,f4,EX hi',l0,ix9 s k .i64 hk']
    refine CQ (fun hx => ?_) (fun hx => ?_)
    ·simp -implicitDefEqProofs only [A8,EF,A7,FC,F6,FO,AZ,BA,AO,AQ,AL,BD,AY,AC,AA,AX,AU,BH,BJ,BC,BU,AB,D6,↓reduceIte,jA,jB,jC,enP,f4,wrap_succ (show k < 9223372036854775807 by omega)]
     refine ⟨n' - 1,by omega,k+1,by omega,by omega,fun a d ha h1 => ?_,f0,f3,rfl,trivial⟩
     rcases jV a.length k with h2 | h2
     ·exact hbk a d ha h2
     ·exfalso
      obtain ⟨c1,c2,c3,c4,c5⟩:=MR ha
      have h3:s[k]=91:=by
       have h4:s.data.toList[k]? = some 91:=by
        rw [c4,RV,List.getElem?_append_right (by simp; omega)]
        have:k - (⟨a.toArray⟩:ByteArray).data.toList.length=0:=by simp; omega
        rw [this]; rfl
       rw [ASJ hk'] at h4
       exact Option.some.inj h4
      rw [h3] at hx
      revert hx; decide
    have hbr:s[k]=91:=by
     have h0:((s[k].toNat:Int) == 91)=true:=by
      simpa [bne] using hx
     have h1:(s[k].toNat:Int)=91:=by simpa using h0
     exact UInt8.toNat_inj.1 (by show _=91; omega)
    obtain ⟨a,d,ha,hka,hext⟩:=A03 hvi hk' hbr
    obtain ⟨c1,c2,c3,c4,c5⟩:=MR ha
    have hgv:QB l s=(decide (1≤d.toNat - 48) && decide (plc l (elN ⟨a.toArray⟩ (d.toNat - 48 - 1)) < 0)):=by unfold QB; rw [ha]
    have hasz:(⟨a.toArray⟩:ByteArray).size≤1048576:=by rw [szl]; omega
    generalize d.toNat - 48=q at c2 c4 hgv
    simp -implicitDefEqProofs only [BB,CE,A8,BR,A7,AZ,BA,AO,AQ,AL,BD,AY,AC,AU,BH,BC,jB,jC]
    refine IY 4 (fun F' H'=>F' 0 = .sl m 4 (l.map GH)∧F' 3 = .int .i64 (i:Nat)∧F' 4 = .int .i64 (k:Nat)∧H'=H∧QB l s=false) (fun F' H'=>F' 2 = .bool (l.any fun v=>QB l v.name)∧H'=H) ?_ ?_ ?_
    ·refine EG (fun n2 F' H' => ∃ t,1≤t∧n2+t=8∧(1≤q→q < t→QB l s=false)∧F' 0 = .sl m 4 (l.map GH)∧F' 3 = .int .i64 (i:Nat)∧F' 4 = .int .i64 (k:Nat)∧F' 5 = .int .i64 (t:Nat)∧H'=H) 7 ⟨1,by omega,by omega,fun h1 h2=>absurd h2 (by omega),by simp -implicitDefEqProofs only [AA,↓reduceIte,jA,f0],by simp -implicitDefEqProofs only [AA,↓reduceIte,jA,f3],by simp -implicitDefEqProofs only [AA,↓reduceIte,jA,f4],by simp -implicitDefEqProofs only [AA,↓reduceIte]; rfl,rfl⟩ ?_
     clear f0 f3 f4
     rintro n2 F H ⟨t,ht1,ht,hbt,f0,f3,f4,f5,rfl⟩
     simp -implicitDefEqProofs only [BB,A8,BI,A7,AZ,BA,AO,AQ,AL,BD,AY,AC,AA,AX,AU,BH,BJ,BU,AB,DV,↓reduceIte,jB,jC,enP,f5]
     refine CQ (fun hc => ?_) (fun hc => ?_)
     ·have ht':t < 8:=by simp at hc; omega
      have hw:IntKind.i64.wrap (((t:Nat):Int) - 1)=((t - 1:Nat):Int):=by rw [wrap_i64 (by omega) (by omega)]; omega
      simp -implicitDefEqProofs only [BB,CE,BR,A7]
      refine EK (by kernel_rfl) ?_
      simp -implicitDefEqProofs only [ET,qP,Option.map_none,DK,CY,DL,EH,EC,HY,X5,C9,D9,EI,EE,AO,AA,AX,BN,BO,BU,OG,BG,CG,AB,jF,jD,jE,↓reduceIte,jA,jL,jH,jB,enP,VE,PI,f0,f3,f4,f5,EX hi',l0,ABV (Nat.le_of_lt hk'),hext]
      refine ⟨_,ACV G ⟨a.toArray⟩ t ht' _ hasz,?_⟩
      simp -implicitDefEqProofs only [ET,DK,CY,DL,EJ,E8,EH,CO,AO,AA,AX,AB,KY,↓reduceIte,jL,jB]
      have nxt:QB l s=false∨t≠q→∃ m',m' < n2∧∃ t',1≤t'∧m'+t'=8∧(1≤q→q < t'→QB l s=false)∧t'=t+1:=fun hh =>
       ⟨n2 - 1,by omega,t+1,by omega,by omega,fun h1 h2=>by
        rcases hh with hh | hh
        ·exact hh
        ·exact hbt h1 (by omega),rfl⟩
      refine OZ (fun hp => ?_) (fun hp => ?_)
      ·have hq:t=q:=by
        have:=(Z7 _ _).1 hp
        rw [c4] at this
        exact (AMS c2 ht' this).symm
       simp -implicitDefEqProofs only [ET,qP,Option.map_none,DK,CY,EJ,E8,NQ,EH,EC,HY,X5,C9,D9,EI,EE,CO,AO,AA,AX,AU,BN,BH,BO,BU,OG,BG,CG,AB,II,jF,jD,jE,↓reduceIte,jA,jL,jH,jB,enP,VE,PI,hp,f0,f3,f4,f5,EX hi',l0,ABV (Nat.le_of_lt hk'),hext,hw]
       refine ⟨_,ACV G ⟨a.toArray⟩ (t - 1) (by omega) _ hasz,?_⟩
       try simp -implicitDefEqProofs only [hp]
       refine ⟨_,XP G l m _ _ (by omega),?_⟩
       simp -implicitDefEqProofs only [ET,DK,CY,D7,DL,GK,BI,A7,AO,AA,AX,AU,BM,CP,DW,AB,DV,↓reduceIte,jA,jL,jB,hp]
       refine CQ (fun hz => ?_) (fun hz => ?_)
       ·simp -implicitDefEqProofs only [BB,A8,BK,A7,CJ,D8,L6,F9,AZ,BA,AO,AQ,AL,BD,AY,AC,AA,AU,BM,BC,↓reduceIte,jB,jC]
        refine ⟨?_,trivial⟩
        rw [hany]
        rw [hgv,← hq,decide_eq_true ht1,hz]; rfl
       ·simp -implicitDefEqProofs only [A8,BR,A7,EO,FO,AZ,BA,AO,AQ,AL,BD,AY,AC,AA,AX,AU,BH,BJ,BC,BU,AB,D6,↓reduceIte,jA,jB,jC,enP,f5,wrap_succ (show t < 9223372036854775807 by omega)]
        obtain ⟨m',hm,t',h1,h2,h3,rfl⟩:=nxt (.inl (by rw [hgv,← hq,hz,Bool.and_false]))
        exact ⟨m',hm,t+1,h1,h2,h3,f0,f3,f4,rfl,trivial⟩
      ·simp -implicitDefEqProofs only [ET,DK,CY,D7,DL,EJ,E8,SC,GK,A8,BR,BI,A7,EO,FO,DN,AZ,BA,CO,AO,AQ,AL,BD,AY,AC,AA,EQ,AX,AU,BH,BM,BJ,BC,CP,DZ,BU,AB,D6,↓reduceIte,jA,jL,jB,jC,enP,hp,f5,wrap_succ (show t < 9223372036854775807 by omega)]
       obtain ⟨m',hm,t',h1,h2,h3,rfl⟩:=nxt (.inr (fun e=>by
        rw [(Z7 _ _).2 (by rw [c4,e])] at hp
        cases hp))
       exact ⟨m',hm,t+1,h1,h2,h3,f0,f3,f4,rfl,trivial⟩
     ·have ht':8≤t:=by simp at hc; omega
      simp -implicitDefEqProofs only [EF,FC,MG,F8,AA,↓reduceIte,jA]
      refine ⟨f0,f3,f4,trivial,?_⟩
      rcases jV q 1 with h1 | h1
      ·rw [hgv,decide_eq_false (by omega),Bool.false_and]
      ·exact hbt h1 (by omega)
    ·rintro F' H' ⟨g0,g3,g4,rfl,hno⟩
     simp -implicitDefEqProofs only [A8,A7,EO,F6,FO,AZ,BA,AO,AQ,AL,BD,AY,AC,AA,AX,AU,BH,BJ,BC,BU,AB,D6,↓reduceIte,jA,jB,jC,enP,g4,wrap_succ (show k < 9223372036854775807 by omega)]
     exact ⟨n' - 1,by omega,k+1,by omega,by omega,fun _ _ _ _=>hno,g0,g3,rfl,trivial⟩
    ·rintro F' H' ⟨g2,rfl⟩
     simp -implicitDefEqProofs only [CJ,D8,L6,F9,g2]
     exact ⟨trivial,trivial⟩
   ·have hk' : ¬ k < s.size:=by simpa using hc
    simp -implicitDefEqProofs only [EF,FC,MG,F8,AA,↓reduceIte,jA]
    refine ⟨f0,f3,trivial,?_⟩
    rcases hcase:J9 s with _ | ⟨a,d⟩
    ·unfold QB; rw [hcase]
    ·exact hbk a d hcase (by have:=(MR hcase).2.2.2.2; omega)
  ·rintro F' H' ⟨g0,g3,rfl,hno⟩
   simp -implicitDefEqProofs only [A8,A7,EO,F6,FO,AZ,BA,AO,AQ,AL,BD,AY,AC,AA,AX,AU,BH,BJ,BC,BU,AB,D6,↓reduceIte,jA,jB,jC,enP,g3,wrap_succ (show i < 9223372036854775807 by omega)]
   refine ⟨n - 1,by omega,i+1,by omega,fun j hj hl => ?_,g0,rfl,trivial⟩
   rcases jV j i with h1 | h1
   ·exact hb j h1 hl
   ·obtain rfl:j=i:=by omega
    rw [hs]; exact hno
  ·rintro F' H' ⟨g2,rfl⟩
   simp -implicitDefEqProofs only [CJ,D8,F9,CV,g2]
   exact ⟨trivial,trivial⟩
 ·simp -implicitDefEqProofs only [BB,A8,BK,EF,A7,FC,F6,F8,CV,AZ,BA,AO,AQ,AL,BD,AY,AC,AA,AU,BM,BC,↓reduceIte,jB,jC]
  have hi' : ¬ i < l.length:=by simpa using hc
  refine ⟨?_,trivial⟩
  have:(l.any fun v=>QB l v.name)=false:=by
   rw [List.any_eq_false]
   intro v hv
   obtain ⟨j,hj,rfl⟩:=qJ hv
   rw [hb j (by omega) hj]; decide
  rw [this]
def PH {α:Type} (f:α→Int):List α→Int
 | []=>0
 | x :: r=>if f x≠0 then f x else PH f r
theorem RP {α:Type} (f:α→Int) : ∀ (xs:List α) (k:Nat) (hk:k < xs.length),(∀ (j:Nat) (hj:j < k),f (xs[j]'(by omega))=0)→f xs[k]≠0→PH f xs=f xs[k]
 | x :: r,0,_,_,h=>by
   have h:f x≠0:=h
   show (if f x≠0 then f x else PH f r)=f x
   rw [if_pos h]
 | x :: r,k+1,hk,hb,h=>by
   have h0:f x=0:=hb 0 (by omega)
   have ih:=RP f r k (by simpa using hk) (fun j hj=>hb (j+1) (by omega)) h
   show (if f x≠0 then f x else PH f r)=f (r[k]'(by simpa using hk))
   rw [if_neg (by simp [h0]),ih]
theorem PG {α:Type} (f:α→Int) : ∀ xs:List α,(∀ (j:Nat) (hj:j < xs.length),f xs[j]=0)→PH f xs=0
 | [],_=>rfl
 | x :: r,hb=>by
   have h0:f x=0:=hb 0 (by simp)
   show (if f x≠0 then f x else PH f r)=0
   rw [if_neg (by simp [h0]),PG f r fun j hj=>hb (j+1) (by simpa using hj)]
theorem PE {α:Type} {f:α→Int} : ∀ {xs:List α},PH f xs=0→∀ x∈xs,f x=0
 | y :: r,h,x,hx=>by
   have h1:(if f y≠0 then f y else PH f r)=0:=h
   split at h1
   ·rename_i hy; exact absurd h1 hy
   ·rename_i hy
    rcases List.mem_cons.1 hx with rfl | hx
    ·simpa using hy
    ·exact PE h1 x hx
def MF (v:Vr):Bool:=decide (v.width < 1) || decide (v.width > 8) || decide (v.mode < 0) || decide (v.mode > 2) || decide (v.value < 0) || decide (v.value≥2 ^ v.width.toNat) || (!(v.mode == 0) && !(v.value == 0))
def vrE (v:Vr):Int:=if JF v.name=true then if MF v=true then 1 else 0 else 7
theorem AZL : ∀ n:Nat,n≤8→IE Tryz.prog 3 .shl (.int .i64 1) (.int .i64 (n:Nat))=some (.int .i64 (2 ^ n))
 | 0,_=>by kernel_rfl
 | 1,_=>by kernel_rfl
 | 2,_=>by kernel_rfl
 | 3,_=>by kernel_rfl
 | 4,_=>by kernel_rfl
 | 5,_=>by kernel_rfl
 | 6,_=>by kernel_rfl
 | 7,_=>by kernel_rfl
 | 8,_=>by kernel_rfl
 | n+9,h=>absurd h (by omega)
theorem AV8 {w:Int} (h0 : ¬ w < 1) (h1 : ¬ w > 8):IE Tryz.prog 3 .shl (.int .i64 1) (.int .i64 w)=some (.int .i64 (2 ^ w.toNat)):=by
 obtain ⟨n,rfl⟩:=Int.eq_ofNat_of_zero_le (by omega:0≤w)
 exact AZL n (by omega)
theorem AFD (G:Nat→AV) (v:Vr) (h:Hp) (hs:v.name.size≤1048576):PCall (En G) 83 [.agg (GH v)] h (.int .i64 (vrE v)):=by
 refine ACalls.pure0 rfl ?_
 refine acN Tryz.func83 rfl ?_
 show awp _ _ _ _ _ (EN _ [.tmp 2] _)
 simp -implicitDefEqProofs only [BB,A8,A7,AZ,BA,AO,AQ,AL,BD,AY,AC,AA,AX,AU,BN,BH,BC,FQ,BO,BG,BV,BP,CB,AB,BF,jF,jD,jE,↓reduceIte,jA,jH,jB,jC,enP,PI,bxV,E5 ag9,ARV]
 refine (AO0 G v.name _ hs).use ?_
 cases hn:JF v.name
 ·simp -implicitDefEqProofs only [BB,A8,BK,BI,A7,CJ,CV,DI,AZ,BA,AO,AQ,AL,BD,AY,AC,AA,AX,AU,BH,BC,JG,AB,GG,↓reduceIte,jB,jC]
  exact ⟨by unfold vrE; rw [hn]; rfl,_,rfl⟩
 simp -implicitDefEqProofs only [BB,A8,BR,BI,A7,DN,AZ,BA,BL,BX,CO,AO,AQ,AL,BD,AY,AC,AA,AX,AU,BH,BJ,BO,BU,JG,BG,AB,DV,GG,↓reduceIte,jA,jG,jB,jW,jC,enP,OO,E5 ag3,ARU]
 have fin : ∀ b,MF v=b→vrE v=if b=true then 1 else 0:=fun b hb=>by unfold vrE; rw [hn,hb]; rfl
 cases b1:decide (v.width < 1)
 case true =>
  simp -implicitDefEqProofs only [BB,A8,BK,BI,A7,CJ,CV,DI,AZ,BA,BL,BX,CO,F7,AO,AQ,AL,BD,AY,AC,AA,EQ,AX,AU,BH,BM,BJ,BC,CP,DW,↓reduceIte,jA,jB,jC,b1]
  exact ⟨by rw [fin true (by unfold MF; rw [b1]; simp)]; rfl,_,rfl⟩
 simp -implicitDefEqProofs only [AZ,BL,BX,CO,EY,AO,AQ,AL,BD,AY,AC,AA,AX,AU,BH,BM,BJ,CP,DZ,BO,BU,BG,AB,FM,↓reduceIte,jA,jG,jB,jC,enP,OO,b1,E5 ag3,ARU]
 cases b2:decide (v.width > 8)
 case true =>
  simp -implicitDefEqProofs only [BB,A8,BK,BI,A7,CJ,CV,DI,AZ,BA,BL,BX,CO,F7,AO,AQ,AL,BD,AY,AC,AA,EQ,AX,AU,BH,BM,BJ,BC,CP,DW,↓reduceIte,jA,jB,jC,b2]
  exact ⟨by rw [fin true (by unfold MF; rw [b2]; simp)]; rfl,_,rfl⟩
 simp -implicitDefEqProofs only [AZ,BL,BX,CO,EY,AO,AQ,AL,BD,AY,AC,AA,AX,AU,BH,BM,BJ,CP,DZ,BO,BU,BG,AB,DV,↓reduceIte,jA,jG,jB,jC,enP,NV,b2,E5 ag3,ART]
 cases b3:decide (v.mode < 0)
 case true =>
  simp -implicitDefEqProofs only [BB,A8,BK,BI,A7,CJ,CV,DI,AZ,BA,BL,BX,CO,F7,AO,AQ,AL,BD,AY,AC,AA,EQ,AX,AU,BH,BM,BJ,BC,CP,DW,↓reduceIte,jA,jB,jC,b3]
  exact ⟨by rw [fin true (by unfold MF; rw [b3]; simp)]; rfl,_,rfl⟩
 simp -implicitDefEqProofs only [AZ,BL,BX,CO,EY,AO,AQ,AL,BD,AY,AC,AA,AX,AU,BH,BM,BJ,CP,DZ,BO,BU,BG,AB,FM,↓reduceIte,jA,jG,jB,jC,enP,NV,b3,E5 ag3,ART]
 cases b4:decide (v.mode > 2)
 case true =>
  simp -implicitDefEqProofs only [BB,A8,BK,BI,A7,CJ,CV,DI,AZ,BA,BL,BX,CO,F7,AO,AQ,AL,BD,AY,AC,AA,EQ,AX,AU,BH,BM,BC,CP,DW,↓reduceIte,jA,jB,jC,b4]
  exact ⟨by rw [fin true (by unfold MF; rw [b4]; simp)]; rfl,_,rfl⟩
 simp -implicitDefEqProofs only [BI,A7,AZ,BA,BL,BX,CO,EY,AO,AQ,AL,BD,AY,AC,AA,AX,AU,BH,BM,CP,DZ,BO,BU,BG,AB,DV,↓reduceIte,jA,jG,jB,jC,enP,XQ,b4,E5 ag3,AWK]
 cases b5:decide (v.value < 0)
 case true =>
  simp -implicitDefEqProofs only [BB,A8,BK,A7,CJ,CV,DI,AZ,BA,AO,AQ,AL,BD,AY,AC,AA,AU,BH,BC,↓reduceIte,jB,jC,b5]
  exact ⟨by rw [fin true (by unfold MF; rw [b5]; simp)]; rfl,_,rfl⟩
 simp -implicitDefEqProofs only [BB,BR,A7,DN,b5]
 have hw1 : ¬ v.width < 1:=by simpa using b1
 have hw2 : ¬ v.width > 8:=by simpa using b2
 have hv0 : ¬ v.value < 0:=by simpa using b5
 have hsh:=AV8 hw1 hw2
 have fin2 : ∀ b,(decide (v.value≥2 ^ v.width.toNat) || (!(v.mode == 0) && !(v.value == 0)))=b→vrE v=if b=true then 1 else 0:=fun b hb=>fin b (by unfold MF; rw [b1,b2,b3,b4,b5]; simpa using hb)
 refine EK (by kernel_rfl) ?_
 have hp:(0:Int) < 2 ^ v.width.toNat:=Int.pow_pos (by decide)
 cases b6:(v.mode == 0) <;> cases b7:(v.value == 0) <;> cases b8:decide (v.value≥2 ^ v.width.toNat)
 all_goals
  simp -implicitDefEqProofs only [ET,DK,CY,D7,DL,EJ,E8,NQ,O0,SC,QE,ALJ,EH,GK,EC,HY,C9,BB,A8,BR,BK,BI,A7,CJ,CV,DI,DN,AZ,BA,CO,AO,AQ,AL,BD,AY,AC,AA,EQ,AX,AU,BH,BM,BC,CP,DW,DZ,BO,BU,BG,AB,CX,FT,FV,↓reduceIte,jA,jL,jG,jB,jW,jC,enP,OO,NV,XQ,E5 ag3,ARU,ART,AWK,hsh,b6,b7,b8,bne]
  refine ⟨?_,_,rfl⟩
  rw [fin2 _ rfl,b6,b7,b8]
  first
   | rfl
   | (exfalso
      simp at b7 b8
      omega)
def AKS (l:List Vr):Bool:=decide (∃ i:Fin l.length,0≤plc (l.take i.1) (l[i.1]).name)
def NK (l:List Vr):Int:=(l.map fun v=>if v.mode=0 then 0 else v.width).sum
def KU (l:List Vr):Int:=if l.length > 16 then 2 else if PH vrE l≠0 then PH vrE l else if AKS l=true then 8 else if (l.any fun v=>QB l v.name)=true then 10 else if NK l > 20 then 2 else 0
theorem AHV (v:Vr):JB v.name v=true:=by unfold JB; simp
theorem AHP {l:List Vr} {i:Nat} (hi:i < l.length):(plc l l[i].name≠(i:Int))↔0≤plc (l.take i) l[i].name:=by
 constructor
 ·intro h
  rcases Classical.em (0≤plc (l.take i) l[i].name) with h1 | h1
  ·exact h1
  ·exfalso
   refine h (QA _ l i hi (fun j hj => ?_) (AHV _))
   refine AOI (JB l[i].name) (l.take i) (by unfold plc at h1; omega) _ ?_
   have:(l.take i)[j]'(by rw [qG]; omega)=l[j]:=List.getElem_take
   rw [← this]; exact jT _
 ·intro h e
  obtain ⟨k,hk,_,h2,h3⟩:=ACG (JB l[i].name) (l.take i) h
  rw [qG] at hk
  rw [List.getElem_take] at h2
  have h0:0≤plc l l[i].name:=by rw [e]; omega
  obtain ⟨k',hk',e1,_,e3⟩:=ACG (JB l[i].name) l h0
  have:k'=i:=by
   have e1:plc l l[i].name=(k':Int):=e1
   omega
  have:=e3 k (by omega)
  rw [this] at h2; cases h2
theorem AIM {l:List Vr} {i:Nat} (hi:i < l.length) (h:0≤plc (l.take i) l[i].name):AKS l=true:=decide_eq_true ⟨⟨i,hi⟩,h⟩
theorem AEQ {l:List Vr} (h : ∀ (i:Nat) (hi:i < l.length),plc (l.take i) l[i].name < 0):AKS l=false:=decide_eq_false fun ⟨i,hi⟩=>by have:=h i.1 i.2; omega
theorem XV {l:List Vr} {i:Nat} (hi:i < l.length):NK (l.take (i+1))=NK (l.take i)+(if l[i].mode=0 then 0 else l[i].width):=by
 unfold NK
 rw [zY hi,List.map_append,List.sum_append]
 simp
theorem AC6 (l:List Vr) (hw : ∀ v∈l,vrE v=0) : ∀ i,i≤l.length→0≤NK (l.take i)∧NK (l.take i)≤8 * i
 | 0,_=>by simp [NK]
 | i+1,h=>by
   have ih:=AC6 l hw i (by omega)
   rw [XV (by omega:i < l.length)]
   have:=hw _ (jT (by omega:i < l.length))
   unfold vrE at this
   split at this
   ·split at this
    ·cases this
    ·rename_i hb
     have:MF l[i]=false:=by simpa using hb
     unfold MF at this
     simp only [Bool.or_eq_false_iff,decide_eq_false_iff_not] at this
     split <;> omega
   ·cases this
theorem AYW (h:Hp):J8 Tryz.prog h 61=some (.ptr h.length 0 0,h ++ [.live 4 [[.str ⟨#[]⟩,.int .i64 0,.int .i64 0,.int .i64 0]]]):=KI (row := [.str ⟨#[]⟩,.int .i64 0,.int .i64 0,.int .i64 0]) (by kernel_rfl)
theorem AW8 (h:Hp) (v:Vr):GM Tryz.prog (h ++ [.live 4 [[.str ⟨#[]⟩,.int .i64 0,.int .i64 0,.int .i64 0]]]) 61 (.ptr h.length 0 0) (.agg (GH v))=some (h ++ [.live 4 [GH v]]):=by
 rw [AAL (cs:=GH v) (row := [.str ⟨#[]⟩,.int .i64 0,.int .i64 0,.int .i64 0]) rfl APR (DF _ _) (by exact jQ 4),MB]
 rfl
theorem ldV {l:List Vr} {h:Hp} {i:Nat} (hi:i < l.length):DR Tryz.prog h 61 (.fptr 4 (l.map GH) i 0)=some (.agg (GH l[i])):=EU A1P APR ACU hi
theorem A15 {l:List Vr} {h:Hp} {m:SM} {i:Nat} (hi:i≤l.length) : ∃ m',LD Tryz.prog h 22 (.sl m 4 (l.map GH)) none (some (.int .i64 (i:Nat))) none=some (.sl m' 4 ((l.take i).map GH)):=by
 have hs:szO Tryz.prog 61=some 4:=APR
 exact ⟨AVB m i (l.map GH).length,by rw [AV6 A13 hs (by rw [jR]; exact hi),List.map_take]⟩
theorem ADN (G:Nat→AV) (l:List Vr) (m:SM) (h:Hp) (hl:l.length≤1048576) (hs : ∀ v∈l,v.name.size≤1048576):PCall (En G) 43 [.sl m 4 (l.map GH)] h (.int .i64 (KU l)):=by
 refine acN Tryz.func43 rfl ?_
 show awp _ _ _ _ _ (EN _ [.tmp 2] _)
 simp -implicitDefEqProofs only [BB,A8,BI,A7,AZ,BA,AO,AQ,AL,BD,AY,AC,AA,AX,AU,BH,BJ,BC,BU,FP,AB,FM,BF,↓reduceIte,jA,jB,jC,enX,enP,RH,jR]
 refine CQ (fun hc => ?_) (fun hc => ?_)
 ·simp -implicitDefEqProofs only [BB,A8,BK,A7,CJ,CV,AZ,BA,AO,AQ,AL,BD,AY,AC,AA,AU,BH,BC,↓reduceIte,jB,jC]
  exact ⟨by unfold KU; rw [if_pos (by simp at hc; omega)],trivial⟩
 have hlen : ¬ l.length > 16:=by simp at hc; omega
 simp -implicitDefEqProofs only [BB,CE,A8,BR,A7,AZ,BA,AO,AQ,AL,BD,AY,AC,AU,BH,BC,jB,jC]
 refine IY 0 (fun F H=>F 0 = .sl m 4 (l.map GH)∧F 3 = .int .i64 (NK l)∧H=h∧PH vrE l=0) (fun F H=>F 2 = .int .i64 (KU l)∧H=h) ?_ ?_ ?_
 ·refine EG (fun n F H => ∃ i,n+i=l.length∧(∀ (j:Nat) (hj:j < i) (hl:j < l.length),vrE l[j]=0)∧F 0 = .sl m 4 (l.map GH)∧F 3 = .int .i64 (NK (l.take i))∧F 4 = .int .i64 (i:Nat)∧H=h) l.length ⟨0,by simp,fun j hj=>absurd hj (by omega),by simp -implicitDefEqProofs only [AA,BF,↓reduceIte,jA],by simp -implicitDefEqProofs only [AA,↓reduceIte,jA]; rfl,by simp -implicitDefEqProofs only [AA,↓reduceIte]; rfl,rfl⟩ ?_
  rintro n F H ⟨i,hi,hb,f0,f3,f4,rfl⟩
  simp -implicitDefEqProofs only [BB,A8,BI,A7,AZ,BA,AO,AQ,AL,BD,AY,AC,AA,AX,BJ,BU,FP,AB,DV,↓reduceIte,jA,jB,jC,enP,RH,f0,f4,jR]
  refine CQ (fun hc => ?_) (fun hc => ?_)
  ·have hi':i < l.length:=by simpa using hc
   simp -implicitDefEqProofs only [BB,CE,A8,BR,A7,AZ,AO,AQ,AL,BD,AY,AC,AA,AX,BN,BJ,BO,CG,BV,BP,AB,jF,jD,jE,↓reduceIte,jA,jB,jC,enP,VE,f0,f4,EX hi',ldV hi']
   refine (AFD G l[i] H (hs _ (jT hi'))).use ?_
   simp -implicitDefEqProofs only [BB,A8,BI,A7,AZ,BA,AO,AQ,AL,BD,AY,AC,AA,AX,AU,BH,BJ,BC,BU,AB,FT,↓reduceIte,jB,jC,enP]
   refine CQ (fun he => ?_) (fun he => ?_)
   ·simp -implicitDefEqProofs only [BB,A8,BK,A7,CJ,D8,L6,F9,AZ,BA,AO,AQ,AL,BD,AY,AC,AA,AX,BJ,BC,↓reduceIte,jA,jB,jC]
    have he':vrE l[i]≠0:=by simpa [bne] using he
    refine ⟨?_,trivial⟩
    have:=RP vrE l i hi' (fun j hj=>hb j hj (by omega)) he'
    unfold KU
    rw [if_neg hlen,this,if_pos he']
   ·have he':vrE l[i]=0:=by simpa [bne] using he
    have hb2 : ∀ (j:Nat) (hj:j < i+1) (hl:j < l.length),vrE l[j]=0:=fun j hj hl=>by
     rcases jV j i with h1 | h1
     ·exact hb j h1 hl
     ·obtain rfl:j=i:=by omega
      exact he'
    have hbt:=XV hi'
    have hbd:0≤NK (l.take (i+1))∧NK (l.take (i+1))≤8 * ((i+1:Nat):Int):=by
     have:=AC6 (l.take (i+1)) (fun v hv=>by
      obtain ⟨j,hj,rfl⟩:=qJ hv
      rw [qG] at hj
      rw [List.getElem_take]; exact hb2 j (by omega) (by omega)) (i+1) (by rw [qG]; omega)
     rw [List.take_take,Nat.min_self] at this; exact this
    have l2:DR Tryz.prog H 3 (.fptr 4 (l.map GH) i 2)=some (.int .i64 l[i].mode):=by rw [IC ag3 hi']; rfl
    have l1:DR Tryz.prog H 3 (.fptr 4 (l.map GH) i 1)=some (.int .i64 l[i].width):=by rw [IC ag3 hi']; rfl
    simp -implicitDefEqProofs only [BB,A8,BR,BI,A7,AZ,BA,AO,AQ,AL,BD,AY,AC,AA,AX,AU,BH,BJ,BO,BU,BG,CG,AB,FT,↓reduceIte,jA,jG,jB,jC,enP,VE,NV,f0,f4,EX hi',l2]
    refine CQ (fun hm => ?_) (fun hm => ?_)
    ·have hm' : ¬ l[i].mode=0:=by simpa [bne] using hm
     rw [if_neg hm'] at hbt
     have hw:IntKind.i64.wrap (NK (l.take i)+l[i].width)=NK (l.take (i+1)):=by rw [hbt,wrap_i64 (by omega) (by omega)]
     simp -implicitDefEqProofs only [A8,A7,EO,FO,AZ,BA,AO,AQ,AL,BD,AY,AC,AA,AX,AU,BH,BJ,BC,BO,BU,BG,CG,AB,D6,↓reduceIte,jA,jG,jB,jC,enP,VE,OO,f0,f3,f4,EX hi',l1,hw,wrap_succ (show i < 9223372036854775807 by omega)]
     refine ⟨n - 1,by omega,i+1,by omega,hb2,by trivial,rfl,rfl,trivial⟩
    ·have hm':l[i].mode=0:=by simpa [bne] using hm
     rw [if_pos hm',Int.add_zero] at hbt
     simp -implicitDefEqProofs only [A8,BR,A7,EO,FO,AZ,BA,AO,AQ,AL,BD,AY,AC,AA,AX,AU,BH,BJ,BC,BU,AB,D6,↓reduceIte,jA,jB,jC,enP,f4,wrap_succ (show i < 9223372036854775807 by omega)]
     refine ⟨n - 1,by omega,i+1,by omega,hb2,by trivial,by rw [hbt]; exact f3,rfl,trivial⟩
  ·have hi' : ¬ i < l.length:=by simpa using hc
   simp -implicitDefEqProofs only [EF,FC,MG,F8,AA,↓reduceIte,jA]
   refine ⟨f0,?_,trivial,PG vrE l fun j hj=>hb j (by omega) hj⟩
   rw [jY (by omega)] at f3; exact f3
 ·rintro F H ⟨f0,f3,rfl,hz⟩
  have hall:=PE hz
  have hnm : ∀ v∈l,JF v.name=true∧v.name.size≤1048576:=by
   intro v hv
   have:=hall v hv
   unfold vrE at this
   split at this
   ·rename_i hn; exact ⟨hn,hs v hv⟩
   ·cases this
  have hv1 : ∀ b,AKS l=b→KU l=if b=true then 8 else if (l.any fun v=>QB l v.name)=true then 10 else if NK l > 20 then 2 else 0:=fun b hb=>by
   unfold KU; rw [if_neg hlen,if_neg (by simp [hz]),hb]
  simp -implicitDefEqProofs only [BB,CE,A8,A7,F6,AZ,BA,AO,AQ,AL,BD,AY,AC,AU,BH,BC,↓reduceIte,jB,jC]
  refine IY 2 (fun F' H'=>F' 0 = .sl m 4 (l.map GH)∧F' 3 = .int .i64 (NK l)∧H'=H∧AKS l=false) (fun F' H'=>F' 2 = .int .i64 (KU l)∧H'=H) ?_ ?_ ?_
  ·refine EG (fun n F' H' => ∃ i,n+i=l.length∧(∀ (j:Nat) (hj:j < i) (hl:j < l.length),plc (l.take j) l[j].name < 0)∧F' 0 = .sl m 4 (l.map GH)∧F' 3 = .int .i64 (NK l)∧F' 6 = .int .i64 (i:Nat)∧H'=H) l.length ⟨0,by simp,fun j hj=>absurd hj (by omega),by simp -implicitDefEqProofs only [AA,↓reduceIte,jA,f0],by simp -implicitDefEqProofs only [AA,↓reduceIte,jA,f3],by simp -implicitDefEqProofs only [AA,↓reduceIte]; rfl,rfl⟩ ?_
   clear f0 f3
   rintro n F H ⟨i,hi,hb,f0,f3,f6,rfl⟩
   simp -implicitDefEqProofs only [BB,A8,BI,A7,AZ,BA,AO,AQ,AL,BD,AY,AC,AA,AX,BJ,BU,FP,AB,DV,↓reduceIte,jA,jB,jC,enP,RH,f0,f6,jR]
   refine CQ (fun hc => ?_) (fun hc => ?_)
   ·have hi':i < l.length:=by simpa using hc
    have l0:DR Tryz.prog H 9 (.fptr 4 (l.map GH) i 0)=some (.str l[i].name):=by rw [IC ag9 hi']; rfl
    obtain ⟨m',ht⟩:=A15 (h:=H) (m:=m) (Nat.le_of_lt hi')
    simp -implicitDefEqProofs only [BB,CE,BR,A7]
    refine EK (by kernel_rfl) ?_
    simp -implicitDefEqProofs only [ET,qP,Option.map_none,DK,CY,DL,EH,EC,HY,X5,C9,D9,EI,EE,AO,AA,AX,AU,BN,BH,BO,BU,OG,BG,CG,AB,jF,jD,jE,↓reduceIte,jA,jL,jH,jB,enP,VE,PI,f0,f6,ht,EX hi',l0]
    refine ⟨_,XP G (l.take i) m' l[i].name _ (by rw [qG]; omega),?_⟩
    simp -implicitDefEqProofs only [CY,D7,BI,A7,AA,AX,AB,FV,↓reduceIte]
    refine CQ (fun he => ?_) (fun he => ?_)
    ·simp -implicitDefEqProofs only [BB,A8,BK,A7,CJ,D8,L6,F9,AZ,BA,AO,AQ,AL,BD,AY,AC,AA,AU,BH,BC,↓reduceIte,jB,jC]
     refine ⟨?_,trivial⟩
     rw [hv1 true (AIM hi' (by simpa using he))]; rfl
    ·simp -implicitDefEqProofs only [A8,BR,A7,EO,FO,AZ,BA,AO,AQ,AL,BD,AY,AC,AA,AX,AU,BH,BJ,BC,BU,AB,D6,↓reduceIte,jA,jB,jC,enP,f6,wrap_succ (show i < 9223372036854775807 by omega)]
     refine ⟨n - 1,by omega,i+1,by omega,fun j hj hl => ?_,f0,f3,rfl,trivial⟩
     rcases jV j i with h1 | h1
     ·exact hb j h1 hl
     ·obtain rfl:j=i:=by omega
      simpa using he
   ·have hi' : ¬ i < l.length:=by simpa using hc
    simp -implicitDefEqProofs only [EF,FC,MG,F8,AA,↓reduceIte,jA]
    exact ⟨f0,f3,trivial,AEQ fun j hj=>hb j (by omega) hj⟩
  ·rintro F' H' ⟨g0,g3,rfl,hd⟩
   have hv2:=hv1 _ hd
   simp -implicitDefEqProofs only [BB,A8,A7,F6,AZ,AO,AQ,AL,BD,AY,AC,AA,AX,BN,BJ,BV,BP,jF,jD,jE,↓reduceIte,jB,jC,g0]
   refine (AUZ G l m _ hl hnm).use ?_
   simp -implicitDefEqProofs only [BI,A7,BA,AC,AA,AX,↓reduceIte]
   refine CQ (fun hg => ?_) (fun hg => ?_)
   ·simp -implicitDefEqProofs only [BB,A8,BK,A7,CJ,CV,AZ,BA,AO,AQ,AL,BD,AY,AC,AA,AU,BH,BC,↓reduceIte,jB,jC]
    exact ⟨by rw [hv2,hg]; rfl,trivial⟩
   simp -implicitDefEqProofs only [BB,A8,BR,BI,A7,AZ,BA,AO,AQ,AL,BD,AY,AC,AA,AX,AU,BH,BJ,BU,AB,FM,↓reduceIte,jA,jB,jC,enP,g3]
   refine CQ (fun hx => ?_) (fun hx => ?_)
   ·simp -implicitDefEqProofs only [BB,A8,BK,A7,CJ,CV,AZ,BA,AO,AQ,AL,BD,AY,AC,AA,AU,BH,BC,↓reduceIte,jB,jC]
    refine ⟨?_,trivial⟩
    rw [hv2,hg,if_neg (by decide),if_neg (by decide),if_pos (by simpa using hx)]
   ·simp -implicitDefEqProofs only [BB,A8,BR,BK,A7,CV,AZ,BA,AO,AQ,AL,BD,AY,AC,AA,AU,BH,BC,↓reduceIte,jB,jC]
    refine ⟨?_,trivial⟩
    rw [hv2,hg,if_neg (by decide),if_neg (by decide),if_neg (by simpa using hx)]
  ·rintro F' H' ⟨g2,rfl⟩
   simp -implicitDefEqProofs only [CJ,D8,CV,g2]
   exact ⟨trivial,trivial⟩
 ·rintro F H ⟨f2,rfl⟩
  simp -implicitDefEqProofs only [CJ,D8,CV,f2]
  exact ⟨trivial,trivial⟩
theorem A0L (G:Nat→AV) (hG:GOk G) (l:List Vr) (m:SM) (v:Vr) (c:Nat) (h:Hp) (hc:h[c]? = some (.live 1 [[.sl m 4 (l.map GH)]])) (hl:l.length≤1048576) (hs:v.name.size≤1048576) (hv:JF v.name=true) :
  PCall (En G) 106 ([.agg (GH v)] ++ [.ptr c 0 0]) h (.bool (QB l v.name)):=by
 refine ACalls.pure0 rfl ?_
 refine acN Tryz.func106 rfl ?_
 show awp _ _ _ _ _ (EN _ [.tmp 3] _)
 have hc':(h ++ [ABlk.live 4 [GH v]])[c]? = _:=DC hc
 simp -implicitDefEqProofs only [BB,A8,A7,AZ,BA,AO,AQ,AL,BD,AY,AC,AA,AX,AU,BN,BM,BC,FQ,BO,BG,BV,BP,CB,AB,BF,BQ,jF,jD,jE,zJ,zV,↓reduceIte,jA,jH,jB,jC,enP,PI,bxV,E5 ag9,ARV,I8 VI hc']
 refine (ARA G hG l m v.name _ (by omega) hs hv).use ?_
 simp -implicitDefEqProofs only [BK,A7,CV,AZ,BA,AO,AQ,AL,BD,AY,AC,AA,AX,BC,↓reduceIte,jB,jC]
 exact ⟨trivial,_,rfl⟩
set_option maxHeartbeats 1000000 in
theorem ANE (G:Nat→AV) (hG:GOk G) (l:List Vr) (m:SM) (h:Hp) (hl:l.length≤1048576) (hs : ∀ v∈l,v.name.size≤1048576):PCall (En G) 57 [.sl m 4 (l.map GH)] h (.int .i64 (KU l)):=by
 refine ACalls.pure0 rfl ?_
 refine acN Tryz.func57 rfl ?_
 show awp _ _ _ _ _ (EN _ [.tmp 2] _)
 have hb0:(h ++ [ABlk.live 1 [[.sl m 4 (l.map GH)]]])[h.length]? = some (.live 1 [[.sl m 4 (l.map GH)]]):=DF _ _
 simp -implicitDefEqProofs only [AK4,BB,A8,BI,A7,AZ,BA,AO,AQ,AL,BD,AY,AC,AA,AX,AU,BH,BC,FQ,BO,BU,FP,CB,AB,FM,BF,↓reduceIte,jA,jB,jC,enP,RH,AK4,I8 VI hb0,jR]
 refine CQ (fun hc => ?_) (fun hc => ?_)
 ·simp -implicitDefEqProofs only [BB,A8,BK,A7,CJ,CV,AZ,BA,AO,AQ,AL,BD,AY,AC,AA,AU,BH,BC,↓reduceIte,jB,jC]
  exact ⟨by unfold KU; rw [if_pos (by simp at hc; omega)],_,rfl⟩
 have hlen : ¬ l.length > 16:=by simp at hc; omega
 simp -implicitDefEqProofs only [BB,CE,A8,BR,A7,AZ,BA,AO,AQ,AL,BD,AY,AC,AA,AX,AU,BH,BJ,BO,FP,AB,↓reduceIte,jA,jB,jC,enP,RH,I8 VI hb0,jR]
 refine IY 0 (fun F H=>F 1 = .ptr h.length 0 0∧H[h.length]? = some (.live 1 [[.sl m 4 (l.map GH)]])∧ext h H∧PH vrE l=0) (fun F H=>F 2 = .int .i64 (KU l)∧ext h H) ?_ ?_ ?_
 ·refine EG (fun n F H => ∃ i,n+i=l.length∧(∀ (j:Nat) (hj:j < i) (hl:j < l.length),vrE l[j]=0)∧F 1 = .ptr h.length 0 0∧F 11 = .sl m 4 (l.map GH)∧F 12 = .int .i64 (l.length:Nat)∧F 13 = .int .i64 (i:Nat)∧H[h.length]? = some (.live 1 [[.sl m 4 (l.map GH)]])∧ext h H) l.length ⟨0,by simp,fun j hj=>absurd hj (by omega),by simp -implicitDefEqProofs only [AA,↓reduceIte,jA],by simp -implicitDefEqProofs only [AA,↓reduceIte,jA],by simp -implicitDefEqProofs only [AA,↓reduceIte,jA],by simp -implicitDefEqProofs only [AA,↓reduceIte]; rfl,hb0,⟨_,rfl⟩⟩ ?_
  rintro n F H ⟨i,hi,hb,f1,f11,f12,f13,hH,he⟩
  simp -implicitDefEqProofs only [BB,A8,BI,A7,AZ,BA,AO,AQ,AL,BD,AY,AC,AA,AX,BU,AB,DV,↓reduceIte,jB,jC,enP,f12,f13]
  refine CQ (fun hc => ?_) (fun hc => ?_)
  ·have hi':i < l.length:=by simpa using hc
   have hH1:(H ++ [ABlk.live 4 [GH l[i]]])[h.length]? = _:=DC hH
   have hx1:ext h (H ++ [ABlk.live 4 [GH l[i]]]):=he.app _
   have ge:=DF H (ABlk.live 4 [GH l[i]])
   have hsv:=hs _ (jT hi')
   have hstp : ∀ (n':Nat),vrE l[i]=0→∃ m',m' < n∧∃ k,m'+k=l.length∧(∀ (j:Nat) (hj:j < k) (hl:j < l.length),vrE l[j]=0)∧k=i+1:=fun _ hz =>
    ⟨n - 1,by omega,i+1,by omega,fun j hj hl=>by
     rcases jV j i with h1 | h1
     ·exact hb j h1 hl
     ·obtain rfl:j=i:=by omega
      exact hz,rfl⟩
   have hbad:vrE l[i]≠0→KU l=vrE l[i]:=fun hz=>by
    have:=RP vrE l i hi' (fun j hj=>hb j hj (by omega)) hz
    unfold KU
    rw [if_neg hlen,this,if_pos hz]
   simp -implicitDefEqProofs only [BB,CE,A8,BR,A7,AZ,BA,AO,AQ,AL,BD,AY,AC,DU,AA,AX,EZ,BO,CU,BG,CG,CB,AB,BZ,↓reduceIte,jA,jH,jB,jC,enP,VE,PI,jK,f11,f13,EX hi',ldV hi',AYW,AW8]
   generalize H ++ [ABlk.live 4 [GH l[i]]]=H1 at hH1 hx1 ge ⊢
   have l0:DR Tryz.prog H1 9 (.ptr H.length 0 0)=some (.str l[i].name):=by rw [DJ ag9 ge (row:=GH l[i]) rfl]; rfl
   have l1:DR Tryz.prog H1 3 (.ptr H.length 0 1)=some (.int .i64 l[i].width):=by rw [DJ ag3 ge (row:=GH l[i]) rfl]; rfl
   have l2:DR Tryz.prog H1 3 (.ptr H.length 0 2)=some (.int .i64 l[i].mode):=by rw [DJ ag3 ge (row:=GH l[i]) rfl]; rfl
   have l3:DR Tryz.prog H1 3 (.ptr H.length 0 3)=some (.int .i64 l[i].value):=by rw [DJ ag3 ge (row:=GH l[i]) rfl]; rfl
   generalize hv:l[i]=v at hsv hstp hbad l0 l1 l2 l3
   simp -implicitDefEqProofs only [AZ,AO,AQ,AL,BD,AY,AC,AA,AX,BN,BV,BP,AB,jF,jD,jE,↓reduceIte,jB,jC,l0]
   refine (AJ2 G hG v.name _ hsv).use ?_
   cases hn:JF v.name
   ·simp -implicitDefEqProofs only [BB,A8,BK,BI,A7,CJ,D8,L6,F9,DI,AZ,BA,AO,AQ,AL,BD,AY,AC,AA,AX,AU,BH,BC,JG,AB,GG,↓reduceIte,jB,jC]
    have:vrE v=7:=by unfold vrE; rw [hn]; rfl
    exact ⟨by rw [hbad (by rw [this]; decide),this],hx1⟩
   have fin : ∀ b,MF v=b→vrE v=if b=true then 1 else 0:=fun b hb=>by unfold vrE; rw [hn,hb]; rfl
   have yes:MF v=true→AV.int .i64 1=AV.int .i64 (KU l):=fun hb=>by
    have:=fin true hb
    rw [hbad (by rw [this]; decide),this]; rfl
   simp -implicitDefEqProofs only [BB,BR,BI,A7,DN,AZ,BA,AO,AQ,AL,BD,AY,AC,AA,AX,JG,AB,GG,↓reduceIte,jB,jW,jC]
   refine EK (by kernel_rfl) ?_
   cases b1:decide (v.width < 1)
   case true =>
    simp -implicitDefEqProofs only [ET,DK,CY,D7,DL,EJ,E8,QE,ALJ,EH,GK,EC,HY,C9,BB,A8,BK,BI,A7,CJ,D8,L6,F9,DI,AZ,BA,CO,AO,AQ,AL,BD,AY,AC,AA,EQ,AX,AU,BH,BM,BC,CP,DW,BO,BU,BG,AB,DV,↓reduceIte,jA,jL,jG,jB,jC,enP,OO,l1,b1]
    exact ⟨yes (by unfold MF; rw [b1]; simp),hx1⟩
   cases b2:decide (v.width > 8)
   case true =>
    simp -implicitDefEqProofs only [ET,DK,CY,D7,DL,EJ,E8,O0,QE,ALJ,EH,GK,EC,HY,C9,BB,A8,BK,BI,A7,CJ,D8,L6,F9,DI,AZ,BA,CO,AO,AQ,AL,BD,AY,AC,AA,EQ,AX,AU,BH,BM,BC,CP,DW,DZ,BO,BU,BG,AB,DV,FM,↓reduceIte,jA,jL,jG,jB,jC,enP,OO,l1,b1,b2]
    exact ⟨yes (by unfold MF; rw [b2]; simp),hx1⟩
   cases b3:decide (v.mode < 0)
   case true =>
    simp -implicitDefEqProofs only [ET,DK,CY,D7,DL,EJ,E8,O0,QE,ALJ,EH,GK,EC,HY,C9,BB,A8,BK,BI,A7,CJ,D8,L6,F9,DI,AZ,BA,CO,AO,AQ,AL,BD,AY,AC,AA,EQ,AX,AU,BH,BM,BC,CP,DW,DZ,BO,BU,BG,AB,DV,FM,↓reduceIte,jA,jL,jG,jB,jC,enP,OO,NV,l1,l2,b1,b2,b3]
    exact ⟨yes (by unfold MF; rw [b3]; simp),hx1⟩
   cases b4:decide (v.mode > 2)
   case true =>
    simp -implicitDefEqProofs only [ET,DK,CY,D7,DL,EJ,E8,O0,QE,ALJ,EH,GK,EC,HY,C9,BB,A8,BK,BI,A7,CJ,D8,L6,F9,DI,AZ,BA,CO,AO,AQ,AL,BD,AY,AC,AA,EQ,AX,AU,BH,BM,BC,CP,DW,DZ,BO,BU,BG,AB,DV,FM,↓reduceIte,jA,jL,jG,jB,jC,enP,OO,NV,l1,l2,b1,b2,b3,b4]
    exact ⟨yes (by unfold MF; rw [b4]; simp),hx1⟩
   cases b5:decide (v.value < 0)
   case true =>
    simp -implicitDefEqProofs only [ET,DK,CY,D7,DL,EJ,E8,O0,QE,ALJ,EH,GK,EC,HY,C9,BB,A8,BK,BI,A7,CJ,D8,L6,F9,DI,AZ,BA,CO,AO,AQ,AL,BD,AY,AC,AA,EQ,AX,AU,BH,BM,BC,CP,DW,DZ,BO,BU,BG,AB,DV,FM,↓reduceIte,jA,jL,jG,jB,jC,enP,OO,NV,XQ,l1,l2,l3,b1,b2,b3,b4,b5]
    exact ⟨yes (by unfold MF; rw [b5]; simp),hx1⟩
   have hsh:=AV8 (by simpa using b1) (by simpa using b2)
   cases b6:decide (v.value≥2 ^ v.width.toNat)
   case true =>
    simp -implicitDefEqProofs only [ET,DK,CY,D7,DL,EJ,E8,O0,QE,ALJ,EH,GK,EC,HY,C9,BB,A8,BK,BI,A7,CJ,D8,L6,F9,DI,AZ,BA,CO,AO,AQ,AL,BD,AY,AC,AA,EQ,AX,AU,BH,BM,BC,CP,DW,DZ,BO,BU,BG,AB,DV,FM,FV,↓reduceIte,jA,jL,jG,jB,jC,enP,OO,NV,XQ,l1,l2,l3,hsh,b1,b2,b3,b4,b5,b6]
    exact ⟨yes (by unfold MF; rw [b6]; simp),hx1⟩
   cases b7:(v.mode == 0) <;> cases b8:(v.value == 0)
   case false.false =>
    simp -implicitDefEqProofs only [ET,DK,CY,D7,DL,EJ,E8,NQ,O0,EH,GK,EC,HY,C9,BB,A8,BK,BI,A7,CJ,D8,L6,F9,DI,AZ,BA,CO,AO,AQ,AL,BD,AY,AC,AA,AX,AU,BH,BM,BC,CP,DW,DZ,BO,BU,BG,AB,FT,DV,FM,FV,↓reduceIte,jA,jL,jG,jB,jC,enP,OO,NV,XQ,l1,l2,l3,hsh,b1,b2,b3,b4,b5,b6,b7,b8,bne]
    exact ⟨yes (by unfold MF; rw [b7,b8]; simp),hx1⟩
   all_goals
    have hz:=fin false (by unfold MF; rw [b1,b2,b3,b4,b5,b6,b7,b8]; rfl)
    obtain ⟨m',hm,k,k1,k2,rfl⟩:=hstp 0 hz
    simp -implicitDefEqProofs only [ET,DK,CY,D7,DL,EJ,E8,NQ,O0,SC,EH,GK,EC,HY,C9,A8,BR,BI,A7,EO,FO,DN,AZ,BA,CO,AO,AQ,AL,BD,AY,AC,AA,EQ,AX,AU,BH,BM,BJ,CP,DW,DZ,BO,BU,BG,AB,D6,FT,DV,FM,FV,↓reduceIte,jA,jL,jG,jB,jW,jC,enP,OO,NV,XQ,l1,l2,l3,hsh,b1,b2,b3,b4,b5,b6,b7,b8,bne,f13,wrap_succ (show i < 9223372036854775807 by omega)]
    exact ⟨m',hm,i+1,k1,k2,by trivial,by trivial,by trivial,rfl,hH1,hx1⟩
  ·have hi' : ¬ i < l.length:=by simpa using hc
   simp -implicitDefEqProofs only [EF,FC,MG,F8,AA,↓reduceIte,jA]
   exact ⟨f1,hH,he,PG vrE l fun j hj=>hb j (by omega) hj⟩
 ·rintro F H ⟨f1,hH,he,hz⟩
  have hall:=PE hz
  have hnm : ∀ v∈l,JF v.name=true∧v.name.size≤1048576:=by
   intro v hv
   have:=hall v hv
   unfold vrE at this
   split at this
   ·rename_i hn; exact ⟨hn,hs v hv⟩
   ·cases this
  have hv1 : ∀ b,AKS l=b→KU l=if b=true then 8 else if (l.any fun v=>QB l v.name)=true then 10 else if NK l > 20 then 2 else 0:=fun b hb=>by
   unfold KU; rw [if_neg hlen,if_neg (by simp [hz]),hb]
  simp -implicitDefEqProofs only [BB,CE,A8,A7,F6,AZ,BA,AO,AQ,AL,BD,AY,AC,AA,AX,AU,BH,BJ,BC,BO,FP,AB,↓reduceIte,jA,jB,jC,enP,RH,f1,I8 VI hH,jR]
  refine IY 2 (fun F' H'=>F' 1 = .ptr h.length 0 0∧F' 5 = .int .i64 (NK l)∧H'[h.length]? = some (.live 1 [[.sl m 4 (l.map GH)]])∧ext h H'∧AKS l=false) (fun F' H'=>F' 2 = .int .i64 (KU l)∧ext h H') ?_ ?_ ?_
  ·refine EG (fun n F' H' => ∃ i,n+i=l.length∧(∀ (j:Nat) (hj:j < i) (hl:j < l.length),plc (l.take j) l[j].name < 0)∧F' 1 = .ptr h.length 0 0∧F' 5 = .int .i64 (NK (l.take i))∧F' 63 = .sl m 4 (l.map GH)∧F' 64 = .int .i64 (l.length:Nat)∧F' 65 = .int .i64 (i:Nat)∧H'[h.length]? = some (.live 1 [[.sl m 4 (l.map GH)]])∧ext h H') l.length ⟨0,by simp,fun j hj=>absurd hj (by omega),by simp -implicitDefEqProofs only [AA,↓reduceIte,jA,f1],by simp -implicitDefEqProofs only [AA,↓reduceIte,jA]; rfl,by simp -implicitDefEqProofs only [AA,↓reduceIte,jA],by simp -implicitDefEqProofs only [AA,↓reduceIte,jA],by simp -implicitDefEqProofs only [AA,↓reduceIte]; rfl,hH,he⟩ ?_
   clear f1 hH he
   rintro n F H ⟨i,hi,hb,f1,f5,f63,f64,f65,hH,he⟩
   simp -implicitDefEqProofs only [BB,A8,BI,A7,AZ,BA,AO,AQ,AL,BD,AY,AC,AA,AX,BU,AB,DV,↓reduceIte,jB,jC,enP,f64,f65]
   refine CQ (fun hc => ?_) (fun hc => ?_)
   ·have hi':i < l.length:=by simpa using hc
    have hH1:(H ++ [ABlk.live 4 [GH l[i]]])[h.length]? = _:=DC hH
    have hx1:ext h (H ++ [ABlk.live 4 [GH l[i]]]):=he.app _
    have ge:=DF H (ABlk.live 4 [GH l[i]])
    simp -implicitDefEqProofs only [BB,CE,A8,BR,A7,AZ,BA,AO,AQ,AL,BD,AY,AC,DU,AA,AX,BJ,BC,EZ,BO,CU,CG,CB,AB,BZ,↓reduceIte,jA,jB,jC,enP,VE,jK,f63,f65,EX hi',ldV hi',AYW,AW8]
    generalize H ++ [ABlk.live 4 [GH l[i]]]=H1 at hH1 hx1 ge ⊢
    have l0:DR Tryz.prog H1 9 (.ptr H.length 0 0)=some (.str l[i].name):=by rw [DJ ag9 ge (row:=GH l[i]) rfl]; rfl
    have l1:DR Tryz.prog H1 3 (.ptr H.length 0 1)=some (.int .i64 l[i].width):=by rw [DJ ag3 ge (row:=GH l[i]) rfl]; rfl
    have l2:DR Tryz.prog H1 3 (.ptr H.length 0 2)=some (.int .i64 l[i].mode):=by rw [DJ ag3 ge (row:=GH l[i]) rfl]; rfl
    simp -implicitDefEqProofs only [AZ,AO,AQ,AL,BD,AY,AC,AA,AX,BN,BO,BG,BV,BP,AB,jF,jD,jE,↓reduceIte,jA,jH,jB,jC,enP,PI,f1,I8 VI hH1,l0]
    refine (index_prog G l m l[i].name _ (by omega)).use ?_
    simp -implicitDefEqProofs only [BI,A7,AZ,BA,AO,AQ,AL,BD,AY,AC,AA,AX,BJ,BU,AB,FT,↓reduceIte,jA,jB,jC,enP]
    refine CQ (fun hd => ?_) (fun hd => ?_)
    ·simp -implicitDefEqProofs only [BB,A8,BK,A7,CJ,D8,L6,F9,AZ,BA,AO,AQ,AL,BD,AY,AC,AA,AU,BH,BC,↓reduceIte,jB,jC]
     refine ⟨?_,hx1⟩
     rw [hv1 true (AIM hi' ((AHP hi').1 (by simpa [bne] using hd)))]; rfl
    have hnd:plc (l.take i) l[i].name < 0:=by
     rcases Int.lt_or_le (plc (l.take i) l[i].name) 0 with h1 | h1
     ·exact h1
     ·exact absurd (by simpa [bne] using hd) ((AHP hi').2 h1)
    have hb2 : ∀ (j:Nat) (hj:j < i+1) (hl:j < l.length),plc (l.take j) l[j].name < 0:=fun j hj hl=>by
     rcases jV j i with h1 | h1
     ·exact hb j h1 hl
     ·obtain rfl:j=i:=by omega
      exact hnd
    have hbt:=XV hi'
    have hbd:=AC6 l hall (i+1) (by omega)
    simp -implicitDefEqProofs only [BB,A8,BR,BI,A7,AZ,BA,AO,AQ,AL,BD,AY,AC,AA,AX,AU,BH,BO,BU,BG,AB,FT,↓reduceIte,jA,jG,jB,jC,enP,NV,l2]
    refine CQ (fun hm => ?_) (fun hm => ?_)
    ·have hm' : ¬ l[i].mode=0:=by simpa [bne] using hm
     rw [if_neg hm'] at hbt
     have hw:IntKind.i64.wrap (NK (l.take i)+l[i].width)=NK (l.take (i+1)):=by rw [hbt,wrap_i64 (by omega) (by omega)]
     simp -implicitDefEqProofs only [A8,A7,EO,FO,AZ,BA,AO,AQ,AL,BD,AY,AC,AA,AX,AU,BH,BJ,BC,BO,BU,BG,AB,D6,↓reduceIte,jA,jG,jB,jC,enP,OO,f5,f65,l1,hw,wrap_succ (show i < 9223372036854775807 by omega)]
     exact ⟨n - 1,by omega,i+1,by omega,hb2,by trivial,rfl,by trivial,by trivial,rfl,hH1,hx1⟩
    ·have hm':l[i].mode=0:=by simpa [bne] using hm
     rw [if_pos hm',Int.add_zero] at hbt
     simp -implicitDefEqProofs only [A8,BR,A7,EO,FO,AZ,BA,AO,AQ,AL,BD,AY,AC,AA,AX,AU,BH,BJ,BU,AB,D6,↓reduceIte,jA,jB,jC,enP,f65,wrap_succ (show i < 9223372036854775807 by omega)]
     exact ⟨n - 1,by omega,i+1,by omega,hb2,by trivial,by rw [hbt]; exact f5,by trivial,by trivial,rfl,hH1,hx1⟩
   ·have hi' : ¬ i < l.length:=by simpa using hc
    simp -implicitDefEqProofs only [EF,FC,MG,F8,AA,↓reduceIte,jA]
    refine ⟨f1,?_,hH,he,AEQ fun j hj=>hb j (by omega) hj⟩
    rw [jY (by omega)] at f5; exact f5
  ·rintro F' H' ⟨g1,g5,hH',he',hd⟩
   have hv2:=hv1 _ hd
   simp -implicitDefEqProofs only [BB,CE,A8,A7,F6,AZ,AO,AQ,AL,BD,AY,AC,AA,AX,BN,BO,JQ,BV,BP,AB,jF,jD,jE,↓reduceIte,jA,jB,jC,enP,g1,I8 VI hH']
   refine (AUT G l m 106 [.ptr h.length 0 0] (fun v=>QB l v.name) H' (by omega) fun v hv=>A0L G hG l m v _ _ hH' hl (hnm v hv).2 (hnm v hv).1).use ?_
   simp -implicitDefEqProofs only [BI,A7,AZ,BA,AO,AQ,AL,BD,AY,AC,AA,AX,BC,↓reduceIte,jB,jC]
   refine CQ (fun hg => ?_) (fun hg => ?_)
   ·simp -implicitDefEqProofs only [BB,A8,BK,A7,CJ,D8,CV,AZ,BA,AO,AQ,AL,BD,AY,AC,AA,AU,BH,BC,↓reduceIte,jB,jC]
    exact ⟨by rw [hv2,hg]; rfl,he'⟩
   simp -implicitDefEqProofs only [BB,A8,BI,A7,AZ,BA,AO,AQ,AL,BD,AY,AC,AA,AX,AU,BH,BJ,BC,BU,AB,FM,↓reduceIte,jA,jB,jC,enP,g5]
   refine CQ (fun hx => ?_) (fun hx => ?_)
   ·simp -implicitDefEqProofs only [BB,A8,BK,A7,CJ,D8,CV,AZ,BA,AO,AQ,AL,BD,AY,AC,AA,AU,BH,BC,↓reduceIte,jB,jC]
    refine ⟨?_,he'⟩
    rw [hv2,hg,if_neg (by decide),if_neg (by decide),if_pos (by simpa using hx)]
   ·simp -implicitDefEqProofs only [BB,A8,BR,BK,A7,EO,CV,AZ,BA,AO,AQ,AL,BD,AY,AC,AA,AU,BH,BC,↓reduceIte,jB,jC]
    refine ⟨?_,he'⟩
    rw [hv2,hg,if_neg (by decide),if_neg (by decide),if_neg (by simpa using hx)]
  ·rintro F' H' ⟨g2,he'⟩
   simp -implicitDefEqProofs only [CJ,D8,CV,g2]
   exact ⟨trivial,he'⟩
 ·rintro F H ⟨f2,he⟩
  simp -implicitDefEqProofs only [CJ,D8,CV,f2]
  exact ⟨trivial,he⟩
theorem AN4 (i:Nat):decide ((i:Int) < 0)=false:=by rw [decide_eq_false_iff_not]; omega
theorem A0G:Frz CW:=fun n h d x=>by
 rw [NR]; exact ⟨rfl,rfl⟩
def growR_ren:Go.Shelf.Ren:=⟨fun | 4=>160 | n=>n,fun | 22=>23 | 25=>40 | 3=>3 | 4=>4 | 9=>9 | 20=>20 | 0=>0 | n=>n,fun | n=>n⟩
theorem AWJ:Go.Proofs.Lays8.n4 Tryz.prog growR_ren := {
 mixed:=by kernel_rfl,
 f4:=⟨Tryz.f160.name,by decide,Tryz.func160.trans (congrArg some (by kernel_rfl))⟩,
 t0:=Tryz.underlying0,
 a0:=Tryz.isAgg0,
 z0:=Tryz.sizeOf0,
 v0:=Tryz.zeroValue0,
 t3:=Tryz.underlying3,
 a3:=Tryz.isAgg3,
 z3:=Tryz.sizeOf3,
 v3:=Tryz.zeroValue3,
 t4:=Tryz.underlying4,
 a4:=Tryz.isAgg4,
 z4:=Tryz.sizeOf4,
 v4:=Tryz.zeroValue4,
 t9:=Tryz.underlying9,
 a9:=Tryz.isAgg9,
 z9:=Tryz.sizeOf9,
 v9:=Tryz.zeroValue9,
 t20:=Tryz.underlying20,
 a20:=Tryz.isAgg20,
 z20:=Tryz.sizeOf20,
 v20:=Tryz.zeroValue20,
 t22:=Tryz.underlying23,
 a22:=Tryz.isAgg23,
 z22:=Tryz.sizeOf23,
 v22:=Tryz.zeroValue23 }
theorem AS8 (z:Array Value) (n:Nat):(Builtin.zeroCells z n).size=n * z.size:=by simp [Builtin.zeroCells]
theorem AOJ (G:Nat→AV) (n:Nat) (hn:n≤1048576) (h:Hp):ACalls (En G) 160 [.sl .nil 0 [],.int .i64 (n:Nat)] h fun v H=>(n=0∧v = .sl .nil 0 []∧H=h)∨(0 < n∧v = .own h.length 0 0∧H=h ++ [.live 4 []]):=by
 refine ⟨cok 160 G (by kernel_rfl),fun g w cargs S ha => ?_⟩
 obtain ⟨hsz,hget⟩:=ha
 obtain ⟨cv0,cv1,rfl⟩ : ∃ a b,cargs = #[a,b]:=by
  obtain ⟨l⟩:=cargs
  match l,hsz with
  | [a,b],_=>exact ⟨a,b,rfl⟩
 have r0:=(hget 0 _ cv0 rfl rfl).sl_inv
 obtain rfl:=(hget 1 _ cv1 rfl rfl).int_inv
 have hnil:cv0 = .slice none 0 0:=by
  cases r0 with
  | nil=>rfl
  | empty _ _ _ _ q=>exact absurd rfl q
  | sl _ _ _ _ _ _ _ _ _ _ _ q=>exact absurd rfl q
 subst hnil
 rcases Nat.eq_zero_or_pos n with h0 | h0
 ·subst h0
  refine (Any8.slices_Grow_room AWJ none 0 0 0 w (jQ _) (by omega) (by omega) (jQ _)).mono ?_
  rintro e w' ⟨rfl,rfl⟩
  exact .inl ⟨_,_,g,h,rfl,.inl ⟨rfl,rfl,rfl⟩,Gh.le.refl g,S,.fro (.nil 0)⟩
 ·have i0:Tryz.prog.info? 40=some Tryz.t40:=by kernel_rfl
  have hz:Tryz.t40.zero.isSome=true:=by kernel_rfl
  obtain ⟨z,hz⟩:=Option.isSome_iff_exists.1 hz
  have hs:Tryz.t40.size=4:=by kernel_rfl
  have hb:Tryz.t40.bytes≤64:=jJ (by kernel_rfl)
  have hmul:n * Tryz.t40.bytes≤1048576 * 64:=Nat.mul_le_mul hn hb
  have hzs:z.cells.size=4:=by
   have h1:(Tryz.t40.zero.map fun z=>z.cells.size)=some 4:=by kernel_rfl
   rw [hz] at h1; simpa using h1
  have hc:=Any8.slices_Grow_grow AWJ Tryz.t40 z i0 hz (by rw [hs]; omega) none 0 0 n [] w (jQ _) (by omega) (by rw [jG]; omega) (by omega) (by simp) (fun _=>rfl) (fun a q=>by cases q)
  refine hc.mono ?_
  rintro e w' ⟨rfl,rfl⟩
  generalize hG:grownCap w (0+n) 0 (growR_ren.t 25)=cap
  have hle:0+n≤cap:=hG ▸ grownCap_ge w _ _ _
  have hgr:Grew w (w.drew.alloc (.cells ((#[]:Array Value) ++ Builtin.zeroCells z.cells (0+n - 0) ++ Builtin.zeroCells z.cells (cap - (0+n))) (growR_ren.t 25))) (.cells ((#[]:Array Value) ++ Builtin.zeroCells z.cells (0+n - 0) ++ Builtin.zeroCells z.cells (cap - (0+n))) (growR_ren.t 25) (0,0)):=⟨rfl,rfl,rfl,rfl⟩
  have hsize:((#[]:Array Value) ++ Builtin.zeroCells z.cells (0+n - 0) ++ Builtin.zeroCells z.cells (cap - (0+n))).size=cap * 4:=by
   simp only [Array.size_append,AS8,hzs,List.size_toArray,List.length_nil]; omega
  generalize ((#[]:Array Value) ++ Builtin.zeroCells z.cells (0+n - 0) ++ Builtin.zeroCells z.cells (cap - (0+n)))=c at hgr hsize
  obtain ⟨S',hle'⟩:=S.new (k:=4) (xs := []) hgr ⟨by simp,fun i row h=>by simp at h,fun i j row v h=>by simp at h⟩
  refine .inl ⟨_,_,_,_,rfl,.inr ⟨h0,rfl,rfl⟩,hle',S',?_⟩
  exact Rep.own h.length 0 0 cap ⟨w.heap.size,0,4,c.size⟩ (by simp [Gh.adopt]) (Nat.zero_le _) (by simp only [hsize]; omega)
structure Yx where
 m:SM
 l:List Ex
def AEN (y:Yx):List AV := [.sl y.m 4 (y.l.map CW)]
theorem ARS (y:Yx):(AEN y)[0]? = some (.sl y.m 4 (y.l.map CW)):=rfl
def fl (R:List Yx):List Ex:=(R.map Yx.l).flatten
theorem AEI {R:List Yx} {i:Nat} (hi:i < R.length):fl (R.take (i+1))=fl (R.take i) ++ R[i].l:=by
 unfold fl
 rw [zY hi,List.map_append,List.flatten_append]; simp
theorem YS (R:List Yx) (i:Nat):(fl (R.take i)).length≤(fl R).length:=by
 have:fl R=fl (R.take i) ++ fl (R.drop i):=by unfold fl; rw [← List.flatten_append,← List.map_append,List.take_append_drop]
 rw [this,qB]; omega
def ATZ (h:Hp) (ys:List Ex) (v:AV) (H:Hp):Prop:=(v = .sl .nil 0 []∧ys = [])∨∃ o,h.length≤o∧v = .own o 0 ys.length∧H[o]? = some (.live 4 (ys.map CW))
theorem AP4 {h H:Hp} {xs ys:List Ex} {v:AV} (s:SM) (ho:ATZ h xs v H) (he:ext h H) (hl:xs.length+ys.length≤8388608) :
  ∃ v' H',IU Tryz.prog true H 23 23 v (.sl s 4 (ys.map CW))=some (v',H')∧ATZ h (xs ++ ys) v' H'∧ext h H'∧(v = .sl .nil 0 []→ys = []→v' = .sl .nil 0 []):=by
 cases ys with
 | nil =>
   refine ⟨v,H,?_,by rw [jE]; exact ho,he,fun q _=>q⟩
   have hcs:KO H (.sl s 4 [])=some (4,[]):=QC H s 4 []
   rcases ho with ⟨rfl,rfl⟩ | ⟨o,h2,rfl,h3⟩
   ·simp [IU,ANG,JR,VK,hcs,bump]
   ·have hc:KO H (.own o 0 xs.length)=some (4,xs.map CW):=by rw [TY h3 (by simp),List.drop_zero,jY (by simp)]
    simp [IU,ANG,JR,VK,hc,hcs,bump]
 | cons y ys =>
   have h1:(y :: ys).map CW≠[]:=by simp
   rcases ho with ⟨rfl,rfl⟩ | ⟨o,h2,rfl,h3⟩
   ·exact ⟨_,_,AGL ANG JR AY0 A0V (QC H s 4 ((y :: ys).map CW)) h1 (PV (by simp at hl ⊢; omega) (by omega)),.inr ⟨H.length,he.le,by simp,by simp⟩,he.app _,fun _ q=>by cases q⟩
   ·have hc:KO H (.own o 0 xs.length)=some (4,xs.map CW):=by rw [TY h3 (by simp),List.drop_zero,jY (by simp)]
    exact ⟨_,_,AGK ANG JR AY0 A0V hc (QC H s 4 ((y :: ys).map CW)) h1 (PV (by simp at hl ⊢; omega) (by omega)),.inr ⟨H.length,he.le,by simp,by simp⟩,(he.set h2 _).app _,fun q=>by cases q⟩
section
variable (G:Nat→AV)
set_option maxHeartbeats 4000000 in
theorem AIT (R:List Yx) (s:SM) (hR:R.length≤1048576) (hl:(fl R).length≤1048576) (h:Hp):PCall (En G) 108 [.sl s 1 (R.map AEN)] h (.sl (Cov.nm (fl R)) 4 ((fl R).map CW)):=by
 refine ZI A0G ?_
 refine acN Tryz.func108 rfl ?_
 show awp _ _ _ _ _ (EN _ [.tmp 2] _)
 simp -implicitDefEqProofs only [BB,CE,A8,A7,AZ,BA,AO,AQ,AL,BD,AY,AC,AA,AX,AU,BH,KZ,BJ,BC,FP,AB,BF,↓reduceIte,jA,jB,jC,enP,AWC,jR]
 refine IY 0 (fun F H'=>F 0 = .sl s 1 (R.map AEN)∧F 3 = .int .i64 ((fl R).length:Nat)∧H'=h) (fun _ _=>False) ?_ ?_ (fun _ _ q=>q.elim)
 ·refine EG (fun n F H' => ∃ i,n+i=R.length∧F 0 = .sl s 1 (R.map AEN)∧F 3 = .int .i64 ((fl (R.take i)).length:Nat)∧F 9 = .sl s 1 (R.map AEN)∧F 10 = .int .i64 (R.length:Nat)∧F 11 = .int .i64 (i:Nat)∧H'=h) R.length
   ⟨0,by simp,by simp -implicitDefEqProofs only [AA,BF,↓reduceIte,jA],by simp -implicitDefEqProofs only [AA,↓reduceIte,jA] <;> rfl,by simp -implicitDefEqProofs only [AA,↓reduceIte,jA],by simp -implicitDefEqProofs only [AA,↓reduceIte,jA],by simp -implicitDefEqProofs only [AA,↓reduceIte] <;> rfl,rfl⟩ ?_
  rintro n F H ⟨i,hi,f0,f3,f9,f10,f11,rfl⟩
  simp -implicitDefEqProofs only [BB,A8,BI,A7,AZ,BA,AO,AQ,AL,BD,AY,AC,AA,AX,BU,AB,DV,↓reduceIte,jB,jC,enP,f10,f11]
  refine CQ (fun hc => ?_) (fun hc => ?_)
  ·have hi':i < R.length:=by simpa using hc
   have hfl:=AEI hi'
   have hle:=YS R (i+1)
   rw [hfl,qB] at hle
   have hw:IntKind.i64.wrap ((((fl (R.take i)).length:Nat):Int)+((R[i].l.length:Nat):Int))=(((fl (R.take (i+1))).length:Nat):Int):=by rw [hfl,qB,wrap_i64 (by omega) (by omega)]; omega
   simp -implicitDefEqProofs only [BB,CE,A8,BR,BI,A7,EO,FO,DN,AZ,BA,AO,AQ,AL,BD,AY,AC,AA,AX,AU,BH,BJ,BC,BO,BU,CG,FP,AB,D6,DV,↓reduceIte,jA,jB,jC,enP,TD,AWI,f3,f9,f11,EX hi',IC NM hi',ARS,jR,hw,AN4,wrap_succ (show i < 9223372036854775807 by omega)]
   exact ⟨n - 1,by omega,i+1,by omega,by first | exact True.intro | exact f0,by first | exact True.intro | exact rfl,by first | exact True.intro | exact f9,by first | exact True.intro | exact f10,by first | exact True.intro | exact rfl,by first | exact True.intro | exact rfl⟩
  ·have hi' : ¬ i < R.length:=by simpa using hc
   rw [jY (by omega)] at f3
   simp -implicitDefEqProofs only [EF,FC,MG,F8,AA,↓reduceIte,jA]
   exact ⟨by first | exact True.intro | exact f0,by first | exact True.intro | exact f3,by first | exact True.intro | exact rfl⟩
 rintro F H ⟨f0,f3,rfl⟩
 simp -implicitDefEqProofs only [BB,A8,A7,F6,AZ,AO,AQ,AL,BD,AY,AC,AA,AX,AU,BN,KZ,BJ,BV,BP,jF,jD,jE,↓reduceIte,jB,jC,f3]
 refine (AOJ G (fl R).length hl H).mono ?_
 intro v0 H0 hg
 have I0:ATZ H [] v0 H0∧Sm.ext H H0∧((fl R).length=0→v0 = .sl .nil 0 []):=by
  rcases hg with ⟨h0,rfl,rfl⟩ | ⟨h0,rfl,rfl⟩
  ·exact ⟨.inl ⟨rfl,rfl⟩,ext.rfl' _,fun _=>rfl⟩
  ·exact ⟨.inr ⟨H.length,jQ _,rfl,DF _ _⟩,(ext.rfl' H).app _,fun q=>by omega⟩
 simp -implicitDefEqProofs only [BB,CE,A8,A7,AZ,BA,AO,AQ,AL,BD,AY,AC,AA,AX,AU,BH,BJ,BC,FP,AB,↓reduceIte,jA,jB,jC,enP,AWC,f0,jR]
 refine EG (fun n F H' => ∃ i v,n+i=R.length∧F 6=v∧F 25 = .sl s 1 (R.map AEN)∧F 26 = .int .i64 (R.length:Nat)∧F 27 = .int .i64 (i:Nat)∧ATZ H (fl (R.take i)) v H'∧Sm.ext H H'∧((fl R).length=0→v = .sl .nil 0 [])) R.length
  ⟨0,v0,by simp,by simp -implicitDefEqProofs only [AA,↓reduceIte,jA],by simp -implicitDefEqProofs only [AA,↓reduceIte,jA],by simp -implicitDefEqProofs only [AA,↓reduceIte,jA],by simp -implicitDefEqProofs only [AA,↓reduceIte] <;> rfl,by rw [List.take_zero]; exact I0.1,I0.2.1,I0.2.2⟩ ?_
 clear I0 hg f0 f3
 rintro n F H' ⟨i,v,hi,f6,f25,f26,f27,ho,hx,hz⟩
 simp -implicitDefEqProofs only [BB,A8,BI,A7,AZ,BA,AO,AQ,AL,BD,AY,AC,AA,AX,BU,AB,DV,↓reduceIte,jB,jC,enP,f26,f27]
 refine CQ (fun hc => ?_) (fun hc => ?_)
 ·have hi':i < R.length:=by simpa using hc
  have hfl:=AEI hi'
  have hle:=YS R (i+1)
  rw [hfl,qB] at hle
  obtain ⟨v',H2,ha,ho2,hx2,hn2⟩:=AP4 R[i].m ho hx (ys:=R[i].l) (by omega)
  rw [← hfl] at ho2
  simp -implicitDefEqProofs only [BB,CE,A8,BR,A7,EO,FO,AZ,BA,AO,AQ,AL,BD,AY,AC,AA,AX,AU,BH,BJ,BC,BO,BU,CG,LV,CB,AB,D6,↓reduceIte,jA,jB,jC,enP,AWI,f6,f25,f27,EX hi',IC NM hi',ARS,ha,wrap_succ (show i < 9223372036854775807 by omega)]
  exact ⟨n - 1,by omega,i+1,v',by omega,by first | exact True.intro | exact rfl,by first | exact True.intro | exact f25,by first | exact True.intro | exact f26,by first | exact True.intro | exact rfl,ho2,hx2,fun q=>hn2 (hz q) (List.length_eq_zero_iff.1 (by omega))⟩
 ·have hi' : ¬ i < R.length:=by simpa using hc
  rw [jY (by omega)] at ho
  simp -implicitDefEqProofs only [BB,A8,BK,EF,A7,FC,F6,F8,CV,AZ,BA,AO,AQ,AL,BD,AY,AC,AA,AX,BJ,BC,↓reduceIte,jA,jB,jC,f6]
  refine ⟨hx,?_⟩
  rcases ho with ⟨h1,h2⟩ | ⟨o,h1,h2,h3⟩
  ·exact .inl ⟨h2,h1⟩
  ·refine .inr ⟨fun q => ?_,o,h1,h2,h3⟩
   have:=hz (by rw [q]; rfl)
   rw [this] at h2; cases h2
end
end Go.Proofs.YtokehnfjjmpanaaGreatDoor.Bd
