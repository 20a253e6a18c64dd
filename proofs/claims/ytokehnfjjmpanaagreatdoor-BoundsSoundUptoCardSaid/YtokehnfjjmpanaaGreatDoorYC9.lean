/- Part 9 of the proof (U1, U2, U3, U4, U5, U6, U7, U8, V1); no condition. -/
import Derived.Shelf.Spec.SlicesGrow
import Derived.Test.YtokehnfjjmpanaaGreatDoorYC8
set_option linter.unusedVariables false
set_option linter.unusedSimpArgs false
set_option maxRecDepth 8000
namespace Go.Proofs.YtokehnfjjmpanaaGreatDoor.Bd
open Sm Bins Cov Xe Go.RowKit
open Bool renaming not_false→jC,not_eq_true→qP,or_true→qK,or_false→jO,not_true→jW
open List renaming length_map→jM,map_cons→jF,map_nil→jD,nil_append→zK,cons_append→zU,getElem_mem→jQ,append_nil→jE,length_take→zV,getElem?_cons_zero→jZ,getElem?_cons_succ→zC,mem_of_getElem?→zL,getElem_of_mem→qB,take_succ_eq_append_getElem→zT,take_of_length_le→jX,length_append→zX
open Nat renaming le_of_ble_eq_true→jH,reduceEqDiff→jB,lt_or_ge→jT,add_zero→jI,reduceAdd→jK,zero_add→jG,le_refl→jL
open Option renaming getD_some→jA,map_some→qU,getD_none→jJ
structure Vr where
 name:ByteArray
 width:Int
 mode:Int
 value:Int
def FM (v:Vr):List AV := [.str v.name,.int .i64 v.width,.int .i64 v.mode,.int .i64 v.value]
theorem AB9 (v:Vr):(FM v).length=4:=rfl
theorem AQP (v:Vr):(FM v)[0]? = some (.str v.name):=rfl
theorem AQO (v:Vr):(FM v)[1]? = some (.int .i64 v.width):=rfl
theorem AQN (v:Vr):(FM v)[2]? = some (.int .i64 v.mode):=rfl
theorem AU4 (v:Vr):(FM v)[3]? = some (.int .i64 v.value):=rfl
structure Wg where
 lo:Int
 hi:Int
 w:Int
 each:Bool
def IG (x:Wg):List AV := [.int .i64 x.lo,.int .i64 x.hi,.int .i64 x.w,.bool x.each]
theorem SA (x:Wg):(IG x).length=4:=rfl
structure Ds where
 var:Int
 wm:SM
 ws:List Wg
def IU (d:Ds):List AV := [.int .i64 d.var,.sl d.wm 4 (d.ws.map IG)]
theorem UR (d:Ds):(IU d).length=2:=rfl
structure Gp where
 m:SM
 l:List Int
def Q5 (g:Gp):List AV := [.sl g.m 1 (g.l.map qencI)]
structure Pr where
 vm:SM
 vars:List Vr
 hm:SM
 hard:List Ex
 sm:SM
 soft:List Ex
 dm:SM
 dists:List Ds
 gm:SM
 groups:List Gp
def D8 (p:Pr):List AV := [.sl p.vm 4 (p.vars.map FM),.sl p.hm 4 (p.hard.map CW),.sl p.sm 4 (p.soft.map CW),.sl p.dm 2 (p.dists.map IU),.sl p.gm 1 (p.groups.map Q5)]
theorem GZ (p:Pr):(D8 p).length=5:=rfl
theorem bxV (h:Hp) (v:Vr):PG h (.agg (FM v))=some (.ptr h.length 0 0,h ++ [.live 4 [FM v]]):=rfl
theorem A10 (h:Hp) (v:Wg):PG h (.agg (IG v))=some (.ptr h.length 0 0,h ++ [.live 4 [IG v]]):=rfl
theorem bxD (h:Hp) (v:Ds):PG h (.agg (IU v))=some (.ptr h.length 0 0,h ++ [.live 2 [IU v]]):=rfl
theorem VS (h:Hp) (p:Pr):PG h (.agg (D8 p))=some (.ptr h.length 0 0,h ++ [.live 5 [D8 p]]):=rfl
def KC {α:Type} (p:α→Bool):List α→Int
 | [] => -1
 | x :: r=>if p x=true then 0 else if KC p r < 0 then -1 else KC p r+1
theorem QD {α:Type} (p:α→Bool) : ∀ xs:List α,-1≤KC p xs∧KC p xs < xs.length
 | []=>by simp [KC]
 | x :: r=>by
   have:=QD p r
   simp only [KC,List.length_cons]
   split
   ·omega
   ·split <;> omega
theorem QE {α:Type} (p:α→Bool) : ∀ (xs:List α) (k:Nat) (hk:k < xs.length),(∀ (j:Nat) (hj:j < k),p (xs[j]'(by omega))=false)→p xs[k]=true→KC p xs=k
 | x :: r,0,_,_,h=>by
   have h:p x=true:=h
   simp [KC,h]
 | x :: r,k+1,hk,hb,h=>by
   have h0:p x=false:=hb 0 (by omega)
   have ih:=QE p r k (by simpa using hk) (fun j hj=>hb (j+1) (by omega)) h
   simp only [KC,h0,ih,Bool.false_eq_true,if_false]
   rw [if_neg (by omega)]; omega
theorem PY {α:Type} (p:α→Bool) : ∀ (xs:List α),(∀ (j:Nat) (hj:j < xs.length),p xs[j]=false)→KC p xs = -1
 | [],_=>rfl
 | x :: r,hb=>by
   have h0:p x=false:=hb 0 (by simp)
   have ih:=PY p r (fun j hj=>hb (j+1) (by simpa using hj))
   simp [KC,h0,ih]
theorem RV {α:Type} (p:α→Bool) : ∀ xs:List α,decide (KC p xs≥0)=xs.any p
 | []=>rfl
 | x :: r=>by
   have ih:=RV p r
   rw [List.any_cons,← ih]
   rcases Bool.eq_false_or_eq_true (p x) with hx | hx
   ·have h1:KC p (x :: r)=0:=by simp [KC,hx]
    rw [h1,hx]; rfl
   ·have h1:KC p (x :: r)=if KC p r < 0 then -1 else KC p r+1:=by simp [KC,hx]
    rw [h1,hx,Bool.false_or]
    by_cases h:KC p r < 0
    ·rw [if_pos h,decide_eq_false (by omega),decide_eq_false (by omega)]
    ·rw [if_neg h,decide_eq_true (by omega),decide_eq_true (by omega)]
theorem ABY {α:Type} (p:α→Bool) : ∀ (xs:List α),0≤KC p xs→∃ k,∃ hk:k < xs.length,KC p xs=(k:Nat)∧p xs[k]=true∧∀ (j:Nat) (hj:j < k),p (xs[j]'(by omega))=false
 | [],h=>by simp [KC] at h
 | x :: r,h=>by
   cases hx:p x with
   | true=>exact ⟨0,by simp,by simp [KC,hx],hx,fun j hj=>absurd hj (by omega)⟩
   | false =>
     have h1:KC p (x :: r)=if KC p r < 0 then -1 else KC p r+1:=by simp [KC,hx]
     rw [h1] at h ⊢
     split at h
     ·omega
     ·rename_i hn
      rw [if_neg hn]
      obtain ⟨k,hk,e1,e2,e3⟩:=ABY p r (by omega)
      refine ⟨k+1,by simpa using hk,by omega,e2,fun j hj => ?_⟩
      cases j with
      | zero=>exact hx
      | succ j=>exact e3 j (by omega)
theorem ANC {α:Type} (p:α→Bool) (xs:List α) (h:KC p xs < 0) : ∀ x∈xs,p x=false:=by
 intro x hx
 have:=RV p xs
 rw [decide_eq_false (by omega)] at this
 have:=List.any_eq_false.1 this.symm x hx
 simpa using this
theorem ADX (G:Nat→AV) (xs:List Vr) (m:SM) (fid:FuncId) (caps:List AV) (p:Vr→Bool) (h:Hp) (hn:xs.length≤1099511627776) (hf : ∀ x∈xs,PCall (En G) fid ([.agg (FM x)] ++ caps) h (.bool (p x))) :
  PCall (En G) 158 [.sl m 4 (xs.map FM),.fn (.func fid) [] caps] h (.int .i64 (KC p xs)):=by
 refine acN Tryz.func158 rfl ?_
 show awp _ _ _ _ _ (EE _ [.tmp 4] _)
 simp -implicitDefEqProofs only [BC,CB,A8,A7,AZ,BA,AC,AQ,AO,BD,AX,AL,AA,AY,AU,BG,BH,BB,E5,AB,BF,↓reduceIte,jB,jA,jC,enX,enP,QR,jM]
 refine D7 (fun n F H => ∃ k,n+k=xs.length∧(∀ (j:Nat) (hj:j < k) (hl:j < xs.length),p xs[j]=false)∧F 0 = .sl m 4 (xs.map FM)∧F 1 = .fn (.func fid) [] caps∧F 7 = .int .i64 (xs.length:Nat)∧F 8 = .int .i64 (k:Nat)∧H=h) xs.length ⟨0,by simp,fun j hj=>absurd hj (by omega),by simp -implicitDefEqProofs only [AA,BF,↓reduceIte,jB],by simp -implicitDefEqProofs only [AA,BF,BQ,↓reduceIte,jB],by simp -implicitDefEqProofs only [AA,↓reduceIte,jB],by simp -implicitDefEqProofs only [AA,↓reduceIte]; rfl,rfl⟩ ?_
 rintro n F H ⟨k,hk,hb,f0,f1,f7,f8,rfl⟩
 simp -implicitDefEqProofs only [BC,A8,BJ,A7,AZ,BA,AC,AQ,AO,BD,AX,AL,AA,AY,BU,AB,DF,↓reduceIte,jA,jC,enP,f7,f8]
 refine CV (fun hc => ?_) (fun hc => ?_)
 ·have hk':k < xs.length:=by simpa using hc
  simp -implicitDefEqProofs only [BC,CB,A8,BR,A7,AZ,BA,AC,AQ,AO,BD,AX,AL,AA,AY,BH,BB,BP,CQ,BV,BN,AB,jF,jD,zK,zU,↓reduceIte,jB,jA,jC,enP,TU,f0,f1,f8,EF hk',EO A0A AOR AB9 hk']
  refine (hf _ (jQ hk')).use ?_
  simp -implicitDefEqProofs only [BJ,A7,BA,AL,AA,AY,↓reduceIte]
  refine CV (fun hp => ?_) (fun hp => ?_)
  ·simp -implicitDefEqProofs only [BC,A8,BK,A7,CJ,D5,FV,CU,AZ,BA,AC,AQ,AO,BD,AX,AL,AA,AY,BH,BB,↓reduceIte,jB,jA,jC,f8]
   exact ⟨by rw [QE p xs k hk' (fun j hj=>hb j hj (by omega)) hp],trivial⟩
  ·simp -implicitDefEqProofs only [A8,BR,A7,EK,FI,AZ,BA,AC,AQ,AO,BD,AX,AL,AA,AY,AU,BG,BH,BU,AB,DY,↓reduceIte,jB,jA,jC,enP,f8,wrap_succ (show k < 9223372036854775807 by omega)]
   refine ⟨n - 1,by omega,k+1,by omega,fun j hj hl => ?_,by trivial,by trivial,by trivial,rfl,trivial⟩
   rcases jT j k with h1 | h1
   ·exact hb j h1 hl
   ·obtain rfl:j=k:=by omega
    exact hp
 ·simp -implicitDefEqProofs only [BC,A8,BK,D6,A7,EU,FT,FX,CU,AZ,BA,AC,AQ,AO,BD,AX,AL,AA,AU,BG,BB,↓reduceIte,jA,jC]
  have hk' : ¬ k < xs.length:=by simpa using hc
  exact ⟨by rw [PY p xs fun j hj=>hb j (by omega) hj],trivial⟩
theorem ATG (G:Nat→AV) (xs:List Vr) (m:SM) (fid:FuncId) (caps:List AV) (p:Vr→Bool) (h:Hp) (hn:xs.length≤1099511627776) (hf : ∀ x∈xs,PCall (En G) fid ([.agg (FM x)] ++ caps) h (.bool (p x))) :
  PCall (En G) 105 [.sl m 4 (xs.map FM),.fn (.func fid) [] caps] h (.bool (xs.any p)):=by
 refine acN Tryz.func105 rfl ?_
 show awp _ _ _ _ _ (EE _ [.tmp 4] _)
 simp -implicitDefEqProofs only [BC,A8,A7,AZ,BA,AC,AQ,AO,BD,AX,AL,AA,AY,AU,BO,BM,BH,BB,BV,BN,BF,BQ,jF,jD,jE,↓reduceIte,jB,jA,jC,enX,enP]
 refine (ADX G xs m fid caps p h hn hf).use ?_
 simp -implicitDefEqProofs only [BK,A7,CU,AZ,BA,AC,AQ,AO,BD,AX,AL,AA,AY,AU,BG,BB,BU,AB,FQ,↓reduceIte,jA,jC,enP,RV]
 exact ⟨trivial,trivial⟩
theorem AJO (G:Nat→AV) (xs:List Ds) (m:SM) (fid:FuncId) (caps:List AV) (p:Ds→Bool) (h:Hp) (hn:xs.length≤1099511627776) (hf : ∀ x∈xs,PCall (En G) fid ([.agg (IU x)] ++ caps) h (.bool (p x))) :
  PCall (En G) 163 [.sl m 2 (xs.map IU),.fn (.func fid) [] caps] h (.int .i64 (KC p xs)):=by
 refine acN Tryz.func163 rfl ?_
 show awp _ _ _ _ _ (EE _ [.tmp 4] _)
 simp -implicitDefEqProofs only [BC,CB,A8,A7,AZ,BA,AC,AQ,AO,BD,AX,AL,AA,AY,AU,BG,BH,BB,E5,AB,BF,↓reduceIte,jB,jA,jC,enX,enP,APM,jM]
 refine D7 (fun n F H => ∃ k,n+k=xs.length∧(∀ (j:Nat) (hj:j < k) (hl:j < xs.length),p xs[j]=false)∧F 0 = .sl m 2 (xs.map IU)∧F 1 = .fn (.func fid) [] caps∧F 7 = .int .i64 (xs.length:Nat)∧F 8 = .int .i64 (k:Nat)∧H=h) xs.length ⟨0,by simp,fun j hj=>absurd hj (by omega),by simp -implicitDefEqProofs only [AA,BF,↓reduceIte,jB],by simp -implicitDefEqProofs only [AA,BF,BQ,↓reduceIte,jB],by simp -implicitDefEqProofs only [AA,↓reduceIte,jB],by simp -implicitDefEqProofs only [AA,↓reduceIte]; rfl,rfl⟩ ?_
 rintro n F H ⟨k,hk,hb,f0,f1,f7,f8,rfl⟩
 simp -implicitDefEqProofs only [BC,A8,BJ,A7,AZ,BA,AC,AQ,AO,BD,AX,AL,AA,AY,BU,AB,DF,↓reduceIte,jA,jC,enP,f7,f8]
 refine CV (fun hc => ?_) (fun hc => ?_)
 ·have hk':k < xs.length:=by simpa using hc
  simp -implicitDefEqProofs only [BC,CB,A8,BR,A7,AZ,BA,AC,AQ,AO,BD,AX,AL,AA,AY,BH,BB,BP,CQ,BV,BN,AB,jF,jD,zK,zU,↓reduceIte,jB,jA,jC,enP,ABW,f0,f1,f8,EF hk',EO ARO AGO UR hk']
  refine (hf _ (jQ hk')).use ?_
  simp -implicitDefEqProofs only [BJ,A7,BA,AL,AA,AY,↓reduceIte]
  refine CV (fun hp => ?_) (fun hp => ?_)
  ·simp -implicitDefEqProofs only [BC,A8,BK,A7,CJ,D5,FV,CU,AZ,BA,AC,AQ,AO,BD,AX,AL,AA,AY,BH,BB,↓reduceIte,jB,jA,jC,f8]
   exact ⟨by rw [QE p xs k hk' (fun j hj=>hb j hj (by omega)) hp],trivial⟩
  ·simp -implicitDefEqProofs only [A8,BR,A7,EK,FI,AZ,BA,AC,AQ,AO,BD,AX,AL,AA,AY,AU,BG,BH,BU,AB,DY,↓reduceIte,jB,jA,jC,enP,f8,wrap_succ (show k < 9223372036854775807 by omega)]
   refine ⟨n - 1,by omega,k+1,by omega,fun j hj hl => ?_,by trivial,by trivial,by trivial,rfl,trivial⟩
   rcases jT j k with h1 | h1
   ·exact hb j h1 hl
   ·obtain rfl:j=k:=by omega
    exact hp
 ·simp -implicitDefEqProofs only [BC,A8,BK,D6,A7,EU,FT,FX,CU,AZ,BA,AC,AQ,AO,BD,AX,AL,AA,AU,BG,BB,↓reduceIte,jA,jC]
  have hk' : ¬ k < xs.length:=by simpa using hc
  exact ⟨by rw [PY p xs fun j hj=>hb j (by omega) hj],trivial⟩
theorem AP4 (G:Nat→AV) (xs:List Ds) (m:SM) (fid:FuncId) (caps:List AV) (p:Ds→Bool) (h:Hp) (hn:xs.length≤1099511627776) (hf : ∀ x∈xs,PCall (En G) fid ([.agg (IU x)] ++ caps) h (.bool (p x))) :
  PCall (En G) 114 [.sl m 2 (xs.map IU),.fn (.func fid) [] caps] h (.bool (xs.any p)):=by
 refine acN Tryz.func114 rfl ?_
 show awp _ _ _ _ _ (EE _ [.tmp 4] _)
 simp -implicitDefEqProofs only [BC,A8,A7,AZ,BA,AC,AQ,AO,BD,AX,AL,AA,AY,AU,BO,BM,BH,BB,BV,BN,BF,BQ,jF,jD,jE,↓reduceIte,jB,jA,jC,enX,enP]
 refine (AJO G xs m fid caps p h hn hf).use ?_
 simp -implicitDefEqProofs only [BK,A7,CU,AZ,BA,AC,AQ,AO,BD,AX,AL,AA,AY,AU,BG,BB,BU,AB,FQ,↓reduceIte,jA,jC,enP,RV]
 exact ⟨trivial,trivial⟩
theorem AP2 (G:Nat→AV) (xs:List Wg) (m:SM) (fid:FuncId) (caps:List AV) (p:Wg→Bool) (h:Hp) (hn:xs.length≤1099511627776) (hf : ∀ x∈xs,PCall (En G) fid ([.agg (IG x)] ++ caps) h (.bool (p x))) :
  PCall (En G) 196 [.sl m 4 (xs.map IG),.fn (.func fid) [] caps] h (.int .i64 (KC p xs)):=by
 refine acN Tryz.func196 rfl ?_
 show awp _ _ _ _ _ (EE _ [.tmp 4] _)
 simp -implicitDefEqProofs only [BC,CB,A8,A7,AZ,BA,AC,AQ,AO,BD,AX,AL,AA,AY,AU,BG,BH,BB,E5,AB,BF,↓reduceIte,jB,jA,jC,enX,enP,AM2,jM]
 refine D7 (fun n F H => ∃ k,n+k=xs.length∧(∀ (j:Nat) (hj:j < k) (hl:j < xs.length),p xs[j]=false)∧F 0 = .sl m 4 (xs.map IG)∧F 1 = .fn (.func fid) [] caps∧F 7 = .int .i64 (xs.length:Nat)∧F 8 = .int .i64 (k:Nat)∧H=h) xs.length ⟨0,by simp,fun j hj=>absurd hj (by omega),by simp -implicitDefEqProofs only [AA,BF,↓reduceIte,jB],by simp -implicitDefEqProofs only [AA,BF,BQ,↓reduceIte,jB],by simp -implicitDefEqProofs only [AA,↓reduceIte,jB],by simp -implicitDefEqProofs only [AA,↓reduceIte]; rfl,rfl⟩ ?_
 rintro n F H ⟨k,hk,hb,f0,f1,f7,f8,rfl⟩
 simp -implicitDefEqProofs only [BC,A8,BJ,A7,AZ,BA,AC,AQ,AO,BD,AX,AL,AA,AY,BU,AB,DF,↓reduceIte,jA,jC,enP,f7,f8]
 refine CV (fun hc => ?_) (fun hc => ?_)
 ·have hk':k < xs.length:=by simpa using hc
  simp -implicitDefEqProofs only [BC,CB,A8,BR,A7,AZ,BA,AC,AQ,AO,BD,AX,AL,AA,AY,BH,BB,BP,CQ,BV,BN,AB,jF,jD,zK,zU,↓reduceIte,jB,jA,jC,enP,ATC,f0,f1,f8,EF hk',EO AUE AMH SA hk']
  refine (hf _ (jQ hk')).use ?_
  simp -implicitDefEqProofs only [BJ,A7,BA,AL,AA,AY,↓reduceIte]
  refine CV (fun hp => ?_) (fun hp => ?_)
  ·simp -implicitDefEqProofs only [BC,A8,BK,A7,CJ,D5,FV,CU,AZ,BA,AC,AQ,AO,BD,AX,AL,AA,AY,BH,BB,↓reduceIte,jB,jA,jC,f8]
   exact ⟨by rw [QE p xs k hk' (fun j hj=>hb j hj (by omega)) hp],trivial⟩
  ·simp -implicitDefEqProofs only [A8,BR,A7,EK,FI,AZ,BA,AC,AQ,AO,BD,AX,AL,AA,AY,AU,BG,BH,BU,AB,DY,↓reduceIte,jB,jA,jC,enP,f8,wrap_succ (show k < 9223372036854775807 by omega)]
   refine ⟨n - 1,by omega,k+1,by omega,fun j hj hl => ?_,by trivial,by trivial,by trivial,rfl,trivial⟩
   rcases jT j k with h1 | h1
   ·exact hb j h1 hl
   ·obtain rfl:j=k:=by omega
    exact hp
 ·simp -implicitDefEqProofs only [BC,A8,BK,D6,A7,EU,FT,FX,CU,AZ,BA,AC,AQ,AO,BD,AX,AL,AA,AU,BG,BB,↓reduceIte,jA,jC]
  have hk' : ¬ k < xs.length:=by simpa using hc
  exact ⟨by rw [PY p xs fun j hj=>hb j (by omega) hj],trivial⟩
theorem AWE (G:Nat→AV) (xs:List Wg) (m:SM) (fid:FuncId) (caps:List AV) (p:Wg→Bool) (h:Hp) (hn:xs.length≤1099511627776) (hf : ∀ x∈xs,PCall (En G) fid ([.agg (IG x)] ++ caps) h (.bool (p x))) :
  PCall (En G) 164 [.sl m 4 (xs.map IG),.fn (.func fid) [] caps] h (.bool (xs.any p)):=by
 refine acN Tryz.func164 rfl ?_
 show awp _ _ _ _ _ (EE _ [.tmp 4] _)
 simp -implicitDefEqProofs only [BC,A8,A7,AZ,BA,AC,AQ,AO,BD,AX,AL,AA,AY,AU,BO,BM,BH,BB,BV,BN,BF,BQ,jF,jD,jE,↓reduceIte,jB,jA,jC,enX,enP]
 refine (AP2 G xs m fid caps p h hn hf).use ?_
 simp -implicitDefEqProofs only [BK,A7,CU,AZ,BA,AC,AQ,AO,BD,AX,AL,AA,AY,AU,BG,BB,BU,AB,FQ,↓reduceIte,jA,jC,enP,RV]
 exact ⟨trivial,trivial⟩
theorem AYW {h:Hp} {xs:List ByteArray} {k:Nat} (hk:k < xs.length):DL Tryz.prog h 9 (.fptr 1 (xs.map encStr) k 0)=some (.str xs[k]):=by rw [GG ag9 hk]; rfl
theorem AM8 (G:Nat→AV) (xs:List ByteArray) (m:SM) (fid:FuncId) (caps:List AV) (p:ByteArray→Bool) (h:Hp) (hn:xs.length≤1099511627776) (hf : ∀ x∈xs,PCall (En G) fid ([.str x] ++ caps) h (.bool (p x))) :
  PCall (En G) 162 [.sl m 1 (xs.map encStr),.fn (.func fid) [] caps] h (.int .i64 (KC p xs)):=by
 refine acN Tryz.func162 rfl ?_
 show awp _ _ _ _ _ (EE _ [.tmp 4] _)
 simp -implicitDefEqProofs only [BC,CB,A8,A7,AZ,BA,AC,AQ,AO,BD,AX,AL,AA,AY,AU,BG,BH,BB,E5,AB,BF,↓reduceIte,jB,jA,jC,enX,enP,ZQ,jM]
 refine D7 (fun n F H => ∃ k,n+k=xs.length∧(∀ (j:Nat) (hj:j < k) (hl:j < xs.length),p xs[j]=false)∧F 0 = .sl m 1 (xs.map encStr)∧F 1 = .fn (.func fid) [] caps∧F 7 = .int .i64 (xs.length:Nat)∧F 8 = .int .i64 (k:Nat)∧H=h) xs.length ⟨0,by simp,fun j hj=>absurd hj (by omega),by simp -implicitDefEqProofs only [AA,BF,↓reduceIte,jB],by simp -implicitDefEqProofs only [AA,BF,BQ,↓reduceIte,jB],by simp -implicitDefEqProofs only [AA,↓reduceIte,jB],by simp -implicitDefEqProofs only [AA,↓reduceIte]; rfl,rfl⟩ ?_
 rintro n F H ⟨k,hk,hb,f0,f1,f7,f8,rfl⟩
 simp -implicitDefEqProofs only [BC,A8,BJ,A7,AZ,BA,AC,AQ,AO,BD,AX,AL,AA,AY,BU,AB,DF,↓reduceIte,jA,jC,enP,f7,f8]
 refine CV (fun hc => ?_) (fun hc => ?_)
 ·have hk':k < xs.length:=by simpa using hc
  simp -implicitDefEqProofs only [BC,CB,A8,BR,A7,AZ,BA,AC,AQ,AO,BD,AX,AL,AA,AY,BH,BB,BP,CQ,BV,BN,AB,jF,jD,zK,zU,↓reduceIte,jB,jA,jC,enP,AHH,f0,f1,f8,EF hk',AYW hk']
  refine (hf _ (jQ hk')).use ?_
  simp -implicitDefEqProofs only [BJ,A7,BA,AL,AA,AY,↓reduceIte]
  refine CV (fun hp => ?_) (fun hp => ?_)
  ·simp -implicitDefEqProofs only [BC,A8,BK,A7,CJ,D5,FV,CU,AZ,BA,AC,AQ,AO,BD,AX,AL,AA,AY,BH,BB,↓reduceIte,jB,jA,jC,f8]
   exact ⟨by rw [QE p xs k hk' (fun j hj=>hb j hj (by omega)) hp],trivial⟩
  ·simp -implicitDefEqProofs only [A8,BR,A7,EK,FI,AZ,BA,AC,AQ,AO,BD,AX,AL,AA,AY,AU,BG,BH,BU,AB,DY,↓reduceIte,jB,jA,jC,enP,f8,wrap_succ (show k < 9223372036854775807 by omega)]
   refine ⟨n - 1,by omega,k+1,by omega,fun j hj hl => ?_,by trivial,by trivial,by trivial,rfl,trivial⟩
   rcases jT j k with h1 | h1
   ·exact hb j h1 hl
   ·obtain rfl:j=k:=by omega
    exact hp
 ·simp -implicitDefEqProofs only [BC,A8,BK,D6,A7,EU,FT,FX,CU,AZ,BA,AC,AQ,AO,BD,AX,AL,AA,AU,BG,BB,↓reduceIte,jA,jC]
  have hk' : ¬ k < xs.length:=by simpa using hc
  exact ⟨by rw [PY p xs fun j hj=>hb j (by omega) hj],trivial⟩
theorem ATH (G:Nat→AV) (xs:List ByteArray) (m:SM) (fid:FuncId) (caps:List AV) (p:ByteArray→Bool) (h:Hp) (hn:xs.length≤1099511627776) (hf : ∀ x∈xs,PCall (En G) fid ([.str x] ++ caps) h (.bool (p x))) :
  PCall (En G) 110 [.sl m 1 (xs.map encStr),.fn (.func fid) [] caps] h (.bool (xs.any p)):=by
 refine acN Tryz.func110 rfl ?_
 show awp _ _ _ _ _ (EE _ [.tmp 4] _)
 simp -implicitDefEqProofs only [BC,A8,A7,AZ,BA,AC,AQ,AO,BD,AX,AL,AA,AY,AU,BO,BM,BH,BB,BV,BN,BF,BQ,jF,jD,jE,↓reduceIte,jB,jA,jC,enX,enP]
 refine (AM8 G xs m fid caps p h hn hf).use ?_
 simp -implicitDefEqProofs only [BK,A7,CU,AZ,BA,AC,AQ,AO,BD,AX,AL,AA,AY,AU,BG,BB,BU,AB,FQ,↓reduceIte,jA,jC,enP,RV]
 exact ⟨trivial,trivial⟩
def dgS (k:Nat):ByteArray:=⟨#[UInt8.ofNat (48+k)]⟩
def AU7:ByteArray:=⟨#[48,49,50,51,52,53,54,55,56,57,97,98,99,100,101,102,103,104,105,106,107,108,109,110,111,112,113,114,115,116,117,118,119,120,121,122]⟩
theorem sl36 : ∀ (k:Nat),k < 8→∀ h:Hp,KG Tryz.prog h 9 (.str AU7) (some (.int .i64 (k:Nat))) (some (.int .i64 ((k+1:Nat):Int))) none=some (.str (dgS k))
 | 0,_,h=>by kernel_rfl
 | 1,_,h=>by kernel_rfl
 | 2,_,h=>by kernel_rfl
 | 3,_,h=>by kernel_rfl
 | 4,_,h=>by kernel_rfl
 | 5,_,h=>by kernel_rfl
 | 6,_,h=>by kernel_rfl
 | 7,_,h=>by kernel_rfl
 | n+8,q,_=>absurd q (by omega)
theorem AI3 (G:Nat→AV) (k:Nat) (hk:k < 8) (h:Hp):PCall (En G) 222 [.int .i64 (k:Nat)] h (.str (dgS k)):=by
 refine acN Tryz.func222 rfl ?_
 show awp _ _ _ _ _ (EE _ [.tmp 2] _)
 have hd:decide (((k:Nat):Int) < 10)=true:=by simp; omega
 have:=sl36 k hk h
 unfold AU7 at this
 simp -implicitDefEqProofs only [qU,Option.map_none,BC,A8,BK,BJ,A7,CJ,CU,DR,AZ,BA,AC,AQ,AO,BD,AX,AL,AA,AY,AU,BG,GV,BH,BB,BU,NK,AB,DY,DF,BF,↓reduceIte,jB,jA,jC,enX,enP,hd,wrap_succ (show k < 9223372036854775807 by omega),this]
 exact ⟨trivial,trivial⟩
theorem AN0 (G:Nat→AV) (k:Nat) (hk:k < 8) (h:Hp):PCall (En G) 192 [.int .i64 (k:Nat)] h (.str (dgS k)):=by
 have h1:PCall (En G) 219 [.int .i64 (k:Nat),.int .i64 10] h (.str (dgS k)):=by
  refine acN Tryz.func219 rfl ?_
  show awp _ _ _ _ _ (EE _ [.tmp 4] _)
  have d1:((10:Int) == 10)=true:=rfl
  have d2:decide ((0:Int)≤((k:Nat):Int))=true:=by simp
  have d3:decide (((k:Nat):Int) < 100)=true:=by simp; omega
  simp -implicitDefEqProofs only [BC,A8,BJ,A7,DR,AZ,BA,BL,BX,CG,F8,AC,AQ,AO,BD,AX,AL,AA,AY,AU,BO,BG,BM,GV,BH,BB,CO,DK,BU,BV,BN,AB,DJ,DF,I7,BF,BQ,jF,jD,jE,↓reduceIte,jB,jA,jC,enX,enP,d1,d2,d3]
  refine (AI3 G k hk h).use ?_
  simp -implicitDefEqProofs only [BK,A7,CJ,CU,AZ,BA,AC,AQ,AO,BD,AX,AL,AA,AY,BB,↓reduceIte,jA,jC]
  exact ⟨trivial,trivial⟩
 have h2:PCall (En G) 207 [.int .i64 (k:Nat)] h (.str (dgS k)):=by
  refine acN Tryz.func207 rfl ?_
  show awp _ _ _ _ _ (EE _ [.tmp 2] _)
  simp -implicitDefEqProofs only [BC,A8,A7,AZ,BA,AC,AQ,AO,BD,AX,AL,AA,AY,AU,BO,BG,GV,BH,BB,BV,BN,BF,jF,jD,jE,↓reduceIte,jB,jA,jC,enX,enP]
  refine h1.use ?_
  simp -implicitDefEqProofs only [BK,A7,CU,AZ,BA,AC,AQ,AO,BD,AX,AL,AA,AY,BB,↓reduceIte,jA,jC]
  exact ⟨trivial,trivial⟩
 refine acN Tryz.func192 rfl ?_
 show awp _ _ _ _ _ (EE _ [.tmp 2] _)
 simp -implicitDefEqProofs only [BC,A8,A7,AZ,BA,AC,AQ,AO,BD,AX,AL,AA,AY,AU,BO,GV,BH,BB,BV,BN,BF,jF,jD,jE,↓reduceIte,jB,jA,jC,enX,enP]
 refine h2.use ?_
 simp -implicitDefEqProofs only [BK,A7,CU,AZ,BA,AC,AQ,AO,BD,AX,AL,AA,AY,BB,↓reduceIte,jA,jC]
 exact ⟨trivial,trivial⟩
theorem ANP (G:Nat→AV) (k:Nat) (hk:k < 8) (h:Hp):PCall (En G) 200 [.int .i64 (k:Nat)] h (.int .i64 (-(k:Int))):=by
 refine acN Tryz.func200 rfl ?_
 show awp _ _ _ _ _ (EE _ [.tmp 2] _)
 simp -implicitDefEqProofs only [BC,A8,BJ,A7,AZ,BA,AC,AQ,AO,BD,AX,AL,AA,AY,AU,BG,BH,BB,BU,AB,EY,BF,↓reduceIte,jB,jA,jC,enX,enP]
 refine CV (fun hc => ?_) (fun hc => ?_)
 ·have e:IntKind.i64.wrap (0 - ((k:Nat):Int)) = -(k:Int):=by rw [wrap_i64 (by omega) (by omega)]; omega
  simp -implicitDefEqProofs only [BC,A8,BK,A7,CJ,CU,AZ,BA,AC,AQ,AO,BD,AX,AL,AA,AY,BH,BB,I5,AB,AVK,BF,↓reduceIte,jB,jA,jC,e]
  exact ⟨trivial,trivial⟩
 ·have e:((k:Nat):Int) = -(k:Int):=by
   have : ¬ ((k:Nat):Int) > 0:=by simpa using hc
   omega
  simp -implicitDefEqProofs only [BC,A8,BR,BK,A7,CU,AZ,BA,AC,AQ,AO,BD,AX,AL,AA,AY,BH,BB,BF,↓reduceIte,jB,jA,jC]
  exact ⟨by rw [← e],trivial⟩
theorem AKR (G:Nat→AV) (k:Nat) (hk:k < 8) (h:Hp):PCall (En G) 169 [.int .i64 (k:Nat)] h (.str (dgS k)):=by
 refine acN Tryz.func169 rfl ?_
 show awp _ _ _ _ _ (EE _ [.tmp 2] _)
 simp -implicitDefEqProofs only [BC,A8,A7,AZ,BA,AC,AQ,AO,BD,AX,AL,AA,AY,AU,BO,GV,BH,BB,BV,BN,BF,jF,jD,jE,↓reduceIte,jB,jA,jC,enX,enP]
 refine (ANP G k hk h).use ?_
 simp -implicitDefEqProofs only [BC,CB,A7,AZ,BA,AC,AQ,AO,BD,AX,AL,AA,AY,BB,↓reduceIte,jA,jC]
 refine D7 (fun n F H=>n=0∧F 0 = .int .i64 (k:Nat)∧F 3 = .str ⟨#[]⟩∧F 4 = .int .i64 (-(k:Int))∧H=h) 0 ⟨rfl,by simp -implicitDefEqProofs only [AA,BF,↓reduceIte,jB],by simp -implicitDefEqProofs only [AA,↓reduceIte,jB],by simp -implicitDefEqProofs only [AA,↓reduceIte],rfl⟩ ?_
 rintro n F H ⟨rfl,f0,f3,f4,rfl⟩
 have e1:(-(k:Int)).tmod 10 = -(k:Int):=by
  rw [Int.neg_tmod,Int.tmod_eq_emod_of_nonneg (by omega)]; omega
 have e2:(-(k:Int)).tdiv 10=0:=by
  rw [Int.neg_tdiv,Int.tdiv_eq_ediv_of_nonneg (by omega)]; omega
 have e3:(48:Int) - -(k:Int)=48+(k:Int):=by omega
 have r1:G8 Tryz.prog 3 .rem (.int .i64 (-(k:Int))) (.int .i64 10)=some (.int .i64 (-(k:Int))):=by rw [VE _ _ _ _ _ (by decide),e1]
 have r2:G8 Tryz.prog 3 .quo (.int .i64 (-(k:Int))) (.int .i64 10)=some (.int .i64 0):=by rw [AL4 _ _ _ _ _ (by decide),e2]; rfl
 have a1:G8 Tryz.prog 9 .add (.str (dgS k)) (.str ⟨#[]⟩)=some (.str (dgS k)):=by
  rw [QM (by show 1+0≤_; omega)]
  congr 2
 have z:((0:Int) == 0)=true:=rfl
 have dc:=AQR k hk
 change _=some (AV.str (dgS k)) at dc
 have n0:decide (((k:Nat):Int) < 0)=false:=by simp
 simp -implicitDefEqProofs only [FB,ES,BC,CB,A8,BR,BK,D6,BJ,A7,FT,FX,CU,DR,DX,AZ,BA,AC,AQ,AO,BD,AX,AL,AA,AY,AU,BG,BH,BB,GM,BU,PK,BZ,AB,IZ,DJ,DF,↓reduceIte,jB,jA,jC,enP,AZC,f0,f3,f4,r1,r2,e3,AZN,dc,a1,z,n0]
 exact ⟨trivial,trivial⟩
theorem AZR (a:ByteArray) (k:Nat) (ha:a.size≤1048576):G8 Tryz.prog 9 .add (.str a) (.str ⟨#[91]⟩)=some (.str (a ++ (⟨#[91]⟩:ByteArray)))∧G8 Tryz.prog 9 .add (.str (a ++ (⟨#[91]⟩:ByteArray))) (.str (dgS k))=some (.str (a ++ (⟨#[91]⟩:ByteArray) ++ dgS k)) ∧
  G8 Tryz.prog 9 .add (.str (a ++ (⟨#[91]⟩:ByteArray) ++ dgS k)) (.str ⟨#[93]⟩)=some (.str (elN a k)) :=
 ⟨QM (by show a.size+1≤_; omega),QM (by rw [VF]; show a.size+1+1≤_; omega),QM (by rw [VF,VF]; show a.size+1+1+1≤_; omega)⟩
theorem Y5 (G:Nat→AV) (a:ByteArray) (k:Nat) (hk:k < 8) (h:Hp) (ha:a.size≤1048576):PCall (En G) 157 [.str a,.int .i64 (k:Nat)] h (.str (elN a k)):=by
 refine acN Tryz.func157 rfl ?_
 show awp _ _ _ _ _ (EE _ [.tmp 4] _)
 obtain ⟨b1,b2,b3⟩:=AZR a k ha
 simp -implicitDefEqProofs only [BC,A8,A7,AZ,BA,AC,AQ,AO,BD,AX,AL,AA,AY,AU,BO,GV,BH,BB,BU,BV,BN,AB,BF,BQ,jF,jD,jE,↓reduceIte,jB,jA,jC,enX,enP,b1]
 refine (AN0 G k hk h).use ?_
 simp -implicitDefEqProofs only [BK,A7,CU,AZ,BA,AC,AQ,AO,BD,AX,AL,AA,AY,AU,GV,BB,BU,AB,↓reduceIte,jB,jA,jC,enP,b2,b3]
 exact ⟨trivial,trivial⟩
theorem ACA (G:Nat→AV) (a:ByteArray) (k:Nat) (hk:k < 8) (h:Hp) (ha:a.size≤1048576):PCall (En G) 127 [.str a,.int .i64 (k:Nat)] h (.str (elN a k)):=by
 refine acN Tryz.func127 rfl ?_
 show awp _ _ _ _ _ (EE _ [.tmp 4] _)
 obtain ⟨b1,b2,b3⟩:=AZR a k ha
 simp -implicitDefEqProofs only [BC,A8,A7,AZ,BA,AC,AQ,AO,BD,AX,AL,AA,AY,AU,BO,GV,BH,BB,BU,BV,BN,AB,BF,BQ,jF,jD,jE,↓reduceIte,jB,jA,jC,enX,enP,b1]
 refine (AKR G k hk h).use ?_
 simp -implicitDefEqProofs only [BK,A7,CU,AZ,BA,AC,AQ,AO,BD,AX,AL,AA,AY,AU,GV,BB,BU,AB,↓reduceIte,jB,jA,jC,enP,b2,b3]
 exact ⟨trivial,trivial⟩
theorem QI (a:ByteArray) (k:Nat):(elN a k).data.toList=a.data.toList ++ [91,UInt8.ofNat (48+k),93]:=by
 unfold elN
 simp [ByteArray.data_append]
theorem ACT {a b:ByteArray} (h:a.data.toList=b.data.toList):a=b:=by
 obtain ⟨⟨x⟩⟩:=a
 obtain ⟨⟨y⟩⟩:=b
 have:x=y:=h
 rw [this]
theorem AIG (a:ByteArray):(⟨a.data.toList.toArray⟩:ByteArray)=a:=by obtain ⟨⟨x⟩⟩:=a; rfl
theorem AFP {k:Nat} (hk:k < 8):(UInt8.ofNat (48+k)).toNat=48+k:=by
 rw [UInt8.toNat_ofNat']; omega
theorem ALT {a:ByteArray} {i j:Nat} (hi:i < 8) (hj:j < 8) (h:elN a i=elN a j):i=j:=by
 have:=congrArg (fun x=>x.data.toList) h
 simp only [QI,List.append_cancel_left_eq,List.cons.injEq,and_true,true_and] at this
 have:=congrArg UInt8.toNat this
 rw [AFP hi,AFP hj] at this
 omega
theorem AD6 {a:ByteArray} {k:Nat} (hk:k < 8) (hn:IB a=true):JV (elN a k)=some (a.data.toList,UInt8.ofNat (48+k)):=by
 have h1:elN a k=⟨(a.data.toList ++ [91,UInt8.ofNat (48+k),93]).toArray⟩:=ACT (QI a k)
 have hne:a.data.toList≠[]:=(QZ (l:=a.data.toList) (by rw [AIG]; exact hn)).1
 rw [h1,X9 hne,AIG,hn,AFP hk]
 simp
 omega
theorem L8 {s:ByteArray} {a:List UInt8} {d:UInt8} (h:JV s=some (a,d)):48≤d.toNat∧d.toNat - 48 < 8∧IB ⟨a.toArray⟩=true∧s=elN ⟨a.toArray⟩ (d.toNat - 48)∧a.length+3=s.size:=by
 unfold JV at h
 split at h
 case isFalse=>cases h
 rename_i hl
 split at h
 case h_2=>cases h
 rename_i x d' y hm
 split at h
 case isFalse=>cases h
 rename_i hc
 cases h
 simp only [Bool.and_eq_true,beq_iff_eq,decide_eq_true_eq] at hc
 obtain ⟨⟨⟨⟨rfl,rfl⟩,c1⟩,c2⟩,c3⟩:=hc
 refine ⟨c1,by omega,c3,ACT ?_,?_⟩
 ·rw [QI]
  have e:UInt8.ofNat (48+(d.toNat - 48))=d:=by rw [show 48+(d.toNat - 48)=d.toNat by omega]; simp
  rw [e,← hm]
  simp
 ·have:s.size=s.data.toList.length:=(Array.length_toList (xs:=s.data)).symm
  rw [this,zV]; omega
theorem Y9 (a b:ByteArray):(a.toList == b.toList)=true↔a=b:=by
 rw [beq_iff_eq,ByteArray.toList_eq,ByteArray.toList_eq]
 exact ⟨ACT,fun h=>by rw [h]⟩
theorem AW9 {a b:ByteArray} (h:a≠b):(a.toList == b.toList)=false:=by
 rw [← qP,Y9]; exact h
def JH (n:ByteArray) (v:Vr):Bool:=v.name.toList == n.toList
def plc (l:List Vr) (n:ByteArray):Int:=KC (JH n) l
theorem AY4 (G:Nat→AV) (v:Vr) (n:ByteArray) (c:Nat) (h:Hp) (hc:h[c]? = some (.live 1 [[.str n]])):PCall (En G) 159 ([.agg (FM v)] ++ [.ptr c 0 0]) h (.bool (JH n v)):=by
 refine ACalls.pure0 rfl ?_
 refine acN Tryz.func159 rfl ?_
 show awp _ _ _ _ _ (EE _ [.tmp 3] _)
 have hc':(h ++ [ABlk.live 4 [FM v]])[c]? = _:=CX hc
 simp -implicitDefEqProofs only [BC,A8,BK,A7,CU,AZ,BA,AC,AQ,AO,BD,AX,AL,AA,AY,AU,BM,BB,FN,BP,BU,BI,BZ,AB,KQ,BF,BQ,zK,zU,↓reduceIte,jB,jI,jA,jC,enP,OO,bxV,EH ag9,AQP,IL ag9 hc']
 exact ⟨rfl,_,rfl⟩
theorem index_prog (G:Nat→AV) (l:List Vr) (m:SM) (n:ByteArray) (h:Hp) (hl:l.length≤1099511627776):PCall (En G) 104 [.sl m 4 (l.map FM),.str n] h (.int .i64 (plc l n)):=by
 refine ACalls.pure0 rfl ?_
 refine acN Tryz.func104 rfl ?_
 show awp _ _ _ _ _ (EE _ [.tmp 4] _)
 simp -implicitDefEqProofs only [AT2,BC,A8,A7,AZ,BA,AC,AQ,AO,BD,AX,AL,AA,AY,AU,BO,BG,BH,BB,FN,JF,BV,BN,BZ,BF,BQ,jF,jD,jE,↓reduceIte,jB,jA,jC,enP]
 refine (ADX G l m 159 [.ptr h.length 0 0] (JH n) _ hl fun x _=>AY4 G x n h.length _ (C9 _ _)).use ?_
 simp -implicitDefEqProofs only [BK,A7,CU,AZ,BA,AC,AQ,AO,BD,AX,AL,AA,AY,BB,↓reduceIte,jA,jC]
 exact ⟨rfl,_,rfl⟩
theorem WL (G:Nat→AV) (l:List Vr) (m:SM) (n:ByteArray) (h:Hp) (hl:l.length≤1099511627776):PCall (En G) 84 [.sl m 4 (l.map FM),.str n] h (.int .i64 (plc l n)):=by
 refine acN Tryz.func84 rfl ?_
 show awp _ _ _ _ _ (EE _ [.tmp 4] _)
 simp -implicitDefEqProofs only [BC,CB,A8,A7,AZ,BA,AC,AQ,AO,BD,AX,AL,AU,BG,BB,jA,jC,enX,enP]
 refine D7 (fun k F H => ∃ j,k+j=l.length∧(∀ (i:Nat) (hi:i < j) (hl:i < l.length),JH n l[i]=false)∧F 0 = .sl m 4 (l.map FM)∧F 1 = .str n∧F 5 = .int .i64 (j:Nat)∧H=h) l.length ⟨0,by simp,fun i hi=>absurd hi (by omega),by simp -implicitDefEqProofs only [AA,BF,↓reduceIte,jB],by simp -implicitDefEqProofs only [AA,BF,BQ,↓reduceIte,jB],by simp -implicitDefEqProofs only [AA,↓reduceIte]; rfl,rfl⟩ ?_
 rintro k F H ⟨j,hj,hb,f0,f1,f5,rfl⟩
 simp -implicitDefEqProofs only [BC,A8,BJ,A7,AZ,BA,AC,AQ,AO,BD,AX,AL,AA,AY,BH,BU,E5,AB,DF,↓reduceIte,jB,jA,jC,enP,QR,f0,f5,jM]
 refine CV (fun hc => ?_) (fun hc => ?_)
 ·have hj':j < l.length:=by simpa using hc
  have l0:DL Tryz.prog H 9 (.fptr 4 (l.map FM) j 0)=some (.str l[j].name):=by rw [GG ag9 hj']; rfl
  simp -implicitDefEqProofs only [BC,CB,A8,BR,BJ,A7,AZ,BA,AC,AQ,AO,BD,AX,AL,AA,AY,BH,BP,BU,BI,CQ,AB,KQ,↓reduceIte,jB,jI,jA,jC,enP,TU,OO,f0,f1,f5,EF hj',l0]
  refine CV (fun hp => ?_) (fun hp => ?_)
  ·simp -implicitDefEqProofs only [BC,A8,BK,A7,CJ,D5,FV,CU,AZ,BA,AC,AQ,AO,BD,AX,AL,AA,AY,BH,BB,↓reduceIte,jB,jA,jC,f5]
   exact ⟨by rw [plc,QE (JH n) l j hj' (fun i hi=>hb i hi (by omega)) hp],trivial⟩
  ·simp -implicitDefEqProofs only [A8,BR,A7,EK,FI,AZ,BA,AC,AQ,AO,BD,AX,AL,AA,AY,AU,BG,BH,BB,BU,AB,DY,↓reduceIte,jB,jA,jC,enP,f5,wrap_succ (show j < 9223372036854775807 by omega)]
   refine ⟨k - 1,by omega,j+1,by omega,fun i hi hl => ?_,by trivial,by trivial,rfl,trivial⟩
   rcases jT i j with h1 | h1
   ·exact hb i h1 hl
   ·obtain rfl:i=j:=by omega
    exact hp
 ·simp -implicitDefEqProofs only [BC,A8,BK,D6,A7,EU,FT,FX,CU,AZ,BA,AC,AQ,AO,BD,AX,AL,AA,AU,BG,BB,↓reduceIte,jA,jC]
  have hj' : ¬ j < l.length:=by simpa using hc
  exact ⟨by rw [plc,PY (JH n) l fun i hi=>hb i (by omega) hi],trivial⟩
theorem AWV (s:ByteArray):(Lib.cut s.data.toList [91]).1.length≤s.size:=by
 have:=ALY s.data.toList
 have e:s.data.toList.length=s.size:=Array.length_toList
 omega
theorem AJE (G:Nat→AV) (hG:GOk G) (s:ByteArray) (h:Hp) (hl:s.size≤1048576):PCall (En G) 103 [.str s] h (.bool (IX s)):=by
 refine acN Tryz.func103 rfl ?_
 show awp _ _ _ _ _ (EE _ [.tmp 2] _)
 simp -implicitDefEqProofs only [BC,A8,A7,AZ,BA,AC,AQ,AO,BD,AX,AL,AA,AY,AU,BO,BM,BH,BB,BV,BN,BF,jF,jD,jE,↓reduceIte,jB,jA,jC,enX,enP]
 refine (O6 G hG.kw s h (by omega)).use ?_
 cases hn:IB s
 case true =>
  simp -implicitDefEqProofs only [BC,A8,BK,BJ,A7,CJ,CU,DR,AZ,BA,AC,AQ,AO,BD,AX,AL,AA,AY,AU,BM,BB,↓reduceIte,jA,jC]
  exact ⟨by unfold IX; rw [hn,qK],trivial⟩
 have hv:IX s=(JV s).isSome:=by unfold IX; rw [hn,jO]
 rw [hv]
 clear hn hv
 simp -implicitDefEqProofs only [BC,A8,BR,BJ,A7,DX,AZ,BA,AC,AQ,AO,BD,AX,AL,AA,AY,AU,BO,GV,BH,BV,BN,BF,jF,jD,jE,↓reduceIte,jB,jA,jC]
 refine (ACF G hG s h hl).use ?_
 have he:=ACB s
 have hal:=AWV s
 unfold cutV
 generalize Lib.cut s.data.toList [91]=c at he hal ⊢
 obtain ⟨a,b,f⟩:=c
 simp only at he hal
 simp -implicitDefEqProofs only [jZ,zC,BC,A8,A7,AZ,BA,BL,BX,CG,AC,AQ,AO,BD,AX,AL,AA,AY,BH,BB,I5,GH,IW,AB,FO,↓reduceIte,jB,jA,jC]
 cases f
 ·simp -implicitDefEqProofs only [BC,A8,BK,BJ,A7,CJ,CU,DR,AZ,BA,BL,BX,CG,FY,AC,AQ,AO,BD,AX,AL,AA,EG,AY,AU,BM,BB,CO,DK,↓reduceIte,jB,jA,jC]
  exact ⟨by rw [he]; rfl,trivial⟩
 simp -implicitDefEqProofs only [BL,BX,CG,EM,AC,AQ,AO,BD,AX,AL,AA,AY,BO,BH,BV,BN,jF,jD,jE,↓reduceIte,jB,jA,jW,jC]
 refine (O6 G hG.kw ⟨a.toArray⟩ h (by rw [szl]; omega)).use ?_
 simp -implicitDefEqProofs only [BJ,A7,AZ,BA,BL,BX,CG,EM,AC,AQ,AO,BD,AX,AL,AA,AY,AU,BM,CO,DU,I5,AB,FO,↓reduceIte,jB,jA,jC]
 cases hna:IB ⟨a.toArray⟩
 ·simp -implicitDefEqProofs only [BC,A8,BK,A7,CJ,CU,DR,AZ,BA,AC,AQ,AO,BD,AX,AL,AA,AU,BM,BB,↓reduceIte,jA,jC]
  exact ⟨by rw [he,hna]; rfl,trivial⟩
 simp -implicitDefEqProofs only [BC,CB,A8,BR,A7,DX,AZ,BA,AC,AQ,AO,BD,AX,AL,AU,BG,BH,jA,jW,jC]
 refine D7 (fun n F H => ∃ k,n+k=8∧(∀ j,j < k→j < 8→s≠elN ⟨a.toArray⟩ j)∧F 0 = .str s∧F 3 = .str ⟨a.toArray⟩∧F 22 = .int .i64 (k:Nat)∧H=h) 8 ⟨0,by simp,fun j hj=>absurd hj (by omega),by simp -implicitDefEqProofs only [AA,BF,↓reduceIte,jB],by simp -implicitDefEqProofs only [AA,↓reduceIte,jB],by simp -implicitDefEqProofs only [AA,↓reduceIte]; rfl,rfl⟩ ?_
 rintro n F H ⟨k,hk,hb,f0,f3,f22,rfl⟩
 simp -implicitDefEqProofs only [BC,A8,BJ,A7,AZ,BA,AC,AQ,AO,BD,AX,AL,AA,AY,AU,BG,BU,AB,DF,↓reduceIte,jA,jC,enP,f22]
 refine CV (fun hc => ?_) (fun hc => ?_)
 ·have hk':k < 8:=by simp at hc; omega
  simp -implicitDefEqProofs only [BC,CB,A8,BR,A7,AZ,BA,AC,AQ,AO,BD,AX,AL,AA,AY,BO,BH,BB,BV,BN,jF,jD,jE,↓reduceIte,jB,jA,jC,f0,f3,f22]
  refine (Y5 G ⟨a.toArray⟩ k hk' H (by rw [szl]; omega)).use ?_
  simp -implicitDefEqProofs only [BJ,A7,AZ,BA,AC,AQ,AO,BD,AX,AL,AA,AY,BU,AB,KQ,↓reduceIte,jB,jA,jC,enP,f0]
  refine CV (fun hp => ?_) (fun hp => ?_)
  ·simp -implicitDefEqProofs only [BC,A8,BK,A7,CJ,D5,FV,CU,AZ,BA,AC,AQ,AO,BD,AX,AL,AA,AU,BM,BB,↓reduceIte,jA,jC]
   exact ⟨by rw [(Y9 _ _).1 hp,AD6 hk' hna]; rfl,trivial⟩
  ·simp -implicitDefEqProofs only [A8,BR,A7,EK,FI,AZ,BA,AC,AQ,AO,BD,AX,AL,AA,AY,AU,BG,BH,BU,AB,DY,↓reduceIte,jB,jA,jC,enP,f22,wrap_succ (show k < 9223372036854775807 by omega)]
   refine ⟨n - 1,by omega,k+1,by omega,fun j hj h8 => ?_,by trivial,by trivial,rfl,trivial⟩
   rcases jT j k with h1 | h1
   ·exact hb j h1 h8
   ·obtain rfl:j=k:=by omega
    intro e
    rw [(Y9 _ _).2 e] at hp
    cases hp
 ·simp -implicitDefEqProofs only [BC,A8,BK,D6,A7,EU,FT,FX,CU,AZ,BA,AC,AQ,AO,BD,AX,AL,AA,AU,BM,BB,↓reduceIte,jA,jC]
  have hk':8≤k:=by simp at hc; omega
  refine ⟨?_,trivial⟩
  rcases hcase:JV s with _ | ⟨a',d⟩
  ·rfl
  ·exfalso
   obtain ⟨c1,c2,c3,c4,_⟩:=L8 hcase
   rw [he,hna] at hcase
   have:a'=a:=by
    simp only [Bool.and_true,if_true] at hcase
    split at hcase
    ·split at hcase
     ·cases hcase; rfl
     ·cases hcase
    ·cases hcase
   subst this
   exact hb _ (by omega) c2 c4
theorem AWR {a:ByteArray} {k i:Nat} (hi:i < (elN a k).size) (h:i=a.size):(elN a k)[i]=91:=by
 subst h
 have h1:(elN a k).data.toList[a.size]? = some 91:=by
  rw [QI,List.getElem?_append_right (by show a.data.toList.length≤a.data.size; simp)]
  have:a.size - a.data.toList.length=0:=by show a.data.size - a.data.toList.length=0; simp
  rw [this]; rfl
 have h2:(elN a k).data[a.size]? = some 91:=by rw [← Array.getElem?_toList]; exact h1
 have hk':a.size < (elN a k).data.size:=hi
 rw [Array.getElem?_eq_getElem hk'] at h2
 exact Option.some.inj h2
theorem AFN (a:ByteArray) (k:Nat):(elN a k).extract 0 a.size=a:=by
 refine ACT ?_
 have:(elN a k)=⟨(a.data.toList ++ [91,UInt8.ofNat (48+k),93]).toArray⟩:=ACT (QI a k)
 rw [this]
 have e:a.size=a.data.toList.length:=(Array.length_toList (xs:=a.data)).symm
 rw [e,ALO]
theorem ANZ (G:Nat→AV) (s:ByteArray) (h:Hp) (hl:s.size≤1048576):PCall (En G) 126 [.str s] h (.bool (IX s)):=by
 refine acN Tryz.func126 rfl ?_
 show awp _ _ _ _ _ (EE _ [.tmp 2] _)
 simp -implicitDefEqProofs only [BC,A8,A7,AZ,BA,AC,AQ,AO,BD,AX,AL,AA,AY,AU,BO,BM,BH,BB,BV,BN,BF,jF,jD,jE,↓reduceIte,jB,jA,jC,enX,enP]
 refine (QA G s h).use ?_
 cases hn:IB s
 case true =>
  simp -implicitDefEqProofs only [BC,A8,BK,BJ,A7,CJ,CU,DR,AZ,BA,AC,AQ,AO,BD,AX,AL,AA,AY,AU,BM,BB,↓reduceIte,jA,jC]
  exact ⟨by unfold IX; rw [hn,qK],trivial⟩
 have hv:IX s=(JV s).isSome:=by unfold IX; rw [hn,jO]
 rw [hv]
 clear hn hv
 simp -implicitDefEqProofs only [BC,CB,A8,BR,BJ,A7,DX,AZ,BA,AC,AQ,AO,BD,AX,AL,AA,AY,AU,BG,BB,↓reduceIte,jA,jC]
 refine D7 (fun n F H => ∃ k,1≤k∧n+k=s.size+1∧(∀ a j,j < 8→IB a=true→a.size < k→s≠elN a j)∧F 0 = .str s∧F 3 = .int .i64 (k:Nat)∧H=h) s.size ⟨1,by omega,by omega,fun a j hj ha hs e => ?_,by simp -implicitDefEqProofs only [AA,BF,↓reduceIte,jB],by simp -implicitDefEqProofs only [AA,↓reduceIte]; rfl,rfl⟩ ?_
 ·have:=(QZ (l:=a.data.toList) (by rw [AIG]; exact ha)).1
  have h2:a.data.toList.length=a.size:=Array.length_toList
  have:=List.length_pos_iff.2 this
  omega
 rintro n F H ⟨k,hk1,hk,hb,f0,f3,rfl⟩
 simp -implicitDefEqProofs only [BC,A8,BJ,A7,AZ,BA,AC,AQ,AO,BD,AX,AL,AA,AY,BH,BU,E5,AB,DF,↓reduceIte,jB,jA,jC,enP,ln9,f0,f3]
 refine CV (fun hc => ?_) (fun hc => ?_)
 ·have hk':k < s.size:=by simpa using hc
  have hnext : ∀ F':Fr,F' 0 = .str s→F' 3 = .int .i64 (k:Nat)→(∀ a j,j < 8→IB a=true→a.size=k→s≠elN a j)→∃ m,m < n∧∃ k',1≤k'∧m+k'=s.size+1∧(∀ a j,j < 8→IB a=true→a.size < k'→s≠elN a j)∧k'=k+1:=fun F' _ _ hk2 =>
   ⟨n - 1,by omega,k+1,by omega,by omega,fun a j hj ha hs=>by
    rcases jT a.size k with h1 | h1
    ·exact hb a j hj ha h1
    ·exact hk2 a j hj ha (by omega),rfl⟩
  simp -implicitDefEqProofs only [BC,CB,A8,BR,A7,AZ,BL,BX,CG,AC,AQ,AO,BD,AX,AL,AA,AY,AU,BG,BH,BU,KJ,AB,FD,↓reduceIte,jB,jA,jC,enP,f0,f3,ix9 s k .i64 hk']
  refine IV (fun hx => ?_) (fun hx => ?_)
  ·simp -implicitDefEqProofs only [A8,D6,BJ,A7,EU,FT,FI,DR,AZ,BA,BL,BX,CG,FY,AC,AQ,AO,BD,AX,AL,AA,EG,AY,AU,BG,BM,BH,BB,CO,DK,BU,AB,DY,↓reduceIte,jB,jA,jC,enP,hx,f3,wrap_succ (show k < 9223372036854775807 by omega)]
   obtain ⟨m,hm,k',h1,h2,h3,rfl⟩:=hnext F f0 f3 (fun a j hj ha hs e=>by
    subst e
    rw [AWR hk' hs.symm] at hx
    revert hx; decide)
   exact ⟨m,hm,k+1,h1,h2,h3,by trivial,rfl,trivial⟩
  simp -implicitDefEqProofs only [qU,Option.map_none,BL,BX,CG,EM,AC,AQ,AO,BD,AX,AL,AA,AY,BO,BH,NK,BV,BN,AB,jF,jD,jE,↓reduceIte,jB,jA,jC,enP,hx,f0,f3,AA7 (Nat.le_of_lt hk')]
  refine (QA G (s.extract 0 k) _).use ?_
  simp -implicitDefEqProofs only [BJ,A7,AZ,BA,BL,BX,CG,EM,AC,AQ,AO,BD,AX,AL,AA,AY,AU,BM,CO,DU,I5,AB,FO,↓reduceIte,jB,jA,jC,hx]
  refine CV (fun hy => ?_) (fun hy => ?_)
  ·simp -implicitDefEqProofs only [A8,D6,A7,EU,FT,FI,AZ,BA,AC,AQ,AO,BD,AX,AL,AA,AY,AU,BG,BH,BB,BU,AB,DY,↓reduceIte,jB,jA,jC,enP,f3,wrap_succ (show k < 9223372036854775807 by omega)]
   obtain ⟨m,hm,k',h1,h2,h3,rfl⟩:=hnext F f0 f3 (fun a j hj ha hs e=>by
    subst e
    subst hs
    rw [AFN,ha] at hy
    cases hy)
   exact ⟨m,hm,k+1,h1,h2,h3,by trivial,rfl,trivial⟩
  have hna:IB (s.extract 0 k)=true:=by simpa using hy
  simp -implicitDefEqProofs only [BC,CB,A8,BR,A7,AZ,BA,AC,AQ,AO,BD,AX,AL,AU,BG,BB,jA,jC]
  refine IY 2 (fun F' H'=>F' 0 = .str s∧F' 3 = .int .i64 (k:Nat)∧H'=H∧∀ j,j < 8→s≠elN (s.extract 0 k) j) (fun F' H'=>F' 2 = .bool (JV s).isSome∧H'=H) ?_ ?_ ?_
  ·refine D7 (fun n' F' H' => ∃ i,n'+i=8∧(∀ j,j < i→j < 8→s≠elN (s.extract 0 k) j)∧F' 0 = .str s∧F' 3 = .int .i64 (k:Nat)∧F' 4 = .int .i64 (i:Nat)∧H'=H) 8 ⟨0,by simp,fun j hj=>absurd hj (by omega),by simp -implicitDefEqProofs only [AA,↓reduceIte,jB,f0],by simp -implicitDefEqProofs only [AA,↓reduceIte,jB,f3],by simp -implicitDefEqProofs only [AA,↓reduceIte]; rfl,rfl⟩ ?_
   clear f0 f3
   rintro n' F H ⟨i,hi,hbi,f0,f3,f4,rfl⟩
   simp -implicitDefEqProofs only [BC,A8,BJ,A7,AZ,BA,AC,AQ,AO,BD,AX,AL,AA,AY,AU,BG,BH,BU,AB,DF,↓reduceIte,jA,jC,enP,f4]
   refine CV (fun hc => ?_) (fun hc => ?_)
   ·have hi':i < 8:=by simp at hc; omega
    simp -implicitDefEqProofs only [qU,Option.map_none,BC,CB,A8,BR,A7,AZ,AC,AQ,AO,BD,AX,AL,AA,AY,BO,BH,NK,BV,BN,AB,jF,jD,jE,↓reduceIte,jB,jA,jC,enP,f0,f3,f4,AA7 (Nat.le_of_lt hk')]
    refine (ACA G (s.extract 0 k) i hi' _ (by simp [ByteArray.size_extract]; omega)).use ?_
    simp -implicitDefEqProofs only [BJ,A7,AZ,BA,AC,AQ,AO,BD,AX,AL,AA,AY,BU,AB,KQ,↓reduceIte,jB,jA,jC,enP]
    refine CV (fun hp => ?_) (fun hp => ?_)
    ·simp -implicitDefEqProofs only [BC,A8,BK,A7,CJ,D5,LW,FV,AZ,BA,AC,AQ,AO,BD,AX,AL,AA,AU,BM,BB,↓reduceIte,jA,jC]
     refine ⟨?_,trivial⟩
     have:=(Y9 _ _).1 hp
     rw [this,AD6 hi' hna]; rfl
    ·simp -implicitDefEqProofs only [A8,BR,A7,EK,FI,AZ,BA,AC,AQ,AO,BD,AX,AL,AA,AY,AU,BG,BH,BB,BU,AB,DY,↓reduceIte,jB,jA,jC,enP,f4,wrap_succ (show i < 9223372036854775807 by omega)]
     refine ⟨n' - 1,by omega,i+1,by omega,fun j hj h8 => ?_,by trivial,by trivial,rfl,trivial⟩
     rcases jT j i with h1 | h1
     ·exact hbi j h1 h8
     ·obtain rfl:j=i:=by omega
      intro e
      rw [(Y9 _ _).2 e] at hp
      cases hp
   ·have hi':8≤i:=by simp at hc; omega
    simp -implicitDefEqProofs only [D6,EU,MX,FX,AA,↓reduceIte,jB]
    exact ⟨f0,f3,trivial,fun j hj=>hbi j (by omega) hj⟩
  ·rintro F' H' ⟨g0,g3,rfl,hno⟩
   simp -implicitDefEqProofs only [A8,A7,EK,FT,FI,AZ,BA,AC,AQ,AO,BD,AX,AL,AA,AY,AU,BG,BH,BB,BU,AB,DY,↓reduceIte,jB,jA,jC,enP,g3,wrap_succ (show k < 9223372036854775807 by omega)]
   obtain ⟨m,hm,k',h1,h2,h3,rfl⟩:=hnext F' g0 g3 (fun a j hj ha hs e=>by
    refine hno j hj ?_
    rw [e,← hs,AFN])
   exact ⟨m,hm,k+1,h1,h2,h3,by first | exact g0 | trivial,rfl,trivial⟩
  ·rintro F' H' ⟨g2,rfl⟩
   simp -implicitDefEqProofs only [CJ,D5,FV,CU,g2]
   exact ⟨trivial,trivial⟩
 ·have hk' : ¬ k < s.size:=by simpa using hc
  simp -implicitDefEqProofs only [BC,A8,BK,D6,A7,EU,FT,FX,CU,AZ,BA,AC,AQ,AO,BD,AX,AL,AA,AU,BM,BB,↓reduceIte,jA,jC]
  refine ⟨?_,trivial⟩
  rcases hcase:JV s with _ | ⟨a,d⟩
  ·rfl
  ·exfalso
   obtain ⟨c1,c2,c3,c4,c5⟩:=L8 hcase
   refine hb ⟨a.toArray⟩ _ c2 c3 ?_ c4
   rw [szl]; omega
def O7 (l:List Vr) (s:ByteArray):Bool:=match JV s with
 | some (a,d)=>decide (1≤d.toNat - 48) && decide (plc l (elN ⟨a.toArray⟩ (d.toNat - 48 - 1)) < 0)
 | none=>false
theorem AQU {s:ByteArray} (h:IB s=true):(Lib.cut s.data.toList [91]).2.2=false:=by
 obtain ⟨_,hne⟩:=QZ (l:=s.data.toList) (by rw [AIG]; exact h)
 have:Lib.index s.data.toList [91] = -1:=Lib.index_none fun j _=>by
  rw [← qP]
  intro ho
  have:=Lib.occAt_head rfl ho
  exact hne 91 (zL this) rfl
 unfold Lib.cut
 rw [this,if_neg (by omega)]
theorem AQV {s:ByteArray} {a:List UInt8} {d:UInt8} (h:JV s=some (a,d)):(Lib.cut s.data.toList [91]).1=a∧(Lib.cut s.data.toList [91]).2.2=true:=by
 rw [ACB] at h
 split at h
 case isFalse=>cases h
 rename_i hc
 split at h
 case h_2=>cases h
 split at h
 case isFalse=>cases h
 cases h
 exact ⟨rfl,(Bool.and_eq_true_iff.1 hc).1⟩
theorem AP6 (G:Nat→AV) (hG:GOk G) (l:List Vr) (m:SM) (s:ByteArray) (h:Hp) (hl:l.length≤1099511627776) (hs:s.size≤1048576) (hv:IX s=true):PCall (En G) 107 [.sl m 4 (l.map FM),.str s] h (.bool (O7 l s)):=by
 refine acN Tryz.func107 rfl ?_
 show awp _ _ _ _ _ (EE _ [.tmp 4] _)
 simp -implicitDefEqProofs only [BC,A8,A7,AZ,BA,AC,AQ,AO,BD,AX,AL,AA,AY,AU,BO,BM,GV,BH,BB,BV,BN,BF,BQ,jF,jD,jE,↓reduceIte,jB,jA,jC,enX,enP]
 refine (ACF G hG s h hs).use ?_
 unfold cutV
 rcases hcase:JV s with _ | ⟨a,d⟩
 ·have hn:IB s=true:=by
   unfold IX at hv; rw [hcase] at hv; simpa using hv
  have hg:O7 l s=false:=by unfold O7; rw [hcase]
  rw [AQU hn,hg]
  simp -implicitDefEqProofs only [jZ,zC,BC,A8,BK,BJ,A7,CJ,CU,DR,AZ,BA,AC,AQ,AO,BD,AX,AL,AA,AY,AU,BM,BH,BB,I5,GH,IW,AB,FO,↓reduceIte,jB,jA,jC]
  exact ⟨trivial,trivial⟩
 obtain ⟨e1,e2⟩:=AQV hcase
 obtain ⟨c1,c2,c3,c4,c5⟩:=L8 hcase
 have hg:O7 l s=(decide (1≤d.toNat - 48) && decide (plc l (elN ⟨a.toArray⟩ (d.toNat - 48 - 1)) < 0)):=by unfold O7; rw [hcase]
 rw [e1,e2,hg]
 clear hg hcase e1 e2
 generalize d.toNat - 48=q at c2 c4 ⊢
 simp -implicitDefEqProofs only [jZ,zC,BC,CB,A8,BR,BJ,A7,DX,AZ,BA,AC,AQ,AO,BD,AX,AL,AA,AY,AU,BG,BH,BB,I5,GH,IW,AB,FO,↓reduceIte,jB,jA,jW,jC]
 refine D7 (fun n F H => ∃ k,n+k=8∧1≤k∧(∀ j,1≤j→j < k→j≠q)∧F 0 = .sl m 4 (l.map FM)∧F 1 = .str s∧F 5 = .str ⟨a.toArray⟩∧F 8 = .int .i64 (k:Nat)∧H=h) 7 ⟨1,by simp,by omega,fun j h1 h2=>absurd h2 (by omega),by simp -implicitDefEqProofs only [AA,BF,↓reduceIte,jB],by simp -implicitDefEqProofs only [AA,BF,BQ,↓reduceIte,jB],by simp -implicitDefEqProofs only [AA,↓reduceIte,jB],by simp -implicitDefEqProofs only [AA,↓reduceIte]; rfl,rfl⟩ ?_
 rintro n F H ⟨k,hk,hk1,hb,f0,f1,f5,f8,rfl⟩
 simp -implicitDefEqProofs only [BC,A8,BJ,A7,AZ,BA,AC,AQ,AO,BD,AX,AL,AA,AY,AU,BG,BH,BU,AB,DF,↓reduceIte,jA,jC,enP,f8]
 refine CV (fun hc => ?_) (fun hc => ?_)
 ·have hk':k < 8:=by simp at hc; omega
  simp -implicitDefEqProofs only [BC,CB,A8,BR,A7,AZ,AC,AQ,AO,BD,AX,AL,AA,AY,BO,BH,BV,BN,jF,jD,jE,↓reduceIte,jB,jA,jC,f1,f5,f8]
  refine (Y5 G ⟨a.toArray⟩ k hk' H (by rw [szl]; omega)).use ?_
  simp -implicitDefEqProofs only [BJ,A7,AZ,BA,AC,AQ,AO,BD,AX,AL,AA,AY,BU,AB,KQ,↓reduceIte,jB,jA,jC,enP,f1]
  refine CV (fun hp => ?_) (fun hp => ?_)
  ·have hq:k=q:=by
    have:=(Y9 _ _).1 hp
    rw [c4] at this
    exact (ALT c2 hk' this).symm
   have hw:IntKind.i64.wrap (((k:Nat):Int) - 1)=((k - 1:Nat):Int):=by rw [wrap_i64 (by omega) (by omega)]; omega
   simp -implicitDefEqProofs only [BC,A8,AZ,AC,AQ,AO,BD,AX,AL,AA,AY,AU,BO,BG,BH,BU,BV,BN,AB,IZ,jF,jD,jE,↓reduceIte,jB,jA,jC,enP,f0,f5,f8,hw]
   refine (Y5 G ⟨a.toArray⟩ (k - 1) (by omega) H (by rw [szl]; omega)).use ?_
   simp -implicitDefEqProofs only [AZ,AC,AQ,AO,BD,AX,AL,AA,AY,BO,BV,BN,jF,jD,jE,↓reduceIte,jB,jA,jC,f0]
   refine (index_prog G l m _ H hl).use ?_
   simp -implicitDefEqProofs only [BK,A7,CJ,D5,FV,CU,AZ,BA,AC,AQ,AO,BD,AX,AL,AA,AY,AU,BG,BB,BU,AB,DF,↓reduceIte,jA,jC,enP]
   refine ⟨?_,trivial⟩
   rw [← hq,decide_eq_true hk1,Bool.true_and]
  ·simp -implicitDefEqProofs only [A8,BR,A7,EK,FI,AZ,BA,AC,AQ,AO,BD,AX,AL,AA,AY,AU,BG,BH,BB,BU,AB,DY,↓reduceIte,jB,jA,jC,enP,f8,wrap_succ (show k < 9223372036854775807 by omega)]
   refine ⟨n - 1,by omega,k+1,by omega,by omega,fun j h1 h2 => ?_,by trivial,by trivial,by trivial,rfl,trivial⟩
   rcases jT j k with h3 | h3
   ·exact hb j h1 h3
   ·obtain rfl:j=k:=by omega
    intro e
    rw [(Y9 _ _).2 (by rw [c4,e])] at hp
    cases hp
 ·simp -implicitDefEqProofs only [BC,A8,BK,D6,A7,EU,FT,FX,CU,AZ,BA,AC,AQ,AO,BD,AX,AL,AA,AU,BM,BB,↓reduceIte,jA,jC]
  have hk':8≤k:=by simp at hc; omega
  refine ⟨?_,trivial⟩
  have : ¬ 1≤q:=fun h1=>hb q h1 (by omega) rfl
  rw [decide_eq_false this,Bool.false_and]
theorem ARC {s:ByteArray} {k:Nat} (hk:k < s.size):s.data.toList[k]? = some s[k]:=by
 have h2:s.data[k]? = some s[k]:=Array.getElem?_eq_getElem hk
 rw [Array.getElem?_toList]; exact h2
theorem AZQ {s:ByteArray} (hv:IX s=true) {k:Nat} (hk:k < s.size) (hb:s[k]=91) : ∃ a d,JV s=some (a,d)∧k=a.length∧s.extract 0 k=⟨a.toArray⟩:=by
 have hg:=ARC hk
 rw [hb] at hg
 rcases hcase:JV s with _ | ⟨a,d⟩
 ·exfalso
  have hn:IB s=true:=by unfold IX at hv; rw [hcase] at hv; simpa using hv
  exact (QZ (l:=s.data.toList) (by rw [AIG]; exact hn)).2 91 (zL hg) rfl
 ·obtain ⟨c1,c2,c3,c4,c5⟩:=L8 hcase
  refine ⟨a,d,rfl,?_⟩
  have hna:=(QZ c3).2
  rw [c4,QI] at hg
  have hkk:k=a.length:=by
   rcases Nat.lt_trichotomy k a.length with h1 | h1 | h1
   ·exfalso
    rw [List.getElem?_append_left (by simpa using h1)] at hg
    exact hna 91 (zL hg) rfl
   ·exact h1
   ·exfalso
    rw [List.getElem?_append_right (by simp; omega)] at hg
    simp only at hg
    obtain ⟨j,hj⟩ : ∃ j,k - a.length=j+1:=⟨k - a.length - 1,by omega⟩
    rw [hj,zC] at hg
    have:j=0∨j=1:=by omega
    rcases this with rfl | rfl
    ·simp only [jZ,Option.some.injEq] at hg
     have:=congrArg UInt8.toNat hg
     rw [AFP c2] at this
     have h91:(91:UInt8).toNat=91:=rfl
     omega
    ·simp only [zC,jZ,Option.some.injEq] at hg
     exact absurd hg (by decide)
  refine ⟨hkk,?_⟩
  have:=AFN ⟨a.toArray⟩ (d.toNat - 48)
  rw [szl,← c4,← hkk] at this
  exact this
theorem ATL (G:Nat→AV) (l:List Vr) (m:SM) (h:Hp) (hl:l.length≤1048576) (hv : ∀ v∈l,IX v.name=true∧v.name.size≤1048576):PCall (En G) 85 [.sl m 4 (l.map FM)] h (.bool (l.any fun v=>O7 l v.name)):=by
 refine acN Tryz.func85 rfl ?_
 show awp _ _ _ _ _ (EE _ [.tmp 2] _)
 simp -implicitDefEqProofs only [BC,CB,A8,A7,AZ,BA,AC,AQ,AO,BD,AX,AL,AU,BG,BM,BB,jA,jC,enX,enP]
 refine D7 (fun n F H => ∃ i,n+i=l.length∧(∀ (j:Nat) (hj:j < i) (hl:j < l.length),O7 l l[j].name=false)∧F 0 = .sl m 4 (l.map FM)∧F 3 = .int .i64 (i:Nat)∧H=h) l.length ⟨0,by simp,fun j hj=>absurd hj (by omega),by simp -implicitDefEqProofs only [AA,BF,↓reduceIte,jB],by simp -implicitDefEqProofs only [AA,↓reduceIte]; rfl,rfl⟩ ?_
 rintro n F H ⟨i,hi,hb,f0,f3,rfl⟩
 simp -implicitDefEqProofs only [BC,A8,BJ,A7,AZ,BA,AC,AQ,AO,BD,AX,AL,AA,AY,BH,BU,E5,AB,DF,↓reduceIte,jB,jA,jC,enP,QR,f0,f3,jM]
 refine CV (fun hc => ?_) (fun hc => ?_)
 ·have hi':i < l.length:=by simpa using hc
  obtain ⟨hvi,hsz⟩:=hv _ (jQ hi')
  have l0:DL Tryz.prog H 9 (.fptr 4 (l.map FM) i 0)=some (.str l[i].name):=by rw [GG ag9 hi']; rfl
  have hany:O7 l l[i].name=true→(l.any fun v=>O7 l v.name)=true:=fun hg=>List.any_eq_true.2 ⟨_,jQ hi',hg⟩
  generalize hs:l[i].name=s at hvi hsz l0 hany
  simp -implicitDefEqProofs only [BC,CB,A8,BR,A7,AZ,BA,AC,AQ,AO,BD,AX,AL,AU,BG,BB,jA,jC]
  refine IY 2 (fun F' H'=>F' 0 = .sl m 4 (l.map FM)∧F' 3 = .int .i64 (i:Nat)∧H'=H∧O7 l s=false) (fun F' H'=>F' 2 = .bool (l.any fun v=>O7 l v.name)∧H'=H) ?_ ?_ ?_
  ·refine D7 (fun n' F' H' => ∃ k,1≤k∧n'+k=s.size+1∧(∀ a d,JV s=some (a,d)→a.length < k→O7 l s=false)∧F' 0 = .sl m 4 (l.map FM)∧F' 3 = .int .i64 (i:Nat)∧F' 4 = .int .i64 (k:Nat)∧H'=H) s.size ⟨1,by omega,by omega,fun a d ha h1 => ?_,by simp -implicitDefEqProofs only [AA,↓reduceIte,jB,f0],by simp -implicitDefEqProofs only [AA,↓reduceIte,jB,f3],by simp -implicitDefEqProofs only [AA,↓reduceIte]; rfl,rfl⟩ ?_
   ·exfalso
    have:=(QZ (L8 ha).2.2.1).1
    have:=List.length_pos_iff.2 this
    omega
   clear f0 f3
   rintro n' F H ⟨k,hk1,hk,hbk,f0,f3,f4,rfl⟩
   simp -implicitDefEqProofs only [BC,A8,BJ,A7,AZ,BA,AC,AQ,AO,BD,AX,AL,AA,AY,BH,BP,BU,BI,CQ,E5,AB,DF,↓reduceIte,jB,jI,jA,jC,enP,ln9,TU,OO,f0,f3,f4,EF hi',l0]
   refine CV (fun hc => ?_) (fun hc => ?_)
   ·have hk':k < s.size:=by simpa using hc
    simp -implicitDefEqProofs only [BC,CB,A8,BR,BJ,A7,AZ,BA,AC,AQ,AO,BD,AX,AL,AA,AY,AU,BG,BH,BP,BU,BI,CQ,KJ,AB,FD,↓reduceIte,jB,jI,jA,jC,enP,TU,OO,f0,f3,f4,EF hi',l0,ix9 s k .i64 hk']
    refine CV (fun hx => ?_) (fun hx => ?_)
    ·simp -implicitDefEqProofs only [A8,D6,A7,EU,FT,FI,AZ,BA,AC,AQ,AO,BD,AX,AL,AA,AY,AU,BG,BH,BB,BU,AB,DY,↓reduceIte,jB,jA,jC,enP,f4,wrap_succ (show k < 9223372036854775807 by omega)]
     refine ⟨n' - 1,by omega,k+1,by omega,by omega,fun a d ha h1 => ?_,f0,f3,rfl,trivial⟩
     rcases jT a.length k with h2 | h2
     ·exact hbk a d ha h2
     ·exfalso
      obtain ⟨c1,c2,c3,c4,c5⟩:=L8 ha
      have h3:s[k]=91:=by
       have h4:s.data.toList[k]? = some 91:=by
        rw [c4,QI,List.getElem?_append_right (by simp; omega)]
        have:k - (⟨a.toArray⟩:ByteArray).data.toList.length=0:=by simp; omega
        rw [this]; rfl
       rw [ARC hk'] at h4
       exact Option.some.inj h4
      rw [h3] at hx
      revert hx; decide
    have hbr:s[k]=91:=by
     have h0:((s[k].toNat:Int) == 91)=true:=by
      simpa [bne] using hx
     have h1:(s[k].toNat:Int)=91:=by simpa using h0
     exact UInt8.toNat_inj.1 (by show _=91; omega)
    obtain ⟨a,d,ha,hka,hext⟩:=AZQ hvi hk' hbr
    obtain ⟨c1,c2,c3,c4,c5⟩:=L8 ha
    have hgv:O7 l s=(decide (1≤d.toNat - 48) && decide (plc l (elN ⟨a.toArray⟩ (d.toNat - 48 - 1)) < 0)):=by unfold O7; rw [ha]
    have hasz:(⟨a.toArray⟩:ByteArray).size≤1048576:=by rw [szl]; omega
    generalize d.toNat - 48=q at c2 c4 hgv
    simp -implicitDefEqProofs only [BC,CB,A8,BR,A7,AZ,BA,AC,AQ,AO,BD,AX,AL,AU,BG,BB,jA,jC]
    refine IY 4 (fun F' H'=>F' 0 = .sl m 4 (l.map FM)∧F' 3 = .int .i64 (i:Nat)∧F' 4 = .int .i64 (k:Nat)∧H'=H∧O7 l s=false) (fun F' H'=>F' 2 = .bool (l.any fun v=>O7 l v.name)∧H'=H) ?_ ?_ ?_
    ·refine D7 (fun n2 F' H' => ∃ t,1≤t∧n2+t=8∧(1≤q→q < t→O7 l s=false)∧F' 0 = .sl m 4 (l.map FM)∧F' 3 = .int .i64 (i:Nat)∧F' 4 = .int .i64 (k:Nat)∧F' 5 = .int .i64 (t:Nat)∧H'=H) 7 ⟨1,by omega,by omega,fun h1 h2=>absurd h2 (by omega),by simp -implicitDefEqProofs only [AA,↓reduceIte,jB,f0],by simp -implicitDefEqProofs only [AA,↓reduceIte,jB,f3],by simp -implicitDefEqProofs only [AA,↓reduceIte,jB,f4],by simp -implicitDefEqProofs only [AA,↓reduceIte]; rfl,rfl⟩ ?_
     clear f0 f3 f4
     rintro n2 F H ⟨t,ht1,ht,hbt,f0,f3,f4,f5,rfl⟩
     simp -implicitDefEqProofs only [BC,A8,BJ,A7,AZ,BA,AC,AQ,AO,BD,AX,AL,AA,AY,AU,BG,BH,BU,AB,DF,↓reduceIte,jA,jC,enP,f5]
     refine CV (fun hc => ?_) (fun hc => ?_)
     ·have ht':t < 8:=by simp at hc; omega
      have hw:IntKind.i64.wrap (((t:Nat):Int) - 1)=((t - 1:Nat):Int):=by rw [wrap_i64 (by omega) (by omega)]; omega
      simp -implicitDefEqProofs only [BC,CB,BR,A7]
      refine EX (by kernel_rfl) ?_
      simp -implicitDefEqProofs only [FC,qU,Option.map_none,DV,CY,DW,EP,ED,IJ,XA,DN,EQ,EW,EJ,AC,AA,AY,BO,BP,BU,NK,BI,CQ,AB,jF,jD,jE,↓reduceIte,jB,jK,jI,jA,enP,TU,OO,f0,f3,f4,f5,EF hi',l0,AA7 (Nat.le_of_lt hk'),hext]
      refine ⟨_,ACA G ⟨a.toArray⟩ t ht' _ hasz,?_⟩
      simp -implicitDefEqProofs only [FC,DV,CY,DW,D9,ET,EP,CG,AC,AA,AY,AB,KQ,↓reduceIte,jK,jA]
      have nxt:O7 l s=false∨t≠q→∃ m',m' < n2∧∃ t',1≤t'∧m'+t'=8∧(1≤q→q < t'→O7 l s=false)∧t'=t+1:=fun hh =>
       ⟨n2 - 1,by omega,t+1,by omega,by omega,fun h1 h2=>by
        rcases hh with hh | hh
        ·exact hh
        ·exact hbt h1 (by omega),rfl⟩
      refine PH (fun hp => ?_) (fun hp => ?_)
      ·have hq:t=q:=by
        have:=(Y9 _ _).1 hp
        rw [c4] at this
        exact (ALT c2 ht' this).symm
       simp -implicitDefEqProofs only [FC,qU,Option.map_none,DV,CY,D9,ET,PS,EP,ED,IJ,XA,DN,EQ,EW,EJ,CG,AC,AA,AY,AU,BO,BG,BP,BU,NK,BI,CQ,AB,IZ,jF,jD,jE,↓reduceIte,jB,jK,jI,jA,enP,TU,OO,hp,f0,f3,f4,f5,EF hi',l0,AA7 (Nat.le_of_lt hk'),hext,hw]
       refine ⟨_,ACA G ⟨a.toArray⟩ (t - 1) (by omega) _ hasz,?_⟩
       try simp -implicitDefEqProofs only [hp]
       refine ⟨_,WL G l m _ _ (by omega),?_⟩
       simp -implicitDefEqProofs only [FC,DV,CY,EC,DW,F6,BJ,A7,AC,AA,AY,AU,BM,CO,DK,AB,DF,↓reduceIte,jB,jK,jA,hp]
       refine CV (fun hz => ?_) (fun hz => ?_)
       ·simp -implicitDefEqProofs only [BC,A8,BK,A7,CJ,D5,LW,FV,AZ,BA,AC,AQ,AO,BD,AX,AL,AA,AU,BM,BB,↓reduceIte,jA,jC]
        refine ⟨?_,trivial⟩
        rw [hany]
        rw [hgv,← hq,decide_eq_true ht1,hz]; rfl
       ·simp -implicitDefEqProofs only [A8,BR,A7,EK,FI,AZ,BA,AC,AQ,AO,BD,AX,AL,AA,AY,AU,BG,BH,BB,BU,AB,DY,↓reduceIte,jB,jA,jC,enP,f5,wrap_succ (show t < 9223372036854775807 by omega)]
        obtain ⟨m',hm,t',h1,h2,h3,rfl⟩:=nxt (.inl (by rw [hgv,← hq,hz,Bool.and_false]))
        exact ⟨m',hm,t+1,h1,h2,h3,f0,f3,f4,rfl,trivial⟩
      ·simp -implicitDefEqProofs only [FC,DV,CY,EC,DW,D9,ET,SL,F6,A8,BR,BJ,A7,EK,FI,DX,AZ,BA,CG,AC,AQ,AO,BD,AX,AL,AA,EG,AY,AU,BG,BM,BH,BB,CO,DU,BU,AB,DY,↓reduceIte,jB,jK,jA,jC,enP,hp,f5,wrap_succ (show t < 9223372036854775807 by omega)]
       obtain ⟨m',hm,t',h1,h2,h3,rfl⟩:=nxt (.inr (fun e=>by
        rw [(Y9 _ _).2 (by rw [c4,e])] at hp
        cases hp))
       exact ⟨m',hm,t+1,h1,h2,h3,f0,f3,f4,rfl,trivial⟩
     ·have ht':8≤t:=by simp at hc; omega
      simp -implicitDefEqProofs only [D6,EU,MX,FX,AA,↓reduceIte,jB]
      refine ⟨f0,f3,f4,trivial,?_⟩
      rcases jT q 1 with h1 | h1
      ·rw [hgv,decide_eq_false (by omega),Bool.false_and]
      ·exact hbt h1 (by omega)
    ·rintro F' H' ⟨g0,g3,g4,rfl,hno⟩
     simp -implicitDefEqProofs only [A8,A7,EK,FT,FI,AZ,BA,AC,AQ,AO,BD,AX,AL,AA,AY,AU,BG,BH,BB,BU,AB,DY,↓reduceIte,jB,jA,jC,enP,g4,wrap_succ (show k < 9223372036854775807 by omega)]
     exact ⟨n' - 1,by omega,k+1,by omega,by omega,fun _ _ _ _=>hno,g0,g3,rfl,trivial⟩
    ·rintro F' H' ⟨g2,rfl⟩
     simp -implicitDefEqProofs only [CJ,D5,LW,FV,g2]
     exact ⟨trivial,trivial⟩
   ·have hk' : ¬ k < s.size:=by simpa using hc
    simp -implicitDefEqProofs only [D6,EU,MX,FX,AA,↓reduceIte,jB]
    refine ⟨f0,f3,trivial,?_⟩
    rcases hcase:JV s with _ | ⟨a,d⟩
    ·unfold O7; rw [hcase]
    ·exact hbk a d hcase (by have:=(L8 hcase).2.2.2.2; omega)
  ·rintro F' H' ⟨g0,g3,rfl,hno⟩
   simp -implicitDefEqProofs only [A8,A7,EK,FT,FI,AZ,BA,AC,AQ,AO,BD,AX,AL,AA,AY,AU,BG,BH,BB,BU,AB,DY,↓reduceIte,jB,jA,jC,enP,g3,wrap_succ (show i < 9223372036854775807 by omega)]
   refine ⟨n - 1,by omega,i+1,by omega,fun j hj hl => ?_,g0,rfl,trivial⟩
   rcases jT j i with h1 | h1
   ·exact hb j h1 hl
   ·obtain rfl:j=i:=by omega
    rw [hs]; exact hno
  ·rintro F' H' ⟨g2,rfl⟩
   simp -implicitDefEqProofs only [CJ,D5,FV,CU,g2]
   exact ⟨trivial,trivial⟩
 ·simp -implicitDefEqProofs only [BC,A8,BK,D6,A7,EU,FT,FX,CU,AZ,BA,AC,AQ,AO,BD,AX,AL,AA,AU,BM,BB,↓reduceIte,jA,jC]
  have hi' : ¬ i < l.length:=by simpa using hc
  refine ⟨?_,trivial⟩
  have:(l.any fun v=>O7 l v.name)=false:=by
   rw [List.any_eq_false]
   intro v hv
   obtain ⟨j,hj,rfl⟩:=qB hv
   rw [hb j (by omega) hj]; decide
  rw [this]
def OM {α:Type} (f:α→Int):List α→Int
 | []=>0
 | x :: r=>if f x≠0 then f x else OM f r
theorem QF {α:Type} (f:α→Int) : ∀ (xs:List α) (k:Nat) (hk:k < xs.length),(∀ (j:Nat) (hj:j < k),f (xs[j]'(by omega))=0)→f xs[k]≠0→OM f xs=f xs[k]
 | x :: r,0,_,_,h=>by
   have h:f x≠0:=h
   show (if f x≠0 then f x else OM f r)=f x
   rw [if_pos h]
 | x :: r,k+1,hk,hb,h=>by
   have h0:f x=0:=hb 0 (by omega)
   have ih:=QF f r k (by simpa using hk) (fun j hj=>hb (j+1) (by omega)) h
   show (if f x≠0 then f x else OM f r)=f (r[k]'(by simpa using hk))
   rw [if_neg (by simp [h0]),ih]
theorem OL {α:Type} (f:α→Int) : ∀ xs:List α,(∀ (j:Nat) (hj:j < xs.length),f xs[j]=0)→OM f xs=0
 | [],_=>rfl
 | x :: r,hb=>by
   have h0:f x=0:=hb 0 (by simp)
   show (if f x≠0 then f x else OM f r)=0
   rw [if_neg (by simp [h0]),OL f r fun j hj=>hb (j+1) (by simpa using hj)]
theorem PZ {α:Type} {f:α→Int} : ∀ {xs:List α},OM f xs=0→∀ x∈xs,f x=0
 | y :: r,h,x,hx=>by
   have h1:(if f y≠0 then f y else OM f r)=0:=h
   split at h1
   ·rename_i hy; exact absurd h1 hy
   ·rename_i hy
    rcases List.mem_cons.1 hx with rfl | hx
    ·simpa using hy
    ·exact PZ h1 x hx
def LJ (v:Vr):Bool:=decide (v.width < 1) || decide (v.width > 8) || decide (v.mode < 0) || decide (v.mode > 2) || decide (v.value < 0) || decide (v.value≥2 ^ v.width.toNat) || (!(v.mode == 0) && !(v.value == 0))
def vrE (v:Vr):Int:=if IX v.name=true then if LJ v=true then 1 else 0 else 7
theorem AX8 : ∀ n:Nat,n≤8→G8 Tryz.prog 3 .shl (.int .i64 1) (.int .i64 (n:Nat))=some (.int .i64 (2 ^ n))
 | 0,_=>by kernel_rfl
 | 1,_=>by kernel_rfl
 | 2,_=>by kernel_rfl
 | 3,_=>by kernel_rfl
 | 4,_=>by kernel_rfl
 | 5,_=>by kernel_rfl
 | 6,_=>by kernel_rfl
 | 7,_=>by kernel_rfl
 | 8,_=>by kernel_rfl
 | n+9,h=>absurd h (by omega)
theorem AUR {w:Int} (h0 : ¬ w < 1) (h1 : ¬ w > 8):G8 Tryz.prog 3 .shl (.int .i64 1) (.int .i64 w)=some (.int .i64 (2 ^ w.toNat)):=by
 obtain ⟨n,rfl⟩:=Int.eq_ofNat_of_zero_le (by omega:0≤w)
 exact AX8 n (by omega)
theorem AEU (G:Nat→AV) (v:Vr) (h:Hp) (hs:v.name.size≤1048576):PCall (En G) 83 [.agg (FM v)] h (.int .i64 (vrE v)):=by
 refine ACalls.pure0 rfl ?_
 refine acN Tryz.func83 rfl ?_
 show awp _ _ _ _ _ (EE _ [.tmp 2] _)
 simp -implicitDefEqProofs only [BC,A8,A7,AZ,BA,AC,AQ,AO,BD,AX,AL,AA,AY,AU,BO,BG,BB,FN,BP,BI,BV,BN,BZ,AB,BF,jF,jD,jE,↓reduceIte,jB,jI,jA,jC,enP,OO,bxV,EH ag9,AQP]
 refine (ANZ G v.name _ hs).use ?_
 cases hn:IX v.name
 ·simp -implicitDefEqProofs only [BC,A8,BK,BJ,A7,CJ,CU,DR,AZ,BA,AC,AQ,AO,BD,AX,AL,AA,AY,AU,BG,BB,I5,AB,FO,↓reduceIte,jA,jC]
  exact ⟨by unfold vrE; rw [hn]; rfl,_,rfl⟩
 simp -implicitDefEqProofs only [BC,A8,BR,BJ,A7,DX,AZ,BA,BL,BX,CG,AC,AQ,AO,BD,AX,AL,AA,AY,AU,BG,BH,BP,BU,I5,BI,AB,DF,FO,↓reduceIte,jB,jG,jA,jW,jC,enP,NW,EH ag3,AQO]
 have fin : ∀ b,LJ v=b→vrE v=if b=true then 1 else 0:=fun b hb=>by unfold vrE; rw [hn,hb]; rfl
 cases b1:decide (v.width < 1)
 case true =>
  simp -implicitDefEqProofs only [BC,A8,BK,BJ,A7,CJ,CU,DR,AZ,BA,BL,BX,CG,FY,AC,AQ,AO,BD,AX,AL,AA,EG,AY,AU,BG,BM,BH,BB,CO,DK,↓reduceIte,jB,jA,jC,b1]
  exact ⟨by rw [fin true (by unfold LJ; rw [b1]; simp)]; rfl,_,rfl⟩
 simp -implicitDefEqProofs only [AZ,BL,BX,CG,EM,AC,AQ,AO,BD,AX,AL,AA,AY,AU,BG,BM,BH,CO,DU,BP,BU,BI,AB,EY,↓reduceIte,jB,jG,jA,jC,enP,NW,b1,EH ag3,AQO]
 cases b2:decide (v.width > 8)
 case true =>
  simp -implicitDefEqProofs only [BC,A8,BK,BJ,A7,CJ,CU,DR,AZ,BA,BL,BX,CG,FY,AC,AQ,AO,BD,AX,AL,AA,EG,AY,AU,BG,BM,BH,BB,CO,DK,↓reduceIte,jB,jA,jC,b2]
  exact ⟨by rw [fin true (by unfold LJ; rw [b2]; simp)]; rfl,_,rfl⟩
 simp -implicitDefEqProofs only [AZ,BL,BX,CG,EM,AC,AQ,AO,BD,AX,AL,AA,AY,AU,BG,BM,BH,CO,DU,BP,BU,BI,AB,DF,↓reduceIte,jB,jG,jA,jC,enP,MZ,b2,EH ag3,AQN]
 cases b3:decide (v.mode < 0)
 case true =>
  simp -implicitDefEqProofs only [BC,A8,BK,BJ,A7,CJ,CU,DR,AZ,BA,BL,BX,CG,FY,AC,AQ,AO,BD,AX,AL,AA,EG,AY,AU,BG,BM,BH,BB,CO,DK,↓reduceIte,jB,jA,jC,b3]
  exact ⟨by rw [fin true (by unfold LJ; rw [b3]; simp)]; rfl,_,rfl⟩
 simp -implicitDefEqProofs only [AZ,BL,BX,CG,EM,AC,AQ,AO,BD,AX,AL,AA,AY,AU,BG,BM,BH,CO,DU,BP,BU,BI,AB,EY,↓reduceIte,jB,jG,jA,jC,enP,MZ,b3,EH ag3,AQN]
 cases b4:decide (v.mode > 2)
 case true =>
  simp -implicitDefEqProofs only [BC,A8,BK,BJ,A7,CJ,CU,DR,AZ,BA,BL,BX,CG,FY,AC,AQ,AO,BD,AX,AL,AA,EG,AY,AU,BG,BM,BB,CO,DK,↓reduceIte,jB,jA,jC,b4]
  exact ⟨by rw [fin true (by unfold LJ; rw [b4]; simp)]; rfl,_,rfl⟩
 simp -implicitDefEqProofs only [BJ,A7,AZ,BA,BL,BX,CG,EM,AC,AQ,AO,BD,AX,AL,AA,AY,AU,BG,BM,CO,DU,BP,BU,BI,AB,DF,↓reduceIte,jB,jG,jA,jC,enP,WM,b4,EH ag3,AU4]
 cases b5:decide (v.value < 0)
 case true =>
  simp -implicitDefEqProofs only [BC,A8,BK,A7,CJ,CU,DR,AZ,BA,AC,AQ,AO,BD,AX,AL,AA,AU,BG,BB,↓reduceIte,jA,jC,b5]
  exact ⟨by rw [fin true (by unfold LJ; rw [b5]; simp)]; rfl,_,rfl⟩
 simp -implicitDefEqProofs only [BC,BR,A7,DX,b5]
 have hw1 : ¬ v.width < 1:=by simpa using b1
 have hw2 : ¬ v.width > 8:=by simpa using b2
 have hv0 : ¬ v.value < 0:=by simpa using b5
 have hsh:=AUR hw1 hw2
 have fin2 : ∀ b,(decide (v.value≥2 ^ v.width.toNat) || (!(v.mode == 0) && !(v.value == 0)))=b→vrE v=if b=true then 1 else 0:=fun b hb=>fin b (by unfold LJ; rw [b1,b2,b3,b4,b5]; simpa using hb)
 refine EX (by kernel_rfl) ?_
 have hp:(0:Int) < 2 ^ v.width.toNat:=Int.pow_pos (by decide)
 cases b6:(v.mode == 0) <;> cases b7:(v.value == 0) <;> cases b8:decide (v.value≥2 ^ v.width.toNat)
 all_goals
  simp -implicitDefEqProofs only [FC,DV,CY,EC,DW,D9,ET,PS,OB,SL,PI,AKQ,EP,F6,ED,IJ,DN,BC,A8,BR,BK,BJ,A7,CJ,CU,DR,DX,AZ,BA,CG,AC,AQ,AO,BD,AX,AL,AA,EG,AY,AU,BG,BM,BB,CO,DK,DU,BP,BU,BI,AB,DJ,FD,FQ,↓reduceIte,jB,jK,jG,jA,jW,jC,enP,NW,MZ,WM,EH ag3,AQO,AQN,AU4,hsh,b6,b7,b8,bne]
  refine ⟨?_,_,rfl⟩
  rw [fin2 _ rfl,b6,b7,b8]
  first
   | rfl
   | (exfalso
      simp at b7 b8
      omega)
def AJ1 (l:List Vr):Bool:=decide (∃ i:Fin l.length,0≤plc (l.take i.1) (l[i.1]).name)
def MO (l:List Vr):Int:=(l.map fun v=>if v.mode=0 then 0 else v.width).sum
def KD (l:List Vr):Int:=if l.length > 16 then 2 else if OM vrE l≠0 then OM vrE l else if AJ1 l=true then 8 else if (l.any fun v=>O7 l v.name)=true then 10 else if MO l > 20 then 2 else 0
theorem AHA (v:Vr):JH v.name v=true:=by unfold JH; simp
theorem AG6 {l:List Vr} {i:Nat} (hi:i < l.length):(plc l l[i].name≠(i:Int))↔0≤plc (l.take i) l[i].name:=by
 constructor
 ·intro h
  rcases Classical.em (0≤plc (l.take i) l[i].name) with h1 | h1
  ·exact h1
  ·exfalso
   refine h (QE _ l i hi (fun j hj => ?_) (AHA _))
   refine ANC (JH l[i].name) (l.take i) (by unfold plc at h1; omega) _ ?_
   have:(l.take i)[j]'(by rw [zV]; omega)=l[j]:=List.getElem_take
   rw [← this]; exact jQ _
 ·intro h e
  obtain ⟨k,hk,_,h2,h3⟩:=ABY (JH l[i].name) (l.take i) h
  rw [zV] at hk
  rw [List.getElem_take] at h2
  have h0:0≤plc l l[i].name:=by rw [e]; omega
  obtain ⟨k',hk',e1,_,e3⟩:=ABY (JH l[i].name) l h0
  have:k'=i:=by
   have e1:plc l l[i].name=(k':Int):=e1
   omega
  have:=e3 k (by omega)
  rw [this] at h2; cases h2
theorem AH1 {l:List Vr} {i:Nat} (hi:i < l.length) (h:0≤plc (l.take i) l[i].name):AJ1 l=true:=decide_eq_true ⟨⟨i,hi⟩,h⟩
theorem AD7 {l:List Vr} (h : ∀ (i:Nat) (hi:i < l.length),plc (l.take i) l[i].name < 0):AJ1 l=false:=decide_eq_false fun ⟨i,hi⟩=>by have:=h i.1 i.2; omega
theorem WT {l:List Vr} {i:Nat} (hi:i < l.length):MO (l.take (i+1))=MO (l.take i)+(if l[i].mode=0 then 0 else l[i].width):=by
 unfold MO
 rw [zT hi,List.map_append,List.sum_append]
 simp
theorem ACO (l:List Vr) (hw : ∀ v∈l,vrE v=0) : ∀ i,i≤l.length→0≤MO (l.take i)∧MO (l.take i)≤8 * i
 | 0,_=>by simp [MO]
 | i+1,h=>by
   have ih:=ACO l hw i (by omega)
   rw [WT (by omega:i < l.length)]
   have:=hw _ (jQ (by omega:i < l.length))
   unfold vrE at this
   split at this
   ·split at this
    ·cases this
    ·rename_i hb
     have:LJ l[i]=false:=by simpa using hb
     unfold LJ at this
     simp only [Bool.or_eq_false_iff,decide_eq_false_iff_not] at this
     split <;> omega
   ·cases this
theorem AXH (h:Hp):JU Tryz.prog h 61=some (.ptr h.length 0 0,h ++ [.live 4 [[.str ⟨#[]⟩,.int .i64 0,.int .i64 0,.int .i64 0]]]):=J7 (row := [.str ⟨#[]⟩,.int .i64 0,.int .i64 0,.int .i64 0]) (by kernel_rfl)
theorem AVR (h:Hp) (v:Vr):F7 Tryz.prog (h ++ [.live 4 [[.str ⟨#[]⟩,.int .i64 0,.int .i64 0,.int .i64 0]]]) 61 (.ptr h.length 0 0) (.agg (FM v))=some (h ++ [.live 4 [FM v]]):=by
 rw [ZO (cs:=FM v) (row := [.str ⟨#[]⟩,.int .i64 0,.int .i64 0,.int .i64 0]) rfl AOR (C9 _ _) (by exact jL 4),MS]
 rfl
theorem ldV {l:List Vr} {h:Hp} {i:Nat} (hi:i < l.length):DL Tryz.prog h 61 (.fptr 4 (l.map FM) i 0)=some (.agg (FM l[i])):=EO A0A AOR AB9 hi
theorem A0Q {l:List Vr} {h:Hp} {m:SM} {i:Nat} (hi:i≤l.length) : ∃ m',KG Tryz.prog h 22 (.sl m 4 (l.map FM)) none (some (.int .i64 (i:Nat))) none=some (.sl m' 4 ((l.take i).map FM)):=by
 have hs:szO Tryz.prog 61=some 4:=AOR
 exact ⟨ATU m i (l.map FM).length,by rw [AUP A0O hs (by rw [jM]; exact hi),List.map_take]⟩
theorem AC4 (G:Nat→AV) (l:List Vr) (m:SM) (h:Hp) (hl:l.length≤1048576) (hs : ∀ v∈l,v.name.size≤1048576):PCall (En G) 43 [.sl m 4 (l.map FM)] h (.int .i64 (KD l)):=by
 refine acN Tryz.func43 rfl ?_
 show awp _ _ _ _ _ (EE _ [.tmp 2] _)
 simp -implicitDefEqProofs only [BC,A8,BJ,A7,AZ,BA,AC,AQ,AO,BD,AX,AL,AA,AY,AU,BG,BH,BB,BU,E5,AB,EY,BF,↓reduceIte,jB,jA,jC,enX,enP,QR,jM]
 refine CV (fun hc => ?_) (fun hc => ?_)
 ·simp -implicitDefEqProofs only [BC,A8,BK,A7,CJ,CU,AZ,BA,AC,AQ,AO,BD,AX,AL,AA,AU,BG,BB,↓reduceIte,jA,jC]
  exact ⟨by unfold KD; rw [if_pos (by simp at hc; omega)],trivial⟩
 have hlen : ¬ l.length > 16:=by simp at hc; omega
 simp -implicitDefEqProofs only [BC,CB,A8,BR,A7,AZ,BA,AC,AQ,AO,BD,AX,AL,AU,BG,BB,jA,jC]
 refine IY 0 (fun F H=>F 0 = .sl m 4 (l.map FM)∧F 3 = .int .i64 (MO l)∧H=h∧OM vrE l=0) (fun F H=>F 2 = .int .i64 (KD l)∧H=h) ?_ ?_ ?_
 ·refine D7 (fun n F H => ∃ i,n+i=l.length∧(∀ (j:Nat) (hj:j < i) (hl:j < l.length),vrE l[j]=0)∧F 0 = .sl m 4 (l.map FM)∧F 3 = .int .i64 (MO (l.take i))∧F 4 = .int .i64 (i:Nat)∧H=h) l.length ⟨0,by simp,fun j hj=>absurd hj (by omega),by simp -implicitDefEqProofs only [AA,BF,↓reduceIte,jB],by simp -implicitDefEqProofs only [AA,↓reduceIte,jB]; rfl,by simp -implicitDefEqProofs only [AA,↓reduceIte]; rfl,rfl⟩ ?_
  rintro n F H ⟨i,hi,hb,f0,f3,f4,rfl⟩
  simp -implicitDefEqProofs only [BC,A8,BJ,A7,AZ,BA,AC,AQ,AO,BD,AX,AL,AA,AY,BH,BU,E5,AB,DF,↓reduceIte,jB,jA,jC,enP,QR,f0,f4,jM]
  refine CV (fun hc => ?_) (fun hc => ?_)
  ·have hi':i < l.length:=by simpa using hc
   simp -implicitDefEqProofs only [BC,CB,A8,BR,A7,AZ,AC,AQ,AO,BD,AX,AL,AA,AY,BO,BH,BP,CQ,BV,BN,AB,jF,jD,jE,↓reduceIte,jB,jA,jC,enP,TU,f0,f4,EF hi',ldV hi']
   refine (AEU G l[i] H (hs _ (jQ hi'))).use ?_
   simp -implicitDefEqProofs only [BC,A8,BJ,A7,AZ,BA,AC,AQ,AO,BD,AX,AL,AA,AY,AU,BG,BH,BB,BU,AB,FD,↓reduceIte,jA,jC,enP]
   refine CV (fun he => ?_) (fun he => ?_)
   ·simp -implicitDefEqProofs only [BC,A8,BK,A7,CJ,D5,LW,FV,AZ,BA,AC,AQ,AO,BD,AX,AL,AA,AY,BH,BB,↓reduceIte,jB,jA,jC]
    have he':vrE l[i]≠0:=by simpa [bne] using he
    refine ⟨?_,trivial⟩
    have:=QF vrE l i hi' (fun j hj=>hb j hj (by omega)) he'
    unfold KD
    rw [if_neg hlen,this,if_pos he']
   ·have he':vrE l[i]=0:=by simpa [bne] using he
    have hb2 : ∀ (j:Nat) (hj:j < i+1) (hl:j < l.length),vrE l[j]=0:=fun j hj hl=>by
     rcases jT j i with h1 | h1
     ·exact hb j h1 hl
     ·obtain rfl:j=i:=by omega
      exact he'
    have hbt:=WT hi'
    have hbd:0≤MO (l.take (i+1))∧MO (l.take (i+1))≤8 * ((i+1:Nat):Int):=by
     have:=ACO (l.take (i+1)) (fun v hv=>by
      obtain ⟨j,hj,rfl⟩:=qB hv
      rw [zV] at hj
      rw [List.getElem_take]; exact hb2 j (by omega) (by omega)) (i+1) (by rw [zV]; omega)
     rw [List.take_take,Nat.min_self] at this; exact this
    have l2:DL Tryz.prog H 3 (.fptr 4 (l.map FM) i 2)=some (.int .i64 l[i].mode):=by rw [GG ag3 hi']; rfl
    have l1:DL Tryz.prog H 3 (.fptr 4 (l.map FM) i 1)=some (.int .i64 l[i].width):=by rw [GG ag3 hi']; rfl
    simp -implicitDefEqProofs only [BC,A8,BR,BJ,A7,AZ,BA,AC,AQ,AO,BD,AX,AL,AA,AY,AU,BG,BH,BP,BU,BI,CQ,AB,FD,↓reduceIte,jB,jG,jA,jC,enP,TU,MZ,f0,f4,EF hi',l2]
    refine CV (fun hm => ?_) (fun hm => ?_)
    ·have hm' : ¬ l[i].mode=0:=by simpa [bne] using hm
     rw [if_neg hm'] at hbt
     have hw:IntKind.i64.wrap (MO (l.take i)+l[i].width)=MO (l.take (i+1)):=by rw [hbt,wrap_i64 (by omega) (by omega)]
     simp -implicitDefEqProofs only [A8,A7,EK,FI,AZ,BA,AC,AQ,AO,BD,AX,AL,AA,AY,AU,BG,BH,BB,BP,BU,BI,CQ,AB,DY,↓reduceIte,jB,jG,jA,jC,enP,TU,NW,f0,f3,f4,EF hi',l1,hw,wrap_succ (show i < 9223372036854775807 by omega)]
     refine ⟨n - 1,by omega,i+1,by omega,hb2,by trivial,rfl,rfl,trivial⟩
    ·have hm':l[i].mode=0:=by simpa [bne] using hm
     rw [if_pos hm',Int.add_zero] at hbt
     simp -implicitDefEqProofs only [A8,BR,A7,EK,FI,AZ,BA,AC,AQ,AO,BD,AX,AL,AA,AY,AU,BG,BH,BB,BU,AB,DY,↓reduceIte,jB,jA,jC,enP,f4,wrap_succ (show i < 9223372036854775807 by omega)]
     refine ⟨n - 1,by omega,i+1,by omega,hb2,by trivial,by rw [hbt]; exact f3,rfl,trivial⟩
  ·have hi' : ¬ i < l.length:=by simpa using hc
   simp -implicitDefEqProofs only [D6,EU,MX,FX,AA,↓reduceIte,jB]
   refine ⟨f0,?_,trivial,OL vrE l fun j hj=>hb j (by omega) hj⟩
   rw [jX (by omega)] at f3; exact f3
 ·rintro F H ⟨f0,f3,rfl,hz⟩
  have hall:=PZ hz
  have hnm : ∀ v∈l,IX v.name=true∧v.name.size≤1048576:=by
   intro v hv
   have:=hall v hv
   unfold vrE at this
   split at this
   ·rename_i hn; exact ⟨hn,hs v hv⟩
   ·cases this
  have hv1 : ∀ b,AJ1 l=b→KD l=if b=true then 8 else if (l.any fun v=>O7 l v.name)=true then 10 else if MO l > 20 then 2 else 0:=fun b hb=>by
   unfold KD; rw [if_neg hlen,if_neg (by simp [hz]),hb]
  simp -implicitDefEqProofs only [BC,CB,A8,A7,FT,AZ,BA,AC,AQ,AO,BD,AX,AL,AU,BG,BB,↓reduceIte,jA,jC]
  refine IY 2 (fun F' H'=>F' 0 = .sl m 4 (l.map FM)∧F' 3 = .int .i64 (MO l)∧H'=H∧AJ1 l=false) (fun F' H'=>F' 2 = .int .i64 (KD l)∧H'=H) ?_ ?_ ?_
  ·refine D7 (fun n F' H' => ∃ i,n+i=l.length∧(∀ (j:Nat) (hj:j < i) (hl:j < l.length),plc (l.take j) l[j].name < 0)∧F' 0 = .sl m 4 (l.map FM)∧F' 3 = .int .i64 (MO l)∧F' 6 = .int .i64 (i:Nat)∧H'=H) l.length ⟨0,by simp,fun j hj=>absurd hj (by omega),by simp -implicitDefEqProofs only [AA,↓reduceIte,jB,f0],by simp -implicitDefEqProofs only [AA,↓reduceIte,jB,f3],by simp -implicitDefEqProofs only [AA,↓reduceIte]; rfl,rfl⟩ ?_
   clear f0 f3
   rintro n F H ⟨i,hi,hb,f0,f3,f6,rfl⟩
   simp -implicitDefEqProofs only [BC,A8,BJ,A7,AZ,BA,AC,AQ,AO,BD,AX,AL,AA,AY,BH,BU,E5,AB,DF,↓reduceIte,jB,jA,jC,enP,QR,f0,f6,jM]
   refine CV (fun hc => ?_) (fun hc => ?_)
   ·have hi':i < l.length:=by simpa using hc
    have l0:DL Tryz.prog H 9 (.fptr 4 (l.map FM) i 0)=some (.str l[i].name):=by rw [GG ag9 hi']; rfl
    obtain ⟨m',ht⟩:=A0Q (h:=H) (m:=m) (Nat.le_of_lt hi')
    simp -implicitDefEqProofs only [BC,CB,BR,A7]
    refine EX (by kernel_rfl) ?_
    simp -implicitDefEqProofs only [FC,qU,Option.map_none,DV,CY,DW,EP,ED,IJ,XA,DN,EQ,EW,EJ,AC,AA,AY,AU,BO,BG,BP,BU,NK,BI,CQ,AB,jF,jD,jE,↓reduceIte,jB,jK,jI,jA,enP,TU,OO,f0,f6,ht,EF hi',l0]
    refine ⟨_,WL G (l.take i) m' l[i].name _ (by rw [zV]; omega),?_⟩
    simp -implicitDefEqProofs only [CY,EC,BJ,A7,AA,AY,AB,FQ,↓reduceIte]
    refine CV (fun he => ?_) (fun he => ?_)
    ·simp -implicitDefEqProofs only [BC,A8,BK,A7,CJ,D5,LW,FV,AZ,BA,AC,AQ,AO,BD,AX,AL,AA,AU,BG,BB,↓reduceIte,jA,jC]
     refine ⟨?_,trivial⟩
     rw [hv1 true (AH1 hi' (by simpa using he))]; rfl
    ·simp -implicitDefEqProofs only [A8,BR,A7,EK,FI,AZ,BA,AC,AQ,AO,BD,AX,AL,AA,AY,AU,BG,BH,BB,BU,AB,DY,↓reduceIte,jB,jA,jC,enP,f6,wrap_succ (show i < 9223372036854775807 by omega)]
     refine ⟨n - 1,by omega,i+1,by omega,fun j hj hl => ?_,f0,f3,rfl,trivial⟩
     rcases jT j i with h1 | h1
     ·exact hb j h1 hl
     ·obtain rfl:j=i:=by omega
      simpa using he
   ·have hi' : ¬ i < l.length:=by simpa using hc
    simp -implicitDefEqProofs only [D6,EU,MX,FX,AA,↓reduceIte,jB]
    exact ⟨f0,f3,trivial,AD7 fun j hj=>hb j (by omega) hj⟩
  ·rintro F' H' ⟨g0,g3,rfl,hd⟩
   have hv2:=hv1 _ hd
   simp -implicitDefEqProofs only [BC,A8,A7,FT,AZ,AC,AQ,AO,BD,AX,AL,AA,AY,BO,BH,BV,BN,jF,jD,jE,↓reduceIte,jA,jC,g0]
   refine (ATL G l m _ hl hnm).use ?_
   simp -implicitDefEqProofs only [BJ,A7,BA,AL,AA,AY,↓reduceIte]
   refine CV (fun hg => ?_) (fun hg => ?_)
   ·simp -implicitDefEqProofs only [BC,A8,BK,A7,CJ,CU,AZ,BA,AC,AQ,AO,BD,AX,AL,AA,AU,BG,BB,↓reduceIte,jA,jC]
    exact ⟨by rw [hv2,hg]; rfl,trivial⟩
   simp -implicitDefEqProofs only [BC,A8,BR,BJ,A7,AZ,BA,AC,AQ,AO,BD,AX,AL,AA,AY,AU,BG,BH,BU,AB,EY,↓reduceIte,jB,jA,jC,enP,g3]
   refine CV (fun hx => ?_) (fun hx => ?_)
   ·simp -implicitDefEqProofs only [BC,A8,BK,A7,CJ,CU,AZ,BA,AC,AQ,AO,BD,AX,AL,AA,AU,BG,BB,↓reduceIte,jA,jC]
    refine ⟨?_,trivial⟩
    rw [hv2,hg,if_neg (by decide),if_neg (by decide),if_pos (by simpa using hx)]
   ·simp -implicitDefEqProofs only [BC,A8,BR,BK,A7,CU,AZ,BA,AC,AQ,AO,BD,AX,AL,AA,AU,BG,BB,↓reduceIte,jA,jC]
    refine ⟨?_,trivial⟩
    rw [hv2,hg,if_neg (by decide),if_neg (by decide),if_neg (by simpa using hx)]
  ·rintro F' H' ⟨g2,rfl⟩
   simp -implicitDefEqProofs only [CJ,D5,CU,g2]
   exact ⟨trivial,trivial⟩
 ·rintro F H ⟨f2,rfl⟩
  simp -implicitDefEqProofs only [CJ,D5,CU,f2]
  exact ⟨trivial,trivial⟩
theorem AY7 (G:Nat→AV) (hG:GOk G) (l:List Vr) (m:SM) (v:Vr) (c:Nat) (h:Hp) (hc:h[c]? = some (.live 1 [[.sl m 4 (l.map FM)]])) (hl:l.length≤1048576) (hs:v.name.size≤1048576) (hv:IX v.name=true) :
  PCall (En G) 106 ([.agg (FM v)] ++ [.ptr c 0 0]) h (.bool (O7 l v.name)):=by
 refine ACalls.pure0 rfl ?_
 refine acN Tryz.func106 rfl ?_
 show awp _ _ _ _ _ (EE _ [.tmp 3] _)
 have hc':(h ++ [ABlk.live 4 [FM v]])[c]? = _:=CX hc
 simp -implicitDefEqProofs only [BC,A8,A7,AZ,BA,AC,AQ,AO,BD,AX,AL,AA,AY,AU,BO,BM,BB,FN,BP,BI,BV,BN,BZ,AB,BF,BQ,jF,jD,jE,zK,zU,↓reduceIte,jB,jI,jA,jC,enP,OO,bxV,EH ag9,AQP,IL UW hc']
 refine (AP6 G hG l m v.name _ (by omega) hs hv).use ?_
 simp -implicitDefEqProofs only [BK,A7,CU,AZ,BA,AC,AQ,AO,BD,AX,AL,AA,AY,BB,↓reduceIte,jA,jC]
 exact ⟨trivial,_,rfl⟩
set_option maxHeartbeats 1000000 in
theorem AMD (G:Nat→AV) (hG:GOk G) (l:List Vr) (m:SM) (h:Hp) (hl:l.length≤1048576) (hs : ∀ v∈l,v.name.size≤1048576):PCall (En G) 57 [.sl m 4 (l.map FM)] h (.int .i64 (KD l)):=by
 refine ACalls.pure0 rfl ?_
 refine acN Tryz.func57 rfl ?_
 show awp _ _ _ _ _ (EE _ [.tmp 2] _)
 have hb0:(h ++ [ABlk.live 1 [[.sl m 4 (l.map FM)]]])[h.length]? = some (.live 1 [[.sl m 4 (l.map FM)]]):=C9 _ _
 simp -implicitDefEqProofs only [AKC,BC,A8,BJ,A7,AZ,BA,AC,AQ,AO,BD,AX,AL,AA,AY,AU,BG,BB,FN,BP,BU,E5,BZ,AB,EY,BF,↓reduceIte,jB,jA,jC,enP,QR,AKC,IL UW hb0,jM]
 refine CV (fun hc => ?_) (fun hc => ?_)
 ·simp -implicitDefEqProofs only [BC,A8,BK,A7,CJ,CU,AZ,BA,AC,AQ,AO,BD,AX,AL,AA,AU,BG,BB,↓reduceIte,jA,jC]
  exact ⟨by unfold KD; rw [if_pos (by simp at hc; omega)],_,rfl⟩
 have hlen : ¬ l.length > 16:=by simp at hc; omega
 simp -implicitDefEqProofs only [BC,CB,A8,BR,A7,AZ,BA,AC,AQ,AO,BD,AX,AL,AA,AY,AU,BG,BH,BP,E5,AB,↓reduceIte,jB,jA,jC,enP,QR,IL UW hb0,jM]
 refine IY 0 (fun F H=>F 1 = .ptr h.length 0 0∧H[h.length]? = some (.live 1 [[.sl m 4 (l.map FM)]])∧ext h H∧OM vrE l=0) (fun F H=>F 2 = .int .i64 (KD l)∧ext h H) ?_ ?_ ?_
 ·refine D7 (fun n F H => ∃ i,n+i=l.length∧(∀ (j:Nat) (hj:j < i) (hl:j < l.length),vrE l[j]=0)∧F 1 = .ptr h.length 0 0∧F 11 = .sl m 4 (l.map FM)∧F 12 = .int .i64 (l.length:Nat)∧F 13 = .int .i64 (i:Nat)∧H[h.length]? = some (.live 1 [[.sl m 4 (l.map FM)]])∧ext h H) l.length ⟨0,by simp,fun j hj=>absurd hj (by omega),by simp -implicitDefEqProofs only [AA,↓reduceIte,jB],by simp -implicitDefEqProofs only [AA,↓reduceIte,jB],by simp -implicitDefEqProofs only [AA,↓reduceIte,jB],by simp -implicitDefEqProofs only [AA,↓reduceIte]; rfl,hb0,⟨_,rfl⟩⟩ ?_
  rintro n F H ⟨i,hi,hb,f1,f11,f12,f13,hH,he⟩
  simp -implicitDefEqProofs only [BC,A8,BJ,A7,AZ,BA,AC,AQ,AO,BD,AX,AL,AA,AY,BU,AB,DF,↓reduceIte,jA,jC,enP,f12,f13]
  refine CV (fun hc => ?_) (fun hc => ?_)
  ·have hi':i < l.length:=by simpa using hc
   have hH1:(H ++ [ABlk.live 4 [FM l[i]]])[h.length]? = _:=CX hH
   have hx1:ext h (H ++ [ABlk.live 4 [FM l[i]]]):=he.app _
   have ge:=C9 H (ABlk.live 4 [FM l[i]])
   have hsv:=hs _ (jQ hi')
   have hstp : ∀ (n':Nat),vrE l[i]=0→∃ m',m' < n∧∃ k,m'+k=l.length∧(∀ (j:Nat) (hj:j < k) (hl:j < l.length),vrE l[j]=0)∧k=i+1:=fun _ hz =>
    ⟨n - 1,by omega,i+1,by omega,fun j hj hl=>by
     rcases jT j i with h1 | h1
     ·exact hb j h1 hl
     ·obtain rfl:j=i:=by omega
      exact hz,rfl⟩
   have hbad:vrE l[i]≠0→KD l=vrE l[i]:=fun hz=>by
    have:=QF vrE l i hi' (fun j hj=>hb j hj (by omega)) hz
    unfold KD
    rw [if_neg hlen,this,if_pos hz]
   simp -implicitDefEqProofs only [BC,CB,A8,BR,A7,AZ,BA,AC,AQ,AO,BD,AX,AL,DZ,AA,AY,EZ,BP,CZ,BI,CQ,BZ,AB,CE,↓reduceIte,jB,jI,jA,jC,enP,TU,OO,jJ,f11,f13,EF hi',ldV hi',AXH,AVR]
   generalize H ++ [ABlk.live 4 [FM l[i]]]=H1 at hH1 hx1 ge ⊢
   have l0:DL Tryz.prog H1 9 (.ptr H.length 0 0)=some (.str l[i].name):=by rw [DC ag9 ge (row:=FM l[i]) rfl]; rfl
   have l1:DL Tryz.prog H1 3 (.ptr H.length 0 1)=some (.int .i64 l[i].width):=by rw [DC ag3 ge (row:=FM l[i]) rfl]; rfl
   have l2:DL Tryz.prog H1 3 (.ptr H.length 0 2)=some (.int .i64 l[i].mode):=by rw [DC ag3 ge (row:=FM l[i]) rfl]; rfl
   have l3:DL Tryz.prog H1 3 (.ptr H.length 0 3)=some (.int .i64 l[i].value):=by rw [DC ag3 ge (row:=FM l[i]) rfl]; rfl
   generalize hv:l[i]=v at hsv hstp hbad l0 l1 l2 l3
   simp -implicitDefEqProofs only [AZ,AC,AQ,AO,BD,AX,AL,AA,AY,BO,BV,BN,AB,jF,jD,jE,↓reduceIte,jA,jC,l0]
   refine (AJE G hG v.name _ hsv).use ?_
   cases hn:IX v.name
   ·simp -implicitDefEqProofs only [BC,A8,BK,BJ,A7,CJ,D5,LW,FV,DR,AZ,BA,AC,AQ,AO,BD,AX,AL,AA,AY,AU,BG,BB,I5,AB,FO,↓reduceIte,jA,jC]
    have:vrE v=7:=by unfold vrE; rw [hn]; rfl
    exact ⟨by rw [hbad (by rw [this]; decide),this],hx1⟩
   have fin : ∀ b,LJ v=b→vrE v=if b=true then 1 else 0:=fun b hb=>by unfold vrE; rw [hn,hb]; rfl
   have yes:LJ v=true→AV.int .i64 1=AV.int .i64 (KD l):=fun hb=>by
    have:=fin true hb
    rw [hbad (by rw [this]; decide),this]; rfl
   simp -implicitDefEqProofs only [BC,BR,BJ,A7,DX,AZ,BA,AC,AQ,AO,BD,AX,AL,AA,AY,I5,AB,FO,↓reduceIte,jA,jW,jC]
   refine EX (by kernel_rfl) ?_
   cases b1:decide (v.width < 1)
   case true =>
    simp -implicitDefEqProofs only [FC,DV,CY,EC,DW,D9,ET,PI,AKQ,EP,F6,ED,IJ,DN,BC,A8,BK,BJ,A7,CJ,D5,LW,FV,DR,AZ,BA,CG,AC,AQ,AO,BD,AX,AL,AA,EG,AY,AU,BG,BM,BB,CO,DK,BP,BU,BI,AB,DF,↓reduceIte,jB,jK,jG,jA,jC,enP,NW,l1,b1]
    exact ⟨yes (by unfold LJ; rw [b1]; simp),hx1⟩
   cases b2:decide (v.width > 8)
   case true =>
    simp -implicitDefEqProofs only [FC,DV,CY,EC,DW,D9,ET,OB,PI,AKQ,EP,F6,ED,IJ,DN,BC,A8,BK,BJ,A7,CJ,D5,LW,FV,DR,AZ,BA,CG,AC,AQ,AO,BD,AX,AL,AA,EG,AY,AU,BG,BM,BB,CO,DK,DU,BP,BU,BI,AB,DF,EY,↓reduceIte,jB,jK,jG,jA,jC,enP,NW,l1,b1,b2]
    exact ⟨yes (by unfold LJ; rw [b2]; simp),hx1⟩
   cases b3:decide (v.mode < 0)
   case true =>
    simp -implicitDefEqProofs only [FC,DV,CY,EC,DW,D9,ET,OB,PI,AKQ,EP,F6,ED,IJ,DN,BC,A8,BK,BJ,A7,CJ,D5,LW,FV,DR,AZ,BA,CG,AC,AQ,AO,BD,AX,AL,AA,EG,AY,AU,BG,BM,BB,CO,DK,DU,BP,BU,BI,AB,DF,EY,↓reduceIte,jB,jK,jG,jA,jC,enP,NW,MZ,l1,l2,b1,b2,b3]
    exact ⟨yes (by unfold LJ; rw [b3]; simp),hx1⟩
   cases b4:decide (v.mode > 2)
   case true =>
    simp -implicitDefEqProofs only [FC,DV,CY,EC,DW,D9,ET,OB,PI,AKQ,EP,F6,ED,IJ,DN,BC,A8,BK,BJ,A7,CJ,D5,LW,FV,DR,AZ,BA,CG,AC,AQ,AO,BD,AX,AL,AA,EG,AY,AU,BG,BM,BB,CO,DK,DU,BP,BU,BI,AB,DF,EY,↓reduceIte,jB,jK,jG,jA,jC,enP,NW,MZ,l1,l2,b1,b2,b3,b4]
    exact ⟨yes (by unfold LJ; rw [b4]; simp),hx1⟩
   cases b5:decide (v.value < 0)
   case true =>
    simp -implicitDefEqProofs only [FC,DV,CY,EC,DW,D9,ET,OB,PI,AKQ,EP,F6,ED,IJ,DN,BC,A8,BK,BJ,A7,CJ,D5,LW,FV,DR,AZ,BA,CG,AC,AQ,AO,BD,AX,AL,AA,EG,AY,AU,BG,BM,BB,CO,DK,DU,BP,BU,BI,AB,DF,EY,↓reduceIte,jB,jK,jG,jA,jC,enP,NW,MZ,WM,l1,l2,l3,b1,b2,b3,b4,b5]
    exact ⟨yes (by unfold LJ; rw [b5]; simp),hx1⟩
   have hsh:=AUR (by simpa using b1) (by simpa using b2)
   cases b6:decide (v.value≥2 ^ v.width.toNat)
   case true =>
    simp -implicitDefEqProofs only [FC,DV,CY,EC,DW,D9,ET,OB,PI,AKQ,EP,F6,ED,IJ,DN,BC,A8,BK,BJ,A7,CJ,D5,LW,FV,DR,AZ,BA,CG,AC,AQ,AO,BD,AX,AL,AA,EG,AY,AU,BG,BM,BB,CO,DK,DU,BP,BU,BI,AB,DF,EY,FQ,↓reduceIte,jB,jK,jG,jA,jC,enP,NW,MZ,WM,l1,l2,l3,hsh,b1,b2,b3,b4,b5,b6]
    exact ⟨yes (by unfold LJ; rw [b6]; simp),hx1⟩
   cases b7:(v.mode == 0) <;> cases b8:(v.value == 0)
   case false.false =>
    simp -implicitDefEqProofs only [FC,DV,CY,EC,DW,D9,ET,PS,OB,EP,F6,ED,IJ,DN,BC,A8,BK,BJ,A7,CJ,D5,LW,FV,DR,AZ,BA,CG,AC,AQ,AO,BD,AX,AL,AA,AY,AU,BG,BM,BB,CO,DK,DU,BP,BU,BI,AB,FD,DF,EY,FQ,↓reduceIte,jB,jK,jG,jA,jC,enP,NW,MZ,WM,l1,l2,l3,hsh,b1,b2,b3,b4,b5,b6,b7,b8,bne]
    exact ⟨yes (by unfold LJ; rw [b7,b8]; simp),hx1⟩
   all_goals
    have hz:=fin false (by unfold LJ; rw [b1,b2,b3,b4,b5,b6,b7,b8]; rfl)
    obtain ⟨m',hm,k,k1,k2,rfl⟩:=hstp 0 hz
    simp -implicitDefEqProofs only [FC,DV,CY,EC,DW,D9,ET,PS,OB,SL,EP,F6,ED,IJ,DN,A8,BR,BJ,A7,EK,FI,DX,AZ,BA,CG,AC,AQ,AO,BD,AX,AL,AA,EG,AY,AU,BG,BM,BH,CO,DK,DU,BP,BU,BI,AB,DY,FD,DF,EY,FQ,↓reduceIte,jB,jK,jG,jA,jW,jC,enP,NW,MZ,WM,l1,l2,l3,hsh,b1,b2,b3,b4,b5,b6,b7,b8,bne,f13,wrap_succ (show i < 9223372036854775807 by omega)]
    exact ⟨m',hm,i+1,k1,k2,by trivial,by trivial,by trivial,rfl,hH1,hx1⟩
  ·have hi' : ¬ i < l.length:=by simpa using hc
   simp -implicitDefEqProofs only [D6,EU,MX,FX,AA,↓reduceIte,jB]
   exact ⟨f1,hH,he,OL vrE l fun j hj=>hb j (by omega) hj⟩
 ·rintro F H ⟨f1,hH,he,hz⟩
  have hall:=PZ hz
  have hnm : ∀ v∈l,IX v.name=true∧v.name.size≤1048576:=by
   intro v hv
   have:=hall v hv
   unfold vrE at this
   split at this
   ·rename_i hn; exact ⟨hn,hs v hv⟩
   ·cases this
  have hv1 : ∀ b,AJ1 l=b→KD l=if b=true then 8 else if (l.any fun v=>O7 l v.name)=true then 10 else if MO l > 20 then 2 else 0:=fun b hb=>by
   unfold KD; rw [if_neg hlen,if_neg (by simp [hz]),hb]
  simp -implicitDefEqProofs only [BC,CB,A8,A7,FT,AZ,BA,AC,AQ,AO,BD,AX,AL,AA,AY,AU,BG,BH,BB,BP,E5,AB,↓reduceIte,jB,jA,jC,enP,QR,f1,IL UW hH,jM]
  refine IY 2 (fun F' H'=>F' 1 = .ptr h.length 0 0∧F' 5 = .int .i64 (MO l)∧H'[h.length]? = some (.live 1 [[.sl m 4 (l.map FM)]])∧ext h H'∧AJ1 l=false) (fun F' H'=>F' 2 = .int .i64 (KD l)∧ext h H') ?_ ?_ ?_
  ·refine D7 (fun n F' H' => ∃ i,n+i=l.length∧(∀ (j:Nat) (hj:j < i) (hl:j < l.length),plc (l.take j) l[j].name < 0)∧F' 1 = .ptr h.length 0 0∧F' 5 = .int .i64 (MO (l.take i))∧F' 63 = .sl m 4 (l.map FM)∧F' 64 = .int .i64 (l.length:Nat)∧F' 65 = .int .i64 (i:Nat)∧H'[h.length]? = some (.live 1 [[.sl m 4 (l.map FM)]])∧ext h H') l.length ⟨0,by simp,fun j hj=>absurd hj (by omega),by simp -implicitDefEqProofs only [AA,↓reduceIte,jB,f1],by simp -implicitDefEqProofs only [AA,↓reduceIte,jB]; rfl,by simp -implicitDefEqProofs only [AA,↓reduceIte,jB],by simp -implicitDefEqProofs only [AA,↓reduceIte,jB],by simp -implicitDefEqProofs only [AA,↓reduceIte]; rfl,hH,he⟩ ?_
   clear f1 hH he
   rintro n F H ⟨i,hi,hb,f1,f5,f63,f64,f65,hH,he⟩
   simp -implicitDefEqProofs only [BC,A8,BJ,A7,AZ,BA,AC,AQ,AO,BD,AX,AL,AA,AY,BU,AB,DF,↓reduceIte,jA,jC,enP,f64,f65]
   refine CV (fun hc => ?_) (fun hc => ?_)
   ·have hi':i < l.length:=by simpa using hc
    have hH1:(H ++ [ABlk.live 4 [FM l[i]]])[h.length]? = _:=CX hH
    have hx1:ext h (H ++ [ABlk.live 4 [FM l[i]]]):=he.app _
    have ge:=C9 H (ABlk.live 4 [FM l[i]])
    simp -implicitDefEqProofs only [BC,CB,A8,BR,A7,AZ,BA,AC,AQ,AO,BD,AX,AL,DZ,AA,AY,BH,BB,EZ,BP,CZ,CQ,BZ,AB,CE,↓reduceIte,jB,jA,jC,enP,TU,jJ,f63,f65,EF hi',ldV hi',AXH,AVR]
    generalize H ++ [ABlk.live 4 [FM l[i]]]=H1 at hH1 hx1 ge ⊢
    have l0:DL Tryz.prog H1 9 (.ptr H.length 0 0)=some (.str l[i].name):=by rw [DC ag9 ge (row:=FM l[i]) rfl]; rfl
    have l1:DL Tryz.prog H1 3 (.ptr H.length 0 1)=some (.int .i64 l[i].width):=by rw [DC ag3 ge (row:=FM l[i]) rfl]; rfl
    have l2:DL Tryz.prog H1 3 (.ptr H.length 0 2)=some (.int .i64 l[i].mode):=by rw [DC ag3 ge (row:=FM l[i]) rfl]; rfl
    simp -implicitDefEqProofs only [AZ,AC,AQ,AO,BD,AX,AL,AA,AY,BO,BP,BI,BV,BN,AB,jF,jD,jE,↓reduceIte,jB,jI,jA,jC,enP,OO,f1,IL UW hH1,l0]
    refine (index_prog G l m l[i].name _ (by omega)).use ?_
    simp -implicitDefEqProofs only [BJ,A7,AZ,BA,AC,AQ,AO,BD,AX,AL,AA,AY,BH,BU,AB,FD,↓reduceIte,jB,jA,jC,enP]
    refine CV (fun hd => ?_) (fun hd => ?_)
    ·simp -implicitDefEqProofs only [BC,A8,BK,A7,CJ,D5,LW,FV,AZ,BA,AC,AQ,AO,BD,AX,AL,AA,AU,BG,BB,↓reduceIte,jA,jC]
     refine ⟨?_,hx1⟩
     rw [hv1 true (AH1 hi' ((AG6 hi').1 (by simpa [bne] using hd)))]; rfl
    have hnd:plc (l.take i) l[i].name < 0:=by
     rcases Int.lt_or_le (plc (l.take i) l[i].name) 0 with h1 | h1
     ·exact h1
     ·exact absurd (by simpa [bne] using hd) ((AG6 hi').2 h1)
    have hb2 : ∀ (j:Nat) (hj:j < i+1) (hl:j < l.length),plc (l.take j) l[j].name < 0:=fun j hj hl=>by
     rcases jT j i with h1 | h1
     ·exact hb j h1 hl
     ·obtain rfl:j=i:=by omega
      exact hnd
    have hbt:=WT hi'
    have hbd:=ACO l hall (i+1) (by omega)
    simp -implicitDefEqProofs only [BC,A8,BR,BJ,A7,AZ,BA,AC,AQ,AO,BD,AX,AL,AA,AY,AU,BG,BP,BU,BI,AB,FD,↓reduceIte,jB,jG,jA,jC,enP,MZ,l2]
    refine CV (fun hm => ?_) (fun hm => ?_)
    ·have hm' : ¬ l[i].mode=0:=by simpa [bne] using hm
     rw [if_neg hm'] at hbt
     have hw:IntKind.i64.wrap (MO (l.take i)+l[i].width)=MO (l.take (i+1)):=by rw [hbt,wrap_i64 (by omega) (by omega)]
     simp -implicitDefEqProofs only [A8,A7,EK,FI,AZ,BA,AC,AQ,AO,BD,AX,AL,AA,AY,AU,BG,BH,BB,BP,BU,BI,AB,DY,↓reduceIte,jB,jG,jA,jC,enP,NW,f5,f65,l1,hw,wrap_succ (show i < 9223372036854775807 by omega)]
     exact ⟨n - 1,by omega,i+1,by omega,hb2,by trivial,rfl,by trivial,by trivial,rfl,hH1,hx1⟩
    ·have hm':l[i].mode=0:=by simpa [bne] using hm
     rw [if_pos hm',Int.add_zero] at hbt
     simp -implicitDefEqProofs only [A8,BR,A7,EK,FI,AZ,BA,AC,AQ,AO,BD,AX,AL,AA,AY,AU,BG,BH,BU,AB,DY,↓reduceIte,jB,jA,jC,enP,f65,wrap_succ (show i < 9223372036854775807 by omega)]
     exact ⟨n - 1,by omega,i+1,by omega,hb2,by trivial,by rw [hbt]; exact f5,by trivial,by trivial,rfl,hH1,hx1⟩
   ·have hi' : ¬ i < l.length:=by simpa using hc
    simp -implicitDefEqProofs only [D6,EU,MX,FX,AA,↓reduceIte,jB]
    refine ⟨f1,?_,hH,he,AD7 fun j hj=>hb j (by omega) hj⟩
    rw [jX (by omega)] at f5; exact f5
  ·rintro F' H' ⟨g1,g5,hH',he',hd⟩
   have hv2:=hv1 _ hd
   simp -implicitDefEqProofs only [BC,CB,A8,A7,FT,AZ,AC,AQ,AO,BD,AX,AL,AA,AY,BO,BP,JF,BV,BN,AB,jF,jD,jE,↓reduceIte,jB,jA,jC,enP,g1,IL UW hH']
   refine (ATG G l m 106 [.ptr h.length 0 0] (fun v=>O7 l v.name) H' (by omega) fun v hv=>AY7 G hG l m v _ _ hH' hl (hnm v hv).2 (hnm v hv).1).use ?_
   simp -implicitDefEqProofs only [BJ,A7,AZ,BA,AC,AQ,AO,BD,AX,AL,AA,AY,BB,↓reduceIte,jA,jC]
   refine CV (fun hg => ?_) (fun hg => ?_)
   ·simp -implicitDefEqProofs only [BC,A8,BK,A7,CJ,D5,CU,AZ,BA,AC,AQ,AO,BD,AX,AL,AA,AU,BG,BB,↓reduceIte,jA,jC]
    exact ⟨by rw [hv2,hg]; rfl,he'⟩
   simp -implicitDefEqProofs only [BC,A8,BJ,A7,AZ,BA,AC,AQ,AO,BD,AX,AL,AA,AY,AU,BG,BH,BB,BU,AB,EY,↓reduceIte,jB,jA,jC,enP,g5]
   refine CV (fun hx => ?_) (fun hx => ?_)
   ·simp -implicitDefEqProofs only [BC,A8,BK,A7,CJ,D5,CU,AZ,BA,AC,AQ,AO,BD,AX,AL,AA,AU,BG,BB,↓reduceIte,jA,jC]
    refine ⟨?_,he'⟩
    rw [hv2,hg,if_neg (by decide),if_neg (by decide),if_pos (by simpa using hx)]
   ·simp -implicitDefEqProofs only [BC,A8,BR,BK,A7,EK,CU,AZ,BA,AC,AQ,AO,BD,AX,AL,AA,AU,BG,BB,↓reduceIte,jA,jC]
    refine ⟨?_,he'⟩
    rw [hv2,hg,if_neg (by decide),if_neg (by decide),if_neg (by simpa using hx)]
  ·rintro F' H' ⟨g2,he'⟩
   simp -implicitDefEqProofs only [CJ,D5,CU,g2]
   exact ⟨trivial,he'⟩
 ·rintro F H ⟨f2,he⟩
  simp -implicitDefEqProofs only [CJ,D5,CU,f2]
  exact ⟨trivial,he⟩
theorem AMZ (i:Nat):decide ((i:Int) < 0)=false:=by rw [decide_eq_false_iff_not]; omega
theorem AY2:Frz CW:=fun n h d x=>by
 rw [MV]; exact ⟨rfl,rfl⟩
def growR_ren:Go.Shelf.Ren:=⟨fun | 4=>160 | n=>n,fun | 22=>23 | 25=>40 | 3=>3 | 4=>4 | 9=>9 | 20=>20 | 0=>0 | n=>n,fun | n=>n⟩
theorem AU1:Go.Proofs.Lays8.n4 Tryz.prog growR_ren := {
 mixed:=by kernel_rfl,
 f4:=⟨Tryz.f160.name,by decide,Tryz.func160.trans (congrArg some (by kernel_rfl))⟩,
 t0:=Tryz.underlying0,
 a0:=Tryz.isAgg0,
 z0:=Tryz.sizeOf0,
 v0:=Tryz.zeroValue0,
 t3:=Tryz.underlying3,
 a3:=Tryz.isAgg3,
 z3:=Tryz.sizeOf3,
 v3:=Tryz.zeroValue3,
 t4:=Tryz.underlying4,
 a4:=Tryz.isAgg4,
 z4:=Tryz.sizeOf4,
 v4:=Tryz.zeroValue4,
 t9:=Tryz.underlying9,
 a9:=Tryz.isAgg9,
 z9:=Tryz.sizeOf9,
 v9:=Tryz.zeroValue9,
 t20:=Tryz.underlying20,
 a20:=Tryz.isAgg20,
 z20:=Tryz.sizeOf20,
 v20:=Tryz.zeroValue20,
 t22:=Tryz.underlying23,
 a22:=Tryz.isAgg23,
 z22:=Tryz.sizeOf23,
 v22:=Tryz.zeroValue23 }
theorem AR0 (z:Array Value) (n:Nat):(Builtin.zeroCells z n).size=n * z.size:=by simp [Builtin.zeroCells]
theorem ANE (G:Nat→AV) (n:Nat) (hn:n≤1048576) (h:Hp):ACalls (En G) 160 [.sl .nil 0 [],.int .i64 (n:Nat)] h fun v H=>(n=0∧v = .sl .nil 0 []∧H=h)∨(0 < n∧v = .own h.length 0 0∧H=h ++ [.live 4 []]):=by
 refine ⟨cok 160 G (by kernel_rfl),fun g w cargs S ha => ?_⟩
 obtain ⟨hsz,hget⟩:=ha
 obtain ⟨cv0,cv1,rfl⟩ : ∃ a b,cargs = #[a,b]:=by
  obtain ⟨l⟩:=cargs
  match l,hsz with
  | [a,b],_=>exact ⟨a,b,rfl⟩
 have r0:=(hget 0 _ cv0 rfl rfl).sl_inv
 obtain rfl:=(hget 1 _ cv1 rfl rfl).int_inv
 have hnil:cv0 = .slice none 0 0:=by
  cases r0 with
  | nil=>rfl
  | empty _ _ _ _ q=>exact absurd rfl q
  | sl _ _ _ _ _ _ _ _ _ _ _ q=>exact absurd rfl q
 subst hnil
 rcases Nat.eq_zero_or_pos n with h0 | h0
 ·subst h0
  refine (Any8.slices_Grow_room AU1 none 0 0 0 w (jL _) (by omega) (by omega) (jL _)).mono ?_
  rintro e w' ⟨rfl,rfl⟩
  exact .inl ⟨_,_,g,h,rfl,.inl ⟨rfl,rfl,rfl⟩,Gh.le.refl g,S,.fro (.nil 0)⟩
 ·have i0:Tryz.prog.info? 40=some Tryz.t40:=by kernel_rfl
  have hz:Tryz.t40.zero.isSome=true:=by kernel_rfl
  obtain ⟨z,hz⟩:=Option.isSome_iff_exists.1 hz
  have hs:Tryz.t40.size=4:=by kernel_rfl
  have hb:Tryz.t40.bytes≤64:=jH (by kernel_rfl)
  have hmul:n * Tryz.t40.bytes≤1048576 * 64:=Nat.mul_le_mul hn hb
  have hzs:z.cells.size=4:=by
   have h1:(Tryz.t40.zero.map fun z=>z.cells.size)=some 4:=by kernel_rfl
   rw [hz] at h1; simpa using h1
  have hc:=Any8.slices_Grow_grow AU1 Tryz.t40 z i0 hz (by rw [hs]; omega) none 0 0 n [] w (jL _) (by omega) (by rw [jG]; omega) (by omega) (by simp) (fun _=>rfl) (fun a q=>by cases q)
  refine hc.mono ?_
  rintro e w' ⟨rfl,rfl⟩
  generalize hG:grownCap w (0+n) 0 (growR_ren.t 25)=cap
  have hle:0+n≤cap:=hG ▸ grownCap_ge w _ _ _
  have hgr:Grew w (w.drew.alloc (.cells ((#[]:Array Value) ++ Builtin.zeroCells z.cells (0+n - 0) ++ Builtin.zeroCells z.cells (cap - (0+n))) (growR_ren.t 25))) (.cells ((#[]:Array Value) ++ Builtin.zeroCells z.cells (0+n - 0) ++ Builtin.zeroCells z.cells (cap - (0+n))) (growR_ren.t 25) (0,0)):=⟨rfl,rfl,rfl,rfl⟩
  have hsize:((#[]:Array Value) ++ Builtin.zeroCells z.cells (0+n - 0) ++ Builtin.zeroCells z.cells (cap - (0+n))).size=cap * 4:=by
   simp only [Array.size_append,AR0,hzs,List.size_toArray,List.length_nil]; omega
  generalize ((#[]:Array Value) ++ Builtin.zeroCells z.cells (0+n - 0) ++ Builtin.zeroCells z.cells (cap - (0+n)))=c at hgr hsize
  obtain ⟨S',hle'⟩:=S.new (k:=4) (xs := []) hgr ⟨by simp,fun i row h=>by simp at h,fun i j row v h=>by simp at h⟩
  refine .inl ⟨_,_,_,_,rfl,.inr ⟨h0,rfl,rfl⟩,hle',S',?_⟩
  exact Rep.own h.length 0 0 cap ⟨w.heap.size,0,4,c.size⟩ (by simp [Gh.adopt]) (Nat.zero_le _) (by simp only [hsize]; omega)
structure Yx where
 m:SM
 l:List Ex
def AD4 (y:Yx):List AV := [.sl y.m 4 (y.l.map CW)]
theorem AQM (y:Yx):(AD4 y)[0]? = some (.sl y.m 4 (y.l.map CW)):=rfl
def fl (R:List Yx):List Ex:=(R.map Yx.l).flatten
theorem ADZ {R:List Yx} {i:Nat} (hi:i < R.length):fl (R.take (i+1))=fl (R.take i) ++ R[i].l:=by
 unfold fl
 rw [zT hi,List.map_append,List.flatten_append]; simp
theorem X3 (R:List Yx) (i:Nat):(fl (R.take i)).length≤(fl R).length:=by
 have:fl R=fl (R.take i) ++ fl (R.drop i):=by unfold fl; rw [← List.flatten_append,← List.map_append,List.take_append_drop]
 rw [this,zX]; omega
def ASQ (h:Hp) (ys:List Ex) (v:AV) (H:Hp):Prop:=(v = .sl .nil 0 []∧ys = [])∨∃ o,h.length≤o∧v = .own o 0 ys.length∧H[o]? = some (.live 4 (ys.map CW))
theorem AO6 {h H:Hp} {xs ys:List Ex} {v:AV} (s:SM) (ho:ASQ h xs v H) (he:ext h H) (hl:xs.length+ys.length≤8388608) :
  ∃ v' H',IQ Tryz.prog true H 23 23 v (.sl s 4 (ys.map CW))=some (v',H')∧ASQ h (xs ++ ys) v' H'∧ext h H'∧(v = .sl .nil 0 []→ys = []→v' = .sl .nil 0 []):=by
 cases ys with
 | nil =>
   refine ⟨v,H,?_,by rw [jE]; exact ho,he,fun q _=>q⟩
   have hcs:KF H (.sl s 4 [])=some (4,[]):=PD H s 4 []
   rcases ho with ⟨rfl,rfl⟩ | ⟨o,h2,rfl,h3⟩
   ·simp [IQ,AMF,J4,UB,hcs,bump]
   ·have hc:KF H (.own o 0 xs.length)=some (4,xs.map CW):=by rw [VD h3 (by simp),List.drop_zero,jX (by simp)]
    simp [IQ,AMF,J4,UB,hc,hcs,bump]
 | cons y ys =>
   have h1:(y :: ys).map CW≠[]:=by simp
   rcases ho with ⟨rfl,rfl⟩ | ⟨o,h2,rfl,h3⟩
   ·exact ⟨_,_,AFZ AMF J4 AXP AZF (PD H s 4 ((y :: ys).map CW)) h1 (OZ (by simp at hl ⊢; omega) (by omega)),.inr ⟨H.length,he.le,by simp,by simp⟩,he.app _,fun _ q=>by cases q⟩
   ·have hc:KF H (.own o 0 xs.length)=some (4,xs.map CW):=by rw [VD h3 (by simp),List.drop_zero,jX (by simp)]
    exact ⟨_,_,AFY AMF J4 AXP AZF hc (PD H s 4 ((y :: ys).map CW)) h1 (OZ (by simp at hl ⊢; omega) (by omega)),.inr ⟨H.length,he.le,by simp,by simp⟩,(he.set h2 _).app _,fun q=>by cases q⟩
section
variable (G:Nat→AV)
set_option maxHeartbeats 4000000 in
theorem AH8 (R:List Yx) (s:SM) (hR:R.length≤1048576) (hl:(fl R).length≤1048576) (h:Hp):PCall (En G) 108 [.sl s 1 (R.map AD4)] h (.sl (Cov.nm (fl R)) 4 ((fl R).map CW)):=by
 refine U7 AY2 ?_
 refine acN Tryz.func108 rfl ?_
 show awp _ _ _ _ _ (EE _ [.tmp 2] _)
 simp -implicitDefEqProofs only [BC,CB,A8,A7,AZ,BA,AC,AQ,AO,BD,AX,AL,AA,AY,AU,BG,MC,BH,BB,E5,AB,BF,↓reduceIte,jB,jA,jC,enP,AUY,jM]
 refine IY 0 (fun F H'=>F 0 = .sl s 1 (R.map AD4)∧F 3 = .int .i64 ((fl R).length:Nat)∧H'=h) (fun _ _=>False) ?_ ?_ (fun _ _ q=>q.elim)
 ·refine D7 (fun n F H' => ∃ i,n+i=R.length∧F 0 = .sl s 1 (R.map AD4)∧F 3 = .int .i64 ((fl (R.take i)).length:Nat)∧F 9 = .sl s 1 (R.map AD4)∧F 10 = .int .i64 (R.length:Nat)∧F 11 = .int .i64 (i:Nat)∧H'=h) R.length
   ⟨0,by simp,by simp -implicitDefEqProofs only [AA,BF,↓reduceIte,jB],by simp -implicitDefEqProofs only [AA,↓reduceIte,jB] <;> rfl,by simp -implicitDefEqProofs only [AA,↓reduceIte,jB],by simp -implicitDefEqProofs only [AA,↓reduceIte,jB],by simp -implicitDefEqProofs only [AA,↓reduceIte] <;> rfl,rfl⟩ ?_
  rintro n F H ⟨i,hi,f0,f3,f9,f10,f11,rfl⟩
  simp -implicitDefEqProofs only [BC,A8,BJ,A7,AZ,BA,AC,AQ,AO,BD,AX,AL,AA,AY,BU,AB,DF,↓reduceIte,jA,jC,enP,f10,f11]
  refine CV (fun hc => ?_) (fun hc => ?_)
  ·have hi':i < R.length:=by simpa using hc
   have hfl:=ADZ hi'
   have hle:=X3 R (i+1)
   rw [hfl,zX] at hle
   have hw:IntKind.i64.wrap ((((fl (R.take i)).length:Nat):Int)+((R[i].l.length:Nat):Int))=(((fl (R.take (i+1))).length:Nat):Int):=by rw [hfl,zX,wrap_i64 (by omega) (by omega)]; omega
   simp -implicitDefEqProofs only [BC,CB,A8,BR,BJ,A7,EK,FI,DX,AZ,BA,AC,AQ,AO,BD,AX,AL,AA,AY,AU,BG,BH,BB,BP,BU,CQ,E5,AB,DY,DF,↓reduceIte,jB,jA,jC,enP,TT,AUZ,f3,f9,f11,EF hi',GG QU hi',AQM,jM,hw,AMZ,wrap_succ (show i < 9223372036854775807 by omega)]
   exact ⟨n - 1,by omega,i+1,by omega,by first | exact True.intro | exact f0,by first | exact True.intro | exact rfl,by first | exact True.intro | exact f9,by first | exact True.intro | exact f10,by first | exact True.intro | exact rfl,by first | exact True.intro | exact rfl⟩
  ·have hi' : ¬ i < R.length:=by simpa using hc
   rw [jX (by omega)] at f3
   simp -implicitDefEqProofs only [D6,EU,MX,FX,AA,↓reduceIte,jB]
   exact ⟨by first | exact True.intro | exact f0,by first | exact True.intro | exact f3,by first | exact True.intro | exact rfl⟩
 rintro F H ⟨f0,f3,rfl⟩
 simp -implicitDefEqProofs only [BC,A8,A7,FT,AZ,AC,AQ,AO,BD,AX,AL,AA,AY,AU,BO,MC,BH,BV,BN,jF,jD,jE,↓reduceIte,jA,jC,f3]
 refine (ANE G (fl R).length hl H).mono ?_
 intro v0 H0 hg
 have I0:ASQ H [] v0 H0∧Sm.ext H H0∧((fl R).length=0→v0 = .sl .nil 0 []):=by
  rcases hg with ⟨h0,rfl,rfl⟩ | ⟨h0,rfl,rfl⟩
  ·exact ⟨.inl ⟨rfl,rfl⟩,ext.rfl' _,fun _=>rfl⟩
  ·exact ⟨.inr ⟨H.length,jL _,rfl,C9 _ _⟩,(ext.rfl' H).app _,fun q=>by omega⟩
 simp -implicitDefEqProofs only [BC,CB,A8,A7,AZ,BA,AC,AQ,AO,BD,AX,AL,AA,AY,AU,BG,BH,BB,E5,AB,↓reduceIte,jB,jA,jC,enP,AUY,f0,jM]
 refine D7 (fun n F H' => ∃ i v,n+i=R.length∧F 6=v∧F 25 = .sl s 1 (R.map AD4)∧F 26 = .int .i64 (R.length:Nat)∧F 27 = .int .i64 (i:Nat)∧ASQ H (fl (R.take i)) v H'∧Sm.ext H H'∧((fl R).length=0→v = .sl .nil 0 [])) R.length
  ⟨0,v0,by simp,by simp -implicitDefEqProofs only [AA,↓reduceIte,jB],by simp -implicitDefEqProofs only [AA,↓reduceIte,jB],by simp -implicitDefEqProofs only [AA,↓reduceIte,jB],by simp -implicitDefEqProofs only [AA,↓reduceIte] <;> rfl,by rw [List.take_zero]; exact I0.1,I0.2.1,I0.2.2⟩ ?_
 clear I0 hg f0 f3
 rintro n F H' ⟨i,v,hi,f6,f25,f26,f27,ho,hx,hz⟩
 simp -implicitDefEqProofs only [BC,A8,BJ,A7,AZ,BA,AC,AQ,AO,BD,AX,AL,AA,AY,BU,AB,DF,↓reduceIte,jA,jC,enP,f26,f27]
 refine CV (fun hc => ?_) (fun hc => ?_)
 ·have hi':i < R.length:=by simpa using hc
  have hfl:=ADZ hi'
  have hle:=X3 R (i+1)
  rw [hfl,zX] at hle
  obtain ⟨v',H2,ha,ho2,hx2,hn2⟩:=AO6 R[i].m ho hx (ys:=R[i].l) (by omega)
  rw [← hfl] at ho2
  simp -implicitDefEqProofs only [BC,CB,A8,BR,A7,EK,FI,AZ,BA,AC,AQ,AO,BD,AX,AL,AA,AY,AU,BG,BH,BB,BP,BU,CQ,NL,BZ,AB,DY,↓reduceIte,jB,jA,jC,enP,AUZ,f6,f25,f27,EF hi',GG QU hi',AQM,ha,wrap_succ (show i < 9223372036854775807 by omega)]
  exact ⟨n - 1,by omega,i+1,v',by omega,by first | exact True.intro | exact rfl,by first | exact True.intro | exact f25,by first | exact True.intro | exact f26,by first | exact True.intro | exact rfl,ho2,hx2,fun q=>hn2 (hz q) (List.length_eq_zero_iff.1 (by omega))⟩
 ·have hi' : ¬ i < R.length:=by simpa using hc
  rw [jX (by omega)] at ho
  simp -implicitDefEqProofs only [BC,A8,BK,D6,A7,EU,FT,FX,CU,AZ,BA,AC,AQ,AO,BD,AX,AL,AA,AY,BH,BB,↓reduceIte,jB,jA,jC,f6]
  refine ⟨hx,?_⟩
  rcases ho with ⟨h1,h2⟩ | ⟨o,h1,h2,h3⟩
  ·exact .inl ⟨h2,h1⟩
  ·refine .inr ⟨fun q => ?_,o,h1,h2,h3⟩
   have:=hz (by rw [q]; rfl)
   rw [this] at h2; cases h2
end
end Go.Proofs.YtokehnfjjmpanaaGreatDoor.Bd
