/- Part 8 of the proof (U1, U2, U3, U4, U5, U6, U7, U8, V1); no condition. -/
import Derived.Shelf.Spec.SlicesGrow
import Derived.Test.YtokehnfjjmpanaaGreatDoorYA7
set_option linter.unusedVariables false
set_option linter.unusedSimpArgs false
set_option maxRecDepth 8000
namespace Go.Proofs.YtokehnfjjmpanaaGreatDoor.Bd
open Sm Bins Cov Xe Go.RowKit
open Bool renaming not_false→jC,or_true→qF,or_false→jO,not_true→jX
open List renaming length_map→jM,map_cons→jF,map_nil→jD,nil_append→zA,cons_append→zN,getElem_mem→jS,append_nil→jE,length_take→zT,getElem?_cons_zero→zG,getElem?_cons_succ→zK,mem_of_getElem?→zD,getElem_of_mem→qC,take_succ_eq_append_getElem→zY,take_of_length_le→jY,length_append→zQ
open Nat renaming le_of_ble_eq_true→jH,reduceEqDiff→jA,lt_or_ge→jT,add_zero→jI,reduceAdd→jK,zero_add→jG,le_refl→jL
open Option renaming getD_some→jB,map_some→qM,getD_none→jJ
structure Vr where
 name:ByteArray
 width:Int
 mode:Int
 value:Int
def FC (v:Vr):List AV := [.str v.name,.int .i64 v.width,.int .i64 v.mode,.int .i64 v.value]
theorem ZT (v:Vr):(FC v).length=4:=rfl
theorem AM2 (v:Vr):(FC v)[0]? = some (.str v.name):=rfl
theorem AM1 (v:Vr):(FC v)[1]? = some (.int .i64 v.width):=rfl
theorem AM0 (v:Vr):(FC v)[2]? = some (.int .i64 v.mode):=rfl
theorem AQZ (v:Vr):(FC v)[3]? = some (.int .i64 v.value):=rfl
structure Wg where
 lo:Int
 hi:Int
 w:Int
 each:Bool
def IR (x:Wg):List AV := [.int .i64 x.lo,.int .i64 x.hi,.int .i64 x.w,.bool x.each]
theorem TQ (x:Wg):(IR x).length=4:=rfl
structure Ds where
 var:Int
 wm:SM
 ws:List Wg
def IQ (d:Ds):List AV := [.int .i64 d.var,.sl d.wm 4 (d.ws.map IR)]
theorem V5 (d:Ds):(IQ d).length=2:=rfl
structure Gp where
 m:SM
 l:List Int
def PY (g:Gp):List AV := [.sl g.m 1 (g.l.map qencI)]
structure Pr where
 vm:SM
 vars:List Vr
 hm:SM
 hard:List Ex
 sm:SM
 soft:List Ex
 dm:SM
 dists:List Ds
 gm:SM
 groups:List Gp
def DX (p:Pr):List AV := [.sl p.vm 4 (p.vars.map FC),.sl p.hm 4 (p.hard.map CV),.sl p.sm 4 (p.soft.map CV),.sl p.dm 2 (p.dists.map IQ),.sl p.gm 1 (p.groups.map PY)]
theorem IP (p:Pr):(DX p).length=5:=rfl
theorem bxV (h:Hp) (v:Vr):OE h (.agg (FC v))=some (.ptr h.length 0 0,h ++ [.live 4 [FC v]]):=rfl
theorem AWQ (h:Hp) (v:Wg):OE h (.agg (IR v))=some (.ptr h.length 0 0,h ++ [.live 4 [IR v]]):=rfl
theorem bxD (h:Hp) (v:Ds):OE h (.agg (IQ v))=some (.ptr h.length 0 0,h ++ [.live 2 [IQ v]]):=rfl
theorem UC (h:Hp) (p:Pr):OE h (.agg (DX p))=some (.ptr h.length 0 0,h ++ [.live 5 [DX p]]):=rfl
def JY {α:Type} (p:α→Bool):List α→Int
 | [] => -1
 | x :: r=>if p x=true then 0 else if JY p r < 0 then -1 else JY p r+1
theorem QJ {α:Type} (p:α→Bool) : ∀ xs:List α,-1≤JY p xs∧JY p xs < xs.length
 | []=>by simp [JY]
 | x :: r=>by
   have:=QJ p r
   simp only [JY,List.length_cons]
   split
   ·omega
   ·split <;> omega
theorem O5 {α:Type} (p:α→Bool) : ∀ (xs:List α) (k:Nat) (hk:k < xs.length),(∀ (j:Nat) (hj:j < k),p (xs[j]'(by omega))=false)→p xs[k]=true→JY p xs=k
 | x :: r,0,_,_,h=>by
   have h:p x=true:=h
   simp [JY,h]
 | x :: r,k+1,hk,hb,h=>by
   have h0:p x=false:=hb 0 (by omega)
   have ih:=O5 p r k (by simpa using hk) (fun j hj=>hb (j+1) (by omega)) h
   simp only [JY,h0,ih,Bool.false_eq_true,if_false]
   rw [if_neg (by omega)]; omega
theorem OU {α:Type} (p:α→Bool) : ∀ (xs:List α),(∀ (j:Nat) (hj:j < xs.length),p xs[j]=false)→JY p xs = -1
 | [],_=>rfl
 | x :: r,hb=>by
   have h0:p x=false:=hb 0 (by simp)
   have ih:=OU p r (fun j hj=>hb (j+1) (by simpa using hj))
   simp [JY,h0,ih]
theorem QK {α:Type} (p:α→Bool) : ∀ xs:List α,decide (JY p xs≥0)=xs.any p
 | []=>rfl
 | x :: r=>by
   have ih:=QK p r
   rw [List.any_cons,← ih]
   rcases Bool.eq_false_or_eq_true (p x) with hx | hx
   ·have h1:JY p (x :: r)=0:=by simp [JY,hx]
    rw [h1,hx]; rfl
   ·have h1:JY p (x :: r)=if JY p r < 0 then -1 else JY p r+1:=by simp [JY,hx]
    rw [h1,hx,Bool.false_or]
    by_cases h:JY p r < 0
    ·rw [if_pos h,decide_eq_false (by omega),decide_eq_false (by omega)]
    ·rw [if_neg h,decide_eq_true (by omega),decide_eq_true (by omega)]
theorem ZJ {α:Type} (p:α→Bool) : ∀ (xs:List α),0≤JY p xs→∃ k,∃ hk:k < xs.length,JY p xs=(k:Nat)∧p xs[k]=true∧∀ (j:Nat) (hj:j < k),p (xs[j]'(by omega))=false
 | [],h=>by simp [JY] at h
 | x :: r,h=>by
   cases hx:p x with
   | true=>exact ⟨0,by simp,by simp [JY,hx],hx,fun j hj=>absurd hj (by omega)⟩
   | false =>
     have h1:JY p (x :: r)=if JY p r < 0 then -1 else JY p r+1:=by simp [JY,hx]
     rw [h1] at h ⊢
     split at h
     ·omega
     ·rename_i hn
      rw [if_neg hn]
      obtain ⟨k,hk,e1,e2,e3⟩:=ZJ p r (by omega)
      refine ⟨k+1,by simpa using hk,by omega,e2,fun j hj => ?_⟩
      cases j with
      | zero=>exact hx
      | succ j=>exact e3 j (by omega)
theorem AJ9 {α:Type} (p:α→Bool) (xs:List α) (h:JY p xs < 0) : ∀ x∈xs,p x=false:=by
 intro x hx
 have:=QK p xs
 rw [decide_eq_false (by omega)] at this
 have:=List.any_eq_false.1 this.symm x hx
 simpa using this
theorem ABD (G:Nat→AV) (xs:List Vr) (m:SM) (fid:FuncId) (caps:List AV) (p:Vr→Bool) (h:Hp) (hn:xs.length≤1099511627776) (hf : ∀ x∈xs,PCall (En G) fid ([.agg (FC x)] ++ caps) h (.bool (p x))) :
  PCall (En G) 158 [.sl m 4 (xs.map FC),.fn (.func fid) [] caps] h (.int .i64 (JY p xs)):=by
 refine acN Tryz.func158 rfl ?_
 show awp _ _ _ _ _ (EH _ [.tmp 4] _)
 simp -implicitDefEqProofs only [BB,CJ,A8,A7,AZ,BA,AC,AQ,AO,BD,AX,AL,AA,AY,AU,BH,BI,BC,FH,AB,BF,↓reduceIte,jA,jB,jC,enX,enP,QA,jM]
 refine D8 (fun n F H => ∃ k,n+k=xs.length∧(∀ (j:Nat) (hj:j < k) (hl:j < xs.length),p xs[j]=false)∧F 0 = .sl m 4 (xs.map FC)∧F 1 = .fn (.func fid) [] caps∧F 7 = .int .i64 (xs.length:Nat)∧F 8 = .int .i64 (k:Nat)∧H=h) xs.length ⟨0,by simp,fun j hj=>absurd hj (by omega),by simp -implicitDefEqProofs only [AA,BF,↓reduceIte,jA],by simp -implicitDefEqProofs only [AA,BF,CE,↓reduceIte,jA],by simp -implicitDefEqProofs only [AA,↓reduceIte,jA],by simp -implicitDefEqProofs only [AA,↓reduceIte]; rfl,rfl⟩ ?_
 rintro n F H ⟨k,hk,hb,f0,f1,f7,f8,rfl⟩
 simp -implicitDefEqProofs only [BB,A8,BJ,A7,AZ,BA,AC,AQ,AO,BD,AX,AL,AA,AY,BR,AB,DF,↓reduceIte,jB,jC,enP,f7,f8]
 refine CS (fun hc => ?_) (fun hc => ?_)
 ·have hk':k < xs.length:=by simpa using hc
  simp -implicitDefEqProofs only [BB,CJ,A8,BQ,A7,AZ,BA,AC,AQ,AO,BD,AX,AL,AA,AY,BI,BC,BN,CU,BX,BP,AB,jF,jD,zA,zN,↓reduceIte,jA,jB,jC,enP,RS,f0,f1,f8,EJ hk',EM AVC ALE ZT hk']
  refine (hf _ (jS hk')).use ?_
  simp -implicitDefEqProofs only [BJ,A7,BA,AL,AA,AY,↓reduceIte]
  refine CS (fun hp => ?_) (fun hp => ?_)
  ·simp -implicitDefEqProofs only [BB,A8,BK,A7,CQ,D5,FV,CW,AZ,BA,AC,AQ,AO,BD,AX,AL,AA,AY,BI,BC,↓reduceIte,jA,jB,jC,f8]
   exact ⟨by rw [O5 p xs k hk' (fun j hj=>hb j hj (by omega)) hp],trivial⟩
  ·simp -implicitDefEqProofs only [A8,BQ,A7,EO,FK,AZ,BA,AC,AQ,AO,BD,AX,AL,AA,AY,AU,BH,BI,BR,AB,DZ,↓reduceIte,jA,jB,jC,enP,f8,wrap_succ (show k < 9223372036854775807 by omega)]
   refine ⟨n - 1,by omega,k+1,by omega,fun j hj hl => ?_,by trivial,by trivial,by trivial,rfl,trivial⟩
   rcases jT j k with h1 | h1
   ·exact hb j h1 hl
   ·obtain rfl:j=k:=by omega
    exact hp
 ·simp -implicitDefEqProofs only [BB,A8,BK,D6,A7,E5,FY,GG,CW,AZ,BA,AC,AQ,AO,BD,AX,AL,AA,AU,BH,BC,↓reduceIte,jB,jC]
  have hk' : ¬ k < xs.length:=by simpa using hc
  exact ⟨by rw [OU p xs fun j hj=>hb j (by omega) hj],trivial⟩
theorem APC (G:Nat→AV) (xs:List Vr) (m:SM) (fid:FuncId) (caps:List AV) (p:Vr→Bool) (h:Hp) (hn:xs.length≤1099511627776) (hf : ∀ x∈xs,PCall (En G) fid ([.agg (FC x)] ++ caps) h (.bool (p x))) :
  PCall (En G) 105 [.sl m 4 (xs.map FC),.fn (.func fid) [] caps] h (.bool (xs.any p)):=by
 refine acN Tryz.func105 rfl ?_
 show awp _ _ _ _ _ (EH _ [.tmp 4] _)
 simp -implicitDefEqProofs only [BB,A8,A7,AZ,BA,AC,AQ,AO,BD,AX,AL,AA,AY,AU,BO,BM,BI,BC,BX,BP,BF,CE,jF,jD,jE,↓reduceIte,jA,jB,jC,enX,enP]
 refine (ABD G xs m fid caps p h hn hf).use ?_
 simp -implicitDefEqProofs only [BK,A7,CW,AZ,BA,AC,AQ,AO,BD,AX,AL,AA,AY,AU,BH,BC,BR,AB,FQ,↓reduceIte,jB,jC,enP,QK]
 exact ⟨trivial,trivial⟩
theorem AG0 (G:Nat→AV) (xs:List Ds) (m:SM) (fid:FuncId) (caps:List AV) (p:Ds→Bool) (h:Hp) (hn:xs.length≤1099511627776) (hf : ∀ x∈xs,PCall (En G) fid ([.agg (IQ x)] ++ caps) h (.bool (p x))) :
  PCall (En G) 163 [.sl m 2 (xs.map IQ),.fn (.func fid) [] caps] h (.int .i64 (JY p xs)):=by
 refine acN Tryz.func163 rfl ?_
 show awp _ _ _ _ _ (EH _ [.tmp 4] _)
 simp -implicitDefEqProofs only [BB,CJ,A8,A7,AZ,BA,AC,AQ,AO,BD,AX,AL,AA,AY,AU,BH,BI,BC,FH,AB,BF,↓reduceIte,jA,jB,jC,enX,enP,AO3,jM]
 refine D8 (fun n F H => ∃ k,n+k=xs.length∧(∀ (j:Nat) (hj:j < k) (hl:j < xs.length),p xs[j]=false)∧F 0 = .sl m 2 (xs.map IQ)∧F 1 = .fn (.func fid) [] caps∧F 7 = .int .i64 (xs.length:Nat)∧F 8 = .int .i64 (k:Nat)∧H=h) xs.length ⟨0,by simp,fun j hj=>absurd hj (by omega),by simp -implicitDefEqProofs only [AA,BF,↓reduceIte,jA],by simp -implicitDefEqProofs only [AA,BF,CE,↓reduceIte,jA],by simp -implicitDefEqProofs only [AA,↓reduceIte,jA],by simp -implicitDefEqProofs only [AA,↓reduceIte]; rfl,rfl⟩ ?_
 rintro n F H ⟨k,hk,hb,f0,f1,f7,f8,rfl⟩
 simp -implicitDefEqProofs only [BB,A8,BJ,A7,AZ,BA,AC,AQ,AO,BD,AX,AL,AA,AY,BR,AB,DF,↓reduceIte,jB,jC,enP,f7,f8]
 refine CS (fun hc => ?_) (fun hc => ?_)
 ·have hk':k < xs.length:=by simpa using hc
  simp -implicitDefEqProofs only [BB,CJ,A8,BQ,A7,AZ,BA,AC,AQ,AO,BD,AX,AL,AA,AY,BI,BC,BN,CU,BX,BP,AB,jF,jD,zA,zN,↓reduceIte,jA,jB,jC,enP,AAX,f0,f1,f8,EJ hk',EM AQB AF9 V5 hk']
  refine (hf _ (jS hk')).use ?_
  simp -implicitDefEqProofs only [BJ,A7,BA,AL,AA,AY,↓reduceIte]
  refine CS (fun hp => ?_) (fun hp => ?_)
  ·simp -implicitDefEqProofs only [BB,A8,BK,A7,CQ,D5,FV,CW,AZ,BA,AC,AQ,AO,BD,AX,AL,AA,AY,BI,BC,↓reduceIte,jA,jB,jC,f8]
   exact ⟨by rw [O5 p xs k hk' (fun j hj=>hb j hj (by omega)) hp],trivial⟩
  ·simp -implicitDefEqProofs only [A8,BQ,A7,EO,FK,AZ,BA,AC,AQ,AO,BD,AX,AL,AA,AY,AU,BH,BI,BR,AB,DZ,↓reduceIte,jA,jB,jC,enP,f8,wrap_succ (show k < 9223372036854775807 by omega)]
   refine ⟨n - 1,by omega,k+1,by omega,fun j hj hl => ?_,by trivial,by trivial,by trivial,rfl,trivial⟩
   rcases jT j k with h1 | h1
   ·exact hb j h1 hl
   ·obtain rfl:j=k:=by omega
    exact hp
 ·simp -implicitDefEqProofs only [BB,A8,BK,D6,A7,E5,FY,GG,CW,AZ,BA,AC,AQ,AO,BD,AX,AL,AA,AU,BH,BC,↓reduceIte,jB,jC]
  have hk' : ¬ k < xs.length:=by simpa using hc
  exact ⟨by rw [OU p xs fun j hj=>hb j (by omega) hj],trivial⟩
theorem AMI (G:Nat→AV) (xs:List Ds) (m:SM) (fid:FuncId) (caps:List AV) (p:Ds→Bool) (h:Hp) (hn:xs.length≤1099511627776) (hf : ∀ x∈xs,PCall (En G) fid ([.agg (IQ x)] ++ caps) h (.bool (p x))) :
  PCall (En G) 114 [.sl m 2 (xs.map IQ),.fn (.func fid) [] caps] h (.bool (xs.any p)):=by
 refine acN Tryz.func114 rfl ?_
 show awp _ _ _ _ _ (EH _ [.tmp 4] _)
 simp -implicitDefEqProofs only [BB,A8,A7,AZ,BA,AC,AQ,AO,BD,AX,AL,AA,AY,AU,BO,BM,BI,BC,BX,BP,BF,CE,jF,jD,jE,↓reduceIte,jA,jB,jC,enX,enP]
 refine (AG0 G xs m fid caps p h hn hf).use ?_
 simp -implicitDefEqProofs only [BK,A7,CW,AZ,BA,AC,AQ,AO,BD,AX,AL,AA,AY,AU,BH,BC,BR,AB,FQ,↓reduceIte,jB,jC,enP,QK]
 exact ⟨trivial,trivial⟩
theorem AMG (G:Nat→AV) (xs:List Wg) (m:SM) (fid:FuncId) (caps:List AV) (p:Wg→Bool) (h:Hp) (hn:xs.length≤1099511627776) (hf : ∀ x∈xs,PCall (En G) fid ([.agg (IR x)] ++ caps) h (.bool (p x))) :
  PCall (En G) 196 [.sl m 4 (xs.map IR),.fn (.func fid) [] caps] h (.int .i64 (JY p xs)):=by
 refine acN Tryz.func196 rfl ?_
 show awp _ _ _ _ _ (EH _ [.tmp 4] _)
 simp -implicitDefEqProofs only [BB,CJ,A8,A7,AZ,BA,AC,AQ,AO,BD,AX,AL,AA,AY,AU,BH,BI,BC,FH,AB,BF,↓reduceIte,jA,jB,jC,enX,enP,AL3,jM]
 refine D8 (fun n F H => ∃ k,n+k=xs.length∧(∀ (j:Nat) (hj:j < k) (hl:j < xs.length),p xs[j]=false)∧F 0 = .sl m 4 (xs.map IR)∧F 1 = .fn (.func fid) [] caps∧F 7 = .int .i64 (xs.length:Nat)∧F 8 = .int .i64 (k:Nat)∧H=h) xs.length ⟨0,by simp,fun j hj=>absurd hj (by omega),by simp -implicitDefEqProofs only [AA,BF,↓reduceIte,jA],by simp -implicitDefEqProofs only [AA,BF,CE,↓reduceIte,jA],by simp -implicitDefEqProofs only [AA,↓reduceIte,jA],by simp -implicitDefEqProofs only [AA,↓reduceIte]; rfl,rfl⟩ ?_
 rintro n F H ⟨k,hk,hb,f0,f1,f7,f8,rfl⟩
 simp -implicitDefEqProofs only [BB,A8,BJ,A7,AZ,BA,AC,AQ,AO,BD,AX,AL,AA,AY,BR,AB,DF,↓reduceIte,jB,jC,enP,f7,f8]
 refine CS (fun hc => ?_) (fun hc => ?_)
 ·have hk':k < xs.length:=by simpa using hc
  simp -implicitDefEqProofs only [BB,CJ,A8,BQ,A7,AZ,BA,AC,AQ,AO,BD,AX,AL,AA,AY,BI,BC,BN,CU,BX,BP,AB,jF,jD,zA,zN,↓reduceIte,jA,jB,jC,enP,AR6,f0,f1,f8,EJ hk',EM ASV ALD TQ hk']
  refine (hf _ (jS hk')).use ?_
  simp -implicitDefEqProofs only [BJ,A7,BA,AL,AA,AY,↓reduceIte]
  refine CS (fun hp => ?_) (fun hp => ?_)
  ·simp -implicitDefEqProofs only [BB,A8,BK,A7,CQ,D5,FV,CW,AZ,BA,AC,AQ,AO,BD,AX,AL,AA,AY,BI,BC,↓reduceIte,jA,jB,jC,f8]
   exact ⟨by rw [O5 p xs k hk' (fun j hj=>hb j hj (by omega)) hp],trivial⟩
  ·simp -implicitDefEqProofs only [A8,BQ,A7,EO,FK,AZ,BA,AC,AQ,AO,BD,AX,AL,AA,AY,AU,BH,BI,BR,AB,DZ,↓reduceIte,jA,jB,jC,enP,f8,wrap_succ (show k < 9223372036854775807 by omega)]
   refine ⟨n - 1,by omega,k+1,by omega,fun j hj hl => ?_,by trivial,by trivial,by trivial,rfl,trivial⟩
   rcases jT j k with h1 | h1
   ·exact hb j h1 hl
   ·obtain rfl:j=k:=by omega
    exact hp
 ·simp -implicitDefEqProofs only [BB,A8,BK,D6,A7,E5,FY,GG,CW,AZ,BA,AC,AQ,AO,BD,AX,AL,AA,AU,BH,BC,↓reduceIte,jB,jC]
  have hk' : ¬ k < xs.length:=by simpa using hc
  exact ⟨by rw [OU p xs fun j hj=>hb j (by omega) hj],trivial⟩
theorem AR7 (G:Nat→AV) (xs:List Wg) (m:SM) (fid:FuncId) (caps:List AV) (p:Wg→Bool) (h:Hp) (hn:xs.length≤1099511627776) (hf : ∀ x∈xs,PCall (En G) fid ([.agg (IR x)] ++ caps) h (.bool (p x))) :
  PCall (En G) 164 [.sl m 4 (xs.map IR),.fn (.func fid) [] caps] h (.bool (xs.any p)):=by
 refine acN Tryz.func164 rfl ?_
 show awp _ _ _ _ _ (EH _ [.tmp 4] _)
 simp -implicitDefEqProofs only [BB,A8,A7,AZ,BA,AC,AQ,AO,BD,AX,AL,AA,AY,AU,BO,BM,BI,BC,BX,BP,BF,CE,jF,jD,jE,↓reduceIte,jA,jB,jC,enX,enP]
 refine (AMG G xs m fid caps p h hn hf).use ?_
 simp -implicitDefEqProofs only [BK,A7,CW,AZ,BA,AC,AQ,AO,BD,AX,AL,AA,AY,AU,BH,BC,BR,AB,FQ,↓reduceIte,jB,jC,enP,QK]
 exact ⟨trivial,trivial⟩
theorem AT1 {h:Hp} {xs:List ByteArray} {k:Nat} (hk:k < xs.length):DI Tryz.prog h 9 (.fptr 1 (xs.map encStr) k 0)=some (.str xs[k]):=by rw [GR ag9 hk]; rfl
theorem AJ5 (G:Nat→AV) (xs:List ByteArray) (m:SM) (fid:FuncId) (caps:List AV) (p:ByteArray→Bool) (h:Hp) (hn:xs.length≤1099511627776) (hf : ∀ x∈xs,PCall (En G) fid ([.str x] ++ caps) h (.bool (p x))) :
  PCall (En G) 162 [.sl m 1 (xs.map encStr),.fn (.func fid) [] caps] h (.int .i64 (JY p xs)):=by
 refine acN Tryz.func162 rfl ?_
 show awp _ _ _ _ _ (EH _ [.tmp 4] _)
 simp -implicitDefEqProofs only [BB,CJ,A8,A7,AZ,BA,AC,AQ,AO,BD,AX,AL,AA,AY,AU,BH,BI,BC,FH,AB,BF,↓reduceIte,jA,jB,jC,enX,enP,XR,jM]
 refine D8 (fun n F H => ∃ k,n+k=xs.length∧(∀ (j:Nat) (hj:j < k) (hl:j < xs.length),p xs[j]=false)∧F 0 = .sl m 1 (xs.map encStr)∧F 1 = .fn (.func fid) [] caps∧F 7 = .int .i64 (xs.length:Nat)∧F 8 = .int .i64 (k:Nat)∧H=h) xs.length ⟨0,by simp,fun j hj=>absurd hj (by omega),by simp -implicitDefEqProofs only [AA,BF,↓reduceIte,jA],by simp -implicitDefEqProofs only [AA,BF,CE,↓reduceIte,jA],by simp -implicitDefEqProofs only [AA,↓reduceIte,jA],by simp -implicitDefEqProofs only [AA,↓reduceIte]; rfl,rfl⟩ ?_
 rintro n F H ⟨k,hk,hb,f0,f1,f7,f8,rfl⟩
 simp -implicitDefEqProofs only [BB,A8,BJ,A7,AZ,BA,AC,AQ,AO,BD,AX,AL,AA,AY,BR,AB,DF,↓reduceIte,jB,jC,enP,f7,f8]
 refine CS (fun hc => ?_) (fun hc => ?_)
 ·have hk':k < xs.length:=by simpa using hc
  simp -implicitDefEqProofs only [BB,CJ,A8,BQ,A7,AZ,BA,AC,AQ,AO,BD,AX,AL,AA,AY,BI,BC,BN,CU,BX,BP,AB,jF,jD,zA,zN,↓reduceIte,jA,jB,jC,enP,AEO,f0,f1,f8,EJ hk',AT1 hk']
  refine (hf _ (jS hk')).use ?_
  simp -implicitDefEqProofs only [BJ,A7,BA,AL,AA,AY,↓reduceIte]
  refine CS (fun hp => ?_) (fun hp => ?_)
  ·simp -implicitDefEqProofs only [BB,A8,BK,A7,CQ,D5,FV,CW,AZ,BA,AC,AQ,AO,BD,AX,AL,AA,AY,BI,BC,↓reduceIte,jA,jB,jC,f8]
   exact ⟨by rw [O5 p xs k hk' (fun j hj=>hb j hj (by omega)) hp],trivial⟩
  ·simp -implicitDefEqProofs only [A8,BQ,A7,EO,FK,AZ,BA,AC,AQ,AO,BD,AX,AL,AA,AY,AU,BH,BI,BR,AB,DZ,↓reduceIte,jA,jB,jC,enP,f8,wrap_succ (show k < 9223372036854775807 by omega)]
   refine ⟨n - 1,by omega,k+1,by omega,fun j hj hl => ?_,by trivial,by trivial,by trivial,rfl,trivial⟩
   rcases jT j k with h1 | h1
   ·exact hb j h1 hl
   ·obtain rfl:j=k:=by omega
    exact hp
 ·simp -implicitDefEqProofs only [BB,A8,BK,D6,A7,E5,FY,GG,CW,AZ,BA,AC,AQ,AO,BD,AX,AL,AA,AU,BH,BC,↓reduceIte,jB,jC]
  have hk' : ¬ k < xs.length:=by simpa using hc
  exact ⟨by rw [OU p xs fun j hj=>hb j (by omega) hj],trivial⟩
theorem APD (G:Nat→AV) (xs:List ByteArray) (m:SM) (fid:FuncId) (caps:List AV) (p:ByteArray→Bool) (h:Hp) (hn:xs.length≤1099511627776) (hf : ∀ x∈xs,PCall (En G) fid ([.str x] ++ caps) h (.bool (p x))) :
  PCall (En G) 110 [.sl m 1 (xs.map encStr),.fn (.func fid) [] caps] h (.bool (xs.any p)):=by
 refine acN Tryz.func110 rfl ?_
 show awp _ _ _ _ _ (EH _ [.tmp 4] _)
 simp -implicitDefEqProofs only [BB,A8,A7,AZ,BA,AC,AQ,AO,BD,AX,AL,AA,AY,AU,BO,BM,BI,BC,BX,BP,BF,CE,jF,jD,jE,↓reduceIte,jA,jB,jC,enX,enP]
 refine (AJ5 G xs m fid caps p h hn hf).use ?_
 simp -implicitDefEqProofs only [BK,A7,CW,AZ,BA,AC,AQ,AO,BD,AX,AL,AA,AY,AU,BH,BC,BR,AB,FQ,↓reduceIte,jB,jC,enP,QK]
 exact ⟨trivial,trivial⟩
def dgS (k:Nat):ByteArray:=⟨#[UInt8.ofNat (48+k)]⟩
def AQ3:ByteArray:=⟨#[48,49,50,51,52,53,54,55,56,57,97,98,99,100,101,102,103,104,105,106,107,108,109,110,111,112,113,114,115,116,117,118,119,120,121,122]⟩
theorem sl36 : ∀ (k:Nat),k < 8→∀ h:Hp,J8 Tryz.prog h 9 (.str AQ3) (some (.int .i64 (k:Nat))) (some (.int .i64 ((k+1:Nat):Int))) none=some (.str (dgS k))
 | 0,_,h=>by kernel_rfl
 | 1,_,h=>by kernel_rfl
 | 2,_,h=>by kernel_rfl
 | 3,_,h=>by kernel_rfl
 | 4,_,h=>by kernel_rfl
 | 5,_,h=>by kernel_rfl
 | 6,_,h=>by kernel_rfl
 | 7,_,h=>by kernel_rfl
 | n+8,q,_=>absurd q (by omega)
theorem AGB (G:Nat→AV) (k:Nat) (hk:k < 8) (h:Hp):PCall (En G) 222 [.int .i64 (k:Nat)] h (.str (dgS k)):=by
 refine acN Tryz.func222 rfl ?_
 show awp _ _ _ _ _ (EH _ [.tmp 2] _)
 have hd:decide (((k:Nat):Int) < 10)=true:=by simp; omega
 have:=sl36 k hk h
 unfold AQ3 at this
 simp -implicitDefEqProofs only [qM,Option.map_none,BB,A8,BK,BJ,A7,CQ,CW,DY,AZ,BA,AC,AQ,AO,BD,AX,AL,AA,AY,AU,BH,GN,BI,BC,BR,NK,AB,DZ,DF,BF,↓reduceIte,jA,jB,jC,enX,enP,hd,wrap_succ (show k < 9223372036854775807 by omega),this]
 exact ⟨trivial,trivial⟩
theorem AKV (G:Nat→AV) (k:Nat) (hk:k < 8) (h:Hp):PCall (En G) 192 [.int .i64 (k:Nat)] h (.str (dgS k)):=by
 have h1:PCall (En G) 219 [.int .i64 (k:Nat),.int .i64 10] h (.str (dgS k)):=by
  refine acN Tryz.func219 rfl ?_
  show awp _ _ _ _ _ (EH _ [.tmp 4] _)
  have d1:((10:Int) == 10)=true:=rfl
  have d2:decide ((0:Int)≤((k:Nat):Int))=true:=by simp
  have d3:decide (((k:Nat):Int) < 100)=true:=by simp; omega
  simp -implicitDefEqProofs only [BB,A8,BJ,A7,DY,AZ,BA,BL,BU,CO,GH,AC,AQ,AO,BD,AX,AL,AA,AY,AU,BO,BH,BM,GN,BI,BC,CP,DL,BR,BX,BP,AB,DW,DF,KH,BF,CE,jF,jD,jE,↓reduceIte,jA,jB,jC,enX,enP,d1,d2,d3]
  refine (AGB G k hk h).use ?_
  simp -implicitDefEqProofs only [BK,A7,CQ,CW,AZ,BA,AC,AQ,AO,BD,AX,AL,AA,AY,BC,↓reduceIte,jB,jC]
  exact ⟨trivial,trivial⟩
 have h2:PCall (En G) 207 [.int .i64 (k:Nat)] h (.str (dgS k)):=by
  refine acN Tryz.func207 rfl ?_
  show awp _ _ _ _ _ (EH _ [.tmp 2] _)
  simp -implicitDefEqProofs only [BB,A8,A7,AZ,BA,AC,AQ,AO,BD,AX,AL,AA,AY,AU,BO,BH,GN,BI,BC,BX,BP,BF,jF,jD,jE,↓reduceIte,jA,jB,jC,enX,enP]
  refine h1.use ?_
  simp -implicitDefEqProofs only [BK,A7,CW,AZ,BA,AC,AQ,AO,BD,AX,AL,AA,AY,BC,↓reduceIte,jB,jC]
  exact ⟨trivial,trivial⟩
 refine acN Tryz.func192 rfl ?_
 show awp _ _ _ _ _ (EH _ [.tmp 2] _)
 simp -implicitDefEqProofs only [BB,A8,A7,AZ,BA,AC,AQ,AO,BD,AX,AL,AA,AY,AU,BO,GN,BI,BC,BX,BP,BF,jF,jD,jE,↓reduceIte,jA,jB,jC,enX,enP]
 refine h2.use ?_
 simp -implicitDefEqProofs only [BK,A7,CW,AZ,BA,AC,AQ,AO,BD,AX,AL,AA,AY,BC,↓reduceIte,jB,jC]
 exact ⟨trivial,trivial⟩
theorem AKN (G:Nat→AV) (k:Nat) (hk:k < 8) (h:Hp):PCall (En G) 200 [.int .i64 (k:Nat)] h (.int .i64 (-(k:Int))):=by
 refine acN Tryz.func200 rfl ?_
 show awp _ _ _ _ _ (EH _ [.tmp 2] _)
 simp -implicitDefEqProofs only [BB,A8,BJ,A7,AZ,BA,AC,AQ,AO,BD,AX,AL,AA,AY,AU,BH,BI,BC,BR,AB,E8,BF,↓reduceIte,jA,jB,jC,enX,enP]
 refine CS (fun hc => ?_) (fun hc => ?_)
 ·have e:IntKind.i64.wrap (0 - ((k:Nat):Int)) = -(k:Int):=by rw [wrap_i64 (by omega) (by omega)]; omega
  simp -implicitDefEqProofs only [BB,A8,BK,A7,CQ,CW,AZ,BA,AC,AQ,AO,BD,AX,AL,AA,AY,BI,BC,I5,AB,ARN,BF,↓reduceIte,jA,jB,jC,e]
  exact ⟨trivial,trivial⟩
 ·have e:((k:Nat):Int) = -(k:Int):=by
   have : ¬ ((k:Nat):Int) > 0:=by simpa using hc
   omega
  simp -implicitDefEqProofs only [BB,A8,BQ,BK,A7,CW,AZ,BA,AC,AQ,AO,BD,AX,AL,AA,AY,BI,BC,BF,↓reduceIte,jA,jB,jC]
  exact ⟨by rw [← e],trivial⟩
theorem AHU (G:Nat→AV) (k:Nat) (hk:k < 8) (h:Hp):PCall (En G) 169 [.int .i64 (k:Nat)] h (.str (dgS k)):=by
 refine acN Tryz.func169 rfl ?_
 show awp _ _ _ _ _ (EH _ [.tmp 2] _)
 simp -implicitDefEqProofs only [BB,A8,A7,AZ,BA,AC,AQ,AO,BD,AX,AL,AA,AY,AU,BO,GN,BI,BC,BX,BP,BF,jF,jD,jE,↓reduceIte,jA,jB,jC,enX,enP]
 refine (AKN G k hk h).use ?_
 simp -implicitDefEqProofs only [BB,CJ,A7,AZ,BA,AC,AQ,AO,BD,AX,AL,AA,AY,BC,↓reduceIte,jB,jC]
 refine D8 (fun n F H=>n=0∧F 0 = .int .i64 (k:Nat)∧F 3 = .str ⟨#[]⟩∧F 4 = .int .i64 (-(k:Int))∧H=h) 0 ⟨rfl,by simp -implicitDefEqProofs only [AA,BF,↓reduceIte,jA],by simp -implicitDefEqProofs only [AA,↓reduceIte,jA],by simp -implicitDefEqProofs only [AA,↓reduceIte],rfl⟩ ?_
 rintro n F H ⟨rfl,f0,f3,f4,rfl⟩
 have e1:(-(k:Int)).tmod 10 = -(k:Int):=by
  rw [Int.neg_tmod,Int.tmod_eq_emod_of_nonneg (by omega)]; omega
 have e2:(-(k:Int)).tdiv 10=0:=by
  rw [Int.neg_tdiv,Int.tdiv_eq_ediv_of_nonneg (by omega)]; omega
 have e3:(48:Int) - -(k:Int)=48+(k:Int):=by omega
 have r1:G6 Tryz.prog 3 .rem (.int .i64 (-(k:Int))) (.int .i64 10)=some (.int .i64 (-(k:Int))):=by rw [AC4 _ _ _ _ _ (by decide),e1]
 have r2:G6 Tryz.prog 3 .quo (.int .i64 (-(k:Int))) (.int .i64 10)=some (.int .i64 0):=by rw [AP0 _ _ _ _ _ (by decide),e2]; rfl
 have a1:G6 Tryz.prog 9 .add (.str (dgS k)) (.str ⟨#[]⟩)=some (.str (dgS k)):=by
  rw [WC (by show 1+0≤_; omega)]
  congr 2
 have z:((0:Int) == 0)=true:=rfl
 have dc:=AM3 k hk
 change _=some (AV.str (dgS k)) at dc
 have n0:decide (((k:Nat):Int) < 0)=false:=by simp
 simp -implicitDefEqProofs only [EU,EN,BB,CJ,A8,BQ,BK,D6,BJ,A7,FY,GG,CW,DY,EC,AZ,BA,AC,AQ,AO,BD,AX,AL,AA,AY,AU,BH,BI,BC,F9,BR,OZ,BV,AB,JJ,DW,DF,↓reduceIte,jA,jB,jC,enP,AUE,f0,f3,f4,r1,r2,e3,AUN,dc,a1,z,n0]
 exact ⟨trivial,trivial⟩
theorem AUR (a:ByteArray) (k:Nat) (ha:a.size≤1048576):G6 Tryz.prog 9 .add (.str a) (.str ⟨#[91]⟩)=some (.str (a ++ (⟨#[91]⟩:ByteArray)))∧G6 Tryz.prog 9 .add (.str (a ++ (⟨#[91]⟩:ByteArray))) (.str (dgS k))=some (.str (a ++ (⟨#[91]⟩:ByteArray) ++ dgS k)) ∧
  G6 Tryz.prog 9 .add (.str (a ++ (⟨#[91]⟩:ByteArray) ++ dgS k)) (.str ⟨#[93]⟩)=some (.str (elN a k)) :=
 ⟨WC (by show a.size+1≤_; omega),WC (by rw [AC5]; show a.size+1+1≤_; omega),WC (by rw [AC5,AC5]; show a.size+1+1+1≤_; omega)⟩
theorem WU (G:Nat→AV) (a:ByteArray) (k:Nat) (hk:k < 8) (h:Hp) (ha:a.size≤1048576):PCall (En G) 157 [.str a,.int .i64 (k:Nat)] h (.str (elN a k)):=by
 refine acN Tryz.func157 rfl ?_
 show awp _ _ _ _ _ (EH _ [.tmp 4] _)
 obtain ⟨b1,b2,b3⟩:=AUR a k ha
 simp -implicitDefEqProofs only [BB,A8,A7,AZ,BA,AC,AQ,AO,BD,AX,AL,AA,AY,AU,BO,GN,BI,BC,BR,BX,BP,AB,BF,CE,jF,jD,jE,↓reduceIte,jA,jB,jC,enX,enP,b1]
 refine (AKV G k hk h).use ?_
 simp -implicitDefEqProofs only [BK,A7,CW,AZ,BA,AC,AQ,AO,BD,AX,AL,AA,AY,AU,GN,BC,BR,AB,↓reduceIte,jA,jB,jC,enP,b2,b3]
 exact ⟨trivial,trivial⟩
theorem ZU (G:Nat→AV) (a:ByteArray) (k:Nat) (hk:k < 8) (h:Hp) (ha:a.size≤1048576):PCall (En G) 127 [.str a,.int .i64 (k:Nat)] h (.str (elN a k)):=by
 refine acN Tryz.func127 rfl ?_
 show awp _ _ _ _ _ (EH _ [.tmp 4] _)
 obtain ⟨b1,b2,b3⟩:=AUR a k ha
 simp -implicitDefEqProofs only [BB,A8,A7,AZ,BA,AC,AQ,AO,BD,AX,AL,AA,AY,AU,BO,GN,BI,BC,BR,BX,BP,AB,BF,CE,jF,jD,jE,↓reduceIte,jA,jB,jC,enX,enP,b1]
 refine (AHU G k hk h).use ?_
 simp -implicitDefEqProofs only [BK,A7,CW,AZ,BA,AC,AQ,AO,BD,AX,AL,AA,AY,AU,GN,BC,BR,AB,↓reduceIte,jA,jB,jC,enP,b2,b3]
 exact ⟨trivial,trivial⟩
theorem PD (a:ByteArray) (k:Nat):(elN a k).data.toList=a.data.toList ++ [91,UInt8.ofNat (48+k),93]:=by
 unfold elN
 simp [ByteArray.data_append]
theorem AAG {a b:ByteArray} (h:a.data.toList=b.data.toList):a=b:=by
 obtain ⟨⟨x⟩⟩:=a
 obtain ⟨⟨y⟩⟩:=b
 have:x=y:=h
 rw [this]
theorem AFM (a:ByteArray):(⟨a.data.toList.toArray⟩:ByteArray)=a:=by obtain ⟨⟨x⟩⟩:=a; rfl
theorem AC0 {k:Nat} (hk:k < 8):(UInt8.ofNat (48+k)).toNat=48+k:=by
 rw [UInt8.toNat_ofNat']; omega
theorem AIS {a:ByteArray} {i j:Nat} (hi:i < 8) (hj:j < 8) (h:elN a i=elN a j):i=j:=by
 have:=congrArg (fun x=>x.data.toList) h
 simp only [PD,List.append_cancel_left_eq,List.cons.injEq,and_true,true_and] at this
 have:=congrArg UInt8.toNat this
 rw [AC0 hi,AC0 hj] at this
 omega
theorem ABO {a:ByteArray} {k:Nat} (hk:k < 8) (hn:G7 a=true):JG (elN a k)=some (a.data.toList,UInt8.ofNat (48+k)):=by
 have h1:elN a k=⟨(a.data.toList ++ [91,UInt8.ofNat (48+k),93]).toArray⟩:=AAG (PD a k)
 have hne:a.data.toList≠[]:=(PW (l:=a.data.toList) (by rw [AFM]; exact hn)).1
 rw [h1,V6 hne,AFM,hn,AC0 hk]
 simp
 omega
theorem KU {s:ByteArray} {a:List UInt8} {d:UInt8} (h:JG s=some (a,d)):48≤d.toNat∧d.toNat - 48 < 8∧G7 ⟨a.toArray⟩=true∧s=elN ⟨a.toArray⟩ (d.toNat - 48)∧a.length+3=s.size:=by
 unfold JG at h
 split at h
 case isFalse=>cases h
 rename_i hl
 split at h
 case h_2=>cases h
 rename_i x d' y hm
 split at h
 case isFalse=>cases h
 rename_i hc
 cases h
 simp only [Bool.and_eq_true,beq_iff_eq,decide_eq_true_eq] at hc
 obtain ⟨⟨⟨⟨rfl,rfl⟩,c1⟩,c2⟩,c3⟩:=hc
 refine ⟨c1,by omega,c3,AAG ?_,?_⟩
 ·rw [PD]
  have e:UInt8.ofNat (48+(d.toNat - 48))=d:=by rw [show 48+(d.toNat - 48)=d.toNat by omega]; simp
  rw [e,← hm]
  simp
 ·have:s.size=s.data.toList.length:=(Array.length_toList (xs:=s.data)).symm
  rw [this,zT]; omega
theorem XA (a b:ByteArray):(a.toList == b.toList)=true↔a=b:=by
 rw [beq_iff_eq,ByteArray.toList_eq,ByteArray.toList_eq]
 exact ⟨AAG,fun h=>by rw [h]⟩
theorem ASP {a b:ByteArray} (h:a≠b):(a.toList == b.toList)=false:=by
 rw [← Bool.not_eq_true,XA]; exact h
def JB (n:ByteArray) (v:Vr):Bool:=v.name.toList == n.toList
def plc (l:List Vr) (n:ByteArray):Int:=JY (JB n) l
theorem AT6 (G:Nat→AV) (v:Vr) (n:ByteArray) (c:Nat) (h:Hp) (hc:h[c]? = some (.live 1 [[.str n]])):PCall (En G) 159 ([.agg (FC v)] ++ [.ptr c 0 0]) h (.bool (JB n v)):=by
 refine ACalls.pure0 rfl ?_
 refine acN Tryz.func159 rfl ?_
 show awp _ _ _ _ _ (EH _ [.tmp 3] _)
 have hc':(h ++ [ABlk.live 4 [FC v]])[c]? = _:=CX hc
 simp -implicitDefEqProofs only [BB,A8,BK,A7,CW,AZ,BA,AC,AQ,AO,BD,AX,AL,AA,AY,AU,BM,BC,FN,BN,BR,BG,BV,AB,KW,BF,CE,zA,zN,↓reduceIte,jA,jI,jB,jC,enP,N9,bxV,EE ag9,AM2,IB ag9 hc']
 exact ⟨rfl,_,rfl⟩
theorem index_prog (G:Nat→AV) (l:List Vr) (m:SM) (n:ByteArray) (h:Hp) (hl:l.length≤1099511627776):PCall (En G) 104 [.sl m 4 (l.map FC),.str n] h (.int .i64 (plc l n)):=by
 refine ACalls.pure0 rfl ?_
 refine acN Tryz.func104 rfl ?_
 show awp _ _ _ _ _ (EH _ [.tmp 4] _)
 simp -implicitDefEqProofs only [APX,BB,A8,A7,AZ,BA,AC,AQ,AO,BD,AX,AL,AA,AY,AU,BO,BH,BI,BC,FN,IX,BX,BP,BV,BF,CE,jF,jD,jE,↓reduceIte,jA,jB,jC,enP]
 refine (ABD G l m 159 [.ptr h.length 0 0] (JB n) _ hl fun x _=>AT6 G x n h.length _ (C9 _ _)).use ?_
 simp -implicitDefEqProofs only [BK,A7,CW,AZ,BA,AC,AQ,AO,BD,AX,AL,AA,AY,BC,↓reduceIte,jB,jC]
 exact ⟨rfl,_,rfl⟩
theorem U5 (G:Nat→AV) (l:List Vr) (m:SM) (n:ByteArray) (h:Hp) (hl:l.length≤1099511627776):PCall (En G) 84 [.sl m 4 (l.map FC),.str n] h (.int .i64 (plc l n)):=by
 refine acN Tryz.func84 rfl ?_
 show awp _ _ _ _ _ (EH _ [.tmp 4] _)
 simp -implicitDefEqProofs only [BB,CJ,A8,A7,AZ,BA,AC,AQ,AO,BD,AX,AL,AU,BH,BC,jB,jC,enX,enP]
 refine D8 (fun k F H => ∃ j,k+j=l.length∧(∀ (i:Nat) (hi:i < j) (hl:i < l.length),JB n l[i]=false)∧F 0 = .sl m 4 (l.map FC)∧F 1 = .str n∧F 5 = .int .i64 (j:Nat)∧H=h) l.length ⟨0,by simp,fun i hi=>absurd hi (by omega),by simp -implicitDefEqProofs only [AA,BF,↓reduceIte,jA],by simp -implicitDefEqProofs only [AA,BF,CE,↓reduceIte,jA],by simp -implicitDefEqProofs only [AA,↓reduceIte]; rfl,rfl⟩ ?_
 rintro k F H ⟨j,hj,hb,f0,f1,f5,rfl⟩
 simp -implicitDefEqProofs only [BB,A8,BJ,A7,AZ,BA,AC,AQ,AO,BD,AX,AL,AA,AY,BI,BR,FH,AB,DF,↓reduceIte,jA,jB,jC,enP,QA,f0,f5,jM]
 refine CS (fun hc => ?_) (fun hc => ?_)
 ·have hj':j < l.length:=by simpa using hc
  have l0:DI Tryz.prog H 9 (.fptr 4 (l.map FC) j 0)=some (.str l[j].name):=by rw [GR ag9 hj']; rfl
  simp -implicitDefEqProofs only [BB,CJ,A8,BQ,BJ,A7,AZ,BA,AC,AQ,AO,BD,AX,AL,AA,AY,BI,BN,BR,BG,CU,AB,KW,↓reduceIte,jA,jI,jB,jC,enP,RS,N9,f0,f1,f5,EJ hj',l0]
  refine CS (fun hp => ?_) (fun hp => ?_)
  ·simp -implicitDefEqProofs only [BB,A8,BK,A7,CQ,D5,FV,CW,AZ,BA,AC,AQ,AO,BD,AX,AL,AA,AY,BI,BC,↓reduceIte,jA,jB,jC,f5]
   exact ⟨by rw [plc,O5 (JB n) l j hj' (fun i hi=>hb i hi (by omega)) hp],trivial⟩
  ·simp -implicitDefEqProofs only [A8,BQ,A7,EO,FK,AZ,BA,AC,AQ,AO,BD,AX,AL,AA,AY,AU,BH,BI,BC,BR,AB,DZ,↓reduceIte,jA,jB,jC,enP,f5,wrap_succ (show j < 9223372036854775807 by omega)]
   refine ⟨k - 1,by omega,j+1,by omega,fun i hi hl => ?_,by trivial,by trivial,rfl,trivial⟩
   rcases jT i j with h1 | h1
   ·exact hb i h1 hl
   ·obtain rfl:i=j:=by omega
    exact hp
 ·simp -implicitDefEqProofs only [BB,A8,BK,D6,A7,E5,FY,GG,CW,AZ,BA,AC,AQ,AO,BD,AX,AL,AA,AU,BH,BC,↓reduceIte,jB,jC]
  have hj' : ¬ j < l.length:=by simpa using hc
  exact ⟨by rw [plc,OU (JB n) l fun i hi=>hb i (by omega) hi],trivial⟩
theorem ASI (s:ByteArray):(Lib.cut s.data.toList [91]).1.length≤s.size:=by
 have:=AIY s.data.toList
 have e:s.data.toList.length=s.size:=Array.length_toList
 omega
theorem AGO (G:Nat→AV) (hG:GOk G) (s:ByteArray) (h:Hp) (hl:s.size≤1048576):PCall (En G) 103 [.str s] h (.bool (II s)):=by
 refine acN Tryz.func103 rfl ?_
 show awp _ _ _ _ _ (EH _ [.tmp 2] _)
 simp -implicitDefEqProofs only [BB,A8,A7,AZ,BA,AC,AQ,AO,BD,AX,AL,AA,AY,AU,BO,BM,BI,BC,BX,BP,BF,jF,jD,jE,↓reduceIte,jA,jB,jC,enX,enP]
 refine (NV G hG.kw s h (by omega)).use ?_
 cases hn:G7 s
 case true =>
  simp -implicitDefEqProofs only [BB,A8,BK,BJ,A7,CQ,CW,DY,AZ,BA,AC,AQ,AO,BD,AX,AL,AA,AY,AU,BM,BC,↓reduceIte,jB,jC]
  exact ⟨by unfold II; rw [hn,qF],trivial⟩
 have hv:II s=(JG s).isSome:=by unfold II; rw [hn,jO]
 rw [hv]
 clear hn hv
 simp -implicitDefEqProofs only [BB,A8,BQ,BJ,A7,EC,AZ,BA,AC,AQ,AO,BD,AX,AL,AA,AY,AU,BO,GN,BI,BX,BP,BF,jF,jD,jE,↓reduceIte,jA,jB,jC]
 refine (Z5 G hG s h hl).use ?_
 have he:=ZV s
 have hal:=ASI s
 unfold cutV
 generalize Lib.cut s.data.toList [91]=c at he hal ⊢
 obtain ⟨a,b,f⟩:=c
 simp only at he hal
 simp -implicitDefEqProofs only [zG,zK,BB,A8,A7,AZ,BA,BL,BU,CO,AC,AQ,AO,BD,AX,AL,AA,AY,BI,BC,I5,H7,JO,AB,FP,↓reduceIte,jA,jB,jC]
 cases f
 ·simp -implicitDefEqProofs only [BB,A8,BK,BJ,A7,CQ,CW,DY,AZ,BA,BL,BU,CO,F6,AC,AQ,AO,BD,AX,AL,AA,EG,AY,AU,BM,BC,CP,DL,↓reduceIte,jA,jB,jC]
  exact ⟨by rw [he]; rfl,trivial⟩
 simp -implicitDefEqProofs only [BL,BU,CO,EQ,AC,AQ,AO,BD,AX,AL,AA,AY,BO,BI,BX,BP,jF,jD,jE,↓reduceIte,jA,jB,jX,jC]
 refine (NV G hG.kw ⟨a.toArray⟩ h (by rw [szl]; omega)).use ?_
 simp -implicitDefEqProofs only [BJ,A7,AZ,BA,BL,BU,CO,EQ,AC,AQ,AO,BD,AX,AL,AA,AY,AU,BM,CP,DN,I5,AB,FP,↓reduceIte,jA,jB,jC]
 cases hna:G7 ⟨a.toArray⟩
 ·simp -implicitDefEqProofs only [BB,A8,BK,A7,CQ,CW,DY,AZ,BA,AC,AQ,AO,BD,AX,AL,AA,AU,BM,BC,↓reduceIte,jB,jC]
  exact ⟨by rw [he,hna]; rfl,trivial⟩
 simp -implicitDefEqProofs only [BB,CJ,A8,BQ,A7,EC,AZ,BA,AC,AQ,AO,BD,AX,AL,AU,BH,BI,jB,jX,jC]
 refine D8 (fun n F H => ∃ k,n+k=8∧(∀ j,j < k→j < 8→s≠elN ⟨a.toArray⟩ j)∧F 0 = .str s∧F 3 = .str ⟨a.toArray⟩∧F 22 = .int .i64 (k:Nat)∧H=h) 8 ⟨0,by simp,fun j hj=>absurd hj (by omega),by simp -implicitDefEqProofs only [AA,BF,↓reduceIte,jA],by simp -implicitDefEqProofs only [AA,↓reduceIte,jA],by simp -implicitDefEqProofs only [AA,↓reduceIte]; rfl,rfl⟩ ?_
 rintro n F H ⟨k,hk,hb,f0,f3,f22,rfl⟩
 simp -implicitDefEqProofs only [BB,A8,BJ,A7,AZ,BA,AC,AQ,AO,BD,AX,AL,AA,AY,AU,BH,BR,AB,DF,↓reduceIte,jB,jC,enP,f22]
 refine CS (fun hc => ?_) (fun hc => ?_)
 ·have hk':k < 8:=by simp at hc; omega
  simp -implicitDefEqProofs only [BB,CJ,A8,BQ,A7,AZ,BA,AC,AQ,AO,BD,AX,AL,AA,AY,BO,BI,BC,BX,BP,jF,jD,jE,↓reduceIte,jA,jB,jC,f0,f3,f22]
  refine (WU G ⟨a.toArray⟩ k hk' H (by rw [szl]; omega)).use ?_
  simp -implicitDefEqProofs only [BJ,A7,AZ,BA,AC,AQ,AO,BD,AX,AL,AA,AY,BR,AB,KW,↓reduceIte,jA,jB,jC,enP,f0]
  refine CS (fun hp => ?_) (fun hp => ?_)
  ·simp -implicitDefEqProofs only [BB,A8,BK,A7,CQ,D5,FV,CW,AZ,BA,AC,AQ,AO,BD,AX,AL,AA,AU,BM,BC,↓reduceIte,jB,jC]
   exact ⟨by rw [(XA _ _).1 hp,ABO hk' hna]; rfl,trivial⟩
  ·simp -implicitDefEqProofs only [A8,BQ,A7,EO,FK,AZ,BA,AC,AQ,AO,BD,AX,AL,AA,AY,AU,BH,BI,BR,AB,DZ,↓reduceIte,jA,jB,jC,enP,f22,wrap_succ (show k < 9223372036854775807 by omega)]
   refine ⟨n - 1,by omega,k+1,by omega,fun j hj h8 => ?_,by trivial,by trivial,rfl,trivial⟩
   rcases jT j k with h1 | h1
   ·exact hb j h1 h8
   ·obtain rfl:j=k:=by omega
    intro e
    rw [(XA _ _).2 e] at hp
    cases hp
 ·simp -implicitDefEqProofs only [BB,A8,BK,D6,A7,E5,FY,GG,CW,AZ,BA,AC,AQ,AO,BD,AX,AL,AA,AU,BM,BC,↓reduceIte,jB,jC]
  have hk':8≤k:=by simp at hc; omega
  refine ⟨?_,trivial⟩
  rcases hcase:JG s with _ | ⟨a',d⟩
  ·rfl
  ·exfalso
   obtain ⟨c1,c2,c3,c4,_⟩:=KU hcase
   rw [he,hna] at hcase
   have:a'=a:=by
    simp only [Bool.and_true,if_true] at hcase
    split at hcase
    ·split at hcase
     ·cases hcase; rfl
     ·cases hcase
    ·cases hcase
   subst this
   exact hb _ (by omega) c2 c4
theorem ASH {a:ByteArray} {k i:Nat} (hi:i < (elN a k).size) (h:i=a.size):(elN a k)[i]=91:=by
 subst h
 have h1:(elN a k).data.toList[a.size]? = some 91:=by
  rw [PD,List.getElem?_append_right (by show a.data.toList.length≤a.data.size; simp)]
  have:a.size - a.data.toList.length=0:=by show a.data.size - a.data.toList.length=0; simp
  rw [this]; rfl
 have h2:(elN a k).data[a.size]? = some 91:=by rw [← Array.getElem?_toList]; exact h1
 have hk':a.size < (elN a k).data.size:=hi
 rw [Array.getElem?_eq_getElem hk'] at h2
 exact Option.some.inj h2
theorem ACY (a:ByteArray) (k:Nat):(elN a k).extract 0 a.size=a:=by
 refine AAG ?_
 have:(elN a k)=⟨(a.data.toList ++ [91,UInt8.ofNat (48+k),93]).toArray⟩:=AAG (PD a k)
 rw [this]
 have e:a.size=a.data.toList.length:=(Array.length_toList (xs:=a.data)).symm
 rw [e,AIP]
theorem AKU (G:Nat→AV) (s:ByteArray) (h:Hp) (hl:s.size≤1048576):PCall (En G) 126 [.str s] h (.bool (II s)):=by
 refine acN Tryz.func126 rfl ?_
 show awp _ _ _ _ _ (EH _ [.tmp 2] _)
 simp -implicitDefEqProofs only [BB,A8,A7,AZ,BA,AC,AQ,AO,BD,AX,AL,AA,AY,AU,BO,BM,BI,BC,BX,BP,BF,jF,jD,jE,↓reduceIte,jA,jB,jC,enX,enP]
 refine (O3 G s h).use ?_
 cases hn:G7 s
 case true =>
  simp -implicitDefEqProofs only [BB,A8,BK,BJ,A7,CQ,CW,DY,AZ,BA,AC,AQ,AO,BD,AX,AL,AA,AY,AU,BM,BC,↓reduceIte,jB,jC]
  exact ⟨by unfold II; rw [hn,qF],trivial⟩
 have hv:II s=(JG s).isSome:=by unfold II; rw [hn,jO]
 rw [hv]
 clear hn hv
 simp -implicitDefEqProofs only [BB,CJ,A8,BQ,BJ,A7,EC,AZ,BA,AC,AQ,AO,BD,AX,AL,AA,AY,AU,BH,BC,↓reduceIte,jB,jC]
 refine D8 (fun n F H => ∃ k,1≤k∧n+k=s.size+1∧(∀ a j,j < 8→G7 a=true→a.size < k→s≠elN a j)∧F 0 = .str s∧F 3 = .int .i64 (k:Nat)∧H=h) s.size ⟨1,by omega,by omega,fun a j hj ha hs e => ?_,by simp -implicitDefEqProofs only [AA,BF,↓reduceIte,jA],by simp -implicitDefEqProofs only [AA,↓reduceIte]; rfl,rfl⟩ ?_
 ·have:=(PW (l:=a.data.toList) (by rw [AFM]; exact ha)).1
  have h2:a.data.toList.length=a.size:=Array.length_toList
  have:=List.length_pos_iff.2 this
  omega
 rintro n F H ⟨k,hk1,hk,hb,f0,f3,rfl⟩
 simp -implicitDefEqProofs only [BB,A8,BJ,A7,AZ,BA,AC,AQ,AO,BD,AX,AL,AA,AY,BI,BR,FH,AB,DF,↓reduceIte,jA,jB,jC,enP,ln9,f0,f3]
 refine CS (fun hc => ?_) (fun hc => ?_)
 ·have hk':k < s.size:=by simpa using hc
  have hnext : ∀ F':Fr,F' 0 = .str s→F' 3 = .int .i64 (k:Nat)→(∀ a j,j < 8→G7 a=true→a.size=k→s≠elN a j)→∃ m,m < n∧∃ k',1≤k'∧m+k'=s.size+1∧(∀ a j,j < 8→G7 a=true→a.size < k'→s≠elN a j)∧k'=k+1:=fun F' _ _ hk2 =>
   ⟨n - 1,by omega,k+1,by omega,by omega,fun a j hj ha hs=>by
    rcases jT a.size k with h1 | h1
    ·exact hb a j hj ha h1
    ·exact hk2 a j hj ha (by omega),rfl⟩
  simp -implicitDefEqProofs only [BB,CJ,A8,BQ,A7,AZ,BL,BU,CO,AC,AQ,AO,BD,AX,AL,AA,AY,AU,BH,BI,BR,J5,AB,FU,↓reduceIte,jA,jB,jC,enP,f0,f3,ix9 s k .i64 hk']
  refine IK (fun hx => ?_) (fun hx => ?_)
  ·simp -implicitDefEqProofs only [A8,D6,BJ,A7,E5,FY,FK,DY,AZ,BA,BL,BU,CO,F6,AC,AQ,AO,BD,AX,AL,AA,EG,AY,AU,BH,BM,BI,BC,CP,DL,BR,AB,DZ,↓reduceIte,jA,jB,jC,enP,hx,f3,wrap_succ (show k < 9223372036854775807 by omega)]
   obtain ⟨m,hm,k',h1,h2,h3,rfl⟩:=hnext F f0 f3 (fun a j hj ha hs e=>by
    subst e
    rw [ASH hk' hs.symm] at hx
    revert hx; decide)
   exact ⟨m,hm,k+1,h1,h2,h3,by trivial,rfl,trivial⟩
  simp -implicitDefEqProofs only [qM,Option.map_none,BL,BU,CO,EQ,AC,AQ,AO,BD,AX,AL,AA,AY,BO,BI,NK,BX,BP,AB,jF,jD,jE,↓reduceIte,jA,jB,jC,enP,hx,f0,f3,YV (Nat.le_of_lt hk')]
  refine (O3 G (s.extract 0 k) _).use ?_
  simp -implicitDefEqProofs only [BJ,A7,AZ,BA,BL,BU,CO,EQ,AC,AQ,AO,BD,AX,AL,AA,AY,AU,BM,CP,DN,I5,AB,FP,↓reduceIte,jA,jB,jC,hx]
  refine CS (fun hy => ?_) (fun hy => ?_)
  ·simp -implicitDefEqProofs only [A8,D6,A7,E5,FY,FK,AZ,BA,AC,AQ,AO,BD,AX,AL,AA,AY,AU,BH,BI,BC,BR,AB,DZ,↓reduceIte,jA,jB,jC,enP,f3,wrap_succ (show k < 9223372036854775807 by omega)]
   obtain ⟨m,hm,k',h1,h2,h3,rfl⟩:=hnext F f0 f3 (fun a j hj ha hs e=>by
    subst e
    subst hs
    rw [ACY,ha] at hy
    cases hy)
   exact ⟨m,hm,k+1,h1,h2,h3,by trivial,rfl,trivial⟩
  have hna:G7 (s.extract 0 k)=true:=by simpa using hy
  simp -implicitDefEqProofs only [BB,CJ,A8,BQ,A7,AZ,BA,AC,AQ,AO,BD,AX,AL,AU,BH,BC,jB,jC]
  refine JC 2 (fun F' H'=>F' 0 = .str s∧F' 3 = .int .i64 (k:Nat)∧H'=H∧∀ j,j < 8→s≠elN (s.extract 0 k) j) (fun F' H'=>F' 2 = .bool (JG s).isSome∧H'=H) ?_ ?_ ?_
  ·refine D8 (fun n' F' H' => ∃ i,n'+i=8∧(∀ j,j < i→j < 8→s≠elN (s.extract 0 k) j)∧F' 0 = .str s∧F' 3 = .int .i64 (k:Nat)∧F' 4 = .int .i64 (i:Nat)∧H'=H) 8 ⟨0,by simp,fun j hj=>absurd hj (by omega),by simp -implicitDefEqProofs only [AA,↓reduceIte,jA,f0],by simp -implicitDefEqProofs only [AA,↓reduceIte,jA,f3],by simp -implicitDefEqProofs only [AA,↓reduceIte]; rfl,rfl⟩ ?_
   clear f0 f3
   rintro n' F H ⟨i,hi,hbi,f0,f3,f4,rfl⟩
   simp -implicitDefEqProofs only [BB,A8,BJ,A7,AZ,BA,AC,AQ,AO,BD,AX,AL,AA,AY,AU,BH,BI,BR,AB,DF,↓reduceIte,jB,jC,enP,f4]
   refine CS (fun hc => ?_) (fun hc => ?_)
   ·have hi':i < 8:=by simp at hc; omega
    simp -implicitDefEqProofs only [qM,Option.map_none,BB,CJ,A8,BQ,A7,AZ,AC,AQ,AO,BD,AX,AL,AA,AY,BO,BI,NK,BX,BP,AB,jF,jD,jE,↓reduceIte,jA,jB,jC,enP,f0,f3,f4,YV (Nat.le_of_lt hk')]
    refine (ZU G (s.extract 0 k) i hi' _ (by simp [ByteArray.size_extract]; omega)).use ?_
    simp -implicitDefEqProofs only [BJ,A7,AZ,BA,AC,AQ,AO,BD,AX,AL,AA,AY,BR,AB,KW,↓reduceIte,jA,jB,jC,enP]
    refine CS (fun hp => ?_) (fun hp => ?_)
    ·simp -implicitDefEqProofs only [BB,A8,BK,A7,CQ,D5,MR,FV,AZ,BA,AC,AQ,AO,BD,AX,AL,AA,AU,BM,BC,↓reduceIte,jB,jC]
     refine ⟨?_,trivial⟩
     have:=(XA _ _).1 hp
     rw [this,ABO hi' hna]; rfl
    ·simp -implicitDefEqProofs only [A8,BQ,A7,EO,FK,AZ,BA,AC,AQ,AO,BD,AX,AL,AA,AY,AU,BH,BI,BC,BR,AB,DZ,↓reduceIte,jA,jB,jC,enP,f4,wrap_succ (show i < 9223372036854775807 by omega)]
     refine ⟨n' - 1,by omega,i+1,by omega,fun j hj h8 => ?_,by trivial,by trivial,rfl,trivial⟩
     rcases jT j i with h1 | h1
     ·exact hbi j h1 h8
     ·obtain rfl:j=i:=by omega
      intro e
      rw [(XA _ _).2 e] at hp
      cases hp
   ·have hi':8≤i:=by simp at hc; omega
    simp -implicitDefEqProofs only [D6,E5,N8,GG,AA,↓reduceIte,jA]
    exact ⟨f0,f3,trivial,fun j hj=>hbi j (by omega) hj⟩
  ·rintro F' H' ⟨g0,g3,rfl,hno⟩
   simp -implicitDefEqProofs only [A8,A7,EO,FY,FK,AZ,BA,AC,AQ,AO,BD,AX,AL,AA,AY,AU,BH,BI,BC,BR,AB,DZ,↓reduceIte,jA,jB,jC,enP,g3,wrap_succ (show k < 9223372036854775807 by omega)]
   obtain ⟨m,hm,k',h1,h2,h3,rfl⟩:=hnext F' g0 g3 (fun a j hj ha hs e=>by
    refine hno j hj ?_
    rw [e,← hs,ACY])
   exact ⟨m,hm,k+1,h1,h2,h3,by first | exact g0 | trivial,rfl,trivial⟩
  ·rintro F' H' ⟨g2,rfl⟩
   simp -implicitDefEqProofs only [CQ,D5,FV,CW,g2]
   exact ⟨trivial,trivial⟩
 ·have hk' : ¬ k < s.size:=by simpa using hc
  simp -implicitDefEqProofs only [BB,A8,BK,D6,A7,E5,FY,GG,CW,AZ,BA,AC,AQ,AO,BD,AX,AL,AA,AU,BM,BC,↓reduceIte,jB,jC]
  refine ⟨?_,trivial⟩
  rcases hcase:JG s with _ | ⟨a,d⟩
  ·rfl
  ·exfalso
   obtain ⟨c1,c2,c3,c4,c5⟩:=KU hcase
   refine hb ⟨a.toArray⟩ _ c2 c3 ?_ c4
   rw [szl]; omega
def NW (l:List Vr) (s:ByteArray):Bool:=match JG s with
 | some (a,d)=>decide (1≤d.toNat - 48) && decide (plc l (elN ⟨a.toArray⟩ (d.toNat - 48 - 1)) < 0)
 | none=>false
theorem AM6 {s:ByteArray} (h:G7 s=true):(Lib.cut s.data.toList [91]).2.2=false:=by
 obtain ⟨_,hne⟩:=PW (l:=s.data.toList) (by rw [AFM]; exact h)
 have:Lib.index s.data.toList [91] = -1:=Lib.index_none fun j _=>by
  rw [← Bool.not_eq_true]
  intro ho
  have:=Lib.occAt_head rfl ho
  exact hne 91 (zD this) rfl
 unfold Lib.cut
 rw [this,if_neg (by omega)]
theorem AM7 {s:ByteArray} {a:List UInt8} {d:UInt8} (h:JG s=some (a,d)):(Lib.cut s.data.toList [91]).1=a∧(Lib.cut s.data.toList [91]).2.2=true:=by
 rw [ZV] at h
 split at h
 case isFalse=>cases h
 rename_i hc
 split at h
 case h_2=>cases h
 split at h
 case isFalse=>cases h
 cases h
 exact ⟨rfl,(Bool.and_eq_true_iff.1 hc).1⟩
theorem AMK (G:Nat→AV) (hG:GOk G) (l:List Vr) (m:SM) (s:ByteArray) (h:Hp) (hl:l.length≤1099511627776) (hs:s.size≤1048576) (hv:II s=true):PCall (En G) 107 [.sl m 4 (l.map FC),.str s] h (.bool (NW l s)):=by
 refine acN Tryz.func107 rfl ?_
 show awp _ _ _ _ _ (EH _ [.tmp 4] _)
 simp -implicitDefEqProofs only [BB,A8,A7,AZ,BA,AC,AQ,AO,BD,AX,AL,AA,AY,AU,BO,BM,GN,BI,BC,BX,BP,BF,CE,jF,jD,jE,↓reduceIte,jA,jB,jC,enX,enP]
 refine (Z5 G hG s h hs).use ?_
 unfold cutV
 rcases hcase:JG s with _ | ⟨a,d⟩
 ·have hn:G7 s=true:=by
   unfold II at hv; rw [hcase] at hv; simpa using hv
  have hg:NW l s=false:=by unfold NW; rw [hcase]
  rw [AM6 hn,hg]
  simp -implicitDefEqProofs only [zG,zK,BB,A8,BK,BJ,A7,CQ,CW,DY,AZ,BA,AC,AQ,AO,BD,AX,AL,AA,AY,AU,BM,BI,BC,I5,H7,JO,AB,FP,↓reduceIte,jA,jB,jC]
  exact ⟨trivial,trivial⟩
 obtain ⟨e1,e2⟩:=AM7 hcase
 obtain ⟨c1,c2,c3,c4,c5⟩:=KU hcase
 have hg:NW l s=(decide (1≤d.toNat - 48) && decide (plc l (elN ⟨a.toArray⟩ (d.toNat - 48 - 1)) < 0)):=by unfold NW; rw [hcase]
 rw [e1,e2,hg]
 clear hg hcase e1 e2
 generalize d.toNat - 48=q at c2 c4 ⊢
 simp -implicitDefEqProofs only [zG,zK,BB,CJ,A8,BQ,BJ,A7,EC,AZ,BA,AC,AQ,AO,BD,AX,AL,AA,AY,AU,BH,BI,BC,I5,H7,JO,AB,FP,↓reduceIte,jA,jB,jX,jC]
 refine D8 (fun n F H => ∃ k,n+k=8∧1≤k∧(∀ j,1≤j→j < k→j≠q)∧F 0 = .sl m 4 (l.map FC)∧F 1 = .str s∧F 5 = .str ⟨a.toArray⟩∧F 8 = .int .i64 (k:Nat)∧H=h) 7 ⟨1,by simp,by omega,fun j h1 h2=>absurd h2 (by omega),by simp -implicitDefEqProofs only [AA,BF,↓reduceIte,jA],by simp -implicitDefEqProofs only [AA,BF,CE,↓reduceIte,jA],by simp -implicitDefEqProofs only [AA,↓reduceIte,jA],by simp -implicitDefEqProofs only [AA,↓reduceIte]; rfl,rfl⟩ ?_
 rintro n F H ⟨k,hk,hk1,hb,f0,f1,f5,f8,rfl⟩
 simp -implicitDefEqProofs only [BB,A8,BJ,A7,AZ,BA,AC,AQ,AO,BD,AX,AL,AA,AY,AU,BH,BI,BR,AB,DF,↓reduceIte,jB,jC,enP,f8]
 refine CS (fun hc => ?_) (fun hc => ?_)
 ·have hk':k < 8:=by simp at hc; omega
  simp -implicitDefEqProofs only [BB,CJ,A8,BQ,A7,AZ,AC,AQ,AO,BD,AX,AL,AA,AY,BO,BI,BX,BP,jF,jD,jE,↓reduceIte,jA,jB,jC,f1,f5,f8]
  refine (WU G ⟨a.toArray⟩ k hk' H (by rw [szl]; omega)).use ?_
  simp -implicitDefEqProofs only [BJ,A7,AZ,BA,AC,AQ,AO,BD,AX,AL,AA,AY,BR,AB,KW,↓reduceIte,jA,jB,jC,enP,f1]
  refine CS (fun hp => ?_) (fun hp => ?_)
  ·have hq:k=q:=by
    have:=(XA _ _).1 hp
    rw [c4] at this
    exact (AIS c2 hk' this).symm
   have hw:IntKind.i64.wrap (((k:Nat):Int) - 1)=((k - 1:Nat):Int):=by rw [wrap_i64 (by omega) (by omega)]; omega
   simp -implicitDefEqProofs only [BB,A8,AZ,AC,AQ,AO,BD,AX,AL,AA,AY,AU,BO,BH,BI,BR,BX,BP,AB,JJ,jF,jD,jE,↓reduceIte,jA,jB,jC,enP,f0,f5,f8,hw]
   refine (WU G ⟨a.toArray⟩ (k - 1) (by omega) H (by rw [szl]; omega)).use ?_
   simp -implicitDefEqProofs only [AZ,AC,AQ,AO,BD,AX,AL,AA,AY,BO,BX,BP,jF,jD,jE,↓reduceIte,jA,jB,jC,f0]
   refine (index_prog G l m _ H hl).use ?_
   simp -implicitDefEqProofs only [BK,A7,CQ,D5,FV,CW,AZ,BA,AC,AQ,AO,BD,AX,AL,AA,AY,AU,BH,BC,BR,AB,DF,↓reduceIte,jB,jC,enP]
   refine ⟨?_,trivial⟩
   rw [← hq,decide_eq_true hk1,Bool.true_and]
  ·simp -implicitDefEqProofs only [A8,BQ,A7,EO,FK,AZ,BA,AC,AQ,AO,BD,AX,AL,AA,AY,AU,BH,BI,BC,BR,AB,DZ,↓reduceIte,jA,jB,jC,enP,f8,wrap_succ (show k < 9223372036854775807 by omega)]
   refine ⟨n - 1,by omega,k+1,by omega,by omega,fun j h1 h2 => ?_,by trivial,by trivial,by trivial,rfl,trivial⟩
   rcases jT j k with h3 | h3
   ·exact hb j h1 h3
   ·obtain rfl:j=k:=by omega
    intro e
    rw [(XA _ _).2 (by rw [c4,e])] at hp
    cases hp
 ·simp -implicitDefEqProofs only [BB,A8,BK,D6,A7,E5,FY,GG,CW,AZ,BA,AC,AQ,AO,BD,AX,AL,AA,AU,BM,BC,↓reduceIte,jB,jC]
  have hk':8≤k:=by simp at hc; omega
  refine ⟨?_,trivial⟩
  have : ¬ 1≤q:=fun h1=>hb q h1 (by omega) rfl
  rw [decide_eq_false this,Bool.false_and]
theorem ANI {s:ByteArray} {k:Nat} (hk:k < s.size):s.data.toList[k]? = some s[k]:=by
 have h2:s.data[k]? = some s[k]:=Array.getElem?_eq_getElem hk
 rw [Array.getElem?_toList]; exact h2
theorem AUQ {s:ByteArray} (hv:II s=true) {k:Nat} (hk:k < s.size) (hb:s[k]=91) : ∃ a d,JG s=some (a,d)∧k=a.length∧s.extract 0 k=⟨a.toArray⟩:=by
 have hg:=ANI hk
 rw [hb] at hg
 rcases hcase:JG s with _ | ⟨a,d⟩
 ·exfalso
  have hn:G7 s=true:=by unfold II at hv; rw [hcase] at hv; simpa using hv
  exact (PW (l:=s.data.toList) (by rw [AFM]; exact hn)).2 91 (zD hg) rfl
 ·obtain ⟨c1,c2,c3,c4,c5⟩:=KU hcase
  refine ⟨a,d,rfl,?_⟩
  have hna:=(PW c3).2
  rw [c4,PD] at hg
  have hkk:k=a.length:=by
   rcases Nat.lt_trichotomy k a.length with h1 | h1 | h1
   ·exfalso
    rw [List.getElem?_append_left (by simpa using h1)] at hg
    exact hna 91 (zD hg) rfl
   ·exact h1
   ·exfalso
    rw [List.getElem?_append_right (by simp; omega)] at hg
    simp only at hg
    obtain ⟨j,hj⟩ : ∃ j,k - a.length=j+1:=⟨k - a.length - 1,by omega⟩
    rw [hj,zK] at hg
    have:j=0∨j=1:=by omega
    rcases this with rfl | rfl
    ·simp only [zG,Option.some.injEq] at hg
     have:=congrArg UInt8.toNat hg
     rw [AC0 c2] at this
     have h91:(91:UInt8).toNat=91:=rfl
     omega
    ·simp only [zK,zG,Option.some.injEq] at hg
     exact absurd hg (by decide)
  refine ⟨hkk,?_⟩
  have:=ACY ⟨a.toArray⟩ (d.toNat - 48)
  rw [szl,← c4,← hkk] at this
  exact this
theorem APH (G:Nat→AV) (l:List Vr) (m:SM) (h:Hp) (hl:l.length≤1048576) (hv : ∀ v∈l,II v.name=true∧v.name.size≤1048576):PCall (En G) 85 [.sl m 4 (l.map FC)] h (.bool (l.any fun v=>NW l v.name)):=by
 refine acN Tryz.func85 rfl ?_
 show awp _ _ _ _ _ (EH _ [.tmp 2] _)
 simp -implicitDefEqProofs only [BB,CJ,A8,A7,AZ,BA,AC,AQ,AO,BD,AX,AL,AU,BH,BM,BC,jB,jC,enX,enP]
 refine D8 (fun n F H => ∃ i,n+i=l.length∧(∀ (j:Nat) (hj:j < i) (hl:j < l.length),NW l l[j].name=false)∧F 0 = .sl m 4 (l.map FC)∧F 3 = .int .i64 (i:Nat)∧H=h) l.length ⟨0,by simp,fun j hj=>absurd hj (by omega),by simp -implicitDefEqProofs only [AA,BF,↓reduceIte,jA],by simp -implicitDefEqProofs only [AA,↓reduceIte]; rfl,rfl⟩ ?_
 rintro n F H ⟨i,hi,hb,f0,f3,rfl⟩
 simp -implicitDefEqProofs only [BB,A8,BJ,A7,AZ,BA,AC,AQ,AO,BD,AX,AL,AA,AY,BI,BR,FH,AB,DF,↓reduceIte,jA,jB,jC,enP,QA,f0,f3,jM]
 refine CS (fun hc => ?_) (fun hc => ?_)
 ·have hi':i < l.length:=by simpa using hc
  obtain ⟨hvi,hsz⟩:=hv _ (jS hi')
  have l0:DI Tryz.prog H 9 (.fptr 4 (l.map FC) i 0)=some (.str l[i].name):=by rw [GR ag9 hi']; rfl
  have hany:NW l l[i].name=true→(l.any fun v=>NW l v.name)=true:=fun hg=>List.any_eq_true.2 ⟨_,jS hi',hg⟩
  generalize hs:l[i].name=s at hvi hsz l0 hany
  simp -implicitDefEqProofs only [BB,CJ,A8,BQ,A7,AZ,BA,AC,AQ,AO,BD,AX,AL,AU,BH,BC,jB,jC]
  refine JC 2 (fun F' H'=>F' 0 = .sl m 4 (l.map FC)∧F' 3 = .int .i64 (i:Nat)∧H'=H∧NW l s=false) (fun F' H'=>F' 2 = .bool (l.any fun v=>NW l v.name)∧H'=H) ?_ ?_ ?_
  ·refine D8 (fun n' F' H' => ∃ k,1≤k∧n'+k=s.size+1∧(∀ a d,JG s=some (a,d)→a.length < k→NW l s=false)∧F' 0 = .sl m 4 (l.map FC)∧F' 3 = .int .i64 (i:Nat)∧F' 4 = .int .i64 (k:Nat)∧H'=H) s.size ⟨1,by omega,by omega,fun a d ha h1 => ?_,by simp -implicitDefEqProofs only [AA,↓reduceIte,jA,f0],by simp -implicitDefEqProofs only [AA,↓reduceIte,jA,f3],by simp -implicitDefEqProofs only [AA,↓reduceIte]; rfl,rfl⟩ ?_
   ·exfalso
    have:=(PW (KU ha).2.2.1).1
    have:=List.length_pos_iff.2 this
    omega
   clear f0 f3
   rintro n' F H ⟨k,hk1,hk,hbk,f0,f3,f4,rfl⟩
   simp -implicitDefEqProofs only [BB,A8,BJ,A7,AZ,BA,AC,AQ,AO,BD,AX,AL,AA,AY,BI,BN,BR,BG,CU,FH,AB,DF,↓reduceIte,jA,jI,jB,jC,enP,ln9,RS,N9,f0,f3,f4,EJ hi',l0]
   refine CS (fun hc => ?_) (fun hc => ?_)
   ·have hk':k < s.size:=by simpa using hc
    simp -implicitDefEqProofs only [BB,CJ,A8,BQ,BJ,A7,AZ,BA,AC,AQ,AO,BD,AX,AL,AA,AY,AU,BH,BI,BN,BR,BG,CU,J5,AB,FU,↓reduceIte,jA,jI,jB,jC,enP,RS,N9,f0,f3,f4,EJ hi',l0,ix9 s k .i64 hk']
    refine CS (fun hx => ?_) (fun hx => ?_)
    ·simp -implicitDefEqProofs only [A8,D6,A7,E5,FY,FK,AZ,BA,AC,AQ,AO,BD,AX,AL,AA,AY,AU,BH,BI,BC,BR,AB,DZ,↓reduceIte,jA,jB,jC,enP,f4,wrap_succ (show k < 9223372036854775807 by omega)]
     refine ⟨n' - 1,by omega,k+1,by omega,by omega,fun a d ha h1 => ?_,f0,f3,rfl,trivial⟩
     rcases jT a.length k with h2 | h2
     ·exact hbk a d ha h2
     ·exfalso
      obtain ⟨c1,c2,c3,c4,c5⟩:=KU ha
      have h3:s[k]=91:=by
       have h4:s.data.toList[k]? = some 91:=by
        rw [c4,PD,List.getElem?_append_right (by simp; omega)]
        have:k - (⟨a.toArray⟩:ByteArray).data.toList.length=0:=by simp; omega
        rw [this]; rfl
       rw [ANI hk'] at h4
       exact Option.some.inj h4
      rw [h3] at hx
      revert hx; decide
    have hbr:s[k]=91:=by
     have h0:((s[k].toNat:Int) == 91)=true:=by
      simpa [bne] using hx
     have h1:(s[k].toNat:Int)=91:=by simpa using h0
     exact UInt8.toNat_inj.1 (by show _=91; omega)
    obtain ⟨a,d,ha,hka,hext⟩:=AUQ hvi hk' hbr
    obtain ⟨c1,c2,c3,c4,c5⟩:=KU ha
    have hgv:NW l s=(decide (1≤d.toNat - 48) && decide (plc l (elN ⟨a.toArray⟩ (d.toNat - 48 - 1)) < 0)):=by unfold NW; rw [ha]
    have hasz:(⟨a.toArray⟩:ByteArray).size≤1048576:=by rw [szl]; omega
    generalize d.toNat - 48=q at c2 c4 hgv
    simp -implicitDefEqProofs only [BB,CJ,A8,BQ,A7,AZ,BA,AC,AQ,AO,BD,AX,AL,AU,BH,BC,jB,jC]
    refine JC 4 (fun F' H'=>F' 0 = .sl m 4 (l.map FC)∧F' 3 = .int .i64 (i:Nat)∧F' 4 = .int .i64 (k:Nat)∧H'=H∧NW l s=false) (fun F' H'=>F' 2 = .bool (l.any fun v=>NW l v.name)∧H'=H) ?_ ?_ ?_
    ·refine D8 (fun n2 F' H' => ∃ t,1≤t∧n2+t=8∧(1≤q→q < t→NW l s=false)∧F' 0 = .sl m 4 (l.map FC)∧F' 3 = .int .i64 (i:Nat)∧F' 4 = .int .i64 (k:Nat)∧F' 5 = .int .i64 (t:Nat)∧H'=H) 7 ⟨1,by omega,by omega,fun h1 h2=>absurd h2 (by omega),by simp -implicitDefEqProofs only [AA,↓reduceIte,jA,f0],by simp -implicitDefEqProofs only [AA,↓reduceIte,jA,f3],by simp -implicitDefEqProofs only [AA,↓reduceIte,jA,f4],by simp -implicitDefEqProofs only [AA,↓reduceIte]; rfl,rfl⟩ ?_
     clear f0 f3 f4
     rintro n2 F H ⟨t,ht1,ht,hbt,f0,f3,f4,f5,rfl⟩
     simp -implicitDefEqProofs only [BB,A8,BJ,A7,AZ,BA,AC,AQ,AO,BD,AX,AL,AA,AY,AU,BH,BI,BR,AB,DF,↓reduceIte,jB,jC,enP,f5]
     refine CS (fun hc => ?_) (fun hc => ?_)
     ·have ht':t < 8:=by simp at hc; omega
      have hw:IntKind.i64.wrap (((t:Nat):Int) - 1)=((t - 1:Nat):Int):=by rw [wrap_i64 (by omega) (by omega)]; omega
      simp -implicitDefEqProofs only [BB,CJ,BQ,A7]
      refine EZ (by kernel_rfl) ?_
      simp -implicitDefEqProofs only [FD,qM,Option.map_none,DR,CZ,DU,ES,ED,IJ,VF,DK,FI,EP,EF,AC,AA,AY,BO,BN,BR,NK,BG,CU,AB,jF,jD,jE,↓reduceIte,jA,jK,jI,jB,enP,RS,N9,f0,f3,f4,f5,EJ hi',l0,YV (Nat.le_of_lt hk'),hext]
      refine ⟨_,ZU G ⟨a.toArray⟩ t ht' _ hasz,?_⟩
      simp -implicitDefEqProofs only [FD,DR,CZ,DU,D7,EW,ES,CO,AC,AA,AY,AB,KW,↓reduceIte,jK,jB]
      have nxt:NW l s=false∨t≠q→∃ m',m' < n2∧∃ t',1≤t'∧m'+t'=8∧(1≤q→q < t'→NW l s=false)∧t'=t+1:=fun hh =>
       ⟨n2 - 1,by omega,t+1,by omega,by omega,fun h1 h2=>by
        rcases hh with hh | hh
        ·exact hh
        ·exact hbt h1 (by omega),rfl⟩
      refine PM (fun hp => ?_) (fun hp => ?_)
      ·have hq:t=q:=by
        have:=(XA _ _).1 hp
        rw [c4] at this
        exact (AIS c2 ht' this).symm
       simp -implicitDefEqProofs only [FD,qM,Option.map_none,DR,CZ,D7,EW,PL,ES,ED,IJ,VF,DK,FI,EP,EF,CO,AC,AA,AY,AU,BO,BH,BN,BR,NK,BG,CU,AB,JJ,jF,jD,jE,↓reduceIte,jA,jK,jI,jB,enP,RS,N9,hp,f0,f3,f4,f5,EJ hi',l0,YV (Nat.le_of_lt hk'),hext,hw]
       refine ⟨_,ZU G ⟨a.toArray⟩ (t - 1) (by omega) _ hasz,?_⟩
       try simp -implicitDefEqProofs only [hp]
       refine ⟨_,U5 G l m _ _ (by omega),?_⟩
       simp -implicitDefEqProofs only [FD,DR,CZ,D9,DU,FZ,BJ,A7,AC,AA,AY,AU,BM,CP,DL,AB,DF,↓reduceIte,jA,jK,jB,hp]
       refine CS (fun hz => ?_) (fun hz => ?_)
       ·simp -implicitDefEqProofs only [BB,A8,BK,A7,CQ,D5,MR,FV,AZ,BA,AC,AQ,AO,BD,AX,AL,AA,AU,BM,BC,↓reduceIte,jB,jC]
        refine ⟨?_,trivial⟩
        rw [hany]
        rw [hgv,← hq,decide_eq_true ht1,hz]; rfl
       ·simp -implicitDefEqProofs only [A8,BQ,A7,EO,FK,AZ,BA,AC,AQ,AO,BD,AX,AL,AA,AY,AU,BH,BI,BC,BR,AB,DZ,↓reduceIte,jA,jB,jC,enP,f5,wrap_succ (show t < 9223372036854775807 by omega)]
        obtain ⟨m',hm,t',h1,h2,h3,rfl⟩:=nxt (.inl (by rw [hgv,← hq,hz,Bool.and_false]))
        exact ⟨m',hm,t+1,h1,h2,h3,f0,f3,f4,rfl,trivial⟩
      ·simp -implicitDefEqProofs only [FD,DR,CZ,D9,DU,D7,EW,RN,FZ,A8,BQ,BJ,A7,EO,FK,EC,AZ,BA,CO,AC,AQ,AO,BD,AX,AL,AA,EG,AY,AU,BH,BM,BI,BC,CP,DN,BR,AB,DZ,↓reduceIte,jA,jK,jB,jC,enP,hp,f5,wrap_succ (show t < 9223372036854775807 by omega)]
       obtain ⟨m',hm,t',h1,h2,h3,rfl⟩:=nxt (.inr (fun e=>by
        rw [(XA _ _).2 (by rw [c4,e])] at hp
        cases hp))
       exact ⟨m',hm,t+1,h1,h2,h3,f0,f3,f4,rfl,trivial⟩
     ·have ht':8≤t:=by simp at hc; omega
      simp -implicitDefEqProofs only [D6,E5,N8,GG,AA,↓reduceIte,jA]
      refine ⟨f0,f3,f4,trivial,?_⟩
      rcases jT q 1 with h1 | h1
      ·rw [hgv,decide_eq_false (by omega),Bool.false_and]
      ·exact hbt h1 (by omega)
    ·rintro F' H' ⟨g0,g3,g4,rfl,hno⟩
     simp -implicitDefEqProofs only [A8,A7,EO,FY,FK,AZ,BA,AC,AQ,AO,BD,AX,AL,AA,AY,AU,BH,BI,BC,BR,AB,DZ,↓reduceIte,jA,jB,jC,enP,g4,wrap_succ (show k < 9223372036854775807 by omega)]
     exact ⟨n' - 1,by omega,k+1,by omega,by omega,fun _ _ _ _=>hno,g0,g3,rfl,trivial⟩
    ·rintro F' H' ⟨g2,rfl⟩
     simp -implicitDefEqProofs only [CQ,D5,MR,FV,g2]
     exact ⟨trivial,trivial⟩
   ·have hk' : ¬ k < s.size:=by simpa using hc
    simp -implicitDefEqProofs only [D6,E5,N8,GG,AA,↓reduceIte,jA]
    refine ⟨f0,f3,trivial,?_⟩
    rcases hcase:JG s with _ | ⟨a,d⟩
    ·unfold NW; rw [hcase]
    ·exact hbk a d hcase (by have:=(KU hcase).2.2.2.2; omega)
  ·rintro F' H' ⟨g0,g3,rfl,hno⟩
   simp -implicitDefEqProofs only [A8,A7,EO,FY,FK,AZ,BA,AC,AQ,AO,BD,AX,AL,AA,AY,AU,BH,BI,BC,BR,AB,DZ,↓reduceIte,jA,jB,jC,enP,g3,wrap_succ (show i < 9223372036854775807 by omega)]
   refine ⟨n - 1,by omega,i+1,by omega,fun j hj hl => ?_,g0,rfl,trivial⟩
   rcases jT j i with h1 | h1
   ·exact hb j h1 hl
   ·obtain rfl:j=i:=by omega
    rw [hs]; exact hno
  ·rintro F' H' ⟨g2,rfl⟩
   simp -implicitDefEqProofs only [CQ,D5,FV,CW,g2]
   exact ⟨trivial,trivial⟩
 ·simp -implicitDefEqProofs only [BB,A8,BK,D6,A7,E5,FY,GG,CW,AZ,BA,AC,AQ,AO,BD,AX,AL,AA,AU,BM,BC,↓reduceIte,jB,jC]
  have hi' : ¬ i < l.length:=by simpa using hc
  refine ⟨?_,trivial⟩
  have:(l.any fun v=>NW l v.name)=false:=by
   rw [List.any_eq_false]
   intro v hv
   obtain ⟨j,hj,rfl⟩:=qC hv
   rw [hb j (by omega) hj]; decide
  rw [this]
def NE {α:Type} (f:α→Int):List α→Int
 | []=>0
 | x :: r=>if f x≠0 then f x else NE f r
theorem O6 {α:Type} (f:α→Int) : ∀ (xs:List α) (k:Nat) (hk:k < xs.length),(∀ (j:Nat) (hj:j < k),f (xs[j]'(by omega))=0)→f xs[k]≠0→NE f xs=f xs[k]
 | x :: r,0,_,_,h=>by
   have h:f x≠0:=h
   show (if f x≠0 then f x else NE f r)=f x
   rw [if_pos h]
 | x :: r,k+1,hk,hb,h=>by
   have h0:f x=0:=hb 0 (by omega)
   have ih:=O6 f r k (by simpa using hk) (fun j hj=>hb (j+1) (by omega)) h
   show (if f x≠0 then f x else NE f r)=f (r[k]'(by simpa using hk))
   rw [if_neg (by simp [h0]),ih]
theorem ND {α:Type} (f:α→Int) : ∀ xs:List α,(∀ (j:Nat) (hj:j < xs.length),f xs[j]=0)→NE f xs=0
 | [],_=>rfl
 | x :: r,hb=>by
   have h0:f x=0:=hb 0 (by simp)
   show (if f x≠0 then f x else NE f r)=0
   rw [if_neg (by simp [h0]),ND f r fun j hj=>hb (j+1) (by simpa using hj)]
theorem OV {α:Type} {f:α→Int} : ∀ {xs:List α},NE f xs=0→∀ x∈xs,f x=0
 | y :: r,h,x,hx=>by
   have h1:(if f y≠0 then f y else NE f r)=0:=h
   split at h1
   ·rename_i hy; exact absurd h1 hy
   ·rename_i hy
    rcases List.mem_cons.1 hx with rfl | hx
    ·simpa using hy
    ·exact OV h1 x hx
def KI (v:Vr):Bool:=decide (v.width < 1) || decide (v.width > 8) || decide (v.mode < 0) || decide (v.mode > 2) || decide (v.value < 0) || decide (v.value≥2 ^ v.width.toNat) || (!(v.mode == 0) && !(v.value == 0))
def vrE (v:Vr):Int:=if II v.name=true then if KI v=true then 1 else 0 else 7
theorem ATJ : ∀ n:Nat,n≤8→G6 Tryz.prog 3 .shl (.int .i64 1) (.int .i64 (n:Nat))=some (.int .i64 (2 ^ n))
 | 0,_=>by kernel_rfl
 | 1,_=>by kernel_rfl
 | 2,_=>by kernel_rfl
 | 3,_=>by kernel_rfl
 | 4,_=>by kernel_rfl
 | 5,_=>by kernel_rfl
 | 6,_=>by kernel_rfl
 | 7,_=>by kernel_rfl
 | 8,_=>by kernel_rfl
 | n+9,h=>absurd h (by omega)
theorem AQP {w:Int} (h0 : ¬ w < 1) (h1 : ¬ w > 8):G6 Tryz.prog 3 .shl (.int .i64 1) (.int .i64 w)=some (.int .i64 (2 ^ w.toNat)):=by
 obtain ⟨n,rfl⟩:=Int.eq_ofNat_of_zero_le (by omega:0≤w)
 exact ATJ n (by omega)
theorem AB7 (G:Nat→AV) (v:Vr) (h:Hp) (hs:v.name.size≤1048576):PCall (En G) 83 [.agg (FC v)] h (.int .i64 (vrE v)):=by
 refine ACalls.pure0 rfl ?_
 refine acN Tryz.func83 rfl ?_
 show awp _ _ _ _ _ (EH _ [.tmp 2] _)
 simp -implicitDefEqProofs only [BB,A8,A7,AZ,BA,AC,AQ,AO,BD,AX,AL,AA,AY,AU,BO,BH,BC,FN,BN,BG,BX,BP,BV,AB,BF,jF,jD,jE,↓reduceIte,jA,jI,jB,jC,enP,N9,bxV,EE ag9,AM2]
 refine (AKU G v.name _ hs).use ?_
 cases hn:II v.name
 ·simp -implicitDefEqProofs only [BB,A8,BK,BJ,A7,CQ,CW,DY,AZ,BA,AC,AQ,AO,BD,AX,AL,AA,AY,AU,BH,BC,I5,AB,FP,↓reduceIte,jB,jC]
  exact ⟨by unfold vrE; rw [hn]; rfl,_,rfl⟩
 simp -implicitDefEqProofs only [BB,A8,BQ,BJ,A7,EC,AZ,BA,BL,BU,CO,AC,AQ,AO,BD,AX,AL,AA,AY,AU,BH,BI,BN,BR,I5,BG,AB,DF,FP,↓reduceIte,jA,jG,jB,jX,jC,enP,L8,EE ag3,AM1]
 have fin : ∀ b,KI v=b→vrE v=if b=true then 1 else 0:=fun b hb=>by unfold vrE; rw [hn,hb]; rfl
 cases b1:decide (v.width < 1)
 case true =>
  simp -implicitDefEqProofs only [BB,A8,BK,BJ,A7,CQ,CW,DY,AZ,BA,BL,BU,CO,F6,AC,AQ,AO,BD,AX,AL,AA,EG,AY,AU,BH,BM,BI,BC,CP,DL,↓reduceIte,jA,jB,jC,b1]
  exact ⟨by rw [fin true (by unfold KI; rw [b1]; simp)]; rfl,_,rfl⟩
 simp -implicitDefEqProofs only [AZ,BL,BU,CO,EQ,AC,AQ,AO,BD,AX,AL,AA,AY,AU,BH,BM,BI,CP,DN,BN,BR,BG,AB,E8,↓reduceIte,jA,jG,jB,jC,enP,L8,b1,EE ag3,AM1]
 cases b2:decide (v.width > 8)
 case true =>
  simp -implicitDefEqProofs only [BB,A8,BK,BJ,A7,CQ,CW,DY,AZ,BA,BL,BU,CO,F6,AC,AQ,AO,BD,AX,AL,AA,EG,AY,AU,BH,BM,BI,BC,CP,DL,↓reduceIte,jA,jB,jC,b2]
  exact ⟨by rw [fin true (by unfold KI; rw [b2]; simp)]; rfl,_,rfl⟩
 simp -implicitDefEqProofs only [AZ,BL,BU,CO,EQ,AC,AQ,AO,BD,AX,AL,AA,AY,AU,BH,BM,BI,CP,DN,BN,BR,BG,AB,DF,↓reduceIte,jA,jG,jB,jC,enP,LD,b2,EE ag3,AM0]
 cases b3:decide (v.mode < 0)
 case true =>
  simp -implicitDefEqProofs only [BB,A8,BK,BJ,A7,CQ,CW,DY,AZ,BA,BL,BU,CO,F6,AC,AQ,AO,BD,AX,AL,AA,EG,AY,AU,BH,BM,BI,BC,CP,DL,↓reduceIte,jA,jB,jC,b3]
  exact ⟨by rw [fin true (by unfold KI; rw [b3]; simp)]; rfl,_,rfl⟩
 simp -implicitDefEqProofs only [AZ,BL,BU,CO,EQ,AC,AQ,AO,BD,AX,AL,AA,AY,AU,BH,BM,BI,CP,DN,BN,BR,BG,AB,E8,↓reduceIte,jA,jG,jB,jC,enP,LD,b3,EE ag3,AM0]
 cases b4:decide (v.mode > 2)
 case true =>
  simp -implicitDefEqProofs only [BB,A8,BK,BJ,A7,CQ,CW,DY,AZ,BA,BL,BU,CO,F6,AC,AQ,AO,BD,AX,AL,AA,EG,AY,AU,BH,BM,BC,CP,DL,↓reduceIte,jA,jB,jC,b4]
  exact ⟨by rw [fin true (by unfold KI; rw [b4]; simp)]; rfl,_,rfl⟩
 simp -implicitDefEqProofs only [BJ,A7,AZ,BA,BL,BU,CO,EQ,AC,AQ,AO,BD,AX,AL,AA,AY,AU,BH,BM,CP,DN,BN,BR,BG,AB,DF,↓reduceIte,jA,jG,jB,jC,enP,SY,b4,EE ag3,AQZ]
 cases b5:decide (v.value < 0)
 case true =>
  simp -implicitDefEqProofs only [BB,A8,BK,A7,CQ,CW,DY,AZ,BA,AC,AQ,AO,BD,AX,AL,AA,AU,BH,BC,↓reduceIte,jB,jC,b5]
  exact ⟨by rw [fin true (by unfold KI; rw [b5]; simp)]; rfl,_,rfl⟩
 simp -implicitDefEqProofs only [BB,BQ,A7,EC,b5]
 have hw1 : ¬ v.width < 1:=by simpa using b1
 have hw2 : ¬ v.width > 8:=by simpa using b2
 have hv0 : ¬ v.value < 0:=by simpa using b5
 have hsh:=AQP hw1 hw2
 have fin2 : ∀ b,(decide (v.value≥2 ^ v.width.toNat) || (!(v.mode == 0) && !(v.value == 0)))=b→vrE v=if b=true then 1 else 0:=fun b hb=>fin b (by unfold KI; rw [b1,b2,b3,b4,b5]; simpa using hb)
 refine EZ (by kernel_rfl) ?_
 have hp:(0:Int) < 2 ^ v.width.toNat:=Int.pow_pos (by decide)
 cases b6:(v.mode == 0) <;> cases b7:(v.value == 0) <;> cases b8:decide (v.value≥2 ^ v.width.toNat)
 all_goals
  simp -implicitDefEqProofs only [FD,DR,CZ,D9,DU,D7,EW,PL,MX,RN,PN,AHT,ES,FZ,ED,IJ,DK,BB,A8,BQ,BK,BJ,A7,CQ,CW,DY,EC,AZ,BA,CO,AC,AQ,AO,BD,AX,AL,AA,EG,AY,AU,BH,BM,BC,CP,DL,DN,BN,BR,BG,AB,DW,FU,FQ,↓reduceIte,jA,jK,jG,jB,jX,jC,enP,L8,LD,SY,EE ag3,AM1,AM0,AQZ,hsh,b6,b7,b8,bne]
  refine ⟨?_,_,rfl⟩
  rw [fin2 _ rfl,b6,b7,b8]
  first
   | rfl
   | (exfalso
      simp at b7 b8
      omega)
def AG7 (l:List Vr):Bool:=decide (∃ i:Fin l.length,0≤plc (l.take i.1) (l[i.1]).name)
def LU (l:List Vr):Int:=(l.map fun v=>if v.mode=0 then 0 else v.width).sum
def JW (l:List Vr):Int:=if l.length > 16 then 2 else if NE vrE l≠0 then NE vrE l else if AG7 l=true then 8 else if (l.any fun v=>NW l v.name)=true then 10 else if LU l > 20 then 2 else 0
theorem AEG (v:Vr):JB v.name v=true:=by unfold JB; simp
theorem AEA {l:List Vr} {i:Nat} (hi:i < l.length):(plc l l[i].name≠(i:Int))↔0≤plc (l.take i) l[i].name:=by
 constructor
 ·intro h
  rcases Classical.em (0≤plc (l.take i) l[i].name) with h1 | h1
  ·exact h1
  ·exfalso
   refine h (O5 _ l i hi (fun j hj => ?_) (AEG _))
   refine AJ9 (JB l[i].name) (l.take i) (by unfold plc at h1; omega) _ ?_
   have:(l.take i)[j]'(by rw [zT]; omega)=l[j]:=List.getElem_take
   rw [← this]; exact jS _
 ·intro h e
  obtain ⟨k,hk,_,h2,h3⟩:=ZJ (JB l[i].name) (l.take i) h
  rw [zT] at hk
  rw [List.getElem_take] at h2
  have h0:0≤plc l l[i].name:=by rw [e]; omega
  obtain ⟨k',hk',e1,_,e3⟩:=ZJ (JB l[i].name) l h0
  have:k'=i:=by
   have e1:plc l l[i].name=(k':Int):=e1
   omega
  have:=e3 k (by omega)
  rw [this] at h2; cases h2
theorem AE6 {l:List Vr} {i:Nat} (hi:i < l.length) (h:0≤plc (l.take i) l[i].name):AG7 l=true:=decide_eq_true ⟨⟨i,hi⟩,h⟩
theorem ABP {l:List Vr} (h : ∀ (i:Nat) (hi:i < l.length),plc (l.take i) l[i].name < 0):AG7 l=false:=decide_eq_false fun ⟨i,hi⟩=>by have:=h i.1 i.2; omega
theorem U9 {l:List Vr} {i:Nat} (hi:i < l.length):LU (l.take (i+1))=LU (l.take i)+(if l[i].mode=0 then 0 else l[i].width):=by
 unfold LU
 rw [zY hi,List.map_append,List.sum_append]
 simp
theorem AAB (l:List Vr) (hw : ∀ v∈l,vrE v=0) : ∀ i,i≤l.length→0≤LU (l.take i)∧LU (l.take i)≤8 * i
 | 0,_=>by simp [LU]
 | i+1,h=>by
   have ih:=AAB l hw i (by omega)
   rw [U9 (by omega:i < l.length)]
   have:=hw _ (jS (by omega:i < l.length))
   unfold vrE at this
   split at this
   ·split at this
    ·cases this
    ·rename_i hb
     have:KI l[i]=false:=by simpa using hb
     unfold KI at this
     simp only [Bool.or_eq_false_iff,decide_eq_false_iff_not] at this
     split <;> omega
   ·cases this
theorem AQA (h:Hp):JF Tryz.prog h 61=some (.ptr h.length 0 0,h ++ [.live 4 [[.str ⟨#[]⟩,.int .i64 0,.int .i64 0,.int .i64 0]]]):=JP (row := [.str ⟨#[]⟩,.int .i64 0,.int .i64 0,.int .i64 0]) (by kernel_rfl)
theorem AOC (h:Hp) (v:Vr):FT Tryz.prog (h ++ [.live 4 [[.str ⟨#[]⟩,.int .i64 0,.int .i64 0,.int .i64 0]]]) 61 (.ptr h.length 0 0) (.agg (FC v))=some (h ++ [.live 4 [FC v]]):=by
 rw [XP (cs:=FC v) (row := [.str ⟨#[]⟩,.int .i64 0,.int .i64 0,.int .i64 0]) rfl ALE (C9 _ _) (by exact jL 4),LX]
 rfl
theorem ldV {l:List Vr} {h:Hp} {i:Nat} (hi:i < l.length):DI Tryz.prog h 61 (.fptr 4 (l.map FC) i 0)=some (.agg (FC l[i])):=EM AVC ALE ZT hi
theorem AVR {l:List Vr} {h:Hp} {m:SM} {i:Nat} (hi:i≤l.length) : ∃ m',J8 Tryz.prog h 22 (.sl m 4 (l.map FC)) none (some (.int .i64 (i:Nat))) none=some (.sl m' 4 ((l.take i).map FC)):=by
 have hs:szO Tryz.prog 61=some 4:=ALE
 exact ⟨APP m i (l.map FC).length,by rw [AQO AVP hs (by rw [jM]; exact hi),List.map_take]⟩
theorem AAR (G:Nat→AV) (l:List Vr) (m:SM) (h:Hp) (hl:l.length≤1048576) (hs : ∀ v∈l,v.name.size≤1048576):PCall (En G) 43 [.sl m 4 (l.map FC)] h (.int .i64 (JW l)):=by
 refine acN Tryz.func43 rfl ?_
 show awp _ _ _ _ _ (EH _ [.tmp 2] _)
 simp -implicitDefEqProofs only [BB,A8,BJ,A7,AZ,BA,AC,AQ,AO,BD,AX,AL,AA,AY,AU,BH,BI,BC,BR,FH,AB,E8,BF,↓reduceIte,jA,jB,jC,enX,enP,QA,jM]
 refine CS (fun hc => ?_) (fun hc => ?_)
 ·simp -implicitDefEqProofs only [BB,A8,BK,A7,CQ,CW,AZ,BA,AC,AQ,AO,BD,AX,AL,AA,AU,BH,BC,↓reduceIte,jB,jC]
  exact ⟨by unfold JW; rw [if_pos (by simp at hc; omega)],trivial⟩
 have hlen : ¬ l.length > 16:=by simp at hc; omega
 simp -implicitDefEqProofs only [BB,CJ,A8,BQ,A7,AZ,BA,AC,AQ,AO,BD,AX,AL,AU,BH,BC,jB,jC]
 refine JC 0 (fun F H=>F 0 = .sl m 4 (l.map FC)∧F 3 = .int .i64 (LU l)∧H=h∧NE vrE l=0) (fun F H=>F 2 = .int .i64 (JW l)∧H=h) ?_ ?_ ?_
 ·refine D8 (fun n F H => ∃ i,n+i=l.length∧(∀ (j:Nat) (hj:j < i) (hl:j < l.length),vrE l[j]=0)∧F 0 = .sl m 4 (l.map FC)∧F 3 = .int .i64 (LU (l.take i))∧F 4 = .int .i64 (i:Nat)∧H=h) l.length ⟨0,by simp,fun j hj=>absurd hj (by omega),by simp -implicitDefEqProofs only [AA,BF,↓reduceIte,jA],by simp -implicitDefEqProofs only [AA,↓reduceIte,jA]; rfl,by simp -implicitDefEqProofs only [AA,↓reduceIte]; rfl,rfl⟩ ?_
  rintro n F H ⟨i,hi,hb,f0,f3,f4,rfl⟩
  simp -implicitDefEqProofs only [BB,A8,BJ,A7,AZ,BA,AC,AQ,AO,BD,AX,AL,AA,AY,BI,BR,FH,AB,DF,↓reduceIte,jA,jB,jC,enP,QA,f0,f4,jM]
  refine CS (fun hc => ?_) (fun hc => ?_)
  ·have hi':i < l.length:=by simpa using hc
   simp -implicitDefEqProofs only [BB,CJ,A8,BQ,A7,AZ,AC,AQ,AO,BD,AX,AL,AA,AY,BO,BI,BN,CU,BX,BP,AB,jF,jD,jE,↓reduceIte,jA,jB,jC,enP,RS,f0,f4,EJ hi',ldV hi']
   refine (AB7 G l[i] H (hs _ (jS hi'))).use ?_
   simp -implicitDefEqProofs only [BB,A8,BJ,A7,AZ,BA,AC,AQ,AO,BD,AX,AL,AA,AY,AU,BH,BI,BC,BR,AB,FU,↓reduceIte,jB,jC,enP]
   refine CS (fun he => ?_) (fun he => ?_)
   ·simp -implicitDefEqProofs only [BB,A8,BK,A7,CQ,D5,MR,FV,AZ,BA,AC,AQ,AO,BD,AX,AL,AA,AY,BI,BC,↓reduceIte,jA,jB,jC]
    have he':vrE l[i]≠0:=by simpa [bne] using he
    refine ⟨?_,trivial⟩
    have:=O6 vrE l i hi' (fun j hj=>hb j hj (by omega)) he'
    unfold JW
    rw [if_neg hlen,this,if_pos he']
   ·have he':vrE l[i]=0:=by simpa [bne] using he
    have hb2 : ∀ (j:Nat) (hj:j < i+1) (hl:j < l.length),vrE l[j]=0:=fun j hj hl=>by
     rcases jT j i with h1 | h1
     ·exact hb j h1 hl
     ·obtain rfl:j=i:=by omega
      exact he'
    have hbt:=U9 hi'
    have hbd:0≤LU (l.take (i+1))∧LU (l.take (i+1))≤8 * ((i+1:Nat):Int):=by
     have:=AAB (l.take (i+1)) (fun v hv=>by
      obtain ⟨j,hj,rfl⟩:=qC hv
      rw [zT] at hj
      rw [List.getElem_take]; exact hb2 j (by omega) (by omega)) (i+1) (by rw [zT]; omega)
     rw [List.take_take,Nat.min_self] at this; exact this
    have l2:DI Tryz.prog H 3 (.fptr 4 (l.map FC) i 2)=some (.int .i64 l[i].mode):=by rw [GR ag3 hi']; rfl
    have l1:DI Tryz.prog H 3 (.fptr 4 (l.map FC) i 1)=some (.int .i64 l[i].width):=by rw [GR ag3 hi']; rfl
    simp -implicitDefEqProofs only [BB,A8,BQ,BJ,A7,AZ,BA,AC,AQ,AO,BD,AX,AL,AA,AY,AU,BH,BI,BN,BR,BG,CU,AB,FU,↓reduceIte,jA,jG,jB,jC,enP,RS,LD,f0,f4,EJ hi',l2]
    refine CS (fun hm => ?_) (fun hm => ?_)
    ·have hm' : ¬ l[i].mode=0:=by simpa [bne] using hm
     rw [if_neg hm'] at hbt
     have hw:IntKind.i64.wrap (LU (l.take i)+l[i].width)=LU (l.take (i+1)):=by rw [hbt,wrap_i64 (by omega) (by omega)]
     simp -implicitDefEqProofs only [A8,A7,EO,FK,AZ,BA,AC,AQ,AO,BD,AX,AL,AA,AY,AU,BH,BI,BC,BN,BR,BG,CU,AB,DZ,↓reduceIte,jA,jG,jB,jC,enP,RS,L8,f0,f3,f4,EJ hi',l1,hw,wrap_succ (show i < 9223372036854775807 by omega)]
     refine ⟨n - 1,by omega,i+1,by omega,hb2,by trivial,rfl,rfl,trivial⟩
    ·have hm':l[i].mode=0:=by simpa [bne] using hm
     rw [if_pos hm',Int.add_zero] at hbt
     simp -implicitDefEqProofs only [A8,BQ,A7,EO,FK,AZ,BA,AC,AQ,AO,BD,AX,AL,AA,AY,AU,BH,BI,BC,BR,AB,DZ,↓reduceIte,jA,jB,jC,enP,f4,wrap_succ (show i < 9223372036854775807 by omega)]
     refine ⟨n - 1,by omega,i+1,by omega,hb2,by trivial,by rw [hbt]; exact f3,rfl,trivial⟩
  ·have hi' : ¬ i < l.length:=by simpa using hc
   simp -implicitDefEqProofs only [D6,E5,N8,GG,AA,↓reduceIte,jA]
   refine ⟨f0,?_,trivial,ND vrE l fun j hj=>hb j (by omega) hj⟩
   rw [jY (by omega)] at f3; exact f3
 ·rintro F H ⟨f0,f3,rfl,hz⟩
  have hall:=OV hz
  have hnm : ∀ v∈l,II v.name=true∧v.name.size≤1048576:=by
   intro v hv
   have:=hall v hv
   unfold vrE at this
   split at this
   ·rename_i hn; exact ⟨hn,hs v hv⟩
   ·cases this
  have hv1 : ∀ b,AG7 l=b→JW l=if b=true then 8 else if (l.any fun v=>NW l v.name)=true then 10 else if LU l > 20 then 2 else 0:=fun b hb=>by
   unfold JW; rw [if_neg hlen,if_neg (by simp [hz]),hb]
  simp -implicitDefEqProofs only [BB,CJ,A8,A7,FY,AZ,BA,AC,AQ,AO,BD,AX,AL,AU,BH,BC,↓reduceIte,jB,jC]
  refine JC 2 (fun F' H'=>F' 0 = .sl m 4 (l.map FC)∧F' 3 = .int .i64 (LU l)∧H'=H∧AG7 l=false) (fun F' H'=>F' 2 = .int .i64 (JW l)∧H'=H) ?_ ?_ ?_
  ·refine D8 (fun n F' H' => ∃ i,n+i=l.length∧(∀ (j:Nat) (hj:j < i) (hl:j < l.length),plc (l.take j) l[j].name < 0)∧F' 0 = .sl m 4 (l.map FC)∧F' 3 = .int .i64 (LU l)∧F' 6 = .int .i64 (i:Nat)∧H'=H) l.length ⟨0,by simp,fun j hj=>absurd hj (by omega),by simp -implicitDefEqProofs only [AA,↓reduceIte,jA,f0],by simp -implicitDefEqProofs only [AA,↓reduceIte,jA,f3],by simp -implicitDefEqProofs only [AA,↓reduceIte]; rfl,rfl⟩ ?_
   clear f0 f3
   rintro n F H ⟨i,hi,hb,f0,f3,f6,rfl⟩
   simp -implicitDefEqProofs only [BB,A8,BJ,A7,AZ,BA,AC,AQ,AO,BD,AX,AL,AA,AY,BI,BR,FH,AB,DF,↓reduceIte,jA,jB,jC,enP,QA,f0,f6,jM]
   refine CS (fun hc => ?_) (fun hc => ?_)
   ·have hi':i < l.length:=by simpa using hc
    have l0:DI Tryz.prog H 9 (.fptr 4 (l.map FC) i 0)=some (.str l[i].name):=by rw [GR ag9 hi']; rfl
    obtain ⟨m',ht⟩:=AVR (h:=H) (m:=m) (Nat.le_of_lt hi')
    simp -implicitDefEqProofs only [BB,CJ,BQ,A7]
    refine EZ (by kernel_rfl) ?_
    simp -implicitDefEqProofs only [FD,qM,Option.map_none,DR,CZ,DU,ES,ED,IJ,VF,DK,FI,EP,EF,AC,AA,AY,AU,BO,BH,BN,BR,NK,BG,CU,AB,jF,jD,jE,↓reduceIte,jA,jK,jI,jB,enP,RS,N9,f0,f6,ht,EJ hi',l0]
    refine ⟨_,U5 G (l.take i) m' l[i].name _ (by rw [zT]; omega),?_⟩
    simp -implicitDefEqProofs only [CZ,D9,BJ,A7,AA,AY,AB,FQ,↓reduceIte]
    refine CS (fun he => ?_) (fun he => ?_)
    ·simp -implicitDefEqProofs only [BB,A8,BK,A7,CQ,D5,MR,FV,AZ,BA,AC,AQ,AO,BD,AX,AL,AA,AU,BH,BC,↓reduceIte,jB,jC]
     refine ⟨?_,trivial⟩
     rw [hv1 true (AE6 hi' (by simpa using he))]; rfl
    ·simp -implicitDefEqProofs only [A8,BQ,A7,EO,FK,AZ,BA,AC,AQ,AO,BD,AX,AL,AA,AY,AU,BH,BI,BC,BR,AB,DZ,↓reduceIte,jA,jB,jC,enP,f6,wrap_succ (show i < 9223372036854775807 by omega)]
     refine ⟨n - 1,by omega,i+1,by omega,fun j hj hl => ?_,f0,f3,rfl,trivial⟩
     rcases jT j i with h1 | h1
     ·exact hb j h1 hl
     ·obtain rfl:j=i:=by omega
      simpa using he
   ·have hi' : ¬ i < l.length:=by simpa using hc
    simp -implicitDefEqProofs only [D6,E5,N8,GG,AA,↓reduceIte,jA]
    exact ⟨f0,f3,trivial,ABP fun j hj=>hb j (by omega) hj⟩
  ·rintro F' H' ⟨g0,g3,rfl,hd⟩
   have hv2:=hv1 _ hd
   simp -implicitDefEqProofs only [BB,A8,A7,FY,AZ,AC,AQ,AO,BD,AX,AL,AA,AY,BO,BI,BX,BP,jF,jD,jE,↓reduceIte,jB,jC,g0]
   refine (APH G l m _ hl hnm).use ?_
   simp -implicitDefEqProofs only [BJ,A7,BA,AL,AA,AY,↓reduceIte]
   refine CS (fun hg => ?_) (fun hg => ?_)
   ·simp -implicitDefEqProofs only [BB,A8,BK,A7,CQ,CW,AZ,BA,AC,AQ,AO,BD,AX,AL,AA,AU,BH,BC,↓reduceIte,jB,jC]
    exact ⟨by rw [hv2,hg]; rfl,trivial⟩
   simp -implicitDefEqProofs only [BB,A8,BQ,BJ,A7,AZ,BA,AC,AQ,AO,BD,AX,AL,AA,AY,AU,BH,BI,BR,AB,E8,↓reduceIte,jA,jB,jC,enP,g3]
   refine CS (fun hx => ?_) (fun hx => ?_)
   ·simp -implicitDefEqProofs only [BB,A8,BK,A7,CQ,CW,AZ,BA,AC,AQ,AO,BD,AX,AL,AA,AU,BH,BC,↓reduceIte,jB,jC]
    refine ⟨?_,trivial⟩
    rw [hv2,hg,if_neg (by decide),if_neg (by decide),if_pos (by simpa using hx)]
   ·simp -implicitDefEqProofs only [BB,A8,BQ,BK,A7,CW,AZ,BA,AC,AQ,AO,BD,AX,AL,AA,AU,BH,BC,↓reduceIte,jB,jC]
    refine ⟨?_,trivial⟩
    rw [hv2,hg,if_neg (by decide),if_neg (by decide),if_neg (by simpa using hx)]
  ·rintro F' H' ⟨g2,rfl⟩
   simp -implicitDefEqProofs only [CQ,D5,CW,g2]
   exact ⟨trivial,trivial⟩
 ·rintro F H ⟨f2,rfl⟩
  simp -implicitDefEqProofs only [CQ,D5,CW,f2]
  exact ⟨trivial,trivial⟩
theorem AT9 (G:Nat→AV) (hG:GOk G) (l:List Vr) (m:SM) (v:Vr) (c:Nat) (h:Hp) (hc:h[c]? = some (.live 1 [[.sl m 4 (l.map FC)]])) (hl:l.length≤1048576) (hs:v.name.size≤1048576) (hv:II v.name=true) :
  PCall (En G) 106 ([.agg (FC v)] ++ [.ptr c 0 0]) h (.bool (NW l v.name)):=by
 refine ACalls.pure0 rfl ?_
 refine acN Tryz.func106 rfl ?_
 show awp _ _ _ _ _ (EH _ [.tmp 3] _)
 have hc':(h ++ [ABlk.live 4 [FC v]])[c]? = _:=CX hc
 simp -implicitDefEqProofs only [BB,A8,A7,AZ,BA,AC,AQ,AO,BD,AX,AL,AA,AY,AU,BO,BM,BC,FN,BN,BG,BX,BP,BV,AB,BF,CE,jF,jD,jE,zA,zN,↓reduceIte,jA,jI,jB,jC,enP,N9,bxV,EE ag9,AM2,IB UF hc']
 refine (AMK G hG l m v.name _ (by omega) hs hv).use ?_
 simp -implicitDefEqProofs only [BK,A7,CW,AZ,BA,AC,AQ,AO,BD,AX,AL,AA,AY,BC,↓reduceIte,jB,jC]
 exact ⟨trivial,_,rfl⟩
set_option maxHeartbeats 1000000 in
theorem AJA (G:Nat→AV) (hG:GOk G) (l:List Vr) (m:SM) (h:Hp) (hl:l.length≤1048576) (hs : ∀ v∈l,v.name.size≤1048576):PCall (En G) 57 [.sl m 4 (l.map FC)] h (.int .i64 (JW l)):=by
 refine ACalls.pure0 rfl ?_
 refine acN Tryz.func57 rfl ?_
 show awp _ _ _ _ _ (EH _ [.tmp 2] _)
 have hb0:(h ++ [ABlk.live 1 [[.sl m 4 (l.map FC)]]])[h.length]? = some (.live 1 [[.sl m 4 (l.map FC)]]):=C9 _ _
 simp -implicitDefEqProofs only [AHH,BB,A8,BJ,A7,AZ,BA,AC,AQ,AO,BD,AX,AL,AA,AY,AU,BH,BC,FN,BN,BR,FH,BV,AB,E8,BF,↓reduceIte,jA,jB,jC,enP,QA,AHH,IB UF hb0,jM]
 refine CS (fun hc => ?_) (fun hc => ?_)
 ·simp -implicitDefEqProofs only [BB,A8,BK,A7,CQ,CW,AZ,BA,AC,AQ,AO,BD,AX,AL,AA,AU,BH,BC,↓reduceIte,jB,jC]
  exact ⟨by unfold JW; rw [if_pos (by simp at hc; omega)],_,rfl⟩
 have hlen : ¬ l.length > 16:=by simp at hc; omega
 simp -implicitDefEqProofs only [BB,CJ,A8,BQ,A7,AZ,BA,AC,AQ,AO,BD,AX,AL,AA,AY,AU,BH,BI,BN,FH,AB,↓reduceIte,jA,jB,jC,enP,QA,IB UF hb0,jM]
 refine JC 0 (fun F H=>F 1 = .ptr h.length 0 0∧H[h.length]? = some (.live 1 [[.sl m 4 (l.map FC)]])∧ext h H∧NE vrE l=0) (fun F H=>F 2 = .int .i64 (JW l)∧ext h H) ?_ ?_ ?_
 ·refine D8 (fun n F H => ∃ i,n+i=l.length∧(∀ (j:Nat) (hj:j < i) (hl:j < l.length),vrE l[j]=0)∧F 1 = .ptr h.length 0 0∧F 11 = .sl m 4 (l.map FC)∧F 12 = .int .i64 (l.length:Nat)∧F 13 = .int .i64 (i:Nat)∧H[h.length]? = some (.live 1 [[.sl m 4 (l.map FC)]])∧ext h H) l.length ⟨0,by simp,fun j hj=>absurd hj (by omega),by simp -implicitDefEqProofs only [AA,↓reduceIte,jA],by simp -implicitDefEqProofs only [AA,↓reduceIte,jA],by simp -implicitDefEqProofs only [AA,↓reduceIte,jA],by simp -implicitDefEqProofs only [AA,↓reduceIte]; rfl,hb0,⟨_,rfl⟩⟩ ?_
  rintro n F H ⟨i,hi,hb,f1,f11,f12,f13,hH,he⟩
  simp -implicitDefEqProofs only [BB,A8,BJ,A7,AZ,BA,AC,AQ,AO,BD,AX,AL,AA,AY,BR,AB,DF,↓reduceIte,jB,jC,enP,f12,f13]
  refine CS (fun hc => ?_) (fun hc => ?_)
  ·have hi':i < l.length:=by simpa using hc
   have hH1:(H ++ [ABlk.live 4 [FC l[i]]])[h.length]? = _:=CX hH
   have hx1:ext h (H ++ [ABlk.live 4 [FC l[i]]]):=he.app _
   have ge:=C9 H (ABlk.live 4 [FC l[i]])
   have hsv:=hs _ (jS hi')
   have hstp : ∀ (n':Nat),vrE l[i]=0→∃ m',m' < n∧∃ k,m'+k=l.length∧(∀ (j:Nat) (hj:j < k) (hl:j < l.length),vrE l[j]=0)∧k=i+1:=fun _ hz =>
    ⟨n - 1,by omega,i+1,by omega,fun j hj hl=>by
     rcases jT j i with h1 | h1
     ·exact hb j h1 hl
     ·obtain rfl:j=i:=by omega
      exact hz,rfl⟩
   have hbad:vrE l[i]≠0→JW l=vrE l[i]:=fun hz=>by
    have:=O6 vrE l i hi' (fun j hj=>hb j hj (by omega)) hz
    unfold JW
    rw [if_neg hlen,this,if_pos hz]
   simp -implicitDefEqProofs only [BB,CJ,A8,BQ,A7,AZ,BA,AC,AQ,AO,BD,AX,AL,DV,AA,AY,EX,BN,CY,BG,CU,BV,AB,BZ,↓reduceIte,jA,jI,jB,jC,enP,RS,N9,jJ,f11,f13,EJ hi',ldV hi',AQA,AOC]
   generalize H ++ [ABlk.live 4 [FC l[i]]]=H1 at hH1 hx1 ge ⊢
   have l0:DI Tryz.prog H1 9 (.ptr H.length 0 0)=some (.str l[i].name):=by rw [DC ag9 ge (row:=FC l[i]) rfl]; rfl
   have l1:DI Tryz.prog H1 3 (.ptr H.length 0 1)=some (.int .i64 l[i].width):=by rw [DC ag3 ge (row:=FC l[i]) rfl]; rfl
   have l2:DI Tryz.prog H1 3 (.ptr H.length 0 2)=some (.int .i64 l[i].mode):=by rw [DC ag3 ge (row:=FC l[i]) rfl]; rfl
   have l3:DI Tryz.prog H1 3 (.ptr H.length 0 3)=some (.int .i64 l[i].value):=by rw [DC ag3 ge (row:=FC l[i]) rfl]; rfl
   generalize hv:l[i]=v at hsv hstp hbad l0 l1 l2 l3
   simp -implicitDefEqProofs only [AZ,AC,AQ,AO,BD,AX,AL,AA,AY,BO,BX,BP,AB,jF,jD,jE,↓reduceIte,jB,jC,l0]
   refine (AGO G hG v.name _ hsv).use ?_
   cases hn:II v.name
   ·simp -implicitDefEqProofs only [BB,A8,BK,BJ,A7,CQ,D5,MR,FV,DY,AZ,BA,AC,AQ,AO,BD,AX,AL,AA,AY,AU,BH,BC,I5,AB,FP,↓reduceIte,jB,jC]
    have:vrE v=7:=by unfold vrE; rw [hn]; rfl
    exact ⟨by rw [hbad (by rw [this]; decide),this],hx1⟩
   have fin : ∀ b,KI v=b→vrE v=if b=true then 1 else 0:=fun b hb=>by unfold vrE; rw [hn,hb]; rfl
   have yes:KI v=true→AV.int .i64 1=AV.int .i64 (JW l):=fun hb=>by
    have:=fin true hb
    rw [hbad (by rw [this]; decide),this]; rfl
   simp -implicitDefEqProofs only [BB,BQ,BJ,A7,EC,AZ,BA,AC,AQ,AO,BD,AX,AL,AA,AY,I5,AB,FP,↓reduceIte,jB,jX,jC]
   refine EZ (by kernel_rfl) ?_
   cases b1:decide (v.width < 1)
   case true =>
    simp -implicitDefEqProofs only [FD,DR,CZ,D9,DU,D7,EW,PN,AHT,ES,FZ,ED,IJ,DK,BB,A8,BK,BJ,A7,CQ,D5,MR,FV,DY,AZ,BA,CO,AC,AQ,AO,BD,AX,AL,AA,EG,AY,AU,BH,BM,BC,CP,DL,BN,BR,BG,AB,DF,↓reduceIte,jA,jK,jG,jB,jC,enP,L8,l1,b1]
    exact ⟨yes (by unfold KI; rw [b1]; simp),hx1⟩
   cases b2:decide (v.width > 8)
   case true =>
    simp -implicitDefEqProofs only [FD,DR,CZ,D9,DU,D7,EW,MX,PN,AHT,ES,FZ,ED,IJ,DK,BB,A8,BK,BJ,A7,CQ,D5,MR,FV,DY,AZ,BA,CO,AC,AQ,AO,BD,AX,AL,AA,EG,AY,AU,BH,BM,BC,CP,DL,DN,BN,BR,BG,AB,DF,E8,↓reduceIte,jA,jK,jG,jB,jC,enP,L8,l1,b1,b2]
    exact ⟨yes (by unfold KI; rw [b2]; simp),hx1⟩
   cases b3:decide (v.mode < 0)
   case true =>
    simp -implicitDefEqProofs only [FD,DR,CZ,D9,DU,D7,EW,MX,PN,AHT,ES,FZ,ED,IJ,DK,BB,A8,BK,BJ,A7,CQ,D5,MR,FV,DY,AZ,BA,CO,AC,AQ,AO,BD,AX,AL,AA,EG,AY,AU,BH,BM,BC,CP,DL,DN,BN,BR,BG,AB,DF,E8,↓reduceIte,jA,jK,jG,jB,jC,enP,L8,LD,l1,l2,b1,b2,b3]
    exact ⟨yes (by unfold KI; rw [b3]; simp),hx1⟩
   cases b4:decide (v.mode > 2)
   case true =>
    simp -implicitDefEqProofs only [FD,DR,CZ,D9,DU,D7,EW,MX,PN,AHT,ES,FZ,ED,IJ,DK,BB,A8,BK,BJ,A7,CQ,D5,MR,FV,DY,AZ,BA,CO,AC,AQ,AO,BD,AX,AL,AA,EG,AY,AU,BH,BM,BC,CP,DL,DN,BN,BR,BG,AB,DF,E8,↓reduceIte,jA,jK,jG,jB,jC,enP,L8,LD,l1,l2,b1,b2,b3,b4]
    exact ⟨yes (by unfold KI; rw [b4]; simp),hx1⟩
   cases b5:decide (v.value < 0)
   case true =>
    simp -implicitDefEqProofs only [FD,DR,CZ,D9,DU,D7,EW,MX,PN,AHT,ES,FZ,ED,IJ,DK,BB,A8,BK,BJ,A7,CQ,D5,MR,FV,DY,AZ,BA,CO,AC,AQ,AO,BD,AX,AL,AA,EG,AY,AU,BH,BM,BC,CP,DL,DN,BN,BR,BG,AB,DF,E8,↓reduceIte,jA,jK,jG,jB,jC,enP,L8,LD,SY,l1,l2,l3,b1,b2,b3,b4,b5]
    exact ⟨yes (by unfold KI; rw [b5]; simp),hx1⟩
   have hsh:=AQP (by simpa using b1) (by simpa using b2)
   cases b6:decide (v.value≥2 ^ v.width.toNat)
   case true =>
    simp -implicitDefEqProofs only [FD,DR,CZ,D9,DU,D7,EW,MX,PN,AHT,ES,FZ,ED,IJ,DK,BB,A8,BK,BJ,A7,CQ,D5,MR,FV,DY,AZ,BA,CO,AC,AQ,AO,BD,AX,AL,AA,EG,AY,AU,BH,BM,BC,CP,DL,DN,BN,BR,BG,AB,DF,E8,FQ,↓reduceIte,jA,jK,jG,jB,jC,enP,L8,LD,SY,l1,l2,l3,hsh,b1,b2,b3,b4,b5,b6]
    exact ⟨yes (by unfold KI; rw [b6]; simp),hx1⟩
   cases b7:(v.mode == 0) <;> cases b8:(v.value == 0)
   case false.false =>
    simp -implicitDefEqProofs only [FD,DR,CZ,D9,DU,D7,EW,PL,MX,ES,FZ,ED,IJ,DK,BB,A8,BK,BJ,A7,CQ,D5,MR,FV,DY,AZ,BA,CO,AC,AQ,AO,BD,AX,AL,AA,AY,AU,BH,BM,BC,CP,DL,DN,BN,BR,BG,AB,FU,DF,E8,FQ,↓reduceIte,jA,jK,jG,jB,jC,enP,L8,LD,SY,l1,l2,l3,hsh,b1,b2,b3,b4,b5,b6,b7,b8,bne]
    exact ⟨yes (by unfold KI; rw [b7,b8]; simp),hx1⟩
   all_goals
    have hz:=fin false (by unfold KI; rw [b1,b2,b3,b4,b5,b6,b7,b8]; rfl)
    obtain ⟨m',hm,k,k1,k2,rfl⟩:=hstp 0 hz
    simp -implicitDefEqProofs only [FD,DR,CZ,D9,DU,D7,EW,PL,MX,RN,ES,FZ,ED,IJ,DK,A8,BQ,BJ,A7,EO,FK,EC,AZ,BA,CO,AC,AQ,AO,BD,AX,AL,AA,EG,AY,AU,BH,BM,BI,CP,DL,DN,BN,BR,BG,AB,DZ,FU,DF,E8,FQ,↓reduceIte,jA,jK,jG,jB,jX,jC,enP,L8,LD,SY,l1,l2,l3,hsh,b1,b2,b3,b4,b5,b6,b7,b8,bne,f13,wrap_succ (show i < 9223372036854775807 by omega)]
    exact ⟨m',hm,i+1,k1,k2,by trivial,by trivial,by trivial,rfl,hH1,hx1⟩
  ·have hi' : ¬ i < l.length:=by simpa using hc
   simp -implicitDefEqProofs only [D6,E5,N8,GG,AA,↓reduceIte,jA]
   exact ⟨f1,hH,he,ND vrE l fun j hj=>hb j (by omega) hj⟩
 ·rintro F H ⟨f1,hH,he,hz⟩
  have hall:=OV hz
  have hnm : ∀ v∈l,II v.name=true∧v.name.size≤1048576:=by
   intro v hv
   have:=hall v hv
   unfold vrE at this
   split at this
   ·rename_i hn; exact ⟨hn,hs v hv⟩
   ·cases this
  have hv1 : ∀ b,AG7 l=b→JW l=if b=true then 8 else if (l.any fun v=>NW l v.name)=true then 10 else if LU l > 20 then 2 else 0:=fun b hb=>by
   unfold JW; rw [if_neg hlen,if_neg (by simp [hz]),hb]
  simp -implicitDefEqProofs only [BB,CJ,A8,A7,FY,AZ,BA,AC,AQ,AO,BD,AX,AL,AA,AY,AU,BH,BI,BC,BN,FH,AB,↓reduceIte,jA,jB,jC,enP,QA,f1,IB UF hH,jM]
  refine JC 2 (fun F' H'=>F' 1 = .ptr h.length 0 0∧F' 5 = .int .i64 (LU l)∧H'[h.length]? = some (.live 1 [[.sl m 4 (l.map FC)]])∧ext h H'∧AG7 l=false) (fun F' H'=>F' 2 = .int .i64 (JW l)∧ext h H') ?_ ?_ ?_
  ·refine D8 (fun n F' H' => ∃ i,n+i=l.length∧(∀ (j:Nat) (hj:j < i) (hl:j < l.length),plc (l.take j) l[j].name < 0)∧F' 1 = .ptr h.length 0 0∧F' 5 = .int .i64 (LU (l.take i))∧F' 63 = .sl m 4 (l.map FC)∧F' 64 = .int .i64 (l.length:Nat)∧F' 65 = .int .i64 (i:Nat)∧H'[h.length]? = some (.live 1 [[.sl m 4 (l.map FC)]])∧ext h H') l.length ⟨0,by simp,fun j hj=>absurd hj (by omega),by simp -implicitDefEqProofs only [AA,↓reduceIte,jA,f1],by simp -implicitDefEqProofs only [AA,↓reduceIte,jA]; rfl,by simp -implicitDefEqProofs only [AA,↓reduceIte,jA],by simp -implicitDefEqProofs only [AA,↓reduceIte,jA],by simp -implicitDefEqProofs only [AA,↓reduceIte]; rfl,hH,he⟩ ?_
   clear f1 hH he
   rintro n F H ⟨i,hi,hb,f1,f5,f63,f64,f65,hH,he⟩
   simp -implicitDefEqProofs only [BB,A8,BJ,A7,AZ,BA,AC,AQ,AO,BD,AX,AL,AA,AY,BR,AB,DF,↓reduceIte,jB,jC,enP,f64,f65]
   refine CS (fun hc => ?_) (fun hc => ?_)
   ·have hi':i < l.length:=by simpa using hc
    have hH1:(H ++ [ABlk.live 4 [FC l[i]]])[h.length]? = _:=CX hH
    have hx1:ext h (H ++ [ABlk.live 4 [FC l[i]]]):=he.app _
    have ge:=C9 H (ABlk.live 4 [FC l[i]])
    simp -implicitDefEqProofs only [BB,CJ,A8,BQ,A7,AZ,BA,AC,AQ,AO,BD,AX,AL,DV,AA,AY,BI,BC,EX,BN,CY,CU,BV,AB,BZ,↓reduceIte,jA,jB,jC,enP,RS,jJ,f63,f65,EJ hi',ldV hi',AQA,AOC]
    generalize H ++ [ABlk.live 4 [FC l[i]]]=H1 at hH1 hx1 ge ⊢
    have l0:DI Tryz.prog H1 9 (.ptr H.length 0 0)=some (.str l[i].name):=by rw [DC ag9 ge (row:=FC l[i]) rfl]; rfl
    have l1:DI Tryz.prog H1 3 (.ptr H.length 0 1)=some (.int .i64 l[i].width):=by rw [DC ag3 ge (row:=FC l[i]) rfl]; rfl
    have l2:DI Tryz.prog H1 3 (.ptr H.length 0 2)=some (.int .i64 l[i].mode):=by rw [DC ag3 ge (row:=FC l[i]) rfl]; rfl
    simp -implicitDefEqProofs only [AZ,AC,AQ,AO,BD,AX,AL,AA,AY,BO,BN,BG,BX,BP,AB,jF,jD,jE,↓reduceIte,jA,jI,jB,jC,enP,N9,f1,IB UF hH1,l0]
    refine (index_prog G l m l[i].name _ (by omega)).use ?_
    simp -implicitDefEqProofs only [BJ,A7,AZ,BA,AC,AQ,AO,BD,AX,AL,AA,AY,BI,BR,AB,FU,↓reduceIte,jA,jB,jC,enP]
    refine CS (fun hd => ?_) (fun hd => ?_)
    ·simp -implicitDefEqProofs only [BB,A8,BK,A7,CQ,D5,MR,FV,AZ,BA,AC,AQ,AO,BD,AX,AL,AA,AU,BH,BC,↓reduceIte,jB,jC]
     refine ⟨?_,hx1⟩
     rw [hv1 true (AE6 hi' ((AEA hi').1 (by simpa [bne] using hd)))]; rfl
    have hnd:plc (l.take i) l[i].name < 0:=by
     rcases Int.lt_or_le (plc (l.take i) l[i].name) 0 with h1 | h1
     ·exact h1
     ·exact absurd (by simpa [bne] using hd) ((AEA hi').2 h1)
    have hb2 : ∀ (j:Nat) (hj:j < i+1) (hl:j < l.length),plc (l.take j) l[j].name < 0:=fun j hj hl=>by
     rcases jT j i with h1 | h1
     ·exact hb j h1 hl
     ·obtain rfl:j=i:=by omega
      exact hnd
    have hbt:=U9 hi'
    have hbd:=AAB l hall (i+1) (by omega)
    simp -implicitDefEqProofs only [BB,A8,BQ,BJ,A7,AZ,BA,AC,AQ,AO,BD,AX,AL,AA,AY,AU,BH,BN,BR,BG,AB,FU,↓reduceIte,jA,jG,jB,jC,enP,LD,l2]
    refine CS (fun hm => ?_) (fun hm => ?_)
    ·have hm' : ¬ l[i].mode=0:=by simpa [bne] using hm
     rw [if_neg hm'] at hbt
     have hw:IntKind.i64.wrap (LU (l.take i)+l[i].width)=LU (l.take (i+1)):=by rw [hbt,wrap_i64 (by omega) (by omega)]
     simp -implicitDefEqProofs only [A8,A7,EO,FK,AZ,BA,AC,AQ,AO,BD,AX,AL,AA,AY,AU,BH,BI,BC,BN,BR,BG,AB,DZ,↓reduceIte,jA,jG,jB,jC,enP,L8,f5,f65,l1,hw,wrap_succ (show i < 9223372036854775807 by omega)]
     exact ⟨n - 1,by omega,i+1,by omega,hb2,by trivial,rfl,by trivial,by trivial,rfl,hH1,hx1⟩
    ·have hm':l[i].mode=0:=by simpa [bne] using hm
     rw [if_pos hm',Int.add_zero] at hbt
     simp -implicitDefEqProofs only [A8,BQ,A7,EO,FK,AZ,BA,AC,AQ,AO,BD,AX,AL,AA,AY,AU,BH,BI,BR,AB,DZ,↓reduceIte,jA,jB,jC,enP,f65,wrap_succ (show i < 9223372036854775807 by omega)]
     exact ⟨n - 1,by omega,i+1,by omega,hb2,by trivial,by rw [hbt]; exact f5,by trivial,by trivial,rfl,hH1,hx1⟩
   ·have hi' : ¬ i < l.length:=by simpa using hc
    simp -implicitDefEqProofs only [D6,E5,N8,GG,AA,↓reduceIte,jA]
    refine ⟨f1,?_,hH,he,ABP fun j hj=>hb j (by omega) hj⟩
    rw [jY (by omega)] at f5; exact f5
  ·rintro F' H' ⟨g1,g5,hH',he',hd⟩
   have hv2:=hv1 _ hd
   simp -implicitDefEqProofs only [BB,CJ,A8,A7,FY,AZ,AC,AQ,AO,BD,AX,AL,AA,AY,BO,BN,IX,BX,BP,AB,jF,jD,jE,↓reduceIte,jA,jB,jC,enP,g1,IB UF hH']
   refine (APC G l m 106 [.ptr h.length 0 0] (fun v=>NW l v.name) H' (by omega) fun v hv=>AT9 G hG l m v _ _ hH' hl (hnm v hv).2 (hnm v hv).1).use ?_
   simp -implicitDefEqProofs only [BJ,A7,AZ,BA,AC,AQ,AO,BD,AX,AL,AA,AY,BC,↓reduceIte,jB,jC]
   refine CS (fun hg => ?_) (fun hg => ?_)
   ·simp -implicitDefEqProofs only [BB,A8,BK,A7,CQ,D5,CW,AZ,BA,AC,AQ,AO,BD,AX,AL,AA,AU,BH,BC,↓reduceIte,jB,jC]
    exact ⟨by rw [hv2,hg]; rfl,he'⟩
   simp -implicitDefEqProofs only [BB,A8,BJ,A7,AZ,BA,AC,AQ,AO,BD,AX,AL,AA,AY,AU,BH,BI,BC,BR,AB,E8,↓reduceIte,jA,jB,jC,enP,g5]
   refine CS (fun hx => ?_) (fun hx => ?_)
   ·simp -implicitDefEqProofs only [BB,A8,BK,A7,CQ,D5,CW,AZ,BA,AC,AQ,AO,BD,AX,AL,AA,AU,BH,BC,↓reduceIte,jB,jC]
    refine ⟨?_,he'⟩
    rw [hv2,hg,if_neg (by decide),if_neg (by decide),if_pos (by simpa using hx)]
   ·simp -implicitDefEqProofs only [BB,A8,BQ,BK,A7,EO,CW,AZ,BA,AC,AQ,AO,BD,AX,AL,AA,AU,BH,BC,↓reduceIte,jB,jC]
    refine ⟨?_,he'⟩
    rw [hv2,hg,if_neg (by decide),if_neg (by decide),if_neg (by simpa using hx)]
  ·rintro F' H' ⟨g2,he'⟩
   simp -implicitDefEqProofs only [CQ,D5,CW,g2]
   exact ⟨trivial,he'⟩
 ·rintro F H ⟨f2,he⟩
  simp -implicitDefEqProofs only [CQ,D5,CW,f2]
  exact ⟨trivial,he⟩
theorem AJX (i:Nat):decide ((i:Int) < 0)=false:=by rw [decide_eq_false_iff_not]; omega
theorem AT4:Frz CV:=fun n h d x=>by
 rw [LY]; exact ⟨rfl,rfl⟩
def growR_ren:Go.Shelf.Ren:=⟨fun | 4=>160 | n=>n,fun | 22=>23 | 25=>40 | 3=>3 | 4=>4 | 9=>9 | 20=>20 | 0=>0 | n=>n,fun | n=>n⟩
theorem AQW:Go.Proofs.Lays8.n4 Tryz.prog growR_ren := {
 mixed:=by kernel_rfl,
 f4:=⟨Tryz.f160.name,by decide,Tryz.func160.trans (congrArg some (by kernel_rfl))⟩,
 t0:=Tryz.underlying0,
 a0:=Tryz.isAgg0,
 z0:=Tryz.sizeOf0,
 v0:=Tryz.zeroValue0,
 t3:=Tryz.underlying3,
 a3:=Tryz.isAgg3,
 z3:=Tryz.sizeOf3,
 v3:=Tryz.zeroValue3,
 t4:=Tryz.underlying4,
 a4:=Tryz.isAgg4,
 z4:=Tryz.sizeOf4,
 v4:=Tryz.zeroValue4,
 t9:=Tryz.underlying9,
 a9:=Tryz.isAgg9,
 z9:=Tryz.sizeOf9,
 v9:=Tryz.zeroValue9,
 t20:=Tryz.underlying20,
 a20:=Tryz.isAgg20,
 z20:=Tryz.sizeOf20,
 v20:=Tryz.zeroValue20,
 t22:=Tryz.underlying23,
 a22:=Tryz.isAgg23,
 z22:=Tryz.sizeOf23,
 v22:=Tryz.zeroValue23 }
theorem AN2 (z:Array Value) (n:Nat):(Builtin.zeroCells z n).size=n * z.size:=by simp [Builtin.zeroCells]
theorem AKA (G:Nat→AV) (n:Nat) (hn:n≤1048576) (h:Hp):ACalls (En G) 160 [.sl .nil 0 [],.int .i64 (n:Nat)] h fun v H=>(n=0∧v = .sl .nil 0 []∧H=h)∨(0 < n∧v = .own h.length 0 0∧H=h ++ [.live 4 []]):=by
 refine ⟨cok 160 G (by kernel_rfl),fun g w cargs S ha => ?_⟩
 obtain ⟨hsz,hget⟩:=ha
 obtain ⟨cv0,cv1,rfl⟩ : ∃ a b,cargs = #[a,b]:=by
  obtain ⟨l⟩:=cargs
  match l,hsz with
  | [a,b],_=>exact ⟨a,b,rfl⟩
 have r0:=(hget 0 _ cv0 rfl rfl).sl_inv
 obtain rfl:=(hget 1 _ cv1 rfl rfl).int_inv
 have hnil:cv0 = .slice none 0 0:=by
  cases r0 with
  | nil=>rfl
  | empty _ _ _ _ q=>exact absurd rfl q
  | sl _ _ _ _ _ _ _ _ _ _ _ q=>exact absurd rfl q
 subst hnil
 rcases Nat.eq_zero_or_pos n with h0 | h0
 ·subst h0
  refine (Any8.slices_Grow_room AQW none 0 0 0 w (jL _) (by omega) (by omega) (jL _)).mono ?_
  rintro e w' ⟨rfl,rfl⟩
  exact .inl ⟨_,_,g,h,rfl,.inl ⟨rfl,rfl,rfl⟩,Gh.le.refl g,S,.fro (.nil 0)⟩
 ·have i0:Tryz.prog.info? 40=some Tryz.t40:=by kernel_rfl
  have hz:Tryz.t40.zero.isSome=true:=by kernel_rfl
  obtain ⟨z,hz⟩:=Option.isSome_iff_exists.1 hz
  have hs:Tryz.t40.size=4:=by kernel_rfl
  have hb:Tryz.t40.bytes≤64:=jH (by kernel_rfl)
  have hmul:n * Tryz.t40.bytes≤1048576 * 64:=Nat.mul_le_mul hn hb
  have hzs:z.cells.size=4:=by
   have h1:(Tryz.t40.zero.map fun z=>z.cells.size)=some 4:=by kernel_rfl
   rw [hz] at h1; simpa using h1
  have hc:=Any8.slices_Grow_grow AQW Tryz.t40 z i0 hz (by rw [hs]; omega) none 0 0 n [] w (jL _) (by omega) (by rw [jG]; omega) (by omega) (by simp) (fun _=>rfl) (fun a q=>by cases q)
  refine hc.mono ?_
  rintro e w' ⟨rfl,rfl⟩
  generalize hG:grownCap w (0+n) 0 (growR_ren.t 25)=cap
  have hle:0+n≤cap:=hG ▸ grownCap_ge w _ _ _
  have hgr:Grew w (w.drew.alloc (.cells ((#[]:Array Value) ++ Builtin.zeroCells z.cells (0+n - 0) ++ Builtin.zeroCells z.cells (cap - (0+n))) (growR_ren.t 25))) (.cells ((#[]:Array Value) ++ Builtin.zeroCells z.cells (0+n - 0) ++ Builtin.zeroCells z.cells (cap - (0+n))) (growR_ren.t 25) (0,0)):=⟨rfl,rfl,rfl,rfl⟩
  have hsize:((#[]:Array Value) ++ Builtin.zeroCells z.cells (0+n - 0) ++ Builtin.zeroCells z.cells (cap - (0+n))).size=cap * 4:=by
   simp only [Array.size_append,AN2,hzs,List.size_toArray,List.length_nil]; omega
  generalize ((#[]:Array Value) ++ Builtin.zeroCells z.cells (0+n - 0) ++ Builtin.zeroCells z.cells (cap - (0+n)))=c at hgr hsize
  obtain ⟨S',hle'⟩:=S.new (k:=4) (xs := []) hgr ⟨by simp,fun i row h=>by simp at h,fun i j row v h=>by simp at h⟩
  refine .inl ⟨_,_,_,_,rfl,.inr ⟨h0,rfl,rfl⟩,hle',S',?_⟩
  exact Rep.own h.length 0 0 cap ⟨w.heap.size,0,4,c.size⟩ (by simp [Gh.adopt]) (Nat.zero_le _) (by simp only [hsize]; omega)
structure Yx where
 m:SM
 l:List Ex
def ABM (y:Yx):List AV := [.sl y.m 4 (y.l.map CV)]
theorem AMZ (y:Yx):(ABM y)[0]? = some (.sl y.m 4 (y.l.map CV)):=rfl
def fl (R:List Yx):List Ex:=(R.map Yx.l).flatten
theorem ABF {R:List Yx} {i:Nat} (hi:i < R.length):fl (R.take (i+1))=fl (R.take i) ++ R[i].l:=by
 unfold fl
 rw [zY hi,List.map_append,List.flatten_append]; simp
theorem VZ (R:List Yx) (i:Nat):(fl (R.take i)).length≤(fl R).length:=by
 have:fl R=fl (R.take i) ++ fl (R.drop i):=by unfold fl; rw [← List.flatten_append,← List.map_append,List.take_append_drop]
 rw [this,zQ]; omega
def AOM (h:Hp) (ys:List Ex) (v:AV) (H:Hp):Prop:=(v = .sl .nil 0 []∧ys = [])∨∃ o,h.length≤o∧v = .own o 0 ys.length∧H[o]? = some (.live 4 (ys.map CV))
theorem ALT {h H:Hp} {xs ys:List Ex} {v:AV} (s:SM) (ho:AOM h xs v H) (he:ext h H) (hl:xs.length+ys.length≤8388608) :
  ∃ v' H',IC Tryz.prog true H 23 23 v (.sl s 4 (ys.map CV))=some (v',H')∧AOM h (xs ++ ys) v' H'∧ext h H'∧(v = .sl .nil 0 []→ys = []→v' = .sl .nil 0 []):=by
 cases ys with
 | nil =>
   refine ⟨v,H,?_,by rw [jE]; exact ho,he,fun q _=>q⟩
   have hcs:JZ H (.sl s 4 [])=some (4,[]):=NZ H s 4 []
   rcases ho with ⟨rfl,rfl⟩ | ⟨o,h2,rfl,h3⟩
   ·simp [IC,AJD,JU,SC,hcs,bump]
   ·have hc:JZ H (.own o 0 xs.length)=some (4,xs.map CV):=by rw [TR h3 (by simp),List.drop_zero,jY (by simp)]
    simp [IC,AJD,JU,SC,hc,hcs,bump]
 | cons y ys =>
   have h1:(y :: ys).map CV≠[]:=by simp
   rcases ho with ⟨rfl,rfl⟩ | ⟨o,h2,rfl,h3⟩
   ·exact ⟨_,_,AC9 AJD JU AS2 AUI (NZ H s 4 ((y :: ys).map CV)) h1 (OI (by simp at hl ⊢; omega) (by omega)),.inr ⟨H.length,he.le,by simp,by simp⟩,he.app _,fun _ q=>by cases q⟩
   ·have hc:JZ H (.own o 0 xs.length)=some (4,xs.map CV):=by rw [TR h3 (by simp),List.drop_zero,jY (by simp)]
    exact ⟨_,_,AC8 AJD JU AS2 AUI hc (NZ H s 4 ((y :: ys).map CV)) h1 (OI (by simp at hl ⊢; omega) (by omega)),.inr ⟨H.length,he.le,by simp,by simp⟩,(he.set h2 _).app _,fun q=>by cases q⟩
section
variable (G:Nat→AV)
set_option maxHeartbeats 4000000 in
theorem AFD (R:List Yx) (s:SM) (hR:R.length≤1048576) (hl:(fl R).length≤1048576) (h:Hp):PCall (En G) 108 [.sl s 1 (R.map ABM)] h (.sl (Cov.nm (fl R)) 4 ((fl R).map CV)):=by
 refine TM AT4 ?_
 refine acN Tryz.func108 rfl ?_
 show awp _ _ _ _ _ (EH _ [.tmp 2] _)
 simp -implicitDefEqProofs only [BB,CJ,A8,A7,AZ,BA,AC,AQ,AO,BD,AX,AL,AA,AY,AU,BH,LG,BI,BC,FH,AB,BF,↓reduceIte,jA,jB,jC,enP,AQU,jM]
 refine JC 0 (fun F H'=>F 0 = .sl s 1 (R.map ABM)∧F 3 = .int .i64 ((fl R).length:Nat)∧H'=h) (fun _ _=>False) ?_ ?_ (fun _ _ q=>q.elim)
 ·refine D8 (fun n F H' => ∃ i,n+i=R.length∧F 0 = .sl s 1 (R.map ABM)∧F 3 = .int .i64 ((fl (R.take i)).length:Nat)∧F 9 = .sl s 1 (R.map ABM)∧F 10 = .int .i64 (R.length:Nat)∧F 11 = .int .i64 (i:Nat)∧H'=h) R.length
   ⟨0,by simp,by simp -implicitDefEqProofs only [AA,BF,↓reduceIte,jA],by simp -implicitDefEqProofs only [AA,↓reduceIte,jA] <;> rfl,by simp -implicitDefEqProofs only [AA,↓reduceIte,jA],by simp -implicitDefEqProofs only [AA,↓reduceIte,jA],by simp -implicitDefEqProofs only [AA,↓reduceIte] <;> rfl,rfl⟩ ?_
  rintro n F H ⟨i,hi,f0,f3,f9,f10,f11,rfl⟩
  simp -implicitDefEqProofs only [BB,A8,BJ,A7,AZ,BA,AC,AQ,AO,BD,AX,AL,AA,AY,BR,AB,DF,↓reduceIte,jB,jC,enP,f10,f11]
  refine CS (fun hc => ?_) (fun hc => ?_)
  ·have hi':i < R.length:=by simpa using hc
   have hfl:=ABF hi'
   have hle:=VZ R (i+1)
   rw [hfl,zQ] at hle
   have hw:IntKind.i64.wrap ((((fl (R.take i)).length:Nat):Int)+((R[i].l.length:Nat):Int))=(((fl (R.take (i+1))).length:Nat):Int):=by rw [hfl,zQ,wrap_i64 (by omega) (by omega)]; omega
   simp -implicitDefEqProofs only [BB,CJ,A8,BQ,BJ,A7,EO,FK,EC,AZ,BA,AC,AQ,AO,BD,AX,AL,AA,AY,AU,BH,BI,BC,BN,BR,CU,FH,AB,DZ,DF,↓reduceIte,jA,jB,jC,enP,TZ,AQV,f3,f9,f11,EJ hi',GR QP hi',AMZ,jM,hw,AJX,wrap_succ (show i < 9223372036854775807 by omega)]
   exact ⟨n - 1,by omega,i+1,by omega,by first | exact True.intro | exact f0,by first | exact True.intro | exact rfl,by first | exact True.intro | exact f9,by first | exact True.intro | exact f10,by first | exact True.intro | exact rfl,by first | exact True.intro | exact rfl⟩
  ·have hi' : ¬ i < R.length:=by simpa using hc
   rw [jY (by omega)] at f3
   simp -implicitDefEqProofs only [D6,E5,N8,GG,AA,↓reduceIte,jA]
   exact ⟨by first | exact True.intro | exact f0,by first | exact True.intro | exact f3,by first | exact True.intro | exact rfl⟩
 rintro F H ⟨f0,f3,rfl⟩
 simp -implicitDefEqProofs only [BB,A8,A7,FY,AZ,AC,AQ,AO,BD,AX,AL,AA,AY,AU,BO,LG,BI,BX,BP,jF,jD,jE,↓reduceIte,jB,jC,f3]
 refine (AKA G (fl R).length hl H).mono ?_
 intro v0 H0 hg
 have I0:AOM H [] v0 H0∧Sm.ext H H0∧((fl R).length=0→v0 = .sl .nil 0 []):=by
  rcases hg with ⟨h0,rfl,rfl⟩ | ⟨h0,rfl,rfl⟩
  ·exact ⟨.inl ⟨rfl,rfl⟩,ext.rfl' _,fun _=>rfl⟩
  ·exact ⟨.inr ⟨H.length,jL _,rfl,C9 _ _⟩,(ext.rfl' H).app _,fun q=>by omega⟩
 simp -implicitDefEqProofs only [BB,CJ,A8,A7,AZ,BA,AC,AQ,AO,BD,AX,AL,AA,AY,AU,BH,BI,BC,FH,AB,↓reduceIte,jA,jB,jC,enP,AQU,f0,jM]
 refine D8 (fun n F H' => ∃ i v,n+i=R.length∧F 6=v∧F 25 = .sl s 1 (R.map ABM)∧F 26 = .int .i64 (R.length:Nat)∧F 27 = .int .i64 (i:Nat)∧AOM H (fl (R.take i)) v H'∧Sm.ext H H'∧((fl R).length=0→v = .sl .nil 0 [])) R.length
  ⟨0,v0,by simp,by simp -implicitDefEqProofs only [AA,↓reduceIte,jA],by simp -implicitDefEqProofs only [AA,↓reduceIte,jA],by simp -implicitDefEqProofs only [AA,↓reduceIte,jA],by simp -implicitDefEqProofs only [AA,↓reduceIte] <;> rfl,by rw [List.take_zero]; exact I0.1,I0.2.1,I0.2.2⟩ ?_
 clear I0 hg f0 f3
 rintro n F H' ⟨i,v,hi,f6,f25,f26,f27,ho,hx,hz⟩
 simp -implicitDefEqProofs only [BB,A8,BJ,A7,AZ,BA,AC,AQ,AO,BD,AX,AL,AA,AY,BR,AB,DF,↓reduceIte,jB,jC,enP,f26,f27]
 refine CS (fun hc => ?_) (fun hc => ?_)
 ·have hi':i < R.length:=by simpa using hc
  have hfl:=ABF hi'
  have hle:=VZ R (i+1)
  rw [hfl,zQ] at hle
  obtain ⟨v',H2,ha,ho2,hx2,hn2⟩:=ALT R[i].m ho hx (ys:=R[i].l) (by omega)
  rw [← hfl] at ho2
  simp -implicitDefEqProofs only [BB,CJ,A8,BQ,A7,EO,FK,AZ,BA,AC,AQ,AO,BD,AX,AL,AA,AY,AU,BH,BI,BC,BN,BR,CU,MK,BV,AB,DZ,↓reduceIte,jA,jB,jC,enP,AQV,f6,f25,f27,EJ hi',GR QP hi',AMZ,ha,wrap_succ (show i < 9223372036854775807 by omega)]
  exact ⟨n - 1,by omega,i+1,v',by omega,by first | exact True.intro | exact rfl,by first | exact True.intro | exact f25,by first | exact True.intro | exact f26,by first | exact True.intro | exact rfl,ho2,hx2,fun q=>hn2 (hz q) (List.length_eq_zero_iff.1 (by omega))⟩
 ·have hi' : ¬ i < R.length:=by simpa using hc
  rw [jY (by omega)] at ho
  simp -implicitDefEqProofs only [BB,A8,BK,D6,A7,E5,FY,GG,CW,AZ,BA,AC,AQ,AO,BD,AX,AL,AA,AY,BI,BC,↓reduceIte,jA,jB,jC,f6]
  refine ⟨hx,?_⟩
  rcases ho with ⟨h1,h2⟩ | ⟨o,h1,h2,h3⟩
  ·exact .inl ⟨h2,h1⟩
  ·refine .inr ⟨fun q => ?_,o,h1,h2,h3⟩
   have:=hz (by rw [q]; rfl)
   rw [this] at h2; cases h2
end
end Go.Proofs.YtokehnfjjmpanaaGreatDoor.Bd
