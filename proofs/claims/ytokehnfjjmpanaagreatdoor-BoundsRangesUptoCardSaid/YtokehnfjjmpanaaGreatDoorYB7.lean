/- Part 7 of the proof (H2, H3, Sg, Sr, Sh, Cf, L1, X1, X3, Y0, X4); no condition. -/
import Derived.Test.YtokehnfjjmpanaaGreatDoorRows
import Derived.Carry
import Derived.ReadAgain
import Derived.ChangeSame
import Derived.OpenShut
import Derived.WideKeyArgs
import Derived.Test.YtokehnfjjmpanaaGreatDoorCards
import Derived.JoinedCond
import Derived.KernelRfl
import Derived.Test.YtokehnfjjmpanaaGreatDoorYB6
set_option linter.unusedVariables false
set_option linter.unusedSimpArgs false
set_option maxRecDepth 8000
namespace Go.Proofs.YtokehnfjjmpanaaGreatDoor.Wd
open Sm Bins Cov Go.RowKit
open Bool renaming not_false→jC
open Int renaming toNat_natCast→zG,eq_ofNat_of_zero_le→zI
open List renaming map_cons→jF,map_nil→jD,append_nil→jE
open Nat renaming mod_lt→qW,le_refl→jQ,reduceAdd→jL,add_zero→jH,le_of_ble_eq_true→jJ,reduceEqDiff→jA
open Option renaming getD_some→jB
def wW (z:Int):Nat:=(z % 65536).toNat
theorem APJ (z:Int):wW z < 65536:=by unfold wW; omega
theorem API {a:Nat} (h:a < 65536):wW (a:Int)=a:=by unfold wW; omega
theorem ATD (z:Int):((wW z:Nat):Int)=z % 65536:=by unfold wW; omega
def J7 (a i:Nat):Nat:=a / 2 ^ i % 2
def IL (a:Nat):Nat→Nat
 | 0=>0
 | k+1=>IL a k+J7 a k
def U4 (a:Nat):Nat:=IL a 16
def AHB (a:Nat) (n:Int):Nat:=if n < 0∨n≥16 then 0 else a * 2 ^ n.toNat % 65536
def AA1 (a:Nat) (n:Int):Nat:=if n < 0∨n≥16 then 0 else a / 2 ^ n.toNat
theorem Y4 (a i:Nat):J7 a i < 2:=qW _ (by omega)
theorem N9 (a:Nat) : ∀ k,IL a k≤k
 | 0=>jQ 0
 | k+1=>by have:=N9 a k; have:=Y4 a k; unfold IL; omega
theorem SY (a i:Nat) (hi:i < 8):J7 (a % 256) i=J7 a i:=by
 unfold J7
 have:i=0∨i=1∨i=2∨i=3∨i=4∨i=5∨i=6∨i=7:=by omega
 rcases this with rfl | rfl | rfl | rfl | rfl | rfl | rfl | rfl <;> simp only [Nat.reducePow] <;> omega
theorem ASD (a i:Nat):J7 (a / 256) i=J7 a (8+i):=by
 unfold J7
 rw [Nat.div_div_eq_div_mul,Nat.pow_add]
theorem AP8 (a:Nat):U4 a=IL (a / 256) 8+IL (a % 256) 8:=by
 unfold U4
 simp only [IL,ASD,SY a 0 (by omega),SY a 1 (by omega),SY a 2 (by omega),SY a 3 (by omega),SY a 4 (by omega),SY a 5 (by omega),SY a 6 (by omega),SY a 7 (by omega),jL,jH]
 omega
theorem AV3 {n:Int} (h0:0≤n) (h1:n < 65536):IntKind.u16.wrap n=n:=by
 have e:IntKind.u16.wrap n=n % 65536:=by simp [IntKind.wrap,IntKind.bits,IntKind.signed]
 rw [e]; omega
theorem AVS (z:Int):IE Tryz.prog 3 .and (.int .i64 z) (.int .i64 65535)=some (.int .i64 ((wW z:Nat):Int)):=by
 have e:IE Tryz.prog 3 .and (.int .i64 z) (.int .i64 65535)=some (.int .i64 (IntKind.i64.wrap ((BitVec.ofInt 64 z &&& BitVec.ofInt 64 65535).toNat:Int))):=rfl
 rw [e,BitVec.toNat_and]
 have h1:(BitVec.ofInt 64 65535).toNat=2 ^ 16 - 1:=by decide
 rw [h1,Nat.and_two_pow_sub_one_eq_mod,BitVec.toNat_ofInt]
 have h2:((z % ((2 ^ 64:Nat):Int)).toNat % 2 ^ 16)=wW z:=by
  unfold wW
  simp only [Nat.reducePow]
  omega
 rw [h2,MJ (by have:=APJ z; omega)]
theorem AOQ (a:Nat) (h:a < 65536):(BitVec.ofInt 64 (a:Int)).toNat=a:=by
 rw [BitVec.ofInt_natCast,BitVec.toNat_ofNat]
 exact Nat.mod_eq_of_lt (by omega)
theorem A1I (a b:Nat) (ha:a < 65536) (hb:b < 65536):IE Tryz.prog 3 .and (.int .i64 (a:Nat)) (.int .i64 (b:Nat))=some (.int .i64 ((a &&& b:Nat):Int)):=by
 have e:IE Tryz.prog 3 .and (.int .i64 (a:Nat)) (.int .i64 (b:Nat))=some (.int .i64 (IntKind.i64.wrap ((BitVec.ofInt 64 (a:Int) &&& BitVec.ofInt 64 (b:Int)).toNat:Int))):=rfl
 have hx:a &&& b < 2 ^ 16:=Nat.and_lt_two_pow _ (by omega)
 rw [e,BitVec.toNat_and,AOQ a ha,AOQ b hb,MJ (by omega)]
theorem A2O (a b:Nat) (ha:a < 65536) (hb:b < 65536):IE Tryz.prog 3 .or (.int .i64 (a:Nat)) (.int .i64 (b:Nat))=some (.int .i64 ((a ||| b:Nat):Int)):=by
 have e:IE Tryz.prog 3 .or (.int .i64 (a:Nat)) (.int .i64 (b:Nat))=some (.int .i64 (IntKind.i64.wrap ((BitVec.ofInt 64 (a:Int) ||| BitVec.ofInt 64 (b:Int)).toNat:Int))):=rfl
 have hx:a ||| b < 2 ^ 16:=Nat.or_lt_two_pow (by omega) (by omega)
 rw [e,BitVec.toNat_or,AOQ a ha,AOQ b hb,MJ (by omega)]
theorem AY1 (a b:Nat) (ha:a < 65536) (hb:b < 65536):IE Tryz.prog 3 .xor (.int .i64 (a:Nat)) (.int .i64 (b:Nat))=some (.int .i64 ((a ^^^ b:Nat):Int)):=by
 have e:IE Tryz.prog 3 .xor (.int .i64 (a:Nat)) (.int .i64 (b:Nat))=some (.int .i64 (IntKind.i64.wrap ((BitVec.ofInt 64 (a:Int) ^^^ BitVec.ofInt 64 (b:Int)).toNat:Int))):=rfl
 have hx:a ^^^ b < 2 ^ 16:=Nat.xor_lt_two_pow (by omega) (by omega)
 rw [e,BitVec.toNat_xor,AOQ a ha,AOQ b hb,MJ (by omega)]
theorem AT3 (G:Nat→AV) (z:Int) (h:Hp):PCall (En G) 175 [.int .i64 z] h (.int .u16 ((wW z:Nat):Int)):=by
 have:=APJ z
 refine acN Tryz.func175 rfl ?_
 show awp _ _ _ _ _ (EN _ [.tmp 2] _)
 simp -implicitDefEqProofs only [BB,A8,BK,A7,CV,AZ,BA,AO,AQ,AL,BD,AY,AC,AA,AX,AU,BH,BJ,BC,BU,QF,AB,BF,↓reduceIte,jA,jB,jC,enX,enP,AVA,AVS,AV3 (n:=((wW z:Nat):Int)) (by omega) (by omega)]
 exact ⟨trivial,trivial⟩
theorem ATN {a:Nat} {n:Int}:AHB a n < 65536:=by
 unfold AHB
 split
 ·omega
 ·exact qW _ (by omega)
theorem ATM {a:Nat} {n:Int} (ha:a < 65536):AA1 a n < 65536:=by
 unfold AA1
 split
 ·omega
 ·exact Nat.lt_of_le_of_lt (Nat.div_le_self _ _) ha
def AL0 (fn:Func):ByteArray:=match fn.body with
 | some (.seq _ (.seq (.region _ ops _) _))=>match ops[2]? with
   | some o=>match o.op with
     | .index _ (.const (.string s)) _=>s
     | _=>⟨#[]⟩
   | none=>⟨#[]⟩
 | _=>⟨#[]⟩
theorem ATJ:(List.range 256).all (fun y=>(AL0 Tryz.f174)[y]? == some (UInt8.ofNat (IL y 8)))=true:=by kernel_rfl
theorem APQ {y:Nat} (hy:y < 256) (h:Hp):ofO h (L9 Tryz.prog 9 (.str (AL0 Tryz.f174)) (.int .u16 (y:Nat)))=some (.int .u8 (IL y 8:Nat),h):=by
 have h1:=List.all_eq_true.1 ATJ y (by simpa using hy)
 have h2:(AL0 Tryz.f174)[y]? = some (UInt8.ofNat (IL y 8)):=by simpa using h1
 have hle:=N9 y 8
 have hu:Tryz.prog.underlying 9=some .string:=by kernel_rfl
 have h3:L9 Tryz.prog 9 (.str (AL0 Tryz.f174)) (.int .u16 (y:Nat))=some (.int .u8 (IL y 8:Nat)):=by
  unfold L9
  simp only [hu,zG,h2]
  rw [if_pos (by omega)]
  simp
  omega
 rw [h3]; rfl
theorem AL4 (a b:Nat) (hb:0 < b) (ha:a≤9223372036854775807):IE Tryz.prog 3 .quo (.int .i64 (a:Int)) (.int .i64 (b:Int))=some (.int .i64 ((a / b:Nat):Int)):=by
 have h1:((a:Int).tdiv (b:Int))=((a / b:Nat):Int):=by rw [Int.tdiv_eq_ediv_of_nonneg (by omega)]; rfl
 have h2:=Nat.div_le_self a b
 rw [AM4 _ _ _ _ _ (by omega),h1,MJ (by omega)]
theorem ATV (a b:Nat) (hb:0 < b):IE Tryz.prog 3 .rem (.int .i64 (a:Int)) (.int .i64 (b:Int))=some (.int .i64 ((a % b:Nat):Int)):=by
 rw [UY _ _ _ _ _ (by omega),Int.tmod_eq_emod_of_nonneg (by omega)]; rfl
set_option maxHeartbeats 1000000 in
theorem ANU (G:Nat→AV) (a:Nat) (ha:a < 65536) (h:Hp):PCall (En G) 139 [.int .i64 (a:Nat)] h (.int .i64 (U4 a:Nat)):=by
 have hs:IE Tryz.prog 55 .shr (.int .u16 (a:Nat)) (.int .u64 8)=some (.int .u16 ((a / 256:Nat):Int)):=by
  have e:IE Tryz.prog 55 .shr (.int .u16 (a:Nat)) (.int .u64 8)=some (.int .u16 ((a:Int).fdiv (2 ^ 8))):=rfl
  rw [e,Int.fdiv_eq_ediv_of_nonneg _ (by decide)]
  rfl
 have hl:IE Tryz.prog 55 .and (.int .u16 (a:Nat)) (.int .u16 255)=some (.int .u16 ((a % 256:Nat):Int)):=by
  have e:IE Tryz.prog 55 .and (.int .u16 (a:Nat)) (.int .u16 255)=some (.int .u16 (IntKind.u16.wrap ((BitVec.ofInt 16 (a:Int) &&& BitVec.ofInt 16 255).toNat:Int))):=rfl
  have h1:(BitVec.ofInt 16 255).toNat=2 ^ 8 - 1:=by decide
  have h2:(BitVec.ofInt 16 (a:Int)).toNat=a:=by
   rw [BitVec.ofInt_natCast,BitVec.toNat_ofNat]
   exact Nat.mod_eq_of_lt (by omega)
  rw [e,BitVec.toNat_and,h1,Nat.and_two_pow_sub_one_eq_mod,h2,AV3 (by omega) (by simp only [Nat.reducePow]; omega)]
 have l1:=N9 (a / 256) 8
 have l2:=N9 (a % 256) 8
 have hadd:IE Tryz.prog 5 .add (.int .u8 (IL (a / 256) 8:Nat)) (.int .u8 (IL (a % 256) 8:Nat))=some (.int .u8 (U4 a:Nat)):=by
  have e:IE Tryz.prog 5 .add (.int .u8 (IL (a / 256) 8:Nat)) (.int .u8 (IL (a % 256) 8:Nat))=some (.int .u8 (IntKind.u8.wrap ((IL (a / 256) 8:Int)+(IL (a % 256) 8:Int)))):=rfl
  have e2 : ∀ n:Int,IntKind.u8.wrap n=n % 256:=fun n=>by simp [IntKind.wrap,IntKind.bits,IntKind.signed]
  have e3:=AP8 a
  rw [e,e2]
  congr 2
  omega
 have h64:IntKind.i64.wrap ((U4 a:Nat):Int)=((U4 a:Nat):Int):=MJ (by have:=N9 a 16; unfold U4; omega)
 have hc:PCall (En G) 174 [.int .u16 (a:Nat)] h (.int .i64 (U4 a:Nat)):=by
  refine acN Tryz.func174 rfl ?_
  show awp _ _ _ _ _ (EN _ [.tmp 2] _)
  simp -implicitDefEqProofs only [BB,A8,A7,AZ,BA,AO,AQ,AL,BD,AY,AC,AU,BH,BC,jB,jC,enX,enP]
  refine EK (by kernel_rfl) ?_
  simp -implicitDefEqProofs only [ET,DK,CY,DL,EH,HY,AE7,AO,AA,AX,AU,BH,IB,BU,LJ,AB,BF,↓reduceIte,jA,jL,jB,enP,hs,hl]
  refine WM (v := .int .u8 (IL (a / 256) 8:Nat)) (h:=h) (APQ (by omega) h) ?_
  simp -implicitDefEqProofs only [ET,DK,CY,DL,EH,HY,AE7,AO,AA,AX,AU,BH,IB,BU,LJ,AB,BF,↓reduceIte,jA,jL,jB,enP,hs,hl]
  refine WM (v := .int .u8 (IL (a % 256) 8:Nat)) (h:=h) (APQ (by omega) h) ?_
  simp -implicitDefEqProofs only [ET,DK,CY,D7,DL,G5,HY,AE8,BK,A7,CV,AO,AA,AX,BU,QF,AB,↓reduceIte,jA,jL,jB,enP,AIP,hadd,h64]
  exact ⟨trivial,trivial⟩
 have ho:=AT3 G (a:Nat) h
 rw [API ha] at ho
 refine acN Tryz.func139 rfl ?_
 show awp _ _ _ _ _ (EN _ [.tmp 2] _)
 simp -implicitDefEqProofs only [BB,A8,A7,AZ,BA,AO,AQ,AL,BD,AY,AC,AA,AX,AU,BN,BH,BJ,BC,BV,BP,BF,jF,jD,jE,↓reduceIte,jA,jB,jC,enX,enP]
 refine ho.use ?_
 simp -implicitDefEqProofs only [AZ,AO,AQ,AL,BD,AY,AC,AA,AX,BN,BV,BP,jF,jD,jE,↓reduceIte,jB,jC]
 refine hc.use ?_
 simp -implicitDefEqProofs only [BK,A7,CV,AZ,BA,AO,AQ,AL,BD,AY,AC,AA,AX,BC,↓reduceIte,jB,jC]
 exact ⟨trivial,trivial⟩
theorem Q9 (G:Nat→AV) (z:Int) (h:Hp) (hz : -9223372036854775808≤z∧z≤9223372036854775807):PCall (En G) 166 [.int .i64 z] h (.int .i64 (wW z:Nat)):=by
 have hr:IE Tryz.prog 3 .rem (.int .i64 z) (.int .i64 65536)=some (.int .i64 (z.tmod 65536)):=UY _ _ _ _ _ (by decide)
 have hm:z.tmod 65536=if z < 0 then -((-z) % 65536) else z % 65536:=by
  split
  ·have h1:z = -(-z):=by omega
   conv=>lhs; rw [h1]
   rw [Int.neg_tmod,Int.tmod_eq_emod_of_nonneg (by omega)]
  ·rw [Int.tmod_eq_emod_of_nonneg (by omega)]
 have hw:=ATD z
 refine acN Tryz.func166 rfl ?_
 show awp _ _ _ _ _ (EN _ [.tmp 2] _)
 simp -implicitDefEqProofs only [BB,A8,BI,A7,AZ,BA,AO,AQ,AL,BD,AY,AC,AA,AX,AU,BH,BJ,BC,BU,AB,DV,BF,↓reduceIte,jA,jB,jC,enX,enP,hr]
 generalize z.tmod 65536=t at hm ⊢
 have h0 : -65536 < t∧t < 65536:=by
  rw [hm]; split <;> omega
 cases hc:decide (t < 0)
 ·have hc' : ¬ t < 0:=by simpa using hc
  have e:t=((wW z:Nat):Int):=by
   rw [hw]; split at hm <;> omega
  simp -implicitDefEqProofs only [BB,A8,BR,BK,A7,CV,DN,AZ,BA,AO,AQ,AL,BD,AY,AC,AA,AX,BJ,BC,↓reduceIte,jA,jB,jC,hc]
  exact ⟨by rw [e],trivial⟩
 ·have hc':t < 0:=by simpa using hc
  have e:IntKind.i64.wrap (IntKind.i64.wrap (t+65535)+1)=((wW z:Nat):Int):=by
   have e1:IntKind.i64.wrap (t+65535)=t+65535:=wrap_i64 (by omega) (by omega)
   rw [hw,e1,wrap_i64 (by omega) (by omega)]
   split at hm <;> omega
  simp -implicitDefEqProofs only [BB,A8,BK,A7,CV,DI,AZ,BA,AO,AQ,AL,BD,AY,AC,AA,AX,AU,BH,BJ,BC,BU,AB,D6,↓reduceIte,jA,jB,jC,enP,hc,e]
  exact ⟨trivial,trivial⟩
theorem LX (G:Nat→AV) (a:Nat) (ha:a < 65536) (h:Hp):PCall (En G) 166 [.int .i64 (a:Nat)] h (.int .i64 (a:Nat)):=by
 have:=Q9 G (a:Nat) h (by omega)
 rwa [API ha] at this
theorem AEA (G:Nat→AV) (n:Nat) (hn:n≤16) (h:Hp):PCall (En G) 167 [.int .i64 (n:Nat)] h (.int .i64 ((2 ^ n:Nat):Int)):=by
 refine acN Tryz.func167 rfl ?_
 show awp _ _ _ _ _ (EN _ [.tmp 2] _)
 simp -implicitDefEqProofs only [BB,CE,A8,A7,AZ,BA,AO,AQ,AL,BD,AY,AC,AU,BH,BC,jB,jC,enX,enP]
 refine EG (fun k F H => ∃ i,k+i=n∧F 0 = .int .i64 (n:Nat)∧F 3 = .int .i64 ((2 ^ i:Nat):Int)∧F 4 = .int .i64 (i:Nat)∧H=h) n ⟨0,by simp,by simp -implicitDefEqProofs only [AA,BF,↓reduceIte,jA],by simp -implicitDefEqProofs only [AA,↓reduceIte,jA] <;> rfl,by simp -implicitDefEqProofs only [AA,↓reduceIte] <;> rfl,rfl⟩ ?_
 rintro k F H ⟨i,hi,f0,f3,f4,rfl⟩
 simp -implicitDefEqProofs only [BB,A8,BI,A7,AZ,BA,AO,AQ,AL,BD,AY,AC,AA,AX,BJ,BU,AB,DV,↓reduceIte,jA,jB,jC,enP,f0,f4]
 refine CQ (fun hc => ?_) (fun hc => ?_)
 ·have hi':i < n:=by simpa using hc
  have hp:2 ^ i≤2 ^ 16:=Nat.pow_le_pow_right (by omega) (by omega)
  have e:IntKind.i64.wrap (2 * ((2 ^ i:Nat):Int))=((2 ^ (i+1):Nat):Int):=by
   simp only [Nat.reducePow] at hp
   rw [show (2:Int) * ((2 ^ i:Nat):Int)=((2 ^ i * 2:Nat):Int) by rw [Int.natCast_mul,Int.mul_comm]; rfl,Nat.pow_succ]
   exact MJ (by omega)
  simp -implicitDefEqProofs only [BB,CE,A8,BR,A7,EO,FO,AZ,BA,AO,AQ,AL,BD,AY,AC,AA,AX,AU,BH,BJ,BC,BU,AB,D6,UZ,↓reduceIte,jA,jB,jC,enP,f3,f4,e,wrap_succ (show i < 9223372036854775807 by omega)]
  exact ⟨k - 1,by omega,i+1,by omega,f0,by trivial,by trivial,trivial⟩
 ·have hi':i=n:=by
   have : ¬ i < n:=by simpa using hc
   omega
  subst hi'
  simp -implicitDefEqProofs only [BB,A8,BK,EF,A7,FC,F6,F8,CV,AZ,BA,AO,AQ,AL,BD,AY,AC,AA,AX,BJ,BC,↓reduceIte,jA,jB,jC,f3]
  exact ⟨by trivial,trivial⟩
theorem AWP (G:Nat→AV) (a b:Nat) (ha:a < 65536) (hb:b < 65536) (h:Hp):PCall (En G) 153 [.int .i64 (a:Nat),.int .i64 (b:Nat)] h (.int .i64 (((a+b) % 65536:Nat):Int)):=by
 have e:IntKind.i64.wrap ((a:Int)+(b:Int))=(a:Int)+(b:Int):=wrap_i64 (by omega) (by omega)
 have e2:wW ((a:Int)+(b:Int))=(a+b) % 65536:=by unfold wW; omega
 refine acN Tryz.func153 rfl ?_
 show awp _ _ _ _ _ (EN _ [.tmp 4] _)
 simp -implicitDefEqProofs only [BB,A8,A7,AZ,BA,AO,AQ,AL,BD,AY,AC,AA,AX,AU,BN,BH,BJ,BC,BV,BP,BF,jF,jD,jE,↓reduceIte,jA,jB,jC,enX,enP]
 refine (LX G a ha h).use ?_
 simp -implicitDefEqProofs only [AZ,AO,AQ,AL,BD,AY,AC,AA,AX,BN,BJ,BV,BP,BF,BQ,jF,jD,jE,↓reduceIte,jA,jB,jC]
 refine (LX G b hb h).use ?_
 simp -implicitDefEqProofs only [AZ,AO,AQ,AL,BD,AY,AC,AA,AX,BN,BU,BV,BP,AB,D6,jF,jD,jE,↓reduceIte,jA,jB,jC,enP,e]
 refine (Q9 G _ h (by omega)).use ?_
 simp -implicitDefEqProofs only [BK,A7,CV,AZ,BA,AO,AQ,AL,BD,AY,AC,AA,AX,BC,↓reduceIte,jB,jC,e2]
 exact ⟨trivial,trivial⟩
theorem AY9 (G:Nat→AV) (a b:Nat) (ha:a < 65536) (hb:b < 65536) (h:Hp):PCall (En G) 185 [.int .i64 (a:Nat),.int .i64 (b:Nat)] h (.int .i64 (((a+65536 - b) % 65536:Nat):Int)):=by
 have e:IntKind.i64.wrap ((a:Int) - (b:Int))=(a:Int) - (b:Int):=wrap_i64 (by omega) (by omega)
 have e2:wW ((a:Int) - (b:Int))=(a+65536 - b) % 65536:=by unfold wW; omega
 refine acN Tryz.func185 rfl ?_
 show awp _ _ _ _ _ (EN _ [.tmp 4] _)
 simp -implicitDefEqProofs only [BB,A8,A7,AZ,BA,AO,AQ,AL,BD,AY,AC,AA,AX,AU,BN,BH,BJ,BC,BV,BP,BF,jF,jD,jE,↓reduceIte,jA,jB,jC,enX,enP]
 refine (LX G a ha h).use ?_
 simp -implicitDefEqProofs only [AZ,AO,AQ,AL,BD,AY,AC,AA,AX,BN,BJ,BV,BP,BF,BQ,jF,jD,jE,↓reduceIte,jA,jB,jC]
 refine (LX G b hb h).use ?_
 simp -implicitDefEqProofs only [AZ,AO,AQ,AL,BD,AY,AC,AA,AX,BN,BU,BV,BP,AB,II,jF,jD,jE,↓reduceIte,jA,jB,jC,enP,e]
 refine (Q9 G _ h (by omega)).use ?_
 simp -implicitDefEqProofs only [BK,A7,CV,AZ,BA,AO,AQ,AL,BD,AY,AC,AA,AX,BC,↓reduceIte,jB,jC,e2]
 exact ⟨trivial,trivial⟩
theorem mul_lt {a b:Nat} (ha:a < 65536) (hb:b≤65536):a * b≤65535 * 65536:=Nat.mul_le_mul (by omega) hb
theorem AZ5 (G:Nat→AV) (a b:Nat) (ha:a < 65536) (hb:b < 65536) (h:Hp):PCall (En G) 186 [.int .i64 (a:Nat),.int .i64 (b:Nat)] h (.int .i64 ((a * b % 65536:Nat):Int)):=by
 have hm:=mul_lt ha (Nat.le_of_lt hb)
 have e:IntKind.i64.wrap ((a:Int) * (b:Int))=((a * b:Nat):Int):=by rw [← Int.natCast_mul]; exact MJ (by omega)
 have e2:wW ((a * b:Nat):Int)=a * b % 65536:=by unfold wW; omega
 refine acN Tryz.func186 rfl ?_
 show awp _ _ _ _ _ (EN _ [.tmp 4] _)
 simp -implicitDefEqProofs only [BB,A8,A7,AZ,BA,AO,AQ,AL,BD,AY,AC,AA,AX,AU,BN,BH,BJ,BC,BV,BP,BF,jF,jD,jE,↓reduceIte,jA,jB,jC,enX,enP]
 refine (LX G a ha h).use ?_
 simp -implicitDefEqProofs only [AZ,AO,AQ,AL,BD,AY,AC,AA,AX,BN,BJ,BV,BP,BF,BQ,jF,jD,jE,↓reduceIte,jA,jB,jC]
 refine (LX G b hb h).use ?_
 simp -implicitDefEqProofs only [AZ,AO,AQ,AL,BD,AY,AC,AA,AX,BN,BU,BV,BP,AB,UZ,jF,jD,jE,↓reduceIte,jA,jB,jC,enP,e]
 refine (Q9 G _ h (by omega)).use ?_
 simp -implicitDefEqProofs only [BK,A7,CV,AZ,BA,AO,AQ,AL,BD,AY,AC,AA,AX,BC,↓reduceIte,jB,jC,e2]
 exact ⟨trivial,trivial⟩
theorem A0F (G:Nat→AV) (a:Nat) (ha:a < 65536) (h:Hp):PCall (En G) 183 [.int .i64 (a:Nat)] h (.int .i64 ((65535 - a:Nat):Int)):=by
 have e:IntKind.i64.wrap (65535 - (a:Int))=((65535 - a:Nat):Int):=by rw [wrap_i64 (by omega) (by omega)]; omega
 refine acN Tryz.func183 rfl ?_
 show awp _ _ _ _ _ (EN _ [.tmp 2] _)
 simp -implicitDefEqProofs only [BB,A8,A7,AZ,BA,AO,AQ,AL,BD,AY,AC,AA,AX,AU,BN,BH,BJ,BC,BV,BP,BF,jF,jD,jE,↓reduceIte,jA,jB,jC,enX,enP]
 refine (LX G a ha h).use ?_
 simp -implicitDefEqProofs only [BK,A7,CV,AZ,BA,AO,AQ,AL,BD,AY,AC,AA,AX,AU,BH,BC,BU,AB,II,↓reduceIte,jB,jC,enP,e]
 exact ⟨trivial,trivial⟩
theorem AZ4 (G:Nat→AV) (a:Nat) (ha:a < 65536) (h:Hp):PCall (En G) 184 [.int .i64 (a:Nat)] h (.int .i64 (((65536 - a) % 65536:Nat):Int)):=by
 have e:IntKind.i64.wrap (0 - (a:Int))=0 - (a:Int):=wrap_i64 (by omega) (by omega)
 have e2:wW (0 - (a:Int))=(65536 - a) % 65536:=by unfold wW; omega
 refine acN Tryz.func184 rfl ?_
 show awp _ _ _ _ _ (EN _ [.tmp 2] _)
 simp -implicitDefEqProofs only [BB,A8,A7,AZ,BA,AO,AQ,AL,BD,AY,AC,AA,AX,AU,BN,BH,BJ,BC,BV,BP,BF,jF,jD,jE,↓reduceIte,jA,jB,jC,enX,enP]
 refine (LX G a ha h).use ?_
 simp -implicitDefEqProofs only [AZ,AO,AQ,AL,BD,AY,AC,AA,AX,AU,BN,BH,BU,BV,BP,AB,II,jF,jD,jE,↓reduceIte,jB,jC,enP,e]
 refine (Q9 G _ h (by omega)).use ?_
 simp -implicitDefEqProofs only [BK,A7,CV,AZ,BA,AO,AQ,AL,BD,AY,AC,AA,AX,BC,↓reduceIte,jB,jC,e2]
 exact ⟨trivial,trivial⟩
theorem AZK (G:Nat→AV) (a:Nat) (n:Int) (ha:a < 65536) (h:Hp):PCall (En G) 190 [.int .i64 (a:Nat),.int .i64 n] h (.int .i64 (AHB a n:Nat)):=by
 refine acN Tryz.func190 rfl ?_
 show awp _ _ _ _ _ (EN _ [.tmp 4] _)
 simp -implicitDefEqProofs only [BB,A8,A7,AZ,BA,BL,BX,CO,AO,AQ,AL,BD,AY,AC,AA,AX,AU,BH,BJ,BC,BU,AB,DV,BF,BQ,↓reduceIte,jA,jB,jC,enX,enP]
 cases h1:decide (n < 0)
 ·have h1' : ¬ n < 0:=by simpa using h1
  cases h2:decide (n > 15)
  ·have h2' : ¬ n > 15:=by simpa using h2
   obtain ⟨k,rfl⟩:=zI (show 0≤n by omega)
   have hp:2 ^ k≤2 ^ 16:=Nat.pow_le_pow_right (by omega) (by omega)
   have hm:=mul_lt ha hp
   have e:IntKind.i64.wrap ((a:Int) * ((2 ^ k:Nat):Int))=((a * 2 ^ k:Nat):Int):=by rw [← Int.natCast_mul]; exact MJ (by omega)
   have e2:wW ((a * 2 ^ k:Nat):Int)=AHB a (k:Nat):=by
    unfold AHB wW
    rw [if_neg (by omega),zG]
    omega
   simp -implicitDefEqProofs only [BB,A8,BR,BI,A7,DN,AZ,BA,BL,BX,CO,EY,AO,AQ,AL,BD,AY,AC,AA,AX,AU,BN,BH,BM,BJ,CP,DZ,BU,BV,BP,AB,FM,BF,BQ,jF,jD,jE,↓reduceIte,jA,jB,jC,enP,h2]
   refine (LX G a ha h).use ?_
   simp -implicitDefEqProofs only [AZ,AO,AQ,AL,BD,AY,AC,AA,AX,BN,BJ,BV,BP,BF,BQ,jF,jD,jE,↓reduceIte,jA,jB,jC]
   refine (AEA G k (by omega) h).use ?_
   simp -implicitDefEqProofs only [AZ,AO,AQ,AL,BD,AY,AC,AA,AX,BN,BU,BV,BP,AB,UZ,jF,jD,jE,↓reduceIte,jA,jB,jC,enP,e]
   refine (Q9 G _ h (by omega)).use ?_
   simp -implicitDefEqProofs only [BK,A7,CV,AZ,BA,AO,AQ,AL,BD,AY,AC,AA,AX,BC,↓reduceIte,jB,jC,e2]
   exact ⟨trivial,trivial⟩
  ·have h2':n > 15:=by simpa using h2
   simp -implicitDefEqProofs only [BB,A8,BK,BI,A7,CJ,CV,DI,AZ,BA,BL,BX,CO,EY,AO,AQ,AL,BD,AY,AC,AA,AX,AU,BH,BM,BJ,BC,CP,DZ,BU,AB,FM,BF,BQ,↓reduceIte,jA,jB,jC,enP,h2]
   exact ⟨by unfold AHB; rw [if_pos (by omega)]; rfl,trivial⟩
 ·have h1':n < 0:=by simpa using h1
  simp -implicitDefEqProofs only [BB,A8,BK,BI,A7,CJ,CV,DI,AZ,BA,BL,BX,CO,F7,AO,AQ,AL,BD,AY,AC,AA,EQ,AX,AU,BH,BM,BC,CP,DW,↓reduceIte,jA,jB,jC]
  exact ⟨by unfold AHB; rw [if_pos (by omega)]; rfl,trivial⟩
theorem APU (G:Nat→AV) (a:Nat) (n:Int) (ha:a < 65536) (h:Hp):PCall (En G) 124 [.int .i64 (a:Nat),.int .i64 n] h (.int .i64 (AA1 a n:Nat)):=by
 refine acN Tryz.func124 rfl ?_
 show awp _ _ _ _ _ (EN _ [.tmp 4] _)
 simp -implicitDefEqProofs only [BB,A8,A7,AZ,BA,BL,BX,CO,AO,AQ,AL,BD,AY,AC,AA,AX,AU,BH,BJ,BC,BU,AB,DV,BF,BQ,↓reduceIte,jA,jB,jC,enX,enP]
 cases h1:decide (n < 0)
 ·have h1' : ¬ n < 0:=by simpa using h1
  cases h2:decide (n > 15)
  ·have h2' : ¬ n > 15:=by simpa using h2
   obtain ⟨k,rfl⟩:=zI (show 0≤n by omega)
   have hp:0 < 2 ^ k:=Nat.pow_pos (by omega)
   have e2:a / 2 ^ k=AA1 a (k:Nat):=by
    unfold AA1
    rw [if_neg (by omega),zG]
   simp -implicitDefEqProofs only [BB,A8,BR,BI,A7,DN,AZ,BA,BL,BX,CO,EY,AO,AQ,AL,BD,AY,AC,AA,AX,AU,BN,BH,BM,BJ,CP,DZ,BU,BV,BP,AB,FM,BF,BQ,jF,jD,jE,↓reduceIte,jA,jB,jC,enP,h2]
   refine (LX G a ha h).use ?_
   simp -implicitDefEqProofs only [AZ,AO,AQ,AL,BD,AY,AC,AA,AX,BN,BJ,BV,BP,BF,BQ,jF,jD,jE,↓reduceIte,jA,jB,jC]
   refine (AEA G k (by omega) h).use ?_
   simp -implicitDefEqProofs only [BK,A7,CV,AZ,BA,AO,AQ,AL,BD,AY,AC,AA,AX,BC,BU,AB,↓reduceIte,jA,jB,jC,enP,AL4 a (2 ^ k) hp (by omega),e2]
   exact ⟨trivial,trivial⟩
  ·have h2':n > 15:=by simpa using h2
   simp -implicitDefEqProofs only [BB,A8,BK,BI,A7,CJ,CV,DI,AZ,BA,BL,BX,CO,EY,AO,AQ,AL,BD,AY,AC,AA,AX,AU,BH,BM,BJ,BC,CP,DZ,BU,AB,FM,BF,BQ,↓reduceIte,jA,jB,jC,enP,h2]
   exact ⟨by unfold AA1; rw [if_pos (by omega)]; rfl,trivial⟩
 ·have h1':n < 0:=by simpa using h1
  simp -implicitDefEqProofs only [BB,A8,BK,BI,A7,CJ,CV,DI,AZ,BA,BL,BX,CO,F7,AO,AQ,AL,BD,AY,AC,AA,EQ,AX,AU,BH,BM,BC,CP,DW,↓reduceIte,jA,jB,jC]
  exact ⟨by unfold AA1; rw [if_pos (by omega)]; rfl,trivial⟩
theorem bit_ref (G:Nat→AV) (a i:Nat) (ha:a < 65536) (hi:i < 16) (h:Hp):PCall (En G) 125 [.int .i64 (a:Nat),.int .i64 (i:Nat)] h (.int .i64 (J7 a i:Nat)):=by
 have e:AA1 a (i:Nat)=a / 2 ^ i:=by
  unfold AA1
  rw [if_neg (by omega),zG]
 refine acN Tryz.func125 rfl ?_
 show awp _ _ _ _ _ (EN _ [.tmp 4] _)
 have hr:=ATV (a / 2 ^ i) 2 (by omega)
 have hr':IE Tryz.prog 3 .rem (.int .i64 ((a / 2 ^ i:Nat):Int)) (.int .i64 2)=some (.int .i64 (J7 a i:Nat)):=hr
 simp -implicitDefEqProofs only [BB,A8,A7,AZ,BA,AO,AQ,AL,BD,AY,AC,AA,AX,AU,BN,BH,BJ,BC,BV,BP,BF,BQ,jF,jD,jE,↓reduceIte,jA,jB,jC,enX,enP]
 refine (APU G a i ha h).use ?_
 simp -implicitDefEqProofs only [BK,A7,CV,AZ,BA,AO,AQ,AL,BD,AY,AC,AA,AX,AU,BH,BC,BU,AB,↓reduceIte,jB,jC,enP,e,hr']
 exact ⟨trivial,trivial⟩
theorem AP9 (G:Nat→AV) (a:Nat) (ha:a < 65536) (h:Hp):PCall (En G) 81 [.int .i64 (a:Nat)] h (.int .i64 (U4 a:Nat)):=by
 refine acN Tryz.func81 rfl ?_
 show awp _ _ _ _ _ (EN _ [.tmp 2] _)
 simp -implicitDefEqProofs only [BB,CE,A8,A7,AZ,BA,AO,AQ,AL,BD,AY,AC,AU,BH,BC,jB,jC,enX,enP]
 refine EG (fun k F H => ∃ i,k+i=16∧F 0 = .int .i64 (a:Nat)∧F 3 = .int .i64 (IL a i:Nat)∧F 4 = .int .i64 (i:Nat)∧H=h) 16 ⟨0,by simp,by simp -implicitDefEqProofs only [AA,BF,↓reduceIte,jA],by simp -implicitDefEqProofs only [AA,↓reduceIte,jA] <;> rfl,by simp -implicitDefEqProofs only [AA,↓reduceIte] <;> rfl,rfl⟩ ?_
 rintro k F H ⟨i,hi,f0,f3,f4,rfl⟩
 simp -implicitDefEqProofs only [BB,A8,BI,A7,AZ,BA,AO,AQ,AL,BD,AY,AC,AA,AX,AU,BH,BJ,BU,AB,DV,↓reduceIte,jB,jC,enP,f4]
 refine CQ (fun hc => ?_) (fun hc => ?_)
 ·have hi':i < 16:=by simp at hc; omega
  have hle:=N9 a (i+1)
  have e:IntKind.i64.wrap (((IL a i:Nat):Int)+((J7 a i:Nat):Int))=((IL a (i+1):Nat):Int):=by
   have:IL a (i+1)=IL a i+J7 a i:=rfl
   rw [wrap_i64 (by omega) (by omega)]; omega
  simp -implicitDefEqProofs only [BB,CE,A8,BR,A7,AZ,AO,AQ,AL,BD,AY,AC,AA,AX,BN,BJ,BV,BP,jF,jD,jE,↓reduceIte,jA,jB,jC,f0,f3,f4]
  refine (bit_ref G a i ha hi' H).use ?_
  simp -implicitDefEqProofs only [A8,A7,EO,FO,AZ,BA,AO,AQ,AL,BD,AY,AC,AA,AX,AU,BH,BJ,BC,BU,AB,D6,↓reduceIte,jA,jB,jC,enP,f3,f4,e,wrap_succ (show i < 9223372036854775807 by omega)]
  exact ⟨k - 1,by omega,i+1,by omega,f0,by trivial,by trivial,trivial⟩
 ·have hi':i=16:=by simp at hc; omega
  subst hi'
  simp -implicitDefEqProofs only [BB,A8,BK,EF,A7,FC,F6,F8,CV,AZ,BA,AO,AQ,AL,BD,AY,AC,AA,AX,BJ,BC,↓reduceIte,jA,jB,jC,f3]
  exact ⟨by trivial,trivial⟩
def MS (lo hi a b:Nat):Nat→Nat
 | 0=>0
 | k+1=>2 * MS lo hi a b k+(if lo≤J7 a (15 - k)+J7 b (15 - k)∧J7 a (15 - k)+J7 b (15 - k)≤hi then 1 else 0)
theorem AEV (lo hi a b:Nat) : ∀ k,MS lo hi a b k < 2 ^ k
 | 0=>by simp [MS]
 | k+1=>by
   have:=AEV lo hi a b k
   unfold MS
   rw [Nat.pow_succ]
   split <;> omega
theorem ABM (lo hi a b x:Nat) (hx:x < 65536) (hb : ∀ i,i < 16→J7 x i=if lo≤J7 a i+J7 b i∧J7 a i+J7 b i≤hi then 1 else 0) : ∀ k,k≤16→MS lo hi a b k=x / 2 ^ (16 - k)
 | 0,_=>by
   unfold MS
   rw [Nat.div_eq_of_lt (by simpa using hx)]
 | k+1,hk=>by
   unfold MS
   rw [ABM lo hi a b x hx hb k (by omega),← hb (15 - k) (by omega)]
   unfold J7
   rw [show 16 - (k+1)=15 - k by omega,show 16 - k=(15 - k)+1 by omega,Nat.pow_succ,← Nat.div_div_eq_div_mul]
   omega
theorem OW (x i:Nat):J7 x i=if x.testBit i=true then 1 else 0:=by
 have:=Y4 x i
 rw [Nat.testBit_eq_decide_div_mod_eq]
 unfold J7 at *
 simp only [decide_eq_true_eq]
 split <;> omega
theorem ASC (a b:Nat) (ha:a < 65536):MS 2 2 a b 16=a &&& b:=by
 rw [ABM 2 2 a b (a &&& b) (Nat.lt_of_le_of_lt Nat.and_le_left ha) (fun i _ => ?_) 16 (jQ _)]
 ·simp
 ·rw [OW,OW,OW,Nat.testBit_and]
  cases a.testBit i <;> cases b.testBit i <;> simp
theorem AVJ (a b:Nat) (ha:a < 65536) (hb:b < 65536):MS 1 2 a b 16=a ||| b:=by
 rw [ABM 1 2 a b (a ||| b) (Nat.or_lt_two_pow (n:=16) (by omega) (by omega)) (fun i _ => ?_) 16 (jQ _)]
 ·simp
 ·rw [OW,OW,OW,Nat.testBit_or]
  cases a.testBit i <;> cases b.testBit i <;> simp
theorem ASB (a b:Nat) (ha:a < 65536) (hb:b < 65536):MS 1 1 a b 16=a ^^^ b:=by
 rw [ABM 1 1 a b (a ^^^ b) (Nat.xor_lt_two_pow (n:=16) (by omega) (by omega)) (fun i _ => ?_) 16 (jQ _)]
 ·simp
 ·rw [OW,OW,OW,Nat.testBit_xor]
  cases a.testBit i <;> cases b.testBit i <;> simp
theorem AC5 (G:Nat→AV) (lo hi a b:Nat) (ha:a < 65536) (hb:b < 65536) (h:Hp):PCall (En G) 205 [.int .i64 (a:Nat),.int .i64 (b:Nat),.int .i64 (lo:Nat),.int .i64 (hi:Nat)] h (.int .i64 (MS lo hi a b 16:Nat)):=by
 refine acN Tryz.func205 rfl ?_
 show awp _ _ _ _ _ (EN _ [.tmp 8] _)
 simp -implicitDefEqProofs only [BB,CE,A8,A7,AZ,BA,AO,AQ,AL,BD,AY,AC,AU,BH,BC,jB,jC,enX,enP]
 refine EG (fun n F H => ∃ k,n+k=16∧F 0 = .int .i64 (a:Nat)∧F 1 = .int .i64 (b:Nat)∧F 2 = .int .i64 (lo:Nat)∧F 3 = .int .i64 (hi:Nat)∧F 9 = .int .i64 (MS lo hi a b k:Nat)∧F 10 = .int .i64 (15 - (k:Int))∧H=h) 16
  ⟨0,by simp,by simp -implicitDefEqProofs only [AA,BF,↓reduceIte,jA],by simp -implicitDefEqProofs only [AA,BF,BQ,↓reduceIte,jA],by simp -implicitDefEqProofs only [AA,BF,BQ,↓reduceIte,jA],by simp -implicitDefEqProofs only [AA,BF,BQ,↓reduceIte,jA],by simp -implicitDefEqProofs only [AA,↓reduceIte,jA] <;> rfl,by simp -implicitDefEqProofs only [AA,↓reduceIte] <;> rfl,rfl⟩ ?_
 rintro n F H ⟨k,hk,f0,f1,f2,f3,f9,f10,rfl⟩
 simp -implicitDefEqProofs only [BB,A8,BI,A7,AZ,BA,AO,AQ,AL,BD,AY,AC,AA,AX,AU,BH,BJ,BU,AB,FV,↓reduceIte,jB,jC,enP,f10]
 refine CQ (fun hc => ?_) (fun hc => ?_)
 ·have hk':k < 16:=by simp at hc; omega
  have e0:(15 - (k:Int))=((15 - k:Nat):Int):=by omega
  have l1:=Y4 a (15 - k)
  have l2:=Y4 b (15 - k)
  have l3:=AEV lo hi a b k
  have l4:2 ^ k≤2 ^ 15:=Nat.pow_le_pow_right (by omega) (by omega)
  simp only [Nat.reducePow] at l4
  have es:IntKind.i64.wrap (((J7 a (15 - k):Nat):Int)+((J7 b (15 - k):Nat):Int))=((J7 a (15 - k)+J7 b (15 - k):Nat):Int):=by rw [wrap_i64 (by omega) (by omega)]; omega
  have e2:IntKind.i64.wrap (2 * ((MS lo hi a b k:Nat):Int))=((2 * MS lo hi a b k:Nat):Int):=by rw [wrap_i64 (by omega) (by omega)]; omega
  have e3:IntKind.i64.wrap (((15 - k:Nat):Int) - 1)=15 - ((k+1:Nat):Int):=by rw [wrap_i64 (by omega) (by omega)]; omega
  have hst:MS lo hi a b (k+1)=2 * MS lo hi a b k+(if lo≤J7 a (15 - k)+J7 b (15 - k)∧J7 a (15 - k)+J7 b (15 - k)≤hi then 1 else 0):=rfl
  simp -implicitDefEqProofs only [BB,CE,A8,BR,A7,AZ,AO,AQ,AL,BD,AY,AC,AA,AX,BN,BJ,BV,BP,jF,jD,jE,↓reduceIte,jA,jB,jC,f0,f10,e0]
  refine (bit_ref G a (15 - k) ha (by omega) H).use ?_
  simp -implicitDefEqProofs only [AZ,AO,AQ,AL,BD,AY,AC,AA,AX,BN,BJ,BV,BP,jF,jD,jE,↓reduceIte,jA,jB,jC,f1,f10,e0]
  refine (bit_ref G b (15 - k) hb (by omega) H).use ?_
  simp -implicitDefEqProofs only [BB,A8,A7,AZ,BA,BL,BX,CO,AO,AQ,AL,BD,AY,AC,AA,AX,AU,BH,BJ,BC,BU,AB,D6,UZ,FV,↓reduceIte,jA,jB,jC,enP,f2,f3,f9,es,e2]
  cases h1:decide (((J7 a (15 - k)+J7 b (15 - k):Nat):Int)≥((lo:Nat):Int))
  ·have h1' : ¬ lo≤J7 a (15 - k)+J7 b (15 - k):=by simp at h1; omega
   rw [if_neg (fun q=>h1' q.1),jH] at hst
   simp -implicitDefEqProofs only [A8,BR,BI,A7,EO,FO,DN,AZ,BA,BL,BX,CO,IP,AO,AQ,AL,BD,AY,AC,AA,EQ,AX,AU,BH,BM,BJ,BC,CP,DZ,BU,AB,II,↓reduceIte,jA,jB,jC,enP,h1,f10,e0,e3]
   exact ⟨n - 1,by omega,k+1,by omega,f0,f1,f2,f3,by rw [hst] <;> rfl,by trivial,trivial⟩
  ·have h1':lo≤J7 a (15 - k)+J7 b (15 - k):=by simp at h1; omega
   cases h2:decide (((J7 a (15 - k)+J7 b (15 - k):Nat):Int)≤((hi:Nat):Int))
   ·have h2' : ¬ J7 a (15 - k)+J7 b (15 - k)≤hi:=by simp at h2; omega
    rw [if_neg (fun q=>h2' q.2),jH] at hst
    simp -implicitDefEqProofs only [A8,BR,BI,A7,EO,FO,DN,AZ,BA,BL,BX,CO,GL,AO,AQ,AL,BD,AY,AC,AA,AX,AU,BH,BM,BJ,BC,CP,DW,BU,AB,II,IR,↓reduceIte,jA,jB,jC,enP,h1,h2,f3,f10,e0,e3]
    exact ⟨n - 1,by omega,k+1,by omega,f0,f1,f2,by trivial,by rw [hst] <;> rfl,by trivial,trivial⟩
   ·have h2':J7 a (15 - k)+J7 b (15 - k)≤hi:=by simp at h2; omega
    rw [if_pos ⟨h1',h2'⟩] at hst
    simp -implicitDefEqProofs only [A8,BI,A7,EO,FO,DI,AZ,BA,BL,BX,CO,GL,AO,AQ,AL,BD,AY,AC,AA,AX,AU,BH,BM,BJ,BC,CP,DW,BU,AB,D6,II,IR,↓reduceIte,jA,jB,jC,enP,h1,h2,f3,f10,e0,e3,wrap_succ (show 2 * MS lo hi a b k < 9223372036854775807 by omega)]
    exact ⟨n - 1,by omega,k+1,by omega,f0,f1,f2,by trivial,by rw [hst] <;> rfl,by trivial,trivial⟩
 ·have hk':k=16:=by simp at hc; omega
  subst hk'
  simp -implicitDefEqProofs only [BB,A8,BK,EF,A7,FC,F6,F8,CV,AZ,BA,AO,AQ,AL,BD,AY,AC,AA,AX,BJ,BC,↓reduceIte,jA,jB,jC,f9]
  exact ⟨by trivial,trivial⟩
theorem A1J (G:Nat→AV) (a b:Nat) (ha:a < 65536) (hb:b < 65536) (h:Hp):PCall (En G) 187 [.int .i64 (a:Nat),.int .i64 (b:Nat)] h (.int .i64 ((a &&& b:Nat):Int)):=by
 have hc:=AC5 G 2 2 a b ha hb h
 rw [ASC a b ha] at hc
 have hc':PCall (En G) 205 [.int .i64 (a:Nat),.int .i64 (b:Nat),.int .i64 2,.int .i64 2] h (.int .i64 ((a &&& b:Nat):Int)):=hc
 refine acN Tryz.func187 rfl ?_
 show awp _ _ _ _ _ (EN _ [.tmp 4] _)
 simp -implicitDefEqProofs only [BB,A8,A7,AZ,BA,AO,AQ,AL,BD,AY,AC,AA,AX,AU,BN,BH,BJ,BC,BV,BP,BF,BQ,jF,jD,jE,↓reduceIte,jA,jB,jC,enX,enP]
 refine hc'.use ?_
 simp -implicitDefEqProofs only [BK,A7,CV,AZ,BA,AO,AQ,AL,BD,AY,AC,AA,AX,BC,↓reduceIte,jB,jC]
 exact ⟨trivial,trivial⟩
theorem A2P (G:Nat→AV) (a b:Nat) (ha:a < 65536) (hb:b < 65536) (h:Hp):PCall (En G) 188 [.int .i64 (a:Nat),.int .i64 (b:Nat)] h (.int .i64 ((a ||| b:Nat):Int)):=by
 have hc:=AC5 G 1 2 a b ha hb h
 rw [AVJ a b ha hb] at hc
 have hc':PCall (En G) 205 [.int .i64 (a:Nat),.int .i64 (b:Nat),.int .i64 1,.int .i64 2] h (.int .i64 ((a ||| b:Nat):Int)):=hc
 refine acN Tryz.func188 rfl ?_
 show awp _ _ _ _ _ (EN _ [.tmp 4] _)
 simp -implicitDefEqProofs only [BB,A8,A7,AZ,BA,AO,AQ,AL,BD,AY,AC,AA,AX,AU,BN,BH,BJ,BC,BV,BP,BF,BQ,jF,jD,jE,↓reduceIte,jA,jB,jC,enX,enP]
 refine hc'.use ?_
 simp -implicitDefEqProofs only [BK,A7,CV,AZ,BA,AO,AQ,AL,BD,AY,AC,AA,AX,BC,↓reduceIte,jB,jC]
 exact ⟨trivial,trivial⟩
theorem AY2 (G:Nat→AV) (a b:Nat) (ha:a < 65536) (hb:b < 65536) (h:Hp):PCall (En G) 189 [.int .i64 (a:Nat),.int .i64 (b:Nat)] h (.int .i64 ((a ^^^ b:Nat):Int)):=by
 have hc:=AC5 G 1 1 a b ha hb h
 rw [ASB a b ha hb] at hc
 have hc':PCall (En G) 205 [.int .i64 (a:Nat),.int .i64 (b:Nat),.int .i64 1,.int .i64 1] h (.int .i64 ((a ^^^ b:Nat):Int)):=hc
 refine acN Tryz.func189 rfl ?_
 show awp _ _ _ _ _ (EN _ [.tmp 4] _)
 simp -implicitDefEqProofs only [BB,A8,A7,AZ,BA,AO,AQ,AL,BD,AY,AC,AA,AX,AU,BN,BH,BJ,BC,BV,BP,BF,BQ,jF,jD,jE,↓reduceIte,jA,jB,jC,enX,enP]
 refine hc'.use ?_
 simp -implicitDefEqProofs only [BK,A7,CV,AZ,BA,AO,AQ,AL,BD,AY,AC,AA,AX,BC,↓reduceIte,jB,jC]
 exact ⟨trivial,trivial⟩
end Go.Proofs.YtokehnfjjmpanaaGreatDoor.Wd
namespace Go.Proofs.YtokehnfjjmpanaaGreatDoor.Sm
open Bool renaming and_eq_true→jX
open List renaming append_nil→jE,getElem?_map→zA
open Nat renaming eq_zero_or_pos→zZ,add_zero→jH

def M0 (W:World):Nat→Option Obj:=fun k=>W.heap[k]?
def g0 (W:World):Gh:=⟨M0 W,fun _=>none,W.os,W.tape,W.output,fun _=>none⟩
theorem A2G {E:Env} {W:World} (hN:E.L=none) (hG : ∀ n,RepF (M0 W) (E.G n) (.pointer (some ⟨n,0,none⟩))):SimH E (g0 W) [] W where
 os:=rfl
 tape:=rfl
 output:=rfl
 fro k o h:=h
 lo g0 h:=by rw [hN] at h; cases h
 live b k xs h:=by simp at h
 obj b x h:=by simp at h
 inj b b' x x' l l' h:=by simp at h
 fresh b _:=rfl
 glob:=hG
theorem AIW {E:Env} {f:FuncId} {avs:List AV} {args:Array Value} {W:World} (hc:ACalls E f avs [] fun v _=>v = .bool true) (hN:E.L=none) (hX : ∀ u h,¬ E.X u h)
  (hG : ∀ n,RepF (M0 W) (E.G n) (.pointer (some ⟨n,0,none⟩))) (ha:AAG (g0 W) avs args) :
  Calls E.P f args W fun e w'=>e = .returned (.bool true)∧RowKit.Below W.heap.size W w':=by
 refine (hc.2 (g0 W) W args (A2G hN hG) ha).mono ?_
 rintro e w' (⟨v,cv,g',h',rfl,rfl,hle,S,hr⟩ | ⟨_,_,_,_,hx,_⟩)
 rotate_left
 ·exact (hX _ _ hx).elim
 rw [hr.bool_inv]
 have hfro : ∀ k o,W.heap[k]? = some o→w'.heap[k]? = some o:=fun k o h=>S.fro k o (hle.M k o h)
 refine ⟨rfl,?_,?_,?_,?_,?_⟩
 ·rw [S.os,hle.os]; rfl
 ·rw [S.tape,hle.tape]; rfl
 ·rw [S.output,hle.output]; rfl
 ·rcases Nat.lt_or_ge w'.heap.size W.heap.size with h | h
  ·have h1:=hfro w'.heap.size _ (Array.getElem?_eq_getElem h)
   simp at h1
  ·exact h
 ·intro k hk
  rw [hfro k _ (Array.getElem?_eq_getElem hk),Array.getElem?_eq_getElem hk]
theorem AP1 {H:Type} {enc:TypeId × Value→H} {P:Program} {f:Func} {s:ChangeSpec} {tb:TypeId} {apart fresh handsOn:Bool} {W W':World} {args:Array Value} {ds gs:List (DataW H)} {before:List MemPlace}
  (hW:DataW.Whole enc P f.params.toList s.vars apart W args.toList ds gs before) (hb:RowKit.Below W.heap.size W W')
  (hv:s.vars = []) (hr:f.resultTypes = #[tb]) (hub:P.underlying tb=some .bool)
  (hs:s.fn H ds = { results := [.lit (.bool true)],args:=ds })
  (hl:laidOutB P=true) (hp:f.params.toList.all (fun t=>P.readableRec t && decide (t < P.types.size))=true) :
  s.post enc P f apart fresh handsOn false W args (.bool true) W':=by
 have hW0:=hW
 obtain ⟨p,q,hA,hV,rfl,_,_⟩:=hW
 rw [hv] at hV
 obtain ⟨rfl,rfl⟩:gs = []∧q = []:=by
  cases gs with
  | nil=>exact ⟨rfl,hV⟩
  | cons=>exact hV.elim
 have hfn:s.fn H (ds ++ []) = { results := [.lit (.bool true)],args:=ds }:=by rw [jE]; exact hs
 rw [jE] at hW0
 have hlt : ∀ x∈p,x.block < W.heap.size:=fun x hx=>hW0.lt x hx
 have hall : ∀ (sp:Nat→Bool),(∀ x∈p,sp x.block=true)→∀ {ts:List TypeId} {vs:List Value} {ds:List (DataW H)} {ps:List MemPlace},(ts.all (fun t=>P.readableRec t && decide (t < P.types.size))=true) →
   (∀ x∈ps,x∈p)→DataW.TrodAll enc P W 0 (fun _=>true) true ts vs ds ps→DataW.TrodAll enc P W' 0 sp true ts vs ds ps:=by
  intro sp hsp ts
  induction ts with
  | nil =>
    intro vs ds ps _ _ h
    cases vs <;> cases ds <;> first | exact h | exact h.elim
  | cons t ts ih =>
    intro vs ds ps hts hm h
    cases vs with
    | nil=>exact h.elim
    | cons v vs =>
      cases ds with
      | nil=>exact h.elim
      | cons d ds =>
        obtain ⟨p1,q1,h1,h2,e⟩:=h
        simp only [List.all_cons,jX,decide_eq_true_eq] at hts
        have hm1 : ∀ x∈p1,x∈p:=fun x hx=>hm x (by rw [e]; exact List.mem_append_left _ hx)
        exact ⟨p1,q1,WideElems.Trod_stays hl hts.1.1 hts.1.2 h1 (fun x hx=>hb.same (hlt x (hm1 x hx))) (fun x hx=>hsp x (hm1 x hx)),ih hts.2 (fun x hx=>hm x (by rw [e]; exact List.mem_append_right _ hx)) h2,e⟩
 have hold : ∀ x∈p,(fun b=>decide (b < W.heap.size)) x.block=true:=fun x hx=>by simpa using hlt x hx
 refine ⟨ds,[],p,[],p,[],hW0,?_,?_,?_,World.keptBut_mono (fun x hx=>⟨hx,.inr (.inl hx)⟩) (hb.frame (·∈p)),fun h=>by cases h⟩
 ·rw [hfn,hr]
  exact ChangeShapes.trodAll_mk1 (RowKit.shut_bool hub true)
 ·rw [hfn]; exact hall _ hold hp (fun _ h=>h) hA
 ·rw [hv,hfn]; exact rfl

open Go.Proofs.YtokehnfjjmpanaaGreatDoor.Rows (uptoBulk uptoBulkAll)
def RowP (M:Nat→Option Obj) (rs:List AV) (cs:List Value):Prop := ∀ (j:Nat) (a:AV),rs[j]? = some a→a.leaf=true∧∃ c,cs[j]? = some c∧RepF M a c
theorem RowP.nil (M:Nat→Option Obj) (cs:List Value):RowP M [] cs:=fun j a h=>by simp at h
theorem RowP.one {M:Nat→Option Obj} {a:AV} {c:Value} (hl:a.leaf=true) (h:RepF M a c):RowP M [a] [c]:=by
 intro j b hb
 cases j with
 | zero=>simp at hb; subst hb; exact ⟨hl,c,rfl,h⟩
 | succ j=>simp at hb
theorem RowP.append {M:Nat→Option Obj} {rs bs:List AV} {cs:List Value} {n:Nat} (h:RowP M rs (cs.take n)) (hn:rs.length=n) (k:RowP M bs (cs.drop n)):RowP M (rs ++ bs) cs:=by
 intro j a ha
 rw [List.getElem?_append] at ha
 split at ha
 ·obtain ⟨h1,c,h2,h3⟩:=h j a ha
  rw [List.getElem?_take] at h2
  split at h2
  ·exact ⟨h1,c,h2,h3⟩
  ·cases h2
 ·obtain ⟨h1,c,h2,h3⟩:=k _ a ha
  rw [List.getElem?_drop] at h2
  exact ⟨h1,c,by rw [← h2]; congr 1; omega,h3⟩
def RdAt (P:Program) (n:Nat) (t:TypeId) {α:Type} (enc:α→List AV) (ok:α→Nat→Prop):Prop :=
 ∀ (H:Type) (ench:TypeId × Value→H) (w:World) (cs:List Value) (d:DataW H) (ps:List MemPlace),
   DataW.trod ench P w 0 (fun _=>true) true n t cs=some (d,ps)→∃ x,ok x (uptoBulk d)∧RowP (M0 w) (enc x) cs
def Rd (P:Program) (t:TypeId) {α:Type} (enc:α→List AV) (ok:α→Nat→Prop):Prop := ∀ n,RdAt P n t enc ok
theorem RdAt.zero {P:Program} {t:TypeId} {α:Type} {enc:α→List AV} {ok:α→Nat→Prop}:RdAt P 0 t enc ok:=by
 intro H ench w cs d ps h; simp [DataW.trod] at h
theorem RdAt.map {P:Program} {n:Nat} {t:TypeId} {α β:Type} {enc:α→List AV} {ok:α→Nat→Prop} {enc':β→List AV} {ok':β→Nat→Prop} (f:α→β) (h:RdAt P n t enc ok)
  (he : ∀ x,enc' (f x)=enc x) (hk : ∀ x b,ok x b→ok' (f x) b):RdAt P n t enc' ok':=by
 intro H ench w cs d ps ht
 obtain ⟨x,h1,h2⟩:=h H ench w cs d ps ht
 exact ⟨f x,hk x _ h1,by rw [he]; exact h2⟩
theorem Rd.map {P:Program} {t:TypeId} {α β:Type} {enc:α→List AV} {ok:α→Nat→Prop} {enc':β→List AV} {ok':β→Nat→Prop} (f:α→β) (h:Rd P t enc ok)
 (he : ∀ x,enc' (f x)=enc x) (hk : ∀ x b,ok x b→ok' (f x) b):Rd P t enc' ok':=fun n=>(h n).map f he hk
def okI (z:Int) (_:Nat):Prop := -9223372036854775808≤z∧z≤9223372036854775807
def okS (s:ByteArray) (b:Nat):Prop:=s.size+1≤b
def okT {α:Type} (_:α) (_:Nat):Prop:=True
def okL {α:Type} (ok:α→Nat→Prop):List α→Nat→Prop
 | [],_=>True
 | x :: xs,b => ∃ b1 b2,b1+b2≤b∧1≤b1∧ok x b1∧okL ok xs b2
theorem okL.length {α:Type} {ok:α→Nat→Prop} : ∀ {xs:List α} {b:Nat},okL ok xs b→xs.length≤b
 | [],_,_=>Nat.zero_le _
 | _ :: _,_,⟨_,_,h1,h2,_,h4⟩=>by have:=okL.length h4; simp; omega
theorem okL.each {α:Type} {ok:α→Nat→Prop} : ∀ {xs:List α} {b:Nat},okL ok xs b→∀ x∈xs,∃ b1,b1≤b∧ok x b1
 | [],_,_,_,h=>by cases h
 | y :: ys,b,⟨b1,b2,h1,h2,h3,h4⟩,x,h=>by
   cases List.mem_cons.1 h with
   | inl e=>subst e; exact ⟨b1,by omega,h3⟩
   | inr e=>obtain ⟨b3,h5,h6⟩:=okL.each h4 x e; exact ⟨b3,by omega,h6⟩
theorem okL.mono {α:Type} {ok:α→Nat→Prop} : ∀ {xs:List α} {b b':Nat},okL ok xs b→b≤b'→okL ok xs b'
 | [],_,_,_,_=>trivial
 | _ :: _,_,_,⟨b1,b2,h1,h2,h3,h4⟩,h=>⟨b1,b2,by omega,h2,h3,h4⟩
theorem AR8 {H:Type} (d:DataW H):1≤uptoBulk d:=by
 cases d with
 | lit l=>cases l <;> simp [uptoBulk]
 | nil=>simp [uptoBulk]
 | ptr d=>simp [uptoBulk]
 | slice elems spare=>simp [uptoBulk]
 | agg parts=>simp [uptoBulk]
 | iface t d=>simp [uptoBulk]
 | map entries=>simp [uptoBulk]
 | held h=>simp [uptoBulk]
theorem AXH {P:Program} {t:TypeId} (hu:P.underlying t=some (.int .i64)):Rd P t (fun z:Int => [.int .i64 z]) okI:=by
 intro n H ench w cs d ps h
 obtain ⟨z,rfl,hx,hz⟩:=DataW.trod_int hu h
 refine ⟨z,?_,RowP.one rfl (.int _ _)⟩
 simp only [Lit.wf,jX,decide_eq_true_eq] at hz
 exact hz
theorem AXF {P:Program} {t:TypeId} (hu:P.underlying t=some (.int .u16)):Rd P t (fun z:Int => [.int .u16 z]) (fun z _=>0≤z∧z≤65535):=by
 intro n H ench w cs d ps h
 obtain ⟨z,rfl,hx,hz⟩:=DataW.trod_int hu h
 refine ⟨z,?_,RowP.one rfl (.int _ _)⟩
 simp only [Lit.wf,jX,decide_eq_true_eq] at hz
 exact hz
theorem ATX {P:Program} {t:TypeId} (hu:P.underlying t=some .bool):Rd P t (fun z:Bool => [.bool z]) okT:=by
 intro n H ench w cs d ps h
 obtain ⟨z,rfl,hx⟩:=DataW.trod_bool hu h
 exact ⟨_,trivial,RowP.one rfl (.bool _)⟩
theorem AXG {P:Program} {t:TypeId} (hu:P.underlying t=some .string):Rd P t (fun z:ByteArray => [.str z]) okS:=by
 intro n H ench w cs d ps h
 obtain ⟨s,rfl,hx,_⟩:=DataW.trod_string hu h
 cases hx
 refine ⟨s,?_,RowP.one rfl (.str _)⟩
 simp only [okS,uptoBulk,Array.length_toList]
 exact Nat.le_refl _
theorem ACA {α β:Type} {f:α→Option β} {x:α} {xs:List α} {ys:List β} (h:(x :: xs).mapM f=some ys) : ∃ y zs,f x=some y∧xs.mapM f=some zs∧ys=y :: zs:=by
 rw [List.mapM_cons] at h
 cases hx:f x with
 | none=>simp [hx] at h
 | some y =>
   cases hz:xs.mapM f with
   | none=>simp [hx,hz] at h
   | some zs=>simp [hx,hz] at h; exact ⟨y,zs,rfl,rfl,h.symm⟩
theorem AHL {P:Program} {n:Nat} {e:TypeId} {α:Type} {enc:α→List AV} {ok:α→Nat→Prop} (hr:RdAt P n e enc ok) {H:Type} {ench:TypeId × Value→H} {w:World} :
  ∀ (zs:List (DataW H × List MemPlace)) (cells:Nat→Option (List Value)),(∀ i,i < zs.length→(cells i).bind (DataW.trod ench P w 0 (fun _=>true) true n e)=zs[i]?) →
    ∃ xs:List α,xs.length=zs.length∧okL ok xs (uptoBulkAll (zs.map (·.1)))∧∀ (i:Nat) (x:α),xs[i]? = some x→∃ cs,cells i=some cs∧RowP (M0 w) (enc x) cs
 | [],cells,h=>⟨[],rfl,trivial,fun i x h=>by simp at h⟩
 | y :: zs,cells,h=>by
   have h0:=h 0 (by simp)
   cases hc:cells 0 with
   | none=>simp [hc] at h0
   | some cs =>
     simp only [hc,Option.bind_some,List.getElem?_cons_zero] at h0
     obtain ⟨x,k1,k2⟩:=hr H ench w cs y.1 y.2 h0
     obtain ⟨xs,l1,l2,l3⟩:=AHL hr zs (fun i=>cells (i+1)) (fun i hi=>by have:=h (i+1) (by simpa using hi); simpa using this)
     refine ⟨x :: xs,by simp [l1],⟨uptoBulk y.1,uptoBulkAll (zs.map (·.1)),by simp [uptoBulkAll],AR8 _,k1,l2⟩,?_⟩
     intro i x' hx
     cases i with
     | zero=>simp at hx; subst hx; exact ⟨cs,hc,k2⟩
     | succ i=>simp at hx; exact l3 i x' hx
theorem AJ9 {β:Type} {f:Nat→Option β} {n i:Nat} {ys:List β} (h:(List.range n).mapM f=some ys) (hi:i < n) : ∃ y,f i=some y∧ys[i]? = some y:=by
 have gen : ∀ (l:List Nat) (ys:List β),l.mapM f=some ys→∀ j k:Nat,l[j]? = some k→∃ y,f k=some y∧ys[j]? = some y:=by
  intro l
  induction l with
  | nil=>intro ys _ j k hj; simp at hj
  | cons a l ih =>
    intro ys hl j k hj
    obtain ⟨y,zs,h1,h2,rfl⟩:=ACA hl
    cases j with
    | zero=>simp at hj; subst hj; exact ⟨y,h1,rfl⟩
    | succ j=>simp at hj; exact ih zs h2 j k hj
 exact gen _ _ h i i (by simp [hi])
theorem cells_at {w:World} {a:Addr} {n:Nat} {cs:List Value} (h:w.cells? 0 a n=some cs) {i:Nat} (hi:i < n) : ∃ c,w.cell? (a.add i)=some c∧cs[i]? = some c:=by
 unfold World.cells? at h
 simp only [Nat.zero_le,if_true] at h
 exact AJ9 h hi
theorem OJ {P:Program} {n:Nat} {t e:TypeId} {k:Nat} {α:Type} {enc:α→List AV} {ok:α→Nat→Prop} (hu:P.underlying t=some (.slice e)) (hk:P.cellsOf e=k) (hk0:0 < k) (hlen : ∀ x,(enc x).length=k)
  (hr:RdAt P n e enc ok):RdAt P (n+1) t (fun x:SM × List α => [.sl x.1 k (x.2.map enc)]) (fun x b => ∃ b',b'+1≤b∧okL ok x.2 b'):=by
 intro H ench w cs d ps h
 rcases DataW.trod_slice hu h with ⟨rfl,hd⟩ | ⟨a,len,cap,zs,rest,m,hm,rfl,hd,_,hlc,_,hzl,hel,_,_⟩
 ·cases hd
  exact ⟨(.nil,[]),⟨0,by simp [uptoBulk],trivial⟩,RowP.one rfl (.nil _)⟩
 ·obtain rfl:n=m:=by omega
  simp only [Prod.mk.injEq] at hd
  obtain ⟨xs,l1,l2,l3⟩:=AHL hr zs (fun i=>w.cells? 0 (a.add (i * P.cellsOf e)) (P.cellsOf e)) (fun i hi=>hel i (by omega))
  rw [hzl] at l1
  have hok : ∃ b',b'+1≤uptoBulk d∧okL ok xs b':=⟨uptoBulkAll (zs.map (·.1)),by rw [hd.1]; simp [uptoBulk],l2⟩
  rcases zZ len with h0 | hpos
  ·subst h0
   have:xs = []:=List.length_eq_zero_iff.1 l1
   subst this
   exact ⟨(.any,[]),hok,RowP.one rfl (.empty .any k a cap (by simp) (by simp))⟩
  ·refine ⟨(.any,xs),hok,RowP.one rfl ?_⟩
   have cellAt : ∀ i j,i < len→j < k→∃ c,w.cell? ((a.add (i * k)).add j)=some c∧∀ x a',xs[i]? = some x→(enc x)[j]? = some a'→a'.leaf=true∧RepF (M0 w) a' c:=by
    intro i j hi hj
    have hx:i < xs.length:=by omega
    obtain ⟨cs',q1,q2⟩:=l3 i xs[i] (by simp [hx])
    rw [hk] at q1
    obtain ⟨c,r1,r2⟩:=cells_at q1 hj
    refine ⟨c,r1,fun x a' hx' ha' => ?_⟩
    rw [List.getElem?_eq_getElem hx] at hx'
    cases hx'
    obtain ⟨s1,c',s2,s3⟩:=q2 j a' ha'
    rw [r2] at s2; cases s2
    exact ⟨s1,s3⟩
   obtain ⟨cb,co,sp⟩:=a
   have hadd : ∀ i j,((Addr.mk cb co none).add (i * k)).add j=⟨cb,co+i * k+j,none⟩:=by
    intro i j
    rw [addr_add,addr_add]
   obtain ⟨c0,hc0,_⟩:=cellAt 0 0 hpos hk0
   have hsp:sp=none:=by
    simp [Addr.add,World.cell?] at hc0
    split at hc0
    ·split at hc0
     ·cases hc0
     ·rename_i hs; simpa using hs
    ·cases hc0
   subst hsp
   rw [hadd] at hc0
   simp only [World.cell?] at hc0
   split at hc0
   case h_2=>cases hc0
   rename_i c ty fz hw
   have rd : ∀ i j,w.cell? ⟨cb,co+i * k+j,none⟩=c[co+i * k+j]? := fun i j=>by simp [World.cell?,hw]
   have hlx:len=(xs.map enc).length:=by simp [l1]
   rw [hlx]
   refine .sl .any k (xs.map enc) cb co c ty fz cap (fun i j=>c[co+i * k+j]?.getD default) ?_ (by simp) hw ?_ ?_ ?_ ?_ (by simp)
   ·intro hx
    have:xs = []:=by simpa using hx
    subst this; simp at l1; omega
   ·intro i row hrow
    rw [zA,Option.map_eq_some_iff] at hrow
    obtain ⟨x,hx,rfl⟩:=hrow
    refine ⟨hlen x,fun j v hv => ?_⟩
    have hi:i < len:=by rw [← l1]; exact (List.getElem?_eq_some_iff.1 hx).1
    have hj:j < k:=by rw [← hlen x]; exact (List.getElem?_eq_some_iff.1 hv).1
    obtain ⟨c,_,hc2⟩:=cellAt i j hi hj
    exact (hc2 x v hx hv).1
   ·intro i j hi hj
    obtain ⟨c',q1,_⟩:=cellAt i j (by simpa [l1] using hi) hj
    rw [hadd,rd] at q1
    rw [q1]; rfl
   ·intro i j row v hrow hv
    rw [zA,Option.map_eq_some_iff] at hrow
    obtain ⟨x,hx,rfl⟩:=hrow
    have hi:i < len:=by rw [← l1]; exact (List.getElem?_eq_some_iff.1 hx).1
    have hj:j < k:=by rw [← hlen x]; exact (List.getElem?_eq_some_iff.1 hv).1
    obtain ⟨c',q1,q2⟩:=cellAt i j hi hj
    rw [hadd,rd] at q1
    show RepF _ _ (c[co+i * k+j]?.getD default)
    rw [q1]
    exact (q2 x v hx hv).2
   ·simp [l1]; exact hlc
def AVX (P:Program) (n:Nat) (fs:List Field) (off:Nat) {α:Type} (enc:α→List AV) (ok:α→Nat→Prop):Prop :=
 ∀ (H:Type) (ench:TypeId × Value→H) (w:World) (cs:List Value) (zs:List (DataW H × List MemPlace)),zs.length=fs.length →
   (∀ (i:Nat) (f:Field),fs[i]? = some f→DataW.trod ench P w 0 (fun _=>true) true n f.type ((cs.drop f.offset).take (P.cellsOf f.type))=zs[i]?)→∃ x,ok x (uptoBulkAll (zs.map (·.1)))∧RowP (M0 w) (enc x) (cs.drop off)
theorem UK {P:Program} {n off:Nat}:AVX P n [] off (fun _:Unit => []) okT:=fun _ _ _ _ _ _ _=>⟨(),trivial,RowP.nil _ _⟩
theorem IK {P:Program} {n off k:Nat} {f:Field} {fs:List Field} {α β:Type} {enc:α→List AV} {ok:α→Nat→Prop} {enc':β→List AV} {ok':β→Nat→Prop} (ho:f.offset=off) (hk:P.cellsOf f.type=k)
  (hlen : ∀ x,(enc x).length=k) (h:RdAt P n f.type enc ok) (h':AVX P n fs (off+k) enc' ok') :
  AVX P n (f :: fs) off (fun x:α × β=>enc x.1 ++ enc' x.2) (fun x b => ∃ b1 b2,b1+b2≤b∧ok x.1 b1∧ok' x.2 b2):=by
 intro H ench w cs zs hl hz
 cases zs with
 | nil=>simp at hl
 | cons y zs =>
   have h1:=hz 0 f rfl
   obtain ⟨x,k1,k2⟩:=h H ench w _ y.1 y.2 (by simpa using h1)
   obtain ⟨x',l1,l2⟩:=h' H ench w cs zs (by simpa using hl) (fun i f' hf=>by have:=hz (i+1) f' (by simpa using hf); simpa using this)
   refine ⟨(x,x'),⟨_,_,Nat.le_of_eq (by simp [uptoBulkAll]),k1,l1⟩,?_⟩
   rw [ho,hk] at k2
   refine RowP.append k2 (hlen x) ?_
   rw [List.drop_drop]
   exact l2
theorem O5 {P:Program} {n:Nat} {t:TypeId} {fs:List Field} {α:Type} {enc:α→List AV} {ok:α→Nat→Prop} (hu:P.underlying t=some (.struct fs.toArray)) (h:AVX P n fs 0 enc ok) :
  RdAt P (n+1) t enc (fun x b => ∃ b',b'+1≤b∧ok x b'):=by
 intro H ench w cs d ps ht
 obtain ⟨zs,m,hm,hd,_,hl,hz⟩:=DataW.trod_struct hu ht
 obtain rfl:n=m:=by omega
 obtain ⟨x,k1,k2⟩:=h H ench w cs zs (by simpa using hl) (fun i f hf=>hz i f (by simpa using hf))
 simp only [Prod.mk.injEq] at hd
 exact ⟨x,⟨_,by rw [hd.1]; simp [uptoBulk],k1⟩,by simpa using k2⟩

open Go.Proofs.YtokehnfjjmpanaaGreatDoor.Rows (uptoBulk uptoBulkAll)
def PR (P:Program) (t:TypeId) {α:Type} (av:α→AV) (ok:α→Nat→Prop):Prop :=
 ∀ (H:Type) (ench:TypeId × Value→H) (w:World) (base:Nat) (v:Value) (d:DataW H) (ps:List MemPlace),Value.okWide P w .any base t v→DataW.Trod ench P w 0 (fun _=>true) true t v d ps →
   ∃ x,ok x (uptoBulk d)∧RepF (M0 w) (av x) v
def AKE (P:Program) (t:TypeId):Bool:=match P.underlying t with
 | some (.int _)=>true
 | some .bool=>true
 | some .string=>true
 | some (.slice _)=>true
 | _=>false
theorem cell_of {P:Program} {t:TypeId} {w:World} {base:Nat} {v:Value} (hc:AKE P t=true) (h:Value.okWide P w .any base t v):v.cells.toList = [v]:=by
 unfold AKE at hc
 unfold Value.okWide at h
 split at hc <;> rename_i hu <;> first | (cases hc; done) | skip
 all_goals
  rw [hu] at h
  simp only [Cell.okWide,Cell.ok,hu] at h
  cases v <;> first | rfl | (simp at h; done) | exact h.elim
theorem A1W {P:Program} {t:TypeId} {α:Type} {enc:α→List AV} {av:α→AV} {ok:α→Nat→Prop} (h:Rd P t enc ok) (he : ∀ x,enc x = [av x]) (hc:AKE P t=true):PR P t av ok:=by
 intro H ench w base v d ps hv ⟨n,ht⟩
 rw [cell_of hc hv] at ht
 obtain ⟨x,h1,h2⟩:=h n H ench w _ d ps ht
 refine ⟨x,h1,?_⟩
 rw [he] at h2
 obtain ⟨_,c,h3,h4⟩:=h2 0 (av x) rfl
 simp at h3; subst h3
 exact h4
theorem A2N {P:Program} {t:TypeId} {α:Type} {enc:α→List AV} {ok:α→Nat→Prop} {k:Nat} (h:Rd P t enc ok) (hl : ∀ x,ok x 0∨True→(enc x).length=k) (hk:P.cellsOf t=k) (hc:LW P t=some true):PR P t (fun x => .agg (enc x)) ok:=by
 intro H ench w base v d ps hv ⟨n,ht⟩
 have hag : ∃ cs,v = .agg cs∧cs.size=P.cellsOf t:=by
  unfold LW at hc
  unfold Value.okWide at hv
  cases hu:P.underlying t with
  | none=>simp [hu] at hc
  | some td =>
    rw [hu] at hc hv
    cases td <;> simp at hc <;> exact ⟨_,hv.choose_spec.1,hv.choose_spec.2.1⟩
 obtain ⟨cs,rfl,hs⟩:=hag
 obtain ⟨x,h1,h2⟩:=h n H ench w _ d ps ht
 refine ⟨x,h1,.agg _ cs (by rw [hs,hl x (.inr trivial),hk]) ?_⟩
 intro i a cv ha hcv
 obtain ⟨_,c,h3,h4⟩:=h2 i a ha
 simp [Value.cells] at h3
 rw [hcv] at h3; cases h3
 exact h4
def PRs (P:Program) (ts:List TypeId) {α:Type} (avs:α→List AV) (ok:α→Nat→Prop):Prop :=
 ∀ (H:Type) (ench:TypeId × Value→H) (w:World) (base:Nat) (vs:List Value) (ds:List (DataW H)) (ps:List MemPlace),(∀ (j:Nat) t v,ts[j]? = some t→vs[j]? = some v→Value.okWide P w .any base t v) →
   DataW.TrodAll ench P w 0 (fun _=>true) true ts vs ds ps→∃ x,ok x (uptoBulkAll ds)∧vs.length=(avs x).length∧∀ (i:Nat) (a:AV) (v:Value),(avs x)[i]? = some a→vs[i]? = some v→RepF (M0 w) a v
theorem PRs.len {P:Program} {w:World} {H:Type} {ench:TypeId × Value→H} {sp:Nat→Bool} {held:Bool} {base:Nat} : ∀ {ts:List TypeId} {vs:List Value} {ds:List (DataW H)} {ps:List MemPlace},DataW.TrodAll ench P w base sp held ts vs ds ps→ds.length=ts.length
 | [],[],[],_,_=>rfl
 | _ :: _,_ :: _,_ :: _,_,⟨_,_,_,h2,_⟩=>by simp [PRs.len h2]
theorem A1V {P:Program}:PRs P [] (fun _:Unit => []) okT:=by
 intro H ench w base vs ds ps _ h
 cases vs with
 | nil=>exact ⟨(),trivial,rfl,fun i a v h=>by simp at h⟩
 | cons v vs=>cases ds <;> exact h.elim
theorem AZS {P:Program} {t:TypeId} {ts:List TypeId} {α β:Type} {av:α→AV} {ok:α→Nat→Prop} {avs:β→List AV} {ok':β→Nat→Prop} (h:PR P t av ok) (h':PRs P ts avs ok') :
  PRs P (t :: ts) (fun x:α × β=>av x.1 :: avs x.2) (fun x b => ∃ b1 b2,b1+b2≤b∧ok x.1 b1∧ok' x.2 b2):=by
 intro H ench w base vs ds ps hv ht
 cases vs with
 | nil=>cases ds <;> exact ht.elim
 | cons v vs =>
   cases ds with
   | nil=>exact ht.elim
   | cons d ds =>
     obtain ⟨p,q,h1,h2,_⟩:=ht
     obtain ⟨x,k1,k2⟩:=h H ench w base v d p (hv 0 t v rfl rfl) h1
     obtain ⟨y,l1,l2,l3⟩:=h' H ench w base vs ds q (fun j t' v' a b=>hv (j+1) t' v' (by simpa using a) (by simpa using b)) h2
     refine ⟨(x,y),⟨_,_,Nat.le_of_eq (by simp [uptoBulkAll]),k1,l1⟩,by simp [l2],?_⟩
     intro i a v' ha hv'
     cases i with
     | zero=>simp at ha hv'; subst ha; subst hv'; exact k2
     | succ i=>simp at ha hv'; exact l3 i a v' ha hv'
theorem AUM {H:Type} {enc:TypeId × Value→H} {E:Env} {f:FuncId} {fn:Func} {s:ChangeSpec} {tb:TypeId} {apart fresh handsOn:Bool} {W:World} {base:Nat} {args:Array Value} {ds gs:List (DataW H)} {before:List MemPlace}
  {α:Type} {avs:α→List AV} {ok:α→Nat→Prop} (hr:PRs E.P fn.params.toList avs ok) (hlaw : ∀ x,ok x (uptoBulkAll ds)→ACalls E f (avs x) [] fun v _=>v = .bool true)
  (hval : ∀ (j:Nat) t v,fn.params[j]? = some t→args[j]? = some v→Value.okWide E.P W .any base t v)
  (hW:DataW.Whole enc E.P fn.params.toList s.vars apart W args.toList ds gs before) (hG : ∀ n,RepF (M0 W) (E.G n) (.pointer (some ⟨n,0,none⟩)))
  (hv:s.vars = []) (ht:fn.resultTypes = #[tb]) (hub:E.P.underlying tb=some .bool)
  (hs:s.fn H ds = { results := [.lit (.bool true)],args:=ds })
  (hl:laidOutB E.P=true) (hp:fn.params.toList.all (fun t=>E.P.readableRec t && decide (t < E.P.types.size))=true) (hN:E.L=none:=by rfl) (hX : ∀ u h,¬ E.X u h:=by exact fun _ _ q=>q) :
  Calls E.P f args W fun e W' => ∃ v,e = .returned v∧s.post enc E.P fn apart fresh handsOn false W args v W':=by
 obtain ⟨p,q,hA,_⟩:=id hW
 obtain ⟨x,k1,k2,k3⟩:=hr H enc W base args.toList ds p (fun j t v a b=>hval j t v (by simpa using a) (by simpa using b)) hA
 have ha:AAG (g0 W) (avs x) args:=⟨by simpa using k2,fun i v cv h1 h2 => .fro (k3 i v cv h1 (by simpa using h2))⟩
 refine (AIW (hlaw x k1) hN hX hG ha).mono ?_
 rintro e w' ⟨rfl,hb⟩
 exact ⟨_,rfl,AP1 hW hb hv ht hub hs hl hp⟩
theorem AN9 {P:Program} {w:World} {t e:TypeId} (hu:P.underlying t=some (.slice e)) (he:P.underlying e=some .string) (hk:P.cellsOf e=1) {H:Type} {ench:TypeId × Value→H} {sp:Nat→Bool} {held:Bool} {n:Nat} {cs:List Value}
  {l:List ByteArray} {d:DataW H} (hd:d = .slice (l.map fun s => .lit (.string s.data.toList)) []) {p:List MemPlace} (h:DataW.trod ench P w 0 sp held n t cs=some (d,p)) :
  ∃ c,cs = [c]∧RepF (M0 w) (.sl .any 1 (l.map fun s => [.str s])) c:=by
 subst hd
 rcases DataW.trod_slice hu h with ⟨_,hx⟩ | ⟨a,len,cap,zs,rest,m,_,rfl,hx,_,hlc,_,hzl,hel,_,_⟩
 ·cases hx
 ·simp only [Prod.mk.injEq,DataW.slice.injEq] at hx
  obtain ⟨⟨hz,_⟩,_⟩:=hx
  have hll:l.length=len:=by have:=congrArg List.length hz; simpa [hzl] using this
  refine ⟨_,rfl,?_⟩
  rcases zZ len with h0 | hpos
  ·subst h0
   have:l = []:=List.length_eq_zero_iff.1 hll
   subst this
   exact .empty .any 1 a cap (by simp) (by simp)
  ·have cellAt : ∀ i (s:ByteArray),l[i]? = some s→w.cell? (a.add i)=some (.string s):=by
    intro i s hs
    have hi:i < len:=by rw [← hll]; exact (List.getElem?_eq_some_iff.1 hs).1
    have h1:=hel i hi
    rw [hk,Nat.mul_one] at h1
    have h2:zs[i]?.map (·.1)=some (.lit (.string s.data.toList)):=by
     rw [← zA,← hz,zA,hs]; rfl
    cases hc:w.cells? 0 (a.add i) 1 with
    | none=>rw [hc] at h1; rw [← h1] at h2; cases h2
    | some c1 =>
      rw [hc,Option.bind_some] at h1
      obtain ⟨z,hzi⟩ : ∃ z,zs[i]? = some z:=by cases hh:zs[i]? with
       | none=>rw [hh] at h2; cases h2
       | some z=>exact ⟨z,rfl⟩
      rw [hzi] at h1 h2
      obtain ⟨s',rfl,rfl,_⟩:=DataW.trod_string he h1
      simp only [Option.map_some,Option.some.injEq,DataW.lit.injEq,Lit.string.injEq] at h2
      have:s'=s:=by
       cases s'; cases s
       simp only at h2
       congr 1
       exact Array.toList_inj.1 h2
      subst this
      obtain ⟨c,r1,r2⟩:=cells_at hc (i:=0) (by decide)
      simp at r2; subst r2
      simpa [Addr.add] using r1
   obtain ⟨cb,co,sp'⟩:=a
   have h00:=cellAt 0 l[0] (by simp [hll,hpos])
   have hsp:sp'=none:=by
    simp [Addr.add,World.cell?] at h00
    split at h00
    ·split at h00
     ·cases h00
     ·rename_i hs; simpa using hs
    ·cases h00
   subst hsp
   have hadd : ∀ i,(Addr.mk cb co none).add i=⟨cb,co+i,none⟩:=fun i=>addr_add _ _ _
   rw [hadd] at h00
   simp only [World.cell?] at h00
   split at h00
   case h_2=>cases h00
   rename_i c ty fz hw
   have rd : ∀ i,w.cell? ⟨cb,co+i,none⟩=c[co+i]? := fun i=>by simp [World.cell?,hw]
   have hlx:len=(l.map fun s => [AV.str s]).length:=by simp [hll]
   rw [hlx]
   refine .sl .any 1 _ cb co c ty fz cap (fun i j=>c[co+i * 1+j]?.getD default) ?_ (by simp) hw ?_ ?_ ?_ (by simp [hll]; exact hlc) (by simp)
   ·intro hx
    have:l = []:=by simpa using hx
    subst this; simp at hll; omega
   ·intro i row hrow
    rw [zA,Option.map_eq_some_iff] at hrow
    obtain ⟨x,hx,rfl⟩:=hrow
    refine ⟨rfl,fun j v hv => ?_⟩
    cases j with
    | zero=>simp at hv; subst hv; rfl
    | succ j=>simp at hv
   ·intro i j hi hj
    have hi':i < l.length:=by simpa using hi
    have:=cellAt i l[i] (by simp [hi'])
    rw [hadd,rd] at this
    have hj0:j=0:=by omega
    subst hj0
    simp only [Nat.mul_one,jH]
    rw [this]; rfl
   ·intro i j row v hrow hv
    rw [zA,Option.map_eq_some_iff] at hrow
    obtain ⟨x,hx,rfl⟩:=hrow
    have:=cellAt i x hx
    rw [hadd,rd] at this
    cases j with
    | zero =>
      simp at hv; subst hv
      simp only [Nat.mul_one,jH]
      rw [this]; exact .str _
    | succ j=>simp at hv
theorem ATF {P:Program} {w:World} {n:String} {g:Nat} {cs:Array Value} {c:Value} {a:AV} (hg:P.globalNamed n=some g) (h:w.var? P n=some cs) (hc:cs.toList = [c]) (hr:RepF (M0 w) a c) (hl:a.leaf=true) :
  RepF (M0 w) (.fptr 1 [[a]] 0 0) (.pointer (some ⟨g,0,none⟩)):=by
 have h0:=World.var?_cell hg h 0
 have e:cs = #[c]:=by rw [← Array.toArray_toList (xs:=cs),hc]
 rw [e] at h0
 simp only [World.cell?] at h0
 split at h0
 case h_2=>simp at h0
 rename_i cc ty fz hw
 have hcc:cc[0]? = some c:=by simpa using h0
 refine .fptr 1 [[a]] 0 0 g 0 cc ty fz (fun _ _=>c) hw ?_ ?_ ?_
 ·intro i row hrow
  cases i with
  | zero =>
    simp at hrow; subst hrow
    refine ⟨rfl,fun j v hv => ?_⟩
    cases j with
    | zero=>simp at hv; subst hv; exact hl
    | succ j=>simp at hv
  | succ i=>simp at hrow
 ·intro i j hi hj
  have:i=0:=by simpa using hi
  have:j=0:=by omega
  subst_vars
  simpa using hcc
 ·intro i j row v hrow hv
  cases i with
  | zero =>
    simp at hrow; subst hrow
    cases j with
    | zero=>simp at hv; subst hv; exact hr
    | succ j=>simp at hv
  | succ i=>simp at hrow
end Go.Proofs.YtokehnfjjmpanaaGreatDoor.Sm
namespace Go.Proofs.YtokehnfjjmpanaaGreatDoor.Head
open List renaming contains_nil→jP

def signs:List Char:=([104,97,114,110,101,115,115,32,48,101,97,97,102,52,56,97,102,101,48,98,50,97,53,98,101,56,100,99,57,53,56,52,97,49,102,50,101,99,97,99,50,100,102,52,99,53,56,48,102,98,51,102,53,100,101,100,50,54,97,52,55,48,56,98,52,54,99,97,97,100,102,53,32,99,117,116,32,97,116,32,116,101,115,116,98,101,110,99,104,47,116,101,115,116,98,101,110,99,104,108,97,119,49,57,46,66,111,117,110,100,115,83,116,97,114,116,32,116,101,115,116,98,101,110,99,104,47,116,101,115,116,98,101,110,99,104,108,97,119,49,57,46,66,111,117,110,100,115,78,97,114,114,111,119,115,32,116,101,115,116,98,101,110,99,104,47,116,101,115,116,98,101,110,99,104,108,97,119,49,57,46,66,111,117,110,100,115,75,101,101,112,115,32,116,101,115,116,98,101,110,99,104,47,116,101,115,116,98,101,110,99,104,108,97,119,49,57,46,66,111,117,110,100,115,77,111,110,111,116,111,110,101,32,116,101,115,116,98,101,110,99,104,47,116,101,115,116,98,101,110,99,104,108,97,119,49,57,46,66,111,117,110,100,115,70,105,120,101,100,32,116,101,115,116,98,101,110,99,104,47,116,101,115,116,98,101,110,99,104,108,97,119,49,57,46,66,111,117,110,100,115,82,97,110,103,101,115,32,116,101,115,116,98,101,110,99,104,47,116,101,115,116,98,101,110,99,104,108,97,119,49,57,46,66,111,117,110,100,115,83,111,117,110,100]:List Nat).map Char.ofNat
theorem AP6:Tryz.pinned.checked.prog.initOrder=String.ofList signs:=by kernel_rfl
theorem AD4 {s:String} {l:List Char} (h:s=String.ofList l):s.toList=l:=by rw [h,String.toList_ofList]
theorem YA:Tryz.pinned.checked.prog.initOrder.toList=signs:=AD4 AP6
def AIR:List Char:=(signs.drop 73).take 3
def APZ:List (List Char):=wordsSigns (signs.drop 77)
def hsum:List Char:=(signs.drop 8).take 64
theorem ABR:behindMainWord (wordsSigns signs)=AIR :: APZ:=by kernel_rfl
theorem AW5:wordsSigns signs=signs.take 7 :: hsum :: wordsSigns (signs.drop 73):=by kernel_rfl
theorem AG7:stripLifts liftWords (AIR :: APZ)=([],AIR :: APZ):=by kernel_rfl
theorem AU7:Tryz.pinned.checked.prog.doorFits []=true:=by kernel_rfl
theorem AQS:Tryz.pinned.checked.prog.laysLater=false:=by kernel_rfl
theorem ATW:Tryz.pinned.checked.prog.bearsReflect=false:=by kernel_rfl
theorem AYE:(AIR == "cut".toList)=true:=by kernel_rfl
theorem AIQ:((some AIR) == some "cut".toList)=true:=by kernel_rfl
theorem AZ3:(AIR == "gc".toList)=false:=by kernel_rfl
theorem AT5:(AIR == "spec".toList)=false:=by kernel_rfl
theorem AT6:(some AIR == some "carried".toList)=false:=by kernel_rfl
theorem sum_is:isSumSigns hsum=true:=by kernel_rfl
theorem AXZ:(signs.take 7 == "harness".toList)=true:=by kernel_rfl
theorem ARR {P:Program} (h:P.initOrder.toList=signs) (hd:P.doorFits []=true) (hl:P.laysLater=false) (hr:P.bearsReflect=false):P.mayEnter=true:=by
 unfold Program.mayEnter
 generalize P.initOrder.toList=l at h
 subst h
 rw [ABR]
 simp only [AG7,hd,hl,hr,jP,List.head?_cons,Bool.not_false,Bool.or_true,Bool.and_true,AIQ]
theorem AUF {P:Program} (h:P.initOrder.toList=signs):P.make=some .cut:=by
 unfold Program.make
 generalize P.initOrder.toList=l at h
 subst h
 rw [ABR]
 simp only [AZ3,AT5,AYE,Bool.or_false,Bool.false_eq_true,if_false,Bool.true_or,if_true]
theorem AOM {P:Program} (h:P.initOrder.toList=signs):P.liftsFinal=false:=by
 unfold Program.liftsFinal Program.headLifts
 generalize P.initOrder.toList=l at h
 subst h
 rw [ABR]
 simp only [AG7,List.head?_cons,AT6,AIQ,Bool.false_and,Bool.false_or,if_true,jP]
theorem AUG {P:Program} {s:String} (h:P.initOrder.toList=signs) (hs:s=String.ofList hsum):P.mainIs=some (true,s.toList):=by
 rw [AD4 hs]
 unfold Program.mainIs
 generalize P.initOrder.toList=l at h
 subst h
 rw [AW5]
 show (if !isSumSigns hsum then none else if signs.take 7 == "harness".toList then some (true,hsum) else if signs.take 7 == "ownmain".toList then some (false,hsum) else none)=_
 rw [sum_is,AXZ]
 rfl
theorem A0Q:Tryz.pinned.checked.prog.mayEnter=true:=ARR YA AU7 AQS ATW
theorem make_is:Tryz.pinned.checked.prog.make=some .cut:=AUF YA
theorem AYZ:Tryz.pinned.checked.prog.liftsFinal=false:=AOM YA
theorem A1X {s:String} (hs:s=String.ofList hsum):Tryz.pinned.checked.prog.mainIs=some (true,s.toList):=AUG YA hs
end Go.Proofs.YtokehnfjjmpanaaGreatDoor.Head
namespace Go.Proofs.YtokehnfjjmpanaaGreatDoor.Cov
open Sm Bins Go.RowKit
open List renaming take_of_length_le→jY
def outG {α:Type} (k:Nat) (f:α→List AV) (h:Hp) (ys:List α) (v:AV) (H:Hp):Prop :=
 (ys = []∧v = .sl .nil 0 [])∨(ys≠[]∧∃ o,h.length≤o∧v = .own o 0 ys.length∧H[o]? = some (.live k (ys.map f)))
theorem outG.nil {α:Type} (k:Nat) (f:α→List AV) (h H:Hp):outG k f h [] (.sl .nil 0 []) H := .inl ⟨rfl,rfl⟩
theorem outG.keep {α:Type} {k:Nat} {f:α→List AV} {h H H':Hp} {ys:List α} {v:AV} (ho:outG k f h ys v H) (hk : ∀ b,isB v b→H'[b]? = H[b]?):outG k f h ys v H':=by
 rcases ho with h1 | ⟨h1,o,h2,rfl,h3⟩
 ·exact .inl h1
 ·exact .inr ⟨h1,o,h2,rfl,by rw [hk o rfl]; exact h3⟩
theorem outG.lt {α:Type} {k:Nat} {f:α→List AV} {h H:Hp} {ys:List α} {v:AV} {b:Nat} (ho:outG k f h ys v H) (hb:isB v b):h.length≤b∧b < H.length:=by
 rcases ho with ⟨_,rfl⟩ | ⟨_,o,h2,rfl,h3⟩
 ·exact hb.elim
 ·cases hb; exact ⟨h2,CS h3⟩
theorem outG.app {α:Type} {k:Nat} {f:α→List AV} {h H:Hp} {ys:List α} {v:AV} (ho:outG k f h ys v H) (x:Hp):outG k f h ys v (H ++ x) :=
 ho.keep fun _ hb=>List.getElem?_append_left (ho.lt hb).2
theorem outG.append {P:Program} {t e:TypeId} {α:Type} {k bs:Nat} {f:α→List AV} {h H:Hp} {ys:List α} {v:AV} (ho:outG k f h ys v H) (hu:P.underlying t=some (.slice e)) (hs:szO P e=some k) (hz:AA0 P e=some k) (hb:QO P e=some bs) (hbs:bs≤4194304) (hl:ys.length < 8388608) (he:ext h H) (y:α) :
  ∃ v' H',IU P true H t t v (.sl .full k [f y])=some (v',H')∧outG k f h (ys ++ [y]) v' H'∧(∀ b x,H[b]? = some x→¬ isB v b→H'[b]? = some x)∧ext h H'∧H.length≤H'.length∧∀ b,isB v' b→b=H.length:=by
 have h1:([f y]:List (List AV))≠[]:=by simp
 rcases ho with ⟨rfl,rfl⟩ | ⟨hne,o,h2,rfl,h3⟩
 ·exact ⟨_,_,AGL hu hs hz hb (QC H .full k [f y]) h1 (PV (by simp) hbs),.inr ⟨by simp,H.length,he.le,rfl,by simp⟩,fun b x hb _=>U0 hb,he.app _,by simp,fun b hb=>hb.symm⟩
 ·have hc:KO H (.own o 0 ys.length)=some (k,ys.map f):=by
   rw [TY h3 (by simp),List.drop_zero,jY (by simp)]
  refine ⟨_,_,AGK hu hs hz hb hc (QC H .full k [f y]) h1 (PV (by simp; omega) hbs),.inr ⟨by simp,H.length,he.le,by simp,by simp⟩,fun b x hb hn => ?_,(he.set h2 _).app _,by simp,fun b hb=>hb.symm⟩
  have hn' : ¬ o=b:=hn
  refine U0 ?_
  rw [List.getElem?_set,if_neg hn']; exact hb
theorem outG.len {P:Program} {t:TypeId} {α:Type} {k:Nat} {f:α→List AV} {h H:Hp} {ys:List α} {v:AV} (ho:outG k f h ys v H) (hl:(∀ m k xs,aLen P t (.sl m k xs)=some (.int .i64 xs.length))∧∀ b off len,aLen P t (.own b off len)=some (.int .i64 len)):aLen P t v=some (.int .i64 ys.length):=by
 rcases ho with ⟨rfl,rfl⟩ | ⟨_,o,_,rfl,_⟩
 ·exact hl.1 _ _ _
 ·exact hl.2 _ _ _
def nm {α:Type} (ys:List α):SM:=match ys with
 | [] => .nil
 | _ => .any
theorem ARD (n:Nat) (h:Hp) (d b off len k:Nat) (xs:List (List AV)) (hn : ¬ b < n) (hb:h[b]? = some (.live k xs)):JS n h (d+1) (.own b off len)=if off+len≤xs.length∧(((xs.drop off).take len).map (·.map (JS n h d))).all (·.all AV.leaf)=true then .sl .any k (((xs.drop off).take len).map (·.map (JS n h d))) else .junk:=by
 rw [JS]
 simp only [hn,if_false,hb]
def Frz {α:Type} (f:α→List AV):Prop := ∀ (n:Nat) (h:Hp) (d:Nat) (x:α),(f x).map (JS n h (d+1))=f x∧(f x).all AV.leaf=true
theorem ARB {α:Type} {f:α→List AV} (hf:Frz f) (n:Nat) (h:Hp) (d:Nat) (xs:List α):(xs.map f).map (·.map (JS n h (d+1)))=xs.map f:=by
 rw [List.map_map]
 exact List.map_congr_left fun x _=>(hf n h d x).1
theorem AF0 {α:Type} {f:α→List AV} (hf:Frz f) {n d k:Nat} {h:Hp} {o:Nat} {xs:List α} (hn:n≤o) (ho:h[o]? = some (.live k (xs.map f))):JS n h (d+2) (.own o 0 xs.length) = .sl .any k (xs.map f):=by
 rw [ARD n h (d+1) o 0 xs.length k _ (by omega) ho,List.drop_zero,jY (by simp),ARB hf n h d xs]
 rw [if_pos]
 refine ⟨by simp,?_⟩
 rw [List.all_eq_true]
 intro row hr
 obtain ⟨x,_,rfl⟩:=List.mem_map.1 hr
 exact (hf n h d x).2
theorem ZI {E:Env} {f:FuncId} {args:List AV} {h:Hp} {α:Type} {k:Nat} {enc:α→List AV} (hf:Frz enc) {ys:List α} (hc:ACalls E f args h fun v H=>ext h H∧outG k enc h ys v H) (hX:E.nox=E:=by rfl):PCall E f args h (.sl (nm ys) k (ys.map enc)):=by
 have h1:PCall E f args h (if ys.length=0 then AV.sl .nil 0 [] else .sl .any k (ys.map enc)):=by
  refine ACalls.pure 2 hc ?_ hX
  rintro v H ⟨hex,hout⟩
  refine ⟨hex,?_⟩
  rcases hout with ⟨rfl,rfl⟩ | ⟨hne,o,ho1,rfl,ho⟩
  ·rfl
  ·rw [if_neg (by simpa using hne)]; exact AF0 hf ho1 ho
 refine ACalls.conv h1 ?_
 rintro v H ⟨rfl,rfl⟩
 refine ⟨_,⟨rfl,rfl⟩,?_⟩
 intro g cv hr
 cases ys with
 | nil=>exact AQC hr
 | cons y ys=>exact hr
end Go.Proofs.YtokehnfjjmpanaaGreatDoor.Cov
set_option linter.unusedSimpArgs false
set_option maxRecDepth 8000
namespace Go.Proofs.YtokehnfjjmpanaaGreatDoor.Xe
open Sm Bins Cov Wd Go.RowKit
open Bool renaming eq_iff_iff→qZ,not_false→jC,not_true→jW
open Int renaming reduceBEq→jS
open List renaming map_cons→jF,map_nil→jD,append_nil→jE
open Nat renaming mod_lt→qW,le_of_ble_eq_true→jJ,reduceEqDiff→jA
open Option renaming getD_some→jB
def tr (b:Bool):Nat:=if b then 1 else 0
def sgW (op:Int) (a:Nat):Nat:=if op=4 then tr (a == 0) else if op=5 then 65535 - a else if op=6 then (65536 - a) % 65536 else U4 a
def dbW (op:Int) (a b:Nat):Nat :=
 if op=7 then (a+b) % 65536 else if op=8 then (a+65536 - b) % 65536 else if op=9 then a * b % 65536 else if op=10 then a &&& b else if op=11 then a ||| b else if op=12 then a ^^^ b
 else if op=13 then AHB a (b:Nat) else if op=14 then AA1 a (b:Nat) else if op=15 then tr (a == b) else if op=16 then tr (!(a == b)) else if op=17 then tr (decide (a < b)) else if op=18 then tr (decide (a≤b))
 else if op=19 then tr (!(a == 0) && !(b == 0)) else if op=20 then tr (!(a == 0) || !(b == 0)) else tr ((a == 0) || !(b == 0))
theorem X7 (b:Bool):tr b < 65536:=by cases b <;> decide
theorem AXE {op:Int} {a:Nat} (ha:a < 65536):sgW op a < 65536:=by
 unfold sgW
 by_cases h4:op=4
 ·rw [if_pos h4]; exact X7 _
 by_cases h5:op=5
 ·rw [if_neg h4,if_pos h5]; omega
 by_cases h6:op=6
 ·rw [if_neg h4,if_neg h5,if_pos h6]; exact qW _ (by omega)
 ·rw [if_neg h4,if_neg h5,if_neg h6]
  have:=N9 a 16
  unfold U4; omega
theorem AYB {op:Int} {a b:Nat} (ha:a < 65536) (hb:b < 65536):dbW op a b < 65536:=by
 unfold dbW
 by_cases h7:op=7
 ·rw [if_pos h7]; exact qW _ (by omega)
 by_cases h8:op=8
 ·rw [if_neg h7,if_pos h8]; exact qW _ (by omega)
 by_cases h9:op=9
 ·rw [if_neg h7,if_neg h8,if_pos h9]; exact qW _ (by omega)
 by_cases h10:op=10
 ·rw [if_neg h7,if_neg h8,if_neg h9,if_pos h10]; exact Nat.lt_of_le_of_lt Nat.and_le_left ha
 by_cases h11:op=11
 ·rw [if_neg h7,if_neg h8,if_neg h9,if_neg h10,if_pos h11]; exact Nat.or_lt_two_pow (n:=16) (by omega) (by omega)
 by_cases h12:op=12
 ·rw [if_neg h7,if_neg h8,if_neg h9,if_neg h10,if_neg h11,if_pos h12]; exact Nat.xor_lt_two_pow (n:=16) (by omega) (by omega)
 by_cases h13:op=13
 ·rw [if_neg h7,if_neg h8,if_neg h9,if_neg h10,if_neg h11,if_neg h12,if_pos h13]; exact ATN
 by_cases h14:op=14
 ·rw [if_neg h7,if_neg h8,if_neg h9,if_neg h10,if_neg h11,if_neg h12,if_neg h13,if_pos h14]; exact ATM ha
 by_cases h15:op=15
 ·rw [if_neg h7,if_neg h8,if_neg h9,if_neg h10,if_neg h11,if_neg h12,if_neg h13,if_neg h14,if_pos h15]; exact X7 _
 by_cases h16:op=16
 ·rw [if_neg h7,if_neg h8,if_neg h9,if_neg h10,if_neg h11,if_neg h12,if_neg h13,if_neg h14,if_neg h15,if_pos h16]; exact X7 _
 by_cases h17:op=17
 ·rw [if_neg h7,if_neg h8,if_neg h9,if_neg h10,if_neg h11,if_neg h12,if_neg h13,if_neg h14,if_neg h15,if_neg h16,if_pos h17]; exact X7 _
 by_cases h18:op=18
 ·rw [if_neg h7,if_neg h8,if_neg h9,if_neg h10,if_neg h11,if_neg h12,if_neg h13,if_neg h14,if_neg h15,if_neg h16,if_neg h17,if_pos h18]; exact X7 _
 by_cases h19:op=19
 ·rw [if_neg h7,if_neg h8,if_neg h9,if_neg h10,if_neg h11,if_neg h12,if_neg h13,if_neg h14,if_neg h15,if_neg h16,if_neg h17,if_neg h18,if_pos h19]; exact X7 _
 by_cases h20:op=20
 ·rw [if_neg h7,if_neg h8,if_neg h9,if_neg h10,if_neg h11,if_neg h12,if_neg h13,if_neg h14,if_neg h15,if_neg h16,if_neg h17,if_neg h18,if_neg h19,if_pos h20]; exact X7 _
 ·rw [if_neg h7,if_neg h8,if_neg h9,if_neg h10,if_neg h11,if_neg h12,if_neg h13,if_neg h14,if_neg h15,if_neg h16,if_neg h17,if_neg h18,if_neg h19,if_neg h20]; exact X7 _
theorem eqc (a b:Nat):((a:Int) == (b:Int))=(a == b):=by
 rw [qZ]; simp only [beq_iff_eq]; omega
theorem eqz (a:Nat):((a:Int) == 0)=(a == 0):=eqc a 0
theorem nec (a b:Nat):((a:Int) != (b:Int)) = !(a == b):=congrArg not (eqc a b)
theorem nez (a:Nat):((a:Int) != 0) = !(a == 0):=nec a 0
theorem ltc (a b:Nat):decide ((a:Int) < (b:Int))=decide (a < b):=by
 rw [qZ]; simp only [decide_eq_true_eq]; omega
theorem lec (a b:Nat):decide ((a:Int)≤(b:Int))=decide (a≤b):=by
 rw [qZ]; simp only [decide_eq_true_eq]; omega
theorem truth_ref (G:Nat→AV) (b:Bool) (h:Hp):PCall (En G) 182 [.bool b] h (.int .i64 (tr b:Nat)):=by
 refine acN Tryz.func182 rfl ?_
 show awp _ _ _ _ _ (EN _ [.tmp 2] _)
 cases b
 all_goals
  simp -implicitDefEqProofs only [BB,A8,BR,BK,BI,A7,CJ,CV,DI,DN,AZ,BA,AO,AQ,AL,BD,AY,AC,AA,AX,AU,BH,BJ,BC,BF,↓reduceIte,jA,jB,jC,enX,enP]
  exact ⟨rfl,trivial⟩
theorem AJT (G:Nat→AV) (op:Int) (a:Nat) (ha:a < 65536) (h:Hp):PCall (En G) 154 [.int .i64 op,.int .i64 (a:Nat)] h (.int .i64 (sgW op a:Nat)):=by
 refine acN Tryz.func154 rfl ?_
 show awp _ _ _ _ _ (EN _ [.tmp 4] _)
 have hcase:op=4∨op=5∨op=6∨(op≠4∧op≠5∧op≠6):=by omega
 rcases hcase with rfl | rfl | rfl | ⟨n4,n5,n6⟩
 ·simp -implicitDefEqProofs only [BB,CE,A8,BI,A7,DI,AZ,BA,AO,AQ,AL,BD,AY,AC,AA,AX,AU,BN,BH,BJ,BC,BU,BV,BP,AB,CX,BF,BQ,jF,jD,jE,↓reduceIte,jA,jB,jC,enX,enP,jS,eqz]
  refine (truth_ref G _ h).use ?_
  simp -implicitDefEqProofs only [BK,A7,CJ,D8,CV,AZ,BA,AO,AQ,AL,BD,AY,AC,AA,AX,BC,↓reduceIte,jB,jC]
  exact ⟨rfl,trivial⟩
 ·simp -implicitDefEqProofs only [BB,CE,A8,BI,A7,DI,DN,AZ,BA,AO,AQ,AL,BD,AY,AC,AA,AX,AU,BN,BH,BJ,BC,BU,BV,BP,AB,CX,BF,BQ,jF,jD,jE,↓reduceIte,jA,jB,jC,enX,enP,jS]
  refine (A0F G a ha h).use ?_
  simp -implicitDefEqProofs only [BK,A7,CJ,D8,CV,AZ,BA,AO,AQ,AL,BD,AY,AC,AA,AX,BC,↓reduceIte,jB,jC]
  exact ⟨rfl,trivial⟩
 ·simp -implicitDefEqProofs only [BB,CE,A8,BI,A7,DI,DN,AZ,BA,AO,AQ,AL,BD,AY,AC,AA,AX,AU,BN,BH,BJ,BC,BU,BV,BP,AB,CX,BF,BQ,jF,jD,jE,↓reduceIte,jA,jB,jC,enX,enP,jS]
  refine (AZ4 G a ha h).use ?_
  simp -implicitDefEqProofs only [BK,A7,CJ,D8,CV,AZ,BA,AO,AQ,AL,BD,AY,AC,AA,AX,BC,↓reduceIte,jB,jC]
  exact ⟨rfl,trivial⟩
 ·simp -implicitDefEqProofs only [BB,CE,A8,BR,BI,A7,EO,DN,AZ,BA,AO,AQ,AL,BD,AY,AC,AA,AX,AU,BN,BH,BJ,BC,BU,BV,BP,AB,CX,BF,BQ,jF,jD,jE,↓reduceIte,jA,jB,jC,enX,enP,beq_eq_false_iff_ne.2 n4,beq_eq_false_iff_ne.2 n5,beq_eq_false_iff_ne.2 n6]
  refine (AP9 G a ha h).use ?_
  simp -implicitDefEqProofs only [BK,A7,CV,AZ,BA,AO,AQ,AL,BD,AY,AC,AA,AX,BC,↓reduceIte,jB,jC]
  exact ⟨by unfold sgW; rw [if_neg n4,if_neg n5,if_neg n6],trivial⟩
set_option maxHeartbeats 4000000 in
theorem AKU (G:Nat→AV) (op:Int) (a b:Nat) (ha:a < 65536) (hb:b < 65536) (h:Hp):PCall (En G) 155 [.int .i64 op,.int .i64 (a:Nat),.int .i64 (b:Nat)] h (.int .i64 (dbW op a b:Nat)):=by
 refine acN Tryz.func155 rfl ?_
 show awp _ _ _ _ _ (EN _ [.tmp 6] _)
 have hcase:op=7∨op=8∨op=9∨op=10∨op=11∨op=12∨op=13∨op=14∨op=15∨op=16∨op=17∨op=18∨op=19∨op=20∨(op < 7∨20 < op):=by omega
 rcases hcase with rfl | rfl | rfl | rfl | rfl | rfl | rfl | rfl | rfl | rfl | rfl | rfl | rfl | rfl | hop
 ·simp -implicitDefEqProofs only [BB,CE,A8,BI,A7,DI,AZ,BA,AO,AQ,AL,BD,AY,AC,AA,AX,AU,BN,BH,BJ,BC,BU,BV,BP,AB,CX,BF,BQ,jF,jD,jE,↓reduceIte,jA,jB,jC,enX,enP,jS]
  refine (AWP G a b ha hb h).use ?_
  simp -implicitDefEqProofs only [BK,A7,CJ,D8,CV,AZ,BA,AO,AQ,AL,BD,AY,AC,AA,AX,BC,↓reduceIte,jB,jC]
  exact ⟨rfl,trivial⟩
 ·simp -implicitDefEqProofs only [BB,CE,A8,BI,A7,DI,DN,AZ,BA,AO,AQ,AL,BD,AY,AC,AA,AX,AU,BN,BH,BJ,BC,BU,BV,BP,AB,CX,BF,BQ,jF,jD,jE,↓reduceIte,jA,jB,jC,enX,enP,jS]
  refine (AY9 G a b ha hb h).use ?_
  simp -implicitDefEqProofs only [BK,A7,CJ,D8,CV,AZ,BA,AO,AQ,AL,BD,AY,AC,AA,AX,BC,↓reduceIte,jB,jC]
  exact ⟨rfl,trivial⟩
 ·simp -implicitDefEqProofs only [BB,CE,A8,BI,A7,DI,DN,AZ,BA,AO,AQ,AL,BD,AY,AC,AA,AX,AU,BN,BH,BJ,BC,BU,BV,BP,AB,CX,BF,BQ,jF,jD,jE,↓reduceIte,jA,jB,jC,enX,enP,jS]
  refine (AZ5 G a b ha hb h).use ?_
  simp -implicitDefEqProofs only [BK,A7,CJ,D8,CV,AZ,BA,AO,AQ,AL,BD,AY,AC,AA,AX,BC,↓reduceIte,jB,jC]
  exact ⟨rfl,trivial⟩
 ·simp -implicitDefEqProofs only [BB,CE,A8,BI,A7,DI,DN,AZ,BA,AO,AQ,AL,BD,AY,AC,AA,AX,AU,BN,BH,BJ,BC,BU,BV,BP,AB,CX,BF,BQ,jF,jD,jE,↓reduceIte,jA,jB,jC,enX,enP,jS]
  refine (A1J G a b ha hb h).use ?_
  simp -implicitDefEqProofs only [BK,A7,CJ,D8,CV,AZ,BA,AO,AQ,AL,BD,AY,AC,AA,AX,BC,↓reduceIte,jB,jC]
  exact ⟨rfl,trivial⟩
 ·simp -implicitDefEqProofs only [BB,CE,A8,BI,A7,DI,DN,AZ,BA,AO,AQ,AL,BD,AY,AC,AA,AX,AU,BN,BH,BJ,BC,BU,BV,BP,AB,CX,BF,BQ,jF,jD,jE,↓reduceIte,jA,jB,jC,enX,enP,jS]
  refine (A2P G a b ha hb h).use ?_
  simp -implicitDefEqProofs only [BK,A7,CJ,D8,CV,AZ,BA,AO,AQ,AL,BD,AY,AC,AA,AX,BC,↓reduceIte,jB,jC]
  exact ⟨rfl,trivial⟩
 ·simp -implicitDefEqProofs only [BB,CE,A8,BI,A7,DI,DN,AZ,BA,AO,AQ,AL,BD,AY,AC,AA,AX,AU,BN,BH,BJ,BC,BU,BV,BP,AB,CX,BF,BQ,jF,jD,jE,↓reduceIte,jA,jB,jC,enX,enP,jS]
  refine (AY2 G a b ha hb h).use ?_
  simp -implicitDefEqProofs only [BK,A7,CJ,D8,CV,AZ,BA,AO,AQ,AL,BD,AY,AC,AA,AX,BC,↓reduceIte,jB,jC]
  exact ⟨rfl,trivial⟩
 ·simp -implicitDefEqProofs only [BB,CE,A8,BI,A7,DI,DN,AZ,BA,AO,AQ,AL,BD,AY,AC,AA,AX,AU,BN,BH,BJ,BC,BU,BV,BP,AB,CX,BF,BQ,jF,jD,jE,↓reduceIte,jA,jB,jC,enX,enP,jS]
  refine (AZK G a (b:Nat) ha h).use ?_
  simp -implicitDefEqProofs only [BK,A7,CJ,D8,CV,AZ,BA,AO,AQ,AL,BD,AY,AC,AA,AX,BC,↓reduceIte,jB,jC]
  exact ⟨rfl,trivial⟩
 ·simp -implicitDefEqProofs only [BB,CE,A8,BI,A7,DI,DN,AZ,BA,AO,AQ,AL,BD,AY,AC,AA,AX,AU,BN,BH,BJ,BC,BU,BV,BP,AB,CX,BF,BQ,jF,jD,jE,↓reduceIte,jA,jB,jC,enX,enP,jS]
  refine (APU G a (b:Nat) ha h).use ?_
  simp -implicitDefEqProofs only [BK,A7,CJ,D8,CV,AZ,BA,AO,AQ,AL,BD,AY,AC,AA,AX,BC,↓reduceIte,jB,jC]
  exact ⟨rfl,trivial⟩
 ·simp -implicitDefEqProofs only [BB,CE,A8,BI,A7,DI,DN,AZ,BA,AO,AQ,AL,BD,AY,AC,AA,AX,AU,BN,BH,BJ,BC,BU,BV,BP,AB,CX,BF,BQ,jF,jD,jE,↓reduceIte,jA,jB,jC,enX,enP,jS,eqc,nec,ltc,lec]
  refine (truth_ref G _ h).use ?_
  simp -implicitDefEqProofs only [BK,A7,CJ,D8,CV,AZ,BA,AO,AQ,AL,BD,AY,AC,AA,AX,BC,↓reduceIte,jB,jC]
  exact ⟨rfl,trivial⟩
 ·simp -implicitDefEqProofs only [BB,CE,A8,BI,A7,DI,DN,AZ,BA,AO,AQ,AL,BD,AY,AC,AA,AX,AU,BN,BH,BJ,BC,BU,BV,BP,AB,CX,FT,BF,BQ,jF,jD,jE,↓reduceIte,jA,jB,jC,enX,enP,jS,eqc,nec,ltc,lec]
  refine (truth_ref G _ h).use ?_
  simp -implicitDefEqProofs only [BK,A7,CJ,D8,CV,AZ,BA,AO,AQ,AL,BD,AY,AC,AA,AX,BC,↓reduceIte,jB,jC]
  exact ⟨rfl,trivial⟩
 ·simp -implicitDefEqProofs only [BB,CE,A8,BI,A7,DI,DN,AZ,BA,AO,AQ,AL,BD,AY,AC,AA,AX,AU,BN,BH,BJ,BC,BU,BV,BP,AB,CX,DV,BF,BQ,jF,jD,jE,↓reduceIte,jA,jB,jC,enX,enP,jS,eqc,nec,ltc,lec]
  refine (truth_ref G _ h).use ?_
  simp -implicitDefEqProofs only [BK,A7,CJ,D8,CV,AZ,BA,AO,AQ,AL,BD,AY,AC,AA,AX,BC,↓reduceIte,jB,jC]
  exact ⟨rfl,trivial⟩
 ·simp -implicitDefEqProofs only [BB,CE,A8,BI,A7,DI,DN,AZ,BA,AO,AQ,AL,BD,AY,AC,AA,AX,AU,BN,BH,BJ,BC,BU,BV,BP,AB,CX,IR,BF,BQ,jF,jD,jE,↓reduceIte,jA,jB,jC,enX,enP,jS,eqc,nec,ltc,lec]
  refine (truth_ref G _ h).use ?_
  simp -implicitDefEqProofs only [BK,A7,CJ,D8,CV,AZ,BA,AO,AQ,AL,BD,AY,AC,AA,AX,BC,↓reduceIte,jB,jC]
  exact ⟨rfl,trivial⟩
 ·simp -implicitDefEqProofs only [BB,CE,A8,BI,A7,DI,DN,AZ,BA,BL,BX,CO,AO,AQ,AL,BD,AY,AC,AA,AX,AU,BH,BJ,BC,BU,AB,CX,FT,BF,BQ,↓reduceIte,jA,jB,jC,enX,enP,jS,eqz,nez]
  cases h1:(a == 0) <;> cases h2:(b == 0)
  all_goals
   simp -implicitDefEqProofs only [AZ,BL,BX,CO,GL,IP,AO,AQ,AL,BD,AY,AC,AA,EQ,AX,AU,BN,BH,BM,BJ,CP,DW,DZ,BU,BV,BP,AB,FT,BF,BQ,jF,jD,jE,↓reduceIte,jA,jB,jW,jC,enP,h1,h2,nez]
   refine (truth_ref G _ h).use ?_
   simp -implicitDefEqProofs only [BK,A7,CJ,D8,CV,AZ,BA,AO,AQ,AL,BD,AY,AC,AA,AX,BC,↓reduceIte,jB,jC]
   exact ⟨by unfold dbW; rw [h1,h2]; rfl,trivial⟩
 ·simp -implicitDefEqProofs only [BB,CE,A8,BI,A7,DI,DN,AZ,BA,BL,BX,CO,AO,AQ,AL,BD,AY,AC,AA,AX,AU,BH,BJ,BC,BU,AB,CX,FT,BF,BQ,↓reduceIte,jA,jB,jC,enX,enP,jS,eqz,nez]
  cases h1:(a == 0) <;> cases h2:(b == 0)
  all_goals
   simp -implicitDefEqProofs only [AZ,BL,BX,CO,EY,F7,AO,AQ,AL,BD,AY,AC,AA,EQ,AX,AU,BN,BH,BM,BJ,CP,DW,DZ,BU,BV,BP,AB,FT,BF,BQ,jF,jD,jE,↓reduceIte,jA,jB,jW,jC,enP,h1,h2,nez]
   refine (truth_ref G _ h).use ?_
   simp -implicitDefEqProofs only [BK,A7,CJ,D8,CV,AZ,BA,AO,AQ,AL,BD,AY,AC,AA,AX,BC,↓reduceIte,jB,jC]
   exact ⟨by unfold dbW; rw [h1,h2]; rfl,trivial⟩
 ·have hne : ∀ k:Int,7≤k→k≤20→(op == k)=false:=fun k _ _=>beq_eq_false_iff_ne.2 (by omega)
  have hd:dbW op a b=tr ((a == 0) || !(b == 0)):=by
   unfold dbW
   rw [if_neg (by omega : ¬ op=7),if_neg (by omega : ¬ op=8),if_neg (by omega : ¬ op=9),if_neg (by omega : ¬ op=10),if_neg (by omega : ¬ op=11),if_neg (by omega : ¬ op=12),if_neg (by omega : ¬ op=13),if_neg (by omega : ¬ op=14),if_neg (by omega : ¬ op=15),if_neg (by omega : ¬ op=16),if_neg (by omega : ¬ op=17),if_neg (by omega : ¬ op=18),if_neg (by omega : ¬ op=19),if_neg (by omega : ¬ op=20)]
  rw [hd]
  simp -implicitDefEqProofs only [BB,CE,A8,BR,BI,A7,EO,DN,AZ,BA,BL,BX,CO,AO,AQ,AL,BD,AY,AC,AA,AX,AU,BH,BJ,BC,BU,AB,CX,BF,BQ,↓reduceIte,jA,jB,jC,enX,enP,hne 7 (by decide) (by decide),hne 8 (by decide) (by decide),hne 9 (by decide) (by decide),hne 10 (by decide) (by decide),hne 11 (by decide) (by decide),hne 12 (by decide) (by decide),hne 13 (by decide) (by decide),hne 14 (by decide) (by decide),hne 15 (by decide) (by decide),hne 16 (by decide) (by decide),hne 17 (by decide) (by decide),hne 18 (by decide) (by decide),hne 19 (by decide) (by decide),hne 20 (by decide) (by decide),eqz,nez]
  cases h1:(a == 0) <;> cases h2:(b == 0)
  all_goals
   simp -implicitDefEqProofs only [Bool.or_false,Bool.or_true,AZ,BL,BX,CO,EY,F7,AO,AQ,AL,BD,AY,AC,AA,EQ,AX,AU,BN,BH,BM,BJ,CP,DW,DZ,BU,BV,BP,AB,FT,BF,BQ,jF,jD,jE,↓reduceIte,jA,jB,jW,jC,enP,h1,h2,nez]
   refine (truth_ref G _ h).use ?_
   simp -implicitDefEqProofs only [BK,A7,CV,AZ,BA,AO,AQ,AL,BD,AY,AC,AA,AX,BC,↓reduceIte,jB,jC]
   exact ⟨by trivial,trivial⟩
theorem MB (h:Hp) (x y:ABlk):(h ++ [x]).set h.length y=h ++ [y]:=by simp
theorem AAL {P:Program} {H:Hp} {t b k j:Nat} {row cs:List AV} {v:AV} (hc:JL v=some cs) (hs:szO P t=some cs.length) (hb:H[b]? = some (.live k [row])) (hl:j+cs.length≤row.length):GM P H t (.ptr b 0 j) v=some (H.set b (.live k [splice row j cs])):=by
 rw [I5 (i:=0) hc hs hb rfl hl]; rfl
abbrev Sg:=ByteArray × Int
def U9 (s:Sg):List AV := [.str s.1,.int .i64 s.2]
def AOY (s:Sg):Prop := -9223372036854775808≤s.2∧s.2≤9223372036854775807
def QR:List Sg→ByteArray→Nat × Bool
 | [],_=>(0,false)
 | s :: l,n=>if (s.1.toList == n.toList)=true then (wW s.2,true) else QR l n
theorem ACO : ∀ (l:List Sg) (n:ByteArray),(QR l n).1 < 65536
 | [],_=>by simp [QR]
 | s :: l,n=>by unfold QR; split; exact APJ _; exact ACO l n
theorem AKL (l:List Sg) (n:ByteArray) (k:Nat) (hk:k < l.length):QR (l.drop k) n=if (l[k].1.toList == n.toList)=true then (wW l[k].2,true) else QR (l.drop (k+1)) n:=by
 rw [List.drop_eq_getElem_cons hk]; rfl
def AL8 (p:Nat × Bool):AV := .tup [.int .i64 (p.1:Nat),.bool p.2]
theorem RZ {P:Program} {t:TypeId} {a b:ByteArray} (h:a.size+b.size≤9223372036854775807):IE P t .add (.str a) (.str b)=some (.str (a ++ b)):=by
 show ASW .add a b=_
 unfold ASW
 have:((a.size+b.size:Nat):Int)≤IntKind.i64.max:=by
  show _≤(9223372036854775807:Int)
  omega
 simp only [if_pos this]
section
variable (G:Nat→AV)
theorem ACN (l:List Sg) (m:SM) (n:ByteArray) (h:Hp) (hl:l.length≤1099511627776) (hok : ∀ s∈l,AOY s):PCall (En G) 150 [.sl m 2 (l.map U9),.str n] h (AL8 (QR l n)):=by
 refine acN Tryz.func150 rfl ?_
 show awp _ _ _ _ _ (EN _ [.tmp 4,.tmp 5] _)
 simp -implicitDefEqProofs only [BB,CE,A8,A7,AZ,BA,AO,AQ,AL,BD,AY,AC,AU,BH,BM,BC,jB,jC,enX,enP]
 refine EG (fun k F H => ∃ j,k+j=l.length∧F 0 = .sl m 2 (l.map U9)∧F 1 = .str n∧F 6 = .int .i64 (j:Nat)∧H=h∧QR l n=QR (l.drop j) n) l.length ⟨0,by simp,by simp -implicitDefEqProofs only [AA,BF,↓reduceIte,jA],by simp -implicitDefEqProofs only [AA,BF,BQ,↓reduceIte,jA],by simp -implicitDefEqProofs only [AA,↓reduceIte]; rfl,rfl,rfl⟩ ?_
 rintro k F H ⟨j,hj,f0,f1,f6,rfl,hf⟩
 simp -implicitDefEqProofs only [BB,A8,BI,A7,AZ,BA,AO,AQ,AL,BD,AY,AC,AA,AX,BJ,BU,FP,AB,DV,↓reduceIte,jA,jB,jC,enP,A2T,f0,f6,List.length_map]
 refine CQ (fun hc => ?_) (fun hc => ?_)
 ·have hj':j < l.length:=by simpa using hc
  rw [AKL l n j hj'] at hf
  have l0:DR Tryz.prog H 9 (.fptr 2 (l.map U9) j 0)=some (.str l[j].1):=by rw [IC ag9 hj']; rfl
  have l1:DR Tryz.prog H 3 (.fptr 2 (l.map U9) j 1)=some (.int .i64 l[j].2):=by rw [IC ag3 hj']; rfl
  simp -implicitDefEqProofs only [BB,CE,A8,BR,BI,A7,AZ,BA,AO,AQ,AL,BD,AY,AC,AA,AX,BJ,BO,BU,BG,CG,AB,KY,↓reduceIte,jA,Nat.add_zero,jB,jC,enP,A0D,AX3,f0,f1,f6,EX hj',l0]
  refine CQ (fun hb => ?_) (fun hb => ?_)
  ·simp -implicitDefEqProofs only [BB,A8,AZ,AO,AQ,AL,BD,AY,AC,AA,AX,BN,BJ,BO,BG,CG,BV,BP,AB,jF,jD,jE,↓reduceIte,jA,Nat.zero_add,jB,jC,enP,A0D,AX2,f0,f6,EX hj',l1]
   refine (Q9 G _ _ (hok _ (List.getElem_mem hj'))).use ?_
   simp -implicitDefEqProofs only [BK,A7,CJ,D8,F9,JU,AZ,BA,AO,AQ,AL,BD,AY,AC,AA,AX,AU,BM,BC,↓reduceIte,jA,jB,jC]
   exact ⟨by rw [hf,if_pos hb]; rfl,trivial⟩
  ·simp -implicitDefEqProofs only [A8,BR,A7,EO,FO,AZ,BA,AO,AQ,AL,BD,AY,AC,AA,AX,AU,BH,BJ,BC,BU,AB,D6,↓reduceIte,jA,jB,jC,enP,f6,wrap_succ (show j < 9223372036854775807 by omega)]
   exact ⟨k - 1,by omega,j+1,by omega,by trivial,by trivial,rfl,trivial,by rw [hf,if_neg (by rw [hb]; decide)]⟩
 ·have hj' : ¬ j < l.length:=by simpa using hc
  simp -implicitDefEqProofs only [BB,A8,BK,EF,A7,FC,F6,F8,JU,AZ,BA,AO,AQ,AL,BD,AY,AC,AA,AU,BH,BM,BC,↓reduceIte,jA,jB,jC]
  exact ⟨by rw [hf,List.drop_eq_nil_of_le (by omega)]; rfl,trivial⟩
def elN (a:ByteArray) (i:Nat):ByteArray:=a ++ (⟨#[91]⟩:ByteArray) ++ (⟨#[UInt8.ofNat (48+i)]⟩:ByteArray) ++ (⟨#[93]⟩:ByteArray)
def atG (l:List Sg) (a:ByteArray) (i:Int):Nat × Bool:=if i < 0∨i≥8 then (0,false) else QR l (elN a i.toNat)
theorem ASM (l:List Sg) (a:ByteArray) (i:Int):(atG l a i).1 < 65536:=by unfold atG; split; decide; exact ACO _ _
theorem ARZ : ∀ i:Nat,i < 8→UC Tryz.prog 181 9 (.sl .full 1 [[.int .u8 (IntKind.u8.wrap (IntKind.i64.wrap (48+(i:Int))))]])=some (.str ⟨#[UInt8.ofNat (48+i)]⟩)
 | 0,_=>by kernel_rfl
 | 1,_=>by kernel_rfl
 | 2,_=>by kernel_rfl
 | 3,_=>by kernel_rfl
 | 4,_=>by kernel_rfl
 | 5,_=>by kernel_rfl
 | 6,_=>by kernel_rfl
 | 7,_=>by kernel_rfl
 | n+8,h=>absurd h (by omega)
theorem A00 (h:Hp) (v:Int):GN Tryz.prog false h 181 1 [(0,.int .u8 v)]=some (.sl .full 1 [[.int .u8 v]],h):=by kernel_rfl
theorem WP (a b:ByteArray):(a ++ b).size=a.size+b.size:=ByteArray.size_append
theorem ARY : ∀ (k:Nat),k < 8→∀ h:Hp,LD Tryz.prog h 9 (.str ⟨#[48,49,50,51,52,53,54,55,56,57]⟩) (some (.int .i64 (k:Nat))) (some (.int .i64 ((k+1:Nat):Int))) none=some (.str ⟨#[UInt8.ofNat (48+k)]⟩)
 | 0,_,h=>by kernel_rfl
 | 1,_,h=>by kernel_rfl
 | 2,_,h=>by kernel_rfl
 | 3,_,h=>by kernel_rfl
 | 4,_,h=>by kernel_rfl
 | 5,_,h=>by kernel_rfl
 | 6,_,h=>by kernel_rfl
 | 7,_,h=>by kernel_rfl
 | n+8,q,_=>absurd q (by omega)
theorem digit_ref (k:Nat) (hk:k < 8) (h:Hp):PCall (En G) 181 [.int .i64 (k:Nat)] h (.str ⟨#[UInt8.ofNat (48+k)]⟩):=by
 refine acN Tryz.func181 rfl ?_
 show awp _ _ _ _ _ (EN _ [.tmp 2] _)
 simp -implicitDefEqProofs only [Option.map_some,Option.map_none,BB,A8,BK,A7,CV,AZ,BA,AO,AQ,AL,BD,AY,AC,AA,AX,AU,BH,IB,BJ,BC,BU,OG,AB,D6,BF,↓reduceIte,jA,jB,jC,enX,enP,wrap_succ (show k < 9223372036854775807 by omega),ARY k hk]
 exact ⟨trivial,trivial⟩
theorem AAY (a:ByteArray) (k:Nat) (hk:k < 8) (h:Hp) (ha:a.size≤1048576):PCall (En G) 151 [.str a,.int .i64 (k:Nat)] h (.str (elN a k)):=by
 refine acN Tryz.func151 rfl ?_
 show awp _ _ _ _ _ (EN _ [.tmp 4] _)
 have e1:IE Tryz.prog 9 .add (.str a) (.str ⟨#[91]⟩)=_:=RZ (by show a.size+1≤_; omega)
 have e2:IE Tryz.prog 9 .add (.str (a ++ (⟨#[91]⟩:ByteArray))) (.str ⟨#[UInt8.ofNat (48+k)]⟩)=_:=RZ (by rw [WP]; show a.size+1+1≤_; omega)
 have e3:IE Tryz.prog 9 .add (.str (a ++ (⟨#[91]⟩:ByteArray) ++ (⟨#[UInt8.ofNat (48+k)]⟩:ByteArray))) (.str ⟨#[93]⟩)=_:=RZ (by rw [WP,WP]; show a.size+1+1+1≤_; omega)
 simp -implicitDefEqProofs only [BB,A8,A7,AZ,BA,AO,AQ,AL,BD,AY,AC,AA,AX,AU,BN,IB,BJ,BC,BU,BV,BP,AB,BF,BQ,jF,jD,jE,↓reduceIte,jA,jB,jC,enX,enP,e1]
 refine (digit_ref G k hk h).use ?_
 simp -implicitDefEqProofs only [BK,A7,CV,AZ,BA,AO,AQ,AL,BD,AY,AC,AA,AX,AU,IB,BC,BU,AB,↓reduceIte,jA,jB,jC,enP,e2,e3]
 exact ⟨rfl,trivial⟩
theorem AAP (l:List Sg) (m:SM) (a:ByteArray) (i:Int) (h:Hp) (hl:l.length≤1099511627776) (hok : ∀ s∈l,AOY s) (ha:a.size≤1048576):PCall (En G) 152 [.sl m 2 (l.map U9),.str a,.int .i64 i] h (.int .i64 ((atG l a i).1:Nat)):=by
 refine acN Tryz.func152 rfl ?_
 show awp _ _ _ _ _ (EN _ [.tmp 6] _)
 simp -implicitDefEqProofs only [BB,A8,A7,AZ,BA,BL,BX,CO,AO,AQ,AL,BD,AY,AC,AA,AX,AU,BH,BJ,BC,BU,AB,DV,BF,BQ,↓reduceIte,jA,jB,jC,enX,enP]
 cases h1:decide (i < 0)
 ·cases h2:decide (i≥8)
  ·have h1' : ¬ i < 0:=by simpa using h1
   have h2' : ¬ i≥8:=by simpa using h2
   obtain ⟨k,rfl⟩:=Int.eq_ofNat_of_zero_le (show 0≤i by omega)
   simp -implicitDefEqProofs only [BB,A8,BR,BI,A7,DN,AZ,BA,BL,BX,CO,EY,AO,AQ,AL,BD,AY,AC,AA,AX,AU,BN,BH,BM,BJ,CP,DZ,BU,BV,BP,AB,FV,BF,BQ,jF,jD,jE,↓reduceIte,jA,jB,jC,enP,h2]
   refine (AAY G a k (by omega) h ha).use ?_
   simp -implicitDefEqProofs only [AZ,AO,AQ,AL,BD,AY,AC,AA,AX,BN,BV,BP,jF,jD,jE,↓reduceIte,jA,jB,jC]
   refine (ACN G l m _ h hl hok).use ?_
   unfold AL8
   simp -implicitDefEqProofs only [List.getElem?_cons_zero,List.getElem?_cons_succ,BB,A8,BK,A7,CV,AZ,BA,AO,AQ,AL,BD,AY,AC,AA,AX,BJ,BC,G8,JJ,AB,↓reduceIte,jA,jB,jC]
   exact ⟨by unfold atG; rw [if_neg (by omega)]; rfl,trivial⟩
  ·simp -implicitDefEqProofs only [BB,A8,BK,BI,A7,CJ,CV,DI,AZ,BA,BL,BX,CO,EY,AO,AQ,AL,BD,AY,AC,AA,AX,AU,BH,BM,BJ,BC,CP,DZ,BU,AB,FV,BF,BQ,↓reduceIte,jA,jB,jC,enP,h2]
   have h2':i≥8:=by simpa using h2
   exact ⟨by unfold atG; rw [if_pos (.inr h2')]; rfl,trivial⟩
 ·simp -implicitDefEqProofs only [BB,A8,BK,BI,A7,CJ,CV,DI,AZ,BA,BL,BX,CO,F7,AO,AQ,AL,BD,AY,AC,AA,EQ,AX,AU,BH,BM,BC,CP,DW,↓reduceIte,jA,jB,jC]
  have h1':i < 0:=by simpa using h1
  exact ⟨by unfold atG; rw [if_pos (.inl h1')]; rfl,trivial⟩
def sumTo (l:List Sg) (a:ByteArray):Nat→Nat
 | 0=>0
 | k+1=>(sumTo l a k+(atG l a (k:Nat)).1) % 65536
theorem AG6 (l:List Sg) (a:ByteArray) (k:Nat):sumTo l a k < 65536:=by
 cases k with
 | zero=>show 0 < 65536; decide
 | succ k=>exact qW _ (by omega)
end
end Go.Proofs.YtokehnfjjmpanaaGreatDoor.Xe
set_option linter.unusedSimpArgs false
set_option maxRecDepth 8000
namespace Go.Proofs.YtokehnfjjmpanaaGreatDoor.Cov
open Sm Bins Go.RowKit
theorem JW {E:Env} {f:FuncId} {args:List AV} {h:Hp} {r:AV} (d:Nat) (hr : ∀ n H,JS n H d r=r) (hc:ACalls E f args h fun v H=>v=r∧ext h H) (hX:E.nox=E:=by rfl):PCall E f args h r :=
 ACalls.pure d hc (fun v H ⟨e,he⟩=>⟨he,by rw [e]; exact hr _ _⟩) hX
theorem FD {h H:Hp} {b:Nat} {x:ABlk} (he:ext h H) (hb:h[b]? = some x):H[b]? = some x:=by
 obtain ⟨y,rfl⟩:=he
 rw [List.getElem?_append_left (CS hb)]; exact hb
theorem A0Z (h:Hp) (v:Int):GN Tryz.prog false h 45 1 [(0,.int .i64 v)]=some (.sl .full 1 [[.int .i64 v]],h):=by kernel_rfl
def AII (n:Nat):List AV := [.int .i64 (n:Int)]
theorem encI0 (n:Int):(qencI n)[0]? = some (.int .i64 n):=rfl
end Go.Proofs.YtokehnfjjmpanaaGreatDoor.Cov
namespace Go.Proofs.YtokehnfjjmpanaaGreatDoor.Rk
open Sm Bins Cov Go.RowKit
open Bool renaming not_false→jC
open List renaming length_map→jR
open Nat renaming le_of_ble_eq_true→jJ,reduceEqDiff→jA
open Option renaming getD_some→jB
def hasB (xs:List Int) (z:Int):Bool:=xs.any fun x=>x == z
theorem AKF (G:Nat→AV) (xs:List Int) (s:SM) (z:Int) (h:Hp) (hn:xs.length≤1048576) : ∃ k:Int,PCall (En G) 208 [.sl s 1 (xs.map qencI),.int .i64 z] h (.int .i64 k)∧decide (k≥0)=hasB xs z:=by
 by_cases hb:hasB xs z=true
 ·obtain ⟨i,hi⟩ : ∃ i,xs.findIdx? (fun x=>x == z)=some i:=by
   cases he:xs.findIdx? (fun x=>x == z) with
   | some i=>exact ⟨i,rfl⟩
   | none =>
     rw [List.findIdx?_eq_none_iff] at he
     unfold hasB at hb
     rw [List.any_eq_true] at hb
     obtain ⟨x,hx,hz⟩:=hb
     rw [he x hx] at hz; cases hz
  refine ⟨(i:Int),?_,by rw [hb]; simp⟩
  obtain ⟨hil,hiz,hbef⟩:=List.findIdx?_eq_some_iff_getElem.1 hi
  refine acN Tryz.func208 rfl ?_
  show awp _ _ _ _ _ (EN _ [.tmp 4] _)
  simp -implicitDefEqProofs only [BB,CE,A8,A7,AZ,BA,AO,AQ,AL,BD,AY,AC,AA,AX,AU,BH,BJ,BC,FP,AB,BF,↓reduceIte,jA,jB,jC,enX,enP,AH0,jR]
  refine EG (fun n F H => ∃ k,n+k=xs.length∧k≤i∧F 0 = .sl s 1 (xs.map qencI)∧F 1 = .int .i64 z∧F 7 = .int .i64 (xs.length:Nat)∧F 8 = .int .i64 (k:Nat)∧H=h) xs.length ⟨0,by simp,by omega,by simp -implicitDefEqProofs only [AA,BF,↓reduceIte,jA],by simp -implicitDefEqProofs only [AA,BF,BQ,↓reduceIte,jA],by simp -implicitDefEqProofs only [AA,↓reduceIte,jA],by simp -implicitDefEqProofs only [AA,↓reduceIte]; rfl,rfl⟩ ?_
  rintro n F H ⟨k,hk,hki,f0,f1,f7,f8,rfl⟩
  have hk':k < xs.length:=by omega
  have hd:decide (((k:Nat):Int) < ((xs.length:Nat):Int))=true:=by simp; omega
  simp -implicitDefEqProofs only [BB,CE,A8,BR,BI,A7,DI,AZ,BA,AO,AQ,AL,BD,AY,AC,AA,AX,BJ,BC,BO,BU,CG,AB,CX,DV,↓reduceIte,jA,jB,jC,enP,WV,f7,f8,hd,f0,f1,EX hk',IC ag3 hk',Cov.encI0]
  rcases Nat.eq_or_lt_of_le hki with e | hlt
  ·subst e
   have hzz:(z == xs[k])=true:=by rw [BEq.comm]; exact hiz
   simp -implicitDefEqProofs only [BB,A8,BK,A7,CJ,D8,F9,CV,DI,AZ,BA,AO,AQ,AL,BD,AY,AC,AA,AX,BJ,BC,↓reduceIte,jA,jB,jC,hzz,f8]
   exact ⟨trivial,trivial⟩
  ·have hzz:(z == xs[k])=false:=by
    have:=hbef k hlt
    rw [BEq.comm]; simpa using this
   simp -implicitDefEqProofs only [A8,BR,A7,EO,FO,DN,AZ,BA,AO,AQ,AL,BD,AY,AC,AA,AX,AU,BH,BJ,BU,AB,D6,↓reduceIte,jA,jB,jC,enP,hzz,f8,wrap_succ (show k < 9223372036854775807 by omega)]
   exact ⟨n - 1,by omega,k+1,by omega,by omega,by trivial,by trivial,by trivial,rfl,trivial⟩
 ·have hb':hasB xs z=false:=by simpa using hb
  refine ⟨-1,?_,by rw [hb']; decide⟩
  refine acN Tryz.func208 rfl ?_
  show awp _ _ _ _ _ (EN _ [.tmp 4] _)
  simp -implicitDefEqProofs only [BB,CE,A8,A7,AZ,BA,AO,AQ,AL,BD,AY,AC,AA,AX,AU,BH,BJ,BC,FP,AB,BF,↓reduceIte,jA,jB,jC,enX,enP,AH0,jR]
  refine EG (fun n F H => ∃ k,n+k=xs.length∧F 0 = .sl s 1 (xs.map qencI)∧F 1 = .int .i64 z∧F 7 = .int .i64 (xs.length:Nat)∧F 8 = .int .i64 (k:Nat)∧H=h) xs.length ⟨0,by simp,by simp -implicitDefEqProofs only [AA,BF,↓reduceIte,jA],by simp -implicitDefEqProofs only [AA,BF,BQ,↓reduceIte,jA],by simp -implicitDefEqProofs only [AA,↓reduceIte,jA],by simp -implicitDefEqProofs only [AA,↓reduceIte]; rfl,rfl⟩ ?_
  rintro n F H ⟨k,hk,f0,f1,f7,f8,rfl⟩
  simp -implicitDefEqProofs only [BB,A8,BI,A7,AZ,BA,AO,AQ,AL,BD,AY,AC,AA,AX,BU,AB,DV,↓reduceIte,jB,jC,enP,f7,f8]
  refine CQ (fun hc => ?_) (fun hc => ?_)
  ·have hk':k < xs.length:=by simpa using hc
   have hzz:(z == xs[k])=false:=by
    rw [← Bool.not_eq_true]; intro e
    unfold hasB at hb'
    rw [List.any_eq_false] at hb'
    exact hb' xs[k] (List.getElem_mem hk') (by rw [BEq.comm]; exact e)
   simp -implicitDefEqProofs only [BB,CE,A8,BR,BI,A7,EO,FO,DN,AZ,BA,AO,AQ,AL,BD,AY,AC,AA,AX,AU,BH,BJ,BC,BO,BU,CG,AB,D6,CX,↓reduceIte,jA,jB,jC,enP,WV,f0,f1,f8,EX hk',IC ag3 hk',Cov.encI0,hzz,wrap_succ (show k < 9223372036854775807 by omega)]
   exact ⟨n - 1,by omega,k+1,by omega,by trivial,by trivial,f7,rfl,trivial⟩
  ·simp -implicitDefEqProofs only [BB,A8,BK,EF,A7,FC,F6,F8,CV,AZ,BA,AO,AQ,AL,BD,AY,AC,AA,AU,BH,BC,↓reduceIte,jB,jC]
   exact ⟨trivial,trivial⟩
theorem contains_rank (G:Nat→AV) (xs:List Int) (s:SM) (z:Int) (h:Hp) (hn:xs.length≤1048576):PCall (En G) 194 [.sl s 1 (xs.map qencI),.int .i64 z] h (.bool (hasB xs z)):=by
 obtain ⟨k,hk,hd⟩:=AKF G xs s z h hn
 refine acN Tryz.func194 rfl ?_
 show awp _ _ _ _ _ (EN _ [.tmp 4] _)
 simp -implicitDefEqProofs only [BB,A8,A7,AZ,BA,AO,AQ,AL,BD,AY,AC,AA,AX,AU,BN,BM,BJ,BC,BV,BP,BF,BQ,List.map_cons,List.map_nil,List.append_nil,↓reduceIte,jA,jB,jC,enX,enP]
 refine hk.use ?_
 simp -implicitDefEqProofs only [BK,A7,CV,AZ,BA,AO,AQ,AL,BD,AY,AC,AA,AX,AU,BH,BC,BU,AB,FV,↓reduceIte,jB,jC,enP,hd]
 exact ⟨trivial,trivial⟩
end Go.Proofs.YtokehnfjjmpanaaGreatDoor.Rk
set_option linter.unusedSimpArgs false
set_option maxRecDepth 8000
namespace Go.Proofs.YtokehnfjjmpanaaGreatDoor.Xe
open Sm Bins Cov Wd Go.RowKit
open Bool renaming not_false→jC
open Int renaming reduceBEq→jS
open List renaming getD_eq_getElem?_getD→zF,getElem?_eq_getElem→jU,getElem_mem→jT,drop_eq_getElem_cons→zO,map_cons→jF,map_nil→jD,append_nil→jE
open Nat renaming reduceEqDiff→jA,reduceAdd→jL
open Option renaming getD_some→jB
def AH3 (x:Nat):List Nat→Bool
 | a :: b :: r=>(decide (a≤x) && decide (x≤b)) || AH3 x r
 | _=>false
def opW (op:Int) (vs:List Nat):Nat :=
 if op=22 then (if vs.getD 0 0≠0 then vs.getD 1 0 else vs.getD 2 0) else if op=23 then tr (AH3 (vs.getD 0 0) (vs.drop 1))
 else if vs.length=1 then sgW op (vs.getD 0 0) else dbW op (vs.getD 0 0) (vs.getD 1 0)
theorem getD_lt {vs:List Nat} (hv : ∀ x∈vs,x < 65536) (k:Nat):vs.getD k 0 < 65536:=by
 rw [zF]
 rcases Nat.lt_or_ge k vs.length with h | h
 ·rw [jU h]; exact hv _ (jT h)
 ·rw [List.getElem?_eq_none h]; decide
theorem AXM (op:Int) {vs:List Nat} (hv : ∀ x∈vs,x < 65536):opW op vs < 65536:=by
 unfold opW
 have h0:=getD_lt hv 0
 have h1:=getD_lt hv 1
 have h2:=getD_lt hv 2
 split
 ·split <;> assumption
 split
 ·exact X7 _
 split
 ·exact AXE h0
 ·exact AYB h0 h1
theorem AOB (x:Nat) (l:List Nat) (k:Nat) (hk:k+1 < l.length):AH3 x (l.drop k)=((decide (l[k]≤x) && decide (x≤l[k+1])) || AH3 x (l.drop (k+2))):=by
 rw [zO (by omega:k < l.length),zO hk]; rfl
theorem AQ1 (x:Nat) (l:List Nat) (k:Nat) (hk:l.length≤k+1):AH3 x (l.drop k)=false:=by
 have:(l.drop k).length≤1:=by simp; omega
 match hm:l.drop k,this with
 | [],_=>rfl
 | [a],_=>rfl
theorem gec (a b:Nat):decide ((a:Int)≥(b:Int))=decide (b≤a):=lec b a
def AS0 (op:Int) (n:Nat):Prop:=(op=22→n=3)∧(op=23→n % 2=1∧3≤n)∧(op≠22→op≠23→n=1∨n=2)
set_option maxHeartbeats 2000000 in
theorem AP7 (G:Nat→AV) (op:Int) (vs:List Nat) (o:Nat) (H:Hp) (ho:H[o]? = some (.live 1 (vs.map AII))) (hv : ∀ x∈vs,x < 65536) (hl:vs.length≤1048576) (hops:AS0 op vs.length) :
  PCall (En G) 102 [.int .i64 op,.own o 0 vs.length] H (.int .i64 (opW op vs:Nat)):=by
 have hix : ∀ k:Nat,k < vs.length→I4 1 H (.own o 0 vs.length) (.int .i64 (k:Nat))=some (.ptr o k 0):=fun k hk=>by rw [JK ho hk,Nat.zero_add]
 have hld : ∀ (k:Nat) (hk:k < vs.length),DR Tryz.prog H 3 (.ptr o k 0)=some (.int .i64 (vs[k]:Nat)):=fun k hk=>by rw [DJ ag3 ho (row:=AII vs[k]) (ABF hk)]; rfl
 have h1:1≤vs.length:=by
  obtain ⟨a,b,c⟩:=hops
  by_cases e:op=22
  ·have:=a e; omega
  by_cases e':op=23
  ·have:=b e'; omega
  ·have:=c e e'; omega
 have i0:I4 1 H (.own o 0 vs.length) (.int .i64 0)=some (.ptr o 0 0):=hix 0 h1
 have d0:=hld 0 h1
 have g0:vs.getD 0 0=vs[0]:=by rw [zF,jU h1]; rfl
 have v0:vs[0] < 65536:=hv _ (jT _)
 refine acN Tryz.func102 rfl ?_
 show awp _ _ _ _ _ (EN _ [.tmp 4] _)
 by_cases e22:op=22
 ·subst e22
  have hl3:vs.length=3:=hops.1 rfl
  have i1:I4 1 H (.own o 0 vs.length) (.int .i64 1)=some (.ptr o 1 0):=hix 1 (by omega)
  have i2:I4 1 H (.own o 0 vs.length) (.int .i64 2)=some (.ptr o 2 0):=hix 2 (by omega)
  have d1:=hld 1 (by omega)
  have d2:=hld 2 (by omega)
  have g1:vs.getD 1 0=vs[1]:=by rw [zF,jU (by omega)]; rfl
  have g2:vs.getD 2 0=vs[2]:=by rw [zF,jU (by omega)]; rfl
  simp -implicitDefEqProofs only [BB,A8,BI,A7,DI,AZ,BA,AO,AQ,AL,BD,AY,AC,AA,AX,AU,BH,BJ,BC,BO,BU,CG,AB,CX,FT,BF,BQ,↓reduceIte,jA,jB,jC,enX,enP,WV,jS,i0,d0,eqz,nez]
  cases hz:(vs[0] == 0)
  ·simp -implicitDefEqProofs only [BB,A8,BK,A7,CJ,CV,DI,AZ,BA,AO,AQ,AL,BD,AY,AC,AA,AX,AU,BH,BJ,BC,BO,CG,AB,BF,BQ,↓reduceIte,jA,jB,jC,enP,WV,i1,d1]
   have:vs[0]≠0:=by simpa using hz
   exact ⟨by unfold opW; rw [if_pos rfl,g0,if_pos this,g1],trivial⟩
  ·simp -implicitDefEqProofs only [BB,A8,BR,BK,A7,CJ,CV,DN,AZ,BA,AO,AQ,AL,BD,AY,AC,AA,AX,AU,BH,BJ,BC,BO,CG,AB,BF,BQ,↓reduceIte,jA,jB,Bool.not_true,jC,enP,WV,i2,d2]
   have : ¬ vs[0]≠0:=by simpa using hz
   exact ⟨by unfold opW; rw [if_pos rfl,g0,if_neg this,g2],trivial⟩
 by_cases e23:op=23
 ·subst e23
  obtain ⟨hodd,h3⟩:=hops.2.1 rfl
  simp -implicitDefEqProofs only [BB,CE,A8,BR,BI,A7,DI,DN,AZ,BA,AO,AQ,AL,BD,AY,AC,AA,AX,AU,BH,BJ,BC,BU,AB,CX,BF,↓reduceIte,jA,jB,jC,enX,enP,jS]
  have hval:opW 23 vs=tr (AH3 vs[0] (vs.drop 1)):=by unfold opW; rw [if_neg (by decide),if_pos rfl,g0]
  rw [hval]
  refine EG (fun n F H' => ∃ j,n+j=vs.length∧j % 2=1∧F 1 = .own o 0 vs.length∧F 5 = .int .i64 (j:Nat)∧H'=H∧AH3 vs[0] (vs.drop 1)=AH3 vs[0] (vs.drop j)) (vs.length - 1) ⟨1,by omega,rfl,by simp -implicitDefEqProofs only [AA,BF,BQ,↓reduceIte,jA],by simp -implicitDefEqProofs only [AA,↓reduceIte] <;> rfl,rfl,rfl⟩ ?_
  rintro n F H' ⟨j,hj,hj2,f1,f5,rfl,hin⟩
  simp -implicitDefEqProofs only [BB,A8,BI,A7,AZ,BA,AO,AQ,AL,BD,AY,AC,AA,AX,AU,BH,BJ,BU,FP,AB,D6,DV,↓reduceIte,jA,jB,jC,enP,AH0,f1,f5,wrap_succ (show j < 9223372036854775807 by omega)]
  refine CQ (fun hc => ?_) (fun hc => ?_)
  ·have hc':j+1 < vs.length:=by simp at hc; omega
   have ij:=hix j (by omega)
   have ij1:=hix (j+1) hc'
   have dj:=hld j (by omega)
   have dj1:=hld (j+1) hc'
   rw [AOB _ _ _ hc'] at hin
   have e2:IntKind.i64.wrap (((j:Nat):Int)+2)=((j+2:Nat):Int):=by rw [wrap_i64 (by omega) (by omega)]; omega
   have es:IntKind.i64.wrap (((j:Nat):Int)+1)=((j+1:Nat):Int):=wrap_succ (show j < 9223372036854775807 by omega)
   simp -implicitDefEqProofs only [BB,CE,BR,A7]
   refine EK (by kernel_rfl) ?_
   simp -implicitDefEqProofs only [ET,DK,CY,DL,EJ,E8,EH,EC,HY,D9,CO,AO,AA,AX,AU,BH,BO,BU,CG,AB,FV,↓reduceIte,jA,jL,jB,enP,WV,f1,f5,i0,d0,ij,dj,es,ij1,dj1,lec,gec]
   cases ha:decide (vs[j]≤vs[0])
   ·simp -implicitDefEqProofs only [ET,DK,CY,D7,DL,EJ,E8,SC,GK,A8,BR,BI,A7,EO,FO,DN,AZ,BA,CO,AO,AQ,AL,BD,AY,AC,AA,EQ,AX,AU,BH,BM,BJ,BC,CP,DZ,BU,AB,D6,↓reduceIte,jA,jL,jB,jC,enP,ha,f5,e2]
    exact ⟨n - 2,by omega,j+2,by omega,by omega,by trivial,by first | rfl | trivial,trivial,by rw [hin,ha]; rfl⟩
   ·cases hb:decide (vs[0]≤vs[j+1])
    ·simp -implicitDefEqProofs only [ET,DK,CY,D7,DL,EJ,E8,NQ,EH,GK,EC,HY,D9,A8,BR,BI,A7,EO,FO,DN,AZ,BA,CO,AO,AQ,AL,BD,AY,AC,AA,AX,AU,BH,BM,BJ,BC,CP,DW,BO,BU,CG,AB,D6,IR,↓reduceIte,jA,jL,jB,jC,enP,WV,ha,hb,f1,f5,es,ij1,dj1,lec,i0,d0,e2]
     exact ⟨n - 2,by omega,j+2,by omega,by omega,by trivial,by first | rfl | trivial,trivial,by rw [hin,ha,hb]; rfl⟩
    ·simp -implicitDefEqProofs only [ET,DK,CY,D7,DL,EJ,E8,NQ,EH,GK,EC,HY,D9,BB,A8,BK,BI,A7,CJ,D8,F9,CV,DI,AZ,BA,CO,AO,AQ,AL,BD,AY,AC,AA,AX,AU,BH,BM,BC,CP,DW,BO,BU,CG,AB,D6,IR,↓reduceIte,jA,jL,jB,jC,enP,WV,ha,hb,f1,f5,es,ij1,dj1,lec,i0,d0]
     exact ⟨by rw [hin,ha,hb]; rfl,trivial⟩
  ·have hc':vs.length≤j+1:=by simp at hc; omega
   simp -implicitDefEqProofs only [BB,A8,BK,EF,A7,FC,CJ,F6,F8,CV,AZ,BA,AO,AQ,AL,BD,AY,AC,AA,AU,BH,BC,↓reduceIte,jB,jC]
   exact ⟨by rw [hin,AQ1 _ _ _ hc']; rfl,trivial⟩
 ·have n12:=hops.2.2 e22 e23
  have c1:(op == 22)=false:=beq_eq_false_iff_ne.2 e22
  have c2:(op == 23)=false:=beq_eq_false_iff_ne.2 e23
  have hval:opW op vs=if vs.length=1 then sgW op (vs.getD 0 0) else dbW op (vs.getD 0 0) (vs.getD 1 0):=by unfold opW; rw [if_neg e22,if_neg e23]
  rw [hval]
  simp -implicitDefEqProofs only [BB,A8,BR,BI,A7,DN,AZ,BA,AO,AQ,AL,BD,AY,AC,AA,AX,AU,BH,BJ,BC,BU,FP,AB,CX,BF,BQ,↓reduceIte,jA,jB,jC,enX,enP,AH0,c1,c2]
  refine CQ (fun hc => ?_) (fun hc => ?_)
  ·have hl1:vs.length=1:=by simp at hc; omega
   simp -implicitDefEqProofs only [BB,A8,AZ,AO,AQ,AL,BD,AY,AC,AA,AX,AU,BN,BH,BJ,BO,CG,BV,BP,AB,BF,BQ,jF,jD,jE,↓reduceIte,jA,jB,jC,enP,WV,i0,d0]
   refine (AJT G op _ v0 H).use ?_
   simp -implicitDefEqProofs only [BK,A7,CJ,CV,AZ,BA,AO,AQ,AL,BD,AY,AC,AA,AX,BC,↓reduceIte,jB,jC]
   exact ⟨by rw [if_pos hl1,g0],trivial⟩
  ·have hl1:vs.length≠1:=by simp at hc; omega
   have i1:I4 1 H (.own o 0 vs.length) (.int .i64 1)=some (.ptr o 1 0):=hix 1 (by omega)
   have d1:=hld 1 (by omega)
   have g1:vs.getD 1 0=vs[1]:=by rw [zF,jU (by omega)]; rfl
   have v1:vs[1] < 65536:=hv _ (jT _)
   simp -implicitDefEqProofs only [BB,BR,A7]
   refine EK (by kernel_rfl) ?_
   simp -implicitDefEqProofs only [ET,DK,CY,D7,DL,EH,G5,EC,D9,EI,EE,BK,A7,CV,AO,AA,AX,AU,BN,BH,BO,CG,AB,BF,BQ,jF,jD,jE,↓reduceIte,jA,jL,jB,enP,WV,i0,d0,i1,d1]
   refine ⟨_,AKU G op _ _ v0 v1 H,?_⟩
   exact ⟨by rw [if_neg hl1,g0,g1],trivial⟩
end Go.Proofs.YtokehnfjjmpanaaGreatDoor.Xe
