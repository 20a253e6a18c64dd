/- Part 7 of the proof (H2, H3, Sg, Sr, Sh, Cf, L1, X1, X3, Y0, X4); no condition. -/
import Derived.Test.YtokehnfjjmpanaaGreatDoorRows
import Derived.Carry
import Derived.ReadAgain
import Derived.ChangeSame
import Derived.OpenShut
import Derived.WideKeyArgs
import Derived.Test.YtokehnfjjmpanaaGreatDoorCards
import Derived.JoinedCond
import Derived.KernelRfl
import Derived.Test.YtokehnfjjmpanaaGreatDoorYC6
set_option linter.unusedVariables false
set_option linter.unusedSimpArgs false
set_option maxRecDepth 8000
namespace Go.Proofs.YtokehnfjjmpanaaGreatDoor.Wd
open Sm Bins Cov Go.RowKit
open Bool renaming not_false→jC
open Int renaming toNat_natCast→zG,eq_ofNat_of_zero_le→zI
open List renaming map_cons→jF,map_nil→jD,append_nil→jE
open Nat renaming mod_lt→qX,le_refl→jL,reduceAdd→jK,add_zero→jI,le_of_ble_eq_true→jH,reduceEqDiff→jB
open Option renaming getD_some→jA
def wW (z:Int):Nat:=(z % 65536).toNat
theorem AOH (z:Int):wW z < 65536:=by unfold wW; omega
theorem AOG {a:Nat} (h:a < 65536):wW (a:Int)=a:=by unfold wW; omega
theorem AAO (z:Int):((wW z:Nat):Int)=z % 65536:=by unfold wW; omega
def JR (a i:Nat):Nat:=a / 2 ^ i % 2
def H7 (a:Nat):Nat→Nat
 | 0=>0
 | k+1=>H7 a k+JR a k
def TM (a:Nat):Nat:=H7 a 16
def AEW (a:Nat) (n:Int):Nat:=if n < 0∨n≥16 then 0 else a * 2 ^ n.toNat % 65536
def AAB (a:Nat) (n:Int):Nat:=if n < 0∨n≥16 then 0 else a / 2 ^ n.toNat
theorem YI (a i:Nat):JR a i < 2:=qX _ (by omega)
theorem NG (a:Nat) : ∀ k,H7 a k≤k
 | 0=>jL 0
 | k+1=>by have:=NG a k; have:=YI a k; unfold H7; omega
theorem Q7 (a i:Nat) (hi:i < 8):JR (a % 256) i=JR a i:=by
 unfold JR
 have:i=0∨i=1∨i=2∨i=3∨i=4∨i=5∨i=6∨i=7:=by omega
 rcases this with rfl | rfl | rfl | rfl | rfl | rfl | rfl | rfl <;> simp only [Nat.reducePow] <;> omega
theorem AQ7 (a i:Nat):JR (a / 256) i=JR a (8+i):=by
 unfold JR
 rw [Nat.div_div_eq_div_mul,Nat.pow_add]
theorem AO9 (a:Nat):TM a=H7 (a / 256) 8+H7 (a % 256) 8:=by
 unfold TM
 simp only [H7,AQ7,Q7 a 0 (by omega),Q7 a 1 (by omega),Q7 a 2 (by omega),Q7 a 3 (by omega),Q7 a 4 (by omega),Q7 a 5 (by omega),Q7 a 6 (by omega),Q7 a 7 (by omega),jK,jI]
 omega
theorem AUN {n:Int} (h0:0≤n) (h1:n < 65536):IntKind.u16.wrap n=n:=by
 have e:IntKind.u16.wrap n=n % 65536:=by simp [IntKind.wrap,IntKind.bits,IntKind.signed]
 rw [e]; omega
theorem AUD (z:Int):G8 Tryz.prog 3 .and (.int .i64 z) (.int .i64 65535)=some (.int .i64 ((wW z:Nat):Int)):=by
 have e:G8 Tryz.prog 3 .and (.int .i64 z) (.int .i64 65535)=some (.int .i64 (IntKind.i64.wrap ((BitVec.ofInt 64 z &&& BitVec.ofInt 64 65535).toNat:Int))):=rfl
 rw [e,BitVec.toNat_and]
 have h1:(BitVec.ofInt 64 65535).toNat=2 ^ 16 - 1:=by decide
 rw [h1,Nat.and_two_pow_sub_one_eq_mod,BitVec.toNat_ofInt]
 have h2:((z % ((2 ^ 64:Nat):Int)).toNat % 2 ^ 16)=wW z:=by
  unfold wW
  simp only [Nat.reducePow]
  omega
 rw [h2,LP (by have:=AOH z; omega)]
theorem ANN (a:Nat) (h:a < 65536):(BitVec.ofInt 64 (a:Int)).toNat=a:=by
 rw [BitVec.ofInt_natCast,BitVec.toNat_ofNat]
 exact Nat.mod_eq_of_lt (by omega)
theorem AZ3 (a b:Nat) (ha:a < 65536) (hb:b < 65536):G8 Tryz.prog 3 .and (.int .i64 (a:Nat)) (.int .i64 (b:Nat))=some (.int .i64 ((a &&& b:Nat):Int)):=by
 have e:G8 Tryz.prog 3 .and (.int .i64 (a:Nat)) (.int .i64 (b:Nat))=some (.int .i64 (IntKind.i64.wrap ((BitVec.ofInt 64 (a:Int) &&& BitVec.ofInt 64 (b:Int)).toNat:Int))):=rfl
 have hx:a &&& b < 2 ^ 16:=Nat.and_lt_two_pow _ (by omega)
 rw [e,BitVec.toNat_and,ANN a ha,ANN b hb,LP (by omega)]
theorem A09 (a b:Nat) (ha:a < 65536) (hb:b < 65536):G8 Tryz.prog 3 .or (.int .i64 (a:Nat)) (.int .i64 (b:Nat))=some (.int .i64 ((a ||| b:Nat):Int)):=by
 have e:G8 Tryz.prog 3 .or (.int .i64 (a:Nat)) (.int .i64 (b:Nat))=some (.int .i64 (IntKind.i64.wrap ((BitVec.ofInt 64 (a:Int) ||| BitVec.ofInt 64 (b:Int)).toNat:Int))):=rfl
 have hx:a ||| b < 2 ^ 16:=Nat.or_lt_two_pow (by omega) (by omega)
 rw [e,BitVec.toNat_or,ANN a ha,ANN b hb,LP (by omega)]
theorem AXQ (a b:Nat) (ha:a < 65536) (hb:b < 65536):G8 Tryz.prog 3 .xor (.int .i64 (a:Nat)) (.int .i64 (b:Nat))=some (.int .i64 ((a ^^^ b:Nat):Int)):=by
 have e:G8 Tryz.prog 3 .xor (.int .i64 (a:Nat)) (.int .i64 (b:Nat))=some (.int .i64 (IntKind.i64.wrap ((BitVec.ofInt 64 (a:Int) ^^^ BitVec.ofInt 64 (b:Int)).toNat:Int))):=rfl
 have hx:a ^^^ b < 2 ^ 16:=Nat.xor_lt_two_pow (by omega) (by omega)
 rw [e,BitVec.toNat_xor,ANN a ha,ANN b hb,LP (by omega)]
theorem ASU (G:Nat→AV) (z:Int) (h:Hp):PCall (En G) 175 [.int .i64 z] h (.int .u16 ((wW z:Nat):Int)):=by
 have:=AOH z
 refine acN Tryz.func175 rfl ?_
 show awp _ _ _ _ _ (EE _ [.tmp 2] _)
 simp -implicitDefEqProofs only [BC,A8,BK,A7,CU,AZ,BA,AC,AQ,AO,BD,AX,AL,AA,AY,AU,BG,BH,BB,BU,PK,AB,BF,↓reduceIte,jB,jA,jC,enX,enP,ATT,AUD,AUN (n:=((wW z:Nat):Int)) (by omega) (by omega)]
 exact ⟨trivial,trivial⟩
theorem ASC {a:Nat} {n:Int}:AEW a n < 65536:=by
 unfold AEW
 split
 ·omega
 ·exact qX _ (by omega)
theorem ASB {a:Nat} {n:Int} (ha:a < 65536):AAB a n < 65536:=by
 unfold AAB
 split
 ·omega
 ·exact Nat.lt_of_le_of_lt (Nat.div_le_self _ _) ha
def AK4 (fn:Func):ByteArray:=match fn.body with
 | some (.seq _ (.seq (.region _ ops _) _))=>match ops[2]? with
   | some o=>match o.op with
     | .index _ (.const (.string s)) _=>s
     | _=>⟨#[]⟩
   | none=>⟨#[]⟩
 | _=>⟨#[]⟩
theorem AR8:(List.range 256).all (fun y=>(AK4 Tryz.f174)[y]? == some (UInt8.ofNat (H7 y 8)))=true:=by kernel_rfl
theorem AOQ {y:Nat} (hy:y < 256) (h:Hp):ofO h (LD Tryz.prog 9 (.str (AK4 Tryz.f174)) (.int .u16 (y:Nat)))=some (.int .u8 (H7 y 8:Nat),h):=by
 have h1:=List.all_eq_true.1 AR8 y (by simpa using hy)
 have h2:(AK4 Tryz.f174)[y]? = some (UInt8.ofNat (H7 y 8)):=by simpa using h1
 have hle:=NG y 8
 have hu:Tryz.prog.underlying 9=some .string:=by kernel_rfl
 have h3:LD Tryz.prog 9 (.str (AK4 Tryz.f174)) (.int .u16 (y:Nat))=some (.int .u8 (H7 y 8:Nat)):=by
  unfold LD
  simp only [hu,zG,h2]
  rw [if_pos (by omega)]
  simp
  omega
 rw [h3]; rfl
theorem ASO (a b:Nat) (hb:0 < b) (ha:a≤9223372036854775807):G8 Tryz.prog 3 .quo (.int .i64 (a:Int)) (.int .i64 (b:Int))=some (.int .i64 ((a / b:Nat):Int)):=by
 have h1:((a:Int).tdiv (b:Int))=((a / b:Nat):Int):=by rw [Int.tdiv_eq_ediv_of_nonneg (by omega)]; rfl
 have h2:=Nat.div_le_self a b
 rw [AL4 _ _ _ _ _ (by omega),h1,LP (by omega)]
theorem ASL (a b:Nat) (hb:0 < b):G8 Tryz.prog 3 .rem (.int .i64 (a:Int)) (.int .i64 (b:Int))=some (.int .i64 ((a % b:Nat):Int)):=by
 rw [VE _ _ _ _ _ (by omega),Int.tmod_eq_emod_of_nonneg (by omega)]; rfl
set_option maxHeartbeats 1000000 in
theorem AMS (G:Nat→AV) (a:Nat) (ha:a < 65536) (h:Hp):PCall (En G) 139 [.int .i64 (a:Nat)] h (.int .i64 (TM a:Nat)):=by
 have hs:G8 Tryz.prog 55 .shr (.int .u16 (a:Nat)) (.int .u64 8)=some (.int .u16 ((a / 256:Nat):Int)):=by
  have e:G8 Tryz.prog 55 .shr (.int .u16 (a:Nat)) (.int .u64 8)=some (.int .u16 ((a:Int).fdiv (2 ^ 8))):=rfl
  rw [e,Int.fdiv_eq_ediv_of_nonneg _ (by decide)]
  rfl
 have hl:G8 Tryz.prog 55 .and (.int .u16 (a:Nat)) (.int .u16 255)=some (.int .u16 ((a % 256:Nat):Int)):=by
  have e:G8 Tryz.prog 55 .and (.int .u16 (a:Nat)) (.int .u16 255)=some (.int .u16 (IntKind.u16.wrap ((BitVec.ofInt 16 (a:Int) &&& BitVec.ofInt 16 255).toNat:Int))):=rfl
  have h1:(BitVec.ofInt 16 255).toNat=2 ^ 8 - 1:=by decide
  have h2:(BitVec.ofInt 16 (a:Int)).toNat=a:=by
   rw [BitVec.ofInt_natCast,BitVec.toNat_ofNat]
   exact Nat.mod_eq_of_lt (by omega)
  rw [e,BitVec.toNat_and,h1,Nat.and_two_pow_sub_one_eq_mod,h2,AUN (by omega) (by simp only [Nat.reducePow]; omega)]
 have l1:=NG (a / 256) 8
 have l2:=NG (a % 256) 8
 have hadd:G8 Tryz.prog 5 .add (.int .u8 (H7 (a / 256) 8:Nat)) (.int .u8 (H7 (a % 256) 8:Nat))=some (.int .u8 (TM a:Nat)):=by
  have e:G8 Tryz.prog 5 .add (.int .u8 (H7 (a / 256) 8:Nat)) (.int .u8 (H7 (a % 256) 8:Nat))=some (.int .u8 (IntKind.u8.wrap ((H7 (a / 256) 8:Int)+(H7 (a % 256) 8:Int)))):=rfl
  have e2 : ∀ n:Int,IntKind.u8.wrap n=n % 256:=fun n=>by simp [IntKind.wrap,IntKind.bits,IntKind.signed]
  have e3:=AO9 a
  rw [e,e2]
  congr 2
  omega
 have h64:IntKind.i64.wrap ((TM a:Nat):Int)=((TM a:Nat):Int):=LP (by have:=NG a 16; unfold TM; omega)
 have hc:PCall (En G) 174 [.int .u16 (a:Nat)] h (.int .i64 (TM a:Nat)):=by
  refine acN Tryz.func174 rfl ?_
  show awp _ _ _ _ _ (EE _ [.tmp 2] _)
  simp -implicitDefEqProofs only [BC,A8,A7,AZ,BA,AC,AQ,AO,BD,AX,AL,AU,BG,BB,jA,jC,enX,enP]
  refine EX (by kernel_rfl) ?_
  simp -implicitDefEqProofs only [FC,DV,CY,DW,EP,IJ,AEN,AC,AA,AY,AU,BG,GV,BU,KJ,AB,BF,↓reduceIte,jB,jK,jA,enP,hs,hl]
  refine VC (v := .int .u8 (H7 (a / 256) 8:Nat)) (h:=h) (AOQ (by omega) h) ?_
  simp -implicitDefEqProofs only [FC,DV,CY,DW,EP,IJ,AEN,AC,AA,AY,AU,BG,GV,BU,KJ,AB,BF,↓reduceIte,jB,jK,jA,enP,hs,hl]
  refine VC (v := .int .u8 (H7 (a % 256) 8:Nat)) (h:=h) (AOQ (by omega) h) ?_
  simp -implicitDefEqProofs only [FC,DV,CY,EC,DW,G9,IJ,AEO,BK,A7,CU,AC,AA,AY,BU,PK,AB,↓reduceIte,jB,jK,jA,enP,AH4,hadd,h64]
  exact ⟨trivial,trivial⟩
 have ho:=ASU G (a:Nat) h
 rw [AOG ha] at ho
 refine acN Tryz.func139 rfl ?_
 show awp _ _ _ _ _ (EE _ [.tmp 2] _)
 simp -implicitDefEqProofs only [BC,A8,A7,AZ,BA,AC,AQ,AO,BD,AX,AL,AA,AY,AU,BO,BG,BH,BB,BV,BN,BF,jF,jD,jE,↓reduceIte,jB,jA,jC,enX,enP]
 refine ho.use ?_
 simp -implicitDefEqProofs only [AZ,AC,AQ,AO,BD,AX,AL,AA,AY,BO,BV,BN,jF,jD,jE,↓reduceIte,jA,jC]
 refine hc.use ?_
 simp -implicitDefEqProofs only [BK,A7,CU,AZ,BA,AC,AQ,AO,BD,AX,AL,AA,AY,BB,↓reduceIte,jA,jC]
 exact ⟨trivial,trivial⟩
theorem P7 (G:Nat→AV) (z:Int) (h:Hp) (hz : -9223372036854775808≤z∧z≤9223372036854775807):PCall (En G) 166 [.int .i64 z] h (.int .i64 (wW z:Nat)):=by
 have hr:G8 Tryz.prog 3 .rem (.int .i64 z) (.int .i64 65536)=some (.int .i64 (z.tmod 65536)):=VE _ _ _ _ _ (by decide)
 have hm:z.tmod 65536=if z < 0 then -((-z) % 65536) else z % 65536:=by
  split
  ·have h1:z = -(-z):=by omega
   conv=>lhs; rw [h1]
   rw [Int.neg_tmod,Int.tmod_eq_emod_of_nonneg (by omega)]
  ·rw [Int.tmod_eq_emod_of_nonneg (by omega)]
 have hw:=AAO z
 refine acN Tryz.func166 rfl ?_
 show awp _ _ _ _ _ (EE _ [.tmp 2] _)
 simp -implicitDefEqProofs only [BC,A8,BJ,A7,AZ,BA,AC,AQ,AO,BD,AX,AL,AA,AY,AU,BG,BH,BB,BU,AB,DF,BF,↓reduceIte,jB,jA,jC,enX,enP,hr]
 generalize z.tmod 65536=t at hm ⊢
 have h0 : -65536 < t∧t < 65536:=by
  rw [hm]; split <;> omega
 cases hc:decide (t < 0)
 ·have hc' : ¬ t < 0:=by simpa using hc
  have e:t=((wW z:Nat):Int):=by
   rw [hw]; split at hm <;> omega
  simp -implicitDefEqProofs only [BC,A8,BR,BK,A7,CU,DX,AZ,BA,AC,AQ,AO,BD,AX,AL,AA,AY,BH,BB,↓reduceIte,jB,jA,jC,hc]
  exact ⟨by rw [e],trivial⟩
 ·have hc':t < 0:=by simpa using hc
  have e:IntKind.i64.wrap (IntKind.i64.wrap (t+65535)+1)=((wW z:Nat):Int):=by
   have e1:IntKind.i64.wrap (t+65535)=t+65535:=wrap_i64 (by omega) (by omega)
   rw [hw,e1,wrap_i64 (by omega) (by omega)]
   split at hm <;> omega
  simp -implicitDefEqProofs only [BC,A8,BK,A7,CU,DR,AZ,BA,AC,AQ,AO,BD,AX,AL,AA,AY,AU,BG,BH,BB,BU,AB,DY,↓reduceIte,jB,jA,jC,enP,hc,e]
  exact ⟨trivial,trivial⟩
theorem KT (G:Nat→AV) (a:Nat) (ha:a < 65536) (h:Hp):PCall (En G) 166 [.int .i64 (a:Nat)] h (.int .i64 (a:Nat)):=by
 have:=P7 G (a:Nat) h (by omega)
 rwa [AOG ha] at this
theorem ADQ (G:Nat→AV) (n:Nat) (hn:n≤16) (h:Hp):PCall (En G) 167 [.int .i64 (n:Nat)] h (.int .i64 ((2 ^ n:Nat):Int)):=by
 refine acN Tryz.func167 rfl ?_
 show awp _ _ _ _ _ (EE _ [.tmp 2] _)
 simp -implicitDefEqProofs only [BC,CB,A8,A7,AZ,BA,AC,AQ,AO,BD,AX,AL,AU,BG,BB,jA,jC,enX,enP]
 refine D7 (fun k F H => ∃ i,k+i=n∧F 0 = .int .i64 (n:Nat)∧F 3 = .int .i64 ((2 ^ i:Nat):Int)∧F 4 = .int .i64 (i:Nat)∧H=h) n ⟨0,by simp,by simp -implicitDefEqProofs only [AA,BF,↓reduceIte,jB],by simp -implicitDefEqProofs only [AA,↓reduceIte,jB] <;> rfl,by simp -implicitDefEqProofs only [AA,↓reduceIte] <;> rfl,rfl⟩ ?_
 rintro k F H ⟨i,hi,f0,f3,f4,rfl⟩
 simp -implicitDefEqProofs only [BC,A8,BJ,A7,AZ,BA,AC,AQ,AO,BD,AX,AL,AA,AY,BH,BU,AB,DF,↓reduceIte,jB,jA,jC,enP,f0,f4]
 refine CV (fun hc => ?_) (fun hc => ?_)
 ·have hi':i < n:=by simpa using hc
  have hp:2 ^ i≤2 ^ 16:=Nat.pow_le_pow_right (by omega) (by omega)
  have e:IntKind.i64.wrap (2 * ((2 ^ i:Nat):Int))=((2 ^ (i+1):Nat):Int):=by
   simp only [Nat.reducePow] at hp
   rw [show (2:Int) * ((2 ^ i:Nat):Int)=((2 ^ i * 2:Nat):Int) by rw [Int.natCast_mul,Int.mul_comm]; rfl,Nat.pow_succ]
   exact LP (by omega)
  simp -implicitDefEqProofs only [BC,CB,A8,BR,A7,EK,FI,AZ,BA,AC,AQ,AO,BD,AX,AL,AA,AY,AU,BG,BH,BB,BU,AB,DY,YJ,↓reduceIte,jB,jA,jC,enP,f3,f4,e,wrap_succ (show i < 9223372036854775807 by omega)]
  exact ⟨k - 1,by omega,i+1,by omega,f0,by trivial,by trivial,trivial⟩
 ·have hi':i=n:=by
   have : ¬ i < n:=by simpa using hc
   omega
  subst hi'
  simp -implicitDefEqProofs only [BC,A8,BK,D6,A7,EU,FT,FX,CU,AZ,BA,AC,AQ,AO,BD,AX,AL,AA,AY,BH,BB,↓reduceIte,jB,jA,jC,f3]
  exact ⟨by trivial,trivial⟩
theorem AU9 (G:Nat→AV) (a b:Nat) (ha:a < 65536) (hb:b < 65536) (h:Hp):PCall (En G) 153 [.int .i64 (a:Nat),.int .i64 (b:Nat)] h (.int .i64 (((a+b) % 65536:Nat):Int)):=by
 have e:IntKind.i64.wrap ((a:Int)+(b:Int))=(a:Int)+(b:Int):=wrap_i64 (by omega) (by omega)
 have e2:wW ((a:Int)+(b:Int))=(a+b) % 65536:=by unfold wW; omega
 refine acN Tryz.func153 rfl ?_
 show awp _ _ _ _ _ (EE _ [.tmp 4] _)
 simp -implicitDefEqProofs only [BC,A8,A7,AZ,BA,AC,AQ,AO,BD,AX,AL,AA,AY,AU,BO,BG,BH,BB,BV,BN,BF,jF,jD,jE,↓reduceIte,jB,jA,jC,enX,enP]
 refine (KT G a ha h).use ?_
 simp -implicitDefEqProofs only [AZ,AC,AQ,AO,BD,AX,AL,AA,AY,BO,BH,BV,BN,BF,BQ,jF,jD,jE,↓reduceIte,jB,jA,jC]
 refine (KT G b hb h).use ?_
 simp -implicitDefEqProofs only [AZ,AC,AQ,AO,BD,AX,AL,AA,AY,BO,BU,BV,BN,AB,DY,jF,jD,jE,↓reduceIte,jB,jA,jC,enP,e]
 refine (P7 G _ h (by omega)).use ?_
 simp -implicitDefEqProofs only [BK,A7,CU,AZ,BA,AC,AQ,AO,BD,AX,AL,AA,AY,BB,↓reduceIte,jA,jC,e2]
 exact ⟨trivial,trivial⟩
theorem AXY (G:Nat→AV) (a b:Nat) (ha:a < 65536) (hb:b < 65536) (h:Hp):PCall (En G) 185 [.int .i64 (a:Nat),.int .i64 (b:Nat)] h (.int .i64 (((a+65536 - b) % 65536:Nat):Int)):=by
 have e:IntKind.i64.wrap ((a:Int) - (b:Int))=(a:Int) - (b:Int):=wrap_i64 (by omega) (by omega)
 have e2:wW ((a:Int) - (b:Int))=(a+65536 - b) % 65536:=by unfold wW; omega
 refine acN Tryz.func185 rfl ?_
 show awp _ _ _ _ _ (EE _ [.tmp 4] _)
 simp -implicitDefEqProofs only [BC,A8,A7,AZ,BA,AC,AQ,AO,BD,AX,AL,AA,AY,AU,BO,BG,BH,BB,BV,BN,BF,jF,jD,jE,↓reduceIte,jB,jA,jC,enX,enP]
 refine (KT G a ha h).use ?_
 simp -implicitDefEqProofs only [AZ,AC,AQ,AO,BD,AX,AL,AA,AY,BO,BH,BV,BN,BF,BQ,jF,jD,jE,↓reduceIte,jB,jA,jC]
 refine (KT G b hb h).use ?_
 simp -implicitDefEqProofs only [AZ,AC,AQ,AO,BD,AX,AL,AA,AY,BO,BU,BV,BN,AB,IZ,jF,jD,jE,↓reduceIte,jB,jA,jC,enP,e]
 refine (P7 G _ h (by omega)).use ?_
 simp -implicitDefEqProofs only [BK,A7,CU,AZ,BA,AC,AQ,AO,BD,AX,AL,AA,AY,BB,↓reduceIte,jA,jC,e2]
 exact ⟨trivial,trivial⟩
theorem mul_lt {a b:Nat} (ha:a < 65536) (hb:b≤65536):a * b≤65535 * 65536:=Nat.mul_le_mul (by omega) hb
theorem AYR (G:Nat→AV) (a b:Nat) (ha:a < 65536) (hb:b < 65536) (h:Hp):PCall (En G) 186 [.int .i64 (a:Nat),.int .i64 (b:Nat)] h (.int .i64 ((a * b % 65536:Nat):Int)):=by
 have hm:=mul_lt ha (Nat.le_of_lt hb)
 have e:IntKind.i64.wrap ((a:Int) * (b:Int))=((a * b:Nat):Int):=by rw [← Int.natCast_mul]; exact LP (by omega)
 have e2:wW ((a * b:Nat):Int)=a * b % 65536:=by unfold wW; omega
 refine acN Tryz.func186 rfl ?_
 show awp _ _ _ _ _ (EE _ [.tmp 4] _)
 simp -implicitDefEqProofs only [BC,A8,A7,AZ,BA,AC,AQ,AO,BD,AX,AL,AA,AY,AU,BO,BG,BH,BB,BV,BN,BF,jF,jD,jE,↓reduceIte,jB,jA,jC,enX,enP]
 refine (KT G a ha h).use ?_
 simp -implicitDefEqProofs only [AZ,AC,AQ,AO,BD,AX,AL,AA,AY,BO,BH,BV,BN,BF,BQ,jF,jD,jE,↓reduceIte,jB,jA,jC]
 refine (KT G b hb h).use ?_
 simp -implicitDefEqProofs only [AZ,AC,AQ,AO,BD,AX,AL,AA,AY,BO,BU,BV,BN,AB,YJ,jF,jD,jE,↓reduceIte,jB,jA,jC,enP,e]
 refine (P7 G _ h (by omega)).use ?_
 simp -implicitDefEqProofs only [BK,A7,CU,AZ,BA,AC,AQ,AO,BD,AX,AL,AA,AY,BB,↓reduceIte,jA,jC,e2]
 exact ⟨trivial,trivial⟩
theorem AY0 (G:Nat→AV) (a:Nat) (ha:a < 65536) (h:Hp):PCall (En G) 183 [.int .i64 (a:Nat)] h (.int .i64 ((65535 - a:Nat):Int)):=by
 have e:IntKind.i64.wrap (65535 - (a:Int))=((65535 - a:Nat):Int):=by rw [wrap_i64 (by omega) (by omega)]; omega
 refine acN Tryz.func183 rfl ?_
 show awp _ _ _ _ _ (EE _ [.tmp 2] _)
 simp -implicitDefEqProofs only [BC,A8,A7,AZ,BA,AC,AQ,AO,BD,AX,AL,AA,AY,AU,BO,BG,BH,BB,BV,BN,BF,jF,jD,jE,↓reduceIte,jB,jA,jC,enX,enP]
 refine (KT G a ha h).use ?_
 simp -implicitDefEqProofs only [BK,A7,CU,AZ,BA,AC,AQ,AO,BD,AX,AL,AA,AY,AU,BG,BB,BU,AB,IZ,↓reduceIte,jA,jC,enP,e]
 exact ⟨trivial,trivial⟩
theorem AYQ (G:Nat→AV) (a:Nat) (ha:a < 65536) (h:Hp):PCall (En G) 184 [.int .i64 (a:Nat)] h (.int .i64 (((65536 - a) % 65536:Nat):Int)):=by
 have e:IntKind.i64.wrap (0 - (a:Int))=0 - (a:Int):=wrap_i64 (by omega) (by omega)
 have e2:wW (0 - (a:Int))=(65536 - a) % 65536:=by unfold wW; omega
 refine acN Tryz.func184 rfl ?_
 show awp _ _ _ _ _ (EE _ [.tmp 2] _)
 simp -implicitDefEqProofs only [BC,A8,A7,AZ,BA,AC,AQ,AO,BD,AX,AL,AA,AY,AU,BO,BG,BH,BB,BV,BN,BF,jF,jD,jE,↓reduceIte,jB,jA,jC,enX,enP]
 refine (KT G a ha h).use ?_
 simp -implicitDefEqProofs only [AZ,AC,AQ,AO,BD,AX,AL,AA,AY,AU,BO,BG,BU,BV,BN,AB,IZ,jF,jD,jE,↓reduceIte,jA,jC,enP,e]
 refine (P7 G _ h (by omega)).use ?_
 simp -implicitDefEqProofs only [BK,A7,CU,AZ,BA,AC,AQ,AO,BD,AX,AL,AA,AY,BB,↓reduceIte,jA,jC,e2]
 exact ⟨trivial,trivial⟩
theorem AX7 (G:Nat→AV) (a:Nat) (n:Int) (ha:a < 65536) (h:Hp):PCall (En G) 190 [.int .i64 (a:Nat),.int .i64 n] h (.int .i64 (AEW a n:Nat)):=by
 refine acN Tryz.func190 rfl ?_
 show awp _ _ _ _ _ (EE _ [.tmp 4] _)
 simp -implicitDefEqProofs only [BC,A8,A7,AZ,BA,BL,BX,CG,AC,AQ,AO,BD,AX,AL,AA,AY,AU,BG,BH,BB,BU,AB,DF,BF,BQ,↓reduceIte,jB,jA,jC,enX,enP]
 cases h1:decide (n < 0)
 ·have h1' : ¬ n < 0:=by simpa using h1
  cases h2:decide (n > 15)
  ·have h2' : ¬ n > 15:=by simpa using h2
   obtain ⟨k,rfl⟩:=zI (show 0≤n by omega)
   have hp:2 ^ k≤2 ^ 16:=Nat.pow_le_pow_right (by omega) (by omega)
   have hm:=mul_lt ha hp
   have e:IntKind.i64.wrap ((a:Int) * ((2 ^ k:Nat):Int))=((a * 2 ^ k:Nat):Int):=by rw [← Int.natCast_mul]; exact LP (by omega)
   have e2:wW ((a * 2 ^ k:Nat):Int)=AEW a (k:Nat):=by
    unfold AEW wW
    rw [if_neg (by omega),zG]
    omega
   simp -implicitDefEqProofs only [BC,A8,BR,BJ,A7,DX,AZ,BA,BL,BX,CG,EM,AC,AQ,AO,BD,AX,AL,AA,AY,AU,BO,BG,BM,BH,CO,DU,BU,BV,BN,AB,EY,BF,BQ,jF,jD,jE,↓reduceIte,jB,jA,jC,enP,h2]
   refine (KT G a ha h).use ?_
   simp -implicitDefEqProofs only [AZ,AC,AQ,AO,BD,AX,AL,AA,AY,BO,BH,BV,BN,BF,BQ,jF,jD,jE,↓reduceIte,jB,jA,jC]
   refine (ADQ G k (by omega) h).use ?_
   simp -implicitDefEqProofs only [AZ,AC,AQ,AO,BD,AX,AL,AA,AY,BO,BU,BV,BN,AB,YJ,jF,jD,jE,↓reduceIte,jB,jA,jC,enP,e]
   refine (P7 G _ h (by omega)).use ?_
   simp -implicitDefEqProofs only [BK,A7,CU,AZ,BA,AC,AQ,AO,BD,AX,AL,AA,AY,BB,↓reduceIte,jA,jC,e2]
   exact ⟨trivial,trivial⟩
  ·have h2':n > 15:=by simpa using h2
   simp -implicitDefEqProofs only [BC,A8,BK,BJ,A7,CJ,CU,DR,AZ,BA,BL,BX,CG,EM,AC,AQ,AO,BD,AX,AL,AA,AY,AU,BG,BM,BH,BB,CO,DU,BU,AB,EY,BF,BQ,↓reduceIte,jB,jA,jC,enP,h2]
   exact ⟨by unfold AEW; rw [if_pos (by omega)]; rfl,trivial⟩
 ·have h1':n < 0:=by simpa using h1
  simp -implicitDefEqProofs only [BC,A8,BK,BJ,A7,CJ,CU,DR,AZ,BA,BL,BX,CG,FY,AC,AQ,AO,BD,AX,AL,AA,EG,AY,AU,BG,BM,BB,CO,DK,↓reduceIte,jB,jA,jC]
  exact ⟨by unfold AEW; rw [if_pos (by omega)]; rfl,trivial⟩
theorem AUQ (G:Nat→AV) (a:Nat) (n:Int) (ha:a < 65536) (h:Hp):PCall (En G) 124 [.int .i64 (a:Nat),.int .i64 n] h (.int .i64 (AAB a n:Nat)):=by
 refine acN Tryz.func124 rfl ?_
 show awp _ _ _ _ _ (EE _ [.tmp 4] _)
 simp -implicitDefEqProofs only [BC,A8,A7,AZ,BA,BL,BX,CG,AC,AQ,AO,BD,AX,AL,AA,AY,AU,BG,BH,BB,BU,AB,DF,BF,BQ,↓reduceIte,jB,jA,jC,enX,enP]
 cases h1:decide (n < 0)
 ·have h1' : ¬ n < 0:=by simpa using h1
  cases h2:decide (n > 15)
  ·have h2' : ¬ n > 15:=by simpa using h2
   obtain ⟨k,rfl⟩:=zI (show 0≤n by omega)
   have hp:0 < 2 ^ k:=Nat.pow_pos (by omega)
   have e2:a / 2 ^ k=AAB a (k:Nat):=by
    unfold AAB
    rw [if_neg (by omega),zG]
   simp -implicitDefEqProofs only [BC,A8,BR,BJ,A7,DX,AZ,BA,BL,BX,CG,EM,AC,AQ,AO,BD,AX,AL,AA,AY,AU,BO,BG,BM,BH,CO,DU,BU,BV,BN,AB,EY,BF,BQ,jF,jD,jE,↓reduceIte,jB,jA,jC,enP,h2]
   refine (KT G a ha h).use ?_
   simp -implicitDefEqProofs only [AZ,AC,AQ,AO,BD,AX,AL,AA,AY,BO,BH,BV,BN,BF,BQ,jF,jD,jE,↓reduceIte,jB,jA,jC]
   refine (ADQ G k (by omega) h).use ?_
   simp -implicitDefEqProofs only [BK,A7,CU,AZ,BA,AC,AQ,AO,BD,AX,AL,AA,AY,BB,BU,AB,↓reduceIte,jB,jA,jC,enP,ASO a (2 ^ k) hp (by omega),e2]
   exact ⟨trivial,trivial⟩
  ·have h2':n > 15:=by simpa using h2
   simp -implicitDefEqProofs only [BC,A8,BK,BJ,A7,CJ,CU,DR,AZ,BA,BL,BX,CG,EM,AC,AQ,AO,BD,AX,AL,AA,AY,AU,BG,BM,BH,BB,CO,DU,BU,AB,EY,BF,BQ,↓reduceIte,jB,jA,jC,enP,h2]
   exact ⟨by unfold AAB; rw [if_pos (by omega)]; rfl,trivial⟩
 ·have h1':n < 0:=by simpa using h1
  simp -implicitDefEqProofs only [BC,A8,BK,BJ,A7,CJ,CU,DR,AZ,BA,BL,BX,CG,FY,AC,AQ,AO,BD,AX,AL,AA,EG,AY,AU,BG,BM,BB,CO,DK,↓reduceIte,jB,jA,jC]
  exact ⟨by unfold AAB; rw [if_pos (by omega)]; rfl,trivial⟩
theorem AFV (G:Nat→AV) (a i:Nat) (ha:a < 65536) (hi:i < 16) (h:Hp):PCall (En G) 125 [.int .i64 (a:Nat),.int .i64 (i:Nat)] h (.int .i64 (JR a i:Nat)):=by
 have e:AAB a (i:Nat)=a / 2 ^ i:=by
  unfold AAB
  rw [if_neg (by omega),zG]
 refine acN Tryz.func125 rfl ?_
 show awp _ _ _ _ _ (EE _ [.tmp 4] _)
 have hr:=ASL (a / 2 ^ i) 2 (by omega)
 have hr':G8 Tryz.prog 3 .rem (.int .i64 ((a / 2 ^ i:Nat):Int)) (.int .i64 2)=some (.int .i64 (JR a i:Nat)):=hr
 simp -implicitDefEqProofs only [BC,A8,A7,AZ,BA,AC,AQ,AO,BD,AX,AL,AA,AY,AU,BO,BG,BH,BB,BV,BN,BF,BQ,jF,jD,jE,↓reduceIte,jB,jA,jC,enX,enP]
 refine (AUQ G a i ha h).use ?_
 simp -implicitDefEqProofs only [BK,A7,CU,AZ,BA,AC,AQ,AO,BD,AX,AL,AA,AY,AU,BG,BB,BU,AB,↓reduceIte,jA,jC,enP,e,hr']
 exact ⟨trivial,trivial⟩
theorem AV5 (G:Nat→AV) (a:Nat) (ha:a < 65536) (h:Hp):PCall (En G) 81 [.int .i64 (a:Nat)] h (.int .i64 (TM a:Nat)):=by
 refine acN Tryz.func81 rfl ?_
 show awp _ _ _ _ _ (EE _ [.tmp 2] _)
 simp -implicitDefEqProofs only [BC,CB,A8,A7,AZ,BA,AC,AQ,AO,BD,AX,AL,AU,BG,BB,jA,jC,enX,enP]
 refine D7 (fun k F H => ∃ i,k+i=16∧F 0 = .int .i64 (a:Nat)∧F 3 = .int .i64 (H7 a i:Nat)∧F 4 = .int .i64 (i:Nat)∧H=h) 16 ⟨0,by simp,by simp -implicitDefEqProofs only [AA,BF,↓reduceIte,jB],by simp -implicitDefEqProofs only [AA,↓reduceIte,jB] <;> rfl,by simp -implicitDefEqProofs only [AA,↓reduceIte] <;> rfl,rfl⟩ ?_
 rintro k F H ⟨i,hi,f0,f3,f4,rfl⟩
 simp -implicitDefEqProofs only [BC,A8,BJ,A7,AZ,BA,AC,AQ,AO,BD,AX,AL,AA,AY,AU,BG,BH,BU,AB,DF,↓reduceIte,jA,jC,enP,f4]
 refine CV (fun hc => ?_) (fun hc => ?_)
 ·have hi':i < 16:=by simp at hc; omega
  have hle:=NG a (i+1)
  have e:IntKind.i64.wrap (((H7 a i:Nat):Int)+((JR a i:Nat):Int))=((H7 a (i+1):Nat):Int):=by
   have:H7 a (i+1)=H7 a i+JR a i:=rfl
   rw [wrap_i64 (by omega) (by omega)]; omega
  simp -implicitDefEqProofs only [BC,CB,A8,BR,A7,AZ,AC,AQ,AO,BD,AX,AL,AA,AY,BO,BH,BV,BN,jF,jD,jE,↓reduceIte,jB,jA,jC,f0,f3,f4]
  refine (AFV G a i ha hi' H).use ?_
  simp -implicitDefEqProofs only [A8,A7,EK,FI,AZ,BA,AC,AQ,AO,BD,AX,AL,AA,AY,AU,BG,BH,BB,BU,AB,DY,↓reduceIte,jB,jA,jC,enP,f3,f4,e,wrap_succ (show i < 9223372036854775807 by omega)]
  exact ⟨k - 1,by omega,i+1,by omega,f0,by trivial,by trivial,trivial⟩
 ·have hi':i=16:=by simp at hc; omega
  subst hi'
  simp -implicitDefEqProofs only [BC,A8,BK,D6,A7,EU,FT,FX,CU,AZ,BA,AC,AQ,AO,BD,AX,AL,AA,AY,BH,BB,↓reduceIte,jB,jA,jC,f3]
  exact ⟨by trivial,trivial⟩
def L9 (lo hi a b:Nat):Nat→Nat
 | 0=>0
 | k+1=>2 * L9 lo hi a b k+(if lo≤JR a (15 - k)+JR b (15 - k)∧JR a (15 - k)+JR b (15 - k)≤hi then 1 else 0)
theorem AEB (lo hi a b:Nat) : ∀ k,L9 lo hi a b k < 2 ^ k
 | 0=>by simp [L9]
 | k+1=>by
   have:=AEB lo hi a b k
   unfold L9
   rw [Nat.pow_succ]
   split <;> omega
theorem AAY (lo hi a b x:Nat) (hx:x < 65536) (hb : ∀ i,i < 16→JR x i=if lo≤JR a i+JR b i∧JR a i+JR b i≤hi then 1 else 0) : ∀ k,k≤16→L9 lo hi a b k=x / 2 ^ (16 - k)
 | 0,_=>by
   unfold L9
   rw [Nat.div_eq_of_lt (by simpa using hx)]
 | k+1,hk=>by
   unfold L9
   rw [AAY lo hi a b x hx hb k (by omega),← hb (15 - k) (by omega)]
   unfold JR
   rw [show 16 - (k+1)=15 - k by omega,show 16 - k=(15 - k)+1 by omega,Nat.pow_succ,← Nat.div_div_eq_div_mul]
   omega
theorem N9 (x i:Nat):JR x i=if x.testBit i=true then 1 else 0:=by
 have:=YI x i
 rw [Nat.testBit_eq_decide_div_mod_eq]
 unfold JR at *
 simp only [decide_eq_true_eq]
 split <;> omega
theorem AQ6 (a b:Nat) (ha:a < 65536):L9 2 2 a b 16=a &&& b:=by
 rw [AAY 2 2 a b (a &&& b) (Nat.lt_of_le_of_lt Nat.and_le_left ha) (fun i _ => ?_) 16 (jL _)]
 ·simp
 ·rw [N9,N9,N9,Nat.testBit_and]
  cases a.testBit i <;> cases b.testBit i <;> simp
theorem AT3 (a b:Nat) (ha:a < 65536) (hb:b < 65536):L9 1 2 a b 16=a ||| b:=by
 rw [AAY 1 2 a b (a ||| b) (Nat.or_lt_two_pow (n:=16) (by omega) (by omega)) (fun i _ => ?_) 16 (jL _)]
 ·simp
 ·rw [N9,N9,N9,Nat.testBit_or]
  cases a.testBit i <;> cases b.testBit i <;> simp
theorem AQ5 (a b:Nat) (ha:a < 65536) (hb:b < 65536):L9 1 1 a b 16=a ^^^ b:=by
 rw [AAY 1 1 a b (a ^^^ b) (Nat.xor_lt_two_pow (n:=16) (by omega) (by omega)) (fun i _ => ?_) 16 (jL _)]
 ·simp
 ·rw [N9,N9,N9,Nat.testBit_xor]
  cases a.testBit i <;> cases b.testBit i <;> simp
theorem ACN (G:Nat→AV) (lo hi a b:Nat) (ha:a < 65536) (hb:b < 65536) (h:Hp):PCall (En G) 205 [.int .i64 (a:Nat),.int .i64 (b:Nat),.int .i64 (lo:Nat),.int .i64 (hi:Nat)] h (.int .i64 (L9 lo hi a b 16:Nat)):=by
 refine acN Tryz.func205 rfl ?_
 show awp _ _ _ _ _ (EE _ [.tmp 8] _)
 simp -implicitDefEqProofs only [BC,CB,A8,A7,AZ,BA,AC,AQ,AO,BD,AX,AL,AU,BG,BB,jA,jC,enX,enP]
 refine D7 (fun n F H => ∃ k,n+k=16∧F 0 = .int .i64 (a:Nat)∧F 1 = .int .i64 (b:Nat)∧F 2 = .int .i64 (lo:Nat)∧F 3 = .int .i64 (hi:Nat)∧F 9 = .int .i64 (L9 lo hi a b k:Nat)∧F 10 = .int .i64 (15 - (k:Int))∧H=h) 16
  ⟨0,by simp,by simp -implicitDefEqProofs only [AA,BF,↓reduceIte,jB],by simp -implicitDefEqProofs only [AA,BF,BQ,↓reduceIte,jB],by simp -implicitDefEqProofs only [AA,BF,BQ,↓reduceIte,jB],by simp -implicitDefEqProofs only [AA,BF,BQ,↓reduceIte,jB],by simp -implicitDefEqProofs only [AA,↓reduceIte,jB] <;> rfl,by simp -implicitDefEqProofs only [AA,↓reduceIte] <;> rfl,rfl⟩ ?_
 rintro n F H ⟨k,hk,f0,f1,f2,f3,f9,f10,rfl⟩
 simp -implicitDefEqProofs only [BC,A8,BJ,A7,AZ,BA,AC,AQ,AO,BD,AX,AL,AA,AY,AU,BG,BH,BU,AB,FQ,↓reduceIte,jA,jC,enP,f10]
 refine CV (fun hc => ?_) (fun hc => ?_)
 ·have hk':k < 16:=by simp at hc; omega
  have e0:(15 - (k:Int))=((15 - k:Nat):Int):=by omega
  have l1:=YI a (15 - k)
  have l2:=YI b (15 - k)
  have l3:=AEB lo hi a b k
  have l4:2 ^ k≤2 ^ 15:=Nat.pow_le_pow_right (by omega) (by omega)
  simp only [Nat.reducePow] at l4
  have es:IntKind.i64.wrap (((JR a (15 - k):Nat):Int)+((JR b (15 - k):Nat):Int))=((JR a (15 - k)+JR b (15 - k):Nat):Int):=by rw [wrap_i64 (by omega) (by omega)]; omega
  have e2:IntKind.i64.wrap (2 * ((L9 lo hi a b k:Nat):Int))=((2 * L9 lo hi a b k:Nat):Int):=by rw [wrap_i64 (by omega) (by omega)]; omega
  have e3:IntKind.i64.wrap (((15 - k:Nat):Int) - 1)=15 - ((k+1:Nat):Int):=by rw [wrap_i64 (by omega) (by omega)]; omega
  have hst:L9 lo hi a b (k+1)=2 * L9 lo hi a b k+(if lo≤JR a (15 - k)+JR b (15 - k)∧JR a (15 - k)+JR b (15 - k)≤hi then 1 else 0):=rfl
  simp -implicitDefEqProofs only [BC,CB,A8,BR,A7,AZ,AC,AQ,AO,BD,AX,AL,AA,AY,BO,BH,BV,BN,jF,jD,jE,↓reduceIte,jB,jA,jC,f0,f10,e0]
  refine (AFV G a (15 - k) ha (by omega) H).use ?_
  simp -implicitDefEqProofs only [AZ,AC,AQ,AO,BD,AX,AL,AA,AY,BO,BH,BV,BN,jF,jD,jE,↓reduceIte,jB,jA,jC,f1,f10,e0]
  refine (AFV G b (15 - k) hb (by omega) H).use ?_
  simp -implicitDefEqProofs only [BC,A8,A7,AZ,BA,BL,BX,CG,AC,AQ,AO,BD,AX,AL,AA,AY,AU,BG,BH,BB,BU,AB,DY,YJ,FQ,↓reduceIte,jB,jA,jC,enP,f2,f3,f9,es,e2]
  cases h1:decide (((JR a (15 - k)+JR b (15 - k):Nat):Int)≥((lo:Nat):Int))
  ·have h1' : ¬ lo≤JR a (15 - k)+JR b (15 - k):=by simp at h1; omega
   rw [if_neg (fun q=>h1' q.1),jI] at hst
   simp -implicitDefEqProofs only [A8,BR,BJ,A7,EK,FI,DX,AZ,BA,BL,BX,CG,JA,AC,AQ,AO,BD,AX,AL,AA,EG,AY,AU,BG,BM,BH,BB,CO,DU,BU,AB,IZ,↓reduceIte,jB,jA,jC,enP,h1,f10,e0,e3]
   exact ⟨n - 1,by omega,k+1,by omega,f0,f1,f2,f3,by rw [hst] <;> rfl,by trivial,trivial⟩
  ·have h1':lo≤JR a (15 - k)+JR b (15 - k):=by simp at h1; omega
   cases h2:decide (((JR a (15 - k)+JR b (15 - k):Nat):Int)≤((hi:Nat):Int))
   ·have h2' : ¬ JR a (15 - k)+JR b (15 - k)≤hi:=by simp at h2; omega
    rw [if_neg (fun q=>h2' q.2),jI] at hst
    simp -implicitDefEqProofs only [A8,BR,BJ,A7,EK,FI,DX,AZ,BA,BL,BX,CG,F8,AC,AQ,AO,BD,AX,AL,AA,AY,AU,BG,BM,BH,BB,CO,DK,BU,AB,IZ,I7,↓reduceIte,jB,jA,jC,enP,h1,h2,f3,f10,e0,e3]
    exact ⟨n - 1,by omega,k+1,by omega,f0,f1,f2,by trivial,by rw [hst] <;> rfl,by trivial,trivial⟩
   ·have h2':JR a (15 - k)+JR b (15 - k)≤hi:=by simp at h2; omega
    rw [if_pos ⟨h1',h2'⟩] at hst
    simp -implicitDefEqProofs only [A8,BJ,A7,EK,FI,DR,AZ,BA,BL,BX,CG,F8,AC,AQ,AO,BD,AX,AL,AA,AY,AU,BG,BM,BH,BB,CO,DK,BU,AB,DY,IZ,I7,↓reduceIte,jB,jA,jC,enP,h1,h2,f3,f10,e0,e3,wrap_succ (show 2 * L9 lo hi a b k < 9223372036854775807 by omega)]
    exact ⟨n - 1,by omega,k+1,by omega,f0,f1,f2,by trivial,by rw [hst] <;> rfl,by trivial,trivial⟩
 ·have hk':k=16:=by simp at hc; omega
  subst hk'
  simp -implicitDefEqProofs only [BC,A8,BK,D6,A7,EU,FT,FX,CU,AZ,BA,AC,AQ,AO,BD,AX,AL,AA,AY,BH,BB,↓reduceIte,jB,jA,jC,f9]
  exact ⟨by trivial,trivial⟩
theorem AZ4 (G:Nat→AV) (a b:Nat) (ha:a < 65536) (hb:b < 65536) (h:Hp):PCall (En G) 187 [.int .i64 (a:Nat),.int .i64 (b:Nat)] h (.int .i64 ((a &&& b:Nat):Int)):=by
 have hc:=ACN G 2 2 a b ha hb h
 rw [AQ6 a b ha] at hc
 have hc':PCall (En G) 205 [.int .i64 (a:Nat),.int .i64 (b:Nat),.int .i64 2,.int .i64 2] h (.int .i64 ((a &&& b:Nat):Int)):=hc
 refine acN Tryz.func187 rfl ?_
 show awp _ _ _ _ _ (EE _ [.tmp 4] _)
 simp -implicitDefEqProofs only [BC,A8,A7,AZ,BA,AC,AQ,AO,BD,AX,AL,AA,AY,AU,BO,BG,BH,BB,BV,BN,BF,BQ,jF,jD,jE,↓reduceIte,jB,jA,jC,enX,enP]
 refine hc'.use ?_
 simp -implicitDefEqProofs only [BK,A7,CU,AZ,BA,AC,AQ,AO,BD,AX,AL,AA,AY,BB,↓reduceIte,jA,jC]
 exact ⟨trivial,trivial⟩
theorem A1A (G:Nat→AV) (a b:Nat) (ha:a < 65536) (hb:b < 65536) (h:Hp):PCall (En G) 188 [.int .i64 (a:Nat),.int .i64 (b:Nat)] h (.int .i64 ((a ||| b:Nat):Int)):=by
 have hc:=ACN G 1 2 a b ha hb h
 rw [AT3 a b ha hb] at hc
 have hc':PCall (En G) 205 [.int .i64 (a:Nat),.int .i64 (b:Nat),.int .i64 1,.int .i64 2] h (.int .i64 ((a ||| b:Nat):Int)):=hc
 refine acN Tryz.func188 rfl ?_
 show awp _ _ _ _ _ (EE _ [.tmp 4] _)
 simp -implicitDefEqProofs only [BC,A8,A7,AZ,BA,AC,AQ,AO,BD,AX,AL,AA,AY,AU,BO,BG,BH,BB,BV,BN,BF,BQ,jF,jD,jE,↓reduceIte,jB,jA,jC,enX,enP]
 refine hc'.use ?_
 simp -implicitDefEqProofs only [BK,A7,CU,AZ,BA,AC,AQ,AO,BD,AX,AL,AA,AY,BB,↓reduceIte,jA,jC]
 exact ⟨trivial,trivial⟩
theorem AXR (G:Nat→AV) (a b:Nat) (ha:a < 65536) (hb:b < 65536) (h:Hp):PCall (En G) 189 [.int .i64 (a:Nat),.int .i64 (b:Nat)] h (.int .i64 ((a ^^^ b:Nat):Int)):=by
 have hc:=ACN G 1 1 a b ha hb h
 rw [AQ5 a b ha hb] at hc
 have hc':PCall (En G) 205 [.int .i64 (a:Nat),.int .i64 (b:Nat),.int .i64 1,.int .i64 1] h (.int .i64 ((a ^^^ b:Nat):Int)):=hc
 refine acN Tryz.func189 rfl ?_
 show awp _ _ _ _ _ (EE _ [.tmp 4] _)
 simp -implicitDefEqProofs only [BC,A8,A7,AZ,BA,AC,AQ,AO,BD,AX,AL,AA,AY,AU,BO,BG,BH,BB,BV,BN,BF,BQ,jF,jD,jE,↓reduceIte,jB,jA,jC,enX,enP]
 refine hc'.use ?_
 simp -implicitDefEqProofs only [BK,A7,CU,AZ,BA,AC,AQ,AO,BD,AX,AL,AA,AY,BB,↓reduceIte,jA,jC]
 exact ⟨trivial,trivial⟩
end Go.Proofs.YtokehnfjjmpanaaGreatDoor.Wd
namespace Go.Proofs.YtokehnfjjmpanaaGreatDoor.Sm
open Bool renaming and_eq_true→jV
open List renaming append_nil→jE,getElem?_map→zB
open Nat renaming eq_zero_or_pos→qA,add_zero→jI

def M0 (W:World):Nat→Option Obj:=fun k=>W.heap[k]?
def g0 (W:World):Gh:=⟨M0 W,fun _=>none,W.os,W.tape,W.output,fun _=>none⟩
theorem A01 {E:Env} {W:World} (hN:E.L=none) (hG : ∀ n,RepF (M0 W) (E.G n) (.pointer (some ⟨n,0,none⟩))):SimH E (g0 W) [] W where
 os:=rfl
 tape:=rfl
 output:=rfl
 fro k o h:=h
 lo g0 h:=by rw [hN] at h; cases h
 live b k xs h:=by simp at h
 obj b x h:=by simp at h
 inj b b' x x' l l' h:=by simp at h
 fresh b _:=rfl
 glob:=hG
theorem AIC {E:Env} {f:FuncId} {avs:List AV} {args:Array Value} {W:World} (hc:ACalls E f avs [] fun v _=>v = .bool true) (hN:E.L=none) (hX : ∀ u h,¬ E.X u h)
  (hG : ∀ n,RepF (M0 W) (E.G n) (.pointer (some ⟨n,0,none⟩))) (ha:ZJ (g0 W) avs args) :
  Calls E.P f args W fun e w'=>e = .returned (.bool true)∧RowKit.Below W.heap.size W w':=by
 refine (hc.2 (g0 W) W args (A01 hN hG) ha).mono ?_
 rintro e w' (⟨v,cv,g',h',rfl,rfl,hle,S,hr⟩ | ⟨_,_,_,_,hx,_⟩)
 rotate_left
 ·exact (hX _ _ hx).elim
 rw [hr.bool_inv]
 have hfro : ∀ k o,W.heap[k]? = some o→w'.heap[k]? = some o:=fun k o h=>S.fro k o (hle.M k o h)
 refine ⟨rfl,?_,?_,?_,?_,?_⟩
 ·rw [S.os,hle.os]; rfl
 ·rw [S.tape,hle.tape]; rfl
 ·rw [S.output,hle.output]; rfl
 ·rcases Nat.lt_or_ge w'.heap.size W.heap.size with h | h
  ·have h1:=hfro w'.heap.size _ (Array.getElem?_eq_getElem h)
   simp at h1
  ·exact h
 ·intro k hk
  rw [hfro k _ (Array.getElem?_eq_getElem hk),Array.getElem?_eq_getElem hk]
theorem AO3 {H:Type} {enc:TypeId × Value→H} {P:Program} {f:Func} {s:ChangeSpec} {tb:TypeId} {apart fresh handsOn:Bool} {W W':World} {args:Array Value} {ds gs:List (DataW H)} {before:List MemPlace}
  (hW:DataW.Whole enc P f.params.toList s.vars apart W args.toList ds gs before) (hb:RowKit.Below W.heap.size W W')
  (hv:s.vars = []) (hr:f.resultTypes = #[tb]) (hub:P.underlying tb=some .bool)
  (hs:s.fn H ds = { results := [.lit (.bool true)],args:=ds })
  (hl:laidOutB P=true) (hp:f.params.toList.all (fun t=>P.readableRec t && decide (t < P.types.size))=true) :
  s.post enc P f apart fresh handsOn false W args (.bool true) W':=by
 have hW0:=hW
 obtain ⟨p,q,hA,hV,rfl,_,_⟩:=hW
 rw [hv] at hV
 obtain ⟨rfl,rfl⟩:gs = []∧q = []:=by
  cases gs with
  | nil=>exact ⟨rfl,hV⟩
  | cons=>exact hV.elim
 have hfn:s.fn H (ds ++ []) = { results := [.lit (.bool true)],args:=ds }:=by rw [jE]; exact hs
 rw [jE] at hW0
 have hlt : ∀ x∈p,x.block < W.heap.size:=fun x hx=>hW0.lt x hx
 have hall : ∀ (sp:Nat→Bool),(∀ x∈p,sp x.block=true)→∀ {ts:List TypeId} {vs:List Value} {ds:List (DataW H)} {ps:List MemPlace},(ts.all (fun t=>P.readableRec t && decide (t < P.types.size))=true) →
   (∀ x∈ps,x∈p)→DataW.TrodAll enc P W 0 (fun _=>true) true ts vs ds ps→DataW.TrodAll enc P W' 0 sp true ts vs ds ps:=by
  intro sp hsp ts
  induction ts with
  | nil =>
    intro vs ds ps _ _ h
    cases vs <;> cases ds <;> first | exact h | exact h.elim
  | cons t ts ih =>
    intro vs ds ps hts hm h
    cases vs with
    | nil=>exact h.elim
    | cons v vs =>
      cases ds with
      | nil=>exact h.elim
      | cons d ds =>
        obtain ⟨p1,q1,h1,h2,e⟩:=h
        simp only [List.all_cons,jV,decide_eq_true_eq] at hts
        have hm1 : ∀ x∈p1,x∈p:=fun x hx=>hm x (by rw [e]; exact List.mem_append_left _ hx)
        exact ⟨p1,q1,WideElems.Trod_stays hl hts.1.1 hts.1.2 h1 (fun x hx=>hb.same (hlt x (hm1 x hx))) (fun x hx=>hsp x (hm1 x hx)),ih hts.2 (fun x hx=>hm x (by rw [e]; exact List.mem_append_right _ hx)) h2,e⟩
 have hold : ∀ x∈p,(fun b=>decide (b < W.heap.size)) x.block=true:=fun x hx=>by simpa using hlt x hx
 refine ⟨ds,[],p,[],p,[],hW0,?_,?_,?_,World.keptBut_mono (fun x hx=>⟨hx,.inr (.inl hx)⟩) (hb.frame (·∈p)),fun h=>by cases h⟩
 ·rw [hfn,hr]
  exact ChangeShapes.trodAll_mk1 (RowKit.shut_bool hub true)
 ·rw [hfn]; exact hall _ hold hp (fun _ h=>h) hA
 ·rw [hv,hfn]; exact rfl

open Go.Proofs.YtokehnfjjmpanaaGreatDoor.Rows (uptoBulk uptoBulkAll)
def RowP (M:Nat→Option Obj) (rs:List AV) (cs:List Value):Prop := ∀ (j:Nat) (a:AV),rs[j]? = some a→a.leaf=true∧∃ c,cs[j]? = some c∧RepF M a c
theorem RowP.nil (M:Nat→Option Obj) (cs:List Value):RowP M [] cs:=fun j a h=>by simp at h
theorem RowP.one {M:Nat→Option Obj} {a:AV} {c:Value} (hl:a.leaf=true) (h:RepF M a c):RowP M [a] [c]:=by
 intro j b hb
 cases j with
 | zero=>simp at hb; subst hb; exact ⟨hl,c,rfl,h⟩
 | succ j=>simp at hb
theorem RowP.append {M:Nat→Option Obj} {rs bs:List AV} {cs:List Value} {n:Nat} (h:RowP M rs (cs.take n)) (hn:rs.length=n) (k:RowP M bs (cs.drop n)):RowP M (rs ++ bs) cs:=by
 intro j a ha
 rw [List.getElem?_append] at ha
 split at ha
 ·obtain ⟨h1,c,h2,h3⟩:=h j a ha
  rw [List.getElem?_take] at h2
  split at h2
  ·exact ⟨h1,c,h2,h3⟩
  ·cases h2
 ·obtain ⟨h1,c,h2,h3⟩:=k _ a ha
  rw [List.getElem?_drop] at h2
  exact ⟨h1,c,by rw [← h2]; congr 1; omega,h3⟩
def RdAt (P:Program) (n:Nat) (t:TypeId) {α:Type} (enc:α→List AV) (ok:α→Nat→Prop):Prop :=
 ∀ (H:Type) (ench:TypeId × Value→H) (w:World) (cs:List Value) (d:DataW H) (ps:List MemPlace),
   DataW.trod ench P w 0 (fun _=>true) true n t cs=some (d,ps)→∃ x,ok x (uptoBulk d)∧RowP (M0 w) (enc x) cs
def Rd (P:Program) (t:TypeId) {α:Type} (enc:α→List AV) (ok:α→Nat→Prop):Prop := ∀ n,RdAt P n t enc ok
theorem RdAt.zero {P:Program} {t:TypeId} {α:Type} {enc:α→List AV} {ok:α→Nat→Prop}:RdAt P 0 t enc ok:=by
 intro H ench w cs d ps h; simp [DataW.trod] at h
theorem RdAt.map {P:Program} {n:Nat} {t:TypeId} {α β:Type} {enc:α→List AV} {ok:α→Nat→Prop} {enc':β→List AV} {ok':β→Nat→Prop} (f:α→β) (h:RdAt P n t enc ok)
  (he : ∀ x,enc' (f x)=enc x) (hk : ∀ x b,ok x b→ok' (f x) b):RdAt P n t enc' ok':=by
 intro H ench w cs d ps ht
 obtain ⟨x,h1,h2⟩:=h H ench w cs d ps ht
 exact ⟨f x,hk x _ h1,by rw [he]; exact h2⟩
theorem Rd.map {P:Program} {t:TypeId} {α β:Type} {enc:α→List AV} {ok:α→Nat→Prop} {enc':β→List AV} {ok':β→Nat→Prop} (f:α→β) (h:Rd P t enc ok)
 (he : ∀ x,enc' (f x)=enc x) (hk : ∀ x b,ok x b→ok' (f x) b):Rd P t enc' ok':=fun n=>(h n).map f he hk
def okI (z:Int) (_:Nat):Prop := -9223372036854775808≤z∧z≤9223372036854775807
def okS (s:ByteArray) (b:Nat):Prop:=s.size+1≤b
def okT {α:Type} (_:α) (_:Nat):Prop:=True
def okL {α:Type} (ok:α→Nat→Prop):List α→Nat→Prop
 | [],_=>True
 | x :: xs,b => ∃ b1 b2,b1+b2≤b∧1≤b1∧ok x b1∧okL ok xs b2
theorem okL.length {α:Type} {ok:α→Nat→Prop} : ∀ {xs:List α} {b:Nat},okL ok xs b→xs.length≤b
 | [],_,_=>Nat.zero_le _
 | _ :: _,_,⟨_,_,h1,h2,_,h4⟩=>by have:=okL.length h4; simp; omega
theorem okL.each {α:Type} {ok:α→Nat→Prop} : ∀ {xs:List α} {b:Nat},okL ok xs b→∀ x∈xs,∃ b1,b1≤b∧ok x b1
 | [],_,_,_,h=>by cases h
 | y :: ys,b,⟨b1,b2,h1,h2,h3,h4⟩,x,h=>by
   cases List.mem_cons.1 h with
   | inl e=>subst e; exact ⟨b1,by omega,h3⟩
   | inr e=>obtain ⟨b3,h5,h6⟩:=okL.each h4 x e; exact ⟨b3,by omega,h6⟩
theorem okL.mono {α:Type} {ok:α→Nat→Prop} : ∀ {xs:List α} {b b':Nat},okL ok xs b→b≤b'→okL ok xs b'
 | [],_,_,_,_=>trivial
 | _ :: _,_,_,⟨b1,b2,h1,h2,h3,h4⟩,h=>⟨b1,b2,by omega,h2,h3,h4⟩
theorem AQ2 {H:Type} (d:DataW H):1≤uptoBulk d:=by
 cases d with
 | lit l=>cases l <;> simp [uptoBulk]
 | nil=>simp [uptoBulk]
 | ptr d=>simp [uptoBulk]
 | slice elems spare=>simp [uptoBulk]
 | agg parts=>simp [uptoBulk]
 | iface t d=>simp [uptoBulk]
 | map entries=>simp [uptoBulk]
 | held h=>simp [uptoBulk]
theorem AVZ {P:Program} {t:TypeId} (hu:P.underlying t=some (.int .i64)):Rd P t (fun z:Int => [.int .i64 z]) okI:=by
 intro n H ench w cs d ps h
 obtain ⟨z,rfl,hx,hz⟩:=DataW.trod_int hu h
 refine ⟨z,?_,RowP.one rfl (.int _ _)⟩
 simp only [Lit.wf,jV,decide_eq_true_eq] at hz
 exact hz
theorem AVX {P:Program} {t:TypeId} (hu:P.underlying t=some (.int .u16)):Rd P t (fun z:Int => [.int .u16 z]) (fun z _=>0≤z∧z≤65535):=by
 intro n H ench w cs d ps h
 obtain ⟨z,rfl,hx,hz⟩:=DataW.trod_int hu h
 refine ⟨z,?_,RowP.one rfl (.int _ _)⟩
 simp only [Lit.wf,jV,decide_eq_true_eq] at hz
 exact hz
theorem ASN {P:Program} {t:TypeId} (hu:P.underlying t=some .bool):Rd P t (fun z:Bool => [.bool z]) okT:=by
 intro n H ench w cs d ps h
 obtain ⟨z,rfl,hx⟩:=DataW.trod_bool hu h
 exact ⟨_,trivial,RowP.one rfl (.bool _)⟩
theorem AVY {P:Program} {t:TypeId} (hu:P.underlying t=some .string):Rd P t (fun z:ByteArray => [.str z]) okS:=by
 intro n H ench w cs d ps h
 obtain ⟨s,rfl,hx,_⟩:=DataW.trod_string hu h
 cases hx
 refine ⟨s,?_,RowP.one rfl (.str _)⟩
 simp only [okS,uptoBulk,Array.length_toList]
 exact Nat.le_refl _
theorem ABO {α β:Type} {f:α→Option β} {x:α} {xs:List α} {ys:List β} (h:(x :: xs).mapM f=some ys) : ∃ y zs,f x=some y∧xs.mapM f=some zs∧ys=y :: zs:=by
 rw [List.mapM_cons] at h
 cases hx:f x with
 | none=>simp [hx] at h
 | some y =>
   cases hz:xs.mapM f with
   | none=>simp [hx,hz] at h
   | some zs=>simp [hx,hz] at h; exact ⟨y,zs,rfl,rfl,h.symm⟩
theorem AG2 {P:Program} {n:Nat} {e:TypeId} {α:Type} {enc:α→List AV} {ok:α→Nat→Prop} (hr:RdAt P n e enc ok) {H:Type} {ench:TypeId × Value→H} {w:World} :
  ∀ (zs:List (DataW H × List MemPlace)) (cells:Nat→Option (List Value)),(∀ i,i < zs.length→(cells i).bind (DataW.trod ench P w 0 (fun _=>true) true n e)=zs[i]?) →
    ∃ xs:List α,xs.length=zs.length∧okL ok xs (uptoBulkAll (zs.map (·.1)))∧∀ (i:Nat) (x:α),xs[i]? = some x→∃ cs,cells i=some cs∧RowP (M0 w) (enc x) cs
 | [],cells,h=>⟨[],rfl,trivial,fun i x h=>by simp at h⟩
 | y :: zs,cells,h=>by
   have h0:=h 0 (by simp)
   cases hc:cells 0 with
   | none=>simp [hc] at h0
   | some cs =>
     simp only [hc,Option.bind_some,List.getElem?_cons_zero] at h0
     obtain ⟨x,k1,k2⟩:=hr H ench w cs y.1 y.2 h0
     obtain ⟨xs,l1,l2,l3⟩:=AG2 hr zs (fun i=>cells (i+1)) (fun i hi=>by have:=h (i+1) (by simpa using hi); simpa using this)
     refine ⟨x :: xs,by simp [l1],⟨uptoBulk y.1,uptoBulkAll (zs.map (·.1)),by simp [uptoBulkAll],AQ2 _,k1,l2⟩,?_⟩
     intro i x' hx
     cases i with
     | zero=>simp at hx; subst hx; exact ⟨cs,hc,k2⟩
     | succ i=>simp at hx; exact l3 i x' hx
theorem AJJ {β:Type} {f:Nat→Option β} {n i:Nat} {ys:List β} (h:(List.range n).mapM f=some ys) (hi:i < n) : ∃ y,f i=some y∧ys[i]? = some y:=by
 have gen : ∀ (l:List Nat) (ys:List β),l.mapM f=some ys→∀ j k:Nat,l[j]? = some k→∃ y,f k=some y∧ys[j]? = some y:=by
  intro l
  induction l with
  | nil=>intro ys _ j k hj; simp at hj
  | cons a l ih =>
    intro ys hl j k hj
    obtain ⟨y,zs,h1,h2,rfl⟩:=ABO hl
    cases j with
    | zero=>simp at hj; subst hj; exact ⟨y,h1,rfl⟩
    | succ j=>simp at hj; exact ih zs h2 j k hj
 exact gen _ _ h i i (by simp [hi])
theorem cells_at {w:World} {a:Addr} {n:Nat} {cs:List Value} (h:w.cells? 0 a n=some cs) {i:Nat} (hi:i < n) : ∃ c,w.cell? (a.add i)=some c∧cs[i]? = some c:=by
 unfold World.cells? at h
 simp only [Nat.zero_le,if_true] at h
 exact AJJ h hi
theorem NT {P:Program} {n:Nat} {t e:TypeId} {k:Nat} {α:Type} {enc:α→List AV} {ok:α→Nat→Prop} (hu:P.underlying t=some (.slice e)) (hk:P.cellsOf e=k) (hk0:0 < k) (hlen : ∀ x,(enc x).length=k)
  (hr:RdAt P n e enc ok):RdAt P (n+1) t (fun x:SM × List α => [.sl x.1 k (x.2.map enc)]) (fun x b => ∃ b',b'+1≤b∧okL ok x.2 b'):=by
 intro H ench w cs d ps h
 rcases DataW.trod_slice hu h with ⟨rfl,hd⟩ | ⟨a,len,cap,zs,rest,m,hm,rfl,hd,_,hlc,_,hzl,hel,_,_⟩
 ·cases hd
  exact ⟨(.nil,[]),⟨0,by simp [uptoBulk],trivial⟩,RowP.one rfl (.nil _)⟩
 ·obtain rfl:n=m:=by omega
  simp only [Prod.mk.injEq] at hd
  obtain ⟨xs,l1,l2,l3⟩:=AG2 hr zs (fun i=>w.cells? 0 (a.add (i * P.cellsOf e)) (P.cellsOf e)) (fun i hi=>hel i (by omega))
  rw [hzl] at l1
  have hok : ∃ b',b'+1≤uptoBulk d∧okL ok xs b':=⟨uptoBulkAll (zs.map (·.1)),by rw [hd.1]; simp [uptoBulk],l2⟩
  rcases qA len with h0 | hpos
  ·subst h0
   have:xs = []:=List.length_eq_zero_iff.1 l1
   subst this
   exact ⟨(.any,[]),hok,RowP.one rfl (.empty .any k a cap (by simp) (by simp))⟩
  ·refine ⟨(.any,xs),hok,RowP.one rfl ?_⟩
   have cellAt : ∀ i j,i < len→j < k→∃ c,w.cell? ((a.add (i * k)).add j)=some c∧∀ x a',xs[i]? = some x→(enc x)[j]? = some a'→a'.leaf=true∧RepF (M0 w) a' c:=by
    intro i j hi hj
    have hx:i < xs.length:=by omega
    obtain ⟨cs',q1,q2⟩:=l3 i xs[i] (by simp [hx])
    rw [hk] at q1
    obtain ⟨c,r1,r2⟩:=cells_at q1 hj
    refine ⟨c,r1,fun x a' hx' ha' => ?_⟩
    rw [List.getElem?_eq_getElem hx] at hx'
    cases hx'
    obtain ⟨s1,c',s2,s3⟩:=q2 j a' ha'
    rw [r2] at s2; cases s2
    exact ⟨s1,s3⟩
   obtain ⟨cb,co,sp⟩:=a
   have hadd : ∀ i j,((Addr.mk cb co none).add (i * k)).add j=⟨cb,co+i * k+j,none⟩:=by
    intro i j
    rw [addr_add,addr_add]
   obtain ⟨c0,hc0,_⟩:=cellAt 0 0 hpos hk0
   have hsp:sp=none:=by
    simp [Addr.add,World.cell?] at hc0
    split at hc0
    ·split at hc0
     ·cases hc0
     ·rename_i hs; simpa using hs
    ·cases hc0
   subst hsp
   rw [hadd] at hc0
   simp only [World.cell?] at hc0
   split at hc0
   case h_2=>cases hc0
   rename_i c ty fz hw
   have rd : ∀ i j,w.cell? ⟨cb,co+i * k+j,none⟩=c[co+i * k+j]? := fun i j=>by simp [World.cell?,hw]
   have hlx:len=(xs.map enc).length:=by simp [l1]
   rw [hlx]
   refine .sl .any k (xs.map enc) cb co c ty fz cap (fun i j=>c[co+i * k+j]?.getD default) ?_ (by simp) hw ?_ ?_ ?_ ?_ (by simp)
   ·intro hx
    have:xs = []:=by simpa using hx
    subst this; simp at l1; omega
   ·intro i row hrow
    rw [zB,Option.map_eq_some_iff] at hrow
    obtain ⟨x,hx,rfl⟩:=hrow
    refine ⟨hlen x,fun j v hv => ?_⟩
    have hi:i < len:=by rw [← l1]; exact (List.getElem?_eq_some_iff.1 hx).1
    have hj:j < k:=by rw [← hlen x]; exact (List.getElem?_eq_some_iff.1 hv).1
    obtain ⟨c,_,hc2⟩:=cellAt i j hi hj
    exact (hc2 x v hx hv).1
   ·intro i j hi hj
    obtain ⟨c',q1,_⟩:=cellAt i j (by simpa [l1] using hi) hj
    rw [hadd,rd] at q1
    rw [q1]; rfl
   ·intro i j row v hrow hv
    rw [zB,Option.map_eq_some_iff] at hrow
    obtain ⟨x,hx,rfl⟩:=hrow
    have hi:i < len:=by rw [← l1]; exact (List.getElem?_eq_some_iff.1 hx).1
    have hj:j < k:=by rw [← hlen x]; exact (List.getElem?_eq_some_iff.1 hv).1
    obtain ⟨c',q1,q2⟩:=cellAt i j hi hj
    rw [hadd,rd] at q1
    show RepF _ _ (c[co+i * k+j]?.getD default)
    rw [q1]
    exact (q2 x v hx hv).2
   ·simp [l1]; exact hlc
def AUI (P:Program) (n:Nat) (fs:List Field) (off:Nat) {α:Type} (enc:α→List AV) (ok:α→Nat→Prop):Prop :=
 ∀ (H:Type) (ench:TypeId × Value→H) (w:World) (cs:List Value) (zs:List (DataW H × List MemPlace)),zs.length=fs.length →
   (∀ (i:Nat) (f:Field),fs[i]? = some f→DataW.trod ench P w 0 (fun _=>true) true n f.type ((cs.drop f.offset).take (P.cellsOf f.type))=zs[i]?)→∃ x,ok x (uptoBulkAll (zs.map (·.1)))∧RowP (M0 w) (enc x) (cs.drop off)
theorem TA {P:Program} {n off:Nat}:AUI P n [] off (fun _:Unit => []) okT:=fun _ _ _ _ _ _ _=>⟨(),trivial,RowP.nil _ _⟩
theorem H6 {P:Program} {n off k:Nat} {f:Field} {fs:List Field} {α β:Type} {enc:α→List AV} {ok:α→Nat→Prop} {enc':β→List AV} {ok':β→Nat→Prop} (ho:f.offset=off) (hk:P.cellsOf f.type=k)
  (hlen : ∀ x,(enc x).length=k) (h:RdAt P n f.type enc ok) (h':AUI P n fs (off+k) enc' ok') :
  AUI P n (f :: fs) off (fun x:α × β=>enc x.1 ++ enc' x.2) (fun x b => ∃ b1 b2,b1+b2≤b∧ok x.1 b1∧ok' x.2 b2):=by
 intro H ench w cs zs hl hz
 cases zs with
 | nil=>simp at hl
 | cons y zs =>
   have h1:=hz 0 f rfl
   obtain ⟨x,k1,k2⟩:=h H ench w _ y.1 y.2 (by simpa using h1)
   obtain ⟨x',l1,l2⟩:=h' H ench w cs zs (by simpa using hl) (fun i f' hf=>by have:=hz (i+1) f' (by simpa using hf); simpa using this)
   refine ⟨(x,x'),⟨_,_,Nat.le_of_eq (by simp [uptoBulkAll]),k1,l1⟩,?_⟩
   rw [ho,hk] at k2
   refine RowP.append k2 (hlen x) ?_
   rw [List.drop_drop]
   exact l2
theorem OG {P:Program} {n:Nat} {t:TypeId} {fs:List Field} {α:Type} {enc:α→List AV} {ok:α→Nat→Prop} (hu:P.underlying t=some (.struct fs.toArray)) (h:AUI P n fs 0 enc ok) :
  RdAt P (n+1) t enc (fun x b => ∃ b',b'+1≤b∧ok x b'):=by
 intro H ench w cs d ps ht
 obtain ⟨zs,m,hm,hd,_,hl,hz⟩:=DataW.trod_struct hu ht
 obtain rfl:n=m:=by omega
 obtain ⟨x,k1,k2⟩:=h H ench w cs zs (by simpa using hl) (fun i f hf=>hz i f (by simpa using hf))
 simp only [Prod.mk.injEq] at hd
 exact ⟨x,⟨_,by rw [hd.1]; simp [uptoBulk],k1⟩,by simpa using k2⟩

open Go.Proofs.YtokehnfjjmpanaaGreatDoor.Rows (uptoBulk uptoBulkAll)
def PR (P:Program) (t:TypeId) {α:Type} (av:α→AV) (ok:α→Nat→Prop):Prop :=
 ∀ (H:Type) (ench:TypeId × Value→H) (w:World) (base:Nat) (v:Value) (d:DataW H) (ps:List MemPlace),Value.okWide P w .any base t v→DataW.Trod ench P w 0 (fun _=>true) true t v d ps →
   ∃ x,ok x (uptoBulk d)∧RepF (M0 w) (av x) v
theorem A08 {P:Program} {t:TypeId} {α:Type} {enc:α→List AV} {ok:α→Nat→Prop} {k:Nat} (h:Rd P t enc ok) (hl : ∀ x,ok x 0∨True→(enc x).length=k) (hk:P.cellsOf t=k) (hc:KR P t=some true):PR P t (fun x => .agg (enc x)) ok:=by
 intro H ench w base v d ps hv ⟨n,ht⟩
 have hag : ∃ cs,v = .agg cs∧cs.size=P.cellsOf t:=by
  unfold KR at hc
  unfold Value.okWide at hv
  cases hu:P.underlying t with
  | none=>simp [hu] at hc
  | some td =>
    rw [hu] at hc hv
    cases td <;> simp at hc <;> exact ⟨_,hv.choose_spec.1,hv.choose_spec.2.1⟩
 obtain ⟨cs,rfl,hs⟩:=hag
 obtain ⟨x,h1,h2⟩:=h n H ench w _ d ps ht
 refine ⟨x,h1,.agg _ cs (by rw [hs,hl x (.inr trivial),hk]) ?_⟩
 intro i a cv ha hcv
 obtain ⟨_,c,h3,h4⟩:=h2 i a ha
 simp [Value.cells] at h3
 rw [hcv] at h3; cases h3
 exact h4
def PRs (P:Program) (ts:List TypeId) {α:Type} (avs:α→List AV) (ok:α→Nat→Prop):Prop :=
 ∀ (H:Type) (ench:TypeId × Value→H) (w:World) (base:Nat) (vs:List Value) (ds:List (DataW H)) (ps:List MemPlace),(∀ (j:Nat) t v,ts[j]? = some t→vs[j]? = some v→Value.okWide P w .any base t v) →
   DataW.TrodAll ench P w 0 (fun _=>true) true ts vs ds ps→∃ x,ok x (uptoBulkAll ds)∧vs.length=(avs x).length∧∀ (i:Nat) (a:AV) (v:Value),(avs x)[i]? = some a→vs[i]? = some v→RepF (M0 w) a v
theorem PRs.len {P:Program} {w:World} {H:Type} {ench:TypeId × Value→H} {sp:Nat→Bool} {held:Bool} {base:Nat} : ∀ {ts:List TypeId} {vs:List Value} {ds:List (DataW H)} {ps:List MemPlace},DataW.TrodAll ench P w base sp held ts vs ds ps→ds.length=ts.length
 | [],[],[],_,_=>rfl
 | _ :: _,_ :: _,_ :: _,_,⟨_,_,_,h2,_⟩=>by simp [PRs.len h2]
theorem A0F {P:Program}:PRs P [] (fun _:Unit => []) okT:=by
 intro H ench w base vs ds ps _ h
 cases vs with
 | nil=>exact ⟨(),trivial,rfl,fun i a v h=>by simp at h⟩
 | cons v vs=>cases ds <;> exact h.elim
theorem AYE {P:Program} {t:TypeId} {ts:List TypeId} {α β:Type} {av:α→AV} {ok:α→Nat→Prop} {avs:β→List AV} {ok':β→Nat→Prop} (h:PR P t av ok) (h':PRs P ts avs ok') :
  PRs P (t :: ts) (fun x:α × β=>av x.1 :: avs x.2) (fun x b => ∃ b1 b2,b1+b2≤b∧ok x.1 b1∧ok' x.2 b2):=by
 intro H ench w base vs ds ps hv ht
 cases vs with
 | nil=>cases ds <;> exact ht.elim
 | cons v vs =>
   cases ds with
   | nil=>exact ht.elim
   | cons d ds =>
     obtain ⟨p,q,h1,h2,_⟩:=ht
     obtain ⟨x,k1,k2⟩:=h H ench w base v d p (hv 0 t v rfl rfl) h1
     obtain ⟨y,l1,l2,l3⟩:=h' H ench w base vs ds q (fun j t' v' a b=>hv (j+1) t' v' (by simpa using a) (by simpa using b)) h2
     refine ⟨(x,y),⟨_,_,Nat.le_of_eq (by simp [uptoBulkAll]),k1,l1⟩,by simp [l2],?_⟩
     intro i a v' ha hv'
     cases i with
     | zero=>simp at ha hv'; subst ha; subst hv'; exact k2
     | succ i=>simp at ha hv'; exact l3 i a v' ha hv'
theorem ATA {H:Type} {enc:TypeId × Value→H} {E:Env} {f:FuncId} {fn:Func} {s:ChangeSpec} {tb:TypeId} {apart fresh handsOn:Bool} {W:World} {base:Nat} {args:Array Value} {ds gs:List (DataW H)} {before:List MemPlace}
  {α:Type} {avs:α→List AV} {ok:α→Nat→Prop} (hr:PRs E.P fn.params.toList avs ok) (hlaw : ∀ x,ok x (uptoBulkAll ds)→ACalls E f (avs x) [] fun v _=>v = .bool true)
  (hval : ∀ (j:Nat) t v,fn.params[j]? = some t→args[j]? = some v→Value.okWide E.P W .any base t v)
  (hW:DataW.Whole enc E.P fn.params.toList s.vars apart W args.toList ds gs before) (hG : ∀ n,RepF (M0 W) (E.G n) (.pointer (some ⟨n,0,none⟩)))
  (hv:s.vars = []) (ht:fn.resultTypes = #[tb]) (hub:E.P.underlying tb=some .bool)
  (hs:s.fn H ds = { results := [.lit (.bool true)],args:=ds })
  (hl:laidOutB E.P=true) (hp:fn.params.toList.all (fun t=>E.P.readableRec t && decide (t < E.P.types.size))=true) (hN:E.L=none:=by rfl) (hX : ∀ u h,¬ E.X u h:=by exact fun _ _ q=>q) :
  Calls E.P f args W fun e W' => ∃ v,e = .returned v∧s.post enc E.P fn apart fresh handsOn false W args v W':=by
 obtain ⟨p,q,hA,_⟩:=id hW
 obtain ⟨x,k1,k2,k3⟩:=hr H enc W base args.toList ds p (fun j t v a b=>hval j t v (by simpa using a) (by simpa using b)) hA
 have ha:ZJ (g0 W) (avs x) args:=⟨by simpa using k2,fun i v cv h1 h2 => .fro (k3 i v cv h1 (by simpa using h2))⟩
 refine (AIC (hlaw x k1) hN hX hG ha).mono ?_
 rintro e w' ⟨rfl,hb⟩
 exact ⟨_,rfl,AO3 hW hb hv ht hub hs hl hp⟩
theorem AM4 {P:Program} {w:World} {t e:TypeId} (hu:P.underlying t=some (.slice e)) (he:P.underlying e=some .string) (hk:P.cellsOf e=1) {H:Type} {ench:TypeId × Value→H} {sp:Nat→Bool} {held:Bool} {n:Nat} {cs:List Value}
  {l:List ByteArray} {d:DataW H} (hd:d = .slice (l.map fun s => .lit (.string s.data.toList)) []) {p:List MemPlace} (h:DataW.trod ench P w 0 sp held n t cs=some (d,p)) :
  ∃ c,cs = [c]∧RepF (M0 w) (.sl .any 1 (l.map fun s => [.str s])) c:=by
 subst hd
 rcases DataW.trod_slice hu h with ⟨_,hx⟩ | ⟨a,len,cap,zs,rest,m,_,rfl,hx,_,hlc,_,hzl,hel,_,_⟩
 ·cases hx
 ·simp only [Prod.mk.injEq,DataW.slice.injEq] at hx
  obtain ⟨⟨hz,_⟩,_⟩:=hx
  have hll:l.length=len:=by have:=congrArg List.length hz; simpa [hzl] using this
  refine ⟨_,rfl,?_⟩
  rcases qA len with h0 | hpos
  ·subst h0
   have:l = []:=List.length_eq_zero_iff.1 hll
   subst this
   exact .empty .any 1 a cap (by simp) (by simp)
  ·have cellAt : ∀ i (s:ByteArray),l[i]? = some s→w.cell? (a.add i)=some (.string s):=by
    intro i s hs
    have hi:i < len:=by rw [← hll]; exact (List.getElem?_eq_some_iff.1 hs).1
    have h1:=hel i hi
    rw [hk,Nat.mul_one] at h1
    have h2:zs[i]?.map (·.1)=some (.lit (.string s.data.toList)):=by
     rw [← zB,← hz,zB,hs]; rfl
    cases hc:w.cells? 0 (a.add i) 1 with
    | none=>rw [hc] at h1; rw [← h1] at h2; cases h2
    | some c1 =>
      rw [hc,Option.bind_some] at h1
      obtain ⟨z,hzi⟩ : ∃ z,zs[i]? = some z:=by cases hh:zs[i]? with
       | none=>rw [hh] at h2; cases h2
       | some z=>exact ⟨z,rfl⟩
      rw [hzi] at h1 h2
      obtain ⟨s',rfl,rfl,_⟩:=DataW.trod_string he h1
      simp only [Option.map_some,Option.some.injEq,DataW.lit.injEq,Lit.string.injEq] at h2
      have:s'=s:=by
       cases s'; cases s
       simp only at h2
       congr 1
       exact Array.toList_inj.1 h2
      subst this
      obtain ⟨c,r1,r2⟩:=cells_at hc (i:=0) (by decide)
      simp at r2; subst r2
      simpa [Addr.add] using r1
   obtain ⟨cb,co,sp'⟩:=a
   have h00:=cellAt 0 l[0] (by simp [hll,hpos])
   have hsp:sp'=none:=by
    simp [Addr.add,World.cell?] at h00
    split at h00
    ·split at h00
     ·cases h00
     ·rename_i hs; simpa using hs
    ·cases h00
   subst hsp
   have hadd : ∀ i,(Addr.mk cb co none).add i=⟨cb,co+i,none⟩:=fun i=>addr_add _ _ _
   rw [hadd] at h00
   simp only [World.cell?] at h00
   split at h00
   case h_2=>cases h00
   rename_i c ty fz hw
   have rd : ∀ i,w.cell? ⟨cb,co+i,none⟩=c[co+i]? := fun i=>by simp [World.cell?,hw]
   have hlx:len=(l.map fun s => [AV.str s]).length:=by simp [hll]
   rw [hlx]
   refine .sl .any 1 _ cb co c ty fz cap (fun i j=>c[co+i * 1+j]?.getD default) ?_ (by simp) hw ?_ ?_ ?_ (by simp [hll]; exact hlc) (by simp)
   ·intro hx
    have:l = []:=by simpa using hx
    subst this; simp at hll; omega
   ·intro i row hrow
    rw [zB,Option.map_eq_some_iff] at hrow
    obtain ⟨x,hx,rfl⟩:=hrow
    refine ⟨rfl,fun j v hv => ?_⟩
    cases j with
    | zero=>simp at hv; subst hv; rfl
    | succ j=>simp at hv
   ·intro i j hi hj
    have hi':i < l.length:=by simpa using hi
    have:=cellAt i l[i] (by simp [hi'])
    rw [hadd,rd] at this
    have hj0:j=0:=by omega
    subst hj0
    simp only [Nat.mul_one,jI]
    rw [this]; rfl
   ·intro i j row v hrow hv
    rw [zB,Option.map_eq_some_iff] at hrow
    obtain ⟨x,hx,rfl⟩:=hrow
    have:=cellAt i x hx
    rw [hadd,rd] at this
    cases j with
    | zero =>
      simp at hv; subst hv
      simp only [Nat.mul_one,jI]
      rw [this]; exact .str _
    | succ j=>simp at hv
theorem AR5 {P:Program} {w:World} {n:String} {g:Nat} {cs:Array Value} {c:Value} {a:AV} (hg:P.globalNamed n=some g) (h:w.var? P n=some cs) (hc:cs.toList = [c]) (hr:RepF (M0 w) a c) (hl:a.leaf=true) :
  RepF (M0 w) (.fptr 1 [[a]] 0 0) (.pointer (some ⟨g,0,none⟩)):=by
 have h0:=World.var?_cell hg h 0
 have e:cs = #[c]:=by rw [← Array.toArray_toList (xs:=cs),hc]
 rw [e] at h0
 simp only [World.cell?] at h0
 split at h0
 case h_2=>simp at h0
 rename_i cc ty fz hw
 have hcc:cc[0]? = some c:=by simpa using h0
 refine .fptr 1 [[a]] 0 0 g 0 cc ty fz (fun _ _=>c) hw ?_ ?_ ?_
 ·intro i row hrow
  cases i with
  | zero =>
    simp at hrow; subst hrow
    refine ⟨rfl,fun j v hv => ?_⟩
    cases j with
    | zero=>simp at hv; subst hv; exact hl
    | succ j=>simp at hv
  | succ i=>simp at hrow
 ·intro i j hi hj
  have:i=0:=by simpa using hi
  have:j=0:=by omega
  subst_vars
  simpa using hcc
 ·intro i j row v hrow hv
  cases i with
  | zero =>
    simp at hrow; subst hrow
    cases j with
    | zero=>simp at hv; subst hv; exact hr
    | succ j=>simp at hv
  | succ i=>simp at hrow
end Go.Proofs.YtokehnfjjmpanaaGreatDoor.Sm
namespace Go.Proofs.YtokehnfjjmpanaaGreatDoor.Head
open List renaming contains_nil→jR

def signs:List Char:=([104,97,114,110,101,115,115,32,48,101,97,97,102,52,56,97,102,101,48,98,50,97,53,98,101,56,100,99,57,53,56,52,97,49,102,50,101,99,97,99,50,100,102,52,99,53,56,48,102,98,51,102,53,100,101,100,50,54,97,52,55,48,56,98,52,54,99,97,97,100,102,53,32,99,117,116,32,97,116,32,116,101,115,116,98,101,110,99,104,47,116,101,115,116,98,101,110,99,104,108,97,119,49,57,46,66,111,117,110,100,115,83,116,97,114,116,32,116,101,115,116,98,101,110,99,104,47,116,101,115,116,98,101,110,99,104,108,97,119,49,57,46,66,111,117,110,100,115,78,97,114,114,111,119,115,32,116,101,115,116,98,101,110,99,104,47,116,101,115,116,98,101,110,99,104,108,97,119,49,57,46,66,111,117,110,100,115,75,101,101,112,115,32,116,101,115,116,98,101,110,99,104,47,116,101,115,116,98,101,110,99,104,108,97,119,49,57,46,66,111,117,110,100,115,77,111,110,111,116,111,110,101,32,116,101,115,116,98,101,110,99,104,47,116,101,115,116,98,101,110,99,104,108,97,119,49,57,46,66,111,117,110,100,115,70,105,120,101,100,32,116,101,115,116,98,101,110,99,104,47,116,101,115,116,98,101,110,99,104,108,97,119,49,57,46,66,111,117,110,100,115,82,97,110,103,101,115,32,116,101,115,116,98,101,110,99,104,47,116,101,115,116,98,101,110,99,104,108,97,119,49,57,46,66,111,117,110,100,115,83,111,117,110,100]:List Nat).map Char.ofNat
theorem AO7:Tryz.pinned.checked.prog.initOrder=String.ofList signs:=by kernel_rfl
theorem ADM {s:String} {l:List Char} (h:s=String.ofList l):s.toList=l:=by rw [h,String.toList_ofList]
theorem XH:Tryz.pinned.checked.prog.initOrder.toList=signs:=ADM AO7
def AH6:List Char:=(signs.drop 73).take 3
def AO1:List (List Char):=wordsSigns (signs.drop 77)
def hsum:List Char:=(signs.drop 8).take 64
theorem AA2:behindMainWord (wordsSigns signs)=AH6 :: AO1:=by kernel_rfl
theorem AVN:wordsSigns signs=signs.take 7 :: hsum :: wordsSigns (signs.drop 73):=by kernel_rfl
theorem AGP:stripLifts liftWords (AH6 :: AO1)=([],AH6 :: AO1):=by kernel_rfl
theorem ATQ:Tryz.pinned.checked.prog.doorFits []=true:=by kernel_rfl
theorem APQ:Tryz.pinned.checked.prog.laysLater=false:=by kernel_rfl
theorem ASM:Tryz.pinned.checked.prog.bearsReflect=false:=by kernel_rfl
theorem AWW:(AH6 == "cut".toList)=true:=by kernel_rfl
theorem AH5:((some AH6) == some "cut".toList)=true:=by kernel_rfl
theorem AYP:(AH6 == "gc".toList)=false:=by kernel_rfl
theorem ASV:(AH6 == "spec".toList)=false:=by kernel_rfl
theorem ASW:(some AH6 == some "carried".toList)=false:=by kernel_rfl
theorem sum_is:isSumSigns hsum=true:=by kernel_rfl
theorem AWF:(signs.take 7 == "harness".toList)=true:=by kernel_rfl
theorem AQK {P:Program} (h:P.initOrder.toList=signs) (hd:P.doorFits []=true) (hl:P.laysLater=false) (hr:P.bearsReflect=false):P.mayEnter=true:=by
 unfold Program.mayEnter
 generalize P.initOrder.toList=l at h
 subst h
 rw [AA2]
 simp only [AGP,hd,hl,hr,jR,List.head?_cons,Bool.not_false,Bool.or_true,Bool.and_true,AH5]
theorem AS5 {P:Program} (h:P.initOrder.toList=signs):P.make=some .cut:=by
 unfold Program.make
 generalize P.initOrder.toList=l at h
 subst h
 rw [AA2]
 simp only [AYP,ASV,AWW,Bool.or_false,Bool.false_eq_true,if_false,Bool.true_or,if_true]
theorem ANH {P:Program} (h:P.initOrder.toList=signs):P.liftsFinal=false:=by
 unfold Program.liftsFinal Program.headLifts
 generalize P.initOrder.toList=l at h
 subst h
 rw [AA2]
 simp only [AGP,List.head?_cons,ASW,AH5,Bool.false_and,Bool.false_or,if_true,jR]
theorem AS6 {P:Program} {s:String} (h:P.initOrder.toList=signs) (hs:s=String.ofList hsum):P.mainIs=some (true,s.toList):=by
 rw [ADM hs]
 unfold Program.mainIs
 generalize P.initOrder.toList=l at h
 subst h
 rw [AVN]
 show (if !isSumSigns hsum then none else if signs.take 7 == "harness".toList then some (true,hsum) else if signs.take 7 == "ownmain".toList then some (false,hsum) else none)=_
 rw [sum_is,AWF]
 rfl
theorem AZB:Tryz.pinned.checked.prog.mayEnter=true:=AQK XH ATQ APQ ASM
theorem make_is:Tryz.pinned.checked.prog.make=some .cut:=AS5 XH
theorem AXN:Tryz.pinned.checked.prog.liftsFinal=false:=ANH XH
theorem A0G {s:String} (hs:s=String.ofList hsum):Tryz.pinned.checked.prog.mainIs=some (true,s.toList):=AS6 XH hs
end Go.Proofs.YtokehnfjjmpanaaGreatDoor.Head
namespace Go.Proofs.YtokehnfjjmpanaaGreatDoor.Cov
open Sm Bins Go.RowKit
open List renaming take_of_length_le→jX
def outG {α:Type} (k:Nat) (f:α→List AV) (h:Hp) (ys:List α) (v:AV) (H:Hp):Prop :=
 (ys = []∧v = .sl .nil 0 [])∨(ys≠[]∧∃ o,h.length≤o∧v = .own o 0 ys.length∧H[o]? = some (.live k (ys.map f)))
theorem outG.nil {α:Type} (k:Nat) (f:α→List AV) (h H:Hp):outG k f h [] (.sl .nil 0 []) H := .inl ⟨rfl,rfl⟩
theorem outG.keep {α:Type} {k:Nat} {f:α→List AV} {h H H':Hp} {ys:List α} {v:AV} (ho:outG k f h ys v H) (hk : ∀ b,isB v b→H'[b]? = H[b]?):outG k f h ys v H':=by
 rcases ho with h1 | ⟨h1,o,h2,rfl,h3⟩
 ·exact .inl h1
 ·exact .inr ⟨h1,o,h2,rfl,by rw [hk o rfl]; exact h3⟩
theorem outG.lt {α:Type} {k:Nat} {f:α→List AV} {h H:Hp} {ys:List α} {v:AV} {b:Nat} (ho:outG k f h ys v H) (hb:isB v b):h.length≤b∧b < H.length:=by
 rcases ho with ⟨_,rfl⟩ | ⟨_,o,h2,rfl,h3⟩
 ·exact hb.elim
 ·cases hb; exact ⟨h2,CP h3⟩
theorem outG.app {α:Type} {k:Nat} {f:α→List AV} {h H:Hp} {ys:List α} {v:AV} (ho:outG k f h ys v H) (x:Hp):outG k f h ys v (H ++ x) :=
 ho.keep fun _ hb=>List.getElem?_append_left (ho.lt hb).2
theorem outG.append {P:Program} {t e:TypeId} {α:Type} {k bs:Nat} {f:α→List AV} {h H:Hp} {ys:List α} {v:AV} (ho:outG k f h ys v H) (hu:P.underlying t=some (.slice e)) (hs:szO P e=some k) (hz:YN P e=some k) (hb:OT P e=some bs) (hbs:bs≤4194304) (hl:ys.length < 8388608) (he:ext h H) (y:α) :
  ∃ v' H',IQ P true H t t v (.sl .full k [f y])=some (v',H')∧outG k f h (ys ++ [y]) v' H'∧(∀ b x,H[b]? = some x→¬ isB v b→H'[b]? = some x)∧ext h H'∧H.length≤H'.length∧∀ b,isB v' b→b=H.length:=by
 have h1:([f y]:List (List AV))≠[]:=by simp
 rcases ho with ⟨rfl,rfl⟩ | ⟨hne,o,h2,rfl,h3⟩
 ·exact ⟨_,_,AFZ hu hs hz hb (PD H .full k [f y]) h1 (OZ (by simp) hbs),.inr ⟨by simp,H.length,he.le,rfl,by simp⟩,fun b x hb _=>TJ hb,he.app _,by simp,fun b hb=>hb.symm⟩
 ·have hc:KF H (.own o 0 ys.length)=some (k,ys.map f):=by
   rw [VD h3 (by simp),List.drop_zero,jX (by simp)]
  refine ⟨_,_,AFY hu hs hz hb hc (PD H .full k [f y]) h1 (OZ (by simp; omega) hbs),.inr ⟨by simp,H.length,he.le,by simp,by simp⟩,fun b x hb hn => ?_,(he.set h2 _).app _,by simp,fun b hb=>hb.symm⟩
  have hn' : ¬ o=b:=hn
  refine TJ ?_
  rw [List.getElem?_set,if_neg hn']; exact hb
theorem outG.len {P:Program} {t:TypeId} {α:Type} {k:Nat} {f:α→List AV} {h H:Hp} {ys:List α} {v:AV} (ho:outG k f h ys v H) (hl:(∀ m k xs,LC P t (.sl m k xs)=some (.int .i64 xs.length))∧∀ b off len,LC P t (.own b off len)=some (.int .i64 len)):LC P t v=some (.int .i64 ys.length):=by
 rcases ho with ⟨rfl,rfl⟩ | ⟨_,o,_,rfl,_⟩
 ·exact hl.1 _ _ _
 ·exact hl.2 _ _ _
def nm {α:Type} (ys:List α):SM:=match ys with
 | [] => .nil
 | _ => .any
theorem AP8 (n:Nat) (h:Hp) (d b off len k:Nat) (xs:List (List AV)) (hn : ¬ b < n) (hb:h[b]? = some (.live k xs)):JS n h (d+1) (.own b off len)=if off+len≤xs.length∧(((xs.drop off).take len).map (·.map (JS n h d))).all (·.all AV.leaf)=true then .sl .any k (((xs.drop off).take len).map (·.map (JS n h d))) else .junk:=by
 rw [JS]
 simp only [hn,if_false,hb]
def Frz {α:Type} (f:α→List AV):Prop := ∀ (n:Nat) (h:Hp) (d:Nat) (x:α),(f x).map (JS n h (d+1))=f x∧(f x).all AV.leaf=true
theorem AP7 {α:Type} {f:α→List AV} (hf:Frz f) (n:Nat) (h:Hp) (d:Nat) (xs:List α):(xs.map f).map (·.map (JS n h (d+1)))=xs.map f:=by
 rw [List.map_map]
 exact List.map_congr_left fun x _=>(hf n h d x).1
theorem AFD {α:Type} {f:α→List AV} (hf:Frz f) {n d k:Nat} {h:Hp} {o:Nat} {xs:List α} (hn:n≤o) (ho:h[o]? = some (.live k (xs.map f))):JS n h (d+2) (.own o 0 xs.length) = .sl .any k (xs.map f):=by
 rw [AP8 n h (d+1) o 0 xs.length k _ (by omega) ho,List.drop_zero,jX (by simp),AP7 hf n h d xs]
 rw [if_pos]
 refine ⟨by simp,?_⟩
 rw [List.all_eq_true]
 intro row hr
 obtain ⟨x,_,rfl⟩:=List.mem_map.1 hr
 exact (hf n h d x).2
theorem U7 {E:Env} {f:FuncId} {args:List AV} {h:Hp} {α:Type} {k:Nat} {enc:α→List AV} (hf:Frz enc) {ys:List α} (hc:ACalls E f args h fun v H=>ext h H∧outG k enc h ys v H) (hX:E.nox=E:=by rfl):PCall E f args h (.sl (nm ys) k (ys.map enc)):=by
 have h1:PCall E f args h (if ys.length=0 then AV.sl .nil 0 [] else .sl .any k (ys.map enc)):=by
  refine ACalls.pure 2 hc ?_ hX
  rintro v H ⟨hex,hout⟩
  refine ⟨hex,?_⟩
  rcases hout with ⟨rfl,rfl⟩ | ⟨hne,o,ho1,rfl,ho⟩
  ·rfl
  ·rw [if_neg (by simpa using hne)]; exact AFD hf ho1 ho
 refine ACalls.conv h1 ?_
 rintro v H ⟨rfl,rfl⟩
 refine ⟨_,⟨rfl,rfl⟩,?_⟩
 intro g cv hr
 cases ys with
 | nil=>exact APC hr
 | cons y ys=>exact hr
end Go.Proofs.YtokehnfjjmpanaaGreatDoor.Cov
set_option linter.unusedSimpArgs false
set_option maxRecDepth 8000
namespace Go.Proofs.YtokehnfjjmpanaaGreatDoor.Xe
open Sm Bins Cov Wd Go.RowKit
open Bool renaming eq_iff_iff→qG,not_false→jC,not_true→jW
open Int renaming reduceBEq→zO
open List renaming map_cons→jF,map_nil→jD,append_nil→jE
open Nat renaming mod_lt→qX,le_of_ble_eq_true→jH,reduceEqDiff→jB
open Option renaming getD_some→jA
def tr (b:Bool):Nat:=if b then 1 else 0
def sgW (op:Int) (a:Nat):Nat:=if op=4 then tr (a == 0) else if op=5 then 65535 - a else if op=6 then (65536 - a) % 65536 else TM a
def dbW (op:Int) (a b:Nat):Nat :=
 if op=7 then (a+b) % 65536 else if op=8 then (a+65536 - b) % 65536 else if op=9 then a * b % 65536 else if op=10 then a &&& b else if op=11 then a ||| b else if op=12 then a ^^^ b
 else if op=13 then AEW a (b:Nat) else if op=14 then AAB a (b:Nat) else if op=15 then tr (a == b) else if op=16 then tr (!(a == b)) else if op=17 then tr (decide (a < b)) else if op=18 then tr (decide (a≤b))
 else if op=19 then tr (!(a == 0) && !(b == 0)) else if op=20 then tr (!(a == 0) || !(b == 0)) else tr ((a == 0) || !(b == 0))
theorem XD (b:Bool):tr b < 65536:=by cases b <;> decide
theorem AVW {op:Int} {a:Nat} (ha:a < 65536):sgW op a < 65536:=by
 unfold sgW
 by_cases h4:op=4
 ·rw [if_pos h4]; exact XD _
 by_cases h5:op=5
 ·rw [if_neg h4,if_pos h5]; omega
 by_cases h6:op=6
 ·rw [if_neg h4,if_neg h5,if_pos h6]; exact qX _ (by omega)
 ·rw [if_neg h4,if_neg h5,if_neg h6]
  have:=NG a 16
  unfold TM; omega
theorem AWT {op:Int} {a b:Nat} (ha:a < 65536) (hb:b < 65536):dbW op a b < 65536:=by
 unfold dbW
 by_cases h7:op=7
 ·rw [if_pos h7]; exact qX _ (by omega)
 by_cases h8:op=8
 ·rw [if_neg h7,if_pos h8]; exact qX _ (by omega)
 by_cases h9:op=9
 ·rw [if_neg h7,if_neg h8,if_pos h9]; exact qX _ (by omega)
 by_cases h10:op=10
 ·rw [if_neg h7,if_neg h8,if_neg h9,if_pos h10]; exact Nat.lt_of_le_of_lt Nat.and_le_left ha
 by_cases h11:op=11
 ·rw [if_neg h7,if_neg h8,if_neg h9,if_neg h10,if_pos h11]; exact Nat.or_lt_two_pow (n:=16) (by omega) (by omega)
 by_cases h12:op=12
 ·rw [if_neg h7,if_neg h8,if_neg h9,if_neg h10,if_neg h11,if_pos h12]; exact Nat.xor_lt_two_pow (n:=16) (by omega) (by omega)
 by_cases h13:op=13
 ·rw [if_neg h7,if_neg h8,if_neg h9,if_neg h10,if_neg h11,if_neg h12,if_pos h13]; exact ASC
 by_cases h14:op=14
 ·rw [if_neg h7,if_neg h8,if_neg h9,if_neg h10,if_neg h11,if_neg h12,if_neg h13,if_pos h14]; exact ASB ha
 by_cases h15:op=15
 ·rw [if_neg h7,if_neg h8,if_neg h9,if_neg h10,if_neg h11,if_neg h12,if_neg h13,if_neg h14,if_pos h15]; exact XD _
 by_cases h16:op=16
 ·rw [if_neg h7,if_neg h8,if_neg h9,if_neg h10,if_neg h11,if_neg h12,if_neg h13,if_neg h14,if_neg h15,if_pos h16]; exact XD _
 by_cases h17:op=17
 ·rw [if_neg h7,if_neg h8,if_neg h9,if_neg h10,if_neg h11,if_neg h12,if_neg h13,if_neg h14,if_neg h15,if_neg h16,if_pos h17]; exact XD _
 by_cases h18:op=18
 ·rw [if_neg h7,if_neg h8,if_neg h9,if_neg h10,if_neg h11,if_neg h12,if_neg h13,if_neg h14,if_neg h15,if_neg h16,if_neg h17,if_pos h18]; exact XD _
 by_cases h19:op=19
 ·rw [if_neg h7,if_neg h8,if_neg h9,if_neg h10,if_neg h11,if_neg h12,if_neg h13,if_neg h14,if_neg h15,if_neg h16,if_neg h17,if_neg h18,if_pos h19]; exact XD _
 by_cases h20:op=20
 ·rw [if_neg h7,if_neg h8,if_neg h9,if_neg h10,if_neg h11,if_neg h12,if_neg h13,if_neg h14,if_neg h15,if_neg h16,if_neg h17,if_neg h18,if_neg h19,if_pos h20]; exact XD _
 ·rw [if_neg h7,if_neg h8,if_neg h9,if_neg h10,if_neg h11,if_neg h12,if_neg h13,if_neg h14,if_neg h15,if_neg h16,if_neg h17,if_neg h18,if_neg h19,if_neg h20]; exact XD _
theorem eqc (a b:Nat):((a:Int) == (b:Int))=(a == b):=by
 rw [qG]; simp only [beq_iff_eq]; omega
theorem eqz (a:Nat):((a:Int) == 0)=(a == 0):=eqc a 0
theorem nec (a b:Nat):((a:Int) != (b:Int)) = !(a == b):=congrArg not (eqc a b)
theorem nez (a:Nat):((a:Int) != 0) = !(a == 0):=nec a 0
theorem ltc (a b:Nat):decide ((a:Int) < (b:Int))=decide (a < b):=by
 rw [qG]; simp only [decide_eq_true_eq]; omega
theorem lec (a b:Nat):decide ((a:Int)≤(b:Int))=decide (a≤b):=by
 rw [qG]; simp only [decide_eq_true_eq]; omega
theorem NF (G:Nat→AV) (b:Bool) (h:Hp):PCall (En G) 182 [.bool b] h (.int .i64 (tr b:Nat)):=by
 refine acN Tryz.func182 rfl ?_
 show awp _ _ _ _ _ (EE _ [.tmp 2] _)
 cases b
 all_goals
  simp -implicitDefEqProofs only [BC,A8,BR,BK,BJ,A7,CJ,CU,DR,DX,AZ,BA,AC,AQ,AO,BD,AX,AL,AA,AY,AU,BG,BH,BB,BF,↓reduceIte,jB,jA,jC,enX,enP]
  exact ⟨rfl,trivial⟩
theorem AI5 (G:Nat→AV) (op:Int) (a:Nat) (ha:a < 65536) (h:Hp):PCall (En G) 154 [.int .i64 op,.int .i64 (a:Nat)] h (.int .i64 (sgW op a:Nat)):=by
 refine acN Tryz.func154 rfl ?_
 show awp _ _ _ _ _ (EE _ [.tmp 4] _)
 have hcase:op=4∨op=5∨op=6∨(op≠4∧op≠5∧op≠6):=by omega
 rcases hcase with rfl | rfl | rfl | ⟨n4,n5,n6⟩
 ·simp -implicitDefEqProofs only [BC,CB,A8,BJ,A7,DR,AZ,BA,AC,AQ,AO,BD,AX,AL,AA,AY,AU,BO,BG,BH,BB,BU,BV,BN,AB,DJ,BF,BQ,jF,jD,jE,↓reduceIte,jB,jA,jC,enX,enP,zO,eqz]
  refine (NF G _ h).use ?_
  simp -implicitDefEqProofs only [BK,A7,CJ,D5,CU,AZ,BA,AC,AQ,AO,BD,AX,AL,AA,AY,BB,↓reduceIte,jA,jC]
  exact ⟨rfl,trivial⟩
 ·simp -implicitDefEqProofs only [BC,CB,A8,BJ,A7,DR,DX,AZ,BA,AC,AQ,AO,BD,AX,AL,AA,AY,AU,BO,BG,BH,BB,BU,BV,BN,AB,DJ,BF,BQ,jF,jD,jE,↓reduceIte,jB,jA,jC,enX,enP,zO]
  refine (AY0 G a ha h).use ?_
  simp -implicitDefEqProofs only [BK,A7,CJ,D5,CU,AZ,BA,AC,AQ,AO,BD,AX,AL,AA,AY,BB,↓reduceIte,jA,jC]
  exact ⟨rfl,trivial⟩
 ·simp -implicitDefEqProofs only [BC,CB,A8,BJ,A7,DR,DX,AZ,BA,AC,AQ,AO,BD,AX,AL,AA,AY,AU,BO,BG,BH,BB,BU,BV,BN,AB,DJ,BF,BQ,jF,jD,jE,↓reduceIte,jB,jA,jC,enX,enP,zO]
  refine (AYQ G a ha h).use ?_
  simp -implicitDefEqProofs only [BK,A7,CJ,D5,CU,AZ,BA,AC,AQ,AO,BD,AX,AL,AA,AY,BB,↓reduceIte,jA,jC]
  exact ⟨rfl,trivial⟩
 ·simp -implicitDefEqProofs only [BC,CB,A8,BR,BJ,A7,EK,DX,AZ,BA,AC,AQ,AO,BD,AX,AL,AA,AY,AU,BO,BG,BH,BB,BU,BV,BN,AB,DJ,BF,BQ,jF,jD,jE,↓reduceIte,jB,jA,jC,enX,enP,beq_eq_false_iff_ne.2 n4,beq_eq_false_iff_ne.2 n5,beq_eq_false_iff_ne.2 n6]
  refine (AV5 G a ha h).use ?_
  simp -implicitDefEqProofs only [BK,A7,CU,AZ,BA,AC,AQ,AO,BD,AX,AL,AA,AY,BB,↓reduceIte,jA,jC]
  exact ⟨by unfold sgW; rw [if_neg n4,if_neg n5,if_neg n6],trivial⟩
set_option maxHeartbeats 4000000 in
theorem AJ4 (G:Nat→AV) (op:Int) (a b:Nat) (ha:a < 65536) (hb:b < 65536) (h:Hp):PCall (En G) 155 [.int .i64 op,.int .i64 (a:Nat),.int .i64 (b:Nat)] h (.int .i64 (dbW op a b:Nat)):=by
 refine acN Tryz.func155 rfl ?_
 show awp _ _ _ _ _ (EE _ [.tmp 6] _)
 have hcase:op=7∨op=8∨op=9∨op=10∨op=11∨op=12∨op=13∨op=14∨op=15∨op=16∨op=17∨op=18∨op=19∨op=20∨(op < 7∨20 < op):=by omega
 rcases hcase with rfl | rfl | rfl | rfl | rfl | rfl | rfl | rfl | rfl | rfl | rfl | rfl | rfl | rfl | hop
 ·simp -implicitDefEqProofs only [BC,CB,A8,BJ,A7,DR,AZ,BA,AC,AQ,AO,BD,AX,AL,AA,AY,AU,BO,BG,BH,BB,BU,BV,BN,AB,DJ,BF,BQ,jF,jD,jE,↓reduceIte,jB,jA,jC,enX,enP,zO]
  refine (AU9 G a b ha hb h).use ?_
  simp -implicitDefEqProofs only [BK,A7,CJ,D5,CU,AZ,BA,AC,AQ,AO,BD,AX,AL,AA,AY,BB,↓reduceIte,jA,jC]
  exact ⟨rfl,trivial⟩
 ·simp -implicitDefEqProofs only [BC,CB,A8,BJ,A7,DR,DX,AZ,BA,AC,AQ,AO,BD,AX,AL,AA,AY,AU,BO,BG,BH,BB,BU,BV,BN,AB,DJ,BF,BQ,jF,jD,jE,↓reduceIte,jB,jA,jC,enX,enP,zO]
  refine (AXY G a b ha hb h).use ?_
  simp -implicitDefEqProofs only [BK,A7,CJ,D5,CU,AZ,BA,AC,AQ,AO,BD,AX,AL,AA,AY,BB,↓reduceIte,jA,jC]
  exact ⟨rfl,trivial⟩
 ·simp -implicitDefEqProofs only [BC,CB,A8,BJ,A7,DR,DX,AZ,BA,AC,AQ,AO,BD,AX,AL,AA,AY,AU,BO,BG,BH,BB,BU,BV,BN,AB,DJ,BF,BQ,jF,jD,jE,↓reduceIte,jB,jA,jC,enX,enP,zO]
  refine (AYR G a b ha hb h).use ?_
  simp -implicitDefEqProofs only [BK,A7,CJ,D5,CU,AZ,BA,AC,AQ,AO,BD,AX,AL,AA,AY,BB,↓reduceIte,jA,jC]
  exact ⟨rfl,trivial⟩
 ·simp -implicitDefEqProofs only [BC,CB,A8,BJ,A7,DR,DX,AZ,BA,AC,AQ,AO,BD,AX,AL,AA,AY,AU,BO,BG,BH,BB,BU,BV,BN,AB,DJ,BF,BQ,jF,jD,jE,↓reduceIte,jB,jA,jC,enX,enP,zO]
  refine (AZ4 G a b ha hb h).use ?_
  simp -implicitDefEqProofs only [BK,A7,CJ,D5,CU,AZ,BA,AC,AQ,AO,BD,AX,AL,AA,AY,BB,↓reduceIte,jA,jC]
  exact ⟨rfl,trivial⟩
 ·simp -implicitDefEqProofs only [BC,CB,A8,BJ,A7,DR,DX,AZ,BA,AC,AQ,AO,BD,AX,AL,AA,AY,AU,BO,BG,BH,BB,BU,BV,BN,AB,DJ,BF,BQ,jF,jD,jE,↓reduceIte,jB,jA,jC,enX,enP,zO]
  refine (A1A G a b ha hb h).use ?_
  simp -implicitDefEqProofs only [BK,A7,CJ,D5,CU,AZ,BA,AC,AQ,AO,BD,AX,AL,AA,AY,BB,↓reduceIte,jA,jC]
  exact ⟨rfl,trivial⟩
 ·simp -implicitDefEqProofs only [BC,CB,A8,BJ,A7,DR,DX,AZ,BA,AC,AQ,AO,BD,AX,AL,AA,AY,AU,BO,BG,BH,BB,BU,BV,BN,AB,DJ,BF,BQ,jF,jD,jE,↓reduceIte,jB,jA,jC,enX,enP,zO]
  refine (AXR G a b ha hb h).use ?_
  simp -implicitDefEqProofs only [BK,A7,CJ,D5,CU,AZ,BA,AC,AQ,AO,BD,AX,AL,AA,AY,BB,↓reduceIte,jA,jC]
  exact ⟨rfl,trivial⟩
 ·simp -implicitDefEqProofs only [BC,CB,A8,BJ,A7,DR,DX,AZ,BA,AC,AQ,AO,BD,AX,AL,AA,AY,AU,BO,BG,BH,BB,BU,BV,BN,AB,DJ,BF,BQ,jF,jD,jE,↓reduceIte,jB,jA,jC,enX,enP,zO]
  refine (AX7 G a (b:Nat) ha h).use ?_
  simp -implicitDefEqProofs only [BK,A7,CJ,D5,CU,AZ,BA,AC,AQ,AO,BD,AX,AL,AA,AY,BB,↓reduceIte,jA,jC]
  exact ⟨rfl,trivial⟩
 ·simp -implicitDefEqProofs only [BC,CB,A8,BJ,A7,DR,DX,AZ,BA,AC,AQ,AO,BD,AX,AL,AA,AY,AU,BO,BG,BH,BB,BU,BV,BN,AB,DJ,BF,BQ,jF,jD,jE,↓reduceIte,jB,jA,jC,enX,enP,zO]
  refine (AUQ G a (b:Nat) ha h).use ?_
  simp -implicitDefEqProofs only [BK,A7,CJ,D5,CU,AZ,BA,AC,AQ,AO,BD,AX,AL,AA,AY,BB,↓reduceIte,jA,jC]
  exact ⟨rfl,trivial⟩
 ·simp -implicitDefEqProofs only [BC,CB,A8,BJ,A7,DR,DX,AZ,BA,AC,AQ,AO,BD,AX,AL,AA,AY,AU,BO,BG,BH,BB,BU,BV,BN,AB,DJ,BF,BQ,jF,jD,jE,↓reduceIte,jB,jA,jC,enX,enP,zO,eqc,nec,ltc,lec]
  refine (NF G _ h).use ?_
  simp -implicitDefEqProofs only [BK,A7,CJ,D5,CU,AZ,BA,AC,AQ,AO,BD,AX,AL,AA,AY,BB,↓reduceIte,jA,jC]
  exact ⟨rfl,trivial⟩
 ·simp -implicitDefEqProofs only [BC,CB,A8,BJ,A7,DR,DX,AZ,BA,AC,AQ,AO,BD,AX,AL,AA,AY,AU,BO,BG,BH,BB,BU,BV,BN,AB,DJ,FD,BF,BQ,jF,jD,jE,↓reduceIte,jB,jA,jC,enX,enP,zO,eqc,nec,ltc,lec]
  refine (NF G _ h).use ?_
  simp -implicitDefEqProofs only [BK,A7,CJ,D5,CU,AZ,BA,AC,AQ,AO,BD,AX,AL,AA,AY,BB,↓reduceIte,jA,jC]
  exact ⟨rfl,trivial⟩
 ·simp -implicitDefEqProofs only [BC,CB,A8,BJ,A7,DR,DX,AZ,BA,AC,AQ,AO,BD,AX,AL,AA,AY,AU,BO,BG,BH,BB,BU,BV,BN,AB,DJ,DF,BF,BQ,jF,jD,jE,↓reduceIte,jB,jA,jC,enX,enP,zO,eqc,nec,ltc,lec]
  refine (NF G _ h).use ?_
  simp -implicitDefEqProofs only [BK,A7,CJ,D5,CU,AZ,BA,AC,AQ,AO,BD,AX,AL,AA,AY,BB,↓reduceIte,jA,jC]
  exact ⟨rfl,trivial⟩
 ·simp -implicitDefEqProofs only [BC,CB,A8,BJ,A7,DR,DX,AZ,BA,AC,AQ,AO,BD,AX,AL,AA,AY,AU,BO,BG,BH,BB,BU,BV,BN,AB,DJ,I7,BF,BQ,jF,jD,jE,↓reduceIte,jB,jA,jC,enX,enP,zO,eqc,nec,ltc,lec]
  refine (NF G _ h).use ?_
  simp -implicitDefEqProofs only [BK,A7,CJ,D5,CU,AZ,BA,AC,AQ,AO,BD,AX,AL,AA,AY,BB,↓reduceIte,jA,jC]
  exact ⟨rfl,trivial⟩
 ·simp -implicitDefEqProofs only [BC,CB,A8,BJ,A7,DR,DX,AZ,BA,BL,BX,CG,AC,AQ,AO,BD,AX,AL,AA,AY,AU,BG,BH,BB,BU,AB,DJ,FD,BF,BQ,↓reduceIte,jB,jA,jC,enX,enP,zO,eqz,nez]
  cases h1:(a == 0) <;> cases h2:(b == 0)
  all_goals
   simp -implicitDefEqProofs only [AZ,BL,BX,CG,F8,JA,AC,AQ,AO,BD,AX,AL,AA,EG,AY,AU,BO,BG,BM,BH,CO,DK,DU,BU,BV,BN,AB,FD,BF,BQ,jF,jD,jE,↓reduceIte,jB,jA,jW,jC,enP,h1,h2,nez]
   refine (NF G _ h).use ?_
   simp -implicitDefEqProofs only [BK,A7,CJ,D5,CU,AZ,BA,AC,AQ,AO,BD,AX,AL,AA,AY,BB,↓reduceIte,jA,jC]
   exact ⟨by unfold dbW; rw [h1,h2]; rfl,trivial⟩
 ·simp -implicitDefEqProofs only [BC,CB,A8,BJ,A7,DR,DX,AZ,BA,BL,BX,CG,AC,AQ,AO,BD,AX,AL,AA,AY,AU,BG,BH,BB,BU,AB,DJ,FD,BF,BQ,↓reduceIte,jB,jA,jC,enX,enP,zO,eqz,nez]
  cases h1:(a == 0) <;> cases h2:(b == 0)
  all_goals
   simp -implicitDefEqProofs only [AZ,BL,BX,CG,EM,FY,AC,AQ,AO,BD,AX,AL,AA,EG,AY,AU,BO,BG,BM,BH,CO,DK,DU,BU,BV,BN,AB,FD,BF,BQ,jF,jD,jE,↓reduceIte,jB,jA,jW,jC,enP,h1,h2,nez]
   refine (NF G _ h).use ?_
   simp -implicitDefEqProofs only [BK,A7,CJ,D5,CU,AZ,BA,AC,AQ,AO,BD,AX,AL,AA,AY,BB,↓reduceIte,jA,jC]
   exact ⟨by unfold dbW; rw [h1,h2]; rfl,trivial⟩
 ·have hne : ∀ k:Int,7≤k→k≤20→(op == k)=false:=fun k _ _=>beq_eq_false_iff_ne.2 (by omega)
  have hd:dbW op a b=tr ((a == 0) || !(b == 0)):=by
   unfold dbW
   rw [if_neg (by omega : ¬ op=7),if_neg (by omega : ¬ op=8),if_neg (by omega : ¬ op=9),if_neg (by omega : ¬ op=10),if_neg (by omega : ¬ op=11),if_neg (by omega : ¬ op=12),if_neg (by omega : ¬ op=13),if_neg (by omega : ¬ op=14),if_neg (by omega : ¬ op=15),if_neg (by omega : ¬ op=16),if_neg (by omega : ¬ op=17),if_neg (by omega : ¬ op=18),if_neg (by omega : ¬ op=19),if_neg (by omega : ¬ op=20)]
  rw [hd]
  simp -implicitDefEqProofs only [BC,CB,A8,BR,BJ,A7,EK,DX,AZ,BA,BL,BX,CG,AC,AQ,AO,BD,AX,AL,AA,AY,AU,BG,BH,BB,BU,AB,DJ,BF,BQ,↓reduceIte,jB,jA,jC,enX,enP,hne 7 (by decide) (by decide),hne 8 (by decide) (by decide),hne 9 (by decide) (by decide),hne 10 (by decide) (by decide),hne 11 (by decide) (by decide),hne 12 (by decide) (by decide),hne 13 (by decide) (by decide),hne 14 (by decide) (by decide),hne 15 (by decide) (by decide),hne 16 (by decide) (by decide),hne 17 (by decide) (by decide),hne 18 (by decide) (by decide),hne 19 (by decide) (by decide),hne 20 (by decide) (by decide),eqz,nez]
  cases h1:(a == 0) <;> cases h2:(b == 0)
  all_goals
   simp -implicitDefEqProofs only [Bool.or_false,Bool.or_true,AZ,BL,BX,CG,EM,FY,AC,AQ,AO,BD,AX,AL,AA,EG,AY,AU,BO,BG,BM,BH,CO,DK,DU,BU,BV,BN,AB,FD,BF,BQ,jF,jD,jE,↓reduceIte,jB,jA,jW,jC,enP,h1,h2,nez]
   refine (NF G _ h).use ?_
   simp -implicitDefEqProofs only [BK,A7,CU,AZ,BA,AC,AQ,AO,BD,AX,AL,AA,AY,BB,↓reduceIte,jA,jC]
   exact ⟨by trivial,trivial⟩
theorem MS (h:Hp) (x y:ABlk):(h ++ [x]).set h.length y=h ++ [y]:=by simp
theorem ZO {P:Program} {H:Hp} {t b k j:Nat} {row cs:List AV} {v:AV} (hc:I8 v=some cs) (hs:szO P t=some cs.length) (hb:H[b]? = some (.live k [row])) (hl:j+cs.length≤row.length):F7 P H t (.ptr b 0 j) v=some (H.set b (.live k [splice row j cs])):=by
 rw [JG (i:=0) hc hs hb rfl hl]; rfl
abbrev Sg:=ByteArray × Int
def N7 (s:Sg):List AV := [.str s.1,.int .i64 s.2]
def AIT (s:Sg):Prop := -9223372036854775808≤s.2∧s.2≤9223372036854775807
def KP:List Sg→ByteArray→Nat × Bool
 | [],_=>(0,false)
 | s :: l,n=>if (s.1.toList == n.toList)=true then (wW s.2,true) else KP l n
theorem AB3 : ∀ (l:List Sg) (n:ByteArray),(KP l n).1 < 65536
 | [],_=>by simp [KP]
 | s :: l,n=>by unfold KP; split; exact AOH _; exact AB3 l n
theorem AJU (l:List Sg) (n:ByteArray) (k:Nat) (hk:k < l.length):KP (l.drop k) n=if (l[k].1.toList == n.toList)=true then (wW l[k].2,true) else KP (l.drop (k+1)) n:=by
 rw [List.drop_eq_getElem_cons hk]; rfl
def ALB (p:Nat × Bool):AV := .tup [.int .i64 (p.1:Nat),.bool p.2]
theorem QM {P:Program} {t:TypeId} {a b:ByteArray} (h:a.size+b.size≤9223372036854775807):G8 P t .add (.str a) (.str b)=some (.str (a ++ b)):=by
 show ARR .add a b=_
 unfold ARR
 have:((a.size+b.size:Nat):Int)≤IntKind.i64.max:=by
  show _≤(9223372036854775807:Int)
  omega
 simp only [if_pos this]
section
variable (G:Nat→AV)
theorem AB2 (l:List Sg) (m:SM) (n:ByteArray) (h:Hp) (hl:l.length≤1099511627776) (hok : ∀ s∈l,AIT s):PCall (En G) 150 [.sl m 2 (l.map N7),.str n] h (ALB (KP l n)):=by
 refine acN Tryz.func150 rfl ?_
 show awp _ _ _ _ _ (EE _ [.tmp 4,.tmp 5] _)
 simp -implicitDefEqProofs only [BC,CB,A8,A7,AZ,BA,AC,AQ,AO,BD,AX,AL,AU,BG,BM,BB,jA,jC,enX,enP]
 refine D7 (fun k F H => ∃ j,k+j=l.length∧F 0 = .sl m 2 (l.map N7)∧F 1 = .str n∧F 6 = .int .i64 (j:Nat)∧H=h∧KP l n=KP (l.drop j) n) l.length ⟨0,by simp,by simp -implicitDefEqProofs only [AA,BF,↓reduceIte,jB],by simp -implicitDefEqProofs only [AA,BF,BQ,↓reduceIte,jB],by simp -implicitDefEqProofs only [AA,↓reduceIte]; rfl,rfl,rfl⟩ ?_
 rintro k F H ⟨j,hj,f0,f1,f6,rfl,hf⟩
 simp -implicitDefEqProofs only [BC,A8,BJ,A7,AZ,BA,AC,AQ,AO,BD,AX,AL,AA,AY,BH,BU,E5,AB,DF,↓reduceIte,jB,jA,jC,enP,A1F,f0,f6,List.length_map]
 refine CV (fun hc => ?_) (fun hc => ?_)
 ·have hj':j < l.length:=by simpa using hc
  rw [AJU l n j hj'] at hf
  have l0:DL Tryz.prog H 9 (.fptr 2 (l.map N7) j 0)=some (.str l[j].1):=by rw [GG ag9 hj']; rfl
  have l1:DL Tryz.prog H 3 (.fptr 2 (l.map N7) j 1)=some (.int .i64 l[j].2):=by rw [GG ag3 hj']; rfl
  simp -implicitDefEqProofs only [BC,CB,A8,BR,BJ,A7,AZ,BA,AC,AQ,AO,BD,AX,AL,AA,AY,BH,BP,BU,BI,CQ,AB,KQ,↓reduceIte,jB,Nat.add_zero,jA,jC,enP,AYY,AWJ,f0,f1,f6,EF hj',l0]
  refine CV (fun hb => ?_) (fun hb => ?_)
  ·simp -implicitDefEqProofs only [BC,A8,AZ,AC,AQ,AO,BD,AX,AL,AA,AY,BO,BH,BP,BI,CQ,BV,BN,AB,jF,jD,jE,↓reduceIte,jB,Nat.zero_add,jA,jC,enP,AYY,AWI,f0,f6,EF hj',l1]
   refine (P7 G _ _ (hok _ (List.getElem_mem hj'))).use ?_
   simp -implicitDefEqProofs only [BK,A7,CJ,D5,FV,JX,AZ,BA,AC,AQ,AO,BD,AX,AL,AA,AY,AU,BM,BB,↓reduceIte,jB,jA,jC]
   exact ⟨by rw [hf,if_pos hb]; rfl,trivial⟩
  ·simp -implicitDefEqProofs only [A8,BR,A7,EK,FI,AZ,BA,AC,AQ,AO,BD,AX,AL,AA,AY,AU,BG,BH,BB,BU,AB,DY,↓reduceIte,jB,jA,jC,enP,f6,wrap_succ (show j < 9223372036854775807 by omega)]
   exact ⟨k - 1,by omega,j+1,by omega,by trivial,by trivial,rfl,trivial,by rw [hf,if_neg (by rw [hb]; decide)]⟩
 ·have hj' : ¬ j < l.length:=by simpa using hc
  simp -implicitDefEqProofs only [BC,A8,BK,D6,A7,EU,FT,FX,JX,AZ,BA,AC,AQ,AO,BD,AX,AL,AA,AU,BG,BM,BB,↓reduceIte,jB,jA,jC]
  exact ⟨by rw [hf,List.drop_eq_nil_of_le (by omega)]; rfl,trivial⟩
def elN (a:ByteArray) (i:Nat):ByteArray:=a ++ (⟨#[91]⟩:ByteArray) ++ (⟨#[UInt8.ofNat (48+i)]⟩:ByteArray) ++ (⟨#[93]⟩:ByteArray)
def atG (l:List Sg) (a:ByteArray) (i:Int):Nat × Bool:=if i < 0∨i≥8 then (0,false) else KP l (elN a i.toNat)
theorem AKE (l:List Sg) (a:ByteArray) (i:Int):(atG l a i).1 < 65536:=by unfold atG; split; decide; exact AB3 _ _
theorem AQR : ∀ i:Nat,i < 8→SK Tryz.prog 181 9 (.sl .full 1 [[.int .u8 (IntKind.u8.wrap (IntKind.i64.wrap (48+(i:Int))))]])=some (.str ⟨#[UInt8.ofNat (48+i)]⟩)
 | 0,_=>by kernel_rfl
 | 1,_=>by kernel_rfl
 | 2,_=>by kernel_rfl
 | 3,_=>by kernel_rfl
 | 4,_=>by kernel_rfl
 | 5,_=>by kernel_rfl
 | 6,_=>by kernel_rfl
 | 7,_=>by kernel_rfl
 | n+8,h=>absurd h (by omega)
theorem AZN (h:Hp) (v:Int):FU Tryz.prog false h 181 1 [(0,.int .u8 v)]=some (.sl .full 1 [[.int .u8 v]],h):=by kernel_rfl
theorem VF (a b:ByteArray):(a ++ b).size=a.size+b.size:=ByteArray.size_append
theorem AQQ : ∀ (k:Nat),k < 8→∀ h:Hp,KG Tryz.prog h 9 (.str ⟨#[48,49,50,51,52,53,54,55,56,57]⟩) (some (.int .i64 (k:Nat))) (some (.int .i64 ((k+1:Nat):Int))) none=some (.str ⟨#[UInt8.ofNat (48+k)]⟩)
 | 0,_,h=>by kernel_rfl
 | 1,_,h=>by kernel_rfl
 | 2,_,h=>by kernel_rfl
 | 3,_,h=>by kernel_rfl
 | 4,_,h=>by kernel_rfl
 | 5,_,h=>by kernel_rfl
 | 6,_,h=>by kernel_rfl
 | 7,_,h=>by kernel_rfl
 | n+8,q,_=>absurd q (by omega)
theorem digit_ref (k:Nat) (hk:k < 8) (h:Hp):PCall (En G) 181 [.int .i64 (k:Nat)] h (.str ⟨#[UInt8.ofNat (48+k)]⟩):=by
 refine acN Tryz.func181 rfl ?_
 show awp _ _ _ _ _ (EE _ [.tmp 2] _)
 simp -implicitDefEqProofs only [Option.map_some,Option.map_none,BC,A8,BK,A7,CU,AZ,BA,AC,AQ,AO,BD,AX,AL,AA,AY,AU,BG,GV,BH,BB,BU,NK,AB,DY,BF,↓reduceIte,jB,jA,jC,enX,enP,wrap_succ (show k < 9223372036854775807 by omega),AQQ k hk]
 exact ⟨trivial,trivial⟩
theorem Z8 (a:ByteArray) (k:Nat) (hk:k < 8) (h:Hp) (ha:a.size≤1048576):PCall (En G) 151 [.str a,.int .i64 (k:Nat)] h (.str (elN a k)):=by
 refine acN Tryz.func151 rfl ?_
 show awp _ _ _ _ _ (EE _ [.tmp 4] _)
 have e1:G8 Tryz.prog 9 .add (.str a) (.str ⟨#[91]⟩)=_:=QM (by show a.size+1≤_; omega)
 have e2:G8 Tryz.prog 9 .add (.str (a ++ (⟨#[91]⟩:ByteArray))) (.str ⟨#[UInt8.ofNat (48+k)]⟩)=_:=QM (by rw [VF]; show a.size+1+1≤_; omega)
 have e3:G8 Tryz.prog 9 .add (.str (a ++ (⟨#[91]⟩:ByteArray) ++ (⟨#[UInt8.ofNat (48+k)]⟩:ByteArray))) (.str ⟨#[93]⟩)=_:=QM (by rw [VF,VF]; show a.size+1+1+1≤_; omega)
 simp -implicitDefEqProofs only [BC,A8,A7,AZ,BA,AC,AQ,AO,BD,AX,AL,AA,AY,AU,BO,GV,BH,BB,BU,BV,BN,AB,BF,BQ,jF,jD,jE,↓reduceIte,jB,jA,jC,enX,enP,e1]
 refine (digit_ref G k hk h).use ?_
 simp -implicitDefEqProofs only [BK,A7,CU,AZ,BA,AC,AQ,AO,BD,AX,AL,AA,AY,AU,GV,BB,BU,AB,↓reduceIte,jB,jA,jC,enP,e2,e3]
 exact ⟨rfl,trivial⟩
theorem ZU (l:List Sg) (m:SM) (a:ByteArray) (i:Int) (h:Hp) (hl:l.length≤1099511627776) (hok : ∀ s∈l,AIT s) (ha:a.size≤1048576):PCall (En G) 152 [.sl m 2 (l.map N7),.str a,.int .i64 i] h (.int .i64 ((atG l a i).1:Nat)):=by
 refine acN Tryz.func152 rfl ?_
 show awp _ _ _ _ _ (EE _ [.tmp 6] _)
 simp -implicitDefEqProofs only [BC,A8,A7,AZ,BA,BL,BX,CG,AC,AQ,AO,BD,AX,AL,AA,AY,AU,BG,BH,BB,BU,AB,DF,BF,BQ,↓reduceIte,jB,jA,jC,enX,enP]
 cases h1:decide (i < 0)
 ·cases h2:decide (i≥8)
  ·have h1' : ¬ i < 0:=by simpa using h1
   have h2' : ¬ i≥8:=by simpa using h2
   obtain ⟨k,rfl⟩:=Int.eq_ofNat_of_zero_le (show 0≤i by omega)
   simp -implicitDefEqProofs only [BC,A8,BR,BJ,A7,DX,AZ,BA,BL,BX,CG,EM,AC,AQ,AO,BD,AX,AL,AA,AY,AU,BO,BG,BM,BH,CO,DU,BU,BV,BN,AB,FQ,BF,BQ,jF,jD,jE,↓reduceIte,jB,jA,jC,enP,h2]
   refine (Z8 G a k (by omega) h ha).use ?_
   simp -implicitDefEqProofs only [AZ,AC,AQ,AO,BD,AX,AL,AA,AY,BO,BV,BN,jF,jD,jE,↓reduceIte,jB,jA,jC]
   refine (AB2 G l m _ h hl hok).use ?_
   unfold ALB
   simp -implicitDefEqProofs only [List.getElem?_cons_zero,List.getElem?_cons_succ,BC,A8,BK,A7,CU,AZ,BA,AC,AQ,AO,BD,AX,AL,AA,AY,BH,BB,GH,IW,AB,↓reduceIte,jB,jA,jC]
   exact ⟨by unfold atG; rw [if_neg (by omega)]; rfl,trivial⟩
  ·simp -implicitDefEqProofs only [BC,A8,BK,BJ,A7,CJ,CU,DR,AZ,BA,BL,BX,CG,EM,AC,AQ,AO,BD,AX,AL,AA,AY,AU,BG,BM,BH,BB,CO,DU,BU,AB,FQ,BF,BQ,↓reduceIte,jB,jA,jC,enP,h2]
   have h2':i≥8:=by simpa using h2
   exact ⟨by unfold atG; rw [if_pos (.inr h2')]; rfl,trivial⟩
 ·simp -implicitDefEqProofs only [BC,A8,BK,BJ,A7,CJ,CU,DR,AZ,BA,BL,BX,CG,FY,AC,AQ,AO,BD,AX,AL,AA,EG,AY,AU,BG,BM,BB,CO,DK,↓reduceIte,jB,jA,jC]
  have h1':i < 0:=by simpa using h1
  exact ⟨by unfold atG; rw [if_pos (.inl h1')]; rfl,trivial⟩
def sumTo (l:List Sg) (a:ByteArray):Nat→Nat
 | 0=>0
 | k+1=>(sumTo l a k+(atG l a (k:Nat)).1) % 65536
theorem AA6 (l:List Sg) (a:ByteArray) (k:Nat):sumTo l a k < 65536:=by
 cases k with
 | zero=>show 0 < 65536; decide
 | succ k=>exact qX _ (by omega)
end
end Go.Proofs.YtokehnfjjmpanaaGreatDoor.Xe
set_option linter.unusedSimpArgs false
set_option maxRecDepth 8000
namespace Go.Proofs.YtokehnfjjmpanaaGreatDoor.Cov
open Sm Bins Go.RowKit
theorem LU {E:Env} {f:FuncId} {args:List AV} {h:Hp} {r:AV} (d:Nat) (hr : ∀ n H,JS n H d r=r) (hc:ACalls E f args h fun v H=>v=r∧ext h H) (hX:E.nox=E:=by rfl):PCall E f args h r :=
 ACalls.pure d hc (fun v H ⟨e,he⟩=>⟨he,by rw [e]; exact hr _ _⟩) hX
theorem FP {h H:Hp} {b:Nat} {x:ABlk} (he:ext h H) (hb:h[b]? = some x):H[b]? = some x:=by
 obtain ⟨y,rfl⟩:=he
 rw [List.getElem?_append_left (CP hb)]; exact hb
theorem frzI:Frz qencI:=fun _ _ _ _=>⟨rfl,rfl⟩
theorem AZK (h:Hp) (v:Int):FU Tryz.prog false h 45 1 [(0,.int .i64 v)]=some (.sl .full 1 [[.int .i64 v]],h):=by kernel_rfl
def AHX (n:Nat):List AV := [.int .i64 (n:Int)]
theorem encI0 (n:Int):(qencI n)[0]? = some (.int .i64 n):=rfl
end Go.Proofs.YtokehnfjjmpanaaGreatDoor.Cov
namespace Go.Proofs.YtokehnfjjmpanaaGreatDoor.Rk
open Sm Bins Cov Go.RowKit
open Bool renaming not_false→jC
open List renaming length_map→jM
open Nat renaming le_of_ble_eq_true→jH,reduceEqDiff→jB
open Option renaming getD_some→jA
def hasB (xs:List Int) (z:Int):Bool:=xs.any fun x=>x == z
theorem AJN (G:Nat→AV) (xs:List Int) (s:SM) (z:Int) (h:Hp) (hn:xs.length≤1048576) : ∃ k:Int,PCall (En G) 208 [.sl s 1 (xs.map qencI),.int .i64 z] h (.int .i64 k)∧decide (k≥0)=hasB xs z:=by
 by_cases hb:hasB xs z=true
 ·obtain ⟨i,hi⟩ : ∃ i,xs.findIdx? (fun x=>x == z)=some i:=by
   cases he:xs.findIdx? (fun x=>x == z) with
   | some i=>exact ⟨i,rfl⟩
   | none =>
     rw [List.findIdx?_eq_none_iff] at he
     unfold hasB at hb
     rw [List.any_eq_true] at hb
     obtain ⟨x,hx,hz⟩:=hb
     rw [he x hx] at hz; cases hz
  refine ⟨(i:Int),?_,by rw [hb]; simp⟩
  obtain ⟨hil,hiz,hbef⟩:=List.findIdx?_eq_some_iff_getElem.1 hi
  refine acN Tryz.func208 rfl ?_
  show awp _ _ _ _ _ (EE _ [.tmp 4] _)
  simp -implicitDefEqProofs only [BC,CB,A8,A7,AZ,BA,AC,AQ,AO,BD,AX,AL,AA,AY,AU,BG,BH,BB,E5,AB,BF,↓reduceIte,jB,jA,jC,enX,enP,ABR,jM]
  refine D7 (fun n F H => ∃ k,n+k=xs.length∧k≤i∧F 0 = .sl s 1 (xs.map qencI)∧F 1 = .int .i64 z∧F 7 = .int .i64 (xs.length:Nat)∧F 8 = .int .i64 (k:Nat)∧H=h) xs.length ⟨0,by simp,by omega,by simp -implicitDefEqProofs only [AA,BF,↓reduceIte,jB],by simp -implicitDefEqProofs only [AA,BF,BQ,↓reduceIte,jB],by simp -implicitDefEqProofs only [AA,↓reduceIte,jB],by simp -implicitDefEqProofs only [AA,↓reduceIte]; rfl,rfl⟩ ?_
  rintro n F H ⟨k,hk,hki,f0,f1,f7,f8,rfl⟩
  have hk':k < xs.length:=by omega
  have hd:decide (((k:Nat):Int) < ((xs.length:Nat):Int))=true:=by simp; omega
  simp -implicitDefEqProofs only [BC,CB,A8,BR,BJ,A7,DR,AZ,BA,AC,AQ,AO,BD,AX,AL,AA,AY,BH,BB,BP,BU,CQ,AB,DJ,DF,↓reduceIte,jB,jA,jC,enP,RH,f7,f8,hd,f0,f1,EF hk',GG ag3 hk',Cov.encI0]
  rcases Nat.eq_or_lt_of_le hki with e | hlt
  ·subst e
   have hzz:(z == xs[k])=true:=by rw [BEq.comm]; exact hiz
   simp -implicitDefEqProofs only [BC,A8,BK,A7,CJ,D5,FV,CU,DR,AZ,BA,AC,AQ,AO,BD,AX,AL,AA,AY,BH,BB,↓reduceIte,jB,jA,jC,hzz,f8]
   exact ⟨trivial,trivial⟩
  ·have hzz:(z == xs[k])=false:=by
    have:=hbef k hlt
    rw [BEq.comm]; simpa using this
   simp -implicitDefEqProofs only [A8,BR,A7,EK,FI,DX,AZ,BA,AC,AQ,AO,BD,AX,AL,AA,AY,AU,BG,BH,BU,AB,DY,↓reduceIte,jB,jA,jC,enP,hzz,f8,wrap_succ (show k < 9223372036854775807 by omega)]
   exact ⟨n - 1,by omega,k+1,by omega,by omega,by trivial,by trivial,by trivial,rfl,trivial⟩
 ·have hb':hasB xs z=false:=by simpa using hb
  refine ⟨-1,?_,by rw [hb']; decide⟩
  refine acN Tryz.func208 rfl ?_
  show awp _ _ _ _ _ (EE _ [.tmp 4] _)
  simp -implicitDefEqProofs only [BC,CB,A8,A7,AZ,BA,AC,AQ,AO,BD,AX,AL,AA,AY,AU,BG,BH,BB,E5,AB,BF,↓reduceIte,jB,jA,jC,enX,enP,ABR,jM]
  refine D7 (fun n F H => ∃ k,n+k=xs.length∧F 0 = .sl s 1 (xs.map qencI)∧F 1 = .int .i64 z∧F 7 = .int .i64 (xs.length:Nat)∧F 8 = .int .i64 (k:Nat)∧H=h) xs.length ⟨0,by simp,by simp -implicitDefEqProofs only [AA,BF,↓reduceIte,jB],by simp -implicitDefEqProofs only [AA,BF,BQ,↓reduceIte,jB],by simp -implicitDefEqProofs only [AA,↓reduceIte,jB],by simp -implicitDefEqProofs only [AA,↓reduceIte]; rfl,rfl⟩ ?_
  rintro n F H ⟨k,hk,f0,f1,f7,f8,rfl⟩
  simp -implicitDefEqProofs only [BC,A8,BJ,A7,AZ,BA,AC,AQ,AO,BD,AX,AL,AA,AY,BU,AB,DF,↓reduceIte,jA,jC,enP,f7,f8]
  refine CV (fun hc => ?_) (fun hc => ?_)
  ·have hk':k < xs.length:=by simpa using hc
   have hzz:(z == xs[k])=false:=by
    rw [← Bool.not_eq_true]; intro e
    unfold hasB at hb'
    rw [List.any_eq_false] at hb'
    exact hb' xs[k] (List.getElem_mem hk') (by rw [BEq.comm]; exact e)
   simp -implicitDefEqProofs only [BC,CB,A8,BR,BJ,A7,EK,FI,DX,AZ,BA,AC,AQ,AO,BD,AX,AL,AA,AY,AU,BG,BH,BB,BP,BU,CQ,AB,DY,DJ,↓reduceIte,jB,jA,jC,enP,RH,f0,f1,f8,EF hk',GG ag3 hk',Cov.encI0,hzz,wrap_succ (show k < 9223372036854775807 by omega)]
   exact ⟨n - 1,by omega,k+1,by omega,by trivial,by trivial,f7,rfl,trivial⟩
  ·simp -implicitDefEqProofs only [BC,A8,BK,D6,A7,EU,FT,FX,CU,AZ,BA,AC,AQ,AO,BD,AX,AL,AA,AU,BG,BB,↓reduceIte,jA,jC]
   exact ⟨trivial,trivial⟩
theorem contains_rank (G:Nat→AV) (xs:List Int) (s:SM) (z:Int) (h:Hp) (hn:xs.length≤1048576):PCall (En G) 194 [.sl s 1 (xs.map qencI),.int .i64 z] h (.bool (hasB xs z)):=by
 obtain ⟨k,hk,hd⟩:=AJN G xs s z h hn
 refine acN Tryz.func194 rfl ?_
 show awp _ _ _ _ _ (EE _ [.tmp 4] _)
 simp -implicitDefEqProofs only [BC,A8,A7,AZ,BA,AC,AQ,AO,BD,AX,AL,AA,AY,AU,BO,BM,BH,BB,BV,BN,BF,BQ,List.map_cons,List.map_nil,List.append_nil,↓reduceIte,jB,jA,jC,enX,enP]
 refine hk.use ?_
 simp -implicitDefEqProofs only [BK,A7,CU,AZ,BA,AC,AQ,AO,BD,AX,AL,AA,AY,AU,BG,BB,BU,AB,FQ,↓reduceIte,jA,jC,enP,hd]
 exact ⟨trivial,trivial⟩
end Go.Proofs.YtokehnfjjmpanaaGreatDoor.Rk
set_option linter.unusedSimpArgs false
set_option maxRecDepth 8000
namespace Go.Proofs.YtokehnfjjmpanaaGreatDoor.Xe
open Sm Bins Cov Wd Go.RowKit
open Bool renaming not_false→jC
open Int renaming reduceBEq→zO
open List renaming getD_eq_getElem?_getD→zD,getElem?_eq_getElem→jU,getElem_mem→jQ,drop_eq_getElem_cons→qC,map_cons→jF,map_nil→jD,append_nil→jE
open Nat renaming reduceEqDiff→jB,reduceAdd→jK
open Option renaming getD_some→jA
def AAI (x:Nat):List Nat→Bool
 | a :: b :: r=>(decide (a≤x) && decide (x≤b)) || AAI x r
 | _=>false
def opW (op:Int) (vs:List Nat):Nat :=
 if op=22 then (if vs.getD 0 0≠0 then vs.getD 1 0 else vs.getD 2 0) else if op=23 then tr (AAI (vs.getD 0 0) (vs.drop 1))
 else if vs.length=1 then sgW op (vs.getD 0 0) else dbW op (vs.getD 0 0) (vs.getD 1 0)
theorem getD_lt {vs:List Nat} (hv : ∀ x∈vs,x < 65536) (k:Nat):vs.getD k 0 < 65536:=by
 rw [zD]
 rcases Nat.lt_or_ge k vs.length with h | h
 ·rw [jU h]; exact hv _ (jQ h)
 ·rw [List.getElem?_eq_none h]; decide
theorem AV4 (op:Int) {vs:List Nat} (hv : ∀ x∈vs,x < 65536):opW op vs < 65536:=by
 unfold opW
 have h0:=getD_lt hv 0
 have h1:=getD_lt hv 1
 have h2:=getD_lt hv 2
 split
 ·split <;> assumption
 split
 ·exact XD _
 split
 ·exact AVW h0
 ·exact AWT h0 h1
theorem AM6 (x:Nat) (l:List Nat) (k:Nat) (hk:k+1 < l.length):AAI x (l.drop k)=((decide (l[k]≤x) && decide (x≤l[k+1])) || AAI x (l.drop (k+2))):=by
 rw [qC (by omega:k < l.length),qC hk]; rfl
theorem APZ (x:Nat) (l:List Nat) (k:Nat) (hk:l.length≤k+1):AAI x (l.drop k)=false:=by
 have:(l.drop k).length≤1:=by simp; omega
 match hm:l.drop k,this with
 | [],_=>rfl
 | [a],_=>rfl
theorem gec (a b:Nat):decide ((a:Int)≥(b:Int))=decide (b≤a):=lec b a
def ARU (op:Int) (n:Nat):Prop:=(op=22→n=3)∧(op=23→n % 2=1∧3≤n)∧(op≠22→op≠23→n=1∨n=2)
set_option maxHeartbeats 2000000 in
theorem AO8 (G:Nat→AV) (op:Int) (vs:List Nat) (o:Nat) (H:Hp) (ho:H[o]? = some (.live 1 (vs.map AHX))) (hv : ∀ x∈vs,x < 65536) (hl:vs.length≤1048576) (hops:ARU op vs.length) :
  PCall (En G) 102 [.int .i64 op,.own o 0 vs.length] H (.int .i64 (opW op vs:Nat)):=by
 have hix : ∀ k:Nat,k < vs.length→JM 1 H (.own o 0 vs.length) (.int .i64 (k:Nat))=some (.ptr o k 0):=fun k hk=>by rw [J9 ho hk,Nat.zero_add]
 have hld : ∀ (k:Nat) (hk:k < vs.length),DL Tryz.prog H 3 (.ptr o k 0)=some (.int .i64 (vs[k]:Nat)):=fun k hk=>by rw [DC ag3 ho (row:=AHX vs[k]) (AAS hk)]; rfl
 have h1:1≤vs.length:=by
  obtain ⟨a,b,c⟩:=hops
  by_cases e:op=22
  ·have:=a e; omega
  by_cases e':op=23
  ·have:=b e'; omega
  ·have:=c e e'; omega
 have i0:JM 1 H (.own o 0 vs.length) (.int .i64 0)=some (.ptr o 0 0):=hix 0 h1
 have d0:=hld 0 h1
 have g0:vs.getD 0 0=vs[0]:=by rw [zD,jU h1]; rfl
 have v0:vs[0] < 65536:=hv _ (jQ _)
 refine acN Tryz.func102 rfl ?_
 show awp _ _ _ _ _ (EE _ [.tmp 4] _)
 by_cases e22:op=22
 ·subst e22
  have hl3:vs.length=3:=hops.1 rfl
  have i1:JM 1 H (.own o 0 vs.length) (.int .i64 1)=some (.ptr o 1 0):=hix 1 (by omega)
  have i2:JM 1 H (.own o 0 vs.length) (.int .i64 2)=some (.ptr o 2 0):=hix 2 (by omega)
  have d1:=hld 1 (by omega)
  have d2:=hld 2 (by omega)
  have g1:vs.getD 1 0=vs[1]:=by rw [zD,jU (by omega)]; rfl
  have g2:vs.getD 2 0=vs[2]:=by rw [zD,jU (by omega)]; rfl
  simp -implicitDefEqProofs only [BC,A8,BJ,A7,DR,AZ,BA,AC,AQ,AO,BD,AX,AL,AA,AY,AU,BG,BH,BB,BP,BU,CQ,AB,DJ,FD,BF,BQ,↓reduceIte,jB,jA,jC,enX,enP,RH,zO,i0,d0,eqz,nez]
  cases hz:(vs[0] == 0)
  ·simp -implicitDefEqProofs only [BC,A8,BK,A7,CJ,CU,DR,AZ,BA,AC,AQ,AO,BD,AX,AL,AA,AY,AU,BG,BH,BB,BP,CQ,AB,BF,BQ,↓reduceIte,jB,jA,jC,enP,RH,i1,d1]
   have:vs[0]≠0:=by simpa using hz
   exact ⟨by unfold opW; rw [if_pos rfl,g0,if_pos this,g1],trivial⟩
  ·simp -implicitDefEqProofs only [BC,A8,BR,BK,A7,CJ,CU,DX,AZ,BA,AC,AQ,AO,BD,AX,AL,AA,AY,AU,BG,BH,BB,BP,CQ,AB,BF,BQ,↓reduceIte,jB,jA,Bool.not_true,jC,enP,RH,i2,d2]
   have : ¬ vs[0]≠0:=by simpa using hz
   exact ⟨by unfold opW; rw [if_pos rfl,g0,if_neg this,g2],trivial⟩
 by_cases e23:op=23
 ·subst e23
  obtain ⟨hodd,h3⟩:=hops.2.1 rfl
  simp -implicitDefEqProofs only [BC,CB,A8,BR,BJ,A7,DR,DX,AZ,BA,AC,AQ,AO,BD,AX,AL,AA,AY,AU,BG,BH,BB,BU,AB,DJ,BF,↓reduceIte,jB,jA,jC,enX,enP,zO]
  have hval:opW 23 vs=tr (AAI vs[0] (vs.drop 1)):=by unfold opW; rw [if_neg (by decide),if_pos rfl,g0]
  rw [hval]
  refine D7 (fun n F H' => ∃ j,n+j=vs.length∧j % 2=1∧F 1 = .own o 0 vs.length∧F 5 = .int .i64 (j:Nat)∧H'=H∧AAI vs[0] (vs.drop 1)=AAI vs[0] (vs.drop j)) (vs.length - 1) ⟨1,by omega,rfl,by simp -implicitDefEqProofs only [AA,BF,BQ,↓reduceIte,jB],by simp -implicitDefEqProofs only [AA,↓reduceIte] <;> rfl,rfl,rfl⟩ ?_
  rintro n F H' ⟨j,hj,hj2,f1,f5,rfl,hin⟩
  simp -implicitDefEqProofs only [BC,A8,BJ,A7,AZ,BA,AC,AQ,AO,BD,AX,AL,AA,AY,AU,BG,BH,BU,E5,AB,DY,DF,↓reduceIte,jB,jA,jC,enP,ABR,f1,f5,wrap_succ (show j < 9223372036854775807 by omega)]
  refine CV (fun hc => ?_) (fun hc => ?_)
  ·have hc':j+1 < vs.length:=by simp at hc; omega
   have ij:=hix j (by omega)
   have ij1:=hix (j+1) hc'
   have dj:=hld j (by omega)
   have dj1:=hld (j+1) hc'
   rw [AM6 _ _ _ hc'] at hin
   have e2:IntKind.i64.wrap (((j:Nat):Int)+2)=((j+2:Nat):Int):=by rw [wrap_i64 (by omega) (by omega)]; omega
   have es:IntKind.i64.wrap (((j:Nat):Int)+1)=((j+1:Nat):Int):=wrap_succ (show j < 9223372036854775807 by omega)
   simp -implicitDefEqProofs only [BC,CB,BR,A7]
   refine EX (by kernel_rfl) ?_
   simp -implicitDefEqProofs only [FC,DV,CY,DW,D9,ET,EP,ED,IJ,EQ,CG,AC,AA,AY,AU,BG,BP,BU,CQ,AB,FQ,↓reduceIte,jB,jK,jA,enP,RH,f1,f5,i0,d0,ij,dj,es,ij1,dj1,lec,gec]
   cases ha:decide (vs[j]≤vs[0])
   ·simp -implicitDefEqProofs only [FC,DV,CY,EC,DW,D9,ET,SL,F6,A8,BR,BJ,A7,EK,FI,DX,AZ,BA,CG,AC,AQ,AO,BD,AX,AL,AA,EG,AY,AU,BG,BM,BH,BB,CO,DU,BU,AB,DY,↓reduceIte,jB,jK,jA,jC,enP,ha,f5,e2]
    exact ⟨n - 2,by omega,j+2,by omega,by omega,by trivial,by first | rfl | trivial,trivial,by rw [hin,ha]; rfl⟩
   ·cases hb:decide (vs[0]≤vs[j+1])
    ·simp -implicitDefEqProofs only [FC,DV,CY,EC,DW,D9,ET,PS,EP,F6,ED,IJ,EQ,A8,BR,BJ,A7,EK,FI,DX,AZ,BA,CG,AC,AQ,AO,BD,AX,AL,AA,AY,AU,BG,BM,BH,BB,CO,DK,BP,BU,CQ,AB,DY,I7,↓reduceIte,jB,jK,jA,jC,enP,RH,ha,hb,f1,f5,es,ij1,dj1,lec,i0,d0,e2]
     exact ⟨n - 2,by omega,j+2,by omega,by omega,by trivial,by first | rfl | trivial,trivial,by rw [hin,ha,hb]; rfl⟩
    ·simp -implicitDefEqProofs only [FC,DV,CY,EC,DW,D9,ET,PS,EP,F6,ED,IJ,EQ,BC,A8,BK,BJ,A7,CJ,D5,FV,CU,DR,AZ,BA,CG,AC,AQ,AO,BD,AX,AL,AA,AY,AU,BG,BM,BB,CO,DK,BP,BU,CQ,AB,DY,I7,↓reduceIte,jB,jK,jA,jC,enP,RH,ha,hb,f1,f5,es,ij1,dj1,lec,i0,d0]
     exact ⟨by rw [hin,ha,hb]; rfl,trivial⟩
  ·have hc':vs.length≤j+1:=by simp at hc; omega
   simp -implicitDefEqProofs only [BC,A8,BK,D6,A7,EU,CJ,FT,FX,CU,AZ,BA,AC,AQ,AO,BD,AX,AL,AA,AU,BG,BB,↓reduceIte,jA,jC]
   exact ⟨by rw [hin,APZ _ _ _ hc']; rfl,trivial⟩
 ·have n12:=hops.2.2 e22 e23
  have c1:(op == 22)=false:=beq_eq_false_iff_ne.2 e22
  have c2:(op == 23)=false:=beq_eq_false_iff_ne.2 e23
  have hval:opW op vs=if vs.length=1 then sgW op (vs.getD 0 0) else dbW op (vs.getD 0 0) (vs.getD 1 0):=by unfold opW; rw [if_neg e22,if_neg e23]
  rw [hval]
  simp -implicitDefEqProofs only [BC,A8,BR,BJ,A7,DX,AZ,BA,AC,AQ,AO,BD,AX,AL,AA,AY,AU,BG,BH,BB,BU,E5,AB,DJ,BF,BQ,↓reduceIte,jB,jA,jC,enX,enP,ABR,c1,c2]
  refine CV (fun hc => ?_) (fun hc => ?_)
  ·have hl1:vs.length=1:=by simp at hc; omega
   simp -implicitDefEqProofs only [BC,A8,AZ,AC,AQ,AO,BD,AX,AL,AA,AY,AU,BO,BG,BH,BP,CQ,BV,BN,AB,BF,BQ,jF,jD,jE,↓reduceIte,jB,jA,jC,enP,RH,i0,d0]
   refine (AI5 G op _ v0 H).use ?_
   simp -implicitDefEqProofs only [BK,A7,CJ,CU,AZ,BA,AC,AQ,AO,BD,AX,AL,AA,AY,BB,↓reduceIte,jA,jC]
   exact ⟨by rw [if_pos hl1,g0],trivial⟩
  ·have hl1:vs.length≠1:=by simp at hc; omega
   have i1:JM 1 H (.own o 0 vs.length) (.int .i64 1)=some (.ptr o 1 0):=hix 1 (by omega)
   have d1:=hld 1 (by omega)
   have g1:vs.getD 1 0=vs[1]:=by rw [zD,jU (by omega)]; rfl
   have v1:vs[1] < 65536:=hv _ (jQ _)
   simp -implicitDefEqProofs only [BC,BR,A7]
   refine EX (by kernel_rfl) ?_
   simp -implicitDefEqProofs only [FC,DV,CY,EC,DW,EP,G9,ED,EQ,EW,EJ,BK,A7,CU,AC,AA,AY,AU,BO,BG,BP,CQ,AB,BF,BQ,jF,jD,jE,↓reduceIte,jB,jK,jA,enP,RH,i0,d0,i1,d1]
   refine ⟨_,AJ4 G op _ _ v0 v1 H,?_⟩
   exact ⟨by rw [if_neg hl1,g0,g1],trivial⟩
end Go.Proofs.YtokehnfjjmpanaaGreatDoor.Xe
