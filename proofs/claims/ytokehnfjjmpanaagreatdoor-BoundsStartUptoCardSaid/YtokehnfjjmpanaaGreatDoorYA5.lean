/- Part 5 of the proof (Ft, B1, B2, B4, B5, B6, E1, E2, E3, E4, E5, E6, E7); no condition. -/
import Derived.Test.YtokehnfjjmpanaaGreatDoorProg
import Derived.KernelRfl
import Derived.Laws.RangeAny
import Derived.Shelf.Strings.Cut
import Derived.Lib.IndexMore
import Derived.Test.YtokehnfjjmpanaaGreatDoorYA4
set_option linter.unusedVariables false
namespace Go.Proofs.YtokehnfjjmpanaaGreatDoor.Sm

theorem sz3:szO Tryz.prog 3=some 1:=by kernel_rfl
theorem ag3:J9 Tryz.prog 3=some false:=by kernel_rfl
theorem sz4:szO Tryz.prog 4=some 1:=by kernel_rfl
theorem ag4:J9 Tryz.prog 4=some false:=by kernel_rfl
theorem sz9:szO Tryz.prog 9=some 1:=by kernel_rfl
theorem ag9:J9 Tryz.prog 9=some false:=by kernel_rfl
theorem UF:J9 Tryz.prog 22=some false:=by kernel_rfl
theorem AVW:szO Tryz.prog 23=some 1:=by kernel_rfl
theorem QP:J9 Tryz.prog 23=some false:=by kernel_rfl
theorem AQC:J9 Tryz.prog 24=some false:=by kernel_rfl
theorem AVD:J9 Tryz.prog 25=some false:=by kernel_rfl
theorem SB:szO Tryz.prog 27=some 5:=by kernel_rfl
theorem UE:J9 Tryz.prog 27=some true:=by kernel_rfl
theorem SA:szO Tryz.prog 34=some 2:=by kernel_rfl
theorem AFW:J9 Tryz.prog 34=some true:=by kernel_rfl
theorem ARQ:szO Tryz.prog 35=some 1:=by kernel_rfl
theorem ANQ:J9 Tryz.prog 35=some false:=by kernel_rfl
theorem JU:szO Tryz.prog 40=some 4:=by kernel_rfl
theorem MC:J9 Tryz.prog 40=some true:=by kernel_rfl
theorem AVV:szO Tryz.prog 45=some 1:=by kernel_rfl
theorem ASX:J9 Tryz.prog 45=some false:=by kernel_rfl
theorem ASW:J9 Tryz.prog 50=some false:=by kernel_rfl
theorem AF9:szO Tryz.prog 52=some 2:=by kernel_rfl
theorem AQB:J9 Tryz.prog 52=some true:=by kernel_rfl
theorem ALE:szO Tryz.prog 61=some 4:=by kernel_rfl
theorem AVC:J9 Tryz.prog 61=some true:=by kernel_rfl
theorem AVU:szO Tryz.prog 66=some 1:=by kernel_rfl
theorem AW7:J9 Tryz.prog 66=some false:=by kernel_rfl
theorem AVT:szO Tryz.prog 69=some 2:=by kernel_rfl
theorem AW6:J9 Tryz.prog 69=some true:=by kernel_rfl
theorem ALD:szO Tryz.prog 89=some 4:=by kernel_rfl
theorem ASV:J9 Tryz.prog 89=some true:=by kernel_rfl
theorem ALF:szO Tryz.prog 120=some 1:=by kernel_rfl
theorem ABY:J9 Tryz.prog 120=some false:=by kernel_rfl
theorem ln9 : ∀ s,LH Tryz.prog 9 (.str s)=some (.int .i64 s.size):=AO5 (by kernel_rfl:Tryz.prog.underlying 9=some .string)
theorem RS : ∀ h a i,F8 Tryz.prog h 22 a i=JV 4 h a i:=IL (by kernel_rfl:Tryz.prog.underlying 22=some (.slice 61)) ALE
theorem QA:(∀ m k xs,LH Tryz.prog 22 (.sl m k xs)=some (.int .i64 xs.length))∧∀ b off len,LH Tryz.prog 22 (.own b off len)=some (.int .i64 len):=QB (by kernel_rfl:Tryz.prog.underlying 22=some (.slice 61))
theorem AVP:Tryz.prog.underlying 22=some (.slice 61):=by kernel_rfl
theorem QC : ∀ h a i,F8 Tryz.prog h 23 a i=JV 4 h a i:=IL (by kernel_rfl:Tryz.prog.underlying 23=some (.slice 40)) JU
theorem TZ:(∀ m k xs,LH Tryz.prog 23 (.sl m k xs)=some (.int .i64 xs.length))∧∀ b off len,LH Tryz.prog 23 (.own b off len)=some (.int .i64 len):=QB (by kernel_rfl:Tryz.prog.underlying 23=some (.slice 40))
theorem AJD:Tryz.prog.underlying 23=some (.slice 40):=by kernel_rfl
theorem AS2:YM Tryz.prog 40=some 4:=by kernel_rfl
theorem AUI:OB Tryz.prog 40=some 56:=by kernel_rfl
theorem AAX : ∀ h a i,F8 Tryz.prog h 24 a i=JV 2 h a i:=IL (by kernel_rfl:Tryz.prog.underlying 24=some (.slice 52)) AF9
theorem AO3:(∀ m k xs,LH Tryz.prog 24 (.sl m k xs)=some (.int .i64 xs.length))∧∀ b off len,LH Tryz.prog 24 (.own b off len)=some (.int .i64 len):=QB (by kernel_rfl:Tryz.prog.underlying 24=some (.slice 52))
theorem AVO:Tryz.prog.underlying 24=some (.slice 52):=by kernel_rfl
theorem APA : ∀ h a i,F8 Tryz.prog h 25 a i=JV 1 h a i:=IL (by kernel_rfl:Tryz.prog.underlying 25=some (.slice 45)) AVV
theorem ATZ:(∀ m k xs,LH Tryz.prog 25 (.sl m k xs)=some (.int .i64 xs.length))∧∀ b off len,LH Tryz.prog 25 (.own b off len)=some (.int .i64 len):=QB (by kernel_rfl:Tryz.prog.underlying 25=some (.slice 45))
theorem KT:(∀ b i j,DJ Tryz.prog 27 (.ptr b i j) 0=some (.ptr b i (j+0)))∧(∀ k xs i j,DJ Tryz.prog 27 (.fptr k xs i j) 0=some (.fptr k xs i (j+0))):=JM (by kernel_rfl:L6 Tryz.prog 27 0 0=true)
theorem ACQ:(∀ b i j,DJ Tryz.prog 27 (.ptr b i j) 1=some (.ptr b i (j+1)))∧(∀ k xs i j,DJ Tryz.prog 27 (.fptr k xs i j) 1=some (.fptr k xs i (j+1))):=JM (by kernel_rfl:L6 Tryz.prog 27 1 1=true)
theorem AMT:(∀ b i j,DJ Tryz.prog 27 (.ptr b i j) 2=some (.ptr b i (j+2)))∧(∀ k xs i j,DJ Tryz.prog 27 (.fptr k xs i j) 2=some (.fptr k xs i (j+2))):=JM (by kernel_rfl:L6 Tryz.prog 27 2 2=true)
theorem ACP:(∀ b i j,DJ Tryz.prog 27 (.ptr b i j) 3=some (.ptr b i (j+3)))∧(∀ k xs i j,DJ Tryz.prog 27 (.fptr k xs i j) 3=some (.fptr k xs i (j+3))):=JM (by kernel_rfl:L6 Tryz.prog 27 3 3=true)
theorem AMS:(∀ b i j,DJ Tryz.prog 27 (.ptr b i j) 4=some (.ptr b i (j+4)))∧(∀ k xs i j,DJ Tryz.prog 27 (.fptr k xs i j) 4=some (.fptr k xs i (j+4))):=JM (by kernel_rfl:L6 Tryz.prog 27 4 4=true)
theorem RQ : ∀ h a i,F8 Tryz.prog h 29 a i=JV 2 h a i:=IL (by kernel_rfl:Tryz.prog.underlying 29=some (.slice 34)) SA
theorem AEM:(∀ m k xs,LH Tryz.prog 29 (.sl m k xs)=some (.int .i64 xs.length))∧∀ b off len,LH Tryz.prog 29 (.own b off len)=some (.int .i64 len):=QB (by kernel_rfl:Tryz.prog.underlying 29=some (.slice 34))
theorem AJC:Tryz.prog.underlying 29=some (.slice 34):=by kernel_rfl
theorem AQ8:YM Tryz.prog 34=some 2:=by kernel_rfl
theorem APU:OB Tryz.prog 34=some 16:=by kernel_rfl
theorem GK:(∀ b i j,DJ Tryz.prog 34 (.ptr b i j) 0=some (.ptr b i (j+0)))∧(∀ k xs i j,DJ Tryz.prog 34 (.fptr k xs i j) 0=some (.fptr k xs i (j+0))):=JM (by kernel_rfl:L6 Tryz.prog 34 0 0=true)
theorem GZ:(∀ b i j,DJ Tryz.prog 34 (.ptr b i j) 1=some (.ptr b i (j+1)))∧(∀ k xs i j,DJ Tryz.prog 34 (.fptr k xs i j) 1=some (.fptr k xs i (j+1))):=JM (by kernel_rfl:L6 Tryz.prog 34 1 1=true)
theorem G8:(∀ b i j,DJ Tryz.prog 40 (.ptr b i j) 0=some (.ptr b i (j+0)))∧(∀ k xs i j,DJ Tryz.prog 40 (.fptr k xs i j) 0=some (.fptr k xs i (j+0))):=JM (by kernel_rfl:L6 Tryz.prog 40 0 0=true)
theorem ZP:(∀ b i j,DJ Tryz.prog 40 (.ptr b i j) 1=some (.ptr b i (j+1)))∧(∀ k xs i j,DJ Tryz.prog 40 (.fptr k xs i j) 1=some (.fptr k xs i (j+1))):=JM (by kernel_rfl:L6 Tryz.prog 40 1 1=true)
theorem L9:(∀ b i j,DJ Tryz.prog 40 (.ptr b i j) 2=some (.ptr b i (j+2)))∧(∀ k xs i j,DJ Tryz.prog 40 (.fptr k xs i j) 2=some (.fptr k xs i (j+2))):=JM (by kernel_rfl:L6 Tryz.prog 40 2 2=true)
theorem JQ:(∀ b i j,DJ Tryz.prog 40 (.ptr b i j) 3=some (.ptr b i (j+3)))∧(∀ k xs i j,DJ Tryz.prog 40 (.fptr k xs i j) 3=some (.fptr k xs i (j+3))):=JM (by kernel_rfl:L6 Tryz.prog 40 3 3=true)
theorem AGW : ∀ h a i,F8 Tryz.prog h 45 a i=JV 1 h a i:=IL (by kernel_rfl:Tryz.prog.underlying 45=some (.slice 3)) sz3
theorem AJ0:(∀ m k xs,LH Tryz.prog 45 (.sl m k xs)=some (.int .i64 xs.length))∧∀ b off len,LH Tryz.prog 45 (.own b off len)=some (.int .i64 len):=QB (by kernel_rfl:Tryz.prog.underlying 45=some (.slice 3))
theorem AVN:Tryz.prog.underlying 45=some (.slice 3):=by kernel_rfl
theorem AWP:OB Tryz.prog 3=some 8:=by kernel_rfl
theorem AR6 : ∀ h a i,F8 Tryz.prog h 50 a i=JV 4 h a i:=IL (by kernel_rfl:Tryz.prog.underlying 50=some (.slice 89)) ALD
theorem AL3:(∀ m k xs,LH Tryz.prog 50 (.sl m k xs)=some (.int .i64 xs.length))∧∀ b off len,LH Tryz.prog 50 (.own b off len)=some (.int .i64 len):=QB (by kernel_rfl:Tryz.prog.underlying 50=some (.slice 89))
theorem U6:(∀ b i j,DJ Tryz.prog 52 (.ptr b i j) 0=some (.ptr b i (j+0)))∧(∀ k xs i j,DJ Tryz.prog 52 (.fptr k xs i j) 0=some (.fptr k xs i (j+0))):=JM (by kernel_rfl:L6 Tryz.prog 52 0 0=true)
theorem WR:(∀ b i j,DJ Tryz.prog 52 (.ptr b i j) 1=some (.ptr b i (j+1)))∧(∀ k xs i j,DJ Tryz.prog 52 (.fptr k xs i j) 1=some (.fptr k xs i (j+1))):=JM (by kernel_rfl:L6 Tryz.prog 52 1 1=true)
theorem N9:(∀ b i j,DJ Tryz.prog 61 (.ptr b i j) 0=some (.ptr b i (j+0)))∧(∀ k xs i j,DJ Tryz.prog 61 (.fptr k xs i j) 0=some (.fptr k xs i (j+0))):=JM (by kernel_rfl:L6 Tryz.prog 61 0 0=true)
theorem L8:(∀ b i j,DJ Tryz.prog 61 (.ptr b i j) 1=some (.ptr b i (j+1)))∧(∀ k xs i j,DJ Tryz.prog 61 (.fptr k xs i j) 1=some (.fptr k xs i (j+1))):=JM (by kernel_rfl:L6 Tryz.prog 61 1 1=true)
theorem LD:(∀ b i j,DJ Tryz.prog 61 (.ptr b i j) 2=some (.ptr b i (j+2)))∧(∀ k xs i j,DJ Tryz.prog 61 (.fptr k xs i j) 2=some (.fptr k xs i (j+2))):=JM (by kernel_rfl:L6 Tryz.prog 61 2 2=true)
theorem SY:(∀ b i j,DJ Tryz.prog 61 (.ptr b i j) 3=some (.ptr b i (j+3)))∧(∀ k xs i j,DJ Tryz.prog 61 (.fptr k xs i j) 3=some (.fptr k xs i (j+3))):=JM (by kernel_rfl:L6 Tryz.prog 61 3 3=true)
theorem ASB:(∀ b i j,DJ Tryz.prog 69 (.ptr b i j) 0=some (.ptr b i (j+0)))∧(∀ k xs i j,DJ Tryz.prog 69 (.fptr k xs i j) 0=some (.fptr k xs i (j+0))):=JM (by kernel_rfl:L6 Tryz.prog 69 0 0=true)
theorem WQ:(∀ b i j,DJ Tryz.prog 69 (.ptr b i j) 1=some (.ptr b i (j+1)))∧(∀ k xs i j,DJ Tryz.prog 69 (.fptr k xs i j) 1=some (.fptr k xs i (j+1))):=JM (by kernel_rfl:L6 Tryz.prog 69 1 1=true)
theorem KE:(∀ b i j,DJ Tryz.prog 73 (.ptr b i j) 0=some (.ptr b i (j+0)))∧(∀ k xs i j,DJ Tryz.prog 73 (.fptr k xs i j) 0=some (.fptr k xs i (j+0))):=JM (by kernel_rfl:L6 Tryz.prog 73 0 0=true)
theorem ACO:(∀ b i j,DJ Tryz.prog 73 (.ptr b i j) 1=some (.ptr b i (j+2)))∧(∀ k xs i j,DJ Tryz.prog 73 (.fptr k xs i j) 1=some (.fptr k xs i (j+2))):=JM (by kernel_rfl:L6 Tryz.prog 73 1 2=true)
theorem O8:(∀ b i j,DJ Tryz.prog 89 (.ptr b i j) 0=some (.ptr b i (j+0)))∧(∀ k xs i j,DJ Tryz.prog 89 (.fptr k xs i j) 0=some (.fptr k xs i (j+0))):=JM (by kernel_rfl:L6 Tryz.prog 89 0 0=true)
theorem QZ:(∀ b i j,DJ Tryz.prog 89 (.ptr b i j) 1=some (.ptr b i (j+1)))∧(∀ k xs i j,DJ Tryz.prog 89 (.fptr k xs i j) 1=some (.fptr k xs i (j+1))):=JM (by kernel_rfl:L6 Tryz.prog 89 1 1=true)
theorem ZO:(∀ b i j,DJ Tryz.prog 89 (.ptr b i j) 2=some (.ptr b i (j+2)))∧(∀ k xs i j,DJ Tryz.prog 89 (.fptr k xs i j) 2=some (.fptr k xs i (j+2))):=JM (by kernel_rfl:L6 Tryz.prog 89 2 2=true)
theorem AEO : ∀ h a i,F8 Tryz.prog h 120 a i=JV 1 h a i:=IL (by kernel_rfl:Tryz.prog.underlying 120=some (.slice 9)) sz9
theorem XR:(∀ m k xs,LH Tryz.prog 120 (.sl m k xs)=some (.int .i64 xs.length))∧∀ b off len,LH Tryz.prog 120 (.own b off len)=some (.int .i64 len):=QB (by kernel_rfl:Tryz.prog.underlying 120=some (.slice 9))
theorem AK9:Tryz.prog.underlying 120=some (.slice 9):=by kernel_rfl
theorem AKY:YM Tryz.prog 9=some 1:=by kernel_rfl
theorem ANA:OB Tryz.prog 9=some 16:=by kernel_rfl
theorem AIO:(∀ b i j,DJ Tryz.prog 122 (.ptr b i j) 0=some (.ptr b i (j+0)))∧(∀ k xs i j,DJ Tryz.prog 122 (.fptr k xs i j) 0=some (.fptr k xs i (j+0))):=JM (by kernel_rfl:L6 Tryz.prog 122 0 0=true)
theorem ACS:(∀ b i j,DJ Tryz.prog 122 (.ptr b i j) 1=some (.ptr b i (j+1)))∧(∀ k xs i j,DJ Tryz.prog 122 (.fptr k xs i j) 1=some (.fptr k xs i (j+1))):=JM (by kernel_rfl:L6 Tryz.prog 122 1 1=true)
theorem V4:(∀ b i j,DJ Tryz.prog 122 (.ptr b i j) 2=some (.ptr b i (j+2)))∧(∀ k xs i j,DJ Tryz.prog 122 (.fptr k xs i j) 2=some (.fptr k xs i (j+2))):=JM (by kernel_rfl:L6 Tryz.prog 122 2 2=true)
theorem AIN:(∀ b i j,DJ Tryz.prog 122 (.ptr b i j) 3=some (.ptr b i (j+3)))∧(∀ k xs i j,DJ Tryz.prog 122 (.fptr k xs i j) 3=some (.fptr k xs i (j+3))):=JM (by kernel_rfl:L6 Tryz.prog 122 3 3=true)
theorem ACR:(∀ b i j,DJ Tryz.prog 122 (.ptr b i j) 4=some (.ptr b i (j+4)))∧(∀ k xs i j,DJ Tryz.prog 122 (.fptr k xs i j) 4=some (.fptr k xs i (j+4))):=JM (by kernel_rfl:L6 Tryz.prog 122 4 4=true)
theorem AVS:szO Tryz.prog 95=some 1:=by kernel_rfl
theorem AW5:J9 Tryz.prog 95=some false:=by kernel_rfl
theorem AT3 : ∀ h a i,F8 Tryz.prog h 126 a i=JV 1 h a i:=IL (by kernel_rfl:Tryz.prog.underlying 126=some (.slice 95)) AVS
theorem AT0:(∀ m k xs,LH Tryz.prog 126 (.sl m k xs)=some (.int .i64 xs.length))∧∀ b off len,LH Tryz.prog 126 (.own b off len)=some (.int .i64 len):=QB (by kernel_rfl:Tryz.prog.underlying 126=some (.slice 95))
theorem AMB : ∀ h a i,F8 Tryz.prog h 138 a i=JV 1 h a i:=IL (by kernel_rfl:Tryz.prog.underlying 138=some (.slice 4)) sz4
theorem AS9:Tryz.prog.underlying 138=some (.slice 4):=by kernel_rfl
theorem AUJ:OB Tryz.prog 4=some 1:=by kernel_rfl
theorem AQV : ∀ h a i,F8 Tryz.prog h 159 a i=JV 1 h a i:=IL (by kernel_rfl:Tryz.prog.underlying 159=some (.slice 23)) AVW
theorem AQU:(∀ m k xs,LH Tryz.prog 159 (.sl m k xs)=some (.int .i64 xs.length))∧∀ b off len,LH Tryz.prog 159 (.own b off len)=some (.int .i64 len):=QB (by kernel_rfl:Tryz.prog.underlying 159=some (.slice 23))
theorem AUE : ∀ n,RJ Tryz.prog 3 5 (.int .i64 n)=some (.int .u8 (IntKind.u8.wrap n)):=fun n=>TA (ds := .int .i64) Tryz.prog .i64 n (by kernel_rfl) (by kernel_rfl)
theorem AIV : ∀ n,RJ Tryz.prog 3 148 (.int .i64 n)=some (.int .u64 (IntKind.u64.wrap n)):=fun n=>TA (ds := .int .i64) Tryz.prog .i64 n (by kernel_rfl) (by kernel_rfl)
theorem APO : ∀ n,RJ Tryz.prog 3 170 (.int .i64 n)=some (.int .u16 (IntKind.u16.wrap n)):=fun n=>TA (ds := .int .i64) Tryz.prog .i64 n (by kernel_rfl) (by kernel_rfl)
theorem AE9 : ∀ n,RJ Tryz.prog 5 3 (.int .u8 n)=some (.int .i64 (IntKind.i64.wrap n)):=fun n=>TA (ds := .int .u8) Tryz.prog .u8 n (by kernel_rfl) (by kernel_rfl)
theorem AIW : ∀ n,RJ Tryz.prog 175 5 (.int .u64 n)=some (.int .u8 (IntKind.u8.wrap n)):=fun n=>TA (ds := .int .u64) Tryz.prog .u64 n (by kernel_rfl) (by kernel_rfl)
noncomputable def En (G:Nat→AV):Env:=⟨Tryz.prog,G,none,fun _ _=>False⟩
theorem enP (G:Nat→AV):(En G).P=Tryz.prog:=rfl
theorem enX (G:Nat→AV):(En G).nox=En G:=rfl
theorem enG (G:Nat→AV):(En G).G=G:=rfl
theorem enM (G:Nat→AV):(En G).P.follows .mixedOrders=true:=by kernel_rfl
theorem acN {G:Nat→AV} {f:FuncId} {fn:Func} {c:Code} {args:List AV} {h:Hp} {R:AV→Hp→Prop} (hf:(En G).P.funcs[f]? = some fn) (hb:fn.body=some c) (hw:awp (En G) Hint.none c (KG args) h (EH (En G).P fn.results.toList R)) (h1:(fn.name == "runtime.NumGoroutine")=false:=by kernel_rfl) (h2:PE fn.ntmps c=true:=by kernel_rfl) (h3:Nat.ble args.length fn.ntmps=true:=by kernel_rfl):ACalls (En G) f args h R:=IY (enM G) hf hb h1 h2 (Nat.le_of_ble_eq_true h3) hw
end Go.Proofs.YtokehnfjjmpanaaGreatDoor.Sm
namespace Go.Proofs.YtokehnfjjmpanaaGreatDoor.Bins
open Sm
structure Rng where
 lo:Int
 hi:Int
 deriving DecidableEq
def encR (r:Rng):List AV := [.int .i64 r.lo,.int .i64 r.hi]
theorem O9 (r:Rng):(encR r).length=2:=rfl
theorem AAI {α:Type} (p:α→Bool) (xs:List α) (k:Nat) (h:k < xs.length):(xs.drop k).any p=(p xs[k] || (xs.drop (k+1)).any p):=by
 rw [List.drop_eq_getElem_cons h,List.any_cons]
theorem bxR (h:Hp) (r:Rng):OE h (.agg (encR r))=some (.ptr h.length 0 0,h ++ [.live 2 [encR r]]):=rfl
def bad (r:Rng):Bool:=decide (r.lo < 0) || decide (r.lo > r.hi) || decide (r.hi > 65535)
theorem AW4 (h:Hp):JF Tryz.prog h 34=some (.ptr h.length 0 0,h ++ [.live 2 [[.int .i64 0,.int .i64 0]]]):=JP (row := [.int .i64 0,.int .i64 0]) (by kernel_rfl)
theorem cok (f:FuncId) (G:Nat→AV) (hf:(match Tryz.prog.funcs[f]? with | some fn=>fn.body.isSome && !(fn.name == "runtime.NumGoroutine") | none=>false)=true):XL (En G).P f:=by
 have he:(En G).P=Tryz.prog:=rfl
 unfold XL
 rw [he]
 cases hx:Tryz.prog.funcs[f]? with
 | none=>rw [hx] at hf; cases hf
 | some fn =>
   rw [hx] at hf
   simp at hf
   exact ⟨fn,rfl,by simpa using hf.1,by simpa using hf.2⟩
def qencI (n:Int):List AV := [.int .i64 n]
theorem encI0 (n:Int):(qencI n)[0]? = some (.int .i64 n):=rfl
end Go.Proofs.YtokehnfjjmpanaaGreatDoor.Bins
set_option linter.unusedSimpArgs false
set_option maxRecDepth 8000
namespace Go.Proofs.YtokehnfjjmpanaaGreatDoor.Bins
open Sm
open Bool renaming not_false→jC
open List renaming map_cons→jF,map_nil→jD,append_nil→jE,length_map→jM,all_eq_true→jZ,getElem?_cons_zero→zG
open Nat renaming le_of_ble_eq_true→jH,reduceEqDiff→jA,lt_or_ge→jT,eq_zero_or_pos→zW
open Option renaming getD_some→jB
def PP (n:Int):Bool:=decide (n≥97) && decide (n≤122)
def AE8 (n:Int):Bool:=decide (n≥48) && decide (n≤57)
def LQ (n:Int):Bool:=PP n || AE8 n || (decide (n≥65) && decide (n≤90)) || n == 95
theorem ZC (G:Nat→AV) (n:Int) (h:Hp):PCall (En G) 201 [.int .i32 n] h (.bool (PP n)):=by
 refine acN Tryz.func201 rfl ?_
 show awp _ _ _ _ _ (EH _ [.tmp 2] _)
 simp -implicitDefEqProofs only [BB,A8,A7,AZ,BA,BL,BU,CO,AC,AQ,AO,BD,AX,AL,AA,AY,AU,BH,BM,BI,BC,BR,AB,FQ,BF,↓reduceIte,jA,jB,jC,enX,enP]
 refine IK (fun ha => ?_) (fun ha => ?_)
 ·simp -implicitDefEqProofs only [BK,A7,CW,AZ,BA,BL,BU,CO,GH,AC,AQ,AO,BD,AX,AL,AA,AY,AU,BH,BM,BI,BC,CP,DL,BR,AB,KH,BF,↓reduceIte,jA,jB,jC,enP,ha]
  exact ⟨by unfold PP; rw [ha]; rfl,trivial⟩
 ·simp -implicitDefEqProofs only [BK,A7,CW,AZ,BA,BL,BU,CO,I4,AC,AQ,AO,BD,AX,AL,AA,EG,AY,AU,BM,BC,CP,DN,↓reduceIte,jA,jB,jC,ha]
  exact ⟨by unfold PP; rw [ha]; rfl,trivial⟩
theorem AHA (G:Nat→AV) (n:Int) (h:Hp):PCall (En G) 213 [.int .i32 n] h (.bool (AE8 n)):=by
 refine acN Tryz.func213 rfl ?_
 show awp _ _ _ _ _ (EH _ [.tmp 2] _)
 simp -implicitDefEqProofs only [BB,A8,A7,AZ,BA,BL,BU,CO,AC,AQ,AO,BD,AX,AL,AA,AY,AU,BH,BM,BI,BC,BR,AB,FQ,BF,↓reduceIte,jA,jB,jC,enX,enP]
 refine IK (fun ha => ?_) (fun ha => ?_)
 ·simp -implicitDefEqProofs only [BK,A7,CW,AZ,BA,BL,BU,CO,GH,AC,AQ,AO,BD,AX,AL,AA,AY,AU,BH,BM,BI,BC,CP,DL,BR,AB,KH,BF,↓reduceIte,jA,jB,jC,enP,ha]
  exact ⟨by unfold AE8; rw [ha]; rfl,trivial⟩
 ·simp -implicitDefEqProofs only [BK,A7,CW,AZ,BA,BL,BU,CO,I4,AC,AQ,AO,BD,AX,AL,AA,EG,AY,AU,BM,BC,CP,DN,↓reduceIte,jA,jB,jC,ha]
  exact ⟨by unfold AE8; rw [ha]; rfl,trivial⟩
theorem AA8 (G:Nat→AV) (n:Int) (h:Hp):PCall (En G) 197 [.int .u8 n] h (.bool (PP n)):=by
 refine acN Tryz.func197 rfl ?_
 show awp _ _ _ _ _ (EH _ [.tmp 2] _)
 simp -implicitDefEqProofs only [BB,A8,A7,AZ,BA,BL,BU,CO,AC,AQ,AO,BD,AX,AL,AA,AY,AU,BH,BM,BI,BC,BR,AB,FQ,BF,↓reduceIte,jA,jB,jC,enX,enP]
 refine IK (fun ha => ?_) (fun ha => ?_)
 ·simp -implicitDefEqProofs only [BK,A7,CW,AZ,BA,BL,BU,CO,GH,AC,AQ,AO,BD,AX,AL,AA,AY,AU,BH,BM,BI,BC,CP,DL,BR,AB,KH,BF,↓reduceIte,jA,jB,jC,enP,ha]
  exact ⟨by unfold PP; rw [ha]; rfl,trivial⟩
 ·simp -implicitDefEqProofs only [BK,A7,CW,AZ,BA,BL,BU,CO,I4,AC,AQ,AO,BD,AX,AL,AA,EG,AY,AU,BM,BC,CP,DN,↓reduceIte,jA,jB,jC,ha]
  exact ⟨by unfold PP; rw [ha]; rfl,trivial⟩
theorem AKH (G:Nat→AV) (n:Int) (h:Hp):PCall (En G) 212 [.int .u8 n] h (.bool (AE8 n)):=by
 refine acN Tryz.func212 rfl ?_
 show awp _ _ _ _ _ (EH _ [.tmp 2] _)
 simp -implicitDefEqProofs only [BB,A8,A7,AZ,BA,BL,BU,CO,AC,AQ,AO,BD,AX,AL,AA,AY,AU,BH,BM,BI,BC,BR,AB,FQ,BF,↓reduceIte,jA,jB,jC,enX,enP]
 refine IK (fun ha => ?_) (fun ha => ?_)
 ·simp -implicitDefEqProofs only [BK,A7,CW,AZ,BA,BL,BU,CO,GH,AC,AQ,AO,BD,AX,AL,AA,AY,AU,BH,BM,BI,BC,CP,DL,BR,AB,KH,BF,↓reduceIte,jA,jB,jC,enP,ha]
  exact ⟨by unfold AE8; rw [ha]; rfl,trivial⟩
 ·simp -implicitDefEqProofs only [BK,A7,CW,AZ,BA,BL,BU,CO,I4,AC,AQ,AO,BD,AX,AL,AA,EG,AY,AU,BM,BC,CP,DN,↓reduceIte,jA,jB,jC,ha]
  exact ⟨by unfold AE8; rw [ha]; rfl,trivial⟩
theorem VY (G:Nat→AV) (n:Int) (h:Hp):PCall (En G) 202 [.int .i32 n] h (.bool (LQ n)):=by
 refine acN Tryz.func202 rfl ?_
 show awp _ _ _ _ _ (EH _ [.tmp 2] _)
 simp -implicitDefEqProofs only [BB,A8,A7,AZ,BA,AC,AQ,AO,BD,AX,AL,AA,AY,AU,BO,BM,BI,BC,BX,BP,BF,jF,jD,jE,↓reduceIte,jA,jB,jC,enX,enP]
 refine (ZC G n h).use ?_
 simp -implicitDefEqProofs only [AZ,BL,BU,CO,AC,AQ,AO,BD,AX,AL,AA,AY,BI,↓reduceIte,jB,jC]
 refine IK (fun ha => ?_) (fun ha => ?_)
 ·simp -implicitDefEqProofs only [BK,A7,CW,AZ,BA,BL,BU,CO,F6,UH,AC,AQ,AO,BD,AX,AL,AA,EG,AY,AU,BM,BI,BC,CP,DL,↓reduceIte,jA,jB,jC,ha]
  exact ⟨by unfold LQ; rw [ha]; rfl,trivial⟩
 simp -implicitDefEqProofs only [BL,BU,CO,EQ,AC,AQ,AO,BD,AX,AL,AA,AY,BO,BI,BX,BP,BF,jF,jD,jE,↓reduceIte,jA,jB,jC,ha]
 refine (AHA G n h).use ?_
 simp -implicitDefEqProofs only [AZ,BL,BU,CO,AC,AQ,AO,BD,AX,AL,AA,AY,AU,BM,BI,CP,DN,↓reduceIte,jA,jB,jC]
 refine IK (fun hb => ?_) (fun hb => ?_)
 ·simp -implicitDefEqProofs only [BK,A7,CW,AZ,BA,BL,BU,CO,F6,UH,AC,AQ,AO,BD,AX,AL,AA,EG,AY,AU,BM,BI,BC,CP,DL,↓reduceIte,jA,jB,jC,hb]
  exact ⟨by unfold LQ; rw [ha,hb]; rfl,trivial⟩
 simp -implicitDefEqProofs only [BL,BU,CO,EQ,AC,AQ,AO,BD,AX,AL,AA,AY,AU,BH,BI,BR,AB,FQ,BF,↓reduceIte,jA,jB,jC,enP,hb]
 refine IK (fun hc => ?_) (fun hc => ?_)
 ·simp -implicitDefEqProofs only [AZ,BL,BU,CO,GH,EQ,AC,AQ,AO,BD,AX,AL,AA,AY,AU,BH,BM,BI,CP,DL,DN,BR,AB,KH,BF,↓reduceIte,jA,jB,jC,enP,hc]
  refine IK (fun hd => ?_) (fun hd => ?_)
  ·simp -implicitDefEqProofs only [BK,A7,CW,AZ,BA,BL,BU,CO,F6,AC,AQ,AO,BD,AX,AL,AA,EG,AY,AU,BM,BC,CP,DL,↓reduceIte,jA,jB,jC,hd]
   exact ⟨by unfold LQ; rw [ha,hb,hc,hd]; rfl,trivial⟩
  ·simp -implicitDefEqProofs only [BK,A7,CW,AZ,BA,BL,BU,CO,EQ,AC,AQ,AO,BD,AX,AL,AA,AY,AU,BH,BM,BI,BC,CP,DN,BR,AB,DW,BF,↓reduceIte,jA,jB,jC,enP,hd]
   exact ⟨by unfold LQ; rw [ha,hb,hc,hd]; rfl,trivial⟩
 ·simp -implicitDefEqProofs only [BK,A7,CW,AZ,BA,BL,BU,CO,EQ,I4,AC,AQ,AO,BD,AX,AL,AA,EG,AY,AU,BH,BM,BI,BC,CP,DN,BR,AB,DW,BF,↓reduceIte,jA,jB,jC,enP,hc]
  exact ⟨by unfold LQ; rw [ha,hb,hc]; rfl,trivial⟩
theorem AJ4 (G:Nat→AV) (n:Int) (h:Hp):PCall (En G) 199 [.int .u8 n] h (.bool (LQ n)):=by
 refine acN Tryz.func199 rfl ?_
 show awp _ _ _ _ _ (EH _ [.tmp 2] _)
 simp -implicitDefEqProofs only [BB,A8,A7,AZ,BA,AC,AQ,AO,BD,AX,AL,AA,AY,AU,BO,BM,BI,BC,BX,BP,BF,jF,jD,jE,↓reduceIte,jA,jB,jC,enX,enP]
 refine (AA8 G n h).use ?_
 simp -implicitDefEqProofs only [AZ,BL,BU,CO,AC,AQ,AO,BD,AX,AL,AA,AY,BI,↓reduceIte,jB,jC]
 refine IK (fun ha => ?_) (fun ha => ?_)
 ·simp -implicitDefEqProofs only [BK,A7,CW,AZ,BA,BL,BU,CO,F6,UH,AC,AQ,AO,BD,AX,AL,AA,EG,AY,AU,BM,BI,BC,CP,DL,↓reduceIte,jA,jB,jC,ha]
  exact ⟨by unfold LQ; rw [ha]; rfl,trivial⟩
 simp -implicitDefEqProofs only [BL,BU,CO,EQ,AC,AQ,AO,BD,AX,AL,AA,AY,BO,BI,BX,BP,BF,jF,jD,jE,↓reduceIte,jA,jB,jC,ha]
 refine (AKH G n h).use ?_
 simp -implicitDefEqProofs only [AZ,BL,BU,CO,AC,AQ,AO,BD,AX,AL,AA,AY,AU,BM,BI,CP,DN,↓reduceIte,jA,jB,jC]
 refine IK (fun hb => ?_) (fun hb => ?_)
 ·simp -implicitDefEqProofs only [BK,A7,CW,AZ,BA,BL,BU,CO,F6,UH,AC,AQ,AO,BD,AX,AL,AA,EG,AY,AU,BM,BI,BC,CP,DL,↓reduceIte,jA,jB,jC,hb]
  exact ⟨by unfold LQ; rw [ha,hb]; rfl,trivial⟩
 simp -implicitDefEqProofs only [BL,BU,CO,EQ,AC,AQ,AO,BD,AX,AL,AA,AY,AU,BH,BI,BR,AB,FQ,BF,↓reduceIte,jA,jB,jC,enP,hb]
 refine IK (fun hc => ?_) (fun hc => ?_)
 ·simp -implicitDefEqProofs only [AZ,BL,BU,CO,GH,EQ,AC,AQ,AO,BD,AX,AL,AA,AY,AU,BH,BM,BI,CP,DL,DN,BR,AB,KH,BF,↓reduceIte,jA,jB,jC,enP,hc]
  refine IK (fun hd => ?_) (fun hd => ?_)
  ·simp -implicitDefEqProofs only [BK,A7,CW,AZ,BA,BL,BU,CO,F6,AC,AQ,AO,BD,AX,AL,AA,EG,AY,AU,BM,BC,CP,DL,↓reduceIte,jA,jB,jC,hd]
   exact ⟨by unfold LQ; rw [ha,hb,hc,hd]; rfl,trivial⟩
  ·simp -implicitDefEqProofs only [BK,A7,CW,AZ,BA,BL,BU,CO,EQ,AC,AQ,AO,BD,AX,AL,AA,AY,AU,BH,BM,BI,BC,CP,DN,BR,AB,DW,BF,↓reduceIte,jA,jB,jC,enP,hd]
   exact ⟨by unfold LQ; rw [ha,hb,hc,hd]; rfl,trivial⟩
 ·simp -implicitDefEqProofs only [BK,A7,CW,AZ,BA,BL,BU,CO,EQ,I4,AC,AQ,AO,BD,AX,AL,AA,EG,AY,AU,BH,BM,BI,BC,CP,DN,BR,AB,DW,BF,↓reduceIte,jA,jB,jC,enP,hc]
  exact ⟨by unfold LQ; rw [ha,hb,hc]; rfl,trivial⟩
def encStr (s:ByteArray):List AV := [.str s]
theorem AIR (s:ByteArray):(encStr s)[0]? = some (.str s):=rfl
def KP (xs:List ByteArray) (v:ByteArray):Bool:=xs.any fun u=>v.toList == u.toList
theorem APE (G:Nat→AV) (xs:List ByteArray) (m:SM) (v:ByteArray) (h:Hp) (hl:xs.length≤1099511627776) :
  PCall (En G) 210 [.sl m 1 (xs.map encStr),.str v] h (.bool (KP xs v)):=by
 refine acN Tryz.func210 rfl ?_
 show awp _ _ _ _ _ (EH _ [.tmp 4] _)
 simp -implicitDefEqProofs only [BB,CJ,A8,A7,AZ,BA,AC,AQ,AO,BD,AX,AL,AU,BH,BM,BC,jB,jC,enX,enP]
 refine D8 (fun n F H => ∃ k,n+k=xs.length∧F 0 = .sl m 1 (xs.map encStr)∧F 1 = .str v∧F 5 = .int .i64 (k:Nat)∧H=h∧KP xs v=KP (xs.drop k) v) xs.length ⟨0,by simp,rfl,rfl,rfl,rfl,rfl⟩ ?_
 rintro n F H ⟨k,hk,f0,f1,f5,rfl,hin⟩
 simp -implicitDefEqProofs only [BB,A8,BJ,A7,AZ,BA,AC,AQ,AO,BD,AX,AL,AA,AY,BI,BR,FH,AB,DF,↓reduceIte,jA,jB,jC,enP,XR,f0,f1,f5,jM]
 refine CS (fun hc => ?_) (fun hc => ?_)
 ·have hc':k < xs.length:=by simpa using hc
  have hs:KP (xs.drop k) v=((v.toList == xs[k].toList) || KP (xs.drop (k+1)) v):=AAI _ xs k hc'
  simp -implicitDefEqProofs only [BB,CJ,A8,BQ,BJ,A7,AZ,BA,AC,AQ,AO,BD,AX,AL,AA,AY,BI,BN,BR,CU,AB,KW,↓reduceIte,jA,jB,jC,enP,AEO,f0,f1,f5,EJ hc',GR ag9 hc',AIR]
  refine CS (fun hb => ?_) (fun hb => ?_)
  ·simp -implicitDefEqProofs only [BB,A8,BK,A7,CQ,D5,FV,CW,AZ,BA,AC,AQ,AO,BD,AX,AL,AA,AU,BM,BC,↓reduceIte,jB,jC]
   refine ⟨?_,trivial⟩
   rw [hin,hs,show (v.toList == xs[k].toList)=true by rw [BEq.comm]; exact hb]; rfl
  ·simp -implicitDefEqProofs only [A8,BQ,A7,EO,FK,AZ,BA,AC,AQ,AO,BD,AX,AL,AA,AY,AU,BH,BI,BC,BR,AB,DZ,↓reduceIte,jA,jB,jC,enP,f5,wrap_succ (show k < 9223372036854775807 by omega)]
   refine ⟨n - 1,by omega,k+1,by omega,f0,f1,rfl,trivial,?_⟩
   rw [hin,hs,show (v.toList == xs[k].toList)=false by rw [BEq.comm]; exact hb]; rfl
 ·have hc' : ¬ k < xs.length:=by simpa using hc
  simp -implicitDefEqProofs only [BB,A8,BK,D6,A7,E5,FY,GG,CW,AZ,BA,AC,AQ,AO,BD,AX,AL,AA,AU,BM,BC,↓reduceIte,jB,jC]
  exact ⟨by rw [hin,List.drop_eq_nil_of_le (by omega)]; rfl,trivial⟩
theorem index_prog (G:Nat→AV) (xs:List ByteArray) (m:SM) (v:ByteArray) (h:Hp) (hl:xs.length≤1099511627776) :
  ∃ i:Int,(decide (i≥0)=KP xs v)∧PCall (En G) 209 [.sl m 1 (xs.map encStr),.str v] h (.int .i64 i):=by
 refine ⟨(match xs.findIdx? (fun u=>v.toList == u.toList) with | some i=>(i:Int) | none => -1),?_,?_⟩
 ·cases hx:xs.findIdx? (fun u=>v.toList == u.toList) with
  | some i =>
    obtain ⟨h1,h2,_⟩:=List.findIdx?_eq_some_iff_getElem.1 hx
    have:KP xs v=true:=List.any_eq_true.2 ⟨xs[i],by simp,h2⟩
    simp [this]
  | none =>
    have:KP xs v=false:=by
     rw [List.findIdx?_eq_none_iff] at hx
     unfold KP
     rw [List.any_eq_false]; intro x hx2; simp only [hx x hx2]; simp
    simp [this]
 refine acN Tryz.func209 rfl ?_
 show awp _ _ _ _ _ (EH _ [.tmp 4] _)
 simp -implicitDefEqProofs only [BB,CJ,A8,A7,AZ,BA,AC,AQ,AO,BD,AX,AL,AA,AY,AU,BH,BI,BC,FH,AB,BF,↓reduceIte,jA,jB,jC,enX,enP,XR,jM]
 refine D8 (fun n F H => ∃ k,n+k=xs.length∧F 0 = .sl m 1 (xs.map encStr)∧F 1 = .str v∧F 7 = .int .i64 xs.length∧F 8 = .int .i64 (k:Nat)∧H=h∧(xs.take k).all (fun u => !(v.toList == u.toList))=true) xs.length ⟨0,by simp,rfl,rfl,rfl,rfl,rfl,rfl⟩ ?_
 rintro n F H ⟨k,hk,f0,f1,f7,f8,rfl,hin⟩
 simp -implicitDefEqProofs only [BB,A8,BJ,A7,AZ,BA,AC,AQ,AO,BD,AX,AL,AA,AY,BR,AB,DF,↓reduceIte,jB,jC,enP,f0,f1,f7,f8,jM]
 refine CS (fun hc => ?_) (fun hc => ?_)
 ·have hc':k < xs.length:=by simpa using hc
  simp -implicitDefEqProofs only [BB,CJ,A8,BQ,BJ,A7,AZ,BA,AC,AQ,AO,BD,AX,AL,AA,AY,BI,BC,BN,BR,CU,AB,KW,↓reduceIte,jA,jB,jC,enP,AEO,f0,f1,f7,f8,EJ hc',GR ag9 hc',AIR]
  refine CS (fun hb => ?_) (fun hb => ?_)
  ·simp -implicitDefEqProofs only [BB,A8,BK,A7,CQ,D5,FV,CW,AZ,BA,AC,AQ,AO,BD,AX,AL,AA,AY,BI,BC,↓reduceIte,jA,jB,jC]
   refine ⟨?_,trivial⟩
   rw [List.findIdx?_eq_some_iff_getElem.2 ⟨hc',hb,fun j hj=>by
    rw [jZ] at hin
    have:=hin xs[j] (by rw [List.mem_take_iff_getElem]; exact ⟨j,by omega,rfl⟩)
    simpa using this⟩]
  ·simp -implicitDefEqProofs only [A8,BQ,A7,EO,FK,AZ,BA,AC,AQ,AO,BD,AX,AL,AA,AY,AU,BH,BI,BR,AB,DZ,↓reduceIte,jA,jB,jC,enP,f8,wrap_succ (show k < 9223372036854775807 by omega)]
   refine ⟨n - 1,by omega,k+1,by omega,f0,f1,f7,rfl,trivial,?_⟩
   rw [List.take_succ_eq_append_getElem hc',List.all_append,hin]
   simp only [List.all_cons,List.all_nil,hb]; rfl
 ·have hc' : ¬ k < xs.length:=by simpa using hc
  simp -implicitDefEqProofs only [BB,A8,BK,D6,A7,E5,FY,GG,CW,AZ,BA,AC,AQ,AO,BD,AX,AL,AA,AU,BH,BC,↓reduceIte,jB,jC]
  refine ⟨?_,trivial⟩
  rw [List.take_of_length_le (by omega)] at hin
  rw [List.findIdx?_eq_none_iff.2 (by
   intro x hx
   rw [jZ] at hin
   simpa using hin x hx)]
theorem AA1 (G:Nat→AV) (xs:List ByteArray) (m:SM) (v:ByteArray) (h:Hp) (hl:xs.length≤1099511627776) :
  PCall (En G) 195 [.sl m 1 (xs.map encStr),.str v] h (.bool (KP xs v)):=by
 obtain ⟨i,hi,hp⟩:=index_prog G xs m v h hl
 refine acN Tryz.func195 rfl ?_
 show awp _ _ _ _ _ (EH _ [.tmp 4] _)
 simp -implicitDefEqProofs only [BB,A8,A7,AZ,BA,AC,AQ,AO,BD,AX,AL,AA,AY,AU,BO,BM,BI,BC,BX,BP,BF,CE,jF,jD,jE,↓reduceIte,jA,jB,jC,enX,enP]
 refine hp.use ?_
 simp -implicitDefEqProofs only [BK,A7,CW,AZ,BA,AC,AQ,AO,BD,AX,AL,AA,AY,AU,BH,BC,BR,AB,FQ,↓reduceIte,jB,jC,enP]
 exact ⟨by rw [hi],trivial⟩
def kw:List ByteArray := [⟨#[99,108,97,115,115]⟩,⟨#[101,120,116,101,110,100,115]⟩,⟨#[114,97,110,100]⟩,⟨#[114,97,110,100,99]⟩,⟨#[115,116,97,116,101]⟩,⟨#[99,111,110,115,116,114,97,105,110,116]⟩,⟨#[115,111,102,116]⟩,⟨#[100,105,115,116]⟩,⟨#[105,102]⟩,⟨#[101,108,115,101]⟩,⟨#[101,97,99,104]⟩,⟨#[105,110]⟩,⟨#[115,111,108,118,101]⟩,⟨#[98,101,102,111,114,101]⟩,⟨#[105,110,115,105,100,101]⟩,⟨#[112,114,111,112,101,114,116,121]⟩,⟨#[115,101,113]⟩,⟨#[97,110,100]⟩,⟨#[111,114]⟩,⟨#[110,111,116]⟩,⟨#[115,101,116]⟩,⟨#[104,111,108,100]⟩,⟨#[112,108,97,105,110]⟩,⟨#[114,101,112,101,97,116]⟩]
theorem AL9:kw.length=24:=rfl
theorem ACG (G:Nat→AV) (h:Hp):PCall (En G) 211 [] h (.sl .full 1 (kw.map encStr)):=by
 refine acN Tryz.func211 rfl ?_
 show awp _ _ _ _ _ (EH _ [.tmp 0] _)
 simp -implicitDefEqProofs only [EU,EN,BB,A8,A7,AZ,BA,AC,AQ,AO,BD,AX,AL,AU,GN,LG,BC,F9,jB,jC,enX,enP]
 refine TP (v := .sl .full 1 (kw.map encStr)) (h:=h) (by kernel_rfl) ?_
 simp -implicitDefEqProofs only [BK,A7,CW,AZ,BA,AC,AQ,AO,BD,AX,AL,AA,AY,BC,↓reduceIte,jB,jC]
 exact ⟨trivial,trivial⟩
theorem AAY (G:Nat→AV) (v:ByteArray) (h:Hp):PCall (En G) 198 [.str v] h (.bool (KP kw v)):=by
 refine acN Tryz.func198 rfl ?_
 show awp _ _ _ _ _ (EH _ [.tmp 2] _)
 simp -implicitDefEqProofs only [BB,A8,A7,AZ,BA,AC,AQ,AO,BD,AX,AL,AU,BO,BM,BC,BX,BP,jD,jE,jB,jC,enX,enP]
 refine (ACG G h).use ?_
 simp -implicitDefEqProofs only [AZ,AC,AQ,AO,BD,AX,AL,AA,AY,BO,BI,BX,BP,BF,jF,jD,jE,↓reduceIte,jA,jB,jC]
 refine (APE G kw .full v h (by rw [AL9]; omega)).use ?_
 simp -implicitDefEqProofs only [BK,A7,CW,AZ,BA,AC,AQ,AO,BD,AX,AL,AA,AY,BC,↓reduceIte,jB,jC]
 exact ⟨trivial,trivial⟩
def KwG (G:Nat→AV):Prop := ∃ m,G 0 = .fptr 1 [[.sl m 1 (kw.map encStr)]] 0 0
theorem ZI (G:Nat→AV) (hG:KwG G) (v:ByteArray) (h:Hp):PCall (En G) 173 [.str v] h (.bool (KP kw v)):=by
 obtain ⟨m,hg⟩:=hG
 refine acN Tryz.func173 rfl ?_
 show awp _ _ _ _ _ (EH _ [.tmp 2] _)
 have e:DI Tryz.prog h 120 (G 0)=some (.sl m 1 (kw.map encStr)):=by rw [hg]; exact AL2 ABY rfl rfl
 have hl:kw.length≤1099511627776:=by rw [AL9]; omega
 simp -implicitDefEqProofs only [BB,A8,A7,AZ,BA,AC,AQ,AO,BD,AX,AL,AA,AY,AU,BO,APK,BM,BI,BC,BN,BX,BP,AB,BF,jF,jD,jE,↓reduceIte,jA,jB,jC,enX,enP,enG,e]
 refine (AA1 G kw m v h hl).use ?_
 simp -implicitDefEqProofs only [BK,A7,CW,AZ,BA,AC,AQ,AO,BD,AX,AL,AA,AY,BC,↓reduceIte,jB,jC]
 exact ⟨trivial,trivial⟩
def QG (s:ByteArray):Bool:=(match s.data.toList with | []=>false | b :: _=>PP b.toNat) && s.data.toList.all fun b=>LQ b.toNat
def G7 (s:ByteArray):Bool:=QG s && decide (s.size≤16) && !KP kw s
theorem WP {n:Int} (h:LQ n=true):n < 128:=by
 simp only [LQ,PP,AE8,Bool.or_eq_true,Bool.and_eq_true,decide_eq_true_eq,beq_iff_eq] at h
 omega
theorem AOG (h:Hp) (s:ByteArray):XG Tryz.prog h 9 (.str s)=some (.ptr h.length 0 0,h ++ [.iter s 0]):=by
 have:Tryz.prog.underlying 9=some .string:=by kernel_rfl
 simp [XG,this]
theorem AOV {h:Hp} {s:ByteArray} {pos:Nat} (hp:pos < s.size):X4 (h ++ [.iter s pos]) (.ptr h.length 0 0) true=some (.tup [.bool true,.int .i64 pos,.int .i32 (Utf8.decode s pos).1],h ++ [.iter s (pos+(Utf8.decode s pos).2)]):=by
 simp [X4,hp]
theorem ALZ {h:Hp} {s:ByteArray} {pos:Nat} (hp : ¬ pos < s.size):X4 (h ++ [.iter s pos]) (.ptr h.length 0 0) true=some (.tup [.bool false],h ++ [.iter s pos]):=by
 simp [X4,hp]
theorem QT {s:ByteArray} {k:Nat} (hk:k < s.size) (hb:LQ (s[k]'hk).toNat=false):QG s=false:=by
 unfold QG
 have:(s.data.toList.all fun b=>LQ b.toNat)=false:=by
  rw [List.all_eq_false]
  exact ⟨s[k],Array.getElem_mem_toList (xs:=s.data) hk,by simp [hb]⟩
 rw [this]; simp
theorem XN {s:ByteArray} (hk:0 < s.size) (hb:PP (s[0]'hk).toNat=false):QG s=false:=by
 unfold QG
 have:(match s.data.toList with | []=>false | b :: _=>PP b.toNat)=false:=by
  cases hl:s.data.toList with
  | nil=>rfl
  | cons b l =>
    have h0:s[0]'hk=b:=by
     have:s.data.toList[0]? = some b:=by rw [hl]; rfl
     have h2:s.data[0]? = some b:=by rw [← Array.getElem?_toList]; exact this
     have hk':0 < s.data.size:=hk
     rw [Array.getElem?_eq_getElem hk'] at h2
     exact Option.some.inj h2
    simp only
    rw [← h0]; exact hb
 rw [this]; simp
theorem ADN {s:ByteArray} (hk:0 < s.size) (hb:PP (s[0]'hk).toNat=true) (ha : ∀ i (hi:i < s.size),LQ (s[i]'hi).toNat=true):QG s=true:=by
 unfold QG
 have h1:(match s.data.toList with | []=>false | b :: _=>PP b.toNat)=true:=by
  cases hl:s.data.toList with
  | nil =>
    have:s.data.toList.length=0:=by rw [hl]; rfl
    have h2:s.data.size=0:=by simpa using this
    have h3:s.size=s.data.size:=rfl
    omega
  | cons b l =>
    have h0:s[0]'hk=b:=by
     have:s.data.toList[0]? = some b:=by rw [hl]; rfl
     have h2:s.data[0]? = some b:=by rw [← Array.getElem?_toList]; exact this
     have hk':0 < s.data.size:=hk
     rw [Array.getElem?_eq_getElem hk'] at h2
     exact Option.some.inj h2
    simp only
    rw [← h0]; exact hb
 rw [h1,Bool.true_and,jZ]
 intro b hbm
 obtain ⟨i,hi,rfl⟩:=List.getElem_of_mem hbm
 have hi':i < s.size:=by simpa using hi
 exact ha i hi'
theorem AI8 (G:Nat→AV) (s:ByteArray) (h:Hp) (hl:s.size≤1099511627776):PCall (En G) 172 [.str s] h (.bool (QG s)):=by
 refine ACalls.pure0 rfl ?_
 refine acN Tryz.func172 rfl ?_
 show awp _ _ _ _ _ (EH _ [.tmp 2] _)
 simp -implicitDefEqProofs only [BB,CJ,A8,A7,AZ,BA,AC,AQ,AO,BD,AX,AL,AA,AY,AU,BM,BI,BC,AN4,BV,BF,↓reduceIte,jA,jB,jC,enP,AOG]
 refine D8 (fun n F H => ∃ k,n+k=s.size∧F 0 = .str s∧F 6 = .ptr h.length 0 0∧H=h ++ [.iter s k]∧(∀ i (hi:i < s.size),i < k→LQ (s[i]'hi).toNat=true)∧(∀ hp:0 < s.size,0 < k→PP (s[0]'hp).toNat=true)) s.size ⟨0,by simp,rfl,by simp -implicitDefEqProofs only [AA,↓reduceIte],rfl,fun _ _ h=>absurd h (by omega),fun _ h=>absurd h (by omega)⟩ ?_
 rintro n F H ⟨k,hk,f0,f6,rfl,hall,h0⟩
 rcases Classical.em (k < s.size) with hp | hp
 ·have go : ∀ (r:Nat × Nat),Utf8.decode s k=r→(LQ r.1=true→r=((s[k]'hp).toNat,1)∧LQ (s[k]'hp).toNat=true)∧(LQ r.1=false→QG s=false)∧(PP r.1=false→k=0→QG s=false)∧(PP r.1=true→LQ r.1=true):=by
   rintro r rfl
   have lf : ∀ n,PP n=true→LQ n=true:=fun n hn=>by unfold LQ; rw [hn]; rfl
   rcases jT (s[k]'hp).toNat 128 with ha | ha
   ·have hd:=decode_ascii s k hp ha
    rw [hd]
    exact ⟨fun hf=>⟨rfl,hf⟩,fun hf=>QT hp hf,fun hf h0=>by subst h0; exact XN hp hf,lf _⟩
   ·have hd:=(decode_high s k hp ha).1
    refine ⟨fun hf => ?_,fun _ => ?_,fun _ h0 => ?_,lf _⟩
    ·have:=WP hf; omega
    ·refine QT hp ?_
     cases hf:LQ (s[k]'hp).toNat with
     | false=>rfl
     | true=>have:=WP hf; omega
    ·refine QT hp ?_
     cases hf:LQ (s[k]'hp).toNat with
     | false=>rfl
     | true=>have:=WP hf; omega
  simp -implicitDefEqProofs only [zG,List.getElem?_cons_succ,BB,CJ,A8,BQ,BJ,A7,DY,AZ,BA,BL,BU,CO,AC,AQ,AO,BD,AX,AL,AA,AY,AU,BH,BI,BC,BR,AK0,H7,JO,BV,AB,DW,↓reduceIte,jA,jB,jC,enP,f0,f6,AOV hp]
  generalize hr:Utf8.decode s k=r at go
  obtain ⟨g1,g2,g3,g4⟩:=go r rfl
  have done : ∀ H',LQ r.1=true→(k=0→PP r.1=true)→H'=h ++ [ABlk.iter s (k+r.2)]→∃ m,m < n∧∃ k',m+k'=s.size∧H'=h ++ [.iter s k']∧(∀ i (hi:i < s.size),i < k'→LQ (s[i]'hi).toNat=true)∧(∀ hp:0 < s.size,0 < k'→PP (s[0]'hp).toNat=true):=by
   intro H' hf hlw hH
   obtain ⟨e1,e2⟩:=g1 hf
   refine ⟨n - 1,by omega,k+1,by omega,by rw [hH,e1],fun i hi hik => ?_,fun hp0 _ => ?_⟩
   ·rcases jT i k with h' | h'
    ·exact hall i hi h'
    ·have:i=k:=by omega
     subst this; exact e2
   ·rcases zW k with h' | h'
    ·subst h'; have:=hlw rfl; rw [e1] at this; exact this
    ·exact h0 hp0 h'
  refine IK (fun ha => ?_) (fun ha => ?_)
  ·have hk0:k=0:=by simp at ha; omega
   simp -implicitDefEqProofs only [BL,BU,CO,GH,AC,AQ,AO,BD,AX,AL,AA,AY,BO,BI,BX,BP,jF,jD,jE,↓reduceIte,jA,jB,jC,ha]
   refine (ZC G _ _).use ?_
   simp -implicitDefEqProofs only [AZ,BL,BU,CO,GH,AC,AQ,AO,BD,AX,AL,AA,AY,AU,BM,BI,CP,DL,I5,AB,FP,↓reduceIte,jA,jB,jC]
   refine IK (fun hb => ?_) (fun hb => ?_)
   ·simp -implicitDefEqProofs only [BB,A8,BK,BJ,A7,CQ,D5,FV,CW,DY,AZ,BA,BL,BU,CO,F6,AC,AQ,AO,BD,AX,AL,AA,EG,AY,AU,BM,BC,CP,DL,↓reduceIte,jA,jB,jC,hb]
    have hlw:PP r.1=false:=by simpa using hb
    exact ⟨by rw [g3 hlw hk0],_,rfl⟩
   have hlw:PP r.1=true:=by simpa using hb
   simp -implicitDefEqProofs only [BL,BU,CO,EQ,AC,AQ,AO,BD,AX,AL,AA,AY,BO,BI,BX,BP,jF,jD,jE,↓reduceIte,jA,jB,jC,hb]
   refine (VY G _ _).use ?_
   simp -implicitDefEqProofs only [BJ,A7,AZ,BA,BL,BU,CO,EQ,AC,AQ,AO,BD,AX,AL,AA,AY,AU,BM,CP,DN,I5,AB,FP,↓reduceIte,jA,jB,jC]
   have hf:=g4 hlw
   simp -implicitDefEqProofs only [BQ,EO,FK,EC,AA,↓reduceIte,jA,Bool.not_true,hf]
   obtain ⟨m,h1,k',h2,h3,h4,h5⟩:=done _ hf (fun _=>hlw) rfl
   exact ⟨m,h1,k',h2,f0,f6,h3,h4,h5⟩
  ·have hk0:k≠0:=by intro e; subst e; simp at ha
   simp -implicitDefEqProofs only [AZ,BL,BU,CO,EQ,I4,AC,AQ,AO,BD,AX,AL,AA,EG,AY,AU,BO,BM,BI,CP,DN,BX,BP,jF,jD,jE,↓reduceIte,jA,jB,jC,ha]
   refine (VY G _ _).use ?_
   simp -implicitDefEqProofs only [BJ,A7,AZ,BA,BL,BU,CO,EQ,AC,AQ,AO,BD,AX,AL,AA,AY,AU,BM,CP,DN,I5,AB,FP,↓reduceIte,jA,jB,jC]
   refine CS (fun hb => ?_) (fun hb => ?_)
   ·have hf:LQ r.1=false:=by simpa using hb
    simp -implicitDefEqProofs only [BB,A8,BK,A7,CQ,D5,FV,CW,AZ,BA,AC,AQ,AO,BD,AX,AL,AA,AU,BM,BC,↓reduceIte,jB,jC]
    exact ⟨by rw [g2 hf],_,rfl⟩
   ·have hf:LQ r.1=true:=by simpa using hb
    simp -implicitDefEqProofs only [BQ,EO,FK,AA,↓reduceIte,jA]
    obtain ⟨m,h1,k',h2,h3,h4,h5⟩:=done _ hf (fun e=>absurd e hk0) rfl
    exact ⟨m,h1,k',h2,f0,f6,h3,h4,h5⟩
 ·simp -implicitDefEqProofs only [zG,BB,A8,BK,D6,BJ,A7,E5,FY,GG,CW,EC,AZ,BA,AC,AQ,AO,BD,AX,AL,AA,AY,AU,GN,BI,BC,BR,AK0,H7,JO,BV,AB,AAD,↓reduceIte,jA,jB,jC,enP,f0,f6,ALZ hp]
  have hks:k=s.size:=by omega
  refine ⟨?_,_,rfl⟩
  congr 1
  rcases zW s.size with hz | hz
  ·have:s=⟨#[]⟩:=by
    obtain ⟨d⟩:=s
    have:d.size=0:=hz
    rw [Array.eq_empty_of_size_eq_zero this]
   subst this
   rw [ByteArray.toList_eq]
   rfl
  ·rw [ADN hz (h0 hz (by omega)) (fun i hi=>hall i hi (by omega))]
   have hne:s.toList≠[]:=by
    rw [ByteArray.toList_eq]
    intro e
    have:s.data.toList.length=0:=by rw [e]; rfl
    have h2:s.data.size=0:=by simpa using this
    have h3:s.size=s.data.size:=rfl
    omega
   cases hl2:s.toList with
   | nil=>exact absurd hl2 hne
   | cons=>rw [ByteArray.toList_eq]; rfl
theorem NV (G:Nat→AV) (hG:KwG G) (s:ByteArray) (h:Hp) (hl:s.size≤1099511627776):PCall (En G) 133 [.str s] h (.bool (G7 s)):=by
 refine acN Tryz.func133 rfl ?_
 show awp _ _ _ _ _ (EH _ [.tmp 2] _)
 simp -implicitDefEqProofs only [BB,A8,A7,AZ,BA,AC,AQ,AO,BD,AX,AL,AA,AY,AU,BO,BM,BI,BC,BX,BP,BF,jF,jD,jE,↓reduceIte,jA,jB,jC,enX,enP]
 refine (AI8 G s h hl).use ?_
 simp -implicitDefEqProofs only [AZ,BL,BU,CO,AC,AQ,AO,BD,AX,AL,AA,AY,BI,↓reduceIte,jB,jC]
 refine IK (fun ha => ?_) (fun ha => ?_)
 ·simp -implicitDefEqProofs only [AZ,BL,BU,CO,GH,AC,AQ,AO,BD,AX,AL,AA,AY,AU,BH,BM,BI,CP,DL,BR,FH,AB,KH,BF,↓reduceIte,jA,jB,jC,enP,ln9,ha]
  refine IK (fun hb => ?_) (fun hb => ?_)
  ·simp -implicitDefEqProofs only [BL,BU,CO,GH,AC,AQ,AO,BD,AX,AL,AA,AY,BO,BI,BX,BP,BF,jF,jD,jE,↓reduceIte,jA,jB,jC,hb]
   refine (ZI G hG s h).use ?_
   simp -implicitDefEqProofs only [BK,A7,CW,AZ,BA,BL,BU,CO,GH,AC,AQ,AO,BD,AX,AL,AA,AY,AU,BM,BC,CP,DL,I5,AB,FP,↓reduceIte,jA,jB,jC]
   refine ⟨?_,trivial⟩
   have:decide (s.size≤16)=true:=by simp at hb ⊢; omega
   unfold G7; rw [ha,this]; rfl
  ·simp -implicitDefEqProofs only [BK,A7,CW,AZ,BA,BL,BU,CO,I4,AC,AQ,AO,BD,AX,AL,AA,EG,AY,AU,BM,BC,CP,DN,↓reduceIte,jA,jB,jC,hb]
   refine ⟨?_,trivial⟩
   have:decide (s.size≤16)=false:=by simp at hb ⊢; omega
   unfold G7; rw [ha,this]; rfl
 ·simp -implicitDefEqProofs only [BK,A7,CW,AZ,BA,BL,BU,CO,I4,AC,AQ,AO,BD,AX,AL,AA,EG,AY,AU,BM,BI,BC,CP,DN,↓reduceIte,jA,jB,jC,ha]
  exact ⟨by unfold G7; rw [ha]; rfl,trivial⟩
theorem ix9 (s:ByteArray) (k:Nat) (kk:IntKind) (hk:k < s.size):KF Tryz.prog 9 (.str s) (.int kk (k:Int))=some (.int .u8 (s[k]'hk).toNat):=by
 have hu:Tryz.prog.underlying 9=some .string:=by kernel_rfl
 have h0:(0:Int)≤(k:Int):=by omega
 have:s[k]? = some (s[k]'hk):=by simp [hk]
 simp [KF,hu,h0,this]
theorem O3 (G:Nat→AV) (s:ByteArray) (h:Hp):PCall (En G) 168 [.str s] h (.bool (G7 s)):=by
 refine acN Tryz.func168 rfl ?_
 show awp _ _ _ _ _ (EH _ [.tmp 2] _)
 simp -implicitDefEqProofs only [BB,A8,A7,AZ,BA,BL,BU,CO,AC,AQ,AO,BD,AX,AL,AA,AY,AU,BM,GN,BI,BC,BR,AB,KW,BF,↓reduceIte,jA,jB,jC,enX,enP]
 refine IK (fun ha => ?_) (fun ha => ?_)
 ·simp -implicitDefEqProofs only [BB,A8,BK,BJ,A7,CQ,CW,DY,AZ,BA,BL,BU,CO,F6,AC,AQ,AO,BD,AX,AL,AA,EG,AY,AU,BM,BI,BC,CP,DL,↓reduceIte,jA,jB,jC,ha]
  refine ⟨?_,trivial⟩
  have:s.data.toList = []:=by
   rw [ByteArray.toList_eq,ByteArray.toList_eq] at ha
   have:=beq_iff_eq.1 ha
   exact this
  unfold G7 QG; rw [this]; rfl
 have hz:0 < s.size:=by
  rcases zW s.size with hz | hz
  ·have:s=⟨#[]⟩:=by
    obtain ⟨d⟩:=s
    have:d.size=0:=hz
    rw [Array.eq_empty_of_size_eq_zero this]
   rw [this] at ha
   simp at ha
  ·exact hz
 simp -implicitDefEqProofs only [AZ,BL,BU,CO,EQ,AC,AQ,AO,BD,AX,AL,AA,AY,AU,BH,BM,BI,CP,DN,BR,FH,AB,E8,BF,↓reduceIte,jA,jB,jC,enP,ln9,ha]
 refine IK (fun hb => ?_) (fun hb => ?_)
 ·simp -implicitDefEqProofs only [BB,A8,BK,BJ,A7,CQ,CW,DY,AZ,BA,BL,BU,CO,F6,AC,AQ,AO,BD,AX,AL,AA,EG,AY,AU,BM,BI,BC,CP,DL,↓reduceIte,jA,jB,jC,hb]
  refine ⟨?_,trivial⟩
  have:decide (s.size≤16)=false:=by simp at hb ⊢; omega
  unfold G7; rw [this]; simp
 have h16:decide (s.size≤16)=true:=by simp at hb ⊢; omega
 simp -implicitDefEqProofs only [BL,BU,CO,EQ,AC,AQ,AO,BD,AX,AL,AA,AY,AU,BH,BI,J5,BF,↓reduceIte,jA,jB,jC,enP,hb]
 refine TP (v := .int .u8 (s[0]'hz).toNat) (h:=h) (by rw [show (0:Int)=((0:Nat):Int) from rfl,ix9 s 0 .i64 hz]; rfl) ?_
 simp -implicitDefEqProofs only [BL,BU,CO,EQ,AC,AQ,AO,BD,AX,AL,AA,AY,BO,BX,BP,jF,jD,jE,↓reduceIte,jA,jB,jC]
 refine (AA8 G _ h).use ?_
 simp -implicitDefEqProofs only [AZ,BL,BU,CO,EQ,AC,AQ,AO,BD,AX,AL,AA,AY,AU,BM,BI,CP,DN,I5,AB,FP,↓reduceIte,jA,jB,jC]
 refine IK (fun hc => ?_) (fun hc => ?_)
 ·simp -implicitDefEqProofs only [BB,A8,BK,BJ,A7,CQ,CW,DY,AZ,BA,BL,BU,CO,F6,AC,AQ,AO,BD,AX,AL,AA,EG,AY,AU,BM,BC,CP,DL,↓reduceIte,jA,jB,jC,hc]
  refine ⟨?_,trivial⟩
  unfold G7; rw [XN hz (by simpa using hc)]; rfl
 simp -implicitDefEqProofs only [BL,BU,CO,EQ,AC,AQ,AO,BD,AX,AL,AA,AY,BO,BI,BX,BP,BF,jF,jD,jE,↓reduceIte,jA,jB,jC,hc]
 refine (AAY G s h).use ?_
 simp -implicitDefEqProofs only [BJ,A7,AZ,BA,AC,AQ,AO,BD,AX,AL,AA,AY,AU,BM,CP,DN,↓reduceIte,jA,jB,jC]
 refine CS (fun hd => ?_) (fun hd => ?_)
 ·simp -implicitDefEqProofs only [BB,A8,BK,A7,CQ,CW,AZ,BA,AC,AQ,AO,BD,AX,AL,AA,AU,BM,BC,↓reduceIte,jB,jC]
  refine ⟨?_,trivial⟩
  unfold G7; rw [hd]; simp
 simp -implicitDefEqProofs only [BB,CJ,A8,BQ,A7,AZ,BA,AC,AQ,AO,BD,AX,AL,AU,BH,BC,jB,jC]
 have hlow:PP (s[0]'hz).toNat=true:=by simpa using hc
 refine D8 (fun n F H => ∃ k,n+k=s.size∧F 0 = .str s∧F 3 = .int .i64 (k:Nat)∧H=h∧(∀ i (hi:i < s.size),i < k→LQ (s[i]'hi).toNat=true)) s.size ⟨0,by simp,by simp -implicitDefEqProofs only [AA,BF,↓reduceIte,jA],by simp -implicitDefEqProofs only [AA,↓reduceIte]; rfl,rfl,fun _ _ h=>absurd h (by omega)⟩ ?_
 rintro n F H ⟨k,hk,f0,f3,rfl,hall⟩
 simp -implicitDefEqProofs only [BB,A8,BJ,A7,AZ,BA,AC,AQ,AO,BD,AX,AL,AA,AY,BI,BR,FH,AB,DF,↓reduceIte,jA,jB,jC,enP,ln9,f0,f3]
 refine CS (fun he => ?_) (fun he => ?_)
 ·have hk':k < s.size:=by simpa using he
  simp -implicitDefEqProofs only [BB,CJ,A8,BQ,A7,AZ,AC,AQ,AO,BD,AX,AL,AA,AY,BO,BI,J5,BX,BP,AB,jF,jD,jE,↓reduceIte,jA,jB,jC,enP,f0,f3,ix9 s k .i64 hk']
  refine (AJ4 G _ _).use ?_
  simp -implicitDefEqProofs only [BJ,A7,AZ,BA,AC,AQ,AO,BD,AX,AL,AA,AY,I5,AB,FP,↓reduceIte,jB,jC]
  refine CS (fun hf => ?_) (fun hf => ?_)
  ·simp -implicitDefEqProofs only [BB,A8,BK,A7,CQ,D5,FV,CW,AZ,BA,AC,AQ,AO,BD,AX,AL,AA,AU,BM,BC,↓reduceIte,jB,jC]
   refine ⟨?_,trivial⟩
   unfold G7; rw [QT hk' (by simpa using hf)]; rfl
  ·simp -implicitDefEqProofs only [A8,BQ,A7,EO,FK,AZ,BA,AC,AQ,AO,BD,AX,AL,AA,AY,AU,BH,BI,BC,BR,AB,DZ,↓reduceIte,jA,jB,jC,enP,f3,wrap_succ (show k < 9223372036854775807 by simp at h16; omega)]
   refine ⟨n - 1,by omega,k+1,by omega,f0,rfl,trivial,fun i hi hik => ?_⟩
   rcases jT i k with h' | h'
   ·exact hall i hi h'
   ·have:i=k:=by omega
    subst this; simpa using hf
 ·have hk' : ¬ k < s.size:=by simpa using he
  simp -implicitDefEqProofs only [BB,A8,BK,D6,A7,E5,FY,GG,CW,AZ,BA,AC,AQ,AO,BD,AX,AL,AA,AU,BM,BC,↓reduceIte,jB,jC]
  refine ⟨?_,trivial⟩
  unfold G7
  rw [ADN hz hlow (fun i hi=>hall i hi (by omega)),h16,hd]; rfl
end Go.Proofs.YtokehnfjjmpanaaGreatDoor.Bins
namespace Go.Proofs.YtokehnfjjmpanaaGreatDoor.Cov
open Sm Bins
open Bool renaming not_false→jC
open List renaming take_of_length_le→jY
open Nat renaming le_refl→jL,le_of_ble_eq_true→jH,reduceEqDiff→jA,add_zero→jI
open Option renaming getD_some→jB
inductive Ex where
 | mk (op n:Int) (name:ByteArray) (m:SM) (args:List Ex)
def Ex.op:Ex→Int | .mk op _ _ _ _=>op
def Ex.n:Ex→Int | .mk _ n _ _ _=>n
def Ex.name:Ex→ByteArray | .mk _ _ name _ _=>name
def Ex.m:Ex→SM | .mk _ _ _ m _=>m
def Ex.args:Ex→List Ex | .mk _ _ _ _ args=>args
mutual
def CV:Ex→List AV
 | .mk op n name m args => [.int .i64 op,.int .i64 n,.str name,.sl m 4 (AE4 args)]
def AE4:List Ex→List (List AV)
 | [] => []
 | e :: es=>CV e :: AE4 es
end
theorem ABN : ∀ l:List Ex,AE4 l=l.map CV
 | []=>by simp [AE4]
 | e :: es=>by simp [AE4,ABN es]
theorem LY (e:Ex):CV e = [.int .i64 e.op,.int .i64 e.n,.str e.name,.sl e.m 4 (e.args.map CV)]:=by
 cases e; simp [CV,ABN,Ex.op,Ex.n,Ex.name,Ex.m,Ex.args]
theorem ER (e:Ex):(CV e).length=4:=by rw [LY]; rfl
theorem I8 (e:Ex):(CV e)[0]? = some (.int .i64 e.op):=by rw [LY]; rfl
theorem XU (e:Ex):(CV e)[1]? = some (.int .i64 e.n):=by rw [LY]; rfl
theorem OH (e:Ex):(CV e)[2]? = some (.str e.name):=by rw [LY]; rfl
theorem RH (e:Ex):(CV e)[3]? = some (.sl e.m 4 (e.args.map CV)):=by rw [LY]; rfl
theorem KZ (e:Ex):(CV e).all AV.leaf=true:=by rw [LY]; rfl
theorem bxE (h:Hp) (e:Ex):OE h (.agg (CV e))=some (.ptr h.length 0 0,h ++ [.live 4 [CV e]]):=by
 have:=AI0 (h:=h) (KZ e)
 rw [ER] at this; exact this
theorem ldE (h:Hp) (e:Ex):DI Tryz.prog (h ++ [.live 4 [CV e]]) 40 (.ptr h.length 0 0)=some (.agg (CV e)):=by
 rw [AJZ MC JU (by rw [ER]; exact jL 4)]
 rw [List.drop_zero,jY (by rw [ER]; exact jL 4)]
theorem IU {h:Hp} {b:Nat} {e:Ex} (hb:h[b]? = some (.live 4 [CV e])):DI Tryz.prog h 40 (.ptr b 0 0)=some (.agg (CV e)):=by
 rw [GV MC JU hb rfl (by rw [ER]; exact jL 4)]
 rw [List.drop_zero,jY (by rw [ER]; exact jL 4)]
mutual
def pre:Ex→List Ex
 | .mk op n name m args => .mk op n name m args :: IG args
def IG:List Ex→List Ex
 | [] => []
 | e :: es=>pre e ++ IG es
end
mutual
def dep:Ex→Nat
 | .mk _ _ _ _ args=>deps args+1
def deps:List Ex→Nat
 | []=>0
 | e :: es=>max (dep e) (deps es)
end
mutual
def wt:Ex→Nat
 | .mk _ _ name _ args=>name.size+1+wts args
def wts:List Ex→Nat
 | []=>0
 | e :: es=>wt e+wts es
end
theorem pre_eq (e:Ex):pre e=e :: IG e.args:=by cases e; simp [pre,Ex.args]
theorem AC1 (e:Ex):dep e=deps e.args+1:=by cases e; simp [dep,Ex.args]
theorem OG (e:Ex):wt e=e.name.size+1+wts e.args:=by cases e; simp [wt,Ex.args,Ex.name]
theorem MH (xs ys:List Ex):IG (xs ++ ys)=IG xs ++ IG ys:=by
 induction xs with
 | nil=>simp [IG]
 | cons x xs ih=>simp [IG,ih]
theorem VH (xs:List Ex):xs.length≤wts xs:=by
 induction xs with
 | nil=>simp [wts]
 | cons x xs ih=>have:=OG x; simp [wts]; omega
theorem TD {xs:List Ex} {x:Ex} (h:x∈xs):wt x≤wts xs:=by
 induction xs with
 | nil=>cases h
 | cons y ys ih =>
   simp only [wts]
   cases List.mem_cons.1 h with
   | inl e=>subst e; omega
   | inr e=>have:=ih e; omega
theorem ABQ (xs:List Ex) (k:Nat) (h:k < xs.length):deps (xs.take (k+1))=max (deps (xs.take k)) (dep xs[k]):=by
 induction xs generalizing k with
 | nil=>simp at h
 | cons x xs ih =>
   cases k with
   | zero=>simp [deps]
   | succ k =>
     simp only [List.take_succ_cons,deps,List.getElem_cons_succ]
     rw [ih k (by simpa using h),Nat.max_assoc]
theorem Ex.induct {P:Ex→Prop} (h : ∀ e:Ex,(∀ a∈e.args,P a)→P e) (e:Ex):P e:=by
 have : ∀ n (e:Ex),wt e≤n→P e:=by
  intro n
  induction n with
  | zero=>intro e he; have:=OG e; omega
  | succ n ih =>
    intro e he
    refine h e fun a ha=>ih a ?_
    have h1:=TD ha
    have h2:=OG e
    omega
 exact this _ e (jL _)
theorem AM5 (e:Ex):dep e≤wt e:=by
 refine Ex.induct (P:=fun e=>dep e≤wt e) (fun e ih => ?_) e
 rw [AC1,OG]
 have:deps e.args≤wts e.args:=by
  generalize e.args=l at ih
  induction l with
  | nil=>simp [deps,wts]
  | cons x l ih2 =>
    have h1:=ih x (by simp)
    have h2:=ih2 (fun a ha=>ih a (by simp [ha]))
    simp only [deps,wts]; omega
 omega
theorem U0 (e:Ex):(pre e).length≤wt e:=by
 refine Ex.induct (P:=fun e=>(pre e).length≤wt e) (fun e ih => ?_) e
 rw [pre_eq,OG]
 have:(IG e.args).length≤wts e.args:=by
  generalize e.args=l at ih
  induction l with
  | nil=>simp [IG,wts]
  | cons x l ih2 =>
    have h1:=ih x (by simp)
    have h2:=ih2 (fun a ha=>ih a (by simp [ha]))
    simp only [IG,wts,List.length_append]; omega
 simp; omega
def arity (op:Int):Int:=if op < 1∨op > 25 then -1 else if op=1∨op=2∨op=24 then 0 else if op=3∨op=4∨op=5∨op=6∨op=25 then 1 else if op=22 then 3 else if op=23 then -1 else 2
set_option maxHeartbeats 2000000 in
theorem AHK (G:Nat→AV) (op:Int) (h:Hp):PCall (En G) 170 [.int .i64 op] h (.int .i64 (arity op)):=by
 refine acN Tryz.func170 rfl ?_
 show awp _ _ _ _ _ (EH _ [.tmp 2] _)
 have hcase:op < 1∨op > 25∨op=1∨op=2∨op=3∨op=4∨op=5∨op=6∨op=7∨op=8∨op=9∨op=10∨op=11∨op=12∨op=13∨op=14∨op=15∨op=16∨op=17∨op=18∨op=19∨op=20∨op=21∨op=22∨op=23∨op=24∨op=25:=by omega
 rcases hcase with h | h | rfl | rfl | rfl | rfl | rfl | rfl | rfl | rfl | rfl | rfl | rfl | rfl | rfl | rfl | rfl | rfl | rfl | rfl | rfl | rfl | rfl | rfl | rfl | rfl | rfl
 ·have hne : ∀ k:Int,1≤k→(op == k)=false:=fun k hk=>beq_eq_false_iff_ne.2 (by omega)
  have hd:decide (op < 1)=true:=by simp; omega
  have ha:arity op = -1:=by unfold arity; rw [if_pos (Or.inl h)]
  rw [ha]
  simp -implicitDefEqProofs only [BB,CJ,A8,BQ,BK,BJ,A7,CQ,EO,CW,DY,EC,AZ,BA,BL,BU,CO,F6,AC,AQ,AO,BD,AX,AL,AA,EG,AY,AU,BH,BM,BI,BC,CP,DL,BR,AB,DW,DF,BF,↓reduceIte,jA,jB,jC,enX,enP,hne 1 (by decide),hne 2 (by decide),hne 3 (by decide),hne 4 (by decide),hne 5 (by decide),hne 6 (by decide),hne 7 (by decide),hne 8 (by decide),hne 9 (by decide),hne 10 (by decide),hne 11 (by decide),hne 12 (by decide),hne 13 (by decide),hne 14 (by decide),hne 15 (by decide),hne 16 (by decide),hne 17 (by decide),hne 18 (by decide),hne 19 (by decide),hne 20 (by decide),hne 21 (by decide),hne 22 (by decide),hne 23 (by decide),hne 24 (by decide),hne 25 (by decide),hd]
  exact ⟨trivial,trivial⟩
 ·have hne : ∀ k:Int,k≤25→(op == k)=false:=fun k hk=>beq_eq_false_iff_ne.2 (by omega)
  have hd:decide (op < 1)=false:=by simp; omega
  have hd2:decide (op > 25)=true:=by simp; omega
  have ha:arity op = -1:=by unfold arity; rw [if_pos (Or.inr h)]
  rw [ha]
  simp -implicitDefEqProofs only [BB,CJ,A8,BQ,BK,BJ,A7,CQ,EO,CW,DY,EC,AZ,BA,BL,BU,CO,EQ,AC,AQ,AO,BD,AX,AL,AA,AY,AU,BH,BM,BI,BC,CP,DN,BR,AB,DW,DF,E8,BF,↓reduceIte,jA,jB,jC,enX,enP,hne 1 (by decide),hne 2 (by decide),hne 3 (by decide),hne 4 (by decide),hne 5 (by decide),hne 6 (by decide),hne 7 (by decide),hne 8 (by decide),hne 9 (by decide),hne 10 (by decide),hne 11 (by decide),hne 12 (by decide),hne 13 (by decide),hne 14 (by decide),hne 15 (by decide),hne 16 (by decide),hne 17 (by decide),hne 18 (by decide),hne 19 (by decide),hne 20 (by decide),hne 21 (by decide),hne 22 (by decide),hne 23 (by decide),hne 24 (by decide),hne 25 (by decide),hd,hd2]
  exact ⟨trivial,trivial⟩
 all_goals
  simp -implicitDefEqProofs only [BB,CJ,A8,BQ,BK,BJ,A7,CQ,EO,D5,CW,DY,EC,AZ,BA,BL,BU,CO,EQ,AC,AQ,AO,BD,AX,AL,AA,AY,AU,BH,BM,BI,BC,CP,DN,BR,AB,DW,DF,E8,BF,↓reduceIte,jA,jB,jC,decide_false,enX,enP,Int.reduceBEq,Int.reduceLT,Int.reduceGT]
  exact ⟨rfl,trivial⟩
set_option maxHeartbeats 2000000 in
theorem AKP (G:Nat→AV) (op:Int) (h:Hp):PCall (En G) 203 [.int .i64 op] h (.int .i64 (arity op)):=by
 refine acN Tryz.func203 rfl ?_
 show awp _ _ _ _ _ (EH _ [.tmp 2] _)
 have hcase:op < 1∨op > 25∨op=1∨op=2∨op=3∨op=4∨op=5∨op=6∨op=7∨op=8∨op=9∨op=10∨op=11∨op=12∨op=13∨op=14∨op=15∨op=16∨op=17∨op=18∨op=19∨op=20∨op=21∨op=22∨op=23∨op=24∨op=25:=by omega
 rcases hcase with h | h | rfl | rfl | rfl | rfl | rfl | rfl | rfl | rfl | rfl | rfl | rfl | rfl | rfl | rfl | rfl | rfl | rfl | rfl | rfl | rfl | rfl | rfl | rfl | rfl | rfl
 ·have hne : ∀ k:Int,1≤k→(op == k)=false:=fun k hk=>beq_eq_false_iff_ne.2 (by omega)
  have hd:decide (op < 1)=true:=by simp; omega
  have ha:arity op = -1:=by unfold arity; rw [if_pos (Or.inl h)]
  rw [ha]
  simp -implicitDefEqProofs only [BB,CJ,A8,BQ,BK,BJ,A7,CQ,EO,CW,DY,EC,AZ,BA,BL,BU,CO,F6,AC,AQ,AO,BD,AX,AL,AA,EG,AY,AU,BH,BM,BI,BC,CP,DL,BR,AB,DW,DF,BF,↓reduceIte,jA,jB,jC,enX,enP,hne 1 (by decide),hne 2 (by decide),hne 3 (by decide),hne 4 (by decide),hne 5 (by decide),hne 6 (by decide),hne 7 (by decide),hne 8 (by decide),hne 9 (by decide),hne 10 (by decide),hne 11 (by decide),hne 12 (by decide),hne 13 (by decide),hne 14 (by decide),hne 15 (by decide),hne 16 (by decide),hne 17 (by decide),hne 18 (by decide),hne 19 (by decide),hne 20 (by decide),hne 21 (by decide),hne 22 (by decide),hne 23 (by decide),hne 24 (by decide),hne 25 (by decide),hd]
  exact ⟨trivial,trivial⟩
 ·have hne : ∀ k:Int,k≤25→(op == k)=false:=fun k hk=>beq_eq_false_iff_ne.2 (by omega)
  have hd:decide (op < 1)=false:=by simp; omega
  have hd2:decide (op > 25)=true:=by simp; omega
  have ha:arity op = -1:=by unfold arity; rw [if_pos (Or.inr h)]
  rw [ha]
  simp -implicitDefEqProofs only [BB,CJ,A8,BQ,BK,BJ,A7,CQ,EO,CW,DY,EC,AZ,BA,BL,BU,CO,EQ,AC,AQ,AO,BD,AX,AL,AA,AY,AU,BH,BM,BI,BC,CP,DN,BR,AB,DW,DF,E8,BF,↓reduceIte,jA,jB,jC,enX,enP,hne 1 (by decide),hne 2 (by decide),hne 3 (by decide),hne 4 (by decide),hne 5 (by decide),hne 6 (by decide),hne 7 (by decide),hne 8 (by decide),hne 9 (by decide),hne 10 (by decide),hne 11 (by decide),hne 12 (by decide),hne 13 (by decide),hne 14 (by decide),hne 15 (by decide),hne 16 (by decide),hne 17 (by decide),hne 18 (by decide),hne 19 (by decide),hne 20 (by decide),hne 21 (by decide),hne 22 (by decide),hne 23 (by decide),hne 24 (by decide),hne 25 (by decide),hd,hd2]
  exact ⟨trivial,trivial⟩
 all_goals
  simp -implicitDefEqProofs only [BB,CJ,A8,BQ,BK,BJ,A7,CQ,D5,CW,DY,EC,AZ,BA,AC,AQ,AO,BD,AX,AL,AA,AY,AU,BH,BI,BC,BR,AB,DW,BF,↓reduceIte,jA,jB,jC,enX,enP,Int.reduceBEq,Int.reduceLT,Int.reduceGT]
  exact ⟨rfl,trivial⟩
def KN (op:Int):Bool:=op == 2 || op == 3 || op == 24
theorem WM (G:Nat→AV) (op:Int) (h:Hp):PCall (En G) 149 [.int .i64 op] h (.bool (KN op)):=by
 refine acN Tryz.func149 rfl ?_
 show awp _ _ _ _ _ (EH _ [.tmp 2] _)
 simp -implicitDefEqProofs only [BB,A8,A7,AZ,BA,BL,BU,CO,AC,AQ,AO,BD,AX,AL,AA,AY,AU,BH,BM,BI,BC,BR,AB,DW,BF,↓reduceIte,jA,jB,jC,enX,enP]
 cases ha:(op == 2) <;> cases hb:(op == 3)
 all_goals
  simp -implicitDefEqProofs only [BK,A7,CW,AZ,BA,BL,BU,CO,EQ,F6,AC,AQ,AO,BD,AX,AL,AA,EG,AY,AU,BH,BM,BI,BC,CP,DL,DN,BR,AB,DW,BF,↓reduceIte,jA,jB,jC,enP,ha,hb]
  exact ⟨by simp [KN,ha,hb],trivial⟩
def TW (op:Int) (n:Nat):Bool:=if op == 23 then ((n:Int) % 2 == 1) && decide ((n:Int)≥3) && decide ((n:Int)≤33) else ((n:Int) == arity op)
theorem AAU (G:Nat→AV) (e:Ex) (h:Hp):PCall (En G) 131 [.agg (CV e)] h (.bool (TW e.op e.args.length)):=by
 refine ACalls.pure0 rfl ?_
 refine acN Tryz.func131 rfl ?_
 show awp _ _ _ _ _ (EH _ [.tmp 2] _)
 simp -implicitDefEqProofs only [BB,A8,BJ,A7,AZ,BA,AC,AQ,AO,BD,AX,AL,AA,AY,AU,BH,BM,BC,FN,BN,BR,BG,FH,BV,AB,DW,BF,↓reduceIte,jA,jI,Nat.zero_add,jB,jC,enP,TZ,G8,JQ,bxE,EE QP,EE ag3,RH,I8,List.length_map]
 generalize he:e.args.length=n
 have hm:(n:Int).tmod 2=(n:Int) % 2:=Int.tmod_eq_emod_of_nonneg (by omega)
 have b1:G6 Tryz.prog 3 .rem (.int .i64 (n:Int)) (.int .i64 2)=some (.int .i64 ((n:Int) % 2)):=by rw [AC4 _ _ _ _ _ (by decide),hm]
 refine CS (fun hc => ?_) (fun hc => ?_)
 ·simp -implicitDefEqProofs only [BB,A8,AZ,BL,BU,CO,AC,AQ,AO,BD,AX,AL,AA,AY,AU,BH,BI,BR,AB,DW,↓reduceIte,jA,jB,jC,enP,b1]
  cases ha:((n:Int) % 2 == 1) <;> cases hb:decide ((n:Int)≥3)
  all_goals
   simp -implicitDefEqProofs only [BK,A7,CQ,CW,AZ,BA,BL,BU,CO,GH,I4,AC,AQ,AO,BD,AX,AL,AA,EG,AY,AU,BH,BM,BI,BC,CP,DL,DN,BR,AB,KH,FQ,↓reduceIte,jA,jB,jC,enP,ha,hb]
   exact ⟨by unfold TW; rw [if_pos hc,ha,hb]; simp,_,rfl⟩
 ·simp -implicitDefEqProofs only [BB,A8,BQ,A7,AZ,AC,AQ,AO,BD,AX,AL,AA,AY,BO,BI,BN,BG,BX,BP,AB,List.map_cons,List.map_nil,List.append_nil,↓reduceIte,jA,jI,jB,jC,enP,G8,EE ag3,I8]
  refine (AHK G e.op _).use ?_
  simp -implicitDefEqProofs only [BK,A7,CW,AZ,BA,AC,AQ,AO,BD,AX,AL,AA,AY,BC,BR,AB,DW,↓reduceIte,jA,jB,jC,enP]
  exact ⟨by unfold TW; rw [if_neg (by rw [hc]; decide)],_,rfl⟩
end Go.Proofs.YtokehnfjjmpanaaGreatDoor.Cov
namespace Go.Proofs.YtokehnfjjmpanaaGreatDoor.Cov
open Sm Bins Go.Shelf Go.RowKit
open Bool renaming and_eq_true→jU
open Int renaming toNat_natCast→zM
open List renaming drop_eq_getElem_cons→qH,getElem?_eq_getElem→jV
def AM8:Go.Shelf.Ren:=⟨fun | 145=>156 | 220=>191 | 219=>206 | 217=>215 | 225=>216 | 224=>217 | 267=>218 | 266=>220 | 314=>221 | n=>n,fun | 9=>9 | 4=>4 | 59=>156 | 3=>3 | 5=>5 | 46=>148 | 146=>190 | 51=>173 | n=>n,fun | 1=>1 | n=>n⟩
theorem AWF:Go.Proofs.Lays.n145 Tryz.prog AM8 := {
 mixed:=by kernel_rfl,
 f145:=Tryz.func156.trans (congrArg some (by kernel_rfl)),
 f217:=Tryz.func215.trans (congrArg some (by kernel_rfl)),
 f219:=Tryz.func206.trans (congrArg some (by kernel_rfl)),
 f220:=Tryz.func191.trans (congrArg some (by kernel_rfl)),
 f224:=Tryz.func217.trans (congrArg some (by kernel_rfl)),
 f225:=Tryz.func216.trans (congrArg some (by kernel_rfl)),
 f266:=Tryz.func220.trans (congrArg some (by kernel_rfl)),
 f267:=Tryz.func218.trans (congrArg some (by kernel_rfl)),
 f314:=Tryz.func221.trans (congrArg some (by kernel_rfl)),
 t3:=Tryz.underlying3,
 a3:=Tryz.isAgg3,
 z3:=Tryz.sizeOf3,
 v3:=Tryz.zeroValue3,
 t4:=Tryz.underlying4,
 a4:=Tryz.isAgg4,
 z4:=Tryz.sizeOf4,
 v4:=Tryz.zeroValue4,
 t5:=Tryz.underlying5,
 a5:=Tryz.isAgg5,
 z5:=Tryz.sizeOf5,
 v5:=Tryz.zeroValue5,
 t9:=Tryz.underlying9,
 a9:=Tryz.isAgg9,
 z9:=Tryz.sizeOf9,
 v9:=Tryz.zeroValue9,
 t46:=Tryz.underlying148,
 a46:=Tryz.isAgg148,
 z46:=Tryz.sizeOf148,
 v46:=Tryz.zeroValue148,
 t51:=Tryz.underlying173,
 a51:=Tryz.isAgg173,
 z51:=Tryz.sizeOf173,
 v51:=Tryz.zeroValue173,
 t59:=Tryz.underlying156,
 a59:=Tryz.isAgg156,
 z59:=Tryz.sizeOf156,
 v59:=Tryz.zeroValue156,
 t146:=Tryz.underlying190,
 a146:=Tryz.isAgg190,
 z146:=Tryz.sizeOf190,
 v146:=Tryz.zeroValue190,
 g1:=by kernel_rfl }
structure GOk (G:Nat→AV):Prop where
 kw:KwG G
 mx : ∃ n,G 1 = .fptr 1 [[.int .i64 n]] 0 0
theorem AMJ {G:Nat→AV} {g:Gh} {h:Hp} {w:World} {n:Nat} {k:IntKind} {z:Int} (S:SimH (En G) g h w) (hn:G n = .fptr 1 [[.int k z]] 0 0):w.cell? ⟨n,0,none⟩=some (.int k z):=by
 have:=S.glob n
 rw [enG,hn] at this
 generalize hp:Value.pointer (some ⟨n,0,none⟩)=p at this
 cases this with
 | fptr k' xs i j cb co c e fz cv h1 h2 h3 h4 =>
   simp only [Value.pointer.injEq,Option.some.injEq,Addr.mk.injEq] at hp
   obtain ⟨rfl,hco,_⟩:=hp
   have h5:=h3 0 0 (by simp) (by simp)
   have h6:=h4 0 0 _ _ rfl rfl
   generalize cv 0 0=u at h5 h6
   cases h6
   simp only [World.cell?,S.fro _ _ h1]
   subst hco
   exact h5
def cutV (s:ByteArray):AV := .tup [.str ⟨(Lib.cut s.data.toList [91]).1.toArray⟩,.str ⟨(Lib.cut s.data.toList [91]).2.1.toArray⟩,.bool (Lib.cut s.data.toList [91]).2.2]
theorem Z5 (G:Nat→AV) (hG:GOk G) (s:ByteArray) (h:Hp) (hl:s.size≤1048576):PCall (En G) 156 [.str s,.str ⟨#[91]⟩] h (cutV s):=by
 refine PCall.of_reads (cok 156 G (by kernel_rfl)) fun g w cargs S ha => ?_
 obtain ⟨hsz,hget⟩:=ha
 obtain ⟨cv0,cv1,rfl⟩ : ∃ a b,cargs = #[a,b]:=by
  obtain ⟨l⟩:=cargs
  match l,hsz with
  | [a,b],_=>exact ⟨a,b,rfl⟩
 obtain rfl:=(hget 0 _ cv0 rfl rfl).str_inv
 obtain rfl:=(hget 1 _ cv1 rfl rfl).str_inv
 obtain ⟨z,hz⟩:=hG.mx
 have hc:=AMJ S hz
 have:=Any.strings_Cut AWF s ⟨#[91]⟩ z w (by omega) hc
 refine ⟨_,?_,this⟩
 refine .tup _ _ rfl ?_
 intro i v cv h1 h2
 match i,h1,h2 with
 | 0,h1,h2=>simp at h1 h2; subst h1; subst h2; exact .str _ _
 | 1,h1,h2=>simp at h1 h2; subst h1; subst h2; exact .str _ _
 | 2,h1,h2=>simp at h1 h2; subst h1; subst h2; exact .bool _ _
def JG (s:ByteArray):Option (List UInt8 × UInt8) :=
 if 4≤s.data.toList.length then match s.data.toList.drop (s.data.toList.length - 3) with
  | [x,d,y]=>if (y == 93 && x == 91 && decide (48≤d.toNat) && decide (d.toNat < 56) && G7 ⟨(s.data.toList.take (s.data.toList.length - 3)).toArray⟩)=true then some (s.data.toList.take (s.data.toList.length - 3),d) else none
  | _=>none
 else none
def elemV (o:Option (List UInt8 × UInt8)):AV:=match o with
 | some (a,d) => .tup [.str ⟨a.toArray⟩,.int .i64 ((d.toNat:Int) - 48),.bool true]
 | none => .tup [.str ⟨#[]⟩,.int .i64 0,.bool false]
theorem PW {l:List UInt8} (h:G7 ⟨l.toArray⟩=true):l≠[]∧∀ b∈l,b≠91:=by
 have hw:QG ⟨l.toArray⟩=true:=by
  unfold G7 at h
  exact (Bool.and_eq_true_iff.1 (Bool.and_eq_true_iff.1 h).1).1
 unfold QG at hw
 obtain ⟨h1,h2⟩:=Bool.and_eq_true_iff.1 hw
 refine ⟨?_,?_⟩
 ·intro e; subst e; cases h1
 ·intro b hb e
  subst e
  have:=List.all_eq_true.1 h2 91 hb
  revert this; decide
theorem three {l:List UInt8} (h:3≤l.length) : ∃ a x d y,l=a ++ [x,d,y]:=by
 refine ⟨l.take (l.length - 3),?_⟩
 have h1:(l.drop (l.length - 3)).length=3:=by simp; omega
 match hm:l.drop (l.length - 3),h1 with
 | [x,d,y],_=>exact ⟨x,d,y,by rw [← hm,List.take_append_drop]⟩
theorem V6 {a:List UInt8} {x d y:UInt8} (ha:a≠[]):JG ⟨(a ++ [x,d,y]).toArray⟩=if (y == 93 && x == 91 && decide (48≤d.toNat) && decide (d.toNat < 56) && G7 ⟨a.toArray⟩)=true then some (a,d) else none:=by
 have hl:0 < a.length:=List.length_pos_iff.2 ha
 unfold JG
 simp only
 rw [if_pos (by simp; omega)]
 have e:(a ++ [x,d,y]).length - 3=a.length:=by simp
 rw [e,List.drop_left,List.take_left]
theorem ZV (s:ByteArray):JG s=if ((Lib.cut s.data.toList [91]).2.2 && G7 ⟨(Lib.cut s.data.toList [91]).1.toArray⟩)=true then match (Lib.cut s.data.toList [91]).2.1 with
  | [d,y]=>if (y == 93 && decide (48≤d.toNat) && decide (d.toNat < 56))=true then some ((Lib.cut s.data.toList [91]).1,d) else none
  | _=>none
 else none:=by
 obtain ⟨⟨l⟩⟩:=s
 have hocc : ∀ i,Lib.occAt l [91] i=true↔l[i]? = some 91:=by
  intro i
  unfold Lib.occAt
  rcases Nat.lt_or_ge i l.length with h | h
  ·rw [qH h,jV h]
   simp [List.isPrefixOf]
   exact eq_comm
  ·rw [List.drop_eq_nil_of_le h,List.getElem?_eq_none h]; simp [List.isPrefixOf]
 -- an element name of the reference's kind
 have main : ∀ a d,a≠[]→G7 ⟨a.toArray⟩=true→l=a ++ [91,d,93]→Lib.cut l [91]=(a,[d,93],true):=by
  intro a d ha hn hl
  obtain ⟨_,hne⟩:=PW hn
  have hi:Lib.index l [91]=(a.length:Int):=by
   refine Lib.index_first (by rw [hl]; simp) ((hocc _).2 (by rw [hl]; simp)) fun j hj => ?_
   rw [← Bool.not_eq_true,hocc,hl,List.getElem?_append_left hj,jV hj]
   intro e
   exact hne _ (List.getElem_mem hj) (Option.some.inj e)
  unfold Lib.cut
  rw [hi,if_pos (by omega),zM,hl,List.take_left,← List.drop_drop,List.drop_left]
  rfl
 show JG ⟨l.toArray⟩=_
 rcases hcase:JG ⟨l.toArray⟩ with _ | ⟨a,d⟩
 ·symm
  show (if _ then _ else none)=none
  simp only
  split
  ·rename_i hb
   rw [jU] at hb
   split
   ·rename_i d y hm
    split
    ·rename_i hd
     exfalso
     simp only [jU,beq_iff_eq,decide_eq_true_eq] at hd
     obtain ⟨⟨rfl,hd1⟩,hd2⟩:=hd
     obtain ⟨ha,_⟩:=PW hb.2
     have hc:Lib.cut l [91]=((Lib.cut l [91]).1,[d,93],true):=by
      rw [← hm]; have:=hb.1; cases hcc:Lib.cut l [91] with
      | mk p q=>cases q with
        | mk q1 q2=>rw [hcc] at this; simp at this; subst this; rfl
     have hl:l=(Lib.cut l [91]).1 ++ [91,d,93]:=by
      generalize (Lib.cut l [91]).1=b at hc
      unfold Lib.cut at hc
      split at hc
      ·rename_i h0
       obtain ⟨i,hi⟩ : ∃ i:Nat,Lib.index l [91]=i:=⟨(Lib.index l [91]).toNat,by omega⟩
       rw [hi] at hc
       simp only [zM,Prod.mk.injEq,List.length_singleton] at hc
       rcases Lib.index_spec l [91] with ⟨h1,_⟩ | ⟨j,h1,_,h3,_⟩
       ·omega
       ·have hj:i=j:=by omega
        subst hj
        have h4:=(hocc i).1 h3
        have h5:i < l.length:=(List.getElem?_eq_some_iff.1 h4).1
        have h6:l[i]=91:=by rw [jV h5] at h4; exact Option.some.inj h4
        rw [← hc.1]
        calc l=l.take i ++ l.drop i:=(List.take_append_drop i l).symm
         _=l.take i ++ (l[i] :: l.drop (i+1)):=by rw [qH h5]
         _=l.take i ++ [91,d,93]:=by rw [h6,hc.2.1]
      ·simp at hc
     have:=V6 (x:=91) (d:=d) (y:=93) ha
     rw [← hl,hcase,if_pos (by simp [hb.2,hd1,hd2])] at this
     cases this
    ·rfl
   ·rfl
  ·rfl
 ·have h4:4≤l.length:=by
   unfold JG at hcase
   simp only at hcase
   split at hcase
   ·assumption
   ·cases hcase
  obtain ⟨b,x,d',y,rfl⟩:=three (show 3≤l.length by omega)
  have hb:b≠[]:=by intro e; subst e; simp at h4
  rw [V6 hb] at hcase
  split at hcase
  ·rename_i hc
   cases hcase
   simp only [jU,beq_iff_eq,decide_eq_true_eq] at hc
   obtain ⟨⟨⟨⟨rfl,rfl⟩,h1⟩,h2⟩,h3⟩:=hc
   simp only
   rw [main a d hb h3 rfl]
   simp [h3,h1,h2]
  ·cases hcase
end Go.Proofs.YtokehnfjjmpanaaGreatDoor.Cov
set_option linter.unusedSimpArgs false
set_option maxRecDepth 8000
namespace Go.Proofs.YtokehnfjjmpanaaGreatDoor.Cov
open Sm Bins Go.RowKit
open Bool renaming not_false→jC,not_true→jX
open List renaming length_take→zT,getElem?_eq_getElem→jV,map_cons→jF,map_nil→jD,append_nil→jE,getElem?_cons_zero→zG,getElem?_cons_succ→zK,length_map→jM,getElem?_eq_none→zC,cons_append→zN,mem_append→zX,mem_cons→zV,nil_append→zA,getElem_mem→jS,append_assoc→zS,take_of_length_le→jY,length_cons→qA
open Nat renaming le_refl→jL,le_of_ble_eq_true→jH,reduceEqDiff→jA,lt_or_ge→jT,add_zero→jI,zero_add→jG
open Option renaming getD_some→jB,getD_none→jJ
theorem AIY (l:List UInt8):(Lib.cut l [91]).1.length≤l.length:=by
 unfold Lib.cut
 split
 ·simp only [zT]; exact Nat.min_le_right _ _
 ·exact jL _
theorem ixl {l:List UInt8} {k:Nat} {b:UInt8} {i:Int} (hi:i=(k:Int)) (hb:l[k]? = some b):KF Tryz.prog 9 (.str ⟨l.toArray⟩) (.int .i64 i)=some (.int .u8 b.toNat):=by
 subst hi
 have hk:k < l.length:=(List.getElem?_eq_some_iff.1 hb).1
 have:=ix9 ⟨l.toArray⟩ k .i64 hk
 rw [this]
 have h2:(⟨l.toArray⟩:ByteArray)[k]'hk=l[k]:=rfl
 rw [h2]
 rw [jV hk] at hb
 rw [Option.some.inj hb]
theorem szl (l:List UInt8):(⟨l.toArray⟩:ByteArray).size=l.length:=rfl
theorem wrap_u8 {n:Int} (h0:0≤n) (h1:n < 256):IntKind.u8.wrap n=n:=by
 unfold IntKind.wrap; simp [IntKind.bits,IntKind.signed]; omega
theorem ACX (G:Nat→AV) (hG:GOk G) (s:ByteArray) (h:Hp) (hl:s.size≤1048576):PCall (En G) 171 [.str s] h (elemV (JG s)):=by
 refine acN Tryz.func171 rfl ?_
 show awp _ _ _ _ _ (EH _ [.tmp 2,.tmp 3,.tmp 4] _)
 simp -implicitDefEqProofs only [BB,A8,A7,AZ,BA,AC,AQ,AO,BD,AX,AL,AA,AY,AU,BO,BH,BM,GN,BI,BC,BX,BP,BF,jF,jD,jE,↓reduceIte,jA,jB,jC,enX,enP]
 refine (Z5 G hG s h hl).use ?_
 have he:=ZV s
 have hal:=AIY s.data.toList
 unfold cutV
 generalize Lib.cut s.data.toList [91]=c at he hal ⊢
 obtain ⟨a,b,f⟩:=c
 have hal2:a.length≤s.size:=by simpa using hal
 simp -implicitDefEqProofs only [zG,zK,BB,A8,A7,AZ,BA,BL,BU,CO,AC,AQ,AO,BD,AX,AL,AA,AY,BI,BC,I5,H7,JO,AB,FP,↓reduceIte,jA,jB,jC]
 cases f
 ·simp -implicitDefEqProofs only [BB,A8,BK,BJ,A7,CQ,MO,DY,AZ,BA,BL,BU,CO,F6,AC,AQ,AO,BD,AX,AL,AA,EG,AY,AU,BH,BM,GN,BI,BC,CP,DL,↓reduceIte,jA,jB,jC]
  exact ⟨by rw [he]; rfl,trivial⟩
 simp -implicitDefEqProofs only [BL,BU,CO,EQ,AC,AQ,AO,BD,AX,AL,AA,AY,BO,BI,BX,BP,jF,jD,jE,↓reduceIte,jA,jB,jX,jC]
 refine (NV G hG.kw ⟨a.toArray⟩ h (by rw [szl]; omega)).use ?_
 simp -implicitDefEqProofs only [AZ,BL,BU,CO,EQ,AC,AQ,AO,BD,AX,AL,AA,AY,AU,BM,BI,CP,DN,I5,AB,FP,↓reduceIte,jA,jB,jC]
 cases hn:G7 ⟨a.toArray⟩
 ·simp -implicitDefEqProofs only [BB,A8,BK,BJ,A7,CQ,MO,DY,AZ,BA,BL,BU,CO,F6,AC,AQ,AO,BD,AX,AL,AA,EG,AY,AU,BH,BM,GN,BI,BC,CP,DL,↓reduceIte,jA,jB,jC]
  exact ⟨by rw [he]; simp [hn]; rfl,trivial⟩
 simp -implicitDefEqProofs only [AZ,BL,BU,CO,EQ,AC,AQ,AO,BD,AX,AL,AA,AY,AU,BH,BM,BI,CP,DN,BR,FH,AB,FU,↓reduceIte,jA,jB,jX,jC,enP,ln9,szl]
 refine IK (fun hb => ?_) (fun hb => ?_)
 ·simp -implicitDefEqProofs only [BB,A8,BK,BJ,A7,CQ,MO,DY,AZ,BA,BL,BU,CO,F6,AC,AQ,AO,BD,AX,AL,AA,EG,AY,AU,BH,BM,GN,BI,BC,CP,DL,↓reduceIte,jA,jB,jC,hb]
  have hne : ∀ d y,b≠[d,y]:=by
   intro d y e; subst e; simp at hb
  have:JG s=none:=by
   rw [he]; split
   ·split
    ·rename_i hm; exact absurd hm (hne _ _)
    ·rfl
   ·rfl
  exact ⟨by rw [this]; rfl,trivial⟩
 have h2:b.length=2:=by simp at hb; omega
 match b,h2 with
 | [d,y],_ =>
   have i1:KF Tryz.prog 9 (.str ⟨[d,y].toArray⟩) (.int .i64 1)=some (.int .u8 y.toNat):=ixl (k:=1) rfl rfl
   have i0:KF Tryz.prog 9 (.str ⟨[d,y].toArray⟩) (.int .i64 0)=some (.int .u8 d.toNat):=ixl (k:=0) rfl rfl
   have he2:JG s=if (y == 93 && decide (48≤d.toNat) && decide (d.toNat < 56))=true then some (a,d) else none:=by
    rw [he]; simp [hn]
   clear he
   simp -implicitDefEqProofs only [AZ,BL,BU,CO,EQ,AC,AQ,AO,BD,AX,AL,AA,AY,AU,BH,BM,BI,CP,DN,BR,J5,AB,FU,↓reduceIte,jA,jB,jC,enP,hb,i1,i0]
   refine IK (fun hc => ?_) (fun hc => ?_)
   ·simp -implicitDefEqProofs only [BB,A8,BK,BJ,A7,CQ,MO,DY,AZ,BA,BL,BU,CO,F6,AC,AQ,AO,BD,AX,AL,AA,EG,AY,AU,BH,BM,GN,BI,BC,CP,DL,↓reduceIte,jA,jB,jC,hc]
    have hy:(y == 93)=false:=by
     rw [← Bool.not_eq_true]; intro e; rw [beq_iff_eq] at e; subst e; simp at hc
    exact ⟨by rw [he2,hy]; rfl,trivial⟩
   have hy:(y == 93)=true:=by
    rw [beq_iff_eq,← UInt8.toNat_inj]
    simp at hc; show y.toNat=93; omega
   simp -implicitDefEqProofs only [AZ,BL,BU,CO,EQ,AC,AQ,AO,BD,AX,AL,AA,AY,AU,BH,BM,BI,CP,DN,BR,J5,AB,DF,↓reduceIte,jA,jB,jC,enP,hc,i0]
   refine IK (fun hd => ?_) (fun hd => ?_)
   ·simp -implicitDefEqProofs only [BB,A8,BK,BJ,A7,CQ,MO,DY,AZ,BA,BL,BU,CO,F6,AC,AQ,AO,BD,AX,AL,AA,EG,AY,AU,BH,BM,GN,BC,CP,DL,↓reduceIte,jA,jB,jC,hd]
    have:decide (48≤d.toNat)=false:=by simp at hd ⊢; omega
    exact ⟨by rw [he2,this]; simp; rfl,trivial⟩
   have hd1:48≤d.toNat:=by simp at hd; omega
   simp -implicitDefEqProofs only [BJ,A7,AZ,BA,BL,BU,CO,EQ,AC,AQ,AO,BD,AX,AL,AA,AY,AU,BH,BM,BI,CP,DN,BR,J5,AB,FQ,↓reduceIte,jA,jB,jC,enP,hd,i0]
   refine CS (fun hf => ?_) (fun hf => ?_)
   ·simp -implicitDefEqProofs only [BB,A8,BK,A7,CQ,MO,AZ,BA,AC,AQ,AO,BD,AX,AL,AA,AU,BH,BM,GN,BC,↓reduceIte,jA,jB,jC]
    have:decide (d.toNat < 56)=false:=by simp at hf ⊢; omega
    exact ⟨by rw [he2,this]; simp; rfl,trivial⟩
   have hd2:d.toNat < 56:=by simp at hf; omega
   simp -implicitDefEqProofs only [BB,BQ,A7]
   refine EZ (by kernel_rfl) ?_
   simp -implicitDefEqProofs only [FD,DR,CZ,D9,DU,ES,G9,IJ,AF5,AB3,BK,A7,MO,AC,AA,AY,AU,BH,BM,BR,OZ,J5,AB,JJ,↓reduceIte,jA,Nat.reduceAdd,jB,enP,AE9,i0,wrap_u8 (n:=(d.toNat:Int) - 48) (by omega) (by omega),wrap_i64 (n:=(d.toNat:Int) - 48) (by omega) (by omega)]
   exact ⟨by rw [he2]; simp [hy,hd1,hd2]; rfl,trivial⟩
theorem YV {s:ByteArray} {u:Nat} {h:Hp} (hu:u≤s.size):J8 Tryz.prog h 9 (.str s) none (some (.int .i64 (u:Int))) none=some (.str (s.extract 0 u)):=by
 have:Tryz.prog.underlying 9=some .string:=by kernel_rfl
 simp [J8,this,I9,hu]
theorem AIP (a b:List UInt8):(⟨(a ++ b).toArray⟩:ByteArray).extract 0 a.length=⟨a.toArray⟩:=by
 ext1
 simp
set_option maxHeartbeats 1000000 in
theorem AJH (G:Nat→AV) (s:ByteArray) (h:Hp) (hl:s.size≤1099511627776):PCall (En G) 214 [.str s] h (elemV (JG s)):=by
 refine acN Tryz.func214 rfl ?_
 show awp _ _ _ _ _ (EH _ [.tmp 2,.tmp 3,.tmp 4] _)
 obtain ⟨⟨l⟩⟩:=s
 rw [szl] at hl
 rcases jT l.length 4 with h4 | h4
 ·have hd:decide ((l.length:Int) < 4)=true:=by simp; omega
  simp -implicitDefEqProofs only [BB,A8,BK,BJ,A7,CQ,MO,DY,AZ,BA,BL,BU,CO,F6,AC,AQ,AO,BD,AX,AL,AA,EG,AY,AU,BH,BM,GN,BI,BC,CP,DL,BR,FH,AB,DF,BF,↓reduceIte,jA,jB,jC,enX,enP,ln9,szl,hd]
  have:JG ⟨l.toArray⟩=none:=by
   unfold JG; rw [if_neg]; simp; omega
  exact ⟨by rw [this]; rfl,trivial⟩
 obtain ⟨b,x,d,y,rfl⟩:=three (show 3≤l.length by omega)
 have hlen:(b ++ [x,d,y]).length=b.length+3:=by simp
 rw [hlen] at hl h4
 have hbl:0 < b.length:=by omega
 have hb:b≠[]:=List.length_pos_iff.1 hbl
 have he:=V6 (x:=x) (d:=d) (y:=y) hb
 generalize hn:G7 ⟨b.toArray⟩=nm at he
 have i1:KF Tryz.prog 9 (.str ⟨(b ++ [x,d,y]).toArray⟩) (.int .i64 ((b.length:Int)+2))=some (.int .u8 y.toNat):=ixl (k:=b.length+2) (by omega) (by simp)
 have i2:KF Tryz.prog 9 (.str ⟨(b ++ [x,d,y]).toArray⟩) (.int .i64 ((b.length:Int)+1))=some (.int .u8 d.toNat):=ixl (k:=b.length+1) (by omega) (by simp)
 have i3:KF Tryz.prog 9 (.str ⟨(b ++ [x,d,y]).toArray⟩) (.int .i64 (b.length:Int))=some (.int .u8 x.toNat):=ixl (k:=b.length) rfl (by simp)
 have i4:=YV (s:=⟨(b ++ [x,d,y]).toArray⟩) (u:=b.length) (h:=h) (by rw [szl]; omega)
 rw [AIP] at i4
 have hsz:(⟨(b ++ [x,d,y]).toArray⟩:ByteArray).size=b.length+3:=by rw [szl,hlen]
 generalize (⟨(b ++ [x,d,y]).toArray⟩:ByteArray)=s at *
 have w1:IntKind.i64.wrap (((b.length+3:Nat):Int) - 1)=(b.length:Int)+2:=by rw [wrap_i64 (by omega) (by omega)]; omega
 have w2:IntKind.i64.wrap (((b.length+3:Nat):Int) - 2)=(b.length:Int)+1:=by rw [wrap_i64 (by omega) (by omega)]; omega
 have w3:IntKind.i64.wrap (((b.length+3:Nat):Int) - 3)=(b.length:Int):=by rw [wrap_i64 (by omega) (by omega)]; omega
 have hd8:d.toNat < 256:=d.toNat_lt
 have w4:IntKind.i64.wrap (d.toNat:Int)=(d.toNat:Int):=wrap_i64 (by omega) (by omega)
 have w5:IntKind.i64.wrap ((d.toNat:Int) - 48)=(d.toNat:Int) - 48:=wrap_i64 (by omega) (by omega)
 have ha:decide (((b.length+3:Nat):Int) < 4)=false:=by simp; omega
 simp -implicitDefEqProofs only [BB,A8,A7,AZ,BA,BL,BU,CO,EQ,AC,AQ,AO,BD,AX,AL,AA,AY,AU,BH,BM,GN,BI,BC,CP,DN,BR,J5,FH,AB,JJ,FU,DF,BF,↓reduceIte,jA,jB,jC,enX,enP,ln9,hsz,ha,w1,w2,w3,i1,i2,i3,i4]
 refine IK (fun hc => ?_) (fun hc => ?_)
 ·simp -implicitDefEqProofs only [BB,A8,BK,BJ,A7,CQ,MO,DY,AZ,BA,BL,BU,CO,F6,AC,AQ,AO,BD,AX,AL,AA,EG,AY,AU,BH,BM,GN,BC,CP,DL,↓reduceIte,jA,jB,jC,hc]
  have hy:(y == 93)=false:=by
   rw [← Bool.not_eq_true]; intro e; rw [beq_iff_eq] at e; subst e; simp at hc
  exact ⟨by rw [he,hy]; simp; rfl,trivial⟩
 have hy:(y == 93)=true:=by
  rw [beq_iff_eq,← UInt8.toNat_inj]
  simp at hc; show y.toNat=93; omega
 simp -implicitDefEqProofs only [BJ,A7,AZ,BA,BL,BU,CO,EQ,AC,AQ,AO,BD,AX,AL,AA,AY,AU,BH,BM,BI,CP,DN,BR,J5,FH,AB,JJ,FU,BF,↓reduceIte,jA,jB,jC,enP,ln9,hsz,hc,w1,w2,w3,i1,i2,i3,i4]
 refine CS (fun hd => ?_) (fun hd => ?_)
 ·simp -implicitDefEqProofs only [BB,A8,BK,A7,CQ,MO,AZ,BA,AC,AQ,AO,BD,AX,AL,AA,AU,BH,BM,GN,BC,↓reduceIte,jA,jB,jC]
  have hx:(x == 91)=false:=by
   rw [← Bool.not_eq_true]; intro e; rw [beq_iff_eq] at e; subst e; simp at hd
  exact ⟨by rw [he,hx]; simp; rfl,trivial⟩
 have hx:(x == 91)=true:=by
  rw [beq_iff_eq,← UInt8.toNat_inj]
  simp at hd; show x.toNat=91; omega
 simp -implicitDefEqProofs only [Option.map_some,Option.map_none,BB,A8,BQ,A7,AZ,BA,BL,BU,CO,AC,AQ,AO,BD,AX,AL,AA,AY,AU,BH,BI,BC,BR,OZ,NK,J5,FH,AB,JJ,DF,BF,↓reduceIte,jA,jB,jC,enP,ln9,AE9,hsz,w1,w2,w3,i1,i2,i3,i4,w4,w5]
 refine IK (fun hf => ?_) (fun hf => ?_)
 ·simp -implicitDefEqProofs only [BB,A8,BK,BJ,A7,CQ,MO,DY,AZ,BA,BL,BU,CO,F6,AC,AQ,AO,BD,AX,AL,AA,EG,AY,AU,BH,BM,GN,BI,BC,CP,DL,↓reduceIte,jA,jB,jC,hf]
  have:decide (48≤d.toNat)=false:=by simp at hf ⊢; omega
  exact ⟨by rw [he,this]; simp; rfl,trivial⟩
 have hd1:48≤d.toNat:=by simp at hf; omega
 simp -implicitDefEqProofs only [AZ,BL,BU,CO,EQ,AC,AQ,AO,BD,AX,AL,AA,AY,AU,BH,BM,BI,CP,DN,BR,AB,FQ,↓reduceIte,jA,jB,jC,enP,hf]
 refine IK (fun hf => ?_) (fun hf => ?_)
 ·simp -implicitDefEqProofs only [BB,A8,BK,BJ,A7,CQ,MO,DY,AZ,BA,BL,BU,CO,F6,AC,AQ,AO,BD,AX,AL,AA,EG,AY,AU,BH,BM,GN,BC,CP,DL,↓reduceIte,jA,jB,jC,hf]
  have:decide (d.toNat < 56)=false:=by simp at hf ⊢; omega
  exact ⟨by rw [he,this]; simp; rfl,trivial⟩
 have hd2:d.toNat < 56:=by simp at hf; omega
 simp -implicitDefEqProofs only [BL,BU,CO,EQ,AC,AQ,AO,BD,AX,AL,AA,AY,BO,BI,BX,BP,jF,jD,jE,↓reduceIte,jA,jB,jC,hf]
 refine (O3 G ⟨b.toArray⟩ h).use ?_
 simp -implicitDefEqProofs only [BJ,A7,AZ,BA,BL,BU,CO,EQ,AC,AQ,AO,BD,AX,AL,AA,AY,AU,BM,CP,DN,I5,AB,FP,↓reduceIte,jA,jB,jC,hn]
 cases nm
 ·simp -implicitDefEqProofs only [BB,A8,BK,A7,CQ,MO,DY,AZ,BA,AC,AQ,AO,BD,AX,AL,AA,AU,BH,BM,GN,BC,↓reduceIte,jA,jB,jC]
  exact ⟨by rw [he]; simp; rfl,trivial⟩
 ·simp -implicitDefEqProofs only [BB,A8,BQ,BK,A7,MO,EC,AZ,BA,AC,AQ,AO,BD,AX,AL,AA,AY,AU,BM,BI,BC,↓reduceIte,jA,jB,jX,jC]
  exact ⟨by rw [he]; simp [hy,hx,hd1,hd2]; rfl,trivial⟩
def II (s:ByteArray):Bool:=(JG s).isSome || G7 s
theorem ZW (o:Option (List UInt8 × UInt8)) : ∃ a n,elemV o = .tup [.str a,.int .i64 n,.bool o.isSome]:=by
 cases o with
 | none=>exact ⟨_,_,rfl⟩
 | some x=>exact ⟨_,_,rfl⟩
theorem AGX (G:Nat→AV) (hG:GOk G) (s:ByteArray) (h:Hp) (hl:s.size≤1048576):PCall (En G) 132 [.str s] h (.bool (II s)):=by
 refine acN Tryz.func132 rfl ?_
 show awp _ _ _ _ _ (EH _ [.tmp 2] _)
 simp -implicitDefEqProofs only [BB,A8,A7,AZ,BA,AC,AQ,AO,BD,AX,AL,AA,AY,AU,BO,BM,BI,BC,BX,BP,BF,jF,jD,jE,↓reduceIte,jA,jB,jC,enX,enP]
 refine (ACX G hG s h hl).use ?_
 obtain ⟨a,n,e⟩:=ZW (JG s)
 rw [e]
 simp -implicitDefEqProofs only [zG,zK,BB,A8,A7,AZ,BA,BL,BU,CO,AC,AQ,AO,BD,AX,AL,AA,AY,BI,BC,H7,JO,AB,↓reduceIte,jA,jB,jC]
 cases hs:(JG s).isSome
 ·simp -implicitDefEqProofs only [BL,BU,CO,EQ,AC,AQ,AO,BD,AX,AL,AA,AY,BO,BI,BX,BP,BF,jF,jD,jE,↓reduceIte,jA,jB,jC]
  refine (NV G hG.kw s h (by omega)).use ?_
  simp -implicitDefEqProofs only [BK,A7,CW,AZ,BA,AC,AQ,AO,BD,AX,AL,AA,AY,AU,BM,BC,CP,DN,↓reduceIte,jA,jB,jC]
  exact ⟨by unfold II; rw [hs]; rfl,trivial⟩
 ·simp -implicitDefEqProofs only [BK,A7,CW,AZ,BA,BL,BU,CO,F6,AC,AQ,AO,BD,AX,AL,AA,EG,AY,AU,BM,BC,CP,DL,↓reduceIte,jA,jB,jC]
  exact ⟨by unfold II; rw [hs]; rfl,trivial⟩
theorem AJ3 (G:Nat→AV) (s:ByteArray) (h:Hp) (hl:s.size≤1048576):PCall (En G) 204 [.str s] h (.bool (II s)):=by
 refine acN Tryz.func204 rfl ?_
 show awp _ _ _ _ _ (EH _ [.tmp 2] _)
 simp -implicitDefEqProofs only [BB,A8,A7,AZ,BA,AC,AQ,AO,BD,AX,AL,AA,AY,AU,BO,BM,BI,BC,BX,BP,BF,jF,jD,jE,↓reduceIte,jA,jB,jC,enX,enP]
 refine (AJH G s h (by omega)).use ?_
 obtain ⟨a,n,e⟩:=ZW (JG s)
 rw [e]
 simp -implicitDefEqProofs only [zG,zK,BB,A8,A7,AZ,BA,BL,BU,CO,AC,AQ,AO,BD,AX,AL,AA,AY,BI,BC,H7,JO,AB,↓reduceIte,jA,jB,jC]
 cases hs:(JG s).isSome
 ·simp -implicitDefEqProofs only [BL,BU,CO,EQ,AC,AQ,AO,BD,AX,AL,AA,AY,BO,BI,BX,BP,BF,jF,jD,jE,↓reduceIte,jA,jB,jC]
  refine (O3 G s h).use ?_
  simp -implicitDefEqProofs only [BK,A7,CW,AZ,BA,AC,AQ,AO,BD,AX,AL,AA,AY,AU,BM,BC,CP,DN,↓reduceIte,jA,jB,jC]
  exact ⟨by unfold II; rw [hs]; rfl,trivial⟩
 ·simp -implicitDefEqProofs only [BK,A7,CW,AZ,BA,BL,BU,CO,F6,AC,AQ,AO,BD,AX,AL,AA,EG,AY,AU,BM,BC,CP,DL,↓reduceIte,jA,jB,jC]
  exact ⟨by unfold II; rw [hs]; rfl,trivial⟩
def QX (s:ByteArray):Bool:=s.toList == (⟨#[]⟩:ByteArray).toList
def RX (e:Ex):Bool:=decide (e.op < 1) || decide (e.op > 25)
def AAE (e:Ex):Bool:=((e.op == 1) && (decide (e.n < 0) || decide (e.n > 65535))) || (!(e.op == 1) && !(e.n == 0))
def XB (e:Ex):Bool:=(!KN e.op && !QX e.name) || !TW e.op e.args.length
def VA (e:Ex):Bool:=((e.op == 2) && !II e.name) || (((e.op == 3) || (e.op == 24)) && !G7 e.name)
def IZ (e:Ex):Int:=if RX e then 1 else if AAE e then 1 else if XB e then 1 else if VA e then 7 else 0
theorem AJU (G:Nat→AV) (hG:GOk G) (e:Ex) (h:Hp) (hl:e.name.size≤1048576):PCall (En G) 89 [.agg (CV e)] h (.int .i64 (IZ e)):=by
 refine ACalls.pure0 rfl ?_
 refine acN Tryz.func89 rfl ?_
 show awp _ _ _ _ _ (EH _ [.tmp 2] _)
 simp -implicitDefEqProofs only [BB,A8,A7,AZ,BA,BL,BU,CO,AC,AQ,AO,BD,AX,AL,AA,AY,AU,BH,BI,BC,FN,BN,BR,BG,BV,AB,DW,BF,↓reduceIte,jA,jI,jB,jC,enP,G8,bxE,EE ag3,I8]
 refine PO (fun F H=>F 3 = .bool (KN e.op)∧F 1 = .ptr h.length 0 0∧H=h ++ [.live 4 [CV e]]) ?_ ?_
 ·cases b2:(e.op == 2) <;> cases b3:(e.op == 3)
  all_goals
   simp -implicitDefEqProofs only [AZ,BA,BL,BU,CO,EQ,F6,AC,AQ,AO,BD,AX,AL,AA,EG,AY,AU,BH,BM,BI,BC,CP,DL,DN,BN,BR,BG,AB,DW,↓reduceIte,jA,jI,jB,jC,enP,G8,b2,b3,EE ag3,I8]
   exact ⟨by simp [KN,b2,b3],trivial,trivial⟩
 rintro F H ⟨f3,f1,rfl⟩
 simp -implicitDefEqProofs only [BB,CJ,A8,A7,AZ,BL,BU,CO,AC,AQ,AO,BD,AX,AL,AA,AY,AU,BH,BI,BN,BR,BG,AB,DF,↓reduceIte,jI,jB,jC,enP,G8,f1,f3,EE ag3,I8]
 refine PO (fun F H=>F 17 = .bool (RX e)∧F 3 = .bool (KN e.op)∧F 1 = .ptr h.length 0 0∧H=h ++ [.live 4 [CV e]]) ?_ ?_
 ·cases b2:decide (e.op < 1)
  all_goals
   simp -implicitDefEqProofs only [AZ,BA,BL,BU,CO,EQ,F6,AC,AQ,AO,BD,AX,AL,AA,EG,AY,AU,BH,BM,BC,CP,DL,DN,BN,BR,BG,AB,E8,↓reduceIte,jA,jI,jB,jC,enP,G8,b2,f1,f3,EE ag3,I8]
   exact ⟨by simp [RX,b2],trivial,trivial,trivial⟩
 clear f1 f3
 rintro F H ⟨f17,f3,f1,rfl⟩
 simp -implicitDefEqProofs only [BJ,A7,AY,f17]
 refine CS (fun ho => ?_) (fun ho => ?_)
 ·simp -implicitDefEqProofs only [BB,A8,BK,A7,CQ,D5,CW,AZ,BA,AC,AQ,AO,BD,AX,AL,AA,AU,BH,BC,↓reduceIte,jB,jC]
  exact ⟨by unfold IZ; rw [if_pos ho],_,rfl⟩
 simp -implicitDefEqProofs only [BB,A8,AZ,BL,BU,CO,AC,AQ,AO,BD,AX,AL,AA,AY,AU,BH,BI,BN,BR,BG,AB,DW,↓reduceIte,jI,jB,jC,enP,G8,f1,f3,EE ag3,I8,XU]
 refine PO (fun F H=>F 26 = .bool (AAE e)∧F 3 = .bool (KN e.op)∧F 1 = .ptr h.length 0 0∧H=h ++ [.live 4 [CV e]]) ?_ ?_
 ·cases b1:(e.op == 1) <;> cases b2:decide (e.n < 0) <;> cases b3:decide (e.n > 65535) <;> cases b4:(e.n == 0)
  all_goals
   simp -implicitDefEqProofs only [AZ,BA,BL,BU,CO,GH,EQ,I4,F6,UH,AC,AQ,AO,BD,AX,AL,AA,EG,AY,AU,BH,BM,BI,BC,CP,DL,DN,BN,BR,BG,AB,FU,DF,E8,↓reduceIte,jA,jI,jG,jB,jX,jC,enP,G8,ZP,bne,b1,b2,b3,b4,f1,f3,EE ag3,I8,XU]
   exact ⟨by simp [AAE,b1,b2,b3,b4],trivial,trivial,trivial⟩
 clear f1 f3 f17
 rintro F H ⟨f26,f3,f1,rfl⟩
 simp -implicitDefEqProofs only [BJ,A7,AY,f26]
 refine CS (fun hn => ?_) (fun hn => ?_)
 ·simp -implicitDefEqProofs only [BB,A8,BK,A7,CQ,D5,CW,AZ,BA,AC,AQ,AO,BD,AX,AL,AA,AU,BH,BC,↓reduceIte,jB,jC]
  exact ⟨by unfold IZ; rw [if_neg (by simp [ho]),if_pos hn],_,rfl⟩
 simp -implicitDefEqProofs only [BB,A8,AZ,BL,BU,CO,AC,AQ,AO,BD,AX,AL,AA,AY,BI,I5,AB,FP,↓reduceIte,jB,jC,f1,f3,EE ag9,OH]
 refine PO (fun F H=>F 50 = .bool (XB e)∧F 3 = .bool (KN e.op)∧F 1 = .ptr h.length 0 0∧H=h ++ [.live 4 [CV e]]) ?_ ?_
 ·cases bm:KN e.op <;> cases b5:QX e.name
  all_goals
   have b6:=b5
   unfold QX at b6
   simp -implicitDefEqProofs only [AZ,BA,BL,BU,CO,GH,EQ,I4,F6,AC,AQ,AO,BD,AX,AL,AA,EG,AY,AU,BO,BM,GN,BI,BC,CP,DL,DN,BN,BR,BG,BX,BP,AB,AAD,jF,jD,jE,↓reduceIte,jA,jG,jB,jX,jC,enP,L9,bne,bm,b6,f1,f3,EE ag9,OH,ldE]
  ·exact ⟨by simp [XB,bm,b5],trivial,trivial,trivial⟩
  all_goals
   refine (AAU G e _).use ?_
   simp -implicitDefEqProofs only [AZ,BA,BL,BU,CO,EQ,AC,AQ,AO,BD,AX,AL,AA,AY,AU,BM,BC,CP,DN,I5,AB,FP,↓reduceIte,jA,jB,jC,bne,bm,f1,f3]
   exact ⟨by simp [XB,bm,b5],trivial,trivial,trivial⟩
 clear f1 f3 f26
 rintro F H ⟨f50,f3,f1,rfl⟩
 simp -implicitDefEqProofs only [BJ,A7,AY,f50]
 refine CS (fun hs => ?_) (fun hs => ?_)
 ·simp -implicitDefEqProofs only [BB,A8,BK,A7,CQ,D5,CW,AZ,BA,AC,AQ,AO,BD,AX,AL,AA,AU,BH,BC,↓reduceIte,jB,jC]
  exact ⟨by unfold IZ; rw [if_neg (by simp [ho]),if_neg (by simp [hn]),if_pos hs],_,rfl⟩
 simp -implicitDefEqProofs only [BB,A8,AZ,BL,BU,CO,AC,AQ,AO,BD,AX,AL,AA,AY,AU,BH,BI,BN,BR,BG,AB,DW,↓reduceIte,jI,jB,jC,enP,G8,f1,f3,EE ag9,EE ag3,I8,OH]
 have fin : ∀ b,VA e=b→IZ e=if b then 7 else 0:=by
  intro b hb
  unfold IZ; rw [if_neg (by simp [ho]),if_neg (by simp [hn]),if_neg (by simp [hs]),hb]
 cases b2:(e.op == 2)
 ·simp -implicitDefEqProofs only [AZ,BL,BU,CO,EQ,I4,AC,AQ,AO,BD,AX,AL,AA,EG,AY,AU,BH,BM,BI,CP,DN,BN,BR,BG,AB,DW,↓reduceIte,jA,jI,jB,jC,enP,G8,b2,f1,f3,EE ag9,EE ag3,I8,OH]
  cases b3:(e.op == 3) <;> cases b4:(e.op == 24)
  all_goals
   simp -implicitDefEqProofs only [BB,A8,BQ,BK,BJ,A7,EO,CW,EC,AZ,BA,BL,BU,CO,GH,EQ,I4,F6,AC,AQ,AO,BD,AX,AL,AA,EG,AY,AU,BO,BH,BM,BI,BC,CP,DL,DN,BN,BR,BG,BX,BP,AB,DW,jF,jD,jE,↓reduceIte,jA,jI,jG,jB,jC,enP,G8,L9,b3,b4,f1,f3,EE ag9,EE ag3,I8,OH]
  ·exact ⟨by rw [fin false (by simp [VA,b2,b3,b4])]; rfl,_,rfl⟩
  all_goals
   refine (NV G hG.kw e.name _ (by omega)).use ?_
   cases bi:G7 e.name
   ·simp -implicitDefEqProofs only [BB,A8,BK,BJ,A7,CQ,D5,CW,DY,AZ,BA,BL,BU,CO,GH,EQ,AC,AQ,AO,BD,AX,AL,AA,AY,AU,BH,BM,BC,CP,DL,DN,I5,AB,FP,↓reduceIte,jA,jB,jC]
    exact ⟨by rw [fin true (by simp [VA,b2,b3,b4,bi])]; rfl,_,rfl⟩
   ·simp -implicitDefEqProofs only [BB,A8,BQ,BK,BJ,A7,EO,CW,EC,AZ,BA,BL,BU,CO,GH,EQ,AC,AQ,AO,BD,AX,AL,AA,AY,AU,BH,BM,BC,CP,DL,DN,I5,AB,FP,↓reduceIte,jA,jB,jX,jC]
    exact ⟨by rw [fin false (by simp [VA,b2,b3,b4,bi])]; rfl,_,rfl⟩
 ·have e2:e.op=2:=by simpa using b2
  simp -implicitDefEqProofs only [BL,BU,CO,GH,AC,AQ,AO,BD,AX,AL,AA,AY,BO,BN,BG,BX,BP,AB,jF,jD,jE,↓reduceIte,jA,jG,jB,jC,enP,L9,b2,f1,f3,EE ag9,EE ag3,I8,OH]
  refine (AGX G hG e.name _ hl).use ?_
  cases bi:II e.name
  ·simp -implicitDefEqProofs only [BB,A8,BK,BJ,A7,CQ,D5,CW,DY,AZ,BA,BL,BU,CO,GH,F6,UH,AC,AQ,AO,BD,AX,AL,AA,EG,AY,AU,BH,BM,BI,BC,CP,DL,I5,AB,FP,↓reduceIte,jA,jB,jC]
   exact ⟨by rw [fin true (by simp [VA,b2,bi])]; rfl,_,rfl⟩
  ·simp -implicitDefEqProofs only [BB,A8,BQ,BK,BJ,A7,EO,CW,EC,AZ,BA,BL,BU,CO,GH,EQ,I4,AC,AQ,AO,BD,AX,AL,AA,EG,AY,AU,BH,BM,BI,BC,CP,DL,DN,BN,BR,I5,BG,AB,DW,FP,↓reduceIte,jA,jI,jB,jX,jC,enP,G8,f1,EE ag3,I8,e2,Int.reduceBEq]
   exact ⟨by rw [fin false (by simp [VA,e2,bi])]; rfl,_,rfl⟩
def AAF (e:Ex):Bool:=RX e || decide (e.n < 0) || decide (e.n > 65535) || (!(e.n == 0) && !(e.op == 1)) || (!QX e.name && !KN e.op)
def AFL (op:Int) (n:Nat):Bool:=((op == 23) && (decide ((n:Int) < 3) || decide ((n:Int) > 33) || ((n:Int) % 2 == 0))) || (!(op == 23) && !((n:Int) == arity op))
theorem AP3 (op:Int) (n:Nat):AFL op n = !TW op n:=by
 unfold AFL TW
 rcases hc:(op == 23) with _ | _
 ·simp
 ·have h1:decide ((n:Int) < 3) = !decide ((n:Int)≥3):=by rw [Bool.eq_iff_iff]; simp
  have h2:decide ((n:Int) > 33) = !decide ((n:Int)≤33):=by rw [Bool.eq_iff_iff]; simp
  have h3:((n:Int) % 2 == 0) = !((n:Int) % 2 == 1):=by rw [Bool.eq_iff_iff]; simp; omega
  rw [h1,h2,h3]
  cases ((n:Int) % 2 == 1) <;> cases decide ((n:Int)≥3) <;> cases decide ((n:Int)≤33) <;> rfl
theorem AP4 (e:Ex):(AAF e || AFL e.op e.args.length)=(RX e || AAE e || XB e):=by
 rw [AP3]
 unfold AAF AAE XB
 rcases h1:(e.op == 1) with _ | _
 ·rcases h2:(e.n == 0) with _ | _
  ·simp
  ·have h3:decide (e.n < 0)=false:=by simp at h2 ⊢; omega
   have h4:decide (e.n > 65535)=false:=by simp at h2 ⊢; omega
   rw [h3,h4]
   cases RX e <;> cases QX e.name <;> cases KN e.op <;> cases TW e.op e.args.length <;> rfl
 ·cases RX e <;> cases QX e.name <;> cases KN e.op <;> cases TW e.op e.args.length <;> cases decide (e.n < 0) <;> cases decide (e.n > 65535) <;> cases (e.n == 0) <;> rfl
theorem WL (e:Ex):IZ e=if AAF e then 1 else if AFL e.op e.args.length then 1 else if VA e then 7 else 0:=by
 have:=AP4 e
 unfold IZ
 revert this
 cases AAF e <;> cases AFL e.op e.args.length <;> cases RX e <;> cases AAE e <;> cases XB e <;> simp
set_option maxHeartbeats 1000000 in
theorem AI7 (G:Nat→AV) (e:Ex) (h:Hp) (hl:e.name.size≤1048576):PCall (En G) 179 [.agg (CV e)] h (.int .i64 (IZ e)):=by
 refine ACalls.pure0 rfl ?_
 refine acN Tryz.func179 rfl ?_
 show awp _ _ _ _ _ (EH _ [.tmp 2] _)
 simp -implicitDefEqProofs only [BB,A8,A7,AZ,BA,BL,BU,CO,AC,AQ,AO,BD,AX,AL,AA,AY,AU,BH,BI,BC,FN,BN,BR,BG,BV,AB,DF,BF,↓reduceIte,jA,jI,jB,jC,enP,G8,bxE,EE ag3,I8]
 refine PO (fun F H=>F 42 = .bool (AAF e)∧F 1 = .ptr h.length 0 0∧H=h ++ [.live 4 [CV e]]) ?_ ?_
 ·cases b1:decide (e.op < 1)
  case true =>
   simp -implicitDefEqProofs only [AZ,BA,BL,BU,CO,F6,UH,AC,AQ,AO,BD,AX,AL,AA,EG,AY,AU,BM,BI,CP,DL,↓reduceIte,jA,jB,jC,b1]
   exact ⟨by simp [AAF,RX,b1],trivial,trivial⟩
  simp -implicitDefEqProofs only [AZ,BL,BU,CO,EQ,AC,AQ,AO,BD,AX,AL,AA,AY,AU,BH,BM,BI,CP,DN,BN,BR,BG,AB,E8,↓reduceIte,jA,jI,jB,jC,enP,G8,b1,EE ag3,I8,XU]
  cases b2:decide (e.op > 25)
  case true =>
   simp -implicitDefEqProofs only [AZ,BA,BL,BU,CO,F6,UH,AC,AQ,AO,BD,AX,AL,AA,EG,AY,AU,BM,BI,CP,DL,↓reduceIte,jA,jB,jC,b2]
   exact ⟨by simp [AAF,RX,b2],trivial,trivial⟩
  simp -implicitDefEqProofs only [AZ,BL,BU,CO,EQ,AC,AQ,AO,BD,AX,AL,AA,AY,AU,BH,BM,BI,CP,DN,BN,BR,BG,AB,DF,↓reduceIte,jA,jG,jB,jC,enP,ZP,b2,EE ag3,I8,XU]
  have bO:RX e=false:=by unfold RX; rw [b1,b2]; rfl
  cases b3:decide (e.n < 0)
  case true =>
   simp -implicitDefEqProofs only [AZ,BA,BL,BU,CO,F6,UH,AC,AQ,AO,BD,AX,AL,AA,EG,AY,AU,BM,BI,CP,DL,↓reduceIte,jA,jB,jC,b3]
   exact ⟨by simp only [AAF,b3]; simp,trivial,trivial⟩
  simp -implicitDefEqProofs only [AZ,BL,BU,CO,EQ,AC,AQ,AO,BD,AX,AL,AA,AY,AU,BH,BM,BI,CP,DN,BN,BR,BG,AB,E8,↓reduceIte,jA,jG,jB,jC,enP,ZP,b3,EE ag3,I8,XU]
  cases b4:decide (e.n > 65535)
  case true =>
   simp -implicitDefEqProofs only [AZ,BA,BL,BU,CO,F6,UH,AC,AQ,AO,BD,AX,AL,AA,EG,AY,AU,BM,BI,CP,DL,↓reduceIte,jA,jB,jC,b4]
   exact ⟨by simp only [AAF,b4]; simp,trivial,trivial⟩
  simp -implicitDefEqProofs only [BL,BU,CO,EQ,AC,AQ,AO,BD,AX,AL,AA,AY,AU,BH,BI,BN,BR,BG,AB,FU,↓reduceIte,jA,jG,jB,jC,enP,ZP,b4,bne,EE ag3,EE ag9,I8,XU,OH]
  have fin : ∀ b,((!(e.n == 0) && !(e.op == 1)) || (!QX e.name && !KN e.op))=b→AAF e=b:=by
   intro b hb
   unfold AAF; rw [bO,b3,b4]; simpa using hb
  cases b5:(e.n == 0) <;> cases b6:(e.op == 1) <;> cases b7:QX e.name
  all_goals
   have b8:=b7
   unfold QX at b8
   simp -implicitDefEqProofs only [AZ,BA,BL,BU,CO,GH,EQ,I4,F6,UH,AC,AQ,AO,BD,AX,AL,AA,EG,AY,AU,BO,BH,BM,GN,BI,CP,DL,DN,BN,BR,BG,BX,BP,AB,FU,AAD,jF,jD,jE,↓reduceIte,jA,jI,jG,jB,jX,jC,enP,G8,L9,bne,b5,b6,b8,EE ag3,EE ag9,I8,XU,OH]
  all_goals first
   | exact ⟨by rw [fin _ rfl]; simp [b5,b6,b7],trivial,trivial⟩
   | refine (WM G e.op _).use ?_
     simp -implicitDefEqProofs only [AZ,BA,BL,BU,CO,GH,EQ,AC,AQ,AO,BD,AX,AL,AA,AY,AU,BM,CP,DL,DN,I5,AB,FP,↓reduceIte,jA,jB,jC]
     exact ⟨by rw [fin _ rfl]; simp [b5,b6,b7],trivial,trivial⟩
 rintro F H ⟨f42,f1,rfl⟩
 simp -implicitDefEqProofs only [BJ,A7,AY,f42]
 refine CS (fun ho => ?_) (fun ho => ?_)
 ·simp -implicitDefEqProofs only [BB,A8,BK,A7,CQ,CW,AZ,BA,AC,AQ,AO,BD,AX,AL,AA,AU,BH,BC,↓reduceIte,jB,jC]
  exact ⟨by rw [WL,if_pos ho],_,rfl⟩
 simp -implicitDefEqProofs only [BB,A8,BQ,A7,AZ,BA,BL,BU,CO,AC,AQ,AO,BD,AX,AL,AA,AY,AU,BH,BI,BC,BN,BR,BG,FH,AB,DW,↓reduceIte,jA,jI,jG,jB,jC,enP,TZ,G8,JQ,f1,EE ag3,EE QP,I8,RH,jM]
 generalize hn:e.args.length=n
 have hm:(n:Int).tmod 2=(n:Int) % 2:=Int.tmod_eq_emod_of_nonneg (by omega)
 have br:G6 Tryz.prog 3 .rem (.int .i64 (n:Int)) (.int .i64 2)=some (.int .i64 ((n:Int) % 2)):=by rw [AC4 _ _ _ _ _ (by decide),hm]
 refine PO (fun F H=>F 73 = .bool (AFL e.op n)∧F 1 = .ptr h.length 0 0∧H=h ++ [.live 4 [CV e]]) ?_ ?_
 ·cases b1:(e.op == 23)
  ·simp -implicitDefEqProofs only [AZ,BL,BU,CO,GH,EQ,I4,UH,AC,AQ,AO,BD,AX,AL,AA,EG,AY,AU,BO,BH,BM,BI,CP,DN,BN,BR,BG,BX,BP,AB,FU,jF,jD,jE,↓reduceIte,jA,jI,jB,jC,enP,G8,bne,b1,f1,EE ag3,I8]
   refine (AKP G e.op _).use ?_
   simp -implicitDefEqProofs only [AZ,BA,BL,BU,CO,GH,EQ,AC,AQ,AO,BD,AX,AL,AA,AY,AU,BM,CP,DL,DN,BR,AB,FU,↓reduceIte,jA,jB,jC,enP,bne]
   exact ⟨by unfold AFL; rw [b1]; simp,f1,trivial⟩
  ·cases b2:decide ((n:Int) < 3) <;> cases b3:decide ((n:Int) > 33) <;> cases b4:((n:Int) % 2 == 0)
   all_goals
    simp -implicitDefEqProofs only [AZ,BA,BL,BU,CO,GH,EQ,I4,F6,UH,AC,AQ,AO,BD,AX,AL,AA,EG,AY,AU,BH,BM,BI,CP,DL,DN,BN,BR,BG,AB,DW,FU,DF,E8,↓reduceIte,jA,jI,jB,jX,jC,enP,G8,bne,b1,b2,b3,b4,br,f1,EE ag3,I8]
    exact ⟨by unfold AFL; rw [b1,b2,b3,b4]; simp,trivial,trivial⟩
 clear f1 f42
 rintro F H ⟨f73,f1,rfl⟩
 simp -implicitDefEqProofs only [BJ,A7,AY,f73]
 subst hn
 refine CS (fun hs => ?_) (fun hs => ?_)
 ·simp -implicitDefEqProofs only [BB,A8,BK,A7,CQ,CW,AZ,BA,AC,AQ,AO,BD,AX,AL,AA,AU,BH,BC,↓reduceIte,jB,jC]
  exact ⟨by rw [WL,if_neg (by simp [ho]),if_pos hs],_,rfl⟩
 simp -implicitDefEqProofs only [BB,A8,BQ,A7,AZ,BL,BU,CO,AC,AQ,AO,BD,AX,AL,AA,AY,AU,BH,BI,BN,BR,BG,AB,DW,↓reduceIte,jI,jB,jC,enP,G8,f1,EE ag3,EE ag9,I8,OH]
 have fin : ∀ b,VA e=b→IZ e=if b then 7 else 0:=by
  intro b hb
  rw [WL,if_neg (by simp [ho]),if_neg (by simp [hs]),hb]
 cases b2:(e.op == 2)
 ·simp -implicitDefEqProofs only [AZ,BL,BU,CO,EQ,I4,AC,AQ,AO,BD,AX,AL,AA,EG,AY,AU,BO,BM,BI,CP,DN,BN,BG,BX,BP,AB,jF,jD,jE,↓reduceIte,jA,jI,jB,jC,enP,G8,b2,f1,EE ag9,EE ag3,I8,OH]
  refine (WM G e.op _).use ?_
  cases bm:KN e.op
  ·have hv:VA e=false:=by
    unfold KN at bm; simp only [Bool.or_eq_false_iff] at bm
    simp [VA,bm.1.1,bm.1.2,bm.2]
   simp -implicitDefEqProofs only [BB,A8,BQ,BK,BJ,A7,CW,EC,AZ,BA,BL,BU,CO,EQ,I4,AC,AQ,AO,BD,AX,AL,AA,EG,AY,AU,BH,BM,BI,BC,CP,DN,↓reduceIte,jA,jB,jC]
   exact ⟨by rw [fin false hv]; rfl,_,rfl⟩
  have hv:VA e = !G7 e.name:=by
   unfold KN at bm; rw [b2] at bm; simp only [Bool.false_or] at bm
   unfold VA; rw [b2,bm]; simp
  simp -implicitDefEqProofs only [BL,BU,CO,GH,EQ,AC,AQ,AO,BD,AX,AL,AA,AY,AU,BO,BH,BM,BI,CP,DL,BN,BR,BG,BX,BP,AB,FU,jF,jD,jE,↓reduceIte,jA,jI,jG,jB,jC,enP,G8,L9,bne,b2,f1,EE ag9,EE ag3,I8,OH]
  refine (O3 G e.name _).use ?_
  cases bi:G7 e.name
  ·simp -implicitDefEqProofs only [BB,A8,BK,BJ,A7,CQ,CW,DY,AZ,BA,BL,BU,CO,GH,EQ,AC,AQ,AO,BD,AX,AL,AA,AY,AU,BH,BM,BC,CP,DL,DN,I5,AB,FP,↓reduceIte,jA,jB,jC]
   exact ⟨by rw [fin true (by rw [hv,bi]; rfl)]; rfl,_,rfl⟩
  ·simp -implicitDefEqProofs only [BB,A8,BQ,BK,BJ,A7,CW,EC,AZ,BA,BL,BU,CO,GH,EQ,AC,AQ,AO,BD,AX,AL,AA,AY,AU,BH,BM,BC,CP,DL,DN,I5,AB,FP,↓reduceIte,jA,jB,jX,jC]
   exact ⟨by rw [fin false (by rw [hv,bi]; rfl)]; rfl,_,rfl⟩
 ·have e2:e.op=2:=by simpa using b2
  have hv:VA e = !II e.name:=by
   unfold VA; rw [e2]; simp
  simp -implicitDefEqProofs only [BL,BU,CO,GH,AC,AQ,AO,BD,AX,AL,AA,AY,BO,BN,BG,BX,BP,AB,jF,jD,jE,↓reduceIte,jA,jG,jB,jC,enP,L9,b2,f1,EE ag9,EE ag3,I8,OH]
  refine (AJ3 G e.name _ hl).use ?_
  cases bi:II e.name
  ·simp -implicitDefEqProofs only [BB,A8,BK,BJ,A7,CQ,CW,DY,AZ,BA,BL,BU,CO,GH,F6,UH,AC,AQ,AO,BD,AX,AL,AA,EG,AY,AU,BH,BM,BI,BC,CP,DL,I5,AB,FP,↓reduceIte,jA,jB,jC]
   exact ⟨by rw [fin true (by rw [hv,bi]; rfl)]; rfl,_,rfl⟩
  ·simp -implicitDefEqProofs only [AZ,BL,BU,CO,GH,EQ,AC,AQ,AO,BD,AX,AL,AA,AY,AU,BO,BM,BI,CP,DL,BN,I5,BG,BX,BP,AB,FP,jF,jD,jE,↓reduceIte,jA,jI,jB,jX,jC,enP,G8,f1,EE ag3,I8]
   refine (WM G e.op _).use ?_
   have bm:KN e.op=true:=by rw [e2]; rfl
   simp -implicitDefEqProofs only [BB,A8,BQ,BK,BJ,A7,CW,EC,AZ,BA,BL,BU,CO,GH,EQ,I4,AC,AQ,AO,BD,AX,AL,AA,EG,AY,AU,BH,BM,BI,BC,CP,DL,DN,BN,BR,BG,AB,FU,↓reduceIte,jA,jI,jB,jX,jC,enP,G8,bne,bm,f1,EE ag3,I8,b2]
   exact ⟨by rw [fin false (by rw [hv,bi]; rfl)]; rfl,_,rfl⟩
theorem ABZ:J9 Tryz.prog 113=some false:=by kernel_rfl
theorem AQN:szO Tryz.prog 113=some 1:=by kernel_rfl
theorem AFU (h:Hp):JF Tryz.prog h 40=some (.ptr h.length 0 0,h ++ [.live 4 [[.int .i64 0,.int .i64 0,.str ⟨#[]⟩,.sl .nil 0 []]]]):=JP (row := [.int .i64 0,.int .i64 0,.str ⟨#[]⟩,.sl .nil 0 []]) (by kernel_rfl)
theorem AGA (h:Hp) (e:Ex) (row:List AV) (hr:row.length=4):FT Tryz.prog (h ++ [.live 4 [row]]) 40 (.ptr h.length 0 0) (.agg (CV e))=some (h ++ [.live 4 [CV e]]):=by
 rw [AA7 (Q8 (KZ e)) (by rw [ER]; exact JU) (by rw [ER,hr]; exact jL _)]
 have:splice row 0 (CV e)=CV e:=by unfold splice; simp [ER,hr]
 rw [this]
theorem AWZ (h:Hp):JF Tryz.prog h 35=some (.ptr h.length 0 0,h ++ [.live 1 [[.int .i64 0]]]):=JP (row := [.int .i64 0]) (by kernel_rfl)
theorem al3 (h:Hp):JF Tryz.prog h 3=some (.ptr h.length 0 0,h ++ [.live 1 [[.int .i64 0]]]):=JP (row := [.int .i64 0]) (by kernel_rfl)
theorem AQ4 (h:Hp):JF Tryz.prog h 113=some (.ptr h.length 0 0,h ++ [.live 1 [[.nilfn]]]):=JP (row := [.nilfn]) (by kernel_rfl)
theorem IB {h:Hp} {t:TypeId} {b:Nat} {v:AV} (hag:J9 Tryz.prog t=some false) (hb:h[b]? = some (.live 1 [[v]])):DI Tryz.prog h t (.ptr b 0 0)=some v:=by
 rw [DC hag hb (row := [v]) rfl]; rfl
theorem QU {h:Hp} {t:TypeId} {b:Nat} {v u:AV} (hs:szO Tryz.prog t=some 1) (hc:IM u=some [u]) (hb:h[b]? = some (.live 1 [[v]])):FT Tryz.prog h t (.ptr b 0 0) u=some (h.set b (.live 1 [[u]])):=by
 rw [JA hc hs hb (row := [v]) rfl (by simp)]; rfl
theorem AWR (h:Hp) (f:Fn) (a b:List AV):OE h (.fn f a b)=some (.ptr h.length 0 0,h ++ [.live 1 [[.fn f a b]]]):=rfl
def Chg (c:Nat) (h h':Hp):Prop:=h.length≤h'.length∧∀ b,b < h.length→b≠c→h'[b]? = h[b]?
theorem Chg.refl (c:Nat) (h:Hp):Chg c h h:=⟨jL _,fun _ _ _=>rfl⟩
theorem Chg.trans {c:Nat} {a b d:Hp} (h1:Chg c a b) (h2:Chg c b d):Chg c a d :=
 ⟨Nat.le_trans h1.1 h2.1,fun i hi hc=>by rw [h2.2 i (Nat.lt_of_lt_of_le hi h1.1) hc,h1.2 i hi hc]⟩
theorem Chg.app (c:Nat) (h x:Hp):Chg c h (h ++ x):=⟨by simp,fun i hi _=>List.getElem?_append_left hi⟩
theorem Chg.set (c:Nat) (h:Hp) (x:ABlk):Chg c h (h.set c x):=⟨by simp,fun i _ hc=>by rw [List.getElem?_set,if_neg (fun e=>hc e.symm)]⟩
theorem Chg.get {c b:Nat} {h h':Hp} {x:ABlk} (hc:Chg c h h') (hb:h[b]? = some x) (hne:b≠c):h'[b]? = some x:=by
 rw [hc.2 b (CB hb) hne]; exact hb
theorem Chg.above {c:Nat} {h h':Hp} (hc:Chg c h h') (hl:h.length≤c) : ∃ x,h'=h ++ x:=by
 refine ⟨h'.drop h.length,?_⟩
 have:h'.take h.length=h:=by
  refine List.ext_getElem? fun i => ?_
  rcases jT i h.length with hi | hi
  ·rw [List.getElem?_take_of_lt hi,hc.2 i hi (by omega)]
  ·rw [zC (by rw [zT]; omega),zC hi]
 conv=>lhs; rw [← List.take_append_drop h.length h',this]
def run (upd:Ex→Int→Int) (cont:Int→Bool):List Ex→Int→Int × Bool
 | [],z=>(z,true)
 | e :: es,z=>if cont (upd e z) then run upd cont es (upd e z) else (upd e z,false)
theorem run_go {upd:Ex→Int→Int} {cont:Int→Bool} : ∀ {xs:List Ex} (ys:List Ex) {z z':Int},run upd cont xs z=(z',true)→run upd cont (xs ++ ys) z=run upd cont ys z'
 | [],ys,z,z',h=>by cases h; rfl
 | x :: xs,ys,z,z',h=>by
   simp only [run,zN] at h ⊢
   split at h
   ·rename_i hc; rw [if_pos hc]; exact run_go ys h
   ·cases h
theorem run_stop {upd:Ex→Int→Int} {cont:Int→Bool} : ∀ {xs:List Ex} (ys:List Ex) {z z':Int},run upd cont xs z=(z',false)→run upd cont (xs ++ ys) z=(z',false)
 | [],ys,z,z',h=>by cases h
 | x :: xs,ys,z,z',h=>by
   simp only [run,zN] at h ⊢
   split at h
   ·rename_i hc; rw [if_pos hc]; exact run_stop ys h
   ·rename_i hc; rw [if_neg hc]; exact h
theorem KA (xs:List Ex) (j:Nat) (hj:j < xs.length):IG (xs.take (j+1))=IG (xs.take j) ++ pre xs[j]:=by
 rw [List.take_succ_eq_append_getElem hj,MH]; simp [IG]
theorem QW {a:Ex} : ∀ {xs:List Ex},a∈xs→∀ x∈pre a,x∈IG xs
 | [],h,_,_=>by cases h
 | y :: ys,h,x,hx=>by
   simp only [IG,zX]
   cases zV.1 h with
   | inl e=>subst e; exact .inl hx
   | inr e=>exact .inr (QW e x hx)
def AI5 (G:Nat→AV) (k:FuncId) (upd:Ex→Int→Int) (cont:Int→Bool) (e:Ex):Prop :=
 ∀ (h:Hp) (c:Nat) (z:Int),h[c]? = some (.live 1 [[.int .i64 z]])→ACalls (En G) k [.agg (CV e),.ptr c 0 0] h fun v h'=>v = .bool (cont (upd e z))∧Chg c h h'∧h'[c]? = some (.live 1 [[.int .i64 (upd e z)]])
theorem AKF (G:Nat→AV) (k:FuncId) (upd:Ex→Int→Int) (cont:Int→Bool) (c vb db:Nat) (hv:vb≠c) (hd:db≠c) (e:Ex) :
  wt e≤1099511627776→(∀ x∈pre e,AI5 G k upd cont x)→∀ (h:Hp) (z:Int),h[c]? = some (.live 1 [[.int .i64 z]])→h[vb]? = some (.live 1 [[.fn (.func k) [] [.ptr c 0 0]]]) →
   h[db]? = some (.live 1 [[.fn (.func 130) [] [.ptr vb 0 0,.ptr db 0 0]]]) →
   ACalls (En G) 130 [.agg (CV e),.ptr vb 0 0,.ptr db 0 0] h fun v h'=>v = .bool (run upd cont (pre e) z).2∧Chg c h h'∧h'[c]? = some (.live 1 [[.int .i64 (run upd cont (pre e) z).1]]):=by
 induction e using Ex.induct with | h e ih => ?_
 intro hw hvis h z hc hvb hdb
 have hcl:=CB hc
 have hal:e.args.length≤1099511627776:=by have:=VH e.args; have:=OG e; omega
 refine acN Tryz.func130 rfl ?_
 show awp _ _ _ _ _ (EH _ [.tmp 4] _)
 simp -implicitDefEqProofs only [BB,A8,A7,AZ,BA,AC,AQ,AO,BD,AX,AL,AA,AY,AU,BM,BC,FN,BN,BX,BP,BV,AB,BF,CE,jF,jD,zA,zN,↓reduceIte,jA,jB,jC,enP,bxE,IB ABZ (CX hvb),ldE]
 refine (hvis e (by rw [pre_eq]; simp) _ c z (CX hc)).mono ?_
 rintro v h1 ⟨rfl,hch,hc1⟩
 have hch0:=(Chg.app c h _).trans hch
 have hb3:h1[h.length]? = some (.live 4 [CV e]):=hch.get (C9 _ _) (by omega)
 have hrun:run upd cont (pre e) z=if cont (upd e z) then run upd cont (IG e.args) (upd e z) else (upd e z,false):=by rw [pre_eq]; rfl
 simp -implicitDefEqProofs only [BJ,A7,AZ,BA,AC,AQ,AO,BD,AX,AL,AA,AY,I5,AB,FP,↓reduceIte,jB,jC]
 cases hct:cont (upd e z)
 ·simp -implicitDefEqProofs only [BB,A8,BK,A7,CQ,CW,DY,AZ,BA,AC,AQ,AO,BD,AX,AL,AA,AU,BM,BC,↓reduceIte,jB,jC]
  rw [hrun,hct]
  exact ⟨rfl,hch0,hc1⟩
 rw [hct,if_pos rfl] at hrun
 have hvb1:=hch0.get hvb hv
 have hdb1:=hch0.get hdb hd
 have l3:DI Tryz.prog h1 23 (.ptr h.length 0 3)=some (.sl e.m 4 (e.args.map CV)):=by rw [DC QP hb3 (row:=CV e) rfl,RH]
 simp -implicitDefEqProofs only [BB,CJ,A8,BQ,A7,EC,AZ,BA,AC,AQ,AO,BD,AX,AL,AA,AY,AU,BH,BI,BN,BG,FH,AB,↓reduceIte,jA,jG,jB,jX,jC,enP,TZ,JQ,l3,jM]
 refine D8 (fun n F H => ∃ j z',n+j=e.args.length∧F 1 = .ptr vb 0 0∧F 2 = .ptr db 0 0∧F 12 = .sl e.m 4 (e.args.map CV)∧F 13 = .int .i64 e.args.length∧F 14 = .int .i64 (j:Nat)∧Chg c h H∧H[c]? = some (.live 1 [[.int .i64 z']])∧run upd cont (IG (e.args.take j)) (upd e z)=(z',true)) e.args.length ⟨0,upd e z,by simp,by simp -implicitDefEqProofs only [AA,BF,CE,↓reduceIte,jA],by simp -implicitDefEqProofs only [AA,BF,CE,↓reduceIte,jA],by simp -implicitDefEqProofs only [AA,↓reduceIte,jA],by simp -implicitDefEqProofs only [AA,↓reduceIte,jA],by simp -implicitDefEqProofs only [AA,↓reduceIte]; rfl,hch0,hc1,rfl⟩ ?_
 rintro n F H ⟨j,z',hj,f1,f2,f12,f13,f14,hC,hcz,hr⟩
 simp -implicitDefEqProofs only [BB,A8,BJ,A7,AZ,BA,AC,AQ,AO,BD,AX,AL,AA,AY,BR,AB,DF,↓reduceIte,jB,jC,enP,f13,f14]
 refine CS (fun hlt => ?_) (fun hlt => ?_)
 ·have hj':j < e.args.length:=by simpa using hlt
  have hdH:H[db]? = some (.live 1 [[.fn (.func 130) [] [.ptr vb 0 0,.ptr db 0 0]]]):=hC.get hdb hd
  have hvH:H[vb]? = some (.live 1 [[.fn (.func k) [] [.ptr c 0 0]]]):=hC.get hvb hv
  simp -implicitDefEqProofs only [BB,CJ,A8,BQ,A7,AZ,BA,AC,AQ,AO,BD,AX,AL,DV,AA,AY,EX,BN,CY,CU,BX,BP,BV,AB,BZ,jF,jD,zA,zN,↓reduceIte,jA,jB,jC,enP,QC,jJ,f12,f14,EJ hj',EM MC JU ER hj',AFU,AGA _ _ [.int .i64 0,.int .i64 0,.str ⟨#[]⟩,.sl .nil 0 []] rfl,f2,IB ABZ (CX hdH),ldE]
  have hmem:e.args[j]∈e.args:=jS hj'
  refine (ih e.args[j] hmem (by have:=TD hmem; have:=OG e; omega) (fun x hx=>hvis x (by rw [pre_eq]; exact List.mem_cons_of_mem _ (QW hmem x hx))) _ z' (CX hcz) (CX hvH) (CX hdH)).mono ?_
  rintro v h2 ⟨rfl,hch2,hc2⟩
  have hC2:=hC.trans ((Chg.app c H _).trans hch2)
  have hsplit:IG e.args=IG (e.args.take j) ++ (pre e.args[j] ++ IG (e.args.drop (j+1))):=by
   rw [← zS,← KA _ _ hj',← MH,List.take_append_drop]
  simp -implicitDefEqProofs only [BJ,A7,AZ,BA,AC,AQ,AO,BD,AX,AL,AA,AY,I5,AB,FP,↓reduceIte,jB,jC]
  rcases hrr:run upd cont (pre e.args[j]) z' with ⟨z2,b2⟩
  rw [hrr] at hc2
  cases b2
  ·simp -implicitDefEqProofs only [BB,A8,BK,A7,CQ,D5,FV,CW,DY,AZ,BA,AC,AQ,AO,BD,AX,AL,AA,AU,BM,BC,↓reduceIte,jB,jC]
   have:run upd cont (pre e) z=(z2,false):=by rw [hrun,hsplit,run_go _ hr]; exact run_stop _ hrr
   rw [this]
   exact ⟨rfl,hC2,hc2⟩
  ·simp -implicitDefEqProofs only [A8,BQ,A7,EO,FK,EC,AZ,BA,AC,AQ,AO,BD,AX,AL,AA,AY,AU,BH,BI,BR,AB,DZ,↓reduceIte,jA,jB,jX,jC,enP,f1,f2,f12,f13,f14,wrap_succ (show j < 9223372036854775807 by omega)]
   refine ⟨n - 1,by omega,j+1,z2,by omega,trivial,trivial,trivial,trivial,rfl,hC2,hc2,?_⟩
   rw [KA _ _ hj',run_go _ hr]; exact hrr
 ·have hj' : ¬ j < e.args.length:=by simpa using hlt
  simp -implicitDefEqProofs only [BB,A8,BK,D6,A7,E5,FY,GG,CW,AZ,BA,AC,AQ,AO,BD,AX,AL,AA,AU,BM,BC,↓reduceIte,jB,jC]
  rw [jY (by omega)] at hr
  rw [hrun,hr]
  exact ⟨rfl,hC,hcz⟩
theorem AA5 (G:Nat→AV) (k:FuncId) (upd:Ex→Int→Int) (cont:Int→Bool) (c:Nat) (e:Ex) (hw:wt e≤1099511627776) (hvis : ∀ x∈pre e,AI5 G k upd cont x) (h:Hp) (z:Int) (hc:h[c]? = some (.live 1 [[.int .i64 z]])) :
  ACalls (En G) 87 [.agg (CV e),.fn (.func k) [] [.ptr c 0 0]] h fun _ h'=>Chg c h h'∧h'[c]? = some (.live 1 [[.int .i64 (run upd cont (pre e) z).1]]):=by
 have hcl:=CB hc
 refine acN Tryz.func87 rfl ?_
 show awp _ _ _ _ _ (EH _ [] _)
 simp -implicitDefEqProofs only [BB,A8,A7,AZ,BA,AC,AQ,AO,BD,AX,AL,AA,AY,EX,FN,CY,IX,BV,BF,CE,jF,jD,↓reduceIte,jA,jB,jC,enP,jJ,bxE,AWR,AQ4]
 have g0:(h ++ [ABlk.live 4 [CV e]] ++ [ABlk.live 1 [[AV.fn (.func k) [] [.ptr c 0 0]]]] ++ [ABlk.live 1 [[AV.nilfn]]])[(h ++ [ABlk.live 4 [CV e]] ++ [ABlk.live 1 [[AV.fn (.func k) [] [.ptr c 0 0]]]]).length]? = some (.live 1 [[.nilfn]]):=C9 _ _
 simp -implicitDefEqProofs only [A8,A7,AZ,BA,AC,AQ,AO,BD,AX,DV,AA,AY,BN,BZ,↓reduceIte,jA,jB,jC,enP,QU AQN (AQ5 _ _ _) g0]
 generalize hdb:(h ++ [ABlk.live 4 [CV e]] ++ [ABlk.live 1 [[AV.fn (.func k) [] [.ptr c 0 0]]]]).length=db at g0 ⊢
 generalize hvb:(h ++ [ABlk.live 4 [CV e]]).length=vb
 have hvl:vb=h.length+1:=by rw [← hvb]; simp
 have hdl:db=h.length+2:=by rw [← hdb]; simp
 generalize hH:(h ++ [ABlk.live 4 [CV e]] ++ [ABlk.live 1 [[AV.fn (.func k) [] [.ptr c 0 0]]]] ++ [ABlk.live 1 [[AV.nilfn]]]).set db (.live 1 [[AV.fn (.func 130) [] [.ptr vb 0 0,.ptr db 0 0]]])=H
 have h1:H[db]? = some (.live 1 [[.fn (.func 130) [] [.ptr vb 0 0,.ptr db 0 0]]]):=by rw [← hH]; exact G5 g0
 have h2:H[vb]? = some (.live 1 [[.fn (.func k) [] [.ptr c 0 0]]]):=by
  rw [← hH]; refine KQ ?_ (by omega)
  rw [← hvb]; exact CX (C9 _ _)
 have h3:H[h.length]? = some (.live 4 [CV e]):=by
  rw [← hH]; refine KQ ?_ (by omega)
  exact CX (CX (C9 _ _))
 have h4:H[c]? = some (.live 1 [[.int .i64 z]]):=by
  rw [← hH]; refine KQ ?_ (by omega)
  exact CX (CX (CX hc))
 have hC:Chg c h H:=by
  refine ⟨by rw [← hH]; simp,fun b hb hbc => ?_⟩
  obtain ⟨x,hx⟩ : ∃ x,h[b]? = some x:=⟨_,jV hb⟩
  rw [← hH,hx]
  exact KQ (CX (CX (CX hx))) (by omega)
 simp -implicitDefEqProofs only [AZ,AC,AQ,AO,BD,AX,AL,AA,AY,BN,BX,BP,AB,jF,jD,zA,zN,↓reduceIte,jA,jB,jC,enP,IB ABZ h1,IU h3]
 refine (AKF G k upd cont c vb db (by omega) (by omega) e hw hvis H z h4 h2 h1).mono ?_
 rintro v h' ⟨rfl,hch,hc1⟩
 simp -implicitDefEqProofs only [I7,BA,AL]
 exact ⟨hC.trans hch,hc1⟩
theorem AGC (G:Nat→AV) (e:Ex):AI5 G 134 (fun _ z=>IntKind.i64.wrap (z+1)) (fun _=>true) e:=by
 intro h c z hc
 have hcl:=CB hc
 refine acN Tryz.func134 rfl ?_
 show awp _ _ _ _ _ (EH _ [.tmp 3] _)
 simp -implicitDefEqProofs only [BB,A8,BK,A7,CW,AZ,BA,AC,AQ,AO,BD,AX,AL,DV,AA,AY,AU,BH,BM,BC,FN,BN,CY,BR,BV,AB,BZ,DZ,BF,CE,↓reduceIte,jA,jB,jC,enP,jJ,bxE,IB ag3 (CX hc),QU sz3 (VE _ _) (CX hc)]
 exact ⟨trivial,(Chg.app c h _).trans (Chg.set c _ _),G5 (CX hc)⟩
theorem AEZ (G:Nat→AV) (hG:GOk G) (e:Ex) (hl:e.name.size≤1048576):AI5 G 88 (fun e _=>IZ e) (fun z=>z == 0) e:=by
 intro h c z hc
 have hcl:=CB hc
 refine acN Tryz.func88 rfl ?_
 show awp _ _ _ _ _ (EH _ [.tmp 3] _)
 simp -implicitDefEqProofs only [BB,A8,A7,AZ,BA,AC,AQ,AO,BD,AX,AL,AA,AY,AU,BO,BM,BC,FN,BN,BX,BP,BV,AB,BF,jF,jD,jE,↓reduceIte,jA,jB,jC,enP,bxE,ldE]
 refine (AJU G hG e _ hl).use ?_
 have hs:=G5 (y := .live 1 [[.int .i64 (IZ e)]]) (CX (x := .live 4 [CV e]) hc)
 simp -implicitDefEqProofs only [BB,A8,BK,A7,CW,AZ,BA,AC,AQ,AO,BD,AX,AL,DV,AA,AY,AU,BH,BC,BN,CY,BR,AB,BZ,DW,BF,CE,↓reduceIte,jA,jB,jC,enP,jJ,QU ARQ (VE _ _) (CX hc),IB ANQ hs]
 exact ⟨trivial,(Chg.app c h _).trans (Chg.set c _ _),hs⟩
theorem ADZ : ∀ (xs:List Ex) (n:Nat),n+xs.length≤1099511627776→run (fun _ z=>IntKind.i64.wrap (z+1)) (fun _=>true) xs (n:Int)=(((n+xs.length:Nat):Int),true)
 | [],n,_=>rfl
 | x :: xs,n,h=>by
   simp only [qA] at h
   simp only [run,if_true]
   rw [wrap_succ (by omega),ADZ xs (n+1) (by omega),qA]
   congr 1; omega
def errs (xs:List Ex):Int:=xs.foldl (fun z e=>if z=0 then IZ e else z) 0
theorem ACV : ∀ (xs:List Ex) (z:Int),z≠0→xs.foldl (fun z e=>if z=0 then IZ e else z) z=z
 | [],_,_=>rfl
 | x :: xs,z,h=>by rw [List.foldl_cons,if_neg h]; exact ACV xs z h
theorem AD0 : ∀ (xs:List Ex),(run (fun e _=>IZ e) (fun z=>z == 0) xs 0).1=errs xs
 | []=>rfl
 | x :: xs=>by
   simp only [run,errs,List.foldl_cons,if_true]
   rcases hn:(IZ x == 0) with _ | _
   ·have:IZ x≠0:=by simpa using hn
    rw [ACV _ _ this]; rfl
   ·have:IZ x=0:=by simpa using hn
    rw [this]; simp only [if_true]; exact AD0 xs
theorem ALP {x e:Ex} (hx:x∈pre e):x.name.size≤wt e:=by
 induction e using Ex.induct with | h e ih => ?_
 rw [pre_eq] at hx
 have hw:=OG e
 rcases zV.1 hx with rfl | hx
 ·omega
 have : ∀ l:List Ex,(∀ a∈l,x∈pre a→x.name.size≤wt a)→x∈IG l→x.name.size≤wts l:=by
  intro l
  induction l with
  | nil=>intro _ h; simp [IG] at h
  | cons y l ih2 =>
    intro hh h
    simp only [IG,zX] at h
    simp only [wts]
    rcases h with h | h
    ·have:=hh y (by simp) h; omega
    ·have:=ih2 (fun a ha=>hh a (by simp [ha])) h; omega
 have:=this e.args (fun a ha=>ih a ha) hx
 omega
theorem AJI (G:Nat→AV) (e:Ex) (h:Hp) (hw:wt e≤1099511627776):PCall (En G) 91 [.agg (CV e)] h (.int .i64 (pre e).length):=by
 refine ACalls.pure0 rfl ?_
 refine acN Tryz.func91 rfl ?_
 show awp _ _ _ _ _ (EH _ [.tmp 2] _)
 have hg:=C9 (h ++ [ABlk.live 4 [CV e]]) (.live 1 [[.int .i64 0]])
 have hs:(h ++ [ABlk.live 4 [CV e]] ++ [ABlk.live 1 [[.int .i64 0]]]).set (h ++ [ABlk.live 4 [CV e]]).length (.live 1 [[.int .i64 0]])=h ++ [ABlk.live 4 [CV e]] ++ [ABlk.live 1 [[.int .i64 0]]]:=AH6 _ _ _
 simp -implicitDefEqProofs only [BB,A8,A7,AZ,BA,AC,AQ,AO,BD,AX,AL,DV,AA,AY,AU,BO,BH,BC,EX,FN,BN,CY,IX,BX,BP,BV,AB,BZ,BF,jF,jD,jE,↓reduceIte,jA,jB,jC,enP,jJ,bxE,al3,QU sz3 (VE _ _) hg,hs,IU (CX (C9 h _))]
 refine (AA5 G 134 _ _ _ e hw (fun x _=>AGC G x) _ 0 hg).mono ?_
 rintro v h' ⟨hch,hc1⟩
 simp -implicitDefEqProofs only [BB,A8,BK,A7,CW,AZ,BA,AC,AQ,AO,BD,AX,AL,AA,AY,BC,BN,AB,↓reduceIte,jA,jB,jC,enP,IB ag3 hc1]
 have:=ADZ (pre e) 0 (by have:=U0 e; omega)
 simp only [jG] at this
 exact ⟨by rw [show (0:Int)=((0:Nat):Int) from rfl,this],(((Chg.app _ h _).trans (Chg.app _ _ _)).trans hch).above (by simp)⟩
theorem AHC (G:Nat→AV) (e:Ex):wt e≤1099511627776→∀ h:Hp,PCall (En G) 90 [.agg (CV e)] h (.int .i64 (dep e)):=by
 induction e using Ex.induct with | h e ih => ?_
 intro hw h
 have hal:e.args.length≤1099511627776:=by have:=VH e.args; have:=OG e; omega
 refine ACalls.pure0 rfl ?_
 refine acN Tryz.func90 rfl ?_
 show awp _ _ _ _ _ (EH _ [.tmp 2] _)
 simp -implicitDefEqProofs only [BB,CJ,A8,A7,AZ,BA,AC,AQ,AO,BD,AX,AL,AA,AY,AU,BH,BI,BC,FN,BN,BG,FH,BV,AB,BF,↓reduceIte,jA,jG,jB,jC,enP,TZ,JQ,bxE,EE QP,RH,jM]
 have hdw:dep e≤1099511627776:=Nat.le_trans (AM5 e) hw
 refine D8 (fun n F H => ∃ j,n+j=e.args.length∧F 3 = .int .i64 (deps (e.args.take j):Nat)∧F 7 = .sl e.m 4 (e.args.map CV)∧F 8 = .int .i64 e.args.length∧F 9 = .int .i64 (j:Nat)∧∃ x,H=h ++ x) e.args.length ⟨0,by simp,by simp -implicitDefEqProofs only [AA,↓reduceIte,jA]; rfl,by simp -implicitDefEqProofs only [AA,↓reduceIte,jA],by simp -implicitDefEqProofs only [AA,↓reduceIte,jA],by simp -implicitDefEqProofs only [AA,↓reduceIte]; rfl,⟨_,rfl⟩⟩ ?_
 rintro n F H ⟨j,hj,f3,f7,f8,f9,x,rfl⟩
 simp -implicitDefEqProofs only [BB,A8,BJ,A7,AZ,BA,AC,AQ,AO,BD,AX,AL,AA,AY,BR,AB,DF,↓reduceIte,jB,jC,enP,f8,f9]
 refine CS (fun hlt => ?_) (fun hlt => ?_)
 ·have hj':j < e.args.length:=by simpa using hlt
  have hmem:e.args[j]∈e.args:=jS hj'
  simp -implicitDefEqProofs only [BB,CJ,A8,BQ,A7,AZ,BA,AC,AQ,AO,BD,AX,AL,DV,AA,AY,BO,BI,EX,BN,CY,CU,BX,BP,BV,AB,BZ,jF,jD,jE,↓reduceIte,jA,jB,jC,enP,QC,jJ,f3,f7,f9,EJ hj',EM MC JU ER hj',AFU,AGA _ _ [.int .i64 0,.int .i64 0,.str ⟨#[]⟩,.sl .nil 0 []] rfl,ldE]
  refine (ih e.args[j] hmem (by have:=TD hmem; have:=OG e; omega) _).use ?_
  simp -implicitDefEqProofs only [A8,A7,EO,FK,AZ,BA,AC,AQ,AO,BD,AX,AL,AA,AY,AU,BH,BI,BC,BR,XM,AB,DZ,SL,↓reduceIte,jA,jB,jC,enP,f7,f8,f9,wrap_succ (show j < 9223372036854775807 by omega)]
  refine ⟨n - 1,by omega,j+1,by omega,?_,trivial,trivial,rfl,_,by rw [zS]⟩
  rw [ABQ _ _ hj']
  congr 1
  omega
 ·have hj' : ¬ j < e.args.length:=by simpa using hlt
  rw [jY (by omega)] at f3
  rw [AC1] at hdw ⊢
  simp -implicitDefEqProofs only [BB,A8,BK,D6,A7,E5,FY,GG,CW,AZ,BA,AC,AQ,AO,BD,AX,AL,AA,AY,AU,BH,BI,BC,BR,AB,DZ,↓reduceIte,jA,jB,jC,enP,f3,wrap_succ (show deps e.args < 9223372036854775807 by omega)]
  exact ⟨trivial,x,rfl⟩
def exE (e:Ex):Int:=if errs (pre e)=0∧(24 < dep e∨400 < (pre e).length) then 2 else errs (pre e)
def WN (e:Ex):Prop:=wt e≤274877906944∧∀ x∈pre e,x.name.size≤1048576
theorem ANV {e:Ex} (hw:wt e≤1048576):WN e:=⟨by omega,fun x hx=>by have:=ALP hx; omega⟩
theorem UO (G:Nat→AV) (hG:GOk G) (e:Ex) (h:Hp) (hn:WN e):PCall (En G) 47 [.agg (CV e)] h (.int .i64 (exE e)):=by
 refine ACalls.pure0 rfl ?_
 refine acN Tryz.func47 rfl ?_
 show awp _ _ _ _ _ (EH _ [.tmp 2] _)
 have hg:=C9 (h ++ [ABlk.live 4 [CV e]]) (.live 1 [[.int .i64 0]])
 have hs:(h ++ [ABlk.live 4 [CV e]] ++ [ABlk.live 1 [[.int .i64 0]]]).set (h ++ [ABlk.live 4 [CV e]]).length (.live 1 [[.int .i64 0]])=h ++ [ABlk.live 4 [CV e]] ++ [ABlk.live 1 [[.int .i64 0]]]:=AH6 _ _ _
 have hb:=CX (x:=ABlk.live 1 [[.int .i64 0]]) (C9 h (.live 4 [CV e]))
 have hw:=hn.1
 simp -implicitDefEqProofs only [BB,A8,A7,AZ,BA,AC,AQ,AO,BD,AX,AL,DV,AA,AY,AU,BO,BH,BC,EX,FN,BN,CY,IX,BX,BP,BV,AB,BZ,BF,jF,jD,jE,↓reduceIte,jA,jB,jC,enP,jJ,bxE,AWZ,QU ARQ (VE _ _) hg,hs,IU hb]
 refine (AA5 G 88 _ _ _ e (by omega) (fun x hx=>AEZ G hG x (hn.2 x hx)) _ 0 hg).mono ?_
 rintro v h' ⟨hch,hc1⟩
 rw [AD0] at hc1
 have hb':=hch.get hb (by simp)
 have hab:=(((Chg.app _ h _).trans (Chg.app _ _ _)).trans hch).above (show h.length≤(h ++ [ABlk.live 4 [CV e]]).length by simp)
 simp -implicitDefEqProofs only [BB,A8,A7,AZ,BA,BL,BU,CO,AC,AQ,AO,BD,AX,AL,AA,AY,AU,BH,BI,BN,BR,AB,DW,↓reduceIte,jA,jB,jC,enP,IB ANQ hc1]
 rcases he:(errs (pre e) == 0) with _ | _
 ·simp -implicitDefEqProofs only [BB,A8,BQ,BK,BJ,A7,CW,EC,AZ,BA,BL,BU,CO,I4,UH,AC,AQ,AO,BD,AX,AL,AA,EG,AY,AU,BM,BC,CP,DN,BN,AB,↓reduceIte,jA,jB,jC,enP,IB ANQ hc1]
  have:errs (pre e)≠0:=by simpa using he
  exact ⟨by unfold exE; rw [if_neg (fun hh=>this hh.1)],hab⟩
 have he0:errs (pre e)=0:=by simpa using he
 simp -implicitDefEqProofs only [BL,BU,CO,GH,AC,AQ,AO,BD,AX,AL,AA,AY,BO,BN,BX,BP,AB,jF,jD,jE,↓reduceIte,jA,jB,jC,enP,IU hb']
 refine (AHC G e (by omega) _).use ?_
 simp -implicitDefEqProofs only [BL,BU,CO,GH,AC,AQ,AO,BD,AX,AL,AA,AY,AU,BH,BI,BR,AB,E8,↓reduceIte,jA,jB,jC,enP]
 refine IK (fun hd => ?_) (fun hd => ?_)
 ·simp -implicitDefEqProofs only [BB,A8,BK,BJ,A7,CQ,CW,DY,AZ,BA,BL,BU,CO,GH,F6,AC,AQ,AO,BD,AX,AL,AA,EG,AY,AU,BH,BM,BC,CP,DL,↓reduceIte,jA,jB,jC,hd]
  exact ⟨by unfold exE; rw [if_pos ⟨he0,.inl (by simp at hd; omega)⟩],hab⟩
 simp -implicitDefEqProofs only [BL,BU,CO,EQ,AC,AQ,AO,BD,AX,AL,AA,AY,BO,BN,BX,BP,AB,jF,jD,jE,↓reduceIte,jA,jB,jC,enP,hd,IU hb']
 refine (AJI G e _ (by omega)).use ?_
 simp -implicitDefEqProofs only [BJ,A7,AZ,BA,BL,BU,CO,GH,EQ,AC,AQ,AO,BD,AX,AL,AA,AY,AU,BH,BM,CP,DL,DN,BR,AB,E8,↓reduceIte,jA,jB,jC,enP]
 refine CS (fun hn => ?_) (fun hn => ?_)
 ·simp -implicitDefEqProofs only [BB,A8,BK,A7,CQ,CW,AZ,BA,AC,AQ,AO,BD,AX,AL,AA,AU,BH,BC,↓reduceIte,jB,jC]
  exact ⟨by unfold exE; rw [if_pos ⟨he0,.inr (by simp at hn; omega)⟩],hab⟩
 ·simp -implicitDefEqProofs only [BB,A8,BQ,BK,A7,CW,AZ,BA,AC,AQ,AO,BD,AX,AL,AA,AY,BC,BN,AB,↓reduceIte,jA,jB,jC,enP,IB ANQ hc1]
  exact ⟨by unfold exE; rw [if_neg (fun hh=>by simp at hn hd; omega)],hab⟩
theorem ACU (G:Nat→AV) (hG:GOk G) (e:Ex) (h:Hp) (hw:wt e≤1048576):PCall (En G) 47 [.agg (CV e)] h (.int .i64 (exE e)):=UO G hG e h (ANV hw)
end Go.Proofs.YtokehnfjjmpanaaGreatDoor.Cov
