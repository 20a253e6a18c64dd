/- Part 4 of the proof (Ft, B1, B2, B3, B4, B5, B6, B7, E1, E2, E3); no condition. -/
import Derived.Test.YtocilianjfhifaaGreatDoorProg
import Derived.KernelRfl
import Derived.Laws.RangeAny
import Derived.Shelf.Strings.Cut
import Derived.Lib.IndexMore
import Derived.Test.YtocilianjfhifaaGreatDoorY3
set_option linter.unusedVariables false
namespace Go.Proofs.YtocilianjfhifaaGreatDoor.Sm

theorem sz3:szO Tryz.prog 3=some 1:=by kernel_rfl
theorem ag3:KW Tryz.prog 3=some false:=by kernel_rfl
theorem ag4:KW Tryz.prog 4=some false:=by kernel_rfl
theorem sz9:szO Tryz.prog 9=some 1:=by kernel_rfl
theorem ag9:KW Tryz.prog 9=some false:=by kernel_rfl
theorem WI:KW Tryz.prog 22=some false:=by kernel_rfl
theorem AGM:KW Tryz.prog 23=some false:=by kernel_rfl
theorem AOV:szO Tryz.prog 25=some 2:=by kernel_rfl
theorem AWV:KW Tryz.prog 25=some true:=by kernel_rfl
theorem AJD:szO Tryz.prog 26=some 1:=by kernel_rfl
theorem QP:KW Tryz.prog 26=some false:=by kernel_rfl
theorem AMW:szO Tryz.prog 28=some 4:=by kernel_rfl
theorem AZP:KW Tryz.prog 28=some true:=by kernel_rfl
theorem AVJ:szO Tryz.prog 38=some 1:=by kernel_rfl
theorem ARN:KW Tryz.prog 38=some false:=by kernel_rfl
theorem AOU:szO Tryz.prog 47=some 1:=by kernel_rfl
theorem AZO:KW Tryz.prog 47=some true:=by kernel_rfl
theorem AGL:KW Tryz.prog 51=some false:=by kernel_rfl
theorem VT:szO Tryz.prog 53=some 4:=by kernel_rfl
theorem AAO:KW Tryz.prog 53=some true:=by kernel_rfl
theorem QK:KW Tryz.prog 54=some false:=by kernel_rfl
theorem AAF:szO Tryz.prog 56=some 6:=by kernel_rfl
theorem ADO:KW Tryz.prog 56=some true:=by kernel_rfl
theorem YJ:szO Tryz.prog 57=some 1:=by kernel_rfl
theorem MS:KW Tryz.prog 57=some false:=by kernel_rfl
theorem AXB:szO Tryz.prog 58=some 1:=by kernel_rfl
theorem ARL:KW Tryz.prog 58=some false:=by kernel_rfl
theorem WY:szO Tryz.prog 71=some 3:=by kernel_rfl
theorem AAN:KW Tryz.prog 71=some true:=by kernel_rfl
theorem AUX:szO Tryz.prog 118=some 1:=by kernel_rfl
theorem OG:KW Tryz.prog 118=some false:=by kernel_rfl
theorem RY:KW Tryz.prog 119=some false:=by kernel_rfl
theorem PL:szO Tryz.prog 121=some 4:=by kernel_rfl
theorem UN:KW Tryz.prog 121=some true:=by kernel_rfl
theorem AUW:szO Tryz.prog 133=some 2:=by kernel_rfl
theorem AZS:KW Tryz.prog 133=some true:=by kernel_rfl
theorem AUU:szO Tryz.prog 146=some 1:=by kernel_rfl
theorem AOX:szO Tryz.prog 179=some 1:=by kernel_rfl
theorem AE0:KW Tryz.prog 179=some false:=by kernel_rfl
theorem ALE:szO Tryz.prog 185=some 2:=by kernel_rfl
theorem AU8:KW Tryz.prog 185=some true:=by kernel_rfl
theorem AOW:szO Tryz.prog 187=some 2:=by kernel_rfl
theorem AZR:KW Tryz.prog 187=some true:=by kernel_rfl
theorem AUT:szO Tryz.prog 195=some 1:=by kernel_rfl
theorem AZQ:KW Tryz.prog 195=some true:=by kernel_rfl
theorem be4 : ∀ p q,IY Tryz.prog 4 .eql (.bool p) (.bool q)=some (.bool (p == q)):=fun p q=>AQ9 Tryz.prog 4 p q (by kernel_rfl)
theorem ln9 : ∀ s,LP Tryz.prog 9 (.str s)=some (.int .i64 s.size):=ATC (by kernel_rfl:Tryz.prog.underlying 9=some .string)
theorem PU : ∀ h a i,G8 Tryz.prog h 22 a i=JS 6 h a i:=JD (by kernel_rfl:Tryz.prog.underlying 22=some (.slice 56)) AAF
theorem QO:(∀ m k xs,LP Tryz.prog 22 (.sl m k xs)=some (.int .i64 xs.length))∧∀ b off len,LP Tryz.prog 22 (.own b off len)=some (.int .i64 len):=PE (by kernel_rfl:Tryz.prog.underlying 22=some (.slice 56))
theorem YV : ∀ h a i,G8 Tryz.prog h 23 a i=JS 3 h a i:=JD (by kernel_rfl:Tryz.prog.underlying 23=some (.slice 71)) WY
theorem V8:(∀ m k xs,LP Tryz.prog 23 (.sl m k xs)=some (.int .i64 xs.length))∧∀ b off len,LP Tryz.prog 23 (.own b off len)=some (.int .i64 len):=PE (by kernel_rfl:Tryz.prog.underlying 23=some (.slice 71))
theorem IU:(∀ b i j,DW Tryz.prog 25 (.ptr b i j) 0=some (.ptr b i (j+0)))∧(∀ k xs i j,DW Tryz.prog 25 (.fptr k xs i j) 0=some (.fptr k xs i (j+0))):=JX (by kernel_rfl:MH Tryz.prog 25 0 0=true)
theorem J6:(∀ b i j,DW Tryz.prog 25 (.ptr b i j) 1=some (.ptr b i (j+1)))∧(∀ k xs i j,DW Tryz.prog 25 (.fptr k xs i j) 1=some (.fptr k xs i (j+1))):=JX (by kernel_rfl:MH Tryz.prog 25 1 1=true)
theorem PH : ∀ h a i,G8 Tryz.prog h 26 a i=JS 1 h a i:=JD (by kernel_rfl:Tryz.prog.underlying 26=some (.slice 57)) YJ
theorem XM:(∀ m k xs,LP Tryz.prog 26 (.sl m k xs)=some (.int .i64 xs.length))∧∀ b off len,LP Tryz.prog 26 (.own b off len)=some (.int .i64 len):=PE (by kernel_rfl:Tryz.prog.underlying 26=some (.slice 57))
theorem AE6:Tryz.prog.underlying 26=some (.slice 57):=by kernel_rfl
theorem AJA:VC Tryz.prog 57=some 1:=by kernel_rfl
theorem AGC:NG Tryz.prog 57=some 24:=by kernel_rfl
theorem MX:(∀ b i j,DW Tryz.prog 28 (.ptr b i j) 0=some (.ptr b i (j+0)))∧(∀ k xs i j,DW Tryz.prog 28 (.fptr k xs i j) 0=some (.fptr k xs i (j+0))):=JX (by kernel_rfl:MH Tryz.prog 28 0 0=true)
theorem MW:(∀ b i j,DW Tryz.prog 28 (.ptr b i j) 1=some (.ptr b i (j+1)))∧(∀ k xs i j,DW Tryz.prog 28 (.fptr k xs i j) 1=some (.fptr k xs i (j+1))):=JX (by kernel_rfl:MH Tryz.prog 28 1 1=true)
theorem Y5:(∀ b i j,DW Tryz.prog 28 (.ptr b i j) 2=some (.ptr b i (j+2)))∧(∀ k xs i j,DW Tryz.prog 28 (.fptr k xs i j) 2=some (.fptr k xs i (j+2))):=JX (by kernel_rfl:MH Tryz.prog 28 2 2=true)
theorem Y4:(∀ b i j,DW Tryz.prog 28 (.ptr b i j) 3=some (.ptr b i (j+3)))∧(∀ k xs i j,DW Tryz.prog 28 (.fptr k xs i j) 3=some (.fptr k xs i (j+3))):=JX (by kernel_rfl:MH Tryz.prog 28 3 3=true)
theorem SX:(∀ b i j,DW Tryz.prog 47 (.ptr b i j) 0=some (.ptr b i (j+0)))∧(∀ k xs i j,DW Tryz.prog 47 (.fptr k xs i j) 0=some (.fptr k xs i (j+0))):=JX (by kernel_rfl:MH Tryz.prog 47 0 0=true)
theorem AJ1 : ∀ h a i,G8 Tryz.prog h 51 a i=JS 4 h a i:=JD (by kernel_rfl:Tryz.prog.underlying 51=some (.slice 53)) VT
theorem ADE:(∀ m k xs,LP Tryz.prog 51 (.sl m k xs)=some (.int .i64 xs.length))∧∀ b off len,LP Tryz.prog 51 (.own b off len)=some (.int .i64 len):=PE (by kernel_rfl:Tryz.prog.underlying 51=some (.slice 53))
theorem IB:(∀ b i j,DW Tryz.prog 53 (.ptr b i j) 0=some (.ptr b i (j+0)))∧(∀ k xs i j,DW Tryz.prog 53 (.fptr k xs i j) 0=some (.fptr k xs i (j+0))):=JX (by kernel_rfl:MH Tryz.prog 53 0 0=true)
theorem Y3:(∀ b i j,DW Tryz.prog 53 (.ptr b i j) 1=some (.ptr b i (j+1)))∧(∀ k xs i j,DW Tryz.prog 53 (.fptr k xs i j) 1=some (.fptr k xs i (j+1))):=JX (by kernel_rfl:MH Tryz.prog 53 1 1=true)
theorem LD:(∀ b i j,DW Tryz.prog 53 (.ptr b i j) 2=some (.ptr b i (j+2)))∧(∀ k xs i j,DW Tryz.prog 53 (.fptr k xs i j) 2=some (.fptr k xs i (j+2))):=JX (by kernel_rfl:MH Tryz.prog 53 2 2=true)
theorem OV:(∀ b i j,DW Tryz.prog 53 (.ptr b i j) 3=some (.ptr b i (j+3)))∧(∀ k xs i j,DW Tryz.prog 53 (.fptr k xs i j) 3=some (.fptr k xs i (j+3))):=JX (by kernel_rfl:MH Tryz.prog 53 3 3=true)
theorem XN : ∀ h a i,G8 Tryz.prog h 54 a i=JS 4 h a i:=JD (by kernel_rfl:Tryz.prog.underlying 54=some (.slice 121)) PL
theorem Q9:(∀ m k xs,LP Tryz.prog 54 (.sl m k xs)=some (.int .i64 xs.length))∧∀ b off len,LP Tryz.prog 54 (.own b off len)=some (.int .i64 len):=PE (by kernel_rfl:Tryz.prog.underlying 54=some (.slice 121))
theorem AFY:(∀ b i j,DW Tryz.prog 56 (.ptr b i j) 0=some (.ptr b i (j+0)))∧(∀ k xs i j,DW Tryz.prog 56 (.fptr k xs i j) 0=some (.fptr k xs i (j+0))):=JX (by kernel_rfl:MH Tryz.prog 56 0 0=true)
theorem Y2:(∀ b i j,DW Tryz.prog 56 (.ptr b i j) 1=some (.ptr b i (j+1)))∧(∀ k xs i j,DW Tryz.prog 56 (.fptr k xs i j) 1=some (.fptr k xs i (j+1))):=JX (by kernel_rfl:MH Tryz.prog 56 1 1=true)
theorem IW:(∀ b i j,DW Tryz.prog 56 (.ptr b i j) 2=some (.ptr b i (j+5)))∧(∀ k xs i j,DW Tryz.prog 56 (.fptr k xs i j) 2=some (.fptr k xs i (j+5))):=JX (by kernel_rfl:MH Tryz.prog 56 2 5=true)
theorem JM : ∀ h a i,G8 Tryz.prog h 57 a i=JS 1 h a i:=JD (by kernel_rfl:Tryz.prog.underlying 57=some (.slice 3)) sz3
theorem JJ:(∀ m k xs,LP Tryz.prog 57 (.sl m k xs)=some (.int .i64 xs.length))∧∀ b off len,LP Tryz.prog 57 (.own b off len)=some (.int .i64 len):=PE (by kernel_rfl:Tryz.prog.underlying 57=some (.slice 3))
theorem TJ:Tryz.prog.underlying 57=some (.slice 3):=by kernel_rfl
theorem WP:VC Tryz.prog 3=some 1:=by kernel_rfl
theorem VG:NG Tryz.prog 3=some 8:=by kernel_rfl
theorem AWB : ∀ h a i,G8 Tryz.prog h 58 a i=JS 2 h a i:=JD (by kernel_rfl:Tryz.prog.underlying 58=some (.slice 187)) AOW
theorem AV7:(∀ m k xs,LP Tryz.prog 58 (.sl m k xs)=some (.int .i64 xs.length))∧∀ b off len,LP Tryz.prog 58 (.own b off len)=some (.int .i64 len):=PE (by kernel_rfl:Tryz.prog.underlying 58=some (.slice 187))
theorem ATE : ∀ h a i,G8 Tryz.prog h 64 a i=JS 1 h a i:=JD (by kernel_rfl:Tryz.prog.underlying 64=some (.slice 58)) AXB
theorem APL:(∀ m k xs,LP Tryz.prog 64 (.sl m k xs)=some (.int .i64 xs.length))∧∀ b off len,LP Tryz.prog 64 (.own b off len)=some (.int .i64 len):=PE (by kernel_rfl:Tryz.prog.underlying 64=some (.slice 58))
theorem AZ4:Tryz.prog.underlying 64=some (.slice 58):=by kernel_rfl
theorem AZ2:VC Tryz.prog 58=some 1:=by kernel_rfl
theorem A0O:NG Tryz.prog 58=some 24:=by kernel_rfl
theorem AFX:(∀ b i j,DW Tryz.prog 71 (.ptr b i j) 0=some (.ptr b i (j+0)))∧(∀ k xs i j,DW Tryz.prog 71 (.fptr k xs i j) 0=some (.fptr k xs i (j+0))):=JX (by kernel_rfl:MH Tryz.prog 71 0 0=true)
theorem KC:(∀ b i j,DW Tryz.prog 71 (.ptr b i j) 1=some (.ptr b i (j+1)))∧(∀ k xs i j,DW Tryz.prog 71 (.fptr k xs i j) 1=some (.fptr k xs i (j+1))):=JX (by kernel_rfl:MH Tryz.prog 71 1 1=true)
theorem SV:(∀ b i j,DW Tryz.prog 71 (.ptr b i j) 2=some (.ptr b i (j+2)))∧(∀ k xs i j,DW Tryz.prog 71 (.fptr k xs i j) 2=some (.fptr k xs i (j+2))):=JX (by kernel_rfl:MH Tryz.prog 71 2 2=true)
theorem AB0 : ∀ h a i,G8 Tryz.prog h 118 a i=JS 2 h a i:=JD (by kernel_rfl:Tryz.prog.underlying 118=some (.slice 185)) ALE
theorem QD:(∀ m k xs,LP Tryz.prog 118 (.sl m k xs)=some (.int .i64 xs.length))∧∀ b off len,LP Tryz.prog 118 (.own b off len)=some (.int .i64 len):=PE (by kernel_rfl:Tryz.prog.underlying 118=some (.slice 185))
theorem ZU : ∀ h a i,G8 Tryz.prog h 119 a i=JS 1 h a i:=JD (by kernel_rfl:Tryz.prog.underlying 119=some (.slice 118)) AUX
theorem PM:(∀ m k xs,LP Tryz.prog 119 (.sl m k xs)=some (.int .i64 xs.length))∧∀ b off len,LP Tryz.prog 119 (.own b off len)=some (.int .i64 len):=PE (by kernel_rfl:Tryz.prog.underlying 119=some (.slice 118))
theorem AAY:(∀ b i j,DW Tryz.prog 121 (.ptr b i j) 0=some (.ptr b i (j+0)))∧(∀ k xs i j,DW Tryz.prog 121 (.fptr k xs i j) 0=some (.fptr k xs i (j+0))):=JX (by kernel_rfl:MH Tryz.prog 121 0 0=true)
theorem MR:(∀ b i j,DW Tryz.prog 121 (.ptr b i j) 1=some (.ptr b i (j+1)))∧(∀ k xs i j,DW Tryz.prog 121 (.fptr k xs i j) 1=some (.fptr k xs i (j+1))):=JX (by kernel_rfl:MH Tryz.prog 121 1 1=true)
theorem O1:(∀ b i j,DW Tryz.prog 121 (.ptr b i j) 2=some (.ptr b i (j+2)))∧(∀ k xs i j,DW Tryz.prog 121 (.fptr k xs i j) 2=some (.fptr k xs i (j+2))):=JX (by kernel_rfl:MH Tryz.prog 121 2 2=true)
theorem MQ:(∀ b i j,DW Tryz.prog 121 (.ptr b i j) 3=some (.ptr b i (j+3)))∧(∀ k xs i j,DW Tryz.prog 121 (.fptr k xs i j) 3=some (.fptr k xs i (j+3))):=JX (by kernel_rfl:MH Tryz.prog 121 3 3=true)
theorem ATO:(∀ b i j,DW Tryz.prog 133 (.ptr b i j) 0=some (.ptr b i (j+0)))∧(∀ k xs i j,DW Tryz.prog 133 (.fptr k xs i j) 0=some (.fptr k xs i (j+0))):=JX (by kernel_rfl:MH Tryz.prog 133 0 0=true)
theorem AMD:(∀ b i j,DW Tryz.prog 133 (.ptr b i j) 1=some (.ptr b i (j+1)))∧(∀ k xs i j,DW Tryz.prog 133 (.fptr k xs i j) 1=some (.fptr k xs i (j+1))):=JX (by kernel_rfl:MH Tryz.prog 133 1 1=true)
theorem AUR:Tryz.prog.underlying 143=some (.slice 146):=by kernel_rfl
theorem AOF:VC Tryz.prog 146=some 1:=by kernel_rfl
theorem AQY:NG Tryz.prog 146=some 24:=by kernel_rfl
theorem APM:(∀ m k xs,LP Tryz.prog 146 (.sl m k xs)=some (.int .i64 xs.length))∧∀ b off len,LP Tryz.prog 146 (.own b off len)=some (.int .i64 len):=PE (by kernel_rfl:Tryz.prog.underlying 146=some (.slice 4))
theorem AW9:Tryz.prog.underlying 146=some (.slice 4):=by kernel_rfl
theorem AEA : ∀ h a i,G8 Tryz.prog h 179 a i=JS 1 h a i:=JD (by kernel_rfl:Tryz.prog.underlying 179=some (.slice 9)) sz9
theorem ZQ:(∀ m k xs,LP Tryz.prog 179 (.sl m k xs)=some (.int .i64 xs.length))∧∀ b off len,LP Tryz.prog 179 (.own b off len)=some (.int .i64 len):=PE (by kernel_rfl:Tryz.prog.underlying 179=some (.slice 9))
theorem AOQ:Tryz.prog.underlying 179=some (.slice 9):=by kernel_rfl
theorem AOE:VC Tryz.prog 9=some 1:=by kernel_rfl
theorem AQX:NG Tryz.prog 9=some 16:=by kernel_rfl
theorem AF1:(∀ b i j,DW Tryz.prog 181 (.ptr b i j) 0=some (.ptr b i (j+0)))∧(∀ k xs i j,DW Tryz.prog 181 (.fptr k xs i j) 0=some (.fptr k xs i (j+0))):=JX (by kernel_rfl:MH Tryz.prog 181 0 0=true)
theorem AF0:(∀ b i j,DW Tryz.prog 181 (.ptr b i j) 1=some (.ptr b i (j+1)))∧(∀ k xs i j,DW Tryz.prog 181 (.fptr k xs i j) 1=some (.fptr k xs i (j+1))):=JX (by kernel_rfl:MH Tryz.prog 181 1 1=true)
theorem XV:(∀ b i j,DW Tryz.prog 181 (.ptr b i j) 2=some (.ptr b i (j+2)))∧(∀ k xs i j,DW Tryz.prog 181 (.fptr k xs i j) 2=some (.fptr k xs i (j+2))):=JX (by kernel_rfl:MH Tryz.prog 181 2 2=true)
theorem AMC:(∀ b i j,DW Tryz.prog 181 (.ptr b i j) 3=some (.ptr b i (j+3)))∧(∀ k xs i j,DW Tryz.prog 181 (.fptr k xs i j) 3=some (.fptr k xs i (j+3))):=JX (by kernel_rfl:MH Tryz.prog 181 3 3=true)
theorem AFZ:(∀ b i j,DW Tryz.prog 181 (.ptr b i j) 4=some (.ptr b i (j+4)))∧(∀ k xs i j,DW Tryz.prog 181 (.fptr k xs i j) 4=some (.fptr k xs i (j+4))):=JX (by kernel_rfl:MH Tryz.prog 181 4 4=true)
theorem U4:(∀ b i j,DW Tryz.prog 185 (.ptr b i j) 0=some (.ptr b i (j+0)))∧(∀ k xs i j,DW Tryz.prog 185 (.fptr k xs i j) 0=some (.fptr k xs i (j+0))):=JX (by kernel_rfl:MH Tryz.prog 185 0 0=true)
theorem U3:(∀ b i j,DW Tryz.prog 185 (.ptr b i j) 1=some (.ptr b i (j+1)))∧(∀ k xs i j,DW Tryz.prog 185 (.fptr k xs i j) 1=some (.fptr k xs i (j+1))):=JX (by kernel_rfl:MH Tryz.prog 185 1 1=true)
theorem AMB:(∀ b i j,DW Tryz.prog 187 (.ptr b i j) 0=some (.ptr b i (j+0)))∧(∀ k xs i j,DW Tryz.prog 187 (.fptr k xs i j) 0=some (.fptr k xs i (j+0))):=JX (by kernel_rfl:MH Tryz.prog 187 0 0=true)
theorem AMA:(∀ b i j,DW Tryz.prog 187 (.ptr b i j) 1=some (.ptr b i (j+1)))∧(∀ k xs i j,DW Tryz.prog 187 (.fptr k xs i j) 1=some (.fptr k xs i (j+1))):=JX (by kernel_rfl:MH Tryz.prog 187 1 1=true)
theorem ATN:(∀ b i j,DW Tryz.prog 195 (.ptr b i j) 0=some (.ptr b i (j+0)))∧(∀ k xs i j,DW Tryz.prog 195 (.fptr k xs i j) 0=some (.fptr k xs i (j+0))):=JX (by kernel_rfl:MH Tryz.prog 195 0 0=true)
theorem AYL : ∀ n,UQ Tryz.prog 3 5 (.int .i64 n)=some (.int .u8 (IntKind.u8.wrap n)):=fun n=>X5 (ds := .int .i64) Tryz.prog .i64 n (by kernel_rfl) (by kernel_rfl)
theorem ATZ : ∀ n,UQ Tryz.prog 3 252 (.int .i64 n)=some (.int .u16 (IntKind.u16.wrap n)):=fun n=>X5 (ds := .int .i64) Tryz.prog .i64 n (by kernel_rfl) (by kernel_rfl)
theorem AQR : ∀ n,UQ Tryz.prog 5 3 (.int .u8 n)=some (.int .i64 (IntKind.i64.wrap n)):=fun n=>X5 (ds := .int .u8) Tryz.prog .u8 n (by kernel_rfl) (by kernel_rfl)
theorem AT0 : ∀ n,UQ Tryz.prog 252 3 (.int .u16 n)=some (.int .i64 (IntKind.i64.wrap n)):=fun n=>X5 (ds := .int .u16) Tryz.prog .u16 n (by kernel_rfl) (by kernel_rfl)
noncomputable def En (G:Nat→AV):Env:=⟨Tryz.prog,G⟩
theorem enP (G:Nat→AV):(En G).P=Tryz.prog:=rfl
theorem enG (G:Nat→AV):(En G).G=G:=rfl
theorem enM (G:Nat→AV):(En G).P.follows .mixedOrders=true:=by kernel_rfl
end Go.Proofs.YtocilianjfhifaaGreatDoor.Sm
namespace Go.Proofs.YtocilianjfhifaaGreatDoor.Bins
open Sm
structure Rng where
 lo:Int
 hi:Int
 deriving DecidableEq
def encR (r:Rng):List AV := [.int .i64 r.lo,.int .i64 r.hi]
theorem ACG (r:Rng):(encR r).length=2:=rfl
theorem VN (r:Rng):(encR r)[0]? = some (.int .i64 r.lo):=rfl
theorem VM (r:Rng):(encR r)[1]? = some (.int .i64 r.hi):=rfl
def inside (xs:List Rng) (v:Int):Bool:=xs.any fun r=>decide (r.lo≤v) && decide (v≤r.hi)
theorem KH {α:Type} (p:α→Bool) (xs:List α) (k:Nat) (h:k < xs.length):(xs.drop k).any p=(p xs[k] || (xs.drop (k+1)).any p):=by
 rw [List.drop_eq_getElem_cons h,List.any_cons]
theorem bxR (h:Hp) (r:Rng):O8 h (.agg (encR r))=some (.ptr h.length 0 0,h ++ [.live 2 [encR r]]):=rfl
end Go.Proofs.YtocilianjfhifaaGreatDoor.Bins
set_option linter.unusedSimpArgs false
set_option maxRecDepth 8000
namespace Go.Proofs.YtocilianjfhifaaGreatDoor.Bins
open Sm
def bad (r:Rng):Bool:=decide (r.lo < 0) || decide (r.lo > r.hi) || decide (r.hi > 65535)
def IX (xs:List Rng):Int:=if xs.length > 64 then 2 else if xs.any bad then 1 else 0
theorem ZO {xs:List Rng} (h:xs.length > 64):IX xs=2:=by simp [IX,h]
theorem TU {xs:List Rng} (h : ¬ xs.length > 64) (hb:xs.any bad=true):IX xs=1:=by simp [IX,h,hb]
theorem V3 {xs:List Rng} (h : ¬ xs.length > 64) (hb:xs.any bad=false):IX xs=0:=by simp [IX,h,hb]
theorem A0X (h:Hp):J7 Tryz.prog h 185=some (.ptr h.length 0 0,h ++ [.live 2 [[.int .i64 0,.int .i64 0]]]):=JV (row := [.int .i64 0,.int .i64 0]) (by kernel_rfl)
theorem AZ5 (h:Hp) (r:Rng) (row:List AV) (hr:row.length=2):FK Tryz.prog (h ++ [.live 2 [row]]) 185 (.ptr h.length 0 0) (.agg (encR r))=some (h ++ [.live 2 [encR r]]):=by
 rw [MM (cs:=encR r) rfl ALE (by simp [hr,encR])]
 simp [splice,hr,encR]
theorem AHK (G:Nat→AV) (xs:List Rng) (m:SM) (h:Hp) (hl:xs.length≤1099511627776) :
  PCall (En G) 203 [.sl m 2 (xs.map encR)] h (.int .i64 (IX xs)):=by
 refine ACalls.pure0 rfl ?_
 refine CB (H:=Hint.none) (enM G) Tryz.func203 rfl (by kernel_rfl) (by kernel_rfl) (nLb (by kernel_rfl)) ?_
 show awp _ _ _ _ _ (EG _ [.tmp 2] _)
 simp -implicitDefEqProofs only [BC,BA,BI,A8,AY,BB,AO,AQ,AL,BD,AX,AC,AA,A7,AU,BH,BG,AZ,BR,D7,AB,EY,BF,↓reduceIte,Nat.reduceEqDiff,oGs,bNf,enP,QD,lLm]
 refine CV (fun hc => ?_) (fun hc => ?_)
 ·simp -implicitDefEqProofs only [BC,BA,BK,A8,CP,CJ,AY,BB,AO,AQ,AL,BD,AX,AC,AA,AU,BH,AZ,↓reduceIte,oGs,bNf]
  exact ⟨by rw [ZO (by simp at hc; omega)],[],by simp⟩
 simp -implicitDefEqProofs only [BC,BP,BA,BO,A8,AY,BB,AO,AQ,AL,BD,AX,AC,AA,A7,AU,BH,BG,D7,AB,BF,↓reduceIte,Nat.reduceEqDiff,oGs,bNf,enP,QD,lLm]
 have h64 : ¬ xs.length > 64:=by simp at hc; omega
 refine DR (fun n F H => ∃ k,n+k=xs.length∧F 8 = .sl m 2 (xs.map encR)∧F 9 = .int .i64 xs.length∧F 10 = .int .i64 (k:Nat)∧(∃ x,H=h ++ x)∧xs.any bad=(xs.drop k).any bad) xs.length ⟨0,by simp,rfl,rfl,rfl,⟨[],by simp⟩,rfl⟩ ?_
 rintro n F H ⟨k,hk,f8,f9,f10,⟨x,rfl⟩,hin⟩
 simp -implicitDefEqProofs only [BC,BA,BI,A8,AY,BB,AO,AQ,AL,BD,AX,AC,AA,A7,BR,AB,DC,↓reduceIte,oGs,bNf,enP,f8,f9,f10]
 refine CV (fun hc => ?_) (fun hc => ?_)
 ·have hc':k < xs.length:=by simpa using hc
  have hs:=KH bad xs k hc'
  simp -implicitDefEqProofs only [BC,BP,BA,BO,A8,AY,BB,BJ,BQ,CO,AO,AQ,AL,BD,AX,AC,EW,AA,A7,AU,BH,BG,F5,BV,EM,BR,BL,CG,CE,AB,DK,DC,↓reduceIte,Nat.reduceEqDiff,Nat.add_zero,oGs,bNf,enP,AB0,U4,Option.getD_none,f8,f9,f10,DZ hc',FV AU8 ALE ACG hc',A0X,AZ5 _ _ [.int .i64 0,.int .i64 0] rfl,DI ag3,VN,VM]
  rw [hs] at hin
  have fin:bad xs[k]=true→IX xs=1:=fun hb=>TU h64 (by rw [hin,hb]; rfl)
  have nxt:bad xs[k]=false→xs.any bad=(xs.drop (k+1)).any bad:=fun hb=>by rw [hin,hb]; rfl
  refine GZ (fun ha => ?_) (fun ha => ?_)
  ·simp -implicitDefEqProofs only [BC,BA,BK,BI,A8,CP,D8,E8,CJ,C9,AY,BB,BJ,BQ,CO,FN,AO,AQ,AL,BD,AX,AC,AA,EQ,A7,AU,BH,BM,BG,AZ,CU,DT,↓reduceIte,Nat.reduceEqDiff,oGs,bNf,ha]
   exact ⟨by rw [fin (by unfold bad; rw [ha]; rfl)],_,by rw [List.append_assoc]⟩
  simp -implicitDefEqProofs only [AY,BJ,BQ,CO,EK,AO,AQ,AL,BD,AX,AC,AA,A7,AU,BM,BG,CU,DL,BV,BR,BL,AB,EY,↓reduceIte,Nat.reduceEqDiff,Nat.add_zero,Nat.zero_add,oGs,bNf,enP,U4,U3,ha,DI ag3,VN,VM]
  refine GZ (fun hb => ?_) (fun hb => ?_)
  ·simp -implicitDefEqProofs only [BC,BA,BK,BI,A8,CP,D8,E8,CJ,C9,AY,BB,BJ,BQ,CO,FN,AO,AQ,AL,BD,AX,AC,AA,EQ,A7,AU,BH,BM,AZ,CU,DT,↓reduceIte,Nat.reduceEqDiff,oGs,bNf,hb]
   exact ⟨by rw [fin (by unfold bad; rw [hb]; simp)],_,by rw [List.append_assoc]⟩
  simp -implicitDefEqProofs only [BI,A8,AY,BB,BJ,BQ,CO,EK,AO,AQ,AL,BD,AX,AC,AA,A7,AU,BH,BM,CU,DL,BV,BR,BL,AB,EY,↓reduceIte,Nat.reduceEqDiff,Nat.zero_add,oGs,bNf,enP,U3,hb,DI ag3,VN,VM]
  refine CV (fun hc => ?_) (fun hc => ?_)
  ·simp -implicitDefEqProofs only [BC,BA,BK,A8,CP,D8,E8,CJ,AY,BB,AO,AQ,AL,BD,AX,AC,AA,AU,BH,AZ,↓reduceIte,oGs,bNf]
   exact ⟨by rw [fin (by unfold bad; rw [hc]; simp)],_,by rw [List.append_assoc]⟩
  ·simp -implicitDefEqProofs only [BA,BO,A8,EF,ER,AY,BB,AO,AQ,AL,BD,AX,AC,AA,A7,AU,BH,BG,BR,AB,DF,↓reduceIte,Nat.reduceEqDiff,oGs,bNf,enP,f10,wrap_succ (show k < 9223372036854775807 by omega)]
   exact ⟨n - 1,by omega,k+1,by omega,f8,f9,rfl,⟨_,by rw [List.append_assoc]⟩,nxt (by unfold bad; rw [ha,hb,hc]; rfl)⟩
 ·have hc' : ¬ k < xs.length:=by simpa using hc
  simp -implicitDefEqProofs only [BC,BA,BK,DJ,A8,ED,EX,EU,CJ,AY,BB,AO,AQ,AL,BD,AX,AC,AA,AU,BH,AZ,↓reduceIte,oGs,bNf]
  rw [List.drop_eq_nil_of_le (by omega)] at hin
  exact ⟨by rw [V3 h64 hin],_,rfl⟩
theorem AJM (G:Nat→AV) (xs:List Rng) (m:SM) (h:Hp) :
  PCall (En G) 216 [.sl m 2 (xs.map encR)] h (.int .i64 (IX xs)):=by
 refine CB (H:=Hint.none) (enM G) Tryz.func216 rfl (by kernel_rfl) (by kernel_rfl) (nLb (by kernel_rfl)) ?_
 show awp _ _ _ _ _ (EG _ [.tmp 2] _)
 simp -implicitDefEqProofs only [BC,BA,BI,A8,AY,BB,AO,AQ,AL,BD,AX,AC,AA,A7,AU,BH,BG,AZ,BR,D7,AB,EY,BF,↓reduceIte,Nat.reduceEqDiff,oGs,bNf,enP,QD,lLm]
 refine CV (fun hc => ?_) (fun hc => ?_)
 ·simp -implicitDefEqProofs only [BC,BA,BK,A8,CP,CJ,AY,BB,AO,AQ,AL,BD,AX,AC,AA,AU,BH,AZ,↓reduceIte,oGs,bNf]
  exact ⟨by rw [ZO (by simp at hc; omega)],trivial⟩
 simp -implicitDefEqProofs only [BC,BP,BA,BO,A8,AY,BB,AO,AQ,AL,BD,AX,AC,AU,BH,AZ,oGs,bNf,lLm]
 have h64 : ¬ xs.length > 64:=by simp at hc; omega
 refine DR (fun n F H => ∃ k,n+k=xs.length∧F 0 = .sl m 2 (xs.map encR)∧F 3 = .int .i64 (k:Nat)∧H=h∧xs.any bad=(xs.drop k).any bad) xs.length ⟨0,by simp,rfl,rfl,rfl,rfl⟩ ?_
 rintro n F H ⟨k,hk,f0,f3,rfl,hin⟩
 simp -implicitDefEqProofs only [BC,BA,BI,A8,AY,BB,AO,AQ,AL,BD,AX,AC,AA,A7,BG,BR,D7,AB,DC,↓reduceIte,Nat.reduceEqDiff,oGs,bNf,enP,QD,f0,f3,lLm]
 refine CV (fun hc => ?_) (fun hc => ?_)
 ·have hc':k < xs.length:=by simpa using hc
  rw [KH bad xs k hc'] at hin
  have fin:bad xs[k]=true→IX xs=1:=fun hb=>TU h64 (by rw [hin,hb]; rfl)
  have nxt:bad xs[k]=false→xs.any bad=(xs.drop (k+1)).any bad:=fun hb=>by rw [hin,hb]; rfl
  simp -implicitDefEqProofs only [BC,BP,BO,A8]
  refine FC (by kernel_rfl) ?_
  simp -implicitDefEqProofs only [F9,EE,DX,EI,FH,GI,FO,FP,JB,EH,EC,CO,AO,AA,A7,AU,BH,BV,BR,BL,CG,AB,DC,↓reduceIte,Nat.reduceEqDiff,Nat.reduceAdd,Nat.add_zero,oGs,enP,AB0,U4,f0,f3,DZ hc',DV ag3 hc',VN,VM]
  refine AI6 (fun ha => ?_) (fun ha => ?_)
  ·simp -implicitDefEqProofs only [F9,EE,DX,FB,EI,FH,GI,AC6,FO,IZ,BC,BA,BK,BI,A8,CP,D8,E8,CJ,C9,AY,BB,CO,AO,AQ,AL,BD,AX,AC,AA,EQ,A7,AU,BH,BM,AZ,CU,DT,↓reduceIte,Nat.reduceEqDiff,Nat.reduceAdd,oGs,bNf,ha]
   exact ⟨by rw [fin (by unfold bad; rw [ha]; rfl)],trivial⟩
  simp -implicitDefEqProofs only [F9,EE,DX,EI,FH,GI,UR,FO,IZ,FP,JB,EH,EC,CO,AO,AA,A7,AU,BM,CU,DL,BV,BR,BL,CG,AB,EY,↓reduceIte,Nat.reduceEqDiff,Nat.reduceAdd,Nat.add_zero,Nat.zero_add,oGs,enP,AB0,U4,U3,ha,f0,f3,DZ hc',DV ag3 hc',VN,VM]
  refine AI6 (fun hb => ?_) (fun hb => ?_)
  ·simp -implicitDefEqProofs only [F9,EE,DX,FB,EI,FH,GI,AC6,IZ,BC,BA,BK,BI,A8,CP,D8,E8,CJ,C9,AY,BB,CO,AO,AQ,AL,BD,AX,AC,AA,EQ,A7,AU,BH,BM,AZ,CU,DT,↓reduceIte,Nat.reduceEqDiff,Nat.reduceAdd,oGs,bNf,hb]
   exact ⟨by rw [fin (by unfold bad; rw [hb]; simp)],trivial⟩
  simp -implicitDefEqProofs only [F9,EE,DX,FB,EI,FH,GI,UR,FO,IZ,FP,JB,EH,EC,BI,A8,CO,AO,AA,A7,AU,BH,BM,CU,DL,BV,BR,BL,CG,AB,EY,↓reduceIte,Nat.reduceEqDiff,Nat.reduceAdd,Nat.zero_add,oGs,enP,AB0,U3,hb,f0,f3,DZ hc',DV ag3 hc',VN,VM]
  refine CV (fun hc => ?_) (fun hc => ?_)
  ·simp -implicitDefEqProofs only [BC,BA,BK,A8,CP,D8,E8,CJ,AY,BB,AO,AQ,AL,BD,AX,AC,AA,AU,BH,AZ,↓reduceIte,oGs,bNf]
   exact ⟨by rw [fin (by unfold bad; rw [hc]; simp)],trivial⟩
  ·simp -implicitDefEqProofs only [BA,BO,A8,EF,ER,AY,BB,AO,AQ,AL,BD,AX,AC,AA,A7,AU,BH,BG,AZ,BR,AB,DF,↓reduceIte,Nat.reduceEqDiff,oGs,bNf,enP,f3,wrap_succ (show k < 9223372036854775807 by omega)]
   exact ⟨n - 1,by omega,k+1,by omega,f0,rfl,trivial,nxt (by unfold bad; rw [ha,hb,hc]; rfl)⟩
 ·have hc' : ¬ k < xs.length:=by simpa using hc
  simp -implicitDefEqProofs only [BC,BA,BK,DJ,A8,ED,EX,EU,CJ,AY,BB,AO,AQ,AL,BD,AX,AC,AA,AU,BH,AZ,↓reduceIte,oGs,bNf]
  rw [List.drop_eq_nil_of_le (by omega)] at hin
  exact ⟨by rw [V3 h64 hin],trivial⟩
structure Rs where
 m:SM
 l:List Rng
def AQG (r:Rs):AV := .sl r.m 2 (r.l.map encR)
def encS (r:Rs):List AV := [AQG r]
structure Bin where
 name:ByteArray
 kind:Int
 ranges:Rs
 sm:SM
 steps:List Rs
def GM (b:Bin):List AV := [.str b.name,.int .i64 b.kind,AQG b.ranges,.sl b.sm 1 (b.steps.map encS)]
theorem AMJ (b:Bin):(GM b)[0]? = some (.str b.name):=rfl
theorem UH (b:Bin):(GM b)[1]? = some (.int .i64 b.kind):=rfl
theorem X0 (b:Bin):(GM b)[2]? = some (.sl b.ranges.m 2 (b.ranges.l.map encR)):=rfl
theorem RV (b:Bin):(GM b)[3]? = some (.sl b.sm 1 (b.steps.map encS)):=rfl
theorem MJ (b:Bin):(GM b).length=4:=rfl
theorem Z4 (r:Rs):(encS r)[0]? = some (.sl r.m 2 (r.l.map encR)):=rfl
theorem bxB (h:Hp) (b:Bin):O8 h (.agg (GM b))=some (.ptr h.length 0 0,h ++ [.live 4 [GM b]]):=rfl
theorem ldB (h:Hp) (b:Bin):D6 Tryz.prog (h ++ [.live 4 [GM b]]) 121 (.ptr h.length 0 0)=some (.agg (GM b)):=UZ UN PL (by simp [GM])
def QU (b:Bin):SM:=if b.ranges.l.length > 0 then .full else b.sm
def sets (b:Bin):List Rs:=if b.ranges.l.length > 0 then [b.ranges] else b.steps
theorem AYX (h:Hp) (r:Rs):FD Tryz.prog false h 119 1 [(0,.sl r.m 2 (r.l.map encR))]=some (.sl .full 1 ([r].map encS),h):=by
 have:(ZL 1 0 [(0,AV.sl r.m 2 (r.l.map encR))])=some [[.sl r.m 2 (r.l.map encR)]]:=rfl
 simp only [FD,Tryz.underlying119,AUX,this]
 have hz:VC Tryz.prog 118=some 1:=by kernel_rfl
 simp [hz,AV.frozen,encS,AQG]
theorem ADY (G:Nat→AV) (b:Bin) (h:Hp):PCall (En G) 202 [.agg (GM b)] h (.sl (QU b) 1 ((sets b).map encS)):=by
 refine ACalls.pure0 rfl ?_
 refine CB (H:=Hint.none) (enM G) Tryz.func202 rfl (by kernel_rfl) (by kernel_rfl) (nLb (by kernel_rfl)) ?_
 show awp _ _ _ _ _ (EG _ [.tmp 2] _)
 simp -implicitDefEqProofs only [BC,BA,BI,A8,AY,BB,AO,AQ,AL,BD,AX,AC,AA,A7,AU,BH,JG,AZ,FY,BV,BR,BL,D7,CE,AB,EY,BF,↓reduceIte,Nat.reduceEqDiff,Nat.zero_add,oGs,bNf,enP,QD,O1,bxB,DI OG,X0,lLm]
 refine CV (fun hc => ?_) (fun hc => ?_)
 ·have hc':b.ranges.l.length > 0:=by simpa using hc
  simp -implicitDefEqProofs only [FI,FZ,BC,BA,BK,A8,CP,CJ,AY,BB,AO,AQ,AL,BD,AX,AC,AA,A7,AZ,ES,BV,BL,CE,AB,lMc,lMn,↓reduceIte,Nat.reduceEqDiff,Nat.zero_add,oGs,bNf,enP,O1,DI OG,X0,AYX]
  exact ⟨by rw [QU,sets,if_pos hc',if_pos hc']; rfl,_,rfl⟩
 ·have hc' : ¬ b.ranges.l.length > 0:=by simpa using hc
  simp -implicitDefEqProofs only [BC,BA,BO,BK,A8,CJ,AY,BB,AO,AQ,AL,BD,AX,AC,AA,A7,AZ,BV,BL,AB,↓reduceIte,Nat.reduceEqDiff,Nat.zero_add,oGs,bNf,enP,MQ,DI RY,RV]
  exact ⟨by rw [QU,sets,if_neg hc',if_neg hc'],_,rfl⟩
theorem AG8 (G:Nat→AV) (b:Bin) (h:Hp):PCall (En G) 165 [.agg (GM b)] h (.sl (QU b) 1 ((sets b).map encS)):=by
 refine ACalls.pure0 rfl ?_
 refine CB (H:=Hint.none) (enM G) Tryz.func165 rfl (by kernel_rfl) (by kernel_rfl) (nLb (by kernel_rfl)) ?_
 show awp _ _ _ _ _ (EG _ [.tmp 2] _)
 simp -implicitDefEqProofs only [BC,BA,BI,A8,AY,BB,AO,AQ,AL,BD,AX,AC,AA,A7,AU,BH,JG,AZ,FY,BV,BR,BL,D7,CE,AB,EY,BF,↓reduceIte,Nat.reduceEqDiff,Nat.zero_add,oGs,bNf,enP,QD,O1,bxB,DI OG,X0,lLm]
 refine CV (fun hc => ?_) (fun hc => ?_)
 ·have hc':b.ranges.l.length > 0:=by simpa using hc
  simp -implicitDefEqProofs only [FI,FZ,BC,BA,BK,A8,CP,CJ,AY,BB,AO,AQ,AL,BD,AX,AC,AA,A7,AZ,ES,BV,BL,CE,AB,lMc,lMn,↓reduceIte,Nat.reduceEqDiff,Nat.zero_add,oGs,bNf,enP,O1,DI OG,X0,AYX]
  exact ⟨by rw [QU,sets,if_pos hc',if_pos hc']; rfl,_,rfl⟩
 ·have hc' : ¬ b.ranges.l.length > 0:=by simpa using hc
  simp -implicitDefEqProofs only [BC,BA,BO,BK,A8,CJ,AY,BB,AO,AQ,AL,BD,AX,AC,AA,A7,AZ,BV,BL,AB,↓reduceIte,Nat.reduceEqDiff,Nat.zero_add,oGs,bNf,enP,MQ,DI RY,RV]
  exact ⟨by rw [QU,sets,if_neg hc',if_neg hc'],_,rfl⟩
theorem AXX (m:SM) (k:Nat) (xs:List (List AV)):IY Tryz.prog 57 .eql (.sl m k xs) (.sl .nil 0 [])=some (.bool (decide (m = .nil))):=by cases m <;> kernel_rfl
def AKJ (k:Nat) (xs:List (List AV)) (h:Hp) (v:AV) (h':Hp):Prop :=
 (xs = []∧(∃ k0,v = .sl .nil k0 [])∧h'=h)∨(xs = []∧v = .sl .full k []∧h'=h)∨(xs≠[]∧v = .own h.length 0 xs.length∧h'=h ++ [.live k xs])
theorem AQ1 (h:Hp):FD Tryz.prog false h 57 0 []=some (.sl .full 1 [],h):=by kernel_rfl
theorem cok (f:FuncId) (G:Nat→AV) (hf:(match Tryz.prog.funcs[f]? with | some fn=>fn.body.isSome && !(fn.name == "runtime.NumGoroutine") | none=>false)=true):WO (En G).P f:=by
 have he:(En G).P=Tryz.prog:=rfl
 unfold WO
 rw [he]
 cases hx:Tryz.prog.funcs[f]? with
 | none=>rw [hx] at hf; cases hf
 | some fn =>
   rw [hx] at hf
   simp at hf
   exact ⟨fn,rfl,by simpa using hf.1,by simpa using hf.2⟩
def encI (n:Int):List AV := [.int .i64 n]
theorem encI0 (n:Int):(encI n)[0]? = some (.int .i64 n):=rfl
theorem AQJ (G:Nat→AV) (r:Rs) (h:Hp):PCall (En G) 235 [.sl r.m 2 (r.l.map encR)] h (.bool (decide (r.l.length=0))):=by
 refine CB (H:=Hint.none) (enM G) Tryz.func235 rfl (by kernel_rfl) (by kernel_rfl) (nLb (by kernel_rfl)) ?_
 show awp _ _ _ _ _ (EG _ [.tmp 2] _)
 simp -implicitDefEqProofs only [BC,BA,BK,A8,CJ,AY,BB,AO,AQ,AL,BD,AX,AC,AA,A7,AU,BH,BM,BG,AZ,BR,D7,AB,DY,BF,↓reduceIte,Nat.reduceEqDiff,oGs,bNf,enP,QD,lLm]
 refine ⟨?_,trivial⟩
 congr 1
 rw [Bool.eq_iff_iff]; simp
theorem AH2 (G:Nat→AV) (xs:List Rs) (m:SM) (fid:FuncId) (caps:List AV) (p:Rs→Bool) (h:Hp) (hl:xs.length≤1099511627776)
  (hf : ∀ r,PCall (En G) fid (.sl r.m 2 (r.l.map encR) :: caps) h (.bool (p r))) :
  PCall (En G) 260 [.sl m 1 (xs.map encS),.fn (.func fid) [] caps] h (.int .i64 (match xs.findIdx? p with | some i=>(i:Int) | none => -1)):=by
 refine CB (H:=Hint.none) (enM G) Tryz.func260 rfl (by kernel_rfl) (by kernel_rfl) (nLb (by kernel_rfl)) ?_
 show awp _ _ _ _ _ (EG _ [.tmp 4] _)
 simp -implicitDefEqProofs only [BC,BP,BA,A8,AY,BB,AO,AQ,AL,BD,AX,AC,AA,A7,AU,BH,BG,AZ,D7,AB,BF,↓reduceIte,Nat.reduceEqDiff,oGs,bNf,enP,PM,lLm]
 refine DR (fun n F H => ∃ k,n+k=xs.length∧F 0 = .sl m 1 (xs.map encS)∧F 1 = .fn (.func fid) [] caps∧F 7 = .int .i64 xs.length∧F 8 = .int .i64 (k:Nat)∧H=h∧(xs.take k).all (fun r => !p r)=true) xs.length ⟨0,by simp,rfl,rfl,rfl,rfl,rfl,rfl⟩ ?_
 rintro n F H ⟨k,hk,f0,f1,f7,f8,rfl,hin⟩
 simp -implicitDefEqProofs only [BC,BA,BI,A8,AY,BB,AO,AQ,AL,BD,AX,AC,AA,A7,BR,AB,DC,↓reduceIte,oGs,bNf,enP,f0,f1,f7,f8,lLm]
 refine CV (fun hc => ?_) (fun hc => ?_)
 ·have hc':k < xs.length:=by simpa using hc
  simp -implicitDefEqProofs only [BC,BP,BA,BO,A8,AY,BB,AO,AQ,AL,BD,AX,AC,AA,A7,BG,AZ,BV,CG,BZ,BU,AB,lMc,lMn,List.nil_append,List.cons_append,↓reduceIte,Nat.reduceEqDiff,oGs,bNf,enP,ZU,f0,f1,f7,f8,DZ hc',DV OG hc',Z4]
  refine (hf _).use ?_
  simp -implicitDefEqProofs only [BI,A8,BB,AC,AA,A7,↓reduceIte]
  refine CV (fun hb => ?_) (fun hb => ?_)
  ·simp -implicitDefEqProofs only [BC,BA,BK,A8,CP,D8,E8,CJ,AY,BB,AO,AQ,AL,BD,AX,AC,AA,A7,BG,AZ,↓reduceIte,Nat.reduceEqDiff,oGs,bNf]
   refine ⟨?_,trivial⟩
   rw [List.findIdx?_eq_some_iff_getElem.2 ⟨hc',hb,fun j hj=>by
    rw [List.all_eq_true] at hin
    have:=hin xs[j] (by rw [List.mem_take_iff_getElem]; exact ⟨j,by omega,rfl⟩)
    simpa using this⟩]
  ·simp -implicitDefEqProofs only [BA,BO,A8,EF,ER,AY,BB,AO,AQ,AL,BD,AX,AC,AA,A7,AU,BH,BG,BR,AB,DF,↓reduceIte,Nat.reduceEqDiff,oGs,bNf,enP,f8,wrap_succ (show k < 9223372036854775807 by omega)]
   refine ⟨n - 1,by omega,k+1,by omega,f0,f1,f7,rfl,trivial,?_⟩
   rw [List.take_succ_eq_append_getElem hc',List.all_append,hin]
   simp only [List.all_cons,List.all_nil,hb]; rfl
 ·have hc' : ¬ k < xs.length:=by simpa using hc
  simp -implicitDefEqProofs only [BC,BA,BK,DJ,A8,ED,EX,EU,CJ,AY,BB,AO,AQ,AL,BD,AX,AC,AA,AU,BH,AZ,↓reduceIte,oGs,bNf]
  refine ⟨?_,trivial⟩
  rw [List.take_of_length_le (by omega)] at hin
  rw [List.findIdx?_eq_none_iff.2 (by simpa using hin)]
theorem ACN (G:Nat→AV) (xs:List Rs) (m:SM) (fid:FuncId) (caps:List AV) (p:Rs→Bool) (h:Hp) (hl:xs.length≤1099511627776)
  (hf : ∀ r,PCall (En G) fid (.sl r.m 2 (r.l.map encR) :: caps) h (.bool (p r))) :
  PCall (En G) 234 [.sl m 1 (xs.map encS),.fn (.func fid) [] caps] h (.bool (xs.any p)):=by
 refine CB (H:=Hint.none) (enM G) Tryz.func234 rfl (by kernel_rfl) (by kernel_rfl) (nLb (by kernel_rfl)) ?_
 show awp _ _ _ _ _ (EG _ [.tmp 4] _)
 simp -implicitDefEqProofs only [BC,BA,A8,AY,BB,AO,AQ,AL,BD,AX,AC,AA,A7,AU,BX,BM,BG,AZ,BZ,BU,BF,BN,lMc,lMn,lAn,↓reduceIte,Nat.reduceEqDiff,oGs,bNf,enP]
 refine (AH2 G xs m fid caps p h hl hf).use ?_
 simp -implicitDefEqProofs only [BK,A8,CJ,AY,BB,AO,AQ,AL,BD,AX,AC,AA,A7,AU,BH,AZ,BR,AB,HY,↓reduceIte,oGs,bNf,enP]
 refine ⟨?_,trivial⟩
 cases hx:xs.findIdx? p with
 | some i =>
   obtain ⟨h1,h2,_⟩:=List.findIdx?_eq_some_iff_getElem.1 hx
   have:xs.any p=true:=List.any_eq_true.2 ⟨xs[i],by simp,h2⟩
   simp [this]
 | none =>
   have:xs.any p=false:=by
    rw [List.findIdx?_eq_none_iff] at hx
    rw [List.any_eq_false]; intro x hx2; simp [hx x hx2]
   simp [this]
def QN (n:Int):Bool:=decide (n≥97) && decide (n≤122)
def AIN (n:Int):Bool:=decide (n≥48) && decide (n≤57)
def NF (n:Int):Bool:=QN n || AIN n || (decide (n≥65) && decide (n≤90)) || n == 95
theorem ABX (G:Nat→AV) (n:Int) (h:Hp):PCall (En G) 227 [.int .i32 n] h (.bool (QN n)):=by
 refine CB (H:=Hint.none) (enM G) Tryz.func227 rfl (by kernel_rfl) (by kernel_rfl) (nLb (by kernel_rfl)) ?_
 show awp _ _ _ _ _ (EG _ [.tmp 2] _)
 simp -implicitDefEqProofs only [BC,BA,A8,AY,BB,BJ,BQ,CO,AO,AQ,AL,BD,AX,AC,AA,A7,AU,BH,BM,BG,AZ,BR,AB,HY,BF,↓reduceIte,Nat.reduceEqDiff,oGs,bNf,enP]
 refine GZ (fun ha => ?_) (fun ha => ?_)
 ·simp -implicitDefEqProofs only [BK,A8,CJ,AY,BB,BJ,BQ,CO,GG,AO,AQ,AL,BD,AX,AC,AA,A7,AU,BH,BM,BG,AZ,CU,DT,BR,AB,IC,BF,↓reduceIte,Nat.reduceEqDiff,oGs,bNf,enP,ha]
  exact ⟨by unfold QN; rw [ha]; rfl,trivial⟩
 ·simp -implicitDefEqProofs only [BK,A8,CJ,AY,BB,BJ,BQ,CO,IK,AO,AQ,AL,BD,AX,AC,AA,EQ,A7,AU,BM,AZ,CU,DL,↓reduceIte,Nat.reduceEqDiff,oGs,bNf,ha]
  exact ⟨by unfold QN; rw [ha]; rfl,trivial⟩
theorem AKE (G:Nat→AV) (n:Int) (h:Hp):PCall (En G) 256 [.int .i32 n] h (.bool (AIN n)):=by
 refine CB (H:=Hint.none) (enM G) Tryz.func256 rfl (by kernel_rfl) (by kernel_rfl) (nLb (by kernel_rfl)) ?_
 show awp _ _ _ _ _ (EG _ [.tmp 2] _)
 simp -implicitDefEqProofs only [BC,BA,A8,AY,BB,BJ,BQ,CO,AO,AQ,AL,BD,AX,AC,AA,A7,AU,BH,BM,BG,AZ,BR,AB,HY,BF,↓reduceIte,Nat.reduceEqDiff,oGs,bNf,enP]
 refine GZ (fun ha => ?_) (fun ha => ?_)
 ·simp -implicitDefEqProofs only [BK,A8,CJ,AY,BB,BJ,BQ,CO,GG,AO,AQ,AL,BD,AX,AC,AA,A7,AU,BH,BM,BG,AZ,CU,DT,BR,AB,IC,BF,↓reduceIte,Nat.reduceEqDiff,oGs,bNf,enP,ha]
  exact ⟨by unfold AIN; rw [ha]; rfl,trivial⟩
 ·simp -implicitDefEqProofs only [BK,A8,CJ,AY,BB,BJ,BQ,CO,IK,AO,AQ,AL,BD,AX,AC,AA,EQ,A7,AU,BM,AZ,CU,DL,↓reduceIte,Nat.reduceEqDiff,oGs,bNf,ha]
  exact ⟨by unfold AIN; rw [ha]; rfl,trivial⟩
theorem ADX (G:Nat→AV) (n:Int) (h:Hp):PCall (En G) 213 [.int .u8 n] h (.bool (QN n)):=by
 refine CB (H:=Hint.none) (enM G) Tryz.func213 rfl (by kernel_rfl) (by kernel_rfl) (nLb (by kernel_rfl)) ?_
 show awp _ _ _ _ _ (EG _ [.tmp 2] _)
 simp -implicitDefEqProofs only [BC,BA,A8,AY,BB,BJ,BQ,CO,AO,AQ,AL,BD,AX,AC,AA,A7,AU,BH,BM,BG,AZ,BR,AB,HY,BF,↓reduceIte,Nat.reduceEqDiff,oGs,bNf,enP]
 refine GZ (fun ha => ?_) (fun ha => ?_)
 ·simp -implicitDefEqProofs only [BK,A8,CJ,AY,BB,BJ,BQ,CO,GG,AO,AQ,AL,BD,AX,AC,AA,A7,AU,BH,BM,BG,AZ,CU,DT,BR,AB,IC,BF,↓reduceIte,Nat.reduceEqDiff,oGs,bNf,enP,ha]
  exact ⟨by unfold QN; rw [ha]; rfl,trivial⟩
 ·simp -implicitDefEqProofs only [BK,A8,CJ,AY,BB,BJ,BQ,CO,IK,AO,AQ,AL,BD,AX,AC,AA,EQ,A7,AU,BM,AZ,CU,DL,↓reduceIte,Nat.reduceEqDiff,oGs,bNf,ha]
  exact ⟨by unfold QN; rw [ha]; rfl,trivial⟩
theorem digit_ref (G:Nat→AV) (n:Int) (h:Hp):PCall (En G) 245 [.int .u8 n] h (.bool (AIN n)):=by
 refine CB (H:=Hint.none) (enM G) Tryz.func245 rfl (by kernel_rfl) (by kernel_rfl) (nLb (by kernel_rfl)) ?_
 show awp _ _ _ _ _ (EG _ [.tmp 2] _)
 simp -implicitDefEqProofs only [BC,BA,A8,AY,BB,BJ,BQ,CO,AO,AQ,AL,BD,AX,AC,AA,A7,AU,BH,BM,BG,AZ,BR,AB,HY,BF,↓reduceIte,Nat.reduceEqDiff,oGs,bNf,enP]
 refine GZ (fun ha => ?_) (fun ha => ?_)
 ·simp -implicitDefEqProofs only [BK,A8,CJ,AY,BB,BJ,BQ,CO,GG,AO,AQ,AL,BD,AX,AC,AA,A7,AU,BH,BM,BG,AZ,CU,DT,BR,AB,IC,BF,↓reduceIte,Nat.reduceEqDiff,oGs,bNf,enP,ha]
  exact ⟨by unfold AIN; rw [ha]; rfl,trivial⟩
 ·simp -implicitDefEqProofs only [BK,A8,CJ,AY,BB,BJ,BQ,CO,IK,AO,AQ,AL,BD,AX,AC,AA,EQ,A7,AU,BM,AZ,CU,DL,↓reduceIte,Nat.reduceEqDiff,oGs,bNf,ha]
  exact ⟨by unfold AIN; rw [ha]; rfl,trivial⟩
theorem XU (G:Nat→AV) (n:Int) (h:Hp):PCall (En G) 228 [.int .i32 n] h (.bool (NF n)):=by
 refine CB (H:=Hint.none) (enM G) Tryz.func228 rfl (by kernel_rfl) (by kernel_rfl) (nLb (by kernel_rfl)) ?_
 show awp _ _ _ _ _ (EG _ [.tmp 2] _)
 simp -implicitDefEqProofs only [BC,BA,A8,AY,BB,AO,AQ,AL,BD,AX,AC,AA,A7,AU,BX,BM,BG,AZ,BZ,BU,BF,lMc,lMn,lAn,↓reduceIte,Nat.reduceEqDiff,oGs,bNf,enP]
 refine (ABX G n h).use ?_
 simp -implicitDefEqProofs only [AY,BJ,BQ,CO,AO,AQ,AL,BD,AX,AC,AA,A7,BG,↓reduceIte,oGs,bNf]
 refine GZ (fun ha => ?_) (fun ha => ?_)
 ·simp -implicitDefEqProofs only [BK,A8,CJ,AY,BB,BJ,BQ,CO,FN,QQ,AO,AQ,AL,BD,AX,AC,AA,EQ,A7,AU,BM,BG,AZ,CU,DT,↓reduceIte,Nat.reduceEqDiff,oGs,bNf,ha]
  exact ⟨by unfold NF; rw [ha]; rfl,trivial⟩
 simp -implicitDefEqProofs only [BJ,BQ,CO,EK,AO,AQ,AL,BD,AX,AC,AA,A7,BX,BG,BZ,BU,BF,lMc,lMn,lAn,↓reduceIte,Nat.reduceEqDiff,oGs,bNf,ha]
 refine (AKE G n h).use ?_
 simp -implicitDefEqProofs only [AY,BJ,BQ,CO,AO,AQ,AL,BD,AX,AC,AA,A7,AU,BM,BG,CU,DL,↓reduceIte,Nat.reduceEqDiff,oGs,bNf]
 refine GZ (fun hb => ?_) (fun hb => ?_)
 ·simp -implicitDefEqProofs only [BK,A8,CJ,AY,BB,BJ,BQ,CO,FN,QQ,AO,AQ,AL,BD,AX,AC,AA,EQ,A7,AU,BM,BG,AZ,CU,DT,↓reduceIte,Nat.reduceEqDiff,oGs,bNf,hb]
  exact ⟨by unfold NF; rw [ha,hb]; rfl,trivial⟩
 simp -implicitDefEqProofs only [BJ,BQ,CO,EK,AO,AQ,AL,BD,AX,AC,AA,A7,AU,BH,BG,BR,AB,HY,BF,↓reduceIte,Nat.reduceEqDiff,oGs,bNf,enP,hb]
 refine GZ (fun hc => ?_) (fun hc => ?_)
 ·simp -implicitDefEqProofs only [AY,BJ,BQ,CO,GG,EK,AO,AQ,AL,BD,AX,AC,AA,A7,AU,BH,BM,BG,CU,DT,DL,BR,AB,IC,BF,↓reduceIte,Nat.reduceEqDiff,oGs,bNf,enP,hc]
  refine GZ (fun hd => ?_) (fun hd => ?_)
  ·simp -implicitDefEqProofs only [BK,A8,CJ,AY,BB,BJ,BQ,CO,FN,AO,AQ,AL,BD,AX,AC,AA,EQ,A7,AU,BM,AZ,CU,DT,↓reduceIte,Nat.reduceEqDiff,oGs,bNf,hd]
   exact ⟨by unfold NF; rw [ha,hb,hc,hd]; rfl,trivial⟩
  ·simp -implicitDefEqProofs only [BK,A8,CJ,AY,BB,BJ,BQ,CO,EK,AO,AQ,AL,BD,AX,AC,AA,A7,AU,BH,BM,BG,AZ,CU,DL,BR,AB,DY,BF,↓reduceIte,Nat.reduceEqDiff,oGs,bNf,enP,hd]
   exact ⟨by unfold NF; rw [ha,hb,hc,hd]; rfl,trivial⟩
 ·simp -implicitDefEqProofs only [BK,A8,CJ,AY,BB,BJ,BQ,CO,EK,IK,AO,AQ,AL,BD,AX,AC,AA,EQ,A7,AU,BH,BM,BG,AZ,CU,DL,BR,AB,DY,BF,↓reduceIte,Nat.reduceEqDiff,oGs,bNf,enP,hc]
  exact ⟨by unfold NF; rw [ha,hb,hc]; rfl,trivial⟩
theorem ANI (G:Nat→AV) (n:Int) (h:Hp):PCall (En G) 215 [.int .u8 n] h (.bool (NF n)):=by
 refine CB (H:=Hint.none) (enM G) Tryz.func215 rfl (by kernel_rfl) (by kernel_rfl) (nLb (by kernel_rfl)) ?_
 show awp _ _ _ _ _ (EG _ [.tmp 2] _)
 simp -implicitDefEqProofs only [BC,BA,A8,AY,BB,AO,AQ,AL,BD,AX,AC,AA,A7,AU,BX,BM,BG,AZ,BZ,BU,BF,lMc,lMn,lAn,↓reduceIte,Nat.reduceEqDiff,oGs,bNf,enP]
 refine (ADX G n h).use ?_
 simp -implicitDefEqProofs only [AY,BJ,BQ,CO,AO,AQ,AL,BD,AX,AC,AA,A7,BG,↓reduceIte,oGs,bNf]
 refine GZ (fun ha => ?_) (fun ha => ?_)
 ·simp -implicitDefEqProofs only [BK,A8,CJ,AY,BB,BJ,BQ,CO,FN,QQ,AO,AQ,AL,BD,AX,AC,AA,EQ,A7,AU,BM,BG,AZ,CU,DT,↓reduceIte,Nat.reduceEqDiff,oGs,bNf,ha]
  exact ⟨by unfold NF; rw [ha]; rfl,trivial⟩
 simp -implicitDefEqProofs only [BJ,BQ,CO,EK,AO,AQ,AL,BD,AX,AC,AA,A7,BX,BG,BZ,BU,BF,lMc,lMn,lAn,↓reduceIte,Nat.reduceEqDiff,oGs,bNf,ha]
 refine (digit_ref G n h).use ?_
 simp -implicitDefEqProofs only [AY,BJ,BQ,CO,AO,AQ,AL,BD,AX,AC,AA,A7,AU,BM,BG,CU,DL,↓reduceIte,Nat.reduceEqDiff,oGs,bNf]
 refine GZ (fun hb => ?_) (fun hb => ?_)
 ·simp -implicitDefEqProofs only [BK,A8,CJ,AY,BB,BJ,BQ,CO,FN,QQ,AO,AQ,AL,BD,AX,AC,AA,EQ,A7,AU,BM,BG,AZ,CU,DT,↓reduceIte,Nat.reduceEqDiff,oGs,bNf,hb]
  exact ⟨by unfold NF; rw [ha,hb]; rfl,trivial⟩
 simp -implicitDefEqProofs only [BJ,BQ,CO,EK,AO,AQ,AL,BD,AX,AC,AA,A7,AU,BH,BG,BR,AB,HY,BF,↓reduceIte,Nat.reduceEqDiff,oGs,bNf,enP,hb]
 refine GZ (fun hc => ?_) (fun hc => ?_)
 ·simp -implicitDefEqProofs only [AY,BJ,BQ,CO,GG,EK,AO,AQ,AL,BD,AX,AC,AA,A7,AU,BH,BM,BG,CU,DT,DL,BR,AB,IC,BF,↓reduceIte,Nat.reduceEqDiff,oGs,bNf,enP,hc]
  refine GZ (fun hd => ?_) (fun hd => ?_)
  ·simp -implicitDefEqProofs only [BK,A8,CJ,AY,BB,BJ,BQ,CO,FN,AO,AQ,AL,BD,AX,AC,AA,EQ,A7,AU,BM,AZ,CU,DT,↓reduceIte,Nat.reduceEqDiff,oGs,bNf,hd]
   exact ⟨by unfold NF; rw [ha,hb,hc,hd]; rfl,trivial⟩
  ·simp -implicitDefEqProofs only [BK,A8,CJ,AY,BB,BJ,BQ,CO,EK,AO,AQ,AL,BD,AX,AC,AA,A7,AU,BH,BM,BG,AZ,CU,DL,BR,AB,DY,BF,↓reduceIte,Nat.reduceEqDiff,oGs,bNf,enP,hd]
   exact ⟨by unfold NF; rw [ha,hb,hc,hd]; rfl,trivial⟩
 ·simp -implicitDefEqProofs only [BK,A8,CJ,AY,BB,BJ,BQ,CO,EK,IK,AO,AQ,AL,BD,AX,AC,AA,EQ,A7,AU,BH,BM,BG,AZ,CU,DL,BR,AB,DY,BF,↓reduceIte,Nat.reduceEqDiff,oGs,bNf,enP,hc]
  exact ⟨by unfold NF; rw [ha,hb,hc]; rfl,trivial⟩
def encStr (s:ByteArray):List AV := [.str s]
theorem encStr0 (s:ByteArray):(encStr s)[0]? = some (.str s):=rfl
def IJ (xs:List ByteArray) (v:ByteArray):Bool:=xs.any fun u=>v.toList == u.toList
theorem has_ref (G:Nat→AV) (xs:List ByteArray) (m:SM) (v:ByteArray) (h:Hp) (hl:xs.length≤1099511627776) :
  PCall (En G) 243 [.sl m 1 (xs.map encStr),.str v] h (.bool (IJ xs v)):=by
 refine CB (H:=Hint.none) (enM G) Tryz.func243 rfl (by kernel_rfl) (by kernel_rfl) (nLb (by kernel_rfl)) ?_
 show awp _ _ _ _ _ (EG _ [.tmp 4] _)
 simp -implicitDefEqProofs only [BC,BP,BA,A8,AY,BB,AO,AQ,AL,BD,AX,AC,AU,BH,BM,AZ,oGs,bNf,enP]
 refine DR (fun n F H => ∃ k,n+k=xs.length∧F 0 = .sl m 1 (xs.map encStr)∧F 1 = .str v∧F 5 = .int .i64 (k:Nat)∧H=h∧IJ xs v=IJ (xs.drop k) v) xs.length ⟨0,by simp,rfl,rfl,rfl,rfl,rfl⟩ ?_
 rintro n F H ⟨k,hk,f0,f1,f5,rfl,hin⟩
 simp -implicitDefEqProofs only [BC,BA,BI,A8,AY,BB,AO,AQ,AL,BD,AX,AC,AA,A7,BG,BR,D7,AB,DC,↓reduceIte,Nat.reduceEqDiff,oGs,bNf,enP,ZQ,f0,f1,f5,lLm]
 refine CV (fun hc => ?_) (fun hc => ?_)
 ·have hc':k < xs.length:=by simpa using hc
  have hs:IJ (xs.drop k) v=((v.toList == xs[k].toList) || IJ (xs.drop (k+1)) v):=KH _ xs k hc'
  simp -implicitDefEqProofs only [BC,BP,BA,BO,BI,A8,AY,BB,AO,AQ,AL,BD,AX,AC,AA,A7,BG,BV,BR,CG,AB,LG,↓reduceIte,Nat.reduceEqDiff,oGs,bNf,enP,AEA,f0,f1,f5,DZ hc',DV ag9 hc',encStr0]
  refine CV (fun hb => ?_) (fun hb => ?_)
  ·simp -implicitDefEqProofs only [BC,BA,BK,A8,CP,D8,E8,CJ,AY,BB,AO,AQ,AL,BD,AX,AC,AA,AU,BM,AZ,↓reduceIte,oGs,bNf]
   refine ⟨?_,trivial⟩
   rw [hin,hs,show (v.toList == xs[k].toList)=true by rw [BEq.comm]; exact hb]; rfl
  ·simp -implicitDefEqProofs only [BA,BO,A8,EF,ER,AY,BB,AO,AQ,AL,BD,AX,AC,AA,A7,AU,BH,BG,AZ,BR,AB,DF,↓reduceIte,Nat.reduceEqDiff,oGs,bNf,enP,f5,wrap_succ (show k < 9223372036854775807 by omega)]
   refine ⟨n - 1,by omega,k+1,by omega,f0,f1,rfl,trivial,?_⟩
   rw [hin,hs,show (v.toList == xs[k].toList)=false by rw [BEq.comm]; exact hb]; rfl
 ·have hc' : ¬ k < xs.length:=by simpa using hc
  simp -implicitDefEqProofs only [BC,BA,BK,DJ,A8,ED,EX,EU,CJ,AY,BB,AO,AQ,AL,BD,AX,AC,AA,AU,BM,AZ,↓reduceIte,oGs,bNf]
  exact ⟨by rw [hin,List.drop_eq_nil_of_le (by omega)]; rfl,trivial⟩
theorem AJ5 (G:Nat→AV) (xs:List ByteArray) (m:SM) (v:ByteArray) (h:Hp) (hl:xs.length≤1099511627776) :
  ∃ i:Int,(decide (i≥0)=IJ xs v)∧PCall (En G) 257 [.sl m 1 (xs.map encStr),.str v] h (.int .i64 i):=by
 refine ⟨(match xs.findIdx? (fun u=>v.toList == u.toList) with | some i=>(i:Int) | none => -1),?_,?_⟩
 ·cases hx:xs.findIdx? (fun u=>v.toList == u.toList) with
  | some i =>
    obtain ⟨h1,h2,_⟩:=List.findIdx?_eq_some_iff_getElem.1 hx
    have:IJ xs v=true:=List.any_eq_true.2 ⟨xs[i],by simp,h2⟩
    simp [this]
  | none =>
    have:IJ xs v=false:=by
     rw [List.findIdx?_eq_none_iff] at hx
     unfold IJ
     rw [List.any_eq_false]; intro x hx2; simp only [hx x hx2]; simp
    simp [this]
 refine CB (H:=Hint.none) (enM G) Tryz.func257 rfl (by kernel_rfl) (by kernel_rfl) (nLb (by kernel_rfl)) ?_
 show awp _ _ _ _ _ (EG _ [.tmp 4] _)
 simp -implicitDefEqProofs only [BC,BP,BA,A8,AY,BB,AO,AQ,AL,BD,AX,AC,AA,A7,AU,BH,BG,AZ,D7,AB,BF,↓reduceIte,Nat.reduceEqDiff,oGs,bNf,enP,ZQ,lLm]
 refine DR (fun n F H => ∃ k,n+k=xs.length∧F 0 = .sl m 1 (xs.map encStr)∧F 1 = .str v∧F 7 = .int .i64 xs.length∧F 8 = .int .i64 (k:Nat)∧H=h∧(xs.take k).all (fun u => !(v.toList == u.toList))=true) xs.length ⟨0,by simp,rfl,rfl,rfl,rfl,rfl,rfl⟩ ?_
 rintro n F H ⟨k,hk,f0,f1,f7,f8,rfl,hin⟩
 simp -implicitDefEqProofs only [BC,BA,BI,A8,AY,BB,AO,AQ,AL,BD,AX,AC,AA,A7,BR,AB,DC,↓reduceIte,oGs,bNf,enP,f0,f1,f7,f8,lLm]
 refine CV (fun hc => ?_) (fun hc => ?_)
 ·have hc':k < xs.length:=by simpa using hc
  simp -implicitDefEqProofs only [BC,BP,BA,BO,BI,A8,AY,BB,AO,AQ,AL,BD,AX,AC,AA,A7,BG,AZ,BV,BR,CG,AB,LG,↓reduceIte,Nat.reduceEqDiff,oGs,bNf,enP,AEA,f0,f1,f7,f8,DZ hc',DV ag9 hc',encStr0]
  refine CV (fun hb => ?_) (fun hb => ?_)
  ·simp -implicitDefEqProofs only [BC,BA,BK,A8,CP,D8,E8,CJ,AY,BB,AO,AQ,AL,BD,AX,AC,AA,A7,BG,AZ,↓reduceIte,Nat.reduceEqDiff,oGs,bNf]
   refine ⟨?_,trivial⟩
   rw [List.findIdx?_eq_some_iff_getElem.2 ⟨hc',hb,fun j hj=>by
    rw [List.all_eq_true] at hin
    have:=hin xs[j] (by rw [List.mem_take_iff_getElem]; exact ⟨j,by omega,rfl⟩)
    simpa using this⟩]
  ·simp -implicitDefEqProofs only [BA,BO,A8,EF,ER,AY,BB,AO,AQ,AL,BD,AX,AC,AA,A7,AU,BH,BG,BR,AB,DF,↓reduceIte,Nat.reduceEqDiff,oGs,bNf,enP,f8,wrap_succ (show k < 9223372036854775807 by omega)]
   refine ⟨n - 1,by omega,k+1,by omega,f0,f1,f7,rfl,trivial,?_⟩
   rw [List.take_succ_eq_append_getElem hc',List.all_append,hin]
   simp only [List.all_cons,List.all_nil,hb]; rfl
 ·have hc' : ¬ k < xs.length:=by simpa using hc
  simp -implicitDefEqProofs only [BC,BA,BK,DJ,A8,ED,EX,EU,CJ,AY,BB,AO,AQ,AL,BD,AX,AC,AA,AU,BH,AZ,↓reduceIte,oGs,bNf]
  refine ⟨?_,trivial⟩
  rw [List.take_of_length_le (by omega)] at hin
  rw [List.findIdx?_eq_none_iff.2 (by
   intro x hx
   rw [List.all_eq_true] at hin
   simpa using hin x hx)]
theorem ADL (G:Nat→AV) (xs:List ByteArray) (m:SM) (v:ByteArray) (h:Hp) (hl:xs.length≤1099511627776) :
  PCall (En G) 229 [.sl m 1 (xs.map encStr),.str v] h (.bool (IJ xs v)):=by
 obtain ⟨i,hi,hp⟩:=AJ5 G xs m v h hl
 refine CB (H:=Hint.none) (enM G) Tryz.func229 rfl (by kernel_rfl) (by kernel_rfl) (nLb (by kernel_rfl)) ?_
 show awp _ _ _ _ _ (EG _ [.tmp 4] _)
 simp -implicitDefEqProofs only [BC,BA,A8,AY,BB,AO,AQ,AL,BD,AX,AC,AA,A7,AU,BX,BM,BG,AZ,BZ,BU,BF,BN,lMc,lMn,lAn,↓reduceIte,Nat.reduceEqDiff,oGs,bNf,enP]
 refine hp.use ?_
 simp -implicitDefEqProofs only [BK,A8,CJ,AY,BB,AO,AQ,AL,BD,AX,AC,AA,A7,AU,BH,AZ,BR,AB,HY,↓reduceIte,oGs,bNf,enP]
 exact ⟨by rw [hi],trivial⟩
def kw:List ByteArray := [⟨#[99,108,97,115,115]⟩,⟨#[101,120,116,101,110,100,115]⟩,⟨#[114,97,110,100]⟩,⟨#[114,97,110,100,99]⟩,⟨#[115,116,97,116,101]⟩,⟨#[99,111,110,115,116,114,97,105,110,116]⟩,⟨#[115,111,102,116]⟩,⟨#[100,105,115,116]⟩,⟨#[105,102]⟩,⟨#[101,108,115,101]⟩,⟨#[101,97,99,104]⟩,⟨#[105,110]⟩,⟨#[115,111,108,118,101]⟩,⟨#[98,101,102,111,114,101]⟩,⟨#[105,110,115,105,100,101]⟩,⟨#[112,114,111,112,101,114,116,121]⟩,⟨#[115,101,113]⟩,⟨#[97,110,100]⟩,⟨#[111,114]⟩,⟨#[110,111,116]⟩,⟨#[115,101,116]⟩,⟨#[104,111,108,100]⟩,⟨#[112,108,97,105,110]⟩,⟨#[114,101,112,101,97,116]⟩]
theorem APT:kw.length=24:=rfl
theorem AFM (G:Nat→AV) (h:Hp):PCall (En G) 244 [] h (.sl .full 1 (kw.map encStr)):=by
 refine CB (H:=Hint.none) (enM G) Tryz.func244 rfl (by kernel_rfl) (by kernel_rfl) (nLb (by kernel_rfl)) ?_
 show awp _ _ _ _ _ (EG _ [.tmp 0] _)
 simp -implicitDefEqProofs only [FI,FZ,BC,BA,A8,AY,BB,AO,AQ,AL,BD,AX,AC,AU,IM,JG,AZ,ES,oGs,bNf,enP]
 refine JW (v := .sl .full 1 (kw.map encStr)) (h:=h) (by kernel_rfl) ?_
 simp -implicitDefEqProofs only [BK,A8,CJ,AY,BB,AO,AQ,AL,BD,AX,AC,AA,A7,AZ,↓reduceIte,oGs,bNf]
 exact ⟨trivial,trivial⟩
theorem ADF (G:Nat→AV) (v:ByteArray) (h:Hp):PCall (En G) 214 [.str v] h (.bool (IJ kw v)):=by
 refine CB (H:=Hint.none) (enM G) Tryz.func214 rfl (by kernel_rfl) (by kernel_rfl) (nLb (by kernel_rfl)) ?_
 show awp _ _ _ _ _ (EG _ [.tmp 2] _)
 simp -implicitDefEqProofs only [BC,BA,A8,AY,BB,AO,AQ,AL,BD,AX,AC,AU,BX,BM,AZ,BZ,BU,lMn,lAn,oGs,bNf,enP]
 refine (AFM G h).use ?_
 simp -implicitDefEqProofs only [AY,AO,AQ,AL,BD,AX,AC,AA,A7,BX,BG,BZ,BU,BF,lMc,lMn,lAn,↓reduceIte,Nat.reduceEqDiff,oGs,bNf]
 refine (has_ref G kw .full v h (by rw [APT]; omega)).use ?_
 simp -implicitDefEqProofs only [BK,A8,CJ,AY,BB,AO,AQ,AL,BD,AX,AC,AA,A7,AZ,↓reduceIte,oGs,bNf]
 exact ⟨trivial,trivial⟩
def KwG (G:Nat→AV):Prop := ∃ m,G 0 = .fptr 1 [[.sl m 1 (kw.map encStr)]] 0 0
theorem AB1 (G:Nat→AV) (hG:KwG G) (v:ByteArray) (h:Hp):PCall (En G) 195 [.str v] h (.bool (IJ kw v)):=by
 obtain ⟨m,hg⟩:=hG
 refine CB (H:=Hint.none) (enM G) Tryz.func195 rfl (by kernel_rfl) (by kernel_rfl) (nLb (by kernel_rfl)) ?_
 show awp _ _ _ _ _ (EG _ [.tmp 2] _)
 have e:D6 Tryz.prog h 179 (G 0)=some (.sl m 1 (kw.map encStr)):=by rw [hg]; exact QC AE0 rfl rfl
 have hl:kw.length≤1099511627776:=by rw [APT]; omega
 simp -implicitDefEqProofs only [BC,BA,A8,AY,BB,AO,AQ,AL,BD,AX,AC,AA,A7,AU,BX,ATS,BM,BG,AZ,BV,BZ,BU,AB,BF,lMc,lMn,lAn,↓reduceIte,Nat.reduceEqDiff,oGs,bNf,enP,enG,e]
 refine (ADL G kw m v h hl).use ?_
 simp -implicitDefEqProofs only [BK,A8,CJ,AY,BB,AO,AQ,AL,BD,AX,AC,AA,A7,AZ,↓reduceIte,oGs,bNf]
 exact ⟨trivial,trivial⟩
def RG (s:ByteArray):Bool:=(match s.data.toList with | []=>false | b :: _=>QN b.toNat) && s.data.toList.all fun b=>NF b.toNat
def G6 (s:ByteArray):Bool:=RG s && decide (s.size≤16) && !IJ kw s
theorem YZ {n:Int} (h:NF n=true):n < 128:=by
 simp only [NF,QN,AIN,Bool.or_eq_true,Bool.and_eq_true,decide_eq_true_eq,beq_iff_eq] at h
 omega
theorem ASL (h:Hp) (s:ByteArray):ZH Tryz.prog h 9 (.str s)=some (.ptr h.length 0 0,h ++ [.iter s 0]):=by
 have:Tryz.prog.underlying 9=some .string:=by kernel_rfl
 simp [ZH,this]
theorem AS2 {h:Hp} {s:ByteArray} {pos:Nat} (hp:pos < s.size):AAB (h ++ [.iter s pos]) (.ptr h.length 0 0) true=some (.tup [.bool true,.int .i64 pos,.int .i32 (Utf8.decode s pos).1],h ++ [.iter s (pos+(Utf8.decode s pos).2)]):=by
 simp [AAB,hp]
theorem APJ {h:Hp} {s:ByteArray} {pos:Nat} (hp : ¬ pos < s.size):AAB (h ++ [.iter s pos]) (.ptr h.length 0 0) true=some (.tup [.bool false],h ++ [.iter s pos]):=by
 simp [AAB,hp]
theorem SC {s:ByteArray} {k:Nat} (hk:k < s.size) (hb:NF (s[k]'hk).toNat=false):RG s=false:=by
 unfold RG
 have:(s.data.toList.all fun b=>NF b.toNat)=false:=by
  rw [List.all_eq_false]
  exact ⟨s[k],Array.getElem_mem_toList (xs:=s.data) hk,by simp [hb]⟩
 rw [this]; simp
theorem ZJ {s:ByteArray} (hk:0 < s.size) (hb:QN (s[0]'hk).toNat=false):RG s=false:=by
 unfold RG
 have:(match s.data.toList with | []=>false | b :: _=>QN b.toNat)=false:=by
  cases hl:s.data.toList with
  | nil=>rfl
  | cons b l =>
    have h0:s[0]'hk=b:=by
     have:s.data.toList[0]? = some b:=by rw [hl]; rfl
     have h2:s.data[0]? = some b:=by rw [← Array.getElem?_toList]; exact this
     have hk':0 < s.data.size:=hk
     rw [Array.getElem?_eq_getElem hk'] at h2
     exact Option.some.inj h2
    simp only
    rw [← h0]; exact hb
 rw [this]; simp
theorem AGT {s:ByteArray} (hk:0 < s.size) (hb:QN (s[0]'hk).toNat=true) (ha : ∀ i (hi:i < s.size),NF (s[i]'hi).toNat=true):RG s=true:=by
 unfold RG
 have h1:(match s.data.toList with | []=>false | b :: _=>QN b.toNat)=true:=by
  cases hl:s.data.toList with
  | nil =>
    have:s.data.toList.length=0:=by rw [hl]; rfl
    have h2:s.data.size=0:=by simpa using this
    have h3:s.size=s.data.size:=rfl
    omega
  | cons b l =>
    have h0:s[0]'hk=b:=by
     have:s.data.toList[0]? = some b:=by rw [hl]; rfl
     have h2:s.data[0]? = some b:=by rw [← Array.getElem?_toList]; exact this
     have hk':0 < s.data.size:=hk
     rw [Array.getElem?_eq_getElem hk'] at h2
     exact Option.some.inj h2
    simp only
    rw [← h0]; exact hb
 rw [h1,Bool.true_and,List.all_eq_true]
 intro b hbm
 obtain ⟨i,hi,rfl⟩:=List.getElem_of_mem hbm
 have hi':i < s.size:=by simpa using hi
 exact ha i hi'
theorem AMR (G:Nat→AV) (s:ByteArray) (h:Hp) (hl:s.size≤1099511627776):PCall (En G) 194 [.str s] h (.bool (RG s)):=by
 refine ACalls.pure0 rfl ?_
 refine CB (H:=Hint.none) (enM G) Tryz.func194 rfl (by kernel_rfl) (by kernel_rfl) (nLb (by kernel_rfl)) ?_
 show awp _ _ _ _ _ (EG _ [.tmp 2] _)
 simp -implicitDefEqProofs only [BC,BP,BA,A8,AY,BB,AO,AQ,AL,BD,AX,AC,AA,A7,AU,BM,BG,AZ,AR1,CE,BF,↓reduceIte,Nat.reduceEqDiff,oGs,bNf,enP,ASL]
 refine DR (fun n F H => ∃ k,n+k=s.size∧F 0 = .str s∧F 6 = .ptr h.length 0 0∧H=h ++ [.iter s k]∧(∀ i (hi:i < s.size),i < k→NF (s[i]'hi).toNat=true)∧(∀ hp:0 < s.size,0 < k→QN (s[0]'hp).toNat=true)) s.size ⟨0,by simp,rfl,by simp -implicitDefEqProofs only [AA,↓reduceIte],rfl,fun _ _ h=>absurd h (by omega),fun _ h=>absurd h (by omega)⟩ ?_
 rintro n F H ⟨k,hk,f0,f6,rfl,hall,h0⟩
 rcases Classical.em (k < s.size) with hp | hp
 ·have go : ∀ (r:Nat × Nat),Utf8.decode s k=r→(NF r.1=true→r=((s[k]'hp).toNat,1)∧NF (s[k]'hp).toNat=true)∧(NF r.1=false→RG s=false)∧(QN r.1=false→k=0→RG s=false)∧(QN r.1=true→NF r.1=true):=by
   rintro r rfl
   have lf : ∀ n,QN n=true→NF n=true:=fun n hn=>by unfold NF; rw [hn]; rfl
   rcases Nat.lt_or_ge (s[k]'hp).toNat 128 with ha | ha
   ·have hd:=decode_ascii s k hp ha
    rw [hd]
    exact ⟨fun hf=>⟨rfl,hf⟩,fun hf=>SC hp hf,fun hf h0=>by subst h0; exact ZJ hp hf,lf _⟩
   ·have hd:=(decode_high s k hp ha).1
    refine ⟨fun hf => ?_,fun _ => ?_,fun _ h0 => ?_,lf _⟩
    ·have:=YZ hf; omega
    ·refine SC hp ?_
     cases hf:NF (s[k]'hp).toNat with
     | false=>rfl
     | true=>have:=YZ hf; omega
    ·refine SC hp ?_
     cases hf:NF (s[k]'hp).toNat with
     | false=>rfl
     | true=>have:=YZ hf; omega
  simp -implicitDefEqProofs only [List.getElem?_cons_zero,List.getElem?_cons_succ,BC,BP,BA,BO,BI,A8,C9,AY,BB,BJ,BQ,CO,AO,AQ,AL,BD,AX,AC,AA,A7,AU,BH,BG,AZ,BR,AOK,FQ,G9,CE,AB,DY,↓reduceIte,Nat.reduceEqDiff,oGs,bNf,enP,f0,f6,AS2 hp]
  generalize hr:Utf8.decode s k=r at go
  obtain ⟨g1,g2,g3,g4⟩:=go r rfl
  have done : ∀ H',NF r.1=true→(k=0→QN r.1=true)→H'=h ++ [ABlk.iter s (k+r.2)]→∃ m,m < n∧∃ k',m+k'=s.size∧H'=h ++ [.iter s k']∧(∀ i (hi:i < s.size),i < k'→NF (s[i]'hi).toNat=true)∧(∀ hp:0 < s.size,0 < k'→QN (s[0]'hp).toNat=true):=by
   intro H' hf hlw hH
   obtain ⟨e1,e2⟩:=g1 hf
   refine ⟨n - 1,by omega,k+1,by omega,by rw [hH,e1],fun i hi hik => ?_,fun hp0 _ => ?_⟩
   ·rcases Nat.lt_or_ge i k with h' | h'
    ·exact hall i hi h'
    ·have:i=k:=by omega
     subst this; exact e2
   ·rcases Nat.eq_zero_or_pos k with h' | h'
    ·subst h'; have:=hlw rfl; rw [e1] at this; exact this
    ·exact h0 hp0 h'
  refine GZ (fun ha => ?_) (fun ha => ?_)
  ·have hk0:k=0:=by simp at ha; omega
   simp -implicitDefEqProofs only [BJ,BQ,CO,GG,AO,AQ,AL,BD,AX,AC,AA,A7,BX,BG,BZ,BU,lMc,lMn,lAn,↓reduceIte,Nat.reduceEqDiff,oGs,bNf,ha]
   refine (ABX G _ _).use ?_
   simp -implicitDefEqProofs only [AY,BJ,BQ,CO,GG,AO,AQ,AL,BD,AX,AC,AA,A7,AU,BM,BG,CU,DT,H9,AB,EZ,↓reduceIte,Nat.reduceEqDiff,oGs,bNf]
   refine GZ (fun hb => ?_) (fun hb => ?_)
   ·simp -implicitDefEqProofs only [BC,BA,BK,BI,A8,CP,D8,E8,CJ,C9,AY,BB,BJ,BQ,CO,FN,AO,AQ,AL,BD,AX,AC,AA,EQ,A7,AU,BM,AZ,CU,DT,↓reduceIte,Nat.reduceEqDiff,oGs,bNf,hb]
    have hlw:QN r.1=false:=by simpa using hb
    exact ⟨by rw [g3 hlw hk0],_,rfl⟩
   have hlw:QN r.1=true:=by simpa using hb
   simp -implicitDefEqProofs only [BJ,BQ,CO,EK,AO,AQ,AL,BD,AX,AC,AA,A7,BX,BG,BZ,BU,lMc,lMn,lAn,↓reduceIte,Nat.reduceEqDiff,oGs,bNf,hb]
   refine (XU G _ _).use ?_
   simp -implicitDefEqProofs only [BI,A8,AY,BB,BJ,BQ,CO,EK,AO,AQ,AL,BD,AX,AC,AA,A7,AU,BM,CU,DL,H9,AB,EZ,↓reduceIte,Nat.reduceEqDiff,oGs,bNf]
   have hf:=g4 hlw
   simp -implicitDefEqProofs only [BO,EF,ER,DN,AA,↓reduceIte,Nat.reduceEqDiff,bNt,hf]
   obtain ⟨m,h1,k',h2,h3,h4,h5⟩:=done _ hf (fun _=>hlw) rfl
   exact ⟨m,h1,k',h2,f0,f6,h3,h4,h5⟩
  ·have hk0:k≠0:=by intro e; subst e; simp at ha
   simp -implicitDefEqProofs only [AY,BJ,BQ,CO,EK,IK,AO,AQ,AL,BD,AX,AC,AA,EQ,A7,AU,BX,BM,BG,CU,DL,BZ,BU,lMc,lMn,lAn,↓reduceIte,Nat.reduceEqDiff,oGs,bNf,ha]
   refine (XU G _ _).use ?_
   simp -implicitDefEqProofs only [BI,A8,AY,BB,BJ,BQ,CO,EK,AO,AQ,AL,BD,AX,AC,AA,A7,AU,BM,CU,DL,H9,AB,EZ,↓reduceIte,Nat.reduceEqDiff,oGs,bNf]
   refine CV (fun hb => ?_) (fun hb => ?_)
   ·have hf:NF r.1=false:=by simpa using hb
    simp -implicitDefEqProofs only [BC,BA,BK,A8,CP,D8,E8,CJ,AY,BB,AO,AQ,AL,BD,AX,AC,AA,AU,BM,AZ,↓reduceIte,oGs,bNf]
    exact ⟨by rw [g2 hf],_,rfl⟩
   ·have hf:NF r.1=true:=by simpa using hb
    simp -implicitDefEqProofs only [BO,EF,ER,AA,↓reduceIte,Nat.reduceEqDiff]
    obtain ⟨m,h1,k',h2,h3,h4,h5⟩:=done _ hf (fun e=>absurd e hk0) rfl
    exact ⟨m,h1,k',h2,f0,f6,h3,h4,h5⟩
 ·simp -implicitDefEqProofs only [List.getElem?_cons_zero,BC,BA,BK,DJ,BI,A8,ED,EX,EU,CJ,DN,AY,BB,AO,AQ,AL,BD,AX,AC,AA,A7,AU,IM,BG,AZ,BR,AOK,FQ,G9,CE,AB,ACT,↓reduceIte,Nat.reduceEqDiff,oGs,bNf,enP,f0,f6,APJ hp]
  have hks:k=s.size:=by omega
  refine ⟨?_,_,rfl⟩
  congr 1
  rcases Nat.eq_zero_or_pos s.size with hz | hz
  ·have:s=⟨#[]⟩:=by
    obtain ⟨d⟩:=s
    have:d.size=0:=hz
    rw [Array.eq_empty_of_size_eq_zero this]
   subst this
   rw [ByteArray.toList_eq]
   rfl
  ·rw [AGT hz (h0 hz (by omega)) (fun i hi=>hall i hi (by omega))]
   have hne:s.toList≠[]:=by
    rw [ByteArray.toList_eq]
    intro e
    have:s.data.toList.length=0:=by rw [e]; rfl
    have h2:s.data.size=0:=by simpa using this
    have h3:s.size=s.data.size:=rfl
    omega
   cases hl2:s.toList with
   | nil=>exact absurd hl2 hne
   | cons=>rw [ByteArray.toList_eq]; rfl
theorem NR (G:Nat→AV) (hG:KwG G) (s:ByteArray) (h:Hp) (hl:s.size≤1099511627776):PCall (En G) 150 [.str s] h (.bool (G6 s)):=by
 refine CB (H:=Hint.none) (enM G) Tryz.func150 rfl (by kernel_rfl) (by kernel_rfl) (nLb (by kernel_rfl)) ?_
 show awp _ _ _ _ _ (EG _ [.tmp 2] _)
 simp -implicitDefEqProofs only [BC,BA,A8,AY,BB,AO,AQ,AL,BD,AX,AC,AA,A7,AU,BX,BM,BG,AZ,BZ,BU,BF,lMc,lMn,lAn,↓reduceIte,Nat.reduceEqDiff,oGs,bNf,enP]
 refine (AMR G s h hl).use ?_
 simp -implicitDefEqProofs only [AY,BJ,BQ,CO,AO,AQ,AL,BD,AX,AC,AA,A7,BG,↓reduceIte,oGs,bNf]
 refine GZ (fun ha => ?_) (fun ha => ?_)
 ·simp -implicitDefEqProofs only [AY,BJ,BQ,CO,GG,AO,AQ,AL,BD,AX,AC,AA,A7,AU,BH,BM,BG,CU,DT,BR,D7,AB,IC,BF,↓reduceIte,Nat.reduceEqDiff,oGs,bNf,enP,ln9,ha]
  refine GZ (fun hb => ?_) (fun hb => ?_)
  ·simp -implicitDefEqProofs only [BJ,BQ,CO,GG,AO,AQ,AL,BD,AX,AC,AA,A7,BX,BG,BZ,BU,BF,lMc,lMn,lAn,↓reduceIte,Nat.reduceEqDiff,oGs,bNf,hb]
   refine (AB1 G hG s h).use ?_
   simp -implicitDefEqProofs only [BK,A8,CJ,AY,BB,BJ,BQ,CO,GG,AO,AQ,AL,BD,AX,AC,AA,A7,AU,BM,AZ,CU,DT,H9,AB,EZ,↓reduceIte,Nat.reduceEqDiff,oGs,bNf]
   refine ⟨?_,trivial⟩
   have:decide (s.size≤16)=true:=by simp at hb ⊢; omega
   unfold G6; rw [ha,this]; rfl
  ·simp -implicitDefEqProofs only [BK,A8,CJ,AY,BB,BJ,BQ,CO,IK,AO,AQ,AL,BD,AX,AC,AA,EQ,A7,AU,BM,AZ,CU,DL,↓reduceIte,Nat.reduceEqDiff,oGs,bNf,hb]
   refine ⟨?_,trivial⟩
   have:decide (s.size≤16)=false:=by simp at hb ⊢; omega
   unfold G6; rw [ha,this]; rfl
 ·simp -implicitDefEqProofs only [BK,A8,CJ,AY,BB,BJ,BQ,CO,IK,AO,AQ,AL,BD,AX,AC,AA,EQ,A7,AU,BM,BG,AZ,CU,DL,↓reduceIte,Nat.reduceEqDiff,oGs,bNf,ha]
  exact ⟨by unfold G6; rw [ha]; rfl,trivial⟩
theorem ix9 (s:ByteArray) (k:Nat) (kk:IntKind) (hk:k < s.size):NI Tryz.prog 9 (.str s) (.int kk (k:Int))=some (.int .u8 (s[k]'hk).toNat):=by
 have hu:Tryz.prog.underlying 9=some .string:=by kernel_rfl
 have h0:(0:Int)≤(k:Int):=by omega
 have:s[k]? = some (s[k]'hk):=by simp [hk]
 simp [NI,hu,h0,this]
theorem OT (G:Nat→AV) (s:ByteArray) (h:Hp):PCall (En G) 160 [.str s] h (.bool (G6 s)):=by
 refine CB (H:=Hint.none) (enM G) Tryz.func160 rfl (by kernel_rfl) (by kernel_rfl) (nLb (by kernel_rfl)) ?_
 show awp _ _ _ _ _ (EG _ [.tmp 2] _)
 simp -implicitDefEqProofs only [BC,BA,A8,AY,BB,BJ,BQ,CO,AO,AQ,AL,BD,AX,AC,AA,A7,AU,BM,IM,BG,AZ,BR,AB,LG,BF,↓reduceIte,Nat.reduceEqDiff,oGs,bNf,enP]
 refine GZ (fun ha => ?_) (fun ha => ?_)
 ·simp -implicitDefEqProofs only [BC,BA,BK,BI,A8,CP,CJ,C9,AY,BB,BJ,BQ,CO,FN,AO,AQ,AL,BD,AX,AC,AA,EQ,A7,AU,BM,BG,AZ,CU,DT,↓reduceIte,Nat.reduceEqDiff,oGs,bNf,ha]
  refine ⟨?_,trivial⟩
  have:s.data.toList = []:=by
   rw [ByteArray.toList_eq,ByteArray.toList_eq] at ha
   have:=beq_iff_eq.1 ha
   exact this
  unfold G6 RG; rw [this]; rfl
 have hz:0 < s.size:=by
  rcases Nat.eq_zero_or_pos s.size with hz | hz
  ·have:s=⟨#[]⟩:=by
    obtain ⟨d⟩:=s
    have:d.size=0:=hz
    rw [Array.eq_empty_of_size_eq_zero this]
   rw [this] at ha
   simp at ha
  ·exact hz
 simp -implicitDefEqProofs only [AY,BJ,BQ,CO,EK,AO,AQ,AL,BD,AX,AC,AA,A7,AU,BH,BM,BG,CU,DL,BR,D7,AB,EY,BF,↓reduceIte,Nat.reduceEqDiff,oGs,bNf,enP,ln9,ha]
 refine GZ (fun hb => ?_) (fun hb => ?_)
 ·simp -implicitDefEqProofs only [BC,BA,BK,BI,A8,CP,CJ,C9,AY,BB,BJ,BQ,CO,FN,AO,AQ,AL,BD,AX,AC,AA,EQ,A7,AU,BM,BG,AZ,CU,DT,↓reduceIte,Nat.reduceEqDiff,oGs,bNf,hb]
  refine ⟨?_,trivial⟩
  have:decide (s.size≤16)=false:=by simp at hb ⊢; omega
  unfold G6; rw [this]; simp
 have h16:decide (s.size≤16)=true:=by simp at hb ⊢; omega
 simp -implicitDefEqProofs only [BJ,BQ,CO,EK,AO,AQ,AL,BD,AX,AC,AA,A7,AU,BH,BG,NY,BF,↓reduceIte,Nat.reduceEqDiff,oGs,bNf,enP,hb]
 refine JW (v := .int .u8 (s[0]'hz).toNat) (h:=h) (by rw [show (0:Int)=((0:Nat):Int) from rfl,ix9 s 0 .i64 hz]; rfl) ?_
 simp -implicitDefEqProofs only [BJ,BQ,CO,EK,AO,AQ,AL,BD,AX,AC,AA,A7,BX,BZ,BU,lMc,lMn,lAn,↓reduceIte,Nat.reduceEqDiff,oGs,bNf]
 refine (ADX G _ h).use ?_
 simp -implicitDefEqProofs only [AY,BJ,BQ,CO,EK,AO,AQ,AL,BD,AX,AC,AA,A7,AU,BM,BG,CU,DL,H9,AB,EZ,↓reduceIte,Nat.reduceEqDiff,oGs,bNf]
 refine GZ (fun hc => ?_) (fun hc => ?_)
 ·simp -implicitDefEqProofs only [BC,BA,BK,BI,A8,CP,CJ,C9,AY,BB,BJ,BQ,CO,FN,AO,AQ,AL,BD,AX,AC,AA,EQ,A7,AU,BM,AZ,CU,DT,↓reduceIte,Nat.reduceEqDiff,oGs,bNf,hc]
  refine ⟨?_,trivial⟩
  unfold G6; rw [ZJ hz (by simpa using hc)]; rfl
 simp -implicitDefEqProofs only [BJ,BQ,CO,EK,AO,AQ,AL,BD,AX,AC,AA,A7,BX,BG,BZ,BU,BF,lMc,lMn,lAn,↓reduceIte,Nat.reduceEqDiff,oGs,bNf,hc]
 refine (ADF G s h).use ?_
 simp -implicitDefEqProofs only [BI,A8,AY,BB,AO,AQ,AL,BD,AX,AC,AA,A7,AU,BM,CU,DL,↓reduceIte,Nat.reduceEqDiff,oGs,bNf]
 refine CV (fun hd => ?_) (fun hd => ?_)
 ·simp -implicitDefEqProofs only [BC,BA,BK,A8,CP,CJ,AY,BB,AO,AQ,AL,BD,AX,AC,AA,AU,BM,AZ,↓reduceIte,oGs,bNf]
  refine ⟨?_,trivial⟩
  unfold G6; rw [hd]; simp
 simp -implicitDefEqProofs only [BC,BP,BA,BO,A8,AY,BB,AO,AQ,AL,BD,AX,AC,AU,BH,AZ,oGs,bNf]
 have hlow:QN (s[0]'hz).toNat=true:=by simpa using hc
 refine DR (fun n F H => ∃ k,n+k=s.size∧F 0 = .str s∧F 3 = .int .i64 (k:Nat)∧H=h∧(∀ i (hi:i < s.size),i < k→NF (s[i]'hi).toNat=true)) s.size ⟨0,by simp,by simp -implicitDefEqProofs only [AA,BF,↓reduceIte,Nat.reduceEqDiff],by simp -implicitDefEqProofs only [AA,↓reduceIte]; rfl,rfl,fun _ _ h=>absurd h (by omega)⟩ ?_
 rintro n F H ⟨k,hk,f0,f3,rfl,hall⟩
 simp -implicitDefEqProofs only [BC,BA,BI,A8,AY,BB,AO,AQ,AL,BD,AX,AC,AA,A7,BG,BR,D7,AB,DC,↓reduceIte,Nat.reduceEqDiff,oGs,bNf,enP,ln9,f0,f3]
 refine CV (fun he => ?_) (fun he => ?_)
 ·have hk':k < s.size:=by simpa using he
  simp -implicitDefEqProofs only [BC,BP,BA,BO,A8,AY,AO,AQ,AL,BD,AX,AC,AA,A7,BX,BG,NY,BZ,BU,AB,lMc,lMn,lAn,↓reduceIte,Nat.reduceEqDiff,oGs,bNf,enP,f0,f3,ix9 s k .i64 hk']
  refine (ANI G _ _).use ?_
  simp -implicitDefEqProofs only [BI,A8,AY,BB,AO,AQ,AL,BD,AX,AC,AA,A7,H9,AB,EZ,↓reduceIte,oGs,bNf]
  refine CV (fun hf => ?_) (fun hf => ?_)
  ·simp -implicitDefEqProofs only [BC,BA,BK,A8,CP,D8,E8,CJ,AY,BB,AO,AQ,AL,BD,AX,AC,AA,AU,BM,AZ,↓reduceIte,oGs,bNf]
   refine ⟨?_,trivial⟩
   unfold G6; rw [SC hk' (by simpa using hf)]; rfl
  ·simp -implicitDefEqProofs only [BA,BO,A8,EF,ER,AY,BB,AO,AQ,AL,BD,AX,AC,AA,A7,AU,BH,BG,AZ,BR,AB,DF,↓reduceIte,Nat.reduceEqDiff,oGs,bNf,enP,f3,wrap_succ (show k < 9223372036854775807 by simp at h16; omega)]
   refine ⟨n - 1,by omega,k+1,by omega,f0,rfl,trivial,fun i hi hik => ?_⟩
   rcases Nat.lt_or_ge i k with h' | h'
   ·exact hall i hi h'
   ·have:i=k:=by omega
    subst this; simpa using hf
 ·have hk' : ¬ k < s.size:=by simpa using he
  simp -implicitDefEqProofs only [BC,BA,BK,DJ,A8,ED,EX,EU,CJ,AY,BB,AO,AQ,AL,BD,AX,AC,AA,AU,BM,AZ,↓reduceIte,oGs,bNf]
  refine ⟨?_,trivial⟩
  unfold G6
  rw [AGT hz hlow (fun i hi=>hall i hi (by omega)),h16,hd]; rfl
def JL (b:Bin):Bool :=
 decide (b.kind < 0) || decide (b.kind > 2) || (decide ((b.ranges.l.length:Int) > 0) == decide ((b.steps.length:Int) > 0)) || (b.kind != 0 && decide ((b.steps.length:Int) > 0)) || ((b.steps.length:Int) == 1) || decide ((b.steps.length:Int) > 8)
def G5 (b:Bin):Int :=
 if G6 b.name then if JL b then 1 else if b.steps.any (fun l=>decide (l.l.length=0)) then 1 else
  if (sets b).any (fun l=>decide (l.l.length > 64)) then 2 else if (sets b).any (fun l=>l.l.any bad) then 1 else 0
 else 7
def shape (b:Bin):Bool :=
 if (b.kind != 0 && b.kind != 1 && b.kind != 2) then false else if ((b.steps.length:Int) == 0) then decide ((b.ranges.l.length:Int) > 0) else
  if (decide ((b.ranges.l.length:Int) > 0) || b.kind != 0 || decide ((b.steps.length:Int) < 2) || decide ((b.steps.length:Int) > 8)) then false else !(b.steps.any (fun l=>decide (l.l.length=0)))
theorem AJI : ∀ (n p z o t r s0 s1 s8 E:Bool),((n || p || z || o || t) && !(n && p) && !(n && z) && !(n && o) && !(n && t) && !(p && z) && !(p && o) && !(p && t) && !(z && o) && !(z && t) && !(o && t) && !(s0 && s1) && !(s0 && s8) && !(s1 && s8) && !(s0 && E))=true →
 (if (!z && !o && !t) then false else if s0 then r else if (r || !z || (s0 || s1) || s8) then false else !E)=(!(n || p || (r == !s0) || (!z && !s0) || s1 || s8) && !E):=by decide +kernel
theorem AMZ (k r s:Int) (E:Bool) (hs:0≤s) (hE:s=0→E=false) :
  (if (k != 0 && k != 1 && k != 2) then false else if (s == 0) then decide (r > 0) else if (decide (r > 0) || k != 0 || decide (s < 2) || decide (s > 8)) then false else !E) =
  (!(decide (k < 0) || decide (k > 2) || (decide (r > 0) == decide (s > 0)) || (k != 0 && decide (s > 0)) || (s == 1) || decide (s > 8)) && !E):=by
 have h1:decide (s > 0) = !(s == 0):=by rw [Bool.eq_iff_iff]; simp; omega
 have h2:decide (s < 2)=((s == 0) || (s == 1)):=by rw [Bool.eq_iff_iff]; simp; omega
 rw [h1,h2]
 have key:=AJI (decide (k < 0)) (decide (k > 2)) (k == 0) (k == 1) (k == 2) (decide (r > 0)) (s == 0) (s == 1) (decide (s > 8)) E ?_
 ·exact key
 ·have a1:(decide (k < 0) || decide (k > 2) || (k == 0) || (k == 1) || (k == 2))=true:=by simp; omega
  have no : ∀ (p q:Prop) [Decidable p] [Decidable q],¬ (p∧q)→(!(decide p && decide q))=true:=by
   intro p q _ _ h; by_cases hp:p <;> by_cases hq:q <;> simp_all
  have e0:(s == 0 && E)=false:=by
   by_cases hz:s=0
   ·rw [hE hz]; simp
   ·simp [hz]
  have b0:(k == 0)=decide (k=0):=rfl
  have b1:(k == 1)=decide (k=1):=rfl
  have b2:(k == 2)=decide (k=2):=rfl
  have c0:(s == 0)=decide (s=0):=rfl
  have c1:(s == 1)=decide (s=1):=rfl
  rw [e0]
  rw [b0,b1,b2] at a1 ⊢
  rw [c0,c1,a1,no _ _ (show ¬ (k < 0∧k > 2) by omega),no _ _ (show ¬ (k < 0∧k=0) by omega),no _ _ (show ¬ (k < 0∧k=1) by omega),no _ _ (show ¬ (k < 0∧k=2) by omega),
   no _ _ (show ¬ (k > 2∧k=0) by omega),no _ _ (show ¬ (k > 2∧k=1) by omega),no _ _ (show ¬ (k > 2∧k=2) by omega),no _ _ (show ¬ (k=0∧k=1) by omega),no _ _ (show ¬ (k=0∧k=2) by omega),no _ _ (show ¬ (k=1∧k=2) by omega),
   no _ _ (show ¬ (s=0∧s=1) by omega),no _ _ (show ¬ (s=0∧s > 8) by omega),no _ _ (show ¬ (s=1∧s > 8) by omega)]
  rfl
theorem AG7 (b:Bin):shape b=(!JL b && !(b.steps.any (fun l=>decide (l.l.length=0)))) :=
 AMZ b.kind b.ranges.l.length b.steps.length _ (by omega) (fun h=>by
  have:b.steps = []:=List.eq_nil_of_length_eq_zero (by omega)
  rw [this]; rfl)
theorem AJH (G:Nat→AV) (b:Bin) (h:Hp) (hl:b.steps.length≤1099511627776):PCall (En G) 201 [.agg (GM b)] h (.bool (shape b)):=by
 refine ACalls.pure0 rfl ?_
 refine CB (H:=Hint.none) (enM G) Tryz.func201 rfl (by kernel_rfl) (by kernel_rfl) (nLb (by kernel_rfl)) ?_
 show awp _ _ _ _ _ (EG _ [.tmp 2] _)
 simp -implicitDefEqProofs only [BC,BP,BA,A8,AY,BB,BJ,BQ,CO,AO,AQ,AL,BD,AX,AC,AA,A7,AU,BH,BM,BG,AZ,FY,BV,BR,BL,D7,CE,AB,EN,BF,↓reduceIte,Nat.reduceEqDiff,Nat.zero_add,oGs,bNf,enP,PM,MR,MQ,bxB,DI RY,DI OG,DI ag3,UH,X0,RV,lLm]
 refine QL (fun F H=>F 7 = .bool (b.kind != 0 && b.kind != 1 && b.kind != 2)∧F 1 = .ptr h.length 0 0∧F 3 = .int .i64 b.steps.length∧H=h ++ [.live 4 [GM b]]) ?_ ?_
 ·refine GZ (fun ha => ?_) (fun ha => ?_)
  ·simp -implicitDefEqProofs only [AY,BJ,BQ,CO,GG,AO,AQ,AL,BD,AX,AC,AA,A7,AU,BH,BM,BG,CU,DT,BV,BR,BL,AB,EN,↓reduceIte,Nat.reduceEqDiff,Nat.zero_add,oGs,bNf,enP,MR,ha,DI ag3,UH]
   refine GZ (fun hb => ?_) (fun hb => ?_)
   ·simp -implicitDefEqProofs only [AY,BB,BJ,BQ,CO,GG,AO,AQ,AL,BD,AX,AC,AA,A7,AU,BH,BM,AZ,CU,DT,BV,BR,BL,AB,EN,↓reduceIte,Nat.reduceEqDiff,Nat.zero_add,oGs,bNf,enP,MR,hb,DI ag3,UH]
    exact ⟨rfl,trivial,trivial,trivial⟩
   ·simp -implicitDefEqProofs only [AY,BB,BJ,BQ,CO,IK,AO,AQ,AL,BD,AX,AC,AA,EQ,A7,AU,BM,AZ,CU,DL,↓reduceIte,Nat.reduceEqDiff,oGs,bNf,hb]
    exact ⟨rfl,trivial,trivial,trivial⟩
  ·simp -implicitDefEqProofs only [AY,BB,BJ,BQ,CO,IK,AO,AQ,AL,BD,AX,AC,AA,EQ,A7,AU,BM,BG,AZ,CU,DL,↓reduceIte,Nat.reduceEqDiff,oGs,bNf,ha]
   exact ⟨rfl,trivial,trivial,trivial⟩
 rintro F H ⟨f7,f1,f3,rfl⟩
 simp -implicitDefEqProofs only [BI,A8,A7,f7,f1,f3]
 refine CV (fun hk => ?_) (fun hk => ?_)
 ·simp -implicitDefEqProofs only [BC,BA,BK,A8,CP,D8,CJ,AY,BB,AO,AQ,AL,BD,AX,AC,AA,AU,BM,AZ,↓reduceIte,oGs,bNf]
  exact ⟨by unfold shape; rw [if_pos hk],_,rfl⟩
 have hk' : ¬ (b.kind != 0 && b.kind != 1 && b.kind != 2)=true:=by rw [hk]; simp
 simp -implicitDefEqProofs only [BC,BA,BI,A8,AY,BB,AO,AQ,AL,BD,AX,AC,AA,A7,AU,BH,BG,AZ,BR,AB,DY,↓reduceIte,oGs,bNf,enP,f1,f3]
 refine CV (fun hs => ?_) (fun hs => ?_)
 ·simp -implicitDefEqProofs only [BC,BA,BK,A8,CP,D8,CJ,AY,BB,AO,AQ,AL,BD,AX,AC,AA,A7,AU,BH,AZ,BV,BR,BL,D7,AB,EY,↓reduceIte,Nat.reduceEqDiff,Nat.zero_add,oGs,bNf,enP,QD,O1,f1,DI OG,X0,lLm]
  exact ⟨by unfold shape; rw [if_neg hk',if_pos hs],_,rfl⟩
 have hs' : ¬ ((b.steps.length:Int) == 0)=true:=by rw [hs]; simp
 simp -implicitDefEqProofs only [BC,BA,AY,BJ,BQ,CO,AO,AQ,AL,BD,AX,AC,AA,A7,AU,BH,BG,BV,BR,BL,D7,AB,EY,↓reduceIte,Nat.reduceEqDiff,Nat.zero_add,oGs,bNf,enP,QD,O1,f1,f3,DI OG,X0,lLm]
 refine QL (fun F H=>F 28 = .bool (decide ((b.ranges.l.length:Int) > 0) || b.kind != 0 || decide ((b.steps.length:Int) < 2) || decide ((b.steps.length:Int) > 8))∧F 1 = .ptr h.length 0 0∧H=h ++ [.live 4 [GM b]]) ?_ ?_
 ·refine GZ (fun ha => ?_) (fun ha => ?_)
  ·simp -implicitDefEqProofs only [Bool.true_or,AY,BB,BJ,BQ,CO,FN,AO,AQ,AL,BD,AX,AC,AA,EQ,A7,AU,BM,BG,AZ,CU,DT,↓reduceIte,Nat.reduceEqDiff,oGs,bNf,ha,f1]
   exact ⟨trivial,trivial,trivial⟩
  simp -implicitDefEqProofs only [Bool.false_or,AY,BJ,BQ,CO,EK,AO,AQ,AL,BD,AX,AC,AA,A7,AU,BH,BM,BG,CU,DL,BV,BR,BL,AB,EN,↓reduceIte,Nat.reduceEqDiff,Nat.zero_add,oGs,bNf,enP,MR,ha,f1,DI ag3,UH]
  refine GZ (fun hb => ?_) (fun hb => ?_)
  ·simp -implicitDefEqProofs only [Bool.true_or,AY,BB,BJ,BQ,CO,FN,AO,AQ,AL,BD,AX,AC,AA,EQ,A7,AU,BM,BG,AZ,CU,DT,↓reduceIte,Nat.reduceEqDiff,oGs,bNf,hb,f1]
   exact ⟨trivial,trivial,trivial⟩
  simp -implicitDefEqProofs only [Bool.false_or,AY,BJ,BQ,CO,EK,AO,AQ,AL,BD,AX,AC,AA,A7,AU,BH,BM,BG,CU,DL,BR,AB,DC,↓reduceIte,Nat.reduceEqDiff,oGs,bNf,enP,hb,f1,f3]
  refine GZ (fun hc => ?_) (fun hc => ?_)
  ·simp -implicitDefEqProofs only [Bool.true_or,AY,BB,BJ,BQ,CO,FN,AO,AQ,AL,BD,AX,AC,AA,EQ,A7,AU,BM,AZ,CU,DT,↓reduceIte,Nat.reduceEqDiff,oGs,bNf,hc,f1]
   exact ⟨trivial,trivial,trivial⟩
  ·simp -implicitDefEqProofs only [Bool.false_or,AY,BB,BJ,BQ,CO,EK,AO,AQ,AL,BD,AX,AC,AA,A7,AU,BH,BM,BG,AZ,CU,DL,BR,AB,EY,↓reduceIte,Nat.reduceEqDiff,oGs,bNf,enP,hc,f1,f3]
   exact ⟨trivial,trivial,trivial⟩
 rintro F H ⟨f28,f1,rfl⟩
 simp -implicitDefEqProofs only [BI,A8,A7,f28,f1]
 refine CV (fun ho => ?_) (fun ho => ?_)
 ·simp -implicitDefEqProofs only [BC,BA,BK,A8,CP,D8,CJ,AY,BB,AO,AQ,AL,BD,AX,AC,AA,AU,BM,AZ,↓reduceIte,oGs,bNf]
  exact ⟨by unfold shape; rw [if_neg hk',if_neg hs',if_pos ho],_,rfl⟩
 have ho' : ¬ (decide ((b.ranges.l.length:Int) > 0) || b.kind != 0 || decide ((b.steps.length:Int) < 2) || decide ((b.steps.length:Int) > 8))=true:=by rw [ho]; simp
 simp -implicitDefEqProofs only [BC,BA,BO,A8,EF,AY,AO,AQ,AL,BD,AX,AC,AA,A7,BX,BV,BL,BZ,BU,AB,lMc,lMn,lAn,↓reduceIte,Nat.zero_add,oGs,bNf,enP,MQ,f1,DI RY,RV]
 refine (ACN G b.steps b.sm 235 [] (fun l=>decide (l.l.length=0)) _ hl fun r=>AQJ G r _).use ?_
 simp -implicitDefEqProofs only [BK,A8,CJ,AY,BB,AO,AQ,AL,BD,AX,AC,AA,A7,AZ,H9,AB,EZ,↓reduceIte,oGs,bNf]
 exact ⟨by unfold shape; rw [if_neg hk',if_neg hs',if_neg ho'],_,rfl⟩
theorem ZK {b:Bin} (h:G6 b.name=false):G5 b=7:=by unfold G5; rw [h]; rfl
theorem WS {b:Bin} (h:G6 b.name=true) (hs:JL b=true):G5 b=1:=by unfold G5; rw [h,hs]; rfl
theorem WT {b:Bin} (h:G6 b.name=true) (hs:b.steps.any (fun l=>decide (l.l.length=0))=true):G5 b=1:=by
 unfold G5; rw [h,hs]; cases JL b <;> rfl
theorem TN {b:Bin} (h:G6 b.name=true) (hs:JL b=false) (he:b.steps.any (fun l=>decide (l.l.length=0))=false) :
  G5 b=if (sets b).any (fun l=>decide (l.l.length > 64)) then 2 else if (sets b).any (fun l=>l.l.any bad) then 1 else 0:=by
 unfold G5; rw [h,hs,he]; rfl
structure BinOk (b:Bin):Prop where
 num:(sets b).length≤1099511627776
 name:b.name.size≤1099511627776
 steps:b.steps.length≤1099511627776
 sets : ∀ l∈sets b,l.l.length≤1099511627776
theorem AHL (xs:List Rng):decide (IX xs=2)=decide (xs.length > 64):=by
 unfold IX
 split
 ·simp_all
 ·split <;> simp_all
theorem ZN (xs:List Rng):decide (IX xs=1)=(decide (¬ xs.length > 64) && xs.any bad):=by
 unfold IX
 split
 ·rename_i h; simp [h]
 ·rename_i h
  split
  ·rename_i h2; simp only [h2,h]; rfl
  ·rename_i h2; simp only [Bool.not_eq_true] at h2; simp only [h2]; simp
theorem AOO {b:Bin} (h:G6 b.name=true) (hs:JL b=false) (he:b.steps.any (fun l=>decide (l.l.length=0))=false) :
  G5 b=if (sets b).any (fun l=>decide (IX l.l=2)) then 2 else if (sets b).any (fun l=>decide (IX l.l=1)) then 1 else 0:=by
 rw [TN h hs he]
 simp only [AHL]
 split
 ·rfl
 ·rename_i hn
  have:(sets b).any (fun l=>decide (IX l.l=1))=(sets b).any (fun l=>l.l.any bad):=by
   rw [Bool.eq_iff_iff,List.any_eq_true,List.any_eq_true]
   constructor
   ·rintro ⟨l,h1,h2⟩
    rw [ZN] at h2
    simp only [Bool.and_eq_true] at h2
    exact ⟨l,h1,h2.2⟩
   ·rintro ⟨l,h1,h2⟩
    refine ⟨l,h1,?_⟩
    rw [ZN,h2]
    rw [Bool.not_eq_true,List.any_eq_false] at hn
    have:=hn l h1
    simp only [decide_eq_true_eq] at this
    simp only [this,not_false_eq_true,decide_true,Bool.and_self]
  rw [this]
theorem UM {α:Type} (p:α→Bool) (xs:List α) (k:Nat) (h:k < xs.length):(xs.take (k+1)).any p=((xs.take k).any p || p xs[k]):=by
 rw [List.take_succ_eq_append_getElem h,List.any_append,List.any_cons,List.any_nil,Bool.or_false]
theorem AA9 (G:Nat→AV) (hG:KwG G) (b:Bin) (hb:BinOk b) (h:Hp):PCall (En G) 152 [.agg (GM b)] h (.int .i64 (G5 b)):=by
 refine ACalls.pure0 rfl ?_
 refine CB (H:=Hint.none) (enM G) Tryz.func152 rfl (by kernel_rfl) (by kernel_rfl) (nLb (by kernel_rfl)) ?_
 show awp _ _ _ _ _ (EG _ [.tmp 2] _)
 simp -implicitDefEqProofs only [BC,BA,A8,AY,BB,AO,AQ,AL,BD,AX,AC,AA,A7,AU,BX,BH,AZ,FY,BV,BL,BZ,BU,CE,AB,BF,lMc,lMn,lAn,↓reduceIte,Nat.reduceEqDiff,Nat.add_zero,oGs,bNf,enP,AAY,bxB,DI ag9,AMJ]
 refine (NR G hG b.name _ hb.name).use ?_
 simp -implicitDefEqProofs only [BI,A8,AY,BB,AO,AQ,AL,BD,AX,AC,AA,A7,H9,AB,EZ,↓reduceIte,oGs,bNf]
 refine CV (fun hn => ?_) (fun hn => ?_)
 ·simp -implicitDefEqProofs only [BC,BA,BK,A8,CP,CJ,AY,BB,AO,AQ,AL,BD,AX,AC,AA,AU,BH,AZ,↓reduceIte,oGs,bNf]
  exact ⟨by rw [ZK (by simpa using hn)],_,rfl⟩
 have hn':G6 b.name=true:=by simpa using hn
 simp -implicitDefEqProofs only [BC,BA,BO,A8,AY,AO,AQ,AL,BD,AX,AC,AA,A7,BX,BV,BZ,BU,AB,lMc,lMn,lAn,↓reduceIte,Nat.reduceEqDiff,oGs,bNf,enP,ldB]
 refine (AJH G b _ hb.steps).use ?_
 simp -implicitDefEqProofs only [BI,A8,AY,BB,AO,AQ,AL,BD,AX,AC,AA,A7,H9,AB,EZ,↓reduceIte,oGs,bNf]
 refine CV (fun hs => ?_) (fun hs => ?_)
 ·simp -implicitDefEqProofs only [BC,BA,BK,A8,CP,CJ,AY,BB,AO,AQ,AL,BD,AX,AC,AA,AU,BH,AZ,↓reduceIte,oGs,bNf]
  refine ⟨?_,_,rfl⟩
  have h1:shape b=false:=by simpa using hs
  rw [AG7] at h1
  cases hr:JL b with
  | true=>rw [WS hn' hr]
  | false =>
    rw [hr] at h1
    rw [WT hn' (by simpa using h1)]
 have h1:shape b=true:=by simpa using hs
 rw [AG7] at h1
 simp only [Bool.and_eq_true,Bool.not_eq_true'] at h1
 have hv:=TN hn' h1.1 h1.2
 simp -implicitDefEqProofs only [BC,BA,BO,A8,AY,BB,AO,AQ,AL,BD,AX,AC,AA,A7,AU,BX,BM,AZ,BV,BZ,BU,AB,lMc,lMn,lAn,↓reduceIte,Nat.reduceEqDiff,oGs,bNf,enP,ldB]
 refine (ADY G b _).use ?_
 simp -implicitDefEqProofs only [BP,A8,AY,BB,AO,AQ,AL,BD,AX,AC,AA,A7,AU,BH,BG,D7,AB,↓reduceIte,oGs,bNf,enP,PM,lLm]
 refine DR (fun n F H => ∃ k,n+k=(sets b).length∧F 3 = .bool (((sets b).take k).any fun l=>decide (IX l.l=2))∧F 4 = .bool (((sets b).take k).any fun l=>decide (IX l.l=1))∧F 15 = .sl (QU b) 1 ((sets b).map encS)∧F 16 = .int .i64 (sets b).length∧F 17 = .int .i64 (k:Nat)∧H=h ++ [.live 4 [GM b]]) (sets b).length ⟨0,by simp,rfl,rfl,rfl,rfl,rfl,rfl⟩ ?_
 rintro n F H ⟨k,hk,f3,f4,f15,f16,f17,rfl⟩
 simp -implicitDefEqProofs only [BC,BA,BI,A8,AY,BB,AO,AQ,AL,BD,AX,AC,AA,A7,BR,AB,DC,↓reduceIte,oGs,bNf,enP,f15,f16,f17]
 refine CV (fun hc => ?_) (fun hc => ?_)
 ·have hc':k < (sets b).length:=by simpa using hc
  simp -implicitDefEqProofs only [BC,BP,BA,BO,A8,AY,BB,AO,AQ,AL,BD,AX,AC,AA,A7,BX,BG,AZ,BV,CG,BZ,BU,AB,lMc,lMn,lAn,↓reduceIte,Nat.reduceEqDiff,oGs,bNf,enP,ZU,f15,f17,DZ hc',DV OG hc',Z4]
  refine (AHK G _ _ _ (hb.sets _ (List.getElem_mem hc'))).use ?_
  have t2:=UM (fun l:Rs=>decide (IX l.l=2)) (sets b) k hc'
  have t1:=UM (fun l:Rs=>decide (IX l.l=1)) (sets b) k hc'
  simp -implicitDefEqProofs only [BC,BP,BA,BI,A8,AY,BB,AO,AQ,AL,BD,AX,AC,AA,A7,AU,BH,AZ,BR,AB,DY,↓reduceIte,oGs,bNf,enP]
  refine CV (fun hd => ?_) (fun hd => ?_)
  ·have hd':IX (sets b)[k].l=2:=by simpa using hd
   simp -implicitDefEqProofs only [BA,A8,EF,ER,AY,BB,AO,AQ,AL,BD,AX,AC,AA,A7,AU,BH,BM,BG,AZ,BR,AB,DF,↓reduceIte,Nat.reduceEqDiff,oGs,bNf,enP,f17,wrap_succ (show k < 9223372036854775807 by have:=hb.num; omega)]
   refine ⟨n - 1,by omega,k+1,by omega,?_,?_,f15,f16,rfl,trivial⟩
   ·rw [t2,hd']; simp
   ·rw [f4,t1,hd']; simp
  simp -implicitDefEqProofs only [BC,BA,BI,A8,AY,BB,AO,AQ,AL,BD,AX,AC,AA,A7,AU,BH,AZ,BR,AB,DY,↓reduceIte,Nat.reduceEqDiff,oGs,bNf,enP]
  refine CV (fun he => ?_) (fun he => ?_)
  ·have he':IX (sets b)[k].l=1:=by simpa using he
   simp -implicitDefEqProofs only [BA,A8,EF,ER,AY,BB,AO,AQ,AL,BD,AX,AC,AA,A7,AU,BH,BM,BG,AZ,BR,AB,DF,↓reduceIte,Nat.reduceEqDiff,oGs,bNf,enP,f17,wrap_succ (show k < 9223372036854775807 by have:=hb.num; omega)]
   refine ⟨n - 1,by omega,k+1,by omega,?_,?_,f15,f16,rfl,trivial⟩
   ·rw [f3,t2,he']; simp
   ·rw [t1,he']; simp
  ·have hd':IX (sets b)[k].l≠2:=by simpa using hd
   have he':IX (sets b)[k].l≠1:=by simpa using he
   simp -implicitDefEqProofs only [BA,BO,A8,EF,ER,AY,BB,AO,AQ,AL,BD,AX,AC,AA,A7,AU,BH,BG,BR,AB,DF,↓reduceIte,Nat.reduceEqDiff,oGs,bNf,enP,f17,wrap_succ (show k < 9223372036854775807 by have:=hb.num; omega)]
   refine ⟨n - 1,by omega,k+1,by omega,?_,?_,f15,f16,rfl,trivial⟩
   ·rw [f3,t2]; simp [hd']
   ·rw [f4,t1]; simp [he']
 ·have hc' : ¬ k < (sets b).length:=by simpa using hc
  rw [List.take_of_length_le (by omega)] at f3 f4
  have hE:=AOO hn' h1.1 h1.2
  simp -implicitDefEqProofs only [BC,BP,BA,DJ,BI,A8,ED,EX,EU,AY,BB,AO,AQ,AL,BD,AX,AC,AA,A7,BG,AZ,↓reduceIte,Nat.reduceEqDiff,oGs,bNf,f3,f4]
  refine CV (fun hd => ?_) (fun hd => ?_)
  ·simp -implicitDefEqProofs only [BC,BA,BK,A8,CP,D8,CJ,AY,BB,AO,AQ,AL,BD,AX,AC,AA,AU,BH,AZ,↓reduceIte,oGs,bNf]
   exact ⟨by rw [hE,if_pos hd],_,rfl⟩
  simp -implicitDefEqProofs only [BC,BA,BI,A8,AY,BB,AO,AQ,AL,BD,AX,AC,AA,A7,BG,AZ,↓reduceIte,Nat.reduceEqDiff,oGs,bNf,f4]
  refine CV (fun he => ?_) (fun he => ?_)
  ·simp -implicitDefEqProofs only [BC,BA,BK,A8,CP,D8,CJ,AY,BB,AO,AQ,AL,BD,AX,AC,AA,AU,BH,AZ,↓reduceIte,oGs,bNf]
   exact ⟨by rw [hE,if_neg (by rw [hd]; simp),if_pos he],_,rfl⟩
  ·simp -implicitDefEqProofs only [BC,BA,BO,BK,A8,EF,CJ,AY,BB,AO,AQ,AL,BD,AX,AC,AA,AU,BH,AZ,↓reduceIte,oGs,bNf]
   exact ⟨by rw [hE,if_neg (by rw [hd]; simp),if_neg (by rw [he]; simp)],_,rfl⟩
theorem ADS (G:Nat→AV) (b:Bin) (hb:BinOk b) (h:Hp):PCall (En G) 162 [.agg (GM b)] h (.int .i64 (G5 b)):=by
 refine ACalls.pure0 rfl ?_
 refine CB (H:=Hint.none) (enM G) Tryz.func162 rfl (by kernel_rfl) (by kernel_rfl) (nLb (by kernel_rfl)) ?_
 show awp _ _ _ _ _ (EG _ [.tmp 2] _)
 simp -implicitDefEqProofs only [BC,BA,A8,AY,BB,AO,AQ,AL,BD,AX,AC,AA,A7,AU,BX,BH,AZ,FY,BV,BL,BZ,BU,CE,AB,BF,lMc,lMn,lAn,↓reduceIte,Nat.reduceEqDiff,Nat.add_zero,oGs,bNf,enP,AAY,bxB,DI ag9,AMJ]
 refine (OT G b.name _).use ?_
 simp -implicitDefEqProofs only [BI,A8,AY,BB,AO,AQ,AL,BD,AX,AC,AA,A7,H9,AB,EZ,↓reduceIte,oGs,bNf]
 refine CV (fun hn => ?_) (fun hn => ?_)
 ·simp -implicitDefEqProofs only [BC,BA,BK,A8,CP,CJ,AY,BB,AO,AQ,AL,BD,AX,AC,AA,AU,BH,AZ,↓reduceIte,oGs,bNf]
  exact ⟨by rw [ZK (by simpa using hn)],_,rfl⟩
 have hn':G6 b.name=true:=by simpa using hn
 simp -implicitDefEqProofs only [BC,BA,BO,A8,AY,BJ,BQ,CO,AO,AQ,AL,BD,AX,AC,AA,A7,AU,BH,BG,BV,BR,BL,AB,DC,↓reduceIte,Nat.reduceEqDiff,Nat.zero_add,oGs,bNf,enP,MR,DI ag3,UH]
 refine QL (fun F H=>F 53 = .bool (JL b)∧F 1 = .ptr h.length 0 0∧H=h ++ [.live 4 [GM b]]) ?_ ?_
 ·refine GZ (fun ha => ?_) (fun ha => ?_)
  ·simp -implicitDefEqProofs only [AY,BB,BJ,BQ,CO,FN,QQ,AO,AQ,AL,BD,AX,AC,AA,EQ,A7,AU,BM,BG,CU,DT,↓reduceIte,Nat.reduceEqDiff,oGs,bNf,ha]
   exact ⟨by unfold JL; rw [ha]; rfl,trivial,trivial⟩
  simp -implicitDefEqProofs only [AY,BJ,BQ,CO,EK,AO,AQ,AL,BD,AX,AC,AA,A7,AU,BH,BM,BG,CU,DL,BV,BR,BL,AB,EY,↓reduceIte,Nat.reduceEqDiff,Nat.zero_add,oGs,bNf,enP,MR,ha,DI ag3,UH]
  refine GZ (fun hb => ?_) (fun hb => ?_)
  ·simp -implicitDefEqProofs only [AY,BB,BJ,BQ,CO,FN,QQ,AO,AQ,AL,BD,AX,AC,AA,EQ,A7,AU,BM,BG,CU,DT,↓reduceIte,Nat.reduceEqDiff,oGs,bNf,hb]
   exact ⟨by unfold JL; rw [ha,hb]; rfl,trivial,trivial⟩
  simp -implicitDefEqProofs only [AY,BJ,BQ,CO,EK,AO,AQ,AL,BD,AX,AC,AA,A7,AU,BH,BM,BG,CU,DL,BV,BR,BL,D7,AB,EY,↓reduceIte,Nat.reduceEqDiff,Nat.zero_add,oGs,bNf,enP,be4,QD,PM,O1,MQ,hb,DI OG,DI RY,X0,RV,lLm]
  refine GZ (fun hc => ?_) (fun hc => ?_)
  ·simp -implicitDefEqProofs only [AY,BB,BJ,BQ,CO,FN,QQ,AO,AQ,AL,BD,AX,AC,AA,EQ,A7,AU,BM,BG,CU,DT,↓reduceIte,Nat.reduceEqDiff,oGs,bNf,hc]
   exact ⟨by unfold JL; rw [ha,hb,hc]; rfl,trivial,trivial⟩
  simp -implicitDefEqProofs only [BJ,BQ,CO,EK,AO,AQ,AL,BD,AX,AC,AA,A7,AU,BH,BG,BV,BR,BL,AB,EN,↓reduceIte,Nat.reduceEqDiff,Nat.zero_add,oGs,bNf,enP,MR,hc,DI ag3,UH]
  refine GZ (fun hd => ?_) (fun hd => ?_)
  ·simp -implicitDefEqProofs only [AY,BJ,BQ,CO,GG,EK,AO,AQ,AL,BD,AX,AC,AA,A7,AU,BH,BM,BG,CU,DT,DL,BV,BR,BL,D7,AB,EY,↓reduceIte,Nat.reduceEqDiff,Nat.zero_add,oGs,bNf,enP,PM,MQ,hd,DI RY,RV,lLm]
   refine GZ (fun he => ?_) (fun he => ?_)
   ·simp -implicitDefEqProofs only [AY,BB,BJ,BQ,CO,FN,AO,AQ,AL,BD,AX,AC,AA,EQ,A7,AU,BM,BG,CU,DT,↓reduceIte,Nat.reduceEqDiff,oGs,bNf,he]
    exact ⟨by unfold JL; rw [ha,hb,hc,hd,he]; rfl,trivial,trivial⟩
   simp -implicitDefEqProofs only [AY,BJ,BQ,CO,EK,AO,AQ,AL,BD,AX,AC,AA,A7,AU,BH,BM,BG,CU,DL,BV,BR,BL,D7,AB,DY,↓reduceIte,Nat.reduceEqDiff,Nat.zero_add,oGs,bNf,enP,PM,MQ,he,DI RY,RV,lLm]
   refine GZ (fun hf => ?_) (fun hf => ?_)
   ·simp -implicitDefEqProofs only [AY,BB,BJ,BQ,CO,FN,AO,AQ,AL,BD,AX,AC,AA,EQ,A7,AU,BM,CU,DT,↓reduceIte,Nat.reduceEqDiff,oGs,bNf,hf]
    exact ⟨by unfold JL; rw [ha,hb,hc,hd,he,hf]; rfl,trivial,trivial⟩
   ·simp -implicitDefEqProofs only [AY,BB,BJ,BQ,CO,EK,AO,AQ,AL,BD,AX,AC,AA,A7,AU,BH,BM,CU,DL,BV,BR,BL,D7,AB,EY,↓reduceIte,Nat.reduceEqDiff,Nat.zero_add,oGs,bNf,enP,PM,MQ,hf,DI RY,RV,lLm]
    exact ⟨by unfold JL; rw [ha,hb,hc,hd,he,hf]; rfl,trivial,trivial⟩
  ·simp -implicitDefEqProofs only [AY,BJ,BQ,CO,EK,IK,AO,AQ,AL,BD,AX,AC,AA,EQ,A7,AU,BH,BM,BG,CU,DL,BV,BR,BL,D7,AB,DY,↓reduceIte,Nat.reduceEqDiff,Nat.zero_add,oGs,bNf,enP,PM,MQ,hd,DI RY,RV,lLm]
   refine GZ (fun hf => ?_) (fun hf => ?_)
   ·simp -implicitDefEqProofs only [AY,BB,BJ,BQ,CO,FN,AO,AQ,AL,BD,AX,AC,AA,EQ,A7,AU,BM,CU,DT,↓reduceIte,Nat.reduceEqDiff,oGs,bNf,hf]
    exact ⟨by unfold JL; rw [ha,hb,hc,hd,hf]; rfl,trivial,trivial⟩
   ·simp -implicitDefEqProofs only [AY,BB,BJ,BQ,CO,EK,AO,AQ,AL,BD,AX,AC,AA,A7,AU,BH,BM,CU,DL,BV,BR,BL,D7,AB,EY,↓reduceIte,Nat.reduceEqDiff,Nat.zero_add,oGs,bNf,enP,PM,MQ,hf,DI RY,RV,lLm]
    exact ⟨by unfold JL; rw [ha,hb,hc,hd,hf]; rfl,trivial,trivial⟩
 rintro F H ⟨f53,f1,rfl⟩
 simp -implicitDefEqProofs only [BI,A8,A7,f53,f1]
 refine CV (fun hs => ?_) (fun hs => ?_)
 ·simp -implicitDefEqProofs only [BC,BA,BK,A8,CP,CJ,AY,BB,AO,AQ,AL,BD,AX,AC,AA,AU,BH,AZ,↓reduceIte,oGs,bNf]
  exact ⟨by rw [WS hn' hs],_,rfl⟩
 simp -implicitDefEqProofs only [BC,BP,BA,BO,A8,AY,BB,AO,AQ,AL,BD,AX,AC,AU,BH,AZ,oGs,bNf]
 refine G7 0 (fun F H=>F 1 = .ptr h.length 0 0∧H=h ++ [.live 4 [GM b]]∧b.steps.any (fun l=>decide (l.l.length=0))=false) (fun F H=>F 2 = .int .i64 (G5 b)∧H=h ++ [.live 4 [GM b]]) ?_ ?_ ?_
 ·refine DR (fun n F H => ∃ k,n+k=b.steps.length∧F 1 = .ptr h.length 0 0∧F 3 = .int .i64 (k:Nat)∧H=h ++ [.live 4 [GM b]]∧(b.steps.take k).any (fun l=>decide (l.l.length=0))=false) b.steps.length ⟨0,by simp,by simp -implicitDefEqProofs only [AA,↓reduceIte,Nat.reduceEqDiff,f1],by simp -implicitDefEqProofs only [AA,↓reduceIte]; rfl,rfl,rfl⟩ ?_
  rintro n F H ⟨k,hk,f1,f3,rfl,hin⟩
  simp -implicitDefEqProofs only [BC,BA,BI,A8,AY,BB,AO,AQ,AL,BD,AX,AC,AA,A7,BG,BV,BR,BL,D7,AB,DC,↓reduceIte,Nat.reduceEqDiff,Nat.zero_add,oGs,bNf,enP,PM,MQ,f1,f3,DI RY,RV,lLm]
  refine CV (fun hc => ?_) (fun hc => ?_)
  ·have hc':k < b.steps.length:=by simpa using hc
   have t0:=UM (fun l:Rs=>decide (l.l.length=0)) b.steps k hc'
   simp -implicitDefEqProofs only [BC,BP,BA,BO,BI,A8,AY,BB,AO,AQ,AL,BD,AX,AC,AA,A7,AU,BH,BG,BV,BR,BL,CG,D7,AB,DY,↓reduceIte,Nat.reduceEqDiff,Nat.zero_add,oGs,bNf,enP,QD,ZU,MQ,f1,f3,DI RY,RV,DZ hc',DV OG hc',Z4,lLm]
   refine CV (fun hd => ?_) (fun hd => ?_)
   ·simp -implicitDefEqProofs only [BC,BA,BK,A8,CP,D8,NE,E8,AY,BB,AO,AQ,AL,BD,AX,AC,AA,AU,BH,AZ,↓reduceIte,oGs,bNf]
    refine ⟨?_,trivial⟩
    have:b.steps.any (fun l=>decide (l.l.length=0))=true:=by
     rw [List.any_eq_true]
     exact ⟨b.steps[k],by simp,by simp at hd; simp [hd]⟩
    rw [WT hn' this]
   ·simp -implicitDefEqProofs only [BA,BO,A8,EF,ER,AY,BB,AO,AQ,AL,BD,AX,AC,AA,A7,AU,BH,BG,AZ,BR,AB,DF,↓reduceIte,Nat.reduceEqDiff,oGs,bNf,enP,f3,wrap_succ (show k < 9223372036854775807 by have:=hb.steps; omega)]
    refine ⟨n - 1,by omega,k+1,by omega,f1,rfl,trivial,?_⟩
    rw [t0,hin]
    simp at hd
    simp [hd]
  ·have hc' : ¬ k < b.steps.length:=by simpa using hc
   simp -implicitDefEqProofs only [DJ,ED,KI,EU,AA,↓reduceIte,Nat.reduceEqDiff]
   rw [List.take_of_length_le (by omega)] at hin
   exact ⟨f1,trivial,hin⟩
 ·rintro F H ⟨f1,rfl,he⟩
  have hs':JL b=false:=by simpa using hs
  have hv:=TN hn' hs' he
  simp -implicitDefEqProofs only [BC,BA,A8,EX,AY,AO,AQ,AL,BD,AX,AC,AA,A7,BX,BV,BZ,BU,AB,lMc,lMn,lAn,↓reduceIte,oGs,bNf,enP,f1,ldB]
  refine (AG8 G b _).use ?_
  simp -implicitDefEqProofs only [BC,BP,BA,A8,AY,BB,AO,AQ,AL,BD,AX,AC,AA,A7,AU,BH,AZ,↓reduceIte,oGs,bNf]
  refine G7 2 (fun F H=>F 4 = .sl (QU b) 1 ((sets b).map encS)∧H=h ++ [.live 4 [GM b]]∧(sets b).any (fun l=>decide (l.l.length > 64))=false) (fun F H=>F 2 = .int .i64 (G5 b)∧H=h ++ [.live 4 [GM b]]) ?_ ?_ ?_
  ·refine DR (fun n F H => ∃ k,n+k=(sets b).length∧F 4 = .sl (QU b) 1 ((sets b).map encS)∧F 5 = .int .i64 (k:Nat)∧H=h ++ [.live 4 [GM b]]∧((sets b).take k).any (fun l=>decide (l.l.length > 64))=false) (sets b).length ⟨0,by simp,by simp -implicitDefEqProofs only [AA,↓reduceIte,Nat.reduceEqDiff],by simp -implicitDefEqProofs only [AA,↓reduceIte]; rfl,rfl,rfl⟩ ?_
   rintro n F H ⟨k,hk,f4,f5,rfl,hin⟩
   simp -implicitDefEqProofs only [BC,BA,BI,A8,AY,BB,AO,AQ,AL,BD,AX,AC,AA,A7,BG,BR,D7,AB,DC,↓reduceIte,Nat.reduceEqDiff,oGs,bNf,enP,PM,f4,f5,lLm]
   refine CV (fun hc => ?_) (fun hc => ?_)
   ·have hc':k < (sets b).length:=by simpa using hc
    have t0:=UM (fun l:Rs=>decide (l.l.length > 64)) (sets b) k hc'
    simp -implicitDefEqProofs only [BC,BP,BA,BO,BI,A8,AY,BB,AO,AQ,AL,BD,AX,AC,AA,A7,AU,BH,BG,BV,BR,CG,D7,AB,EY,↓reduceIte,Nat.reduceEqDiff,oGs,bNf,enP,QD,ZU,f4,f5,DZ hc',DV OG hc',Z4,lLm]
    refine CV (fun hd => ?_) (fun hd => ?_)
    ·simp -implicitDefEqProofs only [BC,BA,BK,A8,CP,D8,NE,E8,AY,BB,AO,AQ,AL,BD,AX,AC,AA,AU,BH,AZ,↓reduceIte,oGs,bNf]
     refine ⟨?_,trivial⟩
     have:(sets b).any (fun l=>decide (l.l.length > 64))=true:=by
      rw [List.any_eq_true]
      exact ⟨(sets b)[k],by simp,by simp at hd ⊢; omega⟩
     rw [hv,if_pos this]
    ·simp -implicitDefEqProofs only [BA,BO,A8,EF,ER,AY,BB,AO,AQ,AL,BD,AX,AC,AA,A7,AU,BH,BG,AZ,BR,AB,DF,↓reduceIte,Nat.reduceEqDiff,oGs,bNf,enP,f5,wrap_succ (show k < 9223372036854775807 by have:=hb.num; omega)]
     refine ⟨n - 1,by omega,k+1,by omega,f4,rfl,trivial,?_⟩
     rw [t0,hin]
     simp at hd ⊢
     omega
   ·have hc' : ¬ k < (sets b).length:=by simpa using hc
    simp -implicitDefEqProofs only [DJ,ED,KI,EU,AA,↓reduceIte,Nat.reduceEqDiff]
    rw [List.take_of_length_le (by omega)] at hin
    exact ⟨f4,trivial,hin⟩
  ·rintro F H ⟨f4,rfl,h64⟩
   rw [h64] at hv
   simp only [Bool.false_eq_true,if_false] at hv
   simp -implicitDefEqProofs only [BC,BP,BA,A8,EX,AY,BB,AO,AQ,AL,BD,AX,AC,AU,BH,AZ,↓reduceIte,oGs,bNf,f4]
   refine DR (fun n F H => ∃ k,n+k=(sets b).length∧F 4 = .sl (QU b) 1 ((sets b).map encS)∧F 6 = .int .i64 (k:Nat)∧H=h ++ [.live 4 [GM b]]∧((sets b).take k).any (fun l=>l.l.any bad)=false) (sets b).length ⟨0,by simp,by simp -implicitDefEqProofs only [AA,↓reduceIte,Nat.reduceEqDiff,f4],by simp -implicitDefEqProofs only [AA,↓reduceIte]; rfl,rfl,rfl⟩ ?_
   rintro n F H ⟨k,hk,f4,f6,rfl,hin⟩
   simp -implicitDefEqProofs only [BC,BA,BI,A8,AY,BB,AO,AQ,AL,BD,AX,AC,AA,A7,BG,BR,D7,AB,DC,↓reduceIte,Nat.reduceEqDiff,oGs,bNf,enP,PM,f4,f6,lLm]
   refine CV (fun hc => ?_) (fun hc => ?_)
   ·have hc':k < (sets b).length:=by simpa using hc
    have t0:=UM (fun l:Rs=>l.l.any bad) (sets b) k hc'
    simp -implicitDefEqProofs only [BC,BP,BA,BO,A8,AY,AO,AQ,AL,BD,AX,AC,AA,A7,BX,BG,BV,CG,BZ,BU,AB,lMc,lMn,lAn,↓reduceIte,Nat.reduceEqDiff,oGs,bNf,enP,ZU,f4,f6,DZ hc',DV OG hc',Z4,lLm]
    refine (AJM G _ _ _).use ?_
    have hk64 : ¬ (sets b)[k].l.length > 64:=by
     rw [List.any_eq_false] at h64
     have:=h64 (sets b)[k] (by simp)
     simpa using this
    simp -implicitDefEqProofs only [BC,BA,BI,A8,AY,BB,AO,AQ,AL,BD,AX,AC,AA,A7,AU,BH,BG,AZ,BR,AB,EN,↓reduceIte,oGs,bNf,enP]
    cases hbad:(sets b)[k].l.any bad with
    | true =>
      have hr:=TU hk64 hbad
      refine CV (fun hd => ?_) (fun hd => ?_)
      ·simp -implicitDefEqProofs only [BC,BA,BK,A8,CP,D8,E8,CJ,AY,BB,AO,AQ,AL,BD,AX,AC,AA,A7,BG,AZ,↓reduceIte,Nat.reduceEqDiff,oGs,bNf]
       refine ⟨?_,_,rfl⟩
       have:(sets b).any (fun l=>l.l.any bad)=true:=by
        rw [List.any_eq_true]
        exact ⟨(sets b)[k],by simp,hbad⟩
       rw [hr,hv,if_pos this]
      ·rw [hr] at hd; simp at hd
    | false =>
      have hr:=V3 hk64 hbad
      refine CV (fun hd => ?_) (fun hd => ?_)
      ·rw [hr] at hd; simp at hd
      ·simp -implicitDefEqProofs only [BA,BO,A8,EF,ER,AY,BB,AO,AQ,AL,BD,AX,AC,AA,A7,AU,BH,BG,AZ,BR,AB,DF,↓reduceIte,Nat.reduceEqDiff,oGs,bNf,enP,f6,wrap_succ (show k < 9223372036854775807 by have:=hb.num; omega)]
       refine ⟨n - 1,by omega,k+1,by omega,f4,rfl,trivial,?_⟩
       rw [t0,hin,hbad]; rfl
   ·have hc' : ¬ k < (sets b).length:=by simpa using hc
    simp -implicitDefEqProofs only [BC,BA,BK,DJ,A8,ED,EX,EU,CJ,AY,BB,AO,AQ,AL,BD,AX,AC,AA,AU,BH,AZ,↓reduceIte,oGs,bNf]
    rw [List.take_of_length_le (by omega)] at hin
    exact ⟨by rw [hv,if_neg (by rw [hin]; simp)],_,rfl⟩
  ·rintro F H ⟨f2,rfl⟩
   simp -implicitDefEqProofs only [CP,D8,CJ]
   exact ⟨f2,_,rfl⟩
 ·rintro F H ⟨f2,rfl⟩
  simp -implicitDefEqProofs only [CP,D8,CJ]
  exact ⟨by rw [f2],_,rfl⟩
end Go.Proofs.YtocilianjfhifaaGreatDoor.Bins
namespace Go.Proofs.YtocilianjfhifaaGreatDoor.Cov
open Sm Bins
inductive Ex where
 | mk (op n:Int) (name:ByteArray) (m:SM) (args:List Ex)
def Ex.op:Ex→Int | .mk op _ _ _ _=>op
def Ex.n:Ex→Int | .mk _ n _ _ _=>n
def Ex.name:Ex→ByteArray | .mk _ _ name _ _=>name
def Ex.m:Ex→SM | .mk _ _ _ m _=>m
def Ex.args:Ex→List Ex | .mk _ _ _ _ args=>args
mutual
def ET:Ex→List AV
 | .mk op n name m args => [.int .i64 op,.int .i64 n,.str name,.sl m 4 (AIJ args)]
def AIJ:List Ex→List (List AV)
 | [] => []
 | e :: es=>ET e :: AIJ es
end
theorem AEM : ∀ l:List Ex,AIJ l=l.map ET
 | []=>by simp [AIJ]
 | e :: es=>by simp [AIJ,AEM es]
theorem OB (e:Ex):ET e = [.int .i64 e.op,.int .i64 e.n,.str e.name,.sl e.m 4 (e.args.map ET)]:=by
 cases e; simp [ET,AEM,Ex.op,Ex.n,Ex.name,Ex.m,Ex.args]
theorem JU (e:Ex):(ET e).length=4:=by rw [OB]; rfl
theorem JY (e:Ex):(ET e)[0]? = some (.int .i64 e.op):=by rw [OB]; rfl
theorem XZ (e:Ex):(ET e)[1]? = some (.int .i64 e.n):=by rw [OB]; rfl
theorem PN (e:Ex):(ET e)[2]? = some (.str e.name):=by rw [OB]; rfl
theorem XY (e:Ex):(ET e)[3]? = some (.sl e.m 4 (e.args.map ET)):=by rw [OB]; rfl
theorem AEN (e:Ex):(ET e).all AV.leaf=true:=by rw [OB]; rfl
theorem bxE (h:Hp) (e:Ex):O8 h (.agg (ET e))=some (.ptr h.length 0 0,h ++ [.live 4 [ET e]]):=by
 have:=X6 (h:=h) (AEN e)
 rw [JU] at this; exact this
theorem ldE (h:Hp) (e:Ex):D6 Tryz.prog (h ++ [.live 4 [ET e]]) 53 (.ptr h.length 0 0)=some (.agg (ET e)):=by
 rw [UZ AAO VT (by rw [JU]; exact Nat.le_refl 4)]
 rw [List.drop_zero,List.take_of_length_le (by rw [JU]; exact Nat.le_refl 4)]
theorem MC {h:Hp} {b:Nat} {e:Ex} (hb:h[b]? = some (.live 4 [ET e])):D6 Tryz.prog h 53 (.ptr b 0 0)=some (.agg (ET e)):=by
 rw [JI AAO VT hb rfl (by rw [JU]; exact Nat.le_refl 4)]
 rw [List.drop_zero,List.take_of_length_le (by rw [JU]; exact Nat.le_refl 4)]
mutual
def pre:Ex→List Ex
 | .mk op n name m args => .mk op n name m args :: JO args
def JO:List Ex→List Ex
 | [] => []
 | e :: es=>pre e ++ JO es
end
mutual
def dep:Ex→Nat
 | .mk _ _ _ _ args=>deps args+1
def deps:List Ex→Nat
 | []=>0
 | e :: es=>max (dep e) (deps es)
end
mutual
def wt:Ex→Nat
 | .mk _ _ name _ args=>name.size+1+wts args
def wts:List Ex→Nat
 | []=>0
 | e :: es=>wt e+wts es
end
theorem pre_eq (e:Ex):pre e=e :: JO e.args:=by cases e; simp [pre,Ex.args]
theorem AF8 (e:Ex):dep e=deps e.args+1:=by cases e; simp [dep,Ex.args]
theorem L9 (e:Ex):wt e=e.name.size+1+wts e.args:=by cases e; simp [wt,Ex.args,Ex.name]
theorem O4 (xs ys:List Ex):JO (xs ++ ys)=JO xs ++ JO ys:=by
 induction xs with
 | nil=>simp [JO]
 | cons x xs ih=>simp [JO,ih]
theorem SB (xs:List Ex):xs.length≤wts xs:=by
 induction xs with
 | nil=>simp [wts]
 | cons x xs ih=>have:=L9 x; simp [wts]; omega
theorem QR {xs:List Ex} {x:Ex} (h:x∈xs):wt x≤wts xs:=by
 induction xs with
 | nil=>cases h
 | cons y ys ih =>
   simp only [wts]
   cases List.mem_cons.1 h with
   | inl e=>subst e; omega
   | inr e=>have:=ih e; omega
theorem AEP (xs:List Ex) (k:Nat) (h:k < xs.length):deps (xs.take (k+1))=max (deps (xs.take k)) (dep xs[k]):=by
 induction xs generalizing k with
 | nil=>simp at h
 | cons x xs ih =>
   cases k with
   | zero=>simp [deps]
   | succ k =>
     simp only [List.take_succ_cons,deps,List.getElem_cons_succ]
     rw [ih k (by simpa using h),Nat.max_assoc]
theorem Ex.induct {P:Ex→Prop} (h : ∀ e:Ex,(∀ a∈e.args,P a)→P e) (e:Ex):P e:=by
 have : ∀ n (e:Ex),wt e≤n→P e:=by
  intro n
  induction n with
  | zero=>intro e he; have:=L9 e; omega
  | succ n ih =>
    intro e he
    refine h e fun a ha=>ih a ?_
    have h1:=QR ha
    have h2:=L9 e
    omega
 exact this _ e (Nat.le_refl _)
theorem AQO (e:Ex):dep e≤wt e:=by
 refine Ex.induct (P:=fun e=>dep e≤wt e) (fun e ih => ?_) e
 rw [AF8,L9]
 have:deps e.args≤wts e.args:=by
  generalize e.args=l at ih
  induction l with
  | nil=>simp [deps,wts]
  | cons x l ih2 =>
    have h1:=ih x (by simp)
    have h2:=ih2 (fun a ha=>ih a (by simp [ha]))
    simp only [deps,wts]; omega
 omega
theorem AFF (e:Ex):(pre e).length≤wt e:=by
 refine Ex.induct (P:=fun e=>(pre e).length≤wt e) (fun e ih => ?_) e
 rw [pre_eq,L9]
 have:(JO e.args).length≤wts e.args:=by
  generalize e.args=l at ih
  induction l with
  | nil=>simp [JO,wts]
  | cons x l ih2 =>
    have h1:=ih x (by simp)
    have h2:=ih2 (fun a ha=>ih a (by simp [ha]))
    simp only [JO,wts,List.length_append]; omega
 simp; omega
def arity (op:Int):Int:=if op < 1∨op > 25 then -1 else if op=1∨op=2∨op=24 then 0 else if op=3∨op=4∨op=5∨op=6∨op=25 then 1 else if op=22 then 3 else if op=23 then -1 else 2
set_option maxHeartbeats 2000000 in
theorem AKO (G:Nat→AV) (op:Int) (h:Hp):PCall (En G) 258 [.int .i64 op] h (.int .i64 (arity op)):=by
 refine CB (H:=Hint.none) (enM G) Tryz.func258 rfl (by kernel_rfl) (by kernel_rfl) (nLb (by kernel_rfl)) ?_
 show awp _ _ _ _ _ (EG _ [.tmp 2] _)
 have hcase:op < 1∨op > 25∨op=1∨op=2∨op=3∨op=4∨op=5∨op=6∨op=7∨op=8∨op=9∨op=10∨op=11∨op=12∨op=13∨op=14∨op=15∨op=16∨op=17∨op=18∨op=19∨op=20∨op=21∨op=22∨op=23∨op=24∨op=25:=by omega
 rcases hcase with h | h | rfl | rfl | rfl | rfl | rfl | rfl | rfl | rfl | rfl | rfl | rfl | rfl | rfl | rfl | rfl | rfl | rfl | rfl | rfl | rfl | rfl | rfl | rfl | rfl | rfl
 ·have hne : ∀ k:Int,1≤k→(op == k)=false:=fun k hk=>beq_eq_false_iff_ne.2 (by omega)
  have hd:decide (op < 1)=true:=by simp; omega
  have ha:arity op = -1:=by unfold arity; rw [if_pos (Or.inl h)]
  rw [ha]
  simp -implicitDefEqProofs only [BC,BP,BA,BO,BK,BI,A8,CP,EF,CJ,C9,DN,AY,BB,BJ,BQ,CO,FN,AO,AQ,AL,BD,AX,AC,AA,EQ,A7,AU,BH,BM,BG,AZ,CU,DT,BR,AB,DY,DC,BF,↓reduceIte,Nat.reduceEqDiff,oGs,bNf,enP,hne 1 (by decide),hne 2 (by decide),hne 3 (by decide),hne 4 (by decide),hne 5 (by decide),hne 6 (by decide),hne 7 (by decide),hne 8 (by decide),hne 9 (by decide),hne 10 (by decide),hne 11 (by decide),hne 12 (by decide),hne 13 (by decide),hne 14 (by decide),hne 15 (by decide),hne 16 (by decide),hne 17 (by decide),hne 18 (by decide),hne 19 (by decide),hne 20 (by decide),hne 21 (by decide),hne 22 (by decide),hne 23 (by decide),hne 24 (by decide),hne 25 (by decide),hd]
  exact ⟨trivial,trivial⟩
 ·have hne : ∀ k:Int,k≤25→(op == k)=false:=fun k hk=>beq_eq_false_iff_ne.2 (by omega)
  have hd:decide (op < 1)=false:=by simp; omega
  have hd2:decide (op > 25)=true:=by simp; omega
  have ha:arity op = -1:=by unfold arity; rw [if_pos (Or.inr h)]
  rw [ha]
  simp -implicitDefEqProofs only [BC,BP,BA,BO,BK,BI,A8,CP,EF,CJ,C9,DN,AY,BB,BJ,BQ,CO,EK,AO,AQ,AL,BD,AX,AC,AA,A7,AU,BH,BM,BG,AZ,CU,DL,BR,AB,DY,DC,EY,BF,↓reduceIte,Nat.reduceEqDiff,oGs,bNf,enP,hne 1 (by decide),hne 2 (by decide),hne 3 (by decide),hne 4 (by decide),hne 5 (by decide),hne 6 (by decide),hne 7 (by decide),hne 8 (by decide),hne 9 (by decide),hne 10 (by decide),hne 11 (by decide),hne 12 (by decide),hne 13 (by decide),hne 14 (by decide),hne 15 (by decide),hne 16 (by decide),hne 17 (by decide),hne 18 (by decide),hne 19 (by decide),hne 20 (by decide),hne 21 (by decide),hne 22 (by decide),hne 23 (by decide),hne 24 (by decide),hne 25 (by decide),hd,hd2]
  exact ⟨trivial,trivial⟩
 all_goals
  simp -implicitDefEqProofs only [BC,BP,BA,BO,BK,BI,A8,CP,EF,D8,CJ,C9,DN,AY,BB,BJ,BQ,CO,EK,AO,AQ,AL,BD,AX,AC,AA,A7,AU,BH,BM,BG,AZ,CU,DL,BR,AB,DY,DC,EY,BF,↓reduceIte,Nat.reduceEqDiff,oGs,bNf,decide_false,enP,Int.reduceBEq,Int.reduceLT,Int.reduceGT]
  exact ⟨rfl,trivial⟩
set_option maxHeartbeats 2000000 in
theorem AN2 (G:Nat→AV) (op:Int) (h:Hp):PCall (En G) 254 [.int .i64 op] h (.int .i64 (arity op)):=by
 refine CB (H:=Hint.none) (enM G) Tryz.func254 rfl (by kernel_rfl) (by kernel_rfl) (nLb (by kernel_rfl)) ?_
 show awp _ _ _ _ _ (EG _ [.tmp 2] _)
 have hcase:op < 1∨op > 25∨op=1∨op=2∨op=3∨op=4∨op=5∨op=6∨op=7∨op=8∨op=9∨op=10∨op=11∨op=12∨op=13∨op=14∨op=15∨op=16∨op=17∨op=18∨op=19∨op=20∨op=21∨op=22∨op=23∨op=24∨op=25:=by omega
 rcases hcase with h | h | rfl | rfl | rfl | rfl | rfl | rfl | rfl | rfl | rfl | rfl | rfl | rfl | rfl | rfl | rfl | rfl | rfl | rfl | rfl | rfl | rfl | rfl | rfl | rfl | rfl
 ·have hne : ∀ k:Int,1≤k→(op == k)=false:=fun k hk=>beq_eq_false_iff_ne.2 (by omega)
  have hd:decide (op < 1)=true:=by simp; omega
  have ha:arity op = -1:=by unfold arity; rw [if_pos (Or.inl h)]
  rw [ha]
  simp -implicitDefEqProofs only [BC,BP,BA,BO,BK,BI,A8,CP,EF,CJ,C9,DN,AY,BB,BJ,BQ,CO,FN,AO,AQ,AL,BD,AX,AC,AA,EQ,A7,AU,BH,BM,BG,AZ,CU,DT,BR,AB,DY,DC,BF,↓reduceIte,Nat.reduceEqDiff,oGs,bNf,enP,hne 1 (by decide),hne 2 (by decide),hne 3 (by decide),hne 4 (by decide),hne 5 (by decide),hne 6 (by decide),hne 7 (by decide),hne 8 (by decide),hne 9 (by decide),hne 10 (by decide),hne 11 (by decide),hne 12 (by decide),hne 13 (by decide),hne 14 (by decide),hne 15 (by decide),hne 16 (by decide),hne 17 (by decide),hne 18 (by decide),hne 19 (by decide),hne 20 (by decide),hne 21 (by decide),hne 22 (by decide),hne 23 (by decide),hne 24 (by decide),hne 25 (by decide),hd]
  exact ⟨trivial,trivial⟩
 ·have hne : ∀ k:Int,k≤25→(op == k)=false:=fun k hk=>beq_eq_false_iff_ne.2 (by omega)
  have hd:decide (op < 1)=false:=by simp; omega
  have hd2:decide (op > 25)=true:=by simp; omega
  have ha:arity op = -1:=by unfold arity; rw [if_pos (Or.inr h)]
  rw [ha]
  simp -implicitDefEqProofs only [BC,BP,BA,BO,BK,BI,A8,CP,EF,CJ,C9,DN,AY,BB,BJ,BQ,CO,EK,AO,AQ,AL,BD,AX,AC,AA,A7,AU,BH,BM,BG,AZ,CU,DL,BR,AB,DY,DC,EY,BF,↓reduceIte,Nat.reduceEqDiff,oGs,bNf,enP,hne 1 (by decide),hne 2 (by decide),hne 3 (by decide),hne 4 (by decide),hne 5 (by decide),hne 6 (by decide),hne 7 (by decide),hne 8 (by decide),hne 9 (by decide),hne 10 (by decide),hne 11 (by decide),hne 12 (by decide),hne 13 (by decide),hne 14 (by decide),hne 15 (by decide),hne 16 (by decide),hne 17 (by decide),hne 18 (by decide),hne 19 (by decide),hne 20 (by decide),hne 21 (by decide),hne 22 (by decide),hne 23 (by decide),hne 24 (by decide),hne 25 (by decide),hd,hd2]
  exact ⟨trivial,trivial⟩
 all_goals
  simp -implicitDefEqProofs only [BC,BP,BA,BO,BK,BI,A8,CP,D8,CJ,C9,DN,AY,BB,AO,AQ,AL,BD,AX,AC,AA,A7,AU,BH,BG,AZ,BR,AB,DY,BF,↓reduceIte,Nat.reduceEqDiff,oGs,bNf,enP,Int.reduceBEq,Int.reduceLT,Int.reduceGT]
  exact ⟨rfl,trivial⟩
def KR (op:Int):Bool:=op == 2 || op == 3 || op == 24
theorem UY (G:Nat→AV) (op:Int) (h:Hp):PCall (En G) 246 [.int .i64 op] h (.bool (KR op)):=by
 refine CB (H:=Hint.none) (enM G) Tryz.func246 rfl (by kernel_rfl) (by kernel_rfl) (nLb (by kernel_rfl)) ?_
 show awp _ _ _ _ _ (EG _ [.tmp 2] _)
 simp -implicitDefEqProofs only [BC,BA,A8,AY,BB,BJ,BQ,CO,AO,AQ,AL,BD,AX,AC,AA,A7,AU,BH,BM,BG,AZ,BR,AB,DY,BF,↓reduceIte,Nat.reduceEqDiff,oGs,bNf,enP]
 cases ha:(op == 2) <;> cases hb:(op == 3)
 all_goals
  simp -implicitDefEqProofs only [BK,A8,CJ,AY,BB,BJ,BQ,CO,EK,FN,AO,AQ,AL,BD,AX,AC,AA,EQ,A7,AU,BH,BM,BG,AZ,CU,DT,DL,BR,AB,DY,BF,↓reduceIte,Nat.reduceEqDiff,oGs,bNf,enP,ha,hb]
  exact ⟨by simp [KR,ha,hb],trivial⟩
def YS (op:Int) (n:Nat):Bool:=if op == 23 then ((n:Int) % 2 == 1) && decide ((n:Int)≥3) && decide ((n:Int)≤33) else ((n:Int) == arity op)
theorem ADC (G:Nat→AV) (e:Ex) (h:Hp):PCall (En G) 231 [.agg (ET e)] h (.bool (YS e.op e.args.length)):=by
 refine ACalls.pure0 rfl ?_
 refine CB (H:=Hint.none) (enM G) Tryz.func231 rfl (by kernel_rfl) (by kernel_rfl) (nLb (by kernel_rfl)) ?_
 show awp _ _ _ _ _ (EG _ [.tmp 2] _)
 simp -implicitDefEqProofs only [BC,BA,BI,A8,AY,BB,AO,AQ,AL,BD,AX,AC,AA,A7,AU,BH,BM,AZ,FY,BV,BR,BL,D7,CE,AB,DY,BF,↓reduceIte,Nat.reduceEqDiff,Nat.add_zero,Nat.zero_add,oGs,bNf,enP,ADE,IB,OV,bxE,DI AGL,DI ag3,XY,JY,lLm]
 generalize he:e.args.length=n
 have hm:(n:Int).tmod 2=(n:Int) % 2:=Int.tmod_eq_emod_of_nonneg (by omega)
 have b1:IY Tryz.prog 3 .rem (.int .i64 (n:Int)) (.int .i64 2)=some (.int .i64 ((n:Int) % 2)):=by rw [AA2 _ _ _ _ _ (by decide),hm]
 refine CV (fun hc => ?_) (fun hc => ?_)
 ·simp -implicitDefEqProofs only [BC,BA,AY,BJ,BQ,CO,AO,AQ,AL,BD,AX,AC,AA,A7,AU,BH,BG,BR,AB,DY,↓reduceIte,Nat.reduceEqDiff,oGs,bNf,enP,b1]
  cases ha:((n:Int) % 2 == 1) <;> cases hb:decide ((n:Int)≥3)
  all_goals
   simp -implicitDefEqProofs only [BK,A8,CP,CJ,AY,BB,BJ,BQ,CO,GG,IK,AO,AQ,AL,BD,AX,AC,AA,EQ,A7,AU,BH,BM,BG,AZ,CU,DT,DL,BR,AB,IC,HY,↓reduceIte,Nat.reduceEqDiff,oGs,bNf,enP,ha,hb]
   exact ⟨by unfold YS; rw [if_pos hc,ha,hb]; simp,_,rfl⟩
 ·simp -implicitDefEqProofs only [BC,BA,BO,A8,AY,AO,AQ,AL,BD,AX,AC,AA,A7,BX,BG,BV,BL,BZ,BU,AB,lMc,lMn,lAn,↓reduceIte,Nat.reduceEqDiff,Nat.add_zero,oGs,bNf,enP,IB,DI ag3,JY]
  refine (AKO G e.op _).use ?_
  simp -implicitDefEqProofs only [BK,A8,CJ,AY,BB,AO,AQ,AL,BD,AX,AC,AA,A7,AZ,BR,AB,DY,↓reduceIte,Nat.reduceEqDiff,oGs,bNf,enP]
  exact ⟨by unfold YS; rw [if_neg (by rw [hc]; decide)],_,rfl⟩
end Go.Proofs.YtocilianjfhifaaGreatDoor.Cov
namespace Go.Proofs.YtocilianjfhifaaGreatDoor.Cov
open Sm Bins Go.Shelf Go.RowKit
def AQT:Go.Shelf.Ren:=⟨fun | 145=>290 | 220=>304 | 219=>305 | 217=>306 | 225=>307 | 224=>308 | 267=>309 | 266=>310 | 314=>311 | n=>n,fun | 9=>9 | 4=>4 | 59=>261 | 3=>3 | 5=>5 | 46=>269 | 146=>273 | 51=>272 | n=>n,fun | 1=>1 | n=>n⟩
theorem A0F:Go.Proofs.Lays.n145 Tryz.prog AQT := {
 mixed:=by kernel_rfl,
 f145:=Tryz.func290.trans (congrArg some (by kernel_rfl)),
 f217:=Tryz.func306.trans (congrArg some (by kernel_rfl)),
 f219:=Tryz.func305.trans (congrArg some (by kernel_rfl)),
 f220:=Tryz.func304.trans (congrArg some (by kernel_rfl)),
 f224:=Tryz.func308.trans (congrArg some (by kernel_rfl)),
 f225:=Tryz.func307.trans (congrArg some (by kernel_rfl)),
 f266:=Tryz.func310.trans (congrArg some (by kernel_rfl)),
 f267:=Tryz.func309.trans (congrArg some (by kernel_rfl)),
 f314:=Tryz.func311.trans (congrArg some (by kernel_rfl)),
 t3:=Tryz.underlying3,
 a3:=Tryz.isAgg3,
 z3:=Tryz.sizeOf3,
 v3:=Tryz.zeroValue3,
 t4:=Tryz.underlying4,
 a4:=Tryz.isAgg4,
 z4:=Tryz.sizeOf4,
 v4:=Tryz.zeroValue4,
 t5:=Tryz.underlying5,
 a5:=Tryz.isAgg5,
 z5:=Tryz.sizeOf5,
 v5:=Tryz.zeroValue5,
 t9:=Tryz.underlying9,
 a9:=Tryz.isAgg9,
 z9:=Tryz.sizeOf9,
 v9:=Tryz.zeroValue9,
 t46:=Tryz.underlying269,
 a46:=Tryz.isAgg269,
 z46:=Tryz.sizeOf269,
 v46:=Tryz.zeroValue269,
 t51:=Tryz.underlying272,
 a51:=Tryz.isAgg272,
 z51:=Tryz.sizeOf272,
 v51:=Tryz.zeroValue272,
 t59:=Tryz.underlying261,
 a59:=Tryz.isAgg261,
 z59:=Tryz.sizeOf261,
 v59:=Tryz.zeroValue261,
 t146:=Tryz.underlying273,
 a146:=Tryz.isAgg273,
 z146:=Tryz.sizeOf273,
 v146:=Tryz.zeroValue273,
 g1:=by kernel_rfl }
structure GOk (G:Nat→AV):Prop where
 kw:KwG G
 mx : ∃ n,G 1 = .fptr 1 [[.int .i64 n]] 0 0
theorem AP3 {G:Nat→AV} {g:Gh} {h:Hp} {w:World} {n:Nat} {k:IntKind} {z:Int} (S:SimH (En G) g h w) (hn:G n = .fptr 1 [[.int k z]] 0 0):w.cell? ⟨n,0,none⟩=some (.int k z):=by
 have:=S.glob n
 rw [enG,hn] at this
 generalize hp:Value.pointer (some ⟨n,0,none⟩)=p at this
 cases this with
 | fptr k' xs i j cb co c e fz cv h1 h2 h3 h4 =>
   simp only [Value.pointer.injEq,Option.some.injEq,Addr.mk.injEq] at hp
   obtain ⟨rfl,hco,_⟩:=hp
   have h5:=h3 0 0 (by simp) (by simp)
   have h6:=h4 0 0 _ _ rfl rfl
   generalize cv 0 0=u at h5 h6
   cases h6
   simp only [World.cell?,S.fro _ _ h1]
   subst hco
   exact h5
def cutV (s:ByteArray):AV := .tup [.str ⟨(Lib.cut s.data.toList [91]).1.toArray⟩,.str ⟨(Lib.cut s.data.toList [91]).2.1.toArray⟩,.bool (Lib.cut s.data.toList [91]).2.2]
theorem AQS (G:Nat→AV) (hG:GOk G) (s:ByteArray) (h:Hp) (hl:s.size≤1048576):PCall (En G) 290 [.str s,.str ⟨#[91]⟩] h (cutV s):=by
 refine PCall.of_reads (cok 290 G (by kernel_rfl)) fun g w cargs S ha => ?_
 obtain ⟨hsz,hget⟩:=ha
 obtain ⟨cv0,cv1,rfl⟩ : ∃ a b,cargs = #[a,b]:=by
  obtain ⟨l⟩:=cargs
  match l,hsz with
  | [a,b],_=>exact ⟨a,b,rfl⟩
 obtain rfl:=(hget 0 _ cv0 rfl rfl).str_inv
 obtain rfl:=(hget 1 _ cv1 rfl rfl).str_inv
 obtain ⟨z,hz⟩:=hG.mx
 have hc:=AP3 S hz
 have:=Any.strings_Cut A0F s ⟨#[91]⟩ z w (by omega) hc
 refine ⟨_,?_,this⟩
 refine .tup _ _ rfl ?_
 intro i v cv h1 h2
 match i,h1,h2 with
 | 0,h1,h2=>simp at h1 h2; subst h1; subst h2; exact .str _ _
 | 1,h1,h2=>simp at h1 h2; subst h1; subst h2; exact .str _ _
 | 2,h1,h2=>simp at h1 h2; subst h1; subst h2; exact .bool _ _
def O5 (s:ByteArray):Option (List UInt8 × UInt8) :=
 if 4≤s.data.toList.length then match s.data.toList.drop (s.data.toList.length - 3) with
  | [x,d,y]=>if (y == 93 && x == 91 && decide (48≤d.toNat) && decide (d.toNat < 56) && G6 ⟨(s.data.toList.take (s.data.toList.length - 3)).toArray⟩)=true then some (s.data.toList.take (s.data.toList.length - 3),d) else none
  | _=>none
 else none
def elemV (o:Option (List UInt8 × UInt8)):AV:=match o with
 | some (a,d) => .tup [.str ⟨a.toArray⟩,.int .i64 ((d.toNat:Int) - 48),.bool true]
 | none => .tup [.str ⟨#[]⟩,.int .i64 0,.bool false]
theorem ALZ {l:List UInt8} (h:G6 ⟨l.toArray⟩=true):l≠[]∧∀ b∈l,b≠91:=by
 have hw:RG ⟨l.toArray⟩=true:=by
  unfold G6 at h
  exact (Bool.and_eq_true_iff.1 (Bool.and_eq_true_iff.1 h).1).1
 unfold RG at hw
 obtain ⟨h1,h2⟩:=Bool.and_eq_true_iff.1 hw
 refine ⟨?_,?_⟩
 ·intro e; subst e; cases h1
 ·intro b hb e
  subst e
  have:=List.all_eq_true.1 h2 91 hb
  revert this; decide
theorem three {l:List UInt8} (h:3≤l.length) : ∃ a x d y,l=a ++ [x,d,y]:=by
 refine ⟨l.take (l.length - 3),?_⟩
 have h1:(l.drop (l.length - 3)).length=3:=by simp; omega
 match hm:l.drop (l.length - 3),h1 with
 | [x,d,y],_=>exact ⟨x,d,y,by rw [← hm,List.take_append_drop]⟩
theorem ACJ {a:List UInt8} {x d y:UInt8} (ha:a≠[]):O5 ⟨(a ++ [x,d,y]).toArray⟩=if (y == 93 && x == 91 && decide (48≤d.toNat) && decide (d.toNat < 56) && G6 ⟨a.toArray⟩)=true then some (a,d) else none:=by
 have hl:0 < a.length:=List.length_pos_iff.2 ha
 unfold O5
 simp only
 rw [if_pos (by simp; omega)]
 have e:(a ++ [x,d,y]).length - 3=a.length:=by simp
 rw [e,List.drop_left,List.take_left]
theorem AQL (s:ByteArray):O5 s=if ((Lib.cut s.data.toList [91]).2.2 && G6 ⟨(Lib.cut s.data.toList [91]).1.toArray⟩)=true then match (Lib.cut s.data.toList [91]).2.1 with
  | [d,y]=>if (y == 93 && decide (48≤d.toNat) && decide (d.toNat < 56))=true then some ((Lib.cut s.data.toList [91]).1,d) else none
  | _=>none
 else none:=by
 obtain ⟨⟨l⟩⟩:=s
 have hocc : ∀ i,Lib.occAt l [91] i=true↔l[i]? = some 91:=by
  intro i
  unfold Lib.occAt
  rcases Nat.lt_or_ge i l.length with h | h
  ·rw [List.drop_eq_getElem_cons h,List.getElem?_eq_getElem h]
   simp [List.isPrefixOf]
   exact eq_comm
  ·rw [List.drop_eq_nil_of_le h,List.getElem?_eq_none h]; simp [List.isPrefixOf]
 -- an element name of the reference's kind
 have main : ∀ a d,a≠[]→G6 ⟨a.toArray⟩=true→l=a ++ [91,d,93]→Lib.cut l [91]=(a,[d,93],true):=by
  intro a d ha hn hl
  obtain ⟨_,hne⟩:=ALZ hn
  have hi:Lib.index l [91]=(a.length:Int):=by
   refine Lib.index_first (by rw [hl]; simp) ((hocc _).2 (by rw [hl]; simp)) fun j hj => ?_
   rw [← Bool.not_eq_true,hocc,hl,List.getElem?_append_left hj,List.getElem?_eq_getElem hj]
   intro e
   exact hne _ (List.getElem_mem hj) (Option.some.inj e)
  unfold Lib.cut
  rw [hi,if_pos (by omega),Int.toNat_natCast,hl,List.take_left,← List.drop_drop,List.drop_left]
  rfl
 show O5 ⟨l.toArray⟩=_
 rcases hcase:O5 ⟨l.toArray⟩ with _ | ⟨a,d⟩
 ·symm
  show (if _ then _ else none)=none
  simp only
  split
  ·rename_i hb
   rw [Bool.and_eq_true] at hb
   split
   ·rename_i d y hm
    split
    ·rename_i hd
     exfalso
     simp only [Bool.and_eq_true,beq_iff_eq,decide_eq_true_eq] at hd
     obtain ⟨⟨rfl,hd1⟩,hd2⟩:=hd
     obtain ⟨ha,_⟩:=ALZ hb.2
     have hc:Lib.cut l [91]=((Lib.cut l [91]).1,[d,93],true):=by
      rw [← hm]; have:=hb.1; cases hcc:Lib.cut l [91] with
      | mk p q=>cases q with
        | mk q1 q2=>rw [hcc] at this; simp at this; subst this; rfl
     have hl:l=(Lib.cut l [91]).1 ++ [91,d,93]:=by
      generalize (Lib.cut l [91]).1=b at hc
      unfold Lib.cut at hc
      split at hc
      ·rename_i h0
       obtain ⟨i,hi⟩ : ∃ i:Nat,Lib.index l [91]=i:=⟨(Lib.index l [91]).toNat,by omega⟩
       rw [hi] at hc
       simp only [Int.toNat_natCast,Prod.mk.injEq,List.length_singleton] at hc
       rcases Lib.index_spec l [91] with ⟨h1,_⟩ | ⟨j,h1,_,h3,_⟩
       ·omega
       ·have hj:i=j:=by omega
        subst hj
        have h4:=(hocc i).1 h3
        have h5:i < l.length:=(List.getElem?_eq_some_iff.1 h4).1
        have h6:l[i]=91:=by rw [List.getElem?_eq_getElem h5] at h4; exact Option.some.inj h4
        rw [← hc.1]
        calc l=l.take i ++ l.drop i:=(List.take_append_drop i l).symm
         _=l.take i ++ (l[i] :: l.drop (i+1)):=by rw [List.drop_eq_getElem_cons h5]
         _=l.take i ++ [91,d,93]:=by rw [h6,hc.2.1]
      ·simp at hc
     have:=ACJ (x:=91) (d:=d) (y:=93) ha
     rw [← hl,hcase,if_pos (by simp [hb.2,hd1,hd2])] at this
     cases this
    ·rfl
   ·rfl
  ·rfl
 ·have h4:4≤l.length:=by
   unfold O5 at hcase
   simp only at hcase
   split at hcase
   ·assumption
   ·cases hcase
  obtain ⟨b,x,d',y,rfl⟩:=three (show 3≤l.length by omega)
  have hb:b≠[]:=by intro e; subst e; simp at h4
  rw [ACJ hb] at hcase
  split at hcase
  ·rename_i hc
   cases hcase
   simp only [Bool.and_eq_true,beq_iff_eq,decide_eq_true_eq] at hc
   obtain ⟨⟨⟨⟨rfl,rfl⟩,h1⟩,h2⟩,h3⟩:=hc
   simp only
   rw [main a d hb h3 rfl]
   simp [h3,h1,h2]
  ·cases hcase
end Go.Proofs.YtocilianjfhifaaGreatDoor.Cov
