/- Part 4 of the proof (Ft, B1, B2, B3, B4, B5, B6, E1, E2, E3, E4); no condition. -/
import Derived.Test.YtocilianjfhifaaGreatDoorProg
import Derived.KernelRfl
import Derived.Laws.RangeAny
import Derived.Shelf.Strings.Cut
import Derived.Lib.IndexMore
import Derived.Test.YtocilianjfhifaaGreatDoorYB3
set_option linter.unusedVariables false
namespace Go.Proofs.YtocilianjfhifaaGreatDoor.Sm

theorem sz3:szO Tryz.prog 3=some 1:=by kernel_rfl
theorem ag3:JU Tryz.prog 3=some false:=by kernel_rfl
theorem ag4:JU Tryz.prog 4=some false:=by kernel_rfl
theorem sz9:szO Tryz.prog 9=some 1:=by kernel_rfl
theorem ag9:JU Tryz.prog 9=some false:=by kernel_rfl
theorem U7:JU Tryz.prog 22=some false:=by kernel_rfl
theorem AD3:JU Tryz.prog 23=some false:=by kernel_rfl
theorem AM2:szO Tryz.prog 25=some 2:=by kernel_rfl
theorem AVE:JU Tryz.prog 25=some true:=by kernel_rfl
theorem AKT:szO Tryz.prog 26=some 1:=by kernel_rfl
theorem OA:JU Tryz.prog 26=some false:=by kernel_rfl
theorem AKS:szO Tryz.prog 28=some 4:=by kernel_rfl
theorem AX0:JU Tryz.prog 28=some true:=by kernel_rfl
theorem AT4:szO Tryz.prog 38=some 1:=by kernel_rfl
theorem APU:JU Tryz.prog 38=some false:=by kernel_rfl
theorem AM1:szO Tryz.prog 47=some 1:=by kernel_rfl
theorem AXZ:JU Tryz.prog 47=some true:=by kernel_rfl
theorem AGW:JU Tryz.prog 51=some false:=by kernel_rfl
theorem VF:szO Tryz.prog 53=some 4:=by kernel_rfl
theorem AAM:JU Tryz.prog 53=some true:=by kernel_rfl
theorem V5:JU Tryz.prog 54=some false:=by kernel_rfl
theorem X8:szO Tryz.prog 56=some 6:=by kernel_rfl
theorem AA9:JU Tryz.prog 56=some true:=by kernel_rfl
theorem YZ:szO Tryz.prog 57=some 1:=by kernel_rfl
theorem NR:JU Tryz.prog 57=some false:=by kernel_rfl
theorem AT3:szO Tryz.prog 58=some 1:=by kernel_rfl
theorem APT:JU Tryz.prog 58=some false:=by kernel_rfl
theorem AAX:szO Tryz.prog 71=some 3:=by kernel_rfl
theorem AGV:JU Tryz.prog 71=some true:=by kernel_rfl
theorem ATF:szO Tryz.prog 118=some 1:=by kernel_rfl
theorem UJ:JU Tryz.prog 118=some false:=by kernel_rfl
theorem AKH:JU Tryz.prog 119=some false:=by kernel_rfl
theorem OW:szO Tryz.prog 121=some 4:=by kernel_rfl
theorem UI:JU Tryz.prog 121=some true:=by kernel_rfl
theorem ATE:szO Tryz.prog 133=some 2:=by kernel_rfl
theorem AX3:JU Tryz.prog 133=some true:=by kernel_rfl
theorem ATD:szO Tryz.prog 146=some 1:=by kernel_rfl
theorem AM4:szO Tryz.prog 179=some 1:=by kernel_rfl
theorem ACK:JU Tryz.prog 179=some false:=by kernel_rfl
theorem AJB:szO Tryz.prog 185=some 2:=by kernel_rfl
theorem ATT:JU Tryz.prog 185=some true:=by kernel_rfl
theorem AM3:szO Tryz.prog 187=some 2:=by kernel_rfl
theorem AX2:JU Tryz.prog 187=some true:=by kernel_rfl
theorem ATC:szO Tryz.prog 195=some 1:=by kernel_rfl
theorem AX1:JU Tryz.prog 195=some true:=by kernel_rfl
theorem ln9 : ∀ s,J4 Tryz.prog 9 (.str s)=some (.int .i64 s.size):=ARR (by kernel_rfl:Tryz.prog.underlying 9=some .string)
theorem UZ : ∀ h a i,F8 Tryz.prog h 22 a i=JP 6 h a i:=IE (by kernel_rfl:Tryz.prog.underlying 22=some (.slice 56)) X8
theorem UY:(∀ m k xs,J4 Tryz.prog 22 (.sl m k xs)=some (.int .i64 xs.length))∧∀ b off len,J4 Tryz.prog 22 (.own b off len)=some (.int .i64 len):=NZ (by kernel_rfl:Tryz.prog.underlying 22=some (.slice 56))
theorem AFO : ∀ h a i,F8 Tryz.prog h 23 a i=JP 3 h a i:=IE (by kernel_rfl:Tryz.prog.underlying 23=some (.slice 71)) AAX
theorem AA1:(∀ m k xs,J4 Tryz.prog 23 (.sl m k xs)=some (.int .i64 xs.length))∧∀ b off len,J4 Tryz.prog 23 (.own b off len)=some (.int .i64 len):=NZ (by kernel_rfl:Tryz.prog.underlying 23=some (.slice 71))
theorem LP:(∀ b i j,DF Tryz.prog 25 (.ptr b i j) 0=some (.ptr b i (j+0)))∧(∀ k xs i j,DF Tryz.prog 25 (.fptr k xs i j) 0=some (.fptr k xs i (j+0))):=I5 (by kernel_rfl:KL Tryz.prog 25 0 0=true)
theorem N9:(∀ b i j,DF Tryz.prog 25 (.ptr b i j) 1=some (.ptr b i (j+1)))∧(∀ k xs i j,DF Tryz.prog 25 (.fptr k xs i j) 1=some (.fptr k xs i (j+1))):=I5 (by kernel_rfl:KL Tryz.prog 25 1 1=true)
theorem TV : ∀ h a i,F8 Tryz.prog h 26 a i=JP 1 h a i:=IE (by kernel_rfl:Tryz.prog.underlying 26=some (.slice 57)) YZ
theorem YB:(∀ m k xs,J4 Tryz.prog 26 (.sl m k xs)=some (.int .i64 xs.length))∧∀ b off len,J4 Tryz.prog 26 (.own b off len)=some (.int .i64 len):=NZ (by kernel_rfl:Tryz.prog.underlying 26=some (.slice 57))
theorem AG9:Tryz.prog.underlying 26=some (.slice 57):=by kernel_rfl
theorem AKK:TR Tryz.prog 57=some 1:=by kernel_rfl
theorem AIM:LQ Tryz.prog 57=some 24:=by kernel_rfl
theorem N8:(∀ b i j,DF Tryz.prog 28 (.ptr b i j) 0=some (.ptr b i (j+0)))∧(∀ k xs i j,DF Tryz.prog 28 (.fptr k xs i j) 0=some (.fptr k xs i (j+0))):=I5 (by kernel_rfl:KL Tryz.prog 28 0 0=true)
theorem N7:(∀ b i j,DF Tryz.prog 28 (.ptr b i j) 1=some (.ptr b i (j+1)))∧(∀ k xs i j,DF Tryz.prog 28 (.fptr k xs i j) 1=some (.fptr k xs i (j+1))):=I5 (by kernel_rfl:KL Tryz.prog 28 1 1=true)
theorem ADH:(∀ b i j,DF Tryz.prog 28 (.ptr b i j) 2=some (.ptr b i (j+2)))∧(∀ k xs i j,DF Tryz.prog 28 (.fptr k xs i j) 2=some (.fptr k xs i (j+2))):=I5 (by kernel_rfl:KL Tryz.prog 28 2 2=true)
theorem ADG:(∀ b i j,DF Tryz.prog 28 (.ptr b i j) 3=some (.ptr b i (j+3)))∧(∀ k xs i j,DF Tryz.prog 28 (.fptr k xs i j) 3=some (.fptr k xs i (j+3))):=I5 (by kernel_rfl:KL Tryz.prog 28 3 3=true)
theorem SC:(∀ b i j,DF Tryz.prog 47 (.ptr b i j) 0=some (.ptr b i (j+0)))∧(∀ k xs i j,DF Tryz.prog 47 (.fptr k xs i j) 0=some (.fptr k xs i (j+0))):=I5 (by kernel_rfl:KL Tryz.prog 47 0 0=true)
theorem ALF : ∀ h a i,F8 Tryz.prog h 51 a i=JP 4 h a i:=IE (by kernel_rfl:Tryz.prog.underlying 51=some (.slice 53)) VF
theorem AC4:(∀ m k xs,J4 Tryz.prog 51 (.sl m k xs)=some (.int .i64 xs.length))∧∀ b off len,J4 Tryz.prog 51 (.own b off len)=some (.int .i64 len):=NZ (by kernel_rfl:Tryz.prog.underlying 51=some (.slice 53))
theorem H6:(∀ b i j,DF Tryz.prog 53 (.ptr b i j) 0=some (.ptr b i (j+0)))∧(∀ k xs i j,DF Tryz.prog 53 (.fptr k xs i j) 0=some (.fptr k xs i (j+0))):=I5 (by kernel_rfl:KL Tryz.prog 53 0 0=true)
theorem ZY:(∀ b i j,DF Tryz.prog 53 (.ptr b i j) 1=some (.ptr b i (j+1)))∧(∀ k xs i j,DF Tryz.prog 53 (.fptr k xs i j) 1=some (.fptr k xs i (j+1))):=I5 (by kernel_rfl:KL Tryz.prog 53 1 1=true)
theorem KR:(∀ b i j,DF Tryz.prog 53 (.ptr b i j) 2=some (.ptr b i (j+2)))∧(∀ k xs i j,DF Tryz.prog 53 (.fptr k xs i j) 2=some (.fptr k xs i (j+2))):=I5 (by kernel_rfl:KL Tryz.prog 53 2 2=true)
theorem O7:(∀ b i j,DF Tryz.prog 53 (.ptr b i j) 3=some (.ptr b i (j+3)))∧(∀ k xs i j,DF Tryz.prog 53 (.fptr k xs i j) 3=some (.fptr k xs i (j+3))):=I5 (by kernel_rfl:KL Tryz.prog 53 3 3=true)
theorem AH0 : ∀ h a i,F8 Tryz.prog h 54 a i=JP 4 h a i:=IE (by kernel_rfl:Tryz.prog.underlying 54=some (.slice 121)) OW
theorem ZI:(∀ m k xs,J4 Tryz.prog 54 (.sl m k xs)=some (.int .i64 xs.length))∧∀ b off len,J4 Tryz.prog 54 (.own b off len)=some (.int .i64 len):=NZ (by kernel_rfl:Tryz.prog.underlying 54=some (.slice 121))
theorem AOK:(∀ b i j,DF Tryz.prog 56 (.ptr b i j) 0=some (.ptr b i (j+0)))∧(∀ k xs i j,DF Tryz.prog 56 (.fptr k xs i j) 0=some (.fptr k xs i (j+0))):=I5 (by kernel_rfl:KL Tryz.prog 56 0 0=true)
theorem ADF:(∀ b i j,DF Tryz.prog 56 (.ptr b i j) 1=some (.ptr b i (j+1)))∧(∀ k xs i j,DF Tryz.prog 56 (.fptr k xs i j) 1=some (.fptr k xs i (j+1))):=I5 (by kernel_rfl:KL Tryz.prog 56 1 1=true)
theorem LM:(∀ b i j,DF Tryz.prog 56 (.ptr b i j) 2=some (.ptr b i (j+5)))∧(∀ k xs i j,DF Tryz.prog 56 (.fptr k xs i j) 2=some (.fptr k xs i (j+5))):=I5 (by kernel_rfl:KL Tryz.prog 56 2 5=true)
theorem MB : ∀ h a i,F8 Tryz.prog h 57 a i=JP 1 h a i:=IE (by kernel_rfl:Tryz.prog.underlying 57=some (.slice 3)) sz3
theorem J6:(∀ m k xs,J4 Tryz.prog 57 (.sl m k xs)=some (.int .i64 xs.length))∧∀ b off len,J4 Tryz.prog 57 (.own b off len)=some (.int .i64 len):=NZ (by kernel_rfl:Tryz.prog.underlying 57=some (.slice 3))
theorem UN:Tryz.prog.underlying 57=some (.slice 3):=by kernel_rfl
theorem YP:TR Tryz.prog 3=some 1:=by kernel_rfl
theorem WV:LQ Tryz.prog 3=some 8:=by kernel_rfl
theorem AYO : ∀ h a i,F8 Tryz.prog h 58 a i=JP 2 h a i:=IE (by kernel_rfl:Tryz.prog.underlying 58=some (.slice 187)) AM3
theorem AWF:(∀ m k xs,J4 Tryz.prog 58 (.sl m k xs)=some (.int .i64 xs.length))∧∀ b off len,J4 Tryz.prog 58 (.own b off len)=some (.int .i64 len):=NZ (by kernel_rfl:Tryz.prog.underlying 58=some (.slice 187))
theorem ARU : ∀ h a i,F8 Tryz.prog h 64 a i=JP 1 h a i:=IE (by kernel_rfl:Tryz.prog.underlying 64=some (.slice 58)) AT3
theorem ALB:(∀ m k xs,J4 Tryz.prog 64 (.sl m k xs)=some (.int .i64 xs.length))∧∀ b off len,J4 Tryz.prog 64 (.own b off len)=some (.int .i64 len):=NZ (by kernel_rfl:Tryz.prog.underlying 64=some (.slice 58))
theorem AVM:Tryz.prog.underlying 64=some (.slice 58):=by kernel_rfl
theorem AYE:TR Tryz.prog 58=some 1:=by kernel_rfl
theorem AY0:LQ Tryz.prog 58=some 24:=by kernel_rfl
theorem AOJ:(∀ b i j,DF Tryz.prog 71 (.ptr b i j) 0=some (.ptr b i (j+0)))∧(∀ k xs i j,DF Tryz.prog 71 (.fptr k xs i j) 0=some (.fptr k xs i (j+0))):=I5 (by kernel_rfl:KL Tryz.prog 71 0 0=true)
theorem SB:(∀ b i j,DF Tryz.prog 71 (.ptr b i j) 1=some (.ptr b i (j+1)))∧(∀ k xs i j,DF Tryz.prog 71 (.fptr k xs i j) 1=some (.fptr k xs i (j+1))):=I5 (by kernel_rfl:KL Tryz.prog 71 1 1=true)
theorem ADE:(∀ b i j,DF Tryz.prog 71 (.ptr b i j) 2=some (.ptr b i (j+2)))∧(∀ k xs i j,DF Tryz.prog 71 (.fptr k xs i j) 2=some (.fptr k xs i (j+2))):=I5 (by kernel_rfl:KL Tryz.prog 71 2 2=true)
theorem ATJ : ∀ h a i,F8 Tryz.prog h 118 a i=JP 2 h a i:=IE (by kernel_rfl:Tryz.prog.underlying 118=some (.slice 185)) AJB
theorem XN:(∀ m k xs,J4 Tryz.prog 118 (.sl m k xs)=some (.int .i64 xs.length))∧∀ b off len,J4 Tryz.prog 118 (.own b off len)=some (.int .i64 len):=NZ (by kernel_rfl:Tryz.prog.underlying 118=some (.slice 185))
theorem AN8 : ∀ h a i,F8 Tryz.prog h 119 a i=JP 1 h a i:=IE (by kernel_rfl:Tryz.prog.underlying 119=some (.slice 118)) ATF
theorem ABS:(∀ m k xs,J4 Tryz.prog 119 (.sl m k xs)=some (.int .i64 xs.length))∧∀ b off len,J4 Tryz.prog 119 (.own b off len)=some (.int .i64 len):=NZ (by kernel_rfl:Tryz.prog.underlying 119=some (.slice 118))
theorem AJ5:(∀ b i j,DF Tryz.prog 121 (.ptr b i j) 0=some (.ptr b i (j+0)))∧(∀ k xs i j,DF Tryz.prog 121 (.fptr k xs i j) 0=some (.fptr k xs i (j+0))):=I5 (by kernel_rfl:KL Tryz.prog 121 0 0=true)
theorem TK:(∀ b i j,DF Tryz.prog 121 (.ptr b i j) 1=some (.ptr b i (j+1)))∧(∀ k xs i j,DF Tryz.prog 121 (.fptr k xs i j) 1=some (.fptr k xs i (j+1))):=I5 (by kernel_rfl:KL Tryz.prog 121 1 1=true)
theorem TJ:(∀ b i j,DF Tryz.prog 121 (.ptr b i j) 2=some (.ptr b i (j+2)))∧(∀ k xs i j,DF Tryz.prog 121 (.fptr k xs i j) 2=some (.fptr k xs i (j+2))):=I5 (by kernel_rfl:KL Tryz.prog 121 2 2=true)
theorem YM:(∀ b i j,DF Tryz.prog 121 (.ptr b i j) 3=some (.ptr b i (j+3)))∧(∀ k xs i j,DF Tryz.prog 121 (.fptr k xs i j) 3=some (.fptr k xs i (j+3))):=I5 (by kernel_rfl:KL Tryz.prog 121 3 3=true)
theorem AR5:(∀ b i j,DF Tryz.prog 133 (.ptr b i j) 0=some (.ptr b i (j+0)))∧(∀ k xs i j,DF Tryz.prog 133 (.fptr k xs i j) 0=some (.fptr k xs i (j+0))):=I5 (by kernel_rfl:KL Tryz.prog 133 0 0=true)
theorem AJ4:(∀ b i j,DF Tryz.prog 133 (.ptr b i j) 1=some (.ptr b i (j+1)))∧(∀ k xs i j,DF Tryz.prog 133 (.fptr k xs i j) 1=some (.fptr k xs i (j+1))):=I5 (by kernel_rfl:KL Tryz.prog 133 1 1=true)
theorem ATA:Tryz.prog.underlying 143=some (.slice 146):=by kernel_rfl
theorem AML:TR Tryz.prog 146=some 1:=by kernel_rfl
theorem APA:LQ Tryz.prog 146=some 24:=by kernel_rfl
theorem ANZ:(∀ m k xs,J4 Tryz.prog 146 (.sl m k xs)=some (.int .i64 xs.length))∧∀ b off len,J4 Tryz.prog 146 (.own b off len)=some (.int .i64 len):=NZ (by kernel_rfl:Tryz.prog.underlying 146=some (.slice 4))
theorem AVN:Tryz.prog.underlying 146=some (.slice 4):=by kernel_rfl
theorem ABV : ∀ h a i,F8 Tryz.prog h 179 a i=JP 1 h a i:=IE (by kernel_rfl:Tryz.prog.underlying 179=some (.slice 9)) sz9
theorem XM:(∀ m k xs,J4 Tryz.prog 179 (.sl m k xs)=some (.int .i64 xs.length))∧∀ b off len,J4 Tryz.prog 179 (.own b off len)=some (.int .i64 len):=NZ (by kernel_rfl:Tryz.prog.underlying 179=some (.slice 9))
theorem AMW:Tryz.prog.underlying 179=some (.slice 9):=by kernel_rfl
theorem AMK:TR Tryz.prog 9=some 1:=by kernel_rfl
theorem AO9:LQ Tryz.prog 9=some 16:=by kernel_rfl
theorem AJ3:(∀ b i j,DF Tryz.prog 181 (.ptr b i j) 0=some (.ptr b i (j+0)))∧(∀ k xs i j,DF Tryz.prog 181 (.fptr k xs i j) 0=some (.fptr k xs i (j+0))):=I5 (by kernel_rfl:KL Tryz.prog 181 0 0=true)
theorem AJ2:(∀ b i j,DF Tryz.prog 181 (.ptr b i j) 1=some (.ptr b i (j+1)))∧(∀ k xs i j,DF Tryz.prog 181 (.fptr k xs i j) 1=some (.fptr k xs i (j+1))):=I5 (by kernel_rfl:KL Tryz.prog 181 1 1=true)
theorem AJ1:(∀ b i j,DF Tryz.prog 181 (.ptr b i j) 2=some (.ptr b i (j+2)))∧(∀ k xs i j,DF Tryz.prog 181 (.fptr k xs i j) 2=some (.fptr k xs i (j+2))):=I5 (by kernel_rfl:KL Tryz.prog 181 2 2=true)
theorem AJ0:(∀ b i j,DF Tryz.prog 181 (.ptr b i j) 3=some (.ptr b i (j+3)))∧(∀ k xs i j,DF Tryz.prog 181 (.fptr k xs i j) 3=some (.fptr k xs i (j+3))):=I5 (by kernel_rfl:KL Tryz.prog 181 3 3=true)
theorem ADK:(∀ b i j,DF Tryz.prog 181 (.ptr b i j) 4=some (.ptr b i (j+4)))∧(∀ k xs i j,DF Tryz.prog 181 (.fptr k xs i j) 4=some (.fptr k xs i (j+4))):=I5 (by kernel_rfl:KL Tryz.prog 181 4 4=true)
theorem ADJ:(∀ b i j,DF Tryz.prog 185 (.ptr b i j) 0=some (.ptr b i (j+0)))∧(∀ k xs i j,DF Tryz.prog 185 (.fptr k xs i j) 0=some (.fptr k xs i (j+0))):=I5 (by kernel_rfl:KL Tryz.prog 185 0 0=true)
theorem ADI:(∀ b i j,DF Tryz.prog 185 (.ptr b i j) 1=some (.ptr b i (j+1)))∧(∀ k xs i j,DF Tryz.prog 185 (.fptr k xs i j) 1=some (.fptr k xs i (j+1))):=I5 (by kernel_rfl:KL Tryz.prog 185 1 1=true)
theorem AR4:(∀ b i j,DF Tryz.prog 187 (.ptr b i j) 0=some (.ptr b i (j+0)))∧(∀ k xs i j,DF Tryz.prog 187 (.fptr k xs i j) 0=some (.fptr k xs i (j+0))):=I5 (by kernel_rfl:KL Tryz.prog 187 0 0=true)
theorem AR3:(∀ b i j,DF Tryz.prog 187 (.ptr b i j) 1=some (.ptr b i (j+1)))∧(∀ k xs i j,DF Tryz.prog 187 (.fptr k xs i j) 1=some (.fptr k xs i (j+1))):=I5 (by kernel_rfl:KL Tryz.prog 187 1 1=true)
theorem AR2:(∀ b i j,DF Tryz.prog 195 (.ptr b i j) 0=some (.ptr b i (j+0)))∧(∀ k xs i j,DF Tryz.prog 195 (.fptr k xs i j) 0=some (.fptr k xs i (j+0))):=I5 (by kernel_rfl:KL Tryz.prog 195 0 0=true)
theorem AWW : ∀ n,SV Tryz.prog 3 5 (.int .i64 n)=some (.int .u8 (IntKind.u8.wrap n)):=fun n=>VZ (ds := .int .i64) Tryz.prog .i64 n (by kernel_rfl) (by kernel_rfl)
theorem ASG : ∀ n,SV Tryz.prog 3 252 (.int .i64 n)=some (.int .u16 (IntKind.u16.wrap n)):=fun n=>VZ (ds := .int .i64) Tryz.prog .i64 n (by kernel_rfl) (by kernel_rfl)
theorem AO3 : ∀ n,SV Tryz.prog 5 3 (.int .u8 n)=some (.int .i64 (IntKind.i64.wrap n)):=fun n=>VZ (ds := .int .u8) Tryz.prog .u8 n (by kernel_rfl) (by kernel_rfl)
theorem ASH : ∀ n,SV Tryz.prog 252 3 (.int .u16 n)=some (.int .i64 (IntKind.i64.wrap n)):=fun n=>VZ (ds := .int .u16) Tryz.prog .u16 n (by kernel_rfl) (by kernel_rfl)
noncomputable def En (G:Nat→AV):Env:=⟨Tryz.prog,G⟩
theorem enP (G:Nat→AV):(En G).P=Tryz.prog:=rfl
theorem enG (G:Nat→AV):(En G).G=G:=rfl
theorem enM (G:Nat→AV):(En G).P.follows .mixedOrders=true:=by kernel_rfl
end Go.Proofs.YtocilianjfhifaaGreatDoor.Sm
namespace Go.Proofs.YtocilianjfhifaaGreatDoor.Bins
open Sm
structure Rng where
 lo:Int
 hi:Int
 deriving DecidableEq
def encR (r:Rng):List AV := [.int .i64 r.lo,.int .i64 r.hi]
theorem Z5 (r:Rng):(encR r).length=2:=rfl
theorem AF8 (r:Rng):(encR r)[0]? = some (.int .i64 r.lo):=rfl
theorem AF7 (r:Rng):(encR r)[1]? = some (.int .i64 r.hi):=rfl
def inside (xs:List Rng) (v:Int):Bool:=xs.any fun r=>decide (r.lo≤v) && decide (v≤r.hi)
theorem PG {α:Type} (p:α→Bool) (xs:List α) (k:Nat) (h:k < xs.length):(xs.drop k).any p=(p xs[k] || (xs.drop (k+1)).any p):=by
 rw [List.drop_eq_getElem_cons h,List.any_cons]
theorem bxR (h:Hp) (r:Rng):NU h (.agg (encR r))=some (.ptr h.length 0 0,h ++ [.live 2 [encR r]]):=rfl
end Go.Proofs.YtocilianjfhifaaGreatDoor.Bins
set_option linter.unusedSimpArgs false
set_option maxRecDepth 8000
namespace Go.Proofs.YtocilianjfhifaaGreatDoor.Bins
open Sm
def bad (r:Rng):Bool:=decide (r.lo < 0) || decide (r.lo > r.hi) || decide (r.hi > 65535)
def IC (xs:List Rng):Int:=if xs.length > 64 then 2 else if xs.any bad then 1 else 0
theorem AE8 {xs:List Rng} (h:xs.length > 64):IC xs=2:=by simp [IC,h]
theorem AE9 {xs:List Rng} (h : ¬ xs.length > 64) (hb:xs.any bad=true):IC xs=1:=by simp [IC,h,hb]
theorem AHJ {xs:List Rng} (h : ¬ xs.length > 64) (hb:xs.any bad=false):IC xs=0:=by simp [IC,h,hb]
theorem AZA (h:Hp):I9 Tryz.prog h 185=some (.ptr h.length 0 0,h ++ [.live 2 [[.int .i64 0,.int .i64 0]]]):=IY (row := [.int .i64 0,.int .i64 0]) (by kernel_rfl)
theorem AYG (h:Hp) (r:Rng) (row:List AV) (hr:row.length=2):EY Tryz.prog (h ++ [.live 2 [row]]) 185 (.ptr h.length 0 0) (.agg (encR r))=some (h ++ [.live 2 [encR r]]):=by
 rw [KN (cs:=encR r) rfl AJB (by simp [hr,encR])]
 simp [splice,hr,encR]
theorem AE6 (G:Nat→AV) (xs:List Rng) (m:SM) (h:Hp) (hl:xs.length≤1099511627776) :
  PCall (En G) 203 [.sl m 2 (xs.map encR)] h (.int .i64 (IC xs)):=by
 refine ACalls.pure0 rfl ?_
 refine CE (H:=Hint.none) (enM G) Tryz.func203 rfl (by kernel_rfl) (by kernel_rfl) (nLb (by kernel_rfl)) ?_
 show awp _ _ _ _ _ (D9 _ [.tmp 2] _)
 simp -implicitDefEqProofs only [BC,BA,BL,A8,AY,BB,AO,AQ,AL,BD,AX,AC,AA,AZ,AU,BI,BG,A7,BU,D8,AB,FU,BF,↓reduceIte,Nat.reduceEqDiff,oGs,bNf,enP,XN,lLm]
 refine DC (fun hc => ?_) (fun hc => ?_)
 ·simp -implicitDefEqProofs only [BC,BA,BK,A8,CX,CP,AY,BB,AO,AQ,AL,BD,AX,AC,AA,AU,BI,A7,↓reduceIte,oGs,bNf]
  exact ⟨by rw [AE8 (by simp at hc; omega)],[],by simp⟩
 simp -implicitDefEqProofs only [BC,BV,BA,BR,A8,AY,BB,AO,AQ,AL,BD,AX,AC,AA,AZ,AU,BI,BG,D8,AB,BF,↓reduceIte,Nat.reduceEqDiff,oGs,bNf,enP,XN,lLm]
 have h64 : ¬ xs.length > 64:=by simp at hc; omega
 refine DY (fun n F H => ∃ k,n+k=xs.length∧F 8 = .sl m 2 (xs.map encR)∧F 9 = .int .i64 xs.length∧F 10 = .int .i64 (k:Nat)∧(∃ x,H=h ++ x)∧xs.any bad=(xs.drop k).any bad) xs.length ⟨0,by simp,rfl,rfl,rfl,⟨[],by simp⟩,rfl⟩ ?_
 rintro n F H ⟨k,hk,f8,f9,f10,⟨x,rfl⟩,hin⟩
 simp -implicitDefEqProofs only [BC,BA,BL,A8,AY,BB,AO,AQ,AL,BD,AX,AC,AA,AZ,BU,AB,DT,↓reduceIte,oGs,bNf,enP,f8,f9,f10]
 refine DC (fun hc => ?_) (fun hc => ?_)
 ·have hc':k < xs.length:=by simpa using hc
  have hs:=PG bad xs k hc'
  simp -implicitDefEqProofs only [BC,BV,BA,BR,A8,AY,BB,BH,BN,CO,AO,AQ,AL,BD,AX,AC,EM,AA,AZ,AU,BI,BG,EZ,BQ,D6,BU,BM,CV,BX,AB,DI,DT,↓reduceIte,Nat.reduceEqDiff,Nat.add_zero,oGs,bNf,enP,ATJ,ADJ,Option.getD_none,f8,f9,f10,EF hc',FK ATT AJB Z5 hc',AZA,AYG _ _ [.int .i64 0,.int .i64 0] rfl,DJ ag3,AF8,AF7]
  rw [hs] at hin
  have fin:bad xs[k]=true→IC xs=1:=fun hb=>AE9 h64 (by rw [hin,hb]; rfl)
  have nxt:bad xs[k]=false→xs.any bad=(xs.drop (k+1)).any bad:=fun hb=>by rw [hin,hb]; rfl
  refine GU (fun ha => ?_) (fun ha => ?_)
  ·simp -implicitDefEqProofs only [BC,BA,BK,BL,A8,CX,ED,FY,CP,DU,AY,BB,BH,BN,CO,FP,AO,AQ,AL,BD,AX,AC,AA,EJ,AZ,AU,BI,BJ,BG,A7,CQ,DR,↓reduceIte,Nat.reduceEqDiff,oGs,bNf,ha]
   exact ⟨by rw [fin (by unfold bad; rw [ha]; rfl)],_,by rw [List.append_assoc]⟩
  simp -implicitDefEqProofs only [AY,BH,BN,CO,EG,AO,AQ,AL,BD,AX,AC,AA,AZ,AU,BJ,BG,CQ,DN,BQ,BU,BM,AB,FU,↓reduceIte,Nat.reduceEqDiff,Nat.add_zero,Nat.zero_add,oGs,bNf,enP,ADJ,ADI,ha,DJ ag3,AF8,AF7]
  refine GU (fun hb => ?_) (fun hb => ?_)
  ·simp -implicitDefEqProofs only [BC,BA,BK,BL,A8,CX,ED,FY,CP,DU,AY,BB,BH,BN,CO,FP,AO,AQ,AL,BD,AX,AC,AA,EJ,AZ,AU,BI,BJ,A7,CQ,DR,↓reduceIte,Nat.reduceEqDiff,oGs,bNf,hb]
   exact ⟨by rw [fin (by unfold bad; rw [hb]; simp)],_,by rw [List.append_assoc]⟩
  simp -implicitDefEqProofs only [BL,A8,AY,BB,BH,BN,CO,EG,AO,AQ,AL,BD,AX,AC,AA,AZ,AU,BI,BJ,CQ,DN,BQ,BU,BM,AB,FU,↓reduceIte,Nat.reduceEqDiff,Nat.zero_add,oGs,bNf,enP,ADI,hb,DJ ag3,AF8,AF7]
  refine DC (fun hc => ?_) (fun hc => ?_)
  ·simp -implicitDefEqProofs only [BC,BA,BK,A8,CX,ED,FY,CP,AY,BB,AO,AQ,AL,BD,AX,AC,AA,AU,BI,A7,↓reduceIte,oGs,bNf]
   exact ⟨by rw [fin (by unfold bad; rw [hc]; simp)],_,by rw [List.append_assoc]⟩
  ·simp -implicitDefEqProofs only [BA,BR,A8,EP,FC,AY,BB,AO,AQ,AL,BD,AX,AC,AA,AZ,AU,BI,BG,BU,AB,DV,↓reduceIte,Nat.reduceEqDiff,oGs,bNf,enP,f10,wrap_succ (show k < 9223372036854775807 by omega)]
   exact ⟨n - 1,by omega,k+1,by omega,f8,f9,rfl,⟨_,by rw [List.append_assoc]⟩,nxt (by unfold bad; rw [ha,hb,hc]; rfl)⟩
 ·have hc' : ¬ k < xs.length:=by simpa using hc
  simp -implicitDefEqProofs only [BC,BA,BK,DW,A8,ER,FN,FM,CP,AY,BB,AO,AQ,AL,BD,AX,AC,AA,AU,BI,A7,↓reduceIte,oGs,bNf]
  rw [List.drop_eq_nil_of_le (by omega)] at hin
  exact ⟨by rw [AHJ h64 hin],_,rfl⟩
structure Rs where
 m:SM
 l:List Rng
def AOT (r:Rs):AV := .sl r.m 2 (r.l.map encR)
def encS (r:Rs):List AV := [AOT r]
structure Bin where
 name:ByteArray
 kind:Int
 ranges:Rs
 sm:SM
 steps:List Rs
def F6 (b:Bin):List AV := [.str b.name,.int .i64 b.kind,AOT b.ranges,.sl b.sm 1 (b.steps.map encS)]
theorem ATL (b:Bin):(F6 b)[0]? = some (.str b.name):=rfl
theorem AB9 (b:Bin):(F6 b)[1]? = some (.int .i64 b.kind):=rfl
theorem AB8 (b:Bin):(F6 b)[2]? = some (.sl b.ranges.m 2 (b.ranges.l.map encR)):=rfl
theorem AKA (b:Bin):(F6 b)[3]? = some (.sl b.sm 1 (b.steps.map encS)):=rfl
theorem LD (b:Bin):(F6 b).length=4:=rfl
theorem AOS (r:Rs):(encS r)[0]? = some (.sl r.m 2 (r.l.map encR)):=rfl
theorem bxB (h:Hp) (b:Bin):NU h (.agg (F6 b))=some (.ptr h.length 0 0,h ++ [.live 4 [F6 b]]):=rfl
theorem ldB (h:Hp) (b:Bin):DL Tryz.prog (h ++ [.live 4 [F6 b]]) 121 (.ptr h.length 0 0)=some (.agg (F6 b)):=TG UI OW (by simp [F6])
def ABL (b:Bin):SM:=if b.ranges.l.length > 0 then .full else b.sm
def sets (b:Bin):List Rs:=if b.ranges.l.length > 0 then [b.ranges] else b.steps
theorem AY3 (h:Hp) (r:Rs):EN Tryz.prog false h 119 1 [(0,.sl r.m 2 (r.l.map encR))]=some (.sl .full 1 ([r].map encS),h):=by
 have:(XI 1 0 [(0,AV.sl r.m 2 (r.l.map encR))])=some [[.sl r.m 2 (r.l.map encR)]]:=rfl
 simp only [EN,Tryz.underlying119,ATF,this]
 have hz:TR Tryz.prog 118=some 1:=by kernel_rfl
 simp [hz,AV.frozen,encS,AOT]
theorem ABK (G:Nat→AV) (b:Bin) (h:Hp):PCall (En G) 202 [.agg (F6 b)] h (.sl (ABL b) 1 ((sets b).map encS)):=by
 refine ACalls.pure0 rfl ?_
 refine CE (H:=Hint.none) (enM G) Tryz.func202 rfl (by kernel_rfl) (by kernel_rfl) (nLb (by kernel_rfl)) ?_
 show awp _ _ _ _ _ (D9 _ [.tmp 2] _)
 simp -implicitDefEqProofs only [BC,BA,BL,A8,AY,BB,AO,AQ,AL,BD,AX,AC,AA,AZ,AU,BI,JS,A7,FX,BQ,BU,BM,D8,BX,AB,FU,BF,↓reduceIte,Nat.reduceEqDiff,Nat.zero_add,oGs,bNf,enP,XN,TJ,bxB,DJ UJ,AB8,lLm]
 refine DC (fun hc => ?_) (fun hc => ?_)
 ·have hc':b.ranges.l.length > 0:=by simpa using hc
  simp -implicitDefEqProofs only [FI,FQ,BC,BA,BK,A8,CX,CP,AY,BB,AO,AQ,AL,BD,AX,AC,AA,AZ,A7,EE,BQ,BM,BX,AB,lMc,lMn,↓reduceIte,Nat.reduceEqDiff,Nat.zero_add,oGs,bNf,enP,TJ,DJ UJ,AB8,AY3]
  exact ⟨by rw [ABL,sets,if_pos hc',if_pos hc']; rfl,_,rfl⟩
 ·have hc' : ¬ b.ranges.l.length > 0:=by simpa using hc
  simp -implicitDefEqProofs only [BC,BA,BR,BK,A8,CP,AY,BB,AO,AQ,AL,BD,AX,AC,AA,AZ,A7,BQ,BM,AB,↓reduceIte,Nat.reduceEqDiff,Nat.zero_add,oGs,bNf,enP,YM,DJ AKH,AKA]
  exact ⟨by rw [ABL,sets,if_neg hc',if_neg hc'],_,rfl⟩
theorem AWA (m:SM) (k:Nat) (xs:List (List AV)):IZ Tryz.prog 57 .eql (.sl m k xs) (.sl .nil 0 [])=some (.bool (decide (m = .nil))):=by cases m <;> kernel_rfl
def AO8 (k:Nat) (xs:List (List AV)) (h:Hp) (v:AV) (h':Hp):Prop :=
 (xs = []∧(∃ k0,v = .sl .nil k0 [])∧h'=h)∨(xs = []∧v = .sl .full k []∧h'=h)∨(xs≠[]∧v = .own h.length 0 xs.length∧h'=h ++ [.live k xs])
theorem APD (h:Hp):EN Tryz.prog false h 57 0 []=some (.sl .full 1 [],h):=by kernel_rfl
theorem cok (f:FuncId) (G:Nat→AV) (hf:(match Tryz.prog.funcs[f]? with | some fn=>fn.body.isSome && !(fn.name == "runtime.NumGoroutine") | none=>false)=true):VA (En G).P f:=by
 have he:(En G).P=Tryz.prog:=rfl
 unfold VA
 rw [he]
 cases hx:Tryz.prog.funcs[f]? with
 | none=>rw [hx] at hf; cases hf
 | some fn =>
   rw [hx] at hf
   simp at hf
   exact ⟨fn,rfl,by simpa using hf.1,by simpa using hf.2⟩
def encI (n:Int):List AV := [.int .i64 n]
theorem encI0 (n:Int):(encI n)[0]? = some (.int .i64 n):=rfl
theorem AOX (G:Nat→AV) (r:Rs) (h:Hp):PCall (En G) 235 [.sl r.m 2 (r.l.map encR)] h (.bool (decide (r.l.length=0))):=by
 refine CE (H:=Hint.none) (enM G) Tryz.func235 rfl (by kernel_rfl) (by kernel_rfl) (nLb (by kernel_rfl)) ?_
 show awp _ _ _ _ _ (D9 _ [.tmp 2] _)
 simp -implicitDefEqProofs only [BC,BA,BK,A8,CP,AY,BB,AO,AQ,AL,BD,AX,AC,AA,AZ,AU,BI,BJ,BG,A7,BU,D8,AB,DX,BF,↓reduceIte,Nat.reduceEqDiff,oGs,bNf,enP,XN,lLm]
 refine ⟨?_,trivial⟩
 congr 1
 rw [Bool.eq_iff_iff]; simp
theorem AFR (G:Nat→AV) (xs:List Rs) (m:SM) (fid:FuncId) (caps:List AV) (p:Rs→Bool) (h:Hp) (hl:xs.length≤1099511627776)
  (hf : ∀ r,PCall (En G) fid (.sl r.m 2 (r.l.map encR) :: caps) h (.bool (p r))) :
  PCall (En G) 260 [.sl m 1 (xs.map encS),.fn (.func fid) [] caps] h (.int .i64 (match xs.findIdx? p with | some i=>(i:Int) | none => -1)):=by
 refine CE (H:=Hint.none) (enM G) Tryz.func260 rfl (by kernel_rfl) (by kernel_rfl) (nLb (by kernel_rfl)) ?_
 show awp _ _ _ _ _ (D9 _ [.tmp 4] _)
 simp -implicitDefEqProofs only [BC,BV,BA,A8,AY,BB,AO,AQ,AL,BD,AX,AC,AA,AZ,AU,BI,BG,A7,D8,AB,BF,↓reduceIte,Nat.reduceEqDiff,oGs,bNf,enP,ABS,lLm]
 refine DY (fun n F H => ∃ k,n+k=xs.length∧F 0 = .sl m 1 (xs.map encS)∧F 1 = .fn (.func fid) [] caps∧F 7 = .int .i64 xs.length∧F 8 = .int .i64 (k:Nat)∧H=h∧(xs.take k).all (fun r => !p r)=true) xs.length ⟨0,by simp,rfl,rfl,rfl,rfl,rfl,rfl⟩ ?_
 rintro n F H ⟨k,hk,f0,f1,f7,f8,rfl,hin⟩
 simp -implicitDefEqProofs only [BC,BA,BL,A8,AY,BB,AO,AQ,AL,BD,AX,AC,AA,AZ,BU,AB,DT,↓reduceIte,oGs,bNf,enP,f0,f1,f7,f8,lLm]
 refine DC (fun hc => ?_) (fun hc => ?_)
 ·have hc':k < xs.length:=by simpa using hc
  simp -implicitDefEqProofs only [BC,BV,BA,BR,A8,AY,BB,AO,AQ,AL,BD,AX,AC,AA,AZ,BG,A7,BQ,CV,CG,BP,AB,lMc,lMn,List.nil_append,List.cons_append,↓reduceIte,Nat.reduceEqDiff,oGs,bNf,enP,AN8,f0,f1,f7,f8,EF hc',EI UJ hc',AOS]
  refine (hf _).use ?_
  simp -implicitDefEqProofs only [BL,A8,BB,AC,AA,AZ,↓reduceIte]
  refine DC (fun hb => ?_) (fun hb => ?_)
  ·simp -implicitDefEqProofs only [BC,BA,BK,A8,CX,ED,FY,CP,AY,BB,AO,AQ,AL,BD,AX,AC,AA,AZ,BG,A7,↓reduceIte,Nat.reduceEqDiff,oGs,bNf]
   refine ⟨?_,trivial⟩
   rw [List.findIdx?_eq_some_iff_getElem.2 ⟨hc',hb,fun j hj=>by
    rw [List.all_eq_true] at hin
    have:=hin xs[j] (by rw [List.mem_take_iff_getElem]; exact ⟨j,by omega,rfl⟩)
    simpa using this⟩]
  ·simp -implicitDefEqProofs only [BA,BR,A8,EP,FC,AY,BB,AO,AQ,AL,BD,AX,AC,AA,AZ,AU,BI,BG,BU,AB,DV,↓reduceIte,Nat.reduceEqDiff,oGs,bNf,enP,f8,wrap_succ (show k < 9223372036854775807 by omega)]
   refine ⟨n - 1,by omega,k+1,by omega,f0,f1,f7,rfl,trivial,?_⟩
   rw [List.take_succ_eq_append_getElem hc',List.all_append,hin]
   simp only [List.all_cons,List.all_nil,hb]; rfl
 ·have hc' : ¬ k < xs.length:=by simpa using hc
  simp -implicitDefEqProofs only [BC,BA,BK,DW,A8,ER,FN,FM,CP,AY,BB,AO,AQ,AL,BD,AX,AC,AA,AU,BI,A7,↓reduceIte,oGs,bNf]
  refine ⟨?_,trivial⟩
  rw [List.take_of_length_le (by omega)] at hin
  rw [List.findIdx?_eq_none_iff.2 (by simpa using hin)]
theorem AAA (G:Nat→AV) (xs:List Rs) (m:SM) (fid:FuncId) (caps:List AV) (p:Rs→Bool) (h:Hp) (hl:xs.length≤1099511627776)
  (hf : ∀ r,PCall (En G) fid (.sl r.m 2 (r.l.map encR) :: caps) h (.bool (p r))) :
  PCall (En G) 234 [.sl m 1 (xs.map encS),.fn (.func fid) [] caps] h (.bool (xs.any p)):=by
 refine CE (H:=Hint.none) (enM G) Tryz.func234 rfl (by kernel_rfl) (by kernel_rfl) (nLb (by kernel_rfl)) ?_
 show awp _ _ _ _ _ (D9 _ [.tmp 4] _)
 simp -implicitDefEqProofs only [BC,BA,A8,AY,BB,AO,AQ,AL,BD,AX,AC,AA,AZ,AU,CB,BJ,BG,A7,CG,BP,BF,BO,lMc,lMn,lAn,↓reduceIte,Nat.reduceEqDiff,oGs,bNf,enP]
 refine (AFR G xs m fid caps p h hl hf).use ?_
 simp -implicitDefEqProofs only [BK,A8,CP,AY,BB,AO,AQ,AL,BD,AX,AC,AA,AZ,AU,BI,A7,BU,AB,G6,↓reduceIte,oGs,bNf,enP]
 refine ⟨?_,trivial⟩
 cases hx:xs.findIdx? p with
 | some i =>
   obtain ⟨h1,h2,_⟩:=List.findIdx?_eq_some_iff_getElem.1 hx
   have:xs.any p=true:=List.any_eq_true.2 ⟨xs[i],by simp,h2⟩
   simp [this]
 | none =>
   have:xs.any p=false:=by
    rw [List.findIdx?_eq_none_iff] at hx
    rw [List.any_eq_false]; intro x hx2; simp [hx x hx2]
   simp [this]
def PI (n:Int):Bool:=decide (n≥97) && decide (n≤122)
def AGE (n:Int):Bool:=decide (n≥48) && decide (n≤57)
def KZ (n:Int):Bool:=PI n || AGE n || (decide (n≥65) && decide (n≤90)) || n == 95
theorem ZG (G:Nat→AV) (n:Int) (h:Hp):PCall (En G) 227 [.int .i32 n] h (.bool (PI n)):=by
 refine CE (H:=Hint.none) (enM G) Tryz.func227 rfl (by kernel_rfl) (by kernel_rfl) (nLb (by kernel_rfl)) ?_
 show awp _ _ _ _ _ (D9 _ [.tmp 2] _)
 simp -implicitDefEqProofs only [BC,BA,A8,AY,BB,BH,BN,CO,AO,AQ,AL,BD,AX,AC,AA,AZ,AU,BI,BJ,BG,A7,BU,AB,G6,BF,↓reduceIte,Nat.reduceEqDiff,oGs,bNf,enP]
 refine GU (fun ha => ?_) (fun ha => ?_)
 ·simp -implicitDefEqProofs only [BK,A8,CP,AY,BB,BH,BN,CO,FV,AO,AQ,AL,BD,AX,AC,AA,AZ,AU,BI,BJ,BG,A7,CQ,DR,BU,AB,IV,BF,↓reduceIte,Nat.reduceEqDiff,oGs,bNf,enP,ha]
  exact ⟨by unfold PI; rw [ha]; rfl,trivial⟩
 ·simp -implicitDefEqProofs only [BK,A8,CP,AY,BB,BH,BN,CO,G5,AO,AQ,AL,BD,AX,AC,AA,EJ,AZ,AU,BJ,A7,CQ,DN,↓reduceIte,Nat.reduceEqDiff,oGs,bNf,ha]
  exact ⟨by unfold PI; rw [ha]; rfl,trivial⟩
theorem AIG (G:Nat→AV) (n:Int) (h:Hp):PCall (En G) 256 [.int .i32 n] h (.bool (AGE n)):=by
 refine CE (H:=Hint.none) (enM G) Tryz.func256 rfl (by kernel_rfl) (by kernel_rfl) (nLb (by kernel_rfl)) ?_
 show awp _ _ _ _ _ (D9 _ [.tmp 2] _)
 simp -implicitDefEqProofs only [BC,BA,A8,AY,BB,BH,BN,CO,AO,AQ,AL,BD,AX,AC,AA,AZ,AU,BI,BJ,BG,A7,BU,AB,G6,BF,↓reduceIte,Nat.reduceEqDiff,oGs,bNf,enP]
 refine GU (fun ha => ?_) (fun ha => ?_)
 ·simp -implicitDefEqProofs only [BK,A8,CP,AY,BB,BH,BN,CO,FV,AO,AQ,AL,BD,AX,AC,AA,AZ,AU,BI,BJ,BG,A7,CQ,DR,BU,AB,IV,BF,↓reduceIte,Nat.reduceEqDiff,oGs,bNf,enP,ha]
  exact ⟨by unfold AGE; rw [ha]; rfl,trivial⟩
 ·simp -implicitDefEqProofs only [BK,A8,CP,AY,BB,BH,BN,CO,G5,AO,AQ,AL,BD,AX,AC,AA,EJ,AZ,AU,BJ,A7,CQ,DN,↓reduceIte,Nat.reduceEqDiff,oGs,bNf,ha]
  exact ⟨by unfold AGE; rw [ha]; rfl,trivial⟩
theorem ABJ (G:Nat→AV) (n:Int) (h:Hp):PCall (En G) 213 [.int .u8 n] h (.bool (PI n)):=by
 refine CE (H:=Hint.none) (enM G) Tryz.func213 rfl (by kernel_rfl) (by kernel_rfl) (nLb (by kernel_rfl)) ?_
 show awp _ _ _ _ _ (D9 _ [.tmp 2] _)
 simp -implicitDefEqProofs only [BC,BA,A8,AY,BB,BH,BN,CO,AO,AQ,AL,BD,AX,AC,AA,AZ,AU,BI,BJ,BG,A7,BU,AB,G6,BF,↓reduceIte,Nat.reduceEqDiff,oGs,bNf,enP]
 refine GU (fun ha => ?_) (fun ha => ?_)
 ·simp -implicitDefEqProofs only [BK,A8,CP,AY,BB,BH,BN,CO,FV,AO,AQ,AL,BD,AX,AC,AA,AZ,AU,BI,BJ,BG,A7,CQ,DR,BU,AB,IV,BF,↓reduceIte,Nat.reduceEqDiff,oGs,bNf,enP,ha]
  exact ⟨by unfold PI; rw [ha]; rfl,trivial⟩
 ·simp -implicitDefEqProofs only [BK,A8,CP,AY,BB,BH,BN,CO,G5,AO,AQ,AL,BD,AX,AC,AA,EJ,AZ,AU,BJ,A7,CQ,DN,↓reduceIte,Nat.reduceEqDiff,oGs,bNf,ha]
  exact ⟨by unfold PI; rw [ha]; rfl,trivial⟩
theorem ALZ (G:Nat→AV) (n:Int) (h:Hp):PCall (En G) 245 [.int .u8 n] h (.bool (AGE n)):=by
 refine CE (H:=Hint.none) (enM G) Tryz.func245 rfl (by kernel_rfl) (by kernel_rfl) (nLb (by kernel_rfl)) ?_
 show awp _ _ _ _ _ (D9 _ [.tmp 2] _)
 simp -implicitDefEqProofs only [BC,BA,A8,AY,BB,BH,BN,CO,AO,AQ,AL,BD,AX,AC,AA,AZ,AU,BI,BJ,BG,A7,BU,AB,G6,BF,↓reduceIte,Nat.reduceEqDiff,oGs,bNf,enP]
 refine GU (fun ha => ?_) (fun ha => ?_)
 ·simp -implicitDefEqProofs only [BK,A8,CP,AY,BB,BH,BN,CO,FV,AO,AQ,AL,BD,AX,AC,AA,AZ,AU,BI,BJ,BG,A7,CQ,DR,BU,AB,IV,BF,↓reduceIte,Nat.reduceEqDiff,oGs,bNf,enP,ha]
  exact ⟨by unfold AGE; rw [ha]; rfl,trivial⟩
 ·simp -implicitDefEqProofs only [BK,A8,CP,AY,BB,BH,BN,CO,G5,AO,AQ,AL,BD,AX,AC,AA,EJ,AZ,AU,BJ,A7,CQ,DN,↓reduceIte,Nat.reduceEqDiff,oGs,bNf,ha]
  exact ⟨by unfold AGE; rw [ha]; rfl,trivial⟩
theorem VT (G:Nat→AV) (n:Int) (h:Hp):PCall (En G) 228 [.int .i32 n] h (.bool (KZ n)):=by
 refine CE (H:=Hint.none) (enM G) Tryz.func228 rfl (by kernel_rfl) (by kernel_rfl) (nLb (by kernel_rfl)) ?_
 show awp _ _ _ _ _ (D9 _ [.tmp 2] _)
 simp -implicitDefEqProofs only [BC,BA,A8,AY,BB,AO,AQ,AL,BD,AX,AC,AA,AZ,AU,CB,BJ,BG,A7,CG,BP,BF,lMc,lMn,lAn,↓reduceIte,Nat.reduceEqDiff,oGs,bNf,enP]
 refine (ZG G n h).use ?_
 simp -implicitDefEqProofs only [AY,BH,BN,CO,AO,AQ,AL,BD,AX,AC,AA,AZ,BG,↓reduceIte,oGs,bNf]
 refine GU (fun ha => ?_) (fun ha => ?_)
 ·simp -implicitDefEqProofs only [BK,A8,CP,AY,BB,BH,BN,CO,FP,Q9,AO,AQ,AL,BD,AX,AC,AA,EJ,AZ,AU,BJ,BG,A7,CQ,DR,↓reduceIte,Nat.reduceEqDiff,oGs,bNf,ha]
  exact ⟨by unfold KZ; rw [ha]; rfl,trivial⟩
 simp -implicitDefEqProofs only [BH,BN,CO,EG,AO,AQ,AL,BD,AX,AC,AA,AZ,CB,BG,CG,BP,BF,lMc,lMn,lAn,↓reduceIte,Nat.reduceEqDiff,oGs,bNf,ha]
 refine (AIG G n h).use ?_
 simp -implicitDefEqProofs only [AY,BH,BN,CO,AO,AQ,AL,BD,AX,AC,AA,AZ,AU,BJ,BG,CQ,DN,↓reduceIte,Nat.reduceEqDiff,oGs,bNf]
 refine GU (fun hb => ?_) (fun hb => ?_)
 ·simp -implicitDefEqProofs only [BK,A8,CP,AY,BB,BH,BN,CO,FP,Q9,AO,AQ,AL,BD,AX,AC,AA,EJ,AZ,AU,BJ,BG,A7,CQ,DR,↓reduceIte,Nat.reduceEqDiff,oGs,bNf,hb]
  exact ⟨by unfold KZ; rw [ha,hb]; rfl,trivial⟩
 simp -implicitDefEqProofs only [BH,BN,CO,EG,AO,AQ,AL,BD,AX,AC,AA,AZ,AU,BI,BG,BU,AB,G6,BF,↓reduceIte,Nat.reduceEqDiff,oGs,bNf,enP,hb]
 refine GU (fun hc => ?_) (fun hc => ?_)
 ·simp -implicitDefEqProofs only [AY,BH,BN,CO,FV,EG,AO,AQ,AL,BD,AX,AC,AA,AZ,AU,BI,BJ,BG,CQ,DR,DN,BU,AB,IV,BF,↓reduceIte,Nat.reduceEqDiff,oGs,bNf,enP,hc]
  refine GU (fun hd => ?_) (fun hd => ?_)
  ·simp -implicitDefEqProofs only [BK,A8,CP,AY,BB,BH,BN,CO,FP,AO,AQ,AL,BD,AX,AC,AA,EJ,AZ,AU,BJ,A7,CQ,DR,↓reduceIte,Nat.reduceEqDiff,oGs,bNf,hd]
   exact ⟨by unfold KZ; rw [ha,hb,hc,hd]; rfl,trivial⟩
  ·simp -implicitDefEqProofs only [BK,A8,CP,AY,BB,BH,BN,CO,EG,AO,AQ,AL,BD,AX,AC,AA,AZ,AU,BI,BJ,BG,A7,CQ,DN,BU,AB,DX,BF,↓reduceIte,Nat.reduceEqDiff,oGs,bNf,enP,hd]
   exact ⟨by unfold KZ; rw [ha,hb,hc,hd]; rfl,trivial⟩
 ·simp -implicitDefEqProofs only [BK,A8,CP,AY,BB,BH,BN,CO,EG,G5,AO,AQ,AL,BD,AX,AC,AA,EJ,AZ,AU,BI,BJ,BG,A7,CQ,DN,BU,AB,DX,BF,↓reduceIte,Nat.reduceEqDiff,oGs,bNf,enP,hc]
  exact ⟨by unfold KZ; rw [ha,hb,hc]; rfl,trivial⟩
theorem ALJ (G:Nat→AV) (n:Int) (h:Hp):PCall (En G) 215 [.int .u8 n] h (.bool (KZ n)):=by
 refine CE (H:=Hint.none) (enM G) Tryz.func215 rfl (by kernel_rfl) (by kernel_rfl) (nLb (by kernel_rfl)) ?_
 show awp _ _ _ _ _ (D9 _ [.tmp 2] _)
 simp -implicitDefEqProofs only [BC,BA,A8,AY,BB,AO,AQ,AL,BD,AX,AC,AA,AZ,AU,CB,BJ,BG,A7,CG,BP,BF,lMc,lMn,lAn,↓reduceIte,Nat.reduceEqDiff,oGs,bNf,enP]
 refine (ABJ G n h).use ?_
 simp -implicitDefEqProofs only [AY,BH,BN,CO,AO,AQ,AL,BD,AX,AC,AA,AZ,BG,↓reduceIte,oGs,bNf]
 refine GU (fun ha => ?_) (fun ha => ?_)
 ·simp -implicitDefEqProofs only [BK,A8,CP,AY,BB,BH,BN,CO,FP,Q9,AO,AQ,AL,BD,AX,AC,AA,EJ,AZ,AU,BJ,BG,A7,CQ,DR,↓reduceIte,Nat.reduceEqDiff,oGs,bNf,ha]
  exact ⟨by unfold KZ; rw [ha]; rfl,trivial⟩
 simp -implicitDefEqProofs only [BH,BN,CO,EG,AO,AQ,AL,BD,AX,AC,AA,AZ,CB,BG,CG,BP,BF,lMc,lMn,lAn,↓reduceIte,Nat.reduceEqDiff,oGs,bNf,ha]
 refine (ALZ G n h).use ?_
 simp -implicitDefEqProofs only [AY,BH,BN,CO,AO,AQ,AL,BD,AX,AC,AA,AZ,AU,BJ,BG,CQ,DN,↓reduceIte,Nat.reduceEqDiff,oGs,bNf]
 refine GU (fun hb => ?_) (fun hb => ?_)
 ·simp -implicitDefEqProofs only [BK,A8,CP,AY,BB,BH,BN,CO,FP,Q9,AO,AQ,AL,BD,AX,AC,AA,EJ,AZ,AU,BJ,BG,A7,CQ,DR,↓reduceIte,Nat.reduceEqDiff,oGs,bNf,hb]
  exact ⟨by unfold KZ; rw [ha,hb]; rfl,trivial⟩
 simp -implicitDefEqProofs only [BH,BN,CO,EG,AO,AQ,AL,BD,AX,AC,AA,AZ,AU,BI,BG,BU,AB,G6,BF,↓reduceIte,Nat.reduceEqDiff,oGs,bNf,enP,hb]
 refine GU (fun hc => ?_) (fun hc => ?_)
 ·simp -implicitDefEqProofs only [AY,BH,BN,CO,FV,EG,AO,AQ,AL,BD,AX,AC,AA,AZ,AU,BI,BJ,BG,CQ,DR,DN,BU,AB,IV,BF,↓reduceIte,Nat.reduceEqDiff,oGs,bNf,enP,hc]
  refine GU (fun hd => ?_) (fun hd => ?_)
  ·simp -implicitDefEqProofs only [BK,A8,CP,AY,BB,BH,BN,CO,FP,AO,AQ,AL,BD,AX,AC,AA,EJ,AZ,AU,BJ,A7,CQ,DR,↓reduceIte,Nat.reduceEqDiff,oGs,bNf,hd]
   exact ⟨by unfold KZ; rw [ha,hb,hc,hd]; rfl,trivial⟩
  ·simp -implicitDefEqProofs only [BK,A8,CP,AY,BB,BH,BN,CO,EG,AO,AQ,AL,BD,AX,AC,AA,AZ,AU,BI,BJ,BG,A7,CQ,DN,BU,AB,DX,BF,↓reduceIte,Nat.reduceEqDiff,oGs,bNf,enP,hd]
   exact ⟨by unfold KZ; rw [ha,hb,hc,hd]; rfl,trivial⟩
 ·simp -implicitDefEqProofs only [BK,A8,CP,AY,BB,BH,BN,CO,EG,G5,AO,AQ,AL,BD,AX,AC,AA,EJ,AZ,AU,BI,BJ,BG,A7,CQ,DN,BU,AB,DX,BF,↓reduceIte,Nat.reduceEqDiff,oGs,bNf,enP,hc]
  exact ⟨by unfold KZ; rw [ha,hb,hc]; rfl,trivial⟩
def encStr (s:ByteArray):List AV := [.str s]
theorem encStr0 (s:ByteArray):(encStr s)[0]? = some (.str s):=rfl
def IQ (xs:List ByteArray) (v:ByteArray):Bool:=xs.any fun u=>v.toList == u.toList
theorem ARX (G:Nat→AV) (xs:List ByteArray) (m:SM) (v:ByteArray) (h:Hp) (hl:xs.length≤1099511627776) :
  PCall (En G) 243 [.sl m 1 (xs.map encStr),.str v] h (.bool (IQ xs v)):=by
 refine CE (H:=Hint.none) (enM G) Tryz.func243 rfl (by kernel_rfl) (by kernel_rfl) (nLb (by kernel_rfl)) ?_
 show awp _ _ _ _ _ (D9 _ [.tmp 4] _)
 simp -implicitDefEqProofs only [BC,BV,BA,A8,AY,BB,AO,AQ,AL,BD,AX,AC,AU,BI,BJ,A7,oGs,bNf,enP]
 refine DY (fun n F H => ∃ k,n+k=xs.length∧F 0 = .sl m 1 (xs.map encStr)∧F 1 = .str v∧F 5 = .int .i64 (k:Nat)∧H=h∧IQ xs v=IQ (xs.drop k) v) xs.length ⟨0,by simp,rfl,rfl,rfl,rfl,rfl⟩ ?_
 rintro n F H ⟨k,hk,f0,f1,f5,rfl,hin⟩
 simp -implicitDefEqProofs only [BC,BA,BL,A8,AY,BB,AO,AQ,AL,BD,AX,AC,AA,AZ,BG,BU,D8,AB,DT,↓reduceIte,Nat.reduceEqDiff,oGs,bNf,enP,XM,f0,f1,f5,lLm]
 refine DC (fun hc => ?_) (fun hc => ?_)
 ·have hc':k < xs.length:=by simpa using hc
  have hs:IQ (xs.drop k) v=((v.toList == xs[k].toList) || IQ (xs.drop (k+1)) v):=PG _ xs k hc'
  simp -implicitDefEqProofs only [BC,BV,BA,BR,BL,A8,AY,BB,AO,AQ,AL,BD,AX,AC,AA,AZ,BG,BQ,BU,CV,AB,MP,↓reduceIte,Nat.reduceEqDiff,oGs,bNf,enP,ABV,f0,f1,f5,EF hc',EI ag9 hc',encStr0]
  refine DC (fun hb => ?_) (fun hb => ?_)
  ·simp -implicitDefEqProofs only [BC,BA,BK,A8,CX,ED,FY,CP,AY,BB,AO,AQ,AL,BD,AX,AC,AA,AU,BJ,A7,↓reduceIte,oGs,bNf]
   refine ⟨?_,trivial⟩
   rw [hin,hs,show (v.toList == xs[k].toList)=true by rw [BEq.comm]; exact hb]; rfl
  ·simp -implicitDefEqProofs only [BA,BR,A8,EP,FC,AY,BB,AO,AQ,AL,BD,AX,AC,AA,AZ,AU,BI,BG,A7,BU,AB,DV,↓reduceIte,Nat.reduceEqDiff,oGs,bNf,enP,f5,wrap_succ (show k < 9223372036854775807 by omega)]
   refine ⟨n - 1,by omega,k+1,by omega,f0,f1,rfl,trivial,?_⟩
   rw [hin,hs,show (v.toList == xs[k].toList)=false by rw [BEq.comm]; exact hb]; rfl
 ·have hc' : ¬ k < xs.length:=by simpa using hc
  simp -implicitDefEqProofs only [BC,BA,BK,DW,A8,ER,FN,FM,CP,AY,BB,AO,AQ,AL,BD,AX,AC,AA,AU,BJ,A7,↓reduceIte,oGs,bNf]
  exact ⟨by rw [hin,List.drop_eq_nil_of_le (by omega)]; rfl,trivial⟩
theorem AH4 (G:Nat→AV) (xs:List ByteArray) (m:SM) (v:ByteArray) (h:Hp) (hl:xs.length≤1099511627776) :
  ∃ i:Int,(decide (i≥0)=IQ xs v)∧PCall (En G) 257 [.sl m 1 (xs.map encStr),.str v] h (.int .i64 i):=by
 refine ⟨(match xs.findIdx? (fun u=>v.toList == u.toList) with | some i=>(i:Int) | none => -1),?_,?_⟩
 ·cases hx:xs.findIdx? (fun u=>v.toList == u.toList) with
  | some i =>
    obtain ⟨h1,h2,_⟩:=List.findIdx?_eq_some_iff_getElem.1 hx
    have:IQ xs v=true:=List.any_eq_true.2 ⟨xs[i],by simp,h2⟩
    simp [this]
  | none =>
    have:IQ xs v=false:=by
     rw [List.findIdx?_eq_none_iff] at hx
     unfold IQ
     rw [List.any_eq_false]; intro x hx2; simp only [hx x hx2]; simp
    simp [this]
 refine CE (H:=Hint.none) (enM G) Tryz.func257 rfl (by kernel_rfl) (by kernel_rfl) (nLb (by kernel_rfl)) ?_
 show awp _ _ _ _ _ (D9 _ [.tmp 4] _)
 simp -implicitDefEqProofs only [BC,BV,BA,A8,AY,BB,AO,AQ,AL,BD,AX,AC,AA,AZ,AU,BI,BG,A7,D8,AB,BF,↓reduceIte,Nat.reduceEqDiff,oGs,bNf,enP,XM,lLm]
 refine DY (fun n F H => ∃ k,n+k=xs.length∧F 0 = .sl m 1 (xs.map encStr)∧F 1 = .str v∧F 7 = .int .i64 xs.length∧F 8 = .int .i64 (k:Nat)∧H=h∧(xs.take k).all (fun u => !(v.toList == u.toList))=true) xs.length ⟨0,by simp,rfl,rfl,rfl,rfl,rfl,rfl⟩ ?_
 rintro n F H ⟨k,hk,f0,f1,f7,f8,rfl,hin⟩
 simp -implicitDefEqProofs only [BC,BA,BL,A8,AY,BB,AO,AQ,AL,BD,AX,AC,AA,AZ,BU,AB,DT,↓reduceIte,oGs,bNf,enP,f0,f1,f7,f8,lLm]
 refine DC (fun hc => ?_) (fun hc => ?_)
 ·have hc':k < xs.length:=by simpa using hc
  simp -implicitDefEqProofs only [BC,BV,BA,BR,BL,A8,AY,BB,AO,AQ,AL,BD,AX,AC,AA,AZ,BG,A7,BQ,BU,CV,AB,MP,↓reduceIte,Nat.reduceEqDiff,oGs,bNf,enP,ABV,f0,f1,f7,f8,EF hc',EI ag9 hc',encStr0]
  refine DC (fun hb => ?_) (fun hb => ?_)
  ·simp -implicitDefEqProofs only [BC,BA,BK,A8,CX,ED,FY,CP,AY,BB,AO,AQ,AL,BD,AX,AC,AA,AZ,BG,A7,↓reduceIte,Nat.reduceEqDiff,oGs,bNf]
   refine ⟨?_,trivial⟩
   rw [List.findIdx?_eq_some_iff_getElem.2 ⟨hc',hb,fun j hj=>by
    rw [List.all_eq_true] at hin
    have:=hin xs[j] (by rw [List.mem_take_iff_getElem]; exact ⟨j,by omega,rfl⟩)
    simpa using this⟩]
  ·simp -implicitDefEqProofs only [BA,BR,A8,EP,FC,AY,BB,AO,AQ,AL,BD,AX,AC,AA,AZ,AU,BI,BG,BU,AB,DV,↓reduceIte,Nat.reduceEqDiff,oGs,bNf,enP,f8,wrap_succ (show k < 9223372036854775807 by omega)]
   refine ⟨n - 1,by omega,k+1,by omega,f0,f1,f7,rfl,trivial,?_⟩
   rw [List.take_succ_eq_append_getElem hc',List.all_append,hin]
   simp only [List.all_cons,List.all_nil,hb]; rfl
 ·have hc' : ¬ k < xs.length:=by simpa using hc
  simp -implicitDefEqProofs only [BC,BA,BK,DW,A8,ER,FN,FM,CP,AY,BB,AO,AQ,AL,BD,AX,AC,AA,AU,BI,A7,↓reduceIte,oGs,bNf]
  refine ⟨?_,trivial⟩
  rw [List.take_of_length_le (by omega)] at hin
  rw [List.findIdx?_eq_none_iff.2 (by
   intro x hx
   rw [List.all_eq_true] at hin
   simpa using hin x hx)]
theorem AA6 (G:Nat→AV) (xs:List ByteArray) (m:SM) (v:ByteArray) (h:Hp) (hl:xs.length≤1099511627776) :
  PCall (En G) 229 [.sl m 1 (xs.map encStr),.str v] h (.bool (IQ xs v)):=by
 obtain ⟨i,hi,hp⟩:=AH4 G xs m v h hl
 refine CE (H:=Hint.none) (enM G) Tryz.func229 rfl (by kernel_rfl) (by kernel_rfl) (nLb (by kernel_rfl)) ?_
 show awp _ _ _ _ _ (D9 _ [.tmp 4] _)
 simp -implicitDefEqProofs only [BC,BA,A8,AY,BB,AO,AQ,AL,BD,AX,AC,AA,AZ,AU,CB,BJ,BG,A7,CG,BP,BF,BO,lMc,lMn,lAn,↓reduceIte,Nat.reduceEqDiff,oGs,bNf,enP]
 refine hp.use ?_
 simp -implicitDefEqProofs only [BK,A8,CP,AY,BB,AO,AQ,AL,BD,AX,AC,AA,AZ,AU,BI,A7,BU,AB,G6,↓reduceIte,oGs,bNf,enP]
 exact ⟨by rw [hi],trivial⟩
def kw:List ByteArray := [⟨#[99,108,97,115,115]⟩,⟨#[101,120,116,101,110,100,115]⟩,⟨#[114,97,110,100]⟩,⟨#[114,97,110,100,99]⟩,⟨#[115,116,97,116,101]⟩,⟨#[99,111,110,115,116,114,97,105,110,116]⟩,⟨#[115,111,102,116]⟩,⟨#[100,105,115,116]⟩,⟨#[105,102]⟩,⟨#[101,108,115,101]⟩,⟨#[101,97,99,104]⟩,⟨#[105,110]⟩,⟨#[115,111,108,118,101]⟩,⟨#[98,101,102,111,114,101]⟩,⟨#[105,110,115,105,100,101]⟩,⟨#[112,114,111,112,101,114,116,121]⟩,⟨#[115,101,113]⟩,⟨#[97,110,100]⟩,⟨#[111,114]⟩,⟨#[110,111,116]⟩,⟨#[115,101,116]⟩,⟨#[104,111,108,100]⟩,⟨#[112,108,97,105,110]⟩,⟨#[114,101,112,101,97,116]⟩]
theorem AN6:kw.length=24:=rfl
theorem AC5 (G:Nat→AV) (h:Hp):PCall (En G) 244 [] h (.sl .full 1 (kw.map encStr)):=by
 refine CE (H:=Hint.none) (enM G) Tryz.func244 rfl (by kernel_rfl) (by kernel_rfl) (nLb (by kernel_rfl)) ?_
 show awp _ _ _ _ _ (D9 _ [.tmp 0] _)
 simp -implicitDefEqProofs only [FI,FQ,BC,BA,A8,AY,BB,AO,AQ,AL,BD,AX,AC,AU,GZ,JS,A7,EE,oGs,bNf,enP]
 refine JC (v := .sl .full 1 (kw.map encStr)) (h:=h) (by kernel_rfl) ?_
 simp -implicitDefEqProofs only [BK,A8,CP,AY,BB,AO,AQ,AL,BD,AX,AC,AA,AZ,A7,↓reduceIte,oGs,bNf]
 exact ⟨trivial,trivial⟩
theorem AA2 (G:Nat→AV) (v:ByteArray) (h:Hp):PCall (En G) 214 [.str v] h (.bool (IQ kw v)):=by
 refine CE (H:=Hint.none) (enM G) Tryz.func214 rfl (by kernel_rfl) (by kernel_rfl) (nLb (by kernel_rfl)) ?_
 show awp _ _ _ _ _ (D9 _ [.tmp 2] _)
 simp -implicitDefEqProofs only [BC,BA,A8,AY,BB,AO,AQ,AL,BD,AX,AC,AU,CB,BJ,A7,CG,BP,lMn,lAn,oGs,bNf,enP]
 refine (AC5 G h).use ?_
 simp -implicitDefEqProofs only [AY,AO,AQ,AL,BD,AX,AC,AA,AZ,CB,BG,CG,BP,BF,lMc,lMn,lAn,↓reduceIte,Nat.reduceEqDiff,oGs,bNf]
 refine (ARX G kw .full v h (by rw [AN6]; omega)).use ?_
 simp -implicitDefEqProofs only [BK,A8,CP,AY,BB,AO,AQ,AL,BD,AX,AC,AA,AZ,A7,↓reduceIte,oGs,bNf]
 exact ⟨trivial,trivial⟩
def KwG (G:Nat→AV):Prop := ∃ m,G 0 = .fptr 1 [[.sl m 1 (kw.map encStr)]] 0 0
theorem ZK (G:Nat→AV) (hG:KwG G) (v:ByteArray) (h:Hp):PCall (En G) 195 [.str v] h (.bool (IQ kw v)):=by
 obtain ⟨m,hg⟩:=hG
 refine CE (H:=Hint.none) (enM G) Tryz.func195 rfl (by kernel_rfl) (by kernel_rfl) (nLb (by kernel_rfl)) ?_
 show awp _ _ _ _ _ (D9 _ [.tmp 2] _)
 have e:DL Tryz.prog h 179 (G 0)=some (.sl m 1 (kw.map encStr)):=by rw [hg]; exact O3 ACK rfl rfl
 have hl:kw.length≤1099511627776:=by rw [AN6]; omega
 simp -implicitDefEqProofs only [BC,BA,A8,AY,BB,AO,AQ,AL,BD,AX,AC,AA,AZ,AU,CB,AR9,BJ,BG,A7,BQ,CG,BP,AB,BF,lMc,lMn,lAn,↓reduceIte,Nat.reduceEqDiff,oGs,bNf,enP,enG,e]
 refine (AA6 G kw m v h hl).use ?_
 simp -implicitDefEqProofs only [BK,A8,CP,AY,BB,AO,AQ,AL,BD,AX,AC,AA,AZ,A7,↓reduceIte,oGs,bNf]
 exact ⟨trivial,trivial⟩
def P8 (s:ByteArray):Bool:=(match s.data.toList with | []=>false | b :: _=>PI b.toNat) && s.data.toList.all fun b=>KZ b.toNat
def GK (s:ByteArray):Bool:=P8 s && decide (s.size≤16) && !IQ kw s
theorem WO {n:Int} (h:KZ n=true):n < 128:=by
 simp only [KZ,PI,AGE,Bool.or_eq_true,Bool.and_eq_true,decide_eq_true_eq,beq_iff_eq] at h
 omega
theorem AQX (h:Hp) (s:ByteArray):XC Tryz.prog h 9 (.str s)=some (.ptr h.length 0 0,h ++ [.iter s 0]):=by
 have:Tryz.prog.underlying 9=some .string:=by kernel_rfl
 simp [XC,this]
theorem ARF {h:Hp} {s:ByteArray} {pos:Nat} (hp:pos < s.size):X6 (h ++ [.iter s pos]) (.ptr h.length 0 0) true=some (.tup [.bool true,.int .i64 pos,.int .i32 (Utf8.decode s pos).1],h ++ [.iter s (pos+(Utf8.decode s pos).2)]):=by
 simp [X6,hp]
theorem ANV {h:Hp} {s:ByteArray} {pos:Nat} (hp : ¬ pos < s.size):X6 (h ++ [.iter s pos]) (.ptr h.length 0 0) true=some (.tup [.bool false],h ++ [.iter s pos]):=by
 simp [X6,hp]
theorem QL {s:ByteArray} {k:Nat} (hk:k < s.size) (hb:KZ (s[k]'hk).toNat=false):P8 s=false:=by
 unfold P8
 have:(s.data.toList.all fun b=>KZ b.toNat)=false:=by
  rw [List.all_eq_false]
  exact ⟨s[k],Array.getElem_mem_toList (xs:=s.data) hk,by simp [hb]⟩
 rw [this]; simp
theorem XF {s:ByteArray} (hk:0 < s.size) (hb:PI (s[0]'hk).toNat=false):P8 s=false:=by
 unfold P8
 have:(match s.data.toList with | []=>false | b :: _=>PI b.toNat)=false:=by
  cases hl:s.data.toList with
  | nil=>rfl
  | cons b l =>
    have h0:s[0]'hk=b:=by
     have:s.data.toList[0]? = some b:=by rw [hl]; rfl
     have h2:s.data[0]? = some b:=by rw [← Array.getElem?_toList]; exact this
     have hk':0 < s.data.size:=hk
     rw [Array.getElem?_eq_getElem hk'] at h2
     exact Option.some.inj h2
    simp only
    rw [← h0]; exact hb
 rw [this]; simp
theorem AEE {s:ByteArray} (hk:0 < s.size) (hb:PI (s[0]'hk).toNat=true) (ha : ∀ i (hi:i < s.size),KZ (s[i]'hi).toNat=true):P8 s=true:=by
 unfold P8
 have h1:(match s.data.toList with | []=>false | b :: _=>PI b.toNat)=true:=by
  cases hl:s.data.toList with
  | nil =>
    have:s.data.toList.length=0:=by rw [hl]; rfl
    have h2:s.data.size=0:=by simpa using this
    have h3:s.size=s.data.size:=rfl
    omega
  | cons b l =>
    have h0:s[0]'hk=b:=by
     have:s.data.toList[0]? = some b:=by rw [hl]; rfl
     have h2:s.data[0]? = some b:=by rw [← Array.getElem?_toList]; exact this
     have hk':0 < s.data.size:=hk
     rw [Array.getElem?_eq_getElem hk'] at h2
     exact Option.some.inj h2
    simp only
    rw [← h0]; exact hb
 rw [h1,Bool.true_and,List.all_eq_true]
 intro b hbm
 obtain ⟨i,hi,rfl⟩:=List.getElem_of_mem hbm
 have hi':i < s.size:=by simpa using hi
 exact ha i hi'
theorem AKO (G:Nat→AV) (s:ByteArray) (h:Hp) (hl:s.size≤1099511627776):PCall (En G) 194 [.str s] h (.bool (P8 s)):=by
 refine ACalls.pure0 rfl ?_
 refine CE (H:=Hint.none) (enM G) Tryz.func194 rfl (by kernel_rfl) (by kernel_rfl) (nLb (by kernel_rfl)) ?_
 show awp _ _ _ _ _ (D9 _ [.tmp 2] _)
 simp -implicitDefEqProofs only [BC,BV,BA,A8,AY,BB,AO,AQ,AL,BD,AX,AC,AA,AZ,AU,BJ,BG,A7,AQB,BX,BF,↓reduceIte,Nat.reduceEqDiff,oGs,bNf,enP,AQX]
 refine DY (fun n F H => ∃ k,n+k=s.size∧F 0 = .str s∧F 6 = .ptr h.length 0 0∧H=h ++ [.iter s k]∧(∀ i (hi:i < s.size),i < k→KZ (s[i]'hi).toNat=true)∧(∀ hp:0 < s.size,0 < k→PI (s[0]'hp).toNat=true)) s.size ⟨0,by simp,rfl,by simp -implicitDefEqProofs only [AA,↓reduceIte],rfl,fun _ _ h=>absurd h (by omega),fun _ h=>absurd h (by omega)⟩ ?_
 rintro n F H ⟨k,hk,f0,f6,rfl,hall,h0⟩
 rcases Classical.em (k < s.size) with hp | hp
 ·have go : ∀ (r:Nat × Nat),Utf8.decode s k=r→(KZ r.1=true→r=((s[k]'hp).toNat,1)∧KZ (s[k]'hp).toNat=true)∧(KZ r.1=false→P8 s=false)∧(PI r.1=false→k=0→P8 s=false)∧(PI r.1=true→KZ r.1=true):=by
   rintro r rfl
   have lf : ∀ n,PI n=true→KZ n=true:=fun n hn=>by unfold KZ; rw [hn]; rfl
   rcases Nat.lt_or_ge (s[k]'hp).toNat 128 with ha | ha
   ·have hd:=decode_ascii s k hp ha
    rw [hd]
    exact ⟨fun hf=>⟨rfl,hf⟩,fun hf=>QL hp hf,fun hf h0=>by subst h0; exact XF hp hf,lf _⟩
   ·have hd:=(decode_high s k hp ha).1
    refine ⟨fun hf => ?_,fun _ => ?_,fun _ h0 => ?_,lf _⟩
    ·have:=WO hf; omega
    ·refine QL hp ?_
     cases hf:KZ (s[k]'hp).toNat with
     | false=>rfl
     | true=>have:=WO hf; omega
    ·refine QL hp ?_
     cases hf:KZ (s[k]'hp).toNat with
     | false=>rfl
     | true=>have:=WO hf; omega
  simp -implicitDefEqProofs only [List.getElem?_cons_zero,List.getElem?_cons_succ,BC,BV,BA,BR,BL,A8,DU,AY,BB,BH,BN,CO,AO,AQ,AL,BD,AX,AC,AA,AZ,AU,BI,BG,A7,BU,AMQ,FT,IG,BX,AB,DX,↓reduceIte,Nat.reduceEqDiff,oGs,bNf,enP,f0,f6,ARF hp]
  generalize hr:Utf8.decode s k=r at go
  obtain ⟨g1,g2,g3,g4⟩:=go r rfl
  have done : ∀ H',KZ r.1=true→(k=0→PI r.1=true)→H'=h ++ [ABlk.iter s (k+r.2)]→∃ m,m < n∧∃ k',m+k'=s.size∧H'=h ++ [.iter s k']∧(∀ i (hi:i < s.size),i < k'→KZ (s[i]'hi).toNat=true)∧(∀ hp:0 < s.size,0 < k'→PI (s[0]'hp).toNat=true):=by
   intro H' hf hlw hH
   obtain ⟨e1,e2⟩:=g1 hf
   refine ⟨n - 1,by omega,k+1,by omega,by rw [hH,e1],fun i hi hik => ?_,fun hp0 _ => ?_⟩
   ·rcases Nat.lt_or_ge i k with h' | h'
    ·exact hall i hi h'
    ·have:i=k:=by omega
     subst this; exact e2
   ·rcases Nat.eq_zero_or_pos k with h' | h'
    ·subst h'; have:=hlw rfl; rw [e1] at this; exact this
    ·exact h0 hp0 h'
  refine GU (fun ha => ?_) (fun ha => ?_)
  ·have hk0:k=0:=by simp at ha; omega
   simp -implicitDefEqProofs only [BH,BN,CO,FV,AO,AQ,AL,BD,AX,AC,AA,AZ,CB,BG,CG,BP,lMc,lMn,lAn,↓reduceIte,Nat.reduceEqDiff,oGs,bNf,ha]
   refine (ZG G _ _).use ?_
   simp -implicitDefEqProofs only [AY,BH,BN,CO,FV,AO,AQ,AL,BD,AX,AC,AA,AZ,AU,BJ,BG,CQ,DR,GV,AB,EX,↓reduceIte,Nat.reduceEqDiff,oGs,bNf]
   refine GU (fun hb => ?_) (fun hb => ?_)
   ·simp -implicitDefEqProofs only [BC,BA,BK,BL,A8,CX,ED,FY,CP,DU,AY,BB,BH,BN,CO,FP,AO,AQ,AL,BD,AX,AC,AA,EJ,AZ,AU,BJ,A7,CQ,DR,↓reduceIte,Nat.reduceEqDiff,oGs,bNf,hb]
    have hlw:PI r.1=false:=by simpa using hb
    exact ⟨by rw [g3 hlw hk0],_,rfl⟩
   have hlw:PI r.1=true:=by simpa using hb
   simp -implicitDefEqProofs only [BH,BN,CO,EG,AO,AQ,AL,BD,AX,AC,AA,AZ,CB,BG,CG,BP,lMc,lMn,lAn,↓reduceIte,Nat.reduceEqDiff,oGs,bNf,hb]
   refine (VT G _ _).use ?_
   simp -implicitDefEqProofs only [BL,A8,AY,BB,BH,BN,CO,EG,AO,AQ,AL,BD,AX,AC,AA,AZ,AU,BJ,CQ,DN,GV,AB,EX,↓reduceIte,Nat.reduceEqDiff,oGs,bNf]
   have hf:=g4 hlw
   simp -implicitDefEqProofs only [BR,EP,FC,D5,AA,↓reduceIte,Nat.reduceEqDiff,bNt,hf]
   obtain ⟨m,h1,k',h2,h3,h4,h5⟩:=done _ hf (fun _=>hlw) rfl
   exact ⟨m,h1,k',h2,f0,f6,h3,h4,h5⟩
  ·have hk0:k≠0:=by intro e; subst e; simp at ha
   simp -implicitDefEqProofs only [AY,BH,BN,CO,EG,G5,AO,AQ,AL,BD,AX,AC,AA,EJ,AZ,AU,CB,BJ,BG,CQ,DN,CG,BP,lMc,lMn,lAn,↓reduceIte,Nat.reduceEqDiff,oGs,bNf,ha]
   refine (VT G _ _).use ?_
   simp -implicitDefEqProofs only [BL,A8,AY,BB,BH,BN,CO,EG,AO,AQ,AL,BD,AX,AC,AA,AZ,AU,BJ,CQ,DN,GV,AB,EX,↓reduceIte,Nat.reduceEqDiff,oGs,bNf]
   refine DC (fun hb => ?_) (fun hb => ?_)
   ·have hf:KZ r.1=false:=by simpa using hb
    simp -implicitDefEqProofs only [BC,BA,BK,A8,CX,ED,FY,CP,AY,BB,AO,AQ,AL,BD,AX,AC,AA,AU,BJ,A7,↓reduceIte,oGs,bNf]
    exact ⟨by rw [g2 hf],_,rfl⟩
   ·have hf:KZ r.1=true:=by simpa using hb
    simp -implicitDefEqProofs only [BR,EP,FC,AA,↓reduceIte,Nat.reduceEqDiff]
    obtain ⟨m,h1,k',h2,h3,h4,h5⟩:=done _ hf (fun e=>absurd e hk0) rfl
    exact ⟨m,h1,k',h2,f0,f6,h3,h4,h5⟩
 ·simp -implicitDefEqProofs only [List.getElem?_cons_zero,BC,BA,BK,DW,BL,A8,ER,FN,FM,CP,D5,AY,BB,AO,AQ,AL,BD,AX,AC,AA,AZ,AU,GZ,BG,A7,BU,AMQ,FT,IG,BX,AB,AAG,↓reduceIte,Nat.reduceEqDiff,oGs,bNf,enP,f0,f6,ANV hp]
  have hks:k=s.size:=by omega
  refine ⟨?_,_,rfl⟩
  congr 1
  rcases Nat.eq_zero_or_pos s.size with hz | hz
  ·have:s=⟨#[]⟩:=by
    obtain ⟨d⟩:=s
    have:d.size=0:=hz
    rw [Array.eq_empty_of_size_eq_zero this]
   subst this
   rw [ByteArray.toList_eq]
   rfl
  ·rw [AEE hz (h0 hz (by omega)) (fun i hi=>hall i hi (by omega))]
   have hne:s.toList≠[]:=by
    rw [ByteArray.toList_eq]
    intro e
    have:s.data.toList.length=0:=by rw [e]; rfl
    have h2:s.data.size=0:=by simpa using this
    have h3:s.size=s.data.size:=rfl
    omega
   cases hl2:s.toList with
   | nil=>exact absurd hl2 hne
   | cons=>rw [ByteArray.toList_eq]; rfl
theorem L6 (G:Nat→AV) (hG:KwG G) (s:ByteArray) (h:Hp) (hl:s.size≤1099511627776):PCall (En G) 150 [.str s] h (.bool (GK s)):=by
 refine CE (H:=Hint.none) (enM G) Tryz.func150 rfl (by kernel_rfl) (by kernel_rfl) (nLb (by kernel_rfl)) ?_
 show awp _ _ _ _ _ (D9 _ [.tmp 2] _)
 simp -implicitDefEqProofs only [BC,BA,A8,AY,BB,AO,AQ,AL,BD,AX,AC,AA,AZ,AU,CB,BJ,BG,A7,CG,BP,BF,lMc,lMn,lAn,↓reduceIte,Nat.reduceEqDiff,oGs,bNf,enP]
 refine (AKO G s h hl).use ?_
 simp -implicitDefEqProofs only [AY,BH,BN,CO,AO,AQ,AL,BD,AX,AC,AA,AZ,BG,↓reduceIte,oGs,bNf]
 refine GU (fun ha => ?_) (fun ha => ?_)
 ·simp -implicitDefEqProofs only [AY,BH,BN,CO,FV,AO,AQ,AL,BD,AX,AC,AA,AZ,AU,BI,BJ,BG,CQ,DR,BU,D8,AB,IV,BF,↓reduceIte,Nat.reduceEqDiff,oGs,bNf,enP,ln9,ha]
  refine GU (fun hb => ?_) (fun hb => ?_)
  ·simp -implicitDefEqProofs only [BH,BN,CO,FV,AO,AQ,AL,BD,AX,AC,AA,AZ,CB,BG,CG,BP,BF,lMc,lMn,lAn,↓reduceIte,Nat.reduceEqDiff,oGs,bNf,hb]
   refine (ZK G hG s h).use ?_
   simp -implicitDefEqProofs only [BK,A8,CP,AY,BB,BH,BN,CO,FV,AO,AQ,AL,BD,AX,AC,AA,AZ,AU,BJ,A7,CQ,DR,GV,AB,EX,↓reduceIte,Nat.reduceEqDiff,oGs,bNf]
   refine ⟨?_,trivial⟩
   have:decide (s.size≤16)=true:=by simp at hb ⊢; omega
   unfold GK; rw [ha,this]; rfl
  ·simp -implicitDefEqProofs only [BK,A8,CP,AY,BB,BH,BN,CO,G5,AO,AQ,AL,BD,AX,AC,AA,EJ,AZ,AU,BJ,A7,CQ,DN,↓reduceIte,Nat.reduceEqDiff,oGs,bNf,hb]
   refine ⟨?_,trivial⟩
   have:decide (s.size≤16)=false:=by simp at hb ⊢; omega
   unfold GK; rw [ha,this]; rfl
 ·simp -implicitDefEqProofs only [BK,A8,CP,AY,BB,BH,BN,CO,G5,AO,AQ,AL,BD,AX,AC,AA,EJ,AZ,AU,BJ,BG,A7,CQ,DN,↓reduceIte,Nat.reduceEqDiff,oGs,bNf,ha]
  exact ⟨by unfold GK; rw [ha]; rfl,trivial⟩
theorem ix9 (s:ByteArray) (k:Nat) (kk:IntKind) (hk:k < s.size):LU Tryz.prog 9 (.str s) (.int kk (k:Int))=some (.int .u8 (s[k]'hk).toNat):=by
 have hu:Tryz.prog.underlying 9=some .string:=by kernel_rfl
 have h0:(0:Int)≤(k:Int):=by omega
 have:s[k]? = some (s[k]'hk):=by simp [hk]
 simp [LU,hu,h0,this]
theorem U0 (G:Nat→AV) (s:ByteArray) (h:Hp):PCall (En G) 160 [.str s] h (.bool (GK s)):=by
 refine CE (H:=Hint.none) (enM G) Tryz.func160 rfl (by kernel_rfl) (by kernel_rfl) (nLb (by kernel_rfl)) ?_
 show awp _ _ _ _ _ (D9 _ [.tmp 2] _)
 simp -implicitDefEqProofs only [BC,BA,A8,AY,BB,BH,BN,CO,AO,AQ,AL,BD,AX,AC,AA,AZ,AU,BJ,GZ,BG,A7,BU,AB,MP,BF,↓reduceIte,Nat.reduceEqDiff,oGs,bNf,enP]
 refine GU (fun ha => ?_) (fun ha => ?_)
 ·simp -implicitDefEqProofs only [BC,BA,BK,BL,A8,CX,CP,DU,AY,BB,BH,BN,CO,FP,AO,AQ,AL,BD,AX,AC,AA,EJ,AZ,AU,BJ,BG,A7,CQ,DR,↓reduceIte,Nat.reduceEqDiff,oGs,bNf,ha]
  refine ⟨?_,trivial⟩
  have:s.data.toList = []:=by
   rw [ByteArray.toList_eq,ByteArray.toList_eq] at ha
   have:=beq_iff_eq.1 ha
   exact this
  unfold GK P8; rw [this]; rfl
 have hz:0 < s.size:=by
  rcases Nat.eq_zero_or_pos s.size with hz | hz
  ·have:s=⟨#[]⟩:=by
    obtain ⟨d⟩:=s
    have:d.size=0:=hz
    rw [Array.eq_empty_of_size_eq_zero this]
   rw [this] at ha
   simp at ha
  ·exact hz
 simp -implicitDefEqProofs only [AY,BH,BN,CO,EG,AO,AQ,AL,BD,AX,AC,AA,AZ,AU,BI,BJ,BG,CQ,DN,BU,D8,AB,FU,BF,↓reduceIte,Nat.reduceEqDiff,oGs,bNf,enP,ln9,ha]
 refine GU (fun hb => ?_) (fun hb => ?_)
 ·simp -implicitDefEqProofs only [BC,BA,BK,BL,A8,CX,CP,DU,AY,BB,BH,BN,CO,FP,AO,AQ,AL,BD,AX,AC,AA,EJ,AZ,AU,BJ,BG,A7,CQ,DR,↓reduceIte,Nat.reduceEqDiff,oGs,bNf,hb]
  refine ⟨?_,trivial⟩
  have:decide (s.size≤16)=false:=by simp at hb ⊢; omega
  unfold GK; rw [this]; simp
 have h16:decide (s.size≤16)=true:=by simp at hb ⊢; omega
 simp -implicitDefEqProofs only [BH,BN,CO,EG,AO,AQ,AL,BD,AX,AC,AA,AZ,AU,BI,BG,MF,BF,↓reduceIte,Nat.reduceEqDiff,oGs,bNf,enP,hb]
 refine JC (v := .int .u8 (s[0]'hz).toNat) (h:=h) (by rw [show (0:Int)=((0:Nat):Int) from rfl,ix9 s 0 .i64 hz]; rfl) ?_
 simp -implicitDefEqProofs only [BH,BN,CO,EG,AO,AQ,AL,BD,AX,AC,AA,AZ,CB,CG,BP,lMc,lMn,lAn,↓reduceIte,Nat.reduceEqDiff,oGs,bNf]
 refine (ABJ G _ h).use ?_
 simp -implicitDefEqProofs only [AY,BH,BN,CO,EG,AO,AQ,AL,BD,AX,AC,AA,AZ,AU,BJ,BG,CQ,DN,GV,AB,EX,↓reduceIte,Nat.reduceEqDiff,oGs,bNf]
 refine GU (fun hc => ?_) (fun hc => ?_)
 ·simp -implicitDefEqProofs only [BC,BA,BK,BL,A8,CX,CP,DU,AY,BB,BH,BN,CO,FP,AO,AQ,AL,BD,AX,AC,AA,EJ,AZ,AU,BJ,A7,CQ,DR,↓reduceIte,Nat.reduceEqDiff,oGs,bNf,hc]
  refine ⟨?_,trivial⟩
  unfold GK; rw [XF hz (by simpa using hc)]; rfl
 simp -implicitDefEqProofs only [BH,BN,CO,EG,AO,AQ,AL,BD,AX,AC,AA,AZ,CB,BG,CG,BP,BF,lMc,lMn,lAn,↓reduceIte,Nat.reduceEqDiff,oGs,bNf,hc]
 refine (AA2 G s h).use ?_
 simp -implicitDefEqProofs only [BL,A8,AY,BB,AO,AQ,AL,BD,AX,AC,AA,AZ,AU,BJ,CQ,DN,↓reduceIte,Nat.reduceEqDiff,oGs,bNf]
 refine DC (fun hd => ?_) (fun hd => ?_)
 ·simp -implicitDefEqProofs only [BC,BA,BK,A8,CX,CP,AY,BB,AO,AQ,AL,BD,AX,AC,AA,AU,BJ,A7,↓reduceIte,oGs,bNf]
  refine ⟨?_,trivial⟩
  unfold GK; rw [hd]; simp
 simp -implicitDefEqProofs only [BC,BV,BA,BR,A8,AY,BB,AO,AQ,AL,BD,AX,AC,AU,BI,A7,oGs,bNf]
 have hlow:PI (s[0]'hz).toNat=true:=by simpa using hc
 refine DY (fun n F H => ∃ k,n+k=s.size∧F 0 = .str s∧F 3 = .int .i64 (k:Nat)∧H=h∧(∀ i (hi:i < s.size),i < k→KZ (s[i]'hi).toNat=true)) s.size ⟨0,by simp,by simp -implicitDefEqProofs only [AA,BF,↓reduceIte,Nat.reduceEqDiff],by simp -implicitDefEqProofs only [AA,↓reduceIte]; rfl,rfl,fun _ _ h=>absurd h (by omega)⟩ ?_
 rintro n F H ⟨k,hk,f0,f3,rfl,hall⟩
 simp -implicitDefEqProofs only [BC,BA,BL,A8,AY,BB,AO,AQ,AL,BD,AX,AC,AA,AZ,BG,BU,D8,AB,DT,↓reduceIte,Nat.reduceEqDiff,oGs,bNf,enP,ln9,f0,f3]
 refine DC (fun he => ?_) (fun he => ?_)
 ·have hk':k < s.size:=by simpa using he
  simp -implicitDefEqProofs only [BC,BV,BA,BR,A8,AY,AO,AQ,AL,BD,AX,AC,AA,AZ,CB,BG,MF,CG,BP,AB,lMc,lMn,lAn,↓reduceIte,Nat.reduceEqDiff,oGs,bNf,enP,f0,f3,ix9 s k .i64 hk']
  refine (ALJ G _ _).use ?_
  simp -implicitDefEqProofs only [BL,A8,AY,BB,AO,AQ,AL,BD,AX,AC,AA,AZ,GV,AB,EX,↓reduceIte,oGs,bNf]
  refine DC (fun hf => ?_) (fun hf => ?_)
  ·simp -implicitDefEqProofs only [BC,BA,BK,A8,CX,ED,FY,CP,AY,BB,AO,AQ,AL,BD,AX,AC,AA,AU,BJ,A7,↓reduceIte,oGs,bNf]
   refine ⟨?_,trivial⟩
   unfold GK; rw [QL hk' (by simpa using hf)]; rfl
  ·simp -implicitDefEqProofs only [BA,BR,A8,EP,FC,AY,BB,AO,AQ,AL,BD,AX,AC,AA,AZ,AU,BI,BG,A7,BU,AB,DV,↓reduceIte,Nat.reduceEqDiff,oGs,bNf,enP,f3,wrap_succ (show k < 9223372036854775807 by simp at h16; omega)]
   refine ⟨n - 1,by omega,k+1,by omega,f0,rfl,trivial,fun i hi hik => ?_⟩
   rcases Nat.lt_or_ge i k with h' | h'
   ·exact hall i hi h'
   ·have:i=k:=by omega
    subst this; simpa using hf
 ·have hk' : ¬ k < s.size:=by simpa using he
  simp -implicitDefEqProofs only [BC,BA,BK,DW,A8,ER,FN,FM,CP,AY,BB,AO,AQ,AL,BD,AX,AC,AA,AU,BJ,A7,↓reduceIte,oGs,bNf]
  refine ⟨?_,trivial⟩
  unfold GK
  rw [AEE hz hlow (fun i hi=>hall i hi (by omega)),h16,hd]; rfl
def NK (b:Bin):Bool :=
 decide (b.kind < 0) || decide (b.kind > 2) || (decide ((b.ranges.l.length:Int) > 0) == decide ((b.steps.length:Int) > 0)) || (b.kind != 0 && decide ((b.steps.length:Int) > 0)) || ((b.steps.length:Int) == 1) || decide ((b.steps.length:Int) > 8)
def IP (b:Bin):Int :=
 if GK b.name then if NK b then 1 else if b.steps.any (fun l=>decide (l.l.length=0)) then 1 else
  if (sets b).any (fun l=>decide (l.l.length > 64)) then 2 else if (sets b).any (fun l=>l.l.any bad) then 1 else 0
 else 7
def shape (b:Bin):Bool :=
 if (b.kind != 0 && b.kind != 1 && b.kind != 2) then false else if ((b.steps.length:Int) == 0) then decide ((b.ranges.l.length:Int) > 0) else
  if (decide ((b.ranges.l.length:Int) > 0) || b.kind != 0 || decide ((b.steps.length:Int) < 2) || decide ((b.steps.length:Int) > 8)) then false else !(b.steps.any (fun l=>decide (l.l.length=0)))
theorem AHD : ∀ (n p z o t r s0 s1 s8 E:Bool),((n || p || z || o || t) && !(n && p) && !(n && z) && !(n && o) && !(n && t) && !(p && z) && !(p && o) && !(p && t) && !(z && o) && !(z && t) && !(o && t) && !(s0 && s1) && !(s0 && s8) && !(s1 && s8) && !(s0 && E))=true →
 (if (!z && !o && !t) then false else if s0 then r else if (r || !z || (s0 || s1) || s8) then false else !E)=(!(n || p || (r == !s0) || (!z && !s0) || s1 || s8) && !E):=by decide +kernel
theorem AKW (k r s:Int) (E:Bool) (hs:0≤s) (hE:s=0→E=false) :
  (if (k != 0 && k != 1 && k != 2) then false else if (s == 0) then decide (r > 0) else if (decide (r > 0) || k != 0 || decide (s < 2) || decide (s > 8)) then false else !E) =
  (!(decide (k < 0) || decide (k > 2) || (decide (r > 0) == decide (s > 0)) || (k != 0 && decide (s > 0)) || (s == 1) || decide (s > 8)) && !E):=by
 have h1:decide (s > 0) = !(s == 0):=by rw [Bool.eq_iff_iff]; simp; omega
 have h2:decide (s < 2)=((s == 0) || (s == 1)):=by rw [Bool.eq_iff_iff]; simp; omega
 rw [h1,h2]
 have key:=AHD (decide (k < 0)) (decide (k > 2)) (k == 0) (k == 1) (k == 2) (decide (r > 0)) (s == 0) (s == 1) (decide (s > 8)) E ?_
 ·exact key
 ·have a1:(decide (k < 0) || decide (k > 2) || (k == 0) || (k == 1) || (k == 2))=true:=by simp; omega
  have no : ∀ (p q:Prop) [Decidable p] [Decidable q],¬ (p∧q)→(!(decide p && decide q))=true:=by
   intro p q _ _ h; by_cases hp:p <;> by_cases hq:q <;> simp_all
  have e0:(s == 0 && E)=false:=by
   by_cases hz:s=0
   ·rw [hE hz]; simp
   ·simp [hz]
  have b0:(k == 0)=decide (k=0):=rfl
  have b1:(k == 1)=decide (k=1):=rfl
  have b2:(k == 2)=decide (k=2):=rfl
  have c0:(s == 0)=decide (s=0):=rfl
  have c1:(s == 1)=decide (s=1):=rfl
  rw [e0]
  rw [b0,b1,b2] at a1 ⊢
  rw [c0,c1,a1,no _ _ (show ¬ (k < 0∧k > 2) by omega),no _ _ (show ¬ (k < 0∧k=0) by omega),no _ _ (show ¬ (k < 0∧k=1) by omega),no _ _ (show ¬ (k < 0∧k=2) by omega),
   no _ _ (show ¬ (k > 2∧k=0) by omega),no _ _ (show ¬ (k > 2∧k=1) by omega),no _ _ (show ¬ (k > 2∧k=2) by omega),no _ _ (show ¬ (k=0∧k=1) by omega),no _ _ (show ¬ (k=0∧k=2) by omega),no _ _ (show ¬ (k=1∧k=2) by omega),
   no _ _ (show ¬ (s=0∧s=1) by omega),no _ _ (show ¬ (s=0∧s > 8) by omega),no _ _ (show ¬ (s=1∧s > 8) by omega)]
  rfl
theorem AEW (b:Bin):shape b=(!NK b && !(b.steps.any (fun l=>decide (l.l.length=0)))) :=
 AKW b.kind b.ranges.l.length b.steps.length _ (by omega) (fun h=>by
  have:b.steps = []:=List.eq_nil_of_length_eq_zero (by omega)
  rw [this]; rfl)
theorem AHC (G:Nat→AV) (b:Bin) (h:Hp) (hl:b.steps.length≤1099511627776):PCall (En G) 201 [.agg (F6 b)] h (.bool (shape b)):=by
 refine ACalls.pure0 rfl ?_
 refine CE (H:=Hint.none) (enM G) Tryz.func201 rfl (by kernel_rfl) (by kernel_rfl) (nLb (by kernel_rfl)) ?_
 show awp _ _ _ _ _ (D9 _ [.tmp 2] _)
 simp -implicitDefEqProofs only [BC,BV,BA,A8,AY,BB,BH,BN,CO,AO,AQ,AL,BD,AX,AC,AA,AZ,AU,BI,BJ,BG,A7,FX,BQ,BU,BM,D8,BX,AB,EQ,BF,↓reduceIte,Nat.reduceEqDiff,Nat.zero_add,oGs,bNf,enP,ABS,TK,YM,bxB,DJ AKH,DJ UJ,DJ ag3,AB9,AB8,AKA,lLm]
 refine SY (fun F H=>F 7 = .bool (b.kind != 0 && b.kind != 1 && b.kind != 2)∧F 1 = .ptr h.length 0 0∧F 3 = .int .i64 b.steps.length∧H=h ++ [.live 4 [F6 b]]) ?_ ?_
 ·refine GU (fun ha => ?_) (fun ha => ?_)
  ·simp -implicitDefEqProofs only [AY,BH,BN,CO,FV,AO,AQ,AL,BD,AX,AC,AA,AZ,AU,BI,BJ,BG,CQ,DR,BQ,BU,BM,AB,EQ,↓reduceIte,Nat.reduceEqDiff,Nat.zero_add,oGs,bNf,enP,TK,ha,DJ ag3,AB9]
   refine GU (fun hb => ?_) (fun hb => ?_)
   ·simp -implicitDefEqProofs only [AY,BB,BH,BN,CO,FV,AO,AQ,AL,BD,AX,AC,AA,AZ,AU,BI,BJ,A7,CQ,DR,BQ,BU,BM,AB,EQ,↓reduceIte,Nat.reduceEqDiff,Nat.zero_add,oGs,bNf,enP,TK,hb,DJ ag3,AB9]
    exact ⟨rfl,trivial,trivial,trivial⟩
   ·simp -implicitDefEqProofs only [AY,BB,BH,BN,CO,G5,AO,AQ,AL,BD,AX,AC,AA,EJ,AZ,AU,BJ,A7,CQ,DN,↓reduceIte,Nat.reduceEqDiff,oGs,bNf,hb]
    exact ⟨rfl,trivial,trivial,trivial⟩
  ·simp -implicitDefEqProofs only [AY,BB,BH,BN,CO,G5,AO,AQ,AL,BD,AX,AC,AA,EJ,AZ,AU,BJ,BG,A7,CQ,DN,↓reduceIte,Nat.reduceEqDiff,oGs,bNf,ha]
   exact ⟨rfl,trivial,trivial,trivial⟩
 rintro F H ⟨f7,f1,f3,rfl⟩
 simp -implicitDefEqProofs only [BL,A8,AZ,f7,f1,f3]
 refine DC (fun hk => ?_) (fun hk => ?_)
 ·simp -implicitDefEqProofs only [BC,BA,BK,A8,CX,ED,CP,AY,BB,AO,AQ,AL,BD,AX,AC,AA,AU,BJ,A7,↓reduceIte,oGs,bNf]
  exact ⟨by unfold shape; rw [if_pos hk],_,rfl⟩
 have hk' : ¬ (b.kind != 0 && b.kind != 1 && b.kind != 2)=true:=by rw [hk]; simp
 simp -implicitDefEqProofs only [BC,BA,BL,A8,AY,BB,AO,AQ,AL,BD,AX,AC,AA,AZ,AU,BI,BG,A7,BU,AB,DX,↓reduceIte,oGs,bNf,enP,f1,f3]
 refine DC (fun hs => ?_) (fun hs => ?_)
 ·simp -implicitDefEqProofs only [BC,BA,BK,A8,CX,ED,CP,AY,BB,AO,AQ,AL,BD,AX,AC,AA,AZ,AU,BI,A7,BQ,BU,BM,D8,AB,FU,↓reduceIte,Nat.reduceEqDiff,Nat.zero_add,oGs,bNf,enP,XN,TJ,f1,DJ UJ,AB8,lLm]
  exact ⟨by unfold shape; rw [if_neg hk',if_pos hs],_,rfl⟩
 have hs' : ¬ ((b.steps.length:Int) == 0)=true:=by rw [hs]; simp
 simp -implicitDefEqProofs only [BC,BA,AY,BH,BN,CO,AO,AQ,AL,BD,AX,AC,AA,AZ,AU,BI,BG,BQ,BU,BM,D8,AB,FU,↓reduceIte,Nat.reduceEqDiff,Nat.zero_add,oGs,bNf,enP,XN,TJ,f1,f3,DJ UJ,AB8,lLm]
 refine SY (fun F H=>F 28 = .bool (decide ((b.ranges.l.length:Int) > 0) || b.kind != 0 || decide ((b.steps.length:Int) < 2) || decide ((b.steps.length:Int) > 8))∧F 1 = .ptr h.length 0 0∧H=h ++ [.live 4 [F6 b]]) ?_ ?_
 ·refine GU (fun ha => ?_) (fun ha => ?_)
  ·simp -implicitDefEqProofs only [Bool.true_or,AY,BB,BH,BN,CO,FP,AO,AQ,AL,BD,AX,AC,AA,EJ,AZ,AU,BJ,BG,A7,CQ,DR,↓reduceIte,Nat.reduceEqDiff,oGs,bNf,ha,f1]
   exact ⟨trivial,trivial,trivial⟩
  simp -implicitDefEqProofs only [Bool.false_or,AY,BH,BN,CO,EG,AO,AQ,AL,BD,AX,AC,AA,AZ,AU,BI,BJ,BG,CQ,DN,BQ,BU,BM,AB,EQ,↓reduceIte,Nat.reduceEqDiff,Nat.zero_add,oGs,bNf,enP,TK,ha,f1,DJ ag3,AB9]
  refine GU (fun hb => ?_) (fun hb => ?_)
  ·simp -implicitDefEqProofs only [Bool.true_or,AY,BB,BH,BN,CO,FP,AO,AQ,AL,BD,AX,AC,AA,EJ,AZ,AU,BJ,BG,A7,CQ,DR,↓reduceIte,Nat.reduceEqDiff,oGs,bNf,hb,f1]
   exact ⟨trivial,trivial,trivial⟩
  simp -implicitDefEqProofs only [Bool.false_or,AY,BH,BN,CO,EG,AO,AQ,AL,BD,AX,AC,AA,AZ,AU,BI,BJ,BG,CQ,DN,BU,AB,DT,↓reduceIte,Nat.reduceEqDiff,oGs,bNf,enP,hb,f1,f3]
  refine GU (fun hc => ?_) (fun hc => ?_)
  ·simp -implicitDefEqProofs only [Bool.true_or,AY,BB,BH,BN,CO,FP,AO,AQ,AL,BD,AX,AC,AA,EJ,AZ,AU,BJ,A7,CQ,DR,↓reduceIte,Nat.reduceEqDiff,oGs,bNf,hc,f1]
   exact ⟨trivial,trivial,trivial⟩
  ·simp -implicitDefEqProofs only [Bool.false_or,AY,BB,BH,BN,CO,EG,AO,AQ,AL,BD,AX,AC,AA,AZ,AU,BI,BJ,BG,A7,CQ,DN,BU,AB,FU,↓reduceIte,Nat.reduceEqDiff,oGs,bNf,enP,hc,f1,f3]
   exact ⟨trivial,trivial,trivial⟩
 rintro F H ⟨f28,f1,rfl⟩
 simp -implicitDefEqProofs only [BL,A8,AZ,f28,f1]
 refine DC (fun ho => ?_) (fun ho => ?_)
 ·simp -implicitDefEqProofs only [BC,BA,BK,A8,CX,ED,CP,AY,BB,AO,AQ,AL,BD,AX,AC,AA,AU,BJ,A7,↓reduceIte,oGs,bNf]
  exact ⟨by unfold shape; rw [if_neg hk',if_neg hs',if_pos ho],_,rfl⟩
 have ho' : ¬ (decide ((b.ranges.l.length:Int) > 0) || b.kind != 0 || decide ((b.steps.length:Int) < 2) || decide ((b.steps.length:Int) > 8))=true:=by rw [ho]; simp
 simp -implicitDefEqProofs only [BC,BA,BR,A8,EP,AY,AO,AQ,AL,BD,AX,AC,AA,AZ,CB,BQ,BM,CG,BP,AB,lMc,lMn,lAn,↓reduceIte,Nat.zero_add,oGs,bNf,enP,YM,f1,DJ AKH,AKA]
 refine (AAA G b.steps b.sm 235 [] (fun l=>decide (l.l.length=0)) _ hl fun r=>AOX G r _).use ?_
 simp -implicitDefEqProofs only [BK,A8,CP,AY,BB,AO,AQ,AL,BD,AX,AC,AA,AZ,A7,GV,AB,EX,↓reduceIte,oGs,bNf]
 exact ⟨by unfold shape; rw [if_neg hk',if_neg hs',if_neg ho'],_,rfl⟩
theorem AEJ {b:Bin} (h:GK b.name=false):IP b=7:=by unfold IP; rw [h]; rfl
theorem ACS {b:Bin} (h:GK b.name=true) (hs:NK b=true):IP b=1:=by unfold IP; rw [h,hs]; rfl
theorem ACT {b:Bin} (h:GK b.name=true) (hs:b.steps.any (fun l=>decide (l.l.length=0))=true):IP b=1:=by
 unfold IP; rw [h,hs]; cases NK b <;> rfl
theorem XG {b:Bin} (h:GK b.name=true) (hs:NK b=false) (he:b.steps.any (fun l=>decide (l.l.length=0))=false) :
  IP b=if (sets b).any (fun l=>decide (l.l.length > 64)) then 2 else if (sets b).any (fun l=>l.l.any bad) then 1 else 0:=by
 unfold IP; rw [h,hs,he]; rfl
structure BinOk (b:Bin):Prop where
 num:(sets b).length≤1099511627776
 name:b.name.size≤1099511627776
 steps:b.steps.length≤1099511627776
 sets : ∀ l∈sets b,l.l.length≤1099511627776
theorem AE7 (xs:List Rng):decide (IC xs=2)=decide (xs.length > 64):=by
 unfold IC
 split
 ·simp_all
 ·split <;> simp_all
theorem XK (xs:List Rng):decide (IC xs=1)=(decide (¬ xs.length > 64) && xs.any bad):=by
 unfold IC
 split
 ·rename_i h; simp [h]
 ·rename_i h
  split
  ·rename_i h2; simp only [h2,h]; rfl
  ·rename_i h2; simp only [Bool.not_eq_true] at h2; simp only [h2]; simp
theorem AMT {b:Bin} (h:GK b.name=true) (hs:NK b=false) (he:b.steps.any (fun l=>decide (l.l.length=0))=false) :
  IP b=if (sets b).any (fun l=>decide (IC l.l=2)) then 2 else if (sets b).any (fun l=>decide (IC l.l=1)) then 1 else 0:=by
 rw [XG h hs he]
 simp only [AE7]
 split
 ·rfl
 ·rename_i hn
  have:(sets b).any (fun l=>decide (IC l.l=1))=(sets b).any (fun l=>l.l.any bad):=by
   rw [Bool.eq_iff_iff,List.any_eq_true,List.any_eq_true]
   constructor
   ·rintro ⟨l,h1,h2⟩
    rw [XK] at h2
    simp only [Bool.and_eq_true] at h2
    exact ⟨l,h1,h2.2⟩
   ·rintro ⟨l,h1,h2⟩
    refine ⟨l,h1,?_⟩
    rw [XK,h2]
    rw [Bool.not_eq_true,List.any_eq_false] at hn
    have:=hn l h1
    simp only [decide_eq_true_eq] at this
    simp only [this,not_false_eq_true,decide_true,Bool.and_self]
  rw [this]
theorem AGR {α:Type} (p:α→Bool) (xs:List α) (k:Nat) (h:k < xs.length):(xs.take (k+1)).any p=((xs.take k).any p || p xs[k]):=by
 rw [List.take_succ_eq_append_getElem h,List.any_append,List.any_cons,List.any_nil,Bool.or_false]
theorem YT (G:Nat→AV) (hG:KwG G) (b:Bin) (hb:BinOk b) (h:Hp):PCall (En G) 152 [.agg (F6 b)] h (.int .i64 (IP b)):=by
 refine ACalls.pure0 rfl ?_
 refine CE (H:=Hint.none) (enM G) Tryz.func152 rfl (by kernel_rfl) (by kernel_rfl) (nLb (by kernel_rfl)) ?_
 show awp _ _ _ _ _ (D9 _ [.tmp 2] _)
 simp -implicitDefEqProofs only [BC,BA,A8,AY,BB,AO,AQ,AL,BD,AX,AC,AA,AZ,AU,CB,BI,A7,FX,BQ,BM,CG,BP,BX,AB,BF,lMc,lMn,lAn,↓reduceIte,Nat.reduceEqDiff,Nat.add_zero,oGs,bNf,enP,AJ5,bxB,DJ ag9,ATL]
 refine (L6 G hG b.name _ hb.name).use ?_
 simp -implicitDefEqProofs only [BL,A8,AY,BB,AO,AQ,AL,BD,AX,AC,AA,AZ,GV,AB,EX,↓reduceIte,oGs,bNf]
 refine DC (fun hn => ?_) (fun hn => ?_)
 ·simp -implicitDefEqProofs only [BC,BA,BK,A8,CX,CP,AY,BB,AO,AQ,AL,BD,AX,AC,AA,AU,BI,A7,↓reduceIte,oGs,bNf]
  exact ⟨by rw [AEJ (by simpa using hn)],_,rfl⟩
 have hn':GK b.name=true:=by simpa using hn
 simp -implicitDefEqProofs only [BC,BA,BR,A8,AY,AO,AQ,AL,BD,AX,AC,AA,AZ,CB,BQ,CG,BP,AB,lMc,lMn,lAn,↓reduceIte,Nat.reduceEqDiff,oGs,bNf,enP,ldB]
 refine (AHC G b _ hb.steps).use ?_
 simp -implicitDefEqProofs only [BL,A8,AY,BB,AO,AQ,AL,BD,AX,AC,AA,AZ,GV,AB,EX,↓reduceIte,oGs,bNf]
 refine DC (fun hs => ?_) (fun hs => ?_)
 ·simp -implicitDefEqProofs only [BC,BA,BK,A8,CX,CP,AY,BB,AO,AQ,AL,BD,AX,AC,AA,AU,BI,A7,↓reduceIte,oGs,bNf]
  refine ⟨?_,_,rfl⟩
  have h1:shape b=false:=by simpa using hs
  rw [AEW] at h1
  cases hr:NK b with
  | true=>rw [ACS hn' hr]
  | false =>
    rw [hr] at h1
    rw [ACT hn' (by simpa using h1)]
 have h1:shape b=true:=by simpa using hs
 rw [AEW] at h1
 simp only [Bool.and_eq_true,Bool.not_eq_true'] at h1
 have hv:=XG hn' h1.1 h1.2
 simp -implicitDefEqProofs only [BC,BA,BR,A8,AY,BB,AO,AQ,AL,BD,AX,AC,AA,AZ,AU,CB,BJ,A7,BQ,CG,BP,AB,lMc,lMn,lAn,↓reduceIte,Nat.reduceEqDiff,oGs,bNf,enP,ldB]
 refine (ABK G b _).use ?_
 simp -implicitDefEqProofs only [BV,A8,AY,BB,AO,AQ,AL,BD,AX,AC,AA,AZ,AU,BI,BG,D8,AB,↓reduceIte,oGs,bNf,enP,ABS,lLm]
 refine DY (fun n F H => ∃ k,n+k=(sets b).length∧F 3 = .bool (((sets b).take k).any fun l=>decide (IC l.l=2))∧F 4 = .bool (((sets b).take k).any fun l=>decide (IC l.l=1))∧F 15 = .sl (ABL b) 1 ((sets b).map encS)∧F 16 = .int .i64 (sets b).length∧F 17 = .int .i64 (k:Nat)∧H=h ++ [.live 4 [F6 b]]) (sets b).length ⟨0,by simp,rfl,rfl,rfl,rfl,rfl,rfl⟩ ?_
 rintro n F H ⟨k,hk,f3,f4,f15,f16,f17,rfl⟩
 simp -implicitDefEqProofs only [BC,BA,BL,A8,AY,BB,AO,AQ,AL,BD,AX,AC,AA,AZ,BU,AB,DT,↓reduceIte,oGs,bNf,enP,f15,f16,f17]
 refine DC (fun hc => ?_) (fun hc => ?_)
 ·have hc':k < (sets b).length:=by simpa using hc
  simp -implicitDefEqProofs only [BC,BV,BA,BR,A8,AY,BB,AO,AQ,AL,BD,AX,AC,AA,AZ,CB,BG,A7,BQ,CV,CG,BP,AB,lMc,lMn,lAn,↓reduceIte,Nat.reduceEqDiff,oGs,bNf,enP,AN8,f15,f17,EF hc',EI UJ hc',AOS]
  refine (AE6 G _ _ _ (hb.sets _ (List.getElem_mem hc'))).use ?_
  have t2:=AGR (fun l:Rs=>decide (IC l.l=2)) (sets b) k hc'
  have t1:=AGR (fun l:Rs=>decide (IC l.l=1)) (sets b) k hc'
  simp -implicitDefEqProofs only [BC,BV,BA,BL,A8,AY,BB,AO,AQ,AL,BD,AX,AC,AA,AZ,AU,BI,A7,BU,AB,DX,↓reduceIte,oGs,bNf,enP]
  refine DC (fun hd => ?_) (fun hd => ?_)
  ·have hd':IC (sets b)[k].l=2:=by simpa using hd
   simp -implicitDefEqProofs only [BA,A8,EP,FC,AY,BB,AO,AQ,AL,BD,AX,AC,AA,AZ,AU,BI,BJ,BG,A7,BU,AB,DV,↓reduceIte,Nat.reduceEqDiff,oGs,bNf,enP,f17,wrap_succ (show k < 9223372036854775807 by have:=hb.num; omega)]
   refine ⟨n - 1,by omega,k+1,by omega,?_,?_,f15,f16,rfl,trivial⟩
   ·rw [t2,hd']; simp
   ·rw [f4,t1,hd']; simp
  simp -implicitDefEqProofs only [BC,BA,BL,A8,AY,BB,AO,AQ,AL,BD,AX,AC,AA,AZ,AU,BI,A7,BU,AB,DX,↓reduceIte,Nat.reduceEqDiff,oGs,bNf,enP]
  refine DC (fun he => ?_) (fun he => ?_)
  ·have he':IC (sets b)[k].l=1:=by simpa using he
   simp -implicitDefEqProofs only [BA,A8,EP,FC,AY,BB,AO,AQ,AL,BD,AX,AC,AA,AZ,AU,BI,BJ,BG,A7,BU,AB,DV,↓reduceIte,Nat.reduceEqDiff,oGs,bNf,enP,f17,wrap_succ (show k < 9223372036854775807 by have:=hb.num; omega)]
   refine ⟨n - 1,by omega,k+1,by omega,?_,?_,f15,f16,rfl,trivial⟩
   ·rw [f3,t2,he']; simp
   ·rw [t1,he']; simp
  ·have hd':IC (sets b)[k].l≠2:=by simpa using hd
   have he':IC (sets b)[k].l≠1:=by simpa using he
   simp -implicitDefEqProofs only [BA,BR,A8,EP,FC,AY,BB,AO,AQ,AL,BD,AX,AC,AA,AZ,AU,BI,BG,BU,AB,DV,↓reduceIte,Nat.reduceEqDiff,oGs,bNf,enP,f17,wrap_succ (show k < 9223372036854775807 by have:=hb.num; omega)]
   refine ⟨n - 1,by omega,k+1,by omega,?_,?_,f15,f16,rfl,trivial⟩
   ·rw [f3,t2]; simp [hd']
   ·rw [f4,t1]; simp [he']
 ·have hc' : ¬ k < (sets b).length:=by simpa using hc
  rw [List.take_of_length_le (by omega)] at f3 f4
  have hE:=AMT hn' h1.1 h1.2
  simp -implicitDefEqProofs only [BC,BV,BA,DW,BL,A8,ER,FN,FM,AY,BB,AO,AQ,AL,BD,AX,AC,AA,AZ,BG,A7,↓reduceIte,Nat.reduceEqDiff,oGs,bNf,f3,f4]
  refine DC (fun hd => ?_) (fun hd => ?_)
  ·simp -implicitDefEqProofs only [BC,BA,BK,A8,CX,ED,CP,AY,BB,AO,AQ,AL,BD,AX,AC,AA,AU,BI,A7,↓reduceIte,oGs,bNf]
   exact ⟨by rw [hE,if_pos hd],_,rfl⟩
  simp -implicitDefEqProofs only [BC,BA,BL,A8,AY,BB,AO,AQ,AL,BD,AX,AC,AA,AZ,BG,A7,↓reduceIte,Nat.reduceEqDiff,oGs,bNf,f4]
  refine DC (fun he => ?_) (fun he => ?_)
  ·simp -implicitDefEqProofs only [BC,BA,BK,A8,CX,ED,CP,AY,BB,AO,AQ,AL,BD,AX,AC,AA,AU,BI,A7,↓reduceIte,oGs,bNf]
   exact ⟨by rw [hE,if_neg (by rw [hd]; simp),if_pos he],_,rfl⟩
  ·simp -implicitDefEqProofs only [BC,BA,BR,BK,A8,EP,CP,AY,BB,AO,AQ,AL,BD,AX,AC,AA,AU,BI,A7,↓reduceIte,oGs,bNf]
   exact ⟨by rw [hE,if_neg (by rw [hd]; simp),if_neg (by rw [he]; simp)],_,rfl⟩
end Go.Proofs.YtocilianjfhifaaGreatDoor.Bins
namespace Go.Proofs.YtocilianjfhifaaGreatDoor.Cov
open Sm Bins
inductive Ex where
 | mk (op n:Int) (name:ByteArray) (m:SM) (args:List Ex)
def Ex.op:Ex→Int | .mk op _ _ _ _=>op
def Ex.n:Ex→Int | .mk _ n _ _ _=>n
def Ex.name:Ex→ByteArray | .mk _ _ name _ _=>name
def Ex.m:Ex→SM | .mk _ _ _ m _=>m
def Ex.args:Ex→List Ex | .mk _ _ _ _ args=>args
mutual
def EH:Ex→List AV
 | .mk op n name m args => [.int .i64 op,.int .i64 n,.str name,.sl m 4 (AGA args)]
def AGA:List Ex→List (List AV)
 | [] => []
 | e :: es=>EH e :: AGA es
end
theorem AB6 : ∀ l:List Ex,AGA l=l.map EH
 | []=>by simp [AGA]
 | e :: es=>by simp [AGA,AB6 es]
theorem MO (e:Ex):EH e = [.int .i64 e.op,.int .i64 e.n,.str e.name,.sl e.m 4 (e.args.map EH)]:=by
 cases e; simp [EH,AB6,Ex.op,Ex.n,Ex.name,Ex.m,Ex.args]
theorem I8 (e:Ex):(EH e).length=4:=by rw [MO]; rfl
theorem JF (e:Ex):(EH e)[0]? = some (.int .i64 e.op):=by rw [MO]; rfl
theorem XW (e:Ex):(EH e)[1]? = some (.int .i64 e.n):=by rw [MO]; rfl
theorem PD (e:Ex):(EH e)[2]? = some (.str e.name):=by rw [MO]; rfl
theorem XV (e:Ex):(EH e)[3]? = some (.sl e.m 4 (e.args.map EH)):=by rw [MO]; rfl
theorem AB7 (e:Ex):(EH e).all AV.leaf=true:=by rw [MO]; rfl
theorem bxE (h:Hp) (e:Ex):NU h (.agg (EH e))=some (.ptr h.length 0 0,h ++ [.live 4 [EH e]]):=by
 have:=V3 (h:=h) (AB7 e)
 rw [I8] at this; exact this
theorem ldE (h:Hp) (e:Ex):DL Tryz.prog (h ++ [.live 4 [EH e]]) 53 (.ptr h.length 0 0)=some (.agg (EH e)):=by
 rw [TG AAM VF (by rw [I8]; exact Nat.le_refl 4)]
 rw [List.drop_zero,List.take_of_length_le (by rw [I8]; exact Nat.le_refl 4)]
theorem ML {h:Hp} {b:Nat} {e:Ex} (hb:h[b]? = some (.live 4 [EH e])):DL Tryz.prog h 53 (.ptr b 0 0)=some (.agg (EH e)):=by
 rw [IK AAM VF hb rfl (by rw [I8]; exact Nat.le_refl 4)]
 rw [List.drop_zero,List.take_of_length_le (by rw [I8]; exact Nat.le_refl 4)]
mutual
def pre:Ex→List Ex
 | .mk op n name m args => .mk op n name m args :: JB args
def JB:List Ex→List Ex
 | [] => []
 | e :: es=>pre e ++ JB es
end
mutual
def dep:Ex→Nat
 | .mk _ _ _ _ args=>deps args+1
def deps:List Ex→Nat
 | []=>0
 | e :: es=>max (dep e) (deps es)
end
mutual
def wt:Ex→Nat
 | .mk _ _ name _ args=>name.size+1+wts args
def wts:List Ex→Nat
 | []=>0
 | e :: es=>wt e+wts es
end
theorem pre_eq (e:Ex):pre e=e :: JB e.args:=by cases e; simp [pre,Ex.args]
theorem ADS (e:Ex):dep e=deps e.args+1:=by cases e; simp [dep,Ex.args]
theorem LY (e:Ex):wt e=e.name.size+1+wts e.args:=by cases e; simp [wt,Ex.args,Ex.name]
theorem PO (xs ys:List Ex):JB (xs ++ ys)=JB xs ++ JB ys:=by
 induction xs with
 | nil=>simp [JB]
 | cons x xs ih=>simp [JB,ih]
theorem S9 (xs:List Ex):xs.length≤wts xs:=by
 induction xs with
 | nil=>simp [wts]
 | cons x xs ih=>have:=LY x; simp [wts]; omega
theorem QK {xs:List Ex} {x:Ex} (h:x∈xs):wt x≤wts xs:=by
 induction xs with
 | nil=>cases h
 | cons y ys ih =>
   simp only [wts]
   cases List.mem_cons.1 h with
   | inl e=>subst e; omega
   | inr e=>have:=ih e; omega
theorem ACA (xs:List Ex) (k:Nat) (h:k < xs.length):deps (xs.take (k+1))=max (deps (xs.take k)) (dep xs[k]):=by
 induction xs generalizing k with
 | nil=>simp at h
 | cons x xs ih =>
   cases k with
   | zero=>simp [deps]
   | succ k =>
     simp only [List.take_succ_cons,deps,List.getElem_cons_succ]
     rw [ih k (by simpa using h),Nat.max_assoc]
theorem Ex.induct {P:Ex→Prop} (h : ∀ e:Ex,(∀ a∈e.args,P a)→P e) (e:Ex):P e:=by
 have : ∀ n (e:Ex),wt e≤n→P e:=by
  intro n
  induction n with
  | zero=>intro e he; have:=LY e; omega
  | succ n ih =>
    intro e he
    refine h e fun a ha=>ih a ?_
    have h1:=QK ha
    have h2:=LY e
    omega
 exact this _ e (Nat.le_refl _)
theorem AO0 (e:Ex):dep e≤wt e:=by
 refine Ex.induct (P:=fun e=>dep e≤wt e) (fun e ih => ?_) e
 rw [ADS,LY]
 have:deps e.args≤wts e.args:=by
  generalize e.args=l at ih
  induction l with
  | nil=>simp [deps,wts]
  | cons x l ih2 =>
    have h1:=ih x (by simp)
    have h2:=ih2 (fun a ha=>ih a (by simp [ha]))
    simp only [deps,wts]; omega
 omega
theorem ACY (e:Ex):(pre e).length≤wt e:=by
 refine Ex.induct (P:=fun e=>(pre e).length≤wt e) (fun e ih => ?_) e
 rw [pre_eq,LY]
 have:(JB e.args).length≤wts e.args:=by
  generalize e.args=l at ih
  induction l with
  | nil=>simp [JB,wts]
  | cons x l ih2 =>
    have h1:=ih x (by simp)
    have h2:=ih2 (fun a ha=>ih a (by simp [ha]))
    simp only [JB,wts,List.length_append]; omega
 simp; omega
def arity (op:Int):Int:=if op < 1∨op > 25 then -1 else if op=1∨op=2∨op=24 then 0 else if op=3∨op=4∨op=5∨op=6∨op=25 then 1 else if op=22 then 3 else if op=23 then -1 else 2
set_option maxHeartbeats 2000000 in
theorem AIP (G:Nat→AV) (op:Int) (h:Hp):PCall (En G) 258 [.int .i64 op] h (.int .i64 (arity op)):=by
 refine CE (H:=Hint.none) (enM G) Tryz.func258 rfl (by kernel_rfl) (by kernel_rfl) (nLb (by kernel_rfl)) ?_
 show awp _ _ _ _ _ (D9 _ [.tmp 2] _)
 have hcase:op < 1∨op > 25∨op=1∨op=2∨op=3∨op=4∨op=5∨op=6∨op=7∨op=8∨op=9∨op=10∨op=11∨op=12∨op=13∨op=14∨op=15∨op=16∨op=17∨op=18∨op=19∨op=20∨op=21∨op=22∨op=23∨op=24∨op=25:=by omega
 rcases hcase with h | h | rfl | rfl | rfl | rfl | rfl | rfl | rfl | rfl | rfl | rfl | rfl | rfl | rfl | rfl | rfl | rfl | rfl | rfl | rfl | rfl | rfl | rfl | rfl | rfl | rfl
 ·have hne : ∀ k:Int,1≤k→(op == k)=false:=fun k hk=>beq_eq_false_iff_ne.2 (by omega)
  have hd:decide (op < 1)=true:=by simp; omega
  have ha:arity op = -1:=by unfold arity; rw [if_pos (Or.inl h)]
  rw [ha]
  simp -implicitDefEqProofs only [BC,BV,BA,BR,BK,BL,A8,CX,EP,CP,DU,D5,AY,BB,BH,BN,CO,FP,AO,AQ,AL,BD,AX,AC,AA,EJ,AZ,AU,BI,BJ,BG,A7,CQ,DR,BU,AB,DX,DT,BF,↓reduceIte,Nat.reduceEqDiff,oGs,bNf,enP,hne 1 (by decide),hne 2 (by decide),hne 3 (by decide),hne 4 (by decide),hne 5 (by decide),hne 6 (by decide),hne 7 (by decide),hne 8 (by decide),hne 9 (by decide),hne 10 (by decide),hne 11 (by decide),hne 12 (by decide),hne 13 (by decide),hne 14 (by decide),hne 15 (by decide),hne 16 (by decide),hne 17 (by decide),hne 18 (by decide),hne 19 (by decide),hne 20 (by decide),hne 21 (by decide),hne 22 (by decide),hne 23 (by decide),hne 24 (by decide),hne 25 (by decide),hd]
  exact ⟨trivial,trivial⟩
 ·have hne : ∀ k:Int,k≤25→(op == k)=false:=fun k hk=>beq_eq_false_iff_ne.2 (by omega)
  have hd:decide (op < 1)=false:=by simp; omega
  have hd2:decide (op > 25)=true:=by simp; omega
  have ha:arity op = -1:=by unfold arity; rw [if_pos (Or.inr h)]
  rw [ha]
  simp -implicitDefEqProofs only [BC,BV,BA,BR,BK,BL,A8,CX,EP,CP,DU,D5,AY,BB,BH,BN,CO,EG,AO,AQ,AL,BD,AX,AC,AA,AZ,AU,BI,BJ,BG,A7,CQ,DN,BU,AB,DX,DT,FU,BF,↓reduceIte,Nat.reduceEqDiff,oGs,bNf,enP,hne 1 (by decide),hne 2 (by decide),hne 3 (by decide),hne 4 (by decide),hne 5 (by decide),hne 6 (by decide),hne 7 (by decide),hne 8 (by decide),hne 9 (by decide),hne 10 (by decide),hne 11 (by decide),hne 12 (by decide),hne 13 (by decide),hne 14 (by decide),hne 15 (by decide),hne 16 (by decide),hne 17 (by decide),hne 18 (by decide),hne 19 (by decide),hne 20 (by decide),hne 21 (by decide),hne 22 (by decide),hne 23 (by decide),hne 24 (by decide),hne 25 (by decide),hd,hd2]
  exact ⟨trivial,trivial⟩
 all_goals
  simp -implicitDefEqProofs only [BC,BV,BA,BR,BK,BL,A8,CX,EP,ED,CP,DU,D5,AY,BB,BH,BN,CO,EG,AO,AQ,AL,BD,AX,AC,AA,AZ,AU,BI,BJ,BG,A7,CQ,DN,BU,AB,DX,DT,FU,BF,↓reduceIte,Nat.reduceEqDiff,oGs,bNf,decide_false,enP,Int.reduceBEq,Int.reduceLT,Int.reduceGT]
  exact ⟨rfl,trivial⟩
set_option maxHeartbeats 2000000 in
theorem AMA (G:Nat→AV) (op:Int) (h:Hp):PCall (En G) 254 [.int .i64 op] h (.int .i64 (arity op)):=by
 refine CE (H:=Hint.none) (enM G) Tryz.func254 rfl (by kernel_rfl) (by kernel_rfl) (nLb (by kernel_rfl)) ?_
 show awp _ _ _ _ _ (D9 _ [.tmp 2] _)
 have hcase:op < 1∨op > 25∨op=1∨op=2∨op=3∨op=4∨op=5∨op=6∨op=7∨op=8∨op=9∨op=10∨op=11∨op=12∨op=13∨op=14∨op=15∨op=16∨op=17∨op=18∨op=19∨op=20∨op=21∨op=22∨op=23∨op=24∨op=25:=by omega
 rcases hcase with h | h | rfl | rfl | rfl | rfl | rfl | rfl | rfl | rfl | rfl | rfl | rfl | rfl | rfl | rfl | rfl | rfl | rfl | rfl | rfl | rfl | rfl | rfl | rfl | rfl | rfl
 ·have hne : ∀ k:Int,1≤k→(op == k)=false:=fun k hk=>beq_eq_false_iff_ne.2 (by omega)
  have hd:decide (op < 1)=true:=by simp; omega
  have ha:arity op = -1:=by unfold arity; rw [if_pos (Or.inl h)]
  rw [ha]
  simp -implicitDefEqProofs only [BC,BV,BA,BR,BK,BL,A8,CX,EP,CP,DU,D5,AY,BB,BH,BN,CO,FP,AO,AQ,AL,BD,AX,AC,AA,EJ,AZ,AU,BI,BJ,BG,A7,CQ,DR,BU,AB,DX,DT,BF,↓reduceIte,Nat.reduceEqDiff,oGs,bNf,enP,hne 1 (by decide),hne 2 (by decide),hne 3 (by decide),hne 4 (by decide),hne 5 (by decide),hne 6 (by decide),hne 7 (by decide),hne 8 (by decide),hne 9 (by decide),hne 10 (by decide),hne 11 (by decide),hne 12 (by decide),hne 13 (by decide),hne 14 (by decide),hne 15 (by decide),hne 16 (by decide),hne 17 (by decide),hne 18 (by decide),hne 19 (by decide),hne 20 (by decide),hne 21 (by decide),hne 22 (by decide),hne 23 (by decide),hne 24 (by decide),hne 25 (by decide),hd]
  exact ⟨trivial,trivial⟩
 ·have hne : ∀ k:Int,k≤25→(op == k)=false:=fun k hk=>beq_eq_false_iff_ne.2 (by omega)
  have hd:decide (op < 1)=false:=by simp; omega
  have hd2:decide (op > 25)=true:=by simp; omega
  have ha:arity op = -1:=by unfold arity; rw [if_pos (Or.inr h)]
  rw [ha]
  simp -implicitDefEqProofs only [BC,BV,BA,BR,BK,BL,A8,CX,EP,CP,DU,D5,AY,BB,BH,BN,CO,EG,AO,AQ,AL,BD,AX,AC,AA,AZ,AU,BI,BJ,BG,A7,CQ,DN,BU,AB,DX,DT,FU,BF,↓reduceIte,Nat.reduceEqDiff,oGs,bNf,enP,hne 1 (by decide),hne 2 (by decide),hne 3 (by decide),hne 4 (by decide),hne 5 (by decide),hne 6 (by decide),hne 7 (by decide),hne 8 (by decide),hne 9 (by decide),hne 10 (by decide),hne 11 (by decide),hne 12 (by decide),hne 13 (by decide),hne 14 (by decide),hne 15 (by decide),hne 16 (by decide),hne 17 (by decide),hne 18 (by decide),hne 19 (by decide),hne 20 (by decide),hne 21 (by decide),hne 22 (by decide),hne 23 (by decide),hne 24 (by decide),hne 25 (by decide),hd,hd2]
  exact ⟨trivial,trivial⟩
 all_goals
  simp -implicitDefEqProofs only [BC,BV,BA,BR,BK,BL,A8,CX,ED,CP,DU,D5,AY,BB,AO,AQ,AL,BD,AX,AC,AA,AZ,AU,BI,BG,A7,BU,AB,DX,BF,↓reduceIte,Nat.reduceEqDiff,oGs,bNf,enP,Int.reduceBEq,Int.reduceLT,Int.reduceGT]
  exact ⟨rfl,trivial⟩
def KI (op:Int):Bool:=op == 2 || op == 3 || op == 24
theorem WH (G:Nat→AV) (op:Int) (h:Hp):PCall (En G) 246 [.int .i64 op] h (.bool (KI op)):=by
 refine CE (H:=Hint.none) (enM G) Tryz.func246 rfl (by kernel_rfl) (by kernel_rfl) (nLb (by kernel_rfl)) ?_
 show awp _ _ _ _ _ (D9 _ [.tmp 2] _)
 simp -implicitDefEqProofs only [BC,BA,A8,AY,BB,BH,BN,CO,AO,AQ,AL,BD,AX,AC,AA,AZ,AU,BI,BJ,BG,A7,BU,AB,DX,BF,↓reduceIte,Nat.reduceEqDiff,oGs,bNf,enP]
 cases ha:(op == 2) <;> cases hb:(op == 3)
 all_goals
  simp -implicitDefEqProofs only [BK,A8,CP,AY,BB,BH,BN,CO,EG,FP,AO,AQ,AL,BD,AX,AC,AA,EJ,AZ,AU,BI,BJ,BG,A7,CQ,DR,DN,BU,AB,DX,BF,↓reduceIte,Nat.reduceEqDiff,oGs,bNf,enP,ha,hb]
  exact ⟨by simp [KI,ha,hb],trivial⟩
def WF (op:Int) (n:Nat):Bool:=if op == 23 then ((n:Int) % 2 == 1) && decide ((n:Int)≥3) && decide ((n:Int)≤33) else ((n:Int) == arity op)
theorem AA0 (G:Nat→AV) (e:Ex) (h:Hp):PCall (En G) 231 [.agg (EH e)] h (.bool (WF e.op e.args.length)):=by
 refine ACalls.pure0 rfl ?_
 refine CE (H:=Hint.none) (enM G) Tryz.func231 rfl (by kernel_rfl) (by kernel_rfl) (nLb (by kernel_rfl)) ?_
 show awp _ _ _ _ _ (D9 _ [.tmp 2] _)
 simp -implicitDefEqProofs only [BC,BA,BL,A8,AY,BB,AO,AQ,AL,BD,AX,AC,AA,AZ,AU,BI,BJ,A7,FX,BQ,BU,BM,D8,BX,AB,DX,BF,↓reduceIte,Nat.reduceEqDiff,Nat.add_zero,Nat.zero_add,oGs,bNf,enP,AC4,H6,O7,bxE,DJ AGW,DJ ag3,XV,JF,lLm]
 generalize he:e.args.length=n
 have hm:(n:Int).tmod 2=(n:Int) % 2:=Int.tmod_eq_emod_of_nonneg (by omega)
 have b1:IZ Tryz.prog 3 .rem (.int .i64 (n:Int)) (.int .i64 2)=some (.int .i64 ((n:Int) % 2)):=by rw [AKF _ _ _ _ _ (by decide),hm]
 refine DC (fun hc => ?_) (fun hc => ?_)
 ·simp -implicitDefEqProofs only [BC,BA,AY,BH,BN,CO,AO,AQ,AL,BD,AX,AC,AA,AZ,AU,BI,BG,BU,AB,DX,↓reduceIte,Nat.reduceEqDiff,oGs,bNf,enP,b1]
  cases ha:((n:Int) % 2 == 1) <;> cases hb:decide ((n:Int)≥3)
  all_goals
   simp -implicitDefEqProofs only [BK,A8,CX,CP,AY,BB,BH,BN,CO,FV,G5,AO,AQ,AL,BD,AX,AC,AA,EJ,AZ,AU,BI,BJ,BG,A7,CQ,DR,DN,BU,AB,IV,G6,↓reduceIte,Nat.reduceEqDiff,oGs,bNf,enP,ha,hb]
   exact ⟨by unfold WF; rw [if_pos hc,ha,hb]; simp,_,rfl⟩
 ·simp -implicitDefEqProofs only [BC,BA,BR,A8,AY,AO,AQ,AL,BD,AX,AC,AA,AZ,CB,BG,BQ,BM,CG,BP,AB,lMc,lMn,lAn,↓reduceIte,Nat.reduceEqDiff,Nat.add_zero,oGs,bNf,enP,H6,DJ ag3,JF]
  refine (AIP G e.op _).use ?_
  simp -implicitDefEqProofs only [BK,A8,CP,AY,BB,AO,AQ,AL,BD,AX,AC,AA,AZ,A7,BU,AB,DX,↓reduceIte,Nat.reduceEqDiff,oGs,bNf,enP]
  exact ⟨by unfold WF; rw [if_neg (by rw [hc]; decide)],_,rfl⟩
end Go.Proofs.YtocilianjfhifaaGreatDoor.Cov
namespace Go.Proofs.YtocilianjfhifaaGreatDoor.Cov
open Sm Bins Go.Shelf Go.RowKit
def AO5:Go.Shelf.Ren:=⟨fun | 145=>290 | 220=>304 | 219=>305 | 217=>306 | 225=>307 | 224=>308 | 267=>309 | 266=>310 | 314=>311 | n=>n,fun | 9=>9 | 4=>4 | 59=>261 | 3=>3 | 5=>5 | 46=>269 | 146=>273 | 51=>272 | n=>n,fun | 1=>1 | n=>n⟩
theorem AYR:Go.Proofs.Lays.n145 Tryz.prog AO5 := {
 mixed:=by kernel_rfl,
 f145:=Tryz.func290.trans (congrArg some (by kernel_rfl)),
 f217:=Tryz.func306.trans (congrArg some (by kernel_rfl)),
 f219:=Tryz.func305.trans (congrArg some (by kernel_rfl)),
 f220:=Tryz.func304.trans (congrArg some (by kernel_rfl)),
 f224:=Tryz.func308.trans (congrArg some (by kernel_rfl)),
 f225:=Tryz.func307.trans (congrArg some (by kernel_rfl)),
 f266:=Tryz.func310.trans (congrArg some (by kernel_rfl)),
 f267:=Tryz.func309.trans (congrArg some (by kernel_rfl)),
 f314:=Tryz.func311.trans (congrArg some (by kernel_rfl)),
 t3:=Tryz.underlying3,
 a3:=Tryz.isAgg3,
 z3:=Tryz.sizeOf3,
 v3:=Tryz.zeroValue3,
 t4:=Tryz.underlying4,
 a4:=Tryz.isAgg4,
 z4:=Tryz.sizeOf4,
 v4:=Tryz.zeroValue4,
 t5:=Tryz.underlying5,
 a5:=Tryz.isAgg5,
 z5:=Tryz.sizeOf5,
 v5:=Tryz.zeroValue5,
 t9:=Tryz.underlying9,
 a9:=Tryz.isAgg9,
 z9:=Tryz.sizeOf9,
 v9:=Tryz.zeroValue9,
 t46:=Tryz.underlying269,
 a46:=Tryz.isAgg269,
 z46:=Tryz.sizeOf269,
 v46:=Tryz.zeroValue269,
 t51:=Tryz.underlying272,
 a51:=Tryz.isAgg272,
 z51:=Tryz.sizeOf272,
 v51:=Tryz.zeroValue272,
 t59:=Tryz.underlying261,
 a59:=Tryz.isAgg261,
 z59:=Tryz.sizeOf261,
 v59:=Tryz.zeroValue261,
 t146:=Tryz.underlying273,
 a146:=Tryz.isAgg273,
 z146:=Tryz.sizeOf273,
 v146:=Tryz.zeroValue273,
 g1:=by kernel_rfl }
structure GOk (G:Nat→AV):Prop where
 kw:KwG G
 mx : ∃ n,G 1 = .fptr 1 [[.int .i64 n]] 0 0
theorem AOE {G:Nat→AV} {g:Gh} {h:Hp} {w:World} {n:Nat} {k:IntKind} {z:Int} (S:SimH (En G) g h w) (hn:G n = .fptr 1 [[.int k z]] 0 0):w.cell? ⟨n,0,none⟩=some (.int k z):=by
 have:=S.glob n
 rw [enG,hn] at this
 generalize hp:Value.pointer (some ⟨n,0,none⟩)=p at this
 cases this with
 | fptr k' xs i j cb co c e fz cv h1 h2 h3 h4 =>
   simp only [Value.pointer.injEq,Option.some.injEq,Addr.mk.injEq] at hp
   obtain ⟨rfl,hco,_⟩:=hp
   have h5:=h3 0 0 (by simp) (by simp)
   have h6:=h4 0 0 _ _ rfl rfl
   generalize cv 0 0=u at h5 h6
   cases h6
   simp only [World.cell?,S.fro _ _ h1]
   subst hco
   exact h5
def cutV (s:ByteArray):AV := .tup [.str ⟨(Lib.cut s.data.toList [91]).1.toArray⟩,.str ⟨(Lib.cut s.data.toList [91]).2.1.toArray⟩,.bool (Lib.cut s.data.toList [91]).2.2]
theorem AO4 (G:Nat→AV) (hG:GOk G) (s:ByteArray) (h:Hp) (hl:s.size≤1048576):PCall (En G) 290 [.str s,.str ⟨#[91]⟩] h (cutV s):=by
 refine PCall.of_reads (cok 290 G (by kernel_rfl)) fun g w cargs S ha => ?_
 obtain ⟨hsz,hget⟩:=ha
 obtain ⟨cv0,cv1,rfl⟩ : ∃ a b,cargs = #[a,b]:=by
  obtain ⟨l⟩:=cargs
  match l,hsz with
  | [a,b],_=>exact ⟨a,b,rfl⟩
 obtain rfl:=(hget 0 _ cv0 rfl rfl).str_inv
 obtain rfl:=(hget 1 _ cv1 rfl rfl).str_inv
 obtain ⟨z,hz⟩:=hG.mx
 have hc:=AOE S hz
 have:=Any.strings_Cut AYR s ⟨#[91]⟩ z w (by omega) hc
 refine ⟨_,?_,this⟩
 refine .tup _ _ rfl ?_
 intro i v cv h1 h2
 match i,h1,h2 with
 | 0,h1,h2=>simp at h1 h2; subst h1; subst h2; exact .str _ _
 | 1,h1,h2=>simp at h1 h2; subst h1; subst h2; exact .str _ _
 | 2,h1,h2=>simp at h1 h2; subst h1; subst h2; exact .bool _ _
def NM (s:ByteArray):Option (List UInt8 × UInt8) :=
 if 4≤s.data.toList.length then match s.data.toList.drop (s.data.toList.length - 3) with
  | [x,d,y]=>if (y == 93 && x == 91 && decide (48≤d.toNat) && decide (d.toNat < 56) && GK ⟨(s.data.toList.take (s.data.toList.length - 3)).toArray⟩)=true then some (s.data.toList.take (s.data.toList.length - 3),d) else none
  | _=>none
 else none
def elemV (o:Option (List UInt8 × UInt8)):AV:=match o with
 | some (a,d) => .tup [.str ⟨a.toArray⟩,.int .i64 ((d.toNat:Int) - 48),.bool true]
 | none => .tup [.str ⟨#[]⟩,.int .i64 0,.bool false]
theorem AJQ {l:List UInt8} (h:GK ⟨l.toArray⟩=true):l≠[]∧∀ b∈l,b≠91:=by
 have hw:P8 ⟨l.toArray⟩=true:=by
  unfold GK at h
  exact (Bool.and_eq_true_iff.1 (Bool.and_eq_true_iff.1 h).1).1
 unfold P8 at hw
 obtain ⟨h1,h2⟩:=Bool.and_eq_true_iff.1 hw
 refine ⟨?_,?_⟩
 ·intro e; subst e; cases h1
 ·intro b hb e
  subst e
  have:=List.all_eq_true.1 h2 91 hb
  revert this; decide
theorem three {l:List UInt8} (h:3≤l.length) : ∃ a x d y,l=a ++ [x,d,y]:=by
 refine ⟨l.take (l.length - 3),?_⟩
 have h1:(l.drop (l.length - 3)).length=3:=by simp; omega
 match hm:l.drop (l.length - 3),h1 with
 | [x,d,y],_=>exact ⟨x,d,y,by rw [← hm,List.take_append_drop]⟩
theorem Z9 {a:List UInt8} {x d y:UInt8} (ha:a≠[]):NM ⟨(a ++ [x,d,y]).toArray⟩=if (y == 93 && x == 91 && decide (48≤d.toNat) && decide (d.toNat < 56) && GK ⟨a.toArray⟩)=true then some (a,d) else none:=by
 have hl:0 < a.length:=List.length_pos_iff.2 ha
 unfold NM
 simp only
 rw [if_pos (by simp; omega)]
 have e:(a ++ [x,d,y]).length - 3=a.length:=by simp
 rw [e,List.drop_left,List.take_left]
theorem AOY (s:ByteArray):NM s=if ((Lib.cut s.data.toList [91]).2.2 && GK ⟨(Lib.cut s.data.toList [91]).1.toArray⟩)=true then match (Lib.cut s.data.toList [91]).2.1 with
  | [d,y]=>if (y == 93 && decide (48≤d.toNat) && decide (d.toNat < 56))=true then some ((Lib.cut s.data.toList [91]).1,d) else none
  | _=>none
 else none:=by
 obtain ⟨⟨l⟩⟩:=s
 have hocc : ∀ i,Lib.occAt l [91] i=true↔l[i]? = some 91:=by
  intro i
  unfold Lib.occAt
  rcases Nat.lt_or_ge i l.length with h | h
  ·rw [List.drop_eq_getElem_cons h,List.getElem?_eq_getElem h]
   simp [List.isPrefixOf]
   exact eq_comm
  ·rw [List.drop_eq_nil_of_le h,List.getElem?_eq_none h]; simp [List.isPrefixOf]
 -- an element name of the reference's kind
 have main : ∀ a d,a≠[]→GK ⟨a.toArray⟩=true→l=a ++ [91,d,93]→Lib.cut l [91]=(a,[d,93],true):=by
  intro a d ha hn hl
  obtain ⟨_,hne⟩:=AJQ hn
  have hi:Lib.index l [91]=(a.length:Int):=by
   refine Lib.index_first (by rw [hl]; simp) ((hocc _).2 (by rw [hl]; simp)) fun j hj => ?_
   rw [← Bool.not_eq_true,hocc,hl,List.getElem?_append_left hj,List.getElem?_eq_getElem hj]
   intro e
   exact hne _ (List.getElem_mem hj) (Option.some.inj e)
  unfold Lib.cut
  rw [hi,if_pos (by omega),Int.toNat_natCast,hl,List.take_left,← List.drop_drop,List.drop_left]
  rfl
 show NM ⟨l.toArray⟩=_
 rcases hcase:NM ⟨l.toArray⟩ with _ | ⟨a,d⟩
 ·symm
  show (if _ then _ else none)=none
  simp only
  split
  ·rename_i hb
   rw [Bool.and_eq_true] at hb
   split
   ·rename_i d y hm
    split
    ·rename_i hd
     exfalso
     simp only [Bool.and_eq_true,beq_iff_eq,decide_eq_true_eq] at hd
     obtain ⟨⟨rfl,hd1⟩,hd2⟩:=hd
     obtain ⟨ha,_⟩:=AJQ hb.2
     have hc:Lib.cut l [91]=((Lib.cut l [91]).1,[d,93],true):=by
      rw [← hm]; have:=hb.1; cases hcc:Lib.cut l [91] with
      | mk p q=>cases q with
        | mk q1 q2=>rw [hcc] at this; simp at this; subst this; rfl
     have hl:l=(Lib.cut l [91]).1 ++ [91,d,93]:=by
      generalize (Lib.cut l [91]).1=b at hc
      unfold Lib.cut at hc
      split at hc
      ·rename_i h0
       obtain ⟨i,hi⟩ : ∃ i:Nat,Lib.index l [91]=i:=⟨(Lib.index l [91]).toNat,by omega⟩
       rw [hi] at hc
       simp only [Int.toNat_natCast,Prod.mk.injEq,List.length_singleton] at hc
       rcases Lib.index_spec l [91] with ⟨h1,_⟩ | ⟨j,h1,_,h3,_⟩
       ·omega
       ·have hj:i=j:=by omega
        subst hj
        have h4:=(hocc i).1 h3
        have h5:i < l.length:=(List.getElem?_eq_some_iff.1 h4).1
        have h6:l[i]=91:=by rw [List.getElem?_eq_getElem h5] at h4; exact Option.some.inj h4
        rw [← hc.1]
        calc l=l.take i ++ l.drop i:=(List.take_append_drop i l).symm
         _=l.take i ++ (l[i] :: l.drop (i+1)):=by rw [List.drop_eq_getElem_cons h5]
         _=l.take i ++ [91,d,93]:=by rw [h6,hc.2.1]
      ·simp at hc
     have:=Z9 (x:=91) (d:=d) (y:=93) ha
     rw [← hl,hcase,if_pos (by simp [hb.2,hd1,hd2])] at this
     cases this
    ·rfl
   ·rfl
  ·rfl
 ·have h4:4≤l.length:=by
   unfold NM at hcase
   simp only at hcase
   split at hcase
   ·assumption
   ·cases hcase
  obtain ⟨b,x,d',y,rfl⟩:=three (show 3≤l.length by omega)
  have hb:b≠[]:=by intro e; subst e; simp at h4
  rw [Z9 hb] at hcase
  split at hcase
  ·rename_i hc
   cases hcase
   simp only [Bool.and_eq_true,beq_iff_eq,decide_eq_true_eq] at hc
   obtain ⟨⟨⟨⟨rfl,rfl⟩,h1⟩,h2⟩,h3⟩:=hc
   simp only
   rw [main a d hb h3 rfl]
   simp [h3,h1,h2]
  ·cases hcase
end Go.Proofs.YtocilianjfhifaaGreatDoor.Cov
set_option linter.unusedSimpArgs false
set_option maxRecDepth 8000
namespace Go.Proofs.YtocilianjfhifaaGreatDoor.Cov
open Sm Bins Go.RowKit
theorem ASI (l:List UInt8):(Lib.cut l [91]).1.length≤l.length:=by
 unfold Lib.cut
 split
 ·simp only [List.length_take]; exact Nat.min_le_right _ _
 ·exact Nat.le_refl _
theorem ixl {l:List UInt8} {k:Nat} {b:UInt8} {i:Int} (hi:i=(k:Int)) (hb:l[k]? = some b):LU Tryz.prog 9 (.str ⟨l.toArray⟩) (.int .i64 i)=some (.int .u8 b.toNat):=by
 subst hi
 have hk:k < l.length:=(List.getElem?_eq_some_iff.1 hb).1
 have:=ix9 ⟨l.toArray⟩ k .i64 hk
 rw [this]
 have h2:(⟨l.toArray⟩:ByteArray)[k]'hk=l[k]:=rfl
 rw [h2]
 rw [List.getElem?_eq_getElem hk] at hb
 rw [Option.some.inj hb]
theorem szl (l:List UInt8):(⟨l.toArray⟩:ByteArray).size=l.length:=rfl
theorem wrap_u8 {n:Int} (h0:0≤n) (h1:n < 256):IntKind.u8.wrap n=n:=by
 unfold IntKind.wrap; simp [IntKind.bits,IntKind.signed]; omega
theorem ADQ (G:Nat→AV) (hG:GOk G) (s:ByteArray) (h:Hp) (hl:s.size≤1048576):PCall (En G) 259 [.str s] h (elemV (NM s)):=by
 refine CE (H:=Hint.none) (enM G) Tryz.func259 rfl (by kernel_rfl) (by kernel_rfl) (nLb (by kernel_rfl)) ?_
 show awp _ _ _ _ _ (D9 _ [.tmp 2,.tmp 3,.tmp 4] _)
 simp -implicitDefEqProofs only [BC,BA,A8,AY,BB,AO,AQ,AL,BD,AX,AC,AA,AZ,AU,CB,BI,BJ,GZ,BG,A7,CG,BP,BF,lMc,lMn,lAn,↓reduceIte,Nat.reduceEqDiff,oGs,bNf,enP]
 refine (AO4 G hG s h hl).use ?_
 have he:=AOY s
 have hal:=ASI s.data.toList
 unfold cutV
 generalize Lib.cut s.data.toList [91]=c at he hal ⊢
 obtain ⟨a,b,f⟩:=c
 have hal2:a.length≤s.size:=by simpa using hal
 simp -implicitDefEqProofs only [List.getElem?_cons_zero,List.getElem?_cons_succ,BC,BA,A8,AY,BB,BH,BN,CO,AO,AQ,AL,BD,AX,AC,AA,AZ,BG,A7,GV,FT,IG,AB,EX,↓reduceIte,Nat.reduceEqDiff,oGs,bNf]
 cases f
 ·simp -implicitDefEqProofs only [BC,BA,BK,BL,A8,CX,MM,DU,AY,BB,BH,BN,CO,FP,AO,AQ,AL,BD,AX,AC,AA,EJ,AZ,AU,BI,BJ,GZ,BG,A7,CQ,DR,↓reduceIte,Nat.reduceEqDiff,oGs,bNf]
  exact ⟨by rw [he]; rfl,trivial⟩
 simp -implicitDefEqProofs only [BH,BN,CO,EG,AO,AQ,AL,BD,AX,AC,AA,AZ,CB,BG,CG,BP,lMc,lMn,lAn,↓reduceIte,Nat.reduceEqDiff,oGs,bNt,bNf]
 refine (L6 G hG.kw ⟨a.toArray⟩ h (by rw [szl]; omega)).use ?_
 simp -implicitDefEqProofs only [AY,BH,BN,CO,EG,AO,AQ,AL,BD,AX,AC,AA,AZ,AU,BJ,BG,CQ,DN,GV,AB,EX,↓reduceIte,Nat.reduceEqDiff,oGs,bNf]
 cases hn:GK ⟨a.toArray⟩
 ·simp -implicitDefEqProofs only [BC,BA,BK,BL,A8,CX,MM,DU,AY,BB,BH,BN,CO,FP,AO,AQ,AL,BD,AX,AC,AA,EJ,AZ,AU,BI,BJ,GZ,BG,A7,CQ,DR,↓reduceIte,Nat.reduceEqDiff,oGs,bNf]
  exact ⟨by rw [he]; simp [hn]; rfl,trivial⟩
 simp -implicitDefEqProofs only [AY,BH,BN,CO,EG,AO,AQ,AL,BD,AX,AC,AA,AZ,AU,BI,BJ,BG,CQ,DN,BU,D8,AB,EQ,↓reduceIte,Nat.reduceEqDiff,oGs,bNt,bNf,enP,ln9,szl]
 refine GU (fun hb => ?_) (fun hb => ?_)
 ·simp -implicitDefEqProofs only [BC,BA,BK,BL,A8,CX,MM,DU,AY,BB,BH,BN,CO,FP,AO,AQ,AL,BD,AX,AC,AA,EJ,AZ,AU,BI,BJ,GZ,BG,A7,CQ,DR,↓reduceIte,Nat.reduceEqDiff,oGs,bNf,hb]
  have hne : ∀ d y,b≠[d,y]:=by
   intro d y e; subst e; simp at hb
  have:NM s=none:=by
   rw [he]; split
   ·split
    ·rename_i hm; exact absurd hm (hne _ _)
    ·rfl
   ·rfl
  exact ⟨by rw [this]; rfl,trivial⟩
 have h2:b.length=2:=by simp at hb; omega
 match b,h2 with
 | [d,y],_ =>
   have i1:LU Tryz.prog 9 (.str ⟨[d,y].toArray⟩) (.int .i64 1)=some (.int .u8 y.toNat):=ixl (k:=1) rfl rfl
   have i0:LU Tryz.prog 9 (.str ⟨[d,y].toArray⟩) (.int .i64 0)=some (.int .u8 d.toNat):=ixl (k:=0) rfl rfl
   have he2:NM s=if (y == 93 && decide (48≤d.toNat) && decide (d.toNat < 56))=true then some (a,d) else none:=by
    rw [he]; simp [hn]
   clear he
   simp -implicitDefEqProofs only [AY,BH,BN,CO,EG,AO,AQ,AL,BD,AX,AC,AA,AZ,AU,BI,BJ,BG,CQ,DN,BU,MF,AB,EQ,↓reduceIte,Nat.reduceEqDiff,oGs,bNf,enP,hb,i1,i0]
   refine GU (fun hc => ?_) (fun hc => ?_)
   ·simp -implicitDefEqProofs only [BC,BA,BK,BL,A8,CX,MM,DU,AY,BB,BH,BN,CO,FP,AO,AQ,AL,BD,AX,AC,AA,EJ,AZ,AU,BI,BJ,GZ,BG,A7,CQ,DR,↓reduceIte,Nat.reduceEqDiff,oGs,bNf,hc]
    have hy:(y == 93)=false:=by
     rw [← Bool.not_eq_true]; intro e; rw [beq_iff_eq] at e; subst e; simp at hc
    exact ⟨by rw [he2,hy]; rfl,trivial⟩
   have hy:(y == 93)=true:=by
    rw [beq_iff_eq,← UInt8.toNat_inj]
    simp at hc; show y.toNat=93; omega
   simp -implicitDefEqProofs only [AY,BH,BN,CO,EG,AO,AQ,AL,BD,AX,AC,AA,AZ,AU,BI,BJ,BG,CQ,DN,BU,MF,AB,DT,↓reduceIte,Nat.reduceEqDiff,oGs,bNf,enP,hc,i0]
   refine GU (fun hd => ?_) (fun hd => ?_)
   ·simp -implicitDefEqProofs only [BC,BA,BK,BL,A8,CX,MM,DU,AY,BB,BH,BN,CO,FP,AO,AQ,AL,BD,AX,AC,AA,EJ,AZ,AU,BI,BJ,GZ,A7,CQ,DR,↓reduceIte,Nat.reduceEqDiff,oGs,bNf,hd]
    have:decide (48≤d.toNat)=false:=by simp at hd ⊢; omega
    exact ⟨by rw [he2,this]; simp; rfl,trivial⟩
   have hd1:48≤d.toNat:=by simp at hd; omega
   simp -implicitDefEqProofs only [BL,A8,AY,BB,BH,BN,CO,EG,AO,AQ,AL,BD,AX,AC,AA,AZ,AU,BI,BJ,BG,CQ,DN,BU,MF,AB,G6,↓reduceIte,Nat.reduceEqDiff,oGs,bNf,enP,hd,i0]
   refine DC (fun hf => ?_) (fun hf => ?_)
   ·simp -implicitDefEqProofs only [BC,BA,BK,A8,CX,MM,AY,BB,AO,AQ,AL,BD,AX,AC,AA,AU,BI,BJ,GZ,A7,↓reduceIte,Nat.reduceEqDiff,oGs,bNf]
    have:decide (d.toNat < 56)=false:=by simp at hf ⊢; omega
    exact ⟨by rw [he2,this]; simp; rfl,trivial⟩
   have hd2:d.toNat < 56:=by simp at hf; omega
   simp -implicitDefEqProofs only [BC,BR,A8]
   refine F7 (by kernel_rfl) ?_
   simp -implicitDefEqProofs only [GR,EU,D7,FZ,EW,G7,J5,LW,AMP,ACR,BK,A8,MM,AO,AA,AZ,AU,BI,BJ,BU,V8,MF,AB,NH,↓reduceIte,Nat.reduceEqDiff,Nat.reduceAdd,oGs,enP,AO3,i0,wrap_u8 (n:=(d.toNat:Int) - 48) (by omega) (by omega),wrap_i64 (n:=(d.toNat:Int) - 48) (by omega) (by omega)]
   exact ⟨by rw [he2]; simp [hy,hd1,hd2]; rfl,trivial⟩
theorem AT8 {s:ByteArray} {u:Nat} {h:Hp} (hu:u≤s.size):KT Tryz.prog h 9 (.str s) none (some (.int .i64 (u:Int))) none=some (.str (s.extract 0 u)):=by
 have:Tryz.prog.underlying 9=some .string:=by kernel_rfl
 simp [KT,this,IX,hu]
theorem AR6 (a b:List UInt8):(⟨(a ++ b).toArray⟩:ByteArray).extract 0 a.length=⟨a.toArray⟩:=by
 ext1
 simp
set_option maxHeartbeats 1000000 in
theorem AKU (G:Nat→AV) (s:ByteArray) (h:Hp) (hl:s.size≤1099511627776):PCall (En G) 289 [.str s] h (elemV (NM s)):=by
 refine CE (H:=Hint.none) (enM G) Tryz.func289 rfl (by kernel_rfl) (by kernel_rfl) (nLb (by kernel_rfl)) ?_
 show awp _ _ _ _ _ (D9 _ [.tmp 2,.tmp 3,.tmp 4] _)
 obtain ⟨⟨l⟩⟩:=s
 rw [szl] at hl
 rcases Nat.lt_or_ge l.length 4 with h4 | h4
 ·have hd:decide ((l.length:Int) < 4)=true:=by simp; omega
  simp -implicitDefEqProofs only [BC,BA,BK,BL,A8,CX,MM,DU,AY,BB,BH,BN,CO,FP,AO,AQ,AL,BD,AX,AC,AA,EJ,AZ,AU,BI,BJ,GZ,BG,A7,CQ,DR,BU,D8,AB,DT,BF,↓reduceIte,Nat.reduceEqDiff,oGs,bNf,enP,ln9,szl,hd]
  have:NM ⟨l.toArray⟩=none:=by
   unfold NM; rw [if_neg]; simp; omega
  exact ⟨by rw [this]; rfl,trivial⟩
 obtain ⟨b,x,d,y,rfl⟩:=three (show 3≤l.length by omega)
 have hlen:(b ++ [x,d,y]).length=b.length+3:=by simp
 rw [hlen] at hl h4
 have hbl:0 < b.length:=by omega
 have hb:b≠[]:=List.length_pos_iff.1 hbl
 have he:=Z9 (x:=x) (d:=d) (y:=y) hb
 generalize hn:GK ⟨b.toArray⟩=nm at he
 have i1:LU Tryz.prog 9 (.str ⟨(b ++ [x,d,y]).toArray⟩) (.int .i64 ((b.length:Int)+2))=some (.int .u8 y.toNat):=ixl (k:=b.length+2) (by omega) (by simp)
 have i2:LU Tryz.prog 9 (.str ⟨(b ++ [x,d,y]).toArray⟩) (.int .i64 ((b.length:Int)+1))=some (.int .u8 d.toNat):=ixl (k:=b.length+1) (by omega) (by simp)
 have i3:LU Tryz.prog 9 (.str ⟨(b ++ [x,d,y]).toArray⟩) (.int .i64 (b.length:Int))=some (.int .u8 x.toNat):=ixl (k:=b.length) rfl (by simp)
 have i4:=AT8 (s:=⟨(b ++ [x,d,y]).toArray⟩) (u:=b.length) (h:=h) (by rw [szl]; omega)
 rw [AR6] at i4
 have hsz:(⟨(b ++ [x,d,y]).toArray⟩:ByteArray).size=b.length+3:=by rw [szl,hlen]
 generalize (⟨(b ++ [x,d,y]).toArray⟩:ByteArray)=s at *
 have w1:IntKind.i64.wrap (((b.length+3:Nat):Int) - 1)=(b.length:Int)+2:=by rw [wrap_i64 (by omega) (by omega)]; omega
 have w2:IntKind.i64.wrap (((b.length+3:Nat):Int) - 2)=(b.length:Int)+1:=by rw [wrap_i64 (by omega) (by omega)]; omega
 have w3:IntKind.i64.wrap (((b.length+3:Nat):Int) - 3)=(b.length:Int):=by rw [wrap_i64 (by omega) (by omega)]; omega
 have hd8:d.toNat < 256:=d.toNat_lt
 have w4:IntKind.i64.wrap (d.toNat:Int)=(d.toNat:Int):=wrap_i64 (by omega) (by omega)
 have w5:IntKind.i64.wrap ((d.toNat:Int) - 48)=(d.toNat:Int) - 48:=wrap_i64 (by omega) (by omega)
 have ha:decide (((b.length+3:Nat):Int) < 4)=false:=by simp; omega
 simp -implicitDefEqProofs only [BC,BA,A8,AY,BB,BH,BN,CO,EG,AO,AQ,AL,BD,AX,AC,AA,AZ,AU,BI,BJ,GZ,BG,A7,CQ,DN,BU,MF,D8,AB,NH,EQ,DT,BF,↓reduceIte,Nat.reduceEqDiff,oGs,bNf,enP,ln9,hsz,ha,w1,w2,w3,i1,i2,i3,i4]
 refine GU (fun hc => ?_) (fun hc => ?_)
 ·simp -implicitDefEqProofs only [BC,BA,BK,BL,A8,CX,MM,DU,AY,BB,BH,BN,CO,FP,AO,AQ,AL,BD,AX,AC,AA,EJ,AZ,AU,BI,BJ,GZ,A7,CQ,DR,↓reduceIte,Nat.reduceEqDiff,oGs,bNf,hc]
  have hy:(y == 93)=false:=by
   rw [← Bool.not_eq_true]; intro e; rw [beq_iff_eq] at e; subst e; simp at hc
  exact ⟨by rw [he,hy]; simp; rfl,trivial⟩
 have hy:(y == 93)=true:=by
  rw [beq_iff_eq,← UInt8.toNat_inj]
  simp at hc; show y.toNat=93; omega
 simp -implicitDefEqProofs only [BL,A8,AY,BB,BH,BN,CO,EG,AO,AQ,AL,BD,AX,AC,AA,AZ,AU,BI,BJ,BG,CQ,DN,BU,MF,D8,AB,NH,EQ,BF,↓reduceIte,Nat.reduceEqDiff,oGs,bNf,enP,ln9,hsz,hc,w1,w2,w3,i1,i2,i3,i4]
 refine DC (fun hd => ?_) (fun hd => ?_)
 ·simp -implicitDefEqProofs only [BC,BA,BK,A8,CX,MM,AY,BB,AO,AQ,AL,BD,AX,AC,AA,AU,BI,BJ,GZ,A7,↓reduceIte,Nat.reduceEqDiff,oGs,bNf]
  have hx:(x == 91)=false:=by
   rw [← Bool.not_eq_true]; intro e; rw [beq_iff_eq] at e; subst e; simp at hd
  exact ⟨by rw [he,hx]; simp; rfl,trivial⟩
 have hx:(x == 91)=true:=by
  rw [beq_iff_eq,← UInt8.toNat_inj]
  simp at hd; show x.toNat=91; omega
 simp -implicitDefEqProofs only [Option.map_some,Option.map_none,BC,BA,BR,A8,AY,BB,BH,BN,CO,AO,AQ,AL,BD,AX,AC,AA,AZ,AU,BI,BG,A7,BU,V8,YH,MF,D8,AB,NH,DT,BF,↓reduceIte,Nat.reduceEqDiff,oGs,bNf,enP,ln9,AO3,hsz,w1,w2,w3,i1,i2,i3,i4,w4,w5]
 refine GU (fun hf => ?_) (fun hf => ?_)
 ·simp -implicitDefEqProofs only [BC,BA,BK,BL,A8,CX,MM,DU,AY,BB,BH,BN,CO,FP,AO,AQ,AL,BD,AX,AC,AA,EJ,AZ,AU,BI,BJ,GZ,BG,A7,CQ,DR,↓reduceIte,Nat.reduceEqDiff,oGs,bNf,hf]
  have:decide (48≤d.toNat)=false:=by simp at hf ⊢; omega
  exact ⟨by rw [he,this]; simp; rfl,trivial⟩
 have hd1:48≤d.toNat:=by simp at hf; omega
 simp -implicitDefEqProofs only [AY,BH,BN,CO,EG,AO,AQ,AL,BD,AX,AC,AA,AZ,AU,BI,BJ,BG,CQ,DN,BU,AB,G6,↓reduceIte,Nat.reduceEqDiff,oGs,bNf,enP,hf]
 refine GU (fun hf => ?_) (fun hf => ?_)
 ·simp -implicitDefEqProofs only [BC,BA,BK,BL,A8,CX,MM,DU,AY,BB,BH,BN,CO,FP,AO,AQ,AL,BD,AX,AC,AA,EJ,AZ,AU,BI,BJ,GZ,A7,CQ,DR,↓reduceIte,Nat.reduceEqDiff,oGs,bNf,hf]
  have:decide (d.toNat < 56)=false:=by simp at hf ⊢; omega
  exact ⟨by rw [he,this]; simp; rfl,trivial⟩
 have hd2:d.toNat < 56:=by simp at hf; omega
 simp -implicitDefEqProofs only [BH,BN,CO,EG,AO,AQ,AL,BD,AX,AC,AA,AZ,CB,BG,CG,BP,lMc,lMn,lAn,↓reduceIte,Nat.reduceEqDiff,oGs,bNf,hf]
 refine (U0 G ⟨b.toArray⟩ h).use ?_
 simp -implicitDefEqProofs only [BL,A8,AY,BB,BH,BN,CO,EG,AO,AQ,AL,BD,AX,AC,AA,AZ,AU,BJ,CQ,DN,GV,AB,EX,↓reduceIte,Nat.reduceEqDiff,oGs,bNf,hn]
 cases nm
 ·simp -implicitDefEqProofs only [BC,BA,BK,A8,CX,MM,DU,AY,BB,AO,AQ,AL,BD,AX,AC,AA,AU,BI,BJ,GZ,A7,↓reduceIte,Nat.reduceEqDiff,oGs,bNf]
  exact ⟨by rw [he]; simp; rfl,trivial⟩
 ·simp -implicitDefEqProofs only [BC,BA,BR,BK,A8,MM,D5,AY,BB,AO,AQ,AL,BD,AX,AC,AA,AZ,AU,BJ,BG,A7,↓reduceIte,Nat.reduceEqDiff,oGs,bNt,bNf]
  exact ⟨by rw [he]; simp [hy,hx,hd1,hd2]; rfl,trivial⟩
def P5 (s:ByteArray):Bool:=(NM s).isSome || GK s
theorem Z8 (o:Option (List UInt8 × UInt8)) : ∃ a n,elemV o = .tup [.str a,.int .i64 n,.bool o.isSome]:=by
 cases o with
 | none=>exact ⟨_,_,rfl⟩
 | some x=>exact ⟨_,_,rfl⟩
theorem AH1 (G:Nat→AV) (hG:GOk G) (s:ByteArray) (h:Hp) (hl:s.size≤1048576):PCall (En G) 232 [.str s] h (.bool (P5 s)):=by
 refine CE (H:=Hint.none) (enM G) Tryz.func232 rfl (by kernel_rfl) (by kernel_rfl) (nLb (by kernel_rfl)) ?_
 show awp _ _ _ _ _ (D9 _ [.tmp 2] _)
 simp -implicitDefEqProofs only [BC,BA,A8,AY,BB,AO,AQ,AL,BD,AX,AC,AA,AZ,AU,CB,BJ,BG,A7,CG,BP,BF,lMc,lMn,lAn,↓reduceIte,Nat.reduceEqDiff,oGs,bNf,enP]
 refine (ADQ G hG s h hl).use ?_
 obtain ⟨a,n,e⟩:=Z8 (NM s)
 rw [e]
 simp -implicitDefEqProofs only [List.getElem?_cons_zero,List.getElem?_cons_succ,BC,BA,A8,AY,BB,BH,BN,CO,AO,AQ,AL,BD,AX,AC,AA,AZ,BG,A7,FT,IG,AB,↓reduceIte,Nat.reduceEqDiff,oGs,bNf]
 cases hs:(NM s).isSome
 ·simp -implicitDefEqProofs only [BH,BN,CO,EG,AO,AQ,AL,BD,AX,AC,AA,AZ,CB,BG,CG,BP,BF,lMc,lMn,lAn,↓reduceIte,Nat.reduceEqDiff,oGs,bNf]
  refine (L6 G hG.kw s h (by omega)).use ?_
  simp -implicitDefEqProofs only [BK,A8,CP,AY,BB,AO,AQ,AL,BD,AX,AC,AA,AZ,AU,BJ,A7,CQ,DN,↓reduceIte,Nat.reduceEqDiff,oGs,bNf]
  exact ⟨by unfold P5; rw [hs]; rfl,trivial⟩
 ·simp -implicitDefEqProofs only [BK,A8,CP,AY,BB,BH,BN,CO,FP,AO,AQ,AL,BD,AX,AC,AA,EJ,AZ,AU,BJ,A7,CQ,DR,↓reduceIte,Nat.reduceEqDiff,oGs,bNf]
  exact ⟨by unfold P5; rw [hs]; rfl,trivial⟩
theorem ALG (G:Nat→AV) (s:ByteArray) (h:Hp) (hl:s.size≤1048576):PCall (En G) 255 [.str s] h (.bool (P5 s)):=by
 refine CE (H:=Hint.none) (enM G) Tryz.func255 rfl (by kernel_rfl) (by kernel_rfl) (nLb (by kernel_rfl)) ?_
 show awp _ _ _ _ _ (D9 _ [.tmp 2] _)
 simp -implicitDefEqProofs only [BC,BA,A8,AY,BB,AO,AQ,AL,BD,AX,AC,AA,AZ,AU,CB,BJ,BG,A7,CG,BP,BF,lMc,lMn,lAn,↓reduceIte,Nat.reduceEqDiff,oGs,bNf,enP]
 refine (AKU G s h (by omega)).use ?_
 obtain ⟨a,n,e⟩:=Z8 (NM s)
 rw [e]
 simp -implicitDefEqProofs only [List.getElem?_cons_zero,List.getElem?_cons_succ,BC,BA,A8,AY,BB,BH,BN,CO,AO,AQ,AL,BD,AX,AC,AA,AZ,BG,A7,FT,IG,AB,↓reduceIte,Nat.reduceEqDiff,oGs,bNf]
 cases hs:(NM s).isSome
 ·simp -implicitDefEqProofs only [BH,BN,CO,EG,AO,AQ,AL,BD,AX,AC,AA,AZ,CB,BG,CG,BP,BF,lMc,lMn,lAn,↓reduceIte,Nat.reduceEqDiff,oGs,bNf]
  refine (U0 G s h).use ?_
  simp -implicitDefEqProofs only [BK,A8,CP,AY,BB,AO,AQ,AL,BD,AX,AC,AA,AZ,AU,BJ,A7,CQ,DN,↓reduceIte,Nat.reduceEqDiff,oGs,bNf]
  exact ⟨by unfold P5; rw [hs]; rfl,trivial⟩
 ·simp -implicitDefEqProofs only [BK,A8,CP,AY,BB,BH,BN,CO,FP,AO,AQ,AL,BD,AX,AC,AA,EJ,AZ,AU,BJ,A7,CQ,DR,↓reduceIte,Nat.reduceEqDiff,oGs,bNf]
  exact ⟨by unfold P5; rw [hs]; rfl,trivial⟩
end Go.Proofs.YtocilianjfhifaaGreatDoor.Cov
