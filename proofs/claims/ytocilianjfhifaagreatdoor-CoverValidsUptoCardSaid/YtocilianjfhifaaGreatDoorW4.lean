/- Part 4 of the proof (Ft, B1, B2, B3, B4, B5, B6, B7, E1, E2, E3); no condition. -/
import Derived.Test.YtocilianjfhifaaGreatDoorProg
import Derived.KernelRfl
import Derived.Laws.RangeAny
import Derived.Shelf.Strings.Cut
import Derived.Lib.IndexMore
import Derived.Test.YtocilianjfhifaaGreatDoorW3
set_option linter.unusedVariables false
namespace Go.Proofs.YtocilianjfhifaaGreatDoor.Sm

theorem sz3:szO Tryz.prog 3=some 1:=by kernel_rfl
theorem ag3:KY Tryz.prog 3=some false:=by kernel_rfl
theorem sz4:szO Tryz.prog 4=some 1:=by kernel_rfl
theorem ag4:KY Tryz.prog 4=some false:=by kernel_rfl
theorem sz9:szO Tryz.prog 9=some 1:=by kernel_rfl
theorem ag9:KY Tryz.prog 9=some false:=by kernel_rfl
theorem TQ:KY Tryz.prog 22=some false:=by kernel_rfl
theorem ACS:KY Tryz.prog 23=some false:=by kernel_rfl
theorem AOQ:szO Tryz.prog 25=some 2:=by kernel_rfl
theorem AWS:KY Tryz.prog 25=some true:=by kernel_rfl
theorem AMN:szO Tryz.prog 26=some 1:=by kernel_rfl
theorem OM:KY Tryz.prog 26=some false:=by kernel_rfl
theorem AMM:szO Tryz.prog 28=some 4:=by kernel_rfl
theorem AZJ:KY Tryz.prog 28=some true:=by kernel_rfl
theorem AVJ:szO Tryz.prog 38=some 1:=by kernel_rfl
theorem ARH:KY Tryz.prog 38=some false:=by kernel_rfl
theorem AOP:szO Tryz.prog 47=some 1:=by kernel_rfl
theorem AZI:KY Tryz.prog 47=some true:=by kernel_rfl
theorem AF5:KY Tryz.prog 51=some false:=by kernel_rfl
theorem WI:szO Tryz.prog 53=some 4:=by kernel_rfl
theorem AAK:KY Tryz.prog 53=some true:=by kernel_rfl
theorem O5:KY Tryz.prog 54=some false:=by kernel_rfl
theorem UF:szO Tryz.prog 56=some 6:=by kernel_rfl
theorem YG:KY Tryz.prog 56=some true:=by kernel_rfl
theorem XM:szO Tryz.prog 57=some 1:=by kernel_rfl
theorem L8:KY Tryz.prog 57=some false:=by kernel_rfl
theorem AXA:szO Tryz.prog 58=some 1:=by kernel_rfl
theorem AKK:KY Tryz.prog 58=some false:=by kernel_rfl
theorem WH:szO Tryz.prog 71=some 3:=by kernel_rfl
theorem ZI:KY Tryz.prog 71=some true:=by kernel_rfl
theorem AUY:szO Tryz.prog 118=some 1:=by kernel_rfl
theorem OI:KY Tryz.prog 118=some false:=by kernel_rfl
theorem SS:KY Tryz.prog 119=some false:=by kernel_rfl
theorem PI:szO Tryz.prog 121=some 4:=by kernel_rfl
theorem TU:KY Tryz.prog 121=some true:=by kernel_rfl
theorem AUX:szO Tryz.prog 133=some 2:=by kernel_rfl
theorem AZM:KY Tryz.prog 133=some true:=by kernel_rfl
theorem AUW:szO Tryz.prog 146=some 1:=by kernel_rfl
theorem AOS:szO Tryz.prog 179=some 1:=by kernel_rfl
theorem AEP:KY Tryz.prog 179=some false:=by kernel_rfl
theorem AK6:szO Tryz.prog 185=some 2:=by kernel_rfl
theorem AVA:KY Tryz.prog 185=some true:=by kernel_rfl
theorem AOR:szO Tryz.prog 187=some 2:=by kernel_rfl
theorem AZL:KY Tryz.prog 187=some true:=by kernel_rfl
theorem AUU:szO Tryz.prog 195=some 1:=by kernel_rfl
theorem AZK:KY Tryz.prog 195=some true:=by kernel_rfl
theorem be4 : ∀ p q,JB Tryz.prog 4 .eql (.bool p) (.bool q)=some (.bool (p == q)):=fun p q=>AQ4 Tryz.prog 4 p q (by kernel_rfl)
theorem ln9 : ∀ s,LW Tryz.prog 9 (.str s)=some (.int .i64 s.size):=ATC (by kernel_rfl:Tryz.prog.underlying 9=some .string)
theorem OJ : ∀ h a i,G7 Tryz.prog h 22 a i=JK 6 h a i:=JA (by kernel_rfl:Tryz.prog.underlying 22=some (.slice 56)) UF
theorem PM:(∀ m k xs,LW Tryz.prog 22 (.sl m k xs)=some (.int .i64 xs.length))∧∀ b off len,LW Tryz.prog 22 (.own b off len)=some (.int .i64 len):=PU (by kernel_rfl:Tryz.prog.underlying 22=some (.slice 56))
theorem AZ2:Tryz.prog.underlying 22=some (.slice 56):=by kernel_rfl
theorem XV : ∀ h a i,G7 Tryz.prog h 23 a i=JK 3 h a i:=JA (by kernel_rfl:Tryz.prog.underlying 23=some (.slice 71)) WH
theorem UA:(∀ m k xs,LW Tryz.prog 23 (.sl m k xs)=some (.int .i64 xs.length))∧∀ b off len,LW Tryz.prog 23 (.own b off len)=some (.int .i64 len):=PU (by kernel_rfl:Tryz.prog.underlying 23=some (.slice 71))
theorem IC:(∀ b i j,DY Tryz.prog 25 (.ptr b i j) 0=some (.ptr b i (j+0)))∧(∀ k xs i j,DY Tryz.prog 25 (.fptr k xs i j) 0=some (.fptr k xs i (j+0))):=J5 (by kernel_rfl:MM Tryz.prog 25 0 0=true)
theorem JW:(∀ b i j,DY Tryz.prog 25 (.ptr b i j) 1=some (.ptr b i (j+1)))∧(∀ k xs i j,DY Tryz.prog 25 (.fptr k xs i j) 1=some (.fptr k xs i (j+1))):=J5 (by kernel_rfl:MM Tryz.prog 25 1 1=true)
theorem OX : ∀ h a i,G7 Tryz.prog h 26 a i=JK 1 h a i:=JA (by kernel_rfl:Tryz.prog.underlying 26=some (.slice 57)) XM
theorem QT:(∀ m k xs,LW Tryz.prog 26 (.sl m k xs)=some (.int .i64 xs.length))∧∀ b off len,LW Tryz.prog 26 (.own b off len)=some (.int .i64 len):=PU (by kernel_rfl:Tryz.prog.underlying 26=some (.slice 57))
theorem AC2:Tryz.prog.underlying 26=some (.slice 57):=by kernel_rfl
theorem AGB:UB Tryz.prog 57=some 1:=by kernel_rfl
theorem ADF:ND Tryz.prog 57=some 24:=by kernel_rfl
theorem MC:(∀ b i j,DY Tryz.prog 28 (.ptr b i j) 0=some (.ptr b i (j+0)))∧(∀ k xs i j,DY Tryz.prog 28 (.fptr k xs i j) 0=some (.fptr k xs i (j+0))):=J5 (by kernel_rfl:MM Tryz.prog 28 0 0=true)
theorem MN:(∀ b i j,DY Tryz.prog 28 (.ptr b i j) 1=some (.ptr b i (j+1)))∧(∀ k xs i j,DY Tryz.prog 28 (.fptr k xs i j) 1=some (.fptr k xs i (j+1))):=J5 (by kernel_rfl:MM Tryz.prog 28 1 1=true)
theorem W9:(∀ b i j,DY Tryz.prog 28 (.ptr b i j) 2=some (.ptr b i (j+2)))∧(∀ k xs i j,DY Tryz.prog 28 (.fptr k xs i j) 2=some (.fptr k xs i (j+2))):=J5 (by kernel_rfl:MM Tryz.prog 28 2 2=true)
theorem Y5:(∀ b i j,DY Tryz.prog 28 (.ptr b i j) 3=some (.ptr b i (j+3)))∧(∀ k xs i j,DY Tryz.prog 28 (.fptr k xs i j) 3=some (.fptr k xs i (j+3))):=J5 (by kernel_rfl:MM Tryz.prog 28 3 3=true)
theorem O3:(∀ b i j,DY Tryz.prog 47 (.ptr b i j) 0=some (.ptr b i (j+0)))∧(∀ k xs i j,DY Tryz.prog 47 (.fptr k xs i j) 0=some (.fptr k xs i (j+0))):=J5 (by kernel_rfl:MM Tryz.prog 47 0 0=true)
theorem AJS : ∀ h a i,G7 Tryz.prog h 51 a i=JK 4 h a i:=JA (by kernel_rfl:Tryz.prog.underlying 51=some (.slice 53)) WI
theorem AC6:(∀ m k xs,LW Tryz.prog 51 (.sl m k xs)=some (.int .i64 xs.length))∧∀ b off len,LW Tryz.prog 51 (.own b off len)=some (.int .i64 len):=PU (by kernel_rfl:Tryz.prog.underlying 51=some (.slice 53))
theorem IL:(∀ b i j,DY Tryz.prog 53 (.ptr b i j) 0=some (.ptr b i (j+0)))∧(∀ k xs i j,DY Tryz.prog 53 (.fptr k xs i j) 0=some (.fptr k xs i (j+0))):=J5 (by kernel_rfl:MM Tryz.prog 53 0 0=true)
theorem Y4:(∀ b i j,DY Tryz.prog 53 (.ptr b i j) 1=some (.ptr b i (j+1)))∧(∀ k xs i j,DY Tryz.prog 53 (.fptr k xs i j) 1=some (.fptr k xs i (j+1))):=J5 (by kernel_rfl:MM Tryz.prog 53 1 1=true)
theorem LG:(∀ b i j,DY Tryz.prog 53 (.ptr b i j) 2=some (.ptr b i (j+2)))∧(∀ k xs i j,DY Tryz.prog 53 (.fptr k xs i j) 2=some (.fptr k xs i (j+2))):=J5 (by kernel_rfl:MM Tryz.prog 53 2 2=true)
theorem O1:(∀ b i j,DY Tryz.prog 53 (.ptr b i j) 3=some (.ptr b i (j+3)))∧(∀ k xs i j,DY Tryz.prog 53 (.fptr k xs i j) 3=some (.fptr k xs i (j+3))):=J5 (by kernel_rfl:MM Tryz.prog 53 3 3=true)
theorem WV : ∀ h a i,G7 Tryz.prog h 54 a i=JK 4 h a i:=JA (by kernel_rfl:Tryz.prog.underlying 54=some (.slice 121)) PI
theorem OV:(∀ m k xs,LW Tryz.prog 54 (.sl m k xs)=some (.int .i64 xs.length))∧∀ b off len,LW Tryz.prog 54 (.own b off len)=some (.int .i64 len):=PU (by kernel_rfl:Tryz.prog.underlying 54=some (.slice 121))
theorem AFJ:(∀ b i j,DY Tryz.prog 56 (.ptr b i j) 0=some (.ptr b i (j+0)))∧(∀ k xs i j,DY Tryz.prog 56 (.fptr k xs i j) 0=some (.fptr k xs i (j+0))):=J5 (by kernel_rfl:MM Tryz.prog 56 0 0=true)
theorem Y3:(∀ b i j,DY Tryz.prog 56 (.ptr b i j) 1=some (.ptr b i (j+1)))∧(∀ k xs i j,DY Tryz.prog 56 (.fptr k xs i j) 1=some (.fptr k xs i (j+1))):=J5 (by kernel_rfl:MM Tryz.prog 56 1 1=true)
theorem H9:(∀ b i j,DY Tryz.prog 56 (.ptr b i j) 2=some (.ptr b i (j+5)))∧(∀ k xs i j,DY Tryz.prog 56 (.fptr k xs i j) 2=some (.fptr k xs i (j+5))):=J5 (by kernel_rfl:MM Tryz.prog 56 2 5=true)
theorem JL : ∀ h a i,G7 Tryz.prog h 57 a i=JK 1 h a i:=JA (by kernel_rfl:Tryz.prog.underlying 57=some (.slice 3)) sz3
theorem I8:(∀ m k xs,LW Tryz.prog 57 (.sl m k xs)=some (.int .i64 xs.length))∧∀ b off len,LW Tryz.prog 57 (.own b off len)=some (.int .i64 len):=PU (by kernel_rfl:Tryz.prog.underlying 57=some (.slice 3))
theorem TW:Tryz.prog.underlying 57=some (.slice 3):=by kernel_rfl
theorem XF:UB Tryz.prog 3=some 1:=by kernel_rfl
theorem V4:ND Tryz.prog 3=some 8:=by kernel_rfl
theorem AV7 : ∀ h a i,G7 Tryz.prog h 58 a i=JK 2 h a i:=JA (by kernel_rfl:Tryz.prog.underlying 58=some (.slice 187)) AOR
theorem ATB:(∀ m k xs,LW Tryz.prog 58 (.sl m k xs)=some (.int .i64 xs.length))∧∀ b off len,LW Tryz.prog 58 (.own b off len)=some (.int .i64 len):=PU (by kernel_rfl:Tryz.prog.underlying 58=some (.slice 187))
theorem AM8 : ∀ h a i,G7 Tryz.prog h 64 a i=JK 1 h a i:=JA (by kernel_rfl:Tryz.prog.underlying 64=some (.slice 58)) AXA
theorem AHO:(∀ m k xs,LW Tryz.prog 64 (.sl m k xs)=some (.int .i64 xs.length))∧∀ b off len,LW Tryz.prog 64 (.own b off len)=some (.int .i64 len):=PU (by kernel_rfl:Tryz.prog.underlying 64=some (.slice 58))
theorem AZ1:Tryz.prog.underlying 64=some (.slice 58):=by kernel_rfl
theorem AZY:UB Tryz.prog 58=some 1:=by kernel_rfl
theorem A0N:ND Tryz.prog 58=some 24:=by kernel_rfl
theorem AFI:(∀ b i j,DY Tryz.prog 71 (.ptr b i j) 0=some (.ptr b i (j+0)))∧(∀ k xs i j,DY Tryz.prog 71 (.fptr k xs i j) 0=some (.fptr k xs i (j+0))):=J5 (by kernel_rfl:MM Tryz.prog 71 0 0=true)
theorem J3:(∀ b i j,DY Tryz.prog 71 (.ptr b i j) 1=some (.ptr b i (j+1)))∧(∀ k xs i j,DY Tryz.prog 71 (.fptr k xs i j) 1=some (.fptr k xs i (j+1))):=J5 (by kernel_rfl:MM Tryz.prog 71 1 1=true)
theorem QO:(∀ b i j,DY Tryz.prog 71 (.ptr b i j) 2=some (.ptr b i (j+2)))∧(∀ k xs i j,DY Tryz.prog 71 (.fptr k xs i j) 2=some (.fptr k xs i (j+2))):=J5 (by kernel_rfl:MM Tryz.prog 71 2 2=true)
theorem ATF : ∀ h a i,G7 Tryz.prog h 84 a i=JK 1 h a i:=JA (by kernel_rfl:Tryz.prog.underlying 84=some (.slice 4)) sz4
theorem AZ0:Tryz.prog.underlying 84=some (.slice 4):=by kernel_rfl
theorem A0M:ND Tryz.prog 4=some 1:=by kernel_rfl
theorem ABW : ∀ h a i,G7 Tryz.prog h 118 a i=JK 2 h a i:=JA (by kernel_rfl:Tryz.prog.underlying 118=some (.slice 185)) AK6
theorem QL:(∀ m k xs,LW Tryz.prog 118 (.sl m k xs)=some (.int .i64 xs.length))∧∀ b off len,LW Tryz.prog 118 (.own b off len)=some (.int .i64 len):=PU (by kernel_rfl:Tryz.prog.underlying 118=some (.slice 185))
theorem ZV : ∀ h a i,G7 Tryz.prog h 119 a i=JK 1 h a i:=JA (by kernel_rfl:Tryz.prog.underlying 119=some (.slice 118)) AUY
theorem PW:(∀ m k xs,LW Tryz.prog 119 (.sl m k xs)=some (.int .i64 xs.length))∧∀ b off len,LW Tryz.prog 119 (.own b off len)=some (.int .i64 len):=PU (by kernel_rfl:Tryz.prog.underlying 119=some (.slice 118))
theorem AAX:(∀ b i j,DY Tryz.prog 121 (.ptr b i j) 0=some (.ptr b i (j+0)))∧(∀ k xs i j,DY Tryz.prog 121 (.fptr k xs i j) 0=some (.fptr k xs i (j+0))):=J5 (by kernel_rfl:MM Tryz.prog 121 0 0=true)
theorem MW:(∀ b i j,DY Tryz.prog 121 (.ptr b i j) 1=some (.ptr b i (j+1)))∧(∀ k xs i j,DY Tryz.prog 121 (.fptr k xs i j) 1=some (.fptr k xs i (j+1))):=J5 (by kernel_rfl:MM Tryz.prog 121 1 1=true)
theorem PE:(∀ b i j,DY Tryz.prog 121 (.ptr b i j) 2=some (.ptr b i (j+2)))∧(∀ k xs i j,DY Tryz.prog 121 (.fptr k xs i j) 2=some (.fptr k xs i (j+2))):=J5 (by kernel_rfl:MM Tryz.prog 121 2 2=true)
theorem MV:(∀ b i j,DY Tryz.prog 121 (.ptr b i j) 3=some (.ptr b i (j+3)))∧(∀ k xs i j,DY Tryz.prog 121 (.fptr k xs i j) 3=some (.fptr k xs i (j+3))):=J5 (by kernel_rfl:MM Tryz.prog 121 3 3=true)
theorem ATQ:(∀ b i j,DY Tryz.prog 133 (.ptr b i j) 0=some (.ptr b i (j+0)))∧(∀ k xs i j,DY Tryz.prog 133 (.fptr k xs i j) 0=some (.fptr k xs i (j+0))):=J5 (by kernel_rfl:MM Tryz.prog 133 0 0=true)
theorem ALZ:(∀ b i j,DY Tryz.prog 133 (.ptr b i j) 1=some (.ptr b i (j+1)))∧(∀ k xs i j,DY Tryz.prog 133 (.fptr k xs i j) 1=some (.fptr k xs i (j+1))):=J5 (by kernel_rfl:MM Tryz.prog 133 1 1=true)
theorem AUS:Tryz.prog.underlying 143=some (.slice 146):=by kernel_rfl
theorem AOD:UB Tryz.prog 146=some 1:=by kernel_rfl
theorem AQT:ND Tryz.prog 146=some 24:=by kernel_rfl
theorem APG:(∀ m k xs,LW Tryz.prog 146 (.sl m k xs)=some (.int .i64 xs.length))∧∀ b off len,LW Tryz.prog 146 (.own b off len)=some (.int .i64 len):=PU (by kernel_rfl:Tryz.prog.underlying 146=some (.slice 4))
theorem AW8:Tryz.prog.underlying 146=some (.slice 4):=by kernel_rfl
theorem AD2 : ∀ h a i,G7 Tryz.prog h 179 a i=JK 1 h a i:=JA (by kernel_rfl:Tryz.prog.underlying 179=some (.slice 9)) sz9
theorem ZT:(∀ m k xs,LW Tryz.prog 179 (.sl m k xs)=some (.int .i64 xs.length))∧∀ b off len,LW Tryz.prog 179 (.own b off len)=some (.int .i64 len):=PU (by kernel_rfl:Tryz.prog.underlying 179=some (.slice 9))
theorem AOL:Tryz.prog.underlying 179=some (.slice 9):=by kernel_rfl
theorem AOC:UB Tryz.prog 9=some 1:=by kernel_rfl
theorem AQS:ND Tryz.prog 9=some 16:=by kernel_rfl
theorem AFM:(∀ b i j,DY Tryz.prog 181 (.ptr b i j) 0=some (.ptr b i (j+0)))∧(∀ k xs i j,DY Tryz.prog 181 (.fptr k xs i j) 0=some (.fptr k xs i (j+0))):=J5 (by kernel_rfl:MM Tryz.prog 181 0 0=true)
theorem AFL:(∀ b i j,DY Tryz.prog 181 (.ptr b i j) 1=some (.ptr b i (j+1)))∧(∀ k xs i j,DY Tryz.prog 181 (.fptr k xs i j) 1=some (.fptr k xs i (j+1))):=J5 (by kernel_rfl:MM Tryz.prog 181 1 1=true)
theorem X0:(∀ b i j,DY Tryz.prog 181 (.ptr b i j) 2=some (.ptr b i (j+2)))∧(∀ k xs i j,DY Tryz.prog 181 (.fptr k xs i j) 2=some (.fptr k xs i (j+2))):=J5 (by kernel_rfl:MM Tryz.prog 181 2 2=true)
theorem ALY:(∀ b i j,DY Tryz.prog 181 (.ptr b i j) 3=some (.ptr b i (j+3)))∧(∀ k xs i j,DY Tryz.prog 181 (.fptr k xs i j) 3=some (.fptr k xs i (j+3))):=J5 (by kernel_rfl:MM Tryz.prog 181 3 3=true)
theorem AFK:(∀ b i j,DY Tryz.prog 181 (.ptr b i j) 4=some (.ptr b i (j+4)))∧(∀ k xs i j,DY Tryz.prog 181 (.fptr k xs i j) 4=some (.fptr k xs i (j+4))):=J5 (by kernel_rfl:MM Tryz.prog 181 4 4=true)
theorem VW:(∀ b i j,DY Tryz.prog 185 (.ptr b i j) 0=some (.ptr b i (j+0)))∧(∀ k xs i j,DY Tryz.prog 185 (.fptr k xs i j) 0=some (.fptr k xs i (j+0))):=J5 (by kernel_rfl:MM Tryz.prog 185 0 0=true)
theorem VU:(∀ b i j,DY Tryz.prog 185 (.ptr b i j) 1=some (.ptr b i (j+1)))∧(∀ k xs i j,DY Tryz.prog 185 (.fptr k xs i j) 1=some (.fptr k xs i (j+1))):=J5 (by kernel_rfl:MM Tryz.prog 185 1 1=true)
theorem ALX:(∀ b i j,DY Tryz.prog 187 (.ptr b i j) 0=some (.ptr b i (j+0)))∧(∀ k xs i j,DY Tryz.prog 187 (.fptr k xs i j) 0=some (.fptr k xs i (j+0))):=J5 (by kernel_rfl:MM Tryz.prog 187 0 0=true)
theorem ALW:(∀ b i j,DY Tryz.prog 187 (.ptr b i j) 1=some (.ptr b i (j+1)))∧(∀ k xs i j,DY Tryz.prog 187 (.fptr k xs i j) 1=some (.fptr k xs i (j+1))):=J5 (by kernel_rfl:MM Tryz.prog 187 1 1=true)
theorem ATP:(∀ b i j,DY Tryz.prog 195 (.ptr b i j) 0=some (.ptr b i (j+0)))∧(∀ k xs i j,DY Tryz.prog 195 (.fptr k xs i j) 0=some (.fptr k xs i (j+0))):=J5 (by kernel_rfl:MM Tryz.prog 195 0 0=true)
theorem AYG : ∀ n,VF Tryz.prog 3 5 (.int .i64 n)=some (.int .u8 (IntKind.u8.wrap n)):=fun n=>YB (ds := .int .i64) Tryz.prog .i64 n (by kernel_rfl) (by kernel_rfl)
theorem ATY : ∀ n,VF Tryz.prog 3 252 (.int .i64 n)=some (.int .u16 (IntKind.u16.wrap n)):=fun n=>YB (ds := .int .i64) Tryz.prog .i64 n (by kernel_rfl) (by kernel_rfl)
theorem AQN : ∀ n,VF Tryz.prog 5 3 (.int .u8 n)=some (.int .i64 (IntKind.i64.wrap n)):=fun n=>YB (ds := .int .u8) Tryz.prog .u8 n (by kernel_rfl) (by kernel_rfl)
theorem ATZ : ∀ n,VF Tryz.prog 252 3 (.int .u16 n)=some (.int .i64 (IntKind.i64.wrap n)):=fun n=>YB (ds := .int .u16) Tryz.prog .u16 n (by kernel_rfl) (by kernel_rfl)
noncomputable def En (G:Nat→AV):Env:=⟨Tryz.prog,G⟩
theorem enP (G:Nat→AV):(En G).P=Tryz.prog:=rfl
theorem enG (G:Nat→AV):(En G).G=G:=rfl
theorem enM (G:Nat→AV):(En G).P.follows .mixedOrders=true:=by kernel_rfl
end Go.Proofs.YtocilianjfhifaaGreatDoor.Sm
namespace Go.Proofs.YtocilianjfhifaaGreatDoor.Bins
open Sm
structure Rng where
 lo:Int
 hi:Int
 deriving DecidableEq
def encR (r:Rng):List AV := [.int .i64 r.lo,.int .i64 r.hi]
theorem ACE (r:Rng):(encR r).length=2:=rfl
theorem WB (r:Rng):(encR r)[0]? = some (.int .i64 r.lo):=rfl
theorem WA (r:Rng):(encR r)[1]? = some (.int .i64 r.hi):=rfl
def inside (xs:List Rng) (v:Int):Bool:=xs.any fun r=>decide (r.lo≤v) && decide (v≤r.hi)
theorem KJ {α:Type} (p:α→Bool) (xs:List α) (k:Nat) (h:k < xs.length):(xs.drop k).any p=(p xs[k] || (xs.drop (k+1)).any p):=by
 rw [List.drop_eq_getElem_cons h,List.any_cons]
theorem bxR (h:Hp) (r:Rng):PQ h (.agg (encR r))=some (.ptr h.length 0 0,h ++ [.live 2 [encR r]]):=rfl
end Go.Proofs.YtocilianjfhifaaGreatDoor.Bins
set_option linter.unusedSimpArgs false
set_option maxRecDepth 8000
namespace Go.Proofs.YtocilianjfhifaaGreatDoor.Bins
open Sm
def bad (r:Rng):Bool:=decide (r.lo < 0) || decide (r.lo > r.hi) || decide (r.hi > 65535)
def I9 (xs:List Rng):Int:=if xs.length > 64 then 2 else if xs.any bad then 1 else 0
theorem ZR {xs:List Rng} (h:xs.length > 64):I9 xs=2:=by simp [I9,h]
theorem UT {xs:List Rng} (h : ¬ xs.length > 64) (hb:xs.any bad=true):I9 xs=1:=by simp [I9,h,hb]
theorem WQ {xs:List Rng} (h : ¬ xs.length > 64) (hb:xs.any bad=false):I9 xs=0:=by simp [I9,h,hb]
theorem A0W (h:Hp):J9 Tryz.prog h 185=some (.ptr h.length 0 0,h ++ [.live 2 [[.int .i64 0,.int .i64 0]]]):=JZ (row := [.int .i64 0,.int .i64 0]) (by kernel_rfl)
theorem AZ3 (h:Hp) (r:Rng) (row:List AV) (hr:row.length=2):FX Tryz.prog (h ++ [.live 2 [row]]) 185 (.ptr h.length 0 0) (.agg (encR r))=some (h ++ [.live 2 [encR r]]):=by
 rw [MP (cs:=encR r) rfl AK6 (by simp [hr,encR])]
 simp [splice,hr,encR]
theorem AG7 (G:Nat→AV) (xs:List Rng) (m:SM) (h:Hp) (hl:xs.length≤1099511627776) :
  PCall (En G) 203 [.sl m 2 (xs.map encR)] h (.int .i64 (I9 xs)):=by
 refine ACalls.pure0 rfl ?_
 refine CE (H:=Hint.none) (enM G) Tryz.func203 rfl (by kernel_rfl) (by kernel_rfl) (nLb (by kernel_rfl)) ?_
 show awp _ _ _ _ _ (EJ _ [.tmp 2] _)
 simp -implicitDefEqProofs only [BC,BA,BI,A8,AY,BB,AO,AQ,AL,BD,AX,AC,AA,AZ,AU,BH,BG,A7,BQ,DZ,AB,EZ,BF,↓reduceIte,Nat.reduceEqDiff,oGs,bNf,enP,QL,lLm]
 refine CV (fun hc => ?_) (fun hc => ?_)
 ·simp -implicitDefEqProofs only [BC,BA,BL,A8,CQ,CJ,AY,BB,AO,AQ,AL,BD,AX,AC,AA,AU,BH,A7,↓reduceIte,oGs,bNf]
  exact ⟨by rw [ZR (by simp at hc; omega)],[],by simp⟩
 simp -implicitDefEqProofs only [BC,BR,BA,BO,A8,AY,BB,AO,AQ,AL,BD,AX,AC,AA,AZ,AU,BH,BG,DZ,AB,BF,↓reduceIte,Nat.reduceEqDiff,oGs,bNf,enP,QL,lLm]
 have h64 : ¬ xs.length > 64:=by simp at hc; omega
 refine DT (fun n F H => ∃ k,n+k=xs.length∧F 8 = .sl m 2 (xs.map encR)∧F 9 = .int .i64 xs.length∧F 10 = .int .i64 (k:Nat)∧(∃ x,H=h ++ x)∧xs.any bad=(xs.drop k).any bad) xs.length ⟨0,by simp,rfl,rfl,rfl,⟨[],by simp⟩,rfl⟩ ?_
 rintro n F H ⟨k,hk,f8,f9,f10,⟨x,rfl⟩,hin⟩
 simp -implicitDefEqProofs only [BC,BA,BI,A8,AY,BB,AO,AQ,AL,BD,AX,AC,AA,AZ,BQ,AB,DC,↓reduceIte,oGs,bNf,enP,f8,f9,f10]
 refine CV (fun hc => ?_) (fun hc => ?_)
 ·have hc':k < xs.length:=by simpa using hc
  have hs:=KJ bad xs k hc'
  simp -implicitDefEqProofs only [BC,BR,BA,BO,A8,AY,BB,BJ,BP,CO,AO,AQ,AL,BD,AX,AC,FC,AA,AZ,AU,BH,BG,FY,BV,ER,BQ,BK,CG,CB,AB,DX,DC,↓reduceIte,Nat.reduceEqDiff,Nat.add_zero,oGs,bNf,enP,ABW,VW,Option.getD_none,f8,f9,f10,D6 hc',FP AVA AK6 ACE hc',A0W,AZ3 _ _ [.int .i64 0,.int .i64 0] rfl,DI ag3,WB,WA]
  rw [hs] at hin
  have fin:bad xs[k]=true→I9 xs=1:=fun hb=>UT h64 (by rw [hin,hb]; rfl)
  have nxt:bad xs[k]=false→xs.any bad=(xs.drop (k+1)).any bad:=fun hb=>by rw [hin,hb]; rfl
  refine G9 (fun ha => ?_) (fun ha => ?_)
  ·simp -implicitDefEqProofs only [BC,BA,BL,BI,A8,CQ,D8,FI,CJ,CY,AY,BB,BJ,BP,CO,FQ,AO,AQ,AL,BD,AX,AC,AA,EP,AZ,AU,BH,BM,BG,A7,CP,DN,↓reduceIte,Nat.reduceEqDiff,oGs,bNf,ha]
   exact ⟨by rw [fin (by unfold bad; rw [ha]; rfl)],_,by rw [List.append_assoc]⟩
  simp -implicitDefEqProofs only [AY,BJ,BP,CO,EM,AO,AQ,AL,BD,AX,AC,AA,AZ,AU,BM,BG,CP,DR,BV,BQ,BK,AB,EZ,↓reduceIte,Nat.reduceEqDiff,Nat.add_zero,Nat.zero_add,oGs,bNf,enP,VW,VU,ha,DI ag3,WB,WA]
  refine G9 (fun hb => ?_) (fun hb => ?_)
  ·simp -implicitDefEqProofs only [BC,BA,BL,BI,A8,CQ,D8,FI,CJ,CY,AY,BB,BJ,BP,CO,FQ,AO,AQ,AL,BD,AX,AC,AA,EP,AZ,AU,BH,BM,A7,CP,DN,↓reduceIte,Nat.reduceEqDiff,oGs,bNf,hb]
   exact ⟨by rw [fin (by unfold bad; rw [hb]; simp)],_,by rw [List.append_assoc]⟩
  simp -implicitDefEqProofs only [BI,A8,AY,BB,BJ,BP,CO,EM,AO,AQ,AL,BD,AX,AC,AA,AZ,AU,BH,BM,CP,DR,BV,BQ,BK,AB,EZ,↓reduceIte,Nat.reduceEqDiff,Nat.zero_add,oGs,bNf,enP,VU,hb,DI ag3,WB,WA]
  refine CV (fun hc => ?_) (fun hc => ?_)
  ·simp -implicitDefEqProofs only [BC,BA,BL,A8,CQ,D8,FI,CJ,AY,BB,AO,AQ,AL,BD,AX,AC,AA,AU,BH,A7,↓reduceIte,oGs,bNf]
   exact ⟨by rw [fin (by unfold bad; rw [hc]; simp)],_,by rw [List.append_assoc]⟩
  ·simp -implicitDefEqProofs only [BA,BO,A8,EE,EN,AY,BB,AO,AQ,AL,BD,AX,AC,AA,AZ,AU,BH,BG,BQ,AB,DF,↓reduceIte,Nat.reduceEqDiff,oGs,bNf,enP,f10,wrap_succ (show k < 9223372036854775807 by omega)]
   exact ⟨n - 1,by omega,k+1,by omega,f8,f9,rfl,⟨_,by rw [List.append_assoc]⟩,nxt (by unfold bad; rw [ha,hb,hc]; rfl)⟩
 ·have hc' : ¬ k < xs.length:=by simpa using hc
  simp -implicitDefEqProofs only [BC,BA,BL,DJ,A8,D9,EX,EW,CJ,AY,BB,AO,AQ,AL,BD,AX,AC,AA,AU,BH,A7,↓reduceIte,oGs,bNf]
  rw [List.drop_eq_nil_of_le (by omega)] at hin
  exact ⟨by rw [WQ h64 hin],_,rfl⟩
theorem AJF (G:Nat→AV) (xs:List Rng) (m:SM) (h:Hp) :
  PCall (En G) 216 [.sl m 2 (xs.map encR)] h (.int .i64 (I9 xs)):=by
 refine CE (H:=Hint.none) (enM G) Tryz.func216 rfl (by kernel_rfl) (by kernel_rfl) (nLb (by kernel_rfl)) ?_
 show awp _ _ _ _ _ (EJ _ [.tmp 2] _)
 simp -implicitDefEqProofs only [BC,BA,BI,A8,AY,BB,AO,AQ,AL,BD,AX,AC,AA,AZ,AU,BH,BG,A7,BQ,DZ,AB,EZ,BF,↓reduceIte,Nat.reduceEqDiff,oGs,bNf,enP,QL,lLm]
 refine CV (fun hc => ?_) (fun hc => ?_)
 ·simp -implicitDefEqProofs only [BC,BA,BL,A8,CQ,CJ,AY,BB,AO,AQ,AL,BD,AX,AC,AA,AU,BH,A7,↓reduceIte,oGs,bNf]
  exact ⟨by rw [ZR (by simp at hc; omega)],trivial⟩
 simp -implicitDefEqProofs only [BC,BR,BA,BO,A8,AY,BB,AO,AQ,AL,BD,AX,AC,AU,BH,A7,oGs,bNf,lLm]
 have h64 : ¬ xs.length > 64:=by simp at hc; omega
 refine DT (fun n F H => ∃ k,n+k=xs.length∧F 0 = .sl m 2 (xs.map encR)∧F 3 = .int .i64 (k:Nat)∧H=h∧xs.any bad=(xs.drop k).any bad) xs.length ⟨0,by simp,rfl,rfl,rfl,rfl⟩ ?_
 rintro n F H ⟨k,hk,f0,f3,rfl,hin⟩
 simp -implicitDefEqProofs only [BC,BA,BI,A8,AY,BB,AO,AQ,AL,BD,AX,AC,AA,AZ,BG,BQ,DZ,AB,DC,↓reduceIte,Nat.reduceEqDiff,oGs,bNf,enP,QL,f0,f3,lLm]
 refine CV (fun hc => ?_) (fun hc => ?_)
 ·have hc':k < xs.length:=by simpa using hc
  rw [KJ bad xs k hc'] at hin
  have fin:bad xs[k]=true→I9 xs=1:=fun hb=>UT h64 (by rw [hin,hb]; rfl)
  have nxt:bad xs[k]=false→xs.any bad=(xs.drop (k+1)).any bad:=fun hb=>by rw [hin,hb]; rfl
  simp -implicitDefEqProofs only [BC,BR,BO,A8]
  refine FB (by kernel_rfl) ?_
  simp -implicitDefEqProofs only [F8,EC,DW,EF,E8,GG,FO,FD,IU,EI,EK,CO,AO,AA,AZ,AU,BH,BV,BQ,BK,CG,AB,DC,↓reduceIte,Nat.reduceEqDiff,Nat.reduceAdd,Nat.add_zero,oGs,enP,ABW,VW,f0,f3,D6 hc',DV ag3 hc',WB,WA]
  refine AIY (fun ha => ?_) (fun ha => ?_)
  ·simp -implicitDefEqProofs only [F8,EC,DW,FK,EF,E8,GG,ACZ,FO,IJ,BC,BA,BL,BI,A8,CQ,D8,FI,CJ,CY,AY,BB,CO,AO,AQ,AL,BD,AX,AC,AA,EP,AZ,AU,BH,BM,A7,CP,DN,↓reduceIte,Nat.reduceEqDiff,Nat.reduceAdd,oGs,bNf,ha]
   exact ⟨by rw [fin (by unfold bad; rw [ha]; rfl)],trivial⟩
  simp -implicitDefEqProofs only [F8,EC,DW,EF,E8,GG,VH,FO,IJ,FD,IU,EI,EK,CO,AO,AA,AZ,AU,BM,CP,DR,BV,BQ,BK,CG,AB,EZ,↓reduceIte,Nat.reduceEqDiff,Nat.reduceAdd,Nat.add_zero,Nat.zero_add,oGs,enP,ABW,VW,VU,ha,f0,f3,D6 hc',DV ag3 hc',WB,WA]
  refine AIY (fun hb => ?_) (fun hb => ?_)
  ·simp -implicitDefEqProofs only [F8,EC,DW,FK,EF,E8,GG,ACZ,IJ,BC,BA,BL,BI,A8,CQ,D8,FI,CJ,CY,AY,BB,CO,AO,AQ,AL,BD,AX,AC,AA,EP,AZ,AU,BH,BM,A7,CP,DN,↓reduceIte,Nat.reduceEqDiff,Nat.reduceAdd,oGs,bNf,hb]
   exact ⟨by rw [fin (by unfold bad; rw [hb]; simp)],trivial⟩
  simp -implicitDefEqProofs only [F8,EC,DW,FK,EF,E8,GG,VH,FO,IJ,FD,IU,EI,EK,BI,A8,CO,AO,AA,AZ,AU,BH,BM,CP,DR,BV,BQ,BK,CG,AB,EZ,↓reduceIte,Nat.reduceEqDiff,Nat.reduceAdd,Nat.zero_add,oGs,enP,ABW,VU,hb,f0,f3,D6 hc',DV ag3 hc',WB,WA]
  refine CV (fun hc => ?_) (fun hc => ?_)
  ·simp -implicitDefEqProofs only [BC,BA,BL,A8,CQ,D8,FI,CJ,AY,BB,AO,AQ,AL,BD,AX,AC,AA,AU,BH,A7,↓reduceIte,oGs,bNf]
   exact ⟨by rw [fin (by unfold bad; rw [hc]; simp)],trivial⟩
  ·simp -implicitDefEqProofs only [BA,BO,A8,EE,EN,AY,BB,AO,AQ,AL,BD,AX,AC,AA,AZ,AU,BH,BG,A7,BQ,AB,DF,↓reduceIte,Nat.reduceEqDiff,oGs,bNf,enP,f3,wrap_succ (show k < 9223372036854775807 by omega)]
   exact ⟨n - 1,by omega,k+1,by omega,f0,rfl,trivial,nxt (by unfold bad; rw [ha,hb,hc]; rfl)⟩
 ·have hc' : ¬ k < xs.length:=by simpa using hc
  simp -implicitDefEqProofs only [BC,BA,BL,DJ,A8,D9,EX,EW,CJ,AY,BB,AO,AQ,AL,BD,AX,AC,AA,AU,BH,A7,↓reduceIte,oGs,bNf]
  rw [List.drop_eq_nil_of_le (by omega)] at hin
  exact ⟨by rw [WQ h64 hin],trivial⟩
structure Rs where
 m:SM
 l:List Rng
def AQD (r:Rs):AV := .sl r.m 2 (r.l.map encR)
def encS (r:Rs):List AV := [AQD r]
structure Bin where
 name:ByteArray
 kind:Int
 ranges:Rs
 sm:SM
 steps:List Rs
def GN (b:Bin):List AV := [.str b.name,.int .i64 b.kind,AQD b.ranges,.sl b.sm 1 (b.steps.map encS)]
theorem AL5 (b:Bin):(GN b)[0]? = some (.str b.name):=rfl
theorem U8 (b:Bin):(GN b)[1]? = some (.int .i64 b.kind):=rfl
theorem X9 (b:Bin):(GN b)[2]? = some (.sl b.ranges.m 2 (b.ranges.l.map encR)):=rfl
theorem SK (b:Bin):(GN b)[3]? = some (.sl b.sm 1 (b.steps.map encS)):=rfl
theorem LZ (b:Bin):(GN b).length=4:=rfl
theorem ZZ (r:Rs):(encS r)[0]? = some (.sl r.m 2 (r.l.map encR)):=rfl
theorem bxB (h:Hp) (b:Bin):PQ h (.agg (GN b))=some (.ptr h.length 0 0,h ++ [.live 4 [GN b]]):=rfl
theorem ldB (h:Hp) (b:Bin):D7 Tryz.prog (h ++ [.live 4 [GN b]]) 121 (.ptr h.length 0 0)=some (.agg (GN b)):=VQ TU PI (by simp [GN])
def QX (b:Bin):SM:=if b.ranges.l.length > 0 then .full else b.sm
def sets (b:Bin):List Rs:=if b.ranges.l.length > 0 then [b.ranges] else b.steps
theorem AYR (h:Hp) (r:Rs):FN Tryz.prog false h 119 1 [(0,.sl r.m 2 (r.l.map encR))]=some (.sl .full 1 ([r].map encS),h):=by
 have:(XP 1 0 [(0,AV.sl r.m 2 (r.l.map encR))])=some [[.sl r.m 2 (r.l.map encR)]]:=rfl
 simp only [FN,Tryz.underlying119,AUY,this]
 have hz:UB Tryz.prog 118=some 1:=by kernel_rfl
 simp [hz,AV.frozen,encS,AQD]
theorem ADR (G:Nat→AV) (b:Bin) (h:Hp):PCall (En G) 202 [.agg (GN b)] h (.sl (QX b) 1 ((sets b).map encS)):=by
 refine ACalls.pure0 rfl ?_
 refine CE (H:=Hint.none) (enM G) Tryz.func202 rfl (by kernel_rfl) (by kernel_rfl) (nLb (by kernel_rfl)) ?_
 show awp _ _ _ _ _ (EJ _ [.tmp 2] _)
 simp -implicitDefEqProofs only [BC,BA,BI,A8,AY,BB,AO,AQ,AL,BD,AX,AC,AA,AZ,AU,BH,JE,A7,FV,BV,BQ,BK,DZ,CB,AB,EZ,BF,↓reduceIte,Nat.reduceEqDiff,Nat.zero_add,oGs,bNf,enP,QL,PE,bxB,DI OI,X9,lLm]
 refine CV (fun hc => ?_) (fun hc => ?_)
 ·have hc':b.ranges.l.length > 0:=by simpa using hc
  simp -implicitDefEqProofs only [FZ,F6,BC,BA,BL,A8,CQ,CJ,AY,BB,AO,AQ,AL,BD,AX,AC,AA,AZ,A7,EQ,BV,BK,CB,AB,lMc,lMn,↓reduceIte,Nat.reduceEqDiff,Nat.zero_add,oGs,bNf,enP,PE,DI OI,X9,AYR]
  exact ⟨by rw [QX,sets,if_pos hc',if_pos hc']; rfl,_,rfl⟩
 ·have hc' : ¬ b.ranges.l.length > 0:=by simpa using hc
  simp -implicitDefEqProofs only [BC,BA,BO,BL,A8,CJ,AY,BB,AO,AQ,AL,BD,AX,AC,AA,AZ,A7,BV,BK,AB,↓reduceIte,Nat.reduceEqDiff,Nat.zero_add,oGs,bNf,enP,MV,DI SS,SK]
  exact ⟨by rw [QX,sets,if_neg hc',if_neg hc'],_,rfl⟩
theorem AGW (G:Nat→AV) (b:Bin) (h:Hp):PCall (En G) 165 [.agg (GN b)] h (.sl (QX b) 1 ((sets b).map encS)):=by
 refine ACalls.pure0 rfl ?_
 refine CE (H:=Hint.none) (enM G) Tryz.func165 rfl (by kernel_rfl) (by kernel_rfl) (nLb (by kernel_rfl)) ?_
 show awp _ _ _ _ _ (EJ _ [.tmp 2] _)
 simp -implicitDefEqProofs only [BC,BA,BI,A8,AY,BB,AO,AQ,AL,BD,AX,AC,AA,AZ,AU,BH,JE,A7,FV,BV,BQ,BK,DZ,CB,AB,EZ,BF,↓reduceIte,Nat.reduceEqDiff,Nat.zero_add,oGs,bNf,enP,QL,PE,bxB,DI OI,X9,lLm]
 refine CV (fun hc => ?_) (fun hc => ?_)
 ·have hc':b.ranges.l.length > 0:=by simpa using hc
  simp -implicitDefEqProofs only [FZ,F6,BC,BA,BL,A8,CQ,CJ,AY,BB,AO,AQ,AL,BD,AX,AC,AA,AZ,A7,EQ,BV,BK,CB,AB,lMc,lMn,↓reduceIte,Nat.reduceEqDiff,Nat.zero_add,oGs,bNf,enP,PE,DI OI,X9,AYR]
  exact ⟨by rw [QX,sets,if_pos hc',if_pos hc']; rfl,_,rfl⟩
 ·have hc' : ¬ b.ranges.l.length > 0:=by simpa using hc
  simp -implicitDefEqProofs only [BC,BA,BO,BL,A8,CJ,AY,BB,AO,AQ,AL,BD,AX,AC,AA,AZ,A7,BV,BK,AB,↓reduceIte,Nat.reduceEqDiff,Nat.zero_add,oGs,bNf,enP,MV,DI SS,SK]
  exact ⟨by rw [QX,sets,if_neg hc',if_neg hc'],_,rfl⟩
theorem AXX (m:SM) (k:Nat) (xs:List (List AV)):JB Tryz.prog 57 .eql (.sl m k xs) (.sl .nil 0 [])=some (.bool (decide (m = .nil))):=by cases m <;> kernel_rfl
def AKB (k:Nat) (xs:List (List AV)) (h:Hp) (v:AV) (h':Hp):Prop :=
 (xs = []∧(∃ k0,v = .sl .nil k0 [])∧h'=h)∨(xs = []∧v = .sl .full k []∧h'=h)∨(xs≠[]∧v = .own h.length 0 xs.length∧h'=h ++ [.live k xs])
theorem AQX (h:Hp):FN Tryz.prog false h 57 0 []=some (.sl .full 1 [],h):=by kernel_rfl
theorem cok (f:FuncId) (G:Nat→AV) (hf:(match Tryz.prog.funcs[f]? with | some fn=>fn.body.isSome && !(fn.name == "runtime.NumGoroutine") | none=>false)=true):XE (En G).P f:=by
 have he:(En G).P=Tryz.prog:=rfl
 unfold XE
 rw [he]
 cases hx:Tryz.prog.funcs[f]? with
 | none=>rw [hx] at hf; cases hf
 | some fn =>
   rw [hx] at hf
   simp at hf
   exact ⟨fn,rfl,by simpa using hf.1,by simpa using hf.2⟩
def encI (n:Int):List AV := [.int .i64 n]
theorem encI0 (n:Int):(encI n)[0]? = some (.int .i64 n):=rfl
theorem AQG (G:Nat→AV) (r:Rs) (h:Hp):PCall (En G) 235 [.sl r.m 2 (r.l.map encR)] h (.bool (decide (r.l.length=0))):=by
 refine CE (H:=Hint.none) (enM G) Tryz.func235 rfl (by kernel_rfl) (by kernel_rfl) (nLb (by kernel_rfl)) ?_
 show awp _ _ _ _ _ (EJ _ [.tmp 2] _)
 simp -implicitDefEqProofs only [BC,BA,BL,A8,CJ,AY,BB,AO,AQ,AL,BD,AX,AC,AA,AZ,AU,BH,BM,BG,A7,BQ,DZ,AB,D5,BF,↓reduceIte,Nat.reduceEqDiff,oGs,bNf,enP,QL,lLm]
 refine ⟨?_,trivial⟩
 congr 1
 rw [Bool.eq_iff_iff]; simp
theorem AHR (G:Nat→AV) (xs:List Rs) (m:SM) (fid:FuncId) (caps:List AV) (p:Rs→Bool) (h:Hp) (hl:xs.length≤1099511627776)
  (hf : ∀ r,PCall (En G) fid (.sl r.m 2 (r.l.map encR) :: caps) h (.bool (p r))) :
  PCall (En G) 260 [.sl m 1 (xs.map encS),.fn (.func fid) [] caps] h (.int .i64 (match xs.findIdx? p with | some i=>(i:Int) | none => -1)):=by
 refine CE (H:=Hint.none) (enM G) Tryz.func260 rfl (by kernel_rfl) (by kernel_rfl) (nLb (by kernel_rfl)) ?_
 show awp _ _ _ _ _ (EJ _ [.tmp 4] _)
 simp -implicitDefEqProofs only [BC,BR,BA,A8,AY,BB,AO,AQ,AL,BD,AX,AC,AA,AZ,AU,BH,BG,A7,DZ,AB,BF,↓reduceIte,Nat.reduceEqDiff,oGs,bNf,enP,PW,lLm]
 refine DT (fun n F H => ∃ k,n+k=xs.length∧F 0 = .sl m 1 (xs.map encS)∧F 1 = .fn (.func fid) [] caps∧F 7 = .int .i64 xs.length∧F 8 = .int .i64 (k:Nat)∧H=h∧(xs.take k).all (fun r => !p r)=true) xs.length ⟨0,by simp,rfl,rfl,rfl,rfl,rfl,rfl⟩ ?_
 rintro n F H ⟨k,hk,f0,f1,f7,f8,rfl,hin⟩
 simp -implicitDefEqProofs only [BC,BA,BI,A8,AY,BB,AO,AQ,AL,BD,AX,AC,AA,AZ,BQ,AB,DC,↓reduceIte,oGs,bNf,enP,f0,f1,f7,f8,lLm]
 refine CV (fun hc => ?_) (fun hc => ?_)
 ·have hc':k < xs.length:=by simpa using hc
  simp -implicitDefEqProofs only [BC,BR,BA,BO,A8,AY,BB,AO,AQ,AL,BD,AX,AC,AA,AZ,BG,A7,BV,CG,BZ,BU,AB,lMc,lMn,List.nil_append,List.cons_append,↓reduceIte,Nat.reduceEqDiff,oGs,bNf,enP,ZV,f0,f1,f7,f8,D6 hc',DV OI hc',ZZ]
  refine (hf _).use ?_
  simp -implicitDefEqProofs only [BI,A8,BB,AC,AA,AZ,↓reduceIte]
  refine CV (fun hb => ?_) (fun hb => ?_)
  ·simp -implicitDefEqProofs only [BC,BA,BL,A8,CQ,D8,FI,CJ,AY,BB,AO,AQ,AL,BD,AX,AC,AA,AZ,BG,A7,↓reduceIte,Nat.reduceEqDiff,oGs,bNf]
   refine ⟨?_,trivial⟩
   rw [List.findIdx?_eq_some_iff_getElem.2 ⟨hc',hb,fun j hj=>by
    rw [List.all_eq_true] at hin
    have:=hin xs[j] (by rw [List.mem_take_iff_getElem]; exact ⟨j,by omega,rfl⟩)
    simpa using this⟩]
  ·simp -implicitDefEqProofs only [BA,BO,A8,EE,EN,AY,BB,AO,AQ,AL,BD,AX,AC,AA,AZ,AU,BH,BG,BQ,AB,DF,↓reduceIte,Nat.reduceEqDiff,oGs,bNf,enP,f8,wrap_succ (show k < 9223372036854775807 by omega)]
   refine ⟨n - 1,by omega,k+1,by omega,f0,f1,f7,rfl,trivial,?_⟩
   rw [List.take_succ_eq_append_getElem hc',List.all_append,hin]
   simp only [List.all_cons,List.all_nil,hb]; rfl
 ·have hc' : ¬ k < xs.length:=by simpa using hc
  simp -implicitDefEqProofs only [BC,BA,BL,DJ,A8,D9,EX,EW,CJ,AY,BB,AO,AQ,AL,BD,AX,AC,AA,AU,BH,A7,↓reduceIte,oGs,bNf]
  refine ⟨?_,trivial⟩
  rw [List.take_of_length_le (by omega)] at hin
  rw [List.findIdx?_eq_none_iff.2 (by simpa using hin)]
theorem ACJ (G:Nat→AV) (xs:List Rs) (m:SM) (fid:FuncId) (caps:List AV) (p:Rs→Bool) (h:Hp) (hl:xs.length≤1099511627776)
  (hf : ∀ r,PCall (En G) fid (.sl r.m 2 (r.l.map encR) :: caps) h (.bool (p r))) :
  PCall (En G) 234 [.sl m 1 (xs.map encS),.fn (.func fid) [] caps] h (.bool (xs.any p)):=by
 refine CE (H:=Hint.none) (enM G) Tryz.func234 rfl (by kernel_rfl) (by kernel_rfl) (nLb (by kernel_rfl)) ?_
 show awp _ _ _ _ _ (EJ _ [.tmp 4] _)
 simp -implicitDefEqProofs only [BC,BA,A8,AY,BB,AO,AQ,AL,BD,AX,AC,AA,AZ,AU,BX,BM,BG,A7,BZ,BU,BF,BN,lMc,lMn,lAn,↓reduceIte,Nat.reduceEqDiff,oGs,bNf,enP]
 refine (AHR G xs m fid caps p h hl hf).use ?_
 simp -implicitDefEqProofs only [BL,A8,CJ,AY,BB,AO,AQ,AL,BD,AX,AC,AA,AZ,AU,BH,A7,BQ,AB,G8,↓reduceIte,oGs,bNf,enP]
 refine ⟨?_,trivial⟩
 cases hx:xs.findIdx? p with
 | some i =>
   obtain ⟨h1,h2,_⟩:=List.findIdx?_eq_some_iff_getElem.1 hx
   have:xs.any p=true:=List.any_eq_true.2 ⟨xs[i],by simp,h2⟩
   simp [this]
 | none =>
   have:xs.any p=false:=by
    rw [List.findIdx?_eq_none_iff] at hx
    rw [List.any_eq_false]; intro x hx2; simp [hx x hx2]
   simp [this]
def QS (n:Int):Bool:=decide (n≥97) && decide (n≤122)
def AIE (n:Int):Bool:=decide (n≥48) && decide (n≤57)
def NE (n:Int):Bool:=QS n || AIE n || (decide (n≥65) && decide (n≤90)) || n == 95
theorem ABT (G:Nat→AV) (n:Int) (h:Hp):PCall (En G) 227 [.int .i32 n] h (.bool (QS n)):=by
 refine CE (H:=Hint.none) (enM G) Tryz.func227 rfl (by kernel_rfl) (by kernel_rfl) (nLb (by kernel_rfl)) ?_
 show awp _ _ _ _ _ (EJ _ [.tmp 2] _)
 simp -implicitDefEqProofs only [BC,BA,A8,AY,BB,BJ,BP,CO,AO,AQ,AL,BD,AX,AC,AA,AZ,AU,BH,BM,BG,A7,BQ,AB,G8,BF,↓reduceIte,Nat.reduceEqDiff,oGs,bNf,enP]
 refine G9 (fun ha => ?_) (fun ha => ?_)
 ·simp -implicitDefEqProofs only [BL,A8,CJ,AY,BB,BJ,BP,CO,F7,AO,AQ,AL,BD,AX,AC,AA,AZ,AU,BH,BM,BG,A7,CP,DN,BQ,AB,IE,BF,↓reduceIte,Nat.reduceEqDiff,oGs,bNf,enP,ha]
  exact ⟨by unfold QS; rw [ha]; rfl,trivial⟩
 ·simp -implicitDefEqProofs only [BL,A8,CJ,AY,BB,BJ,BP,CO,H8,AO,AQ,AL,BD,AX,AC,AA,EP,AZ,AU,BM,A7,CP,DR,↓reduceIte,Nat.reduceEqDiff,oGs,bNf,ha]
  exact ⟨by unfold QS; rw [ha]; rfl,trivial⟩
theorem AJ5 (G:Nat→AV) (n:Int) (h:Hp):PCall (En G) 256 [.int .i32 n] h (.bool (AIE n)):=by
 refine CE (H:=Hint.none) (enM G) Tryz.func256 rfl (by kernel_rfl) (by kernel_rfl) (nLb (by kernel_rfl)) ?_
 show awp _ _ _ _ _ (EJ _ [.tmp 2] _)
 simp -implicitDefEqProofs only [BC,BA,A8,AY,BB,BJ,BP,CO,AO,AQ,AL,BD,AX,AC,AA,AZ,AU,BH,BM,BG,A7,BQ,AB,G8,BF,↓reduceIte,Nat.reduceEqDiff,oGs,bNf,enP]
 refine G9 (fun ha => ?_) (fun ha => ?_)
 ·simp -implicitDefEqProofs only [BL,A8,CJ,AY,BB,BJ,BP,CO,F7,AO,AQ,AL,BD,AX,AC,AA,AZ,AU,BH,BM,BG,A7,CP,DN,BQ,AB,IE,BF,↓reduceIte,Nat.reduceEqDiff,oGs,bNf,enP,ha]
  exact ⟨by unfold AIE; rw [ha]; rfl,trivial⟩
 ·simp -implicitDefEqProofs only [BL,A8,CJ,AY,BB,BJ,BP,CO,H8,AO,AQ,AL,BD,AX,AC,AA,EP,AZ,AU,BM,A7,CP,DR,↓reduceIte,Nat.reduceEqDiff,oGs,bNf,ha]
  exact ⟨by unfold AIE; rw [ha]; rfl,trivial⟩
theorem ADQ (G:Nat→AV) (n:Int) (h:Hp):PCall (En G) 213 [.int .u8 n] h (.bool (QS n)):=by
 refine CE (H:=Hint.none) (enM G) Tryz.func213 rfl (by kernel_rfl) (by kernel_rfl) (nLb (by kernel_rfl)) ?_
 show awp _ _ _ _ _ (EJ _ [.tmp 2] _)
 simp -implicitDefEqProofs only [BC,BA,A8,AY,BB,BJ,BP,CO,AO,AQ,AL,BD,AX,AC,AA,AZ,AU,BH,BM,BG,A7,BQ,AB,G8,BF,↓reduceIte,Nat.reduceEqDiff,oGs,bNf,enP]
 refine G9 (fun ha => ?_) (fun ha => ?_)
 ·simp -implicitDefEqProofs only [BL,A8,CJ,AY,BB,BJ,BP,CO,F7,AO,AQ,AL,BD,AX,AC,AA,AZ,AU,BH,BM,BG,A7,CP,DN,BQ,AB,IE,BF,↓reduceIte,Nat.reduceEqDiff,oGs,bNf,enP,ha]
  exact ⟨by unfold QS; rw [ha]; rfl,trivial⟩
 ·simp -implicitDefEqProofs only [BL,A8,CJ,AY,BB,BJ,BP,CO,H8,AO,AQ,AL,BD,AX,AC,AA,EP,AZ,AU,BM,A7,CP,DR,↓reduceIte,Nat.reduceEqDiff,oGs,bNf,ha]
  exact ⟨by unfold QS; rw [ha]; rfl,trivial⟩
theorem digit_ref (G:Nat→AV) (n:Int) (h:Hp):PCall (En G) 245 [.int .u8 n] h (.bool (AIE n)):=by
 refine CE (H:=Hint.none) (enM G) Tryz.func245 rfl (by kernel_rfl) (by kernel_rfl) (nLb (by kernel_rfl)) ?_
 show awp _ _ _ _ _ (EJ _ [.tmp 2] _)
 simp -implicitDefEqProofs only [BC,BA,A8,AY,BB,BJ,BP,CO,AO,AQ,AL,BD,AX,AC,AA,AZ,AU,BH,BM,BG,A7,BQ,AB,G8,BF,↓reduceIte,Nat.reduceEqDiff,oGs,bNf,enP]
 refine G9 (fun ha => ?_) (fun ha => ?_)
 ·simp -implicitDefEqProofs only [BL,A8,CJ,AY,BB,BJ,BP,CO,F7,AO,AQ,AL,BD,AX,AC,AA,AZ,AU,BH,BM,BG,A7,CP,DN,BQ,AB,IE,BF,↓reduceIte,Nat.reduceEqDiff,oGs,bNf,enP,ha]
  exact ⟨by unfold AIE; rw [ha]; rfl,trivial⟩
 ·simp -implicitDefEqProofs only [BL,A8,CJ,AY,BB,BJ,BP,CO,H8,AO,AQ,AL,BD,AX,AC,AA,EP,AZ,AU,BM,A7,CP,DR,↓reduceIte,Nat.reduceEqDiff,oGs,bNf,ha]
  exact ⟨by unfold AIE; rw [ha]; rfl,trivial⟩
theorem XY (G:Nat→AV) (n:Int) (h:Hp):PCall (En G) 228 [.int .i32 n] h (.bool (NE n)):=by
 refine CE (H:=Hint.none) (enM G) Tryz.func228 rfl (by kernel_rfl) (by kernel_rfl) (nLb (by kernel_rfl)) ?_
 show awp _ _ _ _ _ (EJ _ [.tmp 2] _)
 simp -implicitDefEqProofs only [BC,BA,A8,AY,BB,AO,AQ,AL,BD,AX,AC,AA,AZ,AU,BX,BM,BG,A7,BZ,BU,BF,lMc,lMn,lAn,↓reduceIte,Nat.reduceEqDiff,oGs,bNf,enP]
 refine (ABT G n h).use ?_
 simp -implicitDefEqProofs only [AY,BJ,BP,CO,AO,AQ,AL,BD,AX,AC,AA,AZ,BG,↓reduceIte,oGs,bNf]
 refine G9 (fun ha => ?_) (fun ha => ?_)
 ·simp -implicitDefEqProofs only [BL,A8,CJ,AY,BB,BJ,BP,CO,FQ,QR,AO,AQ,AL,BD,AX,AC,AA,EP,AZ,AU,BM,BG,A7,CP,DN,↓reduceIte,Nat.reduceEqDiff,oGs,bNf,ha]
  exact ⟨by unfold NE; rw [ha]; rfl,trivial⟩
 simp -implicitDefEqProofs only [BJ,BP,CO,EM,AO,AQ,AL,BD,AX,AC,AA,AZ,BX,BG,BZ,BU,BF,lMc,lMn,lAn,↓reduceIte,Nat.reduceEqDiff,oGs,bNf,ha]
 refine (AJ5 G n h).use ?_
 simp -implicitDefEqProofs only [AY,BJ,BP,CO,AO,AQ,AL,BD,AX,AC,AA,AZ,AU,BM,BG,CP,DR,↓reduceIte,Nat.reduceEqDiff,oGs,bNf]
 refine G9 (fun hb => ?_) (fun hb => ?_)
 ·simp -implicitDefEqProofs only [BL,A8,CJ,AY,BB,BJ,BP,CO,FQ,QR,AO,AQ,AL,BD,AX,AC,AA,EP,AZ,AU,BM,BG,A7,CP,DN,↓reduceIte,Nat.reduceEqDiff,oGs,bNf,hb]
  exact ⟨by unfold NE; rw [ha,hb]; rfl,trivial⟩
 simp -implicitDefEqProofs only [BJ,BP,CO,EM,AO,AQ,AL,BD,AX,AC,AA,AZ,AU,BH,BG,BQ,AB,G8,BF,↓reduceIte,Nat.reduceEqDiff,oGs,bNf,enP,hb]
 refine G9 (fun hc => ?_) (fun hc => ?_)
 ·simp -implicitDefEqProofs only [AY,BJ,BP,CO,F7,EM,AO,AQ,AL,BD,AX,AC,AA,AZ,AU,BH,BM,BG,CP,DN,DR,BQ,AB,IE,BF,↓reduceIte,Nat.reduceEqDiff,oGs,bNf,enP,hc]
  refine G9 (fun hd => ?_) (fun hd => ?_)
  ·simp -implicitDefEqProofs only [BL,A8,CJ,AY,BB,BJ,BP,CO,FQ,AO,AQ,AL,BD,AX,AC,AA,EP,AZ,AU,BM,A7,CP,DN,↓reduceIte,Nat.reduceEqDiff,oGs,bNf,hd]
   exact ⟨by unfold NE; rw [ha,hb,hc,hd]; rfl,trivial⟩
  ·simp -implicitDefEqProofs only [BL,A8,CJ,AY,BB,BJ,BP,CO,EM,AO,AQ,AL,BD,AX,AC,AA,AZ,AU,BH,BM,BG,A7,CP,DR,BQ,AB,D5,BF,↓reduceIte,Nat.reduceEqDiff,oGs,bNf,enP,hd]
   exact ⟨by unfold NE; rw [ha,hb,hc,hd]; rfl,trivial⟩
 ·simp -implicitDefEqProofs only [BL,A8,CJ,AY,BB,BJ,BP,CO,EM,H8,AO,AQ,AL,BD,AX,AC,AA,EP,AZ,AU,BH,BM,BG,A7,CP,DR,BQ,AB,D5,BF,↓reduceIte,Nat.reduceEqDiff,oGs,bNf,enP,hc]
  exact ⟨by unfold NE; rw [ha,hb,hc]; rfl,trivial⟩
theorem ANB (G:Nat→AV) (n:Int) (h:Hp):PCall (En G) 215 [.int .u8 n] h (.bool (NE n)):=by
 refine CE (H:=Hint.none) (enM G) Tryz.func215 rfl (by kernel_rfl) (by kernel_rfl) (nLb (by kernel_rfl)) ?_
 show awp _ _ _ _ _ (EJ _ [.tmp 2] _)
 simp -implicitDefEqProofs only [BC,BA,A8,AY,BB,AO,AQ,AL,BD,AX,AC,AA,AZ,AU,BX,BM,BG,A7,BZ,BU,BF,lMc,lMn,lAn,↓reduceIte,Nat.reduceEqDiff,oGs,bNf,enP]
 refine (ADQ G n h).use ?_
 simp -implicitDefEqProofs only [AY,BJ,BP,CO,AO,AQ,AL,BD,AX,AC,AA,AZ,BG,↓reduceIte,oGs,bNf]
 refine G9 (fun ha => ?_) (fun ha => ?_)
 ·simp -implicitDefEqProofs only [BL,A8,CJ,AY,BB,BJ,BP,CO,FQ,QR,AO,AQ,AL,BD,AX,AC,AA,EP,AZ,AU,BM,BG,A7,CP,DN,↓reduceIte,Nat.reduceEqDiff,oGs,bNf,ha]
  exact ⟨by unfold NE; rw [ha]; rfl,trivial⟩
 simp -implicitDefEqProofs only [BJ,BP,CO,EM,AO,AQ,AL,BD,AX,AC,AA,AZ,BX,BG,BZ,BU,BF,lMc,lMn,lAn,↓reduceIte,Nat.reduceEqDiff,oGs,bNf,ha]
 refine (digit_ref G n h).use ?_
 simp -implicitDefEqProofs only [AY,BJ,BP,CO,AO,AQ,AL,BD,AX,AC,AA,AZ,AU,BM,BG,CP,DR,↓reduceIte,Nat.reduceEqDiff,oGs,bNf]
 refine G9 (fun hb => ?_) (fun hb => ?_)
 ·simp -implicitDefEqProofs only [BL,A8,CJ,AY,BB,BJ,BP,CO,FQ,QR,AO,AQ,AL,BD,AX,AC,AA,EP,AZ,AU,BM,BG,A7,CP,DN,↓reduceIte,Nat.reduceEqDiff,oGs,bNf,hb]
  exact ⟨by unfold NE; rw [ha,hb]; rfl,trivial⟩
 simp -implicitDefEqProofs only [BJ,BP,CO,EM,AO,AQ,AL,BD,AX,AC,AA,AZ,AU,BH,BG,BQ,AB,G8,BF,↓reduceIte,Nat.reduceEqDiff,oGs,bNf,enP,hb]
 refine G9 (fun hc => ?_) (fun hc => ?_)
 ·simp -implicitDefEqProofs only [AY,BJ,BP,CO,F7,EM,AO,AQ,AL,BD,AX,AC,AA,AZ,AU,BH,BM,BG,CP,DN,DR,BQ,AB,IE,BF,↓reduceIte,Nat.reduceEqDiff,oGs,bNf,enP,hc]
  refine G9 (fun hd => ?_) (fun hd => ?_)
  ·simp -implicitDefEqProofs only [BL,A8,CJ,AY,BB,BJ,BP,CO,FQ,AO,AQ,AL,BD,AX,AC,AA,EP,AZ,AU,BM,A7,CP,DN,↓reduceIte,Nat.reduceEqDiff,oGs,bNf,hd]
   exact ⟨by unfold NE; rw [ha,hb,hc,hd]; rfl,trivial⟩
  ·simp -implicitDefEqProofs only [BL,A8,CJ,AY,BB,BJ,BP,CO,EM,AO,AQ,AL,BD,AX,AC,AA,AZ,AU,BH,BM,BG,A7,CP,DR,BQ,AB,D5,BF,↓reduceIte,Nat.reduceEqDiff,oGs,bNf,enP,hd]
   exact ⟨by unfold NE; rw [ha,hb,hc,hd]; rfl,trivial⟩
 ·simp -implicitDefEqProofs only [BL,A8,CJ,AY,BB,BJ,BP,CO,EM,H8,AO,AQ,AL,BD,AX,AC,AA,EP,AZ,AU,BH,BM,BG,A7,CP,DR,BQ,AB,D5,BF,↓reduceIte,Nat.reduceEqDiff,oGs,bNf,enP,hc]
  exact ⟨by unfold NE; rw [ha,hb,hc]; rfl,trivial⟩
def encStr (s:ByteArray):List AV := [.str s]
theorem encStr0 (s:ByteArray):(encStr s)[0]? = some (.str s):=rfl
def IR (xs:List ByteArray) (v:ByteArray):Bool:=xs.any fun u=>v.toList == u.toList
theorem ATH (G:Nat→AV) (xs:List ByteArray) (m:SM) (v:ByteArray) (h:Hp) (hl:xs.length≤1099511627776) :
  PCall (En G) 243 [.sl m 1 (xs.map encStr),.str v] h (.bool (IR xs v)):=by
 refine CE (H:=Hint.none) (enM G) Tryz.func243 rfl (by kernel_rfl) (by kernel_rfl) (nLb (by kernel_rfl)) ?_
 show awp _ _ _ _ _ (EJ _ [.tmp 4] _)
 simp -implicitDefEqProofs only [BC,BR,BA,A8,AY,BB,AO,AQ,AL,BD,AX,AC,AU,BH,BM,A7,oGs,bNf,enP]
 refine DT (fun n F H => ∃ k,n+k=xs.length∧F 0 = .sl m 1 (xs.map encStr)∧F 1 = .str v∧F 5 = .int .i64 (k:Nat)∧H=h∧IR xs v=IR (xs.drop k) v) xs.length ⟨0,by simp,rfl,rfl,rfl,rfl,rfl⟩ ?_
 rintro n F H ⟨k,hk,f0,f1,f5,rfl,hin⟩
 simp -implicitDefEqProofs only [BC,BA,BI,A8,AY,BB,AO,AQ,AL,BD,AX,AC,AA,AZ,BG,BQ,DZ,AB,DC,↓reduceIte,Nat.reduceEqDiff,oGs,bNf,enP,ZT,f0,f1,f5,lLm]
 refine CV (fun hc => ?_) (fun hc => ?_)
 ·have hc':k < xs.length:=by simpa using hc
  have hs:IR (xs.drop k) v=((v.toList == xs[k].toList) || IR (xs.drop (k+1)) v):=KJ _ xs k hc'
  simp -implicitDefEqProofs only [BC,BR,BA,BO,BI,A8,AY,BB,AO,AQ,AL,BD,AX,AC,AA,AZ,BG,BV,BQ,CG,AB,LJ,↓reduceIte,Nat.reduceEqDiff,oGs,bNf,enP,AD2,f0,f1,f5,D6 hc',DV ag9 hc',encStr0]
  refine CV (fun hb => ?_) (fun hb => ?_)
  ·simp -implicitDefEqProofs only [BC,BA,BL,A8,CQ,D8,FI,CJ,AY,BB,AO,AQ,AL,BD,AX,AC,AA,AU,BM,A7,↓reduceIte,oGs,bNf]
   refine ⟨?_,trivial⟩
   rw [hin,hs,show (v.toList == xs[k].toList)=true by rw [BEq.comm]; exact hb]; rfl
  ·simp -implicitDefEqProofs only [BA,BO,A8,EE,EN,AY,BB,AO,AQ,AL,BD,AX,AC,AA,AZ,AU,BH,BG,A7,BQ,AB,DF,↓reduceIte,Nat.reduceEqDiff,oGs,bNf,enP,f5,wrap_succ (show k < 9223372036854775807 by omega)]
   refine ⟨n - 1,by omega,k+1,by omega,f0,f1,rfl,trivial,?_⟩
   rw [hin,hs,show (v.toList == xs[k].toList)=false by rw [BEq.comm]; exact hb]; rfl
 ·have hc' : ¬ k < xs.length:=by simpa using hc
  simp -implicitDefEqProofs only [BC,BA,BL,DJ,A8,D9,EX,EW,CJ,AY,BB,AO,AQ,AL,BD,AX,AC,AA,AU,BM,A7,↓reduceIte,oGs,bNf]
  exact ⟨by rw [hin,List.drop_eq_nil_of_le (by omega)]; rfl,trivial⟩
theorem AJW (G:Nat→AV) (xs:List ByteArray) (m:SM) (v:ByteArray) (h:Hp) (hl:xs.length≤1099511627776) :
  ∃ i:Int,(decide (i≥0)=IR xs v)∧PCall (En G) 257 [.sl m 1 (xs.map encStr),.str v] h (.int .i64 i):=by
 refine ⟨(match xs.findIdx? (fun u=>v.toList == u.toList) with | some i=>(i:Int) | none => -1),?_,?_⟩
 ·cases hx:xs.findIdx? (fun u=>v.toList == u.toList) with
  | some i =>
    obtain ⟨h1,h2,_⟩:=List.findIdx?_eq_some_iff_getElem.1 hx
    have:IR xs v=true:=List.any_eq_true.2 ⟨xs[i],by simp,h2⟩
    simp [this]
  | none =>
    have:IR xs v=false:=by
     rw [List.findIdx?_eq_none_iff] at hx
     unfold IR
     rw [List.any_eq_false]; intro x hx2; simp only [hx x hx2]; simp
    simp [this]
 refine CE (H:=Hint.none) (enM G) Tryz.func257 rfl (by kernel_rfl) (by kernel_rfl) (nLb (by kernel_rfl)) ?_
 show awp _ _ _ _ _ (EJ _ [.tmp 4] _)
 simp -implicitDefEqProofs only [BC,BR,BA,A8,AY,BB,AO,AQ,AL,BD,AX,AC,AA,AZ,AU,BH,BG,A7,DZ,AB,BF,↓reduceIte,Nat.reduceEqDiff,oGs,bNf,enP,ZT,lLm]
 refine DT (fun n F H => ∃ k,n+k=xs.length∧F 0 = .sl m 1 (xs.map encStr)∧F 1 = .str v∧F 7 = .int .i64 xs.length∧F 8 = .int .i64 (k:Nat)∧H=h∧(xs.take k).all (fun u => !(v.toList == u.toList))=true) xs.length ⟨0,by simp,rfl,rfl,rfl,rfl,rfl,rfl⟩ ?_
 rintro n F H ⟨k,hk,f0,f1,f7,f8,rfl,hin⟩
 simp -implicitDefEqProofs only [BC,BA,BI,A8,AY,BB,AO,AQ,AL,BD,AX,AC,AA,AZ,BQ,AB,DC,↓reduceIte,oGs,bNf,enP,f0,f1,f7,f8,lLm]
 refine CV (fun hc => ?_) (fun hc => ?_)
 ·have hc':k < xs.length:=by simpa using hc
  simp -implicitDefEqProofs only [BC,BR,BA,BO,BI,A8,AY,BB,AO,AQ,AL,BD,AX,AC,AA,AZ,BG,A7,BV,BQ,CG,AB,LJ,↓reduceIte,Nat.reduceEqDiff,oGs,bNf,enP,AD2,f0,f1,f7,f8,D6 hc',DV ag9 hc',encStr0]
  refine CV (fun hb => ?_) (fun hb => ?_)
  ·simp -implicitDefEqProofs only [BC,BA,BL,A8,CQ,D8,FI,CJ,AY,BB,AO,AQ,AL,BD,AX,AC,AA,AZ,BG,A7,↓reduceIte,Nat.reduceEqDiff,oGs,bNf]
   refine ⟨?_,trivial⟩
   rw [List.findIdx?_eq_some_iff_getElem.2 ⟨hc',hb,fun j hj=>by
    rw [List.all_eq_true] at hin
    have:=hin xs[j] (by rw [List.mem_take_iff_getElem]; exact ⟨j,by omega,rfl⟩)
    simpa using this⟩]
  ·simp -implicitDefEqProofs only [BA,BO,A8,EE,EN,AY,BB,AO,AQ,AL,BD,AX,AC,AA,AZ,AU,BH,BG,BQ,AB,DF,↓reduceIte,Nat.reduceEqDiff,oGs,bNf,enP,f8,wrap_succ (show k < 9223372036854775807 by omega)]
   refine ⟨n - 1,by omega,k+1,by omega,f0,f1,f7,rfl,trivial,?_⟩
   rw [List.take_succ_eq_append_getElem hc',List.all_append,hin]
   simp only [List.all_cons,List.all_nil,hb]; rfl
 ·have hc' : ¬ k < xs.length:=by simpa using hc
  simp -implicitDefEqProofs only [BC,BA,BL,DJ,A8,D9,EX,EW,CJ,AY,BB,AO,AQ,AL,BD,AX,AC,AA,AU,BH,A7,↓reduceIte,oGs,bNf]
  refine ⟨?_,trivial⟩
  rw [List.take_of_length_le (by omega)] at hin
  rw [List.findIdx?_eq_none_iff.2 (by
   intro x hx
   rw [List.all_eq_true] at hin
   simpa using hin x hx)]
theorem ADE (G:Nat→AV) (xs:List ByteArray) (m:SM) (v:ByteArray) (h:Hp) (hl:xs.length≤1099511627776) :
  PCall (En G) 229 [.sl m 1 (xs.map encStr),.str v] h (.bool (IR xs v)):=by
 obtain ⟨i,hi,hp⟩:=AJW G xs m v h hl
 refine CE (H:=Hint.none) (enM G) Tryz.func229 rfl (by kernel_rfl) (by kernel_rfl) (nLb (by kernel_rfl)) ?_
 show awp _ _ _ _ _ (EJ _ [.tmp 4] _)
 simp -implicitDefEqProofs only [BC,BA,A8,AY,BB,AO,AQ,AL,BD,AX,AC,AA,AZ,AU,BX,BM,BG,A7,BZ,BU,BF,BN,lMc,lMn,lAn,↓reduceIte,Nat.reduceEqDiff,oGs,bNf,enP]
 refine hp.use ?_
 simp -implicitDefEqProofs only [BL,A8,CJ,AY,BB,AO,AQ,AL,BD,AX,AC,AA,AZ,AU,BH,A7,BQ,AB,G8,↓reduceIte,oGs,bNf,enP]
 exact ⟨by rw [hi],trivial⟩
def kw:List ByteArray := [⟨#[99,108,97,115,115]⟩,⟨#[101,120,116,101,110,100,115]⟩,⟨#[114,97,110,100]⟩,⟨#[114,97,110,100,99]⟩,⟨#[115,116,97,116,101]⟩,⟨#[99,111,110,115,116,114,97,105,110,116]⟩,⟨#[115,111,102,116]⟩,⟨#[100,105,115,116]⟩,⟨#[105,102]⟩,⟨#[101,108,115,101]⟩,⟨#[101,97,99,104]⟩,⟨#[105,110]⟩,⟨#[115,111,108,118,101]⟩,⟨#[98,101,102,111,114,101]⟩,⟨#[105,110,115,105,100,101]⟩,⟨#[112,114,111,112,101,114,116,121]⟩,⟨#[115,101,113]⟩,⟨#[97,110,100]⟩,⟨#[111,114]⟩,⟨#[110,111,116]⟩,⟨#[115,101,116]⟩,⟨#[104,111,108,100]⟩,⟨#[112,108,97,105,110]⟩,⟨#[114,101,112,101,97,116]⟩]
theorem APN:kw.length=24:=rfl
theorem AE7 (G:Nat→AV) (h:Hp):PCall (En G) 244 [] h (.sl .full 1 (kw.map encStr)):=by
 refine CE (H:=Hint.none) (enM G) Tryz.func244 rfl (by kernel_rfl) (by kernel_rfl) (nLb (by kernel_rfl)) ?_
 show awp _ _ _ _ _ (EJ _ [.tmp 0] _)
 simp -implicitDefEqProofs only [FZ,F6,BC,BA,A8,AY,BB,AO,AQ,AL,BD,AX,AC,AU,IX,JE,A7,EQ,oGs,bNf,enP]
 refine JR (v := .sl .full 1 (kw.map encStr)) (h:=h) (by kernel_rfl) ?_
 simp -implicitDefEqProofs only [BL,A8,CJ,AY,BB,AO,AQ,AL,BD,AX,AC,AA,AZ,A7,↓reduceIte,oGs,bNf]
 exact ⟨trivial,trivial⟩
theorem AC7 (G:Nat→AV) (v:ByteArray) (h:Hp):PCall (En G) 214 [.str v] h (.bool (IR kw v)):=by
 refine CE (H:=Hint.none) (enM G) Tryz.func214 rfl (by kernel_rfl) (by kernel_rfl) (nLb (by kernel_rfl)) ?_
 show awp _ _ _ _ _ (EJ _ [.tmp 2] _)
 simp -implicitDefEqProofs only [BC,BA,A8,AY,BB,AO,AQ,AL,BD,AX,AC,AU,BX,BM,A7,BZ,BU,lMn,lAn,oGs,bNf,enP]
 refine (AE7 G h).use ?_
 simp -implicitDefEqProofs only [AY,AO,AQ,AL,BD,AX,AC,AA,AZ,BX,BG,BZ,BU,BF,lMc,lMn,lAn,↓reduceIte,Nat.reduceEqDiff,oGs,bNf]
 refine (ATH G kw .full v h (by rw [APN]; omega)).use ?_
 simp -implicitDefEqProofs only [BL,A8,CJ,AY,BB,AO,AQ,AL,BD,AX,AC,AA,AZ,A7,↓reduceIte,oGs,bNf]
 exact ⟨trivial,trivial⟩
def KwG (G:Nat→AV):Prop := ∃ m,G 0 = .fptr 1 [[.sl m 1 (kw.map encStr)]] 0 0
theorem ABX (G:Nat→AV) (hG:KwG G) (v:ByteArray) (h:Hp):PCall (En G) 195 [.str v] h (.bool (IR kw v)):=by
 obtain ⟨m,hg⟩:=hG
 refine CE (H:=Hint.none) (enM G) Tryz.func195 rfl (by kernel_rfl) (by kernel_rfl) (nLb (by kernel_rfl)) ?_
 show awp _ _ _ _ _ (EJ _ [.tmp 2] _)
 have e:D7 Tryz.prog h 179 (G 0)=some (.sl m 1 (kw.map encStr)):=by rw [hg]; exact QK AEP rfl rfl
 have hl:kw.length≤1099511627776:=by rw [APN]; omega
 simp -implicitDefEqProofs only [BC,BA,A8,AY,BB,AO,AQ,AL,BD,AX,AC,AA,AZ,AU,BX,ATU,BM,BG,A7,BV,BZ,BU,AB,BF,lMc,lMn,lAn,↓reduceIte,Nat.reduceEqDiff,oGs,bNf,enP,enG,e]
 refine (ADE G kw m v h hl).use ?_
 simp -implicitDefEqProofs only [BL,A8,CJ,AY,BB,AO,AQ,AL,BD,AX,AC,AA,AZ,A7,↓reduceIte,oGs,bNf]
 exact ⟨trivial,trivial⟩
def RQ (s:ByteArray):Bool:=(match s.data.toList with | []=>false | b :: _=>QS b.toNat) && s.data.toList.all fun b=>NE b.toNat
def H6 (s:ByteArray):Bool:=RQ s && decide (s.size≤16) && !IR kw s
theorem YZ {n:Int} (h:NE n=true):n < 128:=by
 simp only [NE,QS,AIE,Bool.or_eq_true,Bool.and_eq_true,decide_eq_true_eq,beq_iff_eq] at h
 omega
theorem ASI (h:Hp) (s:ByteArray):ZK Tryz.prog h 9 (.str s)=some (.ptr h.length 0 0,h ++ [.iter s 0]):=by
 have:Tryz.prog.underlying 9=some .string:=by kernel_rfl
 simp [ZK,this]
theorem AS1 {h:Hp} {s:ByteArray} {pos:Nat} (hp:pos < s.size):AAC (h ++ [.iter s pos]) (.ptr h.length 0 0) true=some (.tup [.bool true,.int .i64 pos,.int .i32 (Utf8.decode s pos).1],h ++ [.iter s (pos+(Utf8.decode s pos).2)]):=by
 simp [AAC,hp]
theorem APE {h:Hp} {s:ByteArray} {pos:Nat} (hp : ¬ pos < s.size):AAC (h ++ [.iter s pos]) (.ptr h.length 0 0) true=some (.tup [.bool false],h ++ [.iter s pos]):=by
 simp [AAC,hp]
theorem S9 {s:ByteArray} {k:Nat} (hk:k < s.size) (hb:NE (s[k]'hk).toNat=false):RQ s=false:=by
 unfold RQ
 have:(s.data.toList.all fun b=>NE b.toNat)=false:=by
  rw [List.all_eq_false]
  exact ⟨s[k],Array.getElem_mem_toList (xs:=s.data) hk,by simp [hb]⟩
 rw [this]; simp
theorem ZM {s:ByteArray} (hk:0 < s.size) (hb:QS (s[0]'hk).toNat=false):RQ s=false:=by
 unfold RQ
 have:(match s.data.toList with | []=>false | b :: _=>QS b.toNat)=false:=by
  cases hl:s.data.toList with
  | nil=>rfl
  | cons b l =>
    have h0:s[0]'hk=b:=by
     have:s.data.toList[0]? = some b:=by rw [hl]; rfl
     have h2:s.data[0]? = some b:=by rw [← Array.getElem?_toList]; exact this
     have hk':0 < s.data.size:=hk
     rw [Array.getElem?_eq_getElem hk'] at h2
     exact Option.some.inj h2
    simp only
    rw [← h0]; exact hb
 rw [this]; simp
theorem AGG {s:ByteArray} (hk:0 < s.size) (hb:QS (s[0]'hk).toNat=true) (ha : ∀ i (hi:i < s.size),NE (s[i]'hi).toNat=true):RQ s=true:=by
 unfold RQ
 have h1:(match s.data.toList with | []=>false | b :: _=>QS b.toNat)=true:=by
  cases hl:s.data.toList with
  | nil =>
    have:s.data.toList.length=0:=by rw [hl]; rfl
    have h2:s.data.size=0:=by simpa using this
    have h3:s.size=s.data.size:=rfl
    omega
  | cons b l =>
    have h0:s[0]'hk=b:=by
     have:s.data.toList[0]? = some b:=by rw [hl]; rfl
     have h2:s.data[0]? = some b:=by rw [← Array.getElem?_toList]; exact this
     have hk':0 < s.data.size:=hk
     rw [Array.getElem?_eq_getElem hk'] at h2
     exact Option.some.inj h2
    simp only
    rw [← h0]; exact hb
 rw [h1,Bool.true_and,List.all_eq_true]
 intro b hbm
 obtain ⟨i,hi,rfl⟩:=List.getElem_of_mem hbm
 have hi':i < s.size:=by simpa using hi
 exact ha i hi'
theorem AMG (G:Nat→AV) (s:ByteArray) (h:Hp) (hl:s.size≤1099511627776):PCall (En G) 194 [.str s] h (.bool (RQ s)):=by
 refine ACalls.pure0 rfl ?_
 refine CE (H:=Hint.none) (enM G) Tryz.func194 rfl (by kernel_rfl) (by kernel_rfl) (nLb (by kernel_rfl)) ?_
 show awp _ _ _ _ _ (EJ _ [.tmp 2] _)
 simp -implicitDefEqProofs only [BC,BR,BA,A8,AY,BB,AO,AQ,AL,BD,AX,AC,AA,AZ,AU,BM,BG,A7,ARZ,CB,BF,↓reduceIte,Nat.reduceEqDiff,oGs,bNf,enP,ASI]
 refine DT (fun n F H => ∃ k,n+k=s.size∧F 0 = .str s∧F 6 = .ptr h.length 0 0∧H=h ++ [.iter s k]∧(∀ i (hi:i < s.size),i < k→NE (s[i]'hi).toNat=true)∧(∀ hp:0 < s.size,0 < k→QS (s[0]'hp).toNat=true)) s.size ⟨0,by simp,rfl,by simp -implicitDefEqProofs only [AA,↓reduceIte],rfl,fun _ _ h=>absurd h (by omega),fun _ h=>absurd h (by omega)⟩ ?_
 rintro n F H ⟨k,hk,f0,f6,rfl,hall,h0⟩
 rcases Classical.em (k < s.size) with hp | hp
 ·have go : ∀ (r:Nat × Nat),Utf8.decode s k=r→(NE r.1=true→r=((s[k]'hp).toNat,1)∧NE (s[k]'hp).toNat=true)∧(NE r.1=false→RQ s=false)∧(QS r.1=false→k=0→RQ s=false)∧(QS r.1=true→NE r.1=true):=by
   rintro r rfl
   have lf : ∀ n,QS n=true→NE n=true:=fun n hn=>by unfold NE; rw [hn]; rfl
   rcases Nat.lt_or_ge (s[k]'hp).toNat 128 with ha | ha
   ·have hd:=decode_ascii s k hp ha
    rw [hd]
    exact ⟨fun hf=>⟨rfl,hf⟩,fun hf=>S9 hp hf,fun hf h0=>by subst h0; exact ZM hp hf,lf _⟩
   ·have hd:=(decode_high s k hp ha).1
    refine ⟨fun hf => ?_,fun _ => ?_,fun _ h0 => ?_,lf _⟩
    ·have:=YZ hf; omega
    ·refine S9 hp ?_
     cases hf:NE (s[k]'hp).toNat with
     | false=>rfl
     | true=>have:=YZ hf; omega
    ·refine S9 hp ?_
     cases hf:NE (s[k]'hp).toNat with
     | false=>rfl
     | true=>have:=YZ hf; omega
  simp -implicitDefEqProofs only [List.getElem?_cons_zero,List.getElem?_cons_succ,BC,BR,BA,BO,BI,A8,CY,AY,BB,BJ,BP,CO,AO,AQ,AL,BD,AX,AC,AA,AZ,AU,BH,BG,A7,BQ,AOF,FM,GZ,CB,AB,D5,↓reduceIte,Nat.reduceEqDiff,oGs,bNf,enP,f0,f6,AS1 hp]
  generalize hr:Utf8.decode s k=r at go
  obtain ⟨g1,g2,g3,g4⟩:=go r rfl
  have done : ∀ H',NE r.1=true→(k=0→QS r.1=true)→H'=h ++ [ABlk.iter s (k+r.2)]→∃ m,m < n∧∃ k',m+k'=s.size∧H'=h ++ [.iter s k']∧(∀ i (hi:i < s.size),i < k'→NE (s[i]'hi).toNat=true)∧(∀ hp:0 < s.size,0 < k'→QS (s[0]'hp).toNat=true):=by
   intro H' hf hlw hH
   obtain ⟨e1,e2⟩:=g1 hf
   refine ⟨n - 1,by omega,k+1,by omega,by rw [hH,e1],fun i hi hik => ?_,fun hp0 _ => ?_⟩
   ·rcases Nat.lt_or_ge i k with h' | h'
    ·exact hall i hi h'
    ·have:i=k:=by omega
     subst this; exact e2
   ·rcases Nat.eq_zero_or_pos k with h' | h'
    ·subst h'; have:=hlw rfl; rw [e1] at this; exact this
    ·exact h0 hp0 h'
  refine G9 (fun ha => ?_) (fun ha => ?_)
  ·have hk0:k=0:=by simp at ha; omega
   simp -implicitDefEqProofs only [BJ,BP,CO,F7,AO,AQ,AL,BD,AX,AC,AA,AZ,BX,BG,BZ,BU,lMc,lMn,lAn,↓reduceIte,Nat.reduceEqDiff,oGs,bNf,ha]
   refine (ABT G _ _).use ?_
   simp -implicitDefEqProofs only [AY,BJ,BP,CO,F7,AO,AQ,AL,BD,AX,AC,AA,AZ,AU,BM,BG,CP,DN,G6,AB,EY,↓reduceIte,Nat.reduceEqDiff,oGs,bNf]
   refine G9 (fun hb => ?_) (fun hb => ?_)
   ·simp -implicitDefEqProofs only [BC,BA,BL,BI,A8,CQ,D8,FI,CJ,CY,AY,BB,BJ,BP,CO,FQ,AO,AQ,AL,BD,AX,AC,AA,EP,AZ,AU,BM,A7,CP,DN,↓reduceIte,Nat.reduceEqDiff,oGs,bNf,hb]
    have hlw:QS r.1=false:=by simpa using hb
    exact ⟨by rw [g3 hlw hk0],_,rfl⟩
   have hlw:QS r.1=true:=by simpa using hb
   simp -implicitDefEqProofs only [BJ,BP,CO,EM,AO,AQ,AL,BD,AX,AC,AA,AZ,BX,BG,BZ,BU,lMc,lMn,lAn,↓reduceIte,Nat.reduceEqDiff,oGs,bNf,hb]
   refine (XY G _ _).use ?_
   simp -implicitDefEqProofs only [BI,A8,AY,BB,BJ,BP,CO,EM,AO,AQ,AL,BD,AX,AC,AA,AZ,AU,BM,CP,DR,G6,AB,EY,↓reduceIte,Nat.reduceEqDiff,oGs,bNf]
   have hf:=g4 hlw
   simp -implicitDefEqProofs only [BO,EE,EN,DU,AA,↓reduceIte,Nat.reduceEqDiff,bNt,hf]
   obtain ⟨m,h1,k',h2,h3,h4,h5⟩:=done _ hf (fun _=>hlw) rfl
   exact ⟨m,h1,k',h2,f0,f6,h3,h4,h5⟩
  ·have hk0:k≠0:=by intro e; subst e; simp at ha
   simp -implicitDefEqProofs only [AY,BJ,BP,CO,EM,H8,AO,AQ,AL,BD,AX,AC,AA,EP,AZ,AU,BX,BM,BG,CP,DR,BZ,BU,lMc,lMn,lAn,↓reduceIte,Nat.reduceEqDiff,oGs,bNf,ha]
   refine (XY G _ _).use ?_
   simp -implicitDefEqProofs only [BI,A8,AY,BB,BJ,BP,CO,EM,AO,AQ,AL,BD,AX,AC,AA,AZ,AU,BM,CP,DR,G6,AB,EY,↓reduceIte,Nat.reduceEqDiff,oGs,bNf]
   refine CV (fun hb => ?_) (fun hb => ?_)
   ·have hf:NE r.1=false:=by simpa using hb
    simp -implicitDefEqProofs only [BC,BA,BL,A8,CQ,D8,FI,CJ,AY,BB,AO,AQ,AL,BD,AX,AC,AA,AU,BM,A7,↓reduceIte,oGs,bNf]
    exact ⟨by rw [g2 hf],_,rfl⟩
   ·have hf:NE r.1=true:=by simpa using hb
    simp -implicitDefEqProofs only [BO,EE,EN,AA,↓reduceIte,Nat.reduceEqDiff]
    obtain ⟨m,h1,k',h2,h3,h4,h5⟩:=done _ hf (fun e=>absurd e hk0) rfl
    exact ⟨m,h1,k',h2,f0,f6,h3,h4,h5⟩
 ·simp -implicitDefEqProofs only [List.getElem?_cons_zero,BC,BA,BL,DJ,BI,A8,D9,EX,EW,CJ,DU,AY,BB,AO,AQ,AL,BD,AX,AC,AA,AZ,AU,IX,BG,A7,BQ,AOF,FM,GZ,CB,AB,ACQ,↓reduceIte,Nat.reduceEqDiff,oGs,bNf,enP,f0,f6,APE hp]
  have hks:k=s.size:=by omega
  refine ⟨?_,_,rfl⟩
  congr 1
  rcases Nat.eq_zero_or_pos s.size with hz | hz
  ·have:s=⟨#[]⟩:=by
    obtain ⟨d⟩:=s
    have:d.size=0:=hz
    rw [Array.eq_empty_of_size_eq_zero this]
   subst this
   rw [ByteArray.toList_eq]
   rfl
  ·rw [AGG hz (h0 hz (by omega)) (fun i hi=>hall i hi (by omega))]
   have hne:s.toList≠[]:=by
    rw [ByteArray.toList_eq]
    intro e
    have:s.data.toList.length=0:=by rw [e]; rfl
    have h2:s.data.size=0:=by simpa using this
    have h3:s.size=s.data.size:=rfl
    omega
   cases hl2:s.toList with
   | nil=>exact absurd hl2 hne
   | cons=>rw [ByteArray.toList_eq]; rfl
theorem NQ (G:Nat→AV) (hG:KwG G) (s:ByteArray) (h:Hp) (hl:s.size≤1099511627776):PCall (En G) 150 [.str s] h (.bool (H6 s)):=by
 refine CE (H:=Hint.none) (enM G) Tryz.func150 rfl (by kernel_rfl) (by kernel_rfl) (nLb (by kernel_rfl)) ?_
 show awp _ _ _ _ _ (EJ _ [.tmp 2] _)
 simp -implicitDefEqProofs only [BC,BA,A8,AY,BB,AO,AQ,AL,BD,AX,AC,AA,AZ,AU,BX,BM,BG,A7,BZ,BU,BF,lMc,lMn,lAn,↓reduceIte,Nat.reduceEqDiff,oGs,bNf,enP]
 refine (AMG G s h hl).use ?_
 simp -implicitDefEqProofs only [AY,BJ,BP,CO,AO,AQ,AL,BD,AX,AC,AA,AZ,BG,↓reduceIte,oGs,bNf]
 refine G9 (fun ha => ?_) (fun ha => ?_)
 ·simp -implicitDefEqProofs only [AY,BJ,BP,CO,F7,AO,AQ,AL,BD,AX,AC,AA,AZ,AU,BH,BM,BG,CP,DN,BQ,DZ,AB,IE,BF,↓reduceIte,Nat.reduceEqDiff,oGs,bNf,enP,ln9,ha]
  refine G9 (fun hb => ?_) (fun hb => ?_)
  ·simp -implicitDefEqProofs only [BJ,BP,CO,F7,AO,AQ,AL,BD,AX,AC,AA,AZ,BX,BG,BZ,BU,BF,lMc,lMn,lAn,↓reduceIte,Nat.reduceEqDiff,oGs,bNf,hb]
   refine (ABX G hG s h).use ?_
   simp -implicitDefEqProofs only [BL,A8,CJ,AY,BB,BJ,BP,CO,F7,AO,AQ,AL,BD,AX,AC,AA,AZ,AU,BM,A7,CP,DN,G6,AB,EY,↓reduceIte,Nat.reduceEqDiff,oGs,bNf]
   refine ⟨?_,trivial⟩
   have:decide (s.size≤16)=true:=by simp at hb ⊢; omega
   unfold H6; rw [ha,this]; rfl
  ·simp -implicitDefEqProofs only [BL,A8,CJ,AY,BB,BJ,BP,CO,H8,AO,AQ,AL,BD,AX,AC,AA,EP,AZ,AU,BM,A7,CP,DR,↓reduceIte,Nat.reduceEqDiff,oGs,bNf,hb]
   refine ⟨?_,trivial⟩
   have:decide (s.size≤16)=false:=by simp at hb ⊢; omega
   unfold H6; rw [ha,this]; rfl
 ·simp -implicitDefEqProofs only [BL,A8,CJ,AY,BB,BJ,BP,CO,H8,AO,AQ,AL,BD,AX,AC,AA,EP,AZ,AU,BM,BG,A7,CP,DR,↓reduceIte,Nat.reduceEqDiff,oGs,bNf,ha]
  exact ⟨by unfold H6; rw [ha]; rfl,trivial⟩
theorem ix9 (s:ByteArray) (k:Nat) (kk:IntKind) (hk:k < s.size):NI Tryz.prog 9 (.str s) (.int kk (k:Int))=some (.int .u8 (s[k]'hk).toNat):=by
 have hu:Tryz.prog.underlying 9=some .string:=by kernel_rfl
 have h0:(0:Int)≤(k:Int):=by omega
 have:s[k]? = some (s[k]'hk):=by simp [hk]
 simp [NI,hu,h0,this]
theorem OY (G:Nat→AV) (s:ByteArray) (h:Hp):PCall (En G) 160 [.str s] h (.bool (H6 s)):=by
 refine CE (H:=Hint.none) (enM G) Tryz.func160 rfl (by kernel_rfl) (by kernel_rfl) (nLb (by kernel_rfl)) ?_
 show awp _ _ _ _ _ (EJ _ [.tmp 2] _)
 simp -implicitDefEqProofs only [BC,BA,A8,AY,BB,BJ,BP,CO,AO,AQ,AL,BD,AX,AC,AA,AZ,AU,BM,IX,BG,A7,BQ,AB,LJ,BF,↓reduceIte,Nat.reduceEqDiff,oGs,bNf,enP]
 refine G9 (fun ha => ?_) (fun ha => ?_)
 ·simp -implicitDefEqProofs only [BC,BA,BL,BI,A8,CQ,CJ,CY,AY,BB,BJ,BP,CO,FQ,AO,AQ,AL,BD,AX,AC,AA,EP,AZ,AU,BM,BG,A7,CP,DN,↓reduceIte,Nat.reduceEqDiff,oGs,bNf,ha]
  refine ⟨?_,trivial⟩
  have:s.data.toList = []:=by
   rw [ByteArray.toList_eq,ByteArray.toList_eq] at ha
   have:=beq_iff_eq.1 ha
   exact this
  unfold H6 RQ; rw [this]; rfl
 have hz:0 < s.size:=by
  rcases Nat.eq_zero_or_pos s.size with hz | hz
  ·have:s=⟨#[]⟩:=by
    obtain ⟨d⟩:=s
    have:d.size=0:=hz
    rw [Array.eq_empty_of_size_eq_zero this]
   rw [this] at ha
   simp at ha
  ·exact hz
 simp -implicitDefEqProofs only [AY,BJ,BP,CO,EM,AO,AQ,AL,BD,AX,AC,AA,AZ,AU,BH,BM,BG,CP,DR,BQ,DZ,AB,EZ,BF,↓reduceIte,Nat.reduceEqDiff,oGs,bNf,enP,ln9,ha]
 refine G9 (fun hb => ?_) (fun hb => ?_)
 ·simp -implicitDefEqProofs only [BC,BA,BL,BI,A8,CQ,CJ,CY,AY,BB,BJ,BP,CO,FQ,AO,AQ,AL,BD,AX,AC,AA,EP,AZ,AU,BM,BG,A7,CP,DN,↓reduceIte,Nat.reduceEqDiff,oGs,bNf,hb]
  refine ⟨?_,trivial⟩
  have:decide (s.size≤16)=false:=by simp at hb ⊢; omega
  unfold H6; rw [this]; simp
 have h16:decide (s.size≤16)=true:=by simp at hb ⊢; omega
 simp -implicitDefEqProofs only [BJ,BP,CO,EM,AO,AQ,AL,BD,AX,AC,AA,AZ,AU,BH,BG,NW,BF,↓reduceIte,Nat.reduceEqDiff,oGs,bNf,enP,hb]
 refine JR (v := .int .u8 (s[0]'hz).toNat) (h:=h) (by rw [show (0:Int)=((0:Nat):Int) from rfl,ix9 s 0 .i64 hz]; rfl) ?_
 simp -implicitDefEqProofs only [BJ,BP,CO,EM,AO,AQ,AL,BD,AX,AC,AA,AZ,BX,BZ,BU,lMc,lMn,lAn,↓reduceIte,Nat.reduceEqDiff,oGs,bNf]
 refine (ADQ G _ h).use ?_
 simp -implicitDefEqProofs only [AY,BJ,BP,CO,EM,AO,AQ,AL,BD,AX,AC,AA,AZ,AU,BM,BG,CP,DR,G6,AB,EY,↓reduceIte,Nat.reduceEqDiff,oGs,bNf]
 refine G9 (fun hc => ?_) (fun hc => ?_)
 ·simp -implicitDefEqProofs only [BC,BA,BL,BI,A8,CQ,CJ,CY,AY,BB,BJ,BP,CO,FQ,AO,AQ,AL,BD,AX,AC,AA,EP,AZ,AU,BM,A7,CP,DN,↓reduceIte,Nat.reduceEqDiff,oGs,bNf,hc]
  refine ⟨?_,trivial⟩
  unfold H6; rw [ZM hz (by simpa using hc)]; rfl
 simp -implicitDefEqProofs only [BJ,BP,CO,EM,AO,AQ,AL,BD,AX,AC,AA,AZ,BX,BG,BZ,BU,BF,lMc,lMn,lAn,↓reduceIte,Nat.reduceEqDiff,oGs,bNf,hc]
 refine (AC7 G s h).use ?_
 simp -implicitDefEqProofs only [BI,A8,AY,BB,AO,AQ,AL,BD,AX,AC,AA,AZ,AU,BM,CP,DR,↓reduceIte,Nat.reduceEqDiff,oGs,bNf]
 refine CV (fun hd => ?_) (fun hd => ?_)
 ·simp -implicitDefEqProofs only [BC,BA,BL,A8,CQ,CJ,AY,BB,AO,AQ,AL,BD,AX,AC,AA,AU,BM,A7,↓reduceIte,oGs,bNf]
  refine ⟨?_,trivial⟩
  unfold H6; rw [hd]; simp
 simp -implicitDefEqProofs only [BC,BR,BA,BO,A8,AY,BB,AO,AQ,AL,BD,AX,AC,AU,BH,A7,oGs,bNf]
 have hlow:QS (s[0]'hz).toNat=true:=by simpa using hc
 refine DT (fun n F H => ∃ k,n+k=s.size∧F 0 = .str s∧F 3 = .int .i64 (k:Nat)∧H=h∧(∀ i (hi:i < s.size),i < k→NE (s[i]'hi).toNat=true)) s.size ⟨0,by simp,by simp -implicitDefEqProofs only [AA,BF,↓reduceIte,Nat.reduceEqDiff],by simp -implicitDefEqProofs only [AA,↓reduceIte]; rfl,rfl,fun _ _ h=>absurd h (by omega)⟩ ?_
 rintro n F H ⟨k,hk,f0,f3,rfl,hall⟩
 simp -implicitDefEqProofs only [BC,BA,BI,A8,AY,BB,AO,AQ,AL,BD,AX,AC,AA,AZ,BG,BQ,DZ,AB,DC,↓reduceIte,Nat.reduceEqDiff,oGs,bNf,enP,ln9,f0,f3]
 refine CV (fun he => ?_) (fun he => ?_)
 ·have hk':k < s.size:=by simpa using he
  simp -implicitDefEqProofs only [BC,BR,BA,BO,A8,AY,AO,AQ,AL,BD,AX,AC,AA,AZ,BX,BG,NW,BZ,BU,AB,lMc,lMn,lAn,↓reduceIte,Nat.reduceEqDiff,oGs,bNf,enP,f0,f3,ix9 s k .i64 hk']
  refine (ANB G _ _).use ?_
  simp -implicitDefEqProofs only [BI,A8,AY,BB,AO,AQ,AL,BD,AX,AC,AA,AZ,G6,AB,EY,↓reduceIte,oGs,bNf]
  refine CV (fun hf => ?_) (fun hf => ?_)
  ·simp -implicitDefEqProofs only [BC,BA,BL,A8,CQ,D8,FI,CJ,AY,BB,AO,AQ,AL,BD,AX,AC,AA,AU,BM,A7,↓reduceIte,oGs,bNf]
   refine ⟨?_,trivial⟩
   unfold H6; rw [S9 hk' (by simpa using hf)]; rfl
  ·simp -implicitDefEqProofs only [BA,BO,A8,EE,EN,AY,BB,AO,AQ,AL,BD,AX,AC,AA,AZ,AU,BH,BG,A7,BQ,AB,DF,↓reduceIte,Nat.reduceEqDiff,oGs,bNf,enP,f3,wrap_succ (show k < 9223372036854775807 by simp at h16; omega)]
   refine ⟨n - 1,by omega,k+1,by omega,f0,rfl,trivial,fun i hi hik => ?_⟩
   rcases Nat.lt_or_ge i k with h' | h'
   ·exact hall i hi h'
   ·have:i=k:=by omega
    subst this; simpa using hf
 ·have hk' : ¬ k < s.size:=by simpa using he
  simp -implicitDefEqProofs only [BC,BA,BL,DJ,A8,D9,EX,EW,CJ,AY,BB,AO,AQ,AL,BD,AX,AC,AA,AU,BM,A7,↓reduceIte,oGs,bNf]
  refine ⟨?_,trivial⟩
  unfold H6
  rw [AGG hz hlow (fun i hi=>hall i hi (by omega)),h16,hd]; rfl
def JP (b:Bin):Bool :=
 decide (b.kind < 0) || decide (b.kind > 2) || (decide ((b.ranges.l.length:Int) > 0) == decide ((b.steps.length:Int) > 0)) || (b.kind != 0 && decide ((b.steps.length:Int) > 0)) || ((b.steps.length:Int) == 1) || decide ((b.steps.length:Int) > 8)
def HY (b:Bin):Int :=
 if H6 b.name then if JP b then 1 else if b.steps.any (fun l=>decide (l.l.length=0)) then 1 else
  if (sets b).any (fun l=>decide (l.l.length > 64)) then 2 else if (sets b).any (fun l=>l.l.any bad) then 1 else 0
 else 7
def shape (b:Bin):Bool :=
 if (b.kind != 0 && b.kind != 1 && b.kind != 2) then false else if ((b.steps.length:Int) == 0) then decide ((b.ranges.l.length:Int) > 0) else
  if (decide ((b.ranges.l.length:Int) > 0) || b.kind != 0 || decide ((b.steps.length:Int) < 2) || decide ((b.steps.length:Int) > 8)) then false else !(b.steps.any (fun l=>decide (l.l.length=0)))
theorem AJB : ∀ (n p z o t r s0 s1 s8 E:Bool),((n || p || z || o || t) && !(n && p) && !(n && z) && !(n && o) && !(n && t) && !(p && z) && !(p && o) && !(p && t) && !(z && o) && !(z && t) && !(o && t) && !(s0 && s1) && !(s0 && s8) && !(s1 && s8) && !(s0 && E))=true →
 (if (!z && !o && !t) then false else if s0 then r else if (r || !z || (s0 || s1) || s8) then false else !E)=(!(n || p || (r == !s0) || (!z && !s0) || s1 || s8) && !E):=by decide +kernel
theorem AMR (k r s:Int) (E:Bool) (hs:0≤s) (hE:s=0→E=false) :
  (if (k != 0 && k != 1 && k != 2) then false else if (s == 0) then decide (r > 0) else if (decide (r > 0) || k != 0 || decide (s < 2) || decide (s > 8)) then false else !E) =
  (!(decide (k < 0) || decide (k > 2) || (decide (r > 0) == decide (s > 0)) || (k != 0 && decide (s > 0)) || (s == 1) || decide (s > 8)) && !E):=by
 have h1:decide (s > 0) = !(s == 0):=by rw [Bool.eq_iff_iff]; simp; omega
 have h2:decide (s < 2)=((s == 0) || (s == 1)):=by rw [Bool.eq_iff_iff]; simp; omega
 rw [h1,h2]
 have key:=AJB (decide (k < 0)) (decide (k > 2)) (k == 0) (k == 1) (k == 2) (decide (r > 0)) (s == 0) (s == 1) (decide (s > 8)) E ?_
 ·exact key
 ·have a1:(decide (k < 0) || decide (k > 2) || (k == 0) || (k == 1) || (k == 2))=true:=by simp; omega
  have no : ∀ (p q:Prop) [Decidable p] [Decidable q],¬ (p∧q)→(!(decide p && decide q))=true:=by
   intro p q _ _ h; by_cases hp:p <;> by_cases hq:q <;> simp_all
  have e0:(s == 0 && E)=false:=by
   by_cases hz:s=0
   ·rw [hE hz]; simp
   ·simp [hz]
  have b0:(k == 0)=decide (k=0):=rfl
  have b1:(k == 1)=decide (k=1):=rfl
  have b2:(k == 2)=decide (k=2):=rfl
  have c0:(s == 0)=decide (s=0):=rfl
  have c1:(s == 1)=decide (s=1):=rfl
  rw [e0]
  rw [b0,b1,b2] at a1 ⊢
  rw [c0,c1,a1,no _ _ (show ¬ (k < 0∧k > 2) by omega),no _ _ (show ¬ (k < 0∧k=0) by omega),no _ _ (show ¬ (k < 0∧k=1) by omega),no _ _ (show ¬ (k < 0∧k=2) by omega),
   no _ _ (show ¬ (k > 2∧k=0) by omega),no _ _ (show ¬ (k > 2∧k=1) by omega),no _ _ (show ¬ (k > 2∧k=2) by omega),no _ _ (show ¬ (k=0∧k=1) by omega),no _ _ (show ¬ (k=0∧k=2) by omega),no _ _ (show ¬ (k=1∧k=2) by omega),
   no _ _ (show ¬ (s=0∧s=1) by omega),no _ _ (show ¬ (s=0∧s > 8) by omega),no _ _ (show ¬ (s=1∧s > 8) by omega)]
  rfl
theorem AGV (b:Bin):shape b=(!JP b && !(b.steps.any (fun l=>decide (l.l.length=0)))) :=
 AMR b.kind b.ranges.l.length b.steps.length _ (by omega) (fun h=>by
  have:b.steps = []:=List.eq_nil_of_length_eq_zero (by omega)
  rw [this]; rfl)
theorem AJA (G:Nat→AV) (b:Bin) (h:Hp) (hl:b.steps.length≤1099511627776):PCall (En G) 201 [.agg (GN b)] h (.bool (shape b)):=by
 refine ACalls.pure0 rfl ?_
 refine CE (H:=Hint.none) (enM G) Tryz.func201 rfl (by kernel_rfl) (by kernel_rfl) (nLb (by kernel_rfl)) ?_
 show awp _ _ _ _ _ (EJ _ [.tmp 2] _)
 simp -implicitDefEqProofs only [BC,BR,BA,A8,AY,BB,BJ,BP,CO,AO,AQ,AL,BD,AX,AC,AA,AZ,AU,BH,BM,BG,A7,FV,BV,BQ,BK,DZ,CB,AB,EG,BF,↓reduceIte,Nat.reduceEqDiff,Nat.zero_add,oGs,bNf,enP,PW,MW,MV,bxB,DI SS,DI OI,DI ag3,U8,X9,SK,lLm]
 refine RJ (fun F H=>F 7 = .bool (b.kind != 0 && b.kind != 1 && b.kind != 2)∧F 1 = .ptr h.length 0 0∧F 3 = .int .i64 b.steps.length∧H=h ++ [.live 4 [GN b]]) ?_ ?_
 ·refine G9 (fun ha => ?_) (fun ha => ?_)
  ·simp -implicitDefEqProofs only [AY,BJ,BP,CO,F7,AO,AQ,AL,BD,AX,AC,AA,AZ,AU,BH,BM,BG,CP,DN,BV,BQ,BK,AB,EG,↓reduceIte,Nat.reduceEqDiff,Nat.zero_add,oGs,bNf,enP,MW,ha,DI ag3,U8]
   refine G9 (fun hb => ?_) (fun hb => ?_)
   ·simp -implicitDefEqProofs only [AY,BB,BJ,BP,CO,F7,AO,AQ,AL,BD,AX,AC,AA,AZ,AU,BH,BM,A7,CP,DN,BV,BQ,BK,AB,EG,↓reduceIte,Nat.reduceEqDiff,Nat.zero_add,oGs,bNf,enP,MW,hb,DI ag3,U8]
    exact ⟨rfl,trivial,trivial,trivial⟩
   ·simp -implicitDefEqProofs only [AY,BB,BJ,BP,CO,H8,AO,AQ,AL,BD,AX,AC,AA,EP,AZ,AU,BM,A7,CP,DR,↓reduceIte,Nat.reduceEqDiff,oGs,bNf,hb]
    exact ⟨rfl,trivial,trivial,trivial⟩
  ·simp -implicitDefEqProofs only [AY,BB,BJ,BP,CO,H8,AO,AQ,AL,BD,AX,AC,AA,EP,AZ,AU,BM,BG,A7,CP,DR,↓reduceIte,Nat.reduceEqDiff,oGs,bNf,ha]
   exact ⟨rfl,trivial,trivial,trivial⟩
 rintro F H ⟨f7,f1,f3,rfl⟩
 simp -implicitDefEqProofs only [BI,A8,AZ,f7,f1,f3]
 refine CV (fun hk => ?_) (fun hk => ?_)
 ·simp -implicitDefEqProofs only [BC,BA,BL,A8,CQ,D8,CJ,AY,BB,AO,AQ,AL,BD,AX,AC,AA,AU,BM,A7,↓reduceIte,oGs,bNf]
  exact ⟨by unfold shape; rw [if_pos hk],_,rfl⟩
 have hk' : ¬ (b.kind != 0 && b.kind != 1 && b.kind != 2)=true:=by rw [hk]; simp
 simp -implicitDefEqProofs only [BC,BA,BI,A8,AY,BB,AO,AQ,AL,BD,AX,AC,AA,AZ,AU,BH,BG,A7,BQ,AB,D5,↓reduceIte,oGs,bNf,enP,f1,f3]
 refine CV (fun hs => ?_) (fun hs => ?_)
 ·simp -implicitDefEqProofs only [BC,BA,BL,A8,CQ,D8,CJ,AY,BB,AO,AQ,AL,BD,AX,AC,AA,AZ,AU,BH,A7,BV,BQ,BK,DZ,AB,EZ,↓reduceIte,Nat.reduceEqDiff,Nat.zero_add,oGs,bNf,enP,QL,PE,f1,DI OI,X9,lLm]
  exact ⟨by unfold shape; rw [if_neg hk',if_pos hs],_,rfl⟩
 have hs' : ¬ ((b.steps.length:Int) == 0)=true:=by rw [hs]; simp
 simp -implicitDefEqProofs only [BC,BA,AY,BJ,BP,CO,AO,AQ,AL,BD,AX,AC,AA,AZ,AU,BH,BG,BV,BQ,BK,DZ,AB,EZ,↓reduceIte,Nat.reduceEqDiff,Nat.zero_add,oGs,bNf,enP,QL,PE,f1,f3,DI OI,X9,lLm]
 refine RJ (fun F H=>F 28 = .bool (decide ((b.ranges.l.length:Int) > 0) || b.kind != 0 || decide ((b.steps.length:Int) < 2) || decide ((b.steps.length:Int) > 8))∧F 1 = .ptr h.length 0 0∧H=h ++ [.live 4 [GN b]]) ?_ ?_
 ·refine G9 (fun ha => ?_) (fun ha => ?_)
  ·simp -implicitDefEqProofs only [Bool.true_or,AY,BB,BJ,BP,CO,FQ,AO,AQ,AL,BD,AX,AC,AA,EP,AZ,AU,BM,BG,A7,CP,DN,↓reduceIte,Nat.reduceEqDiff,oGs,bNf,ha,f1]
   exact ⟨trivial,trivial,trivial⟩
  simp -implicitDefEqProofs only [Bool.false_or,AY,BJ,BP,CO,EM,AO,AQ,AL,BD,AX,AC,AA,AZ,AU,BH,BM,BG,CP,DR,BV,BQ,BK,AB,EG,↓reduceIte,Nat.reduceEqDiff,Nat.zero_add,oGs,bNf,enP,MW,ha,f1,DI ag3,U8]
  refine G9 (fun hb => ?_) (fun hb => ?_)
  ·simp -implicitDefEqProofs only [Bool.true_or,AY,BB,BJ,BP,CO,FQ,AO,AQ,AL,BD,AX,AC,AA,EP,AZ,AU,BM,BG,A7,CP,DN,↓reduceIte,Nat.reduceEqDiff,oGs,bNf,hb,f1]
   exact ⟨trivial,trivial,trivial⟩
  simp -implicitDefEqProofs only [Bool.false_or,AY,BJ,BP,CO,EM,AO,AQ,AL,BD,AX,AC,AA,AZ,AU,BH,BM,BG,CP,DR,BQ,AB,DC,↓reduceIte,Nat.reduceEqDiff,oGs,bNf,enP,hb,f1,f3]
  refine G9 (fun hc => ?_) (fun hc => ?_)
  ·simp -implicitDefEqProofs only [Bool.true_or,AY,BB,BJ,BP,CO,FQ,AO,AQ,AL,BD,AX,AC,AA,EP,AZ,AU,BM,A7,CP,DN,↓reduceIte,Nat.reduceEqDiff,oGs,bNf,hc,f1]
   exact ⟨trivial,trivial,trivial⟩
  ·simp -implicitDefEqProofs only [Bool.false_or,AY,BB,BJ,BP,CO,EM,AO,AQ,AL,BD,AX,AC,AA,AZ,AU,BH,BM,BG,A7,CP,DR,BQ,AB,EZ,↓reduceIte,Nat.reduceEqDiff,oGs,bNf,enP,hc,f1,f3]
   exact ⟨trivial,trivial,trivial⟩
 rintro F H ⟨f28,f1,rfl⟩
 simp -implicitDefEqProofs only [BI,A8,AZ,f28,f1]
 refine CV (fun ho => ?_) (fun ho => ?_)
 ·simp -implicitDefEqProofs only [BC,BA,BL,A8,CQ,D8,CJ,AY,BB,AO,AQ,AL,BD,AX,AC,AA,AU,BM,A7,↓reduceIte,oGs,bNf]
  exact ⟨by unfold shape; rw [if_neg hk',if_neg hs',if_pos ho],_,rfl⟩
 have ho' : ¬ (decide ((b.ranges.l.length:Int) > 0) || b.kind != 0 || decide ((b.steps.length:Int) < 2) || decide ((b.steps.length:Int) > 8))=true:=by rw [ho]; simp
 simp -implicitDefEqProofs only [BC,BA,BO,A8,EE,AY,AO,AQ,AL,BD,AX,AC,AA,AZ,BX,BV,BK,BZ,BU,AB,lMc,lMn,lAn,↓reduceIte,Nat.zero_add,oGs,bNf,enP,MV,f1,DI SS,SK]
 refine (ACJ G b.steps b.sm 235 [] (fun l=>decide (l.l.length=0)) _ hl fun r=>AQG G r _).use ?_
 simp -implicitDefEqProofs only [BL,A8,CJ,AY,BB,AO,AQ,AL,BD,AX,AC,AA,AZ,A7,G6,AB,EY,↓reduceIte,oGs,bNf]
 exact ⟨by unfold shape; rw [if_neg hk',if_neg hs',if_neg ho'],_,rfl⟩
theorem ZO {b:Bin} (h:H6 b.name=false):HY b=7:=by unfold HY; rw [h]; rfl
theorem XH {b:Bin} (h:H6 b.name=true) (hs:JP b=true):HY b=1:=by unfold HY; rw [h,hs]; rfl
theorem XI {b:Bin} (h:H6 b.name=true) (hs:b.steps.any (fun l=>decide (l.l.length=0))=true):HY b=1:=by
 unfold HY; rw [h,hs]; cases JP b <;> rfl
theorem UD {b:Bin} (h:H6 b.name=true) (hs:JP b=false) (he:b.steps.any (fun l=>decide (l.l.length=0))=false) :
  HY b=if (sets b).any (fun l=>decide (l.l.length > 64)) then 2 else if (sets b).any (fun l=>l.l.any bad) then 1 else 0:=by
 unfold HY; rw [h,hs,he]; rfl
structure BinOk (b:Bin):Prop where
 num:(sets b).length≤1099511627776
 name:b.name.size≤1099511627776
 steps:b.steps.length≤1099511627776
 sets : ∀ l∈sets b,l.l.length≤1099511627776
theorem AG8 (xs:List Rng):decide (I9 xs=2)=decide (xs.length > 64):=by
 unfold I9
 split
 ·simp_all
 ·split <;> simp_all
theorem ZQ (xs:List Rng):decide (I9 xs=1)=(decide (¬ xs.length > 64) && xs.any bad):=by
 unfold I9
 split
 ·rename_i h; simp [h]
 ·rename_i h
  split
  ·rename_i h2; simp only [h2,h]; rfl
  ·rename_i h2; simp only [Bool.not_eq_true] at h2; simp only [h2]; simp
theorem AOJ {b:Bin} (h:H6 b.name=true) (hs:JP b=false) (he:b.steps.any (fun l=>decide (l.l.length=0))=false) :
  HY b=if (sets b).any (fun l=>decide (I9 l.l=2)) then 2 else if (sets b).any (fun l=>decide (I9 l.l=1)) then 1 else 0:=by
 rw [UD h hs he]
 simp only [AG8]
 split
 ·rfl
 ·rename_i hn
  have:(sets b).any (fun l=>decide (I9 l.l=1))=(sets b).any (fun l=>l.l.any bad):=by
   rw [Bool.eq_iff_iff,List.any_eq_true,List.any_eq_true]
   constructor
   ·rintro ⟨l,h1,h2⟩
    rw [ZQ] at h2
    simp only [Bool.and_eq_true] at h2
    exact ⟨l,h1,h2.2⟩
   ·rintro ⟨l,h1,h2⟩
    refine ⟨l,h1,?_⟩
    rw [ZQ,h2]
    rw [Bool.not_eq_true,List.any_eq_false] at hn
    have:=hn l h1
    simp only [decide_eq_true_eq] at this
    simp only [this,not_false_eq_true,decide_true,Bool.and_self]
  rw [this]
theorem VD {α:Type} (p:α→Bool) (xs:List α) (k:Nat) (h:k < xs.length):(xs.take (k+1)).any p=((xs.take k).any p || p xs[k]):=by
 rw [List.take_succ_eq_append_getElem h,List.any_append,List.any_cons,List.any_nil,Bool.or_false]
theorem AA8 (G:Nat→AV) (hG:KwG G) (b:Bin) (hb:BinOk b) (h:Hp):PCall (En G) 152 [.agg (GN b)] h (.int .i64 (HY b)):=by
 refine ACalls.pure0 rfl ?_
 refine CE (H:=Hint.none) (enM G) Tryz.func152 rfl (by kernel_rfl) (by kernel_rfl) (nLb (by kernel_rfl)) ?_
 show awp _ _ _ _ _ (EJ _ [.tmp 2] _)
 simp -implicitDefEqProofs only [BC,BA,A8,AY,BB,AO,AQ,AL,BD,AX,AC,AA,AZ,AU,BX,BH,A7,FV,BV,BK,BZ,BU,CB,AB,BF,lMc,lMn,lAn,↓reduceIte,Nat.reduceEqDiff,Nat.add_zero,oGs,bNf,enP,AAX,bxB,DI ag9,AL5]
 refine (NQ G hG b.name _ hb.name).use ?_
 simp -implicitDefEqProofs only [BI,A8,AY,BB,AO,AQ,AL,BD,AX,AC,AA,AZ,G6,AB,EY,↓reduceIte,oGs,bNf]
 refine CV (fun hn => ?_) (fun hn => ?_)
 ·simp -implicitDefEqProofs only [BC,BA,BL,A8,CQ,CJ,AY,BB,AO,AQ,AL,BD,AX,AC,AA,AU,BH,A7,↓reduceIte,oGs,bNf]
  exact ⟨by rw [ZO (by simpa using hn)],_,rfl⟩
 have hn':H6 b.name=true:=by simpa using hn
 simp -implicitDefEqProofs only [BC,BA,BO,A8,AY,AO,AQ,AL,BD,AX,AC,AA,AZ,BX,BV,BZ,BU,AB,lMc,lMn,lAn,↓reduceIte,Nat.reduceEqDiff,oGs,bNf,enP,ldB]
 refine (AJA G b _ hb.steps).use ?_
 simp -implicitDefEqProofs only [BI,A8,AY,BB,AO,AQ,AL,BD,AX,AC,AA,AZ,G6,AB,EY,↓reduceIte,oGs,bNf]
 refine CV (fun hs => ?_) (fun hs => ?_)
 ·simp -implicitDefEqProofs only [BC,BA,BL,A8,CQ,CJ,AY,BB,AO,AQ,AL,BD,AX,AC,AA,AU,BH,A7,↓reduceIte,oGs,bNf]
  refine ⟨?_,_,rfl⟩
  have h1:shape b=false:=by simpa using hs
  rw [AGV] at h1
  cases hr:JP b with
  | true=>rw [XH hn' hr]
  | false =>
    rw [hr] at h1
    rw [XI hn' (by simpa using h1)]
 have h1:shape b=true:=by simpa using hs
 rw [AGV] at h1
 simp only [Bool.and_eq_true,Bool.not_eq_true'] at h1
 have hv:=UD hn' h1.1 h1.2
 simp -implicitDefEqProofs only [BC,BA,BO,A8,AY,BB,AO,AQ,AL,BD,AX,AC,AA,AZ,AU,BX,BM,A7,BV,BZ,BU,AB,lMc,lMn,lAn,↓reduceIte,Nat.reduceEqDiff,oGs,bNf,enP,ldB]
 refine (ADR G b _).use ?_
 simp -implicitDefEqProofs only [BR,A8,AY,BB,AO,AQ,AL,BD,AX,AC,AA,AZ,AU,BH,BG,DZ,AB,↓reduceIte,oGs,bNf,enP,PW,lLm]
 refine DT (fun n F H => ∃ k,n+k=(sets b).length∧F 3 = .bool (((sets b).take k).any fun l=>decide (I9 l.l=2))∧F 4 = .bool (((sets b).take k).any fun l=>decide (I9 l.l=1))∧F 15 = .sl (QX b) 1 ((sets b).map encS)∧F 16 = .int .i64 (sets b).length∧F 17 = .int .i64 (k:Nat)∧H=h ++ [.live 4 [GN b]]) (sets b).length ⟨0,by simp,rfl,rfl,rfl,rfl,rfl,rfl⟩ ?_
 rintro n F H ⟨k,hk,f3,f4,f15,f16,f17,rfl⟩
 simp -implicitDefEqProofs only [BC,BA,BI,A8,AY,BB,AO,AQ,AL,BD,AX,AC,AA,AZ,BQ,AB,DC,↓reduceIte,oGs,bNf,enP,f15,f16,f17]
 refine CV (fun hc => ?_) (fun hc => ?_)
 ·have hc':k < (sets b).length:=by simpa using hc
  simp -implicitDefEqProofs only [BC,BR,BA,BO,A8,AY,BB,AO,AQ,AL,BD,AX,AC,AA,AZ,BX,BG,A7,BV,CG,BZ,BU,AB,lMc,lMn,lAn,↓reduceIte,Nat.reduceEqDiff,oGs,bNf,enP,ZV,f15,f17,D6 hc',DV OI hc',ZZ]
  refine (AG7 G _ _ _ (hb.sets _ (List.getElem_mem hc'))).use ?_
  have t2:=VD (fun l:Rs=>decide (I9 l.l=2)) (sets b) k hc'
  have t1:=VD (fun l:Rs=>decide (I9 l.l=1)) (sets b) k hc'
  simp -implicitDefEqProofs only [BC,BR,BA,BI,A8,AY,BB,AO,AQ,AL,BD,AX,AC,AA,AZ,AU,BH,A7,BQ,AB,D5,↓reduceIte,oGs,bNf,enP]
  refine CV (fun hd => ?_) (fun hd => ?_)
  ·have hd':I9 (sets b)[k].l=2:=by simpa using hd
   simp -implicitDefEqProofs only [BA,A8,EE,EN,AY,BB,AO,AQ,AL,BD,AX,AC,AA,AZ,AU,BH,BM,BG,A7,BQ,AB,DF,↓reduceIte,Nat.reduceEqDiff,oGs,bNf,enP,f17,wrap_succ (show k < 9223372036854775807 by have:=hb.num; omega)]
   refine ⟨n - 1,by omega,k+1,by omega,?_,?_,f15,f16,rfl,trivial⟩
   ·rw [t2,hd']; simp
   ·rw [f4,t1,hd']; simp
  simp -implicitDefEqProofs only [BC,BA,BI,A8,AY,BB,AO,AQ,AL,BD,AX,AC,AA,AZ,AU,BH,A7,BQ,AB,D5,↓reduceIte,Nat.reduceEqDiff,oGs,bNf,enP]
  refine CV (fun he => ?_) (fun he => ?_)
  ·have he':I9 (sets b)[k].l=1:=by simpa using he
   simp -implicitDefEqProofs only [BA,A8,EE,EN,AY,BB,AO,AQ,AL,BD,AX,AC,AA,AZ,AU,BH,BM,BG,A7,BQ,AB,DF,↓reduceIte,Nat.reduceEqDiff,oGs,bNf,enP,f17,wrap_succ (show k < 9223372036854775807 by have:=hb.num; omega)]
   refine ⟨n - 1,by omega,k+1,by omega,?_,?_,f15,f16,rfl,trivial⟩
   ·rw [f3,t2,he']; simp
   ·rw [t1,he']; simp
  ·have hd':I9 (sets b)[k].l≠2:=by simpa using hd
   have he':I9 (sets b)[k].l≠1:=by simpa using he
   simp -implicitDefEqProofs only [BA,BO,A8,EE,EN,AY,BB,AO,AQ,AL,BD,AX,AC,AA,AZ,AU,BH,BG,BQ,AB,DF,↓reduceIte,Nat.reduceEqDiff,oGs,bNf,enP,f17,wrap_succ (show k < 9223372036854775807 by have:=hb.num; omega)]
   refine ⟨n - 1,by omega,k+1,by omega,?_,?_,f15,f16,rfl,trivial⟩
   ·rw [f3,t2]; simp [hd']
   ·rw [f4,t1]; simp [he']
 ·have hc' : ¬ k < (sets b).length:=by simpa using hc
  rw [List.take_of_length_le (by omega)] at f3 f4
  have hE:=AOJ hn' h1.1 h1.2
  simp -implicitDefEqProofs only [BC,BR,BA,DJ,BI,A8,D9,EX,EW,AY,BB,AO,AQ,AL,BD,AX,AC,AA,AZ,BG,A7,↓reduceIte,Nat.reduceEqDiff,oGs,bNf,f3,f4]
  refine CV (fun hd => ?_) (fun hd => ?_)
  ·simp -implicitDefEqProofs only [BC,BA,BL,A8,CQ,D8,CJ,AY,BB,AO,AQ,AL,BD,AX,AC,AA,AU,BH,A7,↓reduceIte,oGs,bNf]
   exact ⟨by rw [hE,if_pos hd],_,rfl⟩
  simp -implicitDefEqProofs only [BC,BA,BI,A8,AY,BB,AO,AQ,AL,BD,AX,AC,AA,AZ,BG,A7,↓reduceIte,Nat.reduceEqDiff,oGs,bNf,f4]
  refine CV (fun he => ?_) (fun he => ?_)
  ·simp -implicitDefEqProofs only [BC,BA,BL,A8,CQ,D8,CJ,AY,BB,AO,AQ,AL,BD,AX,AC,AA,AU,BH,A7,↓reduceIte,oGs,bNf]
   exact ⟨by rw [hE,if_neg (by rw [hd]; simp),if_pos he],_,rfl⟩
  ·simp -implicitDefEqProofs only [BC,BA,BO,BL,A8,EE,CJ,AY,BB,AO,AQ,AL,BD,AX,AC,AA,AU,BH,A7,↓reduceIte,oGs,bNf]
   exact ⟨by rw [hE,if_neg (by rw [hd]; simp),if_neg (by rw [he]; simp)],_,rfl⟩
theorem ADO (G:Nat→AV) (b:Bin) (hb:BinOk b) (h:Hp):PCall (En G) 162 [.agg (GN b)] h (.int .i64 (HY b)):=by
 refine ACalls.pure0 rfl ?_
 refine CE (H:=Hint.none) (enM G) Tryz.func162 rfl (by kernel_rfl) (by kernel_rfl) (nLb (by kernel_rfl)) ?_
 show awp _ _ _ _ _ (EJ _ [.tmp 2] _)
 simp -implicitDefEqProofs only [BC,BA,A8,AY,BB,AO,AQ,AL,BD,AX,AC,AA,AZ,AU,BX,BH,A7,FV,BV,BK,BZ,BU,CB,AB,BF,lMc,lMn,lAn,↓reduceIte,Nat.reduceEqDiff,Nat.add_zero,oGs,bNf,enP,AAX,bxB,DI ag9,AL5]
 refine (OY G b.name _).use ?_
 simp -implicitDefEqProofs only [BI,A8,AY,BB,AO,AQ,AL,BD,AX,AC,AA,AZ,G6,AB,EY,↓reduceIte,oGs,bNf]
 refine CV (fun hn => ?_) (fun hn => ?_)
 ·simp -implicitDefEqProofs only [BC,BA,BL,A8,CQ,CJ,AY,BB,AO,AQ,AL,BD,AX,AC,AA,AU,BH,A7,↓reduceIte,oGs,bNf]
  exact ⟨by rw [ZO (by simpa using hn)],_,rfl⟩
 have hn':H6 b.name=true:=by simpa using hn
 simp -implicitDefEqProofs only [BC,BA,BO,A8,AY,BJ,BP,CO,AO,AQ,AL,BD,AX,AC,AA,AZ,AU,BH,BG,BV,BQ,BK,AB,DC,↓reduceIte,Nat.reduceEqDiff,Nat.zero_add,oGs,bNf,enP,MW,DI ag3,U8]
 refine RJ (fun F H=>F 53 = .bool (JP b)∧F 1 = .ptr h.length 0 0∧H=h ++ [.live 4 [GN b]]) ?_ ?_
 ·refine G9 (fun ha => ?_) (fun ha => ?_)
  ·simp -implicitDefEqProofs only [AY,BB,BJ,BP,CO,FQ,QR,AO,AQ,AL,BD,AX,AC,AA,EP,AZ,AU,BM,BG,CP,DN,↓reduceIte,Nat.reduceEqDiff,oGs,bNf,ha]
   exact ⟨by unfold JP; rw [ha]; rfl,trivial,trivial⟩
  simp -implicitDefEqProofs only [AY,BJ,BP,CO,EM,AO,AQ,AL,BD,AX,AC,AA,AZ,AU,BH,BM,BG,CP,DR,BV,BQ,BK,AB,EZ,↓reduceIte,Nat.reduceEqDiff,Nat.zero_add,oGs,bNf,enP,MW,ha,DI ag3,U8]
  refine G9 (fun hb => ?_) (fun hb => ?_)
  ·simp -implicitDefEqProofs only [AY,BB,BJ,BP,CO,FQ,QR,AO,AQ,AL,BD,AX,AC,AA,EP,AZ,AU,BM,BG,CP,DN,↓reduceIte,Nat.reduceEqDiff,oGs,bNf,hb]
   exact ⟨by unfold JP; rw [ha,hb]; rfl,trivial,trivial⟩
  simp -implicitDefEqProofs only [AY,BJ,BP,CO,EM,AO,AQ,AL,BD,AX,AC,AA,AZ,AU,BH,BM,BG,CP,DR,BV,BQ,BK,DZ,AB,EZ,↓reduceIte,Nat.reduceEqDiff,Nat.zero_add,oGs,bNf,enP,be4,QL,PW,PE,MV,hb,DI OI,DI SS,X9,SK,lLm]
  refine G9 (fun hc => ?_) (fun hc => ?_)
  ·simp -implicitDefEqProofs only [AY,BB,BJ,BP,CO,FQ,QR,AO,AQ,AL,BD,AX,AC,AA,EP,AZ,AU,BM,BG,CP,DN,↓reduceIte,Nat.reduceEqDiff,oGs,bNf,hc]
   exact ⟨by unfold JP; rw [ha,hb,hc]; rfl,trivial,trivial⟩
  simp -implicitDefEqProofs only [BJ,BP,CO,EM,AO,AQ,AL,BD,AX,AC,AA,AZ,AU,BH,BG,BV,BQ,BK,AB,EG,↓reduceIte,Nat.reduceEqDiff,Nat.zero_add,oGs,bNf,enP,MW,hc,DI ag3,U8]
  refine G9 (fun hd => ?_) (fun hd => ?_)
  ·simp -implicitDefEqProofs only [AY,BJ,BP,CO,F7,EM,AO,AQ,AL,BD,AX,AC,AA,AZ,AU,BH,BM,BG,CP,DN,DR,BV,BQ,BK,DZ,AB,EZ,↓reduceIte,Nat.reduceEqDiff,Nat.zero_add,oGs,bNf,enP,PW,MV,hd,DI SS,SK,lLm]
   refine G9 (fun he => ?_) (fun he => ?_)
   ·simp -implicitDefEqProofs only [AY,BB,BJ,BP,CO,FQ,AO,AQ,AL,BD,AX,AC,AA,EP,AZ,AU,BM,BG,CP,DN,↓reduceIte,Nat.reduceEqDiff,oGs,bNf,he]
    exact ⟨by unfold JP; rw [ha,hb,hc,hd,he]; rfl,trivial,trivial⟩
   simp -implicitDefEqProofs only [AY,BJ,BP,CO,EM,AO,AQ,AL,BD,AX,AC,AA,AZ,AU,BH,BM,BG,CP,DR,BV,BQ,BK,DZ,AB,D5,↓reduceIte,Nat.reduceEqDiff,Nat.zero_add,oGs,bNf,enP,PW,MV,he,DI SS,SK,lLm]
   refine G9 (fun hf => ?_) (fun hf => ?_)
   ·simp -implicitDefEqProofs only [AY,BB,BJ,BP,CO,FQ,AO,AQ,AL,BD,AX,AC,AA,EP,AZ,AU,BM,CP,DN,↓reduceIte,Nat.reduceEqDiff,oGs,bNf,hf]
    exact ⟨by unfold JP; rw [ha,hb,hc,hd,he,hf]; rfl,trivial,trivial⟩
   ·simp -implicitDefEqProofs only [AY,BB,BJ,BP,CO,EM,AO,AQ,AL,BD,AX,AC,AA,AZ,AU,BH,BM,CP,DR,BV,BQ,BK,DZ,AB,EZ,↓reduceIte,Nat.reduceEqDiff,Nat.zero_add,oGs,bNf,enP,PW,MV,hf,DI SS,SK,lLm]
    exact ⟨by unfold JP; rw [ha,hb,hc,hd,he,hf]; rfl,trivial,trivial⟩
  ·simp -implicitDefEqProofs only [AY,BJ,BP,CO,EM,H8,AO,AQ,AL,BD,AX,AC,AA,EP,AZ,AU,BH,BM,BG,CP,DR,BV,BQ,BK,DZ,AB,D5,↓reduceIte,Nat.reduceEqDiff,Nat.zero_add,oGs,bNf,enP,PW,MV,hd,DI SS,SK,lLm]
   refine G9 (fun hf => ?_) (fun hf => ?_)
   ·simp -implicitDefEqProofs only [AY,BB,BJ,BP,CO,FQ,AO,AQ,AL,BD,AX,AC,AA,EP,AZ,AU,BM,CP,DN,↓reduceIte,Nat.reduceEqDiff,oGs,bNf,hf]
    exact ⟨by unfold JP; rw [ha,hb,hc,hd,hf]; rfl,trivial,trivial⟩
   ·simp -implicitDefEqProofs only [AY,BB,BJ,BP,CO,EM,AO,AQ,AL,BD,AX,AC,AA,AZ,AU,BH,BM,CP,DR,BV,BQ,BK,DZ,AB,EZ,↓reduceIte,Nat.reduceEqDiff,Nat.zero_add,oGs,bNf,enP,PW,MV,hf,DI SS,SK,lLm]
    exact ⟨by unfold JP; rw [ha,hb,hc,hd,hf]; rfl,trivial,trivial⟩
 rintro F H ⟨f53,f1,rfl⟩
 simp -implicitDefEqProofs only [BI,A8,AZ,f53,f1]
 refine CV (fun hs => ?_) (fun hs => ?_)
 ·simp -implicitDefEqProofs only [BC,BA,BL,A8,CQ,CJ,AY,BB,AO,AQ,AL,BD,AX,AC,AA,AU,BH,A7,↓reduceIte,oGs,bNf]
  exact ⟨by rw [XH hn' hs],_,rfl⟩
 simp -implicitDefEqProofs only [BC,BR,BA,BO,A8,AY,BB,AO,AQ,AL,BD,AX,AC,AU,BH,A7,oGs,bNf]
 refine GV 0 (fun F H=>F 1 = .ptr h.length 0 0∧H=h ++ [.live 4 [GN b]]∧b.steps.any (fun l=>decide (l.l.length=0))=false) (fun F H=>F 2 = .int .i64 (HY b)∧H=h ++ [.live 4 [GN b]]) ?_ ?_ ?_
 ·refine DT (fun n F H => ∃ k,n+k=b.steps.length∧F 1 = .ptr h.length 0 0∧F 3 = .int .i64 (k:Nat)∧H=h ++ [.live 4 [GN b]]∧(b.steps.take k).any (fun l=>decide (l.l.length=0))=false) b.steps.length ⟨0,by simp,by simp -implicitDefEqProofs only [AA,↓reduceIte,Nat.reduceEqDiff,f1],by simp -implicitDefEqProofs only [AA,↓reduceIte]; rfl,rfl,rfl⟩ ?_
  rintro n F H ⟨k,hk,f1,f3,rfl,hin⟩
  simp -implicitDefEqProofs only [BC,BA,BI,A8,AY,BB,AO,AQ,AL,BD,AX,AC,AA,AZ,BG,BV,BQ,BK,DZ,AB,DC,↓reduceIte,Nat.reduceEqDiff,Nat.zero_add,oGs,bNf,enP,PW,MV,f1,f3,DI SS,SK,lLm]
  refine CV (fun hc => ?_) (fun hc => ?_)
  ·have hc':k < b.steps.length:=by simpa using hc
   have t0:=VD (fun l:Rs=>decide (l.l.length=0)) b.steps k hc'
   simp -implicitDefEqProofs only [BC,BR,BA,BO,BI,A8,AY,BB,AO,AQ,AL,BD,AX,AC,AA,AZ,AU,BH,BG,BV,BQ,BK,CG,DZ,AB,D5,↓reduceIte,Nat.reduceEqDiff,Nat.zero_add,oGs,bNf,enP,QL,ZV,MV,f1,f3,DI SS,SK,D6 hc',DV OI hc',ZZ,lLm]
   refine CV (fun hd => ?_) (fun hd => ?_)
   ·simp -implicitDefEqProofs only [BC,BA,BL,A8,CQ,D8,MZ,FI,AY,BB,AO,AQ,AL,BD,AX,AC,AA,AU,BH,A7,↓reduceIte,oGs,bNf]
    refine ⟨?_,trivial⟩
    have:b.steps.any (fun l=>decide (l.l.length=0))=true:=by
     rw [List.any_eq_true]
     exact ⟨b.steps[k],by simp,by simp at hd; simp [hd]⟩
    rw [XI hn' this]
   ·simp -implicitDefEqProofs only [BA,BO,A8,EE,EN,AY,BB,AO,AQ,AL,BD,AX,AC,AA,AZ,AU,BH,BG,A7,BQ,AB,DF,↓reduceIte,Nat.reduceEqDiff,oGs,bNf,enP,f3,wrap_succ (show k < 9223372036854775807 by have:=hb.steps; omega)]
    refine ⟨n - 1,by omega,k+1,by omega,f1,rfl,trivial,?_⟩
    rw [t0,hin]
    simp at hd
    simp [hd]
  ·have hc' : ¬ k < b.steps.length:=by simpa using hc
   simp -implicitDefEqProofs only [DJ,D9,J4,EW,AA,↓reduceIte,Nat.reduceEqDiff]
   rw [List.take_of_length_le (by omega)] at hin
   exact ⟨f1,trivial,hin⟩
 ·rintro F H ⟨f1,rfl,he⟩
  have hs':JP b=false:=by simpa using hs
  have hv:=UD hn' hs' he
  simp -implicitDefEqProofs only [BC,BA,A8,EX,AY,AO,AQ,AL,BD,AX,AC,AA,AZ,BX,BV,BZ,BU,AB,lMc,lMn,lAn,↓reduceIte,oGs,bNf,enP,f1,ldB]
  refine (AGW G b _).use ?_
  simp -implicitDefEqProofs only [BC,BR,BA,A8,AY,BB,AO,AQ,AL,BD,AX,AC,AA,AZ,AU,BH,A7,↓reduceIte,oGs,bNf]
  refine GV 2 (fun F H=>F 4 = .sl (QX b) 1 ((sets b).map encS)∧H=h ++ [.live 4 [GN b]]∧(sets b).any (fun l=>decide (l.l.length > 64))=false) (fun F H=>F 2 = .int .i64 (HY b)∧H=h ++ [.live 4 [GN b]]) ?_ ?_ ?_
  ·refine DT (fun n F H => ∃ k,n+k=(sets b).length∧F 4 = .sl (QX b) 1 ((sets b).map encS)∧F 5 = .int .i64 (k:Nat)∧H=h ++ [.live 4 [GN b]]∧((sets b).take k).any (fun l=>decide (l.l.length > 64))=false) (sets b).length ⟨0,by simp,by simp -implicitDefEqProofs only [AA,↓reduceIte,Nat.reduceEqDiff],by simp -implicitDefEqProofs only [AA,↓reduceIte]; rfl,rfl,rfl⟩ ?_
   rintro n F H ⟨k,hk,f4,f5,rfl,hin⟩
   simp -implicitDefEqProofs only [BC,BA,BI,A8,AY,BB,AO,AQ,AL,BD,AX,AC,AA,AZ,BG,BQ,DZ,AB,DC,↓reduceIte,Nat.reduceEqDiff,oGs,bNf,enP,PW,f4,f5,lLm]
   refine CV (fun hc => ?_) (fun hc => ?_)
   ·have hc':k < (sets b).length:=by simpa using hc
    have t0:=VD (fun l:Rs=>decide (l.l.length > 64)) (sets b) k hc'
    simp -implicitDefEqProofs only [BC,BR,BA,BO,BI,A8,AY,BB,AO,AQ,AL,BD,AX,AC,AA,AZ,AU,BH,BG,BV,BQ,CG,DZ,AB,EZ,↓reduceIte,Nat.reduceEqDiff,oGs,bNf,enP,QL,ZV,f4,f5,D6 hc',DV OI hc',ZZ,lLm]
    refine CV (fun hd => ?_) (fun hd => ?_)
    ·simp -implicitDefEqProofs only [BC,BA,BL,A8,CQ,D8,MZ,FI,AY,BB,AO,AQ,AL,BD,AX,AC,AA,AU,BH,A7,↓reduceIte,oGs,bNf]
     refine ⟨?_,trivial⟩
     have:(sets b).any (fun l=>decide (l.l.length > 64))=true:=by
      rw [List.any_eq_true]
      exact ⟨(sets b)[k],by simp,by simp at hd ⊢; omega⟩
     rw [hv,if_pos this]
    ·simp -implicitDefEqProofs only [BA,BO,A8,EE,EN,AY,BB,AO,AQ,AL,BD,AX,AC,AA,AZ,AU,BH,BG,A7,BQ,AB,DF,↓reduceIte,Nat.reduceEqDiff,oGs,bNf,enP,f5,wrap_succ (show k < 9223372036854775807 by have:=hb.num; omega)]
     refine ⟨n - 1,by omega,k+1,by omega,f4,rfl,trivial,?_⟩
     rw [t0,hin]
     simp at hd ⊢
     omega
   ·have hc' : ¬ k < (sets b).length:=by simpa using hc
    simp -implicitDefEqProofs only [DJ,D9,J4,EW,AA,↓reduceIte,Nat.reduceEqDiff]
    rw [List.take_of_length_le (by omega)] at hin
    exact ⟨f4,trivial,hin⟩
  ·rintro F H ⟨f4,rfl,h64⟩
   rw [h64] at hv
   simp only [Bool.false_eq_true,if_false] at hv
   simp -implicitDefEqProofs only [BC,BR,BA,A8,EX,AY,BB,AO,AQ,AL,BD,AX,AC,AU,BH,A7,↓reduceIte,oGs,bNf,f4]
   refine DT (fun n F H => ∃ k,n+k=(sets b).length∧F 4 = .sl (QX b) 1 ((sets b).map encS)∧F 6 = .int .i64 (k:Nat)∧H=h ++ [.live 4 [GN b]]∧((sets b).take k).any (fun l=>l.l.any bad)=false) (sets b).length ⟨0,by simp,by simp -implicitDefEqProofs only [AA,↓reduceIte,Nat.reduceEqDiff,f4],by simp -implicitDefEqProofs only [AA,↓reduceIte]; rfl,rfl,rfl⟩ ?_
   rintro n F H ⟨k,hk,f4,f6,rfl,hin⟩
   simp -implicitDefEqProofs only [BC,BA,BI,A8,AY,BB,AO,AQ,AL,BD,AX,AC,AA,AZ,BG,BQ,DZ,AB,DC,↓reduceIte,Nat.reduceEqDiff,oGs,bNf,enP,PW,f4,f6,lLm]
   refine CV (fun hc => ?_) (fun hc => ?_)
   ·have hc':k < (sets b).length:=by simpa using hc
    have t0:=VD (fun l:Rs=>l.l.any bad) (sets b) k hc'
    simp -implicitDefEqProofs only [BC,BR,BA,BO,A8,AY,AO,AQ,AL,BD,AX,AC,AA,AZ,BX,BG,BV,CG,BZ,BU,AB,lMc,lMn,lAn,↓reduceIte,Nat.reduceEqDiff,oGs,bNf,enP,ZV,f4,f6,D6 hc',DV OI hc',ZZ,lLm]
    refine (AJF G _ _ _).use ?_
    have hk64 : ¬ (sets b)[k].l.length > 64:=by
     rw [List.any_eq_false] at h64
     have:=h64 (sets b)[k] (by simp)
     simpa using this
    simp -implicitDefEqProofs only [BC,BA,BI,A8,AY,BB,AO,AQ,AL,BD,AX,AC,AA,AZ,AU,BH,BG,A7,BQ,AB,EG,↓reduceIte,oGs,bNf,enP]
    cases hbad:(sets b)[k].l.any bad with
    | true =>
      have hr:=UT hk64 hbad
      refine CV (fun hd => ?_) (fun hd => ?_)
      ·simp -implicitDefEqProofs only [BC,BA,BL,A8,CQ,D8,FI,CJ,AY,BB,AO,AQ,AL,BD,AX,AC,AA,AZ,BG,A7,↓reduceIte,Nat.reduceEqDiff,oGs,bNf]
       refine ⟨?_,_,rfl⟩
       have:(sets b).any (fun l=>l.l.any bad)=true:=by
        rw [List.any_eq_true]
        exact ⟨(sets b)[k],by simp,hbad⟩
       rw [hr,hv,if_pos this]
      ·rw [hr] at hd; simp at hd
    | false =>
      have hr:=WQ hk64 hbad
      refine CV (fun hd => ?_) (fun hd => ?_)
      ·rw [hr] at hd; simp at hd
      ·simp -implicitDefEqProofs only [BA,BO,A8,EE,EN,AY,BB,AO,AQ,AL,BD,AX,AC,AA,AZ,AU,BH,BG,A7,BQ,AB,DF,↓reduceIte,Nat.reduceEqDiff,oGs,bNf,enP,f6,wrap_succ (show k < 9223372036854775807 by have:=hb.num; omega)]
       refine ⟨n - 1,by omega,k+1,by omega,f4,rfl,trivial,?_⟩
       rw [t0,hin,hbad]; rfl
   ·have hc' : ¬ k < (sets b).length:=by simpa using hc
    simp -implicitDefEqProofs only [BC,BA,BL,DJ,A8,D9,EX,EW,CJ,AY,BB,AO,AQ,AL,BD,AX,AC,AA,AU,BH,A7,↓reduceIte,oGs,bNf]
    rw [List.take_of_length_le (by omega)] at hin
    exact ⟨by rw [hv,if_neg (by rw [hin]; simp)],_,rfl⟩
  ·rintro F H ⟨f2,rfl⟩
   simp -implicitDefEqProofs only [CQ,D8,CJ]
   exact ⟨f2,_,rfl⟩
 ·rintro F H ⟨f2,rfl⟩
  simp -implicitDefEqProofs only [CQ,D8,CJ]
  exact ⟨by rw [f2],_,rfl⟩
end Go.Proofs.YtocilianjfhifaaGreatDoor.Bins
namespace Go.Proofs.YtocilianjfhifaaGreatDoor.Cov
open Sm Bins
inductive Ex where
 | mk (op n:Int) (name:ByteArray) (m:SM) (args:List Ex)
def Ex.op:Ex→Int | .mk op _ _ _ _=>op
def Ex.n:Ex→Int | .mk _ n _ _ _=>n
def Ex.name:Ex→ByteArray | .mk _ _ name _ _=>name
def Ex.m:Ex→SM | .mk _ _ _ m _=>m
def Ex.args:Ex→List Ex | .mk _ _ _ _ args=>args
mutual
def EU:Ex→List AV
 | .mk op n name m args => [.int .i64 op,.int .i64 n,.str name,.sl m 4 (AH9 args)]
def AH9:List Ex→List (List AV)
 | [] => []
 | e :: es=>EU e :: AH9 es
end
theorem AEE : ∀ l:List Ex,AH9 l=l.map EU
 | []=>by simp [AH9]
 | e :: es=>by simp [AH9,AEE es]
theorem OE (e:Ex):EU e = [.int .i64 e.op,.int .i64 e.n,.str e.name,.sl e.m 4 (e.args.map EU)]:=by
 cases e; simp [EU,AEE,Ex.op,Ex.n,Ex.name,Ex.m,Ex.args]
theorem JX (e:Ex):(EU e).length=4:=by rw [OE]; rfl
theorem J6 (e:Ex):(EU e)[0]? = some (.int .i64 e.op):=by rw [OE]; rfl
theorem X8 (e:Ex):(EU e)[1]? = some (.int .i64 e.n):=by rw [OE]; rfl
theorem PX (e:Ex):(EU e)[2]? = some (.str e.name):=by rw [OE]; rfl
theorem X7 (e:Ex):(EU e)[3]? = some (.sl e.m 4 (e.args.map EU)):=by rw [OE]; rfl
theorem AEF (e:Ex):(EU e).all AV.leaf=true:=by rw [OE]; rfl
theorem bxE (h:Hp) (e:Ex):PQ h (.agg (EU e))=some (.ptr h.length 0 0,h ++ [.live 4 [EU e]]):=by
 have:=YC (h:=h) (AEF e)
 rw [JX] at this; exact this
theorem ldE (h:Hp) (e:Ex):D7 Tryz.prog (h ++ [.live 4 [EU e]]) 53 (.ptr h.length 0 0)=some (.agg (EU e)):=by
 rw [VQ AAK WI (by rw [JX]; exact Nat.le_refl 4)]
 rw [List.drop_zero,List.take_of_length_le (by rw [JX]; exact Nat.le_refl 4)]
theorem MK {h:Hp} {b:Nat} {e:Ex} (hb:h[b]? = some (.live 4 [EU e])):D7 Tryz.prog h 53 (.ptr b 0 0)=some (.agg (EU e)):=by
 rw [JJ AAK WI hb rfl (by rw [JX]; exact Nat.le_refl 4)]
 rw [List.drop_zero,List.take_of_length_le (by rw [JX]; exact Nat.le_refl 4)]
mutual
def pre:Ex→List Ex
 | .mk op n name m args => .mk op n name m args :: JQ args
def JQ:List Ex→List Ex
 | [] => []
 | e :: es=>pre e ++ JQ es
end
mutual
def dep:Ex→Nat
 | .mk _ _ _ _ args=>deps args+1
def deps:List Ex→Nat
 | []=>0
 | e :: es=>max (dep e) (deps es)
end
mutual
def wt:Ex→Nat
 | .mk _ _ name _ args=>name.size+1+wts args
def wts:List Ex→Nat
 | []=>0
 | e :: es=>wt e+wts es
end
theorem pre_eq (e:Ex):pre e=e :: JQ e.args:=by cases e; simp [pre,Ex.args]
theorem AFT (e:Ex):dep e=deps e.args+1:=by cases e; simp [dep,Ex.args]
theorem MI (e:Ex):wt e=e.name.size+1+wts e.args:=by cases e; simp [wt,Ex.args,Ex.name]
theorem PL (xs ys:List Ex):JQ (xs ++ ys)=JQ xs ++ JQ ys:=by
 induction xs with
 | nil=>simp [JQ]
 | cons x xs ih=>simp [JQ,ih]
theorem SY (xs:List Ex):xs.length≤wts xs:=by
 induction xs with
 | nil=>simp [wts]
 | cons x xs ih=>have:=MI x; simp [wts]; omega
theorem QU {xs:List Ex} {x:Ex} (h:x∈xs):wt x≤wts xs:=by
 induction xs with
 | nil=>cases h
 | cons y ys ih =>
   simp only [wts]
   cases List.mem_cons.1 h with
   | inl e=>subst e; omega
   | inr e=>have:=ih e; omega
theorem AEH (xs:List Ex) (k:Nat) (h:k < xs.length):deps (xs.take (k+1))=max (deps (xs.take k)) (dep xs[k]):=by
 induction xs generalizing k with
 | nil=>simp at h
 | cons x xs ih =>
   cases k with
   | zero=>simp [deps]
   | succ k =>
     simp only [List.take_succ_cons,deps,List.getElem_cons_succ]
     rw [ih k (by simpa using h),Nat.max_assoc]
theorem Ex.induct {P:Ex→Prop} (h : ∀ e:Ex,(∀ a∈e.args,P a)→P e) (e:Ex):P e:=by
 have : ∀ n (e:Ex),wt e≤n→P e:=by
  intro n
  induction n with
  | zero=>intro e he; have:=MI e; omega
  | succ n ih =>
    intro e he
    refine h e fun a ha=>ih a ?_
    have h1:=QU ha
    have h2:=MI e
    omega
 exact this _ e (Nat.le_refl _)
theorem AQL (e:Ex):dep e≤wt e:=by
 refine Ex.induct (P:=fun e=>dep e≤wt e) (fun e ih => ?_) e
 rw [AFT,MI]
 have:deps e.args≤wts e.args:=by
  generalize e.args=l at ih
  induction l with
  | nil=>simp [deps,wts]
  | cons x l ih2 =>
    have h1:=ih x (by simp)
    have h2:=ih2 (fun a ha=>ih a (by simp [ha]))
    simp only [deps,wts]; omega
 omega
theorem AE1 (e:Ex):(pre e).length≤wt e:=by
 refine Ex.induct (P:=fun e=>(pre e).length≤wt e) (fun e ih => ?_) e
 rw [pre_eq,MI]
 have:(JQ e.args).length≤wts e.args:=by
  generalize e.args=l at ih
  induction l with
  | nil=>simp [JQ,wts]
  | cons x l ih2 =>
    have h1:=ih x (by simp)
    have h2:=ih2 (fun a ha=>ih a (by simp [ha]))
    simp only [JQ,wts,List.length_append]; omega
 simp; omega
def arity (op:Int):Int:=if op < 1∨op > 25 then -1 else if op=1∨op=2∨op=24 then 0 else if op=3∨op=4∨op=5∨op=6∨op=25 then 1 else if op=22 then 3 else if op=23 then -1 else 2
set_option maxHeartbeats 2000000 in
theorem AKG (G:Nat→AV) (op:Int) (h:Hp):PCall (En G) 258 [.int .i64 op] h (.int .i64 (arity op)):=by
 refine CE (H:=Hint.none) (enM G) Tryz.func258 rfl (by kernel_rfl) (by kernel_rfl) (nLb (by kernel_rfl)) ?_
 show awp _ _ _ _ _ (EJ _ [.tmp 2] _)
 have hcase:op < 1∨op > 25∨op=1∨op=2∨op=3∨op=4∨op=5∨op=6∨op=7∨op=8∨op=9∨op=10∨op=11∨op=12∨op=13∨op=14∨op=15∨op=16∨op=17∨op=18∨op=19∨op=20∨op=21∨op=22∨op=23∨op=24∨op=25:=by omega
 rcases hcase with h | h | rfl | rfl | rfl | rfl | rfl | rfl | rfl | rfl | rfl | rfl | rfl | rfl | rfl | rfl | rfl | rfl | rfl | rfl | rfl | rfl | rfl | rfl | rfl | rfl | rfl
 ·have hne : ∀ k:Int,1≤k→(op == k)=false:=fun k hk=>beq_eq_false_iff_ne.2 (by omega)
  have hd:decide (op < 1)=true:=by simp; omega
  have ha:arity op = -1:=by unfold arity; rw [if_pos (Or.inl h)]
  rw [ha]
  simp -implicitDefEqProofs only [BC,BR,BA,BO,BL,BI,A8,CQ,EE,CJ,CY,DU,AY,BB,BJ,BP,CO,FQ,AO,AQ,AL,BD,AX,AC,AA,EP,AZ,AU,BH,BM,BG,A7,CP,DN,BQ,AB,D5,DC,BF,↓reduceIte,Nat.reduceEqDiff,oGs,bNf,enP,hne 1 (by decide),hne 2 (by decide),hne 3 (by decide),hne 4 (by decide),hne 5 (by decide),hne 6 (by decide),hne 7 (by decide),hne 8 (by decide),hne 9 (by decide),hne 10 (by decide),hne 11 (by decide),hne 12 (by decide),hne 13 (by decide),hne 14 (by decide),hne 15 (by decide),hne 16 (by decide),hne 17 (by decide),hne 18 (by decide),hne 19 (by decide),hne 20 (by decide),hne 21 (by decide),hne 22 (by decide),hne 23 (by decide),hne 24 (by decide),hne 25 (by decide),hd]
  exact ⟨trivial,trivial⟩
 ·have hne : ∀ k:Int,k≤25→(op == k)=false:=fun k hk=>beq_eq_false_iff_ne.2 (by omega)
  have hd:decide (op < 1)=false:=by simp; omega
  have hd2:decide (op > 25)=true:=by simp; omega
  have ha:arity op = -1:=by unfold arity; rw [if_pos (Or.inr h)]
  rw [ha]
  simp -implicitDefEqProofs only [BC,BR,BA,BO,BL,BI,A8,CQ,EE,CJ,CY,DU,AY,BB,BJ,BP,CO,EM,AO,AQ,AL,BD,AX,AC,AA,AZ,AU,BH,BM,BG,A7,CP,DR,BQ,AB,D5,DC,EZ,BF,↓reduceIte,Nat.reduceEqDiff,oGs,bNf,enP,hne 1 (by decide),hne 2 (by decide),hne 3 (by decide),hne 4 (by decide),hne 5 (by decide),hne 6 (by decide),hne 7 (by decide),hne 8 (by decide),hne 9 (by decide),hne 10 (by decide),hne 11 (by decide),hne 12 (by decide),hne 13 (by decide),hne 14 (by decide),hne 15 (by decide),hne 16 (by decide),hne 17 (by decide),hne 18 (by decide),hne 19 (by decide),hne 20 (by decide),hne 21 (by decide),hne 22 (by decide),hne 23 (by decide),hne 24 (by decide),hne 25 (by decide),hd,hd2]
  exact ⟨trivial,trivial⟩
 all_goals
  simp -implicitDefEqProofs only [BC,BR,BA,BO,BL,BI,A8,CQ,EE,D8,CJ,CY,DU,AY,BB,BJ,BP,CO,EM,AO,AQ,AL,BD,AX,AC,AA,AZ,AU,BH,BM,BG,A7,CP,DR,BQ,AB,D5,DC,EZ,BF,↓reduceIte,Nat.reduceEqDiff,oGs,bNf,decide_false,enP,Int.reduceBEq,Int.reduceLT,Int.reduceGT]
  exact ⟨rfl,trivial⟩
set_option maxHeartbeats 2000000 in
theorem ANZ (G:Nat→AV) (op:Int) (h:Hp):PCall (En G) 254 [.int .i64 op] h (.int .i64 (arity op)):=by
 refine CE (H:=Hint.none) (enM G) Tryz.func254 rfl (by kernel_rfl) (by kernel_rfl) (nLb (by kernel_rfl)) ?_
 show awp _ _ _ _ _ (EJ _ [.tmp 2] _)
 have hcase:op < 1∨op > 25∨op=1∨op=2∨op=3∨op=4∨op=5∨op=6∨op=7∨op=8∨op=9∨op=10∨op=11∨op=12∨op=13∨op=14∨op=15∨op=16∨op=17∨op=18∨op=19∨op=20∨op=21∨op=22∨op=23∨op=24∨op=25:=by omega
 rcases hcase with h | h | rfl | rfl | rfl | rfl | rfl | rfl | rfl | rfl | rfl | rfl | rfl | rfl | rfl | rfl | rfl | rfl | rfl | rfl | rfl | rfl | rfl | rfl | rfl | rfl | rfl
 ·have hne : ∀ k:Int,1≤k→(op == k)=false:=fun k hk=>beq_eq_false_iff_ne.2 (by omega)
  have hd:decide (op < 1)=true:=by simp; omega
  have ha:arity op = -1:=by unfold arity; rw [if_pos (Or.inl h)]
  rw [ha]
  simp -implicitDefEqProofs only [BC,BR,BA,BO,BL,BI,A8,CQ,EE,CJ,CY,DU,AY,BB,BJ,BP,CO,FQ,AO,AQ,AL,BD,AX,AC,AA,EP,AZ,AU,BH,BM,BG,A7,CP,DN,BQ,AB,D5,DC,BF,↓reduceIte,Nat.reduceEqDiff,oGs,bNf,enP,hne 1 (by decide),hne 2 (by decide),hne 3 (by decide),hne 4 (by decide),hne 5 (by decide),hne 6 (by decide),hne 7 (by decide),hne 8 (by decide),hne 9 (by decide),hne 10 (by decide),hne 11 (by decide),hne 12 (by decide),hne 13 (by decide),hne 14 (by decide),hne 15 (by decide),hne 16 (by decide),hne 17 (by decide),hne 18 (by decide),hne 19 (by decide),hne 20 (by decide),hne 21 (by decide),hne 22 (by decide),hne 23 (by decide),hne 24 (by decide),hne 25 (by decide),hd]
  exact ⟨trivial,trivial⟩
 ·have hne : ∀ k:Int,k≤25→(op == k)=false:=fun k hk=>beq_eq_false_iff_ne.2 (by omega)
  have hd:decide (op < 1)=false:=by simp; omega
  have hd2:decide (op > 25)=true:=by simp; omega
  have ha:arity op = -1:=by unfold arity; rw [if_pos (Or.inr h)]
  rw [ha]
  simp -implicitDefEqProofs only [BC,BR,BA,BO,BL,BI,A8,CQ,EE,CJ,CY,DU,AY,BB,BJ,BP,CO,EM,AO,AQ,AL,BD,AX,AC,AA,AZ,AU,BH,BM,BG,A7,CP,DR,BQ,AB,D5,DC,EZ,BF,↓reduceIte,Nat.reduceEqDiff,oGs,bNf,enP,hne 1 (by decide),hne 2 (by decide),hne 3 (by decide),hne 4 (by decide),hne 5 (by decide),hne 6 (by decide),hne 7 (by decide),hne 8 (by decide),hne 9 (by decide),hne 10 (by decide),hne 11 (by decide),hne 12 (by decide),hne 13 (by decide),hne 14 (by decide),hne 15 (by decide),hne 16 (by decide),hne 17 (by decide),hne 18 (by decide),hne 19 (by decide),hne 20 (by decide),hne 21 (by decide),hne 22 (by decide),hne 23 (by decide),hne 24 (by decide),hne 25 (by decide),hd,hd2]
  exact ⟨trivial,trivial⟩
 all_goals
  simp -implicitDefEqProofs only [BC,BR,BA,BO,BL,BI,A8,CQ,D8,CJ,CY,DU,AY,BB,AO,AQ,AL,BD,AX,AC,AA,AZ,AU,BH,BG,A7,BQ,AB,D5,BF,↓reduceIte,Nat.reduceEqDiff,oGs,bNf,enP,Int.reduceBEq,Int.reduceLT,Int.reduceGT]
  exact ⟨rfl,trivial⟩
def KU (op:Int):Bool:=op == 2 || op == 3 || op == 24
theorem VP (G:Nat→AV) (op:Int) (h:Hp):PCall (En G) 246 [.int .i64 op] h (.bool (KU op)):=by
 refine CE (H:=Hint.none) (enM G) Tryz.func246 rfl (by kernel_rfl) (by kernel_rfl) (nLb (by kernel_rfl)) ?_
 show awp _ _ _ _ _ (EJ _ [.tmp 2] _)
 simp -implicitDefEqProofs only [BC,BA,A8,AY,BB,BJ,BP,CO,AO,AQ,AL,BD,AX,AC,AA,AZ,AU,BH,BM,BG,A7,BQ,AB,D5,BF,↓reduceIte,Nat.reduceEqDiff,oGs,bNf,enP]
 cases ha:(op == 2) <;> cases hb:(op == 3)
 all_goals
  simp -implicitDefEqProofs only [BL,A8,CJ,AY,BB,BJ,BP,CO,EM,FQ,AO,AQ,AL,BD,AX,AC,AA,EP,AZ,AU,BH,BM,BG,A7,CP,DN,DR,BQ,AB,D5,BF,↓reduceIte,Nat.reduceEqDiff,oGs,bNf,enP,ha,hb]
  exact ⟨by simp [KU,ha,hb],trivial⟩
def YU (op:Int) (n:Nat):Bool:=if op == 23 then ((n:Int) % 2 == 1) && decide ((n:Int)≥3) && decide ((n:Int)≤33) else ((n:Int) == arity op)
theorem AC5 (G:Nat→AV) (e:Ex) (h:Hp):PCall (En G) 231 [.agg (EU e)] h (.bool (YU e.op e.args.length)):=by
 refine ACalls.pure0 rfl ?_
 refine CE (H:=Hint.none) (enM G) Tryz.func231 rfl (by kernel_rfl) (by kernel_rfl) (nLb (by kernel_rfl)) ?_
 show awp _ _ _ _ _ (EJ _ [.tmp 2] _)
 simp -implicitDefEqProofs only [BC,BA,BI,A8,AY,BB,AO,AQ,AL,BD,AX,AC,AA,AZ,AU,BH,BM,A7,FV,BV,BQ,BK,DZ,CB,AB,D5,BF,↓reduceIte,Nat.reduceEqDiff,Nat.add_zero,Nat.zero_add,oGs,bNf,enP,AC6,IL,O1,bxE,DI AF5,DI ag3,X7,J6,lLm]
 generalize he:e.args.length=n
 have hm:(n:Int).tmod 2=(n:Int) % 2:=Int.tmod_eq_emod_of_nonneg (by omega)
 have b1:JB Tryz.prog 3 .rem (.int .i64 (n:Int)) (.int .i64 2)=some (.int .i64 ((n:Int) % 2)):=by rw [AA0 _ _ _ _ _ (by decide),hm]
 refine CV (fun hc => ?_) (fun hc => ?_)
 ·simp -implicitDefEqProofs only [BC,BA,AY,BJ,BP,CO,AO,AQ,AL,BD,AX,AC,AA,AZ,AU,BH,BG,BQ,AB,D5,↓reduceIte,Nat.reduceEqDiff,oGs,bNf,enP,b1]
  cases ha:((n:Int) % 2 == 1) <;> cases hb:decide ((n:Int)≥3)
  all_goals
   simp -implicitDefEqProofs only [BL,A8,CQ,CJ,AY,BB,BJ,BP,CO,F7,H8,AO,AQ,AL,BD,AX,AC,AA,EP,AZ,AU,BH,BM,BG,A7,CP,DN,DR,BQ,AB,IE,G8,↓reduceIte,Nat.reduceEqDiff,oGs,bNf,enP,ha,hb]
   exact ⟨by unfold YU; rw [if_pos hc,ha,hb]; simp,_,rfl⟩
 ·simp -implicitDefEqProofs only [BC,BA,BO,A8,AY,AO,AQ,AL,BD,AX,AC,AA,AZ,BX,BG,BV,BK,BZ,BU,AB,lMc,lMn,lAn,↓reduceIte,Nat.reduceEqDiff,Nat.add_zero,oGs,bNf,enP,IL,DI ag3,J6]
  refine (AKG G e.op _).use ?_
  simp -implicitDefEqProofs only [BL,A8,CJ,AY,BB,AO,AQ,AL,BD,AX,AC,AA,AZ,A7,BQ,AB,D5,↓reduceIte,Nat.reduceEqDiff,oGs,bNf,enP]
  exact ⟨by unfold YU; rw [if_neg (by rw [hc]; decide)],_,rfl⟩
end Go.Proofs.YtocilianjfhifaaGreatDoor.Cov
namespace Go.Proofs.YtocilianjfhifaaGreatDoor.Cov
open Sm Bins Go.Shelf Go.RowKit
def AQP:Go.Shelf.Ren:=⟨fun | 145=>290 | 220=>304 | 219=>305 | 217=>306 | 225=>307 | 224=>308 | 267=>309 | 266=>310 | 314=>311 | n=>n,fun | 9=>9 | 4=>4 | 59=>261 | 3=>3 | 5=>5 | 46=>269 | 146=>273 | 51=>272 | n=>n,fun | 1=>1 | n=>n⟩
theorem A0E:Go.Proofs.Lays.n145 Tryz.prog AQP := {
 mixed:=by kernel_rfl,
 f145:=Tryz.func290.trans (congrArg some (by kernel_rfl)),
 f217:=Tryz.func306.trans (congrArg some (by kernel_rfl)),
 f219:=Tryz.func305.trans (congrArg some (by kernel_rfl)),
 f220:=Tryz.func304.trans (congrArg some (by kernel_rfl)),
 f224:=Tryz.func308.trans (congrArg some (by kernel_rfl)),
 f225:=Tryz.func307.trans (congrArg some (by kernel_rfl)),
 f266:=Tryz.func310.trans (congrArg some (by kernel_rfl)),
 f267:=Tryz.func309.trans (congrArg some (by kernel_rfl)),
 f314:=Tryz.func311.trans (congrArg some (by kernel_rfl)),
 t3:=Tryz.underlying3,
 a3:=Tryz.isAgg3,
 z3:=Tryz.sizeOf3,
 v3:=Tryz.zeroValue3,
 t4:=Tryz.underlying4,
 a4:=Tryz.isAgg4,
 z4:=Tryz.sizeOf4,
 v4:=Tryz.zeroValue4,
 t5:=Tryz.underlying5,
 a5:=Tryz.isAgg5,
 z5:=Tryz.sizeOf5,
 v5:=Tryz.zeroValue5,
 t9:=Tryz.underlying9,
 a9:=Tryz.isAgg9,
 z9:=Tryz.sizeOf9,
 v9:=Tryz.zeroValue9,
 t46:=Tryz.underlying269,
 a46:=Tryz.isAgg269,
 z46:=Tryz.sizeOf269,
 v46:=Tryz.zeroValue269,
 t51:=Tryz.underlying272,
 a51:=Tryz.isAgg272,
 z51:=Tryz.sizeOf272,
 v51:=Tryz.zeroValue272,
 t59:=Tryz.underlying261,
 a59:=Tryz.isAgg261,
 z59:=Tryz.sizeOf261,
 v59:=Tryz.zeroValue261,
 t146:=Tryz.underlying273,
 a146:=Tryz.isAgg273,
 z146:=Tryz.sizeOf273,
 v146:=Tryz.zeroValue273,
 g1:=by kernel_rfl }
structure GOk (G:Nat→AV):Prop where
 kw:KwG G
 mx : ∃ n,G 1 = .fptr 1 [[.int .i64 n]] 0 0
theorem APX {G:Nat→AV} {g:Gh} {h:Hp} {w:World} {n:Nat} {k:IntKind} {z:Int} (S:SimH (En G) g h w) (hn:G n = .fptr 1 [[.int k z]] 0 0):w.cell? ⟨n,0,none⟩=some (.int k z):=by
 have:=S.glob n
 rw [enG,hn] at this
 generalize hp:Value.pointer (some ⟨n,0,none⟩)=p at this
 cases this with
 | fptr k' xs i j cb co c e fz cv h1 h2 h3 h4 =>
   simp only [Value.pointer.injEq,Option.some.injEq,Addr.mk.injEq] at hp
   obtain ⟨rfl,hco,_⟩:=hp
   have h5:=h3 0 0 (by simp) (by simp)
   have h6:=h4 0 0 _ _ rfl rfl
   generalize cv 0 0=u at h5 h6
   cases h6
   simp only [World.cell?,S.fro _ _ h1]
   subst hco
   exact h5
def cutV (s:ByteArray):AV := .tup [.str ⟨(Lib.cut s.data.toList [91]).1.toArray⟩,.str ⟨(Lib.cut s.data.toList [91]).2.1.toArray⟩,.bool (Lib.cut s.data.toList [91]).2.2]
theorem AQO (G:Nat→AV) (hG:GOk G) (s:ByteArray) (h:Hp) (hl:s.size≤1048576):PCall (En G) 290 [.str s,.str ⟨#[91]⟩] h (cutV s):=by
 refine PCall.of_reads (cok 290 G (by kernel_rfl)) fun g w cargs S ha => ?_
 obtain ⟨hsz,hget⟩:=ha
 obtain ⟨cv0,cv1,rfl⟩ : ∃ a b,cargs = #[a,b]:=by
  obtain ⟨l⟩:=cargs
  match l,hsz with
  | [a,b],_=>exact ⟨a,b,rfl⟩
 obtain rfl:=(hget 0 _ cv0 rfl rfl).str_inv
 obtain rfl:=(hget 1 _ cv1 rfl rfl).str_inv
 obtain ⟨z,hz⟩:=hG.mx
 have hc:=APX S hz
 have:=Any.strings_Cut A0E s ⟨#[91]⟩ z w (by omega) hc
 refine ⟨_,?_,this⟩
 refine .tup _ _ rfl ?_
 intro i v cv h1 h2
 match i,h1,h2 with
 | 0,h1,h2=>simp at h1 h2; subst h1; subst h2; exact .str _ _
 | 1,h1,h2=>simp at h1 h2; subst h1; subst h2; exact .str _ _
 | 2,h1,h2=>simp at h1 h2; subst h1; subst h2; exact .bool _ _
def PN (s:ByteArray):Option (List UInt8 × UInt8) :=
 if 4≤s.data.toList.length then match s.data.toList.drop (s.data.toList.length - 3) with
  | [x,d,y]=>if (y == 93 && x == 91 && decide (48≤d.toNat) && decide (d.toNat < 56) && H6 ⟨(s.data.toList.take (s.data.toList.length - 3)).toArray⟩)=true then some (s.data.toList.take (s.data.toList.length - 3),d) else none
  | _=>none
 else none
def elemV (o:Option (List UInt8 × UInt8)):AV:=match o with
 | some (a,d) => .tup [.str ⟨a.toArray⟩,.int .i64 ((d.toNat:Int) - 48),.bool true]
 | none => .tup [.str ⟨#[]⟩,.int .i64 0,.bool false]
theorem ALM {l:List UInt8} (h:H6 ⟨l.toArray⟩=true):l≠[]∧∀ b∈l,b≠91:=by
 have hw:RQ ⟨l.toArray⟩=true:=by
  unfold H6 at h
  exact (Bool.and_eq_true_iff.1 (Bool.and_eq_true_iff.1 h).1).1
 unfold RQ at hw
 obtain ⟨h1,h2⟩:=Bool.and_eq_true_iff.1 hw
 refine ⟨?_,?_⟩
 ·intro e; subst e; cases h1
 ·intro b hb e
  subst e
  have:=List.all_eq_true.1 h2 91 hb
  revert this; decide
theorem three {l:List UInt8} (h:3≤l.length) : ∃ a x d y,l=a ++ [x,d,y]:=by
 refine ⟨l.take (l.length - 3),?_⟩
 have h1:(l.drop (l.length - 3)).length=3:=by simp; omega
 match hm:l.drop (l.length - 3),h1 with
 | [x,d,y],_=>exact ⟨x,d,y,by rw [← hm,List.take_append_drop]⟩
theorem ACH {a:List UInt8} {x d y:UInt8} (ha:a≠[]):PN ⟨(a ++ [x,d,y]).toArray⟩=if (y == 93 && x == 91 && decide (48≤d.toNat) && decide (d.toNat < 56) && H6 ⟨a.toArray⟩)=true then some (a,d) else none:=by
 have hl:0 < a.length:=List.length_pos_iff.2 ha
 unfold PN
 simp only
 rw [if_pos (by simp; omega)]
 have e:(a ++ [x,d,y]).length - 3=a.length:=by simp
 rw [e,List.drop_left,List.take_left]
theorem AQI (s:ByteArray):PN s=if ((Lib.cut s.data.toList [91]).2.2 && H6 ⟨(Lib.cut s.data.toList [91]).1.toArray⟩)=true then match (Lib.cut s.data.toList [91]).2.1 with
  | [d,y]=>if (y == 93 && decide (48≤d.toNat) && decide (d.toNat < 56))=true then some ((Lib.cut s.data.toList [91]).1,d) else none
  | _=>none
 else none:=by
 obtain ⟨⟨l⟩⟩:=s
 have hocc : ∀ i,Lib.occAt l [91] i=true↔l[i]? = some 91:=by
  intro i
  unfold Lib.occAt
  rcases Nat.lt_or_ge i l.length with h | h
  ·rw [List.drop_eq_getElem_cons h,List.getElem?_eq_getElem h]
   simp [List.isPrefixOf]
   exact eq_comm
  ·rw [List.drop_eq_nil_of_le h,List.getElem?_eq_none h]; simp [List.isPrefixOf]
 -- an element name of the reference's kind
 have main : ∀ a d,a≠[]→H6 ⟨a.toArray⟩=true→l=a ++ [91,d,93]→Lib.cut l [91]=(a,[d,93],true):=by
  intro a d ha hn hl
  obtain ⟨_,hne⟩:=ALM hn
  have hi:Lib.index l [91]=(a.length:Int):=by
   refine Lib.index_first (by rw [hl]; simp) ((hocc _).2 (by rw [hl]; simp)) fun j hj => ?_
   rw [← Bool.not_eq_true,hocc,hl,List.getElem?_append_left hj,List.getElem?_eq_getElem hj]
   intro e
   exact hne _ (List.getElem_mem hj) (Option.some.inj e)
  unfold Lib.cut
  rw [hi,if_pos (by omega),Int.toNat_natCast,hl,List.take_left,← List.drop_drop,List.drop_left]
  rfl
 show PN ⟨l.toArray⟩=_
 rcases hcase:PN ⟨l.toArray⟩ with _ | ⟨a,d⟩
 ·symm
  show (if _ then _ else none)=none
  simp only
  split
  ·rename_i hb
   rw [Bool.and_eq_true] at hb
   split
   ·rename_i d y hm
    split
    ·rename_i hd
     exfalso
     simp only [Bool.and_eq_true,beq_iff_eq,decide_eq_true_eq] at hd
     obtain ⟨⟨rfl,hd1⟩,hd2⟩:=hd
     obtain ⟨ha,_⟩:=ALM hb.2
     have hc:Lib.cut l [91]=((Lib.cut l [91]).1,[d,93],true):=by
      rw [← hm]; have:=hb.1; cases hcc:Lib.cut l [91] with
      | mk p q=>cases q with
        | mk q1 q2=>rw [hcc] at this; simp at this; subst this; rfl
     have hl:l=(Lib.cut l [91]).1 ++ [91,d,93]:=by
      generalize (Lib.cut l [91]).1=b at hc
      unfold Lib.cut at hc
      split at hc
      ·rename_i h0
       obtain ⟨i,hi⟩ : ∃ i:Nat,Lib.index l [91]=i:=⟨(Lib.index l [91]).toNat,by omega⟩
       rw [hi] at hc
       simp only [Int.toNat_natCast,Prod.mk.injEq,List.length_singleton] at hc
       rcases Lib.index_spec l [91] with ⟨h1,_⟩ | ⟨j,h1,_,h3,_⟩
       ·omega
       ·have hj:i=j:=by omega
        subst hj
        have h4:=(hocc i).1 h3
        have h5:i < l.length:=(List.getElem?_eq_some_iff.1 h4).1
        have h6:l[i]=91:=by rw [List.getElem?_eq_getElem h5] at h4; exact Option.some.inj h4
        rw [← hc.1]
        calc l=l.take i ++ l.drop i:=(List.take_append_drop i l).symm
         _=l.take i ++ (l[i] :: l.drop (i+1)):=by rw [List.drop_eq_getElem_cons h5]
         _=l.take i ++ [91,d,93]:=by rw [h6,hc.2.1]
      ·simp at hc
     have:=ACH (x:=91) (d:=d) (y:=93) ha
     rw [← hl,hcase,if_pos (by simp [hb.2,hd1,hd2])] at this
     cases this
    ·rfl
   ·rfl
  ·rfl
 ·have h4:4≤l.length:=by
   unfold PN at hcase
   simp only at hcase
   split at hcase
   ·assumption
   ·cases hcase
  obtain ⟨b,x,d',y,rfl⟩:=three (show 3≤l.length by omega)
  have hb:b≠[]:=by intro e; subst e; simp at h4
  rw [ACH hb] at hcase
  split at hcase
  ·rename_i hc
   cases hcase
   simp only [Bool.and_eq_true,beq_iff_eq,decide_eq_true_eq] at hc
   obtain ⟨⟨⟨⟨rfl,rfl⟩,h1⟩,h2⟩,h3⟩:=hc
   simp only
   rw [main a d hb h3 rfl]
   simp [h3,h1,h2]
  ·cases hcase
end Go.Proofs.YtocilianjfhifaaGreatDoor.Cov
