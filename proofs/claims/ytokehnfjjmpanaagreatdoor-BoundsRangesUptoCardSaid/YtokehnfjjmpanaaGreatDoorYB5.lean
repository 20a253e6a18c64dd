/- Part 5 of the proof (Ft, B1, B2, B4, B5, B6, E1, E2, E3, E4, E5, E6); no condition. -/
import Derived.Test.YtokehnfjjmpanaaGreatDoorProg
import Derived.KernelRfl
import Derived.Laws.RangeAny
import Derived.Shelf.Strings.Cut
import Derived.Lib.IndexMore
import Derived.Test.YtokehnfjjmpanaaGreatDoorYB4
set_option linter.unusedVariables false
namespace Go.Proofs.YtokehnfjjmpanaaGreatDoor.Sm

theorem sz3:szO Tryz.prog 3=some 1:=by kernel_rfl
theorem ag3:LW Tryz.prog 3=some false:=by kernel_rfl
theorem sz4:szO Tryz.prog 4=some 1:=by kernel_rfl
theorem ag4:LW Tryz.prog 4=some false:=by kernel_rfl
theorem sz9:szO Tryz.prog 9=some 1:=by kernel_rfl
theorem ag9:LW Tryz.prog 9=some false:=by kernel_rfl
theorem VI:LW Tryz.prog 22=some false:=by kernel_rfl
theorem A2C:szO Tryz.prog 23=some 1:=by kernel_rfl
theorem NM:LW Tryz.prog 23=some false:=by kernel_rfl
theorem ASV:LW Tryz.prog 24=some false:=by kernel_rfl
theorem A1Q:LW Tryz.prog 25=some false:=by kernel_rfl
theorem UG:szO Tryz.prog 27=some 5:=by kernel_rfl
theorem VH:LW Tryz.prog 27=some true:=by kernel_rfl
theorem VC:szO Tryz.prog 34=some 2:=by kernel_rfl
theorem AJB:LW Tryz.prog 34=some true:=by kernel_rfl
theorem AW6:szO Tryz.prog 35=some 1:=by kernel_rfl
theorem ASU:LW Tryz.prog 35=some false:=by kernel_rfl
theorem JR:szO Tryz.prog 40=some 4:=by kernel_rfl
theorem KJ:LW Tryz.prog 40=some true:=by kernel_rfl
theorem A2B:szO Tryz.prog 45=some 1:=by kernel_rfl
theorem AYX:LW Tryz.prog 45=some false:=by kernel_rfl
theorem AVU:LW Tryz.prog 50=some false:=by kernel_rfl
theorem AG5:szO Tryz.prog 52=some 2:=by kernel_rfl
theorem AST:LW Tryz.prog 52=some true:=by kernel_rfl
theorem A2A:szO Tryz.prog 55=some 1:=by kernel_rfl
theorem APR:szO Tryz.prog 61=some 4:=by kernel_rfl
theorem A1P:LW Tryz.prog 61=some true:=by kernel_rfl
theorem A19:szO Tryz.prog 66=some 1:=by kernel_rfl
theorem A3R:LW Tryz.prog 66=some false:=by kernel_rfl
theorem A18:szO Tryz.prog 69=some 2:=by kernel_rfl
theorem A3Q:LW Tryz.prog 69=some true:=by kernel_rfl
theorem A17:szO Tryz.prog 87=some 2:=by kernel_rfl
theorem ANI:szO Tryz.prog 89=some 4:=by kernel_rfl
theorem AVT:LW Tryz.prog 89=some true:=by kernel_rfl
theorem APS:szO Tryz.prog 120=some 1:=by kernel_rfl
theorem AE1:LW Tryz.prog 120=some false:=by kernel_rfl
theorem be4 : ∀ p q,IE Tryz.prog 4 .eql (.bool p) (.bool q)=some (.bool (p == q)):=fun p q=>ASG Tryz.prog 4 p q (by kernel_rfl)
theorem ln9 : ∀ s,aLen Tryz.prog 9 (.str s)=some (.int .i64 s.size):=AUI (by kernel_rfl:Tryz.prog.underlying 9=some .string)
theorem VE : ∀ h a i,GU Tryz.prog h 22 a i=I4 4 h a i:=I9 (by kernel_rfl:Tryz.prog.underlying 22=some (.slice 61)) APR
theorem RH:(∀ m k xs,aLen Tryz.prog 22 (.sl m k xs)=some (.int .i64 xs.length))∧∀ b off len,aLen Tryz.prog 22 (.own b off len)=some (.int .i64 len):=QJ (by kernel_rfl:Tryz.prog.underlying 22=some (.slice 61))
theorem A13:Tryz.prog.underlying 22=some (.slice 61):=by kernel_rfl
theorem LQ : ∀ h a i,GU Tryz.prog h 23 a i=I4 4 h a i:=I9 (by kernel_rfl:Tryz.prog.underlying 23=some (.slice 40)) JR
theorem TD:(∀ m k xs,aLen Tryz.prog 23 (.sl m k xs)=some (.int .i64 xs.length))∧∀ b off len,aLen Tryz.prog 23 (.own b off len)=some (.int .i64 len):=QJ (by kernel_rfl:Tryz.prog.underlying 23=some (.slice 40))
theorem ANG:Tryz.prog.underlying 23=some (.slice 40):=by kernel_rfl
theorem AY0:AA0 Tryz.prog 40=some 4:=by kernel_rfl
theorem A0V:QO Tryz.prog 40=some 56:=by kernel_rfl
theorem ACE : ∀ h a i,GU Tryz.prog h 24 a i=I4 2 h a i:=I9 (by kernel_rfl:Tryz.prog.underlying 24=some (.slice 52)) AG5
theorem AQN:(∀ m k xs,aLen Tryz.prog 24 (.sl m k xs)=some (.int .i64 xs.length))∧∀ b off len,aLen Tryz.prog 24 (.own b off len)=some (.int .i64 len):=QJ (by kernel_rfl:Tryz.prog.underlying 24=some (.slice 52))
theorem A12:Tryz.prog.underlying 24=some (.slice 52):=by kernel_rfl
theorem AUP : ∀ h a i,GU Tryz.prog h 25 a i=I4 1 h a i:=I9 (by kernel_rfl:Tryz.prog.underlying 25=some (.slice 45)) A2B
theorem AZ7:(∀ m k xs,aLen Tryz.prog 25 (.sl m k xs)=some (.int .i64 xs.length))∧∀ b off len,aLen Tryz.prog 25 (.own b off len)=some (.int .i64 len):=QJ (by kernel_rfl:Tryz.prog.underlying 25=some (.slice 45))
theorem LU:(∀ b i j,DX Tryz.prog 27 (.ptr b i j) 0=some (.ptr b i (j+0)))∧(∀ k xs i j,DX Tryz.prog 27 (.fptr k xs i j) 0=some (.fptr k xs i (j+0))):=JM (by kernel_rfl:LG Tryz.prog 27 0 0=true)
theorem V5:(∀ b i j,DX Tryz.prog 27 (.ptr b i j) 1=some (.ptr b i (j+1)))∧(∀ k xs i j,DX Tryz.prog 27 (.fptr k xs i j) 1=some (.fptr k xs i (j+1))):=JM (by kernel_rfl:LG Tryz.prog 27 1 1=true)
theorem ARN:(∀ b i j,DX Tryz.prog 27 (.ptr b i j) 2=some (.ptr b i (j+2)))∧(∀ k xs i j,DX Tryz.prog 27 (.fptr k xs i j) 2=some (.fptr k xs i (j+2))):=JM (by kernel_rfl:LG Tryz.prog 27 2 2=true)
theorem ZR:(∀ b i j,DX Tryz.prog 27 (.ptr b i j) 3=some (.ptr b i (j+3)))∧(∀ k xs i j,DX Tryz.prog 27 (.fptr k xs i j) 3=some (.fptr k xs i (j+3))):=JM (by kernel_rfl:LG Tryz.prog 27 3 3=true)
theorem ARL:(∀ b i j,DX Tryz.prog 27 (.ptr b i j) 4=some (.ptr b i (j+4)))∧(∀ k xs i j,DX Tryz.prog 27 (.fptr k xs i j) 4=some (.fptr k xs i (j+4))):=JM (by kernel_rfl:LG Tryz.prog 27 4 4=true)
theorem JO : ∀ h a i,GU Tryz.prog h 29 a i=I4 2 h a i:=I9 (by kernel_rfl:Tryz.prog.underlying 29=some (.slice 34)) VC
theorem ZL:(∀ m k xs,aLen Tryz.prog 29 (.sl m k xs)=some (.int .i64 xs.length))∧∀ b off len,aLen Tryz.prog 29 (.own b off len)=some (.int .i64 len):=QJ (by kernel_rfl:Tryz.prog.underlying 29=some (.slice 34))
theorem AG2:Tryz.prog.underlying 29=some (.slice 34):=by kernel_rfl
theorem AS7:AA0 Tryz.prog 34=some 2:=by kernel_rfl
theorem AR6:QO Tryz.prog 34=some 16:=by kernel_rfl
theorem FB:(∀ b i j,DX Tryz.prog 34 (.ptr b i j) 0=some (.ptr b i (j+0)))∧(∀ k xs i j,DX Tryz.prog 34 (.fptr k xs i j) 0=some (.fptr k xs i (j+0))):=JM (by kernel_rfl:LG Tryz.prog 34 0 0=true)
theorem FN:(∀ b i j,DX Tryz.prog 34 (.ptr b i j) 1=some (.ptr b i (j+1)))∧(∀ k xs i j,DX Tryz.prog 34 (.fptr k xs i j) 1=some (.fptr k xs i (j+1))):=JM (by kernel_rfl:LG Tryz.prog 34 1 1=true)
theorem FU:(∀ b i j,DX Tryz.prog 40 (.ptr b i j) 0=some (.ptr b i (j+0)))∧(∀ k xs i j,DX Tryz.prog 40 (.fptr k xs i j) 0=some (.fptr k xs i (j+0))):=JM (by kernel_rfl:LG Tryz.prog 40 0 0=true)
theorem XR:(∀ b i j,DX Tryz.prog 40 (.ptr b i j) 1=some (.ptr b i (j+1)))∧(∀ k xs i j,DX Tryz.prog 40 (.fptr k xs i j) 1=some (.fptr k xs i (j+1))):=JM (by kernel_rfl:LG Tryz.prog 40 1 1=true)
theorem KF:(∀ b i j,DX Tryz.prog 40 (.ptr b i j) 2=some (.ptr b i (j+2)))∧(∀ k xs i j,DX Tryz.prog 40 (.fptr k xs i j) 2=some (.fptr k xs i (j+2))):=JM (by kernel_rfl:LG Tryz.prog 40 2 2=true)
theorem IJ:(∀ b i j,DX Tryz.prog 40 (.ptr b i j) 3=some (.ptr b i (j+3)))∧(∀ k xs i j,DX Tryz.prog 40 (.fptr k xs i j) 3=some (.fptr k xs i (j+3))):=JM (by kernel_rfl:LG Tryz.prog 40 3 3=true)
theorem A2W : ∀ h a i,GU Tryz.prog h 41 a i=I4 1 h a i:=I9 (by kernel_rfl:Tryz.prog.underlying 41=some (.slice 55)) A2A
theorem A2U:(∀ m k xs,aLen Tryz.prog 41 (.sl m k xs)=some (.int .i64 xs.length))∧∀ b off len,aLen Tryz.prog 41 (.own b off len)=some (.int .i64 len):=QJ (by kernel_rfl:Tryz.prog.underlying 41=some (.slice 55))
theorem AKN:(∀ b i j,DX Tryz.prog 43 (.ptr b i j) 0=some (.ptr b i (j+0)))∧(∀ k xs i j,DX Tryz.prog 43 (.fptr k xs i j) 0=some (.fptr k xs i (j+0))):=JM (by kernel_rfl:LG Tryz.prog 43 0 0=true)
theorem AX5:(∀ b i j,DX Tryz.prog 43 (.ptr b i j) 1=some (.ptr b i (j+5)))∧(∀ k xs i j,DX Tryz.prog 43 (.fptr k xs i j) 1=some (.fptr k xs i (j+5))):=JM (by kernel_rfl:LG Tryz.prog 43 1 5=true)
theorem AKM:(∀ b i j,DX Tryz.prog 43 (.ptr b i j) 2=some (.ptr b i (j+9)))∧(∀ k xs i j,DX Tryz.prog 43 (.fptr k xs i j) 2=some (.fptr k xs i (j+9))):=JM (by kernel_rfl:LG Tryz.prog 43 2 9=true)
theorem ARK:(∀ b i j,DX Tryz.prog 43 (.ptr b i j) 3=some (.ptr b i (j+10)))∧(∀ k xs i j,DX Tryz.prog 43 (.fptr k xs i j) 3=some (.fptr k xs i (j+10))):=JM (by kernel_rfl:LG Tryz.prog 43 3 10=true)
theorem WV : ∀ h a i,GU Tryz.prog h 45 a i=I4 1 h a i:=I9 (by kernel_rfl:Tryz.prog.underlying 45=some (.slice 3)) sz3
theorem AH0:(∀ m k xs,aLen Tryz.prog 45 (.sl m k xs)=some (.int .i64 xs.length))∧∀ b off len,aLen Tryz.prog 45 (.own b off len)=some (.int .i64 len):=QJ (by kernel_rfl:Tryz.prog.underlying 45=some (.slice 3))
theorem AY7:Tryz.prog.underlying 45=some (.slice 3):=by kernel_rfl
theorem A10:AA0 Tryz.prog 3=some 1:=by kernel_rfl
theorem A0U:QO Tryz.prog 3=some 8:=by kernel_rfl
theorem A0D : ∀ h a i,GU Tryz.prog h 47 a i=I4 2 h a i:=I9 (by kernel_rfl:Tryz.prog.underlying 47=some (.slice 87)) A17
theorem A2T:(∀ m k xs,aLen Tryz.prog 47 (.sl m k xs)=some (.int .i64 xs.length))∧∀ b off len,aLen Tryz.prog 47 (.own b off len)=some (.int .i64 len):=QJ (by kernel_rfl:Tryz.prog.underlying 47=some (.slice 87))
theorem AUO : ∀ h a i,GU Tryz.prog h 50 a i=I4 4 h a i:=I9 (by kernel_rfl:Tryz.prog.underlying 50=some (.slice 89)) ANI
theorem AN7:(∀ m k xs,aLen Tryz.prog 50 (.sl m k xs)=some (.int .i64 xs.length))∧∀ b off len,aLen Tryz.prog 50 (.own b off len)=some (.int .i64 len):=QJ (by kernel_rfl:Tryz.prog.underlying 50=some (.slice 89))
theorem V4:(∀ b i j,DX Tryz.prog 52 (.ptr b i j) 0=some (.ptr b i (j+0)))∧(∀ k xs i j,DX Tryz.prog 52 (.fptr k xs i j) 0=some (.fptr k xs i (j+0))):=JM (by kernel_rfl:LG Tryz.prog 52 0 0=true)
theorem V3:(∀ b i j,DX Tryz.prog 52 (.ptr b i j) 1=some (.ptr b i (j+1)))∧(∀ k xs i j,DX Tryz.prog 52 (.fptr k xs i j) 1=some (.fptr k xs i (j+1))):=JM (by kernel_rfl:LG Tryz.prog 52 1 1=true)
theorem PI:(∀ b i j,DX Tryz.prog 61 (.ptr b i j) 0=some (.ptr b i (j+0)))∧(∀ k xs i j,DX Tryz.prog 61 (.fptr k xs i j) 0=some (.fptr k xs i (j+0))):=JM (by kernel_rfl:LG Tryz.prog 61 0 0=true)
theorem OO:(∀ b i j,DX Tryz.prog 61 (.ptr b i j) 1=some (.ptr b i (j+1)))∧(∀ k xs i j,DX Tryz.prog 61 (.fptr k xs i j) 1=some (.fptr k xs i (j+1))):=JM (by kernel_rfl:LG Tryz.prog 61 1 1=true)
theorem NV:(∀ b i j,DX Tryz.prog 61 (.ptr b i j) 2=some (.ptr b i (j+2)))∧(∀ k xs i j,DX Tryz.prog 61 (.fptr k xs i j) 2=some (.fptr k xs i (j+2))):=JM (by kernel_rfl:LG Tryz.prog 61 2 2=true)
theorem XQ:(∀ b i j,DX Tryz.prog 61 (.ptr b i j) 3=some (.ptr b i (j+3)))∧(∀ k xs i j,DX Tryz.prog 61 (.fptr k xs i j) 3=some (.fptr k xs i (j+3))):=JM (by kernel_rfl:LG Tryz.prog 61 3 3=true)
theorem AX4:(∀ b i j,DX Tryz.prog 69 (.ptr b i j) 0=some (.ptr b i (j+0)))∧(∀ k xs i j,DX Tryz.prog 69 (.fptr k xs i j) 0=some (.fptr k xs i (j+0))):=JM (by kernel_rfl:LG Tryz.prog 69 0 0=true)
theorem ZQ:(∀ b i j,DX Tryz.prog 69 (.ptr b i j) 1=some (.ptr b i (j+1)))∧(∀ k xs i j,DX Tryz.prog 69 (.fptr k xs i j) 1=some (.fptr k xs i (j+1))):=JM (by kernel_rfl:LG Tryz.prog 69 1 1=true)
theorem L8:(∀ b i j,DX Tryz.prog 73 (.ptr b i j) 0=some (.ptr b i (j+0)))∧(∀ k xs i j,DX Tryz.prog 73 (.fptr k xs i j) 0=some (.fptr k xs i (j+0))):=JM (by kernel_rfl:LG Tryz.prog 73 0 0=true)
theorem AF3:(∀ b i j,DX Tryz.prog 73 (.ptr b i j) 1=some (.ptr b i (j+2)))∧(∀ k xs i j,DX Tryz.prog 73 (.fptr k xs i j) 1=some (.fptr k xs i (j+2))):=JM (by kernel_rfl:LG Tryz.prog 73 1 2=true)
theorem ACQ:(∀ b i j,DX Tryz.prog 78 (.ptr b i j) 0=some (.ptr b i (j+0)))∧(∀ k xs i j,DX Tryz.prog 78 (.fptr k xs i j) 0=some (.fptr k xs i (j+0))):=JM (by kernel_rfl:LG Tryz.prog 78 0 0=true)
theorem RS:(∀ b i j,DX Tryz.prog 78 (.ptr b i j) 1=some (.ptr b i (j+5)))∧(∀ k xs i j,DX Tryz.prog 78 (.fptr k xs i j) 1=some (.fptr k xs i (j+5))):=JM (by kernel_rfl:LG Tryz.prog 78 1 5=true)
theorem UQ:(∀ b i j,DX Tryz.prog 78 (.ptr b i j) 2=some (.ptr b i (j+6)))∧(∀ k xs i j,DX Tryz.prog 78 (.fptr k xs i j) 2=some (.fptr k xs i (j+6))):=JM (by kernel_rfl:LG Tryz.prog 78 2 6=true)
theorem AX3:(∀ b i j,DX Tryz.prog 87 (.ptr b i j) 0=some (.ptr b i (j+0)))∧(∀ k xs i j,DX Tryz.prog 87 (.fptr k xs i j) 0=some (.fptr k xs i (j+0))):=JM (by kernel_rfl:LG Tryz.prog 87 0 0=true)
theorem AX2:(∀ b i j,DX Tryz.prog 87 (.ptr b i j) 1=some (.ptr b i (j+1)))∧(∀ k xs i j,DX Tryz.prog 87 (.fptr k xs i j) 1=some (.fptr k xs i (j+1))):=JM (by kernel_rfl:LG Tryz.prog 87 1 1=true)
theorem QL:(∀ b i j,DX Tryz.prog 89 (.ptr b i j) 0=some (.ptr b i (j+0)))∧(∀ k xs i j,DX Tryz.prog 89 (.fptr k xs i j) 0=some (.fptr k xs i (j+0))):=JM (by kernel_rfl:LG Tryz.prog 89 0 0=true)
theorem TF:(∀ b i j,DX Tryz.prog 89 (.ptr b i j) 1=some (.ptr b i (j+1)))∧(∀ k xs i j,DX Tryz.prog 89 (.fptr k xs i j) 1=some (.fptr k xs i (j+1))):=JM (by kernel_rfl:LG Tryz.prog 89 1 1=true)
theorem ZP:(∀ b i j,DX Tryz.prog 89 (.ptr b i j) 2=some (.ptr b i (j+2)))∧(∀ k xs i j,DX Tryz.prog 89 (.fptr k xs i j) 2=some (.fptr k xs i (j+2))):=JM (by kernel_rfl:LG Tryz.prog 89 2 2=true)
theorem AH2 : ∀ h a i,GU Tryz.prog h 120 a i=I4 1 h a i:=I9 (by kernel_rfl:Tryz.prog.underlying 120=some (.slice 9)) sz9
theorem AAN:(∀ m k xs,aLen Tryz.prog 120 (.sl m k xs)=some (.int .i64 xs.length))∧∀ b off len,aLen Tryz.prog 120 (.own b off len)=some (.int .i64 len):=QJ (by kernel_rfl:Tryz.prog.underlying 120=some (.slice 9))
theorem APN:Tryz.prog.underlying 120=some (.slice 9):=by kernel_rfl
theorem AO5:AA0 Tryz.prog 9=some 1:=by kernel_rfl
theorem AR7:QO Tryz.prog 9=some 16:=by kernel_rfl
theorem AMN:(∀ b i j,DX Tryz.prog 122 (.ptr b i j) 0=some (.ptr b i (j+0)))∧(∀ k xs i j,DX Tryz.prog 122 (.fptr k xs i j) 0=some (.fptr k xs i (j+0))):=JM (by kernel_rfl:LG Tryz.prog 122 0 0=true)
theorem AF5:(∀ b i j,DX Tryz.prog 122 (.ptr b i j) 1=some (.ptr b i (j+1)))∧(∀ k xs i j,DX Tryz.prog 122 (.fptr k xs i j) 1=some (.fptr k xs i (j+1))):=JM (by kernel_rfl:LG Tryz.prog 122 1 1=true)
theorem YU:(∀ b i j,DX Tryz.prog 122 (.ptr b i j) 2=some (.ptr b i (j+2)))∧(∀ k xs i j,DX Tryz.prog 122 (.fptr k xs i j) 2=some (.fptr k xs i (j+2))):=JM (by kernel_rfl:LG Tryz.prog 122 2 2=true)
theorem AMM:(∀ b i j,DX Tryz.prog 122 (.ptr b i j) 3=some (.ptr b i (j+3)))∧(∀ k xs i j,DX Tryz.prog 122 (.fptr k xs i j) 3=some (.fptr k xs i (j+3))):=JM (by kernel_rfl:LG Tryz.prog 122 3 3=true)
theorem AF4:(∀ b i j,DX Tryz.prog 122 (.ptr b i j) 4=some (.ptr b i (j+4)))∧(∀ k xs i j,DX Tryz.prog 122 (.fptr k xs i j) 4=some (.fptr k xs i (j+4))):=JM (by kernel_rfl:LG Tryz.prog 122 4 4=true)
theorem A16:szO Tryz.prog 95=some 1:=by kernel_rfl
theorem A3P:LW Tryz.prog 95=some false:=by kernel_rfl
theorem A0E : ∀ h a i,GU Tryz.prog h 126 a i=I4 1 h a i:=I9 (by kernel_rfl:Tryz.prog.underlying 126=some (.slice 95)) A16
theorem AZ8:(∀ m k xs,aLen Tryz.prog 126 (.sl m k xs)=some (.int .i64 xs.length))∧∀ b off len,aLen Tryz.prog 126 (.own b off len)=some (.int .i64 len):=QJ (by kernel_rfl:Tryz.prog.underlying 126=some (.slice 95))
theorem AQW : ∀ h a i,GU Tryz.prog h 138 a i=I4 1 h a i:=I9 (by kernel_rfl:Tryz.prog.underlying 138=some (.slice 4)) sz4
theorem AY8:Tryz.prog.underlying 138=some (.slice 4):=by kernel_rfl
theorem A0W:QO Tryz.prog 4=some 1:=by kernel_rfl
theorem AWI : ∀ h a i,GU Tryz.prog h 159 a i=I4 1 h a i:=I9 (by kernel_rfl:Tryz.prog.underlying 159=some (.slice 23)) A2C
theorem AWC:(∀ m k xs,aLen Tryz.prog 159 (.sl m k xs)=some (.int .i64 xs.length))∧∀ b off len,aLen Tryz.prog 159 (.own b off len)=some (.int .i64 len):=QJ (by kernel_rfl:Tryz.prog.underlying 159=some (.slice 23))
theorem A0R : ∀ n,UC Tryz.prog 3 5 (.int .i64 n)=some (.int .u8 (IntKind.u8.wrap n)):=fun n=>TW (ds := .int .i64) Tryz.prog .i64 n (by kernel_rfl) (by kernel_rfl)
theorem AMW : ∀ n,UC Tryz.prog 3 148 (.int .i64 n)=some (.int .u64 (IntKind.u64.wrap n)):=fun n=>TW (ds := .int .i64) Tryz.prog .i64 n (by kernel_rfl) (by kernel_rfl)
theorem AVA : ∀ n,UC Tryz.prog 3 170 (.int .i64 n)=some (.int .u16 (IntKind.u16.wrap n)):=fun n=>TW (ds := .int .i64) Tryz.prog .i64 n (by kernel_rfl) (by kernel_rfl)
theorem AIP : ∀ n,UC Tryz.prog 5 3 (.int .u8 n)=some (.int .i64 (IntKind.i64.wrap n)):=fun n=>TW (ds := .int .u8) Tryz.prog .u8 n (by kernel_rfl) (by kernel_rfl)
theorem AYC : ∀ n,UC Tryz.prog 55 3 (.int .u16 n)=some (.int .i64 (IntKind.i64.wrap n)):=fun n=>TW (ds := .int .u16) Tryz.prog .u16 n (by kernel_rfl) (by kernel_rfl)
theorem AMX : ∀ n,UC Tryz.prog 175 5 (.int .u64 n)=some (.int .u8 (IntKind.u8.wrap n)):=fun n=>TW (ds := .int .u64) Tryz.prog .u64 n (by kernel_rfl) (by kernel_rfl)
noncomputable def En (G:Nat→AV):Env:=⟨Tryz.prog,G,none,fun _ _=>False⟩
theorem enP (G:Nat→AV):(En G).P=Tryz.prog:=rfl
theorem enX (G:Nat→AV):(En G).nox=En G:=rfl
theorem enG (G:Nat→AV):(En G).G=G:=rfl
theorem enM (G:Nat→AV):(En G).P.follows .mixedOrders=true:=by kernel_rfl
theorem acN {G:Nat→AV} {f:FuncId} {fn:Func} {c:Code} {args:List AV} {h:Hp} {R:AV→Hp→Prop} (hf:(En G).P.funcs[f]? = some fn) (hb:fn.body=some c) (hw:awp (En G) Hint.none c (MC args) h (EN (En G).P fn.results.toList R)) (h1:(fn.name == "runtime.NumGoroutine")=false:=by kernel_rfl) (h2:RX fn.ntmps c=true:=by kernel_rfl) (h3:Nat.ble args.length fn.ntmps=true:=by kernel_rfl):ACalls (En G) f args h R:=IM (enM G) hf hb h1 h2 (Nat.le_of_ble_eq_true h3) hw
end Go.Proofs.YtokehnfjjmpanaaGreatDoor.Sm
namespace Go.Proofs.YtokehnfjjmpanaaGreatDoor.Bins
open Sm
structure Rng where
 lo:Int
 hi:Int
 deriving DecidableEq
def encR (r:Rng):List AV := [.int .i64 r.lo,.int .i64 r.hi]
theorem RU (r:Rng):(encR r).length=2:=rfl
theorem ADE {α:Type} (p:α→Bool) (xs:List α) (k:Nat) (h:k < xs.length):(xs.drop k).any p=(p xs[k] || (xs.drop (k+1)).any p):=by
 rw [List.drop_eq_getElem_cons h,List.any_cons]
theorem bxR (h:Hp) (r:Rng):PO h (.agg (encR r))=some (.ptr h.length 0 0,h ++ [.live 2 [encR r]]):=rfl
def bad (r:Rng):Bool:=decide (r.lo < 0) || decide (r.lo > r.hi) || decide (r.hi > 65535)
theorem A3O (h:Hp):J8 Tryz.prog h 34=some (.ptr h.length 0 0,h ++ [.live 2 [[.int .i64 0,.int .i64 0]]]):=KI (row := [.int .i64 0,.int .i64 0]) (by kernel_rfl)
theorem cok (f:FuncId) (G:Nat→AV) (hf:(match Tryz.prog.funcs[f]? with | some fn=>fn.body.isSome && !(fn.name == "runtime.NumGoroutine") | none=>false)=true):AAH (En G).P f:=by
 have he:(En G).P=Tryz.prog:=rfl
 unfold AAH
 rw [he]
 cases hx:Tryz.prog.funcs[f]? with
 | none=>rw [hx] at hf; cases hf
 | some fn =>
   rw [hx] at hf
   simp at hf
   exact ⟨fn,rfl,by simpa using hf.1,by simpa using hf.2⟩
def qencI (n:Int):List AV := [.int .i64 n]
theorem encI0 (n:Int):(qencI n)[0]? = some (.int .i64 n):=rfl
end Go.Proofs.YtokehnfjjmpanaaGreatDoor.Bins
set_option linter.unusedSimpArgs false
set_option maxRecDepth 8000
namespace Go.Proofs.YtokehnfjjmpanaaGreatDoor.Bins
open Sm
open Bool renaming not_false→jC
open List renaming map_cons→jF,map_nil→jD,append_nil→jE,length_map→jR,all_eq_true→zK,getElem?_cons_zero→zB
open Nat renaming le_of_ble_eq_true→jJ,reduceEqDiff→jA,lt_or_ge→jV,eq_zero_or_pos→zZ
open Option renaming getD_some→jB
def SE (n:Int):Bool:=decide (n≥97) && decide (n≤122)
def AIO (n:Int):Bool:=decide (n≥48) && decide (n≤57)
def NJ (n:Int):Bool:=SE n || AIO n || (decide (n≥65) && decide (n≤90)) || n == 95
theorem ACB (G:Nat→AV) (n:Int) (h:Hp):PCall (En G) 201 [.int .i32 n] h (.bool (SE n)):=by
 refine acN Tryz.func201 rfl ?_
 show awp _ _ _ _ _ (EN _ [.tmp 2] _)
 simp -implicitDefEqProofs only [BB,A8,A7,AZ,BA,BL,BX,CO,AO,AQ,AL,BD,AY,AC,AA,AX,AU,BH,BM,BJ,BC,BU,AB,FV,BF,↓reduceIte,jA,jB,jC,enX,enP]
 refine IA (fun ha => ?_) (fun ha => ?_)
 ·simp -implicitDefEqProofs only [BK,A7,CV,AZ,BA,BL,BX,CO,GL,AO,AQ,AL,BD,AY,AC,AA,AX,AU,BH,BM,BJ,BC,CP,DW,BU,AB,IR,BF,↓reduceIte,jA,jB,jC,enP,ha]
  exact ⟨by unfold SE; rw [ha]; rfl,trivial⟩
 ·simp -implicitDefEqProofs only [BK,A7,CV,AZ,BA,BL,BX,CO,IP,AO,AQ,AL,BD,AY,AC,AA,EQ,AX,AU,BM,BC,CP,DZ,↓reduceIte,jA,jB,jC,ha]
  exact ⟨by unfold SE; rw [ha]; rfl,trivial⟩
theorem AKX (G:Nat→AV) (n:Int) (h:Hp):PCall (En G) 213 [.int .i32 n] h (.bool (AIO n)):=by
 refine acN Tryz.func213 rfl ?_
 show awp _ _ _ _ _ (EN _ [.tmp 2] _)
 simp -implicitDefEqProofs only [BB,A8,A7,AZ,BA,BL,BX,CO,AO,AQ,AL,BD,AY,AC,AA,AX,AU,BH,BM,BJ,BC,BU,AB,FV,BF,↓reduceIte,jA,jB,jC,enX,enP]
 refine IA (fun ha => ?_) (fun ha => ?_)
 ·simp -implicitDefEqProofs only [BK,A7,CV,AZ,BA,BL,BX,CO,GL,AO,AQ,AL,BD,AY,AC,AA,AX,AU,BH,BM,BJ,BC,CP,DW,BU,AB,IR,BF,↓reduceIte,jA,jB,jC,enP,ha]
  exact ⟨by unfold AIO; rw [ha]; rfl,trivial⟩
 ·simp -implicitDefEqProofs only [BK,A7,CV,AZ,BA,BL,BX,CO,IP,AO,AQ,AL,BD,AY,AC,AA,EQ,AX,AU,BM,BC,CP,DZ,↓reduceIte,jA,jB,jC,ha]
  exact ⟨by unfold AIO; rw [ha]; rfl,trivial⟩
theorem AD7 (G:Nat→AV) (n:Int) (h:Hp):PCall (En G) 197 [.int .u8 n] h (.bool (SE n)):=by
 refine acN Tryz.func197 rfl ?_
 show awp _ _ _ _ _ (EN _ [.tmp 2] _)
 simp -implicitDefEqProofs only [BB,A8,A7,AZ,BA,BL,BX,CO,AO,AQ,AL,BD,AY,AC,AA,AX,AU,BH,BM,BJ,BC,BU,AB,FV,BF,↓reduceIte,jA,jB,jC,enX,enP]
 refine IA (fun ha => ?_) (fun ha => ?_)
 ·simp -implicitDefEqProofs only [BK,A7,CV,AZ,BA,BL,BX,CO,GL,AO,AQ,AL,BD,AY,AC,AA,AX,AU,BH,BM,BJ,BC,CP,DW,BU,AB,IR,BF,↓reduceIte,jA,jB,jC,enP,ha]
  exact ⟨by unfold SE; rw [ha]; rfl,trivial⟩
 ·simp -implicitDefEqProofs only [BK,A7,CV,AZ,BA,BL,BX,CO,IP,AO,AQ,AL,BD,AY,AC,AA,EQ,AX,AU,BM,BC,CP,DZ,↓reduceIte,jA,jB,jC,ha]
  exact ⟨by unfold SE; rw [ha]; rfl,trivial⟩
theorem digit_ref (G:Nat→AV) (n:Int) (h:Hp):PCall (En G) 212 [.int .u8 n] h (.bool (AIO n)):=by
 refine acN Tryz.func212 rfl ?_
 show awp _ _ _ _ _ (EN _ [.tmp 2] _)
 simp -implicitDefEqProofs only [BB,A8,A7,AZ,BA,BL,BX,CO,AO,AQ,AL,BD,AY,AC,AA,AX,AU,BH,BM,BJ,BC,BU,AB,FV,BF,↓reduceIte,jA,jB,jC,enX,enP]
 refine IA (fun ha => ?_) (fun ha => ?_)
 ·simp -implicitDefEqProofs only [BK,A7,CV,AZ,BA,BL,BX,CO,GL,AO,AQ,AL,BD,AY,AC,AA,AX,AU,BH,BM,BJ,BC,CP,DW,BU,AB,IR,BF,↓reduceIte,jA,jB,jC,enP,ha]
  exact ⟨by unfold AIO; rw [ha]; rfl,trivial⟩
 ·simp -implicitDefEqProofs only [BK,A7,CV,AZ,BA,BL,BX,CO,IP,AO,AQ,AL,BD,AY,AC,AA,EQ,AX,AU,BM,BC,CP,DZ,↓reduceIte,jA,jB,jC,ha]
  exact ⟨by unfold AIO; rw [ha]; rfl,trivial⟩
theorem YR (G:Nat→AV) (n:Int) (h:Hp):PCall (En G) 202 [.int .i32 n] h (.bool (NJ n)):=by
 refine acN Tryz.func202 rfl ?_
 show awp _ _ _ _ _ (EN _ [.tmp 2] _)
 simp -implicitDefEqProofs only [BB,A8,A7,AZ,BA,AO,AQ,AL,BD,AY,AC,AA,AX,AU,BN,BM,BJ,BC,BV,BP,BF,jF,jD,jE,↓reduceIte,jA,jB,jC,enX,enP]
 refine (ACB G n h).use ?_
 simp -implicitDefEqProofs only [AZ,BL,BX,CO,AO,AQ,AL,BD,AY,AC,AA,AX,BJ,↓reduceIte,jB,jC]
 refine IA (fun ha => ?_) (fun ha => ?_)
 ·simp -implicitDefEqProofs only [BK,A7,CV,AZ,BA,BL,BX,CO,F7,W9,AO,AQ,AL,BD,AY,AC,AA,EQ,AX,AU,BM,BJ,BC,CP,DW,↓reduceIte,jA,jB,jC,ha]
  exact ⟨by unfold NJ; rw [ha]; rfl,trivial⟩
 simp -implicitDefEqProofs only [BL,BX,CO,EY,AO,AQ,AL,BD,AY,AC,AA,AX,BN,BJ,BV,BP,BF,jF,jD,jE,↓reduceIte,jA,jB,jC,ha]
 refine (AKX G n h).use ?_
 simp -implicitDefEqProofs only [AZ,BL,BX,CO,AO,AQ,AL,BD,AY,AC,AA,AX,AU,BM,BJ,CP,DZ,↓reduceIte,jA,jB,jC]
 refine IA (fun hb => ?_) (fun hb => ?_)
 ·simp -implicitDefEqProofs only [BK,A7,CV,AZ,BA,BL,BX,CO,F7,W9,AO,AQ,AL,BD,AY,AC,AA,EQ,AX,AU,BM,BJ,BC,CP,DW,↓reduceIte,jA,jB,jC,hb]
  exact ⟨by unfold NJ; rw [ha,hb]; rfl,trivial⟩
 simp -implicitDefEqProofs only [BL,BX,CO,EY,AO,AQ,AL,BD,AY,AC,AA,AX,AU,BH,BJ,BU,AB,FV,BF,↓reduceIte,jA,jB,jC,enP,hb]
 refine IA (fun hc => ?_) (fun hc => ?_)
 ·simp -implicitDefEqProofs only [AZ,BL,BX,CO,GL,EY,AO,AQ,AL,BD,AY,AC,AA,AX,AU,BH,BM,BJ,CP,DW,DZ,BU,AB,IR,BF,↓reduceIte,jA,jB,jC,enP,hc]
  refine IA (fun hd => ?_) (fun hd => ?_)
  ·simp -implicitDefEqProofs only [BK,A7,CV,AZ,BA,BL,BX,CO,F7,AO,AQ,AL,BD,AY,AC,AA,EQ,AX,AU,BM,BC,CP,DW,↓reduceIte,jA,jB,jC,hd]
   exact ⟨by unfold NJ; rw [ha,hb,hc,hd]; rfl,trivial⟩
  ·simp -implicitDefEqProofs only [BK,A7,CV,AZ,BA,BL,BX,CO,EY,AO,AQ,AL,BD,AY,AC,AA,AX,AU,BH,BM,BJ,BC,CP,DZ,BU,AB,CX,BF,↓reduceIte,jA,jB,jC,enP,hd]
   exact ⟨by unfold NJ; rw [ha,hb,hc,hd]; rfl,trivial⟩
 ·simp -implicitDefEqProofs only [BK,A7,CV,AZ,BA,BL,BX,CO,EY,IP,AO,AQ,AL,BD,AY,AC,AA,EQ,AX,AU,BH,BM,BJ,BC,CP,DZ,BU,AB,CX,BF,↓reduceIte,jA,jB,jC,enP,hc]
  exact ⟨by unfold NJ; rw [ha,hb,hc]; rfl,trivial⟩
theorem AOD (G:Nat→AV) (n:Int) (h:Hp):PCall (En G) 199 [.int .u8 n] h (.bool (NJ n)):=by
 refine acN Tryz.func199 rfl ?_
 show awp _ _ _ _ _ (EN _ [.tmp 2] _)
 simp -implicitDefEqProofs only [BB,A8,A7,AZ,BA,AO,AQ,AL,BD,AY,AC,AA,AX,AU,BN,BM,BJ,BC,BV,BP,BF,jF,jD,jE,↓reduceIte,jA,jB,jC,enX,enP]
 refine (AD7 G n h).use ?_
 simp -implicitDefEqProofs only [AZ,BL,BX,CO,AO,AQ,AL,BD,AY,AC,AA,AX,BJ,↓reduceIte,jB,jC]
 refine IA (fun ha => ?_) (fun ha => ?_)
 ·simp -implicitDefEqProofs only [BK,A7,CV,AZ,BA,BL,BX,CO,F7,W9,AO,AQ,AL,BD,AY,AC,AA,EQ,AX,AU,BM,BJ,BC,CP,DW,↓reduceIte,jA,jB,jC,ha]
  exact ⟨by unfold NJ; rw [ha]; rfl,trivial⟩
 simp -implicitDefEqProofs only [BL,BX,CO,EY,AO,AQ,AL,BD,AY,AC,AA,AX,BN,BJ,BV,BP,BF,jF,jD,jE,↓reduceIte,jA,jB,jC,ha]
 refine (digit_ref G n h).use ?_
 simp -implicitDefEqProofs only [AZ,BL,BX,CO,AO,AQ,AL,BD,AY,AC,AA,AX,AU,BM,BJ,CP,DZ,↓reduceIte,jA,jB,jC]
 refine IA (fun hb => ?_) (fun hb => ?_)
 ·simp -implicitDefEqProofs only [BK,A7,CV,AZ,BA,BL,BX,CO,F7,W9,AO,AQ,AL,BD,AY,AC,AA,EQ,AX,AU,BM,BJ,BC,CP,DW,↓reduceIte,jA,jB,jC,hb]
  exact ⟨by unfold NJ; rw [ha,hb]; rfl,trivial⟩
 simp -implicitDefEqProofs only [BL,BX,CO,EY,AO,AQ,AL,BD,AY,AC,AA,AX,AU,BH,BJ,BU,AB,FV,BF,↓reduceIte,jA,jB,jC,enP,hb]
 refine IA (fun hc => ?_) (fun hc => ?_)
 ·simp -implicitDefEqProofs only [AZ,BL,BX,CO,GL,EY,AO,AQ,AL,BD,AY,AC,AA,AX,AU,BH,BM,BJ,CP,DW,DZ,BU,AB,IR,BF,↓reduceIte,jA,jB,jC,enP,hc]
  refine IA (fun hd => ?_) (fun hd => ?_)
  ·simp -implicitDefEqProofs only [BK,A7,CV,AZ,BA,BL,BX,CO,F7,AO,AQ,AL,BD,AY,AC,AA,EQ,AX,AU,BM,BC,CP,DW,↓reduceIte,jA,jB,jC,hd]
   exact ⟨by unfold NJ; rw [ha,hb,hc,hd]; rfl,trivial⟩
  ·simp -implicitDefEqProofs only [BK,A7,CV,AZ,BA,BL,BX,CO,EY,AO,AQ,AL,BD,AY,AC,AA,AX,AU,BH,BM,BJ,BC,CP,DZ,BU,AB,CX,BF,↓reduceIte,jA,jB,jC,enP,hd]
   exact ⟨by unfold NJ; rw [ha,hb,hc,hd]; rfl,trivial⟩
 ·simp -implicitDefEqProofs only [BK,A7,CV,AZ,BA,BL,BX,CO,EY,IP,AO,AQ,AL,BD,AY,AC,AA,EQ,AX,AU,BH,BM,BJ,BC,CP,DZ,BU,AB,CX,BF,↓reduceIte,jA,jB,jC,enP,hc]
  exact ⟨by unfold NJ; rw [ha,hb,hc]; rfl,trivial⟩
def encStr (s:ByteArray):List AV := [.str s]
theorem AMR (s:ByteArray):(encStr s)[0]? = some (.str s):=rfl
def MN (xs:List ByteArray) (v:ByteArray):Bool:=xs.any fun u=>v.toList == u.toList
theorem AUW (G:Nat→AV) (xs:List ByteArray) (m:SM) (v:ByteArray) (h:Hp) (hl:xs.length≤1099511627776) :
  PCall (En G) 210 [.sl m 1 (xs.map encStr),.str v] h (.bool (MN xs v)):=by
 refine acN Tryz.func210 rfl ?_
 show awp _ _ _ _ _ (EN _ [.tmp 4] _)
 simp -implicitDefEqProofs only [BB,CE,A8,A7,AZ,BA,AO,AQ,AL,BD,AY,AC,AU,BH,BM,BC,jB,jC,enX,enP]
 refine EG (fun n F H => ∃ k,n+k=xs.length∧F 0 = .sl m 1 (xs.map encStr)∧F 1 = .str v∧F 5 = .int .i64 (k:Nat)∧H=h∧MN xs v=MN (xs.drop k) v) xs.length ⟨0,by simp,rfl,rfl,rfl,rfl,rfl⟩ ?_
 rintro n F H ⟨k,hk,f0,f1,f5,rfl,hin⟩
 simp -implicitDefEqProofs only [BB,A8,BI,A7,AZ,BA,AO,AQ,AL,BD,AY,AC,AA,AX,BJ,BU,FP,AB,DV,↓reduceIte,jA,jB,jC,enP,AAN,f0,f1,f5,jR]
 refine CQ (fun hc => ?_) (fun hc => ?_)
 ·have hc':k < xs.length:=by simpa using hc
  have hs:MN (xs.drop k) v=((v.toList == xs[k].toList) || MN (xs.drop (k+1)) v):=ADE _ xs k hc'
  simp -implicitDefEqProofs only [BB,CE,A8,BR,BI,A7,AZ,BA,AO,AQ,AL,BD,AY,AC,AA,AX,BJ,BO,BU,CG,AB,KY,↓reduceIte,jA,jB,jC,enP,AH2,f0,f1,f5,EX hc',IC ag9 hc',AMR]
  refine CQ (fun hb => ?_) (fun hb => ?_)
  ·simp -implicitDefEqProofs only [BB,A8,BK,A7,CJ,D8,F9,CV,AZ,BA,AO,AQ,AL,BD,AY,AC,AA,AU,BM,BC,↓reduceIte,jB,jC]
   refine ⟨?_,trivial⟩
   rw [hin,hs,show (v.toList == xs[k].toList)=true by rw [BEq.comm]; exact hb]; rfl
  ·simp -implicitDefEqProofs only [A8,BR,A7,EO,FO,AZ,BA,AO,AQ,AL,BD,AY,AC,AA,AX,AU,BH,BJ,BC,BU,AB,D6,↓reduceIte,jA,jB,jC,enP,f5,wrap_succ (show k < 9223372036854775807 by omega)]
   refine ⟨n - 1,by omega,k+1,by omega,f0,f1,rfl,trivial,?_⟩
   rw [hin,hs,show (v.toList == xs[k].toList)=false by rw [BEq.comm]; exact hb]; rfl
 ·have hc' : ¬ k < xs.length:=by simpa using hc
  simp -implicitDefEqProofs only [BB,A8,BK,EF,A7,FC,F6,F8,CV,AZ,BA,AO,AQ,AL,BD,AY,AC,AA,AU,BM,BC,↓reduceIte,jB,jC]
  exact ⟨by rw [hin,List.drop_eq_nil_of_le (by omega)]; rfl,trivial⟩
theorem index_prog (G:Nat→AV) (xs:List ByteArray) (m:SM) (v:ByteArray) (h:Hp) (hl:xs.length≤1099511627776) :
  ∃ i:Int,(decide (i≥0)=MN xs v)∧PCall (En G) 209 [.sl m 1 (xs.map encStr),.str v] h (.int .i64 i):=by
 refine ⟨(match xs.findIdx? (fun u=>v.toList == u.toList) with | some i=>(i:Int) | none => -1),?_,?_⟩
 ·cases hx:xs.findIdx? (fun u=>v.toList == u.toList) with
  | some i =>
    obtain ⟨h1,h2,_⟩:=List.findIdx?_eq_some_iff_getElem.1 hx
    have:MN xs v=true:=List.any_eq_true.2 ⟨xs[i],by simp,h2⟩
    simp [this]
  | none =>
    have:MN xs v=false:=by
     rw [List.findIdx?_eq_none_iff] at hx
     unfold MN
     rw [List.any_eq_false]; intro x hx2; simp only [hx x hx2]; simp
    simp [this]
 refine acN Tryz.func209 rfl ?_
 show awp _ _ _ _ _ (EN _ [.tmp 4] _)
 simp -implicitDefEqProofs only [BB,CE,A8,A7,AZ,BA,AO,AQ,AL,BD,AY,AC,AA,AX,AU,BH,BJ,BC,FP,AB,BF,↓reduceIte,jA,jB,jC,enX,enP,AAN,jR]
 refine EG (fun n F H => ∃ k,n+k=xs.length∧F 0 = .sl m 1 (xs.map encStr)∧F 1 = .str v∧F 7 = .int .i64 xs.length∧F 8 = .int .i64 (k:Nat)∧H=h∧(xs.take k).all (fun u => !(v.toList == u.toList))=true) xs.length ⟨0,by simp,rfl,rfl,rfl,rfl,rfl,rfl⟩ ?_
 rintro n F H ⟨k,hk,f0,f1,f7,f8,rfl,hin⟩
 simp -implicitDefEqProofs only [BB,A8,BI,A7,AZ,BA,AO,AQ,AL,BD,AY,AC,AA,AX,BU,AB,DV,↓reduceIte,jB,jC,enP,f0,f1,f7,f8,jR]
 refine CQ (fun hc => ?_) (fun hc => ?_)
 ·have hc':k < xs.length:=by simpa using hc
  simp -implicitDefEqProofs only [BB,CE,A8,BR,BI,A7,AZ,BA,AO,AQ,AL,BD,AY,AC,AA,AX,BJ,BC,BO,BU,CG,AB,KY,↓reduceIte,jA,jB,jC,enP,AH2,f0,f1,f7,f8,EX hc',IC ag9 hc',AMR]
  refine CQ (fun hb => ?_) (fun hb => ?_)
  ·simp -implicitDefEqProofs only [BB,A8,BK,A7,CJ,D8,F9,CV,AZ,BA,AO,AQ,AL,BD,AY,AC,AA,AX,BJ,BC,↓reduceIte,jA,jB,jC]
   refine ⟨?_,trivial⟩
   rw [List.findIdx?_eq_some_iff_getElem.2 ⟨hc',hb,fun j hj=>by
    rw [zK] at hin
    have:=hin xs[j] (by rw [List.mem_take_iff_getElem]; exact ⟨j,by omega,rfl⟩)
    simpa using this⟩]
  ·simp -implicitDefEqProofs only [A8,BR,A7,EO,FO,AZ,BA,AO,AQ,AL,BD,AY,AC,AA,AX,AU,BH,BJ,BU,AB,D6,↓reduceIte,jA,jB,jC,enP,f8,wrap_succ (show k < 9223372036854775807 by omega)]
   refine ⟨n - 1,by omega,k+1,by omega,f0,f1,f7,rfl,trivial,?_⟩
   rw [List.take_succ_eq_append_getElem hc',List.all_append,hin]
   simp only [List.all_cons,List.all_nil,hb]; rfl
 ·have hc' : ¬ k < xs.length:=by simpa using hc
  simp -implicitDefEqProofs only [BB,A8,BK,EF,A7,FC,F6,F8,CV,AZ,BA,AO,AQ,AL,BD,AY,AC,AA,AU,BH,BC,↓reduceIte,jB,jC]
  refine ⟨?_,trivial⟩
  rw [List.take_of_length_le (by omega)] at hin
  rw [List.findIdx?_eq_none_iff.2 (by
   intro x hx
   rw [zK] at hin
   simpa using hin x hx)]
theorem ADY (G:Nat→AV) (xs:List ByteArray) (m:SM) (v:ByteArray) (h:Hp) (hl:xs.length≤1099511627776) :
  PCall (En G) 195 [.sl m 1 (xs.map encStr),.str v] h (.bool (MN xs v)):=by
 obtain ⟨i,hi,hp⟩:=index_prog G xs m v h hl
 refine acN Tryz.func195 rfl ?_
 show awp _ _ _ _ _ (EN _ [.tmp 4] _)
 simp -implicitDefEqProofs only [BB,A8,A7,AZ,BA,AO,AQ,AL,BD,AY,AC,AA,AX,AU,BN,BM,BJ,BC,BV,BP,BF,BQ,jF,jD,jE,↓reduceIte,jA,jB,jC,enX,enP]
 refine hp.use ?_
 simp -implicitDefEqProofs only [BK,A7,CV,AZ,BA,AO,AQ,AL,BD,AY,AC,AA,AX,AU,BH,BC,BU,AB,FV,↓reduceIte,jB,jC,enP]
 exact ⟨by rw [hi],trivial⟩
def kw:List ByteArray := [⟨#[99,108,97,115,115]⟩,⟨#[101,120,116,101,110,100,115]⟩,⟨#[114,97,110,100]⟩,⟨#[114,97,110,100,99]⟩,⟨#[115,116,97,116,101]⟩,⟨#[99,111,110,115,116,114,97,105,110,116]⟩,⟨#[115,111,102,116]⟩,⟨#[100,105,115,116]⟩,⟨#[105,102]⟩,⟨#[101,108,115,101]⟩,⟨#[101,97,99,104]⟩,⟨#[105,110]⟩,⟨#[115,111,108,118,101]⟩,⟨#[98,101,102,111,114,101]⟩,⟨#[105,110,115,105,100,101]⟩,⟨#[112,114,111,112,101,114,116,121]⟩,⟨#[115,101,113]⟩,⟨#[97,110,100]⟩,⟨#[111,114]⟩,⟨#[110,111,116]⟩,⟨#[115,101,116]⟩,⟨#[104,111,108,100]⟩,⟨#[112,108,97,105,110]⟩,⟨#[114,101,112,101,97,116]⟩]
theorem AQU:kw.length=24:=rfl
theorem AFV (G:Nat→AV) (h:Hp):PCall (En G) 211 [] h (.sl .full 1 (kw.map encStr)):=by
 refine acN Tryz.func211 rfl ?_
 show awp _ _ _ _ _ (EN _ [.tmp 0] _)
 simp -implicitDefEqProofs only [ER,EP,BB,A8,A7,AZ,BA,AO,AQ,AL,BD,AY,AC,AU,IB,KZ,BC,GR,jB,jC,enX,enP]
 refine WM (v := .sl .full 1 (kw.map encStr)) (h:=h) (by kernel_rfl) ?_
 simp -implicitDefEqProofs only [BK,A7,CV,AZ,BA,AO,AQ,AL,BD,AY,AC,AA,AX,BC,↓reduceIte,jB,jC]
 exact ⟨trivial,trivial⟩
theorem ADV (G:Nat→AV) (v:ByteArray) (h:Hp):PCall (En G) 198 [.str v] h (.bool (MN kw v)):=by
 refine acN Tryz.func198 rfl ?_
 show awp _ _ _ _ _ (EN _ [.tmp 2] _)
 simp -implicitDefEqProofs only [BB,A8,A7,AZ,BA,AO,AQ,AL,BD,AY,AC,AU,BN,BM,BC,BV,BP,jD,jE,jB,jC,enX,enP]
 refine (AFV G h).use ?_
 simp -implicitDefEqProofs only [AZ,AO,AQ,AL,BD,AY,AC,AA,AX,BN,BJ,BV,BP,BF,jF,jD,jE,↓reduceIte,jA,jB,jC]
 refine (AUW G kw .full v h (by rw [AQU]; omega)).use ?_
 simp -implicitDefEqProofs only [BK,A7,CV,AZ,BA,AO,AQ,AL,BD,AY,AC,AA,AX,BC,↓reduceIte,jB,jC]
 exact ⟨trivial,trivial⟩
def KwG (G:Nat→AV):Prop := ∃ m,G 0 = .fptr 1 [[.sl m 1 (kw.map encStr)]] 0 0
theorem ACF (G:Nat→AV) (hG:KwG G) (v:ByteArray) (h:Hp):PCall (En G) 173 [.str v] h (.bool (MN kw v)):=by
 obtain ⟨m,hg⟩:=hG
 refine acN Tryz.func173 rfl ?_
 show awp _ _ _ _ _ (EN _ [.tmp 2] _)
 have e:DR Tryz.prog h 120 (G 0)=some (.sl m 1 (kw.map encStr)):=by rw [hg]; exact AQM AE1 rfl rfl
 have hl:kw.length≤1099511627776:=by rw [AQU]; omega
 simp -implicitDefEqProofs only [BB,A8,A7,AZ,BA,AO,AQ,AL,BD,AY,AC,AA,AX,AU,BN,AU3,BM,BJ,BC,BO,BV,BP,AB,BF,jF,jD,jE,↓reduceIte,jA,jB,jC,enX,enP,enG,e]
 refine (ADY G kw m v h hl).use ?_
 simp -implicitDefEqProofs only [BK,A7,CV,AZ,BA,AO,AQ,AL,BD,AY,AC,AA,AX,BC,↓reduceIte,jB,jC]
 exact ⟨trivial,trivial⟩
def TL (s:ByteArray):Bool:=(match s.data.toList with | []=>false | b :: _=>SE b.toNat) && s.data.toList.all fun b=>NJ b.toNat
def IQ (s:ByteArray):Bool:=TL s && decide (s.size≤16) && !MN kw s
theorem ZN {n:Int} (h:NJ n=true):n < 128:=by
 simp only [NJ,SE,AIO,Bool.or_eq_true,Bool.and_eq_true,decide_eq_true_eq,beq_iff_eq] at h
 omega
theorem ATS (h:Hp) (s:ByteArray):AAD Tryz.prog h 9 (.str s)=some (.ptr h.length 0 0,h ++ [.iter s 0]):=by
 have:Tryz.prog.underlying 9=some .string:=by kernel_rfl
 simp [AAD,this]
theorem AT9 {h:Hp} {s:ByteArray} {pos:Nat} (hp:pos < s.size):AAW (h ++ [.iter s pos]) (.ptr h.length 0 0) true=some (.tup [.bool true,.int .i64 pos,.int .i32 (Utf8.decode s pos).1],h ++ [.iter s (pos+(Utf8.decode s pos).2)]):=by
 simp [AAW,hp]
theorem AQD {h:Hp} {s:ByteArray} {pos:Nat} (hp : ¬ pos < s.size):AAW (h ++ [.iter s pos]) (.ptr h.length 0 0) true=some (.tup [.bool false],h ++ [.iter s pos]):=by
 simp [AAW,hp]
theorem UE {s:ByteArray} {k:Nat} (hk:k < s.size) (hb:NJ (s[k]'hk).toNat=false):TL s=false:=by
 unfold TL
 have:(s.data.toList.all fun b=>NJ b.toNat)=false:=by
  rw [List.all_eq_false]
  exact ⟨s[k],Array.getElem_mem_toList (xs:=s.data) hk,by simp [hb]⟩
 rw [this]; simp
theorem AAI {s:ByteArray} (hk:0 < s.size) (hb:SE (s[0]'hk).toNat=false):TL s=false:=by
 unfold TL
 have:(match s.data.toList with | []=>false | b :: _=>SE b.toNat)=false:=by
  cases hl:s.data.toList with
  | nil=>rfl
  | cons b l =>
    have h0:s[0]'hk=b:=by
     have:s.data.toList[0]? = some b:=by rw [hl]; rfl
     have h2:s.data[0]? = some b:=by rw [← Array.getElem?_toList]; exact this
     have hk':0 < s.data.size:=hk
     rw [Array.getElem?_eq_getElem hk'] at h2
     exact Option.some.inj h2
    simp only
    rw [← h0]; exact hb
 rw [this]; simp
theorem AGX {s:ByteArray} (hk:0 < s.size) (hb:SE (s[0]'hk).toNat=true) (ha : ∀ i (hi:i < s.size),NJ (s[i]'hi).toNat=true):TL s=true:=by
 unfold TL
 have h1:(match s.data.toList with | []=>false | b :: _=>SE b.toNat)=true:=by
  cases hl:s.data.toList with
  | nil =>
    have:s.data.toList.length=0:=by rw [hl]; rfl
    have h2:s.data.size=0:=by simpa using this
    have h3:s.size=s.data.size:=rfl
    omega
  | cons b l =>
    have h0:s[0]'hk=b:=by
     have:s.data.toList[0]? = some b:=by rw [hl]; rfl
     have h2:s.data[0]? = some b:=by rw [← Array.getElem?_toList]; exact this
     have hk':0 < s.data.size:=hk
     rw [Array.getElem?_eq_getElem hk'] at h2
     exact Option.some.inj h2
    simp only
    rw [← h0]; exact hb
 rw [h1,Bool.true_and,zK]
 intro b hbm
 obtain ⟨i,hi,rfl⟩:=List.getElem_of_mem hbm
 have hi':i < s.size:=by simpa using hi
 exact ha i hi'
theorem ANB (G:Nat→AV) (s:ByteArray) (h:Hp) (hl:s.size≤1099511627776):PCall (En G) 172 [.str s] h (.bool (TL s)):=by
 refine ACalls.pure0 rfl ?_
 refine acN Tryz.func172 rfl ?_
 show awp _ _ _ _ _ (EN _ [.tmp 2] _)
 simp -implicitDefEqProofs only [BB,CE,A8,A7,AZ,BA,AO,AQ,AL,BD,AY,AC,AA,AX,AU,BM,BJ,BC,AS9,CB,BF,↓reduceIte,jA,jB,jC,enP,ATS]
 refine EG (fun n F H => ∃ k,n+k=s.size∧F 0 = .str s∧F 6 = .ptr h.length 0 0∧H=h ++ [.iter s k]∧(∀ i (hi:i < s.size),i < k→NJ (s[i]'hi).toNat=true)∧(∀ hp:0 < s.size,0 < k→SE (s[0]'hp).toNat=true)) s.size ⟨0,by simp,rfl,by simp -implicitDefEqProofs only [AA,↓reduceIte],rfl,fun _ _ h=>absurd h (by omega),fun _ h=>absurd h (by omega)⟩ ?_
 rintro n F H ⟨k,hk,f0,f6,rfl,hall,h0⟩
 rcases Classical.em (k < s.size) with hp | hp
 ·have go : ∀ (r:Nat × Nat),Utf8.decode s k=r→(NJ r.1=true→r=((s[k]'hp).toNat,1)∧NJ (s[k]'hp).toNat=true)∧(NJ r.1=false→TL s=false)∧(SE r.1=false→k=0→TL s=false)∧(SE r.1=true→NJ r.1=true):=by
   rintro r rfl
   have lf : ∀ n,SE n=true→NJ n=true:=fun n hn=>by unfold NJ; rw [hn]; rfl
   rcases jV (s[k]'hp).toNat 128 with ha | ha
   ·have hd:=decode_ascii s k hp ha
    rw [hd]
    exact ⟨fun hf=>⟨rfl,hf⟩,fun hf=>UE hp hf,fun hf h0=>by subst h0; exact AAI hp hf,lf _⟩
   ·have hd:=(decode_high s k hp ha).1
    refine ⟨fun hf => ?_,fun _ => ?_,fun _ h0 => ?_,lf _⟩
    ·have:=ZN hf; omega
    ·refine UE hp ?_
     cases hf:NJ (s[k]'hp).toNat with
     | false=>rfl
     | true=>have:=ZN hf; omega
    ·refine UE hp ?_
     cases hf:NJ (s[k]'hp).toNat with
     | false=>rfl
     | true=>have:=ZN hf; omega
  simp -implicitDefEqProofs only [zB,List.getElem?_cons_succ,BB,CE,A8,BR,BI,A7,DI,AZ,BA,BL,BX,CO,AO,AQ,AL,BD,AY,AC,AA,AX,AU,BH,BJ,BC,BU,AO7,G8,JJ,CB,AB,CX,↓reduceIte,jA,jB,jC,enP,f0,f6,AT9 hp]
  generalize hr:Utf8.decode s k=r at go
  obtain ⟨g1,g2,g3,g4⟩:=go r rfl
  have done : ∀ H',NJ r.1=true→(k=0→SE r.1=true)→H'=h ++ [ABlk.iter s (k+r.2)]→∃ m,m < n∧∃ k',m+k'=s.size∧H'=h ++ [.iter s k']∧(∀ i (hi:i < s.size),i < k'→NJ (s[i]'hi).toNat=true)∧(∀ hp:0 < s.size,0 < k'→SE (s[0]'hp).toNat=true):=by
   intro H' hf hlw hH
   obtain ⟨e1,e2⟩:=g1 hf
   refine ⟨n - 1,by omega,k+1,by omega,by rw [hH,e1],fun i hi hik => ?_,fun hp0 _ => ?_⟩
   ·rcases jV i k with h' | h'
    ·exact hall i hi h'
    ·have:i=k:=by omega
     subst this; exact e2
   ·rcases zZ k with h' | h'
    ·subst h'; have:=hlw rfl; rw [e1] at this; exact this
    ·exact h0 hp0 h'
  refine IA (fun ha => ?_) (fun ha => ?_)
  ·have hk0:k=0:=by simp at ha; omega
   simp -implicitDefEqProofs only [BL,BX,CO,GL,AO,AQ,AL,BD,AY,AC,AA,AX,BN,BJ,BV,BP,jF,jD,jE,↓reduceIte,jA,jB,jC,ha]
   refine (ACB G _ _).use ?_
   simp -implicitDefEqProofs only [AZ,BL,BX,CO,GL,AO,AQ,AL,BD,AY,AC,AA,AX,AU,BM,BJ,CP,DW,JG,AB,GG,↓reduceIte,jA,jB,jC]
   refine IA (fun hb => ?_) (fun hb => ?_)
   ·simp -implicitDefEqProofs only [BB,A8,BK,BI,A7,CJ,D8,F9,CV,DI,AZ,BA,BL,BX,CO,F7,AO,AQ,AL,BD,AY,AC,AA,EQ,AX,AU,BM,BC,CP,DW,↓reduceIte,jA,jB,jC,hb]
    have hlw:SE r.1=false:=by simpa using hb
    exact ⟨by rw [g3 hlw hk0],_,rfl⟩
   have hlw:SE r.1=true:=by simpa using hb
   simp -implicitDefEqProofs only [BL,BX,CO,EY,AO,AQ,AL,BD,AY,AC,AA,AX,BN,BJ,BV,BP,jF,jD,jE,↓reduceIte,jA,jB,jC,hb]
   refine (YR G _ _).use ?_
   simp -implicitDefEqProofs only [BI,A7,AZ,BA,BL,BX,CO,EY,AO,AQ,AL,BD,AY,AC,AA,AX,AU,BM,CP,DZ,JG,AB,GG,↓reduceIte,jA,jB,jC]
   have hf:=g4 hlw
   simp -implicitDefEqProofs only [BR,EO,FO,DN,AA,↓reduceIte,jA,Bool.not_true,hf]
   obtain ⟨m,h1,k',h2,h3,h4,h5⟩:=done _ hf (fun _=>hlw) rfl
   exact ⟨m,h1,k',h2,f0,f6,h3,h4,h5⟩
  ·have hk0:k≠0:=by intro e; subst e; simp at ha
   simp -implicitDefEqProofs only [AZ,BL,BX,CO,EY,IP,AO,AQ,AL,BD,AY,AC,AA,EQ,AX,AU,BN,BM,BJ,CP,DZ,BV,BP,jF,jD,jE,↓reduceIte,jA,jB,jC,ha]
   refine (YR G _ _).use ?_
   simp -implicitDefEqProofs only [BI,A7,AZ,BA,BL,BX,CO,EY,AO,AQ,AL,BD,AY,AC,AA,AX,AU,BM,CP,DZ,JG,AB,GG,↓reduceIte,jA,jB,jC]
   refine CQ (fun hb => ?_) (fun hb => ?_)
   ·have hf:NJ r.1=false:=by simpa using hb
    simp -implicitDefEqProofs only [BB,A8,BK,A7,CJ,D8,F9,CV,AZ,BA,AO,AQ,AL,BD,AY,AC,AA,AU,BM,BC,↓reduceIte,jB,jC]
    exact ⟨by rw [g2 hf],_,rfl⟩
   ·have hf:NJ r.1=true:=by simpa using hb
    simp -implicitDefEqProofs only [BR,EO,FO,AA,↓reduceIte,jA]
    obtain ⟨m,h1,k',h2,h3,h4,h5⟩:=done _ hf (fun e=>absurd e hk0) rfl
    exact ⟨m,h1,k',h2,f0,f6,h3,h4,h5⟩
 ·simp -implicitDefEqProofs only [zB,BB,A8,BK,EF,BI,A7,FC,F6,F8,CV,DN,AZ,BA,AO,AQ,AL,BD,AY,AC,AA,AX,AU,IB,BJ,BC,BU,AO7,G8,JJ,CB,AB,AC8,↓reduceIte,jA,jB,jC,enP,f0,f6,AQD hp]
  have hks:k=s.size:=by omega
  refine ⟨?_,_,rfl⟩
  congr 1
  rcases zZ s.size with hz | hz
  ·have:s=⟨#[]⟩:=by
    obtain ⟨d⟩:=s
    have:d.size=0:=hz
    rw [Array.eq_empty_of_size_eq_zero this]
   subst this
   rw [ByteArray.toList_eq]
   rfl
  ·rw [AGX hz (h0 hz (by omega)) (fun i hi=>hall i hi (by omega))]
   have hne:s.toList≠[]:=by
    rw [ByteArray.toList_eq]
    intro e
    have:s.data.toList.length=0:=by rw [e]; rfl
    have h2:s.data.size=0:=by simpa using this
    have h3:s.size=s.data.size:=rfl
    omega
   cases hl2:s.toList with
   | nil=>exact absurd hl2 hne
   | cons=>rw [ByteArray.toList_eq]; rfl
theorem P8 (G:Nat→AV) (hG:KwG G) (s:ByteArray) (h:Hp) (hl:s.size≤1099511627776):PCall (En G) 133 [.str s] h (.bool (IQ s)):=by
 refine acN Tryz.func133 rfl ?_
 show awp _ _ _ _ _ (EN _ [.tmp 2] _)
 simp -implicitDefEqProofs only [BB,A8,A7,AZ,BA,AO,AQ,AL,BD,AY,AC,AA,AX,AU,BN,BM,BJ,BC,BV,BP,BF,jF,jD,jE,↓reduceIte,jA,jB,jC,enX,enP]
 refine (ANB G s h hl).use ?_
 simp -implicitDefEqProofs only [AZ,BL,BX,CO,AO,AQ,AL,BD,AY,AC,AA,AX,BJ,↓reduceIte,jB,jC]
 refine IA (fun ha => ?_) (fun ha => ?_)
 ·simp -implicitDefEqProofs only [AZ,BL,BX,CO,GL,AO,AQ,AL,BD,AY,AC,AA,AX,AU,BH,BM,BJ,CP,DW,BU,FP,AB,IR,BF,↓reduceIte,jA,jB,jC,enP,ln9,ha]
  refine IA (fun hb => ?_) (fun hb => ?_)
  ·simp -implicitDefEqProofs only [BL,BX,CO,GL,AO,AQ,AL,BD,AY,AC,AA,AX,BN,BJ,BV,BP,BF,jF,jD,jE,↓reduceIte,jA,jB,jC,hb]
   refine (ACF G hG s h).use ?_
   simp -implicitDefEqProofs only [BK,A7,CV,AZ,BA,BL,BX,CO,GL,AO,AQ,AL,BD,AY,AC,AA,AX,AU,BM,BC,CP,DW,JG,AB,GG,↓reduceIte,jA,jB,jC]
   refine ⟨?_,trivial⟩
   have:decide (s.size≤16)=true:=by simp at hb ⊢; omega
   unfold IQ; rw [ha,this]; rfl
  ·simp -implicitDefEqProofs only [BK,A7,CV,AZ,BA,BL,BX,CO,IP,AO,AQ,AL,BD,AY,AC,AA,EQ,AX,AU,BM,BC,CP,DZ,↓reduceIte,jA,jB,jC,hb]
   refine ⟨?_,trivial⟩
   have:decide (s.size≤16)=false:=by simp at hb ⊢; omega
   unfold IQ; rw [ha,this]; rfl
 ·simp -implicitDefEqProofs only [BK,A7,CV,AZ,BA,BL,BX,CO,IP,AO,AQ,AL,BD,AY,AC,AA,EQ,AX,AU,BM,BJ,BC,CP,DZ,↓reduceIte,jA,jB,jC,ha]
  exact ⟨by unfold IQ; rw [ha]; rfl,trivial⟩
theorem ix9 (s:ByteArray) (k:Nat) (kk:IntKind) (hk:k < s.size):L9 Tryz.prog 9 (.str s) (.int kk (k:Int))=some (.int .u8 (s[k]'hk).toNat):=by
 have hu:Tryz.prog.underlying 9=some .string:=by kernel_rfl
 have h0:(0:Int)≤(k:Int):=by omega
 have:s[k]? = some (s[k]'hk):=by simp [hk]
 simp [L9,hu,h0,this]
theorem RJ (G:Nat→AV) (s:ByteArray) (h:Hp):PCall (En G) 168 [.str s] h (.bool (IQ s)):=by
 refine acN Tryz.func168 rfl ?_
 show awp _ _ _ _ _ (EN _ [.tmp 2] _)
 simp -implicitDefEqProofs only [BB,A8,A7,AZ,BA,BL,BX,CO,AO,AQ,AL,BD,AY,AC,AA,AX,AU,BM,IB,BJ,BC,BU,AB,KY,BF,↓reduceIte,jA,jB,jC,enX,enP]
 refine IA (fun ha => ?_) (fun ha => ?_)
 ·simp -implicitDefEqProofs only [BB,A8,BK,BI,A7,CJ,CV,DI,AZ,BA,BL,BX,CO,F7,AO,AQ,AL,BD,AY,AC,AA,EQ,AX,AU,BM,BJ,BC,CP,DW,↓reduceIte,jA,jB,jC,ha]
  refine ⟨?_,trivial⟩
  have:s.data.toList = []:=by
   rw [ByteArray.toList_eq,ByteArray.toList_eq] at ha
   have:=beq_iff_eq.1 ha
   exact this
  unfold IQ TL; rw [this]; rfl
 have hz:0 < s.size:=by
  rcases zZ s.size with hz | hz
  ·have:s=⟨#[]⟩:=by
    obtain ⟨d⟩:=s
    have:d.size=0:=hz
    rw [Array.eq_empty_of_size_eq_zero this]
   rw [this] at ha
   simp at ha
  ·exact hz
 simp -implicitDefEqProofs only [AZ,BL,BX,CO,EY,AO,AQ,AL,BD,AY,AC,AA,AX,AU,BH,BM,BJ,CP,DZ,BU,FP,AB,FM,BF,↓reduceIte,jA,jB,jC,enP,ln9,ha]
 refine IA (fun hb => ?_) (fun hb => ?_)
 ·simp -implicitDefEqProofs only [BB,A8,BK,BI,A7,CJ,CV,DI,AZ,BA,BL,BX,CO,F7,AO,AQ,AL,BD,AY,AC,AA,EQ,AX,AU,BM,BJ,BC,CP,DW,↓reduceIte,jA,jB,jC,hb]
  refine ⟨?_,trivial⟩
  have:decide (s.size≤16)=false:=by simp at hb ⊢; omega
  unfold IQ; rw [this]; simp
 have h16:decide (s.size≤16)=true:=by simp at hb ⊢; omega
 simp -implicitDefEqProofs only [BL,BX,CO,EY,AO,AQ,AL,BD,AY,AC,AA,AX,AU,BH,BJ,LJ,BF,↓reduceIte,jA,jB,jC,enP,hb]
 refine WM (v := .int .u8 (s[0]'hz).toNat) (h:=h) (by rw [show (0:Int)=((0:Nat):Int) from rfl,ix9 s 0 .i64 hz]; rfl) ?_
 simp -implicitDefEqProofs only [BL,BX,CO,EY,AO,AQ,AL,BD,AY,AC,AA,AX,BN,BV,BP,jF,jD,jE,↓reduceIte,jA,jB,jC]
 refine (AD7 G _ h).use ?_
 simp -implicitDefEqProofs only [AZ,BL,BX,CO,EY,AO,AQ,AL,BD,AY,AC,AA,AX,AU,BM,BJ,CP,DZ,JG,AB,GG,↓reduceIte,jA,jB,jC]
 refine IA (fun hc => ?_) (fun hc => ?_)
 ·simp -implicitDefEqProofs only [BB,A8,BK,BI,A7,CJ,CV,DI,AZ,BA,BL,BX,CO,F7,AO,AQ,AL,BD,AY,AC,AA,EQ,AX,AU,BM,BC,CP,DW,↓reduceIte,jA,jB,jC,hc]
  refine ⟨?_,trivial⟩
  unfold IQ; rw [AAI hz (by simpa using hc)]; rfl
 simp -implicitDefEqProofs only [BL,BX,CO,EY,AO,AQ,AL,BD,AY,AC,AA,AX,BN,BJ,BV,BP,BF,jF,jD,jE,↓reduceIte,jA,jB,jC,hc]
 refine (ADV G s h).use ?_
 simp -implicitDefEqProofs only [BI,A7,AZ,BA,AO,AQ,AL,BD,AY,AC,AA,AX,AU,BM,CP,DZ,↓reduceIte,jA,jB,jC]
 refine CQ (fun hd => ?_) (fun hd => ?_)
 ·simp -implicitDefEqProofs only [BB,A8,BK,A7,CJ,CV,AZ,BA,AO,AQ,AL,BD,AY,AC,AA,AU,BM,BC,↓reduceIte,jB,jC]
  refine ⟨?_,trivial⟩
  unfold IQ; rw [hd]; simp
 simp -implicitDefEqProofs only [BB,CE,A8,BR,A7,AZ,BA,AO,AQ,AL,BD,AY,AC,AU,BH,BC,jB,jC]
 have hlow:SE (s[0]'hz).toNat=true:=by simpa using hc
 refine EG (fun n F H => ∃ k,n+k=s.size∧F 0 = .str s∧F 3 = .int .i64 (k:Nat)∧H=h∧(∀ i (hi:i < s.size),i < k→NJ (s[i]'hi).toNat=true)) s.size ⟨0,by simp,by simp -implicitDefEqProofs only [AA,BF,↓reduceIte,jA],by simp -implicitDefEqProofs only [AA,↓reduceIte]; rfl,rfl,fun _ _ h=>absurd h (by omega)⟩ ?_
 rintro n F H ⟨k,hk,f0,f3,rfl,hall⟩
 simp -implicitDefEqProofs only [BB,A8,BI,A7,AZ,BA,AO,AQ,AL,BD,AY,AC,AA,AX,BJ,BU,FP,AB,DV,↓reduceIte,jA,jB,jC,enP,ln9,f0,f3]
 refine CQ (fun he => ?_) (fun he => ?_)
 ·have hk':k < s.size:=by simpa using he
  simp -implicitDefEqProofs only [BB,CE,A8,BR,A7,AZ,AO,AQ,AL,BD,AY,AC,AA,AX,BN,BJ,LJ,BV,BP,AB,jF,jD,jE,↓reduceIte,jA,jB,jC,enP,f0,f3,ix9 s k .i64 hk']
  refine (AOD G _ _).use ?_
  simp -implicitDefEqProofs only [BI,A7,AZ,BA,AO,AQ,AL,BD,AY,AC,AA,AX,JG,AB,GG,↓reduceIte,jB,jC]
  refine CQ (fun hf => ?_) (fun hf => ?_)
  ·simp -implicitDefEqProofs only [BB,A8,BK,A7,CJ,D8,F9,CV,AZ,BA,AO,AQ,AL,BD,AY,AC,AA,AU,BM,BC,↓reduceIte,jB,jC]
   refine ⟨?_,trivial⟩
   unfold IQ; rw [UE hk' (by simpa using hf)]; rfl
  ·simp -implicitDefEqProofs only [A8,BR,A7,EO,FO,AZ,BA,AO,AQ,AL,BD,AY,AC,AA,AX,AU,BH,BJ,BC,BU,AB,D6,↓reduceIte,jA,jB,jC,enP,f3,wrap_succ (show k < 9223372036854775807 by simp at h16; omega)]
   refine ⟨n - 1,by omega,k+1,by omega,f0,rfl,trivial,fun i hi hik => ?_⟩
   rcases jV i k with h' | h'
   ·exact hall i hi h'
   ·have:i=k:=by omega
    subst this; simpa using hf
 ·have hk' : ¬ k < s.size:=by simpa using he
  simp -implicitDefEqProofs only [BB,A8,BK,EF,A7,FC,F6,F8,CV,AZ,BA,AO,AQ,AL,BD,AY,AC,AA,AU,BM,BC,↓reduceIte,jB,jC]
  refine ⟨?_,trivial⟩
  unfold IQ
  rw [AGX hz hlow (fun i hi=>hall i hi (by omega)),h16,hd]; rfl
end Go.Proofs.YtokehnfjjmpanaaGreatDoor.Bins
namespace Go.Proofs.YtokehnfjjmpanaaGreatDoor.Cov
open Sm Bins
open Bool renaming not_false→jC
open Int renaming reduceBEq→jS
open List renaming take_of_length_le→jY
open Nat renaming le_refl→jQ,le_of_ble_eq_true→jJ,reduceEqDiff→jA,add_zero→jH
open Option renaming getD_some→jB
inductive Ex where
 | mk (op n:Int) (name:ByteArray) (m:SM) (args:List Ex)
def Ex.op:Ex→Int | .mk op _ _ _ _=>op
def Ex.n:Ex→Int | .mk _ n _ _ _=>n
def Ex.name:Ex→ByteArray | .mk _ _ name _ _=>name
def Ex.m:Ex→SM | .mk _ _ _ m _=>m
def Ex.args:Ex→List Ex | .mk _ _ _ _ args=>args
mutual
def CW:Ex→List AV
 | .mk op n name m args => [.int .i64 op,.int .i64 n,.str name,.sl m 4 (AIJ args)]
def AIJ:List Ex→List (List AV)
 | [] => []
 | e :: es=>CW e :: AIJ es
end
theorem AEO : ∀ l:List Ex,AIJ l=l.map CW
 | []=>by simp [AIJ]
 | e :: es=>by simp [AIJ,AEO es]
theorem NR (e:Ex):CW e = [.int .i64 e.op,.int .i64 e.n,.str e.name,.sl e.m 4 (e.args.map CW)]:=by
 cases e; simp [CW,AEO,Ex.op,Ex.n,Ex.name,Ex.m,Ex.args]
theorem ES (e:Ex):(CW e).length=4:=by rw [NR]; rfl
theorem JC (e:Ex):(CW e)[0]? = some (.int .i64 e.op):=by rw [NR]; rfl
theorem XF (e:Ex):(CW e)[1]? = some (.int .i64 e.n):=by rw [NR]; rfl
theorem OB (e:Ex):(CW e)[2]? = some (.str e.name):=by rw [NR]; rfl
theorem NE (e:Ex):(CW e)[3]? = some (.sl e.m 4 (e.args.map CW)):=by rw [NR]; rfl
theorem LY (e:Ex):(CW e).all AV.leaf=true:=by rw [NR]; rfl
theorem bxE (h:Hp) (e:Ex):PO h (.agg (CW e))=some (.ptr h.length 0 0,h ++ [.live 4 [CW e]]):=by
 have:=AGG (h:=h) (LY e)
 rw [ES] at this; exact this
theorem ldE (h:Hp) (e:Ex):DR Tryz.prog (h ++ [.live 4 [CW e]]) 40 (.ptr h.length 0 0)=some (.agg (CW e)):=by
 rw [AN6 KJ JR (by rw [ES]; exact jQ 4)]
 rw [List.drop_zero,jY (by rw [ES]; exact jQ 4)]
theorem G6 {h:Hp} {b:Nat} {e:Ex} (hb:h[b]? = some (.live 4 [CW e])):DR Tryz.prog h 40 (.ptr b 0 0)=some (.agg (CW e)):=by
 rw [H7 KJ JR hb rfl (by rw [ES]; exact jQ 4)]
 rw [List.drop_zero,jY (by rw [ES]; exact jQ 4)]
mutual
def pre:Ex→List Ex
 | .mk op n name m args => .mk op n name m args :: IZ args
def IZ:List Ex→List Ex
 | [] => []
 | e :: es=>pre e ++ IZ es
end
mutual
def dep:Ex→Nat
 | .mk _ _ _ _ args=>deps args+1
def deps:List Ex→Nat
 | []=>0
 | e :: es=>max (dep e) (deps es)
end
mutual
def wt:Ex→Nat
 | .mk _ _ name _ args=>name.size+1+wts args
def wts:List Ex→Nat
 | []=>0
 | e :: es=>wt e+wts es
end
theorem pre_eq (e:Ex):pre e=e :: IZ e.args:=by cases e; simp [pre,Ex.args]
theorem AGD (e:Ex):dep e=deps e.args+1:=by cases e; simp [dep,Ex.args]
theorem PX (e:Ex):wt e=e.name.size+1+wts e.args:=by cases e; simp [wt,Ex.args,Ex.name]
theorem ML (xs ys:List Ex):IZ (xs ++ ys)=IZ xs ++ IZ ys:=by
 induction xs with
 | nil=>simp [IZ]
 | cons x xs ih=>simp [IZ,ih]
theorem WB (xs:List Ex):xs.length≤wts xs:=by
 induction xs with
 | nil=>simp [wts]
 | cons x xs ih=>have:=PX x; simp [wts]; omega
theorem WA {xs:List Ex} {x:Ex} (h:x∈xs):wt x≤wts xs:=by
 induction xs with
 | nil=>cases h
 | cons y ys ih =>
   simp only [wts]
   cases List.mem_cons.1 h with
   | inl e=>subst e; omega
   | inr e=>have:=ih e; omega
theorem AER (xs:List Ex) (k:Nat) (h:k < xs.length):deps (xs.take (k+1))=max (deps (xs.take k)) (dep xs[k]):=by
 induction xs generalizing k with
 | nil=>simp at h
 | cons x xs ih =>
   cases k with
   | zero=>simp [deps]
   | succ k =>
     simp only [List.take_succ_cons,deps,List.getElem_cons_succ]
     rw [ih k (by simpa using h),Nat.max_assoc]
theorem Ex.induct {P:Ex→Prop} (h : ∀ e:Ex,(∀ a∈e.args,P a)→P e) (e:Ex):P e:=by
 have : ∀ n (e:Ex),wt e≤n→P e:=by
  intro n
  induction n with
  | zero=>intro e he; have:=PX e; omega
  | succ n ih =>
    intro e he
    refine h e fun a ha=>ih a ?_
    have h1:=WA ha
    have h2:=PX e
    omega
 exact this _ e (jQ _)
theorem AR1 (e:Ex):dep e≤wt e:=by
 refine Ex.induct (P:=fun e=>dep e≤wt e) (fun e ih => ?_) e
 rw [AGD,PX]
 have:deps e.args≤wts e.args:=by
  generalize e.args=l at ih
  induction l with
  | nil=>simp [deps,wts]
  | cons x l ih2 =>
    have h1:=ih x (by simp)
    have h2:=ih2 (fun a ha=>ih a (by simp [ha]))
    simp only [deps,wts]; omega
 omega
theorem QI (e:Ex):(pre e).length≤wt e:=by
 refine Ex.induct (P:=fun e=>(pre e).length≤wt e) (fun e ih => ?_) e
 rw [pre_eq,PX]
 have:(IZ e.args).length≤wts e.args:=by
  generalize e.args=l at ih
  induction l with
  | nil=>simp [IZ,wts]
  | cons x l ih2 =>
    have h1:=ih x (by simp)
    have h2:=ih2 (fun a ha=>ih a (by simp [ha]))
    simp only [IZ,wts,List.length_append]; omega
 simp; omega
def arity (op:Int):Int:=if op < 1∨op > 25 then -1 else if op=1∨op=2∨op=24 then 0 else if op=3∨op=4∨op=5∨op=6∨op=25 then 1 else if op=22 then 3 else if op=23 then -1 else 2
set_option maxHeartbeats 2000000 in
theorem AK8 (G:Nat→AV) (op:Int) (h:Hp):PCall (En G) 170 [.int .i64 op] h (.int .i64 (arity op)):=by
 refine acN Tryz.func170 rfl ?_
 show awp _ _ _ _ _ (EN _ [.tmp 2] _)
 have hcase:op < 1∨op > 25∨op=1∨op=2∨op=3∨op=4∨op=5∨op=6∨op=7∨op=8∨op=9∨op=10∨op=11∨op=12∨op=13∨op=14∨op=15∨op=16∨op=17∨op=18∨op=19∨op=20∨op=21∨op=22∨op=23∨op=24∨op=25:=by omega
 rcases hcase with h | h | rfl | rfl | rfl | rfl | rfl | rfl | rfl | rfl | rfl | rfl | rfl | rfl | rfl | rfl | rfl | rfl | rfl | rfl | rfl | rfl | rfl | rfl | rfl | rfl | rfl
 ·have hne : ∀ k:Int,1≤k→(op == k)=false:=fun k hk=>beq_eq_false_iff_ne.2 (by omega)
  have hd:decide (op < 1)=true:=by simp; omega
  have ha:arity op = -1:=by unfold arity; rw [if_pos (Or.inl h)]
  rw [ha]
  simp -implicitDefEqProofs only [BB,CE,A8,BR,BK,BI,A7,CJ,EO,CV,DI,DN,AZ,BA,BL,BX,CO,F7,AO,AQ,AL,BD,AY,AC,AA,EQ,AX,AU,BH,BM,BJ,BC,CP,DW,BU,AB,CX,DV,BF,↓reduceIte,jA,jB,jC,enX,enP,hne 1 (by decide),hne 2 (by decide),hne 3 (by decide),hne 4 (by decide),hne 5 (by decide),hne 6 (by decide),hne 7 (by decide),hne 8 (by decide),hne 9 (by decide),hne 10 (by decide),hne 11 (by decide),hne 12 (by decide),hne 13 (by decide),hne 14 (by decide),hne 15 (by decide),hne 16 (by decide),hne 17 (by decide),hne 18 (by decide),hne 19 (by decide),hne 20 (by decide),hne 21 (by decide),hne 22 (by decide),hne 23 (by decide),hne 24 (by decide),hne 25 (by decide),hd]
  exact ⟨trivial,trivial⟩
 ·have hne : ∀ k:Int,k≤25→(op == k)=false:=fun k hk=>beq_eq_false_iff_ne.2 (by omega)
  have hd:decide (op < 1)=false:=by simp; omega
  have hd2:decide (op > 25)=true:=by simp; omega
  have ha:arity op = -1:=by unfold arity; rw [if_pos (Or.inr h)]
  rw [ha]
  simp -implicitDefEqProofs only [BB,CE,A8,BR,BK,BI,A7,CJ,EO,CV,DI,DN,AZ,BA,BL,BX,CO,EY,AO,AQ,AL,BD,AY,AC,AA,AX,AU,BH,BM,BJ,BC,CP,DZ,BU,AB,CX,DV,FM,BF,↓reduceIte,jA,jB,jC,enX,enP,hne 1 (by decide),hne 2 (by decide),hne 3 (by decide),hne 4 (by decide),hne 5 (by decide),hne 6 (by decide),hne 7 (by decide),hne 8 (by decide),hne 9 (by decide),hne 10 (by decide),hne 11 (by decide),hne 12 (by decide),hne 13 (by decide),hne 14 (by decide),hne 15 (by decide),hne 16 (by decide),hne 17 (by decide),hne 18 (by decide),hne 19 (by decide),hne 20 (by decide),hne 21 (by decide),hne 22 (by decide),hne 23 (by decide),hne 24 (by decide),hne 25 (by decide),hd,hd2]
  exact ⟨trivial,trivial⟩
 all_goals
  simp -implicitDefEqProofs only [BB,CE,A8,BR,BK,BI,A7,CJ,EO,D8,CV,DI,DN,AZ,BA,BL,BX,CO,EY,AO,AQ,AL,BD,AY,AC,AA,AX,AU,BH,BM,BJ,BC,CP,DZ,BU,AB,CX,DV,FM,BF,↓reduceIte,jA,jB,jC,decide_false,enX,enP,jS,Int.reduceLT,Int.reduceGT]
  exact ⟨rfl,trivial⟩
set_option maxHeartbeats 2000000 in
theorem AOT (G:Nat→AV) (op:Int) (h:Hp):PCall (En G) 203 [.int .i64 op] h (.int .i64 (arity op)):=by
 refine acN Tryz.func203 rfl ?_
 show awp _ _ _ _ _ (EN _ [.tmp 2] _)
 have hcase:op < 1∨op > 25∨op=1∨op=2∨op=3∨op=4∨op=5∨op=6∨op=7∨op=8∨op=9∨op=10∨op=11∨op=12∨op=13∨op=14∨op=15∨op=16∨op=17∨op=18∨op=19∨op=20∨op=21∨op=22∨op=23∨op=24∨op=25:=by omega
 rcases hcase with h | h | rfl | rfl | rfl | rfl | rfl | rfl | rfl | rfl | rfl | rfl | rfl | rfl | rfl | rfl | rfl | rfl | rfl | rfl | rfl | rfl | rfl | rfl | rfl | rfl | rfl
 ·have hne : ∀ k:Int,1≤k→(op == k)=false:=fun k hk=>beq_eq_false_iff_ne.2 (by omega)
  have hd:decide (op < 1)=true:=by simp; omega
  have ha:arity op = -1:=by unfold arity; rw [if_pos (Or.inl h)]
  rw [ha]
  simp -implicitDefEqProofs only [BB,CE,A8,BR,BK,BI,A7,CJ,EO,CV,DI,DN,AZ,BA,BL,BX,CO,F7,AO,AQ,AL,BD,AY,AC,AA,EQ,AX,AU,BH,BM,BJ,BC,CP,DW,BU,AB,CX,DV,BF,↓reduceIte,jA,jB,jC,enX,enP,hne 1 (by decide),hne 2 (by decide),hne 3 (by decide),hne 4 (by decide),hne 5 (by decide),hne 6 (by decide),hne 7 (by decide),hne 8 (by decide),hne 9 (by decide),hne 10 (by decide),hne 11 (by decide),hne 12 (by decide),hne 13 (by decide),hne 14 (by decide),hne 15 (by decide),hne 16 (by decide),hne 17 (by decide),hne 18 (by decide),hne 19 (by decide),hne 20 (by decide),hne 21 (by decide),hne 22 (by decide),hne 23 (by decide),hne 24 (by decide),hne 25 (by decide),hd]
  exact ⟨trivial,trivial⟩
 ·have hne : ∀ k:Int,k≤25→(op == k)=false:=fun k hk=>beq_eq_false_iff_ne.2 (by omega)
  have hd:decide (op < 1)=false:=by simp; omega
  have hd2:decide (op > 25)=true:=by simp; omega
  have ha:arity op = -1:=by unfold arity; rw [if_pos (Or.inr h)]
  rw [ha]
  simp -implicitDefEqProofs only [BB,CE,A8,BR,BK,BI,A7,CJ,EO,CV,DI,DN,AZ,BA,BL,BX,CO,EY,AO,AQ,AL,BD,AY,AC,AA,AX,AU,BH,BM,BJ,BC,CP,DZ,BU,AB,CX,DV,FM,BF,↓reduceIte,jA,jB,jC,enX,enP,hne 1 (by decide),hne 2 (by decide),hne 3 (by decide),hne 4 (by decide),hne 5 (by decide),hne 6 (by decide),hne 7 (by decide),hne 8 (by decide),hne 9 (by decide),hne 10 (by decide),hne 11 (by decide),hne 12 (by decide),hne 13 (by decide),hne 14 (by decide),hne 15 (by decide),hne 16 (by decide),hne 17 (by decide),hne 18 (by decide),hne 19 (by decide),hne 20 (by decide),hne 21 (by decide),hne 22 (by decide),hne 23 (by decide),hne 24 (by decide),hne 25 (by decide),hd,hd2]
  exact ⟨trivial,trivial⟩
 all_goals
  simp -implicitDefEqProofs only [BB,CE,A8,BR,BK,BI,A7,CJ,D8,CV,DI,DN,AZ,BA,AO,AQ,AL,BD,AY,AC,AA,AX,AU,BH,BJ,BC,BU,AB,CX,BF,↓reduceIte,jA,jB,jC,enX,enP,jS,Int.reduceLT,Int.reduceGT]
  exact ⟨rfl,trivial⟩
def KL (op:Int):Bool:=op == 2 || op == 3 || op == 24
theorem WI (G:Nat→AV) (op:Int) (h:Hp):PCall (En G) 149 [.int .i64 op] h (.bool (KL op)):=by
 refine acN Tryz.func149 rfl ?_
 show awp _ _ _ _ _ (EN _ [.tmp 2] _)
 simp -implicitDefEqProofs only [BB,A8,A7,AZ,BA,BL,BX,CO,AO,AQ,AL,BD,AY,AC,AA,AX,AU,BH,BM,BJ,BC,BU,AB,CX,BF,↓reduceIte,jA,jB,jC,enX,enP]
 cases ha:(op == 2) <;> cases hb:(op == 3)
 all_goals
  simp -implicitDefEqProofs only [BK,A7,CV,AZ,BA,BL,BX,CO,EY,F7,AO,AQ,AL,BD,AY,AC,AA,EQ,AX,AU,BH,BM,BJ,BC,CP,DW,DZ,BU,AB,CX,BF,↓reduceIte,jA,jB,jC,enP,ha,hb]
  exact ⟨by simp [KL,ha,hb],trivial⟩
def WU (op:Int) (n:Nat):Bool:=if op == 23 then ((n:Int) % 2 == 1) && decide ((n:Int)≥3) && decide ((n:Int)≤33) else ((n:Int) == arity op)
theorem ADR (G:Nat→AV) (e:Ex) (h:Hp):PCall (En G) 131 [.agg (CW e)] h (.bool (WU e.op e.args.length)):=by
 refine ACalls.pure0 rfl ?_
 refine acN Tryz.func131 rfl ?_
 show awp _ _ _ _ _ (EN _ [.tmp 2] _)
 simp -implicitDefEqProofs only [BB,A8,BI,A7,AZ,BA,AO,AQ,AL,BD,AY,AC,AA,AX,AU,BH,BM,BC,FQ,BO,BU,BG,FP,CB,AB,CX,BF,↓reduceIte,jA,jH,Nat.zero_add,jB,jC,enP,TD,FU,IJ,bxE,E5 NM,E5 ag3,NE,JC,List.length_map]
 generalize he:e.args.length=n
 have hm:(n:Int).tmod 2=(n:Int) % 2:=Int.tmod_eq_emod_of_nonneg (by omega)
 have b1:IE Tryz.prog 3 .rem (.int .i64 (n:Int)) (.int .i64 2)=some (.int .i64 ((n:Int) % 2)):=by rw [UY _ _ _ _ _ (by decide),hm]
 refine CQ (fun hc => ?_) (fun hc => ?_)
 ·simp -implicitDefEqProofs only [BB,A8,AZ,BL,BX,CO,AO,AQ,AL,BD,AY,AC,AA,AX,AU,BH,BJ,BU,AB,CX,↓reduceIte,jA,jB,jC,enP,b1]
  cases ha:((n:Int) % 2 == 1) <;> cases hb:decide ((n:Int)≥3)
  all_goals
   simp -implicitDefEqProofs only [BK,A7,CJ,CV,AZ,BA,BL,BX,CO,GL,IP,AO,AQ,AL,BD,AY,AC,AA,EQ,AX,AU,BH,BM,BJ,BC,CP,DW,DZ,BU,AB,IR,FV,↓reduceIte,jA,jB,jC,enP,ha,hb]
   exact ⟨by unfold WU; rw [if_pos hc,ha,hb]; simp,_,rfl⟩
 ·simp -implicitDefEqProofs only [BB,A8,BR,A7,AZ,AO,AQ,AL,BD,AY,AC,AA,AX,BN,BJ,BO,BG,BV,BP,AB,List.map_cons,List.map_nil,List.append_nil,↓reduceIte,jA,jH,jB,jC,enP,FU,E5 ag3,JC]
  refine (AK8 G e.op _).use ?_
  simp -implicitDefEqProofs only [BK,A7,CV,AZ,BA,AO,AQ,AL,BD,AY,AC,AA,AX,BC,BU,AB,CX,↓reduceIte,jA,jB,jC,enP]
  exact ⟨by unfold WU; rw [if_neg (by rw [hc]; decide)],_,rfl⟩
end Go.Proofs.YtokehnfjjmpanaaGreatDoor.Cov
namespace Go.Proofs.YtokehnfjjmpanaaGreatDoor.Cov
open Sm Bins Go.Shelf Go.RowKit
open Bool renaming and_eq_true→jX
open Int renaming toNat_natCast→zG
open List renaming take_append_drop→qY,drop_eq_getElem_cons→zO,getElem?_eq_getElem→jU
def AR4:Go.Shelf.Ren:=⟨fun | 145=>156 | 220=>191 | 219=>206 | 217=>215 | 225=>216 | 224=>217 | 267=>218 | 266=>220 | 314=>221 | n=>n,fun | 9=>9 | 4=>4 | 59=>156 | 3=>3 | 5=>5 | 46=>148 | 146=>190 | 51=>173 | n=>n,fun | 1=>1 | n=>n⟩
theorem A20:Go.Proofs.Lays.n145 Tryz.prog AR4 := {
 mixed:=by kernel_rfl,
 f145:=Tryz.func156.trans (congrArg some (by kernel_rfl)),
 f217:=Tryz.func215.trans (congrArg some (by kernel_rfl)),
 f219:=Tryz.func206.trans (congrArg some (by kernel_rfl)),
 f220:=Tryz.func191.trans (congrArg some (by kernel_rfl)),
 f224:=Tryz.func217.trans (congrArg some (by kernel_rfl)),
 f225:=Tryz.func216.trans (congrArg some (by kernel_rfl)),
 f266:=Tryz.func220.trans (congrArg some (by kernel_rfl)),
 f267:=Tryz.func218.trans (congrArg some (by kernel_rfl)),
 f314:=Tryz.func221.trans (congrArg some (by kernel_rfl)),
 t3:=Tryz.underlying3,
 a3:=Tryz.isAgg3,
 z3:=Tryz.sizeOf3,
 v3:=Tryz.zeroValue3,
 t4:=Tryz.underlying4,
 a4:=Tryz.isAgg4,
 z4:=Tryz.sizeOf4,
 v4:=Tryz.zeroValue4,
 t5:=Tryz.underlying5,
 a5:=Tryz.isAgg5,
 z5:=Tryz.sizeOf5,
 v5:=Tryz.zeroValue5,
 t9:=Tryz.underlying9,
 a9:=Tryz.isAgg9,
 z9:=Tryz.sizeOf9,
 v9:=Tryz.zeroValue9,
 t46:=Tryz.underlying148,
 a46:=Tryz.isAgg148,
 z46:=Tryz.sizeOf148,
 v46:=Tryz.zeroValue148,
 t51:=Tryz.underlying173,
 a51:=Tryz.isAgg173,
 z51:=Tryz.sizeOf173,
 v51:=Tryz.zeroValue173,
 t59:=Tryz.underlying156,
 a59:=Tryz.isAgg156,
 z59:=Tryz.sizeOf156,
 v59:=Tryz.zeroValue156,
 t146:=Tryz.underlying190,
 a146:=Tryz.isAgg190,
 z146:=Tryz.sizeOf190,
 v146:=Tryz.zeroValue190,
 g1:=by kernel_rfl }
structure GOk (G:Nat→AV):Prop where
 kw:KwG G
 mx : ∃ n,G 1 = .fptr 1 [[.int .i64 n]] 0 0
theorem AQ9 {G:Nat→AV} {g:Gh} {h:Hp} {w:World} {n:Nat} {k:IntKind} {z:Int} (S:SimH (En G) g h w) (hn:G n = .fptr 1 [[.int k z]] 0 0):w.cell? ⟨n,0,none⟩=some (.int k z):=by
 have:=S.glob n
 rw [enG,hn] at this
 generalize hp:Value.pointer (some ⟨n,0,none⟩)=p at this
 cases this with
 | fptr k' xs i j cb co c e fz cv h1 h2 h3 h4 =>
   simp only [Value.pointer.injEq,Option.some.injEq,Addr.mk.injEq] at hp
   obtain ⟨rfl,hco,_⟩:=hp
   have h5:=h3 0 0 (by simp) (by simp)
   have h6:=h4 0 0 _ _ rfl rfl
   generalize cv 0 0=u at h5 h6
   cases h6
   simp only [World.cell?,S.fro _ _ h1]
   subst hco
   exact h5
def cutV (s:ByteArray):AV := .tup [.str ⟨(Lib.cut s.data.toList [91]).1.toArray⟩,.str ⟨(Lib.cut s.data.toList [91]).2.1.toArray⟩,.bool (Lib.cut s.data.toList [91]).2.2]
theorem AC1 (G:Nat→AV) (hG:GOk G) (s:ByteArray) (h:Hp) (hl:s.size≤1048576):PCall (En G) 156 [.str s,.str ⟨#[91]⟩] h (cutV s):=by
 refine PCall.of_reads (cok 156 G (by kernel_rfl)) fun g w cargs S ha => ?_
 obtain ⟨hsz,hget⟩:=ha
 obtain ⟨cv0,cv1,rfl⟩ : ∃ a b,cargs = #[a,b]:=by
  obtain ⟨l⟩:=cargs
  match l,hsz with
  | [a,b],_=>exact ⟨a,b,rfl⟩
 obtain rfl:=(hget 0 _ cv0 rfl rfl).str_inv
 obtain rfl:=(hget 1 _ cv1 rfl rfl).str_inv
 obtain ⟨z,hz⟩:=hG.mx
 have hc:=AQ9 S hz
 have:=Any.strings_Cut A20 s ⟨#[91]⟩ z w (by omega) hc
 refine ⟨_,?_,this⟩
 refine .tup _ _ rfl ?_
 intro i v cv h1 h2
 match i,h1,h2 with
 | 0,h1,h2=>simp at h1 h2; subst h1; subst h2; exact .str _ _
 | 1,h1,h2=>simp at h1 h2; subst h1; subst h2; exact .str _ _
 | 2,h1,h2=>simp at h1 h2; subst h1; subst h2; exact .bool _ _
def J9 (s:ByteArray):Option (List UInt8 × UInt8) :=
 if 4≤s.data.toList.length then match s.data.toList.drop (s.data.toList.length - 3) with
  | [x,d,y]=>if (y == 93 && x == 91 && decide (48≤d.toNat) && decide (d.toNat < 56) && IQ ⟨(s.data.toList.take (s.data.toList.length - 3)).toArray⟩)=true then some (s.data.toList.take (s.data.toList.length - 3),d) else none
  | _=>none
 else none
def elemV (o:Option (List UInt8 × UInt8)):AV:=match o with
 | some (a,d) => .tup [.str ⟨a.toArray⟩,.int .i64 ((d.toNat:Int) - 48),.bool true]
 | none => .tup [.str ⟨#[]⟩,.int .i64 0,.bool false]
theorem SQ {l:List UInt8} (h:IQ ⟨l.toArray⟩=true):l≠[]∧∀ b∈l,b≠91:=by
 have hw:TL ⟨l.toArray⟩=true:=by
  unfold IQ at h
  exact (Bool.and_eq_true_iff.1 (Bool.and_eq_true_iff.1 h).1).1
 unfold TL at hw
 obtain ⟨h1,h2⟩:=Bool.and_eq_true_iff.1 hw
 refine ⟨?_,?_⟩
 ·intro e; subst e; cases h1
 ·intro b hb e
  subst e
  have:=List.all_eq_true.1 h2 91 hb
  revert this; decide
theorem three {l:List UInt8} (h:3≤l.length) : ∃ a x d y,l=a ++ [x,d,y]:=by
 refine ⟨l.take (l.length - 3),?_⟩
 have h1:(l.drop (l.length - 3)).length=3:=by simp; omega
 match hm:l.drop (l.length - 3),h1 with
 | [x,d,y],_=>exact ⟨x,d,y,by rw [← hm,qY]⟩
theorem YW {a:List UInt8} {x d y:UInt8} (ha:a≠[]):J9 ⟨(a ++ [x,d,y]).toArray⟩=if (y == 93 && x == 91 && decide (48≤d.toNat) && decide (d.toNat < 56) && IQ ⟨a.toArray⟩)=true then some (a,d) else none:=by
 have hl:0 < a.length:=List.length_pos_iff.2 ha
 unfold J9
 simp only
 rw [if_pos (by simp; omega)]
 have e:(a ++ [x,d,y]).length - 3=a.length:=by simp
 rw [e,List.drop_left,List.take_left]
theorem ACW (s:ByteArray):J9 s=if ((Lib.cut s.data.toList [91]).2.2 && IQ ⟨(Lib.cut s.data.toList [91]).1.toArray⟩)=true then match (Lib.cut s.data.toList [91]).2.1 with
  | [d,y]=>if (y == 93 && decide (48≤d.toNat) && decide (d.toNat < 56))=true then some ((Lib.cut s.data.toList [91]).1,d) else none
  | _=>none
 else none:=by
 obtain ⟨⟨l⟩⟩:=s
 have hocc : ∀ i,Lib.occAt l [91] i=true↔l[i]? = some 91:=by
  intro i
  unfold Lib.occAt
  rcases Nat.lt_or_ge i l.length with h | h
  ·rw [zO h,jU h]
   simp [List.isPrefixOf]
   exact eq_comm
  ·rw [List.drop_eq_nil_of_le h,List.getElem?_eq_none h]; simp [List.isPrefixOf]
 -- an element name of the reference's kind
 have main : ∀ a d,a≠[]→IQ ⟨a.toArray⟩=true→l=a ++ [91,d,93]→Lib.cut l [91]=(a,[d,93],true):=by
  intro a d ha hn hl
  obtain ⟨_,hne⟩:=SQ hn
  have hi:Lib.index l [91]=(a.length:Int):=by
   refine Lib.index_first (by rw [hl]; simp) ((hocc _).2 (by rw [hl]; simp)) fun j hj => ?_
   rw [← Bool.not_eq_true,hocc,hl,List.getElem?_append_left hj,jU hj]
   intro e
   exact hne _ (List.getElem_mem hj) (Option.some.inj e)
  unfold Lib.cut
  rw [hi,if_pos (by omega),zG,hl,List.take_left,← List.drop_drop,List.drop_left]
  rfl
 show J9 ⟨l.toArray⟩=_
 rcases hcase:J9 ⟨l.toArray⟩ with _ | ⟨a,d⟩
 ·symm
  show (if _ then _ else none)=none
  simp only
  split
  ·rename_i hb
   rw [jX] at hb
   split
   ·rename_i d y hm
    split
    ·rename_i hd
     exfalso
     simp only [jX,beq_iff_eq,decide_eq_true_eq] at hd
     obtain ⟨⟨rfl,hd1⟩,hd2⟩:=hd
     obtain ⟨ha,_⟩:=SQ hb.2
     have hc:Lib.cut l [91]=((Lib.cut l [91]).1,[d,93],true):=by
      rw [← hm]; have:=hb.1; cases hcc:Lib.cut l [91] with
      | mk p q=>cases q with
        | mk q1 q2=>rw [hcc] at this; simp at this; subst this; rfl
     have hl:l=(Lib.cut l [91]).1 ++ [91,d,93]:=by
      generalize (Lib.cut l [91]).1=b at hc
      unfold Lib.cut at hc
      split at hc
      ·rename_i h0
       obtain ⟨i,hi⟩ : ∃ i:Nat,Lib.index l [91]=i:=⟨(Lib.index l [91]).toNat,by omega⟩
       rw [hi] at hc
       simp only [zG,Prod.mk.injEq,List.length_singleton] at hc
       rcases Lib.index_spec l [91] with ⟨h1,_⟩ | ⟨j,h1,_,h3,_⟩
       ·omega
       ·have hj:i=j:=by omega
        subst hj
        have h4:=(hocc i).1 h3
        have h5:i < l.length:=(List.getElem?_eq_some_iff.1 h4).1
        have h6:l[i]=91:=by rw [jU h5] at h4; exact Option.some.inj h4
        rw [← hc.1]
        calc l=l.take i ++ l.drop i:=(qY i l).symm
         _=l.take i ++ (l[i] :: l.drop (i+1)):=by rw [zO h5]
         _=l.take i ++ [91,d,93]:=by rw [h6,hc.2.1]
      ·simp at hc
     have:=YW (x:=91) (d:=d) (y:=93) ha
     rw [← hl,hcase,if_pos (by simp [hb.2,hd1,hd2])] at this
     cases this
    ·rfl
   ·rfl
  ·rfl
 ·have h4:4≤l.length:=by
   unfold J9 at hcase
   simp only at hcase
   split at hcase
   ·assumption
   ·cases hcase
  obtain ⟨b,x,d',y,rfl⟩:=three (show 3≤l.length by omega)
  have hb:b≠[]:=by intro e; subst e; simp at h4
  rw [YW hb] at hcase
  split at hcase
  ·rename_i hc
   cases hcase
   simp only [jX,beq_iff_eq,decide_eq_true_eq] at hc
   obtain ⟨⟨⟨⟨rfl,rfl⟩,h1⟩,h2⟩,h3⟩:=hc
   simp only
   rw [main a d hb h3 rfl]
   simp [h3,h1,h2]
  ·cases hcase
end Go.Proofs.YtokehnfjjmpanaaGreatDoor.Cov
set_option linter.unusedSimpArgs false
set_option maxRecDepth 8000
namespace Go.Proofs.YtokehnfjjmpanaaGreatDoor.Cov
open Sm Bins Go.RowKit
open Bool renaming not_false→jC,not_true→jW,not_eq_true→qM,eq_iff_iff→qZ
open List renaming length_take→qG,getElem?_eq_getElem→jU,map_cons→jF,map_nil→jD,append_nil→jE,getElem?_cons_zero→zB,getElem?_cons_succ→zD,length_map→jR,getElem?_eq_none→zM,take_append_drop→qY,cons_append→zV,nil_append→zJ
open Nat renaming le_refl→jQ,le_of_ble_eq_true→jJ,reduceEqDiff→jA,lt_or_ge→jV,add_zero→jH,zero_add→jG
open Option renaming getD_some→jB,getD_none→jK
theorem AMZ (l:List UInt8):(Lib.cut l [91]).1.length≤l.length:=by
 unfold Lib.cut
 split
 ·simp only [qG]; exact Nat.min_le_right _ _
 ·exact jQ _
theorem ixl {l:List UInt8} {k:Nat} {b:UInt8} {i:Int} (hi:i=(k:Int)) (hb:l[k]? = some b):L9 Tryz.prog 9 (.str ⟨l.toArray⟩) (.int .i64 i)=some (.int .u8 b.toNat):=by
 subst hi
 have hk:k < l.length:=(List.getElem?_eq_some_iff.1 hb).1
 have:=ix9 ⟨l.toArray⟩ k .i64 hk
 rw [this]
 have h2:(⟨l.toArray⟩:ByteArray)[k]'hk=l[k]:=rfl
 rw [h2]
 rw [jU hk] at hb
 rw [Option.some.inj hb]
theorem szl (l:List UInt8):(⟨l.toArray⟩:ByteArray).size=l.length:=rfl
theorem wrap_u8 {n:Int} (h0:0≤n) (h1:n < 256):IntKind.u8.wrap n=n:=by
 unfold IntKind.wrap; simp [IntKind.bits,IntKind.signed]; omega
theorem AF9 (G:Nat→AV) (hG:GOk G) (s:ByteArray) (h:Hp) (hl:s.size≤1048576):PCall (En G) 171 [.str s] h (elemV (J9 s)):=by
 refine acN Tryz.func171 rfl ?_
 show awp _ _ _ _ _ (EN _ [.tmp 2,.tmp 3,.tmp 4] _)
 simp -implicitDefEqProofs only [BB,A8,A7,AZ,BA,AO,AQ,AL,BD,AY,AC,AA,AX,AU,BN,BH,BM,IB,BJ,BC,BV,BP,BF,jF,jD,jE,↓reduceIte,jA,jB,jC,enX,enP]
 refine (AC1 G hG s h hl).use ?_
 have he:=ACW s
 have hal:=AMZ s.data.toList
 unfold cutV
 generalize Lib.cut s.data.toList [91]=c at he hal ⊢
 obtain ⟨a,b,f⟩:=c
 have hal2:a.length≤s.size:=by simpa using hal
 simp -implicitDefEqProofs only [zB,zD,BB,A8,A7,AZ,BA,BL,BX,CO,AO,AQ,AL,BD,AY,AC,AA,AX,BJ,BC,JG,G8,JJ,AB,GG,↓reduceIte,jA,jB,jC]
 cases f
 ·simp -implicitDefEqProofs only [BB,A8,BK,BI,A7,CJ,OT,DI,AZ,BA,BL,BX,CO,F7,AO,AQ,AL,BD,AY,AC,AA,EQ,AX,AU,BH,BM,IB,BJ,BC,CP,DW,↓reduceIte,jA,jB,jC]
  exact ⟨by rw [he]; rfl,trivial⟩
 simp -implicitDefEqProofs only [BL,BX,CO,EY,AO,AQ,AL,BD,AY,AC,AA,AX,BN,BJ,BV,BP,jF,jD,jE,↓reduceIte,jA,jB,jW,jC]
 refine (P8 G hG.kw ⟨a.toArray⟩ h (by rw [szl]; omega)).use ?_
 simp -implicitDefEqProofs only [AZ,BL,BX,CO,EY,AO,AQ,AL,BD,AY,AC,AA,AX,AU,BM,BJ,CP,DZ,JG,AB,GG,↓reduceIte,jA,jB,jC]
 cases hn:IQ ⟨a.toArray⟩
 ·simp -implicitDefEqProofs only [BB,A8,BK,BI,A7,CJ,OT,DI,AZ,BA,BL,BX,CO,F7,AO,AQ,AL,BD,AY,AC,AA,EQ,AX,AU,BH,BM,IB,BJ,BC,CP,DW,↓reduceIte,jA,jB,jC]
  exact ⟨by rw [he]; simp [hn]; rfl,trivial⟩
 simp -implicitDefEqProofs only [AZ,BL,BX,CO,EY,AO,AQ,AL,BD,AY,AC,AA,AX,AU,BH,BM,BJ,CP,DZ,BU,FP,AB,FT,↓reduceIte,jA,jB,jW,jC,enP,ln9,szl]
 refine IA (fun hb => ?_) (fun hb => ?_)
 ·simp -implicitDefEqProofs only [BB,A8,BK,BI,A7,CJ,OT,DI,AZ,BA,BL,BX,CO,F7,AO,AQ,AL,BD,AY,AC,AA,EQ,AX,AU,BH,BM,IB,BJ,BC,CP,DW,↓reduceIte,jA,jB,jC,hb]
  have hne : ∀ d y,b≠[d,y]:=by
   intro d y e; subst e; simp at hb
  have:J9 s=none:=by
   rw [he]; split
   ·split
    ·rename_i hm; exact absurd hm (hne _ _)
    ·rfl
   ·rfl
  exact ⟨by rw [this]; rfl,trivial⟩
 have h2:b.length=2:=by simp at hb; omega
 match b,h2 with
 | [d,y],_ =>
   have i1:L9 Tryz.prog 9 (.str ⟨[d,y].toArray⟩) (.int .i64 1)=some (.int .u8 y.toNat):=ixl (k:=1) rfl rfl
   have i0:L9 Tryz.prog 9 (.str ⟨[d,y].toArray⟩) (.int .i64 0)=some (.int .u8 d.toNat):=ixl (k:=0) rfl rfl
   have he2:J9 s=if (y == 93 && decide (48≤d.toNat) && decide (d.toNat < 56))=true then some (a,d) else none:=by
    rw [he]; simp [hn]
   clear he
   simp -implicitDefEqProofs only [AZ,BL,BX,CO,EY,AO,AQ,AL,BD,AY,AC,AA,AX,AU,BH,BM,BJ,CP,DZ,BU,LJ,AB,FT,↓reduceIte,jA,jB,jC,enP,hb,i1,i0]
   refine IA (fun hc => ?_) (fun hc => ?_)
   ·simp -implicitDefEqProofs only [BB,A8,BK,BI,A7,CJ,OT,DI,AZ,BA,BL,BX,CO,F7,AO,AQ,AL,BD,AY,AC,AA,EQ,AX,AU,BH,BM,IB,BJ,BC,CP,DW,↓reduceIte,jA,jB,jC,hc]
    have hy:(y == 93)=false:=by
     rw [← qM]; intro e; rw [beq_iff_eq] at e; subst e; simp at hc
    exact ⟨by rw [he2,hy]; rfl,trivial⟩
   have hy:(y == 93)=true:=by
    rw [beq_iff_eq,← UInt8.toNat_inj]
    simp at hc; show y.toNat=93; omega
   simp -implicitDefEqProofs only [AZ,BL,BX,CO,EY,AO,AQ,AL,BD,AY,AC,AA,AX,AU,BH,BM,BJ,CP,DZ,BU,LJ,AB,DV,↓reduceIte,jA,jB,jC,enP,hc,i0]
   refine IA (fun hd => ?_) (fun hd => ?_)
   ·simp -implicitDefEqProofs only [BB,A8,BK,BI,A7,CJ,OT,DI,AZ,BA,BL,BX,CO,F7,AO,AQ,AL,BD,AY,AC,AA,EQ,AX,AU,BH,BM,IB,BC,CP,DW,↓reduceIte,jA,jB,jC,hd]
    have:decide (48≤d.toNat)=false:=by simp at hd ⊢; omega
    exact ⟨by rw [he2,this]; simp; rfl,trivial⟩
   have hd1:48≤d.toNat:=by simp at hd; omega
   simp -implicitDefEqProofs only [BI,A7,AZ,BA,BL,BX,CO,EY,AO,AQ,AL,BD,AY,AC,AA,AX,AU,BH,BM,BJ,CP,DZ,BU,LJ,AB,FV,↓reduceIte,jA,jB,jC,enP,hd,i0]
   refine CQ (fun hf => ?_) (fun hf => ?_)
   ·simp -implicitDefEqProofs only [BB,A8,BK,A7,CJ,OT,AZ,BA,AO,AQ,AL,BD,AY,AC,AA,AU,BH,BM,IB,BC,↓reduceIte,jA,jB,jC]
    have:decide (d.toNat < 56)=false:=by simp at hf ⊢; omega
    exact ⟨by rw [he2,this]; simp; rfl,trivial⟩
   have hd2:d.toNat < 56:=by simp at hf; omega
   simp -implicitDefEqProofs only [BB,BR,A7]
   refine EK (by kernel_rfl) ?_
   simp -implicitDefEqProofs only [ET,DK,CY,D7,DL,EH,G5,HY,AE8,AE7,BK,A7,OT,AO,AA,AX,AU,BH,BM,BU,QF,LJ,AB,II,↓reduceIte,jA,Nat.reduceAdd,jB,enP,AIP,i0,wrap_u8 (n:=(d.toNat:Int) - 48) (by omega) (by omega),wrap_i64 (n:=(d.toNat:Int) - 48) (by omega) (by omega)]
   exact ⟨by rw [he2]; simp [hy,hd1,hd2]; rfl,trivial⟩
theorem ABV {s:ByteArray} {u:Nat} {h:Hp} (hu:u≤s.size):LD Tryz.prog h 9 (.str s) none (some (.int .i64 (u:Int))) none=some (.str (s.extract 0 u)):=by
 have:Tryz.prog.underlying 9=some .string:=by kernel_rfl
 simp [LD,this,JY,hu]
theorem AMO (a b:List UInt8):(⟨(a ++ b).toArray⟩:ByteArray).extract 0 a.length=⟨a.toArray⟩:=by
 ext1
 simp
set_option maxHeartbeats 1000000 in
theorem ANJ (G:Nat→AV) (s:ByteArray) (h:Hp) (hl:s.size≤1099511627776):PCall (En G) 214 [.str s] h (elemV (J9 s)):=by
 refine acN Tryz.func214 rfl ?_
 show awp _ _ _ _ _ (EN _ [.tmp 2,.tmp 3,.tmp 4] _)
 obtain ⟨⟨l⟩⟩:=s
 rw [szl] at hl
 rcases jV l.length 4 with h4 | h4
 ·have hd:decide ((l.length:Int) < 4)=true:=by simp; omega
  simp -implicitDefEqProofs only [BB,A8,BK,BI,A7,CJ,OT,DI,AZ,BA,BL,BX,CO,F7,AO,AQ,AL,BD,AY,AC,AA,EQ,AX,AU,BH,BM,IB,BJ,BC,CP,DW,BU,FP,AB,DV,BF,↓reduceIte,jA,jB,jC,enX,enP,ln9,szl,hd]
  have:J9 ⟨l.toArray⟩=none:=by
   unfold J9; rw [if_neg]; simp; omega
  exact ⟨by rw [this]; rfl,trivial⟩
 obtain ⟨b,x,d,y,rfl⟩:=three (show 3≤l.length by omega)
 have hlen:(b ++ [x,d,y]).length=b.length+3:=by simp
 rw [hlen] at hl h4
 have hbl:0 < b.length:=by omega
 have hb:b≠[]:=List.length_pos_iff.1 hbl
 have he:=YW (x:=x) (d:=d) (y:=y) hb
 generalize hn:IQ ⟨b.toArray⟩=nm at he
 have i1:L9 Tryz.prog 9 (.str ⟨(b ++ [x,d,y]).toArray⟩) (.int .i64 ((b.length:Int)+2))=some (.int .u8 y.toNat):=ixl (k:=b.length+2) (by omega) (by simp)
 have i2:L9 Tryz.prog 9 (.str ⟨(b ++ [x,d,y]).toArray⟩) (.int .i64 ((b.length:Int)+1))=some (.int .u8 d.toNat):=ixl (k:=b.length+1) (by omega) (by simp)
 have i3:L9 Tryz.prog 9 (.str ⟨(b ++ [x,d,y]).toArray⟩) (.int .i64 (b.length:Int))=some (.int .u8 x.toNat):=ixl (k:=b.length) rfl (by simp)
 have i4:=ABV (s:=⟨(b ++ [x,d,y]).toArray⟩) (u:=b.length) (h:=h) (by rw [szl]; omega)
 rw [AMO] at i4
 have hsz:(⟨(b ++ [x,d,y]).toArray⟩:ByteArray).size=b.length+3:=by rw [szl,hlen]
 generalize (⟨(b ++ [x,d,y]).toArray⟩:ByteArray)=s at *
 have w1:IntKind.i64.wrap (((b.length+3:Nat):Int) - 1)=(b.length:Int)+2:=by rw [wrap_i64 (by omega) (by omega)]; omega
 have w2:IntKind.i64.wrap (((b.length+3:Nat):Int) - 2)=(b.length:Int)+1:=by rw [wrap_i64 (by omega) (by omega)]; omega
 have w3:IntKind.i64.wrap (((b.length+3:Nat):Int) - 3)=(b.length:Int):=by rw [wrap_i64 (by omega) (by omega)]; omega
 have hd8:d.toNat < 256:=d.toNat_lt
 have w4:IntKind.i64.wrap (d.toNat:Int)=(d.toNat:Int):=wrap_i64 (by omega) (by omega)
 have w5:IntKind.i64.wrap ((d.toNat:Int) - 48)=(d.toNat:Int) - 48:=wrap_i64 (by omega) (by omega)
 have ha:decide (((b.length+3:Nat):Int) < 4)=false:=by simp; omega
 simp -implicitDefEqProofs only [BB,A8,A7,AZ,BA,BL,BX,CO,EY,AO,AQ,AL,BD,AY,AC,AA,AX,AU,BH,BM,IB,BJ,BC,CP,DZ,BU,LJ,FP,AB,II,FT,DV,BF,↓reduceIte,jA,jB,jC,enX,enP,ln9,hsz,ha,w1,w2,w3,i1,i2,i3,i4]
 refine IA (fun hc => ?_) (fun hc => ?_)
 ·simp -implicitDefEqProofs only [BB,A8,BK,BI,A7,CJ,OT,DI,AZ,BA,BL,BX,CO,F7,AO,AQ,AL,BD,AY,AC,AA,EQ,AX,AU,BH,BM,IB,BC,CP,DW,↓reduceIte,jA,jB,jC,hc]
  have hy:(y == 93)=false:=by
   rw [← qM]; intro e; rw [beq_iff_eq] at e; subst e; simp at hc
  exact ⟨by rw [he,hy]; simp; rfl,trivial⟩
 have hy:(y == 93)=true:=by
  rw [beq_iff_eq,← UInt8.toNat_inj]
  simp at hc; show y.toNat=93; omega
 simp -implicitDefEqProofs only [BI,A7,AZ,BA,BL,BX,CO,EY,AO,AQ,AL,BD,AY,AC,AA,AX,AU,BH,BM,BJ,CP,DZ,BU,LJ,FP,AB,II,FT,BF,↓reduceIte,jA,jB,jC,enP,ln9,hsz,hc,w1,w2,w3,i1,i2,i3,i4]
 refine CQ (fun hd => ?_) (fun hd => ?_)
 ·simp -implicitDefEqProofs only [BB,A8,BK,A7,CJ,OT,AZ,BA,AO,AQ,AL,BD,AY,AC,AA,AU,BH,BM,IB,BC,↓reduceIte,jA,jB,jC]
  have hx:(x == 91)=false:=by
   rw [← qM]; intro e; rw [beq_iff_eq] at e; subst e; simp at hd
  exact ⟨by rw [he,hx]; simp; rfl,trivial⟩
 have hx:(x == 91)=true:=by
  rw [beq_iff_eq,← UInt8.toNat_inj]
  simp at hd; show x.toNat=91; omega
 simp -implicitDefEqProofs only [Option.map_some,Option.map_none,BB,A8,BR,A7,AZ,BA,BL,BX,CO,AO,AQ,AL,BD,AY,AC,AA,AX,AU,BH,BJ,BC,BU,QF,OG,LJ,FP,AB,II,DV,BF,↓reduceIte,jA,jB,jC,enP,ln9,AIP,hsz,w1,w2,w3,i1,i2,i3,i4,w4,w5]
 refine IA (fun hf => ?_) (fun hf => ?_)
 ·simp -implicitDefEqProofs only [BB,A8,BK,BI,A7,CJ,OT,DI,AZ,BA,BL,BX,CO,F7,AO,AQ,AL,BD,AY,AC,AA,EQ,AX,AU,BH,BM,IB,BJ,BC,CP,DW,↓reduceIte,jA,jB,jC,hf]
  have:decide (48≤d.toNat)=false:=by simp at hf ⊢; omega
  exact ⟨by rw [he,this]; simp; rfl,trivial⟩
 have hd1:48≤d.toNat:=by simp at hf; omega
 simp -implicitDefEqProofs only [AZ,BL,BX,CO,EY,AO,AQ,AL,BD,AY,AC,AA,AX,AU,BH,BM,BJ,CP,DZ,BU,AB,FV,↓reduceIte,jA,jB,jC,enP,hf]
 refine IA (fun hf => ?_) (fun hf => ?_)
 ·simp -implicitDefEqProofs only [BB,A8,BK,BI,A7,CJ,OT,DI,AZ,BA,BL,BX,CO,F7,AO,AQ,AL,BD,AY,AC,AA,EQ,AX,AU,BH,BM,IB,BC,CP,DW,↓reduceIte,jA,jB,jC,hf]
  have:decide (d.toNat < 56)=false:=by simp at hf ⊢; omega
  exact ⟨by rw [he,this]; simp; rfl,trivial⟩
 have hd2:d.toNat < 56:=by simp at hf; omega
 simp -implicitDefEqProofs only [BL,BX,CO,EY,AO,AQ,AL,BD,AY,AC,AA,AX,BN,BJ,BV,BP,jF,jD,jE,↓reduceIte,jA,jB,jC,hf]
 refine (RJ G ⟨b.toArray⟩ h).use ?_
 simp -implicitDefEqProofs only [BI,A7,AZ,BA,BL,BX,CO,EY,AO,AQ,AL,BD,AY,AC,AA,AX,AU,BM,CP,DZ,JG,AB,GG,↓reduceIte,jA,jB,jC,hn]
 cases nm
 ·simp -implicitDefEqProofs only [BB,A8,BK,A7,CJ,OT,DI,AZ,BA,AO,AQ,AL,BD,AY,AC,AA,AU,BH,BM,IB,BC,↓reduceIte,jA,jB,jC]
  exact ⟨by rw [he]; simp; rfl,trivial⟩
 ·simp -implicitDefEqProofs only [BB,A8,BR,BK,A7,OT,DN,AZ,BA,AO,AQ,AL,BD,AY,AC,AA,AX,AU,BM,BJ,BC,↓reduceIte,jA,jB,jW,jC]
  exact ⟨by rw [he]; simp [hy,hx,hd1,hd2]; rfl,trivial⟩
def JF (s:ByteArray):Bool:=(J9 s).isSome || IQ s
theorem ACX (o:Option (List UInt8 × UInt8)) : ∃ a n,elemV o = .tup [.str a,.int .i64 n,.bool o.isSome]:=by
 cases o with
 | none=>exact ⟨_,_,rfl⟩
 | some x=>exact ⟨_,_,rfl⟩
theorem AKD (G:Nat→AV) (hG:GOk G) (s:ByteArray) (h:Hp) (hl:s.size≤1048576):PCall (En G) 132 [.str s] h (.bool (JF s)):=by
 refine acN Tryz.func132 rfl ?_
 show awp _ _ _ _ _ (EN _ [.tmp 2] _)
 simp -implicitDefEqProofs only [BB,A8,A7,AZ,BA,AO,AQ,AL,BD,AY,AC,AA,AX,AU,BN,BM,BJ,BC,BV,BP,BF,jF,jD,jE,↓reduceIte,jA,jB,jC,enX,enP]
 refine (AF9 G hG s h hl).use ?_
 obtain ⟨a,n,e⟩:=ACX (J9 s)
 rw [e]
 simp -implicitDefEqProofs only [zB,zD,BB,A8,A7,AZ,BA,BL,BX,CO,AO,AQ,AL,BD,AY,AC,AA,AX,BJ,BC,G8,JJ,AB,↓reduceIte,jA,jB,jC]
 cases hs:(J9 s).isSome
 ·simp -implicitDefEqProofs only [BL,BX,CO,EY,AO,AQ,AL,BD,AY,AC,AA,AX,BN,BJ,BV,BP,BF,jF,jD,jE,↓reduceIte,jA,jB,jC]
  refine (P8 G hG.kw s h (by omega)).use ?_
  simp -implicitDefEqProofs only [BK,A7,CV,AZ,BA,AO,AQ,AL,BD,AY,AC,AA,AX,AU,BM,BC,CP,DZ,↓reduceIte,jA,jB,jC]
  exact ⟨by unfold JF; rw [hs]; rfl,trivial⟩
 ·simp -implicitDefEqProofs only [BK,A7,CV,AZ,BA,BL,BX,CO,F7,AO,AQ,AL,BD,AY,AC,AA,EQ,AX,AU,BM,BC,CP,DW,↓reduceIte,jA,jB,jC]
  exact ⟨by unfold JF; rw [hs]; rfl,trivial⟩
theorem AOA (G:Nat→AV) (s:ByteArray) (h:Hp) (hl:s.size≤1048576):PCall (En G) 204 [.str s] h (.bool (JF s)):=by
 refine acN Tryz.func204 rfl ?_
 show awp _ _ _ _ _ (EN _ [.tmp 2] _)
 simp -implicitDefEqProofs only [BB,A8,A7,AZ,BA,AO,AQ,AL,BD,AY,AC,AA,AX,AU,BN,BM,BJ,BC,BV,BP,BF,jF,jD,jE,↓reduceIte,jA,jB,jC,enX,enP]
 refine (ANJ G s h (by omega)).use ?_
 obtain ⟨a,n,e⟩:=ACX (J9 s)
 rw [e]
 simp -implicitDefEqProofs only [zB,zD,BB,A8,A7,AZ,BA,BL,BX,CO,AO,AQ,AL,BD,AY,AC,AA,AX,BJ,BC,G8,JJ,AB,↓reduceIte,jA,jB,jC]
 cases hs:(J9 s).isSome
 ·simp -implicitDefEqProofs only [BL,BX,CO,EY,AO,AQ,AL,BD,AY,AC,AA,AX,BN,BJ,BV,BP,BF,jF,jD,jE,↓reduceIte,jA,jB,jC]
  refine (RJ G s h).use ?_
  simp -implicitDefEqProofs only [BK,A7,CV,AZ,BA,AO,AQ,AL,BD,AY,AC,AA,AX,AU,BM,BC,CP,DZ,↓reduceIte,jA,jB,jC]
  exact ⟨by unfold JF; rw [hs]; rfl,trivial⟩
 ·simp -implicitDefEqProofs only [BK,A7,CV,AZ,BA,BL,BX,CO,F7,AO,AQ,AL,BD,AY,AC,AA,EQ,AX,AU,BM,BC,CP,DW,↓reduceIte,jA,jB,jC]
  exact ⟨by unfold JF; rw [hs]; rfl,trivial⟩
def UN (s:ByteArray):Bool:=s.toList == (⟨#[]⟩:ByteArray).toList
def VG (e:Ex):Bool:=decide (e.op < 1) || decide (e.op > 25)
def AC9 (e:Ex):Bool:=((e.op == 1) && (decide (e.n < 0) || decide (e.n > 65535))) || (!(e.op == 1) && !(e.n == 0))
def Z8 (e:Ex):Bool:=(!KL e.op && !UN e.name) || !WU e.op e.args.length
def XW (e:Ex):Bool:=((e.op == 2) && !JF e.name) || (((e.op == 3) || (e.op == 24)) && !IQ e.name)
def JH (e:Ex):Int:=if VG e then 1 else if AC9 e then 1 else if Z8 e then 1 else if XW e then 7 else 0
theorem ANX (G:Nat→AV) (hG:GOk G) (e:Ex) (h:Hp) (hl:e.name.size≤1048576):PCall (En G) 89 [.agg (CW e)] h (.int .i64 (JH e)):=by
 refine ACalls.pure0 rfl ?_
 refine acN Tryz.func89 rfl ?_
 show awp _ _ _ _ _ (EN _ [.tmp 2] _)
 simp -implicitDefEqProofs only [BB,A8,A7,AZ,BA,BL,BX,CO,AO,AQ,AL,BD,AY,AC,AA,AX,AU,BH,BJ,BC,FQ,BO,BU,BG,CB,AB,CX,BF,↓reduceIte,jA,jH,jB,jC,enP,FU,bxE,E5 ag3,JC]
 refine NZ (fun F H=>F 3 = .bool (KL e.op)∧F 1 = .ptr h.length 0 0∧H=h ++ [.live 4 [CW e]]) ?_ ?_
 ·cases b2:(e.op == 2) <;> cases b3:(e.op == 3)
  all_goals
   simp -implicitDefEqProofs only [AZ,BA,BL,BX,CO,EY,F7,AO,AQ,AL,BD,AY,AC,AA,EQ,AX,AU,BH,BM,BJ,BC,CP,DW,DZ,BO,BU,BG,AB,CX,↓reduceIte,jA,jH,jB,jC,enP,FU,b2,b3,E5 ag3,JC]
   exact ⟨by simp [KL,b2,b3],trivial,trivial⟩
 rintro F H ⟨f3,f1,rfl⟩
 simp -implicitDefEqProofs only [BB,CE,A8,A7,AZ,BL,BX,CO,AO,AQ,AL,BD,AY,AC,AA,AX,AU,BH,BJ,BO,BU,BG,AB,DV,↓reduceIte,jH,jB,jC,enP,FU,f1,f3,E5 ag3,JC]
 refine NZ (fun F H=>F 17 = .bool (VG e)∧F 3 = .bool (KL e.op)∧F 1 = .ptr h.length 0 0∧H=h ++ [.live 4 [CW e]]) ?_ ?_
 ·cases b2:decide (e.op < 1)
  all_goals
   simp -implicitDefEqProofs only [AZ,BA,BL,BX,CO,EY,F7,AO,AQ,AL,BD,AY,AC,AA,EQ,AX,AU,BH,BM,BC,CP,DW,DZ,BO,BU,BG,AB,FM,↓reduceIte,jA,jH,jB,jC,enP,FU,b2,f1,f3,E5 ag3,JC]
   exact ⟨by simp [VG,b2],trivial,trivial,trivial⟩
 clear f1 f3
 rintro F H ⟨f17,f3,f1,rfl⟩
 simp -implicitDefEqProofs only [BI,A7,AX,f17]
 refine CQ (fun ho => ?_) (fun ho => ?_)
 ·simp -implicitDefEqProofs only [BB,A8,BK,A7,CJ,D8,CV,AZ,BA,AO,AQ,AL,BD,AY,AC,AA,AU,BH,BC,↓reduceIte,jB,jC]
  exact ⟨by unfold JH; rw [if_pos ho],_,rfl⟩
 simp -implicitDefEqProofs only [BB,A8,AZ,BL,BX,CO,AO,AQ,AL,BD,AY,AC,AA,AX,AU,BH,BJ,BO,BU,BG,AB,CX,↓reduceIte,jH,jB,jC,enP,FU,f1,f3,E5 ag3,JC,XF]
 refine NZ (fun F H=>F 26 = .bool (AC9 e)∧F 3 = .bool (KL e.op)∧F 1 = .ptr h.length 0 0∧H=h ++ [.live 4 [CW e]]) ?_ ?_
 ·cases b1:(e.op == 1) <;> cases b2:decide (e.n < 0) <;> cases b3:decide (e.n > 65535) <;> cases b4:(e.n == 0)
  all_goals
   simp -implicitDefEqProofs only [AZ,BA,BL,BX,CO,GL,EY,IP,F7,W9,AO,AQ,AL,BD,AY,AC,AA,EQ,AX,AU,BH,BM,BJ,BC,CP,DW,DZ,BO,BU,BG,AB,FT,DV,FM,↓reduceIte,jA,jH,jG,jB,jW,jC,enP,FU,XR,bne,b1,b2,b3,b4,f1,f3,E5 ag3,JC,XF]
   exact ⟨by simp [AC9,b1,b2,b3,b4],trivial,trivial,trivial⟩
 clear f1 f3 f17
 rintro F H ⟨f26,f3,f1,rfl⟩
 simp -implicitDefEqProofs only [BI,A7,AX,f26]
 refine CQ (fun hn => ?_) (fun hn => ?_)
 ·simp -implicitDefEqProofs only [BB,A8,BK,A7,CJ,D8,CV,AZ,BA,AO,AQ,AL,BD,AY,AC,AA,AU,BH,BC,↓reduceIte,jB,jC]
  exact ⟨by unfold JH; rw [if_neg (by simp [ho]),if_pos hn],_,rfl⟩
 simp -implicitDefEqProofs only [BB,A8,AZ,BL,BX,CO,AO,AQ,AL,BD,AY,AC,AA,AX,BJ,JG,AB,GG,↓reduceIte,jB,jC,f1,f3,E5 ag9,OB]
 refine NZ (fun F H=>F 50 = .bool (Z8 e)∧F 3 = .bool (KL e.op)∧F 1 = .ptr h.length 0 0∧H=h ++ [.live 4 [CW e]]) ?_ ?_
 ·cases bm:KL e.op <;> cases b5:UN e.name
  all_goals
   have b6:=b5
   unfold UN at b6
   simp -implicitDefEqProofs only [AZ,BA,BL,BX,CO,GL,EY,IP,F7,AO,AQ,AL,BD,AY,AC,AA,EQ,AX,AU,BN,BM,IB,BJ,BC,CP,DW,DZ,BO,BU,BG,BV,BP,AB,AC8,jF,jD,jE,↓reduceIte,jA,jG,jB,jW,jC,enP,KF,bne,bm,b6,f1,f3,E5 ag9,OB,ldE]
  ·exact ⟨by simp [Z8,bm,b5],trivial,trivial,trivial⟩
  all_goals
   refine (ADR G e _).use ?_
   simp -implicitDefEqProofs only [AZ,BA,BL,BX,CO,EY,AO,AQ,AL,BD,AY,AC,AA,AX,AU,BM,BC,CP,DZ,JG,AB,GG,↓reduceIte,jA,jB,jC,bne,bm,f1,f3]
   exact ⟨by simp [Z8,bm,b5],trivial,trivial,trivial⟩
 clear f1 f3 f26
 rintro F H ⟨f50,f3,f1,rfl⟩
 simp -implicitDefEqProofs only [BI,A7,AX,f50]
 refine CQ (fun hs => ?_) (fun hs => ?_)
 ·simp -implicitDefEqProofs only [BB,A8,BK,A7,CJ,D8,CV,AZ,BA,AO,AQ,AL,BD,AY,AC,AA,AU,BH,BC,↓reduceIte,jB,jC]
  exact ⟨by unfold JH; rw [if_neg (by simp [ho]),if_neg (by simp [hn]),if_pos hs],_,rfl⟩
 simp -implicitDefEqProofs only [BB,A8,AZ,BL,BX,CO,AO,AQ,AL,BD,AY,AC,AA,AX,AU,BH,BJ,BO,BU,BG,AB,CX,↓reduceIte,jH,jB,jC,enP,FU,f1,f3,E5 ag9,E5 ag3,JC,OB]
 have fin : ∀ b,XW e=b→JH e=if b then 7 else 0:=by
  intro b hb
  unfold JH; rw [if_neg (by simp [ho]),if_neg (by simp [hn]),if_neg (by simp [hs]),hb]
 cases b2:(e.op == 2)
 ·simp -implicitDefEqProofs only [AZ,BL,BX,CO,EY,IP,AO,AQ,AL,BD,AY,AC,AA,EQ,AX,AU,BH,BM,BJ,CP,DZ,BO,BU,BG,AB,CX,↓reduceIte,jA,jH,jB,jC,enP,FU,b2,f1,f3,E5 ag9,E5 ag3,JC,OB]
  cases b3:(e.op == 3) <;> cases b4:(e.op == 24)
  all_goals
   simp -implicitDefEqProofs only [BB,A8,BR,BK,BI,A7,EO,CV,DN,AZ,BA,BL,BX,CO,GL,EY,IP,F7,AO,AQ,AL,BD,AY,AC,AA,EQ,AX,AU,BN,BH,BM,BJ,BC,CP,DW,DZ,BO,BU,BG,BV,BP,AB,CX,jF,jD,jE,↓reduceIte,jA,jH,jG,jB,jC,enP,FU,KF,b3,b4,f1,f3,E5 ag9,E5 ag3,JC,OB]
  ·exact ⟨by rw [fin false (by simp [XW,b2,b3,b4])]; rfl,_,rfl⟩
  all_goals
   refine (P8 G hG.kw e.name _ (by omega)).use ?_
   cases bi:IQ e.name
   ·simp -implicitDefEqProofs only [BB,A8,BK,BI,A7,CJ,D8,CV,DI,AZ,BA,BL,BX,CO,GL,EY,AO,AQ,AL,BD,AY,AC,AA,AX,AU,BH,BM,BC,CP,DW,DZ,JG,AB,GG,↓reduceIte,jA,jB,jC]
    exact ⟨by rw [fin true (by simp [XW,b2,b3,b4,bi])]; rfl,_,rfl⟩
   ·simp -implicitDefEqProofs only [BB,A8,BR,BK,BI,A7,EO,CV,DN,AZ,BA,BL,BX,CO,GL,EY,AO,AQ,AL,BD,AY,AC,AA,AX,AU,BH,BM,BC,CP,DW,DZ,JG,AB,GG,↓reduceIte,jA,jB,jW,jC]
    exact ⟨by rw [fin false (by simp [XW,b2,b3,b4,bi])]; rfl,_,rfl⟩
 ·have e2:e.op=2:=by simpa using b2
  simp -implicitDefEqProofs only [BL,BX,CO,GL,AO,AQ,AL,BD,AY,AC,AA,AX,BN,BO,BG,BV,BP,AB,jF,jD,jE,↓reduceIte,jA,jG,jB,jC,enP,KF,b2,f1,f3,E5 ag9,E5 ag3,JC,OB]
  refine (AKD G hG e.name _ hl).use ?_
  cases bi:JF e.name
  ·simp -implicitDefEqProofs only [BB,A8,BK,BI,A7,CJ,D8,CV,DI,AZ,BA,BL,BX,CO,GL,F7,W9,AO,AQ,AL,BD,AY,AC,AA,EQ,AX,AU,BH,BM,BJ,BC,CP,DW,JG,AB,GG,↓reduceIte,jA,jB,jC]
   exact ⟨by rw [fin true (by simp [XW,b2,bi])]; rfl,_,rfl⟩
  ·simp -implicitDefEqProofs only [BB,A8,BR,BK,BI,A7,EO,CV,DN,AZ,BA,BL,BX,CO,GL,EY,IP,AO,AQ,AL,BD,AY,AC,AA,EQ,AX,AU,BH,BM,BJ,BC,CP,DW,DZ,BO,BU,JG,BG,AB,CX,GG,↓reduceIte,jA,jH,jB,jW,jC,enP,FU,f1,E5 ag3,JC,e2,Int.reduceBEq]
   exact ⟨by rw [fin false (by simp [XW,e2,bi])]; rfl,_,rfl⟩
def ADA (e:Ex):Bool:=VG e || decide (e.n < 0) || decide (e.n > 65535) || (!(e.n == 0) && !(e.op == 1)) || (!UN e.name && !KL e.op)
def AI0 (op:Int) (n:Nat):Bool:=((op == 23) && (decide ((n:Int) < 3) || decide ((n:Int) > 33) || ((n:Int) % 2 == 0))) || (!(op == 23) && !((n:Int) == arity op))
theorem AVM (op:Int) (n:Nat):AI0 op n = !WU op n:=by
 unfold AI0 WU
 rcases hc:(op == 23) with _ | _
 ·simp
 ·have h1:decide ((n:Int) < 3) = !decide ((n:Int)≥3):=by rw [qZ]; simp
  have h2:decide ((n:Int) > 33) = !decide ((n:Int)≤33):=by rw [qZ]; simp
  have h3:((n:Int) % 2 == 0) = !((n:Int) % 2 == 1):=by rw [qZ]; simp; omega
  rw [h1,h2,h3]
  cases ((n:Int) % 2 == 1) <;> cases decide ((n:Int)≥3) <;> cases decide ((n:Int)≤33) <;> rfl
theorem AVN (e:Ex):(ADA e || AI0 e.op e.args.length)=(VG e || AC9 e || Z8 e):=by
 rw [AVM]
 unfold ADA AC9 Z8
 rcases h1:(e.op == 1) with _ | _
 ·rcases h2:(e.n == 0) with _ | _
  ·simp
  ·have h3:decide (e.n < 0)=false:=by simp at h2 ⊢; omega
   have h4:decide (e.n > 65535)=false:=by simp at h2 ⊢; omega
   rw [h3,h4]
   cases VG e <;> cases UN e.name <;> cases KL e.op <;> cases WU e.op e.args.length <;> rfl
 ·cases VG e <;> cases UN e.name <;> cases KL e.op <;> cases WU e.op e.args.length <;> cases decide (e.n < 0) <;> cases decide (e.n > 65535) <;> cases (e.n == 0) <;> rfl
theorem ZK (e:Ex):JH e=if ADA e then 1 else if AI0 e.op e.args.length then 1 else if XW e then 7 else 0:=by
 have:=AVN e
 unfold JH
 revert this
 cases ADA e <;> cases AI0 e.op e.args.length <;> cases VG e <;> cases AC9 e <;> cases Z8 e <;> simp
set_option maxHeartbeats 1000000 in
theorem ANA (G:Nat→AV) (e:Ex) (h:Hp) (hl:e.name.size≤1048576):PCall (En G) 179 [.agg (CW e)] h (.int .i64 (JH e)):=by
 refine ACalls.pure0 rfl ?_
 refine acN Tryz.func179 rfl ?_
 show awp _ _ _ _ _ (EN _ [.tmp 2] _)
 simp -implicitDefEqProofs only [BB,A8,A7,AZ,BA,BL,BX,CO,AO,AQ,AL,BD,AY,AC,AA,AX,AU,BH,BJ,BC,FQ,BO,BU,BG,CB,AB,DV,BF,↓reduceIte,jA,jH,jB,jC,enP,FU,bxE,E5 ag3,JC]
 refine NZ (fun F H=>F 42 = .bool (ADA e)∧F 1 = .ptr h.length 0 0∧H=h ++ [.live 4 [CW e]]) ?_ ?_
 ·cases b1:decide (e.op < 1)
  case true =>
   simp -implicitDefEqProofs only [AZ,BA,BL,BX,CO,F7,W9,AO,AQ,AL,BD,AY,AC,AA,EQ,AX,AU,BM,BJ,CP,DW,↓reduceIte,jA,jB,jC,b1]
   exact ⟨by simp [ADA,VG,b1],trivial,trivial⟩
  simp -implicitDefEqProofs only [AZ,BL,BX,CO,EY,AO,AQ,AL,BD,AY,AC,AA,AX,AU,BH,BM,BJ,CP,DZ,BO,BU,BG,AB,FM,↓reduceIte,jA,jH,jB,jC,enP,FU,b1,E5 ag3,JC,XF]
  cases b2:decide (e.op > 25)
  case true =>
   simp -implicitDefEqProofs only [AZ,BA,BL,BX,CO,F7,W9,AO,AQ,AL,BD,AY,AC,AA,EQ,AX,AU,BM,BJ,CP,DW,↓reduceIte,jA,jB,jC,b2]
   exact ⟨by simp [ADA,VG,b2],trivial,trivial⟩
  simp -implicitDefEqProofs only [AZ,BL,BX,CO,EY,AO,AQ,AL,BD,AY,AC,AA,AX,AU,BH,BM,BJ,CP,DZ,BO,BU,BG,AB,DV,↓reduceIte,jA,jG,jB,jC,enP,XR,b2,E5 ag3,JC,XF]
  have bO:VG e=false:=by unfold VG; rw [b1,b2]; rfl
  cases b3:decide (e.n < 0)
  case true =>
   simp -implicitDefEqProofs only [AZ,BA,BL,BX,CO,F7,W9,AO,AQ,AL,BD,AY,AC,AA,EQ,AX,AU,BM,BJ,CP,DW,↓reduceIte,jA,jB,jC,b3]
   exact ⟨by simp only [ADA,b3]; simp,trivial,trivial⟩
  simp -implicitDefEqProofs only [AZ,BL,BX,CO,EY,AO,AQ,AL,BD,AY,AC,AA,AX,AU,BH,BM,BJ,CP,DZ,BO,BU,BG,AB,FM,↓reduceIte,jA,jG,jB,jC,enP,XR,b3,E5 ag3,JC,XF]
  cases b4:decide (e.n > 65535)
  case true =>
   simp -implicitDefEqProofs only [AZ,BA,BL,BX,CO,F7,W9,AO,AQ,AL,BD,AY,AC,AA,EQ,AX,AU,BM,BJ,CP,DW,↓reduceIte,jA,jB,jC,b4]
   exact ⟨by simp only [ADA,b4]; simp,trivial,trivial⟩
  simp -implicitDefEqProofs only [BL,BX,CO,EY,AO,AQ,AL,BD,AY,AC,AA,AX,AU,BH,BJ,BO,BU,BG,AB,FT,↓reduceIte,jA,jG,jB,jC,enP,XR,b4,bne,E5 ag3,E5 ag9,JC,XF,OB]
  have fin : ∀ b,((!(e.n == 0) && !(e.op == 1)) || (!UN e.name && !KL e.op))=b→ADA e=b:=by
   intro b hb
   unfold ADA; rw [bO,b3,b4]; simpa using hb
  cases b5:(e.n == 0) <;> cases b6:(e.op == 1) <;> cases b7:UN e.name
  all_goals
   have b8:=b7
   unfold UN at b8
   simp -implicitDefEqProofs only [AZ,BA,BL,BX,CO,GL,EY,IP,F7,W9,AO,AQ,AL,BD,AY,AC,AA,EQ,AX,AU,BN,BH,BM,IB,BJ,CP,DW,DZ,BO,BU,BG,BV,BP,AB,FT,AC8,jF,jD,jE,↓reduceIte,jA,jH,jG,jB,jW,jC,enP,FU,KF,bne,b5,b6,b8,E5 ag3,E5 ag9,JC,XF,OB]
  all_goals first
   | exact ⟨by rw [fin _ rfl]; simp [b5,b6,b7],trivial,trivial⟩
   | refine (WI G e.op _).use ?_
     simp -implicitDefEqProofs only [AZ,BA,BL,BX,CO,GL,EY,AO,AQ,AL,BD,AY,AC,AA,AX,AU,BM,CP,DW,DZ,JG,AB,GG,↓reduceIte,jA,jB,jC]
     exact ⟨by rw [fin _ rfl]; simp [b5,b6,b7],trivial,trivial⟩
 rintro F H ⟨f42,f1,rfl⟩
 simp -implicitDefEqProofs only [BI,A7,AX,f42]
 refine CQ (fun ho => ?_) (fun ho => ?_)
 ·simp -implicitDefEqProofs only [BB,A8,BK,A7,CJ,CV,AZ,BA,AO,AQ,AL,BD,AY,AC,AA,AU,BH,BC,↓reduceIte,jB,jC]
  exact ⟨by rw [ZK,if_pos ho],_,rfl⟩
 simp -implicitDefEqProofs only [BB,A8,BR,A7,AZ,BA,BL,BX,CO,AO,AQ,AL,BD,AY,AC,AA,AX,AU,BH,BJ,BC,BO,BU,BG,FP,AB,CX,↓reduceIte,jA,jH,jG,jB,jC,enP,TD,FU,IJ,f1,E5 ag3,E5 NM,JC,NE,jR]
 generalize hn:e.args.length=n
 have hm:(n:Int).tmod 2=(n:Int) % 2:=Int.tmod_eq_emod_of_nonneg (by omega)
 have br:IE Tryz.prog 3 .rem (.int .i64 (n:Int)) (.int .i64 2)=some (.int .i64 ((n:Int) % 2)):=by rw [UY _ _ _ _ _ (by decide),hm]
 refine NZ (fun F H=>F 73 = .bool (AI0 e.op n)∧F 1 = .ptr h.length 0 0∧H=h ++ [.live 4 [CW e]]) ?_ ?_
 ·cases b1:(e.op == 23)
  ·simp -implicitDefEqProofs only [AZ,BL,BX,CO,GL,EY,IP,W9,AO,AQ,AL,BD,AY,AC,AA,EQ,AX,AU,BN,BH,BM,BJ,CP,DZ,BO,BU,BG,BV,BP,AB,FT,jF,jD,jE,↓reduceIte,jA,jH,jB,jC,enP,FU,bne,b1,f1,E5 ag3,JC]
   refine (AOT G e.op _).use ?_
   simp -implicitDefEqProofs only [AZ,BA,BL,BX,CO,GL,EY,AO,AQ,AL,BD,AY,AC,AA,AX,AU,BM,CP,DW,DZ,BU,AB,FT,↓reduceIte,jA,jB,jC,enP,bne]
   exact ⟨by unfold AI0; rw [b1]; simp,f1,trivial⟩
  ·cases b2:decide ((n:Int) < 3) <;> cases b3:decide ((n:Int) > 33) <;> cases b4:((n:Int) % 2 == 0)
   all_goals
    simp -implicitDefEqProofs only [AZ,BA,BL,BX,CO,GL,EY,IP,F7,W9,AO,AQ,AL,BD,AY,AC,AA,EQ,AX,AU,BH,BM,BJ,CP,DW,DZ,BO,BU,BG,AB,CX,FT,DV,FM,↓reduceIte,jA,jH,jB,jW,jC,enP,FU,bne,b1,b2,b3,b4,br,f1,E5 ag3,JC]
    exact ⟨by unfold AI0; rw [b1,b2,b3,b4]; simp,trivial,trivial⟩
 clear f1 f42
 rintro F H ⟨f73,f1,rfl⟩
 simp -implicitDefEqProofs only [BI,A7,AX,f73]
 subst hn
 refine CQ (fun hs => ?_) (fun hs => ?_)
 ·simp -implicitDefEqProofs only [BB,A8,BK,A7,CJ,CV,AZ,BA,AO,AQ,AL,BD,AY,AC,AA,AU,BH,BC,↓reduceIte,jB,jC]
  exact ⟨by rw [ZK,if_neg (by simp [ho]),if_pos hs],_,rfl⟩
 simp -implicitDefEqProofs only [BB,A8,BR,A7,AZ,BL,BX,CO,AO,AQ,AL,BD,AY,AC,AA,AX,AU,BH,BJ,BO,BU,BG,AB,CX,↓reduceIte,jH,jB,jC,enP,FU,f1,E5 ag3,E5 ag9,JC,OB]
 have fin : ∀ b,XW e=b→JH e=if b then 7 else 0:=by
  intro b hb
  rw [ZK,if_neg (by simp [ho]),if_neg (by simp [hs]),hb]
 cases b2:(e.op == 2)
 ·simp -implicitDefEqProofs only [AZ,BL,BX,CO,EY,IP,AO,AQ,AL,BD,AY,AC,AA,EQ,AX,AU,BN,BM,BJ,CP,DZ,BO,BG,BV,BP,AB,jF,jD,jE,↓reduceIte,jA,jH,jB,jC,enP,FU,b2,f1,E5 ag9,E5 ag3,JC,OB]
  refine (WI G e.op _).use ?_
  cases bm:KL e.op
  ·have hv:XW e=false:=by
    unfold KL at bm; simp only [Bool.or_eq_false_iff] at bm
    simp [XW,bm.1.1,bm.1.2,bm.2]
   simp -implicitDefEqProofs only [BB,A8,BR,BK,BI,A7,CV,DN,AZ,BA,BL,BX,CO,EY,IP,AO,AQ,AL,BD,AY,AC,AA,EQ,AX,AU,BH,BM,BJ,BC,CP,DZ,↓reduceIte,jA,jB,jC]
   exact ⟨by rw [fin false hv]; rfl,_,rfl⟩
  have hv:XW e = !IQ e.name:=by
   unfold KL at bm; rw [b2] at bm; simp only [Bool.false_or] at bm
   unfold XW; rw [b2,bm]; simp
  simp -implicitDefEqProofs only [BL,BX,CO,GL,EY,AO,AQ,AL,BD,AY,AC,AA,AX,AU,BN,BH,BM,BJ,CP,DW,BO,BU,BG,BV,BP,AB,FT,jF,jD,jE,↓reduceIte,jA,jH,jG,jB,jC,enP,FU,KF,bne,b2,f1,E5 ag9,E5 ag3,JC,OB]
  refine (RJ G e.name _).use ?_
  cases bi:IQ e.name
  ·simp -implicitDefEqProofs only [BB,A8,BK,BI,A7,CJ,CV,DI,AZ,BA,BL,BX,CO,GL,EY,AO,AQ,AL,BD,AY,AC,AA,AX,AU,BH,BM,BC,CP,DW,DZ,JG,AB,GG,↓reduceIte,jA,jB,jC]
   exact ⟨by rw [fin true (by rw [hv,bi]; rfl)]; rfl,_,rfl⟩
  ·simp -implicitDefEqProofs only [BB,A8,BR,BK,BI,A7,CV,DN,AZ,BA,BL,BX,CO,GL,EY,AO,AQ,AL,BD,AY,AC,AA,AX,AU,BH,BM,BC,CP,DW,DZ,JG,AB,GG,↓reduceIte,jA,jB,jW,jC]
   exact ⟨by rw [fin false (by rw [hv,bi]; rfl)]; rfl,_,rfl⟩
 ·have e2:e.op=2:=by simpa using b2
  have hv:XW e = !JF e.name:=by
   unfold XW; rw [e2]; simp
  simp -implicitDefEqProofs only [BL,BX,CO,GL,AO,AQ,AL,BD,AY,AC,AA,AX,BN,BO,BG,BV,BP,AB,jF,jD,jE,↓reduceIte,jA,jG,jB,jC,enP,KF,b2,f1,E5 ag9,E5 ag3,JC,OB]
  refine (AOA G e.name _ hl).use ?_
  cases bi:JF e.name
  ·simp -implicitDefEqProofs only [BB,A8,BK,BI,A7,CJ,CV,DI,AZ,BA,BL,BX,CO,GL,F7,W9,AO,AQ,AL,BD,AY,AC,AA,EQ,AX,AU,BH,BM,BJ,BC,CP,DW,JG,AB,GG,↓reduceIte,jA,jB,jC]
   exact ⟨by rw [fin true (by rw [hv,bi]; rfl)]; rfl,_,rfl⟩
  ·simp -implicitDefEqProofs only [AZ,BL,BX,CO,GL,EY,AO,AQ,AL,BD,AY,AC,AA,AX,AU,BN,BM,BJ,CP,DW,BO,JG,BG,BV,BP,AB,GG,jF,jD,jE,↓reduceIte,jA,jH,jB,jW,jC,enP,FU,f1,E5 ag3,JC]
   refine (WI G e.op _).use ?_
   have bm:KL e.op=true:=by rw [e2]; rfl
   simp -implicitDefEqProofs only [BB,A8,BR,BK,BI,A7,CV,DN,AZ,BA,BL,BX,CO,GL,EY,IP,AO,AQ,AL,BD,AY,AC,AA,EQ,AX,AU,BH,BM,BJ,BC,CP,DW,DZ,BO,BU,BG,AB,FT,↓reduceIte,jA,jH,jB,jW,jC,enP,FU,bne,bm,f1,E5 ag3,JC,b2]
   exact ⟨by rw [fin false (by rw [hv,bi]; rfl)]; rfl,_,rfl⟩
theorem AE2:LW Tryz.prog 113=some false:=by kernel_rfl
theorem AV4:szO Tryz.prog 113=some 1:=by kernel_rfl
theorem AI9 (h:Hp):J8 Tryz.prog h 40=some (.ptr h.length 0 0,h ++ [.live 4 [[.int .i64 0,.int .i64 0,.str ⟨#[]⟩,.sl .nil 0 []]]]):=KI (row := [.int .i64 0,.int .i64 0,.str ⟨#[]⟩,.sl .nil 0 []]) (by kernel_rfl)
theorem AJQ (h:Hp) (e:Ex) (row:List AV) (hr:row.length=4):GM Tryz.prog (h ++ [.live 4 [row]]) 40 (.ptr h.length 0 0) (.agg (CW e))=some (h ++ [.live 4 [CW e]]):=by
 rw [AD5 (U2 (LY e)) (by rw [ES]; exact JR) (by rw [ES,hr]; exact jQ _)]
 have:splice row 0 (CW e)=CW e:=by unfold splice; simp [ES,hr]
 rw [this]
theorem A3N (h:Hp):J8 Tryz.prog h 35=some (.ptr h.length 0 0,h ++ [.live 1 [[.int .i64 0]]]):=KI (row := [.int .i64 0]) (by kernel_rfl)
theorem al3 (h:Hp):J8 Tryz.prog h 3=some (.ptr h.length 0 0,h ++ [.live 1 [[.int .i64 0]]]):=KI (row := [.int .i64 0]) (by kernel_rfl)
theorem AWO (h:Hp):J8 Tryz.prog h 113=some (.ptr h.length 0 0,h ++ [.live 1 [[.nilfn]]]):=KI (row := [.nilfn]) (by kernel_rfl)
theorem I8 {h:Hp} {t:TypeId} {b:Nat} {v:AV} (hag:LW Tryz.prog t=some false) (hb:h[b]? = some (.live 1 [[v]])):DR Tryz.prog h t (.ptr b 0 0)=some v:=by
 rw [DJ hag hb (row := [v]) rfl]; rfl
theorem UI {h:Hp} {t:TypeId} {b:Nat} {v u:AV} (hs:szO Tryz.prog t=some 1) (hc:JL u=some [u]) (hb:h[b]? = some (.live 1 [[v]])):GM Tryz.prog h t (.ptr b 0 0) u=some (h.set b (.live 1 [[u]])):=by
 rw [I5 hc hs hb (row := [v]) rfl (by simp)]; rfl
theorem A3F (h:Hp) (f:Fn) (a b:List AV):PO h (.fn f a b)=some (.ptr h.length 0 0,h ++ [.live 1 [[.fn f a b]]]):=rfl
def Chg (c:Nat) (h h':Hp):Prop:=h.length≤h'.length∧∀ b,b < h.length→b≠c→h'[b]? = h[b]?
theorem Chg.refl (c:Nat) (h:Hp):Chg c h h:=⟨jQ _,fun _ _ _=>rfl⟩
theorem Chg.trans {c:Nat} {a b d:Hp} (h1:Chg c a b) (h2:Chg c b d):Chg c a d :=
 ⟨Nat.le_trans h1.1 h2.1,fun i hi hc=>by rw [h2.2 i (Nat.lt_of_lt_of_le hi h1.1) hc,h1.2 i hi hc]⟩
theorem Chg.app (c:Nat) (h x:Hp):Chg c h (h ++ x):=⟨by simp,fun i hi _=>List.getElem?_append_left hi⟩
theorem Chg.set (c:Nat) (h:Hp) (x:ABlk):Chg c h (h.set c x):=⟨by simp,fun i _ hc=>by rw [List.getElem?_set,if_neg (fun e=>hc e.symm)]⟩
theorem Chg.get {c b:Nat} {h h':Hp} {x:ABlk} (hc:Chg c h h') (hb:h[b]? = some x) (hne:b≠c):h'[b]? = some x:=by
 rw [hc.2 b (CS hb) hne]; exact hb
theorem Chg.above {c:Nat} {h h':Hp} (hc:Chg c h h') (hl:h.length≤c) : ∃ x,h'=h ++ x:=by
 refine ⟨h'.drop h.length,?_⟩
 have:h'.take h.length=h:=by
  refine List.ext_getElem? fun i => ?_
  rcases jV i h.length with hi | hi
  ·rw [List.getElem?_take_of_lt hi,hc.2 i hi (by omega)]
  ·rw [zM (by rw [qG]; omega),zM hi]
 conv=>lhs; rw [← qY h.length h',this]
def run (upd:Ex→Int→Int) (cont:Int→Bool):List Ex→Int→Int × Bool
 | [],z=>(z,true)
 | e :: es,z=>if cont (upd e z) then run upd cont es (upd e z) else (upd e z,false)
theorem run_go {upd:Ex→Int→Int} {cont:Int→Bool} : ∀ {xs:List Ex} (ys:List Ex) {z z':Int},run upd cont xs z=(z',true)→run upd cont (xs ++ ys) z=run upd cont ys z'
 | [],ys,z,z',h=>by cases h; rfl
 | x :: xs,ys,z,z',h=>by
   simp only [run,zV] at h ⊢
   split at h
   ·rename_i hc; rw [if_pos hc]; exact run_go ys h
   ·cases h
theorem run_stop {upd:Ex→Int→Int} {cont:Int→Bool} : ∀ {xs:List Ex} (ys:List Ex) {z z':Int},run upd cont xs z=(z',false)→run upd cont (xs ++ ys) z=(z',false)
 | [],ys,z,z',h=>by cases h
 | x :: xs,ys,z,z',h=>by
   simp only [run,zV] at h ⊢
   split at h
   ·rename_i hc; rw [if_pos hc]; exact run_stop ys h
   ·rename_i hc; rw [if_neg hc]; exact h
theorem KH (xs:List Ex) (j:Nat) (hj:j < xs.length):IZ (xs.take (j+1))=IZ (xs.take j) ++ pre xs[j]:=by
 rw [List.take_succ_eq_append_getElem hj,ML]; simp [IZ]
theorem ND {a:Ex} : ∀ {xs:List Ex},a∈xs→∀ x∈pre a,x∈IZ xs
 | [],h,_,_=>by cases h
 | y :: ys,h,x,hx=>by
   simp only [IZ,List.mem_append]
   cases List.mem_cons.1 h with
   | inl e=>subst e; exact .inl hx
   | inr e=>exact .inr (ND e x hx)
def AM8 (G:Nat→AV) (k:FuncId) (upd:Ex→Int→Int) (cont:Int→Bool) (e:Ex):Prop :=
 ∀ (h:Hp) (c:Nat) (z:Int),h[c]? = some (.live 1 [[.int .i64 z]])→ACalls (En G) k [.agg (CW e),.ptr c 0 0] h fun v h'=>v = .bool (cont (upd e z))∧Chg c h h'∧h'[c]? = some (.live 1 [[.int .i64 (upd e z)]])
theorem AON (G:Nat→AV) (k:FuncId) (upd:Ex→Int→Int) (cont:Int→Bool) (c vb db:Nat) (hv:vb≠c) (hd:db≠c) (e:Ex) :
  wt e≤1099511627776→(∀ x∈pre e,AM8 G k upd cont x)→∀ (h:Hp) (z:Int),h[c]? = some (.live 1 [[.int .i64 z]])→h[vb]? = some (.live 1 [[.fn (.func k) [] [.ptr c 0 0]]]) →
   h[db]? = some (.live 1 [[.fn (.func 130) [] [.ptr vb 0 0,.ptr db 0 0]]]) →
   ACalls (En G) 130 [.agg (CW e),.ptr vb 0 0,.ptr db 0 0] h fun v h'=>v = .bool (run upd cont (pre e) z).2∧Chg c h h'∧h'[c]? = some (.live 1 [[.int .i64 (run upd cont (pre e) z).1]]):=by
 induction e using Ex.induct with | h e ih => ?_
 intro hw hvis h z hc hvb hdb
 have hcl:=CS hc
 have hal:e.args.length≤1099511627776:=by have:=WB e.args; have:=PX e; omega
 refine acN Tryz.func130 rfl ?_
 show awp _ _ _ _ _ (EN _ [.tmp 4] _)
 simp -implicitDefEqProofs only [BB,A8,A7,AZ,BA,AO,AQ,AL,BD,AY,AC,AA,AX,AU,BM,BC,FQ,BO,BV,BP,CB,AB,BF,BQ,jF,jD,zJ,zV,↓reduceIte,jA,jB,jC,enP,bxE,I8 AE2 (DC hvb),ldE]
 refine (hvis e (by rw [pre_eq]; simp) _ c z (DC hc)).mono ?_
 rintro v h1 ⟨rfl,hch,hc1⟩
 have hch0:=(Chg.app c h _).trans hch
 have hb3:h1[h.length]? = some (.live 4 [CW e]):=hch.get (DF _ _) (by omega)
 have hrun:run upd cont (pre e) z=if cont (upd e z) then run upd cont (IZ e.args) (upd e z) else (upd e z,false):=by rw [pre_eq]; rfl
 simp -implicitDefEqProofs only [BI,A7,AZ,BA,AO,AQ,AL,BD,AY,AC,AA,AX,JG,AB,GG,↓reduceIte,jB,jC]
 cases hct:cont (upd e z)
 ·simp -implicitDefEqProofs only [BB,A8,BK,A7,CJ,CV,DI,AZ,BA,AO,AQ,AL,BD,AY,AC,AA,AU,BM,BC,↓reduceIte,jB,jC]
  rw [hrun,hct]
  exact ⟨rfl,hch0,hc1⟩
 rw [hct,if_pos rfl] at hrun
 have hvb1:=hch0.get hvb hv
 have hdb1:=hch0.get hdb hd
 have l3:DR Tryz.prog h1 23 (.ptr h.length 0 3)=some (.sl e.m 4 (e.args.map CW)):=by rw [DJ NM hb3 (row:=CW e) rfl,NE]
 simp -implicitDefEqProofs only [BB,CE,A8,BR,A7,DN,AZ,BA,AO,AQ,AL,BD,AY,AC,AA,AX,AU,BH,BJ,BO,BG,FP,AB,↓reduceIte,jA,jG,jB,jW,jC,enP,TD,IJ,l3,jR]
 refine EG (fun n F H => ∃ j z',n+j=e.args.length∧F 1 = .ptr vb 0 0∧F 2 = .ptr db 0 0∧F 12 = .sl e.m 4 (e.args.map CW)∧F 13 = .int .i64 e.args.length∧F 14 = .int .i64 (j:Nat)∧Chg c h H∧H[c]? = some (.live 1 [[.int .i64 z']])∧run upd cont (IZ (e.args.take j)) (upd e z)=(z',true)) e.args.length ⟨0,upd e z,by simp,by simp -implicitDefEqProofs only [AA,BF,BQ,↓reduceIte,jA],by simp -implicitDefEqProofs only [AA,BF,BQ,↓reduceIte,jA],by simp -implicitDefEqProofs only [AA,↓reduceIte,jA],by simp -implicitDefEqProofs only [AA,↓reduceIte,jA],by simp -implicitDefEqProofs only [AA,↓reduceIte]; rfl,hch0,hc1,rfl⟩ ?_
 rintro n F H ⟨j,z',hj,f1,f2,f12,f13,f14,hC,hcz,hr⟩
 simp -implicitDefEqProofs only [BB,A8,BI,A7,AZ,BA,AO,AQ,AL,BD,AY,AC,AA,AX,BU,AB,DV,↓reduceIte,jB,jC,enP,f13,f14]
 refine CQ (fun hlt => ?_) (fun hlt => ?_)
 ·have hj':j < e.args.length:=by simpa using hlt
  have hdH:H[db]? = some (.live 1 [[.fn (.func 130) [] [.ptr vb 0 0,.ptr db 0 0]]]):=hC.get hdb hd
  have hvH:H[vb]? = some (.live 1 [[.fn (.func k) [] [.ptr c 0 0]]]):=hC.get hvb hv
  simp -implicitDefEqProofs only [BB,CE,A8,BR,A7,AZ,BA,AO,AQ,AL,BD,AY,AC,DU,AA,AX,EZ,BO,CU,CG,BV,BP,CB,AB,BZ,jF,jD,zJ,zV,↓reduceIte,jA,jB,jC,enP,LQ,jK,f12,f14,EX hj',EU KJ JR ES hj',AI9,AJQ _ _ [.int .i64 0,.int .i64 0,.str ⟨#[]⟩,.sl .nil 0 []] rfl,f2,I8 AE2 (DC hdH),ldE]
  have hmem:e.args[j]∈e.args:=List.getElem_mem hj'
  refine (ih e.args[j] hmem (by have:=WA hmem; have:=PX e; omega) (fun x hx=>hvis x (by rw [pre_eq]; exact List.mem_cons_of_mem _ (ND hmem x hx))) _ z' (DC hcz) (DC hvH) (DC hdH)).mono ?_
  rintro v h2 ⟨rfl,hch2,hc2⟩
  have hC2:=hC.trans ((Chg.app c H _).trans hch2)
  have hsplit:IZ e.args=IZ (e.args.take j) ++ (pre e.args[j] ++ IZ (e.args.drop (j+1))):=by
   rw [← List.append_assoc,← KH _ _ hj',← ML,qY]
  simp -implicitDefEqProofs only [BI,A7,AZ,BA,AO,AQ,AL,BD,AY,AC,AA,AX,JG,AB,GG,↓reduceIte,jB,jC]
  rcases hrr:run upd cont (pre e.args[j]) z' with ⟨z2,b2⟩
  rw [hrr] at hc2
  cases b2
  ·simp -implicitDefEqProofs only [BB,A8,BK,A7,CJ,D8,F9,CV,DI,AZ,BA,AO,AQ,AL,BD,AY,AC,AA,AU,BM,BC,↓reduceIte,jB,jC]
   have:run upd cont (pre e) z=(z2,false):=by rw [hrun,hsplit,run_go _ hr]; exact run_stop _ hrr
   rw [this]
   exact ⟨rfl,hC2,hc2⟩
  ·simp -implicitDefEqProofs only [A8,BR,A7,EO,FO,DN,AZ,BA,AO,AQ,AL,BD,AY,AC,AA,AX,AU,BH,BJ,BU,AB,D6,↓reduceIte,jA,jB,jW,jC,enP,f1,f2,f12,f13,f14,wrap_succ (show j < 9223372036854775807 by omega)]
   refine ⟨n - 1,by omega,j+1,z2,by omega,trivial,trivial,trivial,trivial,rfl,hC2,hc2,?_⟩
   rw [KH _ _ hj',run_go _ hr]; exact hrr
 ·have hj' : ¬ j < e.args.length:=by simpa using hlt
  simp -implicitDefEqProofs only [BB,A8,BK,EF,A7,FC,F6,F8,CV,AZ,BA,AO,AQ,AL,BD,AY,AC,AA,AU,BM,BC,↓reduceIte,jB,jC]
  rw [List.take_of_length_le (by omega)] at hr
  rw [hrun,hr]
  exact ⟨rfl,hC,hcz⟩
theorem AD2 (G:Nat→AV) (k:FuncId) (upd:Ex→Int→Int) (cont:Int→Bool) (c:Nat) (e:Ex) (hw:wt e≤1099511627776) (hvis : ∀ x∈pre e,AM8 G k upd cont x) (h:Hp) (z:Int) (hc:h[c]? = some (.live 1 [[.int .i64 z]])) :
  ACalls (En G) 87 [.agg (CW e),.fn (.func k) [] [.ptr c 0 0]] h fun _ h'=>Chg c h h'∧h'[c]? = some (.live 1 [[.int .i64 (run upd cont (pre e) z).1]]):=by
 have hcl:=CS hc
 refine acN Tryz.func87 rfl ?_
 show awp _ _ _ _ _ (EN _ [] _)
 simp -implicitDefEqProofs only [BB,A8,A7,AZ,BA,AO,AQ,AL,BD,AY,AC,AA,AX,EZ,FQ,CU,JQ,CB,BF,BQ,jF,jD,↓reduceIte,jA,jB,jC,enP,jK,bxE,A3F,AWO]
 have g0:(h ++ [ABlk.live 4 [CW e]] ++ [ABlk.live 1 [[AV.fn (.func k) [] [.ptr c 0 0]]]] ++ [ABlk.live 1 [[AV.nilfn]]])[(h ++ [ABlk.live 4 [CW e]] ++ [ABlk.live 1 [[AV.fn (.func k) [] [.ptr c 0 0]]]]).length]? = some (.live 1 [[.nilfn]]):=DF _ _
 simp -implicitDefEqProofs only [A8,A7,AZ,BA,AO,AQ,AL,BD,AY,DU,AA,AX,BO,BZ,↓reduceIte,jA,jB,jC,enP,UI AV4 (AWQ _ _ _) g0]
 generalize hdb:(h ++ [ABlk.live 4 [CW e]] ++ [ABlk.live 1 [[AV.fn (.func k) [] [.ptr c 0 0]]]]).length=db at g0 ⊢
 generalize hvb:(h ++ [ABlk.live 4 [CW e]]).length=vb
 have hvl:vb=h.length+1:=by rw [← hvb]; simp
 have hdl:db=h.length+2:=by rw [← hdb]; simp
 generalize hH:(h ++ [ABlk.live 4 [CW e]] ++ [ABlk.live 1 [[AV.fn (.func k) [] [.ptr c 0 0]]]] ++ [ABlk.live 1 [[AV.nilfn]]]).set db (.live 1 [[AV.fn (.func 130) [] [.ptr vb 0 0,.ptr db 0 0]]])=H
 have h1:H[db]? = some (.live 1 [[.fn (.func 130) [] [.ptr vb 0 0,.ptr db 0 0]]]):=by rw [← hH]; exact G7 g0
 have h2:H[vb]? = some (.live 1 [[.fn (.func k) [] [.ptr c 0 0]]]):=by
  rw [← hH]; refine MO ?_ (by omega)
  rw [← hvb]; exact DC (DF _ _)
 have h3:H[h.length]? = some (.live 4 [CW e]):=by
  rw [← hH]; refine MO ?_ (by omega)
  exact DC (DC (DF _ _))
 have h4:H[c]? = some (.live 1 [[.int .i64 z]]):=by
  rw [← hH]; refine MO ?_ (by omega)
  exact DC (DC (DC hc))
 have hC:Chg c h H:=by
  refine ⟨by rw [← hH]; simp,fun b hb hbc => ?_⟩
  obtain ⟨x,hx⟩ : ∃ x,h[b]? = some x:=⟨_,jU hb⟩
  rw [← hH,hx]
  exact MO (DC (DC (DC hx))) (by omega)
 simp -implicitDefEqProofs only [AZ,AO,AQ,AL,BD,AY,AC,AA,AX,BO,BV,BP,AB,jF,jD,zJ,zV,↓reduceIte,jA,jB,jC,enP,I8 AE2 h1,G6 h3]
 refine (AON G k upd cont c vb db (by omega) (by omega) e hw hvis H z h4 h2 h1).mono ?_
 rintro v h' ⟨rfl,hch,hc1⟩
 simp -implicitDefEqProofs only [G9,BA,AC]
 exact ⟨hC.trans hch,hc1⟩
end Go.Proofs.YtokehnfjjmpanaaGreatDoor.Cov
