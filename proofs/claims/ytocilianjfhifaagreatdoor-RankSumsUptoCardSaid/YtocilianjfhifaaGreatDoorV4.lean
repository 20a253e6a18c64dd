/- Part 4 of the proof (Ft, B1, B2, B3, B4, B5, B6, B7, E1, E2, E3); no condition. -/
import Derived.Test.YtocilianjfhifaaGreatDoorProg
import Derived.KernelRfl
import Derived.Laws.RangeAny
import Derived.Shelf.Strings.Cut
import Derived.Lib.IndexMore
import Derived.Test.YtocilianjfhifaaGreatDoorV3
set_option linter.unusedVariables false
/- Part of the proof; no condition. -/
/- The facts of the program's types, as the equations use them; no condition. -/
namespace Go.Proofs.YtocilianjfhifaaGreatDoor.Sm
open Go
theorem sz3:szO Tryz.prog 3=some 1:=by kernel_rfl
theorem ag3:KJ Tryz.prog 3=some false:=by kernel_rfl
theorem sz4:szO Tryz.prog 4=some 1:=by kernel_rfl
theorem ag4:KJ Tryz.prog 4=some false:=by kernel_rfl
theorem sz9:szO Tryz.prog 9=some 1:=by kernel_rfl
theorem ag9:KJ Tryz.prog 9=some false:=by kernel_rfl
theorem VN:KJ Tryz.prog 22=some false:=by kernel_rfl
theorem YV:KJ Tryz.prog 23=some false:=by kernel_rfl
theorem AS7:szO Tryz.prog 25=some 2:=by kernel_rfl
theorem AX8:KJ Tryz.prog 25=some true:=by kernel_rfl
theorem AP4:szO Tryz.prog 26=some 1:=by kernel_rfl
theorem SH:KJ Tryz.prog 26=some false:=by kernel_rfl
theorem TS:szO Tryz.prog 28=some 4:=by kernel_rfl
theorem ACR:KJ Tryz.prog 28=some true:=by kernel_rfl
theorem A1A:KJ Tryz.prog 37=some false:=by kernel_rfl
theorem AWY:szO Tryz.prog 38=some 1:=by kernel_rfl
theorem ASO:KJ Tryz.prog 38=some false:=by kernel_rfl
theorem AP3:szO Tryz.prog 47=some 1:=by kernel_rfl
theorem AZZ:KJ Tryz.prog 47=some true:=by kernel_rfl
theorem APL:KJ Tryz.prog 51=some false:=by kernel_rfl
theorem AC4:szO Tryz.prog 53=some 4:=by kernel_rfl
theorem AJK:KJ Tryz.prog 53=some true:=by kernel_rfl
theorem PO:KJ Tryz.prog 54=some false:=by kernel_rfl
theorem ZM:szO Tryz.prog 56=some 6:=by kernel_rfl
theorem AGM:KJ Tryz.prog 56=some true:=by kernel_rfl
theorem AC3:szO Tryz.prog 57=some 1:=by kernel_rfl
theorem LC:KJ Tryz.prog 57=some false:=by kernel_rfl
theorem X7:szO Tryz.prog 71=some 3:=by kernel_rfl
theorem ACQ:KJ Tryz.prog 71=some true:=by kernel_rfl
theorem A0D:szO Tryz.prog 75=some 3:=by kernel_rfl
theorem A09:KJ Tryz.prog 75=some true:=by kernel_rfl
theorem VO:szO Tryz.prog 106=some 3:=by kernel_rfl
theorem AJL:KJ Tryz.prog 106=some true:=by kernel_rfl
theorem Y6:szO Tryz.prog 108=some 4:=by kernel_rfl
theorem ASR:KJ Tryz.prog 108=some true:=by kernel_rfl
theorem ADW:szO Tryz.prog 112=some 4:=by kernel_rfl
theorem AWR:KJ Tryz.prog 112=some true:=by kernel_rfl
theorem AVV:szO Tryz.prog 118=some 1:=by kernel_rfl
theorem Q5:KJ Tryz.prog 118=some false:=by kernel_rfl
theorem SI:KJ Tryz.prog 119=some false:=by kernel_rfl
theorem UB:szO Tryz.prog 121=some 4:=by kernel_rfl
theorem ZI:KJ Tryz.prog 121=some true:=by kernel_rfl
theorem AZ2:KJ Tryz.prog 143=some false:=by kernel_rfl
theorem AP7:szO Tryz.prog 146=some 1:=by kernel_rfl
theorem V3:KJ Tryz.prog 146=some false:=by kernel_rfl
theorem AP6:szO Tryz.prog 158=some 2:=by kernel_rfl
theorem AZ1:KJ Tryz.prog 158=some true:=by kernel_rfl
theorem AVU:szO Tryz.prog 179=some 1:=by kernel_rfl
theorem ASQ:KJ Tryz.prog 179=some false:=by kernel_rfl
theorem AP5:szO Tryz.prog 185=some 2:=by kernel_rfl
theorem AZ0:KJ Tryz.prog 185=some true:=by kernel_rfl
theorem be4 : ∀ p q,MJ Tryz.prog 4 .eql (.bool p) (.bool q)=some (.bool (p == q)):=fun p q=>ASE Tryz.prog 4 p q (by kernel_rfl)
theorem ln9 : ∀ s,JZ Tryz.prog 9 (.str s)=some (.int .i64 s.size):=AUA (by kernel_rfl:Tryz.prog.underlying 9=some .string)
theorem OJ : ∀ h a i,GK Tryz.prog h 22 a i=LX 6 h a i:=IC (by kernel_rfl:Tryz.prog.underlying 22=some (.slice 56)) ZM
theorem QE:(∀ m k xs,JZ Tryz.prog 22 (.sl m k xs)=some (.int .i64 xs.length))∧∀ b off len,JZ Tryz.prog 22 (.own b off len)=some (.int .i64 len):=NR (by kernel_rfl:Tryz.prog.underlying 22=some (.slice 56))
theorem RF : ∀ h a i,GK Tryz.prog h 23 a i=LX 3 h a i:=IC (by kernel_rfl:Tryz.prog.underlying 23=some (.slice 71)) X7
theorem TB:(∀ m k xs,JZ Tryz.prog 23 (.sl m k xs)=some (.int .i64 xs.length))∧∀ b off len,JZ Tryz.prog 23 (.own b off len)=some (.int .i64 len):=NR (by kernel_rfl:Tryz.prog.underlying 23=some (.slice 71))
theorem IG:(∀ b i j,DK Tryz.prog 25 (.ptr b i j) 0=some (.ptr b i (j+0)))∧(∀ k xs i j,DK Tryz.prog 25 (.fptr k xs i j) 0=some (.fptr k xs i (j+0))):=JO (by kernel_rfl:LQ Tryz.prog 25 0 0=true)
theorem IX:(∀ b i j,DK Tryz.prog 25 (.ptr b i j) 1=some (.ptr b i (j+1)))∧(∀ k xs i j,DK Tryz.prog 25 (.fptr k xs i j) 1=some (.fptr k xs i (j+1))):=JO (by kernel_rfl:LQ Tryz.prog 25 1 1=true)
theorem QT : ∀ h a i,GK Tryz.prog h 26 a i=LX 1 h a i:=IC (by kernel_rfl:Tryz.prog.underlying 26=some (.slice 57)) AC3
theorem YF:(∀ m k xs,JZ Tryz.prog 26 (.sl m k xs)=some (.int .i64 xs.length))∧∀ b off len,JZ Tryz.prog 26 (.own b off len)=some (.int .i64 len):=NR (by kernel_rfl:Tryz.prog.underlying 26=some (.slice 57))
theorem AGZ:Tryz.prog.underlying 26=some (.slice 57):=by kernel_rfl
theorem AJU:QQ Tryz.prog 57=some 1:=by kernel_rfl
theorem AJB:LD Tryz.prog 57=some 24:=by kernel_rfl
theorem OY:(∀ b i j,DK Tryz.prog 28 (.ptr b i j) 0=some (.ptr b i (j+0)))∧(∀ k xs i j,DK Tryz.prog 28 (.fptr k xs i j) 0=some (.fptr k xs i (j+0))):=JO (by kernel_rfl:LQ Tryz.prog 28 0 0=true)
theorem NS:(∀ b i j,DK Tryz.prog 28 (.ptr b i j) 1=some (.ptr b i (j+1)))∧(∀ k xs i j,DK Tryz.prog 28 (.fptr k xs i j) 1=some (.fptr k xs i (j+1))):=JO (by kernel_rfl:LQ Tryz.prog 28 1 1=true)
theorem YL:(∀ b i j,DK Tryz.prog 28 (.ptr b i j) 2=some (.ptr b i (j+2)))∧(∀ k xs i j,DK Tryz.prog 28 (.fptr k xs i j) 2=some (.fptr k xs i (j+2))):=JO (by kernel_rfl:LQ Tryz.prog 28 2 2=true)
theorem AB3:(∀ b i j,DK Tryz.prog 28 (.ptr b i j) 3=some (.ptr b i (j+3)))∧(∀ k xs i j,DK Tryz.prog 28 (.fptr k xs i j) 3=some (.fptr k xs i (j+3))):=JO (by kernel_rfl:LQ Tryz.prog 28 3 3=true)
theorem AXJ : ∀ h a i,GK Tryz.prog h 32 a i=LX 3 h a i:=IC (by kernel_rfl:Tryz.prog.underlying 32=some (.slice 106)) VO
theorem AT9:(∀ m k xs,JZ Tryz.prog 32 (.sl m k xs)=some (.int .i64 xs.length))∧∀ b off len,JZ Tryz.prog 32 (.own b off len)=some (.int .i64 len):=NR (by kernel_rfl:Tryz.prog.underlying 32=some (.slice 106))
theorem AWW:Tryz.prog.underlying 32=some (.slice 106):=by kernel_rfl
theorem AYH:QQ Tryz.prog 106=some 3:=by kernel_rfl
theorem A01:LD Tryz.prog 106=some 40:=by kernel_rfl
theorem AFR : ∀ h a i,GK Tryz.prog h 37 a i=LX 4 h a i:=IC (by kernel_rfl:Tryz.prog.underlying 37=some (.slice 28)) TS
theorem TU:(∀ m k xs,JZ Tryz.prog 37 (.sl m k xs)=some (.int .i64 xs.length))∧∀ b off len,JZ Tryz.prog 37 (.own b off len)=some (.int .i64 len):=NR (by kernel_rfl:Tryz.prog.underlying 37=some (.slice 28))
theorem AYK:Tryz.prog.underlying 37=some (.slice 28):=by kernel_rfl
theorem AYG:QQ Tryz.prog 28=some 4:=by kernel_rfl
theorem AZD:LD Tryz.prog 28=some 64:=by kernel_rfl
theorem ARN:(∀ b i j,DK Tryz.prog 47 (.ptr b i j) 0=some (.ptr b i (j+0)))∧(∀ k xs i j,DK Tryz.prog 47 (.fptr k xs i j) 0=some (.fptr k xs i (j+0))):=JO (by kernel_rfl:LQ Tryz.prog 47 0 0=true)
theorem AUH : ∀ h a i,GK Tryz.prog h 51 a i=LX 4 h a i:=IC (by kernel_rfl:Tryz.prog.underlying 51=some (.slice 53)) AC4
theorem AKN:(∀ m k xs,JZ Tryz.prog 51 (.sl m k xs)=some (.int .i64 xs.length))∧∀ b off len,JZ Tryz.prog 51 (.own b off len)=some (.int .i64 len):=NR (by kernel_rfl:Tryz.prog.underlying 51=some (.slice 53))
theorem JR:(∀ b i j,DK Tryz.prog 53 (.ptr b i j) 0=some (.ptr b i (j+0)))∧(∀ k xs i j,DK Tryz.prog 53 (.fptr k xs i j) 0=some (.fptr k xs i (j+0))):=JO (by kernel_rfl:LQ Tryz.prog 53 0 0=true)
theorem AF4:(∀ b i j,DK Tryz.prog 53 (.ptr b i j) 1=some (.ptr b i (j+1)))∧(∀ k xs i j,DK Tryz.prog 53 (.fptr k xs i j) 1=some (.fptr k xs i (j+1))):=JO (by kernel_rfl:LQ Tryz.prog 53 1 1=true)
theorem QJ:(∀ b i j,DK Tryz.prog 53 (.ptr b i j) 2=some (.ptr b i (j+2)))∧(∀ k xs i j,DK Tryz.prog 53 (.fptr k xs i j) 2=some (.fptr k xs i (j+2))):=JO (by kernel_rfl:LQ Tryz.prog 53 2 2=true)
theorem TF:(∀ b i j,DK Tryz.prog 53 (.ptr b i j) 3=some (.ptr b i (j+3)))∧(∀ k xs i j,DK Tryz.prog 53 (.fptr k xs i j) 3=some (.fptr k xs i (j+3))):=JO (by kernel_rfl:LQ Tryz.prog 53 3 3=true)
theorem XD : ∀ h a i,GK Tryz.prog h 54 a i=LX 4 h a i:=IC (by kernel_rfl:Tryz.prog.underlying 54=some (.slice 121)) UB
theorem QS:(∀ m k xs,JZ Tryz.prog 54 (.sl m k xs)=some (.int .i64 xs.length))∧∀ b off len,JZ Tryz.prog 54 (.own b off len)=some (.int .i64 len):=NR (by kernel_rfl:Tryz.prog.underlying 54=some (.slice 121))
theorem A0C:Tryz.prog.underlying 54=some (.slice 121):=by kernel_rfl
theorem AYF:QQ Tryz.prog 121=some 4:=by kernel_rfl
theorem AZC:LD Tryz.prog 121=some 72:=by kernel_rfl
theorem AF3:(∀ b i j,DK Tryz.prog 56 (.ptr b i j) 0=some (.ptr b i (j+0)))∧(∀ k xs i j,DK Tryz.prog 56 (.fptr k xs i j) 0=some (.fptr k xs i (j+0))):=JO (by kernel_rfl:LQ Tryz.prog 56 0 0=true)
theorem AF2:(∀ b i j,DK Tryz.prog 56 (.ptr b i j) 1=some (.ptr b i (j+1)))∧(∀ k xs i j,DK Tryz.prog 56 (.fptr k xs i j) 1=some (.fptr k xs i (j+1))):=JO (by kernel_rfl:LQ Tryz.prog 56 1 1=true)
theorem IU:(∀ b i j,DK Tryz.prog 56 (.ptr b i j) 2=some (.ptr b i (j+5)))∧(∀ k xs i j,DK Tryz.prog 56 (.fptr k xs i j) 2=some (.fptr k xs i (j+5))):=JO (by kernel_rfl:LQ Tryz.prog 56 2 5=true)
theorem JQ : ∀ h a i,GK Tryz.prog h 57 a i=LX 1 h a i:=IC (by kernel_rfl:Tryz.prog.underlying 57=some (.slice 3)) sz3
theorem IL:(∀ m k xs,JZ Tryz.prog 57 (.sl m k xs)=some (.int .i64 xs.length))∧∀ b off len,JZ Tryz.prog 57 (.own b off len)=some (.int .i64 len):=NR (by kernel_rfl:Tryz.prog.underlying 57=some (.slice 3))
theorem QB:Tryz.prog.underlying 57=some (.slice 3):=by kernel_rfl
theorem X6:QQ Tryz.prog 3=some 1:=by kernel_rfl
theorem WN:LD Tryz.prog 3=some 8:=by kernel_rfl
theorem AF1:(∀ b i j,DK Tryz.prog 71 (.ptr b i j) 0=some (.ptr b i (j+0)))∧(∀ k xs i j,DK Tryz.prog 71 (.fptr k xs i j) 0=some (.fptr k xs i (j+0))):=JO (by kernel_rfl:LQ Tryz.prog 71 0 0=true)
theorem JJ:(∀ b i j,DK Tryz.prog 71 (.ptr b i j) 1=some (.ptr b i (j+1)))∧(∀ k xs i j,DK Tryz.prog 71 (.fptr k xs i j) 1=some (.fptr k xs i (j+1))):=JO (by kernel_rfl:LQ Tryz.prog 71 1 1=true)
theorem PM:(∀ b i j,DK Tryz.prog 71 (.ptr b i j) 2=some (.ptr b i (j+2)))∧(∀ k xs i j,DK Tryz.prog 71 (.fptr k xs i j) 2=some (.fptr k xs i (j+2))):=JO (by kernel_rfl:LQ Tryz.prog 71 2 2=true)
theorem OC:(∀ b i j,DK Tryz.prog 75 (.ptr b i j) 0=some (.ptr b i (j+0)))∧(∀ k xs i j,DK Tryz.prog 75 (.fptr k xs i j) 0=some (.fptr k xs i (j+0))):=JO (by kernel_rfl:LQ Tryz.prog 75 0 0=true)
theorem ND:(∀ b i j,DK Tryz.prog 75 (.ptr b i j) 1=some (.ptr b i (j+2)))∧(∀ k xs i j,DK Tryz.prog 75 (.fptr k xs i j) 1=some (.fptr k xs i (j+2))):=JO (by kernel_rfl:LQ Tryz.prog 75 1 2=true)
theorem AV6 : ∀ h a i,GK Tryz.prog h 101 a i=LX 4 h a i:=IC (by kernel_rfl:Tryz.prog.underlying 101=some (.slice 108)) Y6
theorem AV2:(∀ m k xs,JZ Tryz.prog 101 (.sl m k xs)=some (.int .i64 xs.length))∧∀ b off len,JZ Tryz.prog 101 (.own b off len)=some (.int .i64 len):=NR (by kernel_rfl:Tryz.prog.underlying 101=some (.slice 108))
theorem AP1:Tryz.prog.underlying 101=some (.slice 108):=by kernel_rfl
theorem APU:QQ Tryz.prog 108=some 4:=by kernel_rfl
theorem AWK:LD Tryz.prog 108=some 48:=by kernel_rfl
theorem AV5 : ∀ h a i,GK Tryz.prog h 103 a i=LX 4 h a i:=IC (by kernel_rfl:Tryz.prog.underlying 103=some (.slice 112)) ADW
theorem AYW:(∀ m k xs,JZ Tryz.prog 103 (.sl m k xs)=some (.int .i64 xs.length))∧∀ b off len,JZ Tryz.prog 103 (.own b off len)=some (.int .i64 len):=NR (by kernel_rfl:Tryz.prog.underlying 103=some (.slice 112))
theorem AP0:Tryz.prog.underlying 103=some (.slice 112):=by kernel_rfl
theorem APT:QQ Tryz.prog 112=some 4:=by kernel_rfl
theorem AWJ:LD Tryz.prog 112=some 48:=by kernel_rfl
theorem AAI:(∀ b i j,DK Tryz.prog 106 (.ptr b i j) 0=some (.ptr b i (j+0)))∧(∀ k xs i j,DK Tryz.prog 106 (.fptr k xs i j) 0=some (.fptr k xs i (j+0))):=JO (by kernel_rfl:LQ Tryz.prog 106 0 0=true)
theorem XN:(∀ b i j,DK Tryz.prog 106 (.ptr b i j) 1=some (.ptr b i (j+1)))∧(∀ k xs i j,DK Tryz.prog 106 (.fptr k xs i j) 1=some (.fptr k xs i (j+1))):=JO (by kernel_rfl:LQ Tryz.prog 106 1 1=true)
theorem AUO:(∀ b i j,DK Tryz.prog 106 (.ptr b i j) 2=some (.ptr b i (j+2)))∧(∀ k xs i j,DK Tryz.prog 106 (.fptr k xs i j) 2=some (.fptr k xs i (j+2))):=JO (by kernel_rfl:LQ Tryz.prog 106 2 2=true)
theorem AAH:(∀ b i j,DK Tryz.prog 108 (.ptr b i j) 0=some (.ptr b i (j+0)))∧(∀ k xs i j,DK Tryz.prog 108 (.fptr k xs i j) 0=some (.fptr k xs i (j+0))):=JO (by kernel_rfl:LQ Tryz.prog 108 0 0=true)
theorem AM2:(∀ b i j,DK Tryz.prog 108 (.ptr b i j) 1=some (.ptr b i (j+3)))∧(∀ k xs i j,DK Tryz.prog 108 (.fptr k xs i j) 1=some (.fptr k xs i (j+3))):=JO (by kernel_rfl:LQ Tryz.prog 108 1 3=true)
theorem AF9:(∀ b i j,DK Tryz.prog 112 (.ptr b i j) 0=some (.ptr b i (j+0)))∧(∀ k xs i j,DK Tryz.prog 112 (.fptr k xs i j) 0=some (.fptr k xs i (j+0))):=JO (by kernel_rfl:LQ Tryz.prog 112 0 0=true)
theorem AM1:(∀ b i j,DK Tryz.prog 112 (.ptr b i j) 1=some (.ptr b i (j+3)))∧(∀ k xs i j,DK Tryz.prog 112 (.fptr k xs i j) 1=some (.fptr k xs i (j+3))):=JO (by kernel_rfl:LQ Tryz.prog 112 1 3=true)
theorem AMQ : ∀ h a i,GK Tryz.prog h 118 a i=LX 2 h a i:=IC (by kernel_rfl:Tryz.prog.underlying 118=some (.slice 185)) AP5
theorem RU:(∀ m k xs,JZ Tryz.prog 118 (.sl m k xs)=some (.int .i64 xs.length))∧∀ b off len,JZ Tryz.prog 118 (.own b off len)=some (.int .i64 len):=NR (by kernel_rfl:Tryz.prog.underlying 118=some (.slice 185))
theorem AH1 : ∀ h a i,GK Tryz.prog h 119 a i=LX 1 h a i:=IC (by kernel_rfl:Tryz.prog.underlying 119=some (.slice 118)) AVV
theorem RS:(∀ m k xs,JZ Tryz.prog 119 (.sl m k xs)=some (.int .i64 xs.length))∧∀ b off len,JZ Tryz.prog 119 (.own b off len)=some (.int .i64 len):=NR (by kernel_rfl:Tryz.prog.underlying 119=some (.slice 118))
theorem AAG:(∀ b i j,DK Tryz.prog 121 (.ptr b i j) 0=some (.ptr b i (j+0)))∧(∀ k xs i j,DK Tryz.prog 121 (.fptr k xs i j) 0=some (.fptr k xs i (j+0))):=JO (by kernel_rfl:LQ Tryz.prog 121 0 0=true)
theorem MK:(∀ b i j,DK Tryz.prog 121 (.ptr b i j) 1=some (.ptr b i (j+1)))∧(∀ k xs i j,DK Tryz.prog 121 (.fptr k xs i j) 1=some (.fptr k xs i (j+1))):=JO (by kernel_rfl:LQ Tryz.prog 121 1 1=true)
theorem QZ:(∀ b i j,DK Tryz.prog 121 (.ptr b i j) 2=some (.ptr b i (j+2)))∧(∀ k xs i j,DK Tryz.prog 121 (.fptr k xs i j) 2=some (.fptr k xs i (j+2))):=JO (by kernel_rfl:LQ Tryz.prog 121 2 2=true)
theorem MW:(∀ b i j,DK Tryz.prog 121 (.ptr b i j) 3=some (.ptr b i (j+3)))∧(∀ k xs i j,DK Tryz.prog 121 (.fptr k xs i j) 3=some (.fptr k xs i (j+3))):=JO (by kernel_rfl:LQ Tryz.prog 121 3 3=true)
theorem XE : ∀ h a i,GK Tryz.prog h 143 a i=LX 1 h a i:=IC (by kernel_rfl:Tryz.prog.underlying 143=some (.slice 146)) AP7
theorem QF:(∀ m k xs,JZ Tryz.prog 143 (.sl m k xs)=some (.int .i64 xs.length))∧∀ b off len,JZ Tryz.prog 143 (.own b off len)=some (.int .i64 len):=NR (by kernel_rfl:Tryz.prog.underlying 143=some (.slice 146))
theorem AVT:Tryz.prog.underlying 143=some (.slice 146):=by kernel_rfl
theorem APS:QQ Tryz.prog 146=some 1:=by kernel_rfl
theorem ASA:LD Tryz.prog 146=some 24:=by kernel_rfl
theorem ABK : ∀ h a i,GK Tryz.prog h 146 a i=LX 1 h a i:=IC (by kernel_rfl:Tryz.prog.underlying 146=some (.slice 4)) sz4
theorem ABG:(∀ m k xs,JZ Tryz.prog 146 (.sl m k xs)=some (.int .i64 xs.length))∧∀ b off len,JZ Tryz.prog 146 (.own b off len)=some (.int .i64 len):=NR (by kernel_rfl:Tryz.prog.underlying 146=some (.slice 4))
theorem ADU:Tryz.prog.underlying 146=some (.slice 4):=by kernel_rfl
theorem AVR:QQ Tryz.prog 4=some 1:=by kernel_rfl
theorem AWI:LD Tryz.prog 4=some 1:=by kernel_rfl
theorem AM0:(∀ b i j,DK Tryz.prog 158 (.ptr b i j) 0=some (.ptr b i (j+0)))∧(∀ k xs i j,DK Tryz.prog 158 (.fptr k xs i j) 0=some (.fptr k xs i (j+0))):=JO (by kernel_rfl:LQ Tryz.prog 158 0 0=true)
theorem AF8:(∀ b i j,DK Tryz.prog 158 (.ptr b i j) 1=some (.ptr b i (j+1)))∧(∀ k xs i j,DK Tryz.prog 158 (.fptr k xs i j) 1=some (.fptr k xs i (j+1))):=JO (by kernel_rfl:LQ Tryz.prog 158 1 1=true)
theorem AQ1 : ∀ h a i,GK Tryz.prog h 179 a i=LX 1 h a i:=IC (by kernel_rfl:Tryz.prog.underlying 179=some (.slice 9)) sz9
theorem AMN:(∀ m k xs,JZ Tryz.prog 179 (.sl m k xs)=some (.int .i64 xs.length))∧∀ b off len,JZ Tryz.prog 179 (.own b off len)=some (.int .i64 len):=NR (by kernel_rfl:Tryz.prog.underlying 179=some (.slice 9))
theorem AVS:Tryz.prog.underlying 179=some (.slice 9):=by kernel_rfl
theorem AVQ:QQ Tryz.prog 9=some 1:=by kernel_rfl
theorem AWH:LD Tryz.prog 9=some 16:=by kernel_rfl
theorem AF7:(∀ b i j,DK Tryz.prog 181 (.ptr b i j) 0=some (.ptr b i (j+0)))∧(∀ k xs i j,DK Tryz.prog 181 (.fptr k xs i j) 0=some (.fptr k xs i (j+0))):=JO (by kernel_rfl:LQ Tryz.prog 181 0 0=true)
theorem AF6:(∀ b i j,DK Tryz.prog 181 (.ptr b i j) 1=some (.ptr b i (j+1)))∧(∀ k xs i j,DK Tryz.prog 181 (.fptr k xs i j) 1=some (.fptr k xs i (j+1))):=JO (by kernel_rfl:LQ Tryz.prog 181 1 1=true)
theorem XM:(∀ b i j,DK Tryz.prog 181 (.ptr b i j) 2=some (.ptr b i (j+2)))∧(∀ k xs i j,DK Tryz.prog 181 (.fptr k xs i j) 2=some (.fptr k xs i (j+2))):=JO (by kernel_rfl:LQ Tryz.prog 181 2 2=true)
theorem AMZ:(∀ b i j,DK Tryz.prog 181 (.ptr b i j) 3=some (.ptr b i (j+3)))∧(∀ k xs i j,DK Tryz.prog 181 (.fptr k xs i j) 3=some (.fptr k xs i (j+3))):=JO (by kernel_rfl:LQ Tryz.prog 181 3 3=true)
theorem AF5:(∀ b i j,DK Tryz.prog 181 (.ptr b i j) 4=some (.ptr b i (j+4)))∧(∀ k xs i j,DK Tryz.prog 181 (.fptr k xs i j) 4=some (.fptr k xs i (j+4))):=JO (by kernel_rfl:LQ Tryz.prog 181 4 4=true)
theorem AAF:(∀ b i j,DK Tryz.prog 185 (.ptr b i j) 0=some (.ptr b i (j+0)))∧(∀ k xs i j,DK Tryz.prog 185 (.fptr k xs i j) 0=some (.fptr k xs i (j+0))):=JO (by kernel_rfl:LQ Tryz.prog 185 0 0=true)
theorem AAE:(∀ b i j,DK Tryz.prog 185 (.ptr b i j) 1=some (.ptr b i (j+1)))∧(∀ k xs i j,DK Tryz.prog 185 (.fptr k xs i j) 1=some (.fptr k xs i (j+1))):=JO (by kernel_rfl:LQ Tryz.prog 185 1 1=true)
theorem AY6 : ∀ n,SK Tryz.prog 3 5 (.int .i64 n)=some (.int .u8 (IntKind.u8.wrap n)):=fun n=>AI3 (ds := .int .i64) Tryz.prog .i64 n (by kernel_rfl) (by kernel_rfl)
theorem AR1 : ∀ n,SK Tryz.prog 5 3 (.int .u8 n)=some (.int .i64 (IntKind.i64.wrap n)):=fun n=>AI3 (ds := .int .u8) Tryz.prog .u8 n (by kernel_rfl) (by kernel_rfl)
noncomputable def En (G:Nat→AV):Env:=⟨Tryz.prog,G⟩
theorem enP (G:Nat→AV):(En G).P=Tryz.prog:=rfl
theorem enG (G:Nat→AV):(En G).G=G:=rfl
theorem enM (G:Nat→AV):(En G).P.follows .mixedOrders=true:=by kernel_rfl
end Go.Proofs.YtocilianjfhifaaGreatDoor.Sm
/- Part of the proof; no condition. -/
namespace Go.Proofs.YtocilianjfhifaaGreatDoor.Bins
open Go Go.Proofs.YtocilianjfhifaaGreatDoor.Sm
structure Rng where
 lo:Int
 hi:Int
 deriving DecidableEq
def encR (r:Rng):List AV := [.int .i64 r.lo,.int .i64 r.hi]
theorem AIU (r:Rng):(encR r).length=2:=rfl
theorem AEL (r:Rng):(encR r)[0]? = some (.int .i64 r.lo):=rfl
theorem AEK (r:Rng):(encR r)[1]? = some (.int .i64 r.hi):=rfl
theorem LV {α:Type} (p:α→Bool) (xs:List α) (k:Nat) (h:k < xs.length):(xs.drop k).any p=(p xs[k] || (xs.drop (k+1)).any p):=by
 rw [List.drop_eq_getElem_cons h,List.any_cons]

end Go.Proofs.YtocilianjfhifaaGreatDoor.Bins
/- Contracts of Same, of the two checks of a list of ranges, of the two common-number tests; no condition. -/
set_option linter.unusedSimpArgs false
set_option maxRecDepth 8000
namespace Go.Proofs.YtocilianjfhifaaGreatDoor.Bins
open Go Go.Proofs.YtocilianjfhifaaGreatDoor.Sm

/-- the error of a list of ranges: 0, 1 or 2 -/
def bad (r:Rng):Bool:=decide (r.lo < 0) || decide (r.lo > r.hi) || decide (r.hi > 65535)
def JB (xs:List Rng):Int:=if xs.length > 64 then 2 else if xs.any bad then 1 else 0

theorem ZA {xs:List Rng} (h:xs.length > 64):JB xs=2:=by simp [JB,h]
theorem UG {xs:List Rng} (h : ¬ xs.length > 64) (hb:xs.any bad=true):JB xs=1:=by simp [JB,h,hb]
theorem V9 {xs:List Rng} (h : ¬ xs.length > 64) (hb:xs.any bad=false):JB xs=0:=by simp [JB,h,hb]

theorem A07 (h:Hp):KD Tryz.prog h 185=some (.ptr h.length 0 0,h ++ [.live 2 [[.int .i64 0,.int .i64 0]]]):=JY (row := [.int .i64 0,.int .i64 0]) (by kernel_rfl)
theorem A0F (h:Hp) (r:Rng) (row:List AV) (hr:row.length=2):GG Tryz.prog (h ++ [.live 2 [row]]) 185 (.ptr h.length 0 0) (.agg (encR r))=some (h ++ [.live 2 [encR r]]):=by
 rw [OU (cs:=encR r) rfl AP5 (by simp [hr,encR])]
 simp [splice,hr,encR]

theorem AHM (G:Nat→AV) (xs:List Rng) (m:SM) (h:Hp) (hl:xs.length≤1099511627776) :
  PCall (En G) 203 [.sl m 2 (xs.map encR)] h (.int .i64 (JB xs)):=by
 refine ACalls.pure0 rfl ?_
 refine CG (H:=Hint.none) (enM G) Tryz.func203 rfl (by kernel_rfl) (by kernel_rfl) (Nat.le_of_ble_eq_true (by kernel_rfl)) ?_
 show awp _ _ _ _ _ (EU _ [.tmp 2] _)
 simp -implicitDefEqProofs only [BB,AZ,BI,A8,AY,BC,AO,AQ,AL,BD,AX,AC,AA,A7,AU,BH,BF,BA,BQ,DN,AB,EW,BG,↓reduceIte,Nat.reduceEqDiff,Option.getD_some,Bool.not_false,enP,RU,List.length_map]
 refine CQ (fun hc => ?_) (fun hc => ?_)
 ·simp -implicitDefEqProofs only [BB,AZ,BM,A8,CS,CU,AY,BC,AO,AQ,AL,BD,AX,AC,AA,AU,BH,BA,↓reduceIte,Option.getD_some,Bool.not_false]
  exact ⟨by rw [ZA (by simp at hc; omega)],[],by simp⟩
 simp -implicitDefEqProofs only [BB,BP,AZ,BN,A8,AY,BC,AO,AQ,AL,BD,AX,AC,AA,A7,AU,BH,BF,DN,AB,BG,↓reduceIte,Nat.reduceEqDiff,Option.getD_some,Bool.not_false,enP,RU,List.length_map]
 have h64 : ¬ xs.length > 64:=by simp at hc; omega
 refine C9 (fun n F H => ∃ k,n+k=xs.length∧F 8 = .sl m 2 (xs.map encR)∧F 9 = .int .i64 xs.length∧F 10 = .int .i64 (k:Nat)∧(∃ x,H=h ++ x)∧xs.any bad=(xs.drop k).any bad) xs.length ⟨0,by simp,rfl,rfl,rfl,⟨[],by simp⟩,rfl⟩ ?_
 rintro n F H ⟨k,hk,f8,f9,f10,⟨x,rfl⟩,hin⟩
 simp -implicitDefEqProofs only [BB,AZ,BI,A8,AY,BC,AO,AQ,AL,BD,AX,AC,AA,A7,BQ,AB,CW,↓reduceIte,Option.getD_some,Bool.not_false,enP,f8,f9,f10]
 refine CQ (fun hc => ?_) (fun hc => ?_)
 ·have hc':k < xs.length:=by simpa using hc
  have hs:=LV bad xs k hc'
  simp -implicitDefEqProofs only [BB,BP,AZ,BN,A8,AY,BC,BK,BU,CO,AO,AQ,AL,BD,AX,AC,EZ,AA,A7,AU,BH,BF,FW,BO,EI,BQ,BJ,BZ,BR,AB,DR,CW,↓reduceIte,Nat.reduceEqDiff,Nat.add_zero,Option.getD_some,Bool.not_false,enP,AMQ,AAF,Option.getD_none,f8,f9,f10,DJ hc',FD AZ0 AP5 AIU hc',A07,A0F _ _ [.int .i64 0,.int .i64 0] rfl,DI ag3,AEL,AEK]
  rw [hs] at hin
  have fin:bad xs[k]=true→JB xs=1:=fun hb=>UG h64 (by rw [hin,hb]; rfl)
  have nxt:bad xs[k]=false→xs.any bad=(xs.drop (k+1)).any bad:=fun hb=>by rw [hin,hb]; rfl
  refine H8 (fun ha => ?_) (fun ha => ?_)
  ·simp -implicitDefEqProofs only [BB,AZ,BM,BI,A8,CS,EG,FM,CU,DX,AY,BC,BK,BU,CO,F5,AO,AQ,AL,BD,AX,AC,AA,EY,A7,AU,BH,BL,BF,BA,CP,DW,↓reduceIte,Nat.reduceEqDiff,Option.getD_some,Bool.not_false,ha]
   exact ⟨by rw [fin (by unfold bad; rw [ha]; rfl)],_,by rw [List.append_assoc]⟩
  simp -implicitDefEqProofs only [AY,BK,BU,CO,EO,AO,AQ,AL,BD,AX,AC,AA,A7,AU,BL,BF,CP,DV,BO,BQ,BJ,AB,EW,↓reduceIte,Nat.reduceEqDiff,Nat.add_zero,Nat.zero_add,Option.getD_some,Bool.not_false,enP,AAF,AAE,ha,DI ag3,AEL,AEK]
  refine H8 (fun hb => ?_) (fun hb => ?_)
  ·simp -implicitDefEqProofs only [BB,AZ,BM,BI,A8,CS,EG,FM,CU,DX,AY,BC,BK,BU,CO,F5,AO,AQ,AL,BD,AX,AC,AA,EY,A7,AU,BH,BL,BA,CP,DW,↓reduceIte,Nat.reduceEqDiff,Option.getD_some,Bool.not_false,hb]
   exact ⟨by rw [fin (by unfold bad; rw [hb]; simp)],_,by rw [List.append_assoc]⟩
  simp -implicitDefEqProofs only [BI,A8,AY,BC,BK,BU,CO,EO,AO,AQ,AL,BD,AX,AC,AA,A7,AU,BH,BL,CP,DV,BO,BQ,BJ,AB,EW,↓reduceIte,Nat.reduceEqDiff,Nat.zero_add,Option.getD_some,Bool.not_false,enP,AAE,hb,DI ag3,AEL,AEK]
  refine CQ (fun hc => ?_) (fun hc => ?_)
  ·simp -implicitDefEqProofs only [BB,AZ,BM,A8,CS,EG,FM,CU,AY,BC,AO,AQ,AL,BD,AX,AC,AA,AU,BH,BA,↓reduceIte,Option.getD_some,Bool.not_false]
   exact ⟨by rw [fin (by unfold bad; rw [hc]; simp)],_,by rw [List.append_assoc]⟩
  ·simp -implicitDefEqProofs only [AZ,BN,A8,D8,ED,AY,BC,AO,AQ,AL,BD,AX,AC,AA,A7,AU,BH,BF,BQ,AB,CZ,↓reduceIte,Nat.reduceEqDiff,Option.getD_some,Bool.not_false,enP,f10,wrap_succ (show k < 9223372036854775807 by omega)]
   exact ⟨n - 1,by omega,k+1,by omega,f8,f9,rfl,⟨_,by rw [List.append_assoc]⟩,nxt (by unfold bad; rw [ha,hb,hc]; rfl)⟩
 ·have hc' : ¬ k < xs.length:=by simpa using hc
  simp -implicitDefEqProofs only [BB,AZ,BM,DC,A8,DZ,EN,EP,CU,AY,BC,AO,AQ,AL,BD,AX,AC,AA,AU,BH,BA,↓reduceIte,Option.getD_some,Bool.not_false]
  rw [List.drop_eq_nil_of_le (by omega)] at hin
  exact ⟨by rw [V9 h64 hin],_,rfl⟩

theorem AJ9 (G:Nat→AV) (xs:List Rng) (m:SM) (h:Hp) :
  PCall (En G) 216 [.sl m 2 (xs.map encR)] h (.int .i64 (JB xs)):=by
 refine CG (H:=Hint.none) (enM G) Tryz.func216 rfl (by kernel_rfl) (by kernel_rfl) (Nat.le_of_ble_eq_true (by kernel_rfl)) ?_
 show awp _ _ _ _ _ (EU _ [.tmp 2] _)
 simp -implicitDefEqProofs only [BB,AZ,BI,A8,AY,BC,AO,AQ,AL,BD,AX,AC,AA,A7,AU,BH,BF,BA,BQ,DN,AB,EW,BG,↓reduceIte,Nat.reduceEqDiff,Option.getD_some,Bool.not_false,enP,RU,List.length_map]
 refine CQ (fun hc => ?_) (fun hc => ?_)
 ·simp -implicitDefEqProofs only [BB,AZ,BM,A8,CS,CU,AY,BC,AO,AQ,AL,BD,AX,AC,AA,AU,BH,BA,↓reduceIte,Option.getD_some,Bool.not_false]
  exact ⟨by rw [ZA (by simp at hc; omega)],trivial⟩
 simp -implicitDefEqProofs only [BB,BP,AZ,BN,A8,AY,BC,AO,AQ,AL,BD,AX,AC,AU,BH,BA,Option.getD_some,Bool.not_false,List.length_map]
 have h64 : ¬ xs.length > 64:=by simp at hc; omega
 refine C9 (fun n F H => ∃ k,n+k=xs.length∧F 0 = .sl m 2 (xs.map encR)∧F 3 = .int .i64 (k:Nat)∧H=h∧xs.any bad=(xs.drop k).any bad) xs.length ⟨0,by simp,rfl,rfl,rfl,rfl⟩ ?_
 rintro n F H ⟨k,hk,f0,f3,rfl,hin⟩
 simp -implicitDefEqProofs only [BB,AZ,BI,A8,AY,BC,AO,AQ,AL,BD,AX,AC,AA,A7,BF,BQ,DN,AB,CW,↓reduceIte,Nat.reduceEqDiff,Option.getD_some,Bool.not_false,enP,RU,f0,f3,List.length_map]
 refine CQ (fun hc => ?_) (fun hc => ?_)
 ·have hc':k < xs.length:=by simpa using hc
  rw [LV bad xs k hc'] at hin
  have fin:bad xs[k]=true→JB xs=1:=fun hb=>UG h64 (by rw [hin,hb]; rfl)
  have nxt:bad xs[k]=false→xs.any bad=(xs.drop (k+1)).any bad:=fun hb=>by rw [hin,hb]; rfl
  simp -implicitDefEqProofs only [BB,BP,BN,A8]
  refine ER (by kernel_rfl) ?_
  simp -implicitDefEqProofs only [F7,D9,DT,EC,FQ,GR,FH,FC,IE,D5,D7,CO,AO,AA,A7,AU,BH,BO,BQ,BJ,BZ,AB,CW,↓reduceIte,Nat.reduceEqDiff,Nat.reduceAdd,Nat.add_zero,Option.getD_some,enP,AMQ,AAF,f0,f3,DJ hc',CV ag3 hc',AEL,AEK]
  refine AJQ (fun ha => ?_) (fun ha => ?_)
  ·simp -implicitDefEqProofs only [F7,D9,DT,E8,EC,FQ,GR,AC0,FH,I4,BB,AZ,BM,BI,A8,CS,EG,FM,CU,DX,AY,BC,CO,AO,AQ,AL,BD,AX,AC,AA,EY,A7,AU,BH,BL,BA,CP,DW,↓reduceIte,Nat.reduceEqDiff,Nat.reduceAdd,Option.getD_some,Bool.not_false,ha]
   exact ⟨by rw [fin (by unfold bad; rw [ha]; rfl)],trivial⟩
  simp -implicitDefEqProofs only [F7,D9,DT,EC,FQ,GR,QO,FH,I4,FC,IE,D5,D7,CO,AO,AA,A7,AU,BL,CP,DV,BO,BQ,BJ,BZ,AB,EW,↓reduceIte,Nat.reduceEqDiff,Nat.reduceAdd,Nat.add_zero,Nat.zero_add,Option.getD_some,enP,AMQ,AAF,AAE,ha,f0,f3,DJ hc',CV ag3 hc',AEL,AEK]
  refine AJQ (fun hb => ?_) (fun hb => ?_)
  ·simp -implicitDefEqProofs only [F7,D9,DT,E8,EC,FQ,GR,AC0,I4,BB,AZ,BM,BI,A8,CS,EG,FM,CU,DX,AY,BC,CO,AO,AQ,AL,BD,AX,AC,AA,EY,A7,AU,BH,BL,BA,CP,DW,↓reduceIte,Nat.reduceEqDiff,Nat.reduceAdd,Option.getD_some,Bool.not_false,hb]
   exact ⟨by rw [fin (by unfold bad; rw [hb]; simp)],trivial⟩
  simp -implicitDefEqProofs only [F7,D9,DT,E8,EC,FQ,GR,QO,FH,I4,FC,IE,D5,D7,BI,A8,CO,AO,AA,A7,AU,BH,BL,CP,DV,BO,BQ,BJ,BZ,AB,EW,↓reduceIte,Nat.reduceEqDiff,Nat.reduceAdd,Nat.zero_add,Option.getD_some,enP,AMQ,AAE,hb,f0,f3,DJ hc',CV ag3 hc',AEL,AEK]
  refine CQ (fun hc => ?_) (fun hc => ?_)
  ·simp -implicitDefEqProofs only [BB,AZ,BM,A8,CS,EG,FM,CU,AY,BC,AO,AQ,AL,BD,AX,AC,AA,AU,BH,BA,↓reduceIte,Option.getD_some,Bool.not_false]
   exact ⟨by rw [fin (by unfold bad; rw [hc]; simp)],trivial⟩
  ·simp -implicitDefEqProofs only [AZ,BN,A8,D8,ED,AY,BC,AO,AQ,AL,BD,AX,AC,AA,A7,AU,BH,BF,BA,BQ,AB,CZ,↓reduceIte,Nat.reduceEqDiff,Option.getD_some,Bool.not_false,enP,f3,wrap_succ (show k < 9223372036854775807 by omega)]
   exact ⟨n - 1,by omega,k+1,by omega,f0,rfl,trivial,nxt (by unfold bad; rw [ha,hb,hc]; rfl)⟩
 ·have hc' : ¬ k < xs.length:=by simpa using hc
  simp -implicitDefEqProofs only [BB,AZ,BM,DC,A8,DZ,EN,EP,CU,AY,BC,AO,AQ,AL,BD,AX,AC,AA,AU,BH,BA,↓reduceIte,Option.getD_some,Bool.not_false]
  rw [List.drop_eq_nil_of_le (by omega)] at hin
  exact ⟨by rw [V9 h64 hin],trivial⟩
end Go.Proofs.YtocilianjfhifaaGreatDoor.Bins
/- Contracts of meet, common, sets and of the clones; no condition. -/
namespace Go.Proofs.YtocilianjfhifaaGreatDoor.Bins
open Go Go.Proofs.YtocilianjfhifaaGreatDoor.Sm

/- a bin -/
structure Rs where
 m:SM
 l:List Rng
def ARV (r:Rs):AV := .sl r.m 2 (r.l.map encR)
def encS (r:Rs):List AV := [ARV r]
structure Bin where
 name:ByteArray
 kind:Int
 ranges:Rs
 sm:SM
 steps:List Rs
def J9 (b:Bin):List AV := [.str b.name,.int .i64 b.kind,ARV b.ranges,.sl b.sm 1 (b.steps.map encS)]
theorem AM9 (b:Bin):(J9 b)[0]? = some (.str b.name):=rfl
theorem Q3 (b:Bin):(J9 b)[1]? = some (.int .i64 b.kind):=rfl
theorem XR (b:Bin):(J9 b)[2]? = some (.sl b.ranges.m 2 (b.ranges.l.map encR)):=rfl
theorem SB (b:Bin):(J9 b)[3]? = some (.sl b.sm 1 (b.steps.map encS)):=rfl
theorem MP (b:Bin):(J9 b).length=4:=rfl
theorem AIT (r:Rs):(encS r)[0]? = some (.sl r.m 2 (r.l.map encR)):=rfl
theorem bxB (h:Hp) (b:Bin):PY h (.agg (J9 b))=some (.ptr h.length 0 0,h ++ [.live 4 [J9 b]]):=rfl
theorem ldB (h:Hp) (b:Bin):EE Tryz.prog (h ++ [.live 4 [J9 b]]) 121 (.ptr h.length 0 0)=some (.agg (J9 b)):=AD7 ZI UB (by simp [J9])

def VQ (b:Bin):SM:=if b.ranges.l.length > 0 then .full else b.sm
def sets (b:Bin):List Rs:=if b.ranges.l.length > 0 then [b.ranges] else b.steps
theorem AZH (h:Hp) (r:Rs):FO Tryz.prog false h 119 1 [(0,.sl r.m 2 (r.l.map encR))]=some (.sl .full 1 ([r].map encS),h):=by
 have:(UE 1 0 [(0,AV.sl r.m 2 (r.l.map encR))])=some [[.sl r.m 2 (r.l.map encR)]]:=rfl
 simp only [FO,Tryz.underlying119,AVV,this]
 have hz:QQ Tryz.prog 118=some 1:=by kernel_rfl
 simp [hz,AV.frozen,encS,ARV]
end Go.Proofs.YtocilianjfhifaaGreatDoor.Bins
/- Contracts of sets, of the clones, and of the search among lists of ranges; no condition. -/
set_option linter.unusedSimpArgs false
set_option maxRecDepth 8000
namespace Go.Proofs.YtocilianjfhifaaGreatDoor.Bins
open Go Go.Proofs.YtocilianjfhifaaGreatDoor.Sm

theorem ANZ (G:Nat→AV) (b:Bin) (h:Hp):PCall (En G) 202 [.agg (J9 b)] h (.sl (VQ b) 1 ((sets b).map encS)):=by
 refine ACalls.pure0 rfl ?_
 refine CG (H:=Hint.none) (enM G) Tryz.func202 rfl (by kernel_rfl) (by kernel_rfl) (Nat.le_of_ble_eq_true (by kernel_rfl)) ?_
 show awp _ _ _ _ _ (EU _ [.tmp 2] _)
 simp -implicitDefEqProofs only [BB,AZ,BI,A8,AY,BC,AO,AQ,AL,BD,AX,AC,AA,A7,AU,BH,FV,BA,FK,BO,BQ,BJ,DN,BR,AB,EW,BG,↓reduceIte,Nat.reduceEqDiff,Nat.zero_add,Option.getD_some,Bool.not_false,enP,RU,QZ,bxB,DI Q5,XR,List.length_map]
 refine CQ (fun hc => ?_) (fun hc => ?_)
 ·have hc':b.ranges.l.length > 0:=by simpa using hc
  simp -implicitDefEqProofs only [FP,FZ,BB,AZ,BM,A8,CS,CU,AY,BC,AO,AQ,AL,BD,AX,AC,AA,A7,BA,ES,BO,BJ,BR,AB,List.map_cons,List.map_nil,↓reduceIte,Nat.reduceEqDiff,Nat.zero_add,Option.getD_some,Bool.not_false,enP,QZ,DI Q5,XR,AZH]
  exact ⟨by rw [VQ,sets,if_pos hc',if_pos hc']; rfl,_,rfl⟩
 ·have hc' : ¬ b.ranges.l.length > 0:=by simpa using hc
  simp -implicitDefEqProofs only [BB,AZ,BN,BM,A8,CU,AY,BC,AO,AQ,AL,BD,AX,AC,AA,A7,BA,BO,BJ,AB,↓reduceIte,Nat.reduceEqDiff,Nat.zero_add,Option.getD_some,Bool.not_false,enP,MW,DI SI,SB]
  exact ⟨by rw [VQ,sets,if_neg hc',if_neg hc'],_,rfl⟩
theorem AQB (G:Nat→AV) (b:Bin) (h:Hp):PCall (En G) 165 [.agg (J9 b)] h (.sl (VQ b) 1 ((sets b).map encS)):=by
 refine ACalls.pure0 rfl ?_
 refine CG (H:=Hint.none) (enM G) Tryz.func165 rfl (by kernel_rfl) (by kernel_rfl) (Nat.le_of_ble_eq_true (by kernel_rfl)) ?_
 show awp _ _ _ _ _ (EU _ [.tmp 2] _)
 simp -implicitDefEqProofs only [BB,AZ,BI,A8,AY,BC,AO,AQ,AL,BD,AX,AC,AA,A7,AU,BH,FV,BA,FK,BO,BQ,BJ,DN,BR,AB,EW,BG,↓reduceIte,Nat.reduceEqDiff,Nat.zero_add,Option.getD_some,Bool.not_false,enP,RU,QZ,bxB,DI Q5,XR,List.length_map]
 refine CQ (fun hc => ?_) (fun hc => ?_)
 ·have hc':b.ranges.l.length > 0:=by simpa using hc
  simp -implicitDefEqProofs only [FP,FZ,BB,AZ,BM,A8,CS,CU,AY,BC,AO,AQ,AL,BD,AX,AC,AA,A7,BA,ES,BO,BJ,BR,AB,List.map_cons,List.map_nil,↓reduceIte,Nat.reduceEqDiff,Nat.zero_add,Option.getD_some,Bool.not_false,enP,QZ,DI Q5,XR,AZH]
  exact ⟨by rw [VQ,sets,if_pos hc',if_pos hc']; rfl,_,rfl⟩
 ·have hc' : ¬ b.ranges.l.length > 0:=by simpa using hc
  simp -implicitDefEqProofs only [BB,AZ,BN,BM,A8,CU,AY,BC,AO,AQ,AL,BD,AX,AC,AA,A7,BA,BO,BJ,AB,↓reduceIte,Nat.reduceEqDiff,Nat.zero_add,Option.getD_some,Bool.not_false,enP,MW,DI SI,SB]
  exact ⟨by rw [VQ,sets,if_neg hc',if_neg hc'],_,rfl⟩

theorem cok (f:FuncId) (G:Nat→AV) (hf:(match Tryz.prog.funcs[f]? with | some fn=>fn.body.isSome && !(fn.name == "runtime.NumGoroutine") | none=>false)=true):YZ (En G).P f:=by
 have he:(En G).P=Tryz.prog:=rfl
 unfold YZ
 rw [he]
 cases hx:Tryz.prog.funcs[f]? with
 | none=>rw [hx] at hf; cases hf
 | some fn =>
   rw [hx] at hf
   simp at hf
   exact ⟨fn,rfl,by simpa using hf.1,by simpa using hf.2⟩

def encI (n:Int):List AV := [.int .i64 n]
theorem encI0 (n:Int):(encI n)[0]? = some (.int .i64 n):=rfl
theorem ARX (G:Nat→AV) (r:Rs) (h:Hp):PCall (En G) 235 [.sl r.m 2 (r.l.map encR)] h (.bool (decide (r.l.length=0))):=by
 refine CG (H:=Hint.none) (enM G) Tryz.func235 rfl (by kernel_rfl) (by kernel_rfl) (Nat.le_of_ble_eq_true (by kernel_rfl)) ?_
 show awp _ _ _ _ _ (EU _ [.tmp 2] _)
 simp -implicitDefEqProofs only [BB,AZ,BM,A8,CU,AY,BC,AO,AQ,AL,BD,AX,AC,AA,A7,AU,BH,BL,BF,BA,BQ,DN,AB,EJ,BG,↓reduceIte,Nat.reduceEqDiff,Option.getD_some,Bool.not_false,enP,RU,List.length_map]
 refine ⟨?_,trivial⟩
 congr 1
 rw [Bool.eq_iff_iff]; simp

theorem AH5 (G:Nat→AV) (xs:List Rs) (m:SM) (fid:FuncId) (caps:List AV) (p:Rs→Bool) (h:Hp) (hl:xs.length≤1099511627776)
  (hf : ∀ r,PCall (En G) fid (.sl r.m 2 (r.l.map encR) :: caps) h (.bool (p r))) :
  PCall (En G) 260 [.sl m 1 (xs.map encS),.fn (.func fid) [] caps] h (.int .i64 (match xs.findIdx? p with | some i=>(i:Int) | none => -1)):=by
 refine CG (H:=Hint.none) (enM G) Tryz.func260 rfl (by kernel_rfl) (by kernel_rfl) (Nat.le_of_ble_eq_true (by kernel_rfl)) ?_
 show awp _ _ _ _ _ (EU _ [.tmp 4] _)
 simp -implicitDefEqProofs only [BB,BP,AZ,A8,AY,BC,AO,AQ,AL,BD,AX,AC,AA,A7,AU,BH,BF,BA,DN,AB,BG,↓reduceIte,Nat.reduceEqDiff,Option.getD_some,Bool.not_false,enP,RS,List.length_map]
 refine C9 (fun n F H => ∃ k,n+k=xs.length∧F 0 = .sl m 1 (xs.map encS)∧F 1 = .fn (.func fid) [] caps∧F 7 = .int .i64 xs.length∧F 8 = .int .i64 (k:Nat)∧H=h∧(xs.take k).all (fun r => !p r)=true) xs.length ⟨0,by simp,rfl,rfl,rfl,rfl,rfl,rfl⟩ ?_
 rintro n F H ⟨k,hk,f0,f1,f7,f8,rfl,hin⟩
 simp -implicitDefEqProofs only [BB,AZ,BI,A8,AY,BC,AO,AQ,AL,BD,AX,AC,AA,A7,BQ,AB,CW,↓reduceIte,Option.getD_some,Bool.not_false,enP,f0,f1,f7,f8,List.length_map]
 refine CQ (fun hc => ?_) (fun hc => ?_)
 ·have hc':k < xs.length:=by simpa using hc
  simp -implicitDefEqProofs only [BB,BP,AZ,BN,A8,AY,BC,AO,AQ,AL,BD,AX,AC,AA,A7,BF,BA,BO,BZ,CE,BX,AB,List.map_cons,List.map_nil,List.nil_append,List.cons_append,↓reduceIte,Nat.reduceEqDiff,Option.getD_some,Bool.not_false,enP,AH1,f0,f1,f7,f8,DJ hc',CV Q5 hc',AIT]
  refine (hf _).use ?_
  simp -implicitDefEqProofs only [BI,A8,BC,AC,AA,A7,↓reduceIte]
  refine CQ (fun hb => ?_) (fun hb => ?_)
  ·simp -implicitDefEqProofs only [BB,AZ,BM,A8,CS,EG,FM,CU,AY,BC,AO,AQ,AL,BD,AX,AC,AA,A7,BF,BA,↓reduceIte,Nat.reduceEqDiff,Option.getD_some,Bool.not_false]
   refine ⟨?_,trivial⟩
   rw [List.findIdx?_eq_some_iff_getElem.2 ⟨hc',hb,fun j hj=>by
    rw [List.all_eq_true] at hin
    have:=hin xs[j] (by rw [List.mem_take_iff_getElem]; exact ⟨j,by omega,rfl⟩)
    simpa using this⟩]
  ·simp -implicitDefEqProofs only [AZ,BN,A8,D8,ED,AY,BC,AO,AQ,AL,BD,AX,AC,AA,A7,AU,BH,BF,BQ,AB,CZ,↓reduceIte,Nat.reduceEqDiff,Option.getD_some,Bool.not_false,enP,f8,wrap_succ (show k < 9223372036854775807 by omega)]
   refine ⟨n - 1,by omega,k+1,by omega,f0,f1,f7,rfl,trivial,?_⟩
   rw [List.take_succ_eq_append_getElem hc',List.all_append,hin]
   simp only [List.all_cons,List.all_nil,hb]; rfl
 ·have hc' : ¬ k < xs.length:=by simpa using hc
  simp -implicitDefEqProofs only [BB,AZ,BM,DC,A8,DZ,EN,EP,CU,AY,BC,AO,AQ,AL,BD,AX,AC,AA,AU,BH,BA,↓reduceIte,Option.getD_some,Bool.not_false]
  refine ⟨?_,trivial⟩
  rw [List.take_of_length_le (by omega)] at hin
  rw [List.findIdx?_eq_none_iff.2 (by simpa using hin)]

theorem ACE (G:Nat→AV) (xs:List Rs) (m:SM) (fid:FuncId) (caps:List AV) (p:Rs→Bool) (h:Hp) (hl:xs.length≤1099511627776)
  (hf : ∀ r,PCall (En G) fid (.sl r.m 2 (r.l.map encR) :: caps) h (.bool (p r))) :
  PCall (En G) 234 [.sl m 1 (xs.map encS),.fn (.func fid) [] caps] h (.bool (xs.any p)):=by
 refine CG (H:=Hint.none) (enM G) Tryz.func234 rfl (by kernel_rfl) (by kernel_rfl) (Nat.le_of_ble_eq_true (by kernel_rfl)) ?_
 show awp _ _ _ _ _ (EU _ [.tmp 4] _)
 simp -implicitDefEqProofs only [BB,AZ,A8,AY,BC,AO,AQ,AL,BD,AX,AC,AA,A7,AU,CB,BL,BF,BA,CE,BX,BG,BV,List.map_cons,List.map_nil,List.append_nil,↓reduceIte,Nat.reduceEqDiff,Option.getD_some,Bool.not_false,enP]
 refine (AH5 G xs m fid caps p h hl hf).use ?_
 simp -implicitDefEqProofs only [BM,A8,CU,AY,BC,AO,AQ,AL,BD,AX,AC,AA,A7,AU,BH,BA,BQ,AB,G7,↓reduceIte,Option.getD_some,Bool.not_false,enP]
 refine ⟨?_,trivial⟩
 cases hx:xs.findIdx? p with
 | some i =>
   obtain ⟨h1,h2,_⟩:=List.findIdx?_eq_some_iff_getElem.1 hx
   have:xs.any p=true:=List.any_eq_true.2 ⟨xs[i],by simp,h2⟩
   simp [this]
 | none =>
   have:xs.any p=false:=by
    rw [List.findIdx?_eq_none_iff] at hx
    rw [List.any_eq_false]; intro x hx2; simp [hx x hx2]
   simp [this]
end Go.Proofs.YtocilianjfhifaaGreatDoor.Bins
/- Contracts of the lexer's functions on names, of the program and of the reference; no condition. -/
set_option linter.unusedSimpArgs false
set_option maxRecDepth 8000
namespace Go.Proofs.YtocilianjfhifaaGreatDoor.Bins
open Go Go.Proofs.YtocilianjfhifaaGreatDoor.Sm

def QR (n:Int):Bool:=decide (n≥97) && decide (n≤122)
def AI0 (n:Int):Bool:=decide (n≥48) && decide (n≤57)
def NJ (n:Int):Bool:=QR n || AI0 n || (decide (n≥65) && decide (n≤90)) || n == 95

theorem ABE (G:Nat→AV) (n:Int) (h:Hp):PCall (En G) 227 [.int .i32 n] h (.bool (QR n)):=by
 refine CG (H:=Hint.none) (enM G) Tryz.func227 rfl (by kernel_rfl) (by kernel_rfl) (Nat.le_of_ble_eq_true (by kernel_rfl)) ?_
 show awp _ _ _ _ _ (EU _ [.tmp 2] _)
 simp -implicitDefEqProofs only [BB,AZ,A8,AY,BC,BK,BU,CO,AO,AQ,AL,BD,AX,AC,AA,A7,AU,BH,BL,BF,BA,BQ,AB,G7,BG,↓reduceIte,Nat.reduceEqDiff,Option.getD_some,Bool.not_false,enP]
 refine H8 (fun ha => ?_) (fun ha => ?_)
 ·simp -implicitDefEqProofs only [BM,A8,CU,AY,BC,BK,BU,CO,GN,AO,AQ,AL,BD,AX,AC,AA,A7,AU,BH,BL,BF,BA,CP,DW,BQ,AB,KZ,BG,↓reduceIte,Nat.reduceEqDiff,Option.getD_some,Bool.not_false,enP,ha]
  exact ⟨by unfold QR; rw [ha]; rfl,trivial⟩
 ·simp -implicitDefEqProofs only [BM,A8,CU,AY,BC,BK,BU,CO,JH,AO,AQ,AL,BD,AX,AC,AA,EY,A7,AU,BL,BA,CP,DV,↓reduceIte,Nat.reduceEqDiff,Option.getD_some,Bool.not_false,ha]
  exact ⟨by unfold QR; rw [ha]; rfl,trivial⟩
theorem AK2 (G:Nat→AV) (n:Int) (h:Hp):PCall (En G) 256 [.int .i32 n] h (.bool (AI0 n)):=by
 refine CG (H:=Hint.none) (enM G) Tryz.func256 rfl (by kernel_rfl) (by kernel_rfl) (Nat.le_of_ble_eq_true (by kernel_rfl)) ?_
 show awp _ _ _ _ _ (EU _ [.tmp 2] _)
 simp -implicitDefEqProofs only [BB,AZ,A8,AY,BC,BK,BU,CO,AO,AQ,AL,BD,AX,AC,AA,A7,AU,BH,BL,BF,BA,BQ,AB,G7,BG,↓reduceIte,Nat.reduceEqDiff,Option.getD_some,Bool.not_false,enP]
 refine H8 (fun ha => ?_) (fun ha => ?_)
 ·simp -implicitDefEqProofs only [BM,A8,CU,AY,BC,BK,BU,CO,GN,AO,AQ,AL,BD,AX,AC,AA,A7,AU,BH,BL,BF,BA,CP,DW,BQ,AB,KZ,BG,↓reduceIte,Nat.reduceEqDiff,Option.getD_some,Bool.not_false,enP,ha]
  exact ⟨by unfold AI0; rw [ha]; rfl,trivial⟩
 ·simp -implicitDefEqProofs only [BM,A8,CU,AY,BC,BK,BU,CO,JH,AO,AQ,AL,BD,AX,AC,AA,EY,A7,AU,BL,BA,CP,DV,↓reduceIte,Nat.reduceEqDiff,Option.getD_some,Bool.not_false,ha]
  exact ⟨by unfold AI0; rw [ha]; rfl,trivial⟩
theorem ADY (G:Nat→AV) (n:Int) (h:Hp):PCall (En G) 213 [.int .u8 n] h (.bool (QR n)):=by
 refine CG (H:=Hint.none) (enM G) Tryz.func213 rfl (by kernel_rfl) (by kernel_rfl) (Nat.le_of_ble_eq_true (by kernel_rfl)) ?_
 show awp _ _ _ _ _ (EU _ [.tmp 2] _)
 simp -implicitDefEqProofs only [BB,AZ,A8,AY,BC,BK,BU,CO,AO,AQ,AL,BD,AX,AC,AA,A7,AU,BH,BL,BF,BA,BQ,AB,G7,BG,↓reduceIte,Nat.reduceEqDiff,Option.getD_some,Bool.not_false,enP]
 refine H8 (fun ha => ?_) (fun ha => ?_)
 ·simp -implicitDefEqProofs only [BM,A8,CU,AY,BC,BK,BU,CO,GN,AO,AQ,AL,BD,AX,AC,AA,A7,AU,BH,BL,BF,BA,CP,DW,BQ,AB,KZ,BG,↓reduceIte,Nat.reduceEqDiff,Option.getD_some,Bool.not_false,enP,ha]
  exact ⟨by unfold QR; rw [ha]; rfl,trivial⟩
 ·simp -implicitDefEqProofs only [BM,A8,CU,AY,BC,BK,BU,CO,JH,AO,AQ,AL,BD,AX,AC,AA,EY,A7,AU,BL,BA,CP,DV,↓reduceIte,Nat.reduceEqDiff,Option.getD_some,Bool.not_false,ha]
  exact ⟨by unfold QR; rw [ha]; rfl,trivial⟩
theorem AO4 (G:Nat→AV) (n:Int) (h:Hp):PCall (En G) 245 [.int .u8 n] h (.bool (AI0 n)):=by
 refine CG (H:=Hint.none) (enM G) Tryz.func245 rfl (by kernel_rfl) (by kernel_rfl) (Nat.le_of_ble_eq_true (by kernel_rfl)) ?_
 show awp _ _ _ _ _ (EU _ [.tmp 2] _)
 simp -implicitDefEqProofs only [BB,AZ,A8,AY,BC,BK,BU,CO,AO,AQ,AL,BD,AX,AC,AA,A7,AU,BH,BL,BF,BA,BQ,AB,G7,BG,↓reduceIte,Nat.reduceEqDiff,Option.getD_some,Bool.not_false,enP]
 refine H8 (fun ha => ?_) (fun ha => ?_)
 ·simp -implicitDefEqProofs only [BM,A8,CU,AY,BC,BK,BU,CO,GN,AO,AQ,AL,BD,AX,AC,AA,A7,AU,BH,BL,BF,BA,CP,DW,BQ,AB,KZ,BG,↓reduceIte,Nat.reduceEqDiff,Option.getD_some,Bool.not_false,enP,ha]
  exact ⟨by unfold AI0; rw [ha]; rfl,trivial⟩
 ·simp -implicitDefEqProofs only [BM,A8,CU,AY,BC,BK,BU,CO,JH,AO,AQ,AL,BD,AX,AC,AA,EY,A7,AU,BL,BA,CP,DV,↓reduceIte,Nat.reduceEqDiff,Option.getD_some,Bool.not_false,ha]
  exact ⟨by unfold AI0; rw [ha]; rfl,trivial⟩
theorem XJ (G:Nat→AV) (n:Int) (h:Hp):PCall (En G) 228 [.int .i32 n] h (.bool (NJ n)):=by
 refine CG (H:=Hint.none) (enM G) Tryz.func228 rfl (by kernel_rfl) (by kernel_rfl) (Nat.le_of_ble_eq_true (by kernel_rfl)) ?_
 show awp _ _ _ _ _ (EU _ [.tmp 2] _)
 simp -implicitDefEqProofs only [BB,AZ,A8,AY,BC,AO,AQ,AL,BD,AX,AC,AA,A7,AU,CB,BL,BF,BA,CE,BX,BG,List.map_cons,List.map_nil,List.append_nil,↓reduceIte,Nat.reduceEqDiff,Option.getD_some,Bool.not_false,enP]
 refine (ABE G n h).use ?_
 simp -implicitDefEqProofs only [AY,BK,BU,CO,AO,AQ,AL,BD,AX,AC,AA,A7,BF,↓reduceIte,Option.getD_some,Bool.not_false]
 refine H8 (fun ha => ?_) (fun ha => ?_)
 ·simp -implicitDefEqProofs only [BM,A8,CU,AY,BC,BK,BU,CO,F5,QP,AO,AQ,AL,BD,AX,AC,AA,EY,A7,AU,BL,BF,BA,CP,DW,↓reduceIte,Nat.reduceEqDiff,Option.getD_some,Bool.not_false,ha]
  exact ⟨by unfold NJ; rw [ha]; rfl,trivial⟩
 simp -implicitDefEqProofs only [BK,BU,CO,EO,AO,AQ,AL,BD,AX,AC,AA,A7,CB,BF,CE,BX,BG,List.map_cons,List.map_nil,List.append_nil,↓reduceIte,Nat.reduceEqDiff,Option.getD_some,Bool.not_false,ha]
 refine (AK2 G n h).use ?_
 simp -implicitDefEqProofs only [AY,BK,BU,CO,AO,AQ,AL,BD,AX,AC,AA,A7,AU,BL,BF,CP,DV,↓reduceIte,Nat.reduceEqDiff,Option.getD_some,Bool.not_false]
 refine H8 (fun hb => ?_) (fun hb => ?_)
 ·simp -implicitDefEqProofs only [BM,A8,CU,AY,BC,BK,BU,CO,F5,QP,AO,AQ,AL,BD,AX,AC,AA,EY,A7,AU,BL,BF,BA,CP,DW,↓reduceIte,Nat.reduceEqDiff,Option.getD_some,Bool.not_false,hb]
  exact ⟨by unfold NJ; rw [ha,hb]; rfl,trivial⟩
 simp -implicitDefEqProofs only [BK,BU,CO,EO,AO,AQ,AL,BD,AX,AC,AA,A7,AU,BH,BF,BQ,AB,G7,BG,↓reduceIte,Nat.reduceEqDiff,Option.getD_some,Bool.not_false,enP,hb]
 refine H8 (fun hc => ?_) (fun hc => ?_)
 ·simp -implicitDefEqProofs only [AY,BK,BU,CO,GN,EO,AO,AQ,AL,BD,AX,AC,AA,A7,AU,BH,BL,BF,CP,DW,DV,BQ,AB,KZ,BG,↓reduceIte,Nat.reduceEqDiff,Option.getD_some,Bool.not_false,enP,hc]
  refine H8 (fun hd => ?_) (fun hd => ?_)
  ·simp -implicitDefEqProofs only [BM,A8,CU,AY,BC,BK,BU,CO,F5,AO,AQ,AL,BD,AX,AC,AA,EY,A7,AU,BL,BA,CP,DW,↓reduceIte,Nat.reduceEqDiff,Option.getD_some,Bool.not_false,hd]
   exact ⟨by unfold NJ; rw [ha,hb,hc,hd]; rfl,trivial⟩
  ·simp -implicitDefEqProofs only [BM,A8,CU,AY,BC,BK,BU,CO,EO,AO,AQ,AL,BD,AX,AC,AA,A7,AU,BH,BL,BF,BA,CP,DV,BQ,AB,EJ,BG,↓reduceIte,Nat.reduceEqDiff,Option.getD_some,Bool.not_false,enP,hd]
   exact ⟨by unfold NJ; rw [ha,hb,hc,hd]; rfl,trivial⟩
 ·simp -implicitDefEqProofs only [BM,A8,CU,AY,BC,BK,BU,CO,EO,JH,AO,AQ,AL,BD,AX,AC,AA,EY,A7,AU,BH,BL,BF,BA,CP,DV,BQ,AB,EJ,BG,↓reduceIte,Nat.reduceEqDiff,Option.getD_some,Bool.not_false,enP,hc]
  exact ⟨by unfold NJ; rw [ha,hb,hc]; rfl,trivial⟩
theorem AOP (G:Nat→AV) (n:Int) (h:Hp):PCall (En G) 215 [.int .u8 n] h (.bool (NJ n)):=by
 refine CG (H:=Hint.none) (enM G) Tryz.func215 rfl (by kernel_rfl) (by kernel_rfl) (Nat.le_of_ble_eq_true (by kernel_rfl)) ?_
 show awp _ _ _ _ _ (EU _ [.tmp 2] _)
 simp -implicitDefEqProofs only [BB,AZ,A8,AY,BC,AO,AQ,AL,BD,AX,AC,AA,A7,AU,CB,BL,BF,BA,CE,BX,BG,List.map_cons,List.map_nil,List.append_nil,↓reduceIte,Nat.reduceEqDiff,Option.getD_some,Bool.not_false,enP]
 refine (ADY G n h).use ?_
 simp -implicitDefEqProofs only [AY,BK,BU,CO,AO,AQ,AL,BD,AX,AC,AA,A7,BF,↓reduceIte,Option.getD_some,Bool.not_false]
 refine H8 (fun ha => ?_) (fun ha => ?_)
 ·simp -implicitDefEqProofs only [BM,A8,CU,AY,BC,BK,BU,CO,F5,QP,AO,AQ,AL,BD,AX,AC,AA,EY,A7,AU,BL,BF,BA,CP,DW,↓reduceIte,Nat.reduceEqDiff,Option.getD_some,Bool.not_false,ha]
  exact ⟨by unfold NJ; rw [ha]; rfl,trivial⟩
 simp -implicitDefEqProofs only [BK,BU,CO,EO,AO,AQ,AL,BD,AX,AC,AA,A7,CB,BF,CE,BX,BG,List.map_cons,List.map_nil,List.append_nil,↓reduceIte,Nat.reduceEqDiff,Option.getD_some,Bool.not_false,ha]
 refine (AO4 G n h).use ?_
 simp -implicitDefEqProofs only [AY,BK,BU,CO,AO,AQ,AL,BD,AX,AC,AA,A7,AU,BL,BF,CP,DV,↓reduceIte,Nat.reduceEqDiff,Option.getD_some,Bool.not_false]
 refine H8 (fun hb => ?_) (fun hb => ?_)
 ·simp -implicitDefEqProofs only [BM,A8,CU,AY,BC,BK,BU,CO,F5,QP,AO,AQ,AL,BD,AX,AC,AA,EY,A7,AU,BL,BF,BA,CP,DW,↓reduceIte,Nat.reduceEqDiff,Option.getD_some,Bool.not_false,hb]
  exact ⟨by unfold NJ; rw [ha,hb]; rfl,trivial⟩
 simp -implicitDefEqProofs only [BK,BU,CO,EO,AO,AQ,AL,BD,AX,AC,AA,A7,AU,BH,BF,BQ,AB,G7,BG,↓reduceIte,Nat.reduceEqDiff,Option.getD_some,Bool.not_false,enP,hb]
 refine H8 (fun hc => ?_) (fun hc => ?_)
 ·simp -implicitDefEqProofs only [AY,BK,BU,CO,GN,EO,AO,AQ,AL,BD,AX,AC,AA,A7,AU,BH,BL,BF,CP,DW,DV,BQ,AB,KZ,BG,↓reduceIte,Nat.reduceEqDiff,Option.getD_some,Bool.not_false,enP,hc]
  refine H8 (fun hd => ?_) (fun hd => ?_)
  ·simp -implicitDefEqProofs only [BM,A8,CU,AY,BC,BK,BU,CO,F5,AO,AQ,AL,BD,AX,AC,AA,EY,A7,AU,BL,BA,CP,DW,↓reduceIte,Nat.reduceEqDiff,Option.getD_some,Bool.not_false,hd]
   exact ⟨by unfold NJ; rw [ha,hb,hc,hd]; rfl,trivial⟩
  ·simp -implicitDefEqProofs only [BM,A8,CU,AY,BC,BK,BU,CO,EO,AO,AQ,AL,BD,AX,AC,AA,A7,AU,BH,BL,BF,BA,CP,DV,BQ,AB,EJ,BG,↓reduceIte,Nat.reduceEqDiff,Option.getD_some,Bool.not_false,enP,hd]
   exact ⟨by unfold NJ; rw [ha,hb,hc,hd]; rfl,trivial⟩
 ·simp -implicitDefEqProofs only [BM,A8,CU,AY,BC,BK,BU,CO,EO,JH,AO,AQ,AL,BD,AX,AC,AA,EY,A7,AU,BH,BL,BF,BA,CP,DV,BQ,AB,EJ,BG,↓reduceIte,Nat.reduceEqDiff,Option.getD_some,Bool.not_false,enP,hc]
  exact ⟨by unfold NJ; rw [ha,hb,hc]; rfl,trivial⟩

/- strings in lists -/
def encStr (s:ByteArray):List AV := [.str s]
theorem AM5 (s:ByteArray):(encStr s)[0]? = some (.str s):=rfl
def JS (xs:List ByteArray) (v:ByteArray):Bool:=xs.any fun u=>v.toList == u.toList

theorem AUI (G:Nat→AV) (xs:List ByteArray) (m:SM) (v:ByteArray) (h:Hp) (hl:xs.length≤1099511627776) :
  PCall (En G) 243 [.sl m 1 (xs.map encStr),.str v] h (.bool (JS xs v)):=by
 refine CG (H:=Hint.none) (enM G) Tryz.func243 rfl (by kernel_rfl) (by kernel_rfl) (Nat.le_of_ble_eq_true (by kernel_rfl)) ?_
 show awp _ _ _ _ _ (EU _ [.tmp 4] _)
 simp -implicitDefEqProofs only [BB,BP,AZ,A8,AY,BC,AO,AQ,AL,BD,AX,AC,AU,BH,BL,BA,Option.getD_some,Bool.not_false,enP]
 refine C9 (fun n F H => ∃ k,n+k=xs.length∧F 0 = .sl m 1 (xs.map encStr)∧F 1 = .str v∧F 5 = .int .i64 (k:Nat)∧H=h∧JS xs v=JS (xs.drop k) v) xs.length ⟨0,by simp,rfl,rfl,rfl,rfl,rfl⟩ ?_
 rintro n F H ⟨k,hk,f0,f1,f5,rfl,hin⟩
 simp -implicitDefEqProofs only [BB,AZ,BI,A8,AY,BC,AO,AQ,AL,BD,AX,AC,AA,A7,BF,BQ,DN,AB,CW,↓reduceIte,Nat.reduceEqDiff,Option.getD_some,Bool.not_false,enP,AMN,f0,f1,f5,List.length_map]
 refine CQ (fun hc => ?_) (fun hc => ?_)
 ·have hc':k < xs.length:=by simpa using hc
  have hs:JS (xs.drop k) v=((v.toList == xs[k].toList) || JS (xs.drop (k+1)) v):=LV _ xs k hc'
  simp -implicitDefEqProofs only [BB,BP,AZ,BN,BI,A8,AY,BC,AO,AQ,AL,BD,AX,AC,AA,A7,BF,BO,BQ,BZ,AB,NL,↓reduceIte,Nat.reduceEqDiff,Option.getD_some,Bool.not_false,enP,AQ1,f0,f1,f5,DJ hc',CV ag9 hc',AM5]
  refine CQ (fun hb => ?_) (fun hb => ?_)
  ·simp -implicitDefEqProofs only [BB,AZ,BM,A8,CS,EG,FM,CU,AY,BC,AO,AQ,AL,BD,AX,AC,AA,AU,BL,BA,↓reduceIte,Option.getD_some,Bool.not_false]
   refine ⟨?_,trivial⟩
   rw [hin,hs,show (v.toList == xs[k].toList)=true by rw [BEq.comm]; exact hb]; rfl
  ·simp -implicitDefEqProofs only [AZ,BN,A8,D8,ED,AY,BC,AO,AQ,AL,BD,AX,AC,AA,A7,AU,BH,BF,BA,BQ,AB,CZ,↓reduceIte,Nat.reduceEqDiff,Option.getD_some,Bool.not_false,enP,f5,wrap_succ (show k < 9223372036854775807 by omega)]
   refine ⟨n - 1,by omega,k+1,by omega,f0,f1,rfl,trivial,?_⟩
   rw [hin,hs,show (v.toList == xs[k].toList)=false by rw [BEq.comm]; exact hb]; rfl
 ·have hc' : ¬ k < xs.length:=by simpa using hc
  simp -implicitDefEqProofs only [BB,AZ,BM,DC,A8,DZ,EN,EP,CU,AY,BC,AO,AQ,AL,BD,AX,AC,AA,AU,BL,BA,↓reduceIte,Option.getD_some,Bool.not_false]
  exact ⟨by rw [hin,List.drop_eq_nil_of_le (by omega)]; rfl,trivial⟩

theorem AKS (G:Nat→AV) (xs:List ByteArray) (m:SM) (v:ByteArray) (h:Hp) (hl:xs.length≤1099511627776) :
  ∃ i:Int,(decide (i≥0)=JS xs v)∧PCall (En G) 257 [.sl m 1 (xs.map encStr),.str v] h (.int .i64 i):=by
 refine ⟨(match xs.findIdx? (fun u=>v.toList == u.toList) with | some i=>(i:Int) | none => -1),?_,?_⟩
 ·cases hx:xs.findIdx? (fun u=>v.toList == u.toList) with
  | some i =>
    obtain ⟨h1,h2,_⟩:=List.findIdx?_eq_some_iff_getElem.1 hx
    have:JS xs v=true:=List.any_eq_true.2 ⟨xs[i],by simp,h2⟩
    simp [this]
  | none =>
    have:JS xs v=false:=by
     rw [List.findIdx?_eq_none_iff] at hx
     unfold JS
     rw [List.any_eq_false]; intro x hx2; simp only [hx x hx2]; simp
    simp [this]
 refine CG (H:=Hint.none) (enM G) Tryz.func257 rfl (by kernel_rfl) (by kernel_rfl) (Nat.le_of_ble_eq_true (by kernel_rfl)) ?_
 show awp _ _ _ _ _ (EU _ [.tmp 4] _)
 simp -implicitDefEqProofs only [BB,BP,AZ,A8,AY,BC,AO,AQ,AL,BD,AX,AC,AA,A7,AU,BH,BF,BA,DN,AB,BG,↓reduceIte,Nat.reduceEqDiff,Option.getD_some,Bool.not_false,enP,AMN,List.length_map]
 refine C9 (fun n F H => ∃ k,n+k=xs.length∧F 0 = .sl m 1 (xs.map encStr)∧F 1 = .str v∧F 7 = .int .i64 xs.length∧F 8 = .int .i64 (k:Nat)∧H=h∧(xs.take k).all (fun u => !(v.toList == u.toList))=true) xs.length ⟨0,by simp,rfl,rfl,rfl,rfl,rfl,rfl⟩ ?_
 rintro n F H ⟨k,hk,f0,f1,f7,f8,rfl,hin⟩
 simp -implicitDefEqProofs only [BB,AZ,BI,A8,AY,BC,AO,AQ,AL,BD,AX,AC,AA,A7,BQ,AB,CW,↓reduceIte,Option.getD_some,Bool.not_false,enP,f0,f1,f7,f8,List.length_map]
 refine CQ (fun hc => ?_) (fun hc => ?_)
 ·have hc':k < xs.length:=by simpa using hc
  simp -implicitDefEqProofs only [BB,BP,AZ,BN,BI,A8,AY,BC,AO,AQ,AL,BD,AX,AC,AA,A7,BF,BA,BO,BQ,BZ,AB,NL,↓reduceIte,Nat.reduceEqDiff,Option.getD_some,Bool.not_false,enP,AQ1,f0,f1,f7,f8,DJ hc',CV ag9 hc',AM5]
  refine CQ (fun hb => ?_) (fun hb => ?_)
  ·simp -implicitDefEqProofs only [BB,AZ,BM,A8,CS,EG,FM,CU,AY,BC,AO,AQ,AL,BD,AX,AC,AA,A7,BF,BA,↓reduceIte,Nat.reduceEqDiff,Option.getD_some,Bool.not_false]
   refine ⟨?_,trivial⟩
   rw [List.findIdx?_eq_some_iff_getElem.2 ⟨hc',hb,fun j hj=>by
    rw [List.all_eq_true] at hin
    have:=hin xs[j] (by rw [List.mem_take_iff_getElem]; exact ⟨j,by omega,rfl⟩)
    simpa using this⟩]
  ·simp -implicitDefEqProofs only [AZ,BN,A8,D8,ED,AY,BC,AO,AQ,AL,BD,AX,AC,AA,A7,AU,BH,BF,BQ,AB,CZ,↓reduceIte,Nat.reduceEqDiff,Option.getD_some,Bool.not_false,enP,f8,wrap_succ (show k < 9223372036854775807 by omega)]
   refine ⟨n - 1,by omega,k+1,by omega,f0,f1,f7,rfl,trivial,?_⟩
   rw [List.take_succ_eq_append_getElem hc',List.all_append,hin]
   simp only [List.all_cons,List.all_nil,hb]; rfl
 ·have hc' : ¬ k < xs.length:=by simpa using hc
  simp -implicitDefEqProofs only [BB,AZ,BM,DC,A8,DZ,EN,EP,CU,AY,BC,AO,AQ,AL,BD,AX,AC,AA,AU,BH,BA,↓reduceIte,Option.getD_some,Bool.not_false]
  refine ⟨?_,trivial⟩
  rw [List.take_of_length_le (by omega)] at hin
  rw [List.findIdx?_eq_none_iff.2 (by
   intro x hx
   rw [List.all_eq_true] at hin
   simpa using hin x hx)]
theorem ADL (G:Nat→AV) (xs:List ByteArray) (m:SM) (v:ByteArray) (h:Hp) (hl:xs.length≤1099511627776) :
  PCall (En G) 229 [.sl m 1 (xs.map encStr),.str v] h (.bool (JS xs v)):=by
 obtain ⟨i,hi,hp⟩:=AKS G xs m v h hl
 refine CG (H:=Hint.none) (enM G) Tryz.func229 rfl (by kernel_rfl) (by kernel_rfl) (Nat.le_of_ble_eq_true (by kernel_rfl)) ?_
 show awp _ _ _ _ _ (EU _ [.tmp 4] _)
 simp -implicitDefEqProofs only [BB,AZ,A8,AY,BC,AO,AQ,AL,BD,AX,AC,AA,A7,AU,CB,BL,BF,BA,CE,BX,BG,BV,List.map_cons,List.map_nil,List.append_nil,↓reduceIte,Nat.reduceEqDiff,Option.getD_some,Bool.not_false,enP]
 refine hp.use ?_
 simp -implicitDefEqProofs only [BM,A8,CU,AY,BC,AO,AQ,AL,BD,AX,AC,AA,A7,AU,BH,BA,BQ,AB,G7,↓reduceIte,Option.getD_some,Bool.not_false,enP]
 exact ⟨by rw [hi],trivial⟩

def kw:List ByteArray := [⟨#[99,108,97,115,115]⟩,⟨#[101,120,116,101,110,100,115]⟩,⟨#[114,97,110,100]⟩,⟨#[114,97,110,100,99]⟩,⟨#[115,116,97,116,101]⟩,⟨#[99,111,110,115,116,114,97,105,110,116]⟩,⟨#[115,111,102,116]⟩,⟨#[100,105,115,116]⟩,⟨#[105,102]⟩,⟨#[101,108,115,101]⟩,⟨#[101,97,99,104]⟩,⟨#[105,110]⟩,⟨#[115,111,108,118,101]⟩,⟨#[98,101,102,111,114,101]⟩,⟨#[105,110,115,105,100,101]⟩,⟨#[112,114,111,112,101,114,116,121]⟩,⟨#[115,101,113]⟩,⟨#[97,110,100]⟩,⟨#[111,114]⟩,⟨#[110,111,116]⟩,⟨#[115,101,116]⟩,⟨#[104,111,108,100]⟩,⟨#[112,108,97,105,110]⟩,⟨#[114,101,112,101,97,116]⟩]
theorem AQZ:kw.length=24:=rfl
theorem AFQ (G:Nat→AV) (h:Hp):PCall (En G) 244 [] h (.sl .full 1 (kw.map encStr)):=by
 refine CG (H:=Hint.none) (enM G) Tryz.func244 rfl (by kernel_rfl) (by kernel_rfl) (Nat.le_of_ble_eq_true (by kernel_rfl)) ?_
 show awp _ _ _ _ _ (EU _ [.tmp 0] _)
 simp -implicitDefEqProofs only [FP,FZ,BB,AZ,A8,AY,BC,AO,AQ,AL,BD,AX,AC,AU,KI,FV,BA,ES,Option.getD_some,Bool.not_false,enP]
 refine F9 (v := .sl .full 1 (kw.map encStr)) (h:=h) (by kernel_rfl) ?_
 simp -implicitDefEqProofs only [BM,A8,CU,AY,BC,AO,AQ,AL,BD,AX,AC,AA,A7,BA,↓reduceIte,Option.getD_some,Bool.not_false]
 exact ⟨trivial,trivial⟩
theorem AC9 (G:Nat→AV) (v:ByteArray) (h:Hp):PCall (En G) 214 [.str v] h (.bool (JS kw v)):=by
 refine CG (H:=Hint.none) (enM G) Tryz.func214 rfl (by kernel_rfl) (by kernel_rfl) (Nat.le_of_ble_eq_true (by kernel_rfl)) ?_
 show awp _ _ _ _ _ (EU _ [.tmp 2] _)
 simp -implicitDefEqProofs only [BB,AZ,A8,AY,BC,AO,AQ,AL,BD,AX,AC,AU,CB,BL,BA,CE,BX,List.map_nil,List.append_nil,Option.getD_some,Bool.not_false,enP]
 refine (AFQ G h).use ?_
 simp -implicitDefEqProofs only [AY,AO,AQ,AL,BD,AX,AC,AA,A7,CB,BF,CE,BX,BG,List.map_cons,List.map_nil,List.append_nil,↓reduceIte,Nat.reduceEqDiff,Option.getD_some,Bool.not_false]
 refine (AUI G kw .full v h (by rw [AQZ]; omega)).use ?_
 simp -implicitDefEqProofs only [BM,A8,CU,AY,BC,AO,AQ,AL,BD,AX,AC,AA,A7,BA,↓reduceIte,Option.getD_some,Bool.not_false]
 exact ⟨trivial,trivial⟩
/-- the global variable of the keywords -/
def KwG (G:Nat→AV):Prop := ∃ m,G 0 = .fptr 1 [[.sl m 1 (kw.map encStr)]] 0 0
theorem ABL (G:Nat→AV) (hG:KwG G) (v:ByteArray) (h:Hp):PCall (En G) 195 [.str v] h (.bool (JS kw v)):=by
 obtain ⟨m,hg⟩:=hG
 refine CG (H:=Hint.none) (enM G) Tryz.func195 rfl (by kernel_rfl) (by kernel_rfl) (Nat.le_of_ble_eq_true (by kernel_rfl)) ?_
 show awp _ _ _ _ _ (EU _ [.tmp 2] _)
 have e:EE Tryz.prog h 179 (G 0)=some (.sl m 1 (kw.map encStr)):=by rw [hg]; exact AQR ASQ rfl rfl
 have hl:kw.length≤1099511627776:=by rw [AQZ]; omega
 simp -implicitDefEqProofs only [BB,AZ,A8,AY,BC,AO,AQ,AL,BD,AX,AC,AA,A7,AU,CB,AUR,BL,BF,BA,BO,CE,BX,AB,BG,List.map_cons,List.map_nil,List.append_nil,↓reduceIte,Nat.reduceEqDiff,Option.getD_some,Bool.not_false,enP,enG,e]
 refine (ADL G kw m v h hl).use ?_
 simp -implicitDefEqProofs only [BM,A8,CU,AY,BC,AO,AQ,AL,BD,AX,AC,AA,A7,BA,↓reduceIte,Option.getD_some,Bool.not_false]
 exact ⟨trivial,trivial⟩

/-- a word: not empty, begins small, goes on as names do -/
def RJ (s:ByteArray):Bool:=(match s.data.toList with | []=>false | b :: _=>QR b.toNat) && s.data.toList.all fun b=>NJ b.toNat
def G9 (s:ByteArray):Bool:=RJ s && decide (s.size≤16) && !JS kw s

theorem YK {n:Int} (h:NJ n=true):n < 128:=by
 simp only [NJ,QR,AI0,Bool.or_eq_true,Bool.and_eq_true,decide_eq_true_eq,beq_iff_eq] at h
 omega
theorem ATG (h:Hp) (s:ByteArray):YW Tryz.prog h 9 (.str s)=some (.ptr h.length 0 0,h ++ [.iter s 0]):=by
 have:Tryz.prog.underlying 9=some .string:=by kernel_rfl
 simp [YW,this]
theorem ATW {h:Hp} {s:ByteArray} {pos:Nat} (hp:pos < s.size):ZJ (h ++ [.iter s pos]) (.ptr h.length 0 0) true=some (.tup [.bool true,.int .i64 pos,.int .i32 (Utf8.decode s pos).1],h ++ [.iter s (pos+(Utf8.decode s pos).2)]):=by
 simp [ZJ,hp]
theorem AQP {h:Hp} {s:ByteArray} {pos:Nat} (hp : ¬ pos < s.size):ZJ (h ++ [.iter s pos]) (.ptr h.length 0 0) true=some (.tup [.bool false],h ++ [.iter s pos]):=by
 simp [ZJ,hp]

theorem SQ {s:ByteArray} {k:Nat} (hk:k < s.size) (hb:NJ (s[k]'hk).toNat=false):RJ s=false:=by
 unfold RJ
 have:(s.data.toList.all fun b=>NJ b.toNat)=false:=by
  rw [List.all_eq_false]
  exact ⟨s[k],Array.getElem_mem_toList (xs:=s.data) hk,by simp [hb]⟩
 rw [this]; simp
theorem Y0 {s:ByteArray} (hk:0 < s.size) (hb:QR (s[0]'hk).toNat=false):RJ s=false:=by
 unfold RJ
 have:(match s.data.toList with | []=>false | b :: _=>QR b.toNat)=false:=by
  cases hl:s.data.toList with
  | nil=>rfl
  | cons b l =>
    have h0:s[0]'hk=b:=by
     have:s.data.toList[0]? = some b:=by rw [hl]; rfl
     have h2:s.data[0]? = some b:=by rw [← Array.getElem?_toList]; exact this
     have hk':0 < s.data.size:=hk
     rw [Array.getElem?_eq_getElem hk'] at h2
     exact Option.some.inj h2
    simp only
    rw [← h0]; exact hb
 rw [this]; simp
theorem AGV {s:ByteArray} (hk:0 < s.size) (hb:QR (s[0]'hk).toNat=true) (ha : ∀ i (hi:i < s.size),NJ (s[i]'hi).toNat=true):RJ s=true:=by
 unfold RJ
 have h1:(match s.data.toList with | []=>false | b :: _=>QR b.toNat)=true:=by
  cases hl:s.data.toList with
  | nil =>
    have:s.data.toList.length=0:=by rw [hl]; rfl
    have h2:s.data.size=0:=by simpa using this
    have h3:s.size=s.data.size:=rfl
    omega
  | cons b l =>
    have h0:s[0]'hk=b:=by
     have:s.data.toList[0]? = some b:=by rw [hl]; rfl
     have h2:s.data[0]? = some b:=by rw [← Array.getElem?_toList]; exact this
     have hk':0 < s.data.size:=hk
     rw [Array.getElem?_eq_getElem hk'] at h2
     exact Option.some.inj h2
    simp only
    rw [← h0]; exact hb
 rw [h1,Bool.true_and,List.all_eq_true]
 intro b hbm
 obtain ⟨i,hi,rfl⟩:=List.getElem_of_mem hbm
 have hi':i < s.size:=by simpa using hi
 exact ha i hi'

theorem ANP (G:Nat→AV) (s:ByteArray) (h:Hp) (hl:s.size≤1099511627776):PCall (En G) 194 [.str s] h (.bool (RJ s)):=by
 refine ACalls.pure0 rfl ?_
 refine CG (H:=Hint.none) (enM G) Tryz.func194 rfl (by kernel_rfl) (by kernel_rfl) (Nat.le_of_ble_eq_true (by kernel_rfl)) ?_
 show awp _ _ _ _ _ (EU _ [.tmp 2] _)
 simp -implicitDefEqProofs only [BB,BP,AZ,A8,AY,BC,AO,AQ,AL,BD,AX,AC,AA,A7,AU,BL,BF,BA,AS3,BR,BG,↓reduceIte,Nat.reduceEqDiff,Option.getD_some,Bool.not_false,enP,ATG]
 refine C9 (fun n F H => ∃ k,n+k=s.size∧F 0 = .str s∧F 6 = .ptr h.length 0 0∧H=h ++ [.iter s k]∧(∀ i (hi:i < s.size),i < k→NJ (s[i]'hi).toNat=true)∧(∀ hp:0 < s.size,0 < k→QR (s[0]'hp).toNat=true)) s.size ⟨0,by simp,rfl,by simp -implicitDefEqProofs only [AA,↓reduceIte],rfl,fun _ _ h=>absurd h (by omega),fun _ h=>absurd h (by omega)⟩ ?_
 rintro n F H ⟨k,hk,f0,f6,rfl,hall,h0⟩
 rcases Classical.em (k < s.size) with hp | hp
 ·have go : ∀ (r:Nat × Nat),Utf8.decode s k=r→(NJ r.1=true→r=((s[k]'hp).toNat,1)∧NJ (s[k]'hp).toNat=true)∧(NJ r.1=false→RJ s=false)∧(QR r.1=false→k=0→RJ s=false)∧(QR r.1=true→NJ r.1=true):=by
   rintro r rfl
   have lf : ∀ n,QR n=true→NJ n=true:=fun n hn=>by unfold NJ; rw [hn]; rfl
   rcases Nat.lt_or_ge (s[k]'hp).toNat 128 with ha | ha
   ·have hd:=decode_ascii s k hp ha
    rw [hd]
    exact ⟨fun hf=>⟨rfl,hf⟩,fun hf=>SQ hp hf,fun hf h0=>by subst h0; exact Y0 hp hf,lf _⟩
   ·have hd:=(decode_high s k hp ha).1
    refine ⟨fun hf => ?_,fun _ => ?_,fun _ h0 => ?_,lf _⟩
    ·have:=YK hf; omega
    ·refine SQ hp ?_
     cases hf:NJ (s[k]'hp).toNat with
     | false=>rfl
     | true=>have:=YK hf; omega
    ·refine SQ hp ?_
     cases hf:NJ (s[k]'hp).toNat with
     | false=>rfl
     | true=>have:=YK hf; omega
  simp -implicitDefEqProofs only [List.getElem?_cons_zero,List.getElem?_cons_succ,BB,BP,AZ,BN,BI,A8,DX,AY,BC,BK,BU,CO,AO,AQ,AL,BD,AX,AC,AA,A7,AU,BH,BF,BA,BQ,APX,ET,FX,BR,AB,EJ,↓reduceIte,Nat.reduceEqDiff,Option.getD_some,Bool.not_false,enP,f0,f6,ATW hp]
  generalize hr:Utf8.decode s k=r at go
  obtain ⟨g1,g2,g3,g4⟩:=go r rfl
  have done : ∀ H',NJ r.1=true→(k=0→QR r.1=true)→H'=h ++ [ABlk.iter s (k+r.2)]→∃ m,m < n∧∃ k',m+k'=s.size∧H'=h ++ [.iter s k']∧(∀ i (hi:i < s.size),i < k'→NJ (s[i]'hi).toNat=true)∧(∀ hp:0 < s.size,0 < k'→QR (s[0]'hp).toNat=true):=by
   intro H' hf hlw hH
   obtain ⟨e1,e2⟩:=g1 hf
   refine ⟨n - 1,by omega,k+1,by omega,by rw [hH,e1],fun i hi hik => ?_,fun hp0 _ => ?_⟩
   ·rcases Nat.lt_or_ge i k with h' | h'
    ·exact hall i hi h'
    ·have:i=k:=by omega
     subst this; exact e2
   ·rcases Nat.eq_zero_or_pos k with h' | h'
    ·subst h'; have:=hlw rfl; rw [e1] at this; exact this
    ·exact h0 hp0 h'
  refine H8 (fun ha => ?_) (fun ha => ?_)
  ·have hk0:k=0:=by simp at ha; omega
   simp -implicitDefEqProofs only [BK,BU,CO,GN,AO,AQ,AL,BD,AX,AC,AA,A7,CB,BF,CE,BX,List.map_cons,List.map_nil,List.append_nil,↓reduceIte,Nat.reduceEqDiff,Option.getD_some,Bool.not_false,ha]
   refine (ABE G _ _).use ?_
   simp -implicitDefEqProofs only [AY,BK,BU,CO,GN,AO,AQ,AL,BD,AX,AC,AA,A7,AU,BL,BF,CP,DW,H9,AB,FB,↓reduceIte,Nat.reduceEqDiff,Option.getD_some,Bool.not_false]
   refine H8 (fun hb => ?_) (fun hb => ?_)
   ·simp -implicitDefEqProofs only [BB,AZ,BM,BI,A8,CS,EG,FM,CU,DX,AY,BC,BK,BU,CO,F5,AO,AQ,AL,BD,AX,AC,AA,EY,A7,AU,BL,BA,CP,DW,↓reduceIte,Nat.reduceEqDiff,Option.getD_some,Bool.not_false,hb]
    have hlw:QR r.1=false:=by simpa using hb
    exact ⟨by rw [g3 hlw hk0],_,rfl⟩
   have hlw:QR r.1=true:=by simpa using hb
   simp -implicitDefEqProofs only [BK,BU,CO,EO,AO,AQ,AL,BD,AX,AC,AA,A7,CB,BF,CE,BX,List.map_cons,List.map_nil,List.append_nil,↓reduceIte,Nat.reduceEqDiff,Option.getD_some,Bool.not_false,hb]
   refine (XJ G _ _).use ?_
   simp -implicitDefEqProofs only [BI,A8,AY,BC,BK,BU,CO,EO,AO,AQ,AL,BD,AX,AC,AA,A7,AU,BL,CP,DV,H9,AB,FB,↓reduceIte,Nat.reduceEqDiff,Option.getD_some,Bool.not_false]
   have hf:=g4 hlw
   simp -implicitDefEqProofs only [BN,D8,ED,DY,AA,↓reduceIte,Nat.reduceEqDiff,Bool.not_true,hf]
   obtain ⟨m,h1,k',h2,h3,h4,h5⟩:=done _ hf (fun _=>hlw) rfl
   exact ⟨m,h1,k',h2,f0,f6,h3,h4,h5⟩
  ·have hk0:k≠0:=by intro e; subst e; simp at ha
   simp -implicitDefEqProofs only [AY,BK,BU,CO,EO,JH,AO,AQ,AL,BD,AX,AC,AA,EY,A7,AU,CB,BL,BF,CP,DV,CE,BX,List.map_cons,List.map_nil,List.append_nil,↓reduceIte,Nat.reduceEqDiff,Option.getD_some,Bool.not_false,ha]
   refine (XJ G _ _).use ?_
   simp -implicitDefEqProofs only [BI,A8,AY,BC,BK,BU,CO,EO,AO,AQ,AL,BD,AX,AC,AA,A7,AU,BL,CP,DV,H9,AB,FB,↓reduceIte,Nat.reduceEqDiff,Option.getD_some,Bool.not_false]
   refine CQ (fun hb => ?_) (fun hb => ?_)
   ·have hf:NJ r.1=false:=by simpa using hb
    simp -implicitDefEqProofs only [BB,AZ,BM,A8,CS,EG,FM,CU,AY,BC,AO,AQ,AL,BD,AX,AC,AA,AU,BL,BA,↓reduceIte,Option.getD_some,Bool.not_false]
    exact ⟨by rw [g2 hf],_,rfl⟩
   ·have hf:NJ r.1=true:=by simpa using hb
    simp -implicitDefEqProofs only [BN,D8,ED,AA,↓reduceIte,Nat.reduceEqDiff]
    obtain ⟨m,h1,k',h2,h3,h4,h5⟩:=done _ hf (fun e=>absurd e hk0) rfl
    exact ⟨m,h1,k',h2,f0,f6,h3,h4,h5⟩
 ·simp -implicitDefEqProofs only [List.getElem?_cons_zero,BB,AZ,BM,DC,BI,A8,DZ,EN,EP,CU,DY,AY,BC,AO,AQ,AL,BD,AX,AC,AA,A7,AU,KI,BF,BA,BQ,APX,ET,FX,BR,AB,ACK,↓reduceIte,Nat.reduceEqDiff,Option.getD_some,Bool.not_false,enP,f0,f6,AQP hp]
  have hks:k=s.size:=by omega
  refine ⟨?_,_,rfl⟩
  congr 1
  rcases Nat.eq_zero_or_pos s.size with hz | hz
  ·have:s=⟨#[]⟩:=by
    obtain ⟨d⟩:=s
    have:d.size=0:=hz
    rw [Array.eq_empty_of_size_eq_zero this]
   subst this
   rw [ByteArray.toList_eq]
   rfl
  ·rw [AGV hz (h0 hz (by omega)) (fun i hi=>hall i hi (by omega))]
   have hne:s.toList≠[]:=by
    rw [ByteArray.toList_eq]
    intro e
    have:s.data.toList.length=0:=by rw [e]; rfl
    have h2:s.data.size=0:=by simpa using this
    have h3:s.size=s.data.size:=rfl
    omega
   cases hl2:s.toList with
   | nil=>exact absurd hl2 hne
   | cons=>rw [ByteArray.toList_eq]; rfl
end Go.Proofs.YtocilianjfhifaaGreatDoor.Bins
/- Contracts of the name tests and of Valid, of the program and of the reference; no condition. -/
set_option linter.unusedSimpArgs false
set_option maxRecDepth 8000
namespace Go.Proofs.YtocilianjfhifaaGreatDoor.Bins
open Go Go.Proofs.YtocilianjfhifaaGreatDoor.Sm

theorem NW (G:Nat→AV) (hG:KwG G) (s:ByteArray) (h:Hp) (hl:s.size≤1099511627776):PCall (En G) 150 [.str s] h (.bool (G9 s)):=by
 refine CG (H:=Hint.none) (enM G) Tryz.func150 rfl (by kernel_rfl) (by kernel_rfl) (Nat.le_of_ble_eq_true (by kernel_rfl)) ?_
 show awp _ _ _ _ _ (EU _ [.tmp 2] _)
 simp -implicitDefEqProofs only [BB,AZ,A8,AY,BC,AO,AQ,AL,BD,AX,AC,AA,A7,AU,CB,BL,BF,BA,CE,BX,BG,List.map_cons,List.map_nil,List.append_nil,↓reduceIte,Nat.reduceEqDiff,Option.getD_some,Bool.not_false,enP]
 refine (ANP G s h hl).use ?_
 simp -implicitDefEqProofs only [AY,BK,BU,CO,AO,AQ,AL,BD,AX,AC,AA,A7,BF,↓reduceIte,Option.getD_some,Bool.not_false]
 refine H8 (fun ha => ?_) (fun ha => ?_)
 ·simp -implicitDefEqProofs only [AY,BK,BU,CO,GN,AO,AQ,AL,BD,AX,AC,AA,A7,AU,BH,BL,BF,CP,DW,BQ,DN,AB,KZ,BG,↓reduceIte,Nat.reduceEqDiff,Option.getD_some,Bool.not_false,enP,ln9,ha]
  refine H8 (fun hb => ?_) (fun hb => ?_)
  ·simp -implicitDefEqProofs only [BK,BU,CO,GN,AO,AQ,AL,BD,AX,AC,AA,A7,CB,BF,CE,BX,BG,List.map_cons,List.map_nil,List.append_nil,↓reduceIte,Nat.reduceEqDiff,Option.getD_some,Bool.not_false,hb]
   refine (ABL G hG s h).use ?_
   simp -implicitDefEqProofs only [BM,A8,CU,AY,BC,BK,BU,CO,GN,AO,AQ,AL,BD,AX,AC,AA,A7,AU,BL,BA,CP,DW,H9,AB,FB,↓reduceIte,Nat.reduceEqDiff,Option.getD_some,Bool.not_false]
   refine ⟨?_,trivial⟩
   have:decide (s.size≤16)=true:=by simp at hb ⊢; omega
   unfold G9; rw [ha,this]; rfl
  ·simp -implicitDefEqProofs only [BM,A8,CU,AY,BC,BK,BU,CO,JH,AO,AQ,AL,BD,AX,AC,AA,EY,A7,AU,BL,BA,CP,DV,↓reduceIte,Nat.reduceEqDiff,Option.getD_some,Bool.not_false,hb]
   refine ⟨?_,trivial⟩
   have:decide (s.size≤16)=false:=by simp at hb ⊢; omega
   unfold G9; rw [ha,this]; rfl
 ·simp -implicitDefEqProofs only [BM,A8,CU,AY,BC,BK,BU,CO,JH,AO,AQ,AL,BD,AX,AC,AA,EY,A7,AU,BL,BF,BA,CP,DV,↓reduceIte,Nat.reduceEqDiff,Option.getD_some,Bool.not_false,ha]
  exact ⟨by unfold G9; rw [ha]; rfl,trivial⟩

theorem ix9 (s:ByteArray) (k:Nat) (kk:IntKind) (hk:k < s.size):PP Tryz.prog 9 (.str s) (.int kk (k:Int))=some (.int .u8 (s[k]'hk).toNat):=by
 have hu:Tryz.prog.underlying 9=some .string:=by kernel_rfl
 have h0:(0:Int)≤(k:Int):=by omega
 have:s[k]? = some (s[k]'hk):=by simp [hk]
 simp [PP,hu,h0,this]

theorem OV (G:Nat→AV) (s:ByteArray) (h:Hp):PCall (En G) 160 [.str s] h (.bool (G9 s)):=by
 refine CG (H:=Hint.none) (enM G) Tryz.func160 rfl (by kernel_rfl) (by kernel_rfl) (Nat.le_of_ble_eq_true (by kernel_rfl)) ?_
 show awp _ _ _ _ _ (EU _ [.tmp 2] _)
 simp -implicitDefEqProofs only [BB,AZ,A8,AY,BC,BK,BU,CO,AO,AQ,AL,BD,AX,AC,AA,A7,AU,BL,KI,BF,BA,BQ,AB,NL,BG,↓reduceIte,Nat.reduceEqDiff,Option.getD_some,Bool.not_false,enP]
 refine H8 (fun ha => ?_) (fun ha => ?_)
 ·simp -implicitDefEqProofs only [BB,AZ,BM,BI,A8,CS,CU,DX,AY,BC,BK,BU,CO,F5,AO,AQ,AL,BD,AX,AC,AA,EY,A7,AU,BL,BF,BA,CP,DW,↓reduceIte,Nat.reduceEqDiff,Option.getD_some,Bool.not_false,ha]
  refine ⟨?_,trivial⟩
  have:s.data.toList = []:=by
   rw [ByteArray.toList_eq,ByteArray.toList_eq] at ha
   have:=beq_iff_eq.1 ha
   exact this
  unfold G9 RJ; rw [this]; rfl
 have hz:0 < s.size:=by
  rcases Nat.eq_zero_or_pos s.size with hz | hz
  ·have:s=⟨#[]⟩:=by
    obtain ⟨d⟩:=s
    have:d.size=0:=hz
    rw [Array.eq_empty_of_size_eq_zero this]
   rw [this] at ha
   simp at ha
  ·exact hz
 simp -implicitDefEqProofs only [AY,BK,BU,CO,EO,AO,AQ,AL,BD,AX,AC,AA,A7,AU,BH,BL,BF,CP,DV,BQ,DN,AB,EW,BG,↓reduceIte,Nat.reduceEqDiff,Option.getD_some,Bool.not_false,enP,ln9,ha]
 refine H8 (fun hb => ?_) (fun hb => ?_)
 ·simp -implicitDefEqProofs only [BB,AZ,BM,BI,A8,CS,CU,DX,AY,BC,BK,BU,CO,F5,AO,AQ,AL,BD,AX,AC,AA,EY,A7,AU,BL,BF,BA,CP,DW,↓reduceIte,Nat.reduceEqDiff,Option.getD_some,Bool.not_false,hb]
  refine ⟨?_,trivial⟩
  have:decide (s.size≤16)=false:=by simp at hb ⊢; omega
  unfold G9; rw [this]; simp
 have h16:decide (s.size≤16)=true:=by simp at hb ⊢; omega
 simp -implicitDefEqProofs only [BK,BU,CO,EO,AO,AQ,AL,BD,AX,AC,AA,A7,AU,BH,BF,PQ,BG,↓reduceIte,Nat.reduceEqDiff,Option.getD_some,Bool.not_false,enP,hb]
 refine F9 (v := .int .u8 (s[0]'hz).toNat) (h:=h) (by rw [show (0:Int)=((0:Nat):Int) from rfl,ix9 s 0 .i64 hz]; rfl) ?_
 simp -implicitDefEqProofs only [BK,BU,CO,EO,AO,AQ,AL,BD,AX,AC,AA,A7,CB,CE,BX,List.map_cons,List.map_nil,List.append_nil,↓reduceIte,Nat.reduceEqDiff,Option.getD_some,Bool.not_false]
 refine (ADY G _ h).use ?_
 simp -implicitDefEqProofs only [AY,BK,BU,CO,EO,AO,AQ,AL,BD,AX,AC,AA,A7,AU,BL,BF,CP,DV,H9,AB,FB,↓reduceIte,Nat.reduceEqDiff,Option.getD_some,Bool.not_false]
 refine H8 (fun hc => ?_) (fun hc => ?_)
 ·simp -implicitDefEqProofs only [BB,AZ,BM,BI,A8,CS,CU,DX,AY,BC,BK,BU,CO,F5,AO,AQ,AL,BD,AX,AC,AA,EY,A7,AU,BL,BA,CP,DW,↓reduceIte,Nat.reduceEqDiff,Option.getD_some,Bool.not_false,hc]
  refine ⟨?_,trivial⟩
  unfold G9; rw [Y0 hz (by simpa using hc)]; rfl
 simp -implicitDefEqProofs only [BK,BU,CO,EO,AO,AQ,AL,BD,AX,AC,AA,A7,CB,BF,CE,BX,BG,List.map_cons,List.map_nil,List.append_nil,↓reduceIte,Nat.reduceEqDiff,Option.getD_some,Bool.not_false,hc]
 refine (AC9 G s h).use ?_
 simp -implicitDefEqProofs only [BI,A8,AY,BC,AO,AQ,AL,BD,AX,AC,AA,A7,AU,BL,CP,DV,↓reduceIte,Nat.reduceEqDiff,Option.getD_some,Bool.not_false]
 refine CQ (fun hd => ?_) (fun hd => ?_)
 ·simp -implicitDefEqProofs only [BB,AZ,BM,A8,CS,CU,AY,BC,AO,AQ,AL,BD,AX,AC,AA,AU,BL,BA,↓reduceIte,Option.getD_some,Bool.not_false]
  refine ⟨?_,trivial⟩
  unfold G9; rw [hd]; simp
 simp -implicitDefEqProofs only [BB,BP,AZ,BN,A8,AY,BC,AO,AQ,AL,BD,AX,AC,AU,BH,BA,Option.getD_some,Bool.not_false]
 have hlow:QR (s[0]'hz).toNat=true:=by simpa using hc
 refine C9 (fun n F H => ∃ k,n+k=s.size∧F 0 = .str s∧F 3 = .int .i64 (k:Nat)∧H=h∧(∀ i (hi:i < s.size),i < k→NJ (s[i]'hi).toNat=true)) s.size ⟨0,by simp,by simp -implicitDefEqProofs only [AA,BG,↓reduceIte,Nat.reduceEqDiff],by simp -implicitDefEqProofs only [AA,↓reduceIte]; rfl,rfl,fun _ _ h=>absurd h (by omega)⟩ ?_
 rintro n F H ⟨k,hk,f0,f3,rfl,hall⟩
 simp -implicitDefEqProofs only [BB,AZ,BI,A8,AY,BC,AO,AQ,AL,BD,AX,AC,AA,A7,BF,BQ,DN,AB,CW,↓reduceIte,Nat.reduceEqDiff,Option.getD_some,Bool.not_false,enP,ln9,f0,f3]
 refine CQ (fun he => ?_) (fun he => ?_)
 ·have hk':k < s.size:=by simpa using he
  simp -implicitDefEqProofs only [BB,BP,AZ,BN,A8,AY,AO,AQ,AL,BD,AX,AC,AA,A7,CB,BF,PQ,CE,BX,AB,List.map_cons,List.map_nil,List.append_nil,↓reduceIte,Nat.reduceEqDiff,Option.getD_some,Bool.not_false,enP,f0,f3,ix9 s k .i64 hk']
  refine (AOP G _ _).use ?_
  simp -implicitDefEqProofs only [BI,A8,AY,BC,AO,AQ,AL,BD,AX,AC,AA,A7,H9,AB,FB,↓reduceIte,Option.getD_some,Bool.not_false]
  refine CQ (fun hf => ?_) (fun hf => ?_)
  ·simp -implicitDefEqProofs only [BB,AZ,BM,A8,CS,EG,FM,CU,AY,BC,AO,AQ,AL,BD,AX,AC,AA,AU,BL,BA,↓reduceIte,Option.getD_some,Bool.not_false]
   refine ⟨?_,trivial⟩
   unfold G9; rw [SQ hk' (by simpa using hf)]; rfl
  ·simp -implicitDefEqProofs only [AZ,BN,A8,D8,ED,AY,BC,AO,AQ,AL,BD,AX,AC,AA,A7,AU,BH,BF,BA,BQ,AB,CZ,↓reduceIte,Nat.reduceEqDiff,Option.getD_some,Bool.not_false,enP,f3,wrap_succ (show k < 9223372036854775807 by simp at h16; omega)]
   refine ⟨n - 1,by omega,k+1,by omega,f0,rfl,trivial,fun i hi hik => ?_⟩
   rcases Nat.lt_or_ge i k with h' | h'
   ·exact hall i hi h'
   ·have:i=k:=by omega
    subst this; simpa using hf
 ·have hk' : ¬ k < s.size:=by simpa using he
  simp -implicitDefEqProofs only [BB,AZ,BM,DC,A8,DZ,EN,EP,CU,AY,BC,AO,AQ,AL,BD,AX,AC,AA,AU,BL,BA,↓reduceIte,Option.getD_some,Bool.not_false]
  refine ⟨?_,trivial⟩
  unfold G9
  rw [AGV hz hlow (fun i hi=>hall i hi (by omega)),h16,hd]; rfl

/-- what the reference says of the shape -/
def JX (b:Bin):Bool :=
 decide (b.kind < 0) || decide (b.kind > 2) || (decide ((b.ranges.l.length:Int) > 0) == decide ((b.steps.length:Int) > 0)) || (b.kind != 0 && decide ((b.steps.length:Int) > 0)) || ((b.steps.length:Int) == 1) || decide ((b.steps.length:Int) > 8)
def IR (b:Bin):Int :=
 if G9 b.name then if JX b then 1 else if b.steps.any (fun l=>decide (l.l.length=0)) then 1 else
  if (sets b).any (fun l=>decide (l.l.length > 64)) then 2 else if (sets b).any (fun l=>l.l.any bad) then 1 else 0
 else 7

/-- what the program says of the shape -/
def shape (b:Bin):Bool :=
 if (b.kind != 0 && b.kind != 1 && b.kind != 2) then false else if ((b.steps.length:Int) == 0) then decide ((b.ranges.l.length:Int) > 0) else
  if (decide ((b.ranges.l.length:Int) > 0) || b.kind != 0 || decide ((b.steps.length:Int) < 2) || decide ((b.steps.length:Int) > 8)) then false else !(b.steps.any (fun l=>decide (l.l.length=0)))

theorem AJ3 : ∀ (n p z o t r s0 s1 s8 E:Bool),((n || p || z || o || t) && !(n && p) && !(n && z) && !(n && o) && !(n && t) && !(p && z) && !(p && o) && !(p && t) && !(z && o) && !(z && t) && !(o && t) && !(s0 && s1) && !(s0 && s8) && !(s1 && s8) && !(s0 && E))=true →
 (if (!z && !o && !t) then false else if s0 then r else if (r || !z || (s0 || s1) || s8) then false else !E)=(!(n || p || (r == !s0) || (!z && !s0) || s1 || s8) && !E):=by decide +kernel
theorem ANX (k r s:Int) (E:Bool) (hs:0≤s) (hE:s=0→E=false) :
  (if (k != 0 && k != 1 && k != 2) then false else if (s == 0) then decide (r > 0) else if (decide (r > 0) || k != 0 || decide (s < 2) || decide (s > 8)) then false else !E) =
  (!(decide (k < 0) || decide (k > 2) || (decide (r > 0) == decide (s > 0)) || (k != 0 && decide (s > 0)) || (s == 1) || decide (s > 8)) && !E):=by
 have h1:decide (s > 0) = !(s == 0):=by rw [Bool.eq_iff_iff]; simp; omega
 have h2:decide (s < 2)=((s == 0) || (s == 1)):=by rw [Bool.eq_iff_iff]; simp; omega
 rw [h1,h2]
 have key:=AJ3 (decide (k < 0)) (decide (k > 2)) (k == 0) (k == 1) (k == 2) (decide (r > 0)) (s == 0) (s == 1) (decide (s > 8)) E ?_
 ·exact key
 ·have a1:(decide (k < 0) || decide (k > 2) || (k == 0) || (k == 1) || (k == 2))=true:=by simp; omega
  have no : ∀ (p q:Prop) [Decidable p] [Decidable q],¬ (p∧q)→(!(decide p && decide q))=true:=by
   intro p q _ _ h; by_cases hp:p <;> by_cases hq:q <;> simp_all
  have e0:(s == 0 && E)=false:=by
   by_cases hz:s=0
   ·rw [hE hz]; simp
   ·simp [hz]
  have b0:(k == 0)=decide (k=0):=rfl
  have b1:(k == 1)=decide (k=1):=rfl
  have b2:(k == 2)=decide (k=2):=rfl
  have c0:(s == 0)=decide (s=0):=rfl
  have c1:(s == 1)=decide (s=1):=rfl
  rw [e0]
  rw [b0,b1,b2] at a1 ⊢
  rw [c0,c1,a1,no _ _ (show ¬ (k < 0∧k > 2) by omega),no _ _ (show ¬ (k < 0∧k=0) by omega),no _ _ (show ¬ (k < 0∧k=1) by omega),no _ _ (show ¬ (k < 0∧k=2) by omega),
   no _ _ (show ¬ (k > 2∧k=0) by omega),no _ _ (show ¬ (k > 2∧k=1) by omega),no _ _ (show ¬ (k > 2∧k=2) by omega),no _ _ (show ¬ (k=0∧k=1) by omega),no _ _ (show ¬ (k=0∧k=2) by omega),no _ _ (show ¬ (k=1∧k=2) by omega),
   no _ _ (show ¬ (s=0∧s=1) by omega),no _ _ (show ¬ (s=0∧s > 8) by omega),no _ _ (show ¬ (s=1∧s > 8) by omega)]
  rfl
theorem AHB (b:Bin):shape b=(!JX b && !(b.steps.any (fun l=>decide (l.l.length=0)))) :=
 ANX b.kind b.ranges.l.length b.steps.length _ (by omega) (fun h=>by
  have:b.steps = []:=List.eq_nil_of_length_eq_zero (by omega)
  rw [this]; rfl)

theorem AJ2 (G:Nat→AV) (b:Bin) (h:Hp) (hl:b.steps.length≤1099511627776):PCall (En G) 201 [.agg (J9 b)] h (.bool (shape b)):=by
 refine ACalls.pure0 rfl ?_
 refine CG (H:=Hint.none) (enM G) Tryz.func201 rfl (by kernel_rfl) (by kernel_rfl) (Nat.le_of_ble_eq_true (by kernel_rfl)) ?_
 show awp _ _ _ _ _ (EU _ [.tmp 2] _)
 simp -implicitDefEqProofs only [BB,BP,AZ,A8,AY,BC,BK,BU,CO,AO,AQ,AL,BD,AX,AC,AA,A7,AU,BH,BL,BF,BA,FK,BO,BQ,BJ,DN,BR,AB,EQ,BG,↓reduceIte,Nat.reduceEqDiff,Nat.zero_add,Option.getD_some,Bool.not_false,enP,RS,MK,MW,bxB,DI SI,DI Q5,DI ag3,Q3,XR,SB,List.length_map]
 refine TN (fun F H=>F 7 = .bool (b.kind != 0 && b.kind != 1 && b.kind != 2)∧F 1 = .ptr h.length 0 0∧F 3 = .int .i64 b.steps.length∧H=h ++ [.live 4 [J9 b]]) ?_ ?_
 ·refine H8 (fun ha => ?_) (fun ha => ?_)
  ·simp -implicitDefEqProofs only [AY,BK,BU,CO,GN,AO,AQ,AL,BD,AX,AC,AA,A7,AU,BH,BL,BF,CP,DW,BO,BQ,BJ,AB,EQ,↓reduceIte,Nat.reduceEqDiff,Nat.zero_add,Option.getD_some,Bool.not_false,enP,MK,ha,DI ag3,Q3]
   refine H8 (fun hb => ?_) (fun hb => ?_)
   ·simp -implicitDefEqProofs only [AY,BC,BK,BU,CO,GN,AO,AQ,AL,BD,AX,AC,AA,A7,AU,BH,BL,BA,CP,DW,BO,BQ,BJ,AB,EQ,↓reduceIte,Nat.reduceEqDiff,Nat.zero_add,Option.getD_some,Bool.not_false,enP,MK,hb,DI ag3,Q3]
    exact ⟨rfl,trivial,trivial,trivial⟩
   ·simp -implicitDefEqProofs only [AY,BC,BK,BU,CO,JH,AO,AQ,AL,BD,AX,AC,AA,EY,A7,AU,BL,BA,CP,DV,↓reduceIte,Nat.reduceEqDiff,Option.getD_some,Bool.not_false,hb]
    exact ⟨rfl,trivial,trivial,trivial⟩
  ·simp -implicitDefEqProofs only [AY,BC,BK,BU,CO,JH,AO,AQ,AL,BD,AX,AC,AA,EY,A7,AU,BL,BF,BA,CP,DV,↓reduceIte,Nat.reduceEqDiff,Option.getD_some,Bool.not_false,ha]
   exact ⟨rfl,trivial,trivial,trivial⟩
 rintro F H ⟨f7,f1,f3,rfl⟩
 simp -implicitDefEqProofs only [BI,A8,A7,f7,f1,f3]
 refine CQ (fun hk => ?_) (fun hk => ?_)
 ·simp -implicitDefEqProofs only [BB,AZ,BM,A8,CS,EG,CU,AY,BC,AO,AQ,AL,BD,AX,AC,AA,AU,BL,BA,↓reduceIte,Option.getD_some,Bool.not_false]
  exact ⟨by unfold shape; rw [if_pos hk],_,rfl⟩
 have hk' : ¬ (b.kind != 0 && b.kind != 1 && b.kind != 2)=true:=by rw [hk]; simp
 simp -implicitDefEqProofs only [BB,AZ,BI,A8,AY,BC,AO,AQ,AL,BD,AX,AC,AA,A7,AU,BH,BF,BA,BQ,AB,EJ,↓reduceIte,Option.getD_some,Bool.not_false,enP,f1,f3]
 refine CQ (fun hs => ?_) (fun hs => ?_)
 ·simp -implicitDefEqProofs only [BB,AZ,BM,A8,CS,EG,CU,AY,BC,AO,AQ,AL,BD,AX,AC,AA,A7,AU,BH,BA,BO,BQ,BJ,DN,AB,EW,↓reduceIte,Nat.reduceEqDiff,Nat.zero_add,Option.getD_some,Bool.not_false,enP,RU,QZ,f1,DI Q5,XR,List.length_map]
  exact ⟨by unfold shape; rw [if_neg hk',if_pos hs],_,rfl⟩
 have hs' : ¬ ((b.steps.length:Int) == 0)=true:=by rw [hs]; simp
 simp -implicitDefEqProofs only [BB,AZ,AY,BK,BU,CO,AO,AQ,AL,BD,AX,AC,AA,A7,AU,BH,BF,BO,BQ,BJ,DN,AB,EW,↓reduceIte,Nat.reduceEqDiff,Nat.zero_add,Option.getD_some,Bool.not_false,enP,RU,QZ,f1,f3,DI Q5,XR,List.length_map]
 refine TN (fun F H=>F 28 = .bool (decide ((b.ranges.l.length:Int) > 0) || b.kind != 0 || decide ((b.steps.length:Int) < 2) || decide ((b.steps.length:Int) > 8))∧F 1 = .ptr h.length 0 0∧H=h ++ [.live 4 [J9 b]]) ?_ ?_
 ·refine H8 (fun ha => ?_) (fun ha => ?_)
  ·simp -implicitDefEqProofs only [Bool.true_or,AY,BC,BK,BU,CO,F5,AO,AQ,AL,BD,AX,AC,AA,EY,A7,AU,BL,BF,BA,CP,DW,↓reduceIte,Nat.reduceEqDiff,Option.getD_some,Bool.not_false,ha,f1]
   exact ⟨trivial,trivial,trivial⟩
  simp -implicitDefEqProofs only [Bool.false_or,AY,BK,BU,CO,EO,AO,AQ,AL,BD,AX,AC,AA,A7,AU,BH,BL,BF,CP,DV,BO,BQ,BJ,AB,EQ,↓reduceIte,Nat.reduceEqDiff,Nat.zero_add,Option.getD_some,Bool.not_false,enP,MK,ha,f1,DI ag3,Q3]
  refine H8 (fun hb => ?_) (fun hb => ?_)
  ·simp -implicitDefEqProofs only [Bool.true_or,AY,BC,BK,BU,CO,F5,AO,AQ,AL,BD,AX,AC,AA,EY,A7,AU,BL,BF,BA,CP,DW,↓reduceIte,Nat.reduceEqDiff,Option.getD_some,Bool.not_false,hb,f1]
   exact ⟨trivial,trivial,trivial⟩
  simp -implicitDefEqProofs only [Bool.false_or,AY,BK,BU,CO,EO,AO,AQ,AL,BD,AX,AC,AA,A7,AU,BH,BL,BF,CP,DV,BQ,AB,CW,↓reduceIte,Nat.reduceEqDiff,Option.getD_some,Bool.not_false,enP,hb,f1,f3]
  refine H8 (fun hc => ?_) (fun hc => ?_)
  ·simp -implicitDefEqProofs only [Bool.true_or,AY,BC,BK,BU,CO,F5,AO,AQ,AL,BD,AX,AC,AA,EY,A7,AU,BL,BA,CP,DW,↓reduceIte,Nat.reduceEqDiff,Option.getD_some,Bool.not_false,hc,f1]
   exact ⟨trivial,trivial,trivial⟩
  ·simp -implicitDefEqProofs only [Bool.false_or,AY,BC,BK,BU,CO,EO,AO,AQ,AL,BD,AX,AC,AA,A7,AU,BH,BL,BF,BA,CP,DV,BQ,AB,EW,↓reduceIte,Nat.reduceEqDiff,Option.getD_some,Bool.not_false,enP,hc,f1,f3]
   exact ⟨trivial,trivial,trivial⟩
 rintro F H ⟨f28,f1,rfl⟩
 simp -implicitDefEqProofs only [BI,A8,A7,f28,f1]
 refine CQ (fun ho => ?_) (fun ho => ?_)
 ·simp -implicitDefEqProofs only [BB,AZ,BM,A8,CS,EG,CU,AY,BC,AO,AQ,AL,BD,AX,AC,AA,AU,BL,BA,↓reduceIte,Option.getD_some,Bool.not_false]
  exact ⟨by unfold shape; rw [if_neg hk',if_neg hs',if_pos ho],_,rfl⟩
 have ho' : ¬ (decide ((b.ranges.l.length:Int) > 0) || b.kind != 0 || decide ((b.steps.length:Int) < 2) || decide ((b.steps.length:Int) > 8))=true:=by rw [ho]; simp
 simp -implicitDefEqProofs only [BB,AZ,BN,A8,D8,AY,AO,AQ,AL,BD,AX,AC,AA,A7,CB,BO,BJ,CE,BX,AB,List.map_cons,List.map_nil,List.append_nil,↓reduceIte,Nat.zero_add,Option.getD_some,Bool.not_false,enP,MW,f1,DI SI,SB]
 refine (ACE G b.steps b.sm 235 [] (fun l=>decide (l.l.length=0)) _ hl fun r=>ARX G r _).use ?_
 simp -implicitDefEqProofs only [BM,A8,CU,AY,BC,AO,AQ,AL,BD,AX,AC,AA,A7,BA,H9,AB,FB,↓reduceIte,Option.getD_some,Bool.not_false]
 exact ⟨by unfold shape; rw [if_neg hk',if_neg hs',if_neg ho'],_,rfl⟩

theorem Y3 {b:Bin} (h:G9 b.name=false):IR b=7:=by unfold IR; rw [h]; rfl
theorem WU {b:Bin} (h:G9 b.name=true) (hs:JX b=true):IR b=1:=by unfold IR; rw [h,hs]; rfl
theorem WV {b:Bin} (h:G9 b.name=true) (hs:b.steps.any (fun l=>decide (l.l.length=0))=true):IR b=1:=by
 unfold IR; rw [h,hs]; cases JX b <;> rfl
theorem TZ {b:Bin} (h:G9 b.name=true) (hs:JX b=false) (he:b.steps.any (fun l=>decide (l.l.length=0))=false) :
  IR b=if (sets b).any (fun l=>decide (l.l.length > 64)) then 2 else if (sets b).any (fun l=>l.l.any bad) then 1 else 0:=by
 unfold IR; rw [h,hs,he]; rfl

/-- a bin that fits -/
structure BinOk (b:Bin):Prop where
 num:(sets b).length≤1099511627776
 name:b.name.size≤1099511627776
 steps:b.steps.length≤1099511627776
 sets : ∀ l∈sets b,l.l.length≤1099511627776

theorem AHN (xs:List Rng):decide (JB xs=2)=decide (xs.length > 64):=by
 unfold JB
 split
 ·simp_all
 ·split <;> simp_all
theorem Y9 (xs:List Rng):decide (JB xs=1)=(decide (¬ xs.length > 64) && xs.any bad):=by
 unfold JB
 split
 ·rename_i h; simp [h]
 ·rename_i h
  split
  ·rename_i h2; simp only [h2,h]; rfl
  ·rename_i h2; simp only [Bool.not_eq_true] at h2; simp only [h2]; simp
theorem APY {b:Bin} (h:G9 b.name=true) (hs:JX b=false) (he:b.steps.any (fun l=>decide (l.l.length=0))=false) :
  IR b=if (sets b).any (fun l=>decide (JB l.l=2)) then 2 else if (sets b).any (fun l=>decide (JB l.l=1)) then 1 else 0:=by
 rw [TZ h hs he]
 simp only [AHN]
 split
 ·rfl
 ·rename_i hn
  have:(sets b).any (fun l=>decide (JB l.l=1))=(sets b).any (fun l=>l.l.any bad):=by
   rw [Bool.eq_iff_iff,List.any_eq_true,List.any_eq_true]
   constructor
   ·rintro ⟨l,h1,h2⟩
    rw [Y9] at h2
    simp only [Bool.and_eq_true] at h2
    exact ⟨l,h1,h2.2⟩
   ·rintro ⟨l,h1,h2⟩
    refine ⟨l,h1,?_⟩
    rw [Y9,h2]
    rw [Bool.not_eq_true,List.any_eq_false] at hn
    have:=hn l h1
    simp only [decide_eq_true_eq] at this
    simp only [this,not_false_eq_true,decide_true,Bool.and_self]
  rw [this]

theorem UT {α:Type} (p:α→Bool) (xs:List α) (k:Nat) (h:k < xs.length):(xs.take (k+1)).any p=((xs.take k).any p || p xs[k]):=by
 rw [List.take_succ_eq_append_getElem h,List.any_append,List.any_cons,List.any_nil,Bool.or_false]

theorem AJW (G:Nat→AV) (hG:KwG G) (b:Bin) (hb:BinOk b) (h:Hp):PCall (En G) 152 [.agg (J9 b)] h (.int .i64 (IR b)):=by
 refine ACalls.pure0 rfl ?_
 refine CG (H:=Hint.none) (enM G) Tryz.func152 rfl (by kernel_rfl) (by kernel_rfl) (Nat.le_of_ble_eq_true (by kernel_rfl)) ?_
 show awp _ _ _ _ _ (EU _ [.tmp 2] _)
 simp -implicitDefEqProofs only [BB,AZ,A8,AY,BC,AO,AQ,AL,BD,AX,AC,AA,A7,AU,CB,BH,BA,FK,BO,BJ,CE,BX,BR,AB,BG,List.map_cons,List.map_nil,List.append_nil,↓reduceIte,Nat.reduceEqDiff,Nat.add_zero,Option.getD_some,Bool.not_false,enP,AAG,bxB,DI ag9,AM9]
 refine (NW G hG b.name _ hb.name).use ?_
 simp -implicitDefEqProofs only [BI,A8,AY,BC,AO,AQ,AL,BD,AX,AC,AA,A7,H9,AB,FB,↓reduceIte,Option.getD_some,Bool.not_false]
 refine CQ (fun hn => ?_) (fun hn => ?_)
 ·simp -implicitDefEqProofs only [BB,AZ,BM,A8,CS,CU,AY,BC,AO,AQ,AL,BD,AX,AC,AA,AU,BH,BA,↓reduceIte,Option.getD_some,Bool.not_false]
  exact ⟨by rw [Y3 (by simpa using hn)],_,rfl⟩
 have hn':G9 b.name=true:=by simpa using hn
 simp -implicitDefEqProofs only [BB,AZ,BN,A8,AY,AO,AQ,AL,BD,AX,AC,AA,A7,CB,BO,CE,BX,AB,List.map_cons,List.map_nil,List.append_nil,↓reduceIte,Nat.reduceEqDiff,Option.getD_some,Bool.not_false,enP,ldB]
 refine (AJ2 G b _ hb.steps).use ?_
 simp -implicitDefEqProofs only [BI,A8,AY,BC,AO,AQ,AL,BD,AX,AC,AA,A7,H9,AB,FB,↓reduceIte,Option.getD_some,Bool.not_false]
 refine CQ (fun hs => ?_) (fun hs => ?_)
 ·simp -implicitDefEqProofs only [BB,AZ,BM,A8,CS,CU,AY,BC,AO,AQ,AL,BD,AX,AC,AA,AU,BH,BA,↓reduceIte,Option.getD_some,Bool.not_false]
  refine ⟨?_,_,rfl⟩
  have h1:shape b=false:=by simpa using hs
  rw [AHB] at h1
  cases hr:JX b with
  | true=>rw [WU hn' hr]
  | false =>
    rw [hr] at h1
    rw [WV hn' (by simpa using h1)]
 have h1:shape b=true:=by simpa using hs
 rw [AHB] at h1
 simp only [Bool.and_eq_true,Bool.not_eq_true'] at h1
 have hv:=TZ hn' h1.1 h1.2
 simp -implicitDefEqProofs only [BB,AZ,BN,A8,AY,BC,AO,AQ,AL,BD,AX,AC,AA,A7,AU,CB,BL,BA,BO,CE,BX,AB,List.map_cons,List.map_nil,List.append_nil,↓reduceIte,Nat.reduceEqDiff,Option.getD_some,Bool.not_false,enP,ldB]
 refine (ANZ G b _).use ?_
 simp -implicitDefEqProofs only [BP,A8,AY,BC,AO,AQ,AL,BD,AX,AC,AA,A7,AU,BH,BF,DN,AB,↓reduceIte,Option.getD_some,Bool.not_false,enP,RS,List.length_map]
 refine C9 (fun n F H => ∃ k,n+k=(sets b).length∧F 3 = .bool (((sets b).take k).any fun l=>decide (JB l.l=2))∧F 4 = .bool (((sets b).take k).any fun l=>decide (JB l.l=1))∧F 15 = .sl (VQ b) 1 ((sets b).map encS)∧F 16 = .int .i64 (sets b).length∧F 17 = .int .i64 (k:Nat)∧H=h ++ [.live 4 [J9 b]]) (sets b).length ⟨0,by simp,rfl,rfl,rfl,rfl,rfl,rfl⟩ ?_
 rintro n F H ⟨k,hk,f3,f4,f15,f16,f17,rfl⟩
 simp -implicitDefEqProofs only [BB,AZ,BI,A8,AY,BC,AO,AQ,AL,BD,AX,AC,AA,A7,BQ,AB,CW,↓reduceIte,Option.getD_some,Bool.not_false,enP,f15,f16,f17]
 refine CQ (fun hc => ?_) (fun hc => ?_)
 ·have hc':k < (sets b).length:=by simpa using hc
  simp -implicitDefEqProofs only [BB,BP,AZ,BN,A8,AY,BC,AO,AQ,AL,BD,AX,AC,AA,A7,CB,BF,BA,BO,BZ,CE,BX,AB,List.map_cons,List.map_nil,List.append_nil,↓reduceIte,Nat.reduceEqDiff,Option.getD_some,Bool.not_false,enP,AH1,f15,f17,DJ hc',CV Q5 hc',AIT]
  refine (AHM G _ _ _ (hb.sets _ (List.getElem_mem hc'))).use ?_
  have t2:=UT (fun l:Rs=>decide (JB l.l=2)) (sets b) k hc'
  have t1:=UT (fun l:Rs=>decide (JB l.l=1)) (sets b) k hc'
  simp -implicitDefEqProofs only [BB,BP,AZ,BI,A8,AY,BC,AO,AQ,AL,BD,AX,AC,AA,A7,AU,BH,BA,BQ,AB,EJ,↓reduceIte,Option.getD_some,Bool.not_false,enP]
  refine CQ (fun hd => ?_) (fun hd => ?_)
  ·have hd':JB (sets b)[k].l=2:=by simpa using hd
   simp -implicitDefEqProofs only [AZ,A8,D8,ED,AY,BC,AO,AQ,AL,BD,AX,AC,AA,A7,AU,BH,BL,BF,BA,BQ,AB,CZ,↓reduceIte,Nat.reduceEqDiff,Option.getD_some,Bool.not_false,enP,f17,wrap_succ (show k < 9223372036854775807 by have:=hb.num; omega)]
   refine ⟨n - 1,by omega,k+1,by omega,?_,?_,f15,f16,rfl,trivial⟩
   ·rw [t2,hd']; simp
   ·rw [f4,t1,hd']; simp
  simp -implicitDefEqProofs only [BB,AZ,BI,A8,AY,BC,AO,AQ,AL,BD,AX,AC,AA,A7,AU,BH,BA,BQ,AB,EJ,↓reduceIte,Nat.reduceEqDiff,Option.getD_some,Bool.not_false,enP]
  refine CQ (fun he => ?_) (fun he => ?_)
  ·have he':JB (sets b)[k].l=1:=by simpa using he
   simp -implicitDefEqProofs only [AZ,A8,D8,ED,AY,BC,AO,AQ,AL,BD,AX,AC,AA,A7,AU,BH,BL,BF,BA,BQ,AB,CZ,↓reduceIte,Nat.reduceEqDiff,Option.getD_some,Bool.not_false,enP,f17,wrap_succ (show k < 9223372036854775807 by have:=hb.num; omega)]
   refine ⟨n - 1,by omega,k+1,by omega,?_,?_,f15,f16,rfl,trivial⟩
   ·rw [f3,t2,he']; simp
   ·rw [t1,he']; simp
  ·have hd':JB (sets b)[k].l≠2:=by simpa using hd
   have he':JB (sets b)[k].l≠1:=by simpa using he
   simp -implicitDefEqProofs only [AZ,BN,A8,D8,ED,AY,BC,AO,AQ,AL,BD,AX,AC,AA,A7,AU,BH,BF,BQ,AB,CZ,↓reduceIte,Nat.reduceEqDiff,Option.getD_some,Bool.not_false,enP,f17,wrap_succ (show k < 9223372036854775807 by have:=hb.num; omega)]
   refine ⟨n - 1,by omega,k+1,by omega,?_,?_,f15,f16,rfl,trivial⟩
   ·rw [f3,t2]; simp [hd']
   ·rw [f4,t1]; simp [he']
 ·have hc' : ¬ k < (sets b).length:=by simpa using hc
  rw [List.take_of_length_le (by omega)] at f3 f4
  have hE:=APY hn' h1.1 h1.2
  simp -implicitDefEqProofs only [BB,BP,AZ,DC,BI,A8,DZ,EN,EP,AY,BC,AO,AQ,AL,BD,AX,AC,AA,A7,BF,BA,↓reduceIte,Nat.reduceEqDiff,Option.getD_some,Bool.not_false,f3,f4]
  refine CQ (fun hd => ?_) (fun hd => ?_)
  ·simp -implicitDefEqProofs only [BB,AZ,BM,A8,CS,EG,CU,AY,BC,AO,AQ,AL,BD,AX,AC,AA,AU,BH,BA,↓reduceIte,Option.getD_some,Bool.not_false]
   exact ⟨by rw [hE,if_pos hd],_,rfl⟩
  simp -implicitDefEqProofs only [BB,AZ,BI,A8,AY,BC,AO,AQ,AL,BD,AX,AC,AA,A7,BF,BA,↓reduceIte,Nat.reduceEqDiff,Option.getD_some,Bool.not_false,f4]
  refine CQ (fun he => ?_) (fun he => ?_)
  ·simp -implicitDefEqProofs only [BB,AZ,BM,A8,CS,EG,CU,AY,BC,AO,AQ,AL,BD,AX,AC,AA,AU,BH,BA,↓reduceIte,Option.getD_some,Bool.not_false]
   exact ⟨by rw [hE,if_neg (by rw [hd]; simp),if_pos he],_,rfl⟩
  ·simp -implicitDefEqProofs only [BB,AZ,BN,BM,A8,D8,CU,AY,BC,AO,AQ,AL,BD,AX,AC,AA,AU,BH,BA,↓reduceIte,Option.getD_some,Bool.not_false]
   exact ⟨by rw [hE,if_neg (by rw [hd]; simp),if_neg (by rw [he]; simp)],_,rfl⟩
end Go.Proofs.YtocilianjfhifaaGreatDoor.Bins
/- The contract of the reference's Valid; no condition. -/
set_option linter.unusedSimpArgs false
set_option maxRecDepth 8000
namespace Go.Proofs.YtocilianjfhifaaGreatDoor.Bins
open Go Go.Proofs.YtocilianjfhifaaGreatDoor.Sm

theorem ANR (G:Nat→AV) (b:Bin) (hb:BinOk b) (h:Hp):PCall (En G) 162 [.agg (J9 b)] h (.int .i64 (IR b)):=by
 refine ACalls.pure0 rfl ?_
 refine CG (H:=Hint.none) (enM G) Tryz.func162 rfl (by kernel_rfl) (by kernel_rfl) (Nat.le_of_ble_eq_true (by kernel_rfl)) ?_
 show awp _ _ _ _ _ (EU _ [.tmp 2] _)
 simp -implicitDefEqProofs only [BB,AZ,A8,AY,BC,AO,AQ,AL,BD,AX,AC,AA,A7,AU,CB,BH,BA,FK,BO,BJ,CE,BX,BR,AB,BG,List.map_cons,List.map_nil,List.append_nil,↓reduceIte,Nat.reduceEqDiff,Nat.add_zero,Option.getD_some,Bool.not_false,enP,AAG,bxB,DI ag9,AM9]
 refine (OV G b.name _).use ?_
 simp -implicitDefEqProofs only [BI,A8,AY,BC,AO,AQ,AL,BD,AX,AC,AA,A7,H9,AB,FB,↓reduceIte,Option.getD_some,Bool.not_false]
 refine CQ (fun hn => ?_) (fun hn => ?_)
 ·simp -implicitDefEqProofs only [BB,AZ,BM,A8,CS,CU,AY,BC,AO,AQ,AL,BD,AX,AC,AA,AU,BH,BA,↓reduceIte,Option.getD_some,Bool.not_false]
  exact ⟨by rw [Y3 (by simpa using hn)],_,rfl⟩
 have hn':G9 b.name=true:=by simpa using hn
 simp -implicitDefEqProofs only [BB,AZ,BN,A8,AY,BK,BU,CO,AO,AQ,AL,BD,AX,AC,AA,A7,AU,BH,BF,BO,BQ,BJ,AB,CW,↓reduceIte,Nat.reduceEqDiff,Nat.zero_add,Option.getD_some,Bool.not_false,enP,MK,DI ag3,Q3]
 refine TN (fun F H=>F 53 = .bool (JX b)∧F 1 = .ptr h.length 0 0∧H=h ++ [.live 4 [J9 b]]) ?_ ?_
 ·refine H8 (fun ha => ?_) (fun ha => ?_)
  ·simp -implicitDefEqProofs only [AY,BC,BK,BU,CO,F5,QP,AO,AQ,AL,BD,AX,AC,AA,EY,A7,AU,BL,BF,CP,DW,↓reduceIte,Nat.reduceEqDiff,Option.getD_some,Bool.not_false,ha]
   exact ⟨by unfold JX; rw [ha]; rfl,trivial,trivial⟩
  simp -implicitDefEqProofs only [AY,BK,BU,CO,EO,AO,AQ,AL,BD,AX,AC,AA,A7,AU,BH,BL,BF,CP,DV,BO,BQ,BJ,AB,EW,↓reduceIte,Nat.reduceEqDiff,Nat.zero_add,Option.getD_some,Bool.not_false,enP,MK,ha,DI ag3,Q3]
  refine H8 (fun hb => ?_) (fun hb => ?_)
  ·simp -implicitDefEqProofs only [AY,BC,BK,BU,CO,F5,QP,AO,AQ,AL,BD,AX,AC,AA,EY,A7,AU,BL,BF,CP,DW,↓reduceIte,Nat.reduceEqDiff,Option.getD_some,Bool.not_false,hb]
   exact ⟨by unfold JX; rw [ha,hb]; rfl,trivial,trivial⟩
  simp -implicitDefEqProofs only [AY,BK,BU,CO,EO,AO,AQ,AL,BD,AX,AC,AA,A7,AU,BH,BL,BF,CP,DV,BO,BQ,BJ,DN,AB,EW,↓reduceIte,Nat.reduceEqDiff,Nat.zero_add,Option.getD_some,Bool.not_false,enP,be4,RU,RS,QZ,MW,hb,DI Q5,DI SI,XR,SB,List.length_map]
  refine H8 (fun hc => ?_) (fun hc => ?_)
  ·simp -implicitDefEqProofs only [AY,BC,BK,BU,CO,F5,QP,AO,AQ,AL,BD,AX,AC,AA,EY,A7,AU,BL,BF,CP,DW,↓reduceIte,Nat.reduceEqDiff,Option.getD_some,Bool.not_false,hc]
   exact ⟨by unfold JX; rw [ha,hb,hc]; rfl,trivial,trivial⟩
  simp -implicitDefEqProofs only [BK,BU,CO,EO,AO,AQ,AL,BD,AX,AC,AA,A7,AU,BH,BF,BO,BQ,BJ,AB,EQ,↓reduceIte,Nat.reduceEqDiff,Nat.zero_add,Option.getD_some,Bool.not_false,enP,MK,hc,DI ag3,Q3]
  refine H8 (fun hd => ?_) (fun hd => ?_)
  ·simp -implicitDefEqProofs only [AY,BK,BU,CO,GN,EO,AO,AQ,AL,BD,AX,AC,AA,A7,AU,BH,BL,BF,CP,DW,DV,BO,BQ,BJ,DN,AB,EW,↓reduceIte,Nat.reduceEqDiff,Nat.zero_add,Option.getD_some,Bool.not_false,enP,RS,MW,hd,DI SI,SB,List.length_map]
   refine H8 (fun he => ?_) (fun he => ?_)
   ·simp -implicitDefEqProofs only [AY,BC,BK,BU,CO,F5,AO,AQ,AL,BD,AX,AC,AA,EY,A7,AU,BL,BF,CP,DW,↓reduceIte,Nat.reduceEqDiff,Option.getD_some,Bool.not_false,he]
    exact ⟨by unfold JX; rw [ha,hb,hc,hd,he]; rfl,trivial,trivial⟩
   simp -implicitDefEqProofs only [AY,BK,BU,CO,EO,AO,AQ,AL,BD,AX,AC,AA,A7,AU,BH,BL,BF,CP,DV,BO,BQ,BJ,DN,AB,EJ,↓reduceIte,Nat.reduceEqDiff,Nat.zero_add,Option.getD_some,Bool.not_false,enP,RS,MW,he,DI SI,SB,List.length_map]
   refine H8 (fun hf => ?_) (fun hf => ?_)
   ·simp -implicitDefEqProofs only [AY,BC,BK,BU,CO,F5,AO,AQ,AL,BD,AX,AC,AA,EY,A7,AU,BL,CP,DW,↓reduceIte,Nat.reduceEqDiff,Option.getD_some,Bool.not_false,hf]
    exact ⟨by unfold JX; rw [ha,hb,hc,hd,he,hf]; rfl,trivial,trivial⟩
   ·simp -implicitDefEqProofs only [AY,BC,BK,BU,CO,EO,AO,AQ,AL,BD,AX,AC,AA,A7,AU,BH,BL,CP,DV,BO,BQ,BJ,DN,AB,EW,↓reduceIte,Nat.reduceEqDiff,Nat.zero_add,Option.getD_some,Bool.not_false,enP,RS,MW,hf,DI SI,SB,List.length_map]
    exact ⟨by unfold JX; rw [ha,hb,hc,hd,he,hf]; rfl,trivial,trivial⟩
  ·simp -implicitDefEqProofs only [AY,BK,BU,CO,EO,JH,AO,AQ,AL,BD,AX,AC,AA,EY,A7,AU,BH,BL,BF,CP,DV,BO,BQ,BJ,DN,AB,EJ,↓reduceIte,Nat.reduceEqDiff,Nat.zero_add,Option.getD_some,Bool.not_false,enP,RS,MW,hd,DI SI,SB,List.length_map]
   refine H8 (fun hf => ?_) (fun hf => ?_)
   ·simp -implicitDefEqProofs only [AY,BC,BK,BU,CO,F5,AO,AQ,AL,BD,AX,AC,AA,EY,A7,AU,BL,CP,DW,↓reduceIte,Nat.reduceEqDiff,Option.getD_some,Bool.not_false,hf]
    exact ⟨by unfold JX; rw [ha,hb,hc,hd,hf]; rfl,trivial,trivial⟩
   ·simp -implicitDefEqProofs only [AY,BC,BK,BU,CO,EO,AO,AQ,AL,BD,AX,AC,AA,A7,AU,BH,BL,CP,DV,BO,BQ,BJ,DN,AB,EW,↓reduceIte,Nat.reduceEqDiff,Nat.zero_add,Option.getD_some,Bool.not_false,enP,RS,MW,hf,DI SI,SB,List.length_map]
    exact ⟨by unfold JX; rw [ha,hb,hc,hd,hf]; rfl,trivial,trivial⟩
 rintro F H ⟨f53,f1,rfl⟩
 simp -implicitDefEqProofs only [BI,A8,A7,f53,f1]
 refine CQ (fun hs => ?_) (fun hs => ?_)
 ·simp -implicitDefEqProofs only [BB,AZ,BM,A8,CS,CU,AY,BC,AO,AQ,AL,BD,AX,AC,AA,AU,BH,BA,↓reduceIte,Option.getD_some,Bool.not_false]
  exact ⟨by rw [WU hn' hs],_,rfl⟩
 simp -implicitDefEqProofs only [BB,BP,AZ,BN,A8,AY,BC,AO,AQ,AL,BD,AX,AC,AU,BH,BA,Option.getD_some,Bool.not_false]
 refine F8 0 (fun F H=>F 1 = .ptr h.length 0 0∧H=h ++ [.live 4 [J9 b]]∧b.steps.any (fun l=>decide (l.l.length=0))=false) (fun F H=>F 2 = .int .i64 (IR b)∧H=h ++ [.live 4 [J9 b]]) ?_ ?_ ?_
 ·refine C9 (fun n F H => ∃ k,n+k=b.steps.length∧F 1 = .ptr h.length 0 0∧F 3 = .int .i64 (k:Nat)∧H=h ++ [.live 4 [J9 b]]∧(b.steps.take k).any (fun l=>decide (l.l.length=0))=false) b.steps.length ⟨0,by simp,by simp -implicitDefEqProofs only [AA,↓reduceIte,Nat.reduceEqDiff,f1],by simp -implicitDefEqProofs only [AA,↓reduceIte]; rfl,rfl,rfl⟩ ?_
  rintro n F H ⟨k,hk,f1,f3,rfl,hin⟩
  simp -implicitDefEqProofs only [BB,AZ,BI,A8,AY,BC,AO,AQ,AL,BD,AX,AC,AA,A7,BF,BO,BQ,BJ,DN,AB,CW,↓reduceIte,Nat.reduceEqDiff,Nat.zero_add,Option.getD_some,Bool.not_false,enP,RS,MW,f1,f3,DI SI,SB,List.length_map]
  refine CQ (fun hc => ?_) (fun hc => ?_)
  ·have hc':k < b.steps.length:=by simpa using hc
   have t0:=UT (fun l:Rs=>decide (l.l.length=0)) b.steps k hc'
   simp -implicitDefEqProofs only [BB,BP,AZ,BN,BI,A8,AY,BC,AO,AQ,AL,BD,AX,AC,AA,A7,AU,BH,BF,BO,BQ,BJ,BZ,DN,AB,EJ,↓reduceIte,Nat.reduceEqDiff,Nat.zero_add,Option.getD_some,Bool.not_false,enP,RU,AH1,MW,f1,f3,DI SI,SB,DJ hc',CV Q5 hc',AIT,List.length_map]
   refine CQ (fun hd => ?_) (fun hd => ?_)
   ·simp -implicitDefEqProofs only [BB,AZ,BM,A8,CS,EG,LW,FM,AY,BC,AO,AQ,AL,BD,AX,AC,AA,AU,BH,BA,↓reduceIte,Option.getD_some,Bool.not_false]
    refine ⟨?_,trivial⟩
    have:b.steps.any (fun l=>decide (l.l.length=0))=true:=by
     rw [List.any_eq_true]
     exact ⟨b.steps[k],by simp,by simp at hd; simp [hd]⟩
    rw [WV hn' this]
   ·simp -implicitDefEqProofs only [AZ,BN,A8,D8,ED,AY,BC,AO,AQ,AL,BD,AX,AC,AA,A7,AU,BH,BF,BA,BQ,AB,CZ,↓reduceIte,Nat.reduceEqDiff,Option.getD_some,Bool.not_false,enP,f3,wrap_succ (show k < 9223372036854775807 by have:=hb.steps; omega)]
    refine ⟨n - 1,by omega,k+1,by omega,f1,rfl,trivial,?_⟩
    rw [t0,hin]
    simp at hd
    simp [hd]
  ·have hc' : ¬ k < b.steps.length:=by simpa using hc
   simp -implicitDefEqProofs only [DC,DZ,JM,EP,AA,↓reduceIte,Nat.reduceEqDiff]
   rw [List.take_of_length_le (by omega)] at hin
   exact ⟨f1,trivial,hin⟩
 ·rintro F H ⟨f1,rfl,he⟩
  have hs':JX b=false:=by simpa using hs
  have hv:=TZ hn' hs' he
  simp -implicitDefEqProofs only [BB,AZ,A8,EN,AY,AO,AQ,AL,BD,AX,AC,AA,A7,CB,BO,CE,BX,AB,List.map_cons,List.map_nil,List.append_nil,↓reduceIte,Option.getD_some,Bool.not_false,enP,f1,ldB]
  refine (AQB G b _).use ?_
  simp -implicitDefEqProofs only [BB,BP,AZ,A8,AY,BC,AO,AQ,AL,BD,AX,AC,AA,A7,AU,BH,BA,↓reduceIte,Option.getD_some,Bool.not_false]
  refine F8 2 (fun F H=>F 4 = .sl (VQ b) 1 ((sets b).map encS)∧H=h ++ [.live 4 [J9 b]]∧(sets b).any (fun l=>decide (l.l.length > 64))=false) (fun F H=>F 2 = .int .i64 (IR b)∧H=h ++ [.live 4 [J9 b]]) ?_ ?_ ?_
  ·refine C9 (fun n F H => ∃ k,n+k=(sets b).length∧F 4 = .sl (VQ b) 1 ((sets b).map encS)∧F 5 = .int .i64 (k:Nat)∧H=h ++ [.live 4 [J9 b]]∧((sets b).take k).any (fun l=>decide (l.l.length > 64))=false) (sets b).length ⟨0,by simp,by simp -implicitDefEqProofs only [AA,↓reduceIte,Nat.reduceEqDiff],by simp -implicitDefEqProofs only [AA,↓reduceIte]; rfl,rfl,rfl⟩ ?_
   rintro n F H ⟨k,hk,f4,f5,rfl,hin⟩
   simp -implicitDefEqProofs only [BB,AZ,BI,A8,AY,BC,AO,AQ,AL,BD,AX,AC,AA,A7,BF,BQ,DN,AB,CW,↓reduceIte,Nat.reduceEqDiff,Option.getD_some,Bool.not_false,enP,RS,f4,f5,List.length_map]
   refine CQ (fun hc => ?_) (fun hc => ?_)
   ·have hc':k < (sets b).length:=by simpa using hc
    have t0:=UT (fun l:Rs=>decide (l.l.length > 64)) (sets b) k hc'
    simp -implicitDefEqProofs only [BB,BP,AZ,BN,BI,A8,AY,BC,AO,AQ,AL,BD,AX,AC,AA,A7,AU,BH,BF,BO,BQ,BZ,DN,AB,EW,↓reduceIte,Nat.reduceEqDiff,Option.getD_some,Bool.not_false,enP,RU,AH1,f4,f5,DJ hc',CV Q5 hc',AIT,List.length_map]
    refine CQ (fun hd => ?_) (fun hd => ?_)
    ·simp -implicitDefEqProofs only [BB,AZ,BM,A8,CS,EG,LW,FM,AY,BC,AO,AQ,AL,BD,AX,AC,AA,AU,BH,BA,↓reduceIte,Option.getD_some,Bool.not_false]
     refine ⟨?_,trivial⟩
     have:(sets b).any (fun l=>decide (l.l.length > 64))=true:=by
      rw [List.any_eq_true]
      exact ⟨(sets b)[k],by simp,by simp at hd ⊢; omega⟩
     rw [hv,if_pos this]
    ·simp -implicitDefEqProofs only [AZ,BN,A8,D8,ED,AY,BC,AO,AQ,AL,BD,AX,AC,AA,A7,AU,BH,BF,BA,BQ,AB,CZ,↓reduceIte,Nat.reduceEqDiff,Option.getD_some,Bool.not_false,enP,f5,wrap_succ (show k < 9223372036854775807 by have:=hb.num; omega)]
     refine ⟨n - 1,by omega,k+1,by omega,f4,rfl,trivial,?_⟩
     rw [t0,hin]
     simp at hd ⊢
     omega
   ·have hc' : ¬ k < (sets b).length:=by simpa using hc
    simp -implicitDefEqProofs only [DC,DZ,JM,EP,AA,↓reduceIte,Nat.reduceEqDiff]
    rw [List.take_of_length_le (by omega)] at hin
    exact ⟨f4,trivial,hin⟩
  ·rintro F H ⟨f4,rfl,h64⟩
   rw [h64] at hv
   simp only [Bool.false_eq_true,if_false] at hv
   simp -implicitDefEqProofs only [BB,BP,AZ,A8,EN,AY,BC,AO,AQ,AL,BD,AX,AC,AU,BH,BA,↓reduceIte,Option.getD_some,Bool.not_false,f4]
   refine C9 (fun n F H => ∃ k,n+k=(sets b).length∧F 4 = .sl (VQ b) 1 ((sets b).map encS)∧F 6 = .int .i64 (k:Nat)∧H=h ++ [.live 4 [J9 b]]∧((sets b).take k).any (fun l=>l.l.any bad)=false) (sets b).length ⟨0,by simp,by simp -implicitDefEqProofs only [AA,↓reduceIte,Nat.reduceEqDiff,f4],by simp -implicitDefEqProofs only [AA,↓reduceIte]; rfl,rfl,rfl⟩ ?_
   rintro n F H ⟨k,hk,f4,f6,rfl,hin⟩
   simp -implicitDefEqProofs only [BB,AZ,BI,A8,AY,BC,AO,AQ,AL,BD,AX,AC,AA,A7,BF,BQ,DN,AB,CW,↓reduceIte,Nat.reduceEqDiff,Option.getD_some,Bool.not_false,enP,RS,f4,f6,List.length_map]
   refine CQ (fun hc => ?_) (fun hc => ?_)
   ·have hc':k < (sets b).length:=by simpa using hc
    have t0:=UT (fun l:Rs=>l.l.any bad) (sets b) k hc'
    simp -implicitDefEqProofs only [BB,BP,AZ,BN,A8,AY,AO,AQ,AL,BD,AX,AC,AA,A7,CB,BF,BO,BZ,CE,BX,AB,List.map_cons,List.map_nil,List.append_nil,↓reduceIte,Nat.reduceEqDiff,Option.getD_some,Bool.not_false,enP,AH1,f4,f6,DJ hc',CV Q5 hc',AIT,List.length_map]
    refine (AJ9 G _ _ _).use ?_
    have hk64 : ¬ (sets b)[k].l.length > 64:=by
     rw [List.any_eq_false] at h64
     have:=h64 (sets b)[k] (by simp)
     simpa using this
    simp -implicitDefEqProofs only [BB,AZ,BI,A8,AY,BC,AO,AQ,AL,BD,AX,AC,AA,A7,AU,BH,BF,BA,BQ,AB,EQ,↓reduceIte,Option.getD_some,Bool.not_false,enP]
    cases hbad:(sets b)[k].l.any bad with
    | true =>
      have hr:=UG hk64 hbad
      refine CQ (fun hd => ?_) (fun hd => ?_)
      ·simp -implicitDefEqProofs only [BB,AZ,BM,A8,CS,EG,FM,CU,AY,BC,AO,AQ,AL,BD,AX,AC,AA,A7,BF,BA,↓reduceIte,Nat.reduceEqDiff,Option.getD_some,Bool.not_false]
       refine ⟨?_,_,rfl⟩
       have:(sets b).any (fun l=>l.l.any bad)=true:=by
        rw [List.any_eq_true]
        exact ⟨(sets b)[k],by simp,hbad⟩
       rw [hr,hv,if_pos this]
      ·rw [hr] at hd; simp at hd
    | false =>
      have hr:=V9 hk64 hbad
      refine CQ (fun hd => ?_) (fun hd => ?_)
      ·rw [hr] at hd; simp at hd
      ·simp -implicitDefEqProofs only [AZ,BN,A8,D8,ED,AY,BC,AO,AQ,AL,BD,AX,AC,AA,A7,AU,BH,BF,BA,BQ,AB,CZ,↓reduceIte,Nat.reduceEqDiff,Option.getD_some,Bool.not_false,enP,f6,wrap_succ (show k < 9223372036854775807 by have:=hb.num; omega)]
       refine ⟨n - 1,by omega,k+1,by omega,f4,rfl,trivial,?_⟩
       rw [t0,hin,hbad]; rfl
   ·have hc' : ¬ k < (sets b).length:=by simpa using hc
    simp -implicitDefEqProofs only [BB,AZ,BM,DC,A8,DZ,EN,EP,CU,AY,BC,AO,AQ,AL,BD,AX,AC,AA,AU,BH,BA,↓reduceIte,Option.getD_some,Bool.not_false]
    rw [List.take_of_length_le (by omega)] at hin
    exact ⟨by rw [hv,if_neg (by rw [hin]; simp)],_,rfl⟩
  ·rintro F H ⟨f2,rfl⟩
   simp -implicitDefEqProofs only [CS,EG,CU]
   exact ⟨f2,_,rfl⟩
 ·rintro F H ⟨f2,rfl⟩
  simp -implicitDefEqProofs only [CS,EG,CU]
  exact ⟨by rw [f2],_,rfl⟩
end Go.Proofs.YtocilianjfhifaaGreatDoor.Bins
/- Expressions: their encoding, their nodes, their readers; no condition. -/
namespace Go.Proofs.YtocilianjfhifaaGreatDoor.Cov
open Go Go.Proofs.YtocilianjfhifaaGreatDoor.Sm Go.Proofs.YtocilianjfhifaaGreatDoor.Bins

inductive Ex where
 | mk (op n:Int) (name:ByteArray) (m:SM) (args:List Ex)
def Ex.op:Ex→Int | .mk op _ _ _ _=>op
def Ex.n:Ex→Int | .mk _ n _ _ _=>n
def Ex.name:Ex→ByteArray | .mk _ _ name _ _=>name
def Ex.m:Ex→SM | .mk _ _ _ m _=>m
def Ex.args:Ex→List Ex | .mk _ _ _ _ args=>args
mutual
def G6:Ex→List AV
 | .mk op n name m args => [.int .i64 op,.int .i64 n,.str name,.sl m 4 (AIX args)]
def AIX:List Ex→List (List AV)
 | [] => []
 | e :: es=>G6 e :: AIX es
end
theorem AEN : ∀ l:List Ex,AIX l=l.map G6
 | []=>by simp [AIX]
 | e :: es=>by simp [AIX,AEN es]
theorem OG (e:Ex):G6 e = [.int .i64 e.op,.int .i64 e.n,.str e.name,.sl e.m 4 (e.args.map G6)]:=by
 cases e; simp [G6,AEN,Ex.op,Ex.n,Ex.name,Ex.m,Ex.args]
theorem KU (e:Ex):(G6 e).length=4:=by rw [OG]; rfl
theorem KW (e:Ex):(G6 e)[0]? = some (.int .i64 e.op):=by rw [OG]; rfl
theorem AB8 (e:Ex):(G6 e)[1]? = some (.int .i64 e.n):=by rw [OG]; rfl
theorem SA (e:Ex):(G6 e)[2]? = some (.str e.name):=by rw [OG]; rfl
theorem AEP (e:Ex):(G6 e)[3]? = some (.sl e.m 4 (e.args.map G6)):=by rw [OG]; rfl
theorem AEO (e:Ex):(G6 e).all AV.leaf=true:=by rw [OG]; rfl
theorem bxE (h:Hp) (e:Ex):PY h (.agg (G6 e))=some (.ptr h.length 0 0,h ++ [.live 4 [G6 e]]):=by
 have:=VH (h:=h) (AEO e)
 rw [KU] at this; exact this
theorem ldE (h:Hp) (e:Ex):EE Tryz.prog (h ++ [.live 4 [G6 e]]) 53 (.ptr h.length 0 0)=some (.agg (G6 e)):=by
 rw [AD7 AJK AC4 (by rw [KU]; exact Nat.le_refl 4)]
 rw [List.drop_zero,List.take_of_length_le (by rw [KU]; exact Nat.le_refl 4)]
theorem WE {h:Hp} {b:Nat} {e:Ex} (hb:h[b]? = some (.live 4 [G6 e])):EE Tryz.prog h 53 (.ptr b 0 0)=some (.agg (G6 e)):=by
 rw [JE AJK AC4 hb rfl (by rw [KU]; exact Nat.le_refl 4)]
 rw [List.drop_zero,List.take_of_length_le (by rw [KU]; exact Nat.le_refl 4)]

mutual
/-- the nodes, each ahead of its operands -/
def pre:Ex→List Ex
 | .mk op n name m args => .mk op n name m args :: MB args
def MB:List Ex→List Ex
 | [] => []
 | e :: es=>pre e ++ MB es
end
mutual
def dep:Ex→Nat
 | .mk _ _ _ _ args=>deps args+1
def deps:List Ex→Nat
 | []=>0
 | e :: es=>max (dep e) (deps es)
end
mutual
/-- how much an expression weighs -/
def wt:Ex→Nat
 | .mk _ _ name _ args=>name.size+1+wts args
def wts:List Ex→Nat
 | []=>0
 | e :: es=>wt e+wts es
end
theorem pre_eq (e:Ex):pre e=e :: MB e.args:=by cases e; simp [pre,Ex.args]
theorem AGF (e:Ex):dep e=deps e.args+1:=by cases e; simp [dep,Ex.args]
theorem QA (e:Ex):wt e=e.name.size+1+wts e.args:=by cases e; simp [wt,Ex.args,Ex.name]
theorem UH (xs ys:List Ex):MB (xs ++ ys)=MB xs ++ MB ys:=by
 induction xs with
 | nil=>simp [MB]
 | cons x xs ih=>simp [MB,ih]
theorem ZX (xs:List Ex):xs.length≤wts xs:=by
 induction xs with
 | nil=>simp [wts]
 | cons x xs ih=>have:=QA x; simp [wts]; omega
theorem WT {xs:List Ex} {x:Ex} (h:x∈xs):wt x≤wts xs:=by
 induction xs with
 | nil=>cases h
 | cons y ys ih =>
   simp only [wts]
   cases List.mem_cons.1 h with
   | inl e=>subst e; omega
   | inr e=>have:=ih e; omega
theorem AEQ (xs:List Ex) (k:Nat) (h:k < xs.length):deps (xs.take (k+1))=max (deps (xs.take k)) (dep xs[k]):=by
 induction xs generalizing k with
 | nil=>simp at h
 | cons x xs ih =>
   cases k with
   | zero=>simp [deps]
   | succ k =>
     simp only [List.take_succ_cons,deps,List.getElem_cons_succ]
     rw [ih k (by simpa using h),Nat.max_assoc]
theorem Ex.induct {P:Ex→Prop} (h : ∀ e:Ex,(∀ a∈e.args,P a)→P e) (e:Ex):P e:=by
 have : ∀ n (e:Ex),wt e≤n→P e:=by
  intro n
  induction n with
  | zero=>intro e he; have:=QA e; omega
  | succ n ih =>
    intro e he
    refine h e fun a ha=>ih a ?_
    have h1:=WT ha
    have h2:=QA e
    omega
 exact this _ e (Nat.le_refl _)
theorem AR0 (e:Ex):dep e≤wt e:=by
 refine Ex.induct (P:=fun e=>dep e≤wt e) (fun e ih => ?_) e
 rw [AGF,QA]
 have:deps e.args≤wts e.args:=by
  generalize e.args=l at ih
  induction l with
  | nil=>simp [deps,wts]
  | cons x l ih2 =>
    have h1:=ih x (by simp)
    have h2:=ih2 (fun a ha=>ih a (by simp [ha]))
    simp only [deps,wts]; omega
 omega
theorem AQI (e:Ex):(pre e).length≤wt e:=by
 refine Ex.induct (P:=fun e=>(pre e).length≤wt e) (fun e ih => ?_) e
 rw [pre_eq,QA]
 have:(MB e.args).length≤wts e.args:=by
  generalize e.args=l at ih
  induction l with
  | nil=>simp [MB,wts]
  | cons x l ih2 =>
    have h1:=ih x (by simp)
    have h2:=ih2 (fun a ha=>ih a (by simp [ha]))
    simp only [MB,wts,List.length_append]; omega
 simp; omega
end Go.Proofs.YtocilianjfhifaaGreatDoor.Cov
/- Operators: how many operands; whether a node is well formed; no condition. -/
set_option linter.unusedSimpArgs false
set_option maxRecDepth 8000
namespace Go.Proofs.YtocilianjfhifaaGreatDoor.Cov
open Go Go.Proofs.YtocilianjfhifaaGreatDoor.Sm Go.Proofs.YtocilianjfhifaaGreatDoor.Bins

def arity (op:Int):Int:=if op < 1∨op > 25 then -1 else if op=1∨op=2∨op=24 then 0 else if op=3∨op=4∨op=5∨op=6∨op=25 then 1 else if op=22 then 3 else if op=23 then -1 else 2
set_option maxHeartbeats 2000000 in
theorem ALG (G:Nat→AV) (op:Int) (h:Hp):PCall (En G) 258 [.int .i64 op] h (.int .i64 (arity op)):=by
 refine CG (H:=Hint.none) (enM G) Tryz.func258 rfl (by kernel_rfl) (by kernel_rfl) (Nat.le_of_ble_eq_true (by kernel_rfl)) ?_
 show awp _ _ _ _ _ (EU _ [.tmp 2] _)
 have hcase:op < 1∨op > 25∨op=1∨op=2∨op=3∨op=4∨op=5∨op=6∨op=7∨op=8∨op=9∨op=10∨op=11∨op=12∨op=13∨op=14∨op=15∨op=16∨op=17∨op=18∨op=19∨op=20∨op=21∨op=22∨op=23∨op=24∨op=25:=by omega
 rcases hcase with h | h | rfl | rfl | rfl | rfl | rfl | rfl | rfl | rfl | rfl | rfl | rfl | rfl | rfl | rfl | rfl | rfl | rfl | rfl | rfl | rfl | rfl | rfl | rfl | rfl | rfl
 ·have hne : ∀ k:Int,1≤k→(op == k)=false:=fun k hk=>beq_eq_false_iff_ne.2 (by omega)
  have hd:decide (op < 1)=true:=by simp; omega
  have ha:arity op = -1:=by unfold arity; rw [if_pos (Or.inl h)]
  rw [ha]
  simp -implicitDefEqProofs only [BB,BP,AZ,BN,BM,BI,A8,CS,D8,CU,DX,DY,AY,BC,BK,BU,CO,F5,AO,AQ,AL,BD,AX,AC,AA,EY,A7,AU,BH,BL,BF,BA,CP,DW,BQ,AB,EJ,CW,BG,↓reduceIte,Nat.reduceEqDiff,Option.getD_some,Bool.not_false,enP,hne 1 (by decide),hne 2 (by decide),hne 3 (by decide),hne 4 (by decide),hne 5 (by decide),hne 6 (by decide),hne 7 (by decide),hne 8 (by decide),hne 9 (by decide),hne 10 (by decide),hne 11 (by decide),hne 12 (by decide),hne 13 (by decide),hne 14 (by decide),hne 15 (by decide),hne 16 (by decide),hne 17 (by decide),hne 18 (by decide),hne 19 (by decide),hne 20 (by decide),hne 21 (by decide),hne 22 (by decide),hne 23 (by decide),hne 24 (by decide),hne 25 (by decide),hd]
  exact ⟨trivial,trivial⟩
 ·have hne : ∀ k:Int,k≤25→(op == k)=false:=fun k hk=>beq_eq_false_iff_ne.2 (by omega)
  have hd:decide (op < 1)=false:=by simp; omega
  have hd2:decide (op > 25)=true:=by simp; omega
  have ha:arity op = -1:=by unfold arity; rw [if_pos (Or.inr h)]
  rw [ha]
  simp -implicitDefEqProofs only [BB,BP,AZ,BN,BM,BI,A8,CS,D8,CU,DX,DY,AY,BC,BK,BU,CO,EO,AO,AQ,AL,BD,AX,AC,AA,A7,AU,BH,BL,BF,BA,CP,DV,BQ,AB,EJ,CW,EW,BG,↓reduceIte,Nat.reduceEqDiff,Option.getD_some,Bool.not_false,enP,hne 1 (by decide),hne 2 (by decide),hne 3 (by decide),hne 4 (by decide),hne 5 (by decide),hne 6 (by decide),hne 7 (by decide),hne 8 (by decide),hne 9 (by decide),hne 10 (by decide),hne 11 (by decide),hne 12 (by decide),hne 13 (by decide),hne 14 (by decide),hne 15 (by decide),hne 16 (by decide),hne 17 (by decide),hne 18 (by decide),hne 19 (by decide),hne 20 (by decide),hne 21 (by decide),hne 22 (by decide),hne 23 (by decide),hne 24 (by decide),hne 25 (by decide),hd,hd2]
  exact ⟨trivial,trivial⟩
 all_goals
  simp -implicitDefEqProofs only [BB,BP,AZ,BN,BM,BI,A8,CS,D8,EG,CU,DX,DY,AY,BC,BK,BU,CO,EO,AO,AQ,AL,BD,AX,AC,AA,A7,AU,BH,BL,BF,BA,CP,DV,BQ,AB,EJ,CW,EW,BG,↓reduceIte,Nat.reduceEqDiff,Option.getD_some,Bool.not_false,decide_false,enP,Int.reduceBEq,Int.reduceLT,Int.reduceGT]
  exact ⟨rfl,trivial⟩

set_option maxHeartbeats 2000000 in
theorem APH (G:Nat→AV) (op:Int) (h:Hp):PCall (En G) 254 [.int .i64 op] h (.int .i64 (arity op)):=by
 refine CG (H:=Hint.none) (enM G) Tryz.func254 rfl (by kernel_rfl) (by kernel_rfl) (Nat.le_of_ble_eq_true (by kernel_rfl)) ?_
 show awp _ _ _ _ _ (EU _ [.tmp 2] _)
 have hcase:op < 1∨op > 25∨op=1∨op=2∨op=3∨op=4∨op=5∨op=6∨op=7∨op=8∨op=9∨op=10∨op=11∨op=12∨op=13∨op=14∨op=15∨op=16∨op=17∨op=18∨op=19∨op=20∨op=21∨op=22∨op=23∨op=24∨op=25:=by omega
 rcases hcase with h | h | rfl | rfl | rfl | rfl | rfl | rfl | rfl | rfl | rfl | rfl | rfl | rfl | rfl | rfl | rfl | rfl | rfl | rfl | rfl | rfl | rfl | rfl | rfl | rfl | rfl
 ·have hne : ∀ k:Int,1≤k→(op == k)=false:=fun k hk=>beq_eq_false_iff_ne.2 (by omega)
  have hd:decide (op < 1)=true:=by simp; omega
  have ha:arity op = -1:=by unfold arity; rw [if_pos (Or.inl h)]
  rw [ha]
  simp -implicitDefEqProofs only [BB,BP,AZ,BN,BM,BI,A8,CS,D8,CU,DX,DY,AY,BC,BK,BU,CO,F5,AO,AQ,AL,BD,AX,AC,AA,EY,A7,AU,BH,BL,BF,BA,CP,DW,BQ,AB,EJ,CW,BG,↓reduceIte,Nat.reduceEqDiff,Option.getD_some,Bool.not_false,enP,hne 1 (by decide),hne 2 (by decide),hne 3 (by decide),hne 4 (by decide),hne 5 (by decide),hne 6 (by decide),hne 7 (by decide),hne 8 (by decide),hne 9 (by decide),hne 10 (by decide),hne 11 (by decide),hne 12 (by decide),hne 13 (by decide),hne 14 (by decide),hne 15 (by decide),hne 16 (by decide),hne 17 (by decide),hne 18 (by decide),hne 19 (by decide),hne 20 (by decide),hne 21 (by decide),hne 22 (by decide),hne 23 (by decide),hne 24 (by decide),hne 25 (by decide),hd]
  exact ⟨trivial,trivial⟩
 ·have hne : ∀ k:Int,k≤25→(op == k)=false:=fun k hk=>beq_eq_false_iff_ne.2 (by omega)
  have hd:decide (op < 1)=false:=by simp; omega
  have hd2:decide (op > 25)=true:=by simp; omega
  have ha:arity op = -1:=by unfold arity; rw [if_pos (Or.inr h)]
  rw [ha]
  simp -implicitDefEqProofs only [BB,BP,AZ,BN,BM,BI,A8,CS,D8,CU,DX,DY,AY,BC,BK,BU,CO,EO,AO,AQ,AL,BD,AX,AC,AA,A7,AU,BH,BL,BF,BA,CP,DV,BQ,AB,EJ,CW,EW,BG,↓reduceIte,Nat.reduceEqDiff,Option.getD_some,Bool.not_false,enP,hne 1 (by decide),hne 2 (by decide),hne 3 (by decide),hne 4 (by decide),hne 5 (by decide),hne 6 (by decide),hne 7 (by decide),hne 8 (by decide),hne 9 (by decide),hne 10 (by decide),hne 11 (by decide),hne 12 (by decide),hne 13 (by decide),hne 14 (by decide),hne 15 (by decide),hne 16 (by decide),hne 17 (by decide),hne 18 (by decide),hne 19 (by decide),hne 20 (by decide),hne 21 (by decide),hne 22 (by decide),hne 23 (by decide),hne 24 (by decide),hne 25 (by decide),hd,hd2]
  exact ⟨trivial,trivial⟩
 all_goals
  simp -implicitDefEqProofs only [BB,BP,AZ,BN,BM,BI,A8,CS,EG,CU,DX,DY,AY,BC,AO,AQ,AL,BD,AX,AC,AA,A7,AU,BH,BF,BA,BQ,AB,EJ,BG,↓reduceIte,Nat.reduceEqDiff,Option.getD_some,Bool.not_false,enP,Int.reduceBEq,Int.reduceLT,Int.reduceGT]
  exact ⟨rfl,trivial⟩

def MN (op:Int):Bool:=op == 2 || op == 3 || op == 24
theorem YD (G:Nat→AV) (op:Int) (h:Hp):PCall (En G) 246 [.int .i64 op] h (.bool (MN op)):=by
 refine CG (H:=Hint.none) (enM G) Tryz.func246 rfl (by kernel_rfl) (by kernel_rfl) (Nat.le_of_ble_eq_true (by kernel_rfl)) ?_
 show awp _ _ _ _ _ (EU _ [.tmp 2] _)
 simp -implicitDefEqProofs only [BB,AZ,A8,AY,BC,BK,BU,CO,AO,AQ,AL,BD,AX,AC,AA,A7,AU,BH,BL,BF,BA,BQ,AB,EJ,BG,↓reduceIte,Nat.reduceEqDiff,Option.getD_some,Bool.not_false,enP]
 cases ha:(op == 2) <;> cases hb:(op == 3)
 all_goals
  simp -implicitDefEqProofs only [BM,A8,CU,AY,BC,BK,BU,CO,EO,F5,AO,AQ,AL,BD,AX,AC,AA,EY,A7,AU,BH,BL,BF,BA,CP,DW,DV,BQ,AB,EJ,BG,↓reduceIte,Nat.reduceEqDiff,Option.getD_some,Bool.not_false,enP,ha,hb]
  exact ⟨by simp [MN,ha,hb],trivial⟩
/-- as many operands as the operator allows -/
def AHU (op:Int) (n:Nat):Bool:=if op == 23 then ((n:Int) % 2 == 1) && decide ((n:Int)≥3) && decide ((n:Int)≤33) else ((n:Int) == arity op)
theorem AC7 (G:Nat→AV) (e:Ex) (h:Hp):PCall (En G) 231 [.agg (G6 e)] h (.bool (AHU e.op e.args.length)):=by
 refine ACalls.pure0 rfl ?_
 refine CG (H:=Hint.none) (enM G) Tryz.func231 rfl (by kernel_rfl) (by kernel_rfl) (Nat.le_of_ble_eq_true (by kernel_rfl)) ?_
 show awp _ _ _ _ _ (EU _ [.tmp 2] _)
 simp -implicitDefEqProofs only [BB,AZ,BI,A8,AY,BC,AO,AQ,AL,BD,AX,AC,AA,A7,AU,BH,BL,BA,FK,BO,BQ,BJ,DN,BR,AB,EJ,BG,↓reduceIte,Nat.reduceEqDiff,Nat.add_zero,Nat.zero_add,Option.getD_some,Bool.not_false,enP,AKN,JR,TF,bxE,DI APL,DI ag3,AEP,KW,List.length_map]
 generalize he:e.args.length=n
 have hm:(n:Int).tmod 2=(n:Int) % 2:=Int.tmod_eq_emod_of_nonneg (by omega)
 have b1:MJ Tryz.prog 3 .rem (.int .i64 (n:Int)) (.int .i64 2)=some (.int .i64 ((n:Int) % 2)):=by rw [AGI _ _ _ _ _ (by decide),hm]
 refine CQ (fun hc => ?_) (fun hc => ?_)
 ·simp -implicitDefEqProofs only [BB,AZ,AY,BK,BU,CO,AO,AQ,AL,BD,AX,AC,AA,A7,AU,BH,BF,BQ,AB,EJ,↓reduceIte,Nat.reduceEqDiff,Option.getD_some,Bool.not_false,enP,b1]
  cases ha:((n:Int) % 2 == 1) <;> cases hb:decide ((n:Int)≥3)
  all_goals
   simp -implicitDefEqProofs only [BM,A8,CS,CU,AY,BC,BK,BU,CO,GN,JH,AO,AQ,AL,BD,AX,AC,AA,EY,A7,AU,BH,BL,BF,BA,CP,DW,DV,BQ,AB,KZ,G7,↓reduceIte,Nat.reduceEqDiff,Option.getD_some,Bool.not_false,enP,ha,hb]
   exact ⟨by unfold AHU; rw [if_pos hc,ha,hb]; simp,_,rfl⟩
 ·simp -implicitDefEqProofs only [BB,AZ,BN,A8,AY,AO,AQ,AL,BD,AX,AC,AA,A7,CB,BF,BO,BJ,CE,BX,AB,List.map_cons,List.map_nil,List.append_nil,↓reduceIte,Nat.reduceEqDiff,Nat.add_zero,Option.getD_some,Bool.not_false,enP,JR,DI ag3,KW]
  refine (ALG G e.op _).use ?_
  simp -implicitDefEqProofs only [BM,A8,CU,AY,BC,AO,AQ,AL,BD,AX,AC,AA,A7,BA,BQ,AB,EJ,↓reduceIte,Nat.reduceEqDiff,Option.getD_some,Bool.not_false,enP]
  exact ⟨by unfold AHU; rw [if_neg (by rw [hc]; decide)],_,rfl⟩
end Go.Proofs.YtocilianjfhifaaGreatDoor.Cov
/- Element names and variable names, on both sides; no condition but the variables that are laid. -/
namespace Go.Proofs.YtocilianjfhifaaGreatDoor.Cov
open Go Go.Proofs Go.Proofs.YtocilianjfhifaaGreatDoor.Sm Go.Proofs.YtocilianjfhifaaGreatDoor.Bins Go.Shelf Go.RowKit

def AR3:Go.Shelf.Ren:=⟨fun | 145=>290 | 220=>304 | 219=>305 | 217=>306 | 225=>307 | 224=>308 | 267=>309 | 266=>310 | 314=>311 | n=>n,fun | 9=>9 | 4=>4 | 59=>261 | 3=>3 | 5=>5 | 46=>269 | 146=>273 | 51=>272 | n=>n,fun | 1=>1 | n=>n⟩
theorem A0Q:Go.Proofs.Lays.n145 Tryz.prog AR3 := {
 mixed:=by kernel_rfl,
 f145:=Tryz.func290.trans (congrArg some (by kernel_rfl)),
 f217:=Tryz.func306.trans (congrArg some (by kernel_rfl)),
 f219:=Tryz.func305.trans (congrArg some (by kernel_rfl)),
 f220:=Tryz.func304.trans (congrArg some (by kernel_rfl)),
 f224:=Tryz.func308.trans (congrArg some (by kernel_rfl)),
 f225:=Tryz.func307.trans (congrArg some (by kernel_rfl)),
 f266:=Tryz.func310.trans (congrArg some (by kernel_rfl)),
 f267:=Tryz.func309.trans (congrArg some (by kernel_rfl)),
 f314:=Tryz.func311.trans (congrArg some (by kernel_rfl)),
 t3:=Tryz.underlying3,
 a3:=Tryz.isAgg3,
 z3:=Tryz.sizeOf3,
 v3:=Tryz.zeroValue3,
 t4:=Tryz.underlying4,
 a4:=Tryz.isAgg4,
 z4:=Tryz.sizeOf4,
 v4:=Tryz.zeroValue4,
 t5:=Tryz.underlying5,
 a5:=Tryz.isAgg5,
 z5:=Tryz.sizeOf5,
 v5:=Tryz.zeroValue5,
 t9:=Tryz.underlying9,
 a9:=Tryz.isAgg9,
 z9:=Tryz.sizeOf9,
 v9:=Tryz.zeroValue9,
 t46:=Tryz.underlying269,
 a46:=Tryz.isAgg269,
 z46:=Tryz.sizeOf269,
 v46:=Tryz.zeroValue269,
 t51:=Tryz.underlying272,
 a51:=Tryz.isAgg272,
 z51:=Tryz.sizeOf272,
 v51:=Tryz.zeroValue272,
 t59:=Tryz.underlying261,
 a59:=Tryz.isAgg261,
 z59:=Tryz.sizeOf261,
 v59:=Tryz.zeroValue261,
 t146:=Tryz.underlying273,
 a146:=Tryz.isAgg273,
 z146:=Tryz.sizeOf273,
 v146:=Tryz.zeroValue273,
 g1:=by kernel_rfl }

/-- what the package-level variables hold -/
structure GOk (G:Nat→AV):Prop where
 kw:KwG G
 mx : ∃ n,G 1 = .fptr 1 [[.int .i64 n]] 0 0
theorem AQ6 {G:Nat→AV} {g:Gh} {h:Hp} {w:World} {n:Nat} {k:IntKind} {z:Int} (S:SimH (En G) g h w) (hn:G n = .fptr 1 [[.int k z]] 0 0):w.cell? ⟨n,0,none⟩=some (.int k z):=by
 have:=S.glob n
 rw [enG,hn] at this
 generalize hp:Value.pointer (some ⟨n,0,none⟩)=p at this
 cases this with
 | fptr k' xs i j cb co c e fz cv h1 h2 h3 h4 =>
   simp only [Value.pointer.injEq,Option.some.injEq,Addr.mk.injEq] at hp
   obtain ⟨rfl,hco,_⟩:=hp
   have h5:=h3 0 0 (by simp) (by simp)
   have h6:=h4 0 0 _ _ rfl rfl
   generalize cv 0 0=u at h5 h6
   cases h6
   simp only [World.cell?,S.fro _ _ h1]
   subst hco
   exact h5
def cutV (s:ByteArray):AV := .tup [.str ⟨(Lib.cut s.data.toList [91]).1.toArray⟩,.str ⟨(Lib.cut s.data.toList [91]).2.1.toArray⟩,.bool (Lib.cut s.data.toList [91]).2.2]
theorem AR2 (G:Nat→AV) (hG:GOk G) (s:ByteArray) (h:Hp) (hl:s.size≤1048576):PCall (En G) 290 [.str s,.str ⟨#[91]⟩] h (cutV s):=by
 refine PCall.of_reads (cok 290 G (by kernel_rfl)) fun g w cargs S ha => ?_
 obtain ⟨hsz,hget⟩:=ha
 obtain ⟨cv0,cv1,rfl⟩ : ∃ a b,cargs = #[a,b]:=by
  obtain ⟨l⟩:=cargs
  match l,hsz with
  | [a,b],_=>exact ⟨a,b,rfl⟩
 obtain rfl:=(hget 0 _ cv0 rfl rfl).str_inv
 obtain rfl:=(hget 1 _ cv1 rfl rfl).str_inv
 obtain ⟨z,hz⟩:=hG.mx
 have hc:=AQ6 S hz
 have:=Any.strings_Cut A0Q s ⟨#[91]⟩ z w (by omega) hc
 refine ⟨_,?_,this⟩
 refine .tup _ _ rfl ?_
 intro i v cv h1 h2
 match i,h1,h2 with
 | 0,h1,h2=>simp at h1 h2; subst h1; subst h2; exact .str _ _
 | 1,h1,h2=>simp at h1 h2; subst h1; subst h2; exact .str _ _
 | 2,h1,h2=>simp at h1 h2; subst h1; subst h2; exact .bool _ _

/-- an element name: its array's name and its digit -/
def PK (s:ByteArray):Option (List UInt8 × UInt8) :=
 if 4≤s.data.toList.length then match s.data.toList.drop (s.data.toList.length - 3) with
  | [x,d,y]=>if (y == 93 && x == 91 && decide (48≤d.toNat) && decide (d.toNat < 56) && G9 ⟨(s.data.toList.take (s.data.toList.length - 3)).toArray⟩)=true then some (s.data.toList.take (s.data.toList.length - 3),d) else none
  | _=>none
 else none
def elemV (o:Option (List UInt8 × UInt8)):AV:=match o with
 | some (a,d) => .tup [.str ⟨a.toArray⟩,.int .i64 ((d.toNat:Int) - 48),.bool true]
 | none => .tup [.str ⟨#[]⟩,.int .i64 0,.bool false]
theorem AME {l:List UInt8} (h:G9 ⟨l.toArray⟩=true):l≠[]∧∀ b∈l,b≠91:=by
 have hw:RJ ⟨l.toArray⟩=true:=by
  unfold G9 at h
  exact (Bool.and_eq_true_iff.1 (Bool.and_eq_true_iff.1 h).1).1
 unfold RJ at hw
 obtain ⟨h1,h2⟩:=Bool.and_eq_true_iff.1 hw
 refine ⟨?_,?_⟩
 ·intro e; subst e; cases h1
 ·intro b hb e
  subst e
  have:=List.all_eq_true.1 h2 91 hb
  revert this; decide
/-- three bytes behind the first ones -/
theorem three {l:List UInt8} (h:3≤l.length) : ∃ a x d y,l=a ++ [x,d,y]:=by
 refine ⟨l.take (l.length - 3),?_⟩
 have h1:(l.drop (l.length - 3)).length=3:=by simp; omega
 match hm:l.drop (l.length - 3),h1 with
 | [x,d,y],_=>exact ⟨x,d,y,by rw [← hm,List.take_append_drop]⟩
theorem ACA {a:List UInt8} {x d y:UInt8} (ha:a≠[]):PK ⟨(a ++ [x,d,y]).toArray⟩=if (y == 93 && x == 91 && decide (48≤d.toNat) && decide (d.toNat < 56) && G9 ⟨a.toArray⟩)=true then some (a,d) else none:=by
 have hl:0 < a.length:=List.length_pos_iff.2 ha
 unfold PK
 simp only
 rw [if_pos (by simp; omega)]
 have e:(a ++ [x,d,y]).length - 3=a.length:=by simp
 rw [e,List.drop_left,List.take_left]
/-- as the program finds it -/
theorem ARZ (s:ByteArray):PK s=if ((Lib.cut s.data.toList [91]).2.2 && G9 ⟨(Lib.cut s.data.toList [91]).1.toArray⟩)=true then match (Lib.cut s.data.toList [91]).2.1 with
  | [d,y]=>if (y == 93 && decide (48≤d.toNat) && decide (d.toNat < 56))=true then some ((Lib.cut s.data.toList [91]).1,d) else none
  | _=>none
 else none:=by
 obtain ⟨⟨l⟩⟩:=s
 have hocc : ∀ i,Lib.occAt l [91] i=true↔l[i]? = some 91:=by
  intro i
  unfold Lib.occAt
  rcases Nat.lt_or_ge i l.length with h | h
  ·rw [List.drop_eq_getElem_cons h,List.getElem?_eq_getElem h]
   simp [List.isPrefixOf]
   exact eq_comm
  ·rw [List.drop_eq_nil_of_le h,List.getElem?_eq_none h]; simp [List.isPrefixOf]
 -- an element name of the reference's kind
 have main : ∀ a d,a≠[]→G9 ⟨a.toArray⟩=true→l=a ++ [91,d,93]→Lib.cut l [91]=(a,[d,93],true):=by
  intro a d ha hn hl
  obtain ⟨_,hne⟩:=AME hn
  have hi:Lib.index l [91]=(a.length:Int):=by
   refine Lib.index_first (by rw [hl]; simp) ((hocc _).2 (by rw [hl]; simp)) fun j hj => ?_
   rw [← Bool.not_eq_true,hocc,hl,List.getElem?_append_left hj,List.getElem?_eq_getElem hj]
   intro e
   exact hne _ (List.getElem_mem hj) (Option.some.inj e)
  unfold Lib.cut
  rw [hi,if_pos (by omega),Int.toNat_natCast,hl,List.take_left,← List.drop_drop,List.drop_left]
  rfl
 show PK ⟨l.toArray⟩=_
 rcases hcase:PK ⟨l.toArray⟩ with _ | ⟨a,d⟩
 ·symm
  show (if _ then _ else none)=none
  simp only
  split
  ·rename_i hb
   rw [Bool.and_eq_true] at hb
   split
   ·rename_i d y hm
    split
    ·rename_i hd
     exfalso
     simp only [Bool.and_eq_true,beq_iff_eq,decide_eq_true_eq] at hd
     obtain ⟨⟨rfl,hd1⟩,hd2⟩:=hd
     obtain ⟨ha,_⟩:=AME hb.2
     have hc:Lib.cut l [91]=((Lib.cut l [91]).1,[d,93],true):=by
      rw [← hm]; have:=hb.1; cases hcc:Lib.cut l [91] with
      | mk p q=>cases q with
        | mk q1 q2=>rw [hcc] at this; simp at this; subst this; rfl
     have hl:l=(Lib.cut l [91]).1 ++ [91,d,93]:=by
      generalize (Lib.cut l [91]).1=b at hc
      unfold Lib.cut at hc
      split at hc
      ·rename_i h0
       obtain ⟨i,hi⟩ : ∃ i:Nat,Lib.index l [91]=i:=⟨(Lib.index l [91]).toNat,by omega⟩
       rw [hi] at hc
       simp only [Int.toNat_natCast,Prod.mk.injEq,List.length_singleton] at hc
       rcases Lib.index_spec l [91] with ⟨h1,_⟩ | ⟨j,h1,_,h3,_⟩
       ·omega
       ·have hj:i=j:=by omega
        subst hj
        have h4:=(hocc i).1 h3
        have h5:i < l.length:=(List.getElem?_eq_some_iff.1 h4).1
        have h6:l[i]=91:=by rw [List.getElem?_eq_getElem h5] at h4; exact Option.some.inj h4
        rw [← hc.1]
        calc l=l.take i ++ l.drop i:=(List.take_append_drop i l).symm
         _=l.take i ++ (l[i] :: l.drop (i+1)):=by rw [List.drop_eq_getElem_cons h5]
         _=l.take i ++ [91,d,93]:=by rw [h6,hc.2.1]
      ·simp at hc
     have:=ACA (x:=91) (d:=d) (y:=93) ha
     rw [← hl,hcase,if_pos (by simp [hb.2,hd1,hd2])] at this
     cases this
    ·rfl
   ·rfl
  ·rfl
 ·have h4:4≤l.length:=by
   unfold PK at hcase
   simp only at hcase
   split at hcase
   ·assumption
   ·cases hcase
  obtain ⟨b,x,d',y,rfl⟩:=three (show 3≤l.length by omega)
  have hb:b≠[]:=by intro e; subst e; simp at h4
  rw [ACA hb] at hcase
  split at hcase
  ·rename_i hc
   cases hcase
   simp only [Bool.and_eq_true,beq_iff_eq,decide_eq_true_eq] at hc
   obtain ⟨⟨⟨⟨rfl,rfl⟩,h1⟩,h2⟩,h3⟩:=hc
   simp only
   rw [main a d hb h3 rfl]
   simp [h3,h1,h2]
  ·cases hcase
end Go.Proofs.YtocilianjfhifaaGreatDoor.Cov
