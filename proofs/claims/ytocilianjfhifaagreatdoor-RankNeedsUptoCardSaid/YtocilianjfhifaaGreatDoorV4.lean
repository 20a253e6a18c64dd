/- Part 4 of the proof (Ft, B1, B2, B3, B4, B5, B6, B7, E1, E2, E3); no condition. -/
import Derived.Test.YtocilianjfhifaaGreatDoorProg
import Derived.KernelRfl
import Derived.Laws.RangeAny
import Derived.Shelf.Strings.Cut
import Derived.Lib.IndexMore
import Derived.Test.YtocilianjfhifaaGreatDoorV3
set_option linter.unusedVariables false
/- Part of the proof; no condition. -/
/- The facts of the program's types, as the equations use them; no condition. -/
namespace Go.Proofs.YtocilianjfhifaaGreatDoor.Sm
open Go
theorem sz3:szO Tryz.prog 3=some 1:=by kernel_rfl
theorem ag3:JV Tryz.prog 3=some false:=by kernel_rfl
theorem sz4:szO Tryz.prog 4=some 1:=by kernel_rfl
theorem ag4:JV Tryz.prog 4=some false:=by kernel_rfl
theorem sz9:szO Tryz.prog 9=some 1:=by kernel_rfl
theorem ag9:JV Tryz.prog 9=some false:=by kernel_rfl
theorem TW:JV Tryz.prog 22=some false:=by kernel_rfl
theorem XA:JV Tryz.prog 23=some false:=by kernel_rfl
theorem ARW:szO Tryz.prog 25=some 2:=by kernel_rfl
theorem AWU:JV Tryz.prog 25=some true:=by kernel_rfl
theorem AOV:szO Tryz.prog 26=some 1:=by kernel_rfl
theorem QR:JV Tryz.prog 26=some false:=by kernel_rfl
theorem PY:szO Tryz.prog 28=some 4:=by kernel_rfl
theorem V6:JV Tryz.prog 28=some true:=by kernel_rfl
theorem AZ2:JV Tryz.prog 37=some false:=by kernel_rfl
theorem AVK:szO Tryz.prog 38=some 1:=by kernel_rfl
theorem ARB:JV Tryz.prog 38=some false:=by kernel_rfl
theorem AOU:szO Tryz.prog 47=some 1:=by kernel_rfl
theorem AYQ:JV Tryz.prog 47=some true:=by kernel_rfl
theorem AOB:JV Tryz.prog 51=some false:=by kernel_rfl
theorem ABP:szO Tryz.prog 53=some 4:=by kernel_rfl
theorem AIB:JV Tryz.prog 53=some true:=by kernel_rfl
theorem NW:JV Tryz.prog 54=some false:=by kernel_rfl
theorem X3:szO Tryz.prog 56=some 6:=by kernel_rfl
theorem AE9:JV Tryz.prog 56=some true:=by kernel_rfl
theorem ABO:szO Tryz.prog 57=some 1:=by kernel_rfl
theorem KA:JV Tryz.prog 57=some false:=by kernel_rfl
theorem WE:szO Tryz.prog 71=some 3:=by kernel_rfl
theorem ABC:JV Tryz.prog 71=some true:=by kernel_rfl
theorem AY5:szO Tryz.prog 75=some 3:=by kernel_rfl
theorem AZ1:JV Tryz.prog 75=some true:=by kernel_rfl
theorem TY:szO Tryz.prog 106=some 3:=by kernel_rfl
theorem AIC:JV Tryz.prog 106=some true:=by kernel_rfl
theorem XK:szO Tryz.prog 108=some 4:=by kernel_rfl
theorem ARF:JV Tryz.prog 108=some true:=by kernel_rfl
theorem ACG:szO Tryz.prog 112=some 4:=by kernel_rfl
theorem AVD:JV Tryz.prog 112=some true:=by kernel_rfl
theorem AUI:szO Tryz.prog 118=some 1:=by kernel_rfl
theorem PV:JV Tryz.prog 118=some false:=by kernel_rfl
theorem QS:JV Tryz.prog 119=some false:=by kernel_rfl
theorem R4:szO Tryz.prog 121=some 4:=by kernel_rfl
theorem XX:JV Tryz.prog 121=some true:=by kernel_rfl
theorem AYT:JV Tryz.prog 143=some false:=by kernel_rfl
theorem AOY:szO Tryz.prog 146=some 1:=by kernel_rfl
theorem UI:JV Tryz.prog 146=some false:=by kernel_rfl
theorem AOX:szO Tryz.prog 158=some 2:=by kernel_rfl
theorem AYS:JV Tryz.prog 158=some true:=by kernel_rfl
theorem AUH:szO Tryz.prog 179=some 1:=by kernel_rfl
theorem ARD:JV Tryz.prog 179=some false:=by kernel_rfl
theorem AOW:szO Tryz.prog 185=some 2:=by kernel_rfl
theorem AYR:JV Tryz.prog 185=some true:=by kernel_rfl
theorem be4 : ∀ p q,KY Tryz.prog 4 .eql (.bool p) (.bool q)=some (.bool (p == q)):=fun p q=>AQ2 Tryz.prog 4 p q (by kernel_rfl)
theorem ln9 : ∀ s,JD Tryz.prog 9 (.str s)=some (.int .i64 s.size):=ASZ (by kernel_rfl:Tryz.prog.underlying 9=some .string)
theorem MV : ∀ h a i,FW Tryz.prog h 22 a i=KL 6 h a i:=GU (by kernel_rfl:Tryz.prog.underlying 22=some (.slice 56)) X3
theorem OZ:(∀ m k xs,JD Tryz.prog 22 (.sl m k xs)=some (.int .i64 xs.length))∧∀ b off len,JD Tryz.prog 22 (.own b off len)=some (.int .i64 len):=MC (by kernel_rfl:Tryz.prog.underlying 22=some (.slice 56))
theorem P7 : ∀ h a i,FW Tryz.prog h 23 a i=KL 3 h a i:=GU (by kernel_rfl:Tryz.prog.underlying 23=some (.slice 71)) WE
theorem Q5:(∀ m k xs,JD Tryz.prog 23 (.sl m k xs)=some (.int .i64 xs.length))∧∀ b off len,JD Tryz.prog 23 (.own b off len)=some (.int .i64 len):=MC (by kernel_rfl:Tryz.prog.underlying 23=some (.slice 71))
theorem GZ:(∀ b i j,CY Tryz.prog 25 (.ptr b i j) 0=some (.ptr b i (j+0)))∧(∀ k xs i j,CY Tryz.prog 25 (.fptr k xs i j) 0=some (.fptr k xs i (j+0))):=IX (by kernel_rfl:KI Tryz.prog 25 0 0=true)
theorem H7:(∀ b i j,CY Tryz.prog 25 (.ptr b i j) 1=some (.ptr b i (j+1)))∧(∀ k xs i j,CY Tryz.prog 25 (.fptr k xs i j) 1=some (.fptr k xs i (j+1))):=IX (by kernel_rfl:KI Tryz.prog 25 1 1=true)
theorem PK : ∀ h a i,FW Tryz.prog h 26 a i=KL 1 h a i:=GU (by kernel_rfl:Tryz.prog.underlying 26=some (.slice 57)) ABO
theorem WM:(∀ m k xs,JD Tryz.prog 26 (.sl m k xs)=some (.int .i64 xs.length))∧∀ b off len,JD Tryz.prog 26 (.own b off len)=some (.int .i64 len):=MC (by kernel_rfl:Tryz.prog.underlying 26=some (.slice 57))
theorem AFN:Tryz.prog.underlying 26=some (.slice 57):=by kernel_rfl
theorem AIK:PG Tryz.prog 57=some 1:=by kernel_rfl
theorem AH1:KD Tryz.prog 57=some 24:=by kernel_rfl
theorem NA:(∀ b i j,CY Tryz.prog 28 (.ptr b i j) 0=some (.ptr b i (j+0)))∧(∀ k xs i j,CY Tryz.prog 28 (.fptr k xs i j) 0=some (.fptr k xs i (j+0))):=IX (by kernel_rfl:KI Tryz.prog 28 0 0=true)
theorem ME:(∀ b i j,CY Tryz.prog 28 (.ptr b i j) 1=some (.ptr b i (j+1)))∧(∀ k xs i j,CY Tryz.prog 28 (.fptr k xs i j) 1=some (.fptr k xs i (j+1))):=IX (by kernel_rfl:KI Tryz.prog 28 1 1=true)
theorem WR:(∀ b i j,CY Tryz.prog 28 (.ptr b i j) 2=some (.ptr b i (j+2)))∧(∀ k xs i j,CY Tryz.prog 28 (.fptr k xs i j) 2=some (.fptr k xs i (j+2))):=IX (by kernel_rfl:KI Tryz.prog 28 2 2=true)
theorem AAS:(∀ b i j,CY Tryz.prog 28 (.ptr b i j) 3=some (.ptr b i (j+3)))∧(∀ k xs i j,CY Tryz.prog 28 (.fptr k xs i j) 3=some (.fptr k xs i (j+3))):=IX (by kernel_rfl:KI Tryz.prog 28 3 3=true)
theorem AV5 : ∀ h a i,FW Tryz.prog h 32 a i=KL 3 h a i:=GU (by kernel_rfl:Tryz.prog.underlying 32=some (.slice 106)) TY
theorem ASY:(∀ m k xs,JD Tryz.prog 32 (.sl m k xs)=some (.int .i64 xs.length))∧∀ b off len,JD Tryz.prog 32 (.own b off len)=some (.int .i64 len):=MC (by kernel_rfl:Tryz.prog.underlying 32=some (.slice 106))
theorem AVI:Tryz.prog.underlying 32=some (.slice 106):=by kernel_rfl
theorem AW8:PG Tryz.prog 106=some 3:=by kernel_rfl
theorem AZT:KD Tryz.prog 106=some 40:=by kernel_rfl
theorem X6 : ∀ h a i,FW Tryz.prog h 37 a i=KL 4 h a i:=GU (by kernel_rfl:Tryz.prog.underlying 37=some (.slice 28)) PY
theorem OY:(∀ m k xs,JD Tryz.prog 37 (.sl m k xs)=some (.int .i64 xs.length))∧∀ b off len,JD Tryz.prog 37 (.own b off len)=some (.int .i64 len):=MC (by kernel_rfl:Tryz.prog.underlying 37=some (.slice 28))
theorem AXB:Tryz.prog.underlying 37=some (.slice 28):=by kernel_rfl
theorem AW7:PG Tryz.prog 28=some 4:=by kernel_rfl
theorem AX4:KD Tryz.prog 28=some 64:=by kernel_rfl
theorem AQA:(∀ b i j,CY Tryz.prog 47 (.ptr b i j) 0=some (.ptr b i (j+0)))∧(∀ k xs i j,CY Tryz.prog 47 (.fptr k xs i j) 0=some (.fptr k xs i (j+0))):=IX (by kernel_rfl:KI Tryz.prog 47 0 0=true)
theorem AS6 : ∀ h a i,FW Tryz.prog h 51 a i=KL 4 h a i:=GU (by kernel_rfl:Tryz.prog.underlying 51=some (.slice 53)) ABP
theorem AJC:(∀ m k xs,JD Tryz.prog 51 (.sl m k xs)=some (.int .i64 xs.length))∧∀ b off len,JD Tryz.prog 51 (.own b off len)=some (.int .i64 len):=MC (by kernel_rfl:Tryz.prog.underlying 51=some (.slice 53))
theorem I1:(∀ b i j,CY Tryz.prog 53 (.ptr b i j) 0=some (.ptr b i (j+0)))∧(∀ k xs i j,CY Tryz.prog 53 (.fptr k xs i j) 0=some (.fptr k xs i (j+0))):=IX (by kernel_rfl:KI Tryz.prog 53 0 0=true)
theorem AER:(∀ b i j,CY Tryz.prog 53 (.ptr b i j) 1=some (.ptr b i (j+1)))∧(∀ k xs i j,CY Tryz.prog 53 (.fptr k xs i j) 1=some (.fptr k xs i (j+1))):=IX (by kernel_rfl:KI Tryz.prog 53 1 1=true)
theorem O6:(∀ b i j,CY Tryz.prog 53 (.ptr b i j) 2=some (.ptr b i (j+2)))∧(∀ k xs i j,CY Tryz.prog 53 (.fptr k xs i j) 2=some (.fptr k xs i (j+2))):=IX (by kernel_rfl:KI Tryz.prog 53 2 2=true)
theorem Q9:(∀ b i j,CY Tryz.prog 53 (.ptr b i j) 3=some (.ptr b i (j+3)))∧(∀ k xs i j,CY Tryz.prog 53 (.fptr k xs i j) 3=some (.fptr k xs i (j+3))):=IX (by kernel_rfl:KI Tryz.prog 53 3 3=true)
theorem VH : ∀ h a i,FW Tryz.prog h 54 a i=KL 4 h a i:=GU (by kernel_rfl:Tryz.prog.underlying 54=some (.slice 121)) R4
theorem PI:(∀ m k xs,JD Tryz.prog 54 (.sl m k xs)=some (.int .i64 xs.length))∧∀ b off len,JD Tryz.prog 54 (.own b off len)=some (.int .i64 len):=MC (by kernel_rfl:Tryz.prog.underlying 54=some (.slice 121))
theorem AY4:Tryz.prog.underlying 54=some (.slice 121):=by kernel_rfl
theorem AW6:PG Tryz.prog 121=some 4:=by kernel_rfl
theorem AX3:KD Tryz.prog 121=some 72:=by kernel_rfl
theorem AEQ:(∀ b i j,CY Tryz.prog 56 (.ptr b i j) 0=some (.ptr b i (j+0)))∧(∀ k xs i j,CY Tryz.prog 56 (.fptr k xs i j) 0=some (.fptr k xs i (j+0))):=IX (by kernel_rfl:KI Tryz.prog 56 0 0=true)
theorem AEP:(∀ b i j,CY Tryz.prog 56 (.ptr b i j) 1=some (.ptr b i (j+1)))∧(∀ k xs i j,CY Tryz.prog 56 (.fptr k xs i j) 1=some (.fptr k xs i (j+1))):=IX (by kernel_rfl:KI Tryz.prog 56 1 1=true)
theorem HZ:(∀ b i j,CY Tryz.prog 56 (.ptr b i j) 2=some (.ptr b i (j+5)))∧(∀ k xs i j,CY Tryz.prog 56 (.fptr k xs i j) 2=some (.fptr k xs i (j+5))):=IX (by kernel_rfl:KI Tryz.prog 56 2 5=true)
theorem IL : ∀ h a i,FW Tryz.prog h 57 a i=KL 1 h a i:=GU (by kernel_rfl:Tryz.prog.underlying 57=some (.slice 3)) sz3
theorem GV:(∀ m k xs,JD Tryz.prog 57 (.sl m k xs)=some (.int .i64 xs.length))∧∀ b off len,JD Tryz.prog 57 (.own b off len)=some (.int .i64 len):=MC (by kernel_rfl:Tryz.prog.underlying 57=some (.slice 3))
theorem ML:Tryz.prog.underlying 57=some (.slice 3):=by kernel_rfl
theorem RV:PG Tryz.prog 3=some 1:=by kernel_rfl
theorem RF:KD Tryz.prog 3=some 8:=by kernel_rfl
theorem AEO:(∀ b i j,CY Tryz.prog 71 (.ptr b i j) 0=some (.ptr b i (j+0)))∧(∀ k xs i j,CY Tryz.prog 71 (.fptr k xs i j) 0=some (.fptr k xs i (j+0))):=IX (by kernel_rfl:KI Tryz.prog 71 0 0=true)
theorem IU:(∀ b i j,CY Tryz.prog 71 (.ptr b i j) 1=some (.ptr b i (j+1)))∧(∀ k xs i j,CY Tryz.prog 71 (.fptr k xs i j) 1=some (.fptr k xs i (j+1))):=IX (by kernel_rfl:KI Tryz.prog 71 1 1=true)
theorem NU:(∀ b i j,CY Tryz.prog 71 (.ptr b i j) 2=some (.ptr b i (j+2)))∧(∀ k xs i j,CY Tryz.prog 71 (.fptr k xs i j) 2=some (.fptr k xs i (j+2))):=IX (by kernel_rfl:KI Tryz.prog 71 2 2=true)
theorem J3:(∀ b i j,CY Tryz.prog 75 (.ptr b i j) 0=some (.ptr b i (j+0)))∧(∀ k xs i j,CY Tryz.prog 75 (.fptr k xs i j) 0=some (.fptr k xs i (j+0))):=IX (by kernel_rfl:KI Tryz.prog 75 0 0=true)
theorem JM:(∀ b i j,CY Tryz.prog 75 (.ptr b i j) 1=some (.ptr b i (j+2)))∧(∀ k xs i j,CY Tryz.prog 75 (.fptr k xs i j) 1=some (.fptr k xs i (j+2))):=IX (by kernel_rfl:KI Tryz.prog 75 1 2=true)
theorem AUS : ∀ h a i,FW Tryz.prog h 101 a i=KL 4 h a i:=GU (by kernel_rfl:Tryz.prog.underlying 101=some (.slice 108)) XK
theorem AUO:(∀ m k xs,JD Tryz.prog 101 (.sl m k xs)=some (.int .i64 xs.length))∧∀ b off len,JD Tryz.prog 101 (.own b off len)=some (.int .i64 len):=MC (by kernel_rfl:Tryz.prog.underlying 101=some (.slice 108))
theorem AOS:Tryz.prog.underlying 101=some (.slice 108):=by kernel_rfl
theorem AOL:PG Tryz.prog 108=some 4:=by kernel_rfl
theorem AU6:KD Tryz.prog 108=some 48:=by kernel_rfl
theorem AUR : ∀ h a i,FW Tryz.prog h 103 a i=KL 4 h a i:=GU (by kernel_rfl:Tryz.prog.underlying 103=some (.slice 112)) ACG
theorem AXN:(∀ m k xs,JD Tryz.prog 103 (.sl m k xs)=some (.int .i64 xs.length))∧∀ b off len,JD Tryz.prog 103 (.own b off len)=some (.int .i64 len):=MC (by kernel_rfl:Tryz.prog.underlying 103=some (.slice 112))
theorem AOR:Tryz.prog.underlying 103=some (.slice 112):=by kernel_rfl
theorem AOK:PG Tryz.prog 112=some 4:=by kernel_rfl
theorem AU5:KD Tryz.prog 112=some 48:=by kernel_rfl
theorem YY:(∀ b i j,CY Tryz.prog 106 (.ptr b i j) 0=some (.ptr b i (j+0)))∧(∀ k xs i j,CY Tryz.prog 106 (.fptr k xs i j) 0=some (.fptr k xs i (j+0))):=IX (by kernel_rfl:KI Tryz.prog 106 0 0=true)
theorem VQ:(∀ b i j,CY Tryz.prog 106 (.ptr b i j) 1=some (.ptr b i (j+1)))∧(∀ k xs i j,CY Tryz.prog 106 (.fptr k xs i j) 1=some (.fptr k xs i (j+1))):=IX (by kernel_rfl:KI Tryz.prog 106 1 1=true)
theorem ATD:(∀ b i j,CY Tryz.prog 106 (.ptr b i j) 2=some (.ptr b i (j+2)))∧(∀ k xs i j,CY Tryz.prog 106 (.fptr k xs i j) 2=some (.fptr k xs i (j+2))):=IX (by kernel_rfl:KI Tryz.prog 106 2 2=true)
theorem YX:(∀ b i j,CY Tryz.prog 108 (.ptr b i j) 0=some (.ptr b i (j+0)))∧(∀ k xs i j,CY Tryz.prog 108 (.fptr k xs i j) 0=some (.fptr k xs i (j+0))):=IX (by kernel_rfl:KI Tryz.prog 108 0 0=true)
theorem ALV:(∀ b i j,CY Tryz.prog 108 (.ptr b i j) 1=some (.ptr b i (j+3)))∧(∀ k xs i j,CY Tryz.prog 108 (.fptr k xs i j) 1=some (.fptr k xs i (j+3))):=IX (by kernel_rfl:KI Tryz.prog 108 1 3=true)
theorem AEW:(∀ b i j,CY Tryz.prog 112 (.ptr b i j) 0=some (.ptr b i (j+0)))∧(∀ k xs i j,CY Tryz.prog 112 (.fptr k xs i j) 0=some (.fptr k xs i (j+0))):=IX (by kernel_rfl:KI Tryz.prog 112 0 0=true)
theorem ALU:(∀ b i j,CY Tryz.prog 112 (.ptr b i j) 1=some (.ptr b i (j+3)))∧(∀ k xs i j,CY Tryz.prog 112 (.fptr k xs i j) 1=some (.fptr k xs i (j+3))):=IX (by kernel_rfl:KI Tryz.prog 112 1 3=true)
theorem ALJ : ∀ h a i,FW Tryz.prog h 118 a i=KL 2 h a i:=GU (by kernel_rfl:Tryz.prog.underlying 118=some (.slice 185)) AOW
theorem QG:(∀ m k xs,JD Tryz.prog 118 (.sl m k xs)=some (.int .i64 xs.length))∧∀ b off len,JD Tryz.prog 118 (.own b off len)=some (.int .i64 len):=MC (by kernel_rfl:Tryz.prog.underlying 118=some (.slice 185))
theorem AGQ : ∀ h a i,FW Tryz.prog h 119 a i=KL 1 h a i:=GU (by kernel_rfl:Tryz.prog.underlying 119=some (.slice 118)) AUI
theorem QF:(∀ m k xs,JD Tryz.prog 119 (.sl m k xs)=some (.int .i64 xs.length))∧∀ b off len,JD Tryz.prog 119 (.own b off len)=some (.int .i64 len):=MC (by kernel_rfl:Tryz.prog.underlying 119=some (.slice 118))
theorem YW:(∀ b i j,CY Tryz.prog 121 (.ptr b i j) 0=some (.ptr b i (j+0)))∧(∀ k xs i j,CY Tryz.prog 121 (.fptr k xs i j) 0=some (.fptr k xs i (j+0))):=IX (by kernel_rfl:KI Tryz.prog 121 0 0=true)
theorem KZ:(∀ b i j,CY Tryz.prog 121 (.ptr b i j) 1=some (.ptr b i (j+1)))∧(∀ k xs i j,CY Tryz.prog 121 (.fptr k xs i j) 1=some (.fptr k xs i (j+1))):=IX (by kernel_rfl:KI Tryz.prog 121 1 1=true)
theorem PS:(∀ b i j,CY Tryz.prog 121 (.ptr b i j) 2=some (.ptr b i (j+2)))∧(∀ k xs i j,CY Tryz.prog 121 (.fptr k xs i j) 2=some (.fptr k xs i (j+2))):=IX (by kernel_rfl:KI Tryz.prog 121 2 2=true)
theorem LC:(∀ b i j,CY Tryz.prog 121 (.ptr b i j) 3=some (.ptr b i (j+3)))∧(∀ k xs i j,CY Tryz.prog 121 (.fptr k xs i j) 3=some (.fptr k xs i (j+3))):=IX (by kernel_rfl:KI Tryz.prog 121 3 3=true)
theorem VI : ∀ h a i,FW Tryz.prog h 143 a i=KL 1 h a i:=GU (by kernel_rfl:Tryz.prog.underlying 143=some (.slice 146)) AOY
theorem O0:(∀ m k xs,JD Tryz.prog 143 (.sl m k xs)=some (.int .i64 xs.length))∧∀ b off len,JD Tryz.prog 143 (.own b off len)=some (.int .i64 len):=MC (by kernel_rfl:Tryz.prog.underlying 143=some (.slice 146))
theorem AUG:Tryz.prog.underlying 143=some (.slice 146):=by kernel_rfl
theorem AOJ:PG Tryz.prog 146=some 1:=by kernel_rfl
theorem AQY:KD Tryz.prog 146=some 24:=by kernel_rfl
theorem Z7 : ∀ h a i,FW Tryz.prog h 146 a i=KL 1 h a i:=GU (by kernel_rfl:Tryz.prog.underlying 146=some (.slice 4)) sz4
theorem Z4:(∀ m k xs,JD Tryz.prog 146 (.sl m k xs)=some (.int .i64 xs.length))∧∀ b off len,JD Tryz.prog 146 (.own b off len)=some (.int .i64 len):=MC (by kernel_rfl:Tryz.prog.underlying 146=some (.slice 4))
theorem ACE:Tryz.prog.underlying 146=some (.slice 4):=by kernel_rfl
theorem AUE:PG Tryz.prog 4=some 1:=by kernel_rfl
theorem AU4:KD Tryz.prog 4=some 1:=by kernel_rfl
theorem ALT:(∀ b i j,CY Tryz.prog 158 (.ptr b i j) 0=some (.ptr b i (j+0)))∧(∀ k xs i j,CY Tryz.prog 158 (.fptr k xs i j) 0=some (.fptr k xs i (j+0))):=IX (by kernel_rfl:KI Tryz.prog 158 0 0=true)
theorem AEV:(∀ b i j,CY Tryz.prog 158 (.ptr b i j) 1=some (.ptr b i (j+1)))∧(∀ k xs i j,CY Tryz.prog 158 (.fptr k xs i j) 1=some (.fptr k xs i (j+1))):=IX (by kernel_rfl:KI Tryz.prog 158 1 1=true)
theorem APR : ∀ h a i,FW Tryz.prog h 179 a i=KL 1 h a i:=GU (by kernel_rfl:Tryz.prog.underlying 179=some (.slice 9)) sz9
theorem ALG:(∀ m k xs,JD Tryz.prog 179 (.sl m k xs)=some (.int .i64 xs.length))∧∀ b off len,JD Tryz.prog 179 (.own b off len)=some (.int .i64 len):=MC (by kernel_rfl:Tryz.prog.underlying 179=some (.slice 9))
theorem AUF:Tryz.prog.underlying 179=some (.slice 9):=by kernel_rfl
theorem AUD:PG Tryz.prog 9=some 1:=by kernel_rfl
theorem AU3:KD Tryz.prog 9=some 16:=by kernel_rfl
theorem AEU:(∀ b i j,CY Tryz.prog 181 (.ptr b i j) 0=some (.ptr b i (j+0)))∧(∀ k xs i j,CY Tryz.prog 181 (.fptr k xs i j) 0=some (.fptr k xs i (j+0))):=IX (by kernel_rfl:KI Tryz.prog 181 0 0=true)
theorem AET:(∀ b i j,CY Tryz.prog 181 (.ptr b i j) 1=some (.ptr b i (j+1)))∧(∀ k xs i j,CY Tryz.prog 181 (.fptr k xs i j) 1=some (.fptr k xs i (j+1))):=IX (by kernel_rfl:KI Tryz.prog 181 1 1=true)
theorem VP:(∀ b i j,CY Tryz.prog 181 (.ptr b i j) 2=some (.ptr b i (j+2)))∧(∀ k xs i j,CY Tryz.prog 181 (.fptr k xs i j) 2=some (.fptr k xs i (j+2))):=IX (by kernel_rfl:KI Tryz.prog 181 2 2=true)
theorem ALS:(∀ b i j,CY Tryz.prog 181 (.ptr b i j) 3=some (.ptr b i (j+3)))∧(∀ k xs i j,CY Tryz.prog 181 (.fptr k xs i j) 3=some (.fptr k xs i (j+3))):=IX (by kernel_rfl:KI Tryz.prog 181 3 3=true)
theorem AES:(∀ b i j,CY Tryz.prog 181 (.ptr b i j) 4=some (.ptr b i (j+4)))∧(∀ k xs i j,CY Tryz.prog 181 (.fptr k xs i j) 4=some (.fptr k xs i (j+4))):=IX (by kernel_rfl:KI Tryz.prog 181 4 4=true)
theorem YV:(∀ b i j,CY Tryz.prog 185 (.ptr b i j) 0=some (.ptr b i (j+0)))∧(∀ k xs i j,CY Tryz.prog 185 (.fptr k xs i j) 0=some (.fptr k xs i (j+0))):=IX (by kernel_rfl:KI Tryz.prog 185 0 0=true)
theorem YU:(∀ b i j,CY Tryz.prog 185 (.ptr b i j) 1=some (.ptr b i (j+1)))∧(∀ k xs i j,CY Tryz.prog 185 (.fptr k xs i j) 1=some (.fptr k xs i (j+1))):=IX (by kernel_rfl:KI Tryz.prog 185 1 1=true)
theorem AXX : ∀ n,QT Tryz.prog 3 5 (.int .i64 n)=some (.int .u8 (IntKind.u8.wrap n)):=fun n=>AHS (ds := .int .i64) Tryz.prog .i64 n (by kernel_rfl) (by kernel_rfl)
theorem AQO : ∀ n,QT Tryz.prog 5 3 (.int .u8 n)=some (.int .i64 (IntKind.i64.wrap n)):=fun n=>AHS (ds := .int .u8) Tryz.prog .u8 n (by kernel_rfl) (by kernel_rfl)
noncomputable def En (G:Nat→AV):Env:=⟨Tryz.prog,G⟩
theorem enP (G:Nat→AV):(En G).P=Tryz.prog:=rfl
theorem enG (G:Nat→AV):(En G).G=G:=rfl
theorem enM (G:Nat→AV):(En G).P.follows .mixedOrders=true:=by kernel_rfl
end Go.Proofs.YtocilianjfhifaaGreatDoor.Sm
/- Part of the proof; no condition. -/
namespace Go.Proofs.YtocilianjfhifaaGreatDoor.Bins
open Go Go.Proofs.YtocilianjfhifaaGreatDoor.Sm
structure Rng where
 lo:Int
 hi:Int
 deriving DecidableEq
def encR (r:Rng):List AV := [.int .i64 r.lo,.int .i64 r.hi]
theorem AHJ (r:Rng):(encR r).length=2:=rfl
theorem AC9 (r:Rng):(encR r)[0]? = some (.int .i64 r.lo):=rfl
theorem AC8 (r:Rng):(encR r)[1]? = some (.int .i64 r.hi):=rfl
theorem KJ {α:Type} (p:α→Bool) (xs:List α) (k:Nat) (h:k < xs.length):(xs.drop k).any p=(p xs[k] || (xs.drop (k+1)).any p):=by
 rw [List.drop_eq_getElem_cons h,List.any_cons]

end Go.Proofs.YtocilianjfhifaaGreatDoor.Bins
/- Contracts of Same, of the two checks of a list of ranges, of the two common-number tests; no condition. -/
set_option linter.unusedSimpArgs false
set_option maxRecDepth 8000
namespace Go.Proofs.YtocilianjfhifaaGreatDoor.Bins
open Go Go.Proofs.YtocilianjfhifaaGreatDoor.Sm

/-- the error of a list of ranges: 0, 1 or 2 -/
def bad (r:Rng):Bool:=decide (r.lo < 0) || decide (r.lo > r.hi) || decide (r.hi > 65535)
def IG (xs:List Rng):Int:=if xs.length > 64 then 2 else if xs.any bad then 1 else 0

theorem XO {xs:List Rng} (h:xs.length > 64):IG xs=2:=by simp [IG,h]
theorem R9 {xs:List Rng} (h : ¬ xs.length > 64) (hb:xs.any bad=true):IG xs=1:=by simp [IG,h,hb]
theorem UO {xs:List Rng} (h : ¬ xs.length > 64) (hb:xs.any bad=false):IG xs=0:=by simp [IG,h,hb]

theorem AZZ (h:Hp):JN Tryz.prog h 185=some (.ptr h.length 0 0,h ++ [.live 2 [[.int .i64 0,.int .i64 0]]]):=JC (row := [.int .i64 0,.int .i64 0]) (by kernel_rfl)
theorem AY7 (h:Hp) (r:Rng) (row:List AV) (hr:row.length=2):FQ Tryz.prog (h ++ [.live 2 [row]]) 185 (.ptr h.length 0 0) (.agg (encR r))=some (h ++ [.live 2 [encR r]]):=by
 rw [M5 (cs:=encR r) rfl AOW (by simp [hr,encR])]
 simp [splice,hr,encR]

theorem AGB (G:Nat→AV) (xs:List Rng) (m:SM) (h:Hp) (hl:xs.length≤1099511627776) :
  PCall (En G) 203 [.sl m 2 (xs.map encR)] h (.int .i64 (IG xs)):=by
 refine ACalls.pure0 rfl ?_
 refine BX (H:=Hint.none) (enM G) Tryz.func203 rfl (by kernel_rfl) (by kernel_rfl) (Nat.le_of_ble_eq_true (by kernel_rfl)) ?_
 show awp _ _ _ _ _ (EJ _ [.tmp 2] _)
 simp -implicitDefEqProofs only [A8,AX,BF,AZ,AU,A9,AL,AO,AJ,BA,AR,AC,AA,AY,AQ,BD,BB,A7,BN,C8,AB,EK,BC,↓reduceIte,Nat.reduceEqDiff,Option.getD_some,Bool.not_false,enP,QG,List.length_map]
 refine CG (fun hc => ?_) (fun hc => ?_)
 ·simp -implicitDefEqProofs only [A8,AX,BJ,AZ,CJ,CK,AU,A9,AL,AO,AJ,BA,AR,AC,AA,AQ,BD,A7,↓reduceIte,Option.getD_some,Bool.not_false]
  exact ⟨by rw [XO (by simp at hc; omega)],[],by simp⟩
 simp -implicitDefEqProofs only [A8,BM,AX,BK,AZ,AU,A9,AL,AO,AJ,BA,AR,AC,AA,AY,AQ,BD,BB,C8,AB,BC,↓reduceIte,Nat.reduceEqDiff,Option.getD_some,Bool.not_false,enP,QG,List.length_map]
 have h64 : ¬ xs.length > 64:=by simp at hc; omega
 refine CS (fun n F H => ∃ k,n+k=xs.length∧F 8 = .sl m 2 (xs.map encR)∧F 9 = .int .i64 xs.length∧F 10 = .int .i64 (k:Nat)∧(∃ x,H=h ++ x)∧xs.any bad=(xs.drop k).any bad) xs.length ⟨0,by simp,rfl,rfl,rfl,⟨[],by simp⟩,rfl⟩ ?_
 rintro n F H ⟨k,hk,f8,f9,f10,⟨x,rfl⟩,hin⟩
 simp -implicitDefEqProofs only [A8,AX,BF,AZ,AU,A9,AL,AO,AJ,BA,AR,AC,AA,AY,BN,AB,CO,↓reduceIte,Option.getD_some,Bool.not_false,enP,f8,f9,f10]
 refine CG (fun hc => ?_) (fun hc => ?_)
 ·have hc':k < xs.length:=by simpa using hc
  have hs:=KJ bad xs k hc'
  simp -implicitDefEqProofs only [A8,BM,AX,BK,AZ,AU,A9,BH,BQ,BZ,AL,AO,AJ,BA,AR,AC,EQ,AA,AY,AQ,BD,BB,FL,BL,EC,BN,BG,BU,BO,AB,DF,CO,↓reduceIte,Nat.reduceEqDiff,Nat.add_zero,Option.getD_some,Bool.not_false,enP,ALJ,YV,Option.getD_none,f8,f9,f10,CW hc',ES AYR AOW AHJ hc',AZZ,AY7 _ _ [.int .i64 0,.int .i64 0] rfl,CX ag3,AC9,AC8]
  rw [hs] at hin
  have fin:bad xs[k]=true→IG xs=1:=fun hb=>R9 h64 (by rw [hin,hb]; rfl)
  have nxt:bad xs[k]=false→xs.any bad=(xs.drop (k+1)).any bad:=fun hb=>by rw [hin,hb]; rfl
  refine GJ (fun ha => ?_) (fun ha => ?_)
  ·simp -implicitDefEqProofs only [A8,AX,BJ,BF,AZ,CJ,D6,EZ,CK,DI,AU,A9,BH,BQ,BZ,FN,AL,AO,AJ,BA,AR,AC,AA,EM,AY,AQ,BD,BI,BB,A7,CF,DJ,↓reduceIte,Nat.reduceEqDiff,Option.getD_some,Bool.not_false,ha]
   exact ⟨by rw [fin (by unfold bad; rw [ha]; rfl)],_,by rw [List.append_assoc]⟩
  simp -implicitDefEqProofs only [AU,BH,BQ,BZ,EH,AL,AO,AJ,BA,AR,AC,AA,AY,AQ,BI,BB,CF,DK,BL,BN,BG,AB,EK,↓reduceIte,Nat.reduceEqDiff,Nat.add_zero,Nat.zero_add,Option.getD_some,Bool.not_false,enP,YV,YU,ha,CX ag3,AC9,AC8]
  refine GJ (fun hb => ?_) (fun hb => ?_)
  ·simp -implicitDefEqProofs only [A8,AX,BJ,BF,AZ,CJ,D6,EZ,CK,DI,AU,A9,BH,BQ,BZ,FN,AL,AO,AJ,BA,AR,AC,AA,EM,AY,AQ,BD,BI,A7,CF,DJ,↓reduceIte,Nat.reduceEqDiff,Option.getD_some,Bool.not_false,hb]
   exact ⟨by rw [fin (by unfold bad; rw [hb]; simp)],_,by rw [List.append_assoc]⟩
  simp -implicitDefEqProofs only [BF,AZ,AU,A9,BH,BQ,BZ,EH,AL,AO,AJ,BA,AR,AC,AA,AY,AQ,BD,BI,CF,DK,BL,BN,BG,AB,EK,↓reduceIte,Nat.reduceEqDiff,Nat.zero_add,Option.getD_some,Bool.not_false,enP,YU,hb,CX ag3,AC9,AC8]
  refine CG (fun hc => ?_) (fun hc => ?_)
  ·simp -implicitDefEqProofs only [A8,AX,BJ,AZ,CJ,D6,EZ,CK,AU,A9,AL,AO,AJ,BA,AR,AC,AA,AQ,BD,A7,↓reduceIte,Option.getD_some,Bool.not_false]
   exact ⟨by rw [fin (by unfold bad; rw [hc]; simp)],_,by rw [List.append_assoc]⟩
  ·simp -implicitDefEqProofs only [AX,BK,AZ,DU,DZ,AU,A9,AL,AO,AJ,BA,AR,AC,AA,AY,AQ,BD,BB,BN,AB,CR,↓reduceIte,Nat.reduceEqDiff,Option.getD_some,Bool.not_false,enP,f10,CB (show k < 9223372036854775807 by omega)]
   exact ⟨n - 1,by omega,k+1,by omega,f8,f9,rfl,⟨_,by rw [List.append_assoc]⟩,nxt (by unfold bad; rw [ha,hb,hc]; rfl)⟩
 ·have hc' : ¬ k < xs.length:=by simpa using hc
  simp -implicitDefEqProofs only [A8,AX,BJ,CU,AZ,DR,EB,EF,CK,AU,A9,AL,AO,AJ,BA,AR,AC,AA,AQ,BD,A7,↓reduceIte,Option.getD_some,Bool.not_false]
  rw [List.drop_eq_nil_of_le (by omega)] at hin
  exact ⟨by rw [UO h64 hin],_,rfl⟩

theorem AIY (G:Nat→AV) (xs:List Rng) (m:SM) (h:Hp) :
  PCall (En G) 216 [.sl m 2 (xs.map encR)] h (.int .i64 (IG xs)):=by
 refine BX (H:=Hint.none) (enM G) Tryz.func216 rfl (by kernel_rfl) (by kernel_rfl) (Nat.le_of_ble_eq_true (by kernel_rfl)) ?_
 show awp _ _ _ _ _ (EJ _ [.tmp 2] _)
 simp -implicitDefEqProofs only [A8,AX,BF,AZ,AU,A9,AL,AO,AJ,BA,AR,AC,AA,AY,AQ,BD,BB,A7,BN,C8,AB,EK,BC,↓reduceIte,Nat.reduceEqDiff,Option.getD_some,Bool.not_false,enP,QG,List.length_map]
 refine CG (fun hc => ?_) (fun hc => ?_)
 ·simp -implicitDefEqProofs only [A8,AX,BJ,AZ,CJ,CK,AU,A9,AL,AO,AJ,BA,AR,AC,AA,AQ,BD,A7,↓reduceIte,Option.getD_some,Bool.not_false]
  exact ⟨by rw [XO (by simp at hc; omega)],trivial⟩
 simp -implicitDefEqProofs only [A8,BM,AX,BK,AZ,AU,A9,AL,AO,AJ,BA,AR,AC,AQ,BD,A7,Option.getD_some,Bool.not_false,List.length_map]
 have h64 : ¬ xs.length > 64:=by simp at hc; omega
 refine CS (fun n F H => ∃ k,n+k=xs.length∧F 0 = .sl m 2 (xs.map encR)∧F 3 = .int .i64 (k:Nat)∧H=h∧xs.any bad=(xs.drop k).any bad) xs.length ⟨0,by simp,rfl,rfl,rfl,rfl⟩ ?_
 rintro n F H ⟨k,hk,f0,f3,rfl,hin⟩
 simp -implicitDefEqProofs only [A8,AX,BF,AZ,AU,A9,AL,AO,AJ,BA,AR,AC,AA,AY,BB,BN,C8,AB,CO,↓reduceIte,Nat.reduceEqDiff,Option.getD_some,Bool.not_false,enP,QG,f0,f3,List.length_map]
 refine CG (fun hc => ?_) (fun hc => ?_)
 ·have hc':k < xs.length:=by simpa using hc
  rw [KJ bad xs k hc'] at hin
  have fin:bad xs[k]=true→IG xs=1:=fun hb=>R9 h64 (by rw [hin,hb]; rfl)
  have nxt:bad xs[k]=false→xs.any bad=(xs.drop (k+1)).any bad:=fun hb=>by rw [hin,hb]; rfl
  simp -implicitDefEqProofs only [A8,BM,BK,AZ]
  refine EG (by kernel_rfl) ?_
  simp -implicitDefEqProofs only [FJ,DT,CZ,DV,EY,FR,ET,EN,GK,DW,DN,BZ,AL,AA,AY,AQ,BD,BL,BN,BG,BU,AB,CO,↓reduceIte,Nat.reduceEqDiff,Nat.reduceAdd,Nat.add_zero,Option.getD_some,enP,ALJ,YV,f0,f3,CW hc',CP ag3 hc',AC9,AC8]
  refine AIG (fun ha => ?_) (fun ha => ?_)
  ·simp -implicitDefEqProofs only [FJ,DT,CZ,EO,DV,EY,FR,WB,ET,G6,A8,AX,BJ,BF,AZ,CJ,D6,EZ,CK,DI,AU,A9,BZ,AL,AO,AJ,BA,AR,AC,AA,EM,AY,AQ,BD,BI,A7,CF,DJ,↓reduceIte,Nat.reduceEqDiff,Nat.reduceAdd,Option.getD_some,Bool.not_false,ha]
   exact ⟨by rw [fin (by unfold bad; rw [ha]; rfl)],trivial⟩
  simp -implicitDefEqProofs only [FJ,DT,CZ,DV,EY,FR,NT,ET,G6,EN,GK,DW,DN,BZ,AL,AA,AY,AQ,BI,CF,DK,BL,BN,BG,BU,AB,EK,↓reduceIte,Nat.reduceEqDiff,Nat.reduceAdd,Nat.add_zero,Nat.zero_add,Option.getD_some,enP,ALJ,YV,YU,ha,f0,f3,CW hc',CP ag3 hc',AC9,AC8]
  refine AIG (fun hb => ?_) (fun hb => ?_)
  ·simp -implicitDefEqProofs only [FJ,DT,CZ,EO,DV,EY,FR,WB,G6,A8,AX,BJ,BF,AZ,CJ,D6,EZ,CK,DI,AU,A9,BZ,AL,AO,AJ,BA,AR,AC,AA,EM,AY,AQ,BD,BI,A7,CF,DJ,↓reduceIte,Nat.reduceEqDiff,Nat.reduceAdd,Option.getD_some,Bool.not_false,hb]
   exact ⟨by rw [fin (by unfold bad; rw [hb]; simp)],trivial⟩
  simp -implicitDefEqProofs only [FJ,DT,CZ,EO,DV,EY,FR,NT,ET,G6,EN,GK,DW,DN,BF,AZ,BZ,AL,AA,AY,AQ,BD,BI,CF,DK,BL,BN,BG,BU,AB,EK,↓reduceIte,Nat.reduceEqDiff,Nat.reduceAdd,Nat.zero_add,Option.getD_some,enP,ALJ,YU,hb,f0,f3,CW hc',CP ag3 hc',AC9,AC8]
  refine CG (fun hc => ?_) (fun hc => ?_)
  ·simp -implicitDefEqProofs only [A8,AX,BJ,AZ,CJ,D6,EZ,CK,AU,A9,AL,AO,AJ,BA,AR,AC,AA,AQ,BD,A7,↓reduceIte,Option.getD_some,Bool.not_false]
   exact ⟨by rw [fin (by unfold bad; rw [hc]; simp)],trivial⟩
  ·simp -implicitDefEqProofs only [AX,BK,AZ,DU,DZ,AU,A9,AL,AO,AJ,BA,AR,AC,AA,AY,AQ,BD,BB,A7,BN,AB,CR,↓reduceIte,Nat.reduceEqDiff,Option.getD_some,Bool.not_false,enP,f3,CB (show k < 9223372036854775807 by omega)]
   exact ⟨n - 1,by omega,k+1,by omega,f0,rfl,trivial,nxt (by unfold bad; rw [ha,hb,hc]; rfl)⟩
 ·have hc' : ¬ k < xs.length:=by simpa using hc
  simp -implicitDefEqProofs only [A8,AX,BJ,CU,AZ,DR,EB,EF,CK,AU,A9,AL,AO,AJ,BA,AR,AC,AA,AQ,BD,A7,↓reduceIte,Option.getD_some,Bool.not_false]
  rw [List.drop_eq_nil_of_le (by omega)] at hin
  exact ⟨by rw [UO h64 hin],trivial⟩
end Go.Proofs.YtocilianjfhifaaGreatDoor.Bins
/- Contracts of meet, common, sets and of the clones; no condition. -/
namespace Go.Proofs.YtocilianjfhifaaGreatDoor.Bins
open Go Go.Proofs.YtocilianjfhifaaGreatDoor.Sm

/- a bin -/
structure Rs where
 m:SM
 l:List Rng
def AQI (r:Rs):AV := .sl r.m 2 (r.l.map encR)
def encS (r:Rs):List AV := [AQI r]
structure Bin where
 name:ByteArray
 kind:Int
 ranges:Rs
 sm:SM
 steps:List Rs
def JK (b:Bin):List AV := [.str b.name,.int .i64 b.kind,AQI b.ranges,.sl b.sm 1 (b.steps.map encS)]
theorem AL2 (b:Bin):(JK b)[0]? = some (.str b.name):=rfl
theorem PT (b:Bin):(JK b)[1]? = some (.int .i64 b.kind):=rfl
theorem VU (b:Bin):(JK b)[2]? = some (.sl b.ranges.m 2 (b.ranges.l.map encR)):=rfl
theorem QN (b:Bin):(JK b)[3]? = some (.sl b.sm 1 (b.steps.map encS)):=rfl
theorem K7 (b:Bin):(JK b).length=4:=rfl
theorem AHI (r:Rs):(encS r)[0]? = some (.sl r.m 2 (r.l.map encR)):=rfl
theorem bxB (h:Hp) (b:Bin):OH h (.agg (JK b))=some (.ptr h.length 0 0,h ++ [.live 4 [JK b]]):=rfl
theorem ldB (h:Hp) (b:Bin):D7 Tryz.prog (h ++ [.live 4 [JK b]]) 121 (.ptr h.length 0 0)=some (.agg (JK b)):=ACV XX R4 (by simp [JK])

def T9 (b:Bin):SM:=if b.ranges.l.length > 0 then .full else b.sm
def sets (b:Bin):List Rs:=if b.ranges.l.length > 0 then [b.ranges] else b.steps
theorem AX8 (h:Hp) (r:Rs):FC Tryz.prog false h 119 1 [(0,.sl r.m 2 (r.l.map encR))]=some (.sl .full 1 ([r].map encS),h):=by
 have:(R7 1 0 [(0,AV.sl r.m 2 (r.l.map encR))])=some [[.sl r.m 2 (r.l.map encR)]]:=rfl
 simp only [FC,Tryz.underlying119,AUI,this]
 have hz:PG Tryz.prog 118=some 1:=by kernel_rfl
 simp [hz,AV.frozen,encS,AQI]
end Go.Proofs.YtocilianjfhifaaGreatDoor.Bins
/- Contracts of sets, of the clones, and of the search among lists of ranges; no condition. -/
set_option linter.unusedSimpArgs false
set_option maxRecDepth 8000
namespace Go.Proofs.YtocilianjfhifaaGreatDoor.Bins
open Go Go.Proofs.YtocilianjfhifaaGreatDoor.Sm

theorem AMP (G:Nat→AV) (b:Bin) (h:Hp):PCall (En G) 202 [.agg (JK b)] h (.sl (T9 b) 1 ((sets b).map encS)):=by
 refine ACalls.pure0 rfl ?_
 refine BX (H:=Hint.none) (enM G) Tryz.func202 rfl (by kernel_rfl) (by kernel_rfl) (Nat.le_of_ble_eq_true (by kernel_rfl)) ?_
 show awp _ _ _ _ _ (EJ _ [.tmp 2] _)
 simp -implicitDefEqProofs only [A8,AX,BF,AZ,AU,A9,AL,AO,AJ,BA,AR,AC,AA,AY,AQ,BD,EX,A7,EW,BL,BN,BG,C8,BO,AB,EK,BC,↓reduceIte,Nat.reduceEqDiff,Nat.zero_add,Option.getD_some,Bool.not_false,enP,QG,PS,bxB,CX PV,VU,List.length_map]
 refine CG (fun hc => ?_) (fun hc => ?_)
 ·have hc':b.ranges.l.length > 0:=by simpa using hc
  simp -implicitDefEqProofs only [E8,FI,A8,AX,BJ,AZ,CJ,CK,AU,A9,AL,AO,AJ,BA,AR,AC,AA,AY,A7,EA,BL,BG,BO,AB,List.map_cons,List.map_nil,↓reduceIte,Nat.reduceEqDiff,Nat.zero_add,Option.getD_some,Bool.not_false,enP,PS,CX PV,VU,AX8]
  exact ⟨by rw [T9,sets,if_pos hc',if_pos hc']; rfl,_,rfl⟩
 ·have hc' : ¬ b.ranges.l.length > 0:=by simpa using hc
  simp -implicitDefEqProofs only [A8,AX,BK,BJ,AZ,CK,AU,A9,AL,AO,AJ,BA,AR,AC,AA,AY,A7,BL,BG,AB,↓reduceIte,Nat.reduceEqDiff,Nat.zero_add,Option.getD_some,Bool.not_false,enP,LC,CX QS,QN]
  exact ⟨by rw [T9,sets,if_neg hc',if_neg hc'],_,rfl⟩
theorem AO2 (G:Nat→AV) (b:Bin) (h:Hp):PCall (En G) 165 [.agg (JK b)] h (.sl (T9 b) 1 ((sets b).map encS)):=by
 refine ACalls.pure0 rfl ?_
 refine BX (H:=Hint.none) (enM G) Tryz.func165 rfl (by kernel_rfl) (by kernel_rfl) (Nat.le_of_ble_eq_true (by kernel_rfl)) ?_
 show awp _ _ _ _ _ (EJ _ [.tmp 2] _)
 simp -implicitDefEqProofs only [A8,AX,BF,AZ,AU,A9,AL,AO,AJ,BA,AR,AC,AA,AY,AQ,BD,EX,A7,EW,BL,BN,BG,C8,BO,AB,EK,BC,↓reduceIte,Nat.reduceEqDiff,Nat.zero_add,Option.getD_some,Bool.not_false,enP,QG,PS,bxB,CX PV,VU,List.length_map]
 refine CG (fun hc => ?_) (fun hc => ?_)
 ·have hc':b.ranges.l.length > 0:=by simpa using hc
  simp -implicitDefEqProofs only [E8,FI,A8,AX,BJ,AZ,CJ,CK,AU,A9,AL,AO,AJ,BA,AR,AC,AA,AY,A7,EA,BL,BG,BO,AB,List.map_cons,List.map_nil,↓reduceIte,Nat.reduceEqDiff,Nat.zero_add,Option.getD_some,Bool.not_false,enP,PS,CX PV,VU,AX8]
  exact ⟨by rw [T9,sets,if_pos hc',if_pos hc']; rfl,_,rfl⟩
 ·have hc' : ¬ b.ranges.l.length > 0:=by simpa using hc
  simp -implicitDefEqProofs only [A8,AX,BK,BJ,AZ,CK,AU,A9,AL,AO,AJ,BA,AR,AC,AA,AY,A7,BL,BG,AB,↓reduceIte,Nat.reduceEqDiff,Nat.zero_add,Option.getD_some,Bool.not_false,enP,LC,CX QS,QN]
  exact ⟨by rw [T9,sets,if_neg hc',if_neg hc'],_,rfl⟩

theorem cok (f:FuncId) (G:Nat→AV) (hf:(match Tryz.prog.funcs[f]? with | some fn=>fn.body.isSome && !(fn.name == "runtime.NumGoroutine") | none=>false)=true):XE (En G).P f:=by
 have he:(En G).P=Tryz.prog:=rfl
 unfold XE
 rw [he]
 cases hx:Tryz.prog.funcs[f]? with
 | none=>rw [hx] at hf; cases hf
 | some fn =>
   rw [hx] at hf
   simp at hf
   exact ⟨fn,rfl,by simpa using hf.1,by simpa using hf.2⟩

def encI (n:Int):List AV := [.int .i64 n]
theorem encI0 (n:Int):(encI n)[0]? = some (.int .i64 n):=rfl
theorem AQK (G:Nat→AV) (r:Rs) (h:Hp):PCall (En G) 235 [.sl r.m 2 (r.l.map encR)] h (.bool (decide (r.l.length=0))):=by
 refine BX (H:=Hint.none) (enM G) Tryz.func235 rfl (by kernel_rfl) (by kernel_rfl) (Nat.le_of_ble_eq_true (by kernel_rfl)) ?_
 show awp _ _ _ _ _ (EJ _ [.tmp 2] _)
 simp -implicitDefEqProofs only [A8,AX,BJ,AZ,CK,AU,A9,AL,AO,AJ,BA,AR,AC,AA,AY,AQ,BD,BI,BB,A7,BN,C8,AB,D9,BC,↓reduceIte,Nat.reduceEqDiff,Option.getD_some,Bool.not_false,enP,QG,List.length_map]
 refine ⟨?_,trivial⟩
 congr 1
 rw [Bool.eq_iff_iff]; simp

theorem AGU (G:Nat→AV) (xs:List Rs) (m:SM) (fid:FuncId) (caps:List AV) (p:Rs→Bool) (h:Hp) (hl:xs.length≤1099511627776)
  (hf : ∀ r,PCall (En G) fid (.sl r.m 2 (r.l.map encR) :: caps) h (.bool (p r))) :
  PCall (En G) 260 [.sl m 1 (xs.map encS),.fn (.func fid) [] caps] h (.int .i64 (match xs.findIdx? p with | some i=>(i:Int) | none => -1)):=by
 refine BX (H:=Hint.none) (enM G) Tryz.func260 rfl (by kernel_rfl) (by kernel_rfl) (Nat.le_of_ble_eq_true (by kernel_rfl)) ?_
 show awp _ _ _ _ _ (EJ _ [.tmp 4] _)
 simp -implicitDefEqProofs only [A8,BM,AX,AZ,AU,A9,AL,AO,AJ,BA,AR,AC,AA,AY,AQ,BD,BB,A7,C8,AB,BC,↓reduceIte,Nat.reduceEqDiff,Option.getD_some,Bool.not_false,enP,QF,List.length_map]
 refine CS (fun n F H => ∃ k,n+k=xs.length∧F 0 = .sl m 1 (xs.map encS)∧F 1 = .fn (.func fid) [] caps∧F 7 = .int .i64 xs.length∧F 8 = .int .i64 (k:Nat)∧H=h∧(xs.take k).all (fun r => !p r)=true) xs.length ⟨0,by simp,rfl,rfl,rfl,rfl,rfl,rfl⟩ ?_
 rintro n F H ⟨k,hk,f0,f1,f7,f8,rfl,hin⟩
 simp -implicitDefEqProofs only [A8,AX,BF,AZ,AU,A9,AL,AO,AJ,BA,AR,AC,AA,AY,BN,AB,CO,↓reduceIte,Option.getD_some,Bool.not_false,enP,f0,f1,f7,f8,List.length_map]
 refine CG (fun hc => ?_) (fun hc => ?_)
 ·have hc':k < xs.length:=by simpa using hc
  simp -implicitDefEqProofs only [A8,BM,AX,BK,AZ,AU,A9,AL,AO,AJ,BA,AR,AC,AA,AY,BB,A7,BL,BU,BV,BR,AB,List.map_cons,List.map_nil,List.nil_append,List.cons_append,↓reduceIte,Nat.reduceEqDiff,Option.getD_some,Bool.not_false,enP,AGQ,f0,f1,f7,f8,CW hc',CP PV hc',AHI]
  refine (hf _).use ?_
  simp -implicitDefEqProofs only [BF,AZ,A9,AC,AA,AY,↓reduceIte]
  refine CG (fun hb => ?_) (fun hb => ?_)
  ·simp -implicitDefEqProofs only [A8,AX,BJ,AZ,CJ,D6,EZ,CK,AU,A9,AL,AO,AJ,BA,AR,AC,AA,AY,BB,A7,↓reduceIte,Nat.reduceEqDiff,Option.getD_some,Bool.not_false]
   refine ⟨?_,trivial⟩
   rw [List.findIdx?_eq_some_iff_getElem.2 ⟨hc',hb,fun j hj=>by
    rw [List.all_eq_true] at hin
    have:=hin xs[j] (by rw [List.mem_take_iff_getElem]; exact ⟨j,by omega,rfl⟩)
    simpa using this⟩]
  ·simp -implicitDefEqProofs only [AX,BK,AZ,DU,DZ,AU,A9,AL,AO,AJ,BA,AR,AC,AA,AY,AQ,BD,BB,BN,AB,CR,↓reduceIte,Nat.reduceEqDiff,Option.getD_some,Bool.not_false,enP,f8,CB (show k < 9223372036854775807 by omega)]
   refine ⟨n - 1,by omega,k+1,by omega,f0,f1,f7,rfl,trivial,?_⟩
   rw [List.take_succ_eq_append_getElem hc',List.all_append,hin]
   simp only [List.all_cons,List.all_nil,hb]; rfl
 ·have hc' : ¬ k < xs.length:=by simpa using hc
  simp -implicitDefEqProofs only [A8,AX,BJ,CU,AZ,DR,EB,EF,CK,AU,A9,AL,AO,AJ,BA,AR,AC,AA,AQ,BD,A7,↓reduceIte,Option.getD_some,Bool.not_false]
  refine ⟨?_,trivial⟩
  rw [List.take_of_length_le (by omega)] at hin
  rw [List.findIdx?_eq_none_iff.2 (by simpa using hin)]

theorem AA3 (G:Nat→AV) (xs:List Rs) (m:SM) (fid:FuncId) (caps:List AV) (p:Rs→Bool) (h:Hp) (hl:xs.length≤1099511627776)
  (hf : ∀ r,PCall (En G) fid (.sl r.m 2 (r.l.map encR) :: caps) h (.bool (p r))) :
  PCall (En G) 234 [.sl m 1 (xs.map encS),.fn (.func fid) [] caps] h (.bool (xs.any p)):=by
 refine BX (H:=Hint.none) (enM G) Tryz.func234 rfl (by kernel_rfl) (by kernel_rfl) (Nat.le_of_ble_eq_true (by kernel_rfl)) ?_
 show awp _ _ _ _ _ (EJ _ [.tmp 4] _)
 simp -implicitDefEqProofs only [A8,AX,AZ,AU,A9,AL,AO,AJ,BA,AR,AC,AA,AY,AQ,BS,BI,BB,A7,BV,BR,BC,BP,List.map_cons,List.map_nil,List.append_nil,↓reduceIte,Nat.reduceEqDiff,Option.getD_some,Bool.not_false,enP]
 refine (AGU G xs m fid caps p h hl hf).use ?_
 simp -implicitDefEqProofs only [BJ,AZ,CK,AU,A9,AL,AO,AJ,BA,AR,AC,AA,AY,AQ,BD,A7,BN,AB,F3,↓reduceIte,Option.getD_some,Bool.not_false,enP]
 refine ⟨?_,trivial⟩
 cases hx:xs.findIdx? p with
 | some i =>
   obtain ⟨h1,h2,_⟩:=List.findIdx?_eq_some_iff_getElem.1 hx
   have:xs.any p=true:=List.any_eq_true.2 ⟨xs[i],by simp,h2⟩
   simp [this]
 | none =>
   have:xs.any p=false:=by
    rw [List.findIdx?_eq_none_iff] at hx
    rw [List.any_eq_false]; intro x hx2; simp [hx x hx2]
   simp [this]
end Go.Proofs.YtocilianjfhifaaGreatDoor.Bins
/- Contracts of the lexer's functions on names, of the program and of the reference; no condition. -/
set_option linter.unusedSimpArgs false
set_option maxRecDepth 8000
namespace Go.Proofs.YtocilianjfhifaaGreatDoor.Bins
open Go Go.Proofs.YtocilianjfhifaaGreatDoor.Sm

def PH (n:Int):Bool:=decide (n≥97) && decide (n≤122)
def AHP (n:Int):Bool:=decide (n≥48) && decide (n≤57)
def LX (n:Int):Bool:=PH n || AHP n || (decide (n≥65) && decide (n≤90)) || n == 95

theorem ZZ (G:Nat→AV) (n:Int) (h:Hp):PCall (En G) 227 [.int .i32 n] h (.bool (PH n)):=by
 refine BX (H:=Hint.none) (enM G) Tryz.func227 rfl (by kernel_rfl) (by kernel_rfl) (Nat.le_of_ble_eq_true (by kernel_rfl)) ?_
 show awp _ _ _ _ _ (EJ _ [.tmp 2] _)
 simp -implicitDefEqProofs only [A8,AX,AZ,AU,A9,BH,BQ,BZ,AL,AO,AJ,BA,AR,AC,AA,AY,AQ,BD,BI,BB,A7,BN,AB,F3,BC,↓reduceIte,Nat.reduceEqDiff,Option.getD_some,Bool.not_false,enP]
 refine GJ (fun ha => ?_) (fun ha => ?_)
 ·simp -implicitDefEqProofs only [BJ,AZ,CK,AU,A9,BH,BQ,BZ,FZ,AL,AO,AJ,BA,AR,AC,AA,AY,AQ,BD,BI,BB,A7,CF,DJ,BN,AB,J9,BC,↓reduceIte,Nat.reduceEqDiff,Option.getD_some,Bool.not_false,enP,ha]
  exact ⟨by unfold PH; rw [ha]; rfl,trivial⟩
 ·simp -implicitDefEqProofs only [BJ,AZ,CK,AU,A9,BH,BQ,BZ,IQ,AL,AO,AJ,BA,AR,AC,AA,EM,AY,AQ,BI,A7,CF,DK,↓reduceIte,Nat.reduceEqDiff,Option.getD_some,Bool.not_false,ha]
  exact ⟨by unfold PH; rw [ha]; rfl,trivial⟩
theorem AJQ (G:Nat→AV) (n:Int) (h:Hp):PCall (En G) 256 [.int .i32 n] h (.bool (AHP n)):=by
 refine BX (H:=Hint.none) (enM G) Tryz.func256 rfl (by kernel_rfl) (by kernel_rfl) (Nat.le_of_ble_eq_true (by kernel_rfl)) ?_
 show awp _ _ _ _ _ (EJ _ [.tmp 2] _)
 simp -implicitDefEqProofs only [A8,AX,AZ,AU,A9,BH,BQ,BZ,AL,AO,AJ,BA,AR,AC,AA,AY,AQ,BD,BI,BB,A7,BN,AB,F3,BC,↓reduceIte,Nat.reduceEqDiff,Option.getD_some,Bool.not_false,enP]
 refine GJ (fun ha => ?_) (fun ha => ?_)
 ·simp -implicitDefEqProofs only [BJ,AZ,CK,AU,A9,BH,BQ,BZ,FZ,AL,AO,AJ,BA,AR,AC,AA,AY,AQ,BD,BI,BB,A7,CF,DJ,BN,AB,J9,BC,↓reduceIte,Nat.reduceEqDiff,Option.getD_some,Bool.not_false,enP,ha]
  exact ⟨by unfold AHP; rw [ha]; rfl,trivial⟩
 ·simp -implicitDefEqProofs only [BJ,AZ,CK,AU,A9,BH,BQ,BZ,IQ,AL,AO,AJ,BA,AR,AC,AA,EM,AY,AQ,BI,A7,CF,DK,↓reduceIte,Nat.reduceEqDiff,Option.getD_some,Bool.not_false,ha]
  exact ⟨by unfold AHP; rw [ha]; rfl,trivial⟩
theorem ACI (G:Nat→AV) (n:Int) (h:Hp):PCall (En G) 213 [.int .u8 n] h (.bool (PH n)):=by
 refine BX (H:=Hint.none) (enM G) Tryz.func213 rfl (by kernel_rfl) (by kernel_rfl) (Nat.le_of_ble_eq_true (by kernel_rfl)) ?_
 show awp _ _ _ _ _ (EJ _ [.tmp 2] _)
 simp -implicitDefEqProofs only [A8,AX,AZ,AU,A9,BH,BQ,BZ,AL,AO,AJ,BA,AR,AC,AA,AY,AQ,BD,BI,BB,A7,BN,AB,F3,BC,↓reduceIte,Nat.reduceEqDiff,Option.getD_some,Bool.not_false,enP]
 refine GJ (fun ha => ?_) (fun ha => ?_)
 ·simp -implicitDefEqProofs only [BJ,AZ,CK,AU,A9,BH,BQ,BZ,FZ,AL,AO,AJ,BA,AR,AC,AA,AY,AQ,BD,BI,BB,A7,CF,DJ,BN,AB,J9,BC,↓reduceIte,Nat.reduceEqDiff,Option.getD_some,Bool.not_false,enP,ha]
  exact ⟨by unfold PH; rw [ha]; rfl,trivial⟩
 ·simp -implicitDefEqProofs only [BJ,AZ,CK,AU,A9,BH,BQ,BZ,IQ,AL,AO,AJ,BA,AR,AC,AA,EM,AY,AQ,BI,A7,CF,DK,↓reduceIte,Nat.reduceEqDiff,Option.getD_some,Bool.not_false,ha]
  exact ⟨by unfold PH; rw [ha]; rfl,trivial⟩
theorem ANT (G:Nat→AV) (n:Int) (h:Hp):PCall (En G) 245 [.int .u8 n] h (.bool (AHP n)):=by
 refine BX (H:=Hint.none) (enM G) Tryz.func245 rfl (by kernel_rfl) (by kernel_rfl) (Nat.le_of_ble_eq_true (by kernel_rfl)) ?_
 show awp _ _ _ _ _ (EJ _ [.tmp 2] _)
 simp -implicitDefEqProofs only [A8,AX,AZ,AU,A9,BH,BQ,BZ,AL,AO,AJ,BA,AR,AC,AA,AY,AQ,BD,BI,BB,A7,BN,AB,F3,BC,↓reduceIte,Nat.reduceEqDiff,Option.getD_some,Bool.not_false,enP]
 refine GJ (fun ha => ?_) (fun ha => ?_)
 ·simp -implicitDefEqProofs only [BJ,AZ,CK,AU,A9,BH,BQ,BZ,FZ,AL,AO,AJ,BA,AR,AC,AA,AY,AQ,BD,BI,BB,A7,CF,DJ,BN,AB,J9,BC,↓reduceIte,Nat.reduceEqDiff,Option.getD_some,Bool.not_false,enP,ha]
  exact ⟨by unfold AHP; rw [ha]; rfl,trivial⟩
 ·simp -implicitDefEqProofs only [BJ,AZ,CK,AU,A9,BH,BQ,BZ,IQ,AL,AO,AJ,BA,AR,AC,AA,EM,AY,AQ,BI,A7,CF,DK,↓reduceIte,Nat.reduceEqDiff,Option.getD_some,Bool.not_false,ha]
  exact ⟨by unfold AHP; rw [ha]; rfl,trivial⟩
theorem VN (G:Nat→AV) (n:Int) (h:Hp):PCall (En G) 228 [.int .i32 n] h (.bool (LX n)):=by
 refine BX (H:=Hint.none) (enM G) Tryz.func228 rfl (by kernel_rfl) (by kernel_rfl) (Nat.le_of_ble_eq_true (by kernel_rfl)) ?_
 show awp _ _ _ _ _ (EJ _ [.tmp 2] _)
 simp -implicitDefEqProofs only [A8,AX,AZ,AU,A9,AL,AO,AJ,BA,AR,AC,AA,AY,AQ,BS,BI,BB,A7,BV,BR,BC,List.map_cons,List.map_nil,List.append_nil,↓reduceIte,Nat.reduceEqDiff,Option.getD_some,Bool.not_false,enP]
 refine (ZZ G n h).use ?_
 simp -implicitDefEqProofs only [AU,BH,BQ,BZ,AL,AO,AJ,BA,AR,AC,AA,AY,BB,↓reduceIte,Option.getD_some,Bool.not_false]
 refine GJ (fun ha => ?_) (fun ha => ?_)
 ·simp -implicitDefEqProofs only [BJ,AZ,CK,AU,A9,BH,BQ,BZ,FN,PE,AL,AO,AJ,BA,AR,AC,AA,EM,AY,AQ,BI,BB,A7,CF,DJ,↓reduceIte,Nat.reduceEqDiff,Option.getD_some,Bool.not_false,ha]
  exact ⟨by unfold LX; rw [ha]; rfl,trivial⟩
 simp -implicitDefEqProofs only [BH,BQ,BZ,EH,AL,AO,AJ,BA,AR,AC,AA,AY,BS,BB,BV,BR,BC,List.map_cons,List.map_nil,List.append_nil,↓reduceIte,Nat.reduceEqDiff,Option.getD_some,Bool.not_false,ha]
 refine (AJQ G n h).use ?_
 simp -implicitDefEqProofs only [AU,BH,BQ,BZ,AL,AO,AJ,BA,AR,AC,AA,AY,AQ,BI,BB,CF,DK,↓reduceIte,Nat.reduceEqDiff,Option.getD_some,Bool.not_false]
 refine GJ (fun hb => ?_) (fun hb => ?_)
 ·simp -implicitDefEqProofs only [BJ,AZ,CK,AU,A9,BH,BQ,BZ,FN,PE,AL,AO,AJ,BA,AR,AC,AA,EM,AY,AQ,BI,BB,A7,CF,DJ,↓reduceIte,Nat.reduceEqDiff,Option.getD_some,Bool.not_false,hb]
  exact ⟨by unfold LX; rw [ha,hb]; rfl,trivial⟩
 simp -implicitDefEqProofs only [BH,BQ,BZ,EH,AL,AO,AJ,BA,AR,AC,AA,AY,AQ,BD,BB,BN,AB,F3,BC,↓reduceIte,Nat.reduceEqDiff,Option.getD_some,Bool.not_false,enP,hb]
 refine GJ (fun hc => ?_) (fun hc => ?_)
 ·simp -implicitDefEqProofs only [AU,BH,BQ,BZ,FZ,EH,AL,AO,AJ,BA,AR,AC,AA,AY,AQ,BD,BI,BB,CF,DJ,DK,BN,AB,J9,BC,↓reduceIte,Nat.reduceEqDiff,Option.getD_some,Bool.not_false,enP,hc]
  refine GJ (fun hd => ?_) (fun hd => ?_)
  ·simp -implicitDefEqProofs only [BJ,AZ,CK,AU,A9,BH,BQ,BZ,FN,AL,AO,AJ,BA,AR,AC,AA,EM,AY,AQ,BI,A7,CF,DJ,↓reduceIte,Nat.reduceEqDiff,Option.getD_some,Bool.not_false,hd]
   exact ⟨by unfold LX; rw [ha,hb,hc,hd]; rfl,trivial⟩
  ·simp -implicitDefEqProofs only [BJ,AZ,CK,AU,A9,BH,BQ,BZ,EH,AL,AO,AJ,BA,AR,AC,AA,AY,AQ,BD,BI,BB,A7,CF,DK,BN,AB,D9,BC,↓reduceIte,Nat.reduceEqDiff,Option.getD_some,Bool.not_false,enP,hd]
   exact ⟨by unfold LX; rw [ha,hb,hc,hd]; rfl,trivial⟩
 ·simp -implicitDefEqProofs only [BJ,AZ,CK,AU,A9,BH,BQ,BZ,EH,IQ,AL,AO,AJ,BA,AR,AC,AA,EM,AY,AQ,BD,BI,BB,A7,CF,DK,BN,AB,D9,BC,↓reduceIte,Nat.reduceEqDiff,Option.getD_some,Bool.not_false,enP,hc]
  exact ⟨by unfold LX; rw [ha,hb,hc]; rfl,trivial⟩
theorem ANC (G:Nat→AV) (n:Int) (h:Hp):PCall (En G) 215 [.int .u8 n] h (.bool (LX n)):=by
 refine BX (H:=Hint.none) (enM G) Tryz.func215 rfl (by kernel_rfl) (by kernel_rfl) (Nat.le_of_ble_eq_true (by kernel_rfl)) ?_
 show awp _ _ _ _ _ (EJ _ [.tmp 2] _)
 simp -implicitDefEqProofs only [A8,AX,AZ,AU,A9,AL,AO,AJ,BA,AR,AC,AA,AY,AQ,BS,BI,BB,A7,BV,BR,BC,List.map_cons,List.map_nil,List.append_nil,↓reduceIte,Nat.reduceEqDiff,Option.getD_some,Bool.not_false,enP]
 refine (ACI G n h).use ?_
 simp -implicitDefEqProofs only [AU,BH,BQ,BZ,AL,AO,AJ,BA,AR,AC,AA,AY,BB,↓reduceIte,Option.getD_some,Bool.not_false]
 refine GJ (fun ha => ?_) (fun ha => ?_)
 ·simp -implicitDefEqProofs only [BJ,AZ,CK,AU,A9,BH,BQ,BZ,FN,PE,AL,AO,AJ,BA,AR,AC,AA,EM,AY,AQ,BI,BB,A7,CF,DJ,↓reduceIte,Nat.reduceEqDiff,Option.getD_some,Bool.not_false,ha]
  exact ⟨by unfold LX; rw [ha]; rfl,trivial⟩
 simp -implicitDefEqProofs only [BH,BQ,BZ,EH,AL,AO,AJ,BA,AR,AC,AA,AY,BS,BB,BV,BR,BC,List.map_cons,List.map_nil,List.append_nil,↓reduceIte,Nat.reduceEqDiff,Option.getD_some,Bool.not_false,ha]
 refine (ANT G n h).use ?_
 simp -implicitDefEqProofs only [AU,BH,BQ,BZ,AL,AO,AJ,BA,AR,AC,AA,AY,AQ,BI,BB,CF,DK,↓reduceIte,Nat.reduceEqDiff,Option.getD_some,Bool.not_false]
 refine GJ (fun hb => ?_) (fun hb => ?_)
 ·simp -implicitDefEqProofs only [BJ,AZ,CK,AU,A9,BH,BQ,BZ,FN,PE,AL,AO,AJ,BA,AR,AC,AA,EM,AY,AQ,BI,BB,A7,CF,DJ,↓reduceIte,Nat.reduceEqDiff,Option.getD_some,Bool.not_false,hb]
  exact ⟨by unfold LX; rw [ha,hb]; rfl,trivial⟩
 simp -implicitDefEqProofs only [BH,BQ,BZ,EH,AL,AO,AJ,BA,AR,AC,AA,AY,AQ,BD,BB,BN,AB,F3,BC,↓reduceIte,Nat.reduceEqDiff,Option.getD_some,Bool.not_false,enP,hb]
 refine GJ (fun hc => ?_) (fun hc => ?_)
 ·simp -implicitDefEqProofs only [AU,BH,BQ,BZ,FZ,EH,AL,AO,AJ,BA,AR,AC,AA,AY,AQ,BD,BI,BB,CF,DJ,DK,BN,AB,J9,BC,↓reduceIte,Nat.reduceEqDiff,Option.getD_some,Bool.not_false,enP,hc]
  refine GJ (fun hd => ?_) (fun hd => ?_)
  ·simp -implicitDefEqProofs only [BJ,AZ,CK,AU,A9,BH,BQ,BZ,FN,AL,AO,AJ,BA,AR,AC,AA,EM,AY,AQ,BI,A7,CF,DJ,↓reduceIte,Nat.reduceEqDiff,Option.getD_some,Bool.not_false,hd]
   exact ⟨by unfold LX; rw [ha,hb,hc,hd]; rfl,trivial⟩
  ·simp -implicitDefEqProofs only [BJ,AZ,CK,AU,A9,BH,BQ,BZ,EH,AL,AO,AJ,BA,AR,AC,AA,AY,AQ,BD,BI,BB,A7,CF,DK,BN,AB,D9,BC,↓reduceIte,Nat.reduceEqDiff,Option.getD_some,Bool.not_false,enP,hd]
   exact ⟨by unfold LX; rw [ha,hb,hc,hd]; rfl,trivial⟩
 ·simp -implicitDefEqProofs only [BJ,AZ,CK,AU,A9,BH,BQ,BZ,EH,IQ,AL,AO,AJ,BA,AR,AC,AA,EM,AY,AQ,BD,BI,BB,A7,CF,DK,BN,AB,D9,BC,↓reduceIte,Nat.reduceEqDiff,Option.getD_some,Bool.not_false,enP,hc]
  exact ⟨by unfold LX; rw [ha,hb,hc]; rfl,trivial⟩

/- strings in lists -/
def encStr (s:ByteArray):List AV := [.str s]
theorem ALY (s:ByteArray):(encStr s)[0]? = some (.str s):=rfl
def I5 (xs:List ByteArray) (v:ByteArray):Bool:=xs.any fun u=>v.toList == u.toList

theorem AS7 (G:Nat→AV) (xs:List ByteArray) (m:SM) (v:ByteArray) (h:Hp) (hl:xs.length≤1099511627776) :
  PCall (En G) 243 [.sl m 1 (xs.map encStr),.str v] h (.bool (I5 xs v)):=by
 refine BX (H:=Hint.none) (enM G) Tryz.func243 rfl (by kernel_rfl) (by kernel_rfl) (Nat.le_of_ble_eq_true (by kernel_rfl)) ?_
 show awp _ _ _ _ _ (EJ _ [.tmp 4] _)
 simp -implicitDefEqProofs only [A8,BM,AX,AZ,AU,A9,AL,AO,AJ,BA,AR,AC,AQ,BD,BI,A7,Option.getD_some,Bool.not_false,enP]
 refine CS (fun n F H => ∃ k,n+k=xs.length∧F 0 = .sl m 1 (xs.map encStr)∧F 1 = .str v∧F 5 = .int .i64 (k:Nat)∧H=h∧I5 xs v=I5 (xs.drop k) v) xs.length ⟨0,by simp,rfl,rfl,rfl,rfl,rfl⟩ ?_
 rintro n F H ⟨k,hk,f0,f1,f5,rfl,hin⟩
 simp -implicitDefEqProofs only [A8,AX,BF,AZ,AU,A9,AL,AO,AJ,BA,AR,AC,AA,AY,BB,BN,C8,AB,CO,↓reduceIte,Nat.reduceEqDiff,Option.getD_some,Bool.not_false,enP,ALG,f0,f1,f5,List.length_map]
 refine CG (fun hc => ?_) (fun hc => ?_)
 ·have hc':k < xs.length:=by simpa using hc
  have hs:I5 (xs.drop k) v=((v.toList == xs[k].toList) || I5 (xs.drop (k+1)) v):=KJ _ xs k hc'
  simp -implicitDefEqProofs only [A8,BM,AX,BK,BF,AZ,AU,A9,AL,AO,AJ,BA,AR,AC,AA,AY,BB,BL,BN,BU,AB,LZ,↓reduceIte,Nat.reduceEqDiff,Option.getD_some,Bool.not_false,enP,APR,f0,f1,f5,CW hc',CP ag9 hc',ALY]
  refine CG (fun hb => ?_) (fun hb => ?_)
  ·simp -implicitDefEqProofs only [A8,AX,BJ,AZ,CJ,D6,EZ,CK,AU,A9,AL,AO,AJ,BA,AR,AC,AA,AQ,BI,A7,↓reduceIte,Option.getD_some,Bool.not_false]
   refine ⟨?_,trivial⟩
   rw [hin,hs,show (v.toList == xs[k].toList)=true by rw [BEq.comm]; exact hb]; rfl
  ·simp -implicitDefEqProofs only [AX,BK,AZ,DU,DZ,AU,A9,AL,AO,AJ,BA,AR,AC,AA,AY,AQ,BD,BB,A7,BN,AB,CR,↓reduceIte,Nat.reduceEqDiff,Option.getD_some,Bool.not_false,enP,f5,CB (show k < 9223372036854775807 by omega)]
   refine ⟨n - 1,by omega,k+1,by omega,f0,f1,rfl,trivial,?_⟩
   rw [hin,hs,show (v.toList == xs[k].toList)=false by rw [BEq.comm]; exact hb]; rfl
 ·have hc' : ¬ k < xs.length:=by simpa using hc
  simp -implicitDefEqProofs only [A8,AX,BJ,CU,AZ,DR,EB,EF,CK,AU,A9,AL,AO,AJ,BA,AR,AC,AA,AQ,BI,A7,↓reduceIte,Option.getD_some,Bool.not_false]
  exact ⟨by rw [hin,List.drop_eq_nil_of_le (by omega)]; rfl,trivial⟩

theorem AJH (G:Nat→AV) (xs:List ByteArray) (m:SM) (v:ByteArray) (h:Hp) (hl:xs.length≤1099511627776) :
  ∃ i:Int,(decide (i≥0)=I5 xs v)∧PCall (En G) 257 [.sl m 1 (xs.map encStr),.str v] h (.int .i64 i):=by
 refine ⟨(match xs.findIdx? (fun u=>v.toList == u.toList) with | some i=>(i:Int) | none => -1),?_,?_⟩
 ·cases hx:xs.findIdx? (fun u=>v.toList == u.toList) with
  | some i =>
    obtain ⟨h1,h2,_⟩:=List.findIdx?_eq_some_iff_getElem.1 hx
    have:I5 xs v=true:=List.any_eq_true.2 ⟨xs[i],by simp,h2⟩
    simp [this]
  | none =>
    have:I5 xs v=false:=by
     rw [List.findIdx?_eq_none_iff] at hx
     unfold I5
     rw [List.any_eq_false]; intro x hx2; simp only [hx x hx2]; simp
    simp [this]
 refine BX (H:=Hint.none) (enM G) Tryz.func257 rfl (by kernel_rfl) (by kernel_rfl) (Nat.le_of_ble_eq_true (by kernel_rfl)) ?_
 show awp _ _ _ _ _ (EJ _ [.tmp 4] _)
 simp -implicitDefEqProofs only [A8,BM,AX,AZ,AU,A9,AL,AO,AJ,BA,AR,AC,AA,AY,AQ,BD,BB,A7,C8,AB,BC,↓reduceIte,Nat.reduceEqDiff,Option.getD_some,Bool.not_false,enP,ALG,List.length_map]
 refine CS (fun n F H => ∃ k,n+k=xs.length∧F 0 = .sl m 1 (xs.map encStr)∧F 1 = .str v∧F 7 = .int .i64 xs.length∧F 8 = .int .i64 (k:Nat)∧H=h∧(xs.take k).all (fun u => !(v.toList == u.toList))=true) xs.length ⟨0,by simp,rfl,rfl,rfl,rfl,rfl,rfl⟩ ?_
 rintro n F H ⟨k,hk,f0,f1,f7,f8,rfl,hin⟩
 simp -implicitDefEqProofs only [A8,AX,BF,AZ,AU,A9,AL,AO,AJ,BA,AR,AC,AA,AY,BN,AB,CO,↓reduceIte,Option.getD_some,Bool.not_false,enP,f0,f1,f7,f8,List.length_map]
 refine CG (fun hc => ?_) (fun hc => ?_)
 ·have hc':k < xs.length:=by simpa using hc
  simp -implicitDefEqProofs only [A8,BM,AX,BK,BF,AZ,AU,A9,AL,AO,AJ,BA,AR,AC,AA,AY,BB,A7,BL,BN,BU,AB,LZ,↓reduceIte,Nat.reduceEqDiff,Option.getD_some,Bool.not_false,enP,APR,f0,f1,f7,f8,CW hc',CP ag9 hc',ALY]
  refine CG (fun hb => ?_) (fun hb => ?_)
  ·simp -implicitDefEqProofs only [A8,AX,BJ,AZ,CJ,D6,EZ,CK,AU,A9,AL,AO,AJ,BA,AR,AC,AA,AY,BB,A7,↓reduceIte,Nat.reduceEqDiff,Option.getD_some,Bool.not_false]
   refine ⟨?_,trivial⟩
   rw [List.findIdx?_eq_some_iff_getElem.2 ⟨hc',hb,fun j hj=>by
    rw [List.all_eq_true] at hin
    have:=hin xs[j] (by rw [List.mem_take_iff_getElem]; exact ⟨j,by omega,rfl⟩)
    simpa using this⟩]
  ·simp -implicitDefEqProofs only [AX,BK,AZ,DU,DZ,AU,A9,AL,AO,AJ,BA,AR,AC,AA,AY,AQ,BD,BB,BN,AB,CR,↓reduceIte,Nat.reduceEqDiff,Option.getD_some,Bool.not_false,enP,f8,CB (show k < 9223372036854775807 by omega)]
   refine ⟨n - 1,by omega,k+1,by omega,f0,f1,f7,rfl,trivial,?_⟩
   rw [List.take_succ_eq_append_getElem hc',List.all_append,hin]
   simp only [List.all_cons,List.all_nil,hb]; rfl
 ·have hc' : ¬ k < xs.length:=by simpa using hc
  simp -implicitDefEqProofs only [A8,AX,BJ,CU,AZ,DR,EB,EF,CK,AU,A9,AL,AO,AJ,BA,AR,AC,AA,AQ,BD,A7,↓reduceIte,Option.getD_some,Bool.not_false]
  refine ⟨?_,trivial⟩
  rw [List.take_of_length_le (by omega)] at hin
  rw [List.findIdx?_eq_none_iff.2 (by
   intro x hx
   rw [List.all_eq_true] at hin
   simpa using hin x hx)]
theorem AB5 (G:Nat→AV) (xs:List ByteArray) (m:SM) (v:ByteArray) (h:Hp) (hl:xs.length≤1099511627776) :
  PCall (En G) 229 [.sl m 1 (xs.map encStr),.str v] h (.bool (I5 xs v)):=by
 obtain ⟨i,hi,hp⟩:=AJH G xs m v h hl
 refine BX (H:=Hint.none) (enM G) Tryz.func229 rfl (by kernel_rfl) (by kernel_rfl) (Nat.le_of_ble_eq_true (by kernel_rfl)) ?_
 show awp _ _ _ _ _ (EJ _ [.tmp 4] _)
 simp -implicitDefEqProofs only [A8,AX,AZ,AU,A9,AL,AO,AJ,BA,AR,AC,AA,AY,AQ,BS,BI,BB,A7,BV,BR,BC,BP,List.map_cons,List.map_nil,List.append_nil,↓reduceIte,Nat.reduceEqDiff,Option.getD_some,Bool.not_false,enP]
 refine hp.use ?_
 simp -implicitDefEqProofs only [BJ,AZ,CK,AU,A9,AL,AO,AJ,BA,AR,AC,AA,AY,AQ,BD,A7,BN,AB,F3,↓reduceIte,Option.getD_some,Bool.not_false,enP]
 exact ⟨by rw [hi],trivial⟩

def kw:List ByteArray := [⟨#[99,108,97,115,115]⟩,⟨#[101,120,116,101,110,100,115]⟩,⟨#[114,97,110,100]⟩,⟨#[114,97,110,100,99]⟩,⟨#[115,116,97,116,101]⟩,⟨#[99,111,110,115,116,114,97,105,110,116]⟩,⟨#[115,111,102,116]⟩,⟨#[100,105,115,116]⟩,⟨#[105,102]⟩,⟨#[101,108,115,101]⟩,⟨#[101,97,99,104]⟩,⟨#[105,110]⟩,⟨#[115,111,108,118,101]⟩,⟨#[98,101,102,111,114,101]⟩,⟨#[105,110,115,105,100,101]⟩,⟨#[112,114,111,112,101,114,116,121]⟩,⟨#[115,101,113]⟩,⟨#[97,110,100]⟩,⟨#[111,114]⟩,⟨#[110,111,116]⟩,⟨#[115,101,116]⟩,⟨#[104,111,108,100]⟩,⟨#[112,108,97,105,110]⟩,⟨#[114,101,112,101,97,116]⟩]
theorem APP:kw.length=24:=rfl
theorem AED (G:Nat→AV) (h:Hp):PCall (En G) 244 [] h (.sl .full 1 (kw.map encStr)):=by
 refine BX (H:=Hint.none) (enM G) Tryz.func244 rfl (by kernel_rfl) (by kernel_rfl) (Nat.le_of_ble_eq_true (by kernel_rfl)) ?_
 show awp _ _ _ _ _ (EJ _ [.tmp 0] _)
 simp -implicitDefEqProofs only [E8,FI,A8,AX,AZ,AU,A9,AL,AO,AJ,BA,AR,AC,AQ,JU,EX,A7,EA,Option.getD_some,Bool.not_false,enP]
 refine FK (v := .sl .full 1 (kw.map encStr)) (h:=h) (by kernel_rfl) ?_
 simp -implicitDefEqProofs only [BJ,AZ,CK,AU,A9,AL,AO,AJ,BA,AR,AC,AA,AY,A7,↓reduceIte,Option.getD_some,Bool.not_false]
 exact ⟨trivial,trivial⟩
theorem ABU (G:Nat→AV) (v:ByteArray) (h:Hp):PCall (En G) 214 [.str v] h (.bool (I5 kw v)):=by
 refine BX (H:=Hint.none) (enM G) Tryz.func214 rfl (by kernel_rfl) (by kernel_rfl) (Nat.le_of_ble_eq_true (by kernel_rfl)) ?_
 show awp _ _ _ _ _ (EJ _ [.tmp 2] _)
 simp -implicitDefEqProofs only [A8,AX,AZ,AU,A9,AL,AO,AJ,BA,AR,AC,AQ,BS,BI,A7,BV,BR,List.map_nil,List.append_nil,Option.getD_some,Bool.not_false,enP]
 refine (AED G h).use ?_
 simp -implicitDefEqProofs only [AU,AL,AO,AJ,BA,AR,AC,AA,AY,BS,BB,BV,BR,BC,List.map_cons,List.map_nil,List.append_nil,↓reduceIte,Nat.reduceEqDiff,Option.getD_some,Bool.not_false]
 refine (AS7 G kw .full v h (by rw [APP]; omega)).use ?_
 simp -implicitDefEqProofs only [BJ,AZ,CK,AU,A9,AL,AO,AJ,BA,AR,AC,AA,AY,A7,↓reduceIte,Option.getD_some,Bool.not_false]
 exact ⟨trivial,trivial⟩
/-- the global variable of the keywords -/
def KwG (G:Nat→AV):Prop := ∃ m,G 0 = .fptr 1 [[.sl m 1 (kw.map encStr)]] 0 0
theorem Z8 (G:Nat→AV) (hG:KwG G) (v:ByteArray) (h:Hp):PCall (En G) 195 [.str v] h (.bool (I5 kw v)):=by
 obtain ⟨m,hg⟩:=hG
 refine BX (H:=Hint.none) (enM G) Tryz.func195 rfl (by kernel_rfl) (by kernel_rfl) (Nat.le_of_ble_eq_true (by kernel_rfl)) ?_
 show awp _ _ _ _ _ (EJ _ [.tmp 2] _)
 have e:D7 Tryz.prog h 179 (G 0)=some (.sl m 1 (kw.map encStr)):=by rw [hg]; exact APH ARD rfl rfl
 have hl:kw.length≤1099511627776:=by rw [APP]; omega
 simp -implicitDefEqProofs only [A8,AX,AZ,AU,A9,AL,AO,AJ,BA,AR,AC,AA,AY,AQ,BS,ATG,BI,BB,A7,BL,BV,BR,AB,BC,List.map_cons,List.map_nil,List.append_nil,↓reduceIte,Nat.reduceEqDiff,Option.getD_some,Bool.not_false,enP,enG,e]
 refine (AB5 G kw m v h hl).use ?_
 simp -implicitDefEqProofs only [BJ,AZ,CK,AU,A9,AL,AO,AJ,BA,AR,AC,AA,AY,A7,↓reduceIte,Option.getD_some,Bool.not_false]
 exact ⟨trivial,trivial⟩

/-- a word: not empty, begins small, goes on as names do -/
def QB (s:ByteArray):Bool:=(match s.data.toList with | []=>false | b :: _=>PH b.toNat) && s.data.toList.all fun b=>LX b.toNat
def GA (s:ByteArray):Bool:=QB s && decide (s.size≤16) && !I5 kw s

theorem WQ {n:Int} (h:LX n=true):n < 128:=by
 simp only [LX,PH,AHP,Bool.or_eq_true,Bool.and_eq_true,decide_eq_true_eq,beq_iff_eq] at h
 omega
theorem AR5 (h:Hp) (s:ByteArray):XB Tryz.prog h 9 (.str s)=some (.ptr h.length 0 0,h ++ [.iter s 0]):=by
 have:Tryz.prog.underlying 9=some .string:=by kernel_rfl
 simp [XB,this]
theorem ASM {h:Hp} {s:ByteArray} {pos:Nat} (hp:pos < s.size):XY (h ++ [.iter s pos]) (.ptr h.length 0 0) true=some (.tup [.bool true,.int .i64 pos,.int .i32 (Utf8.decode s pos).1],h ++ [.iter s (pos+(Utf8.decode s pos).2)]):=by
 simp [XY,hp]
theorem APG {h:Hp} {s:ByteArray} {pos:Nat} (hp : ¬ pos < s.size):XY (h ++ [.iter s pos]) (.ptr h.length 0 0) true=some (.tup [.bool false],h ++ [.iter s pos]):=by
 simp [XY,hp]

theorem QW {s:ByteArray} {k:Nat} (hk:k < s.size) (hb:LX (s[k]'hk).toNat=false):QB s=false:=by
 unfold QB
 have:(s.data.toList.all fun b=>LX b.toNat)=false:=by
  rw [List.all_eq_false]
  exact ⟨s[k],Array.getElem_mem_toList (xs:=s.data) hk,by simp [hb]⟩
 rw [this]; simp
theorem XF {s:ByteArray} (hk:0 < s.size) (hb:PH (s[0]'hk).toNat=false):QB s=false:=by
 unfold QB
 have:(match s.data.toList with | []=>false | b :: _=>PH b.toNat)=false:=by
  cases hl:s.data.toList with
  | nil=>rfl
  | cons b l =>
    have h0:s[0]'hk=b:=by
     have:s.data.toList[0]? = some b:=by rw [hl]; rfl
     have h2:s.data[0]? = some b:=by rw [← Array.getElem?_toList]; exact this
     have hk':0 < s.data.size:=hk
     rw [Array.getElem?_eq_getElem hk'] at h2
     exact Option.some.inj h2
    simp only
    rw [← h0]; exact hb
 rw [this]; simp
theorem AFI {s:ByteArray} (hk:0 < s.size) (hb:PH (s[0]'hk).toNat=true) (ha : ∀ i (hi:i < s.size),LX (s[i]'hi).toNat=true):QB s=true:=by
 unfold QB
 have h1:(match s.data.toList with | []=>false | b :: _=>PH b.toNat)=true:=by
  cases hl:s.data.toList with
  | nil =>
    have:s.data.toList.length=0:=by rw [hl]; rfl
    have h2:s.data.size=0:=by simpa using this
    have h3:s.size=s.data.size:=rfl
    omega
  | cons b l =>
    have h0:s[0]'hk=b:=by
     have:s.data.toList[0]? = some b:=by rw [hl]; rfl
     have h2:s.data[0]? = some b:=by rw [← Array.getElem?_toList]; exact this
     have hk':0 < s.data.size:=hk
     rw [Array.getElem?_eq_getElem hk'] at h2
     exact Option.some.inj h2
    simp only
    rw [← h0]; exact hb
 rw [h1,Bool.true_and,List.all_eq_true]
 intro b hbm
 obtain ⟨i,hi,rfl⟩:=List.getElem_of_mem hbm
 have hi':i < s.size:=by simpa using hi
 exact ha i hi'

theorem AMH (G:Nat→AV) (s:ByteArray) (h:Hp) (hl:s.size≤1099511627776):PCall (En G) 194 [.str s] h (.bool (QB s)):=by
 refine ACalls.pure0 rfl ?_
 refine BX (H:=Hint.none) (enM G) Tryz.func194 rfl (by kernel_rfl) (by kernel_rfl) (Nat.le_of_ble_eq_true (by kernel_rfl)) ?_
 show awp _ _ _ _ _ (EJ _ [.tmp 2] _)
 simp -implicitDefEqProofs only [A8,BM,AX,AZ,AU,A9,AL,AO,AJ,BA,AR,AC,AA,AY,AQ,BI,BB,A7,ARS,BO,BC,↓reduceIte,Nat.reduceEqDiff,Option.getD_some,Bool.not_false,enP,AR5]
 refine CS (fun n F H => ∃ k,n+k=s.size∧F 0 = .str s∧F 6 = .ptr h.length 0 0∧H=h ++ [.iter s k]∧(∀ i (hi:i < s.size),i < k→LX (s[i]'hi).toNat=true)∧(∀ hp:0 < s.size,0 < k→PH (s[0]'hp).toNat=true)) s.size ⟨0,by simp,rfl,by simp -implicitDefEqProofs only [AA,↓reduceIte],rfl,fun _ _ h=>absurd h (by omega),fun _ h=>absurd h (by omega)⟩ ?_
 rintro n F H ⟨k,hk,f0,f6,rfl,hall,h0⟩
 rcases Classical.em (k < s.size) with hp | hp
 ·have go : ∀ (r:Nat × Nat),Utf8.decode s k=r→(LX r.1=true→r=((s[k]'hp).toNat,1)∧LX (s[k]'hp).toNat=true)∧(LX r.1=false→QB s=false)∧(PH r.1=false→k=0→QB s=false)∧(PH r.1=true→LX r.1=true):=by
   rintro r rfl
   have lf : ∀ n,PH n=true→LX n=true:=fun n hn=>by unfold LX; rw [hn]; rfl
   rcases Nat.lt_or_ge (s[k]'hp).toNat 128 with ha | ha
   ·have hd:=decode_ascii s k hp ha
    rw [hd]
    exact ⟨fun hf=>⟨rfl,hf⟩,fun hf=>QW hp hf,fun hf h0=>by subst h0; exact XF hp hf,lf _⟩
   ·have hd:=(decode_high s k hp ha).1
    refine ⟨fun hf => ?_,fun _ => ?_,fun _ h0 => ?_,lf _⟩
    ·have:=WQ hf; omega
    ·refine QW hp ?_
     cases hf:LX (s[k]'hp).toNat with
     | false=>rfl
     | true=>have:=WQ hf; omega
    ·refine QW hp ?_
     cases hf:LX (s[k]'hp).toNat with
     | false=>rfl
     | true=>have:=WQ hf; omega
  simp -implicitDefEqProofs only [List.getElem?_cons_zero,List.getElem?_cons_succ,A8,BM,AX,BK,BF,AZ,DI,AU,A9,BH,BQ,BZ,AL,AO,AJ,BA,AR,AC,AA,AY,AQ,BD,BB,A7,BN,AOO,D8,FB,BO,AB,D9,↓reduceIte,Nat.reduceEqDiff,Option.getD_some,Bool.not_false,enP,f0,f6,ASM hp]
  generalize hr:Utf8.decode s k=r at go
  obtain ⟨g1,g2,g3,g4⟩:=go r rfl
  have done : ∀ H',LX r.1=true→(k=0→PH r.1=true)→H'=h ++ [ABlk.iter s (k+r.2)]→∃ m,m < n∧∃ k',m+k'=s.size∧H'=h ++ [.iter s k']∧(∀ i (hi:i < s.size),i < k'→LX (s[i]'hi).toNat=true)∧(∀ hp:0 < s.size,0 < k'→PH (s[0]'hp).toNat=true):=by
   intro H' hf hlw hH
   obtain ⟨e1,e2⟩:=g1 hf
   refine ⟨n - 1,by omega,k+1,by omega,by rw [hH,e1],fun i hi hik => ?_,fun hp0 _ => ?_⟩
   ·rcases Nat.lt_or_ge i k with h' | h'
    ·exact hall i hi h'
    ·have:i=k:=by omega
     subst this; exact e2
   ·rcases Nat.eq_zero_or_pos k with h' | h'
    ·subst h'; have:=hlw rfl; rw [e1] at this; exact this
    ·exact h0 hp0 h'
  refine GJ (fun ha => ?_) (fun ha => ?_)
  ·have hk0:k=0:=by simp at ha; omega
   simp -implicitDefEqProofs only [BH,BQ,BZ,FZ,AL,AO,AJ,BA,AR,AC,AA,AY,BS,BB,BV,BR,List.map_cons,List.map_nil,List.append_nil,↓reduceIte,Nat.reduceEqDiff,Option.getD_some,Bool.not_false,ha]
   refine (ZZ G _ _).use ?_
   simp -implicitDefEqProofs only [AU,BH,BQ,BZ,FZ,AL,AO,AJ,BA,AR,AC,AA,AY,AQ,BI,BB,CF,DJ,F9,AB,ER,↓reduceIte,Nat.reduceEqDiff,Option.getD_some,Bool.not_false]
   refine GJ (fun hb => ?_) (fun hb => ?_)
   ·simp -implicitDefEqProofs only [A8,AX,BJ,BF,AZ,CJ,D6,EZ,CK,DI,AU,A9,BH,BQ,BZ,FN,AL,AO,AJ,BA,AR,AC,AA,EM,AY,AQ,BI,A7,CF,DJ,↓reduceIte,Nat.reduceEqDiff,Option.getD_some,Bool.not_false,hb]
    have hlw:PH r.1=false:=by simpa using hb
    exact ⟨by rw [g3 hlw hk0],_,rfl⟩
   have hlw:PH r.1=true:=by simpa using hb
   simp -implicitDefEqProofs only [BH,BQ,BZ,EH,AL,AO,AJ,BA,AR,AC,AA,AY,BS,BB,BV,BR,List.map_cons,List.map_nil,List.append_nil,↓reduceIte,Nat.reduceEqDiff,Option.getD_some,Bool.not_false,hb]
   refine (VN G _ _).use ?_
   simp -implicitDefEqProofs only [BF,AZ,AU,A9,BH,BQ,BZ,EH,AL,AO,AJ,BA,AR,AC,AA,AY,AQ,BI,CF,DK,F9,AB,ER,↓reduceIte,Nat.reduceEqDiff,Option.getD_some,Bool.not_false]
   have hf:=g4 hlw
   simp -implicitDefEqProofs only [BK,DU,DZ,DL,AA,↓reduceIte,Nat.reduceEqDiff,Bool.not_true,hf]
   obtain ⟨m,h1,k',h2,h3,h4,h5⟩:=done _ hf (fun _=>hlw) rfl
   exact ⟨m,h1,k',h2,f0,f6,h3,h4,h5⟩
  ·have hk0:k≠0:=by intro e; subst e; simp at ha
   simp -implicitDefEqProofs only [AU,BH,BQ,BZ,EH,IQ,AL,AO,AJ,BA,AR,AC,AA,EM,AY,AQ,BS,BI,BB,CF,DK,BV,BR,List.map_cons,List.map_nil,List.append_nil,↓reduceIte,Nat.reduceEqDiff,Option.getD_some,Bool.not_false,ha]
   refine (VN G _ _).use ?_
   simp -implicitDefEqProofs only [BF,AZ,AU,A9,BH,BQ,BZ,EH,AL,AO,AJ,BA,AR,AC,AA,AY,AQ,BI,CF,DK,F9,AB,ER,↓reduceIte,Nat.reduceEqDiff,Option.getD_some,Bool.not_false]
   refine CG (fun hb => ?_) (fun hb => ?_)
   ·have hf:LX r.1=false:=by simpa using hb
    simp -implicitDefEqProofs only [A8,AX,BJ,AZ,CJ,D6,EZ,CK,AU,A9,AL,AO,AJ,BA,AR,AC,AA,AQ,BI,A7,↓reduceIte,Option.getD_some,Bool.not_false]
    exact ⟨by rw [g2 hf],_,rfl⟩
   ·have hf:LX r.1=true:=by simpa using hb
    simp -implicitDefEqProofs only [BK,DU,DZ,AA,↓reduceIte,Nat.reduceEqDiff]
    obtain ⟨m,h1,k',h2,h3,h4,h5⟩:=done _ hf (fun e=>absurd e hk0) rfl
    exact ⟨m,h1,k',h2,f0,f6,h3,h4,h5⟩
 ·simp -implicitDefEqProofs only [List.getElem?_cons_zero,A8,AX,BJ,CU,BF,AZ,DR,EB,EF,CK,DL,AU,A9,AL,AO,AJ,BA,AR,AC,AA,AY,AQ,JU,BB,A7,BN,AOO,D8,FB,BO,AB,AA8,↓reduceIte,Nat.reduceEqDiff,Option.getD_some,Bool.not_false,enP,f0,f6,APG hp]
  have hks:k=s.size:=by omega
  refine ⟨?_,_,rfl⟩
  congr 1
  rcases Nat.eq_zero_or_pos s.size with hz | hz
  ·have:s=⟨#[]⟩:=by
    obtain ⟨d⟩:=s
    have:d.size=0:=hz
    rw [Array.eq_empty_of_size_eq_zero this]
   subst this
   rw [ByteArray.toList_eq]
   rfl
  ·rw [AFI hz (h0 hz (by omega)) (fun i hi=>hall i hi (by omega))]
   have hne:s.toList≠[]:=by
    rw [ByteArray.toList_eq]
    intro e
    have:s.data.toList.length=0:=by rw [e]; rfl
    have h2:s.data.size=0:=by simpa using this
    have h3:s.size=s.data.size:=rfl
    omega
   cases hl2:s.toList with
   | nil=>exact absurd hl2 hne
   | cons=>rw [ByteArray.toList_eq]; rfl
end Go.Proofs.YtocilianjfhifaaGreatDoor.Bins
/- Contracts of the name tests and of Valid, of the program and of the reference; no condition. -/
set_option linter.unusedSimpArgs false
set_option maxRecDepth 8000
namespace Go.Proofs.YtocilianjfhifaaGreatDoor.Bins
open Go Go.Proofs.YtocilianjfhifaaGreatDoor.Sm

theorem MH (G:Nat→AV) (hG:KwG G) (s:ByteArray) (h:Hp) (hl:s.size≤1099511627776):PCall (En G) 150 [.str s] h (.bool (GA s)):=by
 refine BX (H:=Hint.none) (enM G) Tryz.func150 rfl (by kernel_rfl) (by kernel_rfl) (Nat.le_of_ble_eq_true (by kernel_rfl)) ?_
 show awp _ _ _ _ _ (EJ _ [.tmp 2] _)
 simp -implicitDefEqProofs only [A8,AX,AZ,AU,A9,AL,AO,AJ,BA,AR,AC,AA,AY,AQ,BS,BI,BB,A7,BV,BR,BC,List.map_cons,List.map_nil,List.append_nil,↓reduceIte,Nat.reduceEqDiff,Option.getD_some,Bool.not_false,enP]
 refine (AMH G s h hl).use ?_
 simp -implicitDefEqProofs only [AU,BH,BQ,BZ,AL,AO,AJ,BA,AR,AC,AA,AY,BB,↓reduceIte,Option.getD_some,Bool.not_false]
 refine GJ (fun ha => ?_) (fun ha => ?_)
 ·simp -implicitDefEqProofs only [AU,BH,BQ,BZ,FZ,AL,AO,AJ,BA,AR,AC,AA,AY,AQ,BD,BI,BB,CF,DJ,BN,C8,AB,J9,BC,↓reduceIte,Nat.reduceEqDiff,Option.getD_some,Bool.not_false,enP,ln9,ha]
  refine GJ (fun hb => ?_) (fun hb => ?_)
  ·simp -implicitDefEqProofs only [BH,BQ,BZ,FZ,AL,AO,AJ,BA,AR,AC,AA,AY,BS,BB,BV,BR,BC,List.map_cons,List.map_nil,List.append_nil,↓reduceIte,Nat.reduceEqDiff,Option.getD_some,Bool.not_false,hb]
   refine (Z8 G hG s h).use ?_
   simp -implicitDefEqProofs only [BJ,AZ,CK,AU,A9,BH,BQ,BZ,FZ,AL,AO,AJ,BA,AR,AC,AA,AY,AQ,BI,A7,CF,DJ,F9,AB,ER,↓reduceIte,Nat.reduceEqDiff,Option.getD_some,Bool.not_false]
   refine ⟨?_,trivial⟩
   have:decide (s.size≤16)=true:=by simp at hb ⊢; omega
   unfold GA; rw [ha,this]; rfl
  ·simp -implicitDefEqProofs only [BJ,AZ,CK,AU,A9,BH,BQ,BZ,IQ,AL,AO,AJ,BA,AR,AC,AA,EM,AY,AQ,BI,A7,CF,DK,↓reduceIte,Nat.reduceEqDiff,Option.getD_some,Bool.not_false,hb]
   refine ⟨?_,trivial⟩
   have:decide (s.size≤16)=false:=by simp at hb ⊢; omega
   unfold GA; rw [ha,this]; rfl
 ·simp -implicitDefEqProofs only [BJ,AZ,CK,AU,A9,BH,BQ,BZ,IQ,AL,AO,AJ,BA,AR,AC,AA,EM,AY,AQ,BI,BB,A7,CF,DK,↓reduceIte,Nat.reduceEqDiff,Option.getD_some,Bool.not_false,ha]
  exact ⟨by unfold GA; rw [ha]; rfl,trivial⟩

theorem ix9 (s:ByteArray) (k:Nat) (kk:IntKind) (hk:k < s.size):NY Tryz.prog 9 (.str s) (.int kk (k:Int))=some (.int .u8 (s[k]'hk).toNat):=by
 have hu:Tryz.prog.underlying 9=some .string:=by kernel_rfl
 have h0:(0:Int)≤(k:Int):=by omega
 have:s[k]? = some (s[k]'hk):=by simp [hk]
 simp [NY,hu,h0,this]

theorem M8 (G:Nat→AV) (s:ByteArray) (h:Hp):PCall (En G) 160 [.str s] h (.bool (GA s)):=by
 refine BX (H:=Hint.none) (enM G) Tryz.func160 rfl (by kernel_rfl) (by kernel_rfl) (Nat.le_of_ble_eq_true (by kernel_rfl)) ?_
 show awp _ _ _ _ _ (EJ _ [.tmp 2] _)
 simp -implicitDefEqProofs only [A8,AX,AZ,AU,A9,BH,BQ,BZ,AL,AO,AJ,BA,AR,AC,AA,AY,AQ,BI,JU,BB,A7,BN,AB,LZ,BC,↓reduceIte,Nat.reduceEqDiff,Option.getD_some,Bool.not_false,enP]
 refine GJ (fun ha => ?_) (fun ha => ?_)
 ·simp -implicitDefEqProofs only [A8,AX,BJ,BF,AZ,CJ,CK,DI,AU,A9,BH,BQ,BZ,FN,AL,AO,AJ,BA,AR,AC,AA,EM,AY,AQ,BI,BB,A7,CF,DJ,↓reduceIte,Nat.reduceEqDiff,Option.getD_some,Bool.not_false,ha]
  refine ⟨?_,trivial⟩
  have:s.data.toList = []:=by
   rw [ByteArray.toList_eq,ByteArray.toList_eq] at ha
   have:=beq_iff_eq.1 ha
   exact this
  unfold GA QB; rw [this]; rfl
 have hz:0 < s.size:=by
  rcases Nat.eq_zero_or_pos s.size with hz | hz
  ·have:s=⟨#[]⟩:=by
    obtain ⟨d⟩:=s
    have:d.size=0:=hz
    rw [Array.eq_empty_of_size_eq_zero this]
   rw [this] at ha
   simp at ha
  ·exact hz
 simp -implicitDefEqProofs only [AU,BH,BQ,BZ,EH,AL,AO,AJ,BA,AR,AC,AA,AY,AQ,BD,BI,BB,CF,DK,BN,C8,AB,EK,BC,↓reduceIte,Nat.reduceEqDiff,Option.getD_some,Bool.not_false,enP,ln9,ha]
 refine GJ (fun hb => ?_) (fun hb => ?_)
 ·simp -implicitDefEqProofs only [A8,AX,BJ,BF,AZ,CJ,CK,DI,AU,A9,BH,BQ,BZ,FN,AL,AO,AJ,BA,AR,AC,AA,EM,AY,AQ,BI,BB,A7,CF,DJ,↓reduceIte,Nat.reduceEqDiff,Option.getD_some,Bool.not_false,hb]
  refine ⟨?_,trivial⟩
  have:decide (s.size≤16)=false:=by simp at hb ⊢; omega
  unfold GA; rw [this]; simp
 have h16:decide (s.size≤16)=true:=by simp at hb ⊢; omega
 simp -implicitDefEqProofs only [BH,BQ,BZ,EH,AL,AO,AJ,BA,AR,AC,AA,AY,AQ,BD,BB,NZ,BC,↓reduceIte,Nat.reduceEqDiff,Option.getD_some,Bool.not_false,enP,hb]
 refine FK (v := .int .u8 (s[0]'hz).toNat) (h:=h) (by rw [show (0:Int)=((0:Nat):Int) from rfl,ix9 s 0 .i64 hz]; rfl) ?_
 simp -implicitDefEqProofs only [BH,BQ,BZ,EH,AL,AO,AJ,BA,AR,AC,AA,AY,BS,BV,BR,List.map_cons,List.map_nil,List.append_nil,↓reduceIte,Nat.reduceEqDiff,Option.getD_some,Bool.not_false]
 refine (ACI G _ h).use ?_
 simp -implicitDefEqProofs only [AU,BH,BQ,BZ,EH,AL,AO,AJ,BA,AR,AC,AA,AY,AQ,BI,BB,CF,DK,F9,AB,ER,↓reduceIte,Nat.reduceEqDiff,Option.getD_some,Bool.not_false]
 refine GJ (fun hc => ?_) (fun hc => ?_)
 ·simp -implicitDefEqProofs only [A8,AX,BJ,BF,AZ,CJ,CK,DI,AU,A9,BH,BQ,BZ,FN,AL,AO,AJ,BA,AR,AC,AA,EM,AY,AQ,BI,A7,CF,DJ,↓reduceIte,Nat.reduceEqDiff,Option.getD_some,Bool.not_false,hc]
  refine ⟨?_,trivial⟩
  unfold GA; rw [XF hz (by simpa using hc)]; rfl
 simp -implicitDefEqProofs only [BH,BQ,BZ,EH,AL,AO,AJ,BA,AR,AC,AA,AY,BS,BB,BV,BR,BC,List.map_cons,List.map_nil,List.append_nil,↓reduceIte,Nat.reduceEqDiff,Option.getD_some,Bool.not_false,hc]
 refine (ABU G s h).use ?_
 simp -implicitDefEqProofs only [BF,AZ,AU,A9,AL,AO,AJ,BA,AR,AC,AA,AY,AQ,BI,CF,DK,↓reduceIte,Nat.reduceEqDiff,Option.getD_some,Bool.not_false]
 refine CG (fun hd => ?_) (fun hd => ?_)
 ·simp -implicitDefEqProofs only [A8,AX,BJ,AZ,CJ,CK,AU,A9,AL,AO,AJ,BA,AR,AC,AA,AQ,BI,A7,↓reduceIte,Option.getD_some,Bool.not_false]
  refine ⟨?_,trivial⟩
  unfold GA; rw [hd]; simp
 simp -implicitDefEqProofs only [A8,BM,AX,BK,AZ,AU,A9,AL,AO,AJ,BA,AR,AC,AQ,BD,A7,Option.getD_some,Bool.not_false]
 have hlow:PH (s[0]'hz).toNat=true:=by simpa using hc
 refine CS (fun n F H => ∃ k,n+k=s.size∧F 0 = .str s∧F 3 = .int .i64 (k:Nat)∧H=h∧(∀ i (hi:i < s.size),i < k→LX (s[i]'hi).toNat=true)) s.size ⟨0,by simp,by simp -implicitDefEqProofs only [AA,BC,↓reduceIte,Nat.reduceEqDiff],by simp -implicitDefEqProofs only [AA,↓reduceIte]; rfl,rfl,fun _ _ h=>absurd h (by omega)⟩ ?_
 rintro n F H ⟨k,hk,f0,f3,rfl,hall⟩
 simp -implicitDefEqProofs only [A8,AX,BF,AZ,AU,A9,AL,AO,AJ,BA,AR,AC,AA,AY,BB,BN,C8,AB,CO,↓reduceIte,Nat.reduceEqDiff,Option.getD_some,Bool.not_false,enP,ln9,f0,f3]
 refine CG (fun he => ?_) (fun he => ?_)
 ·have hk':k < s.size:=by simpa using he
  simp -implicitDefEqProofs only [A8,BM,AX,BK,AZ,AU,AL,AO,AJ,BA,AR,AC,AA,AY,BS,BB,NZ,BV,BR,AB,List.map_cons,List.map_nil,List.append_nil,↓reduceIte,Nat.reduceEqDiff,Option.getD_some,Bool.not_false,enP,f0,f3,ix9 s k .i64 hk']
  refine (ANC G _ _).use ?_
  simp -implicitDefEqProofs only [BF,AZ,AU,A9,AL,AO,AJ,BA,AR,AC,AA,AY,F9,AB,ER,↓reduceIte,Option.getD_some,Bool.not_false]
  refine CG (fun hf => ?_) (fun hf => ?_)
  ·simp -implicitDefEqProofs only [A8,AX,BJ,AZ,CJ,D6,EZ,CK,AU,A9,AL,AO,AJ,BA,AR,AC,AA,AQ,BI,A7,↓reduceIte,Option.getD_some,Bool.not_false]
   refine ⟨?_,trivial⟩
   unfold GA; rw [QW hk' (by simpa using hf)]; rfl
  ·simp -implicitDefEqProofs only [AX,BK,AZ,DU,DZ,AU,A9,AL,AO,AJ,BA,AR,AC,AA,AY,AQ,BD,BB,A7,BN,AB,CR,↓reduceIte,Nat.reduceEqDiff,Option.getD_some,Bool.not_false,enP,f3,CB (show k < 9223372036854775807 by simp at h16; omega)]
   refine ⟨n - 1,by omega,k+1,by omega,f0,rfl,trivial,fun i hi hik => ?_⟩
   rcases Nat.lt_or_ge i k with h' | h'
   ·exact hall i hi h'
   ·have:i=k:=by omega
    subst this; simpa using hf
 ·have hk' : ¬ k < s.size:=by simpa using he
  simp -implicitDefEqProofs only [A8,AX,BJ,CU,AZ,DR,EB,EF,CK,AU,A9,AL,AO,AJ,BA,AR,AC,AA,AQ,BI,A7,↓reduceIte,Option.getD_some,Bool.not_false]
  refine ⟨?_,trivial⟩
  unfold GA
  rw [AFI hz hlow (fun i hi=>hall i hi (by omega)),h16,hd]; rfl

/-- what the reference says of the shape -/
def JB (b:Bin):Bool :=
 decide (b.kind < 0) || decide (b.kind > 2) || (decide ((b.ranges.l.length:Int) > 0) == decide ((b.steps.length:Int) > 0)) || (b.kind != 0 && decide ((b.steps.length:Int) > 0)) || ((b.steps.length:Int) == 1) || decide ((b.steps.length:Int) > 8)
def HY (b:Bin):Int :=
 if GA b.name then if JB b then 1 else if b.steps.any (fun l=>decide (l.l.length=0)) then 1 else
  if (sets b).any (fun l=>decide (l.l.length > 64)) then 2 else if (sets b).any (fun l=>l.l.any bad) then 1 else 0
 else 7

/-- what the program says of the shape -/
def shape (b:Bin):Bool :=
 if (b.kind != 0 && b.kind != 1 && b.kind != 2) then false else if ((b.steps.length:Int) == 0) then decide ((b.ranges.l.length:Int) > 0) else
  if (decide ((b.ranges.l.length:Int) > 0) || b.kind != 0 || decide ((b.steps.length:Int) < 2) || decide ((b.steps.length:Int) > 8)) then false else !(b.steps.any (fun l=>decide (l.l.length=0)))

theorem AIS : ∀ (n p z o t r s0 s1 s8 E:Bool),((n || p || z || o || t) && !(n && p) && !(n && z) && !(n && o) && !(n && t) && !(p && z) && !(p && o) && !(p && t) && !(z && o) && !(z && t) && !(o && t) && !(s0 && s1) && !(s0 && s8) && !(s1 && s8) && !(s0 && E))=true →
 (if (!z && !o && !t) then false else if s0 then r else if (r || !z || (s0 || s1) || s8) then false else !E)=(!(n || p || (r == !s0) || (!z && !s0) || s1 || s8) && !E):=by decide +kernel
theorem AMO (k r s:Int) (E:Bool) (hs:0≤s) (hE:s=0→E=false) :
  (if (k != 0 && k != 1 && k != 2) then false else if (s == 0) then decide (r > 0) else if (decide (r > 0) || k != 0 || decide (s < 2) || decide (s > 8)) then false else !E) =
  (!(decide (k < 0) || decide (k > 2) || (decide (r > 0) == decide (s > 0)) || (k != 0 && decide (s > 0)) || (s == 1) || decide (s > 8)) && !E):=by
 have h1:decide (s > 0) = !(s == 0):=by rw [Bool.eq_iff_iff]; simp; omega
 have h2:decide (s < 2)=((s == 0) || (s == 1)):=by rw [Bool.eq_iff_iff]; simp; omega
 rw [h1,h2]
 have key:=AIS (decide (k < 0)) (decide (k > 2)) (k == 0) (k == 1) (k == 2) (decide (r > 0)) (s == 0) (s == 1) (decide (s > 8)) E ?_
 ·exact key
 ·have a1:(decide (k < 0) || decide (k > 2) || (k == 0) || (k == 1) || (k == 2))=true:=by simp; omega
  have no : ∀ (p q:Prop) [Decidable p] [Decidable q],¬ (p∧q)→(!(decide p && decide q))=true:=by
   intro p q _ _ h; by_cases hp:p <;> by_cases hq:q <;> simp_all
  have e0:(s == 0 && E)=false:=by
   by_cases hz:s=0
   ·rw [hE hz]; simp
   ·simp [hz]
  have b0:(k == 0)=decide (k=0):=rfl
  have b1:(k == 1)=decide (k=1):=rfl
  have b2:(k == 2)=decide (k=2):=rfl
  have c0:(s == 0)=decide (s=0):=rfl
  have c1:(s == 1)=decide (s=1):=rfl
  rw [e0]
  rw [b0,b1,b2] at a1 ⊢
  rw [c0,c1,a1,no _ _ (show ¬ (k < 0∧k > 2) by omega),no _ _ (show ¬ (k < 0∧k=0) by omega),no _ _ (show ¬ (k < 0∧k=1) by omega),no _ _ (show ¬ (k < 0∧k=2) by omega),
   no _ _ (show ¬ (k > 2∧k=0) by omega),no _ _ (show ¬ (k > 2∧k=1) by omega),no _ _ (show ¬ (k > 2∧k=2) by omega),no _ _ (show ¬ (k=0∧k=1) by omega),no _ _ (show ¬ (k=0∧k=2) by omega),no _ _ (show ¬ (k=1∧k=2) by omega),
   no _ _ (show ¬ (s=0∧s=1) by omega),no _ _ (show ¬ (s=0∧s > 8) by omega),no _ _ (show ¬ (s=1∧s > 8) by omega)]
  rfl
theorem AFZ (b:Bin):shape b=(!JB b && !(b.steps.any (fun l=>decide (l.l.length=0)))) :=
 AMO b.kind b.ranges.l.length b.steps.length _ (by omega) (fun h=>by
  have:b.steps = []:=List.eq_nil_of_length_eq_zero (by omega)
  rw [this]; rfl)

theorem AIR (G:Nat→AV) (b:Bin) (h:Hp) (hl:b.steps.length≤1099511627776):PCall (En G) 201 [.agg (JK b)] h (.bool (shape b)):=by
 refine ACalls.pure0 rfl ?_
 refine BX (H:=Hint.none) (enM G) Tryz.func201 rfl (by kernel_rfl) (by kernel_rfl) (Nat.le_of_ble_eq_true (by kernel_rfl)) ?_
 show awp _ _ _ _ _ (EJ _ [.tmp 2] _)
 simp -implicitDefEqProofs only [A8,BM,AX,AZ,AU,A9,BH,BQ,BZ,AL,AO,AJ,BA,AR,AC,AA,AY,AQ,BD,BI,BB,A7,EW,BL,BN,BG,C8,BO,AB,ED,BC,↓reduceIte,Nat.reduceEqDiff,Nat.zero_add,Option.getD_some,Bool.not_false,enP,QF,KZ,LC,bxB,CX QS,CX PV,CX ag3,PT,VU,QN,List.length_map]
 refine RL (fun F H=>F 7 = .bool (b.kind != 0 && b.kind != 1 && b.kind != 2)∧F 1 = .ptr h.length 0 0∧F 3 = .int .i64 b.steps.length∧H=h ++ [.live 4 [JK b]]) ?_ ?_
 ·refine GJ (fun ha => ?_) (fun ha => ?_)
  ·simp -implicitDefEqProofs only [AU,BH,BQ,BZ,FZ,AL,AO,AJ,BA,AR,AC,AA,AY,AQ,BD,BI,BB,CF,DJ,BL,BN,BG,AB,ED,↓reduceIte,Nat.reduceEqDiff,Nat.zero_add,Option.getD_some,Bool.not_false,enP,KZ,ha,CX ag3,PT]
   refine GJ (fun hb => ?_) (fun hb => ?_)
   ·simp -implicitDefEqProofs only [AU,A9,BH,BQ,BZ,FZ,AL,AO,AJ,BA,AR,AC,AA,AY,AQ,BD,BI,A7,CF,DJ,BL,BN,BG,AB,ED,↓reduceIte,Nat.reduceEqDiff,Nat.zero_add,Option.getD_some,Bool.not_false,enP,KZ,hb,CX ag3,PT]
    exact ⟨rfl,trivial,trivial,trivial⟩
   ·simp -implicitDefEqProofs only [AU,A9,BH,BQ,BZ,IQ,AL,AO,AJ,BA,AR,AC,AA,EM,AY,AQ,BI,A7,CF,DK,↓reduceIte,Nat.reduceEqDiff,Option.getD_some,Bool.not_false,hb]
    exact ⟨rfl,trivial,trivial,trivial⟩
  ·simp -implicitDefEqProofs only [AU,A9,BH,BQ,BZ,IQ,AL,AO,AJ,BA,AR,AC,AA,EM,AY,AQ,BI,BB,A7,CF,DK,↓reduceIte,Nat.reduceEqDiff,Option.getD_some,Bool.not_false,ha]
   exact ⟨rfl,trivial,trivial,trivial⟩
 rintro F H ⟨f7,f1,f3,rfl⟩
 simp -implicitDefEqProofs only [BF,AZ,AY,f7,f1,f3]
 refine CG (fun hk => ?_) (fun hk => ?_)
 ·simp -implicitDefEqProofs only [A8,AX,BJ,AZ,CJ,D6,CK,AU,A9,AL,AO,AJ,BA,AR,AC,AA,AQ,BI,A7,↓reduceIte,Option.getD_some,Bool.not_false]
  exact ⟨by unfold shape; rw [if_pos hk],_,rfl⟩
 have hk' : ¬ (b.kind != 0 && b.kind != 1 && b.kind != 2)=true:=by rw [hk]; simp
 simp -implicitDefEqProofs only [A8,AX,BF,AZ,AU,A9,AL,AO,AJ,BA,AR,AC,AA,AY,AQ,BD,BB,A7,BN,AB,D9,↓reduceIte,Option.getD_some,Bool.not_false,enP,f1,f3]
 refine CG (fun hs => ?_) (fun hs => ?_)
 ·simp -implicitDefEqProofs only [A8,AX,BJ,AZ,CJ,D6,CK,AU,A9,AL,AO,AJ,BA,AR,AC,AA,AY,AQ,BD,A7,BL,BN,BG,C8,AB,EK,↓reduceIte,Nat.reduceEqDiff,Nat.zero_add,Option.getD_some,Bool.not_false,enP,QG,PS,f1,CX PV,VU,List.length_map]
  exact ⟨by unfold shape; rw [if_neg hk',if_pos hs],_,rfl⟩
 have hs' : ¬ ((b.steps.length:Int) == 0)=true:=by rw [hs]; simp
 simp -implicitDefEqProofs only [A8,AX,AU,BH,BQ,BZ,AL,AO,AJ,BA,AR,AC,AA,AY,AQ,BD,BB,BL,BN,BG,C8,AB,EK,↓reduceIte,Nat.reduceEqDiff,Nat.zero_add,Option.getD_some,Bool.not_false,enP,QG,PS,f1,f3,CX PV,VU,List.length_map]
 refine RL (fun F H=>F 28 = .bool (decide ((b.ranges.l.length:Int) > 0) || b.kind != 0 || decide ((b.steps.length:Int) < 2) || decide ((b.steps.length:Int) > 8))∧F 1 = .ptr h.length 0 0∧H=h ++ [.live 4 [JK b]]) ?_ ?_
 ·refine GJ (fun ha => ?_) (fun ha => ?_)
  ·simp -implicitDefEqProofs only [Bool.true_or,AU,A9,BH,BQ,BZ,FN,AL,AO,AJ,BA,AR,AC,AA,EM,AY,AQ,BI,BB,A7,CF,DJ,↓reduceIte,Nat.reduceEqDiff,Option.getD_some,Bool.not_false,ha,f1]
   exact ⟨trivial,trivial,trivial⟩
  simp -implicitDefEqProofs only [Bool.false_or,AU,BH,BQ,BZ,EH,AL,AO,AJ,BA,AR,AC,AA,AY,AQ,BD,BI,BB,CF,DK,BL,BN,BG,AB,ED,↓reduceIte,Nat.reduceEqDiff,Nat.zero_add,Option.getD_some,Bool.not_false,enP,KZ,ha,f1,CX ag3,PT]
  refine GJ (fun hb => ?_) (fun hb => ?_)
  ·simp -implicitDefEqProofs only [Bool.true_or,AU,A9,BH,BQ,BZ,FN,AL,AO,AJ,BA,AR,AC,AA,EM,AY,AQ,BI,BB,A7,CF,DJ,↓reduceIte,Nat.reduceEqDiff,Option.getD_some,Bool.not_false,hb,f1]
   exact ⟨trivial,trivial,trivial⟩
  simp -implicitDefEqProofs only [Bool.false_or,AU,BH,BQ,BZ,EH,AL,AO,AJ,BA,AR,AC,AA,AY,AQ,BD,BI,BB,CF,DK,BN,AB,CO,↓reduceIte,Nat.reduceEqDiff,Option.getD_some,Bool.not_false,enP,hb,f1,f3]
  refine GJ (fun hc => ?_) (fun hc => ?_)
  ·simp -implicitDefEqProofs only [Bool.true_or,AU,A9,BH,BQ,BZ,FN,AL,AO,AJ,BA,AR,AC,AA,EM,AY,AQ,BI,A7,CF,DJ,↓reduceIte,Nat.reduceEqDiff,Option.getD_some,Bool.not_false,hc,f1]
   exact ⟨trivial,trivial,trivial⟩
  ·simp -implicitDefEqProofs only [Bool.false_or,AU,A9,BH,BQ,BZ,EH,AL,AO,AJ,BA,AR,AC,AA,AY,AQ,BD,BI,BB,A7,CF,DK,BN,AB,EK,↓reduceIte,Nat.reduceEqDiff,Option.getD_some,Bool.not_false,enP,hc,f1,f3]
   exact ⟨trivial,trivial,trivial⟩
 rintro F H ⟨f28,f1,rfl⟩
 simp -implicitDefEqProofs only [BF,AZ,AY,f28,f1]
 refine CG (fun ho => ?_) (fun ho => ?_)
 ·simp -implicitDefEqProofs only [A8,AX,BJ,AZ,CJ,D6,CK,AU,A9,AL,AO,AJ,BA,AR,AC,AA,AQ,BI,A7,↓reduceIte,Option.getD_some,Bool.not_false]
  exact ⟨by unfold shape; rw [if_neg hk',if_neg hs',if_pos ho],_,rfl⟩
 have ho' : ¬ (decide ((b.ranges.l.length:Int) > 0) || b.kind != 0 || decide ((b.steps.length:Int) < 2) || decide ((b.steps.length:Int) > 8))=true:=by rw [ho]; simp
 simp -implicitDefEqProofs only [A8,AX,BK,AZ,DU,AU,AL,AO,AJ,BA,AR,AC,AA,AY,BS,BL,BG,BV,BR,AB,List.map_cons,List.map_nil,List.append_nil,↓reduceIte,Nat.zero_add,Option.getD_some,Bool.not_false,enP,LC,f1,CX QS,QN]
 refine (AA3 G b.steps b.sm 235 [] (fun l=>decide (l.l.length=0)) _ hl fun r=>AQK G r _).use ?_
 simp -implicitDefEqProofs only [BJ,AZ,CK,AU,A9,AL,AO,AJ,BA,AR,AC,AA,AY,A7,F9,AB,ER,↓reduceIte,Option.getD_some,Bool.not_false]
 exact ⟨by unfold shape; rw [if_neg hk',if_neg hs',if_neg ho'],_,rfl⟩

theorem XH {b:Bin} (h:GA b.name=false):HY b=7:=by unfold HY; rw [h]; rfl
theorem U8 {b:Bin} (h:GA b.name=true) (hs:JB b=true):HY b=1:=by unfold HY; rw [h,hs]; rfl
theorem U9 {b:Bin} (h:GA b.name=true) (hs:b.steps.any (fun l=>decide (l.l.length=0))=true):HY b=1:=by
 unfold HY; rw [h,hs]; cases JB b <;> rfl
theorem RZ {b:Bin} (h:GA b.name=true) (hs:JB b=false) (he:b.steps.any (fun l=>decide (l.l.length=0))=false) :
  HY b=if (sets b).any (fun l=>decide (l.l.length > 64)) then 2 else if (sets b).any (fun l=>l.l.any bad) then 1 else 0:=by
 unfold HY; rw [h,hs,he]; rfl

/-- a bin that fits -/
structure BinOk (b:Bin):Prop where
 num:(sets b).length≤1099511627776
 name:b.name.size≤1099511627776
 steps:b.steps.length≤1099511627776
 sets : ∀ l∈sets b,l.l.length≤1099511627776

theorem AGC (xs:List Rng):decide (IG xs=2)=decide (xs.length > 64):=by
 unfold IG
 split
 ·simp_all
 ·split <;> simp_all
theorem XN (xs:List Rng):decide (IG xs=1)=(decide (¬ xs.length > 64) && xs.any bad):=by
 unfold IG
 split
 ·rename_i h; simp [h]
 ·rename_i h
  split
  ·rename_i h2; simp only [h2,h]; rfl
  ·rename_i h2; simp only [Bool.not_eq_true] at h2; simp only [h2]; simp
theorem AOP {b:Bin} (h:GA b.name=true) (hs:JB b=false) (he:b.steps.any (fun l=>decide (l.l.length=0))=false) :
  HY b=if (sets b).any (fun l=>decide (IG l.l=2)) then 2 else if (sets b).any (fun l=>decide (IG l.l=1)) then 1 else 0:=by
 rw [RZ h hs he]
 simp only [AGC]
 split
 ·rfl
 ·rename_i hn
  have:(sets b).any (fun l=>decide (IG l.l=1))=(sets b).any (fun l=>l.l.any bad):=by
   rw [Bool.eq_iff_iff,List.any_eq_true,List.any_eq_true]
   constructor
   ·rintro ⟨l,h1,h2⟩
    rw [XN] at h2
    simp only [Bool.and_eq_true] at h2
    exact ⟨l,h1,h2.2⟩
   ·rintro ⟨l,h1,h2⟩
    refine ⟨l,h1,?_⟩
    rw [XN,h2]
    rw [Bool.not_eq_true,List.any_eq_false] at hn
    have:=hn l h1
    simp only [decide_eq_true_eq] at this
    simp only [this,not_false_eq_true,decide_true,Bool.and_self]
  rw [this]

theorem SS {α:Type} (p:α→Bool) (xs:List α) (k:Nat) (h:k < xs.length):(xs.take (k+1)).any p=((xs.take k).any p || p xs[k]):=by
 rw [List.take_succ_eq_append_getElem h,List.any_append,List.any_cons,List.any_nil,Bool.or_false]

theorem AIM (G:Nat→AV) (hG:KwG G) (b:Bin) (hb:BinOk b) (h:Hp):PCall (En G) 152 [.agg (JK b)] h (.int .i64 (HY b)):=by
 refine ACalls.pure0 rfl ?_
 refine BX (H:=Hint.none) (enM G) Tryz.func152 rfl (by kernel_rfl) (by kernel_rfl) (Nat.le_of_ble_eq_true (by kernel_rfl)) ?_
 show awp _ _ _ _ _ (EJ _ [.tmp 2] _)
 simp -implicitDefEqProofs only [A8,AX,AZ,AU,A9,AL,AO,AJ,BA,AR,AC,AA,AY,AQ,BS,BD,A7,EW,BL,BG,BV,BR,BO,AB,BC,List.map_cons,List.map_nil,List.append_nil,↓reduceIte,Nat.reduceEqDiff,Nat.add_zero,Option.getD_some,Bool.not_false,enP,YW,bxB,CX ag9,AL2]
 refine (MH G hG b.name _ hb.name).use ?_
 simp -implicitDefEqProofs only [BF,AZ,AU,A9,AL,AO,AJ,BA,AR,AC,AA,AY,F9,AB,ER,↓reduceIte,Option.getD_some,Bool.not_false]
 refine CG (fun hn => ?_) (fun hn => ?_)
 ·simp -implicitDefEqProofs only [A8,AX,BJ,AZ,CJ,CK,AU,A9,AL,AO,AJ,BA,AR,AC,AA,AQ,BD,A7,↓reduceIte,Option.getD_some,Bool.not_false]
  exact ⟨by rw [XH (by simpa using hn)],_,rfl⟩
 have hn':GA b.name=true:=by simpa using hn
 simp -implicitDefEqProofs only [A8,AX,BK,AZ,AU,AL,AO,AJ,BA,AR,AC,AA,AY,BS,BL,BV,BR,AB,List.map_cons,List.map_nil,List.append_nil,↓reduceIte,Nat.reduceEqDiff,Option.getD_some,Bool.not_false,enP,ldB]
 refine (AIR G b _ hb.steps).use ?_
 simp -implicitDefEqProofs only [BF,AZ,AU,A9,AL,AO,AJ,BA,AR,AC,AA,AY,F9,AB,ER,↓reduceIte,Option.getD_some,Bool.not_false]
 refine CG (fun hs => ?_) (fun hs => ?_)
 ·simp -implicitDefEqProofs only [A8,AX,BJ,AZ,CJ,CK,AU,A9,AL,AO,AJ,BA,AR,AC,AA,AQ,BD,A7,↓reduceIte,Option.getD_some,Bool.not_false]
  refine ⟨?_,_,rfl⟩
  have h1:shape b=false:=by simpa using hs
  rw [AFZ] at h1
  cases hr:JB b with
  | true=>rw [U8 hn' hr]
  | false =>
    rw [hr] at h1
    rw [U9 hn' (by simpa using h1)]
 have h1:shape b=true:=by simpa using hs
 rw [AFZ] at h1
 simp only [Bool.and_eq_true,Bool.not_eq_true'] at h1
 have hv:=RZ hn' h1.1 h1.2
 simp -implicitDefEqProofs only [A8,AX,BK,AZ,AU,A9,AL,AO,AJ,BA,AR,AC,AA,AY,AQ,BS,BI,A7,BL,BV,BR,AB,List.map_cons,List.map_nil,List.append_nil,↓reduceIte,Nat.reduceEqDiff,Option.getD_some,Bool.not_false,enP,ldB]
 refine (AMP G b _).use ?_
 simp -implicitDefEqProofs only [BM,AZ,AU,A9,AL,AO,AJ,BA,AR,AC,AA,AY,AQ,BD,BB,C8,AB,↓reduceIte,Option.getD_some,Bool.not_false,enP,QF,List.length_map]
 refine CS (fun n F H => ∃ k,n+k=(sets b).length∧F 3 = .bool (((sets b).take k).any fun l=>decide (IG l.l=2))∧F 4 = .bool (((sets b).take k).any fun l=>decide (IG l.l=1))∧F 15 = .sl (T9 b) 1 ((sets b).map encS)∧F 16 = .int .i64 (sets b).length∧F 17 = .int .i64 (k:Nat)∧H=h ++ [.live 4 [JK b]]) (sets b).length ⟨0,by simp,rfl,rfl,rfl,rfl,rfl,rfl⟩ ?_
 rintro n F H ⟨k,hk,f3,f4,f15,f16,f17,rfl⟩
 simp -implicitDefEqProofs only [A8,AX,BF,AZ,AU,A9,AL,AO,AJ,BA,AR,AC,AA,AY,BN,AB,CO,↓reduceIte,Option.getD_some,Bool.not_false,enP,f15,f16,f17]
 refine CG (fun hc => ?_) (fun hc => ?_)
 ·have hc':k < (sets b).length:=by simpa using hc
  simp -implicitDefEqProofs only [A8,BM,AX,BK,AZ,AU,A9,AL,AO,AJ,BA,AR,AC,AA,AY,BS,BB,A7,BL,BU,BV,BR,AB,List.map_cons,List.map_nil,List.append_nil,↓reduceIte,Nat.reduceEqDiff,Option.getD_some,Bool.not_false,enP,AGQ,f15,f17,CW hc',CP PV hc',AHI]
  refine (AGB G _ _ _ (hb.sets _ (List.getElem_mem hc'))).use ?_
  have t2:=SS (fun l:Rs=>decide (IG l.l=2)) (sets b) k hc'
  have t1:=SS (fun l:Rs=>decide (IG l.l=1)) (sets b) k hc'
  simp -implicitDefEqProofs only [A8,BM,AX,BF,AZ,AU,A9,AL,AO,AJ,BA,AR,AC,AA,AY,AQ,BD,A7,BN,AB,D9,↓reduceIte,Option.getD_some,Bool.not_false,enP]
  refine CG (fun hd => ?_) (fun hd => ?_)
  ·have hd':IG (sets b)[k].l=2:=by simpa using hd
   simp -implicitDefEqProofs only [AX,AZ,DU,DZ,AU,A9,AL,AO,AJ,BA,AR,AC,AA,AY,AQ,BD,BI,BB,A7,BN,AB,CR,↓reduceIte,Nat.reduceEqDiff,Option.getD_some,Bool.not_false,enP,f17,CB (show k < 9223372036854775807 by have:=hb.num; omega)]
   refine ⟨n - 1,by omega,k+1,by omega,?_,?_,f15,f16,rfl,trivial⟩
   ·rw [t2,hd']; simp
   ·rw [f4,t1,hd']; simp
  simp -implicitDefEqProofs only [A8,AX,BF,AZ,AU,A9,AL,AO,AJ,BA,AR,AC,AA,AY,AQ,BD,A7,BN,AB,D9,↓reduceIte,Nat.reduceEqDiff,Option.getD_some,Bool.not_false,enP]
  refine CG (fun he => ?_) (fun he => ?_)
  ·have he':IG (sets b)[k].l=1:=by simpa using he
   simp -implicitDefEqProofs only [AX,AZ,DU,DZ,AU,A9,AL,AO,AJ,BA,AR,AC,AA,AY,AQ,BD,BI,BB,A7,BN,AB,CR,↓reduceIte,Nat.reduceEqDiff,Option.getD_some,Bool.not_false,enP,f17,CB (show k < 9223372036854775807 by have:=hb.num; omega)]
   refine ⟨n - 1,by omega,k+1,by omega,?_,?_,f15,f16,rfl,trivial⟩
   ·rw [f3,t2,he']; simp
   ·rw [t1,he']; simp
  ·have hd':IG (sets b)[k].l≠2:=by simpa using hd
   have he':IG (sets b)[k].l≠1:=by simpa using he
   simp -implicitDefEqProofs only [AX,BK,AZ,DU,DZ,AU,A9,AL,AO,AJ,BA,AR,AC,AA,AY,AQ,BD,BB,BN,AB,CR,↓reduceIte,Nat.reduceEqDiff,Option.getD_some,Bool.not_false,enP,f17,CB (show k < 9223372036854775807 by have:=hb.num; omega)]
   refine ⟨n - 1,by omega,k+1,by omega,?_,?_,f15,f16,rfl,trivial⟩
   ·rw [f3,t2]; simp [hd']
   ·rw [f4,t1]; simp [he']
 ·have hc' : ¬ k < (sets b).length:=by simpa using hc
  rw [List.take_of_length_le (by omega)] at f3 f4
  have hE:=AOP hn' h1.1 h1.2
  simp -implicitDefEqProofs only [A8,BM,AX,CU,BF,AZ,DR,EB,EF,AU,A9,AL,AO,AJ,BA,AR,AC,AA,AY,BB,A7,↓reduceIte,Nat.reduceEqDiff,Option.getD_some,Bool.not_false,f3,f4]
  refine CG (fun hd => ?_) (fun hd => ?_)
  ·simp -implicitDefEqProofs only [A8,AX,BJ,AZ,CJ,D6,CK,AU,A9,AL,AO,AJ,BA,AR,AC,AA,AQ,BD,A7,↓reduceIte,Option.getD_some,Bool.not_false]
   exact ⟨by rw [hE,if_pos hd],_,rfl⟩
  simp -implicitDefEqProofs only [A8,AX,BF,AZ,AU,A9,AL,AO,AJ,BA,AR,AC,AA,AY,BB,A7,↓reduceIte,Nat.reduceEqDiff,Option.getD_some,Bool.not_false,f4]
  refine CG (fun he => ?_) (fun he => ?_)
  ·simp -implicitDefEqProofs only [A8,AX,BJ,AZ,CJ,D6,CK,AU,A9,AL,AO,AJ,BA,AR,AC,AA,AQ,BD,A7,↓reduceIte,Option.getD_some,Bool.not_false]
   exact ⟨by rw [hE,if_neg (by rw [hd]; simp),if_pos he],_,rfl⟩
  ·simp -implicitDefEqProofs only [A8,AX,BK,BJ,AZ,DU,CK,AU,A9,AL,AO,AJ,BA,AR,AC,AA,AQ,BD,A7,↓reduceIte,Option.getD_some,Bool.not_false]
   exact ⟨by rw [hE,if_neg (by rw [hd]; simp),if_neg (by rw [he]; simp)],_,rfl⟩
end Go.Proofs.YtocilianjfhifaaGreatDoor.Bins
/- The contract of the reference's Valid; no condition. -/
set_option linter.unusedSimpArgs false
set_option maxRecDepth 8000
namespace Go.Proofs.YtocilianjfhifaaGreatDoor.Bins
open Go Go.Proofs.YtocilianjfhifaaGreatDoor.Sm

theorem AMJ (G:Nat→AV) (b:Bin) (hb:BinOk b) (h:Hp):PCall (En G) 162 [.agg (JK b)] h (.int .i64 (HY b)):=by
 refine ACalls.pure0 rfl ?_
 refine BX (H:=Hint.none) (enM G) Tryz.func162 rfl (by kernel_rfl) (by kernel_rfl) (Nat.le_of_ble_eq_true (by kernel_rfl)) ?_
 show awp _ _ _ _ _ (EJ _ [.tmp 2] _)
 simp -implicitDefEqProofs only [A8,AX,AZ,AU,A9,AL,AO,AJ,BA,AR,AC,AA,AY,AQ,BS,BD,A7,EW,BL,BG,BV,BR,BO,AB,BC,List.map_cons,List.map_nil,List.append_nil,↓reduceIte,Nat.reduceEqDiff,Nat.add_zero,Option.getD_some,Bool.not_false,enP,YW,bxB,CX ag9,AL2]
 refine (M8 G b.name _).use ?_
 simp -implicitDefEqProofs only [BF,AZ,AU,A9,AL,AO,AJ,BA,AR,AC,AA,AY,F9,AB,ER,↓reduceIte,Option.getD_some,Bool.not_false]
 refine CG (fun hn => ?_) (fun hn => ?_)
 ·simp -implicitDefEqProofs only [A8,AX,BJ,AZ,CJ,CK,AU,A9,AL,AO,AJ,BA,AR,AC,AA,AQ,BD,A7,↓reduceIte,Option.getD_some,Bool.not_false]
  exact ⟨by rw [XH (by simpa using hn)],_,rfl⟩
 have hn':GA b.name=true:=by simpa using hn
 simp -implicitDefEqProofs only [A8,AX,BK,AZ,AU,BH,BQ,BZ,AL,AO,AJ,BA,AR,AC,AA,AY,AQ,BD,BB,BL,BN,BG,AB,CO,↓reduceIte,Nat.reduceEqDiff,Nat.zero_add,Option.getD_some,Bool.not_false,enP,KZ,CX ag3,PT]
 refine RL (fun F H=>F 53 = .bool (JB b)∧F 1 = .ptr h.length 0 0∧H=h ++ [.live 4 [JK b]]) ?_ ?_
 ·refine GJ (fun ha => ?_) (fun ha => ?_)
  ·simp -implicitDefEqProofs only [AU,A9,BH,BQ,BZ,FN,PE,AL,AO,AJ,BA,AR,AC,AA,EM,AY,AQ,BI,BB,CF,DJ,↓reduceIte,Nat.reduceEqDiff,Option.getD_some,Bool.not_false,ha]
   exact ⟨by unfold JB; rw [ha]; rfl,trivial,trivial⟩
  simp -implicitDefEqProofs only [AU,BH,BQ,BZ,EH,AL,AO,AJ,BA,AR,AC,AA,AY,AQ,BD,BI,BB,CF,DK,BL,BN,BG,AB,EK,↓reduceIte,Nat.reduceEqDiff,Nat.zero_add,Option.getD_some,Bool.not_false,enP,KZ,ha,CX ag3,PT]
  refine GJ (fun hb => ?_) (fun hb => ?_)
  ·simp -implicitDefEqProofs only [AU,A9,BH,BQ,BZ,FN,PE,AL,AO,AJ,BA,AR,AC,AA,EM,AY,AQ,BI,BB,CF,DJ,↓reduceIte,Nat.reduceEqDiff,Option.getD_some,Bool.not_false,hb]
   exact ⟨by unfold JB; rw [ha,hb]; rfl,trivial,trivial⟩
  simp -implicitDefEqProofs only [AU,BH,BQ,BZ,EH,AL,AO,AJ,BA,AR,AC,AA,AY,AQ,BD,BI,BB,CF,DK,BL,BN,BG,C8,AB,EK,↓reduceIte,Nat.reduceEqDiff,Nat.zero_add,Option.getD_some,Bool.not_false,enP,be4,QG,QF,PS,LC,hb,CX PV,CX QS,VU,QN,List.length_map]
  refine GJ (fun hc => ?_) (fun hc => ?_)
  ·simp -implicitDefEqProofs only [AU,A9,BH,BQ,BZ,FN,PE,AL,AO,AJ,BA,AR,AC,AA,EM,AY,AQ,BI,BB,CF,DJ,↓reduceIte,Nat.reduceEqDiff,Option.getD_some,Bool.not_false,hc]
   exact ⟨by unfold JB; rw [ha,hb,hc]; rfl,trivial,trivial⟩
  simp -implicitDefEqProofs only [BH,BQ,BZ,EH,AL,AO,AJ,BA,AR,AC,AA,AY,AQ,BD,BB,BL,BN,BG,AB,ED,↓reduceIte,Nat.reduceEqDiff,Nat.zero_add,Option.getD_some,Bool.not_false,enP,KZ,hc,CX ag3,PT]
  refine GJ (fun hd => ?_) (fun hd => ?_)
  ·simp -implicitDefEqProofs only [AU,BH,BQ,BZ,FZ,EH,AL,AO,AJ,BA,AR,AC,AA,AY,AQ,BD,BI,BB,CF,DJ,DK,BL,BN,BG,C8,AB,EK,↓reduceIte,Nat.reduceEqDiff,Nat.zero_add,Option.getD_some,Bool.not_false,enP,QF,LC,hd,CX QS,QN,List.length_map]
   refine GJ (fun he => ?_) (fun he => ?_)
   ·simp -implicitDefEqProofs only [AU,A9,BH,BQ,BZ,FN,AL,AO,AJ,BA,AR,AC,AA,EM,AY,AQ,BI,BB,CF,DJ,↓reduceIte,Nat.reduceEqDiff,Option.getD_some,Bool.not_false,he]
    exact ⟨by unfold JB; rw [ha,hb,hc,hd,he]; rfl,trivial,trivial⟩
   simp -implicitDefEqProofs only [AU,BH,BQ,BZ,EH,AL,AO,AJ,BA,AR,AC,AA,AY,AQ,BD,BI,BB,CF,DK,BL,BN,BG,C8,AB,D9,↓reduceIte,Nat.reduceEqDiff,Nat.zero_add,Option.getD_some,Bool.not_false,enP,QF,LC,he,CX QS,QN,List.length_map]
   refine GJ (fun hf => ?_) (fun hf => ?_)
   ·simp -implicitDefEqProofs only [AU,A9,BH,BQ,BZ,FN,AL,AO,AJ,BA,AR,AC,AA,EM,AY,AQ,BI,CF,DJ,↓reduceIte,Nat.reduceEqDiff,Option.getD_some,Bool.not_false,hf]
    exact ⟨by unfold JB; rw [ha,hb,hc,hd,he,hf]; rfl,trivial,trivial⟩
   ·simp -implicitDefEqProofs only [AU,A9,BH,BQ,BZ,EH,AL,AO,AJ,BA,AR,AC,AA,AY,AQ,BD,BI,CF,DK,BL,BN,BG,C8,AB,EK,↓reduceIte,Nat.reduceEqDiff,Nat.zero_add,Option.getD_some,Bool.not_false,enP,QF,LC,hf,CX QS,QN,List.length_map]
    exact ⟨by unfold JB; rw [ha,hb,hc,hd,he,hf]; rfl,trivial,trivial⟩
  ·simp -implicitDefEqProofs only [AU,BH,BQ,BZ,EH,IQ,AL,AO,AJ,BA,AR,AC,AA,EM,AY,AQ,BD,BI,BB,CF,DK,BL,BN,BG,C8,AB,D9,↓reduceIte,Nat.reduceEqDiff,Nat.zero_add,Option.getD_some,Bool.not_false,enP,QF,LC,hd,CX QS,QN,List.length_map]
   refine GJ (fun hf => ?_) (fun hf => ?_)
   ·simp -implicitDefEqProofs only [AU,A9,BH,BQ,BZ,FN,AL,AO,AJ,BA,AR,AC,AA,EM,AY,AQ,BI,CF,DJ,↓reduceIte,Nat.reduceEqDiff,Option.getD_some,Bool.not_false,hf]
    exact ⟨by unfold JB; rw [ha,hb,hc,hd,hf]; rfl,trivial,trivial⟩
   ·simp -implicitDefEqProofs only [AU,A9,BH,BQ,BZ,EH,AL,AO,AJ,BA,AR,AC,AA,AY,AQ,BD,BI,CF,DK,BL,BN,BG,C8,AB,EK,↓reduceIte,Nat.reduceEqDiff,Nat.zero_add,Option.getD_some,Bool.not_false,enP,QF,LC,hf,CX QS,QN,List.length_map]
    exact ⟨by unfold JB; rw [ha,hb,hc,hd,hf]; rfl,trivial,trivial⟩
 rintro F H ⟨f53,f1,rfl⟩
 simp -implicitDefEqProofs only [BF,AZ,AY,f53,f1]
 refine CG (fun hs => ?_) (fun hs => ?_)
 ·simp -implicitDefEqProofs only [A8,AX,BJ,AZ,CJ,CK,AU,A9,AL,AO,AJ,BA,AR,AC,AA,AQ,BD,A7,↓reduceIte,Option.getD_some,Bool.not_false]
  exact ⟨by rw [U8 hn' hs],_,rfl⟩
 simp -implicitDefEqProofs only [A8,BM,AX,BK,AZ,AU,A9,AL,AO,AJ,BA,AR,AC,AQ,BD,A7,Option.getD_some,Bool.not_false]
 refine FO 0 (fun F H=>F 1 = .ptr h.length 0 0∧H=h ++ [.live 4 [JK b]]∧b.steps.any (fun l=>decide (l.l.length=0))=false) (fun F H=>F 2 = .int .i64 (HY b)∧H=h ++ [.live 4 [JK b]]) ?_ ?_ ?_
 ·refine CS (fun n F H => ∃ k,n+k=b.steps.length∧F 1 = .ptr h.length 0 0∧F 3 = .int .i64 (k:Nat)∧H=h ++ [.live 4 [JK b]]∧(b.steps.take k).any (fun l=>decide (l.l.length=0))=false) b.steps.length ⟨0,by simp,by simp -implicitDefEqProofs only [AA,↓reduceIte,Nat.reduceEqDiff,f1],by simp -implicitDefEqProofs only [AA,↓reduceIte]; rfl,rfl,rfl⟩ ?_
  rintro n F H ⟨k,hk,f1,f3,rfl,hin⟩
  simp -implicitDefEqProofs only [A8,AX,BF,AZ,AU,A9,AL,AO,AJ,BA,AR,AC,AA,AY,BB,BL,BN,BG,C8,AB,CO,↓reduceIte,Nat.reduceEqDiff,Nat.zero_add,Option.getD_some,Bool.not_false,enP,QF,LC,f1,f3,CX QS,QN,List.length_map]
  refine CG (fun hc => ?_) (fun hc => ?_)
  ·have hc':k < b.steps.length:=by simpa using hc
   have t0:=SS (fun l:Rs=>decide (l.l.length=0)) b.steps k hc'
   simp -implicitDefEqProofs only [A8,BM,AX,BK,BF,AZ,AU,A9,AL,AO,AJ,BA,AR,AC,AA,AY,AQ,BD,BB,BL,BN,BG,BU,C8,AB,D9,↓reduceIte,Nat.reduceEqDiff,Nat.zero_add,Option.getD_some,Bool.not_false,enP,QG,AGQ,LC,f1,f3,CX QS,QN,CW hc',CP PV hc',AHI,List.length_map]
   refine CG (fun hd => ?_) (fun hd => ?_)
   ·simp -implicitDefEqProofs only [A8,AX,BJ,AZ,CJ,D6,KC,EZ,AU,A9,AL,AO,AJ,BA,AR,AC,AA,AQ,BD,A7,↓reduceIte,Option.getD_some,Bool.not_false]
    refine ⟨?_,trivial⟩
    have:b.steps.any (fun l=>decide (l.l.length=0))=true:=by
     rw [List.any_eq_true]
     exact ⟨b.steps[k],by simp,by simp at hd; simp [hd]⟩
    rw [U9 hn' this]
   ·simp -implicitDefEqProofs only [AX,BK,AZ,DU,DZ,AU,A9,AL,AO,AJ,BA,AR,AC,AA,AY,AQ,BD,BB,A7,BN,AB,CR,↓reduceIte,Nat.reduceEqDiff,Option.getD_some,Bool.not_false,enP,f3,CB (show k < 9223372036854775807 by have:=hb.steps; omega)]
    refine ⟨n - 1,by omega,k+1,by omega,f1,rfl,trivial,?_⟩
    rw [t0,hin]
    simp at hd
    simp [hd]
  ·have hc' : ¬ k < b.steps.length:=by simpa using hc
   simp -implicitDefEqProofs only [CU,DR,II,EF,AA,↓reduceIte,Nat.reduceEqDiff]
   rw [List.take_of_length_le (by omega)] at hin
   exact ⟨f1,trivial,hin⟩
 ·rintro F H ⟨f1,rfl,he⟩
  have hs':JB b=false:=by simpa using hs
  have hv:=RZ hn' hs' he
  simp -implicitDefEqProofs only [A8,AX,AZ,EB,AU,AL,AO,AJ,BA,AR,AC,AA,AY,BS,BL,BV,BR,AB,List.map_cons,List.map_nil,List.append_nil,↓reduceIte,Option.getD_some,Bool.not_false,enP,f1,ldB]
  refine (AO2 G b _).use ?_
  simp -implicitDefEqProofs only [A8,BM,AX,AZ,AU,A9,AL,AO,AJ,BA,AR,AC,AA,AY,AQ,BD,A7,↓reduceIte,Option.getD_some,Bool.not_false]
  refine FO 2 (fun F H=>F 4 = .sl (T9 b) 1 ((sets b).map encS)∧H=h ++ [.live 4 [JK b]]∧(sets b).any (fun l=>decide (l.l.length > 64))=false) (fun F H=>F 2 = .int .i64 (HY b)∧H=h ++ [.live 4 [JK b]]) ?_ ?_ ?_
  ·refine CS (fun n F H => ∃ k,n+k=(sets b).length∧F 4 = .sl (T9 b) 1 ((sets b).map encS)∧F 5 = .int .i64 (k:Nat)∧H=h ++ [.live 4 [JK b]]∧((sets b).take k).any (fun l=>decide (l.l.length > 64))=false) (sets b).length ⟨0,by simp,by simp -implicitDefEqProofs only [AA,↓reduceIte,Nat.reduceEqDiff],by simp -implicitDefEqProofs only [AA,↓reduceIte]; rfl,rfl,rfl⟩ ?_
   rintro n F H ⟨k,hk,f4,f5,rfl,hin⟩
   simp -implicitDefEqProofs only [A8,AX,BF,AZ,AU,A9,AL,AO,AJ,BA,AR,AC,AA,AY,BB,BN,C8,AB,CO,↓reduceIte,Nat.reduceEqDiff,Option.getD_some,Bool.not_false,enP,QF,f4,f5,List.length_map]
   refine CG (fun hc => ?_) (fun hc => ?_)
   ·have hc':k < (sets b).length:=by simpa using hc
    have t0:=SS (fun l:Rs=>decide (l.l.length > 64)) (sets b) k hc'
    simp -implicitDefEqProofs only [A8,BM,AX,BK,BF,AZ,AU,A9,AL,AO,AJ,BA,AR,AC,AA,AY,AQ,BD,BB,BL,BN,BU,C8,AB,EK,↓reduceIte,Nat.reduceEqDiff,Option.getD_some,Bool.not_false,enP,QG,AGQ,f4,f5,CW hc',CP PV hc',AHI,List.length_map]
    refine CG (fun hd => ?_) (fun hd => ?_)
    ·simp -implicitDefEqProofs only [A8,AX,BJ,AZ,CJ,D6,KC,EZ,AU,A9,AL,AO,AJ,BA,AR,AC,AA,AQ,BD,A7,↓reduceIte,Option.getD_some,Bool.not_false]
     refine ⟨?_,trivial⟩
     have:(sets b).any (fun l=>decide (l.l.length > 64))=true:=by
      rw [List.any_eq_true]
      exact ⟨(sets b)[k],by simp,by simp at hd ⊢; omega⟩
     rw [hv,if_pos this]
    ·simp -implicitDefEqProofs only [AX,BK,AZ,DU,DZ,AU,A9,AL,AO,AJ,BA,AR,AC,AA,AY,AQ,BD,BB,A7,BN,AB,CR,↓reduceIte,Nat.reduceEqDiff,Option.getD_some,Bool.not_false,enP,f5,CB (show k < 9223372036854775807 by have:=hb.num; omega)]
     refine ⟨n - 1,by omega,k+1,by omega,f4,rfl,trivial,?_⟩
     rw [t0,hin]
     simp at hd ⊢
     omega
   ·have hc' : ¬ k < (sets b).length:=by simpa using hc
    simp -implicitDefEqProofs only [CU,DR,II,EF,AA,↓reduceIte,Nat.reduceEqDiff]
    rw [List.take_of_length_le (by omega)] at hin
    exact ⟨f4,trivial,hin⟩
  ·rintro F H ⟨f4,rfl,h64⟩
   rw [h64] at hv
   simp only [Bool.false_eq_true,if_false] at hv
   simp -implicitDefEqProofs only [A8,BM,AX,AZ,EB,AU,A9,AL,AO,AJ,BA,AR,AC,AQ,BD,A7,↓reduceIte,Option.getD_some,Bool.not_false,f4]
   refine CS (fun n F H => ∃ k,n+k=(sets b).length∧F 4 = .sl (T9 b) 1 ((sets b).map encS)∧F 6 = .int .i64 (k:Nat)∧H=h ++ [.live 4 [JK b]]∧((sets b).take k).any (fun l=>l.l.any bad)=false) (sets b).length ⟨0,by simp,by simp -implicitDefEqProofs only [AA,↓reduceIte,Nat.reduceEqDiff,f4],by simp -implicitDefEqProofs only [AA,↓reduceIte]; rfl,rfl,rfl⟩ ?_
   rintro n F H ⟨k,hk,f4,f6,rfl,hin⟩
   simp -implicitDefEqProofs only [A8,AX,BF,AZ,AU,A9,AL,AO,AJ,BA,AR,AC,AA,AY,BB,BN,C8,AB,CO,↓reduceIte,Nat.reduceEqDiff,Option.getD_some,Bool.not_false,enP,QF,f4,f6,List.length_map]
   refine CG (fun hc => ?_) (fun hc => ?_)
   ·have hc':k < (sets b).length:=by simpa using hc
    have t0:=SS (fun l:Rs=>l.l.any bad) (sets b) k hc'
    simp -implicitDefEqProofs only [A8,BM,AX,BK,AZ,AU,AL,AO,AJ,BA,AR,AC,AA,AY,BS,BB,BL,BU,BV,BR,AB,List.map_cons,List.map_nil,List.append_nil,↓reduceIte,Nat.reduceEqDiff,Option.getD_some,Bool.not_false,enP,AGQ,f4,f6,CW hc',CP PV hc',AHI,List.length_map]
    refine (AIY G _ _ _).use ?_
    have hk64 : ¬ (sets b)[k].l.length > 64:=by
     rw [List.any_eq_false] at h64
     have:=h64 (sets b)[k] (by simp)
     simpa using this
    simp -implicitDefEqProofs only [A8,AX,BF,AZ,AU,A9,AL,AO,AJ,BA,AR,AC,AA,AY,AQ,BD,BB,A7,BN,AB,ED,↓reduceIte,Option.getD_some,Bool.not_false,enP]
    cases hbad:(sets b)[k].l.any bad with
    | true =>
      have hr:=R9 hk64 hbad
      refine CG (fun hd => ?_) (fun hd => ?_)
      ·simp -implicitDefEqProofs only [A8,AX,BJ,AZ,CJ,D6,EZ,CK,AU,A9,AL,AO,AJ,BA,AR,AC,AA,AY,BB,A7,↓reduceIte,Nat.reduceEqDiff,Option.getD_some,Bool.not_false]
       refine ⟨?_,_,rfl⟩
       have:(sets b).any (fun l=>l.l.any bad)=true:=by
        rw [List.any_eq_true]
        exact ⟨(sets b)[k],by simp,hbad⟩
       rw [hr,hv,if_pos this]
      ·rw [hr] at hd; simp at hd
    | false =>
      have hr:=UO hk64 hbad
      refine CG (fun hd => ?_) (fun hd => ?_)
      ·rw [hr] at hd; simp at hd
      ·simp -implicitDefEqProofs only [AX,BK,AZ,DU,DZ,AU,A9,AL,AO,AJ,BA,AR,AC,AA,AY,AQ,BD,BB,A7,BN,AB,CR,↓reduceIte,Nat.reduceEqDiff,Option.getD_some,Bool.not_false,enP,f6,CB (show k < 9223372036854775807 by have:=hb.num; omega)]
       refine ⟨n - 1,by omega,k+1,by omega,f4,rfl,trivial,?_⟩
       rw [t0,hin,hbad]; rfl
   ·have hc' : ¬ k < (sets b).length:=by simpa using hc
    simp -implicitDefEqProofs only [A8,AX,BJ,CU,AZ,DR,EB,EF,CK,AU,A9,AL,AO,AJ,BA,AR,AC,AA,AQ,BD,A7,↓reduceIte,Option.getD_some,Bool.not_false]
    rw [List.take_of_length_le (by omega)] at hin
    exact ⟨by rw [hv,if_neg (by rw [hin]; simp)],_,rfl⟩
  ·rintro F H ⟨f2,rfl⟩
   simp -implicitDefEqProofs only [CJ,D6,CK]
   exact ⟨f2,_,rfl⟩
 ·rintro F H ⟨f2,rfl⟩
  simp -implicitDefEqProofs only [CJ,D6,CK]
  exact ⟨by rw [f2],_,rfl⟩
end Go.Proofs.YtocilianjfhifaaGreatDoor.Bins
/- Expressions: their encoding, their nodes, their readers; no condition. -/
namespace Go.Proofs.YtocilianjfhifaaGreatDoor.Cov
open Go Go.Proofs.YtocilianjfhifaaGreatDoor.Sm Go.Proofs.YtocilianjfhifaaGreatDoor.Bins

inductive Ex where
 | mk (op n:Int) (name:ByteArray) (m:SM) (args:List Ex)
def Ex.op:Ex→Int | .mk op _ _ _ _=>op
def Ex.n:Ex→Int | .mk _ n _ _ _=>n
def Ex.name:Ex→ByteArray | .mk _ _ name _ _=>name
def Ex.m:Ex→SM | .mk _ _ _ m _=>m
def Ex.args:Ex→List Ex | .mk _ _ _ _ args=>args
mutual
def F7:Ex→List AV
 | .mk op n name m args => [.int .i64 op,.int .i64 n,.str name,.sl m 4 (AHM args)]
def AHM:List Ex→List (List AV)
 | [] => []
 | e :: es=>F7 e :: AHM es
end
theorem ADB : ∀ l:List Ex,AHM l=l.map F7
 | []=>by simp [AHM]
 | e :: es=>by simp [AHM,ADB es]
theorem MR (e:Ex):F7 e = [.int .i64 e.op,.int .i64 e.n,.str e.name,.sl e.m 4 (e.args.map F7)]:=by
 cases e; simp [F7,ADB,Ex.op,Ex.n,Ex.name,Ex.m,Ex.args]
theorem J5 (e:Ex):(F7 e).length=4:=by rw [MR]; rfl
theorem J6 (e:Ex):(F7 e)[0]? = some (.int .i64 e.op):=by rw [MR]; rfl
theorem AAX (e:Ex):(F7 e)[1]? = some (.int .i64 e.n):=by rw [MR]; rfl
theorem QM (e:Ex):(F7 e)[2]? = some (.str e.name):=by rw [MR]; rfl
theorem ADE (e:Ex):(F7 e)[3]? = some (.sl e.m 4 (e.args.map F7)):=by rw [MR]; rfl
theorem ADC (e:Ex):(F7 e).all AV.leaf=true:=by rw [MR]; rfl
theorem bxE (h:Hp) (e:Ex):OH h (.agg (F7 e))=some (.ptr h.length 0 0,h ++ [.live 4 [F7 e]]):=by
 have:=TR (h:=h) (ADC e)
 rw [J5] at this; exact this
theorem ldE (h:Hp) (e:Ex):D7 Tryz.prog (h ++ [.live 4 [F7 e]]) 53 (.ptr h.length 0 0)=some (.agg (F7 e)):=by
 rw [ACV AIB ABP (by rw [J5]; exact Nat.le_refl 4)]
 rw [List.drop_zero,List.take_of_length_le (by rw [J5]; exact Nat.le_refl 4)]
theorem UT {h:Hp} {b:Nat} {e:Ex} (hb:h[b]? = some (.live 4 [F7 e])):D7 Tryz.prog h 53 (.ptr b 0 0)=some (.agg (F7 e)):=by
 rw [IK AIB ABP hb rfl (by rw [J5]; exact Nat.le_refl 4)]
 rw [List.drop_zero,List.take_of_length_le (by rw [J5]; exact Nat.le_refl 4)]

mutual
/-- the nodes, each ahead of its operands -/
def pre:Ex→List Ex
 | .mk op n name m args => .mk op n name m args :: KT args
def KT:List Ex→List Ex
 | [] => []
 | e :: es=>pre e ++ KT es
end
mutual
def dep:Ex→Nat
 | .mk _ _ _ _ args=>deps args+1
def deps:List Ex→Nat
 | []=>0
 | e :: es=>max (dep e) (deps es)
end
mutual
/-- how much an expression weighs -/
def wt:Ex→Nat
 | .mk _ _ name _ args=>name.size+1+wts args
def wts:List Ex→Nat
 | []=>0
 | e :: es=>wt e+wts es
end
theorem pre_eq (e:Ex):pre e=e :: KT e.args:=by cases e; simp [pre,Ex.args]
theorem AE2 (e:Ex):dep e=deps e.args+1:=by cases e; simp [dep,Ex.args]
theorem OU (e:Ex):wt e=e.name.size+1+wts e.args:=by cases e; simp [wt,Ex.args,Ex.name]
theorem SA (xs ys:List Ex):KT (xs ++ ys)=KT xs ++ KT ys:=by
 induction xs with
 | nil=>simp [KT]
 | cons x xs ih=>simp [KT,ih]
theorem YF (xs:List Ex):xs.length≤wts xs:=by
 induction xs with
 | nil=>simp [wts]
 | cons x xs ih=>have:=OU x; simp [wts]; omega
theorem U6 {xs:List Ex} {x:Ex} (h:x∈xs):wt x≤wts xs:=by
 induction xs with
 | nil=>cases h
 | cons y ys ih =>
   simp only [wts]
   cases List.mem_cons.1 h with
   | inl e=>subst e; omega
   | inr e=>have:=ih e; omega
theorem ADF (xs:List Ex) (k:Nat) (h:k < xs.length):deps (xs.take (k+1))=max (deps (xs.take k)) (dep xs[k]):=by
 induction xs generalizing k with
 | nil=>simp at h
 | cons x xs ih =>
   cases k with
   | zero=>simp [deps]
   | succ k =>
     simp only [List.take_succ_cons,deps,List.getElem_cons_succ]
     rw [ih k (by simpa using h),Nat.max_assoc]
theorem Ex.induct {P:Ex→Prop} (h : ∀ e:Ex,(∀ a∈e.args,P a)→P e) (e:Ex):P e:=by
 have : ∀ n (e:Ex),wt e≤n→P e:=by
  intro n
  induction n with
  | zero=>intro e he; have:=OU e; omega
  | succ n ih =>
    intro e he
    refine h e fun a ha=>ih a ?_
    have h1:=U6 ha
    have h2:=OU e
    omega
 exact this _ e (Nat.le_refl _)
theorem AQN (e:Ex):dep e≤wt e:=by
 refine Ex.induct (P:=fun e=>dep e≤wt e) (fun e ih => ?_) e
 rw [AE2,OU]
 have:deps e.args≤wts e.args:=by
  generalize e.args=l at ih
  induction l with
  | nil=>simp [deps,wts]
  | cons x l ih2 =>
    have h1:=ih x (by simp)
    have h2:=ih2 (fun a ha=>ih a (by simp [ha]))
    simp only [deps,wts]; omega
 omega
theorem AO9 (e:Ex):(pre e).length≤wt e:=by
 refine Ex.induct (P:=fun e=>(pre e).length≤wt e) (fun e ih => ?_) e
 rw [pre_eq,OU]
 have:(KT e.args).length≤wts e.args:=by
  generalize e.args=l at ih
  induction l with
  | nil=>simp [KT,wts]
  | cons x l ih2 =>
    have h1:=ih x (by simp)
    have h2:=ih2 (fun a ha=>ih a (by simp [ha]))
    simp only [KT,wts,List.length_append]; omega
 simp; omega
end Go.Proofs.YtocilianjfhifaaGreatDoor.Cov
/- Operators: how many operands; whether a node is well formed; no condition. -/
set_option linter.unusedSimpArgs false
set_option maxRecDepth 8000
namespace Go.Proofs.YtocilianjfhifaaGreatDoor.Cov
open Go Go.Proofs.YtocilianjfhifaaGreatDoor.Sm Go.Proofs.YtocilianjfhifaaGreatDoor.Bins

def arity (op:Int):Int:=if op < 1∨op > 25 then -1 else if op=1∨op=2∨op=24 then 0 else if op=3∨op=4∨op=5∨op=6∨op=25 then 1 else if op=22 then 3 else if op=23 then -1 else 2
set_option maxHeartbeats 2000000 in
theorem AJ4 (G:Nat→AV) (op:Int) (h:Hp):PCall (En G) 258 [.int .i64 op] h (.int .i64 (arity op)):=by
 refine BX (H:=Hint.none) (enM G) Tryz.func258 rfl (by kernel_rfl) (by kernel_rfl) (Nat.le_of_ble_eq_true (by kernel_rfl)) ?_
 show awp _ _ _ _ _ (EJ _ [.tmp 2] _)
 have hcase:op < 1∨op > 25∨op=1∨op=2∨op=3∨op=4∨op=5∨op=6∨op=7∨op=8∨op=9∨op=10∨op=11∨op=12∨op=13∨op=14∨op=15∨op=16∨op=17∨op=18∨op=19∨op=20∨op=21∨op=22∨op=23∨op=24∨op=25:=by omega
 rcases hcase with h | h | rfl | rfl | rfl | rfl | rfl | rfl | rfl | rfl | rfl | rfl | rfl | rfl | rfl | rfl | rfl | rfl | rfl | rfl | rfl | rfl | rfl | rfl | rfl | rfl | rfl
 ·have hne : ∀ k:Int,1≤k→(op == k)=false:=fun k hk=>beq_eq_false_iff_ne.2 (by omega)
  have hd:decide (op < 1)=true:=by simp; omega
  have ha:arity op = -1:=by unfold arity; rw [if_pos (Or.inl h)]
  rw [ha]
  simp -implicitDefEqProofs only [A8,BM,AX,BK,BJ,BF,AZ,CJ,DU,CK,DI,DL,AU,A9,BH,BQ,BZ,FN,AL,AO,AJ,BA,AR,AC,AA,EM,AY,AQ,BD,BI,BB,A7,CF,DJ,BN,AB,D9,CO,BC,↓reduceIte,Nat.reduceEqDiff,Option.getD_some,Bool.not_false,enP,hne 1 (by decide),hne 2 (by decide),hne 3 (by decide),hne 4 (by decide),hne 5 (by decide),hne 6 (by decide),hne 7 (by decide),hne 8 (by decide),hne 9 (by decide),hne 10 (by decide),hne 11 (by decide),hne 12 (by decide),hne 13 (by decide),hne 14 (by decide),hne 15 (by decide),hne 16 (by decide),hne 17 (by decide),hne 18 (by decide),hne 19 (by decide),hne 20 (by decide),hne 21 (by decide),hne 22 (by decide),hne 23 (by decide),hne 24 (by decide),hne 25 (by decide),hd]
  exact ⟨trivial,trivial⟩
 ·have hne : ∀ k:Int,k≤25→(op == k)=false:=fun k hk=>beq_eq_false_iff_ne.2 (by omega)
  have hd:decide (op < 1)=false:=by simp; omega
  have hd2:decide (op > 25)=true:=by simp; omega
  have ha:arity op = -1:=by unfold arity; rw [if_pos (Or.inr h)]
  rw [ha]
  simp -implicitDefEqProofs only [A8,BM,AX,BK,BJ,BF,AZ,CJ,DU,CK,DI,DL,AU,A9,BH,BQ,BZ,EH,AL,AO,AJ,BA,AR,AC,AA,AY,AQ,BD,BI,BB,A7,CF,DK,BN,AB,D9,CO,EK,BC,↓reduceIte,Nat.reduceEqDiff,Option.getD_some,Bool.not_false,enP,hne 1 (by decide),hne 2 (by decide),hne 3 (by decide),hne 4 (by decide),hne 5 (by decide),hne 6 (by decide),hne 7 (by decide),hne 8 (by decide),hne 9 (by decide),hne 10 (by decide),hne 11 (by decide),hne 12 (by decide),hne 13 (by decide),hne 14 (by decide),hne 15 (by decide),hne 16 (by decide),hne 17 (by decide),hne 18 (by decide),hne 19 (by decide),hne 20 (by decide),hne 21 (by decide),hne 22 (by decide),hne 23 (by decide),hne 24 (by decide),hne 25 (by decide),hd,hd2]
  exact ⟨trivial,trivial⟩
 all_goals
  simp -implicitDefEqProofs only [A8,BM,AX,BK,BJ,BF,AZ,CJ,DU,D6,CK,DI,DL,AU,A9,BH,BQ,BZ,EH,AL,AO,AJ,BA,AR,AC,AA,AY,AQ,BD,BI,BB,A7,CF,DK,BN,AB,D9,CO,EK,BC,↓reduceIte,Nat.reduceEqDiff,Option.getD_some,Bool.not_false,decide_false,enP,Int.reduceBEq,Int.reduceLT,Int.reduceGT]
  exact ⟨rfl,trivial⟩

set_option maxHeartbeats 2000000 in
theorem AN7 (G:Nat→AV) (op:Int) (h:Hp):PCall (En G) 254 [.int .i64 op] h (.int .i64 (arity op)):=by
 refine BX (H:=Hint.none) (enM G) Tryz.func254 rfl (by kernel_rfl) (by kernel_rfl) (Nat.le_of_ble_eq_true (by kernel_rfl)) ?_
 show awp _ _ _ _ _ (EJ _ [.tmp 2] _)
 have hcase:op < 1∨op > 25∨op=1∨op=2∨op=3∨op=4∨op=5∨op=6∨op=7∨op=8∨op=9∨op=10∨op=11∨op=12∨op=13∨op=14∨op=15∨op=16∨op=17∨op=18∨op=19∨op=20∨op=21∨op=22∨op=23∨op=24∨op=25:=by omega
 rcases hcase with h | h | rfl | rfl | rfl | rfl | rfl | rfl | rfl | rfl | rfl | rfl | rfl | rfl | rfl | rfl | rfl | rfl | rfl | rfl | rfl | rfl | rfl | rfl | rfl | rfl | rfl
 ·have hne : ∀ k:Int,1≤k→(op == k)=false:=fun k hk=>beq_eq_false_iff_ne.2 (by omega)
  have hd:decide (op < 1)=true:=by simp; omega
  have ha:arity op = -1:=by unfold arity; rw [if_pos (Or.inl h)]
  rw [ha]
  simp -implicitDefEqProofs only [A8,BM,AX,BK,BJ,BF,AZ,CJ,DU,CK,DI,DL,AU,A9,BH,BQ,BZ,FN,AL,AO,AJ,BA,AR,AC,AA,EM,AY,AQ,BD,BI,BB,A7,CF,DJ,BN,AB,D9,CO,BC,↓reduceIte,Nat.reduceEqDiff,Option.getD_some,Bool.not_false,enP,hne 1 (by decide),hne 2 (by decide),hne 3 (by decide),hne 4 (by decide),hne 5 (by decide),hne 6 (by decide),hne 7 (by decide),hne 8 (by decide),hne 9 (by decide),hne 10 (by decide),hne 11 (by decide),hne 12 (by decide),hne 13 (by decide),hne 14 (by decide),hne 15 (by decide),hne 16 (by decide),hne 17 (by decide),hne 18 (by decide),hne 19 (by decide),hne 20 (by decide),hne 21 (by decide),hne 22 (by decide),hne 23 (by decide),hne 24 (by decide),hne 25 (by decide),hd]
  exact ⟨trivial,trivial⟩
 ·have hne : ∀ k:Int,k≤25→(op == k)=false:=fun k hk=>beq_eq_false_iff_ne.2 (by omega)
  have hd:decide (op < 1)=false:=by simp; omega
  have hd2:decide (op > 25)=true:=by simp; omega
  have ha:arity op = -1:=by unfold arity; rw [if_pos (Or.inr h)]
  rw [ha]
  simp -implicitDefEqProofs only [A8,BM,AX,BK,BJ,BF,AZ,CJ,DU,CK,DI,DL,AU,A9,BH,BQ,BZ,EH,AL,AO,AJ,BA,AR,AC,AA,AY,AQ,BD,BI,BB,A7,CF,DK,BN,AB,D9,CO,EK,BC,↓reduceIte,Nat.reduceEqDiff,Option.getD_some,Bool.not_false,enP,hne 1 (by decide),hne 2 (by decide),hne 3 (by decide),hne 4 (by decide),hne 5 (by decide),hne 6 (by decide),hne 7 (by decide),hne 8 (by decide),hne 9 (by decide),hne 10 (by decide),hne 11 (by decide),hne 12 (by decide),hne 13 (by decide),hne 14 (by decide),hne 15 (by decide),hne 16 (by decide),hne 17 (by decide),hne 18 (by decide),hne 19 (by decide),hne 20 (by decide),hne 21 (by decide),hne 22 (by decide),hne 23 (by decide),hne 24 (by decide),hne 25 (by decide),hd,hd2]
  exact ⟨trivial,trivial⟩
 all_goals
  simp -implicitDefEqProofs only [A8,BM,AX,BK,BJ,BF,AZ,CJ,D6,CK,DI,DL,AU,A9,AL,AO,AJ,BA,AR,AC,AA,AY,AQ,BD,BB,A7,BN,AB,D9,BC,↓reduceIte,Nat.reduceEqDiff,Option.getD_some,Bool.not_false,enP,Int.reduceBEq,Int.reduceLT,Int.reduceGT]
  exact ⟨rfl,trivial⟩

def K5 (op:Int):Bool:=op == 2 || op == 3 || op == 24
theorem WK (G:Nat→AV) (op:Int) (h:Hp):PCall (En G) 246 [.int .i64 op] h (.bool (K5 op)):=by
 refine BX (H:=Hint.none) (enM G) Tryz.func246 rfl (by kernel_rfl) (by kernel_rfl) (Nat.le_of_ble_eq_true (by kernel_rfl)) ?_
 show awp _ _ _ _ _ (EJ _ [.tmp 2] _)
 simp -implicitDefEqProofs only [A8,AX,AZ,AU,A9,BH,BQ,BZ,AL,AO,AJ,BA,AR,AC,AA,AY,AQ,BD,BI,BB,A7,BN,AB,D9,BC,↓reduceIte,Nat.reduceEqDiff,Option.getD_some,Bool.not_false,enP]
 cases ha:(op == 2) <;> cases hb:(op == 3)
 all_goals
  simp -implicitDefEqProofs only [BJ,AZ,CK,AU,A9,BH,BQ,BZ,EH,FN,AL,AO,AJ,BA,AR,AC,AA,EM,AY,AQ,BD,BI,BB,A7,CF,DJ,DK,BN,AB,D9,BC,↓reduceIte,Nat.reduceEqDiff,Option.getD_some,Bool.not_false,enP,ha,hb]
  exact ⟨by simp [K5,ha,hb],trivial⟩
/-- as many operands as the operator allows -/
def AGI (op:Int) (n:Nat):Bool:=if op == 23 then ((n:Int) % 2 == 1) && decide ((n:Int)≥3) && decide ((n:Int)≤33) else ((n:Int) == arity op)
theorem ABS (G:Nat→AV) (e:Ex) (h:Hp):PCall (En G) 231 [.agg (F7 e)] h (.bool (AGI e.op e.args.length)):=by
 refine ACalls.pure0 rfl ?_
 refine BX (H:=Hint.none) (enM G) Tryz.func231 rfl (by kernel_rfl) (by kernel_rfl) (Nat.le_of_ble_eq_true (by kernel_rfl)) ?_
 show awp _ _ _ _ _ (EJ _ [.tmp 2] _)
 simp -implicitDefEqProofs only [A8,AX,BF,AZ,AU,A9,AL,AO,AJ,BA,AR,AC,AA,AY,AQ,BD,BI,A7,EW,BL,BN,BG,C8,BO,AB,D9,BC,↓reduceIte,Nat.reduceEqDiff,Nat.add_zero,Nat.zero_add,Option.getD_some,Bool.not_false,enP,AJC,I1,Q9,bxE,CX AOB,CX ag3,ADE,J6,List.length_map]
 generalize he:e.args.length=n
 have hm:(n:Int).tmod 2=(n:Int) % 2:=Int.tmod_eq_emod_of_nonneg (by omega)
 have b1:KY Tryz.prog 3 .rem (.int .i64 (n:Int)) (.int .i64 2)=some (.int .i64 ((n:Int) % 2)):=by rw [AE5 _ _ _ _ _ (by decide),hm]
 refine CG (fun hc => ?_) (fun hc => ?_)
 ·simp -implicitDefEqProofs only [A8,AX,AU,BH,BQ,BZ,AL,AO,AJ,BA,AR,AC,AA,AY,AQ,BD,BB,BN,AB,D9,↓reduceIte,Nat.reduceEqDiff,Option.getD_some,Bool.not_false,enP,b1]
  cases ha:((n:Int) % 2 == 1) <;> cases hb:decide ((n:Int)≥3)
  all_goals
   simp -implicitDefEqProofs only [BJ,AZ,CJ,CK,AU,A9,BH,BQ,BZ,FZ,IQ,AL,AO,AJ,BA,AR,AC,AA,EM,AY,AQ,BD,BI,BB,A7,CF,DJ,DK,BN,AB,J9,F3,↓reduceIte,Nat.reduceEqDiff,Option.getD_some,Bool.not_false,enP,ha,hb]
   exact ⟨by unfold AGI; rw [if_pos hc,ha,hb]; simp,_,rfl⟩
 ·simp -implicitDefEqProofs only [A8,AX,BK,AZ,AU,AL,AO,AJ,BA,AR,AC,AA,AY,BS,BB,BL,BG,BV,BR,AB,List.map_cons,List.map_nil,List.append_nil,↓reduceIte,Nat.reduceEqDiff,Nat.add_zero,Option.getD_some,Bool.not_false,enP,I1,CX ag3,J6]
  refine (AJ4 G e.op _).use ?_
  simp -implicitDefEqProofs only [BJ,AZ,CK,AU,A9,AL,AO,AJ,BA,AR,AC,AA,AY,A7,BN,AB,D9,↓reduceIte,Nat.reduceEqDiff,Option.getD_some,Bool.not_false,enP]
  exact ⟨by unfold AGI; rw [if_neg (by rw [hc]; decide)],_,rfl⟩
end Go.Proofs.YtocilianjfhifaaGreatDoor.Cov
/- Element names and variable names, on both sides; no condition but the variables that are laid. -/
namespace Go.Proofs.YtocilianjfhifaaGreatDoor.Cov
open Go Go.Proofs Go.Proofs.YtocilianjfhifaaGreatDoor.Sm Go.Proofs.YtocilianjfhifaaGreatDoor.Bins Go.Shelf Go.RowKit

def AQQ:Go.Shelf.Ren:=⟨fun | 145=>290 | 220=>304 | 219=>305 | 217=>306 | 225=>307 | 224=>308 | 267=>309 | 266=>310 | 314=>311 | n=>n,fun | 9=>9 | 4=>4 | 59=>261 | 3=>3 | 5=>5 | 46=>269 | 146=>273 | 51=>272 | n=>n,fun | 1=>1 | n=>n⟩
theorem AZI:Go.Proofs.Lays.n145 Tryz.prog AQQ := {
 mixed:=by kernel_rfl,
 f145:=Tryz.func290.trans (congrArg some (by kernel_rfl)),
 f217:=Tryz.func306.trans (congrArg some (by kernel_rfl)),
 f219:=Tryz.func305.trans (congrArg some (by kernel_rfl)),
 f220:=Tryz.func304.trans (congrArg some (by kernel_rfl)),
 f224:=Tryz.func308.trans (congrArg some (by kernel_rfl)),
 f225:=Tryz.func307.trans (congrArg some (by kernel_rfl)),
 f266:=Tryz.func310.trans (congrArg some (by kernel_rfl)),
 f267:=Tryz.func309.trans (congrArg some (by kernel_rfl)),
 f314:=Tryz.func311.trans (congrArg some (by kernel_rfl)),
 t3:=Tryz.underlying3,
 a3:=Tryz.isAgg3,
 z3:=Tryz.sizeOf3,
 v3:=Tryz.zeroValue3,
 t4:=Tryz.underlying4,
 a4:=Tryz.isAgg4,
 z4:=Tryz.sizeOf4,
 v4:=Tryz.zeroValue4,
 t5:=Tryz.underlying5,
 a5:=Tryz.isAgg5,
 z5:=Tryz.sizeOf5,
 v5:=Tryz.zeroValue5,
 t9:=Tryz.underlying9,
 a9:=Tryz.isAgg9,
 z9:=Tryz.sizeOf9,
 v9:=Tryz.zeroValue9,
 t46:=Tryz.underlying269,
 a46:=Tryz.isAgg269,
 z46:=Tryz.sizeOf269,
 v46:=Tryz.zeroValue269,
 t51:=Tryz.underlying272,
 a51:=Tryz.isAgg272,
 z51:=Tryz.sizeOf272,
 v51:=Tryz.zeroValue272,
 t59:=Tryz.underlying261,
 a59:=Tryz.isAgg261,
 z59:=Tryz.sizeOf261,
 v59:=Tryz.zeroValue261,
 t146:=Tryz.underlying273,
 a146:=Tryz.isAgg273,
 z146:=Tryz.sizeOf273,
 v146:=Tryz.zeroValue273,
 g1:=by kernel_rfl }

/-- what the package-level variables hold -/
structure GOk (G:Nat→AV):Prop where
 kw:KwG G
 mx : ∃ n,G 1 = .fptr 1 [[.int .i64 n]] 0 0
theorem APX {G:Nat→AV} {g:Gh} {h:Hp} {w:World} {n:Nat} {k:IntKind} {z:Int} (S:SimH (En G) g h w) (hn:G n = .fptr 1 [[.int k z]] 0 0):w.cell? ⟨n,0,none⟩=some (.int k z):=by
 have:=S.glob n
 rw [enG,hn] at this
 generalize hp:Value.pointer (some ⟨n,0,none⟩)=p at this
 cases this with
 | fptr k' xs i j cb co c e fz cv h1 h2 h3 h4 =>
   simp only [Value.pointer.injEq,Option.some.injEq,Addr.mk.injEq] at hp
   obtain ⟨rfl,hco,_⟩:=hp
   have h5:=h3 0 0 (by simp) (by simp)
   have h6:=h4 0 0 _ _ rfl rfl
   generalize cv 0 0=u at h5 h6
   cases h6
   simp only [World.cell?,S.fro _ _ h1]
   subst hco
   exact h5
def cutV (s:ByteArray):AV := .tup [.str ⟨(Lib.cut s.data.toList [91]).1.toArray⟩,.str ⟨(Lib.cut s.data.toList [91]).2.1.toArray⟩,.bool (Lib.cut s.data.toList [91]).2.2]
theorem AQP (G:Nat→AV) (hG:GOk G) (s:ByteArray) (h:Hp) (hl:s.size≤1048576):PCall (En G) 290 [.str s,.str ⟨#[91]⟩] h (cutV s):=by
 refine PCall.of_reads (cok 290 G (by kernel_rfl)) fun g w cargs S ha => ?_
 obtain ⟨hsz,hget⟩:=ha
 obtain ⟨cv0,cv1,rfl⟩ : ∃ a b,cargs = #[a,b]:=by
  obtain ⟨l⟩:=cargs
  match l,hsz with
  | [a,b],_=>exact ⟨a,b,rfl⟩
 obtain rfl:=(hget 0 _ cv0 rfl rfl).str_inv
 obtain rfl:=(hget 1 _ cv1 rfl rfl).str_inv
 obtain ⟨z,hz⟩:=hG.mx
 have hc:=APX S hz
 have:=Any.strings_Cut AZI s ⟨#[91]⟩ z w (by omega) hc
 refine ⟨_,?_,this⟩
 refine .tup _ _ rfl ?_
 intro i v cv h1 h2
 match i,h1,h2 with
 | 0,h1,h2=>simp at h1 h2; subst h1; subst h2; exact .str _ _
 | 1,h1,h2=>simp at h1 h2; subst h1; subst h2; exact .str _ _
 | 2,h1,h2=>simp at h1 h2; subst h1; subst h2; exact .bool _ _

/-- an element name: its array's name and its digit -/
def NR (s:ByteArray):Option (List UInt8 × UInt8) :=
 if 4≤s.data.toList.length then match s.data.toList.drop (s.data.toList.length - 3) with
  | [x,d,y]=>if (y == 93 && x == 91 && decide (48≤d.toNat) && decide (d.toNat < 56) && GA ⟨(s.data.toList.take (s.data.toList.length - 3)).toArray⟩)=true then some (s.data.toList.take (s.data.toList.length - 3),d) else none
  | _=>none
 else none
def elemV (o:Option (List UInt8 × UInt8)):AV:=match o with
 | some (a,d) => .tup [.str ⟨a.toArray⟩,.int .i64 ((d.toNat:Int) - 48),.bool true]
 | none => .tup [.str ⟨#[]⟩,.int .i64 0,.bool false]
theorem AK7 {l:List UInt8} (h:GA ⟨l.toArray⟩=true):l≠[]∧∀ b∈l,b≠91:=by
 have hw:QB ⟨l.toArray⟩=true:=by
  unfold GA at h
  exact (Bool.and_eq_true_iff.1 (Bool.and_eq_true_iff.1 h).1).1
 unfold QB at hw
 obtain ⟨h1,h2⟩:=Bool.and_eq_true_iff.1 hw
 refine ⟨?_,?_⟩
 ·intro e; subst e; cases h1
 ·intro b hb e
  subst e
  have:=List.all_eq_true.1 h2 91 hb
  revert this; decide
/-- three bytes behind the first ones -/
theorem three {l:List UInt8} (h:3≤l.length) : ∃ a x d y,l=a ++ [x,d,y]:=by
 refine ⟨l.take (l.length - 3),?_⟩
 have h1:(l.drop (l.length - 3)).length=3:=by simp; omega
 match hm:l.drop (l.length - 3),h1 with
 | [x,d,y],_=>exact ⟨x,d,y,by rw [← hm,List.take_append_drop]⟩
theorem AAZ {a:List UInt8} {x d y:UInt8} (ha:a≠[]):NR ⟨(a ++ [x,d,y]).toArray⟩=if (y == 93 && x == 91 && decide (48≤d.toNat) && decide (d.toNat < 56) && GA ⟨a.toArray⟩)=true then some (a,d) else none:=by
 have hl:0 < a.length:=List.length_pos_iff.2 ha
 unfold NR
 simp only
 rw [if_pos (by simp; omega)]
 have e:(a ++ [x,d,y]).length - 3=a.length:=by simp
 rw [e,List.drop_left,List.take_left]
/-- as the program finds it -/
theorem AQM (s:ByteArray):NR s=if ((Lib.cut s.data.toList [91]).2.2 && GA ⟨(Lib.cut s.data.toList [91]).1.toArray⟩)=true then match (Lib.cut s.data.toList [91]).2.1 with
  | [d,y]=>if (y == 93 && decide (48≤d.toNat) && decide (d.toNat < 56))=true then some ((Lib.cut s.data.toList [91]).1,d) else none
  | _=>none
 else none:=by
 obtain ⟨⟨l⟩⟩:=s
 have hocc : ∀ i,Lib.occAt l [91] i=true↔l[i]? = some 91:=by
  intro i
  unfold Lib.occAt
  rcases Nat.lt_or_ge i l.length with h | h
  ·rw [List.drop_eq_getElem_cons h,List.getElem?_eq_getElem h]
   simp [List.isPrefixOf]
   exact eq_comm
  ·rw [List.drop_eq_nil_of_le h,List.getElem?_eq_none h]; simp [List.isPrefixOf]
 -- an element name of the reference's kind
 have main : ∀ a d,a≠[]→GA ⟨a.toArray⟩=true→l=a ++ [91,d,93]→Lib.cut l [91]=(a,[d,93],true):=by
  intro a d ha hn hl
  obtain ⟨_,hne⟩:=AK7 hn
  have hi:Lib.index l [91]=(a.length:Int):=by
   refine Lib.index_first (by rw [hl]; simp) ((hocc _).2 (by rw [hl]; simp)) fun j hj => ?_
   rw [← Bool.not_eq_true,hocc,hl,List.getElem?_append_left hj,List.getElem?_eq_getElem hj]
   intro e
   exact hne _ (List.getElem_mem hj) (Option.some.inj e)
  unfold Lib.cut
  rw [hi,if_pos (by omega),Int.toNat_natCast,hl,List.take_left,← List.drop_drop,List.drop_left]
  rfl
 show NR ⟨l.toArray⟩=_
 rcases hcase:NR ⟨l.toArray⟩ with _ | ⟨a,d⟩
 ·symm
  show (if _ then _ else none)=none
  simp only
  split
  ·rename_i hb
   rw [Bool.and_eq_true] at hb
   split
   ·rename_i d y hm
    split
    ·rename_i hd
     exfalso
     simp only [Bool.and_eq_true,beq_iff_eq,decide_eq_true_eq] at hd
     obtain ⟨⟨rfl,hd1⟩,hd2⟩:=hd
     obtain ⟨ha,_⟩:=AK7 hb.2
     have hc:Lib.cut l [91]=((Lib.cut l [91]).1,[d,93],true):=by
      rw [← hm]; have:=hb.1; cases hcc:Lib.cut l [91] with
      | mk p q=>cases q with
        | mk q1 q2=>rw [hcc] at this; simp at this; subst this; rfl
     have hl:l=(Lib.cut l [91]).1 ++ [91,d,93]:=by
      generalize (Lib.cut l [91]).1=b at hc
      unfold Lib.cut at hc
      split at hc
      ·rename_i h0
       obtain ⟨i,hi⟩ : ∃ i:Nat,Lib.index l [91]=i:=⟨(Lib.index l [91]).toNat,by omega⟩
       rw [hi] at hc
       simp only [Int.toNat_natCast,Prod.mk.injEq,List.length_singleton] at hc
       rcases Lib.index_spec l [91] with ⟨h1,_⟩ | ⟨j,h1,_,h3,_⟩
       ·omega
       ·have hj:i=j:=by omega
        subst hj
        have h4:=(hocc i).1 h3
        have h5:i < l.length:=(List.getElem?_eq_some_iff.1 h4).1
        have h6:l[i]=91:=by rw [List.getElem?_eq_getElem h5] at h4; exact Option.some.inj h4
        rw [← hc.1]
        calc l=l.take i ++ l.drop i:=(List.take_append_drop i l).symm
         _=l.take i ++ (l[i] :: l.drop (i+1)):=by rw [List.drop_eq_getElem_cons h5]
         _=l.take i ++ [91,d,93]:=by rw [h6,hc.2.1]
      ·simp at hc
     have:=AAZ (x:=91) (d:=d) (y:=93) ha
     rw [← hl,hcase,if_pos (by simp [hb.2,hd1,hd2])] at this
     cases this
    ·rfl
   ·rfl
  ·rfl
 ·have h4:4≤l.length:=by
   unfold NR at hcase
   simp only at hcase
   split at hcase
   ·assumption
   ·cases hcase
  obtain ⟨b,x,d',y,rfl⟩:=three (show 3≤l.length by omega)
  have hb:b≠[]:=by intro e; subst e; simp at h4
  rw [AAZ hb] at hcase
  split at hcase
  ·rename_i hc
   cases hcase
   simp only [Bool.and_eq_true,beq_iff_eq,decide_eq_true_eq] at hc
   obtain ⟨⟨⟨⟨rfl,rfl⟩,h1⟩,h2⟩,h3⟩:=hc
   simp only
   rw [main a d hb h3 rfl]
   simp [h3,h1,h2]
  ·cases hcase
end Go.Proofs.YtocilianjfhifaaGreatDoor.Cov
