/- Part 5 of the proof (Ft, B1, B2, B3, B4, B5, B6, B7, E1, E2, E3); no condition. -/
import Derived.Test.YtfpagfhhhlljjaaGreatDoorProg
import Derived.KernelRfl
import Derived.Laws.RangeAny
import Derived.Shelf.Strings.Cut
import Derived.Lib.IndexMore
import Derived.Test.YtfpagfhhhlljjaaGreatDoorYF4
set_option linter.unusedVariables false
namespace Go.Proofs.YtfpagfhhhlljjaaGreatDoor.Sm

theorem sz3:szO Tryz.prog 3=some 1:=by kernel_rfl
theorem ag3:KR Tryz.prog 3=some false:=by kernel_rfl
theorem ag4:KR Tryz.prog 4=some false:=by kernel_rfl
theorem sz9:szO Tryz.prog 9=some 1:=by kernel_rfl
theorem ag9:KR Tryz.prog 9=some false:=by kernel_rfl
theorem ZI:KR Tryz.prog 22=some false:=by kernel_rfl
theorem AAT:KR Tryz.prog 23=some false:=by kernel_rfl
theorem A2H:szO Tryz.prog 25=some 2:=by kernel_rfl
theorem A6D:KR Tryz.prog 25=some true:=by kernel_rfl
theorem AJT:szO Tryz.prog 26=some 1:=by kernel_rfl
theorem MG:KR Tryz.prog 26=some false:=by kernel_rfl
theorem A2G:szO Tryz.prog 28=some 3:=by kernel_rfl
theorem A6C:KR Tryz.prog 28=some true:=by kernel_rfl
theorem A2F:szO Tryz.prog 33=some 1:=by kernel_rfl
theorem AXM:KR Tryz.prog 33=some false:=by kernel_rfl
theorem A2E:szO Tryz.prog 34=some 1:=by kernel_rfl
theorem AXL:KR Tryz.prog 34=some false:=by kernel_rfl
theorem AFA:szO Tryz.prog 46=some 1:=by kernel_rfl
theorem PX:KR Tryz.prog 46=some false:=by kernel_rfl
theorem LD:szO Tryz.prog 48=some 4:=by kernel_rfl
theorem TQ:KR Tryz.prog 48=some true:=by kernel_rfl
theorem U2:KR Tryz.prog 49=some false:=by kernel_rfl
theorem XG:szO Tryz.prog 51=some 6:=by kernel_rfl
theorem AAS:KR Tryz.prog 51=some true:=by kernel_rfl
theorem A33:szO Tryz.prog 53=some 1:=by kernel_rfl
theorem RF:KR Tryz.prog 53=some false:=by kernel_rfl
theorem WM:KR Tryz.prog 54=some false:=by kernel_rfl
theorem XF:szO Tryz.prog 56=some 4:=by kernel_rfl
theorem ABV:KR Tryz.prog 56=some true:=by kernel_rfl
theorem A2D:szO Tryz.prog 59=some 2:=by kernel_rfl
theorem A7U:KR Tryz.prog 59=some true:=by kernel_rfl
theorem A6Q:szO Tryz.prog 60=some 1:=by kernel_rfl
theorem A6B:KR Tryz.prog 60=some false:=by kernel_rfl
theorem A2C:szO Tryz.prog 65=some 1:=by kernel_rfl
theorem ATT:KR Tryz.prog 65=some false:=by kernel_rfl
theorem AYB:szO Tryz.prog 67=some 1:=by kernel_rfl
theorem UN:KR Tryz.prog 67=some false:=by kernel_rfl
theorem ACI:szO Tryz.prog 69=some 3:=by kernel_rfl
theorem AI5:KR Tryz.prog 69=some true:=by kernel_rfl
theorem AUB:szO Tryz.prog 81=some 4:=by kernel_rfl
theorem A7T:KR Tryz.prog 81=some true:=by kernel_rfl
theorem NG:szO Tryz.prog 88=some 2:=by kernel_rfl
theorem AEX:KR Tryz.prog 88=some true:=by kernel_rfl
theorem AUC:szO Tryz.prog 120=some 1:=by kernel_rfl
theorem A6G:KR Tryz.prog 120=some true:=by kernel_rfl
theorem A1G:szO Tryz.prog 184=some 2:=by kernel_rfl
theorem A6F:KR Tryz.prog 184=some true:=by kernel_rfl
theorem A1F:szO Tryz.prog 205=some 1:=by kernel_rfl
theorem A6E:KR Tryz.prog 205=some true:=by kernel_rfl
theorem be4 : ∀ p q,J7 Tryz.prog 4 .eql (.bool p) (.bool q)=some (.bool (p == q)):=fun p q=>AW7 Tryz.prog 4 p q (by kernel_rfl)
theorem ln9 : ∀ s,KY Tryz.prog 9 (.str s)=some (.int .i64 s.size):=AZH (by kernel_rfl:Tryz.prog.underlying 9=some .string)
theorem QG : ∀ h a i,GK Tryz.prog h 22 a i=JZ 6 h a i:=JD (by kernel_rfl:Tryz.prog.underlying 22=some (.slice 51)) XG
theorem PZ:(∀ m k xs,KY Tryz.prog 22 (.sl m k xs)=some (.int .i64 xs.length))∧∀ b off len,KY Tryz.prog 22 (.own b off len)=some (.int .i64 len):=PD (by kernel_rfl:Tryz.prog.underlying 22=some (.slice 51))
theorem QU : ∀ h a i,GK Tryz.prog h 23 a i=JZ 3 h a i:=JD (by kernel_rfl:Tryz.prog.underlying 23=some (.slice 69)) ACI
theorem XW:(∀ m k xs,KY Tryz.prog 23 (.sl m k xs)=some (.int .i64 xs.length))∧∀ b off len,KY Tryz.prog 23 (.own b off len)=some (.int .i64 len):=PD (by kernel_rfl:Tryz.prog.underlying 23=some (.slice 69))
theorem H7:(∀ b i j,DV Tryz.prog 25 (.ptr b i j) 0=some (.ptr b i (j+0)))∧(∀ k xs i j,DV Tryz.prog 25 (.fptr k xs i j) 0=some (.fptr k xs i (j+0))):=KD (by kernel_rfl:MF Tryz.prog 25 0 0=true)
theorem JS:(∀ b i j,DV Tryz.prog 25 (.ptr b i j) 1=some (.ptr b i (j+1)))∧(∀ k xs i j,DV Tryz.prog 25 (.fptr k xs i j) 1=some (.fptr k xs i (j+1))):=KD (by kernel_rfl:MF Tryz.prog 25 1 1=true)
theorem JJ : ∀ h a i,GK Tryz.prog h 26 a i=JZ 1 h a i:=JD (by kernel_rfl:Tryz.prog.underlying 26=some (.slice 3)) sz3
theorem JV:(∀ m k xs,KY Tryz.prog 26 (.sl m k xs)=some (.int .i64 xs.length))∧∀ b off len,KY Tryz.prog 26 (.own b off len)=some (.int .i64 len):=PD (by kernel_rfl:Tryz.prog.underlying 26=some (.slice 3))
theorem XE:Tryz.prog.underlying 26=some (.slice 3):=by kernel_rfl
theorem ABL:U3 Tryz.prog 3=some 1:=by kernel_rfl
theorem AAN:ND Tryz.prog 3=some 8:=by kernel_rfl
theorem UK:(∀ b i j,DV Tryz.prog 28 (.ptr b i j) 0=some (.ptr b i (j+0)))∧(∀ k xs i j,DV Tryz.prog 28 (.fptr k xs i j) 0=some (.fptr k xs i (j+0))):=KD (by kernel_rfl:MF Tryz.prog 28 0 0=true)
theorem LJ:(∀ b i j,DV Tryz.prog 28 (.ptr b i j) 1=some (.ptr b i (j+1)))∧(∀ k xs i j,DV Tryz.prog 28 (.fptr k xs i j) 1=some (.fptr k xs i (j+1))):=KD (by kernel_rfl:MF Tryz.prog 28 1 1=true)
theorem LH:(∀ b i j,DV Tryz.prog 28 (.ptr b i j) 2=some (.ptr b i (j+2)))∧(∀ k xs i j,DV Tryz.prog 28 (.fptr k xs i j) 2=some (.fptr k xs i (j+2))):=KD (by kernel_rfl:MF Tryz.prog 28 2 2=true)
theorem ABR : ∀ h a i,GK Tryz.prog h 33 a i=JZ 1 h a i:=JD (by kernel_rfl:Tryz.prog.underlying 33=some (.slice 46)) AFA
theorem XV:(∀ m k xs,KY Tryz.prog 33 (.sl m k xs)=some (.int .i64 xs.length))∧∀ b off len,KY Tryz.prog 33 (.own b off len)=some (.int .i64 len):=PD (by kernel_rfl:Tryz.prog.underlying 33=some (.slice 46))
theorem ARH:Tryz.prog.underlying 33=some (.slice 46):=by kernel_rfl
theorem ATZ:U3 Tryz.prog 46=some 1:=by kernel_rfl
theorem ATI:ND Tryz.prog 46=some 24:=by kernel_rfl
theorem A67 : ∀ h a i,GK Tryz.prog h 38 a i=JZ 1 h a i:=JD (by kernel_rfl:Tryz.prog.underlying 38=some (.slice 60)) A6Q
theorem A6Y:(∀ m k xs,KY Tryz.prog 38 (.sl m k xs)=some (.int .i64 xs.length))∧∀ b off len,KY Tryz.prog 38 (.own b off len)=some (.int .i64 len):=PD (by kernel_rfl:Tryz.prog.underlying 38=some (.slice 60))
theorem WH : ∀ h a i,GK Tryz.prog h 46 a i=JZ 4 h a i:=JD (by kernel_rfl:Tryz.prog.underlying 46=some (.slice 48)) LD
theorem SK:(∀ m k xs,KY Tryz.prog 46 (.sl m k xs)=some (.int .i64 xs.length))∧∀ b off len,KY Tryz.prog 46 (.own b off len)=some (.int .i64 len):=PD (by kernel_rfl:Tryz.prog.underlying 46=some (.slice 48))
theorem YF:Tryz.prog.underlying 46=some (.slice 48):=by kernel_rfl
theorem AE8:U3 Tryz.prog 48=some 4:=by kernel_rfl
theorem AFV:ND Tryz.prog 48=some 56:=by kernel_rfl
theorem JE:(∀ b i j,DV Tryz.prog 48 (.ptr b i j) 0=some (.ptr b i (j+0)))∧(∀ k xs i j,DV Tryz.prog 48 (.fptr k xs i j) 0=some (.fptr k xs i (j+0))):=KD (by kernel_rfl:MF Tryz.prog 48 0 0=true)
theorem AAC:(∀ b i j,DV Tryz.prog 48 (.ptr b i j) 1=some (.ptr b i (j+1)))∧(∀ k xs i j,DV Tryz.prog 48 (.fptr k xs i j) 1=some (.fptr k xs i (j+1))):=KD (by kernel_rfl:MF Tryz.prog 48 1 1=true)
theorem MP:(∀ b i j,DV Tryz.prog 48 (.ptr b i j) 2=some (.ptr b i (j+2)))∧(∀ k xs i j,DV Tryz.prog 48 (.fptr k xs i j) 2=some (.fptr k xs i (j+2))):=KD (by kernel_rfl:MF Tryz.prog 48 2 2=true)
theorem MK:(∀ b i j,DV Tryz.prog 48 (.ptr b i j) 3=some (.ptr b i (j+3)))∧(∀ k xs i j,DV Tryz.prog 48 (.fptr k xs i j) 3=some (.fptr k xs i (j+3))):=KD (by kernel_rfl:MF Tryz.prog 48 3 3=true)
theorem TG : ∀ h a i,GK Tryz.prog h 49 a i=JZ 4 h a i:=JD (by kernel_rfl:Tryz.prog.underlying 49=some (.slice 56)) XF
theorem QD:(∀ m k xs,KY Tryz.prog 49 (.sl m k xs)=some (.int .i64 xs.length))∧∀ b off len,KY Tryz.prog 49 (.own b off len)=some (.int .i64 len):=PD (by kernel_rfl:Tryz.prog.underlying 49=some (.slice 56))
theorem AD1:(∀ b i j,DV Tryz.prog 51 (.ptr b i j) 0=some (.ptr b i (j+0)))∧(∀ k xs i j,DV Tryz.prog 51 (.fptr k xs i j) 0=some (.fptr k xs i (j+0))):=KD (by kernel_rfl:MF Tryz.prog 51 0 0=true)
theorem UJ:(∀ b i j,DV Tryz.prog 51 (.ptr b i j) 1=some (.ptr b i (j+1)))∧(∀ k xs i j,DV Tryz.prog 51 (.fptr k xs i j) 1=some (.fptr k xs i (j+1))):=KD (by kernel_rfl:MF Tryz.prog 51 1 1=true)
theorem I4:(∀ b i j,DV Tryz.prog 51 (.ptr b i j) 2=some (.ptr b i (j+5)))∧(∀ k xs i j,DV Tryz.prog 51 (.fptr k xs i j) 2=some (.fptr k xs i (j+5))):=KD (by kernel_rfl:MF Tryz.prog 51 2 5=true)
theorem TF : ∀ h a i,GK Tryz.prog h 53 a i=JZ 2 h a i:=JD (by kernel_rfl:Tryz.prog.underlying 53=some (.slice 88)) NG
theorem L8:(∀ m k xs,KY Tryz.prog 53 (.sl m k xs)=some (.int .i64 xs.length))∧∀ b off len,KY Tryz.prog 53 (.own b off len)=some (.int .i64 len):=PD (by kernel_rfl:Tryz.prog.underlying 53=some (.slice 88))
theorem WF:Tryz.prog.underlying 53=some (.slice 88):=by kernel_rfl
theorem AJE:U3 Tryz.prog 88=some 2:=by kernel_rfl
theorem AMO:ND Tryz.prog 88=some 16:=by kernel_rfl
theorem AIB : ∀ h a i,GK Tryz.prog h 54 a i=JZ 1 h a i:=JD (by kernel_rfl:Tryz.prog.underlying 54=some (.slice 53)) A33
theorem UH:(∀ m k xs,KY Tryz.prog 54 (.sl m k xs)=some (.int .i64 xs.length))∧∀ b off len,KY Tryz.prog 54 (.own b off len)=some (.int .i64 len):=PD (by kernel_rfl:Tryz.prog.underlying 54=some (.slice 53))
theorem AD0:(∀ b i j,DV Tryz.prog 56 (.ptr b i j) 0=some (.ptr b i (j+0)))∧(∀ k xs i j,DV Tryz.prog 56 (.fptr k xs i j) 0=some (.fptr k xs i (j+0))):=KD (by kernel_rfl:MF Tryz.prog 56 0 0=true)
theorem NV:(∀ b i j,DV Tryz.prog 56 (.ptr b i j) 1=some (.ptr b i (j+1)))∧(∀ k xs i j,DV Tryz.prog 56 (.fptr k xs i j) 1=some (.fptr k xs i (j+1))):=KD (by kernel_rfl:MF Tryz.prog 56 1 1=true)
theorem OU:(∀ b i j,DV Tryz.prog 56 (.ptr b i j) 2=some (.ptr b i (j+2)))∧(∀ k xs i j,DV Tryz.prog 56 (.fptr k xs i j) 2=some (.fptr k xs i (j+2))):=KD (by kernel_rfl:MF Tryz.prog 56 2 2=true)
theorem MB:(∀ b i j,DV Tryz.prog 56 (.ptr b i j) 3=some (.ptr b i (j+3)))∧(∀ k xs i j,DV Tryz.prog 56 (.fptr k xs i j) 3=some (.fptr k xs i (j+3))):=KD (by kernel_rfl:MF Tryz.prog 56 3 3=true)
theorem A27:(∀ b i j,DV Tryz.prog 59 (.ptr b i j) 0=some (.ptr b i (j+0)))∧(∀ k xs i j,DV Tryz.prog 59 (.fptr k xs i j) 0=some (.fptr k xs i (j+0))):=KD (by kernel_rfl:MF Tryz.prog 59 0 0=true)
theorem A26:(∀ b i j,DV Tryz.prog 59 (.ptr b i j) 1=some (.ptr b i (j+1)))∧(∀ k xs i j,DV Tryz.prog 59 (.fptr k xs i j) 1=some (.fptr k xs i (j+1))):=KD (by kernel_rfl:MF Tryz.prog 59 1 1=true)
theorem A66 : ∀ h a i,GK Tryz.prog h 60 a i=JZ 2 h a i:=JD (by kernel_rfl:Tryz.prog.underlying 60=some (.slice 59)) A2D
theorem A6X:(∀ m k xs,KY Tryz.prog 60 (.sl m k xs)=some (.int .i64 xs.length))∧∀ b off len,KY Tryz.prog 60 (.own b off len)=some (.int .i64 len):=PD (by kernel_rfl:Tryz.prog.underlying 60=some (.slice 59))
theorem ASJ : ∀ h a i,GK Tryz.prog h 65 a i=JZ 1 h a i:=JD (by kernel_rfl:Tryz.prog.underlying 65=some (.slice 9)) sz9
theorem AK8:(∀ m k xs,KY Tryz.prog 65 (.sl m k xs)=some (.int .i64 xs.length))∧∀ b off len,KY Tryz.prog 65 (.own b off len)=some (.int .i64 len):=PD (by kernel_rfl:Tryz.prog.underlying 65=some (.slice 9))
theorem AX9:Tryz.prog.underlying 65=some (.slice 9):=by kernel_rfl
theorem AX0:U3 Tryz.prog 9=some 1:=by kernel_rfl
theorem A0O:ND Tryz.prog 9=some 16:=by kernel_rfl
theorem ABQ : ∀ h a i,GK Tryz.prog h 67 a i=JZ 1 h a i:=JD (by kernel_rfl:Tryz.prog.underlying 67=some (.slice 26)) AJT
theorem AOA:(∀ m k xs,KY Tryz.prog 67 (.sl m k xs)=some (.int .i64 xs.length))∧∀ b off len,KY Tryz.prog 67 (.own b off len)=some (.int .i64 len):=PD (by kernel_rfl:Tryz.prog.underlying 67=some (.slice 26))
theorem AX8:Tryz.prog.underlying 67=some (.slice 26):=by kernel_rfl
theorem A15:U3 Tryz.prog 26=some 1:=by kernel_rfl
theorem A0N:ND Tryz.prog 26=some 24:=by kernel_rfl
theorem ADZ:(∀ b i j,DV Tryz.prog 69 (.ptr b i j) 0=some (.ptr b i (j+0)))∧(∀ k xs i j,DV Tryz.prog 69 (.fptr k xs i j) 0=some (.fptr k xs i (j+0))):=KD (by kernel_rfl:MF Tryz.prog 69 0 0=true)
theorem JO:(∀ b i j,DV Tryz.prog 69 (.ptr b i j) 1=some (.ptr b i (j+1)))∧(∀ k xs i j,DV Tryz.prog 69 (.fptr k xs i j) 1=some (.fptr k xs i (j+1))):=KD (by kernel_rfl:MF Tryz.prog 69 1 1=true)
theorem SQ:(∀ b i j,DV Tryz.prog 69 (.ptr b i j) 2=some (.ptr b i (j+2)))∧(∀ k xs i j,DV Tryz.prog 69 (.fptr k xs i j) 2=some (.fptr k xs i (j+2))):=KD (by kernel_rfl:MF Tryz.prog 69 2 2=true)
theorem AVO : ∀ h a i,GK Tryz.prog h 73 a i=JZ 1 h a i:=JD (by kernel_rfl:Tryz.prog.underlying 73=some (.slice 33)) A2F
theorem AZG:(∀ m k xs,KY Tryz.prog 73 (.sl m k xs)=some (.int .i64 xs.length))∧∀ b off len,KY Tryz.prog 73 (.own b off len)=some (.int .i64 len):=PD (by kernel_rfl:Tryz.prog.underlying 73=some (.slice 33))
theorem A31:Tryz.prog.underlying 73=some (.slice 33):=by kernel_rfl
theorem A3V:U3 Tryz.prog 33=some 1:=by kernel_rfl
theorem A5J:ND Tryz.prog 33=some 24:=by kernel_rfl
theorem AIK:(∀ b i j,DV Tryz.prog 81 (.ptr b i j) 0=some (.ptr b i (j+0)))∧(∀ k xs i j,DV Tryz.prog 81 (.fptr k xs i j) 0=some (.fptr k xs i (j+0))):=KD (by kernel_rfl:MF Tryz.prog 81 0 0=true)
theorem ADY:(∀ b i j,DV Tryz.prog 81 (.ptr b i j) 1=some (.ptr b i (j+1)))∧(∀ k xs i j,DV Tryz.prog 81 (.fptr k xs i j) 1=some (.fptr k xs i (j+1))):=KD (by kernel_rfl:MF Tryz.prog 81 1 1=true)
theorem A25:(∀ b i j,DV Tryz.prog 81 (.ptr b i j) 2=some (.ptr b i (j+2)))∧(∀ k xs i j,DV Tryz.prog 81 (.fptr k xs i j) 2=some (.fptr k xs i (j+2))):=KD (by kernel_rfl:MF Tryz.prog 81 2 2=true)
theorem A24:(∀ b i j,DV Tryz.prog 81 (.ptr b i j) 3=some (.ptr b i (j+3)))∧(∀ k xs i j,DV Tryz.prog 81 (.fptr k xs i j) 3=some (.fptr k xs i (j+3))):=KD (by kernel_rfl:MF Tryz.prog 81 3 3=true)
theorem OT:(∀ b i j,DV Tryz.prog 88 (.ptr b i j) 0=some (.ptr b i (j+0)))∧(∀ k xs i j,DV Tryz.prog 88 (.fptr k xs i j) 0=some (.fptr k xs i (j+0))):=KD (by kernel_rfl:MF Tryz.prog 88 0 0=true)
theorem NU:(∀ b i j,DV Tryz.prog 88 (.ptr b i j) 1=some (.ptr b i (j+1)))∧(∀ k xs i j,DV Tryz.prog 88 (.fptr k xs i j) 1=some (.fptr k xs i (j+1))):=KD (by kernel_rfl:MF Tryz.prog 88 1 1=true)
theorem AQU:(∀ b i j,DV Tryz.prog 118 (.ptr b i j) 0=some (.ptr b i (j+0)))∧(∀ k xs i j,DV Tryz.prog 118 (.fptr k xs i j) 0=some (.fptr k xs i (j+0))):=KD (by kernel_rfl:MF Tryz.prog 118 0 0=true)
theorem AIM:(∀ b i j,DV Tryz.prog 118 (.ptr b i j) 1=some (.ptr b i (j+1)))∧(∀ k xs i j,DV Tryz.prog 118 (.fptr k xs i j) 1=some (.fptr k xs i (j+1))):=KD (by kernel_rfl:MF Tryz.prog 118 1 1=true)
theorem Y5:(∀ b i j,DV Tryz.prog 118 (.ptr b i j) 2=some (.ptr b i (j+2)))∧(∀ k xs i j,DV Tryz.prog 118 (.fptr k xs i j) 2=some (.fptr k xs i (j+2))):=KD (by kernel_rfl:MF Tryz.prog 118 2 2=true)
theorem AQT:(∀ b i j,DV Tryz.prog 118 (.ptr b i j) 3=some (.ptr b i (j+3)))∧(∀ k xs i j,DV Tryz.prog 118 (.fptr k xs i j) 3=some (.fptr k xs i (j+3))):=KD (by kernel_rfl:MF Tryz.prog 118 3 3=true)
theorem AIL:(∀ b i j,DV Tryz.prog 118 (.ptr b i j) 4=some (.ptr b i (j+4)))∧(∀ k xs i j,DV Tryz.prog 118 (.fptr k xs i j) 4=some (.fptr k xs i (j+4))):=KD (by kernel_rfl:MF Tryz.prog 118 4 4=true)
theorem AB6:(∀ b i j,DV Tryz.prog 120 (.ptr b i j) 0=some (.ptr b i (j+0)))∧(∀ k xs i j,DV Tryz.prog 120 (.fptr k xs i j) 0=some (.fptr k xs i (j+0))):=KD (by kernel_rfl:MF Tryz.prog 120 0 0=true)
theorem AZV:(∀ b i j,DV Tryz.prog 184 (.ptr b i j) 0=some (.ptr b i (j+0)))∧(∀ k xs i j,DV Tryz.prog 184 (.fptr k xs i j) 0=some (.fptr k xs i (j+0))):=KD (by kernel_rfl:MF Tryz.prog 184 0 0=true)
theorem AQS:(∀ b i j,DV Tryz.prog 184 (.ptr b i j) 1=some (.ptr b i (j+1)))∧(∀ k xs i j,DV Tryz.prog 184 (.fptr k xs i j) 1=some (.fptr k xs i (j+1))):=KD (by kernel_rfl:MF Tryz.prog 184 1 1=true)
theorem AZU:(∀ b i j,DV Tryz.prog 205 (.ptr b i j) 0=some (.ptr b i (j+0)))∧(∀ k xs i j,DV Tryz.prog 205 (.fptr k xs i j) 0=some (.fptr k xs i (j+0))):=KD (by kernel_rfl:MF Tryz.prog 205 0 0=true)
theorem A5E : ∀ n,V4 Tryz.prog 3 5 (.int .i64 n)=some (.int .u8 (IntKind.u8.wrap n)):=fun n=>ZB (ds := .int .i64) Tryz.prog .i64 n (by kernel_rfl) (by kernel_rfl)
theorem AZ4 : ∀ n,V4 Tryz.prog 3 247 (.int .i64 n)=some (.int .u16 (IntKind.u16.wrap n)):=fun n=>ZB (ds := .int .i64) Tryz.prog .i64 n (by kernel_rfl) (by kernel_rfl)
theorem AWI : ∀ n,V4 Tryz.prog 5 3 (.int .u8 n)=some (.int .i64 (IntKind.i64.wrap n)):=fun n=>ZB (ds := .int .u8) Tryz.prog .u8 n (by kernel_rfl) (by kernel_rfl)
theorem AZ5 : ∀ n,V4 Tryz.prog 247 3 (.int .u16 n)=some (.int .i64 (IntKind.i64.wrap n)):=fun n=>ZB (ds := .int .u16) Tryz.prog .u16 n (by kernel_rfl) (by kernel_rfl)
noncomputable def En (G:Nat→AV):Env:=⟨Tryz.prog,G,none⟩
theorem enP (G:Nat→AV):(En G).P=Tryz.prog:=rfl
theorem enG (G:Nat→AV):(En G).G=G:=rfl
theorem enM (G:Nat→AV):(En G).P.follows .mixedOrders=true:=by kernel_rfl
theorem acN {G:Nat→AV}{f:FuncId}{fn:Func}{c:Code}{args:List AV}{h:Hp}{R:AV→Hp→Prop}(hf:(En G).P.funcs[f]? = some fn)(hb:fn.body=some c)(hw:awp (En G) Hint.none c (OQ args) h (EJ (En G).P fn.results.toList R))(h1:(fn.name == "runtime.NumGoroutine")=false:=by kernel_rfl) (h2:RY fn.ntmps c=true:=by kernel_rfl) (h3:Nat.ble args.length fn.ntmps=true:=by kernel_rfl):ACalls (En G) f args h R:=KW (enM G) hf hb h1 h2 (Nat.le_of_ble_eq_true h3) hw
end Go.Proofs.YtfpagfhhhlljjaaGreatDoor.Sm
namespace Go.Proofs.YtfpagfhhhlljjaaGreatDoor.Bins
open Sm
structure Rng where
 lo:Int
 hi:Int
 deriving DecidableEq
def encR (r:Rng):List AV := [.int .i64 r.lo,.int .i64 r.hi]
theorem Y9 (r:Rng):(encR r).length=2:=rfl
theorem P7 (r:Rng):(encR r)[0]? = some (.int .i64 r.lo):=rfl
theorem O5 (r:Rng):(encR r)[1]? = some (.int .i64 r.hi):=rfl
def inside (xs:List Rng)(v:Int):Bool:=xs.any fun r=>decide (r.lo≤v) && decide (v≤r.hi)
theorem LU {α:Type}(p:α→Bool)(xs:List α)(k:Nat)(h:k < xs.length):(xs.drop k).any p=(p xs[k] || (xs.drop (k+1)).any p):=by
 rw[List.drop_eq_getElem_cons h,List.any_cons]
theorem bxR (h:Hp)(r:Rng):O1 h (.agg (encR r))=some (.ptr h.length 0 0,h++[.live 2 [encR r]]):=rfl
end Go.Proofs.YtfpagfhhhlljjaaGreatDoor.Bins
set_option linter.unusedSimpArgs false
set_option maxRecDepth 8000
namespace Go.Proofs.YtfpagfhhhlljjaaGreatDoor.Bins
open Sm
open Bool renaming not_false→jC,eq_iff_iff→qU,and_eq_true→jX
open List renaming length_map→jH,append_assoc→zD,drop_eq_nil_of_le→jZ,map_cons→jD,map_nil→jE,findIdx?_eq_some_iff_getElem→qZ,all_eq_true→zH,take_succ_eq_append_getElem→zL,all_cons→wG,take_of_length_le→jU,findIdx?_eq_none_iff→wC,append_nil→jF,any_eq_true→zY,any_eq_false→wQ,getElem?_cons_zero→zM
open Nat renaming le_of_ble_eq_true→jI,reduceEqDiff→jB,add_zero→jM,zero_add→jG,reduceAdd→jP,lt_or_ge→zG,eq_zero_or_pos→wH
open Option renaming getD_some→jA
def bad (r:Rng):Bool:=decide (r.lo < 0) || decide (r.lo > r.hi) || decide (r.hi > 65535)
def JQ (xs:List Rng):Int:=if xs.length > 64 then 2 else if xs.any bad then 1 else 0
theorem AA4 {xs:List Rng}(h:xs.length > 64):JQ xs=2:=by simp [JQ,h]
theorem VJ {xs:List Rng}(h : ¬ xs.length > 64)(hb:xs.any bad=true):JQ xs=1:=by simp [JQ,h,hb]
theorem XN {xs:List Rng}(h : ¬ xs.length > 64)(hb:xs.any bad=false):JQ xs=0:=by simp [JQ,h,hb]
theorem ATS (h:Hp):KG Tryz.prog h 88=some (.ptr h.length 0 0,h++[.live 2 [[.int .i64 0,.int .i64 0]]]):=J4 (row := [.int .i64 0,.int .i64 0]) (by kernel_rfl)
theorem ARJ (h:Hp)(r:Rng)(row:List AV)(hr:row.length=2):FP Tryz.prog (h++[.live 2 [row]]) 88 (.ptr h.length 0 0) (.agg (encR r))=some (h++[.live 2 [encR r]]):=by
 rw[NZ (cs:=encR r) rfl NG (by simp [hr,encR])]
 simp [splice,hr,encR]
theorem AKH (G:Nat→AV)(xs:List Rng)(m:SM)(h:Hp)(hl:xs.length≤1099511627776) :
  PCall (En G) 133 [.sl m 2 (xs.map encR)] h (.int .i64 (JQ xs)):=by
 refine ACalls.pure0 rfl ?_
 refine acN Tryz.func133 rfl ?_
 show awp _ _ _ _ _ (EJ _ [.tmp 2] _)
 simp -implicitDefEqProofs only[vQ,BD,↓reduceIte,jB,enP,L8,jH]
 refine CU (fun hc => ?_) (fun hc => ?_)
 ·simp -implicitDefEqProofs only[vQ,BD,↓reduceIte]
  exact⟨by rw[AA4 (by simp at hc; omega)],[],by simp⟩
 simp -implicitDefEqProofs only[vQ,BD,↓reduceIte,jB,enP,L8,jH]
 have h64 : ¬ xs.length > 64:=by simp at hc; omega
 refine DK (fun n F H => ∃ k,n+k=xs.length∧F 8 = .sl m 2 (xs.map encR)∧F 9 = .int .i64 xs.length∧F 10 = .int .i64 (k:Nat)∧(∃ x,H=h++x)∧xs.any bad=(xs.drop k).any bad) xs.length ⟨0,by simp,rfl,rfl,rfl,⟨[],by simp⟩,rfl⟩ ?_
 rintro n F H ⟨k,hk,f8,f9,f10,⟨x,rfl⟩,hin⟩
 simp -implicitDefEqProofs only[vQ,BD,↓reduceIte,enP,f8,f9,f10]
 refine CU (fun hc => ?_) (fun hc => ?_)
 ·have hc':k < xs.length:=by simpa using hc
  have hs:=LU bad xs k hc'
  simp -implicitDefEqProofs only[vQ,CO,BD,↓reduceIte,jB,enP,TF,OT,Option.getD_none,f8,f9,f10,DL hc',FM AEX NG Y9 hc',ATS,ARJ _ _ [.int .i64 0,.int .i64 0] rfl,DF ag3,P7,O5]
  rw[hs] at hin
  have fin:bad xs[k]=true→JQ xs=1:=fun hb=>VJ h64 (by rw[hin,hb]; rfl)
  have nxt:bad xs[k]=false→xs.any bad=(xs.drop (k+1)).any bad:=fun hb=>by rw[hin,hb]; rfl
  refine IQ (fun ha => ?_) (fun ha => ?_)
  ·simp -implicitDefEqProofs only[vQ,CO,BD,EY,↓reduceIte,jB,ha]
   exact⟨by rw[fin (by unfold bad; rw[ha]; rfl)],_,by rw[zD]⟩
  simp -implicitDefEqProofs only[vQ,CO,BD,↓reduceIte,jB,enP,OT,NU,ha,DF ag3,P7,O5]
  refine IQ (fun hb => ?_) (fun hb => ?_)
  ·simp -implicitDefEqProofs only[vQ,CO,BD,EY,↓reduceIte,jB,hb]
   exact⟨by rw[fin (by unfold bad; rw[hb]; simp)],_,by rw[zD]⟩
  simp -implicitDefEqProofs only[vQ,CO,BD,↓reduceIte,jB,enP,NU,hb,DF ag3,P7,O5]
  refine CU (fun hc => ?_) (fun hc => ?_)
  ·simp -implicitDefEqProofs only[vQ,BD,↓reduceIte]
   exact⟨by rw[fin (by unfold bad; rw[hc]; simp)],_,by rw[zD]⟩
  ·simp -implicitDefEqProofs only[vQ,BD,↓reduceIte,jB,enP,f10,wrap_succ (show k < 9223372036854775807 by omega)]
   exact⟨n - 1,by omega,k+1,by omega,f8,f9,rfl,⟨_,by rw[zD]⟩,nxt (by unfold bad; rw[ha,hb,hc]; rfl)⟩
 ·have hc' : ¬ k < xs.length:=by simpa using hc
  simp -implicitDefEqProofs only[vQ,BD,↓reduceIte]
  rw[jZ (by omega)] at hin
  exact⟨by rw[XN h64 hin],_,rfl⟩
theorem ANU (G:Nat→AV)(xs:List Rng)(m:SM)(h:Hp) :
  PCall (En G) 139 [.sl m 2 (xs.map encR)] h (.int .i64 (JQ xs)):=by
 refine acN Tryz.func139 rfl ?_
 show awp _ _ _ _ _ (EJ _ [.tmp 2] _)
 simp -implicitDefEqProofs only[vQ,BD,↓reduceIte,jB,enP,L8,jH]
 refine CU (fun hc => ?_) (fun hc => ?_)
 ·simp -implicitDefEqProofs only[vQ,BD,↓reduceIte]
  exact⟨by rw[AA4 (by simp at hc; omega)],trivial⟩
 simp -implicitDefEqProofs only[vQ,BD,jH]
 have h64 : ¬ xs.length > 64:=by simp at hc; omega
 refine DK (fun n F H => ∃ k,n+k=xs.length∧F 0 = .sl m 2 (xs.map encR)∧F 3 = .int .i64 (k:Nat)∧H=h∧xs.any bad=(xs.drop k).any bad) xs.length ⟨0,by simp,rfl,rfl,rfl,rfl⟩ ?_
 rintro n F H ⟨k,hk,f0,f3,rfl,hin⟩
 simp -implicitDefEqProofs only[vQ,BD,↓reduceIte,jB,enP,L8,f0,f3,jH]
 refine CU (fun hc => ?_) (fun hc => ?_)
 ·have hc':k < xs.length:=by simpa using hc
  rw[LU bad xs k hc'] at hin
  have fin:bad xs[k]=true→JQ xs=1:=fun hb=>VJ h64 (by rw[hin,hb]; rfl)
  have nxt:bad xs[k]=false→xs.any bad=(xs.drop (k+1)).any bad:=fun hb=>by rw[hin,hb]; rfl
  simp -implicitDefEqProofs only[vQ]
  refine ET (by kernel_rfl) ?_
  simp -implicitDefEqProofs only[vQ,CO,↓reduceIte,jB,jP,enP,TF,OT,f0,f3,DL hc',C9 ag3 hc',P7,O5]
  refine AE5 (fun ha => ?_) (fun ha => ?_)
  ·simp -implicitDefEqProofs only[vQ,ZK,CO,BD,EY,↓reduceIte,jB,jP,ha]
   exact⟨by rw[fin (by unfold bad; rw[ha]; rfl)],trivial⟩
  simp -implicitDefEqProofs only[vQ,TS,CO,↓reduceIte,jB,jP,enP,TF,OT,NU,ha,f0,f3,DL hc',C9 ag3 hc',P7,O5]
  refine AE5 (fun hb => ?_) (fun hb => ?_)
  ·simp -implicitDefEqProofs only[vQ,ZK,CO,BD,EY,↓reduceIte,jB,jP,hb]
   exact⟨by rw[fin (by unfold bad; rw[hb]; simp)],trivial⟩
  simp -implicitDefEqProofs only[vQ,TS,CO,↓reduceIte,jB,jP,enP,TF,NU,hb,f0,f3,DL hc',C9 ag3 hc',P7,O5]
  refine CU (fun hc => ?_) (fun hc => ?_)
  ·simp -implicitDefEqProofs only[vQ,BD,↓reduceIte]
   exact⟨by rw[fin (by unfold bad; rw[hc]; simp)],trivial⟩
  ·simp -implicitDefEqProofs only[vQ,BD,↓reduceIte,jB,enP,f3,wrap_succ (show k < 9223372036854775807 by omega)]
   exact⟨n - 1,by omega,k+1,by omega,f0,rfl,trivial,nxt (by unfold bad; rw[ha,hb,hc]; rfl)⟩
 ·have hc' : ¬ k < xs.length:=by simpa using hc
  simp -implicitDefEqProofs only[vQ,BD,↓reduceIte]
  rw[jZ (by omega)] at hin
  exact⟨by rw[XN h64 hin],trivial⟩
structure Rs where
 m:SM
 l:List Rng
def AV9 (r:Rs):AV := .sl r.m 2 (r.l.map encR)
def encS (r:Rs):List AV := [AV9 r]
structure Bin where
 name:ByteArray
 kind:Int
 ranges:Rs
 sm:SM
 steps:List Rs
def GR (b:Bin):List AV := [.str b.name,.int .i64 b.kind,AV9 b.ranges,.sl b.sm 1 (b.steps.map encS)]
theorem AL5 (b:Bin):(GR b)[0]? = some (.str b.name):=rfl
theorem QZ (b:Bin):(GR b)[1]? = some (.int .i64 b.kind):=rfl
theorem VX (b:Bin):(GR b)[2]? = some (.sl b.ranges.m 2 (b.ranges.l.map encR)):=rfl
theorem P8 (b:Bin):(GR b)[3]? = some (.sl b.sm 1 (b.steps.map encS)):=rfl
theorem LP (b:Bin):(GR b).length=4:=rfl
theorem Y8 (r:Rs):(encS r)[0]? = some (.sl r.m 2 (r.l.map encR)):=rfl
theorem bxB (h:Hp)(b:Bin):O1 h (.agg (GR b))=some (.ptr h.length 0 0,h++[.live 4 [GR b]]):=rfl
theorem ldB (h:Hp)(b:Bin):D5 Tryz.prog (h++[.live 4 [GR b]]) 56 (.ptr h.length 0 0)=some (.agg (GR b)):=TE ABV XF (by simp [GR])
def UT (b:Bin):SM:=if b.ranges.l.length > 0 then .full else b.sm
def sets (b:Bin):List Rs:=if b.ranges.l.length > 0 then [b.ranges] else b.steps
theorem A5P (h:Hp)(r:Rs):EQ Tryz.prog false h 54 1 [(0,.sl r.m 2 (r.l.map encR))]=some (.sl .full 1 ([r].map encS),h):=by
 have:(ACP 1 0 [(0,AV.sl r.m 2 (r.l.map encR))])=some [[.sl r.m 2 (r.l.map encR)]]:=rfl
 simp only[EQ,Tryz.underlying54,A33,this]
 have hz:U3 Tryz.prog 53=some 1:=by kernel_rfl
 simp [hz,AV.frozen,encS,AV9]
theorem AGB (G:Nat→AV)(b:Bin)(h:Hp):PCall (En G) 132 [.agg (GR b)] h (.sl (UT b) 1 ((sets b).map encS)):=by
 refine ACalls.pure0 rfl ?_
 refine acN Tryz.func132 rfl ?_
 show awp _ _ _ _ _ (EJ _ [.tmp 2] _)
 simp -implicitDefEqProofs only[vQ,BD,↓reduceIte,jB,enP,L8,OU,bxB,DF RF,VX,jH]
 refine CU (fun hc => ?_) (fun hc => ?_)
 ·have hc':b.ranges.l.length > 0:=by simpa using hc
  simp -implicitDefEqProofs only[vQ,BD,↓reduceIte,jB,enP,OU,DF RF,VX,A5P]
  exact⟨by rw[UT,sets,if_pos hc',if_pos hc']; rfl,_,rfl⟩
 ·have hc' : ¬ b.ranges.l.length > 0:=by simpa using hc
  simp -implicitDefEqProofs only[vQ,BD,↓reduceIte,jB,enP,MB,DF WM,P8]
  exact⟨by rw[UT,sets,if_neg hc',if_neg hc'],_,rfl⟩
theorem AUL (G:Nat→AV)(b:Bin)(h:Hp):PCall (En G) 138 [.agg (GR b)] h (.sl (UT b) 1 ((sets b).map encS)):=by
 refine ACalls.pure0 rfl ?_
 refine acN Tryz.func138 rfl ?_
 show awp _ _ _ _ _ (EJ _ [.tmp 2] _)
 simp -implicitDefEqProofs only[vQ,BD,↓reduceIte,jB,enP,L8,OU,bxB,DF RF,VX,jH]
 refine CU (fun hc => ?_) (fun hc => ?_)
 ·have hc':b.ranges.l.length > 0:=by simpa using hc
  simp -implicitDefEqProofs only[vQ,BD,↓reduceIte,jB,enP,OU,DF RF,VX,A5P]
  exact⟨by rw[UT,sets,if_pos hc',if_pos hc']; rfl,_,rfl⟩
 ·have hc' : ¬ b.ranges.l.length > 0:=by simpa using hc
  simp -implicitDefEqProofs only[vQ,BD,↓reduceIte,jB,enP,MB,DF WM,P8]
  exact⟨by rw[UT,sets,if_neg hc',if_neg hc'],_,rfl⟩
theorem A4O (m:SM)(k:Nat)(xs:List (List AV)):J7 Tryz.prog 53 .eql (.sl m k xs) (.sl .nil 0 [])=some (.bool (decide (m = .nil))):=by cases m <;> kernel_rfl
theorem A4N (m:SM)(k:Nat)(xs:List (List AV)):J7 Tryz.prog 26 .eql (.sl m k xs) (.sl .nil 0 [])=some (.bool (decide (m = .nil))):=by cases m <;> kernel_rfl
def AOZ (k:Nat)(xs:List (List AV))(h:Hp)(v:AV)(h':Hp):Prop :=
 (xs = []∧(∃ k0,v = .sl .nil k0 [])∧h'=h)∨(xs = []∧v = .sl .full k []∧h'=h)∨(xs≠[]∧v = .own h.length 0 xs.length∧h'=h++[.live k xs])
theorem AWZ (h:Hp):EQ Tryz.prog false h 53 0 []=some (.sl .full 2 [],h):=by kernel_rfl
theorem AWY (h:Hp):EQ Tryz.prog false h 26 0 []=some (.sl .full 1 [],h):=by kernel_rfl
theorem cok (f:FuncId)(G:Nat→AV)(hf:(match Tryz.prog.funcs[f]? with | some fn=>fn.body.isSome && !(fn.name == "runtime.NumGoroutine") | none=>false)=true):X9 (En G).P f:=by
 have he:(En G).P=Tryz.prog:=rfl
 unfold X9
 rw[he]
 cases hx:Tryz.prog.funcs[f]? with
 | none=>rw[hx] at hf; cases hf
 | some fn =>
   rw[hx] at hf
   simp at hf
   exact⟨fn,rfl,by simpa using hf.1,by simpa using hf.2⟩
def qencI (n:Int):List AV := [.int .i64 n]
theorem encI0 (n:Int):(qencI n)[0]? = some (.int .i64 n):=rfl
theorem AWD (G:Nat→AV)(r:Rs)(h:Hp):PCall (En G) 176 [.sl r.m 2 (r.l.map encR)] h (.bool (decide (r.l.length=0))):=by
 refine acN Tryz.func176 rfl ?_
 show awp _ _ _ _ _ (EJ _ [.tmp 2] _)
 simp -implicitDefEqProofs only[vQ,BD,↓reduceIte,jB,enP,L8,jH]
 refine⟨?_,trivial⟩
 congr 1
 rw[qU]; simp
theorem ALI (G:Nat→AV)(xs:List Rs)(m:SM)(fid:FuncId)(caps:List AV)(p:Rs→Bool)(h:Hp)(hl:xs.length≤1099511627776)
  (hf : ∀ r,PCall (En G) fid (.sl r.m 2 (r.l.map encR) :: caps) h (.bool (p r))) :
  PCall (En G) 203 [.sl m 1 (xs.map encS),.fn (.func fid) [] caps] h (.int .i64 (match xs.findIdx? p with | some i=>(i:Int) | none => -1)):=by
 refine acN Tryz.func203 rfl ?_
 show awp _ _ _ _ _ (EJ _ [.tmp 4] _)
 simp -implicitDefEqProofs only[vQ,BD,↓reduceIte,jB,enP,UH,jH]
 refine DK (fun n F H => ∃ k,n+k=xs.length∧F 0 = .sl m 1 (xs.map encS)∧F 1 = .fn (.func fid) [] caps∧F 7 = .int .i64 xs.length∧F 8 = .int .i64 (k:Nat)∧H=h∧(xs.take k).all (fun r => !p r)=true) xs.length ⟨0,by simp,rfl,rfl,rfl,rfl,rfl,rfl⟩ ?_
 rintro n F H ⟨k,hk,f0,f1,f7,f8,rfl,hin⟩
 simp -implicitDefEqProofs only[vQ,BD,↓reduceIte,enP,f0,f1,f7,f8,jH]
 refine CU (fun hc => ?_) (fun hc => ?_)
 ·have hc':k < xs.length:=by simpa using hc
  simp -implicitDefEqProofs only[vQ,BD,List.nil_append,List.cons_append,↓reduceIte,jB,enP,AIB,f0,f1,f7,f8,DL hc',C9 RF hc',Y8]
  refine(hf _).use ?_
  simp -implicitDefEqProofs only[vQ,↓reduceIte]
  refine CU (fun hb => ?_) (fun hb => ?_)
  ·simp -implicitDefEqProofs only[vQ,BD,↓reduceIte,jB]
   refine⟨?_,trivial⟩
   rw[qZ.2 ⟨hc',hb,fun j hj=>by
    rw[zH] at hin
    have:=hin xs[j] (by rw[List.mem_take_iff_getElem]; exact⟨j,by omega,rfl⟩)
    simpa using this⟩]
  ·simp -implicitDefEqProofs only[vQ,BD,↓reduceIte,jB,enP,f8,wrap_succ (show k < 9223372036854775807 by omega)]
   refine⟨n - 1,by omega,k+1,by omega,f0,f1,f7,rfl,trivial,?_⟩
   rw[zL hc',List.all_append,hin]
   simp only[wG,List.all_nil,hb]; rfl
 ·have hc' : ¬ k < xs.length:=by simpa using hc
  simp -implicitDefEqProofs only[vQ,BD,↓reduceIte]
  refine⟨?_,trivial⟩
  rw[jU (by omega)] at hin
  rw[wC.2 (by simpa using hin)]
theorem AEC (G:Nat→AV)(xs:List Rs)(m:SM)(fid:FuncId)(caps:List AV)(p:Rs→Bool)(h:Hp)(hl:xs.length≤1099511627776)
  (hf : ∀ r,PCall (En G) fid (.sl r.m 2 (r.l.map encR) :: caps) h (.bool (p r))) :
  PCall (En G) 175 [.sl m 1 (xs.map encS),.fn (.func fid) [] caps] h (.bool (xs.any p)):=by
 refine acN Tryz.func175 rfl ?_
 show awp _ _ _ _ _ (EJ _ [.tmp 4] _)
 simp -implicitDefEqProofs only[vQ,BD,↓reduceIte,jB,enP]
 refine(ALI G xs m fid caps p h hl hf).use ?_
 simp -implicitDefEqProofs only[vQ,BD,↓reduceIte,enP]
 refine⟨?_,trivial⟩
 cases hx:xs.findIdx? p with
 | some i =>
   obtain⟨h1,h2,_⟩:=qZ.1 hx
   have:xs.any p=true:=zY.2 ⟨xs[i],by simp,h2⟩
   simp [this]
 | none =>
   have:xs.any p=false:=by
    rw[wC] at hx
    rw[wQ]; intro x hx2; simp [hx x hx2]
   simp [this]
def RD (n:Int):Bool:=decide (n≥97) && decide (n≤122)
def AL9 (n:Int):Bool:=decide (n≥48) && decide (n≤57)
def NQ (n:Int):Bool:=RD n || AL9 n || (decide (n≥65) && decide (n≤90)) || n == 95
theorem AC8 (G:Nat→AV)(n:Int)(h:Hp):PCall (En G) 172 [.int .i32 n] h (.bool (RD n)):=by
 refine acN Tryz.func172 rfl ?_
 show awp _ _ _ _ _ (EJ _ [.tmp 2] _)
 simp -implicitDefEqProofs only[vQ,CO,BD,↓reduceIte,jB,enP]
 refine IQ (fun ha => ?_) (fun ha => ?_)
 ·simp -implicitDefEqProofs only[vQ,CO,BD,↓reduceIte,jB,enP,ha]
  exact⟨by unfold RD; rw[ha]; rfl,trivial⟩
 ·simp -implicitDefEqProofs only[vQ,CO,BD,EY,↓reduceIte,jB,ha]
  exact⟨by unfold RD; rw[ha]; rfl,trivial⟩
theorem AOS (G:Nat→AV)(n:Int)(h:Hp):PCall (En G) 201 [.int .i32 n] h (.bool (AL9 n)):=by
 refine acN Tryz.func201 rfl ?_
 show awp _ _ _ _ _ (EJ _ [.tmp 2] _)
 simp -implicitDefEqProofs only[vQ,CO,BD,↓reduceIte,jB,enP]
 refine IQ (fun ha => ?_) (fun ha => ?_)
 ·simp -implicitDefEqProofs only[vQ,CO,BD,↓reduceIte,jB,enP,ha]
  exact⟨by unfold AL9; rw[ha]; rfl,trivial⟩
 ·simp -implicitDefEqProofs only[vQ,CO,BD,EY,↓reduceIte,jB,ha]
  exact⟨by unfold AL9; rw[ha]; rfl,trivial⟩
theorem AGA (G:Nat→AV)(n:Int)(h:Hp):PCall (En G) 135 [.int .u8 n] h (.bool (RD n)):=by
 refine acN Tryz.func135 rfl ?_
 show awp _ _ _ _ _ (EJ _ [.tmp 2] _)
 simp -implicitDefEqProofs only[vQ,CO,BD,↓reduceIte,jB,enP]
 refine IQ (fun ha => ?_) (fun ha => ?_)
 ·simp -implicitDefEqProofs only[vQ,CO,BD,↓reduceIte,jB,enP,ha]
  exact⟨by unfold RD; rw[ha]; rfl,trivial⟩
 ·simp -implicitDefEqProofs only[vQ,CO,BD,EY,↓reduceIte,jB,ha]
  exact⟨by unfold RD; rw[ha]; rfl,trivial⟩
theorem AS7 (G:Nat→AV)(n:Int)(h:Hp):PCall (En G) 179 [.int .u8 n] h (.bool (AL9 n)):=by
 refine acN Tryz.func179 rfl ?_
 show awp _ _ _ _ _ (EJ _ [.tmp 2] _)
 simp -implicitDefEqProofs only[vQ,CO,BD,↓reduceIte,jB,enP]
 refine IQ (fun ha => ?_) (fun ha => ?_)
 ·simp -implicitDefEqProofs only[vQ,CO,BD,↓reduceIte,jB,enP,ha]
  exact⟨by unfold AL9; rw[ha]; rfl,trivial⟩
 ·simp -implicitDefEqProofs only[vQ,CO,BD,EY,↓reduceIte,jB,ha]
  exact⟨by unfold AL9; rw[ha]; rfl,trivial⟩
theorem Y2 (G:Nat→AV)(n:Int)(h:Hp):PCall (En G) 173 [.int .i32 n] h (.bool (NQ n)):=by
 refine acN Tryz.func173 rfl ?_
 show awp _ _ _ _ _ (EJ _ [.tmp 2] _)
 simp -implicitDefEqProofs only[vQ,BD,↓reduceIte,jB,enP]
 refine(AC8 G n h).use ?_
 simp -implicitDefEqProofs only[vQ,CO,BD,↓reduceIte]
 refine IQ (fun ha => ?_) (fun ha => ?_)
 ·simp -implicitDefEqProofs only[vQ,CO,BD,EY,↓reduceIte,jB,ha]
  exact⟨by unfold NQ; rw[ha]; rfl,trivial⟩
 simp -implicitDefEqProofs only[vQ,CO,BD,↓reduceIte,jB,ha]
 refine(AOS G n h).use ?_
 simp -implicitDefEqProofs only[vQ,CO,BD,↓reduceIte,jB]
 refine IQ (fun hb => ?_) (fun hb => ?_)
 ·simp -implicitDefEqProofs only[vQ,CO,BD,EY,↓reduceIte,jB,hb]
  exact⟨by unfold NQ; rw[ha,hb]; rfl,trivial⟩
 simp -implicitDefEqProofs only[vQ,CO,BD,↓reduceIte,jB,enP,hb]
 refine IQ (fun hc => ?_) (fun hc => ?_)
 ·simp -implicitDefEqProofs only[vQ,CO,BD,↓reduceIte,jB,enP,hc]
  refine IQ (fun hd => ?_) (fun hd => ?_)
  ·simp -implicitDefEqProofs only[vQ,CO,BD,EY,↓reduceIte,jB,hd]
   exact⟨by unfold NQ; rw[ha,hb,hc,hd]; rfl,trivial⟩
  ·simp -implicitDefEqProofs only[vQ,CO,BD,↓reduceIte,jB,enP,hd]
   exact⟨by unfold NQ; rw[ha,hb,hc,hd]; rfl,trivial⟩
 ·simp -implicitDefEqProofs only[vQ,CO,BD,EY,↓reduceIte,jB,enP,hc]
  exact⟨by unfold NQ; rw[ha,hb,hc]; rfl,trivial⟩
theorem ASP (G:Nat→AV)(n:Int)(h:Hp):PCall (En G) 137 [.int .u8 n] h (.bool (NQ n)):=by
 refine acN Tryz.func137 rfl ?_
 show awp _ _ _ _ _ (EJ _ [.tmp 2] _)
 simp -implicitDefEqProofs only[vQ,BD,↓reduceIte,jB,enP]
 refine(AGA G n h).use ?_
 simp -implicitDefEqProofs only[vQ,CO,BD,↓reduceIte]
 refine IQ (fun ha => ?_) (fun ha => ?_)
 ·simp -implicitDefEqProofs only[vQ,CO,BD,EY,↓reduceIte,jB,ha]
  exact⟨by unfold NQ; rw[ha]; rfl,trivial⟩
 simp -implicitDefEqProofs only[vQ,CO,BD,↓reduceIte,jB,ha]
 refine(AS7 G n h).use ?_
 simp -implicitDefEqProofs only[vQ,CO,BD,↓reduceIte,jB]
 refine IQ (fun hb => ?_) (fun hb => ?_)
 ·simp -implicitDefEqProofs only[vQ,CO,BD,EY,↓reduceIte,jB,hb]
  exact⟨by unfold NQ; rw[ha,hb]; rfl,trivial⟩
 simp -implicitDefEqProofs only[vQ,CO,BD,↓reduceIte,jB,enP,hb]
 refine IQ (fun hc => ?_) (fun hc => ?_)
 ·simp -implicitDefEqProofs only[vQ,CO,BD,↓reduceIte,jB,enP,hc]
  refine IQ (fun hd => ?_) (fun hd => ?_)
  ·simp -implicitDefEqProofs only[vQ,CO,BD,EY,↓reduceIte,jB,hd]
   exact⟨by unfold NQ; rw[ha,hb,hc,hd]; rfl,trivial⟩
  ·simp -implicitDefEqProofs only[vQ,CO,BD,↓reduceIte,jB,enP,hd]
   exact⟨by unfold NQ; rw[ha,hb,hc,hd]; rfl,trivial⟩
 ·simp -implicitDefEqProofs only[vQ,CO,BD,EY,↓reduceIte,jB,enP,hc]
  exact⟨by unfold NQ; rw[ha,hb,hc]; rfl,trivial⟩
def encStr (s:ByteArray):List AV := [.str s]
theorem encStr0 (s:ByteArray):(encStr s)[0]? = some (.str s):=rfl
def IZ (xs:List ByteArray)(v:ByteArray):Bool:=xs.any fun u=>v.toList == u.toList
theorem AZN (G:Nat→AV)(xs:List ByteArray)(m:SM)(v:ByteArray)(h:Hp)(hl:xs.length≤1099511627776) :
  PCall (En G) 177 [.sl m 1 (xs.map encStr),.str v] h (.bool (IZ xs v)):=by
 refine acN Tryz.func177 rfl ?_
 show awp _ _ _ _ _ (EJ _ [.tmp 4] _)
 simp -implicitDefEqProofs only[vQ,BD,enP]
 refine DK (fun n F H => ∃ k,n+k=xs.length∧F 0 = .sl m 1 (xs.map encStr)∧F 1 = .str v∧F 5 = .int .i64 (k:Nat)∧H=h∧IZ xs v=IZ (xs.drop k) v) xs.length ⟨0,by simp,rfl,rfl,rfl,rfl,rfl⟩ ?_
 rintro n F H ⟨k,hk,f0,f1,f5,rfl,hin⟩
 simp -implicitDefEqProofs only[vQ,BD,↓reduceIte,jB,enP,AK8,f0,f1,f5,jH]
 refine CU (fun hc => ?_) (fun hc => ?_)
 ·have hc':k < xs.length:=by simpa using hc
  have hs:IZ (xs.drop k) v=((v.toList == xs[k].toList) || IZ (xs.drop (k+1)) v):=LU _ xs k hc'
  simp -implicitDefEqProofs only[vQ,BD,LQ,↓reduceIte,jB,enP,ASJ,f0,f1,f5,DL hc',C9 ag9 hc',encStr0]
  refine CU (fun hb => ?_) (fun hb => ?_)
  ·simp -implicitDefEqProofs only[vQ,BD,↓reduceIte]
   refine⟨?_,trivial⟩
   rw[hin,hs,show(v.toList == xs[k].toList)=true by rw[BEq.comm]; exact hb]; rfl
  ·simp -implicitDefEqProofs only[vQ,BD,↓reduceIte,jB,enP,f5,wrap_succ (show k < 9223372036854775807 by omega)]
   refine⟨n - 1,by omega,k+1,by omega,f0,f1,rfl,trivial,?_⟩
   rw[hin,hs,show(v.toList == xs[k].toList)=false by rw[BEq.comm]; exact hb]; rfl
 ·have hc' : ¬ k < xs.length:=by simpa using hc
  simp -implicitDefEqProofs only[vQ,BD,↓reduceIte]
  exact⟨by rw[hin,jZ (by omega)]; rfl,trivial⟩
theorem AOG (G:Nat→AV)(xs:List ByteArray)(m:SM)(v:ByteArray)(h:Hp)(hl:xs.length≤1099511627776) :
  ∃ i:Int,(decide (i≥0)=IZ xs v)∧PCall (En G) 202 [.sl m 1 (xs.map encStr),.str v] h (.int .i64 i):=by
 refine⟨(match xs.findIdx? (fun u=>v.toList == u.toList) with | some i=>(i:Int) | none => -1),?_,?_⟩
 ·cases hx:xs.findIdx? (fun u=>v.toList == u.toList) with
  | some i =>
    obtain⟨h1,h2,_⟩:=qZ.1 hx
    have:IZ xs v=true:=zY.2 ⟨xs[i],by simp,h2⟩
    simp [this]
  | none =>
    have:IZ xs v=false:=by
     rw[wC] at hx
     unfold IZ
     rw[wQ]; intro x hx2; simp only[hx x hx2]; simp
    simp [this]
 refine acN Tryz.func202 rfl ?_
 show awp _ _ _ _ _ (EJ _ [.tmp 4] _)
 simp -implicitDefEqProofs only[vQ,BD,↓reduceIte,jB,enP,AK8,jH]
 refine DK (fun n F H => ∃ k,n+k=xs.length∧F 0 = .sl m 1 (xs.map encStr)∧F 1 = .str v∧F 7 = .int .i64 xs.length∧F 8 = .int .i64 (k:Nat)∧H=h∧(xs.take k).all (fun u => !(v.toList == u.toList))=true) xs.length ⟨0,by simp,rfl,rfl,rfl,rfl,rfl,rfl⟩ ?_
 rintro n F H ⟨k,hk,f0,f1,f7,f8,rfl,hin⟩
 simp -implicitDefEqProofs only[vQ,BD,↓reduceIte,enP,f0,f1,f7,f8,jH]
 refine CU (fun hc => ?_) (fun hc => ?_)
 ·have hc':k < xs.length:=by simpa using hc
  simp -implicitDefEqProofs only[vQ,BD,LQ,↓reduceIte,jB,enP,ASJ,f0,f1,f7,f8,DL hc',C9 ag9 hc',encStr0]
  refine CU (fun hb => ?_) (fun hb => ?_)
  ·simp -implicitDefEqProofs only[vQ,BD,↓reduceIte,jB]
   refine⟨?_,trivial⟩
   rw[qZ.2 ⟨hc',hb,fun j hj=>by
    rw[zH] at hin
    have:=hin xs[j] (by rw[List.mem_take_iff_getElem]; exact⟨j,by omega,rfl⟩)
    simpa using this⟩]
  ·simp -implicitDefEqProofs only[vQ,BD,↓reduceIte,jB,enP,f8,wrap_succ (show k < 9223372036854775807 by omega)]
   refine⟨n - 1,by omega,k+1,by omega,f0,f1,f7,rfl,trivial,?_⟩
   rw[zL hc',List.all_append,hin]
   simp only[wG,List.all_nil,hb]; rfl
 ·have hc' : ¬ k < xs.length:=by simpa using hc
  simp -implicitDefEqProofs only[vQ,BD,↓reduceIte]
  refine⟨?_,trivial⟩
  rw[jU (by omega)] at hin
  rw[wC.2 (by
   intro x hx
   rw[zH] at hin
   simpa using hin x hx)]
theorem AFT (G:Nat→AV)(xs:List ByteArray)(m:SM)(v:ByteArray)(h:Hp)(hl:xs.length≤1099511627776) :
  PCall (En G) 174 [.sl m 1 (xs.map encStr),.str v] h (.bool (IZ xs v)):=by
 obtain⟨i,hi,hp⟩:=AOG G xs m v h hl
 refine acN Tryz.func174 rfl ?_
 show awp _ _ _ _ _ (EJ _ [.tmp 4] _)
 simp -implicitDefEqProofs only[vQ,BD,↓reduceIte,jB,enP]
 refine hp.use ?_
 simp -implicitDefEqProofs only[vQ,BD,↓reduceIte,enP]
 exact⟨by rw[hi],trivial⟩
def kw:List ByteArray := [⟨#[99,108,97,115,115]⟩,⟨#[101,120,116,101,110,100,115]⟩,⟨#[114,97,110,100]⟩,⟨#[114,97,110,100,99]⟩,⟨#[115,116,97,116,101]⟩,⟨#[99,111,110,115,116,114,97,105,110,116]⟩,⟨#[115,111,102,116]⟩,⟨#[100,105,115,116]⟩,⟨#[105,102]⟩,⟨#[101,108,115,101]⟩,⟨#[101,97,99,104]⟩,⟨#[105,110]⟩,⟨#[115,111,108,118,101]⟩,⟨#[98,101,102,111,114,101]⟩,⟨#[105,110,115,105,100,101]⟩,⟨#[112,114,111,112,101,114,116,121]⟩,⟨#[115,101,113]⟩,⟨#[97,110,100]⟩,⟨#[111,114]⟩,⟨#[110,111,116]⟩,⟨#[115,101,116]⟩,⟨#[104,111,108,100]⟩,⟨#[112,108,97,105,110]⟩,⟨#[114,101,112,101,97,116]⟩]
theorem AVK:kw.length=24:=rfl
theorem AIA (G:Nat→AV)(h:Hp):PCall (En G) 178 [] h (.sl .full 1 (kw.map encStr)):=by
 refine acN Tryz.func178 rfl ?_
 show awp _ _ _ _ _ (EJ _ [.tmp 0] _)
 simp -implicitDefEqProofs only[vQ,BD,enP]
 refine MI (v := .sl .full 1 (kw.map encStr)) (h:=h) (by kernel_rfl) ?_
 simp -implicitDefEqProofs only[vQ,BD,↓reduceIte]
 exact⟨trivial,trivial⟩
theorem AFH (G:Nat→AV)(v:ByteArray)(h:Hp):PCall (En G) 136 [.str v] h (.bool (IZ kw v)):=by
 refine acN Tryz.func136 rfl ?_
 show awp _ _ _ _ _ (EJ _ [.tmp 2] _)
 simp -implicitDefEqProofs only[vQ,BD,enP]
 refine(AIA G h).use ?_
 simp -implicitDefEqProofs only[vQ,BD,↓reduceIte,jB]
 refine(AZN G kw .full v h (by rw[AVK]; omega)).use ?_
 simp -implicitDefEqProofs only[vQ,BD,↓reduceIte]
 exact⟨trivial,trivial⟩
def KwG (G:Nat→AV):Prop := ∃ m,G 0 = .fptr 1 [[.sl m 1 (kw.map encStr)]] 0 0
theorem ADE (G:Nat→AV)(hG:KwG G)(v:ByteArray)(h:Hp):PCall (En G) 130 [.str v] h (.bool (IZ kw v)):=by
 obtain⟨m,hg⟩:=hG
 refine acN Tryz.func130 rfl ?_
 show awp _ _ _ _ _ (EJ _ [.tmp 2] _)
 have e:D5 Tryz.prog h 65 (G 0)=some (.sl m 1 (kw.map encStr)):=by rw[hg]; exact YU ATT rfl rfl
 have hl:kw.length≤1099511627776:=by rw[AVK]; omega
 simp -implicitDefEqProofs only[vQ,BD,AZY,↓reduceIte,jB,enP,enG,e]
 refine(AFT G kw m v h hl).use ?_
 simp -implicitDefEqProofs only[vQ,BD,↓reduceIte]
 exact⟨trivial,trivial⟩
def SY (s:ByteArray):Bool:=(match s.data.toList with | []=>false | b :: _=>RD b.toNat) && s.data.toList.all fun b=>NQ b.toNat
def IA (s:ByteArray):Bool:=SY s && decide (s.size≤16) && !IZ kw s
theorem Z8 {n:Int}(h:NQ n=true):n < 128:=by
 simp only[NQ,RD,AL9,Bool.or_eq_true,jX,decide_eq_true_eq,beq_iff_eq] at h
 omega
theorem AYM (h:Hp)(s:ByteArray):AAU Tryz.prog h 9 (.str s)=some (.ptr h.length 0 0,h++[.iter s 0]):=by
 have:Tryz.prog.underlying 9=some .string:=by kernel_rfl
 simp [AAU,this]
theorem AY8 {h:Hp}{s:ByteArray}{pos:Nat}(hp:pos < s.size):ABK (h++[.iter s pos]) (.ptr h.length 0 0) true=some (.tup [.bool true,.int .i64 pos,.int .i32 (Utf8.decode s pos).1],h++[.iter s (pos+(Utf8.decode s pos).2)]):=by
 simp [ABK,hp]
theorem AVB {h:Hp}{s:ByteArray}{pos:Nat}(hp : ¬ pos < s.size):ABK (h++[.iter s pos]) (.ptr h.length 0 0) true=some (.tup [.bool false],h++[.iter s pos]):=by
 simp [ABK,hp]
theorem TW {s:ByteArray}{k:Nat}(hk:k < s.size)(hb:NQ (s[k]'hk).toNat=false):SY s=false:=by
 unfold SY
 have:(s.data.toList.all fun b=>NQ b.toNat)=false:=by
  rw[List.all_eq_false]
  exact⟨s[k],Array.getElem_mem_toList (xs:=s.data) hk,by simp [hb]⟩
 rw[this]; simp
theorem AAZ {s:ByteArray}(hk:0 < s.size)(hb:RD (s[0]'hk).toNat=false):SY s=false:=by
 unfold SY
 have:(match s.data.toList with | []=>false | b :: _=>RD b.toNat)=false:=by
  cases hl:s.data.toList with
  | nil=>rfl
  | cons b l =>
    have h0:s[0]'hk=b:=by
     have:s.data.toList[0]? = some b:=by rw[hl]; rfl
     have h2:s.data[0]? = some b:=by rw[← Array.getElem?_toList]; exact this
     have hk':0 < s.data.size:=hk
     rw[Array.getElem?_eq_getElem hk'] at h2
     exact Option.some.inj h2
    simp only
    rw[← h0]; exact hb
 rw[this]; simp
theorem AJK {s:ByteArray}(hk:0 < s.size)(hb:RD (s[0]'hk).toNat=true)(ha : ∀ i (hi:i < s.size),NQ (s[i]'hi).toNat=true):SY s=true:=by
 unfold SY
 have h1:(match s.data.toList with | []=>false | b :: _=>RD b.toNat)=true:=by
  cases hl:s.data.toList with
  | nil =>
    have:s.data.toList.length=0:=by rw[hl]; rfl
    have h2:s.data.size=0:=by simpa using this
    have h3:s.size=s.data.size:=rfl
    omega
  | cons b l =>
    have h0:s[0]'hk=b:=by
     have:s.data.toList[0]? = some b:=by rw[hl]; rfl
     have h2:s.data[0]? = some b:=by rw[← Array.getElem?_toList]; exact this
     have hk':0 < s.data.size:=hk
     rw[Array.getElem?_eq_getElem hk'] at h2
     exact Option.some.inj h2
    simp only
    rw[← h0]; exact hb
 rw[h1,Bool.true_and,zH]
 intro b hbm
 obtain⟨i,hi,rfl⟩:=List.getElem_of_mem hbm
 have hi':i < s.size:=by simpa using hi
 exact ha i hi'
theorem ARD (G:Nat→AV)(s:ByteArray)(h:Hp)(hl:s.size≤1099511627776):PCall (En G) 129 [.str s] h (.bool (SY s)):=by
 refine ACalls.pure0 rfl ?_
 refine acN Tryz.func129 rfl ?_
 show awp _ _ _ _ _ (EJ _ [.tmp 2] _)
 simp -implicitDefEqProofs only[vQ,BD,AX4,↓reduceIte,jB,enP,AYM]
 refine DK (fun n F H => ∃ k,n+k=s.size∧F 0 = .str s∧F 6 = .ptr h.length 0 0∧H=h++[.iter s k]∧(∀ i (hi:i < s.size),i < k→NQ (s[i]'hi).toNat=true)∧(∀ hp:0 < s.size,0 < k→RD (s[0]'hp).toNat=true)) s.size ⟨0,by simp,rfl,by simp -implicitDefEqProofs only[AA,↓reduceIte],rfl,fun _ _ h=>absurd h (by omega),fun _ h=>absurd h (by omega)⟩ ?_
 rintro n F H ⟨k,hk,f0,f6,rfl,hall,h0⟩
 rcases Classical.em (k < s.size) with hp | hp
 ·have go : ∀ (r:Nat × Nat),Utf8.decode s k=r→(NQ r.1=true→r=((s[k]'hp).toNat,1)∧NQ (s[k]'hp).toNat=true)∧(NQ r.1=false→SY s=false)∧(RD r.1=false→k=0→SY s=false)∧(RD r.1=true→NQ r.1=true):=by
   rintro r rfl
   have lf : ∀ n,RD n=true→NQ n=true:=fun n hn=>by unfold NQ; rw[hn]; rfl
   rcases zG (s[k]'hp).toNat 128 with ha | ha
   ·have hd:=decode_ascii s k hp ha
    rw[hd]
    exact⟨fun hf=>⟨rfl,hf⟩,fun hf=>TW hp hf,fun hf h0=>by subst h0; exact AAZ hp hf,lf _⟩
   ·have hd:=(decode_high s k hp ha).1
    refine⟨fun hf => ?_,fun _ => ?_,fun _ h0 => ?_,lf _⟩
    ·have:=Z8 hf; omega
    ·refine TW hp ?_
     cases hf:NQ (s[k]'hp).toNat with
     | false=>rfl
     | true=>have:=Z8 hf; omega
    ·refine TW hp ?_
     cases hf:NQ (s[k]'hp).toNat with
     | false=>rfl
     | true=>have:=Z8 hf; omega
  simp -implicitDefEqProofs only[vQ,zM,List.getElem?_cons_succ,CO,BD,AT2,↓reduceIte,jB,enP,f0,f6,AY8 hp]
  generalize hr:Utf8.decode s k=r at go
  obtain⟨g1,g2,g3,g4⟩:=go r rfl
  have done : ∀ H',NQ r.1=true→(k=0→RD r.1=true)→H'=h++[ABlk.iter s (k+r.2)]→∃ m,m < n∧∃ k',m+k'=s.size∧H'=h++[.iter s k']∧(∀ i (hi:i < s.size),i < k'→NQ (s[i]'hi).toNat=true)∧(∀ hp:0 < s.size,0 < k'→RD (s[0]'hp).toNat=true):=by
   intro H' hf hlw hH
   obtain⟨e1,e2⟩:=g1 hf
   refine⟨n - 1,by omega,k+1,by omega,by rw[hH,e1],fun i hi hik => ?_,fun hp0 _ => ?_⟩
   ·rcases zG i k with h' | h'
    ·exact hall i hi h'
    ·have:i=k:=by omega
     subst this; exact e2
   ·rcases wH k with h' | h'
    ·subst h'; have:=hlw rfl; rw[e1] at this; exact this
    ·exact h0 hp0 h'
  refine IQ (fun ha => ?_) (fun ha => ?_)
  ·have hk0:k=0:=by simp at ha; omega
   simp -implicitDefEqProofs only[vQ,CO,BD,↓reduceIte,jB,ha]
   refine(AC8 G _ _).use ?_
   simp -implicitDefEqProofs only[vQ,CO,BD,↓reduceIte,jB]
   refine IQ (fun hb => ?_) (fun hb => ?_)
   ·simp -implicitDefEqProofs only[vQ,CO,BD,EY,↓reduceIte,jB,hb]
    have hlw:RD r.1=false:=by simpa using hb
    exact⟨by rw[g3 hlw hk0],_,rfl⟩
   have hlw:RD r.1=true:=by simpa using hb
   simp -implicitDefEqProofs only[vQ,CO,BD,↓reduceIte,jB,hb]
   refine(Y2 G _ _).use ?_
   simp -implicitDefEqProofs only[vQ,CO,BD,↓reduceIte,jB]
   have hf:=g4 hlw
   simp -implicitDefEqProofs only[vQ,↓reduceIte,jB,Bool.not_true,hf]
   obtain⟨m,h1,k',h2,h3,h4,h5⟩:=done _ hf (fun _=>hlw) rfl
   exact⟨m,h1,k',h2,f0,f6,h3,h4,h5⟩
  ·have hk0:k≠0:=by intro e; subst e; simp at ha
   simp -implicitDefEqProofs only[vQ,CO,BD,EY,↓reduceIte,jB,ha]
   refine(Y2 G _ _).use ?_
   simp -implicitDefEqProofs only[vQ,CO,BD,↓reduceIte,jB]
   refine CU (fun hb => ?_) (fun hb => ?_)
   ·have hf:NQ r.1=false:=by simpa using hb
    simp -implicitDefEqProofs only[vQ,BD,↓reduceIte]
    exact⟨by rw[g2 hf],_,rfl⟩
   ·have hf:NQ r.1=true:=by simpa using hb
    simp -implicitDefEqProofs only[vQ,↓reduceIte,jB]
    obtain⟨m,h1,k',h2,h3,h4,h5⟩:=done _ hf (fun e=>absurd e hk0) rfl
    exact⟨m,h1,k',h2,f0,f6,h3,h4,h5⟩
 ·simp -implicitDefEqProofs only[vQ,zM,BD,AT2,ZE,↓reduceIte,jB,enP,f0,f6,AVB hp]
  have hks:k=s.size:=by omega
  refine⟨?_,_,rfl⟩
  congr 1
  rcases wH s.size with hz | hz
  ·have:s=⟨#[]⟩:=by
    obtain⟨d⟩:=s
    have:d.size=0:=hz
    rw[Array.eq_empty_of_size_eq_zero this]
   subst this
   rw[ByteArray.toList_eq]
   rfl
  ·rw[AJK hz (h0 hz (by omega)) (fun i hi=>hall i hi (by omega))]
   have hne:s.toList≠[]:=by
    rw[ByteArray.toList_eq]
    intro e
    have:s.data.toList.length=0:=by rw[e]; rfl
    have h2:s.data.size=0:=by simpa using this
    have h3:s.size=s.data.size:=rfl
    omega
   cases hl2:s.toList with
   | nil=>exact absurd hl2 hne
   | cons=>rw[ByteArray.toList_eq]; rfl
theorem N8 (G:Nat→AV)(hG:KwG G)(s:ByteArray)(h:Hp)(hl:s.size≤1099511627776):PCall (En G) 82 [.str s] h (.bool (IA s)):=by
 refine acN Tryz.func82 rfl ?_
 show awp _ _ _ _ _ (EJ _ [.tmp 2] _)
 simp -implicitDefEqProofs only[vQ,BD,↓reduceIte,jB,enP]
 refine(ARD G s h hl).use ?_
 simp -implicitDefEqProofs only[vQ,CO,BD,↓reduceIte]
 refine IQ (fun ha => ?_) (fun ha => ?_)
 ·simp -implicitDefEqProofs only[vQ,CO,BD,↓reduceIte,jB,enP,ln9,ha]
  refine IQ (fun hb => ?_) (fun hb => ?_)
  ·simp -implicitDefEqProofs only[vQ,CO,BD,↓reduceIte,jB,hb]
   refine(ADE G hG s h).use ?_
   simp -implicitDefEqProofs only[vQ,CO,BD,↓reduceIte,jB]
   refine⟨?_,trivial⟩
   have:decide (s.size≤16)=true:=by simp at hb ⊢; omega
   unfold IA; rw[ha,this]; rfl
  ·simp -implicitDefEqProofs only[vQ,CO,BD,EY,↓reduceIte,jB,hb]
   refine⟨?_,trivial⟩
   have:decide (s.size≤16)=false:=by simp at hb ⊢; omega
   unfold IA; rw[ha,this]; rfl
 ·simp -implicitDefEqProofs only[vQ,CO,BD,EY,↓reduceIte,jB,ha]
  exact⟨by unfold IA; rw[ha]; rfl,trivial⟩
theorem ix9 (s:ByteArray)(k:Nat)(kk:IntKind)(hk:k < s.size):NW Tryz.prog 9 (.str s) (.int kk (k:Int))=some (.int .u8 (s[k]'hk).toNat):=by
 have hu:Tryz.prog.underlying 9=some .string:=by kernel_rfl
 have h0:(0:Int)≤(k:Int):=by omega
 have:s[k]? = some (s[k]'hk):=by simp [hk]
 simp [NW,hu,h0,this]
theorem PE (G:Nat→AV)(s:ByteArray)(h:Hp):PCall (En G) 93 [.str s] h (.bool (IA s)):=by
 refine acN Tryz.func93 rfl ?_
 show awp _ _ _ _ _ (EJ _ [.tmp 2] _)
 simp -implicitDefEqProofs only[vQ,CO,BD,LQ,↓reduceIte,jB,enP]
 refine IQ (fun ha => ?_) (fun ha => ?_)
 ·simp -implicitDefEqProofs only[vQ,CO,BD,EY,↓reduceIte,jB,ha]
  refine⟨?_,trivial⟩
  have:s.data.toList = []:=by
   rw[ByteArray.toList_eq,ByteArray.toList_eq] at ha
   have:=beq_iff_eq.1 ha
   exact this
  unfold IA SY; rw[this]; rfl
 have hz:0 < s.size:=by
  rcases wH s.size with hz | hz
  ·have:s=⟨#[]⟩:=by
    obtain⟨d⟩:=s
    have:d.size=0:=hz
    rw[Array.eq_empty_of_size_eq_zero this]
   rw[this] at ha
   simp at ha
  ·exact hz
 simp -implicitDefEqProofs only[vQ,CO,BD,↓reduceIte,jB,enP,ln9,ha]
 refine IQ (fun hb => ?_) (fun hb => ?_)
 ·simp -implicitDefEqProofs only[vQ,CO,BD,EY,↓reduceIte,jB,hb]
  refine⟨?_,trivial⟩
  have:decide (s.size≤16)=false:=by simp at hb ⊢; omega
  unfold IA; rw[this]; simp
 have h16:decide (s.size≤16)=true:=by simp at hb ⊢; omega
 simp -implicitDefEqProofs only[vQ,CO,BD,OD,↓reduceIte,jB,enP,hb]
 refine MI (v := .int .u8 (s[0]'hz).toNat) (h:=h) (by rw[show(0:Int)=((0:Nat):Int) from rfl,ix9 s 0 .i64 hz]; rfl) ?_
 simp -implicitDefEqProofs only[vQ,CO,BD,↓reduceIte,jB]
 refine(AGA G _ h).use ?_
 simp -implicitDefEqProofs only[vQ,CO,BD,↓reduceIte,jB]
 refine IQ (fun hc => ?_) (fun hc => ?_)
 ·simp -implicitDefEqProofs only[vQ,CO,BD,EY,↓reduceIte,jB,hc]
  refine⟨?_,trivial⟩
  unfold IA; rw[AAZ hz (by simpa using hc)]; rfl
 simp -implicitDefEqProofs only[vQ,CO,BD,↓reduceIte,jB,hc]
 refine(AFH G s h).use ?_
 simp -implicitDefEqProofs only[vQ,BD,↓reduceIte,jB]
 refine CU (fun hd => ?_) (fun hd => ?_)
 ·simp -implicitDefEqProofs only[vQ,BD,↓reduceIte]
  refine⟨?_,trivial⟩
  unfold IA; rw[hd]; simp
 simp -implicitDefEqProofs only[vQ,BD]
 have hlow:RD (s[0]'hz).toNat=true:=by simpa using hc
 refine DK (fun n F H => ∃ k,n+k=s.size∧F 0 = .str s∧F 3 = .int .i64 (k:Nat)∧H=h∧(∀ i (hi:i < s.size),i < k→NQ (s[i]'hi).toNat=true)) s.size ⟨0,by simp,by simp -implicitDefEqProofs only[vQ,↓reduceIte,jB],by simp -implicitDefEqProofs only[AA,↓reduceIte]; rfl,rfl,fun _ _ h=>absurd h (by omega)⟩ ?_
 rintro n F H ⟨k,hk,f0,f3,rfl,hall⟩
 simp -implicitDefEqProofs only[vQ,BD,↓reduceIte,jB,enP,ln9,f0,f3]
 refine CU (fun he => ?_) (fun he => ?_)
 ·have hk':k < s.size:=by simpa using he
  simp -implicitDefEqProofs only[vQ,BD,OD,↓reduceIte,jB,enP,f0,f3,ix9 s k .i64 hk']
  refine(ASP G _ _).use ?_
  simp -implicitDefEqProofs only[vQ,BD,↓reduceIte]
  refine CU (fun hf => ?_) (fun hf => ?_)
  ·simp -implicitDefEqProofs only[vQ,BD,↓reduceIte]
   refine⟨?_,trivial⟩
   unfold IA; rw[TW hk' (by simpa using hf)]; rfl
  ·simp -implicitDefEqProofs only[vQ,BD,↓reduceIte,jB,enP,f3,wrap_succ (show k < 9223372036854775807 by simp at h16; omega)]
   refine⟨n - 1,by omega,k+1,by omega,f0,rfl,trivial,fun i hi hik => ?_⟩
   rcases zG i k with h' | h'
   ·exact hall i hi h'
   ·have:i=k:=by omega
    subst this; simpa using hf
 ·have hk' : ¬ k < s.size:=by simpa using he
  simp -implicitDefEqProofs only[vQ,BD,↓reduceIte]
  refine⟨?_,trivial⟩
  unfold IA
  rw[AJK hz hlow (fun i hi=>hall i hi (by omega)),h16,hd]; rfl
def JU (b:Bin):Bool :=
 decide (b.kind < 0) || decide (b.kind > 2) || (decide ((b.ranges.l.length:Int) > 0) == decide ((b.steps.length:Int) > 0)) || (b.kind != 0 && decide ((b.steps.length:Int) > 0)) || ((b.steps.length:Int) == 1) || decide ((b.steps.length:Int) > 8)
def H9 (b:Bin):Int :=
 if IA b.name then if JU b then 1 else if b.steps.any (fun l=>decide (l.l.length=0)) then 1 else
  if(sets b).any (fun l=>decide (l.l.length > 64)) then 2 else if(sets b).any (fun l=>l.l.any bad) then 1 else 0
 else 7
def shape (b:Bin):Bool :=
 if(b.kind != 0 && b.kind != 1 && b.kind != 2) then false else if((b.steps.length:Int) == 0) then decide ((b.ranges.l.length:Int) > 0) else
  if(decide ((b.ranges.l.length:Int) > 0) || b.kind != 0 || decide ((b.steps.length:Int) < 2) || decide ((b.steps.length:Int) > 8)) then false else !(b.steps.any (fun l=>decide (l.l.length=0)))
theorem ANL : ∀ (n p z o t r s0 s1 s8 E:Bool),((n || p || z || o || t) && !(n && p) && !(n && z) && !(n && o) && !(n && t) && !(p && z) && !(p && o) && !(p && t) && !(z && o) && !(z && t) && !(o && t) && !(s0 && s1) && !(s0 && s8) && !(s1 && s8) && !(s0 && E))=true →
 (if(!z && !o && !t) then false else if s0 then r else if(r || !z || (s0 || s1) || s8) then false else !E)=(!(n || p || (r == !s0) || (!z && !s0) || s1 || s8) && !E):=by decide +kernel
theorem ARO (k r s:Int)(E:Bool)(hs:0≤s)(hE:s=0→E=false) :
  (if(k != 0 && k != 1 && k != 2) then false else if(s == 0) then decide (r > 0) else if(decide (r > 0) || k != 0 || decide (s < 2) || decide (s > 8)) then false else !E) =
  (!(decide (k < 0) || decide (k > 2) || (decide (r > 0) == decide (s > 0)) || (k != 0 && decide (s > 0)) || (s == 1) || decide (s > 8)) && !E):=by
 have h1:decide (s > 0) = !(s == 0):=by rw[qU]; simp; omega
 have h2:decide (s < 2)=((s == 0) || (s == 1)):=by rw[qU]; simp; omega
 rw[h1,h2]
 have key:=ANL (decide (k < 0)) (decide (k > 2)) (k == 0) (k == 1) (k == 2) (decide (r > 0)) (s == 0) (s == 1) (decide (s > 8)) E ?_
 ·exact key
 ·have a1:(decide (k < 0) || decide (k > 2) || (k == 0) || (k == 1) || (k == 2))=true:=by simp; omega
  have no : ∀ (p q:Prop) [Decidable p] [Decidable q],¬ (p∧q)→(!(decide p && decide q))=true:=by
   intro p q _ _ h; by_cases hp:p <;> by_cases hq:q <;> simp_all
  have e0:(s == 0 && E)=false:=by
   by_cases hz:s=0
   ·rw[hE hz]; simp
   ·simp [hz]
  have b0:(k == 0)=decide (k=0):=rfl
  have b1:(k == 1)=decide (k=1):=rfl
  have b2:(k == 2)=decide (k=2):=rfl
  have c0:(s == 0)=decide (s=0):=rfl
  have c1:(s == 1)=decide (s=1):=rfl
  rw[e0]
  rw[b0,b1,b2] at a1 ⊢
  rw[c0,c1,a1,no _ _ (show ¬ (k < 0∧k > 2) by omega),no _ _ (show ¬ (k < 0∧k=0) by omega),no _ _ (show ¬ (k < 0∧k=1) by omega),no _ _ (show ¬ (k < 0∧k=2) by omega),
   no _ _ (show ¬ (k > 2∧k=0) by omega),no _ _ (show ¬ (k > 2∧k=1) by omega),no _ _ (show ¬ (k > 2∧k=2) by omega),no _ _ (show ¬ (k=0∧k=1) by omega),no _ _ (show ¬ (k=0∧k=2) by omega),no _ _ (show ¬ (k=1∧k=2) by omega),
   no _ _ (show ¬ (s=0∧s=1) by omega),no _ _ (show ¬ (s=0∧s > 8) by omega),no _ _ (show ¬ (s=1∧s > 8) by omega)]
  rfl
theorem AJ6 (b:Bin):shape b=(!JU b && !(b.steps.any (fun l=>decide (l.l.length=0)))) :=
 ARO b.kind b.ranges.l.length b.steps.length _ (by omega) (fun h=>by
  have:b.steps = []:=List.eq_nil_of_length_eq_zero (by omega)
  rw[this]; rfl)
theorem ANK (G:Nat→AV)(b:Bin)(h:Hp)(hl:b.steps.length≤1099511627776):PCall (En G) 131 [.agg (GR b)] h (.bool (shape b)):=by
 refine ACalls.pure0 rfl ?_
 refine acN Tryz.func131 rfl ?_
 show awp _ _ _ _ _ (EJ _ [.tmp 2] _)
 simp -implicitDefEqProofs only[vQ,CO,BD,↓reduceIte,jB,enP,UH,NV,MB,bxB,DF WM,DF RF,DF ag3,QZ,VX,P8,jH]
 refine UR (fun F H=>F 7 = .bool (b.kind != 0 && b.kind != 1 && b.kind != 2)∧F 1 = .ptr h.length 0 0∧F 3 = .int .i64 b.steps.length∧H=h++[.live 4 [GR b]]) ?_ ?_
 ·refine IQ (fun ha => ?_) (fun ha => ?_)
  ·simp -implicitDefEqProofs only[vQ,CO,BD,↓reduceIte,jB,enP,NV,ha,DF ag3,QZ]
   refine IQ (fun hb => ?_) (fun hb => ?_)
   ·simp -implicitDefEqProofs only[vQ,CO,BD,↓reduceIte,jB,enP,NV,hb,DF ag3,QZ]
    exact⟨rfl,trivial,trivial,trivial⟩
   ·simp -implicitDefEqProofs only[vQ,CO,BD,EY,↓reduceIte,jB,hb]
    exact⟨rfl,trivial,trivial,trivial⟩
  ·simp -implicitDefEqProofs only[vQ,CO,BD,EY,↓reduceIte,jB,ha]
   exact⟨rfl,trivial,trivial,trivial⟩
 rintro F H ⟨f7,f1,f3,rfl⟩
 simp -implicitDefEqProofs only[vQ,f7,f1,f3]
 refine CU (fun hk => ?_) (fun hk => ?_)
 ·simp -implicitDefEqProofs only[vQ,BD,↓reduceIte]
  exact⟨by unfold shape; rw[if_pos hk],_,rfl⟩
 have hk' : ¬ (b.kind != 0 && b.kind != 1 && b.kind != 2)=true:=by rw[hk]; simp
 simp -implicitDefEqProofs only[vQ,BD,↓reduceIte,enP,f1,f3]
 refine CU (fun hs => ?_) (fun hs => ?_)
 ·simp -implicitDefEqProofs only[vQ,BD,↓reduceIte,jB,enP,L8,OU,f1,DF RF,VX,jH]
  exact⟨by unfold shape; rw[if_neg hk',if_pos hs],_,rfl⟩
 have hs' : ¬ ((b.steps.length:Int) == 0)=true:=by rw[hs]; simp
 simp -implicitDefEqProofs only[vQ,CO,BD,↓reduceIte,jB,enP,L8,OU,f1,f3,DF RF,VX,jH]
 refine UR (fun F H=>F 28 = .bool (decide ((b.ranges.l.length:Int) > 0) || b.kind != 0 || decide ((b.steps.length:Int) < 2) || decide ((b.steps.length:Int) > 8))∧F 1 = .ptr h.length 0 0∧H=h++[.live 4 [GR b]]) ?_ ?_
 ·refine IQ (fun ha => ?_) (fun ha => ?_)
  ·simp -implicitDefEqProofs only[vQ,Bool.true_or,CO,BD,EY,↓reduceIte,jB,ha,f1]
   exact⟨trivial,trivial,trivial⟩
  simp -implicitDefEqProofs only[vQ,Bool.false_or,CO,BD,↓reduceIte,jB,enP,NV,ha,f1,DF ag3,QZ]
  refine IQ (fun hb => ?_) (fun hb => ?_)
  ·simp -implicitDefEqProofs only[vQ,Bool.true_or,CO,BD,EY,↓reduceIte,jB,hb,f1]
   exact⟨trivial,trivial,trivial⟩
  simp -implicitDefEqProofs only[vQ,Bool.false_or,CO,BD,↓reduceIte,jB,enP,hb,f1,f3]
  refine IQ (fun hc => ?_) (fun hc => ?_)
  ·simp -implicitDefEqProofs only[vQ,Bool.true_or,CO,BD,EY,↓reduceIte,jB,hc,f1]
   exact⟨trivial,trivial,trivial⟩
  ·simp -implicitDefEqProofs only[vQ,Bool.false_or,CO,BD,↓reduceIte,jB,enP,hc,f1,f3]
   exact⟨trivial,trivial,trivial⟩
 rintro F H ⟨f28,f1,rfl⟩
 simp -implicitDefEqProofs only[vQ,f28,f1]
 refine CU (fun ho => ?_) (fun ho => ?_)
 ·simp -implicitDefEqProofs only[vQ,BD,↓reduceIte]
  exact⟨by unfold shape; rw[if_neg hk',if_neg hs',if_pos ho],_,rfl⟩
 have ho' : ¬ (decide ((b.ranges.l.length:Int) > 0) || b.kind != 0 || decide ((b.steps.length:Int) < 2) || decide ((b.steps.length:Int) > 8))=true:=by rw[ho]; simp
 simp -implicitDefEqProofs only[vQ,BD,↓reduceIte,enP,MB,f1,DF WM,P8]
 refine(AEC G b.steps b.sm 176 [] (fun l=>decide (l.l.length=0)) _ hl fun r=>AWD G r _).use ?_
 simp -implicitDefEqProofs only[vQ,BD,↓reduceIte]
 exact⟨by unfold shape; rw[if_neg hk',if_neg hs',if_neg ho'],_,rfl⟩
theorem AA0 {b:Bin}(h:IA b.name=false):H9 b=7:=by unfold H9; rw[h]; rfl
theorem YB {b:Bin}(h:IA b.name=true)(hs:JU b=true):H9 b=1:=by unfold H9; rw[h,hs]; rfl
theorem YD {b:Bin}(h:IA b.name=true)(hs:b.steps.any (fun l=>decide (l.l.length=0))=true):H9 b=1:=by
 unfold H9; rw[h,hs]; cases JU b <;> rfl
theorem U6 {b:Bin}(h:IA b.name=true)(hs:JU b=false)(he:b.steps.any (fun l=>decide (l.l.length=0))=false) :
  H9 b=if(sets b).any (fun l=>decide (l.l.length > 64)) then 2 else if(sets b).any (fun l=>l.l.any bad) then 1 else 0:=by
 unfold H9; rw[h,hs,he]; rfl
structure BinOk (b:Bin):Prop where
 num:(sets b).length≤1099511627776
 name:b.name.size≤1099511627776
 steps:b.steps.length≤1099511627776
 sets : ∀ l∈sets b,l.l.length≤1099511627776
theorem AKI (xs:List Rng):decide (JQ xs=2)=decide (xs.length > 64):=by
 unfold JQ
 split
 ·simp_all
 ·split <;> simp_all
theorem AA3 (xs:List Rng):decide (JQ xs=1)=(decide (¬ xs.length > 64) && xs.any bad):=by
 unfold JQ
 split
 ·rename_i h; simp [h]
 ·rename_i h
  split
  ·rename_i h2; simp only[h2,h]; rfl
  ·rename_i h2; simp only[Bool.not_eq_true] at h2; simp only[h2]; simp
theorem AT6 {b:Bin}(h:IA b.name=true)(hs:JU b=false)(he:b.steps.any (fun l=>decide (l.l.length=0))=false) :
  H9 b=if(sets b).any (fun l=>decide (JQ l.l=2)) then 2 else if(sets b).any (fun l=>decide (JQ l.l=1)) then 1 else 0:=by
 rw[U6 h hs he]
 simp only[AKI]
 split
 ·rfl
 ·rename_i hn
  have:(sets b).any (fun l=>decide (JQ l.l=1))=(sets b).any (fun l=>l.l.any bad):=by
   rw[qU,zY,zY]
   constructor
   ·rintro⟨l,h1,h2⟩
    rw[AA3] at h2
    simp only[jX] at h2
    exact⟨l,h1,h2.2⟩
   ·rintro⟨l,h1,h2⟩
    refine⟨l,h1,?_⟩
    rw[AA3,h2]
    rw[Bool.not_eq_true,wQ] at hn
    have:=hn l h1
    simp only[decide_eq_true_eq] at this
    simp only[this,not_false_eq_true,decide_true,Bool.and_self]
  rw[this]
theorem VY {α:Type}(p:α→Bool)(xs:List α)(k:Nat)(h:k < xs.length):(xs.take (k+1)).any p=((xs.take k).any p || p xs[k]):=by
 rw[zL h,List.any_append,List.any_cons,List.any_nil,Bool.or_false]
theorem valid_prog (G:Nat→AV)(hG:KwG G)(b:Bin)(hb:BinOk b)(h:Hp):PCall (En G) 83 [.agg (GR b)] h (.int .i64 (H9 b)):=by
 refine ACalls.pure0 rfl ?_
 refine acN Tryz.func83 rfl ?_
 show awp _ _ _ _ _ (EJ _ [.tmp 2] _)
 simp -implicitDefEqProofs only[vQ,BD,↓reduceIte,jB,enP,AD0,bxB,DF ag9,AL5]
 refine(N8 G hG b.name _ hb.name).use ?_
 simp -implicitDefEqProofs only[vQ,BD,↓reduceIte]
 refine CU (fun hn => ?_) (fun hn => ?_)
 ·simp -implicitDefEqProofs only[vQ,BD,↓reduceIte]
  exact⟨by rw[AA0 (by simpa using hn)],_,rfl⟩
 have hn':IA b.name=true:=by simpa using hn
 simp -implicitDefEqProofs only[vQ,BD,↓reduceIte,jB,enP,ldB]
 refine(ANK G b _ hb.steps).use ?_
 simp -implicitDefEqProofs only[vQ,BD,↓reduceIte]
 refine CU (fun hs => ?_) (fun hs => ?_)
 ·simp -implicitDefEqProofs only[vQ,BD,↓reduceIte]
  refine⟨?_,_,rfl⟩
  have h1:shape b=false:=by simpa using hs
  rw[AJ6] at h1
  cases hr:JU b with
  | true=>rw[YB hn' hr]
  | false =>
    rw[hr] at h1
    rw[YD hn' (by simpa using h1)]
 have h1:shape b=true:=by simpa using hs
 rw[AJ6] at h1
 simp only[jX,Bool.not_eq_true'] at h1
 have hv:=U6 hn' h1.1 h1.2
 simp -implicitDefEqProofs only[vQ,BD,↓reduceIte,jB,enP,ldB]
 refine(AGB G b _).use ?_
 simp -implicitDefEqProofs only[vQ,BD,↓reduceIte,enP,UH,jH]
 refine DK (fun n F H => ∃ k,n+k=(sets b).length∧F 3 = .bool (((sets b).take k).any fun l=>decide (JQ l.l=2))∧F 4 = .bool (((sets b).take k).any fun l=>decide (JQ l.l=1))∧F 15 = .sl (UT b) 1 ((sets b).map encS)∧F 16 = .int .i64 (sets b).length∧F 17 = .int .i64 (k:Nat)∧H=h++[.live 4 [GR b]]) (sets b).length ⟨0,by simp,rfl,rfl,rfl,rfl,rfl,rfl⟩ ?_
 rintro n F H ⟨k,hk,f3,f4,f15,f16,f17,rfl⟩
 simp -implicitDefEqProofs only[vQ,BD,↓reduceIte,enP,f15,f16,f17]
 refine CU (fun hc => ?_) (fun hc => ?_)
 ·have hc':k < (sets b).length:=by simpa using hc
  simp -implicitDefEqProofs only[vQ,BD,↓reduceIte,jB,enP,AIB,f15,f17,DL hc',C9 RF hc',Y8]
  refine(AKH G _ _ _ (hb.sets _ (List.getElem_mem hc'))).use ?_
  have t2:=VY (fun l:Rs=>decide (JQ l.l=2)) (sets b) k hc'
  have t1:=VY (fun l:Rs=>decide (JQ l.l=1)) (sets b) k hc'
  simp -implicitDefEqProofs only[vQ,BD,↓reduceIte,enP]
  refine CU (fun hd => ?_) (fun hd => ?_)
  ·have hd':JQ (sets b)[k].l=2:=by simpa using hd
   simp -implicitDefEqProofs only[vQ,BD,↓reduceIte,jB,enP,f17,wrap_succ (show k < 9223372036854775807 by have:=hb.num; omega)]
   refine⟨n - 1,by omega,k+1,by omega,?_,?_,f15,f16,rfl,trivial⟩
   ·rw[t2,hd']; simp
   ·rw[f4,t1,hd']; simp
  simp -implicitDefEqProofs only[vQ,BD,↓reduceIte,jB,enP]
  refine CU (fun he => ?_) (fun he => ?_)
  ·have he':JQ (sets b)[k].l=1:=by simpa using he
   simp -implicitDefEqProofs only[vQ,BD,↓reduceIte,jB,enP,f17,wrap_succ (show k < 9223372036854775807 by have:=hb.num; omega)]
   refine⟨n - 1,by omega,k+1,by omega,?_,?_,f15,f16,rfl,trivial⟩
   ·rw[f3,t2,he']; simp
   ·rw[t1,he']; simp
  ·have hd':JQ (sets b)[k].l≠2:=by simpa using hd
   have he':JQ (sets b)[k].l≠1:=by simpa using he
   simp -implicitDefEqProofs only[vQ,BD,↓reduceIte,jB,enP,f17,wrap_succ (show k < 9223372036854775807 by have:=hb.num; omega)]
   refine⟨n - 1,by omega,k+1,by omega,?_,?_,f15,f16,rfl,trivial⟩
   ·rw[f3,t2]; simp [hd']
   ·rw[f4,t1]; simp [he']
 ·have hc' : ¬ k < (sets b).length:=by simpa using hc
  rw[jU (by omega)] at f3 f4
  have hE:=AT6 hn' h1.1 h1.2
  simp -implicitDefEqProofs only[vQ,BD,↓reduceIte,jB,f3,f4]
  refine CU (fun hd => ?_) (fun hd => ?_)
  ·simp -implicitDefEqProofs only[vQ,BD,↓reduceIte]
   exact⟨by rw[hE,if_pos hd],_,rfl⟩
  simp -implicitDefEqProofs only[vQ,BD,↓reduceIte,jB,f4]
  refine CU (fun he => ?_) (fun he => ?_)
  ·simp -implicitDefEqProofs only[vQ,BD,↓reduceIte]
   exact⟨by rw[hE,if_neg (by rw[hd]; simp),if_pos he],_,rfl⟩
  ·simp -implicitDefEqProofs only[vQ,BD,↓reduceIte]
   exact⟨by rw[hE,if_neg (by rw[hd]; simp),if_neg (by rw[he]; simp)],_,rfl⟩
theorem valid_ref (G:Nat→AV)(b:Bin)(hb:BinOk b)(h:Hp):PCall (En G) 94 [.agg (GR b)] h (.int .i64 (H9 b)):=by
 refine ACalls.pure0 rfl ?_
 refine acN Tryz.func94 rfl ?_
 show awp _ _ _ _ _ (EJ _ [.tmp 2] _)
 simp -implicitDefEqProofs only[vQ,BD,↓reduceIte,jB,enP,AD0,bxB,DF ag9,AL5]
 refine(PE G b.name _).use ?_
 simp -implicitDefEqProofs only[vQ,BD,↓reduceIte]
 refine CU (fun hn => ?_) (fun hn => ?_)
 ·simp -implicitDefEqProofs only[vQ,BD,↓reduceIte]
  exact⟨by rw[AA0 (by simpa using hn)],_,rfl⟩
 have hn':IA b.name=true:=by simpa using hn
 simp -implicitDefEqProofs only[vQ,CO,BD,↓reduceIte,jB,enP,NV,DF ag3,QZ]
 refine UR (fun F H=>F 53 = .bool (JU b)∧F 1 = .ptr h.length 0 0∧H=h++[.live 4 [GR b]]) ?_ ?_
 ·refine IQ (fun ha => ?_) (fun ha => ?_)
  ·simp -implicitDefEqProofs only[vQ,CO,BD,EY,↓reduceIte,jB,ha]
   exact⟨by unfold JU; rw[ha]; rfl,trivial,trivial⟩
  simp -implicitDefEqProofs only[vQ,CO,BD,↓reduceIte,jB,enP,NV,ha,DF ag3,QZ]
  refine IQ (fun hb => ?_) (fun hb => ?_)
  ·simp -implicitDefEqProofs only[vQ,CO,BD,EY,↓reduceIte,jB,hb]
   exact⟨by unfold JU; rw[ha,hb]; rfl,trivial,trivial⟩
  simp -implicitDefEqProofs only[vQ,CO,BD,↓reduceIte,jB,enP,be4,L8,UH,OU,MB,hb,DF RF,DF WM,VX,P8,jH]
  refine IQ (fun hc => ?_) (fun hc => ?_)
  ·simp -implicitDefEqProofs only[vQ,CO,BD,EY,↓reduceIte,jB,hc]
   exact⟨by unfold JU; rw[ha,hb,hc]; rfl,trivial,trivial⟩
  simp -implicitDefEqProofs only[vQ,CO,BD,↓reduceIte,jB,enP,NV,hc,DF ag3,QZ]
  refine IQ (fun hd => ?_) (fun hd => ?_)
  ·simp -implicitDefEqProofs only[vQ,CO,BD,↓reduceIte,jB,enP,UH,MB,hd,DF WM,P8,jH]
   refine IQ (fun he => ?_) (fun he => ?_)
   ·simp -implicitDefEqProofs only[vQ,CO,BD,EY,↓reduceIte,jB,he]
    exact⟨by unfold JU; rw[ha,hb,hc,hd,he]; rfl,trivial,trivial⟩
   simp -implicitDefEqProofs only[vQ,CO,BD,↓reduceIte,jB,enP,UH,MB,he,DF WM,P8,jH]
   refine IQ (fun hf => ?_) (fun hf => ?_)
   ·simp -implicitDefEqProofs only[vQ,CO,BD,EY,↓reduceIte,jB,hf]
    exact⟨by unfold JU; rw[ha,hb,hc,hd,he,hf]; rfl,trivial,trivial⟩
   ·simp -implicitDefEqProofs only[vQ,CO,BD,↓reduceIte,jB,enP,UH,MB,hf,DF WM,P8,jH]
    exact⟨by unfold JU; rw[ha,hb,hc,hd,he,hf]; rfl,trivial,trivial⟩
  ·simp -implicitDefEqProofs only[vQ,CO,BD,EY,↓reduceIte,jB,enP,UH,MB,hd,DF WM,P8,jH]
   refine IQ (fun hf => ?_) (fun hf => ?_)
   ·simp -implicitDefEqProofs only[vQ,CO,BD,EY,↓reduceIte,jB,hf]
    exact⟨by unfold JU; rw[ha,hb,hc,hd,hf]; rfl,trivial,trivial⟩
   ·simp -implicitDefEqProofs only[vQ,CO,BD,↓reduceIte,jB,enP,UH,MB,hf,DF WM,P8,jH]
    exact⟨by unfold JU; rw[ha,hb,hc,hd,hf]; rfl,trivial,trivial⟩
 rintro F H ⟨f53,f1,rfl⟩
 simp -implicitDefEqProofs only[vQ,f53,f1]
 refine CU (fun hs => ?_) (fun hs => ?_)
 ·simp -implicitDefEqProofs only[vQ,BD,↓reduceIte]
  exact⟨by rw[YB hn' hs],_,rfl⟩
 simp -implicitDefEqProofs only[vQ,BD]
 refine G6 0 (fun F H=>F 1 = .ptr h.length 0 0∧H=h++[.live 4 [GR b]]∧b.steps.any (fun l=>decide (l.l.length=0))=false) (fun F H=>F 2 = .int .i64 (H9 b)∧H=h++[.live 4 [GR b]]) ?_ ?_ ?_
 ·refine DK (fun n F H => ∃ k,n+k=b.steps.length∧F 1 = .ptr h.length 0 0∧F 3 = .int .i64 (k:Nat)∧H=h++[.live 4 [GR b]]∧(b.steps.take k).any (fun l=>decide (l.l.length=0))=false) b.steps.length ⟨0,by simp,by simp -implicitDefEqProofs only[AA,↓reduceIte,jB,f1],by simp -implicitDefEqProofs only[AA,↓reduceIte]; rfl,rfl,rfl⟩ ?_
  rintro n F H ⟨k,hk,f1,f3,rfl,hin⟩
  simp -implicitDefEqProofs only[vQ,BD,↓reduceIte,jB,enP,UH,MB,f1,f3,DF WM,P8,jH]
  refine CU (fun hc => ?_) (fun hc => ?_)
  ·have hc':k < b.steps.length:=by simpa using hc
   have t0:=VY (fun l:Rs=>decide (l.l.length=0)) b.steps k hc'
   simp -implicitDefEqProofs only[vQ,BD,↓reduceIte,jB,enP,L8,AIB,MB,f1,f3,DF WM,P8,DL hc',C9 RF hc',Y8,jH]
   refine CU (fun hd => ?_) (fun hd => ?_)
   ·simp -implicitDefEqProofs only[vQ,BD,↓reduceIte]
    refine⟨?_,trivial⟩
    have:b.steps.any (fun l=>decide (l.l.length=0))=true:=by
     rw[zY]
     exact⟨b.steps[k],by simp,by simp at hd; simp [hd]⟩
    rw[YD hn' this]
   ·simp -implicitDefEqProofs only[vQ,BD,↓reduceIte,jB,enP,f3,wrap_succ (show k < 9223372036854775807 by have:=hb.steps; omega)]
    refine⟨n - 1,by omega,k+1,by omega,f1,rfl,trivial,?_⟩
    rw[t0,hin]
    simp at hd
    simp [hd]
  ·have hc' : ¬ k < b.steps.length:=by simpa using hc
   simp -implicitDefEqProofs only[vQ,↓reduceIte,jB]
   rw[jU (by omega)] at hin
   exact⟨f1,trivial,hin⟩
 ·rintro F H ⟨f1,rfl,he⟩
  have hs':JU b=false:=by simpa using hs
  have hv:=U6 hn' hs' he
  simp -implicitDefEqProofs only[vQ,BD,↓reduceIte,enP,f1,ldB]
  refine(AUL G b _).use ?_
  simp -implicitDefEqProofs only[vQ,BD,↓reduceIte]
  refine G6 2 (fun F H=>F 4 = .sl (UT b) 1 ((sets b).map encS)∧H=h++[.live 4 [GR b]]∧(sets b).any (fun l=>decide (l.l.length > 64))=false) (fun F H=>F 2 = .int .i64 (H9 b)∧H=h++[.live 4 [GR b]]) ?_ ?_ ?_
  ·refine DK (fun n F H => ∃ k,n+k=(sets b).length∧F 4 = .sl (UT b) 1 ((sets b).map encS)∧F 5 = .int .i64 (k:Nat)∧H=h++[.live 4 [GR b]]∧((sets b).take k).any (fun l=>decide (l.l.length > 64))=false) (sets b).length ⟨0,by simp,by simp -implicitDefEqProofs only[AA,↓reduceIte,jB],by simp -implicitDefEqProofs only[AA,↓reduceIte]; rfl,rfl,rfl⟩ ?_
   rintro n F H ⟨k,hk,f4,f5,rfl,hin⟩
   simp -implicitDefEqProofs only[vQ,BD,↓reduceIte,jB,enP,UH,f4,f5,jH]
   refine CU (fun hc => ?_) (fun hc => ?_)
   ·have hc':k < (sets b).length:=by simpa using hc
    have t0:=VY (fun l:Rs=>decide (l.l.length > 64)) (sets b) k hc'
    simp -implicitDefEqProofs only[vQ,BD,↓reduceIte,jB,enP,L8,AIB,f4,f5,DL hc',C9 RF hc',Y8,jH]
    refine CU (fun hd => ?_) (fun hd => ?_)
    ·simp -implicitDefEqProofs only[vQ,BD,↓reduceIte]
     refine⟨?_,trivial⟩
     have:(sets b).any (fun l=>decide (l.l.length > 64))=true:=by
      rw[zY]
      exact⟨(sets b)[k],by simp,by simp at hd ⊢; omega⟩
     rw[hv,if_pos this]
    ·simp -implicitDefEqProofs only[vQ,BD,↓reduceIte,jB,enP,f5,wrap_succ (show k < 9223372036854775807 by have:=hb.num; omega)]
     refine⟨n - 1,by omega,k+1,by omega,f4,rfl,trivial,?_⟩
     rw[t0,hin]
     simp at hd ⊢
     omega
   ·have hc' : ¬ k < (sets b).length:=by simpa using hc
    simp -implicitDefEqProofs only[vQ,↓reduceIte,jB]
    rw[jU (by omega)] at hin
    exact⟨f4,trivial,hin⟩
  ·rintro F H ⟨f4,rfl,h64⟩
   rw[h64] at hv
   simp only[Bool.false_eq_true,if_false] at hv
   simp -implicitDefEqProofs only[vQ,BD,↓reduceIte,f4]
   refine DK (fun n F H => ∃ k,n+k=(sets b).length∧F 4 = .sl (UT b) 1 ((sets b).map encS)∧F 6 = .int .i64 (k:Nat)∧H=h++[.live 4 [GR b]]∧((sets b).take k).any (fun l=>l.l.any bad)=false) (sets b).length ⟨0,by simp,by simp -implicitDefEqProofs only[AA,↓reduceIte,jB,f4],by simp -implicitDefEqProofs only[AA,↓reduceIte]; rfl,rfl,rfl⟩ ?_
   rintro n F H ⟨k,hk,f4,f6,rfl,hin⟩
   simp -implicitDefEqProofs only[vQ,BD,↓reduceIte,jB,enP,UH,f4,f6,jH]
   refine CU (fun hc => ?_) (fun hc => ?_)
   ·have hc':k < (sets b).length:=by simpa using hc
    have t0:=VY (fun l:Rs=>l.l.any bad) (sets b) k hc'
    simp -implicitDefEqProofs only[vQ,BD,↓reduceIte,jB,enP,AIB,f4,f6,DL hc',C9 RF hc',Y8,jH]
    refine(ANU G _ _ _).use ?_
    have hk64 : ¬ (sets b)[k].l.length > 64:=by
     rw[wQ] at h64
     have:=h64 (sets b)[k] (by simp)
     simpa using this
    simp -implicitDefEqProofs only[vQ,BD,↓reduceIte,enP]
    cases hbad:(sets b)[k].l.any bad with
    | true =>
      have hr:=VJ hk64 hbad
      refine CU (fun hd => ?_) (fun hd => ?_)
      ·simp -implicitDefEqProofs only[vQ,BD,↓reduceIte,jB]
       refine⟨?_,_,rfl⟩
       have:(sets b).any (fun l=>l.l.any bad)=true:=by
        rw[zY]
        exact⟨(sets b)[k],by simp,hbad⟩
       rw[hr,hv,if_pos this]
      ·rw[hr] at hd; simp at hd
    | false =>
      have hr:=XN hk64 hbad
      refine CU (fun hd => ?_) (fun hd => ?_)
      ·rw[hr] at hd; simp at hd
      ·simp -implicitDefEqProofs only[vQ,BD,↓reduceIte,jB,enP,f6,wrap_succ (show k < 9223372036854775807 by have:=hb.num; omega)]
       refine⟨n - 1,by omega,k+1,by omega,f4,rfl,trivial,?_⟩
       rw[t0,hin,hbad]; rfl
   ·have hc' : ¬ k < (sets b).length:=by simpa using hc
    simp -implicitDefEqProofs only[vQ,BD,↓reduceIte]
    rw[jU (by omega)] at hin
    exact⟨by rw[hv,if_neg (by rw[hin]; simp)],_,rfl⟩
  ·rintro F H ⟨f2,rfl⟩
   simp -implicitDefEqProofs only[vQ]
   exact⟨f2,_,rfl⟩
 ·rintro F H ⟨f2,rfl⟩
  simp -implicitDefEqProofs only[vQ]
  exact⟨by rw[f2],_,rfl⟩
end Go.Proofs.YtfpagfhhhlljjaaGreatDoor.Bins
namespace Go.Proofs.YtfpagfhhhlljjaaGreatDoor.Cov
open Sm Bins
open Bool renaming not_false→jC
open Int renaming reduceBEq→qH
open List renaming drop_zero→zK,take_of_length_le→jU
open Nat renaming le_refl→jL,le_of_ble_eq_true→jI,reduceEqDiff→jB,add_zero→jM
open Option renaming getD_some→jA
inductive Ex where
 | mk (op n:Int) (name:ByteArray) (m:SM) (args:List Ex)
def Ex.op:Ex→Int | .mk op _ _ _ _=>op
def Ex.n:Ex→Int | .mk _ n _ _ _=>n
def Ex.name:Ex→ByteArray | .mk _ _ name _ _=>name
def Ex.m:Ex→SM | .mk _ _ _ m _=>m
def Ex.args:Ex→List Ex | .mk _ _ _ _ args=>args
mutual
def CX:Ex→List AV
 | .mk op n name m args => [.int .i64 op,.int .i64 n,.str name,.sl m 4 (AL3 args)]
def AL3:List Ex→List (List AV)
 | [] => []
 | e :: es=>CX e :: AL3 es
end
theorem AG8 : ∀ l:List Ex,AL3 l=l.map CX
 | []=>by simp [AL3]
 | e :: es=>by simp [AL3,AG8 es]
theorem G9 (e:Ex):CX e = [.int .i64 e.op,.int .i64 e.n,.str e.name,.sl e.m 4 (e.args.map CX)]:=by
 cases e; simp [CX,AG8,Ex.op,Ex.n,Ex.name,Ex.m,Ex.args]
theorem GU (e:Ex):(CX e).length=4:=by rw[G9]; rfl
theorem KN (e:Ex):(CX e)[0]? = some (.int .i64 e.op):=by rw[G9]; rfl
theorem ABD (e:Ex):(CX e)[1]? = some (.int .i64 e.n):=by rw[G9]; rfl
theorem QY (e:Ex):(CX e)[2]? = some (.str e.name):=by rw[G9]; rfl
theorem ABC (e:Ex):(CX e)[3]? = some (.sl e.m 4 (e.args.map CX)):=by rw[G9]; rfl
theorem AAH (e:Ex):(CX e).all AV.leaf=true:=by rw[G9]; rfl
theorem bxE (h:Hp)(e:Ex):O1 h (.agg (CX e))=some (.ptr h.length 0 0,h++[.live 4 [CX e]]):=by
 have:=UM (h:=h) (AAH e)
 rw[GU] at this; exact this
theorem ldE (h:Hp)(e:Ex):D5 Tryz.prog (h++[.live 4 [CX e]]) 48 (.ptr h.length 0 0)=some (.agg (CX e)):=by
 rw[TE TQ LD (by rw[GU]; exact jL 4)]
 rw[zK,jU (by rw[GU]; exact jL 4)]
theorem OO {h:Hp}{b:Nat}{e:Ex}(hb:h[b]? = some (.live 4 [CX e])):D5 Tryz.prog h 48 (.ptr b 0 0)=some (.agg (CX e)):=by
 rw[GV TQ LD hb rfl (by rw[GU]; exact jL 4)]
 rw[zK,jU (by rw[GU]; exact jL 4)]
mutual
def pre:Ex→List Ex
 | .mk op n name m args => .mk op n name m args :: J8 args
def J8:List Ex→List Ex
 | [] => []
 | e :: es=>pre e++J8 es
end
mutual
def dep:Ex→Nat
 | .mk _ _ _ _ args=>deps args+1
def deps:List Ex→Nat
 | []=>0
 | e :: es=>max (dep e) (deps es)
end
mutual
def wt:Ex→Nat
 | .mk _ _ name _ args=>name.size+1+wts args
def wts:List Ex→Nat
 | []=>0
 | e :: es=>wt e+wts es
end
theorem pre_eq (e:Ex):pre e=e :: J8 e.args:=by cases e; simp [pre,Ex.args]
theorem AAI (e:Ex):dep e=deps e.args+1:=by cases e; simp [dep,Ex.args]
theorem LW (e:Ex):wt e=e.name.size+1+wts e.args:=by cases e; simp [wt,Ex.args,Ex.name]
theorem RP (xs ys:List Ex):J8 (xs++ys)=J8 xs++J8 ys:=by
 induction xs with
 | nil=>simp [J8]
 | cons x xs ih=>simp [J8,ih]
theorem RG (xs:List Ex):xs.length≤wts xs:=by
 induction xs with
 | nil=>simp [wts]
 | cons x xs ih=>have:=LW x; simp [wts]; omega
theorem TV {xs:List Ex}{x:Ex}(h:x∈xs):wt x≤wts xs:=by
 induction xs with
 | nil=>cases h
 | cons y ys ih =>
   simp only[wts]
   cases List.mem_cons.1 h with
   | inl e=>subst e; omega
   | inr e=>have:=ih e; omega
theorem AG9 (xs:List Ex)(k:Nat)(h:k < xs.length):deps (xs.take (k+1))=max (deps (xs.take k)) (dep xs[k]):=by
 induction xs generalizing k with
 | nil=>simp at h
 | cons x xs ih =>
   cases k with
   | zero=>simp [deps]
   | succ k =>
     simp only[List.take_succ_cons,deps,List.getElem_cons_succ]
     rw[ih k (by simpa using h),Nat.max_assoc]
theorem Ex.induct {P:Ex→Prop}(h : ∀ e:Ex,(∀ a∈e.args,P a)→P e)(e:Ex):P e:=by
 have : ∀ n (e:Ex),wt e≤n→P e:=by
  intro n
  induction n with
  | zero=>intro e he; have:=LW e; omega
  | succ n ih =>
    intro e he
    refine h e fun a ha=>ih a ?_
    have h1:=TV ha
    have h2:=LW e
    omega
 exact this _ e (jL _)
theorem AWG (e:Ex):dep e≤wt e:=by
 refine Ex.induct (P:=fun e=>dep e≤wt e) (fun e ih => ?_) e
 rw[AAI,LW]
 have:deps e.args≤wts e.args:=by
  generalize e.args=l at ih
  induction l with
  | nil=>simp [deps,wts]
  | cons x l ih2 =>
    have h1:=ih x (by simp)
    have h2:=ih2 (fun a ha=>ih a (by simp [ha]))
    simp only[deps,wts]; omega
 omega
theorem AH0 (e:Ex):(pre e).length≤wt e:=by
 refine Ex.induct (P:=fun e=>(pre e).length≤wt e) (fun e ih => ?_) e
 rw[pre_eq,LW]
 have:(J8 e.args).length≤wts e.args:=by
  generalize e.args=l at ih
  induction l with
  | nil=>simp [J8,wts]
  | cons x l ih2 =>
    have h1:=ih x (by simp)
    have h2:=ih2 (fun a ha=>ih a (by simp [ha]))
    simp only[J8,wts,List.length_append]; omega
 simp; omega
def arity (op:Int):Int:=if op < 1∨op > 25 then -1 else if op=1∨op=2∨op=24 then 0 else if op=3∨op=4∨op=5∨op=6∨op=25 then 1 else if op=22 then 3 else if op=23 then -1 else 2
set_option maxHeartbeats 2000000 in
theorem APA (G:Nat→AV)(op:Int)(h:Hp):PCall (En G) 149 [.int .i64 op] h (.int .i64 (arity op)):=by
 refine acN Tryz.func149 rfl ?_
 show awp _ _ _ _ _ (EJ _ [.tmp 2] _)
 have hcase:op < 1∨op > 25∨op=1∨op=2∨op=3∨op=4∨op=5∨op=6∨op=7∨op=8∨op=9∨op=10∨op=11∨op=12∨op=13∨op=14∨op=15∨op=16∨op=17∨op=18∨op=19∨op=20∨op=21∨op=22∨op=23∨op=24∨op=25:=by omega
 rcases hcase with h | h | rfl | rfl | rfl | rfl | rfl | rfl | rfl | rfl | rfl | rfl | rfl | rfl | rfl | rfl | rfl | rfl | rfl | rfl | rfl | rfl | rfl | rfl | rfl | rfl | rfl
 ·have hne : ∀ k:Int,1≤k→(op == k)=false:=fun k hk=>beq_eq_false_iff_ne.2 (by omega)
  have hd:decide (op < 1)=true:=by simp; omega
  have ha:arity op = -1:=by unfold arity; rw[if_pos (Or.inl h)]
  rw[ha]
  simp -implicitDefEqProofs only[vQ,CO,BD,EY,↓reduceIte,jB,enP,hne 1 (by decide),hne 2 (by decide),hne 3 (by decide),hne 4 (by decide),hne 5 (by decide),hne 6 (by decide),hne 7 (by decide),hne 8 (by decide),hne 9 (by decide),hne 10 (by decide),hne 11 (by decide),hne 12 (by decide),hne 13 (by decide),hne 14 (by decide),hne 15 (by decide),hne 16 (by decide),hne 17 (by decide),hne 18 (by decide),hne 19 (by decide),hne 20 (by decide),hne 21 (by decide),hne 22 (by decide),hne 23 (by decide),hne 24 (by decide),hne 25 (by decide),hd]
  exact⟨trivial,trivial⟩
 ·have hne : ∀ k:Int,k≤25→(op == k)=false:=fun k hk=>beq_eq_false_iff_ne.2 (by omega)
  have hd:decide (op < 1)=false:=by simp; omega
  have hd2:decide (op > 25)=true:=by simp; omega
  have ha:arity op = -1:=by unfold arity; rw[if_pos (Or.inr h)]
  rw[ha]
  simp -implicitDefEqProofs only[vQ,CO,BD,↓reduceIte,jB,enP,hne 1 (by decide),hne 2 (by decide),hne 3 (by decide),hne 4 (by decide),hne 5 (by decide),hne 6 (by decide),hne 7 (by decide),hne 8 (by decide),hne 9 (by decide),hne 10 (by decide),hne 11 (by decide),hne 12 (by decide),hne 13 (by decide),hne 14 (by decide),hne 15 (by decide),hne 16 (by decide),hne 17 (by decide),hne 18 (by decide),hne 19 (by decide),hne 20 (by decide),hne 21 (by decide),hne 22 (by decide),hne 23 (by decide),hne 24 (by decide),hne 25 (by decide),hd,hd2]
  exact⟨trivial,trivial⟩
 all_goals
  simp -implicitDefEqProofs only[vQ,CO,BD,↓reduceIte,jB,decide_false,enP,qH,Int.reduceLT,Int.reduceGT]
  exact⟨rfl,trivial⟩
set_option maxHeartbeats 2000000 in
theorem ATM (G:Nat→AV)(op:Int)(h:Hp):PCall (En G) 186 [.int .i64 op] h (.int .i64 (arity op)):=by
 refine acN Tryz.func186 rfl ?_
 show awp _ _ _ _ _ (EJ _ [.tmp 2] _)
 have hcase:op < 1∨op > 25∨op=1∨op=2∨op=3∨op=4∨op=5∨op=6∨op=7∨op=8∨op=9∨op=10∨op=11∨op=12∨op=13∨op=14∨op=15∨op=16∨op=17∨op=18∨op=19∨op=20∨op=21∨op=22∨op=23∨op=24∨op=25:=by omega
 rcases hcase with h | h | rfl | rfl | rfl | rfl | rfl | rfl | rfl | rfl | rfl | rfl | rfl | rfl | rfl | rfl | rfl | rfl | rfl | rfl | rfl | rfl | rfl | rfl | rfl | rfl | rfl
 ·have hne : ∀ k:Int,1≤k→(op == k)=false:=fun k hk=>beq_eq_false_iff_ne.2 (by omega)
  have hd:decide (op < 1)=true:=by simp; omega
  have ha:arity op = -1:=by unfold arity; rw[if_pos (Or.inl h)]
  rw[ha]
  simp -implicitDefEqProofs only[vQ,CO,BD,EY,↓reduceIte,jB,enP,hne 1 (by decide),hne 2 (by decide),hne 3 (by decide),hne 4 (by decide),hne 5 (by decide),hne 6 (by decide),hne 7 (by decide),hne 8 (by decide),hne 9 (by decide),hne 10 (by decide),hne 11 (by decide),hne 12 (by decide),hne 13 (by decide),hne 14 (by decide),hne 15 (by decide),hne 16 (by decide),hne 17 (by decide),hne 18 (by decide),hne 19 (by decide),hne 20 (by decide),hne 21 (by decide),hne 22 (by decide),hne 23 (by decide),hne 24 (by decide),hne 25 (by decide),hd]
  exact⟨trivial,trivial⟩
 ·have hne : ∀ k:Int,k≤25→(op == k)=false:=fun k hk=>beq_eq_false_iff_ne.2 (by omega)
  have hd:decide (op < 1)=false:=by simp; omega
  have hd2:decide (op > 25)=true:=by simp; omega
  have ha:arity op = -1:=by unfold arity; rw[if_pos (Or.inr h)]
  rw[ha]
  simp -implicitDefEqProofs only[vQ,CO,BD,↓reduceIte,jB,enP,hne 1 (by decide),hne 2 (by decide),hne 3 (by decide),hne 4 (by decide),hne 5 (by decide),hne 6 (by decide),hne 7 (by decide),hne 8 (by decide),hne 9 (by decide),hne 10 (by decide),hne 11 (by decide),hne 12 (by decide),hne 13 (by decide),hne 14 (by decide),hne 15 (by decide),hne 16 (by decide),hne 17 (by decide),hne 18 (by decide),hne 19 (by decide),hne 20 (by decide),hne 21 (by decide),hne 22 (by decide),hne 23 (by decide),hne 24 (by decide),hne 25 (by decide),hd,hd2]
  exact⟨trivial,trivial⟩
 all_goals
  simp -implicitDefEqProofs only[vQ,BD,↓reduceIte,jB,enP,qH,Int.reduceLT,Int.reduceGT]
  exact⟨rfl,trivial⟩
def MO (op:Int):Bool:=op == 2 || op == 3 || op == 24
theorem ZW (G:Nat→AV)(op:Int)(h:Hp):PCall (En G) 185 [.int .i64 op] h (.bool (MO op)):=by
 refine acN Tryz.func185 rfl ?_
 show awp _ _ _ _ _ (EJ _ [.tmp 2] _)
 simp -implicitDefEqProofs only[vQ,CO,BD,↓reduceIte,jB,enP]
 cases ha:(op == 2) <;> cases hb:(op == 3)
 all_goals
  simp -implicitDefEqProofs only[vQ,CO,BD,EY,↓reduceIte,jB,enP,ha,hb]
  exact⟨by simp [MO,ha,hb],trivial⟩
def ZU (op:Int)(n:Nat):Bool:=if op == 23 then ((n:Int) % 2 == 1) && decide ((n:Int)≥3) && decide ((n:Int)≤33) else ((n:Int) == arity op)
theorem AFF (G:Nat→AV)(e:Ex)(h:Hp):PCall (En G) 105 [.agg (CX e)] h (.bool (ZU e.op e.args.length)):=by
 refine ACalls.pure0 rfl ?_
 refine acN Tryz.func105 rfl ?_
 show awp _ _ _ _ _ (EJ _ [.tmp 2] _)
 simp -implicitDefEqProofs only[vQ,BD,↓reduceIte,jB,Nat.zero_add,enP,SK,JE,MK,bxE,DF PX,DF ag3,ABC,KN,List.length_map]
 generalize he:e.args.length=n
 have hm:(n:Int).tmod 2=(n:Int) % 2:=Int.tmod_eq_emod_of_nonneg (by omega)
 have b1:J7 Tryz.prog 3 .rem (.int .i64 (n:Int)) (.int .i64 2)=some (.int .i64 ((n:Int) % 2)):=by rw[AQ7 _ _ _ _ _ (by decide),hm]
 refine CU (fun hc => ?_) (fun hc => ?_)
 ·simp -implicitDefEqProofs only[vQ,CO,BD,↓reduceIte,jB,enP,b1]
  cases ha:((n:Int) % 2 == 1) <;> cases hb:decide ((n:Int)≥3)
  all_goals
   simp -implicitDefEqProofs only[vQ,CO,BD,EY,↓reduceIte,jB,enP,ha,hb]
   exact⟨by unfold ZU; rw[if_pos hc,ha,hb]; simp,_,rfl⟩
 ·simp -implicitDefEqProofs only[vQ,BD,List.map_cons,List.map_nil,List.append_nil,↓reduceIte,jB,enP,JE,DF ag3,KN]
  refine(APA G e.op _).use ?_
  simp -implicitDefEqProofs only[vQ,BD,↓reduceIte,jB,enP]
  exact⟨by unfold ZU; rw[if_neg (by rw[hc]; decide)],_,rfl⟩
end Go.Proofs.YtfpagfhhhlljjaaGreatDoor.Cov
namespace Go.Proofs.YtfpagfhhhlljjaaGreatDoor.Cov
open Sm Bins Go.Shelf Go.RowKit
open Bool renaming and_eq_true→jX
open Int renaming toNat_natCast→wR
open List renaming drop_eq_getElem_cons→zN,getElem?_eq_getElem→jO
def AWK:Go.Shelf.Ren:=⟨fun | 145=>184 | 220=>214 | 219=>242 | 217=>254 | 225=>255 | 224=>256 | 267=>257 | 266=>273 | 314=>274 | n=>n,fun | 9=>9 | 4=>4 | 59=>202 | 3=>3 | 5=>5 | 46=>201 | 146=>253 | 51=>225 | n=>n,fun | 1=>1 | n=>n⟩
theorem A69:Go.Proofs.Lays.n145 Tryz.prog AWK := {
 mixed:=by kernel_rfl,
 f145:=Tryz.func184.trans (congrArg some (by kernel_rfl)),
 f217:=Tryz.func254.trans (congrArg some (by kernel_rfl)),
 f219:=Tryz.func242.trans (congrArg some (by kernel_rfl)),
 f220:=Tryz.func214.trans (congrArg some (by kernel_rfl)),
 f224:=Tryz.func256.trans (congrArg some (by kernel_rfl)),
 f225:=Tryz.func255.trans (congrArg some (by kernel_rfl)),
 f266:=Tryz.func273.trans (congrArg some (by kernel_rfl)),
 f267:=Tryz.func257.trans (congrArg some (by kernel_rfl)),
 f314:=Tryz.func274.trans (congrArg some (by kernel_rfl)),
 t3:=Tryz.underlying3,
 a3:=Tryz.isAgg3,
 z3:=Tryz.sizeOf3,
 v3:=Tryz.zeroValue3,
 t4:=Tryz.underlying4,
 a4:=Tryz.isAgg4,
 z4:=Tryz.sizeOf4,
 v4:=Tryz.zeroValue4,
 t5:=Tryz.underlying5,
 a5:=Tryz.isAgg5,
 z5:=Tryz.sizeOf5,
 v5:=Tryz.zeroValue5,
 t9:=Tryz.underlying9,
 a9:=Tryz.isAgg9,
 z9:=Tryz.sizeOf9,
 v9:=Tryz.zeroValue9,
 t46:=Tryz.underlying201,
 a46:=Tryz.isAgg201,
 z46:=Tryz.sizeOf201,
 v46:=Tryz.zeroValue201,
 t51:=Tryz.underlying225,
 a51:=Tryz.isAgg225,
 z51:=Tryz.sizeOf225,
 v51:=Tryz.zeroValue225,
 t59:=Tryz.underlying202,
 a59:=Tryz.isAgg202,
 z59:=Tryz.sizeOf202,
 v59:=Tryz.zeroValue202,
 t146:=Tryz.underlying253,
 a146:=Tryz.isAgg253,
 z146:=Tryz.sizeOf253,
 v146:=Tryz.zeroValue253,
 g1:=by kernel_rfl }
structure GOk (G:Nat→AV):Prop where
 kw:KwG G
 mx : ∃ n,G 1 = .fptr 1 [[.int .i64 n]] 0 0
theorem AVZ {G:Nat→AV}{g:Gh}{h:Hp}{w:World}{n:Nat}{k:IntKind}{z:Int}(S:SimH (En G) g h w)(hn:G n = .fptr 1 [[.int k z]] 0 0):w.cell? ⟨n,0,none⟩=some (.int k z):=by
 have:=S.glob n
 rw[enG,hn] at this
 generalize hp:Value.pointer (some ⟨n,0,none⟩)=p at this
 cases this with
 | fptr k' xs i j cb co c e fz cv h1 h2 h3 h4 =>
   simp only[Value.pointer.injEq,Option.some.injEq,Addr.mk.injEq] at hp
   obtain⟨rfl,hco,_⟩:=hp
   have h5:=h3 0 0 (by simp) (by simp)
   have h6:=h4 0 0 _ _ rfl rfl
   generalize cv 0 0=u at h5 h6
   cases h6
   simp only[World.cell?,S.fro _ _ h1]
   subst hco
   exact h5
def cutV (s:ByteArray):AV := .tup [.str ⟨(Lib.cut s.data.toList [91]).1.toArray⟩,.str ⟨(Lib.cut s.data.toList [91]).2.1.toArray⟩,.bool (Lib.cut s.data.toList [91]).2.2]
theorem AWJ (G:Nat→AV)(hG:GOk G)(s:ByteArray)(h:Hp)(hl:s.size≤1048576):PCall (En G) 184 [.str s,.str ⟨#[91]⟩] h (cutV s):=by
 refine PCall.of_reads (cok 184 G (by kernel_rfl)) fun g w cargs S ha => ?_
 obtain⟨hsz,hget⟩:=ha
 obtain⟨cv0,cv1,rfl⟩ : ∃ a b,cargs = #[a,b]:=by
  obtain⟨l⟩:=cargs
  match l,hsz with
  | [a,b],_=>exact⟨a,b,rfl⟩
 obtain rfl:=(hget 0 _ cv0 rfl rfl).str_inv
 obtain rfl:=(hget 1 _ cv1 rfl rfl).str_inv
 obtain⟨z,hz⟩:=hG.mx
 have hc:=AVZ S hz
 have:=Any.strings_Cut A69 s ⟨#[91]⟩ z w (by omega) hc
 refine⟨_,?_,this⟩
 refine .tup _ _ rfl ?_
 intro i v cv h1 h2
 match i,h1,h2 with
 | 0,h1,h2=>simp at h1 h2; subst h1; subst h2; exact .str _ _
 | 1,h1,h2=>simp at h1 h2; subst h1; subst h2; exact .str _ _
 | 2,h1,h2=>simp at h1 h2; subst h1; subst h2; exact .bool _ _
def PV (s:ByteArray):Option (List UInt8 × UInt8) :=
 if 4≤s.data.toList.length then match s.data.toList.drop (s.data.toList.length - 3) with
  | [x,d,y]=>if(y == 93 && x == 91 && decide (48≤d.toNat) && decide (d.toNat < 56) && IA ⟨(s.data.toList.take (s.data.toList.length - 3)).toArray⟩)=true then some (s.data.toList.take (s.data.toList.length - 3),d) else none
  | _=>none
 else none
def elemV (o:Option (List UInt8 × UInt8)):AV:=match o with
 | some (a,d) => .tup [.str ⟨a.toArray⟩,.int .i64 ((d.toNat:Int) - 48),.bool true]
 | none => .tup [.str ⟨#[]⟩,.int .i64 0,.bool false]
theorem AQE {l:List UInt8}(h:IA ⟨l.toArray⟩=true):l≠[]∧∀ b∈l,b≠91:=by
 have hw:SY ⟨l.toArray⟩=true:=by
  unfold IA at h
  exact(Bool.and_eq_true_iff.1 (Bool.and_eq_true_iff.1 h).1).1
 unfold SY at hw
 obtain⟨h1,h2⟩:=Bool.and_eq_true_iff.1 hw
 refine⟨?_,?_⟩
 ·intro e; subst e; cases h1
 ·intro b hb e
  subst e
  have:=List.all_eq_true.1 h2 91 hb
  revert this; decide
theorem three {l:List UInt8}(h:3≤l.length) : ∃ a x d y,l=a++[x,d,y]:=by
 refine⟨l.take (l.length - 3),?_⟩
 have h1:(l.drop (l.length - 3)).length=3:=by simp; omega
 match hm:l.drop (l.length - 3),h1 with
 | [x,d,y],_=>exact⟨x,d,y,by rw[← hm,List.take_append_drop]⟩
theorem AD9 {a:List UInt8}{x d y:UInt8}(ha:a≠[]):PV ⟨(a++[x,d,y]).toArray⟩=if(y == 93 && x == 91 && decide (48≤d.toNat) && decide (d.toNat < 56) && IA ⟨a.toArray⟩)=true then some (a,d) else none:=by
 have hl:0 < a.length:=List.length_pos_iff.2 ha
 unfold PV
 simp only
 rw[if_pos (by simp; omega)]
 have e:(a++[x,d,y]).length - 3=a.length:=by simp
 rw[e,List.drop_left,List.take_left]
theorem AWE (s:ByteArray):PV s=if((Lib.cut s.data.toList [91]).2.2 && IA ⟨(Lib.cut s.data.toList [91]).1.toArray⟩)=true then match (Lib.cut s.data.toList [91]).2.1 with
  | [d,y]=>if(y == 93 && decide (48≤d.toNat) && decide (d.toNat < 56))=true then some ((Lib.cut s.data.toList [91]).1,d) else none
  | _=>none
 else none:=by
 obtain⟨⟨l⟩⟩:=s
 have hocc : ∀ i,Lib.occAt l [91] i=true↔l[i]? = some 91:=by
  intro i
  unfold Lib.occAt
  rcases Nat.lt_or_ge i l.length with h | h
  ·rw[zN h,jO h]
   simp [List.isPrefixOf]
   exact eq_comm
  ·rw[List.drop_eq_nil_of_le h,List.getElem?_eq_none h]; simp [List.isPrefixOf]
 -- an element name of the reference's kind
 have main : ∀ a d,a≠[]→IA ⟨a.toArray⟩=true→l=a++[91,d,93]→Lib.cut l [91]=(a,[d,93],true):=by
  intro a d ha hn hl
  obtain⟨_,hne⟩:=AQE hn
  have hi:Lib.index l [91]=(a.length:Int):=by
   refine Lib.index_first (by rw[hl]; simp) ((hocc _).2 (by rw[hl]; simp)) fun j hj => ?_
   rw[← Bool.not_eq_true,hocc,hl,List.getElem?_append_left hj,jO hj]
   intro e
   exact hne _ (List.getElem_mem hj) (Option.some.inj e)
  unfold Lib.cut
  rw[hi,if_pos (by omega),wR,hl,List.take_left,← List.drop_drop,List.drop_left]
  rfl
 show PV ⟨l.toArray⟩=_
 rcases hcase:PV ⟨l.toArray⟩ with _ | ⟨a,d⟩
 ·symm
  show(if _ then _ else none)=none
  simp only
  split
  ·rename_i hb
   rw[jX] at hb
   split
   ·rename_i d y hm
    split
    ·rename_i hd
     exfalso
     simp only[jX,beq_iff_eq,decide_eq_true_eq] at hd
     obtain⟨⟨rfl,hd1⟩,hd2⟩:=hd
     obtain⟨ha,_⟩:=AQE hb.2
     have hc:Lib.cut l [91]=((Lib.cut l [91]).1,[d,93],true):=by
      rw[← hm]; have:=hb.1; cases hcc:Lib.cut l [91] with
      | mk p q=>cases q with
        | mk q1 q2=>rw[hcc] at this; simp at this; subst this; rfl
     have hl:l=(Lib.cut l [91]).1++[91,d,93]:=by
      generalize (Lib.cut l [91]).1=b at hc
      unfold Lib.cut at hc
      split at hc
      ·rename_i h0
       obtain⟨i,hi⟩ : ∃ i:Nat,Lib.index l [91]=i:=⟨(Lib.index l [91]).toNat,by omega⟩
       rw[hi] at hc
       simp only[wR,Prod.mk.injEq,List.length_singleton] at hc
       rcases Lib.index_spec l [91] with⟨h1,_⟩ | ⟨j,h1,_,h3,_⟩
       ·omega
       ·have hj:i=j:=by omega
        subst hj
        have h4:=(hocc i).1 h3
        have h5:i < l.length:=(List.getElem?_eq_some_iff.1 h4).1
        have h6:l[i]=91:=by rw[jO h5] at h4; exact Option.some.inj h4
        rw[← hc.1]
        calc l=l.take i++l.drop i:=(List.take_append_drop i l).symm
         _=l.take i++(l[i] :: l.drop (i+1)):=by rw[zN h5]
         _=l.take i++[91,d,93]:=by rw[h6,hc.2.1]
      ·simp at hc
     have:=AD9 (x:=91) (d:=d) (y:=93) ha
     rw[← hl,hcase,if_pos (by simp [hb.2,hd1,hd2])] at this
     cases this
    ·rfl
   ·rfl
  ·rfl
 ·have h4:4≤l.length:=by
   unfold PV at hcase
   simp only at hcase
   split at hcase
   ·assumption
   ·cases hcase
  obtain⟨b,x,d',y,rfl⟩:=three (show 3≤l.length by omega)
  have hb:b≠[]:=by intro e; subst e; simp at h4
  rw[AD9 hb] at hcase
  split at hcase
  ·rename_i hc
   cases hcase
   simp only[jX,beq_iff_eq,decide_eq_true_eq] at hc
   obtain⟨⟨⟨⟨rfl,rfl⟩,h1⟩,h2⟩,h3⟩:=hc
   simp only
   rw[main a d hb h3 rfl]
   simp [h3,h1,h2]
  ·cases hcase
end Go.Proofs.YtfpagfhhhlljjaaGreatDoor.Cov
