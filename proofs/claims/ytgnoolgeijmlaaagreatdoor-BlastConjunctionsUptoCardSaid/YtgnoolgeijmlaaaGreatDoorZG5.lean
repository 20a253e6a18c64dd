/- Part 5 of the proof (Ft, B1, B2, B4, B5, B6, E1, E2, E3, E4, E5, E6); no condition. -/
import Derived.Test.YtgnoolgeijmlaaaGreatDoorProg
import Derived.KernelRfl
import Derived.Laws.RangeAny
import Derived.Shelf.Strings.Cut
import Derived.Lib.IndexMore
import Derived.Test.YtgnoolgeijmlaaaGreatDoorZG4
set_option linter.unusedVariables false
namespace Go.Proofs.YtgnoolgeijmlaaaGreatDoor.Sm

theorem sz3:szO Tryz.prog 3=some 1:=by kernel_rfl
theorem ag3:JG Tryz.prog 3=some false:=by kernel_rfl
theorem sz4:szO Tryz.prog 4=some 1:=by kernel_rfl
theorem ag4:JG Tryz.prog 4=some false:=by kernel_rfl
theorem sz9:szO Tryz.prog 9=some 1:=by kernel_rfl
theorem ag9:JG Tryz.prog 9=some false:=by kernel_rfl
theorem TI:JG Tryz.prog 22=some false:=by kernel_rfl
theorem A39:szO Tryz.prog 23=some 1:=by kernel_rfl
theorem VQ:JG Tryz.prog 23=some false:=by kernel_rfl
theorem AZ7:JG Tryz.prog 24=some false:=by kernel_rfl
theorem AXB:JG Tryz.prog 25=some false:=by kernel_rfl
theorem UR:szO Tryz.prog 27=some 5:=by kernel_rfl
theorem VP:JG Tryz.prog 27=some true:=by kernel_rfl
theorem AYU:szO Tryz.prog 29=some 1:=by kernel_rfl
theorem AQC:JG Tryz.prog 29=some false:=by kernel_rfl
theorem A0R:szO Tryz.prog 33=some 1:=by kernel_rfl
theorem AE1:JG Tryz.prog 33=some false:=by kernel_rfl
theorem AQ5:szO Tryz.prog 35=some 1:=by kernel_rfl
theorem AZ6:JG Tryz.prog 35=some true:=by kernel_rfl
theorem QB:szO Tryz.prog 37=some 4:=by kernel_rfl
theorem VO:JG Tryz.prog 37=some true:=by kernel_rfl
theorem sz39:szO Tryz.prog 39=some 1:=by kernel_rfl
theorem ag39:JG Tryz.prog 39=some false:=by kernel_rfl
theorem TP:szO Tryz.prog 61=some 3:=by kernel_rfl
theorem AEC:JG Tryz.prog 61=some true:=by kernel_rfl
theorem AQ4:szO Tryz.prog 65=some 4:=by kernel_rfl
theorem A3J:JG Tryz.prog 65=some true:=by kernel_rfl
theorem A0Q:szO Tryz.prog 68=some 1:=by kernel_rfl
theorem AXA:JG Tryz.prog 68=some false:=by kernel_rfl
theorem sz74:szO Tryz.prog 74=some 16:=by kernel_rfl
theorem ag74:JG Tryz.prog 74=some true:=by kernel_rfl
theorem A3I:JG Tryz.prog 76=some false:=by kernel_rfl
theorem ag84:JG Tryz.prog 84=some false:=by kernel_rfl
theorem AQ3:szO Tryz.prog 97=some 1:=by kernel_rfl
theorem AQB:JG Tryz.prog 97=some false:=by kernel_rfl
theorem A0U:szO Tryz.prog 103=some 1:=by kernel_rfl
theorem A3N:JG Tryz.prog 103=some false:=by kernel_rfl
theorem A0T:szO Tryz.prog 107=some 1:=by kernel_rfl
theorem A0S:szO Tryz.prog 132=some 3:=by kernel_rfl
theorem A3M:JG Tryz.prog 132=some true:=by kernel_rfl
theorem ag133:JG Tryz.prog 133=some false:=by kernel_rfl
theorem AYI:JG Tryz.prog 139=some false:=by kernel_rfl
theorem AID:szO Tryz.prog 141=some 2:=by kernel_rfl
theorem AYH:JG Tryz.prog 141=some true:=by kernel_rfl
theorem AM9:szO Tryz.prog 143=some 4:=by kernel_rfl
theorem AYG:JG Tryz.prog 143=some true:=by kernel_rfl
theorem AXN:szO Tryz.prog 163=some 1:=by kernel_rfl
theorem AGA:JG Tryz.prog 163=some false:=by kernel_rfl
theorem ag171:JG Tryz.prog 171=some false:=by kernel_rfl
theorem ag173:JG Tryz.prog 173=some false:=by kernel_rfl
theorem AIC:szO Tryz.prog 179=some 5:=by kernel_rfl
theorem A3L:JG Tryz.prog 179=some true:=by kernel_rfl
theorem ag197:JG Tryz.prog 197=some false:=by kernel_rfl
theorem bn4 : ∀ p q,JC Tryz.prog 4 .neq (.bool p) (.bool q)=some (.bool (!(p == q))):=fun p q=>ATW Tryz.prog 4 p q (by kernel_rfl)
theorem ln9 : ∀ s,LY Tryz.prog 9 (.str s)=some (.int .i64 s.size):=AVZ (by kernel_rfl:Tryz.prog.underlying 9=some .string)
theorem QH : ∀ h a i,GI Tryz.prog h 22 a i=KF 4 h a i:=I4 (by kernel_rfl:Tryz.prog.underlying 22=some (.slice 65)) AQ4
theorem RN:(∀ m k xs,LY Tryz.prog 22 (.sl m k xs)=some (.int .i64 xs.length))∧∀ b off len,LY Tryz.prog 22 (.own b off len)=some (.int .i64 len):=QC (by kernel_rfl:Tryz.prog.underlying 22=some (.slice 65))
theorem A32:Tryz.prog.underlying 22=some (.slice 65):=by kernel_rfl
theorem WJ : ∀ h a i,GI Tryz.prog h 23 a i=KF 4 h a i:=I4 (by kernel_rfl:Tryz.prog.underlying 23=some (.slice 37)) QB
theorem UU:(∀ m k xs,LY Tryz.prog 23 (.sl m k xs)=some (.int .i64 xs.length))∧∀ b off len,LY Tryz.prog 23 (.own b off len)=some (.int .i64 len):=QC (by kernel_rfl:Tryz.prog.underlying 23=some (.slice 37))
theorem AQ0:Tryz.prog.underlying 23=some (.slice 37):=by kernel_rfl
theorem A0C:ABP Tryz.prog 37=some 4:=by kernel_rfl
theorem A2P:OD Tryz.prog 37=some 56:=by kernel_rfl
theorem AGW : ∀ h a i,GI Tryz.prog h 24 a i=KF 2 h a i:=I4 (by kernel_rfl:Tryz.prog.underlying 24=some (.slice 141)) AID
theorem AZB:(∀ m k xs,LY Tryz.prog 24 (.sl m k xs)=some (.int .i64 xs.length))∧∀ b off len,LY Tryz.prog 24 (.own b off len)=some (.int .i64 len):=QC (by kernel_rfl:Tryz.prog.underlying 24=some (.slice 141))
theorem A31:Tryz.prog.underlying 24=some (.slice 141):=by kernel_rfl
theorem OM : ∀ h a i,GI Tryz.prog h 25 a i=KF 1 h a i:=I4 (by kernel_rfl:Tryz.prog.underlying 25=some (.slice 29)) AYU
theorem AR8:(∀ m k xs,LY Tryz.prog 25 (.sl m k xs)=some (.int .i64 xs.length))∧∀ b off len,LY Tryz.prog 25 (.own b off len)=some (.int .i64 len):=QC (by kernel_rfl:Tryz.prog.underlying 25=some (.slice 29))
theorem A0M:Tryz.prog.underlying 25=some (.slice 29):=by kernel_rfl
theorem A0B:ABP Tryz.prog 29=some 1:=by kernel_rfl
theorem A2O:OD Tryz.prog 29=some 24:=by kernel_rfl
theorem J9:(∀ b i j,CY Tryz.prog 27 (.ptr b i j) 0=some (.ptr b i (j+0)))∧(∀ k xs i j,CY Tryz.prog 27 (.fptr k xs i j) 0=some (.fptr k xs i (j+0))):=IP (by kernel_rfl:JZ Tryz.prog 27 0 0=true)
theorem AS8:(∀ b i j,CY Tryz.prog 27 (.ptr b i j) 1=some (.ptr b i (j+1)))∧(∀ k xs i j,CY Tryz.prog 27 (.fptr k xs i j) 1=some (.fptr k xs i (j+1))):=IP (by kernel_rfl:JZ Tryz.prog 27 1 1=true)
theorem AS7:(∀ b i j,CY Tryz.prog 27 (.ptr b i j) 2=some (.ptr b i (j+2)))∧(∀ k xs i j,CY Tryz.prog 27 (.fptr k xs i j) 2=some (.fptr k xs i (j+2))):=IP (by kernel_rfl:JZ Tryz.prog 27 2 2=true)
theorem ALX:(∀ b i j,CY Tryz.prog 27 (.ptr b i j) 3=some (.ptr b i (j+3)))∧(∀ k xs i j,CY Tryz.prog 27 (.fptr k xs i j) 3=some (.fptr k xs i (j+3))):=IP (by kernel_rfl:JZ Tryz.prog 27 3 3=true)
theorem AAP:(∀ b i j,CY Tryz.prog 27 (.ptr b i j) 4=some (.ptr b i (j+4)))∧(∀ k xs i j,CY Tryz.prog 27 (.fptr k xs i j) 4=some (.fptr k xs i (j+4))):=IP (by kernel_rfl:JZ Tryz.prog 27 4 4=true)
theorem KP : ∀ h a i,GI Tryz.prog h 29 a i=KF 1 h a i:=I4 (by kernel_rfl:Tryz.prog.underlying 29=some (.slice 3)) sz3
theorem Y3:(∀ m k xs,LY Tryz.prog 29 (.sl m k xs)=some (.int .i64 xs.length))∧∀ b off len,LY Tryz.prog 29 (.own b off len)=some (.int .i64 len):=QC (by kernel_rfl:Tryz.prog.underlying 29=some (.slice 3))
theorem A0L:Tryz.prog.underlying 29=some (.slice 3):=by kernel_rfl
theorem A3Y:ABP Tryz.prog 3=some 1:=by kernel_rfl
theorem A2N:OD Tryz.prog 3=some 8:=by kernel_rfl
theorem WI : ∀ h a i,GI Tryz.prog h 33 a i=KF 3 h a i:=I4 (by kernel_rfl:Tryz.prog.underlying 33=some (.slice 61)) TP
theorem U7:(∀ m k xs,LY Tryz.prog 33 (.sl m k xs)=some (.int .i64 xs.length))∧∀ b off len,LY Tryz.prog 33 (.own b off len)=some (.int .i64 len):=QC (by kernel_rfl:Tryz.prog.underlying 33=some (.slice 61))
theorem AQZ:Tryz.prog.underlying 33=some (.slice 61):=by kernel_rfl
theorem AUL:ABP Tryz.prog 61=some 3:=by kernel_rfl
theorem AWU:OD Tryz.prog 61=some 24:=by kernel_rfl
theorem OA:(∀ b i j,CY Tryz.prog 35 (.ptr b i j) 0=some (.ptr b i (j+0)))∧(∀ k xs i j,CY Tryz.prog 35 (.fptr k xs i j) 0=some (.fptr k xs i (j+0))):=IP (by kernel_rfl:JZ Tryz.prog 35 0 0=true)
theorem FY:(∀ b i j,CY Tryz.prog 37 (.ptr b i j) 0=some (.ptr b i (j+0)))∧(∀ k xs i j,CY Tryz.prog 37 (.fptr k xs i j) 0=some (.fptr k xs i (j+0))):=IP (by kernel_rfl:JZ Tryz.prog 37 0 0=true)
theorem AAO:(∀ b i j,CY Tryz.prog 37 (.ptr b i j) 1=some (.ptr b i (j+1)))∧(∀ k xs i j,CY Tryz.prog 37 (.fptr k xs i j) 1=some (.fptr k xs i (j+1))):=IP (by kernel_rfl:JZ Tryz.prog 37 1 1=true)
theorem LD:(∀ b i j,CY Tryz.prog 37 (.ptr b i j) 2=some (.ptr b i (j+2)))∧(∀ k xs i j,CY Tryz.prog 37 (.fptr k xs i j) 2=some (.fptr k xs i (j+2))):=IP (by kernel_rfl:JZ Tryz.prog 37 2 2=true)
theorem MS:(∀ b i j,CY Tryz.prog 37 (.ptr b i j) 3=some (.ptr b i (j+3)))∧(∀ k xs i j,CY Tryz.prog 37 (.fptr k xs i j) 3=some (.fptr k xs i (j+3))):=IP (by kernel_rfl:JZ Tryz.prog 37 3 3=true)
theorem AV2 : ∀ h a i,GI Tryz.prog h 55 a i=KF 1 h a i:=I4 (by kernel_rfl:Tryz.prog.underlying 55=some (.slice 4)) sz4
theorem A4T:(∀ m k xs,LY Tryz.prog 55 (.sl m k xs)=some (.int .i64 xs.length))∧∀ b off len,LY Tryz.prog 55 (.own b off len)=some (.int .i64 len):=QC (by kernel_rfl:Tryz.prog.underlying 55=some (.slice 4))
theorem A30:Tryz.prog.underlying 55=some (.slice 4):=by kernel_rfl
theorem A47:OD Tryz.prog 4=some 1:=by kernel_rfl
theorem Q5:(∀ b i j,CY Tryz.prog 61 (.ptr b i j) 0=some (.ptr b i (j+0)))∧(∀ k xs i j,CY Tryz.prog 61 (.fptr k xs i j) 0=some (.fptr k xs i (j+0))):=IP (by kernel_rfl:JZ Tryz.prog 61 0 0=true)
theorem VG:(∀ b i j,CY Tryz.prog 61 (.ptr b i j) 1=some (.ptr b i (j+1)))∧(∀ k xs i j,CY Tryz.prog 61 (.fptr k xs i j) 1=some (.fptr k xs i (j+1))):=IP (by kernel_rfl:JZ Tryz.prog 61 1 1=true)
theorem VF:(∀ b i j,CY Tryz.prog 61 (.ptr b i j) 2=some (.ptr b i (j+2)))∧(∀ k xs i j,CY Tryz.prog 61 (.fptr k xs i j) 2=some (.fptr k xs i (j+2))):=IP (by kernel_rfl:JZ Tryz.prog 61 2 2=true)
theorem OY:(∀ b i j,CY Tryz.prog 65 (.ptr b i j) 0=some (.ptr b i (j+0)))∧(∀ k xs i j,CY Tryz.prog 65 (.fptr k xs i j) 0=some (.fptr k xs i (j+0))):=IP (by kernel_rfl:JZ Tryz.prog 65 0 0=true)
theorem LM:(∀ b i j,CY Tryz.prog 65 (.ptr b i j) 1=some (.ptr b i (j+1)))∧(∀ k xs i j,CY Tryz.prog 65 (.fptr k xs i j) 1=some (.fptr k xs i (j+1))):=IP (by kernel_rfl:JZ Tryz.prog 65 1 1=true)
theorem MR:(∀ b i j,CY Tryz.prog 65 (.ptr b i j) 2=some (.ptr b i (j+2)))∧(∀ k xs i j,CY Tryz.prog 65 (.fptr k xs i j) 2=some (.fptr k xs i (j+2))):=IP (by kernel_rfl:JZ Tryz.prog 65 2 2=true)
theorem VE:(∀ b i j,CY Tryz.prog 65 (.ptr b i j) 3=some (.ptr b i (j+3)))∧(∀ k xs i j,CY Tryz.prog 65 (.fptr k xs i j) 3=some (.fptr k xs i (j+3))):=IP (by kernel_rfl:JZ Tryz.prog 65 3 3=true)
theorem VC:(∀ b i j,CY Tryz.prog 78 (.ptr b i j) 0=some (.ptr b i (j+0)))∧(∀ k xs i j,CY Tryz.prog 78 (.fptr k xs i j) 0=some (.fptr k xs i (j+0))):=IP (by kernel_rfl:JZ Tryz.prog 78 0 0=true)
theorem AZO:(∀ b i j,CY Tryz.prog 78 (.ptr b i j) 1=some (.ptr b i (j+1)))∧(∀ k xs i j,CY Tryz.prog 78 (.fptr k xs i j) 1=some (.fptr k xs i (j+1))):=IP (by kernel_rfl:JZ Tryz.prog 78 1 1=true)
theorem AZN:(∀ b i j,CY Tryz.prog 78 (.ptr b i j) 2=some (.ptr b i (j+6)))∧(∀ k xs i j,CY Tryz.prog 78 (.fptr k xs i j) 2=some (.fptr k xs i (j+6))):=IP (by kernel_rfl:JZ Tryz.prog 78 2 6=true)
theorem ALW:(∀ b i j,CY Tryz.prog 78 (.ptr b i j) 3=some (.ptr b i (j+7)))∧(∀ k xs i j,CY Tryz.prog 78 (.fptr k xs i j) 3=some (.fptr k xs i (j+7))):=IP (by kernel_rfl:JZ Tryz.prog 78 3 7=true)
theorem A1X : ∀ h a i,GI Tryz.prog h 84 a i=KF 5 h a i:=I4 (by kernel_rfl:Tryz.prog.underlying 84=some (.slice 179)) AIC
theorem A3Z:Tryz.prog.underlying 84=some (.slice 179):=by kernel_rfl
theorem A45:OD Tryz.prog 179=some 40:=by kernel_rfl
theorem Q4:(∀ b i j,CY Tryz.prog 86 (.ptr b i j) 0=some (.ptr b i (j+0)))∧(∀ k xs i j,CY Tryz.prog 86 (.fptr k xs i j) 0=some (.fptr k xs i (j+0))):=IP (by kernel_rfl:JZ Tryz.prog 86 0 0=true)
theorem XP:(∀ b i j,CY Tryz.prog 86 (.ptr b i j) 1=some (.ptr b i (j+1)))∧(∀ k xs i j,CY Tryz.prog 86 (.fptr k xs i j) 1=some (.fptr k xs i (j+1))):=IP (by kernel_rfl:JZ Tryz.prog 86 1 1=true)
theorem AS6:(∀ b i j,CY Tryz.prog 86 (.ptr b i j) 2=some (.ptr b i (j+2)))∧(∀ k xs i j,CY Tryz.prog 86 (.fptr k xs i j) 2=some (.fptr k xs i (j+2))):=IP (by kernel_rfl:JZ Tryz.prog 86 2 2=true)
theorem AS5:(∀ b i j,CY Tryz.prog 86 (.ptr b i j) 3=some (.ptr b i (j+3)))∧(∀ k xs i j,CY Tryz.prog 86 (.fptr k xs i j) 3=some (.fptr k xs i (j+3))):=IP (by kernel_rfl:JZ Tryz.prog 86 3 3=true)
theorem AZM:(∀ b i j,CY Tryz.prog 86 (.ptr b i j) 4=some (.ptr b i (j+8)))∧(∀ k xs i j,CY Tryz.prog 86 (.fptr k xs i j) 4=some (.fptr k xs i (j+8))):=IP (by kernel_rfl:JZ Tryz.prog 86 4 8=true)
theorem XO:(∀ b i j,CY Tryz.prog 86 (.ptr b i j) 5=some (.ptr b i (j+9)))∧(∀ k xs i j,CY Tryz.prog 86 (.fptr k xs i j) 5=some (.fptr k xs i (j+9))):=IP (by kernel_rfl:JZ Tryz.prog 86 5 9=true)
theorem ALK : ∀ h a i,GI Tryz.prog h 97 a i=KF 1 h a i:=I4 (by kernel_rfl:Tryz.prog.underlying 97=some (.slice 9)) sz9
theorem Y2:(∀ m k xs,LY Tryz.prog 97 (.sl m k xs)=some (.int .i64 xs.length))∧∀ b off len,LY Tryz.prog 97 (.own b off len)=some (.int .i64 len):=QC (by kernel_rfl:Tryz.prog.underlying 97=some (.slice 9))
theorem AQY:Tryz.prog.underlying 97=some (.slice 9):=by kernel_rfl
theorem AQJ:ABP Tryz.prog 9=some 1:=by kernel_rfl
theorem ATS:OD Tryz.prog 9=some 16:=by kernel_rfl
theorem AG8:(∀ b i j,CY Tryz.prog 99 (.ptr b i j) 0=some (.ptr b i (j+0)))∧(∀ k xs i j,CY Tryz.prog 99 (.fptr k xs i j) 0=some (.fptr k xs i (j+0))):=IP (by kernel_rfl:JZ Tryz.prog 99 0 0=true)
theorem ADN:(∀ b i j,CY Tryz.prog 99 (.ptr b i j) 1=some (.ptr b i (j+1)))∧(∀ k xs i j,CY Tryz.prog 99 (.fptr k xs i j) 1=some (.fptr k xs i (j+1))):=IP (by kernel_rfl:JZ Tryz.prog 99 1 1=true)
theorem XN:(∀ b i j,CY Tryz.prog 99 (.ptr b i j) 2=some (.ptr b i (j+2)))∧(∀ k xs i j,CY Tryz.prog 99 (.fptr k xs i j) 2=some (.fptr k xs i (j+2))):=IP (by kernel_rfl:JZ Tryz.prog 99 2 2=true)
theorem ADM:(∀ b i j,CY Tryz.prog 99 (.ptr b i j) 3=some (.ptr b i (j+3)))∧(∀ k xs i j,CY Tryz.prog 99 (.fptr k xs i j) 3=some (.fptr k xs i (j+3))):=IP (by kernel_rfl:JZ Tryz.prog 99 3 3=true)
theorem XM:(∀ b i j,CY Tryz.prog 99 (.ptr b i j) 4=some (.ptr b i (j+4)))∧(∀ k xs i j,CY Tryz.prog 99 (.fptr k xs i j) 4=some (.fptr k xs i (j+4))):=IP (by kernel_rfl:JZ Tryz.prog 99 4 4=true)
theorem AWI:(∀ b i j,CY Tryz.prog 107 (.ptr b i j) 0=some (.ptr b i (j+0)))∧(∀ k xs i j,CY Tryz.prog 107 (.fptr k xs i j) 0=some (.fptr k xs i (j+0))):=IP (by kernel_rfl:JZ Tryz.prog 107 0 0=true)
theorem UK : ∀ h a i,GI Tryz.prog h 109 a i=KF 16 h a i:=I4 (by kernel_rfl:Tryz.prog.underlying 109=some (.slice 74)) sz74
theorem A1N:(∀ m k xs,LY Tryz.prog 109 (.sl m k xs)=some (.int .i64 xs.length))∧∀ b off len,LY Tryz.prog 109 (.own b off len)=some (.int .i64 len):=QC (by kernel_rfl:Tryz.prog.underlying 109=some (.slice 74))
theorem ud109:Tryz.prog.underlying 109=some (.slice 74):=by kernel_rfl
theorem ZJ:(∀ b i j,CY Tryz.prog 132 (.ptr b i j) 0=some (.ptr b i (j+0)))∧(∀ k xs i j,CY Tryz.prog 132 (.fptr k xs i j) 0=some (.fptr k xs i (j+0))):=IP (by kernel_rfl:JZ Tryz.prog 132 0 0=true)
theorem ZI:(∀ b i j,CY Tryz.prog 132 (.ptr b i j) 1=some (.ptr b i (j+1)))∧(∀ k xs i j,CY Tryz.prog 132 (.fptr k xs i j) 1=some (.fptr k xs i (j+1))):=IP (by kernel_rfl:JZ Tryz.prog 132 1 1=true)
theorem ZH:(∀ b i j,CY Tryz.prog 132 (.ptr b i j) 2=some (.ptr b i (j+2)))∧(∀ k xs i j,CY Tryz.prog 132 (.fptr k xs i j) 2=some (.fptr k xs i (j+2))):=IP (by kernel_rfl:JZ Tryz.prog 132 2 2=true)
theorem AXZ : ∀ h a i,GI Tryz.prog h 139 a i=KF 4 h a i:=I4 (by kernel_rfl:Tryz.prog.underlying 139=some (.slice 143)) AM9
theorem ANW:(∀ m k xs,LY Tryz.prog 139 (.sl m k xs)=some (.int .i64 xs.length))∧∀ b off len,LY Tryz.prog 139 (.own b off len)=some (.int .i64 len):=QC (by kernel_rfl:Tryz.prog.underlying 139=some (.slice 143))
theorem V9:(∀ b i j,CY Tryz.prog 141 (.ptr b i j) 0=some (.ptr b i (j+0)))∧(∀ k xs i j,CY Tryz.prog 141 (.fptr k xs i j) 0=some (.fptr k xs i (j+0))):=IP (by kernel_rfl:JZ Tryz.prog 141 0 0=true)
theorem ZG:(∀ b i j,CY Tryz.prog 141 (.ptr b i j) 1=some (.ptr b i (j+1)))∧(∀ k xs i j,CY Tryz.prog 141 (.fptr k xs i j) 1=some (.fptr k xs i (j+1))):=IP (by kernel_rfl:JZ Tryz.prog 141 1 1=true)
theorem PO:(∀ b i j,CY Tryz.prog 143 (.ptr b i j) 0=some (.ptr b i (j+0)))∧(∀ k xs i j,CY Tryz.prog 143 (.fptr k xs i j) 0=some (.fptr k xs i (j+0))):=IP (by kernel_rfl:JZ Tryz.prog 143 0 0=true)
theorem SB:(∀ b i j,CY Tryz.prog 143 (.ptr b i j) 1=some (.ptr b i (j+1)))∧(∀ k xs i j,CY Tryz.prog 143 (.fptr k xs i j) 1=some (.fptr k xs i (j+1))):=IP (by kernel_rfl:JZ Tryz.prog 143 1 1=true)
theorem ACC:(∀ b i j,CY Tryz.prog 143 (.ptr b i j) 2=some (.ptr b i (j+2)))∧(∀ k xs i j,CY Tryz.prog 143 (.fptr k xs i j) 2=some (.fptr k xs i (j+2))):=IP (by kernel_rfl:JZ Tryz.prog 143 2 2=true)
theorem A1Y : ∀ h a i,GI Tryz.prog h 149 a i=KF 1 h a i:=I4 (by kernel_rfl:Tryz.prog.underlying 149=some (.slice 103)) A0U
theorem A1M:(∀ m k xs,LY Tryz.prog 149 (.sl m k xs)=some (.int .i64 xs.length))∧∀ b off len,LY Tryz.prog 149 (.own b off len)=some (.int .i64 len):=QC (by kernel_rfl:Tryz.prog.underlying 149=some (.slice 103))
theorem QI:(∀ b i j,CY Tryz.prog 175 (.ptr b i j) 0=some (.ptr b i (j+0)))∧(∀ k xs i j,CY Tryz.prog 175 (.fptr k xs i j) 0=some (.fptr k xs i (j+0))):=IP (by kernel_rfl:JZ Tryz.prog 175 0 0=true)
theorem AWH:(∀ b i j,CY Tryz.prog 175 (.ptr b i j) 1=some (.ptr b i (j+1)))∧(∀ k xs i j,CY Tryz.prog 175 (.fptr k xs i j) 1=some (.fptr k xs i (j+1))):=IP (by kernel_rfl:JZ Tryz.prog 175 1 1=true)
theorem AHA:(∀ b i j,CY Tryz.prog 175 (.ptr b i j) 2=some (.ptr b i (j+2)))∧(∀ k xs i j,CY Tryz.prog 175 (.fptr k xs i j) 2=some (.fptr k xs i (j+2))):=IP (by kernel_rfl:JZ Tryz.prog 175 2 2=true)
theorem AWG:(∀ b i j,CY Tryz.prog 179 (.ptr b i j) 0=some (.ptr b i (j+0)))∧(∀ k xs i j,CY Tryz.prog 179 (.fptr k xs i j) 0=some (.fptr k xs i (j+0))):=IP (by kernel_rfl:JZ Tryz.prog 179 0 0=true)
theorem AWF:(∀ b i j,CY Tryz.prog 179 (.ptr b i j) 1=some (.ptr b i (j+1)))∧(∀ k xs i j,CY Tryz.prog 179 (.fptr k xs i j) 1=some (.fptr k xs i (j+1))):=IP (by kernel_rfl:JZ Tryz.prog 179 1 1=true)
theorem AWE:(∀ b i j,CY Tryz.prog 179 (.ptr b i j) 2=some (.ptr b i (j+2)))∧(∀ k xs i j,CY Tryz.prog 179 (.fptr k xs i j) 2=some (.fptr k xs i (j+2))):=IP (by kernel_rfl:JZ Tryz.prog 179 2 2=true)
theorem AWD:(∀ b i j,CY Tryz.prog 179 (.ptr b i j) 3=some (.ptr b i (j+3)))∧(∀ k xs i j,CY Tryz.prog 179 (.fptr k xs i j) 3=some (.fptr k xs i (j+3))):=IP (by kernel_rfl:JZ Tryz.prog 179 3 3=true)
theorem AWC:(∀ b i j,CY Tryz.prog 179 (.ptr b i j) 4=some (.ptr b i (j+4)))∧(∀ k xs i j,CY Tryz.prog 179 (.fptr k xs i j) 4=some (.fptr k xs i (j+4))):=IP (by kernel_rfl:JZ Tryz.prog 179 4 4=true)
theorem AXY : ∀ h a i,GI Tryz.prog h 188 a i=KF 1 h a i:=I4 (by kernel_rfl:Tryz.prog.underlying 188=some (.slice 23)) A39
theorem AXT:(∀ m k xs,LY Tryz.prog 188 (.sl m k xs)=some (.int .i64 xs.length))∧∀ b off len,LY Tryz.prog 188 (.own b off len)=some (.int .i64 len):=QC (by kernel_rfl:Tryz.prog.underlying 188=some (.slice 23))
theorem V8:(∀ b i j,CY Tryz.prog 199 (.ptr b i j) 0=some (.ptr b i (j+0)))∧(∀ k xs i j,CY Tryz.prog 199 (.fptr k xs i j) 0=some (.fptr k xs i (j+0))):=IP (by kernel_rfl:JZ Tryz.prog 199 0 0=true)
theorem AG9:(∀ b i j,CY Tryz.prog 199 (.ptr b i j) 1=some (.ptr b i (j+1)))∧(∀ k xs i j,CY Tryz.prog 199 (.fptr k xs i j) 1=some (.fptr k xs i (j+1))):=IP (by kernel_rfl:JZ Tryz.prog 199 1 1=true)
theorem ACB:(∀ b i j,CY Tryz.prog 199 (.ptr b i j) 2=some (.ptr b i (j+2)))∧(∀ k xs i j,CY Tryz.prog 199 (.fptr k xs i j) 2=some (.fptr k xs i (j+2))):=IP (by kernel_rfl:JZ Tryz.prog 199 2 2=true)
theorem A2A : ∀ n,Z5 Tryz.prog 3 5 (.int .i64 n)=some (.int .u8 (IntKind.u8.wrap n)):=fun n=>AJS (ds := .int .i64) Tryz.prog .i64 n (by kernel_rfl) (by kernel_rfl)
theorem AX5 : ∀ n,Z5 Tryz.prog 5 3 (.int .u8 n)=some (.int .i64 (IntKind.i64.wrap n)):=fun n=>AJS (ds := .int .u8) Tryz.prog .u8 n (by kernel_rfl) (by kernel_rfl)
noncomputable def En (G:Nat→AV):Env:=⟨Tryz.prog,G,none,fun _ _=>False⟩
theorem enP (G:Nat→AV):(En G).P=Tryz.prog:=rfl
theorem enX (G:Nat→AV):(En G).nox=En G:=rfl
theorem enG (G:Nat→AV):(En G).G=G:=rfl
theorem enM (G:Nat→AV):(En G).P.follows .mixedOrders=true:=by kernel_rfl
theorem acN {E:Env}{f:FuncId}{fn:Func}{c:Code}{args:List AV}{h:Hp}{R:AV→Hp→Prop}(hf:E.P.funcs[f]? = some fn)(hb:fn.body=some c)(hw:awp E Hint.none c (LW args) h (EK E.P fn.results.toList R))(h0:E.P.follows .mixedOrders=true:=by kernel_rfl)(h1:(fn.name == "runtime.NumGoroutine")=false:=by kernel_rfl) (h2:Q8 fn.ntmps c=true:=by kernel_rfl) (h3:Nat.ble args.length fn.ntmps=true:=by kernel_rfl):ACalls E f args h R:=I5 h0 hf hb h1 h2 (Nat.le_of_ble_eq_true h3) hw
end Go.Proofs.YtgnoolgeijmlaaaGreatDoor.Sm
namespace Go.Proofs.YtgnoolgeijmlaaaGreatDoor.Bins
open Sm
open List renaming drop_eq_getElem_cons→zV
structure Rng where
 lo:Int
 hi:Int
 deriving DecidableEq
def inside (xs:List Rng)(v:Int):Bool:=xs.any fun r=>decide (r.lo≤v) && decide (v≤r.hi)
theorem AD8 {α:Type}(p:α→Bool)(xs:List α)(k:Nat)(h:k < xs.length):(xs.drop k).any p=(p xs[k] || (xs.drop (k+1)).any p):=by
 rw[zV h,List.any_cons]
theorem AWL {α:Type} [DecidableEq α] {xs ys:List α}{k:Nat}(hx:k < xs.length)(hy:k < ys.length):decide (xs.drop k=ys.drop k)=(decide (xs[k]=ys[k]) && decide (xs.drop (k+1)=ys.drop (k+1))):=by
 rw[zV hx,zV hy,Bool.eq_iff_iff];simp only[decide_eq_true_eq,Bool.and_eq_true,List.cons.injEq]
theorem cok (f:FuncId)(G:Nat→AV)(hf:(match Tryz.prog.funcs[f]? with | some fn=>fn.body.isSome && !(fn.name == "runtime.NumGoroutine") | none=>false)=true):X9 (En G).P f:=by
 have he:(En G).P=Tryz.prog:=rfl;unfold X9;rw[he]
 cases hx:Tryz.prog.funcs[f]? with
 | none=>rw[hx] at hf; cases hf
 | some fn =>
   rw[hx] at hf;simp at hf;exact⟨fn,rfl,by simpa using hf.1,by simpa using hf.2⟩
def qencI (n:Int):List AV := [.int .i64 n]
theorem encI0 (n:Int):(qencI n)[0]? = some (.int .i64 n):=rfl
end Go.Proofs.YtgnoolgeijmlaaaGreatDoor.Bins
set_option linter.unusedSimpArgs false
set_option maxRecDepth 8000
namespace Go.Proofs.YtgnoolgeijmlaaaGreatDoor.Bins
open Sm
open Bool renaming not_false→jC
open List renaming map_cons→jF,map_nil→jE,append_nil→jD,length_map→jR,all_eq_true→zQ,getElem?_cons_zero→jS
open Nat renaming le_of_ble_eq_true→jH,reduceEqDiff→jA,lt_or_ge→jY,eq_zero_or_pos→qQ
open Option renaming getD_some→jB
def RJ (n:Int):Bool:=decide (n≥97) && decide (n≤122)
def AJN (n:Int):Bool:=decide (n≥48) && decide (n≤57)
def NR (n:Int):Bool:=RJ n || AJN n || (decide (n≥65) && decide (n≤90)) || n == 95
theorem AC9 (G:Nat→AV)(n:Int)(h:Hp):PCall (En G) 232 [.int .i32 n] h (.bool (RJ n)):=by
 refine acN Tryz.func232 rfl ?_;show awp _ _ _ _ _ (EK _ [.tmp 2] _);simp -implicitDefEqProofs only[vQ,CW,BD,↓reduceIte,jA,enX,enP];refine KO (fun ha => ?_) (fun ha => ?_)
 ·simp -implicitDefEqProofs only[vQ,CW,BD,NG,↓reduceIte,jA,enP,ha]
  exact⟨by unfold RJ; rw[ha]; rfl,trivial⟩
 ·simp -implicitDefEqProofs only[vQ,CW,BD,EX,↓reduceIte,jA,ha]
  exact⟨by unfold RJ; rw[ha]; rfl,trivial⟩
theorem AL4 (G:Nat→AV)(n:Int)(h:Hp):PCall (En G) 241 [.int .i32 n] h (.bool (AJN n)):=by
 refine acN Tryz.func241 rfl ?_;show awp _ _ _ _ _ (EK _ [.tmp 2] _);simp -implicitDefEqProofs only[vQ,CW,BD,↓reduceIte,jA,enX,enP];refine KO (fun ha => ?_) (fun ha => ?_)
 ·simp -implicitDefEqProofs only[vQ,CW,BD,NG,↓reduceIte,jA,enP,ha]
  exact⟨by unfold AJN; rw[ha]; rfl,trivial⟩
 ·simp -implicitDefEqProofs only[vQ,CW,BD,EX,↓reduceIte,jA,ha]
  exact⟨by unfold AJN; rw[ha]; rfl,trivial⟩
theorem AFB (G:Nat→AV)(n:Int)(h:Hp):PCall (En G) 224 [.int .u8 n] h (.bool (RJ n)):=by
 refine acN Tryz.func224 rfl ?_;show awp _ _ _ _ _ (EK _ [.tmp 2] _);simp -implicitDefEqProofs only[vQ,CW,BD,↓reduceIte,jA,enX,enP];refine KO (fun ha => ?_) (fun ha => ?_)
 ·simp -implicitDefEqProofs only[vQ,CW,BD,NG,↓reduceIte,jA,enP,ha]
  exact⟨by unfold RJ; rw[ha]; rfl,trivial⟩
 ·simp -implicitDefEqProofs only[vQ,CW,BD,EX,↓reduceIte,jA,ha]
  exact⟨by unfold RJ; rw[ha]; rfl,trivial⟩
theorem AP2 (G:Nat→AV)(n:Int)(h:Hp):PCall (En G) 240 [.int .u8 n] h (.bool (AJN n)):=by
 refine acN Tryz.func240 rfl ?_;show awp _ _ _ _ _ (EK _ [.tmp 2] _);simp -implicitDefEqProofs only[vQ,CW,BD,↓reduceIte,jA,enX,enP];refine KO (fun ha => ?_) (fun ha => ?_)
 ·simp -implicitDefEqProofs only[vQ,CW,BD,NG,↓reduceIte,jA,enP,ha]
  exact⟨by unfold AJN; rw[ha]; rfl,trivial⟩
 ·simp -implicitDefEqProofs only[vQ,CW,BD,EX,↓reduceIte,jA,ha]
  exact⟨by unfold AJN; rw[ha]; rfl,trivial⟩
theorem ZA (G:Nat→AV)(n:Int)(h:Hp):PCall (En G) 233 [.int .i32 n] h (.bool (NR n)):=by
 refine acN Tryz.func233 rfl ?_;show awp _ _ _ _ _ (EK _ [.tmp 2] _);simp -implicitDefEqProofs only[vQ,BD,↓reduceIte,jA,enX,enP];refine(AC9 G n h).use ?_;simp -implicitDefEqProofs only[vQ,CW,BD,↓reduceIte];refine KO (fun ha => ?_) (fun ha => ?_)
 ·simp -implicitDefEqProofs only[vQ,CW,UY,BD,EX,↓reduceIte,jA,ha]
  exact⟨by unfold NR; rw[ha]; rfl,trivial⟩
 simp -implicitDefEqProofs only[vQ,CW,BD,↓reduceIte,jA,ha];refine(AL4 G n h).use ?_;simp -implicitDefEqProofs only[vQ,CW,BD,↓reduceIte,jA];refine KO (fun hb => ?_) (fun hb => ?_)
 ·simp -implicitDefEqProofs only[vQ,CW,UY,BD,EX,↓reduceIte,jA,hb]
  exact⟨by unfold NR; rw[ha,hb]; rfl,trivial⟩
 simp -implicitDefEqProofs only[vQ,CW,BD,↓reduceIte,jA,enP,hb];refine KO (fun hc => ?_) (fun hc => ?_)
 ·simp -implicitDefEqProofs only[vQ,CW,BD,NG,↓reduceIte,jA,enP,hc]
  refine KO (fun hd => ?_) (fun hd => ?_)
  ·simp -implicitDefEqProofs only[vQ,CW,BD,EX,↓reduceIte,jA,hd]
   exact⟨by unfold NR; rw[ha,hb,hc,hd]; rfl,trivial⟩
  ·simp -implicitDefEqProofs only[vQ,CW,BD,↓reduceIte,jA,enP,hd]
   exact⟨by unfold NR; rw[ha,hb,hc,hd]; rfl,trivial⟩
 ·simp -implicitDefEqProofs only[vQ,CW,BD,EX,↓reduceIte,jA,enP,hc]
  exact⟨by unfold NR; rw[ha,hb,hc]; rfl,trivial⟩
theorem APP (G:Nat→AV)(n:Int)(h:Hp):PCall (En G) 226 [.int .u8 n] h (.bool (NR n)):=by
 refine acN Tryz.func226 rfl ?_;show awp _ _ _ _ _ (EK _ [.tmp 2] _);simp -implicitDefEqProofs only[vQ,BD,↓reduceIte,jA,enX,enP];refine(AFB G n h).use ?_;simp -implicitDefEqProofs only[vQ,CW,BD,↓reduceIte];refine KO (fun ha => ?_) (fun ha => ?_)
 ·simp -implicitDefEqProofs only[vQ,CW,UY,BD,EX,↓reduceIte,jA,ha]
  exact⟨by unfold NR; rw[ha]; rfl,trivial⟩
 simp -implicitDefEqProofs only[vQ,CW,BD,↓reduceIte,jA,ha];refine(AP2 G n h).use ?_;simp -implicitDefEqProofs only[vQ,CW,BD,↓reduceIte,jA];refine KO (fun hb => ?_) (fun hb => ?_)
 ·simp -implicitDefEqProofs only[vQ,CW,UY,BD,EX,↓reduceIte,jA,hb]
  exact⟨by unfold NR; rw[ha,hb]; rfl,trivial⟩
 simp -implicitDefEqProofs only[vQ,CW,BD,↓reduceIte,jA,enP,hb];refine KO (fun hc => ?_) (fun hc => ?_)
 ·simp -implicitDefEqProofs only[vQ,CW,BD,NG,↓reduceIte,jA,enP,hc]
  refine KO (fun hd => ?_) (fun hd => ?_)
  ·simp -implicitDefEqProofs only[vQ,CW,BD,EX,↓reduceIte,jA,hd]
   exact⟨by unfold NR; rw[ha,hb,hc,hd]; rfl,trivial⟩
  ·simp -implicitDefEqProofs only[vQ,CW,BD,↓reduceIte,jA,enP,hd]
   exact⟨by unfold NR; rw[ha,hb,hc,hd]; rfl,trivial⟩
 ·simp -implicitDefEqProofs only[vQ,CW,BD,EX,↓reduceIte,jA,enP,hc]
  exact⟨by unfold NR; rw[ha,hb,hc]; rfl,trivial⟩
def encStr (s:ByteArray):List AV := [.str s]
theorem AOB (s:ByteArray):(encStr s)[0]? = some (.str s):=rfl
def LC (xs:List ByteArray)(v:ByteArray):Bool:=xs.any fun u=>v.toList == u.toList
theorem AV6 (G:Nat→AV)(xs:List ByteArray)(m:SM)(v:ByteArray)(h:Hp)(hl:xs.length≤1099511627776) :
  PCall (En G) 238 [.sl m 1 (xs.map encStr),.str v] h (.bool (LC xs v)):=by
 refine acN Tryz.func238 rfl ?_;show awp _ _ _ _ _ (EK _ [.tmp 4] _);simp -implicitDefEqProofs only[vQ,BD,enX,enP];refine DX (fun n F H => ∃ k,n+k=xs.length∧F 0 = .sl m 1 (xs.map encStr)∧F 1 = .str v∧F 5 = .int .i64 (k:Nat)∧H=h∧LC xs v=LC (xs.drop k) v) xs.length ⟨0,by simp,rfl,rfl,rfl,rfl,rfl⟩ ?_;rintro n F H ⟨k,hk,f0,f1,f5,rfl,hin⟩;simp -implicitDefEqProofs only[vQ,BD,↓reduceIte,jA,enP,Y2,f0,f1,f5,jR];refine CZ (fun hc => ?_) (fun hc => ?_)
 ·have hc':k < xs.length:=by simpa using hc
  have hs:LC (xs.drop k) v=((v.toList == xs[k].toList) || LC (xs.drop (k+1)) v):=AD8 _ xs k hc';simp -implicitDefEqProofs only[vQ,BD,LQ,↓reduceIte,jA,enP,ALK,f0,f1,f5,EW hc',FX ag9 hc',AOB];refine CZ (fun hb => ?_) (fun hb => ?_)
  ·simp -implicitDefEqProofs only[vQ,BD,↓reduceIte]
   refine⟨?_,trivial⟩;rw[hin,hs,show(v.toList == xs[k].toList)=true by rw[BEq.comm]; exact hb]; rfl
  ·simp -implicitDefEqProofs only[vQ,BD,↓reduceIte,jA,enP,f5,wrap_succ (show k < 9223372036854775807 by omega)]
   refine⟨n - 1,by omega,k+1,by omega,f0,f1,rfl,trivial,?_⟩;rw[hin,hs,show(v.toList == xs[k].toList)=false by rw[BEq.comm]; exact hb]; rfl
 ·have hc' : ¬ k < xs.length:=by simpa using hc
  simp -implicitDefEqProofs only[vQ,BD,↓reduceIte];exact⟨by rw[hin,List.drop_eq_nil_of_le (by omega)]; rfl,trivial⟩
theorem index_prog (G:Nat→AV)(xs:List ByteArray)(m:SM)(v:ByteArray)(h:Hp)(hl:xs.length≤1099511627776) :
  ∃ i:Int,(decide (i≥0)=LC xs v)∧PCall (En G) 237 [.sl m 1 (xs.map encStr),.str v] h (.int .i64 i):=by
 refine⟨(match xs.findIdx? (fun u=>v.toList == u.toList) with | some i=>(i:Int) | none => -1),?_,?_⟩
 ·cases hx:xs.findIdx? (fun u=>v.toList == u.toList) with
  | some i =>
    obtain⟨h1,h2,_⟩:=List.findIdx?_eq_some_iff_getElem.1 hx;have:LC xs v=true:=List.any_eq_true.2 ⟨xs[i],by simp,h2⟩;simp [this]
  | none =>
    have:LC xs v=false:=by
     rw[List.findIdx?_eq_none_iff] at hx;unfold LC;rw[List.any_eq_false]; intro x hx2; simp only[hx x hx2]; simp
    simp [this]
 refine acN Tryz.func237 rfl ?_;show awp _ _ _ _ _ (EK _ [.tmp 4] _);simp -implicitDefEqProofs only[vQ,BD,↓reduceIte,jA,enX,enP,Y2,jR];refine DX (fun n F H => ∃ k,n+k=xs.length∧F 0 = .sl m 1 (xs.map encStr)∧F 1 = .str v∧F 7 = .int .i64 xs.length∧F 8 = .int .i64 (k:Nat)∧H=h∧(xs.take k).all (fun u => !(v.toList == u.toList))=true) xs.length ⟨0,by simp,rfl,rfl,rfl,rfl,rfl,rfl⟩ ?_;rintro n F H ⟨k,hk,f0,f1,f7,f8,rfl,hin⟩;simp -implicitDefEqProofs only[vQ,BD,↓reduceIte,enP,f0,f1,f7,f8,jR];refine CZ (fun hc => ?_) (fun hc => ?_)
 ·have hc':k < xs.length:=by simpa using hc
  simp -implicitDefEqProofs only[vQ,BD,LQ,↓reduceIte,jA,enP,ALK,f0,f1,f7,f8,EW hc',FX ag9 hc',AOB];refine CZ (fun hb => ?_) (fun hb => ?_)
  ·simp -implicitDefEqProofs only[vQ,BD,↓reduceIte,jA]
   refine⟨?_,trivial⟩
   rw[List.findIdx?_eq_some_iff_getElem.2 ⟨hc',hb,fun j hj=>by
    rw[zQ] at hin;have:=hin xs[j] (by rw[List.mem_take_iff_getElem]; exact⟨j,by omega,rfl⟩)
    simpa using this⟩]
  ·simp -implicitDefEqProofs only[vQ,BD,↓reduceIte,jA,enP,f8,wrap_succ (show k < 9223372036854775807 by omega)]
   refine⟨n - 1,by omega,k+1,by omega,f0,f1,f7,rfl,trivial,?_⟩;rw[List.take_succ_eq_append_getElem hc',List.all_append,hin];simp only[List.all_cons,List.all_nil,hb]; rfl
 ·have hc' : ¬ k < xs.length:=by simpa using hc
  simp -implicitDefEqProofs only[vQ,BD,↓reduceIte];refine⟨?_,trivial⟩;rw[List.take_of_length_le (by omega)] at hin
  rw[List.findIdx?_eq_none_iff.2 (by
   intro x hx;rw[zQ] at hin
   simpa using hin x hx)]
theorem AEZ (G:Nat→AV)(xs:List ByteArray)(m:SM)(v:ByteArray)(h:Hp)(hl:xs.length≤1099511627776) :
  PCall (En G) 218 [.sl m 1 (xs.map encStr),.str v] h (.bool (LC xs v)):=by
 obtain⟨i,hi,hp⟩:=index_prog G xs m v h hl;refine acN Tryz.func218 rfl ?_;show awp _ _ _ _ _ (EK _ [.tmp 4] _);simp -implicitDefEqProofs only[vQ,BD,↓reduceIte,jA,enX,enP];refine hp.use ?_;simp -implicitDefEqProofs only[vQ,BD,↓reduceIte,enP];exact⟨by rw[hi],trivial⟩
def kw:List ByteArray := [⟨#[99,108,97,115,115]⟩,⟨#[101,120,116,101,110,100,115]⟩,⟨#[114,97,110,100]⟩,⟨#[114,97,110,100,99]⟩,⟨#[115,116,97,116,101]⟩,⟨#[99,111,110,115,116,114,97,105,110,116]⟩,⟨#[115,111,102,116]⟩,⟨#[100,105,115,116]⟩,⟨#[105,102]⟩,⟨#[101,108,115,101]⟩,⟨#[101,97,99,104]⟩,⟨#[105,110]⟩,⟨#[115,111,108,118,101]⟩,⟨#[98,101,102,111,114,101]⟩,⟨#[105,110,115,105,100,101]⟩,⟨#[112,114,111,112,101,114,116,121]⟩,⟨#[115,101,113]⟩,⟨#[97,110,100]⟩,⟨#[111,114]⟩,⟨#[110,111,116]⟩,⟨#[115,101,116]⟩,⟨#[104,111,108,100]⟩,⟨#[112,108,97,105,110]⟩,⟨#[114,101,112,101,97,116]⟩]
theorem ASD:kw.length=24:=rfl
theorem AGV (G:Nat→AV)(h:Hp):PCall (En G) 239 [] h (.sl .full 1 (kw.map encStr)):=by
 refine acN Tryz.func239 rfl ?_;show awp _ _ _ _ _ (EK _ [.tmp 0] _);simp -implicitDefEqProofs only[vQ,BD,enX,enP];refine AFM (v := .sl .full 1 (kw.map encStr)) (h:=h) (by kernel_rfl) ?_;simp -implicitDefEqProofs only[vQ,BD,↓reduceIte];exact⟨trivial,trivial⟩
theorem AEV (G:Nat→AV)(v:ByteArray)(h:Hp):PCall (En G) 225 [.str v] h (.bool (LC kw v)):=by
 refine acN Tryz.func225 rfl ?_;show awp _ _ _ _ _ (EK _ [.tmp 2] _);simp -implicitDefEqProofs only[vQ,BD,enX,enP];refine(AGV G h).use ?_;simp -implicitDefEqProofs only[vQ,BD,↓reduceIte,jA];refine(AV6 G kw .full v h (by rw[ASD]; omega)).use ?_;simp -implicitDefEqProofs only[vQ,BD,↓reduceIte];exact⟨trivial,trivial⟩
def KwG (G:Nat→AV):Prop := ∃ m,G 0 = .fptr 1 [[.sl m 1 (kw.map encStr)]] 0 0
theorem ADC (G:Nat→AV)(hG:KwG G)(v:ByteArray)(h:Hp):PCall (En G) 213 [.str v] h (.bool (LC kw v)):=by
 obtain⟨m,hg⟩:=hG;refine acN Tryz.func213 rfl ?_;show awp _ _ _ _ _ (EK _ [.tmp 2] _);have e:DF Tryz.prog h 97 (G 0)=some (.sl m 1 (kw.map encStr)):=by rw[hg]; exact AR7 AQB rfl rfl
 have hl:kw.length≤1099511627776:=by rw[ASD]; omega
 simp -implicitDefEqProofs only[vQ,BD,AWJ,↓reduceIte,jA,enX,enP,enG,e];refine(AEZ G kw m v h hl).use ?_;simp -implicitDefEqProofs only[vQ,BD,↓reduceIte];exact⟨trivial,trivial⟩
def SQ (s:ByteArray):Bool:=(match s.data.toList with | []=>false | b :: _=>RJ b.toNat) && s.data.toList.all fun b=>NR b.toNat
def IW (s:ByteArray):Bool:=SQ s && decide (s.size≤16) && !LC kw s
theorem AAN {n:Int}(h:NR n=true):n < 128:=by
 simp only[NR,RJ,AJN,Bool.or_eq_true,Bool.and_eq_true,decide_eq_true_eq,beq_iff_eq] at h;omega
theorem AVB (h:Hp)(s:ByteArray):AA8 Tryz.prog h 9 (.str s)=some (.ptr h.length 0 0,h++[.iter s 0]):=by
 have:Tryz.prog.underlying 9=some .string:=by kernel_rfl
 simp [AA8,this]
theorem AVR {h:Hp}{s:ByteArray}{pos:Nat}(hp:pos < s.size):ABN (h++[.iter s pos]) (.ptr h.length 0 0) true=some (.tup [.bool true,.int .i64 pos,.int .i32 (Utf8.decode s pos).1],h++[.iter s (pos+(Utf8.decode s pos).2)]):=by
 simp [ABN,hp]
theorem AR0 {h:Hp}{s:ByteArray}{pos:Nat}(hp : ¬ pos < s.size):ABN (h++[.iter s pos]) (.ptr h.length 0 0) true=some (.tup [.bool false],h++[.iter s pos]):=by
 simp [ABN,hp]
theorem TN {s:ByteArray}{k:Nat}(hk:k < s.size)(hb:NR (s[k]'hk).toNat=false):SQ s=false:=by
 unfold SQ
 have:(s.data.toList.all fun b=>NR b.toNat)=false:=by
  rw[List.all_eq_false];exact⟨s[k],Array.getElem_mem_toList (xs:=s.data) hk,by simp [hb]⟩
 rw[this]; simp
theorem ABC {s:ByteArray}(hk:0 < s.size)(hb:RJ (s[0]'hk).toNat=false):SQ s=false:=by
 unfold SQ
 have:(match s.data.toList with | []=>false | b :: _=>RJ b.toNat)=false:=by
  cases hl:s.data.toList with
  | nil=>rfl
  | cons b l =>
    have h0:s[0]'hk=b:=by
     have:s.data.toList[0]? = some b:=by rw[hl]; rfl
     have h2:s.data[0]? = some b:=by rw[← Array.getElem?_toList]; exact this
     have hk':0 < s.data.size:=hk;rw[Array.getElem?_eq_getElem hk'] at h2;exact Option.some.inj h2
    simp only;rw[← h0]; exact hb
 rw[this]; simp
theorem AH4 {s:ByteArray}(hk:0 < s.size)(hb:RJ (s[0]'hk).toNat=true)(ha : ∀ i (hi:i < s.size),NR (s[i]'hi).toNat=true):SQ s=true:=by
 unfold SQ
 have h1:(match s.data.toList with | []=>false | b :: _=>RJ b.toNat)=true:=by
  cases hl:s.data.toList with
  | nil =>
    have:s.data.toList.length=0:=by rw[hl]; rfl
    have h2:s.data.size=0:=by simpa using this
    have h3:s.size=s.data.size:=rfl;omega
  | cons b l =>
    have h0:s[0]'hk=b:=by
     have:s.data.toList[0]? = some b:=by rw[hl]; rfl
     have h2:s.data[0]? = some b:=by rw[← Array.getElem?_toList]; exact this
     have hk':0 < s.data.size:=hk;rw[Array.getElem?_eq_getElem hk'] at h2;exact Option.some.inj h2
    simp only;rw[← h0]; exact hb
 rw[h1,Bool.true_and,zQ];intro b hbm;obtain⟨i,hi,rfl⟩:=List.getElem_of_mem hbm;have hi':i < s.size:=by simpa using hi
 exact ha i hi'
theorem word_prog (G:Nat→AV)(s:ByteArray)(h:Hp)(hl:s.size≤1099511627776):PCall (En G) 212 [.str s] h (.bool (SQ s)):=by
 refine ACalls.pure0 rfl ?_;refine acN Tryz.func212 rfl ?_;show awp _ _ _ _ _ (EK _ [.tmp 2] _);simp -implicitDefEqProofs only[vQ,BD,AUQ,↓reduceIte,jA,enP,AVB];refine DX (fun n F H => ∃ k,n+k=s.size∧F 0 = .str s∧F 6 = .ptr h.length 0 0∧H=h++[.iter s k]∧(∀ i (hi:i < s.size),i < k→NR (s[i]'hi).toNat=true)∧(∀ hp:0 < s.size,0 < k→RJ (s[0]'hp).toNat=true)) s.size ⟨0,by simp,rfl,by simp -implicitDefEqProofs only[AA,↓reduceIte],rfl,fun _ _ h=>absurd h (by omega),fun _ h=>absurd h (by omega)⟩ ?_;rintro n F H ⟨k,hk,f0,f6,rfl,hall,h0⟩;rcases Classical.em (k < s.size) with hp | hp
 ·have go : ∀ (r:Nat × Nat),Utf8.decode s k=r→(NR r.1=true→r=((s[k]'hp).toNat,1)∧NR (s[k]'hp).toNat=true)∧(NR r.1=false→SQ s=false)∧(RJ r.1=false→k=0→SQ s=false)∧(RJ r.1=true→NR r.1=true):=by
   rintro r rfl;have lf : ∀ n,RJ n=true→NR n=true:=fun n hn=>by unfold NR; rw[hn]; rfl
   rcases jY (s[k]'hp).toNat 128 with ha | ha
   ·have hd:=decode_ascii s k hp ha
    rw[hd];exact⟨fun hf=>⟨rfl,hf⟩,fun hf=>TN hp hf,fun hf h0=>by subst h0; exact ABC hp hf,lf _⟩
   ·have hd:=(decode_high s k hp ha).1
    refine⟨fun hf => ?_,fun _ => ?_,fun _ h0 => ?_,lf _⟩
    ·have:=AAN hf; omega
    ·refine TN hp ?_
     cases hf:NR (s[k]'hp).toNat with
     | false=>rfl
     | true=>have:=AAN hf; omega
    ·refine TN hp ?_
     cases hf:NR (s[k]'hp).toNat with
     | false=>rfl
     | true=>have:=AAN hf; omega
  simp -implicitDefEqProofs only[vQ,jS,List.getElem?_cons_succ,CW,BD,AQM,↓reduceIte,jA,enP,f0,f6,AVR hp];generalize hr:Utf8.decode s k=r at go;obtain⟨g1,g2,g3,g4⟩:=go r rfl
  have done : ∀ H',NR r.1=true→(k=0→RJ r.1=true)→H'=h++[ABlk.iter s (k+r.2)]→∃ m,m < n∧∃ k',m+k'=s.size∧H'=h++[.iter s k']∧(∀ i (hi:i < s.size),i < k'→NR (s[i]'hi).toNat=true)∧(∀ hp:0 < s.size,0 < k'→RJ (s[0]'hp).toNat=true):=by
   intro H' hf hlw hH;obtain⟨e1,e2⟩:=g1 hf;refine⟨n - 1,by omega,k+1,by omega,by rw[hH,e1],fun i hi hik => ?_,fun hp0 _ => ?_⟩
   ·rcases jY i k with h' | h'
    ·exact hall i hi h'
    ·have:i=k:=by omega
     subst this; exact e2
   ·rcases qQ k with h' | h'
    ·subst h'; have:=hlw rfl; rw[e1] at this; exact this
    ·exact h0 hp0 h'
  refine KO (fun ha => ?_) (fun ha => ?_)
  ·have hk0:k=0:=by simp at ha; omega
   simp -implicitDefEqProofs only[vQ,CW,BD,↓reduceIte,jA,ha];refine(AC9 G _ _).use ?_;simp -implicitDefEqProofs only[vQ,CW,BD,↓reduceIte,jA];refine KO (fun hb => ?_) (fun hb => ?_)
   ·simp -implicitDefEqProofs only[vQ,CW,BD,EX,↓reduceIte,jA,hb]
    have hlw:RJ r.1=false:=by simpa using hb
    exact⟨by rw[g3 hlw hk0],_,rfl⟩
   have hlw:RJ r.1=true:=by simpa using hb
   simp -implicitDefEqProofs only[vQ,CW,BD,↓reduceIte,jA,hb];refine(ZA G _ _).use ?_;simp -implicitDefEqProofs only[vQ,CW,BD,↓reduceIte,jA];have hf:=g4 hlw;simp -implicitDefEqProofs only[vQ,↓reduceIte,jA,Bool.not_true,hf];obtain⟨m,h1,k',h2,h3,h4,h5⟩:=done _ hf (fun _=>hlw) rfl;exact⟨m,h1,k',h2,f0,f6,h3,h4,h5⟩
  ·have hk0:k≠0:=by intro e; subst e; simp at ha
   simp -implicitDefEqProofs only[vQ,CW,BD,EX,↓reduceIte,jA,ha];refine(ZA G _ _).use ?_;simp -implicitDefEqProofs only[vQ,CW,BD,↓reduceIte,jA];refine CZ (fun hb => ?_) (fun hb => ?_)
   ·have hf:NR r.1=false:=by simpa using hb
    simp -implicitDefEqProofs only[vQ,BD,↓reduceIte];exact⟨by rw[g2 hf],_,rfl⟩
   ·have hf:NR r.1=true:=by simpa using hb
    simp -implicitDefEqProofs only[vQ,↓reduceIte,jA];obtain⟨m,h1,k',h2,h3,h4,h5⟩:=done _ hf (fun e=>absurd e hk0) rfl;exact⟨m,h1,k',h2,f0,f6,h3,h4,h5⟩
 ·simp -implicitDefEqProofs only[vQ,jS,BD,AQM,VN,↓reduceIte,jA,enP,f0,f6,AR0 hp]
  have hks:k=s.size:=by omega
  refine⟨?_,_,rfl⟩;congr 1;rcases qQ s.size with hz | hz
  ·have:s=⟨#[]⟩:=by
    obtain⟨d⟩:=s;have:d.size=0:=hz;rw[Array.eq_empty_of_size_eq_zero this]
   subst this;rw[ByteArray.toList_eq];rfl
  ·rw[AH4 hz (h0 hz (by omega)) (fun i hi=>hall i hi (by omega))]
   have hne:s.toList≠[]:=by
    rw[ByteArray.toList_eq];intro e;have:s.data.toList.length=0:=by rw[e]; rfl
    have h2:s.data.size=0:=by simpa using this
    have h3:s.size=s.data.size:=rfl;omega
   cases hl2:s.toList with
   | nil=>exact absurd hl2 hne
   | cons=>rw[ByteArray.toList_eq]; rfl
theorem PZ (G:Nat→AV)(hG:KwG G)(s:ByteArray)(h:Hp)(hl:s.size≤1099511627776):PCall (En G) 170 [.str s] h (.bool (IW s)):=by
 refine acN Tryz.func170 rfl ?_;show awp _ _ _ _ _ (EK _ [.tmp 2] _);simp -implicitDefEqProofs only[vQ,BD,↓reduceIte,jA,enX,enP];refine(word_prog G s h hl).use ?_;simp -implicitDefEqProofs only[vQ,CW,BD,↓reduceIte];refine KO (fun ha => ?_) (fun ha => ?_)
 ·simp -implicitDefEqProofs only[vQ,CW,BD,NG,↓reduceIte,jA,enP,ln9,ha]
  refine KO (fun hb => ?_) (fun hb => ?_)
  ·simp -implicitDefEqProofs only[vQ,CW,BD,↓reduceIte,jA,hb]
   refine(ADC G hG s h).use ?_;simp -implicitDefEqProofs only[vQ,CW,BD,↓reduceIte,jA];refine⟨?_,trivial⟩;have:decide (s.size≤16)=true:=by simp at hb ⊢; omega
   unfold IW; rw[ha,this]; rfl
  ·simp -implicitDefEqProofs only[vQ,CW,BD,EX,↓reduceIte,jA,hb]
   refine⟨?_,trivial⟩;have:decide (s.size≤16)=false:=by simp at hb ⊢; omega
   unfold IW; rw[ha,this]; rfl
 ·simp -implicitDefEqProofs only[vQ,CW,BD,EX,↓reduceIte,jA,ha]
  exact⟨by unfold IW; rw[ha]; rfl,trivial⟩
theorem ix9 (s:ByteArray)(k:Nat)(kk:IntKind)(hk:k < s.size):O5 Tryz.prog 9 (.str s) (.int kk (k:Int))=some (.int .u8 (s[k]'hk).toNat):=by
 have hu:Tryz.prog.underlying 9=some .string:=by kernel_rfl
 have h0:(0:Int)≤(k:Int):=by omega
 have:s[k]? = some (s[k]'hk):=by simp [hk]
 simp [O5,hu,h0,this]
theorem QV (G:Nat→AV)(s:ByteArray)(h:Hp):PCall (En G) 195 [.str s] h (.bool (IW s)):=by
 refine acN Tryz.func195 rfl ?_;show awp _ _ _ _ _ (EK _ [.tmp 2] _);simp -implicitDefEqProofs only[vQ,CW,BD,LQ,↓reduceIte,jA,enX,enP];refine KO (fun ha => ?_) (fun ha => ?_)
 ·simp -implicitDefEqProofs only[vQ,CW,BD,EX,↓reduceIte,jA,ha]
  refine⟨?_,trivial⟩
  have:s.data.toList = []:=by
   rw[ByteArray.toList_eq,ByteArray.toList_eq] at ha;have:=beq_iff_eq.1 ha;exact this
  unfold IW SQ; rw[this]; rfl
 have hz:0 < s.size:=by
  rcases qQ s.size with hz | hz
  ·have:s=⟨#[]⟩:=by
    obtain⟨d⟩:=s;have:d.size=0:=hz;rw[Array.eq_empty_of_size_eq_zero this]
   rw[this] at ha;simp at ha
  ·exact hz
 simp -implicitDefEqProofs only[vQ,CW,BD,↓reduceIte,jA,enP,ln9,ha];refine KO (fun hb => ?_) (fun hb => ?_)
 ·simp -implicitDefEqProofs only[vQ,CW,BD,EX,↓reduceIte,jA,hb]
  refine⟨?_,trivial⟩;have:decide (s.size≤16)=false:=by simp at hb ⊢; omega
  unfold IW; rw[this]; simp
 have h16:decide (s.size≤16)=true:=by simp at hb ⊢; omega
 simp -implicitDefEqProofs only[vQ,CW,BD,NC,↓reduceIte,jA,enP,hb];refine AFM (v := .int .u8 (s[0]'hz).toNat) (h:=h) (by rw[show(0:Int)=((0:Nat):Int) from rfl,ix9 s 0 .i64 hz]; rfl) ?_;simp -implicitDefEqProofs only[vQ,CW,BD,↓reduceIte,jA];refine(AFB G _ h).use ?_;simp -implicitDefEqProofs only[vQ,CW,BD,↓reduceIte,jA];refine KO (fun hc => ?_) (fun hc => ?_)
 ·simp -implicitDefEqProofs only[vQ,CW,BD,EX,↓reduceIte,jA,hc]
  refine⟨?_,trivial⟩;unfold IW; rw[ABC hz (by simpa using hc)]; rfl
 simp -implicitDefEqProofs only[vQ,CW,BD,↓reduceIte,jA,hc];refine(AEV G s h).use ?_;simp -implicitDefEqProofs only[vQ,BD,↓reduceIte,jA];refine CZ (fun hd => ?_) (fun hd => ?_)
 ·simp -implicitDefEqProofs only[vQ,BD,↓reduceIte]
  refine⟨?_,trivial⟩;unfold IW; rw[hd]; simp
 simp -implicitDefEqProofs only[vQ,BD];have hlow:RJ (s[0]'hz).toNat=true:=by simpa using hc
 refine DX (fun n F H => ∃ k,n+k=s.size∧F 0 = .str s∧F 3 = .int .i64 (k:Nat)∧H=h∧(∀ i (hi:i < s.size),i < k→NR (s[i]'hi).toNat=true)) s.size ⟨0,by simp,by simp -implicitDefEqProofs only[vQ,↓reduceIte,jA],by simp -implicitDefEqProofs only[AA,↓reduceIte]; rfl,rfl,fun _ _ h=>absurd h (by omega)⟩ ?_;rintro n F H ⟨k,hk,f0,f3,rfl,hall⟩;simp -implicitDefEqProofs only[vQ,BD,↓reduceIte,jA,enP,ln9,f0,f3];refine CZ (fun he => ?_) (fun he => ?_)
 ·have hk':k < s.size:=by simpa using he
  simp -implicitDefEqProofs only[vQ,BD,NC,↓reduceIte,jA,enP,f0,f3,ix9 s k .i64 hk'];refine(APP G _ _).use ?_;simp -implicitDefEqProofs only[vQ,BD,↓reduceIte];refine CZ (fun hf => ?_) (fun hf => ?_)
  ·simp -implicitDefEqProofs only[vQ,BD,↓reduceIte]
   refine⟨?_,trivial⟩;unfold IW; rw[TN hk' (by simpa using hf)]; rfl
  ·simp -implicitDefEqProofs only[vQ,BD,↓reduceIte,jA,enP,f3,wrap_succ (show k < 9223372036854775807 by simp at h16; omega)]
   refine⟨n - 1,by omega,k+1,by omega,f0,rfl,trivial,fun i hi hik => ?_⟩;rcases jY i k with h' | h'
   ·exact hall i hi h'
   ·have:i=k:=by omega
    subst this; simpa using hf
 ·have hk' : ¬ k < s.size:=by simpa using he
  simp -implicitDefEqProofs only[vQ,BD,↓reduceIte];refine⟨?_,trivial⟩;unfold IW;rw[AH4 hz hlow (fun i hi=>hall i hi (by omega)),h16,hd]; rfl
end Go.Proofs.YtgnoolgeijmlaaaGreatDoor.Bins
namespace Go.Proofs.YtgnoolgeijmlaaaGreatDoor.Cov
open Sm Bins
open Bool renaming not_false→jC
open Int renaming reduceBEq→zG
open List renaming drop_zero→qL,take_of_length_le→zH
open Nat renaming le_refl→jQ,le_of_ble_eq_true→jH,reduceEqDiff→jA,add_zero→jL
open Option renaming getD_some→jB
inductive Ex where
 | mk (op n:Int) (name:ByteArray) (m:SM) (args:List Ex)
def Ex.op:Ex→Int | .mk op _ _ _ _=>op
def Ex.n:Ex→Int | .mk _ n _ _ _=>n
def Ex.name:Ex→ByteArray | .mk _ _ name _ _=>name
def Ex.m:Ex→SM | .mk _ _ _ m _=>m
def Ex.args:Ex→List Ex | .mk _ _ _ _ args=>args
mutual
def D8:Ex→List AV
 | .mk op n name m args => [.int .i64 op,.int .i64 n,.str name,.sl m 4 (AJK args)]
def AJK:List Ex→List (List AV)
 | [] => []
 | e :: es=>D8 e :: AJK es
end
theorem AFT : ∀ l:List Ex,AJK l=l.map D8
 | []=>by simp [AJK]
 | e :: es=>by simp [AJK,AFT es]
theorem O1 (e:Ex):D8 e = [.int .i64 e.op,.int .i64 e.n,.str e.name,.sl e.m 4 (e.args.map D8)]:=by
 cases e; simp [D8,AFT,Ex.op,Ex.n,Ex.name,Ex.m,Ex.args]
theorem IK (e:Ex):(D8 e).length=4:=by rw[O1]; rfl
theorem J4 (e:Ex):(D8 e)[0]? = some (.int .i64 e.op):=by rw[O1]; rfl
theorem ZM (e:Ex):(D8 e)[1]? = some (.int .i64 e.n):=by rw[O1]; rfl
theorem O9 (e:Ex):(D8 e)[2]? = some (.str e.name):=by rw[O1]; rfl
theorem VJ (e:Ex):(D8 e)[3]? = some (.sl e.m 4 (e.args.map D8)):=by rw[O1]; rfl
theorem AFU (e:Ex):(D8 e).all AV.leaf=true:=by rw[O1]; rfl
theorem bxE (h:Hp)(e:Ex):MC h (.agg (D8 e))=some (.ptr h.length 0 0,h++[.live 4 [D8 e]]):=by
 have:=WE (h:=h) (AFU e);rw[IK] at this; exact this
theorem ldE (h:Hp)(e:Ex):DF Tryz.prog (h++[.live 4 [D8 e]]) 37 (.ptr h.length 0 0)=some (.agg (D8 e)):=by
 rw[APK VO QB (by rw[IK]; exact jQ 4)];rw[qL,zH (by rw[IK]; exact jQ 4)]
theorem J7 {h:Hp}{b:Nat}{e:Ex}(hb:h[b]? = some (.live 4 [D8 e])):DF Tryz.prog h 37 (.ptr b 0 0)=some (.agg (D8 e)):=by
 rw[G7 VO QB hb rfl (by rw[IK]; exact jQ 4)];rw[qL,zH (by rw[IK]; exact jQ 4)]
mutual
def pre:Ex→List Ex
 | .mk op n name m args => .mk op n name m args :: IQ args
def IQ:List Ex→List Ex
 | [] => []
 | e :: es=>pre e++IQ es
end
mutual
def dep:Ex→Nat
 | .mk _ _ _ _ args=>deps args+1
def deps:List Ex→Nat
 | []=>0
 | e :: es=>max (dep e) (deps es)
end
mutual
def wt:Ex→Nat
 | .mk _ _ name _ args=>name.size+1+wts args
def wts:List Ex→Nat
 | []=>0
 | e :: es=>wt e+wts es
end
theorem pre_eq (e:Ex):pre e=e :: IQ e.args:=by cases e; simp [pre,Ex.args]
theorem AAZ (e:Ex):dep e=deps e.args+1:=by cases e; simp [dep,Ex.args]
theorem QO (e:Ex):wt e=e.name.size+1+wts e.args:=by cases e; simp [wt,Ex.args,Ex.name]
theorem MM (xs ys:List Ex):IQ (xs++ys)=IQ xs++IQ ys:=by
 induction xs with
 | nil=>simp [IQ]
 | cons x xs ih=>simp [IQ,ih]
theorem YD (xs:List Ex):xs.length≤wts xs:=by
 induction xs with
 | nil=>simp [wts]
 | cons x xs ih=>have:=QO x; simp [wts]; omega
theorem TL {xs:List Ex}{x:Ex}(h:x∈xs):wt x≤wts xs:=by
 induction xs with
 | nil=>cases h
 | cons y ys ih =>
   simp only[wts]
   cases List.mem_cons.1 h with
   | inl e=>subst e; omega
   | inr e=>have:=ih e; omega
theorem AAY (xs:List Ex)(k:Nat)(h:k < xs.length):deps (xs.take (k+1))=max (deps (xs.take k)) (dep xs[k]):=by
 induction xs generalizing k with
 | nil=>simp at h
 | cons x xs ih =>
   cases k with
   | zero=>simp [deps]
   | succ k =>
     simp only[List.take_succ_cons,deps,List.getElem_cons_succ];rw[ih k (by simpa using h),Nat.max_assoc]
theorem Ex.induct {P:Ex→Prop}(h : ∀ e:Ex,(∀ a∈e.args,P a)→P e)(e:Ex):P e:=by
 have : ∀ n (e:Ex),wt e≤n→P e:=by
  intro n
  induction n with
  | zero=>intro e he; have:=QO e; omega
  | succ n ih =>
    intro e he;refine h e fun a ha=>ih a ?_
    have h1:=TL ha;have h2:=QO e;omega
 exact this _ e (jQ _)
theorem ATL (e:Ex):dep e≤wt e:=by
 refine Ex.induct (P:=fun e=>dep e≤wt e) (fun e ih => ?_) e;rw[AAZ,QO]
 have:deps e.args≤wts e.args:=by
  generalize e.args=l at ih
  induction l with
  | nil=>simp [deps,wts]
  | cons x l ih2 =>
    have h1:=ih x (by simp);have h2:=ih2 (fun a ha=>ih a (by simp [ha]));simp only[deps,wts]; omega
 omega
theorem XF (e:Ex):(pre e).length≤wt e:=by
 refine Ex.induct (P:=fun e=>(pre e).length≤wt e) (fun e ih => ?_) e;rw[pre_eq,QO]
 have:(IQ e.args).length≤wts e.args:=by
  generalize e.args=l at ih
  induction l with
  | nil=>simp [IQ,wts]
  | cons x l ih2 =>
    have h1:=ih x (by simp);have h2:=ih2 (fun a ha=>ih a (by simp [ha]));simp only[IQ,wts,List.length_append]; omega
 simp; omega
def arity (op:Int):Int:=if op < 1∨op > 25 then -1 else if op=1∨op=2∨op=24 then 0 else if op=3∨op=4∨op=5∨op=6∨op=25 then 1 else if op=22 then 3 else if op=23 then -1 else 2
set_option maxHeartbeats 2000000 in
theorem AMG (G:Nat→AV)(op:Int)(h:Hp):PCall (En G) 220 [.int .i64 op] h (.int .i64 (arity op)):=by
 refine acN Tryz.func220 rfl ?_;show awp _ _ _ _ _ (EK _ [.tmp 2] _);have hcase:op < 1∨op > 25∨op=1∨op=2∨op=3∨op=4∨op=5∨op=6∨op=7∨op=8∨op=9∨op=10∨op=11∨op=12∨op=13∨op=14∨op=15∨op=16∨op=17∨op=18∨op=19∨op=20∨op=21∨op=22∨op=23∨op=24∨op=25:=by omega
 rcases hcase with h | h | rfl | rfl | rfl | rfl | rfl | rfl | rfl | rfl | rfl | rfl | rfl | rfl | rfl | rfl | rfl | rfl | rfl | rfl | rfl | rfl | rfl | rfl | rfl | rfl | rfl
 ·have hne : ∀ k:Int,1≤k→(op == k)=false:=fun k hk=>beq_eq_false_iff_ne.2 (by omega)
  have hd:decide (op < 1)=true:=by simp; omega
  have ha:arity op = -1:=by unfold arity; rw[if_pos (Or.inl h)]
  rw[ha];simp -implicitDefEqProofs only[vQ,CW,BD,EX,↓reduceIte,jA,enX,enP,hne 1 (by decide),hne 2 (by decide),hne 3 (by decide),hne 4 (by decide),hne 5 (by decide),hne 6 (by decide),hne 7 (by decide),hne 8 (by decide),hne 9 (by decide),hne 10 (by decide),hne 11 (by decide),hne 12 (by decide),hne 13 (by decide),hne 14 (by decide),hne 15 (by decide),hne 16 (by decide),hne 17 (by decide),hne 18 (by decide),hne 19 (by decide),hne 20 (by decide),hne 21 (by decide),hne 22 (by decide),hne 23 (by decide),hne 24 (by decide),hne 25 (by decide),hd];exact⟨trivial,trivial⟩
 ·have hne : ∀ k:Int,k≤25→(op == k)=false:=fun k hk=>beq_eq_false_iff_ne.2 (by omega)
  have hd:decide (op < 1)=false:=by simp; omega
  have hd2:decide (op > 25)=true:=by simp; omega
  have ha:arity op = -1:=by unfold arity; rw[if_pos (Or.inr h)]
  rw[ha];simp -implicitDefEqProofs only[vQ,CW,BD,↓reduceIte,jA,enX,enP,hne 1 (by decide),hne 2 (by decide),hne 3 (by decide),hne 4 (by decide),hne 5 (by decide),hne 6 (by decide),hne 7 (by decide),hne 8 (by decide),hne 9 (by decide),hne 10 (by decide),hne 11 (by decide),hne 12 (by decide),hne 13 (by decide),hne 14 (by decide),hne 15 (by decide),hne 16 (by decide),hne 17 (by decide),hne 18 (by decide),hne 19 (by decide),hne 20 (by decide),hne 21 (by decide),hne 22 (by decide),hne 23 (by decide),hne 24 (by decide),hne 25 (by decide),hd,hd2];exact⟨trivial,trivial⟩
 all_goals
  simp -implicitDefEqProofs only[vQ,CW,BD,↓reduceIte,jA,decide_false,enX,enP,zG,Int.reduceLT,Int.reduceGT];exact⟨rfl,trivial⟩
set_option maxHeartbeats 2000000 in
theorem AP8 (G:Nat→AV)(op:Int)(h:Hp):PCall (En G) 210 [.int .i64 op] h (.int .i64 (arity op)):=by
 refine acN Tryz.func210 rfl ?_;show awp _ _ _ _ _ (EK _ [.tmp 2] _);have hcase:op < 1∨op > 25∨op=1∨op=2∨op=3∨op=4∨op=5∨op=6∨op=7∨op=8∨op=9∨op=10∨op=11∨op=12∨op=13∨op=14∨op=15∨op=16∨op=17∨op=18∨op=19∨op=20∨op=21∨op=22∨op=23∨op=24∨op=25:=by omega
 rcases hcase with h | h | rfl | rfl | rfl | rfl | rfl | rfl | rfl | rfl | rfl | rfl | rfl | rfl | rfl | rfl | rfl | rfl | rfl | rfl | rfl | rfl | rfl | rfl | rfl | rfl | rfl
 ·have hne : ∀ k:Int,1≤k→(op == k)=false:=fun k hk=>beq_eq_false_iff_ne.2 (by omega)
  have hd:decide (op < 1)=true:=by simp; omega
  have ha:arity op = -1:=by unfold arity; rw[if_pos (Or.inl h)]
  rw[ha];simp -implicitDefEqProofs only[vQ,CW,BD,EX,↓reduceIte,jA,enX,enP,hne 1 (by decide),hne 2 (by decide),hne 3 (by decide),hne 4 (by decide),hne 5 (by decide),hne 6 (by decide),hne 7 (by decide),hne 8 (by decide),hne 9 (by decide),hne 10 (by decide),hne 11 (by decide),hne 12 (by decide),hne 13 (by decide),hne 14 (by decide),hne 15 (by decide),hne 16 (by decide),hne 17 (by decide),hne 18 (by decide),hne 19 (by decide),hne 20 (by decide),hne 21 (by decide),hne 22 (by decide),hne 23 (by decide),hne 24 (by decide),hne 25 (by decide),hd];exact⟨trivial,trivial⟩
 ·have hne : ∀ k:Int,k≤25→(op == k)=false:=fun k hk=>beq_eq_false_iff_ne.2 (by omega)
  have hd:decide (op < 1)=false:=by simp; omega
  have hd2:decide (op > 25)=true:=by simp; omega
  have ha:arity op = -1:=by unfold arity; rw[if_pos (Or.inr h)]
  rw[ha];simp -implicitDefEqProofs only[vQ,CW,BD,↓reduceIte,jA,enX,enP,hne 1 (by decide),hne 2 (by decide),hne 3 (by decide),hne 4 (by decide),hne 5 (by decide),hne 6 (by decide),hne 7 (by decide),hne 8 (by decide),hne 9 (by decide),hne 10 (by decide),hne 11 (by decide),hne 12 (by decide),hne 13 (by decide),hne 14 (by decide),hne 15 (by decide),hne 16 (by decide),hne 17 (by decide),hne 18 (by decide),hne 19 (by decide),hne 20 (by decide),hne 21 (by decide),hne 22 (by decide),hne 23 (by decide),hne 24 (by decide),hne 25 (by decide),hd,hd2];exact⟨trivial,trivial⟩
 all_goals
  simp -implicitDefEqProofs only[vQ,BD,↓reduceIte,jA,enX,enP,zG,Int.reduceLT,Int.reduceGT];exact⟨rfl,trivial⟩
def MN (op:Int):Bool:=op == 2 || op == 3 || op == 24
theorem AAK (G:Nat→AV)(op:Int)(h:Hp):PCall (En G) 161 [.int .i64 op] h (.bool (MN op)):=by
 refine acN Tryz.func161 rfl ?_;show awp _ _ _ _ _ (EK _ [.tmp 2] _);simp -implicitDefEqProofs only[vQ,CW,BD,↓reduceIte,jA,enX,enP];cases ha:(op == 2) <;> cases hb:(op == 3)
 all_goals
  simp -implicitDefEqProofs only[vQ,CW,BD,EX,↓reduceIte,jA,enP,ha,hb];exact⟨by simp [MN,ha,hb],trivial⟩
def WH (op:Int)(n:Nat):Bool:=if op == 23 then ((n:Int) % 2 == 1) && decide ((n:Int)≥3) && decide ((n:Int)≤33) else ((n:Int) == arity op)
theorem AES (G:Nat→AV)(e:Ex)(h:Hp):PCall (En G) 183 [.agg (D8 e)] h (.bool (WH e.op e.args.length)):=by
 refine ACalls.pure0 rfl ?_;refine acN Tryz.func183 rfl ?_;show awp _ _ _ _ _ (EK _ [.tmp 2] _);simp -implicitDefEqProofs only[vQ,BD,↓reduceIte,jA,Nat.zero_add,enP,UU,FY,MS,bxE,EU VQ,EU ag3,VJ,J4,List.length_map];generalize he:e.args.length=n;have hm:(n:Int).tmod 2=(n:Int) % 2:=Int.tmod_eq_emod_of_nonneg (by omega);have b1:JC Tryz.prog 3 .rem (.int .i64 (n:Int)) (.int .i64 2)=some (.int .i64 ((n:Int) % 2)):=by rw[ZU _ _ _ _ _ (by decide),hm]
 refine CZ (fun hc => ?_) (fun hc => ?_)
 ·simp -implicitDefEqProofs only[vQ,CW,BD,↓reduceIte,jA,enP,b1]
  cases ha:((n:Int) % 2 == 1) <;> cases hb:decide ((n:Int)≥3)
  all_goals
   simp -implicitDefEqProofs only[vQ,CW,BD,EX,NG,↓reduceIte,jA,enP,ha,hb];exact⟨by unfold WH; rw[if_pos hc,ha,hb]; simp,_,rfl⟩
 ·simp -implicitDefEqProofs only[vQ,BD,List.map_cons,List.map_nil,List.append_nil,↓reduceIte,jA,enP,FY,EU ag3,J4]
  refine(AMG G e.op _).use ?_;simp -implicitDefEqProofs only[vQ,BD,↓reduceIte,jA,enP];exact⟨by unfold WH; rw[if_neg (by rw[hc]; decide)],_,rfl⟩
end Go.Proofs.YtgnoolgeijmlaaaGreatDoor.Cov
namespace Go.Proofs.YtgnoolgeijmlaaaGreatDoor.Cov
open Sm Bins Go.Shelf Go.RowKit
open Bool renaming and_eq_true→jZ
open Int renaming toNat_natCast→qV
open List renaming take_append_drop→wL,drop_eq_getElem_cons→zV,getElem?_eq_getElem→jX
def ATO:Go.Shelf.Ren:=⟨fun | 145=>171 | 220=>214 | 219=>234 | 217=>242 | 225=>243 | 224=>244 | 267=>245 | 266=>247 | 314=>248 | n=>n,fun | 9=>9 | 4=>4 | 59=>185 | 3=>3 | 5=>5 | 46=>215 | 146=>218 | 51=>217 | n=>n,fun | 1=>1 | n=>n⟩
theorem A4Z:Go.Proofs.Lays.n145 Tryz.prog ATO := {
 mixed:=by kernel_rfl,
 f145:=Tryz.func171.trans (congrArg some (by kernel_rfl)),
 f217:=Tryz.func242.trans (congrArg some (by kernel_rfl)),
 f219:=Tryz.func234.trans (congrArg some (by kernel_rfl)),
 f220:=Tryz.func214.trans (congrArg some (by kernel_rfl)),
 f224:=Tryz.func244.trans (congrArg some (by kernel_rfl)),
 f225:=Tryz.func243.trans (congrArg some (by kernel_rfl)),
 f266:=Tryz.func247.trans (congrArg some (by kernel_rfl)),
 f267:=Tryz.func245.trans (congrArg some (by kernel_rfl)),
 f314:=Tryz.func248.trans (congrArg some (by kernel_rfl)),
 t3:=Tryz.underlying3,
 a3:=Tryz.isAgg3,
 z3:=Tryz.sizeOf3,
 v3:=Tryz.zeroValue3,
 t4:=Tryz.underlying4,
 a4:=Tryz.isAgg4,
 z4:=Tryz.sizeOf4,
 v4:=Tryz.zeroValue4,
 t5:=Tryz.underlying5,
 a5:=Tryz.isAgg5,
 z5:=Tryz.sizeOf5,
 v5:=Tryz.zeroValue5,
 t9:=Tryz.underlying9,
 a9:=Tryz.isAgg9,
 z9:=Tryz.sizeOf9,
 v9:=Tryz.zeroValue9,
 t46:=Tryz.underlying215,
 a46:=Tryz.isAgg215,
 z46:=Tryz.sizeOf215,
 v46:=Tryz.zeroValue215,
 t51:=Tryz.underlying217,
 a51:=Tryz.isAgg217,
 z51:=Tryz.sizeOf217,
 v51:=Tryz.zeroValue217,
 t59:=Tryz.underlying185,
 a59:=Tryz.isAgg185,
 z59:=Tryz.sizeOf185,
 v59:=Tryz.zeroValue185,
 t146:=Tryz.underlying218,
 a146:=Tryz.isAgg218,
 z146:=Tryz.sizeOf218,
 v146:=Tryz.zeroValue218,
 g1:=by kernel_rfl }
structure GOk (G:Nat→AV):Prop where
 kw:KwG G
 mx : ∃ n,G 1 = .fptr 1 [[.int .i64 n]] 0 0
theorem AST {G:Nat→AV}{g:Gh}{h:Hp}{w:World}{n:Nat}{k:IntKind}{z:Int}(S:SimH (En G) g h w)(hn:G n = .fptr 1 [[.int k z]] 0 0):w.cell? ⟨n,0,none⟩=some (.int k z):=by
 have:=S.glob n;rw[enG,hn] at this;generalize hp:Value.pointer (some ⟨n,0,none⟩)=p at this
 cases this with
 | fptr k' xs i j cb co c e fz cv h1 h2 h3 h4 =>
   simp only[Value.pointer.injEq,Option.some.injEq,Addr.mk.injEq] at hp;obtain⟨rfl,hco,_⟩:=hp;have h5:=h3 0 0 (by simp) (by simp);have h6:=h4 0 0 _ _ rfl rfl;generalize cv 0 0=u at h5 h6;cases h6;simp only[World.cell?,S.fro _ _ h1];subst hco;exact h5
def cutV (s:ByteArray):AV := .tup [.str ⟨(Lib.cut s.data.toList [91]).1.toArray⟩,.str ⟨(Lib.cut s.data.toList [91]).2.1.toArray⟩,.bool (Lib.cut s.data.toList [91]).2.2]
theorem ADX (G:Nat→AV)(hG:GOk G)(s:ByteArray)(h:Hp)(hl:s.size≤1048576):PCall (En G) 171 [.str s,.str ⟨#[91]⟩] h (cutV s):=by
 refine PCall.of_reads (cok 171 G (by kernel_rfl)) fun g w cargs S ha => ?_
 obtain⟨hsz,hget⟩:=ha
 obtain⟨cv0,cv1,rfl⟩ : ∃ a b,cargs = #[a,b]:=by
  obtain⟨l⟩:=cargs
  match l,hsz with
  | [a,b],_=>exact⟨a,b,rfl⟩
 obtain rfl:=(hget 0 _ cv0 rfl rfl).str_inv;obtain rfl:=(hget 1 _ cv1 rfl rfl).str_inv;obtain⟨z,hz⟩:=hG.mx;have hc:=AST S hz;have:=Any.strings_Cut A4Z s ⟨#[91]⟩ z w (by omega) hc;refine⟨_,?_,this⟩;refine .tup _ _ rfl ?_;intro i v cv h1 h2
 match i,h1,h2 with
 | 0,h1,h2=>simp at h1 h2; subst h1; subst h2; exact .str _ _
 | 1,h1,h2=>simp at h1 h2; subst h1; subst h2; exact .str _ _
 | 2,h1,h2=>simp at h1 h2; subst h1; subst h2; exact .bool _ _
def KE (s:ByteArray):Option (List UInt8 × UInt8) :=
 if 4≤s.data.toList.length then match s.data.toList.drop (s.data.toList.length - 3) with
  | [x,d,y]=>if(y == 93 && x == 91 && decide (48≤d.toNat) && decide (d.toNat < 56) && IW ⟨(s.data.toList.take (s.data.toList.length - 3)).toArray⟩)=true then some (s.data.toList.take (s.data.toList.length - 3),d) else none
  | _=>none
 else none
def elemV (o:Option (List UInt8 × UInt8)):AV:=match o with
 | some (a,d) => .tup [.str ⟨a.toArray⟩,.int .i64 ((d.toNat:Int) - 48),.bool true]
 | none => .tup [.str ⟨#[]⟩,.int .i64 0,.bool false]
theorem SA {l:List UInt8}(h:IW ⟨l.toArray⟩=true):l≠[]∧∀ b∈l,b≠91:=by
 have hw:SQ ⟨l.toArray⟩=true:=by
  unfold IW at h;exact(Bool.and_eq_true_iff.1 (Bool.and_eq_true_iff.1 h).1).1
 unfold SQ at hw;obtain⟨h1,h2⟩:=Bool.and_eq_true_iff.1 hw;refine⟨?_,?_⟩
 ·intro e; subst e; cases h1
 ·intro b hb e
  subst e;have:=List.all_eq_true.1 h2 91 hb
  revert this; decide
theorem three {l:List UInt8}(h:3≤l.length) : ∃ a x d y,l=a++[x,d,y]:=by
 refine⟨l.take (l.length - 3),?_⟩;have h1:(l.drop (l.length - 3)).length=3:=by simp; omega
 match hm:l.drop (l.length - 3),h1 with
 | [x,d,y],_=>exact⟨x,d,y,by rw[← hm,wL]⟩
theorem ZN {a:List UInt8}{x d y:UInt8}(ha:a≠[]):KE ⟨(a++[x,d,y]).toArray⟩=if(y == 93 && x == 91 && decide (48≤d.toNat) && decide (d.toNat < 56) && IW ⟨a.toArray⟩)=true then some (a,d) else none:=by
 have hl:0 < a.length:=List.length_pos_iff.2 ha;unfold KE;simp only;rw[if_pos (by simp; omega)];have e:(a++[x,d,y]).length - 3=a.length:=by simp
 rw[e,List.drop_left,List.take_left]
theorem ADU (s:ByteArray):KE s=if((Lib.cut s.data.toList [91]).2.2 && IW ⟨(Lib.cut s.data.toList [91]).1.toArray⟩)=true then match (Lib.cut s.data.toList [91]).2.1 with
  | [d,y]=>if(y == 93 && decide (48≤d.toNat) && decide (d.toNat < 56))=true then some ((Lib.cut s.data.toList [91]).1,d) else none
  | _=>none
 else none:=by
 obtain⟨⟨l⟩⟩:=s
 have hocc : ∀ i,Lib.occAt l [91] i=true↔l[i]? = some 91:=by
  intro i;unfold Lib.occAt;rcases Nat.lt_or_ge i l.length with h | h
  ·rw[zV h,jX h]
   simp [List.isPrefixOf];exact eq_comm
  ·rw[List.drop_eq_nil_of_le h,List.getElem?_eq_none h]; simp [List.isPrefixOf]
 -- an element name of the reference's kind
 have main : ∀ a d,a≠[]→IW ⟨a.toArray⟩=true→l=a++[91,d,93]→Lib.cut l [91]=(a,[d,93],true):=by
  intro a d ha hn hl;obtain⟨_,hne⟩:=SA hn
  have hi:Lib.index l [91]=(a.length:Int):=by
   refine Lib.index_first (by rw[hl]; simp) ((hocc _).2 (by rw[hl]; simp)) fun j hj => ?_
   rw[← Bool.not_eq_true,hocc,hl,List.getElem?_append_left hj,jX hj];intro e;exact hne _ (List.getElem_mem hj) (Option.some.inj e)
  unfold Lib.cut;rw[hi,if_pos (by omega),qV,hl,List.take_left,← List.drop_drop,List.drop_left];rfl
 show KE ⟨l.toArray⟩=_;rcases hcase:KE ⟨l.toArray⟩ with _ | ⟨a,d⟩
 ·symm
  show(if _ then _ else none)=none;simp only;split
  ·rename_i hb
   rw[jZ] at hb;split
   ·rename_i d y hm
    split
    ·rename_i hd
     exfalso;simp only[jZ,beq_iff_eq,decide_eq_true_eq] at hd;obtain⟨⟨rfl,hd1⟩,hd2⟩:=hd;obtain⟨ha,_⟩:=SA hb.2
     have hc:Lib.cut l [91]=((Lib.cut l [91]).1,[d,93],true):=by
      rw[← hm]; have:=hb.1; cases hcc:Lib.cut l [91] with
      | mk p q=>cases q with
        | mk q1 q2=>rw[hcc] at this; simp at this; subst this; rfl
     have hl:l=(Lib.cut l [91]).1++[91,d,93]:=by
      generalize (Lib.cut l [91]).1=b at hc;unfold Lib.cut at hc;split at hc
      ·rename_i h0
       obtain⟨i,hi⟩ : ∃ i:Nat,Lib.index l [91]=i:=⟨(Lib.index l [91]).toNat,by omega⟩
       rw[hi] at hc;simp only[qV,Prod.mk.injEq,List.length_singleton] at hc;rcases Lib.index_spec l [91] with⟨h1,_⟩ | ⟨j,h1,_,h3,_⟩
       ·omega
       ·have hj:i=j:=by omega
        subst hj;have h4:=(hocc i).1 h3;have h5:i < l.length:=(List.getElem?_eq_some_iff.1 h4).1;have h6:l[i]=91:=by rw[jX h5] at h4; exact Option.some.inj h4
        rw[← hc.1]
        calc l=l.take i++l.drop i:=(wL i l).symm
         _=l.take i++(l[i] :: l.drop (i+1)):=by rw[zV h5]
         _=l.take i++[91,d,93]:=by rw[h6,hc.2.1]
      ·simp at hc
     have:=ZN (x:=91) (d:=d) (y:=93) ha;rw[← hl,hcase,if_pos (by simp [hb.2,hd1,hd2])] at this;cases this
    ·rfl
   ·rfl
  ·rfl
 ·have h4:4≤l.length:=by
   unfold KE at hcase;simp only at hcase;split at hcase
   ·assumption
   ·cases hcase
  obtain⟨b,x,d',y,rfl⟩:=three (show 3≤l.length by omega);have hb:b≠[]:=by intro e; subst e; simp at h4
  rw[ZN hb] at hcase;split at hcase
  ·rename_i hc
   cases hcase;simp only[jZ,beq_iff_eq,decide_eq_true_eq] at hc;obtain⟨⟨⟨⟨rfl,rfl⟩,h1⟩,h2⟩,h3⟩:=hc;simp only;rw[main a d hb h3 rfl];simp [h3,h1,h2]
  ·cases hcase
end Go.Proofs.YtgnoolgeijmlaaaGreatDoor.Cov
set_option linter.unusedSimpArgs false
set_option maxRecDepth 8000
namespace Go.Proofs.YtgnoolgeijmlaaaGreatDoor.Cov
open Sm Bins Go.RowKit
open Bool renaming not_false→jC,not_true→zB,eq_iff_iff→qI
open List renaming length_take→zU,getElem?_eq_getElem→jX,map_cons→jF,map_nil→jE,append_nil→jD,getElem?_cons_zero→jS,getElem?_cons_succ→jT,length_map→jR,getElem?_eq_none→zO,take_append_drop→wL,cons_append→qH,nil_append→qB
open Nat renaming le_refl→jQ,le_of_ble_eq_true→jH,reduceEqDiff→jA,lt_or_ge→jY,add_zero→jL,zero_add→jG
open Option renaming getD_some→jB,getD_none→jM
theorem AOF (l:List UInt8):(Lib.cut l [91]).1.length≤l.length:=by
 unfold Lib.cut;split
 ·simp only[zU]; exact Nat.min_le_right _ _
 ·exact jQ _
theorem ixl {l:List UInt8}{k:Nat}{b:UInt8}{i:Int}(hi:i=(k:Int))(hb:l[k]? = some b):O5 Tryz.prog 9 (.str ⟨l.toArray⟩) (.int .i64 i)=some (.int .u8 b.toNat):=by
 subst hi;have hk:k < l.length:=(List.getElem?_eq_some_iff.1 hb).1;have:=ix9 ⟨l.toArray⟩ k .i64 hk;rw[this];have h2:(⟨l.toArray⟩:ByteArray)[k]'hk=l[k]:=rfl;rw[h2];rw[jX hk] at hb;rw[Option.some.inj hb]
theorem szl (l:List UInt8):(⟨l.toArray⟩:ByteArray).size=l.length:=rfl
theorem wrap_u8 {n:Int}(h0:0≤n)(h1:n < 256):IntKind.u8.wrap n=n:=by
 unfold IntKind.wrap; simp [IntKind.bits,IntKind.signed]; omega
theorem AHF (G:Nat→AV)(hG:GOk G)(s:ByteArray)(h:Hp)(hl:s.size≤1048576):PCall (En G) 221 [.str s] h (elemV (KE s)):=by
 refine acN Tryz.func221 rfl ?_;show awp _ _ _ _ _ (EK _ [.tmp 2,.tmp 3,.tmp 4] _);simp -implicitDefEqProofs only[vQ,BD,↓reduceIte,jA,enX,enP];refine(ADX G hG s h hl).use ?_;have he:=ADU s;have hal:=AOF s.data.toList;unfold cutV;generalize Lib.cut s.data.toList [91]=c at he hal ⊢;obtain⟨a,b,f⟩:=c;have hal2:a.length≤s.size:=by simpa using hal
 simp -implicitDefEqProofs only[vQ,jS,jT,CW,BD,↓reduceIte,jA];cases f
 ·simp -implicitDefEqProofs only[vQ,O0,CW,BD,EX,↓reduceIte,jA]
  exact⟨by rw[he]; rfl,trivial⟩
 simp -implicitDefEqProofs only[vQ,CW,BD,↓reduceIte,jA,zB];refine(PZ G hG.kw ⟨a.toArray⟩ h (by rw[szl]; omega)).use ?_;simp -implicitDefEqProofs only[vQ,CW,BD,↓reduceIte,jA];cases hn:IW ⟨a.toArray⟩
 ·simp -implicitDefEqProofs only[vQ,O0,CW,BD,EX,↓reduceIte,jA]
  exact⟨by rw[he]; simp [hn]; rfl,trivial⟩
 simp -implicitDefEqProofs only[vQ,CW,BD,↓reduceIte,jA,zB,enP,ln9,szl];refine KO (fun hb => ?_) (fun hb => ?_)
 ·simp -implicitDefEqProofs only[vQ,O0,CW,BD,EX,↓reduceIte,jA,hb]
  have hne : ∀ d y,b≠[d,y]:=by
   intro d y e; subst e; simp at hb
  have:KE s=none:=by
   rw[he]; split
   ·split
    ·rename_i hm; exact absurd hm (hne _ _)
    ·rfl
   ·rfl
  exact⟨by rw[this]; rfl,trivial⟩
 have h2:b.length=2:=by simp at hb; omega
 match b,h2 with
 | [d,y],_ =>
   have i1:O5 Tryz.prog 9 (.str ⟨[d,y].toArray⟩) (.int .i64 1)=some (.int .u8 y.toNat):=ixl (k:=1) rfl rfl;have i0:O5 Tryz.prog 9 (.str ⟨[d,y].toArray⟩) (.int .i64 0)=some (.int .u8 d.toNat):=ixl (k:=0) rfl rfl
   have he2:KE s=if(y == 93 && decide (48≤d.toNat) && decide (d.toNat < 56))=true then some (a,d) else none:=by
    rw[he]; simp [hn]
   clear he;simp -implicitDefEqProofs only[vQ,CW,BD,NC,↓reduceIte,jA,enP,hb,i1,i0];refine KO (fun hc => ?_) (fun hc => ?_)
   ·simp -implicitDefEqProofs only[vQ,O0,CW,BD,EX,↓reduceIte,jA,hc]
    have hy:(y == 93)=false:=by
     rw[← Bool.not_eq_true]; intro e; rw[beq_iff_eq] at e; subst e; simp at hc
    exact⟨by rw[he2,hy]; rfl,trivial⟩
   have hy:(y == 93)=true:=by
    rw[beq_iff_eq,← UInt8.toNat_inj];simp at hc; show y.toNat=93; omega
   simp -implicitDefEqProofs only[vQ,CW,BD,NC,↓reduceIte,jA,enP,hc,i0];refine KO (fun hd => ?_) (fun hd => ?_)
   ·simp -implicitDefEqProofs only[vQ,O0,CW,BD,EX,↓reduceIte,jA,hd]
    have:decide (48≤d.toNat)=false:=by simp at hd ⊢; omega
    exact⟨by rw[he2,this]; simp; rfl,trivial⟩
   have hd1:48≤d.toNat:=by simp at hd; omega
   simp -implicitDefEqProofs only[vQ,CW,BD,NC,↓reduceIte,jA,enP,hd,i0];refine CZ (fun hf => ?_) (fun hf => ?_)
   ·simp -implicitDefEqProofs only[vQ,O0,BD,↓reduceIte,jA]
    have:decide (d.toNat < 56)=false:=by simp at hf ⊢; omega
    exact⟨by rw[he2,this]; simp; rfl,trivial⟩
   have hd2:d.toNat < 56:=by simp at hf; omega
   simp -implicitDefEqProofs only[vQ];refine GL (by kernel_rfl) ?_;simp -implicitDefEqProofs only[vQ,AYM,AUN,O0,AKN,NC,KZ,↓reduceIte,jA,Nat.reduceAdd,enP,AX5,i0,wrap_u8 (n:=(d.toNat:Int) - 48) (by omega) (by omega),wrap_i64 (n:=(d.toNat:Int) - 48) (by omega) (by omega)];exact⟨by rw[he2]; simp [hy,hd1,hd2]; rfl,trivial⟩
theorem ACR {s:ByteArray}{u:Nat}{h:Hp}(hu:u≤s.size):MB Tryz.prog h 9 (.str s) none (some (.int .i64 (u:Int))) none=some (.str (s.extract 0 u)):=by
 have:Tryz.prog.underlying 9=some .string:=by kernel_rfl
 simp [MB,this,KH,hu]
theorem AN9 (a b:List UInt8):(⟨(a++b).toArray⟩:ByteArray).extract 0 a.length=⟨a.toArray⟩:=by
 ext1
 simp
set_option maxHeartbeats 1000000 in
theorem AO2 (G:Nat→AV)(s:ByteArray)(h:Hp)(hl:s.size≤1099511627776):PCall (En G) 231 [.str s] h (elemV (KE s)):=by
 refine acN Tryz.func231 rfl ?_;show awp _ _ _ _ _ (EK _ [.tmp 2,.tmp 3,.tmp 4] _);obtain⟨⟨l⟩⟩:=s;rw[szl] at hl;rcases jY l.length 4 with h4 | h4
 ·have hd:decide ((l.length:Int) < 4)=true:=by simp; omega
  simp -implicitDefEqProofs only[vQ,O0,CW,BD,EX,↓reduceIte,jA,enX,enP,ln9,szl,hd]
  have:KE ⟨l.toArray⟩=none:=by
   unfold KE; rw[if_neg]; simp; omega
  exact⟨by rw[this]; rfl,trivial⟩
 obtain⟨b,x,d,y,rfl⟩:=three (show 3≤l.length by omega);have hlen:(b++[x,d,y]).length=b.length+3:=by simp
 rw[hlen] at hl h4;have hbl:0 < b.length:=by omega
 have hb:b≠[]:=List.length_pos_iff.1 hbl;have he:=ZN (x:=x) (d:=d) (y:=y) hb;generalize hn:IW ⟨b.toArray⟩=nm at he;have i1:O5 Tryz.prog 9 (.str ⟨(b++[x,d,y]).toArray⟩) (.int .i64 ((b.length:Int)+2))=some (.int .u8 y.toNat):=ixl (k:=b.length+2) (by omega) (by simp);have i2:O5 Tryz.prog 9 (.str ⟨(b++[x,d,y]).toArray⟩) (.int .i64 ((b.length:Int)+1))=some (.int .u8 d.toNat):=ixl (k:=b.length+1) (by omega) (by simp);have i3:O5 Tryz.prog 9 (.str ⟨(b++[x,d,y]).toArray⟩) (.int .i64 (b.length:Int))=some (.int .u8 x.toNat):=ixl (k:=b.length) rfl (by simp);have i4:=ACR (s:=⟨(b++[x,d,y]).toArray⟩) (u:=b.length) (h:=h) (by rw[szl]; omega);rw[AN9] at i4;have hsz:(⟨(b++[x,d,y]).toArray⟩:ByteArray).size=b.length+3:=by rw[szl,hlen]
 generalize (⟨(b++[x,d,y]).toArray⟩:ByteArray)=s at *;have w1:IntKind.i64.wrap (((b.length+3:Nat):Int) - 1)=(b.length:Int)+2:=by rw[wrap_i64 (by omega) (by omega)]; omega
 have w2:IntKind.i64.wrap (((b.length+3:Nat):Int) - 2)=(b.length:Int)+1:=by rw[wrap_i64 (by omega) (by omega)]; omega
 have w3:IntKind.i64.wrap (((b.length+3:Nat):Int) - 3)=(b.length:Int):=by rw[wrap_i64 (by omega) (by omega)]; omega
 have hd8:d.toNat < 256:=d.toNat_lt;have w4:IntKind.i64.wrap (d.toNat:Int)=(d.toNat:Int):=wrap_i64 (by omega) (by omega);have w5:IntKind.i64.wrap ((d.toNat:Int) - 48)=(d.toNat:Int) - 48:=wrap_i64 (by omega) (by omega);have ha:decide (((b.length+3:Nat):Int) < 4)=false:=by simp; omega
 simp -implicitDefEqProofs only[vQ,CW,BD,NC,KZ,↓reduceIte,jA,enX,enP,ln9,hsz,ha,w1,w2,w3,i1,i2,i3,i4];refine KO (fun hc => ?_) (fun hc => ?_)
 ·simp -implicitDefEqProofs only[vQ,O0,CW,BD,EX,↓reduceIte,jA,hc]
  have hy:(y == 93)=false:=by
   rw[← Bool.not_eq_true]; intro e; rw[beq_iff_eq] at e; subst e; simp at hc
  exact⟨by rw[he,hy]; simp; rfl,trivial⟩
 have hy:(y == 93)=true:=by
  rw[beq_iff_eq,← UInt8.toNat_inj];simp at hc; show y.toNat=93; omega
 simp -implicitDefEqProofs only[vQ,CW,BD,NC,KZ,↓reduceIte,jA,enP,ln9,hsz,hc,w1,w2,w3,i1,i2,i3,i4];refine CZ (fun hd => ?_) (fun hd => ?_)
 ·simp -implicitDefEqProofs only[vQ,O0,BD,↓reduceIte,jA]
  have hx:(x == 91)=false:=by
   rw[← Bool.not_eq_true]; intro e; rw[beq_iff_eq] at e; subst e; simp at hd
  exact⟨by rw[he,hx]; simp; rfl,trivial⟩
 have hx:(x == 91)=true:=by
  rw[beq_iff_eq,← UInt8.toNat_inj];simp at hd; show x.toNat=91; omega
 simp -implicitDefEqProofs only[vQ,Option.map_some,Option.map_none,CW,BD,AKN,OO,NC,KZ,↓reduceIte,jA,enP,ln9,AX5,hsz,w1,w2,w3,i1,i2,i3,i4,w4,w5];refine KO (fun hf => ?_) (fun hf => ?_)
 ·simp -implicitDefEqProofs only[vQ,O0,CW,BD,EX,↓reduceIte,jA,hf]
  have:decide (48≤d.toNat)=false:=by simp at hf ⊢; omega
  exact⟨by rw[he,this]; simp; rfl,trivial⟩
 have hd1:48≤d.toNat:=by simp at hf; omega
 simp -implicitDefEqProofs only[vQ,CW,BD,↓reduceIte,jA,enP,hf];refine KO (fun hf => ?_) (fun hf => ?_)
 ·simp -implicitDefEqProofs only[vQ,O0,CW,BD,EX,↓reduceIte,jA,hf]
  have:decide (d.toNat < 56)=false:=by simp at hf ⊢; omega
  exact⟨by rw[he,this]; simp; rfl,trivial⟩
 have hd2:d.toNat < 56:=by simp at hf; omega
 simp -implicitDefEqProofs only[vQ,CW,BD,↓reduceIte,jA,hf];refine(QV G ⟨b.toArray⟩ h).use ?_;simp -implicitDefEqProofs only[vQ,CW,BD,↓reduceIte,jA,hn];cases nm
 ·simp -implicitDefEqProofs only[vQ,O0,BD,↓reduceIte,jA]
  exact⟨by rw[he]; simp; rfl,trivial⟩
 ·simp -implicitDefEqProofs only[vQ,O0,BD,↓reduceIte,jA,zB]
  exact⟨by rw[he]; simp [hy,hx,hd1,hd2]; rfl,trivial⟩
def JE (s:ByteArray):Bool:=(KE s).isSome || IW s
theorem ADV (o:Option (List UInt8 × UInt8)) : ∃ a n,elemV o = .tup [.str a,.int .i64 n,.bool o.isSome]:=by
 cases o with
 | none=>exact⟨_,_,rfl⟩
 | some x=>exact⟨_,_,rfl⟩
theorem ALM (G:Nat→AV)(hG:GOk G)(s:ByteArray)(h:Hp)(hl:s.size≤1048576):PCall (En G) 184 [.str s] h (.bool (JE s)):=by
 refine acN Tryz.func184 rfl ?_;show awp _ _ _ _ _ (EK _ [.tmp 2] _);simp -implicitDefEqProofs only[vQ,BD,↓reduceIte,jA,enX,enP];refine(AHF G hG s h hl).use ?_;obtain⟨a,n,e⟩:=ADV (KE s);rw[e];simp -implicitDefEqProofs only[vQ,jS,jT,CW,BD,↓reduceIte,jA];cases hs:(KE s).isSome
 ·simp -implicitDefEqProofs only[vQ,CW,BD,↓reduceIte,jA]
  refine(PZ G hG.kw s h (by omega)).use ?_;simp -implicitDefEqProofs only[vQ,BD,↓reduceIte,jA];exact⟨by unfold JE; rw[hs]; rfl,trivial⟩
 ·simp -implicitDefEqProofs only[vQ,CW,BD,EX,↓reduceIte,jA]
  exact⟨by unfold JE; rw[hs]; rfl,trivial⟩
theorem APO (G:Nat→AV)(s:ByteArray)(h:Hp)(hl:s.size≤1048576):PCall (En G) 211 [.str s] h (.bool (JE s)):=by
 refine acN Tryz.func211 rfl ?_;show awp _ _ _ _ _ (EK _ [.tmp 2] _);simp -implicitDefEqProofs only[vQ,BD,↓reduceIte,jA,enX,enP];refine(AO2 G s h (by omega)).use ?_;obtain⟨a,n,e⟩:=ADV (KE s);rw[e];simp -implicitDefEqProofs only[vQ,jS,jT,CW,BD,↓reduceIte,jA];cases hs:(KE s).isSome
 ·simp -implicitDefEqProofs only[vQ,CW,BD,↓reduceIte,jA]
  refine(QV G s h).use ?_;simp -implicitDefEqProofs only[vQ,BD,↓reduceIte,jA];exact⟨by unfold JE; rw[hs]; rfl,trivial⟩
 ·simp -implicitDefEqProofs only[vQ,CW,BD,EX,↓reduceIte,jA]
  exact⟨by unfold JE; rw[hs]; rfl,trivial⟩
def TW (s:ByteArray):Bool:=s.toList == (⟨#[]⟩:ByteArray).toList
def UE (e:Ex):Bool:=decide (e.op < 1) || decide (e.op > 25)
def AD4 (e:Ex):Bool:=((e.op == 1) && (decide (e.n < 0) || decide (e.n > 65535))) || (!(e.op == 1) && !(e.n == 0))
def AA3 (e:Ex):Bool:=(!MN e.op && !TW e.name) || !WH e.op e.args.length
def XW (e:Ex):Bool:=((e.op == 2) && !JE e.name) || (((e.op == 3) || (e.op == 24)) && !IW e.name)
def JQ (e:Ex):Int:=if UE e then 1 else if AD4 e then 1 else if AA3 e then 1 else if XW e then 7 else 0
theorem node_prog (G:Nat→AV)(hG:GOk G)(e:Ex)(h:Hp)(hl:e.name.size≤1048576):PCall (En G) 135 [.agg (D8 e)] h (.int .i64 (JQ e)):=by
 refine ACalls.pure0 rfl ?_;refine acN Tryz.func135 rfl ?_;show awp _ _ _ _ _ (EK _ [.tmp 2] _);simp -implicitDefEqProofs only[vQ,CW,BD,↓reduceIte,jA,enP,FY,bxE,EU ag3,J4];refine RI (fun F H=>F 3 = .bool (MN e.op)∧F 1 = .ptr h.length 0 0∧H=h++[.live 4 [D8 e]]) ?_ ?_
 ·cases b2:(e.op == 2) <;> cases b3:(e.op == 3)
  all_goals
   simp -implicitDefEqProofs only[vQ,CW,BD,EX,↓reduceIte,jA,enP,FY,b2,b3,EU ag3,J4];exact⟨by simp [MN,b2,b3],trivial,trivial⟩
 rintro F H ⟨f3,f1,rfl⟩;simp -implicitDefEqProofs only[vQ,CW,BD,↓reduceIte,enP,FY,f1,f3,EU ag3,J4];refine RI (fun F H=>F 17 = .bool (UE e)∧F 3 = .bool (MN e.op)∧F 1 = .ptr h.length 0 0∧H=h++[.live 4 [D8 e]]) ?_ ?_
 ·cases b2:decide (e.op < 1)
  all_goals
   simp -implicitDefEqProofs only[vQ,CW,BD,EX,↓reduceIte,jA,enP,FY,b2,f1,f3,EU ag3,J4];exact⟨by simp [UE,b2],trivial,trivial,trivial⟩
 clear f1 f3;rintro F H ⟨f17,f3,f1,rfl⟩;simp -implicitDefEqProofs only[vQ,f17];refine CZ (fun ho => ?_) (fun ho => ?_)
 ·simp -implicitDefEqProofs only[vQ,BD,↓reduceIte]
  exact⟨by unfold JQ; rw[if_pos ho],_,rfl⟩
 simp -implicitDefEqProofs only[vQ,CW,BD,↓reduceIte,enP,FY,f1,f3,EU ag3,J4,ZM];refine RI (fun F H=>F 26 = .bool (AD4 e)∧F 3 = .bool (MN e.op)∧F 1 = .ptr h.length 0 0∧H=h++[.live 4 [D8 e]]) ?_ ?_
 ·cases b1:(e.op == 1) <;> cases b2:decide (e.n < 0) <;> cases b3:decide (e.n > 65535) <;> cases b4:(e.n == 0)
  all_goals
   simp -implicitDefEqProofs only[vQ,CW,UY,BD,EX,↓reduceIte,jA,zB,enP,FY,AAO,bne,b1,b2,b3,b4,f1,f3,EU ag3,J4,ZM];exact⟨by simp [AD4,b1,b2,b3,b4],trivial,trivial,trivial⟩
 clear f1 f3 f17;rintro F H ⟨f26,f3,f1,rfl⟩;simp -implicitDefEqProofs only[vQ,f26];refine CZ (fun hn => ?_) (fun hn => ?_)
 ·simp -implicitDefEqProofs only[vQ,BD,↓reduceIte]
  exact⟨by unfold JQ; rw[if_neg (by simp [ho]),if_pos hn],_,rfl⟩
 simp -implicitDefEqProofs only[vQ,CW,BD,↓reduceIte,f1,f3,EU ag9,O9];refine RI (fun F H=>F 50 = .bool (AA3 e)∧F 3 = .bool (MN e.op)∧F 1 = .ptr h.length 0 0∧H=h++[.live 4 [D8 e]]) ?_ ?_
 ·cases bm:MN e.op <;> cases b5:TW e.name
  all_goals
   have b6:=b5;unfold TW at b6;simp -implicitDefEqProofs only[vQ,CW,BD,EX,VN,↓reduceIte,jA,zB,enP,LD,bne,bm,b6,f1,f3,EU ag9,O9,ldE]
  ·exact⟨by simp [AA3,bm,b5],trivial,trivial,trivial⟩
  all_goals
   refine(AES G e _).use ?_;simp -implicitDefEqProofs only[vQ,CW,BD,↓reduceIte,jA,bne,bm,f1,f3];exact⟨by simp [AA3,bm,b5],trivial,trivial,trivial⟩
 clear f1 f3 f26;rintro F H ⟨f50,f3,f1,rfl⟩;simp -implicitDefEqProofs only[vQ,f50];refine CZ (fun hs => ?_) (fun hs => ?_)
 ·simp -implicitDefEqProofs only[vQ,BD,↓reduceIte]
  exact⟨by unfold JQ; rw[if_neg (by simp [ho]),if_neg (by simp [hn]),if_pos hs],_,rfl⟩
 simp -implicitDefEqProofs only[vQ,CW,BD,↓reduceIte,enP,FY,f1,f3,EU ag9,EU ag3,J4,O9]
 have fin : ∀ b,XW e=b→JQ e=if b then 7 else 0:=by
  intro b hb;unfold JQ; rw[if_neg (by simp [ho]),if_neg (by simp [hn]),if_neg (by simp [hs]),hb]
 cases b2:(e.op == 2)
 ·simp -implicitDefEqProofs only[vQ,CW,BD,EX,↓reduceIte,jA,enP,FY,b2,f1,f3,EU ag9,EU ag3,J4,O9]
  cases b3:(e.op == 3) <;> cases b4:(e.op == 24)
  all_goals
   simp -implicitDefEqProofs only[vQ,CW,BD,EX,↓reduceIte,jA,enP,FY,LD,b3,b4,f1,f3,EU ag9,EU ag3,J4,O9]
  ·exact⟨by rw[fin false (by simp [XW,b2,b3,b4])]; rfl,_,rfl⟩
  all_goals
   refine(PZ G hG.kw e.name _ (by omega)).use ?_;cases bi:IW e.name
   ·simp -implicitDefEqProofs only[vQ,CW,BD,↓reduceIte,jA]
    exact⟨by rw[fin true (by simp [XW,b2,b3,b4,bi])]; rfl,_,rfl⟩
   ·simp -implicitDefEqProofs only[vQ,CW,BD,↓reduceIte,jA,zB]
    exact⟨by rw[fin false (by simp [XW,b2,b3,b4,bi])]; rfl,_,rfl⟩
 ·have e2:e.op=2:=by simpa using b2
  simp -implicitDefEqProofs only[vQ,CW,BD,↓reduceIte,jA,enP,LD,b2,f1,f3,EU ag9,EU ag3,J4,O9];refine(ALM G hG e.name _ hl).use ?_;cases bi:JE e.name
  ·simp -implicitDefEqProofs only[vQ,CW,UY,BD,EX,↓reduceIte,jA]
   exact⟨by rw[fin true (by simp [XW,b2,bi])]; rfl,_,rfl⟩
  ·simp -implicitDefEqProofs only[vQ,CW,BD,EX,↓reduceIte,jA,zB,enP,FY,f1,EU ag3,J4,e2,Int.reduceBEq]
   exact⟨by rw[fin false (by simp [XW,e2,bi])]; rfl,_,rfl⟩
def AD5 (e:Ex):Bool:=UE e || decide (e.n < 0) || decide (e.n > 65535) || (!(e.n == 0) && !(e.op == 1)) || (!TW e.name && !MN e.op)
def AJ3 (op:Int)(n:Nat):Bool:=((op == 23) && (decide ((n:Int) < 3) || decide ((n:Int) > 33) || ((n:Int) % 2 == 0))) || (!(op == 23) && !((n:Int) == arity op))
theorem AW4 (op:Int)(n:Nat):AJ3 op n = !WH op n:=by
 unfold AJ3 WH;rcases hc:(op == 23) with _ | _
 ·simp
 ·have h1:decide ((n:Int) < 3) = !decide ((n:Int)≥3):=by rw[qI]; simp
  have h2:decide ((n:Int) > 33) = !decide ((n:Int)≤33):=by rw[qI]; simp
  have h3:((n:Int) % 2 == 0) = !((n:Int) % 2 == 1):=by rw[qI]; simp; omega
  rw[h1,h2,h3];cases ((n:Int) % 2 == 1) <;> cases decide ((n:Int)≥3) <;> cases decide ((n:Int)≤33) <;> rfl
theorem AW5 (e:Ex):(AD5 e || AJ3 e.op e.args.length)=(UE e || AD4 e || AA3 e):=by
 rw[AW4];unfold AD5 AD4 AA3;rcases h1:(e.op == 1) with _ | _
 ·rcases h2:(e.n == 0) with _ | _
  ·simp
  ·have h3:decide (e.n < 0)=false:=by simp at h2 ⊢; omega
   have h4:decide (e.n > 65535)=false:=by simp at h2 ⊢; omega
   rw[h3,h4];cases UE e <;> cases TW e.name <;> cases MN e.op <;> cases WH e.op e.args.length <;> rfl
 ·cases UE e <;> cases TW e.name <;> cases MN e.op <;> cases WH e.op e.args.length <;> cases decide (e.n < 0) <;> cases decide (e.n > 65535) <;> cases (e.n == 0) <;> rfl
theorem AAJ (e:Ex):JQ e=if AD5 e then 1 else if AJ3 e.op e.args.length then 1 else if XW e then 7 else 0:=by
 have:=AW5 e;unfold JQ
 revert this
 cases AD5 e <;> cases AJ3 e.op e.args.length <;> cases UE e <;> cases AD4 e <;> cases AA3 e <;> simp
set_option maxHeartbeats 1000000 in
theorem AE3 (G:Nat→AV)(e:Ex)(h:Hp)(hl:e.name.size≤1048576):PCall (En G) 168 [.agg (D8 e)] h (.int .i64 (JQ e)):=by
 refine ACalls.pure0 rfl ?_;refine acN Tryz.func168 rfl ?_;show awp _ _ _ _ _ (EK _ [.tmp 2] _);simp -implicitDefEqProofs only[vQ,CW,BD,↓reduceIte,jA,enP,FY,bxE,EU ag3,J4];refine RI (fun F H=>F 42 = .bool (AD5 e)∧F 1 = .ptr h.length 0 0∧H=h++[.live 4 [D8 e]]) ?_ ?_
 ·cases b1:decide (e.op < 1)
  case true =>
   simp -implicitDefEqProofs only[vQ,CW,UY,BD,EX,↓reduceIte,jA,b1];exact⟨by simp [AD5,UE,b1],trivial,trivial⟩
  simp -implicitDefEqProofs only[vQ,CW,BD,↓reduceIte,jA,enP,FY,b1,EU ag3,J4,ZM];cases b2:decide (e.op > 25)
  case true =>
   simp -implicitDefEqProofs only[vQ,CW,UY,BD,EX,↓reduceIte,jA,b2];exact⟨by simp [AD5,UE,b2],trivial,trivial⟩
  simp -implicitDefEqProofs only[vQ,CW,BD,↓reduceIte,jA,enP,AAO,b2,EU ag3,J4,ZM];have bO:UE e=false:=by unfold UE; rw[b1,b2]; rfl
  cases b3:decide (e.n < 0)
  case true =>
   simp -implicitDefEqProofs only[vQ,CW,UY,BD,EX,↓reduceIte,jA,b3];exact⟨by simp only[AD5,b3]; simp,trivial,trivial⟩
  simp -implicitDefEqProofs only[vQ,CW,BD,↓reduceIte,jA,enP,AAO,b3,EU ag3,J4,ZM];cases b4:decide (e.n > 65535)
  case true =>
   simp -implicitDefEqProofs only[vQ,CW,UY,BD,EX,↓reduceIte,jA,b4];exact⟨by simp only[AD5,b4]; simp,trivial,trivial⟩
  simp -implicitDefEqProofs only[vQ,CW,BD,↓reduceIte,jA,enP,AAO,b4,bne,EU ag3,EU ag9,J4,ZM,O9]
  have fin : ∀ b,((!(e.n == 0) && !(e.op == 1)) || (!TW e.name && !MN e.op))=b→AD5 e=b:=by
   intro b hb;unfold AD5; rw[bO,b3,b4]; simpa using hb
  cases b5:(e.n == 0) <;> cases b6:(e.op == 1) <;> cases b7:TW e.name
  all_goals
   have b8:=b7;unfold TW at b8;simp -implicitDefEqProofs only[vQ,CW,UY,BD,EX,VN,↓reduceIte,jA,zB,enP,FY,LD,bne,b5,b6,b8,EU ag3,EU ag9,J4,ZM,O9]
  all_goals first
   | exact⟨by rw[fin _ rfl]; simp [b5,b6,b7],trivial,trivial⟩
   | refine(AAK G e.op _).use ?_
     simp -implicitDefEqProofs only[vQ,CW,BD,↓reduceIte,jA];exact⟨by rw[fin _ rfl]; simp [b5,b6,b7],trivial,trivial⟩
 rintro F H ⟨f42,f1,rfl⟩;simp -implicitDefEqProofs only[vQ,f42];refine CZ (fun ho => ?_) (fun ho => ?_)
 ·simp -implicitDefEqProofs only[vQ,BD,↓reduceIte]
  exact⟨by rw[AAJ,if_pos ho],_,rfl⟩
 simp -implicitDefEqProofs only[vQ,CW,BD,↓reduceIte,jA,enP,UU,FY,MS,f1,EU ag3,EU VQ,J4,VJ,jR];generalize hn:e.args.length=n;have hm:(n:Int).tmod 2=(n:Int) % 2:=Int.tmod_eq_emod_of_nonneg (by omega);have br:JC Tryz.prog 3 .rem (.int .i64 (n:Int)) (.int .i64 2)=some (.int .i64 ((n:Int) % 2)):=by rw[ZU _ _ _ _ _ (by decide),hm]
 refine RI (fun F H=>F 73 = .bool (AJ3 e.op n)∧F 1 = .ptr h.length 0 0∧H=h++[.live 4 [D8 e]]) ?_ ?_
 ·cases b1:(e.op == 23)
  ·simp -implicitDefEqProofs only[vQ,CW,UY,BD,EX,↓reduceIte,jA,enP,FY,bne,b1,f1,EU ag3,J4]
   refine(AP8 G e.op _).use ?_;simp -implicitDefEqProofs only[vQ,CW,BD,↓reduceIte,jA,enP,bne];exact⟨by unfold AJ3; rw[b1]; simp,f1,trivial⟩
  ·cases b2:decide ((n:Int) < 3) <;> cases b3:decide ((n:Int) > 33) <;> cases b4:((n:Int) % 2 == 0)
   all_goals
    simp -implicitDefEqProofs only[vQ,CW,UY,BD,EX,↓reduceIte,jA,zB,enP,FY,bne,b1,b2,b3,b4,br,f1,EU ag3,J4];exact⟨by unfold AJ3; rw[b1,b2,b3,b4]; simp,trivial,trivial⟩
 clear f1 f42;rintro F H ⟨f73,f1,rfl⟩;simp -implicitDefEqProofs only[vQ,f73];subst hn;refine CZ (fun hs => ?_) (fun hs => ?_)
 ·simp -implicitDefEqProofs only[vQ,BD,↓reduceIte]
  exact⟨by rw[AAJ,if_neg (by simp [ho]),if_pos hs],_,rfl⟩
 simp -implicitDefEqProofs only[vQ,CW,BD,↓reduceIte,enP,FY,f1,EU ag3,EU ag9,J4,O9]
 have fin : ∀ b,XW e=b→JQ e=if b then 7 else 0:=by
  intro b hb;rw[AAJ,if_neg (by simp [ho]),if_neg (by simp [hs]),hb]
 cases b2:(e.op == 2)
 ·simp -implicitDefEqProofs only[vQ,CW,BD,EX,↓reduceIte,jA,enP,FY,b2,f1,EU ag9,EU ag3,J4,O9]
  refine(AAK G e.op _).use ?_;cases bm:MN e.op
  ·have hv:XW e=false:=by
    unfold MN at bm; simp only[Bool.or_eq_false_iff] at bm;simp [XW,bm.1.1,bm.1.2,bm.2]
   simp -implicitDefEqProofs only[vQ,CW,BD,EX,↓reduceIte,jA];exact⟨by rw[fin false hv]; rfl,_,rfl⟩
  have hv:XW e = !IW e.name:=by
   unfold MN at bm; rw[b2] at bm; simp only[Bool.false_or] at bm;unfold XW; rw[b2,bm]; simp
  simp -implicitDefEqProofs only[vQ,CW,BD,↓reduceIte,jA,enP,FY,LD,bne,b2,f1,EU ag9,EU ag3,J4,O9];refine(QV G e.name _).use ?_;cases bi:IW e.name
  ·simp -implicitDefEqProofs only[vQ,CW,BD,↓reduceIte,jA]
   exact⟨by rw[fin true (by rw[hv,bi]; rfl)]; rfl,_,rfl⟩
  ·simp -implicitDefEqProofs only[vQ,CW,BD,↓reduceIte,jA,zB]
   exact⟨by rw[fin false (by rw[hv,bi]; rfl)]; rfl,_,rfl⟩
 ·have e2:e.op=2:=by simpa using b2
  have hv:XW e = !JE e.name:=by
   unfold XW; rw[e2]; simp
  simp -implicitDefEqProofs only[vQ,CW,BD,↓reduceIte,jA,enP,LD,b2,f1,EU ag9,EU ag3,J4,O9];refine(APO G e.name _ hl).use ?_;cases bi:JE e.name
  ·simp -implicitDefEqProofs only[vQ,CW,UY,BD,EX,↓reduceIte,jA]
   exact⟨by rw[fin true (by rw[hv,bi]; rfl)]; rfl,_,rfl⟩
  ·simp -implicitDefEqProofs only[vQ,CW,BD,↓reduceIte,jA,zB,enP,FY,f1,EU ag3,J4]
   refine(AAK G e.op _).use ?_;have bm:MN e.op=true:=by rw[e2]; rfl
   simp -implicitDefEqProofs only[vQ,CW,BD,EX,↓reduceIte,jA,zB,enP,FY,bne,bm,f1,EU ag3,J4,b2];exact⟨by rw[fin false (by rw[hv,bi]; rfl)]; rfl,_,rfl⟩
theorem AQA (h:Hp):JY Tryz.prog h 37=some (.ptr h.length 0 0,h++[.live 4 [[.int .i64 0,.int .i64 0,.str ⟨#[]⟩,.sl .nil 0 []]]]):=JL (row := [.int .i64 0,.int .i64 0,.str ⟨#[]⟩,.sl .nil 0 []]) (by kernel_rfl)
theorem AO1 (h:Hp)(e:Ex)(row:List AV)(hr:row.length=4):FD Tryz.prog (h++[.live 4 [row]]) 37 (.ptr h.length 0 0) (.agg (D8 e))=some (h++[.live 4 [D8 e]]):=by
 rw[AAE (SL (AFU e)) (by rw[IK]; exact QB) (by rw[IK,hr]; exact jQ _)];have:splice row 0 (D8 e)=D8 e:=by unfold splice; simp [IK,hr]
 rw[this]
theorem A5L (h:Hp):JY Tryz.prog h 39=some (.ptr h.length 0 0,h++[.live 1 [[.int .i64 0]]]):=JL (row := [.int .i64 0]) (by kernel_rfl)
theorem al3 (h:Hp):JY Tryz.prog h 3=some (.ptr h.length 0 0,h++[.live 1 [[.int .i64 0]]]):=JL (row := [.int .i64 0]) (by kernel_rfl)
theorem AYD (h:Hp):JY Tryz.prog h 163=some (.ptr h.length 0 0,h++[.live 1 [[.nilfn]]]):=JL (row := [.nilfn]) (by kernel_rfl)
theorem JK {h:Hp}{t:TypeId}{b:Nat}{v:AV}(hag:JG Tryz.prog t=some false)(hb:h[b]? = some (.live 1 [[v]])):DF Tryz.prog h t (.ptr b 0 0)=some v:=by
 rw[DJ hag hb (row := [v]) rfl]; rfl
theorem TQ {h:Hp}{t:TypeId}{b:Nat}{v u:AV}(hs:szO Tryz.prog t=some 1)(hc:JF u=some [u])(hb:h[b]? = some (.live 1 [[v]])):FD Tryz.prog h t (.ptr b 0 0) u=some (h.set b (.live 1 [[u]])):=by
 rw[GU hc hs hb (row := [v]) rfl (by simp)]; rfl
theorem A49 (h:Hp)(f:Fn)(a b:List AV):MC h (.fn f a b)=some (.ptr h.length 0 0,h++[.live 1 [[.fn f a b]]]):=rfl
def Chg (c:Nat)(h h':Hp):Prop:=h.length≤h'.length∧∀ b,b < h.length→b≠c→h'[b]? = h[b]?
theorem Chg.refl (c:Nat)(h:Hp):Chg c h h:=⟨jQ _,fun _ _ _=>rfl⟩
theorem Chg.trans {c:Nat}{a b d:Hp}(h1:Chg c a b)(h2:Chg c b d):Chg c a d :=
 ⟨Nat.le_trans h1.1 h2.1,fun i hi hc=>by rw[h2.2 i (Nat.lt_of_lt_of_le hi h1.1) hc,h1.2 i hi hc]⟩
theorem Chg.app (c:Nat)(h x:Hp):Chg c h (h++x):=⟨by simp,fun i hi _=>List.getElem?_append_left hi⟩
theorem Chg.set (c:Nat)(h:Hp)(x:ABlk):Chg c h (h.set c x):=⟨by simp,fun i _ hc=>by rw[List.getElem?_set,if_neg (fun e=>hc e.symm)]⟩
theorem Chg.get {c b:Nat}{h h':Hp}{x:ABlk}(hc:Chg c h h')(hb:h[b]? = some x)(hne:b≠c):h'[b]? = some x:=by
 rw[hc.2 b (CB hb) hne]; exact hb
theorem Chg.above {c:Nat}{h h':Hp}(hc:Chg c h h')(hl:h.length≤c) : ∃ x,h'=h++x:=by
 refine⟨h'.drop h.length,?_⟩
 have:h'.take h.length=h:=by
  refine List.ext_getElem? fun i => ?_
  rcases jY i h.length with hi | hi
  ·rw[List.getElem?_take_of_lt hi,hc.2 i hi (by omega)]
  ·rw[zO (by rw[zU]; omega),zO hi]
 conv=>lhs; rw[← wL h.length h',this]
def run (upd:Ex→Int→Int)(cont:Int→Bool):List Ex→Int→Int × Bool
 | [],z=>(z,true)
 | e :: es,z=>if cont (upd e z) then run upd cont es (upd e z) else (upd e z,false)
theorem run_go {upd:Ex→Int→Int}{cont:Int→Bool} : ∀ {xs:List Ex} (ys:List Ex) {z z':Int},run upd cont xs z=(z',true)→run upd cont (xs++ys) z=run upd cont ys z'
 | [],ys,z,z',h=>by cases h; rfl
 | x :: xs,ys,z,z',h=>by
   simp only[run,qH] at h ⊢;split at h
   ·rename_i hc; rw[if_pos hc]; exact run_go ys h
   ·cases h
theorem run_stop {upd:Ex→Int→Int}{cont:Int→Bool} : ∀ {xs:List Ex} (ys:List Ex) {z z':Int},run upd cont xs z=(z',false)→run upd cont (xs++ys) z=(z',false)
 | [],ys,z,z',h=>by cases h
 | x :: xs,ys,z,z',h=>by
   simp only[run,qH] at h ⊢;split at h
   ·rename_i hc; rw[if_pos hc]; exact run_stop ys h
   ·rename_i hc; rw[if_neg hc]; exact h
theorem KR (xs:List Ex)(j:Nat)(hj:j < xs.length):IQ (xs.take (j+1))=IQ (xs.take j)++pre xs[j]:=by
 rw[List.take_succ_eq_append_getElem hj,MM]; simp [IQ]
theorem YT {a:Ex} : ∀ {xs:List Ex},a∈xs→∀ x∈pre a,x∈IQ xs
 | [],h,_,_=>by cases h
 | y :: ys,h,x,hx=>by
   simp only[IQ,List.mem_append]
   cases List.mem_cons.1 h with
   | inl e=>subst e; exact .inl hx
   | inr e=>exact .inr (YT e x hx)
def AOT (G:Nat→AV)(k:FuncId)(upd:Ex→Int→Int)(cont:Int→Bool)(e:Ex):Prop :=
 ∀ (h:Hp) (c:Nat) (z:Int),h[c]? = some (.live 1 [[.int .i64 z]])→ACalls (En G) k [.agg (D8 e),.ptr c 0 0] h fun v h'=>v = .bool (cont (upd e z))∧Chg c h h'∧h'[c]? = some (.live 1 [[.int .i64 (upd e z)]])
theorem AP0 (G:Nat→AV)(k:FuncId)(upd:Ex→Int→Int)(cont:Int→Bool)(c vb db:Nat)(hv:vb≠c)(hd:db≠c)(e:Ex) :
  wt e≤1099511627776→(∀ x∈pre e,AOT G k upd cont x)→∀ (h:Hp) (z:Int),h[c]? = some (.live 1 [[.int .i64 z]])→h[vb]? = some (.live 1 [[.fn (.func k) [] [.ptr c 0 0]]]) →
   h[db]? = some (.live 1 [[.fn (.func 182) [] [.ptr vb 0 0,.ptr db 0 0]]]) →
   ACalls (En G) 182 [.agg (D8 e),.ptr vb 0 0,.ptr db 0 0] h fun v h'=>v = .bool (run upd cont (pre e) z).2∧Chg c h h'∧h'[c]? = some (.live 1 [[.int .i64 (run upd cont (pre e) z).1]]):=by
 induction e using Ex.induct with | h e ih => ?_
 intro hw hvis h z hc hvb hdb;have hcl:=CB hc;have hal:e.args.length≤1099511627776:=by have:=YD e.args; have:=QO e; omega
 refine acN Tryz.func182 rfl ?_;show awp _ _ _ _ _ (EK _ [.tmp 4] _);simp -implicitDefEqProofs only[vQ,BD,qB,qH,↓reduceIte,jA,enP,bxE,JK AGA (BR hvb),ldE];refine(hvis e (by rw[pre_eq]; simp) _ c z (BR hc)).mono ?_;rintro v h1 ⟨rfl,hch,hc1⟩;have hch0:=(Chg.app c h _).trans hch;have hb3:h1[h.length]? = some (.live 4 [D8 e]):=hch.get (CU _ _) (by omega);have hrun:run upd cont (pre e) z=if cont (upd e z) then run upd cont (IQ e.args) (upd e z) else (upd e z,false):=by rw[pre_eq]; rfl
 simp -implicitDefEqProofs only[vQ,BD,↓reduceIte];cases hct:cont (upd e z)
 ·simp -implicitDefEqProofs only[vQ,BD,↓reduceIte]
  rw[hrun,hct];exact⟨rfl,hch0,hc1⟩
 rw[hct,if_pos rfl] at hrun;have hvb1:=hch0.get hvb hv;have hdb1:=hch0.get hdb hd;have l3:DF Tryz.prog h1 23 (.ptr h.length 0 3)=some (.sl e.m 4 (e.args.map D8)):=by rw[DJ VQ hb3 (row:=D8 e) rfl,VJ]
 simp -implicitDefEqProofs only[vQ,BD,↓reduceIte,jA,zB,enP,UU,MS,l3,jR];refine DX (fun n F H => ∃ j z',n+j=e.args.length∧F 1 = .ptr vb 0 0∧F 2 = .ptr db 0 0∧F 12 = .sl e.m 4 (e.args.map D8)∧F 13 = .int .i64 e.args.length∧F 14 = .int .i64 (j:Nat)∧Chg c h H∧H[c]? = some (.live 1 [[.int .i64 z']])∧run upd cont (IQ (e.args.take j)) (upd e z)=(z',true)) e.args.length ⟨0,upd e z,by simp,by simp -implicitDefEqProofs only[vQ,↓reduceIte,jA],by simp -implicitDefEqProofs only[vQ,↓reduceIte,jA],by simp -implicitDefEqProofs only[AA,↓reduceIte,jA],by simp -implicitDefEqProofs only[AA,↓reduceIte,jA],by simp -implicitDefEqProofs only[AA,↓reduceIte]; rfl,hch0,hc1,rfl⟩ ?_;rintro n F H ⟨j,z',hj,f1,f2,f12,f13,f14,hC,hcz,hr⟩;simp -implicitDefEqProofs only[vQ,BD,↓reduceIte,enP,f13,f14];refine CZ (fun hlt => ?_) (fun hlt => ?_)
 ·have hj':j < e.args.length:=by simpa using hlt
  have hdH:H[db]? = some (.live 1 [[.fn (.func 182) [] [.ptr vb 0 0,.ptr db 0 0]]]):=hC.get hdb hd;have hvH:H[vb]? = some (.live 1 [[.fn (.func k) [] [.ptr c 0 0]]]):=hC.get hvb hv;simp -implicitDefEqProofs only[vQ,BD,qB,qH,↓reduceIte,jA,enP,WJ,jM,f12,f14,EW hj',GV VO QB IK hj',AQA,AO1 _ _ [.int .i64 0,.int .i64 0,.str ⟨#[]⟩,.sl .nil 0 []] rfl,f2,JK AGA (BR hdH),ldE];have hmem:e.args[j]∈e.args:=List.getElem_mem hj';refine(ih e.args[j] hmem (by have:=TL hmem; have:=QO e; omega) (fun x hx=>hvis x (by rw[pre_eq]; exact List.mem_cons_of_mem _ (YT hmem x hx))) _ z' (BR hcz) (BR hvH) (BR hdH)).mono ?_;rintro v h2 ⟨rfl,hch2,hc2⟩;have hC2:=hC.trans ((Chg.app c H _).trans hch2)
  have hsplit:IQ e.args=IQ (e.args.take j)++(pre e.args[j]++IQ (e.args.drop (j+1))):=by
   rw[← List.append_assoc,← KR _ _ hj',← MM,wL]
  simp -implicitDefEqProofs only[vQ,BD,↓reduceIte];rcases hrr:run upd cont (pre e.args[j]) z' with⟨z2,b2⟩;rw[hrr] at hc2;cases b2
  ·simp -implicitDefEqProofs only[vQ,BD,↓reduceIte]
   have:run upd cont (pre e) z=(z2,false):=by rw[hrun,hsplit,run_go _ hr]; exact run_stop _ hrr
   rw[this];exact⟨rfl,hC2,hc2⟩
  ·simp -implicitDefEqProofs only[vQ,BD,↓reduceIte,jA,zB,enP,f1,f2,f12,f13,f14,wrap_succ (show j < 9223372036854775807 by omega)]
   refine⟨n - 1,by omega,j+1,z2,by omega,trivial,trivial,trivial,trivial,rfl,hC2,hc2,?_⟩;rw[KR _ _ hj',run_go _ hr]; exact hrr
 ·have hj' : ¬ j < e.args.length:=by simpa using hlt
  simp -implicitDefEqProofs only[vQ,BD,↓reduceIte];rw[List.take_of_length_le (by omega)] at hr;rw[hrun,hr];exact⟨rfl,hC,hcz⟩
theorem AE4 (G:Nat→AV)(k:FuncId)(upd:Ex→Int→Int)(cont:Int→Bool)(c:Nat)(e:Ex)(hw:wt e≤1099511627776)(hvis : ∀ x∈pre e,AOT G k upd cont x)(h:Hp)(z:Int)(hc:h[c]? = some (.live 1 [[.int .i64 z]])) :
  ACalls (En G) 133 [.agg (D8 e),.fn (.func k) [] [.ptr c 0 0]] h fun _ h'=>Chg c h h'∧h'[c]? = some (.live 1 [[.int .i64 (run upd cont (pre e) z).1]]):=by
 have hcl:=CB hc;refine acN Tryz.func133 rfl ?_;show awp _ _ _ _ _ (EK _ [] _);simp -implicitDefEqProofs only[vQ,BD,I7,↓reduceIte,jA,enP,jM,bxE,A49,AYD];have g0:(h++[ABlk.live 4 [D8 e]]++[ABlk.live 1 [[AV.fn (.func k) [] [.ptr c 0 0]]]]++[ABlk.live 1 [[AV.nilfn]]])[(h++[ABlk.live 4 [D8 e]]++[ABlk.live 1 [[AV.fn (.func k) [] [.ptr c 0 0]]]]).length]? = some (.live 1 [[.nilfn]]):=CU _ _;simp -implicitDefEqProofs only[vQ,BD,↓reduceIte,jA,enP,TQ AXN (AYJ _ _ _) g0];generalize hdb:(h++[ABlk.live 4 [D8 e]]++[ABlk.live 1 [[AV.fn (.func k) [] [.ptr c 0 0]]]]).length=db at g0 ⊢;generalize hvb:(h++[ABlk.live 4 [D8 e]]).length=vb;have hvl:vb=h.length+1:=by rw[← hvb]; simp
 have hdl:db=h.length+2:=by rw[← hdb]; simp
 generalize hH:(h++[ABlk.live 4 [D8 e]]++[ABlk.live 1 [[AV.fn (.func k) [] [.ptr c 0 0]]]]++[ABlk.live 1 [[AV.nilfn]]]).set db (.live 1 [[AV.fn (.func 182) [] [.ptr vb 0 0,.ptr db 0 0]]])=H;have h1:H[db]? = some (.live 1 [[.fn (.func 182) [] [.ptr vb 0 0,.ptr db 0 0]]]):=by rw[← hH]; exact DZ g0
 have h2:H[vb]? = some (.live 1 [[.fn (.func k) [] [.ptr c 0 0]]]):=by
  rw[← hH]; refine MQ ?_ (by omega);rw[← hvb]; exact BR (CU _ _)
 have h3:H[h.length]? = some (.live 4 [D8 e]):=by
  rw[← hH]; refine MQ ?_ (by omega);exact BR (BR (CU _ _))
 have h4:H[c]? = some (.live 1 [[.int .i64 z]]):=by
  rw[← hH]; refine MQ ?_ (by omega);exact BR (BR (BR hc))
 have hC:Chg c h H:=by
  refine⟨by rw[← hH]; simp,fun b hb hbc => ?_⟩;obtain⟨x,hx⟩ : ∃ x,h[b]? = some x:=⟨_,jX hb⟩
  rw[← hH,hx];exact MQ (BR (BR (BR hx))) (by omega)
 simp -implicitDefEqProofs only[vQ,BD,qB,qH,↓reduceIte,jA,enP,JK AGA h1,J7 h3];refine(AP0 G k upd cont c vb db (by omega) (by omega) e hw hvis H z h4 h2 h1).mono ?_;rintro v h' ⟨rfl,hch,hc1⟩;simp -implicitDefEqProofs only[vQ,ADQ];exact⟨hC.trans hch,hc1⟩
end Go.Proofs.YtgnoolgeijmlaaaGreatDoor.Cov
