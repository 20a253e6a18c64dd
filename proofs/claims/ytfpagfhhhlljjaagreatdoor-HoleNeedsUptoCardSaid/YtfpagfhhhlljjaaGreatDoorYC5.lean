/- Part 5 of the proof (Ft, B1, B2, B3, B4, B5, B6, E1, E2, E3, E4); no condition. -/
import Derived.Test.YtfpagfhhhlljjaaGreatDoorProg
import Derived.KernelRfl
import Derived.Laws.RangeAny
import Derived.Shelf.Strings.Cut
import Derived.Lib.IndexMore
import Derived.Test.YtfpagfhhhlljjaaGreatDoorYC4
set_option linter.unusedVariables false
namespace Go.Proofs.YtfpagfhhhlljjaaGreatDoor.Sm

theorem sz3:szO Tryz.prog 3=some 1:=by kernel_rfl
theorem ag3:KJ Tryz.prog 3=some false:=by kernel_rfl
theorem ag4:KJ Tryz.prog 4=some false:=by kernel_rfl
theorem sz9:szO Tryz.prog 9=some 1:=by kernel_rfl
theorem ag9:KJ Tryz.prog 9=some false:=by kernel_rfl
theorem Z7:KJ Tryz.prog 22=some false:=by kernel_rfl
theorem AD2:KJ Tryz.prog 23=some false:=by kernel_rfl
theorem A2B:szO Tryz.prog 25=some 2:=by kernel_rfl
theorem A6Z:KJ Tryz.prog 25=some true:=by kernel_rfl
theorem AIJ:szO Tryz.prog 26=some 1:=by kernel_rfl
theorem OA:KJ Tryz.prog 26=some false:=by kernel_rfl
theorem A2A:szO Tryz.prog 28=some 3:=by kernel_rfl
theorem A6Y:KJ Tryz.prog 28=some true:=by kernel_rfl
theorem A31:szO Tryz.prog 33=some 1:=by kernel_rfl
theorem A6X:KJ Tryz.prog 33=some false:=by kernel_rfl
theorem A19:szO Tryz.prog 34=some 1:=by kernel_rfl
theorem AXD:KJ Tryz.prog 34=some false:=by kernel_rfl
theorem ATP:szO Tryz.prog 46=some 1:=by kernel_rfl
theorem RQ:KJ Tryz.prog 46=some false:=by kernel_rfl
theorem MM:szO Tryz.prog 48=some 4:=by kernel_rfl
theorem U4:KJ Tryz.prog 48=some true:=by kernel_rfl
theorem AD1:KJ Tryz.prog 49=some false:=by kernel_rfl
theorem AAY:szO Tryz.prog 51=some 6:=by kernel_rfl
theorem AEV:KJ Tryz.prog 51=some true:=by kernel_rfl
theorem A30:szO Tryz.prog 53=some 1:=by kernel_rfl
theorem YR:KJ Tryz.prog 53=some false:=by kernel_rfl
theorem AOI:KJ Tryz.prog 54=some false:=by kernel_rfl
theorem YY:szO Tryz.prog 56=some 4:=by kernel_rfl
theorem AEU:KJ Tryz.prog 56=some true:=by kernel_rfl
theorem A18:szO Tryz.prog 59=some 2:=by kernel_rfl
theorem A8O:KJ Tryz.prog 59=some true:=by kernel_rfl
theorem A7H:szO Tryz.prog 60=some 1:=by kernel_rfl
theorem A0Y:KJ Tryz.prog 60=some false:=by kernel_rfl
theorem A17:szO Tryz.prog 65=some 1:=by kernel_rfl
theorem AS3:KJ Tryz.prog 65=some false:=by kernel_rfl
theorem AX4:szO Tryz.prog 67=some 1:=by kernel_rfl
theorem TR:KJ Tryz.prog 67=some false:=by kernel_rfl
theorem AGH:szO Tryz.prog 69=some 3:=by kernel_rfl
theorem AOH:KJ Tryz.prog 69=some true:=by kernel_rfl
theorem ATO:szO Tryz.prog 81=some 4:=by kernel_rfl
theorem A8N:KJ Tryz.prog 81=some true:=by kernel_rfl
theorem RX:szO Tryz.prog 88=some 2:=by kernel_rfl
theorem AL0:KJ Tryz.prog 88=some true:=by kernel_rfl
theorem ATQ:szO Tryz.prog 120=some 1:=by kernel_rfl
theorem A62:KJ Tryz.prog 120=some true:=by kernel_rfl
theorem A1C:szO Tryz.prog 184=some 2:=by kernel_rfl
theorem A61:KJ Tryz.prog 184=some true:=by kernel_rfl
theorem A1B:szO Tryz.prog 205=some 1:=by kernel_rfl
theorem A60:KJ Tryz.prog 205=some true:=by kernel_rfl
theorem ln9 : ∀ s,KX Tryz.prog 9 (.str s)=some (.int .i64 s.size):=AZE (by kernel_rfl:Tryz.prog.underlying 9=some .string)
theorem WQ : ∀ h a i,F6 Tryz.prog h 22 a i=JG 6 h a i:=IR (by kernel_rfl:Tryz.prog.underlying 22=some (.slice 51)) AAY
theorem UQ:(∀ m k xs,KX Tryz.prog 22 (.sl m k xs)=some (.int .i64 xs.length))∧∀ b off len,KX Tryz.prog 22 (.own b off len)=some (.int .i64 len):=OZ (by kernel_rfl:Tryz.prog.underlying 22=some (.slice 51))
theorem XZ : ∀ h a i,F6 Tryz.prog h 23 a i=JG 3 h a i:=IR (by kernel_rfl:Tryz.prog.underlying 23=some (.slice 69)) AGH
theorem AEF:(∀ m k xs,KX Tryz.prog 23 (.sl m k xs)=some (.int .i64 xs.length))∧∀ b off len,KX Tryz.prog 23 (.own b off len)=some (.int .i64 len):=OZ (by kernel_rfl:Tryz.prog.underlying 23=some (.slice 69))
theorem JV:(∀ b i j,DF Tryz.prog 25 (.ptr b i j) 0=some (.ptr b i (j+0)))∧(∀ k xs i j,DF Tryz.prog 25 (.fptr k xs i j) 0=some (.fptr k xs i (j+0))):=JX (by kernel_rfl:LW Tryz.prog 25 0 0=true)
theorem L8:(∀ b i j,DF Tryz.prog 25 (.ptr b i j) 1=some (.ptr b i (j+1)))∧(∀ k xs i j,DF Tryz.prog 25 (.fptr k xs i j) 1=some (.fptr k xs i (j+1))):=JX (by kernel_rfl:LW Tryz.prog 25 1 1=true)
theorem JS : ∀ h a i,F6 Tryz.prog h 26 a i=JG 1 h a i:=IR (by kernel_rfl:Tryz.prog.underlying 26=some (.slice 3)) sz3
theorem KH:(∀ m k xs,KX Tryz.prog 26 (.sl m k xs)=some (.int .i64 xs.length))∧∀ b off len,KX Tryz.prog 26 (.own b off len)=some (.int .i64 len):=OZ (by kernel_rfl:Tryz.prog.underlying 26=some (.slice 3))
theorem VJ:Tryz.prog.underlying 26=some (.slice 3):=by kernel_rfl
theorem YV:UB Tryz.prog 3=some 1:=by kernel_rfl
theorem YM:MS Tryz.prog 3=some 8:=by kernel_rfl
theorem ZN:(∀ b i j,DF Tryz.prog 28 (.ptr b i j) 0=some (.ptr b i (j+0)))∧(∀ k xs i j,DF Tryz.prog 28 (.fptr k xs i j) 0=some (.fptr k xs i (j+0))):=JX (by kernel_rfl:LW Tryz.prog 28 0 0=true)
theorem PM:(∀ b i j,DF Tryz.prog 28 (.ptr b i j) 1=some (.ptr b i (j+1)))∧(∀ k xs i j,DF Tryz.prog 28 (.fptr k xs i j) 1=some (.fptr k xs i (j+1))):=JX (by kernel_rfl:LW Tryz.prog 28 1 1=true)
theorem PL:(∀ b i j,DF Tryz.prog 28 (.ptr b i j) 2=some (.ptr b i (j+2)))∧(∀ k xs i j,DF Tryz.prog 28 (.fptr k xs i j) 2=some (.fptr k xs i (j+2))):=JX (by kernel_rfl:LW Tryz.prog 28 2 2=true)
theorem AJ1 : ∀ h a i,F6 Tryz.prog h 33 a i=JG 1 h a i:=IR (by kernel_rfl:Tryz.prog.underlying 33=some (.slice 46)) ATP
theorem ACI:(∀ m k xs,KX Tryz.prog 33 (.sl m k xs)=some (.int .i64 xs.length))∧∀ b off len,KX Tryz.prog 33 (.own b off len)=some (.int .i64 len):=OZ (by kernel_rfl:Tryz.prog.underlying 33=some (.slice 46))
theorem A3Y:Tryz.prog.underlying 33=some (.slice 46):=by kernel_rfl
theorem A7F:UB Tryz.prog 46=some 1:=by kernel_rfl
theorem A5X:MS Tryz.prog 46=some 24:=by kernel_rfl
theorem A2X : ∀ h a i,F6 Tryz.prog h 38 a i=JG 1 h a i:=IR (by kernel_rfl:Tryz.prog.underlying 38=some (.slice 60)) A7H
theorem AJZ:(∀ m k xs,KX Tryz.prog 38 (.sl m k xs)=some (.int .i64 xs.length))∧∀ b off len,KX Tryz.prog 38 (.own b off len)=some (.int .i64 len):=OZ (by kernel_rfl:Tryz.prog.underlying 38=some (.slice 60))
theorem WP : ∀ h a i,F6 Tryz.prog h 46 a i=JG 4 h a i:=IR (by kernel_rfl:Tryz.prog.underlying 46=some (.slice 48)) MM
theorem TW:(∀ m k xs,KX Tryz.prog 46 (.sl m k xs)=some (.int .i64 xs.length))∧∀ b off len,KX Tryz.prog 46 (.own b off len)=some (.int .i64 len):=OZ (by kernel_rfl:Tryz.prog.underlying 46=some (.slice 48))
theorem AEA:Tryz.prog.underlying 46=some (.slice 48):=by kernel_rfl
theorem AMB:UB Tryz.prog 48=some 4:=by kernel_rfl
theorem AN8:MS Tryz.prog 48=some 56:=by kernel_rfl
theorem HY:(∀ b i j,DF Tryz.prog 48 (.ptr b i j) 0=some (.ptr b i (j+0)))∧(∀ k xs i j,DF Tryz.prog 48 (.fptr k xs i j) 0=some (.fptr k xs i (j+0))):=JX (by kernel_rfl:LW Tryz.prog 48 0 0=true)
theorem ZM:(∀ b i j,DF Tryz.prog 48 (.ptr b i j) 1=some (.ptr b i (j+1)))∧(∀ k xs i j,DF Tryz.prog 48 (.fptr k xs i j) 1=some (.fptr k xs i (j+1))):=JX (by kernel_rfl:LW Tryz.prog 48 1 1=true)
theorem LD:(∀ b i j,DF Tryz.prog 48 (.ptr b i j) 2=some (.ptr b i (j+2)))∧(∀ k xs i j,DF Tryz.prog 48 (.fptr k xs i j) 2=some (.fptr k xs i (j+2))):=JX (by kernel_rfl:LW Tryz.prog 48 2 2=true)
theorem MR:(∀ b i j,DF Tryz.prog 48 (.ptr b i j) 3=some (.ptr b i (j+3)))∧(∀ k xs i j,DF Tryz.prog 48 (.fptr k xs i j) 3=some (.fptr k xs i (j+3))):=JX (by kernel_rfl:LW Tryz.prog 48 3 3=true)
theorem ZC : ∀ h a i,F6 Tryz.prog h 49 a i=JG 4 h a i:=IR (by kernel_rfl:Tryz.prog.underlying 49=some (.slice 56)) YY
theorem XU:(∀ m k xs,KX Tryz.prog 49 (.sl m k xs)=some (.int .i64 xs.length))∧∀ b off len,KX Tryz.prog 49 (.own b off len)=some (.int .i64 len):=OZ (by kernel_rfl:Tryz.prog.underlying 49=some (.slice 56))
theorem ANP:(∀ b i j,DF Tryz.prog 51 (.ptr b i j) 0=some (.ptr b i (j+0)))∧(∀ k xs i j,DF Tryz.prog 51 (.fptr k xs i j) 0=some (.fptr k xs i (j+0))):=JX (by kernel_rfl:LW Tryz.prog 51 0 0=true)
theorem AC8:(∀ b i j,DF Tryz.prog 51 (.ptr b i j) 1=some (.ptr b i (j+1)))∧(∀ k xs i j,DF Tryz.prog 51 (.fptr k xs i j) 1=some (.fptr k xs i (j+1))):=JX (by kernel_rfl:LW Tryz.prog 51 1 1=true)
theorem KU:(∀ b i j,DF Tryz.prog 51 (.ptr b i j) 2=some (.ptr b i (j+5)))∧(∀ k xs i j,DF Tryz.prog 51 (.fptr k xs i j) 2=some (.fptr k xs i (j+5))):=JX (by kernel_rfl:LW Tryz.prog 51 2 5=true)
theorem ACK : ∀ h a i,F6 Tryz.prog h 53 a i=JG 2 h a i:=IR (by kernel_rfl:Tryz.prog.underlying 53=some (.slice 88)) RX
theorem RJ:(∀ m k xs,KX Tryz.prog 53 (.sl m k xs)=some (.int .i64 xs.length))∧∀ b off len,KX Tryz.prog 53 (.own b off len)=some (.int .i64 len):=OZ (by kernel_rfl:Tryz.prog.underlying 53=some (.slice 88))
theorem AD9:Tryz.prog.underlying 53=some (.slice 88):=by kernel_rfl
theorem AXR:UB Tryz.prog 88=some 2:=by kernel_rfl
theorem A0J:MS Tryz.prog 88=some 16:=by kernel_rfl
theorem AVD : ∀ h a i,F6 Tryz.prog h 54 a i=JG 1 h a i:=IR (by kernel_rfl:Tryz.prog.underlying 54=some (.slice 53)) A30
theorem AJY:(∀ m k xs,KX Tryz.prog 54 (.sl m k xs)=some (.int .i64 xs.length))∧∀ b off len,KX Tryz.prog 54 (.own b off len)=some (.int .i64 len):=OZ (by kernel_rfl:Tryz.prog.underlying 54=some (.slice 53))
theorem ANO:(∀ b i j,DF Tryz.prog 56 (.ptr b i j) 0=some (.ptr b i (j+0)))∧(∀ k xs i j,DF Tryz.prog 56 (.fptr k xs i j) 0=some (.fptr k xs i (j+0))):=JX (by kernel_rfl:LW Tryz.prog 56 0 0=true)
theorem TM:(∀ b i j,DF Tryz.prog 56 (.ptr b i j) 1=some (.ptr b i (j+1)))∧(∀ k xs i j,DF Tryz.prog 56 (.fptr k xs i j) 1=some (.fptr k xs i (j+1))):=JX (by kernel_rfl:LW Tryz.prog 56 1 1=true)
theorem TL:(∀ b i j,DF Tryz.prog 56 (.ptr b i j) 2=some (.ptr b i (j+2)))∧(∀ k xs i j,DF Tryz.prog 56 (.fptr k xs i j) 2=some (.fptr k xs i (j+2))):=JX (by kernel_rfl:LW Tryz.prog 56 2 2=true)
theorem WU:(∀ b i j,DF Tryz.prog 56 (.ptr b i j) 3=some (.ptr b i (j+3)))∧(∀ k xs i j,DF Tryz.prog 56 (.fptr k xs i j) 3=some (.fptr k xs i (j+3))):=JX (by kernel_rfl:LW Tryz.prog 56 3 3=true)
theorem ANN:(∀ b i j,DF Tryz.prog 59 (.ptr b i j) 0=some (.ptr b i (j+0)))∧(∀ k xs i j,DF Tryz.prog 59 (.fptr k xs i j) 0=some (.fptr k xs i (j+0))):=JX (by kernel_rfl:LW Tryz.prog 59 0 0=true)
theorem AVT:(∀ b i j,DF Tryz.prog 59 (.ptr b i j) 1=some (.ptr b i (j+1)))∧(∀ k xs i j,DF Tryz.prog 59 (.fptr k xs i j) 1=some (.fptr k xs i (j+1))):=JX (by kernel_rfl:LW Tryz.prog 59 1 1=true)
theorem AZJ : ∀ h a i,F6 Tryz.prog h 60 a i=JG 2 h a i:=IR (by kernel_rfl:Tryz.prog.underlying 60=some (.slice 59)) A18
theorem AUX:(∀ m k xs,KX Tryz.prog 60 (.sl m k xs)=some (.int .i64 xs.length))∧∀ b off len,KX Tryz.prog 60 (.own b off len)=some (.int .i64 len):=OZ (by kernel_rfl:Tryz.prog.underlying 60=some (.slice 59))
theorem AR0 : ∀ h a i,F6 Tryz.prog h 65 a i=JG 1 h a i:=IR (by kernel_rfl:Tryz.prog.underlying 65=some (.slice 9)) sz9
theorem AJX:(∀ m k xs,KX Tryz.prog 65 (.sl m k xs)=some (.int .i64 xs.length))∧∀ b off len,KX Tryz.prog 65 (.own b off len)=some (.int .i64 len):=OZ (by kernel_rfl:Tryz.prog.underlying 65=some (.slice 9))
theorem AX2:Tryz.prog.underlying 65=some (.slice 9):=by kernel_rfl
theorem AXQ:UB Tryz.prog 9=some 1:=by kernel_rfl
theorem A0I:MS Tryz.prog 9=some 16:=by kernel_rfl
theorem AEH : ∀ h a i,F6 Tryz.prog h 67 a i=JG 1 h a i:=IR (by kernel_rfl:Tryz.prog.underlying 67=some (.slice 26)) AIJ
theorem AZD:(∀ m k xs,KX Tryz.prog 67 (.sl m k xs)=some (.int .i64 xs.length))∧∀ b off len,KX Tryz.prog 67 (.own b off len)=some (.int .i64 len):=OZ (by kernel_rfl:Tryz.prog.underlying 67=some (.slice 26))
theorem AX1:Tryz.prog.underlying 67=some (.slice 26):=by kernel_rfl
theorem A1Z:UB Tryz.prog 26=some 1:=by kernel_rfl
theorem A0H:MS Tryz.prog 26=some 24:=by kernel_rfl
theorem ANM:(∀ b i j,DF Tryz.prog 69 (.ptr b i j) 0=some (.ptr b i (j+0)))∧(∀ k xs i j,DF Tryz.prog 69 (.fptr k xs i j) 0=some (.fptr k xs i (j+0))):=JX (by kernel_rfl:LW Tryz.prog 69 0 0=true)
theorem NH:(∀ b i j,DF Tryz.prog 69 (.ptr b i j) 1=some (.ptr b i (j+1)))∧(∀ k xs i j,DF Tryz.prog 69 (.fptr k xs i j) 1=some (.fptr k xs i (j+1))):=JX (by kernel_rfl:LW Tryz.prog 69 1 1=true)
theorem AC7:(∀ b i j,DF Tryz.prog 69 (.ptr b i j) 2=some (.ptr b i (j+2)))∧(∀ k xs i j,DF Tryz.prog 69 (.fptr k xs i j) 2=some (.fptr k xs i (j+2))):=JX (by kernel_rfl:LW Tryz.prog 69 2 2=true)
theorem A5B : ∀ h a i,F6 Tryz.prog h 73 a i=JG 1 h a i:=IR (by kernel_rfl:Tryz.prog.underlying 73=some (.slice 33)) A31
theorem A4X:(∀ m k xs,KX Tryz.prog 73 (.sl m k xs)=some (.int .i64 xs.length))∧∀ b off len,KX Tryz.prog 73 (.own b off len)=some (.int .i64 len):=OZ (by kernel_rfl:Tryz.prog.underlying 73=some (.slice 33))
theorem A7G:Tryz.prog.underlying 73=some (.slice 33):=by kernel_rfl
theorem A7E:UB Tryz.prog 33=some 1:=by kernel_rfl
theorem A8D:MS Tryz.prog 33=some 24:=by kernel_rfl
theorem AG8:(∀ b i j,DF Tryz.prog 81 (.ptr b i j) 0=some (.ptr b i (j+0)))∧(∀ k xs i j,DF Tryz.prog 81 (.fptr k xs i j) 0=some (.fptr k xs i (j+0))):=JX (by kernel_rfl:LW Tryz.prog 81 0 0=true)
theorem AC6:(∀ b i j,DF Tryz.prog 81 (.ptr b i j) 1=some (.ptr b i (j+1)))∧(∀ k xs i j,DF Tryz.prog 81 (.fptr k xs i j) 1=some (.fptr k xs i (j+1))):=JX (by kernel_rfl:LW Tryz.prog 81 1 1=true)
theorem A24:(∀ b i j,DF Tryz.prog 81 (.ptr b i j) 2=some (.ptr b i (j+2)))∧(∀ k xs i j,DF Tryz.prog 81 (.fptr k xs i j) 2=some (.fptr k xs i (j+2))):=JX (by kernel_rfl:LW Tryz.prog 81 2 2=true)
theorem A23:(∀ b i j,DF Tryz.prog 81 (.ptr b i j) 3=some (.ptr b i (j+3)))∧(∀ k xs i j,DF Tryz.prog 81 (.fptr k xs i j) 3=some (.fptr k xs i (j+3))):=JX (by kernel_rfl:LW Tryz.prog 81 3 3=true)
theorem WT:(∀ b i j,DF Tryz.prog 88 (.ptr b i j) 0=some (.ptr b i (j+0)))∧(∀ k xs i j,DF Tryz.prog 88 (.fptr k xs i j) 0=some (.fptr k xs i (j+0))):=JX (by kernel_rfl:LW Tryz.prog 88 0 0=true)
theorem UZ:(∀ b i j,DF Tryz.prog 88 (.ptr b i j) 1=some (.ptr b i (j+1)))∧(∀ k xs i j,DF Tryz.prog 88 (.fptr k xs i j) 1=some (.fptr k xs i (j+1))):=JX (by kernel_rfl:LW Tryz.prog 88 1 1=true)
theorem AP7:(∀ b i j,DF Tryz.prog 118 (.ptr b i j) 0=some (.ptr b i (j+0)))∧(∀ k xs i j,DF Tryz.prog 118 (.fptr k xs i j) 0=some (.fptr k xs i (j+0))):=JX (by kernel_rfl:LW Tryz.prog 118 0 0=true)
theorem AHA:(∀ b i j,DF Tryz.prog 118 (.ptr b i j) 1=some (.ptr b i (j+1)))∧(∀ k xs i j,DF Tryz.prog 118 (.fptr k xs i j) 1=some (.fptr k xs i (j+1))):=JX (by kernel_rfl:LW Tryz.prog 118 1 1=true)
theorem YA:(∀ b i j,DF Tryz.prog 118 (.ptr b i j) 2=some (.ptr b i (j+2)))∧(∀ k xs i j,DF Tryz.prog 118 (.fptr k xs i j) 2=some (.fptr k xs i (j+2))):=JX (by kernel_rfl:LW Tryz.prog 118 2 2=true)
theorem AP6:(∀ b i j,DF Tryz.prog 118 (.ptr b i j) 3=some (.ptr b i (j+3)))∧(∀ k xs i j,DF Tryz.prog 118 (.fptr k xs i j) 3=some (.fptr k xs i (j+3))):=JX (by kernel_rfl:LW Tryz.prog 118 3 3=true)
theorem AG9:(∀ b i j,DF Tryz.prog 118 (.ptr b i j) 4=some (.ptr b i (j+4)))∧(∀ k xs i j,DF Tryz.prog 118 (.fptr k xs i j) 4=some (.fptr k xs i (j+4))):=JX (by kernel_rfl:LW Tryz.prog 118 4 4=true)
theorem ABC:(∀ b i j,DF Tryz.prog 120 (.ptr b i j) 0=some (.ptr b i (j+0)))∧(∀ k xs i j,DF Tryz.prog 120 (.fptr k xs i j) 0=some (.fptr k xs i (j+0))):=JX (by kernel_rfl:LW Tryz.prog 120 0 0=true)
theorem AZV:(∀ b i j,DF Tryz.prog 184 (.ptr b i j) 0=some (.ptr b i (j+0)))∧(∀ k xs i j,DF Tryz.prog 184 (.fptr k xs i j) 0=some (.fptr k xs i (j+0))):=JX (by kernel_rfl:LW Tryz.prog 184 0 0=true)
theorem AP5:(∀ b i j,DF Tryz.prog 184 (.ptr b i j) 1=some (.ptr b i (j+1)))∧(∀ k xs i j,DF Tryz.prog 184 (.fptr k xs i j) 1=some (.fptr k xs i (j+1))):=JX (by kernel_rfl:LW Tryz.prog 184 1 1=true)
theorem AZU:(∀ b i j,DF Tryz.prog 205 (.ptr b i j) 0=some (.ptr b i (j+0)))∧(∀ k xs i j,DF Tryz.prog 205 (.fptr k xs i j) 0=some (.fptr k xs i (j+0))):=JX (by kernel_rfl:LW Tryz.prog 205 0 0=true)
theorem A5T : ∀ n,U6 Tryz.prog 3 5 (.int .i64 n)=some (.int .u8 (IntKind.u8.wrap n)):=fun n=>YK (ds := .int .i64) Tryz.prog .i64 n (by kernel_rfl) (by kernel_rfl)
theorem AZ3 : ∀ n,U6 Tryz.prog 3 247 (.int .i64 n)=some (.int .u16 (IntKind.u16.wrap n)):=fun n=>YK (ds := .int .i64) Tryz.prog .i64 n (by kernel_rfl) (by kernel_rfl)
theorem AWD : ∀ n,U6 Tryz.prog 5 3 (.int .u8 n)=some (.int .i64 (IntKind.i64.wrap n)):=fun n=>YK (ds := .int .u8) Tryz.prog .u8 n (by kernel_rfl) (by kernel_rfl)
theorem AZ4 : ∀ n,U6 Tryz.prog 247 3 (.int .u16 n)=some (.int .i64 (IntKind.i64.wrap n)):=fun n=>YK (ds := .int .u16) Tryz.prog .u16 n (by kernel_rfl) (by kernel_rfl)
noncomputable def En (G:Nat→AV):Env:=⟨Tryz.prog,G,none⟩
theorem enP (G:Nat→AV):(En G).P=Tryz.prog:=rfl
theorem enG (G:Nat→AV):(En G).G=G:=rfl
theorem enM (G:Nat→AV):(En G).P.follows .mixedOrders=true:=by kernel_rfl
theorem acN {G:Nat→AV} {f:FuncId} {fn:Func} {c:Code} {args:List AV} {h:Hp} {R:AV→Hp→Prop} (hf:(En G).P.funcs[f]? = some fn) (hb:fn.body=some c) (hw:awp (En G) Hint.none c (OI args) h (D8 (En G).P fn.results.toList R)) (h1:(fn.name == "runtime.NumGoroutine")=false:=by kernel_rfl) (h2:QZ fn.ntmps c=true:=by kernel_rfl) (h3:Nat.ble args.length fn.ntmps=true:=by kernel_rfl):ACalls (En G) f args h R:=NY (enM G) hf hb h1 h2 (Nat.le_of_ble_eq_true h3) hw
end Go.Proofs.YtfpagfhhhlljjaaGreatDoor.Sm
namespace Go.Proofs.YtfpagfhhhlljjaaGreatDoor.Bins
open Sm
structure Rng where
 lo:Int
 hi:Int
 deriving DecidableEq
def encR (r:Rng):List AV := [.int .i64 r.lo,.int .i64 r.hi]
theorem YD (r:Rng):(encR r).length=2:=rfl
theorem YF (r:Rng):(encR r)[0]? = some (.int .i64 r.lo):=rfl
theorem V3 (r:Rng):(encR r)[1]? = some (.int .i64 r.hi):=rfl
def inside (xs:List Rng) (v:Int):Bool:=xs.any fun r=>decide (r.lo≤v) && decide (v≤r.hi)
theorem QL {α:Type} (p:α→Bool) (xs:List α) (k:Nat) (h:k < xs.length):(xs.drop k).any p=(p xs[k] || (xs.drop (k+1)).any p):=by
 rw [List.drop_eq_getElem_cons h,List.any_cons]
theorem bxR (h:Hp) (r:Rng):OT h (.agg (encR r))=some (.ptr h.length 0 0,h ++ [.live 2 [encR r]]):=rfl
end Go.Proofs.YtfpagfhhhlljjaaGreatDoor.Bins
set_option linter.unusedSimpArgs false
set_option maxRecDepth 8000
namespace Go.Proofs.YtfpagfhhhlljjaaGreatDoor.Bins
open Sm
open Bool renaming not_false→jB,eq_iff_iff→qP,and_eq_true→jU,false_or→wZ
open List renaming length_map→jI,append_assoc→zI,drop_eq_nil_of_le→zG,map_cons→jE,map_nil→jD,findIdx?_eq_some_iff_getElem→qX,all_eq_true→zF,take_succ_eq_append_getElem→zN,all_append→yA,all_cons→qQ,take_of_length_le→jW,findIdx?_eq_none_iff→qY,append_nil→jF,any_eq_true→qC,any_eq_false→wS,getElem?_cons_zero→zH
open Nat renaming le_of_ble_eq_true→jH,reduceEqDiff→jC,add_zero→jM,zero_add→jG,lt_or_ge→zK,eq_zero_or_pos→wH
open Option renaming getD_some→jA
def bad (r:Rng):Bool:=decide (r.lo < 0) || decide (r.lo > r.hi) || decide (r.hi > 65535)
def JJ (xs:List Rng):Int:=if xs.length > 64 then 2 else if xs.any bad then 1 else 0
theorem AI9 {xs:List Rng} (h:xs.length > 64):JJ xs=2:=by simp [JJ,h]
theorem AJA {xs:List Rng} (h : ¬ xs.length > 64) (hb:xs.any bad=true):JJ xs=1:=by simp [JJ,h,hb]
theorem AMR {xs:List Rng} (h : ¬ xs.length > 64) (hb:xs.any bad=false):JJ xs=0:=by simp [JJ,h,hb]
theorem AXC (h:Hp):JY Tryz.prog h 88=some (.ptr h.length 0 0,h ++ [.live 2 [[.int .i64 0,.int .i64 0]]]):=JL (row := [.int .i64 0,.int .i64 0]) (by kernel_rfl)
theorem ATV (h:Hp) (r:Rng) (row:List AV) (hr:row.length=2):FB Tryz.prog (h ++ [.live 2 [row]]) 88 (.ptr h.length 0 0) (.agg (encR r))=some (h ++ [.live 2 [encR r]]):=by
 rw [NM (cs:=encR r) rfl RX (by simp [hr,encR])]
 simp [splice,hr,encR]
theorem AI7 (G:Nat→AV) (xs:List Rng) (m:SM) (h:Hp) (hl:xs.length≤1099511627776) :
  PCall (En G) 133 [.sl m 2 (xs.map encR)] h (.int .i64 (JJ xs)):=by
 refine ACalls.pure0 rfl ?_
 refine acN Tryz.func133 rfl ?_
 show awp _ _ _ _ _ (D8 _ [.tmp 2] _)
 simp -implicitDefEqProofs only [BC,BA,BI,A8,AY,BB,AO,AQ,AL,BD,AX,AC,AA,AZ,AU,BH,BG,A7,BQ,D6,AB,FD,BF,↓reduceIte,jC,jA,jB,enP,RJ,jI]
 refine CV (fun hc => ?_) (fun hc => ?_)
 ·simp -implicitDefEqProofs only [BC,BA,BJ,A8,CQ,CJ,AY,BB,AO,AQ,AL,BD,AX,AC,AA,AU,BH,A7,↓reduceIte,jA,jB]
  exact ⟨by rw [AI9 (by simp at hc; omega)],[],by simp⟩
 simp -implicitDefEqProofs only [BC,BP,BA,BR,A8,AY,BB,AO,AQ,AL,BD,AX,AC,AA,AZ,AU,BH,BG,D6,AB,BF,↓reduceIte,jC,jA,jB,enP,RJ,jI]
 have h64 : ¬ xs.length > 64:=by simp at hc; omega
 refine DY (fun n F H => ∃ k,n+k=xs.length∧F 8 = .sl m 2 (xs.map encR)∧F 9 = .int .i64 xs.length∧F 10 = .int .i64 (k:Nat)∧(∃ x,H=h ++ x)∧xs.any bad=(xs.drop k).any bad) xs.length ⟨0,by simp,rfl,rfl,rfl,⟨[],by simp⟩,rfl⟩ ?_
 rintro n F H ⟨k,hk,f8,f9,f10,⟨x,rfl⟩,hin⟩
 simp -implicitDefEqProofs only [BC,BA,BI,A8,AY,BB,AO,AQ,AL,BD,AX,AC,AA,AZ,BQ,AB,C9,↓reduceIte,jA,jB,enP,f8,f9,f10]
 refine CV (fun hc => ?_) (fun hc => ?_)
 ·have hc':k < xs.length:=by simpa using hc
  have hs:=QL bad xs k hc'
  simp -implicitDefEqProofs only [BC,BP,BA,BR,A8,AY,BB,BK,BV,CO,AO,AQ,AL,BD,AX,AC,ES,AA,AZ,AU,BH,BG,FO,BX,EI,BQ,BN,CG,CB,AB,DT,C9,↓reduceIte,jC,jM,jA,jB,enP,ACK,WT,Option.getD_none,f8,f9,f10,D7 hc',FP AL0 RX YD hc',AXC,ATV _ _ [.int .i64 0,.int .i64 0] rfl,DV ag3,YF,V3]
  rw [hs] at hin
  have fin:bad xs[k]=true→JJ xs=1:=fun hb=>AJA h64 (by rw [hin,hb]; rfl)
  have nxt:bad xs[k]=false→xs.any bad=(xs.drop (k+1)).any bad:=fun hb=>by rw [hin,hb]; rfl
  refine JE (fun ha => ?_) (fun ha => ?_)
  ·simp -implicitDefEqProofs only [BC,BA,BJ,BI,A8,CQ,ED,F7,CJ,CZ,AY,BB,BK,BV,CO,FI,AO,AQ,AL,BD,AX,AC,AA,EK,AZ,AU,BH,BM,BG,A7,CP,DL,↓reduceIte,jC,jA,jB,ha]
   exact ⟨by rw [fin (by unfold bad; rw [ha]; rfl)],_,by rw [zI]⟩
  simp -implicitDefEqProofs only [AY,BK,BV,CO,EF,AO,AQ,AL,BD,AX,AC,AA,AZ,AU,BM,BG,CP,DN,BX,BQ,BN,AB,FD,↓reduceIte,jC,jM,jG,jA,jB,enP,WT,UZ,ha,DV ag3,YF,V3]
  refine JE (fun hb => ?_) (fun hb => ?_)
  ·simp -implicitDefEqProofs only [BC,BA,BJ,BI,A8,CQ,ED,F7,CJ,CZ,AY,BB,BK,BV,CO,FI,AO,AQ,AL,BD,AX,AC,AA,EK,AZ,AU,BH,BM,A7,CP,DL,↓reduceIte,jC,jA,jB,hb]
   exact ⟨by rw [fin (by unfold bad; rw [hb]; simp)],_,by rw [zI]⟩
  simp -implicitDefEqProofs only [BI,A8,AY,BB,BK,BV,CO,EF,AO,AQ,AL,BD,AX,AC,AA,AZ,AU,BH,BM,CP,DN,BX,BQ,BN,AB,FD,↓reduceIte,jC,jG,jA,jB,enP,UZ,hb,DV ag3,YF,V3]
  refine CV (fun hc => ?_) (fun hc => ?_)
  ·simp -implicitDefEqProofs only [BC,BA,BJ,A8,CQ,ED,F7,CJ,AY,BB,AO,AQ,AL,BD,AX,AC,AA,AU,BH,A7,↓reduceIte,jA,jB]
   exact ⟨by rw [fin (by unfold bad; rw [hc]; simp)],_,by rw [zI]⟩
  ·simp -implicitDefEqProofs only [BA,BR,A8,EH,ER,AY,BB,AO,AQ,AL,BD,AX,AC,AA,AZ,AU,BH,BG,BQ,AB,DK,↓reduceIte,jC,jA,jB,enP,f10,wrap_succ (show k < 9223372036854775807 by omega)]
   exact ⟨n - 1,by omega,k+1,by omega,f8,f9,rfl,⟨_,by rw [zI]⟩,nxt (by unfold bad; rw [ha,hb,hc]; rfl)⟩
 ·have hc' : ¬ k < xs.length:=by simpa using hc
  simp -implicitDefEqProofs only [BC,BA,BJ,DW,A8,EG,EY,EZ,CJ,AY,BB,AO,AQ,AL,BD,AX,AC,AA,AU,BH,A7,↓reduceIte,jA,jB]
  rw [zG (by omega)] at hin
  exact ⟨by rw [AMR h64 hin],_,rfl⟩
structure Rs where
 m:SM
 l:List Rng
def AVZ (r:Rs):AV := .sl r.m 2 (r.l.map encR)
def encS (r:Rs):List AV := [AVZ r]
structure Bin where
 name:ByteArray
 kind:Int
 ranges:Rs
 sm:SM
 steps:List Rs
def GV (b:Bin):List AV := [.str b.name,.int .i64 b.kind,AVZ b.ranges,.sl b.sm 1 (b.steps.map encS)]
theorem AV6 (b:Bin):(GV b)[0]? = some (.str b.name):=rfl
theorem YI (b:Bin):(GV b)[1]? = some (.int .i64 b.kind):=rfl
theorem ADH (b:Bin):(GV b)[2]? = some (.sl b.ranges.m 2 (b.ranges.l.map encR)):=rfl
theorem ADG (b:Bin):(GV b)[3]? = some (.sl b.sm 1 (b.steps.map encS)):=rfl
theorem MI (b:Bin):(GV b).length=4:=rfl
theorem AKY (r:Rs):(encS r)[0]? = some (.sl r.m 2 (r.l.map encR)):=rfl
theorem bxB (h:Hp) (b:Bin):OT h (.agg (GV b))=some (.ptr h.length 0 0,h ++ [.live 4 [GV b]]):=rfl
theorem ldB (h:Hp) (b:Bin):DX Tryz.prog (h ++ [.live 4 [GV b]]) 56 (.ptr h.length 0 0)=some (.agg (GV b)):=RZ AEU YY (by simp [GV])
def AE5 (b:Bin):SM:=if b.ranges.l.length > 0 then .full else b.sm
def sets (b:Bin):List Rs:=if b.ranges.l.length > 0 then [b.ranges] else b.steps
theorem A8G (h:Hp) (r:Rs):EN Tryz.prog false h 54 1 [(0,.sl r.m 2 (r.l.map encR))]=some (.sl .full 1 ([r].map encS),h):=by
 have:(ABV 1 0 [(0,AV.sl r.m 2 (r.l.map encR))])=some [[.sl r.m 2 (r.l.map encR)]]:=rfl
 simp only [EN,Tryz.underlying54,A30,this]
 have hz:UB Tryz.prog 53=some 1:=by kernel_rfl
 simp [hz,AV.frozen,encS,AVZ]
theorem AE4 (G:Nat→AV) (b:Bin) (h:Hp):PCall (En G) 132 [.agg (GV b)] h (.sl (AE5 b) 1 ((sets b).map encS)):=by
 refine ACalls.pure0 rfl ?_
 refine acN Tryz.func132 rfl ?_
 show awp _ _ _ _ _ (D8 _ [.tmp 2] _)
 simp -implicitDefEqProofs only [BC,BA,BI,A8,AY,BB,AO,AQ,AL,BD,AX,AC,AA,AZ,AU,BH,GZ,A7,FM,BX,BQ,BN,D6,CB,AB,FD,BF,↓reduceIte,jC,jG,jA,jB,enP,RJ,TL,bxB,DV YR,ADH,jI]
 refine CV (fun hc => ?_) (fun hc => ?_)
 ·have hc':b.ranges.l.length > 0:=by simpa using hc
  simp -implicitDefEqProofs only [FK,FH,BC,BA,BJ,A8,CQ,CJ,AY,BB,AO,AQ,AL,BD,AX,AC,AA,AZ,A7,EC,BX,BN,CB,AB,jE,jD,↓reduceIte,jC,jG,jA,jB,enP,TL,DV YR,ADH,A8G]
  exact ⟨by rw [AE5,sets,if_pos hc',if_pos hc']; rfl,_,rfl⟩
 ·have hc' : ¬ b.ranges.l.length > 0:=by simpa using hc
  simp -implicitDefEqProofs only [BC,BA,BR,BJ,A8,CJ,AY,BB,AO,AQ,AL,BD,AX,AC,AA,AZ,A7,BX,BN,AB,↓reduceIte,jC,jG,jA,jB,enP,WU,DV AOI,ADG]
  exact ⟨by rw [AE5,sets,if_neg hc',if_neg hc'],_,rfl⟩
theorem A4Q (m:SM) (k:Nat) (xs:List (List AV)):JB Tryz.prog 53 .eql (.sl m k xs) (.sl .nil 0 [])=some (.bool (decide (m = .nil))):=by cases m <;> kernel_rfl
theorem A4P (m:SM) (k:Nat) (xs:List (List AV)):JB Tryz.prog 26 .eql (.sl m k xs) (.sl .nil 0 [])=some (.bool (decide (m = .nil))):=by cases m <;> kernel_rfl
def AN4 (k:Nat) (xs:List (List AV)) (h:Hp) (v:AV) (h':Hp):Prop :=
 (xs = []∧(∃ k0,v = .sl .nil k0 [])∧h'=h)∨(xs = []∧v = .sl .full k []∧h'=h)∨(xs≠[]∧v = .own h.length 0 xs.length∧h'=h ++ [.live k xs])
theorem A3J (h:Hp):EN Tryz.prog false h 53 0 []=some (.sl .full 2 [],h):=by kernel_rfl
theorem AWO (h:Hp):EN Tryz.prog false h 26 0 []=some (.sl .full 1 [],h):=by kernel_rfl
theorem cok (f:FuncId) (G:Nat→AV) (hf:(match Tryz.prog.funcs[f]? with | some fn=>fn.body.isSome && !(fn.name == "runtime.NumGoroutine") | none=>false)=true):XC (En G).P f:=by
 have he:(En G).P=Tryz.prog:=rfl
 unfold XC
 rw [he]
 cases hx:Tryz.prog.funcs[f]? with
 | none=>rw [hx] at hf; cases hf
 | some fn =>
   rw [hx] at hf
   simp at hf
   exact ⟨fn,rfl,by simpa using hf.1,by simpa using hf.2⟩
def qencI (n:Int):List AV := [.int .i64 n]
theorem encI0 (n:Int):(qencI n)[0]? = some (.int .i64 n):=rfl
theorem AV7 (G:Nat→AV) (r:Rs) (h:Hp):PCall (En G) 176 [.sl r.m 2 (r.l.map encR)] h (.bool (decide (r.l.length=0))):=by
 refine acN Tryz.func176 rfl ?_
 show awp _ _ _ _ _ (D8 _ [.tmp 2] _)
 simp -implicitDefEqProofs only [BC,BA,BJ,A8,CJ,AY,BB,AO,AQ,AL,BD,AX,AC,AA,AZ,AU,BH,BM,BG,A7,BQ,D6,AB,DR,BF,↓reduceIte,jC,jA,jB,enP,RJ,jI]
 refine ⟨?_,trivial⟩
 congr 1
 rw [qP]; simp
theorem AKA (G:Nat→AV) (xs:List Rs) (m:SM) (fid:FuncId) (caps:List AV) (p:Rs→Bool) (h:Hp) (hl:xs.length≤1099511627776)
  (hf : ∀ r,PCall (En G) fid (.sl r.m 2 (r.l.map encR) :: caps) h (.bool (p r))) :
  PCall (En G) 203 [.sl m 1 (xs.map encS),.fn (.func fid) [] caps] h (.int .i64 (match xs.findIdx? p with | some i=>(i:Int) | none => -1)):=by
 refine acN Tryz.func203 rfl ?_
 show awp _ _ _ _ _ (D8 _ [.tmp 4] _)
 simp -implicitDefEqProofs only [BC,BP,BA,A8,AY,BB,AO,AQ,AL,BD,AX,AC,AA,AZ,AU,BH,BG,A7,D6,AB,BF,↓reduceIte,jC,jA,jB,enP,AJY,jI]
 refine DY (fun n F H => ∃ k,n+k=xs.length∧F 0 = .sl m 1 (xs.map encS)∧F 1 = .fn (.func fid) [] caps∧F 7 = .int .i64 xs.length∧F 8 = .int .i64 (k:Nat)∧H=h∧(xs.take k).all (fun r => !p r)=true) xs.length ⟨0,by simp,rfl,rfl,rfl,rfl,rfl,rfl⟩ ?_
 rintro n F H ⟨k,hk,f0,f1,f7,f8,rfl,hin⟩
 simp -implicitDefEqProofs only [BC,BA,BI,A8,AY,BB,AO,AQ,AL,BD,AX,AC,AA,AZ,BQ,AB,C9,↓reduceIte,jA,jB,enP,f0,f1,f7,f8,jI]
 refine CV (fun hc => ?_) (fun hc => ?_)
 ·have hc':k < xs.length:=by simpa using hc
  simp -implicitDefEqProofs only [BC,BP,BA,BR,A8,AY,BB,AO,AQ,AL,BD,AX,AC,AA,AZ,BG,A7,BX,CG,BZ,BO,AB,jE,jD,List.nil_append,List.cons_append,↓reduceIte,jC,jA,jB,enP,AVD,f0,f1,f7,f8,D7 hc',DZ YR hc',AKY]
  refine (hf _).use ?_
  simp -implicitDefEqProofs only [BI,A8,BB,AC,AA,AZ,↓reduceIte]
  refine CV (fun hb => ?_) (fun hb => ?_)
  ·simp -implicitDefEqProofs only [BC,BA,BJ,A8,CQ,ED,F7,CJ,AY,BB,AO,AQ,AL,BD,AX,AC,AA,AZ,BG,A7,↓reduceIte,jC,jA,jB]
   refine ⟨?_,trivial⟩
   rw [qX.2 ⟨hc',hb,fun j hj=>by
    rw [zF] at hin
    have:=hin xs[j] (by rw [List.mem_take_iff_getElem]; exact ⟨j,by omega,rfl⟩)
    simpa using this⟩]
  ·simp -implicitDefEqProofs only [BA,BR,A8,EH,ER,AY,BB,AO,AQ,AL,BD,AX,AC,AA,AZ,AU,BH,BG,BQ,AB,DK,↓reduceIte,jC,jA,jB,enP,f8,wrap_succ (show k < 9223372036854775807 by omega)]
   refine ⟨n - 1,by omega,k+1,by omega,f0,f1,f7,rfl,trivial,?_⟩
   rw [zN hc',yA,hin]
   simp only [qQ,List.all_nil,hb]; rfl
 ·have hc' : ¬ k < xs.length:=by simpa using hc
  simp -implicitDefEqProofs only [BC,BA,BJ,DW,A8,EG,EY,EZ,CJ,AY,BB,AO,AQ,AL,BD,AX,AC,AA,AU,BH,A7,↓reduceIte,jA,jB]
  refine ⟨?_,trivial⟩
  rw [jW (by omega)] at hin
  rw [qY.2 (by simpa using hin)]
theorem ADK (G:Nat→AV) (xs:List Rs) (m:SM) (fid:FuncId) (caps:List AV) (p:Rs→Bool) (h:Hp) (hl:xs.length≤1099511627776)
  (hf : ∀ r,PCall (En G) fid (.sl r.m 2 (r.l.map encR) :: caps) h (.bool (p r))) :
  PCall (En G) 175 [.sl m 1 (xs.map encS),.fn (.func fid) [] caps] h (.bool (xs.any p)):=by
 refine acN Tryz.func175 rfl ?_
 show awp _ _ _ _ _ (D8 _ [.tmp 4] _)
 simp -implicitDefEqProofs only [BC,BA,A8,AY,BB,AO,AQ,AL,BD,AX,AC,AA,AZ,AU,BU,BM,BG,A7,BZ,BO,BF,BL,jE,jD,jF,↓reduceIte,jC,jA,jB,enP]
 refine (AKA G xs m fid caps p h hl hf).use ?_
 simp -implicitDefEqProofs only [BJ,A8,CJ,AY,BB,AO,AQ,AL,BD,AX,AC,AA,AZ,AU,BH,A7,BQ,AB,FX,↓reduceIte,jA,jB,enP]
 refine ⟨?_,trivial⟩
 cases hx:xs.findIdx? p with
 | some i =>
   obtain ⟨h1,h2,_⟩:=qX.1 hx
   have:xs.any p=true:=qC.2 ⟨xs[i],by simp,h2⟩
   simp [this]
 | none =>
   have:xs.any p=false:=by
    rw [qY] at hx
    rw [wS]; intro x hx2; simp [hx x hx2]
   simp [this]
def QO (n:Int):Bool:=decide (n≥97) && decide (n≤122)
def AK3 (n:Int):Bool:=decide (n≥48) && decide (n≤57)
def ND (n:Int):Bool:=QO n || AK3 n || (decide (n≥65) && decide (n≤90)) || n == 95
theorem ACG (G:Nat→AV) (n:Int) (h:Hp):PCall (En G) 172 [.int .i32 n] h (.bool (QO n)):=by
 refine acN Tryz.func172 rfl ?_
 show awp _ _ _ _ _ (D8 _ [.tmp 2] _)
 simp -implicitDefEqProofs only [BC,BA,A8,AY,BB,BK,BV,CO,AO,AQ,AL,BD,AX,AC,AA,AZ,AU,BH,BM,BG,A7,BQ,AB,FX,BF,↓reduceIte,jC,jA,jB,enP]
 refine JE (fun ha => ?_) (fun ha => ?_)
 ·simp -implicitDefEqProofs only [BJ,A8,CJ,AY,BB,BK,BV,CO,FY,AO,AQ,AL,BD,AX,AC,AA,AZ,AU,BH,BM,BG,A7,CP,DL,BQ,AB,IJ,BF,↓reduceIte,jC,jA,jB,enP,ha]
  exact ⟨by unfold QO; rw [ha]; rfl,trivial⟩
 ·simp -implicitDefEqProofs only [BJ,A8,CJ,AY,BB,BK,BV,CO,JD,AO,AQ,AL,BD,AX,AC,AA,EK,AZ,AU,BM,A7,CP,DN,↓reduceIte,jC,jA,jB,ha]
  exact ⟨by unfold QO; rw [ha]; rfl,trivial⟩
theorem ANW (G:Nat→AV) (n:Int) (h:Hp):PCall (En G) 201 [.int .i32 n] h (.bool (AK3 n)):=by
 refine acN Tryz.func201 rfl ?_
 show awp _ _ _ _ _ (D8 _ [.tmp 2] _)
 simp -implicitDefEqProofs only [BC,BA,A8,AY,BB,BK,BV,CO,AO,AQ,AL,BD,AX,AC,AA,AZ,AU,BH,BM,BG,A7,BQ,AB,FX,BF,↓reduceIte,jC,jA,jB,enP]
 refine JE (fun ha => ?_) (fun ha => ?_)
 ·simp -implicitDefEqProofs only [BJ,A8,CJ,AY,BB,BK,BV,CO,FY,AO,AQ,AL,BD,AX,AC,AA,AZ,AU,BH,BM,BG,A7,CP,DL,BQ,AB,IJ,BF,↓reduceIte,jC,jA,jB,enP,ha]
  exact ⟨by unfold AK3; rw [ha]; rfl,trivial⟩
 ·simp -implicitDefEqProofs only [BJ,A8,CJ,AY,BB,BK,BV,CO,JD,AO,AQ,AL,BD,AX,AC,AA,EK,AZ,AU,BM,A7,CP,DN,↓reduceIte,jC,jA,jB,ha]
  exact ⟨by unfold AK3; rw [ha]; rfl,trivial⟩
theorem AE3 (G:Nat→AV) (n:Int) (h:Hp):PCall (En G) 135 [.int .u8 n] h (.bool (QO n)):=by
 refine acN Tryz.func135 rfl ?_
 show awp _ _ _ _ _ (D8 _ [.tmp 2] _)
 simp -implicitDefEqProofs only [BC,BA,A8,AY,BB,BK,BV,CO,AO,AQ,AL,BD,AX,AC,AA,AZ,AU,BH,BM,BG,A7,BQ,AB,FX,BF,↓reduceIte,jC,jA,jB,enP]
 refine JE (fun ha => ?_) (fun ha => ?_)
 ·simp -implicitDefEqProofs only [BJ,A8,CJ,AY,BB,BK,BV,CO,FY,AO,AQ,AL,BD,AX,AC,AA,AZ,AU,BH,BM,BG,A7,CP,DL,BQ,AB,IJ,BF,↓reduceIte,jC,jA,jB,enP,ha]
  exact ⟨by unfold QO; rw [ha]; rfl,trivial⟩
 ·simp -implicitDefEqProofs only [BJ,A8,CJ,AY,BB,BK,BV,CO,JD,AO,AQ,AL,BD,AX,AC,AA,EK,AZ,AU,BM,A7,CP,DN,↓reduceIte,jC,jA,jB,ha]
  exact ⟨by unfold QO; rw [ha]; rfl,trivial⟩
theorem digit_ref (G:Nat→AV) (n:Int) (h:Hp):PCall (En G) 179 [.int .u8 n] h (.bool (AK3 n)):=by
 refine acN Tryz.func179 rfl ?_
 show awp _ _ _ _ _ (D8 _ [.tmp 2] _)
 simp -implicitDefEqProofs only [BC,BA,A8,AY,BB,BK,BV,CO,AO,AQ,AL,BD,AX,AC,AA,AZ,AU,BH,BM,BG,A7,BQ,AB,FX,BF,↓reduceIte,jC,jA,jB,enP]
 refine JE (fun ha => ?_) (fun ha => ?_)
 ·simp -implicitDefEqProofs only [BJ,A8,CJ,AY,BB,BK,BV,CO,FY,AO,AQ,AL,BD,AX,AC,AA,AZ,AU,BH,BM,BG,A7,CP,DL,BQ,AB,IJ,BF,↓reduceIte,jC,jA,jB,enP,ha]
  exact ⟨by unfold AK3; rw [ha]; rfl,trivial⟩
 ·simp -implicitDefEqProofs only [BJ,A8,CJ,AY,BB,BK,BV,CO,JD,AO,AQ,AL,BD,AX,AC,AA,EK,AZ,AU,BM,A7,CP,DN,↓reduceIte,jC,jA,jB,ha]
  exact ⟨by unfold AK3; rw [ha]; rfl,trivial⟩
theorem X7 (G:Nat→AV) (n:Int) (h:Hp):PCall (En G) 173 [.int .i32 n] h (.bool (ND n)):=by
 refine acN Tryz.func173 rfl ?_
 show awp _ _ _ _ _ (D8 _ [.tmp 2] _)
 simp -implicitDefEqProofs only [BC,BA,A8,AY,BB,AO,AQ,AL,BD,AX,AC,AA,AZ,AU,BU,BM,BG,A7,BZ,BO,BF,jE,jD,jF,↓reduceIte,jC,jA,jB,enP]
 refine (ACG G n h).use ?_
 simp -implicitDefEqProofs only [AY,BK,BV,CO,AO,AQ,AL,BD,AX,AC,AA,AZ,BG,↓reduceIte,jA,jB]
 refine JE (fun ha => ?_) (fun ha => ?_)
 ·simp -implicitDefEqProofs only [BJ,A8,CJ,AY,BB,BK,BV,CO,FI,UA,AO,AQ,AL,BD,AX,AC,AA,EK,AZ,AU,BM,BG,A7,CP,DL,↓reduceIte,jC,jA,jB,ha]
  exact ⟨by unfold ND; rw [ha]; rfl,trivial⟩
 simp -implicitDefEqProofs only [BK,BV,CO,EF,AO,AQ,AL,BD,AX,AC,AA,AZ,BU,BG,BZ,BO,BF,jE,jD,jF,↓reduceIte,jC,jA,jB,ha]
 refine (ANW G n h).use ?_
 simp -implicitDefEqProofs only [AY,BK,BV,CO,AO,AQ,AL,BD,AX,AC,AA,AZ,AU,BM,BG,CP,DN,↓reduceIte,jC,jA,jB]
 refine JE (fun hb => ?_) (fun hb => ?_)
 ·simp -implicitDefEqProofs only [BJ,A8,CJ,AY,BB,BK,BV,CO,FI,UA,AO,AQ,AL,BD,AX,AC,AA,EK,AZ,AU,BM,BG,A7,CP,DL,↓reduceIte,jC,jA,jB,hb]
  exact ⟨by unfold ND; rw [ha,hb]; rfl,trivial⟩
 simp -implicitDefEqProofs only [BK,BV,CO,EF,AO,AQ,AL,BD,AX,AC,AA,AZ,AU,BH,BG,BQ,AB,FX,BF,↓reduceIte,jC,jA,jB,enP,hb]
 refine JE (fun hc => ?_) (fun hc => ?_)
 ·simp -implicitDefEqProofs only [AY,BK,BV,CO,FY,EF,AO,AQ,AL,BD,AX,AC,AA,AZ,AU,BH,BM,BG,CP,DL,DN,BQ,AB,IJ,BF,↓reduceIte,jC,jA,jB,enP,hc]
  refine JE (fun hd => ?_) (fun hd => ?_)
  ·simp -implicitDefEqProofs only [BJ,A8,CJ,AY,BB,BK,BV,CO,FI,AO,AQ,AL,BD,AX,AC,AA,EK,AZ,AU,BM,A7,CP,DL,↓reduceIte,jC,jA,jB,hd]
   exact ⟨by unfold ND; rw [ha,hb,hc,hd]; rfl,trivial⟩
  ·simp -implicitDefEqProofs only [BJ,A8,CJ,AY,BB,BK,BV,CO,EF,AO,AQ,AL,BD,AX,AC,AA,AZ,AU,BH,BM,BG,A7,CP,DN,BQ,AB,DR,BF,↓reduceIte,jC,jA,jB,enP,hd]
   exact ⟨by unfold ND; rw [ha,hb,hc,hd]; rfl,trivial⟩
 ·simp -implicitDefEqProofs only [BJ,A8,CJ,AY,BB,BK,BV,CO,EF,JD,AO,AQ,AL,BD,AX,AC,AA,EK,AZ,AU,BH,BM,BG,A7,CP,DN,BQ,AB,DR,BF,↓reduceIte,jC,jA,jB,enP,hc]
  exact ⟨by unfold ND; rw [ha,hb,hc]; rfl,trivial⟩
theorem AR5 (G:Nat→AV) (n:Int) (h:Hp):PCall (En G) 137 [.int .u8 n] h (.bool (ND n)):=by
 refine acN Tryz.func137 rfl ?_
 show awp _ _ _ _ _ (D8 _ [.tmp 2] _)
 simp -implicitDefEqProofs only [BC,BA,A8,AY,BB,AO,AQ,AL,BD,AX,AC,AA,AZ,AU,BU,BM,BG,A7,BZ,BO,BF,jE,jD,jF,↓reduceIte,jC,jA,jB,enP]
 refine (AE3 G n h).use ?_
 simp -implicitDefEqProofs only [AY,BK,BV,CO,AO,AQ,AL,BD,AX,AC,AA,AZ,BG,↓reduceIte,jA,jB]
 refine JE (fun ha => ?_) (fun ha => ?_)
 ·simp -implicitDefEqProofs only [BJ,A8,CJ,AY,BB,BK,BV,CO,FI,UA,AO,AQ,AL,BD,AX,AC,AA,EK,AZ,AU,BM,BG,A7,CP,DL,↓reduceIte,jC,jA,jB,ha]
  exact ⟨by unfold ND; rw [ha]; rfl,trivial⟩
 simp -implicitDefEqProofs only [BK,BV,CO,EF,AO,AQ,AL,BD,AX,AC,AA,AZ,BU,BG,BZ,BO,BF,jE,jD,jF,↓reduceIte,jC,jA,jB,ha]
 refine (digit_ref G n h).use ?_
 simp -implicitDefEqProofs only [AY,BK,BV,CO,AO,AQ,AL,BD,AX,AC,AA,AZ,AU,BM,BG,CP,DN,↓reduceIte,jC,jA,jB]
 refine JE (fun hb => ?_) (fun hb => ?_)
 ·simp -implicitDefEqProofs only [BJ,A8,CJ,AY,BB,BK,BV,CO,FI,UA,AO,AQ,AL,BD,AX,AC,AA,EK,AZ,AU,BM,BG,A7,CP,DL,↓reduceIte,jC,jA,jB,hb]
  exact ⟨by unfold ND; rw [ha,hb]; rfl,trivial⟩
 simp -implicitDefEqProofs only [BK,BV,CO,EF,AO,AQ,AL,BD,AX,AC,AA,AZ,AU,BH,BG,BQ,AB,FX,BF,↓reduceIte,jC,jA,jB,enP,hb]
 refine JE (fun hc => ?_) (fun hc => ?_)
 ·simp -implicitDefEqProofs only [AY,BK,BV,CO,FY,EF,AO,AQ,AL,BD,AX,AC,AA,AZ,AU,BH,BM,BG,CP,DL,DN,BQ,AB,IJ,BF,↓reduceIte,jC,jA,jB,enP,hc]
  refine JE (fun hd => ?_) (fun hd => ?_)
  ·simp -implicitDefEqProofs only [BJ,A8,CJ,AY,BB,BK,BV,CO,FI,AO,AQ,AL,BD,AX,AC,AA,EK,AZ,AU,BM,A7,CP,DL,↓reduceIte,jC,jA,jB,hd]
   exact ⟨by unfold ND; rw [ha,hb,hc,hd]; rfl,trivial⟩
  ·simp -implicitDefEqProofs only [BJ,A8,CJ,AY,BB,BK,BV,CO,EF,AO,AQ,AL,BD,AX,AC,AA,AZ,AU,BH,BM,BG,A7,CP,DN,BQ,AB,DR,BF,↓reduceIte,jC,jA,jB,enP,hd]
   exact ⟨by unfold ND; rw [ha,hb,hc,hd]; rfl,trivial⟩
 ·simp -implicitDefEqProofs only [BJ,A8,CJ,AY,BB,BK,BV,CO,EF,JD,AO,AQ,AL,BD,AX,AC,AA,EK,AZ,AU,BH,BM,BG,A7,CP,DN,BQ,AB,DR,BF,↓reduceIte,jC,jA,jB,enP,hc]
  exact ⟨by unfold ND; rw [ha,hb,hc]; rfl,trivial⟩
def encStr (s:ByteArray):List AV := [.str s]
theorem encStr0 (s:ByteArray):(encStr s)[0]? = some (.str s):=rfl
def JU (xs:List ByteArray) (v:ByteArray):Bool:=xs.any fun u=>v.toList == u.toList
theorem AZP (G:Nat→AV) (xs:List ByteArray) (m:SM) (v:ByteArray) (h:Hp) (hl:xs.length≤1099511627776) :
  PCall (En G) 177 [.sl m 1 (xs.map encStr),.str v] h (.bool (JU xs v)):=by
 refine acN Tryz.func177 rfl ?_
 show awp _ _ _ _ _ (D8 _ [.tmp 4] _)
 simp -implicitDefEqProofs only [BC,BP,BA,A8,AY,BB,AO,AQ,AL,BD,AX,AC,AU,BH,BM,A7,jA,jB,enP]
 refine DY (fun n F H => ∃ k,n+k=xs.length∧F 0 = .sl m 1 (xs.map encStr)∧F 1 = .str v∧F 5 = .int .i64 (k:Nat)∧H=h∧JU xs v=JU (xs.drop k) v) xs.length ⟨0,by simp,rfl,rfl,rfl,rfl,rfl⟩ ?_
 rintro n F H ⟨k,hk,f0,f1,f5,rfl,hin⟩
 simp -implicitDefEqProofs only [BC,BA,BI,A8,AY,BB,AO,AQ,AL,BD,AX,AC,AA,AZ,BG,BQ,D6,AB,C9,↓reduceIte,jC,jA,jB,enP,AJX,f0,f1,f5,jI]
 refine CV (fun hc => ?_) (fun hc => ?_)
 ·have hc':k < xs.length:=by simpa using hc
  have hs:JU (xs.drop k) v=((v.toList == xs[k].toList) || JU (xs.drop (k+1)) v):=QL _ xs k hc'
  simp -implicitDefEqProofs only [BC,BP,BA,BR,BI,A8,AY,BB,AO,AQ,AL,BD,AX,AC,AA,AZ,BG,BX,BQ,CG,AB,MK,↓reduceIte,jC,jA,jB,enP,AR0,f0,f1,f5,D7 hc',DZ ag9 hc',encStr0]
  refine CV (fun hb => ?_) (fun hb => ?_)
  ·simp -implicitDefEqProofs only [BC,BA,BJ,A8,CQ,ED,F7,CJ,AY,BB,AO,AQ,AL,BD,AX,AC,AA,AU,BM,A7,↓reduceIte,jA,jB]
   refine ⟨?_,trivial⟩
   rw [hin,hs,show (v.toList == xs[k].toList)=true by rw [BEq.comm]; exact hb]; rfl
  ·simp -implicitDefEqProofs only [BA,BR,A8,EH,ER,AY,BB,AO,AQ,AL,BD,AX,AC,AA,AZ,AU,BH,BG,A7,BQ,AB,DK,↓reduceIte,jC,jA,jB,enP,f5,wrap_succ (show k < 9223372036854775807 by omega)]
   refine ⟨n - 1,by omega,k+1,by omega,f0,f1,rfl,trivial,?_⟩
   rw [hin,hs,show (v.toList == xs[k].toList)=false by rw [BEq.comm]; exact hb]; rfl
 ·have hc' : ¬ k < xs.length:=by simpa using hc
  simp -implicitDefEqProofs only [BC,BA,BJ,DW,A8,EG,EY,EZ,CJ,AY,BB,AO,AQ,AL,BD,AX,AC,AA,AU,BM,A7,↓reduceIte,jA,jB]
  exact ⟨by rw [hin,zG (by omega)]; rfl,trivial⟩
theorem ANE (G:Nat→AV) (xs:List ByteArray) (m:SM) (v:ByteArray) (h:Hp) (hl:xs.length≤1099511627776) :
  ∃ i:Int,(decide (i≥0)=JU xs v)∧PCall (En G) 202 [.sl m 1 (xs.map encStr),.str v] h (.int .i64 i):=by
 refine ⟨(match xs.findIdx? (fun u=>v.toList == u.toList) with | some i=>(i:Int) | none => -1),?_,?_⟩
 ·cases hx:xs.findIdx? (fun u=>v.toList == u.toList) with
  | some i =>
    obtain ⟨h1,h2,_⟩:=qX.1 hx
    have:JU xs v=true:=qC.2 ⟨xs[i],by simp,h2⟩
    simp [this]
  | none =>
    have:JU xs v=false:=by
     rw [qY] at hx
     unfold JU
     rw [wS]; intro x hx2; simp only [hx x hx2]; simp
    simp [this]
 refine acN Tryz.func202 rfl ?_
 show awp _ _ _ _ _ (D8 _ [.tmp 4] _)
 simp -implicitDefEqProofs only [BC,BP,BA,A8,AY,BB,AO,AQ,AL,BD,AX,AC,AA,AZ,AU,BH,BG,A7,D6,AB,BF,↓reduceIte,jC,jA,jB,enP,AJX,jI]
 refine DY (fun n F H => ∃ k,n+k=xs.length∧F 0 = .sl m 1 (xs.map encStr)∧F 1 = .str v∧F 7 = .int .i64 xs.length∧F 8 = .int .i64 (k:Nat)∧H=h∧(xs.take k).all (fun u => !(v.toList == u.toList))=true) xs.length ⟨0,by simp,rfl,rfl,rfl,rfl,rfl,rfl⟩ ?_
 rintro n F H ⟨k,hk,f0,f1,f7,f8,rfl,hin⟩
 simp -implicitDefEqProofs only [BC,BA,BI,A8,AY,BB,AO,AQ,AL,BD,AX,AC,AA,AZ,BQ,AB,C9,↓reduceIte,jA,jB,enP,f0,f1,f7,f8,jI]
 refine CV (fun hc => ?_) (fun hc => ?_)
 ·have hc':k < xs.length:=by simpa using hc
  simp -implicitDefEqProofs only [BC,BP,BA,BR,BI,A8,AY,BB,AO,AQ,AL,BD,AX,AC,AA,AZ,BG,A7,BX,BQ,CG,AB,MK,↓reduceIte,jC,jA,jB,enP,AR0,f0,f1,f7,f8,D7 hc',DZ ag9 hc',encStr0]
  refine CV (fun hb => ?_) (fun hb => ?_)
  ·simp -implicitDefEqProofs only [BC,BA,BJ,A8,CQ,ED,F7,CJ,AY,BB,AO,AQ,AL,BD,AX,AC,AA,AZ,BG,A7,↓reduceIte,jC,jA,jB]
   refine ⟨?_,trivial⟩
   rw [qX.2 ⟨hc',hb,fun j hj=>by
    rw [zF] at hin
    have:=hin xs[j] (by rw [List.mem_take_iff_getElem]; exact ⟨j,by omega,rfl⟩)
    simpa using this⟩]
  ·simp -implicitDefEqProofs only [BA,BR,A8,EH,ER,AY,BB,AO,AQ,AL,BD,AX,AC,AA,AZ,AU,BH,BG,BQ,AB,DK,↓reduceIte,jC,jA,jB,enP,f8,wrap_succ (show k < 9223372036854775807 by omega)]
   refine ⟨n - 1,by omega,k+1,by omega,f0,f1,f7,rfl,trivial,?_⟩
   rw [zN hc',yA,hin]
   simp only [qQ,List.all_nil,hb]; rfl
 ·have hc' : ¬ k < xs.length:=by simpa using hc
  simp -implicitDefEqProofs only [BC,BA,BJ,DW,A8,EG,EY,EZ,CJ,AY,BB,AO,AQ,AL,BD,AX,AC,AA,AU,BH,A7,↓reduceIte,jA,jB]
  refine ⟨?_,trivial⟩
  rw [jW (by omega)] at hin
  rw [qY.2 (by
   intro x hx
   rw [zF] at hin
   simpa using hin x hx)]
theorem AEQ (G:Nat→AV) (xs:List ByteArray) (m:SM) (v:ByteArray) (h:Hp) (hl:xs.length≤1099511627776) :
  PCall (En G) 174 [.sl m 1 (xs.map encStr),.str v] h (.bool (JU xs v)):=by
 obtain ⟨i,hi,hp⟩:=ANE G xs m v h hl
 refine acN Tryz.func174 rfl ?_
 show awp _ _ _ _ _ (D8 _ [.tmp 4] _)
 simp -implicitDefEqProofs only [BC,BA,A8,AY,BB,AO,AQ,AL,BD,AX,AC,AA,AZ,AU,BU,BM,BG,A7,BZ,BO,BF,BL,jE,jD,jF,↓reduceIte,jC,jA,jB,enP]
 refine hp.use ?_
 simp -implicitDefEqProofs only [BJ,A8,CJ,AY,BB,AO,AQ,AL,BD,AX,AC,AA,AZ,AU,BH,A7,BQ,AB,FX,↓reduceIte,jA,jB,enP]
 exact ⟨by rw [hi],trivial⟩
def kw:List ByteArray := [⟨#[99,108,97,115,115]⟩,⟨#[101,120,116,101,110,100,115]⟩,⟨#[114,97,110,100]⟩,⟨#[114,97,110,100,99]⟩,⟨#[115,116,97,116,101]⟩,⟨#[99,111,110,115,116,114,97,105,110,116]⟩,⟨#[115,111,102,116]⟩,⟨#[100,105,115,116]⟩,⟨#[105,102]⟩,⟨#[101,108,115,101]⟩,⟨#[101,97,99,104]⟩,⟨#[105,110]⟩,⟨#[115,111,108,118,101]⟩,⟨#[98,101,102,111,114,101]⟩,⟨#[105,110,115,105,100,101]⟩,⟨#[112,114,111,112,101,114,116,121]⟩,⟨#[115,101,113]⟩,⟨#[97,110,100]⟩,⟨#[111,114]⟩,⟨#[110,111,116]⟩,⟨#[115,101,116]⟩,⟨#[104,111,108,100]⟩,⟨#[112,108,97,105,110]⟩,⟨#[114,101,112,101,97,116]⟩]
theorem AU7:kw.length=24:=rfl
theorem AGX (G:Nat→AV) (h:Hp):PCall (En G) 178 [] h (.sl .full 1 (kw.map encStr)):=by
 refine acN Tryz.func178 rfl ?_
 show awp _ _ _ _ _ (D8 _ [.tmp 0] _)
 simp -implicitDefEqProofs only [FK,FH,BC,BA,A8,AY,BB,AO,AQ,AL,BD,AX,AC,AU,H9,GZ,A7,EC,jA,jB,enP]
 refine LY (v := .sl .full 1 (kw.map encStr)) (h:=h) (by kernel_rfl) ?_
 simp -implicitDefEqProofs only [BJ,A8,CJ,AY,BB,AO,AQ,AL,BD,AX,AC,AA,AZ,A7,↓reduceIte,jA,jB]
 exact ⟨trivial,trivial⟩
theorem AEI (G:Nat→AV) (v:ByteArray) (h:Hp):PCall (En G) 136 [.str v] h (.bool (JU kw v)):=by
 refine acN Tryz.func136 rfl ?_
 show awp _ _ _ _ _ (D8 _ [.tmp 2] _)
 simp -implicitDefEqProofs only [BC,BA,A8,AY,BB,AO,AQ,AL,BD,AX,AC,AU,BU,BM,A7,BZ,BO,jD,jF,jA,jB,enP]
 refine (AGX G h).use ?_
 simp -implicitDefEqProofs only [AY,AO,AQ,AL,BD,AX,AC,AA,AZ,BU,BG,BZ,BO,BF,jE,jD,jF,↓reduceIte,jC,jA,jB]
 refine (AZP G kw .full v h (by rw [AU7]; omega)).use ?_
 simp -implicitDefEqProofs only [BJ,A8,CJ,AY,BB,AO,AQ,AL,BD,AX,AC,AA,AZ,A7,↓reduceIte,jA,jB]
 exact ⟨trivial,trivial⟩
def KwG (G:Nat→AV):Prop := ∃ m,G 0 = .fptr 1 [[.sl m 1 (kw.map encStr)]] 0 0
theorem ACM (G:Nat→AV) (hG:KwG G) (v:ByteArray) (h:Hp):PCall (En G) 130 [.str v] h (.bool (JU kw v)):=by
 obtain ⟨m,hg⟩:=hG
 refine acN Tryz.func130 rfl ?_
 show awp _ _ _ _ _ (D8 _ [.tmp 2] _)
 have e:DX Tryz.prog h 65 (G 0)=some (.sl m 1 (kw.map encStr)):=by rw [hg]; exact XT AS3 rfl rfl
 have hl:kw.length≤1099511627776:=by rw [AU7]; omega
 simp -implicitDefEqProofs only [BC,BA,A8,AY,BB,AO,AQ,AL,BD,AX,AC,AA,AZ,AU,BU,AZY,BM,BG,A7,BX,BZ,BO,AB,BF,jE,jD,jF,↓reduceIte,jC,jA,jB,enP,enG,e]
 refine (AEQ G kw m v h hl).use ?_
 simp -implicitDefEqProofs only [BJ,A8,CJ,AY,BB,AO,AQ,AL,BD,AX,AC,AA,AZ,A7,↓reduceIte,jA,jB]
 exact ⟨trivial,trivial⟩
def RU (s:ByteArray):Bool:=(match s.data.toList with | []=>false | b :: _=>QO b.toNat) && s.data.toList.all fun b=>ND b.toNat
def IB (s:ByteArray):Bool:=RU s && decide (s.size≤16) && !JU kw s
theorem ZJ {n:Int} (h:ND n=true):n < 128:=by
 simp only [ND,QO,AK3,Bool.or_eq_true,jU,decide_eq_true_eq,beq_iff_eq] at h
 omega
theorem AYH (h:Hp) (s:ByteArray):Z8 Tryz.prog h 9 (.str s)=some (.ptr h.length 0 0,h ++ [.iter s 0]):=by
 have:Tryz.prog.underlying 9=some .string:=by kernel_rfl
 simp [Z8,this]
theorem AY5 {h:Hp} {s:ByteArray} {pos:Nat} (hp:pos < s.size):AAW (h ++ [.iter s pos]) (.ptr h.length 0 0) true=some (.tup [.bool true,.int .i64 pos,.int .i32 (Utf8.decode s pos).1],h ++ [.iter s (pos+(Utf8.decode s pos).2)]):=by
 simp [AAW,hp]
theorem AUO {h:Hp} {s:ByteArray} {pos:Nat} (hp : ¬ pos < s.size):AAW (h ++ [.iter s pos]) (.ptr h.length 0 0) true=some (.tup [.bool false],h ++ [.iter s pos]):=by
 simp [AAW,hp]
theorem S9 {s:ByteArray} {k:Nat} (hk:k < s.size) (hb:ND (s[k]'hk).toNat=false):RU s=false:=by
 unfold RU
 have:(s.data.toList.all fun b=>ND b.toNat)=false:=by
  rw [List.all_eq_false]
  exact ⟨s[k],Array.getElem_mem_toList (xs:=s.data) hk,by simp [hb]⟩
 rw [this]; simp
theorem AAC {s:ByteArray} (hk:0 < s.size) (hb:QO (s[0]'hk).toNat=false):RU s=false:=by
 unfold RU
 have:(match s.data.toList with | []=>false | b :: _=>QO b.toNat)=false:=by
  cases hl:s.data.toList with
  | nil=>rfl
  | cons b l =>
    have h0:s[0]'hk=b:=by
     have:s.data.toList[0]? = some b:=by rw [hl]; rfl
     have h2:s.data[0]? = some b:=by rw [← Array.getElem?_toList]; exact this
     have hk':0 < s.data.size:=hk
     rw [Array.getElem?_eq_getElem hk'] at h2
     exact Option.some.inj h2
    simp only
    rw [← h0]; exact hb
 rw [this]; simp
theorem AH6 {s:ByteArray} (hk:0 < s.size) (hb:QO (s[0]'hk).toNat=true) (ha : ∀ i (hi:i < s.size),ND (s[i]'hi).toNat=true):RU s=true:=by
 unfold RU
 have h1:(match s.data.toList with | []=>false | b :: _=>QO b.toNat)=true:=by
  cases hl:s.data.toList with
  | nil =>
    have:s.data.toList.length=0:=by rw [hl]; rfl
    have h2:s.data.size=0:=by simpa using this
    have h3:s.size=s.data.size:=rfl
    omega
  | cons b l =>
    have h0:s[0]'hk=b:=by
     have:s.data.toList[0]? = some b:=by rw [hl]; rfl
     have h2:s.data[0]? = some b:=by rw [← Array.getElem?_toList]; exact this
     have hk':0 < s.data.size:=hk
     rw [Array.getElem?_eq_getElem hk'] at h2
     exact Option.some.inj h2
    simp only
    rw [← h0]; exact hb
 rw [h1,Bool.true_and,zF]
 intro b hbm
 obtain ⟨i,hi,rfl⟩:=List.getElem_of_mem hbm
 have hi':i < s.size:=by simpa using hi
 exact ha i hi'
theorem AQQ (G:Nat→AV) (s:ByteArray) (h:Hp) (hl:s.size≤1099511627776):PCall (En G) 129 [.str s] h (.bool (RU s)):=by
 refine ACalls.pure0 rfl ?_
 refine acN Tryz.func129 rfl ?_
 show awp _ _ _ _ _ (D8 _ [.tmp 2] _)
 simp -implicitDefEqProofs only [BC,BP,BA,A8,AY,BB,AO,AQ,AL,BD,AX,AC,AA,AZ,AU,BM,BG,A7,AXV,CB,BF,↓reduceIte,jC,jA,jB,enP,AYH]
 refine DY (fun n F H => ∃ k,n+k=s.size∧F 0 = .str s∧F 6 = .ptr h.length 0 0∧H=h ++ [.iter s k]∧(∀ i (hi:i < s.size),i < k→ND (s[i]'hi).toNat=true)∧(∀ hp:0 < s.size,0 < k→QO (s[0]'hp).toNat=true)) s.size ⟨0,by simp,rfl,by simp -implicitDefEqProofs only [AA,↓reduceIte],rfl,fun _ _ h=>absurd h (by omega),fun _ h=>absurd h (by omega)⟩ ?_
 rintro n F H ⟨k,hk,f0,f6,rfl,hall,h0⟩
 rcases Classical.em (k < s.size) with hp | hp
 ·have go : ∀ (r:Nat × Nat),Utf8.decode s k=r→(ND r.1=true→r=((s[k]'hp).toNat,1)∧ND (s[k]'hp).toNat=true)∧(ND r.1=false→RU s=false)∧(QO r.1=false→k=0→RU s=false)∧(QO r.1=true→ND r.1=true):=by
   rintro r rfl
   have lf : ∀ n,QO n=true→ND n=true:=fun n hn=>by unfold ND; rw [hn]; rfl
   rcases zK (s[k]'hp).toNat 128 with ha | ha
   ·have hd:=decode_ascii s k hp ha
    rw [hd]
    exact ⟨fun hf=>⟨rfl,hf⟩,fun hf=>S9 hp hf,fun hf h0=>by subst h0; exact AAC hp hf,lf _⟩
   ·have hd:=(decode_high s k hp ha).1
    refine ⟨fun hf => ?_,fun _ => ?_,fun _ h0 => ?_,lf _⟩
    ·have:=ZJ hf; omega
    ·refine S9 hp ?_
     cases hf:ND (s[k]'hp).toNat with
     | false=>rfl
     | true=>have:=ZJ hf; omega
    ·refine S9 hp ?_
     cases hf:ND (s[k]'hp).toNat with
     | false=>rfl
     | true=>have:=ZJ hf; omega
  simp -implicitDefEqProofs only [zH,List.getElem?_cons_succ,BC,BP,BA,BR,BI,A8,CZ,AY,BB,BK,BV,CO,AO,AQ,AL,BD,AX,AC,AA,AZ,AU,BH,BG,A7,BQ,ATE,EW,GG,CB,AB,DR,↓reduceIte,jC,jA,jB,enP,f0,f6,AY5 hp]
  generalize hr:Utf8.decode s k=r at go
  obtain ⟨g1,g2,g3,g4⟩:=go r rfl
  have done : ∀ H',ND r.1=true→(k=0→QO r.1=true)→H'=h ++ [ABlk.iter s (k+r.2)]→∃ m,m < n∧∃ k',m+k'=s.size∧H'=h ++ [.iter s k']∧(∀ i (hi:i < s.size),i < k'→ND (s[i]'hi).toNat=true)∧(∀ hp:0 < s.size,0 < k'→QO (s[0]'hp).toNat=true):=by
   intro H' hf hlw hH
   obtain ⟨e1,e2⟩:=g1 hf
   refine ⟨n - 1,by omega,k+1,by omega,by rw [hH,e1],fun i hi hik => ?_,fun hp0 _ => ?_⟩
   ·rcases zK i k with h' | h'
    ·exact hall i hi h'
    ·have:i=k:=by omega
     subst this; exact e2
   ·rcases wH k with h' | h'
    ·subst h'; have:=hlw rfl; rw [e1] at this; exact this
    ·exact h0 hp0 h'
  refine JE (fun ha => ?_) (fun ha => ?_)
  ·have hk0:k=0:=by simp at ha; omega
   simp -implicitDefEqProofs only [BK,BV,CO,FY,AO,AQ,AL,BD,AX,AC,AA,AZ,BU,BG,BZ,BO,jE,jD,jF,↓reduceIte,jC,jA,jB,ha]
   refine (ACG G _ _).use ?_
   simp -implicitDefEqProofs only [AY,BK,BV,CO,FY,AO,AQ,AL,BD,AX,AC,AA,AZ,AU,BM,BG,CP,DL,GU,AB,EP,↓reduceIte,jC,jA,jB]
   refine JE (fun hb => ?_) (fun hb => ?_)
   ·simp -implicitDefEqProofs only [BC,BA,BJ,BI,A8,CQ,ED,F7,CJ,CZ,AY,BB,BK,BV,CO,FI,AO,AQ,AL,BD,AX,AC,AA,EK,AZ,AU,BM,A7,CP,DL,↓reduceIte,jC,jA,jB,hb]
    have hlw:QO r.1=false:=by simpa using hb
    exact ⟨by rw [g3 hlw hk0],_,rfl⟩
   have hlw:QO r.1=true:=by simpa using hb
   simp -implicitDefEqProofs only [BK,BV,CO,EF,AO,AQ,AL,BD,AX,AC,AA,AZ,BU,BG,BZ,BO,jE,jD,jF,↓reduceIte,jC,jA,jB,hb]
   refine (X7 G _ _).use ?_
   simp -implicitDefEqProofs only [BI,A8,AY,BB,BK,BV,CO,EF,AO,AQ,AL,BD,AX,AC,AA,AZ,AU,BM,CP,DN,GU,AB,EP,↓reduceIte,jC,jA,jB]
   have hf:=g4 hlw
   simp -implicitDefEqProofs only [BR,EH,ER,DI,AA,↓reduceIte,jC,Bool.not_true,hf]
   obtain ⟨m,h1,k',h2,h3,h4,h5⟩:=done _ hf (fun _=>hlw) rfl
   exact ⟨m,h1,k',h2,f0,f6,h3,h4,h5⟩
  ·have hk0:k≠0:=by intro e; subst e; simp at ha
   simp -implicitDefEqProofs only [AY,BK,BV,CO,EF,JD,AO,AQ,AL,BD,AX,AC,AA,EK,AZ,AU,BU,BM,BG,CP,DN,BZ,BO,jE,jD,jF,↓reduceIte,jC,jA,jB,ha]
   refine (X7 G _ _).use ?_
   simp -implicitDefEqProofs only [BI,A8,AY,BB,BK,BV,CO,EF,AO,AQ,AL,BD,AX,AC,AA,AZ,AU,BM,CP,DN,GU,AB,EP,↓reduceIte,jC,jA,jB]
   refine CV (fun hb => ?_) (fun hb => ?_)
   ·have hf:ND r.1=false:=by simpa using hb
    simp -implicitDefEqProofs only [BC,BA,BJ,A8,CQ,ED,F7,CJ,AY,BB,AO,AQ,AL,BD,AX,AC,AA,AU,BM,A7,↓reduceIte,jA,jB]
    exact ⟨by rw [g2 hf],_,rfl⟩
   ·have hf:ND r.1=true:=by simpa using hb
    simp -implicitDefEqProofs only [BR,EH,ER,AA,↓reduceIte,jC]
    obtain ⟨m,h1,k',h2,h3,h4,h5⟩:=done _ hf (fun e=>absurd e hk0) rfl
    exact ⟨m,h1,k',h2,f0,f6,h3,h4,h5⟩
 ·simp -implicitDefEqProofs only [zH,BC,BA,BJ,DW,BI,A8,EG,EY,EZ,CJ,DI,AY,BB,AO,AQ,AL,BD,AX,AC,AA,AZ,AU,H9,BG,A7,BQ,ATE,EW,GG,CB,AB,ADR,↓reduceIte,jC,jA,jB,enP,f0,f6,AUO hp]
  have hks:k=s.size:=by omega
  refine ⟨?_,_,rfl⟩
  congr 1
  rcases wH s.size with hz | hz
  ·have:s=⟨#[]⟩:=by
    obtain ⟨d⟩:=s
    have:d.size=0:=hz
    rw [Array.eq_empty_of_size_eq_zero this]
   subst this
   rw [ByteArray.toList_eq]
   rfl
  ·rw [AH6 hz (h0 hz (by omega)) (fun i hi=>hall i hi (by omega))]
   have hne:s.toList≠[]:=by
    rw [ByteArray.toList_eq]
    intro e
    have:s.data.toList.length=0:=by rw [e]; rfl
    have h2:s.data.size=0:=by simpa using this
    have h3:s.size=s.data.size:=rfl
    omega
   cases hl2:s.toList with
   | nil=>exact absurd hl2 hne
   | cons=>rw [ByteArray.toList_eq]; rfl
theorem NU (G:Nat→AV) (hG:KwG G) (s:ByteArray) (h:Hp) (hl:s.size≤1099511627776):PCall (En G) 82 [.str s] h (.bool (IB s)):=by
 refine acN Tryz.func82 rfl ?_
 show awp _ _ _ _ _ (D8 _ [.tmp 2] _)
 simp -implicitDefEqProofs only [BC,BA,A8,AY,BB,AO,AQ,AL,BD,AX,AC,AA,AZ,AU,BU,BM,BG,A7,BZ,BO,BF,jE,jD,jF,↓reduceIte,jC,jA,jB,enP]
 refine (AQQ G s h hl).use ?_
 simp -implicitDefEqProofs only [AY,BK,BV,CO,AO,AQ,AL,BD,AX,AC,AA,AZ,BG,↓reduceIte,jA,jB]
 refine JE (fun ha => ?_) (fun ha => ?_)
 ·simp -implicitDefEqProofs only [AY,BK,BV,CO,FY,AO,AQ,AL,BD,AX,AC,AA,AZ,AU,BH,BM,BG,CP,DL,BQ,D6,AB,IJ,BF,↓reduceIte,jC,jA,jB,enP,ln9,ha]
  refine JE (fun hb => ?_) (fun hb => ?_)
  ·simp -implicitDefEqProofs only [BK,BV,CO,FY,AO,AQ,AL,BD,AX,AC,AA,AZ,BU,BG,BZ,BO,BF,jE,jD,jF,↓reduceIte,jC,jA,jB,hb]
   refine (ACM G hG s h).use ?_
   simp -implicitDefEqProofs only [BJ,A8,CJ,AY,BB,BK,BV,CO,FY,AO,AQ,AL,BD,AX,AC,AA,AZ,AU,BM,A7,CP,DL,GU,AB,EP,↓reduceIte,jC,jA,jB]
   refine ⟨?_,trivial⟩
   have:decide (s.size≤16)=true:=by simp at hb ⊢; omega
   unfold IB; rw [ha,this]; rfl
  ·simp -implicitDefEqProofs only [BJ,A8,CJ,AY,BB,BK,BV,CO,JD,AO,AQ,AL,BD,AX,AC,AA,EK,AZ,AU,BM,A7,CP,DN,↓reduceIte,jC,jA,jB,hb]
   refine ⟨?_,trivial⟩
   have:decide (s.size≤16)=false:=by simp at hb ⊢; omega
   unfold IB; rw [ha,this]; rfl
 ·simp -implicitDefEqProofs only [BJ,A8,CJ,AY,BB,BK,BV,CO,JD,AO,AQ,AL,BD,AX,AC,AA,EK,AZ,AU,BM,BG,A7,CP,DN,↓reduceIte,jC,jA,jB,ha]
  exact ⟨by unfold IB; rw [ha]; rfl,trivial⟩
theorem ix9 (s:ByteArray) (k:Nat) (kk:IntKind) (hk:k < s.size):NI Tryz.prog 9 (.str s) (.int kk (k:Int))=some (.int .u8 (s[k]'hk).toNat):=by
 have hu:Tryz.prog.underlying 9=some .string:=by kernel_rfl
 have h0:(0:Int)≤(k:Int):=by omega
 have:s[k]? = some (s[k]'hk):=by simp [hk]
 simp [NI,hu,h0,this]
theorem WR (G:Nat→AV) (s:ByteArray) (h:Hp):PCall (En G) 93 [.str s] h (.bool (IB s)):=by
 refine acN Tryz.func93 rfl ?_
 show awp _ _ _ _ _ (D8 _ [.tmp 2] _)
 simp -implicitDefEqProofs only [BC,BA,A8,AY,BB,BK,BV,CO,AO,AQ,AL,BD,AX,AC,AA,AZ,AU,BM,H9,BG,A7,BQ,AB,MK,BF,↓reduceIte,jC,jA,jB,enP]
 refine JE (fun ha => ?_) (fun ha => ?_)
 ·simp -implicitDefEqProofs only [BC,BA,BJ,BI,A8,CQ,CJ,CZ,AY,BB,BK,BV,CO,FI,AO,AQ,AL,BD,AX,AC,AA,EK,AZ,AU,BM,BG,A7,CP,DL,↓reduceIte,jC,jA,jB,ha]
  refine ⟨?_,trivial⟩
  have:s.data.toList = []:=by
   rw [ByteArray.toList_eq,ByteArray.toList_eq] at ha
   have:=beq_iff_eq.1 ha
   exact this
  unfold IB RU; rw [this]; rfl
 have hz:0 < s.size:=by
  rcases wH s.size with hz | hz
  ·have:s=⟨#[]⟩:=by
    obtain ⟨d⟩:=s
    have:d.size=0:=hz
    rw [Array.eq_empty_of_size_eq_zero this]
   rw [this] at ha
   simp at ha
  ·exact hz
 simp -implicitDefEqProofs only [AY,BK,BV,CO,EF,AO,AQ,AL,BD,AX,AC,AA,AZ,AU,BH,BM,BG,CP,DN,BQ,D6,AB,FD,BF,↓reduceIte,jC,jA,jB,enP,ln9,ha]
 refine JE (fun hb => ?_) (fun hb => ?_)
 ·simp -implicitDefEqProofs only [BC,BA,BJ,BI,A8,CQ,CJ,CZ,AY,BB,BK,BV,CO,FI,AO,AQ,AL,BD,AX,AC,AA,EK,AZ,AU,BM,BG,A7,CP,DL,↓reduceIte,jC,jA,jB,hb]
  refine ⟨?_,trivial⟩
  have:decide (s.size≤16)=false:=by simp at hb ⊢; omega
  unfold IB; rw [this]; simp
 have h16:decide (s.size≤16)=true:=by simp at hb ⊢; omega
 simp -implicitDefEqProofs only [BK,BV,CO,EF,AO,AQ,AL,BD,AX,AC,AA,AZ,AU,BH,BG,OB,BF,↓reduceIte,jC,jA,jB,enP,hb]
 refine LY (v := .int .u8 (s[0]'hz).toNat) (h:=h) (by rw [show (0:Int)=((0:Nat):Int) from rfl,ix9 s 0 .i64 hz]; rfl) ?_
 simp -implicitDefEqProofs only [BK,BV,CO,EF,AO,AQ,AL,BD,AX,AC,AA,AZ,BU,BZ,BO,jE,jD,jF,↓reduceIte,jC,jA,jB]
 refine (AE3 G _ h).use ?_
 simp -implicitDefEqProofs only [AY,BK,BV,CO,EF,AO,AQ,AL,BD,AX,AC,AA,AZ,AU,BM,BG,CP,DN,GU,AB,EP,↓reduceIte,jC,jA,jB]
 refine JE (fun hc => ?_) (fun hc => ?_)
 ·simp -implicitDefEqProofs only [BC,BA,BJ,BI,A8,CQ,CJ,CZ,AY,BB,BK,BV,CO,FI,AO,AQ,AL,BD,AX,AC,AA,EK,AZ,AU,BM,A7,CP,DL,↓reduceIte,jC,jA,jB,hc]
  refine ⟨?_,trivial⟩
  unfold IB; rw [AAC hz (by simpa using hc)]; rfl
 simp -implicitDefEqProofs only [BK,BV,CO,EF,AO,AQ,AL,BD,AX,AC,AA,AZ,BU,BG,BZ,BO,BF,jE,jD,jF,↓reduceIte,jC,jA,jB,hc]
 refine (AEI G s h).use ?_
 simp -implicitDefEqProofs only [BI,A8,AY,BB,AO,AQ,AL,BD,AX,AC,AA,AZ,AU,BM,CP,DN,↓reduceIte,jC,jA,jB]
 refine CV (fun hd => ?_) (fun hd => ?_)
 ·simp -implicitDefEqProofs only [BC,BA,BJ,A8,CQ,CJ,AY,BB,AO,AQ,AL,BD,AX,AC,AA,AU,BM,A7,↓reduceIte,jA,jB]
  refine ⟨?_,trivial⟩
  unfold IB; rw [hd]; simp
 simp -implicitDefEqProofs only [BC,BP,BA,BR,A8,AY,BB,AO,AQ,AL,BD,AX,AC,AU,BH,A7,jA,jB]
 have hlow:QO (s[0]'hz).toNat=true:=by simpa using hc
 refine DY (fun n F H => ∃ k,n+k=s.size∧F 0 = .str s∧F 3 = .int .i64 (k:Nat)∧H=h∧(∀ i (hi:i < s.size),i < k→ND (s[i]'hi).toNat=true)) s.size ⟨0,by simp,by simp -implicitDefEqProofs only [AA,BF,↓reduceIte,jC],by simp -implicitDefEqProofs only [AA,↓reduceIte]; rfl,rfl,fun _ _ h=>absurd h (by omega)⟩ ?_
 rintro n F H ⟨k,hk,f0,f3,rfl,hall⟩
 simp -implicitDefEqProofs only [BC,BA,BI,A8,AY,BB,AO,AQ,AL,BD,AX,AC,AA,AZ,BG,BQ,D6,AB,C9,↓reduceIte,jC,jA,jB,enP,ln9,f0,f3]
 refine CV (fun he => ?_) (fun he => ?_)
 ·have hk':k < s.size:=by simpa using he
  simp -implicitDefEqProofs only [BC,BP,BA,BR,A8,AY,AO,AQ,AL,BD,AX,AC,AA,AZ,BU,BG,OB,BZ,BO,AB,jE,jD,jF,↓reduceIte,jC,jA,jB,enP,f0,f3,ix9 s k .i64 hk']
  refine (AR5 G _ _).use ?_
  simp -implicitDefEqProofs only [BI,A8,AY,BB,AO,AQ,AL,BD,AX,AC,AA,AZ,GU,AB,EP,↓reduceIte,jA,jB]
  refine CV (fun hf => ?_) (fun hf => ?_)
  ·simp -implicitDefEqProofs only [BC,BA,BJ,A8,CQ,ED,F7,CJ,AY,BB,AO,AQ,AL,BD,AX,AC,AA,AU,BM,A7,↓reduceIte,jA,jB]
   refine ⟨?_,trivial⟩
   unfold IB; rw [S9 hk' (by simpa using hf)]; rfl
  ·simp -implicitDefEqProofs only [BA,BR,A8,EH,ER,AY,BB,AO,AQ,AL,BD,AX,AC,AA,AZ,AU,BH,BG,A7,BQ,AB,DK,↓reduceIte,jC,jA,jB,enP,f3,wrap_succ (show k < 9223372036854775807 by simp at h16; omega)]
   refine ⟨n - 1,by omega,k+1,by omega,f0,rfl,trivial,fun i hi hik => ?_⟩
   rcases zK i k with h' | h'
   ·exact hall i hi h'
   ·have:i=k:=by omega
    subst this; simpa using hf
 ·have hk' : ¬ k < s.size:=by simpa using he
  simp -implicitDefEqProofs only [BC,BA,BJ,DW,A8,EG,EY,EZ,CJ,AY,BB,AO,AQ,AL,BD,AX,AC,AA,AU,BM,A7,↓reduceIte,jA,jB]
  refine ⟨?_,trivial⟩
  unfold IB
  rw [AH6 hz hlow (fun i hi=>hall i hi (by omega)),h16,hd]; rfl
def MV (b:Bin):Bool :=
 decide (b.kind < 0) || decide (b.kind > 2) || (decide ((b.ranges.l.length:Int) > 0) == decide ((b.steps.length:Int) > 0)) || (b.kind != 0 && decide ((b.steps.length:Int) > 0)) || ((b.steps.length:Int) == 1) || decide ((b.steps.length:Int) > 8)
def IZ (b:Bin):Int :=
 if IB b.name then if MV b then 1 else if b.steps.any (fun l=>decide (l.l.length=0)) then 1 else
  if (sets b).any (fun l=>decide (l.l.length > 64)) then 2 else if (sets b).any (fun l=>l.l.any bad) then 1 else 0
 else 7
def shape (b:Bin):Bool :=
 if (b.kind != 0 && b.kind != 1 && b.kind != 2) then false else if ((b.steps.length:Int) == 0) then decide ((b.ranges.l.length:Int) > 0) else
  if (decide ((b.ranges.l.length:Int) > 0) || b.kind != 0 || decide ((b.steps.length:Int) < 2) || decide ((b.steps.length:Int) > 8)) then false else !(b.steps.any (fun l=>decide (l.l.length=0)))
theorem AMM : ∀ (n p z o t r s0 s1 s8 E:Bool),((n || p || z || o || t) && !(n && p) && !(n && z) && !(n && o) && !(n && t) && !(p && z) && !(p && o) && !(p && t) && !(z && o) && !(z && t) && !(o && t) && !(s0 && s1) && !(s0 && s8) && !(s1 && s8) && !(s0 && E))=true →
 (if (!z && !o && !t) then false else if s0 then r else if (r || !z || (s0 || s1) || s8) then false else !E)=(!(n || p || (r == !s0) || (!z && !s0) || s1 || s8) && !E):=by decide +kernel
theorem AQW (k r s:Int) (E:Bool) (hs:0≤s) (hE:s=0→E=false) :
  (if (k != 0 && k != 1 && k != 2) then false else if (s == 0) then decide (r > 0) else if (decide (r > 0) || k != 0 || decide (s < 2) || decide (s > 8)) then false else !E) =
  (!(decide (k < 0) || decide (k > 2) || (decide (r > 0) == decide (s > 0)) || (k != 0 && decide (s > 0)) || (s == 1) || decide (s > 8)) && !E):=by
 have h1:decide (s > 0) = !(s == 0):=by rw [qP]; simp; omega
 have h2:decide (s < 2)=((s == 0) || (s == 1)):=by rw [qP]; simp; omega
 rw [h1,h2]
 have key:=AMM (decide (k < 0)) (decide (k > 2)) (k == 0) (k == 1) (k == 2) (decide (r > 0)) (s == 0) (s == 1) (decide (s > 8)) E ?_
 ·exact key
 ·have a1:(decide (k < 0) || decide (k > 2) || (k == 0) || (k == 1) || (k == 2))=true:=by simp; omega
  have no : ∀ (p q:Prop) [Decidable p] [Decidable q],¬ (p∧q)→(!(decide p && decide q))=true:=by
   intro p q _ _ h; by_cases hp:p <;> by_cases hq:q <;> simp_all
  have e0:(s == 0 && E)=false:=by
   by_cases hz:s=0
   ·rw [hE hz]; simp
   ·simp [hz]
  have b0:(k == 0)=decide (k=0):=rfl
  have b1:(k == 1)=decide (k=1):=rfl
  have b2:(k == 2)=decide (k=2):=rfl
  have c0:(s == 0)=decide (s=0):=rfl
  have c1:(s == 1)=decide (s=1):=rfl
  rw [e0]
  rw [b0,b1,b2] at a1 ⊢
  rw [c0,c1,a1,no _ _ (show ¬ (k < 0∧k > 2) by omega),no _ _ (show ¬ (k < 0∧k=0) by omega),no _ _ (show ¬ (k < 0∧k=1) by omega),no _ _ (show ¬ (k < 0∧k=2) by omega),
   no _ _ (show ¬ (k > 2∧k=0) by omega),no _ _ (show ¬ (k > 2∧k=1) by omega),no _ _ (show ¬ (k > 2∧k=2) by omega),no _ _ (show ¬ (k=0∧k=1) by omega),no _ _ (show ¬ (k=0∧k=2) by omega),no _ _ (show ¬ (k=1∧k=2) by omega),
   no _ _ (show ¬ (s=0∧s=1) by omega),no _ _ (show ¬ (s=0∧s > 8) by omega),no _ _ (show ¬ (s=1∧s > 8) by omega)]
  rfl
theorem AIU (b:Bin):shape b=(!MV b && !(b.steps.any (fun l=>decide (l.l.length=0)))) :=
 AQW b.kind b.ranges.l.length b.steps.length _ (by omega) (fun h=>by
  have:b.steps = []:=List.eq_nil_of_length_eq_zero (by omega)
  rw [this]; rfl)
theorem AML (G:Nat→AV) (b:Bin) (h:Hp) (hl:b.steps.length≤1099511627776):PCall (En G) 131 [.agg (GV b)] h (.bool (shape b)):=by
 refine ACalls.pure0 rfl ?_
 refine acN Tryz.func131 rfl ?_
 show awp _ _ _ _ _ (D8 _ [.tmp 2] _)
 simp -implicitDefEqProofs only [BC,BP,BA,A8,AY,BB,BK,BV,CO,AO,AQ,AL,BD,AX,AC,AA,AZ,AU,BH,BM,BG,A7,FM,BX,BQ,BN,D6,CB,AB,ET,BF,↓reduceIte,jC,jG,jA,jB,enP,AJY,TM,WU,bxB,DV AOI,DV YR,DV ag3,YI,ADH,ADG,jI]
 refine U7 (fun F H=>F 7 = .bool (b.kind != 0 && b.kind != 1 && b.kind != 2)∧F 1 = .ptr h.length 0 0∧F 3 = .int .i64 b.steps.length∧H=h ++ [.live 4 [GV b]]) ?_ ?_
 ·refine JE (fun ha => ?_) (fun ha => ?_)
  ·simp -implicitDefEqProofs only [AY,BK,BV,CO,FY,AO,AQ,AL,BD,AX,AC,AA,AZ,AU,BH,BM,BG,CP,DL,BX,BQ,BN,AB,ET,↓reduceIte,jC,jG,jA,jB,enP,TM,ha,DV ag3,YI]
   refine JE (fun hb => ?_) (fun hb => ?_)
   ·simp -implicitDefEqProofs only [AY,BB,BK,BV,CO,FY,AO,AQ,AL,BD,AX,AC,AA,AZ,AU,BH,BM,A7,CP,DL,BX,BQ,BN,AB,ET,↓reduceIte,jC,jG,jA,jB,enP,TM,hb,DV ag3,YI]
    exact ⟨rfl,trivial,trivial,trivial⟩
   ·simp -implicitDefEqProofs only [AY,BB,BK,BV,CO,JD,AO,AQ,AL,BD,AX,AC,AA,EK,AZ,AU,BM,A7,CP,DN,↓reduceIte,jC,jA,jB,hb]
    exact ⟨rfl,trivial,trivial,trivial⟩
  ·simp -implicitDefEqProofs only [AY,BB,BK,BV,CO,JD,AO,AQ,AL,BD,AX,AC,AA,EK,AZ,AU,BM,BG,A7,CP,DN,↓reduceIte,jC,jA,jB,ha]
   exact ⟨rfl,trivial,trivial,trivial⟩
 rintro F H ⟨f7,f1,f3,rfl⟩
 simp -implicitDefEqProofs only [BI,A8,AZ,f7,f1,f3]
 refine CV (fun hk => ?_) (fun hk => ?_)
 ·simp -implicitDefEqProofs only [BC,BA,BJ,A8,CQ,ED,CJ,AY,BB,AO,AQ,AL,BD,AX,AC,AA,AU,BM,A7,↓reduceIte,jA,jB]
  exact ⟨by unfold shape; rw [if_pos hk],_,rfl⟩
 have hk' : ¬ (b.kind != 0 && b.kind != 1 && b.kind != 2)=true:=by rw [hk]; simp
 simp -implicitDefEqProofs only [BC,BA,BI,A8,AY,BB,AO,AQ,AL,BD,AX,AC,AA,AZ,AU,BH,BG,A7,BQ,AB,DR,↓reduceIte,jA,jB,enP,f1,f3]
 refine CV (fun hs => ?_) (fun hs => ?_)
 ·simp -implicitDefEqProofs only [BC,BA,BJ,A8,CQ,ED,CJ,AY,BB,AO,AQ,AL,BD,AX,AC,AA,AZ,AU,BH,A7,BX,BQ,BN,D6,AB,FD,↓reduceIte,jC,jG,jA,jB,enP,RJ,TL,f1,DV YR,ADH,jI]
  exact ⟨by unfold shape; rw [if_neg hk',if_pos hs],_,rfl⟩
 have hs' : ¬ ((b.steps.length:Int) == 0)=true:=by rw [hs]; simp
 simp -implicitDefEqProofs only [BC,BA,AY,BK,BV,CO,AO,AQ,AL,BD,AX,AC,AA,AZ,AU,BH,BG,BX,BQ,BN,D6,AB,FD,↓reduceIte,jC,jG,jA,jB,enP,RJ,TL,f1,f3,DV YR,ADH,jI]
 refine U7 (fun F H=>F 28 = .bool (decide ((b.ranges.l.length:Int) > 0) || b.kind != 0 || decide ((b.steps.length:Int) < 2) || decide ((b.steps.length:Int) > 8))∧F 1 = .ptr h.length 0 0∧H=h ++ [.live 4 [GV b]]) ?_ ?_
 ·refine JE (fun ha => ?_) (fun ha => ?_)
  ·simp -implicitDefEqProofs only [Bool.true_or,AY,BB,BK,BV,CO,FI,AO,AQ,AL,BD,AX,AC,AA,EK,AZ,AU,BM,BG,A7,CP,DL,↓reduceIte,jC,jA,jB,ha,f1]
   exact ⟨trivial,trivial,trivial⟩
  simp -implicitDefEqProofs only [wZ,AY,BK,BV,CO,EF,AO,AQ,AL,BD,AX,AC,AA,AZ,AU,BH,BM,BG,CP,DN,BX,BQ,BN,AB,ET,↓reduceIte,jC,jG,jA,jB,enP,TM,ha,f1,DV ag3,YI]
  refine JE (fun hb => ?_) (fun hb => ?_)
  ·simp -implicitDefEqProofs only [Bool.true_or,AY,BB,BK,BV,CO,FI,AO,AQ,AL,BD,AX,AC,AA,EK,AZ,AU,BM,BG,A7,CP,DL,↓reduceIte,jC,jA,jB,hb,f1]
   exact ⟨trivial,trivial,trivial⟩
  simp -implicitDefEqProofs only [wZ,AY,BK,BV,CO,EF,AO,AQ,AL,BD,AX,AC,AA,AZ,AU,BH,BM,BG,CP,DN,BQ,AB,C9,↓reduceIte,jC,jA,jB,enP,hb,f1,f3]
  refine JE (fun hc => ?_) (fun hc => ?_)
  ·simp -implicitDefEqProofs only [Bool.true_or,AY,BB,BK,BV,CO,FI,AO,AQ,AL,BD,AX,AC,AA,EK,AZ,AU,BM,A7,CP,DL,↓reduceIte,jC,jA,jB,hc,f1]
   exact ⟨trivial,trivial,trivial⟩
  ·simp -implicitDefEqProofs only [wZ,AY,BB,BK,BV,CO,EF,AO,AQ,AL,BD,AX,AC,AA,AZ,AU,BH,BM,BG,A7,CP,DN,BQ,AB,FD,↓reduceIte,jC,jA,jB,enP,hc,f1,f3]
   exact ⟨trivial,trivial,trivial⟩
 rintro F H ⟨f28,f1,rfl⟩
 simp -implicitDefEqProofs only [BI,A8,AZ,f28,f1]
 refine CV (fun ho => ?_) (fun ho => ?_)
 ·simp -implicitDefEqProofs only [BC,BA,BJ,A8,CQ,ED,CJ,AY,BB,AO,AQ,AL,BD,AX,AC,AA,AU,BM,A7,↓reduceIte,jA,jB]
  exact ⟨by unfold shape; rw [if_neg hk',if_neg hs',if_pos ho],_,rfl⟩
 have ho' : ¬ (decide ((b.ranges.l.length:Int) > 0) || b.kind != 0 || decide ((b.steps.length:Int) < 2) || decide ((b.steps.length:Int) > 8))=true:=by rw [ho]; simp
 simp -implicitDefEqProofs only [BC,BA,BR,A8,EH,AY,AO,AQ,AL,BD,AX,AC,AA,AZ,BU,BX,BN,BZ,BO,AB,jE,jD,jF,↓reduceIte,jG,jA,jB,enP,WU,f1,DV AOI,ADG]
 refine (ADK G b.steps b.sm 176 [] (fun l=>decide (l.l.length=0)) _ hl fun r=>AV7 G r _).use ?_
 simp -implicitDefEqProofs only [BJ,A8,CJ,AY,BB,AO,AQ,AL,BD,AX,AC,AA,AZ,A7,GU,AB,EP,↓reduceIte,jA,jB]
 exact ⟨by unfold shape; rw [if_neg hk',if_neg hs',if_neg ho'],_,rfl⟩
theorem AIC {b:Bin} (h:IB b.name=false):IZ b=7:=by unfold IZ; rw [h]; rfl
theorem AGC {b:Bin} (h:IB b.name=true) (hs:MV b=true):IZ b=1:=by unfold IZ; rw [h,hs]; rfl
theorem AGD {b:Bin} (h:IB b.name=true) (hs:b.steps.any (fun l=>decide (l.l.length=0))=true):IZ b=1:=by
 unfold IZ; rw [h,hs]; cases MV b <;> rfl
theorem AAD {b:Bin} (h:IB b.name=true) (hs:MV b=false) (he:b.steps.any (fun l=>decide (l.l.length=0))=false) :
  IZ b=if (sets b).any (fun l=>decide (l.l.length > 64)) then 2 else if (sets b).any (fun l=>l.l.any bad) then 1 else 0:=by
 unfold IZ; rw [h,hs,he]; rfl
structure BinOk (b:Bin):Prop where
 num:(sets b).length≤1099511627776
 name:b.name.size≤1099511627776
 steps:b.steps.length≤1099511627776
 sets : ∀ l∈sets b,l.l.length≤1099511627776
theorem AI8 (xs:List Rng):decide (JJ xs=2)=decide (xs.length > 64):=by
 unfold JJ
 split
 ·simp_all
 ·split <;> simp_all
theorem AAF (xs:List Rng):decide (JJ xs=1)=(decide (¬ xs.length > 64) && xs.any bad):=by
 unfold JJ
 split
 ·rename_i h; simp [h]
 ·rename_i h
  split
  ·rename_i h2; simp only [h2,h]; rfl
  ·rename_i h2; simp only [Bool.not_eq_true] at h2; simp only [h2]; simp
theorem ATI {b:Bin} (h:IB b.name=true) (hs:MV b=false) (he:b.steps.any (fun l=>decide (l.l.length=0))=false) :
  IZ b=if (sets b).any (fun l=>decide (JJ l.l=2)) then 2 else if (sets b).any (fun l=>decide (JJ l.l=1)) then 1 else 0:=by
 rw [AAD h hs he]
 simp only [AI8]
 split
 ·rfl
 ·rename_i hn
  have:(sets b).any (fun l=>decide (JJ l.l=1))=(sets b).any (fun l=>l.l.any bad):=by
   rw [qP,qC,qC]
   constructor
   ·rintro ⟨l,h1,h2⟩
    rw [AAF] at h2
    simp only [jU] at h2
    exact ⟨l,h1,h2.2⟩
   ·rintro ⟨l,h1,h2⟩
    refine ⟨l,h1,?_⟩
    rw [AAF,h2]
    rw [Bool.not_eq_true,wS] at hn
    have:=hn l h1
    simp only [decide_eq_true_eq] at this
    simp only [this,not_false_eq_true,decide_true,Bool.and_self]
  rw [this]
theorem ALT {α:Type} (p:α→Bool) (xs:List α) (k:Nat) (h:k < xs.length):(xs.take (k+1)).any p=((xs.take k).any p || p xs[k]):=by
 rw [zN h,List.any_append,List.any_cons,List.any_nil,Bool.or_false]
theorem valid_prog (G:Nat→AV) (hG:KwG G) (b:Bin) (hb:BinOk b) (h:Hp):PCall (En G) 83 [.agg (GV b)] h (.int .i64 (IZ b)):=by
 refine ACalls.pure0 rfl ?_
 refine acN Tryz.func83 rfl ?_
 show awp _ _ _ _ _ (D8 _ [.tmp 2] _)
 simp -implicitDefEqProofs only [BC,BA,A8,AY,BB,AO,AQ,AL,BD,AX,AC,AA,AZ,AU,BU,BH,A7,FM,BX,BN,BZ,BO,CB,AB,BF,jE,jD,jF,↓reduceIte,jC,jM,jA,jB,enP,ANO,bxB,DV ag9,AV6]
 refine (NU G hG b.name _ hb.name).use ?_
 simp -implicitDefEqProofs only [BI,A8,AY,BB,AO,AQ,AL,BD,AX,AC,AA,AZ,GU,AB,EP,↓reduceIte,jA,jB]
 refine CV (fun hn => ?_) (fun hn => ?_)
 ·simp -implicitDefEqProofs only [BC,BA,BJ,A8,CQ,CJ,AY,BB,AO,AQ,AL,BD,AX,AC,AA,AU,BH,A7,↓reduceIte,jA,jB]
  exact ⟨by rw [AIC (by simpa using hn)],_,rfl⟩
 have hn':IB b.name=true:=by simpa using hn
 simp -implicitDefEqProofs only [BC,BA,BR,A8,AY,AO,AQ,AL,BD,AX,AC,AA,AZ,BU,BX,BZ,BO,AB,jE,jD,jF,↓reduceIte,jC,jA,jB,enP,ldB]
 refine (AML G b _ hb.steps).use ?_
 simp -implicitDefEqProofs only [BI,A8,AY,BB,AO,AQ,AL,BD,AX,AC,AA,AZ,GU,AB,EP,↓reduceIte,jA,jB]
 refine CV (fun hs => ?_) (fun hs => ?_)
 ·simp -implicitDefEqProofs only [BC,BA,BJ,A8,CQ,CJ,AY,BB,AO,AQ,AL,BD,AX,AC,AA,AU,BH,A7,↓reduceIte,jA,jB]
  refine ⟨?_,_,rfl⟩
  have h1:shape b=false:=by simpa using hs
  rw [AIU] at h1
  cases hr:MV b with
  | true=>rw [AGC hn' hr]
  | false =>
    rw [hr] at h1
    rw [AGD hn' (by simpa using h1)]
 have h1:shape b=true:=by simpa using hs
 rw [AIU] at h1
 simp only [jU,Bool.not_eq_true'] at h1
 have hv:=AAD hn' h1.1 h1.2
 simp -implicitDefEqProofs only [BC,BA,BR,A8,AY,BB,AO,AQ,AL,BD,AX,AC,AA,AZ,AU,BU,BM,A7,BX,BZ,BO,AB,jE,jD,jF,↓reduceIte,jC,jA,jB,enP,ldB]
 refine (AE4 G b _).use ?_
 simp -implicitDefEqProofs only [BP,A8,AY,BB,AO,AQ,AL,BD,AX,AC,AA,AZ,AU,BH,BG,D6,AB,↓reduceIte,jA,jB,enP,AJY,jI]
 refine DY (fun n F H => ∃ k,n+k=(sets b).length∧F 3 = .bool (((sets b).take k).any fun l=>decide (JJ l.l=2))∧F 4 = .bool (((sets b).take k).any fun l=>decide (JJ l.l=1))∧F 15 = .sl (AE5 b) 1 ((sets b).map encS)∧F 16 = .int .i64 (sets b).length∧F 17 = .int .i64 (k:Nat)∧H=h ++ [.live 4 [GV b]]) (sets b).length ⟨0,by simp,rfl,rfl,rfl,rfl,rfl,rfl⟩ ?_
 rintro n F H ⟨k,hk,f3,f4,f15,f16,f17,rfl⟩
 simp -implicitDefEqProofs only [BC,BA,BI,A8,AY,BB,AO,AQ,AL,BD,AX,AC,AA,AZ,BQ,AB,C9,↓reduceIte,jA,jB,enP,f15,f16,f17]
 refine CV (fun hc => ?_) (fun hc => ?_)
 ·have hc':k < (sets b).length:=by simpa using hc
  simp -implicitDefEqProofs only [BC,BP,BA,BR,A8,AY,BB,AO,AQ,AL,BD,AX,AC,AA,AZ,BU,BG,A7,BX,CG,BZ,BO,AB,jE,jD,jF,↓reduceIte,jC,jA,jB,enP,AVD,f15,f17,D7 hc',DZ YR hc',AKY]
  refine (AI7 G _ _ _ (hb.sets _ (List.getElem_mem hc'))).use ?_
  have t2:=ALT (fun l:Rs=>decide (JJ l.l=2)) (sets b) k hc'
  have t1:=ALT (fun l:Rs=>decide (JJ l.l=1)) (sets b) k hc'
  simp -implicitDefEqProofs only [BC,BP,BA,BI,A8,AY,BB,AO,AQ,AL,BD,AX,AC,AA,AZ,AU,BH,A7,BQ,AB,DR,↓reduceIte,jA,jB,enP]
  refine CV (fun hd => ?_) (fun hd => ?_)
  ·have hd':JJ (sets b)[k].l=2:=by simpa using hd
   simp -implicitDefEqProofs only [BA,A8,EH,ER,AY,BB,AO,AQ,AL,BD,AX,AC,AA,AZ,AU,BH,BM,BG,A7,BQ,AB,DK,↓reduceIte,jC,jA,jB,enP,f17,wrap_succ (show k < 9223372036854775807 by have:=hb.num; omega)]
   refine ⟨n - 1,by omega,k+1,by omega,?_,?_,f15,f16,rfl,trivial⟩
   ·rw [t2,hd']; simp
   ·rw [f4,t1,hd']; simp
  simp -implicitDefEqProofs only [BC,BA,BI,A8,AY,BB,AO,AQ,AL,BD,AX,AC,AA,AZ,AU,BH,A7,BQ,AB,DR,↓reduceIte,jC,jA,jB,enP]
  refine CV (fun he => ?_) (fun he => ?_)
  ·have he':JJ (sets b)[k].l=1:=by simpa using he
   simp -implicitDefEqProofs only [BA,A8,EH,ER,AY,BB,AO,AQ,AL,BD,AX,AC,AA,AZ,AU,BH,BM,BG,A7,BQ,AB,DK,↓reduceIte,jC,jA,jB,enP,f17,wrap_succ (show k < 9223372036854775807 by have:=hb.num; omega)]
   refine ⟨n - 1,by omega,k+1,by omega,?_,?_,f15,f16,rfl,trivial⟩
   ·rw [f3,t2,he']; simp
   ·rw [t1,he']; simp
  ·have hd':JJ (sets b)[k].l≠2:=by simpa using hd
   have he':JJ (sets b)[k].l≠1:=by simpa using he
   simp -implicitDefEqProofs only [BA,BR,A8,EH,ER,AY,BB,AO,AQ,AL,BD,AX,AC,AA,AZ,AU,BH,BG,BQ,AB,DK,↓reduceIte,jC,jA,jB,enP,f17,wrap_succ (show k < 9223372036854775807 by have:=hb.num; omega)]
   refine ⟨n - 1,by omega,k+1,by omega,?_,?_,f15,f16,rfl,trivial⟩
   ·rw [f3,t2]; simp [hd']
   ·rw [f4,t1]; simp [he']
 ·have hc' : ¬ k < (sets b).length:=by simpa using hc
  rw [jW (by omega)] at f3 f4
  have hE:=ATI hn' h1.1 h1.2
  simp -implicitDefEqProofs only [BC,BP,BA,DW,BI,A8,EG,EY,EZ,AY,BB,AO,AQ,AL,BD,AX,AC,AA,AZ,BG,A7,↓reduceIte,jC,jA,jB,f3,f4]
  refine CV (fun hd => ?_) (fun hd => ?_)
  ·simp -implicitDefEqProofs only [BC,BA,BJ,A8,CQ,ED,CJ,AY,BB,AO,AQ,AL,BD,AX,AC,AA,AU,BH,A7,↓reduceIte,jA,jB]
   exact ⟨by rw [hE,if_pos hd],_,rfl⟩
  simp -implicitDefEqProofs only [BC,BA,BI,A8,AY,BB,AO,AQ,AL,BD,AX,AC,AA,AZ,BG,A7,↓reduceIte,jC,jA,jB,f4]
  refine CV (fun he => ?_) (fun he => ?_)
  ·simp -implicitDefEqProofs only [BC,BA,BJ,A8,CQ,ED,CJ,AY,BB,AO,AQ,AL,BD,AX,AC,AA,AU,BH,A7,↓reduceIte,jA,jB]
   exact ⟨by rw [hE,if_neg (by rw [hd]; simp),if_pos he],_,rfl⟩
  ·simp -implicitDefEqProofs only [BC,BA,BR,BJ,A8,EH,CJ,AY,BB,AO,AQ,AL,BD,AX,AC,AA,AU,BH,A7,↓reduceIte,jA,jB]
   exact ⟨by rw [hE,if_neg (by rw [hd]; simp),if_neg (by rw [he]; simp)],_,rfl⟩
end Go.Proofs.YtfpagfhhhlljjaaGreatDoor.Bins
namespace Go.Proofs.YtfpagfhhhlljjaaGreatDoor.Cov
open Sm Bins
open Bool renaming not_false→jB
open Int renaming reduceBEq→zD
open List renaming drop_zero→zO,take_of_length_le→jW
open Nat renaming le_refl→jK,le_of_ble_eq_true→jH,reduceEqDiff→jC,add_zero→jM
open Option renaming getD_some→jA
inductive Ex where
 | mk (op n:Int) (name:ByteArray) (m:SM) (args:List Ex)
def Ex.op:Ex→Int | .mk op _ _ _ _=>op
def Ex.n:Ex→Int | .mk _ n _ _ _=>n
def Ex.name:Ex→ByteArray | .mk _ _ name _ _=>name
def Ex.m:Ex→SM | .mk _ _ _ m _=>m
def Ex.args:Ex→List Ex | .mk _ _ _ _ args=>args
mutual
def CY:Ex→List AV
 | .mk op n name m args => [.int .i64 op,.int .i64 n,.str name,.sl m 4 (AKZ args)]
def AKZ:List Ex→List (List AV)
 | [] => []
 | e :: es=>CY e :: AKZ es
end
theorem AFU : ∀ l:List Ex,AKZ l=l.map CY
 | []=>by simp [AKZ]
 | e :: es=>by simp [AKZ,AFU es]
theorem II (e:Ex):CY e = [.int .i64 e.op,.int .i64 e.n,.str e.name,.sl e.m 4 (e.args.map CY)]:=by
 cases e; simp [CY,AFU,Ex.op,Ex.n,Ex.name,Ex.m,Ex.args]
theorem H7 (e:Ex):(CY e).length=4:=by rw [II]; rfl
theorem J4 (e:Ex):(CY e)[0]? = some (.int .i64 e.op):=by rw [II]; rfl
theorem YH (e:Ex):(CY e)[1]? = some (.int .i64 e.n):=by rw [II]; rfl
theorem PO (e:Ex):(CY e)[2]? = some (.str e.name):=by rw [II]; rfl
theorem YG (e:Ex):(CY e)[3]? = some (.sl e.m 4 (e.args.map CY)):=by rw [II]; rfl
theorem ZT (e:Ex):(CY e).all AV.leaf=true:=by rw [II]; rfl
theorem bxE (h:Hp) (e:Ex):OT h (.agg (CY e))=some (.ptr h.length 0 0,h ++ [.live 4 [CY e]]):=by
 have:=TQ (h:=h) (ZT e)
 rw [H7] at this; exact this
theorem ldE (h:Hp) (e:Ex):DX Tryz.prog (h ++ [.live 4 [CY e]]) 48 (.ptr h.length 0 0)=some (.agg (CY e)):=by
 rw [RZ U4 MM (by rw [H7]; exact jK 4)]
 rw [zO,jW (by rw [H7]; exact jK 4)]
theorem MG {h:Hp} {b:Nat} {e:Ex} (hb:h[b]? = some (.live 4 [CY e])):DX Tryz.prog h 48 (.ptr b 0 0)=some (.agg (CY e)):=by
 rw [G8 U4 MM hb rfl (by rw [H7]; exact jK 4)]
 rw [zO,jW (by rw [H7]; exact jK 4)]
mutual
def pre:Ex→List Ex
 | .mk op n name m args => .mk op n name m args :: IQ args
def IQ:List Ex→List Ex
 | [] => []
 | e :: es=>pre e ++ IQ es
end
mutual
def dep:Ex→Nat
 | .mk _ _ _ _ args=>deps args+1
def deps:List Ex→Nat
 | []=>0
 | e :: es=>max (dep e) (deps es)
end
mutual
def wt:Ex→Nat
 | .mk _ _ name _ args=>name.size+1+wts args
def wts:List Ex→Nat
 | []=>0
 | e :: es=>wt e+wts es
end
theorem pre_eq (e:Ex):pre e=e :: IQ e.args:=by cases e; simp [pre,Ex.args]
theorem AHH (e:Ex):dep e=deps e.args+1:=by cases e; simp [dep,Ex.args]
theorem L9 (e:Ex):wt e=e.name.size+1+wts e.args:=by cases e; simp [wt,Ex.args,Ex.name]
theorem PE (xs ys:List Ex):IQ (xs ++ ys)=IQ xs ++ IQ ys:=by
 induction xs with
 | nil=>simp [IQ]
 | cons x xs ih=>simp [IQ,ih]
theorem SY (xs:List Ex):xs.length≤wts xs:=by
 induction xs with
 | nil=>simp [wts]
 | cons x xs ih=>have:=L9 x; simp [wts]; omega
theorem SX {xs:List Ex} {x:Ex} (h:x∈xs):wt x≤wts xs:=by
 induction xs with
 | nil=>cases h
 | cons y ys ih =>
   simp only [wts]
   cases List.mem_cons.1 h with
   | inl e=>subst e; omega
   | inr e=>have:=ih e; omega
theorem AFV (xs:List Ex) (k:Nat) (h:k < xs.length):deps (xs.take (k+1))=max (deps (xs.take k)) (dep xs[k]):=by
 induction xs generalizing k with
 | nil=>simp at h
 | cons x xs ih =>
   cases k with
   | zero=>simp [deps]
   | succ k =>
     simp only [List.take_succ_cons,deps,List.getElem_cons_succ]
     rw [ih k (by simpa using h),Nat.max_assoc]
theorem Ex.induct {P:Ex→Prop} (h : ∀ e:Ex,(∀ a∈e.args,P a)→P e) (e:Ex):P e:=by
 have : ∀ n (e:Ex),wt e≤n→P e:=by
  intro n
  induction n with
  | zero=>intro e he; have:=L9 e; omega
  | succ n ih =>
    intro e he
    refine h e fun a ha=>ih a ?_
    have h1:=SX ha
    have h2:=L9 e
    omega
 exact this _ e (jK _)
theorem AWB (e:Ex):dep e≤wt e:=by
 refine Ex.induct (P:=fun e=>dep e≤wt e) (fun e ih => ?_) e
 rw [AHH,L9]
 have:deps e.args≤wts e.args:=by
  generalize e.args=l at ih
  induction l with
  | nil=>simp [deps,wts]
  | cons x l ih2 =>
    have h1:=ih x (by simp)
    have h2:=ih2 (fun a ha=>ih a (by simp [ha]))
    simp only [deps,wts]; omega
 omega
theorem AGM (e:Ex):(pre e).length≤wt e:=by
 refine Ex.induct (P:=fun e=>(pre e).length≤wt e) (fun e ih => ?_) e
 rw [pre_eq,L9]
 have:(IQ e.args).length≤wts e.args:=by
  generalize e.args=l at ih
  induction l with
  | nil=>simp [IQ,wts]
  | cons x l ih2 =>
    have h1:=ih x (by simp)
    have h2:=ih2 (fun a ha=>ih a (by simp [ha]))
    simp only [IQ,wts,List.length_append]; omega
 simp; omega
def arity (op:Int):Int:=if op < 1∨op > 25 then -1 else if op=1∨op=2∨op=24 then 0 else if op=3∨op=4∨op=5∨op=6∨op=25 then 1 else if op=22 then 3 else if op=23 then -1 else 2
set_option maxHeartbeats 2000000 in
theorem AOF (G:Nat→AV) (op:Int) (h:Hp):PCall (En G) 149 [.int .i64 op] h (.int .i64 (arity op)):=by
 refine acN Tryz.func149 rfl ?_
 show awp _ _ _ _ _ (D8 _ [.tmp 2] _)
 have hcase:op < 1∨op > 25∨op=1∨op=2∨op=3∨op=4∨op=5∨op=6∨op=7∨op=8∨op=9∨op=10∨op=11∨op=12∨op=13∨op=14∨op=15∨op=16∨op=17∨op=18∨op=19∨op=20∨op=21∨op=22∨op=23∨op=24∨op=25:=by omega
 rcases hcase with h | h | rfl | rfl | rfl | rfl | rfl | rfl | rfl | rfl | rfl | rfl | rfl | rfl | rfl | rfl | rfl | rfl | rfl | rfl | rfl | rfl | rfl | rfl | rfl | rfl | rfl
 ·have hne : ∀ k:Int,1≤k→(op == k)=false:=fun k hk=>beq_eq_false_iff_ne.2 (by omega)
  have hd:decide (op < 1)=true:=by simp; omega
  have ha:arity op = -1:=by unfold arity; rw [if_pos (Or.inl h)]
  rw [ha]
  simp -implicitDefEqProofs only [BC,BP,BA,BR,BJ,BI,A8,CQ,EH,CJ,CZ,DI,AY,BB,BK,BV,CO,FI,AO,AQ,AL,BD,AX,AC,AA,EK,AZ,AU,BH,BM,BG,A7,CP,DL,BQ,AB,DR,C9,BF,↓reduceIte,jC,jA,jB,enP,hne 1 (by decide),hne 2 (by decide),hne 3 (by decide),hne 4 (by decide),hne 5 (by decide),hne 6 (by decide),hne 7 (by decide),hne 8 (by decide),hne 9 (by decide),hne 10 (by decide),hne 11 (by decide),hne 12 (by decide),hne 13 (by decide),hne 14 (by decide),hne 15 (by decide),hne 16 (by decide),hne 17 (by decide),hne 18 (by decide),hne 19 (by decide),hne 20 (by decide),hne 21 (by decide),hne 22 (by decide),hne 23 (by decide),hne 24 (by decide),hne 25 (by decide),hd]
  exact ⟨trivial,trivial⟩
 ·have hne : ∀ k:Int,k≤25→(op == k)=false:=fun k hk=>beq_eq_false_iff_ne.2 (by omega)
  have hd:decide (op < 1)=false:=by simp; omega
  have hd2:decide (op > 25)=true:=by simp; omega
  have ha:arity op = -1:=by unfold arity; rw [if_pos (Or.inr h)]
  rw [ha]
  simp -implicitDefEqProofs only [BC,BP,BA,BR,BJ,BI,A8,CQ,EH,CJ,CZ,DI,AY,BB,BK,BV,CO,EF,AO,AQ,AL,BD,AX,AC,AA,AZ,AU,BH,BM,BG,A7,CP,DN,BQ,AB,DR,C9,FD,BF,↓reduceIte,jC,jA,jB,enP,hne 1 (by decide),hne 2 (by decide),hne 3 (by decide),hne 4 (by decide),hne 5 (by decide),hne 6 (by decide),hne 7 (by decide),hne 8 (by decide),hne 9 (by decide),hne 10 (by decide),hne 11 (by decide),hne 12 (by decide),hne 13 (by decide),hne 14 (by decide),hne 15 (by decide),hne 16 (by decide),hne 17 (by decide),hne 18 (by decide),hne 19 (by decide),hne 20 (by decide),hne 21 (by decide),hne 22 (by decide),hne 23 (by decide),hne 24 (by decide),hne 25 (by decide),hd,hd2]
  exact ⟨trivial,trivial⟩
 all_goals
  simp -implicitDefEqProofs only [BC,BP,BA,BR,BJ,BI,A8,CQ,EH,ED,CJ,CZ,DI,AY,BB,BK,BV,CO,EF,AO,AQ,AL,BD,AX,AC,AA,AZ,AU,BH,BM,BG,A7,CP,DN,BQ,AB,DR,C9,FD,BF,↓reduceIte,jC,jA,jB,decide_false,enP,zD,Int.reduceLT,Int.reduceGT]
  exact ⟨rfl,trivial⟩
set_option maxHeartbeats 2000000 in
theorem ASY (G:Nat→AV) (op:Int) (h:Hp):PCall (En G) 186 [.int .i64 op] h (.int .i64 (arity op)):=by
 refine acN Tryz.func186 rfl ?_
 show awp _ _ _ _ _ (D8 _ [.tmp 2] _)
 have hcase:op < 1∨op > 25∨op=1∨op=2∨op=3∨op=4∨op=5∨op=6∨op=7∨op=8∨op=9∨op=10∨op=11∨op=12∨op=13∨op=14∨op=15∨op=16∨op=17∨op=18∨op=19∨op=20∨op=21∨op=22∨op=23∨op=24∨op=25:=by omega
 rcases hcase with h | h | rfl | rfl | rfl | rfl | rfl | rfl | rfl | rfl | rfl | rfl | rfl | rfl | rfl | rfl | rfl | rfl | rfl | rfl | rfl | rfl | rfl | rfl | rfl | rfl | rfl
 ·have hne : ∀ k:Int,1≤k→(op == k)=false:=fun k hk=>beq_eq_false_iff_ne.2 (by omega)
  have hd:decide (op < 1)=true:=by simp; omega
  have ha:arity op = -1:=by unfold arity; rw [if_pos (Or.inl h)]
  rw [ha]
  simp -implicitDefEqProofs only [BC,BP,BA,BR,BJ,BI,A8,CQ,EH,CJ,CZ,DI,AY,BB,BK,BV,CO,FI,AO,AQ,AL,BD,AX,AC,AA,EK,AZ,AU,BH,BM,BG,A7,CP,DL,BQ,AB,DR,C9,BF,↓reduceIte,jC,jA,jB,enP,hne 1 (by decide),hne 2 (by decide),hne 3 (by decide),hne 4 (by decide),hne 5 (by decide),hne 6 (by decide),hne 7 (by decide),hne 8 (by decide),hne 9 (by decide),hne 10 (by decide),hne 11 (by decide),hne 12 (by decide),hne 13 (by decide),hne 14 (by decide),hne 15 (by decide),hne 16 (by decide),hne 17 (by decide),hne 18 (by decide),hne 19 (by decide),hne 20 (by decide),hne 21 (by decide),hne 22 (by decide),hne 23 (by decide),hne 24 (by decide),hne 25 (by decide),hd]
  exact ⟨trivial,trivial⟩
 ·have hne : ∀ k:Int,k≤25→(op == k)=false:=fun k hk=>beq_eq_false_iff_ne.2 (by omega)
  have hd:decide (op < 1)=false:=by simp; omega
  have hd2:decide (op > 25)=true:=by simp; omega
  have ha:arity op = -1:=by unfold arity; rw [if_pos (Or.inr h)]
  rw [ha]
  simp -implicitDefEqProofs only [BC,BP,BA,BR,BJ,BI,A8,CQ,EH,CJ,CZ,DI,AY,BB,BK,BV,CO,EF,AO,AQ,AL,BD,AX,AC,AA,AZ,AU,BH,BM,BG,A7,CP,DN,BQ,AB,DR,C9,FD,BF,↓reduceIte,jC,jA,jB,enP,hne 1 (by decide),hne 2 (by decide),hne 3 (by decide),hne 4 (by decide),hne 5 (by decide),hne 6 (by decide),hne 7 (by decide),hne 8 (by decide),hne 9 (by decide),hne 10 (by decide),hne 11 (by decide),hne 12 (by decide),hne 13 (by decide),hne 14 (by decide),hne 15 (by decide),hne 16 (by decide),hne 17 (by decide),hne 18 (by decide),hne 19 (by decide),hne 20 (by decide),hne 21 (by decide),hne 22 (by decide),hne 23 (by decide),hne 24 (by decide),hne 25 (by decide),hd,hd2]
  exact ⟨trivial,trivial⟩
 all_goals
  simp -implicitDefEqProofs only [BC,BP,BA,BR,BJ,BI,A8,CQ,ED,CJ,CZ,DI,AY,BB,AO,AQ,AL,BD,AX,AC,AA,AZ,AU,BH,BG,A7,BQ,AB,DR,BF,↓reduceIte,jC,jA,jB,enP,zD,Int.reduceLT,Int.reduceGT]
  exact ⟨rfl,trivial⟩
def KR (op:Int):Bool:=op == 2 || op == 3 || op == 24
theorem VE (G:Nat→AV) (op:Int) (h:Hp):PCall (En G) 185 [.int .i64 op] h (.bool (KR op)):=by
 refine acN Tryz.func185 rfl ?_
 show awp _ _ _ _ _ (D8 _ [.tmp 2] _)
 simp -implicitDefEqProofs only [BC,BA,A8,AY,BB,BK,BV,CO,AO,AQ,AL,BD,AX,AC,AA,AZ,AU,BH,BM,BG,A7,BQ,AB,DR,BF,↓reduceIte,jC,jA,jB,enP]
 cases ha:(op == 2) <;> cases hb:(op == 3)
 all_goals
  simp -implicitDefEqProofs only [BJ,A8,CJ,AY,BB,BK,BV,CO,EF,FI,AO,AQ,AL,BD,AX,AC,AA,EK,AZ,AU,BH,BM,BG,A7,CP,DL,DN,BQ,AB,DR,BF,↓reduceIte,jC,jA,jB,enP,ha,hb]
  exact ⟨by simp [KR,ha,hb],trivial⟩
def Y8 (op:Int) (n:Nat):Bool:=if op == 23 then ((n:Int) % 2 == 1) && decide ((n:Int)≥3) && decide ((n:Int)≤33) else ((n:Int) == arity op)
theorem AED (G:Nat→AV) (e:Ex) (h:Hp):PCall (En G) 105 [.agg (CY e)] h (.bool (Y8 e.op e.args.length)):=by
 refine ACalls.pure0 rfl ?_
 refine acN Tryz.func105 rfl ?_
 show awp _ _ _ _ _ (D8 _ [.tmp 2] _)
 simp -implicitDefEqProofs only [BC,BA,BI,A8,AY,BB,AO,AQ,AL,BD,AX,AC,AA,AZ,AU,BH,BM,A7,FM,BX,BQ,BN,D6,CB,AB,DR,BF,↓reduceIte,jC,jM,Nat.zero_add,jA,jB,enP,TW,HY,MR,bxE,DV RQ,DV ag3,YG,J4,List.length_map]
 generalize he:e.args.length=n
 have hm:(n:Int).tmod 2=(n:Int) % 2:=Int.tmod_eq_emod_of_nonneg (by omega)
 have b1:JB Tryz.prog 3 .rem (.int .i64 (n:Int)) (.int .i64 2)=some (.int .i64 ((n:Int) % 2)):=by rw [ABF _ _ _ _ _ (by decide),hm]
 refine CV (fun hc => ?_) (fun hc => ?_)
 ·simp -implicitDefEqProofs only [BC,BA,AY,BK,BV,CO,AO,AQ,AL,BD,AX,AC,AA,AZ,AU,BH,BG,BQ,AB,DR,↓reduceIte,jC,jA,jB,enP,b1]
  cases ha:((n:Int) % 2 == 1) <;> cases hb:decide ((n:Int)≥3)
  all_goals
   simp -implicitDefEqProofs only [BJ,A8,CQ,CJ,AY,BB,BK,BV,CO,FY,JD,AO,AQ,AL,BD,AX,AC,AA,EK,AZ,AU,BH,BM,BG,A7,CP,DL,DN,BQ,AB,IJ,FX,↓reduceIte,jC,jA,jB,enP,ha,hb]
   exact ⟨by unfold Y8; rw [if_pos hc,ha,hb]; simp,_,rfl⟩
 ·simp -implicitDefEqProofs only [BC,BA,BR,A8,AY,AO,AQ,AL,BD,AX,AC,AA,AZ,BU,BG,BX,BN,BZ,BO,AB,List.map_cons,List.map_nil,List.append_nil,↓reduceIte,jC,jM,jA,jB,enP,HY,DV ag3,J4]
  refine (AOF G e.op _).use ?_
  simp -implicitDefEqProofs only [BJ,A8,CJ,AY,BB,AO,AQ,AL,BD,AX,AC,AA,AZ,A7,BQ,AB,DR,↓reduceIte,jC,jA,jB,enP]
  exact ⟨by unfold Y8; rw [if_neg (by rw [hc]; decide)],_,rfl⟩
end Go.Proofs.YtfpagfhhhlljjaaGreatDoor.Cov
namespace Go.Proofs.YtfpagfhhhlljjaaGreatDoor.Cov
open Sm Bins Go.Shelf Go.RowKit
open Bool renaming and_eq_true→jU
open Int renaming toNat_natCast→qG
open List renaming drop_eq_getElem_cons→zQ,getElem?_eq_getElem→jL
def AWF:Go.Shelf.Ren:=⟨fun | 145=>184 | 220=>214 | 219=>242 | 217=>254 | 225=>255 | 224=>256 | 267=>257 | 266=>273 | 314=>274 | n=>n,fun | 9=>9 | 4=>4 | 59=>202 | 3=>3 | 5=>5 | 46=>201 | 146=>253 | 51=>225 | n=>n,fun | 1=>1 | n=>n⟩
theorem A7Z:Go.Proofs.Lays.n145 Tryz.prog AWF := {
 mixed:=by kernel_rfl,
 f145:=Tryz.func184.trans (congrArg some (by kernel_rfl)),
 f217:=Tryz.func254.trans (congrArg some (by kernel_rfl)),
 f219:=Tryz.func242.trans (congrArg some (by kernel_rfl)),
 f220:=Tryz.func214.trans (congrArg some (by kernel_rfl)),
 f224:=Tryz.func256.trans (congrArg some (by kernel_rfl)),
 f225:=Tryz.func255.trans (congrArg some (by kernel_rfl)),
 f266:=Tryz.func273.trans (congrArg some (by kernel_rfl)),
 f267:=Tryz.func257.trans (congrArg some (by kernel_rfl)),
 f314:=Tryz.func274.trans (congrArg some (by kernel_rfl)),
 t3:=Tryz.underlying3,
 a3:=Tryz.isAgg3,
 z3:=Tryz.sizeOf3,
 v3:=Tryz.zeroValue3,
 t4:=Tryz.underlying4,
 a4:=Tryz.isAgg4,
 z4:=Tryz.sizeOf4,
 v4:=Tryz.zeroValue4,
 t5:=Tryz.underlying5,
 a5:=Tryz.isAgg5,
 z5:=Tryz.sizeOf5,
 v5:=Tryz.zeroValue5,
 t9:=Tryz.underlying9,
 a9:=Tryz.isAgg9,
 z9:=Tryz.sizeOf9,
 v9:=Tryz.zeroValue9,
 t46:=Tryz.underlying201,
 a46:=Tryz.isAgg201,
 z46:=Tryz.sizeOf201,
 v46:=Tryz.zeroValue201,
 t51:=Tryz.underlying225,
 a51:=Tryz.isAgg225,
 z51:=Tryz.sizeOf225,
 v51:=Tryz.zeroValue225,
 t59:=Tryz.underlying202,
 a59:=Tryz.isAgg202,
 z59:=Tryz.sizeOf202,
 v59:=Tryz.zeroValue202,
 t146:=Tryz.underlying253,
 a146:=Tryz.isAgg253,
 z146:=Tryz.sizeOf253,
 v146:=Tryz.zeroValue253,
 g1:=by kernel_rfl }
structure GOk (G:Nat→AV):Prop where
 kw:KwG G
 mx : ∃ n,G 1 = .fptr 1 [[.int .i64 n]] 0 0
theorem AVN {G:Nat→AV} {g:Gh} {h:Hp} {w:World} {n:Nat} {k:IntKind} {z:Int} (S:SimH (En G) g h w) (hn:G n = .fptr 1 [[.int k z]] 0 0):w.cell? ⟨n,0,none⟩=some (.int k z):=by
 have:=S.glob n
 rw [enG,hn] at this
 generalize hp:Value.pointer (some ⟨n,0,none⟩)=p at this
 cases this with
 | fptr k' xs i j cb co c e fz cv h1 h2 h3 h4 =>
   simp only [Value.pointer.injEq,Option.some.injEq,Addr.mk.injEq] at hp
   obtain ⟨rfl,hco,_⟩:=hp
   have h5:=h3 0 0 (by simp) (by simp)
   have h6:=h4 0 0 _ _ rfl rfl
   generalize cv 0 0=u at h5 h6
   cases h6
   simp only [World.cell?,S.fro _ _ h1]
   subst hco
   exact h5
def cutV (s:ByteArray):AV := .tup [.str ⟨(Lib.cut s.data.toList [91]).1.toArray⟩,.str ⟨(Lib.cut s.data.toList [91]).2.1.toArray⟩,.bool (Lib.cut s.data.toList [91]).2.2]
theorem AWE (G:Nat→AV) (hG:GOk G) (s:ByteArray) (h:Hp) (hl:s.size≤1048576):PCall (En G) 184 [.str s,.str ⟨#[91]⟩] h (cutV s):=by
 refine PCall.of_reads (cok 184 G (by kernel_rfl)) fun g w cargs S ha => ?_
 obtain ⟨hsz,hget⟩:=ha
 obtain ⟨cv0,cv1,rfl⟩ : ∃ a b,cargs = #[a,b]:=by
  obtain ⟨l⟩:=cargs
  match l,hsz with
  | [a,b],_=>exact ⟨a,b,rfl⟩
 obtain rfl:=(hget 0 _ cv0 rfl rfl).str_inv
 obtain rfl:=(hget 1 _ cv1 rfl rfl).str_inv
 obtain ⟨z,hz⟩:=hG.mx
 have hc:=AVN S hz
 have:=Any.strings_Cut A7Z s ⟨#[91]⟩ z w (by omega) hc
 refine ⟨_,?_,this⟩
 refine .tup _ _ rfl ?_
 intro i v cv h1 h2
 match i,h1,h2 with
 | 0,h1,h2=>simp at h1 h2; subst h1; subst h2; exact .str _ _
 | 1,h1,h2=>simp at h1 h2; subst h1; subst h2; exact .str _ _
 | 2,h1,h2=>simp at h1 h2; subst h1; subst h2; exact .bool _ _
def PG (s:ByteArray):Option (List UInt8 × UInt8) :=
 if 4≤s.data.toList.length then match s.data.toList.drop (s.data.toList.length - 3) with
  | [x,d,y]=>if (y == 93 && x == 91 && decide (48≤d.toNat) && decide (d.toNat < 56) && IB ⟨(s.data.toList.take (s.data.toList.length - 3)).toArray⟩)=true then some (s.data.toList.take (s.data.toList.length - 3),d) else none
  | _=>none
 else none
def elemV (o:Option (List UInt8 × UInt8)):AV:=match o with
 | some (a,d) => .tup [.str ⟨a.toArray⟩,.int .i64 ((d.toNat:Int) - 48),.bool true]
 | none => .tup [.str ⟨#[]⟩,.int .i64 0,.bool false]
theorem APQ {l:List UInt8} (h:IB ⟨l.toArray⟩=true):l≠[]∧∀ b∈l,b≠91:=by
 have hw:RU ⟨l.toArray⟩=true:=by
  unfold IB at h
  exact (Bool.and_eq_true_iff.1 (Bool.and_eq_true_iff.1 h).1).1
 unfold RU at hw
 obtain ⟨h1,h2⟩:=Bool.and_eq_true_iff.1 hw
 refine ⟨?_,?_⟩
 ·intro e; subst e; cases h1
 ·intro b hb e
  subst e
  have:=List.all_eq_true.1 h2 91 hb
  revert this; decide
theorem three {l:List UInt8} (h:3≤l.length) : ∃ a x d y,l=a ++ [x,d,y]:=by
 refine ⟨l.take (l.length - 3),?_⟩
 have h1:(l.drop (l.length - 3)).length=3:=by simp; omega
 match hm:l.drop (l.length - 3),h1 with
 | [x,d,y],_=>exact ⟨x,d,y,by rw [← hm,List.take_append_drop]⟩
theorem ADJ {a:List UInt8} {x d y:UInt8} (ha:a≠[]):PG ⟨(a ++ [x,d,y]).toArray⟩=if (y == 93 && x == 91 && decide (48≤d.toNat) && decide (d.toNat < 56) && IB ⟨a.toArray⟩)=true then some (a,d) else none:=by
 have hl:0 < a.length:=List.length_pos_iff.2 ha
 unfold PG
 simp only
 rw [if_pos (by simp; omega)]
 have e:(a ++ [x,d,y]).length - 3=a.length:=by simp
 rw [e,List.drop_left,List.take_left]
theorem AV8 (s:ByteArray):PG s=if ((Lib.cut s.data.toList [91]).2.2 && IB ⟨(Lib.cut s.data.toList [91]).1.toArray⟩)=true then match (Lib.cut s.data.toList [91]).2.1 with
  | [d,y]=>if (y == 93 && decide (48≤d.toNat) && decide (d.toNat < 56))=true then some ((Lib.cut s.data.toList [91]).1,d) else none
  | _=>none
 else none:=by
 obtain ⟨⟨l⟩⟩:=s
 have hocc : ∀ i,Lib.occAt l [91] i=true↔l[i]? = some 91:=by
  intro i
  unfold Lib.occAt
  rcases Nat.lt_or_ge i l.length with h | h
  ·rw [zQ h,jL h]
   simp [List.isPrefixOf]
   exact eq_comm
  ·rw [List.drop_eq_nil_of_le h,List.getElem?_eq_none h]; simp [List.isPrefixOf]
 -- an element name of the reference's kind
 have main : ∀ a d,a≠[]→IB ⟨a.toArray⟩=true→l=a ++ [91,d,93]→Lib.cut l [91]=(a,[d,93],true):=by
  intro a d ha hn hl
  obtain ⟨_,hne⟩:=APQ hn
  have hi:Lib.index l [91]=(a.length:Int):=by
   refine Lib.index_first (by rw [hl]; simp) ((hocc _).2 (by rw [hl]; simp)) fun j hj => ?_
   rw [← Bool.not_eq_true,hocc,hl,List.getElem?_append_left hj,jL hj]
   intro e
   exact hne _ (List.getElem_mem hj) (Option.some.inj e)
  unfold Lib.cut
  rw [hi,if_pos (by omega),qG,hl,List.take_left,← List.drop_drop,List.drop_left]
  rfl
 show PG ⟨l.toArray⟩=_
 rcases hcase:PG ⟨l.toArray⟩ with _ | ⟨a,d⟩
 ·symm
  show (if _ then _ else none)=none
  simp only
  split
  ·rename_i hb
   rw [jU] at hb
   split
   ·rename_i d y hm
    split
    ·rename_i hd
     exfalso
     simp only [jU,beq_iff_eq,decide_eq_true_eq] at hd
     obtain ⟨⟨rfl,hd1⟩,hd2⟩:=hd
     obtain ⟨ha,_⟩:=APQ hb.2
     have hc:Lib.cut l [91]=((Lib.cut l [91]).1,[d,93],true):=by
      rw [← hm]; have:=hb.1; cases hcc:Lib.cut l [91] with
      | mk p q=>cases q with
        | mk q1 q2=>rw [hcc] at this; simp at this; subst this; rfl
     have hl:l=(Lib.cut l [91]).1 ++ [91,d,93]:=by
      generalize (Lib.cut l [91]).1=b at hc
      unfold Lib.cut at hc
      split at hc
      ·rename_i h0
       obtain ⟨i,hi⟩ : ∃ i:Nat,Lib.index l [91]=i:=⟨(Lib.index l [91]).toNat,by omega⟩
       rw [hi] at hc
       simp only [qG,Prod.mk.injEq,List.length_singleton] at hc
       rcases Lib.index_spec l [91] with ⟨h1,_⟩ | ⟨j,h1,_,h3,_⟩
       ·omega
       ·have hj:i=j:=by omega
        subst hj
        have h4:=(hocc i).1 h3
        have h5:i < l.length:=(List.getElem?_eq_some_iff.1 h4).1
        have h6:l[i]=91:=by rw [jL h5] at h4; exact Option.some.inj h4
        rw [← hc.1]
        calc l=l.take i ++ l.drop i:=(List.take_append_drop i l).symm
         _=l.take i ++ (l[i] :: l.drop (i+1)):=by rw [zQ h5]
         _=l.take i ++ [91,d,93]:=by rw [h6,hc.2.1]
      ·simp at hc
     have:=ADJ (x:=91) (d:=d) (y:=93) ha
     rw [← hl,hcase,if_pos (by simp [hb.2,hd1,hd2])] at this
     cases this
    ·rfl
   ·rfl
  ·rfl
 ·have h4:4≤l.length:=by
   unfold PG at hcase
   simp only at hcase
   split at hcase
   ·assumption
   ·cases hcase
  obtain ⟨b,x,d',y,rfl⟩:=three (show 3≤l.length by omega)
  have hb:b≠[]:=by intro e; subst e; simp at h4
  rw [ADJ hb] at hcase
  split at hcase
  ·rename_i hc
   cases hcase
   simp only [jU,beq_iff_eq,decide_eq_true_eq] at hc
   obtain ⟨⟨⟨⟨rfl,rfl⟩,h1⟩,h2⟩,h3⟩:=hc
   simp only
   rw [main a d hb h3 rfl]
   simp [h3,h1,h2]
  ·cases hcase
end Go.Proofs.YtfpagfhhhlljjaaGreatDoor.Cov
set_option linter.unusedSimpArgs false
set_option maxRecDepth 8000
namespace Go.Proofs.YtfpagfhhhlljjaaGreatDoor.Cov
open Sm Bins Go.RowKit
open Bool renaming not_false→jB,not_true→jV
open List renaming map_cons→jE,map_nil→jD,append_nil→jF,getElem?_cons_zero→zH,getElem?_cons_succ→zL
open Nat renaming le_of_ble_eq_true→jH,reduceEqDiff→jC
open Option renaming getD_some→jA
theorem AZ5 (l:List UInt8):(Lib.cut l [91]).1.length≤l.length:=by
 unfold Lib.cut
 split
 ·simp only [List.length_take]; exact Nat.min_le_right _ _
 ·exact Nat.le_refl _
theorem ixl {l:List UInt8} {k:Nat} {b:UInt8} {i:Int} (hi:i=(k:Int)) (hb:l[k]? = some b):NI Tryz.prog 9 (.str ⟨l.toArray⟩) (.int .i64 i)=some (.int .u8 b.toNat):=by
 subst hi
 have hk:k < l.length:=(List.getElem?_eq_some_iff.1 hb).1
 have:=ix9 ⟨l.toArray⟩ k .i64 hk
 rw [this]
 have h2:(⟨l.toArray⟩:ByteArray)[k]'hk=l[k]:=rfl
 rw [h2]
 rw [List.getElem?_eq_getElem hk] at hb
 rw [Option.some.inj hb]
theorem szl (l:List UInt8):(⟨l.toArray⟩:ByteArray).size=l.length:=rfl
theorem wrap_u8 {n:Int} (h0:0≤n) (h1:n < 256):IntKind.u8.wrap n=n:=by
 unfold IntKind.wrap; simp [IntKind.bits,IntKind.signed]; omega
theorem AHF (G:Nat→AV) (hG:GOk G) (s:ByteArray) (h:Hp) (hl:s.size≤1048576):PCall (En G) 150 [.str s] h (elemV (PG s)):=by
 refine acN Tryz.func150 rfl ?_
 show awp _ _ _ _ _ (D8 _ [.tmp 2,.tmp 3,.tmp 4] _)
 simp -implicitDefEqProofs only [BC,BA,A8,AY,BB,AO,AQ,AL,BD,AX,AC,AA,AZ,AU,BU,BH,BM,H9,BG,A7,BZ,BO,BF,jE,jD,jF,↓reduceIte,jC,jA,jB,enP]
 refine (AWE G hG s h hl).use ?_
 have he:=AV8 s
 have hal:=AZ5 s.data.toList
 unfold cutV
 generalize Lib.cut s.data.toList [91]=c at he hal ⊢
 obtain ⟨a,b,f⟩:=c
 have hal2:a.length≤s.size:=by simpa using hal
 simp -implicitDefEqProofs only [zH,zL,BC,BA,A8,AY,BB,BK,BV,CO,AO,AQ,AL,BD,AX,AC,AA,AZ,BG,A7,GU,EW,GG,AB,EP,↓reduceIte,jC,jA,jB]
 cases f
 ·simp -implicitDefEqProofs only [BC,BA,BJ,BI,A8,CQ,OJ,CZ,AY,BB,BK,BV,CO,FI,AO,AQ,AL,BD,AX,AC,AA,EK,AZ,AU,BH,BM,H9,BG,A7,CP,DL,↓reduceIte,jC,jA,jB]
  exact ⟨by rw [he]; rfl,trivial⟩
 simp -implicitDefEqProofs only [BK,BV,CO,EF,AO,AQ,AL,BD,AX,AC,AA,AZ,BU,BG,BZ,BO,jE,jD,jF,↓reduceIte,jC,jA,jV,jB]
 refine (NU G hG.kw ⟨a.toArray⟩ h (by rw [szl]; omega)).use ?_
 simp -implicitDefEqProofs only [AY,BK,BV,CO,EF,AO,AQ,AL,BD,AX,AC,AA,AZ,AU,BM,BG,CP,DN,GU,AB,EP,↓reduceIte,jC,jA,jB]
 cases hn:IB ⟨a.toArray⟩
 ·simp -implicitDefEqProofs only [BC,BA,BJ,BI,A8,CQ,OJ,CZ,AY,BB,BK,BV,CO,FI,AO,AQ,AL,BD,AX,AC,AA,EK,AZ,AU,BH,BM,H9,BG,A7,CP,DL,↓reduceIte,jC,jA,jB]
  exact ⟨by rw [he]; simp [hn]; rfl,trivial⟩
 simp -implicitDefEqProofs only [AY,BK,BV,CO,EF,AO,AQ,AL,BD,AX,AC,AA,AZ,AU,BH,BM,BG,CP,DN,BQ,D6,AB,ET,↓reduceIte,jC,jA,jV,jB,enP,ln9,szl]
 refine JE (fun hb => ?_) (fun hb => ?_)
 ·simp -implicitDefEqProofs only [BC,BA,BJ,BI,A8,CQ,OJ,CZ,AY,BB,BK,BV,CO,FI,AO,AQ,AL,BD,AX,AC,AA,EK,AZ,AU,BH,BM,H9,BG,A7,CP,DL,↓reduceIte,jC,jA,jB,hb]
  have hne : ∀ d y,b≠[d,y]:=by
   intro d y e; subst e; simp at hb
  have:PG s=none:=by
   rw [he]; split
   ·split
    ·rename_i hm; exact absurd hm (hne _ _)
    ·rfl
   ·rfl
  exact ⟨by rw [this]; rfl,trivial⟩
 have h2:b.length=2:=by simp at hb; omega
 match b,h2 with
 | [d,y],_ =>
   have i1:NI Tryz.prog 9 (.str ⟨[d,y].toArray⟩) (.int .i64 1)=some (.int .u8 y.toNat):=ixl (k:=1) rfl rfl
   have i0:NI Tryz.prog 9 (.str ⟨[d,y].toArray⟩) (.int .i64 0)=some (.int .u8 d.toNat):=ixl (k:=0) rfl rfl
   have he2:PG s=if (y == 93 && decide (48≤d.toNat) && decide (d.toNat < 56))=true then some (a,d) else none:=by
    rw [he]; simp [hn]
   clear he
   simp -implicitDefEqProofs only [AY,BK,BV,CO,EF,AO,AQ,AL,BD,AX,AC,AA,AZ,AU,BH,BM,BG,CP,DN,BQ,OB,AB,ET,↓reduceIte,jC,jA,jB,enP,hb,i1,i0]
   refine JE (fun hc => ?_) (fun hc => ?_)
   ·simp -implicitDefEqProofs only [BC,BA,BJ,BI,A8,CQ,OJ,CZ,AY,BB,BK,BV,CO,FI,AO,AQ,AL,BD,AX,AC,AA,EK,AZ,AU,BH,BM,H9,BG,A7,CP,DL,↓reduceIte,jC,jA,jB,hc]
    have hy:(y == 93)=false:=by
     rw [← Bool.not_eq_true]; intro e; rw [beq_iff_eq] at e; subst e; simp at hc
    exact ⟨by rw [he2,hy]; rfl,trivial⟩
   have hy:(y == 93)=true:=by
    rw [beq_iff_eq,← UInt8.toNat_inj]
    simp at hc; show y.toNat=93; omega
   simp -implicitDefEqProofs only [AY,BK,BV,CO,EF,AO,AQ,AL,BD,AX,AC,AA,AZ,AU,BH,BM,BG,CP,DN,BQ,OB,AB,C9,↓reduceIte,jC,jA,jB,enP,hc,i0]
   refine JE (fun hd => ?_) (fun hd => ?_)
   ·simp -implicitDefEqProofs only [BC,BA,BJ,BI,A8,CQ,OJ,CZ,AY,BB,BK,BV,CO,FI,AO,AQ,AL,BD,AX,AC,AA,EK,AZ,AU,BH,BM,H9,A7,CP,DL,↓reduceIte,jC,jA,jB,hd]
    have:decide (48≤d.toNat)=false:=by simp at hd ⊢; omega
    exact ⟨by rw [he2,this]; simp; rfl,trivial⟩
   have hd1:48≤d.toNat:=by simp at hd; omega
   simp -implicitDefEqProofs only [BI,A8,AY,BB,BK,BV,CO,EF,AO,AQ,AL,BD,AX,AC,AA,AZ,AU,BH,BM,BG,CP,DN,BQ,OB,AB,FX,↓reduceIte,jC,jA,jB,enP,hd,i0]
   refine CV (fun hf => ?_) (fun hf => ?_)
   ·simp -implicitDefEqProofs only [BC,BA,BJ,A8,CQ,OJ,AY,BB,AO,AQ,AL,BD,AX,AC,AA,AU,BH,BM,H9,A7,↓reduceIte,jC,jA,jB]
    have:decide (d.toNat < 56)=false:=by simp at hf ⊢; omega
    exact ⟨by rw [he2,this]; simp; rfl,trivial⟩
   have hd2:d.toNat < 56:=by simp at hf; omega
   simp -implicitDefEqProofs only [BC,BR,A8]
   refine FN (by kernel_rfl) ?_
   simp -implicitDefEqProofs only [G5,EM,D9,FU,EQ,GH,JI,J7,ATC,AGB,BJ,A8,OJ,AO,AA,AZ,AU,BH,BM,BQ,YW,OB,AB,JK,↓reduceIte,jC,Nat.reduceAdd,jA,enP,AWD,i0,wrap_u8 (n:=(d.toNat:Int) - 48) (by omega) (by omega),wrap_i64 (n:=(d.toNat:Int) - 48) (by omega) (by omega)]
   exact ⟨by rw [he2]; simp [hy,hd1,hd2]; rfl,trivial⟩
theorem A2E {s:ByteArray} {u:Nat} {h:Hp} (hu:u≤s.size):JR Tryz.prog h 9 (.str s) none (some (.int .i64 (u:Int))) none=some (.str (s.extract 0 u)):=by
 have:Tryz.prog.underlying 9=some .string:=by kernel_rfl
 simp [JR,this,H8,hu]
theorem AZW (a b:List UInt8):(⟨(a ++ b).toArray⟩:ByteArray).extract 0 a.length=⟨a.toArray⟩:=by
 ext1
 simp
set_option maxHeartbeats 1000000 in
theorem AQT (G:Nat→AV) (s:ByteArray) (h:Hp) (hl:s.size≤1099511627776):PCall (En G) 215 [.str s] h (elemV (PG s)):=by
 refine acN Tryz.func215 rfl ?_
 show awp _ _ _ _ _ (D8 _ [.tmp 2,.tmp 3,.tmp 4] _)
 obtain ⟨⟨l⟩⟩:=s
 rw [szl] at hl
 rcases Nat.lt_or_ge l.length 4 with h4 | h4
 ·have hd:decide ((l.length:Int) < 4)=true:=by simp; omega
  simp -implicitDefEqProofs only [BC,BA,BJ,BI,A8,CQ,OJ,CZ,AY,BB,BK,BV,CO,FI,AO,AQ,AL,BD,AX,AC,AA,EK,AZ,AU,BH,BM,H9,BG,A7,CP,DL,BQ,D6,AB,C9,BF,↓reduceIte,jC,jA,jB,enP,ln9,szl,hd]
  have:PG ⟨l.toArray⟩=none:=by
   unfold PG; rw [if_neg]; simp; omega
  exact ⟨by rw [this]; rfl,trivial⟩
 obtain ⟨b,x,d,y,rfl⟩:=three (show 3≤l.length by omega)
 have hlen:(b ++ [x,d,y]).length=b.length+3:=by simp
 rw [hlen] at hl h4
 have hbl:0 < b.length:=by omega
 have hb:b≠[]:=List.length_pos_iff.1 hbl
 have he:=ADJ (x:=x) (d:=d) (y:=y) hb
 generalize hn:IB ⟨b.toArray⟩=nm at he
 have i1:NI Tryz.prog 9 (.str ⟨(b ++ [x,d,y]).toArray⟩) (.int .i64 ((b.length:Int)+2))=some (.int .u8 y.toNat):=ixl (k:=b.length+2) (by omega) (by simp)
 have i2:NI Tryz.prog 9 (.str ⟨(b ++ [x,d,y]).toArray⟩) (.int .i64 ((b.length:Int)+1))=some (.int .u8 d.toNat):=ixl (k:=b.length+1) (by omega) (by simp)
 have i3:NI Tryz.prog 9 (.str ⟨(b ++ [x,d,y]).toArray⟩) (.int .i64 (b.length:Int))=some (.int .u8 x.toNat):=ixl (k:=b.length) rfl (by simp)
 have i4:=A2E (s:=⟨(b ++ [x,d,y]).toArray⟩) (u:=b.length) (h:=h) (by rw [szl]; omega)
 rw [AZW] at i4
 have hsz:(⟨(b ++ [x,d,y]).toArray⟩:ByteArray).size=b.length+3:=by rw [szl,hlen]
 generalize (⟨(b ++ [x,d,y]).toArray⟩:ByteArray)=s at *
 have w1:IntKind.i64.wrap (((b.length+3:Nat):Int) - 1)=(b.length:Int)+2:=by rw [wrap_i64 (by omega) (by omega)]; omega
 have w2:IntKind.i64.wrap (((b.length+3:Nat):Int) - 2)=(b.length:Int)+1:=by rw [wrap_i64 (by omega) (by omega)]; omega
 have w3:IntKind.i64.wrap (((b.length+3:Nat):Int) - 3)=(b.length:Int):=by rw [wrap_i64 (by omega) (by omega)]; omega
 have hd8:d.toNat < 256:=d.toNat_lt
 have w4:IntKind.i64.wrap (d.toNat:Int)=(d.toNat:Int):=wrap_i64 (by omega) (by omega)
 have w5:IntKind.i64.wrap ((d.toNat:Int) - 48)=(d.toNat:Int) - 48:=wrap_i64 (by omega) (by omega)
 have ha:decide (((b.length+3:Nat):Int) < 4)=false:=by simp; omega
 simp -implicitDefEqProofs only [BC,BA,A8,AY,BB,BK,BV,CO,EF,AO,AQ,AL,BD,AX,AC,AA,AZ,AU,BH,BM,H9,BG,A7,CP,DN,BQ,OB,D6,AB,JK,ET,C9,BF,↓reduceIte,jC,jA,jB,enP,ln9,hsz,ha,w1,w2,w3,i1,i2,i3,i4]
 refine JE (fun hc => ?_) (fun hc => ?_)
 ·simp -implicitDefEqProofs only [BC,BA,BJ,BI,A8,CQ,OJ,CZ,AY,BB,BK,BV,CO,FI,AO,AQ,AL,BD,AX,AC,AA,EK,AZ,AU,BH,BM,H9,A7,CP,DL,↓reduceIte,jC,jA,jB,hc]
  have hy:(y == 93)=false:=by
   rw [← Bool.not_eq_true]; intro e; rw [beq_iff_eq] at e; subst e; simp at hc
  exact ⟨by rw [he,hy]; simp; rfl,trivial⟩
 have hy:(y == 93)=true:=by
  rw [beq_iff_eq,← UInt8.toNat_inj]
  simp at hc; show y.toNat=93; omega
 simp -implicitDefEqProofs only [BI,A8,AY,BB,BK,BV,CO,EF,AO,AQ,AL,BD,AX,AC,AA,AZ,AU,BH,BM,BG,CP,DN,BQ,OB,D6,AB,JK,ET,BF,↓reduceIte,jC,jA,jB,enP,ln9,hsz,hc,w1,w2,w3,i1,i2,i3,i4]
 refine CV (fun hd => ?_) (fun hd => ?_)
 ·simp -implicitDefEqProofs only [BC,BA,BJ,A8,CQ,OJ,AY,BB,AO,AQ,AL,BD,AX,AC,AA,AU,BH,BM,H9,A7,↓reduceIte,jC,jA,jB]
  have hx:(x == 91)=false:=by
   rw [← Bool.not_eq_true]; intro e; rw [beq_iff_eq] at e; subst e; simp at hd
  exact ⟨by rw [he,hx]; simp; rfl,trivial⟩
 have hx:(x == 91)=true:=by
  rw [beq_iff_eq,← UInt8.toNat_inj]
  simp at hd; show x.toNat=91; omega
 simp -implicitDefEqProofs only [Option.map_some,Option.map_none,BC,BA,BR,A8,AY,BB,BK,BV,CO,AO,AQ,AL,BD,AX,AC,AA,AZ,AU,BH,BG,A7,BQ,YW,QP,OB,D6,AB,JK,C9,BF,↓reduceIte,jC,jA,jB,enP,ln9,AWD,hsz,w1,w2,w3,i1,i2,i3,i4,w4,w5]
 refine JE (fun hf => ?_) (fun hf => ?_)
 ·simp -implicitDefEqProofs only [BC,BA,BJ,BI,A8,CQ,OJ,CZ,AY,BB,BK,BV,CO,FI,AO,AQ,AL,BD,AX,AC,AA,EK,AZ,AU,BH,BM,H9,BG,A7,CP,DL,↓reduceIte,jC,jA,jB,hf]
  have:decide (48≤d.toNat)=false:=by simp at hf ⊢; omega
  exact ⟨by rw [he,this]; simp; rfl,trivial⟩
 have hd1:48≤d.toNat:=by simp at hf; omega
 simp -implicitDefEqProofs only [AY,BK,BV,CO,EF,AO,AQ,AL,BD,AX,AC,AA,AZ,AU,BH,BM,BG,CP,DN,BQ,AB,FX,↓reduceIte,jC,jA,jB,enP,hf]
 refine JE (fun hf => ?_) (fun hf => ?_)
 ·simp -implicitDefEqProofs only [BC,BA,BJ,BI,A8,CQ,OJ,CZ,AY,BB,BK,BV,CO,FI,AO,AQ,AL,BD,AX,AC,AA,EK,AZ,AU,BH,BM,H9,A7,CP,DL,↓reduceIte,jC,jA,jB,hf]
  have:decide (d.toNat < 56)=false:=by simp at hf ⊢; omega
  exact ⟨by rw [he,this]; simp; rfl,trivial⟩
 have hd2:d.toNat < 56:=by simp at hf; omega
 simp -implicitDefEqProofs only [BK,BV,CO,EF,AO,AQ,AL,BD,AX,AC,AA,AZ,BU,BG,BZ,BO,jE,jD,jF,↓reduceIte,jC,jA,jB,hf]
 refine (WR G ⟨b.toArray⟩ h).use ?_
 simp -implicitDefEqProofs only [BI,A8,AY,BB,BK,BV,CO,EF,AO,AQ,AL,BD,AX,AC,AA,AZ,AU,BM,CP,DN,GU,AB,EP,↓reduceIte,jC,jA,jB,hn]
 cases nm
 ·simp -implicitDefEqProofs only [BC,BA,BJ,A8,CQ,OJ,CZ,AY,BB,AO,AQ,AL,BD,AX,AC,AA,AU,BH,BM,H9,A7,↓reduceIte,jC,jA,jB]
  exact ⟨by rw [he]; simp; rfl,trivial⟩
 ·simp -implicitDefEqProofs only [BC,BA,BR,BJ,A8,OJ,DI,AY,BB,AO,AQ,AL,BD,AX,AC,AA,AZ,AU,BM,BG,A7,↓reduceIte,jC,jA,jV,jB]
  exact ⟨by rw [he]; simp [hy,hx,hd1,hd2]; rfl,trivial⟩
def RP (s:ByteArray):Bool:=(PG s).isSome || IB s
theorem ADI (o:Option (List UInt8 × UInt8)) : ∃ a n,elemV o = .tup [.str a,.int .i64 n,.bool o.isSome]:=by
 cases o with
 | none=>exact ⟨_,_,rfl⟩
 | some x=>exact ⟨_,_,rfl⟩
theorem ANA (G:Nat→AV) (hG:GOk G) (s:ByteArray) (h:Hp) (hl:s.size≤1048576):PCall (En G) 106 [.str s] h (.bool (RP s)):=by
 refine acN Tryz.func106 rfl ?_
 show awp _ _ _ _ _ (D8 _ [.tmp 2] _)
 simp -implicitDefEqProofs only [BC,BA,A8,AY,BB,AO,AQ,AL,BD,AX,AC,AA,AZ,AU,BU,BM,BG,A7,BZ,BO,BF,jE,jD,jF,↓reduceIte,jC,jA,jB,enP]
 refine (AHF G hG s h hl).use ?_
 obtain ⟨a,n,e⟩:=ADI (PG s)
 rw [e]
 simp -implicitDefEqProofs only [zH,zL,BC,BA,A8,AY,BB,BK,BV,CO,AO,AQ,AL,BD,AX,AC,AA,AZ,BG,A7,EW,GG,AB,↓reduceIte,jC,jA,jB]
 cases hs:(PG s).isSome
 ·simp -implicitDefEqProofs only [BK,BV,CO,EF,AO,AQ,AL,BD,AX,AC,AA,AZ,BU,BG,BZ,BO,BF,jE,jD,jF,↓reduceIte,jC,jA,jB]
  refine (NU G hG.kw s h (by omega)).use ?_
  simp -implicitDefEqProofs only [BJ,A8,CJ,AY,BB,AO,AQ,AL,BD,AX,AC,AA,AZ,AU,BM,A7,CP,DN,↓reduceIte,jC,jA,jB]
  exact ⟨by unfold RP; rw [hs]; rfl,trivial⟩
 ·simp -implicitDefEqProofs only [BJ,A8,CJ,AY,BB,BK,BV,CO,FI,AO,AQ,AL,BD,AX,AC,AA,EK,AZ,AU,BM,A7,CP,DL,↓reduceIte,jC,jA,jB]
  exact ⟨by unfold RP; rw [hs]; rfl,trivial⟩
theorem AR2 (G:Nat→AV) (s:ByteArray) (h:Hp) (hl:s.size≤1048576):PCall (En G) 187 [.str s] h (.bool (RP s)):=by
 refine acN Tryz.func187 rfl ?_
 show awp _ _ _ _ _ (D8 _ [.tmp 2] _)
 simp -implicitDefEqProofs only [BC,BA,A8,AY,BB,AO,AQ,AL,BD,AX,AC,AA,AZ,AU,BU,BM,BG,A7,BZ,BO,BF,jE,jD,jF,↓reduceIte,jC,jA,jB,enP]
 refine (AQT G s h (by omega)).use ?_
 obtain ⟨a,n,e⟩:=ADI (PG s)
 rw [e]
 simp -implicitDefEqProofs only [zH,zL,BC,BA,A8,AY,BB,BK,BV,CO,AO,AQ,AL,BD,AX,AC,AA,AZ,BG,A7,EW,GG,AB,↓reduceIte,jC,jA,jB]
 cases hs:(PG s).isSome
 ·simp -implicitDefEqProofs only [BK,BV,CO,EF,AO,AQ,AL,BD,AX,AC,AA,AZ,BU,BG,BZ,BO,BF,jE,jD,jF,↓reduceIte,jC,jA,jB]
  refine (WR G s h).use ?_
  simp -implicitDefEqProofs only [BJ,A8,CJ,AY,BB,AO,AQ,AL,BD,AX,AC,AA,AZ,AU,BM,A7,CP,DN,↓reduceIte,jC,jA,jB]
  exact ⟨by unfold RP; rw [hs]; rfl,trivial⟩
 ·simp -implicitDefEqProofs only [BJ,A8,CJ,AY,BB,BK,BV,CO,FI,AO,AQ,AL,BD,AX,AC,AA,EK,AZ,AU,BM,A7,CP,DL,↓reduceIte,jC,jA,jB]
  exact ⟨by unfold RP; rw [hs]; rfl,trivial⟩
end Go.Proofs.YtfpagfhhhlljjaaGreatDoor.Cov
