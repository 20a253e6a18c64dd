/- Part 5 of the proof (Ft, B1, B2, B4, B5, B6, E1, E2, E3, E4, E5, E6); no condition. -/
import Derived.Test.YtgnoolgeijmlaaaGreatDoorProg
import Derived.KernelRfl
import Derived.Laws.RangeAny
import Derived.Shelf.Strings.Cut
import Derived.Lib.IndexMore
import Derived.Test.YtgnoolgeijmlaaaGreatDoorZE4
set_option linter.unusedVariables false
namespace Go.Proofs.YtgnoolgeijmlaaaGreatDoor.Sm

theorem sz3:szO Tryz.prog 3=some 1:=by kernel_rfl
theorem ag3:JO Tryz.prog 3=some false:=by kernel_rfl
theorem sz4:szO Tryz.prog 4=some 1:=by kernel_rfl
theorem ag4:JO Tryz.prog 4=some false:=by kernel_rfl
theorem sz9:szO Tryz.prog 9=some 1:=by kernel_rfl
theorem ag9:JO Tryz.prog 9=some false:=by kernel_rfl
theorem TU:JO Tryz.prog 22=some false:=by kernel_rfl
theorem A4H:szO Tryz.prog 23=some 1:=by kernel_rfl
theorem VX:JO Tryz.prog 23=some false:=by kernel_rfl
theorem A0G:JO Tryz.prog 24=some false:=by kernel_rfl
theorem AXI:JO Tryz.prog 25=some false:=by kernel_rfl
theorem TF:szO Tryz.prog 27=some 5:=by kernel_rfl
theorem UY:JO Tryz.prog 27=some true:=by kernel_rfl
theorem AY3:szO Tryz.prog 29=some 1:=by kernel_rfl
theorem AQD:JO Tryz.prog 29=some false:=by kernel_rfl
theorem A01:szO Tryz.prog 33=some 1:=by kernel_rfl
theorem AE5:JO Tryz.prog 33=some false:=by kernel_rfl
theorem AO1:szO Tryz.prog 35=some 1:=by kernel_rfl
theorem AXH:JO Tryz.prog 35=some true:=by kernel_rfl
theorem RX:szO Tryz.prog 37=some 4:=by kernel_rfl
theorem YB:JO Tryz.prog 37=some true:=by kernel_rfl
theorem sz39:szO Tryz.prog 39=some 1:=by kernel_rfl
theorem ag39:JO Tryz.prog 39=some false:=by kernel_rfl
theorem P7:szO Tryz.prog 61=some 3:=by kernel_rfl
theorem VW:JO Tryz.prog 61=some true:=by kernel_rfl
theorem AQ3:szO Tryz.prog 65=some 4:=by kernel_rfl
theorem A3T:JO Tryz.prog 65=some true:=by kernel_rfl
theorem A00:szO Tryz.prog 68=some 1:=by kernel_rfl
theorem AXG:JO Tryz.prog 68=some false:=by kernel_rfl
theorem sz74:szO Tryz.prog 74=some 16:=by kernel_rfl
theorem ag74:JO Tryz.prog 74=some true:=by kernel_rfl
theorem A3S:JO Tryz.prog 76=some false:=by kernel_rfl
theorem ag84:JO Tryz.prog 84=some false:=by kernel_rfl
theorem A4G:szO Tryz.prog 94=some 2:=by kernel_rfl
theorem AQ2:szO Tryz.prog 97=some 1:=by kernel_rfl
theorem AQC:JO Tryz.prog 97=some false:=by kernel_rfl
theorem A04:szO Tryz.prog 103=some 1:=by kernel_rfl
theorem A3X:JO Tryz.prog 103=some false:=by kernel_rfl
theorem A03:szO Tryz.prog 107=some 1:=by kernel_rfl
theorem A02:szO Tryz.prog 132=some 3:=by kernel_rfl
theorem A3W:JO Tryz.prog 132=some true:=by kernel_rfl
theorem ag133:JO Tryz.prog 133=some false:=by kernel_rfl
theorem AYQ:JO Tryz.prog 139=some false:=by kernel_rfl
theorem AIH:szO Tryz.prog 141=some 2:=by kernel_rfl
theorem AYP:JO Tryz.prog 141=some true:=by kernel_rfl
theorem AM9:szO Tryz.prog 143=some 4:=by kernel_rfl
theorem AYO:JO Tryz.prog 143=some true:=by kernel_rfl
theorem AXV:szO Tryz.prog 163=some 1:=by kernel_rfl
theorem AGE:JO Tryz.prog 163=some false:=by kernel_rfl
theorem ag171:JO Tryz.prog 171=some false:=by kernel_rfl
theorem ag173:JO Tryz.prog 173=some false:=by kernel_rfl
theorem AIG:szO Tryz.prog 179=some 5:=by kernel_rfl
theorem A3V:JO Tryz.prog 179=some true:=by kernel_rfl
theorem ag197:JO Tryz.prog 197=some false:=by kernel_rfl
theorem bn4:∀p q,JD Tryz.prog 4 .neq (.bool p) (.bool q)=some (.bool (!(p==q))):=fun p q=>ATU Tryz.prog 4 p q (by kernel_rfl)
theorem ln9:∀s,LX Tryz.prog 9 (.str s)=some (.int .i64 s.size):=AV1 (by kernel_rfl:Tryz.prog.underlying 9=some .string)
theorem QP:∀h a i,GN Tryz.prog h 22 a i=J8 4 h a i:=IY (by kernel_rfl:Tryz.prog.underlying 22=some (.slice 65)) AQ3
theorem RZ:(∀m k xs,LX Tryz.prog 22 (.sl m k xs)=some (.int .i64 xs.length))∧∀b off len,LX Tryz.prog 22 (.own b off len)=some (.int .i64 len):=PO (by kernel_rfl:Tryz.prog.underlying 22=some (.slice 65))
theorem A4A:Tryz.prog.underlying 22=some (.slice 65):=by kernel_rfl
theorem AAO:∀h a i,GN Tryz.prog h 23 a i=J8 4 h a i:=IY (by kernel_rfl:Tryz.prog.underlying 23=some (.slice 37)) RX
theorem WT:(∀m k xs,LX Tryz.prog 23 (.sl m k xs)=some (.int .i64 xs.length))∧∀b off len,LX Tryz.prog 23 (.own b off len)=some (.int .i64 len):=PO (by kernel_rfl:Tryz.prog.underlying 23=some (.slice 37))
theorem AU0:Tryz.prog.underlying 23=some (.slice 37):=by kernel_rfl
theorem A0O:ABW Tryz.prog 37=some 4:=by kernel_rfl
theorem A20:OJ Tryz.prog 37=some 56:=by kernel_rfl
theorem AG2:∀h a i,GN Tryz.prog h 24 a i=J8 2 h a i:=IY (by kernel_rfl:Tryz.prog.underlying 24=some (.slice 141)) AIH
theorem AZK:(∀m k xs,LX Tryz.prog 24 (.sl m k xs)=some (.int .i64 xs.length))∧∀b off len,LX Tryz.prog 24 (.own b off len)=some (.int .i64 len):=PO (by kernel_rfl:Tryz.prog.underlying 24=some (.slice 141))
theorem A39:Tryz.prog.underlying 24=some (.slice 141):=by kernel_rfl
theorem OU:∀h a i,GN Tryz.prog h 25 a i=J8 1 h a i:=IY (by kernel_rfl:Tryz.prog.underlying 25=some (.slice 29)) AY3
theorem AR8:(∀m k xs,LX Tryz.prog 25 (.sl m k xs)=some (.int .i64 xs.length))∧∀b off len,LX Tryz.prog 25 (.own b off len)=some (.int .i64 len):=PO (by kernel_rfl:Tryz.prog.underlying 25=some (.slice 29))
theorem A0W:Tryz.prog.underlying 25=some (.slice 29):=by kernel_rfl
theorem A0N:ABW Tryz.prog 29=some 1:=by kernel_rfl
theorem A2Z:OJ Tryz.prog 29=some 24:=by kernel_rfl
theorem KC:(∀b i j,CZ Tryz.prog 27 (.ptr b i j) 0=some (.ptr b i (j+0)))∧(∀k xs i j,CZ Tryz.prog 27 (.fptr k xs i j) 0=some (.fptr k xs i (j+0))):=IM (by kernel_rfl:J3 Tryz.prog 27 0 0=true)
theorem AS7:(∀b i j,CZ Tryz.prog 27 (.ptr b i j) 1=some (.ptr b i (j+1)))∧(∀k xs i j,CZ Tryz.prog 27 (.fptr k xs i j) 1=some (.fptr k xs i (j+1))):=IM (by kernel_rfl:J3 Tryz.prog 27 1 1=true)
theorem AS6:(∀b i j,CZ Tryz.prog 27 (.ptr b i j) 2=some (.ptr b i (j+2)))∧(∀k xs i j,CZ Tryz.prog 27 (.fptr k xs i j) 2=some (.fptr k xs i (j+2))):=IM (by kernel_rfl:J3 Tryz.prog 27 2 2=true)
theorem ALX:(∀b i j,CZ Tryz.prog 27 (.ptr b i j) 3=some (.ptr b i (j+3)))∧(∀k xs i j,CZ Tryz.prog 27 (.fptr k xs i j) 3=some (.fptr k xs i (j+3))):=IM (by kernel_rfl:J3 Tryz.prog 27 3 3=true)
theorem AAT:(∀b i j,CZ Tryz.prog 27 (.ptr b i j) 4=some (.ptr b i (j+4)))∧(∀k xs i j,CZ Tryz.prog 27 (.fptr k xs i j) 4=some (.fptr k xs i (j+4))):=IM (by kernel_rfl:J3 Tryz.prog 27 4 4=true)
theorem KT:∀h a i,GN Tryz.prog h 29 a i=J8 1 h a i:=IY (by kernel_rfl:Tryz.prog.underlying 29=some (.slice 3)) sz3
theorem Y7:(∀m k xs,LX Tryz.prog 29 (.sl m k xs)=some (.int .i64 xs.length))∧∀b off len,LX Tryz.prog 29 (.own b off len)=some (.int .i64 len):=PO (by kernel_rfl:Tryz.prog.underlying 29=some (.slice 3))
theorem A0V:Tryz.prog.underlying 29=some (.slice 3):=by kernel_rfl
theorem A36:ABW Tryz.prog 3=some 1:=by kernel_rfl
theorem A2Y:OJ Tryz.prog 3=some 8:=by kernel_rfl
theorem SA:∀h a i,GN Tryz.prog h 33 a i=J8 3 h a i:=IY (by kernel_rfl:Tryz.prog.underlying 33=some (.slice 61)) P7
theorem SX:(∀m k xs,LX Tryz.prog 33 (.sl m k xs)=some (.int .i64 xs.length))∧∀b off len,LX Tryz.prog 33 (.own b off len)=some (.int .i64 len):=PO (by kernel_rfl:Tryz.prog.underlying 33=some (.slice 61))
theorem AOX:Tryz.prog.underlying 33=some (.slice 61):=by kernel_rfl
theorem AUL:ABW Tryz.prog 61=some 3:=by kernel_rfl
theorem AWZ:OJ Tryz.prog 61=some 24:=by kernel_rfl
theorem NR:(∀b i j,CZ Tryz.prog 35 (.ptr b i j) 0=some (.ptr b i (j+0)))∧(∀k xs i j,CZ Tryz.prog 35 (.fptr k xs i j) 0=some (.fptr k xs i (j+0))):=IM (by kernel_rfl:J3 Tryz.prog 35 0 0=true)
theorem F7:(∀b i j,CZ Tryz.prog 37 (.ptr b i j) 0=some (.ptr b i (j+0)))∧(∀k xs i j,CZ Tryz.prog 37 (.fptr k xs i j) 0=some (.fptr k xs i (j+0))):=IM (by kernel_rfl:J3 Tryz.prog 37 0 0=true)
theorem AAS:(∀b i j,CZ Tryz.prog 37 (.ptr b i j) 1=some (.ptr b i (j+1)))∧(∀k xs i j,CZ Tryz.prog 37 (.fptr k xs i j) 1=some (.fptr k xs i (j+1))):=IM (by kernel_rfl:J3 Tryz.prog 37 1 1=true)
theorem LM:(∀b i j,CZ Tryz.prog 37 (.ptr b i j) 2=some (.ptr b i (j+2)))∧(∀k xs i j,CZ Tryz.prog 37 (.fptr k xs i j) 2=some (.fptr k xs i (j+2))):=IM (by kernel_rfl:J3 Tryz.prog 37 2 2=true)
theorem ND:(∀b i j,CZ Tryz.prog 37 (.ptr b i j) 3=some (.ptr b i (j+3)))∧(∀k xs i j,CZ Tryz.prog 37 (.fptr k xs i j) 3=some (.fptr k xs i (j+3))):=IM (by kernel_rfl:J3 Tryz.prog 37 3 3=true)
theorem A15:∀h a i,GN Tryz.prog h 53 a i=J8 2 h a i:=IY (by kernel_rfl:Tryz.prog.underlying 53=some (.slice 94)) A4G
theorem A44:(∀m k xs,LX Tryz.prog 53 (.sl m k xs)=some (.int .i64 xs.length))∧∀b off len,LX Tryz.prog 53 (.own b off len)=some (.int .i64 len):=PO (by kernel_rfl:Tryz.prog.underlying 53=some (.slice 94))
theorem AV5:∀h a i,GN Tryz.prog h 55 a i=J8 1 h a i:=IY (by kernel_rfl:Tryz.prog.underlying 55=some (.slice 4)) sz4
theorem A43:(∀m k xs,LX Tryz.prog 55 (.sl m k xs)=some (.int .i64 xs.length))∧∀b off len,LX Tryz.prog 55 (.own b off len)=some (.int .i64 len):=PO (by kernel_rfl:Tryz.prog.underlying 55=some (.slice 4))
theorem A38:Tryz.prog.underlying 55=some (.slice 4):=by kernel_rfl
theorem A5L:OJ Tryz.prog 4=some 1:=by kernel_rfl
theorem OG:(∀b i j,CZ Tryz.prog 61 (.ptr b i j) 0=some (.ptr b i (j+0)))∧(∀k xs i j,CZ Tryz.prog 61 (.fptr k xs i j) 0=some (.fptr k xs i (j+0))):=IM (by kernel_rfl:J3 Tryz.prog 61 0 0=true)
theorem QK:(∀b i j,CZ Tryz.prog 61 (.ptr b i j) 1=some (.ptr b i (j+1)))∧(∀k xs i j,CZ Tryz.prog 61 (.fptr k xs i j) 1=some (.fptr k xs i (j+1))):=IM (by kernel_rfl:J3 Tryz.prog 61 1 1=true)
theorem QJ:(∀b i j,CZ Tryz.prog 61 (.ptr b i j) 2=some (.ptr b i (j+2)))∧(∀k xs i j,CZ Tryz.prog 61 (.fptr k xs i j) 2=some (.fptr k xs i (j+2))):=IM (by kernel_rfl:J3 Tryz.prog 61 2 2=true)
theorem O1:(∀b i j,CZ Tryz.prog 65 (.ptr b i j) 0=some (.ptr b i (j+0)))∧(∀k xs i j,CZ Tryz.prog 65 (.fptr k xs i j) 0=some (.fptr k xs i (j+0))):=IM (by kernel_rfl:J3 Tryz.prog 65 0 0=true)
theorem LV:(∀b i j,CZ Tryz.prog 65 (.ptr b i j) 1=some (.ptr b i (j+1)))∧(∀k xs i j,CZ Tryz.prog 65 (.fptr k xs i j) 1=some (.fptr k xs i (j+1))):=IM (by kernel_rfl:J3 Tryz.prog 65 1 1=true)
theorem NC:(∀b i j,CZ Tryz.prog 65 (.ptr b i j) 2=some (.ptr b i (j+2)))∧(∀k xs i j,CZ Tryz.prog 65 (.fptr k xs i j) 2=some (.fptr k xs i (j+2))):=IM (by kernel_rfl:J3 Tryz.prog 65 2 2=true)
theorem VN:(∀b i j,CZ Tryz.prog 65 (.ptr b i j) 3=some (.ptr b i (j+3)))∧(∀k xs i j,CZ Tryz.prog 65 (.fptr k xs i j) 3=some (.fptr k xs i (j+3))):=IM (by kernel_rfl:J3 Tryz.prog 65 3 3=true)
theorem S9:(∀b i j,CZ Tryz.prog 78 (.ptr b i j) 0=some (.ptr b i (j+0)))∧(∀k xs i j,CZ Tryz.prog 78 (.fptr k xs i j) 0=some (.fptr k xs i (j+0))):=IM (by kernel_rfl:J3 Tryz.prog 78 0 0=true)
theorem AZZ:(∀b i j,CZ Tryz.prog 78 (.ptr b i j) 1=some (.ptr b i (j+1)))∧(∀k xs i j,CZ Tryz.prog 78 (.fptr k xs i j) 1=some (.fptr k xs i (j+1))):=IM (by kernel_rfl:J3 Tryz.prog 78 1 1=true)
theorem AZY:(∀b i j,CZ Tryz.prog 78 (.ptr b i j) 2=some (.ptr b i (j+6)))∧(∀k xs i j,CZ Tryz.prog 78 (.fptr k xs i j) 2=some (.fptr k xs i (j+6))):=IM (by kernel_rfl:J3 Tryz.prog 78 2 6=true)
theorem ALW:(∀b i j,CZ Tryz.prog 78 (.ptr b i j) 3=some (.ptr b i (j+7)))∧(∀k xs i j,CZ Tryz.prog 78 (.fptr k xs i j) 3=some (.fptr k xs i (j+7))):=IM (by kernel_rfl:J3 Tryz.prog 78 3 7=true)
theorem A14:∀h a i,GN Tryz.prog h 84 a i=J8 5 h a i:=IY (by kernel_rfl:Tryz.prog.underlying 84=some (.slice 179)) AIG
theorem A37:Tryz.prog.underlying 84=some (.slice 179):=by kernel_rfl
theorem A5J:OJ Tryz.prog 179=some 40:=by kernel_rfl
theorem RF:(∀b i j,CZ Tryz.prog 86 (.ptr b i j) 0=some (.ptr b i (j+0)))∧(∀k xs i j,CZ Tryz.prog 86 (.fptr k xs i j) 0=some (.fptr k xs i (j+0))):=IM (by kernel_rfl:J3 Tryz.prog 86 0 0=true)
theorem XX:(∀b i j,CZ Tryz.prog 86 (.ptr b i j) 1=some (.ptr b i (j+1)))∧(∀k xs i j,CZ Tryz.prog 86 (.fptr k xs i j) 1=some (.fptr k xs i (j+1))):=IM (by kernel_rfl:J3 Tryz.prog 86 1 1=true)
theorem AS5:(∀b i j,CZ Tryz.prog 86 (.ptr b i j) 2=some (.ptr b i (j+2)))∧(∀k xs i j,CZ Tryz.prog 86 (.fptr k xs i j) 2=some (.fptr k xs i (j+2))):=IM (by kernel_rfl:J3 Tryz.prog 86 2 2=true)
theorem AS4:(∀b i j,CZ Tryz.prog 86 (.ptr b i j) 3=some (.ptr b i (j+3)))∧(∀k xs i j,CZ Tryz.prog 86 (.fptr k xs i j) 3=some (.fptr k xs i (j+3))):=IM (by kernel_rfl:J3 Tryz.prog 86 3 3=true)
theorem AZX:(∀b i j,CZ Tryz.prog 86 (.ptr b i j) 4=some (.ptr b i (j+8)))∧(∀k xs i j,CZ Tryz.prog 86 (.fptr k xs i j) 4=some (.fptr k xs i (j+8))):=IM (by kernel_rfl:J3 Tryz.prog 86 4 8=true)
theorem XW:(∀b i j,CZ Tryz.prog 86 (.ptr b i j) 5=some (.ptr b i (j+9)))∧(∀k xs i j,CZ Tryz.prog 86 (.fptr k xs i j) 5=some (.fptr k xs i (j+9))):=IM (by kernel_rfl:J3 Tryz.prog 86 5 9=true)
theorem AZW:(∀b i j,CZ Tryz.prog 94 (.ptr b i j) 0=some (.ptr b i (j+0)))∧(∀k xs i j,CZ Tryz.prog 94 (.fptr k xs i j) 0=some (.fptr k xs i (j+0))):=IM (by kernel_rfl:J3 Tryz.prog 94 0 0=true)
theorem AZV:(∀b i j,CZ Tryz.prog 94 (.ptr b i j) 1=some (.ptr b i (j+1)))∧(∀k xs i j,CZ Tryz.prog 94 (.fptr k xs i j) 1=some (.fptr k xs i (j+1))):=IM (by kernel_rfl:J3 Tryz.prog 94 1 1=true)
theorem ALK:∀h a i,GN Tryz.prog h 97 a i=J8 1 h a i:=IY (by kernel_rfl:Tryz.prog.underlying 97=some (.slice 9)) sz9
theorem Y6:(∀m k xs,LX Tryz.prog 97 (.sl m k xs)=some (.int .i64 xs.length))∧∀b off len,LX Tryz.prog 97 (.own b off len)=some (.int .i64 len):=PO (by kernel_rfl:Tryz.prog.underlying 97=some (.slice 9))
theorem AQZ:Tryz.prog.underlying 97=some (.slice 9):=by kernel_rfl
theorem AQK:ABW Tryz.prog 9=some 1:=by kernel_rfl
theorem ATQ:OJ Tryz.prog 9=some 16:=by kernel_rfl
theorem AHD:(∀b i j,CZ Tryz.prog 99 (.ptr b i j) 0=some (.ptr b i (j+0)))∧(∀k xs i j,CZ Tryz.prog 99 (.fptr k xs i j) 0=some (.fptr k xs i (j+0))):=IM (by kernel_rfl:J3 Tryz.prog 99 0 0=true)
theorem ADU:(∀b i j,CZ Tryz.prog 99 (.ptr b i j) 1=some (.ptr b i (j+1)))∧(∀k xs i j,CZ Tryz.prog 99 (.fptr k xs i j) 1=some (.fptr k xs i (j+1))):=IM (by kernel_rfl:J3 Tryz.prog 99 1 1=true)
theorem XV:(∀b i j,CZ Tryz.prog 99 (.ptr b i j) 2=some (.ptr b i (j+2)))∧(∀k xs i j,CZ Tryz.prog 99 (.fptr k xs i j) 2=some (.fptr k xs i (j+2))):=IM (by kernel_rfl:J3 Tryz.prog 99 2 2=true)
theorem ADT:(∀b i j,CZ Tryz.prog 99 (.ptr b i j) 3=some (.ptr b i (j+3)))∧(∀k xs i j,CZ Tryz.prog 99 (.fptr k xs i j) 3=some (.fptr k xs i (j+3))):=IM (by kernel_rfl:J3 Tryz.prog 99 3 3=true)
theorem XU:(∀b i j,CZ Tryz.prog 99 (.ptr b i j) 4=some (.ptr b i (j+4)))∧(∀k xs i j,CZ Tryz.prog 99 (.fptr k xs i j) 4=some (.fptr k xs i (j+4))):=IM (by kernel_rfl:J3 Tryz.prog 99 4 4=true)
theorem AWN:(∀b i j,CZ Tryz.prog 107 (.ptr b i j) 0=some (.ptr b i (j+0)))∧(∀k xs i j,CZ Tryz.prog 107 (.fptr k xs i j) 0=some (.fptr k xs i (j+0))):=IM (by kernel_rfl:J3 Tryz.prog 107 0 0=true)
theorem U1:∀h a i,GN Tryz.prog h 109 a i=J8 16 h a i:=IY (by kernel_rfl:Tryz.prog.underlying 109=some (.slice 74)) sz74
theorem A1V:(∀m k xs,LX Tryz.prog 109 (.sl m k xs)=some (.int .i64 xs.length))∧∀b off len,LX Tryz.prog 109 (.own b off len)=some (.int .i64 len):=PO (by kernel_rfl:Tryz.prog.underlying 109=some (.slice 74))
theorem ud109:Tryz.prog.underlying 109=some (.slice 74):=by kernel_rfl
theorem ZN:(∀b i j,CZ Tryz.prog 132 (.ptr b i j) 0=some (.ptr b i (j+0)))∧(∀k xs i j,CZ Tryz.prog 132 (.fptr k xs i j) 0=some (.fptr k xs i (j+0))):=IM (by kernel_rfl:J3 Tryz.prog 132 0 0=true)
theorem ZM:(∀b i j,CZ Tryz.prog 132 (.ptr b i j) 1=some (.ptr b i (j+1)))∧(∀k xs i j,CZ Tryz.prog 132 (.fptr k xs i j) 1=some (.fptr k xs i (j+1))):=IM (by kernel_rfl:J3 Tryz.prog 132 1 1=true)
theorem ZL:(∀b i j,CZ Tryz.prog 132 (.ptr b i j) 2=some (.ptr b i (j+2)))∧(∀k xs i j,CZ Tryz.prog 132 (.fptr k xs i j) 2=some (.fptr k xs i (j+2))):=IM (by kernel_rfl:J3 Tryz.prog 132 2 2=true)
theorem AX6:∀h a i,GN Tryz.prog h 139 a i=J8 4 h a i:=IY (by kernel_rfl:Tryz.prog.underlying 139=some (.slice 143)) AM9
theorem ANW:(∀m k xs,LX Tryz.prog 139 (.sl m k xs)=some (.int .i64 xs.length))∧∀b off len,LX Tryz.prog 139 (.own b off len)=some (.int .i64 len):=PO (by kernel_rfl:Tryz.prog.underlying 139=some (.slice 143))
theorem WL:(∀b i j,CZ Tryz.prog 141 (.ptr b i j) 0=some (.ptr b i (j+0)))∧(∀k xs i j,CZ Tryz.prog 141 (.fptr k xs i j) 0=some (.fptr k xs i (j+0))):=IM (by kernel_rfl:J3 Tryz.prog 141 0 0=true)
theorem ZK:(∀b i j,CZ Tryz.prog 141 (.ptr b i j) 1=some (.ptr b i (j+1)))∧(∀k xs i j,CZ Tryz.prog 141 (.fptr k xs i j) 1=some (.fptr k xs i (j+1))):=IM (by kernel_rfl:J3 Tryz.prog 141 1 1=true)
theorem PZ:(∀b i j,CZ Tryz.prog 143 (.ptr b i j) 0=some (.ptr b i (j+0)))∧(∀k xs i j,CZ Tryz.prog 143 (.fptr k xs i j) 0=some (.fptr k xs i (j+0))):=IM (by kernel_rfl:J3 Tryz.prog 143 0 0=true)
theorem SN:(∀b i j,CZ Tryz.prog 143 (.ptr b i j) 1=some (.ptr b i (j+1)))∧(∀k xs i j,CZ Tryz.prog 143 (.fptr k xs i j) 1=some (.fptr k xs i (j+1))):=IM (by kernel_rfl:J3 Tryz.prog 143 1 1=true)
theorem ACJ:(∀b i j,CZ Tryz.prog 143 (.ptr b i j) 2=some (.ptr b i (j+2)))∧(∀k xs i j,CZ Tryz.prog 143 (.fptr k xs i j) 2=some (.fptr k xs i (j+2))):=IM (by kernel_rfl:J3 Tryz.prog 143 2 2=true)
theorem A16:∀h a i,GN Tryz.prog h 149 a i=J8 1 h a i:=IY (by kernel_rfl:Tryz.prog.underlying 149=some (.slice 103)) A04
theorem A1U:(∀m k xs,LX Tryz.prog 149 (.sl m k xs)=some (.int .i64 xs.length))∧∀b off len,LX Tryz.prog 149 (.own b off len)=some (.int .i64 len):=PO (by kernel_rfl:Tryz.prog.underlying 149=some (.slice 103))
theorem QQ:(∀b i j,CZ Tryz.prog 175 (.ptr b i j) 0=some (.ptr b i (j+0)))∧(∀k xs i j,CZ Tryz.prog 175 (.fptr k xs i j) 0=some (.fptr k xs i (j+0))):=IM (by kernel_rfl:J3 Tryz.prog 175 0 0=true)
theorem AWM:(∀b i j,CZ Tryz.prog 175 (.ptr b i j) 1=some (.ptr b i (j+1)))∧(∀k xs i j,CZ Tryz.prog 175 (.fptr k xs i j) 1=some (.fptr k xs i (j+1))):=IM (by kernel_rfl:J3 Tryz.prog 175 1 1=true)
theorem AHF:(∀b i j,CZ Tryz.prog 175 (.ptr b i j) 2=some (.ptr b i (j+2)))∧(∀k xs i j,CZ Tryz.prog 175 (.fptr k xs i j) 2=some (.fptr k xs i (j+2))):=IM (by kernel_rfl:J3 Tryz.prog 175 2 2=true)
theorem AWL:(∀b i j,CZ Tryz.prog 179 (.ptr b i j) 0=some (.ptr b i (j+0)))∧(∀k xs i j,CZ Tryz.prog 179 (.fptr k xs i j) 0=some (.fptr k xs i (j+0))):=IM (by kernel_rfl:J3 Tryz.prog 179 0 0=true)
theorem AWK:(∀b i j,CZ Tryz.prog 179 (.ptr b i j) 1=some (.ptr b i (j+1)))∧(∀k xs i j,CZ Tryz.prog 179 (.fptr k xs i j) 1=some (.fptr k xs i (j+1))):=IM (by kernel_rfl:J3 Tryz.prog 179 1 1=true)
theorem AWJ:(∀b i j,CZ Tryz.prog 179 (.ptr b i j) 2=some (.ptr b i (j+2)))∧(∀k xs i j,CZ Tryz.prog 179 (.fptr k xs i j) 2=some (.fptr k xs i (j+2))):=IM (by kernel_rfl:J3 Tryz.prog 179 2 2=true)
theorem AWI:(∀b i j,CZ Tryz.prog 179 (.ptr b i j) 3=some (.ptr b i (j+3)))∧(∀k xs i j,CZ Tryz.prog 179 (.fptr k xs i j) 3=some (.fptr k xs i (j+3))):=IM (by kernel_rfl:J3 Tryz.prog 179 3 3=true)
theorem AWH:(∀b i j,CZ Tryz.prog 179 (.ptr b i j) 4=some (.ptr b i (j+4)))∧(∀k xs i j,CZ Tryz.prog 179 (.fptr k xs i j) 4=some (.fptr k xs i (j+4))):=IM (by kernel_rfl:J3 Tryz.prog 179 4 4=true)
theorem AX5:∀h a i,GN Tryz.prog h 188 a i=J8 1 h a i:=IY (by kernel_rfl:Tryz.prog.underlying 188=some (.slice 23)) A4H
theorem AX1:(∀m k xs,LX Tryz.prog 188 (.sl m k xs)=some (.int .i64 xs.length))∧∀b off len,LX Tryz.prog 188 (.own b off len)=some (.int .i64 len):=PO (by kernel_rfl:Tryz.prog.underlying 188=some (.slice 23))
theorem WJ:(∀b i j,CZ Tryz.prog 199 (.ptr b i j) 0=some (.ptr b i (j+0)))∧(∀k xs i j,CZ Tryz.prog 199 (.fptr k xs i j) 0=some (.fptr k xs i (j+0))):=IM (by kernel_rfl:J3 Tryz.prog 199 0 0=true)
theorem AHE:(∀b i j,CZ Tryz.prog 199 (.ptr b i j) 1=some (.ptr b i (j+1)))∧(∀k xs i j,CZ Tryz.prog 199 (.fptr k xs i j) 1=some (.fptr k xs i (j+1))):=IM (by kernel_rfl:J3 Tryz.prog 199 1 1=true)
theorem ACI:(∀b i j,CZ Tryz.prog 199 (.ptr b i j) 2=some (.ptr b i (j+2)))∧(∀k xs i j,CZ Tryz.prog 199 (.fptr k xs i j) 2=some (.fptr k xs i (j+2))):=IM (by kernel_rfl:J3 Tryz.prog 199 2 2=true)
theorem A2K:∀n,Z8 Tryz.prog 3 5 (.int .i64 n)=some (.int .u8 (IntKind.u8.wrap n)):=fun n=>AJY (ds:=.int .i64) Tryz.prog .i64 n (by kernel_rfl) (by kernel_rfl)
theorem AYD:∀n,Z8 Tryz.prog 5 3 (.int .u8 n)=some (.int .i64 (IntKind.i64.wrap n)):=fun n=>AJY (ds:=.int .u8) Tryz.prog .u8 n (by kernel_rfl) (by kernel_rfl)
noncomputable def En (G:Nat->AV):Env:=⟨Tryz.prog,G,none,fun _ _=>False⟩
theorem enP (G:Nat->AV):(En G).P=Tryz.prog:=rfl
theorem enX (G:Nat->AV):(En G).nox=En G:=rfl
theorem enG (G:Nat->AV):(En G).G=G:=rfl
theorem enM (G:Nat->AV):(En G).P.follows .mixedOrders=true:=by kernel_rfl
theorem acN {E:Env}{f:FuncId}{fn:Func}{c:Code}{args:List AV}{h:Hp}{R:AV->Hp->Prop}(hf:E.P.funcs[f]?=some fn)(hb:fn.body=some c)(hw:awp E Hint.none c (L9 args) h (EK E.P fn.results.toList R))(h0:E.P.follows .mixedOrders=true:=by kernel_rfl)(h1:(fn.name == "runtime.NumGoroutine")=false:=by kernel_rfl) (h2:RH fn.ntmps c=true:=by kernel_rfl) (h3:Nat.ble args.length fn.ntmps=true:=by kernel_rfl):ACalls E f args h R:=IV h0 hf hb h1 h2 (Nat.le_of_ble_eq_true h3) hw
end Go.Proofs.YtgnoolgeijmlaaaGreatDoor.Sm
namespace Go.Proofs.YtgnoolgeijmlaaaGreatDoor.Bins
open Sm
open List renaming drop_eq_getElem_cons→zU
structure Rng where
 lo:Int
 hi:Int
 deriving DecidableEq
def inside (xs:List Rng)(v:Int):Bool:=xs.any fun r=>decide (r.lo<=v)&&decide (v<=r.hi)
theorem AEE {α:Type}(p:α->Bool)(xs:List α)(k:Nat)(h:k<xs.length):(xs.drop k).any p=(p xs[k]||(xs.drop (k+1)).any p):=by
 rw[zU h,List.any_cons]
theorem AWQ {α:Type} [DecidableEq α] {xs ys:List α}{k:Nat}(hx:k<xs.length)(hy:k<ys.length):decide (xs.drop k=ys.drop k)=(decide (xs[k]=ys[k])&&decide (xs.drop (k+1)=ys.drop (k+1))):=by
 rw[zU hx,zU hy,Bool.eq_iff_iff];simp only[decide_eq_true_eq,Bool.and_eq_true,List.cons.injEq]
def bad (r:Rng):Bool:=decide (r.lo<0)||decide (r.lo>r.hi)||decide (r.hi>65535)
theorem cok (f:FuncId)(G:Nat->AV)(hf:(match Tryz.prog.funcs[f]? with|some fn=>fn.body.isSome && !(fn.name == "runtime.NumGoroutine")|none=>false)=true):YI (En G).P f:=by
 have he:(En G).P=Tryz.prog:=rfl;unfold YI;rw[he]
 cases hx:Tryz.prog.funcs[f]? with
 | none=>rw[hx] at hf; cases hf
 | some fn =>
   rw[hx] at hf;simp at hf;exact⟨fn,rfl,by simpa using hf.1,by simpa using hf.2⟩
def qencI (n:Int):List AV:=[.int .i64 n]
theorem encI0 (n:Int):(qencI n)[0]?=some (.int .i64 n):=rfl
end Go.Proofs.YtgnoolgeijmlaaaGreatDoor.Bins
set_option linter.unusedSimpArgs false
set_option maxRecDepth 8000
namespace Go.Proofs.YtgnoolgeijmlaaaGreatDoor.Bins
open Sm
open Bool renaming not_false→jC
open List renaming map_cons→jF,map_nil→jE,append_nil→jD,length_map→jR,all_eq_true→zQ,getElem?_cons_zero→jT
open Nat renaming le_of_ble_eq_true→jH,reduceEqDiff→jA,lt_or_ge→jY,eq_zero_or_pos→qQ
open Option renaming getD_some→jB
def RY (n:Int):Bool:=decide (n≥97)&&decide (n<=122)
def AJT (n:Int):Bool:=decide (n≥48)&&decide (n<=57)
def NU (n:Int):Bool:=RY n||AJT n||(decide (n≥65)&&decide (n<=90))||n==95
theorem ADG (G:Nat->AV)(n:Int)(h:Hp):PCall (En G) 232 [.int .i32 n] h (.bool (RY n)):=by
 refine acN Tryz.func232 rfl ?_;show awp _ _ _ _ _ (EK _ [.tmp 2] _);simp -implicitDefEqProofs only[vQ,CV,BD,↓reduceIte,jA,enX,enP];refine KR (fun ha=>?_) (fun ha=>?_)
 .simp -implicitDefEqProofs only[vQ,CV,BD,NM,↓reduceIte,jA,enP,ha]
  exact⟨by unfold RY; rw[ha]; rfl,trivial⟩
 .simp -implicitDefEqProofs only[vQ,CV,BD,EY,↓reduceIte,jA,ha]
  exact⟨by unfold RY; rw[ha]; rfl,trivial⟩
theorem AL5 (G:Nat->AV)(n:Int)(h:Hp):PCall (En G) 241 [.int .i32 n] h (.bool (AJT n)):=by
 refine acN Tryz.func241 rfl ?_;show awp _ _ _ _ _ (EK _ [.tmp 2] _);simp -implicitDefEqProofs only[vQ,CV,BD,↓reduceIte,jA,enX,enP];refine KR (fun ha=>?_) (fun ha=>?_)
 .simp -implicitDefEqProofs only[vQ,CV,BD,NM,↓reduceIte,jA,enP,ha]
  exact⟨by unfold AJT; rw[ha]; rfl,trivial⟩
 .simp -implicitDefEqProofs only[vQ,CV,BD,EY,↓reduceIte,jA,ha]
  exact⟨by unfold AJT; rw[ha]; rfl,trivial⟩
theorem AFG (G:Nat->AV)(n:Int)(h:Hp):PCall (En G) 224 [.int .u8 n] h (.bool (RY n)):=by
 refine acN Tryz.func224 rfl ?_;show awp _ _ _ _ _ (EK _ [.tmp 2] _);simp -implicitDefEqProofs only[vQ,CV,BD,↓reduceIte,jA,enX,enP];refine KR (fun ha=>?_) (fun ha=>?_)
 .simp -implicitDefEqProofs only[vQ,CV,BD,NM,↓reduceIte,jA,enP,ha]
  exact⟨by unfold RY; rw[ha]; rfl,trivial⟩
 .simp -implicitDefEqProofs only[vQ,CV,BD,EY,↓reduceIte,jA,ha]
  exact⟨by unfold RY; rw[ha]; rfl,trivial⟩
theorem AP3 (G:Nat->AV)(n:Int)(h:Hp):PCall (En G) 240 [.int .u8 n] h (.bool (AJT n)):=by
 refine acN Tryz.func240 rfl ?_;show awp _ _ _ _ _ (EK _ [.tmp 2] _);simp -implicitDefEqProofs only[vQ,CV,BD,↓reduceIte,jA,enX,enP];refine KR (fun ha=>?_) (fun ha=>?_)
 .simp -implicitDefEqProofs only[vQ,CV,BD,NM,↓reduceIte,jA,enP,ha]
  exact⟨by unfold AJT; rw[ha]; rfl,trivial⟩
 .simp -implicitDefEqProofs only[vQ,CV,BD,EY,↓reduceIte,jA,ha]
  exact⟨by unfold AJT; rw[ha]; rfl,trivial⟩
theorem ZE (G:Nat->AV)(n:Int)(h:Hp):PCall (En G) 233 [.int .i32 n] h (.bool (NU n)):=by
 refine acN Tryz.func233 rfl ?_;show awp _ _ _ _ _ (EK _ [.tmp 2] _);simp -implicitDefEqProofs only[vQ,BD,↓reduceIte,jA,enX,enP];refine(ADG G n h).use ?_;simp -implicitDefEqProofs only[vQ,CV,BD,↓reduceIte];refine KR (fun ha=>?_) (fun ha=>?_)
 .simp -implicitDefEqProofs only[vQ,CV,VA,BD,EY,↓reduceIte,jA,ha]
  exact⟨by unfold NU; rw[ha]; rfl,trivial⟩
 simp -implicitDefEqProofs only[vQ,CV,BD,↓reduceIte,jA,ha];refine(AL5 G n h).use ?_;simp -implicitDefEqProofs only[vQ,CV,BD,↓reduceIte,jA];refine KR (fun hb=>?_) (fun hb=>?_)
 .simp -implicitDefEqProofs only[vQ,CV,VA,BD,EY,↓reduceIte,jA,hb]
  exact⟨by unfold NU; rw[ha,hb]; rfl,trivial⟩
 simp -implicitDefEqProofs only[vQ,CV,BD,↓reduceIte,jA,enP,hb];refine KR (fun hc=>?_) (fun hc=>?_)
 .simp -implicitDefEqProofs only[vQ,CV,BD,NM,↓reduceIte,jA,enP,hc]
  refine KR (fun hd=>?_) (fun hd=>?_)
  .simp -implicitDefEqProofs only[vQ,CV,BD,EY,↓reduceIte,jA,hd]
   exact⟨by unfold NU; rw[ha,hb,hc,hd]; rfl,trivial⟩
  .simp -implicitDefEqProofs only[vQ,CV,BD,↓reduceIte,jA,enP,hd]
   exact⟨by unfold NU; rw[ha,hb,hc,hd]; rfl,trivial⟩
 .simp -implicitDefEqProofs only[vQ,CV,BD,EY,↓reduceIte,jA,enP,hc]
  exact⟨by unfold NU; rw[ha,hb,hc]; rfl,trivial⟩
theorem APQ (G:Nat->AV)(n:Int)(h:Hp):PCall (En G) 226 [.int .u8 n] h (.bool (NU n)):=by
 refine acN Tryz.func226 rfl ?_;show awp _ _ _ _ _ (EK _ [.tmp 2] _);simp -implicitDefEqProofs only[vQ,BD,↓reduceIte,jA,enX,enP];refine(AFG G n h).use ?_;simp -implicitDefEqProofs only[vQ,CV,BD,↓reduceIte];refine KR (fun ha=>?_) (fun ha=>?_)
 .simp -implicitDefEqProofs only[vQ,CV,VA,BD,EY,↓reduceIte,jA,ha]
  exact⟨by unfold NU; rw[ha]; rfl,trivial⟩
 simp -implicitDefEqProofs only[vQ,CV,BD,↓reduceIte,jA,ha];refine(AP3 G n h).use ?_;simp -implicitDefEqProofs only[vQ,CV,BD,↓reduceIte,jA];refine KR (fun hb=>?_) (fun hb=>?_)
 .simp -implicitDefEqProofs only[vQ,CV,VA,BD,EY,↓reduceIte,jA,hb]
  exact⟨by unfold NU; rw[ha,hb]; rfl,trivial⟩
 simp -implicitDefEqProofs only[vQ,CV,BD,↓reduceIte,jA,enP,hb];refine KR (fun hc=>?_) (fun hc=>?_)
 .simp -implicitDefEqProofs only[vQ,CV,BD,NM,↓reduceIte,jA,enP,hc]
  refine KR (fun hd=>?_) (fun hd=>?_)
  .simp -implicitDefEqProofs only[vQ,CV,BD,EY,↓reduceIte,jA,hd]
   exact⟨by unfold NU; rw[ha,hb,hc,hd]; rfl,trivial⟩
  .simp -implicitDefEqProofs only[vQ,CV,BD,↓reduceIte,jA,enP,hd]
   exact⟨by unfold NU; rw[ha,hb,hc,hd]; rfl,trivial⟩
 .simp -implicitDefEqProofs only[vQ,CV,BD,EY,↓reduceIte,jA,enP,hc]
  exact⟨by unfold NU; rw[ha,hb,hc]; rfl,trivial⟩
def encStr (s:ByteArray):List AV:=[.str s]
theorem AOA (s:ByteArray):(encStr s)[0]?=some (.str s):=rfl
def LJ (xs:List ByteArray)(v:ByteArray):Bool:=xs.any fun u=>v.toList==u.toList
theorem AWA (G:Nat->AV)(xs:List ByteArray)(m:SM)(v:ByteArray)(h:Hp)(hl:xs.length<=1099511627776) :
  PCall (En G) 238 [.sl m 1 (xs.map encStr),.str v] h (.bool (LJ xs v)):=by
 refine acN Tryz.func238 rfl ?_;show awp _ _ _ _ _ (EK _ [.tmp 4] _);simp -implicitDefEqProofs only[vQ,BD,enX,enP];refine D7 (fun n F H=>∃k,n+k=xs.length∧F 0=.sl m 1 (xs.map encStr)∧F 1=.str v∧F 5=.int .i64 (k:Nat)∧H=h∧LJ xs v=LJ (xs.drop k) v) xs.length ⟨0,by simp,rfl,rfl,rfl,rfl,rfl⟩ ?_;rintro n F H ⟨k,hk,f0,f1,f5,rfl,hin⟩;simp -implicitDefEqProofs only[vQ,BD,↓reduceIte,jA,enP,Y6,f0,f1,f5,jR];refine C9 (fun hc=>?_) (fun hc=>?_)
 .have hc':k<xs.length:=by simpa using hc
  have hs:LJ (xs.drop k) v=((v.toList==xs[k].toList)||LJ (xs.drop (k+1)) v):=AEE _ xs k hc';simp -implicitDefEqProofs only[vQ,BD,LH,↓reduceIte,jA,enP,ALK,f0,f1,f5,EZ hc',FX ag9 hc',AOA];refine C9 (fun hb=>?_) (fun hb=>?_)
  .simp -implicitDefEqProofs only[vQ,BD,↓reduceIte]
   refine⟨?_,trivial⟩;rw[hin,hs,show(v.toList==xs[k].toList)=true by rw[BEq.comm]; exact hb]; rfl
  .simp -implicitDefEqProofs only[vQ,BD,↓reduceIte,jA,enP,f5,wrap_succ (show k<9223372036854775807 by omega)]
   refine⟨n-1,by omega,k+1,by omega,f0,f1,rfl,trivial,?_⟩;rw[hin,hs,show(v.toList==xs[k].toList)=false by rw[BEq.comm]; exact hb]; rfl
 .have hc':¬k<xs.length:=by simpa using hc
  simp -implicitDefEqProofs only[vQ,BD,↓reduceIte];exact⟨by rw[hin,List.drop_eq_nil_of_le (by omega)]; rfl,trivial⟩
theorem index_prog (G:Nat->AV)(xs:List ByteArray)(m:SM)(v:ByteArray)(h:Hp)(hl:xs.length<=1099511627776) :
  ∃i:Int,(decide (i≥0)=LJ xs v)∧PCall (En G) 237 [.sl m 1 (xs.map encStr),.str v] h (.int .i64 i):=by
 refine⟨(match xs.findIdx? (fun u=>v.toList==u.toList) with|some i=>(i:Int)|none => -1),?_,?_⟩
 .cases hx:xs.findIdx? (fun u=>v.toList==u.toList) with
  | some i =>
    obtain⟨h1,h2,_⟩:=List.findIdx?_eq_some_iff_getElem.1 hx;have:LJ xs v=true:=List.any_eq_true.2 ⟨xs[i],by simp,h2⟩;simp [this]
  | none =>
    have:LJ xs v=false:=by
     rw[List.findIdx?_eq_none_iff] at hx;unfold LJ;rw[List.any_eq_false]; intro x hx2; simp only[hx x hx2]; simp
    simp [this]
 refine acN Tryz.func237 rfl ?_;show awp _ _ _ _ _ (EK _ [.tmp 4] _);simp -implicitDefEqProofs only[vQ,BD,↓reduceIte,jA,enX,enP,Y6,jR];refine D7 (fun n F H=>∃k,n+k=xs.length∧F 0=.sl m 1 (xs.map encStr)∧F 1=.str v∧F 7=.int .i64 xs.length∧F 8=.int .i64 (k:Nat)∧H=h∧(xs.take k).all (fun u => !(v.toList==u.toList))=true) xs.length ⟨0,by simp,rfl,rfl,rfl,rfl,rfl,rfl⟩ ?_;rintro n F H ⟨k,hk,f0,f1,f7,f8,rfl,hin⟩;simp -implicitDefEqProofs only[vQ,BD,↓reduceIte,enP,f0,f1,f7,f8,jR];refine C9 (fun hc=>?_) (fun hc=>?_)
 .have hc':k<xs.length:=by simpa using hc
  simp -implicitDefEqProofs only[vQ,BD,LH,↓reduceIte,jA,enP,ALK,f0,f1,f7,f8,EZ hc',FX ag9 hc',AOA];refine C9 (fun hb=>?_) (fun hb=>?_)
  .simp -implicitDefEqProofs only[vQ,BD,↓reduceIte,jA]
   refine⟨?_,trivial⟩
   rw[List.findIdx?_eq_some_iff_getElem.2 ⟨hc',hb,fun j hj=>by
    rw[zQ] at hin;have:=hin xs[j] (by rw[List.mem_take_iff_getElem]; exact⟨j,by omega,rfl⟩)
    simpa using this⟩]
  .simp -implicitDefEqProofs only[vQ,BD,↓reduceIte,jA,enP,f8,wrap_succ (show k<9223372036854775807 by omega)]
   refine⟨n-1,by omega,k+1,by omega,f0,f1,f7,rfl,trivial,?_⟩;rw[List.take_succ_eq_append_getElem hc',List.all_append,hin];simp only[List.all_cons,List.all_nil,hb]; rfl
 .have hc':¬k<xs.length:=by simpa using hc
  simp -implicitDefEqProofs only[vQ,BD,↓reduceIte];refine⟨?_,trivial⟩;rw[List.take_of_length_le (by omega)] at hin
  rw[List.findIdx?_eq_none_iff.2 (by
   intro x hx;rw[zQ] at hin
   simpa using hin x hx)]
theorem AE3 (G:Nat->AV)(xs:List ByteArray)(m:SM)(v:ByteArray)(h:Hp)(hl:xs.length<=1099511627776) :
  PCall (En G) 218 [.sl m 1 (xs.map encStr),.str v] h (.bool (LJ xs v)):=by
 obtain⟨i,hi,hp⟩:=index_prog G xs m v h hl;refine acN Tryz.func218 rfl ?_;show awp _ _ _ _ _ (EK _ [.tmp 4] _);simp -implicitDefEqProofs only[vQ,BD,↓reduceIte,jA,enX,enP];refine hp.use ?_;simp -implicitDefEqProofs only[vQ,BD,↓reduceIte,enP];exact⟨by rw[hi],trivial⟩
def kw:List ByteArray:=[⟨#[99,108,97,115,115]⟩,⟨#[101,120,116,101,110,100,115]⟩,⟨#[114,97,110,100]⟩,⟨#[114,97,110,100,99]⟩,⟨#[115,116,97,116,101]⟩,⟨#[99,111,110,115,116,114,97,105,110,116]⟩,⟨#[115,111,102,116]⟩,⟨#[100,105,115,116]⟩,⟨#[105,102]⟩,⟨#[101,108,115,101]⟩,⟨#[101,97,99,104]⟩,⟨#[105,110]⟩,⟨#[115,111,108,118,101]⟩,⟨#[98,101,102,111,114,101]⟩,⟨#[105,110,115,105,100,101]⟩,⟨#[112,114,111,112,101,114,116,121]⟩,⟨#[115,101,113]⟩,⟨#[97,110,100]⟩,⟨#[111,114]⟩,⟨#[110,111,116]⟩,⟨#[115,101,116]⟩,⟨#[104,111,108,100]⟩,⟨#[112,108,97,105,110]⟩,⟨#[114,101,112,101,97,116]⟩]
theorem ASC:kw.length=24:=rfl
theorem AG1 (G:Nat->AV)(h:Hp):PCall (En G) 239 [] h (.sl .full 1 (kw.map encStr)):=by
 refine acN Tryz.func239 rfl ?_;show awp _ _ _ _ _ (EK _ [.tmp 0] _);simp -implicitDefEqProofs only[vQ,BD,enX,enP];refine AFR (v:=.sl .full 1 (kw.map encStr)) (h:=h) (by kernel_rfl) ?_;simp -implicitDefEqProofs only[vQ,BD,↓reduceIte];exact⟨trivial,trivial⟩
theorem AEZ (G:Nat->AV)(v:ByteArray)(h:Hp):PCall (En G) 225 [.str v] h (.bool (LJ kw v)):=by
 refine acN Tryz.func225 rfl ?_;show awp _ _ _ _ _ (EK _ [.tmp 2] _);simp -implicitDefEqProofs only[vQ,BD,enX,enP];refine(AG1 G h).use ?_;simp -implicitDefEqProofs only[vQ,BD,↓reduceIte,jA];refine(AWA G kw .full v h (by rw[ASC]; omega)).use ?_;simp -implicitDefEqProofs only[vQ,BD,↓reduceIte];exact⟨trivial,trivial⟩
def KwG (G:Nat->AV):Prop:=∃m,G 0=.fptr 1 [[.sl m 1 (kw.map encStr)]] 0 0
theorem ADJ (G:Nat->AV)(hG:KwG G)(v:ByteArray)(h:Hp):PCall (En G) 213 [.str v] h (.bool (LJ kw v)):=by
 obtain⟨m,hg⟩:=hG;refine acN Tryz.func213 rfl ?_;show awp _ _ _ _ _ (EK _ [.tmp 2] _);have e:DF Tryz.prog h 97 (G 0)=some (.sl m 1 (kw.map encStr)):=by rw[hg]; exact AR7 AQC rfl rfl
 have hl:kw.length<=1099511627776:=by rw[ASC]; omega
 simp -implicitDefEqProofs only[vQ,BD,AWO,↓reduceIte,jA,enX,enP,enG,e];refine(AE3 G kw m v h hl).use ?_;simp -implicitDefEqProofs only[vQ,BD,↓reduceIte];exact⟨trivial,trivial⟩
def TE (s:ByteArray):Bool:=(match s.data.toList with|[]=>false|b::_=>RY b.toNat)&&s.data.toList.all fun b=>NU b.toNat
def I4 (s:ByteArray):Bool:=TE s&&decide (s.size<=16) && !LJ kw s
theorem AAR {n:Int}(h:NU n=true):n<128:=by
 simp only[NU,RY,AJT,Bool.or_eq_true,Bool.and_eq_true,decide_eq_true_eq,beq_iff_eq] at h;omega
theorem AVC (h:Hp)(s:ByteArray):ABE Tryz.prog h 9 (.str s)=some (.ptr h.length 0 0,h++[.iter s 0]):=by
 have:Tryz.prog.underlying 9=some .string:=by kernel_rfl
 simp [ABE,this]
theorem AVS {h:Hp}{s:ByteArray}{pos:Nat}(hp:pos<s.size):ABU (h++[.iter s pos]) (.ptr h.length 0 0) true=some (.tup [.bool true,.int .i64 pos,.int .i32 (Utf8.decode s pos).1],h++[.iter s (pos+(Utf8.decode s pos).2)]):=by
 simp [ABU,hp]
theorem ARZ {h:Hp}{s:ByteArray}{pos:Nat}(hp:¬pos<s.size):ABU (h++[.iter s pos]) (.ptr h.length 0 0) true=some (.tup [.bool false],h++[.iter s pos]):=by
 simp [ABU,hp]
theorem TZ {s:ByteArray}{k:Nat}(hk:k<s.size)(hb:NU (s[k]'hk).toNat=false):TE s=false:=by
 unfold TE
 have:(s.data.toList.all fun b=>NU b.toNat)=false:=by
  rw[List.all_eq_false];exact⟨s[k],Array.getElem_mem_toList (xs:=s.data) hk,by simp [hb]⟩
 rw[this]; simp
theorem ABK {s:ByteArray}(hk:0<s.size)(hb:RY (s[0]'hk).toNat=false):TE s=false:=by
 unfold TE
 have:(match s.data.toList with|[]=>false|b::_=>RY b.toNat)=false:=by
  cases hl:s.data.toList with
  | nil=>rfl
  | cons b l =>
    have h0:s[0]'hk=b:=by
     have:s.data.toList[0]?=some b:=by rw[hl]; rfl
     have h2:s.data[0]?=some b:=by rw[<-Array.getElem?_toList]; exact this
     have hk':0<s.data.size:=hk;rw[Array.getElem?_eq_getElem hk'] at h2;exact Option.some.inj h2
    simp only;rw[<-h0]; exact hb
 rw[this]; simp
theorem AH7 {s:ByteArray}(hk:0<s.size)(hb:RY (s[0]'hk).toNat=true)(ha:∀i (hi:i<s.size),NU (s[i]'hi).toNat=true):TE s=true:=by
 unfold TE
 have h1:(match s.data.toList with|[]=>false|b::_=>RY b.toNat)=true:=by
  cases hl:s.data.toList with
  | nil =>
    have:s.data.toList.length=0:=by rw[hl]; rfl
    have h2:s.data.size=0:=by simpa using this
    have h3:s.size=s.data.size:=rfl;omega
  | cons b l =>
    have h0:s[0]'hk=b:=by
     have:s.data.toList[0]?=some b:=by rw[hl]; rfl
     have h2:s.data[0]?=some b:=by rw[<-Array.getElem?_toList]; exact this
     have hk':0<s.data.size:=hk;rw[Array.getElem?_eq_getElem hk'] at h2;exact Option.some.inj h2
    simp only;rw[<-h0]; exact hb
 rw[h1,Bool.true_and,zQ];intro b hbm;obtain⟨i,hi,rfl⟩:=List.getElem_of_mem hbm;have hi':i<s.size:=by simpa using hi
 exact ha i hi'
theorem word_prog (G:Nat->AV)(s:ByteArray)(h:Hp)(hl:s.size<=1099511627776):PCall (En G) 212 [.str s] h (.bool (TE s)):=by
 refine ACalls.pure0 rfl ?_;refine acN Tryz.func212 rfl ?_;show awp _ _ _ _ _ (EK _ [.tmp 2] _);simp -implicitDefEqProofs only[vQ,BD,AUQ,↓reduceIte,jA,enP,AVC];refine D7 (fun n F H=>∃k,n+k=s.size∧F 0=.str s∧F 6=.ptr h.length 0 0∧H=h++[.iter s k]∧(∀i (hi:i<s.size),i<k->NU (s[i]'hi).toNat=true)∧(∀hp:0<s.size,0<k->RY (s[0]'hp).toNat=true)) s.size ⟨0,by simp,rfl,by simp -implicitDefEqProofs only[AA,↓reduceIte],rfl,fun _ _ h=>absurd h (by omega),fun _ h=>absurd h (by omega)⟩ ?_;rintro n F H ⟨k,hk,f0,f6,rfl,hall,h0⟩;rcases Classical.em (k<s.size) with hp|hp
 .have go:∀(r:Nat×Nat),Utf8.decode s k=r->(NU r.1=true->r=((s[k]'hp).toNat,1)∧NU (s[k]'hp).toNat=true)∧(NU r.1=false->TE s=false)∧(RY r.1=false->k=0->TE s=false)∧(RY r.1=true->NU r.1=true):=by
   rintro r rfl;have lf:∀n,RY n=true->NU n=true:=fun n hn=>by unfold NU; rw[hn]; rfl
   rcases jY (s[k]'hp).toNat 128 with ha|ha
   .have hd:=decode_ascii s k hp ha
    rw[hd];exact⟨fun hf=>⟨rfl,hf⟩,fun hf=>TZ hp hf,fun hf h0=>by subst h0; exact ABK hp hf,lf _⟩
   .have hd:=(decode_high s k hp ha).1
    refine⟨fun hf=>?_,fun _=>?_,fun _ h0=>?_,lf _⟩
    .have:=AAR hf; omega
    .refine TZ hp ?_
     cases hf:NU (s[k]'hp).toNat with
     | false=>rfl
     | true=>have:=AAR hf; omega
    .refine TZ hp ?_
     cases hf:NU (s[k]'hp).toNat with
     | false=>rfl
     | true=>have:=AAR hf; omega
  simp -implicitDefEqProofs only[vQ,jT,List.getElem?_cons_succ,CV,BD,AQN,↓reduceIte,jA,enP,f0,f6,AVS hp];generalize hr:Utf8.decode s k=r at go;obtain⟨g1,g2,g3,g4⟩:=go r rfl
  have done:∀H',NU r.1=true->(k=0->RY r.1=true)->H'=h++[ABlk.iter s (k+r.2)]->∃m,m<n∧∃k',m+k'=s.size∧H'=h++[.iter s k']∧(∀i (hi:i<s.size),i<k'->NU (s[i]'hi).toNat=true)∧(∀hp:0<s.size,0<k'->RY (s[0]'hp).toNat=true):=by
   intro H' hf hlw hH;obtain⟨e1,e2⟩:=g1 hf;refine⟨n-1,by omega,k+1,by omega,by rw[hH,e1],fun i hi hik=>?_,fun hp0 _=>?_⟩
   .rcases jY i k with h'|h'
    .exact hall i hi h'
    .have:i=k:=by omega
     subst this; exact e2
   .rcases qQ k with h'|h'
    .subst h'; have:=hlw rfl; rw[e1] at this; exact this
    .exact h0 hp0 h'
  refine KR (fun ha=>?_) (fun ha=>?_)
  .have hk0:k=0:=by simp at ha; omega
   simp -implicitDefEqProofs only[vQ,CV,BD,↓reduceIte,jA,ha];refine(ADG G _ _).use ?_;simp -implicitDefEqProofs only[vQ,CV,BD,↓reduceIte,jA];refine KR (fun hb=>?_) (fun hb=>?_)
   .simp -implicitDefEqProofs only[vQ,CV,BD,EY,↓reduceIte,jA,hb]
    have hlw:RY r.1=false:=by simpa using hb
    exact⟨by rw[g3 hlw hk0],_,rfl⟩
   have hlw:RY r.1=true:=by simpa using hb
   simp -implicitDefEqProofs only[vQ,CV,BD,↓reduceIte,jA,hb];refine(ZE G _ _).use ?_;simp -implicitDefEqProofs only[vQ,CV,BD,↓reduceIte,jA];have hf:=g4 hlw;simp -implicitDefEqProofs only[vQ,↓reduceIte,jA,Bool.not_true,hf];obtain⟨m,h1,k',h2,h3,h4,h5⟩:=done _ hf (fun _=>hlw) rfl;exact⟨m,h1,k',h2,f0,f6,h3,h4,h5⟩
  .have hk0:k≠0:=by intro e; subst e; simp at ha
   simp -implicitDefEqProofs only[vQ,CV,BD,EY,↓reduceIte,jA,ha];refine(ZE G _ _).use ?_;simp -implicitDefEqProofs only[vQ,CV,BD,↓reduceIte,jA];refine C9 (fun hb=>?_) (fun hb=>?_)
   .have hf:NU r.1=false:=by simpa using hb
    simp -implicitDefEqProofs only[vQ,BD,↓reduceIte];exact⟨by rw[g2 hf],_,rfl⟩
   .have hf:NU r.1=true:=by simpa using hb
    simp -implicitDefEqProofs only[vQ,↓reduceIte,jA];obtain⟨m,h1,k',h2,h3,h4,h5⟩:=done _ hf (fun e=>absurd e hk0) rfl;exact⟨m,h1,k',h2,f0,f6,h3,h4,h5⟩
 .simp -implicitDefEqProofs only[vQ,jT,BD,AQN,VU,↓reduceIte,jA,enP,f0,f6,ARZ hp]
  have hks:k=s.size:=by omega
  refine⟨?_,_,rfl⟩;congr 1;rcases qQ s.size with hz|hz
  .have:s=⟨#[]⟩:=by
    obtain⟨d⟩:=s;have:d.size=0:=hz;rw[Array.eq_empty_of_size_eq_zero this]
   subst this;rw[ByteArray.toList_eq];rfl
  .rw[AH7 hz (h0 hz (by omega)) (fun i hi=>hall i hi (by omega))]
   have hne:s.toList≠[]:=by
    rw[ByteArray.toList_eq];intro e;have:s.data.toList.length=0:=by rw[e]; rfl
    have h2:s.data.size=0:=by simpa using this
    have h3:s.size=s.data.size:=rfl;omega
   cases hl2:s.toList with
   | nil=>exact absurd hl2 hne
   | cons=>rw[ByteArray.toList_eq]; rfl
theorem QC (G:Nat->AV)(hG:KwG G)(s:ByteArray)(h:Hp)(hl:s.size<=1099511627776):PCall (En G) 170 [.str s] h (.bool (I4 s)):=by
 refine acN Tryz.func170 rfl ?_;show awp _ _ _ _ _ (EK _ [.tmp 2] _);simp -implicitDefEqProofs only[vQ,BD,↓reduceIte,jA,enX,enP];refine(word_prog G s h hl).use ?_;simp -implicitDefEqProofs only[vQ,CV,BD,↓reduceIte];refine KR (fun ha=>?_) (fun ha=>?_)
 .simp -implicitDefEqProofs only[vQ,CV,BD,NM,↓reduceIte,jA,enP,ln9,ha]
  refine KR (fun hb=>?_) (fun hb=>?_)
  .simp -implicitDefEqProofs only[vQ,CV,BD,↓reduceIte,jA,hb]
   refine(ADJ G hG s h).use ?_;simp -implicitDefEqProofs only[vQ,CV,BD,↓reduceIte,jA];refine⟨?_,trivial⟩;have:decide (s.size<=16)=true:=by simp at hb|-; omega
   unfold I4; rw[ha,this]; rfl
  .simp -implicitDefEqProofs only[vQ,CV,BD,EY,↓reduceIte,jA,hb]
   refine⟨?_,trivial⟩;have:decide (s.size<=16)=false:=by simp at hb|-; omega
   unfold I4; rw[ha,this]; rfl
 .simp -implicitDefEqProofs only[vQ,CV,BD,EY,↓reduceIte,jA,ha]
  exact⟨by unfold I4; rw[ha]; rfl,trivial⟩
theorem ix9 (s:ByteArray)(k:Nat)(kk:IntKind)(hk:k<s.size):O9 Tryz.prog 9 (.str s) (.int kk (k:Int))=some (.int .u8 (s[k]'hk).toNat):=by
 have hu:Tryz.prog.underlying 9=some .string:=by kernel_rfl
 have h0:(0:Int)<=(k:Int):=by omega
 have:s[k]?=some (s[k]'hk):=by simp [hk]
 simp [O9,hu,h0,this]
theorem Q4 (G:Nat->AV)(s:ByteArray)(h:Hp):PCall (En G) 195 [.str s] h (.bool (I4 s)):=by
 refine acN Tryz.func195 rfl ?_;show awp _ _ _ _ _ (EK _ [.tmp 2] _);simp -implicitDefEqProofs only[vQ,CV,BD,LH,↓reduceIte,jA,enX,enP];refine KR (fun ha=>?_) (fun ha=>?_)
 .simp -implicitDefEqProofs only[vQ,CV,BD,EY,↓reduceIte,jA,ha]
  refine⟨?_,trivial⟩
  have:s.data.toList=[]:=by
   rw[ByteArray.toList_eq,ByteArray.toList_eq] at ha;have:=beq_iff_eq.1 ha;exact this
  unfold I4 TE; rw[this]; rfl
 have hz:0<s.size:=by
  rcases qQ s.size with hz|hz
  .have:s=⟨#[]⟩:=by
    obtain⟨d⟩:=s;have:d.size=0:=hz;rw[Array.eq_empty_of_size_eq_zero this]
   rw[this] at ha;simp at ha
  .exact hz
 simp -implicitDefEqProofs only[vQ,CV,BD,↓reduceIte,jA,enP,ln9,ha];refine KR (fun hb=>?_) (fun hb=>?_)
 .simp -implicitDefEqProofs only[vQ,CV,BD,EY,↓reduceIte,jA,hb]
  refine⟨?_,trivial⟩;have:decide (s.size<=16)=false:=by simp at hb|-; omega
  unfold I4; rw[this]; simp
 have h16:decide (s.size<=16)=true:=by simp at hb|-; omega
 simp -implicitDefEqProofs only[vQ,CV,BD,NI,↓reduceIte,jA,enP,hb];refine AFR (v:=.int .u8 (s[0]'hz).toNat) (h:=h) (by rw[show(0:Int)=((0:Nat):Int) from rfl,ix9 s 0 .i64 hz]; rfl) ?_;simp -implicitDefEqProofs only[vQ,CV,BD,↓reduceIte,jA];refine(AFG G _ h).use ?_;simp -implicitDefEqProofs only[vQ,CV,BD,↓reduceIte,jA];refine KR (fun hc=>?_) (fun hc=>?_)
 .simp -implicitDefEqProofs only[vQ,CV,BD,EY,↓reduceIte,jA,hc]
  refine⟨?_,trivial⟩;unfold I4; rw[ABK hz (by simpa using hc)]; rfl
 simp -implicitDefEqProofs only[vQ,CV,BD,↓reduceIte,jA,hc];refine(AEZ G s h).use ?_;simp -implicitDefEqProofs only[vQ,BD,↓reduceIte,jA];refine C9 (fun hd=>?_) (fun hd=>?_)
 .simp -implicitDefEqProofs only[vQ,BD,↓reduceIte]
  refine⟨?_,trivial⟩;unfold I4; rw[hd]; simp
 simp -implicitDefEqProofs only[vQ,BD];have hlow:RY (s[0]'hz).toNat=true:=by simpa using hc
 refine D7 (fun n F H=>∃k,n+k=s.size∧F 0=.str s∧F 3=.int .i64 (k:Nat)∧H=h∧(∀i (hi:i<s.size),i<k->NU (s[i]'hi).toNat=true)) s.size ⟨0,by simp,by simp -implicitDefEqProofs only[vQ,↓reduceIte,jA],by simp -implicitDefEqProofs only[AA,↓reduceIte]; rfl,rfl,fun _ _ h=>absurd h (by omega)⟩ ?_;rintro n F H ⟨k,hk,f0,f3,rfl,hall⟩;simp -implicitDefEqProofs only[vQ,BD,↓reduceIte,jA,enP,ln9,f0,f3];refine C9 (fun he=>?_) (fun he=>?_)
 .have hk':k<s.size:=by simpa using he
  simp -implicitDefEqProofs only[vQ,BD,NI,↓reduceIte,jA,enP,f0,f3,ix9 s k .i64 hk'];refine(APQ G _ _).use ?_;simp -implicitDefEqProofs only[vQ,BD,↓reduceIte];refine C9 (fun hf=>?_) (fun hf=>?_)
  .simp -implicitDefEqProofs only[vQ,BD,↓reduceIte]
   refine⟨?_,trivial⟩;unfold I4; rw[TZ hk' (by simpa using hf)]; rfl
  .simp -implicitDefEqProofs only[vQ,BD,↓reduceIte,jA,enP,f3,wrap_succ (show k<9223372036854775807 by simp at h16; omega)]
   refine⟨n-1,by omega,k+1,by omega,f0,rfl,trivial,fun i hi hik=>?_⟩;rcases jY i k with h'|h'
   .exact hall i hi h'
   .have:i=k:=by omega
    subst this; simpa using hf
 .have hk':¬k<s.size:=by simpa using he
  simp -implicitDefEqProofs only[vQ,BD,↓reduceIte];refine⟨?_,trivial⟩;unfold I4;rw[AH7 hz hlow (fun i hi=>hall i hi (by omega)),h16,hd]; rfl
end Go.Proofs.YtgnoolgeijmlaaaGreatDoor.Bins
namespace Go.Proofs.YtgnoolgeijmlaaaGreatDoor.Cov
open Sm Bins
open Bool renaming not_false→jC
open Int renaming reduceBEq→zG
open List renaming drop_zero→qL,take_of_length_le→zH
open Nat renaming le_refl→jP,le_of_ble_eq_true→jH,reduceEqDiff→jA,add_zero→jL
open Option renaming getD_some→jB
inductive Ex where
 | mk (op n:Int) (name:ByteArray) (m:SM) (args:List Ex)
def Ex.op:Ex->Int|.mk op _ _ _ _=>op
def Ex.n:Ex->Int|.mk _ n _ _ _=>n
def Ex.name:Ex->ByteArray|.mk _ _ name _ _=>name
def Ex.m:Ex->SM|.mk _ _ _ m _=>m
def Ex.args:Ex->List Ex|.mk _ _ _ _ args=>args
mutual
def EF:Ex->List AV
 | .mk op n name m args=>[.int .i64 op,.int .i64 n,.str name,.sl m 4 (AJQ args)]
def AJQ:List Ex->List (List AV)
 | []=>[]
 | e::es=>EF e::AJQ es
end
theorem AFY:∀l:List Ex,AJQ l=l.map EF
 | []=>by simp [AJQ]
 | e::es=>by simp [AJQ,AFY es]
theorem O5 (e:Ex):EF e=[.int .i64 e.op,.int .i64 e.n,.str e.name,.sl e.m 4 (e.args.map EF)]:=by
 cases e; simp [EF,AFY,Ex.op,Ex.n,Ex.name,Ex.m,Ex.args]
theorem IZ (e:Ex):(EF e).length=4:=by rw[O5]; rfl
theorem J9 (e:Ex):(EF e)[0]?=some (.int .i64 e.op):=by rw[O5]; rfl
theorem ZQ (e:Ex):(EF e)[1]?=some (.int .i64 e.n):=by rw[O5]; rfl
theorem PH (e:Ex):(EF e)[2]?=some (.str e.name):=by rw[O5]; rfl
theorem VQ (e:Ex):(EF e)[3]?=some (.sl e.m 4 (e.args.map EF)):=by rw[O5]; rfl
theorem AFZ (e:Ex):(EF e).all AV.leaf=true:=by rw[O5]; rfl
theorem bxE (h:Hp)(e:Ex):MG h (.agg (EF e))=some (.ptr h.length 0 0,h++[.live 4 [EF e]]):=by
 have:=WO (h:=h) (AFZ e);rw[IZ] at this; exact this
theorem ldE (h:Hp)(e:Ex):DF Tryz.prog (h++[.live 4 [EF e]]) 37 (.ptr h.length 0 0)=some (.agg (EF e)):=by
 rw[APM YB RX (by rw[IZ]; exact jP 4)];rw[qL,zH (by rw[IZ]; exact jP 4)]
theorem JH {h:Hp}{b:Nat}{e:Ex}(hb:h[b]?=some (.live 4 [EF e])):DF Tryz.prog h 37 (.ptr b 0 0)=some (.agg (EF e)):=by
 rw[GV YB RX hb rfl (by rw[IZ]; exact jP 4)];rw[qL,zH (by rw[IZ]; exact jP 4)]
mutual
def pre:Ex->List Ex
 | .mk op n name m args=>.mk op n name m args::IR args
def IR:List Ex->List Ex
 | []=>[]
 | e::es=>pre e++IR es
end
mutual
def dep:Ex->Nat
 | .mk _ _ _ _ args=>deps args+1
def deps:List Ex->Nat
 | []=>0
 | e::es=>max (dep e) (deps es)
end
mutual
def wt:Ex->Nat
 | .mk _ _ name _ args=>name.size+1+wts args
def wts:List Ex->Nat
 | []=>0
 | e::es=>wt e+wts es
end
theorem pre_eq (e:Ex):pre e=e::IR e.args:=by cases e; simp [pre,Ex.args]
theorem AA5 (e:Ex):dep e=deps e.args+1:=by cases e; simp [dep,Ex.args]
theorem QU (e:Ex):wt e=e.name.size+1+wts e.args:=by cases e; simp [wt,Ex.args,Ex.name]
theorem MS (xs ys:List Ex):IR (xs++ys)=IR xs++IR ys:=by
 induction xs with
 | nil=>simp [IR]
 | cons x xs ih=>simp [IR,ih]
theorem YK (xs:List Ex):xs.length<=wts xs:=by
 induction xs with
 | nil=>simp [wts]
 | cons x xs ih=>have:=QU x; simp [wts]; omega
theorem V4 {xs:List Ex}{x:Ex}(h:x∈xs):wt x<=wts xs:=by
 induction xs with
 | nil=>cases h
 | cons y ys ih =>
   simp only[wts]
   cases List.mem_cons.1 h with
   | inl e=>subst e; omega
   | inr e=>have:=ih e; omega
theorem AA4 (xs:List Ex)(k:Nat)(h:k<xs.length):deps (xs.take (k+1))=max (deps (xs.take k)) (dep xs[k]):=by
 induction xs generalizing k with
 | nil=>simp at h
 | cons x xs ih =>
   cases k with
   | zero=>simp [deps]
   | succ k =>
     simp only[List.take_succ_cons,deps,List.getElem_cons_succ];rw[ih k (by simpa using h),Nat.max_assoc]
theorem Ex.induct {P:Ex->Prop}(h:∀e:Ex,(∀a∈e.args,P a)->P e)(e:Ex):P e:=by
 have:∀n (e:Ex),wt e<=n->P e:=by
  intro n
  induction n with
  | zero=>intro e he; have:=QU e; omega
  | succ n ih =>
    intro e he;refine h e fun a ha=>ih a ?_
    have h1:=V4 ha;have h2:=QU e;omega
 exact this _ e (jP _)
theorem ATJ (e:Ex):dep e<=wt e:=by
 refine Ex.induct (P:=fun e=>dep e<=wt e) (fun e ih=>?_) e;rw[AA5,QU]
 have:deps e.args<=wts e.args:=by
  generalize e.args=l at ih
  induction l with
  | nil=>simp [deps,wts]
  | cons x l ih2 =>
    have h1:=ih x (by simp);have h2:=ih2 (fun a ha=>ih a (by simp [ha]));simp only[deps,wts]; omega
 omega
theorem XM (e:Ex):(pre e).length<=wt e:=by
 refine Ex.induct (P:=fun e=>(pre e).length<=wt e) (fun e ih=>?_) e;rw[pre_eq,QU]
 have:(IR e.args).length<=wts e.args:=by
  generalize e.args=l at ih
  induction l with
  | nil=>simp [IR,wts]
  | cons x l ih2 =>
    have h1:=ih x (by simp);have h2:=ih2 (fun a ha=>ih a (by simp [ha]));simp only[IR,wts,List.length_append]; omega
 simp; omega
def arity (op:Int):Int:=if op<1∨op>25 then -1 else if op=1∨op=2∨op=24 then 0 else if op=3∨op=4∨op=5∨op=6∨op=25 then 1 else if op=22 then 3 else if op=23 then -1 else 2
set_option maxHeartbeats 2000000 in
theorem AMG (G:Nat->AV)(op:Int)(h:Hp):PCall (En G) 220 [.int .i64 op] h (.int .i64 (arity op)):=by
 refine acN Tryz.func220 rfl ?_;show awp _ _ _ _ _ (EK _ [.tmp 2] _);have hcase:op<1∨op>25∨op=1∨op=2∨op=3∨op=4∨op=5∨op=6∨op=7∨op=8∨op=9∨op=10∨op=11∨op=12∨op=13∨op=14∨op=15∨op=16∨op=17∨op=18∨op=19∨op=20∨op=21∨op=22∨op=23∨op=24∨op=25:=by omega
 rcases hcase with h|h|rfl|rfl|rfl|rfl|rfl|rfl|rfl|rfl|rfl|rfl|rfl|rfl|rfl|rfl|rfl|rfl|rfl|rfl|rfl|rfl|rfl|rfl|rfl|rfl|rfl
 .have hne:∀k:Int,1<=k->(op==k)=false:=fun k hk=>beq_eq_false_iff_ne.2 (by omega)
  have hd:decide (op<1)=true:=by simp; omega
  have ha:arity op = -1:=by unfold arity; rw[if_pos (Or.inl h)]
  rw[ha];simp -implicitDefEqProofs only[vQ,CV,BD,EY,↓reduceIte,jA,enX,enP,hne 1 (by decide),hne 2 (by decide),hne 3 (by decide),hne 4 (by decide),hne 5 (by decide),hne 6 (by decide),hne 7 (by decide),hne 8 (by decide),hne 9 (by decide),hne 10 (by decide),hne 11 (by decide),hne 12 (by decide),hne 13 (by decide),hne 14 (by decide),hne 15 (by decide),hne 16 (by decide),hne 17 (by decide),hne 18 (by decide),hne 19 (by decide),hne 20 (by decide),hne 21 (by decide),hne 22 (by decide),hne 23 (by decide),hne 24 (by decide),hne 25 (by decide),hd];exact⟨trivial,trivial⟩
 .have hne:∀k:Int,k<=25->(op==k)=false:=fun k hk=>beq_eq_false_iff_ne.2 (by omega)
  have hd:decide (op<1)=false:=by simp; omega
  have hd2:decide (op>25)=true:=by simp; omega
  have ha:arity op = -1:=by unfold arity; rw[if_pos (Or.inr h)]
  rw[ha];simp -implicitDefEqProofs only[vQ,CV,BD,↓reduceIte,jA,enX,enP,hne 1 (by decide),hne 2 (by decide),hne 3 (by decide),hne 4 (by decide),hne 5 (by decide),hne 6 (by decide),hne 7 (by decide),hne 8 (by decide),hne 9 (by decide),hne 10 (by decide),hne 11 (by decide),hne 12 (by decide),hne 13 (by decide),hne 14 (by decide),hne 15 (by decide),hne 16 (by decide),hne 17 (by decide),hne 18 (by decide),hne 19 (by decide),hne 20 (by decide),hne 21 (by decide),hne 22 (by decide),hne 23 (by decide),hne 24 (by decide),hne 25 (by decide),hd,hd2];exact⟨trivial,trivial⟩
 all_goals
  simp -implicitDefEqProofs only[vQ,CV,BD,↓reduceIte,jA,decide_false,enX,enP,zG,Int.reduceLT,Int.reduceGT];exact⟨rfl,trivial⟩
set_option maxHeartbeats 2000000 in
theorem AQA (G:Nat->AV)(op:Int)(h:Hp):PCall (En G) 210 [.int .i64 op] h (.int .i64 (arity op)):=by
 refine acN Tryz.func210 rfl ?_;show awp _ _ _ _ _ (EK _ [.tmp 2] _);have hcase:op<1∨op>25∨op=1∨op=2∨op=3∨op=4∨op=5∨op=6∨op=7∨op=8∨op=9∨op=10∨op=11∨op=12∨op=13∨op=14∨op=15∨op=16∨op=17∨op=18∨op=19∨op=20∨op=21∨op=22∨op=23∨op=24∨op=25:=by omega
 rcases hcase with h|h|rfl|rfl|rfl|rfl|rfl|rfl|rfl|rfl|rfl|rfl|rfl|rfl|rfl|rfl|rfl|rfl|rfl|rfl|rfl|rfl|rfl|rfl|rfl|rfl|rfl
 .have hne:∀k:Int,1<=k->(op==k)=false:=fun k hk=>beq_eq_false_iff_ne.2 (by omega)
  have hd:decide (op<1)=true:=by simp; omega
  have ha:arity op = -1:=by unfold arity; rw[if_pos (Or.inl h)]
  rw[ha];simp -implicitDefEqProofs only[vQ,CV,BD,EY,↓reduceIte,jA,enX,enP,hne 1 (by decide),hne 2 (by decide),hne 3 (by decide),hne 4 (by decide),hne 5 (by decide),hne 6 (by decide),hne 7 (by decide),hne 8 (by decide),hne 9 (by decide),hne 10 (by decide),hne 11 (by decide),hne 12 (by decide),hne 13 (by decide),hne 14 (by decide),hne 15 (by decide),hne 16 (by decide),hne 17 (by decide),hne 18 (by decide),hne 19 (by decide),hne 20 (by decide),hne 21 (by decide),hne 22 (by decide),hne 23 (by decide),hne 24 (by decide),hne 25 (by decide),hd];exact⟨trivial,trivial⟩
 .have hne:∀k:Int,k<=25->(op==k)=false:=fun k hk=>beq_eq_false_iff_ne.2 (by omega)
  have hd:decide (op<1)=false:=by simp; omega
  have hd2:decide (op>25)=true:=by simp; omega
  have ha:arity op = -1:=by unfold arity; rw[if_pos (Or.inr h)]
  rw[ha];simp -implicitDefEqProofs only[vQ,CV,BD,↓reduceIte,jA,enX,enP,hne 1 (by decide),hne 2 (by decide),hne 3 (by decide),hne 4 (by decide),hne 5 (by decide),hne 6 (by decide),hne 7 (by decide),hne 8 (by decide),hne 9 (by decide),hne 10 (by decide),hne 11 (by decide),hne 12 (by decide),hne 13 (by decide),hne 14 (by decide),hne 15 (by decide),hne 16 (by decide),hne 17 (by decide),hne 18 (by decide),hne 19 (by decide),hne 20 (by decide),hne 21 (by decide),hne 22 (by decide),hne 23 (by decide),hne 24 (by decide),hne 25 (by decide),hd,hd2];exact⟨trivial,trivial⟩
 all_goals
  simp -implicitDefEqProofs only[vQ,BD,↓reduceIte,jA,enX,enP,zG,Int.reduceLT,Int.reduceGT];exact⟨rfl,trivial⟩
def MV (op:Int):Bool:=op==2||op==3||op==24
theorem AAN (G:Nat->AV)(op:Int)(h:Hp):PCall (En G) 161 [.int .i64 op] h (.bool (MV op)):=by
 refine acN Tryz.func161 rfl ?_;show awp _ _ _ _ _ (EK _ [.tmp 2] _);simp -implicitDefEqProofs only[vQ,CV,BD,↓reduceIte,jA,enX,enP];cases ha:(op==2)<;>cases hb:(op==3)
 all_goals
  simp -implicitDefEqProofs only[vQ,CV,BD,EY,↓reduceIte,jA,enP,ha,hb];exact⟨by simp [MV,ha,hb],trivial⟩
def WS (op:Int)(n:Nat):Bool:=if op==23 then ((n:Int)%2==1)&&decide ((n:Int)≥3)&&decide ((n:Int)<=33) else ((n:Int)==arity op)
theorem AEW (G:Nat->AV)(e:Ex)(h:Hp):PCall (En G) 183 [.agg (EF e)] h (.bool (WS e.op e.args.length)):=by
 refine ACalls.pure0 rfl ?_;refine acN Tryz.func183 rfl ?_;show awp _ _ _ _ _ (EK _ [.tmp 2] _);simp -implicitDefEqProofs only[vQ,BD,↓reduceIte,jA,Nat.zero_add,enP,WT,F7,ND,bxE,E5 VX,E5 ag3,VQ,J9,List.length_map];generalize he:e.args.length=n;have hm:(n:Int).tmod 2=(n:Int)%2:=Int.tmod_eq_emod_of_nonneg (by omega);have b1:JD Tryz.prog 3 .rem (.int .i64 (n:Int)) (.int .i64 2)=some (.int .i64 ((n:Int)%2)):=by rw[ZY _ _ _ _ _ (by decide),hm]
 refine C9 (fun hc=>?_) (fun hc=>?_)
 .simp -implicitDefEqProofs only[vQ,CV,BD,↓reduceIte,jA,enP,b1]
  cases ha:((n:Int)%2==1)<;>cases hb:decide ((n:Int)≥3)
  all_goals
   simp -implicitDefEqProofs only[vQ,CV,BD,EY,NM,↓reduceIte,jA,enP,ha,hb];exact⟨by unfold WS; rw[if_pos hc,ha,hb]; simp,_,rfl⟩
 .simp -implicitDefEqProofs only[vQ,BD,List.map_cons,List.map_nil,List.append_nil,↓reduceIte,jA,enP,F7,E5 ag3,J9]
  refine(AMG G e.op _).use ?_;simp -implicitDefEqProofs only[vQ,BD,↓reduceIte,jA,enP];exact⟨by unfold WS; rw[if_neg (by rw[hc]; decide)],_,rfl⟩
end Go.Proofs.YtgnoolgeijmlaaaGreatDoor.Cov
namespace Go.Proofs.YtgnoolgeijmlaaaGreatDoor.Cov
open Sm Bins Go.Shelf Go.RowKit
open Bool renaming and_eq_true→zB
open Int renaming toNat_natCast→qV
open List renaming take_append_drop→wK,drop_eq_getElem_cons→zU,getElem?_eq_getElem→jX
def ATM:Go.Shelf.Ren:=⟨fun|145=>171|220=>214|219=>234|217=>242|225=>243|224=>244|267=>245|266=>247|314=>248|n=>n,fun|9=>9|4=>4|59=>185|3=>3|5=>5|46=>215|146=>218|51=>217|n=>n,fun|1=>1|n=>n⟩
theorem A5B:Go.Proofs.Lays.n145 Tryz.prog ATM := {
 mixed:=by kernel_rfl,
 f145:=Tryz.func171.trans (congrArg some (by kernel_rfl)),
 f217:=Tryz.func242.trans (congrArg some (by kernel_rfl)),
 f219:=Tryz.func234.trans (congrArg some (by kernel_rfl)),
 f220:=Tryz.func214.trans (congrArg some (by kernel_rfl)),
 f224:=Tryz.func244.trans (congrArg some (by kernel_rfl)),
 f225:=Tryz.func243.trans (congrArg some (by kernel_rfl)),
 f266:=Tryz.func247.trans (congrArg some (by kernel_rfl)),
 f267:=Tryz.func245.trans (congrArg some (by kernel_rfl)),
 f314:=Tryz.func248.trans (congrArg some (by kernel_rfl)),
 t3:=Tryz.underlying3,
 a3:=Tryz.isAgg3,
 z3:=Tryz.sizeOf3,
 v3:=Tryz.zeroValue3,
 t4:=Tryz.underlying4,
 a4:=Tryz.isAgg4,
 z4:=Tryz.sizeOf4,
 v4:=Tryz.zeroValue4,
 t5:=Tryz.underlying5,
 a5:=Tryz.isAgg5,
 z5:=Tryz.sizeOf5,
 v5:=Tryz.zeroValue5,
 t9:=Tryz.underlying9,
 a9:=Tryz.isAgg9,
 z9:=Tryz.sizeOf9,
 v9:=Tryz.zeroValue9,
 t46:=Tryz.underlying215,
 a46:=Tryz.isAgg215,
 z46:=Tryz.sizeOf215,
 v46:=Tryz.zeroValue215,
 t51:=Tryz.underlying217,
 a51:=Tryz.isAgg217,
 z51:=Tryz.sizeOf217,
 v51:=Tryz.zeroValue217,
 t59:=Tryz.underlying185,
 a59:=Tryz.isAgg185,
 z59:=Tryz.sizeOf185,
 v59:=Tryz.zeroValue185,
 t146:=Tryz.underlying218,
 a146:=Tryz.isAgg218,
 z146:=Tryz.sizeOf218,
 v146:=Tryz.zeroValue218,
 g1:=by kernel_rfl }
structure GOk (G:Nat->AV):Prop where
 kw:KwG G
 mx:∃n,G 1=.fptr 1 [[.int .i64 n]] 0 0
theorem ASS {G:Nat->AV}{g:Gh}{h:Hp}{w:World}{n:Nat}{k:IntKind}{z:Int}(S:SimH (En G) g h w)(hn:G n=.fptr 1 [[.int k z]] 0 0):w.cell? ⟨n,0,none⟩=some (.int k z):=by
 have:=S.glob n;rw[enG,hn] at this;generalize hp:Value.pointer (some ⟨n,0,none⟩)=p at this
 cases this with
 | fptr k' xs i j cb co c e fz cv h1 h2 h3 h4 =>
   simp only[Value.pointer.injEq,Option.some.injEq,Addr.mk.injEq] at hp;obtain⟨rfl,hco,_⟩:=hp;have h5:=h3 0 0 (by simp) (by simp);have h6:=h4 0 0 _ _ rfl rfl;generalize cv 0 0=u at h5 h6;cases h6;simp only[World.cell?,S.fro _ _ h1];subst hco;exact h5
def cutV (s:ByteArray):AV:=.tup [.str ⟨(Lib.cut s.data.toList [91]).1.toArray⟩,.str ⟨(Lib.cut s.data.toList [91]).2.1.toArray⟩,.bool (Lib.cut s.data.toList [91]).2.2]
theorem AD3 (G:Nat->AV)(hG:GOk G)(s:ByteArray)(h:Hp)(hl:s.size<=1048576):PCall (En G) 171 [.str s,.str ⟨#[91]⟩] h (cutV s):=by
 refine PCall.of_reads (cok 171 G (by kernel_rfl)) fun g w cargs S ha=>?_
 obtain⟨hsz,hget⟩:=ha
 obtain⟨cv0,cv1,rfl⟩:∃a b,cargs = #[a,b]:=by
  obtain⟨l⟩:=cargs
  match l,hsz with
  | [a,b],_=>exact⟨a,b,rfl⟩
 obtain rfl:=(hget 0 _ cv0 rfl rfl).str_inv;obtain rfl:=(hget 1 _ cv1 rfl rfl).str_inv;obtain⟨z,hz⟩:=hG.mx;have hc:=ASS S hz;have:=Any.strings_Cut A5B s ⟨#[91]⟩ z w (by omega) hc;refine⟨_,?_,this⟩;refine .tup _ _ rfl ?_;intro i v cv h1 h2
 match i,h1,h2 with
 | 0,h1,h2=>simp at h1 h2; subst h1; subst h2; exact .str _ _
 | 1,h1,h2=>simp at h1 h2; subst h1; subst h2; exact .str _ _
 | 2,h1,h2=>simp at h1 h2; subst h1; subst h2; exact .bool _ _
def KG (s:ByteArray):Option (List UInt8×UInt8) :=
 if 4<=s.data.toList.length then match s.data.toList.drop (s.data.toList.length-3) with
  | [x,d,y]=>if(y==93&&x==91&&decide (48<=d.toNat)&&decide (d.toNat<56)&&I4 ⟨(s.data.toList.take (s.data.toList.length-3)).toArray⟩)=true then some (s.data.toList.take (s.data.toList.length-3),d) else none
  | _=>none
 else none
def elemV (o:Option (List UInt8×UInt8)):AV:=match o with
 | some (a,d)=>.tup [.str ⟨a.toArray⟩,.int .i64 ((d.toNat:Int)-48),.bool true]
 | none=>.tup [.str ⟨#[]⟩,.int .i64 0,.bool false]
theorem SL {l:List UInt8}(h:I4 ⟨l.toArray⟩=true):l≠[]∧∀b∈l,b≠91:=by
 have hw:TE ⟨l.toArray⟩=true:=by
  unfold I4 at h;exact(Bool.and_eq_true_iff.1 (Bool.and_eq_true_iff.1 h).1).1
 unfold TE at hw;obtain⟨h1,h2⟩:=Bool.and_eq_true_iff.1 hw;refine⟨?_,?_⟩
 .intro e; subst e; cases h1
 .intro b hb e
  subst e;have:=List.all_eq_true.1 h2 91 hb
  revert this; decide
theorem three {l:List UInt8}(h:3<=l.length):∃a x d y,l=a++[x,d,y]:=by
 refine⟨l.take (l.length-3),?_⟩;have h1:(l.drop (l.length-3)).length=3:=by simp; omega
 match hm:l.drop (l.length-3),h1 with
 | [x,d,y],_=>exact⟨x,d,y,by rw[<-hm,wK]⟩
theorem ZR {a:List UInt8}{x d y:UInt8}(ha:a≠[]):KG ⟨(a++[x,d,y]).toArray⟩=if(y==93&&x==91&&decide (48<=d.toNat)&&decide (d.toNat<56)&&I4 ⟨a.toArray⟩)=true then some (a,d) else none:=by
 have hl:0<a.length:=List.length_pos_iff.2 ha;unfold KG;simp only;rw[if_pos (by simp; omega)];have e:(a++[x,d,y]).length-3=a.length:=by simp
 rw[e,List.drop_left,List.take_left]
theorem AD0 (s:ByteArray):KG s=if((Lib.cut s.data.toList [91]).2.2&&I4 ⟨(Lib.cut s.data.toList [91]).1.toArray⟩)=true then match (Lib.cut s.data.toList [91]).2.1 with
  | [d,y]=>if(y==93&&decide (48<=d.toNat)&&decide (d.toNat<56))=true then some ((Lib.cut s.data.toList [91]).1,d) else none
  | _=>none
 else none:=by
 obtain⟨⟨l⟩⟩:=s
 have hocc:∀i,Lib.occAt l [91] i=true↔l[i]?=some 91:=by
  intro i;unfold Lib.occAt;rcases Nat.lt_or_ge i l.length with h|h
  .rw[zU h,jX h]
   simp [List.isPrefixOf];exact eq_comm
  .rw[List.drop_eq_nil_of_le h,List.getElem?_eq_none h]; simp [List.isPrefixOf]
 -- an element name of the reference's kind
 have main:∀a d,a≠[]->I4 ⟨a.toArray⟩=true->l=a++[91,d,93]->Lib.cut l [91]=(a,[d,93],true):=by
  intro a d ha hn hl;obtain⟨_,hne⟩:=SL hn
  have hi:Lib.index l [91]=(a.length:Int):=by
   refine Lib.index_first (by rw[hl]; simp) ((hocc _).2 (by rw[hl]; simp)) fun j hj=>?_
   rw[<-Bool.not_eq_true,hocc,hl,List.getElem?_append_left hj,jX hj];intro e;exact hne _ (List.getElem_mem hj) (Option.some.inj e)
  unfold Lib.cut;rw[hi,if_pos (by omega),qV,hl,List.take_left,<-List.drop_drop,List.drop_left];rfl
 show KG ⟨l.toArray⟩=_;rcases hcase:KG ⟨l.toArray⟩ with _|⟨a,d⟩
 .symm
  show(if _ then _ else none)=none;simp only;split
  .rename_i hb
   rw[zB] at hb;split
   .rename_i d y hm
    split
    .rename_i hd
     exfalso;simp only[zB,beq_iff_eq,decide_eq_true_eq] at hd;obtain⟨⟨rfl,hd1⟩,hd2⟩:=hd;obtain⟨ha,_⟩:=SL hb.2
     have hc:Lib.cut l [91]=((Lib.cut l [91]).1,[d,93],true):=by
      rw[<-hm]; have:=hb.1; cases hcc:Lib.cut l [91] with
      | mk p q=>cases q with
        | mk q1 q2=>rw[hcc] at this; simp at this; subst this; rfl
     have hl:l=(Lib.cut l [91]).1++[91,d,93]:=by
      generalize (Lib.cut l [91]).1=b at hc;unfold Lib.cut at hc;split at hc
      .rename_i h0
       obtain⟨i,hi⟩:∃i:Nat,Lib.index l [91]=i:=⟨(Lib.index l [91]).toNat,by omega⟩
       rw[hi] at hc;simp only[qV,Prod.mk.injEq,List.length_singleton] at hc;rcases Lib.index_spec l [91] with⟨h1,_⟩|⟨j,h1,_,h3,_⟩
       .omega
       .have hj:i=j:=by omega
        subst hj;have h4:=(hocc i).1 h3;have h5:i<l.length:=(List.getElem?_eq_some_iff.1 h4).1;have h6:l[i]=91:=by rw[jX h5] at h4; exact Option.some.inj h4
        rw[<-hc.1]
        calc l=l.take i++l.drop i:=(wK i l).symm
         _=l.take i++(l[i]::l.drop (i+1)):=by rw[zU h5]
         _=l.take i++[91,d,93]:=by rw[h6,hc.2.1]
      .simp at hc
     have:=ZR (x:=91) (d:=d) (y:=93) ha;rw[<-hl,hcase,if_pos (by simp [hb.2,hd1,hd2])] at this;cases this
    .rfl
   .rfl
  .rfl
 .have h4:4<=l.length:=by
   unfold KG at hcase;simp only at hcase;split at hcase
   .assumption
   .cases hcase
  obtain⟨b,x,d',y,rfl⟩:=three (show 3<=l.length by omega);have hb:b≠[]:=by intro e; subst e; simp at h4
  rw[ZR hb] at hcase;split at hcase
  .rename_i hc
   cases hcase;simp only[zB,beq_iff_eq,decide_eq_true_eq] at hc;obtain⟨⟨⟨⟨rfl,rfl⟩,h1⟩,h2⟩,h3⟩:=hc;simp only;rw[main a d hb h3 rfl];simp [h3,h1,h2]
  .cases hcase
end Go.Proofs.YtgnoolgeijmlaaaGreatDoor.Cov
set_option linter.unusedSimpArgs false
set_option maxRecDepth 8000
namespace Go.Proofs.YtgnoolgeijmlaaaGreatDoor.Cov
open Sm Bins Go.RowKit
open Bool renaming not_false→jC,not_true→jZ,eq_iff_iff→qH
open List renaming length_take→zX,getElem?_eq_getElem→jX,map_cons→jF,map_nil→jE,append_nil→jD,getElem?_cons_zero→jT,getElem?_cons_succ→jU,length_map→jR,getElem?_eq_none→zO,take_append_drop→wK,cons_append→qJ,nil_append→qA
open Nat renaming le_refl→jP,le_of_ble_eq_true→jH,reduceEqDiff→jA,lt_or_ge→jY,add_zero→jL,zero_add→jG
open Option renaming getD_some→jB,getD_none→jO
theorem AOF (l:List UInt8):(Lib.cut l [91]).1.length<=l.length:=by
 unfold Lib.cut;split
 .simp only[zX]; exact Nat.min_le_right _ _
 .exact jP _
theorem ixl {l:List UInt8}{k:Nat}{b:UInt8}{i:Int}(hi:i=(k:Int))(hb:l[k]?=some b):O9 Tryz.prog 9 (.str ⟨l.toArray⟩) (.int .i64 i)=some (.int .u8 b.toNat):=by
 subst hi;have hk:k<l.length:=(List.getElem?_eq_some_iff.1 hb).1;have:=ix9 ⟨l.toArray⟩ k .i64 hk;rw[this];have h2:(⟨l.toArray⟩:ByteArray)[k]'hk=l[k]:=rfl;rw[h2];rw[jX hk] at hb;rw[Option.some.inj hb]
theorem szl (l:List UInt8):(⟨l.toArray⟩:ByteArray).size=l.length:=rfl
theorem wrap_u8 {n:Int}(h0:0<=n)(h1:n<256):IntKind.u8.wrap n=n:=by
 unfold IntKind.wrap; simp [IntKind.bits,IntKind.signed]; omega
theorem AHK (G:Nat->AV)(hG:GOk G)(s:ByteArray)(h:Hp)(hl:s.size<=1048576):PCall (En G) 221 [.str s] h (elemV (KG s)):=by
 refine acN Tryz.func221 rfl ?_;show awp _ _ _ _ _ (EK _ [.tmp 2,.tmp 3,.tmp 4] _);simp -implicitDefEqProofs only[vQ,BD,↓reduceIte,jA,enX,enP];refine(AD3 G hG s h hl).use ?_;have he:=AD0 s;have hal:=AOF s.data.toList;unfold cutV;generalize Lib.cut s.data.toList [91]=c at he hal|-;obtain⟨a,b,f⟩:=c;have hal2:a.length<=s.size:=by simpa using hal
 simp -implicitDefEqProofs only[vQ,jT,jU,CV,BD,↓reduceIte,jA];cases f
 .simp -implicitDefEqProofs only[vQ,O4,CV,BD,EY,↓reduceIte,jA]
  exact⟨by rw[he]; rfl,trivial⟩
 simp -implicitDefEqProofs only[vQ,CV,BD,↓reduceIte,jA,jZ];refine(QC G hG.kw ⟨a.toArray⟩ h (by rw[szl]; omega)).use ?_;simp -implicitDefEqProofs only[vQ,CV,BD,↓reduceIte,jA];cases hn:I4 ⟨a.toArray⟩
 .simp -implicitDefEqProofs only[vQ,O4,CV,BD,EY,↓reduceIte,jA]
  exact⟨by rw[he]; simp [hn]; rfl,trivial⟩
 simp -implicitDefEqProofs only[vQ,CV,BD,↓reduceIte,jA,jZ,enP,ln9,szl];refine KR (fun hb=>?_) (fun hb=>?_)
 .simp -implicitDefEqProofs only[vQ,O4,CV,BD,EY,↓reduceIte,jA,hb]
  have hne:∀d y,b≠[d,y]:=by
   intro d y e; subst e; simp at hb
  have:KG s=none:=by
   rw[he]; split
   .split
    .rename_i hm; exact absurd hm (hne _ _)
    .rfl
   .rfl
  exact⟨by rw[this]; rfl,trivial⟩
 have h2:b.length=2:=by simp at hb; omega
 match b,h2 with
 | [d,y],_ =>
   have i1:O9 Tryz.prog 9 (.str ⟨[d,y].toArray⟩) (.int .i64 1)=some (.int .u8 y.toNat):=ixl (k:=1) rfl rfl;have i0:O9 Tryz.prog 9 (.str ⟨[d,y].toArray⟩) (.int .i64 0)=some (.int .u8 d.toNat):=ixl (k:=0) rfl rfl
   have he2:KG s=if(y==93&&decide (48<=d.toNat)&&decide (d.toNat<56))=true then some (a,d) else none:=by
    rw[he]; simp [hn]
   clear he;simp -implicitDefEqProofs only[vQ,CV,BD,NI,↓reduceIte,jA,enP,hb,i1,i0];refine KR (fun hc=>?_) (fun hc=>?_)
   .simp -implicitDefEqProofs only[vQ,O4,CV,BD,EY,↓reduceIte,jA,hc]
    have hy:(y==93)=false:=by
     rw[<-Bool.not_eq_true]; intro e; rw[beq_iff_eq] at e; subst e; simp at hc
    exact⟨by rw[he2,hy]; rfl,trivial⟩
   have hy:(y==93)=true:=by
    rw[beq_iff_eq,<-UInt8.toNat_inj];simp at hc; show y.toNat=93; omega
   simp -implicitDefEqProofs only[vQ,CV,BD,NI,↓reduceIte,jA,enP,hc,i0];refine KR (fun hd=>?_) (fun hd=>?_)
   .simp -implicitDefEqProofs only[vQ,O4,CV,BD,EY,↓reduceIte,jA,hd]
    have:decide (48<=d.toNat)=false:=by simp at hd|-; omega
    exact⟨by rw[he2,this]; simp; rfl,trivial⟩
   have hd1:48<=d.toNat:=by simp at hd; omega
   simp -implicitDefEqProofs only[vQ,CV,BD,NI,↓reduceIte,jA,enP,hd,i0];refine C9 (fun hf=>?_) (fun hf=>?_)
   .simp -implicitDefEqProofs only[vQ,O4,BD,↓reduceIte,jA]
    have:decide (d.toNat<56)=false:=by simp at hf|-; omega
    exact⟨by rw[he2,this]; simp; rfl,trivial⟩
   have hd2:d.toNat<56:=by simp at hf; omega
   simp -implicitDefEqProofs only[vQ];refine GL (by kernel_rfl) ?_;simp -implicitDefEqProofs only[vQ,AYU,AUN,O4,AKR,NI,LG,↓reduceIte,jA,Nat.reduceAdd,enP,AYD,i0,wrap_u8 (n:=(d.toNat:Int)-48) (by omega) (by omega),wrap_i64 (n:=(d.toNat:Int)-48) (by omega) (by omega)];exact⟨by rw[he2]; simp [hy,hd1,hd2]; rfl,trivial⟩
theorem AC0 {s:ByteArray}{u:Nat}{h:Hp}(hu:u<=s.size):MK Tryz.prog h 9 (.str s) none (some (.int .i64 (u:Int))) none=some (.str (s.extract 0 u)):=by
 have:Tryz.prog.underlying 9=some .string:=by kernel_rfl
 simp [MK,this,KL,hu]
theorem AN9 (a b:List UInt8):(⟨(a++b).toArray⟩:ByteArray).extract 0 a.length=⟨a.toArray⟩:=by
 ext1
 simp
set_option maxHeartbeats 1000000 in
theorem AO3 (G:Nat->AV)(s:ByteArray)(h:Hp)(hl:s.size<=1099511627776):PCall (En G) 231 [.str s] h (elemV (KG s)):=by
 refine acN Tryz.func231 rfl ?_;show awp _ _ _ _ _ (EK _ [.tmp 2,.tmp 3,.tmp 4] _);obtain⟨⟨l⟩⟩:=s;rw[szl] at hl;rcases jY l.length 4 with h4|h4
 .have hd:decide ((l.length:Int)<4)=true:=by simp; omega
  simp -implicitDefEqProofs only[vQ,O4,CV,BD,EY,↓reduceIte,jA,enX,enP,ln9,szl,hd]
  have:KG ⟨l.toArray⟩=none:=by
   unfold KG; rw[if_neg]; simp; omega
  exact⟨by rw[this]; rfl,trivial⟩
 obtain⟨b,x,d,y,rfl⟩:=three (show 3<=l.length by omega);have hlen:(b++[x,d,y]).length=b.length+3:=by simp
 rw[hlen] at hl h4;have hbl:0<b.length:=by omega
 have hb:b≠[]:=List.length_pos_iff.1 hbl;have he:=ZR (x:=x) (d:=d) (y:=y) hb;generalize hn:I4 ⟨b.toArray⟩=nm at he;have i1:O9 Tryz.prog 9 (.str ⟨(b++[x,d,y]).toArray⟩) (.int .i64 ((b.length:Int)+2))=some (.int .u8 y.toNat):=ixl (k:=b.length+2) (by omega) (by simp);have i2:O9 Tryz.prog 9 (.str ⟨(b++[x,d,y]).toArray⟩) (.int .i64 ((b.length:Int)+1))=some (.int .u8 d.toNat):=ixl (k:=b.length+1) (by omega) (by simp);have i3:O9 Tryz.prog 9 (.str ⟨(b++[x,d,y]).toArray⟩) (.int .i64 (b.length:Int))=some (.int .u8 x.toNat):=ixl (k:=b.length) rfl (by simp);have i4:=AC0 (s:=⟨(b++[x,d,y]).toArray⟩) (u:=b.length) (h:=h) (by rw[szl]; omega);rw[AN9] at i4;have hsz:(⟨(b++[x,d,y]).toArray⟩:ByteArray).size=b.length+3:=by rw[szl,hlen]
 generalize (⟨(b++[x,d,y]).toArray⟩:ByteArray)=s at *;have w1:IntKind.i64.wrap (((b.length+3:Nat):Int)-1)=(b.length:Int)+2:=by rw[wrap_i64 (by omega) (by omega)]; omega
 have w2:IntKind.i64.wrap (((b.length+3:Nat):Int)-2)=(b.length:Int)+1:=by rw[wrap_i64 (by omega) (by omega)]; omega
 have w3:IntKind.i64.wrap (((b.length+3:Nat):Int)-3)=(b.length:Int):=by rw[wrap_i64 (by omega) (by omega)]; omega
 have hd8:d.toNat<256:=d.toNat_lt;have w4:IntKind.i64.wrap (d.toNat:Int)=(d.toNat:Int):=wrap_i64 (by omega) (by omega);have w5:IntKind.i64.wrap ((d.toNat:Int)-48)=(d.toNat:Int)-48:=wrap_i64 (by omega) (by omega);have ha:decide (((b.length+3:Nat):Int)<4)=false:=by simp; omega
 simp -implicitDefEqProofs only[vQ,CV,BD,NI,LG,↓reduceIte,jA,enX,enP,ln9,hsz,ha,w1,w2,w3,i1,i2,i3,i4];refine KR (fun hc=>?_) (fun hc=>?_)
 .simp -implicitDefEqProofs only[vQ,O4,CV,BD,EY,↓reduceIte,jA,hc]
  have hy:(y==93)=false:=by
   rw[<-Bool.not_eq_true]; intro e; rw[beq_iff_eq] at e; subst e; simp at hc
  exact⟨by rw[he,hy]; simp; rfl,trivial⟩
 have hy:(y==93)=true:=by
  rw[beq_iff_eq,<-UInt8.toNat_inj];simp at hc; show y.toNat=93; omega
 simp -implicitDefEqProofs only[vQ,CV,BD,NI,LG,↓reduceIte,jA,enP,ln9,hsz,hc,w1,w2,w3,i1,i2,i3,i4];refine C9 (fun hd=>?_) (fun hd=>?_)
 .simp -implicitDefEqProofs only[vQ,O4,BD,↓reduceIte,jA]
  have hx:(x==91)=false:=by
   rw[<-Bool.not_eq_true]; intro e; rw[beq_iff_eq] at e; subst e; simp at hd
  exact⟨by rw[he,hx]; simp; rfl,trivial⟩
 have hx:(x==91)=true:=by
  rw[beq_iff_eq,<-UInt8.toNat_inj];simp at hd; show x.toNat=91; omega
 simp -implicitDefEqProofs only[vQ,Option.map_some,Option.map_none,CV,BD,AKR,OV,NI,LG,↓reduceIte,jA,enP,ln9,AYD,hsz,w1,w2,w3,i1,i2,i3,i4,w4,w5];refine KR (fun hf=>?_) (fun hf=>?_)
 .simp -implicitDefEqProofs only[vQ,O4,CV,BD,EY,↓reduceIte,jA,hf]
  have:decide (48<=d.toNat)=false:=by simp at hf|-; omega
  exact⟨by rw[he,this]; simp; rfl,trivial⟩
 have hd1:48<=d.toNat:=by simp at hf; omega
 simp -implicitDefEqProofs only[vQ,CV,BD,↓reduceIte,jA,enP,hf];refine KR (fun hf=>?_) (fun hf=>?_)
 .simp -implicitDefEqProofs only[vQ,O4,CV,BD,EY,↓reduceIte,jA,hf]
  have:decide (d.toNat<56)=false:=by simp at hf|-; omega
  exact⟨by rw[he,this]; simp; rfl,trivial⟩
 have hd2:d.toNat<56:=by simp at hf; omega
 simp -implicitDefEqProofs only[vQ,CV,BD,↓reduceIte,jA,hf];refine(Q4 G ⟨b.toArray⟩ h).use ?_;simp -implicitDefEqProofs only[vQ,CV,BD,↓reduceIte,jA,hn];cases nm
 .simp -implicitDefEqProofs only[vQ,O4,BD,↓reduceIte,jA]
  exact⟨by rw[he]; simp; rfl,trivial⟩
 .simp -implicitDefEqProofs only[vQ,O4,BD,↓reduceIte,jA,jZ]
  exact⟨by rw[he]; simp [hy,hx,hd1,hd2]; rfl,trivial⟩
def JI (s:ByteArray):Bool:=(KG s).isSome||I4 s
theorem AD1 (o:Option (List UInt8×UInt8)):∃a n,elemV o=.tup [.str a,.int .i64 n,.bool o.isSome]:=by
 cases o with
 | none=>exact⟨_,_,rfl⟩
 | some x=>exact⟨_,_,rfl⟩
theorem ALM (G:Nat->AV)(hG:GOk G)(s:ByteArray)(h:Hp)(hl:s.size<=1048576):PCall (En G) 184 [.str s] h (.bool (JI s)):=by
 refine acN Tryz.func184 rfl ?_;show awp _ _ _ _ _ (EK _ [.tmp 2] _);simp -implicitDefEqProofs only[vQ,BD,↓reduceIte,jA,enX,enP];refine(AHK G hG s h hl).use ?_;obtain⟨a,n,e⟩:=AD1 (KG s);rw[e];simp -implicitDefEqProofs only[vQ,jT,jU,CV,BD,↓reduceIte,jA];cases hs:(KG s).isSome
 .simp -implicitDefEqProofs only[vQ,CV,BD,↓reduceIte,jA]
  refine(QC G hG.kw s h (by omega)).use ?_;simp -implicitDefEqProofs only[vQ,BD,↓reduceIte,jA];exact⟨by unfold JI; rw[hs]; rfl,trivial⟩
 .simp -implicitDefEqProofs only[vQ,CV,BD,EY,↓reduceIte,jA]
  exact⟨by unfold JI; rw[hs]; rfl,trivial⟩
theorem APP (G:Nat->AV)(s:ByteArray)(h:Hp)(hl:s.size<=1048576):PCall (En G) 211 [.str s] h (.bool (JI s)):=by
 refine acN Tryz.func211 rfl ?_;show awp _ _ _ _ _ (EK _ [.tmp 2] _);simp -implicitDefEqProofs only[vQ,BD,↓reduceIte,jA,enX,enP];refine(AO3 G s h (by omega)).use ?_;obtain⟨a,n,e⟩:=AD1 (KG s);rw[e];simp -implicitDefEqProofs only[vQ,jT,jU,CV,BD,↓reduceIte,jA];cases hs:(KG s).isSome
 .simp -implicitDefEqProofs only[vQ,CV,BD,↓reduceIte,jA]
  refine(Q4 G s h).use ?_;simp -implicitDefEqProofs only[vQ,BD,↓reduceIte,jA];exact⟨by unfold JI; rw[hs]; rfl,trivial⟩
 .simp -implicitDefEqProofs only[vQ,CV,BD,EY,↓reduceIte,jA]
  exact⟨by unfold JI; rw[hs]; rfl,trivial⟩
def UH (s:ByteArray):Bool:=s.toList==(⟨#[]⟩:ByteArray).toList
def UT (e:Ex):Bool:=decide (e.op<1)||decide (e.op>25)
def AEA (e:Ex):Bool:=((e.op==1)&&(decide (e.n<0)||decide (e.n>65535)))||(!(e.op==1) && !(e.n==0))
def AA9 (e:Ex):Bool:=(!MV e.op && !UH e.name) || !WS e.op e.args.length
def X9 (e:Ex):Bool:=((e.op==2) && !JI e.name)||(((e.op==3)||(e.op==24)) && !I4 e.name)
def JW (e:Ex):Int:=if UT e then 1 else if AEA e then 1 else if AA9 e then 1 else if X9 e then 7 else 0
theorem node_prog (G:Nat->AV)(hG:GOk G)(e:Ex)(h:Hp)(hl:e.name.size<=1048576):PCall (En G) 135 [.agg (EF e)] h (.int .i64 (JW e)):=by
 refine ACalls.pure0 rfl ?_;refine acN Tryz.func135 rfl ?_;show awp _ _ _ _ _ (EK _ [.tmp 2] _);simp -implicitDefEqProofs only[vQ,CV,BD,↓reduceIte,jA,enP,F7,bxE,E5 ag3,J9];refine RU (fun F H=>F 3=.bool (MV e.op)∧F 1=.ptr h.length 0 0∧H=h++[.live 4 [EF e]]) ?_ ?_
 .cases b2:(e.op==2)<;>cases b3:(e.op==3)
  all_goals
   simp -implicitDefEqProofs only[vQ,CV,BD,EY,↓reduceIte,jA,enP,F7,b2,b3,E5 ag3,J9];exact⟨by simp [MV,b2,b3],trivial,trivial⟩
 rintro F H ⟨f3,f1,rfl⟩;simp -implicitDefEqProofs only[vQ,CV,BD,↓reduceIte,enP,F7,f1,f3,E5 ag3,J9];refine RU (fun F H=>F 17=.bool (UT e)∧F 3=.bool (MV e.op)∧F 1=.ptr h.length 0 0∧H=h++[.live 4 [EF e]]) ?_ ?_
 .cases b2:decide (e.op<1)
  all_goals
   simp -implicitDefEqProofs only[vQ,CV,BD,EY,↓reduceIte,jA,enP,F7,b2,f1,f3,E5 ag3,J9];exact⟨by simp [UT,b2],trivial,trivial,trivial⟩
 clear f1 f3;rintro F H ⟨f17,f3,f1,rfl⟩;simp -implicitDefEqProofs only[vQ,f17];refine C9 (fun ho=>?_) (fun ho=>?_)
 .simp -implicitDefEqProofs only[vQ,BD,↓reduceIte]
  exact⟨by unfold JW; rw[if_pos ho],_,rfl⟩
 simp -implicitDefEqProofs only[vQ,CV,BD,↓reduceIte,enP,F7,f1,f3,E5 ag3,J9,ZQ];refine RU (fun F H=>F 26=.bool (AEA e)∧F 3=.bool (MV e.op)∧F 1=.ptr h.length 0 0∧H=h++[.live 4 [EF e]]) ?_ ?_
 .cases b1:(e.op==1)<;>cases b2:decide (e.n<0)<;>cases b3:decide (e.n>65535)<;>cases b4:(e.n==0)
  all_goals
   simp -implicitDefEqProofs only[vQ,CV,VA,BD,EY,↓reduceIte,jA,jZ,enP,F7,AAS,bne,b1,b2,b3,b4,f1,f3,E5 ag3,J9,ZQ];exact⟨by simp [AEA,b1,b2,b3,b4],trivial,trivial,trivial⟩
 clear f1 f3 f17;rintro F H ⟨f26,f3,f1,rfl⟩;simp -implicitDefEqProofs only[vQ,f26];refine C9 (fun hn=>?_) (fun hn=>?_)
 .simp -implicitDefEqProofs only[vQ,BD,↓reduceIte]
  exact⟨by unfold JW; rw[if_neg (by simp [ho]),if_pos hn],_,rfl⟩
 simp -implicitDefEqProofs only[vQ,CV,BD,↓reduceIte,f1,f3,E5 ag9,PH];refine RU (fun F H=>F 50=.bool (AA9 e)∧F 3=.bool (MV e.op)∧F 1=.ptr h.length 0 0∧H=h++[.live 4 [EF e]]) ?_ ?_
 .cases bm:MV e.op<;>cases b5:UH e.name
  all_goals
   have b6:=b5;unfold UH at b6;simp -implicitDefEqProofs only[vQ,CV,BD,EY,VU,↓reduceIte,jA,jZ,enP,LM,bne,bm,b6,f1,f3,E5 ag9,PH,ldE]
  .exact⟨by simp [AA9,bm,b5],trivial,trivial,trivial⟩
  all_goals
   refine(AEW G e _).use ?_;simp -implicitDefEqProofs only[vQ,CV,BD,↓reduceIte,jA,bne,bm,f1,f3];exact⟨by simp [AA9,bm,b5],trivial,trivial,trivial⟩
 clear f1 f3 f26;rintro F H ⟨f50,f3,f1,rfl⟩;simp -implicitDefEqProofs only[vQ,f50];refine C9 (fun hs=>?_) (fun hs=>?_)
 .simp -implicitDefEqProofs only[vQ,BD,↓reduceIte]
  exact⟨by unfold JW; rw[if_neg (by simp [ho]),if_neg (by simp [hn]),if_pos hs],_,rfl⟩
 simp -implicitDefEqProofs only[vQ,CV,BD,↓reduceIte,enP,F7,f1,f3,E5 ag9,E5 ag3,J9,PH]
 have fin:∀b,X9 e=b->JW e=if b then 7 else 0:=by
  intro b hb;unfold JW; rw[if_neg (by simp [ho]),if_neg (by simp [hn]),if_neg (by simp [hs]),hb]
 cases b2:(e.op==2)
 .simp -implicitDefEqProofs only[vQ,CV,BD,EY,↓reduceIte,jA,enP,F7,b2,f1,f3,E5 ag9,E5 ag3,J9,PH]
  cases b3:(e.op==3)<;>cases b4:(e.op==24)
  all_goals
   simp -implicitDefEqProofs only[vQ,CV,BD,EY,↓reduceIte,jA,enP,F7,LM,b3,b4,f1,f3,E5 ag9,E5 ag3,J9,PH]
  .exact⟨by rw[fin false (by simp [X9,b2,b3,b4])]; rfl,_,rfl⟩
  all_goals
   refine(QC G hG.kw e.name _ (by omega)).use ?_;cases bi:I4 e.name
   .simp -implicitDefEqProofs only[vQ,CV,BD,↓reduceIte,jA]
    exact⟨by rw[fin true (by simp [X9,b2,b3,b4,bi])]; rfl,_,rfl⟩
   .simp -implicitDefEqProofs only[vQ,CV,BD,↓reduceIte,jA,jZ]
    exact⟨by rw[fin false (by simp [X9,b2,b3,b4,bi])]; rfl,_,rfl⟩
 .have e2:e.op=2:=by simpa using b2
  simp -implicitDefEqProofs only[vQ,CV,BD,↓reduceIte,jA,enP,LM,b2,f1,f3,E5 ag9,E5 ag3,J9,PH];refine(ALM G hG e.name _ hl).use ?_;cases bi:JI e.name
  .simp -implicitDefEqProofs only[vQ,CV,VA,BD,EY,↓reduceIte,jA]
   exact⟨by rw[fin true (by simp [X9,b2,bi])]; rfl,_,rfl⟩
  .simp -implicitDefEqProofs only[vQ,CV,BD,EY,↓reduceIte,jA,jZ,enP,F7,f1,E5 ag3,J9,e2,Int.reduceBEq]
   exact⟨by rw[fin false (by simp [X9,e2,bi])]; rfl,_,rfl⟩
def AEB (e:Ex):Bool:=UT e||decide (e.n<0)||decide (e.n>65535)||(!(e.n==0) && !(e.op==1))||(!UH e.name && !MV e.op)
def AJ9 (op:Int)(n:Nat):Bool:=((op==23)&&(decide ((n:Int)<3)||decide ((n:Int)>33)||((n:Int)%2==0)))||(!(op==23) && !((n:Int)==arity op))
theorem AW9 (op:Int)(n:Nat):AJ9 op n = !WS op n:=by
 unfold AJ9 WS;rcases hc:(op==23) with _|_
 .simp
 .have h1:decide ((n:Int)<3) = !decide ((n:Int)≥3):=by rw[qH]; simp
  have h2:decide ((n:Int)>33) = !decide ((n:Int)<=33):=by rw[qH]; simp
  have h3:((n:Int)%2==0) = !((n:Int)%2==1):=by rw[qH]; simp; omega
  rw[h1,h2,h3];cases ((n:Int)%2==1)<;>cases decide ((n:Int)≥3)<;>cases decide ((n:Int)<=33)<;>rfl
theorem AXA (e:Ex):(AEB e||AJ9 e.op e.args.length)=(UT e||AEA e||AA9 e):=by
 rw[AW9];unfold AEB AEA AA9;rcases h1:(e.op==1) with _|_
 .rcases h2:(e.n==0) with _|_
  .simp
  .have h3:decide (e.n<0)=false:=by simp at h2|-; omega
   have h4:decide (e.n>65535)=false:=by simp at h2|-; omega
   rw[h3,h4];cases UT e<;>cases UH e.name<;>cases MV e.op<;>cases WS e.op e.args.length<;>rfl
 .cases UT e<;>cases UH e.name<;>cases MV e.op<;>cases WS e.op e.args.length<;>cases decide (e.n<0)<;>cases decide (e.n>65535)<;>cases (e.n==0)<;>rfl
theorem AAM (e:Ex):JW e=if AEB e then 1 else if AJ9 e.op e.args.length then 1 else if X9 e then 7 else 0:=by
 have:=AXA e;unfold JW
 revert this
 cases AEB e<;>cases AJ9 e.op e.args.length<;>cases UT e<;>cases AEA e<;>cases AA9 e<;>simp
set_option maxHeartbeats 1000000 in
theorem AE7 (G:Nat->AV)(e:Ex)(h:Hp)(hl:e.name.size<=1048576):PCall (En G) 168 [.agg (EF e)] h (.int .i64 (JW e)):=by
 refine ACalls.pure0 rfl ?_;refine acN Tryz.func168 rfl ?_;show awp _ _ _ _ _ (EK _ [.tmp 2] _);simp -implicitDefEqProofs only[vQ,CV,BD,↓reduceIte,jA,enP,F7,bxE,E5 ag3,J9];refine RU (fun F H=>F 42=.bool (AEB e)∧F 1=.ptr h.length 0 0∧H=h++[.live 4 [EF e]]) ?_ ?_
 .cases b1:decide (e.op<1)
  case true =>
   simp -implicitDefEqProofs only[vQ,CV,VA,BD,EY,↓reduceIte,jA,b1];exact⟨by simp [AEB,UT,b1],trivial,trivial⟩
  simp -implicitDefEqProofs only[vQ,CV,BD,↓reduceIte,jA,enP,F7,b1,E5 ag3,J9,ZQ];cases b2:decide (e.op>25)
  case true =>
   simp -implicitDefEqProofs only[vQ,CV,VA,BD,EY,↓reduceIte,jA,b2];exact⟨by simp [AEB,UT,b2],trivial,trivial⟩
  simp -implicitDefEqProofs only[vQ,CV,BD,↓reduceIte,jA,enP,AAS,b2,E5 ag3,J9,ZQ];have bO:UT e=false:=by unfold UT; rw[b1,b2]; rfl
  cases b3:decide (e.n<0)
  case true =>
   simp -implicitDefEqProofs only[vQ,CV,VA,BD,EY,↓reduceIte,jA,b3];exact⟨by simp only[AEB,b3]; simp,trivial,trivial⟩
  simp -implicitDefEqProofs only[vQ,CV,BD,↓reduceIte,jA,enP,AAS,b3,E5 ag3,J9,ZQ];cases b4:decide (e.n>65535)
  case true =>
   simp -implicitDefEqProofs only[vQ,CV,VA,BD,EY,↓reduceIte,jA,b4];exact⟨by simp only[AEB,b4]; simp,trivial,trivial⟩
  simp -implicitDefEqProofs only[vQ,CV,BD,↓reduceIte,jA,enP,AAS,b4,bne,E5 ag3,E5 ag9,J9,ZQ,PH]
  have fin:∀b,((!(e.n==0) && !(e.op==1))||(!UH e.name && !MV e.op))=b->AEB e=b:=by
   intro b hb;unfold AEB; rw[bO,b3,b4]; simpa using hb
  cases b5:(e.n==0)<;>cases b6:(e.op==1)<;>cases b7:UH e.name
  all_goals
   have b8:=b7;unfold UH at b8;simp -implicitDefEqProofs only[vQ,CV,VA,BD,EY,VU,↓reduceIte,jA,jZ,enP,F7,LM,bne,b5,b6,b8,E5 ag3,E5 ag9,J9,ZQ,PH]
  all_goals first
   | exact⟨by rw[fin _ rfl]; simp [b5,b6,b7],trivial,trivial⟩
   | refine(AAN G e.op _).use ?_
     simp -implicitDefEqProofs only[vQ,CV,BD,↓reduceIte,jA];exact⟨by rw[fin _ rfl]; simp [b5,b6,b7],trivial,trivial⟩
 rintro F H ⟨f42,f1,rfl⟩;simp -implicitDefEqProofs only[vQ,f42];refine C9 (fun ho=>?_) (fun ho=>?_)
 .simp -implicitDefEqProofs only[vQ,BD,↓reduceIte]
  exact⟨by rw[AAM,if_pos ho],_,rfl⟩
 simp -implicitDefEqProofs only[vQ,CV,BD,↓reduceIte,jA,enP,WT,F7,ND,f1,E5 ag3,E5 VX,J9,VQ,jR];generalize hn:e.args.length=n;have hm:(n:Int).tmod 2=(n:Int)%2:=Int.tmod_eq_emod_of_nonneg (by omega);have br:JD Tryz.prog 3 .rem (.int .i64 (n:Int)) (.int .i64 2)=some (.int .i64 ((n:Int)%2)):=by rw[ZY _ _ _ _ _ (by decide),hm]
 refine RU (fun F H=>F 73=.bool (AJ9 e.op n)∧F 1=.ptr h.length 0 0∧H=h++[.live 4 [EF e]]) ?_ ?_
 .cases b1:(e.op==23)
  .simp -implicitDefEqProofs only[vQ,CV,VA,BD,EY,↓reduceIte,jA,enP,F7,bne,b1,f1,E5 ag3,J9]
   refine(AQA G e.op _).use ?_;simp -implicitDefEqProofs only[vQ,CV,BD,↓reduceIte,jA,enP,bne];exact⟨by unfold AJ9; rw[b1]; simp,f1,trivial⟩
  .cases b2:decide ((n:Int)<3)<;>cases b3:decide ((n:Int)>33)<;>cases b4:((n:Int)%2==0)
   all_goals
    simp -implicitDefEqProofs only[vQ,CV,VA,BD,EY,↓reduceIte,jA,jZ,enP,F7,bne,b1,b2,b3,b4,br,f1,E5 ag3,J9];exact⟨by unfold AJ9; rw[b1,b2,b3,b4]; simp,trivial,trivial⟩
 clear f1 f42;rintro F H ⟨f73,f1,rfl⟩;simp -implicitDefEqProofs only[vQ,f73];subst hn;refine C9 (fun hs=>?_) (fun hs=>?_)
 .simp -implicitDefEqProofs only[vQ,BD,↓reduceIte]
  exact⟨by rw[AAM,if_neg (by simp [ho]),if_pos hs],_,rfl⟩
 simp -implicitDefEqProofs only[vQ,CV,BD,↓reduceIte,enP,F7,f1,E5 ag3,E5 ag9,J9,PH]
 have fin:∀b,X9 e=b->JW e=if b then 7 else 0:=by
  intro b hb;rw[AAM,if_neg (by simp [ho]),if_neg (by simp [hs]),hb]
 cases b2:(e.op==2)
 .simp -implicitDefEqProofs only[vQ,CV,BD,EY,↓reduceIte,jA,enP,F7,b2,f1,E5 ag9,E5 ag3,J9,PH]
  refine(AAN G e.op _).use ?_;cases bm:MV e.op
  .have hv:X9 e=false:=by
    unfold MV at bm; simp only[Bool.or_eq_false_iff] at bm;simp [X9,bm.1.1,bm.1.2,bm.2]
   simp -implicitDefEqProofs only[vQ,CV,BD,EY,↓reduceIte,jA];exact⟨by rw[fin false hv]; rfl,_,rfl⟩
  have hv:X9 e = !I4 e.name:=by
   unfold MV at bm; rw[b2] at bm; simp only[Bool.false_or] at bm;unfold X9; rw[b2,bm]; simp
  simp -implicitDefEqProofs only[vQ,CV,BD,↓reduceIte,jA,enP,F7,LM,bne,b2,f1,E5 ag9,E5 ag3,J9,PH];refine(Q4 G e.name _).use ?_;cases bi:I4 e.name
  .simp -implicitDefEqProofs only[vQ,CV,BD,↓reduceIte,jA]
   exact⟨by rw[fin true (by rw[hv,bi]; rfl)]; rfl,_,rfl⟩
  .simp -implicitDefEqProofs only[vQ,CV,BD,↓reduceIte,jA,jZ]
   exact⟨by rw[fin false (by rw[hv,bi]; rfl)]; rfl,_,rfl⟩
 .have e2:e.op=2:=by simpa using b2
  have hv:X9 e = !JI e.name:=by
   unfold X9; rw[e2]; simp
  simp -implicitDefEqProofs only[vQ,CV,BD,↓reduceIte,jA,enP,LM,b2,f1,E5 ag9,E5 ag3,J9,PH];refine(APP G e.name _ hl).use ?_;cases bi:JI e.name
  .simp -implicitDefEqProofs only[vQ,CV,VA,BD,EY,↓reduceIte,jA]
   exact⟨by rw[fin true (by rw[hv,bi]; rfl)]; rfl,_,rfl⟩
  .simp -implicitDefEqProofs only[vQ,CV,BD,↓reduceIte,jA,jZ,enP,F7,f1,E5 ag3,J9]
   refine(AAN G e.op _).use ?_;have bm:MV e.op=true:=by rw[e2]; rfl
   simp -implicitDefEqProofs only[vQ,CV,BD,EY,↓reduceIte,jA,jZ,enP,F7,bne,bm,f1,E5 ag3,J9,b2];exact⟨by rw[fin false (by rw[hv,bi]; rfl)]; rfl,_,rfl⟩
theorem AT6 (h:Hp):J6 Tryz.prog h 37=some (.ptr h.length 0 0,h++[.live 4 [[.int .i64 0,.int .i64 0,.str ⟨#[]⟩,.sl .nil 0 []]]]):=JU (row:=[.int .i64 0,.int .i64 0,.str ⟨#[]⟩,.sl .nil 0 []]) (by kernel_rfl)
theorem AQ4 (h:Hp)(e:Ex)(row:List AV)(hr:row.length=4):FO Tryz.prog (h++[.live 4 [row]]) 37 (.ptr h.length 0 0) (.agg (EF e))=some (h++[.live 4 [EF e]]):=by
 rw[AAH (TC (AFZ e)) (by rw[IZ]; exact RX) (by rw[IZ,hr]; exact jP _)];have:splice row 0 (EF e)=EF e:=by unfold splice; simp [IZ,hr]
 rw[this]
theorem A5Z (h:Hp):J6 Tryz.prog h 39=some (.ptr h.length 0 0,h++[.live 1 [[.int .i64 0]]]):=JU (row:=[.int .i64 0]) (by kernel_rfl)
theorem al3 (h:Hp):J6 Tryz.prog h 3=some (.ptr h.length 0 0,h++[.live 1 [[.int .i64 0]]]):=JU (row:=[.int .i64 0]) (by kernel_rfl)
theorem AYL (h:Hp):J6 Tryz.prog h 163=some (.ptr h.length 0 0,h++[.live 1 [[.nilfn]]]):=JU (row:=[.nilfn]) (by kernel_rfl)
theorem JR {h:Hp}{t:TypeId}{b:Nat}{v:AV}(hag:JO Tryz.prog t=some false)(hb:h[b]?=some (.live 1 [[v]])):DF Tryz.prog h t (.ptr b 0 0)=some v:=by
 rw[DJ hag hb (row:=[v]) rfl]; rfl
theorem UA {h:Hp}{t:TypeId}{b:Nat}{v u:AV}(hs:szO Tryz.prog t=some 1)(hc:JM u=some [u])(hb:h[b]?=some (.live 1 [[v]])):FO Tryz.prog h t (.ptr b 0 0) u=some (h.set b (.live 1 [[u]])):=by
 rw[G7 hc hs hb (row:=[v]) rfl (by simp)]; rfl
theorem A5N (h:Hp)(f:Fn)(a b:List AV):MG h (.fn f a b)=some (.ptr h.length 0 0,h++[.live 1 [[.fn f a b]]]):=rfl
def Chg (c:Nat)(h h':Hp):Prop:=h.length<=h'.length∧∀b,b<h.length->b≠c->h'[b]?=h[b]?
theorem Chg.refl (c:Nat)(h:Hp):Chg c h h:=⟨jP _,fun _ _ _=>rfl⟩
theorem Chg.trans {c:Nat}{a b d:Hp}(h1:Chg c a b)(h2:Chg c b d):Chg c a d :=
 ⟨Nat.le_trans h1.1 h2.1,fun i hi hc=>by rw[h2.2 i (Nat.lt_of_lt_of_le hi h1.1) hc,h1.2 i hi hc]⟩
theorem Chg.app (c:Nat)(h x:Hp):Chg c h (h++x):=⟨by simp,fun i hi _=>List.getElem?_append_left hi⟩
theorem Chg.set (c:Nat)(h:Hp)(x:ABlk):Chg c h (h.set c x):=⟨by simp,fun i _ hc=>by rw[List.getElem?_set,if_neg (fun e=>hc e.symm)]⟩
theorem Chg.get {c b:Nat}{h h':Hp}{x:ABlk}(hc:Chg c h h')(hb:h[b]?=some x)(hne:b≠c):h'[b]?=some x:=by
 rw[hc.2 b (CB hb) hne]; exact hb
theorem Chg.above {c:Nat}{h h':Hp}(hc:Chg c h h')(hl:h.length<=c):∃x,h'=h++x:=by
 refine⟨h'.drop h.length,?_⟩
 have:h'.take h.length=h:=by
  refine List.ext_getElem? fun i=>?_
  rcases jY i h.length with hi|hi
  .rw[List.getElem?_take_of_lt hi,hc.2 i hi (by omega)]
  .rw[zO (by rw[zX]; omega),zO hi]
 conv=>lhs; rw[<-wK h.length h',this]
def run (upd:Ex->Int->Int)(cont:Int->Bool):List Ex->Int->Int×Bool
 | [],z=>(z,true)
 | e::es,z=>if cont (upd e z) then run upd cont es (upd e z) else (upd e z,false)
theorem run_go {upd:Ex->Int->Int}{cont:Int->Bool}:∀ {xs:List Ex} (ys:List Ex) {z z':Int},run upd cont xs z=(z',true)->run upd cont (xs++ys) z=run upd cont ys z'
 | [],ys,z,z',h=>by cases h; rfl
 | x::xs,ys,z,z',h=>by
   simp only[run,qJ] at h|-;split at h
   .rename_i hc; rw[if_pos hc]; exact run_go ys h
   .cases h
theorem run_stop {upd:Ex->Int->Int}{cont:Int->Bool}:∀ {xs:List Ex} (ys:List Ex) {z z':Int},run upd cont xs z=(z',false)->run upd cont (xs++ys) z=(z',false)
 | [],ys,z,z',h=>by cases h
 | x::xs,ys,z,z',h=>by
   simp only[run,qJ] at h|-;split at h
   .rename_i hc; rw[if_pos hc]; exact run_stop ys h
   .rename_i hc; rw[if_neg hc]; exact h
theorem KW (xs:List Ex)(j:Nat)(hj:j<xs.length):IR (xs.take (j+1))=IR (xs.take j)++pre xs[j]:=by
 rw[List.take_succ_eq_append_getElem hj,MS]; simp [IR]
theorem YX {a:Ex}:∀ {xs:List Ex},a∈xs->∀x∈pre a,x∈IR xs
 | [],h,_,_=>by cases h
 | y::ys,h,x,hx=>by
   simp only[IR,List.mem_append]
   cases List.mem_cons.1 h with
   | inl e=>subst e; exact .inl hx
   | inr e=>exact .inr (YX e x hx)
def AOT (G:Nat->AV)(k:FuncId)(upd:Ex->Int->Int)(cont:Int->Bool)(e:Ex):Prop :=
 ∀(h:Hp) (c:Nat) (z:Int),h[c]?=some (.live 1 [[.int .i64 z]])->ACalls (En G) k [.agg (EF e),.ptr c 0 0] h fun v h'=>v=.bool (cont (upd e z))∧Chg c h h'∧h'[c]?=some (.live 1 [[.int .i64 (upd e z)]])
theorem AP1 (G:Nat->AV)(k:FuncId)(upd:Ex->Int->Int)(cont:Int->Bool)(c vb db:Nat)(hv:vb≠c)(hd:db≠c)(e:Ex) :
  wt e<=1099511627776->(∀x∈pre e,AOT G k upd cont x)->∀(h:Hp) (z:Int),h[c]?=some (.live 1 [[.int .i64 z]])->h[vb]?=some (.live 1 [[.fn (.func k) [] [.ptr c 0 0]]]) ->
   h[db]?=some (.live 1 [[.fn (.func 182) [] [.ptr vb 0 0,.ptr db 0 0]]]) ->
   ACalls (En G) 182 [.agg (EF e),.ptr vb 0 0,.ptr db 0 0] h fun v h'=>v=.bool (run upd cont (pre e) z).2∧Chg c h h'∧h'[c]?=some (.live 1 [[.int .i64 (run upd cont (pre e) z).1]]):=by
 induction e using Ex.induct with|h e ih=>?_
 intro hw hvis h z hc hvb hdb;have hcl:=CB hc;have hal:e.args.length<=1099511627776:=by have:=YK e.args; have:=QU e; omega
 refine acN Tryz.func182 rfl ?_;show awp _ _ _ _ _ (EK _ [.tmp 4] _);simp -implicitDefEqProofs only[vQ,BD,qA,qJ,↓reduceIte,jA,enP,bxE,JR AGE (BO hvb),ldE];refine(hvis e (by rw[pre_eq]; simp) _ c z (BO hc)).mono ?_;rintro v h1 ⟨rfl,hch,hc1⟩;have hch0:=(Chg.app c h _).trans hch;have hb3:h1[h.length]?=some (.live 4 [EF e]):=hch.get (CU _ _) (by omega);have hrun:run upd cont (pre e) z=if cont (upd e z) then run upd cont (IR e.args) (upd e z) else (upd e z,false):=by rw[pre_eq]; rfl
 simp -implicitDefEqProofs only[vQ,BD,↓reduceIte];cases hct:cont (upd e z)
 .simp -implicitDefEqProofs only[vQ,BD,↓reduceIte]
  rw[hrun,hct];exact⟨rfl,hch0,hc1⟩
 rw[hct,if_pos rfl] at hrun;have hvb1:=hch0.get hvb hv;have hdb1:=hch0.get hdb hd;have l3:DF Tryz.prog h1 23 (.ptr h.length 0 3)=some (.sl e.m 4 (e.args.map EF)):=by rw[DJ VX hb3 (row:=EF e) rfl,VQ]
 simp -implicitDefEqProofs only[vQ,BD,↓reduceIte,jA,jZ,enP,WT,ND,l3,jR];refine D7 (fun n F H=>∃j z',n+j=e.args.length∧F 1=.ptr vb 0 0∧F 2=.ptr db 0 0∧F 12=.sl e.m 4 (e.args.map EF)∧F 13=.int .i64 e.args.length∧F 14=.int .i64 (j:Nat)∧Chg c h H∧H[c]?=some (.live 1 [[.int .i64 z']])∧run upd cont (IR (e.args.take j)) (upd e z)=(z',true)) e.args.length ⟨0,upd e z,by simp,by simp -implicitDefEqProofs only[vQ,↓reduceIte,jA],by simp -implicitDefEqProofs only[vQ,↓reduceIte,jA],by simp -implicitDefEqProofs only[AA,↓reduceIte,jA],by simp -implicitDefEqProofs only[AA,↓reduceIte,jA],by simp -implicitDefEqProofs only[AA,↓reduceIte]; rfl,hch0,hc1,rfl⟩ ?_;rintro n F H ⟨j,z',hj,f1,f2,f12,f13,f14,hC,hcz,hr⟩;simp -implicitDefEqProofs only[vQ,BD,↓reduceIte,enP,f13,f14];refine C9 (fun hlt=>?_) (fun hlt=>?_)
 .have hj':j<e.args.length:=by simpa using hlt
  have hdH:H[db]?=some (.live 1 [[.fn (.func 182) [] [.ptr vb 0 0,.ptr db 0 0]]]):=hC.get hdb hd;have hvH:H[vb]?=some (.live 1 [[.fn (.func k) [] [.ptr c 0 0]]]):=hC.get hvb hv;simp -implicitDefEqProofs only[vQ,BD,qA,qJ,↓reduceIte,jA,enP,AAO,jO,f12,f14,EZ hj',GM YB RX IZ hj',AT6,AQ4 _ _ [.int .i64 0,.int .i64 0,.str ⟨#[]⟩,.sl .nil 0 []] rfl,f2,JR AGE (BO hdH),ldE];have hmem:e.args[j]∈e.args:=List.getElem_mem hj';refine(ih e.args[j] hmem (by have:=V4 hmem; have:=QU e; omega) (fun x hx=>hvis x (by rw[pre_eq]; exact List.mem_cons_of_mem _ (YX hmem x hx))) _ z' (BO hcz) (BO hvH) (BO hdH)).mono ?_;rintro v h2 ⟨rfl,hch2,hc2⟩;have hC2:=hC.trans ((Chg.app c H _).trans hch2)
  have hsplit:IR e.args=IR (e.args.take j)++(pre e.args[j]++IR (e.args.drop (j+1))):=by
   rw[<-List.append_assoc,<-KW _ _ hj',<-MS,wK]
  simp -implicitDefEqProofs only[vQ,BD,↓reduceIte];rcases hrr:run upd cont (pre e.args[j]) z' with⟨z2,b2⟩;rw[hrr] at hc2;cases b2
  .simp -implicitDefEqProofs only[vQ,BD,↓reduceIte]
   have:run upd cont (pre e) z=(z2,false):=by rw[hrun,hsplit,run_go _ hr]; exact run_stop _ hrr
   rw[this];exact⟨rfl,hC2,hc2⟩
  .simp -implicitDefEqProofs only[vQ,BD,↓reduceIte,jA,jZ,enP,f1,f2,f12,f13,f14,wrap_succ (show j<9223372036854775807 by omega)]
   refine⟨n-1,by omega,j+1,z2,by omega,trivial,trivial,trivial,trivial,rfl,hC2,hc2,?_⟩;rw[KW _ _ hj',run_go _ hr]; exact hrr
 .have hj':¬j<e.args.length:=by simpa using hlt
  simp -implicitDefEqProofs only[vQ,BD,↓reduceIte];rw[List.take_of_length_le (by omega)] at hr;rw[hrun,hr];exact⟨rfl,hC,hcz⟩
theorem AE9 (G:Nat->AV)(k:FuncId)(upd:Ex->Int->Int)(cont:Int->Bool)(c:Nat)(e:Ex)(hw:wt e<=1099511627776)(hvis:∀x∈pre e,AOT G k upd cont x)(h:Hp)(z:Int)(hc:h[c]?=some (.live 1 [[.int .i64 z]])) :
  ACalls (En G) 133 [.agg (EF e),.fn (.func k) [] [.ptr c 0 0]] h fun _ h'=>Chg c h h'∧h'[c]?=some (.live 1 [[.int .i64 (run upd cont (pre e) z).1]]):=by
 have hcl:=CB hc;refine acN Tryz.func133 rfl ?_;show awp _ _ _ _ _ (EK _ [] _);simp -implicitDefEqProofs only[vQ,BD,I5,↓reduceIte,jA,enP,jO,bxE,A5N,AYL];have g0:(h++[ABlk.live 4 [EF e]]++[ABlk.live 1 [[AV.fn (.func k) [] [.ptr c 0 0]]]]++[ABlk.live 1 [[AV.nilfn]]])[(h++[ABlk.live 4 [EF e]]++[ABlk.live 1 [[AV.fn (.func k) [] [.ptr c 0 0]]]]).length]?=some (.live 1 [[.nilfn]]):=CU _ _;simp -implicitDefEqProofs only[vQ,BD,↓reduceIte,jA,enP,UA AXV (AYR _ _ _) g0];generalize hdb:(h++[ABlk.live 4 [EF e]]++[ABlk.live 1 [[AV.fn (.func k) [] [.ptr c 0 0]]]]).length=db at g0|-;generalize hvb:(h++[ABlk.live 4 [EF e]]).length=vb;have hvl:vb=h.length+1:=by rw[<-hvb]; simp
 have hdl:db=h.length+2:=by rw[<-hdb]; simp
 generalize hH:(h++[ABlk.live 4 [EF e]]++[ABlk.live 1 [[AV.fn (.func k) [] [.ptr c 0 0]]]]++[ABlk.live 1 [[AV.nilfn]]]).set db (.live 1 [[AV.fn (.func 182) [] [.ptr vb 0 0,.ptr db 0 0]]])=H;have h1:H[db]?=some (.live 1 [[.fn (.func 182) [] [.ptr vb 0 0,.ptr db 0 0]]]):=by rw[<-hH]; exact DX g0
 have h2:H[vb]?=some (.live 1 [[.fn (.func k) [] [.ptr c 0 0]]]):=by
  rw[<-hH]; refine MZ ?_ (by omega);rw[<-hvb]; exact BO (CU _ _)
 have h3:H[h.length]?=some (.live 4 [EF e]):=by
  rw[<-hH]; refine MZ ?_ (by omega);exact BO (BO (CU _ _))
 have h4:H[c]?=some (.live 1 [[.int .i64 z]]):=by
  rw[<-hH]; refine MZ ?_ (by omega);exact BO (BO (BO hc))
 have hC:Chg c h H:=by
  refine⟨by rw[<-hH]; simp,fun b hb hbc=>?_⟩;obtain⟨x,hx⟩:∃x,h[b]?=some x:=⟨_,jX hb⟩
  rw[<-hH,hx];exact MZ (BO (BO (BO hx))) (by omega)
 simp -implicitDefEqProofs only[vQ,BD,qA,qJ,↓reduceIte,jA,enP,JR AGE h1,JH h3];refine(AP1 G k upd cont c vb db (by omega) (by omega) e hw hvis H z h4 h2 h1).mono ?_;rintro v h' ⟨rfl,hch,hc1⟩;simp -implicitDefEqProofs only[vQ,AAZ];exact⟨hC.trans hch,hc1⟩
end Go.Proofs.YtgnoolgeijmlaaaGreatDoor.Cov
