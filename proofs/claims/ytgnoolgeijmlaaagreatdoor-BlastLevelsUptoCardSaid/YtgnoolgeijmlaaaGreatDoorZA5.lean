/- Part 5 of the proof (Ft, B1, B2, B3, B4, B5, B6, E1, E2, E3, E4, E5, E6); no condition. -/
import Derived.Test.YtgnoolgeijmlaaaGreatDoorProg
import Derived.KernelRfl
import Derived.Laws.RangeAny
import Derived.Shelf.Strings.Cut
import Derived.Lib.IndexMore
import Derived.Test.YtgnoolgeijmlaaaGreatDoorZA4
set_option linter.unusedVariables false
namespace Go.Proofs.YtgnoolgeijmlaaaGreatDoor.Sm

theorem sz3:szO Tryz.prog 3=some 1:=by kernel_rfl
theorem ag3:JK Tryz.prog 3=some false:=by kernel_rfl
theorem sz4:szO Tryz.prog 4=some 1:=by kernel_rfl
theorem ag4:JK Tryz.prog 4=some false:=by kernel_rfl
theorem sz9:szO Tryz.prog 9=some 1:=by kernel_rfl
theorem ag9:JK Tryz.prog 9=some false:=by kernel_rfl
theorem UD:JK Tryz.prog 22=some false:=by kernel_rfl
theorem A14:szO Tryz.prog 23=some 1:=by kernel_rfl
theorem WT:JK Tryz.prog 23=some false:=by kernel_rfl
theorem AX4:JK Tryz.prog 24=some false:=by kernel_rfl
theorem AUX:JK Tryz.prog 25=some false:=by kernel_rfl
theorem UG:szO Tryz.prog 27=some 5:=by kernel_rfl
theorem VR:JK Tryz.prog 27=some true:=by kernel_rfl
theorem A13:szO Tryz.prog 29=some 1:=by kernel_rfl
theorem AOK:JK Tryz.prog 29=some false:=by kernel_rfl
theorem A12:szO Tryz.prog 33=some 1:=by kernel_rfl
theorem AGJ:JK Tryz.prog 33=some false:=by kernel_rfl
theorem AM3:szO Tryz.prog 35=some 1:=by kernel_rfl
theorem AUW:JK Tryz.prog 35=some true:=by kernel_rfl
theorem OZ:szO Tryz.prog 37=some 4:=by kernel_rfl
theorem WS:JK Tryz.prog 37=some true:=by kernel_rfl
theorem ASO:szO Tryz.prog 39=some 1:=by kernel_rfl
theorem AOJ:JK Tryz.prog 39=some false:=by kernel_rfl
theorem N9:szO Tryz.prog 61=some 3:=by kernel_rfl
theorem TN:JK Tryz.prog 61=some true:=by kernel_rfl
theorem AO7:szO Tryz.prog 65=some 4:=by kernel_rfl
theorem A1K:JK Tryz.prog 65=some true:=by kernel_rfl
theorem AYR:szO Tryz.prog 68=some 1:=by kernel_rfl
theorem AUU:JK Tryz.prog 68=some false:=by kernel_rfl
theorem sz74:szO Tryz.prog 74=some 16:=by kernel_rfl
theorem ag74:JK Tryz.prog 74=some true:=by kernel_rfl
theorem A1J:JK Tryz.prog 76=some false:=by kernel_rfl
theorem A11:szO Tryz.prog 94=some 2:=by kernel_rfl
theorem AWL:szO Tryz.prog 97=some 1:=by kernel_rfl
theorem AOI:JK Tryz.prog 97=some false:=by kernel_rfl
theorem AYU:szO Tryz.prog 103=some 1:=by kernel_rfl
theorem A1M:JK Tryz.prog 103=some false:=by kernel_rfl
theorem AYT:szO Tryz.prog 107=some 1:=by kernel_rfl
theorem AYS:szO Tryz.prog 132=some 3:=by kernel_rfl
theorem A1L:JK Tryz.prog 132=some true:=by kernel_rfl
theorem ag133:JK Tryz.prog 133=some false:=by kernel_rfl
theorem AV0:JK Tryz.prog 139=some false:=by kernel_rfl
theorem AG1:szO Tryz.prog 141=some 2:=by kernel_rfl
theorem AVZ:JK Tryz.prog 141=some true:=by kernel_rfl
theorem ALS:szO Tryz.prog 143=some 4:=by kernel_rfl
theorem AVY:JK Tryz.prog 143=some true:=by kernel_rfl
theorem AVA:szO Tryz.prog 163=some 1:=by kernel_rfl
theorem AEY:JK Tryz.prog 163=some false:=by kernel_rfl
theorem ag171:JK Tryz.prog 171=some false:=by kernel_rfl
theorem ag173:JK Tryz.prog 173=some false:=by kernel_rfl
theorem ag197:JK Tryz.prog 197=some false:=by kernel_rfl
theorem bn4 : ∀ p q,I8 Tryz.prog 4 .neq (.bool p) (.bool q)=some (.bool (!(p == q))):=fun p q=>ARJ Tryz.prog 4 p q (by kernel_rfl)
theorem ln9 : ∀ s,KT Tryz.prog 9 (.str s)=some (.int .i64 s.size):=ATM (by kernel_rfl:Tryz.prog.underlying 9=some .string)
theorem RH : ∀ h a i,FZ Tryz.prog h 22 a i=MG 4 h a i:=IM (by kernel_rfl:Tryz.prog.underlying 22=some (.slice 65)) AO7
theorem RG:(∀ m k xs,KT Tryz.prog 22 (.sl m k xs)=some (.int .i64 xs.length))∧∀ b off len,KT Tryz.prog 22 (.own b off len)=some (.int .i64 len):=OE (by kernel_rfl:Tryz.prog.underlying 22=some (.slice 65))
theorem A1Y:Tryz.prog.underlying 22=some (.slice 65):=by kernel_rfl
theorem AAQ : ∀ h a i,FZ Tryz.prog h 23 a i=MG 4 h a i:=IM (by kernel_rfl:Tryz.prog.underlying 23=some (.slice 37)) OZ
theorem WE:(∀ m k xs,KT Tryz.prog 23 (.sl m k xs)=some (.int .i64 xs.length))∧∀ b off len,KT Tryz.prog 23 (.own b off len)=some (.int .i64 len):=OE (by kernel_rfl:Tryz.prog.underlying 23=some (.slice 37))
theorem ASM:Tryz.prog.underlying 23=some (.slice 37):=by kernel_rfl
theorem AYD:AAJ Tryz.prog 37=some 4:=by kernel_rfl
theorem A0M:OM Tryz.prog 37=some 56:=by kernel_rfl
theorem AFO : ∀ h a i,FZ Tryz.prog h 24 a i=MG 2 h a i:=IM (by kernel_rfl:Tryz.prog.underlying 24=some (.slice 141)) AG1
theorem AW5:(∀ m k xs,KT Tryz.prog 24 (.sl m k xs)=some (.int .i64 xs.length))∧∀ b off len,KT Tryz.prog 24 (.own b off len)=some (.int .i64 len):=OE (by kernel_rfl:Tryz.prog.underlying 24=some (.slice 141))
theorem A1X:Tryz.prog.underlying 24=some (.slice 141):=by kernel_rfl
theorem AJV : ∀ h a i,FZ Tryz.prog h 25 a i=MG 1 h a i:=IM (by kernel_rfl:Tryz.prog.underlying 25=some (.slice 29)) A13
theorem ATL:(∀ m k xs,KT Tryz.prog 25 (.sl m k xs)=some (.int .i64 xs.length))∧∀ b off len,KT Tryz.prog 25 (.own b off len)=some (.int .i64 len):=OE (by kernel_rfl:Tryz.prog.underlying 25=some (.slice 29))
theorem KH:(∀ b i j,CY Tryz.prog 27 (.ptr b i j) 0=some (.ptr b i (j+0)))∧(∀ k xs i j,CY Tryz.prog 27 (.fptr k xs i j) 0=some (.fptr k xs i (j+0))):=I4 (by kernel_rfl:J5 Tryz.prog 27 0 0=true)
theorem AQV:(∀ b i j,CY Tryz.prog 27 (.ptr b i j) 1=some (.ptr b i (j+1)))∧(∀ k xs i j,CY Tryz.prog 27 (.fptr k xs i j) 1=some (.fptr k xs i (j+1))):=I4 (by kernel_rfl:J5 Tryz.prog 27 1 1=true)
theorem AQU:(∀ b i j,CY Tryz.prog 27 (.ptr b i j) 2=some (.ptr b i (j+2)))∧(∀ k xs i j,CY Tryz.prog 27 (.fptr k xs i j) 2=some (.fptr k xs i (j+2))):=I4 (by kernel_rfl:J5 Tryz.prog 27 2 2=true)
theorem AKB:(∀ b i j,CY Tryz.prog 27 (.ptr b i j) 3=some (.ptr b i (j+3)))∧(∀ k xs i j,CY Tryz.prog 27 (.fptr k xs i j) 3=some (.fptr k xs i (j+3))):=I4 (by kernel_rfl:J5 Tryz.prog 27 3 3=true)
theorem ZF:(∀ b i j,CY Tryz.prog 27 (.ptr b i j) 4=some (.ptr b i (j+4)))∧(∀ k xs i j,CY Tryz.prog 27 (.fptr k xs i j) 4=some (.fptr k xs i (j+4))):=I4 (by kernel_rfl:J5 Tryz.prog 27 4 4=true)
theorem WG : ∀ h a i,FZ Tryz.prog h 29 a i=MG 1 h a i:=IM (by kernel_rfl:Tryz.prog.underlying 29=some (.slice 3)) sz3
theorem VN:(∀ m k xs,KT Tryz.prog 29 (.sl m k xs)=some (.int .i64 xs.length))∧∀ b off len,KT Tryz.prog 29 (.own b off len)=some (.int .i64 len):=OE (by kernel_rfl:Tryz.prog.underlying 29=some (.slice 3))
theorem AYN:Tryz.prog.underlying 29=some (.slice 3):=by kernel_rfl
theorem A1V:AAJ Tryz.prog 3=some 1:=by kernel_rfl
theorem A0L:OM Tryz.prog 3=some 8:=by kernel_rfl
theorem TY : ∀ h a i,FZ Tryz.prog h 33 a i=MG 3 h a i:=IM (by kernel_rfl:Tryz.prog.underlying 33=some (.slice 61)) N9
theorem QR:(∀ m k xs,KT Tryz.prog 33 (.sl m k xs)=some (.int .i64 xs.length))∧∀ b off len,KT Tryz.prog 33 (.own b off len)=some (.int .i64 len):=OE (by kernel_rfl:Tryz.prog.underlying 33=some (.slice 61))
theorem ASL:Tryz.prog.underlying 33=some (.slice 61):=by kernel_rfl
theorem AYC:AAJ Tryz.prog 61=some 3:=by kernel_rfl
theorem A0K:OM Tryz.prog 61=some 24:=by kernel_rfl
theorem KG:(∀ b i j,CY Tryz.prog 35 (.ptr b i j) 0=some (.ptr b i (j+0)))∧(∀ k xs i j,CY Tryz.prog 35 (.fptr k xs i j) 0=some (.fptr k xs i (j+0))):=I4 (by kernel_rfl:J5 Tryz.prog 35 0 0=true)
theorem IP:(∀ b i j,CY Tryz.prog 37 (.ptr b i j) 0=some (.ptr b i (j+0)))∧(∀ k xs i j,CY Tryz.prog 37 (.fptr k xs i j) 0=some (.fptr k xs i (j+0))):=I4 (by kernel_rfl:J5 Tryz.prog 37 0 0=true)
theorem ACJ:(∀ b i j,CY Tryz.prog 37 (.ptr b i j) 1=some (.ptr b i (j+1)))∧(∀ k xs i j,CY Tryz.prog 37 (.fptr k xs i j) 1=some (.fptr k xs i (j+1))):=I4 (by kernel_rfl:J5 Tryz.prog 37 1 1=true)
theorem MX:(∀ b i j,CY Tryz.prog 37 (.ptr b i j) 2=some (.ptr b i (j+2)))∧(∀ k xs i j,CY Tryz.prog 37 (.fptr k xs i j) 2=some (.fptr k xs i (j+2))):=I4 (by kernel_rfl:J5 Tryz.prog 37 2 2=true)
theorem OI:(∀ b i j,CY Tryz.prog 37 (.ptr b i j) 3=some (.ptr b i (j+3)))∧(∀ k xs i j,CY Tryz.prog 37 (.fptr k xs i j) 3=some (.fptr k xs i (j+3))):=I4 (by kernel_rfl:J5 Tryz.prog 37 3 3=true)
theorem AZV : ∀ h a i,FZ Tryz.prog h 53 a i=MG 2 h a i:=IM (by kernel_rfl:Tryz.prog.underlying 53=some (.slice 94)) A11
theorem A2Q:(∀ m k xs,KT Tryz.prog 53 (.sl m k xs)=some (.int .i64 xs.length))∧∀ b off len,KT Tryz.prog 53 (.own b off len)=some (.int .i64 len):=OE (by kernel_rfl:Tryz.prog.underlying 53=some (.slice 94))
theorem ATQ : ∀ h a i,FZ Tryz.prog h 55 a i=MG 1 h a i:=IM (by kernel_rfl:Tryz.prog.underlying 55=some (.slice 4)) sz4
theorem A2P:(∀ m k xs,KT Tryz.prog 55 (.sl m k xs)=some (.int .i64 xs.length))∧∀ b off len,KT Tryz.prog 55 (.own b off len)=some (.int .i64 len):=OE (by kernel_rfl:Tryz.prog.underlying 55=some (.slice 4))
theorem A1W:Tryz.prog.underlying 55=some (.slice 4):=by kernel_rfl
theorem A3A:OM Tryz.prog 4=some 1:=by kernel_rfl
theorem PG:(∀ b i j,CY Tryz.prog 61 (.ptr b i j) 0=some (.ptr b i (j+0)))∧(∀ k xs i j,CY Tryz.prog 61 (.fptr k xs i j) 0=some (.fptr k xs i (j+0))):=I4 (by kernel_rfl:J5 Tryz.prog 61 0 0=true)
theorem RP:(∀ b i j,CY Tryz.prog 61 (.ptr b i j) 1=some (.ptr b i (j+1)))∧(∀ k xs i j,CY Tryz.prog 61 (.fptr k xs i j) 1=some (.fptr k xs i (j+1))):=I4 (by kernel_rfl:J5 Tryz.prog 61 1 1=true)
theorem RN:(∀ b i j,CY Tryz.prog 61 (.ptr b i j) 2=some (.ptr b i (j+2)))∧(∀ k xs i j,CY Tryz.prog 61 (.fptr k xs i j) 2=some (.fptr k xs i (j+2))):=I4 (by kernel_rfl:J5 Tryz.prog 61 2 2=true)
theorem PE:(∀ b i j,CY Tryz.prog 65 (.ptr b i j) 0=some (.ptr b i (j+0)))∧(∀ k xs i j,CY Tryz.prog 65 (.fptr k xs i j) 0=some (.fptr k xs i (j+0))):=I4 (by kernel_rfl:J5 Tryz.prog 65 0 0=true)
theorem KZ:(∀ b i j,CY Tryz.prog 65 (.ptr b i j) 1=some (.ptr b i (j+1)))∧(∀ k xs i j,CY Tryz.prog 65 (.fptr k xs i j) 1=some (.fptr k xs i (j+1))):=I4 (by kernel_rfl:J5 Tryz.prog 65 1 1=true)
theorem MM:(∀ b i j,CY Tryz.prog 65 (.ptr b i j) 2=some (.ptr b i (j+2)))∧(∀ k xs i j,CY Tryz.prog 65 (.fptr k xs i j) 2=some (.fptr k xs i (j+2))):=I4 (by kernel_rfl:J5 Tryz.prog 65 2 2=true)
theorem WJ:(∀ b i j,CY Tryz.prog 65 (.ptr b i j) 3=some (.ptr b i (j+3)))∧(∀ k xs i j,CY Tryz.prog 65 (.fptr k xs i j) 3=some (.fptr k xs i (j+3))):=I4 (by kernel_rfl:J5 Tryz.prog 65 3 3=true)
theorem RJ:(∀ b i j,CY Tryz.prog 78 (.ptr b i j) 0=some (.ptr b i (j+0)))∧(∀ k xs i j,CY Tryz.prog 78 (.fptr k xs i j) 0=some (.fptr k xs i (j+0))):=I4 (by kernel_rfl:J5 Tryz.prog 78 0 0=true)
theorem AXH:(∀ b i j,CY Tryz.prog 78 (.ptr b i j) 1=some (.ptr b i (j+1)))∧(∀ k xs i j,CY Tryz.prog 78 (.fptr k xs i j) 1=some (.fptr k xs i (j+1))):=I4 (by kernel_rfl:J5 Tryz.prog 78 1 1=true)
theorem AXG:(∀ b i j,CY Tryz.prog 78 (.ptr b i j) 2=some (.ptr b i (j+6)))∧(∀ k xs i j,CY Tryz.prog 78 (.fptr k xs i j) 2=some (.fptr k xs i (j+6))):=I4 (by kernel_rfl:J5 Tryz.prog 78 2 6=true)
theorem AKA:(∀ b i j,CY Tryz.prog 78 (.ptr b i j) 3=some (.ptr b i (j+7)))∧(∀ k xs i j,CY Tryz.prog 78 (.fptr k xs i j) 3=some (.fptr k xs i (j+7))):=I4 (by kernel_rfl:J5 Tryz.prog 78 3 7=true)
theorem AXF:(∀ b i j,CY Tryz.prog 94 (.ptr b i j) 0=some (.ptr b i (j+0)))∧(∀ k xs i j,CY Tryz.prog 94 (.fptr k xs i j) 0=some (.fptr k xs i (j+0))):=I4 (by kernel_rfl:J5 Tryz.prog 94 0 0=true)
theorem AXE:(∀ b i j,CY Tryz.prog 94 (.ptr b i j) 1=some (.ptr b i (j+1)))∧(∀ k xs i j,CY Tryz.prog 94 (.fptr k xs i j) 1=some (.fptr k xs i (j+1))):=I4 (by kernel_rfl:J5 Tryz.prog 94 1 1=true)
theorem ANT : ∀ h a i,FZ Tryz.prog h 97 a i=MG 1 h a i:=IM (by kernel_rfl:Tryz.prog.underlying 97=some (.slice 9)) sz9
theorem ADO:(∀ m k xs,KT Tryz.prog 97 (.sl m k xs)=some (.int .i64 xs.length))∧∀ b off len,KT Tryz.prog 97 (.own b off len)=some (.int .i64 len):=OE (by kernel_rfl:Tryz.prog.underlying 97=some (.slice 9))
theorem AWH:Tryz.prog.underlying 97=some (.slice 9):=by kernel_rfl
theorem AV5:AAJ Tryz.prog 9=some 1:=by kernel_rfl
theorem AXU:OM Tryz.prog 9=some 16:=by kernel_rfl
theorem AJ9:(∀ b i j,CY Tryz.prog 99 (.ptr b i j) 0=some (.ptr b i (j+0)))∧(∀ k xs i j,CY Tryz.prog 99 (.fptr k xs i j) 0=some (.fptr k xs i (j+0))):=I4 (by kernel_rfl:J5 Tryz.prog 99 0 0=true)
theorem AJ8:(∀ b i j,CY Tryz.prog 99 (.ptr b i j) 1=some (.ptr b i (j+1)))∧(∀ k xs i j,CY Tryz.prog 99 (.fptr k xs i j) 1=some (.fptr k xs i (j+1))):=I4 (by kernel_rfl:J5 Tryz.prog 99 1 1=true)
theorem ACI:(∀ b i j,CY Tryz.prog 99 (.ptr b i j) 2=some (.ptr b i (j+2)))∧(∀ k xs i j,CY Tryz.prog 99 (.fptr k xs i j) 2=some (.fptr k xs i (j+2))):=I4 (by kernel_rfl:J5 Tryz.prog 99 2 2=true)
theorem AQT:(∀ b i j,CY Tryz.prog 99 (.ptr b i j) 3=some (.ptr b i (j+3)))∧(∀ k xs i j,CY Tryz.prog 99 (.fptr k xs i j) 3=some (.fptr k xs i (j+3))):=I4 (by kernel_rfl:J5 Tryz.prog 99 3 3=true)
theorem AJ7:(∀ b i j,CY Tryz.prog 99 (.ptr b i j) 4=some (.ptr b i (j+4)))∧(∀ k xs i j,CY Tryz.prog 99 (.fptr k xs i j) 4=some (.fptr k xs i (j+4))):=I4 (by kernel_rfl:J5 Tryz.prog 99 4 4=true)
theorem AT6:(∀ b i j,CY Tryz.prog 107 (.ptr b i j) 0=some (.ptr b i (j+0)))∧(∀ k xs i j,CY Tryz.prog 107 (.fptr k xs i j) 0=some (.fptr k xs i (j+0))):=I4 (by kernel_rfl:J5 Tryz.prog 107 0 0=true)
theorem TR : ∀ h a i,FZ Tryz.prog h 109 a i=MG 16 h a i:=IM (by kernel_rfl:Tryz.prog.underlying 109=some (.slice 74)) sz74
theorem AZO:(∀ m k xs,KT Tryz.prog 109 (.sl m k xs)=some (.int .i64 xs.length))∧∀ b off len,KT Tryz.prog 109 (.own b off len)=some (.int .i64 len):=OE (by kernel_rfl:Tryz.prog.underlying 109=some (.slice 74))
theorem ud109:Tryz.prog.underlying 109=some (.slice 74):=by kernel_rfl
theorem YK:(∀ b i j,CY Tryz.prog 132 (.ptr b i j) 0=some (.ptr b i (j+0)))∧(∀ k xs i j,CY Tryz.prog 132 (.fptr k xs i j) 0=some (.fptr k xs i (j+0))):=I4 (by kernel_rfl:J5 Tryz.prog 132 0 0=true)
theorem YJ:(∀ b i j,CY Tryz.prog 132 (.ptr b i j) 1=some (.ptr b i (j+1)))∧(∀ k xs i j,CY Tryz.prog 132 (.fptr k xs i j) 1=some (.fptr k xs i (j+1))):=I4 (by kernel_rfl:J5 Tryz.prog 132 1 1=true)
theorem YI:(∀ b i j,CY Tryz.prog 132 (.ptr b i j) 2=some (.ptr b i (j+2)))∧(∀ k xs i j,CY Tryz.prog 132 (.fptr k xs i j) 2=some (.fptr k xs i (j+2))):=I4 (by kernel_rfl:J5 Tryz.prog 132 2 2=true)
theorem AVL : ∀ h a i,FZ Tryz.prog h 139 a i=MG 4 h a i:=IM (by kernel_rfl:Tryz.prog.underlying 139=some (.slice 143)) ALS
theorem AL8:(∀ m k xs,KT Tryz.prog 139 (.sl m k xs)=some (.int .i64 xs.length))∧∀ b off len,KT Tryz.prog 139 (.own b off len)=some (.int .i64 len):=OE (by kernel_rfl:Tryz.prog.underlying 139=some (.slice 143))
theorem VE:(∀ b i j,CY Tryz.prog 141 (.ptr b i j) 0=some (.ptr b i (j+0)))∧(∀ k xs i j,CY Tryz.prog 141 (.fptr k xs i j) 0=some (.fptr k xs i (j+0))):=I4 (by kernel_rfl:J5 Tryz.prog 141 0 0=true)
theorem YH:(∀ b i j,CY Tryz.prog 141 (.ptr b i j) 1=some (.ptr b i (j+1)))∧(∀ k xs i j,CY Tryz.prog 141 (.fptr k xs i j) 1=some (.fptr k xs i (j+1))):=I4 (by kernel_rfl:J5 Tryz.prog 141 1 1=true)
theorem OU:(∀ b i j,CY Tryz.prog 143 (.ptr b i j) 0=some (.ptr b i (j+0)))∧(∀ k xs i j,CY Tryz.prog 143 (.fptr k xs i j) 0=some (.fptr k xs i (j+0))):=I4 (by kernel_rfl:J5 Tryz.prog 143 0 0=true)
theorem Q5:(∀ b i j,CY Tryz.prog 143 (.ptr b i j) 1=some (.ptr b i (j+1)))∧(∀ k xs i j,CY Tryz.prog 143 (.fptr k xs i j) 1=some (.fptr k xs i (j+1))):=I4 (by kernel_rfl:J5 Tryz.prog 143 1 1=true)
theorem ABA:(∀ b i j,CY Tryz.prog 143 (.ptr b i j) 2=some (.ptr b i (j+2)))∧(∀ k xs i j,CY Tryz.prog 143 (.fptr k xs i j) 2=some (.fptr k xs i (j+2))):=I4 (by kernel_rfl:J5 Tryz.prog 143 2 2=true)
theorem AZW : ∀ h a i,FZ Tryz.prog h 149 a i=MG 1 h a i:=IM (by kernel_rfl:Tryz.prog.underlying 149=some (.slice 103)) AYU
theorem AZN:(∀ m k xs,KT Tryz.prog 149 (.sl m k xs)=some (.int .i64 xs.length))∧∀ b off len,KT Tryz.prog 149 (.own b off len)=some (.int .i64 len):=OE (by kernel_rfl:Tryz.prog.underlying 149=some (.slice 103))
theorem PY:(∀ b i j,CY Tryz.prog 175 (.ptr b i j) 0=some (.ptr b i (j+0)))∧(∀ k xs i j,CY Tryz.prog 175 (.fptr k xs i j) 0=some (.fptr k xs i (j+0))):=I4 (by kernel_rfl:J5 Tryz.prog 175 0 0=true)
theorem AT5:(∀ b i j,CY Tryz.prog 175 (.ptr b i j) 1=some (.ptr b i (j+1)))∧(∀ k xs i j,CY Tryz.prog 175 (.fptr k xs i j) 1=some (.fptr k xs i (j+1))):=I4 (by kernel_rfl:J5 Tryz.prog 175 1 1=true)
theorem AFY:(∀ b i j,CY Tryz.prog 175 (.ptr b i j) 2=some (.ptr b i (j+2)))∧(∀ k xs i j,CY Tryz.prog 175 (.fptr k xs i j) 2=some (.fptr k xs i (j+2))):=I4 (by kernel_rfl:J5 Tryz.prog 175 2 2=true)
theorem AVK : ∀ h a i,FZ Tryz.prog h 188 a i=MG 1 h a i:=IM (by kernel_rfl:Tryz.prog.underlying 188=some (.slice 23)) A14
theorem AVG:(∀ m k xs,KT Tryz.prog 188 (.sl m k xs)=some (.int .i64 xs.length))∧∀ b off len,KT Tryz.prog 188 (.own b off len)=some (.int .i64 len):=OE (by kernel_rfl:Tryz.prog.underlying 188=some (.slice 23))
theorem VC:(∀ b i j,CY Tryz.prog 199 (.ptr b i j) 0=some (.ptr b i (j+0)))∧(∀ k xs i j,CY Tryz.prog 199 (.fptr k xs i j) 0=some (.fptr k xs i (j+0))):=I4 (by kernel_rfl:J5 Tryz.prog 199 0 0=true)
theorem AFX:(∀ b i j,CY Tryz.prog 199 (.ptr b i j) 1=some (.ptr b i (j+1)))∧(∀ k xs i j,CY Tryz.prog 199 (.fptr k xs i j) 1=some (.fptr k xs i (j+1))):=I4 (by kernel_rfl:J5 Tryz.prog 199 1 1=true)
theorem AA9:(∀ b i j,CY Tryz.prog 199 (.ptr b i j) 2=some (.ptr b i (j+2)))∧(∀ k xs i j,CY Tryz.prog 199 (.fptr k xs i j) 2=some (.fptr k xs i (j+2))):=I4 (by kernel_rfl:J5 Tryz.prog 199 2 2=true)
theorem AZ9 : ∀ n,Y0 Tryz.prog 3 5 (.int .i64 n)=some (.int .u8 (IntKind.u8.wrap n)):=fun n=>AIJ (ds := .int .i64) Tryz.prog .i64 n (by kernel_rfl) (by kernel_rfl)
theorem AVR : ∀ n,Y0 Tryz.prog 5 3 (.int .u8 n)=some (.int .i64 (IntKind.i64.wrap n)):=fun n=>AIJ (ds := .int .u8) Tryz.prog .u8 n (by kernel_rfl) (by kernel_rfl)
noncomputable def En (G:Nat→AV):Env:=⟨Tryz.prog,G,none,fun _ _=>False⟩
theorem enP (G:Nat→AV):(En G).P=Tryz.prog:=rfl
theorem enX (G:Nat→AV):(En G).nox=En G:=rfl
theorem enG (G:Nat→AV):(En G).G=G:=rfl
theorem enM (G:Nat→AV):(En G).P.follows .mixedOrders=true:=by kernel_rfl
theorem acN {E:Env} {f:FuncId} {fn:Func} {c:Code} {args:List AV} {h:Hp} {R:AV→Hp→Prop} (hf:E.P.funcs[f]? = some fn) (hb:fn.body=some c) (hw:awp E Hint.none c (KR args) h (EH E.P fn.results.toList R)) (h0:E.P.follows .mixedOrders=true:=by kernel_rfl) (h1:(fn.name == "runtime.NumGoroutine")=false:=by kernel_rfl) (h2:QL fn.ntmps c=true:=by kernel_rfl) (h3:Nat.ble args.length fn.ntmps=true:=by kernel_rfl):ACalls E f args h R:=KL h0 hf hb h1 h2 (Nat.le_of_ble_eq_true h3) hw
end Go.Proofs.YtgnoolgeijmlaaaGreatDoor.Sm
namespace Go.Proofs.YtgnoolgeijmlaaaGreatDoor.Bins
open Sm
open List renaming drop_eq_getElem_cons→zT
structure Rng where
 lo:Int
 hi:Int
 deriving DecidableEq
def inside (xs:List Rng) (v:Int):Bool:=xs.any fun r=>decide (r.lo≤v) && decide (v≤r.hi)
theorem AC4 {α:Type} (p:α→Bool) (xs:List α) (k:Nat) (h:k < xs.length):(xs.drop k).any p=(p xs[k] || (xs.drop (k+1)).any p):=by
 rw [zT h,List.any_cons]
theorem AUB {α:Type} [DecidableEq α] {xs ys:List α} {k:Nat} (hx:k < xs.length) (hy:k < ys.length):decide (xs.drop k=ys.drop k)=(decide (xs[k]=ys[k]) && decide (xs.drop (k+1)=ys.drop (k+1))):=by
 rw [zT hx,zT hy,Bool.eq_iff_iff]
 simp only [decide_eq_true_eq,Bool.and_eq_true,List.cons.injEq]
def bad (r:Rng):Bool:=decide (r.lo < 0) || decide (r.lo > r.hi) || decide (r.hi > 65535)
structure Rs where
 m:SM
 l:List Rng
structure Bin where
 name:ByteArray
 kind:Int
 ranges:Rs
 sm:SM
 steps:List Rs
theorem cok (f:FuncId) (G:Nat→AV) (hf:(match Tryz.prog.funcs[f]? with | some fn=>fn.body.isSome && !(fn.name == "runtime.NumGoroutine") | none=>false)=true):W9 (En G).P f:=by
 have he:(En G).P=Tryz.prog:=rfl
 unfold W9
 rw [he]
 cases hx:Tryz.prog.funcs[f]? with
 | none=>rw [hx] at hf; cases hf
 | some fn =>
   rw [hx] at hf
   simp at hf
   exact ⟨fn,rfl,by simpa using hf.1,by simpa using hf.2⟩
def qencI (n:Int):List AV := [.int .i64 n]
theorem encI0 (n:Int):(qencI n)[0]? = some (.int .i64 n):=rfl
end Go.Proofs.YtgnoolgeijmlaaaGreatDoor.Bins
set_option linter.unusedSimpArgs false
set_option maxRecDepth 8000
namespace Go.Proofs.YtgnoolgeijmlaaaGreatDoor.Bins
open Sm
open Bool renaming not_false→jC
open List renaming map_cons→jF,map_nil→jE,append_nil→jD,length_map→jM,all_eq_true→zJ,getElem?_cons_zero→jP
open Nat renaming le_of_ble_eq_true→jH,reduceEqDiff→jA,lt_or_ge→jT,eq_zero_or_pos→qR
open Option renaming getD_some→jB
def QQ (n:Int):Bool:=decide (n≥97) && decide (n≤122)
def AID (n:Int):Bool:=decide (n≥48) && decide (n≤57)
def MN (n:Int):Bool:=QQ n || AID n || (decide (n≥65) && decide (n≤90)) || n == 95
theorem AB3 (G:Nat→AV) (n:Int) (h:Hp):PCall (En G) 232 [.int .i32 n] h (.bool (QQ n)):=by
 refine acN Tryz.func232 rfl ?_
 show awp _ _ _ _ _ (EH _ [.tmp 2] _)
 simp -implicitDefEqProofs only [BC,A8,A7,AZ,BB,BM,CE,CQ,AC,AQ,AO,BD,AX,AL,AA,AY,AU,BH,BL,BG,BA,BX,AB,F7,BF,↓reduceIte,jA,jB,jC,enX,enP]
 refine J3 (fun ha => ?_) (fun ha => ?_)
 ·simp -implicitDefEqProofs only [BK,A7,CU,AZ,BB,BM,CE,CQ,FY,AC,AQ,AO,BD,AX,AL,AA,AY,AU,BH,BL,BG,BA,CS,DL,BX,AB,MI,BF,↓reduceIte,jA,jB,jC,enP,ha]
  exact ⟨by unfold QQ; rw [ha]; rfl,trivial⟩
 ·simp -implicitDefEqProofs only [BK,A7,CU,AZ,BB,BM,CE,CQ,I7,AC,AQ,AO,BD,AX,AL,AA,EO,AY,AU,BL,BA,CS,DU,↓reduceIte,jA,jB,jC,ha]
  exact ⟨by unfold QQ; rw [ha]; rfl,trivial⟩
theorem AKJ (G:Nat→AV) (n:Int) (h:Hp):PCall (En G) 241 [.int .i32 n] h (.bool (AID n)):=by
 refine acN Tryz.func241 rfl ?_
 show awp _ _ _ _ _ (EH _ [.tmp 2] _)
 simp -implicitDefEqProofs only [BC,A8,A7,AZ,BB,BM,CE,CQ,AC,AQ,AO,BD,AX,AL,AA,AY,AU,BH,BL,BG,BA,BX,AB,F7,BF,↓reduceIte,jA,jB,jC,enX,enP]
 refine J3 (fun ha => ?_) (fun ha => ?_)
 ·simp -implicitDefEqProofs only [BK,A7,CU,AZ,BB,BM,CE,CQ,FY,AC,AQ,AO,BD,AX,AL,AA,AY,AU,BH,BL,BG,BA,CS,DL,BX,AB,MI,BF,↓reduceIte,jA,jB,jC,enP,ha]
  exact ⟨by unfold AID; rw [ha]; rfl,trivial⟩
 ·simp -implicitDefEqProofs only [BK,A7,CU,AZ,BB,BM,CE,CQ,I7,AC,AQ,AO,BD,AX,AL,AA,EO,AY,AU,BL,BA,CS,DU,↓reduceIte,jA,jB,jC,ha]
  exact ⟨by unfold AID; rw [ha]; rfl,trivial⟩
theorem AD6 (G:Nat→AV) (n:Int) (h:Hp):PCall (En G) 224 [.int .u8 n] h (.bool (QQ n)):=by
 refine acN Tryz.func224 rfl ?_
 show awp _ _ _ _ _ (EH _ [.tmp 2] _)
 simp -implicitDefEqProofs only [BC,A8,A7,AZ,BB,BM,CE,CQ,AC,AQ,AO,BD,AX,AL,AA,AY,AU,BH,BL,BG,BA,BX,AB,F7,BF,↓reduceIte,jA,jB,jC,enX,enP]
 refine J3 (fun ha => ?_) (fun ha => ?_)
 ·simp -implicitDefEqProofs only [BK,A7,CU,AZ,BB,BM,CE,CQ,FY,AC,AQ,AO,BD,AX,AL,AA,AY,AU,BH,BL,BG,BA,CS,DL,BX,AB,MI,BF,↓reduceIte,jA,jB,jC,enP,ha]
  exact ⟨by unfold QQ; rw [ha]; rfl,trivial⟩
 ·simp -implicitDefEqProofs only [BK,A7,CU,AZ,BB,BM,CE,CQ,I7,AC,AQ,AO,BD,AX,AL,AA,EO,AY,AU,BL,BA,CS,DU,↓reduceIte,jA,jB,jC,ha]
  exact ⟨by unfold QQ; rw [ha]; rfl,trivial⟩
theorem AN9 (G:Nat→AV) (n:Int) (h:Hp):PCall (En G) 240 [.int .u8 n] h (.bool (AID n)):=by
 refine acN Tryz.func240 rfl ?_
 show awp _ _ _ _ _ (EH _ [.tmp 2] _)
 simp -implicitDefEqProofs only [BC,A8,A7,AZ,BB,BM,CE,CQ,AC,AQ,AO,BD,AX,AL,AA,AY,AU,BH,BL,BG,BA,BX,AB,F7,BF,↓reduceIte,jA,jB,jC,enX,enP]
 refine J3 (fun ha => ?_) (fun ha => ?_)
 ·simp -implicitDefEqProofs only [BK,A7,CU,AZ,BB,BM,CE,CQ,FY,AC,AQ,AO,BD,AX,AL,AA,AY,AU,BH,BL,BG,BA,CS,DL,BX,AB,MI,BF,↓reduceIte,jA,jB,jC,enP,ha]
  exact ⟨by unfold AID; rw [ha]; rfl,trivial⟩
 ·simp -implicitDefEqProofs only [BK,A7,CU,AZ,BB,BM,CE,CQ,I7,AC,AQ,AO,BD,AX,AL,AA,EO,AY,AU,BL,BA,CS,DU,↓reduceIte,jA,jB,jC,ha]
  exact ⟨by unfold AID; rw [ha]; rfl,trivial⟩
theorem YA (G:Nat→AV) (n:Int) (h:Hp):PCall (En G) 233 [.int .i32 n] h (.bool (MN n)):=by
 refine acN Tryz.func233 rfl ?_
 show awp _ _ _ _ _ (EH _ [.tmp 2] _)
 simp -implicitDefEqProofs only [BC,A8,A7,AZ,BB,AC,AQ,AO,BD,AX,AL,AA,AY,AU,BZ,BL,BG,BA,CB,BP,BF,jF,jE,jD,↓reduceIte,jA,jB,jC,enX,enP]
 refine (AB3 G n h).use ?_
 simp -implicitDefEqProofs only [AZ,BM,CE,CQ,AC,AQ,AO,BD,AX,AL,AA,AY,BG,↓reduceIte,jB,jC]
 refine J3 (fun ha => ?_) (fun ha => ?_)
 ·simp -implicitDefEqProofs only [BK,A7,CU,AZ,BB,BM,CE,CQ,GM,UE,AC,AQ,AO,BD,AX,AL,AA,EO,AY,AU,BL,BG,BA,CS,DL,↓reduceIte,jA,jB,jC,ha]
  exact ⟨by unfold MN; rw [ha]; rfl,trivial⟩
 simp -implicitDefEqProofs only [BM,CE,CQ,EZ,AC,AQ,AO,BD,AX,AL,AA,AY,BZ,BG,CB,BP,BF,jF,jE,jD,↓reduceIte,jA,jB,jC,ha]
 refine (AKJ G n h).use ?_
 simp -implicitDefEqProofs only [AZ,BM,CE,CQ,AC,AQ,AO,BD,AX,AL,AA,AY,AU,BL,BG,CS,DU,↓reduceIte,jA,jB,jC]
 refine J3 (fun hb => ?_) (fun hb => ?_)
 ·simp -implicitDefEqProofs only [BK,A7,CU,AZ,BB,BM,CE,CQ,GM,UE,AC,AQ,AO,BD,AX,AL,AA,EO,AY,AU,BL,BG,BA,CS,DL,↓reduceIte,jA,jB,jC,hb]
  exact ⟨by unfold MN; rw [ha,hb]; rfl,trivial⟩
 simp -implicitDefEqProofs only [BM,CE,CQ,EZ,AC,AQ,AO,BD,AX,AL,AA,AY,AU,BH,BG,BX,AB,F7,BF,↓reduceIte,jA,jB,jC,enP,hb]
 refine J3 (fun hc => ?_) (fun hc => ?_)
 ·simp -implicitDefEqProofs only [AZ,BM,CE,CQ,FY,EZ,AC,AQ,AO,BD,AX,AL,AA,AY,AU,BH,BL,BG,CS,DL,DU,BX,AB,MI,BF,↓reduceIte,jA,jB,jC,enP,hc]
  refine J3 (fun hd => ?_) (fun hd => ?_)
  ·simp -implicitDefEqProofs only [BK,A7,CU,AZ,BB,BM,CE,CQ,GM,AC,AQ,AO,BD,AX,AL,AA,EO,AY,AU,BL,BA,CS,DL,↓reduceIte,jA,jB,jC,hd]
   exact ⟨by unfold MN; rw [ha,hb,hc,hd]; rfl,trivial⟩
  ·simp -implicitDefEqProofs only [BK,A7,CU,AZ,BB,BM,CE,CQ,EZ,AC,AQ,AO,BD,AX,AL,AA,AY,AU,BH,BL,BG,BA,CS,DU,BX,AB,EC,BF,↓reduceIte,jA,jB,jC,enP,hd]
   exact ⟨by unfold MN; rw [ha,hb,hc,hd]; rfl,trivial⟩
 ·simp -implicitDefEqProofs only [BK,A7,CU,AZ,BB,BM,CE,CQ,EZ,I7,AC,AQ,AO,BD,AX,AL,AA,EO,AY,AU,BH,BL,BG,BA,CS,DU,BX,AB,EC,BF,↓reduceIte,jA,jB,jC,enP,hc]
  exact ⟨by unfold MN; rw [ha,hb,hc]; rfl,trivial⟩
theorem ANV (G:Nat→AV) (n:Int) (h:Hp):PCall (En G) 226 [.int .u8 n] h (.bool (MN n)):=by
 refine acN Tryz.func226 rfl ?_
 show awp _ _ _ _ _ (EH _ [.tmp 2] _)
 simp -implicitDefEqProofs only [BC,A8,A7,AZ,BB,AC,AQ,AO,BD,AX,AL,AA,AY,AU,BZ,BL,BG,BA,CB,BP,BF,jF,jE,jD,↓reduceIte,jA,jB,jC,enX,enP]
 refine (AD6 G n h).use ?_
 simp -implicitDefEqProofs only [AZ,BM,CE,CQ,AC,AQ,AO,BD,AX,AL,AA,AY,BG,↓reduceIte,jB,jC]
 refine J3 (fun ha => ?_) (fun ha => ?_)
 ·simp -implicitDefEqProofs only [BK,A7,CU,AZ,BB,BM,CE,CQ,GM,UE,AC,AQ,AO,BD,AX,AL,AA,EO,AY,AU,BL,BG,BA,CS,DL,↓reduceIte,jA,jB,jC,ha]
  exact ⟨by unfold MN; rw [ha]; rfl,trivial⟩
 simp -implicitDefEqProofs only [BM,CE,CQ,EZ,AC,AQ,AO,BD,AX,AL,AA,AY,BZ,BG,CB,BP,BF,jF,jE,jD,↓reduceIte,jA,jB,jC,ha]
 refine (AN9 G n h).use ?_
 simp -implicitDefEqProofs only [AZ,BM,CE,CQ,AC,AQ,AO,BD,AX,AL,AA,AY,AU,BL,BG,CS,DU,↓reduceIte,jA,jB,jC]
 refine J3 (fun hb => ?_) (fun hb => ?_)
 ·simp -implicitDefEqProofs only [BK,A7,CU,AZ,BB,BM,CE,CQ,GM,UE,AC,AQ,AO,BD,AX,AL,AA,EO,AY,AU,BL,BG,BA,CS,DL,↓reduceIte,jA,jB,jC,hb]
  exact ⟨by unfold MN; rw [ha,hb]; rfl,trivial⟩
 simp -implicitDefEqProofs only [BM,CE,CQ,EZ,AC,AQ,AO,BD,AX,AL,AA,AY,AU,BH,BG,BX,AB,F7,BF,↓reduceIte,jA,jB,jC,enP,hb]
 refine J3 (fun hc => ?_) (fun hc => ?_)
 ·simp -implicitDefEqProofs only [AZ,BM,CE,CQ,FY,EZ,AC,AQ,AO,BD,AX,AL,AA,AY,AU,BH,BL,BG,CS,DL,DU,BX,AB,MI,BF,↓reduceIte,jA,jB,jC,enP,hc]
  refine J3 (fun hd => ?_) (fun hd => ?_)
  ·simp -implicitDefEqProofs only [BK,A7,CU,AZ,BB,BM,CE,CQ,GM,AC,AQ,AO,BD,AX,AL,AA,EO,AY,AU,BL,BA,CS,DL,↓reduceIte,jA,jB,jC,hd]
   exact ⟨by unfold MN; rw [ha,hb,hc,hd]; rfl,trivial⟩
  ·simp -implicitDefEqProofs only [BK,A7,CU,AZ,BB,BM,CE,CQ,EZ,AC,AQ,AO,BD,AX,AL,AA,AY,AU,BH,BL,BG,BA,CS,DU,BX,AB,EC,BF,↓reduceIte,jA,jB,jC,enP,hd]
   exact ⟨by unfold MN; rw [ha,hb,hc,hd]; rfl,trivial⟩
 ·simp -implicitDefEqProofs only [BK,A7,CU,AZ,BB,BM,CE,CQ,EZ,I7,AC,AQ,AO,BD,AX,AL,AA,EO,AY,AU,BH,BL,BG,BA,CS,DU,BX,AB,EC,BF,↓reduceIte,jA,jB,jC,enP,hc]
  exact ⟨by unfold MN; rw [ha,hb,hc]; rfl,trivial⟩
def encStr (s:ByteArray):List AV := [.str s]
theorem AMI (s:ByteArray):(encStr s)[0]? = some (.str s):=rfl
def LV (xs:List ByteArray) (v:ByteArray):Bool:=xs.any fun u=>v.toList == u.toList
theorem ATV (G:Nat→AV) (xs:List ByteArray) (m:SM) (v:ByteArray) (h:Hp) (hl:xs.length≤1099511627776) :
  PCall (En G) 238 [.sl m 1 (xs.map encStr),.str v] h (.bool (LV xs v)):=by
 refine acN Tryz.func238 rfl ?_
 show awp _ _ _ _ _ (EH _ [.tmp 4] _)
 simp -implicitDefEqProofs only [BC,CG,A8,A7,AZ,BB,AC,AQ,AO,BD,AX,AL,AU,BH,BL,BA,jB,jC,enX,enP]
 refine D5 (fun n F H => ∃ k,n+k=xs.length∧F 0 = .sl m 1 (xs.map encStr)∧F 1 = .str v∧F 5 = .int .i64 (k:Nat)∧H=h∧LV xs v=LV (xs.drop k) v) xs.length ⟨0,by simp,rfl,rfl,rfl,rfl,rfl⟩ ?_
 rintro n F H ⟨k,hk,f0,f1,f5,rfl,hin⟩
 simp -implicitDefEqProofs only [BC,A8,BI,A7,AZ,BB,AC,AQ,AO,BD,AX,AL,AA,AY,BG,BX,EW,AB,C9,↓reduceIte,jA,jB,jC,enP,ADO,f0,f1,f5,jM]
 refine CX (fun hc => ?_) (fun hc => ?_)
 ·have hc':k < xs.length:=by simpa using hc
  have hs:LV (xs.drop k) v=((v.toList == xs[k].toList) || LV (xs.drop (k+1)) v):=AC4 _ xs k hc'
  simp -implicitDefEqProofs only [BC,CG,A8,BQ,BI,A7,AZ,BB,AC,AQ,AO,BD,AX,AL,AA,AY,BG,BO,BX,CO,AB,KU,↓reduceIte,jA,jB,jC,enP,ANT,f0,f1,f5,EQ hc',FO ag9 hc',AMI]
  refine CX (fun hb => ?_) (fun hb => ?_)
  ·simp -implicitDefEqProofs only [BC,A8,BK,A7,CW,EN,FV,CU,AZ,BB,AC,AQ,AO,BD,AX,AL,AA,AU,BL,BA,↓reduceIte,jB,jC]
   refine ⟨?_,trivial⟩
   rw [hin,hs,show (v.toList == xs[k].toList)=true by rw [BEq.comm]; exact hb]; rfl
  ·simp -implicitDefEqProofs only [A8,BQ,A7,ET,EX,AZ,BB,AC,AQ,AO,BD,AX,AL,AA,AY,AU,BH,BG,BA,BX,AB,DX,↓reduceIte,jA,jB,jC,enP,f5,wrap_succ (show k < 9223372036854775807 by omega)]
   refine ⟨n - 1,by omega,k+1,by omega,f0,f1,rfl,trivial,?_⟩
   rw [hin,hs,show (v.toList == xs[k].toList)=false by rw [BEq.comm]; exact hb]; rfl
 ·have hc' : ¬ k < xs.length:=by simpa using hc
  simp -implicitDefEqProofs only [BC,A8,BK,DW,A7,EP,FH,FM,CU,AZ,BB,AC,AQ,AO,BD,AX,AL,AA,AU,BL,BA,↓reduceIte,jB,jC]
  exact ⟨by rw [hin,List.drop_eq_nil_of_le (by omega)]; rfl,trivial⟩
theorem index_prog (G:Nat→AV) (xs:List ByteArray) (m:SM) (v:ByteArray) (h:Hp) (hl:xs.length≤1099511627776) :
  ∃ i:Int,(decide (i≥0)=LV xs v)∧PCall (En G) 237 [.sl m 1 (xs.map encStr),.str v] h (.int .i64 i):=by
 refine ⟨(match xs.findIdx? (fun u=>v.toList == u.toList) with | some i=>(i:Int) | none => -1),?_,?_⟩
 ·cases hx:xs.findIdx? (fun u=>v.toList == u.toList) with
  | some i =>
    obtain ⟨h1,h2,_⟩:=List.findIdx?_eq_some_iff_getElem.1 hx
    have:LV xs v=true:=List.any_eq_true.2 ⟨xs[i],by simp,h2⟩
    simp [this]
  | none =>
    have:LV xs v=false:=by
     rw [List.findIdx?_eq_none_iff] at hx
     unfold LV
     rw [List.any_eq_false]; intro x hx2; simp only [hx x hx2]; simp
    simp [this]
 refine acN Tryz.func237 rfl ?_
 show awp _ _ _ _ _ (EH _ [.tmp 4] _)
 simp -implicitDefEqProofs only [BC,CG,A8,A7,AZ,BB,AC,AQ,AO,BD,AX,AL,AA,AY,AU,BH,BG,BA,EW,AB,BF,↓reduceIte,jA,jB,jC,enX,enP,ADO,jM]
 refine D5 (fun n F H => ∃ k,n+k=xs.length∧F 0 = .sl m 1 (xs.map encStr)∧F 1 = .str v∧F 7 = .int .i64 xs.length∧F 8 = .int .i64 (k:Nat)∧H=h∧(xs.take k).all (fun u => !(v.toList == u.toList))=true) xs.length ⟨0,by simp,rfl,rfl,rfl,rfl,rfl,rfl⟩ ?_
 rintro n F H ⟨k,hk,f0,f1,f7,f8,rfl,hin⟩
 simp -implicitDefEqProofs only [BC,A8,BI,A7,AZ,BB,AC,AQ,AO,BD,AX,AL,AA,AY,BX,AB,C9,↓reduceIte,jB,jC,enP,f0,f1,f7,f8,jM]
 refine CX (fun hc => ?_) (fun hc => ?_)
 ·have hc':k < xs.length:=by simpa using hc
  simp -implicitDefEqProofs only [BC,CG,A8,BQ,BI,A7,AZ,BB,AC,AQ,AO,BD,AX,AL,AA,AY,BG,BA,BO,BX,CO,AB,KU,↓reduceIte,jA,jB,jC,enP,ANT,f0,f1,f7,f8,EQ hc',FO ag9 hc',AMI]
  refine CX (fun hb => ?_) (fun hb => ?_)
  ·simp -implicitDefEqProofs only [BC,A8,BK,A7,CW,EN,FV,CU,AZ,BB,AC,AQ,AO,BD,AX,AL,AA,AY,BG,BA,↓reduceIte,jA,jB,jC]
   refine ⟨?_,trivial⟩
   rw [List.findIdx?_eq_some_iff_getElem.2 ⟨hc',hb,fun j hj=>by
    rw [zJ] at hin
    have:=hin xs[j] (by rw [List.mem_take_iff_getElem]; exact ⟨j,by omega,rfl⟩)
    simpa using this⟩]
  ·simp -implicitDefEqProofs only [A8,BQ,A7,ET,EX,AZ,BB,AC,AQ,AO,BD,AX,AL,AA,AY,AU,BH,BG,BX,AB,DX,↓reduceIte,jA,jB,jC,enP,f8,wrap_succ (show k < 9223372036854775807 by omega)]
   refine ⟨n - 1,by omega,k+1,by omega,f0,f1,f7,rfl,trivial,?_⟩
   rw [List.take_succ_eq_append_getElem hc',List.all_append,hin]
   simp only [List.all_cons,List.all_nil,hb]; rfl
 ·have hc' : ¬ k < xs.length:=by simpa using hc
  simp -implicitDefEqProofs only [BC,A8,BK,DW,A7,EP,FH,FM,CU,AZ,BB,AC,AQ,AO,BD,AX,AL,AA,AU,BH,BA,↓reduceIte,jB,jC]
  refine ⟨?_,trivial⟩
  rw [List.take_of_length_le (by omega)] at hin
  rw [List.findIdx?_eq_none_iff.2 (by
   intro x hx
   rw [zJ] at hin
   simpa using hin x hx)]
theorem ADT (G:Nat→AV) (xs:List ByteArray) (m:SM) (v:ByteArray) (h:Hp) (hl:xs.length≤1099511627776) :
  PCall (En G) 218 [.sl m 1 (xs.map encStr),.str v] h (.bool (LV xs v)):=by
 obtain ⟨i,hi,hp⟩:=index_prog G xs m v h hl
 refine acN Tryz.func218 rfl ?_
 show awp _ _ _ _ _ (EH _ [.tmp 4] _)
 simp -implicitDefEqProofs only [BC,A8,A7,AZ,BB,AC,AQ,AO,BD,AX,AL,AA,AY,AU,BZ,BL,BG,BA,CB,BP,BF,BU,jF,jE,jD,↓reduceIte,jA,jB,jC,enX,enP]
 refine hp.use ?_
 simp -implicitDefEqProofs only [BK,A7,CU,AZ,BB,AC,AQ,AO,BD,AX,AL,AA,AY,AU,BH,BA,BX,AB,F7,↓reduceIte,jB,jC,enP]
 exact ⟨by rw [hi],trivial⟩
def kw:List ByteArray := [⟨#[99,108,97,115,115]⟩,⟨#[101,120,116,101,110,100,115]⟩,⟨#[114,97,110,100]⟩,⟨#[114,97,110,100,99]⟩,⟨#[115,116,97,116,101]⟩,⟨#[99,111,110,115,116,114,97,105,110,116]⟩,⟨#[115,111,102,116]⟩,⟨#[100,105,115,116]⟩,⟨#[105,102]⟩,⟨#[101,108,115,101]⟩,⟨#[101,97,99,104]⟩,⟨#[105,110]⟩,⟨#[115,111,108,118,101]⟩,⟨#[98,101,102,111,114,101]⟩,⟨#[105,110,115,105,100,101]⟩,⟨#[112,114,111,112,101,114,116,121]⟩,⟨#[115,101,113]⟩,⟨#[97,110,100]⟩,⟨#[111,114]⟩,⟨#[110,111,116]⟩,⟨#[115,101,116]⟩,⟨#[104,111,108,100]⟩,⟨#[112,108,97,105,110]⟩,⟨#[114,101,112,101,97,116]⟩]
theorem AP9:kw.length=24:=rfl
theorem AFN (G:Nat→AV) (h:Hp):PCall (En G) 239 [] h (.sl .full 1 (kw.map encStr)):=by
 refine acN Tryz.func239 rfl ?_
 show awp _ _ _ _ _ (EH _ [.tmp 0] _)
 simp -implicitDefEqProofs only [FT,FX,BC,A8,A7,AZ,BB,AC,AQ,AO,BD,AX,AL,AU,IW,L8,BA,FU,jB,jC,enX,enP]
 refine AEF (v := .sl .full 1 (kw.map encStr)) (h:=h) (by kernel_rfl) ?_
 simp -implicitDefEqProofs only [BK,A7,CU,AZ,BB,AC,AQ,AO,BD,AX,AL,AA,AY,BA,↓reduceIte,jB,jC]
 exact ⟨trivial,trivial⟩
theorem ADP (G:Nat→AV) (v:ByteArray) (h:Hp):PCall (En G) 225 [.str v] h (.bool (LV kw v)):=by
 refine acN Tryz.func225 rfl ?_
 show awp _ _ _ _ _ (EH _ [.tmp 2] _)
 simp -implicitDefEqProofs only [BC,A8,A7,AZ,BB,AC,AQ,AO,BD,AX,AL,AU,BZ,BL,BA,CB,BP,jE,jD,jB,jC,enX,enP]
 refine (AFN G h).use ?_
 simp -implicitDefEqProofs only [AZ,AC,AQ,AO,BD,AX,AL,AA,AY,BZ,BG,CB,BP,BF,jF,jE,jD,↓reduceIte,jA,jB,jC]
 refine (ATV G kw .full v h (by rw [AP9]; omega)).use ?_
 simp -implicitDefEqProofs only [BK,A7,CU,AZ,BB,AC,AQ,AO,BD,AX,AL,AA,AY,BA,↓reduceIte,jB,jC]
 exact ⟨trivial,trivial⟩
def KwG (G:Nat→AV):Prop := ∃ m,G 0 = .fptr 1 [[.sl m 1 (kw.map encStr)]] 0 0
theorem AB7 (G:Nat→AV) (hG:KwG G) (v:ByteArray) (h:Hp):PCall (En G) 213 [.str v] h (.bool (LV kw v)):=by
 obtain ⟨m,hg⟩:=hG
 refine acN Tryz.func213 rfl ?_
 show awp _ _ _ _ _ (EH _ [.tmp 2] _)
 have e:DF Tryz.prog h 97 (G 0)=some (.sl m 1 (kw.map encStr)):=by rw [hg]; exact AP5 AOI rfl rfl
 have hl:kw.length≤1099511627776:=by rw [AP9]; omega
 simp -implicitDefEqProofs only [BC,A8,A7,AZ,BB,AC,AQ,AO,BD,AX,AL,AA,AY,AU,BZ,AT8,BL,BG,BA,BO,CB,BP,AB,BF,jF,jE,jD,↓reduceIte,jA,jB,jC,enX,enP,enG,e]
 refine (ADT G kw m v h hl).use ?_
 simp -implicitDefEqProofs only [BK,A7,CU,AZ,BB,AC,AQ,AO,BD,AX,AL,AA,AY,BA,↓reduceIte,jB,jC]
 exact ⟨trivial,trivial⟩
def RZ (s:ByteArray):Bool:=(match s.data.toList with | []=>false | b :: _=>QQ b.toNat) && s.data.toList.all fun b=>MN b.toNat
def H7 (s:ByteArray):Bool:=RZ s && decide (s.size≤16) && !LV kw s
theorem ZE {n:Int} (h:MN n=true):n < 128:=by
 simp only [MN,QQ,AID,Bool.or_eq_true,Bool.and_eq_true,decide_eq_true_eq,beq_iff_eq] at h
 omega
theorem ASY (h:Hp) (s:ByteArray):ZW Tryz.prog h 9 (.str s)=some (.ptr h.length 0 0,h ++ [.iter s 0]):=by
 have:Tryz.prog.underlying 9=some .string:=by kernel_rfl
 simp [ZW,this]
theorem ATC {h:Hp} {s:ByteArray} {pos:Nat} (hp:pos < s.size):AAH (h ++ [.iter s pos]) (.ptr h.length 0 0) true=some (.tup [.bool true,.int .i64 pos,.int .i32 (Utf8.decode s pos).1],h ++ [.iter s (pos+(Utf8.decode s pos).2)]):=by
 simp [AAH,hp]
theorem APZ {h:Hp} {s:ByteArray} {pos:Nat} (hp : ¬ pos < s.size):AAH (h ++ [.iter s pos]) (.ptr h.length 0 0) true=some (.tup [.bool false],h ++ [.iter s pos]):=by
 simp [AAH,hp]
theorem TA {s:ByteArray} {k:Nat} (hk:k < s.size) (hb:MN (s[k]'hk).toNat=false):RZ s=false:=by
 unfold RZ
 have:(s.data.toList.all fun b=>MN b.toNat)=false:=by
  rw [List.all_eq_false]
  exact ⟨s[k],Array.getElem_mem_toList (xs:=s.data) hk,by simp [hb]⟩
 rw [this]; simp
theorem Z4 {s:ByteArray} (hk:0 < s.size) (hb:QQ (s[0]'hk).toNat=false):RZ s=false:=by
 unfold RZ
 have:(match s.data.toList with | []=>false | b :: _=>QQ b.toNat)=false:=by
  cases hl:s.data.toList with
  | nil=>rfl
  | cons b l =>
    have h0:s[0]'hk=b:=by
     have:s.data.toList[0]? = some b:=by rw [hl]; rfl
     have h2:s.data[0]? = some b:=by rw [← Array.getElem?_toList]; exact this
     have hk':0 < s.data.size:=hk
     rw [Array.getElem?_eq_getElem hk'] at h2
     exact Option.some.inj h2
    simp only
    rw [← h0]; exact hb
 rw [this]; simp
theorem AGU {s:ByteArray} (hk:0 < s.size) (hb:QQ (s[0]'hk).toNat=true) (ha : ∀ i (hi:i < s.size),MN (s[i]'hi).toNat=true):RZ s=true:=by
 unfold RZ
 have h1:(match s.data.toList with | []=>false | b :: _=>QQ b.toNat)=true:=by
  cases hl:s.data.toList with
  | nil =>
    have:s.data.toList.length=0:=by rw [hl]; rfl
    have h2:s.data.size=0:=by simpa using this
    have h3:s.size=s.data.size:=rfl
    omega
  | cons b l =>
    have h0:s[0]'hk=b:=by
     have:s.data.toList[0]? = some b:=by rw [hl]; rfl
     have h2:s.data[0]? = some b:=by rw [← Array.getElem?_toList]; exact this
     have hk':0 < s.data.size:=hk
     rw [Array.getElem?_eq_getElem hk'] at h2
     exact Option.some.inj h2
    simp only
    rw [← h0]; exact hb
 rw [h1,Bool.true_and,zJ]
 intro b hbm
 obtain ⟨i,hi,rfl⟩:=List.getElem_of_mem hbm
 have hi':i < s.size:=by simpa using hi
 exact ha i hi'
theorem word_prog (G:Nat→AV) (s:ByteArray) (h:Hp) (hl:s.size≤1099511627776):PCall (En G) 212 [.str s] h (.bool (RZ s)):=by
 refine ACalls.pure0 rfl ?_
 refine acN Tryz.func212 rfl ?_
 show awp _ _ _ _ _ (EH _ [.tmp 2] _)
 simp -implicitDefEqProofs only [BC,CG,A8,A7,AZ,BB,AC,AQ,AO,BD,AX,AL,AA,AY,AU,BL,BG,BA,ASA,BR,BF,↓reduceIte,jA,jB,jC,enP,ASY]
 refine D5 (fun n F H => ∃ k,n+k=s.size∧F 0 = .str s∧F 6 = .ptr h.length 0 0∧H=h ++ [.iter s k]∧(∀ i (hi:i < s.size),i < k→MN (s[i]'hi).toNat=true)∧(∀ hp:0 < s.size,0 < k→QQ (s[0]'hp).toNat=true)) s.size ⟨0,by simp,rfl,by simp -implicitDefEqProofs only [AA,↓reduceIte],rfl,fun _ _ h=>absurd h (by omega),fun _ h=>absurd h (by omega)⟩ ?_
 rintro n F H ⟨k,hk,f0,f6,rfl,hall,h0⟩
 rcases Classical.em (k < s.size) with hp | hp
 ·have go : ∀ (r:Nat × Nat),Utf8.decode s k=r→(MN r.1=true→r=((s[k]'hp).toNat,1)∧MN (s[k]'hp).toNat=true)∧(MN r.1=false→RZ s=false)∧(QQ r.1=false→k=0→RZ s=false)∧(QQ r.1=true→MN r.1=true):=by
   rintro r rfl
   have lf : ∀ n,QQ n=true→MN n=true:=fun n hn=>by unfold MN; rw [hn]; rfl
   rcases jT (s[k]'hp).toNat 128 with ha | ha
   ·have hd:=decode_ascii s k hp ha
    rw [hd]
    exact ⟨fun hf=>⟨rfl,hf⟩,fun hf=>TA hp hf,fun hf h0=>by subst h0; exact Z4 hp hf,lf _⟩
   ·have hd:=(decode_high s k hp ha).1
    refine ⟨fun hf => ?_,fun _ => ?_,fun _ h0 => ?_,lf _⟩
    ·have:=ZE hf; omega
    ·refine TA hp ?_
     cases hf:MN (s[k]'hp).toNat with
     | false=>rfl
     | true=>have:=ZE hf; omega
    ·refine TA hp ?_
     cases hf:MN (s[k]'hp).toNat with
     | false=>rfl
     | true=>have:=ZE hf; omega
  simp -implicitDefEqProofs only [jP,List.getElem?_cons_succ,BC,CG,A8,BQ,BI,A7,D6,AZ,BB,BM,CE,CQ,AC,AQ,AO,BD,AX,AL,AA,AY,AU,BH,BG,BA,BX,AOS,EJ,FP,BR,AB,EC,↓reduceIte,jA,jB,jC,enP,f0,f6,ATC hp]
  generalize hr:Utf8.decode s k=r at go
  obtain ⟨g1,g2,g3,g4⟩:=go r rfl
  have done : ∀ H',MN r.1=true→(k=0→QQ r.1=true)→H'=h ++ [ABlk.iter s (k+r.2)]→∃ m,m < n∧∃ k',m+k'=s.size∧H'=h ++ [.iter s k']∧(∀ i (hi:i < s.size),i < k'→MN (s[i]'hi).toNat=true)∧(∀ hp:0 < s.size,0 < k'→QQ (s[0]'hp).toNat=true):=by
   intro H' hf hlw hH
   obtain ⟨e1,e2⟩:=g1 hf
   refine ⟨n - 1,by omega,k+1,by omega,by rw [hH,e1],fun i hi hik => ?_,fun hp0 _ => ?_⟩
   ·rcases jT i k with h' | h'
    ·exact hall i hi h'
    ·have:i=k:=by omega
     subst this; exact e2
   ·rcases qR k with h' | h'
    ·subst h'; have:=hlw rfl; rw [e1] at this; exact this
    ·exact h0 hp0 h'
  refine J3 (fun ha => ?_) (fun ha => ?_)
  ·have hk0:k=0:=by simp at ha; omega
   simp -implicitDefEqProofs only [BM,CE,CQ,FY,AC,AQ,AO,BD,AX,AL,AA,AY,BZ,BG,CB,BP,jF,jE,jD,↓reduceIte,jA,jB,jC,ha]
   refine (AB3 G _ _).use ?_
   simp -implicitDefEqProofs only [AZ,BM,CE,CQ,FY,AC,AQ,AO,BD,AX,AL,AA,AY,AU,BL,BG,CS,DL,IQ,AB,FI,↓reduceIte,jA,jB,jC]
   refine J3 (fun hb => ?_) (fun hb => ?_)
   ·simp -implicitDefEqProofs only [BC,A8,BK,BI,A7,CW,EN,FV,CU,D6,AZ,BB,BM,CE,CQ,GM,AC,AQ,AO,BD,AX,AL,AA,EO,AY,AU,BL,BA,CS,DL,↓reduceIte,jA,jB,jC,hb]
    have hlw:QQ r.1=false:=by simpa using hb
    exact ⟨by rw [g3 hlw hk0],_,rfl⟩
   have hlw:QQ r.1=true:=by simpa using hb
   simp -implicitDefEqProofs only [BM,CE,CQ,EZ,AC,AQ,AO,BD,AX,AL,AA,AY,BZ,BG,CB,BP,jF,jE,jD,↓reduceIte,jA,jB,jC,hb]
   refine (YA G _ _).use ?_
   simp -implicitDefEqProofs only [BI,A7,AZ,BB,BM,CE,CQ,EZ,AC,AQ,AO,BD,AX,AL,AA,AY,AU,BL,CS,DU,IQ,AB,FI,↓reduceIte,jA,jB,jC]
   have hf:=g4 hlw
   simp -implicitDefEqProofs only [BQ,ET,EX,D9,AA,↓reduceIte,jA,Bool.not_true,hf]
   obtain ⟨m,h1,k',h2,h3,h4,h5⟩:=done _ hf (fun _=>hlw) rfl
   exact ⟨m,h1,k',h2,f0,f6,h3,h4,h5⟩
  ·have hk0:k≠0:=by intro e; subst e; simp at ha
   simp -implicitDefEqProofs only [AZ,BM,CE,CQ,EZ,I7,AC,AQ,AO,BD,AX,AL,AA,EO,AY,AU,BZ,BL,BG,CS,DU,CB,BP,jF,jE,jD,↓reduceIte,jA,jB,jC,ha]
   refine (YA G _ _).use ?_
   simp -implicitDefEqProofs only [BI,A7,AZ,BB,BM,CE,CQ,EZ,AC,AQ,AO,BD,AX,AL,AA,AY,AU,BL,CS,DU,IQ,AB,FI,↓reduceIte,jA,jB,jC]
   refine CX (fun hb => ?_) (fun hb => ?_)
   ·have hf:MN r.1=false:=by simpa using hb
    simp -implicitDefEqProofs only [BC,A8,BK,A7,CW,EN,FV,CU,AZ,BB,AC,AQ,AO,BD,AX,AL,AA,AU,BL,BA,↓reduceIte,jB,jC]
    exact ⟨by rw [g2 hf],_,rfl⟩
   ·have hf:MN r.1=true:=by simpa using hb
    simp -implicitDefEqProofs only [BQ,ET,EX,AA,↓reduceIte,jA]
    obtain ⟨m,h1,k',h2,h3,h4,h5⟩:=done _ hf (fun e=>absurd e hk0) rfl
    exact ⟨m,h1,k',h2,f0,f6,h3,h4,h5⟩
 ·simp -implicitDefEqProofs only [jP,BC,A8,BK,DW,BI,A7,EP,FH,FM,CU,D9,AZ,BB,AC,AQ,AO,BD,AX,AL,AA,AY,AU,IW,BG,BA,BX,AOS,EJ,FP,BR,AB,ACX,↓reduceIte,jA,jB,jC,enP,f0,f6,APZ hp]
  have hks:k=s.size:=by omega
  refine ⟨?_,_,rfl⟩
  congr 1
  rcases qR s.size with hz | hz
  ·have:s=⟨#[]⟩:=by
    obtain ⟨d⟩:=s
    have:d.size=0:=hz
    rw [Array.eq_empty_of_size_eq_zero this]
   subst this
   rw [ByteArray.toList_eq]
   rfl
  ·rw [AGU hz (h0 hz (by omega)) (fun i hi=>hall i hi (by omega))]
   have hne:s.toList≠[]:=by
    rw [ByteArray.toList_eq]
    intro e
    have:s.data.toList.length=0:=by rw [e]; rfl
    have h2:s.data.size=0:=by simpa using this
    have h3:s.size=s.data.size:=rfl
    omega
   cases hl2:s.toList with
   | nil=>exact absurd hl2 hne
   | cons=>rw [ByteArray.toList_eq]; rfl
theorem O4 (G:Nat→AV) (hG:KwG G) (s:ByteArray) (h:Hp) (hl:s.size≤1099511627776):PCall (En G) 170 [.str s] h (.bool (H7 s)):=by
 refine acN Tryz.func170 rfl ?_
 show awp _ _ _ _ _ (EH _ [.tmp 2] _)
 simp -implicitDefEqProofs only [BC,A8,A7,AZ,BB,AC,AQ,AO,BD,AX,AL,AA,AY,AU,BZ,BL,BG,BA,CB,BP,BF,jF,jE,jD,↓reduceIte,jA,jB,jC,enX,enP]
 refine (word_prog G s h hl).use ?_
 simp -implicitDefEqProofs only [AZ,BM,CE,CQ,AC,AQ,AO,BD,AX,AL,AA,AY,BG,↓reduceIte,jB,jC]
 refine J3 (fun ha => ?_) (fun ha => ?_)
 ·simp -implicitDefEqProofs only [AZ,BM,CE,CQ,FY,AC,AQ,AO,BD,AX,AL,AA,AY,AU,BH,BL,BG,CS,DL,BX,EW,AB,MI,BF,↓reduceIte,jA,jB,jC,enP,ln9,ha]
  refine J3 (fun hb => ?_) (fun hb => ?_)
  ·simp -implicitDefEqProofs only [BM,CE,CQ,FY,AC,AQ,AO,BD,AX,AL,AA,AY,BZ,BG,CB,BP,BF,jF,jE,jD,↓reduceIte,jA,jB,jC,hb]
   refine (AB7 G hG s h).use ?_
   simp -implicitDefEqProofs only [BK,A7,CU,AZ,BB,BM,CE,CQ,FY,AC,AQ,AO,BD,AX,AL,AA,AY,AU,BL,BA,CS,DL,IQ,AB,FI,↓reduceIte,jA,jB,jC]
   refine ⟨?_,trivial⟩
   have:decide (s.size≤16)=true:=by simp at hb ⊢; omega
   unfold H7; rw [ha,this]; rfl
  ·simp -implicitDefEqProofs only [BK,A7,CU,AZ,BB,BM,CE,CQ,I7,AC,AQ,AO,BD,AX,AL,AA,EO,AY,AU,BL,BA,CS,DU,↓reduceIte,jA,jB,jC,hb]
   refine ⟨?_,trivial⟩
   have:decide (s.size≤16)=false:=by simp at hb ⊢; omega
   unfold H7; rw [ha,this]; rfl
 ·simp -implicitDefEqProofs only [BK,A7,CU,AZ,BB,BM,CE,CQ,I7,AC,AQ,AO,BD,AX,AL,AA,EO,AY,AU,BL,BG,BA,CS,DU,↓reduceIte,jA,jB,jC,ha]
  exact ⟨by unfold H7; rw [ha]; rfl,trivial⟩
theorem ix9 (s:ByteArray) (k:Nat) (kk:IntKind) (hk:k < s.size):NV Tryz.prog 9 (.str s) (.int kk (k:Int))=some (.int .u8 (s[k]'hk).toNat):=by
 have hu:Tryz.prog.underlying 9=some .string:=by kernel_rfl
 have h0:(0:Int)≤(k:Int):=by omega
 have:s[k]? = some (s[k]'hk):=by simp [hk]
 simp [NV,hu,h0,this]
theorem QD (G:Nat→AV) (s:ByteArray) (h:Hp):PCall (En G) 195 [.str s] h (.bool (H7 s)):=by
 refine acN Tryz.func195 rfl ?_
 show awp _ _ _ _ _ (EH _ [.tmp 2] _)
 simp -implicitDefEqProofs only [BC,A8,A7,AZ,BB,BM,CE,CQ,AC,AQ,AO,BD,AX,AL,AA,AY,AU,BL,IW,BG,BA,BX,AB,KU,BF,↓reduceIte,jA,jB,jC,enX,enP]
 refine J3 (fun ha => ?_) (fun ha => ?_)
 ·simp -implicitDefEqProofs only [BC,A8,BK,BI,A7,CW,CU,D6,AZ,BB,BM,CE,CQ,GM,AC,AQ,AO,BD,AX,AL,AA,EO,AY,AU,BL,BG,BA,CS,DL,↓reduceIte,jA,jB,jC,ha]
  refine ⟨?_,trivial⟩
  have:s.data.toList = []:=by
   rw [ByteArray.toList_eq,ByteArray.toList_eq] at ha
   have:=beq_iff_eq.1 ha
   exact this
  unfold H7 RZ; rw [this]; rfl
 have hz:0 < s.size:=by
  rcases qR s.size with hz | hz
  ·have:s=⟨#[]⟩:=by
    obtain ⟨d⟩:=s
    have:d.size=0:=hz
    rw [Array.eq_empty_of_size_eq_zero this]
   rw [this] at ha
   simp at ha
  ·exact hz
 simp -implicitDefEqProofs only [AZ,BM,CE,CQ,EZ,AC,AQ,AO,BD,AX,AL,AA,AY,AU,BH,BL,BG,CS,DU,BX,EW,AB,F6,BF,↓reduceIte,jA,jB,jC,enP,ln9,ha]
 refine J3 (fun hb => ?_) (fun hb => ?_)
 ·simp -implicitDefEqProofs only [BC,A8,BK,BI,A7,CW,CU,D6,AZ,BB,BM,CE,CQ,GM,AC,AQ,AO,BD,AX,AL,AA,EO,AY,AU,BL,BG,BA,CS,DL,↓reduceIte,jA,jB,jC,hb]
  refine ⟨?_,trivial⟩
  have:decide (s.size≤16)=false:=by simp at hb ⊢; omega
  unfold H7; rw [this]; simp
 have h16:decide (s.size≤16)=true:=by simp at hb ⊢; omega
 simp -implicitDefEqProofs only [BM,CE,CQ,EZ,AC,AQ,AO,BD,AX,AL,AA,AY,AU,BH,BG,MB,BF,↓reduceIte,jA,jB,jC,enP,hb]
 refine AEF (v := .int .u8 (s[0]'hz).toNat) (h:=h) (by rw [show (0:Int)=((0:Nat):Int) from rfl,ix9 s 0 .i64 hz]; rfl) ?_
 simp -implicitDefEqProofs only [BM,CE,CQ,EZ,AC,AQ,AO,BD,AX,AL,AA,AY,BZ,CB,BP,jF,jE,jD,↓reduceIte,jA,jB,jC]
 refine (AD6 G _ h).use ?_
 simp -implicitDefEqProofs only [AZ,BM,CE,CQ,EZ,AC,AQ,AO,BD,AX,AL,AA,AY,AU,BL,BG,CS,DU,IQ,AB,FI,↓reduceIte,jA,jB,jC]
 refine J3 (fun hc => ?_) (fun hc => ?_)
 ·simp -implicitDefEqProofs only [BC,A8,BK,BI,A7,CW,CU,D6,AZ,BB,BM,CE,CQ,GM,AC,AQ,AO,BD,AX,AL,AA,EO,AY,AU,BL,BA,CS,DL,↓reduceIte,jA,jB,jC,hc]
  refine ⟨?_,trivial⟩
  unfold H7; rw [Z4 hz (by simpa using hc)]; rfl
 simp -implicitDefEqProofs only [BM,CE,CQ,EZ,AC,AQ,AO,BD,AX,AL,AA,AY,BZ,BG,CB,BP,BF,jF,jE,jD,↓reduceIte,jA,jB,jC,hc]
 refine (ADP G s h).use ?_
 simp -implicitDefEqProofs only [BI,A7,AZ,BB,AC,AQ,AO,BD,AX,AL,AA,AY,AU,BL,CS,DU,↓reduceIte,jA,jB,jC]
 refine CX (fun hd => ?_) (fun hd => ?_)
 ·simp -implicitDefEqProofs only [BC,A8,BK,A7,CW,CU,AZ,BB,AC,AQ,AO,BD,AX,AL,AA,AU,BL,BA,↓reduceIte,jB,jC]
  refine ⟨?_,trivial⟩
  unfold H7; rw [hd]; simp
 simp -implicitDefEqProofs only [BC,CG,A8,BQ,A7,AZ,BB,AC,AQ,AO,BD,AX,AL,AU,BH,BA,jB,jC]
 have hlow:QQ (s[0]'hz).toNat=true:=by simpa using hc
 refine D5 (fun n F H => ∃ k,n+k=s.size∧F 0 = .str s∧F 3 = .int .i64 (k:Nat)∧H=h∧(∀ i (hi:i < s.size),i < k→MN (s[i]'hi).toNat=true)) s.size ⟨0,by simp,by simp -implicitDefEqProofs only [AA,BF,↓reduceIte,jA],by simp -implicitDefEqProofs only [AA,↓reduceIte]; rfl,rfl,fun _ _ h=>absurd h (by omega)⟩ ?_
 rintro n F H ⟨k,hk,f0,f3,rfl,hall⟩
 simp -implicitDefEqProofs only [BC,A8,BI,A7,AZ,BB,AC,AQ,AO,BD,AX,AL,AA,AY,BG,BX,EW,AB,C9,↓reduceIte,jA,jB,jC,enP,ln9,f0,f3]
 refine CX (fun he => ?_) (fun he => ?_)
 ·have hk':k < s.size:=by simpa using he
  simp -implicitDefEqProofs only [BC,CG,A8,BQ,A7,AZ,AC,AQ,AO,BD,AX,AL,AA,AY,BZ,BG,MB,CB,BP,AB,jF,jE,jD,↓reduceIte,jA,jB,jC,enP,f0,f3,ix9 s k .i64 hk']
  refine (ANV G _ _).use ?_
  simp -implicitDefEqProofs only [BI,A7,AZ,BB,AC,AQ,AO,BD,AX,AL,AA,AY,IQ,AB,FI,↓reduceIte,jB,jC]
  refine CX (fun hf => ?_) (fun hf => ?_)
  ·simp -implicitDefEqProofs only [BC,A8,BK,A7,CW,EN,FV,CU,AZ,BB,AC,AQ,AO,BD,AX,AL,AA,AU,BL,BA,↓reduceIte,jB,jC]
   refine ⟨?_,trivial⟩
   unfold H7; rw [TA hk' (by simpa using hf)]; rfl
  ·simp -implicitDefEqProofs only [A8,BQ,A7,ET,EX,AZ,BB,AC,AQ,AO,BD,AX,AL,AA,AY,AU,BH,BG,BA,BX,AB,DX,↓reduceIte,jA,jB,jC,enP,f3,wrap_succ (show k < 9223372036854775807 by simp at h16; omega)]
   refine ⟨n - 1,by omega,k+1,by omega,f0,rfl,trivial,fun i hi hik => ?_⟩
   rcases jT i k with h' | h'
   ·exact hall i hi h'
   ·have:i=k:=by omega
    subst this; simpa using hf
 ·have hk' : ¬ k < s.size:=by simpa using he
  simp -implicitDefEqProofs only [BC,A8,BK,DW,A7,EP,FH,FM,CU,AZ,BB,AC,AQ,AO,BD,AX,AL,AA,AU,BL,BA,↓reduceIte,jB,jC]
  refine ⟨?_,trivial⟩
  unfold H7
  rw [AGU hz hlow (fun i hi=>hall i hi (by omega)),h16,hd]; rfl
def shape (b:Bin):Bool :=
 if (b.kind != 0 && b.kind != 1 && b.kind != 2) then false else if ((b.steps.length:Int) == 0) then decide ((b.ranges.l.length:Int) > 0) else
  if (decide ((b.ranges.l.length:Int) > 0) || b.kind != 0 || decide ((b.steps.length:Int) < 2) || decide ((b.steps.length:Int) > 8)) then false else !(b.steps.any (fun l=>decide (l.l.length=0)))
end Go.Proofs.YtgnoolgeijmlaaaGreatDoor.Bins
namespace Go.Proofs.YtgnoolgeijmlaaaGreatDoor.Cov
open Sm Bins
open Bool renaming not_false→jC
open Int renaming reduceBEq→zX
open List renaming take_of_length_le→zB
open Nat renaming le_refl→jO,le_of_ble_eq_true→jH,reduceEqDiff→jA,add_zero→jI
open Option renaming getD_some→jB
inductive Ex where
 | mk (op n:Int) (name:ByteArray) (m:SM) (args:List Ex)
def Ex.op:Ex→Int | .mk op _ _ _ _=>op
def Ex.n:Ex→Int | .mk _ n _ _ _=>n
def Ex.name:Ex→ByteArray | .mk _ _ name _ _=>name
def Ex.m:Ex→SM | .mk _ _ _ m _=>m
def Ex.args:Ex→List Ex | .mk _ _ _ _ args=>args
mutual
def DR:Ex→List AV
 | .mk op n name m args => [.int .i64 op,.int .i64 n,.str name,.sl m 4 (AIA args)]
def AIA:List Ex→List (List AV)
 | [] => []
 | e :: es=>DR e :: AIA es
end
theorem AEL : ∀ l:List Ex,AIA l=l.map DR
 | []=>by simp [AIA]
 | e :: es=>by simp [AIA,AEL es]
theorem MH (e:Ex):DR e = [.int .i64 e.op,.int .i64 e.n,.str e.name,.sl e.m 4 (e.args.map DR)]:=by
 cases e; simp [DR,AEL,Ex.op,Ex.n,Ex.name,Ex.m,Ex.args]
theorem G9 (e:Ex):(DR e).length=4:=by rw [MH]; rfl
theorem JS (e:Ex):(DR e)[0]? = some (.int .i64 e.op):=by rw [MH]; rfl
theorem AAA (e:Ex):(DR e)[1]? = some (.int .i64 e.n):=by rw [MH]; rfl
theorem PM (e:Ex):(DR e)[2]? = some (.str e.name):=by rw [MH]; rfl
theorem YN (e:Ex):(DR e)[3]? = some (.sl e.m 4 (e.args.map DR)):=by rw [MH]; rfl
theorem OL (e:Ex):(DR e).all AV.leaf=true:=by rw [MH]; rfl
theorem bxE (h:Hp) (e:Ex):MK h (.agg (DR e))=some (.ptr h.length 0 0,h ++ [.live 4 [DR e]]):=by
 have:=ABC (h:=h) (OL e)
 rw [G9] at this; exact this
theorem ldE (h:Hp) (e:Ex):DF Tryz.prog (h ++ [.live 4 [DR e]]) 37 (.ptr h.length 0 0)=some (.agg (DR e)):=by
 rw [ANP WS OZ (by rw [G9]; exact jO 4)]
 rw [List.drop_zero,zB (by rw [G9]; exact jO 4)]
theorem IU {h:Hp} {b:Nat} {e:Ex} (hb:h[b]? = some (.live 4 [DR e])):DF Tryz.prog h 37 (.ptr b 0 0)=some (.agg (DR e)):=by
 rw [GH WS OZ hb rfl (by rw [G9]; exact jO 4)]
 rw [List.drop_zero,zB (by rw [G9]; exact jO 4)]
mutual
def pre:Ex→List Ex
 | .mk op n name m args => .mk op n name m args :: IR args
def IR:List Ex→List Ex
 | [] => []
 | e :: es=>pre e ++ IR es
end
mutual
def dep:Ex→Nat
 | .mk _ _ _ _ args=>deps args+1
def deps:List Ex→Nat
 | []=>0
 | e :: es=>max (dep e) (deps es)
end
mutual
def wt:Ex→Nat
 | .mk _ _ name _ args=>name.size+1+wts args
def wts:List Ex→Nat
 | []=>0
 | e :: es=>wt e+wts es
end
theorem pre_eq (e:Ex):pre e=e :: IR e.args:=by cases e; simp [pre,Ex.args]
theorem AGA (e:Ex):dep e=deps e.args+1:=by cases e; simp [dep,Ex.args]
theorem PK (e:Ex):wt e=e.name.size+1+wts e.args:=by cases e; simp [wt,Ex.args,Ex.name]
theorem NF (xs ys:List Ex):IR (xs ++ ys)=IR xs ++ IR ys:=by
 induction xs with
 | nil=>simp [IR]
 | cons x xs ih=>simp [IR,ih]
theorem AAY (xs:List Ex):xs.length≤wts xs:=by
 induction xs with
 | nil=>simp [wts]
 | cons x xs ih=>have:=PK x; simp [wts]; omega
theorem XA {xs:List Ex} {x:Ex} (h:x∈xs):wt x≤wts xs:=by
 induction xs with
 | nil=>cases h
 | cons y ys ih =>
   simp only [wts]
   cases List.mem_cons.1 h with
   | inl e=>subst e; omega
   | inr e=>have:=ih e; omega
theorem AEP (xs:List Ex) (k:Nat) (h:k < xs.length):deps (xs.take (k+1))=max (deps (xs.take k)) (dep xs[k]):=by
 induction xs generalizing k with
 | nil=>simp at h
 | cons x xs ih =>
   cases k with
   | zero=>simp [deps]
   | succ k =>
     simp only [List.take_succ_cons,deps,List.getElem_cons_succ]
     rw [ih k (by simpa using h),Nat.max_assoc]
theorem Ex.induct {P:Ex→Prop} (h : ∀ e:Ex,(∀ a∈e.args,P a)→P e) (e:Ex):P e:=by
 have : ∀ n (e:Ex),wt e≤n→P e:=by
  intro n
  induction n with
  | zero=>intro e he; have:=PK e; omega
  | succ n ih =>
    intro e he
    refine h e fun a ha=>ih a ?_
    have h1:=XA ha
    have h2:=PK e
    omega
 exact this _ e (jO _)
theorem AQ6 (e:Ex):dep e≤wt e:=by
 refine Ex.induct (P:=fun e=>dep e≤wt e) (fun e ih => ?_) e
 rw [AGA,PK]
 have:deps e.args≤wts e.args:=by
  generalize e.args=l at ih
  induction l with
  | nil=>simp [deps,wts]
  | cons x l ih2 =>
    have h1:=ih x (by simp)
    have h2:=ih2 (fun a ha=>ih a (by simp [ha]))
    simp only [deps,wts]; omega
 omega
theorem Y8 (e:Ex):(pre e).length≤wt e:=by
 refine Ex.induct (P:=fun e=>(pre e).length≤wt e) (fun e ih => ?_) e
 rw [pre_eq,PK]
 have:(IR e.args).length≤wts e.args:=by
  generalize e.args=l at ih
  induction l with
  | nil=>simp [IR,wts]
  | cons x l ih2 =>
    have h1:=ih x (by simp)
    have h2:=ih2 (fun a ha=>ih a (by simp [ha]))
    simp only [IR,wts,List.length_append]; omega
 simp; omega
def arity (op:Int):Int:=if op < 1∨op > 25 then -1 else if op=1∨op=2∨op=24 then 0 else if op=3∨op=4∨op=5∨op=6∨op=25 then 1 else if op=22 then 3 else if op=23 then -1 else 2
set_option maxHeartbeats 2000000 in
theorem AKW (G:Nat→AV) (op:Int) (h:Hp):PCall (En G) 220 [.int .i64 op] h (.int .i64 (arity op)):=by
 refine acN Tryz.func220 rfl ?_
 show awp _ _ _ _ _ (EH _ [.tmp 2] _)
 have hcase:op < 1∨op > 25∨op=1∨op=2∨op=3∨op=4∨op=5∨op=6∨op=7∨op=8∨op=9∨op=10∨op=11∨op=12∨op=13∨op=14∨op=15∨op=16∨op=17∨op=18∨op=19∨op=20∨op=21∨op=22∨op=23∨op=24∨op=25:=by omega
 rcases hcase with h | h | rfl | rfl | rfl | rfl | rfl | rfl | rfl | rfl | rfl | rfl | rfl | rfl | rfl | rfl | rfl | rfl | rfl | rfl | rfl | rfl | rfl | rfl | rfl | rfl | rfl
 ·have hne : ∀ k:Int,1≤k→(op == k)=false:=fun k hk=>beq_eq_false_iff_ne.2 (by omega)
  have hd:decide (op < 1)=true:=by simp; omega
  have ha:arity op = -1:=by unfold arity; rw [if_pos (Or.inl h)]
  rw [ha]
  simp -implicitDefEqProofs only [BC,CG,A8,BQ,BK,BI,A7,CW,ET,CU,D6,D9,AZ,BB,BM,CE,CQ,GM,AC,AQ,AO,BD,AX,AL,AA,EO,AY,AU,BH,BL,BG,BA,CS,DL,BX,AB,EC,C9,BF,↓reduceIte,jA,jB,jC,enX,enP,hne 1 (by decide),hne 2 (by decide),hne 3 (by decide),hne 4 (by decide),hne 5 (by decide),hne 6 (by decide),hne 7 (by decide),hne 8 (by decide),hne 9 (by decide),hne 10 (by decide),hne 11 (by decide),hne 12 (by decide),hne 13 (by decide),hne 14 (by decide),hne 15 (by decide),hne 16 (by decide),hne 17 (by decide),hne 18 (by decide),hne 19 (by decide),hne 20 (by decide),hne 21 (by decide),hne 22 (by decide),hne 23 (by decide),hne 24 (by decide),hne 25 (by decide),hd]
  exact ⟨trivial,trivial⟩
 ·have hne : ∀ k:Int,k≤25→(op == k)=false:=fun k hk=>beq_eq_false_iff_ne.2 (by omega)
  have hd:decide (op < 1)=false:=by simp; omega
  have hd2:decide (op > 25)=true:=by simp; omega
  have ha:arity op = -1:=by unfold arity; rw [if_pos (Or.inr h)]
  rw [ha]
  simp -implicitDefEqProofs only [BC,CG,A8,BQ,BK,BI,A7,CW,ET,CU,D6,D9,AZ,BB,BM,CE,CQ,EZ,AC,AQ,AO,BD,AX,AL,AA,AY,AU,BH,BL,BG,BA,CS,DU,BX,AB,EC,C9,F6,BF,↓reduceIte,jA,jB,jC,enX,enP,hne 1 (by decide),hne 2 (by decide),hne 3 (by decide),hne 4 (by decide),hne 5 (by decide),hne 6 (by decide),hne 7 (by decide),hne 8 (by decide),hne 9 (by decide),hne 10 (by decide),hne 11 (by decide),hne 12 (by decide),hne 13 (by decide),hne 14 (by decide),hne 15 (by decide),hne 16 (by decide),hne 17 (by decide),hne 18 (by decide),hne 19 (by decide),hne 20 (by decide),hne 21 (by decide),hne 22 (by decide),hne 23 (by decide),hne 24 (by decide),hne 25 (by decide),hd,hd2]
  exact ⟨trivial,trivial⟩
 all_goals
  simp -implicitDefEqProofs only [BC,CG,A8,BQ,BK,BI,A7,CW,ET,EN,CU,D6,D9,AZ,BB,BM,CE,CQ,EZ,AC,AQ,AO,BD,AX,AL,AA,AY,AU,BH,BL,BG,BA,CS,DU,BX,AB,EC,C9,F6,BF,↓reduceIte,jA,jB,jC,decide_false,enX,enP,zX,Int.reduceLT,Int.reduceGT]
  exact ⟨rfl,trivial⟩
set_option maxHeartbeats 2000000 in
theorem AOF (G:Nat→AV) (op:Int) (h:Hp):PCall (En G) 210 [.int .i64 op] h (.int .i64 (arity op)):=by
 refine acN Tryz.func210 rfl ?_
 show awp _ _ _ _ _ (EH _ [.tmp 2] _)
 have hcase:op < 1∨op > 25∨op=1∨op=2∨op=3∨op=4∨op=5∨op=6∨op=7∨op=8∨op=9∨op=10∨op=11∨op=12∨op=13∨op=14∨op=15∨op=16∨op=17∨op=18∨op=19∨op=20∨op=21∨op=22∨op=23∨op=24∨op=25:=by omega
 rcases hcase with h | h | rfl | rfl | rfl | rfl | rfl | rfl | rfl | rfl | rfl | rfl | rfl | rfl | rfl | rfl | rfl | rfl | rfl | rfl | rfl | rfl | rfl | rfl | rfl | rfl | rfl
 ·have hne : ∀ k:Int,1≤k→(op == k)=false:=fun k hk=>beq_eq_false_iff_ne.2 (by omega)
  have hd:decide (op < 1)=true:=by simp; omega
  have ha:arity op = -1:=by unfold arity; rw [if_pos (Or.inl h)]
  rw [ha]
  simp -implicitDefEqProofs only [BC,CG,A8,BQ,BK,BI,A7,CW,ET,CU,D6,D9,AZ,BB,BM,CE,CQ,GM,AC,AQ,AO,BD,AX,AL,AA,EO,AY,AU,BH,BL,BG,BA,CS,DL,BX,AB,EC,C9,BF,↓reduceIte,jA,jB,jC,enX,enP,hne 1 (by decide),hne 2 (by decide),hne 3 (by decide),hne 4 (by decide),hne 5 (by decide),hne 6 (by decide),hne 7 (by decide),hne 8 (by decide),hne 9 (by decide),hne 10 (by decide),hne 11 (by decide),hne 12 (by decide),hne 13 (by decide),hne 14 (by decide),hne 15 (by decide),hne 16 (by decide),hne 17 (by decide),hne 18 (by decide),hne 19 (by decide),hne 20 (by decide),hne 21 (by decide),hne 22 (by decide),hne 23 (by decide),hne 24 (by decide),hne 25 (by decide),hd]
  exact ⟨trivial,trivial⟩
 ·have hne : ∀ k:Int,k≤25→(op == k)=false:=fun k hk=>beq_eq_false_iff_ne.2 (by omega)
  have hd:decide (op < 1)=false:=by simp; omega
  have hd2:decide (op > 25)=true:=by simp; omega
  have ha:arity op = -1:=by unfold arity; rw [if_pos (Or.inr h)]
  rw [ha]
  simp -implicitDefEqProofs only [BC,CG,A8,BQ,BK,BI,A7,CW,ET,CU,D6,D9,AZ,BB,BM,CE,CQ,EZ,AC,AQ,AO,BD,AX,AL,AA,AY,AU,BH,BL,BG,BA,CS,DU,BX,AB,EC,C9,F6,BF,↓reduceIte,jA,jB,jC,enX,enP,hne 1 (by decide),hne 2 (by decide),hne 3 (by decide),hne 4 (by decide),hne 5 (by decide),hne 6 (by decide),hne 7 (by decide),hne 8 (by decide),hne 9 (by decide),hne 10 (by decide),hne 11 (by decide),hne 12 (by decide),hne 13 (by decide),hne 14 (by decide),hne 15 (by decide),hne 16 (by decide),hne 17 (by decide),hne 18 (by decide),hne 19 (by decide),hne 20 (by decide),hne 21 (by decide),hne 22 (by decide),hne 23 (by decide),hne 24 (by decide),hne 25 (by decide),hd,hd2]
  exact ⟨trivial,trivial⟩
 all_goals
  simp -implicitDefEqProofs only [BC,CG,A8,BQ,BK,BI,A7,CW,EN,CU,D6,D9,AZ,BB,AC,AQ,AO,BD,AX,AL,AA,AY,AU,BH,BG,BA,BX,AB,EC,BF,↓reduceIte,jA,jB,jC,enX,enP,zX,Int.reduceLT,Int.reduceGT]
  exact ⟨rfl,trivial⟩
def KQ (op:Int):Bool:=op == 2 || op == 3 || op == 24
theorem ZB (G:Nat→AV) (op:Int) (h:Hp):PCall (En G) 161 [.int .i64 op] h (.bool (KQ op)):=by
 refine acN Tryz.func161 rfl ?_
 show awp _ _ _ _ _ (EH _ [.tmp 2] _)
 simp -implicitDefEqProofs only [BC,A8,A7,AZ,BB,BM,CE,CQ,AC,AQ,AO,BD,AX,AL,AA,AY,AU,BH,BL,BG,BA,BX,AB,EC,BF,↓reduceIte,jA,jB,jC,enX,enP]
 cases ha:(op == 2) <;> cases hb:(op == 3)
 all_goals
  simp -implicitDefEqProofs only [BK,A7,CU,AZ,BB,BM,CE,CQ,EZ,GM,AC,AQ,AO,BD,AX,AL,AA,EO,AY,AU,BH,BL,BG,BA,CS,DL,DU,BX,AB,EC,BF,↓reduceIte,jA,jB,jC,enP,ha,hb]
  exact ⟨by simp [KQ,ha,hb],trivial⟩
def VM (op:Int) (n:Nat):Bool:=if op == 23 then ((n:Int) % 2 == 1) && decide ((n:Int)≥3) && decide ((n:Int)≤33) else ((n:Int) == arity op)
theorem ADL (G:Nat→AV) (e:Ex) (h:Hp):PCall (En G) 183 [.agg (DR e)] h (.bool (VM e.op e.args.length)):=by
 refine ACalls.pure0 rfl ?_
 refine acN Tryz.func183 rfl ?_
 show awp _ _ _ _ _ (EH _ [.tmp 2] _)
 simp -implicitDefEqProofs only [BC,A8,BI,A7,AZ,BB,AC,AQ,AO,BD,AX,AL,AA,AY,AU,BH,BL,BA,FK,BO,BX,BJ,EW,BR,AB,EC,BF,↓reduceIte,jA,jI,Nat.zero_add,jB,jC,enP,WE,IP,OI,bxE,EM WT,EM ag3,YN,JS,List.length_map]
 generalize he:e.args.length=n
 have hm:(n:Int).tmod 2=(n:Int) % 2:=Int.tmod_eq_emod_of_nonneg (by omega)
 have b1:I8 Tryz.prog 3 .rem (.int .i64 (n:Int)) (.int .i64 2)=some (.int .i64 ((n:Int) % 2)):=by rw [ABD _ _ _ _ _ (by decide),hm]
 refine CX (fun hc => ?_) (fun hc => ?_)
 ·simp -implicitDefEqProofs only [BC,A8,AZ,BM,CE,CQ,AC,AQ,AO,BD,AX,AL,AA,AY,AU,BH,BG,BX,AB,EC,↓reduceIte,jA,jB,jC,enP,b1]
  cases ha:((n:Int) % 2 == 1) <;> cases hb:decide ((n:Int)≥3)
  all_goals
   simp -implicitDefEqProofs only [BK,A7,CW,CU,AZ,BB,BM,CE,CQ,FY,I7,AC,AQ,AO,BD,AX,AL,AA,EO,AY,AU,BH,BL,BG,BA,CS,DL,DU,BX,AB,MI,F7,↓reduceIte,jA,jB,jC,enP,ha,hb]
   exact ⟨by unfold VM; rw [if_pos hc,ha,hb]; simp,_,rfl⟩
 ·simp -implicitDefEqProofs only [BC,A8,BQ,A7,AZ,AC,AQ,AO,BD,AX,AL,AA,AY,BZ,BG,BO,BJ,CB,BP,AB,List.map_cons,List.map_nil,List.append_nil,↓reduceIte,jA,jI,jB,jC,enP,IP,EM ag3,JS]
  refine (AKW G e.op _).use ?_
  simp -implicitDefEqProofs only [BK,A7,CU,AZ,BB,AC,AQ,AO,BD,AX,AL,AA,AY,BA,BX,AB,EC,↓reduceIte,jA,jB,jC,enP]
  exact ⟨by unfold VM; rw [if_neg (by rw [hc]; decide)],_,rfl⟩
end Go.Proofs.YtgnoolgeijmlaaaGreatDoor.Cov
namespace Go.Proofs.YtgnoolgeijmlaaaGreatDoor.Cov
open Sm Bins Go.Shelf Go.RowKit
open Bool renaming and_eq_true→jU
open Int renaming toNat_natCast→qZ
open List renaming drop_eq_getElem_cons→zT,getElem?_eq_getElem→jS
def AQ9:Go.Shelf.Ren:=⟨fun | 145=>171 | 220=>214 | 219=>234 | 217=>242 | 225=>243 | 224=>244 | 267=>245 | 266=>247 | 314=>248 | n=>n,fun | 9=>9 | 4=>4 | 59=>185 | 3=>3 | 5=>5 | 46=>215 | 146=>218 | 51=>217 | n=>n,fun | 1=>1 | n=>n⟩
theorem A20:Go.Proofs.Lays.n145 Tryz.prog AQ9 := {
 mixed:=by kernel_rfl,
 f145:=Tryz.func171.trans (congrArg some (by kernel_rfl)),
 f217:=Tryz.func242.trans (congrArg some (by kernel_rfl)),
 f219:=Tryz.func234.trans (congrArg some (by kernel_rfl)),
 f220:=Tryz.func214.trans (congrArg some (by kernel_rfl)),
 f224:=Tryz.func244.trans (congrArg some (by kernel_rfl)),
 f225:=Tryz.func243.trans (congrArg some (by kernel_rfl)),
 f266:=Tryz.func247.trans (congrArg some (by kernel_rfl)),
 f267:=Tryz.func245.trans (congrArg some (by kernel_rfl)),
 f314:=Tryz.func248.trans (congrArg some (by kernel_rfl)),
 t3:=Tryz.underlying3,
 a3:=Tryz.isAgg3,
 z3:=Tryz.sizeOf3,
 v3:=Tryz.zeroValue3,
 t4:=Tryz.underlying4,
 a4:=Tryz.isAgg4,
 z4:=Tryz.sizeOf4,
 v4:=Tryz.zeroValue4,
 t5:=Tryz.underlying5,
 a5:=Tryz.isAgg5,
 z5:=Tryz.sizeOf5,
 v5:=Tryz.zeroValue5,
 t9:=Tryz.underlying9,
 a9:=Tryz.isAgg9,
 z9:=Tryz.sizeOf9,
 v9:=Tryz.zeroValue9,
 t46:=Tryz.underlying215,
 a46:=Tryz.isAgg215,
 z46:=Tryz.sizeOf215,
 v46:=Tryz.zeroValue215,
 t51:=Tryz.underlying217,
 a51:=Tryz.isAgg217,
 z51:=Tryz.sizeOf217,
 v51:=Tryz.zeroValue217,
 t59:=Tryz.underlying185,
 a59:=Tryz.isAgg185,
 z59:=Tryz.sizeOf185,
 v59:=Tryz.zeroValue185,
 t146:=Tryz.underlying218,
 a146:=Tryz.isAgg218,
 z146:=Tryz.sizeOf218,
 v146:=Tryz.zeroValue218,
 g1:=by kernel_rfl }
structure GOk (G:Nat→AV):Prop where
 kw:KwG G
 mx : ∃ n,G 1 = .fptr 1 [[.int .i64 n]] 0 0
theorem AQK {G:Nat→AV} {g:Gh} {h:Hp} {w:World} {n:Nat} {k:IntKind} {z:Int} (S:SimH (En G) g h w) (hn:G n = .fptr 1 [[.int k z]] 0 0):w.cell? ⟨n,0,none⟩=some (.int k z):=by
 have:=S.glob n
 rw [enG,hn] at this
 generalize hp:Value.pointer (some ⟨n,0,none⟩)=p at this
 cases this with
 | fptr k' xs i j cb co c e fz cv h1 h2 h3 h4 =>
   simp only [Value.pointer.injEq,Option.some.injEq,Addr.mk.injEq] at hp
   obtain ⟨rfl,hco,_⟩:=hp
   have h5:=h3 0 0 (by simp) (by simp)
   have h6:=h4 0 0 _ _ rfl rfl
   generalize cv 0 0=u at h5 h6
   cases h6
   simp only [World.cell?,S.fro _ _ h1]
   subst hco
   exact h5
def cutV (s:ByteArray):AV := .tup [.str ⟨(Lib.cut s.data.toList [91]).1.toArray⟩,.str ⟨(Lib.cut s.data.toList [91]).2.1.toArray⟩,.bool (Lib.cut s.data.toList [91]).2.2]
theorem ACT (G:Nat→AV) (hG:GOk G) (s:ByteArray) (h:Hp) (hl:s.size≤1048576):PCall (En G) 171 [.str s,.str ⟨#[91]⟩] h (cutV s):=by
 refine PCall.of_reads (cok 171 G (by kernel_rfl)) fun g w cargs S ha => ?_
 obtain ⟨hsz,hget⟩:=ha
 obtain ⟨cv0,cv1,rfl⟩ : ∃ a b,cargs = #[a,b]:=by
  obtain ⟨l⟩:=cargs
  match l,hsz with
  | [a,b],_=>exact ⟨a,b,rfl⟩
 obtain rfl:=(hget 0 _ cv0 rfl rfl).str_inv
 obtain rfl:=(hget 1 _ cv1 rfl rfl).str_inv
 obtain ⟨z,hz⟩:=hG.mx
 have hc:=AQK S hz
 have:=Any.strings_Cut A20 s ⟨#[91]⟩ z w (by omega) hc
 refine ⟨_,?_,this⟩
 refine .tup _ _ rfl ?_
 intro i v cv h1 h2
 match i,h1,h2 with
 | 0,h1,h2=>simp at h1 h2; subst h1; subst h2; exact .str _ _
 | 1,h1,h2=>simp at h1 h2; subst h1; subst h2; exact .str _ _
 | 2,h1,h2=>simp at h1 h2; subst h1; subst h2; exact .bool _ _
def JP (s:ByteArray):Option (List UInt8 × UInt8) :=
 if 4≤s.data.toList.length then match s.data.toList.drop (s.data.toList.length - 3) with
  | [x,d,y]=>if (y == 93 && x == 91 && decide (48≤d.toNat) && decide (d.toNat < 56) && H7 ⟨(s.data.toList.take (s.data.toList.length - 3)).toArray⟩)=true then some (s.data.toList.take (s.data.toList.length - 3),d) else none
  | _=>none
 else none
def elemV (o:Option (List UInt8 × UInt8)):AV:=match o with
 | some (a,d) => .tup [.str ⟨a.toArray⟩,.int .i64 ((d.toNat:Int) - 48),.bool true]
 | none => .tup [.str ⟨#[]⟩,.int .i64 0,.bool false]
theorem QZ {l:List UInt8} (h:H7 ⟨l.toArray⟩=true):l≠[]∧∀ b∈l,b≠91:=by
 have hw:RZ ⟨l.toArray⟩=true:=by
  unfold H7 at h
  exact (Bool.and_eq_true_iff.1 (Bool.and_eq_true_iff.1 h).1).1
 unfold RZ at hw
 obtain ⟨h1,h2⟩:=Bool.and_eq_true_iff.1 hw
 refine ⟨?_,?_⟩
 ·intro e; subst e; cases h1
 ·intro b hb e
  subst e
  have:=List.all_eq_true.1 h2 91 hb
  revert this; decide
theorem three {l:List UInt8} (h:3≤l.length) : ∃ a x d y,l=a ++ [x,d,y]:=by
 refine ⟨l.take (l.length - 3),?_⟩
 have h1:(l.drop (l.length - 3)).length=3:=by simp; omega
 match hm:l.drop (l.length - 3),h1 with
 | [x,d,y],_=>exact ⟨x,d,y,by rw [← hm,List.take_append_drop]⟩
theorem YP {a:List UInt8} {x d y:UInt8} (ha:a≠[]):JP ⟨(a ++ [x,d,y]).toArray⟩=if (y == 93 && x == 91 && decide (48≤d.toNat) && decide (d.toNat < 56) && H7 ⟨a.toArray⟩)=true then some (a,d) else none:=by
 have hl:0 < a.length:=List.length_pos_iff.2 ha
 unfold JP
 simp only
 rw [if_pos (by simp; omega)]
 have e:(a ++ [x,d,y]).length - 3=a.length:=by simp
 rw [e,List.drop_left,List.take_left]
theorem ACQ (s:ByteArray):JP s=if ((Lib.cut s.data.toList [91]).2.2 && H7 ⟨(Lib.cut s.data.toList [91]).1.toArray⟩)=true then match (Lib.cut s.data.toList [91]).2.1 with
  | [d,y]=>if (y == 93 && decide (48≤d.toNat) && decide (d.toNat < 56))=true then some ((Lib.cut s.data.toList [91]).1,d) else none
  | _=>none
 else none:=by
 obtain ⟨⟨l⟩⟩:=s
 have hocc : ∀ i,Lib.occAt l [91] i=true↔l[i]? = some 91:=by
  intro i
  unfold Lib.occAt
  rcases Nat.lt_or_ge i l.length with h | h
  ·rw [zT h,jS h]
   simp [List.isPrefixOf]
   exact eq_comm
  ·rw [List.drop_eq_nil_of_le h,List.getElem?_eq_none h]; simp [List.isPrefixOf]
 -- an element name of the reference's kind
 have main : ∀ a d,a≠[]→H7 ⟨a.toArray⟩=true→l=a ++ [91,d,93]→Lib.cut l [91]=(a,[d,93],true):=by
  intro a d ha hn hl
  obtain ⟨_,hne⟩:=QZ hn
  have hi:Lib.index l [91]=(a.length:Int):=by
   refine Lib.index_first (by rw [hl]; simp) ((hocc _).2 (by rw [hl]; simp)) fun j hj => ?_
   rw [← Bool.not_eq_true,hocc,hl,List.getElem?_append_left hj,jS hj]
   intro e
   exact hne _ (List.getElem_mem hj) (Option.some.inj e)
  unfold Lib.cut
  rw [hi,if_pos (by omega),qZ,hl,List.take_left,← List.drop_drop,List.drop_left]
  rfl
 show JP ⟨l.toArray⟩=_
 rcases hcase:JP ⟨l.toArray⟩ with _ | ⟨a,d⟩
 ·symm
  show (if _ then _ else none)=none
  simp only
  split
  ·rename_i hb
   rw [jU] at hb
   split
   ·rename_i d y hm
    split
    ·rename_i hd
     exfalso
     simp only [jU,beq_iff_eq,decide_eq_true_eq] at hd
     obtain ⟨⟨rfl,hd1⟩,hd2⟩:=hd
     obtain ⟨ha,_⟩:=QZ hb.2
     have hc:Lib.cut l [91]=((Lib.cut l [91]).1,[d,93],true):=by
      rw [← hm]; have:=hb.1; cases hcc:Lib.cut l [91] with
      | mk p q=>cases q with
        | mk q1 q2=>rw [hcc] at this; simp at this; subst this; rfl
     have hl:l=(Lib.cut l [91]).1 ++ [91,d,93]:=by
      generalize (Lib.cut l [91]).1=b at hc
      unfold Lib.cut at hc
      split at hc
      ·rename_i h0
       obtain ⟨i,hi⟩ : ∃ i:Nat,Lib.index l [91]=i:=⟨(Lib.index l [91]).toNat,by omega⟩
       rw [hi] at hc
       simp only [qZ,Prod.mk.injEq,List.length_singleton] at hc
       rcases Lib.index_spec l [91] with ⟨h1,_⟩ | ⟨j,h1,_,h3,_⟩
       ·omega
       ·have hj:i=j:=by omega
        subst hj
        have h4:=(hocc i).1 h3
        have h5:i < l.length:=(List.getElem?_eq_some_iff.1 h4).1
        have h6:l[i]=91:=by rw [jS h5] at h4; exact Option.some.inj h4
        rw [← hc.1]
        calc l=l.take i ++ l.drop i:=(List.take_append_drop i l).symm
         _=l.take i ++ (l[i] :: l.drop (i+1)):=by rw [zT h5]
         _=l.take i ++ [91,d,93]:=by rw [h6,hc.2.1]
      ·simp at hc
     have:=YP (x:=91) (d:=d) (y:=93) ha
     rw [← hl,hcase,if_pos (by simp [hb.2,hd1,hd2])] at this
     cases this
    ·rfl
   ·rfl
  ·rfl
 ·have h4:4≤l.length:=by
   unfold JP at hcase
   simp only at hcase
   split at hcase
   ·assumption
   ·cases hcase
  obtain ⟨b,x,d',y,rfl⟩:=three (show 3≤l.length by omega)
  have hb:b≠[]:=by intro e; subst e; simp at h4
  rw [YP hb] at hcase
  split at hcase
  ·rename_i hc
   cases hcase
   simp only [jU,beq_iff_eq,decide_eq_true_eq] at hc
   obtain ⟨⟨⟨⟨rfl,rfl⟩,h1⟩,h2⟩,h3⟩:=hc
   simp only
   rw [main a d hb h3 rfl]
   simp [h3,h1,h2]
  ·cases hcase
end Go.Proofs.YtgnoolgeijmlaaaGreatDoor.Cov
set_option linter.unusedSimpArgs false
set_option maxRecDepth 8000
namespace Go.Proofs.YtgnoolgeijmlaaaGreatDoor.Cov
open Sm Bins Go.RowKit
open Bool renaming not_false→jC,not_true→jV,eq_iff_iff→qB
open List renaming length_take→zQ,getElem?_eq_getElem→jS,map_cons→jF,map_nil→jE,append_nil→jD,getElem?_cons_zero→jP,getElem?_cons_succ→jQ,length_map→jM,getElem?_eq_none→zG,cons_append→qC,nil_append→zU
open Nat renaming le_refl→jO,le_of_ble_eq_true→jH,reduceEqDiff→jA,lt_or_ge→jT,add_zero→jI,zero_add→jG
open Option renaming getD_some→jB,getD_none→jJ
theorem AMO (l:List UInt8):(Lib.cut l [91]).1.length≤l.length:=by
 unfold Lib.cut
 split
 ·simp only [zQ]; exact Nat.min_le_right _ _
 ·exact jO _
theorem ixl {l:List UInt8} {k:Nat} {b:UInt8} {i:Int} (hi:i=(k:Int)) (hb:l[k]? = some b):NV Tryz.prog 9 (.str ⟨l.toArray⟩) (.int .i64 i)=some (.int .u8 b.toNat):=by
 subst hi
 have hk:k < l.length:=(List.getElem?_eq_some_iff.1 hb).1
 have:=ix9 ⟨l.toArray⟩ k .i64 hk
 rw [this]
 have h2:(⟨l.toArray⟩:ByteArray)[k]'hk=l[k]:=rfl
 rw [h2]
 rw [jS hk] at hb
 rw [Option.some.inj hb]
theorem szl (l:List UInt8):(⟨l.toArray⟩:ByteArray).size=l.length:=rfl
theorem wrap_u8 {n:Int} (h0:0≤n) (h1:n < 256):IntKind.u8.wrap n=n:=by
 unfold IntKind.wrap; simp [IntKind.bits,IntKind.signed]; omega
theorem AF3 (G:Nat→AV) (hG:GOk G) (s:ByteArray) (h:Hp) (hl:s.size≤1048576):PCall (En G) 221 [.str s] h (elemV (JP s)):=by
 refine acN Tryz.func221 rfl ?_
 show awp _ _ _ _ _ (EH _ [.tmp 2,.tmp 3,.tmp 4] _)
 simp -implicitDefEqProofs only [BC,A8,A7,AZ,BB,AC,AQ,AO,BD,AX,AL,AA,AY,AU,BZ,BH,BL,IW,BG,BA,CB,BP,BF,jF,jE,jD,↓reduceIte,jA,jB,jC,enX,enP]
 refine (ACT G hG s h hl).use ?_
 have he:=ACQ s
 have hal:=AMO s.data.toList
 unfold cutV
 generalize Lib.cut s.data.toList [91]=c at he hal ⊢
 obtain ⟨a,b,f⟩:=c
 have hal2:a.length≤s.size:=by simpa using hal
 simp -implicitDefEqProofs only [jP,jQ,BC,A8,A7,AZ,BB,BM,CE,CQ,AC,AQ,AO,BD,AX,AL,AA,AY,BG,BA,IQ,EJ,FP,AB,FI,↓reduceIte,jA,jB,jC]
 cases f
 ·simp -implicitDefEqProofs only [BC,A8,BK,BI,A7,CW,NQ,D6,AZ,BB,BM,CE,CQ,GM,AC,AQ,AO,BD,AX,AL,AA,EO,AY,AU,BH,BL,IW,BG,BA,CS,DL,↓reduceIte,jA,jB,jC]
  exact ⟨by rw [he]; rfl,trivial⟩
 simp -implicitDefEqProofs only [BM,CE,CQ,EZ,AC,AQ,AO,BD,AX,AL,AA,AY,BZ,BG,CB,BP,jF,jE,jD,↓reduceIte,jA,jB,jV,jC]
 refine (O4 G hG.kw ⟨a.toArray⟩ h (by rw [szl]; omega)).use ?_
 simp -implicitDefEqProofs only [AZ,BM,CE,CQ,EZ,AC,AQ,AO,BD,AX,AL,AA,AY,AU,BL,BG,CS,DU,IQ,AB,FI,↓reduceIte,jA,jB,jC]
 cases hn:H7 ⟨a.toArray⟩
 ·simp -implicitDefEqProofs only [BC,A8,BK,BI,A7,CW,NQ,D6,AZ,BB,BM,CE,CQ,GM,AC,AQ,AO,BD,AX,AL,AA,EO,AY,AU,BH,BL,IW,BG,BA,CS,DL,↓reduceIte,jA,jB,jC]
  exact ⟨by rw [he]; simp [hn]; rfl,trivial⟩
 simp -implicitDefEqProofs only [AZ,BM,CE,CQ,EZ,AC,AQ,AO,BD,AX,AL,AA,AY,AU,BH,BL,BG,CS,DU,BX,EW,AB,EU,↓reduceIte,jA,jB,jV,jC,enP,ln9,szl]
 refine J3 (fun hb => ?_) (fun hb => ?_)
 ·simp -implicitDefEqProofs only [BC,A8,BK,BI,A7,CW,NQ,D6,AZ,BB,BM,CE,CQ,GM,AC,AQ,AO,BD,AX,AL,AA,EO,AY,AU,BH,BL,IW,BG,BA,CS,DL,↓reduceIte,jA,jB,jC,hb]
  have hne : ∀ d y,b≠[d,y]:=by
   intro d y e; subst e; simp at hb
  have:JP s=none:=by
   rw [he]; split
   ·split
    ·rename_i hm; exact absurd hm (hne _ _)
    ·rfl
   ·rfl
  exact ⟨by rw [this]; rfl,trivial⟩
 have h2:b.length=2:=by simp at hb; omega
 match b,h2 with
 | [d,y],_ =>
   have i1:NV Tryz.prog 9 (.str ⟨[d,y].toArray⟩) (.int .i64 1)=some (.int .u8 y.toNat):=ixl (k:=1) rfl rfl
   have i0:NV Tryz.prog 9 (.str ⟨[d,y].toArray⟩) (.int .i64 0)=some (.int .u8 d.toNat):=ixl (k:=0) rfl rfl
   have he2:JP s=if (y == 93 && decide (48≤d.toNat) && decide (d.toNat < 56))=true then some (a,d) else none:=by
    rw [he]; simp [hn]
   clear he
   simp -implicitDefEqProofs only [AZ,BM,CE,CQ,EZ,AC,AQ,AO,BD,AX,AL,AA,AY,AU,BH,BL,BG,CS,DU,BX,MB,AB,EU,↓reduceIte,jA,jB,jC,enP,hb,i1,i0]
   refine J3 (fun hc => ?_) (fun hc => ?_)
   ·simp -implicitDefEqProofs only [BC,A8,BK,BI,A7,CW,NQ,D6,AZ,BB,BM,CE,CQ,GM,AC,AQ,AO,BD,AX,AL,AA,EO,AY,AU,BH,BL,IW,BG,BA,CS,DL,↓reduceIte,jA,jB,jC,hc]
    have hy:(y == 93)=false:=by
     rw [← Bool.not_eq_true]; intro e; rw [beq_iff_eq] at e; subst e; simp at hc
    exact ⟨by rw [he2,hy]; rfl,trivial⟩
   have hy:(y == 93)=true:=by
    rw [beq_iff_eq,← UInt8.toNat_inj]
    simp at hc; show y.toNat=93; omega
   simp -implicitDefEqProofs only [AZ,BM,CE,CQ,EZ,AC,AQ,AO,BD,AX,AL,AA,AY,AU,BH,BL,BG,CS,DU,BX,MB,AB,C9,↓reduceIte,jA,jB,jC,enP,hc,i0]
   refine J3 (fun hd => ?_) (fun hd => ?_)
   ·simp -implicitDefEqProofs only [BC,A8,BK,BI,A7,CW,NQ,D6,AZ,BB,BM,CE,CQ,GM,AC,AQ,AO,BD,AX,AL,AA,EO,AY,AU,BH,BL,IW,BA,CS,DL,↓reduceIte,jA,jB,jC,hd]
    have:decide (48≤d.toNat)=false:=by simp at hd ⊢; omega
    exact ⟨by rw [he2,this]; simp; rfl,trivial⟩
   have hd1:48≤d.toNat:=by simp at hd; omega
   simp -implicitDefEqProofs only [BI,A7,AZ,BB,BM,CE,CQ,EZ,AC,AQ,AO,BD,AX,AL,AA,AY,AU,BH,BL,BG,CS,DU,BX,MB,AB,F7,↓reduceIte,jA,jB,jC,enP,hd,i0]
   refine CX (fun hf => ?_) (fun hf => ?_)
   ·simp -implicitDefEqProofs only [BC,A8,BK,A7,CW,NQ,AZ,BB,AC,AQ,AO,BD,AX,AL,AA,AU,BH,BL,IW,BA,↓reduceIte,jA,jB,jC]
    have:decide (d.toNat < 56)=false:=by simp at hf ⊢; omega
    exact ⟨by rw [he2,this]; simp; rfl,trivial⟩
   have hd2:d.toNat < 56:=by simp at hf; omega
   simp -implicitDefEqProofs only [BC,BQ,A7]
   refine GL (by kernel_rfl) ?_
   simp -implicitDefEqProofs only [FC,DT,CZ,D8,DV,ED,GN,IE,AV6,AR8,BK,A7,NQ,AC,AA,AY,AU,BH,BL,BX,AI7,MB,AB,MR,↓reduceIte,jA,Nat.reduceAdd,jB,enP,AVR,i0,wrap_u8 (n:=(d.toNat:Int) - 48) (by omega) (by omega),wrap_i64 (n:=(d.toNat:Int) - 48) (by omega) (by omega)]
   exact ⟨by rw [he2]; simp [hy,hd1,hd2]; rfl,trivial⟩
theorem ABR {s:ByteArray} {u:Nat} {h:Hp} (hu:u≤s.size):LC Tryz.prog h 9 (.str s) none (some (.int .i64 (u:Int))) none=some (.str (s.extract 0 u)):=by
 have:Tryz.prog.underlying 9=some .string:=by kernel_rfl
 simp [LC,this,JX,hu]
theorem AMG (a b:List UInt8):(⟨(a ++ b).toArray⟩:ByteArray).extract 0 a.length=⟨a.toArray⟩:=by
 ext1
 simp
set_option maxHeartbeats 1000000 in
theorem AM5 (G:Nat→AV) (s:ByteArray) (h:Hp) (hl:s.size≤1099511627776):PCall (En G) 231 [.str s] h (elemV (JP s)):=by
 refine acN Tryz.func231 rfl ?_
 show awp _ _ _ _ _ (EH _ [.tmp 2,.tmp 3,.tmp 4] _)
 obtain ⟨⟨l⟩⟩:=s
 rw [szl] at hl
 rcases jT l.length 4 with h4 | h4
 ·have hd:decide ((l.length:Int) < 4)=true:=by simp; omega
  simp -implicitDefEqProofs only [BC,A8,BK,BI,A7,CW,NQ,D6,AZ,BB,BM,CE,CQ,GM,AC,AQ,AO,BD,AX,AL,AA,EO,AY,AU,BH,BL,IW,BG,BA,CS,DL,BX,EW,AB,C9,BF,↓reduceIte,jA,jB,jC,enX,enP,ln9,szl,hd]
  have:JP ⟨l.toArray⟩=none:=by
   unfold JP; rw [if_neg]; simp; omega
  exact ⟨by rw [this]; rfl,trivial⟩
 obtain ⟨b,x,d,y,rfl⟩:=three (show 3≤l.length by omega)
 have hlen:(b ++ [x,d,y]).length=b.length+3:=by simp
 rw [hlen] at hl h4
 have hbl:0 < b.length:=by omega
 have hb:b≠[]:=List.length_pos_iff.1 hbl
 have he:=YP (x:=x) (d:=d) (y:=y) hb
 generalize hn:H7 ⟨b.toArray⟩=nm at he
 have i1:NV Tryz.prog 9 (.str ⟨(b ++ [x,d,y]).toArray⟩) (.int .i64 ((b.length:Int)+2))=some (.int .u8 y.toNat):=ixl (k:=b.length+2) (by omega) (by simp)
 have i2:NV Tryz.prog 9 (.str ⟨(b ++ [x,d,y]).toArray⟩) (.int .i64 ((b.length:Int)+1))=some (.int .u8 d.toNat):=ixl (k:=b.length+1) (by omega) (by simp)
 have i3:NV Tryz.prog 9 (.str ⟨(b ++ [x,d,y]).toArray⟩) (.int .i64 (b.length:Int))=some (.int .u8 x.toNat):=ixl (k:=b.length) rfl (by simp)
 have i4:=ABR (s:=⟨(b ++ [x,d,y]).toArray⟩) (u:=b.length) (h:=h) (by rw [szl]; omega)
 rw [AMG] at i4
 have hsz:(⟨(b ++ [x,d,y]).toArray⟩:ByteArray).size=b.length+3:=by rw [szl,hlen]
 generalize (⟨(b ++ [x,d,y]).toArray⟩:ByteArray)=s at *
 have w1:IntKind.i64.wrap (((b.length+3:Nat):Int) - 1)=(b.length:Int)+2:=by rw [wrap_i64 (by omega) (by omega)]; omega
 have w2:IntKind.i64.wrap (((b.length+3:Nat):Int) - 2)=(b.length:Int)+1:=by rw [wrap_i64 (by omega) (by omega)]; omega
 have w3:IntKind.i64.wrap (((b.length+3:Nat):Int) - 3)=(b.length:Int):=by rw [wrap_i64 (by omega) (by omega)]; omega
 have hd8:d.toNat < 256:=d.toNat_lt
 have w4:IntKind.i64.wrap (d.toNat:Int)=(d.toNat:Int):=wrap_i64 (by omega) (by omega)
 have w5:IntKind.i64.wrap ((d.toNat:Int) - 48)=(d.toNat:Int) - 48:=wrap_i64 (by omega) (by omega)
 have ha:decide (((b.length+3:Nat):Int) < 4)=false:=by simp; omega
 simp -implicitDefEqProofs only [BC,A8,A7,AZ,BB,BM,CE,CQ,EZ,AC,AQ,AO,BD,AX,AL,AA,AY,AU,BH,BL,IW,BG,BA,CS,DU,BX,MB,EW,AB,MR,EU,C9,BF,↓reduceIte,jA,jB,jC,enX,enP,ln9,hsz,ha,w1,w2,w3,i1,i2,i3,i4]
 refine J3 (fun hc => ?_) (fun hc => ?_)
 ·simp -implicitDefEqProofs only [BC,A8,BK,BI,A7,CW,NQ,D6,AZ,BB,BM,CE,CQ,GM,AC,AQ,AO,BD,AX,AL,AA,EO,AY,AU,BH,BL,IW,BA,CS,DL,↓reduceIte,jA,jB,jC,hc]
  have hy:(y == 93)=false:=by
   rw [← Bool.not_eq_true]; intro e; rw [beq_iff_eq] at e; subst e; simp at hc
  exact ⟨by rw [he,hy]; simp; rfl,trivial⟩
 have hy:(y == 93)=true:=by
  rw [beq_iff_eq,← UInt8.toNat_inj]
  simp at hc; show y.toNat=93; omega
 simp -implicitDefEqProofs only [BI,A7,AZ,BB,BM,CE,CQ,EZ,AC,AQ,AO,BD,AX,AL,AA,AY,AU,BH,BL,BG,CS,DU,BX,MB,EW,AB,MR,EU,BF,↓reduceIte,jA,jB,jC,enP,ln9,hsz,hc,w1,w2,w3,i1,i2,i3,i4]
 refine CX (fun hd => ?_) (fun hd => ?_)
 ·simp -implicitDefEqProofs only [BC,A8,BK,A7,CW,NQ,AZ,BB,AC,AQ,AO,BD,AX,AL,AA,AU,BH,BL,IW,BA,↓reduceIte,jA,jB,jC]
  have hx:(x == 91)=false:=by
   rw [← Bool.not_eq_true]; intro e; rw [beq_iff_eq] at e; subst e; simp at hd
  exact ⟨by rw [he,hx]; simp; rfl,trivial⟩
 have hx:(x == 91)=true:=by
  rw [beq_iff_eq,← UInt8.toNat_inj]
  simp at hd; show x.toNat=91; omega
 simp -implicitDefEqProofs only [Option.map_some,Option.map_none,BC,A8,BQ,A7,AZ,BB,BM,CE,CQ,AC,AQ,AO,BD,AX,AL,AA,AY,AU,BH,BG,BA,BX,AI7,NI,MB,EW,AB,MR,C9,BF,↓reduceIte,jA,jB,jC,enP,ln9,AVR,hsz,w1,w2,w3,i1,i2,i3,i4,w4,w5]
 refine J3 (fun hf => ?_) (fun hf => ?_)
 ·simp -implicitDefEqProofs only [BC,A8,BK,BI,A7,CW,NQ,D6,AZ,BB,BM,CE,CQ,GM,AC,AQ,AO,BD,AX,AL,AA,EO,AY,AU,BH,BL,IW,BG,BA,CS,DL,↓reduceIte,jA,jB,jC,hf]
  have:decide (48≤d.toNat)=false:=by simp at hf ⊢; omega
  exact ⟨by rw [he,this]; simp; rfl,trivial⟩
 have hd1:48≤d.toNat:=by simp at hf; omega
 simp -implicitDefEqProofs only [AZ,BM,CE,CQ,EZ,AC,AQ,AO,BD,AX,AL,AA,AY,AU,BH,BL,BG,CS,DU,BX,AB,F7,↓reduceIte,jA,jB,jC,enP,hf]
 refine J3 (fun hf => ?_) (fun hf => ?_)
 ·simp -implicitDefEqProofs only [BC,A8,BK,BI,A7,CW,NQ,D6,AZ,BB,BM,CE,CQ,GM,AC,AQ,AO,BD,AX,AL,AA,EO,AY,AU,BH,BL,IW,BA,CS,DL,↓reduceIte,jA,jB,jC,hf]
  have:decide (d.toNat < 56)=false:=by simp at hf ⊢; omega
  exact ⟨by rw [he,this]; simp; rfl,trivial⟩
 have hd2:d.toNat < 56:=by simp at hf; omega
 simp -implicitDefEqProofs only [BM,CE,CQ,EZ,AC,AQ,AO,BD,AX,AL,AA,AY,BZ,BG,CB,BP,jF,jE,jD,↓reduceIte,jA,jB,jC,hf]
 refine (QD G ⟨b.toArray⟩ h).use ?_
 simp -implicitDefEqProofs only [BI,A7,AZ,BB,BM,CE,CQ,EZ,AC,AQ,AO,BD,AX,AL,AA,AY,AU,BL,CS,DU,IQ,AB,FI,↓reduceIte,jA,jB,jC,hn]
 cases nm
 ·simp -implicitDefEqProofs only [BC,A8,BK,A7,CW,NQ,D6,AZ,BB,AC,AQ,AO,BD,AX,AL,AA,AU,BH,BL,IW,BA,↓reduceIte,jA,jB,jC]
  exact ⟨by rw [he]; simp; rfl,trivial⟩
 ·simp -implicitDefEqProofs only [BC,A8,BQ,BK,A7,NQ,D9,AZ,BB,AC,AQ,AO,BD,AX,AL,AA,AY,AU,BL,BG,BA,↓reduceIte,jA,jB,jV,jC]
  exact ⟨by rw [he]; simp [hy,hx,hd1,hd2]; rfl,trivial⟩
def IV (s:ByteArray):Bool:=(JP s).isSome || H7 s
theorem ACR (o:Option (List UInt8 × UInt8)) : ∃ a n,elemV o = .tup [.str a,.int .i64 n,.bool o.isSome]:=by
 cases o with
 | none=>exact ⟨_,_,rfl⟩
 | some x=>exact ⟨_,_,rfl⟩
theorem AJW (G:Nat→AV) (hG:GOk G) (s:ByteArray) (h:Hp) (hl:s.size≤1048576):PCall (En G) 184 [.str s] h (.bool (IV s)):=by
 refine acN Tryz.func184 rfl ?_
 show awp _ _ _ _ _ (EH _ [.tmp 2] _)
 simp -implicitDefEqProofs only [BC,A8,A7,AZ,BB,AC,AQ,AO,BD,AX,AL,AA,AY,AU,BZ,BL,BG,BA,CB,BP,BF,jF,jE,jD,↓reduceIte,jA,jB,jC,enX,enP]
 refine (AF3 G hG s h hl).use ?_
 obtain ⟨a,n,e⟩:=ACR (JP s)
 rw [e]
 simp -implicitDefEqProofs only [jP,jQ,BC,A8,A7,AZ,BB,BM,CE,CQ,AC,AQ,AO,BD,AX,AL,AA,AY,BG,BA,EJ,FP,AB,↓reduceIte,jA,jB,jC]
 cases hs:(JP s).isSome
 ·simp -implicitDefEqProofs only [BM,CE,CQ,EZ,AC,AQ,AO,BD,AX,AL,AA,AY,BZ,BG,CB,BP,BF,jF,jE,jD,↓reduceIte,jA,jB,jC]
  refine (O4 G hG.kw s h (by omega)).use ?_
  simp -implicitDefEqProofs only [BK,A7,CU,AZ,BB,AC,AQ,AO,BD,AX,AL,AA,AY,AU,BL,BA,CS,DU,↓reduceIte,jA,jB,jC]
  exact ⟨by unfold IV; rw [hs]; rfl,trivial⟩
 ·simp -implicitDefEqProofs only [BK,A7,CU,AZ,BB,BM,CE,CQ,GM,AC,AQ,AO,BD,AX,AL,AA,EO,AY,AU,BL,BA,CS,DL,↓reduceIte,jA,jB,jC]
  exact ⟨by unfold IV; rw [hs]; rfl,trivial⟩
theorem ANU (G:Nat→AV) (s:ByteArray) (h:Hp) (hl:s.size≤1048576):PCall (En G) 211 [.str s] h (.bool (IV s)):=by
 refine acN Tryz.func211 rfl ?_
 show awp _ _ _ _ _ (EH _ [.tmp 2] _)
 simp -implicitDefEqProofs only [BC,A8,A7,AZ,BB,AC,AQ,AO,BD,AX,AL,AA,AY,AU,BZ,BL,BG,BA,CB,BP,BF,jF,jE,jD,↓reduceIte,jA,jB,jC,enX,enP]
 refine (AM5 G s h (by omega)).use ?_
 obtain ⟨a,n,e⟩:=ACR (JP s)
 rw [e]
 simp -implicitDefEqProofs only [jP,jQ,BC,A8,A7,AZ,BB,BM,CE,CQ,AC,AQ,AO,BD,AX,AL,AA,AY,BG,BA,EJ,FP,AB,↓reduceIte,jA,jB,jC]
 cases hs:(JP s).isSome
 ·simp -implicitDefEqProofs only [BM,CE,CQ,EZ,AC,AQ,AO,BD,AX,AL,AA,AY,BZ,BG,CB,BP,BF,jF,jE,jD,↓reduceIte,jA,jB,jC]
  refine (QD G s h).use ?_
  simp -implicitDefEqProofs only [BK,A7,CU,AZ,BB,AC,AQ,AO,BD,AX,AL,AA,AY,AU,BL,BA,CS,DU,↓reduceIte,jA,jB,jC]
  exact ⟨by unfold IV; rw [hs]; rfl,trivial⟩
 ·simp -implicitDefEqProofs only [BK,A7,CU,AZ,BB,BM,CE,CQ,GM,AC,AQ,AO,BD,AX,AL,AA,EO,AY,AU,BL,BA,CS,DL,↓reduceIte,jA,jB,jC]
  exact ⟨by unfold IV; rw [hs]; rfl,trivial⟩
def O9 (s:ByteArray):Bool:=s.toList == (⟨#[]⟩:ByteArray).toList
def RU (e:Ex):Bool:=decide (e.op < 1) || decide (e.op > 25)
def ZP (e:Ex):Bool:=((e.op == 1) && (decide (e.n < 0) || decide (e.n > 65535))) || (!(e.op == 1) && !(e.n == 0))
def VQ (e:Ex):Bool:=(!KQ e.op && !O9 e.name) || !VM e.op e.args.length
def UB (e:Ex):Bool:=((e.op == 2) && !IV e.name) || (((e.op == 3) || (e.op == 24)) && !H7 e.name)
def JB (e:Ex):Int:=if RU e then 1 else if ZP e then 1 else if VQ e then 1 else if UB e then 7 else 0
theorem node_prog (G:Nat→AV) (hG:GOk G) (e:Ex) (h:Hp) (hl:e.name.size≤1048576):PCall (En G) 135 [.agg (DR e)] h (.int .i64 (JB e)):=by
 refine ACalls.pure0 rfl ?_
 refine acN Tryz.func135 rfl ?_
 show awp _ _ _ _ _ (EH _ [.tmp 2] _)
 simp -implicitDefEqProofs only [BC,A8,A7,AZ,BB,BM,CE,CQ,AC,AQ,AO,BD,AX,AL,AA,AY,AU,BH,BG,BA,FK,BO,BX,BJ,BR,AB,EC,BF,↓reduceIte,jA,jI,jB,jC,enP,IP,bxE,EM ag3,JS]
 refine RV (fun F H=>F 3 = .bool (KQ e.op)∧F 1 = .ptr h.length 0 0∧H=h ++ [.live 4 [DR e]]) ?_ ?_
 ·cases b2:(e.op == 2) <;> cases b3:(e.op == 3)
  all_goals
   simp -implicitDefEqProofs only [AZ,BB,BM,CE,CQ,EZ,GM,AC,AQ,AO,BD,AX,AL,AA,EO,AY,AU,BH,BL,BG,BA,CS,DL,DU,BO,BX,BJ,AB,EC,↓reduceIte,jA,jI,jB,jC,enP,IP,b2,b3,EM ag3,JS]
   exact ⟨by simp [KQ,b2,b3],trivial,trivial⟩
 rintro F H ⟨f3,f1,rfl⟩
 simp -implicitDefEqProofs only [BC,CG,A8,A7,AZ,BM,CE,CQ,AC,AQ,AO,BD,AX,AL,AA,AY,AU,BH,BG,BO,BX,BJ,AB,C9,↓reduceIte,jI,jB,jC,enP,IP,f1,f3,EM ag3,JS]
 refine RV (fun F H=>F 17 = .bool (RU e)∧F 3 = .bool (KQ e.op)∧F 1 = .ptr h.length 0 0∧H=h ++ [.live 4 [DR e]]) ?_ ?_
 ·cases b2:decide (e.op < 1)
  all_goals
   simp -implicitDefEqProofs only [AZ,BB,BM,CE,CQ,EZ,GM,AC,AQ,AO,BD,AX,AL,AA,EO,AY,AU,BH,BL,BA,CS,DL,DU,BO,BX,BJ,AB,F6,↓reduceIte,jA,jI,jB,jC,enP,IP,b2,f1,f3,EM ag3,JS]
   exact ⟨by simp [RU,b2],trivial,trivial,trivial⟩
 clear f1 f3
 rintro F H ⟨f17,f3,f1,rfl⟩
 simp -implicitDefEqProofs only [BI,A7,AY,f17]
 refine CX (fun ho => ?_) (fun ho => ?_)
 ·simp -implicitDefEqProofs only [BC,A8,BK,A7,CW,EN,CU,AZ,BB,AC,AQ,AO,BD,AX,AL,AA,AU,BH,BA,↓reduceIte,jB,jC]
  exact ⟨by unfold JB; rw [if_pos ho],_,rfl⟩
 simp -implicitDefEqProofs only [BC,A8,AZ,BM,CE,CQ,AC,AQ,AO,BD,AX,AL,AA,AY,AU,BH,BG,BO,BX,BJ,AB,EC,↓reduceIte,jI,jB,jC,enP,IP,f1,f3,EM ag3,JS,AAA]
 refine RV (fun F H=>F 26 = .bool (ZP e)∧F 3 = .bool (KQ e.op)∧F 1 = .ptr h.length 0 0∧H=h ++ [.live 4 [DR e]]) ?_ ?_
 ·cases b1:(e.op == 1) <;> cases b2:decide (e.n < 0) <;> cases b3:decide (e.n > 65535) <;> cases b4:(e.n == 0)
  all_goals
   simp -implicitDefEqProofs only [AZ,BB,BM,CE,CQ,FY,EZ,I7,GM,UE,AC,AQ,AO,BD,AX,AL,AA,EO,AY,AU,BH,BL,BG,BA,CS,DL,DU,BO,BX,BJ,AB,EU,C9,F6,↓reduceIte,jA,jI,jG,jB,jV,jC,enP,IP,ACJ,bne,b1,b2,b3,b4,f1,f3,EM ag3,JS,AAA]
   exact ⟨by simp [ZP,b1,b2,b3,b4],trivial,trivial,trivial⟩
 clear f1 f3 f17
 rintro F H ⟨f26,f3,f1,rfl⟩
 simp -implicitDefEqProofs only [BI,A7,AY,f26]
 refine CX (fun hn => ?_) (fun hn => ?_)
 ·simp -implicitDefEqProofs only [BC,A8,BK,A7,CW,EN,CU,AZ,BB,AC,AQ,AO,BD,AX,AL,AA,AU,BH,BA,↓reduceIte,jB,jC]
  exact ⟨by unfold JB; rw [if_neg (by simp [ho]),if_pos hn],_,rfl⟩
 simp -implicitDefEqProofs only [BC,A8,AZ,BM,CE,CQ,AC,AQ,AO,BD,AX,AL,AA,AY,BG,IQ,AB,FI,↓reduceIte,jB,jC,f1,f3,EM ag9,PM]
 refine RV (fun F H=>F 50 = .bool (VQ e)∧F 3 = .bool (KQ e.op)∧F 1 = .ptr h.length 0 0∧H=h ++ [.live 4 [DR e]]) ?_ ?_
 ·cases bm:KQ e.op <;> cases b5:O9 e.name
  all_goals
   have b6:=b5
   unfold O9 at b6
   simp -implicitDefEqProofs only [AZ,BB,BM,CE,CQ,FY,EZ,I7,GM,AC,AQ,AO,BD,AX,AL,AA,EO,AY,AU,BZ,BL,IW,BG,BA,CS,DL,DU,BO,BX,BJ,CB,BP,AB,ACX,jF,jE,jD,↓reduceIte,jA,jG,jB,jV,jC,enP,MX,bne,bm,b6,f1,f3,EM ag9,PM,ldE]
  ·exact ⟨by simp [VQ,bm,b5],trivial,trivial,trivial⟩
  all_goals
   refine (ADL G e _).use ?_
   simp -implicitDefEqProofs only [AZ,BB,BM,CE,CQ,EZ,AC,AQ,AO,BD,AX,AL,AA,AY,AU,BL,BA,CS,DU,IQ,AB,FI,↓reduceIte,jA,jB,jC,bne,bm,f1,f3]
   exact ⟨by simp [VQ,bm,b5],trivial,trivial,trivial⟩
 clear f1 f3 f26
 rintro F H ⟨f50,f3,f1,rfl⟩
 simp -implicitDefEqProofs only [BI,A7,AY,f50]
 refine CX (fun hs => ?_) (fun hs => ?_)
 ·simp -implicitDefEqProofs only [BC,A8,BK,A7,CW,EN,CU,AZ,BB,AC,AQ,AO,BD,AX,AL,AA,AU,BH,BA,↓reduceIte,jB,jC]
  exact ⟨by unfold JB; rw [if_neg (by simp [ho]),if_neg (by simp [hn]),if_pos hs],_,rfl⟩
 simp -implicitDefEqProofs only [BC,A8,AZ,BM,CE,CQ,AC,AQ,AO,BD,AX,AL,AA,AY,AU,BH,BG,BO,BX,BJ,AB,EC,↓reduceIte,jI,jB,jC,enP,IP,f1,f3,EM ag9,EM ag3,JS,PM]
 have fin : ∀ b,UB e=b→JB e=if b then 7 else 0:=by
  intro b hb
  unfold JB; rw [if_neg (by simp [ho]),if_neg (by simp [hn]),if_neg (by simp [hs]),hb]
 cases b2:(e.op == 2)
 ·simp -implicitDefEqProofs only [AZ,BM,CE,CQ,EZ,I7,AC,AQ,AO,BD,AX,AL,AA,EO,AY,AU,BH,BL,BG,CS,DU,BO,BX,BJ,AB,EC,↓reduceIte,jA,jI,jB,jC,enP,IP,b2,f1,f3,EM ag9,EM ag3,JS,PM]
  cases b3:(e.op == 3) <;> cases b4:(e.op == 24)
  all_goals
   simp -implicitDefEqProofs only [BC,A8,BQ,BK,BI,A7,ET,CU,D9,AZ,BB,BM,CE,CQ,FY,EZ,I7,GM,AC,AQ,AO,BD,AX,AL,AA,EO,AY,AU,BZ,BH,BL,BG,BA,CS,DL,DU,BO,BX,BJ,CB,BP,AB,EC,jF,jE,jD,↓reduceIte,jA,jI,jG,jB,jC,enP,IP,MX,b3,b4,f1,f3,EM ag9,EM ag3,JS,PM]
  ·exact ⟨by rw [fin false (by simp [UB,b2,b3,b4])]; rfl,_,rfl⟩
  all_goals
   refine (O4 G hG.kw e.name _ (by omega)).use ?_
   cases bi:H7 e.name
   ·simp -implicitDefEqProofs only [BC,A8,BK,BI,A7,CW,EN,CU,D6,AZ,BB,BM,CE,CQ,FY,EZ,AC,AQ,AO,BD,AX,AL,AA,AY,AU,BH,BL,BA,CS,DL,DU,IQ,AB,FI,↓reduceIte,jA,jB,jC]
    exact ⟨by rw [fin true (by simp [UB,b2,b3,b4,bi])]; rfl,_,rfl⟩
   ·simp -implicitDefEqProofs only [BC,A8,BQ,BK,BI,A7,ET,CU,D9,AZ,BB,BM,CE,CQ,FY,EZ,AC,AQ,AO,BD,AX,AL,AA,AY,AU,BH,BL,BA,CS,DL,DU,IQ,AB,FI,↓reduceIte,jA,jB,jV,jC]
    exact ⟨by rw [fin false (by simp [UB,b2,b3,b4,bi])]; rfl,_,rfl⟩
 ·have e2:e.op=2:=by simpa using b2
  simp -implicitDefEqProofs only [BM,CE,CQ,FY,AC,AQ,AO,BD,AX,AL,AA,AY,BZ,BO,BJ,CB,BP,AB,jF,jE,jD,↓reduceIte,jA,jG,jB,jC,enP,MX,b2,f1,f3,EM ag9,EM ag3,JS,PM]
  refine (AJW G hG e.name _ hl).use ?_
  cases bi:IV e.name
  ·simp -implicitDefEqProofs only [BC,A8,BK,BI,A7,CW,EN,CU,D6,AZ,BB,BM,CE,CQ,FY,GM,UE,AC,AQ,AO,BD,AX,AL,AA,EO,AY,AU,BH,BL,BG,BA,CS,DL,IQ,AB,FI,↓reduceIte,jA,jB,jC]
   exact ⟨by rw [fin true (by simp [UB,b2,bi])]; rfl,_,rfl⟩
  ·simp -implicitDefEqProofs only [BC,A8,BQ,BK,BI,A7,ET,CU,D9,AZ,BB,BM,CE,CQ,FY,EZ,I7,AC,AQ,AO,BD,AX,AL,AA,EO,AY,AU,BH,BL,BG,BA,CS,DL,DU,BO,BX,IQ,BJ,AB,EC,FI,↓reduceIte,jA,jI,jB,jV,jC,enP,IP,f1,EM ag3,JS,e2,Int.reduceBEq]
   exact ⟨by rw [fin false (by simp [UB,e2,bi])]; rfl,_,rfl⟩
def AC1 (e:Ex):Bool:=RU e || decide (e.n < 0) || decide (e.n > 65535) || (!(e.n == 0) && !(e.op == 1)) || (!O9 e.name && !KQ e.op)
def AIT (op:Int) (n:Nat):Bool:=((op == 23) && (decide ((n:Int) < 3) || decide ((n:Int) > 33) || ((n:Int) % 2 == 0))) || (!(op == 23) && !((n:Int) == arity op))
theorem AUN (op:Int) (n:Nat):AIT op n = !VM op n:=by
 unfold AIT VM
 rcases hc:(op == 23) with _ | _
 ·simp
 ·have h1:decide ((n:Int) < 3) = !decide ((n:Int)≥3):=by rw [qB]; simp
  have h2:decide ((n:Int) > 33) = !decide ((n:Int)≤33):=by rw [qB]; simp
  have h3:((n:Int) % 2 == 0) = !((n:Int) % 2 == 1):=by rw [qB]; simp; omega
  rw [h1,h2,h3]
  cases ((n:Int) % 2 == 1) <;> cases decide ((n:Int)≥3) <;> cases decide ((n:Int)≤33) <;> rfl
theorem AUO (e:Ex):(AC1 e || AIT e.op e.args.length)=(RU e || ZP e || VQ e):=by
 rw [AUN]
 unfold AC1 ZP VQ
 rcases h1:(e.op == 1) with _ | _
 ·rcases h2:(e.n == 0) with _ | _
  ·simp
  ·have h3:decide (e.n < 0)=false:=by simp at h2 ⊢; omega
   have h4:decide (e.n > 65535)=false:=by simp at h2 ⊢; omega
   rw [h3,h4]
   cases RU e <;> cases O9 e.name <;> cases KQ e.op <;> cases VM e.op e.args.length <;> rfl
 ·cases RU e <;> cases O9 e.name <;> cases KQ e.op <;> cases VM e.op e.args.length <;> cases decide (e.n < 0) <;> cases decide (e.n > 65535) <;> cases (e.n == 0) <;> rfl
theorem ZA (e:Ex):JB e=if AC1 e then 1 else if AIT e.op e.args.length then 1 else if UB e then 7 else 0:=by
 have:=AUO e
 unfold JB
 revert this
 cases AC1 e <;> cases AIT e.op e.args.length <;> cases RU e <;> cases ZP e <;> cases VQ e <;> simp
set_option maxHeartbeats 1000000 in
theorem AMW (G:Nat→AV) (e:Ex) (h:Hp) (hl:e.name.size≤1048576):PCall (En G) 168 [.agg (DR e)] h (.int .i64 (JB e)):=by
 refine ACalls.pure0 rfl ?_
 refine acN Tryz.func168 rfl ?_
 show awp _ _ _ _ _ (EH _ [.tmp 2] _)
 simp -implicitDefEqProofs only [BC,A8,A7,AZ,BB,BM,CE,CQ,AC,AQ,AO,BD,AX,AL,AA,AY,AU,BH,BG,BA,FK,BO,BX,BJ,BR,AB,C9,BF,↓reduceIte,jA,jI,jB,jC,enP,IP,bxE,EM ag3,JS]
 refine RV (fun F H=>F 42 = .bool (AC1 e)∧F 1 = .ptr h.length 0 0∧H=h ++ [.live 4 [DR e]]) ?_ ?_
 ·cases b1:decide (e.op < 1)
  case true =>
   simp -implicitDefEqProofs only [AZ,BB,BM,CE,CQ,GM,UE,AC,AQ,AO,BD,AX,AL,AA,EO,AY,AU,BL,BG,CS,DL,↓reduceIte,jA,jB,jC,b1]
   exact ⟨by simp [AC1,RU,b1],trivial,trivial⟩
  simp -implicitDefEqProofs only [AZ,BM,CE,CQ,EZ,AC,AQ,AO,BD,AX,AL,AA,AY,AU,BH,BL,BG,CS,DU,BO,BX,BJ,AB,F6,↓reduceIte,jA,jI,jB,jC,enP,IP,b1,EM ag3,JS,AAA]
  cases b2:decide (e.op > 25)
  case true =>
   simp -implicitDefEqProofs only [AZ,BB,BM,CE,CQ,GM,UE,AC,AQ,AO,BD,AX,AL,AA,EO,AY,AU,BL,BG,CS,DL,↓reduceIte,jA,jB,jC,b2]
   exact ⟨by simp [AC1,RU,b2],trivial,trivial⟩
  simp -implicitDefEqProofs only [AZ,BM,CE,CQ,EZ,AC,AQ,AO,BD,AX,AL,AA,AY,AU,BH,BL,BG,CS,DU,BO,BX,BJ,AB,C9,↓reduceIte,jA,jG,jB,jC,enP,ACJ,b2,EM ag3,JS,AAA]
  have bO:RU e=false:=by unfold RU; rw [b1,b2]; rfl
  cases b3:decide (e.n < 0)
  case true =>
   simp -implicitDefEqProofs only [AZ,BB,BM,CE,CQ,GM,UE,AC,AQ,AO,BD,AX,AL,AA,EO,AY,AU,BL,BG,CS,DL,↓reduceIte,jA,jB,jC,b3]
   exact ⟨by simp only [AC1,b3]; simp,trivial,trivial⟩
  simp -implicitDefEqProofs only [AZ,BM,CE,CQ,EZ,AC,AQ,AO,BD,AX,AL,AA,AY,AU,BH,BL,BG,CS,DU,BO,BX,BJ,AB,F6,↓reduceIte,jA,jG,jB,jC,enP,ACJ,b3,EM ag3,JS,AAA]
  cases b4:decide (e.n > 65535)
  case true =>
   simp -implicitDefEqProofs only [AZ,BB,BM,CE,CQ,GM,UE,AC,AQ,AO,BD,AX,AL,AA,EO,AY,AU,BL,BG,CS,DL,↓reduceIte,jA,jB,jC,b4]
   exact ⟨by simp only [AC1,b4]; simp,trivial,trivial⟩
  simp -implicitDefEqProofs only [BM,CE,CQ,EZ,AC,AQ,AO,BD,AX,AL,AA,AY,AU,BH,BG,BO,BX,BJ,AB,EU,↓reduceIte,jA,jG,jB,jC,enP,ACJ,b4,bne,EM ag3,EM ag9,JS,AAA,PM]
  have fin : ∀ b,((!(e.n == 0) && !(e.op == 1)) || (!O9 e.name && !KQ e.op))=b→AC1 e=b:=by
   intro b hb
   unfold AC1; rw [bO,b3,b4]; simpa using hb
  cases b5:(e.n == 0) <;> cases b6:(e.op == 1) <;> cases b7:O9 e.name
  all_goals
   have b8:=b7
   unfold O9 at b8
   simp -implicitDefEqProofs only [AZ,BB,BM,CE,CQ,FY,EZ,I7,GM,UE,AC,AQ,AO,BD,AX,AL,AA,EO,AY,AU,BZ,BH,BL,IW,BG,CS,DL,DU,BO,BX,BJ,CB,BP,AB,EU,ACX,jF,jE,jD,↓reduceIte,jA,jI,jG,jB,jV,jC,enP,IP,MX,bne,b5,b6,b8,EM ag3,EM ag9,JS,AAA,PM]
  all_goals first
   | exact ⟨by rw [fin _ rfl]; simp [b5,b6,b7],trivial,trivial⟩
   | refine (ZB G e.op _).use ?_
     simp -implicitDefEqProofs only [AZ,BB,BM,CE,CQ,FY,EZ,AC,AQ,AO,BD,AX,AL,AA,AY,AU,BL,CS,DL,DU,IQ,AB,FI,↓reduceIte,jA,jB,jC]
     exact ⟨by rw [fin _ rfl]; simp [b5,b6,b7],trivial,trivial⟩
 rintro F H ⟨f42,f1,rfl⟩
 simp -implicitDefEqProofs only [BI,A7,AY,f42]
 refine CX (fun ho => ?_) (fun ho => ?_)
 ·simp -implicitDefEqProofs only [BC,A8,BK,A7,CW,CU,AZ,BB,AC,AQ,AO,BD,AX,AL,AA,AU,BH,BA,↓reduceIte,jB,jC]
  exact ⟨by rw [ZA,if_pos ho],_,rfl⟩
 simp -implicitDefEqProofs only [BC,A8,BQ,A7,AZ,BB,BM,CE,CQ,AC,AQ,AO,BD,AX,AL,AA,AY,AU,BH,BG,BA,BO,BX,BJ,EW,AB,EC,↓reduceIte,jA,jI,jG,jB,jC,enP,WE,IP,OI,f1,EM ag3,EM WT,JS,YN,jM]
 generalize hn:e.args.length=n
 have hm:(n:Int).tmod 2=(n:Int) % 2:=Int.tmod_eq_emod_of_nonneg (by omega)
 have br:I8 Tryz.prog 3 .rem (.int .i64 (n:Int)) (.int .i64 2)=some (.int .i64 ((n:Int) % 2)):=by rw [ABD _ _ _ _ _ (by decide),hm]
 refine RV (fun F H=>F 73 = .bool (AIT e.op n)∧F 1 = .ptr h.length 0 0∧H=h ++ [.live 4 [DR e]]) ?_ ?_
 ·cases b1:(e.op == 23)
  ·simp -implicitDefEqProofs only [AZ,BM,CE,CQ,FY,EZ,I7,UE,AC,AQ,AO,BD,AX,AL,AA,EO,AY,AU,BZ,BH,BL,BG,CS,DU,BO,BX,BJ,CB,BP,AB,EU,jF,jE,jD,↓reduceIte,jA,jI,jB,jC,enP,IP,bne,b1,f1,EM ag3,JS]
   refine (AOF G e.op _).use ?_
   simp -implicitDefEqProofs only [AZ,BB,BM,CE,CQ,FY,EZ,AC,AQ,AO,BD,AX,AL,AA,AY,AU,BL,CS,DL,DU,BX,AB,EU,↓reduceIte,jA,jB,jC,enP,bne]
   exact ⟨by unfold AIT; rw [b1]; simp,f1,trivial⟩
  ·cases b2:decide ((n:Int) < 3) <;> cases b3:decide ((n:Int) > 33) <;> cases b4:((n:Int) % 2 == 0)
   all_goals
    simp -implicitDefEqProofs only [AZ,BB,BM,CE,CQ,FY,EZ,I7,GM,UE,AC,AQ,AO,BD,AX,AL,AA,EO,AY,AU,BH,BL,BG,CS,DL,DU,BO,BX,BJ,AB,EC,EU,C9,F6,↓reduceIte,jA,jI,jB,jV,jC,enP,IP,bne,b1,b2,b3,b4,br,f1,EM ag3,JS]
    exact ⟨by unfold AIT; rw [b1,b2,b3,b4]; simp,trivial,trivial⟩
 clear f1 f42
 rintro F H ⟨f73,f1,rfl⟩
 simp -implicitDefEqProofs only [BI,A7,AY,f73]
 subst hn
 refine CX (fun hs => ?_) (fun hs => ?_)
 ·simp -implicitDefEqProofs only [BC,A8,BK,A7,CW,CU,AZ,BB,AC,AQ,AO,BD,AX,AL,AA,AU,BH,BA,↓reduceIte,jB,jC]
  exact ⟨by rw [ZA,if_neg (by simp [ho]),if_pos hs],_,rfl⟩
 simp -implicitDefEqProofs only [BC,A8,BQ,A7,AZ,BM,CE,CQ,AC,AQ,AO,BD,AX,AL,AA,AY,AU,BH,BG,BO,BX,BJ,AB,EC,↓reduceIte,jI,jB,jC,enP,IP,f1,EM ag3,EM ag9,JS,PM]
 have fin : ∀ b,UB e=b→JB e=if b then 7 else 0:=by
  intro b hb
  rw [ZA,if_neg (by simp [ho]),if_neg (by simp [hs]),hb]
 cases b2:(e.op == 2)
 ·simp -implicitDefEqProofs only [AZ,BM,CE,CQ,EZ,I7,AC,AQ,AO,BD,AX,AL,AA,EO,AY,AU,BZ,BL,BG,CS,DU,BO,BJ,CB,BP,AB,jF,jE,jD,↓reduceIte,jA,jI,jB,jC,enP,IP,b2,f1,EM ag9,EM ag3,JS,PM]
  refine (ZB G e.op _).use ?_
  cases bm:KQ e.op
  ·have hv:UB e=false:=by
    unfold KQ at bm; simp only [Bool.or_eq_false_iff] at bm
    simp [UB,bm.1.1,bm.1.2,bm.2]
   simp -implicitDefEqProofs only [BC,A8,BQ,BK,BI,A7,CU,D9,AZ,BB,BM,CE,CQ,EZ,I7,AC,AQ,AO,BD,AX,AL,AA,EO,AY,AU,BH,BL,BG,BA,CS,DU,↓reduceIte,jA,jB,jC]
   exact ⟨by rw [fin false hv]; rfl,_,rfl⟩
  have hv:UB e = !H7 e.name:=by
   unfold KQ at bm; rw [b2] at bm; simp only [Bool.false_or] at bm
   unfold UB; rw [b2,bm]; simp
  simp -implicitDefEqProofs only [BM,CE,CQ,FY,EZ,AC,AQ,AO,BD,AX,AL,AA,AY,AU,BZ,BH,BL,BG,CS,DL,BO,BX,BJ,CB,BP,AB,EU,jF,jE,jD,↓reduceIte,jA,jI,jG,jB,jC,enP,IP,MX,bne,b2,f1,EM ag9,EM ag3,JS,PM]
  refine (QD G e.name _).use ?_
  cases bi:H7 e.name
  ·simp -implicitDefEqProofs only [BC,A8,BK,BI,A7,CW,CU,D6,AZ,BB,BM,CE,CQ,FY,EZ,AC,AQ,AO,BD,AX,AL,AA,AY,AU,BH,BL,BA,CS,DL,DU,IQ,AB,FI,↓reduceIte,jA,jB,jC]
   exact ⟨by rw [fin true (by rw [hv,bi]; rfl)]; rfl,_,rfl⟩
  ·simp -implicitDefEqProofs only [BC,A8,BQ,BK,BI,A7,CU,D9,AZ,BB,BM,CE,CQ,FY,EZ,AC,AQ,AO,BD,AX,AL,AA,AY,AU,BH,BL,BA,CS,DL,DU,IQ,AB,FI,↓reduceIte,jA,jB,jV,jC]
   exact ⟨by rw [fin false (by rw [hv,bi]; rfl)]; rfl,_,rfl⟩
 ·have e2:e.op=2:=by simpa using b2
  have hv:UB e = !IV e.name:=by
   unfold UB; rw [e2]; simp
  simp -implicitDefEqProofs only [BM,CE,CQ,FY,AC,AQ,AO,BD,AX,AL,AA,AY,BZ,BO,BJ,CB,BP,AB,jF,jE,jD,↓reduceIte,jA,jG,jB,jC,enP,MX,b2,f1,EM ag9,EM ag3,JS,PM]
  refine (ANU G e.name _ hl).use ?_
  cases bi:IV e.name
  ·simp -implicitDefEqProofs only [BC,A8,BK,BI,A7,CW,CU,D6,AZ,BB,BM,CE,CQ,FY,GM,UE,AC,AQ,AO,BD,AX,AL,AA,EO,AY,AU,BH,BL,BG,BA,CS,DL,IQ,AB,FI,↓reduceIte,jA,jB,jC]
   exact ⟨by rw [fin true (by rw [hv,bi]; rfl)]; rfl,_,rfl⟩
  ·simp -implicitDefEqProofs only [AZ,BM,CE,CQ,FY,EZ,AC,AQ,AO,BD,AX,AL,AA,AY,AU,BZ,BL,BG,CS,DL,BO,IQ,BJ,CB,BP,AB,FI,jF,jE,jD,↓reduceIte,jA,jI,jB,jV,jC,enP,IP,f1,EM ag3,JS]
   refine (ZB G e.op _).use ?_
   have bm:KQ e.op=true:=by rw [e2]; rfl
   simp -implicitDefEqProofs only [BC,A8,BQ,BK,BI,A7,CU,D9,AZ,BB,BM,CE,CQ,FY,EZ,I7,AC,AQ,AO,BD,AX,AL,AA,EO,AY,AU,BH,BL,BG,BA,CS,DL,DU,BO,BX,BJ,AB,EU,↓reduceIte,jA,jI,jB,jV,jC,enP,IP,bne,bm,f1,EM ag3,JS,b2]
   exact ⟨by rw [fin false (by rw [hv,bi]; rfl)]; rfl,_,rfl⟩
theorem AOH (h:Hp):JO Tryz.prog h 37=some (.ptr h.length 0 0,h ++ [.live 4 [[.int .i64 0,.int .i64 0,.str ⟨#[]⟩,.sl .nil 0 []]]]):=JE (row := [.int .i64 0,.int .i64 0,.str ⟨#[]⟩,.sl .nil 0 []]) (by kernel_rfl)
theorem APA (h:Hp) (e:Ex) (row:List AV) (hr:row.length=4):FB Tryz.prog (h ++ [.live 4 [row]]) 37 (.ptr h.length 0 0) (.agg (DR e))=some (h ++ [.live 4 [DR e]]):=by
 rw [AD5 (QN (OL e)) (by rw [G9]; exact OZ) (by rw [G9,hr]; exact jO _)]
 have:splice row 0 (DR e)=DR e:=by unfold splice; simp [G9,hr]
 rw [this]
theorem A3N (h:Hp):JO Tryz.prog h 39=some (.ptr h.length 0 0,h ++ [.live 1 [[.int .i64 0]]]):=JE (row := [.int .i64 0]) (by kernel_rfl)
theorem al3 (h:Hp):JO Tryz.prog h 3=some (.ptr h.length 0 0,h ++ [.live 1 [[.int .i64 0]]]):=JE (row := [.int .i64 0]) (by kernel_rfl)
theorem AVW (h:Hp):JO Tryz.prog h 163=some (.ptr h.length 0 0,h ++ [.live 1 [[.nilfn]]]):=JE (row := [.nilfn]) (by kernel_rfl)
theorem I9 {h:Hp} {t:TypeId} {b:Nat} {v:AV} (hag:JK Tryz.prog t=some false) (hb:h[b]? = some (.live 1 [[v]])):DF Tryz.prog h t (.ptr b 0 0)=some v:=by
 rw [DI hag hb (row := [v]) rfl]; rfl
theorem TC {h:Hp} {t:TypeId} {b:Nat} {v u:AV} (hs:szO Tryz.prog t=some 1) (hc:I5 u=some [u]) (hb:h[b]? = some (.live 1 [[v]])):FB Tryz.prog h t (.ptr b 0 0) u=some (h.set b (.live 1 [[u]])):=by
 rw [GV hc hs hb (row := [v]) rfl (by simp)]; rfl
theorem A3C (h:Hp) (f:Fn) (a b:List AV):MK h (.fn f a b)=some (.ptr h.length 0 0,h ++ [.live 1 [[.fn f a b]]]):=rfl
def Chg (c:Nat) (h h':Hp):Prop:=h.length≤h'.length∧∀ b,b < h.length→b≠c→h'[b]? = h[b]?
theorem Chg.refl (c:Nat) (h:Hp):Chg c h h:=⟨jO _,fun _ _ _=>rfl⟩
theorem Chg.trans {c:Nat} {a b d:Hp} (h1:Chg c a b) (h2:Chg c b d):Chg c a d :=
 ⟨Nat.le_trans h1.1 h2.1,fun i hi hc=>by rw [h2.2 i (Nat.lt_of_lt_of_le hi h1.1) hc,h1.2 i hi hc]⟩
theorem Chg.app (c:Nat) (h x:Hp):Chg c h (h ++ x):=⟨by simp,fun i hi _=>List.getElem?_append_left hi⟩
theorem Chg.set (c:Nat) (h:Hp) (x:ABlk):Chg c h (h.set c x):=⟨by simp,fun i _ hc=>by rw [List.getElem?_set,if_neg (fun e=>hc e.symm)]⟩
theorem Chg.get {c b:Nat} {h h':Hp} {x:ABlk} (hc:Chg c h h') (hb:h[b]? = some x) (hne:b≠c):h'[b]? = some x:=by
 rw [hc.2 b (BV hb) hne]; exact hb
theorem Chg.above {c:Nat} {h h':Hp} (hc:Chg c h h') (hl:h.length≤c) : ∃ x,h'=h ++ x:=by
 refine ⟨h'.drop h.length,?_⟩
 have:h'.take h.length=h:=by
  refine List.ext_getElem? fun i => ?_
  rcases jT i h.length with hi | hi
  ·rw [List.getElem?_take_of_lt hi,hc.2 i hi (by omega)]
  ·rw [zG (by rw [zQ]; omega),zG hi]
 conv=>lhs; rw [← List.take_append_drop h.length h',this]
def run (upd:Ex→Int→Int) (cont:Int→Bool):List Ex→Int→Int × Bool
 | [],z=>(z,true)
 | e :: es,z=>if cont (upd e z) then run upd cont es (upd e z) else (upd e z,false)
theorem run_go {upd:Ex→Int→Int} {cont:Int→Bool} : ∀ {xs:List Ex} (ys:List Ex) {z z':Int},run upd cont xs z=(z',true)→run upd cont (xs ++ ys) z=run upd cont ys z'
 | [],ys,z,z',h=>by cases h; rfl
 | x :: xs,ys,z,z',h=>by
   simp only [run,qC] at h ⊢
   split at h
   ·rename_i hc; rw [if_pos hc]; exact run_go ys h
   ·cases h
theorem run_stop {upd:Ex→Int→Int} {cont:Int→Bool} : ∀ {xs:List Ex} (ys:List Ex) {z z':Int},run upd cont xs z=(z',false)→run upd cont (xs ++ ys) z=(z',false)
 | [],ys,z,z',h=>by cases h
 | x :: xs,ys,z,z',h=>by
   simp only [run,qC] at h ⊢
   split at h
   ·rename_i hc; rw [if_pos hc]; exact run_stop ys h
   ·rename_i hc; rw [if_neg hc]; exact h
theorem KW (xs:List Ex) (j:Nat) (hj:j < xs.length):IR (xs.take (j+1))=IR (xs.take j) ++ pre xs[j]:=by
 rw [List.take_succ_eq_append_getElem hj,NF]; simp [IR]
theorem XN {a:Ex} : ∀ {xs:List Ex},a∈xs→∀ x∈pre a,x∈IR xs
 | [],h,_,_=>by cases h
 | y :: ys,h,x,hx=>by
   simp only [IR,List.mem_append]
   cases List.mem_cons.1 h with
   | inl e=>subst e; exact .inl hx
   | inr e=>exact .inr (XN e x hx)
def AMV (G:Nat→AV) (k:FuncId) (upd:Ex→Int→Int) (cont:Int→Bool) (e:Ex):Prop :=
 ∀ (h:Hp) (c:Nat) (z:Int),h[c]? = some (.live 1 [[.int .i64 z]])→ACalls (En G) k [.agg (DR e),.ptr c 0 0] h fun v h'=>v = .bool (cont (upd e z))∧Chg c h h'∧h'[c]? = some (.live 1 [[.int .i64 (upd e z)]])
theorem AN7 (G:Nat→AV) (k:FuncId) (upd:Ex→Int→Int) (cont:Int→Bool) (c vb db:Nat) (hv:vb≠c) (hd:db≠c) (e:Ex) :
  wt e≤1099511627776→(∀ x∈pre e,AMV G k upd cont x)→∀ (h:Hp) (z:Int),h[c]? = some (.live 1 [[.int .i64 z]])→h[vb]? = some (.live 1 [[.fn (.func k) [] [.ptr c 0 0]]]) →
   h[db]? = some (.live 1 [[.fn (.func 182) [] [.ptr vb 0 0,.ptr db 0 0]]]) →
   ACalls (En G) 182 [.agg (DR e),.ptr vb 0 0,.ptr db 0 0] h fun v h'=>v = .bool (run upd cont (pre e) z).2∧Chg c h h'∧h'[c]? = some (.live 1 [[.int .i64 (run upd cont (pre e) z).1]]):=by
 induction e using Ex.induct with | h e ih => ?_
 intro hw hvis h z hc hvb hdb
 have hcl:=BV hc
 have hal:e.args.length≤1099511627776:=by have:=AAY e.args; have:=PK e; omega
 refine acN Tryz.func182 rfl ?_
 show awp _ _ _ _ _ (EH _ [.tmp 4] _)
 simp -implicitDefEqProofs only [BC,A8,A7,AZ,BB,AC,AQ,AO,BD,AX,AL,AA,AY,AU,BL,BA,FK,BO,CB,BP,BR,AB,BF,BU,jF,jE,zU,qC,↓reduceIte,jA,jB,jC,enP,bxE,I9 AEY (BN hvb),ldE]
 refine (hvis e (by rw [pre_eq]; simp) _ c z (BN hc)).mono ?_
 rintro v h1 ⟨rfl,hch,hc1⟩
 have hch0:=(Chg.app c h _).trans hch
 have hb3:h1[h.length]? = some (.live 4 [DR e]):=hch.get (CV _ _) (by omega)
 have hrun:run upd cont (pre e) z=if cont (upd e z) then run upd cont (IR e.args) (upd e z) else (upd e z,false):=by rw [pre_eq]; rfl
 simp -implicitDefEqProofs only [BI,A7,AZ,BB,AC,AQ,AO,BD,AX,AL,AA,AY,IQ,AB,FI,↓reduceIte,jB,jC]
 cases hct:cont (upd e z)
 ·simp -implicitDefEqProofs only [BC,A8,BK,A7,CW,CU,D6,AZ,BB,AC,AQ,AO,BD,AX,AL,AA,AU,BL,BA,↓reduceIte,jB,jC]
  rw [hrun,hct]
  exact ⟨rfl,hch0,hc1⟩
 rw [hct,if_pos rfl] at hrun
 have hvb1:=hch0.get hvb hv
 have hdb1:=hch0.get hdb hd
 have l3:DF Tryz.prog h1 23 (.ptr h.length 0 3)=some (.sl e.m 4 (e.args.map DR)):=by rw [DI WT hb3 (row:=DR e) rfl,YN]
 simp -implicitDefEqProofs only [BC,CG,A8,BQ,A7,D9,AZ,BB,AC,AQ,AO,BD,AX,AL,AA,AY,AU,BH,BG,BO,BJ,EW,AB,↓reduceIte,jA,jG,jB,jV,jC,enP,WE,OI,l3,jM]
 refine D5 (fun n F H => ∃ j z',n+j=e.args.length∧F 1 = .ptr vb 0 0∧F 2 = .ptr db 0 0∧F 12 = .sl e.m 4 (e.args.map DR)∧F 13 = .int .i64 e.args.length∧F 14 = .int .i64 (j:Nat)∧Chg c h H∧H[c]? = some (.live 1 [[.int .i64 z']])∧run upd cont (IR (e.args.take j)) (upd e z)=(z',true)) e.args.length ⟨0,upd e z,by simp,by simp -implicitDefEqProofs only [AA,BF,BU,↓reduceIte,jA],by simp -implicitDefEqProofs only [AA,BF,BU,↓reduceIte,jA],by simp -implicitDefEqProofs only [AA,↓reduceIte,jA],by simp -implicitDefEqProofs only [AA,↓reduceIte,jA],by simp -implicitDefEqProofs only [AA,↓reduceIte]; rfl,hch0,hc1,rfl⟩ ?_
 rintro n F H ⟨j,z',hj,f1,f2,f12,f13,f14,hC,hcz,hr⟩
 simp -implicitDefEqProofs only [BC,A8,BI,A7,AZ,BB,AC,AQ,AO,BD,AX,AL,AA,AY,BX,AB,C9,↓reduceIte,jB,jC,enP,f13,f14]
 refine CX (fun hlt => ?_) (fun hlt => ?_)
 ·have hj':j < e.args.length:=by simpa using hlt
  have hdH:H[db]? = some (.live 1 [[.fn (.func 182) [] [.ptr vb 0 0,.ptr db 0 0]]]):=hC.get hdb hd
  have hvH:H[vb]? = some (.live 1 [[.fn (.func k) [] [.ptr c 0 0]]]):=hC.get hvb hv
  simp -implicitDefEqProofs only [BC,CG,A8,BQ,A7,AZ,BB,AC,AQ,AO,BD,AX,AL,DK,AA,AY,EF,BO,DC,CO,CB,BP,BR,AB,CJ,jF,jE,zU,qC,↓reduceIte,jA,jB,jC,enP,AAQ,jJ,f12,f14,EQ hj',FQ WS OZ G9 hj',AOH,APA _ _ [.int .i64 0,.int .i64 0,.str ⟨#[]⟩,.sl .nil 0 []] rfl,f2,I9 AEY (BN hdH),ldE]
  have hmem:e.args[j]∈e.args:=List.getElem_mem hj'
  refine (ih e.args[j] hmem (by have:=XA hmem; have:=PK e; omega) (fun x hx=>hvis x (by rw [pre_eq]; exact List.mem_cons_of_mem _ (XN hmem x hx))) _ z' (BN hcz) (BN hvH) (BN hdH)).mono ?_
  rintro v h2 ⟨rfl,hch2,hc2⟩
  have hC2:=hC.trans ((Chg.app c H _).trans hch2)
  have hsplit:IR e.args=IR (e.args.take j) ++ (pre e.args[j] ++ IR (e.args.drop (j+1))):=by
   rw [← List.append_assoc,← KW _ _ hj',← NF,List.take_append_drop]
  simp -implicitDefEqProofs only [BI,A7,AZ,BB,AC,AQ,AO,BD,AX,AL,AA,AY,IQ,AB,FI,↓reduceIte,jB,jC]
  rcases hrr:run upd cont (pre e.args[j]) z' with ⟨z2,b2⟩
  rw [hrr] at hc2
  cases b2
  ·simp -implicitDefEqProofs only [BC,A8,BK,A7,CW,EN,FV,CU,D6,AZ,BB,AC,AQ,AO,BD,AX,AL,AA,AU,BL,BA,↓reduceIte,jB,jC]
   have:run upd cont (pre e) z=(z2,false):=by rw [hrun,hsplit,run_go _ hr]; exact run_stop _ hrr
   rw [this]
   exact ⟨rfl,hC2,hc2⟩
  ·simp -implicitDefEqProofs only [A8,BQ,A7,ET,EX,D9,AZ,BB,AC,AQ,AO,BD,AX,AL,AA,AY,AU,BH,BG,BX,AB,DX,↓reduceIte,jA,jB,jV,jC,enP,f1,f2,f12,f13,f14,wrap_succ (show j < 9223372036854775807 by omega)]
   refine ⟨n - 1,by omega,j+1,z2,by omega,trivial,trivial,trivial,trivial,rfl,hC2,hc2,?_⟩
   rw [KW _ _ hj',run_go _ hr]; exact hrr
 ·have hj' : ¬ j < e.args.length:=by simpa using hlt
  simp -implicitDefEqProofs only [BC,A8,BK,DW,A7,EP,FH,FM,CU,AZ,BB,AC,AQ,AO,BD,AX,AL,AA,AU,BL,BA,↓reduceIte,jB,jC]
  rw [List.take_of_length_le (by omega)] at hr
  rw [hrun,hr]
  exact ⟨rfl,hC,hcz⟩
theorem ADY (G:Nat→AV) (k:FuncId) (upd:Ex→Int→Int) (cont:Int→Bool) (c:Nat) (e:Ex) (hw:wt e≤1099511627776) (hvis : ∀ x∈pre e,AMV G k upd cont x) (h:Hp) (z:Int) (hc:h[c]? = some (.live 1 [[.int .i64 z]])) :
  ACalls (En G) 133 [.agg (DR e),.fn (.func k) [] [.ptr c 0 0]] h fun _ h'=>Chg c h h'∧h'[c]? = some (.live 1 [[.int .i64 (run upd cont (pre e) z).1]]):=by
 have hcl:=BV hc
 refine acN Tryz.func133 rfl ?_
 show awp _ _ _ _ _ (EH _ [] _)
 simp -implicitDefEqProofs only [BC,A8,A7,AZ,BB,AC,AQ,AO,BD,AX,AL,AA,AY,EF,FK,DC,II,BR,BF,BU,jF,jE,↓reduceIte,jA,jB,jC,enP,jJ,bxE,A3C,AVW]
 have g0:(h ++ [ABlk.live 4 [DR e]] ++ [ABlk.live 1 [[AV.fn (.func k) [] [.ptr c 0 0]]]] ++ [ABlk.live 1 [[AV.nilfn]]])[(h ++ [ABlk.live 4 [DR e]] ++ [ABlk.live 1 [[AV.fn (.func k) [] [.ptr c 0 0]]]]).length]? = some (.live 1 [[.nilfn]]):=CV _ _
 simp -implicitDefEqProofs only [A8,A7,AZ,BB,AC,AQ,AO,BD,AX,DK,AA,AY,BO,CJ,↓reduceIte,jA,jB,jC,enP,TC AVA (AV1 _ _ _) g0]
 generalize hdb:(h ++ [ABlk.live 4 [DR e]] ++ [ABlk.live 1 [[AV.fn (.func k) [] [.ptr c 0 0]]]]).length=db at g0 ⊢
 generalize hvb:(h ++ [ABlk.live 4 [DR e]]).length=vb
 have hvl:vb=h.length+1:=by rw [← hvb]; simp
 have hdl:db=h.length+2:=by rw [← hdb]; simp
 generalize hH:(h ++ [ABlk.live 4 [DR e]] ++ [ABlk.live 1 [[AV.fn (.func k) [] [.ptr c 0 0]]]] ++ [ABlk.live 1 [[AV.nilfn]]]).set db (.live 1 [[AV.fn (.func 182) [] [.ptr vb 0 0,.ptr db 0 0]]])=H
 have h1:H[db]? = some (.live 1 [[.fn (.func 182) [] [.ptr vb 0 0,.ptr db 0 0]]]):=by rw [← hH]; exact DY g0
 have h2:H[vb]? = some (.live 1 [[.fn (.func k) [] [.ptr c 0 0]]]):=by
  rw [← hH]; refine LW ?_ (by omega)
  rw [← hvb]; exact BN (CV _ _)
 have h3:H[h.length]? = some (.live 4 [DR e]):=by
  rw [← hH]; refine LW ?_ (by omega)
  exact BN (BN (CV _ _))
 have h4:H[c]? = some (.live 1 [[.int .i64 z]]):=by
  rw [← hH]; refine LW ?_ (by omega)
  exact BN (BN (BN hc))
 have hC:Chg c h H:=by
  refine ⟨by rw [← hH]; simp,fun b hb hbc => ?_⟩
  obtain ⟨x,hx⟩ : ∃ x,h[b]? = some x:=⟨_,jS hb⟩
  rw [← hH,hx]
  exact LW (BN (BN (BN hx))) (by omega)
 simp -implicitDefEqProofs only [AZ,AC,AQ,AO,BD,AX,AL,AA,AY,BO,CB,BP,AB,jF,jE,zU,qC,↓reduceIte,jA,jB,jC,enP,I9 AEY h1,IU h3]
 refine (AN7 G k upd cont c vb db (by omega) (by omega) e hw hvis H z h4 h2 h1).mono ?_
 rintro v h' ⟨rfl,hch,hc1⟩
 simp -implicitDefEqProofs only [ACM,BB,AL]
 exact ⟨hC.trans hch,hc1⟩
end Go.Proofs.YtgnoolgeijmlaaaGreatDoor.Cov
