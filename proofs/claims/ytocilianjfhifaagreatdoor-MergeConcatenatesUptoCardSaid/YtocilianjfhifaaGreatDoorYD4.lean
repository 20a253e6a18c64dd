/- Part 4 of the proof (Ft, B1, B2, B3, B4, B5, B6, B7, E1, E2, E3); no condition. -/
import Derived.Test.YtocilianjfhifaaGreatDoorProg
import Derived.KernelRfl
import Derived.Laws.RangeAny
import Derived.Shelf.Strings.Cut
import Derived.Lib.IndexMore
import Derived.Test.YtocilianjfhifaaGreatDoorYD3
set_option linter.unusedVariables false
namespace Go.Proofs.YtocilianjfhifaaGreatDoor.Sm

theorem sz3:szO Tryz.prog 3=some 1:=by kernel_rfl
theorem ag3:LM Tryz.prog 3=some false:=by kernel_rfl
theorem ag4:LM Tryz.prog 4=some false:=by kernel_rfl
theorem sz9:szO Tryz.prog 9=some 1:=by kernel_rfl
theorem ag9:LM Tryz.prog 9=some false:=by kernel_rfl
theorem WV:LM Tryz.prog 22=some false:=by kernel_rfl
theorem ABH:LM Tryz.prog 23=some false:=by kernel_rfl
theorem AXE:szO Tryz.prog 25=some 2:=by kernel_rfl
theorem A44:LM Tryz.prog 25=some true:=by kernel_rfl
theorem AMJ:szO Tryz.prog 26=some 1:=by kernel_rfl
theorem Q7:LM Tryz.prog 26=some false:=by kernel_rfl
theorem ACK:szO Tryz.prog 28=some 4:=by kernel_rfl
theorem AWP:LM Tryz.prog 28=some true:=by kernel_rfl
theorem A06:szO Tryz.prog 38=some 1:=by kernel_rfl
theorem AWO:LM Tryz.prog 38=some false:=by kernel_rfl
theorem AS8:szO Tryz.prog 47=some 1:=by kernel_rfl
theorem A43:LM Tryz.prog 47=some true:=by kernel_rfl
theorem AL9:LM Tryz.prog 51=some false:=by kernel_rfl
theorem ADN:szO Tryz.prog 53=some 4:=by kernel_rfl
theorem AJF:LM Tryz.prog 53=some true:=by kernel_rfl
theorem SQ:LM Tryz.prog 54=some false:=by kernel_rfl
theorem ZH:szO Tryz.prog 56=some 6:=by kernel_rfl
theorem ACR:LM Tryz.prog 56=some true:=by kernel_rfl
theorem VY:szO Tryz.prog 57=some 1:=by kernel_rfl
theorem KP:LM Tryz.prog 57=some false:=by kernel_rfl
theorem A2R:szO Tryz.prog 58=some 1:=by kernel_rfl
theorem A2E:LM Tryz.prog 58=some false:=by kernel_rfl
theorem AMI:szO Tryz.prog 64=some 1:=by kernel_rfl
theorem AZZ:LM Tryz.prog 64=some false:=by kernel_rfl
theorem XY:szO Tryz.prog 71=some 3:=by kernel_rfl
theorem AAD:LM Tryz.prog 71=some true:=by kernel_rfl
theorem AOW:szO Tryz.prog 106=some 3:=by kernel_rfl
theorem A48:LM Tryz.prog 106=some true:=by kernel_rfl
theorem ABQ:szO Tryz.prog 108=some 4:=by kernel_rfl
theorem AWQ:LM Tryz.prog 108=some true:=by kernel_rfl
theorem A0G:szO Tryz.prog 118=some 1:=by kernel_rfl
theorem PN:LM Tryz.prog 118=some false:=by kernel_rfl
theorem VL:LM Tryz.prog 119=some false:=by kernel_rfl
theorem QR:szO Tryz.prog 121=some 4:=by kernel_rfl
theorem VK:LM Tryz.prog 121=some true:=by kernel_rfl
theorem A0F:szO Tryz.prog 133=some 2:=by kernel_rfl
theorem A47:LM Tryz.prog 133=some true:=by kernel_rfl
theorem A0E:szO Tryz.prog 146=some 1:=by kernel_rfl
theorem ATA:szO Tryz.prog 179=some 1:=by kernel_rfl
theorem AHH:LM Tryz.prog 179=some false:=by kernel_rfl
theorem AOV:szO Tryz.prog 185=some 2:=by kernel_rfl
theorem A0V:LM Tryz.prog 185=some true:=by kernel_rfl
theorem AS9:szO Tryz.prog 187=some 2:=by kernel_rfl
theorem A46:LM Tryz.prog 187=some true:=by kernel_rfl
theorem A0D:szO Tryz.prog 195=some 1:=by kernel_rfl
theorem A45:LM Tryz.prog 195=some true:=by kernel_rfl
theorem be4:∀p q,JG Tryz.prog 4 .eql (.bool p) (.bool q)=some (.bool (p==q)):=fun p q=>AWB Tryz.prog 4 p q (by kernel_rfl)
theorem bn4:∀p q,JG Tryz.prog 4 .neq (.bool p) (.bool q)=some (.bool (!(p==q))):=fun p q=>AWA Tryz.prog 4 p q (by kernel_rfl)
theorem ln9:∀s,LH Tryz.prog 9 (.str s)=some (.int .i64 s.size):=AYO (by kernel_rfl:Tryz.prog.underlying 9=some .string)
theorem S9:∀h a i,G7 Tryz.prog h 22 a i=KN 6 h a i:=IL (by kernel_rfl:Tryz.prog.underlying 22=some (.slice 56)) ZH
theorem QZ:(∀m k xs,LH Tryz.prog 22 (.sl m k xs)=some (.int .i64 xs.length))∧∀b off len,LH Tryz.prog 22 (.own b off len)=some (.int .i64 len):=OE (by kernel_rfl:Tryz.prog.underlying 22=some (.slice 56))
theorem WF:∀h a i,G7 Tryz.prog h 23 a i=KN 3 h a i:=IL (by kernel_rfl:Tryz.prog.underlying 23=some (.slice 71)) XY
theorem VQ:(∀m k xs,LH Tryz.prog 23 (.sl m k xs)=some (.int .i64 xs.length))∧∀b off len,LH Tryz.prog 23 (.own b off len)=some (.int .i64 len):=OE (by kernel_rfl:Tryz.prog.underlying 23=some (.slice 71))
theorem IP:(∀b i j,DV Tryz.prog 25 (.ptr b i j) 0=some (.ptr b i (j+0)))∧(∀k xs i j,DV Tryz.prog 25 (.fptr k xs i j) 0=some (.fptr k xs i (j+0))):=J7 (by kernel_rfl:MN Tryz.prog 25 0 0=true)
theorem J8:(∀b i j,DV Tryz.prog 25 (.ptr b i j) 1=some (.ptr b i (j+1)))∧(∀k xs i j,DV Tryz.prog 25 (.fptr k xs i j) 1=some (.fptr k xs i (j+1))):=J7 (by kernel_rfl:MN Tryz.prog 25 1 1=true)
theorem OI:∀h a i,G7 Tryz.prog h 26 a i=KN 1 h a i:=IL (by kernel_rfl:Tryz.prog.underlying 26=some (.slice 57)) VY
theorem YU:(∀m k xs,LH Tryz.prog 26 (.sl m k xs)=some (.int .i64 xs.length))∧∀b off len,LH Tryz.prog 26 (.own b off len)=some (.int .i64 len):=OE (by kernel_rfl:Tryz.prog.underlying 26=some (.slice 57))
theorem AAO:Tryz.prog.underlying 26=some (.slice 57):=by kernel_rfl
theorem ADC:TW Tryz.prog 57=some 1:=by kernel_rfl
theorem ABB:NE Tryz.prog 57=some 24:=by kernel_rfl
theorem MJ:(∀b i j,DV Tryz.prog 28 (.ptr b i j) 0=some (.ptr b i (j+0)))∧(∀k xs i j,DV Tryz.prog 28 (.fptr k xs i j) 0=some (.fptr k xs i (j+0))):=J7 (by kernel_rfl:MN Tryz.prog 28 0 0=true)
theorem L6:(∀b i j,DV Tryz.prog 28 (.ptr b i j) 1=some (.ptr b i (j+1)))∧(∀k xs i j,DV Tryz.prog 28 (.fptr k xs i j) 1=some (.fptr k xs i (j+1))):=J7 (by kernel_rfl:MN Tryz.prog 28 1 1=true)
theorem U9:(∀b i j,DV Tryz.prog 28 (.ptr b i j) 2=some (.ptr b i (j+2)))∧(∀k xs i j,DV Tryz.prog 28 (.fptr k xs i j) 2=some (.fptr k xs i (j+2))):=J7 (by kernel_rfl:MN Tryz.prog 28 2 2=true)
theorem WN:(∀b i j,DV Tryz.prog 28 (.ptr b i j) 3=some (.ptr b i (j+3)))∧(∀k xs i j,DV Tryz.prog 28 (.fptr k xs i j) 3=some (.fptr k xs i (j+3))):=J7 (by kernel_rfl:MN Tryz.prog 28 3 3=true)
theorem AUL:∀h a i,G7 Tryz.prog h 32 a i=KN 3 h a i:=IL (by kernel_rfl:Tryz.prog.underlying 32=some (.slice 106)) AOW
theorem A3M:(∀m k xs,LH Tryz.prog 32 (.sl m k xs)=some (.int .i64 xs.length))∧∀b off len,LH Tryz.prog 32 (.own b off len)=some (.int .i64 len):=OE (by kernel_rfl:Tryz.prog.underlying 32=some (.slice 106))
theorem A2O:Tryz.prog.underlying 32=some (.slice 106):=by kernel_rfl
theorem A2J:TW Tryz.prog 106=some 3:=by kernel_rfl
theorem A56:NE Tryz.prog 106=some 40:=by kernel_rfl
theorem A3Q:∀h a i,G7 Tryz.prog h 37 a i=KN 4 h a i:=IL (by kernel_rfl:Tryz.prog.underlying 37=some (.slice 28)) ACK
theorem A3L:(∀m k xs,LH Tryz.prog 37 (.sl m k xs)=some (.int .i64 xs.length))∧∀b off len,LH Tryz.prog 37 (.own b off len)=some (.int .i64 len):=OE (by kernel_rfl:Tryz.prog.underlying 37=some (.slice 28))
theorem SG:(∀b i j,DV Tryz.prog 47 (.ptr b i j) 0=some (.ptr b i (j+0)))∧(∀k xs i j,DV Tryz.prog 47 (.fptr k xs i j) 0=some (.fptr k xs i (j+0))):=J7 (by kernel_rfl:MN Tryz.prog 47 0 0=true)
theorem ARD:∀h a i,G7 Tryz.prog h 51 a i=KN 4 h a i:=IL (by kernel_rfl:Tryz.prog.underlying 51=some (.slice 53)) ADN
theorem AK1:(∀m k xs,LH Tryz.prog 51 (.sl m k xs)=some (.int .i64 xs.length))∧∀b off len,LH Tryz.prog 51 (.own b off len)=some (.int .i64 len):=OE (by kernel_rfl:Tryz.prog.underlying 51=some (.slice 53))
theorem IR:(∀b i j,DV Tryz.prog 53 (.ptr b i j) 0=some (.ptr b i (j+0)))∧(∀k xs i j,DV Tryz.prog 53 (.fptr k xs i j) 0=some (.fptr k xs i (j+0))):=J7 (by kernel_rfl:MN Tryz.prog 53 0 0=true)
theorem AA6:(∀b i j,DV Tryz.prog 53 (.ptr b i j) 1=some (.ptr b i (j+1)))∧(∀k xs i j,DV Tryz.prog 53 (.fptr k xs i j) 1=some (.fptr k xs i (j+1))):=J7 (by kernel_rfl:MN Tryz.prog 53 1 1=true)
theorem MI:(∀b i j,DV Tryz.prog 53 (.ptr b i j) 2=some (.ptr b i (j+2)))∧(∀k xs i j,DV Tryz.prog 53 (.fptr k xs i j) 2=some (.fptr k xs i (j+2))):=J7 (by kernel_rfl:MN Tryz.prog 53 2 2=true)
theorem TU:(∀b i j,DV Tryz.prog 53 (.ptr b i j) 3=some (.ptr b i (j+3)))∧(∀k xs i j,DV Tryz.prog 53 (.fptr k xs i j) 3=some (.fptr k xs i (j+3))):=J7 (by kernel_rfl:MN Tryz.prog 53 3 3=true)
theorem YX:∀h a i,G7 Tryz.prog h 54 a i=KN 4 h a i:=IL (by kernel_rfl:Tryz.prog.underlying 54=some (.slice 121)) QR
theorem RZ:(∀m k xs,LH Tryz.prog 54 (.sl m k xs)=some (.int .i64 xs.length))∧∀b off len,LH Tryz.prog 54 (.own b off len)=some (.int .i64 len):=OE (by kernel_rfl:Tryz.prog.underlying 54=some (.slice 121))
theorem AIQ:(∀b i j,DV Tryz.prog 56 (.ptr b i j) 0=some (.ptr b i (j+0)))∧(∀k xs i j,DV Tryz.prog 56 (.fptr k xs i j) 0=some (.fptr k xs i (j+0))):=J7 (by kernel_rfl:MN Tryz.prog 56 0 0=true)
theorem AIP:(∀b i j,DV Tryz.prog 56 (.ptr b i j) 1=some (.ptr b i (j+1)))∧(∀k xs i j,DV Tryz.prog 56 (.fptr k xs i j) 1=some (.fptr k xs i (j+1))):=J7 (by kernel_rfl:MN Tryz.prog 56 1 1=true)
theorem I9:(∀b i j,DV Tryz.prog 56 (.ptr b i j) 2=some (.ptr b i (j+5)))∧(∀k xs i j,DV Tryz.prog 56 (.fptr k xs i j) 2=some (.fptr k xs i (j+5))):=J7 (by kernel_rfl:MN Tryz.prog 56 2 5=true)
theorem JF:∀h a i,G7 Tryz.prog h 57 a i=KN 1 h a i:=IL (by kernel_rfl:Tryz.prog.underlying 57=some (.slice 3)) sz3
theorem JD:(∀m k xs,LH Tryz.prog 57 (.sl m k xs)=some (.int .i64 xs.length))∧∀b off len,LH Tryz.prog 57 (.own b off len)=some (.int .i64 len):=OE (by kernel_rfl:Tryz.prog.underlying 57=some (.slice 3))
theorem UA:Tryz.prog.underlying 57=some (.slice 3):=by kernel_rfl
theorem YG:TW Tryz.prog 3=some 1:=by kernel_rfl
theorem WS:NE Tryz.prog 3=some 8:=by kernel_rfl
theorem A1U:∀h a i,G7 Tryz.prog h 58 a i=KN 2 h a i:=IL (by kernel_rfl:Tryz.prog.underlying 58=some (.slice 187)) AS9
theorem A3K:(∀m k xs,LH Tryz.prog 58 (.sl m k xs)=some (.int .i64 xs.length))∧∀b off len,LH Tryz.prog 58 (.own b off len)=some (.int .i64 len):=OE (by kernel_rfl:Tryz.prog.underlying 58=some (.slice 187))
theorem A3P:∀h a i,G7 Tryz.prog h 64 a i=KN 1 h a i:=IL (by kernel_rfl:Tryz.prog.underlying 64=some (.slice 58)) A2R
theorem AYN:(∀m k xs,LH Tryz.prog 64 (.sl m k xs)=some (.int .i64 xs.length))∧∀b off len,LH Tryz.prog 64 (.own b off len)=some (.int .i64 len):=OE (by kernel_rfl:Tryz.prog.underlying 64=some (.slice 58))
theorem A5I:Tryz.prog.underlying 64=some (.slice 58):=by kernel_rfl
theorem AIO:(∀b i j,DV Tryz.prog 71 (.ptr b i j) 0=some (.ptr b i (j+0)))∧(∀k xs i j,DV Tryz.prog 71 (.fptr k xs i j) 0=some (.fptr k xs i (j+0))):=J7 (by kernel_rfl:MN Tryz.prog 71 0 0=true)
theorem KO:(∀b i j,DV Tryz.prog 71 (.ptr b i j) 1=some (.ptr b i (j+1)))∧(∀k xs i j,DV Tryz.prog 71 (.fptr k xs i j) 1=some (.fptr k xs i (j+1))):=J7 (by kernel_rfl:MN Tryz.prog 71 1 1=true)
theorem U8:(∀b i j,DV Tryz.prog 71 (.ptr b i j) 2=some (.ptr b i (j+2)))∧(∀k xs i j,DV Tryz.prog 71 (.fptr k xs i j) 2=some (.fptr k xs i (j+2))):=J7 (by kernel_rfl:MN Tryz.prog 71 2 2=true)
theorem AYS:∀h a i,G7 Tryz.prog h 96 a i=KN 1 h a i:=IL (by kernel_rfl:Tryz.prog.underlying 96=some (.slice 64)) AMI
theorem AYM:(∀m k xs,LH Tryz.prog 96 (.sl m k xs)=some (.int .i64 xs.length))∧∀b off len,LH Tryz.prog 96 (.own b off len)=some (.int .i64 len):=OE (by kernel_rfl:Tryz.prog.underlying 96=some (.slice 64))
theorem AQN:Tryz.prog.underlying 96=some (.slice 64):=by kernel_rfl
theorem A00:TW Tryz.prog 64=some 1:=by kernel_rfl
theorem A17:NE Tryz.prog 64=some 24:=by kernel_rfl
theorem A0N:∀h a i,G7 Tryz.prog h 101 a i=KN 4 h a i:=IL (by kernel_rfl:Tryz.prog.underlying 101=some (.slice 108)) ABQ
theorem AUC:(∀m k xs,LH Tryz.prog 101 (.sl m k xs)=some (.int .i64 xs.length))∧∀b off len,LH Tryz.prog 101 (.own b off len)=some (.int .i64 len):=OE (by kernel_rfl:Tryz.prog.underlying 101=some (.slice 108))
theorem AS5:Tryz.prog.underlying 101=some (.slice 108):=by kernel_rfl
theorem ASV:TW Tryz.prog 108=some 4:=by kernel_rfl
theorem A0S:NE Tryz.prog 108=some 48:=by kernel_rfl
theorem APZ:(∀b i j,DV Tryz.prog 106 (.ptr b i j) 0=some (.ptr b i (j+0)))∧(∀k xs i j,DV Tryz.prog 106 (.fptr k xs i j) 0=some (.fptr k xs i (j+0))):=J7 (by kernel_rfl:MN Tryz.prog 106 0 0=true)
theorem AIU:(∀b i j,DV Tryz.prog 106 (.ptr b i j) 1=some (.ptr b i (j+1)))∧(∀k xs i j,DV Tryz.prog 106 (.fptr k xs i j) 1=some (.fptr k xs i (j+1))):=J7 (by kernel_rfl:MN Tryz.prog 106 1 1=true)
theorem AIT:(∀b i j,DV Tryz.prog 106 (.ptr b i j) 2=some (.ptr b i (j+2)))∧(∀k xs i j,DV Tryz.prog 106 (.fptr k xs i j) 2=some (.fptr k xs i (j+2))):=J7 (by kernel_rfl:MN Tryz.prog 106 2 2=true)
theorem AC6:(∀b i j,DV Tryz.prog 108 (.ptr b i j) 0=some (.ptr b i (j+0)))∧(∀k xs i j,DV Tryz.prog 108 (.fptr k xs i j) 0=some (.fptr k xs i (j+0))):=J7 (by kernel_rfl:MN Tryz.prog 108 0 0=true)
theorem APY:(∀b i j,DV Tryz.prog 108 (.ptr b i j) 1=some (.ptr b i (j+3)))∧(∀k xs i j,DV Tryz.prog 108 (.fptr k xs i j) 1=some (.fptr k xs i (j+3))):=J7 (by kernel_rfl:MN Tryz.prog 108 1 3=true)
theorem AEE:∀h a i,G7 Tryz.prog h 118 a i=KN 2 h a i:=IL (by kernel_rfl:Tryz.prog.underlying 118=some (.slice 185)) AOV
theorem TG:(∀m k xs,LH Tryz.prog 118 (.sl m k xs)=some (.int .i64 xs.length))∧∀b off len,LH Tryz.prog 118 (.own b off len)=some (.int .i64 len):=OE (by kernel_rfl:Tryz.prog.underlying 118=some (.slice 185))
theorem ABZ:∀h a i,G7 Tryz.prog h 119 a i=KN 1 h a i:=IL (by kernel_rfl:Tryz.prog.underlying 119=some (.slice 118)) A0G
theorem SA:(∀m k xs,LH Tryz.prog 119 (.sl m k xs)=some (.int .i64 xs.length))∧∀b off len,LH Tryz.prog 119 (.own b off len)=some (.int .i64 len):=OE (by kernel_rfl:Tryz.prog.underlying 119=some (.slice 118))
theorem AC5:(∀b i j,DV Tryz.prog 121 (.ptr b i j) 0=some (.ptr b i (j+0)))∧(∀k xs i j,DV Tryz.prog 121 (.fptr k xs i j) 0=some (.fptr k xs i (j+0))):=J7 (by kernel_rfl:MN Tryz.prog 121 0 0=true)
theorem MR:(∀b i j,DV Tryz.prog 121 (.ptr b i j) 1=some (.ptr b i (j+1)))∧(∀k xs i j,DV Tryz.prog 121 (.fptr k xs i j) 1=some (.fptr k xs i (j+1))):=J7 (by kernel_rfl:MN Tryz.prog 121 1 1=true)
theorem Q4:(∀b i j,DV Tryz.prog 121 (.ptr b i j) 2=some (.ptr b i (j+2)))∧(∀k xs i j,DV Tryz.prog 121 (.fptr k xs i j) 2=some (.fptr k xs i (j+2))):=J7 (by kernel_rfl:MN Tryz.prog 121 2 2=true)
theorem OO:(∀b i j,DV Tryz.prog 121 (.ptr b i j) 3=some (.ptr b i (j+3)))∧(∀k xs i j,DV Tryz.prog 121 (.fptr k xs i j) 3=some (.fptr k xs i (j+3))):=J7 (by kernel_rfl:MN Tryz.prog 121 3 3=true)
theorem AY2:(∀b i j,DV Tryz.prog 133 (.ptr b i j) 0=some (.ptr b i (j+0)))∧(∀k xs i j,DV Tryz.prog 133 (.fptr k xs i j) 0=some (.fptr k xs i (j+0))):=J7 (by kernel_rfl:MN Tryz.prog 133 0 0=true)
theorem APX:(∀b i j,DV Tryz.prog 133 (.ptr b i j) 1=some (.ptr b i (j+1)))∧(∀k xs i j,DV Tryz.prog 133 (.fptr k xs i j) 1=some (.fptr k xs i (j+1))):=J7 (by kernel_rfl:MN Tryz.prog 133 1 1=true)
theorem A0B:Tryz.prog.underlying 143=some (.slice 146):=by kernel_rfl
theorem ASU:TW Tryz.prog 146=some 1:=by kernel_rfl
theorem AV1:NE Tryz.prog 146=some 24:=by kernel_rfl
theorem AUB:(∀m k xs,LH Tryz.prog 146 (.sl m k xs)=some (.int .i64 xs.length))∧∀b off len,LH Tryz.prog 146 (.own b off len)=some (.int .i64 len):=OE (by kernel_rfl:Tryz.prog.underlying 146=some (.slice 4))
theorem A2P:Tryz.prog.underlying 146=some (.slice 4):=by kernel_rfl
theorem AGR:∀h a i,G7 Tryz.prog h 179 a i=KN 1 h a i:=IL (by kernel_rfl:Tryz.prog.underlying 179=some (.slice 9)) sz9
theorem ABX:(∀m k xs,LH Tryz.prog 179 (.sl m k xs)=some (.int .i64 xs.length))∧∀b off len,LH Tryz.prog 179 (.own b off len)=some (.int .i64 len):=OE (by kernel_rfl:Tryz.prog.underlying 179=some (.slice 9))
theorem AS4:Tryz.prog.underlying 179=some (.slice 9):=by kernel_rfl
theorem AST:TW Tryz.prog 9=some 1:=by kernel_rfl
theorem AV0:NE Tryz.prog 9=some 16:=by kernel_rfl
theorem APW:(∀b i j,DV Tryz.prog 181 (.ptr b i j) 0=some (.ptr b i (j+0)))∧(∀k xs i j,DV Tryz.prog 181 (.fptr k xs i j) 0=some (.fptr k xs i (j+0))):=J7 (by kernel_rfl:MN Tryz.prog 181 0 0=true)
theorem AIS:(∀b i j,DV Tryz.prog 181 (.ptr b i j) 1=some (.ptr b i (j+1)))∧(∀k xs i j,DV Tryz.prog 181 (.fptr k xs i j) 1=some (.fptr k xs i (j+1))):=J7 (by kernel_rfl:MN Tryz.prog 181 1 1=true)
theorem ZY:(∀b i j,DV Tryz.prog 181 (.ptr b i j) 2=some (.ptr b i (j+2)))∧(∀k xs i j,DV Tryz.prog 181 (.fptr k xs i j) 2=some (.fptr k xs i (j+2))):=J7 (by kernel_rfl:MN Tryz.prog 181 2 2=true)
theorem APV:(∀b i j,DV Tryz.prog 181 (.ptr b i j) 3=some (.ptr b i (j+3)))∧(∀k xs i j,DV Tryz.prog 181 (.fptr k xs i j) 3=some (.fptr k xs i (j+3))):=J7 (by kernel_rfl:MN Tryz.prog 181 3 3=true)
theorem AIR:(∀b i j,DV Tryz.prog 181 (.ptr b i j) 4=some (.ptr b i (j+4)))∧(∀k xs i j,DV Tryz.prog 181 (.fptr k xs i j) 4=some (.fptr k xs i (j+4))):=J7 (by kernel_rfl:MN Tryz.prog 181 4 4=true)
theorem XQ:(∀b i j,DV Tryz.prog 185 (.ptr b i j) 0=some (.ptr b i (j+0)))∧(∀k xs i j,DV Tryz.prog 185 (.fptr k xs i j) 0=some (.fptr k xs i (j+0))):=J7 (by kernel_rfl:MN Tryz.prog 185 0 0=true)
theorem XP:(∀b i j,DV Tryz.prog 185 (.ptr b i j) 1=some (.ptr b i (j+1)))∧(∀k xs i j,DV Tryz.prog 185 (.fptr k xs i j) 1=some (.fptr k xs i (j+1))):=J7 (by kernel_rfl:MN Tryz.prog 185 1 1=true)
theorem APU:(∀b i j,DV Tryz.prog 187 (.ptr b i j) 0=some (.ptr b i (j+0)))∧(∀k xs i j,DV Tryz.prog 187 (.fptr k xs i j) 0=some (.fptr k xs i (j+0))):=J7 (by kernel_rfl:MN Tryz.prog 187 0 0=true)
theorem APT:(∀b i j,DV Tryz.prog 187 (.ptr b i j) 1=some (.ptr b i (j+1)))∧(∀k xs i j,DV Tryz.prog 187 (.fptr k xs i j) 1=some (.fptr k xs i (j+1))):=J7 (by kernel_rfl:MN Tryz.prog 187 1 1=true)
theorem AY1:(∀b i j,DV Tryz.prog 195 (.ptr b i j) 0=some (.ptr b i (j+0)))∧(∀k xs i j,DV Tryz.prog 195 (.fptr k xs i j) 0=some (.fptr k xs i (j+0))):=J7 (by kernel_rfl:MN Tryz.prog 195 0 0=true)
theorem A34:∀n,WZ Tryz.prog 3 5 (.int .i64 n)=some (.int .u8 (IntKind.u8.wrap n)):=fun n=>AAA (ds:=.int .i64) Tryz.prog .i64 n (by kernel_rfl) (by kernel_rfl)
theorem AZG:∀n,WZ Tryz.prog 3 252 (.int .i64 n)=some (.int .u16 (IntKind.u16.wrap n)):=fun n=>AAA (ds:=.int .i64) Tryz.prog .i64 n (by kernel_rfl) (by kernel_rfl)
theorem AVT:∀n,WZ Tryz.prog 5 3 (.int .u8 n)=some (.int .i64 (IntKind.i64.wrap n)):=fun n=>AAA (ds:=.int .u8) Tryz.prog .u8 n (by kernel_rfl) (by kernel_rfl)
theorem AZH:∀n,WZ Tryz.prog 252 3 (.int .u16 n)=some (.int .i64 (IntKind.i64.wrap n)):=fun n=>AAA (ds:=.int .u16) Tryz.prog .u16 n (by kernel_rfl) (by kernel_rfl)
noncomputable def En (G:Nat->AV):Env:=⟨Tryz.prog,G⟩
theorem enP (G:Nat->AV):(En G).P=Tryz.prog:=rfl
theorem enG (G:Nat->AV):(En G).G=G:=rfl
theorem enM (G:Nat->AV):(En G).P.follows .mixedOrders=true:=by kernel_rfl
theorem acN {G:Nat->AV}{f:FuncId}{fn:Func}{c:Code}{args:List AV}{h:Hp}{R:AV->Hp->Prop}(hf:(En G).P.funcs[f]?=some fn)(hb:fn.body=some c)(hw:awp (En G) Hint.none c (OM args) h (EN (En G).P fn.results.toList R))(h1:(fn.name == "runtime.NumGoroutine")=false:=by kernel_rfl) (h2:WQ fn.ntmps c=true:=by kernel_rfl) (h3:Nat.ble args.length fn.ntmps=true:=by kernel_rfl):ACalls (En G) f args h R:=ND (enM G) hf hb h1 h2 (Nat.le_of_ble_eq_true h3) hw
end Go.Proofs.YtocilianjfhifaaGreatDoor.Sm
namespace Go.Proofs.YtocilianjfhifaaGreatDoor.Bins
open Sm
structure Rng where
 lo:Int
 hi:Int
 deriving DecidableEq
def encR (r:Rng):List AV:=[.int .i64 r.lo,.int .i64 r.hi]
theorem AEY (r:Rng):(encR r).length=2:=rfl
theorem YD (r:Rng):(encR r)[0]?=some (.int .i64 r.lo):=rfl
theorem YC (r:Rng):(encR r)[1]?=some (.int .i64 r.hi):=rfl
def inside (xs:List Rng)(v:Int):Bool:=xs.any fun r=>decide (r.lo<=v)&&decide (v<=r.hi)
theorem LG {α:Type}(p:α->Bool)(xs:List α)(k:Nat)(h:k<xs.length):(xs.drop k).any p=(p xs[k]||(xs.drop (k+1)).any p):=by
 rw[List.drop_eq_getElem_cons h,List.any_cons]
theorem bxR (h:Hp)(r:Rng):P7 h (.agg (encR r))=some (.ptr h.length 0 0,h++[.live 2 [encR r]]):=rfl
end Go.Proofs.YtocilianjfhifaaGreatDoor.Bins
set_option linter.unusedSimpArgs false
set_option maxRecDepth 8000
namespace Go.Proofs.YtocilianjfhifaaGreatDoor.Bins
open Sm
open Bool renaming not_false→jC,eq_iff_iff→qN,and_eq_true→jV,true_or→wC,false_or→qG,not_eq_true→qO
open List renaming length_map→jI,append_assoc→zA,drop_eq_nil_of_le→jW,map_cons→jD,map_nil→jE,findIdx?_eq_some_iff_getElem→qV,all_eq_true→zI,take_succ_eq_append_getElem→zL,take_of_length_le→jX,findIdx?_eq_none_iff→qW,append_nil→jF,any_eq_true→qH,any_eq_false→qZ,getElem?_cons_zero→zB
open Nat renaming le_of_ble_eq_true→jH,reduceEqDiff→jA,add_zero→jK,zero_add→jG,reduceAdd→jM,lt_or_ge→zO,eq_zero_or_pos→qX
open Option renaming getD_some→jB
def bad (r:Rng):Bool:=decide (r.lo<0)||decide (r.lo>r.hi)||decide (r.hi>65535)
def JO (xs:List Rng):Int:=if xs.length>64 then 2 else if xs.any bad then 1 else 0
theorem ABV {xs:List Rng}(h:xs.length>64):JO xs=2:=by simp [JO,h]
theorem V8 {xs:List Rng}(h:¬xs.length>64)(hb:xs.any bad=true):JO xs=1:=by simp [JO,h,hb]
theorem YN {xs:List Rng}(h:¬xs.length>64)(hb:xs.any bad=false):JO xs=0:=by simp [JO,h,hb]
theorem A6K (h:Hp):KQ Tryz.prog h 185=some (.ptr h.length 0 0,h++[.live 2 [[.int .i64 0,.int .i64 0]]]):=KE (row:=[.int .i64 0,.int .i64 0]) (by kernel_rfl)
theorem A5J (h:Hp)(r:Rng)(row:List AV)(hr:row.length=2):FX Tryz.prog (h++[.live 2 [row]]) 185 (.ptr h.length 0 0) (.agg (encR r))=some (h++[.live 2 [encR r]]):=by
 rw[MX (cs:=encR r) rfl AOV (by simp [hr,encR])];simp [splice,hr,encR]
theorem AKK (G:Nat->AV)(xs:List Rng)(m:SM)(h:Hp)(hl:xs.length<=1099511627776) :
  PCall (En G) 203 [.sl m 2 (xs.map encR)] h (.int .i64 (JO xs)):=by
 refine ACalls.pure0 rfl ?_;refine acN Tryz.func203 rfl ?_;show awp _ _ _ _ _ (EN _ [.tmp 2] _);simp -implicitDefEqProofs only[BC,BA,BI,A8,AY,BB,AO,AQ,AL,BD,AX,AC,AA,AZ,AU,BH,BG,A7,BR,DZ,AB,FV,BF,↓reduceIte,jA,jB,jC,enP,TG,jI];refine CV (fun hc=>?_) (fun hc=>?_)
 .simp -implicitDefEqProofs only[BC,BA,BK,A8,CP,CG,AY,BB,AO,AQ,AL,BD,AX,AC,AA,AU,BH,A7,↓reduceIte,jB,jC]
  exact⟨by rw[ABV (by simp at hc; omega)],[],by simp⟩
 simp -implicitDefEqProofs only[BC,BP,BA,BO,A8,AY,BB,AO,AQ,AL,BD,AX,AC,AA,AZ,AU,BH,BG,DZ,AB,BF,↓reduceIte,jA,jB,jC,enP,TG,jI];have h64:¬xs.length>64:=by simp at hc; omega
 refine DK (fun n F H=>∃k,n+k=xs.length∧F 8=.sl m 2 (xs.map encR)∧F 9=.int .i64 xs.length∧F 10=.int .i64 (k:Nat)∧(∃x,H=h++x)∧xs.any bad=(xs.drop k).any bad) xs.length ⟨0,by simp,rfl,rfl,rfl,⟨[],by simp⟩,rfl⟩ ?_;rintro n F H ⟨k,hk,f8,f9,f10,⟨x,rfl⟩,hin⟩;simp -implicitDefEqProofs only[BC,BA,BI,A8,AY,BB,AO,AQ,AL,BD,AX,AC,AA,AZ,BR,AB,CZ,↓reduceIte,jB,jC,enP,f8,f9,f10];refine CV (fun hc=>?_) (fun hc=>?_)
 .have hc':k<xs.length:=by simpa using hc
  have hs:=LG bad xs k hc';simp -implicitDefEqProofs only[BC,BP,BA,BO,A8,AY,BB,BL,BV,CO,AO,AQ,AL,BD,AX,AC,EM,AA,AZ,AU,BH,BG,EX,BQ,D6,BR,BJ,CE,BX,AB,CY,CZ,↓reduceIte,jA,jK,jB,jC,enP,AEE,XQ,Option.getD_none,f8,f9,f10,DU hc',FM A0V AOV AEY hc',A6K,A5J _ _ [.int .i64 0,.int .i64 0] rfl,DL ag3,YD,YC];rw[hs] at hin;have fin:bad xs[k]=true->JO xs=1:=fun hb=>V8 h64 (by rw[hin,hb]; rfl)
  have nxt:bad xs[k]=false->xs.any bad=(xs.drop (k+1)).any bad:=fun hb=>by rw[hin,hb]; rfl
  refine IK (fun ha=>?_) (fun ha=>?_)
  .simp -implicitDefEqProofs only[BC,BA,BK,BI,A8,CP,EE,FQ,CG,DI,AY,BB,BL,BV,CO,F7,AO,AQ,AL,BD,AX,AC,AA,EW,AZ,AU,BH,BM,BG,A7,CQ,DY,↓reduceIte,jA,jB,jC,ha]
   exact⟨by rw[fin (by unfold bad; rw[ha]; rfl)],_,by rw[zA]⟩
  simp -implicitDefEqProofs only[AY,BL,BV,CO,ES,AO,AQ,AL,BD,AX,AC,AA,AZ,AU,BM,BG,CQ,DW,BQ,BR,BJ,AB,FV,↓reduceIte,jA,jK,jG,jB,jC,enP,XQ,XP,ha,DL ag3,YD,YC];refine IK (fun hb=>?_) (fun hb=>?_)
  .simp -implicitDefEqProofs only[BC,BA,BK,BI,A8,CP,EE,FQ,CG,DI,AY,BB,BL,BV,CO,F7,AO,AQ,AL,BD,AX,AC,AA,EW,AZ,AU,BH,BM,A7,CQ,DY,↓reduceIte,jA,jB,jC,hb]
   exact⟨by rw[fin (by unfold bad; rw[hb]; simp)],_,by rw[zA]⟩
  simp -implicitDefEqProofs only[BI,A8,AY,BB,BL,BV,CO,ES,AO,AQ,AL,BD,AX,AC,AA,AZ,AU,BH,BM,CQ,DW,BQ,BR,BJ,AB,FV,↓reduceIte,jA,jG,jB,jC,enP,XP,hb,DL ag3,YD,YC];refine CV (fun hc=>?_) (fun hc=>?_)
  .simp -implicitDefEqProofs only[BC,BA,BK,A8,CP,EE,FQ,CG,AY,BB,AO,AQ,AL,BD,AX,AC,AA,AU,BH,A7,↓reduceIte,jB,jC]
   exact⟨by rw[fin (by unfold bad; rw[hc]; simp)],_,by rw[zA]⟩
  .simp -implicitDefEqProofs only[BA,BO,A8,EJ,EQ,AY,BB,AO,AQ,AL,BD,AX,AC,AA,AZ,AU,BH,BG,BR,AB,C9,↓reduceIte,jA,jB,jC,enP,f10,wrap_succ (show k<9223372036854775807 by omega)]
   exact⟨n-1,by omega,k+1,by omega,f8,f9,rfl,⟨_,by rw[zA]⟩,nxt (by unfold bad; rw[ha,hb,hc]; rfl)⟩
 .have hc':¬k<xs.length:=by simpa using hc
  simp -implicitDefEqProofs only[BC,BA,BK,DJ,A8,EG,EU,ET,CG,AY,BB,AO,AQ,AL,BD,AX,AC,AA,AU,BH,A7,↓reduceIte,jB,jC];rw[jW (by omega)] at hin;exact⟨by rw[YN h64 hin],_,rfl⟩
theorem AMR (G:Nat->AV)(xs:List Rng)(m:SM)(h:Hp) :
  PCall (En G) 216 [.sl m 2 (xs.map encR)] h (.int .i64 (JO xs)):=by
 refine acN Tryz.func216 rfl ?_;show awp _ _ _ _ _ (EN _ [.tmp 2] _);simp -implicitDefEqProofs only[BC,BA,BI,A8,AY,BB,AO,AQ,AL,BD,AX,AC,AA,AZ,AU,BH,BG,A7,BR,DZ,AB,FV,BF,↓reduceIte,jA,jB,jC,enP,TG,jI];refine CV (fun hc=>?_) (fun hc=>?_)
 .simp -implicitDefEqProofs only[BC,BA,BK,A8,CP,CG,AY,BB,AO,AQ,AL,BD,AX,AC,AA,AU,BH,A7,↓reduceIte,jB,jC]
  exact⟨by rw[ABV (by simp at hc; omega)],trivial⟩
 simp -implicitDefEqProofs only[BC,BP,BA,BO,A8,AY,BB,AO,AQ,AL,BD,AX,AC,AU,BH,A7,jB,jC,jI];have h64:¬xs.length>64:=by simp at hc; omega
 refine DK (fun n F H=>∃k,n+k=xs.length∧F 0=.sl m 2 (xs.map encR)∧F 3=.int .i64 (k:Nat)∧H=h∧xs.any bad=(xs.drop k).any bad) xs.length ⟨0,by simp,rfl,rfl,rfl,rfl⟩ ?_;rintro n F H ⟨k,hk,f0,f3,rfl,hin⟩;simp -implicitDefEqProofs only[BC,BA,BI,A8,AY,BB,AO,AQ,AL,BD,AX,AC,AA,AZ,BG,BR,DZ,AB,CZ,↓reduceIte,jA,jB,jC,enP,TG,f0,f3,jI];refine CV (fun hc=>?_) (fun hc=>?_)
 .have hc':k<xs.length:=by simpa using hc
  rw[LG bad xs k hc'] at hin;have fin:bad xs[k]=true->JO xs=1:=fun hb=>V8 h64 (by rw[hin,hb]; rfl)
  have nxt:bad xs[k]=false->xs.any bad=(xs.drop (k+1)).any bad:=fun hb=>by rw[hin,hb]; rfl
  simp -implicitDefEqProofs only[BC,BP,BO,A8];refine E8 (by kernel_rfl) ?_;simp -implicitDefEqProofs only[F6,EH,DT,EI,FN,GI,FT,FH,I4,D9,EF,CO,AO,AA,AZ,AU,BH,BQ,BR,BJ,CE,AB,CZ,↓reduceIte,jA,jM,jK,jB,enP,AEE,XQ,f0,f3,DU hc',DF ag3 hc',YD,YC];refine AMC (fun ha=>?_) (fun ha=>?_)
  .simp -implicitDefEqProofs only[F6,EH,DT,FB,EI,FN,GI,AAH,FT,I5,BC,BA,BK,BI,A8,CP,EE,FQ,CG,DI,AY,BB,CO,AO,AQ,AL,BD,AX,AC,AA,EW,AZ,AU,BH,BM,A7,CQ,DY,↓reduceIte,jA,jM,jB,jC,ha]
   exact⟨by rw[fin (by unfold bad; rw[ha]; rfl)],trivial⟩
  simp -implicitDefEqProofs only[F6,EH,DT,EI,FN,GI,UW,FT,I5,FH,I4,D9,EF,CO,AO,AA,AZ,AU,BM,CQ,DW,BQ,BR,BJ,CE,AB,FV,↓reduceIte,jA,jM,jK,jG,jB,enP,AEE,XQ,XP,ha,f0,f3,DU hc',DF ag3 hc',YD,YC];refine AMC (fun hb=>?_) (fun hb=>?_)
  .simp -implicitDefEqProofs only[F6,EH,DT,FB,EI,FN,GI,AAH,I5,BC,BA,BK,BI,A8,CP,EE,FQ,CG,DI,AY,BB,CO,AO,AQ,AL,BD,AX,AC,AA,EW,AZ,AU,BH,BM,A7,CQ,DY,↓reduceIte,jA,jM,jB,jC,hb]
   exact⟨by rw[fin (by unfold bad; rw[hb]; simp)],trivial⟩
  simp -implicitDefEqProofs only[F6,EH,DT,FB,EI,FN,GI,UW,FT,I5,FH,I4,D9,EF,BI,A8,CO,AO,AA,AZ,AU,BH,BM,CQ,DW,BQ,BR,BJ,CE,AB,FV,↓reduceIte,jA,jM,jG,jB,enP,AEE,XP,hb,f0,f3,DU hc',DF ag3 hc',YD,YC];refine CV (fun hc=>?_) (fun hc=>?_)
  .simp -implicitDefEqProofs only[BC,BA,BK,A8,CP,EE,FQ,CG,AY,BB,AO,AQ,AL,BD,AX,AC,AA,AU,BH,A7,↓reduceIte,jB,jC]
   exact⟨by rw[fin (by unfold bad; rw[hc]; simp)],trivial⟩
  .simp -implicitDefEqProofs only[BA,BO,A8,EJ,EQ,AY,BB,AO,AQ,AL,BD,AX,AC,AA,AZ,AU,BH,BG,A7,BR,AB,C9,↓reduceIte,jA,jB,jC,enP,f3,wrap_succ (show k<9223372036854775807 by omega)]
   exact⟨n-1,by omega,k+1,by omega,f0,rfl,trivial,nxt (by unfold bad; rw[ha,hb,hc]; rfl)⟩
 .have hc':¬k<xs.length:=by simpa using hc
  simp -implicitDefEqProofs only[BC,BA,BK,DJ,A8,EG,EU,ET,CG,AY,BB,AO,AQ,AL,BD,AX,AC,AA,AU,BH,A7,↓reduceIte,jB,jC];rw[jW (by omega)] at hin;exact⟨by rw[YN h64 hin],trivial⟩
structure Rs where
 m:SM
 l:List Rng
def AVH (r:Rs):AV:=.sl r.m 2 (r.l.map encR)
def encS (r:Rs):List AV:=[AVH r]
structure Bin where
 name:ByteArray
 kind:Int
 ranges:Rs
 sm:SM
 steps:List Rs
def GV (b:Bin):List AV:=[.str b.name,.int .i64 b.kind,AVH b.ranges,.sl b.sm 1 (b.steps.map encS)]
theorem AP7 (b:Bin):(GV b)[0]?=some (.str b.name):=rfl
theorem UR (b:Bin):(GV b)[1]?=some (.int .i64 b.kind):=rfl
theorem AB7 (b:Bin):(GV b)[2]?=some (.sl b.ranges.m 2 (b.ranges.l.map encR)):=rfl
theorem VJ (b:Bin):(GV b)[3]?=some (.sl b.sm 1 (b.steps.map encS)):=rfl
theorem MK (b:Bin):(GV b).length=4:=rfl
theorem AB4 (r:Rs):(encS r)[0]?=some (.sl r.m 2 (r.l.map encR)):=rfl
theorem bxB (h:Hp)(b:Bin):P7 h (.agg (GV b))=some (.ptr h.length 0 0,h++[.live 4 [GV b]]):=rfl
theorem ldB (h:Hp)(b:Bin):ED Tryz.prog (h++[.live 4 [GV b]]) 121 (.ptr h.length 0 0)=some (.agg (GV b)):=XK VK QR (by simp [GV])
def TC (b:Bin):SM:=if b.ranges.l.length>0 then .full else b.sm
def sets (b:Bin):List Rs:=if b.ranges.l.length>0 then [b.ranges] else b.steps
theorem A4H (h:Hp)(r:Rs):FO Tryz.prog false h 119 1 [(0,.sl r.m 2 (r.l.map encR))]=some (.sl .full 1 ([r].map encS),h):=by
 have:(V6 1 0 [(0,AV.sl r.m 2 (r.l.map encR))])=some [[.sl r.m 2 (r.l.map encR)]]:=rfl;simp only[FO,Tryz.underlying119,A0G,this];have hz:TW Tryz.prog 118=some 1:=by kernel_rfl
 simp [hz,AV.frozen,encS,AVH]
theorem AGI (G:Nat->AV)(b:Bin)(h:Hp):PCall (En G) 202 [.agg (GV b)] h (.sl (TC b) 1 ((sets b).map encS)):=by
 refine ACalls.pure0 rfl ?_;refine acN Tryz.func202 rfl ?_;show awp _ _ _ _ _ (EN _ [.tmp 2] _);simp -implicitDefEqProofs only[BC,BA,BI,A8,AY,BB,AO,AQ,AL,BD,AX,AC,AA,AZ,AU,BH,IY,A7,FU,BQ,BR,BJ,DZ,BX,AB,FV,BF,↓reduceIte,jA,jG,jB,jC,enP,TG,Q4,bxB,DL PN,AB7,jI];refine CV (fun hc=>?_) (fun hc=>?_)
 .have hc':b.ranges.l.length>0:=by simpa using hc
  simp -implicitDefEqProofs only[EZ,FW,BC,BA,BK,A8,CP,CG,AY,BB,AO,AQ,AL,BD,AX,AC,AA,AZ,A7,EP,BQ,BJ,BX,AB,jD,jE,↓reduceIte,jA,jG,jB,jC,enP,Q4,DL PN,AB7,A4H];exact⟨by rw[TC,sets,if_pos hc',if_pos hc']; rfl,_,rfl⟩
 .have hc':¬b.ranges.l.length>0:=by simpa using hc
  simp -implicitDefEqProofs only[BC,BA,BO,BK,A8,CG,AY,BB,AO,AQ,AL,BD,AX,AC,AA,AZ,A7,BQ,BJ,AB,↓reduceIte,jA,jG,jB,jC,enP,OO,DL VL,VJ];exact⟨by rw[TC,sets,if_neg hc',if_neg hc'],_,rfl⟩
theorem AJ5 (G:Nat->AV)(b:Bin)(h:Hp):PCall (En G) 165 [.agg (GV b)] h (.sl (TC b) 1 ((sets b).map encS)):=by
 refine ACalls.pure0 rfl ?_;refine acN Tryz.func165 rfl ?_;show awp _ _ _ _ _ (EN _ [.tmp 2] _);simp -implicitDefEqProofs only[BC,BA,BI,A8,AY,BB,AO,AQ,AL,BD,AX,AC,AA,AZ,AU,BH,IY,A7,FU,BQ,BR,BJ,DZ,BX,AB,FV,BF,↓reduceIte,jA,jG,jB,jC,enP,TG,Q4,bxB,DL PN,AB7,jI];refine CV (fun hc=>?_) (fun hc=>?_)
 .have hc':b.ranges.l.length>0:=by simpa using hc
  simp -implicitDefEqProofs only[EZ,FW,BC,BA,BK,A8,CP,CG,AY,BB,AO,AQ,AL,BD,AX,AC,AA,AZ,A7,EP,BQ,BJ,BX,AB,jD,jE,↓reduceIte,jA,jG,jB,jC,enP,Q4,DL PN,AB7,A4H];exact⟨by rw[TC,sets,if_pos hc',if_pos hc']; rfl,_,rfl⟩
 .have hc':¬b.ranges.l.length>0:=by simpa using hc
  simp -implicitDefEqProofs only[BC,BA,BO,BK,A8,CG,AY,BB,AO,AQ,AL,BD,AX,AC,AA,AZ,A7,BQ,BJ,AB,↓reduceIte,jA,jG,jB,jC,enP,OO,DL VL,VJ];exact⟨by rw[TC,sets,if_neg hc',if_neg hc'],_,rfl⟩
theorem A3D (m:SM)(k:Nat)(xs:List (List AV)):JG Tryz.prog 57 .eql (.sl m k xs) (.sl .nil 0 [])=some (.bool (decide (m=.nil))):=by cases m<;>kernel_rfl
def ANW (k:Nat)(xs:List (List AV))(h:Hp)(v:AV)(h':Hp):Prop :=
 (xs=[]∧(∃k0,v=.sl .nil k0 [])∧h'=h)∨(xs=[]∧v=.sl .full k []∧h'=h)∨(xs≠[]∧v=.own h.length 0 xs.length∧h'=h++[.live k xs])
theorem AV5 (h:Hp):FO Tryz.prog false h 57 0 []=some (.sl .full 1 [],h):=by kernel_rfl
theorem cok (f:FuncId)(G:Nat->AV)(hf:(match Tryz.prog.funcs[f]? with|some fn=>fn.body.isSome && !(fn.name == "runtime.NumGoroutine")|none=>false)=true):ZB (En G).P f:=by
 have he:(En G).P=Tryz.prog:=rfl;unfold ZB;rw[he]
 cases hx:Tryz.prog.funcs[f]? with
 | none=>rw[hx] at hf; cases hf
 | some fn =>
   rw[hx] at hf;simp at hf;exact⟨fn,rfl,by simpa using hf.1,by simpa using hf.2⟩
def encI (n:Int):List AV:=[.int .i64 n]
theorem encI0 (n:Int):(encI n)[0]?=some (.int .i64 n):=rfl
theorem AVL (G:Nat->AV)(r:Rs)(h:Hp):PCall (En G) 235 [.sl r.m 2 (r.l.map encR)] h (.bool (decide (r.l.length=0))):=by
 refine acN Tryz.func235 rfl ?_;show awp _ _ _ _ _ (EN _ [.tmp 2] _);simp -implicitDefEqProofs only[BC,BA,BK,A8,CG,AY,BB,AO,AQ,AL,BD,AX,AC,AA,AZ,AU,BH,BM,BG,A7,BR,DZ,AB,D7,BF,↓reduceIte,jA,jB,jC,enP,TG,jI];refine⟨?_,trivial⟩;congr 1;rw[qN]; simp
theorem AK5 (G:Nat->AV)(xs:List Rs)(m:SM)(fid:FuncId)(caps:List AV)(p:Rs->Bool)(h:Hp)(hl:xs.length<=1099511627776)
  (hf:∀r,PCall (En G) fid (.sl r.m 2 (r.l.map encR)::caps) h (.bool (p r))) :
  PCall (En G) 260 [.sl m 1 (xs.map encS),.fn (.func fid) [] caps] h (.int .i64 (match xs.findIdx? p with|some i=>(i:Int)|none => -1)):=by
 refine acN Tryz.func260 rfl ?_;show awp _ _ _ _ _ (EN _ [.tmp 4] _);simp -implicitDefEqProofs only[BC,BP,BA,A8,AY,BB,AO,AQ,AL,BD,AX,AC,AA,AZ,AU,BH,BG,A7,DZ,AB,BF,↓reduceIte,jA,jB,jC,enP,SA,jI];refine DK (fun n F H=>∃k,n+k=xs.length∧F 0=.sl m 1 (xs.map encS)∧F 1=.fn (.func fid) [] caps∧F 7=.int .i64 xs.length∧F 8=.int .i64 (k:Nat)∧H=h∧(xs.take k).all (fun r => !p r)=true) xs.length ⟨0,by simp,rfl,rfl,rfl,rfl,rfl,rfl⟩ ?_;rintro n F H ⟨k,hk,f0,f1,f7,f8,rfl,hin⟩;simp -implicitDefEqProofs only[BC,BA,BI,A8,AY,BB,AO,AQ,AL,BD,AX,AC,AA,AZ,BR,AB,CZ,↓reduceIte,jB,jC,enP,f0,f1,f7,f8,jI];refine CV (fun hc=>?_) (fun hc=>?_)
 .have hc':k<xs.length:=by simpa using hc
  simp -implicitDefEqProofs only[BC,BP,BA,BO,A8,AY,BB,AO,AQ,AL,BD,AX,AC,AA,AZ,BG,A7,BQ,CE,CB,BU,AB,jD,jE,List.nil_append,List.cons_append,↓reduceIte,jA,jB,jC,enP,ABZ,f0,f1,f7,f8,DU hc',DF PN hc',AB4];refine(hf _).use ?_;simp -implicitDefEqProofs only[BI,A8,BB,AC,AA,AZ,↓reduceIte];refine CV (fun hb=>?_) (fun hb=>?_)
  .simp -implicitDefEqProofs only[BC,BA,BK,A8,CP,EE,FQ,CG,AY,BB,AO,AQ,AL,BD,AX,AC,AA,AZ,BG,A7,↓reduceIte,jA,jB,jC]
   refine⟨?_,trivial⟩
   rw[qV.2 ⟨hc',hb,fun j hj=>by
    rw[zI] at hin;have:=hin xs[j] (by rw[List.mem_take_iff_getElem]; exact⟨j,by omega,rfl⟩)
    simpa using this⟩]
  .simp -implicitDefEqProofs only[BA,BO,A8,EJ,EQ,AY,BB,AO,AQ,AL,BD,AX,AC,AA,AZ,AU,BH,BG,BR,AB,C9,↓reduceIte,jA,jB,jC,enP,f8,wrap_succ (show k<9223372036854775807 by omega)]
   refine⟨n-1,by omega,k+1,by omega,f0,f1,f7,rfl,trivial,?_⟩;rw[zL hc',List.all_append,hin];simp only[List.all_cons,List.all_nil,hb]; rfl
 .have hc':¬k<xs.length:=by simpa using hc
  simp -implicitDefEqProofs only[BC,BA,BK,DJ,A8,EG,EU,ET,CG,AY,BB,AO,AQ,AL,BD,AX,AC,AA,AU,BH,A7,↓reduceIte,jB,jC];refine⟨?_,trivial⟩;rw[jX (by omega)] at hin;rw[qW.2 (by simpa using hin)]
theorem AE4 (G:Nat->AV)(xs:List Rs)(m:SM)(fid:FuncId)(caps:List AV)(p:Rs->Bool)(h:Hp)(hl:xs.length<=1099511627776)
  (hf:∀r,PCall (En G) fid (.sl r.m 2 (r.l.map encR)::caps) h (.bool (p r))) :
  PCall (En G) 234 [.sl m 1 (xs.map encS),.fn (.func fid) [] caps] h (.bool (xs.any p)):=by
 refine acN Tryz.func234 rfl ?_;show awp _ _ _ _ _ (EN _ [.tmp 4] _);simp -implicitDefEqProofs only[BC,BA,A8,AY,BB,AO,AQ,AL,BD,AX,AC,AA,AZ,AU,BZ,BM,BG,A7,CB,BU,BF,BN,jD,jE,jF,↓reduceIte,jA,jB,jC,enP];refine(AK5 G xs m fid caps p h hl hf).use ?_;simp -implicitDefEqProofs only[BK,A8,CG,AY,BB,AO,AQ,AL,BD,AX,AC,AA,AZ,AU,BH,A7,BR,AB,G6,↓reduceIte,jB,jC,enP];refine⟨?_,trivial⟩
 cases hx:xs.findIdx? p with
 | some i =>
   obtain⟨h1,h2,_⟩:=qV.1 hx;have:xs.any p=true:=qH.2 ⟨xs[i],by simp,h2⟩;simp [this]
 | none =>
   have:xs.any p=false:=by
    rw[qW] at hx;rw[qZ]; intro x hx2; simp [hx x hx2]
   simp [this]
def SY (n:Int):Bool:=decide (n≥97)&&decide (n<=122)
def ALS (n:Int):Bool:=decide (n≥48)&&decide (n<=57)
def OJ (n:Int):Bool:=SY n||ALS n||(decide (n≥65)&&decide (n<=90))||n==95
theorem AEB (G:Nat->AV)(n:Int)(h:Hp):PCall (En G) 227 [.int .i32 n] h (.bool (SY n)):=by
 refine acN Tryz.func227 rfl ?_;show awp _ _ _ _ _ (EN _ [.tmp 2] _);simp -implicitDefEqProofs only[BC,BA,A8,AY,BB,BL,BV,CO,AO,AQ,AL,BD,AX,AC,AA,AZ,AU,BH,BM,BG,A7,BR,AB,G6,BF,↓reduceIte,jA,jB,jC,enP];refine IK (fun ha=>?_) (fun ha=>?_)
 .simp -implicitDefEqProofs only[BK,A8,CG,AY,BB,BL,BV,CO,GH,AO,AQ,AL,BD,AX,AC,AA,AZ,AU,BH,BM,BG,A7,CQ,DY,BR,AB,JA,BF,↓reduceIte,jA,jB,jC,enP,ha]
  exact⟨by unfold SY; rw[ha]; rfl,trivial⟩
 .simp -implicitDefEqProofs only[BK,A8,CG,AY,BB,BL,BV,CO,IU,AO,AQ,AL,BD,AX,AC,AA,EW,AZ,AU,BM,A7,CQ,DW,↓reduceIte,jA,jB,jC,ha]
  exact⟨by unfold SY; rw[ha]; rfl,trivial⟩
theorem ANP (G:Nat->AV)(n:Int)(h:Hp):PCall (En G) 256 [.int .i32 n] h (.bool (ALS n)):=by
 refine acN Tryz.func256 rfl ?_;show awp _ _ _ _ _ (EN _ [.tmp 2] _);simp -implicitDefEqProofs only[BC,BA,A8,AY,BB,BL,BV,CO,AO,AQ,AL,BD,AX,AC,AA,AZ,AU,BH,BM,BG,A7,BR,AB,G6,BF,↓reduceIte,jA,jB,jC,enP];refine IK (fun ha=>?_) (fun ha=>?_)
 .simp -implicitDefEqProofs only[BK,A8,CG,AY,BB,BL,BV,CO,GH,AO,AQ,AL,BD,AX,AC,AA,AZ,AU,BH,BM,BG,A7,CQ,DY,BR,AB,JA,BF,↓reduceIte,jA,jB,jC,enP,ha]
  exact⟨by unfold ALS; rw[ha]; rfl,trivial⟩
 .simp -implicitDefEqProofs only[BK,A8,CG,AY,BB,BL,BV,CO,IU,AO,AQ,AL,BD,AX,AC,AA,EW,AZ,AU,BM,A7,CQ,DW,↓reduceIte,jA,jB,jC,ha]
  exact⟨by unfold ALS; rw[ha]; rfl,trivial⟩
theorem AGH (G:Nat->AV)(n:Int)(h:Hp):PCall (En G) 213 [.int .u8 n] h (.bool (SY n)):=by
 refine acN Tryz.func213 rfl ?_;show awp _ _ _ _ _ (EN _ [.tmp 2] _);simp -implicitDefEqProofs only[BC,BA,A8,AY,BB,BL,BV,CO,AO,AQ,AL,BD,AX,AC,AA,AZ,AU,BH,BM,BG,A7,BR,AB,G6,BF,↓reduceIte,jA,jB,jC,enP];refine IK (fun ha=>?_) (fun ha=>?_)
 .simp -implicitDefEqProofs only[BK,A8,CG,AY,BB,BL,BV,CO,GH,AO,AQ,AL,BD,AX,AC,AA,AZ,AU,BH,BM,BG,A7,CQ,DY,BR,AB,JA,BF,↓reduceIte,jA,jB,jC,enP,ha]
  exact⟨by unfold SY; rw[ha]; rfl,trivial⟩
 .simp -implicitDefEqProofs only[BK,A8,CG,AY,BB,BL,BV,CO,IU,AO,AQ,AL,BD,AX,AC,AA,EW,AZ,AU,BM,A7,CQ,DW,↓reduceIte,jA,jB,jC,ha]
  exact⟨by unfold SY; rw[ha]; rfl,trivial⟩
theorem digit_ref (G:Nat->AV)(n:Int)(h:Hp):PCall (En G) 245 [.int .u8 n] h (.bool (ALS n)):=by
 refine acN Tryz.func245 rfl ?_;show awp _ _ _ _ _ (EN _ [.tmp 2] _);simp -implicitDefEqProofs only[BC,BA,A8,AY,BB,BL,BV,CO,AO,AQ,AL,BD,AX,AC,AA,AZ,AU,BH,BM,BG,A7,BR,AB,G6,BF,↓reduceIte,jA,jB,jC,enP];refine IK (fun ha=>?_) (fun ha=>?_)
 .simp -implicitDefEqProofs only[BK,A8,CG,AY,BB,BL,BV,CO,GH,AO,AQ,AL,BD,AX,AC,AA,AZ,AU,BH,BM,BG,A7,CQ,DY,BR,AB,JA,BF,↓reduceIte,jA,jB,jC,enP,ha]
  exact⟨by unfold ALS; rw[ha]; rfl,trivial⟩
 .simp -implicitDefEqProofs only[BK,A8,CG,AY,BB,BL,BV,CO,IU,AO,AQ,AL,BD,AX,AC,AA,EW,AZ,AU,BM,A7,CQ,DW,↓reduceIte,jA,jB,jC,ha]
  exact⟨by unfold ALS; rw[ha]; rfl,trivial⟩
theorem ZW (G:Nat->AV)(n:Int)(h:Hp):PCall (En G) 228 [.int .i32 n] h (.bool (OJ n)):=by
 refine acN Tryz.func228 rfl ?_;show awp _ _ _ _ _ (EN _ [.tmp 2] _);simp -implicitDefEqProofs only[BC,BA,A8,AY,BB,AO,AQ,AL,BD,AX,AC,AA,AZ,AU,BZ,BM,BG,A7,CB,BU,BF,jD,jE,jF,↓reduceIte,jA,jB,jC,enP];refine(AEB G n h).use ?_;simp -implicitDefEqProofs only[AY,BL,BV,CO,AO,AQ,AL,BD,AX,AC,AA,AZ,BG,↓reduceIte,jB,jC];refine IK (fun ha=>?_) (fun ha=>?_)
 .simp -implicitDefEqProofs only[BK,A8,CG,AY,BB,BL,BV,CO,F7,SV,AO,AQ,AL,BD,AX,AC,AA,EW,AZ,AU,BM,BG,A7,CQ,DY,↓reduceIte,jA,jB,jC,ha]
  exact⟨by unfold OJ; rw[ha]; rfl,trivial⟩
 simp -implicitDefEqProofs only[BL,BV,CO,ES,AO,AQ,AL,BD,AX,AC,AA,AZ,BZ,BG,CB,BU,BF,jD,jE,jF,↓reduceIte,jA,jB,jC,ha];refine(ANP G n h).use ?_;simp -implicitDefEqProofs only[AY,BL,BV,CO,AO,AQ,AL,BD,AX,AC,AA,AZ,AU,BM,BG,CQ,DW,↓reduceIte,jA,jB,jC];refine IK (fun hb=>?_) (fun hb=>?_)
 .simp -implicitDefEqProofs only[BK,A8,CG,AY,BB,BL,BV,CO,F7,SV,AO,AQ,AL,BD,AX,AC,AA,EW,AZ,AU,BM,BG,A7,CQ,DY,↓reduceIte,jA,jB,jC,hb]
  exact⟨by unfold OJ; rw[ha,hb]; rfl,trivial⟩
 simp -implicitDefEqProofs only[BL,BV,CO,ES,AO,AQ,AL,BD,AX,AC,AA,AZ,AU,BH,BG,BR,AB,G6,BF,↓reduceIte,jA,jB,jC,enP,hb];refine IK (fun hc=>?_) (fun hc=>?_)
 .simp -implicitDefEqProofs only[AY,BL,BV,CO,GH,ES,AO,AQ,AL,BD,AX,AC,AA,AZ,AU,BH,BM,BG,CQ,DY,DW,BR,AB,JA,BF,↓reduceIte,jA,jB,jC,enP,hc]
  refine IK (fun hd=>?_) (fun hd=>?_)
  .simp -implicitDefEqProofs only[BK,A8,CG,AY,BB,BL,BV,CO,F7,AO,AQ,AL,BD,AX,AC,AA,EW,AZ,AU,BM,A7,CQ,DY,↓reduceIte,jA,jB,jC,hd]
   exact⟨by unfold OJ; rw[ha,hb,hc,hd]; rfl,trivial⟩
  .simp -implicitDefEqProofs only[BK,A8,CG,AY,BB,BL,BV,CO,ES,AO,AQ,AL,BD,AX,AC,AA,AZ,AU,BH,BM,BG,A7,CQ,DW,BR,AB,D7,BF,↓reduceIte,jA,jB,jC,enP,hd]
   exact⟨by unfold OJ; rw[ha,hb,hc,hd]; rfl,trivial⟩
 .simp -implicitDefEqProofs only[BK,A8,CG,AY,BB,BL,BV,CO,ES,IU,AO,AQ,AL,BD,AX,AC,AA,EW,AZ,AU,BH,BM,BG,A7,CQ,DW,BR,AB,D7,BF,↓reduceIte,jA,jB,jC,enP,hc]
  exact⟨by unfold OJ; rw[ha,hb,hc]; rfl,trivial⟩
theorem ARI (G:Nat->AV)(n:Int)(h:Hp):PCall (En G) 215 [.int .u8 n] h (.bool (OJ n)):=by
 refine acN Tryz.func215 rfl ?_;show awp _ _ _ _ _ (EN _ [.tmp 2] _);simp -implicitDefEqProofs only[BC,BA,A8,AY,BB,AO,AQ,AL,BD,AX,AC,AA,AZ,AU,BZ,BM,BG,A7,CB,BU,BF,jD,jE,jF,↓reduceIte,jA,jB,jC,enP];refine(AGH G n h).use ?_;simp -implicitDefEqProofs only[AY,BL,BV,CO,AO,AQ,AL,BD,AX,AC,AA,AZ,BG,↓reduceIte,jB,jC];refine IK (fun ha=>?_) (fun ha=>?_)
 .simp -implicitDefEqProofs only[BK,A8,CG,AY,BB,BL,BV,CO,F7,SV,AO,AQ,AL,BD,AX,AC,AA,EW,AZ,AU,BM,BG,A7,CQ,DY,↓reduceIte,jA,jB,jC,ha]
  exact⟨by unfold OJ; rw[ha]; rfl,trivial⟩
 simp -implicitDefEqProofs only[BL,BV,CO,ES,AO,AQ,AL,BD,AX,AC,AA,AZ,BZ,BG,CB,BU,BF,jD,jE,jF,↓reduceIte,jA,jB,jC,ha];refine(digit_ref G n h).use ?_;simp -implicitDefEqProofs only[AY,BL,BV,CO,AO,AQ,AL,BD,AX,AC,AA,AZ,AU,BM,BG,CQ,DW,↓reduceIte,jA,jB,jC];refine IK (fun hb=>?_) (fun hb=>?_)
 .simp -implicitDefEqProofs only[BK,A8,CG,AY,BB,BL,BV,CO,F7,SV,AO,AQ,AL,BD,AX,AC,AA,EW,AZ,AU,BM,BG,A7,CQ,DY,↓reduceIte,jA,jB,jC,hb]
  exact⟨by unfold OJ; rw[ha,hb]; rfl,trivial⟩
 simp -implicitDefEqProofs only[BL,BV,CO,ES,AO,AQ,AL,BD,AX,AC,AA,AZ,AU,BH,BG,BR,AB,G6,BF,↓reduceIte,jA,jB,jC,enP,hb];refine IK (fun hc=>?_) (fun hc=>?_)
 .simp -implicitDefEqProofs only[AY,BL,BV,CO,GH,ES,AO,AQ,AL,BD,AX,AC,AA,AZ,AU,BH,BM,BG,CQ,DY,DW,BR,AB,JA,BF,↓reduceIte,jA,jB,jC,enP,hc]
  refine IK (fun hd=>?_) (fun hd=>?_)
  .simp -implicitDefEqProofs only[BK,A8,CG,AY,BB,BL,BV,CO,F7,AO,AQ,AL,BD,AX,AC,AA,EW,AZ,AU,BM,A7,CQ,DY,↓reduceIte,jA,jB,jC,hd]
   exact⟨by unfold OJ; rw[ha,hb,hc,hd]; rfl,trivial⟩
  .simp -implicitDefEqProofs only[BK,A8,CG,AY,BB,BL,BV,CO,ES,AO,AQ,AL,BD,AX,AC,AA,AZ,AU,BH,BM,BG,A7,CQ,DW,BR,AB,D7,BF,↓reduceIte,jA,jB,jC,enP,hd]
   exact⟨by unfold OJ; rw[ha,hb,hc,hd]; rfl,trivial⟩
 .simp -implicitDefEqProofs only[BK,A8,CG,AY,BB,BL,BV,CO,ES,IU,AO,AQ,AL,BD,AX,AC,AA,EW,AZ,AU,BH,BM,BG,A7,CQ,DW,BR,AB,D7,BF,↓reduceIte,jA,jB,jC,enP,hc]
  exact⟨by unfold OJ; rw[ha,hb,hc]; rfl,trivial⟩
def encStr (s:ByteArray):List AV:=[.str s]
theorem encStr0 (s:ByteArray):(encStr s)[0]?=some (.str s):=rfl
def IZ (xs:List ByteArray)(v:ByteArray):Bool:=xs.any fun u=>v.toList==u.toList
theorem has_ref (G:Nat->AV)(xs:List ByteArray)(m:SM)(v:ByteArray)(h:Hp)(hl:xs.length<=1099511627776) :
  PCall (En G) 243 [.sl m 1 (xs.map encStr),.str v] h (.bool (IZ xs v)):=by
 refine acN Tryz.func243 rfl ?_;show awp _ _ _ _ _ (EN _ [.tmp 4] _);simp -implicitDefEqProofs only[BC,BP,BA,A8,AY,BB,AO,AQ,AL,BD,AX,AC,AU,BH,BM,A7,jB,jC,enP];refine DK (fun n F H=>∃k,n+k=xs.length∧F 0=.sl m 1 (xs.map encStr)∧F 1=.str v∧F 5=.int .i64 (k:Nat)∧H=h∧IZ xs v=IZ (xs.drop k) v) xs.length ⟨0,by simp,rfl,rfl,rfl,rfl,rfl⟩ ?_;rintro n F H ⟨k,hk,f0,f1,f5,rfl,hin⟩;simp -implicitDefEqProofs only[BC,BA,BI,A8,AY,BB,AO,AQ,AL,BD,AX,AC,AA,AZ,BG,BR,DZ,AB,CZ,↓reduceIte,jA,jB,jC,enP,ABX,f0,f1,f5,jI];refine CV (fun hc=>?_) (fun hc=>?_)
 .have hc':k<xs.length:=by simpa using hc
  have hs:IZ (xs.drop k) v=((v.toList==xs[k].toList)||IZ (xs.drop (k+1)) v):=LG _ xs k hc';simp -implicitDefEqProofs only[BC,BP,BA,BO,BI,A8,AY,BB,AO,AQ,AL,BD,AX,AC,AA,AZ,BG,BQ,BR,CE,AB,MM,↓reduceIte,jA,jB,jC,enP,AGR,f0,f1,f5,DU hc',DF ag9 hc',encStr0];refine CV (fun hb=>?_) (fun hb=>?_)
  .simp -implicitDefEqProofs only[BC,BA,BK,A8,CP,EE,FQ,CG,AY,BB,AO,AQ,AL,BD,AX,AC,AA,AU,BM,A7,↓reduceIte,jB,jC]
   refine⟨?_,trivial⟩;rw[hin,hs,show(v.toList==xs[k].toList)=true by rw[BEq.comm]; exact hb]; rfl
  .simp -implicitDefEqProofs only[BA,BO,A8,EJ,EQ,AY,BB,AO,AQ,AL,BD,AX,AC,AA,AZ,AU,BH,BG,A7,BR,AB,C9,↓reduceIte,jA,jB,jC,enP,f5,wrap_succ (show k<9223372036854775807 by omega)]
   refine⟨n-1,by omega,k+1,by omega,f0,f1,rfl,trivial,?_⟩;rw[hin,hs,show(v.toList==xs[k].toList)=false by rw[BEq.comm]; exact hb]; rfl
 .have hc':¬k<xs.length:=by simpa using hc
  simp -implicitDefEqProofs only[BC,BA,BK,DJ,A8,EG,EU,ET,CG,AY,BB,AO,AQ,AL,BD,AX,AC,AA,AU,BM,A7,↓reduceIte,jB,jC];exact⟨by rw[hin,jW (by omega)]; rfl,trivial⟩
theorem AM8 (G:Nat->AV)(xs:List ByteArray)(m:SM)(v:ByteArray)(h:Hp)(hl:xs.length<=1099511627776) :
  ∃i:Int,(decide (i≥0)=IZ xs v)∧PCall (En G) 257 [.sl m 1 (xs.map encStr),.str v] h (.int .i64 i):=by
 refine⟨(match xs.findIdx? (fun u=>v.toList==u.toList) with|some i=>(i:Int)|none => -1),?_,?_⟩
 .cases hx:xs.findIdx? (fun u=>v.toList==u.toList) with
  | some i =>
    obtain⟨h1,h2,_⟩:=qV.1 hx;have:IZ xs v=true:=qH.2 ⟨xs[i],by simp,h2⟩;simp [this]
  | none =>
    have:IZ xs v=false:=by
     rw[qW] at hx;unfold IZ;rw[qZ]; intro x hx2; simp only[hx x hx2]; simp
    simp [this]
 refine acN Tryz.func257 rfl ?_;show awp _ _ _ _ _ (EN _ [.tmp 4] _);simp -implicitDefEqProofs only[BC,BP,BA,A8,AY,BB,AO,AQ,AL,BD,AX,AC,AA,AZ,AU,BH,BG,A7,DZ,AB,BF,↓reduceIte,jA,jB,jC,enP,ABX,jI];refine DK (fun n F H=>∃k,n+k=xs.length∧F 0=.sl m 1 (xs.map encStr)∧F 1=.str v∧F 7=.int .i64 xs.length∧F 8=.int .i64 (k:Nat)∧H=h∧(xs.take k).all (fun u => !(v.toList==u.toList))=true) xs.length ⟨0,by simp,rfl,rfl,rfl,rfl,rfl,rfl⟩ ?_;rintro n F H ⟨k,hk,f0,f1,f7,f8,rfl,hin⟩;simp -implicitDefEqProofs only[BC,BA,BI,A8,AY,BB,AO,AQ,AL,BD,AX,AC,AA,AZ,BR,AB,CZ,↓reduceIte,jB,jC,enP,f0,f1,f7,f8,jI];refine CV (fun hc=>?_) (fun hc=>?_)
 .have hc':k<xs.length:=by simpa using hc
  simp -implicitDefEqProofs only[BC,BP,BA,BO,BI,A8,AY,BB,AO,AQ,AL,BD,AX,AC,AA,AZ,BG,A7,BQ,BR,CE,AB,MM,↓reduceIte,jA,jB,jC,enP,AGR,f0,f1,f7,f8,DU hc',DF ag9 hc',encStr0];refine CV (fun hb=>?_) (fun hb=>?_)
  .simp -implicitDefEqProofs only[BC,BA,BK,A8,CP,EE,FQ,CG,AY,BB,AO,AQ,AL,BD,AX,AC,AA,AZ,BG,A7,↓reduceIte,jA,jB,jC]
   refine⟨?_,trivial⟩
   rw[qV.2 ⟨hc',hb,fun j hj=>by
    rw[zI] at hin;have:=hin xs[j] (by rw[List.mem_take_iff_getElem]; exact⟨j,by omega,rfl⟩)
    simpa using this⟩]
  .simp -implicitDefEqProofs only[BA,BO,A8,EJ,EQ,AY,BB,AO,AQ,AL,BD,AX,AC,AA,AZ,AU,BH,BG,BR,AB,C9,↓reduceIte,jA,jB,jC,enP,f8,wrap_succ (show k<9223372036854775807 by omega)]
   refine⟨n-1,by omega,k+1,by omega,f0,f1,f7,rfl,trivial,?_⟩;rw[zL hc',List.all_append,hin];simp only[List.all_cons,List.all_nil,hb]; rfl
 .have hc':¬k<xs.length:=by simpa using hc
  simp -implicitDefEqProofs only[BC,BA,BK,DJ,A8,EG,EU,ET,CG,AY,BB,AO,AQ,AL,BD,AX,AC,AA,AU,BH,A7,↓reduceIte,jB,jC];refine⟨?_,trivial⟩;rw[jX (by omega)] at hin
  rw[qW.2 (by
   intro x hx;rw[zI] at hin
   simpa using hin x hx)]
theorem AF4 (G:Nat->AV)(xs:List ByteArray)(m:SM)(v:ByteArray)(h:Hp)(hl:xs.length<=1099511627776) :
  PCall (En G) 229 [.sl m 1 (xs.map encStr),.str v] h (.bool (IZ xs v)):=by
 obtain⟨i,hi,hp⟩:=AM8 G xs m v h hl;refine acN Tryz.func229 rfl ?_;show awp _ _ _ _ _ (EN _ [.tmp 4] _);simp -implicitDefEqProofs only[BC,BA,A8,AY,BB,AO,AQ,AL,BD,AX,AC,AA,AZ,AU,BZ,BM,BG,A7,CB,BU,BF,BN,jD,jE,jF,↓reduceIte,jA,jB,jC,enP];refine hp.use ?_;simp -implicitDefEqProofs only[BK,A8,CG,AY,BB,AO,AQ,AL,BD,AX,AC,AA,AZ,AU,BH,A7,BR,AB,G6,↓reduceIte,jB,jC,enP];exact⟨by rw[hi],trivial⟩
def kw:List ByteArray:=[⟨#[99,108,97,115,115]⟩,⟨#[101,120,116,101,110,100,115]⟩,⟨#[114,97,110,100]⟩,⟨#[114,97,110,100,99]⟩,⟨#[115,116,97,116,101]⟩,⟨#[99,111,110,115,116,114,97,105,110,116]⟩,⟨#[115,111,102,116]⟩,⟨#[100,105,115,116]⟩,⟨#[105,102]⟩,⟨#[101,108,115,101]⟩,⟨#[101,97,99,104]⟩,⟨#[105,110]⟩,⟨#[115,111,108,118,101]⟩,⟨#[98,101,102,111,114,101]⟩,⟨#[105,110,115,105,100,101]⟩,⟨#[112,114,111,112,101,114,116,121]⟩,⟨#[115,101,113]⟩,⟨#[97,110,100]⟩,⟨#[111,114]⟩,⟨#[110,111,116]⟩,⟨#[115,101,116]⟩,⟨#[104,111,108,100]⟩,⟨#[112,108,97,105,110]⟩,⟨#[114,101,112,101,97,116]⟩]
theorem AUI:kw.length=24:=rfl
theorem AIB (G:Nat->AV)(h:Hp):PCall (En G) 244 [] h (.sl .full 1 (kw.map encStr)):=by
 refine acN Tryz.func244 rfl ?_;show awp _ _ _ _ _ (EN _ [.tmp 0] _);simp -implicitDefEqProofs only[EZ,FW,BC,BA,A8,AY,BB,AO,AQ,AL,BD,AX,AC,AU,JL,IY,A7,EP,jB,jC,enP];refine H9 (v:=.sl .full 1 (kw.map encStr)) (h:=h) (by kernel_rfl) ?_;simp -implicitDefEqProofs only[BK,A8,CG,AY,BB,AO,AQ,AL,BD,AX,AC,AA,AZ,A7,↓reduceIte,jB,jC];exact⟨trivial,trivial⟩
theorem AFY (G:Nat->AV)(v:ByteArray)(h:Hp):PCall (En G) 214 [.str v] h (.bool (IZ kw v)):=by
 refine acN Tryz.func214 rfl ?_;show awp _ _ _ _ _ (EN _ [.tmp 2] _);simp -implicitDefEqProofs only[BC,BA,A8,AY,BB,AO,AQ,AL,BD,AX,AC,AU,BZ,BM,A7,CB,BU,jE,jF,jB,jC,enP];refine(AIB G h).use ?_;simp -implicitDefEqProofs only[AY,AO,AQ,AL,BD,AX,AC,AA,AZ,BZ,BG,CB,BU,BF,jD,jE,jF,↓reduceIte,jA,jB,jC];refine(has_ref G kw .full v h (by rw[AUI]; omega)).use ?_;simp -implicitDefEqProofs only[BK,A8,CG,AY,BB,AO,AQ,AL,BD,AX,AC,AA,AZ,A7,↓reduceIte,jB,jC];exact⟨trivial,trivial⟩
def KwG (G:Nat->AV):Prop:=∃m,G 0=.fptr 1 [[.sl m 1 (kw.map encStr)]] 0 0
theorem AEF (G:Nat->AV)(hG:KwG G)(v:ByteArray)(h:Hp):PCall (En G) 195 [.str v] h (.bool (IZ kw v)):=by
 obtain⟨m,hg⟩:=hG;refine acN Tryz.func195 rfl ?_;show awp _ _ _ _ _ (EN _ [.tmp 2] _);have e:ED Tryz.prog h 179 (G 0)=some (.sl m 1 (kw.map encStr)):=by rw[hg]; exact AUA AHH rfl rfl
 have hl:kw.length<=1099511627776:=by rw[AUI]; omega
 simp -implicitDefEqProofs only[BC,BA,A8,AY,BB,AO,AQ,AL,BD,AX,AC,AA,AZ,AU,BZ,AY8,BM,BG,A7,BQ,CB,BU,AB,BF,jD,jE,jF,↓reduceIte,jA,jB,jC,enP,enG,e];refine(AF4 G kw m v h hl).use ?_;simp -implicitDefEqProofs only[BK,A8,CG,AY,BB,AO,AQ,AL,BD,AX,AC,AA,AZ,A7,↓reduceIte,jB,jC];exact⟨trivial,trivial⟩
def TZ (s:ByteArray):Bool:=(match s.data.toList with|[]=>false|b::_=>SY b.toNat)&&s.data.toList.all fun b=>OJ b.toNat
def IE (s:ByteArray):Bool:=TZ s&&decide (s.size<=16) && !IZ kw s
theorem AA4 {n:Int}(h:OJ n=true):n<128:=by
 simp only[OJ,SY,ALS,Bool.or_eq_true,jV,decide_eq_true_eq,beq_iff_eq] at h;omega
theorem AXT (h:Hp)(s:ByteArray):ABL Tryz.prog h 9 (.str s)=some (.ptr h.length 0 0,h++[.iter s 0]):=by
 have:Tryz.prog.underlying 9=some .string:=by kernel_rfl
 simp [ABL,this]
theorem AYC {h:Hp}{s:ByteArray}{pos:Nat}(hp:pos<s.size):ACG (h++[.iter s pos]) (.ptr h.length 0 0) true=some (.tup [.bool true,.int .i64 pos,.int .i32 (Utf8.decode s pos).1],h++[.iter s (pos+(Utf8.decode s pos).2)]):=by
 simp [ACG,hp]
theorem AT5 {h:Hp}{s:ByteArray}{pos:Nat}(hp:¬pos<s.size):ACG (h++[.iter s pos]) (.ptr h.length 0 0) true=some (.tup [.bool false],h++[.iter s pos]):=by
 simp [ACG,hp]
theorem U1 {s:ByteArray}{k:Nat}(hk:k<s.size)(hb:OJ (s[k]'hk).toNat=false):TZ s=false:=by
 unfold TZ
 have:(s.data.toList.all fun b=>OJ b.toNat)=false:=by
  rw[List.all_eq_false];exact⟨s[k],Array.getElem_mem_toList (xs:=s.data) hk,by simp [hb]⟩
 rw[this]; simp
theorem ABN {s:ByteArray}(hk:0<s.size)(hb:SY (s[0]'hk).toNat=false):TZ s=false:=by
 unfold TZ
 have:(match s.data.toList with|[]=>false|b::_=>SY b.toNat)=false:=by
  cases hl:s.data.toList with
  | nil=>rfl
  | cons b l =>
    have h0:s[0]'hk=b:=by
     have:s.data.toList[0]?=some b:=by rw[hl]; rfl
     have h2:s.data[0]?=some b:=by rw[<-Array.getElem?_toList]; exact this
     have hk':0<s.data.size:=hk;rw[Array.getElem?_eq_getElem hk'] at h2;exact Option.some.inj h2
    simp only;rw[<-h0]; exact hb
 rw[this]; simp
theorem AJP {s:ByteArray}(hk:0<s.size)(hb:SY (s[0]'hk).toNat=true)(ha:∀i (hi:i<s.size),OJ (s[i]'hi).toNat=true):TZ s=true:=by
 unfold TZ
 have h1:(match s.data.toList with|[]=>false|b::_=>SY b.toNat)=true:=by
  cases hl:s.data.toList with
  | nil =>
    have:s.data.toList.length=0:=by rw[hl]; rfl
    have h2:s.data.size=0:=by simpa using this
    have h3:s.size=s.data.size:=rfl;omega
  | cons b l =>
    have h0:s[0]'hk=b:=by
     have:s.data.toList[0]?=some b:=by rw[hl]; rfl
     have h2:s.data[0]?=some b:=by rw[<-Array.getElem?_toList]; exact this
     have hk':0<s.data.size:=hk;rw[Array.getElem?_eq_getElem hk'] at h2;exact Option.some.inj h2
    simp only;rw[<-h0]; exact hb
 rw[h1,Bool.true_and,zI];intro b hbm;obtain⟨i,hi,rfl⟩:=List.getElem_of_mem hbm;have hi':i<s.size:=by simpa using hi
 exact ha i hi'
theorem AQJ (G:Nat->AV)(s:ByteArray)(h:Hp)(hl:s.size<=1099511627776):PCall (En G) 194 [.str s] h (.bool (TZ s)):=by
 refine ACalls.pure0 rfl ?_;refine acN Tryz.func194 rfl ?_;show awp _ _ _ _ _ (EN _ [.tmp 2] _);simp -implicitDefEqProofs only[BC,BP,BA,A8,AY,BB,AO,AQ,AL,BD,AX,AC,AA,AZ,AU,BM,BG,A7,AW9,BX,BF,↓reduceIte,jA,jB,jC,enP,AXT];refine DK (fun n F H=>∃k,n+k=s.size∧F 0=.str s∧F 6=.ptr h.length 0 0∧H=h++[.iter s k]∧(∀i (hi:i<s.size),i<k->OJ (s[i]'hi).toNat=true)∧(∀hp:0<s.size,0<k->SY (s[0]'hp).toNat=true)) s.size ⟨0,by simp,rfl,by simp -implicitDefEqProofs only[AA,↓reduceIte],rfl,fun _ _ h=>absurd h (by omega),fun _ h=>absurd h (by omega)⟩ ?_;rintro n F H ⟨k,hk,f0,f6,rfl,hall,h0⟩;rcases Classical.em (k<s.size) with hp|hp
 .have go:∀(r:Nat×Nat),Utf8.decode s k=r->(OJ r.1=true->r=((s[k]'hp).toNat,1)∧OJ (s[k]'hp).toNat=true)∧(OJ r.1=false->TZ s=false)∧(SY r.1=false->k=0->TZ s=false)∧(SY r.1=true->OJ r.1=true):=by
   rintro r rfl;have lf:∀n,SY n=true->OJ n=true:=fun n hn=>by unfold OJ; rw[hn]; rfl
   rcases zO (s[k]'hp).toNat 128 with ha|ha
   .have hd:=decode_ascii s k hp ha
    rw[hd];exact⟨fun hf=>⟨rfl,hf⟩,fun hf=>U1 hp hf,fun hf h0=>by subst h0; exact ABN hp hf,lf _⟩
   .have hd:=(decode_high s k hp ha).1
    refine⟨fun hf=>?_,fun _=>?_,fun _ h0=>?_,lf _⟩
    .have:=AA4 hf; omega
    .refine U1 hp ?_
     cases hf:OJ (s[k]'hp).toNat with
     | false=>rfl
     | true=>have:=AA4 hf; omega
    .refine U1 hp ?_
     cases hf:OJ (s[k]'hp).toNat with
     | false=>rfl
     | true=>have:=AA4 hf; omega
  simp -implicitDefEqProofs only[zB,List.getElem?_cons_succ,BC,BP,BA,BO,BI,A8,DI,AY,BB,BL,BV,CO,AO,AQ,AL,BD,AX,AC,AA,AZ,AU,BH,BG,A7,BR,ASY,FK,GN,BX,AB,D7,↓reduceIte,jA,jB,jC,enP,f0,f6,AYC hp];generalize hr:Utf8.decode s k=r at go;obtain⟨g1,g2,g3,g4⟩:=go r rfl
  have done:∀H',OJ r.1=true->(k=0->SY r.1=true)->H'=h++[ABlk.iter s (k+r.2)]->∃m,m<n∧∃k',m+k'=s.size∧H'=h++[.iter s k']∧(∀i (hi:i<s.size),i<k'->OJ (s[i]'hi).toNat=true)∧(∀hp:0<s.size,0<k'->SY (s[0]'hp).toNat=true):=by
   intro H' hf hlw hH;obtain⟨e1,e2⟩:=g1 hf;refine⟨n-1,by omega,k+1,by omega,by rw[hH,e1],fun i hi hik=>?_,fun hp0 _=>?_⟩
   .rcases zO i k with h'|h'
    .exact hall i hi h'
    .have:i=k:=by omega
     subst this; exact e2
   .rcases qX k with h'|h'
    .subst h'; have:=hlw rfl; rw[e1] at this; exact this
    .exact h0 hp0 h'
  refine IK (fun ha=>?_) (fun ha=>?_)
  .have hk0:k=0:=by simp at ha; omega
   simp -implicitDefEqProofs only[BL,BV,CO,GH,AO,AQ,AL,BD,AX,AC,AA,AZ,BZ,BG,CB,BU,jD,jE,jF,↓reduceIte,jA,jB,jC,ha];refine(AEB G _ _).use ?_;simp -implicitDefEqProofs only[AY,BL,BV,CO,GH,AO,AQ,AL,BD,AX,AC,AA,AZ,AU,BM,BG,CQ,DY,IG,AB,FI,↓reduceIte,jA,jB,jC];refine IK (fun hb=>?_) (fun hb=>?_)
   .simp -implicitDefEqProofs only[BC,BA,BK,BI,A8,CP,EE,FQ,CG,DI,AY,BB,BL,BV,CO,F7,AO,AQ,AL,BD,AX,AC,AA,EW,AZ,AU,BM,A7,CQ,DY,↓reduceIte,jA,jB,jC,hb]
    have hlw:SY r.1=false:=by simpa using hb
    exact⟨by rw[g3 hlw hk0],_,rfl⟩
   have hlw:SY r.1=true:=by simpa using hb
   simp -implicitDefEqProofs only[BL,BV,CO,ES,AO,AQ,AL,BD,AX,AC,AA,AZ,BZ,BG,CB,BU,jD,jE,jF,↓reduceIte,jA,jB,jC,hb];refine(ZW G _ _).use ?_;simp -implicitDefEqProofs only[BI,A8,AY,BB,BL,BV,CO,ES,AO,AQ,AL,BD,AX,AC,AA,AZ,AU,BM,CQ,DW,IG,AB,FI,↓reduceIte,jA,jB,jC];have hf:=g4 hlw;simp -implicitDefEqProofs only[BO,EJ,EQ,DR,AA,↓reduceIte,jA,Bool.not_true,hf];obtain⟨m,h1,k',h2,h3,h4,h5⟩:=done _ hf (fun _=>hlw) rfl;exact⟨m,h1,k',h2,f0,f6,h3,h4,h5⟩
  .have hk0:k≠0:=by intro e; subst e; simp at ha
   simp -implicitDefEqProofs only[AY,BL,BV,CO,ES,IU,AO,AQ,AL,BD,AX,AC,AA,EW,AZ,AU,BZ,BM,BG,CQ,DW,CB,BU,jD,jE,jF,↓reduceIte,jA,jB,jC,ha];refine(ZW G _ _).use ?_;simp -implicitDefEqProofs only[BI,A8,AY,BB,BL,BV,CO,ES,AO,AQ,AL,BD,AX,AC,AA,AZ,AU,BM,CQ,DW,IG,AB,FI,↓reduceIte,jA,jB,jC];refine CV (fun hb=>?_) (fun hb=>?_)
   .have hf:OJ r.1=false:=by simpa using hb
    simp -implicitDefEqProofs only[BC,BA,BK,A8,CP,EE,FQ,CG,AY,BB,AO,AQ,AL,BD,AX,AC,AA,AU,BM,A7,↓reduceIte,jB,jC];exact⟨by rw[g2 hf],_,rfl⟩
   .have hf:OJ r.1=true:=by simpa using hb
    simp -implicitDefEqProofs only[BO,EJ,EQ,AA,↓reduceIte,jA];obtain⟨m,h1,k',h2,h3,h4,h5⟩:=done _ hf (fun e=>absurd e hk0) rfl;exact⟨m,h1,k',h2,f0,f6,h3,h4,h5⟩
 .simp -implicitDefEqProofs only[zB,BC,BA,BK,DJ,BI,A8,EG,EU,ET,CG,DR,AY,BB,AO,AQ,AL,BD,AX,AC,AA,AZ,AU,JL,BG,A7,BR,ASY,FK,GN,BX,AB,AFB,↓reduceIte,jA,jB,jC,enP,f0,f6,AT5 hp]
  have hks:k=s.size:=by omega
  refine⟨?_,_,rfl⟩;congr 1;rcases qX s.size with hz|hz
  .have:s=⟨#[]⟩:=by
    obtain⟨d⟩:=s;have:d.size=0:=hz;rw[Array.eq_empty_of_size_eq_zero this]
   subst this;rw[ByteArray.toList_eq];rfl
  .rw[AJP hz (h0 hz (by omega)) (fun i hi=>hall i hi (by omega))]
   have hne:s.toList≠[]:=by
    rw[ByteArray.toList_eq];intro e;have:s.data.toList.length=0:=by rw[e]; rfl
    have h2:s.data.size=0:=by simpa using this
    have h3:s.size=s.data.size:=rfl;omega
   cases hl2:s.toList with
   | nil=>exact absurd hl2 hne
   | cons=>rw[ByteArray.toList_eq]; rfl
theorem OY (G:Nat->AV)(hG:KwG G)(s:ByteArray)(h:Hp)(hl:s.size<=1099511627776):PCall (En G) 150 [.str s] h (.bool (IE s)):=by
 refine acN Tryz.func150 rfl ?_;show awp _ _ _ _ _ (EN _ [.tmp 2] _);simp -implicitDefEqProofs only[BC,BA,A8,AY,BB,AO,AQ,AL,BD,AX,AC,AA,AZ,AU,BZ,BM,BG,A7,CB,BU,BF,jD,jE,jF,↓reduceIte,jA,jB,jC,enP];refine(AQJ G s h hl).use ?_;simp -implicitDefEqProofs only[AY,BL,BV,CO,AO,AQ,AL,BD,AX,AC,AA,AZ,BG,↓reduceIte,jB,jC];refine IK (fun ha=>?_) (fun ha=>?_)
 .simp -implicitDefEqProofs only[AY,BL,BV,CO,GH,AO,AQ,AL,BD,AX,AC,AA,AZ,AU,BH,BM,BG,CQ,DY,BR,DZ,AB,JA,BF,↓reduceIte,jA,jB,jC,enP,ln9,ha]
  refine IK (fun hb=>?_) (fun hb=>?_)
  .simp -implicitDefEqProofs only[BL,BV,CO,GH,AO,AQ,AL,BD,AX,AC,AA,AZ,BZ,BG,CB,BU,BF,jD,jE,jF,↓reduceIte,jA,jB,jC,hb]
   refine(AEF G hG s h).use ?_;simp -implicitDefEqProofs only[BK,A8,CG,AY,BB,BL,BV,CO,GH,AO,AQ,AL,BD,AX,AC,AA,AZ,AU,BM,A7,CQ,DY,IG,AB,FI,↓reduceIte,jA,jB,jC];refine⟨?_,trivial⟩
   have:decide (s.size<=16)=true:=by simp at hb|-; omega
   unfold IE; rw[ha,this]; rfl
  .simp -implicitDefEqProofs only[BK,A8,CG,AY,BB,BL,BV,CO,IU,AO,AQ,AL,BD,AX,AC,AA,EW,AZ,AU,BM,A7,CQ,DW,↓reduceIte,jA,jB,jC,hb]
   refine⟨?_,trivial⟩
   have:decide (s.size<=16)=false:=by simp at hb|-; omega
   unfold IE; rw[ha,this]; rfl
 .simp -implicitDefEqProofs only[BK,A8,CG,AY,BB,BL,BV,CO,IU,AO,AQ,AL,BD,AX,AC,AA,EW,AZ,AU,BM,BG,A7,CQ,DW,↓reduceIte,jA,jB,jC,ha]
  exact⟨by unfold IE; rw[ha]; rfl,trivial⟩
theorem ix9 (s:ByteArray)(k:Nat)(kk:IntKind)(hk:k<s.size):OT Tryz.prog 9 (.str s) (.int kk (k:Int))=some (.int .u8 (s[k]'hk).toNat):=by
 have hu:Tryz.prog.underlying 9=some .string:=by kernel_rfl
 have h0:(0:Int)<=(k:Int):=by omega
 have:s[k]?=some (s[k]'hk):=by simp [hk]
 simp [OT,hu,h0,this]
theorem PV (G:Nat->AV)(s:ByteArray)(h:Hp):PCall (En G) 160 [.str s] h (.bool (IE s)):=by
 refine acN Tryz.func160 rfl ?_;show awp _ _ _ _ _ (EN _ [.tmp 2] _);simp -implicitDefEqProofs only[BC,BA,A8,AY,BB,BL,BV,CO,AO,AQ,AL,BD,AX,AC,AA,AZ,AU,BM,JL,BG,A7,BR,AB,MM,BF,↓reduceIte,jA,jB,jC,enP];refine IK (fun ha=>?_) (fun ha=>?_)
 .simp -implicitDefEqProofs only[BC,BA,BK,BI,A8,CP,CG,DI,AY,BB,BL,BV,CO,F7,AO,AQ,AL,BD,AX,AC,AA,EW,AZ,AU,BM,BG,A7,CQ,DY,↓reduceIte,jA,jB,jC,ha]
  refine⟨?_,trivial⟩
  have:s.data.toList=[]:=by
   rw[ByteArray.toList_eq,ByteArray.toList_eq] at ha;have:=beq_iff_eq.1 ha;exact this
  unfold IE TZ; rw[this]; rfl
 have hz:0<s.size:=by
  rcases qX s.size with hz|hz
  .have:s=⟨#[]⟩:=by
    obtain⟨d⟩:=s;have:d.size=0:=hz;rw[Array.eq_empty_of_size_eq_zero this]
   rw[this] at ha;simp at ha
  .exact hz
 simp -implicitDefEqProofs only[AY,BL,BV,CO,ES,AO,AQ,AL,BD,AX,AC,AA,AZ,AU,BH,BM,BG,CQ,DW,BR,DZ,AB,FV,BF,↓reduceIte,jA,jB,jC,enP,ln9,ha];refine IK (fun hb=>?_) (fun hb=>?_)
 .simp -implicitDefEqProofs only[BC,BA,BK,BI,A8,CP,CG,DI,AY,BB,BL,BV,CO,F7,AO,AQ,AL,BD,AX,AC,AA,EW,AZ,AU,BM,BG,A7,CQ,DY,↓reduceIte,jA,jB,jC,hb]
  refine⟨?_,trivial⟩
  have:decide (s.size<=16)=false:=by simp at hb|-; omega
  unfold IE; rw[this]; simp
 have h16:decide (s.size<=16)=true:=by simp at hb|-; omega
 simp -implicitDefEqProofs only[BL,BV,CO,ES,AO,AQ,AL,BD,AX,AC,AA,AZ,AU,BH,BG,O4,BF,↓reduceIte,jA,jB,jC,enP,hb];refine H9 (v:=.int .u8 (s[0]'hz).toNat) (h:=h) (by rw[show(0:Int)=((0:Nat):Int) from rfl,ix9 s 0 .i64 hz]; rfl) ?_;simp -implicitDefEqProofs only[BL,BV,CO,ES,AO,AQ,AL,BD,AX,AC,AA,AZ,BZ,CB,BU,jD,jE,jF,↓reduceIte,jA,jB,jC];refine(AGH G _ h).use ?_;simp -implicitDefEqProofs only[AY,BL,BV,CO,ES,AO,AQ,AL,BD,AX,AC,AA,AZ,AU,BM,BG,CQ,DW,IG,AB,FI,↓reduceIte,jA,jB,jC];refine IK (fun hc=>?_) (fun hc=>?_)
 .simp -implicitDefEqProofs only[BC,BA,BK,BI,A8,CP,CG,DI,AY,BB,BL,BV,CO,F7,AO,AQ,AL,BD,AX,AC,AA,EW,AZ,AU,BM,A7,CQ,DY,↓reduceIte,jA,jB,jC,hc]
  refine⟨?_,trivial⟩;unfold IE; rw[ABN hz (by simpa using hc)]; rfl
 simp -implicitDefEqProofs only[BL,BV,CO,ES,AO,AQ,AL,BD,AX,AC,AA,AZ,BZ,BG,CB,BU,BF,jD,jE,jF,↓reduceIte,jA,jB,jC,hc];refine(AFY G s h).use ?_;simp -implicitDefEqProofs only[BI,A8,AY,BB,AO,AQ,AL,BD,AX,AC,AA,AZ,AU,BM,CQ,DW,↓reduceIte,jA,jB,jC];refine CV (fun hd=>?_) (fun hd=>?_)
 .simp -implicitDefEqProofs only[BC,BA,BK,A8,CP,CG,AY,BB,AO,AQ,AL,BD,AX,AC,AA,AU,BM,A7,↓reduceIte,jB,jC]
  refine⟨?_,trivial⟩;unfold IE; rw[hd]; simp
 simp -implicitDefEqProofs only[BC,BP,BA,BO,A8,AY,BB,AO,AQ,AL,BD,AX,AC,AU,BH,A7,jB,jC];have hlow:SY (s[0]'hz).toNat=true:=by simpa using hc
 refine DK (fun n F H=>∃k,n+k=s.size∧F 0=.str s∧F 3=.int .i64 (k:Nat)∧H=h∧(∀i (hi:i<s.size),i<k->OJ (s[i]'hi).toNat=true)) s.size ⟨0,by simp,by simp -implicitDefEqProofs only[AA,BF,↓reduceIte,jA],by simp -implicitDefEqProofs only[AA,↓reduceIte]; rfl,rfl,fun _ _ h=>absurd h (by omega)⟩ ?_;rintro n F H ⟨k,hk,f0,f3,rfl,hall⟩;simp -implicitDefEqProofs only[BC,BA,BI,A8,AY,BB,AO,AQ,AL,BD,AX,AC,AA,AZ,BG,BR,DZ,AB,CZ,↓reduceIte,jA,jB,jC,enP,ln9,f0,f3];refine CV (fun he=>?_) (fun he=>?_)
 .have hk':k<s.size:=by simpa using he
  simp -implicitDefEqProofs only[BC,BP,BA,BO,A8,AY,AO,AQ,AL,BD,AX,AC,AA,AZ,BZ,BG,O4,CB,BU,AB,jD,jE,jF,↓reduceIte,jA,jB,jC,enP,f0,f3,ix9 s k .i64 hk'];refine(ARI G _ _).use ?_;simp -implicitDefEqProofs only[BI,A8,AY,BB,AO,AQ,AL,BD,AX,AC,AA,AZ,IG,AB,FI,↓reduceIte,jB,jC];refine CV (fun hf=>?_) (fun hf=>?_)
  .simp -implicitDefEqProofs only[BC,BA,BK,A8,CP,EE,FQ,CG,AY,BB,AO,AQ,AL,BD,AX,AC,AA,AU,BM,A7,↓reduceIte,jB,jC]
   refine⟨?_,trivial⟩;unfold IE; rw[U1 hk' (by simpa using hf)]; rfl
  .simp -implicitDefEqProofs only[BA,BO,A8,EJ,EQ,AY,BB,AO,AQ,AL,BD,AX,AC,AA,AZ,AU,BH,BG,A7,BR,AB,C9,↓reduceIte,jA,jB,jC,enP,f3,wrap_succ (show k<9223372036854775807 by simp at h16; omega)]
   refine⟨n-1,by omega,k+1,by omega,f0,rfl,trivial,fun i hi hik=>?_⟩;rcases zO i k with h'|h'
   .exact hall i hi h'
   .have:i=k:=by omega
    subst this; simpa using hf
 .have hk':¬k<s.size:=by simpa using he
  simp -implicitDefEqProofs only[BC,BA,BK,DJ,A8,EG,EU,ET,CG,AY,BB,AO,AQ,AL,BD,AX,AC,AA,AU,BM,A7,↓reduceIte,jB,jC];refine⟨?_,trivial⟩;unfold IE;rw[AJP hz hlow (fun i hi=>hall i hi (by omega)),h16,hd]; rfl
def KA (b:Bin):Bool :=
 decide (b.kind<0)||decide (b.kind>2)||(decide ((b.ranges.l.length:Int)>0)==decide ((b.steps.length:Int)>0))||(b.kind != 0&&decide ((b.steps.length:Int)>0))||((b.steps.length:Int)==1)||decide ((b.steps.length:Int)>8)
def IC (b:Bin):Int :=
 if IE b.name then if KA b then 1 else if b.steps.any (fun l=>decide (l.l.length=0)) then 1 else
  if(sets b).any (fun l=>decide (l.l.length>64)) then 2 else if(sets b).any (fun l=>l.l.any bad) then 1 else 0
 else 7
def shape (b:Bin):Bool :=
 if(b.kind != 0&&b.kind != 1&&b.kind != 2) then false else if((b.steps.length:Int)==0) then decide ((b.ranges.l.length:Int)>0) else
  if(decide ((b.ranges.l.length:Int)>0)||b.kind != 0||decide ((b.steps.length:Int)<2)||decide ((b.steps.length:Int)>8)) then false else !(b.steps.any (fun l=>decide (l.l.length=0)))
theorem AMN:∀(n p z o t r s0 s1 s8 E:Bool),((n||p||z||o||t) && !(n&&p) && !(n&&z) && !(n&&o) && !(n&&t) && !(p&&z) && !(p&&o) && !(p&&t) && !(z&&o) && !(z&&t) && !(o&&t) && !(s0&&s1) && !(s0&&s8) && !(s1&&s8) && !(s0&&E))=true ->
 (if(!z && !o && !t) then false else if s0 then r else if(r || !z||(s0||s1)||s8) then false else !E)=(!(n||p||(r == !s0)||(!z && !s0)||s1||s8) && !E):=by decide +kernel
theorem AQT (k r s:Int)(E:Bool)(hs:0<=s)(hE:s=0->E=false) :
  (if(k != 0&&k != 1&&k != 2) then false else if(s==0) then decide (r>0) else if(decide (r>0)||k != 0||decide (s<2)||decide (s>8)) then false else !E) =
  (!(decide (k<0)||decide (k>2)||(decide (r>0)==decide (s>0))||(k != 0&&decide (s>0))||(s==1)||decide (s>8)) && !E):=by
 have h1:decide (s>0) = !(s==0):=by rw[qN]; simp; omega
 have h2:decide (s<2)=((s==0)||(s==1)):=by rw[qN]; simp; omega
 rw[h1,h2];have key:=AMN (decide (k<0)) (decide (k>2)) (k==0) (k==1) (k==2) (decide (r>0)) (s==0) (s==1) (decide (s>8)) E ?_
 .exact key
 .have a1:(decide (k<0)||decide (k>2)||(k==0)||(k==1)||(k==2))=true:=by simp; omega
  have no:∀(p q:Prop) [Decidable p] [Decidable q],¬(p∧q)->(!(decide p&&decide q))=true:=by
   intro p q _ _ h; by_cases hp:p<;>by_cases hq:q<;>simp_all
  have e0:(s==0&&E)=false:=by
   by_cases hz:s=0
   .rw[hE hz]; simp
   .simp [hz]
  have b0:(k==0)=decide (k=0):=rfl;have b1:(k==1)=decide (k=1):=rfl;have b2:(k==2)=decide (k=2):=rfl;have c0:(s==0)=decide (s=0):=rfl;have c1:(s==1)=decide (s=1):=rfl;rw[e0]
  rw[b0,b1,b2] at a1|-
  rw[c0,c1,a1,no _ _ (show ¬(k<0∧k>2) by omega),no _ _ (show ¬(k<0∧k=0) by omega),no _ _ (show ¬(k<0∧k=1) by omega),no _ _ (show ¬(k<0∧k=2) by omega),
   no _ _ (show ¬(k>2∧k=0) by omega),no _ _ (show ¬(k>2∧k=1) by omega),no _ _ (show ¬(k>2∧k=2) by omega),no _ _ (show ¬(k=0∧k=1) by omega),no _ _ (show ¬(k=0∧k=2) by omega),no _ _ (show ¬(k=1∧k=2) by omega),
   no _ _ (show ¬(s=0∧s=1) by omega),no _ _ (show ¬(s=0∧s>8) by omega),no _ _ (show ¬(s=1∧s>8) by omega)]
  rfl
theorem AJ4 (b:Bin):shape b=(!KA b && !(b.steps.any (fun l=>decide (l.l.length=0)))) :=
 AQT b.kind b.ranges.l.length b.steps.length _ (by omega) (fun h=>by
  have:b.steps=[]:=List.eq_nil_of_length_eq_zero (by omega)
  rw[this]; rfl)
theorem AMM (G:Nat->AV)(b:Bin)(h:Hp)(hl:b.steps.length<=1099511627776):PCall (En G) 201 [.agg (GV b)] h (.bool (shape b)):=by
 refine ACalls.pure0 rfl ?_;refine acN Tryz.func201 rfl ?_;show awp _ _ _ _ _ (EN _ [.tmp 2] _);simp -implicitDefEqProofs only[BC,BP,BA,A8,AY,BB,BL,BV,CO,AO,AQ,AL,BD,AX,AC,AA,AZ,AU,BH,BM,BG,A7,FU,BQ,BR,BJ,DZ,BX,AB,EK,BF,↓reduceIte,jA,jG,jB,jC,enP,SA,MR,OO,bxB,DL VL,DL PN,DL ag3,UR,AB7,VJ,jI];refine SX (fun F H=>F 7=.bool (b.kind != 0&&b.kind != 1&&b.kind != 2)∧F 1=.ptr h.length 0 0∧F 3=.int .i64 b.steps.length∧H=h++[.live 4 [GV b]]) ?_ ?_
 .refine IK (fun ha=>?_) (fun ha=>?_)
  .simp -implicitDefEqProofs only[AY,BL,BV,CO,GH,AO,AQ,AL,BD,AX,AC,AA,AZ,AU,BH,BM,BG,CQ,DY,BQ,BR,BJ,AB,EK,↓reduceIte,jA,jG,jB,jC,enP,MR,ha,DL ag3,UR]
   refine IK (fun hb=>?_) (fun hb=>?_)
   .simp -implicitDefEqProofs only[AY,BB,BL,BV,CO,GH,AO,AQ,AL,BD,AX,AC,AA,AZ,AU,BH,BM,A7,CQ,DY,BQ,BR,BJ,AB,EK,↓reduceIte,jA,jG,jB,jC,enP,MR,hb,DL ag3,UR]
    exact⟨rfl,trivial,trivial,trivial⟩
   .simp -implicitDefEqProofs only[AY,BB,BL,BV,CO,IU,AO,AQ,AL,BD,AX,AC,AA,EW,AZ,AU,BM,A7,CQ,DW,↓reduceIte,jA,jB,jC,hb]
    exact⟨rfl,trivial,trivial,trivial⟩
  .simp -implicitDefEqProofs only[AY,BB,BL,BV,CO,IU,AO,AQ,AL,BD,AX,AC,AA,EW,AZ,AU,BM,BG,A7,CQ,DW,↓reduceIte,jA,jB,jC,ha]
   exact⟨rfl,trivial,trivial,trivial⟩
 rintro F H ⟨f7,f1,f3,rfl⟩;simp -implicitDefEqProofs only[BI,A8,AZ,f7,f1,f3];refine CV (fun hk=>?_) (fun hk=>?_)
 .simp -implicitDefEqProofs only[BC,BA,BK,A8,CP,EE,CG,AY,BB,AO,AQ,AL,BD,AX,AC,AA,AU,BM,A7,↓reduceIte,jB,jC]
  exact⟨by unfold shape; rw[if_pos hk],_,rfl⟩
 have hk':¬(b.kind != 0&&b.kind != 1&&b.kind != 2)=true:=by rw[hk]; simp
 simp -implicitDefEqProofs only[BC,BA,BI,A8,AY,BB,AO,AQ,AL,BD,AX,AC,AA,AZ,AU,BH,BG,A7,BR,AB,D7,↓reduceIte,jB,jC,enP,f1,f3];refine CV (fun hs=>?_) (fun hs=>?_)
 .simp -implicitDefEqProofs only[BC,BA,BK,A8,CP,EE,CG,AY,BB,AO,AQ,AL,BD,AX,AC,AA,AZ,AU,BH,A7,BQ,BR,BJ,DZ,AB,FV,↓reduceIte,jA,jG,jB,jC,enP,TG,Q4,f1,DL PN,AB7,jI]
  exact⟨by unfold shape; rw[if_neg hk',if_pos hs],_,rfl⟩
 have hs':¬((b.steps.length:Int)==0)=true:=by rw[hs]; simp
 simp -implicitDefEqProofs only[BC,BA,AY,BL,BV,CO,AO,AQ,AL,BD,AX,AC,AA,AZ,AU,BH,BG,BQ,BR,BJ,DZ,AB,FV,↓reduceIte,jA,jG,jB,jC,enP,TG,Q4,f1,f3,DL PN,AB7,jI];refine SX (fun F H=>F 28=.bool (decide ((b.ranges.l.length:Int)>0)||b.kind != 0||decide ((b.steps.length:Int)<2)||decide ((b.steps.length:Int)>8))∧F 1=.ptr h.length 0 0∧H=h++[.live 4 [GV b]]) ?_ ?_
 .refine IK (fun ha=>?_) (fun ha=>?_)
  .simp -implicitDefEqProofs only[wC,AY,BB,BL,BV,CO,F7,AO,AQ,AL,BD,AX,AC,AA,EW,AZ,AU,BM,BG,A7,CQ,DY,↓reduceIte,jA,jB,jC,ha,f1]
   exact⟨trivial,trivial,trivial⟩
  simp -implicitDefEqProofs only[qG,AY,BL,BV,CO,ES,AO,AQ,AL,BD,AX,AC,AA,AZ,AU,BH,BM,BG,CQ,DW,BQ,BR,BJ,AB,EK,↓reduceIte,jA,jG,jB,jC,enP,MR,ha,f1,DL ag3,UR];refine IK (fun hb=>?_) (fun hb=>?_)
  .simp -implicitDefEqProofs only[wC,AY,BB,BL,BV,CO,F7,AO,AQ,AL,BD,AX,AC,AA,EW,AZ,AU,BM,BG,A7,CQ,DY,↓reduceIte,jA,jB,jC,hb,f1]
   exact⟨trivial,trivial,trivial⟩
  simp -implicitDefEqProofs only[qG,AY,BL,BV,CO,ES,AO,AQ,AL,BD,AX,AC,AA,AZ,AU,BH,BM,BG,CQ,DW,BR,AB,CZ,↓reduceIte,jA,jB,jC,enP,hb,f1,f3];refine IK (fun hc=>?_) (fun hc=>?_)
  .simp -implicitDefEqProofs only[wC,AY,BB,BL,BV,CO,F7,AO,AQ,AL,BD,AX,AC,AA,EW,AZ,AU,BM,A7,CQ,DY,↓reduceIte,jA,jB,jC,hc,f1]
   exact⟨trivial,trivial,trivial⟩
  .simp -implicitDefEqProofs only[qG,AY,BB,BL,BV,CO,ES,AO,AQ,AL,BD,AX,AC,AA,AZ,AU,BH,BM,BG,A7,CQ,DW,BR,AB,FV,↓reduceIte,jA,jB,jC,enP,hc,f1,f3]
   exact⟨trivial,trivial,trivial⟩
 rintro F H ⟨f28,f1,rfl⟩;simp -implicitDefEqProofs only[BI,A8,AZ,f28,f1];refine CV (fun ho=>?_) (fun ho=>?_)
 .simp -implicitDefEqProofs only[BC,BA,BK,A8,CP,EE,CG,AY,BB,AO,AQ,AL,BD,AX,AC,AA,AU,BM,A7,↓reduceIte,jB,jC]
  exact⟨by unfold shape; rw[if_neg hk',if_neg hs',if_pos ho],_,rfl⟩
 have ho':¬(decide ((b.ranges.l.length:Int)>0)||b.kind != 0||decide ((b.steps.length:Int)<2)||decide ((b.steps.length:Int)>8))=true:=by rw[ho]; simp
 simp -implicitDefEqProofs only[BC,BA,BO,A8,EJ,AY,AO,AQ,AL,BD,AX,AC,AA,AZ,BZ,BQ,BJ,CB,BU,AB,jD,jE,jF,↓reduceIte,jG,jB,jC,enP,OO,f1,DL VL,VJ];refine(AE4 G b.steps b.sm 235 [] (fun l=>decide (l.l.length=0)) _ hl fun r=>AVL G r _).use ?_;simp -implicitDefEqProofs only[BK,A8,CG,AY,BB,AO,AQ,AL,BD,AX,AC,AA,AZ,A7,IG,AB,FI,↓reduceIte,jB,jC];exact⟨by unfold shape; rw[if_neg hk',if_neg hs',if_neg ho'],_,rfl⟩
theorem ABO {b:Bin}(h:IE b.name=false):IC b=7:=by unfold IC; rw[h]; rfl
theorem ZC {b:Bin}(h:IE b.name=true)(hs:KA b=true):IC b=1:=by unfold IC; rw[h,hs]; rfl
theorem ZE {b:Bin}(h:IE b.name=true)(hs:b.steps.any (fun l=>decide (l.l.length=0))=true):IC b=1:=by
 unfold IC; rw[h,hs]; cases KA b<;>rfl
theorem VW {b:Bin}(h:IE b.name=true)(hs:KA b=false)(he:b.steps.any (fun l=>decide (l.l.length=0))=false) :
  IC b=if(sets b).any (fun l=>decide (l.l.length>64)) then 2 else if(sets b).any (fun l=>l.l.any bad) then 1 else 0:=by
 unfold IC; rw[h,hs,he]; rfl
structure BinOk (b:Bin):Prop where
 num:(sets b).length<=1099511627776
 name:b.name.size<=1099511627776
 steps:b.steps.length<=1099511627776
 sets:∀l∈sets b,l.l.length<=1099511627776
theorem AKL (xs:List Rng):decide (JO xs=2)=decide (xs.length>64):=by
 unfold JO;split
 .simp_all
 .split<;>simp_all
theorem ABU (xs:List Rng):decide (JO xs=1)=(decide (¬xs.length>64)&&xs.any bad):=by
 unfold JO;split
 .rename_i h; simp [h]
 .rename_i h
  split
  .rename_i h2; simp only[h2,h]; rfl
  .rename_i h2; simp only[qO] at h2; simp only[h2]; simp
theorem AS1 {b:Bin}(h:IE b.name=true)(hs:KA b=false)(he:b.steps.any (fun l=>decide (l.l.length=0))=false) :
  IC b=if(sets b).any (fun l=>decide (JO l.l=2)) then 2 else if(sets b).any (fun l=>decide (JO l.l=1)) then 1 else 0:=by
 rw[VW h hs he];simp only[AKL];split
 .rfl
 .rename_i hn
  have:(sets b).any (fun l=>decide (JO l.l=1))=(sets b).any (fun l=>l.l.any bad):=by
   rw[qN,qH,qH];constructor
   .rintro⟨l,h1,h2⟩
    rw[ABU] at h2;simp only[jV] at h2;exact⟨l,h1,h2.2⟩
   .rintro⟨l,h1,h2⟩
    refine⟨l,h1,?_⟩;rw[ABU,h2];rw[qO,qZ] at hn;have:=hn l h1;simp only[decide_eq_true_eq] at this;simp only[this,not_false_eq_true,decide_true,Bool.and_self]
  rw[this]
theorem WU {α:Type}(p:α->Bool)(xs:List α)(k:Nat)(h:k<xs.length):(xs.take (k+1)).any p=((xs.take k).any p||p xs[k]):=by
 rw[zL h,List.any_append,List.any_cons,List.any_nil,Bool.or_false]
theorem ADI (G:Nat->AV)(hG:KwG G)(b:Bin)(hb:BinOk b)(h:Hp):PCall (En G) 152 [.agg (GV b)] h (.int .i64 (IC b)):=by
 refine ACalls.pure0 rfl ?_;refine acN Tryz.func152 rfl ?_;show awp _ _ _ _ _ (EN _ [.tmp 2] _);simp -implicitDefEqProofs only[BC,BA,A8,AY,BB,AO,AQ,AL,BD,AX,AC,AA,AZ,AU,BZ,BH,A7,FU,BQ,BJ,CB,BU,BX,AB,BF,jD,jE,jF,↓reduceIte,jA,jK,jB,jC,enP,AC5,bxB,DL ag9,AP7];refine(OY G hG b.name _ hb.name).use ?_;simp -implicitDefEqProofs only[BI,A8,AY,BB,AO,AQ,AL,BD,AX,AC,AA,AZ,IG,AB,FI,↓reduceIte,jB,jC];refine CV (fun hn=>?_) (fun hn=>?_)
 .simp -implicitDefEqProofs only[BC,BA,BK,A8,CP,CG,AY,BB,AO,AQ,AL,BD,AX,AC,AA,AU,BH,A7,↓reduceIte,jB,jC]
  exact⟨by rw[ABO (by simpa using hn)],_,rfl⟩
 have hn':IE b.name=true:=by simpa using hn
 simp -implicitDefEqProofs only[BC,BA,BO,A8,AY,AO,AQ,AL,BD,AX,AC,AA,AZ,BZ,BQ,CB,BU,AB,jD,jE,jF,↓reduceIte,jA,jB,jC,enP,ldB];refine(AMM G b _ hb.steps).use ?_;simp -implicitDefEqProofs only[BI,A8,AY,BB,AO,AQ,AL,BD,AX,AC,AA,AZ,IG,AB,FI,↓reduceIte,jB,jC];refine CV (fun hs=>?_) (fun hs=>?_)
 .simp -implicitDefEqProofs only[BC,BA,BK,A8,CP,CG,AY,BB,AO,AQ,AL,BD,AX,AC,AA,AU,BH,A7,↓reduceIte,jB,jC]
  refine⟨?_,_,rfl⟩;have h1:shape b=false:=by simpa using hs
  rw[AJ4] at h1
  cases hr:KA b with
  | true=>rw[ZC hn' hr]
  | false =>
    rw[hr] at h1;rw[ZE hn' (by simpa using h1)]
 have h1:shape b=true:=by simpa using hs
 rw[AJ4] at h1;simp only[jV,Bool.not_eq_true'] at h1;have hv:=VW hn' h1.1 h1.2;simp -implicitDefEqProofs only[BC,BA,BO,A8,AY,BB,AO,AQ,AL,BD,AX,AC,AA,AZ,AU,BZ,BM,A7,BQ,CB,BU,AB,jD,jE,jF,↓reduceIte,jA,jB,jC,enP,ldB];refine(AGI G b _).use ?_;simp -implicitDefEqProofs only[BP,A8,AY,BB,AO,AQ,AL,BD,AX,AC,AA,AZ,AU,BH,BG,DZ,AB,↓reduceIte,jB,jC,enP,SA,jI];refine DK (fun n F H=>∃k,n+k=(sets b).length∧F 3=.bool (((sets b).take k).any fun l=>decide (JO l.l=2))∧F 4=.bool (((sets b).take k).any fun l=>decide (JO l.l=1))∧F 15=.sl (TC b) 1 ((sets b).map encS)∧F 16=.int .i64 (sets b).length∧F 17=.int .i64 (k:Nat)∧H=h++[.live 4 [GV b]]) (sets b).length ⟨0,by simp,rfl,rfl,rfl,rfl,rfl,rfl⟩ ?_;rintro n F H ⟨k,hk,f3,f4,f15,f16,f17,rfl⟩;simp -implicitDefEqProofs only[BC,BA,BI,A8,AY,BB,AO,AQ,AL,BD,AX,AC,AA,AZ,BR,AB,CZ,↓reduceIte,jB,jC,enP,f15,f16,f17];refine CV (fun hc=>?_) (fun hc=>?_)
 .have hc':k<(sets b).length:=by simpa using hc
  simp -implicitDefEqProofs only[BC,BP,BA,BO,A8,AY,BB,AO,AQ,AL,BD,AX,AC,AA,AZ,BZ,BG,A7,BQ,CE,CB,BU,AB,jD,jE,jF,↓reduceIte,jA,jB,jC,enP,ABZ,f15,f17,DU hc',DF PN hc',AB4];refine(AKK G _ _ _ (hb.sets _ (List.getElem_mem hc'))).use ?_;have t2:=WU (fun l:Rs=>decide (JO l.l=2)) (sets b) k hc';have t1:=WU (fun l:Rs=>decide (JO l.l=1)) (sets b) k hc';simp -implicitDefEqProofs only[BC,BP,BA,BI,A8,AY,BB,AO,AQ,AL,BD,AX,AC,AA,AZ,AU,BH,A7,BR,AB,D7,↓reduceIte,jB,jC,enP];refine CV (fun hd=>?_) (fun hd=>?_)
  .have hd':JO (sets b)[k].l=2:=by simpa using hd
   simp -implicitDefEqProofs only[BA,A8,EJ,EQ,AY,BB,AO,AQ,AL,BD,AX,AC,AA,AZ,AU,BH,BM,BG,A7,BR,AB,C9,↓reduceIte,jA,jB,jC,enP,f17,wrap_succ (show k<9223372036854775807 by have:=hb.num; omega)];refine⟨n-1,by omega,k+1,by omega,?_,?_,f15,f16,rfl,trivial⟩
   .rw[t2,hd']; simp
   .rw[f4,t1,hd']; simp
  simp -implicitDefEqProofs only[BC,BA,BI,A8,AY,BB,AO,AQ,AL,BD,AX,AC,AA,AZ,AU,BH,A7,BR,AB,D7,↓reduceIte,jA,jB,jC,enP];refine CV (fun he=>?_) (fun he=>?_)
  .have he':JO (sets b)[k].l=1:=by simpa using he
   simp -implicitDefEqProofs only[BA,A8,EJ,EQ,AY,BB,AO,AQ,AL,BD,AX,AC,AA,AZ,AU,BH,BM,BG,A7,BR,AB,C9,↓reduceIte,jA,jB,jC,enP,f17,wrap_succ (show k<9223372036854775807 by have:=hb.num; omega)];refine⟨n-1,by omega,k+1,by omega,?_,?_,f15,f16,rfl,trivial⟩
   .rw[f3,t2,he']; simp
   .rw[t1,he']; simp
  .have hd':JO (sets b)[k].l≠2:=by simpa using hd
   have he':JO (sets b)[k].l≠1:=by simpa using he
   simp -implicitDefEqProofs only[BA,BO,A8,EJ,EQ,AY,BB,AO,AQ,AL,BD,AX,AC,AA,AZ,AU,BH,BG,BR,AB,C9,↓reduceIte,jA,jB,jC,enP,f17,wrap_succ (show k<9223372036854775807 by have:=hb.num; omega)];refine⟨n-1,by omega,k+1,by omega,?_,?_,f15,f16,rfl,trivial⟩
   .rw[f3,t2]; simp [hd']
   .rw[f4,t1]; simp [he']
 .have hc':¬k<(sets b).length:=by simpa using hc
  rw[jX (by omega)] at f3 f4;have hE:=AS1 hn' h1.1 h1.2;simp -implicitDefEqProofs only[BC,BP,BA,DJ,BI,A8,EG,EU,ET,AY,BB,AO,AQ,AL,BD,AX,AC,AA,AZ,BG,A7,↓reduceIte,jA,jB,jC,f3,f4];refine CV (fun hd=>?_) (fun hd=>?_)
  .simp -implicitDefEqProofs only[BC,BA,BK,A8,CP,EE,CG,AY,BB,AO,AQ,AL,BD,AX,AC,AA,AU,BH,A7,↓reduceIte,jB,jC]
   exact⟨by rw[hE,if_pos hd],_,rfl⟩
  simp -implicitDefEqProofs only[BC,BA,BI,A8,AY,BB,AO,AQ,AL,BD,AX,AC,AA,AZ,BG,A7,↓reduceIte,jA,jB,jC,f4];refine CV (fun he=>?_) (fun he=>?_)
  .simp -implicitDefEqProofs only[BC,BA,BK,A8,CP,EE,CG,AY,BB,AO,AQ,AL,BD,AX,AC,AA,AU,BH,A7,↓reduceIte,jB,jC]
   exact⟨by rw[hE,if_neg (by rw[hd]; simp),if_pos he],_,rfl⟩
  .simp -implicitDefEqProofs only[BC,BA,BO,BK,A8,EJ,CG,AY,BB,AO,AQ,AL,BD,AX,AC,AA,AU,BH,A7,↓reduceIte,jB,jC]
   exact⟨by rw[hE,if_neg (by rw[hd]; simp),if_neg (by rw[he]; simp)],_,rfl⟩
theorem AGC (G:Nat->AV)(b:Bin)(hb:BinOk b)(h:Hp):PCall (En G) 162 [.agg (GV b)] h (.int .i64 (IC b)):=by
 refine ACalls.pure0 rfl ?_;refine acN Tryz.func162 rfl ?_;show awp _ _ _ _ _ (EN _ [.tmp 2] _);simp -implicitDefEqProofs only[BC,BA,A8,AY,BB,AO,AQ,AL,BD,AX,AC,AA,AZ,AU,BZ,BH,A7,FU,BQ,BJ,CB,BU,BX,AB,BF,jD,jE,jF,↓reduceIte,jA,jK,jB,jC,enP,AC5,bxB,DL ag9,AP7];refine(PV G b.name _).use ?_;simp -implicitDefEqProofs only[BI,A8,AY,BB,AO,AQ,AL,BD,AX,AC,AA,AZ,IG,AB,FI,↓reduceIte,jB,jC];refine CV (fun hn=>?_) (fun hn=>?_)
 .simp -implicitDefEqProofs only[BC,BA,BK,A8,CP,CG,AY,BB,AO,AQ,AL,BD,AX,AC,AA,AU,BH,A7,↓reduceIte,jB,jC]
  exact⟨by rw[ABO (by simpa using hn)],_,rfl⟩
 have hn':IE b.name=true:=by simpa using hn
 simp -implicitDefEqProofs only[BC,BA,BO,A8,AY,BL,BV,CO,AO,AQ,AL,BD,AX,AC,AA,AZ,AU,BH,BG,BQ,BR,BJ,AB,CZ,↓reduceIte,jA,jG,jB,jC,enP,MR,DL ag3,UR];refine SX (fun F H=>F 53=.bool (KA b)∧F 1=.ptr h.length 0 0∧H=h++[.live 4 [GV b]]) ?_ ?_
 .refine IK (fun ha=>?_) (fun ha=>?_)
  .simp -implicitDefEqProofs only[AY,BB,BL,BV,CO,F7,SV,AO,AQ,AL,BD,AX,AC,AA,EW,AZ,AU,BM,BG,CQ,DY,↓reduceIte,jA,jB,jC,ha]
   exact⟨by unfold KA; rw[ha]; rfl,trivial,trivial⟩
  simp -implicitDefEqProofs only[AY,BL,BV,CO,ES,AO,AQ,AL,BD,AX,AC,AA,AZ,AU,BH,BM,BG,CQ,DW,BQ,BR,BJ,AB,FV,↓reduceIte,jA,jG,jB,jC,enP,MR,ha,DL ag3,UR];refine IK (fun hb=>?_) (fun hb=>?_)
  .simp -implicitDefEqProofs only[AY,BB,BL,BV,CO,F7,SV,AO,AQ,AL,BD,AX,AC,AA,EW,AZ,AU,BM,BG,CQ,DY,↓reduceIte,jA,jB,jC,hb]
   exact⟨by unfold KA; rw[ha,hb]; rfl,trivial,trivial⟩
  simp -implicitDefEqProofs only[AY,BL,BV,CO,ES,AO,AQ,AL,BD,AX,AC,AA,AZ,AU,BH,BM,BG,CQ,DW,BQ,BR,BJ,DZ,AB,FV,↓reduceIte,jA,jG,jB,jC,enP,be4,TG,SA,Q4,OO,hb,DL PN,DL VL,AB7,VJ,jI];refine IK (fun hc=>?_) (fun hc=>?_)
  .simp -implicitDefEqProofs only[AY,BB,BL,BV,CO,F7,SV,AO,AQ,AL,BD,AX,AC,AA,EW,AZ,AU,BM,BG,CQ,DY,↓reduceIte,jA,jB,jC,hc]
   exact⟨by unfold KA; rw[ha,hb,hc]; rfl,trivial,trivial⟩
  simp -implicitDefEqProofs only[BL,BV,CO,ES,AO,AQ,AL,BD,AX,AC,AA,AZ,AU,BH,BG,BQ,BR,BJ,AB,EK,↓reduceIte,jA,jG,jB,jC,enP,MR,hc,DL ag3,UR];refine IK (fun hd=>?_) (fun hd=>?_)
  .simp -implicitDefEqProofs only[AY,BL,BV,CO,GH,ES,AO,AQ,AL,BD,AX,AC,AA,AZ,AU,BH,BM,BG,CQ,DY,DW,BQ,BR,BJ,DZ,AB,FV,↓reduceIte,jA,jG,jB,jC,enP,SA,OO,hd,DL VL,VJ,jI]
   refine IK (fun he=>?_) (fun he=>?_)
   .simp -implicitDefEqProofs only[AY,BB,BL,BV,CO,F7,AO,AQ,AL,BD,AX,AC,AA,EW,AZ,AU,BM,BG,CQ,DY,↓reduceIte,jA,jB,jC,he]
    exact⟨by unfold KA; rw[ha,hb,hc,hd,he]; rfl,trivial,trivial⟩
   simp -implicitDefEqProofs only[AY,BL,BV,CO,ES,AO,AQ,AL,BD,AX,AC,AA,AZ,AU,BH,BM,BG,CQ,DW,BQ,BR,BJ,DZ,AB,D7,↓reduceIte,jA,jG,jB,jC,enP,SA,OO,he,DL VL,VJ,jI];refine IK (fun hf=>?_) (fun hf=>?_)
   .simp -implicitDefEqProofs only[AY,BB,BL,BV,CO,F7,AO,AQ,AL,BD,AX,AC,AA,EW,AZ,AU,BM,CQ,DY,↓reduceIte,jA,jB,jC,hf]
    exact⟨by unfold KA; rw[ha,hb,hc,hd,he,hf]; rfl,trivial,trivial⟩
   .simp -implicitDefEqProofs only[AY,BB,BL,BV,CO,ES,AO,AQ,AL,BD,AX,AC,AA,AZ,AU,BH,BM,CQ,DW,BQ,BR,BJ,DZ,AB,FV,↓reduceIte,jA,jG,jB,jC,enP,SA,OO,hf,DL VL,VJ,jI]
    exact⟨by unfold KA; rw[ha,hb,hc,hd,he,hf]; rfl,trivial,trivial⟩
  .simp -implicitDefEqProofs only[AY,BL,BV,CO,ES,IU,AO,AQ,AL,BD,AX,AC,AA,EW,AZ,AU,BH,BM,BG,CQ,DW,BQ,BR,BJ,DZ,AB,D7,↓reduceIte,jA,jG,jB,jC,enP,SA,OO,hd,DL VL,VJ,jI]
   refine IK (fun hf=>?_) (fun hf=>?_)
   .simp -implicitDefEqProofs only[AY,BB,BL,BV,CO,F7,AO,AQ,AL,BD,AX,AC,AA,EW,AZ,AU,BM,CQ,DY,↓reduceIte,jA,jB,jC,hf]
    exact⟨by unfold KA; rw[ha,hb,hc,hd,hf]; rfl,trivial,trivial⟩
   .simp -implicitDefEqProofs only[AY,BB,BL,BV,CO,ES,AO,AQ,AL,BD,AX,AC,AA,AZ,AU,BH,BM,CQ,DW,BQ,BR,BJ,DZ,AB,FV,↓reduceIte,jA,jG,jB,jC,enP,SA,OO,hf,DL VL,VJ,jI]
    exact⟨by unfold KA; rw[ha,hb,hc,hd,hf]; rfl,trivial,trivial⟩
 rintro F H ⟨f53,f1,rfl⟩;simp -implicitDefEqProofs only[BI,A8,AZ,f53,f1];refine CV (fun hs=>?_) (fun hs=>?_)
 .simp -implicitDefEqProofs only[BC,BA,BK,A8,CP,CG,AY,BB,AO,AQ,AL,BD,AX,AC,AA,AU,BH,A7,↓reduceIte,jB,jC]
  exact⟨by rw[ZC hn' hs],_,rfl⟩
 simp -implicitDefEqProofs only[BC,BP,BA,BO,A8,AY,BB,AO,AQ,AL,BD,AX,AC,AU,BH,A7,jB,jC];refine GM 0 (fun F H=>F 1=.ptr h.length 0 0∧H=h++[.live 4 [GV b]]∧b.steps.any (fun l=>decide (l.l.length=0))=false) (fun F H=>F 2=.int .i64 (IC b)∧H=h++[.live 4 [GV b]]) ?_ ?_ ?_
 .refine DK (fun n F H=>∃k,n+k=b.steps.length∧F 1=.ptr h.length 0 0∧F 3=.int .i64 (k:Nat)∧H=h++[.live 4 [GV b]]∧(b.steps.take k).any (fun l=>decide (l.l.length=0))=false) b.steps.length ⟨0,by simp,by simp -implicitDefEqProofs only[AA,↓reduceIte,jA,f1],by simp -implicitDefEqProofs only[AA,↓reduceIte]; rfl,rfl,rfl⟩ ?_
  rintro n F H ⟨k,hk,f1,f3,rfl,hin⟩;simp -implicitDefEqProofs only[BC,BA,BI,A8,AY,BB,AO,AQ,AL,BD,AX,AC,AA,AZ,BG,BQ,BR,BJ,DZ,AB,CZ,↓reduceIte,jA,jG,jB,jC,enP,SA,OO,f1,f3,DL VL,VJ,jI];refine CV (fun hc=>?_) (fun hc=>?_)
  .have hc':k<b.steps.length:=by simpa using hc
   have t0:=WU (fun l:Rs=>decide (l.l.length=0)) b.steps k hc';simp -implicitDefEqProofs only[BC,BP,BA,BO,BI,A8,AY,BB,AO,AQ,AL,BD,AX,AC,AA,AZ,AU,BH,BG,BQ,BR,BJ,CE,DZ,AB,D7,↓reduceIte,jA,jG,jB,jC,enP,TG,ABZ,OO,f1,f3,DL VL,VJ,DU hc',DF PN hc',AB4,jI];refine CV (fun hd=>?_) (fun hd=>?_)
   .simp -implicitDefEqProofs only[BC,BA,BK,A8,CP,EE,NM,FQ,AY,BB,AO,AQ,AL,BD,AX,AC,AA,AU,BH,A7,↓reduceIte,jB,jC]
    refine⟨?_,trivial⟩
    have:b.steps.any (fun l=>decide (l.l.length=0))=true:=by
     rw[qH];exact⟨b.steps[k],by simp,by simp at hd; simp [hd]⟩
    rw[ZE hn' this]
   .simp -implicitDefEqProofs only[BA,BO,A8,EJ,EQ,AY,BB,AO,AQ,AL,BD,AX,AC,AA,AZ,AU,BH,BG,A7,BR,AB,C9,↓reduceIte,jA,jB,jC,enP,f3,wrap_succ (show k<9223372036854775807 by have:=hb.steps; omega)]
    refine⟨n-1,by omega,k+1,by omega,f1,rfl,trivial,?_⟩;rw[t0,hin];simp at hd;simp [hd]
  .have hc':¬k<b.steps.length:=by simpa using hc
   simp -implicitDefEqProofs only[DJ,EG,KC,ET,AA,↓reduceIte,jA];rw[jX (by omega)] at hin;exact⟨f1,trivial,hin⟩
 .rintro F H ⟨f1,rfl,he⟩
  have hs':KA b=false:=by simpa using hs
  have hv:=VW hn' hs' he;simp -implicitDefEqProofs only[BC,BA,A8,EU,AY,AO,AQ,AL,BD,AX,AC,AA,AZ,BZ,BQ,CB,BU,AB,jD,jE,jF,↓reduceIte,jB,jC,enP,f1,ldB];refine(AJ5 G b _).use ?_;simp -implicitDefEqProofs only[BC,BP,BA,A8,AY,BB,AO,AQ,AL,BD,AX,AC,AA,AZ,AU,BH,A7,↓reduceIte,jB,jC];refine GM 2 (fun F H=>F 4=.sl (TC b) 1 ((sets b).map encS)∧H=h++[.live 4 [GV b]]∧(sets b).any (fun l=>decide (l.l.length>64))=false) (fun F H=>F 2=.int .i64 (IC b)∧H=h++[.live 4 [GV b]]) ?_ ?_ ?_
  .refine DK (fun n F H=>∃k,n+k=(sets b).length∧F 4=.sl (TC b) 1 ((sets b).map encS)∧F 5=.int .i64 (k:Nat)∧H=h++[.live 4 [GV b]]∧((sets b).take k).any (fun l=>decide (l.l.length>64))=false) (sets b).length ⟨0,by simp,by simp -implicitDefEqProofs only[AA,↓reduceIte,jA],by simp -implicitDefEqProofs only[AA,↓reduceIte]; rfl,rfl,rfl⟩ ?_
   rintro n F H ⟨k,hk,f4,f5,rfl,hin⟩;simp -implicitDefEqProofs only[BC,BA,BI,A8,AY,BB,AO,AQ,AL,BD,AX,AC,AA,AZ,BG,BR,DZ,AB,CZ,↓reduceIte,jA,jB,jC,enP,SA,f4,f5,jI];refine CV (fun hc=>?_) (fun hc=>?_)
   .have hc':k<(sets b).length:=by simpa using hc
    have t0:=WU (fun l:Rs=>decide (l.l.length>64)) (sets b) k hc';simp -implicitDefEqProofs only[BC,BP,BA,BO,BI,A8,AY,BB,AO,AQ,AL,BD,AX,AC,AA,AZ,AU,BH,BG,BQ,BR,CE,DZ,AB,FV,↓reduceIte,jA,jB,jC,enP,TG,ABZ,f4,f5,DU hc',DF PN hc',AB4,jI];refine CV (fun hd=>?_) (fun hd=>?_)
    .simp -implicitDefEqProofs only[BC,BA,BK,A8,CP,EE,NM,FQ,AY,BB,AO,AQ,AL,BD,AX,AC,AA,AU,BH,A7,↓reduceIte,jB,jC]
     refine⟨?_,trivial⟩
     have:(sets b).any (fun l=>decide (l.l.length>64))=true:=by
      rw[qH];exact⟨(sets b)[k],by simp,by simp at hd|-; omega⟩
     rw[hv,if_pos this]
    .simp -implicitDefEqProofs only[BA,BO,A8,EJ,EQ,AY,BB,AO,AQ,AL,BD,AX,AC,AA,AZ,AU,BH,BG,A7,BR,AB,C9,↓reduceIte,jA,jB,jC,enP,f5,wrap_succ (show k<9223372036854775807 by have:=hb.num; omega)]
     refine⟨n-1,by omega,k+1,by omega,f4,rfl,trivial,?_⟩;rw[t0,hin]
     simp at hd|-
     omega
   .have hc':¬k<(sets b).length:=by simpa using hc
    simp -implicitDefEqProofs only[DJ,EG,KC,ET,AA,↓reduceIte,jA];rw[jX (by omega)] at hin;exact⟨f4,trivial,hin⟩
  .rintro F H ⟨f4,rfl,h64⟩
   rw[h64] at hv;simp only[Bool.false_eq_true,if_false] at hv;simp -implicitDefEqProofs only[BC,BP,BA,A8,EU,AY,BB,AO,AQ,AL,BD,AX,AC,AU,BH,A7,↓reduceIte,jB,jC,f4];refine DK (fun n F H=>∃k,n+k=(sets b).length∧F 4=.sl (TC b) 1 ((sets b).map encS)∧F 6=.int .i64 (k:Nat)∧H=h++[.live 4 [GV b]]∧((sets b).take k).any (fun l=>l.l.any bad)=false) (sets b).length ⟨0,by simp,by simp -implicitDefEqProofs only[AA,↓reduceIte,jA,f4],by simp -implicitDefEqProofs only[AA,↓reduceIte]; rfl,rfl,rfl⟩ ?_;rintro n F H ⟨k,hk,f4,f6,rfl,hin⟩;simp -implicitDefEqProofs only[BC,BA,BI,A8,AY,BB,AO,AQ,AL,BD,AX,AC,AA,AZ,BG,BR,DZ,AB,CZ,↓reduceIte,jA,jB,jC,enP,SA,f4,f6,jI];refine CV (fun hc=>?_) (fun hc=>?_)
   .have hc':k<(sets b).length:=by simpa using hc
    have t0:=WU (fun l:Rs=>l.l.any bad) (sets b) k hc';simp -implicitDefEqProofs only[BC,BP,BA,BO,A8,AY,AO,AQ,AL,BD,AX,AC,AA,AZ,BZ,BG,BQ,CE,CB,BU,AB,jD,jE,jF,↓reduceIte,jA,jB,jC,enP,ABZ,f4,f6,DU hc',DF PN hc',AB4,jI];refine(AMR G _ _ _).use ?_
    have hk64:¬(sets b)[k].l.length>64:=by
     rw[qZ] at h64;have:=h64 (sets b)[k] (by simp);simpa using this
    simp -implicitDefEqProofs only[BC,BA,BI,A8,AY,BB,AO,AQ,AL,BD,AX,AC,AA,AZ,AU,BH,BG,A7,BR,AB,EK,↓reduceIte,jB,jC,enP]
    cases hbad:(sets b)[k].l.any bad with
    | true =>
      have hr:=V8 hk64 hbad;refine CV (fun hd=>?_) (fun hd=>?_)
      .simp -implicitDefEqProofs only[BC,BA,BK,A8,CP,EE,FQ,CG,AY,BB,AO,AQ,AL,BD,AX,AC,AA,AZ,BG,A7,↓reduceIte,jA,jB,jC]
       refine⟨?_,_,rfl⟩
       have:(sets b).any (fun l=>l.l.any bad)=true:=by
        rw[qH];exact⟨(sets b)[k],by simp,hbad⟩
       rw[hr,hv,if_pos this]
      .rw[hr] at hd; simp at hd
    | false =>
      have hr:=YN hk64 hbad;refine CV (fun hd=>?_) (fun hd=>?_)
      .rw[hr] at hd; simp at hd
      .simp -implicitDefEqProofs only[BA,BO,A8,EJ,EQ,AY,BB,AO,AQ,AL,BD,AX,AC,AA,AZ,AU,BH,BG,A7,BR,AB,C9,↓reduceIte,jA,jB,jC,enP,f6,wrap_succ (show k<9223372036854775807 by have:=hb.num; omega)]
       refine⟨n-1,by omega,k+1,by omega,f4,rfl,trivial,?_⟩;rw[t0,hin,hbad]; rfl
   .have hc':¬k<(sets b).length:=by simpa using hc
    simp -implicitDefEqProofs only[BC,BA,BK,DJ,A8,EG,EU,ET,CG,AY,BB,AO,AQ,AL,BD,AX,AC,AA,AU,BH,A7,↓reduceIte,jB,jC];rw[jX (by omega)] at hin;exact⟨by rw[hv,if_neg (by rw[hin]; simp)],_,rfl⟩
  .rintro F H ⟨f2,rfl⟩
   simp -implicitDefEqProofs only[CP,EE,CG];exact⟨f2,_,rfl⟩
 .rintro F H ⟨f2,rfl⟩
  simp -implicitDefEqProofs only[CP,EE,CG];exact⟨by rw[f2],_,rfl⟩
end Go.Proofs.YtocilianjfhifaaGreatDoor.Bins
namespace Go.Proofs.YtocilianjfhifaaGreatDoor.Cov
open Sm Bins
open Bool renaming not_false→jC
open Int renaming reduceBEq→zF
open List renaming drop_zero→qE,take_of_length_le→jX
open Nat renaming le_refl→jL,le_of_ble_eq_true→jH,reduceEqDiff→jA,add_zero→jK
open Option renaming getD_some→jB
inductive Ex where
 | mk (op n:Int) (name:ByteArray) (m:SM) (args:List Ex)
def Ex.op:Ex->Int|.mk op _ _ _ _=>op
def Ex.n:Ex->Int|.mk _ n _ _ _=>n
def Ex.name:Ex->ByteArray|.mk _ _ name _ _=>name
def Ex.m:Ex->SM|.mk _ _ _ m _=>m
def Ex.args:Ex->List Ex|.mk _ _ _ _ args=>args
mutual
def FC:Ex->List AV
 | .mk op n name m args=>[.int .i64 op,.int .i64 n,.str name,.sl m 4 (ALP args)]
def ALP:List Ex->List (List AV)
 | []=>[]
 | e::es=>FC e::ALP es
end
theorem AG3:∀l:List Ex,ALP l=l.map FC
 | []=>by simp [ALP]
 | e::es=>by simp [ALP,AG3 es]
theorem PD (e:Ex):FC e=[.int .i64 e.op,.int .i64 e.n,.str e.name,.sl e.m 4 (e.args.map FC)]:=by
 cases e; simp [FC,AG3,Ex.op,Ex.n,Ex.name,Ex.m,Ex.args]
theorem KR (e:Ex):(FC e).length=4:=by rw[PD]; rfl
theorem KT (e:Ex):(FC e)[0]?=some (.int .i64 e.op):=by rw[PD]; rfl
theorem Z7 (e:Ex):(FC e)[1]?=some (.int .i64 e.n):=by rw[PD]; rfl
theorem QT (e:Ex):(FC e)[2]?=some (.str e.name):=by rw[PD]; rfl
theorem AB5 (e:Ex):(FC e)[3]?=some (.sl e.m 4 (e.args.map FC)):=by rw[PD]; rfl
theorem AG4 (e:Ex):(FC e).all AV.leaf=true:=by rw[PD]; rfl
theorem bxE (h:Hp)(e:Ex):P7 h (.agg (FC e))=some (.ptr h.length 0 0,h++[.live 4 [FC e]]):=by
 have:=AAB (h:=h) (AG4 e);rw[KR] at this; exact this
theorem ldE (h:Hp)(e:Ex):ED Tryz.prog (h++[.live 4 [FC e]]) 53 (.ptr h.length 0 0)=some (.agg (FC e)):=by
 rw[XK AJF ADN (by rw[KR]; exact jL 4)];rw[qE,jX (by rw[KR]; exact jL 4)]
theorem NQ {h:Hp}{b:Nat}{e:Ex}(hb:h[b]?=some (.live 4 [FC e])):ED Tryz.prog h 53 (.ptr b 0 0)=some (.agg (FC e)):=by
 rw[J4 AJF ADN hb rfl (by rw[KR]; exact jL 4)];rw[qE,jX (by rw[KR]; exact jL 4)]
mutual
def pre:Ex->List Ex
 | .mk op n name m args=>.mk op n name m args::KG args
def KG:List Ex->List Ex
 | []=>[]
 | e::es=>pre e++KG es
end
mutual
def dep:Ex->Nat
 | .mk _ _ _ _ args=>deps args+1
def deps:List Ex->Nat
 | []=>0
 | e::es=>max (dep e) (deps es)
end
mutual
def wt:Ex->Nat
 | .mk _ _ name _ args=>name.size+1+wts args
def wts:List Ex->Nat
 | []=>0
 | e::es=>wt e+wts es
end
theorem pre_eq (e:Ex):pre e=e::KG e.args:=by cases e; simp [pre,Ex.args]
theorem AI4 (e:Ex):dep e=deps e.args+1:=by cases e; simp [dep,Ex.args]
theorem OV (e:Ex):wt e=e.name.size+1+wts e.args:=by cases e; simp [wt,Ex.args,Ex.name]
theorem QH (xs ys:List Ex):KG (xs++ys)=KG xs++KG ys:=by
 induction xs with
 | nil=>simp [KG]
 | cons x xs ih=>simp [KG,ih]
theorem XA (xs:List Ex):xs.length<=wts xs:=by
 induction xs with
 | nil=>simp [wts]
 | cons x xs ih=>have:=OV x; simp [wts]; omega
theorem U0 {xs:List Ex}{x:Ex}(h:x∈xs):wt x<=wts xs:=by
 induction xs with
 | nil=>cases h
 | cons y ys ih =>
   simp only[wts]
   cases List.mem_cons.1 h with
   | inl e=>subst e; omega
   | inr e=>have:=ih e; omega
theorem AG5 (xs:List Ex)(k:Nat)(h:k<xs.length):deps (xs.take (k+1))=max (deps (xs.take k)) (dep xs[k]):=by
 induction xs generalizing k with
 | nil=>simp at h
 | cons x xs ih =>
   cases k with
   | zero=>simp [deps]
   | succ k =>
     simp only[List.take_succ_cons,deps,List.getElem_cons_succ];rw[ih k (by simpa using h),Nat.max_assoc]
theorem Ex.induct {P:Ex->Prop}(h:∀e:Ex,(∀a∈e.args,P a)->P e)(e:Ex):P e:=by
 have:∀n (e:Ex),wt e<=n->P e:=by
  intro n
  induction n with
  | zero=>intro e he; have:=OV e; omega
  | succ n ih =>
    intro e he;refine h e fun a ha=>ih a ?_
    have h1:=U0 ha;have h2:=OV e;omega
 exact this _ e (jL _)
theorem AVQ (e:Ex):dep e<=wt e:=by
 refine Ex.induct (P:=fun e=>dep e<=wt e) (fun e ih=>?_) e;rw[AI4,OV]
 have:deps e.args<=wts e.args:=by
  generalize e.args=l at ih
  induction l with
  | nil=>simp [deps,wts]
  | cons x l ih2 =>
    have h1:=ih x (by simp);have h2:=ih2 (fun a ha=>ih a (by simp [ha]));simp only[deps,wts]; omega
 omega
theorem AH2 (e:Ex):(pre e).length<=wt e:=by
 refine Ex.induct (P:=fun e=>(pre e).length<=wt e) (fun e ih=>?_) e;rw[pre_eq,OV]
 have:(KG e.args).length<=wts e.args:=by
  generalize e.args=l at ih
  induction l with
  | nil=>simp [KG,wts]
  | cons x l ih2 =>
    have h1:=ih x (by simp);have h2:=ih2 (fun a ha=>ih a (by simp [ha]));simp only[KG,wts,List.length_append]; omega
 simp; omega
def arity (op:Int):Int:=if op<1∨op>25 then -1 else if op=1∨op=2∨op=24 then 0 else if op=3∨op=4∨op=5∨op=6∨op=25 then 1 else if op=22 then 3 else if op=23 then -1 else 2
set_option maxHeartbeats 2000000 in
theorem AN4 (G:Nat->AV)(op:Int)(h:Hp):PCall (En G) 258 [.int .i64 op] h (.int .i64 (arity op)):=by
 refine acN Tryz.func258 rfl ?_;show awp _ _ _ _ _ (EN _ [.tmp 2] _);have hcase:op<1∨op>25∨op=1∨op=2∨op=3∨op=4∨op=5∨op=6∨op=7∨op=8∨op=9∨op=10∨op=11∨op=12∨op=13∨op=14∨op=15∨op=16∨op=17∨op=18∨op=19∨op=20∨op=21∨op=22∨op=23∨op=24∨op=25:=by omega
 rcases hcase with h|h|rfl|rfl|rfl|rfl|rfl|rfl|rfl|rfl|rfl|rfl|rfl|rfl|rfl|rfl|rfl|rfl|rfl|rfl|rfl|rfl|rfl|rfl|rfl|rfl|rfl
 .have hne:∀k:Int,1<=k->(op==k)=false:=fun k hk=>beq_eq_false_iff_ne.2 (by omega)
  have hd:decide (op<1)=true:=by simp; omega
  have ha:arity op = -1:=by unfold arity; rw[if_pos (Or.inl h)]
  rw[ha];simp -implicitDefEqProofs only[BC,BP,BA,BO,BK,BI,A8,CP,EJ,CG,DI,DR,AY,BB,BL,BV,CO,F7,AO,AQ,AL,BD,AX,AC,AA,EW,AZ,AU,BH,BM,BG,A7,CQ,DY,BR,AB,D7,CZ,BF,↓reduceIte,jA,jB,jC,enP,hne 1 (by decide),hne 2 (by decide),hne 3 (by decide),hne 4 (by decide),hne 5 (by decide),hne 6 (by decide),hne 7 (by decide),hne 8 (by decide),hne 9 (by decide),hne 10 (by decide),hne 11 (by decide),hne 12 (by decide),hne 13 (by decide),hne 14 (by decide),hne 15 (by decide),hne 16 (by decide),hne 17 (by decide),hne 18 (by decide),hne 19 (by decide),hne 20 (by decide),hne 21 (by decide),hne 22 (by decide),hne 23 (by decide),hne 24 (by decide),hne 25 (by decide),hd];exact⟨trivial,trivial⟩
 .have hne:∀k:Int,k<=25->(op==k)=false:=fun k hk=>beq_eq_false_iff_ne.2 (by omega)
  have hd:decide (op<1)=false:=by simp; omega
  have hd2:decide (op>25)=true:=by simp; omega
  have ha:arity op = -1:=by unfold arity; rw[if_pos (Or.inr h)]
  rw[ha];simp -implicitDefEqProofs only[BC,BP,BA,BO,BK,BI,A8,CP,EJ,CG,DI,DR,AY,BB,BL,BV,CO,ES,AO,AQ,AL,BD,AX,AC,AA,AZ,AU,BH,BM,BG,A7,CQ,DW,BR,AB,D7,CZ,FV,BF,↓reduceIte,jA,jB,jC,enP,hne 1 (by decide),hne 2 (by decide),hne 3 (by decide),hne 4 (by decide),hne 5 (by decide),hne 6 (by decide),hne 7 (by decide),hne 8 (by decide),hne 9 (by decide),hne 10 (by decide),hne 11 (by decide),hne 12 (by decide),hne 13 (by decide),hne 14 (by decide),hne 15 (by decide),hne 16 (by decide),hne 17 (by decide),hne 18 (by decide),hne 19 (by decide),hne 20 (by decide),hne 21 (by decide),hne 22 (by decide),hne 23 (by decide),hne 24 (by decide),hne 25 (by decide),hd,hd2];exact⟨trivial,trivial⟩
 all_goals
  simp -implicitDefEqProofs only[BC,BP,BA,BO,BK,BI,A8,CP,EJ,EE,CG,DI,DR,AY,BB,BL,BV,CO,ES,AO,AQ,AL,BD,AX,AC,AA,AZ,AU,BH,BM,BG,A7,CQ,DW,BR,AB,D7,CZ,FV,BF,↓reduceIte,jA,jB,jC,decide_false,enP,zF,Int.reduceLT,Int.reduceGT];exact⟨rfl,trivial⟩
set_option maxHeartbeats 2000000 in
theorem AR9 (G:Nat->AV)(op:Int)(h:Hp):PCall (En G) 254 [.int .i64 op] h (.int .i64 (arity op)):=by
 refine acN Tryz.func254 rfl ?_;show awp _ _ _ _ _ (EN _ [.tmp 2] _);have hcase:op<1∨op>25∨op=1∨op=2∨op=3∨op=4∨op=5∨op=6∨op=7∨op=8∨op=9∨op=10∨op=11∨op=12∨op=13∨op=14∨op=15∨op=16∨op=17∨op=18∨op=19∨op=20∨op=21∨op=22∨op=23∨op=24∨op=25:=by omega
 rcases hcase with h|h|rfl|rfl|rfl|rfl|rfl|rfl|rfl|rfl|rfl|rfl|rfl|rfl|rfl|rfl|rfl|rfl|rfl|rfl|rfl|rfl|rfl|rfl|rfl|rfl|rfl
 .have hne:∀k:Int,1<=k->(op==k)=false:=fun k hk=>beq_eq_false_iff_ne.2 (by omega)
  have hd:decide (op<1)=true:=by simp; omega
  have ha:arity op = -1:=by unfold arity; rw[if_pos (Or.inl h)]
  rw[ha];simp -implicitDefEqProofs only[BC,BP,BA,BO,BK,BI,A8,CP,EJ,CG,DI,DR,AY,BB,BL,BV,CO,F7,AO,AQ,AL,BD,AX,AC,AA,EW,AZ,AU,BH,BM,BG,A7,CQ,DY,BR,AB,D7,CZ,BF,↓reduceIte,jA,jB,jC,enP,hne 1 (by decide),hne 2 (by decide),hne 3 (by decide),hne 4 (by decide),hne 5 (by decide),hne 6 (by decide),hne 7 (by decide),hne 8 (by decide),hne 9 (by decide),hne 10 (by decide),hne 11 (by decide),hne 12 (by decide),hne 13 (by decide),hne 14 (by decide),hne 15 (by decide),hne 16 (by decide),hne 17 (by decide),hne 18 (by decide),hne 19 (by decide),hne 20 (by decide),hne 21 (by decide),hne 22 (by decide),hne 23 (by decide),hne 24 (by decide),hne 25 (by decide),hd];exact⟨trivial,trivial⟩
 .have hne:∀k:Int,k<=25->(op==k)=false:=fun k hk=>beq_eq_false_iff_ne.2 (by omega)
  have hd:decide (op<1)=false:=by simp; omega
  have hd2:decide (op>25)=true:=by simp; omega
  have ha:arity op = -1:=by unfold arity; rw[if_pos (Or.inr h)]
  rw[ha];simp -implicitDefEqProofs only[BC,BP,BA,BO,BK,BI,A8,CP,EJ,CG,DI,DR,AY,BB,BL,BV,CO,ES,AO,AQ,AL,BD,AX,AC,AA,AZ,AU,BH,BM,BG,A7,CQ,DW,BR,AB,D7,CZ,FV,BF,↓reduceIte,jA,jB,jC,enP,hne 1 (by decide),hne 2 (by decide),hne 3 (by decide),hne 4 (by decide),hne 5 (by decide),hne 6 (by decide),hne 7 (by decide),hne 8 (by decide),hne 9 (by decide),hne 10 (by decide),hne 11 (by decide),hne 12 (by decide),hne 13 (by decide),hne 14 (by decide),hne 15 (by decide),hne 16 (by decide),hne 17 (by decide),hne 18 (by decide),hne 19 (by decide),hne 20 (by decide),hne 21 (by decide),hne 22 (by decide),hne 23 (by decide),hne 24 (by decide),hne 25 (by decide),hd,hd2];exact⟨trivial,trivial⟩
 all_goals
  simp -implicitDefEqProofs only[BC,BP,BA,BO,BK,BI,A8,CP,EE,CG,DI,DR,AY,BB,AO,AQ,AL,BD,AX,AC,AA,AZ,AU,BH,BG,A7,BR,AB,D7,BF,↓reduceIte,jA,jB,jC,enP,zF,Int.reduceLT,Int.reduceGT];exact⟨rfl,trivial⟩
def LY (op:Int):Bool:=op==2||op==3||op==24
theorem XI (G:Nat->AV)(op:Int)(h:Hp):PCall (En G) 246 [.int .i64 op] h (.bool (LY op)):=by
 refine acN Tryz.func246 rfl ?_;show awp _ _ _ _ _ (EN _ [.tmp 2] _);simp -implicitDefEqProofs only[BC,BA,A8,AY,BB,BL,BV,CO,AO,AQ,AL,BD,AX,AC,AA,AZ,AU,BH,BM,BG,A7,BR,AB,D7,BF,↓reduceIte,jA,jB,jC,enP];cases ha:(op==2)<;>cases hb:(op==3)
 all_goals
  simp -implicitDefEqProofs only[BK,A8,CG,AY,BB,BL,BV,CO,ES,F7,AO,AQ,AL,BD,AX,AC,AA,EW,AZ,AU,BH,BM,BG,A7,CQ,DY,DW,BR,AB,D7,BF,↓reduceIte,jA,jB,jC,enP,ha,hb];exact⟨by simp [LY,ha,hb],trivial⟩
def AAW (op:Int)(n:Nat):Bool:=if op==23 then ((n:Int)%2==1)&&decide ((n:Int)≥3)&&decide ((n:Int)<=33) else ((n:Int)==arity op)
theorem AFX (G:Nat->AV)(e:Ex)(h:Hp):PCall (En G) 231 [.agg (FC e)] h (.bool (AAW e.op e.args.length)):=by
 refine ACalls.pure0 rfl ?_;refine acN Tryz.func231 rfl ?_;show awp _ _ _ _ _ (EN _ [.tmp 2] _);simp -implicitDefEqProofs only[BC,BA,BI,A8,AY,BB,AO,AQ,AL,BD,AX,AC,AA,AZ,AU,BH,BM,A7,FU,BQ,BR,BJ,DZ,BX,AB,D7,BF,↓reduceIte,jA,jK,Nat.zero_add,jB,jC,enP,AK1,IR,TU,bxE,DL AL9,DL ag3,AB5,KT,List.length_map];generalize he:e.args.length=n;have hm:(n:Int).tmod 2=(n:Int)%2:=Int.tmod_eq_emod_of_nonneg (by omega);have b1:JG Tryz.prog 3 .rem (.int .i64 (n:Int)) (.int .i64 2)=some (.int .i64 ((n:Int)%2)):=by rw[ADA _ _ _ _ _ (by decide),hm]
 refine CV (fun hc=>?_) (fun hc=>?_)
 .simp -implicitDefEqProofs only[BC,BA,AY,BL,BV,CO,AO,AQ,AL,BD,AX,AC,AA,AZ,AU,BH,BG,BR,AB,D7,↓reduceIte,jA,jB,jC,enP,b1]
  cases ha:((n:Int)%2==1)<;>cases hb:decide ((n:Int)≥3)
  all_goals
   simp -implicitDefEqProofs only[BK,A8,CP,CG,AY,BB,BL,BV,CO,GH,IU,AO,AQ,AL,BD,AX,AC,AA,EW,AZ,AU,BH,BM,BG,A7,CQ,DY,DW,BR,AB,JA,G6,↓reduceIte,jA,jB,jC,enP,ha,hb];exact⟨by unfold AAW; rw[if_pos hc,ha,hb]; simp,_,rfl⟩
 .simp -implicitDefEqProofs only[BC,BA,BO,A8,AY,AO,AQ,AL,BD,AX,AC,AA,AZ,BZ,BG,BQ,BJ,CB,BU,AB,List.map_cons,List.map_nil,List.append_nil,↓reduceIte,jA,jK,jB,jC,enP,IR,DL ag3,KT]
  refine(AN4 G e.op _).use ?_;simp -implicitDefEqProofs only[BK,A8,CG,AY,BB,AO,AQ,AL,BD,AX,AC,AA,AZ,A7,BR,AB,D7,↓reduceIte,jA,jB,jC,enP];exact⟨by unfold AAW; rw[if_neg (by rw[hc]; decide)],_,rfl⟩
end Go.Proofs.YtocilianjfhifaaGreatDoor.Cov
namespace Go.Proofs.YtocilianjfhifaaGreatDoor.Cov
open Sm Bins Go.Shelf Go.RowKit
open Bool renaming and_eq_true→jV
open Int renaming toNat_natCast→wE
open List renaming drop_eq_getElem_cons→zK,getElem?_eq_getElem→jS
def AVV:Go.Shelf.Ren:=⟨fun|145=>290|220=>304|219=>305|217=>306|225=>307|224=>308|267=>309|266=>310|314=>311|n=>n,fun|9=>9|4=>4|59=>261|3=>3|5=>5|46=>269|146=>273|51=>272|n=>n,fun|1=>1|n=>n⟩
theorem A5V:Go.Proofs.Lays.n145 Tryz.prog AVV := {
 mixed:=by kernel_rfl,
 f145:=Tryz.func290.trans (congrArg some (by kernel_rfl)),
 f217:=Tryz.func306.trans (congrArg some (by kernel_rfl)),
 f219:=Tryz.func305.trans (congrArg some (by kernel_rfl)),
 f220:=Tryz.func304.trans (congrArg some (by kernel_rfl)),
 f224:=Tryz.func308.trans (congrArg some (by kernel_rfl)),
 f225:=Tryz.func307.trans (congrArg some (by kernel_rfl)),
 f266:=Tryz.func310.trans (congrArg some (by kernel_rfl)),
 f267:=Tryz.func309.trans (congrArg some (by kernel_rfl)),
 f314:=Tryz.func311.trans (congrArg some (by kernel_rfl)),
 t3:=Tryz.underlying3,
 a3:=Tryz.isAgg3,
 z3:=Tryz.sizeOf3,
 v3:=Tryz.zeroValue3,
 t4:=Tryz.underlying4,
 a4:=Tryz.isAgg4,
 z4:=Tryz.sizeOf4,
 v4:=Tryz.zeroValue4,
 t5:=Tryz.underlying5,
 a5:=Tryz.isAgg5,
 z5:=Tryz.sizeOf5,
 v5:=Tryz.zeroValue5,
 t9:=Tryz.underlying9,
 a9:=Tryz.isAgg9,
 z9:=Tryz.sizeOf9,
 v9:=Tryz.zeroValue9,
 t46:=Tryz.underlying269,
 a46:=Tryz.isAgg269,
 z46:=Tryz.sizeOf269,
 v46:=Tryz.zeroValue269,
 t51:=Tryz.underlying272,
 a51:=Tryz.isAgg272,
 z51:=Tryz.sizeOf272,
 v51:=Tryz.zeroValue272,
 t59:=Tryz.underlying261,
 a59:=Tryz.isAgg261,
 z59:=Tryz.sizeOf261,
 v59:=Tryz.zeroValue261,
 t146:=Tryz.underlying273,
 a146:=Tryz.isAgg273,
 z146:=Tryz.sizeOf273,
 v146:=Tryz.zeroValue273,
 g1:=by kernel_rfl }
structure GOk (G:Nat->AV):Prop where
 kw:KwG G
 mx:∃n,G 1=.fptr 1 [[.int .i64 n]] 0 0
theorem AUZ {G:Nat->AV}{g:Gh}{h:Hp}{w:World}{n:Nat}{k:IntKind}{z:Int}(S:SimH (En G) g h w)(hn:G n=.fptr 1 [[.int k z]] 0 0):w.cell? ⟨n,0,none⟩=some (.int k z):=by
 have:=S.glob n;rw[enG,hn] at this;generalize hp:Value.pointer (some ⟨n,0,none⟩)=p at this
 cases this with
 | fptr k' xs i j cb co c e fz cv h1 h2 h3 h4 =>
   simp only[Value.pointer.injEq,Option.some.injEq,Addr.mk.injEq] at hp;obtain⟨rfl,hco,_⟩:=hp;have h5:=h3 0 0 (by simp) (by simp);have h6:=h4 0 0 _ _ rfl rfl;generalize cv 0 0=u at h5 h6;cases h6;simp only[World.cell?,S.fro _ _ h1];subst hco;exact h5
def cutV (s:ByteArray):AV:=.tup [.str ⟨(Lib.cut s.data.toList [91]).1.toArray⟩,.str ⟨(Lib.cut s.data.toList [91]).2.1.toArray⟩,.bool (Lib.cut s.data.toList [91]).2.2]
theorem AVU (G:Nat->AV)(hG:GOk G)(s:ByteArray)(h:Hp)(hl:s.size<=1048576):PCall (En G) 290 [.str s,.str ⟨#[91]⟩] h (cutV s):=by
 refine PCall.of_reads (cok 290 G (by kernel_rfl)) fun g w cargs S ha=>?_
 obtain⟨hsz,hget⟩:=ha
 obtain⟨cv0,cv1,rfl⟩:∃a b,cargs = #[a,b]:=by
  obtain⟨l⟩:=cargs
  match l,hsz with
  | [a,b],_=>exact⟨a,b,rfl⟩
 obtain rfl:=(hget 0 _ cv0 rfl rfl).str_inv;obtain rfl:=(hget 1 _ cv1 rfl rfl).str_inv;obtain⟨z,hz⟩:=hG.mx;have hc:=AUZ S hz;have:=Any.strings_Cut A5V s ⟨#[91]⟩ z w (by omega) hc;refine⟨_,?_,this⟩;refine .tup _ _ rfl ?_;intro i v cv h1 h2
 match i,h1,h2 with
 | 0,h1,h2=>simp at h1 h2; subst h1; subst h2; exact .str _ _
 | 1,h1,h2=>simp at h1 h2; subst h1; subst h2; exact .str _ _
 | 2,h1,h2=>simp at h1 h2; subst h1; subst h2; exact .bool _ _
def QK (s:ByteArray):Option (List UInt8×UInt8) :=
 if 4<=s.data.toList.length then match s.data.toList.drop (s.data.toList.length-3) with
  | [x,d,y]=>if(y==93&&x==91&&decide (48<=d.toNat)&&decide (d.toNat<56)&&IE ⟨(s.data.toList.take (s.data.toList.length-3)).toArray⟩)=true then some (s.data.toList.take (s.data.toList.length-3),d) else none
  | _=>none
 else none
def elemV (o:Option (List UInt8×UInt8)):AV:=match o with
 | some (a,d)=>.tup [.str ⟨a.toArray⟩,.int .i64 ((d.toNat:Int)-48),.bool true]
 | none=>.tup [.str ⟨#[]⟩,.int .i64 0,.bool false]
theorem APE {l:List UInt8}(h:IE ⟨l.toArray⟩=true):l≠[]∧∀b∈l,b≠91:=by
 have hw:TZ ⟨l.toArray⟩=true:=by
  unfold IE at h;exact(Bool.and_eq_true_iff.1 (Bool.and_eq_true_iff.1 h).1).1
 unfold TZ at hw;obtain⟨h1,h2⟩:=Bool.and_eq_true_iff.1 hw;refine⟨?_,?_⟩
 .intro e; subst e; cases h1
 .intro b hb e
  subst e;have:=List.all_eq_true.1 h2 91 hb
  revert this; decide
theorem three {l:List UInt8}(h:3<=l.length):∃a x d y,l=a++[x,d,y]:=by
 refine⟨l.take (l.length-3),?_⟩;have h1:(l.drop (l.length-3)).length=3:=by simp; omega
 match hm:l.drop (l.length-3),h1 with
 | [x,d,y],_=>exact⟨x,d,y,by rw[<-hm,List.take_append_drop]⟩
theorem AE1 {a:List UInt8}{x d y:UInt8}(ha:a≠[]):QK ⟨(a++[x,d,y]).toArray⟩=if(y==93&&x==91&&decide (48<=d.toNat)&&decide (d.toNat<56)&&IE ⟨a.toArray⟩)=true then some (a,d) else none:=by
 have hl:0<a.length:=List.length_pos_iff.2 ha;unfold QK;simp only;rw[if_pos (by simp; omega)];have e:(a++[x,d,y]).length-3=a.length:=by simp
 rw[e,List.drop_left,List.take_left]
theorem AVN (s:ByteArray):QK s=if((Lib.cut s.data.toList [91]).2.2&&IE ⟨(Lib.cut s.data.toList [91]).1.toArray⟩)=true then match (Lib.cut s.data.toList [91]).2.1 with
  | [d,y]=>if(y==93&&decide (48<=d.toNat)&&decide (d.toNat<56))=true then some ((Lib.cut s.data.toList [91]).1,d) else none
  | _=>none
 else none:=by
 obtain⟨⟨l⟩⟩:=s
 have hocc:∀i,Lib.occAt l [91] i=true↔l[i]?=some 91:=by
  intro i;unfold Lib.occAt;rcases Nat.lt_or_ge i l.length with h|h
  .rw[zK h,jS h]
   simp [List.isPrefixOf];exact eq_comm
  .rw[List.drop_eq_nil_of_le h,List.getElem?_eq_none h]; simp [List.isPrefixOf]
 -- an element name of the reference's kind
 have main:∀a d,a≠[]->IE ⟨a.toArray⟩=true->l=a++[91,d,93]->Lib.cut l [91]=(a,[d,93],true):=by
  intro a d ha hn hl;obtain⟨_,hne⟩:=APE hn
  have hi:Lib.index l [91]=(a.length:Int):=by
   refine Lib.index_first (by rw[hl]; simp) ((hocc _).2 (by rw[hl]; simp)) fun j hj=>?_
   rw[<-Bool.not_eq_true,hocc,hl,List.getElem?_append_left hj,jS hj];intro e;exact hne _ (List.getElem_mem hj) (Option.some.inj e)
  unfold Lib.cut;rw[hi,if_pos (by omega),wE,hl,List.take_left,<-List.drop_drop,List.drop_left];rfl
 show QK ⟨l.toArray⟩=_;rcases hcase:QK ⟨l.toArray⟩ with _|⟨a,d⟩
 .symm
  show(if _ then _ else none)=none;simp only;split
  .rename_i hb
   rw[jV] at hb;split
   .rename_i d y hm
    split
    .rename_i hd
     exfalso;simp only[jV,beq_iff_eq,decide_eq_true_eq] at hd;obtain⟨⟨rfl,hd1⟩,hd2⟩:=hd;obtain⟨ha,_⟩:=APE hb.2
     have hc:Lib.cut l [91]=((Lib.cut l [91]).1,[d,93],true):=by
      rw[<-hm]; have:=hb.1; cases hcc:Lib.cut l [91] with
      | mk p q=>cases q with
        | mk q1 q2=>rw[hcc] at this; simp at this; subst this; rfl
     have hl:l=(Lib.cut l [91]).1++[91,d,93]:=by
      generalize (Lib.cut l [91]).1=b at hc;unfold Lib.cut at hc;split at hc
      .rename_i h0
       obtain⟨i,hi⟩:∃i:Nat,Lib.index l [91]=i:=⟨(Lib.index l [91]).toNat,by omega⟩;rw[hi] at hc;simp only[wE,Prod.mk.injEq,List.length_singleton] at hc;rcases Lib.index_spec l [91] with⟨h1,_⟩|⟨j,h1,_,h3,_⟩
       .omega
       .have hj:i=j:=by omega
        subst hj;have h4:=(hocc i).1 h3;have h5:i<l.length:=(List.getElem?_eq_some_iff.1 h4).1;have h6:l[i]=91:=by rw[jS h5] at h4; exact Option.some.inj h4
        rw[<-hc.1]
        calc l=l.take i++l.drop i:=(List.take_append_drop i l).symm
         _=l.take i++(l[i]::l.drop (i+1)):=by rw[zK h5]
         _=l.take i++[91,d,93]:=by rw[h6,hc.2.1]
      .simp at hc
     have:=AE1 (x:=91) (d:=d) (y:=93) ha;rw[<-hl,hcase,if_pos (by simp [hb.2,hd1,hd2])] at this;cases this
    .rfl
   .rfl
  .rfl
 .have h4:4<=l.length:=by
   unfold QK at hcase;simp only at hcase;split at hcase
   .assumption
   .cases hcase
  obtain⟨b,x,d',y,rfl⟩:=three (show 3<=l.length by omega);have hb:b≠[]:=by intro e; subst e; simp at h4
  rw[AE1 hb] at hcase;split at hcase
  .rename_i hc
   cases hcase;simp only[jV,beq_iff_eq,decide_eq_true_eq] at hc;obtain⟨⟨⟨⟨rfl,rfl⟩,h1⟩,h2⟩,h3⟩:=hc;simp only;rw[main a d hb h3 rfl];simp [h3,h1,h2]
  .cases hcase
end Go.Proofs.YtocilianjfhifaaGreatDoor.Cov
