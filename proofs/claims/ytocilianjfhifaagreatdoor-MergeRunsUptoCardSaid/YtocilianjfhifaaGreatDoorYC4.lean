/- Part 4 of the proof (Ft, B1, B2, B3, B4, B5, B6, B7, E1, E2, E3); no condition. -/
import Derived.Test.YtocilianjfhifaaGreatDoorProg
import Derived.KernelRfl
import Derived.Laws.RangeAny
import Derived.Shelf.Strings.Cut
import Derived.Lib.IndexMore
import Derived.Test.YtocilianjfhifaaGreatDoorYC3
set_option linter.unusedVariables false
namespace Go.Proofs.YtocilianjfhifaaGreatDoor.Sm

theorem sz3:szO Tryz.prog 3=some 1:=by kernel_rfl
theorem ag3:LM Tryz.prog 3=some false:=by kernel_rfl
theorem ag4:LM Tryz.prog 4=some false:=by kernel_rfl
theorem sz9:szO Tryz.prog 9=some 1:=by kernel_rfl
theorem ag9:LM Tryz.prog 9=some false:=by kernel_rfl
theorem WN:LM Tryz.prog 22=some false:=by kernel_rfl
theorem AA5:LM Tryz.prog 23=some false:=by kernel_rfl
theorem AWK:szO Tryz.prog 25=some 2:=by kernel_rfl
theorem A4B:LM Tryz.prog 25=some true:=by kernel_rfl
theorem ALZ:szO Tryz.prog 26=some 1:=by kernel_rfl
theorem QX:LM Tryz.prog 26=some false:=by kernel_rfl
theorem AB8:szO Tryz.prog 28=some 4:=by kernel_rfl
theorem AV1:LM Tryz.prog 28=some true:=by kernel_rfl
theorem A0C:szO Tryz.prog 38=some 1:=by kernel_rfl
theorem AV0:LM Tryz.prog 38=some false:=by kernel_rfl
theorem ASR:szO Tryz.prog 47=some 1:=by kernel_rfl
theorem A4A:LM Tryz.prog 47=some true:=by kernel_rfl
theorem ALO:LM Tryz.prog 51=some false:=by kernel_rfl
theorem ADB:szO Tryz.prog 53=some 4:=by kernel_rfl
theorem AIV:LM Tryz.prog 53=some true:=by kernel_rfl
theorem SG:LM Tryz.prog 54=some false:=by kernel_rfl
theorem YW:szO Tryz.prog 56=some 6:=by kernel_rfl
theorem ACG:LM Tryz.prog 56=some true:=by kernel_rfl
theorem VJ:szO Tryz.prog 57=some 1:=by kernel_rfl
theorem KC:LM Tryz.prog 57=some false:=by kernel_rfl
theorem A1Z:szO Tryz.prog 58=some 1:=by kernel_rfl
theorem A1L:LM Tryz.prog 58=some false:=by kernel_rfl
theorem A0B:szO Tryz.prog 64=some 1:=by kernel_rfl
theorem A1K:LM Tryz.prog 64=some false:=by kernel_rfl
theorem XH:szO Tryz.prog 71=some 3:=by kernel_rfl
theorem ZV:LM Tryz.prog 71=some true:=by kernel_rfl
theorem AOG:szO Tryz.prog 106=some 3:=by kernel_rfl
theorem A4F:LM Tryz.prog 106=some true:=by kernel_rfl
theorem ABC:szO Tryz.prog 108=some 4:=by kernel_rfl
theorem AV2:LM Tryz.prog 108=some true:=by kernel_rfl
theorem AZL:szO Tryz.prog 118=some 1:=by kernel_rfl
theorem PE:LM Tryz.prog 118=some false:=by kernel_rfl
theorem VG:LM Tryz.prog 119=some false:=by kernel_rfl
theorem QK:szO Tryz.prog 121=some 4:=by kernel_rfl
theorem VF:LM Tryz.prog 121=some true:=by kernel_rfl
theorem AZK:szO Tryz.prog 133=some 2:=by kernel_rfl
theorem A4E:LM Tryz.prog 133=some true:=by kernel_rfl
theorem AZJ:szO Tryz.prog 146=some 1:=by kernel_rfl
theorem AST:szO Tryz.prog 179=some 1:=by kernel_rfl
theorem AG0:LM Tryz.prog 179=some false:=by kernel_rfl
theorem AOF:szO Tryz.prog 185=some 2:=by kernel_rfl
theorem AZ0:LM Tryz.prog 185=some true:=by kernel_rfl
theorem ASS:szO Tryz.prog 187=some 2:=by kernel_rfl
theorem A4D:LM Tryz.prog 187=some true:=by kernel_rfl
theorem AZI:szO Tryz.prog 195=some 1:=by kernel_rfl
theorem A4C:LM Tryz.prog 195=some true:=by kernel_rfl
theorem be4:∀p q,JG Tryz.prog 4 .eql (.bool p) (.bool q)=some (.bool (p==q)):=fun p q=>AVQ Tryz.prog 4 p q (by kernel_rfl)
theorem bn4:∀p q,JG Tryz.prog 4 .neq (.bool p) (.bool q)=some (.bool (!(p==q))):=fun p q=>AVP Tryz.prog 4 p q (by kernel_rfl)
theorem ln9:∀s,LH Tryz.prog 9 (.str s)=some (.int .i64 s.size):=AXW (by kernel_rfl:Tryz.prog.underlying 9=some .string)
theorem SS:∀h a i,G6 Tryz.prog h 22 a i=KH 6 h a i:=IP (by kernel_rfl:Tryz.prog.underlying 22=some (.slice 56)) YW
theorem QS:(∀m k xs,LH Tryz.prog 22 (.sl m k xs)=some (.int .i64 xs.length))∧∀b off len,LH Tryz.prog 22 (.own b off len)=some (.int .i64 len):=N9 (by kernel_rfl:Tryz.prog.underlying 22=some (.slice 56))
theorem V7:∀h a i,G6 Tryz.prog h 23 a i=KH 3 h a i:=IP (by kernel_rfl:Tryz.prog.underlying 23=some (.slice 71)) XH
theorem VL:(∀m k xs,LH Tryz.prog 23 (.sl m k xs)=some (.int .i64 xs.length))∧∀b off len,LH Tryz.prog 23 (.own b off len)=some (.int .i64 len):=N9 (by kernel_rfl:Tryz.prog.underlying 23=some (.slice 71))
theorem IR:(∀b i j,DV Tryz.prog 25 (.ptr b i j) 0=some (.ptr b i (j+0)))∧(∀k xs i j,DV Tryz.prog 25 (.fptr k xs i j) 0=some (.fptr k xs i (j+0))):=JZ (by kernel_rfl:MM Tryz.prog 25 0 0=true)
theorem J4:(∀b i j,DV Tryz.prog 25 (.ptr b i j) 1=some (.ptr b i (j+1)))∧(∀k xs i j,DV Tryz.prog 25 (.fptr k xs i j) 1=some (.fptr k xs i (j+1))):=JZ (by kernel_rfl:MM Tryz.prog 25 1 1=true)
theorem N7:∀h a i,G6 Tryz.prog h 26 a i=KH 1 h a i:=IP (by kernel_rfl:Tryz.prog.underlying 26=some (.slice 57)) VJ
theorem XI:(∀m k xs,LH Tryz.prog 26 (.sl m k xs)=some (.int .i64 xs.length))∧∀b off len,LH Tryz.prog 26 (.own b off len)=some (.int .i64 len):=N9 (by kernel_rfl:Tryz.prog.underlying 26=some (.slice 57))
theorem YU:Tryz.prog.underlying 26=some (.slice 57):=by kernel_rfl
theorem AB6:UR Tryz.prog 57=some 1:=by kernel_rfl
theorem ZQ:MZ Tryz.prog 57=some 24:=by kernel_rfl
theorem L8:(∀b i j,DV Tryz.prog 28 (.ptr b i j) 0=some (.ptr b i (j+0)))∧(∀k xs i j,DV Tryz.prog 28 (.fptr k xs i j) 0=some (.fptr k xs i (j+0))):=JZ (by kernel_rfl:MM Tryz.prog 28 0 0=true)
theorem KX:(∀b i j,DV Tryz.prog 28 (.ptr b i j) 1=some (.ptr b i (j+1)))∧(∀k xs i j,DV Tryz.prog 28 (.fptr k xs i j) 1=some (.fptr k xs i (j+1))):=JZ (by kernel_rfl:MM Tryz.prog 28 1 1=true)
theorem TU:(∀b i j,DV Tryz.prog 28 (.ptr b i j) 2=some (.ptr b i (j+2)))∧(∀k xs i j,DV Tryz.prog 28 (.fptr k xs i j) 2=some (.fptr k xs i (j+2))):=JZ (by kernel_rfl:MM Tryz.prog 28 2 2=true)
theorem U6:(∀b i j,DV Tryz.prog 28 (.ptr b i j) 3=some (.ptr b i (j+3)))∧(∀k xs i j,DV Tryz.prog 28 (.fptr k xs i j) 3=some (.fptr k xs i (j+3))):=JZ (by kernel_rfl:MM Tryz.prog 28 3 3=true)
theorem AT1:∀h a i,G6 Tryz.prog h 32 a i=KH 3 h a i:=IP (by kernel_rfl:Tryz.prog.underlying 32=some (.slice 106)) AOG
theorem A2T:(∀m k xs,LH Tryz.prog 32 (.sl m k xs)=some (.int .i64 xs.length))∧∀b off len,LH Tryz.prog 32 (.own b off len)=some (.int .i64 len):=N9 (by kernel_rfl:Tryz.prog.underlying 32=some (.slice 106))
theorem A1W:Tryz.prog.underlying 32=some (.slice 106):=by kernel_rfl
theorem A1R:UR Tryz.prog 106=some 3:=by kernel_rfl
theorem A5J:MZ Tryz.prog 106=some 40:=by kernel_rfl
theorem A2X:∀h a i,G6 Tryz.prog h 37 a i=KH 4 h a i:=IP (by kernel_rfl:Tryz.prog.underlying 37=some (.slice 28)) AB8
theorem A2S:(∀m k xs,LH Tryz.prog 37 (.sl m k xs)=some (.int .i64 xs.length))∧∀b off len,LH Tryz.prog 37 (.own b off len)=some (.int .i64 len):=N9 (by kernel_rfl:Tryz.prog.underlying 37=some (.slice 28))
theorem A4T:Tryz.prog.underlying 37=some (.slice 28):=by kernel_rfl
theorem A4R:UR Tryz.prog 28=some 4:=by kernel_rfl
theorem A5I:MZ Tryz.prog 28=some 64:=by kernel_rfl
theorem RZ:(∀b i j,DV Tryz.prog 47 (.ptr b i j) 0=some (.ptr b i (j+0)))∧(∀k xs i j,DV Tryz.prog 47 (.fptr k xs i j) 0=some (.fptr k xs i (j+0))):=JZ (by kernel_rfl:MM Tryz.prog 47 0 0=true)
theorem AQ1:∀h a i,G6 Tryz.prog h 51 a i=KH 4 h a i:=IP (by kernel_rfl:Tryz.prog.underlying 51=some (.slice 53)) ADB
theorem AKG:(∀m k xs,LH Tryz.prog 51 (.sl m k xs)=some (.int .i64 xs.length))∧∀b off len,LH Tryz.prog 51 (.own b off len)=some (.int .i64 len):=N9 (by kernel_rfl:Tryz.prog.underlying 51=some (.slice 53))
theorem IW:(∀b i j,DV Tryz.prog 53 (.ptr b i j) 0=some (.ptr b i (j+0)))∧(∀k xs i j,DV Tryz.prog 53 (.fptr k xs i j) 0=some (.fptr k xs i (j+0))):=JZ (by kernel_rfl:MM Tryz.prog 53 0 0=true)
theorem AAU:(∀b i j,DV Tryz.prog 53 (.ptr b i j) 1=some (.ptr b i (j+1)))∧(∀k xs i j,DV Tryz.prog 53 (.fptr k xs i j) 1=some (.fptr k xs i (j+1))):=JZ (by kernel_rfl:MM Tryz.prog 53 1 1=true)
theorem MI:(∀b i j,DV Tryz.prog 53 (.ptr b i j) 2=some (.ptr b i (j+2)))∧(∀k xs i j,DV Tryz.prog 53 (.fptr k xs i j) 2=some (.fptr k xs i (j+2))):=JZ (by kernel_rfl:MM Tryz.prog 53 2 2=true)
theorem TT:(∀b i j,DV Tryz.prog 53 (.ptr b i j) 3=some (.ptr b i (j+3)))∧(∀k xs i j,DV Tryz.prog 53 (.fptr k xs i j) 3=some (.fptr k xs i (j+3))):=JZ (by kernel_rfl:MM Tryz.prog 53 3 3=true)
theorem YD:∀h a i,G6 Tryz.prog h 54 a i=KH 4 h a i:=IP (by kernel_rfl:Tryz.prog.underlying 54=some (.slice 121)) QK
theorem RQ:(∀m k xs,LH Tryz.prog 54 (.sl m k xs)=some (.int .i64 xs.length))∧∀b off len,LH Tryz.prog 54 (.own b off len)=some (.int .i64 len):=N9 (by kernel_rfl:Tryz.prog.underlying 54=some (.slice 121))
theorem AH8:(∀b i j,DV Tryz.prog 56 (.ptr b i j) 0=some (.ptr b i (j+0)))∧(∀k xs i j,DV Tryz.prog 56 (.fptr k xs i j) 0=some (.fptr k xs i (j+0))):=JZ (by kernel_rfl:MM Tryz.prog 56 0 0=true)
theorem AH7:(∀b i j,DV Tryz.prog 56 (.ptr b i j) 1=some (.ptr b i (j+1)))∧(∀k xs i j,DV Tryz.prog 56 (.fptr k xs i j) 1=some (.fptr k xs i (j+1))):=JZ (by kernel_rfl:MM Tryz.prog 56 1 1=true)
theorem JB:(∀b i j,DV Tryz.prog 56 (.ptr b i j) 2=some (.ptr b i (j+5)))∧(∀k xs i j,DV Tryz.prog 56 (.fptr k xs i j) 2=some (.fptr k xs i (j+5))):=JZ (by kernel_rfl:MM Tryz.prog 56 2 5=true)
theorem JF:∀h a i,G6 Tryz.prog h 57 a i=KH 1 h a i:=IP (by kernel_rfl:Tryz.prog.underlying 57=some (.slice 3)) sz3
theorem JA:(∀m k xs,LH Tryz.prog 57 (.sl m k xs)=some (.int .i64 xs.length))∧∀b off len,LH Tryz.prog 57 (.own b off len)=some (.int .i64 len):=N9 (by kernel_rfl:Tryz.prog.underlying 57=some (.slice 3))
theorem TN:Tryz.prog.underlying 57=some (.slice 3):=by kernel_rfl
theorem XG:UR Tryz.prog 3=some 1:=by kernel_rfl
theorem VN:MZ Tryz.prog 3=some 8:=by kernel_rfl
theorem A03:∀h a i,G6 Tryz.prog h 58 a i=KH 2 h a i:=IP (by kernel_rfl:Tryz.prog.underlying 58=some (.slice 187)) ASS
theorem A2R:(∀m k xs,LH Tryz.prog 58 (.sl m k xs)=some (.int .i64 xs.length))∧∀b off len,LH Tryz.prog 58 (.own b off len)=some (.int .i64 len):=N9 (by kernel_rfl:Tryz.prog.underlying 58=some (.slice 187))
theorem A2W:∀h a i,G6 Tryz.prog h 64 a i=KH 1 h a i:=IP (by kernel_rfl:Tryz.prog.underlying 64=some (.slice 58)) A1Z
theorem A0Y:(∀m k xs,LH Tryz.prog 64 (.sl m k xs)=some (.int .i64 xs.length))∧∀b off len,LH Tryz.prog 64 (.own b off len)=some (.int .i64 len):=N9 (by kernel_rfl:Tryz.prog.underlying 64=some (.slice 58))
theorem A4S:Tryz.prog.underlying 64=some (.slice 58):=by kernel_rfl
theorem AH6:(∀b i j,DV Tryz.prog 71 (.ptr b i j) 0=some (.ptr b i (j+0)))∧(∀k xs i j,DV Tryz.prog 71 (.fptr k xs i j) 0=some (.fptr k xs i (j+0))):=JZ (by kernel_rfl:MM Tryz.prog 71 0 0=true)
theorem KI:(∀b i j,DV Tryz.prog 71 (.ptr b i j) 1=some (.ptr b i (j+1)))∧(∀k xs i j,DV Tryz.prog 71 (.fptr k xs i j) 1=some (.fptr k xs i (j+1))):=JZ (by kernel_rfl:MM Tryz.prog 71 1 1=true)
theorem U5:(∀b i j,DV Tryz.prog 71 (.ptr b i j) 2=some (.ptr b i (j+2)))∧(∀k xs i j,DV Tryz.prog 71 (.fptr k xs i j) 2=some (.fptr k xs i (j+2))):=JZ (by kernel_rfl:MM Tryz.prog 71 2 2=true)
theorem A02:∀h a i,G6 Tryz.prog h 96 a i=KH 1 h a i:=IP (by kernel_rfl:Tryz.prog.underlying 96=some (.slice 64)) A0B
theorem A0X:(∀m k xs,LH Tryz.prog 96 (.sl m k xs)=some (.int .i64 xs.length))∧∀b off len,LH Tryz.prog 96 (.own b off len)=some (.int .i64 len):=N9 (by kernel_rfl:Tryz.prog.underlying 96=some (.slice 64))
theorem A1V:Tryz.prog.underlying 96=some (.slice 64):=by kernel_rfl
theorem A4Q:UR Tryz.prog 64=some 1:=by kernel_rfl
theorem A5H:MZ Tryz.prog 64=some 24:=by kernel_rfl
theorem AZR:∀h a i,G6 Tryz.prog h 101 a i=KH 4 h a i:=IP (by kernel_rfl:Tryz.prog.underlying 101=some (.slice 108)) ABC
theorem ATS:(∀m k xs,LH Tryz.prog 101 (.sl m k xs)=some (.int .i64 xs.length))∧∀b off len,LH Tryz.prog 101 (.own b off len)=some (.int .i64 len):=N9 (by kernel_rfl:Tryz.prog.underlying 101=some (.slice 108))
theorem ASO:Tryz.prog.underlying 101=some (.slice 108):=by kernel_rfl
theorem ASF:UR Tryz.prog 108=some 4:=by kernel_rfl
theorem AZX:MZ Tryz.prog 108=some 48:=by kernel_rfl
theorem APO:(∀b i j,DV Tryz.prog 106 (.ptr b i j) 0=some (.ptr b i (j+0)))∧(∀k xs i j,DV Tryz.prog 106 (.fptr k xs i j) 0=some (.fptr k xs i (j+0))):=JZ (by kernel_rfl:MM Tryz.prog 106 0 0=true)
theorem AIC:(∀b i j,DV Tryz.prog 106 (.ptr b i j) 1=some (.ptr b i (j+1)))∧(∀k xs i j,DV Tryz.prog 106 (.fptr k xs i j) 1=some (.fptr k xs i (j+1))):=JZ (by kernel_rfl:MM Tryz.prog 106 1 1=true)
theorem AIB:(∀b i j,DV Tryz.prog 106 (.ptr b i j) 2=some (.ptr b i (j+2)))∧(∀k xs i j,DV Tryz.prog 106 (.fptr k xs i j) 2=some (.fptr k xs i (j+2))):=JZ (by kernel_rfl:MM Tryz.prog 106 2 2=true)
theorem ACW:(∀b i j,DV Tryz.prog 108 (.ptr b i j) 0=some (.ptr b i (j+0)))∧(∀k xs i j,DV Tryz.prog 108 (.fptr k xs i j) 0=some (.fptr k xs i (j+0))):=JZ (by kernel_rfl:MM Tryz.prog 108 0 0=true)
theorem APN:(∀b i j,DV Tryz.prog 108 (.ptr b i j) 1=some (.ptr b i (j+3)))∧(∀k xs i j,DV Tryz.prog 108 (.fptr k xs i j) 1=some (.fptr k xs i (j+3))):=JZ (by kernel_rfl:MM Tryz.prog 108 1 3=true)
theorem AD0:∀h a i,G6 Tryz.prog h 118 a i=KH 2 h a i:=IP (by kernel_rfl:Tryz.prog.underlying 118=some (.slice 185)) AOF
theorem TD:(∀m k xs,LH Tryz.prog 118 (.sl m k xs)=some (.int .i64 xs.length))∧∀b off len,LH Tryz.prog 118 (.own b off len)=some (.int .i64 len):=N9 (by kernel_rfl:Tryz.prog.underlying 118=some (.slice 185))
theorem ABM:∀h a i,G6 Tryz.prog h 119 a i=KH 1 h a i:=IP (by kernel_rfl:Tryz.prog.underlying 119=some (.slice 118)) AZL
theorem RS:(∀m k xs,LH Tryz.prog 119 (.sl m k xs)=some (.int .i64 xs.length))∧∀b off len,LH Tryz.prog 119 (.own b off len)=some (.int .i64 len):=N9 (by kernel_rfl:Tryz.prog.underlying 119=some (.slice 118))
theorem ACV:(∀b i j,DV Tryz.prog 121 (.ptr b i j) 0=some (.ptr b i (j+0)))∧(∀k xs i j,DV Tryz.prog 121 (.fptr k xs i j) 0=some (.fptr k xs i (j+0))):=JZ (by kernel_rfl:MM Tryz.prog 121 0 0=true)
theorem MP:(∀b i j,DV Tryz.prog 121 (.ptr b i j) 1=some (.ptr b i (j+1)))∧(∀k xs i j,DV Tryz.prog 121 (.fptr k xs i j) 1=some (.fptr k xs i (j+1))):=JZ (by kernel_rfl:MM Tryz.prog 121 1 1=true)
theorem QV:(∀b i j,DV Tryz.prog 121 (.ptr b i j) 2=some (.ptr b i (j+2)))∧(∀k xs i j,DV Tryz.prog 121 (.fptr k xs i j) 2=some (.fptr k xs i (j+2))):=JZ (by kernel_rfl:MM Tryz.prog 121 2 2=true)
theorem OG:(∀b i j,DV Tryz.prog 121 (.ptr b i j) 3=some (.ptr b i (j+3)))∧(∀k xs i j,DV Tryz.prog 121 (.fptr k xs i j) 3=some (.fptr k xs i (j+3))):=JZ (by kernel_rfl:MM Tryz.prog 121 3 3=true)
theorem AX9:(∀b i j,DV Tryz.prog 133 (.ptr b i j) 0=some (.ptr b i (j+0)))∧(∀k xs i j,DV Tryz.prog 133 (.fptr k xs i j) 0=some (.fptr k xs i (j+0))):=JZ (by kernel_rfl:MM Tryz.prog 133 0 0=true)
theorem APM:(∀b i j,DV Tryz.prog 133 (.ptr b i j) 1=some (.ptr b i (j+1)))∧(∀k xs i j,DV Tryz.prog 133 (.fptr k xs i j) 1=some (.fptr k xs i (j+1))):=JZ (by kernel_rfl:MM Tryz.prog 133 1 1=true)
theorem AZG:Tryz.prog.underlying 143=some (.slice 146):=by kernel_rfl
theorem ASE:UR Tryz.prog 146=some 1:=by kernel_rfl
theorem AVG:MZ Tryz.prog 146=some 24:=by kernel_rfl
theorem ATR:(∀m k xs,LH Tryz.prog 146 (.sl m k xs)=some (.int .i64 xs.length))∧∀b off len,LH Tryz.prog 146 (.own b off len)=some (.int .i64 len):=N9 (by kernel_rfl:Tryz.prog.underlying 146=some (.slice 4))
theorem A1X:Tryz.prog.underlying 146=some (.slice 4):=by kernel_rfl
theorem AGA:∀h a i,G6 Tryz.prog h 179 a i=KH 1 h a i:=IP (by kernel_rfl:Tryz.prog.underlying 179=some (.slice 9)) sz9
theorem ABK:(∀m k xs,LH Tryz.prog 179 (.sl m k xs)=some (.int .i64 xs.length))∧∀b off len,LH Tryz.prog 179 (.own b off len)=some (.int .i64 len):=N9 (by kernel_rfl:Tryz.prog.underlying 179=some (.slice 9))
theorem ASN:Tryz.prog.underlying 179=some (.slice 9):=by kernel_rfl
theorem ASD:UR Tryz.prog 9=some 1:=by kernel_rfl
theorem AVF:MZ Tryz.prog 9=some 16:=by kernel_rfl
theorem APL:(∀b i j,DV Tryz.prog 181 (.ptr b i j) 0=some (.ptr b i (j+0)))∧(∀k xs i j,DV Tryz.prog 181 (.fptr k xs i j) 0=some (.fptr k xs i (j+0))):=JZ (by kernel_rfl:MM Tryz.prog 181 0 0=true)
theorem AIA:(∀b i j,DV Tryz.prog 181 (.ptr b i j) 1=some (.ptr b i (j+1)))∧(∀k xs i j,DV Tryz.prog 181 (.fptr k xs i j) 1=some (.fptr k xs i (j+1))):=JZ (by kernel_rfl:MM Tryz.prog 181 1 1=true)
theorem ZJ:(∀b i j,DV Tryz.prog 181 (.ptr b i j) 2=some (.ptr b i (j+2)))∧(∀k xs i j,DV Tryz.prog 181 (.fptr k xs i j) 2=some (.fptr k xs i (j+2))):=JZ (by kernel_rfl:MM Tryz.prog 181 2 2=true)
theorem APK:(∀b i j,DV Tryz.prog 181 (.ptr b i j) 3=some (.ptr b i (j+3)))∧(∀k xs i j,DV Tryz.prog 181 (.fptr k xs i j) 3=some (.fptr k xs i (j+3))):=JZ (by kernel_rfl:MM Tryz.prog 181 3 3=true)
theorem AH9:(∀b i j,DV Tryz.prog 181 (.ptr b i j) 4=some (.ptr b i (j+4)))∧(∀k xs i j,DV Tryz.prog 181 (.fptr k xs i j) 4=some (.fptr k xs i (j+4))):=JZ (by kernel_rfl:MM Tryz.prog 181 4 4=true)
theorem XC:(∀b i j,DV Tryz.prog 185 (.ptr b i j) 0=some (.ptr b i (j+0)))∧(∀k xs i j,DV Tryz.prog 185 (.fptr k xs i j) 0=some (.fptr k xs i (j+0))):=JZ (by kernel_rfl:MM Tryz.prog 185 0 0=true)
theorem XB:(∀b i j,DV Tryz.prog 185 (.ptr b i j) 1=some (.ptr b i (j+1)))∧(∀k xs i j,DV Tryz.prog 185 (.fptr k xs i j) 1=some (.fptr k xs i (j+1))):=JZ (by kernel_rfl:MM Tryz.prog 185 1 1=true)
theorem APJ:(∀b i j,DV Tryz.prog 187 (.ptr b i j) 0=some (.ptr b i (j+0)))∧(∀k xs i j,DV Tryz.prog 187 (.fptr k xs i j) 0=some (.fptr k xs i (j+0))):=JZ (by kernel_rfl:MM Tryz.prog 187 0 0=true)
theorem API:(∀b i j,DV Tryz.prog 187 (.ptr b i j) 1=some (.ptr b i (j+1)))∧(∀k xs i j,DV Tryz.prog 187 (.fptr k xs i j) 1=some (.fptr k xs i (j+1))):=JZ (by kernel_rfl:MM Tryz.prog 187 1 1=true)
theorem AX8:(∀b i j,DV Tryz.prog 195 (.ptr b i j) 0=some (.ptr b i (j+0)))∧(∀k xs i j,DV Tryz.prog 195 (.fptr k xs i j) 0=some (.fptr k xs i (j+0))):=JZ (by kernel_rfl:MM Tryz.prog 195 0 0=true)
theorem A3A:∀n,WP Tryz.prog 3 5 (.int .i64 n)=some (.int .u8 (IntKind.u8.wrap n)):=fun n=>ZP (ds:=.int .i64) Tryz.prog .i64 n (by kernel_rfl) (by kernel_rfl)
theorem AYN:∀n,WP Tryz.prog 3 252 (.int .i64 n)=some (.int .u16 (IntKind.u16.wrap n)):=fun n=>ZP (ds:=.int .i64) Tryz.prog .i64 n (by kernel_rfl) (by kernel_rfl)
theorem AU7:∀n,WP Tryz.prog 5 3 (.int .u8 n)=some (.int .i64 (IntKind.i64.wrap n)):=fun n=>ZP (ds:=.int .u8) Tryz.prog .u8 n (by kernel_rfl) (by kernel_rfl)
theorem AYO:∀n,WP Tryz.prog 252 3 (.int .u16 n)=some (.int .i64 (IntKind.i64.wrap n)):=fun n=>ZP (ds:=.int .u16) Tryz.prog .u16 n (by kernel_rfl) (by kernel_rfl)
noncomputable def En (G:Nat->AV):Env:=⟨Tryz.prog,G⟩
theorem enP (G:Nat->AV):(En G).P=Tryz.prog:=rfl
theorem enG (G:Nat->AV):(En G).G=G:=rfl
theorem enM (G:Nat->AV):(En G).P.follows .mixedOrders=true:=by kernel_rfl
theorem acN {G:Nat->AV}{f:FuncId}{fn:Func}{c:Code}{args:List AV}{h:Hp}{R:AV->Hp->Prop}(hf:(En G).P.funcs[f]?=some fn)(hb:fn.body=some c)(hw:awp (En G) Hint.none c (OE args) h (EN (En G).P fn.results.toList R))(h1:(fn.name == "runtime.NumGoroutine")=false:=by kernel_rfl) (h2:WG fn.ntmps c=true:=by kernel_rfl) (h3:Nat.ble args.length fn.ntmps=true:=by kernel_rfl):ACalls (En G) f args h R:=LV (enM G) hf hb h1 h2 (Nat.le_of_ble_eq_true h3) hw
end Go.Proofs.YtocilianjfhifaaGreatDoor.Sm
namespace Go.Proofs.YtocilianjfhifaaGreatDoor.Bins
open Sm
structure Rng where
 lo:Int
 hi:Int
 deriving DecidableEq
def encR (r:Rng):List AV:=[.int .i64 r.lo,.int .i64 r.hi]
theorem AEK (r:Rng):(encR r).length=2:=rfl
theorem XU (r:Rng):(encR r)[0]?=some (.int .i64 r.lo):=rfl
theorem XT (r:Rng):(encR r)[1]?=some (.int .i64 r.hi):=rfl
def inside (xs:List Rng)(v:Int):Bool:=xs.any fun r=>decide (r.lo<=v)&&decide (v<=r.hi)
theorem LD {α:Type}(p:α->Bool)(xs:List α)(k:Nat)(h:k<xs.length):(xs.drop k).any p=(p xs[k]||(xs.drop (k+1)).any p):=by
 rw[List.drop_eq_getElem_cons h,List.any_cons]
theorem bxR (h:Hp)(r:Rng):PW h (.agg (encR r))=some (.ptr h.length 0 0,h++[.live 2 [encR r]]):=rfl
end Go.Proofs.YtocilianjfhifaaGreatDoor.Bins
set_option linter.unusedSimpArgs false
set_option maxRecDepth 8000
namespace Go.Proofs.YtocilianjfhifaaGreatDoor.Bins
open Sm
open Bool renaming not_false→jC,eq_iff_iff→qM,and_eq_true→jV,true_or→wE,false_or→qG,not_eq_true→qN
open List renaming length_map→jI,append_assoc→zA,drop_eq_nil_of_le→jW,map_cons→jD,map_nil→jE,findIdx?_eq_some_iff_getElem→qU,all_eq_true→zI,take_succ_eq_append_getElem→zL,take_of_length_le→jX,findIdx?_eq_none_iff→qV,append_nil→jF,any_eq_true→qH,any_eq_false→wB,getElem?_cons_zero→zB
open Nat renaming le_of_ble_eq_true→jH,reduceEqDiff→jA,add_zero→jL,zero_add→jG,reduceAdd→jK,lt_or_ge→zM,eq_zero_or_pos→qW
open Option renaming getD_some→jB
def bad (r:Rng):Bool:=decide (r.lo<0)||decide (r.lo>r.hi)||decide (r.hi>65535)
def JO (xs:List Rng):Int:=if xs.length>64 then 2 else if xs.any bad then 1 else 0
theorem ABH {xs:List Rng}(h:xs.length>64):JO xs=2:=by simp [JO,h]
theorem VX {xs:List Rng}(h:¬xs.length>64)(hb:xs.any bad=true):JO xs=1:=by simp [JO,h,hb]
theorem X7 {xs:List Rng}(h:¬xs.length>64)(hb:xs.any bad=false):JO xs=0:=by simp [JO,h,hb]
theorem A5V (h:Hp):KJ Tryz.prog h 185=some (.ptr h.length 0 0,h++[.live 2 [[.int .i64 0,.int .i64 0]]]):=J8 (row:=[.int .i64 0,.int .i64 0]) (by kernel_rfl)
theorem A4U (h:Hp)(r:Rng)(row:List AV)(hr:row.length=2):FW Tryz.prog (h++[.live 2 [row]]) 185 (.ptr h.length 0 0) (.agg (encR r))=some (h++[.live 2 [encR r]]):=by
 rw[MV (cs:=encR r) rfl AOF (by simp [hr,encR])];simp [splice,hr,encR]
theorem AJZ (G:Nat->AV)(xs:List Rng)(m:SM)(h:Hp)(hl:xs.length<=1099511627776) :
  PCall (En G) 203 [.sl m 2 (xs.map encR)] h (.int .i64 (JO xs)):=by
 refine ACalls.pure0 rfl ?_;refine acN Tryz.func203 rfl ?_;show awp _ _ _ _ _ (EN _ [.tmp 2] _);simp -implicitDefEqProofs only[BC,BA,BI,A8,AY,BB,AO,AQ,AL,BD,AX,AC,AA,AZ,AU,BH,BG,A7,BR,D7,AB,FV,BF,↓reduceIte,jA,jB,jC,enP,TD,jI];refine CU (fun hc=>?_) (fun hc=>?_)
 .simp -implicitDefEqProofs only[BC,BA,BK,A8,CP,CG,AY,BB,AO,AQ,AL,BD,AX,AC,AA,AU,BH,A7,↓reduceIte,jB,jC]
  exact⟨by rw[ABH (by simp at hc; omega)],[],by simp⟩
 simp -implicitDefEqProofs only[BC,BP,BA,BO,A8,AY,BB,AO,AQ,AL,BD,AX,AC,AA,AZ,AU,BH,BG,D7,AB,BF,↓reduceIte,jA,jB,jC,enP,TD,jI];have h64:¬xs.length>64:=by simp at hc; omega
 refine DK (fun n F H=>∃k,n+k=xs.length∧F 8=.sl m 2 (xs.map encR)∧F 9=.int .i64 xs.length∧F 10=.int .i64 (k:Nat)∧(∃x,H=h++x)∧xs.any bad=(xs.drop k).any bad) xs.length ⟨0,by simp,rfl,rfl,rfl,⟨[],by simp⟩,rfl⟩ ?_;rintro n F H ⟨k,hk,f8,f9,f10,⟨x,rfl⟩,hin⟩;simp -implicitDefEqProofs only[BC,BA,BI,A8,AY,BB,AO,AQ,AL,BD,AX,AC,AA,AZ,BR,AB,DC,↓reduceIte,jB,jC,enP,f8,f9,f10];refine CU (fun hc=>?_) (fun hc=>?_)
 .have hc':k<xs.length:=by simpa using hc
  have hs:=LD bad xs k hc';simp -implicitDefEqProofs only[BC,BP,BA,BO,A8,AY,BB,BL,BV,CO,AO,AQ,AL,BD,AX,AC,EM,AA,AZ,AU,BH,BG,FD,BQ,D5,BR,BJ,CE,BZ,AB,CX,DC,↓reduceIte,jA,jL,jB,jC,enP,AD0,XC,Option.getD_none,f8,f9,f10,DU hc',FM AZ0 AOF AEK hc',A5V,A4U _ _ [.int .i64 0,.int .i64 0] rfl,DL ag3,XU,XT];rw[hs] at hin;have fin:bad xs[k]=true->JO xs=1:=fun hb=>VX h64 (by rw[hin,hb]; rfl)
  have nxt:bad xs[k]=false->xs.any bad=(xs.drop (k+1)).any bad:=fun hb=>by rw[hin,hb]; rfl
  refine IL (fun ha=>?_) (fun ha=>?_)
  .simp -implicitDefEqProofs only[BC,BA,BK,BI,A8,CP,EG,FQ,CG,DI,AY,BB,BL,BV,CO,F7,AO,AQ,AL,BD,AX,AC,AA,EX,AZ,AU,BH,BM,BG,A7,CQ,DY,↓reduceIte,jA,jB,jC,ha]
   exact⟨by rw[fin (by unfold bad; rw[ha]; rfl)],_,by rw[zA]⟩
  simp -implicitDefEqProofs only[AY,BL,BV,CO,ES,AO,AQ,AL,BD,AX,AC,AA,AZ,AU,BM,BG,CQ,DX,BQ,BR,BJ,AB,FV,↓reduceIte,jA,jL,jG,jB,jC,enP,XC,XB,ha,DL ag3,XU,XT];refine IL (fun hb=>?_) (fun hb=>?_)
  .simp -implicitDefEqProofs only[BC,BA,BK,BI,A8,CP,EG,FQ,CG,DI,AY,BB,BL,BV,CO,F7,AO,AQ,AL,BD,AX,AC,AA,EX,AZ,AU,BH,BM,A7,CQ,DY,↓reduceIte,jA,jB,jC,hb]
   exact⟨by rw[fin (by unfold bad; rw[hb]; simp)],_,by rw[zA]⟩
  simp -implicitDefEqProofs only[BI,A8,AY,BB,BL,BV,CO,ES,AO,AQ,AL,BD,AX,AC,AA,AZ,AU,BH,BM,CQ,DX,BQ,BR,BJ,AB,FV,↓reduceIte,jA,jG,jB,jC,enP,XB,hb,DL ag3,XU,XT];refine CU (fun hc=>?_) (fun hc=>?_)
  .simp -implicitDefEqProofs only[BC,BA,BK,A8,CP,EG,FQ,CG,AY,BB,AO,AQ,AL,BD,AX,AC,AA,AU,BH,A7,↓reduceIte,jB,jC]
   exact⟨by rw[fin (by unfold bad; rw[hc]; simp)],_,by rw[zA]⟩
  .simp -implicitDefEqProofs only[BA,BO,A8,EJ,EQ,AY,BB,AO,AQ,AL,BD,AX,AC,AA,AZ,AU,BH,BG,BR,AB,CZ,↓reduceIte,jA,jB,jC,enP,f10,wrap_succ (show k<9223372036854775807 by omega)]
   exact⟨n-1,by omega,k+1,by omega,f8,f9,rfl,⟨_,by rw[zA]⟩,nxt (by unfold bad; rw[ha,hb,hc]; rfl)⟩
 .have hc':¬k<xs.length:=by simpa using hc
  simp -implicitDefEqProofs only[BC,BA,BK,DJ,A8,EI,EW,ET,CG,AY,BB,AO,AQ,AL,BD,AX,AC,AA,AU,BH,A7,↓reduceIte,jB,jC];rw[jW (by omega)] at hin;exact⟨by rw[X7 h64 hin],_,rfl⟩
theorem AL8 (G:Nat->AV)(xs:List Rng)(m:SM)(h:Hp) :
  PCall (En G) 216 [.sl m 2 (xs.map encR)] h (.int .i64 (JO xs)):=by
 refine acN Tryz.func216 rfl ?_;show awp _ _ _ _ _ (EN _ [.tmp 2] _);simp -implicitDefEqProofs only[BC,BA,BI,A8,AY,BB,AO,AQ,AL,BD,AX,AC,AA,AZ,AU,BH,BG,A7,BR,D7,AB,FV,BF,↓reduceIte,jA,jB,jC,enP,TD,jI];refine CU (fun hc=>?_) (fun hc=>?_)
 .simp -implicitDefEqProofs only[BC,BA,BK,A8,CP,CG,AY,BB,AO,AQ,AL,BD,AX,AC,AA,AU,BH,A7,↓reduceIte,jB,jC]
  exact⟨by rw[ABH (by simp at hc; omega)],trivial⟩
 simp -implicitDefEqProofs only[BC,BP,BA,BO,A8,AY,BB,AO,AQ,AL,BD,AX,AC,AU,BH,A7,jB,jC,jI];have h64:¬xs.length>64:=by simp at hc; omega
 refine DK (fun n F H=>∃k,n+k=xs.length∧F 0=.sl m 2 (xs.map encR)∧F 3=.int .i64 (k:Nat)∧H=h∧xs.any bad=(xs.drop k).any bad) xs.length ⟨0,by simp,rfl,rfl,rfl,rfl⟩ ?_;rintro n F H ⟨k,hk,f0,f3,rfl,hin⟩;simp -implicitDefEqProofs only[BC,BA,BI,A8,AY,BB,AO,AQ,AL,BD,AX,AC,AA,AZ,BG,BR,D7,AB,DC,↓reduceIte,jA,jB,jC,enP,TD,f0,f3,jI];refine CU (fun hc=>?_) (fun hc=>?_)
 .have hc':k<xs.length:=by simpa using hc
  rw[LD bad xs k hc'] at hin;have fin:bad xs[k]=true->JO xs=1:=fun hb=>VX h64 (by rw[hin,hb]; rfl)
  have nxt:bad xs[k]=false->xs.any bad=(xs.drop (k+1)).any bad:=fun hb=>by rw[hin,hb]; rfl
  simp -implicitDefEqProofs only[BC,BP,BO,A8];refine EZ (by kernel_rfl) ?_;simp -implicitDefEqProofs only[FZ,ED,DN,EF,FN,GI,FO,FB,IY,D9,EE,CO,AO,AA,AZ,AU,BH,BQ,BR,BJ,CE,AB,DC,↓reduceIte,jA,jK,jL,jB,enP,AD0,XC,f0,f3,DU hc',DF ag3 hc',XU,XT];refine ALT (fun ha=>?_) (fun ha=>?_)
  .simp -implicitDefEqProofs only[FZ,ED,DN,E8,EF,FN,GI,Z4,FO,I5,BC,BA,BK,BI,A8,CP,EG,FQ,CG,DI,AY,BB,CO,AO,AQ,AL,BD,AX,AC,AA,EX,AZ,AU,BH,BM,A7,CQ,DY,↓reduceIte,jA,jK,jB,jC,ha]
   exact⟨by rw[fin (by unfold bad; rw[ha]; rfl)],trivial⟩
  simp -implicitDefEqProofs only[FZ,ED,DN,EF,FN,GI,UO,FO,I5,FB,IY,D9,EE,CO,AO,AA,AZ,AU,BM,CQ,DX,BQ,BR,BJ,CE,AB,FV,↓reduceIte,jA,jK,jL,jG,jB,enP,AD0,XC,XB,ha,f0,f3,DU hc',DF ag3 hc',XU,XT];refine ALT (fun hb=>?_) (fun hb=>?_)
  .simp -implicitDefEqProofs only[FZ,ED,DN,E8,EF,FN,GI,Z4,I5,BC,BA,BK,BI,A8,CP,EG,FQ,CG,DI,AY,BB,CO,AO,AQ,AL,BD,AX,AC,AA,EX,AZ,AU,BH,BM,A7,CQ,DY,↓reduceIte,jA,jK,jB,jC,hb]
   exact⟨by rw[fin (by unfold bad; rw[hb]; simp)],trivial⟩
  simp -implicitDefEqProofs only[FZ,ED,DN,E8,EF,FN,GI,UO,FO,I5,FB,IY,D9,EE,BI,A8,CO,AO,AA,AZ,AU,BH,BM,CQ,DX,BQ,BR,BJ,CE,AB,FV,↓reduceIte,jA,jK,jG,jB,enP,AD0,XB,hb,f0,f3,DU hc',DF ag3 hc',XU,XT];refine CU (fun hc=>?_) (fun hc=>?_)
  .simp -implicitDefEqProofs only[BC,BA,BK,A8,CP,EG,FQ,CG,AY,BB,AO,AQ,AL,BD,AX,AC,AA,AU,BH,A7,↓reduceIte,jB,jC]
   exact⟨by rw[fin (by unfold bad; rw[hc]; simp)],trivial⟩
  .simp -implicitDefEqProofs only[BA,BO,A8,EJ,EQ,AY,BB,AO,AQ,AL,BD,AX,AC,AA,AZ,AU,BH,BG,A7,BR,AB,CZ,↓reduceIte,jA,jB,jC,enP,f3,wrap_succ (show k<9223372036854775807 by omega)]
   exact⟨n-1,by omega,k+1,by omega,f0,rfl,trivial,nxt (by unfold bad; rw[ha,hb,hc]; rfl)⟩
 .have hc':¬k<xs.length:=by simpa using hc
  simp -implicitDefEqProofs only[BC,BA,BK,DJ,A8,EI,EW,ET,CG,AY,BB,AO,AQ,AL,BD,AX,AC,AA,AU,BH,A7,↓reduceIte,jB,jC];rw[jW (by omega)] at hin;exact⟨by rw[X7 h64 hin],trivial⟩
structure Rs where
 m:SM
 l:List Rng
def AUU (r:Rs):AV:=.sl r.m 2 (r.l.map encR)
def encS (r:Rs):List AV:=[AUU r]
structure Bin where
 name:ByteArray
 kind:Int
 ranges:Rs
 sm:SM
 steps:List Rs
def GV (b:Bin):List AV:=[.str b.name,.int .i64 b.kind,AUU b.ranges,.sl b.sm 1 (b.steps.map encS)]
theorem APV (b:Bin):(GV b)[0]?=some (.str b.name):=rfl
theorem UK (b:Bin):(GV b)[1]?=some (.int .i64 b.kind):=rfl
theorem ABU (b:Bin):(GV b)[2]?=some (.sl b.ranges.m 2 (b.ranges.l.map encR)):=rfl
theorem VE (b:Bin):(GV b)[3]?=some (.sl b.sm 1 (b.steps.map encS)):=rfl
theorem MJ (b:Bin):(GV b).length=4:=rfl
theorem ABR (r:Rs):(encS r)[0]?=some (.sl r.m 2 (r.l.map encR)):=rfl
theorem bxB (h:Hp)(b:Bin):PW h (.agg (GV b))=some (.ptr h.length 0 0,h++[.live 4 [GV b]]):=rfl
theorem ldB (h:Hp)(b:Bin):EH Tryz.prog (h++[.live 4 [GV b]]) 121 (.ptr h.length 0 0)=some (.agg (GV b)):=WX VF QK (by simp [GV])
def S9 (b:Bin):SM:=if b.ranges.l.length>0 then .full else b.sm
def sets (b:Bin):List Rs:=if b.ranges.l.length>0 then [b.ranges] else b.steps
theorem A3N (h:Hp)(r:Rs):FY Tryz.prog false h 119 1 [(0,.sl r.m 2 (r.l.map encR))]=some (.sl .full 1 ([r].map encS),h):=by
 have:(XM 1 0 [(0,AV.sl r.m 2 (r.l.map encR))])=some [[.sl r.m 2 (r.l.map encR)]]:=rfl;simp only[FY,Tryz.underlying119,AZL,this];have hz:UR Tryz.prog 118=some 1:=by kernel_rfl
 simp [hz,AV.frozen,encS,AUU]
theorem AF0 (G:Nat->AV)(b:Bin)(h:Hp):PCall (En G) 202 [.agg (GV b)] h (.sl (S9 b) 1 ((sets b).map encS)):=by
 refine ACalls.pure0 rfl ?_;refine acN Tryz.func202 rfl ?_;show awp _ _ _ _ _ (EN _ [.tmp 2] _);simp -implicitDefEqProofs only[BC,BA,BI,A8,AY,BB,AO,AQ,AL,BD,AX,AC,AA,AZ,AU,BH,IK,A7,FU,BQ,BR,BJ,D7,BZ,AB,FV,BF,↓reduceIte,jA,jG,jB,jC,enP,TD,QV,bxB,DL PE,ABU,jI];refine CU (fun hc=>?_) (fun hc=>?_)
 .have hc':b.ranges.l.length>0:=by simpa using hc
  simp -implicitDefEqProofs only[EY,FT,BC,BA,BK,A8,CP,CG,AY,BB,AO,AQ,AL,BD,AX,AC,AA,AZ,A7,EP,BQ,BJ,BZ,AB,jD,jE,↓reduceIte,jA,jG,jB,jC,enP,QV,DL PE,ABU,A3N];exact⟨by rw[S9,sets,if_pos hc',if_pos hc']; rfl,_,rfl⟩
 .have hc':¬b.ranges.l.length>0:=by simpa using hc
  simp -implicitDefEqProofs only[BC,BA,BO,BK,A8,CG,AY,BB,AO,AQ,AL,BD,AX,AC,AA,AZ,A7,BQ,BJ,AB,↓reduceIte,jA,jG,jB,jC,enP,OG,DL VG,VE];exact⟨by rw[S9,sets,if_neg hc',if_neg hc'],_,rfl⟩
theorem AJK (G:Nat->AV)(b:Bin)(h:Hp):PCall (En G) 165 [.agg (GV b)] h (.sl (S9 b) 1 ((sets b).map encS)):=by
 refine ACalls.pure0 rfl ?_;refine acN Tryz.func165 rfl ?_;show awp _ _ _ _ _ (EN _ [.tmp 2] _);simp -implicitDefEqProofs only[BC,BA,BI,A8,AY,BB,AO,AQ,AL,BD,AX,AC,AA,AZ,AU,BH,IK,A7,FU,BQ,BR,BJ,D7,BZ,AB,FV,BF,↓reduceIte,jA,jG,jB,jC,enP,TD,QV,bxB,DL PE,ABU,jI];refine CU (fun hc=>?_) (fun hc=>?_)
 .have hc':b.ranges.l.length>0:=by simpa using hc
  simp -implicitDefEqProofs only[EY,FT,BC,BA,BK,A8,CP,CG,AY,BB,AO,AQ,AL,BD,AX,AC,AA,AZ,A7,EP,BQ,BJ,BZ,AB,jD,jE,↓reduceIte,jA,jG,jB,jC,enP,QV,DL PE,ABU,A3N];exact⟨by rw[S9,sets,if_pos hc',if_pos hc']; rfl,_,rfl⟩
 .have hc':¬b.ranges.l.length>0:=by simpa using hc
  simp -implicitDefEqProofs only[BC,BA,BO,BK,A8,CG,AY,BB,AO,AQ,AL,BD,AX,AC,AA,AZ,A7,BQ,BJ,AB,↓reduceIte,jA,jG,jB,jC,enP,OG,DL VG,VE];exact⟨by rw[S9,sets,if_neg hc',if_neg hc'],_,rfl⟩
theorem A2K (m:SM)(k:Nat)(xs:List (List AV)):JG Tryz.prog 57 .eql (.sl m k xs) (.sl .nil 0 [])=some (.bool (decide (m=.nil))):=by cases m<;>kernel_rfl
def ANH (k:Nat)(xs:List (List AV))(h:Hp)(v:AV)(h':Hp):Prop :=
 (xs=[]∧(∃k0,v=.sl .nil k0 [])∧h'=h)∨(xs=[]∧v=.sl .full k []∧h'=h)∨(xs≠[]∧v=.own h.length 0 xs.length∧h'=h++[.live k xs])
theorem AVK (h:Hp):FY Tryz.prog false h 57 0 []=some (.sl .full 1 [],h):=by kernel_rfl
theorem cok (f:FuncId)(G:Nat->AV)(hf:(match Tryz.prog.funcs[f]? with|some fn=>fn.body.isSome && !(fn.name == "runtime.NumGoroutine")|none=>false)=true):YP (En G).P f:=by
 have he:(En G).P=Tryz.prog:=rfl;unfold YP;rw[he]
 cases hx:Tryz.prog.funcs[f]? with
 | none=>rw[hx] at hf; cases hf
 | some fn =>
   rw[hx] at hf;simp at hf;exact⟨fn,rfl,by simpa using hf.1,by simpa using hf.2⟩
def encI (n:Int):List AV:=[.int .i64 n]
theorem encI0 (n:Int):(encI n)[0]?=some (.int .i64 n):=rfl
theorem AUZ (G:Nat->AV)(r:Rs)(h:Hp):PCall (En G) 235 [.sl r.m 2 (r.l.map encR)] h (.bool (decide (r.l.length=0))):=by
 refine acN Tryz.func235 rfl ?_;show awp _ _ _ _ _ (EN _ [.tmp 2] _);simp -implicitDefEqProofs only[BC,BA,BK,A8,CG,AY,BB,AO,AQ,AL,BD,AX,AC,AA,AZ,AU,BH,BM,BG,A7,BR,D7,AB,EC,BF,↓reduceIte,jA,jB,jC,enP,TD,jI];refine⟨?_,trivial⟩;congr 1;rw[qM]; simp
theorem AKK (G:Nat->AV)(xs:List Rs)(m:SM)(fid:FuncId)(caps:List AV)(p:Rs->Bool)(h:Hp)(hl:xs.length<=1099511627776)
  (hf:∀r,PCall (En G) fid (.sl r.m 2 (r.l.map encR)::caps) h (.bool (p r))) :
  PCall (En G) 260 [.sl m 1 (xs.map encS),.fn (.func fid) [] caps] h (.int .i64 (match xs.findIdx? p with|some i=>(i:Int)|none => -1)):=by
 refine acN Tryz.func260 rfl ?_;show awp _ _ _ _ _ (EN _ [.tmp 4] _);simp -implicitDefEqProofs only[BC,BP,BA,A8,AY,BB,AO,AQ,AL,BD,AX,AC,AA,AZ,AU,BH,BG,A7,D7,AB,BF,↓reduceIte,jA,jB,jC,enP,RS,jI];refine DK (fun n F H=>∃k,n+k=xs.length∧F 0=.sl m 1 (xs.map encS)∧F 1=.fn (.func fid) [] caps∧F 7=.int .i64 xs.length∧F 8=.int .i64 (k:Nat)∧H=h∧(xs.take k).all (fun r => !p r)=true) xs.length ⟨0,by simp,rfl,rfl,rfl,rfl,rfl,rfl⟩ ?_;rintro n F H ⟨k,hk,f0,f1,f7,f8,rfl,hin⟩;simp -implicitDefEqProofs only[BC,BA,BI,A8,AY,BB,AO,AQ,AL,BD,AX,AC,AA,AZ,BR,AB,DC,↓reduceIte,jB,jC,enP,f0,f1,f7,f8,jI];refine CU (fun hc=>?_) (fun hc=>?_)
 .have hc':k<xs.length:=by simpa using hc
  simp -implicitDefEqProofs only[BC,BP,BA,BO,A8,AY,BB,AO,AQ,AL,BD,AX,AC,AA,AZ,BG,A7,BQ,CE,CB,BU,AB,jD,jE,List.nil_append,List.cons_append,↓reduceIte,jA,jB,jC,enP,ABM,f0,f1,f7,f8,DU hc',DF PE hc',ABR];refine(hf _).use ?_;simp -implicitDefEqProofs only[BI,A8,BB,AC,AA,AZ,↓reduceIte];refine CU (fun hb=>?_) (fun hb=>?_)
  .simp -implicitDefEqProofs only[BC,BA,BK,A8,CP,EG,FQ,CG,AY,BB,AO,AQ,AL,BD,AX,AC,AA,AZ,BG,A7,↓reduceIte,jA,jB,jC]
   refine⟨?_,trivial⟩
   rw[qU.2 ⟨hc',hb,fun j hj=>by
    rw[zI] at hin;have:=hin xs[j] (by rw[List.mem_take_iff_getElem]; exact⟨j,by omega,rfl⟩)
    simpa using this⟩]
  .simp -implicitDefEqProofs only[BA,BO,A8,EJ,EQ,AY,BB,AO,AQ,AL,BD,AX,AC,AA,AZ,AU,BH,BG,BR,AB,CZ,↓reduceIte,jA,jB,jC,enP,f8,wrap_succ (show k<9223372036854775807 by omega)]
   refine⟨n-1,by omega,k+1,by omega,f0,f1,f7,rfl,trivial,?_⟩;rw[zL hc',List.all_append,hin];simp only[List.all_cons,List.all_nil,hb]; rfl
 .have hc':¬k<xs.length:=by simpa using hc
  simp -implicitDefEqProofs only[BC,BA,BK,DJ,A8,EI,EW,ET,CG,AY,BB,AO,AQ,AL,BD,AX,AC,AA,AU,BH,A7,↓reduceIte,jB,jC];refine⟨?_,trivial⟩;rw[jX (by omega)] at hin;rw[qV.2 (by simpa using hin)]
theorem AEQ (G:Nat->AV)(xs:List Rs)(m:SM)(fid:FuncId)(caps:List AV)(p:Rs->Bool)(h:Hp)(hl:xs.length<=1099511627776)
  (hf:∀r,PCall (En G) fid (.sl r.m 2 (r.l.map encR)::caps) h (.bool (p r))) :
  PCall (En G) 234 [.sl m 1 (xs.map encS),.fn (.func fid) [] caps] h (.bool (xs.any p)):=by
 refine acN Tryz.func234 rfl ?_;show awp _ _ _ _ _ (EN _ [.tmp 4] _);simp -implicitDefEqProofs only[BC,BA,A8,AY,BB,AO,AQ,AL,BD,AX,AC,AA,AZ,AU,BX,BM,BG,A7,CB,BU,BF,BN,jD,jE,jF,↓reduceIte,jA,jB,jC,enP];refine(AKK G xs m fid caps p h hl hf).use ?_;simp -implicitDefEqProofs only[BK,A8,CG,AY,BB,AO,AQ,AL,BD,AX,AC,AA,AZ,AU,BH,A7,BR,AB,G5,↓reduceIte,jB,jC,enP];refine⟨?_,trivial⟩
 cases hx:xs.findIdx? p with
 | some i =>
   obtain⟨h1,h2,_⟩:=qU.1 hx;have:xs.any p=true:=qH.2 ⟨xs[i],by simp,h2⟩;simp [this]
 | none =>
   have:xs.any p=false:=by
    rw[qV] at hx;rw[wB]; intro x hx2; simp [hx x hx2]
   simp [this]
def SQ (n:Int):Bool:=decide (n≥97)&&decide (n<=122)
def AK4 (n:Int):Bool:=decide (n≥48)&&decide (n<=57)
def OD (n:Int):Bool:=SQ n||AK4 n||(decide (n≥65)&&decide (n<=90))||n==95
theorem ADX (G:Nat->AV)(n:Int)(h:Hp):PCall (En G) 227 [.int .i32 n] h (.bool (SQ n)):=by
 refine acN Tryz.func227 rfl ?_;show awp _ _ _ _ _ (EN _ [.tmp 2] _);simp -implicitDefEqProofs only[BC,BA,A8,AY,BB,BL,BV,CO,AO,AQ,AL,BD,AX,AC,AA,AZ,AU,BH,BM,BG,A7,BR,AB,G5,BF,↓reduceIte,jA,jB,jC,enP];refine IL (fun ha=>?_) (fun ha=>?_)
 .simp -implicitDefEqProofs only[BK,A8,CG,AY,BB,BL,BV,CO,F9,AO,AQ,AL,BD,AX,AC,AA,AZ,AU,BH,BM,BG,A7,CQ,DY,BR,AB,JC,BF,↓reduceIte,jA,jB,jC,enP,ha]
  exact⟨by unfold SQ; rw[ha]; rfl,trivial⟩
 .simp -implicitDefEqProofs only[BK,A8,CG,AY,BB,BL,BV,CO,IX,AO,AQ,AL,BD,AX,AC,AA,EX,AZ,AU,BM,A7,CQ,DX,↓reduceIte,jA,jB,jC,ha]
  exact⟨by unfold SQ; rw[ha]; rfl,trivial⟩
theorem ANA (G:Nat->AV)(n:Int)(h:Hp):PCall (En G) 256 [.int .i32 n] h (.bool (AK4 n)):=by
 refine acN Tryz.func256 rfl ?_;show awp _ _ _ _ _ (EN _ [.tmp 2] _);simp -implicitDefEqProofs only[BC,BA,A8,AY,BB,BL,BV,CO,AO,AQ,AL,BD,AX,AC,AA,AZ,AU,BH,BM,BG,A7,BR,AB,G5,BF,↓reduceIte,jA,jB,jC,enP];refine IL (fun ha=>?_) (fun ha=>?_)
 .simp -implicitDefEqProofs only[BK,A8,CG,AY,BB,BL,BV,CO,F9,AO,AQ,AL,BD,AX,AC,AA,AZ,AU,BH,BM,BG,A7,CQ,DY,BR,AB,JC,BF,↓reduceIte,jA,jB,jC,enP,ha]
  exact⟨by unfold AK4; rw[ha]; rfl,trivial⟩
 .simp -implicitDefEqProofs only[BK,A8,CG,AY,BB,BL,BV,CO,IX,AO,AQ,AL,BD,AX,AC,AA,EX,AZ,AU,BM,A7,CQ,DX,↓reduceIte,jA,jB,jC,ha]
  exact⟨by unfold AK4; rw[ha]; rfl,trivial⟩
theorem AFZ (G:Nat->AV)(n:Int)(h:Hp):PCall (En G) 213 [.int .u8 n] h (.bool (SQ n)):=by
 refine acN Tryz.func213 rfl ?_;show awp _ _ _ _ _ (EN _ [.tmp 2] _);simp -implicitDefEqProofs only[BC,BA,A8,AY,BB,BL,BV,CO,AO,AQ,AL,BD,AX,AC,AA,AZ,AU,BH,BM,BG,A7,BR,AB,G5,BF,↓reduceIte,jA,jB,jC,enP];refine IL (fun ha=>?_) (fun ha=>?_)
 .simp -implicitDefEqProofs only[BK,A8,CG,AY,BB,BL,BV,CO,F9,AO,AQ,AL,BD,AX,AC,AA,AZ,AU,BH,BM,BG,A7,CQ,DY,BR,AB,JC,BF,↓reduceIte,jA,jB,jC,enP,ha]
  exact⟨by unfold SQ; rw[ha]; rfl,trivial⟩
 .simp -implicitDefEqProofs only[BK,A8,CG,AY,BB,BL,BV,CO,IX,AO,AQ,AL,BD,AX,AC,AA,EX,AZ,AU,BM,A7,CQ,DX,↓reduceIte,jA,jB,jC,ha]
  exact⟨by unfold SQ; rw[ha]; rfl,trivial⟩
theorem digit_ref (G:Nat->AV)(n:Int)(h:Hp):PCall (En G) 245 [.int .u8 n] h (.bool (AK4 n)):=by
 refine acN Tryz.func245 rfl ?_;show awp _ _ _ _ _ (EN _ [.tmp 2] _);simp -implicitDefEqProofs only[BC,BA,A8,AY,BB,BL,BV,CO,AO,AQ,AL,BD,AX,AC,AA,AZ,AU,BH,BM,BG,A7,BR,AB,G5,BF,↓reduceIte,jA,jB,jC,enP];refine IL (fun ha=>?_) (fun ha=>?_)
 .simp -implicitDefEqProofs only[BK,A8,CG,AY,BB,BL,BV,CO,F9,AO,AQ,AL,BD,AX,AC,AA,AZ,AU,BH,BM,BG,A7,CQ,DY,BR,AB,JC,BF,↓reduceIte,jA,jB,jC,enP,ha]
  exact⟨by unfold AK4; rw[ha]; rfl,trivial⟩
 .simp -implicitDefEqProofs only[BK,A8,CG,AY,BB,BL,BV,CO,IX,AO,AQ,AL,BD,AX,AC,AA,EX,AZ,AU,BM,A7,CQ,DX,↓reduceIte,jA,jB,jC,ha]
  exact⟨by unfold AK4; rw[ha]; rfl,trivial⟩
theorem ZH (G:Nat->AV)(n:Int)(h:Hp):PCall (En G) 228 [.int .i32 n] h (.bool (OD n)):=by
 refine acN Tryz.func228 rfl ?_;show awp _ _ _ _ _ (EN _ [.tmp 2] _);simp -implicitDefEqProofs only[BC,BA,A8,AY,BB,AO,AQ,AL,BD,AX,AC,AA,AZ,AU,BX,BM,BG,A7,CB,BU,BF,jD,jE,jF,↓reduceIte,jA,jB,jC,enP];refine(ADX G n h).use ?_;simp -implicitDefEqProofs only[AY,BL,BV,CO,AO,AQ,AL,BD,AX,AC,AA,AZ,BG,↓reduceIte,jB,jC];refine IL (fun ha=>?_) (fun ha=>?_)
 .simp -implicitDefEqProofs only[BK,A8,CG,AY,BB,BL,BV,CO,F7,SI,AO,AQ,AL,BD,AX,AC,AA,EX,AZ,AU,BM,BG,A7,CQ,DY,↓reduceIte,jA,jB,jC,ha]
  exact⟨by unfold OD; rw[ha]; rfl,trivial⟩
 simp -implicitDefEqProofs only[BL,BV,CO,ES,AO,AQ,AL,BD,AX,AC,AA,AZ,BX,BG,CB,BU,BF,jD,jE,jF,↓reduceIte,jA,jB,jC,ha];refine(ANA G n h).use ?_;simp -implicitDefEqProofs only[AY,BL,BV,CO,AO,AQ,AL,BD,AX,AC,AA,AZ,AU,BM,BG,CQ,DX,↓reduceIte,jA,jB,jC];refine IL (fun hb=>?_) (fun hb=>?_)
 .simp -implicitDefEqProofs only[BK,A8,CG,AY,BB,BL,BV,CO,F7,SI,AO,AQ,AL,BD,AX,AC,AA,EX,AZ,AU,BM,BG,A7,CQ,DY,↓reduceIte,jA,jB,jC,hb]
  exact⟨by unfold OD; rw[ha,hb]; rfl,trivial⟩
 simp -implicitDefEqProofs only[BL,BV,CO,ES,AO,AQ,AL,BD,AX,AC,AA,AZ,AU,BH,BG,BR,AB,G5,BF,↓reduceIte,jA,jB,jC,enP,hb];refine IL (fun hc=>?_) (fun hc=>?_)
 .simp -implicitDefEqProofs only[AY,BL,BV,CO,F9,ES,AO,AQ,AL,BD,AX,AC,AA,AZ,AU,BH,BM,BG,CQ,DY,DX,BR,AB,JC,BF,↓reduceIte,jA,jB,jC,enP,hc]
  refine IL (fun hd=>?_) (fun hd=>?_)
  .simp -implicitDefEqProofs only[BK,A8,CG,AY,BB,BL,BV,CO,F7,AO,AQ,AL,BD,AX,AC,AA,EX,AZ,AU,BM,A7,CQ,DY,↓reduceIte,jA,jB,jC,hd]
   exact⟨by unfold OD; rw[ha,hb,hc,hd]; rfl,trivial⟩
  .simp -implicitDefEqProofs only[BK,A8,CG,AY,BB,BL,BV,CO,ES,AO,AQ,AL,BD,AX,AC,AA,AZ,AU,BH,BM,BG,A7,CQ,DX,BR,AB,EC,BF,↓reduceIte,jA,jB,jC,enP,hd]
   exact⟨by unfold OD; rw[ha,hb,hc,hd]; rfl,trivial⟩
 .simp -implicitDefEqProofs only[BK,A8,CG,AY,BB,BL,BV,CO,ES,IX,AO,AQ,AL,BD,AX,AC,AA,EX,AZ,AU,BH,BM,BG,A7,CQ,DX,BR,AB,EC,BF,↓reduceIte,jA,jB,jC,enP,hc]
  exact⟨by unfold OD; rw[ha,hb,hc]; rfl,trivial⟩
theorem AQ4 (G:Nat->AV)(n:Int)(h:Hp):PCall (En G) 215 [.int .u8 n] h (.bool (OD n)):=by
 refine acN Tryz.func215 rfl ?_;show awp _ _ _ _ _ (EN _ [.tmp 2] _);simp -implicitDefEqProofs only[BC,BA,A8,AY,BB,AO,AQ,AL,BD,AX,AC,AA,AZ,AU,BX,BM,BG,A7,CB,BU,BF,jD,jE,jF,↓reduceIte,jA,jB,jC,enP];refine(AFZ G n h).use ?_;simp -implicitDefEqProofs only[AY,BL,BV,CO,AO,AQ,AL,BD,AX,AC,AA,AZ,BG,↓reduceIte,jB,jC];refine IL (fun ha=>?_) (fun ha=>?_)
 .simp -implicitDefEqProofs only[BK,A8,CG,AY,BB,BL,BV,CO,F7,SI,AO,AQ,AL,BD,AX,AC,AA,EX,AZ,AU,BM,BG,A7,CQ,DY,↓reduceIte,jA,jB,jC,ha]
  exact⟨by unfold OD; rw[ha]; rfl,trivial⟩
 simp -implicitDefEqProofs only[BL,BV,CO,ES,AO,AQ,AL,BD,AX,AC,AA,AZ,BX,BG,CB,BU,BF,jD,jE,jF,↓reduceIte,jA,jB,jC,ha];refine(digit_ref G n h).use ?_;simp -implicitDefEqProofs only[AY,BL,BV,CO,AO,AQ,AL,BD,AX,AC,AA,AZ,AU,BM,BG,CQ,DX,↓reduceIte,jA,jB,jC];refine IL (fun hb=>?_) (fun hb=>?_)
 .simp -implicitDefEqProofs only[BK,A8,CG,AY,BB,BL,BV,CO,F7,SI,AO,AQ,AL,BD,AX,AC,AA,EX,AZ,AU,BM,BG,A7,CQ,DY,↓reduceIte,jA,jB,jC,hb]
  exact⟨by unfold OD; rw[ha,hb]; rfl,trivial⟩
 simp -implicitDefEqProofs only[BL,BV,CO,ES,AO,AQ,AL,BD,AX,AC,AA,AZ,AU,BH,BG,BR,AB,G5,BF,↓reduceIte,jA,jB,jC,enP,hb];refine IL (fun hc=>?_) (fun hc=>?_)
 .simp -implicitDefEqProofs only[AY,BL,BV,CO,F9,ES,AO,AQ,AL,BD,AX,AC,AA,AZ,AU,BH,BM,BG,CQ,DY,DX,BR,AB,JC,BF,↓reduceIte,jA,jB,jC,enP,hc]
  refine IL (fun hd=>?_) (fun hd=>?_)
  .simp -implicitDefEqProofs only[BK,A8,CG,AY,BB,BL,BV,CO,F7,AO,AQ,AL,BD,AX,AC,AA,EX,AZ,AU,BM,A7,CQ,DY,↓reduceIte,jA,jB,jC,hd]
   exact⟨by unfold OD; rw[ha,hb,hc,hd]; rfl,trivial⟩
  .simp -implicitDefEqProofs only[BK,A8,CG,AY,BB,BL,BV,CO,ES,AO,AQ,AL,BD,AX,AC,AA,AZ,AU,BH,BM,BG,A7,CQ,DX,BR,AB,EC,BF,↓reduceIte,jA,jB,jC,enP,hd]
   exact⟨by unfold OD; rw[ha,hb,hc,hd]; rfl,trivial⟩
 .simp -implicitDefEqProofs only[BK,A8,CG,AY,BB,BL,BV,CO,ES,IX,AO,AQ,AL,BD,AX,AC,AA,EX,AZ,AU,BH,BM,BG,A7,CQ,DX,BR,AB,EC,BF,↓reduceIte,jA,jB,jC,enP,hc]
  exact⟨by unfold OD; rw[ha,hb,hc]; rfl,trivial⟩
def encStr (s:ByteArray):List AV:=[.str s]
theorem encStr0 (s:ByteArray):(encStr s)[0]?=some (.str s):=rfl
def I4 (xs:List ByteArray)(v:ByteArray):Bool:=xs.any fun u=>v.toList==u.toList
theorem has_ref (G:Nat->AV)(xs:List ByteArray)(m:SM)(v:ByteArray)(h:Hp)(hl:xs.length<=1099511627776) :
  PCall (En G) 243 [.sl m 1 (xs.map encStr),.str v] h (.bool (I4 xs v)):=by
 refine acN Tryz.func243 rfl ?_;show awp _ _ _ _ _ (EN _ [.tmp 4] _);simp -implicitDefEqProofs only[BC,BP,BA,A8,AY,BB,AO,AQ,AL,BD,AX,AC,AU,BH,BM,A7,jB,jC,enP];refine DK (fun n F H=>∃k,n+k=xs.length∧F 0=.sl m 1 (xs.map encStr)∧F 1=.str v∧F 5=.int .i64 (k:Nat)∧H=h∧I4 xs v=I4 (xs.drop k) v) xs.length ⟨0,by simp,rfl,rfl,rfl,rfl,rfl⟩ ?_;rintro n F H ⟨k,hk,f0,f1,f5,rfl,hin⟩;simp -implicitDefEqProofs only[BC,BA,BI,A8,AY,BB,AO,AQ,AL,BD,AX,AC,AA,AZ,BG,BR,D7,AB,DC,↓reduceIte,jA,jB,jC,enP,ABK,f0,f1,f5,jI];refine CU (fun hc=>?_) (fun hc=>?_)
 .have hc':k<xs.length:=by simpa using hc
  have hs:I4 (xs.drop k) v=((v.toList==xs[k].toList)||I4 (xs.drop (k+1)) v):=LD _ xs k hc';simp -implicitDefEqProofs only[BC,BP,BA,BO,BI,A8,AY,BB,AO,AQ,AL,BD,AX,AC,AA,AZ,BG,BQ,BR,CE,AB,ML,↓reduceIte,jA,jB,jC,enP,AGA,f0,f1,f5,DU hc',DF ag9 hc',encStr0];refine CU (fun hb=>?_) (fun hb=>?_)
  .simp -implicitDefEqProofs only[BC,BA,BK,A8,CP,EG,FQ,CG,AY,BB,AO,AQ,AL,BD,AX,AC,AA,AU,BM,A7,↓reduceIte,jB,jC]
   refine⟨?_,trivial⟩;rw[hin,hs,show(v.toList==xs[k].toList)=true by rw[BEq.comm]; exact hb]; rfl
  .simp -implicitDefEqProofs only[BA,BO,A8,EJ,EQ,AY,BB,AO,AQ,AL,BD,AX,AC,AA,AZ,AU,BH,BG,A7,BR,AB,CZ,↓reduceIte,jA,jB,jC,enP,f5,wrap_succ (show k<9223372036854775807 by omega)]
   refine⟨n-1,by omega,k+1,by omega,f0,f1,rfl,trivial,?_⟩;rw[hin,hs,show(v.toList==xs[k].toList)=false by rw[BEq.comm]; exact hb]; rfl
 .have hc':¬k<xs.length:=by simpa using hc
  simp -implicitDefEqProofs only[BC,BA,BK,DJ,A8,EI,EW,ET,CG,AY,BB,AO,AQ,AL,BD,AX,AC,AA,AU,BM,A7,↓reduceIte,jB,jC];exact⟨by rw[hin,jW (by omega)]; rfl,trivial⟩
theorem AMT (G:Nat->AV)(xs:List ByteArray)(m:SM)(v:ByteArray)(h:Hp)(hl:xs.length<=1099511627776) :
  ∃i:Int,(decide (i≥0)=I4 xs v)∧PCall (En G) 257 [.sl m 1 (xs.map encStr),.str v] h (.int .i64 i):=by
 refine⟨(match xs.findIdx? (fun u=>v.toList==u.toList) with|some i=>(i:Int)|none => -1),?_,?_⟩
 .cases hx:xs.findIdx? (fun u=>v.toList==u.toList) with
  | some i =>
    obtain⟨h1,h2,_⟩:=qU.1 hx;have:I4 xs v=true:=qH.2 ⟨xs[i],by simp,h2⟩;simp [this]
  | none =>
    have:I4 xs v=false:=by
     rw[qV] at hx;unfold I4;rw[wB]; intro x hx2; simp only[hx x hx2]; simp
    simp [this]
 refine acN Tryz.func257 rfl ?_;show awp _ _ _ _ _ (EN _ [.tmp 4] _);simp -implicitDefEqProofs only[BC,BP,BA,A8,AY,BB,AO,AQ,AL,BD,AX,AC,AA,AZ,AU,BH,BG,A7,D7,AB,BF,↓reduceIte,jA,jB,jC,enP,ABK,jI];refine DK (fun n F H=>∃k,n+k=xs.length∧F 0=.sl m 1 (xs.map encStr)∧F 1=.str v∧F 7=.int .i64 xs.length∧F 8=.int .i64 (k:Nat)∧H=h∧(xs.take k).all (fun u => !(v.toList==u.toList))=true) xs.length ⟨0,by simp,rfl,rfl,rfl,rfl,rfl,rfl⟩ ?_;rintro n F H ⟨k,hk,f0,f1,f7,f8,rfl,hin⟩;simp -implicitDefEqProofs only[BC,BA,BI,A8,AY,BB,AO,AQ,AL,BD,AX,AC,AA,AZ,BR,AB,DC,↓reduceIte,jB,jC,enP,f0,f1,f7,f8,jI];refine CU (fun hc=>?_) (fun hc=>?_)
 .have hc':k<xs.length:=by simpa using hc
  simp -implicitDefEqProofs only[BC,BP,BA,BO,BI,A8,AY,BB,AO,AQ,AL,BD,AX,AC,AA,AZ,BG,A7,BQ,BR,CE,AB,ML,↓reduceIte,jA,jB,jC,enP,AGA,f0,f1,f7,f8,DU hc',DF ag9 hc',encStr0];refine CU (fun hb=>?_) (fun hb=>?_)
  .simp -implicitDefEqProofs only[BC,BA,BK,A8,CP,EG,FQ,CG,AY,BB,AO,AQ,AL,BD,AX,AC,AA,AZ,BG,A7,↓reduceIte,jA,jB,jC]
   refine⟨?_,trivial⟩
   rw[qU.2 ⟨hc',hb,fun j hj=>by
    rw[zI] at hin;have:=hin xs[j] (by rw[List.mem_take_iff_getElem]; exact⟨j,by omega,rfl⟩)
    simpa using this⟩]
  .simp -implicitDefEqProofs only[BA,BO,A8,EJ,EQ,AY,BB,AO,AQ,AL,BD,AX,AC,AA,AZ,AU,BH,BG,BR,AB,CZ,↓reduceIte,jA,jB,jC,enP,f8,wrap_succ (show k<9223372036854775807 by omega)]
   refine⟨n-1,by omega,k+1,by omega,f0,f1,f7,rfl,trivial,?_⟩;rw[zL hc',List.all_append,hin];simp only[List.all_cons,List.all_nil,hb]; rfl
 .have hc':¬k<xs.length:=by simpa using hc
  simp -implicitDefEqProofs only[BC,BA,BK,DJ,A8,EI,EW,ET,CG,AY,BB,AO,AQ,AL,BD,AX,AC,AA,AU,BH,A7,↓reduceIte,jB,jC];refine⟨?_,trivial⟩;rw[jX (by omega)] at hin
  rw[qV.2 (by
   intro x hx;rw[zI] at hin
   simpa using hin x hx)]
theorem AFM (G:Nat->AV)(xs:List ByteArray)(m:SM)(v:ByteArray)(h:Hp)(hl:xs.length<=1099511627776) :
  PCall (En G) 229 [.sl m 1 (xs.map encStr),.str v] h (.bool (I4 xs v)):=by
 obtain⟨i,hi,hp⟩:=AMT G xs m v h hl;refine acN Tryz.func229 rfl ?_;show awp _ _ _ _ _ (EN _ [.tmp 4] _);simp -implicitDefEqProofs only[BC,BA,A8,AY,BB,AO,AQ,AL,BD,AX,AC,AA,AZ,AU,BX,BM,BG,A7,CB,BU,BF,BN,jD,jE,jF,↓reduceIte,jA,jB,jC,enP];refine hp.use ?_;simp -implicitDefEqProofs only[BK,A8,CG,AY,BB,AO,AQ,AL,BD,AX,AC,AA,AZ,AU,BH,A7,BR,AB,G5,↓reduceIte,jB,jC,enP];exact⟨by rw[hi],trivial⟩
def kw:List ByteArray:=[⟨#[99,108,97,115,115]⟩,⟨#[101,120,116,101,110,100,115]⟩,⟨#[114,97,110,100]⟩,⟨#[114,97,110,100,99]⟩,⟨#[115,116,97,116,101]⟩,⟨#[99,111,110,115,116,114,97,105,110,116]⟩,⟨#[115,111,102,116]⟩,⟨#[100,105,115,116]⟩,⟨#[105,102]⟩,⟨#[101,108,115,101]⟩,⟨#[101,97,99,104]⟩,⟨#[105,110]⟩,⟨#[115,111,108,118,101]⟩,⟨#[98,101,102,111,114,101]⟩,⟨#[105,110,115,105,100,101]⟩,⟨#[112,114,111,112,101,114,116,121]⟩,⟨#[115,101,113]⟩,⟨#[97,110,100]⟩,⟨#[111,114]⟩,⟨#[110,111,116]⟩,⟨#[115,101,116]⟩,⟨#[104,111,108,100]⟩,⟨#[112,108,97,105,110]⟩,⟨#[114,101,112,101,97,116]⟩]
theorem ATY:kw.length=24:=rfl
theorem AHT (G:Nat->AV)(h:Hp):PCall (En G) 244 [] h (.sl .full 1 (kw.map encStr)):=by
 refine acN Tryz.func244 rfl ?_;show awp _ _ _ _ _ (EN _ [.tmp 0] _);simp -implicitDefEqProofs only[EY,FT,BC,BA,A8,AY,BB,AO,AQ,AL,BD,AX,AC,AU,JM,IK,A7,EP,jB,jC,enP];refine HY (v:=.sl .full 1 (kw.map encStr)) (h:=h) (by kernel_rfl) ?_;simp -implicitDefEqProofs only[BK,A8,CG,AY,BB,AO,AQ,AL,BD,AX,AC,AA,AZ,A7,↓reduceIte,jB,jC];exact⟨trivial,trivial⟩
theorem AFG (G:Nat->AV)(v:ByteArray)(h:Hp):PCall (En G) 214 [.str v] h (.bool (I4 kw v)):=by
 refine acN Tryz.func214 rfl ?_;show awp _ _ _ _ _ (EN _ [.tmp 2] _);simp -implicitDefEqProofs only[BC,BA,A8,AY,BB,AO,AQ,AL,BD,AX,AC,AU,BX,BM,A7,CB,BU,jE,jF,jB,jC,enP];refine(AHT G h).use ?_;simp -implicitDefEqProofs only[AY,AO,AQ,AL,BD,AX,AC,AA,AZ,BX,BG,CB,BU,BF,jD,jE,jF,↓reduceIte,jA,jB,jC];refine(has_ref G kw .full v h (by rw[ATY]; omega)).use ?_;simp -implicitDefEqProofs only[BK,A8,CG,AY,BB,AO,AQ,AL,BD,AX,AC,AA,AZ,A7,↓reduceIte,jB,jC];exact⟨trivial,trivial⟩
def KwG (G:Nat->AV):Prop:=∃m,G 0=.fptr 1 [[.sl m 1 (kw.map encStr)]] 0 0
theorem AD1 (G:Nat->AV)(hG:KwG G)(v:ByteArray)(h:Hp):PCall (En G) 195 [.str v] h (.bool (I4 kw v)):=by
 obtain⟨m,hg⟩:=hG;refine acN Tryz.func195 rfl ?_;show awp _ _ _ _ _ (EN _ [.tmp 2] _);have e:EH Tryz.prog h 179 (G 0)=some (.sl m 1 (kw.map encStr)):=by rw[hg]; exact ATQ AG0 rfl rfl
 have hl:kw.length<=1099511627776:=by rw[ATY]; omega
 simp -implicitDefEqProofs only[BC,BA,A8,AY,BB,AO,AQ,AL,BD,AX,AC,AA,AZ,AU,BX,AYF,BM,BG,A7,BQ,CB,BU,AB,BF,jD,jE,jF,↓reduceIte,jA,jB,jC,enP,enG,e];refine(AFM G kw m v h hl).use ?_;simp -implicitDefEqProofs only[BK,A8,CG,AY,BB,AO,AQ,AL,BD,AX,AC,AA,AZ,A7,↓reduceIte,jB,jC];exact⟨trivial,trivial⟩
def TZ (s:ByteArray):Bool:=(match s.data.toList with|[]=>false|b::_=>SQ b.toNat)&&s.data.toList.all fun b=>OD b.toNat
def IB (s:ByteArray):Bool:=TZ s&&decide (s.size<=16) && !I4 kw s
theorem AAQ {n:Int}(h:OD n=true):n<128:=by
 simp only[OD,SQ,AK4,Bool.or_eq_true,jV,decide_eq_true_eq,beq_iff_eq] at h;omega
theorem AWW (h:Hp)(s:ByteArray):AA6 Tryz.prog h 9 (.str s)=some (.ptr h.length 0 0,h++[.iter s 0]):=by
 have:Tryz.prog.underlying 9=some .string:=by kernel_rfl
 simp [AA6,this]
theorem AXL {h:Hp}{s:ByteArray}{pos:Nat}(hp:pos<s.size):AB3 (h++[.iter s pos]) (.ptr h.length 0 0) true=some (.tup [.bool true,.int .i64 pos,.int .i32 (Utf8.decode s pos).1],h++[.iter s (pos+(Utf8.decode s pos).2)]):=by
 simp [AB3,hp]
theorem ATO {h:Hp}{s:ByteArray}{pos:Nat}(hp:¬pos<s.size):AB3 (h++[.iter s pos]) (.ptr h.length 0 0) true=some (.tup [.bool false],h++[.iter s pos]):=by
 simp [AB3,hp]
theorem UX {s:ByteArray}{k:Nat}(hk:k<s.size)(hb:OD (s[k]'hk).toNat=false):TZ s=false:=by
 unfold TZ
 have:(s.data.toList.all fun b=>OD b.toNat)=false:=by
  rw[List.all_eq_false];exact⟨s[k],Array.getElem_mem_toList (xs:=s.data) hk,by simp [hb]⟩
 rw[this]; simp
theorem AA9 {s:ByteArray}(hk:0<s.size)(hb:SQ (s[0]'hk).toNat=false):TZ s=false:=by
 unfold TZ
 have:(match s.data.toList with|[]=>false|b::_=>SQ b.toNat)=false:=by
  cases hl:s.data.toList with
  | nil=>rfl
  | cons b l =>
    have h0:s[0]'hk=b:=by
     have:s.data.toList[0]?=some b:=by rw[hl]; rfl
     have h2:s.data[0]?=some b:=by rw[<-Array.getElem?_toList]; exact this
     have hk':0<s.data.size:=hk;rw[Array.getElem?_eq_getElem hk'] at h2;exact Option.some.inj h2
    simp only;rw[<-h0]; exact hb
 rw[this]; simp
theorem AI4 {s:ByteArray}(hk:0<s.size)(hb:SQ (s[0]'hk).toNat=true)(ha:∀i (hi:i<s.size),OD (s[i]'hi).toNat=true):TZ s=true:=by
 unfold TZ
 have h1:(match s.data.toList with|[]=>false|b::_=>SQ b.toNat)=true:=by
  cases hl:s.data.toList with
  | nil =>
    have:s.data.toList.length=0:=by rw[hl]; rfl
    have h2:s.data.size=0:=by simpa using this
    have h3:s.size=s.data.size:=rfl;omega
  | cons b l =>
    have h0:s[0]'hk=b:=by
     have:s.data.toList[0]?=some b:=by rw[hl]; rfl
     have h2:s.data[0]?=some b:=by rw[<-Array.getElem?_toList]; exact this
     have hk':0<s.data.size:=hk;rw[Array.getElem?_eq_getElem hk'] at h2;exact Option.some.inj h2
    simp only;rw[<-h0]; exact hb
 rw[h1,Bool.true_and,zI];intro b hbm;obtain⟨i,hi,rfl⟩:=List.getElem_of_mem hbm;have hi':i<s.size:=by simpa using hi
 exact ha i hi'
theorem AP5 (G:Nat->AV)(s:ByteArray)(h:Hp)(hl:s.size<=1099511627776):PCall (En G) 194 [.str s] h (.bool (TZ s)):=by
 refine ACalls.pure0 rfl ?_;refine acN Tryz.func194 rfl ?_;show awp _ _ _ _ _ (EN _ [.tmp 2] _);simp -implicitDefEqProofs only[BC,BP,BA,A8,AY,BB,AO,AQ,AL,BD,AX,AC,AA,AZ,AU,BM,BG,A7,AWF,BZ,BF,↓reduceIte,jA,jB,jC,enP,AWW];refine DK (fun n F H=>∃k,n+k=s.size∧F 0=.str s∧F 6=.ptr h.length 0 0∧H=h++[.iter s k]∧(∀i (hi:i<s.size),i<k->OD (s[i]'hi).toNat=true)∧(∀hp:0<s.size,0<k->SQ (s[0]'hp).toNat=true)) s.size ⟨0,by simp,rfl,by simp -implicitDefEqProofs only[AA,↓reduceIte],rfl,fun _ _ h=>absurd h (by omega),fun _ h=>absurd h (by omega)⟩ ?_;rintro n F H ⟨k,hk,f0,f6,rfl,hall,h0⟩;rcases Classical.em (k<s.size) with hp|hp
 .have go:∀(r:Nat×Nat),Utf8.decode s k=r->(OD r.1=true->r=((s[k]'hp).toNat,1)∧OD (s[k]'hp).toNat=true)∧(OD r.1=false->TZ s=false)∧(SQ r.1=false->k=0->TZ s=false)∧(SQ r.1=true->OD r.1=true):=by
   rintro r rfl;have lf:∀n,SQ n=true->OD n=true:=fun n hn=>by unfold OD; rw[hn]; rfl
   rcases zM (s[k]'hp).toNat 128 with ha|ha
   .have hd:=decode_ascii s k hp ha
    rw[hd];exact⟨fun hf=>⟨rfl,hf⟩,fun hf=>UX hp hf,fun hf h0=>by subst h0; exact AA9 hp hf,lf _⟩
   .have hd:=(decode_high s k hp ha).1
    refine⟨fun hf=>?_,fun _=>?_,fun _ h0=>?_,lf _⟩
    .have:=AAQ hf; omega
    .refine UX hp ?_
     cases hf:OD (s[k]'hp).toNat with
     | false=>rfl
     | true=>have:=AAQ hf; omega
    .refine UX hp ?_
     cases hf:OD (s[k]'hp).toNat with
     | false=>rfl
     | true=>have:=AAQ hf; omega
  simp -implicitDefEqProofs only[zB,List.getElem?_cons_succ,BC,BP,BA,BO,BI,A8,DI,AY,BB,BL,BV,CO,AO,AQ,AL,BD,AX,AC,AA,AZ,AU,BH,BG,A7,BR,ASH,FI,GU,BZ,AB,EC,↓reduceIte,jA,jB,jC,enP,f0,f6,AXL hp];generalize hr:Utf8.decode s k=r at go;obtain⟨g1,g2,g3,g4⟩:=go r rfl
  have done:∀H',OD r.1=true->(k=0->SQ r.1=true)->H'=h++[ABlk.iter s (k+r.2)]->∃m,m<n∧∃k',m+k'=s.size∧H'=h++[.iter s k']∧(∀i (hi:i<s.size),i<k'->OD (s[i]'hi).toNat=true)∧(∀hp:0<s.size,0<k'->SQ (s[0]'hp).toNat=true):=by
   intro H' hf hlw hH;obtain⟨e1,e2⟩:=g1 hf;refine⟨n-1,by omega,k+1,by omega,by rw[hH,e1],fun i hi hik=>?_,fun hp0 _=>?_⟩
   .rcases zM i k with h'|h'
    .exact hall i hi h'
    .have:i=k:=by omega
     subst this; exact e2
   .rcases qW k with h'|h'
    .subst h'; have:=hlw rfl; rw[e1] at this; exact this
    .exact h0 hp0 h'
  refine IL (fun ha=>?_) (fun ha=>?_)
  .have hk0:k=0:=by simp at ha; omega
   simp -implicitDefEqProofs only[BL,BV,CO,F9,AO,AQ,AL,BD,AX,AC,AA,AZ,BX,BG,CB,BU,jD,jE,jF,↓reduceIte,jA,jB,jC,ha];refine(ADX G _ _).use ?_;simp -implicitDefEqProofs only[AY,BL,BV,CO,F9,AO,AQ,AL,BD,AX,AC,AA,AZ,AU,BM,BG,CQ,DY,IE,AB,FK,↓reduceIte,jA,jB,jC];refine IL (fun hb=>?_) (fun hb=>?_)
   .simp -implicitDefEqProofs only[BC,BA,BK,BI,A8,CP,EG,FQ,CG,DI,AY,BB,BL,BV,CO,F7,AO,AQ,AL,BD,AX,AC,AA,EX,AZ,AU,BM,A7,CQ,DY,↓reduceIte,jA,jB,jC,hb]
    have hlw:SQ r.1=false:=by simpa using hb
    exact⟨by rw[g3 hlw hk0],_,rfl⟩
   have hlw:SQ r.1=true:=by simpa using hb
   simp -implicitDefEqProofs only[BL,BV,CO,ES,AO,AQ,AL,BD,AX,AC,AA,AZ,BX,BG,CB,BU,jD,jE,jF,↓reduceIte,jA,jB,jC,hb];refine(ZH G _ _).use ?_;simp -implicitDefEqProofs only[BI,A8,AY,BB,BL,BV,CO,ES,AO,AQ,AL,BD,AX,AC,AA,AZ,AU,BM,CQ,DX,IE,AB,FK,↓reduceIte,jA,jB,jC];have hf:=g4 hlw;simp -implicitDefEqProofs only[BO,EJ,EQ,DT,AA,↓reduceIte,jA,Bool.not_true,hf];obtain⟨m,h1,k',h2,h3,h4,h5⟩:=done _ hf (fun _=>hlw) rfl;exact⟨m,h1,k',h2,f0,f6,h3,h4,h5⟩
  .have hk0:k≠0:=by intro e; subst e; simp at ha
   simp -implicitDefEqProofs only[AY,BL,BV,CO,ES,IX,AO,AQ,AL,BD,AX,AC,AA,EX,AZ,AU,BX,BM,BG,CQ,DX,CB,BU,jD,jE,jF,↓reduceIte,jA,jB,jC,ha];refine(ZH G _ _).use ?_;simp -implicitDefEqProofs only[BI,A8,AY,BB,BL,BV,CO,ES,AO,AQ,AL,BD,AX,AC,AA,AZ,AU,BM,CQ,DX,IE,AB,FK,↓reduceIte,jA,jB,jC];refine CU (fun hb=>?_) (fun hb=>?_)
   .have hf:OD r.1=false:=by simpa using hb
    simp -implicitDefEqProofs only[BC,BA,BK,A8,CP,EG,FQ,CG,AY,BB,AO,AQ,AL,BD,AX,AC,AA,AU,BM,A7,↓reduceIte,jB,jC];exact⟨by rw[g2 hf],_,rfl⟩
   .have hf:OD r.1=true:=by simpa using hb
    simp -implicitDefEqProofs only[BO,EJ,EQ,AA,↓reduceIte,jA];obtain⟨m,h1,k',h2,h3,h4,h5⟩:=done _ hf (fun e=>absurd e hk0) rfl;exact⟨m,h1,k',h2,f0,f6,h3,h4,h5⟩
 .simp -implicitDefEqProofs only[zB,BC,BA,BK,DJ,BI,A8,EI,EW,ET,CG,DT,AY,BB,AO,AQ,AL,BD,AX,AC,AA,AZ,AU,JM,BG,A7,BR,ASH,FI,GU,BZ,AB,AEX,↓reduceIte,jA,jB,jC,enP,f0,f6,ATO hp]
  have hks:k=s.size:=by omega
  refine⟨?_,_,rfl⟩;congr 1;rcases qW s.size with hz|hz
  .have:s=⟨#[]⟩:=by
    obtain⟨d⟩:=s;have:d.size=0:=hz;rw[Array.eq_empty_of_size_eq_zero this]
   subst this;rw[ByteArray.toList_eq];rfl
  .rw[AI4 hz (h0 hz (by omega)) (fun i hi=>hall i hi (by omega))]
   have hne:s.toList≠[]:=by
    rw[ByteArray.toList_eq];intro e;have:s.data.toList.length=0:=by rw[e]; rfl
    have h2:s.data.size=0:=by simpa using this
    have h3:s.size=s.data.size:=rfl;omega
   cases hl2:s.toList with
   | nil=>exact absurd hl2 hne
   | cons=>rw[ByteArray.toList_eq]; rfl
theorem OM (G:Nat->AV)(hG:KwG G)(s:ByteArray)(h:Hp)(hl:s.size<=1099511627776):PCall (En G) 150 [.str s] h (.bool (IB s)):=by
 refine acN Tryz.func150 rfl ?_;show awp _ _ _ _ _ (EN _ [.tmp 2] _);simp -implicitDefEqProofs only[BC,BA,A8,AY,BB,AO,AQ,AL,BD,AX,AC,AA,AZ,AU,BX,BM,BG,A7,CB,BU,BF,jD,jE,jF,↓reduceIte,jA,jB,jC,enP];refine(AP5 G s h hl).use ?_;simp -implicitDefEqProofs only[AY,BL,BV,CO,AO,AQ,AL,BD,AX,AC,AA,AZ,BG,↓reduceIte,jB,jC];refine IL (fun ha=>?_) (fun ha=>?_)
 .simp -implicitDefEqProofs only[AY,BL,BV,CO,F9,AO,AQ,AL,BD,AX,AC,AA,AZ,AU,BH,BM,BG,CQ,DY,BR,D7,AB,JC,BF,↓reduceIte,jA,jB,jC,enP,ln9,ha]
  refine IL (fun hb=>?_) (fun hb=>?_)
  .simp -implicitDefEqProofs only[BL,BV,CO,F9,AO,AQ,AL,BD,AX,AC,AA,AZ,BX,BG,CB,BU,BF,jD,jE,jF,↓reduceIte,jA,jB,jC,hb]
   refine(AD1 G hG s h).use ?_;simp -implicitDefEqProofs only[BK,A8,CG,AY,BB,BL,BV,CO,F9,AO,AQ,AL,BD,AX,AC,AA,AZ,AU,BM,A7,CQ,DY,IE,AB,FK,↓reduceIte,jA,jB,jC];refine⟨?_,trivial⟩
   have:decide (s.size<=16)=true:=by simp at hb|-; omega
   unfold IB; rw[ha,this]; rfl
  .simp -implicitDefEqProofs only[BK,A8,CG,AY,BB,BL,BV,CO,IX,AO,AQ,AL,BD,AX,AC,AA,EX,AZ,AU,BM,A7,CQ,DX,↓reduceIte,jA,jB,jC,hb]
   refine⟨?_,trivial⟩
   have:decide (s.size<=16)=false:=by simp at hb|-; omega
   unfold IB; rw[ha,this]; rfl
 .simp -implicitDefEqProofs only[BK,A8,CG,AY,BB,BL,BV,CO,IX,AO,AQ,AL,BD,AX,AC,AA,EX,AZ,AU,BM,BG,A7,CQ,DX,↓reduceIte,jA,jB,jC,ha]
  exact⟨by unfold IB; rw[ha]; rfl,trivial⟩
theorem ix9 (s:ByteArray)(k:Nat)(kk:IntKind)(hk:k<s.size):OH Tryz.prog 9 (.str s) (.int kk (k:Int))=some (.int .u8 (s[k]'hk).toNat):=by
 have hu:Tryz.prog.underlying 9=some .string:=by kernel_rfl
 have h0:(0:Int)<=(k:Int):=by omega
 have:s[k]?=some (s[k]'hk):=by simp [hk]
 simp [OH,hu,h0,this]
theorem PN (G:Nat->AV)(s:ByteArray)(h:Hp):PCall (En G) 160 [.str s] h (.bool (IB s)):=by
 refine acN Tryz.func160 rfl ?_;show awp _ _ _ _ _ (EN _ [.tmp 2] _);simp -implicitDefEqProofs only[BC,BA,A8,AY,BB,BL,BV,CO,AO,AQ,AL,BD,AX,AC,AA,AZ,AU,BM,JM,BG,A7,BR,AB,ML,BF,↓reduceIte,jA,jB,jC,enP];refine IL (fun ha=>?_) (fun ha=>?_)
 .simp -implicitDefEqProofs only[BC,BA,BK,BI,A8,CP,CG,DI,AY,BB,BL,BV,CO,F7,AO,AQ,AL,BD,AX,AC,AA,EX,AZ,AU,BM,BG,A7,CQ,DY,↓reduceIte,jA,jB,jC,ha]
  refine⟨?_,trivial⟩
  have:s.data.toList=[]:=by
   rw[ByteArray.toList_eq,ByteArray.toList_eq] at ha;have:=beq_iff_eq.1 ha;exact this
  unfold IB TZ; rw[this]; rfl
 have hz:0<s.size:=by
  rcases qW s.size with hz|hz
  .have:s=⟨#[]⟩:=by
    obtain⟨d⟩:=s;have:d.size=0:=hz;rw[Array.eq_empty_of_size_eq_zero this]
   rw[this] at ha;simp at ha
  .exact hz
 simp -implicitDefEqProofs only[AY,BL,BV,CO,ES,AO,AQ,AL,BD,AX,AC,AA,AZ,AU,BH,BM,BG,CQ,DX,BR,D7,AB,FV,BF,↓reduceIte,jA,jB,jC,enP,ln9,ha];refine IL (fun hb=>?_) (fun hb=>?_)
 .simp -implicitDefEqProofs only[BC,BA,BK,BI,A8,CP,CG,DI,AY,BB,BL,BV,CO,F7,AO,AQ,AL,BD,AX,AC,AA,EX,AZ,AU,BM,BG,A7,CQ,DY,↓reduceIte,jA,jB,jC,hb]
  refine⟨?_,trivial⟩
  have:decide (s.size<=16)=false:=by simp at hb|-; omega
  unfold IB; rw[this]; simp
 have h16:decide (s.size<=16)=true:=by simp at hb|-; omega
 simp -implicitDefEqProofs only[BL,BV,CO,ES,AO,AQ,AL,BD,AX,AC,AA,AZ,AU,BH,BG,OW,BF,↓reduceIte,jA,jB,jC,enP,hb];refine HY (v:=.int .u8 (s[0]'hz).toNat) (h:=h) (by rw[show(0:Int)=((0:Nat):Int) from rfl,ix9 s 0 .i64 hz]; rfl) ?_;simp -implicitDefEqProofs only[BL,BV,CO,ES,AO,AQ,AL,BD,AX,AC,AA,AZ,BX,CB,BU,jD,jE,jF,↓reduceIte,jA,jB,jC];refine(AFZ G _ h).use ?_;simp -implicitDefEqProofs only[AY,BL,BV,CO,ES,AO,AQ,AL,BD,AX,AC,AA,AZ,AU,BM,BG,CQ,DX,IE,AB,FK,↓reduceIte,jA,jB,jC];refine IL (fun hc=>?_) (fun hc=>?_)
 .simp -implicitDefEqProofs only[BC,BA,BK,BI,A8,CP,CG,DI,AY,BB,BL,BV,CO,F7,AO,AQ,AL,BD,AX,AC,AA,EX,AZ,AU,BM,A7,CQ,DY,↓reduceIte,jA,jB,jC,hc]
  refine⟨?_,trivial⟩;unfold IB; rw[AA9 hz (by simpa using hc)]; rfl
 simp -implicitDefEqProofs only[BL,BV,CO,ES,AO,AQ,AL,BD,AX,AC,AA,AZ,BX,BG,CB,BU,BF,jD,jE,jF,↓reduceIte,jA,jB,jC,hc];refine(AFG G s h).use ?_;simp -implicitDefEqProofs only[BI,A8,AY,BB,AO,AQ,AL,BD,AX,AC,AA,AZ,AU,BM,CQ,DX,↓reduceIte,jA,jB,jC];refine CU (fun hd=>?_) (fun hd=>?_)
 .simp -implicitDefEqProofs only[BC,BA,BK,A8,CP,CG,AY,BB,AO,AQ,AL,BD,AX,AC,AA,AU,BM,A7,↓reduceIte,jB,jC]
  refine⟨?_,trivial⟩;unfold IB; rw[hd]; simp
 simp -implicitDefEqProofs only[BC,BP,BA,BO,A8,AY,BB,AO,AQ,AL,BD,AX,AC,AU,BH,A7,jB,jC];have hlow:SQ (s[0]'hz).toNat=true:=by simpa using hc
 refine DK (fun n F H=>∃k,n+k=s.size∧F 0=.str s∧F 3=.int .i64 (k:Nat)∧H=h∧(∀i (hi:i<s.size),i<k->OD (s[i]'hi).toNat=true)) s.size ⟨0,by simp,by simp -implicitDefEqProofs only[AA,BF,↓reduceIte,jA],by simp -implicitDefEqProofs only[AA,↓reduceIte]; rfl,rfl,fun _ _ h=>absurd h (by omega)⟩ ?_;rintro n F H ⟨k,hk,f0,f3,rfl,hall⟩;simp -implicitDefEqProofs only[BC,BA,BI,A8,AY,BB,AO,AQ,AL,BD,AX,AC,AA,AZ,BG,BR,D7,AB,DC,↓reduceIte,jA,jB,jC,enP,ln9,f0,f3];refine CU (fun he=>?_) (fun he=>?_)
 .have hk':k<s.size:=by simpa using he
  simp -implicitDefEqProofs only[BC,BP,BA,BO,A8,AY,AO,AQ,AL,BD,AX,AC,AA,AZ,BX,BG,OW,CB,BU,AB,jD,jE,jF,↓reduceIte,jA,jB,jC,enP,f0,f3,ix9 s k .i64 hk'];refine(AQ4 G _ _).use ?_;simp -implicitDefEqProofs only[BI,A8,AY,BB,AO,AQ,AL,BD,AX,AC,AA,AZ,IE,AB,FK,↓reduceIte,jB,jC];refine CU (fun hf=>?_) (fun hf=>?_)
  .simp -implicitDefEqProofs only[BC,BA,BK,A8,CP,EG,FQ,CG,AY,BB,AO,AQ,AL,BD,AX,AC,AA,AU,BM,A7,↓reduceIte,jB,jC]
   refine⟨?_,trivial⟩;unfold IB; rw[UX hk' (by simpa using hf)]; rfl
  .simp -implicitDefEqProofs only[BA,BO,A8,EJ,EQ,AY,BB,AO,AQ,AL,BD,AX,AC,AA,AZ,AU,BH,BG,A7,BR,AB,CZ,↓reduceIte,jA,jB,jC,enP,f3,wrap_succ (show k<9223372036854775807 by simp at h16; omega)]
   refine⟨n-1,by omega,k+1,by omega,f0,rfl,trivial,fun i hi hik=>?_⟩;rcases zM i k with h'|h'
   .exact hall i hi h'
   .have:i=k:=by omega
    subst this; simpa using hf
 .have hk':¬k<s.size:=by simpa using he
  simp -implicitDefEqProofs only[BC,BA,BK,DJ,A8,EI,EW,ET,CG,AY,BB,AO,AQ,AL,BD,AX,AC,AA,AU,BM,A7,↓reduceIte,jB,jC];refine⟨?_,trivial⟩;unfold IB;rw[AI4 hz hlow (fun i hi=>hall i hi (by omega)),h16,hd]; rfl
def J6 (b:Bin):Bool :=
 decide (b.kind<0)||decide (b.kind>2)||(decide ((b.ranges.l.length:Int)>0)==decide ((b.steps.length:Int)>0))||(b.kind != 0&&decide ((b.steps.length:Int)>0))||((b.steps.length:Int)==1)||decide ((b.steps.length:Int)>8)
def IA (b:Bin):Int :=
 if IB b.name then if J6 b then 1 else if b.steps.any (fun l=>decide (l.l.length=0)) then 1 else
  if(sets b).any (fun l=>decide (l.l.length>64)) then 2 else if(sets b).any (fun l=>l.l.any bad) then 1 else 0
 else 7
def shape (b:Bin):Bool :=
 if(b.kind != 0&&b.kind != 1&&b.kind != 2) then false else if((b.steps.length:Int)==0) then decide ((b.ranges.l.length:Int)>0) else
  if(decide ((b.ranges.l.length:Int)>0)||b.kind != 0||decide ((b.steps.length:Int)<2)||decide ((b.steps.length:Int)>8)) then false else !(b.steps.any (fun l=>decide (l.l.length=0)))
theorem AL3:∀(n p z o t r s0 s1 s8 E:Bool),((n||p||z||o||t) && !(n&&p) && !(n&&z) && !(n&&o) && !(n&&t) && !(p&&z) && !(p&&o) && !(p&&t) && !(z&&o) && !(z&&t) && !(o&&t) && !(s0&&s1) && !(s0&&s8) && !(s1&&s8) && !(s0&&E))=true ->
 (if(!z && !o && !t) then false else if s0 then r else if(r || !z||(s0||s1)||s8) then false else !E)=(!(n||p||(r == !s0)||(!z && !s0)||s1||s8) && !E):=by decide +kernel
theorem AQE (k r s:Int)(E:Bool)(hs:0<=s)(hE:s=0->E=false) :
  (if(k != 0&&k != 1&&k != 2) then false else if(s==0) then decide (r>0) else if(decide (r>0)||k != 0||decide (s<2)||decide (s>8)) then false else !E) =
  (!(decide (k<0)||decide (k>2)||(decide (r>0)==decide (s>0))||(k != 0&&decide (s>0))||(s==1)||decide (s>8)) && !E):=by
 have h1:decide (s>0) = !(s==0):=by rw[qM]; simp; omega
 have h2:decide (s<2)=((s==0)||(s==1)):=by rw[qM]; simp; omega
 rw[h1,h2];have key:=AL3 (decide (k<0)) (decide (k>2)) (k==0) (k==1) (k==2) (decide (r>0)) (s==0) (s==1) (decide (s>8)) E ?_
 .exact key
 .have a1:(decide (k<0)||decide (k>2)||(k==0)||(k==1)||(k==2))=true:=by simp; omega
  have no:∀(p q:Prop) [Decidable p] [Decidable q],¬(p∧q)->(!(decide p&&decide q))=true:=by
   intro p q _ _ h; by_cases hp:p<;>by_cases hq:q<;>simp_all
  have e0:(s==0&&E)=false:=by
   by_cases hz:s=0
   .rw[hE hz]; simp
   .simp [hz]
  have b0:(k==0)=decide (k=0):=rfl;have b1:(k==1)=decide (k=1):=rfl;have b2:(k==2)=decide (k=2):=rfl;have c0:(s==0)=decide (s=0):=rfl;have c1:(s==1)=decide (s=1):=rfl;rw[e0]
  rw[b0,b1,b2] at a1|-
  rw[c0,c1,a1,no _ _ (show ¬(k<0∧k>2) by omega),no _ _ (show ¬(k<0∧k=0) by omega),no _ _ (show ¬(k<0∧k=1) by omega),no _ _ (show ¬(k<0∧k=2) by omega),
   no _ _ (show ¬(k>2∧k=0) by omega),no _ _ (show ¬(k>2∧k=1) by omega),no _ _ (show ¬(k>2∧k=2) by omega),no _ _ (show ¬(k=0∧k=1) by omega),no _ _ (show ¬(k=0∧k=2) by omega),no _ _ (show ¬(k=1∧k=2) by omega),
   no _ _ (show ¬(s=0∧s=1) by omega),no _ _ (show ¬(s=0∧s>8) by omega),no _ _ (show ¬(s=1∧s>8) by omega)]
  rfl
theorem AJJ (b:Bin):shape b=(!J6 b && !(b.steps.any (fun l=>decide (l.l.length=0)))) :=
 AQE b.kind b.ranges.l.length b.steps.length _ (by omega) (fun h=>by
  have:b.steps=[]:=List.eq_nil_of_length_eq_zero (by omega)
  rw[this]; rfl)
theorem AL2 (G:Nat->AV)(b:Bin)(h:Hp)(hl:b.steps.length<=1099511627776):PCall (En G) 201 [.agg (GV b)] h (.bool (shape b)):=by
 refine ACalls.pure0 rfl ?_;refine acN Tryz.func201 rfl ?_;show awp _ _ _ _ _ (EN _ [.tmp 2] _);simp -implicitDefEqProofs only[BC,BP,BA,A8,AY,BB,BL,BV,CO,AO,AQ,AL,BD,AX,AC,AA,AZ,AU,BH,BM,BG,A7,FU,BQ,BR,BJ,D7,BZ,AB,EK,BF,↓reduceIte,jA,jG,jB,jC,enP,RS,MP,OG,bxB,DL VG,DL PE,DL ag3,UK,ABU,VE,jI];refine SK (fun F H=>F 7=.bool (b.kind != 0&&b.kind != 1&&b.kind != 2)∧F 1=.ptr h.length 0 0∧F 3=.int .i64 b.steps.length∧H=h++[.live 4 [GV b]]) ?_ ?_
 .refine IL (fun ha=>?_) (fun ha=>?_)
  .simp -implicitDefEqProofs only[AY,BL,BV,CO,F9,AO,AQ,AL,BD,AX,AC,AA,AZ,AU,BH,BM,BG,CQ,DY,BQ,BR,BJ,AB,EK,↓reduceIte,jA,jG,jB,jC,enP,MP,ha,DL ag3,UK]
   refine IL (fun hb=>?_) (fun hb=>?_)
   .simp -implicitDefEqProofs only[AY,BB,BL,BV,CO,F9,AO,AQ,AL,BD,AX,AC,AA,AZ,AU,BH,BM,A7,CQ,DY,BQ,BR,BJ,AB,EK,↓reduceIte,jA,jG,jB,jC,enP,MP,hb,DL ag3,UK]
    exact⟨rfl,trivial,trivial,trivial⟩
   .simp -implicitDefEqProofs only[AY,BB,BL,BV,CO,IX,AO,AQ,AL,BD,AX,AC,AA,EX,AZ,AU,BM,A7,CQ,DX,↓reduceIte,jA,jB,jC,hb]
    exact⟨rfl,trivial,trivial,trivial⟩
  .simp -implicitDefEqProofs only[AY,BB,BL,BV,CO,IX,AO,AQ,AL,BD,AX,AC,AA,EX,AZ,AU,BM,BG,A7,CQ,DX,↓reduceIte,jA,jB,jC,ha]
   exact⟨rfl,trivial,trivial,trivial⟩
 rintro F H ⟨f7,f1,f3,rfl⟩;simp -implicitDefEqProofs only[BI,A8,AZ,f7,f1,f3];refine CU (fun hk=>?_) (fun hk=>?_)
 .simp -implicitDefEqProofs only[BC,BA,BK,A8,CP,EG,CG,AY,BB,AO,AQ,AL,BD,AX,AC,AA,AU,BM,A7,↓reduceIte,jB,jC]
  exact⟨by unfold shape; rw[if_pos hk],_,rfl⟩
 have hk':¬(b.kind != 0&&b.kind != 1&&b.kind != 2)=true:=by rw[hk]; simp
 simp -implicitDefEqProofs only[BC,BA,BI,A8,AY,BB,AO,AQ,AL,BD,AX,AC,AA,AZ,AU,BH,BG,A7,BR,AB,EC,↓reduceIte,jB,jC,enP,f1,f3];refine CU (fun hs=>?_) (fun hs=>?_)
 .simp -implicitDefEqProofs only[BC,BA,BK,A8,CP,EG,CG,AY,BB,AO,AQ,AL,BD,AX,AC,AA,AZ,AU,BH,A7,BQ,BR,BJ,D7,AB,FV,↓reduceIte,jA,jG,jB,jC,enP,TD,QV,f1,DL PE,ABU,jI]
  exact⟨by unfold shape; rw[if_neg hk',if_pos hs],_,rfl⟩
 have hs':¬((b.steps.length:Int)==0)=true:=by rw[hs]; simp
 simp -implicitDefEqProofs only[BC,BA,AY,BL,BV,CO,AO,AQ,AL,BD,AX,AC,AA,AZ,AU,BH,BG,BQ,BR,BJ,D7,AB,FV,↓reduceIte,jA,jG,jB,jC,enP,TD,QV,f1,f3,DL PE,ABU,jI];refine SK (fun F H=>F 28=.bool (decide ((b.ranges.l.length:Int)>0)||b.kind != 0||decide ((b.steps.length:Int)<2)||decide ((b.steps.length:Int)>8))∧F 1=.ptr h.length 0 0∧H=h++[.live 4 [GV b]]) ?_ ?_
 .refine IL (fun ha=>?_) (fun ha=>?_)
  .simp -implicitDefEqProofs only[wE,AY,BB,BL,BV,CO,F7,AO,AQ,AL,BD,AX,AC,AA,EX,AZ,AU,BM,BG,A7,CQ,DY,↓reduceIte,jA,jB,jC,ha,f1]
   exact⟨trivial,trivial,trivial⟩
  simp -implicitDefEqProofs only[qG,AY,BL,BV,CO,ES,AO,AQ,AL,BD,AX,AC,AA,AZ,AU,BH,BM,BG,CQ,DX,BQ,BR,BJ,AB,EK,↓reduceIte,jA,jG,jB,jC,enP,MP,ha,f1,DL ag3,UK];refine IL (fun hb=>?_) (fun hb=>?_)
  .simp -implicitDefEqProofs only[wE,AY,BB,BL,BV,CO,F7,AO,AQ,AL,BD,AX,AC,AA,EX,AZ,AU,BM,BG,A7,CQ,DY,↓reduceIte,jA,jB,jC,hb,f1]
   exact⟨trivial,trivial,trivial⟩
  simp -implicitDefEqProofs only[qG,AY,BL,BV,CO,ES,AO,AQ,AL,BD,AX,AC,AA,AZ,AU,BH,BM,BG,CQ,DX,BR,AB,DC,↓reduceIte,jA,jB,jC,enP,hb,f1,f3];refine IL (fun hc=>?_) (fun hc=>?_)
  .simp -implicitDefEqProofs only[wE,AY,BB,BL,BV,CO,F7,AO,AQ,AL,BD,AX,AC,AA,EX,AZ,AU,BM,A7,CQ,DY,↓reduceIte,jA,jB,jC,hc,f1]
   exact⟨trivial,trivial,trivial⟩
  .simp -implicitDefEqProofs only[qG,AY,BB,BL,BV,CO,ES,AO,AQ,AL,BD,AX,AC,AA,AZ,AU,BH,BM,BG,A7,CQ,DX,BR,AB,FV,↓reduceIte,jA,jB,jC,enP,hc,f1,f3]
   exact⟨trivial,trivial,trivial⟩
 rintro F H ⟨f28,f1,rfl⟩;simp -implicitDefEqProofs only[BI,A8,AZ,f28,f1];refine CU (fun ho=>?_) (fun ho=>?_)
 .simp -implicitDefEqProofs only[BC,BA,BK,A8,CP,EG,CG,AY,BB,AO,AQ,AL,BD,AX,AC,AA,AU,BM,A7,↓reduceIte,jB,jC]
  exact⟨by unfold shape; rw[if_neg hk',if_neg hs',if_pos ho],_,rfl⟩
 have ho':¬(decide ((b.ranges.l.length:Int)>0)||b.kind != 0||decide ((b.steps.length:Int)<2)||decide ((b.steps.length:Int)>8))=true:=by rw[ho]; simp
 simp -implicitDefEqProofs only[BC,BA,BO,A8,EJ,AY,AO,AQ,AL,BD,AX,AC,AA,AZ,BX,BQ,BJ,CB,BU,AB,jD,jE,jF,↓reduceIte,jG,jB,jC,enP,OG,f1,DL VG,VE];refine(AEQ G b.steps b.sm 235 [] (fun l=>decide (l.l.length=0)) _ hl fun r=>AUZ G r _).use ?_;simp -implicitDefEqProofs only[BK,A8,CG,AY,BB,AO,AQ,AL,BD,AX,AC,AA,AZ,A7,IE,AB,FK,↓reduceIte,jB,jC];exact⟨by unfold shape; rw[if_neg hk',if_neg hs',if_neg ho'],_,rfl⟩
theorem ABA {b:Bin}(h:IB b.name=false):IA b=7:=by unfold IA; rw[h]; rfl
theorem YR {b:Bin}(h:IB b.name=true)(hs:J6 b=true):IA b=1:=by unfold IA; rw[h,hs]; rfl
theorem YS {b:Bin}(h:IB b.name=true)(hs:b.steps.any (fun l=>decide (l.l.length=0))=true):IA b=1:=by
 unfold IA; rw[h,hs]; cases J6 b<;>rfl
theorem VR {b:Bin}(h:IB b.name=true)(hs:J6 b=false)(he:b.steps.any (fun l=>decide (l.l.length=0))=false) :
  IA b=if(sets b).any (fun l=>decide (l.l.length>64)) then 2 else if(sets b).any (fun l=>l.l.any bad) then 1 else 0:=by
 unfold IA; rw[h,hs,he]; rfl
structure BinOk (b:Bin):Prop where
 num:(sets b).length<=1099511627776
 name:b.name.size<=1099511627776
 steps:b.steps.length<=1099511627776
 sets:∀l∈sets b,l.l.length<=1099511627776
theorem AJ0 (xs:List Rng):decide (JO xs=2)=decide (xs.length>64):=by
 unfold JO;split
 .simp_all
 .split<;>simp_all
theorem ABG (xs:List Rng):decide (JO xs=1)=(decide (¬xs.length>64)&&xs.any bad):=by
 unfold JO;split
 .rename_i h; simp [h]
 .rename_i h
  split
  .rename_i h2; simp only[h2,h]; rfl
  .rename_i h2; simp only[qN] at h2; simp only[h2]; simp
theorem ASL {b:Bin}(h:IB b.name=true)(hs:J6 b=false)(he:b.steps.any (fun l=>decide (l.l.length=0))=false) :
  IA b=if(sets b).any (fun l=>decide (JO l.l=2)) then 2 else if(sets b).any (fun l=>decide (JO l.l=1)) then 1 else 0:=by
 rw[VR h hs he];simp only[AJ0];split
 .rfl
 .rename_i hn
  have:(sets b).any (fun l=>decide (JO l.l=1))=(sets b).any (fun l=>l.l.any bad):=by
   rw[qM,qH,qH];constructor
   .rintro⟨l,h1,h2⟩
    rw[ABG] at h2;simp only[jV] at h2;exact⟨l,h1,h2.2⟩
   .rintro⟨l,h1,h2⟩
    refine⟨l,h1,?_⟩;rw[ABG,h2];rw[qN,wB] at hn;have:=hn l h1;simp only[decide_eq_true_eq] at this;simp only[this,not_false_eq_true,decide_true,Bool.and_self]
  rw[this]
theorem WM {α:Type}(p:α->Bool)(xs:List α)(k:Nat)(h:k<xs.length):(xs.take (k+1)).any p=((xs.take k).any p||p xs[k]):=by
 rw[zL h,List.any_append,List.any_cons,List.any_nil,Bool.or_false]
theorem AC6 (G:Nat->AV)(hG:KwG G)(b:Bin)(hb:BinOk b)(h:Hp):PCall (En G) 152 [.agg (GV b)] h (.int .i64 (IA b)):=by
 refine ACalls.pure0 rfl ?_;refine acN Tryz.func152 rfl ?_;show awp _ _ _ _ _ (EN _ [.tmp 2] _);simp -implicitDefEqProofs only[BC,BA,A8,AY,BB,AO,AQ,AL,BD,AX,AC,AA,AZ,AU,BX,BH,A7,FU,BQ,BJ,CB,BU,BZ,AB,BF,jD,jE,jF,↓reduceIte,jA,jL,jB,jC,enP,ACV,bxB,DL ag9,APV];refine(OM G hG b.name _ hb.name).use ?_;simp -implicitDefEqProofs only[BI,A8,AY,BB,AO,AQ,AL,BD,AX,AC,AA,AZ,IE,AB,FK,↓reduceIte,jB,jC];refine CU (fun hn=>?_) (fun hn=>?_)
 .simp -implicitDefEqProofs only[BC,BA,BK,A8,CP,CG,AY,BB,AO,AQ,AL,BD,AX,AC,AA,AU,BH,A7,↓reduceIte,jB,jC]
  exact⟨by rw[ABA (by simpa using hn)],_,rfl⟩
 have hn':IB b.name=true:=by simpa using hn
 simp -implicitDefEqProofs only[BC,BA,BO,A8,AY,AO,AQ,AL,BD,AX,AC,AA,AZ,BX,BQ,CB,BU,AB,jD,jE,jF,↓reduceIte,jA,jB,jC,enP,ldB];refine(AL2 G b _ hb.steps).use ?_;simp -implicitDefEqProofs only[BI,A8,AY,BB,AO,AQ,AL,BD,AX,AC,AA,AZ,IE,AB,FK,↓reduceIte,jB,jC];refine CU (fun hs=>?_) (fun hs=>?_)
 .simp -implicitDefEqProofs only[BC,BA,BK,A8,CP,CG,AY,BB,AO,AQ,AL,BD,AX,AC,AA,AU,BH,A7,↓reduceIte,jB,jC]
  refine⟨?_,_,rfl⟩;have h1:shape b=false:=by simpa using hs
  rw[AJJ] at h1
  cases hr:J6 b with
  | true=>rw[YR hn' hr]
  | false =>
    rw[hr] at h1;rw[YS hn' (by simpa using h1)]
 have h1:shape b=true:=by simpa using hs
 rw[AJJ] at h1;simp only[jV,Bool.not_eq_true'] at h1;have hv:=VR hn' h1.1 h1.2;simp -implicitDefEqProofs only[BC,BA,BO,A8,AY,BB,AO,AQ,AL,BD,AX,AC,AA,AZ,AU,BX,BM,A7,BQ,CB,BU,AB,jD,jE,jF,↓reduceIte,jA,jB,jC,enP,ldB];refine(AF0 G b _).use ?_;simp -implicitDefEqProofs only[BP,A8,AY,BB,AO,AQ,AL,BD,AX,AC,AA,AZ,AU,BH,BG,D7,AB,↓reduceIte,jB,jC,enP,RS,jI];refine DK (fun n F H=>∃k,n+k=(sets b).length∧F 3=.bool (((sets b).take k).any fun l=>decide (JO l.l=2))∧F 4=.bool (((sets b).take k).any fun l=>decide (JO l.l=1))∧F 15=.sl (S9 b) 1 ((sets b).map encS)∧F 16=.int .i64 (sets b).length∧F 17=.int .i64 (k:Nat)∧H=h++[.live 4 [GV b]]) (sets b).length ⟨0,by simp,rfl,rfl,rfl,rfl,rfl,rfl⟩ ?_;rintro n F H ⟨k,hk,f3,f4,f15,f16,f17,rfl⟩;simp -implicitDefEqProofs only[BC,BA,BI,A8,AY,BB,AO,AQ,AL,BD,AX,AC,AA,AZ,BR,AB,DC,↓reduceIte,jB,jC,enP,f15,f16,f17];refine CU (fun hc=>?_) (fun hc=>?_)
 .have hc':k<(sets b).length:=by simpa using hc
  simp -implicitDefEqProofs only[BC,BP,BA,BO,A8,AY,BB,AO,AQ,AL,BD,AX,AC,AA,AZ,BX,BG,A7,BQ,CE,CB,BU,AB,jD,jE,jF,↓reduceIte,jA,jB,jC,enP,ABM,f15,f17,DU hc',DF PE hc',ABR];refine(AJZ G _ _ _ (hb.sets _ (List.getElem_mem hc'))).use ?_;have t2:=WM (fun l:Rs=>decide (JO l.l=2)) (sets b) k hc';have t1:=WM (fun l:Rs=>decide (JO l.l=1)) (sets b) k hc';simp -implicitDefEqProofs only[BC,BP,BA,BI,A8,AY,BB,AO,AQ,AL,BD,AX,AC,AA,AZ,AU,BH,A7,BR,AB,EC,↓reduceIte,jB,jC,enP];refine CU (fun hd=>?_) (fun hd=>?_)
  .have hd':JO (sets b)[k].l=2:=by simpa using hd
   simp -implicitDefEqProofs only[BA,A8,EJ,EQ,AY,BB,AO,AQ,AL,BD,AX,AC,AA,AZ,AU,BH,BM,BG,A7,BR,AB,CZ,↓reduceIte,jA,jB,jC,enP,f17,wrap_succ (show k<9223372036854775807 by have:=hb.num; omega)];refine⟨n-1,by omega,k+1,by omega,?_,?_,f15,f16,rfl,trivial⟩
   .rw[t2,hd']; simp
   .rw[f4,t1,hd']; simp
  simp -implicitDefEqProofs only[BC,BA,BI,A8,AY,BB,AO,AQ,AL,BD,AX,AC,AA,AZ,AU,BH,A7,BR,AB,EC,↓reduceIte,jA,jB,jC,enP];refine CU (fun he=>?_) (fun he=>?_)
  .have he':JO (sets b)[k].l=1:=by simpa using he
   simp -implicitDefEqProofs only[BA,A8,EJ,EQ,AY,BB,AO,AQ,AL,BD,AX,AC,AA,AZ,AU,BH,BM,BG,A7,BR,AB,CZ,↓reduceIte,jA,jB,jC,enP,f17,wrap_succ (show k<9223372036854775807 by have:=hb.num; omega)];refine⟨n-1,by omega,k+1,by omega,?_,?_,f15,f16,rfl,trivial⟩
   .rw[f3,t2,he']; simp
   .rw[t1,he']; simp
  .have hd':JO (sets b)[k].l≠2:=by simpa using hd
   have he':JO (sets b)[k].l≠1:=by simpa using he
   simp -implicitDefEqProofs only[BA,BO,A8,EJ,EQ,AY,BB,AO,AQ,AL,BD,AX,AC,AA,AZ,AU,BH,BG,BR,AB,CZ,↓reduceIte,jA,jB,jC,enP,f17,wrap_succ (show k<9223372036854775807 by have:=hb.num; omega)];refine⟨n-1,by omega,k+1,by omega,?_,?_,f15,f16,rfl,trivial⟩
   .rw[f3,t2]; simp [hd']
   .rw[f4,t1]; simp [he']
 .have hc':¬k<(sets b).length:=by simpa using hc
  rw[jX (by omega)] at f3 f4;have hE:=ASL hn' h1.1 h1.2;simp -implicitDefEqProofs only[BC,BP,BA,DJ,BI,A8,EI,EW,ET,AY,BB,AO,AQ,AL,BD,AX,AC,AA,AZ,BG,A7,↓reduceIte,jA,jB,jC,f3,f4];refine CU (fun hd=>?_) (fun hd=>?_)
  .simp -implicitDefEqProofs only[BC,BA,BK,A8,CP,EG,CG,AY,BB,AO,AQ,AL,BD,AX,AC,AA,AU,BH,A7,↓reduceIte,jB,jC]
   exact⟨by rw[hE,if_pos hd],_,rfl⟩
  simp -implicitDefEqProofs only[BC,BA,BI,A8,AY,BB,AO,AQ,AL,BD,AX,AC,AA,AZ,BG,A7,↓reduceIte,jA,jB,jC,f4];refine CU (fun he=>?_) (fun he=>?_)
  .simp -implicitDefEqProofs only[BC,BA,BK,A8,CP,EG,CG,AY,BB,AO,AQ,AL,BD,AX,AC,AA,AU,BH,A7,↓reduceIte,jB,jC]
   exact⟨by rw[hE,if_neg (by rw[hd]; simp),if_pos he],_,rfl⟩
  .simp -implicitDefEqProofs only[BC,BA,BO,BK,A8,EJ,CG,AY,BB,AO,AQ,AL,BD,AX,AC,AA,AU,BH,A7,↓reduceIte,jB,jC]
   exact⟨by rw[hE,if_neg (by rw[hd]; simp),if_neg (by rw[he]; simp)],_,rfl⟩
theorem AFU (G:Nat->AV)(b:Bin)(hb:BinOk b)(h:Hp):PCall (En G) 162 [.agg (GV b)] h (.int .i64 (IA b)):=by
 refine ACalls.pure0 rfl ?_;refine acN Tryz.func162 rfl ?_;show awp _ _ _ _ _ (EN _ [.tmp 2] _);simp -implicitDefEqProofs only[BC,BA,A8,AY,BB,AO,AQ,AL,BD,AX,AC,AA,AZ,AU,BX,BH,A7,FU,BQ,BJ,CB,BU,BZ,AB,BF,jD,jE,jF,↓reduceIte,jA,jL,jB,jC,enP,ACV,bxB,DL ag9,APV];refine(PN G b.name _).use ?_;simp -implicitDefEqProofs only[BI,A8,AY,BB,AO,AQ,AL,BD,AX,AC,AA,AZ,IE,AB,FK,↓reduceIte,jB,jC];refine CU (fun hn=>?_) (fun hn=>?_)
 .simp -implicitDefEqProofs only[BC,BA,BK,A8,CP,CG,AY,BB,AO,AQ,AL,BD,AX,AC,AA,AU,BH,A7,↓reduceIte,jB,jC]
  exact⟨by rw[ABA (by simpa using hn)],_,rfl⟩
 have hn':IB b.name=true:=by simpa using hn
 simp -implicitDefEqProofs only[BC,BA,BO,A8,AY,BL,BV,CO,AO,AQ,AL,BD,AX,AC,AA,AZ,AU,BH,BG,BQ,BR,BJ,AB,DC,↓reduceIte,jA,jG,jB,jC,enP,MP,DL ag3,UK];refine SK (fun F H=>F 53=.bool (J6 b)∧F 1=.ptr h.length 0 0∧H=h++[.live 4 [GV b]]) ?_ ?_
 .refine IL (fun ha=>?_) (fun ha=>?_)
  .simp -implicitDefEqProofs only[AY,BB,BL,BV,CO,F7,SI,AO,AQ,AL,BD,AX,AC,AA,EX,AZ,AU,BM,BG,CQ,DY,↓reduceIte,jA,jB,jC,ha]
   exact⟨by unfold J6; rw[ha]; rfl,trivial,trivial⟩
  simp -implicitDefEqProofs only[AY,BL,BV,CO,ES,AO,AQ,AL,BD,AX,AC,AA,AZ,AU,BH,BM,BG,CQ,DX,BQ,BR,BJ,AB,FV,↓reduceIte,jA,jG,jB,jC,enP,MP,ha,DL ag3,UK];refine IL (fun hb=>?_) (fun hb=>?_)
  .simp -implicitDefEqProofs only[AY,BB,BL,BV,CO,F7,SI,AO,AQ,AL,BD,AX,AC,AA,EX,AZ,AU,BM,BG,CQ,DY,↓reduceIte,jA,jB,jC,hb]
   exact⟨by unfold J6; rw[ha,hb]; rfl,trivial,trivial⟩
  simp -implicitDefEqProofs only[AY,BL,BV,CO,ES,AO,AQ,AL,BD,AX,AC,AA,AZ,AU,BH,BM,BG,CQ,DX,BQ,BR,BJ,D7,AB,FV,↓reduceIte,jA,jG,jB,jC,enP,be4,TD,RS,QV,OG,hb,DL PE,DL VG,ABU,VE,jI];refine IL (fun hc=>?_) (fun hc=>?_)
  .simp -implicitDefEqProofs only[AY,BB,BL,BV,CO,F7,SI,AO,AQ,AL,BD,AX,AC,AA,EX,AZ,AU,BM,BG,CQ,DY,↓reduceIte,jA,jB,jC,hc]
   exact⟨by unfold J6; rw[ha,hb,hc]; rfl,trivial,trivial⟩
  simp -implicitDefEqProofs only[BL,BV,CO,ES,AO,AQ,AL,BD,AX,AC,AA,AZ,AU,BH,BG,BQ,BR,BJ,AB,EK,↓reduceIte,jA,jG,jB,jC,enP,MP,hc,DL ag3,UK];refine IL (fun hd=>?_) (fun hd=>?_)
  .simp -implicitDefEqProofs only[AY,BL,BV,CO,F9,ES,AO,AQ,AL,BD,AX,AC,AA,AZ,AU,BH,BM,BG,CQ,DY,DX,BQ,BR,BJ,D7,AB,FV,↓reduceIte,jA,jG,jB,jC,enP,RS,OG,hd,DL VG,VE,jI]
   refine IL (fun he=>?_) (fun he=>?_)
   .simp -implicitDefEqProofs only[AY,BB,BL,BV,CO,F7,AO,AQ,AL,BD,AX,AC,AA,EX,AZ,AU,BM,BG,CQ,DY,↓reduceIte,jA,jB,jC,he]
    exact⟨by unfold J6; rw[ha,hb,hc,hd,he]; rfl,trivial,trivial⟩
   simp -implicitDefEqProofs only[AY,BL,BV,CO,ES,AO,AQ,AL,BD,AX,AC,AA,AZ,AU,BH,BM,BG,CQ,DX,BQ,BR,BJ,D7,AB,EC,↓reduceIte,jA,jG,jB,jC,enP,RS,OG,he,DL VG,VE,jI];refine IL (fun hf=>?_) (fun hf=>?_)
   .simp -implicitDefEqProofs only[AY,BB,BL,BV,CO,F7,AO,AQ,AL,BD,AX,AC,AA,EX,AZ,AU,BM,CQ,DY,↓reduceIte,jA,jB,jC,hf]
    exact⟨by unfold J6; rw[ha,hb,hc,hd,he,hf]; rfl,trivial,trivial⟩
   .simp -implicitDefEqProofs only[AY,BB,BL,BV,CO,ES,AO,AQ,AL,BD,AX,AC,AA,AZ,AU,BH,BM,CQ,DX,BQ,BR,BJ,D7,AB,FV,↓reduceIte,jA,jG,jB,jC,enP,RS,OG,hf,DL VG,VE,jI]
    exact⟨by unfold J6; rw[ha,hb,hc,hd,he,hf]; rfl,trivial,trivial⟩
  .simp -implicitDefEqProofs only[AY,BL,BV,CO,ES,IX,AO,AQ,AL,BD,AX,AC,AA,EX,AZ,AU,BH,BM,BG,CQ,DX,BQ,BR,BJ,D7,AB,EC,↓reduceIte,jA,jG,jB,jC,enP,RS,OG,hd,DL VG,VE,jI]
   refine IL (fun hf=>?_) (fun hf=>?_)
   .simp -implicitDefEqProofs only[AY,BB,BL,BV,CO,F7,AO,AQ,AL,BD,AX,AC,AA,EX,AZ,AU,BM,CQ,DY,↓reduceIte,jA,jB,jC,hf]
    exact⟨by unfold J6; rw[ha,hb,hc,hd,hf]; rfl,trivial,trivial⟩
   .simp -implicitDefEqProofs only[AY,BB,BL,BV,CO,ES,AO,AQ,AL,BD,AX,AC,AA,AZ,AU,BH,BM,CQ,DX,BQ,BR,BJ,D7,AB,FV,↓reduceIte,jA,jG,jB,jC,enP,RS,OG,hf,DL VG,VE,jI]
    exact⟨by unfold J6; rw[ha,hb,hc,hd,hf]; rfl,trivial,trivial⟩
 rintro F H ⟨f53,f1,rfl⟩;simp -implicitDefEqProofs only[BI,A8,AZ,f53,f1];refine CU (fun hs=>?_) (fun hs=>?_)
 .simp -implicitDefEqProofs only[BC,BA,BK,A8,CP,CG,AY,BB,AO,AQ,AL,BD,AX,AC,AA,AU,BH,A7,↓reduceIte,jB,jC]
  exact⟨by rw[YR hn' hs],_,rfl⟩
 simp -implicitDefEqProofs only[BC,BP,BA,BO,A8,AY,BB,AO,AQ,AL,BD,AX,AC,AU,BH,A7,jB,jC];refine GN 0 (fun F H=>F 1=.ptr h.length 0 0∧H=h++[.live 4 [GV b]]∧b.steps.any (fun l=>decide (l.l.length=0))=false) (fun F H=>F 2=.int .i64 (IA b)∧H=h++[.live 4 [GV b]]) ?_ ?_ ?_
 .refine DK (fun n F H=>∃k,n+k=b.steps.length∧F 1=.ptr h.length 0 0∧F 3=.int .i64 (k:Nat)∧H=h++[.live 4 [GV b]]∧(b.steps.take k).any (fun l=>decide (l.l.length=0))=false) b.steps.length ⟨0,by simp,by simp -implicitDefEqProofs only[AA,↓reduceIte,jA,f1],by simp -implicitDefEqProofs only[AA,↓reduceIte]; rfl,rfl,rfl⟩ ?_
  rintro n F H ⟨k,hk,f1,f3,rfl,hin⟩;simp -implicitDefEqProofs only[BC,BA,BI,A8,AY,BB,AO,AQ,AL,BD,AX,AC,AA,AZ,BG,BQ,BR,BJ,D7,AB,DC,↓reduceIte,jA,jG,jB,jC,enP,RS,OG,f1,f3,DL VG,VE,jI];refine CU (fun hc=>?_) (fun hc=>?_)
  .have hc':k<b.steps.length:=by simpa using hc
   have t0:=WM (fun l:Rs=>decide (l.l.length=0)) b.steps k hc';simp -implicitDefEqProofs only[BC,BP,BA,BO,BI,A8,AY,BB,AO,AQ,AL,BD,AX,AC,AA,AZ,AU,BH,BG,BQ,BR,BJ,CE,D7,AB,EC,↓reduceIte,jA,jG,jB,jC,enP,TD,ABM,OG,f1,f3,DL VG,VE,DU hc',DF PE hc',ABR,jI];refine CU (fun hd=>?_) (fun hd=>?_)
   .simp -implicitDefEqProofs only[BC,BA,BK,A8,CP,EG,NG,FQ,AY,BB,AO,AQ,AL,BD,AX,AC,AA,AU,BH,A7,↓reduceIte,jB,jC]
    refine⟨?_,trivial⟩
    have:b.steps.any (fun l=>decide (l.l.length=0))=true:=by
     rw[qH];exact⟨b.steps[k],by simp,by simp at hd; simp [hd]⟩
    rw[YS hn' this]
   .simp -implicitDefEqProofs only[BA,BO,A8,EJ,EQ,AY,BB,AO,AQ,AL,BD,AX,AC,AA,AZ,AU,BH,BG,A7,BR,AB,CZ,↓reduceIte,jA,jB,jC,enP,f3,wrap_succ (show k<9223372036854775807 by have:=hb.steps; omega)]
    refine⟨n-1,by omega,k+1,by omega,f1,rfl,trivial,?_⟩;rw[t0,hin];simp at hd;simp [hd]
  .have hc':¬k<b.steps.length:=by simpa using hc
   simp -implicitDefEqProofs only[DJ,EI,J3,ET,AA,↓reduceIte,jA];rw[jX (by omega)] at hin;exact⟨f1,trivial,hin⟩
 .rintro F H ⟨f1,rfl,he⟩
  have hs':J6 b=false:=by simpa using hs
  have hv:=VR hn' hs' he;simp -implicitDefEqProofs only[BC,BA,A8,EW,AY,AO,AQ,AL,BD,AX,AC,AA,AZ,BX,BQ,CB,BU,AB,jD,jE,jF,↓reduceIte,jB,jC,enP,f1,ldB];refine(AJK G b _).use ?_;simp -implicitDefEqProofs only[BC,BP,BA,A8,AY,BB,AO,AQ,AL,BD,AX,AC,AA,AZ,AU,BH,A7,↓reduceIte,jB,jC];refine GN 2 (fun F H=>F 4=.sl (S9 b) 1 ((sets b).map encS)∧H=h++[.live 4 [GV b]]∧(sets b).any (fun l=>decide (l.l.length>64))=false) (fun F H=>F 2=.int .i64 (IA b)∧H=h++[.live 4 [GV b]]) ?_ ?_ ?_
  .refine DK (fun n F H=>∃k,n+k=(sets b).length∧F 4=.sl (S9 b) 1 ((sets b).map encS)∧F 5=.int .i64 (k:Nat)∧H=h++[.live 4 [GV b]]∧((sets b).take k).any (fun l=>decide (l.l.length>64))=false) (sets b).length ⟨0,by simp,by simp -implicitDefEqProofs only[AA,↓reduceIte,jA],by simp -implicitDefEqProofs only[AA,↓reduceIte]; rfl,rfl,rfl⟩ ?_
   rintro n F H ⟨k,hk,f4,f5,rfl,hin⟩;simp -implicitDefEqProofs only[BC,BA,BI,A8,AY,BB,AO,AQ,AL,BD,AX,AC,AA,AZ,BG,BR,D7,AB,DC,↓reduceIte,jA,jB,jC,enP,RS,f4,f5,jI];refine CU (fun hc=>?_) (fun hc=>?_)
   .have hc':k<(sets b).length:=by simpa using hc
    have t0:=WM (fun l:Rs=>decide (l.l.length>64)) (sets b) k hc';simp -implicitDefEqProofs only[BC,BP,BA,BO,BI,A8,AY,BB,AO,AQ,AL,BD,AX,AC,AA,AZ,AU,BH,BG,BQ,BR,CE,D7,AB,FV,↓reduceIte,jA,jB,jC,enP,TD,ABM,f4,f5,DU hc',DF PE hc',ABR,jI];refine CU (fun hd=>?_) (fun hd=>?_)
    .simp -implicitDefEqProofs only[BC,BA,BK,A8,CP,EG,NG,FQ,AY,BB,AO,AQ,AL,BD,AX,AC,AA,AU,BH,A7,↓reduceIte,jB,jC]
     refine⟨?_,trivial⟩
     have:(sets b).any (fun l=>decide (l.l.length>64))=true:=by
      rw[qH];exact⟨(sets b)[k],by simp,by simp at hd|-; omega⟩
     rw[hv,if_pos this]
    .simp -implicitDefEqProofs only[BA,BO,A8,EJ,EQ,AY,BB,AO,AQ,AL,BD,AX,AC,AA,AZ,AU,BH,BG,A7,BR,AB,CZ,↓reduceIte,jA,jB,jC,enP,f5,wrap_succ (show k<9223372036854775807 by have:=hb.num; omega)]
     refine⟨n-1,by omega,k+1,by omega,f4,rfl,trivial,?_⟩;rw[t0,hin]
     simp at hd|-
     omega
   .have hc':¬k<(sets b).length:=by simpa using hc
    simp -implicitDefEqProofs only[DJ,EI,J3,ET,AA,↓reduceIte,jA];rw[jX (by omega)] at hin;exact⟨f4,trivial,hin⟩
  .rintro F H ⟨f4,rfl,h64⟩
   rw[h64] at hv;simp only[Bool.false_eq_true,if_false] at hv;simp -implicitDefEqProofs only[BC,BP,BA,A8,EW,AY,BB,AO,AQ,AL,BD,AX,AC,AU,BH,A7,↓reduceIte,jB,jC,f4];refine DK (fun n F H=>∃k,n+k=(sets b).length∧F 4=.sl (S9 b) 1 ((sets b).map encS)∧F 6=.int .i64 (k:Nat)∧H=h++[.live 4 [GV b]]∧((sets b).take k).any (fun l=>l.l.any bad)=false) (sets b).length ⟨0,by simp,by simp -implicitDefEqProofs only[AA,↓reduceIte,jA,f4],by simp -implicitDefEqProofs only[AA,↓reduceIte]; rfl,rfl,rfl⟩ ?_;rintro n F H ⟨k,hk,f4,f6,rfl,hin⟩;simp -implicitDefEqProofs only[BC,BA,BI,A8,AY,BB,AO,AQ,AL,BD,AX,AC,AA,AZ,BG,BR,D7,AB,DC,↓reduceIte,jA,jB,jC,enP,RS,f4,f6,jI];refine CU (fun hc=>?_) (fun hc=>?_)
   .have hc':k<(sets b).length:=by simpa using hc
    have t0:=WM (fun l:Rs=>l.l.any bad) (sets b) k hc';simp -implicitDefEqProofs only[BC,BP,BA,BO,A8,AY,AO,AQ,AL,BD,AX,AC,AA,AZ,BX,BG,BQ,CE,CB,BU,AB,jD,jE,jF,↓reduceIte,jA,jB,jC,enP,ABM,f4,f6,DU hc',DF PE hc',ABR,jI];refine(AL8 G _ _ _).use ?_
    have hk64:¬(sets b)[k].l.length>64:=by
     rw[wB] at h64;have:=h64 (sets b)[k] (by simp);simpa using this
    simp -implicitDefEqProofs only[BC,BA,BI,A8,AY,BB,AO,AQ,AL,BD,AX,AC,AA,AZ,AU,BH,BG,A7,BR,AB,EK,↓reduceIte,jB,jC,enP]
    cases hbad:(sets b)[k].l.any bad with
    | true =>
      have hr:=VX hk64 hbad;refine CU (fun hd=>?_) (fun hd=>?_)
      .simp -implicitDefEqProofs only[BC,BA,BK,A8,CP,EG,FQ,CG,AY,BB,AO,AQ,AL,BD,AX,AC,AA,AZ,BG,A7,↓reduceIte,jA,jB,jC]
       refine⟨?_,_,rfl⟩
       have:(sets b).any (fun l=>l.l.any bad)=true:=by
        rw[qH];exact⟨(sets b)[k],by simp,hbad⟩
       rw[hr,hv,if_pos this]
      .rw[hr] at hd; simp at hd
    | false =>
      have hr:=X7 hk64 hbad;refine CU (fun hd=>?_) (fun hd=>?_)
      .rw[hr] at hd; simp at hd
      .simp -implicitDefEqProofs only[BA,BO,A8,EJ,EQ,AY,BB,AO,AQ,AL,BD,AX,AC,AA,AZ,AU,BH,BG,A7,BR,AB,CZ,↓reduceIte,jA,jB,jC,enP,f6,wrap_succ (show k<9223372036854775807 by have:=hb.num; omega)]
       refine⟨n-1,by omega,k+1,by omega,f4,rfl,trivial,?_⟩;rw[t0,hin,hbad]; rfl
   .have hc':¬k<(sets b).length:=by simpa using hc
    simp -implicitDefEqProofs only[BC,BA,BK,DJ,A8,EI,EW,ET,CG,AY,BB,AO,AQ,AL,BD,AX,AC,AA,AU,BH,A7,↓reduceIte,jB,jC];rw[jX (by omega)] at hin;exact⟨by rw[hv,if_neg (by rw[hin]; simp)],_,rfl⟩
  .rintro F H ⟨f2,rfl⟩
   simp -implicitDefEqProofs only[CP,EG,CG];exact⟨f2,_,rfl⟩
 .rintro F H ⟨f2,rfl⟩
  simp -implicitDefEqProofs only[CP,EG,CG];exact⟨by rw[f2],_,rfl⟩
end Go.Proofs.YtocilianjfhifaaGreatDoor.Bins
namespace Go.Proofs.YtocilianjfhifaaGreatDoor.Cov
open Sm Bins
open Bool renaming not_false→jC
open Int renaming reduceBEq→zF
open List renaming drop_zero→qC,take_of_length_le→jX
open Nat renaming le_refl→jM,le_of_ble_eq_true→jH,reduceEqDiff→jA,add_zero→jL
open Option renaming getD_some→jB
inductive Ex where
 | mk (op n:Int) (name:ByteArray) (m:SM) (args:List Ex)
def Ex.op:Ex->Int|.mk op _ _ _ _=>op
def Ex.n:Ex->Int|.mk _ n _ _ _=>n
def Ex.name:Ex->ByteArray|.mk _ _ name _ _=>name
def Ex.m:Ex->SM|.mk _ _ _ m _=>m
def Ex.args:Ex->List Ex|.mk _ _ _ _ args=>args
mutual
def FH:Ex->List AV
 | .mk op n name m args=>[.int .i64 op,.int .i64 n,.str name,.sl m 4 (AK1 args)]
def AK1:List Ex->List (List AV)
 | []=>[]
 | e::es=>FH e::AK1 es
end
theorem AGN:∀l:List Ex,AK1 l=l.map FH
 | []=>by simp [AK1]
 | e::es=>by simp [AK1,AGN es]
theorem O3 (e:Ex):FH e=[.int .i64 e.op,.int .i64 e.n,.str e.name,.sl e.m 4 (e.args.map FH)]:=by
 cases e; simp [FH,AGN,Ex.op,Ex.n,Ex.name,Ex.m,Ex.args]
theorem KL (e:Ex):(FH e).length=4:=by rw[O3]; rfl
theorem KN (e:Ex):(FH e)[0]?=some (.int .i64 e.op):=by rw[O3]; rfl
theorem ZN (e:Ex):(FH e)[1]?=some (.int .i64 e.n):=by rw[O3]; rfl
theorem QN (e:Ex):(FH e)[2]?=some (.str e.name):=by rw[O3]; rfl
theorem ABS (e:Ex):(FH e)[3]?=some (.sl e.m 4 (e.args.map FH)):=by rw[O3]; rfl
theorem AGO (e:Ex):(FH e).all AV.leaf=true:=by rw[O3]; rfl
theorem bxE (h:Hp)(e:Ex):PW h (.agg (FH e))=some (.ptr h.length 0 0,h++[.live 4 [FH e]]):=by
 have:=ZR (h:=h) (AGO e);rw[KL] at this; exact this
theorem ldE (h:Hp)(e:Ex):EH Tryz.prog (h++[.live 4 [FH e]]) 53 (.ptr h.length 0 0)=some (.agg (FH e)):=by
 rw[WX AIV ADB (by rw[KL]; exact jM 4)];rw[qC,jX (by rw[KL]; exact jM 4)]
theorem NK {h:Hp}{b:Nat}{e:Ex}(hb:h[b]?=some (.live 4 [FH e])):EH Tryz.prog h 53 (.ptr b 0 0)=some (.agg (FH e)):=by
 rw[JY AIV ADB hb rfl (by rw[KL]; exact jM 4)];rw[qC,jX (by rw[KL]; exact jM 4)]
mutual
def pre:Ex->List Ex
 | .mk op n name m args=>.mk op n name m args::J9 args
def J9:List Ex->List Ex
 | []=>[]
 | e::es=>pre e++J9 es
end
mutual
def dep:Ex->Nat
 | .mk _ _ _ _ args=>deps args+1
def deps:List Ex->Nat
 | []=>0
 | e::es=>max (dep e) (deps es)
end
mutual
def wt:Ex->Nat
 | .mk _ _ name _ args=>name.size+1+wts args
def wts:List Ex->Nat
 | []=>0
 | e::es=>wt e+wts es
end
theorem pre_eq (e:Ex):pre e=e::J9 e.args:=by cases e; simp [pre,Ex.args]
theorem AIL (e:Ex):dep e=deps e.args+1:=by cases e; simp [dep,Ex.args]
theorem OI (e:Ex):wt e=e.name.size+1+wts e.args:=by cases e; simp [wt,Ex.args,Ex.name]
theorem P8 (xs ys:List Ex):J9 (xs++ys)=J9 xs++J9 ys:=by
 induction xs with
 | nil=>simp [J9]
 | cons x xs ih=>simp [J9,ih]
theorem WQ (xs:List Ex):xs.length<=wts xs:=by
 induction xs with
 | nil=>simp [wts]
 | cons x xs ih=>have:=OI x; simp [wts]; omega
theorem UW {xs:List Ex}{x:Ex}(h:x∈xs):wt x<=wts xs:=by
 induction xs with
 | nil=>cases h
 | cons y ys ih =>
   simp only[wts]
   cases List.mem_cons.1 h with
   | inl e=>subst e; omega
   | inr e=>have:=ih e; omega
theorem AGP (xs:List Ex)(k:Nat)(h:k<xs.length):deps (xs.take (k+1))=max (deps (xs.take k)) (dep xs[k]):=by
 induction xs generalizing k with
 | nil=>simp at h
 | cons x xs ih =>
   cases k with
   | zero=>simp [deps]
   | succ k =>
     simp only[List.take_succ_cons,deps,List.getElem_cons_succ];rw[ih k (by simpa using h),Nat.max_assoc]
theorem Ex.induct {P:Ex->Prop}(h:∀e:Ex,(∀a∈e.args,P a)->P e)(e:Ex):P e:=by
 have:∀n (e:Ex),wt e<=n->P e:=by
  intro n
  induction n with
  | zero=>intro e he; have:=OI e; omega
  | succ n ih =>
    intro e he;refine h e fun a ha=>ih a ?_
    have h1:=UW ha;have h2:=OI e;omega
 exact this _ e (jM _)
theorem AU4 (e:Ex):dep e<=wt e:=by
 refine Ex.induct (P:=fun e=>dep e<=wt e) (fun e ih=>?_) e;rw[AIL,OI]
 have:deps e.args<=wts e.args:=by
  generalize e.args=l at ih
  induction l with
  | nil=>simp [deps,wts]
  | cons x l ih2 =>
    have h1:=ih x (by simp);have h2:=ih2 (fun a ha=>ih a (by simp [ha]));simp only[deps,wts]; omega
 omega
theorem AHM (e:Ex):(pre e).length<=wt e:=by
 refine Ex.induct (P:=fun e=>(pre e).length<=wt e) (fun e ih=>?_) e;rw[pre_eq,OI]
 have:(J9 e.args).length<=wts e.args:=by
  generalize e.args=l at ih
  induction l with
  | nil=>simp [J9,wts]
  | cons x l ih2 =>
    have h1:=ih x (by simp);have h2:=ih2 (fun a ha=>ih a (by simp [ha]));simp only[J9,wts,List.length_append]; omega
 simp; omega
def arity (op:Int):Int:=if op<1∨op>25 then -1 else if op=1∨op=2∨op=24 then 0 else if op=3∨op=4∨op=5∨op=6∨op=25 then 1 else if op=22 then 3 else if op=23 then -1 else 2
set_option maxHeartbeats 2000000 in
theorem ANO (G:Nat->AV)(op:Int)(h:Hp):PCall (En G) 258 [.int .i64 op] h (.int .i64 (arity op)):=by
 refine acN Tryz.func258 rfl ?_;show awp _ _ _ _ _ (EN _ [.tmp 2] _);have hcase:op<1∨op>25∨op=1∨op=2∨op=3∨op=4∨op=5∨op=6∨op=7∨op=8∨op=9∨op=10∨op=11∨op=12∨op=13∨op=14∨op=15∨op=16∨op=17∨op=18∨op=19∨op=20∨op=21∨op=22∨op=23∨op=24∨op=25:=by omega
 rcases hcase with h|h|rfl|rfl|rfl|rfl|rfl|rfl|rfl|rfl|rfl|rfl|rfl|rfl|rfl|rfl|rfl|rfl|rfl|rfl|rfl|rfl|rfl|rfl|rfl|rfl|rfl
 .have hne:∀k:Int,1<=k->(op==k)=false:=fun k hk=>beq_eq_false_iff_ne.2 (by omega)
  have hd:decide (op<1)=true:=by simp; omega
  have ha:arity op = -1:=by unfold arity; rw[if_pos (Or.inl h)]
  rw[ha];simp -implicitDefEqProofs only[BC,BP,BA,BO,BK,BI,A8,CP,EJ,CG,DI,DT,AY,BB,BL,BV,CO,F7,AO,AQ,AL,BD,AX,AC,AA,EX,AZ,AU,BH,BM,BG,A7,CQ,DY,BR,AB,EC,DC,BF,↓reduceIte,jA,jB,jC,enP,hne 1 (by decide),hne 2 (by decide),hne 3 (by decide),hne 4 (by decide),hne 5 (by decide),hne 6 (by decide),hne 7 (by decide),hne 8 (by decide),hne 9 (by decide),hne 10 (by decide),hne 11 (by decide),hne 12 (by decide),hne 13 (by decide),hne 14 (by decide),hne 15 (by decide),hne 16 (by decide),hne 17 (by decide),hne 18 (by decide),hne 19 (by decide),hne 20 (by decide),hne 21 (by decide),hne 22 (by decide),hne 23 (by decide),hne 24 (by decide),hne 25 (by decide),hd];exact⟨trivial,trivial⟩
 .have hne:∀k:Int,k<=25->(op==k)=false:=fun k hk=>beq_eq_false_iff_ne.2 (by omega)
  have hd:decide (op<1)=false:=by simp; omega
  have hd2:decide (op>25)=true:=by simp; omega
  have ha:arity op = -1:=by unfold arity; rw[if_pos (Or.inr h)]
  rw[ha];simp -implicitDefEqProofs only[BC,BP,BA,BO,BK,BI,A8,CP,EJ,CG,DI,DT,AY,BB,BL,BV,CO,ES,AO,AQ,AL,BD,AX,AC,AA,AZ,AU,BH,BM,BG,A7,CQ,DX,BR,AB,EC,DC,FV,BF,↓reduceIte,jA,jB,jC,enP,hne 1 (by decide),hne 2 (by decide),hne 3 (by decide),hne 4 (by decide),hne 5 (by decide),hne 6 (by decide),hne 7 (by decide),hne 8 (by decide),hne 9 (by decide),hne 10 (by decide),hne 11 (by decide),hne 12 (by decide),hne 13 (by decide),hne 14 (by decide),hne 15 (by decide),hne 16 (by decide),hne 17 (by decide),hne 18 (by decide),hne 19 (by decide),hne 20 (by decide),hne 21 (by decide),hne 22 (by decide),hne 23 (by decide),hne 24 (by decide),hne 25 (by decide),hd,hd2];exact⟨trivial,trivial⟩
 all_goals
  simp -implicitDefEqProofs only[BC,BP,BA,BO,BK,BI,A8,CP,EJ,EG,CG,DI,DT,AY,BB,BL,BV,CO,ES,AO,AQ,AL,BD,AX,AC,AA,AZ,AU,BH,BM,BG,A7,CQ,DX,BR,AB,EC,DC,FV,BF,↓reduceIte,jA,jB,jC,decide_false,enP,zF,Int.reduceLT,Int.reduceGT];exact⟨rfl,trivial⟩
set_option maxHeartbeats 2000000 in
theorem ARX (G:Nat->AV)(op:Int)(h:Hp):PCall (En G) 254 [.int .i64 op] h (.int .i64 (arity op)):=by
 refine acN Tryz.func254 rfl ?_;show awp _ _ _ _ _ (EN _ [.tmp 2] _);have hcase:op<1∨op>25∨op=1∨op=2∨op=3∨op=4∨op=5∨op=6∨op=7∨op=8∨op=9∨op=10∨op=11∨op=12∨op=13∨op=14∨op=15∨op=16∨op=17∨op=18∨op=19∨op=20∨op=21∨op=22∨op=23∨op=24∨op=25:=by omega
 rcases hcase with h|h|rfl|rfl|rfl|rfl|rfl|rfl|rfl|rfl|rfl|rfl|rfl|rfl|rfl|rfl|rfl|rfl|rfl|rfl|rfl|rfl|rfl|rfl|rfl|rfl|rfl
 .have hne:∀k:Int,1<=k->(op==k)=false:=fun k hk=>beq_eq_false_iff_ne.2 (by omega)
  have hd:decide (op<1)=true:=by simp; omega
  have ha:arity op = -1:=by unfold arity; rw[if_pos (Or.inl h)]
  rw[ha];simp -implicitDefEqProofs only[BC,BP,BA,BO,BK,BI,A8,CP,EJ,CG,DI,DT,AY,BB,BL,BV,CO,F7,AO,AQ,AL,BD,AX,AC,AA,EX,AZ,AU,BH,BM,BG,A7,CQ,DY,BR,AB,EC,DC,BF,↓reduceIte,jA,jB,jC,enP,hne 1 (by decide),hne 2 (by decide),hne 3 (by decide),hne 4 (by decide),hne 5 (by decide),hne 6 (by decide),hne 7 (by decide),hne 8 (by decide),hne 9 (by decide),hne 10 (by decide),hne 11 (by decide),hne 12 (by decide),hne 13 (by decide),hne 14 (by decide),hne 15 (by decide),hne 16 (by decide),hne 17 (by decide),hne 18 (by decide),hne 19 (by decide),hne 20 (by decide),hne 21 (by decide),hne 22 (by decide),hne 23 (by decide),hne 24 (by decide),hne 25 (by decide),hd];exact⟨trivial,trivial⟩
 .have hne:∀k:Int,k<=25->(op==k)=false:=fun k hk=>beq_eq_false_iff_ne.2 (by omega)
  have hd:decide (op<1)=false:=by simp; omega
  have hd2:decide (op>25)=true:=by simp; omega
  have ha:arity op = -1:=by unfold arity; rw[if_pos (Or.inr h)]
  rw[ha];simp -implicitDefEqProofs only[BC,BP,BA,BO,BK,BI,A8,CP,EJ,CG,DI,DT,AY,BB,BL,BV,CO,ES,AO,AQ,AL,BD,AX,AC,AA,AZ,AU,BH,BM,BG,A7,CQ,DX,BR,AB,EC,DC,FV,BF,↓reduceIte,jA,jB,jC,enP,hne 1 (by decide),hne 2 (by decide),hne 3 (by decide),hne 4 (by decide),hne 5 (by decide),hne 6 (by decide),hne 7 (by decide),hne 8 (by decide),hne 9 (by decide),hne 10 (by decide),hne 11 (by decide),hne 12 (by decide),hne 13 (by decide),hne 14 (by decide),hne 15 (by decide),hne 16 (by decide),hne 17 (by decide),hne 18 (by decide),hne 19 (by decide),hne 20 (by decide),hne 21 (by decide),hne 22 (by decide),hne 23 (by decide),hne 24 (by decide),hne 25 (by decide),hd,hd2];exact⟨trivial,trivial⟩
 all_goals
  simp -implicitDefEqProofs only[BC,BP,BA,BO,BK,BI,A8,CP,EG,CG,DI,DT,AY,BB,AO,AQ,AL,BD,AX,AC,AA,AZ,AU,BH,BG,A7,BR,AB,EC,BF,↓reduceIte,jA,jB,jC,enP,zF,Int.reduceLT,Int.reduceGT];exact⟨rfl,trivial⟩
def LZ (op:Int):Bool:=op==2||op==3||op==24
theorem WV (G:Nat->AV)(op:Int)(h:Hp):PCall (En G) 246 [.int .i64 op] h (.bool (LZ op)):=by
 refine acN Tryz.func246 rfl ?_;show awp _ _ _ _ _ (EN _ [.tmp 2] _);simp -implicitDefEqProofs only[BC,BA,A8,AY,BB,BL,BV,CO,AO,AQ,AL,BD,AX,AC,AA,AZ,AU,BH,BM,BG,A7,BR,AB,EC,BF,↓reduceIte,jA,jB,jC,enP];cases ha:(op==2)<;>cases hb:(op==3)
 all_goals
  simp -implicitDefEqProofs only[BK,A8,CG,AY,BB,BL,BV,CO,ES,F7,AO,AQ,AL,BD,AX,AC,AA,EX,AZ,AU,BH,BM,BG,A7,CQ,DY,DX,BR,AB,EC,BF,↓reduceIte,jA,jB,jC,enP,ha,hb];exact⟨by simp [LZ,ha,hb],trivial⟩
def AAK (op:Int)(n:Nat):Bool:=if op==23 then ((n:Int)%2==1)&&decide ((n:Int)≥3)&&decide ((n:Int)<=33) else ((n:Int)==arity op)
theorem AFF (G:Nat->AV)(e:Ex)(h:Hp):PCall (En G) 231 [.agg (FH e)] h (.bool (AAK e.op e.args.length)):=by
 refine ACalls.pure0 rfl ?_;refine acN Tryz.func231 rfl ?_;show awp _ _ _ _ _ (EN _ [.tmp 2] _);simp -implicitDefEqProofs only[BC,BA,BI,A8,AY,BB,AO,AQ,AL,BD,AX,AC,AA,AZ,AU,BH,BM,A7,FU,BQ,BR,BJ,D7,BZ,AB,EC,BF,↓reduceIte,jA,jL,Nat.zero_add,jB,jC,enP,AKG,IW,TT,bxE,DL ALO,DL ag3,ABS,KN,List.length_map];generalize he:e.args.length=n;have hm:(n:Int).tmod 2=(n:Int)%2:=Int.tmod_eq_emod_of_nonneg (by omega);have b1:JG Tryz.prog 3 .rem (.int .i64 (n:Int)) (.int .i64 2)=some (.int .i64 ((n:Int)%2)):=by rw[AC0 _ _ _ _ _ (by decide),hm]
 refine CU (fun hc=>?_) (fun hc=>?_)
 .simp -implicitDefEqProofs only[BC,BA,AY,BL,BV,CO,AO,AQ,AL,BD,AX,AC,AA,AZ,AU,BH,BG,BR,AB,EC,↓reduceIte,jA,jB,jC,enP,b1]
  cases ha:((n:Int)%2==1)<;>cases hb:decide ((n:Int)≥3)
  all_goals
   simp -implicitDefEqProofs only[BK,A8,CP,CG,AY,BB,BL,BV,CO,F9,IX,AO,AQ,AL,BD,AX,AC,AA,EX,AZ,AU,BH,BM,BG,A7,CQ,DY,DX,BR,AB,JC,G5,↓reduceIte,jA,jB,jC,enP,ha,hb];exact⟨by unfold AAK; rw[if_pos hc,ha,hb]; simp,_,rfl⟩
 .simp -implicitDefEqProofs only[BC,BA,BO,A8,AY,AO,AQ,AL,BD,AX,AC,AA,AZ,BX,BG,BQ,BJ,CB,BU,AB,List.map_cons,List.map_nil,List.append_nil,↓reduceIte,jA,jL,jB,jC,enP,IW,DL ag3,KN]
  refine(ANO G e.op _).use ?_;simp -implicitDefEqProofs only[BK,A8,CG,AY,BB,AO,AQ,AL,BD,AX,AC,AA,AZ,A7,BR,AB,EC,↓reduceIte,jA,jB,jC,enP];exact⟨by unfold AAK; rw[if_neg (by rw[hc]; decide)],_,rfl⟩
end Go.Proofs.YtocilianjfhifaaGreatDoor.Cov
namespace Go.Proofs.YtocilianjfhifaaGreatDoor.Cov
open Sm Bins Go.Shelf Go.RowKit
open Bool renaming and_eq_true→jV
open Int renaming toNat_natCast→wF
open List renaming drop_eq_getElem_cons→zJ,getElem?_eq_getElem→jU
def AU9:Go.Shelf.Ren:=⟨fun|145=>290|220=>304|219=>305|217=>306|225=>307|224=>308|267=>309|266=>310|314=>311|n=>n,fun|9=>9|4=>4|59=>261|3=>3|5=>5|46=>269|146=>273|51=>272|n=>n,fun|1=>1|n=>n⟩
theorem A46:Go.Proofs.Lays.n145 Tryz.prog AU9 := {
 mixed:=by kernel_rfl,
 f145:=Tryz.func290.trans (congrArg some (by kernel_rfl)),
 f217:=Tryz.func306.trans (congrArg some (by kernel_rfl)),
 f219:=Tryz.func305.trans (congrArg some (by kernel_rfl)),
 f220:=Tryz.func304.trans (congrArg some (by kernel_rfl)),
 f224:=Tryz.func308.trans (congrArg some (by kernel_rfl)),
 f225:=Tryz.func307.trans (congrArg some (by kernel_rfl)),
 f266:=Tryz.func310.trans (congrArg some (by kernel_rfl)),
 f267:=Tryz.func309.trans (congrArg some (by kernel_rfl)),
 f314:=Tryz.func311.trans (congrArg some (by kernel_rfl)),
 t3:=Tryz.underlying3,
 a3:=Tryz.isAgg3,
 z3:=Tryz.sizeOf3,
 v3:=Tryz.zeroValue3,
 t4:=Tryz.underlying4,
 a4:=Tryz.isAgg4,
 z4:=Tryz.sizeOf4,
 v4:=Tryz.zeroValue4,
 t5:=Tryz.underlying5,
 a5:=Tryz.isAgg5,
 z5:=Tryz.sizeOf5,
 v5:=Tryz.zeroValue5,
 t9:=Tryz.underlying9,
 a9:=Tryz.isAgg9,
 z9:=Tryz.sizeOf9,
 v9:=Tryz.zeroValue9,
 t46:=Tryz.underlying269,
 a46:=Tryz.isAgg269,
 z46:=Tryz.sizeOf269,
 v46:=Tryz.zeroValue269,
 t51:=Tryz.underlying272,
 a51:=Tryz.isAgg272,
 z51:=Tryz.sizeOf272,
 v51:=Tryz.zeroValue272,
 t59:=Tryz.underlying261,
 a59:=Tryz.isAgg261,
 z59:=Tryz.sizeOf261,
 v59:=Tryz.zeroValue261,
 t146:=Tryz.underlying273,
 a146:=Tryz.isAgg273,
 z146:=Tryz.sizeOf273,
 v146:=Tryz.zeroValue273,
 g1:=by kernel_rfl }
structure GOk (G:Nat->AV):Prop where
 kw:KwG G
 mx:∃n,G 1=.fptr 1 [[.int .i64 n]] 0 0
theorem AUE {G:Nat->AV}{g:Gh}{h:Hp}{w:World}{n:Nat}{k:IntKind}{z:Int}(S:SimH (En G) g h w)(hn:G n=.fptr 1 [[.int k z]] 0 0):w.cell? ⟨n,0,none⟩=some (.int k z):=by
 have:=S.glob n;rw[enG,hn] at this;generalize hp:Value.pointer (some ⟨n,0,none⟩)=p at this
 cases this with
 | fptr k' xs i j cb co c e fz cv h1 h2 h3 h4 =>
   simp only[Value.pointer.injEq,Option.some.injEq,Addr.mk.injEq] at hp;obtain⟨rfl,hco,_⟩:=hp;have h5:=h3 0 0 (by simp) (by simp);have h6:=h4 0 0 _ _ rfl rfl;generalize cv 0 0=u at h5 h6;cases h6;simp only[World.cell?,S.fro _ _ h1];subst hco;exact h5
def cutV (s:ByteArray):AV:=.tup [.str ⟨(Lib.cut s.data.toList [91]).1.toArray⟩,.str ⟨(Lib.cut s.data.toList [91]).2.1.toArray⟩,.bool (Lib.cut s.data.toList [91]).2.2]
theorem AU8 (G:Nat->AV)(hG:GOk G)(s:ByteArray)(h:Hp)(hl:s.size<=1048576):PCall (En G) 290 [.str s,.str ⟨#[91]⟩] h (cutV s):=by
 refine PCall.of_reads (cok 290 G (by kernel_rfl)) fun g w cargs S ha=>?_
 obtain⟨hsz,hget⟩:=ha
 obtain⟨cv0,cv1,rfl⟩:∃a b,cargs = #[a,b]:=by
  obtain⟨l⟩:=cargs
  match l,hsz with
  | [a,b],_=>exact⟨a,b,rfl⟩
 obtain rfl:=(hget 0 _ cv0 rfl rfl).str_inv;obtain rfl:=(hget 1 _ cv1 rfl rfl).str_inv;obtain⟨z,hz⟩:=hG.mx;have hc:=AUE S hz;have:=Any.strings_Cut A46 s ⟨#[91]⟩ z w (by omega) hc;refine⟨_,?_,this⟩;refine .tup _ _ rfl ?_;intro i v cv h1 h2
 match i,h1,h2 with
 | 0,h1,h2=>simp at h1 h2; subst h1; subst h2; exact .str _ _
 | 1,h1,h2=>simp at h1 h2; subst h1; subst h2; exact .str _ _
 | 2,h1,h2=>simp at h1 h2; subst h1; subst h2; exact .bool _ _
def QB (s:ByteArray):Option (List UInt8×UInt8) :=
 if 4<=s.data.toList.length then match s.data.toList.drop (s.data.toList.length-3) with
  | [x,d,y]=>if(y==93&&x==91&&decide (48<=d.toNat)&&decide (d.toNat<56)&&IB ⟨(s.data.toList.take (s.data.toList.length-3)).toArray⟩)=true then some (s.data.toList.take (s.data.toList.length-3),d) else none
  | _=>none
 else none
def elemV (o:Option (List UInt8×UInt8)):AV:=match o with
 | some (a,d)=>.tup [.str ⟨a.toArray⟩,.int .i64 ((d.toNat:Int)-48),.bool true]
 | none=>.tup [.str ⟨#[]⟩,.int .i64 0,.bool false]
theorem AO4 {l:List UInt8}(h:IB ⟨l.toArray⟩=true):l≠[]∧∀b∈l,b≠91:=by
 have hw:TZ ⟨l.toArray⟩=true:=by
  unfold IB at h;exact(Bool.and_eq_true_iff.1 (Bool.and_eq_true_iff.1 h).1).1
 unfold TZ at hw;obtain⟨h1,h2⟩:=Bool.and_eq_true_iff.1 hw;refine⟨?_,?_⟩
 .intro e; subst e; cases h1
 .intro b hb e
  subst e;have:=List.all_eq_true.1 h2 91 hb
  revert this; decide
theorem three {l:List UInt8}(h:3<=l.length):∃a x d y,l=a++[x,d,y]:=by
 refine⟨l.take (l.length-3),?_⟩;have h1:(l.drop (l.length-3)).length=3:=by simp; omega
 match hm:l.drop (l.length-3),h1 with
 | [x,d,y],_=>exact⟨x,d,y,by rw[<-hm,List.take_append_drop]⟩
theorem AEN {a:List UInt8}{x d y:UInt8}(ha:a≠[]):QB ⟨(a++[x,d,y]).toArray⟩=if(y==93&&x==91&&decide (48<=d.toNat)&&decide (d.toNat<56)&&IB ⟨a.toArray⟩)=true then some (a,d) else none:=by
 have hl:0<a.length:=List.length_pos_iff.2 ha;unfold QB;simp only;rw[if_pos (by simp; omega)];have e:(a++[x,d,y]).length-3=a.length:=by simp
 rw[e,List.drop_left,List.take_left]
theorem AU1 (s:ByteArray):QB s=if((Lib.cut s.data.toList [91]).2.2&&IB ⟨(Lib.cut s.data.toList [91]).1.toArray⟩)=true then match (Lib.cut s.data.toList [91]).2.1 with
  | [d,y]=>if(y==93&&decide (48<=d.toNat)&&decide (d.toNat<56))=true then some ((Lib.cut s.data.toList [91]).1,d) else none
  | _=>none
 else none:=by
 obtain⟨⟨l⟩⟩:=s
 have hocc:∀i,Lib.occAt l [91] i=true↔l[i]?=some 91:=by
  intro i;unfold Lib.occAt;rcases Nat.lt_or_ge i l.length with h|h
  .rw[zJ h,jU h]
   simp [List.isPrefixOf];exact eq_comm
  .rw[List.drop_eq_nil_of_le h,List.getElem?_eq_none h]; simp [List.isPrefixOf]
 -- an element name of the reference's kind
 have main:∀a d,a≠[]->IB ⟨a.toArray⟩=true->l=a++[91,d,93]->Lib.cut l [91]=(a,[d,93],true):=by
  intro a d ha hn hl;obtain⟨_,hne⟩:=AO4 hn
  have hi:Lib.index l [91]=(a.length:Int):=by
   refine Lib.index_first (by rw[hl]; simp) ((hocc _).2 (by rw[hl]; simp)) fun j hj=>?_
   rw[<-Bool.not_eq_true,hocc,hl,List.getElem?_append_left hj,jU hj];intro e;exact hne _ (List.getElem_mem hj) (Option.some.inj e)
  unfold Lib.cut;rw[hi,if_pos (by omega),wF,hl,List.take_left,<-List.drop_drop,List.drop_left];rfl
 show QB ⟨l.toArray⟩=_;rcases hcase:QB ⟨l.toArray⟩ with _|⟨a,d⟩
 .symm
  show(if _ then _ else none)=none;simp only;split
  .rename_i hb
   rw[jV] at hb;split
   .rename_i d y hm
    split
    .rename_i hd
     exfalso;simp only[jV,beq_iff_eq,decide_eq_true_eq] at hd;obtain⟨⟨rfl,hd1⟩,hd2⟩:=hd;obtain⟨ha,_⟩:=AO4 hb.2
     have hc:Lib.cut l [91]=((Lib.cut l [91]).1,[d,93],true):=by
      rw[<-hm]; have:=hb.1; cases hcc:Lib.cut l [91] with
      | mk p q=>cases q with
        | mk q1 q2=>rw[hcc] at this; simp at this; subst this; rfl
     have hl:l=(Lib.cut l [91]).1++[91,d,93]:=by
      generalize (Lib.cut l [91]).1=b at hc;unfold Lib.cut at hc;split at hc
      .rename_i h0
       obtain⟨i,hi⟩:∃i:Nat,Lib.index l [91]=i:=⟨(Lib.index l [91]).toNat,by omega⟩;rw[hi] at hc;simp only[wF,Prod.mk.injEq,List.length_singleton] at hc;rcases Lib.index_spec l [91] with⟨h1,_⟩|⟨j,h1,_,h3,_⟩
       .omega
       .have hj:i=j:=by omega
        subst hj;have h4:=(hocc i).1 h3;have h5:i<l.length:=(List.getElem?_eq_some_iff.1 h4).1;have h6:l[i]=91:=by rw[jU h5] at h4; exact Option.some.inj h4
        rw[<-hc.1]
        calc l=l.take i++l.drop i:=(List.take_append_drop i l).symm
         _=l.take i++(l[i]::l.drop (i+1)):=by rw[zJ h5]
         _=l.take i++[91,d,93]:=by rw[h6,hc.2.1]
      .simp at hc
     have:=AEN (x:=91) (d:=d) (y:=93) ha;rw[<-hl,hcase,if_pos (by simp [hb.2,hd1,hd2])] at this;cases this
    .rfl
   .rfl
  .rfl
 .have h4:4<=l.length:=by
   unfold QB at hcase;simp only at hcase;split at hcase
   .assumption
   .cases hcase
  obtain⟨b,x,d',y,rfl⟩:=three (show 3<=l.length by omega);have hb:b≠[]:=by intro e; subst e; simp at h4
  rw[AEN hb] at hcase;split at hcase
  .rename_i hc
   cases hcase;simp only[jV,beq_iff_eq,decide_eq_true_eq] at hc;obtain⟨⟨⟨⟨rfl,rfl⟩,h1⟩,h2⟩,h3⟩:=hc;simp only;rw[main a d hb h3 rfl];simp [h3,h1,h2]
  .cases hcase
end Go.Proofs.YtocilianjfhifaaGreatDoor.Cov
