/- Part 3 of the proof (Ft, Mr, Ms, B1, B2, B3, B4, B5, B6, B7, E1, E2, E3, E4, E5, E6, E7, E8, E9, E10, M1, M2, M3, L1, M4, M5, M6, M7, M8, M9, M11, M12, M13, M14, N1, N2, N3, N4, N7, N8, A1, Q1, Q3, R3, Q4, Q6); no condition. -/
import Derived.Test.YtiihpnicbekebaaGreatDoorProg
import Derived.KernelRfl
import Derived.Laws.RangeAny
import Derived.Shelf.Strings.Cut
import Derived.Lib.IndexMore
import Derived.Test.YtiihpnicbekebaaGreatDoorCI2
set_option linter.unusedVariables false
set_option maxRecDepth 8000
set_option linter.unusedSimpArgs false
set_option maxHeartbeats 2000000
open Go.Proofs.YtiihpnicbekebaaGreatDoor.Sm.ABlk renaming live→zZ
open Bool renaming and_eq_true→jU,eq_iff_iff→wO,false_eq_true→zY,false_or→wM,not_false→jE,not_true→zW,or_false→zK,true_and→qR
open Go.Proofs.Tryz renaming prog→jA
open Int renaming reduceBEq→qY,toNat_natCast→wB
open List renaming all_cons→wQ,all_eq_true→zH,any_eq_false→qU,any_eq_true→qL,append_assoc→zG,append_nil→jQ,cons_append→zB,drop_eq_getElem_cons→zU,drop_eq_nil_of_le→jX,drop_zero→zI,findIdx?_eq_none_iff→wR,findIdx?_eq_some_iff_getElem→wP,foldl_cons→qP,getElem?_append_left→qC,getElem?_cons_zero→wK,getElem?_eq_getElem→jM,getElem?_map→jZ,getElem?_set→zN,getElem_mem→jH,length_append→zA,length_cons→zO,length_map→jJ,length_take→jV,map_cons→jK,map_map→qM,map_nil→jP,mem_append→zV,mem_cons→zM,mem_map→zQ,mem_of_getElem?→qA,nil_append→qI,replicate→zD,take_append_drop→wL,take_of_length_le→jI,take_succ_eq_append_getElem→jY,take_zero→qB
open Nat renaming add_zero→jT,le_of_ble_eq_true→jC,le_refl→jF,le_trans→qW,lt_or_ge→zF,reduceAdd→jL,reduceEqDiff→jB,zero_add→jG
open Option renaming getD_none→jO,getD_some→jD
namespace Go.Proofs.YtiihpnicbekebaaGreatDoor.Sm
variable {E:Env} {f:FuncId} {fn:Func} {c:Code} {h:Hp} (G:Nat->AV )

theorem sz3:szO jA 3=some 1:=A8
theorem ag3:JF jA 3=some false:=A8
theorem sz4:szO jA 4=some 1:=A8
theorem ag4:JF jA 4=some false:=A8
theorem sz9:szO jA 9=some 1:=A8
theorem ag9:JF jA 9=some false:=A8
theorem bI:JF jA 22=some false:=A8
theorem kO:szO jA 23=some 1:=A8
theorem MO:JF jA 23=some false:=A8
theorem A1I:JF jA 24=some false:=A8
theorem AZB:szO jA 25=some 1:=A8
theorem bH:JF jA 25=some false:=A8
theorem iA:szO jA 27=some 5:=A8
theorem oA:JF jA 27=some true:=A8
theorem fT:JF jA 28=some false:=A8
theorem nZ:JF jA 29=some false:=A8
theorem AZA:szO jA 31=some 2:=A8
theorem A5I:JF jA 31=some true:=A8
theorem AJ6:szO jA 32=some 1:=A8
theorem O6:JF jA 32=some false:=A8
theorem tW:szO jA 34=some 3:=A8
theorem A1H:JF jA 34=some true:=A8
theorem AY9:szO jA 38=some 1:=A8
theorem ASP:JF jA 38=some false:=A8
theorem ANW:szO jA 46=some 4:=A8
theorem A5H:JF jA 46=some true:=A8
theorem AY8:szO jA 61=some 1:=A8
theorem ADO:JF jA 61=some false:=A8
theorem A6E:szO jA 62=some 1:=A8
theorem A5G:JF jA 62=some false:=A8
theorem ANV:szO jA 64=some 5:=A8
theorem A7R:JF jA 64=some true:=A8
theorem JL:szO jA 79=some 4:=A8
theorem O5:JF jA 79=some true:=A8
theorem O4:JF jA 80=some false:=A8
theorem ZI:szO jA 82=some 6:=A8
theorem fS:JF jA 82=some true:=A8
theorem A14:szO jA 84=some 1:=A8
theorem QI:JF jA 84=some false:=A8
theorem WH:JF jA 85=some false:=A8
theorem cB:szO jA 87=some 4:=A8
theorem nY:JF jA 87=some true:=A8
theorem tV:szO jA 90=some 3:=A8
theorem AGK:JF jA 90=some true:=A8
theorem ATM:szO jA 94=some 1:=A8
theorem A7Q:JF jA 94=some true:=A8
theorem AN0:szO jA 100=some 1:=A8
theorem ADQ:JF jA 100=some false:=A8
theorem qS:szO jA 118=some 4:=A8
theorem AYV:JF jA 118=some true:=A8
theorem ASQ:JF jA 120=some false:=A8
theorem ANZ:szO jA 121=some 1:=A8
theorem eA:JF jA 121=some false:=A8
theorem cC:szO jA 123=some 12:=A8
theorem ADP:JF jA 123=some true:=A8
theorem AXV:szO jA 128=some 2:=A8
theorem A5R:JF jA 128=some true:=A8
theorem AG6:szO jA 131=some 4:=A8
theorem AYU:JF jA 131=some true:=A8
theorem A5Q:JF jA 137=some false:=A8
theorem gD:szO jA 140=some 2:=A8
theorem AJL:JF jA 140=some true:=A8
theorem A16:szO jA 143=some 4:=A8
theorem J4:szO jA 145=some 2:=A8
theorem YL:JF jA 145=some true:=A8
theorem A15:szO jA 150=some 1:=A8
theorem A5P:JF jA 150=some false:=A8
theorem AXU:szO jA 194=some 7:=A8
theorem A5O:JF jA 194=some true:=A8
theorem ANX:szO jA 209=some 2:=A8
theorem A5N:JF jA 209=some true:=A8
theorem sz230:szO jA 230=some 1:=A8
theorem ag230:JF jA 230=some false:=A8
theorem AXT:szO jA 233=some 1:=A8
theorem A5M:JF jA 233=some true:=A8
theorem AXS:szO jA 235=some 2:=A8
theorem A5L:JF jA 235=some true:=A8
theorem AXR:szO jA 240=some 4:=A8
theorem A5K:JF jA 240=some true:=A8
theorem AXQ:szO jA 277=some 1:=A8
theorem A5J:JF jA 277=some true:=A8
theorem be4:∀p q,JM jA 4 .eql (.bool p) (.bool q)=some (.bool (p==q)):=fun p q=>AR6 jA 4 p q A8
theorem ln9:∀s,JR jA 9 (.str s)=some (.int .i64 s.size):=AUS (A8:Tryz.prog.underlying 9=some .string)
theorem pC:∀h a i,EQ jA h 22 a i=JJ 4 h a i:=FP (A8:Tryz.prog.underlying 22=some (.slice 131)) AG6
theorem A24:(∀m k xs,JR jA 22 (.sl m k xs)=some (.int .i64 xs.length))∧∀b off len,JR jA 22 (.own b off len)=some (.int .i64 len):=LP (A8:Tryz.prog.underlying 22=some (.slice 131))
theorem RN:∀h a i,EQ jA h 23 a i=JJ 4 h a i:=FP (A8:Tryz.prog.underlying 23=some (.slice 79)) JL
theorem AE8:(∀m k xs,JR jA 23 (.sl m k xs)=some (.int .i64 xs.length))∧∀b off len,JR jA 23 (.own b off len)=some (.int .i64 len):=LP (A8:Tryz.prog.underlying 23=some (.slice 79))
theorem SV:Tryz.prog.underlying 23=some (.slice 79):=A8
theorem ZG:RD jA 79=some 4:=A8
theorem YG:KG jA 79=some 56:=A8
theorem APX:∀h a i,EQ jA h 24 a i=JJ 2 h a i:=FP (A8:Tryz.prog.underlying 24=some (.slice 140)) gD
theorem A23:(∀m k xs,JR jA 24 (.sl m k xs)=some (.int .i64 xs.length))∧∀b off len,JR jA 24 (.own b off len)=some (.int .i64 len):=LP (A8:Tryz.prog.underlying 24=some (.slice 140))
theorem A6C:Tryz.prog.underlying 24=some (.slice 140):=A8
theorem pB:∀h a i,EQ jA h 25 a i=JJ 1 h a i:=FP (A8:Tryz.prog.underlying 25=some (.slice 32)) AJ6
theorem APJ:(∀m k xs,JR jA 25 (.sl m k xs)=some (.int .i64 xs.length))∧∀b off len,JR jA 25 (.own b off len)=some (.int .i64 len):=LP (A8:Tryz.prog.underlying 25=some (.slice 32))
theorem ud25:Tryz.prog.underlying 25=some (.slice 32):=A8
theorem zs25:RD jA 32=some 1:=A8
theorem by25:KG jA 32=some 24:=A8
theorem vL:(∀b i j,AX jA 27 (.ptr b i j) 0=some (.ptr b i (j+0)))∧(∀k xs i j,AX jA 27 (.fptr k xs i j) 0=some (.fptr k xs i (j+0))):=FH (A8:G8 jA 27 0 0=true)
theorem AQW:(∀b i j,AX jA 27 (.ptr b i j) 1=some (.ptr b i (j+1)))∧(∀k xs i j,AX jA 27 (.fptr k xs i j) 1=some (.fptr k xs i (j+1))):=FH (A8:G8 jA 27 1 1=true)
theorem A0P:(∀b i j,AX jA 27 (.ptr b i j) 2=some (.ptr b i (j+2)))∧(∀k xs i j,AX jA 27 (.fptr k xs i j) 2=some (.fptr k xs i (j+2))):=FH (A8:G8 jA 27 2 2=true)
theorem AQV:(∀b i j,AX jA 27 (.ptr b i j) 3=some (.ptr b i (j+3)))∧(∀k xs i j,AX jA 27 (.fptr k xs i j) 3=some (.fptr k xs i (j+3))):=FH (A8:G8 jA 27 3 3=true)
theorem A0O:(∀b i j,AX jA 27 (.ptr b i j) 4=some (.ptr b i (j+4)))∧(∀k xs i j,AX jA 27 (.fptr k xs i j) 4=some (.fptr k xs i (j+4))):=FH (A8:G8 jA 27 4 4=true)
theorem RJ:∀h a i,EQ jA h 28 a i=JJ 6 h a i:=FP (A8:Tryz.prog.underlying 28=some (.slice 82)) ZI
theorem AK7:(∀m k xs,JR jA 28 (.sl m k xs)=some (.int .i64 xs.length))∧∀b off len,JR jA 28 (.own b off len)=some (.int .i64 len):=LP (A8:Tryz.prog.underlying 28=some (.slice 82))
theorem UN:∀h a i,EQ jA h 29 a i=JJ 3 h a i:=FP (A8:Tryz.prog.underlying 29=some (.slice 90)) tV
theorem API:(∀m k xs,JR jA 29 (.sl m k xs)=some (.int .i64 xs.length))∧∀b off len,JR jA 29 (.own b off len)=some (.int .i64 len):=LP (A8:Tryz.prog.underlying 29=some (.slice 90))
theorem KU:(∀b i j,AX jA 31 (.ptr b i j) 0=some (.ptr b i (j+0)))∧(∀k xs i j,AX jA 31 (.fptr k xs i j) 0=some (.fptr k xs i (j+0))):=FH (A8:G8 jA 31 0 0=true)
theorem MM:(∀b i j,AX jA 31 (.ptr b i j) 1=some (.ptr b i (j+1)))∧(∀k xs i j,AX jA 31 (.fptr k xs i j) 1=some (.fptr k xs i (j+1))):=FH (A8:G8 jA 31 1 1=true)
theorem LQ:∀h a i,EQ jA h 32 a i=JJ 1 h a i:=FP (A8:Tryz.prog.underlying 32=some (.slice 3)) sz3
theorem XT:(∀m k xs,JR jA 32 (.sl m k xs)=some (.int .i64 xs.length))∧∀b off len,JR jA 32 (.own b off len)=some (.int .i64 len):=LP (A8:Tryz.prog.underlying 32=some (.slice 3))
theorem tR:Tryz.prog.underlying 32=some (.slice 3):=A8
theorem AM3:RD jA 3=some 1:=A8
theorem AF8:KG jA 3=some 8:=A8
theorem AFR:(∀b i j,AX jA 34 (.ptr b i j) 0=some (.ptr b i (j+0)))∧(∀k xs i j,AX jA 34 (.fptr k xs i j) 0=some (.fptr k xs i (j+0))):=FH (A8:G8 jA 34 0 0=true)
theorem UO:(∀b i j,AX jA 34 (.ptr b i j) 1=some (.ptr b i (j+1)))∧(∀k xs i j,AX jA 34 (.fptr k xs i j) 1=some (.fptr k xs i (j+1))):=FH (A8:G8 jA 34 1 1=true)
theorem TB:(∀b i j,AX jA 34 (.ptr b i j) 2=some (.ptr b i (j+2)))∧(∀k xs i j,AX jA 34 (.fptr k xs i j) 2=some (.fptr k xs i (j+2))):=FH (A8:G8 jA 34 2 2=true)
theorem vK:(∀b i j,AX jA 46 (.ptr b i j) 0=some (.ptr b i (j+0)))∧(∀k xs i j,AX jA 46 (.fptr k xs i j) 0=some (.fptr k xs i (j+0))):=FH (A8:G8 jA 46 0 0=true)
theorem AFQ:(∀b i j,AX jA 46 (.ptr b i j) 1=some (.ptr b i (j+1)))∧(∀k xs i j,AX jA 46 (.fptr k xs i j) 1=some (.fptr k xs i (j+1))):=FH (A8:G8 jA 46 1 1=true)
theorem A0N:(∀b i j,AX jA 46 (.ptr b i j) 2=some (.ptr b i (j+2)))∧(∀k xs i j,AX jA 46 (.fptr k xs i j) 2=some (.fptr k xs i (j+2))):=FH (A8:G8 jA 46 2 2=true)
theorem A0M:(∀b i j,AX jA 46 (.ptr b i j) 3=some (.ptr b i (j+3)))∧(∀k xs i j,AX jA 46 (.fptr k xs i j) 3=some (.fptr k xs i (j+3))):=FH (A8:G8 jA 46 3 3=true)
theorem A3E:∀h a i,EQ jA h 49 a i=JJ 3 h a i:=FP (A8:Tryz.prog.underlying 49=some (.slice 34)) tW
theorem APH:(∀m k xs,JR jA 49 (.sl m k xs)=some (.int .i64 xs.length))∧∀b off len,JR jA 49 (.own b off len)=some (.int .i64 len):=LP (A8:Tryz.prog.underlying 49=some (.slice 34))
theorem ATK:Tryz.prog.underlying 49=some (.slice 34):=A8
theorem ATB:RD jA 34=some 3:=A8
theorem A08:KG jA 34=some 40:=A8
theorem APW:∀h a i,EQ jA h 58 a i=JJ 1 h a i:=FP (A8:Tryz.prog.underlying 58=some (.slice 61)) AY8
theorem AUP:(∀m k xs,JR jA 58 (.sl m k xs)=some (.int .i64 xs.length))∧∀b off len,JR jA 58 (.own b off len)=some (.int .i64 len):=LP (A8:Tryz.prog.underlying 58=some (.slice 61))
theorem A10:Tryz.prog.underlying 58=some (.slice 61):=A8
theorem A1Q:RD jA 61=some 1:=A8
theorem A4E:KG jA 61=some 24:=A8
theorem AZ7:∀h a i,EQ jA h 61 a i=JJ 12 h a i:=FP (A8:Tryz.prog.underlying 61=some (.slice 123)) cC
theorem uU:(∀m k xs,JR jA 61 (.sl m k xs)=some (.int .i64 xs.length))∧∀b off len,JR jA 61 (.own b off len)=some (.int .i64 len):=LP (A8:Tryz.prog.underlying 61=some (.slice 123))
theorem A1Z:Tryz.prog.underlying 61=some (.slice 123):=A8
theorem A1P:RD jA 123=some 12:=A8
theorem A4D:KG jA 123=some 216:=A8
theorem A6V:∀h a i,EQ jA h 62 a i=JJ 5 h a i:=FP (A8:Tryz.prog.underlying 62=some (.slice 64)) ANV
theorem A22:(∀m k xs,JR jA 62 (.sl m k xs)=some (.int .i64 xs.length))∧∀b off len,JR jA 62 (.own b off len)=some (.int .i64 len):=LP (A8:Tryz.prog.underlying 62=some (.slice 64))
theorem A1Y:Tryz.prog.underlying 62=some (.slice 64):=A8
theorem A1O:RD jA 64=some 5:=A8
theorem A4C:KG jA 64=some 80:=A8
theorem AQU:(∀b i j,AX jA 64 (.ptr b i j) 0=some (.ptr b i (j+0)))∧(∀k xs i j,AX jA 64 (.fptr k xs i j) 0=some (.fptr k xs i (j+0))):=FH (A8:G8 jA 64 0 0=true)
theorem A0L:(∀b i j,AX jA 64 (.ptr b i j) 2=some (.ptr b i (j+2)))∧(∀k xs i j,AX jA 64 (.fptr k xs i j) 2=some (.fptr k xs i (j+2))):=FH (A8:G8 jA 64 2 2=true)
theorem A0K:(∀b i j,AX jA 64 (.ptr b i j) 3=some (.ptr b i (j+3)))∧(∀k xs i j,AX jA 64 (.fptr k xs i j) 3=some (.fptr k xs i (j+3))):=FH (A8:G8 jA 64 3 3=true)
theorem mT:(∀b i j,AX jA 64 (.ptr b i j) 4=some (.ptr b i (j+4)))∧(∀k xs i j,AX jA 64 (.fptr k xs i j) 4=some (.fptr k xs i (j+4))):=FH (A8:G8 jA 64 4 4=true)
theorem WB:(∀b i j,AX jA 79 (.ptr b i j) 0=some (.ptr b i (j+0)))∧(∀k xs i j,AX jA 79 (.fptr k xs i j) 0=some (.fptr k xs i (j+0))):=FH (A8:G8 jA 79 0 0=true)
theorem mS:(∀b i j,AX jA 79 (.ptr b i j) 1=some (.ptr b i (j+1)))∧(∀k xs i j,AX jA 79 (.fptr k xs i j) 1=some (.fptr k xs i (j+1))):=FH (A8:G8 jA 79 1 1=true)
theorem eZ:(∀b i j,AX jA 79 (.ptr b i j) 2=some (.ptr b i (j+2)))∧(∀k xs i j,AX jA 79 (.fptr k xs i j) 2=some (.fptr k xs i (j+2))):=FH (A8:G8 jA 79 2 2=true)
theorem X8:(∀b i j,AX jA 79 (.ptr b i j) 3=some (.ptr b i (j+3)))∧(∀k xs i j,AX jA 79 (.fptr k xs i j) 3=some (.fptr k xs i (j+3))):=FH (A8:G8 jA 79 3 3=true)
theorem XV:∀h a i,EQ jA h 80 a i=JJ 4 h a i:=FP (A8:Tryz.prog.underlying 80=some (.slice 87)) cB
theorem cV:(∀m k xs,JR jA 80 (.sl m k xs)=some (.int .i64 xs.length))∧∀b off len,JR jA 80 (.own b off len)=some (.int .i64 len):=LP (A8:Tryz.prog.underlying 80=some (.slice 87))
theorem vJ:(∀b i j,AX jA 82 (.ptr b i j) 0=some (.ptr b i (j+0)))∧(∀k xs i j,AX jA 82 (.fptr k xs i j) 0=some (.fptr k xs i (j+0))):=FH (A8:G8 jA 82 0 0=true)
theorem aX:(∀b i j,AX jA 82 (.ptr b i j) 1=some (.ptr b i (j+1)))∧(∀k xs i j,AX jA 82 (.fptr k xs i j) 1=some (.fptr k xs i (j+1))):=FH (A8:G8 jA 82 1 1=true)
theorem KI:(∀b i j,AX jA 82 (.ptr b i j) 2=some (.ptr b i (j+5)))∧(∀k xs i j,AX jA 82 (.fptr k xs i j) 2=some (.fptr k xs i (j+5))):=FH (A8:G8 jA 82 2 5=true)
theorem TQ:∀h a i,EQ jA h 84 a i=JJ 2 h a i:=FP (A8:Tryz.prog.underlying 84=some (.slice 145)) J4
theorem XR:(∀m k xs,JR jA 84 (.sl m k xs)=some (.int .i64 xs.length))∧∀b off len,JR jA 84 (.own b off len)=some (.int .i64 len):=LP (A8:Tryz.prog.underlying 84=some (.slice 145))
theorem UH:Tryz.prog.underlying 84=some (.slice 145):=A8
theorem tM:RD jA 145=some 2:=A8
theorem xA:KG jA 145=some 16:=A8
theorem pA:∀h a i,EQ jA h 85 a i=JJ 1 h a i:=FP (A8:Tryz.prog.underlying 85=some (.slice 84)) A14
theorem A21:(∀m k xs,JR jA 85 (.sl m k xs)=some (.int .i64 xs.length))∧∀b off len,JR jA 85 (.own b off len)=some (.int .i64 len):=LP (A8:Tryz.prog.underlying 85=some (.slice 84))
theorem vI:(∀b i j,AX jA 87 (.ptr b i j) 0=some (.ptr b i (j+0)))∧(∀k xs i j,AX jA 87 (.fptr k xs i j) 0=some (.fptr k xs i (j+0))):=FH (A8:G8 jA 87 0 0=true)
theorem WA:(∀b i j,AX jA 87 (.ptr b i j) 1=some (.ptr b i (j+1)))∧(∀k xs i j,AX jA 87 (.fptr k xs i j) 1=some (.fptr k xs i (j+1))):=FH (A8:G8 jA 87 1 1=true)
theorem AFP:(∀b i j,AX jA 87 (.ptr b i j) 2=some (.ptr b i (j+2)))∧(∀k xs i j,AX jA 87 (.fptr k xs i j) 2=some (.fptr k xs i (j+2))):=FH (A8:G8 jA 87 2 2=true)
theorem mR:(∀b i j,AX jA 87 (.ptr b i j) 3=some (.ptr b i (j+3)))∧(∀k xs i j,AX jA 87 (.fptr k xs i j) 3=some (.fptr k xs i (j+3))):=FH (A8:G8 jA 87 3 3=true)
theorem vH:(∀b i j,AX jA 90 (.ptr b i j) 0=some (.ptr b i (j+0)))∧(∀k xs i j,AX jA 90 (.fptr k xs i j) 0=some (.fptr k xs i (j+0))):=FH (A8:G8 jA 90 0 0=true)
theorem MB:(∀b i j,AX jA 90 (.ptr b i j) 1=some (.ptr b i (j+1)))∧(∀k xs i j,AX jA 90 (.fptr k xs i j) 1=some (.fptr k xs i (j+1))):=FH (A8:G8 jA 90 1 1=true)
theorem eY:(∀b i j,AX jA 90 (.ptr b i j) 2=some (.ptr b i (j+2)))∧(∀k xs i j,AX jA 90 (.fptr k xs i j) 2=some (.fptr k xs i (j+2))):=FH (A8:G8 jA 90 2 2=true)
theorem AQT:(∀b i j,AX jA 94 (.ptr b i j) 0=some (.ptr b i (j+0)))∧(∀k xs i j,AX jA 94 (.fptr k xs i j) 0=some (.fptr k xs i (j+0))):=FH (A8:G8 jA 94 0 0=true)
theorem sA:∀h a i,EQ jA h 100 a i=JJ 1 h a i:=FP (A8:Tryz.prog.underlying 100=some (.slice 23)) kO
theorem WM:(∀m k xs,JR jA 100 (.sl m k xs)=some (.int .i64 xs.length))∧∀b off len,JR jA 100 (.own b off len)=some (.int .i64 len):=LP (A8:Tryz.prog.underlying 100=some (.slice 23))
theorem kL:Tryz.prog.underlying 100=some (.slice 23):=A8
theorem pT:RD jA 23=some 1:=A8
theorem nP:KG jA 23=some 24:=A8
theorem A3H:∀h a i,EQ jA h 115 a i=JJ 4 h a i:=FP (A8:Tryz.prog.underlying 115=some (.slice 118)) qS
theorem A27:(∀m k xs,JR jA 115 (.sl m k xs)=some (.int .i64 xs.length))∧∀b off len,JR jA 115 (.own b off len)=some (.int .i64 len):=LP (A8:Tryz.prog.underlying 115=some (.slice 118))
theorem AXP:Tryz.prog.underlying 115=some (.slice 118):=A8
theorem AXL:RD jA 118=some 4:=A8
theorem A4H:KG jA 118=some 48:=A8
theorem kB:(∀b i j,AX jA 118 (.ptr b i j) 0=some (.ptr b i (j+0)))∧(∀k xs i j,AX jA 118 (.fptr k xs i j) 0=some (.fptr k xs i (j+0))):=FH (A8:G8 jA 118 0 0=true)
theorem AI1:(∀b i j,AX jA 118 (.ptr b i j) 1=some (.ptr b i (j+3)))∧(∀k xs i j,AX jA 118 (.fptr k xs i j) 1=some (.fptr k xs i (j+3))):=FH (A8:G8 jA 118 1 3=true)
theorem AX6:∀h a i,EQ jA h 120 a i=JJ 4 h a i:=FP (A8:Tryz.prog.underlying 120=some (.slice 240)) AXR
theorem ABD:(∀m k xs,JR jA 120 (.sl m k xs)=some (.int .i64 xs.length))∧∀b off len,JR jA 120 (.own b off len)=some (.int .i64 len):=LP (A8:Tryz.prog.underlying 120=some (.slice 240))
theorem ZY:∀h a i,EQ jA h 121 a i=JJ 1 h a i:=FP (A8:Tryz.prog.underlying 121=some (.slice 9)) sz9
theorem AHY:(∀m k xs,JR jA 121 (.sl m k xs)=some (.int .i64 xs.length))∧∀b off len,JR jA 121 (.own b off len)=some (.int .i64 len):=LP (A8:Tryz.prog.underlying 121=some (.slice 9))
theorem ANP:Tryz.prog.underlying 121=some (.slice 9):=A8
theorem AM4:RD jA 9=some 1:=A8
theorem ARV:KG jA 9=some 16:=A8
theorem dI:(∀b i j,AX jA 123 (.ptr b i j) 0=some (.ptr b i (j+0)))∧(∀k xs i j,AX jA 123 (.fptr k xs i j) 0=some (.fptr k xs i (j+0))):=FH (A8:G8 jA 123 0 0=true)
theorem AI0:(∀b i j,AX jA 123 (.ptr b i j) 1=some (.ptr b i (j+1)))∧(∀k xs i j,AX jA 123 (.fptr k xs i j) 1=some (.fptr k xs i (j+1))):=FH (A8:G8 jA 123 1 1=true)
theorem AIZ:(∀b i j,AX jA 123 (.ptr b i j) 2=some (.ptr b i (j+5)))∧(∀k xs i j,AX jA 123 (.fptr k xs i j) 2=some (.fptr k xs i (j+5))):=FH (A8:G8 jA 123 2 5=true)
theorem AIY:(∀b i j,AX jA 123 (.ptr b i j) 3=some (.ptr b i (j+6)))∧(∀k xs i j,AX jA 123 (.fptr k xs i j) 3=some (.fptr k xs i (j+6))):=FH (A8:G8 jA 123 3 6=true)
theorem AIX:(∀b i j,AX jA 123 (.ptr b i j) 4=some (.ptr b i (j+7)))∧(∀k xs i j,AX jA 123 (.fptr k xs i j) 4=some (.fptr k xs i (j+7))):=FH (A8:G8 jA 123 4 7=true)
theorem jN:(∀b i j,AX jA 123 (.ptr b i j) 5=some (.ptr b i (j+8)))∧(∀k xs i j,AX jA 123 (.fptr k xs i j) 5=some (.fptr k xs i (j+8))):=FH (A8:G8 jA 123 5 8=true)
theorem iZ:(∀b i j,AX jA 123 (.ptr b i j) 6=some (.ptr b i (j+9)))∧(∀k xs i j,AX jA 123 (.fptr k xs i j) 6=some (.fptr k xs i (j+9))):=FH (A8:G8 jA 123 6 9=true)
theorem AIW:(∀b i j,AX jA 123 (.ptr b i j) 7=some (.ptr b i (j+10)))∧(∀k xs i j,AX jA 123 (.fptr k xs i j) 7=some (.fptr k xs i (j+10))):=FH (A8:G8 jA 123 7 10=true)
theorem AIV:(∀b i j,AX jA 123 (.ptr b i j) 8=some (.ptr b i (j+11)))∧(∀k xs i j,AX jA 123 (.fptr k xs i j) 8=some (.fptr k xs i (j+11))):=FH (A8:G8 jA 123 8 11=true)
theorem AIU:(∀b i j,AX jA 128 (.ptr b i j) 0=some (.ptr b i (j+0)))∧(∀k xs i j,AX jA 128 (.fptr k xs i j) 0=some (.fptr k xs i (j+0))):=FH (A8:G8 jA 128 0 0=true)
theorem AVS:(∀b i j,AX jA 128 (.ptr b i j) 1=some (.ptr b i (j+1)))∧(∀k xs i j,AX jA 128 (.fptr k xs i j) 1=some (.fptr k xs i (j+1))):=FH (A8:G8 jA 128 1 1=true)
theorem iY:(∀b i j,AX jA 131 (.ptr b i j) 0=some (.ptr b i (j+0)))∧(∀k xs i j,AX jA 131 (.fptr k xs i j) 0=some (.fptr k xs i (j+0))):=FH (A8:G8 jA 131 0 0=true)
theorem ZA:(∀b i j,AX jA 131 (.ptr b i j) 1=some (.ptr b i (j+1)))∧(∀k xs i j,AX jA 131 (.fptr k xs i j) 1=some (.fptr k xs i (j+1))):=FH (A8:G8 jA 131 1 1=true)
theorem Y9:(∀b i j,AX jA 131 (.ptr b i j) 2=some (.ptr b i (j+2)))∧(∀k xs i j,AX jA 131 (.fptr k xs i j) 2=some (.fptr k xs i (j+2))):=FH (A8:G8 jA 131 2 2=true)
theorem dH:(∀b i j,AX jA 131 (.ptr b i j) 3=some (.ptr b i (j+3)))∧(∀k xs i j,AX jA 131 (.fptr k xs i j) 3=some (.fptr k xs i (j+3))):=FH (A8:G8 jA 131 3 3=true)
theorem AX5:∀h a i,EQ jA h 137 a i=JJ 2 h a i:=FP (A8:Tryz.prog.underlying 137=some (.slice 209)) ANX
theorem A26:(∀m k xs,JR jA 137 (.sl m k xs)=some (.int .i64 xs.length))∧∀b off len,JR jA 137 (.own b off len)=some (.int .i64 len):=LP (A8:Tryz.prog.underlying 137=some (.slice 209))
theorem A12:Tryz.prog.underlying 137=some (.slice 209):=A8
theorem A1R:RD jA 209=some 2:=A8
theorem A4G:KG jA 209=some 24:=A8
theorem vR:(∀b i j,AX jA 140 (.ptr b i j) 0=some (.ptr b i (j+0)))∧(∀k xs i j,AX jA 140 (.fptr k xs i j) 0=some (.fptr k xs i (j+0))):=FH (A8:G8 jA 140 0 0=true)
theorem AIT:(∀b i j,AX jA 140 (.ptr b i j) 1=some (.ptr b i (j+1)))∧(∀k xs i j,AX jA 140 (.fptr k xs i j) 1=some (.fptr k xs i (j+1))):=FH (A8:G8 jA 140 1 1=true)
theorem OU:(∀b i j,AX jA 145 (.ptr b i j) 0=some (.ptr b i (j+0)))∧(∀k xs i j,AX jA 145 (.fptr k xs i j) 0=some (.fptr k xs i (j+0))):=FH (A8:G8 jA 145 0 0=true)
theorem OT:(∀b i j,AX jA 145 (.ptr b i j) 1=some (.ptr b i (j+1)))∧(∀k xs i j,AX jA 145 (.fptr k xs i j) 1=some (.fptr k xs i (j+1))):=FH (A8:G8 jA 145 1 1=true)
theorem ABJ:∀h a i,EQ jA h 159 a i=JJ 1 h a i:=FP (A8:Tryz.prog.underlying 159=some (.slice 100)) AN0
theorem AHX:(∀m k xs,JR jA 159 (.sl m k xs)=some (.int .i64 xs.length))∧∀b off len,JR jA 159 (.own b off len)=some (.int .i64 len):=LP (A8:Tryz.prog.underlying 159=some (.slice 100))
theorem AXO:Tryz.prog.underlying 159=some (.slice 100):=A8
theorem AXK:RD jA 100=some 1:=A8
theorem AYK:KG jA 100=some 24:=A8
theorem AVR:(∀b i j,AX jA 194 (.ptr b i j) 0=some (.ptr b i (j+0)))∧(∀k xs i j,AX jA 194 (.fptr k xs i j) 0=some (.fptr k xs i (j+0))):=FH (A8:G8 jA 194 0 0=true)
theorem AVQ:(∀b i j,AX jA 194 (.ptr b i j) 1=some (.ptr b i (j+1)))∧(∀k xs i j,AX jA 194 (.fptr k xs i j) 1=some (.fptr k xs i (j+1))):=FH (A8:G8 jA 194 1 1=true)
theorem AVP:(∀b i j,AX jA 194 (.ptr b i j) 2=some (.ptr b i (j+2)))∧(∀k xs i j,AX jA 194 (.fptr k xs i j) 2=some (.fptr k xs i (j+2))):=FH (A8:G8 jA 194 2 2=true)
theorem AVO:(∀b i j,AX jA 194 (.ptr b i j) 3=some (.ptr b i (j+3)))∧(∀k xs i j,AX jA 194 (.fptr k xs i j) 3=some (.fptr k xs i (j+3))):=FH (A8:G8 jA 194 3 3=true)
theorem AVN:(∀b i j,AX jA 194 (.ptr b i j) 4=some (.ptr b i (j+4)))∧(∀k xs i j,AX jA 194 (.fptr k xs i j) 4=some (.fptr k xs i (j+4))):=FH (A8:G8 jA 194 4 4=true)
theorem AVM:(∀b i j,AX jA 194 (.ptr b i j) 5=some (.ptr b i (j+5)))∧(∀k xs i j,AX jA 194 (.fptr k xs i j) 5=some (.fptr k xs i (j+5))):=FH (A8:G8 jA 194 5 5=true)
theorem AVL:(∀b i j,AX jA 194 (.ptr b i j) 6=some (.ptr b i (j+6)))∧(∀k xs i j,AX jA 194 (.fptr k xs i j) 6=some (.fptr k xs i (j+6))):=FH (A8:G8 jA 194 6 6=true)
theorem AVK:(∀b i j,AX jA 209 (.ptr b i j) 0=some (.ptr b i (j+0)))∧(∀k xs i j,AX jA 209 (.fptr k xs i j) 0=some (.fptr k xs i (j+0))):=FH (A8:G8 jA 209 0 0=true)
theorem AIS:(∀b i j,AX jA 209 (.ptr b i j) 1=some (.ptr b i (j+1)))∧(∀k xs i j,AX jA 209 (.fptr k xs i j) 1=some (.fptr k xs i (j+1))):=FH (A8:G8 jA 209 1 1=true)
theorem A3F:∀h a i,EQ jA h 212 a i=JJ 1 h a i:=FP (A8:Tryz.prog.underlying 212=some (.slice 150)) A15
theorem A25:(∀m k xs,JR jA 212 (.sl m k xs)=some (.int .i64 xs.length))∧∀b off len,JR jA 212 (.own b off len)=some (.int .i64 len):=LP (A8:Tryz.prog.underlying 212=some (.slice 150))
theorem APY:∀h a i,EQ jA h 221 a i=JJ 1 h a i:=FP (A8:Tryz.prog.underlying 221=some (.slice 4)) sz4
theorem A11:Tryz.prog.underlying 221=some (.slice 4):=A8
theorem A4F:KG jA 4=some 1:=A8
theorem AIR:(∀b i j,AX jA 233 (.ptr b i j) 0=some (.ptr b i (j+0)))∧(∀k xs i j,AX jA 233 (.fptr k xs i j) 0=some (.fptr k xs i (j+0))):=FH (A8:G8 jA 233 0 0=true)
theorem AIQ:(∀b i j,AX jA 235 (.ptr b i j) 0=some (.ptr b i (j+0)))∧(∀k xs i j,AX jA 235 (.fptr k xs i j) 0=some (.fptr k xs i (j+0))):=FH (A8:G8 jA 235 0 0=true)
theorem AIP:(∀b i j,AX jA 235 (.ptr b i j) 1=some (.ptr b i (j+1)))∧(∀k xs i j,AX jA 235 (.fptr k xs i j) 1=some (.fptr k xs i (j+1))):=FH (A8:G8 jA 235 1 1=true)
theorem AIO:(∀b i j,AX jA 240 (.ptr b i j) 0=some (.ptr b i (j+0)))∧(∀k xs i j,AX jA 240 (.fptr k xs i j) 0=some (.fptr k xs i (j+0))):=FH (A8:G8 jA 240 0 0=true)
theorem AIN:(∀b i j,AX jA 240 (.ptr b i j) 1=some (.ptr b i (j+1)))∧(∀k xs i j,AX jA 240 (.fptr k xs i j) 1=some (.fptr k xs i (j+1))):=FH (A8:G8 jA 240 1 1=true)
theorem vP:(∀b i j,AX jA 240 (.ptr b i j) 2=some (.ptr b i (j+2)))∧(∀k xs i j,AX jA 240 (.fptr k xs i j) 2=some (.fptr k xs i (j+2))):=FH (A8:G8 jA 240 2 2=true)
theorem vO:(∀b i j,AX jA 249 (.ptr b i j) 0=some (.ptr b i (j+0)))∧(∀k xs i j,AX jA 249 (.fptr k xs i j) 0=some (.fptr k xs i (j+0))):=FH (A8:G8 jA 249 0 0=true)
theorem AVJ:(∀b i j,AX jA 249 (.ptr b i j) 1=some (.ptr b i (j+5)))∧(∀k xs i j,AX jA 249 (.fptr k xs i j) 1=some (.fptr k xs i (j+5))):=FH (A8:G8 jA 249 1 5=true)
theorem WC:(∀b i j,AX jA 249 (.ptr b i j) 2=some (.ptr b i (j+6)))∧(∀k xs i j,AX jA 249 (.fptr k xs i j) 2=some (.fptr k xs i (j+6))):=FH (A8:G8 jA 249 2 6=true)
theorem iW:(∀b i j,AX jA 249 (.ptr b i j) 3=some (.ptr b i (j+7)))∧(∀k xs i j,AX jA 249 (.fptr k xs i j) 3=some (.fptr k xs i (j+7))):=FH (A8:G8 jA 249 3 7=true)
theorem AVI:(∀b i j,AX jA 249 (.ptr b i j) 4=some (.ptr b i (j+8)))∧(∀k xs i j,AX jA 249 (.fptr k xs i j) 4=some (.fptr k xs i (j+8))):=FH (A8:G8 jA 249 4 8=true)
theorem AIM:(∀b i j,AX jA 263 (.ptr b i j) 0=some (.ptr b i (j+0)))∧(∀k xs i j,AX jA 263 (.fptr k xs i j) 0=some (.fptr k xs i (j+0))):=FH (A8:G8 jA 263 0 0=true)
theorem vN:(∀b i j,AX jA 263 (.ptr b i j) 1=some (.ptr b i (j+1)))∧(∀k xs i j,AX jA 263 (.fptr k xs i j) 1=some (.fptr k xs i (j+1))):=FH (A8:G8 jA 263 1 1=true)
theorem dG:(∀b i j,AX jA 263 (.ptr b i j) 2=some (.ptr b i (j+2)))∧(∀k xs i j,AX jA 263 (.fptr k xs i j) 2=some (.fptr k xs i (j+2))):=FH (A8:G8 jA 263 2 2=true)
theorem AIL:(∀b i j,AX jA 263 (.ptr b i j) 3=some (.ptr b i (j+3)))∧(∀k xs i j,AX jA 263 (.fptr k xs i j) 3=some (.fptr k xs i (j+3))):=FH (A8:G8 jA 263 3 3=true)
theorem vM:(∀b i j,AX jA 263 (.ptr b i j) 4=some (.ptr b i (j+4)))∧(∀k xs i j,AX jA 263 (.fptr k xs i j) 4=some (.fptr k xs i (j+4))):=FH (A8:G8 jA 263 4 4=true)
theorem AVH:(∀b i j,AX jA 277 (.ptr b i j) 0=some (.ptr b i (j+0)))∧(∀k xs i j,AX jA 277 (.fptr k xs i j) 0=some (.fptr k xs i (j+0))):=FH (A8:G8 jA 277 0 0=true)
theorem A36:∀n,YM jA 3 5 (.int .i64 n)=some (.int .u8 (IntKind.u8.wrap n)):=fun n=>dS (ds:=.int .i64) jA .i64 n A8 A8
theorem AV4:∀n,YM jA 3 348 (.int .i64 n)=some (.int .u16 (IntKind.u16.wrap n)):=fun n=>dS (ds:=.int .i64) jA .i64 n A8 A8
theorem ARI:∀n,YM jA 5 3 (.int .u8 n)=some (.int .i64 (IntKind.i64.wrap n)):=fun n=>dS (ds:=.int .u8) jA .u8 n A8 A8
theorem AV5:∀n,YM jA 348 3 (.int .u16 n)=some (.int .i64 (IntKind.i64.wrap n)):=fun n=>dS (ds:=.int .u16) jA .u16 n A8 A8
noncomputable def En (G:Nat->AV):Env:=⟨jA,G,none,fun _ _=>False⟩
theorem enP:(En G).P=jA:=rfl
theorem enX:(En G).nox=En G:=rfl
theorem enG:(En G).G=G:=rfl
theorem enM:(En G).P.follows .mixedOrders=true:=A8

abbrev AV.n (z:Int):AV:=.int .i64 z
theorem Mr_L:type_of% (And.intro @AY (And.intro @jD.{0} (And.intro @BF (And.intro @BD (And.intro @jE (And.intro @BV (And.intro @BX (And.intro @BH (And.intro @BG (And.intro @BR (And.intro @BP (And.intro @CU (And.intro @BM (And.intro @AA (And.intro @enP (And.intro @BO (And.intro @BZ (And.intro @CW (And.intro @CY (And.intro @DC (And.intro @DU (And.intro @BQ (And.intro @DI (And.intro @FX (And.intro @EC (And.intro @LV (And.intro @DZ (And.intro @CJ (And.intro @jP.{0,0} (And.intro @jK.{0,0} (And.intro @jQ.{0} (And.intro @FC (And.intro @BJ (And.intro @EN (And.intro @D7 (And.intro @EY (And.intro @D9 (And.intro @CB (And.intro @MZ (And.intro @FO (And.intro @jG (And.intro @CO (And.intro @GR (And.intro @EK (And.intro @H9 (And.intro @NS (And.intro @AB (And.intro @J5 (And.intro @GI (And.intro @GK (And.intro @FM (And.intro @KN (And.intro @sV (And.intro @F6 (And.intro @Q7 (And.intro @YI (And.intro @jT (And.intro @XB (And.intro @KO (And.intro @lA (And.intro @JV (And.intro @EF (And.intro @jO.{0} (And.intro @DX (And.intro @enX (And.intro @CX (And.intro @JG (And.intro @EX (And.intro @EZ (And.intro @J3 (And.intro @SS (And.intro @AOR (And.intro @FT (And.intro @D6 (And.intro @GN (And.intro @zK (And.intro @bV (And.intro @I4 (And.intro @RF (And.intro @F9 (And.intro @eE (And.intro @IB (And.intro @FU (And.intro @zW (And.intro @YJ (And.intro @FZ (And.intro @ER (And.intro @JZ (And.intro @FB (And.intro @zY (And.intro @Q9 (And.intro @LQ (And.intro @AZ5 (And.intro @DY (And.intro @JQ (And.intro @XT (And.intro @QA (And.intro @L8 (And.intro @DK (And.intro @I8 (And.intro @wK.{0} (And.intro @WE (And.intro @List.getElem?_cons_succ.{0} (And.intro @vX (And.intro @J8 (And.intro @AZ4 (And.intro @aC (And.intro @WB (And.intro @LD (And.intro @I5 (And.intro @KJ (And.intro @NH (And.intro @MF (And.intro @KU (And.intro @OA (And.intro @OC (And.intro @bG (And.intro @KH (And.intro @KI (And.intro @X8 (And.intro @MM (And.intro @AE8 (And.intro @eZ (And.intro @RN (And.intro @XR (And.intro @MB (And.intro @pB (And.intro @qI.{0} (And.intro @ZC (And.intro @IY (And.intro @cP (And.intro @VQ (And.intro @RJ (And.intro @vL (And.intro @NG (And.intro @AK7 (And.intro @MN (And.intro @cV (And.intro @P9 (And.intro @UN (And.intro @JD (And.intro @pC (And.intro @AQ4 (And.intro @AGT (And.intro @WS (And.intro @UO (And.intro @A24 (And.intro @ZA (And.intro @TQ (And.intro @iO (And.intro @API (And.intro @ABA (And.intro @eD (And.intro @XV (And.intro @APJ (And.intro @NT (And.intro @YS (And.intro @TB (And.intro @A21 (And.intro @WA (And.intro @OT (And.intro @mR (And.intro @WG (And.intro @Y9 (And.intro @AYZ (And.intro @iY (And.intro @OU (And.intro @WY (And.intro @AFP (And.intro @mS (And.intro @AFQ (And.intro @sA (And.intro @AGX (And.intro @ANC (And.intro @AE4 (And.intro @vK (And.intro @AIO (And.intro @AIT (And.intro @AHY (And.intro @AD2 (And.intro @eY (And.intro @AXD (And.intro @APX (And.intro @WM (And.intro @AM7 (And.intro @AFR (And.intro @ln9 (And.intro @AIN (And.intro @pA (And.intro @VN (And.intro @aX (And.intro @AQV (And.intro @VO (And.intro @APH (And.intro @ZY (And.intro @ANG (And.intro @A23 (And.intro @dH (And.intro @vR (@jJ.{0,0})))))))))))))))))))))))))))))))))))))))))))))))))))))))))))))))))))))))))))))))))))))))))))))))))))))))))))))))))))))))))))))))))))))))))))))))))))))))))))))))))))))))))))))))))))))))))))))))))))))))):=And.intro @AY (And.intro @jD.{0} (And.intro @BF (And.intro @BD (And.intro @jE (And.intro @BV (And.intro @BX (And.intro @BH (And.intro @BG (And.intro @BR (And.intro @BP (And.intro @CU (And.intro @BM (And.intro @AA (And.intro @enP (And.intro @BO (And.intro @BZ (And.intro @CW (And.intro @CY (And.intro @DC (And.intro @DU (And.intro @BQ (And.intro @DI (And.intro @FX (And.intro @EC (And.intro @LV (And.intro @DZ (And.intro @CJ (And.intro @jP.{0,0} (And.intro @jK.{0,0} (And.intro @jQ.{0} (And.intro @FC (And.intro @BJ (And.intro @EN (And.intro @D7 (And.intro @EY (And.intro @D9 (And.intro @CB (And.intro @MZ (And.intro @FO (And.intro @jG (And.intro @CO (And.intro @GR (And.intro @EK (And.intro @H9 (And.intro @NS (And.intro @AB (And.intro @J5 (And.intro @GI (And.intro @GK (And.intro @FM (And.intro @KN (And.intro @sV (And.intro @F6 (And.intro @Q7 (And.intro @YI (And.intro @jT (And.intro @XB (And.intro @KO (And.intro @lA (And.intro @JV (And.intro @EF (And.intro @jO.{0} (And.intro @DX (And.intro @enX (And.intro @CX (And.intro @JG (And.intro @EX (And.intro @EZ (And.intro @J3 (And.intro @SS (And.intro @AOR (And.intro @FT (And.intro @D6 (And.intro @GN (And.intro @zK (And.intro @bV (And.intro @I4 (And.intro @RF (And.intro @F9 (And.intro @eE (And.intro @IB (And.intro @FU (And.intro @zW (And.intro @YJ (And.intro @FZ (And.intro @ER (And.intro @JZ (And.intro @FB (And.intro @zY (And.intro @Q9 (And.intro @LQ (And.intro @AZ5 (And.intro @DY (And.intro @JQ (And.intro @XT (And.intro @QA (And.intro @L8 (And.intro @DK (And.intro @I8 (And.intro @wK.{0} (And.intro @WE (And.intro @List.getElem?_cons_succ.{0} (And.intro @vX (And.intro @J8 (And.intro @AZ4 (And.intro @aC (And.intro @WB (And.intro @LD (And.intro @I5 (And.intro @KJ (And.intro @NH (And.intro @MF (And.intro @KU (And.intro @OA (And.intro @OC (And.intro @bG (And.intro @KH (And.intro @KI (And.intro @X8 (And.intro @MM (And.intro @AE8 (And.intro @eZ (And.intro @RN (And.intro @XR (And.intro @MB (And.intro @pB (And.intro @qI.{0} (And.intro @ZC (And.intro @IY (And.intro @cP (And.intro @VQ (And.intro @RJ (And.intro @vL (And.intro @NG (And.intro @AK7 (And.intro @MN (And.intro @cV (And.intro @P9 (And.intro @UN (And.intro @JD (And.intro @pC (And.intro @AQ4 (And.intro @AGT (And.intro @WS (And.intro @UO (And.intro @A24 (And.intro @ZA (And.intro @TQ (And.intro @iO (And.intro @API (And.intro @ABA (And.intro @eD (And.intro @XV (And.intro @APJ (And.intro @NT (And.intro @YS (And.intro @TB (And.intro @A21 (And.intro @WA (And.intro @OT (And.intro @mR (And.intro @WG (And.intro @Y9 (And.intro @AYZ (And.intro @iY (And.intro @OU (And.intro @WY (And.intro @AFP (And.intro @mS (And.intro @AFQ (And.intro @sA (And.intro @AGX (And.intro @ANC (And.intro @AE4 (And.intro @vK (And.intro @AIO (And.intro @AIT (And.intro @AHY (And.intro @AD2 (And.intro @eY (And.intro @AXD (And.intro @APX (And.intro @WM (And.intro @AM7 (And.intro @AFR (And.intro @ln9 (And.intro @AIN (And.intro @pA (And.intro @VN (And.intro @aX (And.intro @AQV (And.intro @VO (And.intro @APH (And.intro @ZY (And.intro @ANG (And.intro @A23 (And.intro @dH (And.intro @vR (@jJ.{0,0})))))))))))))))))))))))))))))))))))))))))))))))))))))))))))))))))))))))))))))))))))))))))))))))))))))))))))))))))))))))))))))))))))))))))))))))))))))))))))))))))))))))))))))))))))))))))))))))))))))))
theorem acN {args:List AV}{R:AV->Hp->Prop}(hf:E.P.funcs[f]?=some fn)(hb:fn.body=some c)(hw:awp E Hint.none c (N7 args) h (LU E.P fn.results.toList R))(h0:E.P.follows .mixedOrders=true:=by kernel_rfl)(h1:(fn.name == "runtime.NumGoroutine")=false:=by kernel_rfl)(h2:Q5 fn.ntmps c=true:=by kernel_rfl)(h3:Nat.ble args.length fn.ntmps=true:=by kernel_rfl):ACalls E f args h R:=H6 h0 hf hb h1 h2 (Nat.le_of_ble_eq_true h3) hw
theorem acT {args:List AV}{R:AV->Hp->Prop}(hf:E.P.funcs[f]?=some fn)(r:Nat)(hw:awp E Hint.none c (N7 args) h (LU E.P [.tmp r] R))(hb:fn.body=some c:=by rfl)(hr:fn.results.toList=[.tmp r]:=by rfl)(h0:E.P.follows .mixedOrders=true:=by kernel_rfl)(h1:(fn.name == "runtime.NumGoroutine")=false:=by kernel_rfl)(h2:Q5 fn.ntmps c=true:=by kernel_rfl)(h3:Nat.ble args.length fn.ntmps=true:=by kernel_rfl):ACalls E f args h R:=acN hf hb (by rw[hr]; exact hw) h0 h1 h2 h3
theorem acL {args:List AV}{R:AV->Hp->Prop}(hf:E.P.funcs[f]?=some fn)(r:List ResultVar)(hw:awp E Hint.none c (N7 args) h (LU E.P r R))(hb:fn.body=some c:=by rfl)(hr:fn.results.toList=r:=by rfl)(h0:E.P.follows .mixedOrders=true:=by kernel_rfl)(h1:(fn.name == "runtime.NumGoroutine")=false:=by kernel_rfl)(h2:Q5 fn.ntmps c=true:=by kernel_rfl)(h3:Nat.ble args.length fn.ntmps=true:=by kernel_rfl):ACalls E f args h R:=acN hf hb (by rw[hr]; exact hw) h0 h1 h2 h3
end Go.Proofs.YtiihpnicbekebaaGreatDoor.Sm
namespace Go.Proofs.YtiihpnicbekebaaGreatDoor
open Sm
variable {a b c d p q:Prop}
theorem DF (i:Nat)(h:i<9223372036854775807:=by omega):Go.IntKind.i64.wrap ((i:Int)+1)=((i+1:Nat):Int):=Sm.wrap_succ h
theorem AO (hp:p)(h:p->q:=by intro z; simp -implicitDefEqProofs only[Sm.Mr_L,CV,EJ,List.contains_nil,GG,List.contains_cons,List.cons_append,Option.map_some,Option.map_none,Bool.or_true,Bool.true_or,↓reduceIte,Nat.reduceEqDiff,Nat.reduceBEq,Nat.reduceAdd]; exact z):q:=h hp
theorem AQ (h:q:=by simp -implicitDefEqProofs only[Sm.Mr_L,CV,EJ,List.contains_nil,GG,List.contains_cons,List.cons_append,Option.map_some,Option.map_none,Bool.or_true,Bool.true_or,↓reduceIte,Nat.reduceEqDiff,Nat.reduceBEq,Nat.reduceAdd]<;>rfl):q:=h
theorem BC (y:a)(hp:p)(h:a->p->q:=by intro y z; simp -implicitDefEqProofs only[Sm.Mr_L,CV,EJ,List.contains_nil,GG,List.contains_cons,List.cons_append,Option.map_some,Option.map_none,Bool.or_true,Bool.true_or,↓reduceIte,Nat.reduceEqDiff,Nat.reduceBEq,Nat.reduceAdd,y]; exact z):q:=h y hp
theorem EM (y:a)(h:a->q:=by intro y; simp -implicitDefEqProofs only[Sm.Mr_L,CV,EJ,List.contains_nil,GG,List.contains_cons,List.cons_append,Option.map_some,Option.map_none,Bool.or_true,Bool.true_or,↓reduceIte,Nat.reduceEqDiff,Nat.reduceBEq,Nat.reduceAdd,y]<;>rfl):q:=h y
theorem BB (y:a)(x:b)(hp:p)(h:a->b->p->q:=by intro y x z; simp -implicitDefEqProofs only[Sm.Mr_L,CV,EJ,List.contains_nil,GG,List.contains_cons,List.cons_append,Option.map_some,Option.map_none,Bool.or_true,Bool.true_or,↓reduceIte,Nat.reduceEqDiff,Nat.reduceBEq,Nat.reduceAdd,y,x]; exact z):q:=h y x hp
theorem DT (y:a)(x:b)(w:c)(hp:p)(h:a->b->c->p->q:=by intro y x w z; simp -implicitDefEqProofs only[Sm.Mr_L,CV,EJ,List.contains_nil,GG,List.contains_cons,List.cons_append,Option.map_some,Option.map_none,Bool.or_true,Bool.true_or,↓reduceIte,Nat.reduceEqDiff,Nat.reduceBEq,Nat.reduceAdd,y,x,w]; exact z):q:=h y x w hp
theorem E8 (y:a)(x:b)(w:c)(v:d)(hp:p)(h:a->b->c->d->p->q:=by intro y x w v z; simp -implicitDefEqProofs only[Sm.Mr_L,CV,EJ,List.contains_nil,GG,List.contains_cons,List.cons_append,Option.map_some,Option.map_none,Bool.or_true,Bool.true_or,↓reduceIte,Nat.reduceEqDiff,Nat.reduceBEq,Nat.reduceAdd,y,x,w,v]; exact z):q:=h y x w v hp
theorem I7 {e:Prop}(y:a)(x:b)(w:c)(v:d)(u:e)(hp:p)(h:a->b->c->d->e->p->q:=by intro y x w v u z; simp -implicitDefEqProofs only[Sm.Mr_L,CV,EJ,List.contains_nil,GG,List.contains_cons,List.cons_append,Option.map_some,Option.map_none,Bool.or_true,Bool.true_or,↓reduceIte,Nat.reduceEqDiff,Nat.reduceBEq,Nat.reduceAdd,y,x,w,v,u]; exact z):q:=h y x w v u hp
theorem MV {e f:Prop}(y:a)(x:b)(w:c)(v:d)(u:e)(t:f)(hp:p)(h:a->b->c->d->e->f->p->q:=by intro y x w v u t z; simp -implicitDefEqProofs only[Sm.Mr_L,CV,EJ,List.contains_nil,GG,List.contains_cons,List.cons_append,Option.map_some,Option.map_none,Bool.or_true,Bool.true_or,↓reduceIte,Nat.reduceEqDiff,Nat.reduceBEq,Nat.reduceAdd,y,x,w,v,u,t]; exact z):q:=h y x w v u t hp
theorem Sm.ext.r1 (h:Hp)(x:ABlk):Sm.ext h (h++[x]):=(ext.rfl' h).app _
theorem Sm.PCall.uu {E:Env}{f:FuncId}{args:List AV}{h:Hp}{r:AV}{K:AV->Hp->Prop}(hc:PCall E f args h r)(hp:p)(hk:p->K r h:=by intro z; simp -implicitDefEqProofs only[Sm.Mr_L,CV,EJ,List.contains_nil,GG,List.contains_cons,List.cons_append,Option.map_some,Option.map_none,Bool.or_true,Bool.true_or,↓reduceIte,Nat.reduceEqDiff,Nat.reduceBEq,Nat.reduceAdd]; exact z):ACalls E f args h K:=hc.use (hk hp)
end Go.Proofs.YtiihpnicbekebaaGreatDoor
namespace Go.Proofs.YtiihpnicbekebaaGreatDoor
open Sm
variable {a a1 b b1 c c1 d e f p q:Prop}
theorem YP (hp:p)(h:p->q:=by intro z; simp -implicitDefEqProofs only[Sm.Mr_L,CV,EJ,List.contains_nil,GG,List.contains_cons,List.cons_append,Option.map_some,Option.map_none,Bool.or_true,Bool.true_or,CQ,CG,EE,ag3,ag9,O4,QI,WH,MO,List.length_nil,↓reduceIte,Nat.reduceEqDiff,Nat.reduceBEq,Nat.reduceAdd,Int.reduceBEq]; exact z):q:=h hp
theorem TM (y:a)(hp:p)(h:a->p->q:=by intro y z; simp -implicitDefEqProofs only[Sm.Mr_L,CV,EJ,List.contains_nil,GG,List.contains_cons,List.cons_append,Option.map_some,Option.map_none,Bool.or_true,Bool.true_or,CQ,CG,EE,ag3,ag9,O4,QI,WH,MO,List.length_nil,↓reduceIte,Nat.reduceEqDiff,Nat.reduceBEq,Nat.reduceAdd,Int.reduceBEq,y]; exact z):q:=h y hp
theorem MH (y:a)(x:b)(hp:p)(h:a->b->p->q:=by intro y x z; simp -implicitDefEqProofs only[Sm.Mr_L,CV,EJ,List.contains_nil,GG,List.contains_cons,List.cons_append,Option.map_some,Option.map_none,Bool.or_true,Bool.true_or,CQ,CG,EE,ag3,ag9,O4,QI,WH,MO,List.length_nil,↓reduceIte,Nat.reduceEqDiff,Nat.reduceBEq,Nat.reduceAdd,Int.reduceBEq,y,x]; exact z):q:=h y x hp
theorem KF (y:a)(x:b)(w:c)(hp:p)(h:a->b->c->p->q:=by intro y x w z; simp -implicitDefEqProofs only[Sm.Mr_L,CV,EJ,List.contains_nil,GG,List.contains_cons,List.cons_append,Option.map_some,Option.map_none,Bool.or_true,Bool.true_or,CQ,CG,EE,ag3,ag9,O4,QI,WH,MO,List.length_nil,↓reduceIte,Nat.reduceEqDiff,Nat.reduceBEq,Nat.reduceAdd,Int.reduceBEq,y,x,w]; exact z):q:=h y x w hp
theorem P8 (y:a)(x:b)(w:c)(v:d)(hp:p)(h:a->b->c->d->p->q:=by intro y x w v z; simp -implicitDefEqProofs only[Sm.Mr_L,CV,EJ,List.contains_nil,GG,List.contains_cons,List.cons_append,Option.map_some,Option.map_none,Bool.or_true,Bool.true_or,CQ,CG,EE,ag3,ag9,O4,QI,WH,MO,List.length_nil,↓reduceIte,Nat.reduceEqDiff,Nat.reduceBEq,Nat.reduceAdd,Int.reduceBEq,y,x,w,v]; exact z):q:=h y x w v hp
theorem tJ (y:a)(x:b)(w:c)(v:d)(u:e)(hp:p)(h:a->b->c->d->e->p->q:=by intro y x w v u z; simp -implicitDefEqProofs only[Sm.Mr_L,CV,EJ,List.contains_nil,GG,List.contains_cons,List.cons_append,Option.map_some,Option.map_none,Bool.or_true,Bool.true_or,CQ,CG,EE,ag3,ag9,O4,QI,WH,MO,List.length_nil,↓reduceIte,Nat.reduceEqDiff,Nat.reduceBEq,Nat.reduceAdd,Int.reduceBEq,y,x,w,v,u]; exact z):q:=h y x w v u hp
theorem AD1 (y:a)(x:b)(w:c)(v:d)(u:e)(t:f)(hp:p)(h:a->b->c->d->e->f->p->q:=by intro y x w v u t z; simp -implicitDefEqProofs only[Sm.Mr_L,CV,EJ,List.contains_nil,GG,List.contains_cons,List.cons_append,Option.map_some,Option.map_none,Bool.or_true,Bool.true_or,CQ,CG,EE,ag3,ag9,O4,QI,WH,MO,List.length_nil,↓reduceIte,Nat.reduceEqDiff,Nat.reduceBEq,Nat.reduceAdd,Int.reduceBEq,y,x,w,v,u,t]; exact z):q:=h y x w v u t hp
theorem P7 (y:a)(x:b)(w:c)(v:d)(u:e)(t:f)(s:a1)(hp:p)(h:a->b->c->d->e->f->a1->p->q:=by intro y x w v u t s z; simp -implicitDefEqProofs only[Sm.Mr_L,CV,EJ,List.contains_nil,GG,List.contains_cons,List.cons_append,Option.map_some,Option.map_none,Bool.or_true,Bool.true_or,CQ,CG,EE,ag3,ag9,O4,QI,WH,MO,List.length_nil,↓reduceIte,Nat.reduceEqDiff,Nat.reduceBEq,Nat.reduceAdd,Int.reduceBEq,y,x,w,v,u,t,s]; exact z):q:=h y x w v u t s hp
theorem PG (y:a)(x:b)(w:c)(v:d)(u:e)(t:f)(s:a1)(r:b1)(hp:p)(h:a->b->c->d->e->f->a1->b1->p->q:=by intro y x w v u t s r z; simp -implicitDefEqProofs only[Sm.Mr_L,CV,EJ,List.contains_nil,GG,List.contains_cons,List.cons_append,Option.map_some,Option.map_none,Bool.or_true,Bool.true_or,CQ,CG,EE,ag3,ag9,O4,QI,WH,MO,List.length_nil,↓reduceIte,Nat.reduceEqDiff,Nat.reduceBEq,Nat.reduceAdd,Int.reduceBEq,y,x,w,v,u,t,s,r]; exact z):q:=h y x w v u t s r hp
theorem aB (y:a)(x:b)(w:c)(v:d)(u:e)(t:f)(s:a1)(r:b1)(o:c1)(hp:p)(h:a->b->c->d->e->f->a1->b1->c1->p->q:=by intro y x w v u t s r o z; simp -implicitDefEqProofs only[Sm.Mr_L,CV,EJ,List.contains_nil,GG,List.contains_cons,List.cons_append,Option.map_some,Option.map_none,Bool.or_true,Bool.true_or,CQ,CG,EE,ag3,ag9,O4,QI,WH,MO,List.length_nil,↓reduceIte,Nat.reduceEqDiff,Nat.reduceBEq,Nat.reduceAdd,Int.reduceBEq,y,x,w,v,u,t,s,r,o]; exact z):q:=h y x w v u t s r o hp
theorem YN {d1:Prop}(y:a)(x:b)(w:c)(v:d)(u:e)(t:f)(s:a1)(r:b1)(o:c1)(n:d1)(hp:p)(h:a->b->c->d->e->f->a1->b1->c1->d1->p->q:=by intro y x w v u t s r o n z; simp -implicitDefEqProofs only[Sm.Mr_L,CV,EJ,List.contains_nil,GG,List.contains_cons,List.cons_append,Option.map_some,Option.map_none,Bool.or_true,Bool.true_or,CQ,CG,EE,ag3,ag9,O4,QI,WH,MO,List.length_nil,↓reduceIte,Nat.reduceEqDiff,Nat.reduceBEq,Nat.reduceAdd,Int.reduceBEq,y,x,w,v,u,t,s,r,o,n]; exact z):q:=h y x w v u t s r o n hp
theorem bS {d1 e1:Prop}(y:a)(x:b)(w:c)(v:d)(u:e)(t:f)(s:a1)(r:b1)(o:c1)(n:d1)(m:e1)(hp:p)(h:a->b->c->d->e->f->a1->b1->c1->d1->e1->p->q:=by intro y x w v u t s r o n m z; simp -implicitDefEqProofs only[Sm.Mr_L,CV,EJ,List.contains_nil,GG,List.contains_cons,List.cons_append,Option.map_some,Option.map_none,Bool.or_true,Bool.true_or,CQ,CG,EE,ag3,ag9,O4,QI,WH,MO,List.length_nil,↓reduceIte,Nat.reduceEqDiff,Nat.reduceBEq,Nat.reduceAdd,Int.reduceBEq,y,x,w,v,u,t,s,r,o,n,m]; exact z):q:=h y x w v u t s r o n m hp
theorem FI (h:q:=by first|(simp -implicitDefEqProofs only[Sm.Mr_L,CV,EJ,List.contains_nil,GG,List.contains_cons,List.cons_append,Option.map_some,Option.map_none,Bool.or_true,Bool.true_or,CQ,CG,EE,ag3,ag9,O4,QI,WH,MO,List.length_nil,↓reduceIte,Nat.reduceEqDiff,Nat.reduceBEq,Nat.reduceAdd,Int.reduceBEq]; done)|(simp -implicitDefEqProofs only[Sm.Mr_L,CV,EJ,List.contains_nil,GG,List.contains_cons,List.cons_append,Option.map_some,Option.map_none,Bool.or_true,Bool.true_or,CQ,CG,EE,ag3,ag9,O4,QI,WH,MO,List.length_nil,↓reduceIte,Nat.reduceEqDiff,Nat.reduceBEq,Nat.reduceAdd,Int.reduceBEq]; rfl)):q:=h
theorem Q8 (y:a)(h:a->q:=by intro y; first|(simp -implicitDefEqProofs only[Sm.Mr_L,CV,EJ,List.contains_nil,GG,List.contains_cons,List.cons_append,Option.map_some,Option.map_none,Bool.or_true,Bool.true_or,CQ,CG,EE,ag3,ag9,O4,QI,WH,MO,List.length_nil,↓reduceIte,Nat.reduceEqDiff,Nat.reduceBEq,Nat.reduceAdd,Int.reduceBEq,y]; done)|(simp -implicitDefEqProofs only[Sm.Mr_L,CV,EJ,List.contains_nil,GG,List.contains_cons,List.cons_append,Option.map_some,Option.map_none,Bool.or_true,Bool.true_or,CQ,CG,EE,ag3,ag9,O4,QI,WH,MO,List.length_nil,↓reduceIte,Nat.reduceEqDiff,Nat.reduceBEq,Nat.reduceAdd,Int.reduceBEq,y]; rfl)):q:=h y
theorem D8 {E:Env}{H:Hint}{x y:Code}{F:Fr}{h:Hp}{Q:AEx->Fr->Hp->Prop}{a b:Nat}(h1:a<b->awp E H x F h Q)(h2:¬a<b->awp E H y F h Q):gY E H x y F h Q (.bool (decide (((a:Nat):Int)<((b:Nat):Int)))):=CE (fun h=>h1 (by simpa using h)) (fun h=>h2 (by simpa using h))
end Go.Proofs.YtiihpnicbekebaaGreatDoor
namespace Go.Proofs.YtiihpnicbekebaaGreatDoor.Bins
open Sm
structure Rng where
 lo:Int
 hi:Int
 deriving DecidableEq
def encR (r:Rng):List AV:=[.n r.lo,.n r.hi]
theorem dL (r:Rng):(encR r).length=2:=rfl
theorem TC (r:Rng):(encR r)[0]?=some (.n r.lo):=rfl
theorem Q3 (r:Rng):(encR r)[1]?=some (.n r.hi):=rfl
def inside (xs:List Rng)(v:Int):Bool:=xs.any fun r=>decide (r.lo<=v)&&decide (v<=r.hi)
theorem MG {α:Type}(p:α->Bool)(xs:List α)(k:Nat)(h:k<xs.length):(xs.drop k).any p=(p xs[k]||(xs.drop (k+1)).any p):=by
 rw[List.drop_eq_getElem_cons h,List.any_cons]
theorem bxR (h:Hp)(r:Rng):MI h (.agg (encR r))=some (.ptr h.length 0 0,h++[zZ 2 [encR r]]):=rfl
end Go.Proofs.YtiihpnicbekebaaGreatDoor.Bins
namespace Go.Proofs.YtiihpnicbekebaaGreatDoor.Bins
open Sm
variable {xs:List Rng} {s:ByteArray} (G:Nat->AV )
def bad (r:Rng):Bool:=decide (r.lo<0)||decide (r.lo>r.hi)||decide (r.hi>65535)
def JE (xs:List Rng):Int:=if xs.length>64 then 2 else if xs.any bad then 1 else 0
theorem gJ (h:xs.length>64):JE xs=2:=by simp [JE,h]
theorem XH (h:¬xs.length>64)(hb:xs.any bad=true):JE xs=1:=by simp [JE,h,hb]
theorem aK (h:¬xs.length>64)(hb:xs.any bad=false):JE xs=0:=by simp [JE,h,hb]
theorem AGJ (h:Hp):GM jA h 145=some (.ptr h.length 0 0,h++[zZ 2 [[.n 0,.n 0]]]):=FV (row:=[.n 0,.n 0]) A8
theorem AEA (h:Hp)(r:Rng)(row:List AV)(hr:row.length=2):DW jA (h++[zZ 2 [row]]) 145 (.ptr h.length 0 0) (.agg (encR r))=some (h++[zZ 2 [encR r]]):=by
 rw[SI (cs:=encR r) rfl J4 (by simp [hr,encR])];simp [splice,hr,encR]
theorem AAF (xs:List Rng)(m:SM)(h:Hp)(hl:xs.length<=1099511627776):
  PCall (En G) 242 [.sl m 2 (xs.map encR)] h (.n (JE xs)):=by
 refine ACalls.pure0 rfl ?_;refine acT Tryz.func242 2 ?_;refine AO ?_;refine CE ?_ ?_<;>intro hc
 .refine AO ?_
  exact⟨by rw[gJ (by simp at hc; omega)],[],BA⟩
 refine AO ?_;have h64:¬xs.length>64:=by simp at hc; omega
 refine BI (fun n F H=>∃k,n+k=xs.length∧F 8=.sl m 2 (xs.map encR)∧F 9=.n xs.length∧F 10=.n (k:Nat)∧(∃x,H=h++x)∧xs.any bad=(xs.drop k).any bad) xs.length ⟨0,BA,rfl,rfl,rfl,⟨[],BA⟩,rfl⟩ ?_;rintro n F H ⟨k,hk,f8,f9,f10,⟨x,rfl⟩,hin⟩;refine DT f8 f9 f10 ?_;refine D8 ?_ ?_<;>intro hc'
 .have hs:=MG bad xs k hc'
  simp -implicitDefEqProofs only[vQ,EJ,CV,↓reduceIte,jB,enP,TQ,OU,Option.getD_none,f8,f9,f10,CQ hc',DR YL J4 dL hc',AGJ,AEA _ _ [.n 0,.n 0] rfl,EE ag3,TC,Q3];rw[hs] at hin;have fin:bad xs[k]=true->JE xs=1:=fun hb=>XH h64 (by rw[hin,hb]; rfl)
  have nxt:bad xs[k]=false->xs.any bad=(xs.drop (k+1)).any bad:=fun hb=>by rw[hin,hb]; rfl
  refine IG ?_ ?_<;>intro ha
  .refine BC ha ?_
   exact⟨by rw[fin (by unfold bad; rw[ha]; rfl)],_,by rw[zG]⟩
  refine KF ha @TC @Q3 ?_;refine IG ?_ ?_<;>intro hb
  .refine BC hb ?_
   exact⟨by rw[fin (by unfold bad; rw[hb]; simp)],_,by rw[zG]⟩
  refine KF hb @TC @Q3 ?_;refine CE ?_ ?_<;>intro hc
  .refine AO ?_
   exact⟨by rw[fin (by unfold bad; rw[hc]; simp)],_,by rw[zG]⟩
  .refine BB f10 (DF k) ?_
   exact⟨n-1,U,k+1,U,f8,f9,rfl,⟨_,by rw[zG]⟩,nxt (by unfold bad; rw[ha,hb,hc]; rfl)⟩
 .refine AO ?_
  rw[jX U] at hin;exact⟨by rw[aK h64 hin],_,rfl⟩
theorem AEQ (xs:List Rng)(m:SM)(h:Hp):
  PCall (En G) 267 [.sl m 2 (xs.map encR)] h (.n (JE xs)):=by
 refine acT Tryz.func267 2 ?_;refine AO ?_;refine CE ?_ ?_<;>intro hc
 .refine AO ?_
  exact⟨by rw[gJ (by simp at hc; omega)],trivial⟩
 refine AO ?_;have h64:¬xs.length>64:=by simp at hc; omega
 refine BI (fun n F H=>∃k,n+k=xs.length∧F 0=.sl m 2 (xs.map encR)∧F 3=.n (k:Nat)∧H=h∧xs.any bad=(xs.drop k).any bad) xs.length ⟨0,BA,rfl,rfl,rfl,rfl⟩ ?_;rintro n F H ⟨k,hk,f0,f3,rfl,hin⟩;refine BB f0 f3 ?_;refine D8 ?_ ?_<;>intro hc'
 .rw[MG bad xs k hc'] at hin
  have fin:bad xs[k]=true->JE xs=1:=fun hb=>XH h64 (by rw[hin,hb]; rfl)
  have nxt:bad xs[k]=false->xs.any bad=(xs.drop (k+1)).any bad:=fun hb=>by rw[hin,hb]; rfl
  refine AO ?_;refine DV A8 ?_;simp -implicitDefEqProofs only[vQ,I5,KJ,EJ,↓reduceIte,jB,jL,enP,TQ,OU,f0,f3,CQ hc',CG ag3 hc',TC,Q3];refine oH ?_ ?_<;>intro ha
  .refine BC ha ?_
   exact⟨by rw[fin (by unfold bad; rw[ha]; rfl)],trivial⟩
  simp -implicitDefEqProofs only[vQ,I5,KJ,WS,OC,EJ,↓reduceIte,jB,jL,enP,TQ,OU,OT,ha,f0,f3,CQ hc',CG ag3 hc',TC,Q3];refine oH ?_ ?_<;>intro hb
  .refine BC hb ?_
   exact⟨by rw[fin (by unfold bad; rw[hb]; simp)],trivial⟩
  simp -implicitDefEqProofs only[vQ,I5,KJ,WS,OC,EJ,↓reduceIte,jB,jL,enP,TQ,OT,hb,f0,f3,CQ hc',CG ag3 hc',TC,Q3];refine CE ?_ ?_<;>intro hc
  .refine AO ?_
   exact⟨by rw[fin (by unfold bad; rw[hc]; simp)],trivial⟩
  .refine BB f3 (DF k) ?_
   exact⟨n-1,U,k+1,U,f0,rfl,trivial,nxt (by unfold bad; rw[ha,hb,hc]; rfl)⟩
 .refine AO ?_
  rw[jX U] at hin;exact⟨by rw[aK h64 hin],trivial⟩
structure Rs where
 m:SM
 l:List Rng
def AQ7 (r:Rs):AV:=.sl r.m 2 (r.l.map encR)
def encS (r:Rs):List AV:=[AQ7 r]
structure Bin where
 name:ByteArray
 kind:Int
 ranges:Rs
 sm:SM
 steps:List Rs
def IP (b:Bin):List AV:=[.str b.name,.n b.kind,AQ7 b.ranges,.sl b.sm 1 (b.steps.map encS)]
theorem AI6 (b:Bin):(IP b)[0]?=some (.str b.name):=rfl
theorem TE (b:Bin):(IP b)[1]?=some (.n b.kind):=rfl
theorem aA (b:Bin):(IP b)[2]?=some (.sl b.ranges.m 2 (b.ranges.l.map encR)):=rfl
theorem VC (b:Bin):(IP b)[3]?=some (.sl b.sm 1 (b.steps.map encS)):=rfl
theorem LJ (b:Bin):(IP b).length=4:=rfl
theorem gU (r:Rs):(encS r)[0]?=some (.sl r.m 2 (r.l.map encR)):=rfl
theorem bxB (h:Hp)(b:Bin):MI h (.agg (IP b))=some (.ptr h.length 0 0,h++[zZ 4 [IP b]]):=rfl
theorem ldB (h:Hp)(b:Bin):BU jA (h++[zZ 4 [IP b]]) 87 (.ptr h.length 0 0)=some (.agg (IP b)):=Y4 nY cB (by simp [IP])
def ZQ (b:Bin):SM:=if b.ranges.l.length>0 then .full else b.sm
def sets (b:Bin):List Rs:=if b.ranges.l.length>0 then [b.ranges] else b.steps
theorem A4P (h:Hp)(r:Rs):C9 jA false h 85 1 [(0,.sl r.m 2 (r.l.map encR))]=some (.sl .full 1 ([r].map encS),h):=by
 have:(cH 1 0 [(0,AV.sl r.m 2 (r.l.map encR))])=some [[.sl r.m 2 (r.l.map encR)]]:=rfl;simp only[C9,Tryz.underlying85,A14,this];have hz:RD jA 84=some 1:=A8;simp [hz,AV.frozen,encS,AQ7]
theorem AKB (b:Bin)(h:Hp):PCall (En G) 241 [.agg (IP b)] h (.sl (ZQ b) 1 ((sets b).map encS)):=by
 refine ACalls.pure0 rfl ?_;refine acT Tryz.func241 2 ?_;refine MH @bxB @aA ?_;refine CE ?_ ?_<;>intro hc
 .have hc':b.ranges.l.length>0:=BN hc
  refine MH @aA A4P ?_;exact⟨by rw[ZQ,sets,if_pos hc',if_pos hc']; rfl,_,rfl⟩
 .have hc':¬b.ranges.l.length>0:=BN hc
  refine TM @VC ?_;exact⟨by rw[ZQ,sets,if_neg hc',if_neg hc'],_,rfl⟩
theorem AOI (b:Bin)(h:Hp):PCall (En G) 266 [.agg (IP b)] h (.sl (ZQ b) 1 ((sets b).map encS)):=by
 refine ACalls.pure0 rfl ?_;refine acT Tryz.func266 2 ?_;refine MH @bxB @aA ?_;refine CE ?_ ?_<;>intro hc
 .have hc':b.ranges.l.length>0:=BN hc
  refine MH @aA A4P ?_;exact⟨by rw[ZQ,sets,if_pos hc',if_pos hc']; rfl,_,rfl⟩
 .have hc':¬b.ranges.l.length>0:=BN hc
  refine TM @VC ?_;exact⟨by rw[ZQ,sets,if_neg hc',if_neg hc'],_,rfl⟩
theorem A2W (m:SM)(k:Nat)(xs:List (List AV)):JM jA 84 .eql (.sl m k xs) (.sl .nil 0 [])=some (.bool (decide (m=.nil))):=by cases m<;>kernel_rfl
def A05 (k:Nat)(xs:List (List AV))(h:Hp)(v:AV)(h':Hp):Prop :=
 (xs=[]∧(∃k0,v=.sl .nil k0 [])∧h'=h)∨(xs=[]∧v=.sl .full k []∧h'=h)∨(xs≠[]∧v=.own h.length 0 xs.length∧h'=h++[zZ k xs])
theorem AR1 (h:Hp):C9 jA false h 84 0 []=some (.sl .full 2 [],h):=A8
theorem AR0 (h:Hp):C9 jA false h 32 0 []=some (.sl .full 1 [],h):=A8
theorem cok (f:FuncId)(G:Nat->AV)(hf:(match Tryz.prog.funcs[f]? with|some fn=>fn.body.isSome && !(fn.name == "runtime.NumGoroutine")|none=>false)=true):fY (En G).P f:=by
 have he:(En G).P=jA:=rfl;unfold fY;rw[he]
 cases hx:Tryz.prog.funcs[f]? with
 | none=>rw[hx] at hf; cases hf
 | some fn =>
   rw[hx] at hf;simp at hf;exact⟨fn,rfl,by simpa using hf.1,by simpa using hf.2⟩
def qencI (n:Int):List AV:=[.n n]
theorem ARB (r:Rs)(h:Hp):PCall (En G) 291 [.sl r.m 2 (r.l.map encR)] h (.bool (decide (r.l.length=0))):=by
 refine acT Tryz.func291 2 ?_;refine AO ?_;refine⟨?_,trivial⟩;congr 1;rw[wO]; simp
theorem ABU (G:Nat->AV)(xs:List Rs)(m:SM)(fid:FuncId)(caps:List AV)(p:Rs->Bool)(h:Hp)(hl:xs.length<=1099511627776)
  (hf:∀r,PCall (En G) fid (.sl r.m 2 (r.l.map encR)::caps) h (.bool (p r))) :
  PCall (En G) 325 [.sl m 1 (xs.map encS),.fn (.func fid) [] caps] h (.n (match xs.findIdx? p with|some i=>(i:Int)|none => -1)):=by
 refine acT Tryz.func325 4 ?_;refine AO ?_;refine BI (fun n F H=>∃k,n+k=xs.length∧F 0=.sl m 1 (xs.map encS)∧F 1=.fn (.func fid) [] caps∧F 7=.n xs.length∧F 8=.n (k:Nat)∧H=h∧(xs.take k).all (fun r => !p r)=true) xs.length ⟨0,BA,rfl,rfl,rfl,rfl,rfl,rfl⟩ ?_;rintro n F H ⟨k,hk,f0,f1,f7,f8,rfl,hin⟩;refine E8 f0 f1 f7 f8 ?_;refine D8 ?_ ?_<;>intro hc'
 .simp -implicitDefEqProofs only[vQ,CV,List.nil_append,List.cons_append,↓reduceIte,jB,enP,pA,f0,f1,f7,f8,CQ hc',CG QI hc',gU]
  refine(hf _).uu ?_;refine CE ?_ ?_<;>intro hb
  .refine AO ?_
   refine⟨?_,trivial⟩
   rw[wP.2 ⟨hc',hb,fun j hj=>by
    rw[zH] at hin;have:=hin xs[j] (by rw[List.mem_take_iff_getElem]; exact⟨j,U,rfl⟩)
    simpa using this⟩]
  .refine BB f8 (DF k) ?_
   refine⟨n-1,U,k+1,U,f0,f1,f7,rfl,trivial,?_⟩;rw[jY hc',List.all_append,hin];simp only[wQ,List.all_nil,hb]; rfl
 .refine AO ?_
  refine⟨?_,trivial⟩;rw[jI U] at hin;rw[wR.2 (BN hin)]
theorem nK (G:Nat->AV)(xs:List Rs)(m:SM)(fid:FuncId)(caps:List AV)(p:Rs->Bool)(h:Hp)(hl:xs.length<=1099511627776)
  (hf:∀r,PCall (En G) fid (.sl r.m 2 (r.l.map encR)::caps) h (.bool (p r))) :
  PCall (En G) 290 [.sl m 1 (xs.map encS),.fn (.func fid) [] caps] h (.bool (xs.any p)):=by
 refine acT Tryz.func290 4 ?_;refine AO ?_;refine(ABU G xs m fid caps p h hl hf).uu ?_;refine⟨?_,trivial⟩
 cases hx:xs.findIdx? p with
 | some i =>
   obtain⟨h1,h2,_⟩:=wP.1 hx;have:xs.any p=true:=qL.2 ⟨xs[i],BA,h2⟩;simp [this]
 | none =>
   have:xs.any p=false:=by
    rw[wR] at hx;rw[qU]; intro x hx2; simp [hx x hx2]
   simp [this]
def TP (n:Int):Bool:=decide (n≥97)&&decide (n<=122)
def ACM (n:Int):Bool:=decide (n≥48)&&decide (n<=57)
def OJ (n:Int):Bool:=TP n||ACM n||(decide (n≥65)&&decide (n<=90))||n==95
theorem lQ (n:Int)(h:Hp):PCall (En G) 217 [.int .i32 n] h (.bool (TP n)):=by
 refine acT Tryz.func217 2 ?_;refine AO ?_;refine IG ?_ ?_<;>intro ha
 .refine BC ha ?_
  exact⟨by unfold TP; rw[ha]; rfl,trivial⟩
 .refine BC ha ?_
  exact⟨by unfold TP; rw[ha]; rfl,trivial⟩
theorem AFX (n:Int)(h:Hp):PCall (En G) 278 [.int .i32 n] h (.bool (ACM n)):=by
 refine acT Tryz.func278 2 ?_;refine AO ?_;refine IG ?_ ?_<;>intro ha
 .refine BC ha ?_
  exact⟨by unfold ACM; rw[ha]; rfl,trivial⟩
 .refine BC ha ?_
  exact⟨by unfold ACM; rw[ha]; rfl,trivial⟩
theorem rA (n:Int)(h:Hp):PCall (En G) 130 [.int .u8 n] h (.bool (TP n)):=by
 refine acT Tryz.func130 2 ?_;refine AO ?_;refine IG ?_ ?_<;>intro ha
 .refine BC ha ?_
  exact⟨by unfold TP; rw[ha]; rfl,trivial⟩
 .refine BC ha ?_
  exact⟨by unfold TP; rw[ha]; rfl,trivial⟩
theorem AMC (n:Int)(h:Hp):PCall (En G) 222 [.int .u8 n] h (.bool (ACM n)):=by
 refine acT Tryz.func222 2 ?_;refine AO ?_;refine IG ?_ ?_<;>intro ha
 .refine BC ha ?_
  exact⟨by unfold ACM; rw[ha]; rfl,trivial⟩
 .refine BC ha ?_
  exact⟨by unfold ACM; rw[ha]; rfl,trivial⟩
theorem dF (n:Int)(h:Hp):PCall (En G) 218 [.int .i32 n] h (.bool (OJ n)):=by
 refine acT Tryz.func218 2 ?_;refine AO ?_;refine(lQ G n h).uu ?_;refine IG ?_ ?_<;>intro ha
 .refine BC ha ?_
  exact⟨by unfold OJ; rw[ha]; rfl,trivial⟩
 refine BC ha ?_;refine(AFX G n h).uu ?_;refine IG ?_ ?_<;>intro hb
 .refine BC hb ?_
  exact⟨by unfold OJ; rw[ha,hb]; rfl,trivial⟩
 refine BC hb ?_;refine IG ?_ ?_<;>intro hc
 .refine BC hc ?_
  refine IG ?_ ?_<;>intro hd
  .refine BC hd ?_
   exact⟨by unfold OJ; rw[ha,hb,hc,hd]; rfl,trivial⟩
  .refine BC hd ?_
   exact⟨by unfold OJ; rw[ha,hb,hc,hd]; rfl,trivial⟩
 .refine BC hc ?_
  exact⟨by unfold OJ; rw[ha,hb,hc]; rfl,trivial⟩
theorem ALK (n:Int)(h:Hp):PCall (En G) 132 [.int .u8 n] h (.bool (OJ n)):=by
 refine acT Tryz.func132 2 ?_;refine AO ?_;refine(rA G n h).uu ?_;refine IG ?_ ?_<;>intro ha
 .refine BC ha ?_
  exact⟨by unfold OJ; rw[ha]; rfl,trivial⟩
 refine BC ha ?_;refine(AMC G n h).uu ?_;refine IG ?_ ?_<;>intro hb
 .refine BC hb ?_
  exact⟨by unfold OJ; rw[ha,hb]; rfl,trivial⟩
 refine BC hb ?_;refine IG ?_ ?_<;>intro hc
 .refine BC hc ?_
  refine IG ?_ ?_<;>intro hd
  .refine BC hd ?_
   exact⟨by unfold OJ; rw[ha,hb,hc,hd]; rfl,trivial⟩
  .refine BC hd ?_
   exact⟨by unfold OJ; rw[ha,hb,hc,hd]; rfl,trivial⟩
 .refine BC hc ?_
  exact⟨by unfold OJ; rw[ha,hb,hc]; rfl,trivial⟩
def qencStr (s:ByteArray):List AV:=[.str s]
theorem encStr0 (s:ByteArray):(qencStr s)[0]?=some (.str s):=rfl
def IR (xs:List ByteArray)(v:ByteArray):Bool:=xs.any fun u=>v.toList==u.toList
theorem AU6 (xs:List ByteArray)(m:SM)(v:ByteArray)(h:Hp)(hl:xs.length<=1099511627776):
  PCall (En G) 220 [.sl m 1 (xs.map qencStr),.str v] h (.bool (IR xs v)):=by
 refine acT Tryz.func220 4 ?_;refine AO ?_;refine BI (fun n F H=>∃k,n+k=xs.length∧F 0=.sl m 1 (xs.map qencStr)∧F 1=.str v∧F 5=.n (k:Nat)∧H=h∧IR xs v=IR (xs.drop k) v) xs.length ⟨0,BA,rfl,rfl,rfl,rfl,rfl⟩ ?_;rintro n F H ⟨k,hk,f0,f1,f5,rfl,hin⟩;refine DT f0 f1 f5 ?_;refine D8 ?_ ?_<;>intro hc'
 .have hs:IR (xs.drop k) v=((v.toList==xs[k].toList)||IR (xs.drop (k+1)) v):=MG _ xs k hc'
  simp -implicitDefEqProofs only[vQ,CV,NT,↓reduceIte,jB,enP,ZY,f0,f1,f5,CQ hc',CG ag9 hc',encStr0];refine CE ?_ ?_<;>intro hb
  .refine AO ?_
   refine⟨?_,trivial⟩;rw[hin,hs,show(v.toList==xs[k].toList)=true by rw[BEq.comm]; exact hb]; rfl
  .refine BB f5 (DF k) ?_
   refine⟨n-1,U,k+1,U,f0,f1,rfl,trivial,?_⟩;rw[hin,hs,show(v.toList==xs[k].toList)=false by rw[BEq.comm]; exact hb]; rfl
 .refine AO ?_
  exact⟨by rw[hin,jX U]; rfl,trivial⟩
theorem index_prog (xs:List ByteArray)(m:SM)(v:ByteArray)(h:Hp)(hl:xs.length<=1099511627776):
  ∃i:Int,(decide (i≥0)=IR xs v)∧PCall (En G) 279 [.sl m 1 (xs.map qencStr),.str v] h (.n i):=by
 refine⟨(match xs.findIdx? (fun u=>v.toList==u.toList) with|some i=>(i:Int)|none => -1),?_,?_⟩
 .cases hx:xs.findIdx? (fun u=>v.toList==u.toList) with
  | some i =>
    obtain⟨h1,h2,_⟩:=wP.1 hx;have:IR xs v=true:=qL.2 ⟨xs[i],BA,h2⟩;simp [this]
  | none =>
    have:IR xs v=false:=by
     rw[wR] at hx;unfold IR;rw[qU]; intro x hx2; simp only[hx x hx2]; simp
    simp [this]
 refine acT Tryz.func279 4 ?_;refine AO ?_;refine BI (fun n F H=>∃k,n+k=xs.length∧F 0=.sl m 1 (xs.map qencStr)∧F 1=.str v∧F 7=.n xs.length∧F 8=.n (k:Nat)∧H=h∧(xs.take k).all (fun u => !(v.toList==u.toList))=true) xs.length ⟨0,BA,rfl,rfl,rfl,rfl,rfl,rfl⟩ ?_;rintro n F H ⟨k,hk,f0,f1,f7,f8,rfl,hin⟩;refine E8 f0 f1 f7 f8 ?_;refine D8 ?_ ?_<;>intro hc'
 .simp -implicitDefEqProofs only[vQ,CV,NT,↓reduceIte,jB,enP,ZY,f0,f1,f7,f8,CQ hc',CG ag9 hc',encStr0]
  refine CE ?_ ?_<;>intro hb
  .refine AO ?_
   refine⟨?_,trivial⟩
   rw[wP.2 ⟨hc',hb,fun j hj=>by
    rw[zH] at hin;have:=hin xs[j] (by rw[List.mem_take_iff_getElem]; exact⟨j,U,rfl⟩)
    simpa using this⟩]
  .refine BB f8 (DF k) ?_
   refine⟨n-1,U,k+1,U,f0,f1,f7,rfl,trivial,?_⟩;rw[jY hc',List.all_append,hin];simp only[wQ,List.all_nil,hb]; rfl
 .refine AO ?_
  refine⟨?_,trivial⟩;rw[jI U] at hin
  rw[wR.2 (by
   intro x hx;rw[zH] at hin
   simpa using hin x hx)]
theorem pO (xs:List ByteArray)(m:SM)(v:ByteArray)(h:Hp)(hl:xs.length<=1099511627776):
  PCall (En G) 219 [.sl m 1 (xs.map qencStr),.str v] h (.bool (IR xs v)):=by
 obtain⟨i,hi,hp⟩:=index_prog G xs m v h hl;refine acT Tryz.func219 4 ?_;refine AO ?_;refine hp.uu ?_;exact⟨by rw[hi],trivial⟩
def kw:List ByteArray:=[⟨#[99,108,97,115,115]⟩,⟨#[101,120,116,101,110,100,115]⟩,⟨#[114,97,110,100]⟩,⟨#[114,97,110,100,99]⟩,⟨#[115,116,97,116,101]⟩,⟨#[99,111,110,115,116,114,97,105,110,116]⟩,⟨#[115,111,102,116]⟩,⟨#[100,105,115,116]⟩,⟨#[105,102]⟩,⟨#[101,108,115,101]⟩,⟨#[101,97,99,104]⟩,⟨#[105,110]⟩,⟨#[115,111,108,118,101]⟩,⟨#[98,101,102,111,114,101]⟩,⟨#[105,110,115,105,100,101]⟩,⟨#[112,114,111,112,101,114,116,121]⟩,⟨#[115,101,113]⟩,⟨#[97,110,100]⟩,⟨#[111,114]⟩,⟨#[110,111,116]⟩,⟨#[115,101,116]⟩,⟨#[104,111,108,100]⟩,⟨#[112,108,97,105,110]⟩,⟨#[114,101,112,101,97,116]⟩]
theorem APR:kw.length=24:=rfl
theorem uV (h:Hp):PCall (En G) 221 [] h (.sl .full 1 (kw.map qencStr)):=by
 refine acT Tryz.func221 0 ?_;refine AO ?_;refine KY (v:=.sl .full 1 (kw.map qencStr)) (h:=h) A8 ?_;refine AO ?_;exact JH
theorem pD (v:ByteArray)(h:Hp):PCall (En G) 131 [.str v] h (.bool (IR kw v)):=by
 refine acT Tryz.func131 2 ?_;refine AO ?_;refine(uV G h).uu ?_;refine(AU6 G kw .full v h (by rw[APR]; omega)).uu ?_;exact JH
def KwG (G:Nat->AV):Prop:=∃m,G 0=.fptr 1 [[.sl m 1 (kw.map qencStr)]] 0 0
theorem lX (hG:KwG G)(v:ByteArray)(h:Hp):PCall (En G) 129 [.str v] h (.bool (IR kw v)):=by
 obtain⟨m,hg⟩:=hG;refine acT Tryz.func129 2 ?_;have e:BU jA h 121 (G 0)=some (.sl m 1 (kw.map qencStr)):=by rw[hg]; exact APF eA rfl rfl
 have hl:kw.length<=1099511627776:=by rw[APR]; omega
 refine DT @AVW @enG e ?_;refine(pO G kw m v h hl).uu ?_;exact JH
def UY (s:ByteArray):Bool:=(match s.data.toList with|[]=>false|b::_=>TP b.toNat)&&s.data.toList.all fun b=>OJ b.toNat
def FD (s:ByteArray):Bool:=UY s&&decide (s.size<=16) && !IR kw s
theorem eU {n:Int}(h:OJ n=true):n<128:=by
 simp only[OJ,TP,ACM,Bool.or_eq_true,jU,decide_eq_true_eq,beq_iff_eq] at h;omega
theorem ATX (h:Hp)(s:ByteArray):fU jA h 9 (.str s)=some (.ptr h.length 0 0,h++[.iter s 0]):=by
 have:Tryz.prog.underlying 9=some .string:=A8;simp [fU,this]
theorem AUL {h:Hp}{s:ByteArray}{pos:Nat}(hp:pos<s.size):hZ (h++[.iter s pos]) (.ptr h.length 0 0) true=some (.tup [.bool true,.n pos,.int .i32 (Utf8.decode s pos).1],h++[.iter s (pos+(Utf8.decode s pos).2)]):=by
 simp [hZ,hp]
theorem APA {h:Hp}{pos:Nat}(hp:¬pos<s.size):hZ (h++[.iter s pos]) (.ptr h.length 0 0) true=some (.tup [.bool false],h++[.iter s pos]):=by
 simp [hZ,hp]
theorem VS {k:Nat}(hk:k<s.size)(hb:OJ (s[k]'hk).toNat=false):UY s=false:=by
 unfold UY
 have:(s.data.toList.all fun b=>OJ b.toNat)=false:=by
  rw[List.all_eq_false];exact⟨s[k],Array.getElem_mem_toList (xs:=s.data) hk,by simp [hb]⟩
 rw[this]; simp
theorem fZ (hk:0<s.size)(hb:TP (s[0]'hk).toNat=false):UY s=false:=by
 unfold UY
 have:(match s.data.toList with|[]=>false|b::_=>TP b.toNat)=false:=by
  cases hl:s.data.toList with
  | nil=>rfl
  | cons b l =>
    have h0:s[0]'hk=b:=by
     have:s.data.toList[0]?=some b:=by rw[hl]; rfl
     have h2:s.data[0]?=some b:=by grind
     have hk':0<s.data.size:=hk;rw[Array.getElem?_eq_getElem hk'] at h2;exact Option.some.inj h2
    simp only;rw[<-h0]; exact hb
 rw[this]; simp
theorem xU (hk:0<s.size)(hb:TP (s[0]'hk).toNat=true)(ha:∀i (hi:i<s.size),OJ (s[i]'hi).toNat=true):UY s=true:=by
 unfold UY
 have h1:(match s.data.toList with|[]=>false|b::_=>TP b.toNat)=true:=by
  cases hl:s.data.toList with
  | nil =>
    have:s.data.toList.length=0:=by rw[hl]; rfl
    have h2:s.data.size=0:=BN this;have h3:s.size=s.data.size:=rfl;omega
  | cons b l =>
    have h0:s[0]'hk=b:=by
     have:s.data.toList[0]?=some b:=by rw[hl]; rfl
     have h2:s.data[0]?=some b:=by grind
     have hk':0<s.data.size:=hk;rw[Array.getElem?_eq_getElem hk'] at h2;exact Option.some.inj h2
    simp only;rw[<-h0]; exact hb
 rw[h1,Bool.true_and,zH];intro b hbm;obtain⟨i,hi,rfl⟩:=List.getElem_of_mem hbm;have hi':i<s.size:=BN hi;exact ha i hi'
theorem AJY (s:ByteArray)(h:Hp)(hl:s.size<=1099511627776):PCall (En G) 128 [.str s] h (.bool (UY s)):=by
 refine ACalls.pure0 rfl ?_;refine acT Tryz.func128 2 ?_;refine BB @ATE @ATX ?_;refine BI (fun n F H=>∃k,n+k=s.size∧F 0=.str s∧F 6=.ptr h.length 0 0∧H=h++[.iter s k]∧(∀i (hi:i<s.size),i<k->OJ (s[i]'hi).toNat=true)∧(∀hp:0<s.size,0<k->TP (s[0]'hp).toNat=true)) s.size ⟨0,BA,rfl,AQ,rfl,fun _ _ h=>absurd h U,fun _ h=>absurd h U⟩ ?_;rintro n F H ⟨k,hk,f0,f6,rfl,hall,h0⟩;rcases Classical.em (k<s.size) with hp|hp
 .have go:∀(r:Nat×Nat),Utf8.decode s k=r->(OJ r.1=true->r=((s[k]'hp).toNat,1)∧OJ (s[k]'hp).toNat=true)∧(OJ r.1=false->UY s=false)∧(TP r.1=false->k=0->UY s=false)∧(TP r.1=true->OJ r.1=true):=by
   rintro r rfl;have lf:∀n,TP n=true->OJ n=true:=fun n hn=>by unfold OJ; rw[hn]; rfl
   rcases zF (s[k]'hp).toNat 128 with ha|ha
   .have hd:=decode_ascii s k hp ha
    rw[hd];exact⟨fun hf=>⟨rfl,hf⟩,fun hf=>VS hp hf,fun hf h0=>by subst h0; exact fZ hp hf,lf _⟩
   .have hd:=(decode_high s k hp ha).1
    refine⟨fun hf=>?_,fun _=>?_,fun _ h0=>?_,lf _⟩
    .have:=eU hf; omega
    .refine VS hp ?_
     cases hf:OJ (s[k]'hp).toNat with
     | false=>rfl
     | true=>have:=eU hf; omega
    .refine VS hp ?_
     cases hf:OJ (s[k]'hp).toNat with
     | false=>rfl
     | true=>have:=eU hf; omega
  refine tJ @ANB f0 f6 @AUL hp ?_;generalize hr:Utf8.decode s k=r at go;obtain⟨g1,g2,g3,g4⟩:=go r rfl
  have done:∀H',OJ r.1=true->(k=0->TP r.1=true)->H'=h++[ABlk.iter s (k+r.2)]->∃m,m<n∧∃k',m+k'=s.size∧H'=h++[.iter s k']∧(∀i (hi:i<s.size),i<k'->OJ (s[i]'hi).toNat=true)∧(∀hp:0<s.size,0<k'->TP (s[0]'hp).toNat=true):=by
   intro H' hf hlw hH;obtain⟨e1,e2⟩:=g1 hf;refine⟨n-1,U,k+1,U,by rw[hH,e1],fun i hi hik=>?_,fun hp0 _=>?_⟩
   .grind
   .grind
  refine IG ?_ ?_<;>intro ha
  .have hk0:k=0:=by simp at ha; omega
   refine BC ha ?_;refine(lQ G _ _).uu ?_;refine IG ?_ ?_<;>intro hb
   .refine BC hb ?_
    have hlw:TP r.1=false:=BN hb;exact⟨by rw[g3 hlw hk0],_,rfl⟩
   have hlw:TP r.1=true:=BN hb;refine BC hb ?_;refine(dF G _ _).uu ?_;have hf:=g4 hlw;refine BC hf ?_;obtain⟨m,h1,k',h2,h3,h4,h5⟩:=done _ hf (fun _=>hlw) rfl;exact⟨m,h1,k',h2,f0,f6,h3,h4,h5⟩
  .have hk0:k≠0:=by intro e; subst e; simp at ha
   refine BC ha ?_;refine(dF G _ _).uu ?_;refine CE ?_ ?_<;>intro hb
   .have hf:OJ r.1=false:=BN hb
    refine AO ?_;exact⟨by rw[g2 hf],_,rfl⟩
   .have hf:OJ r.1=true:=BN hb
    refine AO ?_;obtain⟨m,h1,k',h2,h3,h4,h5⟩:=done _ hf (fun e=>absurd e hk0) rfl;exact⟨m,h1,k',h2,f0,f6,h3,h4,h5⟩
 .simp -implicitDefEqProofs only[vQ,List.getElem?_cons_zero,Q7,XB,YI,lA,CV,bG,ANB,QA,WE,VD,↓reduceIte,jB,enP,f0,f6,APA hp]
  have hks:k=s.size:=U;refine⟨?_,_,rfl⟩;congr 1;rcases Nat.eq_zero_or_pos s.size with hz|hz
  .have:s=⟨#[]⟩:=by
    obtain⟨d⟩:=s;have:d.size=0:=hz;rw[Array.eq_empty_of_size_eq_zero this]
   subst this;rw[ByteArray.toList_eq];rfl
  .rw[xU hz (h0 hz U) (fun i hi=>hall i hi U)]
   have hne:s.toList≠[]:=by
    rw[ByteArray.toList_eq];intro e;have:s.data.toList.length=0:=by rw[e]; rfl
    have h2:s.data.size=0:=BN this;have h3:s.size=s.data.size:=rfl;omega
   cases hl2:s.toList with
   | nil=>exact absurd hl2 hne
   | cons=>rw[ByteArray.toList_eq]; rfl
theorem LH (hG:KwG G)(s:ByteArray)(h:Hp)(hl:s.size<=1099511627776):PCall (En G) 63 [.str s] h (.bool (FD s)):=by
 refine acT Tryz.func63 2 ?_;refine AO ?_;refine(AJY G s h hl).uu ?_;refine IG ?_ ?_<;>intro ha
 .refine BC ha ?_
  refine IG ?_ ?_<;>intro hb
  .refine BC hb ?_
   refine(lX G hG s h).uu ?_;refine⟨?_,trivial⟩
   have:decide (s.size<=16)=true:=by simp at hb|-; omega
   unfold FD; rw[ha,this]; rfl
  .refine BC hb ?_
   refine⟨?_,trivial⟩
   have:decide (s.size<=16)=false:=by simp at hb|-; omega
   unfold FD; rw[ha,this]; rfl
 .refine BC ha ?_
  exact⟨by unfold FD; rw[ha]; rfl,trivial⟩
theorem ix9 (s:ByteArray)(k:Nat)(kk:IntKind)(hk:k<s.size):O9 jA 9 (.str s) (.int kk (k:Int))=some (.int .u8 (s[k]'hk).toNat):=by
 have hu:Tryz.prog.underlying 9=some .string:=A8;have h0:(0:Int)<=(k:Int):=U;have:s[k]?=some (s[k]'hk):=by simp [hk]
 simp [O9,hu,h0,this]
theorem OY (s:ByteArray)(h:Hp):PCall (En G) 64 [.str s] h (.bool (FD s)):=by
 refine acT Tryz.func64 2 ?_;refine AO ?_;refine IG ?_ ?_<;>intro ha
 .refine BC ha ?_
  refine⟨?_,trivial⟩
  have:s.data.toList=[]:=by
   rw[ByteArray.toList_eq,ByteArray.toList_eq] at ha;have:=beq_iff_eq.1 ha;exact this
  unfold FD UY; rw[this]; rfl
 have hz:0<s.size:=by
  rcases Nat.eq_zero_or_pos s.size with hz|hz
  .simp_all
  .exact hz
 refine BC ha ?_;refine IG ?_ ?_<;>intro hb
 .refine BC hb ?_
  refine⟨?_,trivial⟩
  have:decide (s.size<=16)=false:=by simp at hb|-; omega
  unfold FD; rw[this]; simp
 have h16:decide (s.size<=16)=true:=by simp at hb|-; omega
 refine BC hb ?_;refine KY (v:=.int .u8 (s[0]'hz).toNat) (h:=h) (by rw[show(0:Int)=((0:Nat):Int) from rfl,ix9 s 0 .i64 hz]; rfl) ?_;refine AO ?_;refine(rA G _ h).uu ?_;refine IG ?_ ?_<;>intro hc
 .refine BC hc ?_
  refine⟨?_,trivial⟩;unfold FD; rw[fZ hz (BN hc)]; rfl
 refine BC hc ?_;refine(pD G s h).uu ?_;refine CE ?_ ?_<;>intro hd
 .refine AO ?_
  refine⟨?_,trivial⟩;unfold FD; rw[hd]; simp
 refine AO ?_;have hlow:TP (s[0]'hz).toNat=true:=BN hc;refine BI (fun n F H=>∃k,n+k=s.size∧F 0=.str s∧F 3=.n (k:Nat)∧H=h∧(∀i (hi:i<s.size),i<k->OJ (s[i]'hi).toNat=true)) s.size ⟨0,BA,AQ,AQ,rfl,fun _ _ h=>absurd h U⟩ ?_;rintro n F H ⟨k,hk,f0,f3,rfl,hall⟩;refine BB f0 f3 ?_;refine D8 ?_ ?_<;>intro hk'
 .refine DT f0 f3 (ix9 s k .i64 hk') ?_
  refine(ALK G _ _).uu ?_;refine CE ?_ ?_<;>intro hf
  .refine AO ?_
   refine⟨?_,trivial⟩;unfold FD; rw[VS hk' (BN hf)]; rfl
  .refine BB f3 (wrap_succ (show k<9223372036854775807 by simp at h16; omega)) ?_
   refine⟨n-1,U,k+1,U,f0,rfl,trivial,fun i hi hik=>?_⟩;rcases zF i k with h'|h'
   .exact hall i hi h'
   .grind
 .refine AO ?_
  refine⟨?_,trivial⟩;unfold FD;rw[xU hz hlow (fun i hi=>hall i hi U),h16,hd]; rfl
def JP (b:Bin):Bool :=
 decide (b.kind<0)||decide (b.kind>2)||(decide ((b.ranges.l.length:Int)>0)==decide ((b.steps.length:Int)>0))||(b.kind != 0&&decide ((b.steps.length:Int)>0))||((b.steps.length:Int)==1)||decide ((b.steps.length:Int)>8)
def II (b:Bin):Int :=
 if FD b.name then if JP b then 1 else if b.steps.any (fun l=>decide (l.l.length=0)) then 1 else
  if(sets b).any (fun l=>decide (l.l.length>64)) then 2 else if(sets b).any (fun l=>l.l.any bad) then 1 else 0
 else 7
def shape (b:Bin):Bool :=
 if(b.kind != 0&&b.kind != 1&&b.kind != 2) then false else if((b.steps.length:Int)==0) then decide ((b.ranges.l.length:Int)>0) else
  if(decide ((b.ranges.l.length:Int)>0)||b.kind != 0||decide ((b.steps.length:Int)<2)||decide ((b.steps.length:Int)>8)) then false else !(b.steps.any (fun l=>decide (l.l.length=0)))
theorem AEE:∀(n p z o t r s0 s1 s8 E:Bool),((n||p||z||o||t) && !(n&&p) && !(n&&z) && !(n&&o) && !(n&&t) && !(p&&z) && !(p&&o) && !(p&&t) && !(z&&o) && !(z&&t) && !(o&&t) && !(s0&&s1) && !(s0&&s8) && !(s1&&s8) && !(s0&&E))=true ->
 (if(!z && !o && !t) then false else if s0 then r else if(r || !z||(s0||s1)||s8) then false else !E)=(!(n||p||(r == !s0)||(!z && !s0)||s1||s8) && !E):=by decide +kernel
theorem AKA (k r s:Int)(E:Bool)(hs:0<=s)(hE:s=0->E=false):
  (if(k != 0&&k != 1&&k != 2) then false else if(s==0) then decide (r>0) else if(decide (r>0)||k != 0||decide (s<2)||decide (s>8)) then false else !E) =
  (!(decide (k<0)||decide (k>2)||(decide (r>0)==decide (s>0))||(k != 0&&decide (s>0))||(s==1)||decide (s>8)) && !E):=by
 have h1:decide (s>0) = !(s==0):=by rw[wO]; simp; omega
 have h2:decide (s<2)=((s==0)||(s==1)):=by rw[wO]; simp; omega
 rw[h1,h2];have key:=AEE (decide (k<0)) (decide (k>2)) (k==0) (k==1) (k==2) (decide (r>0)) (s==0) (s==1) (decide (s>8)) E ?_
 .exact key
 .have a1:(decide (k<0)||decide (k>2)||(k==0)||(k==1)||(k==2))=true:=by simp; omega
  have no:∀(p q:Prop) [Decidable p] [Decidable q],¬(p∧q)->(!(decide p&&decide q))=true:=by grind
  have e0:(s==0&&E)=false:=by simp_all
  have b0:(k==0)=decide (k=0):=rfl;have b1:(k==1)=decide (k=1):=rfl;have b2:(k==2)=decide (k=2):=rfl;have c0:(s==0)=decide (s=0):=rfl;have c1:(s==1)=decide (s=1):=rfl;rw[e0]
  rw[b0,b1,b2] at a1|-
  rw[c0,c1,a1,no _ _ (U:¬(k<0∧k>2)),no _ _ (U:¬(k<0∧k=0)),no _ _ (U:¬(k<0∧k=1)),no _ _ (U:¬(k<0∧k=2)),
   no _ _ (U:¬(k>2∧k=0)),no _ _ (U:¬(k>2∧k=1)),no _ _ (U:¬(k>2∧k=2)),no _ _ (U:¬(k=0∧k=1)),no _ _ (U:¬(k=0∧k=2)),no _ _ (U:¬(k=1∧k=2)),
   no _ _ (U:¬(s=0∧s=1)),no _ _ (U:¬(s=0∧s>8)),no _ _ (U:¬(s=1∧s>8))]
  rfl
theorem yS (b:Bin):shape b=(!JP b && !(b.steps.any (fun l=>decide (l.l.length=0)))) :=
 AKA b.kind b.ranges.l.length b.steps.length _ U (fun h=>by
  have:b.steps=[]:=List.eq_nil_of_length_eq_zero U
  rw[this]; rfl)
theorem AED (b:Bin)(h:Hp)(hl:b.steps.length<=1099511627776):PCall (En G) 240 [.agg (IP b)] h (.bool (shape b)):=by
 refine ACalls.pure0 rfl ?_;refine acT Tryz.func240 2 ?_;refine P8 @bxB @TE @aA @VC ?_;refine UW (fun F H=>F 7=.bool (b.kind != 0&&b.kind != 1&&b.kind != 2)∧F 1=.ptr h.length 0 0∧F 3=.n b.steps.length∧H=h++[zZ 4 [IP b]]) ?_ ?_
 .refine IG ?_ ?_<;>intro ha
  .refine MH ha @TE ?_
   refine IG ?_ ?_<;>intro hb
   .refine MH hb @TE ?_
    exact⟨rfl,trivial,trivial,trivial⟩
   .refine BC hb ?_
    exact⟨rfl,trivial,trivial,trivial⟩
  .refine BC ha ?_
   exact⟨rfl,trivial,trivial,trivial⟩
 rintro F H ⟨f7,f1,f3,rfl⟩;refine DT f7 f1 f3 ?_;refine CE ?_ ?_<;>intro hk
 .refine AO ?_
  exact⟨by unfold shape; rw[if_pos hk],_,rfl⟩
 have hk':¬(b.kind != 0&&b.kind != 1&&b.kind != 2)=true:=by rw[hk]; simp
 refine BB f1 f3 ?_;refine CE ?_ ?_<;>intro hs
 .refine MH f1 @aA ?_
  exact⟨by unfold shape; rw[if_neg hk',if_pos hs],_,rfl⟩
 have hs':¬((b.steps.length:Int)==0)=true:=by rw[hs]; simp
 refine KF f1 f3 @aA ?_;refine UW (fun F H=>F 28=.bool (decide ((b.ranges.l.length:Int)>0)||b.kind != 0||decide ((b.steps.length:Int)<2)||decide ((b.steps.length:Int)>8))∧F 1=.ptr h.length 0 0∧H=h++[zZ 4 [IP b]]) ?_ ?_
 .refine IG ?_ ?_<;>intro ha
  .refine BB ha f1 ?_
   exact⟨trivial,trivial,trivial⟩
  refine P8 @wM ha f1 @TE ?_;refine IG ?_ ?_<;>intro hb
  .refine BB hb f1 ?_
   exact⟨trivial,trivial,trivial⟩
  refine E8 @wM hb f1 f3 ?_;refine IG ?_ ?_<;>intro hc
  .refine BB hc f1 ?_
   exact⟨trivial,trivial,trivial⟩
  .refine E8 @wM hc f1 f3 ?_
   exact⟨trivial,trivial,trivial⟩
 rintro F H ⟨f28,f1,rfl⟩;refine BB f28 f1 ?_;refine CE ?_ ?_<;>intro ho
 .refine AO ?_
  exact⟨by unfold shape; rw[if_neg hk',if_neg hs',if_pos ho],_,rfl⟩
 have ho':¬(decide ((b.ranges.l.length:Int)>0)||b.kind != 0||decide ((b.steps.length:Int)<2)||decide ((b.steps.length:Int)>8))=true:=by rw[ho]; simp
 refine MH f1 @VC ?_;refine(nK G b.steps b.sm 291 [] (fun l=>decide (l.l.length=0)) _ hl fun r=>ARB G r _).uu ?_;exact⟨by unfold shape; rw[if_neg hk',if_neg hs',if_neg ho'],_,rfl⟩
theorem gA {b:Bin}(h:FD b.name=false):II b=7:=by unfold II; rw[h]; rfl
theorem bX {b:Bin}(h:FD b.name=true)(hs:JP b=true):II b=1:=by unfold II; rw[h,hs]; rfl
theorem bY {b:Bin}(h:FD b.name=true)(hs:b.steps.any (fun l=>decide (l.l.length=0))=true):II b=1:=by
 unfold II; rw[h,hs]; cases JP b<;>rfl
theorem W9 {b:Bin}(h:FD b.name=true)(hs:JP b=false)(he:b.steps.any (fun l=>decide (l.l.length=0))=false):
  II b=if(sets b).any (fun l=>decide (l.l.length>64)) then 2 else if(sets b).any (fun l=>l.l.any bad) then 1 else 0:=by
 unfold II; rw[h,hs,he]; rfl
structure BinOk (b:Bin):Prop where
 num:(sets b).length<=1099511627776
 name:b.name.size<=1099511627776
 steps:b.steps.length<=1099511627776
 sets:∀l∈sets b,l.l.length<=1099511627776
theorem AAG (xs:List Rng):decide (JE xs=2)=decide (xs.length>64):=by
 unfold JE;split
 .simp_all
 .split<;>simp_all
theorem gI (xs:List Rng):decide (JE xs=1)=(decide (¬xs.length>64)&&xs.any bad):=by
 unfold JE;split
 .rename_i h; simp [h]
 .grind
theorem ANM {b:Bin}(h:FD b.name=true)(hs:JP b=false)(he:b.steps.any (fun l=>decide (l.l.length=0))=false):
  II b=if(sets b).any (fun l=>decide (JE l.l=2)) then 2 else if(sets b).any (fun l=>decide (JE l.l=1)) then 1 else 0:=by
 rw[W9 h hs he];simp only[AAG];split
 .rfl
 .rename_i hn
  have:(sets b).any (fun l=>decide (JE l.l=1))=(sets b).any (fun l=>l.l.any bad):=by
   rw[wO,qL,qL];constructor
   .rintro⟨l,h1,h2⟩
    rw[gI] at h2;simp only[jU] at h2;exact⟨l,h1,h2.2⟩
   .rintro⟨l,h1,h2⟩
    refine⟨l,h1,?_⟩;rw[gI,h2];rw[Bool.not_eq_true,qU] at hn;have:=hn l h1;simp only[decide_eq_true_eq] at this;simp only[this,not_false_eq_true,decide_true,Bool.and_self]
  rw[this]
theorem YK {α:Type}(p:α->Bool)(xs:List α)(k:Nat)(h:k<xs.length):(xs.take (k+1)).any p=((xs.take k).any p||p xs[k]):=by
 rw[jY h,List.any_append,List.any_cons,List.any_nil,Bool.or_false]
theorem valid_prog (hG:KwG G)(b:Bin)(hb:BinOk b)(h:Hp):PCall (En G) 162 [.agg (IP b)] h (.n (II b)):=by
 refine ACalls.pure0 rfl ?_;refine acT Tryz.func162 2 ?_;refine KF @vI @bxB @AI6 ?_;refine(LH G hG b.name _ hb.name).uu ?_;refine CE ?_ ?_<;>intro hn
 .refine AO ?_
  exact⟨by rw[gA (BN hn)],_,rfl⟩
 have hn':FD b.name=true:=BN hn;refine BC @ldB ?_;refine(AED G b _ hb.steps).uu ?_;refine CE ?_ ?_<;>intro hs
 .refine AO ?_
  refine⟨?_,_,rfl⟩;have h1:shape b=false:=BN hs;rw[yS] at h1
  cases hr:JP b with
  | true=>rw[bX hn' hr]
  | false =>
    rw[hr] at h1;rw[bY hn' (BN h1)]
 have h1:shape b=true:=BN hs;rw[yS] at h1;simp only[jU,Bool.not_eq_true'] at h1;have hv:=W9 hn' h1.1 h1.2;refine BC @ldB ?_;refine(AKB G b _).uu ?_;refine BI (fun n F H=>∃k,n+k=(sets b).length∧F 3=.bool (((sets b).take k).any fun l=>decide (JE l.l=2))∧F 4=.bool (((sets b).take k).any fun l=>decide (JE l.l=1))∧F 15=.sl (ZQ b) 1 ((sets b).map encS)∧F 16=.n (sets b).length∧F 17=.n (k:Nat)∧H=h++[zZ 4 [IP b]]) (sets b).length ⟨0,BA,rfl,rfl,rfl,rfl,rfl,rfl⟩ ?_;rintro n F H ⟨k,hk,f3,f4,f15,f16,f17,rfl⟩;refine DT f15 f16 f17 ?_;refine D8 ?_ ?_<;>intro hc'
 .simp -implicitDefEqProofs only[vQ,CV,↓reduceIte,jB,enP,pA,f15,f17,CQ hc',CG QI hc',gU]
  refine(AAF G _ _ _ (hb.sets _ (List.getElem_mem hc'))).use ?_;have t2:=YK (fun l:Rs=>decide (JE l.l=2)) (sets b) k hc';have t1:=YK (fun l:Rs=>decide (JE l.l=1)) (sets b) k hc';refine AO ?_;refine CE ?_ ?_<;>intro hd
  .have hd':JE (sets b)[k].l=2:=BN hd
   refine BB f17 (wrap_succ (show k<9223372036854775807 by have:=hb.num; omega)) ?_;refine⟨n-1,U,k+1,U,?_,?_,f15,f16,rfl,trivial⟩
   .rw[t2,hd']; simp
   .rw[f4,t1,hd']; simp
  refine AO ?_;refine CE ?_ ?_<;>intro he
  .have he':JE (sets b)[k].l=1:=BN he
   refine BB f17 (wrap_succ (show k<9223372036854775807 by have:=hb.num; omega)) ?_;refine⟨n-1,U,k+1,U,?_,?_,f15,f16,rfl,trivial⟩
   .rw[f3,t2,he']; simp
   .rw[t1,he']; simp
  .have hd':JE (sets b)[k].l≠2:=BN hd
   have he':JE (sets b)[k].l≠1:=BN he;refine BB f17 (wrap_succ (show k<9223372036854775807 by have:=hb.num; omega)) ?_;refine⟨n-1,U,k+1,U,?_,?_,f15,f16,rfl,trivial⟩
   .rw[f3,t2]; simp [hd']
   .rw[f4,t1]; simp [he']
 .rw[jI U] at f3 f4
  have hE:=ANM hn' h1.1 h1.2;refine BB f3 f4 ?_;refine CE ?_ ?_<;>intro hd
  .refine AO ?_
   exact⟨by rw[hE,if_pos hd],_,rfl⟩
  refine BC f4 ?_;refine CE ?_ ?_<;>intro he
  .refine AO ?_
   exact⟨by rw[hE,if_neg (by rw[hd]; simp),if_pos he],_,rfl⟩
  .refine AO ?_
   exact⟨by rw[hE,if_neg (by rw[hd]; simp),if_neg (by rw[he]; simp)],_,rfl⟩
theorem valid_ref (b:Bin)(hb:BinOk b)(h:Hp):PCall (En G) 195 [.agg (IP b)] h (.n (II b)):=by
 refine ACalls.pure0 rfl ?_;refine acT Tryz.func195 2 ?_;refine KF @vI @bxB @AI6 ?_;refine(OY G b.name _).uu ?_;refine CE ?_ ?_<;>intro hn
 .refine AO ?_
  exact⟨by rw[gA (BN hn)],_,rfl⟩
 have hn':FD b.name=true:=BN hn;refine TM @TE ?_;refine UW (fun F H=>F 53=.bool (JP b)∧F 1=.ptr h.length 0 0∧H=h++[zZ 4 [IP b]]) ?_ ?_
 .refine IG ?_ ?_<;>intro ha
  .refine BC ha ?_
   exact⟨by unfold JP; rw[ha]; rfl,trivial,trivial⟩
  refine MH ha @TE ?_;refine IG ?_ ?_<;>intro hb
  .refine BC hb ?_
   exact⟨by unfold JP; rw[ha,hb]; rfl,trivial,trivial⟩
  refine P8 be4 hb @aA @VC ?_;refine IG ?_ ?_<;>intro hc
  .refine BC hc ?_
   exact⟨by unfold JP; rw[ha,hb,hc]; rfl,trivial,trivial⟩
  refine MH hc @TE ?_;refine IG ?_ ?_<;>intro hd
  .refine MH hd @VC ?_
   refine IG ?_ ?_<;>intro he
   .refine BC he ?_
    exact⟨by unfold JP; rw[ha,hb,hc,hd,he]; rfl,trivial,trivial⟩
   refine MH he @VC ?_;refine IG ?_ ?_<;>intro hf
   .refine BC hf ?_
    exact⟨by unfold JP; rw[ha,hb,hc,hd,he,hf]; rfl,trivial,trivial⟩
   .refine MH hf @VC ?_
    exact⟨by unfold JP; rw[ha,hb,hc,hd,he,hf]; rfl,trivial,trivial⟩
  .refine MH hd @VC ?_
   refine IG ?_ ?_<;>intro hf
   .refine BC hf ?_
    exact⟨by unfold JP; rw[ha,hb,hc,hd,hf]; rfl,trivial,trivial⟩
   .refine MH hf @VC ?_
    exact⟨by unfold JP; rw[ha,hb,hc,hd,hf]; rfl,trivial,trivial⟩
 rintro F H ⟨f53,f1,rfl⟩;refine BB f53 f1 ?_;refine CE ?_ ?_<;>intro hs
 .refine AO ?_
  exact⟨by rw[bX hn' hs],_,rfl⟩
 refine AO ?_;refine ET 0 (fun F H=>F 1=.ptr h.length 0 0∧H=h++[zZ 4 [IP b]]∧b.steps.any (fun l=>decide (l.l.length=0))=false) (fun F H=>F 2=.n (II b)∧H=h++[zZ 4 [IP b]]) ?_ ?_ ?_
 .refine BI (fun n F H=>∃k,n+k=b.steps.length∧F 1=.ptr h.length 0 0∧F 3=.n (k:Nat)∧H=h++[zZ 4 [IP b]]∧(b.steps.take k).any (fun l=>decide (l.l.length=0))=false) b.steps.length ⟨0,BA,Q8 f1,FI,rfl,rfl⟩ ?_
  rintro n F H ⟨k,hk,f1,f3,rfl,hin⟩;refine KF f1 f3 @VC ?_;refine D8 ?_ ?_<;>intro hc'
  .have t0:=YK (fun l:Rs=>decide (l.l.length=0)) b.steps k hc'
   simp -implicitDefEqProofs only[vQ,CV,↓reduceIte,jB,enP,XR,pA,mR,f1,f3,EE WH,VC,CQ hc',CG QI hc',gU,jJ];refine CE ?_ ?_<;>intro hd
   .refine AO ?_
    refine⟨?_,trivial⟩
    have:b.steps.any (fun l=>decide (l.l.length=0))=true:=by
     rw[qL];exact⟨b.steps[k],BA,by simp at hd; simp [hd]⟩
    rw[bY hn' this]
   .refine BB f3 (wrap_succ (show k<9223372036854775807 by have:=hb.steps; omega)) ?_
    refine⟨n-1,U,k+1,U,f1,rfl,trivial,?_⟩;rw[t0,hin];simp at hd;simp [hd]
  .refine AO ?_
   rw[jI U] at hin;exact⟨f1,trivial,hin⟩
 .rintro F H ⟨f1,rfl,he⟩
  have hs':JP b=false:=BN hs;have hv:=W9 hn' hs' he;refine BB f1 @ldB ?_;refine(AOI G b _).uu ?_;refine ET 2 (fun F H=>F 4=.sl (ZQ b) 1 ((sets b).map encS)∧H=h++[zZ 4 [IP b]]∧(sets b).any (fun l=>decide (l.l.length>64))=false) (fun F H=>F 2=.n (II b)∧H=h++[zZ 4 [IP b]]) ?_ ?_ ?_
  .refine BI (fun n F H=>∃k,n+k=(sets b).length∧F 4=.sl (ZQ b) 1 ((sets b).map encS)∧F 5=.n (k:Nat)∧H=h++[zZ 4 [IP b]]∧((sets b).take k).any (fun l=>decide (l.l.length>64))=false) (sets b).length ⟨0,BA,FI,FI,rfl,rfl⟩ ?_
   rintro n F H ⟨k,hk,f4,f5,rfl,hin⟩;refine BB f4 f5 ?_;refine D8 ?_ ?_<;>intro hc'
   .have t0:=YK (fun l:Rs=>decide (l.l.length>64)) (sets b) k hc'
    simp -implicitDefEqProofs only[vQ,CV,↓reduceIte,jB,enP,XR,pA,f4,f5,CQ hc',CG QI hc',gU,jJ];refine CE ?_ ?_<;>intro hd
    .refine AO ?_
     refine⟨?_,trivial⟩
     have:(sets b).any (fun l=>decide (l.l.length>64))=true:=by
      rw[qL];exact⟨(sets b)[k],BA,by simp at hd|-; omega⟩
     rw[hv,if_pos this]
    .refine BB f5 (wrap_succ (show k<9223372036854775807 by have:=hb.num; omega)) ?_
     refine⟨n-1,U,k+1,U,f4,rfl,trivial,?_⟩;rw[t0,hin]
     simp at hd|-
     omega
   .refine AO ?_
    rw[jI U] at hin;exact⟨f4,trivial,hin⟩
  .rintro F H ⟨f4,rfl,h64⟩
   rw[h64] at hv;simp only[Bool.false_eq_true,if_false] at hv;refine BC f4 ?_;refine BI (fun n F H=>∃k,n+k=(sets b).length∧F 4=.sl (ZQ b) 1 ((sets b).map encS)∧F 6=.n (k:Nat)∧H=h++[zZ 4 [IP b]]∧((sets b).take k).any (fun l=>l.l.any bad)=false) (sets b).length ⟨0,BA,Q8 f4,FI,rfl,rfl⟩ ?_;rintro n F H ⟨k,hk,f4,f6,rfl,hin⟩;refine BB f4 f6 ?_;refine D8 ?_ ?_<;>intro hc'
   .have t0:=YK (fun l:Rs=>l.l.any bad) (sets b) k hc'
    simp -implicitDefEqProofs only[vQ,CV,↓reduceIte,jB,enP,pA,f4,f6,CQ hc',CG QI hc',gU,jJ];refine(AEQ G _ _ _).use ?_
    have hk64:¬(sets b)[k].l.length>64:=by
     rw[qU] at h64;have:=h64 (sets b)[k] BA;simpa using this
    refine AO ?_
    cases hbad:(sets b)[k].l.any bad with
    | true =>
      have hr:=XH hk64 hbad;refine CE ?_ ?_<;>intro hd
      .refine AO ?_
       refine⟨?_,_,rfl⟩
       have:(sets b).any (fun l=>l.l.any bad)=true:=by
        rw[qL];exact⟨(sets b)[k],BA,hbad⟩
       rw[hr,hv,if_pos this]
      .rw[hr] at hd; simp at hd
    | false =>
      have hr:=aK hk64 hbad;refine CE ?_ ?_<;>intro hd
      .rw[hr] at hd; simp at hd
      .refine BB f6 (wrap_succ (show k<9223372036854775807 by have:=hb.num; omega)) ?_
       refine⟨n-1,U,k+1,U,f4,rfl,trivial,?_⟩;rw[t0,hin,hbad]; rfl
   .refine AO ?_
    rw[jI U] at hin;exact⟨by rw[hv,if_neg (by rw[hin]; simp)],_,rfl⟩
  .rintro F H ⟨f2,rfl⟩
   refine AO ?_;exact⟨f2,_,rfl⟩
 .rintro F H ⟨f2,rfl⟩
  refine AO ?_;exact⟨by rw[f2],_,rfl⟩
end Go.Proofs.YtiihpnicbekebaaGreatDoor.Bins
namespace Go.Proofs.YtiihpnicbekebaaGreatDoor.Cov
open Sm Bins
variable (G:Nat->AV )
inductive Ex where
 | mk (op n:Int) (name:ByteArray) (m:SM) (args:List Ex)
def Ex.op:Ex->Int|.mk op _ _ _ _=>op
def Ex.n:Ex->Int|.mk _ n _ _ _=>n
def Ex.name:Ex->ByteArray|.mk _ _ name _ _=>name
def Ex.m:Ex->SM|.mk _ _ _ m _=>m
def Ex.args:Ex->List Ex|.mk _ _ _ _ args=>args
mutual
def AU:Ex->List AV
 | .mk op n name m args=>[.n op,.n n,.str name,.sl m 4 (ACG args)]
def ACG:List Ex->List (List AV)
 | []=>[]
 | e::es=>AU e::ACG es
end
theorem sP:∀l:List Ex,ACG l=l.map AU
 | []=>by simp [ACG]
 | e::es=>by simp [ACG,sP es]
theorem EW (e:Ex):AU e=[.n e.op,.n e.n,.str e.name,.sl e.m 4 (e.args.map AU)]:=by
 cases e; simp [AU,sP,Ex.op,Ex.n,Ex.name,Ex.m,Ex.args]
theorem EP (e:Ex):(AU e).length=4:=by rw[EW]; rfl
theorem KL (e:Ex):(AU e)[0]?=some (.n e.op):=by rw[EW]; rfl
theorem dN (e:Ex):(AU e)[1]?=some (.n e.n):=by rw[EW]; rfl
theorem RV (e:Ex):(AU e)[2]?=some (.str e.name):=by rw[EW]; rfl
theorem dM (e:Ex):(AU e)[3]?=some (.sl e.m 4 (e.args.map AU)):=by rw[EW]; rfl
theorem VA (e:Ex):(AU e).all AV.leaf=true:=by rw[EW]; rfl
theorem bxE (h:Hp)(e:Ex):MI h (.agg (AU e))=some (.ptr h.length 0 0,h++[zZ 4 [AU e]]):=by
 have:=SC (h:=h) (VA e);rw[EP] at this; exact this
theorem ldE (h:Hp)(e:Ex):BU jA (h++[zZ 4 [AU e]]) 79 (.ptr h.length 0 0)=some (.agg (AU e)):=by
 rw[Y4 O5 JL (by rw[EP]; exact jF 4)];rw[zI,jI (by rw[EP]; exact jF 4)]
theorem JI {h:Hp}{b:Nat}{e:Ex}(hb:h[b]?=some (zZ 4 [AU e])):BU jA h 79 (.ptr b 0 0)=some (.agg (AU e)):=by
 rw[EH O5 JL hb rfl (by rw[EP]; exact jF 4)];rw[zI,jI (by rw[EP]; exact jF 4)]
mutual
def pre:Ex->List Ex
 | .mk op n name m args=>.mk op n name m args::GH args
def GH:List Ex->List Ex
 | []=>[]
 | e::es=>pre e++GH es
end
mutual
def dep:Ex->Nat
 | .mk _ _ _ _ args=>deps args+1
def deps:List Ex->Nat
 | []=>0
 | e::es=>max (dep e) (deps es)
end
mutual
def wt:Ex->Nat
 | .mk _ _ name _ args=>name.size+1+wts args
def wts:List Ex->Nat
 | []=>0
 | e::es=>wt e+wts es
end
theorem pre_eq (e:Ex):pre e=e::GH e.args:=by cases e; simp [pre,Ex.args]
theorem WF (e:Ex):dep e=deps e.args+1:=by cases e; simp [dep,Ex.args]
theorem LX (e:Ex):wt e=e.name.size+1+wts e.args:=by cases e; simp [wt,Ex.args,Ex.name]
theorem QW (xs ys:List Ex):GH (xs++ys)=GH xs++GH ys:=by
 induction xs with
 | nil=>simp [GH]
 | cons x xs ih=>simp [GH,ih]
theorem TR (xs:List Ex):xs.length<=wts xs:=by
 induction xs with
 | nil=>simp [wts]
 | cons x xs ih=>have:=LX x; simp [wts]; omega
theorem VR {xs:List Ex}{x:Ex}(h:x∈xs):wt x<=wts xs:=by
 induction xs with
 | nil=>cases h
 | cons y ys ih =>
   simp only[wts]
   cases List.mem_cons.1 h with
   | inl e=>subst e; omega
   | inr e=>have:=ih e; omega
theorem sR (xs:List Ex)(k:Nat)(h:k<xs.length):deps (xs.take (k+1))=max (deps (xs.take k)) (dep xs[k]):=by
 induction xs generalizing k with
 | nil=>simp at h
 | cons x xs ih =>
   cases k with
   | zero=>simp [deps]
   | succ k =>
     simp only[List.take_succ_cons,deps,List.getElem_cons_succ];rw[ih k (BN h),Nat.max_assoc]
theorem Ex.induct {P:Ex->Prop}(h:∀e:Ex,(∀a∈e.args,P a)->P e)(e:Ex):P e:=by
 have:∀n (e:Ex),wt e<=n->P e:=by
  intro n
  induction n with
  | zero=>intro e he; have:=LX e; omega
  | succ n ih =>
    intro e he;refine h e fun a ha=>ih a ?_
    have h1:=VR ha;have h2:=LX e;omega
 exact this _ e (jF _)
theorem ARH (e:Ex):dep e<=wt e:=by
 refine Ex.induct (P:=fun e=>dep e<=wt e) (fun e ih=>?_) e;rw[WF,LX]
 have:deps e.args<=wts e.args:=by
  generalize e.args=l at ih
  induction l with
  | nil=>simp [deps,wts]
  | cons x l ih2 =>
    have h1:=ih x BA;have h2:=ih2 (fun a ha=>ih a (by simp [ha]));simp only[deps,wts]; omega
 omega
theorem aM (e:Ex):(pre e).length<=wt e:=by
 refine Ex.induct (P:=fun e=>(pre e).length<=wt e) (fun e ih=>?_) e;rw[pre_eq,LX]
 have:(GH e.args).length<=wts e.args:=by
  generalize e.args=l at ih
  induction l with
  | nil=>simp [GH,wts]
  | cons x l ih2 =>
    have h1:=ih x BA;have h2:=ih2 (fun a ha=>ih a (by simp [ha]));simp only[GH,wts,List.length_append]; omega
 simp; omega
def arity (op:Int):Int:=if op<1∨op>25 then -1 else if op=1∨op=2∨op=24 then 0 else if op=3∨op=4∨op=5∨op=6∨op=25 then 1 else if op=22 then 3 else if op=23 then -1 else 2
theorem AGE (op:Int)(h:Hp):PCall (En G) 299 [.n op] h (.n (arity op)):=by
 refine acT Tryz.func299 2 ?_;have hcase:op<1∨op>25∨op=1∨op=2∨op=3∨op=4∨op=5∨op=6∨op=7∨op=8∨op=9∨op=10∨op=11∨op=12∨op=13∨op=14∨op=15∨op=16∨op=17∨op=18∨op=19∨op=20∨op=21∨op=22∨op=23∨op=24∨op=25:=U;rcases hcase with h|h|rfl|rfl|rfl|rfl|rfl|rfl|rfl|rfl|rfl|rfl|rfl|rfl|rfl|rfl|rfl|rfl|rfl|rfl|rfl|rfl|rfl|rfl|rfl|rfl|rfl
 .have hne:∀k:Int,1<=k->(op==k)=false:=fun k hk=>beq_eq_false_iff_ne.2 U
  have hd:decide (op<1)=true:=by simp; omega
  have ha:arity op = -1:=by unfold arity; rw[if_pos (Or.inl h)]
  rw[ha];simp -implicitDefEqProofs only[vQ,MZ,NS,EJ,eE,CV,GG,↓reduceIte,jB,enX,enP,hne 1 D5,hne 2 D5,hne 3 D5,hne 4 D5,hne 5 D5,hne 6 D5,hne 7 D5,hne 8 D5,hne 9 D5,hne 10 D5,hne 11 D5,hne 12 D5,hne 13 D5,hne 14 D5,hne 15 D5,hne 16 D5,hne 17 D5,hne 18 D5,hne 19 D5,hne 20 D5,hne 21 D5,hne 22 D5,hne 23 D5,hne 24 D5,hne 25 D5,hd];exact JH
 .have hne:∀k:Int,k<=25->(op==k)=false:=fun k hk=>beq_eq_false_iff_ne.2 U
  have hd:decide (op<1)=false:=by simp; omega
  have hd2:decide (op>25)=true:=by simp; omega
  have ha:arity op = -1:=by unfold arity; rw[if_pos (Or.inr h)]
  rw[ha];simp -implicitDefEqProofs only[vQ,MZ,NS,EJ,CV,↓reduceIte,jB,enX,enP,hne 1 D5,hne 2 D5,hne 3 D5,hne 4 D5,hne 5 D5,hne 6 D5,hne 7 D5,hne 8 D5,hne 9 D5,hne 10 D5,hne 11 D5,hne 12 D5,hne 13 D5,hne 14 D5,hne 15 D5,hne 16 D5,hne 17 D5,hne 18 D5,hne 19 D5,hne 20 D5,hne 21 D5,hne 22 D5,hne 23 D5,hne 24 D5,hne 25 D5,hd,hd2];exact JH
 all_goals
  simp -implicitDefEqProofs only[vQ,MZ,sV,NS,EJ,CV,↓reduceIte,jB,decide_false,enX,enP,qY,Int.reduceLT,Int.reduceGT];exact⟨rfl,trivial⟩
theorem AMS (op:Int)(h:Hp):PCall (En G) 332 [.n op] h (.n (arity op)):=by
 refine acT Tryz.func332 2 ?_;have hcase:op<1∨op>25∨op=1∨op=2∨op=3∨op=4∨op=5∨op=6∨op=7∨op=8∨op=9∨op=10∨op=11∨op=12∨op=13∨op=14∨op=15∨op=16∨op=17∨op=18∨op=19∨op=20∨op=21∨op=22∨op=23∨op=24∨op=25:=U;rcases hcase with h|h|rfl|rfl|rfl|rfl|rfl|rfl|rfl|rfl|rfl|rfl|rfl|rfl|rfl|rfl|rfl|rfl|rfl|rfl|rfl|rfl|rfl|rfl|rfl|rfl|rfl
 .have hne:∀k:Int,1<=k->(op==k)=false:=fun k hk=>beq_eq_false_iff_ne.2 U
  have hd:decide (op<1)=true:=by simp; omega
  have ha:arity op = -1:=by unfold arity; rw[if_pos (Or.inl h)]
  rw[ha];simp -implicitDefEqProofs only[vQ,MZ,NS,EJ,eE,CV,GG,↓reduceIte,jB,enX,enP,hne 1 D5,hne 2 D5,hne 3 D5,hne 4 D5,hne 5 D5,hne 6 D5,hne 7 D5,hne 8 D5,hne 9 D5,hne 10 D5,hne 11 D5,hne 12 D5,hne 13 D5,hne 14 D5,hne 15 D5,hne 16 D5,hne 17 D5,hne 18 D5,hne 19 D5,hne 20 D5,hne 21 D5,hne 22 D5,hne 23 D5,hne 24 D5,hne 25 D5,hd];exact JH
 .have hne:∀k:Int,k<=25->(op==k)=false:=fun k hk=>beq_eq_false_iff_ne.2 U
  have hd:decide (op<1)=false:=by simp; omega
  have hd2:decide (op>25)=true:=by simp; omega
  have ha:arity op = -1:=by unfold arity; rw[if_pos (Or.inr h)]
  rw[ha];simp -implicitDefEqProofs only[vQ,MZ,NS,EJ,CV,↓reduceIte,jB,enX,enP,hne 1 D5,hne 2 D5,hne 3 D5,hne 4 D5,hne 5 D5,hne 6 D5,hne 7 D5,hne 8 D5,hne 9 D5,hne 10 D5,hne 11 D5,hne 12 D5,hne 13 D5,hne 14 D5,hne 15 D5,hne 16 D5,hne 17 D5,hne 18 D5,hne 19 D5,hne 20 D5,hne 21 D5,hne 22 D5,hne 23 D5,hne 24 D5,hne 25 D5,hd,hd2];exact JH
 all_goals
  simp -implicitDefEqProofs only[vQ,MZ,sV,NS,CV,↓reduceIte,jB,enX,enP,qY,Int.reduceLT,Int.reduceGT];exact⟨rfl,trivial⟩
def L6 (op:Int):Bool:=op==2||op==3||op==24
theorem eQ (op:Int)(h:Hp):PCall (En G) 331 [.n op] h (.bool (L6 op)):=by
 refine acT Tryz.func331 2 ?_;refine AO ?_;cases ha:(op==2)<;>cases hb:(op==3)
 all_goals
  refine BB ha hb ?_;exact⟨by simp [L6,ha,hb],trivial⟩
def V6 (op:Int)(n:Nat):Bool:=if op==23 then ((n:Int)%2==1)&&decide ((n:Int)≥3)&&decide ((n:Int)<=33) else ((n:Int)==arity op)
theorem oT (e:Ex)(h:Hp):PCall (En G) 249 [.agg (AU e)] h (.bool (V6 e.op e.args.length)):=by
 refine ACalls.pure0 rfl ?_;refine acT Tryz.func249 2 ?_;refine KF @bxE @dM @KL ?_;generalize he:e.args.length=n;have hm:(n:Int).tmod 2=(n:Int)%2:=Int.tmod_eq_emod_of_nonneg U;have b1:JM jA 3 .rem (.n (n:Int)) (.n 2)=some (.n ((n:Int)%2)):=by rw[AJH _ _ _ _ _ D5,hm]
 refine CE ?_ ?_<;>intro hc
 .refine BC b1 ?_
  cases ha:((n:Int)%2==1)<;>cases hb:decide ((n:Int)≥3)
  all_goals
   refine BB ha hb ?_;exact⟨by unfold V6; rw[if_pos hc,ha,hb]; simp,_,rfl⟩
 .refine TM @KL ?_
  refine(AGE G e.op _).uu ?_;exact⟨by unfold V6; rw[if_neg (by rw[hc]; decide)],_,rfl⟩
end Go.Proofs.YtiihpnicbekebaaGreatDoor.Cov
namespace Go.Proofs.YtiihpnicbekebaaGreatDoor.Cov
open Sm Bins Go.Shelf Go.RowKit
def ARL:Go.Shelf.Ren:=⟨fun|145=>232|220=>287|219=>323|217=>354|225=>355|224=>356|267=>357|266=>394|314=>395|n=>n,fun|9=>9|4=>4|59=>284|3=>3|5=>5|46=>344|146=>373|51=>364|n=>n,fun|1=>1|n=>n⟩
theorem A6X:Go.Proofs.Lays.n145 Tryz.prog ARL := {
 mixed:=A8,
 f145:=Tryz.func232.trans (congrArg some A8),
 f217:=Tryz.func354.trans (congrArg some A8),
 f219:=Tryz.func323.trans (congrArg some A8),
 f220:=Tryz.func287.trans (congrArg some A8),
 f224:=Tryz.func356.trans (congrArg some A8),
 f225:=Tryz.func355.trans (congrArg some A8),
 f266:=Tryz.func394.trans (congrArg some A8),
 f267:=Tryz.func357.trans (congrArg some A8),
 f314:=Tryz.func395.trans (congrArg some A8),
 t3:=Tryz.underlying3,
 a3:=Tryz.isAgg3,
 z3:=Tryz.sizeOf3,
 v3:=Tryz.zeroValue3,
 t4:=Tryz.underlying4,
 a4:=Tryz.isAgg4,
 z4:=Tryz.sizeOf4,
 v4:=Tryz.zeroValue4,
 t5:=Tryz.underlying5,
 a5:=Tryz.isAgg5,
 z5:=Tryz.sizeOf5,
 v5:=Tryz.zeroValue5,
 t9:=Tryz.underlying9,
 a9:=Tryz.isAgg9,
 z9:=Tryz.sizeOf9,
 v9:=Tryz.zeroValue9,
 t46:=Tryz.underlying344,
 a46:=Tryz.isAgg344,
 z46:=Tryz.sizeOf344,
 v46:=Tryz.zeroValue344,
 t51:=Tryz.underlying364,
 a51:=Tryz.isAgg364,
 z51:=Tryz.sizeOf364,
 v51:=Tryz.zeroValue364,
 t59:=Tryz.underlying284,
 a59:=Tryz.isAgg284,
 z59:=Tryz.sizeOf284,
 v59:=Tryz.zeroValue284,
 t146:=Tryz.underlying373,
 a146:=Tryz.isAgg373,
 z146:=Tryz.sizeOf373,
 v146:=Tryz.zeroValue373,
 g1:=by kernel_rfl }
structure GOk (G:Nat->AV):Prop where
 kw:KwG G
 mx:∃n,G 1=.fptr 1 [[.n n]] 0 0
theorem AQD {G:Nat->AV}{g:Gh}{h:Hp}{w:World}{n:Nat}{k:IntKind}{z:Int}(S:SimH (En G) g h w)(hn:G n=.fptr 1 [[.int k z]] 0 0):w.cell? ⟨n,0,none⟩=some (.int k z):=by
 have:=S.glob n;rw[enG,hn] at this;generalize hp:Value.pointer (some ⟨n,0,none⟩)=p at this
 cases this with
 | fptr k' xs i j cb co c e fz cv h1 h2 h3 h4 =>
   simp only[Value.pointer.injEq,Option.some.injEq,Addr.mk.injEq] at hp;obtain⟨rfl,hco,_⟩:=hp;have h5:=h3 0 0 BA BA;have h6:=h4 0 0 _ _ rfl rfl;generalize cv 0 0=u at h5 h6;cases h6;simp only[World.cell?,S.fro _ _ h1];subst hco;exact h5
def cutV (s:ByteArray):AV:=.tup [.str ⟨(Lib.cut s.data.toList [91]).1.toArray⟩,.str ⟨(Lib.cut s.data.toList [91]).2.1.toArray⟩,.bool (Lib.cut s.data.toList [91]).2.2]
theorem nH (G:Nat->AV)(hG:GOk G)(s:ByteArray)(h:Hp)(hl:s.size<=1048576):PCall (En G) 232 [.str s,.str ⟨#[91]⟩] h (cutV s):=by
 refine PCall.of_reads (cok 232 G A8) fun g w cargs S ha=>?_
 obtain⟨hsz,hget⟩:=ha
 obtain⟨cv0,cv1,rfl⟩:∃a b,cargs = #[a,b]:=by
  obtain⟨l⟩:=cargs
  match l,hsz with
  | [a,b],_=>exact⟨a,b,rfl⟩
 obtain rfl:=(hget 0 _ cv0 rfl rfl).str_inv;obtain rfl:=(hget 1 _ cv1 rfl rfl).str_inv;obtain⟨z,hz⟩:=hG.mx;have hc:=AQD S hz;have:=Any.strings_Cut A6X s ⟨#[91]⟩ z w U hc;refine⟨_,?_,this⟩;refine .tup _ _ rfl ?_;intro i v cv h1 h2
 match i,h1,h2 with
 | 0,h1,h2=>simp at h1 h2; subst h1; subst h2; exact .str _ _
 | 1,h1,h2=>simp at h1 h2; subst h1; subst h2; exact .str _ _
 | 2,h1,h2=>simp at h1 h2; subst h1; subst h2; exact .bool _ _
def LM (s:ByteArray):Option (List UInt8×UInt8) :=
 if 4<=s.data.toList.length then match s.data.toList.drop (s.data.toList.length-3) with
  | [x,d,y]=>if(y==93&&x==91&&decide (48<=d.toNat)&&decide (d.toNat<56)&&FD ⟨(s.data.toList.take (s.data.toList.length-3)).toArray⟩)=true then some (s.data.toList.take (s.data.toList.length-3),d) else none
  | _=>none
 else none
def elemV (o:Option (List UInt8×UInt8)):AV:=match o with
 | some (a,d)=>.tup [.str ⟨a.toArray⟩,.n ((d.toNat:Int)-48),.bool true]
 | none=>.tup [.str ⟨#[]⟩,.n 0,.bool false]
theorem cS {l:List UInt8}(h:FD ⟨l.toArray⟩=true):l≠[]∧∀b∈l,b≠91:=by
 have hw:UY ⟨l.toArray⟩=true:=by
  unfold FD at h;exact(Bool.and_eq_true_iff.1 (Bool.and_eq_true_iff.1 h).1).1
 unfold UY at hw;obtain⟨h1,h2⟩:=Bool.and_eq_true_iff.1 hw;refine⟨?_,?_⟩
 .intro e; subst e; cases h1
 .intro b hb e
  subst e;have:=List.all_eq_true.1 h2 91 hb
  revert this; decide
theorem three {l:List UInt8}(h:3<=l.length):∃a x d y,l=a++[x,d,y]:=by
 refine⟨l.take (l.length-3),?_⟩;have h1:(l.drop (l.length-3)).length=3:=by simp; omega
 match hm:l.drop (l.length-3),h1 with
 | [x,d,y],_=>exact⟨x,d,y,by rw[<-hm,wL]⟩
theorem dO {a:List UInt8}{x d y:UInt8}(ha:a≠[]):LM ⟨(a++[x,d,y]).toArray⟩=if(y==93&&x==91&&decide (48<=d.toNat)&&decide (d.toNat<56)&&FD ⟨a.toArray⟩)=true then some (a,d) else none:=by
 have hl:0<a.length:=List.length_pos_iff.2 ha;unfold LM;simp only;rw[if_pos NU];have e:(a++[x,d,y]).length-3=a.length:=BA;rw[e,List.drop_left,List.take_left]
theorem nD (s:ByteArray):LM s=if((Lib.cut s.data.toList [91]).2.2&&FD ⟨(Lib.cut s.data.toList [91]).1.toArray⟩)=true then match (Lib.cut s.data.toList [91]).2.1 with
  | [d,y]=>if(y==93&&decide (48<=d.toNat)&&decide (d.toNat<56))=true then some ((Lib.cut s.data.toList [91]).1,d) else none
  | _=>none
 else none:=by
 obtain⟨⟨l⟩⟩:=s
 have hocc:∀i,Lib.occAt l [91] i=true↔l[i]?=some 91:=by
  intro i;unfold Lib.occAt;rcases Nat.lt_or_ge i l.length with h|h
  .rw[zU h,jM h]
   simp [List.isPrefixOf];exact eq_comm
  .rw[List.drop_eq_nil_of_le h,List.getElem?_eq_none h]; simp [List.isPrefixOf]
 -- an element name of the reference's kind
 have main:∀a d,a≠[]->FD ⟨a.toArray⟩=true->l=a++[91,d,93]->Lib.cut l [91]=(a,[d,93],true):=by
  intro a d ha hn hl;obtain⟨_,hne⟩:=cS hn
  have hi:Lib.index l [91]=(a.length:Int):=by
   refine Lib.index_first (by rw[hl]; simp) ((hocc _).2 (by rw[hl]; simp)) fun j hj=>?_
   rw[<-Bool.not_eq_true,hocc,hl,List.getElem?_append_left hj,jM hj];intro e;exact hne _ (List.getElem_mem hj) (Option.some.inj e)
  unfold Lib.cut;rw[hi,if_pos U,wB,hl,List.take_left,<-List.drop_drop,List.drop_left];rfl
 show LM ⟨l.toArray⟩=_;rcases hcase:LM ⟨l.toArray⟩ with _|⟨a,d⟩
 .symm
  show(if _ then _ else none)=none;simp only;split
  .rename_i hb
   rw[jU] at hb;split
   .rename_i d y hm
    split
    .rename_i hd
     exfalso;simp only[jU,beq_iff_eq,decide_eq_true_eq] at hd;obtain⟨⟨rfl,hd1⟩,hd2⟩:=hd;obtain⟨ha,_⟩:=cS hb.2;have hc:Lib.cut l [91]=((Lib.cut l [91]).1,[d,93],true):=by grind
     have hl:l=(Lib.cut l [91]).1++[91,d,93]:=by
      generalize (Lib.cut l [91]).1=b at hc;unfold Lib.cut at hc;split at hc
      .rename_i h0
       obtain⟨i,hi⟩:∃i:Nat,Lib.index l [91]=i:=⟨(Lib.index l [91]).toNat,U⟩;rw[hi] at hc;simp only[wB,Prod.mk.injEq,List.length_singleton] at hc;rcases Lib.index_spec l [91] with⟨h1,_⟩|⟨j,h1,_,h3,_⟩
       .omega
       .have hj:i=j:=U
        subst hj;have h4:=(hocc i).1 h3;have h5:i<l.length:=(List.getElem?_eq_some_iff.1 h4).1;have h6:l[i]=91:=by simp_all
        rw[<-hc.1]
        calc l=l.take i++l.drop i:=(wL i l).symm
         _=l.take i++(l[i]::l.drop (i+1)):=by rw[zU h5]
         _=l.take i++[91,d,93]:=by rw[h6,hc.2.1]
      .simp at hc
     have:=dO (x:=91) (d:=d) (y:=93) ha;rw[<-hl,hcase,if_pos (by simp [hb.2,hd1,hd2])] at this;cases this
    .rfl
   .rfl
  .rfl
 .have h4:4<=l.length:=by
   unfold LM at hcase;simp only at hcase;split at hcase
   .assumption
   .cases hcase
  obtain⟨b,x,d',y,rfl⟩:=three (U:3<=l.length);have hb:b≠[]:=by intro e; subst e; simp at h4
  rw[dO hb] at hcase;split at hcase
  .simp_all
  .cases hcase
end Go.Proofs.YtiihpnicbekebaaGreatDoor.Cov
namespace Go.Proofs.YtiihpnicbekebaaGreatDoor.Cov
open Sm Bins Go.RowKit
variable {a ba c cb dd i k m m2 n u:Nat} {H h h':Hp} {v v1 v2 x:AV} {F:Fr} {row:List AV} {f:Int} {P:Program} {R:AV->Hp->Prop} (G:Nat->AV )
theorem AJA (l:List UInt8):(Lib.cut l [91]).1.length<=l.length:=by
 unfold Lib.cut;split
 .simp only[jV]; exact Nat.min_le_right _ _
 .exact jF _
theorem ixl {l:List UInt8}{b:UInt8}{i:Int}(hi:i=(k:Int))(hb:l[k]?=some b):O9 jA 9 (.str ⟨l.toArray⟩) (.n i)=some (.int .u8 b.toNat):=by
 subst hi;have hk:k<l.length:=(List.getElem?_eq_some_iff.1 hb).1;have:=ix9 ⟨l.toArray⟩ k .i64 hk;rw[this];have h2:(⟨l.toArray⟩:ByteArray)[k]'hk=l[k]:=rfl;rw[h2];rw[jM hk] at hb;rw[Option.some.inj hb]
theorem szl (l:List UInt8):(⟨l.toArray⟩:ByteArray).size=l.length:=rfl
theorem wrap_u8 {n:Int}(h0:0<=n)(h1:n<256):IntKind.u8.wrap n=n:=by
 unfold IntKind.wrap; simp [IntKind.bits,IntKind.signed]; omega
theorem vZ (hG:GOk G)(s:ByteArray)(h:Hp)(hl:s.size<=1048576):PCall (En G) 300 [.str s] h (elemV (LM s)):=by
 refine acL Tryz.func300 [.tmp 2,.tmp 3,.tmp 4] ?_;refine AO ?_;refine(nH G hG s h hl).use ?_;have he:=nD s;have hal:=AJA s.data.toList;unfold cutV
 generalize Lib.cut s.data.toList [91]=c at he hal|-
 obtain⟨a,b,f⟩:=c;have hal2:a.length<=s.size:=BN hal;refine AO ?_;cases f
 .refine AO ?_
  exact⟨by rw[he]; rfl,trivial⟩
 refine AO ?_;refine(LH G hG.kw ⟨a.toArray⟩ h (by rw[szl]; omega)).uu ?_;cases hn:FD ⟨a.toArray⟩
 .refine AO ?_
  exact⟨by rw[he]; simp [hn]; rfl,trivial⟩
 refine BC szl ?_;refine IG ?_ ?_<;>intro hb
 .refine BC hb ?_
  have hne:∀d y,b≠[d,y]:=by
   intro d y e; subst e; simp at hb
  have:LM s=none:=by
   rw[he]; split
   .split
    .rename_i hm; exact absurd hm (hne _ _)
    .rfl
   .rfl
  exact⟨by rw[this]; rfl,trivial⟩
 have h2:b.length=2:=by simp at hb; omega
 match b,h2 with
 | [d,y],_ =>
   have i1:O9 jA 9 (.str ⟨[d,y].toArray⟩) (.n 1)=some (.int .u8 y.toNat):=ixl (k:=1) rfl rfl;have i0:O9 jA 9 (.str ⟨[d,y].toArray⟩) (.n 0)=some (.int .u8 d.toNat):=ixl (k:=0) rfl rfl
   have he2:LM s=if(y==93&&decide (48<=d.toNat)&&decide (d.toNat<56))=true then some (a,d) else none:=by
    rw[he]; simp [hn]
   clear he;refine DT hb i1 i0 ?_;refine IG ?_ ?_<;>intro hc
   .refine BC hc ?_
    have hy:(y==93)=false:=by
     rw[<-Bool.not_eq_true]; intro e; rw[beq_iff_eq] at e; subst e; simp at hc
    exact⟨by rw[he2,hy]; rfl,trivial⟩
   have hy:(y==93)=true:=by
    rw[beq_iff_eq,<-UInt8.toNat_inj];simp at hc; show y.toNat=93; omega
   refine BB hc i0 ?_;refine IG ?_ ?_<;>intro hd
   .refine BC hd ?_
    have:decide (48<=d.toNat)=false:=by simp at hd|-; omega
    exact⟨by rw[he2,this]; simp; rfl,trivial⟩
   have hd1:48<=d.toNat:=by simp at hd; omega
   refine BB hd i0 ?_;refine CE ?_ ?_<;>intro hf
   .refine AO ?_
    have:decide (d.toNat<56)=false:=by simp at hf|-; omega
    exact⟨by rw[he2,this]; simp; rfl,trivial⟩
   have hd2:d.toNat<56:=by simp at hf; omega
   refine AO ?_;refine DV A8 ?_;refine MV @AM9 @tN @ARI i0 (wrap_u8 (n:=(d.toNat:Int)-48) U U) (wrap_i64 (n:=(d.toNat:Int)-48) U U) ?_;exact⟨by rw[he2]; simp [hy,hd1,hd2]; rfl,trivial⟩
theorem AZM {s:ByteArray}(hu:u<=s.size):IX jA h 9 (.str s) none (some (.n (u:Int))) none=some (.str (s.extract 0 u)):=by
 have:Tryz.prog.underlying 9=some .string:=A8;simp [IX,this,G6,hu]
theorem AVU (a b:List UInt8):(⟨(a++b).toArray⟩:ByteArray).extract 0 a.length=⟨a.toArray⟩:=by
 ext1
 simp
theorem AJ8 (s:ByteArray)(h:Hp)(hl:s.size<=1099511627776):PCall (En G) 369 [.str s] h (elemV (LM s)):=by
 refine acL Tryz.func369 [.tmp 2,.tmp 3,.tmp 4] ?_;obtain⟨⟨l⟩⟩:=s;rw[szl] at hl;rcases zF l.length 4 with h4|h4
 .have hd:decide ((l.length:Int)<4)=true:=by simp; omega
  refine BB szl hd ?_
  have:LM ⟨l.toArray⟩=none:=by
   unfold LM; rw[if_neg]; simp; omega
  exact⟨by rw[this]; rfl,trivial⟩
 obtain⟨b,x,d,y,rfl⟩:=three (U:3<=l.length);have hlen:(b++[x,d,y]).length=b.length+3:=BA;rw[hlen] at hl h4;have hbl:0<b.length:=U;have hb:b≠[]:=List.length_pos_iff.1 hbl;have he:=dO (x:=x) (d:=d) (y:=y) hb;generalize hn:FD ⟨b.toArray⟩=nm at he;have i1:O9 jA 9 (.str ⟨(b++[x,d,y]).toArray⟩) (.n ((b.length:Int)+2))=some (.int .u8 y.toNat):=ixl (k:=b.length+2) U BA;have i2:O9 jA 9 (.str ⟨(b++[x,d,y]).toArray⟩) (.n ((b.length:Int)+1))=some (.int .u8 d.toNat):=ixl (k:=b.length+1) U BA;have i3:O9 jA 9 (.str ⟨(b++[x,d,y]).toArray⟩) (.n (b.length:Int))=some (.int .u8 x.toNat):=ixl (k:=b.length) rfl BA;have i4:=AZM (s:=⟨(b++[x,d,y]).toArray⟩) (u:=b.length) (h:=h) (by rw[szl]; omega);rw[AVU] at i4;have hsz:(⟨(b++[x,d,y]).toArray⟩:ByteArray).size=b.length+3:=by rw[szl,hlen]
 generalize (⟨(b++[x,d,y]).toArray⟩:ByteArray)=s at *;have w1:IntKind.i64.wrap (((b.length+3:Nat):Int)-1)=(b.length:Int)+2:=by rw[wrap_i64 U U]; omega
 have w2:IntKind.i64.wrap (((b.length+3:Nat):Int)-2)=(b.length:Int)+1:=by rw[wrap_i64 U U]; omega
 have w3:IntKind.i64.wrap (((b.length+3:Nat):Int)-3)=(b.length:Int):=by rw[wrap_i64 U U]; omega
 have hd8:d.toNat<256:=d.toNat_lt;have w4:IntKind.i64.wrap (d.toNat:Int)=(d.toNat:Int):=wrap_i64 U U;have w5:IntKind.i64.wrap ((d.toNat:Int)-48)=(d.toNat:Int)-48:=wrap_i64 U U;have ha:decide (((b.length+3:Nat):Int)<4)=false:=by simp; omega
 refine aB hsz ha w1 w2 w3 i1 i2 i3 i4 ?_;refine IG ?_ ?_<;>intro hc
 .refine BC hc ?_
  have hy:(y==93)=false:=by
   rw[<-Bool.not_eq_true]; intro e; rw[beq_iff_eq] at e; subst e; simp at hc
  exact⟨by rw[he,hy]; simp; rfl,trivial⟩
 have hy:(y==93)=true:=by
  rw[beq_iff_eq,<-UInt8.toNat_inj];simp at hc; show y.toNat=93; omega
 refine aB hsz hc w1 w2 w3 i1 i2 i3 i4 ?_;refine CE ?_ ?_<;>intro hd
 .refine AO ?_
  have hx:(x==91)=false:=by
   rw[<-Bool.not_eq_true]; intro e; rw[beq_iff_eq] at e; subst e; simp at hd
  exact⟨by rw[he,hx]; simp; rfl,trivial⟩
 have hx:(x==91)=true:=by
  rw[beq_iff_eq,<-UInt8.toNat_inj];simp at hd; show x.toNat=91; omega
 refine bS @ARI hsz w1 w2 w3 i1 i2 i3 i4 w4 w5 ?_;refine IG ?_ ?_<;>intro hf
 .refine BC hf ?_
  have:decide (48<=d.toNat)=false:=by simp at hf|-; omega
  exact⟨by rw[he,this]; simp; rfl,trivial⟩
 have hd1:48<=d.toNat:=by simp at hf; omega
 refine BC hf ?_;refine IG ?_ ?_<;>intro hf
 .refine BC hf ?_
  have:decide (d.toNat<56)=false:=by simp at hf|-; omega
  exact⟨by rw[he,this]; simp; rfl,trivial⟩
 have hd2:d.toNat<56:=by simp at hf; omega
 refine BC hf ?_;refine(OY G ⟨b.toArray⟩ h).use ?_;refine BC hn ?_;cases nm
 .refine AO ?_
  exact⟨by rw[he]; simp; rfl,trivial⟩
 .refine AO ?_
  exact⟨by rw[he]; simp [hy,hx,hd1,hd2]; rfl,trivial⟩
def IJ (s:ByteArray):Bool:=(LM s).isSome||FD s
theorem nE (o:Option (List UInt8×UInt8)):∃a n,elemV o=.tup [.str a,.n n,.bool o.isSome]:=by
 cases o with
 | none=>exact⟨_,_,rfl⟩
 | some x=>exact⟨_,_,rfl⟩
theorem AFD (hG:GOk G)(s:ByteArray)(h:Hp)(hl:s.size<=1048576):PCall (En G) 250 [.str s] h (.bool (IJ s)):=by
 refine acT Tryz.func250 2 ?_;refine AO ?_;refine(vZ G hG s h hl).use ?_;obtain⟨a,n,e⟩:=nE (LM s);rw[e];refine AO ?_;cases hs:(LM s).isSome
 .refine AO ?_
  refine(LH G hG.kw s h U).uu ?_;exact⟨by unfold IJ; rw[hs]; rfl,trivial⟩
 .refine AO ?_
  exact⟨by unfold IJ; rw[hs]; rfl,trivial⟩
theorem ALI (s:ByteArray)(h:Hp)(hl:s.size<=1048576):PCall (En G) 333 [.str s] h (.bool (IJ s)):=by
 refine acT Tryz.func333 2 ?_;refine AO ?_;refine(AJ8 G s h U).use ?_;obtain⟨a,n,e⟩:=nE (LM s);rw[e];refine AO ?_;cases hs:(LM s).isSome
 .refine AO ?_
  refine(OY G s h).uu ?_;exact⟨by unfold IJ; rw[hs]; rfl,trivial⟩
 .refine AO ?_
  exact⟨by unfold IJ; rw[hs]; rfl,trivial⟩
def OW (s:ByteArray):Bool:=s.toList==(⟨#[]⟩:ByteArray).toList
def badO (e:Ex):Bool:=decide (e.op<1)||decide (e.op>25)
def bE (e:Ex):Bool:=((e.op==1)&&(decide (e.n<0)||decide (e.n>65535)))||(!(e.op==1) && !(e.n==0))
def VG (e:Ex):Bool:=(!L6 e.op && !OW e.name) || !V6 e.op e.args.length
def VF (e:Ex):Bool:=((e.op==2) && !IJ e.name)||(((e.op==3)||(e.op==24)) && !FD e.name)
def IA (e:Ex):Int:=if badO e then 1 else if bE e then 1 else if VG e then 1 else if VF e then 7 else 0
theorem AK3 (hG:GOk G)(e:Ex)(h:Hp)(hl:e.name.size<=1048576):PCall (En G) 172 [.agg (AU e)] h (.n (IA e)):=by
 refine ACalls.pure0 rfl ?_;refine acT Tryz.func172 2 ?_;refine MH @bxE @KL ?_;refine UW (fun F H=>F 3=.bool (L6 e.op)∧F 1=.ptr h.length 0 0∧H=h++[zZ 4 [AU e]]) ?_ ?_
 .cases b2:(e.op==2)<;>cases b3:(e.op==3)
  all_goals
   refine KF b2 b3 @KL ?_;exact⟨by simp [L6,b2,b3],trivial,trivial⟩
 rintro F H ⟨f3,f1,rfl⟩;refine KF f1 f3 @KL ?_;refine UW (fun F H=>F 17=.bool (badO e)∧F 3=.bool (L6 e.op)∧F 1=.ptr h.length 0 0∧H=h++[zZ 4 [AU e]]) ?_ ?_
 .cases b2:decide (e.op<1)
  all_goals
   refine P8 b2 f1 f3 @KL ?_;exact⟨by simp [badO,b2],trivial,trivial,trivial⟩
 clear f1 f3;rintro F H ⟨f17,f3,f1,rfl⟩;refine BC f17 ?_;refine CE ?_ ?_<;>intro ho
 .refine AO ?_
  exact⟨by unfold IA; rw[if_pos ho],_,rfl⟩
 refine P8 f1 f3 @KL @dN ?_;refine UW (fun F H=>F 26=.bool (bE e)∧F 3=.bool (L6 e.op)∧F 1=.ptr h.length 0 0∧H=h++[zZ 4 [AU e]]) ?_ ?_
 .cases b1:(e.op==1)<;>cases b2:decide (e.n<0)<;>cases b3:decide (e.n>65535)<;>cases b4:(e.n==0)
  all_goals
   simp -implicitDefEqProofs only[vQ,EJ,Q9,aC,eE,AGT,CV,GG,↓reduceIte,jB,zW,enP,WB,mS,bne,b1,b2,b3,b4,f1,f3,EE ag3,KL,dN];exact⟨by simp [bE,b1,b2,b3,b4],trivial,trivial,trivial⟩
 clear f1 f3 f17;rintro F H ⟨f26,f3,f1,rfl⟩;refine BC f26 ?_;refine CE ?_ ?_<;>intro hn
 .refine AO ?_
  exact⟨by unfold IA; rw[if_neg (by simp [ho]),if_pos hn],_,rfl⟩
 refine KF f1 f3 @RV ?_;refine UW (fun F H=>F 50=.bool (VG e)∧F 3=.bool (L6 e.op)∧F 1=.ptr h.length 0 0∧H=h++[zZ 4 [AU e]]) ?_ ?_
 .cases bm:L6 e.op<;>cases b5:OW e.name
  all_goals
   have b6:=b5;unfold OW at b6;simp -implicitDefEqProofs only[vQ,EJ,Q9,aC,eE,CV,GG,bG,VD,↓reduceIte,jB,zW,enP,eZ,bne,bm,b6,f1,f3,EE ag9,RV,ldE]
  .exact⟨by simp [VG,bm,b5],trivial,trivial,trivial⟩
  all_goals
   refine(oT G e _).use ?_;simp -implicitDefEqProofs only[vQ,EJ,CV,bV,RF,↓reduceIte,jB,bne,bm,f1,f3];exact⟨by simp [VG,bm,b5],trivial,trivial,trivial⟩
 clear f1 f3 f26;rintro F H ⟨f50,f3,f1,rfl⟩;refine BC f50 ?_;refine CE ?_ ?_<;>intro hs
 .refine AO ?_
  exact⟨by unfold IA; rw[if_neg (by simp [ho]),if_neg (by simp [hn]),if_pos hs],_,rfl⟩
 refine P8 f1 f3 @KL @RV ?_
 have fin:∀b,VF e=b->IA e=if b then 7 else 0:=by
  intro b hb;unfold IA; rw[if_neg (by simp [ho]),if_neg (by simp [hn]),if_neg (by simp [hs]),hb]
 cases b2:(e.op==2)
 .refine tJ b2 f1 f3 @KL @RV ?_
  cases b3:(e.op==3)<;>cases b4:(e.op==24)
  all_goals
   refine AD1 b3 b4 f1 f3 @KL @RV ?_
  .exact⟨by rw[fin false (by simp [VF,b2,b3,b4])]; rfl,_,rfl⟩
  all_goals
   refine(LH G hG.kw e.name _ U).use ?_;cases bi:FD e.name
   .refine AO ?_
    exact⟨by rw[fin true (by simp [VF,b2,b3,b4,bi])]; rfl,_,rfl⟩
   .refine AO ?_
    exact⟨by rw[fin false (by simp [VF,b2,b3,b4,bi])]; rfl,_,rfl⟩
 .have e2:e.op=2:=BN b2
  refine tJ b2 f1 f3 @KL @RV ?_;refine(AFD G hG e.name _ hl).use ?_;cases bi:IJ e.name
  .refine AO ?_
   exact⟨by rw[fin true (by simp [VF,b2,bi])]; rfl,_,rfl⟩
  .refine KF f1 @KL e2 ?_
   exact⟨by rw[fin false (by simp [VF,e2,bi])]; rfl,_,rfl⟩
def nV (e:Ex):Bool:=badO e||decide (e.n<0)||decide (e.n>65535)||(!(e.n==0) && !(e.op==1))||(!OW e.name && !L6 e.op)
def ADH (op:Int)(n:Nat):Bool:=((op==23)&&(decide ((n:Int)<3)||decide ((n:Int)>33)||((n:Int)%2==0)))||(!(op==23) && !((n:Int)==arity op))
theorem AWX (op:Int)(n:Nat):ADH op n = !V6 op n:=by
 unfold ADH V6;rcases hc:(op==23) with _|_
 .simp
 .grind
theorem AWY (e:Ex):(nV e||ADH e.op e.args.length)=(badO e||bE e||VG e):=by
 rw[AWX];unfold nV bE VG;rcases h1:(e.op==1) with _|_
 .grind
 .grind
theorem eP (e:Ex):IA e=if nV e then 1 else if ADH e.op e.args.length then 1 else if VF e then 7 else 0:=by
 have:=AWY e;unfold IA
 revert this
 cases nV e<;>cases ADH e.op e.args.length<;>cases badO e<;>cases bE e<;>cases VG e<;>simp
theorem AJW (e:Ex)(h:Hp)(hl:e.name.size<=1048576):PCall (En G) 310 [.agg (AU e)] h (.n (IA e)):=by
 refine ACalls.pure0 rfl ?_;refine acT Tryz.func310 2 ?_;refine MH @bxE @KL ?_;refine UW (fun F H=>F 42=.bool (nV e)∧F 1=.ptr h.length 0 0∧H=h++[zZ 4 [AU e]]) ?_ ?_
 .cases b1:decide (e.op<1)
  case true =>
   refine BC b1 ?_;exact⟨by simp [nV,badO,b1],trivial,trivial⟩
  refine KF b1 @KL @dN ?_;cases b2:decide (e.op>25)
  case true =>
   refine BC b2 ?_;exact⟨by simp [nV,badO,b2],trivial,trivial⟩
  refine KF b2 @KL @dN ?_;have bO:badO e=false:=by unfold badO; rw[b1,b2]; rfl
  cases b3:decide (e.n<0)
  case true =>
   refine BC b3 ?_;exact⟨by simp only[nV,b3]; simp,trivial,trivial⟩
  refine KF b3 @KL @dN ?_;cases b4:decide (e.n>65535)
  case true =>
   refine BC b4 ?_;exact⟨by simp only[nV,b4]; simp,trivial,trivial⟩
  simp -implicitDefEqProofs only[vQ,EJ,CV,↓reduceIte,jB,enP,mS,b4,bne,EE ag3,EE ag9,KL,dN,RV]
  have fin:∀b,((!(e.n==0) && !(e.op==1))||(!OW e.name && !L6 e.op))=b->nV e=b:=by
   intro b hb;unfold nV; rw[bO,b3,b4]; simpa using hb
  cases b5:(e.n==0)<;>cases b6:(e.op==1)<;>cases b7:OW e.name
  all_goals
   have b8:=b7;unfold OW at b8;simp -implicitDefEqProofs only[vQ,EJ,Q9,aC,eE,AGT,CV,GG,bG,VD,↓reduceIte,jB,zW,enP,WB,eZ,bne,b5,b6,b8,EE ag3,EE ag9,KL,dN,RV]
  all_goals first
   | exact⟨by rw[fin _ rfl]; simp [b5,b6,b7],trivial,trivial⟩
   | refine(eQ G e.op _).uu ?_
     exact⟨by rw[fin _ rfl]; simp [b5,b6,b7],trivial,trivial⟩
 rintro F H ⟨f42,f1,rfl⟩;refine BC f42 ?_;refine CE ?_ ?_<;>intro ho
 .refine AO ?_
  exact⟨by rw[eP,if_pos ho],_,rfl⟩
 refine KF f1 @KL @dM ?_;generalize hn:e.args.length=n;have hm:(n:Int).tmod 2=(n:Int)%2:=Int.tmod_eq_emod_of_nonneg U;have br:JM jA 3 .rem (.n (n:Int)) (.n 2)=some (.n ((n:Int)%2)):=by rw[AJH _ _ _ _ _ D5,hm]
 refine UW (fun F H=>F 73=.bool (ADH e.op n)∧F 1=.ptr h.length 0 0∧H=h++[zZ 4 [AU e]]) ?_ ?_
 .cases b1:(e.op==23)
  .simp -implicitDefEqProofs only[vQ,EJ,Q9,aC,AGT,CV,GG,↓reduceIte,jB,enP,WB,bne,b1,f1,EE ag3,KL]
   refine(AMS G e.op _).use ?_;simp -implicitDefEqProofs only[vQ,EJ,Q9,CV,↓reduceIte,jB,enP,bne];exact⟨by unfold ADH; rw[b1]; simp,f1,trivial⟩
  .cases b2:decide ((n:Int)<3)<;>cases b3:decide ((n:Int)>33)<;>cases b4:((n:Int)%2==0)
   all_goals
    simp -implicitDefEqProofs only[vQ,EJ,Q9,aC,eE,AGT,CV,GG,↓reduceIte,jB,zW,enP,WB,bne,b1,b2,b3,b4,br,f1,EE ag3,KL];exact⟨by unfold ADH; rw[b1,b2,b3,b4]; simp,trivial,trivial⟩
 clear f1 f42;rintro F H ⟨f73,f1,rfl⟩;refine BC f73 ?_;subst hn;refine CE ?_ ?_<;>intro hs
 .refine AO ?_
  exact⟨by rw[eP,if_neg (by simp [ho]),if_pos hs],_,rfl⟩
 refine KF f1 @KL @RV ?_
 have fin:∀b,VF e=b->IA e=if b then 7 else 0:=by
  intro b hb;rw[eP,if_neg (by simp [ho]),if_neg (by simp [hs]),hb]
 cases b2:(e.op==2)
 .refine P8 b2 f1 @KL @RV ?_
  refine(eQ G e.op _).use ?_;cases bm:L6 e.op
  .have hv:VF e=false:=by
    unfold L6 at bm; simp only[Bool.or_eq_false_iff] at bm;simp [VF,bm.1.1,bm.1.2,bm.2]
   refine AO ?_;exact⟨by rw[fin false hv]; rfl,_,rfl⟩
  have hv:VF e = !FD e.name:=by
   unfold L6 at bm; rw[b2] at bm; simp only[wM] at bm;unfold VF; rw[b2,bm]; simp
  simp -implicitDefEqProofs only[vQ,EJ,Q9,CV,↓reduceIte,jB,enP,WB,eZ,bne,b2,f1,EE ag9,EE ag3,KL,RV];refine(OY G e.name _).use ?_;cases bi:FD e.name
  .refine AO ?_
   exact⟨by rw[fin true (by rw[hv,bi]; rfl)]; rfl,_,rfl⟩
  .refine AO ?_
   exact⟨by rw[fin false (by rw[hv,bi]; rfl)]; rfl,_,rfl⟩
 .have e2:e.op=2:=BN b2
  have hv:VF e = !IJ e.name:=by
   unfold VF; rw[e2]; simp
  refine P8 b2 f1 @KL @RV ?_;refine(ALI G e.name _ hl).use ?_;cases bi:IJ e.name
  .refine AO ?_
   exact⟨by rw[fin true (by rw[hv,bi]; rfl)]; rfl,_,rfl⟩
  .refine MH f1 @KL ?_
   refine(eQ G e.op _).use ?_;have bm:L6 e.op=true:=by rw[e2]; rfl
   simp -implicitDefEqProofs only[vQ,EJ,Q9,aC,CV,GG,↓reduceIte,jB,zW,enP,WB,bne,bm,f1,EE ag3,KL,b2];exact⟨by rw[fin false (by rw[hv,bi]; rfl)]; rfl,_,rfl⟩
theorem ag230:JF jA 230=some false:=A8
theorem sz230:szO jA 230=some 1:=A8
theorem O3 (h:Hp):GM jA h 79=some (.ptr h.length 0 0,h++[zZ 4 [[.n 0,.n 0,.str ⟨#[]⟩,.sl .nil 0 []]]]):=FV (row:=[.n 0,.n 0,.str ⟨#[]⟩,.sl .nil 0 []]) A8
theorem iB (h:Hp)(e:Ex)(row:List AV)(hr:row.length=4):DW jA (h++[zZ 4 [row]]) 79 (.ptr h.length 0 0) (.agg (AU e))=some (h++[zZ 4 [AU e]]):=by
 rw[SI (O7 (VA e)) (by rw[EP]; exact JL) (by rw[EP,hr]; exact jF _)];have:splice row 0 (AU e)=AU e:=by unfold splice; simp [EP,hr]
 rw[this]
theorem A7M (h:Hp):GM jA h 38=some (.ptr h.length 0 0,h++[zZ 1 [[.n 0]]]):=FV (row:=[.n 0]) A8
theorem al3 (h:Hp):GM jA h 3=some (.ptr h.length 0 0,h++[zZ 1 [[.n 0]]]):=FV (row:=[.n 0]) A8
theorem al123 (h:Hp):GM jA h 230=some (.ptr h.length 0 0,h++[zZ 1 [[.nilfn]]]):=FV (row:=[.nilfn]) A8
theorem H7 {h:Hp}{t:TypeId}{b:Nat}{v:AV}(hag:JF jA t=some false)(hb:h[b]?=some (zZ 1 [[v]])):BU jA h t (.ptr b 0 0)=some v:=by
 rw[BL hag hb (row:=[v]) rfl]; rfl
theorem TV {t:TypeId}{b:Nat}{u:AV}(hs:szO jA t=some 1)(hc:IL u=some [u])(hb:h[b]?=some (zZ 1 [[v]])):DW jA h t (.ptr b 0 0) u=some (h.set b (zZ 1 [[u]])):=by
 rw[IC hc hs hb (row:=[v]) rfl BA]; rfl
theorem A69 (h:Hp)(f:Fn)(a b:List AV):MI h (.fn f a b)=some (.ptr h.length 0 0,h++[zZ 1 [[.fn f a b]]]):=rfl
def Chg (c:Nat)(h h':Hp):Prop:=h.length<=h'.length∧∀b,b<h.length->b≠c->h'[b]?=h[b]?
theorem Chg.refl (c:Nat)(h:Hp):Chg c h h:=⟨jF _,fun _ _ _=>rfl⟩
theorem Chg.trans {a b d:Hp}(h1:Chg c a b)(h2:Chg c b d):Chg c a d :=
 ⟨qW h1.1 h2.1,fun i hi hc=>by rw[h2.2 i (Nat.lt_of_lt_of_le hi h1.1) hc,h1.2 i hi hc]⟩
theorem Chg.app (c:Nat)(h x:Hp):Chg c h (h++x):=⟨BA,fun i hi _=>qC hi⟩
theorem Chg.set (c:Nat)(h:Hp)(x:ABlk):Chg c h (h.set c x):=⟨BA,fun i _ hc=>by rw[zN,if_neg (fun e=>hc e.symm)]⟩
theorem Chg.get {b:Nat}{x:ABlk}(hc:Chg c h h')(hb:h[b]?=some x)(hne:b≠c):h'[b]?=some x:=by
 rw[hc.2 b (AC hb) hne]; exact hb
theorem Chg.above (hc:Chg c h h')(hl:h.length<=c):∃x,h'=h++x:=by
 refine⟨h'.drop h.length,?_⟩
 have:h'.take h.length=h:=by
  refine List.ext_getElem? fun i=>?_
  rcases zF i h.length with hi|hi
  .rw[List.getElem?_take_of_lt hi,hc.2 i hi U]
  .grind
 conv=>lhs; rw[<-wL h.length h',this]
def run (upd:Ex->Int->Int)(cont:Int->Bool):List Ex->Int->Int×Bool
 | [],z=>(z,true)
 | e::es,z=>if cont (upd e z) then run upd cont es (upd e z) else (upd e z,false)
theorem run_go {upd:Ex->Int->Int}{cont:Int->Bool}:∀ {xs:List Ex} (ys:List Ex) {z z':Int},run upd cont xs z=(z',true)->run upd cont (xs++ys) z=run upd cont ys z'
 | [],ys,z,z',h=>by cases h; rfl
 | x::xs,ys,z,z',h=>by
   simp only[run,zB] at h|-
   split at h
   .rename_i hc; rw[if_pos hc]; exact run_go ys h
   .cases h
theorem run_stop {upd:Ex->Int->Int}{cont:Int->Bool}:∀ {xs:List Ex} (ys:List Ex) {z z':Int},run upd cont xs z=(z',false)->run upd cont (xs++ys) z=(z',false)
 | [],ys,z,z',h=>by cases h
 | x::xs,ys,z,z',h=>by
   simp only[run,zB] at h|-
   split at h
   .rename_i hc; rw[if_pos hc]; exact run_stop ys h
   .rename_i hc; rw[if_neg hc]; exact h
theorem QD (xs:List Ex)(j:Nat)(hj:j<xs.length):GH (xs.take (j+1))=GH (xs.take j)++pre xs[j]:=by
 rw[jY hj,QW]; simp [GH]
theorem YY {a:Ex}:∀ {xs:List Ex},a∈xs->∀x∈pre a,x∈GH xs
 | [],h,_,_=>by cases h
 | y::ys,h,x,hx=>by
   simp only[GH,zV]
   cases zM.1 h with
   | inl e=>subst e; exact .inl hx
   | inr e=>exact .inr (YY e x hx)
def AJR (G:Nat->AV)(k:FuncId)(upd:Ex->Int->Int)(cont:Int->Bool)(e:Ex):Prop :=
 ∀(h:Hp) (c:Nat) (z:Int),h[c]?=some (zZ 1 [[.n z]])->ACalls (En G) k [.agg (AU e),.ptr c 0 0] h fun v h'=>v=.bool (cont (upd e z))∧Chg c h h'∧h'[c]?=some (zZ 1 [[.n (upd e z)]])
theorem AMB (k:FuncId)(upd:Ex->Int->Int)(cont:Int->Bool)(c vb db:Nat)(hv:vb≠c)(hd:db≠c)(e:Ex):
  wt e<=1099511627776->(∀x∈pre e,AJR G k upd cont x)->∀(h:Hp) (z:Int),h[c]?=some (zZ 1 [[.n z]])->h[vb]?=some (zZ 1 [[.fn (.func k) [] [.ptr c 0 0]]]) ->
   h[db]?=some (zZ 1 [[.fn (.func 248) [] [.ptr vb 0 0,.ptr db 0 0]]]) ->
   ACalls (En G) 248 [.agg (AU e),.ptr vb 0 0,.ptr db 0 0] h fun v h'=>v=.bool (run upd cont (pre e) z).2∧Chg c h h'∧h'[c]?=some (zZ 1 [[.n (run upd cont (pre e) z).1]]):=by
 induction e using Ex.induct with|h e ih=>?_
 intro hw hvis h z hc hvb hdb;have hcl:=AC hc;have hal:e.args.length<=1099511627776:=by have:=TR e.args; have:=LX e; omega
 refine acT Tryz.func248 4 ?_;simp -implicitDefEqProofs only[vQ,CV,SS,qI,zB,↓reduceIte,jB,enP,bxE,H7 ag230 (AL hvb),ldE];refine(hvis e (by rw[pre_eq]; simp) _ c z (AL hc)).mono ?_;rintro v h1 ⟨rfl,hch,hc1⟩;have hch0:=(Chg.app c h _).trans hch;have hb3:h1[h.length]?=some (zZ 4 [AU e]):=hch.get (A7 _ _) U;have hrun:run upd cont (pre e) z=if cont (upd e z) then run upd cont (GH e.args) (upd e z) else (upd e z,false):=by rw[pre_eq]; rfl
 refine AO ?_;cases hct:cont (upd e z)
 .refine AO ?_
  rw[hrun,hct];exact⟨rfl,hch0,hc1⟩
 rw[hct,if_pos rfl] at hrun;have hvb1:=hch0.get hvb hv;have hdb1:=hch0.get hdb hd;have l3:BU jA h1 23 (.ptr h.length 0 3)=some (.sl e.m 4 (e.args.map AU)):=by rw[BL MO hb3 (row:=AU e) rfl,dM]
 refine BC l3 ?_;refine BI (fun n F H=>∃j z',n+j=e.args.length∧F 1=.ptr vb 0 0∧F 2=.ptr db 0 0∧F 12=.sl e.m 4 (e.args.map AU)∧F 13=.n e.args.length∧F 14=.n (j:Nat)∧Chg c h H∧H[c]?=some (zZ 1 [[.n z']])∧run upd cont (GH (e.args.take j)) (upd e z)=(z',true)) e.args.length ⟨0,upd e z,BA,FI,FI,FI,FI,FI,hch0,hc1,rfl⟩ ?_;rintro n F H ⟨j,z',hj,f1,f2,f12,f13,f14,hC,hcz,hr⟩;refine BB f13 f14 ?_;refine D8 ?_ ?_<;>intro hj'
 .have hdH:H[db]?=some (zZ 1 [[.fn (.func 248) [] [.ptr vb 0 0,.ptr db 0 0]]]):=hC.get hdb hd
  have hvH:H[vb]?=some (zZ 1 [[.fn (.func k) [] [.ptr c 0 0]]]):=hC.get hvb hv;simp -implicitDefEqProofs only[vQ,CV,qI,zB,↓reduceIte,jB,enP,RN,jO,f12,f14,CQ hj',DR O5 JL EP hj',O3,iB _ _ [.n 0,.n 0,.str ⟨#[]⟩,.sl .nil 0 []] rfl,f2,H7 ag230 (AL hdH),ldE];have hmem:e.args[j]∈e.args:=jH hj';refine(ih e.args[j] hmem (by have:=VR hmem; have:=LX e; omega) (fun x hx=>hvis x (by rw[pre_eq]; exact List.mem_cons_of_mem _ (YY hmem x hx))) _ z' (AL hcz) (AL hvH) (AL hdH)).mono ?_;rintro v h2 ⟨rfl,hch2,hc2⟩;have hC2:=hC.trans ((Chg.app c H _).trans hch2)
  have hsplit:GH e.args=GH (e.args.take j)++(pre e.args[j]++GH (e.args.drop (j+1))):=by
   rw[<-zG,<-QD _ _ hj',<-QW,wL]
  refine AO ?_;rcases hrr:run upd cont (pre e.args[j]) z' with⟨z2,b2⟩;rw[hrr] at hc2;cases b2
  .refine AO ?_
   have:run upd cont (pre e) z=(z2,false):=by rw[hrun,hsplit,run_go _ hr]; exact run_stop _ hrr
   rw[this];exact⟨rfl,hC2,hc2⟩
  .refine MV f1 f2 f12 f13 f14 (DF j) ?_
   refine⟨n-1,U,j+1,z2,U,trivial,trivial,trivial,trivial,rfl,hC2,hc2,?_⟩;rw[QD _ _ hj',run_go _ hr]; exact hrr
 .refine AO ?_
  rw[jI U] at hr;rw[hrun,hr];exact⟨rfl,hC,hcz⟩
theorem pX (k:FuncId)(upd:Ex->Int->Int)(cont:Int->Bool)(c:Nat)(e:Ex)(hw:wt e<=1099511627776)(hvis:∀x∈pre e,AJR G k upd cont x)(h:Hp)(z:Int)(hc:h[c]?=some (zZ 1 [[.n z]])):
  ACalls (En G) 170 [.agg (AU e),.fn (.func k) [] [.ptr c 0 0]] h fun _ h'=>Chg c h h'∧h'[c]?=some (zZ 1 [[.n (run upd cont (pre e) z).1]]):=by
 have hcl:=AC hc;refine acL Tryz.func170 [] ?_;refine DT @bxE @A69 al123 ?_;have g0:(h++[zZ 4 [AU e]]++[zZ 1 [[AV.fn (.func k) [] [.ptr c 0 0]]]]++[zZ 1 [[AV.nilfn]]])[(h++[zZ 4 [AU e]]++[zZ 1 [[AV.fn (.func k) [] [.ptr c 0 0]]]]).length]?=some (zZ 1 [[.nilfn]]):=A7 _ _;simp -implicitDefEqProofs only[vQ,CV,↓reduceIte,jB,enP,TV sz230 (AYX _ _ _) g0]
 generalize hdb:(h++[zZ 4 [AU e]]++[zZ 1 [[AV.fn (.func k) [] [.ptr c 0 0]]]]).length=db at g0|-
 generalize hvb:(h++[zZ 4 [AU e]]).length=vb;have hvl:vb=h.length+1:=by rw[<-hvb]; simp
 have hdl:db=h.length+2:=by rw[<-hdb]; simp
 generalize hH:(h++[zZ 4 [AU e]]++[zZ 1 [[AV.fn (.func k) [] [.ptr c 0 0]]]]++[zZ 1 [[AV.nilfn]]]).set db (zZ 1 [[AV.fn (.func 248) [] [.ptr vb 0 0,.ptr db 0 0]]])=H;have h1:H[db]?=some (zZ 1 [[.fn (.func 248) [] [.ptr vb 0 0,.ptr db 0 0]]]):=by rw[<-hH]; exact CP g0
 have h2:H[vb]?=some (zZ 1 [[.fn (.func k) [] [.ptr c 0 0]]]):=by grind
 have h3:H[h.length]?=some (zZ 4 [AU e]):=by grind
 have h4:H[c]?=some (zZ 1 [[.n z]]):=by grind
 have hC:Chg c h H:=by
  refine⟨by rw[<-hH]; simp,fun b hb hbc=>?_⟩;obtain⟨x,hx⟩:∃x,h[b]?=some x:=⟨_,jM hb⟩;rw[<-hH,hx];exact CZ (AL (AL (AL hx))) U
 simp -implicitDefEqProofs only[vQ,CV,qI,zB,↓reduceIte,jB,enP,H7 ag230 h1,JI h3];refine(AMB G k upd cont c vb db U U e hw hvis H z h4 h2 h1).mono ?_;rintro v h' ⟨rfl,hch,hc1⟩;refine BC @mW ?_;exact⟨hC.trans hch,hc1⟩
theorem AEC (e:Ex):AJR G 251 (fun _ z=>IntKind.i64.wrap (z+1)) (fun _=>true) e:=by
 intro h c z hc;have hcl:=AC hc;refine acT Tryz.func251 3 ?_;simp -implicitDefEqProofs only[vQ,CV,SS,↓reduceIte,jB,enP,jO,bxE,H7 ag3 (AL hc),TV sz3 (bK _ _) (AL hc)];exact⟨trivial,(Chg.app c h _).trans (Chg.set c _ _),CP (AL hc)⟩
theorem AB4 (hG:GOk G)(e:Ex)(hl:e.name.size<=1048576):AJR G 171 (fun e _=>IA e) (fun z=>z==0) e:=by
 intro h c z hc;have hcl:=AC hc;refine acT Tryz.func171 3 ?_;refine BB @bxE @ldE ?_;refine(AK3 G hG e _ hl).use ?_;have hs:=CP (y:=zZ 1 [[.n (IA e)]]) (AL (x:=zZ 4 [AU e]) hc);simp -implicitDefEqProofs only[vQ,CV,↓reduceIte,jB,enP,jO,TV AY9 (bK _ _) (AL hc),H7 ASP hs];exact⟨trivial,(Chg.app c h _).trans (Chg.set c _ _),hs⟩
theorem yX:∀(xs:List Ex) (n:Nat),n+xs.length<=1099511627776->run (fun _ z=>IntKind.i64.wrap (z+1)) (fun _=>true) xs (n:Int)=(((n+xs.length:Nat):Int),true)
 | [],n,_=>rfl
 | x::xs,n,h=>by
   simp only[zO] at h;simp only[run,if_true];rw[wrap_succ U,yX xs (n+1) U,zO];congr 1; omega
def errs (xs:List Ex):Int:=xs.foldl (fun z e=>if z=0 then IA e else z) 0
theorem vV:∀(xs:List Ex) (z:Int),z≠0->xs.foldl (fun z e=>if z=0 then IA e else z) z=z
 | [],_,_=>rfl
 | x::xs,z,h=>by rw[qP,if_neg h]; exact vV xs z h
theorem yY:∀(xs:List Ex),(run (fun e _=>IA e) (fun z=>z==0) xs 0).1=errs xs
 | []=>rfl
 | x::xs=>by
   simp only[run,errs,qP,if_true];rcases hn:(IA x==0) with _|_
   .have:IA x≠0:=BN hn
    rw[vV _ _ this]; rfl
   .have:IA x=0:=BN hn
    rw[this]; simp only[if_true]; exact yY xs
theorem AAK {x e:Ex}(hx:x∈pre e):x.name.size<=wt e:=by
 induction e using Ex.induct with|h e ih=>?_
 rw[pre_eq] at hx;have hw:=LX e;rcases zM.1 hx with rfl|hx
 .omega
 have:∀l:List Ex,(∀a∈l,x∈pre a->x.name.size<=wt a)->x∈GH l->x.name.size<=wts l:=by
  intro l
  induction l with
  | nil=>intro _ h; simp [GH] at h
  | cons y l ih2 =>
    intro hh h;simp only[GH,zV] at h;simp only[wts];rcases h with h|h
    .have:=hh y BA h; omega
    .have:=ih2 (fun a ha=>hh a (by simp [ha])) h; omega
 have:=this e.args (fun a ha=>ih a ha) hx;omega
theorem size_prog (e:Ex)(h:Hp)(hw:wt e<=1099511627776):PCall (En G) 174 [.agg (AU e)] h (.n (pre e).length):=by
 refine ACalls.pure0 rfl ?_;refine acT Tryz.func174 2 ?_;have hg:=A7 (h++[zZ 4 [AU e]]) (zZ 1 [[.n 0]]);have hs:(h++[zZ 4 [AU e]]++[zZ 1 [[.n 0]]]).set (h++[zZ 4 [AU e]]).length (zZ 1 [[.n 0]])=h++[zZ 4 [AU e]]++[zZ 1 [[.n 0]]]:=tS _ _ _;simp -implicitDefEqProofs only[vQ,CV,SS,P9,↓reduceIte,jB,enP,jO,bxE,al3,TV sz3 (bK _ _) hg,hs,JI (AL (A7 h _))];refine(pX G 251 _ _ _ e hw (fun x _=>AEC G x) _ 0 hg).mono ?_;rintro v h' ⟨hch,hc1⟩;refine BC (H7 ag3 hc1) ?_;have:=yX (pre e) 0 (by have:=aM e; omega);simp only[jG] at this;exact⟨by rw[show(0:Int)=((0:Nat):Int) from rfl,this],(((Chg.app _ h _).trans (Chg.app _ _ _)).trans hch).above BA⟩
theorem AFZ (e:Ex):wt e<=1099511627776->∀h:Hp,PCall (En G) 173 [.agg (AU e)] h (.n (dep e)):=by
 induction e using Ex.induct with|h e ih=>?_
 intro hw h;have hal:e.args.length<=1099511627776:=by have:=TR e.args; have:=LX e; omega
 refine ACalls.pure0 rfl ?_;refine acT Tryz.func173 2 ?_;refine MH @bxE @dM ?_;have hdw:dep e<=1099511627776:=qW (ARH e) hw;refine BI (fun n F H=>∃j,n+j=e.args.length∧F 3=.n (deps (e.args.take j):Nat)∧F 7=.sl e.m 4 (e.args.map AU)∧F 8=.n e.args.length∧F 9=.n (j:Nat)∧∃x,H=h++x) e.args.length ⟨0,BA,FI,FI,FI,FI,⟨_,rfl⟩⟩ ?_;rintro n F H ⟨j,hj,f3,f7,f8,f9,x,rfl⟩;refine BB f8 f9 ?_;refine D8 ?_ ?_<;>intro hj'
 .have hmem:e.args[j]∈e.args:=jH hj'
  simp -implicitDefEqProofs only[vQ,CV,↓reduceIte,jB,enP,RN,jO,f3,f7,f9,CQ hj',DR O5 JL EP hj',O3,iB _ _ [.n 0,.n 0,.str ⟨#[]⟩,.sl .nil 0 []] rfl,ldE];refine(ih e.args[j] hmem (by have:=VR hmem; have:=LX e; omega) _).use ?_;refine MV @xQ @lO f7 f8 f9 (DF j) ?_;refine⟨n-1,U,j+1,U,?_,trivial,trivial,rfl,_,by rw[zG]⟩;rw[sR _ _ hj'];congr 1;omega
 .rw[jI U] at f3
  rw[WF] at hdw|-
  refine BB f3 (DF (deps e.args)) ?_;exact⟨trivial,x,rfl⟩
def exE (e:Ex):Int:=if errs (pre e)=0∧(24<dep e∨400<(pre e).length) then 2 else errs (pre e)
def WN (e:Ex):Prop:=wt e<=274877906944∧∀x∈pre e,x.name.size<=1048576
theorem ADV {e:Ex}(hw:wt e<=1048576):WN e:=⟨U,fun x hx=>by have:=AAK hx; omega⟩
theorem UQ (hG:GOk G)(e:Ex)(h:Hp)(hn:WN e):PCall (En G) 96 [.agg (AU e)] h (.n (exE e)):=by
 refine ACalls.pure0 rfl ?_;refine acT Tryz.func96 2 ?_;have hg:=A7 (h++[zZ 4 [AU e]]) (zZ 1 [[.n 0]]);have hs:(h++[zZ 4 [AU e]]++[zZ 1 [[.n 0]]]).set (h++[zZ 4 [AU e]]).length (zZ 1 [[.n 0]])=h++[zZ 4 [AU e]]++[zZ 1 [[.n 0]]]:=tS _ _ _;have hb:=AL (x:=zZ 1 [[.n 0]]) (A7 h (zZ 4 [AU e]));have hw:=hn.1;simp -implicitDefEqProofs only[vQ,CV,SS,P9,↓reduceIte,jB,enP,jO,bxE,A7M,TV AY9 (bK _ _) hg,hs,JI hb];refine(pX G 171 _ _ _ e U (fun x hx=>AB4 G hG x (hn.2 x hx)) _ 0 hg).mono ?_;rintro v h' ⟨hch,hc1⟩;rw[yY] at hc1;have hb':=hch.get hb BA;have hab:=(((Chg.app _ h _).trans (Chg.app _ _ _)).trans hch).above (BA:h.length<=(h++[zZ 4 [AU e]]).length);refine BC (H7 ASP hc1) ?_;rcases he:(errs (pre e)==0) with _|_
 .refine BC (H7 ASP hc1) ?_
  have:errs (pre e)≠0:=BN he;exact⟨by unfold exE; rw[if_neg (fun hh=>this hh.1)],hab⟩
 have he0:errs (pre e)=0:=BN he;refine BC (JI hb') ?_;refine(AFZ G e U _).uu ?_;refine IG ?_ ?_<;>intro hd
 .refine BC hd ?_
  exact⟨by unfold exE; rw[if_pos ⟨he0,.inl (by simp at hd; omega)⟩],hab⟩
 refine BB hd (JI hb') ?_;refine(size_prog G e _ U).uu ?_;refine CE ?_ ?_<;>intro hn
 .refine AO ?_
  exact⟨by unfold exE; rw[if_pos ⟨he0,.inr (by simp at hn; omega)⟩],hab⟩
 .refine BC (H7 ASP hc1) ?_
  exact⟨by unfold exE; rw[if_neg (fun hh=>by simp at hn hd; omega)],hab⟩
theorem N8 (hG:GOk G)(e:Ex)(h:Hp)(hw:wt e<=1048576):PCall (En G) 96 [.agg (AU e)] h (.n (exE e)):=UQ G hG e h (ADV hw)
theorem TJ {E:Env}{H:Hint}{x y:Code}{Q:AEx->Fr->Hp->Prop}{b:Bool}(N R:Fr->Hp->Prop)(h1:b=true->awp E H x F h (APD N R))(h2:b=false->awp E H y F h (APD N R))(hn:∀F h,N F h->Q .normal F h)(hr:∀F h,R F h->Q .ret F h):
 gY E H x y F h Q (.bool b):=⟨fun e=>dW N R (h1 e) hn hr,fun e=>dW N R (h2 e) hn hr⟩
def isB (v:AV)(b:Nat):Prop:=match v with
 | .own b' _ _=>b'=b
 | _=>False
def sv (h:Hp)(m:Nat)(v:AV):Prop:=∃vs:List ByteArray,vs.length<=m∧((vs=[]∧∃k,v=.sl .nil k [])∨∃b,v=.own b 0 vs.length∧h[b]?=some (zZ 1 (vs.map qencStr)))
theorem AU8 (k:Nat)(v:ByteArray)(h:Hp):PCall (En G) 311 [.sl .nil k [],.str v] h (.bool false):=by
 refine acT Tryz.func311 4 ?_;refine AO ?_;refine BI (fun n F H=>F 0=.sl .nil k []∧F 5=.n 0∧H=h) 0 ⟨rfl,rfl,rfl⟩ ?_;rintro n F H ⟨f0,f5,rfl⟩;refine MH f0 f5 ?_;have:decide ((0:Int)<((0:Nat):Int))=false:=BA;refine BC @this ?_;exact JH
theorem row_map {α:Type}{f:α->List AV}{xs:List α}(hk:k<xs.length):(xs.map f)[k]?=some (f xs[k]):=by simp_all
theorem IK {x:Hp}{y:ABlk}{b:Nat}(hb:h[b]?=some y):(h++x)[b]?=some y:=by grind
theorem AU7 (xs:List ByteArray)(b:Nat)(v:ByteArray)(h:Hp)(hb:h[b]?=some (zZ 1 (xs.map qencStr)))(hl:xs.length<=1099511627776):
  PCall (En G) 311 [.own b 0 xs.length,.str v] h (.bool (IR xs v)):=by
 refine acT Tryz.func311 4 ?_;refine AO ?_;refine BI (fun n F H=>∃k,n+k=xs.length∧F 0=.own b 0 xs.length∧F 1=.str v∧F 5=.n (k:Nat)∧H=h∧IR xs v=IR (xs.drop k) v) xs.length ⟨0,BA,rfl,rfl,rfl,rfl,rfl⟩ ?_;rintro n F H ⟨k,hk,f0,f1,f5,rfl,hin⟩;refine DT f0 f1 f5 ?_;refine D8 ?_ ?_<;>intro hc'
 .have hs:IR (xs.drop k) v=((v.toList==xs[k].toList)||IR (xs.drop (k+1)) v):=MG _ xs k hc'
  have l1:BU jA H 9 (.ptr b k 0)=some (.str xs[k]):=by rw[BL ag9 hb (row:=qencStr xs[k]) (row_map hc')]; rfl
  simp -implicitDefEqProofs only[vQ,CV,NT,↓reduceIte,jB,enP,ZY,f0,f1,f5,H8 hb hc',l1];refine CE ?_ ?_<;>intro hb
  .refine AO ?_
   refine⟨?_,trivial⟩;rw[hin,hs,show(v.toList==xs[k].toList)=true by rw[BEq.comm]; exact hb]; rfl
  .refine BB f5 (DF k) ?_
   refine⟨n-1,U,k+1,U,f0,f1,rfl,trivial,?_⟩;rw[hin,hs,show(v.toList==xs[k].toList)=false by rw[BEq.comm]; exact hb]; rfl
 .refine AO ?_
  exact⟨by rw[hin,jX U]; rfl,trivial⟩
theorem AQB (s:ByteArray)(hv:sv h m v)(hm:m<=1099511627776):∃r,PCall (En G) 311 [v,.str s] h (.bool r):=by
 obtain⟨vs,hl,⟨_,k,rfl⟩|⟨b,rfl,hb⟩⟩:=hv
 .exact⟨_,AU8 G k s h⟩
 .exact⟨_,AU7 G vs b s h hb U⟩
theorem AR3 (h:Hp)(s:ByteArray):C9 jA false h 121 1 [(0,.str s)]=some (.sl .full 1 [[.str s]],h):=A8
theorem ASM (s:ByteArray)(hv:sv h m v)(hm:m<=1099511627776):∃v' h',EG jA true h 121 121 v (.sl .full 1 [[.str s]])=some (v',h')∧sv h' (m+1) v'∧(∀b,isB v' b->b=h.length) ∧
  h.length<=h'.length∧∀b,b<h.length->¬isB v b->h'[b]?=h[b]? := by
 obtain⟨vs,hl,⟨rfl,k,rfl⟩|⟨b,rfl,hb⟩⟩:=hv
 .refine⟨_,_,SE ANP sz9 AM4 ARV (G5 h .full 1 [[.str s]]) BA (IV BA U),⟨[s],BA,.inr ⟨h.length,rfl,A7 _ _⟩⟩,fun b hb=>hb.symm,BA,fun b hb _=>qC hb⟩
 .have hc:JB h (.own b 0 vs.length)=some (1,vs.map qencStr):=by
   rw[JS hb BA,zI,jI BA]
  refine⟨_,_,QT ANP sz9 AM4 ARV hc (G5 h .full 1 [[.str s]]) BA (by unfold room; simp; omega),⟨vs++[s],by simp; omega,.inr ⟨h.length,BA,by simp [qencStr]⟩⟩,fun b hb=>hb.symm,BA,fun o ho hn=>?_⟩;rw[qC (BN ho)];have hn':¬b=o:=hn;rw[zN,if_neg hn']
def wRow (n dd:Nat)(f:Int)(v1 v2:AV):List AV:=[.n n,.n dd,.n f,v1,v2]
structure St (h:Hp) (c m1 m2 n dd:Nat) (f:Int) (v1 v2:AV):Prop where
 w:h[c]?=some (zZ 5 [wRow n dd f v1 v2])
 s1:sv h m1 v1
 s2:sv h m2 v2
 ap:∀b,isB v1 b->¬isB v2 b
theorem sv.b {h:Hp}{m:Nat}{v:AV}{b:Nat}(hs:sv h m v)(hb:isB v b):∃vs:List ByteArray,h[b]?=some (zZ 1 (vs.map qencStr)):=by
 obtain⟨vs,_,⟨_,k,rfl⟩|⟨b',rfl,h'⟩⟩:=hs
 .exact hb.elim
 .cases hb; exact⟨vs,h'⟩
theorem sv.ne {b:Nat}(hs:sv h m v)(hc:h[c]?=some (zZ 5 [row]))(hb:isB v b):b≠c:=by
 intro e; subst e;obtain⟨vs,h'⟩:=hs.b hb;rw[h'] at hc; cases hc
theorem sv.keep {m':Nat}(hs:sv h m v)(hm:m<=m')(hk:∀b,isB v b->h'[b]?=h[b]?):sv h' m' v:=by
 obtain⟨vs,hl,⟨e,k,rfl⟩|⟨b,rfl,hb⟩⟩:=hs
 .exact⟨vs,U,.inl ⟨e,k,rfl⟩⟩
 .exact⟨vs,U,.inr ⟨b,rfl,by rw[hk b rfl]; exact hb⟩⟩
structure Ch (c:Nat) (v1 v2:AV) (h:Hp) (v1' v2':AV) (h':Hp):Prop where
 len:h.length<=h'.length
 get:∀b,b<h.length->b≠c->¬isB v1 b->¬isB v2 b->h'[b]?=h[b]?
 n1:∀b,isB v1' b->isB v1 b∨h.length<=b
 n2:∀b,isB v2' b->isB v2 b∨h.length<=b
theorem Ch.refl (c:Nat)(v1 v2:AV)(h:Hp):Ch c v1 v2 h v1 v2 h:=⟨jF _,fun _ _ _ _ _=>rfl,fun _ h=>.inl h,fun _ h=>.inl h⟩
theorem Ch.trans {u1 u2 w1 w2:AV}{a b d:Hp}(h1:Ch c v1 v2 a u1 u2 b)(h2:Ch c u1 u2 b w1 w2 d):Ch c v1 v2 a w1 w2 d:=by
 refine⟨qW h1.len h2.len,fun i hi hc hv hu=>?_,fun i hi=>?_,fun i hi=>?_⟩
 .rw[h2.get i (Nat.lt_of_lt_of_le hi h1.len) hc (fun e=>(h1.n1 i e).elim hv (fun e=>U)) (fun e=>(h1.n2 i e).elim hu (fun e=>U)),h1.get i hi hc hv hu]
 .rcases h2.n1 i hi with h|h
  .exact h1.n1 i h
  .exact .inr (qW h1.len h)
 .rcases h2.n2 i hi with h|h
  .exact h1.n2 i h
  .exact .inr (qW h1.len h)
theorem Ch.app (c:Nat)(v1 v2:AV)(h x:Hp):Ch c v1 v2 h v1 v2 (h++x):=⟨BA,fun _ hi _ _ _=>qC hi,fun _ h=>.inl h,fun _ h=>.inl h⟩
theorem Ch.set (c:Nat)(v1 v2:AV)(h:Hp)(x:ABlk):Ch c v1 v2 h v1 v2 (h.set c x):=⟨BA,fun _ _ hc _ _=>by rw[zN,if_neg (fun e=>hc e.symm)],fun _ h=>.inl h,fun _ h=>.inl h⟩
theorem St.app {m1:Nat}(s:St h c m1 m2 n dd f v1 v2)(x:Hp):St (h++x) c m1 m2 n dd f v1 v2:=by
 have keep:∀v m,sv h m v->sv (h++x) m v:=fun v m hv=>hv.keep (jF _) fun b hb=>by
  obtain⟨vs,h'⟩:=hv.b hb;exact qC (AC h')
 exact⟨IK s.w,keep _ _ s.s1,keep _ _ s.s2,s.ap⟩
theorem St.set {h:Hp}{c m1 m2 n dd:Nat}{f:Int}{v1 v2:AV}(s:St h c m1 m2 n dd f v1 v2)(n' dd':Nat)(f':Int):St (h.set c (zZ 5 [wRow n' dd' f' v1 v2])) c m1 m2 n' dd' f' v1 v2:=by
 have keep:∀v m,sv h m v->sv (h.set c (zZ 5 [wRow n' dd' f' v1 v2])) m v:=fun v m hv=>hv.keep (jF _) fun b hb=>by
  rw[zN,if_neg (fun e=>hv.ne s.w hb e.symm)]
 exact⟨CP s.w,keep _ _ s.s1,keep _ _ s.s2,s.ap⟩
section
variable {h:Hp} {c m1 m2 n dd:Nat} {f:Int} {v1 v2:AV} (s:St h c m1 m2 n dd f v1 v2)
include s
theorem St.l0:BU jA h 3 (.ptr c 0 0)=some (.n n):=by rw[BL ag3 s.w (row:=wRow n dd f v1 v2) rfl]; rfl
theorem St.l1:BU jA h 3 (.ptr c 0 1)=some (.n dd):=by rw[BL ag3 s.w (row:=wRow n dd f v1 v2) rfl]; rfl
theorem St.l2:BU jA h 38 (.ptr c 0 2)=some (.n f):=by rw[BL ASP s.w (row:=wRow n dd f v1 v2) rfl]; rfl
theorem St.l3:BU jA h 121 (.ptr c 0 3)=some v1:=by rw[BL eA s.w (row:=wRow n dd f v1 v2) rfl]; rfl
theorem St.l4:BU jA h 121 (.ptr c 0 4)=some v2:=by rw[BL eA s.w (row:=wRow n dd f v1 v2) rfl]; rfl
theorem St.t0 (x:Nat):DW jA h 3 (.ptr c 0 0) (.n x)=some (h.set c (zZ 5 [wRow x dd f v1 v2])):=by
 rw[IC (bK _ _) sz3 s.w (row:=wRow n dd f v1 v2) rfl (by simp [wRow])]; rfl
theorem St.t1 (x:Nat):DW jA h 3 (.ptr c 0 1) (.n x)=some (h.set c (zZ 5 [wRow n x f v1 v2])):=by
 rw[IC (bK _ _) sz3 s.w (row:=wRow n dd f v1 v2) rfl (by simp [wRow])]; rfl
theorem St.t2 (x:Int):DW jA h 38 (.ptr c 0 2) (.n x)=some (h.set c (zZ 5 [wRow n dd x v1 v2])):=by
 rw[IC (bK _ _) AY9 s.w (row:=wRow n dd f v1 v2) rfl (by simp [wRow])]; rfl
end
theorem St.app3 {m1:Nat}(s:St h c m1 m2 n dd f v1 v2)(x:ByteArray)(hm:m1<=1099511627776):
  ∃ v' h',EG jA true h 121 121 v1 (.sl .full 1 [[.str x]])=some (v',h')∧DW jA h' 121 (.ptr c 0 3) v'=some (h'.set c (zZ 5 [wRow n dd f v' v2])) ∧
    St (h'.set c (zZ 5 [wRow n dd f v' v2])) c (m1+1) m2 n dd f v' v2∧Ch c v1 v2 h v' v2 (h'.set c (zZ 5 [wRow n dd f v' v2])):=by
 obtain⟨v',h',ha,hs,hb,hl,hk⟩:=ASM x s.s1 hm;have hc1:¬isB v1 c:=fun e=>s.s1.ne s.w e rfl
 have hc2:¬isB v2 c:=fun e=>s.s2.ne s.w e rfl
 have hcl:=AC s.w;have hw:h'[c]?=some (zZ 5 [wRow n dd f v1 v2]):=by rw[hk c hcl hc1]; exact s.w
 have hvc:∀b,isB v' b->b≠c:=fun b hb' e=>by have:=hb b hb'; omega
 have hac:IL v'=some [v']:=by
  obtain⟨vs,_,⟨_,k,rfl⟩|⟨b,rfl,_⟩⟩:=hs<;>rfl
 refine⟨v',h',ha,by rw[IC hac ANZ hw (row:=wRow n dd f v1 v2) rfl (by simp [wRow])]; rfl,⟨CP hw,hs.keep (jF _) fun b hb'=>?_,s.s2.keep (jF _) fun b hb'=>?_,fun b h1 h2=>?_⟩,⟨BN hl,fun b hbl hne h1 h2=>?_,fun b hb'=>.inr (by rw[hb b hb']; exact jF _),fun b hb'=>.inl hb'⟩⟩
 .grind
 .obtain⟨_,hx⟩:=s.s2.b hb'
  rw[zN,if_neg (fun e=>hc2 (by rw[e]; exact hb')),hk b (AC hx) (fun e=>s.ap b e hb')]
 .obtain⟨_,hx⟩:=s.s2.b h2
  have:=hb b h1; have:=AC hx; omega
 .grind
theorem St.app4 {m1:Nat}(s:St h c m1 m2 n dd f v1 v2)(x:ByteArray)(hm:m2<=1099511627776):
  ∃ v' h',EG jA true h 121 121 v2 (.sl .full 1 [[.str x]])=some (v',h')∧DW jA h' 121 (.ptr c 0 4) v'=some (h'.set c (zZ 5 [wRow n dd f v1 v'])) ∧
    St (h'.set c (zZ 5 [wRow n dd f v1 v'])) c m1 (m2+1) n dd f v1 v'∧Ch c v1 v2 h v1 v' (h'.set c (zZ 5 [wRow n dd f v1 v'])):=by
 obtain⟨v',h',ha,hs,hb,hl,hk⟩:=ASM x s.s2 hm;have hc1:¬isB v1 c:=fun e=>s.s1.ne s.w e rfl
 have hc2:¬isB v2 c:=fun e=>s.s2.ne s.w e rfl
 have hcl:=AC s.w;have hw:h'[c]?=some (zZ 5 [wRow n dd f v1 v2]):=by rw[hk c hcl hc2]; exact s.w
 have hvc:∀b,isB v' b->b≠c:=fun b hb' e=>by have:=hb b hb'; omega
 have hac:IL v'=some [v']:=by
  obtain⟨vs,_,⟨_,k,rfl⟩|⟨b,rfl,_⟩⟩:=hs<;>rfl
 refine⟨v',h',ha,by rw[IC hac ANZ hw (row:=wRow n dd f v1 v2) rfl (by simp [wRow])]; rfl,⟨CP hw,s.s1.keep (jF _) fun b hb'=>?_,hs.keep (jF _) fun b hb'=>?_,fun b h1 h2=>?_⟩,⟨BN hl,fun b hbl hne h1 h2=>?_,fun b hb'=>.inl hb',fun b hb'=>.inr (by rw[hb b hb']; exact jF _)⟩⟩
 .obtain⟨_,hx⟩:=s.s1.b hb'
  rw[zN,if_neg (fun e=>hc1 (by rw[e]; exact hb')),hk b (AC hx) (fun e=>s.ap b hb' e)]
 .grind
 .obtain⟨_,hx⟩:=s.s1.b h1
  have:=hb b h2; have:=AC hx; omega
 .grind
def ZN (z:Int)(xs:List Ex):Int:=xs.foldl (fun z e=>if z=0 then IA e else z) z
theorem ACA (z:Int)(xs ys:List Ex):ZN z (xs++ys)=ZN (ZN z xs) ys:=List.foldl_append
theorem St.weak {m1 m1' m2':Nat}(s:St h c m1 m2 n dd f v1 v2)(h1:m1<=m1')(h2:m2<=m2'):St h c m1' m2' n dd f v1 v2 :=
 ⟨s.w,s.s1.keep h1 fun _ _=>rfl,s.s2.keep h2 fun _ _=>rfl,s.ap⟩
def Md (e:Ex)(c d:Nat)(v1 v2:AV)(h:Hp)(m1 m2 n dd:Nat)(f:Int)(F:Nat->AV)(H:Hp):Prop :=
 F 0=.ptr c 0 0∧F 2=.n (d:Nat)∧F 4=.ptr h.length 0 0∧∃u1 u2,St H c m1 m2 n dd f u1 u2∧Ch c v1 v2 (h++[zZ 4 [AU e]]) u1 u2 H
theorem AAI (xs:List Ex):(GH xs).length<=wts xs:=by
 induction xs with
 | nil=>simp [GH,wts]
 | cons x xs ih=>have:=aM x; simp only[GH,wts,zA]; omega
theorem xR:∀(xs:List Ex) (j:Nat) (hj:j<xs.length),wts (xs.take j)+wt xs[j]<=wts xs
 | x::xs,0,_=>by simp [wts]
 | x::xs,j+1,h=>by
   have:=xR xs j (BN h);simp only[List.take_succ_cons,wts,List.getElem_cons_succ]; omega
theorem dP:∀(xs:List Ex) (j:Nat),deps (xs.take j)<=wts xs
 | [],j=>by simp [deps,wts]
 | x::xs,0=>by simp [deps]
 | x::xs,j+1=>by
   have h1:=dP xs j;have h2:=ARH x;simp only[List.take_succ_cons,deps,wts]; omega
theorem ATR (c:Nat)(e:Ex):WN e->∀(h:Hp) (d n dd:Nat) (f:Int) (v1 v2:AV),d+wt e<=549755813888->n+wt e<=549755813888->dd<=1099511627776->St h c n n n dd f v1 v2 ->
  ACalls (En G) 270 [.ptr c 0 0,.agg (AU e),.n (d:Nat)] h fun _ h'=>∃u1 u2,St h' c (n+(pre e).length) (n+(pre e).length) (n+(pre e).length) (max dd (d+deps e.args)) (ZN f (pre e)) u1 u2∧Ch c v1 v2 h u1 u2 h':=by
 induction e using Ex.induct with|h e ih=>?_
 intro hwn h d n dd f v1 v2 hd hn hdd s;have hw:=hwn.1;have hnm:e.name.size<=1048576:=hwn.2 e (by rw[pre_eq]; simp);have hal:e.args.length<=wts e.args:=TR e.args;have hwe:=LX e;have hcl:=AC s.w
 have hbox:∀(u1 u2:AV) (H:Hp),Ch c v1 v2 (h++[zZ 4 [AU e]]) u1 u2 H->H[h.length]?=some (zZ 4 [AU e]):=by
  intro u1 u2 H hC;rw[hC.get h.length BA U (fun hb=>?_) (fun hb=>?_)]
  .exact A7 _ _
  .obtain⟨_,hx⟩:=s.s1.b hb
   have:=AC hx; omega
  .obtain⟨_,hx⟩:=s.s2.b hb
   have:=AC hx; omega
 have lb0:∀H:Hp,H[h.length]?=some (zZ 4 [AU e])->BU jA H 3 (.ptr h.length 0 0)=some (.n e.op):=fun H hH=>by rw[BL ag3 hH (row:=AU e) rfl,KL]
 have lb2:∀H:Hp,H[h.length]?=some (zZ 4 [AU e])->BU jA H 9 (.ptr h.length 0 2)=some (.str e.name):=fun H hH=>by rw[BL ag9 hH (row:=AU e) rfl,RV]
 have lb3:∀H:Hp,H[h.length]?=some (zZ 4 [AU e])->BU jA H 23 (.ptr h.length 0 3)=some (.sl e.m 4 (e.args.map AU)):=fun H hH=>by rw[BL MO hH (row:=AU e) rfl,dM]
 refine H6 (H:=hint [56,85] []) (enM G) Tryz.func270 rfl (by kernel_rfl) (by kernel_rfl) (jC (by kernel_rfl)) ?_;show awp _ _ _ _ _ (LU _ [] _);have s0:=s.app [zZ 4 [AU e]];have c0:=Ch.app c v1 v2 h [zZ 4 [AU e]];refine MV @AIM @vN @bxE @s0.l0 (DF n) @s0.t0 ?_;have s1:=s0.set (n+1) dd f;have c1:=Ch.set c v1 v2 (h++[zZ 4 [AU e]]) (zZ 5 [wRow (n+1) dd f v1 v2]);clear s0
 generalize (h++[zZ 4 [AU e]]).set c (zZ 5 [wRow (n+1) dd f v1 v2])=H1 at s1 c1|-
 refine BC @s1.l1 ?_;refine TJ (Md e c d v1 v2 h n n (n+1) (max dd d) f) (fun _ _=>False) (fun hb=>?_) (fun hb=>?_) ?_ (fun _ _ hh=>hh.elim)
 .refine BB @vN @s1.t1 ?_
  refine⟨rfl,rfl,rfl,v1,v2,?_,c1.trans (Ch.set c _ _ _ _)⟩;have:max dd d=d:=by simp at hb; omega
  rw[this];exact s1.set (n+1) d f
 .refine AO ?_
  refine⟨rfl,rfl,rfl,v1,v2,?_,c1⟩;have:max dd d=dd:=by simp at hb; omega
  rw[this];exact s1
 clear s1 c1;rintro F H ⟨f0,f2,f4,u1,u2,s,hC⟩;refine DT @dG f0 @s.l2 ?_;refine TJ (Md e c d v1 v2 h n n (n+1) (max dd d) (ZN f [e])) (fun _ _=>False) (fun hb=>?_) (fun hb=>?_) ?_ (fun _ _ hh=>hh.elim)
 .refine E8 f0 f2 f4 (JI (hbox _ _ _ hC)) ?_
  refine(AJW G e _ hnm).use ?_;refine I7 @dG @s.t2 f0 f2 f4 ?_;refine⟨f0,f2,f4,u1,u2,?_,hC.trans (Ch.set c _ _ _ _)⟩
  have:ZN f [e]=IA e:=by
   have:f=0:=BN hb;subst this; rfl
  rw[this];exact s.set _ _ _
 .refine AO ?_
  refine⟨f0,f2,f4,u1,u2,?_,hC⟩
  have:ZN f [e]=f:=by
   have:f≠0:=BN hb;show(if f=0 then IA e else f)=f;rw[if_neg this]
  rw[this]; exact s
 clear f0 f2 f4 s hC;rintro F H ⟨f0,f2,f4,u1,u2,s,hC⟩;refine AO ?_;refine DV A8 ?_;have hB:=hbox _ _ _ hC;refine AS9 (fun F H=>(∃b,F 47=.bool b)∧Md e c d v1 v2 h n n (n+1) (max dd d) (ZN f [e]) F H) ?_ ?_
 .cases b2:(e.op==2)
  .refine I7 f0 f2 f4 (lb0 _ hB) b2 ?_
   exact⟨⟨_,rfl⟩,f0,f2,f4,u1,u2,s,hC⟩
  .obtain⟨r,hr⟩:=AQB G e.name s.s1 U
   refine PG @AIL f0 f2 f4 (lb0 _ hB) (lb2 _ hB) b2 @s.l3 ?_;refine⟨_,hr,?_⟩;refine DT f0 f2 f4 ?_;exact⟨⟨_,rfl⟩,f0,f2,f4,u1,u2,s,hC⟩
 clear f0 f2 f4 s hC hB;rintro F H ⟨⟨b,f47⟩,f0,f2,f4,u1,u2,s,hC⟩;have hB:=hbox _ _ _ hC;refine BC f47 ?_;refine TJ (Md e c d v1 v2 h (n+1) n (n+1) (max dd d) (ZN f [e])) (fun _ _=>False) (fun hb=>?_) (fun hb=>?_) ?_ (fun _ _ hh=>hh.elim)
 .obtain⟨v',H',ha,ht,s',hC'⟩:=s.app3 e.name U
  refine DV A8 ?_;refine aB @AIL f0 f2 f4 (lb2 _ hB) @s.l3 AR3 ha ht ?_;exact⟨f0,f2,f4,_,_,s',hC.trans hC'⟩
 .refine AO ?_
  exact⟨f0,f2,f4,_,_,s.weak U U,hC⟩
 clear f0 f2 f4 s hC hB;rintro F H ⟨f0,f2,f4,u1,u2,s,hC⟩;have hB:=hbox _ _ _ hC;refine AO ?_;refine DV A8 ?_;refine AS9 (fun F H=>(∃b,F 76=.bool b)∧Md e c d v1 v2 h (n+1) n (n+1) (max dd d) (ZN f [e]) F H) ?_ ?_
 .obtain⟨r,hr⟩:=AQB G e.name s.s2 U
  cases b2:(e.op==3)
  .cases b3:(e.op==24)
   .refine MV f0 f2 f4 (lb0 _ hB) b2 b3 ?_
    exact⟨⟨_,rfl⟩,f0,f2,f4,u1,u2,s,hC⟩
   .refine aB @vM f0 f2 f4 (lb0 _ hB) (lb2 _ hB) b2 b3 @s.l4 ?_
    refine⟨_,hr,?_⟩;refine DT f0 f2 f4 ?_;exact⟨⟨_,rfl⟩,f0,f2,f4,u1,u2,s,hC⟩
  .refine PG @vM f0 f2 f4 (lb0 _ hB) (lb2 _ hB) b2 @s.l4 ?_
   refine⟨_,hr,?_⟩;refine DT f0 f2 f4 ?_;exact⟨⟨_,rfl⟩,f0,f2,f4,u1,u2,s,hC⟩
 clear f0 f2 f4 s hC hB f47;rintro F H ⟨⟨b,f76⟩,f0,f2,f4,u1,u2,s,hC⟩;have hB:=hbox _ _ _ hC;refine BC f76 ?_;refine TJ (Md e c d v1 v2 h (n+1) (n+1) (n+1) (max dd d) (ZN f [e])) (fun _ _=>False) (fun hb=>?_) (fun hb=>?_) ?_ (fun _ _ hh=>hh.elim)
 .obtain⟨v',H',ha,ht,s',hC'⟩:=s.app4 e.name U
  refine DV A8 ?_;refine aB @vM f0 f2 f4 (lb2 _ hB) @s.l4 AR3 ha ht ?_;exact⟨f0,f2,f4,_,_,s',hC.trans hC'⟩
 .refine AO ?_
  exact⟨f0,f2,f4,_,_,s.weak U U,hC⟩
 clear f0 f2 f4 s hC hB f76;rintro F H ⟨f0,f2,f4,u1,u2,s,hC⟩;refine AO ?_;refine BI (fun k F H=>∃j,k+j=e.args.length∧F 6=.n (j:Nat)∧Md e c d v1 v2 h (n+1+(GH (e.args.take j)).length) (n+1+(GH (e.args.take j)).length) (n+1+(GH (e.args.take j)).length) (max dd (d+deps (e.args.take j))) (ZN (ZN f [e]) (GH (e.args.take j))) F H) e.args.length ⟨0,BA,rfl,f0,f2,f4,u1,u2,s,hC⟩ ?_;clear f0 f2 f4 s hC;rintro k F H ⟨j,hj,f6,f0,f2,f4,u1,u2,s,hC⟩;have hB:=hbox _ _ _ hC;refine DT f6 f4 (lb3 _ hB) ?_;refine D8 ?_ ?_<;>intro hj'
 .have hmem:e.args[j]∈e.args:=jH hj'
  have hwa:=VR hmem
  have hpl:(GH (e.args.take j)).length+(pre e.args[j]).length<=wts e.args:=by
   have h1:=AAI e.args
   have h2:GH e.args=GH (e.args.take j)++(pre e.args[j]++GH (e.args.drop (j+1))):=by
    rw[<-zG,<-QD _ _ hj',<-QW,wL]
   rw[h2] at h1; simp at h1; omega
  have hsp:(GH (e.args.take j)).length+wt e.args[j]<=wts e.args:=by
   have h1:=AAI (e.args.take j);have h2:=xR e.args j hj';omega
  have hdt:deps (e.args.take j)<=wts e.args:=dP e.args j;simp -implicitDefEqProofs only[vQ,List.contains_cons,List.contains_nil,Nat.reduceBEq,Bool.or_false,CV,↓reduceIte,jB,enP,RN,X8,f0,f2,f4,f6,lb3 _ hB,CQ hj',DR O5 JL EP hj',DF d];refine(ih e.args[j] hmem ⟨U,fun x hx=>hwn.2 x (by rw[pre_eq]; exact List.mem_cons_of_mem _ (YY hmem x hx))⟩ H (d+1) _ _ _ u1 u2 U U U s).mono ?_;rintro v H' ⟨w1,w2,s',hC'⟩;refine BB f6 (DF j) ?_;refine⟨k-1,U,j+1,U,rfl,f0,f2,f4,w1,w2,?_,hC.trans hC'⟩;rw[QD _ _ hj',sR _ _ hj',ACA,zA]
  have e1:max (max dd (d+deps (e.args.take j))) (d+1+deps e.args[j].args)=max dd (d+max (deps (e.args.take j)) (dep e.args[j])):=by
   rw[WF]; omega
  rw[e1,Nat.add_assoc (n+1)] at s';exact s'
 .rw[jI U] at s
  refine BC @mW ?_;refine⟨u1,u2,?_,c0.trans hC⟩;have e1:n+1+(GH e.args).length=n+(pre e).length:=by rw[pre_eq]; simp; omega
  have e2:ZN (ZN f [e]) (GH e.args)=ZN f (pre e):=by rw[pre_eq,<-ACA]; rfl
  rw[e1,e2] at s;exact s
theorem A43:G7 jA 263 []=some (.agg [.n 0,.n 0,.n 0,.sl .nil 0 [],.sl .nil 0 []]):=A8
theorem A4K (h:Hp):MI h (.agg [.n 0,.n 0,.n 0,.sl .nil 0 [],.sl .nil 0 []])=some (.ptr h.length 0 0,h++[zZ 5 [wRow 0 0 0 (.sl .nil 0 []) (.sl .nil 0 [])]]):=SC rfl
theorem AO2 (e:Ex)(hwn:WN e)(h:Hp):
  ACalls (En G) 202 [.agg (AU e)] h fun v h'=>∃c m u1 u2,v=.ptr c 0 0∧St h' c m m (pre e).length (dep e) (errs (pre e)) u1 u2∧∃x,h'=h++x:=by
 refine acT Tryz.func202 2 ?_;simp -implicitDefEqProofs only[vQ,CV,AJJ,SS,LD,↓reduceIte,jB,enP,bxE,A43,A4K,JI (AL (A7 h _))];have nb:∀b,¬isB (.sl .nil 0 []) b:=fun b hb=>hb
 have hw:=hwn.1;refine(ATR G _ e hwn _ 1 0 0 0 (.sl .nil 0 []) (.sl .nil 0 []) U U U ⟨A7 _ _,⟨[],BA,.inl ⟨rfl,_,rfl⟩⟩,⟨[],BA,.inl ⟨rfl,_,rfl⟩⟩,fun b hb=>(nb b hb).elim⟩).mono ?_;rintro v h' ⟨u1,u2,s,hC⟩;refine AO ?_;have e1:0+(pre e).length=(pre e).length:=jG _;have e2:max 0 (1+deps e.args)=dep e:=by rw[WF]; omega
 rw[e1,e2] at s;refine⟨_,_,u1,u2,rfl,s,?_⟩;have hC2:=((Ch.app (h++[zZ 4 [AU e]]).length (.sl .nil 0 []) (.sl .nil 0 []) h [zZ 4 [AU e]]).trans (Ch.app _ _ _ _ [zZ 5 [wRow 0 0 0 (.sl .nil 0 []) (.sl .nil 0 [])]])).trans hC;refine Chg.above (c:=(h++[zZ 4 [AU e]]).length) ⟨hC2.len,fun b hb hne=>hC2.get b hb hne (nb b) (nb b)⟩ BA
theorem dJ (e:Ex)(h:Hp)(hw:WN e):PCall (En G) 113 [.agg (AU e)] h (.n (exE e)):=by
 refine ACalls.pure0 rfl ?_;refine acT Tryz.func113 2 ?_;refine BB @bxE @ldE ?_;refine(AO2 G e hw _).mono ?_;rintro v h' ⟨c,m,u1,u2,rfl,s,x,rfl⟩;refine BB @dG @s.l2 ?_;rcases he:(errs (pre e)==0) with _|_
 .refine BB @dG @s.l2 ?_
  have:errs (pre e)≠0:=BN he;exact⟨by unfold exE; rw[if_neg (fun hh=>this hh.1)],_,by rw[zG]⟩
 have he0:errs (pre e)=0:=BN he;refine BB @vN @s.l1 ?_;refine IG ?_ ?_<;>intro hd
 .refine BC hd ?_
  exact⟨by unfold exE; rw[if_pos ⟨he0,.inl (by simp at hd; omega)⟩],_,by rw[zG]⟩
 refine DT @AIM hd @s.l0 ?_;refine CE ?_ ?_<;>intro hn
 .refine AO ?_
  exact⟨by unfold exE; rw[if_pos ⟨he0,.inr (by simp at hn; omega)⟩],_,by rw[zG]⟩
 .refine BB @dG @s.l2 ?_
  exact⟨by unfold exE; rw[if_neg (fun hh=>by simp at hn hd; omega)],_,by rw[zG]⟩
theorem AB7 (e:Ex)(h:Hp)(hw:wt e<=1048576):PCall (En G) 113 [.agg (AU e)] h (.n (exE e)):=dJ G e h (ADV hw)
structure Is where
 m:SM
 l:List Int
def NM (x:Is):List AV:=[.sl x.m 1 (x.l.map qencI)]
theorem mY (x:Is):(NM x)[0]?=some (.sl x.m 1 (x.l.map qencI)):=rfl
theorem mX (x:Is):(NM x).length=1:=rfl
structure Pt where
 name:ByteArray
 ex:Ex
 bm:SM
 bins:List Bin
def FY (p:Pt):List AV:=.str p.name::(AU p.ex++[.sl p.bm 4 (p.bins.map IP)])
theorem AI4 (p:Pt):(FY p)[0]?=some (.str p.name):=rfl
theorem OO (p:Pt):(FY p)[5]?=some (.sl p.bm 4 (p.bins.map IP)):=by unfold FY; rw[EW]; rfl
theorem IW (p:Pt):(FY p).length=6:=by unfold FY; rw[EW]; rfl
theorem fE (p:Pt):(FY p).all AV.leaf=true:=by unfold FY; rw[EW]; rfl
theorem vY (p:Pt):((FY p).drop 1).take 4=AU p.ex:=by unfold FY; rw[EW]; rfl
theorem bxP (h:Hp)(p:Pt):MI h (.agg (FY p))=some (.ptr h.length 0 0,h++[zZ 6 [FY p]]):=by
 have:=SC (h:=h) (fE p);rw[IW] at this; exact this
theorem APN {b:Nat}{p:Pt}(hb:h[b]?=some (zZ 6 [FY p])):BU jA h 79 (.ptr b 0 1)=some (.agg (AU p.ex)):=by
 rw[EH O5 JL hb rfl (by rw[IW]; omega),vY]
structure Cr where
 name:ByteArray
 pm:SM
 pts:List Int
 xm:SM
 excl:List Is
def JK (c:Cr):List AV:=[.str c.name,.sl c.pm 1 (c.pts.map qencI),.sl c.xm 1 (c.excl.map NM)]
theorem AI5 (c:Cr):(JK c)[0]?=some (.str c.name):=rfl
theorem UD (c:Cr):(JK c)[1]?=some (.sl c.pm 1 (c.pts.map qencI)):=rfl
theorem ACH (c:Cr):(JK c)[2]?=some (.sl c.xm 1 (c.excl.map NM)):=rfl
theorem NR (c:Cr):(JK c).length=3:=rfl
theorem bxC (h:Hp)(c:Cr):MI h (.agg (JK c))=some (.ptr h.length 0 0,h++[zZ 3 [JK c]]):=rfl
structure Mo where
 pm:SM
 pts:List Pt
 cm:SM
 crs:List Cr
def DJ (m:Mo):List AV:=[.sl m.pm 6 (m.pts.map FY),.sl m.cm 3 (m.crs.map JK)]
theorem U8 (m:Mo):(DJ m)[0]?=some (.sl m.pm 6 (m.pts.map FY)):=rfl
theorem YA (m:Mo):(DJ m)[1]?=some (.sl m.cm 3 (m.crs.map JK)):=rfl
theorem AQ9 (m:Mo):(DJ m).length=2:=rfl
theorem bxM (h:Hp)(m:Mo):MI h (.agg (DJ m))=some (.ptr h.length 0 0,h++[zZ 2 [DJ m]]):=rfl
def pN:List ByteArray->List ByteArray->Bool
 | _,[]=>false
 | seen,x::xs=>IR seen x||pN (seen++[x]) xs
def PZ (l:List ByteArray):Bool:=pN [] l
theorem SQ (N:List ByteArray)(i:Nat)(hi:i<N.length):pN (N.take i) (N.drop i)=(IR (N.take i) N[i]||pN (N.take (i+1)) (N.drop (i+1))):=by
 rw[zU hi,jY hi]; rfl
theorem GV {α:Type}{l:List α}{hi:i<l.length}{x:α}(h:l[i]?=some x):l[i]=x:=by
 rw[jM hi] at h; exact Option.some.inj h
theorem AHT (x:Bin)(h:Hp):PCall (En G) 164 [.agg (IP x)] h (.str x.name):=by
 refine ACalls.pure0 rfl ?_;refine acT Tryz.func164 2 ?_;refine KF @vI @bxB @AI6 ?_;exact⟨trivial,_,rfl⟩
theorem AKN (xs:List Bin)(m:SM)(h:Hp)(hl:xs.length<=1099511627776):
  PCall (En G) 163 [.sl m 4 (xs.map IP),.fn (.func 164) [] []] h (.bool (PZ (xs.map (·.name)))):=by
 refine acT Tryz.func163 4 ?_;refine AO ?_;generalize hN:xs.map (·.name)=N;have hNl:N.length=xs.length:=by rw[<-hN]; simp
 have hNi:∀i (hi:i<xs.length),N[i]?=some xs[i].name:=fun i hi=>by rw[<-hN,jZ,jM hi]; rfl
 refine BI (fun n F H=>∃i,n+i=xs.length∧F 0=.sl m 4 (xs.map IP)∧F 1=.fn (.func 164) [] []∧F 8=.n xs.length∧F 9=.n (i:Nat)∧H=h∧PZ N=pN (N.take i) (N.drop i)) xs.length ⟨0,BA,AQ,AQ,AQ,AQ,rfl,rfl⟩ ?_;rintro n F H ⟨i,hi,f0,f1,f8,f9,rfl,hd⟩;refine BB f8 f9 ?_;refine D8 ?_ ?_<;>intro hi'
 .have hdrop:=SQ N i U
  rw[GV (hNi i hi')] at hdrop;refine BC f9 ?_;refine ET 2 (fun F' H'=>F' 0=.sl m 4 (xs.map IP)∧F' 1=.fn (.func 164) [] []∧F' 8=.n xs.length∧F' 9=.n (i:Nat)∧H'=H∧IR (N.take i) xs[i].name=false) (fun F' H'=>F' 4=.bool (PZ N)∧H'=H) ?_ ?_ ?_
  .refine BI (fun n F' H'=>∃k,n+k=i∧F' 0=.sl m 4 (xs.map IP)∧F' 1=.fn (.func 164) [] []∧F' 8=.n xs.length∧F' 9=.n (i:Nat)∧F' 5=.n (i:Nat)∧F' 12=.n (i:Nat)∧F' 13=.n (k:Nat)∧H'=H∧IR (N.take i) xs[i].name=IR ((N.take i).drop k) xs[i].name) i ⟨0,BA,EM f0,EM f1,EM f8,EM f9,AQ,AQ,AQ,rfl,rfl⟩ ?_
   clear f0 f1 f8 f9;rintro n' F H' ⟨k,hk,f0,f1,f8,f9,f5,f12,f13,rfl,hin⟩;refine BB f12 f13 ?_;refine D8 ?_ ?_<;>intro hk'
   .have hk2:k<xs.length:=U
    have hs:=MG (fun u=>xs[i].name.toList==u.toList) (N.take i) k (by rw[jV]; omega)
    have hx:(N.take i)[k]'(by rw[jV]; omega)=xs[k].name:=by
     rw[List.getElem_take]; exact GV (hNi k hk2)
    rw[hx] at hs;refine BC f13 ?_;refine DV A8 ?_;simp -implicitDefEqProofs only[vQ,NH,MF,↓reduceIte,jB,jL,enP,XV,f0,f1,f5,CQ hi',CQ hk2,DR nY cB LJ hi',DR nY cB LJ hk2];refine⟨_,AHT G xs[i] _,?_⟩;refine⟨_,AHT G xs[k] _,?_⟩
    try refine AO ?_
    refine CE ?_ ?_<;>intro hb
    .refine AO ?_
     refine⟨?_,trivial⟩
     have:IR (N.take i) xs[i].name=true:=by
      rw[hin]; unfold IR; rw[hs,hb]; rfl
     rw[hd,hdrop,this]; rfl
    .refine BB f13 (DF k) ?_
     refine⟨n'-1,U,k+1,U,f0,f1,f8,f9,f5,f12,rfl,trivial,?_⟩;rw[hin]; unfold IR; rw[hs,hb]; rfl
   .refine AO ?_
    refine⟨f0,f1,f8,f9,trivial,?_⟩;rw[hin,jX (by rw[jV]; omega)]; rfl
  .rintro F' H' ⟨g0,g1,g8,g9,rfl,hn⟩
   refine BB g9 (DF i) ?_;refine⟨n-1,U,i+1,U,g0,g1,g8,rfl,trivial,?_⟩;rw[hd,hdrop,hn]; rfl
  .rintro F' H' ⟨g4,rfl⟩
   refine BC g4 ?_;exact JH
 .refine AO ?_
  exact⟨by rw[hd,jX U]; rfl,trivial⟩
theorem AHR (x:Pt)(h:Hp):PCall (En G) 87 [.agg (FY x)] h (.str x.name):=by
 refine ACalls.pure0 rfl ?_;refine acT Tryz.func87 2 ?_;refine KF @vJ @bxP @AI4 ?_;exact⟨trivial,_,rfl⟩
theorem AKL (xs:List Pt)(m:SM)(h:Hp)(hl:xs.length<=1099511627776):
  PCall (En G) 86 [.sl m 6 (xs.map FY),.fn (.func 87) [] []] h (.bool (PZ (xs.map (·.name)))):=by
 refine acT Tryz.func86 4 ?_;refine AO ?_;generalize hN:xs.map (·.name)=N;have hNl:N.length=xs.length:=by rw[<-hN]; simp
 have hNi:∀i (hi:i<xs.length),N[i]?=some xs[i].name:=fun i hi=>by rw[<-hN,jZ,jM hi]; rfl
 refine BI (fun n F H=>∃i,n+i=xs.length∧F 0=.sl m 6 (xs.map FY)∧F 1=.fn (.func 87) [] []∧F 8=.n xs.length∧F 9=.n (i:Nat)∧H=h∧PZ N=pN (N.take i) (N.drop i)) xs.length ⟨0,BA,AQ,AQ,AQ,AQ,rfl,rfl⟩ ?_;rintro n F H ⟨i,hi,f0,f1,f8,f9,rfl,hd⟩;refine BB f8 f9 ?_;refine D8 ?_ ?_<;>intro hi'
 .have hdrop:=SQ N i U
  rw[GV (hNi i hi')] at hdrop;refine BC f9 ?_;refine ET 2 (fun F' H'=>F' 0=.sl m 6 (xs.map FY)∧F' 1=.fn (.func 87) [] []∧F' 8=.n xs.length∧F' 9=.n (i:Nat)∧H'=H∧IR (N.take i) xs[i].name=false) (fun F' H'=>F' 4=.bool (PZ N)∧H'=H) ?_ ?_ ?_
  .refine BI (fun n F' H'=>∃k,n+k=i∧F' 0=.sl m 6 (xs.map FY)∧F' 1=.fn (.func 87) [] []∧F' 8=.n xs.length∧F' 9=.n (i:Nat)∧F' 5=.n (i:Nat)∧F' 12=.n (i:Nat)∧F' 13=.n (k:Nat)∧H'=H∧IR (N.take i) xs[i].name=IR ((N.take i).drop k) xs[i].name) i ⟨0,BA,EM f0,EM f1,EM f8,EM f9,AQ,AQ,AQ,rfl,rfl⟩ ?_
   clear f0 f1 f8 f9;rintro n' F H' ⟨k,hk,f0,f1,f8,f9,f5,f12,f13,rfl,hin⟩;refine BB f12 f13 ?_;refine D8 ?_ ?_<;>intro hk'
   .have hk2:k<xs.length:=U
    have hs:=MG (fun u=>xs[i].name.toList==u.toList) (N.take i) k (by rw[jV]; omega)
    have hx:(N.take i)[k]'(by rw[jV]; omega)=xs[k].name:=by
     rw[List.getElem_take]; exact GV (hNi k hk2)
    rw[hx] at hs;refine BC f13 ?_;refine DV A8 ?_;simp -implicitDefEqProofs only[vQ,NH,MF,↓reduceIte,jB,jL,enP,RJ,f0,f1,f5,CQ hi',CQ hk2,DR fS ZI IW hi',DR fS ZI IW hk2];refine⟨_,AHR G xs[i] _,?_⟩;refine⟨_,AHR G xs[k] _,?_⟩
    try refine AO ?_
    refine CE ?_ ?_<;>intro hb
    .refine AO ?_
     refine⟨?_,trivial⟩
     have:IR (N.take i) xs[i].name=true:=by
      rw[hin]; unfold IR; rw[hs,hb]; rfl
     rw[hd,hdrop,this]; rfl
    .refine BB f13 (DF k) ?_
     refine⟨n'-1,U,k+1,U,f0,f1,f8,f9,f5,f12,rfl,trivial,?_⟩;rw[hin]; unfold IR; rw[hs,hb]; rfl
   .refine AO ?_
    refine⟨f0,f1,f8,f9,trivial,?_⟩;rw[hin,jX (by rw[jV]; omega)]; rfl
  .rintro F' H' ⟨g0,g1,g8,g9,rfl,hn⟩
   refine BB g9 (DF i) ?_;refine⟨n-1,U,i+1,U,g0,g1,g8,rfl,trivial,?_⟩;rw[hd,hdrop,hn]; rfl
  .rintro F' H' ⟨g4,rfl⟩
   refine BC g4 ?_;exact JH
 .refine AO ?_
  exact⟨by rw[hd,jX U]; rfl,trivial⟩
theorem AHS (x:Cr)(h:Hp):PCall (En G) 90 [.agg (JK x)] h (.str x.name):=by
 refine ACalls.pure0 rfl ?_;refine acT Tryz.func90 2 ?_;refine KF @vH @bxC @AI5 ?_;exact⟨trivial,_,rfl⟩
theorem AKM (xs:List Cr)(m:SM)(h:Hp)(hl:xs.length<=1099511627776):
  PCall (En G) 89 [.sl m 3 (xs.map JK),.fn (.func 90) [] []] h (.bool (PZ (xs.map (·.name)))):=by
 refine acT Tryz.func89 4 ?_;refine AO ?_;generalize hN:xs.map (·.name)=N;have hNl:N.length=xs.length:=by rw[<-hN]; simp
 have hNi:∀i (hi:i<xs.length),N[i]?=some xs[i].name:=fun i hi=>by rw[<-hN,jZ,jM hi]; rfl
 refine BI (fun n F H=>∃i,n+i=xs.length∧F 0=.sl m 3 (xs.map JK)∧F 1=.fn (.func 90) [] []∧F 8=.n xs.length∧F 9=.n (i:Nat)∧H=h∧PZ N=pN (N.take i) (N.drop i)) xs.length ⟨0,BA,AQ,AQ,AQ,AQ,rfl,rfl⟩ ?_;rintro n F H ⟨i,hi,f0,f1,f8,f9,rfl,hd⟩;refine BB f8 f9 ?_;refine D8 ?_ ?_<;>intro hi'
 .have hdrop:=SQ N i U
  rw[GV (hNi i hi')] at hdrop;refine BC f9 ?_;refine ET 2 (fun F' H'=>F' 0=.sl m 3 (xs.map JK)∧F' 1=.fn (.func 90) [] []∧F' 8=.n xs.length∧F' 9=.n (i:Nat)∧H'=H∧IR (N.take i) xs[i].name=false) (fun F' H'=>F' 4=.bool (PZ N)∧H'=H) ?_ ?_ ?_
  .refine BI (fun n F' H'=>∃k,n+k=i∧F' 0=.sl m 3 (xs.map JK)∧F' 1=.fn (.func 90) [] []∧F' 8=.n xs.length∧F' 9=.n (i:Nat)∧F' 5=.n (i:Nat)∧F' 12=.n (i:Nat)∧F' 13=.n (k:Nat)∧H'=H∧IR (N.take i) xs[i].name=IR ((N.take i).drop k) xs[i].name) i ⟨0,BA,EM f0,EM f1,EM f8,EM f9,AQ,AQ,AQ,rfl,rfl⟩ ?_
   clear f0 f1 f8 f9;rintro n' F H' ⟨k,hk,f0,f1,f8,f9,f5,f12,f13,rfl,hin⟩;refine BB f12 f13 ?_;refine D8 ?_ ?_<;>intro hk'
   .have hk2:k<xs.length:=U
    have hs:=MG (fun u=>xs[i].name.toList==u.toList) (N.take i) k (by rw[jV]; omega)
    have hx:(N.take i)[k]'(by rw[jV]; omega)=xs[k].name:=by
     rw[List.getElem_take]; exact GV (hNi k hk2)
    rw[hx] at hs;refine BC f13 ?_;refine DV A8 ?_;simp -implicitDefEqProofs only[vQ,NH,MF,↓reduceIte,jB,jL,enP,UN,f0,f1,f5,CQ hi',CQ hk2,DR AGK tV NR hi',DR AGK tV NR hk2];refine⟨_,AHS G xs[i] _,?_⟩;refine⟨_,AHS G xs[k] _,?_⟩
    try refine AO ?_
    refine CE ?_ ?_<;>intro hb
    .refine AO ?_
     refine⟨?_,trivial⟩
     have:IR (N.take i) xs[i].name=true:=by
      rw[hin]; unfold IR; rw[hs,hb]; rfl
     rw[hd,hdrop,this]; rfl
    .refine BB f13 (DF k) ?_
     refine⟨n'-1,U,k+1,U,f0,f1,f8,f9,f5,f12,rfl,trivial,?_⟩;rw[hin]; unfold IR; rw[hs,hb]; rfl
   .refine AO ?_
    refine⟨f0,f1,f8,f9,trivial,?_⟩;rw[hin,jX (by rw[jV]; omega)]; rfl
  .rintro F' H' ⟨g0,g1,g8,g9,rfl,hn⟩
   refine BB g9 (DF i) ?_;refine⟨n-1,U,i+1,U,g0,g1,g8,rfl,trivial,?_⟩;rw[hd,hdrop,hn]; rfl
  .rintro F' H' ⟨g4,rfl⟩
   refine BC g4 ?_;exact JH
 .refine AO ?_
  exact⟨by rw[hd,jX U]; rfl,trivial⟩
def fstE {α:Type}(f:α->Int):List α->Int
 | []=>0
 | x::xs=>if f x=0 then fstE f xs else f x
theorem SN {α:Type}(f:α->Int)(xs:List α)(k:Nat)(hk:k<xs.length):fstE f (xs.drop k)=if f xs[k]=0 then fstE f (xs.drop (k+1)) else f xs[k]:=by
 rw[zU hk]; rfl
def GL (p:Pt):Int :=
 if FD p.name=false then 7 else if exE p.ex≠0 then exE p.ex else if p.bins.length=0 then 1 else if 64<p.bins.length then 2 else
  if fstE II p.bins≠0 then fstE II p.bins else if PZ (p.bins.map (·.name)) then 8 else 0
structure PtOk (p:Pt):Prop where
 ex:wt p.ex<=1048576
 name:p.name.size<=1048576
 num:p.bins.length<=1048576
 bins:∀b∈p.bins,BinOk b
theorem al79 (h:Hp):GM jA h 87=some (.ptr h.length 0 0,h++[zZ 4 [[.str ⟨#[]⟩,.n 0,.sl .nil 0 [],.sl .nil 0 []]]]):=FV (row:=[.str ⟨#[]⟩,.n 0,.sl .nil 0 [],.sl .nil 0 []]) A8
theorem st79 (h:Hp)(b:Bin)(row:List AV)(hr:row.length=4):DW jA (h++[zZ 4 [row]]) 87 (.ptr h.length 0 0) (.agg (IP b))=some (h++[zZ 4 [IP b]]):=by
 rw[SI (O7 rfl) (by rw[LJ]; exact cB) (by rw[LJ,hr]; exact jF _)];have:splice row 0 (IP b)=IP b:=by unfold splice; simp [LJ,hr]
 rw[this]
theorem AEU (hG:GOk G)(p:Pt)(hp:PtOk p)(h:Hp):PCall (En G) 85 [.agg (FY p)] h (.n (GL p)):=by
 refine ACalls.pure0 rfl ?_;have hp1:=hp.ex;have hp2:=hp.name;have hp3:=hp.num;refine acT Tryz.func85 2 ?_;refine KF @vJ @bxP @AI4 ?_;refine(LH G hG.kw p.name _ U).uu ?_;cases h1:FD p.name
 .refine AO ?_
  exact⟨by unfold GL; rw[if_pos h1],_,rfl⟩
 have h1':¬FD p.name=false:=by rw[h1]; decide
 simp -implicitDefEqProofs only[vQ,CV,↓reduceIte,jB,zW,enP,aX,APN (A7 h _)];refine(N8 G hG p.ex _ hp1).uu ?_;refine CE ?_ ?_<;>intro h2
 .refine AO ?_
  exact⟨by unfold GL; rw[if_neg h1',if_pos (BN h2)],_,rfl⟩
 have h2':¬exE p.ex≠0:=BN h2;refine TM @OO ?_;refine CE ?_ ?_<;>intro h3
 .refine AO ?_
  exact⟨by unfold GL; rw[if_neg h1',if_neg h2',if_pos (by simp at h3; simpa using h3)],_,rfl⟩
 have h3':¬p.bins.length=0:=by simp at h3; simpa using h3
 refine TM @OO ?_;refine CE ?_ ?_<;>intro h4
 .refine AO ?_
  exact⟨by unfold GL; rw[if_neg h1',if_neg h2',if_neg h3',if_pos (by simp at h4; omega)],_,rfl⟩
 have h4':¬64<p.bins.length:=by simp at h4; omega
 have hpt:GL p=if fstE II p.bins≠0 then fstE II p.bins else if PZ (p.bins.map (·.name)) then 8 else 0:=by
  unfold GL; rw[if_neg h1',if_neg h2',if_neg h3',if_neg h4']
 refine TM @OO ?_;refine ET 1 (fun F H=>F 1=.ptr h.length 0 0∧H[h.length]?=some (zZ 6 [FY p])∧(∃x,H=h++x)∧fstE II p.bins=0) (fun F H=>F 2=.n (GL p)∧∃x,H=h++x) ?_ ?_ ?_
 .refine BI (fun n F H=>∃k,n+k=p.bins.length∧F 1=.ptr h.length 0 0∧F 28=.sl p.bm 4 (p.bins.map IP)∧F 29=.n p.bins.length∧F 30=.n (k:Nat)∧H[h.length]?=some (zZ 6 [FY p])∧(∃x,H=h++x)∧fstE II p.bins=fstE II (p.bins.drop k)) p.bins.length ⟨0,BA,FI,FI,FI,FI,A7 _ _,⟨_,rfl⟩,rfl⟩ ?_
  rintro n F H ⟨k,hk,f1,f28,f29,f30,hb,⟨x,hx⟩,hf⟩;refine BB f29 f30 ?_;refine D8 ?_ ?_<;>intro hk'
  .have hs:=SN II p.bins k hk'
   simp -implicitDefEqProofs only[vQ,CV,↓reduceIte,jB,enP,XV,jO,f28,f30,CQ hk',DR nY cB LJ hk',al79,st79 _ _ [.str ⟨#[]⟩,.n 0,.sl .nil 0 [],.sl .nil 0 []] rfl,ldB];refine(valid_prog G hG.kw p.bins[k] (hp.bins _ (jH hk')) _).uu ?_;refine CE ?_ ?_<;>intro hv
   .refine AO ?_
    have hv':II p.bins[k]≠0:=BN hv;have:fstE II p.bins=II p.bins[k]:=by rw[hf,hs,if_neg hv']
    exact⟨by rw[hpt,this,if_pos hv'],x++_,by rw[hx,zG]⟩
   .have hv':II p.bins[k]=0:=BN hv
    refine BB f30 (DF k) ?_;exact⟨n-1,U,k+1,U,f1,f28,f29,rfl,AL hb,⟨x++_,by rw[hx,zG]⟩,by rw[hf,hs,if_pos hv']⟩
  .refine AO ?_
   exact⟨f1,hb,⟨x,hx⟩,by rw[hf,jX U]; rfl⟩
 .rintro F H ⟨f1,hb,⟨x,hx⟩,hf⟩
  have l5:BU jA H 80 (.ptr h.length 0 5)=some (.sl p.bm 4 (p.bins.map IP)):=by rw[BL O4 hb (row:=FY p) rfl,OO]
  refine BB f1 l5 ?_;refine(AKN G p.bins p.bm H U).uu ?_;cases hd:PZ (p.bins.map (·.name))
  .refine AO ?_
   exact⟨by rw[hpt,hf,hd]; rfl,x,hx⟩
  .refine AO ?_
   exact⟨by rw[hpt,hf,hd]; rfl,x,hx⟩
 .rintro F H ⟨f2,hx⟩
  refine BC f2 ?_;exact⟨trivial,hx⟩
theorem AKR (p:Pt)(hp:PtOk p)(h:Hp):PCall (En G) 108 [.agg (FY p)] h (.n (GL p)):=by
 refine ACalls.pure0 rfl ?_;have hp1:=hp.ex;have hp2:=hp.name;have hp3:=hp.num;refine acT Tryz.func108 2 ?_;refine KF @vJ @bxP @AI4 ?_;refine(OY G p.name _).uu ?_;cases h1:FD p.name
 .refine AO ?_
  exact⟨by unfold GL; rw[if_pos h1],_,rfl⟩
 have h1':¬FD p.name=false:=by rw[h1]; decide
 simp -implicitDefEqProofs only[vQ,CV,↓reduceIte,jB,zW,enP,aX,APN (A7 h _)];refine(AB7 G p.ex _ hp1).uu ?_;refine CE ?_ ?_<;>intro h2
 .refine AO ?_
  exact⟨by unfold GL; rw[if_neg h1',if_pos (BN h2)],_,rfl⟩
 have h2':¬exE p.ex≠0:=BN h2;refine TM @OO ?_;refine CE ?_ ?_<;>intro h3
 .refine AO ?_
  exact⟨by unfold GL; rw[if_neg h1',if_neg h2',if_pos (by simp at h3; simpa using h3)],_,rfl⟩
 have h3':¬p.bins.length=0:=by simp at h3; simpa using h3
 refine TM @OO ?_;refine CE ?_ ?_<;>intro h4
 .refine AO ?_
  exact⟨by unfold GL; rw[if_neg h1',if_neg h2',if_neg h3',if_pos (by simp at h4; omega)],_,rfl⟩
 have h4':¬64<p.bins.length:=by simp at h4; omega
 have hpt:GL p=if fstE II p.bins≠0 then fstE II p.bins else if PZ (p.bins.map (·.name)) then 8 else 0:=by
  unfold GL; rw[if_neg h1',if_neg h2',if_neg h3',if_neg h4']
 refine AO ?_;refine ET 0 (fun F H=>F 1=.ptr h.length 0 0∧H=h++[zZ 6 [FY p]]∧fstE II p.bins=0) (fun F H=>F 2=.n (GL p)∧∃x,H=h++x) ?_ ?_ ?_
 .refine BI (fun n F H=>∃k,n+k=p.bins.length∧F 1=.ptr h.length 0 0∧F 4=.n (k:Nat)∧H=h++[zZ 6 [FY p]]∧fstE II p.bins=fstE II (p.bins.drop k)) p.bins.length ⟨0,BA,FI,FI,rfl,rfl⟩ ?_
  rintro n F H ⟨k,hk,f1,f4,rfl,hf⟩;refine KF f1 f4 @OO ?_;refine D8 ?_ ?_<;>intro hk'
  .have hs:=SN II p.bins k hk'
   simp -implicitDefEqProofs only[vQ,CV,↓reduceIte,jB,enP,XV,KI,f1,f4,EE O4,OO,CQ hk',DR nY cB LJ hk'];refine(valid_ref G p.bins[k] (hp.bins _ (jH hk')) _).uu ?_;refine CE ?_ ?_<;>intro hv
   .refine AO ?_
    have hv':II p.bins[k]≠0:=BN hv;have:fstE II p.bins=II p.bins[k]:=by rw[hf,hs,if_neg hv']
    exact⟨by rw[hpt,this,if_pos hv'],_,rfl⟩
   .have hv':II p.bins[k]=0:=BN hv
    refine BB f4 (DF k) ?_;exact⟨n-1,U,k+1,U,f1,rfl,trivial,by rw[hf,hs,if_pos hv']⟩
  .refine AO ?_
   exact⟨f1,trivial,by rw[hf,jX U]; rfl⟩
 .rintro F H ⟨f1,rfl,hf⟩
  rw[hf,if_neg (fun hh=>hh rfl)] at hpt;refine BC f1 ?_;generalize hN:p.bins.map (·.name)=N at hpt;have hNl:N.length=p.bins.length:=by rw[<-hN]; simp
  have hNi:∀i (hi:i<p.bins.length),N[i]?=some p.bins[i].name:=fun i hi=>by rw[<-hN,jZ,jM hi]; rfl
  refine BI (fun n F H=>∃i,n+i=p.bins.length∧F 1=.ptr h.length 0 0∧F 5=.n (i:Nat)∧H=h++[zZ 6 [FY p]]∧PZ N=pN (N.take i) (N.drop i)) p.bins.length ⟨0,BA,Q8 f1,FI,rfl,rfl⟩ ?_;clear f1;rintro n F H ⟨i,hi,f1,f5,rfl,hd⟩;refine KF f1 f5 @OO ?_;refine D8 ?_ ?_<;>intro hi'
  .have hdrop:=SQ N i U
   rw[GV (hNi i hi')] at hdrop;refine BC f5 ?_;refine ET 4 (fun F' H'=>F' 1=.ptr h.length 0 0∧F' 5=.n (i:Nat)∧H'=h++[zZ 6 [FY p]]∧IR (N.take i) p.bins[i].name=false) (fun F' H'=>F' 2=.n 8∧H'=h++[zZ 6 [FY p]]∧PZ N=true) ?_ ?_ ?_
   .refine BI (fun n F' H'=>∃k,n+k=i∧F' 1=.ptr h.length 0 0∧F' 5=.n (i:Nat)∧F' 6=.n (k:Nat)∧H'=h++[zZ 6 [FY p]]∧IR (N.take i) p.bins[i].name=IR ((N.take i).drop k) p.bins[i].name) i ⟨0,BA,Q8 f1,Q8 f5,FI,rfl,rfl⟩ ?_
    clear f1 f5;rintro n' F H' ⟨k,hk,f1,f5,f6,rfl,hin⟩;refine BB f5 f6 ?_;refine D8 ?_ ?_<;>intro hk'
    .have hk2:k<p.bins.length:=U
     have hs:=MG (fun u=>p.bins[i].name.toList==u.toList) (N.take i) k (by rw[jV]; omega)
     have hx:(N.take i)[k]'(by rw[jV]; omega)=p.bins[k].name:=by
      rw[List.getElem_take]; exact GV (hNi k hk2)
     rw[hx] at hs;refine AO ?_;refine DV A8 ?_;simp -implicitDefEqProofs only[vQ,NT,↓reduceIte,jB,jL,enP,XV,KI,vI,f1,f5,f6,EE O4,OO,CQ hi',CQ hk2,CG ag9 hi',CG ag9 hk2,AI6];refine CE ?_ ?_<;>intro hb
     .refine AO ?_
      have:IR (N.take i) p.bins[i].name=true:=by
       rw[hin]; unfold IR; rw[hs,BEq.comm,hb]; rfl
      exact⟨trivial,trivial,by rw[hd,hdrop,this]; rfl⟩
     .refine BB f6 (DF k) ?_
      refine⟨n'-1,U,k+1,U,f1,f5,rfl,trivial,?_⟩;rw[hin]; unfold IR; rw[hs,BEq.comm,hb]; rfl
    .refine AO ?_
     refine⟨f1,f5,trivial,?_⟩;rw[hin,jX (by rw[jV]; omega)]; rfl
   .rintro F' H' ⟨g1,g5,rfl,hn⟩
    refine BB g5 (DF i) ?_;refine⟨n-1,U,i+1,U,g1,rfl,trivial,?_⟩;rw[hd,hdrop,hn]; rfl
   .rintro F' H' ⟨g2,rfl,hdd⟩
    refine BC g2 ?_;exact⟨by rw[hpt,hdd]; rfl,_,rfl⟩
  .refine AO ?_
   exact⟨by rw[hpt,hd,jX U]; rfl,_,rfl⟩
 .rintro F H ⟨f2,hx⟩
  refine BC f2 ?_;exact⟨trivial,hx⟩
def outG {α:Type}(k:Nat)(f:α->List AV)(h:Hp)(ys:List α)(v:AV)(H:Hp):Prop :=
 (ys=[]∧v=.sl .nil 0 [])∨(ys≠[]∧∃o,h.length<=o∧v=.own o 0 ys.length∧H[o]?=some (zZ k (ys.map f)))
theorem outG.nil {α:Type}(k:Nat)(f:α->List AV)(h H:Hp):outG k f h [] (.sl .nil 0 []) H:=.inl ⟨rfl,rfl⟩
theorem outG.keep {α:Type}{f:α->List AV}{H':Hp}{ys:List α}(ho:outG k f h ys v H)(hk:∀b,isB v b->H'[b]?=H[b]?):outG k f h ys v H':=by
 rcases ho with h1|⟨h1,o,h2,rfl,h3⟩
 .exact .inl h1
 .exact .inr ⟨h1,o,h2,rfl,by rw[hk o rfl]; exact h3⟩
theorem outG.lt {α:Type}{f:α->List AV}{ys:List α}{b:Nat}(ho:outG k f h ys v H)(hb:isB v b):h.length<=b∧b<H.length:=by
 rcases ho with⟨_,rfl⟩|⟨_,o,h2,rfl,h3⟩
 .exact hb.elim
 .cases hb; exact⟨h2,AC h3⟩
theorem outG.app {α:Type}{f:α->List AV}{ys:List α}(ho:outG k f h ys v H)(x:Hp):outG k f h ys v (H++x) :=
 ho.keep fun _ hb=>qC (ho.lt hb).2
theorem outG.append {t e:TypeId}{α:Type}{bs:Nat}{f:α->List AV}{ys:List α}(ho:outG k f h ys v H)(hu:P.underlying t=some (.slice e))(hs:szO P e=some k)(hz:RD P e=some k)(hb:KG P e=some bs)(hbs:bs<=4194304)(hl:ys.length<8388608)(he:ext h H)(y:α):
  ∃v' H',EG P true H t t v (.sl .full k [f y])=some (v',H')∧outG k f h (ys++[y]) v' H'∧(∀b x,H[b]?=some x->¬isB v b->H'[b]?=some x)∧ext h H'∧H.length<=H'.length∧∀b,isB v' b->b=H.length:=by
 have h1:([f y]:List (List AV))≠[]:=BA;rcases ho with⟨rfl,rfl⟩|⟨hne,o,h2,rfl,h3⟩
 .exact⟨_,_,SE hu hs hz hb (G5 H .full k [f y]) h1 (IV BA hbs),.inr ⟨BA,H.length,he.le,rfl,BA⟩,fun b x hb _=>IK hb,he.app _,BA,fun b hb=>hb.symm⟩
 .have hc:JB H (.own o 0 ys.length)=some (k,ys.map f):=by
   rw[JS h3 BA,zI,jI BA]
  refine⟨_,_,QT hu hs hz hb hc (G5 H .full k [f y]) h1 (IV NU hbs),.inr ⟨BA,H.length,he.le,BA,BA⟩,fun b x hb hn=>?_,(he.set h2 _).app _,BA,fun b hb=>hb.symm⟩;have hn':¬o=b:=hn;refine IK ?_;rw[zN,if_neg hn']; exact hb
theorem outG.len {t:TypeId}{α:Type}{f:α->List AV}{ys:List α}(ho:outG k f h ys v H)(hl:(∀m k xs,JR P t (.sl m k xs)=some (.n xs.length))∧∀b off len,JR P t (.own b off len)=some (.n len)):JR P t v=some (.n ys.length):=by
 rcases ho with⟨rfl,rfl⟩|⟨_,o,_,rfl,_⟩
 .exact hl.1 _ _ _
 .exact hl.2 _ _ _
def nm {α:Type}(ys:List α):SM:=match ys with
 | []=>.nil
 | _=>.any
theorem frzF_own (n:Nat)(h:Hp)(d b off len k:Nat)(xs:List (List AV))(hn:¬b<n)(hb:h[b]?=some (zZ k xs)):FN n h (d+1) (.own b off len)=if off+len<=xs.length∧(((xs.drop off).take len).map (·.map (FN n h d))).all (·.all AV.leaf)=true then .sl .any k (((xs.drop off).take len).map (·.map (FN n h d))) else .junk:=by
 rw[FN];simp only[hn,if_false,hb]
def Frz {α:Type}(f:α->List AV):Prop:=∀(n:Nat) (h:Hp) (d:Nat) (x:α),(f x).map (FN n h (d+1))=f x∧(f x).all AV.leaf=true
theorem frz_rows {α:Type}{f:α->List AV}(hf:Frz f)(n:Nat)(h:Hp)(d:Nat)(xs:List α):(xs.map f).map (·.map (FN n h (d+1)))=xs.map f:=by
 rw[qM];exact List.map_congr_left fun x _=>(hf n h d x).1
theorem frz_own {α:Type}{f:α->List AV}(hf:Frz f){d:Nat}{o:Nat}{xs:List α}(hn:n<=o)(ho:h[o]?=some (zZ k (xs.map f))):FN n h (d+2) (.own o 0 xs.length)=.sl .any k (xs.map f):=by
 rw[frzF_own n h (d+1) o 0 xs.length k _ U ho,zI,jI BA,frz_rows hf n h d xs];rw[if_pos];refine⟨BA,?_⟩;rw[zH];intro row hr;obtain⟨x,_,rfl⟩:=zQ.1 hr;exact(hf n h d x).2
theorem LY {E:Env}{f:FuncId}{args:List AV}{α:Type}{enc:α->List AV}(hf:Frz enc){ys:List α}(hc:ACalls E f args h fun v H=>ext h H∧outG k enc h ys v H)(hX:E.nox=E:=by rfl):PCall E f args h (.sl (nm ys) k (ys.map enc)):=by
 have h1:PCall E f args h (if ys.length=0 then AV.sl .nil 0 [] else .sl .any k (ys.map enc)):=by
  refine ACalls.pure 2 hc ?_ hX;rintro v H ⟨hex,hout⟩;refine⟨hex,?_⟩;rcases hout with⟨rfl,rfl⟩|⟨hne,o,ho1,rfl,ho⟩
  .rfl
  .rw[if_neg (BN hne)]; exact frz_own hf ho1 ho
 refine ACalls.conv h1 ?_;rintro v H ⟨rfl,rfl⟩;refine⟨_,⟨rfl,rfl⟩,?_⟩;intro g cv hr
 cases ys with
 | nil=>exact AA6 hr
 | cons y ys=>exact hr
def JC (m:Mo)(p:Int):List Bin:=match m.pts[p.toNat]? with
 | some q=>q.bins
 | none=>[]
def szs (m:Mo)(l:List Int):List Nat:=l.map fun p=>(JC m p).length
def Here (m:Mo)(l:List Int):Prop:=∀p∈l,0<=p∧p<(m.pts.length:Int)
theorem Here.toNat {m:Mo}{l:List Int}(hh:Here m l){k:Nat}(hk:k<l.length):(l[k]).toNat<m.pts.length:=by
 have:=hh _ (jH hk); omega
theorem Here.bins {m:Mo}{l:List Int}(hh:Here m l){k:Nat}(hk:k<l.length):(m.pts[(l[k]).toNat]'(hh.toNat hk)).bins=JC m l[k]:=by
 unfold JC; rw[jM (hh.toNat hk)]
theorem Here.ix {m:Mo}{l:List Int}(hh:Here m l){k:Nat}(hk:k<l.length)(h:Hp)(s:SM):JJ 6 h (.sl s 6 (m.pts.map FY)) (.n l[k])=some (.fptr 6 (m.pts.map FY) (l[k]).toNat 0):=by
 have:=hh _ (jH hk);exact AX4 this.1 (by rw[jJ]; exact this.2)
theorem Here.ld {m:Mo}{l:List Int}(hh:Here m l){k:Nat}(hk:k<l.length)(h:Hp):∃s,BU jA h 80 (.fptr 6 (m.pts.map FY) (l[k]).toNat 5)=some (.sl s 4 ((JC m l[k]).map IP)):=by
 rw[CG O4 (hh.toNat hk),OO,hh.bins hk];exact⟨_,rfl⟩
theorem frzI:Frz qencI:=fun _ _ _ _=>⟨rfl,rfl⟩
theorem AMM (h:Hp)(v:Int):C9 jA false h 32 1 [(0,.n v)]=some (.sl .full 1 [[.n v]],h):=A8
def PY (n:Nat):List AV:=[.n (n:Int)]
theorem A3N:Frz PY:=fun _ _ _ _=>⟨rfl,rfl⟩
theorem ACE (n:Nat):(PY n)[0]?=some (.n (n:Int)):=rfl
theorem encI0 (n:Int):(qencI n)[0]?=some (.n n):=rfl
theorem yC (m:Mo)(l:List Int)(k:Nat)(hk:k<l.length):szs m (l.take (k+1))=szs m (l.take k)++[(JC m l[k]).length]:=by
 unfold szs; rw[jY hk,List.map_append]; rfl
theorem kP (m:Mo)(c:Cr)(h:Hp)(hh:Here m c.pts)(hl:c.pts.length<=1048576):PCall (En G) 148 [.agg (DJ m),.agg (JK c)] h (.sl (nm (szs m c.pts)) 1 ((szs m c.pts).map PY)):=by
 refine LY A3N ?_;refine acT Tryz.func148 4 ?_;refine P8 @bxM @bxC O6 @UD ?_;have hb0:(h++[zZ 2 [DJ m]]++[zZ 3 [JK c]])[h.length]?=some (zZ 2 [DJ m]):=AL (A7 _ _);refine BI (fun n F H=>∃k,n+k=c.pts.length∧F 2=.ptr h.length 0 0∧F 9=.sl c.pm 1 (c.pts.map qencI)∧F 10=.n c.pts.length∧F 11=.n (k:Nat)∧H[h.length]?=some (zZ 2 [DJ m])∧ext h H∧(∀b,isB (F 5) b->h.length<b)∧outG 1 PY h (szs m (c.pts.take k)) (F 5) H) c.pts.length ⟨0,BA,FI,FI,FI,FI,hb0,((ext.rfl' h).app _).app _,fun b hb=>hb.elim,outG.nil _ _ _ _⟩ ?_;rintro n F H ⟨k,hk,f2,f9,f10,f11,hb,he,hlt,ho⟩;refine BB f10 f11 ?_;refine D8 ?_ ?_<;>intro hk'
 .have lm:BU jA H 28 (.ptr h.length 0 0)=some (.sl m.pm 6 (m.pts.map FY)):=by rw[BL fT hb (row:=DJ m) rfl,U8]
  obtain⟨s,ls⟩:=hh.ld hk' H;have hzl:(szs m (c.pts.take k)).length<8388608:=by unfold szs; simp; omega
  obtain⟨v',H',ha,ho',hkeep,he',hle,hb'⟩:=ho.append tR sz3 AM3 AF8 U hzl he (JC m c.pts[k]).length;simp -implicitDefEqProofs only[vQ,CV,I8,↓reduceIte,jB,enP,RJ,KU,LQ,cV,KI,f2,f9,f11,CQ hk',CG ag3 hk',encI0,lm,hh.ix hk',ls,jJ,AMM];refine KY (v:=v') (h:=H') (by rw[show [[AV.int .i64 ((JC m c.pts[k]).length:Int)]]=[PY (JC m c.pts[k]).length] from rfl,ha]) ?_;refine BB f11 (DF k) ?_;refine⟨n-1,U,k+1,U,f2,f9,f10,rfl,hkeep _ _ hb (fun e=>by have:=hlt _ e; omega),he',fun b hbb=>?_,?_⟩
  .grind
  .rw[yC m c.pts k hk']; exact ho'
 .rw[jI U] at ho
  refine AO ?_;exact⟨he,ho⟩
def KD (l:List Nat):Nat:=l.foldl (· * ·) 1
theorem aL (l:List Nat)(k:Nat)(hk:k<l.length):KD (l.take (k+1))=KD (l.take k)*l[k]:=by
 unfold KD; rw[jY hk,List.foldl_append]; rfl
theorem AOU (l:List Nat)(k:Nat)(h:∀n∈l,n<=64)(hk:l.length<=k):KD l<=64^k:=by
 have gen:∀(l:List Nat) (a:Nat) (j:Nat),(∀n∈l,n<=64)->a<=64^j->l.foldl (· * ·) a<=64^(j+l.length):=by
  intro l
  induction l with
  | nil=>intro a j _ ha; exact ha
  | cons x l ih =>
    intro a j hl ha;rw[qP,zO,show j+(l.length+1)=(j+1)+l.length by omega];refine ih _ _ (fun n hn=>hl n (by simp [hn])) ?_;rw[Nat.pow_succ];exact Nat.mul_le_mul ha (hl x BA)
 have:=gen l 1 0 h BA;rw[jG] at this;exact qW this (Nat.pow_le_pow_right U hk)
theorem AES (l:List Nat)(k:Nat)(h:∀n∈l,1<=n):KD (l.take k)<=KD l:=by
 have gen:∀(l:List Nat) (a:Nat),(∀n∈l,1<=n)->a<=l.foldl (· * ·) a:=by
  intro l
  induction l with
  | nil=>intro a _; exact jF _
  | cons x l ih =>
    intro a hl;rw[qP];refine qW ?_ (ih _ (fun n hn=>hl n (by simp [hn])));exact Nat.le_mul_of_pos_right a (hl x BA)
 have h2:KD l=(l.drop k).foldl (· * ·) (KD (l.take k)):=by
  unfold KD
  conv=>lhs; rw[<-wL k l,List.foldl_append]
 rw[h2];exact gen _ _ (fun n hn=>h n (List.mem_of_mem_drop hn))
theorem cM (l:List Nat)(s:SM)(h:Hp)(hl:∀n∈l,n<=64)(hk:l.length<=4):PCall (En G) 147 [.sl s 1 (l.map PY)] h (.n (KD l)):=by
 refine acT Tryz.func147 2 ?_;refine AO ?_
 have hp:∀k,KD (l.take k)<=16777216:=fun k=>by
  have:=AOU (l.take k) 4 (fun n hn=>hl n (List.mem_of_mem_take hn)) (by rw[jV]; omega);simpa using this
 refine BI (fun n F H=>∃k,n+k=l.length∧F 3=.n (KD (l.take k))∧F 6=.sl s 1 (l.map PY)∧F 7=.n l.length∧F 8=.n (k:Nat)∧H=h) l.length ⟨0,BA,AQ,AQ,AQ,AQ,rfl⟩ ?_;rintro n F H ⟨k,hk,f3,f6,f7,f8,rfl⟩;refine BB f7 f8 ?_;refine D8 ?_ ?_<;>intro hk'
 .have h1:=hp (k+1)
  rw[aL l k hk'] at h1
  have hw:IntKind.i64.wrap ((KD (l.take k):Int)*(l[k]:Int))=((KD (l.take (k+1)):Nat):Int):=by
   rw[aL l k hk',<-Int.natCast_mul,QU U]
  refine P7 f3 f6 f8 hk' @ACE hw (DF k) ?_;exact⟨n-1,U,k+1,U,rfl,trivial,f7,rfl,trivial⟩
 .rw[jI U] at f3
  refine BC f3 ?_;exact JH
def JX:List Nat->List Int->Bool
 | [],[]=>true
 | n::ns,x::xs=>decide (0<=x)&&decide (x<(n:Int))&&JX ns xs
 | _,_=>false
theorem AP5 (ns:List Nat):JX ns []=(ns.length==0):=by cases ns<;>rfl
theorem QY:∀ {ns:List Nat} {xs:List Int},JX ns xs=true->ns.length=xs.length
 | [],[],_=>rfl
 | n::ns,x::xs,h=>by
   simp only[JX,jU] at h;simp [QY h.2]
 | [],_::_,h=>by cases h
 | _::_,[],h=>by cases h
theorem inside_prog (ns:List Nat)(xs:List Int)(s t:SM)(h:Hp)(hn:ns.length<=1048576):PCall (En G) 167 [.sl s 1 (ns.map PY),.sl t 1 (xs.map qencI)] h (.bool (JX ns xs)):=by
 refine acT Tryz.func167 4 ?_;refine AO ?_;refine BI (fun n F H=>∃k,n+k=xs.length∧k<=ns.length∧F 0=.sl s 1 (ns.map PY)∧F 1=.sl t 1 (xs.map qencI)∧F 7=.sl t 1 (xs.map qencI)∧F 8=.n xs.length∧F 9=.n (k:Nat)∧H=h∧JX ns xs=JX (ns.drop k) (xs.drop k)) xs.length ⟨0,BA,BA,AQ,AQ,AQ,AQ,AQ,rfl,rfl⟩ ?_;rintro n F H ⟨k,hk,hkn,f0,f1,f7,f8,f9,rfl,hi⟩;refine BB f8 f9 ?_;refine D8 ?_ ?_<;>intro hk'
 .rw[zU hk'] at hi
  simp -implicitDefEqProofs only[vQ,EJ,CV,↓reduceIte,jB,enP,LQ,XT,f0,f7,f9,CQ hk',CG ag3 hk',encI0,jJ];refine IG ?_ ?_<;>intro ha
  .refine BC ha ?_
   have:ns.length<=k:=by simp at ha; omega
   rw[jX this] at hi;exact⟨by rw[hi]; rfl,trivial⟩
  have hkn':k<ns.length:=by simp at ha; omega
  rw[zU hkn'] at hi;refine BC ha ?_;refine IG ?_ ?_<;>intro hb
  .refine BC hb ?_
   have:decide (0<=xs[k])=false:=by simp at hb|-; omega
   exact⟨by rw[hi]; unfold JX; rw[this]; rfl,trivial⟩
  have h0:decide (0<=xs[k])=true:=by simp at hb|-; omega
  simp -implicitDefEqProofs only[vQ,EJ,CV,↓reduceIte,jB,enP,LQ,hb,f0,CQ hkn',CG ag3 hkn',ACE];refine CE ?_ ?_<;>intro hd
  .refine AO ?_
   have:decide (xs[k]<(ns[k]:Int))=false:=by simp at hd|-; omega
   exact⟨by rw[hi]; unfold JX; rw[this,h0]; rfl,trivial⟩
  have h1:decide (xs[k]<(ns[k]:Int))=true:=by simp at hd|-; omega
  refine BB f9 (DF k) ?_;refine⟨n-1,U,k+1,U,U,f0,f1,f7,f8,rfl,trivial,?_⟩;rw[hi]
  conv=>lhs; unfold JX
  rw[h0,h1]; rfl
 .refine BB f0 f1 ?_
  refine⟨?_,trivial⟩;rw[hi,jX (U:xs.length<=k),AP5,List.length_drop];congr 1;rw[Bool.eq_iff_iff]; simp; omega
theorem ABV (G:Nat->AV)(xs:List Is)(m:SM)(fid:FuncId)(caps:List AV)(p:Is->Bool)(h:Hp)(hl:xs.length<=1099511627776)
  (hf:∀r,PCall (En G) fid (.sl r.m 1 (r.l.map qencI)::caps) h (.bool (p r))) :
  PCall (En G) 243 [.sl m 1 (xs.map NM),.fn (.func fid) [] caps] h (.n (match xs.findIdx? p with|some i=>(i:Int)|none => -1)):=by
 refine acT Tryz.func243 4 ?_;refine AO ?_;refine BI (fun n F H=>∃k,n+k=xs.length∧F 0=.sl m 1 (xs.map NM)∧F 1=.fn (.func fid) [] caps∧F 7=.n xs.length∧F 8=.n (k:Nat)∧H=h∧(xs.take k).all (fun r => !p r)=true) xs.length ⟨0,BA,rfl,rfl,rfl,rfl,rfl,rfl⟩ ?_;rintro n F H ⟨k,hk,f0,f1,f7,f8,rfl,hin⟩;refine E8 f0 f1 f7 f8 ?_;refine D8 ?_ ?_<;>intro hc'
 .simp -implicitDefEqProofs only[vQ,CV,qI,zB,↓reduceIte,jB,enP,pB,f0,f1,f7,f8,CQ hc',CG O6 hc',mY]
  refine(hf _).uu ?_;refine CE ?_ ?_<;>intro hb
  .refine AO ?_
   refine⟨?_,trivial⟩
   rw[wP.2 ⟨hc',hb,fun j hj=>by
    rw[zH] at hin;have:=hin xs[j] (by rw[List.mem_take_iff_getElem]; exact⟨j,U,rfl⟩)
    simpa using this⟩]
  .refine BB f8 (DF k) ?_
   refine⟨n-1,U,k+1,U,f0,f1,f7,rfl,trivial,?_⟩;rw[jY hc',List.all_append,hin];simp only[wQ,List.all_nil,hb]; rfl
 .refine AO ?_
  refine⟨?_,trivial⟩;rw[jI U] at hin;rw[wR.2 (BN hin)]
theorem YD (G:Nat->AV)(xs:List Is)(m:SM)(fid:FuncId)(caps:List AV)(p:Is->Bool)(h:Hp)(hl:xs.length<=1099511627776)
  (hf:∀r,PCall (En G) fid (.sl r.m 1 (r.l.map qencI)::caps) h (.bool (p r))) :
  PCall (En G) 165 [.sl m 1 (xs.map NM),.fn (.func fid) [] caps] h (.bool (xs.any p)):=by
 refine acT Tryz.func165 4 ?_;refine AO ?_;refine(ABV G xs m fid caps p h hl hf).uu ?_;refine⟨?_,trivial⟩
 cases hx:xs.findIdx? p with
 | some i =>
   obtain⟨h1,h2,_⟩:=wP.1 hx;have:xs.any p=true:=qL.2 ⟨xs[i],BA,h2⟩;simp [this]
 | none =>
   have:xs.any p=false:=by
    rw[wR] at hx;rw[qU]; intro x hx2; simp [hx x hx2]
   simp [this]
theorem uN (ns:List Nat)(s:SM)(b:Nat)(r:Is)(h:Hp)(hb:h[b]?=some (zZ 1 [[.sl s 1 (ns.map PY)]]))(hn:ns.length<=1048576):
  PCall (En G) 166 [.sl r.m 1 (r.l.map qencI),.ptr b 0 0] h (.bool (!JX ns r.l)):=by
 refine acT Tryz.func166 3 ?_;refine BC (H7 O6 hb) ?_;refine(inside_prog G ns r.l s r.m h hn).uu ?_;exact JH
def XY (n:Nat):Option Int->List Int->Bool
 | _,[]=>true
 | o,p::ps=>(decide (0<=p)&&decide (p<(n:Int))&&(match o with|some q=>decide (q<p)|none=>true))&&XY n (some p) ps
def prev (l:List Int)(k:Nat):Option Int:=match k with
 | 0=>none
 | k+1=>l[k]?
theorem sG (n:Nat)(l:List Int)(k:Nat)(hk:k<l.length):XY n (prev l k) (l.drop k)=((decide (0<=l[k])&&decide (l[k]<(n:Int))&&(match prev l k with|some q=>decide (q<l[k])|none=>true))&&XY n (prev l (k+1)) (l.drop (k+1))):=by
 rw[zU hk];have:prev l (k+1)=some l[k]:=by unfold prev; exact jM hk
 rw[this]; rfl
theorem Y7 {m:Mo}:∀ {l:List Int} {o:Option Int},XY m.pts.length o l=true->Here m l
 | [],_,_=>fun p hp=>by cases hp
 | x::l,o,h=>by
   simp only[XY,jU,decide_eq_true_eq] at h;intro p hp
   cases zM.1 hp with
   | inl e=>subst e; exact⟨h.1.1.1,h.1.1.2⟩
   | inr e=>exact Y7 h.2 p e
def HY (m:Mo)(c:Cr):Int :=
 if FD c.name=false then 7 else if c.pts.length<2∨4<c.pts.length then 1 else if XY m.pts.length none c.pts=false then 1 else
  if 256<KD (szs m c.pts)∨256<c.excl.length then 2 else if(c.excl.any fun x => !JX (szs m c.pts) x.l) then 1 else 0
structure CrOk (c:Cr):Prop where
 name:c.name.size<=1048576
 pts:c.pts.length<=1048576
 excl:c.excl.length<=1048576
 each:∀x∈c.excl,x.l.length<=1048576
def Full (m:Mo):Prop:=∀p∈m.pts,1<=p.bins.length∧p.bins.length<=64
theorem Full.szs {m:Mo}{l:List Int}(hf:Full m)(hh:Here m l):∀n∈szs m l,1<=n∧n<=64:=by
 intro n hn;obtain⟨p,hp,rfl⟩:=zQ.1 hn;obtain⟨h0,h1⟩:=hh p hp;have hlt:p.toNat<m.pts.length:=U;have:JC m p=(m.pts[p.toNat]).bins:=by unfold JC; rw[jM hlt]
 rw[this];exact hf _ (jH hlt)
theorem A7J (h:Hp):GM jA h 32=some (.ptr h.length 0 0,h++[zZ 1 [[.sl .nil 0 []]]]):=FV (row:=[.sl .nil 0 []]) A8
theorem ldM {b:Nat}{m:Mo}(hb:h[b]?=some (zZ 2 [DJ m])):BU jA h 31 (.ptr b 0 0)=some (.agg (DJ m)):=by
 rw[EH A5I AZA hb rfl (by rw[AQ9]; exact jF 2)]; rfl
theorem ldC {b:Nat}{c:Cr}(hb:h[b]?=some (zZ 3 [JK c])):BU jA h 90 (.ptr b 0 0)=some (.agg (JK c)):=by
 rw[EH AGK tV hb rfl (by rw[NR]; exact jF 3)]; rfl
theorem AF1 (hG:GOk G)(m:Mo)(c:Cr)(hc:CrOk c)(hf:Full m)(h:Hp):PCall (En G) 88 [.agg (DJ m),.agg (JK c)] h (.n (HY m c)):=by
 refine ACalls.pure0 rfl ?_;have hc1:=hc.name;have hc2:=hc.pts;have hc3:=hc.excl;refine acT Tryz.func88 4 ?_;have gm:(h++[zZ 2 [DJ m]]++[zZ 3 [JK c]])[h.length]?=some (zZ 2 [DJ m]):=AL (A7 _ _);have gc:(h++[zZ 2 [DJ m]]++[zZ 3 [JK c]])[(h++[zZ 2 [DJ m]]).length]?=some (zZ 3 [JK c]):=A7 _ _;have hx:∃x,h++[zZ 2 [DJ m]]++[zZ 3 [JK c]]=h++x:=⟨_,zG _ _ _⟩;have hlt:h.length<(h++[zZ 2 [DJ m]]).length:=BA;refine DT @vH @bxM @bxC ?_
 generalize h++[zZ 2 [DJ m]]++[zZ 3 [JK c]]=H at gm gc hx|-
 generalize (h++[zZ 2 [DJ m]]).length=cb at gc hlt|-
 have lm:BU jA H 28 (.ptr h.length 0 0)=some (.sl m.pm 6 (m.pts.map FY)):=by rw[BL fT gm (row:=DJ m) rfl,U8]
 have lc0:BU jA H 9 (.ptr cb 0 0)=some (.str c.name):=by rw[BL ag9 gc (row:=JK c) rfl,AI5]
 have lc1:BU jA H 32 (.ptr cb 0 1)=some (.sl c.pm 1 (c.pts.map qencI)):=by rw[BL O6 gc (row:=JK c) rfl,UD]
 have lc2:BU jA H 25 (.ptr cb 0 2)=some (.sl c.xm 1 (c.excl.map NM)):=by rw[BL bH gc (row:=JK c) rfl,ACH]
 refine BC lc0 ?_;refine(LH G hG.kw c.name _ U).uu ?_;cases h1:FD c.name
 .refine AO ?_
  exact⟨by unfold HY; rw[if_pos h1],hx⟩
 have h1':¬FD c.name=false:=by rw[h1]; decide
 refine BC lc1 ?_;refine IG ?_ ?_<;>intro h2
 .refine BC h2 ?_
  exact⟨by unfold HY; rw[if_neg h1',if_pos (.inl (by simp at h2; omega))],hx⟩
 refine BB h2 lc1 ?_;refine CE ?_ ?_<;>intro h3
 .refine AO ?_
  exact⟨by unfold HY; rw[if_neg h1',if_pos (.inr (by simp at h3; omega))],hx⟩
 have h23:¬(c.pts.length<2∨4<c.pts.length):=by simp at h2 h3; omega
 refine BC lc1 ?_;refine ET 0 (fun F H'=>F 2=.ptr h.length 0 0∧F 3=.ptr cb 0 0∧H'=H∧XY m.pts.length none c.pts=true) (fun F H'=>F 4=.n 1∧H'=H∧XY m.pts.length none c.pts=false) ?_ ?_ ?_
 .refine BI (fun n F H'=>∃k,n+k=c.pts.length∧F 2=.ptr h.length 0 0∧F 3=.ptr cb 0 0∧F 23=.sl c.pm 1 (c.pts.map qencI)∧F 24=.n c.pts.length∧F 25=.n (k:Nat)∧H'=H∧XY m.pts.length none c.pts=XY m.pts.length (prev c.pts k) (c.pts.drop k)) c.pts.length ⟨0,BA,AQ,AQ,AQ,AQ,AQ,rfl,rfl⟩ ?_
  rintro n F H' ⟨k,hk,f2,f3,f23,f24,f25,rfl,hi⟩;refine BB f24 f25 ?_;refine D8 ?_ ?_<;>intro hk'
  .rw[sG _ _ _ hk'] at hi
   simp -implicitDefEqProofs only[vQ,EJ,CV,↓reduceIte,jB,enP,LQ,f2,f3,f23,f25,CQ hk',CG ag3 hk',encI0];refine IG ?_ ?_<;>intro ha
   .refine BC ha ?_
    have:decide (0<=c.pts[k])=false:=by simp at ha|-; omega
    exact⟨trivial,trivial,by rw[hi,this]; rfl⟩
   have ha':decide (0<=c.pts[k])=true:=by simp at ha|-; omega
   refine DT ha f2 lm ?_;refine IG ?_ ?_<;>intro hb
   .refine BC hb ?_
    have:decide (c.pts[k]<(m.pts.length:Int))=false:=by simp at hb|-; omega
    exact⟨trivial,trivial,by rw[hi,this,ha']; rfl⟩
   have hb':decide (c.pts[k]<(m.pts.length:Int))=true:=by simp at hb|-; omega
   rw[ha',hb'] at hi;simp only[qR] at hi
   cases k with
   | zero =>
     have hz:decide ((((0:Nat):Int))>0)=false:=by decide
     refine E8 hb hz f25 (DF 0) ?_;exact⟨n-1,U,1,U,f2,f3,f23,f24,rfl,trivial,by rw[hi]; rfl⟩
   | succ k =>
     have hz:decide ((((k+1:Nat):Int))>0)=true:=BA;have hw:IntKind.i64.wrap (((k+1:Nat):Int)-1)=(k:Int):=by rw[wrap_i64 U U]; omega
     have hk2:k<c.pts.length:=U;have hpv:prev c.pts (k+1)=some c.pts[k]:=by unfold prev; exact jM hk2
     rw[hpv] at hi;simp -implicitDefEqProofs only[vQ,EJ,Q9,CV,OA,ZC,↓reduceIte,jB,enP,LQ,MB,hb,hz,f3,lc1,hw,CQ hk2,CG ag3 hk2,encI0];refine CE ?_ ?_<;>intro hd
     .refine AO ?_
      have:decide (c.pts[k]<c.pts[k+1])=false:=by simp at hd|-; omega
      exact⟨trivial,trivial,by rw[hi]; simp only[this]; rfl⟩
     .refine BB f25 (DF (k+1)) ?_
      have:decide (c.pts[k]<c.pts[k+1])=true:=by simp at hd|-; omega
      exact⟨n-1,U,k+1+1,U,f2,f3,f23,f24,rfl,trivial,by rw[hi]; simp only[this]; rfl⟩
  .refine AO ?_
   exact⟨f2,f3,trivial,by rw[hi,jX U]; rfl⟩
 .rintro F H' ⟨f2,f3,rfl,hi⟩
  have hh:=Y7 hi;have hi':¬XY m.pts.length none c.pts=false:=by rw[hi]; decide
  refine E8 f2 f3 (ldM gm) (ldC gc) ?_;refine(kP G m c _ hh U).use ?_;have hsz:(szs m c.pts).length<=4:=by unfold szs; simp; omega
  have hst:=TV (t:=32) (v:=.sl .nil 0 []) (u:=.sl (nm (szs m c.pts)) 1 ((szs m c.pts).map PY)) AJ6 (A5S _ _ _) (A7 H' (zZ 1 [[.sl .nil 0 []]]));rw[tS] at hst;refine tJ A7J hst @H7 O6 @A7 ?_;refine(cM G _ _ _ (fun n hn=>(hf.szs hh n hn).2) hsz).use ?_
  have hx2:∃x,H'++[zZ 1 [[AV.sl (nm (szs m c.pts)) 1 ((szs m c.pts).map PY)]]]=h++x:=by
   obtain⟨x,hx⟩:=hx;exact⟨x++_,by rw[hx,zG]⟩
  have lc2':∀x,BU jA (H'++[x]) 25 (.ptr cb 0 2)=some (.sl c.xm 1 (c.excl.map NM)):=fun x=>by rw[BL bH (AL gc) (row:=JK c) rfl,ACH]
  refine AO ?_;refine IG ?_ ?_<;>intro ha
  .refine BC ha ?_
   exact⟨by unfold HY; rw[if_neg h1',if_neg h23,if_neg hi',if_pos (.inl (by simp at ha; omega))],hx2⟩
  refine DT ha f3 lc2' ?_;refine CE ?_ ?_<;>intro hb
  .refine AO ?_
   exact⟨by unfold HY; rw[if_neg h1',if_neg h23,if_neg hi',if_pos (.inr (by simp at hb; omega))],hx2⟩
  have hab:¬(256<KD (szs m c.pts)∨256<c.excl.length):=by simp at ha hb; omega
  refine BB f3 lc2' ?_;refine(YD G c.excl c.xm 166 _ (fun x => !JX (szs m c.pts) x.l) _ U fun r=>uN G _ _ _ r _ (A7 H' _) U).uu ?_;cases he:c.excl.any fun x => !JX (szs m c.pts) x.l
  .refine AO ?_
   exact⟨by unfold HY; rw[if_neg h1',if_neg h23,if_neg hi',if_neg hab,he]; rfl,hx2⟩
  .refine AO ?_
   exact⟨by unfold HY; rw[if_neg h1',if_neg h23,if_neg hi',if_neg hab,he]; rfl,hx2⟩
 .rintro F H' ⟨f4,rfl,hi⟩
  refine BC f4 ?_;exact⟨by unfold HY; rw[if_neg h1',if_neg h23,if_pos hi],hx⟩
theorem iQ (m:Mo)(l:List Int)(k:Nat)(hk:k<l.length):(szs m l)[k]?=some (JC m l[k]).length:=by
 unfold szs; rw[jZ,jM hk]; rfl
theorem NV (m:Mo)(l:List Int):(szs m l).length=l.length:=by unfold szs; simp
structure Two (h H:Hp) (m:Mo) (c:Cr) (cb:Nat):Prop where
 gm:H[h.length]?=some (zZ 2 [DJ m])
 gc:H[cb]?=some (zZ 3 [JK c])
 hx:∃x,H=h++x
theorem Two.lm {m:Mo}{c:Cr}(t:Two h H m c cb):BU jA H 28 (.ptr h.length 0 0)=some (.sl m.pm 6 (m.pts.map FY)):=by rw[BL fT t.gm (row:=DJ m) rfl,U8]
theorem Two.l0 {m:Mo}{c:Cr}(t:Two h H m c cb):BU jA H 9 (.ptr cb 0 0)=some (.str c.name):=by rw[BL ag9 t.gc (row:=JK c) rfl,AI5]
theorem Two.l1 {m:Mo}{c:Cr}(t:Two h H m c cb):BU jA H 32 (.ptr cb 0 1)=some (.sl c.pm 1 (c.pts.map qencI)):=by rw[BL O6 t.gc (row:=JK c) rfl,UD]
theorem Two.l2 {m:Mo}{c:Cr}(t:Two h H m c cb):BU jA H 25 (.ptr cb 0 2)=some (.sl c.xm 1 (c.excl.map NM)):=by rw[BL bH t.gc (row:=JK c) rfl,ACH]
theorem Two.mk' (h:Hp)(m:Mo)(c:Cr):Two h (h++[zZ 2 [DJ m]]++[zZ 3 [JK c]]) m c (h++[zZ 2 [DJ m]]).length:=⟨AL (A7 _ _),A7 _ _,⟨_,zG _ _ _⟩⟩
theorem AME (m:Mo)(c:Cr)(h:Hp)(hh:Here m c.pts)(hf:Full m)(hl:c.pts.length<=1048576):PCall (En G) 58 [.agg (DJ m),.agg (JK c)] h (.n (min (KD (szs m c.pts)) 1000)):=by
 refine ACalls.pure0 rfl ?_;refine acT Tryz.func58 4 ?_;have t:=Two.mk' h m c;refine BB @bxM @bxC ?_
 generalize h++[zZ 2 [DJ m]]++[zZ 3 [JK c]]=H at t|-
 generalize (h++[zZ 2 [DJ m]]).length=cb at t|-
 have hs:=hf.szs hh;refine ET 0 (fun F H'=>(F 5=.n (KD (szs m c.pts):Nat)∨∃n:Nat,1000<=n∧n<=KD (szs m c.pts)∧F 5=.n n)∧H'=H) (fun _ _=>False) ?_ ?_ (fun _ _ hh=>hh.elim)
 .refine BI (fun n F H'=>∃k,n+k=c.pts.length∧F 2=.ptr h.length 0 0∧F 3=.ptr cb 0 0∧F 5=.n (KD ((szs m c.pts).take k):Nat)∧F 6=.n (k:Nat)∧H'=H) c.pts.length ⟨0,BA,AQ,AQ,AQ,AQ,rfl⟩ ?_
  rintro n F H' ⟨k,hk,f2,f3,f5,f6,rfl⟩;refine DT f3 f6 @t.l1 ?_;refine IG ?_ ?_<;>intro ha
  .have hk':k<c.pts.length:=BN ha
   refine BB ha f5 ?_;refine CE ?_ ?_<;>intro hb
   .have hb':KD ((szs m c.pts).take k)<1000:=by simp at hb; omega
    obtain⟨s,ls⟩:=hh.ld hk' H';have hks:k<(szs m c.pts).length:=by rw[NV]; exact hk'
    have hgt:(szs m c.pts)[k]=(JC m c.pts[k]).length:=GV (iQ m c.pts k hk');have h64:=(hs _ (jH hks)).2;rw[hgt] at h64;have hpt:=aL (szs m c.pts) k hks;rw[hgt] at hpt;have hmul:KD ((szs m c.pts).take k)*(JC m c.pts[k]).length<=1000*64:=Nat.mul_le_mul U h64
    have hw:IntKind.i64.wrap ((KD ((szs m c.pts).take k):Int)*((JC m c.pts[k]).length:Int))=((KD ((szs m c.pts).take (k+1)):Nat):Int):=by
     rw[hpt,<-Int.natCast_mul,QU U]
    refine AO ?_;refine DV A8 ?_;simp -implicitDefEqProofs only[vQ,KH,IY,CV,WG,↓reduceIte,jB,jL,enP,RJ,KU,LQ,cV,KI,MB,f2,f3,f5,f6,t.lm,t.l1,CQ hk',CG ag3 hk',encI0,hh.ix hk',ls,jJ,hw,DF k];exact⟨n-1,U,k+1,U,trivial,trivial,rfl,rfl,trivial⟩
   .refine AO ?_
    exact⟨.inr ⟨_,by simp at hb; omega,AES _ _ (fun n hn=>(hs n hn).1),f5⟩,trivial⟩
  .have hk':¬k<c.pts.length:=BN ha
   refine BC ha ?_;refine⟨.inl ?_,trivial⟩;rw[jI (by rw[NV]; omega)] at f5;exact f5
 .rintro F H' ⟨f5,rfl⟩
  rcases f5 with f5|⟨n,h1,h2,f5⟩
  .refine BC f5 ?_
   exact⟨trivial,t.hx⟩
  .refine BC f5 ?_
   exact⟨by congr 1; omega,t.hx⟩
def placed (m:Mo)(c:Cr):Bool:=decide (2<=c.pts.length)&&decide (c.pts.length<=4)&&XY m.pts.length none c.pts
theorem AEW (m:Mo)(c:Cr)(h:Hp)(hl:c.pts.length<=1048576):PCall (En G) 196 [.agg (DJ m),.agg (JK c)] h (.bool (placed m c)):=by
 refine ACalls.pure0 rfl ?_;refine acT Tryz.func196 4 ?_;have t:=Two.mk' h m c;refine BB @bxM @bxC ?_
 generalize h++[zZ 2 [DJ m]]++[zZ 3 [JK c]]=H at t|-
 generalize (h++[zZ 2 [DJ m]]).length=cb at t|-
 refine BC @t.l1 ?_;refine IG ?_ ?_<;>intro h2
 .refine BC h2 ?_
  have:decide (2<=c.pts.length)=false:=by simp at h2|-; omega
  exact⟨by unfold placed; rw[this]; rfl,t.hx⟩
 have d2:decide (2<=c.pts.length)=true:=by simp at h2|-; omega
 refine BB h2 @t.l1 ?_;refine CE ?_ ?_<;>intro h3
 .refine AO ?_
  have:decide (c.pts.length<=4)=false:=by simp at h3|-; omega
  exact⟨by unfold placed; rw[this]; simp,t.hx⟩
 have d3:decide (c.pts.length<=4)=true:=by simp at h3|-; omega
 have hpl:placed m c=XY m.pts.length none c.pts:=by unfold placed; rw[d2,d3]; rfl
 rw[hpl];refine AO ?_;refine BI (fun n F H'=>∃k,n+k=c.pts.length∧F 2=.ptr h.length 0 0∧F 3=.ptr cb 0 0∧F 5=.n (k:Nat)∧H'=H∧XY m.pts.length none c.pts=XY m.pts.length (prev c.pts k) (c.pts.drop k)) c.pts.length ⟨0,BA,AQ,AQ,AQ,rfl,rfl⟩ ?_;rintro n F H' ⟨k,hk,f2,f3,f5,rfl,hi⟩;refine DT f3 f5 @t.l1 ?_;refine D8 ?_ ?_<;>intro hk'
 .rw[sG _ _ _ hk'] at hi
  refine AO ?_;refine DV A8 ?_;simp -implicitDefEqProofs only[vQ,I5,KJ,EJ,↓reduceIte,jB,jL,enP,LQ,MB,f2,f3,f5,t.l1,CQ hk',CG ag3 hk',encI0];refine oH ?_ ?_<;>intro ha
  .refine BC ha ?_
   have:decide (0<=c.pts[k])=false:=by simp at ha|-; omega
   exact⟨by rw[hi,this]; rfl,t.hx⟩
  have ha':decide (0<=c.pts[k])=true:=by simp at ha|-; omega
  simp -implicitDefEqProofs only[vQ,I5,KJ,WS,OC,IY,EJ,↓reduceIte,jB,jL,enP,AK7,KU,LQ,MB,ha,f2,f3,f5,t.lm,t.l1,CQ hk',CG ag3 hk',encI0,jJ];refine oH ?_ ?_<;>intro hb
  .refine BC hb ?_
   have:decide (c.pts[k]<(m.pts.length:Int))=false:=by simp at hb|-; omega
   exact⟨by rw[hi,this,ha']; rfl,t.hx⟩
  have hb':decide (c.pts[k]<(m.pts.length:Int))=true:=by simp at hb|-; omega
  rw[ha',hb'] at hi;simp only[qR] at hi
  cases k with
  | zero =>
    have hz:decide ((((0:Nat):Int))>0)=false:=by decide
    refine E8 hb hz f5 (DF 0) ?_;exact⟨n-1,U,1,U,f2,f3,rfl,trivial,by rw[hi]; rfl⟩
  | succ k =>
    have hz:decide ((((k+1:Nat):Int))>0)=true:=BA;have hw:IntKind.i64.wrap (((k+1:Nat):Int)-1)=(k:Int):=by rw[wrap_i64 U U]; omega
    have hk2:k<c.pts.length:=U;have hpv:prev c.pts (k+1)=some c.pts[k]:=by unfold prev; exact jM hk2
    rw[hpv] at hi;simp -implicitDefEqProofs only[vQ,I5,KJ,eD,WS,OC,EJ,OA,ZC,↓reduceIte,jB,jL,enP,LQ,MB,hb,hz,f3,f5,t.l1,hw,CQ hk',CQ hk2,CG ag3 hk',CG ag3 hk2,encI0];refine CE ?_ ?_<;>intro hd
    .refine AO ?_
     have:decide (c.pts[k]<c.pts[k+1])=false:=by simp at hd|-; omega
     exact⟨by rw[hi]; simp only[this]; rfl,t.hx⟩
    .refine BB f5 (DF (k+1)) ?_
     have:decide (c.pts[k]<c.pts[k+1])=true:=by simp at hd|-; omega
     exact⟨n-1,U,k+1+1,U,f2,f3,rfl,trivial,by rw[hi]; simp only[this]; rfl⟩
 .refine AO ?_
  exact⟨by rw[hi,jX U]; rfl,t.hx⟩
theorem iK (m:Mo)(c:Cr)(x:Is)(h:Hp)(hh:Here m c.pts)(hl:c.pts.length<=1048576):PCall (En G) 197 [.agg (DJ m),.agg (JK c),.sl x.m 1 (x.l.map qencI)] h (.bool (JX (szs m c.pts) x.l)):=by
 refine ACalls.pure0 rfl ?_;refine acT Tryz.func197 6 ?_;have t:=Two.mk' h m c;refine BB @bxM @bxC ?_
 generalize h++[zZ 2 [DJ m]]++[zZ 3 [JK c]]=H at t|-
 generalize (h++[zZ 2 [DJ m]]).length=cb at t|-
 refine BC @t.l1 ?_;refine CE ?_ ?_<;>intro h2
 .refine AO ?_
  have:JX (szs m c.pts) x.l=false:=by
   rw[<-Bool.not_eq_true]; intro e;have:=QY e;rw[NV] at this;simp at h2; omega
  exact⟨by rw[this],t.hx⟩
 have hlen:x.l.length=c.pts.length:=by simp at h2; omega
 refine AO ?_;refine BI (fun n F H'=>∃k,n+k=x.l.length∧F 2=.sl x.m 1 (x.l.map qencI)∧F 3=.ptr h.length 0 0∧F 4=.ptr cb 0 0∧F 7=.n (k:Nat)∧H'=H∧JX (szs m c.pts) x.l=JX ((szs m c.pts).drop k) (x.l.drop k)) x.l.length ⟨0,BA,AQ,AQ,AQ,AQ,rfl,rfl⟩ ?_;rintro n F H' ⟨k,hk,f2,f3,f4,f7,rfl,hi⟩;refine BB f2 f7 ?_;refine D8 ?_ ?_<;>intro hk'
 .have hkc:k<c.pts.length:=U
  have hks:k<(szs m c.pts).length:=by rw[NV]; exact hkc
  have hgt:(szs m c.pts)[k]=(JC m c.pts[k]).length:=GV (iQ m c.pts k hkc);rw[zU hk',zU hks,hgt] at hi;obtain⟨s,ls⟩:=hh.ld hkc H';refine AO ?_;refine DV A8 ?_;simp -implicitDefEqProofs only[vQ,I5,KJ,EJ,↓reduceIte,jB,jL,enP,LQ,f2,f3,f4,f7,CQ hk',CG ag3 hk',encI0];refine oH ?_ ?_<;>intro ha
  .refine BC ha ?_
   have:decide (0<=x.l[k])=false:=by simp at ha|-; omega
   exact⟨by rw[hi]; unfold JX; rw[this]; rfl,t.hx⟩
  have h0:decide (0<=x.l[k])=true:=by simp at ha|-; omega
  simp -implicitDefEqProofs only[vQ,I5,KJ,WS,OC,IY,EJ,↓reduceIte,jB,jL,enP,RJ,KU,LQ,cV,KI,MB,ha,f2,f3,f4,f7,t.lm,t.l1,CQ hk',CG ag3 hk',CQ hkc,CG ag3 hkc,encI0,hh.ix hkc,ls,jJ];refine CE ?_ ?_<;>intro hd
  .refine AO ?_
   have:decide (x.l[k]<((JC m c.pts[k]).length:Int))=false:=by simp at hd|-; omega
   exact⟨by rw[hi]; unfold JX; rw[this,h0]; rfl,t.hx⟩
  .refine BB f7 (DF k) ?_
   have h1:decide (x.l[k]<((JC m c.pts[k]).length:Int))=true:=by simp at hd|-; omega
   refine⟨n-1,U,k+1,U,f2,f3,f4,rfl,trivial,?_⟩;rw[hi]
   conv=>lhs; unfold JX
   rw[h0,h1]; rfl
 .refine AO ?_
  exact⟨by rw[hi,jX (U:x.l.length<=k),jX (by rw[NV]; omega)]; rfl,t.hx⟩
theorem AMF (m:Mo)(c:Cr)(hc:CrOk c)(hf:Full m)(h:Hp):PCall (En G) 109 [.agg (DJ m),.agg (JK c)] h (.n (HY m c)):=by
 refine ACalls.pure0 rfl ?_;have hc2:=hc.pts;have hc3:=hc.excl;refine acT Tryz.func109 4 ?_;have t:=Two.mk' h m c;refine DT @vH @bxM @bxC ?_
 generalize h++[zZ 2 [DJ m]]++[zZ 3 [JK c]]=H at t|-
 generalize (h++[zZ 2 [DJ m]]).length=cb at t|-
 refine BC @t.l0 ?_;refine(OY G c.name _).uu ?_;cases h1:FD c.name
 .refine AO ?_
  exact⟨by unfold HY; rw[if_pos h1],t.hx⟩
 have h1':¬FD c.name=false:=by rw[h1]; decide
 refine BB (ldM t.gm) (ldC t.gc) ?_;refine(AEW G m c _ U).uu ?_;cases h2:placed m c
 .refine AO ?_
  refine⟨?_,t.hx⟩;unfold HY; rw[if_neg h1'];unfold placed at h2;split
  .rfl
  .rename_i h3
   have d2:decide (2<=c.pts.length)=true:=by simp; omega
   have d3:decide (c.pts.length<=4)=true:=by simp; omega
   rw[d2,d3] at h2;rw[if_pos (BN h2)]
 unfold placed at h2;simp only[jU,decide_eq_true_eq] at h2;obtain⟨⟨h3,h4⟩,h5⟩:=h2;have h23:¬(c.pts.length<2∨4<c.pts.length):=U;have hi':¬XY m.pts.length none c.pts=false:=by rw[h5]; decide
 have hh:=Y7 h5;refine BB (ldM t.gm) (ldC t.gc) ?_;refine(AME G m c _ hh hf U).uu ?_;refine IG ?_ ?_<;>intro ha
 .refine BC ha ?_
  exact⟨by unfold HY; rw[if_neg h1',if_neg h23,if_neg hi',if_pos (.inl (by simp at ha; omega))],t.hx⟩
 refine BB ha @t.l2 ?_;refine CE ?_ ?_<;>intro hb
 .refine AO ?_
  exact⟨by unfold HY; rw[if_neg h1',if_neg h23,if_neg hi',if_pos (.inr (by simp at hb; omega))],t.hx⟩
 have hab:¬(256<KD (szs m c.pts)∨256<c.excl.length):=by simp at ha hb; omega
 have hce:HY m c=if(c.excl.any fun x => !JX (szs m c.pts) x.l) then 1 else 0:=by
  unfold HY; rw[if_neg h1',if_neg h23,if_neg hi',if_neg hab]
 refine AO ?_;refine BI (fun n F H'=>∃k,n+k=c.excl.length∧F 2=.ptr h.length 0 0∧F 3=.ptr cb 0 0∧F 5=.n (k:Nat)∧H'=H∧(c.excl.any fun x => !JX (szs m c.pts) x.l)=((c.excl.drop k).any fun x => !JX (szs m c.pts) x.l)) c.excl.length ⟨0,BA,AQ,AQ,AQ,rfl,rfl⟩ ?_;rintro n F H' ⟨k,hk,f2,f3,f5,rfl,hi⟩;refine DT f3 f5 @t.l2 ?_;refine D8 ?_ ?_<;>intro hk'
 .have hs:=MG (fun x:Is => !JX (szs m c.pts) x.l) c.excl k hk'
  refine AO ?_;refine DV A8 ?_;simp -implicitDefEqProofs only[vQ,AM7,NH,MF,bV,↓reduceIte,jB,jL,enP,pB,eY,f2,f3,f5,ldM t.gm,ldC t.gc,t.l2,CQ hk',CG O6 hk',mY];refine⟨_,iK G m c c.excl[k] _ hh U,?_⟩
  try refine AO ?_
  cases hx:JX (szs m c.pts) c.excl[k].l
  .refine AO ?_
   exact⟨by rw[hce,hi,hs,hx]; rfl,t.hx⟩
  .refine BB f5 (DF k) ?_
   refine⟨n-1,U,k+1,U,f2,f3,rfl,trivial,?_⟩;rw[hi,hs,hx]; rfl
 .refine AO ?_
  exact⟨by rw[hce,hi,jX U]; rfl,t.hx⟩
structure MoOk (m:Mo):Prop where
 np:m.pts.length<=1048576
 nc:m.crs.length<=1048576
 pts:∀p∈m.pts,PtOk p
 crs:∀c∈m.crs,CrOk c
def F8 (m:Mo):Int :=
 if 16<m.pts.length+m.crs.length then 2 else if fstE GL m.pts≠0 then fstE GL m.pts else if PZ (m.pts.map (·.name)) then 8 else
  if fstE (HY m) m.crs≠0 then fstE (HY m) m.crs else if PZ (m.crs.map (·.name)) then 8 else 0
theorem X5 {α:Type}(f:α->Int):∀ {xs:List α},fstE f xs=0->∀x∈xs,f x=0
 | [],_,_,hx=>by cases hx
 | y::ys,h,x,hx=>by
   simp only[fstE] at h;split at h
   .rename_i h0
    cases zM.1 hx with
    | inl e=>subst e; exact h0
    | inr e=>exact X5 f h x e
   .rename_i h0; exact absurd h h0
theorem gK {p:Pt}(h:GL p=0):1<=p.bins.length∧p.bins.length<=64:=by
 unfold GL at h;split at h
 .cases h
 .split at h
  .rename_i h2; exact absurd h h2
  .split at h
   .cases h
   .split at h
    .cases h
    .omega
theorem full_of {m:Mo}(h:fstE GL m.pts=0):Full m:=fun p hp=>gK (X5 _ h p hp)
theorem AW6 (h:Hp):GM jA h 82=some (.ptr h.length 0 0,h++[zZ 6 [[.str ⟨#[]⟩,.n 0,.n 0,.str ⟨#[]⟩,.sl .nil 0 [],.sl .nil 0 []]]]):=FV (row:=[.str ⟨#[]⟩,.n 0,.n 0,.str ⟨#[]⟩,.sl .nil 0 [],.sl .nil 0 []]) A8
theorem ATN (h:Hp)(p:Pt)(row:List AV)(hr:row.length=6):DW jA (h++[zZ 6 [row]]) 82 (.ptr h.length 0 0) (.agg (FY p))=some (h++[zZ 6 [FY p]]):=by
 rw[SI (O7 (fE p)) (by rw[IW]; exact ZI) (by rw[IW,hr]; exact jF _)];have:splice row 0 (FY p)=FY p:=by unfold splice; simp [IW,hr]
 rw[this]
theorem ldP {b:Nat}{p:Pt}(hb:h[b]?=some (zZ 6 [FY p])):BU jA h 82 (.ptr b 0 0)=some (.agg (FY p)):=by
 rw[EH fS ZI hb rfl (by rw[IW]; exact jF 6),zI,jI (by rw[IW]; exact jF 6)]
theorem A1F (h:Hp):GM jA h 90=some (.ptr h.length 0 0,h++[zZ 3 [[.str ⟨#[]⟩,.sl .nil 0 [],.sl .nil 0 []]]]):=FV (row:=[.str ⟨#[]⟩,.sl .nil 0 [],.sl .nil 0 []]) A8
theorem AZG (h:Hp)(c:Cr)(row:List AV)(hr:row.length=3):DW jA (h++[zZ 3 [row]]) 90 (.ptr h.length 0 0) (.agg (JK c))=some (h++[zZ 3 [JK c]]):=by
 rw[SI (O7 rfl) (by rw[NR]; exact tV) (by rw[NR,hr]; exact jF _)];have:splice row 0 (JK c)=JK c:=by unfold splice; simp [NR,hr]
 rw[this]
theorem QF (hG:GOk G)(m:Mo)(hm:MoOk m)(h:Hp):PCall (En G) 41 [.agg (DJ m)] h (.n (F8 m)):=by
 refine ACalls.pure0 rfl ?_;have hm1:=hm.np;have hm2:=hm.nc;refine acT Tryz.func41 2 ?_;have hw:IntKind.i64.wrap ((m.pts.length:Int)+(m.crs.length:Int))=(m.pts.length:Int)+(m.crs.length:Int):=wrap_i64 U U;refine AD1 @bxM fT nZ @U8 @YA hw ?_;refine CE ?_ ?_<;>intro h1
 .refine AO ?_
  exact⟨by unfold F8; rw[if_pos (by simp at h1; omega)],_,rfl⟩
 have h1':¬16<m.pts.length+m.crs.length:=by simp at h1; omega
 have hme:F8 m=if fstE GL m.pts≠0 then fstE GL m.pts else if PZ (m.pts.map (·.name)) then 8 else if fstE (HY m) m.crs≠0 then fstE (HY m) m.crs else if PZ (m.crs.map (·.name)) then 8 else 0:=by
  unfold F8; rw[if_neg h1']
 have lm0:∀H:Hp,H[h.length]?=some (zZ 2 [DJ m])->BU jA H 28 (.ptr h.length 0 0)=some (.sl m.pm 6 (m.pts.map FY)):=fun H hH=>by rw[BL fT hH (row:=DJ m) rfl,U8]
 have lm1:∀H:Hp,H[h.length]?=some (zZ 2 [DJ m])->BU jA H 29 (.ptr h.length 0 1)=some (.sl m.cm 3 (m.crs.map JK)):=fun H hH=>by rw[BL nZ hH (row:=DJ m) rfl,YA]
 refine MH fT @U8 ?_;refine ET 0 (fun F H=>F 1=.ptr h.length 0 0∧H[h.length]?=some (zZ 2 [DJ m])∧(∃x,H=h++x)∧fstE GL m.pts=0) (fun F H=>F 2=.n (F8 m)∧∃x,H=h++x) ?_ ?_ ?_
 .refine BI (fun n F H=>∃k,n+k=m.pts.length∧F 1=.ptr h.length 0 0∧F 18=.sl m.pm 6 (m.pts.map FY)∧F 19=.n m.pts.length∧F 20=.n (k:Nat)∧H[h.length]?=some (zZ 2 [DJ m])∧(∃x,H=h++x)∧fstE GL m.pts=fstE GL (m.pts.drop k)) m.pts.length ⟨0,BA,FI,FI,FI,FI,A7 _ _,⟨_,rfl⟩,rfl⟩ ?_
  rintro n F H ⟨k,hk,f1,f18,f19,f20,hb,⟨x,hx⟩,hf⟩;refine BB f19 f20 ?_;refine D8 ?_ ?_<;>intro hk'
  .have hs:=SN GL m.pts k hk'
   simp -implicitDefEqProofs only[vQ,CV,↓reduceIte,jB,enP,RJ,jO,f18,f20,CQ hk',DR fS ZI IW hk',AW6,ATN _ _ [.str ⟨#[]⟩,.n 0,.n 0,.str ⟨#[]⟩,.sl .nil 0 [],.sl .nil 0 []] rfl,ldP (A7 H (zZ 6 [FY m.pts[k]]))];refine(AEU G hG m.pts[k] (hm.pts _ (jH hk')) _).uu ?_;refine CE ?_ ?_<;>intro hv
   .refine AO ?_
    have hv':GL m.pts[k]≠0:=BN hv;have:fstE GL m.pts=GL m.pts[k]:=by rw[hf,hs,if_neg hv']
    exact⟨by rw[hme,this,if_pos hv'],x++_,by rw[hx,zG]⟩
   .have hv':GL m.pts[k]=0:=BN hv
    refine BB f20 (DF k) ?_;exact⟨n-1,U,k+1,U,f1,f18,f19,rfl,AL hb,⟨x++_,by rw[hx,zG]⟩,by rw[hf,hs,if_pos hv']⟩
  .refine AO ?_
   exact⟨f1,hb,⟨x,hx⟩,by rw[hf,jX U]; rfl⟩
 .rintro F H ⟨f1,hb,hx0,hf⟩
  have hfull:=full_of hf;rw[hf,if_neg (fun hh=>hh rfl)] at hme;refine BB f1 (lm0 _ hb) ?_;refine(AKL G m.pts m.pm H U).uu ?_;cases hd:PZ (m.pts.map (·.name))
  case true =>
   refine AO ?_;exact⟨by rw[hme,hd]; rfl,hx0⟩
  rw[hd] at hme;simp only[zY,if_false] at hme;refine BB f1 (lm1 _ hb) ?_;refine ET 2 (fun F H=>F 1=.ptr h.length 0 0∧H[h.length]?=some (zZ 2 [DJ m])∧(∃x,H=h++x)∧fstE (HY m) m.crs=0) (fun F H=>F 2=.n (F8 m)∧∃x,H=h++x) ?_ ?_ ?_
  .refine BI (fun n F H=>∃k,n+k=m.crs.length∧F 1=.ptr h.length 0 0∧F 34=.sl m.cm 3 (m.crs.map JK)∧F 35=.n m.crs.length∧F 36=.n (k:Nat)∧H[h.length]?=some (zZ 2 [DJ m])∧(∃x,H=h++x)∧fstE (HY m) m.crs=fstE (HY m) (m.crs.drop k)) m.crs.length ⟨0,BA,Q8 f1,FI,FI,FI,hb,hx0,rfl⟩ ?_
   clear f1 hb hx0;rintro n F H ⟨k,hk,f1,f34,f35,f36,hb,⟨x,hx⟩,hf⟩;refine BB f35 f36 ?_;refine D8 ?_ ?_<;>intro hk'
   .have hs:=SN (HY m) m.crs k hk'
    simp -implicitDefEqProofs only[vQ,CV,↓reduceIte,jB,enP,UN,jO,f1,f34,f36,CQ hk',DR AGK tV NR hk',A1F,AZG _ _ [.str ⟨#[]⟩,.sl .nil 0 [],.sl .nil 0 []] rfl,ldC (A7 H (zZ 3 [JK m.crs[k]])),ldM (AL (x:=zZ 3 [JK m.crs[k]]) hb)];refine(AF1 G hG m m.crs[k] (hm.crs _ (jH hk')) hfull _).uu ?_;refine CE ?_ ?_<;>intro hv
    .refine AO ?_
     have hv':HY m m.crs[k]≠0:=BN hv;have:fstE (HY m) m.crs=HY m m.crs[k]:=by rw[hf,hs,if_neg hv']
     exact⟨by rw[hme,this,if_pos hv'],x++_,by rw[hx,zG]⟩
    .have hv':HY m m.crs[k]=0:=BN hv
     refine BB f36 (DF k) ?_;exact⟨n-1,U,k+1,U,f1,f34,f35,rfl,AL hb,⟨x++_,by rw[hx,zG]⟩,by rw[hf,hs,if_pos hv']⟩
   .refine AO ?_
    exact⟨f1,hb,⟨x,hx⟩,by rw[hf,jX U]; rfl⟩
  .rintro F H ⟨f1,hb,hx,hf⟩
   rw[hf,if_neg (fun hh=>hh rfl)] at hme;refine BB f1 (lm1 _ hb) ?_;refine(AKM G m.crs m.cm H U).uu ?_;cases hd:PZ (m.crs.map (·.name))
   .refine AO ?_
    exact⟨by rw[hme,hd]; rfl,hx⟩
   .refine AO ?_
    exact⟨by rw[hme,hd]; rfl,hx⟩
  .rintro F H ⟨f2,hx⟩
   refine BC f2 ?_;exact⟨trivial,hx⟩
 .rintro F H ⟨f2,hx⟩
  refine BC f2 ?_;exact⟨trivial,hx⟩
theorem rS (m:Mo)(hm:MoOk m)(h:Hp):PCall (En G) 49 [.agg (DJ m)] h (.n (F8 m)):=by
 refine ACalls.pure0 rfl ?_;have hm1:=hm.np;have hm2:=hm.nc;refine acT Tryz.func49 2 ?_;have hw:IntKind.i64.wrap ((m.pts.length:Int)+(m.crs.length:Int))=(m.pts.length:Int)+(m.crs.length:Int):=wrap_i64 U U;have gm:=A7 h (zZ 2 [DJ m]);have hx:∃x,h++[zZ 2 [DJ m]]=h++x:=⟨_,rfl⟩;refine BC @bxM ?_
 generalize h++[zZ 2 [DJ m]]=H at gm hx|-
 have lm0:BU jA H 28 (.ptr h.length 0 0)=some (.sl m.pm 6 (m.pts.map FY)):=by rw[BL fT gm (row:=DJ m) rfl,U8]
 have lm1:BU jA H 29 (.ptr h.length 0 1)=some (.sl m.cm 3 (m.crs.map JK)):=by rw[BL nZ gm (row:=DJ m) rfl,YA]
 refine DT lm0 lm1 hw ?_;refine CE ?_ ?_<;>intro h1
 .refine AO ?_
  exact⟨by unfold F8; rw[if_pos (by simp at h1; omega)],hx⟩
 have h1':¬16<m.pts.length+m.crs.length:=by simp at h1; omega
 have hme:F8 m=if fstE GL m.pts≠0 then fstE GL m.pts else if PZ (m.pts.map (·.name)) then 8 else if fstE (HY m) m.crs≠0 then fstE (HY m) m.crs else if PZ (m.crs.map (·.name)) then 8 else 0:=by
  unfold F8; rw[if_neg h1']
 refine AO ?_;refine ET 0 (fun F H'=>F 1=.ptr h.length 0 0∧H'=H∧fstE GL m.pts=0) (fun F H'=>F 2=.n (F8 m)∧H'=H) ?_ ?_ ?_
 .refine BI (fun n F H'=>∃k,n+k=m.pts.length∧F 1=.ptr h.length 0 0∧F 3=.n (k:Nat)∧H'=H∧fstE GL m.pts=fstE GL (m.pts.drop k)) m.pts.length ⟨0,BA,AQ,AQ,rfl,rfl⟩ ?_
  rintro n F H' ⟨k,hk,f1,f3,rfl,hf⟩;refine DT f1 f3 lm0 ?_;refine D8 ?_ ?_<;>intro hk'
  .have hs:=SN GL m.pts k hk'
   simp -implicitDefEqProofs only[vQ,CV,↓reduceIte,jB,enP,RJ,KU,f1,f3,lm0,CQ hk',DR fS ZI IW hk'];refine(AKR G m.pts[k] (hm.pts _ (jH hk')) _).uu ?_;refine CE ?_ ?_<;>intro hv
   .refine AO ?_
    have hv':GL m.pts[k]≠0:=BN hv;have:fstE GL m.pts=GL m.pts[k]:=by rw[hf,hs,if_neg hv']
    exact⟨by rw[hme,this,if_pos hv'],trivial⟩
   .have hv':GL m.pts[k]=0:=BN hv
    refine BB f3 (DF k) ?_;exact⟨n-1,U,k+1,U,f1,rfl,trivial,by rw[hf,hs,if_pos hv']⟩
  .refine AO ?_
   exact⟨f1,trivial,by rw[hf,jX U]; rfl⟩
 .rintro F H' ⟨f1,rfl,hf⟩
  have hfull:=full_of hf;rw[hf,if_neg (fun hh=>hh rfl)] at hme;refine BC f1 ?_;refine ET 2 (fun F H=>F 1=.ptr h.length 0 0∧H=H'∧PZ (m.pts.map (·.name))=false) (fun F H=>F 2=.n (F8 m)∧H=H') ?_ ?_ ?_
  .generalize hN:m.pts.map (·.name)=N at hme|-
   have hNl:N.length=m.pts.length:=by rw[<-hN]; simp
   have hNi:∀i (hi:i<m.pts.length),N[i]?=some m.pts[i].name:=fun i hi=>by rw[<-hN,jZ,jM hi]; rfl
   refine BI (fun n F H=>∃i,n+i=m.pts.length∧F 1=.ptr h.length 0 0∧F 5=.n (i:Nat)∧H=H'∧PZ N=pN (N.take i) (N.drop i)) m.pts.length ⟨0,BA,EM f1,AQ,rfl,rfl⟩ ?_;clear f1;rintro n F H' ⟨i,hi,f1,f5,rfl,hd⟩;refine DT f1 f5 lm0 ?_;refine D8 ?_ ?_<;>intro hi'
   .have hdrop:=SQ N i U
    rw[GV (hNi i hi')] at hdrop;refine BC f5 ?_;refine ET 4 (fun F' H=>F' 1=.ptr h.length 0 0∧F' 5=.n (i:Nat)∧H=H'∧IR (N.take i) m.pts[i].name=false) (fun F' H=>F' 2=.n 8∧H=H'∧PZ N=true) ?_ ?_ ?_
    .refine BI (fun n F' H=>∃k,n+k=i∧F' 1=.ptr h.length 0 0∧F' 5=.n (i:Nat)∧F' 6=.n (k:Nat)∧H=H'∧IR (N.take i) m.pts[i].name=IR ((N.take i).drop k) m.pts[i].name) i ⟨0,BA,EM f1,EM f5,AQ,rfl,rfl⟩ ?_
     clear f1 f5;rintro n' F H' ⟨k,hk,f1,f5,f6,rfl,hin⟩;refine BB f5 f6 ?_;refine D8 ?_ ?_<;>intro hk'
     .have hk2:k<m.pts.length:=U
      have hs:=MG (fun u=>m.pts[i].name.toList==u.toList) (N.take i) k (by rw[jV]; omega)
      have hx:(N.take i)[k]'(by rw[jV]; omega)=m.pts[k].name:=by
       rw[List.getElem_take]; exact GV (hNi k hk2)
      rw[hx] at hs;refine AO ?_;refine DV A8 ?_;simp -implicitDefEqProofs only[vQ,NT,↓reduceIte,jB,jL,enP,RJ,KU,vJ,f1,f5,f6,lm0,CQ hi',CQ hk2,CG ag9 hi',CG ag9 hk2,AI4];refine CE ?_ ?_<;>intro hb
      .refine AO ?_
       have:IR (N.take i) m.pts[i].name=true:=by
        rw[hin]; unfold IR; rw[hs,BEq.comm,hb]; rfl
       exact⟨trivial,trivial,by rw[hd,hdrop,this]; rfl⟩
      .refine BB f6 (DF k) ?_
       refine⟨n'-1,U,k+1,U,f1,f5,rfl,trivial,?_⟩;rw[hin]; unfold IR; rw[hs,BEq.comm,hb]; rfl
     .refine AO ?_
      refine⟨f1,f5,trivial,?_⟩;rw[hin,jX (by rw[jV]; omega)]; rfl
    .rintro F' H' ⟨g1,g5,rfl,hn⟩
     refine BB g5 (DF i) ?_;refine⟨n-1,U,i+1,U,g1,rfl,trivial,?_⟩;rw[hd,hdrop,hn]; rfl
    .rintro F' H' ⟨g2,rfl,hdd⟩
     refine BC g2 ?_;exact⟨by rw[hme,hdd]; rfl,trivial⟩
   .refine AO ?_
    exact⟨f1,trivial,by rw[hd,jX U]; rfl⟩
  .clear f1
   rintro F H ⟨f1,rfl,hd⟩;rw[hd] at hme;simp only[zY,if_false] at hme;refine AO ?_;refine ET 6 (fun F H'=>F 1=.ptr h.length 0 0∧H'=H∧fstE (HY m) m.crs=0) (fun F H'=>F 2=.n (F8 m)∧H'=H) ?_ ?_ ?_
   .refine BI (fun n F H'=>∃k,n+k=m.crs.length∧F 1=.ptr h.length 0 0∧F 7=.n (k:Nat)∧H'=H∧fstE (HY m) m.crs=fstE (HY m) (m.crs.drop k)) m.crs.length ⟨0,BA,EM f1,AQ,rfl,rfl⟩ ?_
    clear f1;rintro n F H' ⟨k,hk,f1,f7,rfl,hf⟩;refine DT f1 f7 lm1 ?_;refine D8 ?_ ?_<;>intro hk'
    .have hs:=SN (HY m) m.crs k hk'
     refine AO ?_;refine DV A8 ?_;simp -implicitDefEqProofs only[vQ,KH,NH,MF,CV,↓reduceIte,jB,jL,enP,UN,MM,f1,f7,lm1,ldM gm,CQ hk',DR AGK tV NR hk'];refine⟨_,AMF G m m.crs[k] (hm.crs _ (jH hk')) hfull _,?_⟩
     try refine AO ?_
     refine CE ?_ ?_<;>intro hv
     .refine AO ?_
      have hv':HY m m.crs[k]≠0:=BN hv;have:fstE (HY m) m.crs=HY m m.crs[k]:=by rw[hf,hs,if_neg hv']
      exact⟨by rw[hme,this,if_pos hv'],trivial⟩
     .have hv':HY m m.crs[k]=0:=BN hv
      refine BB f7 (DF k) ?_;exact⟨n-1,U,k+1,U,f1,rfl,trivial,by rw[hf,hs,if_pos hv']⟩
    .refine AO ?_
     exact⟨f1,trivial,by rw[hf,jX U]; rfl⟩
   .rintro F H' ⟨f1,rfl,hf⟩
    rw[hf,if_neg (fun hh=>hh rfl)] at hme;refine AO ?_;generalize hN:m.crs.map (·.name)=N at hme;have hNl:N.length=m.crs.length:=by rw[<-hN]; simp
    have hNi:∀i (hi:i<m.crs.length),N[i]?=some m.crs[i].name:=fun i hi=>by rw[<-hN,jZ,jM hi]; rfl
    refine BI (fun n F H=>∃i,n+i=m.crs.length∧F 1=.ptr h.length 0 0∧F 9=.n (i:Nat)∧H=H'∧PZ N=pN (N.take i) (N.drop i)) m.crs.length ⟨0,BA,EM f1,AQ,rfl,rfl⟩ ?_;clear f1;rintro n F H' ⟨i,hi,f1,f9,rfl,hd⟩;refine DT f1 f9 lm1 ?_;refine D8 ?_ ?_<;>intro hi'
    .have hdrop:=SQ N i U
     rw[GV (hNi i hi')] at hdrop;refine BC f9 ?_;refine ET 10 (fun F' H=>F' 1=.ptr h.length 0 0∧F' 9=.n (i:Nat)∧H=H'∧IR (N.take i) m.crs[i].name=false) (fun F' H=>F' 2=.n 8∧H=H'∧PZ N=true) ?_ ?_ ?_
     .refine BI (fun n F' H=>∃k,n+k=i∧F' 1=.ptr h.length 0 0∧F' 9=.n (i:Nat)∧F' 10=.n (k:Nat)∧H=H'∧IR (N.take i) m.crs[i].name=IR ((N.take i).drop k) m.crs[i].name) i ⟨0,BA,EM f1,EM f9,AQ,rfl,rfl⟩ ?_
      clear f1 f9;rintro n' F H' ⟨k,hk,f1,f9,f10,rfl,hin⟩;refine BB f9 f10 ?_;refine D8 ?_ ?_<;>intro hk'
      .have hk2:k<m.crs.length:=U
       have hs:=MG (fun u=>m.crs[i].name.toList==u.toList) (N.take i) k (by rw[jV]; omega)
       have hx:(N.take i)[k]'(by rw[jV]; omega)=m.crs[k].name:=by
        rw[List.getElem_take]; exact GV (hNi k hk2)
       rw[hx] at hs;refine AO ?_;refine DV A8 ?_;simp -implicitDefEqProofs only[vQ,NT,↓reduceIte,jB,jL,enP,UN,MM,vH,f1,f9,f10,lm1,CQ hi',CQ hk2,CG ag9 hi',CG ag9 hk2,AI5];refine CE ?_ ?_<;>intro hb
       .refine AO ?_
        have:IR (N.take i) m.crs[i].name=true:=by
         rw[hin]; unfold IR; rw[hs,BEq.comm,hb]; rfl
        exact⟨trivial,trivial,by rw[hd,hdrop,this]; rfl⟩
       .refine BB f10 (DF k) ?_
        refine⟨n'-1,U,k+1,U,f1,f9,rfl,trivial,?_⟩;rw[hin]; unfold IR; rw[hs,BEq.comm,hb]; rfl
      .refine AO ?_
       refine⟨f1,f9,trivial,?_⟩;rw[hin,jX (by rw[jV]; omega)]; rfl
     .rintro F' H' ⟨g1,g9,rfl,hn⟩
      refine BB g9 (DF i) ?_;refine⟨n-1,U,i+1,U,g1,rfl,trivial,?_⟩;rw[hd,hdrop,hn]; rfl
     .rintro F' H' ⟨g2,rfl,hdd⟩
      refine BC g2 ?_;exact⟨by rw[hme,hdd]; rfl,hx⟩
    .refine AO ?_
     exact⟨by rw[hme,hd,jX U]; rfl,hx⟩
   .rintro F H' ⟨f2,rfl⟩
    refine BC f2 ?_;exact⟨trivial,hx⟩
  .rintro F H ⟨f2,rfl⟩
   refine BC f2 ?_;exact⟨trivial,hx⟩
 .rintro F H' ⟨f2,rfl⟩
  refine BC f2 ?_;exact⟨trivial,hx⟩
def eqL (a b:List Int):Bool:=decide (a=b)
theorem ACB {a b:List Int}(ha:k<a.length)(hb:k<b.length):eqL (a.drop k) (b.drop k)=(decide (a[k]=b[k])&&eqL (a.drop (k+1)) (b.drop (k+1))):=by
 rw[zU ha,zU hb];unfold eqL;rw[decide_eq_decide.2 (Iff.of_eq (List.cons.injEq _ _ _ _)),Bool.decide_and]
theorem AFT (a b:List Int)(s t:SM)(h:Hp)(hl:b.length<=1099511627776):PCall (En G) 216 [.sl s 1 (a.map qencI),.sl t 1 (b.map qencI)] h (.bool (eqL a b)):=by
 refine acT Tryz.func216 4 ?_;refine AO ?_;refine CE ?_ ?_<;>intro h1
 .refine AO ?_
  have:eqL a b=false:=by
   unfold eqL; rw[decide_eq_false_iff_not]; intro e; subst e; simp at h1
  exact⟨by rw[this],trivial⟩
 have hab:a.length=b.length:=by simp at h1; omega
 refine AO ?_;refine BI (fun n F H=>∃k,n+k=a.length∧F 0=.sl s 1 (a.map qencI)∧F 1=.sl t 1 (b.map qencI)∧F 12=.n a.length∧F 13=.n (k:Nat)∧H=h∧eqL a b=eqL (a.drop k) (b.drop k)) a.length ⟨0,BA,AQ,AQ,AQ,AQ,rfl,rfl⟩ ?_;rintro n F H ⟨k,hk,f0,f1,f12,f13,rfl,hi⟩;refine BB f12 f13 ?_;refine D8 ?_ ?_<;>intro hk'
 .have hkb:k<b.length:=U
  rw[ACB hk' hkb] at hi;refine BC f13 ?_;refine DV A8 ?_;simp -implicitDefEqProofs only[vQ,↓reduceIte,jB,jL,enP,LQ,f0,f1,f13,CQ hk',CQ hkb,CG ag3 hk',CG ag3 hkb,encI0];refine CE ?_ ?_<;>intro hd
  .refine AO ?_
   have:decide (a[k]=b[k])=false:=BN hd;exact⟨by rw[hi,this]; rfl,trivial⟩
  .refine BB f13 (DF k) ?_
   have:decide (a[k]=b[k])=true:=BN hd;exact⟨n-1,U,k+1,U,f0,f1,f12,rfl,trivial,by rw[hi,this]; rfl⟩
 .refine AO ?_
  exact⟨by rw[hi,jX U,jX U]; rfl,trivial⟩
theorem AEK (a b:List Int)(s t:SM)(h:Hp)(hl:b.length<=1099511627776):PCall (En G) 200 [.sl s 1 (a.map qencI),.sl t 1 (b.map qencI)] h (.bool (eqL a b)):=by
 refine acT Tryz.func200 4 ?_;refine AO ?_;refine CE ?_ ?_<;>intro h1
 .refine AO ?_
  have:eqL a b=false:=by
   unfold eqL; rw[decide_eq_false_iff_not]; intro e; subst e; simp at h1
  exact⟨by rw[this],trivial⟩
 have hab:a.length=b.length:=by simp at h1; omega
 refine AO ?_;refine BI (fun n F H=>∃k,n+k=a.length∧F 0=.sl s 1 (a.map qencI)∧F 1=.sl t 1 (b.map qencI)∧F 5=.n (k:Nat)∧H=h∧eqL a b=eqL (a.drop k) (b.drop k)) a.length ⟨0,BA,AQ,AQ,AQ,rfl,rfl⟩ ?_;rintro n F H ⟨k,hk,f0,f1,f5,rfl,hi⟩;refine BB f0 f5 ?_;refine D8 ?_ ?_<;>intro hk'
 .have hkb:k<b.length:=U
  rw[ACB hk' hkb] at hi;refine AO ?_;refine DV A8 ?_;simp -implicitDefEqProofs only[vQ,↓reduceIte,jB,jL,enP,LQ,f0,f1,f5,CQ hk',CQ hkb,CG ag3 hk',CG ag3 hkb,encI0];refine CE ?_ ?_<;>intro hd
  .refine AO ?_
   have:decide (a[k]=b[k])=false:=BN hd;exact⟨by rw[hi,this]; rfl,trivial⟩
  .refine BB f5 (DF k) ?_
   have:decide (a[k]=b[k])=true:=BN hd;exact⟨n-1,U,k+1,U,f0,f1,rfl,trivial,by rw[hi,this]; rfl⟩
 .refine AO ?_
  exact⟨by rw[hi,jX U,jX U]; rfl,trivial⟩
def YT (n:Int):Bool:=decide (0<=n)&&decide (n<=1099511627776)
def countB (n:Int)(may:Bool):Bool:=YT n&&(may||n==0)
theorem bC (n:Int)(may:Bool)(h:Hp):PCall (En G) 121 [.n n,.bool may] h (.bool (countB n may)):=by
 refine acT Tryz.func121 4 ?_;refine AO ?_;cases ha:decide (n≥0)<;>cases hb:decide (n<=1099511627776)<;>cases may
 all_goals
  refine BB ha hb ?_;exact⟨by unfold countB YT; rw[show decide (0<=n)=decide (n≥0) from rfl,ha,hb]; rfl,trivial⟩
theorem ACV (b:Bin)(h:Hp):PCall (En G) 210 [.agg (IP b)] h (.bool (b.kind==0)):=by
 refine ACalls.pure0 rfl ?_;refine acT Tryz.func210 2 ?_;refine MH @bxB @TE ?_;exact⟨trivial,_,rfl⟩
def eR (m:Mo)(p b:Int):Int:=match (JC m p)[b.toNat]? with
 | some x=>x.kind
 | none=>0
def RI (m:Mo):List Int->List Int->Bool
 | p::ps,b::bs=>(eR m p b==0)&&RI m ps bs
 | _,_=>true
def dC (m:Mo)(c:Cr)(l:List Int):Bool:=RI m c.pts l && !(c.excl.any fun x=>eqL x.l l)
theorem dA {m:Mo}:∀ {ps l:List Int},JX (szs m ps) l=true->∀(k:Nat) (hk:k<l.length) (hp:k<ps.length),0<=l[k]∧l[k]<((JC m ps[k]).length:Int)
 | p::ps,b::bs,h,k,hk,hp=>by
   simp only[szs,jK,JX,jU,decide_eq_true_eq] at h
   cases k with
   | zero=>exact h.1
   | succ k=>exact dA (m:=m) (ps:=ps) h.2 k (BN hk) (BN hp)
 | [],b::bs,h,k,hk,hp=>by simp at hp
 | _,[],h,k,hk,hp=>by simp at hk
theorem gL (m:Mo)(ps l:List Int)(k:Nat)(hp:k<ps.length)(hk:k<l.length):RI m (ps.drop k) (l.drop k)=((eR m ps[k] l[k]==0)&&RI m (ps.drop (k+1)) (l.drop (k+1))):=by
 rw[zU hp,zU hk]; rfl
theorem lT (m:Mo)(ps:List Int):RI m ps []=true:=by cases ps<;>rfl
theorem AR5 {m:Mo}{p b:Int}(h0:0<=b)(h1:b<((JC m p).length:Int))(h:Hp)(s:SM):JJ 4 h (.sl s 4 ((JC m p).map IP)) (.n b)=some (.fptr 4 ((JC m p).map IP) b.toNat 0) :=
 AX4 h0 (by rw[jJ]; exact h1)
theorem ADB {m:Mo}{p b:Int}(h0:0<=b)(h1:b<((JC m p).length:Int)):((JC m p)[b.toNat]'U).kind=eR m p b:=by
 unfold eR; rw[jM U]
theorem AVZ (xs:List Nat):xs.map PY=(xs.map fun n:Nat=>(n:Int)).map qencI:=by
 rw[qM]; rfl
def AJ4:List Nat->Nat->List Nat×Nat
 | [],k=>([],k)
 | n::ns,k=>(((AJ4 ns k).2%n)::(AJ4 ns k).1,(AJ4 ns k).2/n)
def ANQ (ns:List Nat)(k:Nat):List Int:=(AJ4 ns k).1.map fun n:Nat=>(n:Int)
theorem yB:∀(ns:List Nat) (k:Nat),(AJ4 ns k).1.length=ns.length
 | [],_=>rfl
 | n::ns,k=>by simp [AJ4,yB ns k]
theorem A6Q (h:Hp)(n:Nat)(hn:n<=1048576):IM jA true h 32 (.n (n:Int)) (.n (n:Int))=some (.own h.length 0 n,h++[zZ 1 ((zD n 0).map PY)]):=by
 have hz:NF jA 3=some [.n 0]:=A8;have hr:room n 8:=IV U U;unfold IM;simp only[tR,sz3,AF8,hz,Int.toNat_natCast];rw[if_pos ⟨U,Int.le_refl _,hr,rfl⟩];simp [PY]
structure Cvr where
 pm:SM
 pts:List Is
 cm:SM
 crs:List Is
 sam:Int
 ill:Int
def encV (v:Cvr):List AV:=[.sl v.pm 1 (v.pts.map NM),.sl v.cm 1 (v.crs.map NM),.n v.sam,.n v.ill]
theorem encV0 (v:Cvr):(encV v)[0]?=some (.sl v.pm 1 (v.pts.map NM)):=rfl
theorem AQ6 (v:Cvr):(encV v)[1]?=some (.sl v.cm 1 (v.crs.map NM)):=rfl
theorem AYH (v:Cvr):(encV v)[2]?=some (.n v.sam):=rfl
theorem AYG (v:Cvr):(encV v)[3]?=some (.n v.ill):=rfl
theorem encV_len (v:Cvr):(encV v).length=4:=rfl
theorem bxV (h:Hp)(v:Cvr):MI h (.agg (encV v))=some (.ptr h.length 0 0,h++[zZ 4 [encV v]]):=rfl
theorem ldV {b:Nat}{v:Cvr}(hb:h[b]?=some (zZ 4 [encV v])):BU jA h 46 (.ptr b 0 0)=some (.agg (encV v)):=by
 rw[EH A5H ANW hb rfl (by rw[encV_len]; exact jF 4)]; rfl
def rowF (p:Nat->Bool):Nat->List Int->Bool
 | _,[]=>true
 | k,n::ns=>countB n (p k)&&rowF p (k+1) ns
theorem AKJ (p:Nat->Bool)(l:List Int)(k:Nat)(hk:k<l.length):rowF p k (l.drop k)=(countB l[k] (p k)&&rowF p (k+1) (l.drop (k+1))):=by
 rw[zU hk]; rfl
def X7 {α:Type}(ok:α->Is->Bool):List α->List Is->Bool
 | [],[]=>true
 | a::ws,x::xs=>ok a x&&X7 ok ws xs
 | _,_=>false
theorem AB3 {α:Type}{ok:α->Is->Bool}:∀ {ws:List α} {xs:List Is},X7 ok ws xs=true->ws.length=xs.length
 | [],[],_=>rfl
 | a::ws,x::xs,h=>by
   simp only[X7,jU] at h;simp [AB3 h.2]
 | [],_::_,h=>by cases h
 | _::_,[],h=>by cases h
theorem ALW {α:Type}(ok:α->Is->Bool)(ws:List α)(xs:List Is)(k:Nat)(ha:k<ws.length)(hx:k<xs.length):X7 ok (ws.drop k) (xs.drop k)=(ok ws[k] xs[k]&&X7 ok (ws.drop (k+1)) (xs.drop (k+1))):=by
 rw[zU ha,zU hx]; rfl
theorem AQQ {α:Type}(ok:α->Is->Bool)(ws:List α)(xs:List Is)(k:Nat)(ha:ws.length<=k)(hx:xs.length<=k):X7 ok (ws.drop k) (xs.drop k)=true:=by
 rw[jX ha,jX hx]; rfl
def kindOf (p:Pt)(k:Nat):Int:=match p.bins[k]? with
 | some b=>b.kind
 | none=>0
def okP (p:Pt)(x:Is):Bool:=(x.l.length==p.bins.length)&&rowF (fun k=>kindOf p k==0) 0 x.l
def okC (m:Mo)(c:Cr)(x:Is):Bool:=(x.l.length==KD (szs m c.pts))&&rowF (fun k=>dC m c (ANQ (szs m c.pts) k)) 0 x.l
structure CvOk (v:Cvr):Prop where
 pts:v.pts.length<=1048576
 crs:v.crs.length<=1048576
 eachP:∀x∈v.pts,x.l.length<=1048576
 eachC:∀x∈v.crs,x.l.length<=1048576
theorem ALV (m:Mo)(l:List Is)(s:SM)(h:Hp)(hm:MoOk m)(hl:∀x∈l,x.l.length<=1048576):PCall (En G) 119 [.agg (DJ m),.sl s 1 (l.map NM)] h (.bool (X7 okP m.pts l)):=by
 refine ACalls.pure0 rfl ?_;have hm1:=hm.np;refine acT Tryz.func119 4 ?_;refine KF @bxM fT @U8 ?_;refine CE ?_ ?_<;>intro h1
 .refine AO ?_
  have:X7 okP m.pts l=false:=by
   rw[<-Bool.not_eq_true]; intro e;have:=AB3 e;simp at h1; omega
  exact⟨by rw[this],_,rfl⟩
 have hlen:l.length=m.pts.length:=by simp at h1; omega
 refine MH fT @U8 ?_;refine BI (fun n F H=>∃i,n+i=m.pts.length∧F 1=.sl s 1 (l.map NM)∧F 16=.sl m.pm 6 (m.pts.map FY)∧F 17=.n m.pts.length∧F 18=.n (i:Nat)∧(∃x,H=h++x)∧X7 okP m.pts l=X7 okP (m.pts.drop i) (l.drop i)) m.pts.length ⟨0,BA,FI,FI,FI,FI,⟨_,rfl⟩,rfl⟩ ?_;rintro n F H ⟨i,hi,f1,f16,f17,f18,hx,hf⟩;refine BB f17 f18 ?_;refine D8 ?_ ?_<;>intro hi'
 .have hil:i<l.length:=U
  rw[ALW okP m.pts l i hi' hil] at hf
  have hx1:∃x,H++[zZ 6 [FY m.pts[i]]]=h++x:=by
   obtain⟨x,rfl⟩:=hx;exact⟨_,zG _ _ _⟩
  have hxl:=hl _ (jH hil);simp -implicitDefEqProofs only[vQ,CV,↓reduceIte,jB,enP,RJ,jO,f16,f18,CQ hi',DR fS ZI IW hi',AW6,ATN _ _ [.str ⟨#[]⟩,.n 0,.n 0,.str ⟨#[]⟩,.sl .nil 0 [],.sl .nil 0 []] rfl];refine DV A8 ?_;simp -implicitDefEqProofs only[vQ,IY,↓reduceIte,jB,jL,enP,pB,XT,cV,KI,f1,CQ hil,CG O6 hil,mY,EE O4,OO,jJ];refine CE ?_ ?_<;>intro h2
  .refine AO ?_
   have:okP m.pts[i] l[i]=false:=by
    have:(l[i].l.length==m.pts[i].bins.length)=false:=by
     rw[beq_eq_false_iff_ne]; intro e; simp [e] at h2
    unfold okP; rw[this]; rfl
   exact⟨by rw[hf,this]; rfl,hx1⟩
  have hbl:l[i].l.length=m.pts[i].bins.length:=by simp at h2; omega
  have hok:okP m.pts[i] l[i]=rowF (fun k=>kindOf m.pts[i] k==0) 0 l[i].l:=by
   unfold okP; rw[beq_iff_eq.2 hbl]; rfl
  simp -implicitDefEqProofs only[vQ,CV,↓reduceIte,jB,enP,pB,XT,f1,CQ hil,CG O6 hil,mY,jJ];refine ET 2 (fun F' H'=>F' 1=.sl s 1 (l.map NM)∧F' 16=.sl m.pm 6 (m.pts.map FY)∧F' 17=.n m.pts.length∧F' 18=.n (i:Nat)∧H'=H++[zZ 6 [FY m.pts[i]]]∧okP m.pts[i] l[i]=true) (fun F' H'=>F' 4=.bool false∧H'=H++[zZ 6 [FY m.pts[i]]]∧okP m.pts[i] l[i]=false) ?_ ?_ ?_
  .refine BI (fun n F' H'=>∃k,n+k=l[i].l.length∧F' 1=.sl s 1 (l.map NM)∧F' 16=.sl m.pm 6 (m.pts.map FY)∧F' 17=.n m.pts.length∧F' 18=.n (i:Nat)∧F' 6=.ptr H.length 0 0∧F' 35=.sl l[i].m 1 (l[i].l.map qencI)∧F' 36=.n l[i].l.length∧F' 37=.n (k:Nat)∧H'=H++[zZ 6 [FY m.pts[i]]]∧okP m.pts[i] l[i]=rowF (fun k=>kindOf m.pts[i] k==0) k (l[i].l.drop k)) l[i].l.length ⟨0,BA,Q8 f1,Q8 f16,Q8 f17,Q8 f18,FI,FI,FI,FI,rfl,hok⟩ ?_
   clear f1 f16 f17 f18;rintro n' F H' ⟨k,hk,f1,f16,f17,f18,f6,f35,f36,f37,rfl,hr⟩;refine BB f36 f37 ?_;refine D8 ?_ ?_<;>intro hk'
   .have hkb:k<m.pts[i].bins.length:=U
    have hkd:kindOf m.pts[i] k=(m.pts[i].bins[k]).kind:=by unfold kindOf; rw[jM hkb]
    rw[AKJ _ _ _ hk',hkd] at hr;simp -implicitDefEqProofs only[vQ,CV,↓reduceIte,jB,enP,LQ,XV,KI,f6,f35,f37,CQ hk',CG ag3 hk',encI0,EE O4,OO,CQ hkb,DR nY cB LJ hkb];refine(ACV G _ _).uu ?_;refine(bC G _ _ _).uu ?_;cases hcb:countB l[i].l[k] (m.pts[i].bins[k].kind==0)
    .refine AO ?_
     exact⟨trivial,trivial,by rw[hr,hcb]; rfl⟩
    .refine BB f37 (DF k) ?_
     exact⟨n'-1,U,k+1,U,f1,f16,f17,f18,f6,f35,f36,rfl,trivial,by rw[hr,hcb]; rfl⟩
   .refine AO ?_
    exact⟨f1,f16,f17,f18,trivial,by rw[hr,jX U]; rfl⟩
  .rintro F' H' ⟨g1,g16,g17,g18,rfl,hr⟩
   refine BB g18 (DF i) ?_;exact⟨n-1,U,i+1,U,g1,g16,g17,rfl,hx1,by rw[hf,hr]; rfl⟩
  .rintro F' H' ⟨g4,rfl,hr⟩
   refine BC g4 ?_;exact⟨by rw[hf,hr]; rfl,hx1⟩
 .refine AO ?_
  exact⟨by rw[hf,AQQ okP _ _ i U U],hx⟩
structure CrGood (m:Mo) (c:Cr):Prop where
 here:Here m c.pts
 two:2<=c.pts.length
 four:c.pts.length<=4
 prod:KD (szs m c.pts)<=256
 num:c.excl.length<=256
 excl:∀x∈c.excl,JX (szs m c.pts) x.l=true
theorem AMG {m:Mo}{c:Cr}(h:HY m c=0):CrGood m c:=by
 unfold HY at h;split at h
 .cases h
 .split at h
  .cases h
  .split at h
   .cases h
   .split at h
    .cases h
    .split at h
     .cases h
     .rename_i h1 h2 h3 h4 h5
      have h3':XY m.pts.length none c.pts=true:=BN h3;refine⟨Y7 h3',U,U,U,U,fun x hx=>?_⟩;rw[Bool.not_eq_true,qU] at h5;have:=h5 x hx;simpa using this
structure Good (m:Mo):Prop where
 num:m.pts.length+m.crs.length<=16
 full:Full m
 crs:∀c∈m.crs,CrGood m c
theorem UA {m:Mo}(h:F8 m=0):Good m:=by
 unfold F8 at h;split at h
 .cases h
 .split at h
  .rename_i h2; exact absurd h h2
  .split at h
   .cases h
   .split at h
    .rename_i h4; exact absurd h h4
    .rename_i h1 h2 h3 h4
     refine⟨U,full_of (BN h2),fun c hc=>AMG (X5 _ (BN h4) c hc)⟩
def PO (m:Mo)(v:Cvr):Bool:=(F8 m==0)&&X7 okP m.pts v.pts&&X7 (okC m) m.crs v.crs&&YT v.sam&&YT v.ill
theorem gX (n:Int):countB n true=YT n:=by unfold countB; simp
theorem AVG (hG:GOk G)(m:Mo)(v:Cvr)(hm:MoOk m)(hv:CvOk v)(hC:Good m->∀h,PCall (En G) 120 [.agg (DJ m),.sl v.cm 1 (v.crs.map NM)] h (.bool (X7 (okC m) m.crs v.crs)))(h:Hp):PCall (En G) 55 [.agg (DJ m),.agg (encV v)] h (.bool (PO m v)):=by
 refine ACalls.pure0 rfl ?_;refine acT Tryz.func55 4 ?_;have gm:(h++[zZ 2 [DJ m]]++[zZ 4 [encV v]])[h.length]?=some (zZ 2 [DJ m]):=AL (A7 _ _);have gv:=A7 (h++[zZ 2 [DJ m]]) (zZ 4 [encV v]);have hx:∃x,h++[zZ 2 [DJ m]]++[zZ 4 [encV v]]=h++x:=⟨_,zG _ _ _⟩;refine BB @bxM @bxV ?_
 generalize h++[zZ 2 [DJ m]]++[zZ 4 [encV v]]=H at gm gv hx|-
 generalize (h++[zZ 2 [DJ m]]).length=vb at gv|-
 have l0:BU jA H 25 (.ptr vb 0 0)=some (.sl v.pm 1 (v.pts.map NM)):=by rw[BL bH gv (row:=encV v) rfl,encV0]
 have l1:BU jA H 25 (.ptr vb 0 1)=some (.sl v.cm 1 (v.crs.map NM)):=by rw[BL bH gv (row:=encV v) rfl,AQ6]
 have l2:BU jA H 3 (.ptr vb 0 2)=some (.n v.sam):=by rw[BL ag3 gv (row:=encV v) rfl,AYH]
 have l3:BU jA H 3 (.ptr vb 0 3)=some (.n v.ill):=by rw[BL ag3 gv (row:=encV v) rfl,AYG]
 refine BC (ldM gm) ?_;refine(QF G hG m hm _).uu ?_;cases h1:(F8 m==0)
 .refine AO ?_
  exact⟨by unfold PO; rw[h1]; rfl,hx⟩
 have hg:=UA (beq_iff_eq.1 h1);refine BB (ldM gm) l0 ?_;refine(ALV G m v.pts v.pm _ hm hv.eachP).uu ?_;cases h2:X7 okP m.pts v.pts
 .refine AO ?_
  exact⟨by unfold PO; rw[h1,h2]; rfl,hx⟩
 refine BB (ldM gm) l1 ?_;refine(hC hg _).uu ?_;cases h3:X7 (okC m) m.crs v.crs
 .refine AO ?_
  exact⟨by unfold PO; rw[h1,h2,h3]; rfl,hx⟩
 refine BB @A0N l2 ?_;refine(bC G _ _ _).use ?_;refine BC @gX ?_;cases h4:YT v.sam
 .refine AO ?_
  exact⟨by unfold PO; rw[h1,h2,h3,h4]; rfl,hx⟩
 refine BB @A0M l3 ?_;refine(bC G _ _ _).use ?_;refine BC @gX ?_;exact⟨by unfold PO; rw[h1,h2,h3,h4]; rfl,hx⟩
structure TwoV (h H:Hp) (m:Mo) (v:Cvr) (vb:Nat):Prop where
 gm:H[h.length]?=some (zZ 2 [DJ m])
 gv:H[vb]?=some (zZ 4 [encV v])
 hx:∃x,H=h++x
theorem TwoV.mk' (h:Hp)(m:Mo)(v:Cvr):TwoV h (h++[zZ 2 [DJ m]]++[zZ 4 [encV v]]) m v (h++[zZ 2 [DJ m]]).length:=⟨AL (A7 _ _),A7 _ _,⟨_,zG _ _ _⟩⟩
section
variable {h H:Hp} {m:Mo} {v:Cvr} {vb:Nat} (t:TwoV h H m v vb)
include t
theorem TwoV.m0:BU jA H 28 (.ptr h.length 0 0)=some (.sl m.pm 6 (m.pts.map FY)):=by rw[BL fT t.gm (row:=DJ m) rfl,U8]
theorem TwoV.m1:BU jA H 29 (.ptr h.length 0 1)=some (.sl m.cm 3 (m.crs.map JK)):=by rw[BL nZ t.gm (row:=DJ m) rfl,YA]
theorem TwoV.l0:BU jA H 25 (.ptr vb 0 0)=some (.sl v.pm 1 (v.pts.map NM)):=by rw[BL bH t.gv (row:=encV v) rfl,encV0]
theorem TwoV.l1:BU jA H 25 (.ptr vb 0 1)=some (.sl v.cm 1 (v.crs.map NM)):=by rw[BL bH t.gv (row:=encV v) rfl,AQ6]
theorem TwoV.l2:BU jA H 3 (.ptr vb 0 2)=some (.n v.sam):=by rw[BL ag3 t.gv (row:=encV v) rfl,AYH]
theorem TwoV.l3:BU jA H 3 (.ptr vb 0 3)=some (.n v.ill):=by rw[BL ag3 t.gv (row:=encV v) rfl,AYG]
end
theorem AFH (G:Nat->AV)(xs:List Int)(m:SM)(fid:FuncId)(caps:List AV)(p:Int->Bool)(h:Hp)(hl:xs.length<=1099511627776)
  (hf:∀r,PCall (En G) fid (.n r::caps) h (.bool (p r))) :
  PCall (En G) 261 [.sl m 1 (xs.map qencI),.fn (.func fid) [] caps] h (.n (match xs.findIdx? p with|some i=>(i:Int)|none => -1)):=by
 refine acT Tryz.func261 4 ?_;refine AO ?_;refine BI (fun n F H=>∃k,n+k=xs.length∧F 0=.sl m 1 (xs.map qencI)∧F 1=.fn (.func fid) [] caps∧F 7=.n xs.length∧F 8=.n (k:Nat)∧H=h∧(xs.take k).all (fun r => !p r)=true) xs.length ⟨0,BA,rfl,rfl,rfl,rfl,rfl,rfl⟩ ?_;rintro n F H ⟨k,hk,f0,f1,f7,f8,rfl,hin⟩;refine E8 f0 f1 f7 f8 ?_;refine D8 ?_ ?_<;>intro hc'
 .simp -implicitDefEqProofs only[vQ,CV,qI,zB,↓reduceIte,jB,enP,LQ,f0,f1,f7,f8,CQ hc',CG ag3 hc',encI0]
  refine(hf _).uu ?_;refine CE ?_ ?_<;>intro hb
  .refine AO ?_
   refine⟨?_,trivial⟩
   rw[wP.2 ⟨hc',hb,fun j hj=>by
    rw[zH] at hin;have:=hin xs[j] (by rw[List.mem_take_iff_getElem]; exact⟨j,U,rfl⟩)
    simpa using this⟩]
  .refine BB f8 (DF k) ?_
   refine⟨n-1,U,k+1,U,f0,f1,f7,rfl,trivial,?_⟩;rw[jY hc',List.all_append,hin];simp only[wQ,List.all_nil,hb]; rfl
 .refine AO ?_
  refine⟨?_,trivial⟩;rw[jI U] at hin;rw[wR.2 (BN hin)]
theorem pP (G:Nat->AV)(xs:List Int)(m:SM)(fid:FuncId)(caps:List AV)(p:Int->Bool)(h:Hp)(hl:xs.length<=1099511627776)
  (hf:∀r,PCall (En G) fid (.n r::caps) h (.bool (p r))) :
  PCall (En G) 231 [.sl m 1 (xs.map qencI),.fn (.func fid) [] caps] h (.bool (xs.any p)):=by
 refine acT Tryz.func231 4 ?_;refine AO ?_;refine(AFH G xs m fid caps p h hl hf).uu ?_;refine⟨?_,trivial⟩
 cases hx:xs.findIdx? p with
 | some i =>
   obtain⟨h1,h2,_⟩:=wP.1 hx;have:xs.any p=true:=qL.2 ⟨xs[i],BA,h2⟩;simp [this]
 | none =>
   have:xs.any p=false:=by
    rw[wR] at hx;rw[qU]; intro x hx2; simp [hx x hx2]
   simp [this]
theorem UM {b:Nat}{m:Mo}(hb:h[b]?=some (zZ 2 [DJ m])):BU jA h 28 (.ptr b 0 0)=some (.sl m.pm 6 (m.pts.map FY)):=by rw[BL fT hb (row:=DJ m) rfl,U8]
theorem aU {b:Nat}{m:Mo}(hb:h[b]?=some (zZ 2 [DJ m])):BU jA h 29 (.ptr b 0 1)=some (.sl m.cm 3 (m.crs.map JK)):=by rw[BL nZ hb (row:=DJ m) rfl,YA]
theorem AE3 (m:Mo)(b:Nat)(p:Int)(h:Hp)(hb:h[b]?=some (zZ 2 [DJ m])):PCall (En G) 230 [.n p,.ptr b 0 0] h (.bool (decide (p<0)||decide (p≥(m.pts.length:Int)))):=by
 refine acT Tryz.func230 3 ?_;refine AO ?_;cases ha:decide (p<0)
 .refine BB @wM (UM hb) ?_
  exact⟨BA,trivial⟩
 .refine AO ?_
  exact⟨BA,trivial⟩
theorem AQA {m:Mo}{l:List Int}(hh:Here m l):(l.any fun p=>decide (p<0)||decide (p≥(m.pts.length:Int)))=false:=by
 rw[qU];intro p hp;have:=hh p hp;simp; omega
theorem gB (m:Mo)(i:Nat)(hi:i<m.crs.length)(hg:CrGood m m.crs[i])(h:Hp):PCall (En G) 145 [.agg (DJ m),.n (i:Int)] h (.bool true):=by
 refine ACalls.pure0 rfl ?_;have hfour:=hg.four;refine acT Tryz.func145 4 ?_;have d0:decide ((i:Int)<0)=false:=BA;have d1:decide ((i:Int)≥(m.crs.length:Int))=false:=by simp; omega
 simp -implicitDefEqProofs only[vQ,EJ,CV,SS,P9,↓reduceIte,jB,enP,UN,API,MM,MB,bxM,d0,EE nZ,YA,jJ,d1,CQ hi,CG O6 hi,UD];refine(pP G m.crs[i].pts m.crs[i].pm 230 _ _ _ U fun r=>AE3 G m _ r _ (A7 _ _)).use ?_;refine BC (AQA hg.here) ?_;exact⟨trivial,_,rfl⟩
theorem dT (m:Mo)(i:Nat)(hi:i<m.crs.length)(hg:CrGood m m.crs[i])(h:Hp):PCall (En G) 146 [.agg (DJ m),.n (i:Int)] h (.sl .any 1 ((szs m m.crs[i].pts).map PY)):=by
 have hfour:=hg.four;have htwo:=hg.two;have hh:=hg.here
 have hp:PCall (En G) 146 [.agg (DJ m),.n (i:Int)] h (.sl (nm (szs m m.crs[i].pts)) 1 ((szs m m.crs[i].pts).map PY)):=by
  refine LY A3N ?_;refine acT Tryz.func146 4 ?_;simp -implicitDefEqProofs only[vQ,CV,YJ,SS,↓reduceIte,jB,enP,UN,MM,XT,MB,bxM,EE nZ,YA,CQ hi,CG O6 hi,UD,jJ];refine BI (fun n F H=>∃k,n+k=m.crs[i].pts.length∧F 2=.ptr h.length 0 0∧F 13=.sl m.crs[i].pm 1 (m.crs[i].pts.map qencI)∧F 14=.n m.crs[i].pts.length∧F 15=.n (k:Nat)∧H[h.length]?=some (zZ 2 [DJ m])∧ext h H∧(∀b,isB (F 5) b->h.length<b)∧outG 1 PY h (szs m (m.crs[i].pts.take k)) (F 5) H) m.crs[i].pts.length ⟨0,BA,AQ,AQ,AQ,AQ,A7 _ _,(ext.rfl' h).app _,fun b hb=>hb.elim,outG.nil _ _ _ _⟩ ?_;rintro n F H ⟨k,hk,f2,f13,f14,f15,hb,he,hlt,ho⟩;refine BB f14 f15 ?_;refine D8 ?_ ?_<;>intro hk'
  .obtain⟨s,ls⟩:=hh.ld hk' H
   have hzl:(szs m (m.crs[i].pts.take k)).length<8388608:=by unfold szs; simp; omega
   obtain⟨v',H',ha,ho',hkeep,he',hle,hb'⟩:=ho.append tR sz3 AM3 AF8 U hzl he (JC m m.crs[i].pts[k]).length;simp -implicitDefEqProofs only[vQ,CV,I8,↓reduceIte,jB,enP,RJ,KU,LQ,cV,KI,f2,f13,f15,CQ hk',CG ag3 hk',encI0,UM hb,hh.ix hk',ls,jJ,AMM];refine KY (v:=v') (h:=H') (by rw[show [[AV.int .i64 ((JC m m.crs[i].pts[k]).length:Int)]]=[PY (JC m m.crs[i].pts[k]).length] from rfl,ha]) ?_;refine BB f15 (DF k) ?_;refine⟨n-1,U,k+1,U,f2,f13,f14,rfl,hkeep _ _ hb (fun e=>by have:=hlt _ e; omega),he',fun b hbb=>?_,?_⟩
   .have:=hb' b hbb; have:=AC hb; omega
   .rw[yC m m.crs[i].pts k hk']; exact ho'
  .rw[jI U] at ho
   refine AO ?_;exact⟨he,ho⟩
 have hnm:nm (szs m m.crs[i].pts)=SM.any:=by
  have:=NV m m.crs[i].pts
  cases hx:szs m m.crs[i].pts with
  | nil=>rw[hx] at this; simp at this; omega
  | cons a l=>rfl
 rw[hnm] at hp;exact hp
def aV:List Nat->List Int->Int->Int
 | n::ns,x::xs,z=>aV ns xs (IntKind.i64.wrap (IntKind.i64.wrap (z*(n:Int))+x))
 | _,_,z=>z
theorem dB (ns:List Nat)(z:Int):aV ns [] z=z:=by cases ns<;>rfl
theorem lY:∀ {ns:List Nat} {l:List Int},JX ns l=true->∀(k:Nat) (hk:k<l.length) (hp:k<ns.length),0<=l[k]∧l[k]<(ns[k]:Int)
 | n::ns,b::bs,h,k,hk,hp=>by
   simp only[JX,jU,decide_eq_true_eq] at h
   cases k with
   | zero=>exact h.1
   | succ k=>exact lY (ns:=ns) h.2 k (BN hk) (BN hp)
 | [],b::bs,h,k,hk,hp=>by simp at hp
 | _,[],h,k,hk,hp=>by simp at hk
theorem uY (m:Mo)(i:Nat)(hi:i<m.crs.length)(hg:CrGood m m.crs[i])(l:List Int)(s:SM)(hin:JX (szs m m.crs[i].pts) l=true)(h:Hp):PCall (En G) 71 [.agg (DJ m),.n (i:Int),.sl s 1 (l.map qencI)] h (.tup [.n (aV (szs m m.crs[i].pts) l 0),.bool true]):=by
 have hfour:=hg.four;have hsl:=NV m m.crs[i].pts;have hlen:=QY hin;refine ACalls.pure 2 (R:=fun v H=>v=.tup [.n (aV (szs m m.crs[i].pts) l 0),.bool true]∧∃x,H=h++x) ?_ (fun v h' ⟨e,x⟩=>⟨x,by subst e; rfl⟩);have hx:∃x,h++[zZ 2 [DJ m]]=h++x:=⟨_,rfl⟩;refine acL Tryz.func71 [.tmp 6,.tmp 7] ?_;refine BB @bxM (ldM (A7 h (zZ 2 [DJ m]))) ?_;refine(gB G m i hi hg _).use ?_;refine BC (ldM (A7 h (zZ 2 [DJ m]))) ?_;refine(dT G m i hi hg _).use ?_
 generalize szs m m.crs[i].pts=ns at hin hsl hlen|-
 have hne:((l.length:Int) != (ns.length:Int))=false:=by rw[hlen]; simp
 refine BC hne ?_;refine BI (fun n F H=>∃k,n+k=l.length∧F 8=.sl .any 1 (ns.map PY)∧(∃z,F 9=.n z∧aV ns l 0=aV (ns.drop k) (l.drop k) z)∧F 24=.sl s 1 (l.map qencI)∧F 25=.n l.length∧F 26=.n (k:Nat)∧H=h++[zZ 2 [DJ m]]) l.length ⟨0,BA,AQ,⟨0,rfl,rfl⟩,AQ,AQ,AQ,rfl⟩ ?_;rintro n F H ⟨k,hk,f8,⟨z,f9,hz⟩,f24,f25,f26,rfl⟩;refine BB f25 f26 ?_;refine D8 ?_ ?_<;>intro hk'
 .have hkn:k<ns.length:=U
  obtain⟨h0,h1⟩:=lY hin k hk' hkn;have d0:decide (l[k]<0)=false:=by simp; omega
  have d1:decide (l[k]≥(ns[k]:Int))=false:=by simp; omega
  rw[zU hk',zU hkn] at hz;simp -implicitDefEqProofs only[vQ,EJ,CV,WG,↓reduceIte,jB,enP,LQ,f8,f9,f24,f26,CQ hk',CG ag3 hk',encI0,d0,CQ hkn,CG ag3 hkn,ACE,d1,DF k];exact⟨n-1,U,k+1,U,trivial,⟨_,rfl,hz⟩,trivial,f25,rfl,trivial⟩
 .rw[jX (U:l.length<=k),dB] at hz
  refine BB f9 hz ?_;exact⟨trivial,hx⟩
theorem AB9 (l:List Int)(s:SM)(b:Nat)(r:Is)(h:Hp)(hb:h[b]?=some (zZ 1 [[.sl s 1 (l.map qencI)]]))(hl:l.length<=1099511627776):
  PCall (En G) 215 [.sl r.m 1 (r.l.map qencI),.ptr b 0 0] h (.bool (eqL r.l l)):=by
 refine acT Tryz.func215 3 ?_;refine BC (H7 O6 hb) ?_;refine(AFT G r.l l r.m s h hl).uu ?_;exact JH
theorem pM (m:Mo)(i:Nat)(hi:i<m.crs.length)(hg:CrGood m m.crs[i])(l:List Int)(s:SM)(hin:JX (szs m m.crs[i].pts) l=true)(h:Hp):PCall (En G) 127 [.agg (DJ m),.n (i:Int),.sl s 1 (l.map qencI)] h (.bool (!dC m m.crs[i] l)):=by
 refine ACalls.pure0 rfl ?_;have hh:=hg.here;have hfour:=hg.four;have hnum:=hg.num;have hlen:l.length=m.crs[i].pts.length:=by have:=QY hin; rw[NV] at this; omega
 refine acT Tryz.func127 6 ?_;have gm:(h++[zZ 2 [DJ m]]++[zZ 1 [[.sl s 1 (l.map qencI)]]])[h.length]?=some (zZ 2 [DJ m]):=AL (A7 _ _);have gl:=A7 (h++[zZ 2 [DJ m]]) (zZ 1 [[.sl s 1 (l.map qencI)]]);have hx:∃x,h++[zZ 2 [DJ m]]++[zZ 1 [[.sl s 1 (l.map qencI)]]]=h++x:=⟨_,zG _ _ _⟩;refine BB @xC @bxM ?_
 generalize h++[zZ 2 [DJ m]]++[zZ 1 [[.sl s 1 (l.map qencI)]]]=H at gm gl hx|-
 generalize (h++[zZ 2 [DJ m]]).length=lb at gl|-
 refine BB (ldM gm) (H7 O6 gl) ?_;refine(uY G m i hi hg l s hin _).use ?_;simp -implicitDefEqProofs only[vQ,wK,List.getElem?_cons_succ,CV,bV,QA,WE,RF,↓reduceIte,jB,zW,enP,UN,MM,XT,MB,aU gm,CQ hi,CG O6 hi,UD,jJ];have hkb:=gL m m.crs[i].pts l;refine ET 0 (fun F H'=>F 1=.n (i:Nat)∧F 3=.ptr h.length 0 0∧F 5=.ptr lb 0 0∧H'=H∧RI m m.crs[i].pts l=true) (fun F H'=>F 6=.bool true∧H'=H∧RI m m.crs[i].pts l=false) ?_ ?_ ?_
 .refine BI (fun n F H'=>∃k,n+k=l.length∧F 1=.n (i:Nat)∧F 3=.ptr h.length 0 0∧F 5=.ptr lb 0 0∧F 25=.sl m.crs[i].pm 1 (m.crs[i].pts.map qencI)∧F 26=.n m.crs[i].pts.length∧F 27=.n (k:Nat)∧H'=H∧RI m m.crs[i].pts l=RI m (m.crs[i].pts.drop k) (l.drop k)) l.length ⟨0,BA,FI,FI,FI,FI,FI,FI,rfl,rfl⟩ ?_
  rintro n F H' ⟨k,hk,f1,f3,f5,f25,f26,f27,rfl,hk0⟩;refine BB f26 f27 ?_;refine D8 (fun hkc=>?_) (fun hk'=>?_)
  .have hk':k<l.length:=U
   rw[hkb k hkc hk'] at hk0;obtain⟨h0,h1⟩:=dA hin k hk' hkc;obtain⟨s2,ls⟩:=hh.ld hkc H';have hlt:l[k].toNat<(JC m m.crs[i].pts[k]).length:=U;simp -implicitDefEqProofs only[vQ,CV,↓reduceIte,jB,enP,LQ,f25,f27,CQ hkc,CG ag3 hkc,encI0];refine DV A8 ?_;simp -implicitDefEqProofs only[vQ,↓reduceIte,jB,jL,enP,RJ,KU,LQ,XV,KI,WA,bne,f3,f5,f27,UM gm,hh.ix hkc,ls,H7 O6 gl,CQ hk',CG ag3 hk',encI0,AR5 h0 h1,CG ag3 hlt,TE,ADB h0 h1];cases hkd:(eR m m.crs[i].pts[k] l[k]==0)
   .refine AO ?_
    exact⟨trivial,trivial,by rw[hk0,hkd]; rfl⟩
   .refine BB f27 (DF k) ?_
    exact⟨n-1,U,k+1,U,f1,f3,f5,f25,f26,rfl,trivial,by rw[hk0,hkd]; rfl⟩
  .refine AO ?_
   exact⟨f1,f3,f5,trivial,by rw[hk0,jX (U:l.length<=k),lT]⟩
 .rintro F H' ⟨f1,f3,f5,rfl,hk⟩
  simp -implicitDefEqProofs only[vQ,YI,CV,P9,↓reduceIte,jB,enP,UN,MM,eY,f1,f3,f5,aU gm,CQ hi,CG bH hi,ACH];refine(YD G m.crs[i].excl m.crs[i].xm 215 _ (fun x=>eqL x.l l) _ U fun r=>AB9 G l s _ r _ gl U).uu ?_;exact⟨by unfold dC; rw[hk]; simp,hx⟩
 .rintro F H' ⟨f6,rfl,hk⟩
  refine BC f6 ?_;exact⟨by unfold dC; rw[hk]; rfl,hx⟩
theorem kK (m:Mo)(i:Nat)(hi:i<m.crs.length)(hg:CrGood m m.crs[i])(h:Hp):PCall (En G) 198 [.agg (DJ m),.n (i:Int)] h (.bool true):=by
 refine ACalls.pure0 rfl ?_;have hfour:=hg.four;have gm:=A7 h (zZ 2 [DJ m]);have hx:∃x,h++[zZ 2 [DJ m]]=h++x:=⟨_,rfl⟩;refine acT Tryz.func198 4 ?_;have d0:decide ((i:Int)<0)=false:=BA;have d1:decide ((i:Int)≥(m.crs.length:Int))=false:=by simp; omega
 simp -implicitDefEqProofs only[vQ,EJ,CV,SS,↓reduceIte,jB,enP,UN,API,MM,MB,bxM,d0,aU gm,jJ,d1,CQ hi,CG O6 hi,UD]
 generalize h++[zZ 2 [DJ m]]=H at gm hx|-
 refine BI (fun n F H'=>∃k,n+k=m.crs[i].pts.length∧F 2=.ptr h.length 0 0∧F 5=.sl m.crs[i].pm 1 (m.crs[i].pts.map qencI)∧F 6=.n (k:Nat)∧H'=H) m.crs[i].pts.length ⟨0,BA,AQ,AQ,AQ,rfl⟩ ?_;rintro n F H' ⟨k,hk,f2,f5,f6,rfl⟩;refine BB f5 f6 ?_;refine CE ?_ ?_<;>intro hc
 .have hk':k<m.crs[i].pts.length:=BN hc
  have hb:=hg.here _ (jH hk');have e0:decide (m.crs[i].pts[k]<0)=false:=by simp; omega
  have e1:decide (m.crs[i].pts[k]≥(m.pts.length:Int))=false:=by simp; omega
  refine AO ?_;refine DV A8 ?_;refine aB f2 f5 f6 hk' @encI0 e0 (UM gm) e1 (DF k) ?_;exact⟨n-1,U,k+1,U,trivial,trivial,rfl,trivial⟩
 .refine AO ?_
  exact⟨trivial,hx⟩
theorem nS (m:Mo)(i:Nat)(hi:i<m.crs.length)(hg:CrGood m m.crs[i])(k:Nat)(hk:k<m.crs[i].pts.length)(h:Hp):PCall (En G) 199 [.agg (DJ m),.n (i:Int),.n (k:Int)] h (.n ((JC m m.crs[i].pts[k]).length:Int)):=by
 refine ACalls.pure0 rfl ?_;have gm:=A7 h (zZ 2 [DJ m]);obtain⟨s,ls⟩:=hg.here.ld hk (h++[zZ 2 [DJ m]]);refine acT Tryz.func199 6 ?_;refine BC @bxM ?_;refine DV A8 ?_;simp -implicitDefEqProofs only[vQ,KH,IY,↓reduceIte,jB,jL,enP,RJ,UN,KU,MM,LQ,cV,KI,MB,UM gm,aU gm,CQ hi,CG O6 hi,UD,CQ hk,CG ag3 hk,encI0,hg.here.ix hk,ls,jJ];exact⟨trivial,_,rfl⟩
theorem ABT (m:Mo)(i:Nat)(hi:i<m.crs.length)(hg:CrGood m m.crs[i])(l:List Int)(s:SM)(hin:JX (szs m m.crs[i].pts) l=true)(h:Hp):PCall (En G) 110 [.agg (DJ m),.n (i:Int),.sl s 1 (l.map qencI)] h (.tup [.n (aV (szs m m.crs[i].pts) l 0),.bool true]):=by
 have hfour:=hg.four;have hsl:=NV m m.crs[i].pts;have hget:=iQ m m.crs[i].pts;have hlen:=QY hin;refine ACalls.pure 2 (R:=fun v H=>v=.tup [.n (aV (szs m m.crs[i].pts) l 0),.bool true]∧∃x,H=h++x) ?_ (fun v h' ⟨e,x⟩=>⟨x,by subst e; rfl⟩);have gm:=A7 h (zZ 2 [DJ m]);have hx:∃x,h++[zZ 2 [DJ m]]=h++x:=⟨_,rfl⟩;refine acL Tryz.func110 [.tmp 6,.tmp 7] ?_;refine BB @bxM (ldM gm) ?_;refine(kK G m i hi hg _).use ?_;have hne:((l.length:Int) != (m.crs[i].pts.length:Int))=false:=by rw[<-hsl,hlen]; simp
 simp -implicitDefEqProofs only[vQ,EJ,CV,bV,RF,↓reduceIte,jB,zW,enP,UN,MM,XT,MB,aU gm,CQ hi,CG O6 hi,UD,jJ,hne]
 generalize h++[zZ 2 [DJ m]]=H at gm hx|-
 generalize szs m m.crs[i].pts=ns at hin hsl hlen hget|-
 refine BI (fun n F H'=>∃k,n+k=l.length∧F 1=.n (i:Nat)∧F 2=.sl s 1 (l.map qencI)∧F 3=.ptr h.length 0 0∧(∃z,F 8=.n z∧aV ns l 0=aV (ns.drop k) (l.drop k) z)∧F 9=.n (k:Nat)∧H'=H) l.length ⟨0,BA,by simp -implicitDefEqProofs only[vQ,↓reduceIte,jB],by simp -implicitDefEqProofs only[vQ,↓reduceIte,jB],by simp -implicitDefEqProofs only[AY,↓reduceIte,jB],⟨0,rfl,rfl⟩,by simp -implicitDefEqProofs only[AY,↓reduceIte]; rfl,rfl⟩ ?_;rintro n F H' ⟨k,hk,f1,f2,f3,⟨z,f8,hz⟩,f9,rfl⟩;refine BB f2 f9 ?_;refine D8 ?_ ?_<;>intro hk'
 .have hkn:k<ns.length:=U
  have hkc:k<m.crs[i].pts.length:=U;have hgk:ns[k]=(JC m m.crs[i].pts[k]).length:=GV (hget k hkc);obtain⟨h0,h1⟩:=lY hin k hk' hkn;have d0:decide (l[k]<0)=false:=by simp; omega
  have d1:decide (l[k]≥(ns[k]:Int))=false:=by simp; omega
  rw[zU hk',zU hkn] at hz;refine E8 f1 f3 f9 (ldM gm) ?_;refine(nS G m i hi hg k hkc _).use ?_;rw[<-hgk];simp -implicitDefEqProofs only[vQ,EJ,CV,WG,↓reduceIte,jB,enP,LQ,f2,f8,f9,CQ hk',CG ag3 hk',encI0,d0,d1,DF k];exact⟨n-1,U,k+1,U,f1,trivial,f3,⟨_,rfl,hz⟩,rfl,trivial⟩
 .rw[jX (U:l.length<=k),dB] at hz
  refine BB f8 hz ?_;exact⟨trivial,hx⟩
theorem vT (m:Mo)(i:Nat)(hi:i<m.crs.length)(hg:CrGood m m.crs[i])(l:List Int)(s:SM)(hin:JX (szs m m.crs[i].pts) l=true)(h:Hp):PCall (En G) 111 [.agg (DJ m),.n (i:Int),.sl s 1 (l.map qencI)] h (.bool (!dC m m.crs[i] l)):=by
 refine ACalls.pure0 rfl ?_;have hh:=hg.here;have hfour:=hg.four;have hnum:=hg.num;have hlen:l.length=m.crs[i].pts.length:=by have:=QY hin; rw[NV] at this; omega
 refine acT Tryz.func111 6 ?_;have t:=Two.mk' h m m.crs[i];refine BB @bxM (ldM (A7 h (zZ 2 [DJ m]))) ?_;refine(ABT G m i hi hg l s hin _).use ?_;simp -implicitDefEqProofs only[vQ,wK,List.getElem?_cons_succ,CV,bV,QA,WE,RF,↓reduceIte,jB,zW,enP,UN,MM,jO,aU (A7 h (zZ 2 [DJ m])),CQ hi,DR AGK tV NR hi,A1F,AZG _ _ [.str ⟨#[]⟩,.sl .nil 0 [],.sl .nil 0 []] rfl]
 generalize h++[zZ 2 [DJ m]]++[zZ 3 [JK m.crs[i]]]=H at t|-
 generalize (h++[zZ 2 [DJ m]]).length=cb at t|-
 have hkb:=gL m m.crs[i].pts l;refine ET 0 (fun F H'=>F 2=.sl s 1 (l.map qencI)∧F 3=.ptr h.length 0 0∧F 9=.ptr cb 0 0∧H'=H∧(m.crs[i].excl.any fun x=>eqL x.l l)=false) (fun F H'=>F 6=.bool true∧H'=H∧(m.crs[i].excl.any fun x=>eqL x.l l)=true) ?_ ?_ ?_
 .refine BI (fun n F H'=>∃k,n+k=m.crs[i].excl.length∧F 2=.sl s 1 (l.map qencI)∧F 3=.ptr h.length 0 0∧F 9=.ptr cb 0 0∧F 10=.n (k:Nat)∧H'=H∧(m.crs[i].excl.any fun x=>eqL x.l l)=((m.crs[i].excl.drop k).any fun x=>eqL x.l l)) m.crs[i].excl.length ⟨0,BA,FI,FI,FI,FI,rfl,rfl⟩ ?_
  rintro n F H' ⟨k,hk,f2,f3,f9,f10,rfl,ha⟩;refine DT f9 f10 @t.l2 ?_;refine D8 ?_ ?_<;>intro hk'
  .have hs:=MG (fun x:Is=>eqL x.l l) m.crs[i].excl k hk'
   simp -implicitDefEqProofs only[vQ,CV,↓reduceIte,jB,enP,pB,eY,f2,f9,f10,t.l2,CQ hk',CG O6 hk',mY];refine(AEK G m.crs[i].excl[k].l l _ s _ U).uu ?_;cases he:eqL m.crs[i].excl[k].l l
   .refine BB f10 (DF k) ?_
    exact⟨n-1,U,k+1,U,f2,f3,f9,rfl,trivial,by rw[ha,hs,he]; rfl⟩
   .refine AO ?_
    exact⟨trivial,trivial,by rw[ha,hs,he]; rfl⟩
  .refine AO ?_
   exact⟨f2,f3,f9,trivial,by rw[ha,jX U]; rfl⟩
 .rintro F H' ⟨f2,f3,f9,rfl,ha⟩
  have hhb:dC m m.crs[i] l=RI m m.crs[i].pts l:=by unfold dC; rw[ha]; simp
  rw[hhb];refine AO ?_;refine BI (fun n F H=>∃k,n+k=l.length∧F 2=.sl s 1 (l.map qencI)∧F 3=.ptr h.length 0 0∧F 9=.ptr cb 0 0∧F 11=.n (k:Nat)∧H=H'∧RI m m.crs[i].pts l=RI m (m.crs[i].pts.drop k) (l.drop k)) l.length ⟨0,BA,Q8 f2,Q8 f3,Q8 f9,FI,rfl,rfl⟩ ?_;clear f2 f3 f9;rintro n F H' ⟨k,hk,f2,f3,f9,f11,rfl,hk0⟩;refine BB f2 f11 ?_;refine D8 ?_ ?_<;>intro hk'
  .have hkc:k<m.crs[i].pts.length:=U
   rw[hkb k hkc hk'] at hk0;obtain⟨h0,h1⟩:=dA hin k hk' hkc;obtain⟨s2,ls⟩:=hh.ld hkc H';have hlt:l[k].toNat<(JC m m.crs[i].pts[k]).length:=U;refine AO ?_;refine DV A8 ?_;simp -implicitDefEqProofs only[vQ,↓reduceIte,jB,jL,enP,RJ,KU,LQ,XV,KI,WA,MB,bne,f2,f3,f9,f11,t.lm,t.l1,CQ hkc,CG ag3 hkc,CQ hk',CG ag3 hk',encI0,hh.ix hkc,ls,AR5 h0 h1,CG ag3 hlt,TE,ADB h0 h1];cases hkd:(eR m m.crs[i].pts[k] l[k]==0)
   .refine AO ?_
    exact⟨by rw[hk0,hkd]; rfl,t.hx⟩
   .refine BB f11 (DF k) ?_
    exact⟨n-1,U,k+1,U,f2,f3,f9,rfl,trivial,by rw[hk0,hkd]; rfl⟩
  .refine AO ?_
   exact⟨by rw[hk0,jX (U:l.length<=k),lT]; rfl,t.hx⟩
 .rintro F H' ⟨f6,rfl,ha⟩
  refine BC f6 ?_;exact⟨by unfold dC; rw[ha]; simp,t.hx⟩
structure Gl where
 cross:Bool
 idx:Nat
 bm:SM
 bins:List Int
 at_:Nat
def KW (g:Gl):List AV:=[.bool g.cross,.n (g.idx:Int),.sl g.bm 1 (g.bins.map qencI),.n (g.at_:Int)]
def encH (g:Gl):List AV:=[.bool g.cross,.n (g.idx:Int),.sl g.bm 1 (g.bins.map qencI)]
theorem U9 (g:Gl):(KW g).length=4:=rfl
theorem A6W:Frz KW:=fun _ _ _ _=>⟨rfl,rfl⟩
theorem frzH:Frz encH:=fun _ _ _ _=>⟨rfl,rfl⟩
def mkP (i k:Nat):Gl:=⟨false,i,.full,[(k:Int)],k⟩
def mkC (m:Mo)(i k:Nat)(c:Cr):Gl:=⟨true,i,.any,ANQ (szs m c.pts) k,k⟩
def gPk (i:Nat)(p:Pt):Nat->List Gl
 | 0=>[]
 | k+1=>gPk i p k++(if(kindOf p k==0)=true then [mkP i k] else [])
def gP (m:Mo):Nat->List Gl
 | 0=>[]
 | i+1=>gP m i++(match m.pts[i]? with|some p=>gPk i p p.bins.length|none=>[])
def gCk (m:Mo)(i:Nat)(c:Cr):Nat->List Gl
 | 0=>[]
 | k+1=>gCk m i c k++(if dC m c (ANQ (szs m c.pts) k)=true then [mkC m i k c] else [])
def gC (m:Mo):Nat->List Gl
 | 0=>gP m m.pts.length
 | i+1=>gC m i++(match m.crs[i]? with|some c=>gCk m i c (KD (szs m c.pts))|none=>[])
def goals (m:Mo):List Gl:=gC m m.crs.length
theorem vD (i:Nat)(p:Pt):∀k,(gPk i p k).length<=k
 | 0=>jF _
 | k+1=>by
   have:=vD i p k;simp only[gPk,zA];split<;>simp<;>omega
theorem AFL {m:Mo}(hf:Full m):∀i,(gP m i).length<=64*i
 | 0=>jF _
 | i+1=>by
   have h1:=AFL hf i;simp only[gP,zA];split
   .rename_i p hp
    have h2:=vD i p p.bins.length;have h3:=(hf p (qA hp)).2;omega
   .simp; omega
theorem AIC (m:Mo)(i:Nat)(c:Cr):∀k,(gCk m i c k).length<=k
 | 0=>jF _
 | k+1=>by
   have:=AIC m i c k;simp only[gCk,zA];split<;>simp<;>omega
theorem AQI {m:Mo}(hg:Good m):∀i,(gC m i).length<=64*m.pts.length+256*i
 | 0=>AFL hg.full _
 | i+1=>by
   have h1:=AQI hg i;simp only[gC,zA];split
   .rename_i c hc
    have h2:=AIC m i c (KD (szs m c.pts));have h3:=(hg.crs c (qA hc)).prod;omega
   .simp; omega
theorem sH {m:Mo}(hg:Good m):(goals m).length<=8192:=by
 have h1:=AQI hg m.crs.length;have h2:=hg.num;unfold goals; omega
theorem A4X (i:Int)(xs:List (List AV)):G7 jA 34 [(1,.n i),(2,.sl .full 1 xs)]=some (.agg [.bool false,.n i,.sl .full 1 xs]):=A8
theorem A4W (i k:Int)(xs:List (List AV)):G7 jA 118 [(0,.agg [.bool false,.n i,.sl .full 1 xs]),(1,.n k)]=some (.agg [.bool false,.n i,.sl .full 1 xs,.n k]):=A8
theorem A7D (h:Hp)(g:Gl)(hf:(KW g).all AV.frozen=true):C9 jA false h 115 1 [(0,.agg (KW g))]=some (.sl .full 4 [KW g],h):=by
 have h1:Tryz.prog.underlying 115=some (.slice 118):=AXP;unfold C9;simp only[h1,qS,AXL];have h2:cH 4 0 [(0,AV.agg (KW g))]=some [KW g]:=rfl;simp [h2,hf]
def cellAt (l:List Is)(i k:Nat):Int:=match l[i]? with
 | some x=>(match x.l[k]? with|some z=>z|none=>0)
 | none=>0
def TG (v:Cvr)(g:Gl):Int:=if g.cross then cellAt v.crs g.idx g.at_ else cellAt v.pts g.idx g.at_
def InL (l:List Is)(i k:Nat):Prop:=∃hi:i<l.length,k<(l[i]'hi).l.length
def InR (v:Cvr)(g:Gl):Prop:=if g.cross=true then InL v.crs g.idx g.at_ else InL v.pts g.idx g.at_
theorem sS {l:List Is}(h:InL l i k):∃(hi:i<l.length) (hk:k<l[i].l.length),cellAt l i k=l[i].l[k]:=by
 obtain⟨hi,hk⟩:=h;refine⟨hi,hk,?_⟩;unfold cellAt;rw[jM hi];simp only;rw[jM hk]
def AS3 (m:Mo)(g:Gl):Prop:=(g.cross=false∧∃p,m.pts[g.idx]?=some p∧g.at_<p.bins.length)∨(g.cross=true∧∃c,m.crs[g.idx]?=some c∧g.at_<KD (szs m c.pts))
theorem AQG {i:Nat}{p:Pt}:∀ {k:Nat} {g:Gl},g∈gPk i p k->g.cross=false∧g.idx=i∧g.at_<k
 | 0,g,h=>by cases h
 | k+1,g,h=>by
   simp only[gPk,zV] at h;rcases h with h|h
   .obtain⟨h1,h2,h3⟩:=AQG h; exact⟨h1,h2,U⟩
   .split at h
    .simp at h; subst h; exact⟨rfl,rfl,Nat.lt_succ_self k⟩
    .cases h
theorem AX8 {m:Mo}:∀ {i:Nat} {g:Gl},g∈gP m i->AS3 m g
 | 0,g,h=>by cases h
 | i+1,g,h=>by
   simp only[gP,zV] at h;rcases h with h|h
   .exact AX8 h
   .split at h
    .rename_i p hp
     obtain⟨h1,h2,h3⟩:=AQG h;exact .inl ⟨h1,p,by rw[h2]; exact hp,h3⟩
    .cases h
theorem AQH {m:Mo}{i:Nat}{c:Cr}:∀ {k:Nat} {g:Gl},g∈gCk m i c k->g.cross=true∧g.idx=i∧g.at_<k
 | 0,g,h=>by cases h
 | k+1,g,h=>by
   simp only[gCk,zV] at h;rcases h with h|h
   .obtain⟨h1,h2,h3⟩:=AQH h; exact⟨h1,h2,U⟩
   .split at h
    .simp at h; subst h; exact⟨rfl,rfl,Nat.lt_succ_self k⟩
    .cases h
theorem AX9 {m:Mo}:∀ {i:Nat} {g:Gl},g∈gC m i->AS3 m g
 | 0,g,h=>AX8 h
 | i+1,g,h=>by
   simp only[gC,zV] at h;rcases h with h|h
   .exact AX9 h
   .split at h
    .rename_i c hc
     obtain⟨h1,h2,h3⟩:=AQH h;exact .inr ⟨h1,c,by rw[h2]; exact hc,h3⟩
    .cases h
theorem mO {α:Type}{ok:α->Is->Bool}:∀ {ws:List α} {xs:List Is},X7 ok ws xs=true->∀(i:Nat) (a:α),ws[i]?=some a->∃x,xs[i]?=some x∧ok a x=true
 | [],[],_,i,a,h=>by simp at h
 | w::ws,x::xs,h,i,a,ha=>by
   simp only[X7,jU] at h
   cases i with
   | zero=>simp at ha; subst ha; exact⟨x,rfl,h.1⟩
   | succ i=>exact mO h.2 i a (BN ha)
 | [],_::_,h,_,_,_=>by cases h
 | _::_,[],h,_,_,_=>by cases h
theorem AP7 {l:List Is}{x:Is}(hx:l[i]?=some x)(hn:x.l.length=n)(hk:k<n):InL l i k:=by
 obtain⟨hi,e⟩:=List.getElem?_eq_some_iff.1 hx;exact⟨hi,by rw[e]; omega⟩
theorem A0B {m:Mo}{v:Cvr}(hf:PO m v=true){g:Gl}(hg:g∈goals m):InR v g:=by
 unfold PO at hf;simp only[jU] at hf;obtain⟨⟨⟨⟨_,h1⟩,h2⟩,_⟩,_⟩:=hf;unfold InR;rcases AX9 hg with⟨hc,p,hp,hk⟩|⟨hc,c,hcc,hk⟩
 .rw[if_neg (by simp [hc])]
  obtain⟨x,hx,ho⟩:=mO h1 _ _ hp;unfold okP at ho;simp only[jU,beq_iff_eq] at ho;exact AP7 hx ho.1 hk
 .rw[if_pos hc]
  obtain⟨x,hx,ho⟩:=mO h2 _ _ hcc;unfold okC at ho;simp only[jU,beq_iff_eq] at ho;exact AP7 hx ho.1 hk
theorem A35 (g:Gl):(KW g)[0]?=some (.bool g.cross):=rfl
theorem A34 (g:Gl):(KW g)[1]?=some (.n (g.idx:Int)):=rfl
theorem A33 (g:Gl):(KW g)[3]?=some (.n (g.at_:Int)):=rfl
theorem bxG (h:Hp)(g:Gl):MI h (.agg (KW g))=some (.ptr h.length 0 0,h++[zZ 4 [KW g]]):=rfl
theorem oS (v:Cvr)(g:Gl)(hi:InR v g)(h:Hp):PCall (En G) 62 [.agg (KW g),.agg (encV v)] h (.bool (decide (TG v g>0))):=by
 refine ACalls.pure0 rfl ?_;refine acT Tryz.func62 4 ?_;have gg:(h++[zZ 4 [KW g]]++[zZ 4 [encV v]])[h.length]?=some (zZ 4 [KW g]):=AL (A7 _ _);have gv:=A7 (h++[zZ 4 [KW g]]) (zZ 4 [encV v]);have hx:∃x,h++[zZ 4 [KW g]]++[zZ 4 [encV v]]=h++x:=⟨_,zG _ _ _⟩;refine DT @kB @bxG @bxV ?_
 generalize h++[zZ 4 [KW g]]++[zZ 4 [encV v]]=H at gg gv hx|-
 generalize (h++[zZ 4 [KW g]]).length=vb at gv|-
 have l0:BU jA H 4 (.ptr h.length 0 0)=some (.bool g.cross):=by rw[BL ag4 gg (row:=KW g) rfl,A35]
 have l1:BU jA H 3 (.ptr h.length 0 1)=some (.n (g.idx:Int)):=by rw[BL ag3 gg (row:=KW g) rfl,A34]
 have l3:BU jA H 3 (.ptr h.length 0 3)=some (.n (g.at_:Int)):=by rw[BL ag3 gg (row:=KW g) rfl,A33]
 have lv0:BU jA H 25 (.ptr vb 0 0)=some (.sl v.pm 1 (v.pts.map NM)):=by rw[BL bH gv (row:=encV v) rfl,encV0]
 have lv1:BU jA H 25 (.ptr vb 0 1)=some (.sl v.cm 1 (v.crs.map NM)):=by rw[BL bH gv (row:=encV v) rfl,AQ6]
 refine BC l0 ?_;unfold InR at hi;cases hc:g.cross
 .rw[if_neg (by simp [hc])] at hi
  obtain⟨h1,h2,h3⟩:=sS hi;have hcg:TG v g=v.pts[g.idx].l[g.at_]:=by unfold TG; rw[hc,if_neg BA,h3]
  refine AO ?_;refine DV A8 ?_;simp -implicitDefEqProofs only[vQ,KH,↓reduceIte,jB,jL,enP,pB,LQ,UO,vK,kB,AI1,l1,l3,lv0,CQ h1,CG O6 h1,mY,CQ h2,CG ag3 h2,encI0];exact⟨by rw[hcg],hx⟩
 .rw[if_pos hc] at hi
  obtain⟨h1,h2,h3⟩:=sS hi;have hcg:TG v g=v.crs[g.idx].l[g.at_]:=by unfold TG; rw[hc,if_pos rfl,h3]
  refine AO ?_;refine DV A8 ?_;simp -implicitDefEqProofs only[vQ,KH,MZ,↓reduceIte,jB,jL,enP,pB,LQ,UO,AFQ,kB,AI1,l1,l3,lv1,CQ h1,CG O6 h1,mY,CQ h2,CG ag3 h2,encI0];exact⟨by rw[hcg],hx⟩
theorem AL5 (g:Gl):(KW g).all AV.leaf=true:=rfl
theorem ARA (g:Gl):(encH g).all AV.frozen=true:=rfl
theorem A7I (h:Hp):GM jA h 118=some (.ptr h.length 0 0,h++[zZ 4 [[.bool false,.n 0,.sl .nil 0 [],.n 0]]]):=FV (row:=[.bool false,.n 0,.sl .nil 0 [],.n 0]) A8
theorem A6H (h:Hp)(g:Gl)(row:List AV)(hr:row.length=4):DW jA (h++[zZ 4 [row]]) 118 (.ptr h.length 0 0) (.agg (KW g))=some (h++[zZ 4 [KW g]]):=by
 rw[SI (O7 (AL5 g)) (by rw[U9]; exact qS) (by rw[U9,hr]; exact jF _)];have:splice row 0 (KW g)=KW g:=by unfold splice; simp [U9,hr]
 rw[this]
theorem ldG {b:Nat}{g:Gl}(hb:h[b]?=some (zZ 4 [KW g])):BU jA h 118 (.ptr b 0 0)=some (.agg (KW g)):=by
 rw[EH AYV qS hb rfl (by rw[U9]; exact jF 4)]; rfl
theorem ldH {b:Nat}{g:Gl}(hb:h[b]?=some (zZ 4 [KW g])):BU jA h 34 (.ptr b 0 0)=some (.agg (encH g)):=by
 rw[EH A1H tW hb rfl (by rw[U9]; omega)]; rfl
theorem A7F (h:Hp)(g:Gl):C9 jA false h 49 1 [(0,.agg (encH g))]=some (.sl .full 3 [encH g],h):=by
 have h1:Tryz.prog.underlying 49=some (.slice 34):=ATK;unfold C9;simp only[h1,tW,ATB];have h2:cH 3 0 [(0,AV.agg (encH g))]=some [encH g]:=rfl;simp [h2,ARA]
theorem mK {m:Mo}{v:Cvr}(hf:PO m v=true):F8 m=0:=by
 unfold PO at hf;simp only[jU,beq_iff_eq] at hf;exact hf.1.1.1.1
theorem AB5 {α:Type}(p:α->Bool)(xs:List α)(k:Nat)(hk:k<xs.length):(xs.take (k+1)).filter p=(xs.take k).filter p++(if p xs[k]=true then [xs[k]] else []):=by
 rw[jY hk,List.filter_append]; simp [List.filter_cons]
def OD (m:Mo)(v:Cvr):List Gl:=if PO m v=true then (goals m).filter (fun g => !decide (TG v g>0)) else []
theorem AP8 (m:Mo)(v:Cvr)(hF:∀h,PCall (En G) 55 [.agg (DJ m),.agg (encV v)] h (.bool (PO m v)))(hL:Good m->∀h,PCall (En G) 61 [.agg (DJ m)] h (.sl (nm (goals m)) 4 ((goals m).map KW)))(h:Hp):PCall (En G) 21 [.agg (DJ m),.agg (encV v)] h (.sl (nm (OD m v)) 3 ((OD m v).map encH)):=by
 refine LY frzH ?_;refine acT Tryz.func21 4 ?_;have t:=TwoV.mk' h m v;have hvb:h.length<(h++[zZ 2 [DJ m]]).length:=BA;refine BB @bxM @bxV ?_
 generalize h++[zZ 2 [DJ m]]++[zZ 4 [encV v]]=H at t|-
 generalize (h++[zZ 2 [DJ m]]).length=vb at t hvb|-
 refine BB (ldM t.gm) (ldV t.gv) ?_;refine(hF _).uu ?_;cases hf:PO m v
 .refine AO ?_
  have:OD m v=[]:=by unfold OD; rw[hf]; rfl
  rw[this];exact⟨t.hx,outG.nil _ _ _ _⟩
 have hg:=UA (mK hf);have hgl:=sH hg;have hin:∀g∈goals m,InR v g:=fun g hg'=>A0B hf hg'
 refine BC (ldM t.gm) ?_;refine(hL hg _).use ?_;have hrn:OD m v=(goals m).filter (fun g => !decide (TG v g>0)):=by unfold OD; rw[if_pos hf]
 rw[hrn]
 generalize goals m=gs at hgl hin|-
 refine BC A27 ?_;refine BI (fun n F H'=>∃k,n+k=gs.length∧F 3=.ptr vb 0 0∧F 13=.sl (nm gs) 4 (gs.map KW)∧F 14=.n gs.length∧F 15=.n (k:Nat)∧H'[vb]?=some (zZ 4 [encV v])∧ext h H'∧(∀b,isB (F 5) b->vb<b)∧outG 3 encH h ((gs.take k).filter (fun g => !decide (TG v g>0))) (F 5) H') gs.length ⟨0,BA,AQ,AQ,AQ,AQ,t.gv,t.hx,fun b hb=>hb.elim,outG.nil _ _ _ _⟩ ?_;rintro n F H' ⟨k,hk,f3,f13,f14,f15,gv,he,hlt,ho⟩;refine BB f14 f15 ?_;refine D8 ?_ ?_<;>intro hk'
 .have hcl:((gs.take k).filter (fun g => !decide (TG v g>0))).length<=k:=qW (List.length_filter_le _ _) NU
  have hct:=AB5 (fun g => !decide (TG v g>0)) gs k hk';have ho1:=ho.app [zZ 4 [KW gs[k]]];have he1:ext h (H'++[zZ 4 [KW gs[k]]]):=he.app _;simp -implicitDefEqProofs only[vQ,CV,↓reduceIte,jB,enP,A3H,jO,f3,f13,f15,CQ hk',DR AYV qS U9 hk',A7I,A6H _ _ [.bool false,.n 0,.sl .nil 0 [],.n 0] rfl,ldG (A7 H' _),ldV (AL (x:=zZ 4 [KW gs[k]]) gv)];refine(oS G v gs[k] (hin _ (jH hk')) _).uu ?_;cases hp:decide (TG v gs[k]>0)
  .obtain⟨v',H2,ha,ho',hkeep,he',hle,hb'⟩:=ho1.append ATK tW ATB A08 U U he1 gs[k]
   refine DT @kB (ldH (A7 H' (zZ 4 [KW gs[k]]))) A7F ?_;refine KY (v:=v') (h:=H2) ha ?_;refine BB f15 (DF k) ?_;refine⟨n-1,U,k+1,U,f3,f13,f14,rfl,hkeep _ _ (AL gv) (fun e=>by have:=hlt _ e; omega),he',fun b hbb=>?_,?_⟩
   .have h1:=hb' b hbb; have h2:=AC gv; rw[h1]; simp; omega
   .rw[hct,hp]; exact ho'
  .refine BB f15 (DF k) ?_
   refine⟨n-1,U,k+1,U,f3,f13,f14,rfl,AL gv,he1,hlt,?_⟩;rw[hct,hp];simp only[zW,zY,if_false,jQ];exact ho1
 .rw[jI U] at ho
  refine AO ?_;exact⟨he,ho⟩
def zeros (n:Nat):List Int:=zD n 0
theorem mkI (h:Hp)(n:Nat)(hn:n<=1048576):IM jA true h 32 (.n (n:Int)) (.n (n:Int))=some (.own h.length 0 n,h++[zZ 1 ((zeros n).map qencI)]):=by
 rw[A6Q h n hn,AVZ];simp [zeros]
theorem KC (h:Hp)(x y:ABlk):(h++[x]).set h.length y=h++[y]:=BA
theorem JO {t:Nat}{b:Nat}(hF:F a=.ptr b 0 0)(h1:BU P h t (.ptr b 0 0)=some x):LU P [.cell a t] R .ret F h=R x h:=by simp [LU,dY,VJ,hF,h1]
theorem A0U {t b:Nat}{y:AV}{bb:Nat}(hF:F a=.ptr ba 0 0)(hG:F b=.ptr bb 0 0)(h1:BU P h t (.ptr ba 0 0)=some x)(h2:BU P h u (.ptr bb 0 0)=some y):LU P [.cell a t,.cell b u] R .ret F h=R (.tup [x,y]) h:=by simp [LU,dY,RX,VJ,hF,hG,h1,h2]
theorem AI3 {t b:Nat}{y:AV}{bb:Nat}(hF:F a=.ptr ba 0 0)(hG:F b=.ptr bb 0 0)(h1:BU P h t (.ptr ba 0 0)=some x)(h2:BU P h u (.ptr bb 0 0)=some y):LU P [.cell a t,.cell b u,.tmp c] R .ret F h=R (.tup [x,y,F c]) h:=by simp [LU,dY,RX,VJ,hF,hG,h1,h2]
theorem SA {t:Nat}(hF:F a=.ptr ba 0 0)(h1:BU P h t (.ptr ba 0 0)=some x):LU P [.cell a t,.tmp c] R .ret F h=R (.tup [x,F c]) h:=by simp [LU,dY,RX,VJ,hF,h1]
def fzG {α:Type}(k:Nat)(f:α->List AV)(ys:List α):AV:=match ys with
 | []=>.sl .nil 0 []
 | _=>.sl .any k (ys.map f)
theorem KP {α:Type}{f:α->List AV}{ys:List α}(hf:Frz f)(ho:outG k f h ys v H)(n d:Nat)(hn:n<=h.length):FN n H (d+2) v=fzG k f ys:=by
 rcases ho with⟨rfl,rfl⟩|⟨hne,o,h2,rfl,h3⟩
 .rfl
 .rw[frz_own hf (qW hn h2) h3]
  cases ys with
  | nil=>exact absurd rfl hne
  | cons _ _=>rfl
theorem X3 {α:Type}{f:α->List AV}{ys:List α}:CvR (fzG k f ys) (.sl (nm ys) k (ys.map f)):=by
 cases ys with
 | nil=>exact CvR.sl (Cv.nil 0 k)
 | cons y ys=>exact CvR.refl _
theorem outG.app2 {t e:TypeId}{α:Type}{bs:Nat}{f:α->List AV}{ys:List α}(ho:outG k f h ys v H)(hu:P.underlying t=some (.slice e))(hs:szO P e=some k)(hz:RD P e=some k)(hb:KG P e=some bs)(hbs:bs<=4194304)(hl:ys.length<8388608)(he:h.length<=H.length)(y:α):
  ∃v' H',EG P true H t t v (.sl .full k [f y])=some (v',H')∧outG k f h (ys++[y]) v' H'∧(∀b x,H[b]?=some x->¬isB v b->H'[b]?=some x)∧H'.length=H.length+1∧(∀b,isB v' b->b=H.length)∧(∃o l,v'=.own o 0 l)∧∀e:Hp,e.length<=h.length->ext e H->ext e H':=by
 have h1:([f y]:List (List AV))≠[]:=BA;rcases ho with⟨rfl,rfl⟩|⟨hne,o,h2,rfl,h3⟩
 .exact⟨_,_,SE hu hs hz hb (G5 H .full k [f y]) h1 (IV BA hbs),.inr ⟨BA,H.length,he,rfl,BA⟩,fun b x hb _=>IK hb,BA,fun b hb=>hb.symm,⟨_,_,rfl⟩,fun e _ hx=>hx.app _⟩
 .have hc:JB H (.own o 0 ys.length)=some (k,ys.map f):=by
   rw[JS h3 BA,zI,jI BA]
  refine⟨_,_,QT hu hs hz hb hc (G5 H .full k [f y]) h1 (IV NU hbs),.inr ⟨BA,H.length,he,BA,BA⟩,fun b x hb hn=>?_,BA,fun b hb=>hb.symm,⟨_,_,rfl⟩,fun e hl hx=>(hx.set (qW hl h2) _).app _⟩;have hn':¬o=b:=hn;refine IK ?_;rw[zN,if_neg hn']; exact hb
theorem I9 {t b j:Nat}{cs:List AV}(hc:IL v=some cs)(hs:szO P t=some cs.length)(hb:H[b]?=some (zZ k [row]))(hl:j+cs.length<=row.length):DW P H t (.ptr b 0 j) v=some (H.set b (zZ k [splice row j cs])):=by
 rw[IC (i:=0) hc hs hb rfl hl]; rfl
structure Tk where
 m:SM
 last:List Is
def ACD (t:Tk):List AV:=[.sl t.m 1 (t.last.map NM)]
def zLs (m:Mo):List Is:=m.pts.map fun _=>⟨.nil,[]⟩
def LZ:List AV:=[.sl .nil 0 []]
theorem A0J {α:Type}:Frz (fun _:α=>LZ):=fun _ _ _ _=>⟨rfl,rfl⟩
theorem AUK:CvRow LZ (NM ⟨.nil,[]⟩):=CvRow.cons rfl (Cv.nil 0 1) CvRow.nil
theorem AUJ {α:Type}{s:SM}(xs:List α):Cv (.sl s 1 (xs.map fun _=>LZ)) (.sl s 1 ((xs.map fun _=>(⟨.nil,[]⟩:Is)).map NM)):=by
 rw[qM];exact Cv.map fun _ _=>AUK
def KR:List AV:=[.sl .nil 0 [],.sl .nil 0 [],.n 0,.n 0]
theorem ASO (h:Hp):GM jA h 46=some (.ptr h.length 0 0,h++[zZ 4 [KR]]):=FV (row:=KR) A8
theorem A1G (h:Hp):GM jA h 94=some (.ptr h.length 0 0,h++[zZ 1 [LZ]]):=FV (row:=LZ) A8
theorem A40:G7 jA 46 []=some (.agg KR):=A8
theorem A4Y:G7 jA 94 []=some (.agg LZ):=A8
theorem stZ {b:Nat}(hb:H[b]?=some (zZ 4 [row]))(hr:row.length=4):DW jA H 46 (.ptr b 0 0) (.agg KR)=some (H.set b (zZ 4 [KR])):=by
 rw[I9 (cs:=KR) rfl ANW hb (by rw[hr]; exact jF 4)];have:splice row 0 KR=KR:=by unfold splice; simp [KR,hr]
 rw[this]
theorem A18 {b:Nat}(hb:H[b]?=some (zZ 1 [row]))(hr:row.length=1):DW jA H 94 (.ptr b 0 0) (.agg LZ)=some (H.set b (zZ 1 [LZ])):=by
 rw[I9 (cs:=LZ) rfl ATM hb (by rw[hr]; exact jF 1)];have:splice row 0 LZ=LZ:=by unfold splice; rw[List.take_zero,jX (by rw[hr]; exact jF 1)]; simp
 rw[this]
theorem cY {b:Nat}(hb:h[b]?=some (zZ 4 [row]))(hr:row.length=4):BU jA h 46 (.ptr b 0 0)=some (.agg row):=by
 rw[EH A5H ANW hb rfl (by rw[hr]; exact jF 4),zI,jI U]
theorem cX {b:Nat}(hb:h[b]?=some (zZ 1 [row]))(hr:row.length=1):BU jA h 94 (.ptr b 0 0)=some (.agg row):=by
 rw[EH A7Q ATM hb rfl (by rw[hr]; exact jF 1),zI,jI U]
end Go.Proofs.YtiihpnicbekebaaGreatDoor.Cov
namespace Go.Proofs.YtiihpnicbekebaaGreatDoor.Rk
open Sm Bins Cov Go.RowKit
def SomeB (E:Env)(f:FuncId)(args:List AV)(h:Hp):Prop:=ACalls E f args h fun v H=>(∃b:Bool,v=.bool b)∧H=h
theorem SomeB.of {E:Env}{f:FuncId}{args:List AV}{h:Hp}(hc:ACalls E f args h fun v H=>(∃b:Bool,v=.bool b)∧ext h H):SomeB E f args h :=
 hc.trunc fun v H hR=>by
  obtain⟨⟨b,rfl⟩,x,rfl⟩:=hR;exact⟨1,h,rfl,fun b hb=>.inr (.inl ⟨by rw[qC hb],by rw[qC hb]⟩),⟨b,rfl⟩,rfl⟩
theorem SomeB.use {E:Env}{f:FuncId}{args:List AV}{h:Hp}{K:AV->Hp->Prop}(hc:SomeB E f args h)(hk:∀b:Bool,K (.bool b) h):ACalls E f args h K :=
 ACalls.mono hc fun v H ⟨⟨b,e⟩,e2⟩=>by rw[e,e2]; exact hk b
theorem wt_arg {e:Ex}{k:Nat}(hk:k<e.args.length):wt e.args[k]<wt e:=by
 have h1:=VR (List.getElem_mem hk);have h2:=LX e;omega
theorem ldE' {H:Hp}{b:Nat}{e:Ex}(hb:H[b]?=some (zZ 4 [AU e])):BU jA H 23 (.ptr b 0 3)=some (.sl e.m 4 (e.args.map AU)):=by
 rw[BL MO hb (row:=AU e) rfl,dM]
theorem ldPE {H:Hp}{l:List Pt}{i:Nat}(hi:i<l.length):BU jA H 79 (.fptr 6 (l.map FY) i 1)=some (.agg (AU l[i].ex)):=by
 have h1:=IW l[i];simp only[BU,Sm.rowAt,List.getElem?_map,List.getElem?_eq_getElem hi,Option.map_some,O5,JL];rw[if_pos (by rw[h1]; omega),vY]
end Go.Proofs.YtiihpnicbekebaaGreatDoor.Rk
namespace Go.Proofs.YtiihpnicbekebaaGreatDoor.Cov
open Sm Bins Go.RowKit
variable {b k:Nat} {H h:Hp} {v:AV}
theorem outG.setB {α:Type}{f:α->List AV}{ys:List α}(ho:outG k f h ys v H)(hb:b<h.length)(y:ABlk):outG k f h ys v (H.set b y) :=
 ho.keep fun b' hb'=>by
  have:=ho.lt hb';rw[List.getElem?_set_ne U]
theorem outG.keepA {α:Type}{f:α->List AV}{H':Hp}{ys:List α}{u:AV}(ho:outG k f h ys v H)(hk:∀b x,H[b]?=some x->¬isB u b->H'[b]?=some x)(hd:∀b,isB v b->¬isB u b):outG k f h ys v H':=by
 rcases ho with h1|⟨h1,o,h2,rfl,h3⟩
 .exact .inl h1
 .exact .inr ⟨h1,o,h2,rfl,hk _ _ h3 (hd o rfl)⟩
theorem outG.leaf {α:Type}{k:Nat}{f:α->List AV}{h H:Hp}{ys:List α}{v:AV}(ho:outG k f h ys v H):v.leaf=true:=by
 rcases ho with⟨_,rfl⟩|⟨_,o,_,rfl,_⟩<;>rfl
theorem outG.base {α:Type}{f:α->List AV}{h':Hp}{ys:List α}(ho:outG k f h ys v H)(hl:h'.length<=h.length):outG k f h' ys v H:=by
 rcases ho with h1|⟨h1,o,h2,rfl,h3⟩
 .exact .inl h1
 .exact .inr ⟨h1,o,Nat.le_trans hl h2,rfl,h3⟩
def MQ (v1 v2:AV):List AV:=[v1,v2,.n 0,.n 0]
structure Em (h H:Hp) (m:Mo) (b2 b3 b4 b5:Nat) (v1 v2 v3:AV):Prop where
 gm:H[h.length]?=some (zZ 2 [DJ m])
 g2:H[b2]?=some (zZ 4 [KR])
 g3:H[b3]?=some (zZ 1 [LZ])
 g4:H[b4]?=some (zZ 4 [MQ v1 v2])
 g5:H[b5]?=some (zZ 1 [[v3]])
 o2:h.length<b2
 o3:b2<b3
 o4:b3<b4
 o5:b4<b5
 hx:ext h H
section
variable {h H:Hp} {m:Mo} {b2 b3 b4 b5:Nat} {v1 v2 v3:AV} (E:Em h H m b2 b3 b4 b5 v1 v2 v3)
include E
theorem Em.m0:BU jA H 28 (.ptr h.length 0 0)=some (.sl m.pm 6 (m.pts.map FY)):=by rw[BL fT E.gm (row:=DJ m) rfl,U8]
theorem Em.m1:BU jA H 29 (.ptr h.length 0 1)=some (.sl m.cm 3 (m.crs.map JK)):=by rw[BL nZ E.gm (row:=DJ m) rfl,YA]
theorem Em.l4:BU jA H 25 (.ptr b4 0 0)=some v1:=by rw[BL bH E.g4 (row:=MQ v1 v2) rfl]; rfl
theorem Em.l4':BU jA H 25 (.ptr b4 0 1)=some v2:=by rw[BL bH E.g4 (row:=MQ v1 v2) rfl]; rfl
theorem Em.l5:BU jA H 25 (.ptr b5 0 0)=some v3:=by rw[BL bH E.g5 (row:=[v3]) rfl]; rfl
theorem Em.app (x:Hp):Em h (H++x) m b2 b3 b4 b5 v1 v2 v3:=⟨IK E.gm,IK E.g2,IK E.g3,IK E.g4,IK E.g5,E.o2,E.o3,E.o4,E.o5,E.hx.app _⟩
theorem Em.keep {H':Hp}{u:AV}(hk:∀b x,H[b]?=some x->¬isB u b->H'[b]?=some x)(hu:∀b,isB u b->b5<b)(hx:ext h H->ext h H'):Em h H' m b2 b3 b4 b5 v1 v2 v3:=by
 have o2:=E.o2; have o3:=E.o3; have o4:=E.o4; have o5:=E.o5;exact⟨hk _ _ E.gm (fun e=>by have:=hu _ e; omega),hk _ _ E.g2 (fun e=>by have:=hu _ e; omega),hk _ _ E.g3 (fun e=>by have:=hu _ e; omega),hk _ _ E.g4 (fun e=>by have:=hu _ e; omega),hk _ _ E.g5 (fun e=>by have:=hu _ e; omega),o2,o3,o4,o5,hx E.hx⟩
theorem Em.set4 (w1 w2:AV):Em h (H.set b4 (zZ 4 [MQ w1 w2])) m b2 b3 b4 b5 w1 w2 v3:=by
 have o2:=E.o2; have o3:=E.o3; have o4:=E.o4; have o5:=E.o5;exact⟨CZ E.gm U,CZ E.g2 U,CZ E.g3 U,CP E.g4,CZ E.g5 U,o2,o3,o4,o5,E.hx.set U _⟩
theorem Em.set5 (w3:AV):Em h (H.set b5 (zZ 1 [[w3]])) m b2 b3 b4 b5 v1 v2 w3:=by
 have o2:=E.o2; have o3:=E.o3; have o4:=E.o4; have o5:=E.o5;exact⟨CZ E.gm U,CZ E.g2 U,CZ E.g3 U,CZ E.g4 U,CP E.g5,o2,o3,o4,o5,E.hx.set U _⟩
theorem Em.s4 {o l:Nat}:DW jA H 25 (.ptr b4 0 0) (.own o 0 l)=some (H.set b4 (zZ 4 [MQ (.own o 0 l) v2])):=I9 (row:=MQ v1 v2) (AGL _ _ _) AZB E.g4 (by simp [MQ])
theorem Em.s4' {o l:Nat}:DW jA H 25 (.ptr b4 0 1) (.own o 0 l)=some (H.set b4 (zZ 4 [MQ v1 (.own o 0 l)])):=I9 (row:=MQ v1 v2) (AGL _ _ _) AZB E.g4 (by simp [MQ])
theorem Em.s5 {o l:Nat}:DW jA H 25 (.ptr b5 0 0) (.own o 0 l)=some (H.set b5 (zZ 1 [[.own o 0 l]])):=I9 (row:=[v3]) (AGL _ _ _) AZB E.g5 BA
theorem Em.lt:b5<H.length:=AC E.g5
end
theorem Em.mk' (h:Hp)(m:Mo):Em h (h++[zZ 2 [DJ m]]++[zZ 4 [KR]]++[zZ 1 [LZ]]++[zZ 4 [KR]]++[zZ 1 [LZ]]) m (h++[zZ 2 [DJ m]]).length (h++[zZ 2 [DJ m]]++[zZ 4 [KR]]).length
  (h++[zZ 2 [DJ m]]++[zZ 4 [KR]]++[zZ 1 [LZ]]).length (h++[zZ 2 [DJ m]]++[zZ 4 [KR]]++[zZ 1 [LZ]]++[zZ 4 [KR]]).length (.sl .nil 0 []) (.sl .nil 0 []) (.sl .nil 0 []) :=
 ⟨AL (AL (AL (AL (A7 _ _)))),AL (AL (AL (A7 _ _))),AL (AL (A7 _ _)),AL (A7 _ _),A7 _ _,BA,BA,BA,BA,((((ext.rfl' h).app _).app _).app _).app _ |>.app _⟩
theorem A4Q (h:Hp):C9 jA false h 25 1 [(0,.sl .nil 0 [])]=some (.sl .full 1 [LZ],h):=A8
theorem AOB {row:List AV}{v1 v2:AV}(hb:H[b]?=some (zZ 4 [row]))(hr:row.length=4)(h1:v1.leaf=true)(h2:v2.leaf=true):DW jA H 46 (.ptr b 0 0) (.agg (MQ v1 v2))=some (H.set b (zZ 4 [MQ v1 v2])):=by
 rw[I9 (cs:=MQ v1 v2) (O7 (by simp [MQ,h1,h2]; rfl)) ANW hb (by rw[hr]; exact jF 4)];have:splice row 0 (MQ v1 v2)=MQ v1 v2:=by unfold splice; rw[qB,jX (by rw[hr]; exact jF 4)]; simp
 rw[this]
theorem AOA {row:List AV}{v3:AV}(hb:H[b]?=some (zZ 1 [row]))(hr:row.length=1)(h3:v3.leaf=true):DW jA H 94 (.ptr b 0 0) (.agg [v3])=some (H.set b (zZ 1 [[v3]])):=by
 rw[I9 (cs:=[v3]) (O7 (by simp [h3])) ATM hb (by rw[hr]; exact jF 1)];have:splice row 0 [v3]=[v3]:=by unfold splice; rw[qB,jX (by rw[hr]; exact jF 1)]; simp
 rw[this]
theorem XJ {E:Env}{f:FuncId}{args:List AV}{r:AV}(d:Nat)(hr:∀n H,FN n H d r=r)(hc:ACalls E f args h fun v H=>v=r∧ext h H)(hX:E.nox=E:=by rfl):PCall E f args h r :=
 ACalls.pure d hc (fun v H ⟨e,he⟩=>⟨he,by rw[e]; exact hr _ _⟩) hX
structure Ee (h H:Hp) (m:Mo) (b2 b3:Nat):Prop where
 gm:H[h.length]?=some (zZ 2 [DJ m])
 g2:H[b2]?=some (zZ 4 [KR])
 g3:H[b3]?=some (zZ 1 [LZ])
 o2:h.length<b2
 o3:b2<b3
 hx:ext h H
theorem Ee.mk' (h:Hp)(m:Mo):Ee h (h++[zZ 2 [DJ m]]++[zZ 4 [KR]]++[zZ 1 [LZ]]) m (h++[zZ 2 [DJ m]]).length (h++[zZ 2 [DJ m]]++[zZ 4 [KR]]).length :=
 ⟨AL (AL (A7 _ _)),AL (A7 _ _),A7 _ _,BA,BA,(((ext.rfl' h).app _).app _).app _⟩
theorem Ee.lt {m:Mo}{b2 b3:Nat}(E:Ee h H m b2 b3):b3<H.length:=AC E.g3
theorem Ee.m0 {m:Mo}{b2 b3:Nat}(E:Ee h H m b2 b3):BU jA H 28 (.ptr h.length 0 0)=some (.sl m.pm 6 (m.pts.map FY)):=by rw[BL fT E.gm (row:=DJ m) rfl,U8]
theorem ED {x:ABlk}(he:ext h H)(hb:h[b]?=some x):H[b]?=some x:=by
 obtain⟨y,rfl⟩:=he;exact IK hb
end Go.Proofs.YtiihpnicbekebaaGreatDoor.Cov
