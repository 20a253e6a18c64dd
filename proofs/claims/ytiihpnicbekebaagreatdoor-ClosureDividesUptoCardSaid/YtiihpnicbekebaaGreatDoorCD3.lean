/- Part 3 of the proof (Ft, Mr, Ms, B1, B2, B3, B4, B5, B6, B7, E1, E2, E3, E4, E5, E6, E7, E8, E9, E10, M1, M2, M3, L1, M4, M5, M6, M7, M8, M9, M10, M11, M12, M13, M14, N1, N2, N4, N5); no condition. -/
import Derived.Test.YtiihpnicbekebaaGreatDoorProg
import Derived.KernelRfl
import Derived.Laws.RangeAny
import Derived.Shelf.Strings.Cut
import Derived.Lib.IndexMore
import Derived.Test.YtiihpnicbekebaaGreatDoorCD2
set_option linter.unusedVariables false
set_option maxRecDepth 8000
set_option linter.unusedSimpArgs false
set_option maxHeartbeats 2000000
open Go.Proofs.YtiihpnicbekebaaGreatDoor.Sm.ABlk renaming live→qF
open Bool renaming and_eq_true→jT,eq_iff_iff→wI,false_eq_true→qI,false_or→wL,not_eq_true→wO,not_false→jE,not_true→qV,or_false→zY,true_and→wM
open Go.Proofs.Tryz renaming prog→jA
open Int renaming reduceBEq→qZ,toNat_natCast→qN
open List renaming all_eq_true→zJ,any_eq_false→qM,any_eq_true→qK,append_assoc→zC,append_nil→jO,cons_append→zF,drop_eq_getElem_cons→zS,drop_eq_nil_of_le→jR,drop_zero→zM,findIdx?_eq_none_iff→wU,findIdx?_eq_some_iff_getElem→wS,foldl_cons→qO,getElem?_append_left→qH,getElem?_eq_getElem→jI,getElem?_eq_none→zW,getElem?_map→jX,getElem?_set→zG,getElem_mem→jH,length_append→jS,length_cons→zH,length_map→jL,length_take→jU,map_append→qL,map_cons→jK,map_map→wF,map_nil→jM,mem_append→zX,mem_cons→zK,mem_map→qE,mem_of_getElem?→zU,nil_append→qA,replicate→zD,take_append_drop→wC,take_of_length_le→jJ,take_succ_eq_append_getElem→jW,take_zero→qB
open Nat renaming add_zero→jV,eq_zero_or_pos→wJ,le_of_ble_eq_true→jB,le_refl→jF,le_trans→wE,lt_or_ge→jZ,reduceAdd→jP,reduceEqDiff→jC,zero_add→jG
open Option renaming getD_none→jQ,getD_some→jD
namespace Go.Proofs.YtiihpnicbekebaaGreatDoor.Sm
variable {E:Env} {f:FuncId} {fn:Func} {c:Code} {h:Hp} (G:Nat->AV )

theorem sz3:szO jA 3=some 1:=AZ
theorem ag3:JG jA 3=some false:=AZ
theorem sz4:szO jA 4=some 1:=AZ
theorem ag4:JG jA 4=some false:=AZ
theorem sz9:szO jA 9=some 1:=AZ
theorem ag9:JG jA 9=some false:=AZ
theorem YQ:JG jA 22=some false:=AZ
theorem AIJ:szO jA 23=some 1:=AZ
theorem L6:JG jA 23=some false:=AZ
theorem AP5:JG jA 24=some false:=AZ
theorem AVY:szO jA 25=some 1:=AZ
theorem XN:JG jA 25=some false:=AZ
theorem fR:szO jA 27=some 5:=AZ
theorem mP:JG jA 27=some true:=AZ
theorem eI:JG jA 28=some false:=AZ
theorem gL:JG jA 29=some false:=AZ
theorem AVX:szO jA 31=some 2:=AZ
theorem A1R:JG jA 31=some true:=AZ
theorem AII:szO jA 32=some 1:=AZ
theorem MO:JG jA 32=some false:=AZ
theorem fQ:szO jA 34=some 3:=AZ
theorem AK5:JG jA 34=some true:=AZ
theorem AVW:szO jA 38=some 1:=AZ
theorem AP4:JG jA 38=some false:=AZ
theorem AIH:szO jA 46=some 4:=AZ
theorem A1Q:JG jA 46=some true:=AZ
theorem I8:szO jA 79=some 4:=AZ
theorem OZ:JG jA 79=some true:=AZ
theorem OB:JG jA 80=some false:=AZ
theorem ZC:szO jA 82=some 6:=AZ
theorem gK:JG jA 82=some true:=AZ
theorem AYE:szO jA 84=some 1:=AZ
theorem QX:JG jA 84=some false:=AZ
theorem VM:JG jA 85=some false:=AZ
theorem ZB:szO jA 87=some 4:=AZ
theorem gJ:JG jA 87=some true:=AZ
theorem iL:szO jA 90=some 3:=AZ
theorem uT:JG jA 90=some true:=AZ
theorem AIG:szO jA 94=some 1:=AZ
theorem A1P:JG jA 94=some true:=AZ
theorem AUL:szO jA 100=some 1:=AZ
theorem AVK:JG jA 100=some false:=AZ
theorem eP:szO jA 118=some 4:=AZ
theorem AVJ:JG jA 118=some true:=AZ
theorem AHX:JG jA 120=some false:=AZ
theorem AL1:szO jA 121=some 1:=AZ
theorem rK:JG jA 121=some false:=AZ
theorem vM:szO jA 131=some 4:=AZ
theorem AVI:JG jA 131=some true:=AZ
theorem A1X:JG jA 137=some false:=AZ
theorem eO:szO jA 140=some 2:=AZ
theorem AHW:JG jA 140=some true:=AZ
theorem AYG:szO jA 143=some 4:=AZ
theorem MJ:szO jA 145=some 2:=AZ
theorem fN:JG jA 145=some true:=AZ
theorem AYF:szO jA 150=some 1:=AZ
theorem A1W:JG jA 150=some false:=AZ
theorem AL0:szO jA 209=some 2:=AZ
theorem A1V:JG jA 209=some true:=AZ
theorem sz230:szO jA 230=some 1:=AZ
theorem ag230:JG jA 230=some false:=AZ
theorem AUK:szO jA 233=some 1:=AZ
theorem A1U:JG jA 233=some true:=AZ
theorem AUJ:szO jA 235=some 2:=AZ
theorem A1T:JG jA 235=some true:=AZ
theorem AFT:szO jA 240=some 4:=AZ
theorem AVH:JG jA 240=some true:=AZ
theorem AUI:szO jA 277=some 1:=AZ
theorem A1S:JG jA 277=some true:=AZ
theorem be4:∀p q,H9 jA 4 .eql (.bool p) (.bool q)=some (.bool (p==q)):=fun p q=>APN jA 4 p q AZ
theorem ln9:∀s,JQ jA 9 (.str s)=some (.int .i64 s.size):=AR7 (AZ:Tryz.prog.underlying 9=some .string)
theorem dE:∀h a i,EI jA h 22 a i=JM 4 h a i:=FH (AZ:Tryz.prog.underlying 22=some (.slice 131)) vM
theorem AZE:(∀m k xs,JQ jA 22 (.sl m k xs)=some (.int .i64 xs.length))∧∀b off len,JQ jA 22 (.own b off len)=some (.int .i64 len):=MM (AZ:Tryz.prog.underlying 22=some (.slice 131))
theorem A2I:Tryz.prog.underlying 22=some (.slice 131):=AZ
theorem PK:∀h a i,EI jA h 23 a i=JM 4 h a i:=FH (AZ:Tryz.prog.underlying 23=some (.slice 79)) I8
theorem ANF:(∀m k xs,JQ jA 23 (.sl m k xs)=some (.int .i64 xs.length))∧∀b off len,JQ jA 23 (.own b off len)=some (.int .i64 len):=MM (AZ:Tryz.prog.underlying 23=some (.slice 79))
theorem U5:Tryz.prog.underlying 23=some (.slice 79):=AZ
theorem cN:SY jA 79=some 4:=AZ
theorem bZ:KR jA 79=some 56:=AZ
theorem AJW:∀h a i,EI jA h 24 a i=JM 2 h a i:=FH (AZ:Tryz.prog.underlying 24=some (.slice 140)) eO
theorem AZD:(∀m k xs,JQ jA 24 (.sl m k xs)=some (.int .i64 xs.length))∧∀b off len,JQ jA 24 (.own b off len)=some (.int .i64 len):=MM (AZ:Tryz.prog.underlying 24=some (.slice 140))
theorem A2H:Tryz.prog.underlying 24=some (.slice 140):=AZ
theorem VZ:∀h a i,EI jA h 25 a i=JM 1 h a i:=FH (AZ:Tryz.prog.underlying 25=some (.slice 32)) AII
theorem ADS:(∀m k xs,JQ jA 25 (.sl m k xs)=some (.int .i64 xs.length))∧∀b off len,JQ jA 25 (.own b off len)=some (.int .i64 len):=MM (AZ:Tryz.prog.underlying 25=some (.slice 32))
theorem ud25:Tryz.prog.underlying 25=some (.slice 32):=AZ
theorem zs25:SY jA 32=some 1:=AZ
theorem by25:KR jA 32=some 24:=AZ
theorem tV:(∀b i j,BD jA 27 (.ptr b i j) 0=some (.ptr b i (j+0)))∧(∀k xs i j,BD jA 27 (.fptr k xs i j) 0=some (.fptr k xs i (j+0))):=FU (AZ:I4 jA 27 0 0=true)
theorem dN:(∀b i j,BD jA 27 (.ptr b i j) 1=some (.ptr b i (j+1)))∧(∀k xs i j,BD jA 27 (.fptr k xs i j) 1=some (.fptr k xs i (j+1))):=FU (AZ:I4 jA 27 1 1=true)
theorem lD:(∀b i j,BD jA 27 (.ptr b i j) 2=some (.ptr b i (j+2)))∧(∀k xs i j,BD jA 27 (.fptr k xs i j) 2=some (.fptr k xs i (j+2))):=FU (AZ:I4 jA 27 2 2=true)
theorem AOP:(∀b i j,BD jA 27 (.ptr b i j) 3=some (.ptr b i (j+3)))∧(∀k xs i j,BD jA 27 (.fptr k xs i j) 3=some (.fptr k xs i (j+3))):=FU (AZ:I4 jA 27 3 3=true)
theorem lC:(∀b i j,BD jA 27 (.ptr b i j) 4=some (.ptr b i (j+4)))∧(∀k xs i j,BD jA 27 (.fptr k xs i j) 4=some (.fptr k xs i (j+4))):=FU (AZ:I4 jA 27 4 4=true)
theorem QM:∀h a i,EI jA h 28 a i=JM 6 h a i:=FH (AZ:Tryz.prog.underlying 28=some (.slice 82)) ZC
theorem ANE:(∀m k xs,JQ jA 28 (.sl m k xs)=some (.int .i64 xs.length))∧∀b off len,JQ jA 28 (.own b off len)=some (.int .i64 len):=MM (AZ:Tryz.prog.underlying 28=some (.slice 82))
theorem WV:∀h a i,EI jA h 29 a i=JM 3 h a i:=FH (AZ:Tryz.prog.underlying 29=some (.slice 90)) iL
theorem ANC:(∀m k xs,JQ jA 29 (.sl m k xs)=some (.int .i64 xs.length))∧∀b off len,JQ jA 29 (.own b off len)=some (.int .i64 len):=MM (AZ:Tryz.prog.underlying 29=some (.slice 90))
theorem KQ:(∀b i j,BD jA 31 (.ptr b i j) 0=some (.ptr b i (j+0)))∧(∀k xs i j,BD jA 31 (.fptr k xs i j) 0=some (.fptr k xs i (j+0))):=FU (AZ:I4 jA 31 0 0=true)
theorem OW:(∀b i j,BD jA 31 (.ptr b i j) 1=some (.ptr b i (j+1)))∧(∀k xs i j,BD jA 31 (.fptr k xs i j) 1=some (.fptr k xs i (j+1))):=FU (AZ:I4 jA 31 1 1=true)
theorem KJ:∀h a i,EI jA h 32 a i=JM 1 h a i:=FH (AZ:Tryz.prog.underlying 32=some (.slice 3)) sz3
theorem VY:(∀m k xs,JQ jA 32 (.sl m k xs)=some (.int .i64 xs.length))∧∀b off len,JQ jA 32 (.own b off len)=some (.int .i64 len):=MM (AZ:Tryz.prog.underlying 32=some (.slice 3))
theorem fP:Tryz.prog.underlying 32=some (.slice 3):=AZ
theorem AH6:SY jA 3=some 1:=AZ
theorem uN:KR jA 3=some 8:=AZ
theorem AOO:(∀b i j,BD jA 34 (.ptr b i j) 0=some (.ptr b i (j+0)))∧(∀k xs i j,BD jA 34 (.fptr k xs i j) 0=some (.fptr k xs i (j+0))):=FU (AZ:I4 jA 34 0 0=true)
theorem dM:(∀b i j,BD jA 34 (.ptr b i j) 1=some (.ptr b i (j+1)))∧(∀k xs i j,BD jA 34 (.fptr k xs i j) 1=some (.fptr k xs i (j+1))):=FU (AZ:I4 jA 34 1 1=true)
theorem dL:(∀b i j,BD jA 34 (.ptr b i j) 2=some (.ptr b i (j+2)))∧(∀k xs i j,BD jA 34 (.fptr k xs i j) 2=some (.fptr k xs i (j+2))):=FU (AZ:I4 jA 34 2 2=true)
theorem XE:(∀b i j,BD jA 46 (.ptr b i j) 0=some (.ptr b i (j+0)))∧(∀k xs i j,BD jA 46 (.fptr k xs i j) 0=some (.fptr k xs i (j+0))):=FU (AZ:I4 jA 46 0 0=true)
theorem XD:(∀b i j,BD jA 46 (.ptr b i j) 1=some (.ptr b i (j+1)))∧(∀k xs i j,BD jA 46 (.fptr k xs i j) 1=some (.fptr k xs i (j+1))):=FU (AZ:I4 jA 46 1 1=true)
theorem AON:(∀b i j,BD jA 46 (.ptr b i j) 2=some (.ptr b i (j+2)))∧(∀k xs i j,BD jA 46 (.fptr k xs i j) 2=some (.fptr k xs i (j+2))):=FU (AZ:I4 jA 46 2 2=true)
theorem AOM:(∀b i j,BD jA 46 (.ptr b i j) 3=some (.ptr b i (j+3)))∧(∀k xs i j,BD jA 46 (.fptr k xs i j) 3=some (.fptr k xs i (j+3))):=FU (AZ:I4 jA 46 3 3=true)
theorem ANT:∀h a i,EI jA h 49 a i=JM 3 h a i:=FH (AZ:Tryz.prog.underlying 49=some (.slice 34)) fQ
theorem ANB:(∀m k xs,JQ jA 49 (.sl m k xs)=some (.int .i64 xs.length))∧∀b off len,JQ jA 49 (.own b off len)=some (.int .i64 len):=MM (AZ:Tryz.prog.underlying 49=some (.slice 34))
theorem AQW:Tryz.prog.underlying 49=some (.slice 34):=AZ
theorem AQP:SY jA 34=some 3:=AZ
theorem AXL:KR jA 34=some 40:=AZ
theorem XC:(∀b i j,BD jA 79 (.ptr b i j) 0=some (.ptr b i (j+0)))∧(∀k xs i j,BD jA 79 (.fptr k xs i j) 0=some (.fptr k xs i (j+0))):=FU (AZ:I4 jA 79 0 0=true)
theorem tU:(∀b i j,BD jA 79 (.ptr b i j) 1=some (.ptr b i (j+1)))∧(∀k xs i j,BD jA 79 (.fptr k xs i j) 1=some (.fptr k xs i (j+1))):=FU (AZ:I4 jA 79 1 1=true)
theorem lB:(∀b i j,BD jA 79 (.ptr b i j) 2=some (.ptr b i (j+2)))∧(∀k xs i j,BD jA 79 (.fptr k xs i j) 2=some (.fptr k xs i (j+2))):=FU (AZ:I4 jA 79 2 2=true)
theorem ZX:(∀b i j,BD jA 79 (.ptr b i j) 3=some (.ptr b i (j+3)))∧(∀k xs i j,BD jA 79 (.fptr k xs i j) 3=some (.fptr k xs i (j+3))):=FU (AZ:I4 jA 79 3 3=true)
theorem WU:∀h a i,EI jA h 80 a i=JM 4 h a i:=FH (AZ:Tryz.prog.underlying 80=some (.slice 87)) ZB
theorem ZN:(∀m k xs,JQ jA 80 (.sl m k xs)=some (.int .i64 xs.length))∧∀b off len,JQ jA 80 (.own b off len)=some (.int .i64 len):=MM (AZ:Tryz.prog.underlying 80=some (.slice 87))
theorem tR:(∀b i j,BD jA 82 (.ptr b i j) 0=some (.ptr b i (j+0)))∧(∀k xs i j,BD jA 82 (.fptr k xs i j) 0=some (.fptr k xs i (j+0))):=FU (AZ:I4 jA 82 0 0=true)
theorem dK:(∀b i j,BD jA 82 (.ptr b i j) 1=some (.ptr b i (j+1)))∧(∀k xs i j,BD jA 82 (.fptr k xs i j) 1=some (.fptr k xs i (j+1))):=FU (AZ:I4 jA 82 1 1=true)
theorem JV:(∀b i j,BD jA 82 (.ptr b i j) 2=some (.ptr b i (j+5)))∧(∀k xs i j,BD jA 82 (.fptr k xs i j) 2=some (.fptr k xs i (j+5))):=FU (AZ:I4 jA 82 2 5=true)
theorem YM:∀h a i,EI jA h 84 a i=JM 2 h a i:=FH (AZ:Tryz.prog.underlying 84=some (.slice 145)) MJ
theorem kO:(∀m k xs,JQ jA 84 (.sl m k xs)=some (.int .i64 xs.length))∧∀b off len,JQ jA 84 (.own b off len)=some (.int .i64 len):=MM (AZ:Tryz.prog.underlying 84=some (.slice 145))
theorem ZA:Tryz.prog.underlying 84=some (.slice 145):=AZ
theorem ALD:SY jA 145=some 2:=AZ
theorem APC:KR jA 145=some 16:=AZ
theorem sY:∀h a i,EI jA h 85 a i=JM 1 h a i:=FH (AZ:Tryz.prog.underlying 85=some (.slice 84)) AYE
theorem AZC:(∀m k xs,JQ jA 85 (.sl m k xs)=some (.int .i64 xs.length))∧∀b off len,JQ jA 85 (.own b off len)=some (.int .i64 len):=MM (AZ:Tryz.prog.underlying 85=some (.slice 84))
theorem tQ:(∀b i j,BD jA 87 (.ptr b i j) 0=some (.ptr b i (j+0)))∧(∀k xs i j,BD jA 87 (.fptr k xs i j) 0=some (.fptr k xs i (j+0))):=FU (AZ:I4 jA 87 0 0=true)
theorem VE:(∀b i j,BD jA 87 (.ptr b i j) 1=some (.ptr b i (j+1)))∧(∀k xs i j,BD jA 87 (.fptr k xs i j) 1=some (.fptr k xs i (j+1))):=FU (AZ:I4 jA 87 1 1=true)
theorem AD6:(∀b i j,BD jA 87 (.ptr b i j) 2=some (.ptr b i (j+2)))∧(∀k xs i j,BD jA 87 (.fptr k xs i j) 2=some (.fptr k xs i (j+2))):=FU (AZ:I4 jA 87 2 2=true)
theorem tP:(∀b i j,BD jA 87 (.ptr b i j) 3=some (.ptr b i (j+3)))∧(∀k xs i j,BD jA 87 (.fptr k xs i j) 3=some (.fptr k xs i (j+3))):=FU (AZ:I4 jA 87 3 3=true)
theorem tO:(∀b i j,BD jA 90 (.ptr b i j) 0=some (.ptr b i (j+0)))∧(∀k xs i j,BD jA 90 (.fptr k xs i j) 0=some (.fptr k xs i (j+0))):=FU (AZ:I4 jA 90 0 0=true)
theorem OA:(∀b i j,BD jA 90 (.ptr b i j) 1=some (.ptr b i (j+1)))∧(∀k xs i j,BD jA 90 (.fptr k xs i j) 1=some (.fptr k xs i (j+1))):=FU (AZ:I4 jA 90 1 1=true)
theorem dJ:(∀b i j,BD jA 90 (.ptr b i j) 2=some (.ptr b i (j+2)))∧(∀k xs i j,BD jA 90 (.fptr k xs i j) 2=some (.fptr k xs i (j+2))):=FU (AZ:I4 jA 90 2 2=true)
theorem AOL:(∀b i j,BD jA 94 (.ptr b i j) 0=some (.ptr b i (j+0)))∧(∀k xs i j,BD jA 94 (.fptr k xs i j) 0=some (.fptr k xs i (j+0))):=FU (AZ:I4 jA 94 0 0=true)
theorem AGS:∀h a i,EI jA h 100 a i=JM 1 h a i:=FH (AZ:Tryz.prog.underlying 100=some (.slice 23)) AIJ
theorem eV:(∀m k xs,JQ jA 100 (.sl m k xs)=some (.int .i64 xs.length))∧∀b off len,JQ jA 100 (.own b off len)=some (.int .i64 len):=MM (AZ:Tryz.prog.underlying 100=some (.slice 23))
theorem ALW:Tryz.prog.underlying 100=some (.slice 23):=AZ
theorem AUG:SY jA 23=some 1:=AZ
theorem APF:KR jA 23=some 24:=AZ
theorem AZR:∀h a i,EI jA h 115 a i=JM 4 h a i:=FH (AZ:Tryz.prog.underlying 115=some (.slice 118)) eP
theorem AZH:(∀m k xs,JQ jA 115 (.sl m k xs)=some (.int .i64 xs.length))∧∀b off len,JQ jA 115 (.own b off len)=some (.int .i64 len):=MM (AZ:Tryz.prog.underlying 115=some (.slice 118))
theorem AFQ:Tryz.prog.underlying 115=some (.slice 118):=AZ
theorem AFE:SY jA 118=some 4:=AZ
theorem APE:KR jA 118=some 48:=AZ
theorem gZ:(∀b i j,BD jA 118 (.ptr b i j) 0=some (.ptr b i (j+0)))∧(∀k xs i j,BD jA 118 (.fptr k xs i j) 0=some (.fptr k xs i (j+0))):=FU (AZ:I4 jA 118 0 0=true)
theorem AHC:(∀b i j,BD jA 118 (.ptr b i j) 1=some (.ptr b i (j+3)))∧(∀k xs i j,BD jA 118 (.fptr k xs i j) 1=some (.fptr k xs i (j+3))):=FU (AZ:I4 jA 118 1 3=true)
theorem ANV:∀h a i,EI jA h 120 a i=JM 4 h a i:=FH (AZ:Tryz.prog.underlying 120=some (.slice 240)) AFT
theorem yV:(∀m k xs,JQ jA 120 (.sl m k xs)=some (.int .i64 xs.length))∧∀b off len,JQ jA 120 (.own b off len)=some (.int .i64 len):=MM (AZ:Tryz.prog.underlying 120=some (.slice 240))
theorem Y0:∀h a i,EI jA h 121 a i=JM 1 h a i:=FH (AZ:Tryz.prog.underlying 121=some (.slice 9)) sz9
theorem AUO:(∀m k xs,JQ jA 121 (.sl m k xs)=some (.int .i64 xs.length))∧∀b off len,JQ jA 121 (.own b off len)=some (.int .i64 len):=MM (AZ:Tryz.prog.underlying 121=some (.slice 9))
theorem ALV:Tryz.prog.underlying 121=some (.slice 9):=AZ
theorem ALE:SY jA 9=some 1:=AZ
theorem APD:KR jA 9=some 16:=AZ
theorem YG:(∀b i j,BD jA 131 (.ptr b i j) 0=some (.ptr b i (j+0)))∧(∀k xs i j,BD jA 131 (.fptr k xs i j) 0=some (.fptr k xs i (j+0))):=FU (AZ:I4 jA 131 0 0=true)
theorem VJ:(∀b i j,BD jA 131 (.ptr b i j) 1=some (.ptr b i (j+1)))∧(∀k xs i j,BD jA 131 (.fptr k xs i j) 1=some (.fptr k xs i (j+1))):=FU (AZ:I4 jA 131 1 1=true)
theorem VI:(∀b i j,BD jA 131 (.ptr b i j) 2=some (.ptr b i (j+2)))∧(∀k xs i j,BD jA 131 (.fptr k xs i j) 2=some (.fptr k xs i (j+2))):=FU (AZ:I4 jA 131 2 2=true)
theorem YF:(∀b i j,BD jA 131 (.ptr b i j) 3=some (.ptr b i (j+3)))∧(∀k xs i j,BD jA 131 (.fptr k xs i j) 3=some (.fptr k xs i (j+3))):=FU (AZ:I4 jA 131 3 3=true)
theorem AUW:∀h a i,EI jA h 137 a i=JM 2 h a i:=FH (AZ:Tryz.prog.underlying 137=some (.slice 209)) AL0
theorem AZG:(∀m k xs,JQ jA 137 (.sl m k xs)=some (.int .i64 xs.length))∧∀b off len,JQ jA 137 (.own b off len)=some (.int .i64 len):=MM (AZ:Tryz.prog.underlying 137=some (.slice 209))
theorem AYD:Tryz.prog.underlying 137=some (.slice 209):=AZ
theorem AX0:SY jA 209=some 2:=AZ
theorem A0T:KR jA 209=some 24:=AZ
theorem uA:(∀b i j,BD jA 140 (.ptr b i j) 0=some (.ptr b i (j+0)))∧(∀k xs i j,BD jA 140 (.fptr k xs i j) 0=some (.fptr k xs i (j+0))):=FU (AZ:I4 jA 140 0 0=true)
theorem tZ:(∀b i j,BD jA 140 (.ptr b i j) 1=some (.ptr b i (j+1)))∧(∀k xs i j,BD jA 140 (.fptr k xs i j) 1=some (.fptr k xs i (j+1))):=FU (AZ:I4 jA 140 1 1=true)
theorem VH:(∀b i j,BD jA 145 (.ptr b i j) 0=some (.ptr b i (j+0)))∧(∀k xs i j,BD jA 145 (.fptr k xs i j) 0=some (.fptr k xs i (j+0))):=FU (AZ:I4 jA 145 0 0=true)
theorem VG:(∀b i j,BD jA 145 (.ptr b i j) 1=some (.ptr b i (j+1)))∧(∀k xs i j,BD jA 145 (.fptr k xs i j) 1=some (.fptr k xs i (j+1))):=FU (AZ:I4 jA 145 1 1=true)
theorem AUU:∀h a i,EI jA h 159 a i=JM 1 h a i:=FH (AZ:Tryz.prog.underlying 159=some (.slice 100)) AUL
theorem AUN:(∀m k xs,JQ jA 159 (.sl m k xs)=some (.int .i64 xs.length))∧∀b off len,JQ jA 159 (.own b off len)=some (.int .i64 len):=MM (AZ:Tryz.prog.underlying 159=some (.slice 100))
theorem AYC:Tryz.prog.underlying 159=some (.slice 100):=AZ
theorem AXZ:SY jA 100=some 1:=AZ
theorem A0S:KR jA 100=some 24:=AZ
theorem ASY:(∀b i j,BD jA 209 (.ptr b i j) 0=some (.ptr b i (j+0)))∧(∀k xs i j,BD jA 209 (.fptr k xs i j) 0=some (.fptr k xs i (j+0))):=FU (AZ:I4 jA 209 0 0=true)
theorem AHB:(∀b i j,BD jA 209 (.ptr b i j) 1=some (.ptr b i (j+1)))∧(∀k xs i j,BD jA 209 (.fptr k xs i j) 1=some (.fptr k xs i (j+1))):=FU (AZ:I4 jA 209 1 1=true)
theorem AZP:∀h a i,EI jA h 212 a i=JM 1 h a i:=FH (AZ:Tryz.prog.underlying 212=some (.slice 150)) AYF
theorem AZF:(∀m k xs,JQ jA 212 (.sl m k xs)=some (.int .i64 xs.length))∧∀b off len,JQ jA 212 (.own b off len)=some (.int .i64 len):=MM (AZ:Tryz.prog.underlying 212=some (.slice 150))
theorem ANU:∀h a i,EI jA h 221 a i=JM 1 h a i:=FH (AZ:Tryz.prog.underlying 221=some (.slice 4)) sz4
theorem AYB:Tryz.prog.underlying 221=some (.slice 4):=AZ
theorem A0R:KR jA 4=some 1:=AZ
theorem AHA:(∀b i j,BD jA 233 (.ptr b i j) 0=some (.ptr b i (j+0)))∧(∀k xs i j,BD jA 233 (.fptr k xs i j) 0=some (.fptr k xs i (j+0))):=FU (AZ:I4 jA 233 0 0=true)
theorem AG9:(∀b i j,BD jA 235 (.ptr b i j) 0=some (.ptr b i (j+0)))∧(∀k xs i j,BD jA 235 (.fptr k xs i j) 0=some (.fptr k xs i (j+0))):=FU (AZ:I4 jA 235 0 0=true)
theorem AG8:(∀b i j,BD jA 235 (.ptr b i j) 1=some (.ptr b i (j+1)))∧(∀k xs i j,BD jA 235 (.fptr k xs i j) 1=some (.fptr k xs i (j+1))):=FU (AZ:I4 jA 235 1 1=true)
theorem bN:(∀b i j,BD jA 240 (.ptr b i j) 0=some (.ptr b i (j+0)))∧(∀k xs i j,BD jA 240 (.fptr k xs i j) 0=some (.fptr k xs i (j+0))):=FU (AZ:I4 jA 240 0 0=true)
theorem gY:(∀b i j,BD jA 240 (.ptr b i j) 1=some (.ptr b i (j+1)))∧(∀k xs i j,BD jA 240 (.fptr k xs i j) 1=some (.fptr k xs i (j+1))):=FU (AZ:I4 jA 240 1 1=true)
theorem bM:(∀b i j,BD jA 240 (.ptr b i j) 2=some (.ptr b i (j+2)))∧(∀k xs i j,BD jA 240 (.fptr k xs i j) 2=some (.fptr k xs i (j+2))):=FU (AZ:I4 jA 240 2 2=true)
theorem tY:(∀b i j,BD jA 249 (.ptr b i j) 0=some (.ptr b i (j+0)))∧(∀k xs i j,BD jA 249 (.fptr k xs i j) 0=some (.fptr k xs i (j+0))):=FU (AZ:I4 jA 249 0 0=true)
theorem ASX:(∀b i j,BD jA 249 (.ptr b i j) 1=some (.ptr b i (j+5)))∧(∀k xs i j,BD jA 249 (.fptr k xs i j) 1=some (.fptr k xs i (j+5))):=FU (AZ:I4 jA 249 1 5=true)
theorem VF:(∀b i j,BD jA 249 (.ptr b i j) 2=some (.ptr b i (j+6)))∧(∀k xs i j,BD jA 249 (.fptr k xs i j) 2=some (.fptr k xs i (j+6))):=FU (AZ:I4 jA 249 2 6=true)
theorem gX:(∀b i j,BD jA 249 (.ptr b i j) 3=some (.ptr b i (j+7)))∧(∀k xs i j,BD jA 249 (.fptr k xs i j) 3=some (.fptr k xs i (j+7))):=FU (AZ:I4 jA 249 3 7=true)
theorem ASW:(∀b i j,BD jA 249 (.ptr b i j) 4=some (.ptr b i (j+8)))∧(∀k xs i j,BD jA 249 (.fptr k xs i j) 4=some (.fptr k xs i (j+8))):=FU (AZ:I4 jA 249 4 8=true)
theorem AG7:(∀b i j,BD jA 263 (.ptr b i j) 0=some (.ptr b i (j+0)))∧(∀k xs i j,BD jA 263 (.fptr k xs i j) 0=some (.fptr k xs i (j+0))):=FU (AZ:I4 jA 263 0 0=true)
theorem tX:(∀b i j,BD jA 263 (.ptr b i j) 1=some (.ptr b i (j+1)))∧(∀k xs i j,BD jA 263 (.fptr k xs i j) 1=some (.fptr k xs i (j+1))):=FU (AZ:I4 jA 263 1 1=true)
theorem bL:(∀b i j,BD jA 263 (.ptr b i j) 2=some (.ptr b i (j+2)))∧(∀k xs i j,BD jA 263 (.fptr k xs i j) 2=some (.fptr k xs i (j+2))):=FU (AZ:I4 jA 263 2 2=true)
theorem AG6:(∀b i j,BD jA 263 (.ptr b i j) 3=some (.ptr b i (j+3)))∧(∀k xs i j,BD jA 263 (.fptr k xs i j) 3=some (.fptr k xs i (j+3))):=FU (AZ:I4 jA 263 3 3=true)
theorem tW:(∀b i j,BD jA 263 (.ptr b i j) 4=some (.ptr b i (j+4)))∧(∀k xs i j,BD jA 263 (.fptr k xs i j) 4=some (.fptr k xs i (j+4))):=FU (AZ:I4 jA 263 4 4=true)
theorem ASV:(∀b i j,BD jA 277 (.ptr b i j) 0=some (.ptr b i (j+0)))∧(∀k xs i j,BD jA 277 (.fptr k xs i j) 0=some (.fptr k xs i (j+0))):=FU (AZ:I4 jA 277 0 0=true)
theorem AU5:∀n,XP jA 3 5 (.int .i64 n)=some (.int .u8 (IntKind.u8.wrap n)):=fun n=>bY (ds:=.int .i64) jA .i64 n AZ AZ
theorem AS7:∀n,XP jA 3 348 (.int .i64 n)=some (.int .u16 (IntKind.u16.wrap n)):=fun n=>bY (ds:=.int .i64) jA .i64 n AZ AZ
theorem AO5:∀n,XP jA 5 3 (.int .u8 n)=some (.int .i64 (IntKind.i64.wrap n)):=fun n=>bY (ds:=.int .u8) jA .u8 n AZ AZ
theorem AS8:∀n,XP jA 348 3 (.int .u16 n)=some (.int .i64 (IntKind.i64.wrap n)):=fun n=>bY (ds:=.int .u16) jA .u16 n AZ AZ
noncomputable def En (G:Nat->AV):Env:=⟨jA,G,none,fun _ _=>False⟩
theorem enP:(En G).P=jA:=rfl
theorem enX:(En G).nox=En G:=rfl
theorem enG:(En G).G=G:=rfl
theorem enM:(En G).P.follows .mixedOrders=true:=AZ

abbrev AV.n (z:Int):AV:=.int .i64 z
theorem Mr_L:type_of% (And.intro @AU (And.intro @jD.{0} (And.intro @BF (And.intro @BC (And.intro @jE (And.intro @BR (And.intro @BX (And.intro @BI (And.intro @BA (And.intro @BU (And.intro @BK (And.intro @CP (And.intro @BM (And.intro @Y (And.intro @enP (And.intro @CE (And.intro @BZ (And.intro @CV (And.intro @CU (And.intro @DF (And.intro @DZ (And.intro @BN (And.intro @DT (And.intro @FN (And.intro @EN (And.intro @NH (And.intro @EM (And.intro @CB (And.intro @jM.{0,0} (And.intro @jK.{0,0} (And.intro @jO.{0} (And.intro @EC (And.intro @BJ (And.intro @D7 (And.intro @D8 (And.intro @EU (And.intro @DR (And.intro @BQ (And.intro @N7 (And.intro @FQ (And.intro @jG (And.intro @CO (And.intro @H8 (And.intro @GK (And.intro @G6 (And.intro @NK (And.intro @AA (And.intro @LG (And.intro @IV (And.intro @JC (And.intro @G5 (And.intro @NY (And.intro @rC (And.intro @GU (And.intro @UI (And.intro @Y5 (And.intro @jV (And.intro @iP (And.intro @KC (And.intro @xL (And.intro @KG (And.intro @EE (And.intro @jQ.{0} (And.intro @DV (And.intro @enX (And.intro @CS (And.intro @JH (And.intro @ET (And.intro @EW (And.intro @JO (And.intro @TY (And.intro @AMJ (And.intro @FX (And.intro @D5 (And.intro @IX (And.intro @zY (And.intro @rU (And.intro @LC (And.intro @cQ (And.intro @GM (And.intro @cM (And.intro @KD (And.intro @FB (And.intro @qV (And.intro @Z9 (And.intro @FO (And.intro @EK (And.intro @JE (And.intro @GH (And.intro @qI (And.intro @RD (And.intro @KJ (And.intro @AZB (And.intro @DY (And.intro @LM (And.intro @VY (And.intro @TW (And.intro @SC (And.intro @DL (And.intro @JX (And.intro @List.getElem?_cons_zero.{0} (And.intro @bP (And.intro @List.getElem?_cons_succ.{0} (And.intro @AD8 (And.intro @JJ (And.intro @AWK (And.intro @cL (And.intro @XC (And.intro @P9 (And.intro @IM (And.intro @KI (And.intro @LP (And.intro @KF (And.intro @KQ (And.intro @NW (And.intro @Q3 (And.intro @eD (And.intro @LQ (And.intro @JV (And.intro @ZX (And.intro @OW (And.intro @ANF (And.intro @lB (And.intro @PK (And.intro @kO (And.intro @OA (And.intro @VZ (And.intro @qA.{0} (And.intro @cB (And.intro @IL (And.intro @aZ (And.intro @UT (And.intro @QM (And.intro @tV (And.intro @P8 (And.intro @ANE (And.intro @PG (And.intro @ZN (And.intro @PO (And.intro @WV (And.intro @KX (And.intro @dE (And.intro @AOV (And.intro @ALA (And.intro @XR (And.intro @dM (And.intro @AZE (And.intro @VJ (And.intro @YM (And.intro @UR (And.intro @ANC (And.intro @AM7 (And.intro @Y7 (And.intro @WU (And.intro @ADS (And.intro @OO (And.intro @cO (And.intro @dL (And.intro @AZC (And.intro @VE (And.intro @VG (And.intro @tP (And.intro @cA (And.intro @VI (And.intro @AQI (And.intro @YG (And.intro @VH (And.intro @V7 (And.intro @AD6 (And.intro @tU (And.intro @XD (And.intro @AGS (And.intro @AFH (And.intro @ALM (And.intro @ADN (And.intro @XE (And.intro @bN (And.intro @tZ (And.intro @AUO (And.intro @ACG (And.intro @dJ (And.intro @AT9 (And.intro @AJW (And.intro @eV (And.intro @ALH (And.intro @AOO (And.intro @ln9 (And.intro @gY (And.intro @sY (And.intro @UQ (And.intro @dK (And.intro @AOP (And.intro @aJ (And.intro @ANB (And.intro @Y0 (And.intro @ACJ (And.intro @AZD (And.intro @YF (And.intro @uA (@jL.{0,0})))))))))))))))))))))))))))))))))))))))))))))))))))))))))))))))))))))))))))))))))))))))))))))))))))))))))))))))))))))))))))))))))))))))))))))))))))))))))))))))))))))))))))))))))))))))))))))))))))))))):=And.intro @AU (And.intro @jD.{0} (And.intro @BF (And.intro @BC (And.intro @jE (And.intro @BR (And.intro @BX (And.intro @BI (And.intro @BA (And.intro @BU (And.intro @BK (And.intro @CP (And.intro @BM (And.intro @Y (And.intro @enP (And.intro @CE (And.intro @BZ (And.intro @CV (And.intro @CU (And.intro @DF (And.intro @DZ (And.intro @BN (And.intro @DT (And.intro @FN (And.intro @EN (And.intro @NH (And.intro @EM (And.intro @CB (And.intro @jM.{0,0} (And.intro @jK.{0,0} (And.intro @jO.{0} (And.intro @EC (And.intro @BJ (And.intro @D7 (And.intro @D8 (And.intro @EU (And.intro @DR (And.intro @BQ (And.intro @N7 (And.intro @FQ (And.intro @jG (And.intro @CO (And.intro @H8 (And.intro @GK (And.intro @G6 (And.intro @NK (And.intro @AA (And.intro @LG (And.intro @IV (And.intro @JC (And.intro @G5 (And.intro @NY (And.intro @rC (And.intro @GU (And.intro @UI (And.intro @Y5 (And.intro @jV (And.intro @iP (And.intro @KC (And.intro @xL (And.intro @KG (And.intro @EE (And.intro @jQ.{0} (And.intro @DV (And.intro @enX (And.intro @CS (And.intro @JH (And.intro @ET (And.intro @EW (And.intro @JO (And.intro @TY (And.intro @AMJ (And.intro @FX (And.intro @D5 (And.intro @IX (And.intro @zY (And.intro @rU (And.intro @LC (And.intro @cQ (And.intro @GM (And.intro @cM (And.intro @KD (And.intro @FB (And.intro @qV (And.intro @Z9 (And.intro @FO (And.intro @EK (And.intro @JE (And.intro @GH (And.intro @qI (And.intro @RD (And.intro @KJ (And.intro @AZB (And.intro @DY (And.intro @LM (And.intro @VY (And.intro @TW (And.intro @SC (And.intro @DL (And.intro @JX (And.intro @List.getElem?_cons_zero.{0} (And.intro @bP (And.intro @List.getElem?_cons_succ.{0} (And.intro @AD8 (And.intro @JJ (And.intro @AWK (And.intro @cL (And.intro @XC (And.intro @P9 (And.intro @IM (And.intro @KI (And.intro @LP (And.intro @KF (And.intro @KQ (And.intro @NW (And.intro @Q3 (And.intro @eD (And.intro @LQ (And.intro @JV (And.intro @ZX (And.intro @OW (And.intro @ANF (And.intro @lB (And.intro @PK (And.intro @kO (And.intro @OA (And.intro @VZ (And.intro @qA.{0} (And.intro @cB (And.intro @IL (And.intro @aZ (And.intro @UT (And.intro @QM (And.intro @tV (And.intro @P8 (And.intro @ANE (And.intro @PG (And.intro @ZN (And.intro @PO (And.intro @WV (And.intro @KX (And.intro @dE (And.intro @AOV (And.intro @ALA (And.intro @XR (And.intro @dM (And.intro @AZE (And.intro @VJ (And.intro @YM (And.intro @UR (And.intro @ANC (And.intro @AM7 (And.intro @Y7 (And.intro @WU (And.intro @ADS (And.intro @OO (And.intro @cO (And.intro @dL (And.intro @AZC (And.intro @VE (And.intro @VG (And.intro @tP (And.intro @cA (And.intro @VI (And.intro @AQI (And.intro @YG (And.intro @VH (And.intro @V7 (And.intro @AD6 (And.intro @tU (And.intro @XD (And.intro @AGS (And.intro @AFH (And.intro @ALM (And.intro @ADN (And.intro @XE (And.intro @bN (And.intro @tZ (And.intro @AUO (And.intro @ACG (And.intro @dJ (And.intro @AT9 (And.intro @AJW (And.intro @eV (And.intro @ALH (And.intro @AOO (And.intro @ln9 (And.intro @gY (And.intro @sY (And.intro @UQ (And.intro @dK (And.intro @AOP (And.intro @aJ (And.intro @ANB (And.intro @Y0 (And.intro @ACJ (And.intro @AZD (And.intro @YF (And.intro @uA (@jL.{0,0})))))))))))))))))))))))))))))))))))))))))))))))))))))))))))))))))))))))))))))))))))))))))))))))))))))))))))))))))))))))))))))))))))))))))))))))))))))))))))))))))))))))))))))))))))))))))))))))))))))))
theorem acN {args:List AV}{R:AV->Hp->Prop}(hf:E.P.funcs[f]?=some fn)(hb:fn.body=some c)(hw:awp E Hint.none c (NS args) h (NU E.P fn.results.toList R))(h0:E.P.follows .mixedOrders=true:=by kernel_rfl)(h1:(fn.name == "runtime.NumGoroutine")=false:=by kernel_rfl)(h2:QV fn.ntmps c=true:=by kernel_rfl)(h3:Nat.ble args.length fn.ntmps=true:=by kernel_rfl):ACalls E f args h R:=J7 h0 hf hb h1 h2 (Nat.le_of_ble_eq_true h3) hw
theorem acT {args:List AV}{R:AV->Hp->Prop}(hf:E.P.funcs[f]?=some fn)(r:Nat)(hw:awp E Hint.none c (NS args) h (NU E.P [.tmp r] R))(hb:fn.body=some c:=by rfl)(hr:fn.results.toList=[.tmp r]:=by rfl)(h0:E.P.follows .mixedOrders=true:=by kernel_rfl)(h1:(fn.name == "runtime.NumGoroutine")=false:=by kernel_rfl)(h2:QV fn.ntmps c=true:=by kernel_rfl)(h3:Nat.ble args.length fn.ntmps=true:=by kernel_rfl):ACalls E f args h R:=acN hf hb (by rw[hr]; exact hw) h0 h1 h2 h3
theorem acL {args:List AV}{R:AV->Hp->Prop}(hf:E.P.funcs[f]?=some fn)(r:List ResultVar)(hw:awp E Hint.none c (NS args) h (NU E.P r R))(hb:fn.body=some c:=by rfl)(hr:fn.results.toList=r:=by rfl)(h0:E.P.follows .mixedOrders=true:=by kernel_rfl)(h1:(fn.name == "runtime.NumGoroutine")=false:=by kernel_rfl)(h2:QV fn.ntmps c=true:=by kernel_rfl)(h3:Nat.ble args.length fn.ntmps=true:=by kernel_rfl):ACalls E f args h R:=acN hf hb (by rw[hr]; exact hw) h0 h1 h2 h3
end Go.Proofs.YtiihpnicbekebaaGreatDoor.Sm
namespace Go.Proofs.YtiihpnicbekebaaGreatDoor
open Sm
variable {a b c d p q:Prop}
theorem CW (i:Nat)(h:i<9223372036854775807:=by omega):Go.IntKind.i64.wrap ((i:Int)+1)=((i+1:Nat):Int):=Sm.wrap_succ h
theorem Z (hp:p)(h:p->q:=by intro z; simp -implicitDefEqProofs only[Sm.Mr_L,CJ,ED,List.contains_nil,FM,List.contains_cons,List.cons_append,Option.map_some,Option.map_none,Bool.or_true,Bool.true_or,↓reduceIte,Nat.reduceEqDiff,Nat.reduceBEq,Nat.reduceAdd]; exact z):q:=h hp
theorem AC (h:q:=by simp -implicitDefEqProofs only[Sm.Mr_L,CJ,ED,List.contains_nil,FM,List.contains_cons,List.cons_append,Option.map_some,Option.map_none,Bool.or_true,Bool.true_or,↓reduceIte,Nat.reduceEqDiff,Nat.reduceBEq,Nat.reduceAdd]<;>rfl):q:=h
theorem AO (y:a)(hp:p)(h:a->p->q:=by intro y z; simp -implicitDefEqProofs only[Sm.Mr_L,CJ,ED,List.contains_nil,FM,List.contains_cons,List.cons_append,Option.map_some,Option.map_none,Bool.or_true,Bool.true_or,↓reduceIte,Nat.reduceEqDiff,Nat.reduceBEq,Nat.reduceAdd,y]; exact z):q:=h y hp
theorem DW (y:a)(h:a->q:=by intro y; simp -implicitDefEqProofs only[Sm.Mr_L,CJ,ED,List.contains_nil,FM,List.contains_cons,List.cons_append,Option.map_some,Option.map_none,Bool.or_true,Bool.true_or,↓reduceIte,Nat.reduceEqDiff,Nat.reduceBEq,Nat.reduceAdd,y]<;>rfl):q:=h y
theorem AQ (y:a)(x:b)(hp:p)(h:a->b->p->q:=by intro y x z; simp -implicitDefEqProofs only[Sm.Mr_L,CJ,ED,List.contains_nil,FM,List.contains_cons,List.cons_append,Option.map_some,Option.map_none,Bool.or_true,Bool.true_or,↓reduceIte,Nat.reduceEqDiff,Nat.reduceBEq,Nat.reduceAdd,y,x]; exact z):q:=h y x hp
theorem DI (y:a)(x:b)(w:c)(hp:p)(h:a->b->c->p->q:=by intro y x w z; simp -implicitDefEqProofs only[Sm.Mr_L,CJ,ED,List.contains_nil,FM,List.contains_cons,List.cons_append,Option.map_some,Option.map_none,Bool.or_true,Bool.true_or,↓reduceIte,Nat.reduceEqDiff,Nat.reduceBEq,Nat.reduceAdd,y,x,w]; exact z):q:=h y x w hp
theorem EO (y:a)(x:b)(w:c)(v:d)(hp:p)(h:a->b->c->d->p->q:=by intro y x w v z; simp -implicitDefEqProofs only[Sm.Mr_L,CJ,ED,List.contains_nil,FM,List.contains_cons,List.cons_append,Option.map_some,Option.map_none,Bool.or_true,Bool.true_or,↓reduceIte,Nat.reduceEqDiff,Nat.reduceBEq,Nat.reduceAdd,y,x,w,v]; exact z):q:=h y x w v hp
theorem JL {e:Prop}(y:a)(x:b)(w:c)(v:d)(u:e)(hp:p)(h:a->b->c->d->e->p->q:=by intro y x w v u z; simp -implicitDefEqProofs only[Sm.Mr_L,CJ,ED,List.contains_nil,FM,List.contains_cons,List.cons_append,Option.map_some,Option.map_none,Bool.or_true,Bool.true_or,↓reduceIte,Nat.reduceEqDiff,Nat.reduceBEq,Nat.reduceAdd,y,x,w,v,u]; exact z):q:=h y x w v u hp
theorem MR {e f:Prop}(y:a)(x:b)(w:c)(v:d)(u:e)(t:f)(hp:p)(h:a->b->c->d->e->f->p->q:=by intro y x w v u t z; simp -implicitDefEqProofs only[Sm.Mr_L,CJ,ED,List.contains_nil,FM,List.contains_cons,List.cons_append,Option.map_some,Option.map_none,Bool.or_true,Bool.true_or,↓reduceIte,Nat.reduceEqDiff,Nat.reduceBEq,Nat.reduceAdd,y,x,w,v,u,t]; exact z):q:=h y x w v u t hp
theorem Sm.PCall.uu {E:Env}{f:FuncId}{args:List AV}{h:Hp}{r:AV}{K:AV->Hp->Prop}(hc:PCall E f args h r)(hp:p)(hk:p->K r h:=by intro z; simp -implicitDefEqProofs only[Sm.Mr_L,CJ,ED,List.contains_nil,FM,List.contains_cons,List.cons_append,Option.map_some,Option.map_none,Bool.or_true,Bool.true_or,↓reduceIte,Nat.reduceEqDiff,Nat.reduceBEq,Nat.reduceAdd]; exact z):ACalls E f args h K:=hc.use (hk hp)
end Go.Proofs.YtiihpnicbekebaaGreatDoor
namespace Go.Proofs.YtiihpnicbekebaaGreatDoor
open Sm
variable {a a1 b b1 c c1 d e f p q:Prop}
theorem XQ (hp:p)(h:p->q:=by intro z; simp -implicitDefEqProofs only[Sm.Mr_L,CJ,ED,List.contains_nil,FM,List.contains_cons,List.cons_append,Option.map_some,Option.map_none,Bool.or_true,Bool.true_or,CG,BP,D6,ag3,ag9,OB,QX,VM,L6,List.length_nil,↓reduceIte,Nat.reduceEqDiff,Nat.reduceBEq,Nat.reduceAdd,Int.reduceBEq]; exact z):q:=h hp
theorem TM (y:a)(hp:p)(h:a->p->q:=by intro y z; simp -implicitDefEqProofs only[Sm.Mr_L,CJ,ED,List.contains_nil,FM,List.contains_cons,List.cons_append,Option.map_some,Option.map_none,Bool.or_true,Bool.true_or,CG,BP,D6,ag3,ag9,OB,QX,VM,L6,List.length_nil,↓reduceIte,Nat.reduceEqDiff,Nat.reduceBEq,Nat.reduceAdd,Int.reduceBEq,y]; exact z):q:=h y hp
theorem J3 (y:a)(x:b)(hp:p)(h:a->b->p->q:=by intro y x z; simp -implicitDefEqProofs only[Sm.Mr_L,CJ,ED,List.contains_nil,FM,List.contains_cons,List.cons_append,Option.map_some,Option.map_none,Bool.or_true,Bool.true_or,CG,BP,D6,ag3,ag9,OB,QX,VM,L6,List.length_nil,↓reduceIte,Nat.reduceEqDiff,Nat.reduceBEq,Nat.reduceAdd,Int.reduceBEq,y,x]; exact z):q:=h y x hp
theorem JZ (y:a)(x:b)(w:c)(hp:p)(h:a->b->c->p->q:=by intro y x w z; simp -implicitDefEqProofs only[Sm.Mr_L,CJ,ED,List.contains_nil,FM,List.contains_cons,List.cons_append,Option.map_some,Option.map_none,Bool.or_true,Bool.true_or,CG,BP,D6,ag3,ag9,OB,QX,VM,L6,List.length_nil,↓reduceIte,Nat.reduceEqDiff,Nat.reduceBEq,Nat.reduceAdd,Int.reduceBEq,y,x,w]; exact z):q:=h y x w hp
theorem OQ (y:a)(x:b)(w:c)(v:d)(hp:p)(h:a->b->c->d->p->q:=by intro y x w v z; simp -implicitDefEqProofs only[Sm.Mr_L,CJ,ED,List.contains_nil,FM,List.contains_cons,List.cons_append,Option.map_some,Option.map_none,Bool.or_true,Bool.true_or,CG,BP,D6,ag3,ag9,OB,QX,VM,L6,List.length_nil,↓reduceIte,Nat.reduceEqDiff,Nat.reduceBEq,Nat.reduceAdd,Int.reduceBEq,y,x,w,v]; exact z):q:=h y x w v hp
theorem Y6 (y:a)(x:b)(w:c)(v:d)(u:e)(hp:p)(h:a->b->c->d->e->p->q:=by intro y x w v u z; simp -implicitDefEqProofs only[Sm.Mr_L,CJ,ED,List.contains_nil,FM,List.contains_cons,List.cons_append,Option.map_some,Option.map_none,Bool.or_true,Bool.true_or,CG,BP,D6,ag3,ag9,OB,QX,VM,L6,List.length_nil,↓reduceIte,Nat.reduceEqDiff,Nat.reduceBEq,Nat.reduceAdd,Int.reduceBEq,y,x,w,v,u]; exact z):q:=h y x w v u hp
theorem cK (y:a)(x:b)(w:c)(v:d)(u:e)(t:f)(hp:p)(h:a->b->c->d->e->f->p->q:=by intro y x w v u t z; simp -implicitDefEqProofs only[Sm.Mr_L,CJ,ED,List.contains_nil,FM,List.contains_cons,List.cons_append,Option.map_some,Option.map_none,Bool.or_true,Bool.true_or,CG,BP,D6,ag3,ag9,OB,QX,VM,L6,List.length_nil,↓reduceIte,Nat.reduceEqDiff,Nat.reduceBEq,Nat.reduceAdd,Int.reduceBEq,y,x,w,v,u,t]; exact z):q:=h y x w v u t hp
theorem NZ (y:a)(x:b)(w:c)(v:d)(u:e)(t:f)(s:a1)(hp:p)(h:a->b->c->d->e->f->a1->p->q:=by intro y x w v u t s z; simp -implicitDefEqProofs only[Sm.Mr_L,CJ,ED,List.contains_nil,FM,List.contains_cons,List.cons_append,Option.map_some,Option.map_none,Bool.or_true,Bool.true_or,CG,BP,D6,ag3,ag9,OB,QX,VM,L6,List.length_nil,↓reduceIte,Nat.reduceEqDiff,Nat.reduceBEq,Nat.reduceAdd,Int.reduceBEq,y,x,w,v,u,t,s]; exact z):q:=h y x w v u t s hp
theorem QZ (y:a)(x:b)(w:c)(v:d)(u:e)(t:f)(s:a1)(r:b1)(hp:p)(h:a->b->c->d->e->f->a1->b1->p->q:=by intro y x w v u t s r z; simp -implicitDefEqProofs only[Sm.Mr_L,CJ,ED,List.contains_nil,FM,List.contains_cons,List.cons_append,Option.map_some,Option.map_none,Bool.or_true,Bool.true_or,CG,BP,D6,ag3,ag9,OB,QX,VM,L6,List.length_nil,↓reduceIte,Nat.reduceEqDiff,Nat.reduceBEq,Nat.reduceAdd,Int.reduceBEq,y,x,w,v,u,t,s,r]; exact z):q:=h y x w v u t s r hp
theorem VW (y:a)(x:b)(w:c)(v:d)(u:e)(t:f)(s:a1)(r:b1)(o:c1)(hp:p)(h:a->b->c->d->e->f->a1->b1->c1->p->q:=by intro y x w v u t s r o z; simp -implicitDefEqProofs only[Sm.Mr_L,CJ,ED,List.contains_nil,FM,List.contains_cons,List.cons_append,Option.map_some,Option.map_none,Bool.or_true,Bool.true_or,CG,BP,D6,ag3,ag9,OB,QX,VM,L6,List.length_nil,↓reduceIte,Nat.reduceEqDiff,Nat.reduceBEq,Nat.reduceAdd,Int.reduceBEq,y,x,w,v,u,t,s,r,o]; exact z):q:=h y x w v u t s r o hp
theorem aF {d1:Prop}(y:a)(x:b)(w:c)(v:d)(u:e)(t:f)(s:a1)(r:b1)(o:c1)(n:d1)(hp:p)(h:a->b->c->d->e->f->a1->b1->c1->d1->p->q:=by intro y x w v u t s r o n z; simp -implicitDefEqProofs only[Sm.Mr_L,CJ,ED,List.contains_nil,FM,List.contains_cons,List.cons_append,Option.map_some,Option.map_none,Bool.or_true,Bool.true_or,CG,BP,D6,ag3,ag9,OB,QX,VM,L6,List.length_nil,↓reduceIte,Nat.reduceEqDiff,Nat.reduceBEq,Nat.reduceAdd,Int.reduceBEq,y,x,w,v,u,t,s,r,o,n]; exact z):q:=h y x w v u t s r o n hp
theorem aE {d1 e1:Prop}(y:a)(x:b)(w:c)(v:d)(u:e)(t:f)(s:a1)(r:b1)(o:c1)(n:d1)(m:e1)(hp:p)(h:a->b->c->d->e->f->a1->b1->c1->d1->e1->p->q:=by intro y x w v u t s r o n m z; simp -implicitDefEqProofs only[Sm.Mr_L,CJ,ED,List.contains_nil,FM,List.contains_cons,List.cons_append,Option.map_some,Option.map_none,Bool.or_true,Bool.true_or,CG,BP,D6,ag3,ag9,OB,QX,VM,L6,List.length_nil,↓reduceIte,Nat.reduceEqDiff,Nat.reduceBEq,Nat.reduceAdd,Int.reduceBEq,y,x,w,v,u,t,s,r,o,n,m]; exact z):q:=h y x w v u t s r o n m hp
theorem EX (h:q:=by first|(simp -implicitDefEqProofs only[Sm.Mr_L,CJ,ED,List.contains_nil,FM,List.contains_cons,List.cons_append,Option.map_some,Option.map_none,Bool.or_true,Bool.true_or,CG,BP,D6,ag3,ag9,OB,QX,VM,L6,List.length_nil,↓reduceIte,Nat.reduceEqDiff,Nat.reduceBEq,Nat.reduceAdd,Int.reduceBEq]; done)|(simp -implicitDefEqProofs only[Sm.Mr_L,CJ,ED,List.contains_nil,FM,List.contains_cons,List.cons_append,Option.map_some,Option.map_none,Bool.or_true,Bool.true_or,CG,BP,D6,ag3,ag9,OB,QX,VM,L6,List.length_nil,↓reduceIte,Nat.reduceEqDiff,Nat.reduceBEq,Nat.reduceAdd,Int.reduceBEq]; rfl)):q:=h
theorem TN (y:a)(h:a->q:=by intro y; first|(simp -implicitDefEqProofs only[Sm.Mr_L,CJ,ED,List.contains_nil,FM,List.contains_cons,List.cons_append,Option.map_some,Option.map_none,Bool.or_true,Bool.true_or,CG,BP,D6,ag3,ag9,OB,QX,VM,L6,List.length_nil,↓reduceIte,Nat.reduceEqDiff,Nat.reduceBEq,Nat.reduceAdd,Int.reduceBEq,y]; done)|(simp -implicitDefEqProofs only[Sm.Mr_L,CJ,ED,List.contains_nil,FM,List.contains_cons,List.cons_append,Option.map_some,Option.map_none,Bool.or_true,Bool.true_or,CG,BP,D6,ag3,ag9,OB,QX,VM,L6,List.length_nil,↓reduceIte,Nat.reduceEqDiff,Nat.reduceBEq,Nat.reduceAdd,Int.reduceBEq,y]; rfl)):q:=h y
theorem DU {E:Env}{H:Hint}{x y:Code}{F:Fr}{h:Hp}{Q:AEx->Fr->Hp->Prop}{a b:Nat}(h1:a<b->awp E H x F h Q)(h2:¬a<b->awp E H y F h Q):fH E H x y F h Q (.bool (decide (((a:Nat):Int)<((b:Nat):Int)))):=BG (fun h=>h1 (by simpa using h)) (fun h=>h2 (by simpa using h))
end Go.Proofs.YtiihpnicbekebaaGreatDoor
namespace Go.Proofs.YtiihpnicbekebaaGreatDoor.Bins
open Sm
structure Rng where
 lo:Int
 hi:Int
 deriving DecidableEq
def encR (r:Rng):List AV:=[.n r.lo,.n r.hi]
theorem bQ (r:Rng):(encR r).length=2:=rfl
theorem XG (r:Rng):(encR r)[0]?=some (.n r.lo):=rfl
theorem VS (r:Rng):(encR r)[1]?=some (.n r.hi):=rfl
def inside (xs:List Rng)(v:Int):Bool:=xs.any fun r=>decide (r.lo<=v)&&decide (v<=r.hi)
theorem LZ {α:Type}(p:α->Bool)(xs:List α)(k:Nat)(h:k<xs.length):(xs.drop k).any p=(p xs[k]||(xs.drop (k+1)).any p):=by
 rw[List.drop_eq_getElem_cons h,List.any_cons]
theorem bxR (h:Hp)(r:Rng):MP h (.agg (encR r))=some (.ptr h.length 0 0,h++[qF 2 [encR r]]):=rfl
end Go.Proofs.YtiihpnicbekebaaGreatDoor.Bins
namespace Go.Proofs.YtiihpnicbekebaaGreatDoor.Bins
open Sm
variable {xs:List Rng} {s:ByteArray} (G:Nat->AV )
def bad (r:Rng):Bool:=decide (r.lo<0)||decide (r.lo>r.hi)||decide (r.hi>65535)
def IU (xs:List Rng):Int:=if xs.length>64 then 2 else if xs.any bad then 1 else 0
theorem eT (h:xs.length>64):IU xs=2:=by simp [IU,h]
theorem WF (h:¬xs.length>64)(hb:xs.any bad=true):IU xs=1:=by simp [IU,h,hb]
theorem ZI (h:¬xs.length>64)(hb:xs.any bad=false):IU xs=0:=by simp [IU,h,hb]
theorem AK4 (h:Hp):F9 jA h 145=some (.ptr h.length 0 0,h++[qF 2 [[.n 0,.n 0]]]):=FC (row:=[.n 0,.n 0]) AZ
theorem AIM (h:Hp)(r:Rng)(row:List AV)(hr:row.length=2):DX jA (h++[qF 2 [row]]) 145 (.ptr h.length 0 0) (.agg (encR r))=some (h++[qF 2 [encR r]]):=by
 rw[RP (cs:=encR r) rfl MJ (by simp [hr,encR])];simp [splice,hr,encR]
theorem xQ (xs:List Rng)(m:SM)(h:Hp)(hl:xs.length<=1099511627776):
  PCall (En G) 242 [.sl m 2 (xs.map encR)] h (.n (IU xs)):=by
 refine ACalls.pure0 rfl ?_;refine acT Tryz.func242 2 ?_;refine Z ?_;refine BG ?_ ?_<;>intro hc
 .refine Z ?_
  exact⟨by rw[eT (by simp at hc; omega)],[],A8⟩
 refine Z ?_;have h64:¬xs.length>64:=by simp at hc; omega
 refine BB (fun n F H=>∃k,n+k=xs.length∧F 8=.sl m 2 (xs.map encR)∧F 9=.n xs.length∧F 10=.n (k:Nat)∧(∃x,H=h++x)∧xs.any bad=(xs.drop k).any bad) xs.length ⟨0,A8,rfl,rfl,rfl,⟨[],A8⟩,rfl⟩ ?_;rintro n F H ⟨k,hk,f8,f9,f10,⟨x,rfl⟩,hin⟩;refine DI f8 f9 f10 ?_;refine DU ?_ ?_<;>intro hc'
 .have hs:=LZ bad xs k hc'
  simp -implicitDefEqProofs only[vQ,ED,CJ,↓reduceIte,jC,enP,YM,VH,Option.getD_none,f8,f9,f10,CG hc',CY fN MJ bQ hc',AK4,AIM _ _ [.n 0,.n 0] rfl,D6 ag3,XG,VS];rw[hs] at hin;have fin:bad xs[k]=true->IU xs=1:=fun hb=>WF h64 (by rw[hin,hb]; rfl)
  have nxt:bad xs[k]=false->xs.any bad=(xs.drop (k+1)).any bad:=fun hb=>by rw[hin,hb]; rfl
  refine GV ?_ ?_<;>intro ha
  .refine AO ha ?_
   exact⟨by rw[fin (by unfold bad; rw[ha]; rfl)],_,by rw[zC]⟩
  refine JZ ha @XG @VS ?_;refine GV ?_ ?_<;>intro hb
  .refine AO hb ?_
   exact⟨by rw[fin (by unfold bad; rw[hb]; simp)],_,by rw[zC]⟩
  refine JZ hb @XG @VS ?_;refine BG ?_ ?_<;>intro hc
  .refine Z ?_
   exact⟨by rw[fin (by unfold bad; rw[hc]; simp)],_,by rw[zC]⟩
  .refine AQ f10 (CW k) ?_
   exact⟨n-1,U,k+1,U,f8,f9,rfl,⟨_,by rw[zC]⟩,nxt (by unfold bad; rw[ha,hb,hc]; rfl)⟩
 .refine Z ?_
  rw[jR U] at hin;exact⟨by rw[ZI h64 hin],_,rfl⟩
theorem AC8 (xs:List Rng)(m:SM)(h:Hp):
  PCall (En G) 267 [.sl m 2 (xs.map encR)] h (.n (IU xs)):=by
 refine acT Tryz.func267 2 ?_;refine Z ?_;refine BG ?_ ?_<;>intro hc
 .refine Z ?_
  exact⟨by rw[eT (by simp at hc; omega)],trivial⟩
 refine Z ?_;have h64:¬xs.length>64:=by simp at hc; omega
 refine BB (fun n F H=>∃k,n+k=xs.length∧F 0=.sl m 2 (xs.map encR)∧F 3=.n (k:Nat)∧H=h∧xs.any bad=(xs.drop k).any bad) xs.length ⟨0,A8,rfl,rfl,rfl,rfl⟩ ?_;rintro n F H ⟨k,hk,f0,f3,rfl,hin⟩;refine AQ f0 f3 ?_;refine DU ?_ ?_<;>intro hc'
 .rw[LZ bad xs k hc'] at hin
  have fin:bad xs[k]=true->IU xs=1:=fun hb=>WF h64 (by rw[hin,hb]; rfl)
  have nxt:bad xs[k]=false->xs.any bad=(xs.drop (k+1)).any bad:=fun hb=>by rw[hin,hb]; rfl
  refine Z ?_;refine DJ AZ ?_;simp -implicitDefEqProofs only[vQ,IM,KI,ED,↓reduceIte,jC,jP,enP,YM,VH,f0,f3,CG hc',BP ag3 hc',XG,VS];refine mU ?_ ?_<;>intro ha
  .refine AO ha ?_
   exact⟨by rw[fin (by unfold bad; rw[ha]; rfl)],trivial⟩
  simp -implicitDefEqProofs only[vQ,IM,KI,XR,Q3,ED,↓reduceIte,jC,jP,enP,YM,VH,VG,ha,f0,f3,CG hc',BP ag3 hc',XG,VS];refine mU ?_ ?_<;>intro hb
  .refine AO hb ?_
   exact⟨by rw[fin (by unfold bad; rw[hb]; simp)],trivial⟩
  simp -implicitDefEqProofs only[vQ,IM,KI,XR,Q3,ED,↓reduceIte,jC,jP,enP,YM,VG,hb,f0,f3,CG hc',BP ag3 hc',XG,VS];refine BG ?_ ?_<;>intro hc
  .refine Z ?_
   exact⟨by rw[fin (by unfold bad; rw[hc]; simp)],trivial⟩
  .refine AQ f3 (CW k) ?_
   exact⟨n-1,U,k+1,U,f0,rfl,trivial,nxt (by unfold bad; rw[ha,hb,hc]; rfl)⟩
 .refine Z ?_
  rw[jR U] at hin;exact⟨by rw[ZI h64 hin],trivial⟩
structure Rs where
 m:SM
 l:List Rng
def AOX (r:Rs):AV:=.sl r.m 2 (r.l.map encR)
def encS (r:Rs):List AV:=[AOX r]
structure Bin where
 name:ByteArray
 kind:Int
 ranges:Rs
 sm:SM
 steps:List Rs
def H7 (b:Bin):List AV:=[.str b.name,.n b.kind,AOX b.ranges,.sl b.sm 1 (b.steps.map encS)]
theorem AHJ (b:Bin):(H7 b)[0]?=some (.str b.name):=rfl
theorem SL (b:Bin):(H7 b)[1]?=some (.n b.kind):=rfl
theorem bT (b:Bin):(H7 b)[2]?=some (.sl b.ranges.m 2 (b.ranges.l.map encR)):=rfl
theorem UG (b:Bin):(H7 b)[3]?=some (.sl b.sm 1 (b.steps.map encS)):=rfl
theorem KE (b:Bin):(H7 b).length=4:=rfl
theorem lH (r:Rs):(encS r)[0]?=some (.sl r.m 2 (r.l.map encR)):=rfl
theorem bxB (h:Hp)(b:Bin):MP h (.agg (H7 b))=some (.ptr h.length 0 0,h++[qF 4 [H7 b]]):=rfl
theorem ldB (h:Hp)(b:Bin):BO jA (h++[qF 4 [H7 b]]) 87 (.ptr h.length 0 0)=some (.agg (H7 b)):=X8 gJ ZB (by simp [H7])
def YU (b:Bin):SM:=if b.ranges.l.length>0 then .full else b.sm
def sets (b:Bin):List Rs:=if b.ranges.l.length>0 then [b.ranges] else b.steps
theorem A01 (h:Hp)(r:Rs):C9 jA false h 85 1 [(0,.sl r.m 2 (r.l.map encR))]=some (.sl .full 1 ([r].map encS),h):=by
 have:(aU 1 0 [(0,AV.sl r.m 2 (r.l.map encR))])=some [[.sl r.m 2 (r.l.map encR)]]:=rfl;simp only[C9,Tryz.underlying85,AYE,this];have hz:SY jA 84=some 1:=AZ;simp [hz,AV.frozen,encS,AOX]
theorem AIR (b:Bin)(h:Hp):PCall (En G) 241 [.agg (H7 b)] h (.sl (YU b) 1 ((sets b).map encS)):=by
 refine ACalls.pure0 rfl ?_;refine acT Tryz.func241 2 ?_;refine J3 @bxB @bT ?_;refine BG ?_ ?_<;>intro hc
 .have hc':b.ranges.l.length>0:=BL hc
  refine J3 @bT A01 ?_;exact⟨by rw[YU,sets,if_pos hc',if_pos hc']; rfl,_,rfl⟩
 .have hc':¬b.ranges.l.length>0:=BL hc
  refine TM @UG ?_;exact⟨by rw[YU,sets,if_neg hc',if_neg hc'],_,rfl⟩
theorem AMA (b:Bin)(h:Hp):PCall (En G) 266 [.agg (H7 b)] h (.sl (YU b) 1 ((sets b).map encS)):=by
 refine ACalls.pure0 rfl ?_;refine acT Tryz.func266 2 ?_;refine J3 @bxB @bT ?_;refine BG ?_ ?_<;>intro hc
 .have hc':b.ranges.l.length>0:=BL hc
  refine J3 @bT A01 ?_;exact⟨by rw[YU,sets,if_pos hc',if_pos hc']; rfl,_,rfl⟩
 .have hc':¬b.ranges.l.length>0:=BL hc
  refine TM @UG ?_;exact⟨by rw[YU,sets,if_neg hc',if_neg hc'],_,rfl⟩
theorem AY4 (m:SM)(k:Nat)(xs:List (List AV)):H9 jA 84 .eql (.sl m k xs) (.sl .nil 0 [])=some (.bool (decide (m=.nil))):=by cases m<;>kernel_rfl
def AXG (k:Nat)(xs:List (List AV))(h:Hp)(v:AV)(h':Hp):Prop :=
 (xs=[]∧(∃k0,v=.sl .nil k0 [])∧h'=h)∨(xs=[]∧v=.sl .full k []∧h'=h)∨(xs≠[]∧v=.own h.length 0 xs.length∧h'=h++[qF k xs])
theorem AXP (h:Hp):C9 jA false h 84 0 []=some (.sl .full 2 [],h):=AZ
theorem APH (h:Hp):C9 jA false h 32 0 []=some (.sl .full 1 [],h):=AZ
theorem cok (f:FuncId)(G:Nat->AV)(hf:(match Tryz.prog.funcs[f]? with|some fn=>fn.body.isSome && !(fn.name == "runtime.NumGoroutine")|none=>false)=true):aH (En G).P f:=by
 have he:(En G).P=jA:=rfl;unfold aH;rw[he]
 cases hx:Tryz.prog.funcs[f]? with
 | none=>rw[hx] at hf; cases hf
 | some fn =>
   rw[hx] at hf;simp at hf;exact⟨fn,rfl,by simpa using hf.1,by simpa using hf.2⟩
def qencI (n:Int):List AV:=[.n n]
theorem AO2 (r:Rs)(h:Hp):PCall (En G) 291 [.sl r.m 2 (r.l.map encR)] h (.bool (decide (r.l.length=0))):=by
 refine acT Tryz.func291 2 ?_;refine Z ?_;refine⟨?_,trivial⟩;congr 1;rw[wI]; simp
theorem AAC (G:Nat->AV)(xs:List Rs)(m:SM)(fid:FuncId)(caps:List AV)(p:Rs->Bool)(h:Hp)(hl:xs.length<=1099511627776)
  (hf:∀r,PCall (En G) fid (.sl r.m 2 (r.l.map encR)::caps) h (.bool (p r))) :
  PCall (En G) 325 [.sl m 1 (xs.map encS),.fn (.func fid) [] caps] h (.n (match xs.findIdx? p with|some i=>(i:Int)|none => -1)):=by
 refine acT Tryz.func325 4 ?_;refine Z ?_;refine BB (fun n F H=>∃k,n+k=xs.length∧F 0=.sl m 1 (xs.map encS)∧F 1=.fn (.func fid) [] caps∧F 7=.n xs.length∧F 8=.n (k:Nat)∧H=h∧(xs.take k).all (fun r => !p r)=true) xs.length ⟨0,A8,rfl,rfl,rfl,rfl,rfl,rfl⟩ ?_;rintro n F H ⟨k,hk,f0,f1,f7,f8,rfl,hin⟩;refine EO f0 f1 f7 f8 ?_;refine DU ?_ ?_<;>intro hc'
 .simp -implicitDefEqProofs only[vQ,CJ,List.nil_append,List.cons_append,↓reduceIte,jC,enP,sY,f0,f1,f7,f8,CG hc',BP QX hc',lH]
  refine(hf _).uu ?_;refine BG ?_ ?_<;>intro hb
  .refine Z ?_
   refine⟨?_,trivial⟩
   rw[wS.2 ⟨hc',hb,fun j hj=>by
    rw[zJ] at hin;have:=hin xs[j] (by rw[List.mem_take_iff_getElem]; exact⟨j,U,rfl⟩)
    simpa using this⟩]
  .refine AQ f8 (CW k) ?_
   refine⟨n-1,U,k+1,U,f0,f1,f7,rfl,trivial,?_⟩;rw[jW hc',List.all_append,hin];simp only[List.all_cons,List.all_nil,hb]; rfl
 .refine Z ?_
  refine⟨?_,trivial⟩;rw[jJ U] at hin;rw[wU.2 (BL hin)]
theorem lV (G:Nat->AV)(xs:List Rs)(m:SM)(fid:FuncId)(caps:List AV)(p:Rs->Bool)(h:Hp)(hl:xs.length<=1099511627776)
  (hf:∀r,PCall (En G) fid (.sl r.m 2 (r.l.map encR)::caps) h (.bool (p r))) :
  PCall (En G) 290 [.sl m 1 (xs.map encS),.fn (.func fid) [] caps] h (.bool (xs.any p)):=by
 refine acT Tryz.func290 4 ?_;refine Z ?_;refine(AAC G xs m fid caps p h hl hf).uu ?_;refine⟨?_,trivial⟩
 cases hx:xs.findIdx? p with
 | some i =>
   obtain⟨h1,h2,_⟩:=wS.1 hx;have:xs.any p=true:=qK.2 ⟨xs[i],A8,h2⟩;simp [this]
 | none =>
   have:xs.any p=false:=by
    rw[wU] at hx;rw[qM]; intro x hx2; simp [hx x hx2]
   simp [this]
def TA (n:Int):Bool:=decide (n≥97)&&decide (n<=122)
def ABC (n:Int):Bool:=decide (n≥48)&&decide (n<=57)
def OJ (n:Int):Bool:=TA n||ABC n||(decide (n≥65)&&decide (n<=90))||n==95
theorem kM (n:Int)(h:Hp):PCall (En G) 217 [.int .i32 n] h (.bool (TA n)):=by
 refine acT Tryz.func217 2 ?_;refine Z ?_;refine GV ?_ ?_<;>intro ha
 .refine AO ha ?_
  exact⟨by unfold TA; rw[ha]; rfl,trivial⟩
 .refine AO ha ?_
  exact⟨by unfold TA; rw[ha]; rfl,trivial⟩
theorem AED (n:Int)(h:Hp):PCall (En G) 278 [.int .i32 n] h (.bool (ABC n)):=by
 refine acT Tryz.func278 2 ?_;refine Z ?_;refine GV ?_ ?_<;>intro ha
 .refine AO ha ?_
  exact⟨by unfold ABC; rw[ha]; rfl,trivial⟩
 .refine AO ha ?_
  exact⟨by unfold ABC; rw[ha]; rfl,trivial⟩
theorem oM (n:Int)(h:Hp):PCall (En G) 130 [.int .u8 n] h (.bool (TA n)):=by
 refine acT Tryz.func130 2 ?_;refine Z ?_;refine GV ?_ ?_<;>intro ha
 .refine AO ha ?_
  exact⟨by unfold TA; rw[ha]; rfl,trivial⟩
 .refine AO ha ?_
  exact⟨by unfold TA; rw[ha]; rfl,trivial⟩
theorem AKL (n:Int)(h:Hp):PCall (En G) 222 [.int .u8 n] h (.bool (ABC n)):=by
 refine acT Tryz.func222 2 ?_;refine Z ?_;refine GV ?_ ?_<;>intro ha
 .refine AO ha ?_
  exact⟨by unfold ABC; rw[ha]; rfl,trivial⟩
 .refine AO ha ?_
  exact⟨by unfold ABC; rw[ha]; rfl,trivial⟩
theorem bI (n:Int)(h:Hp):PCall (En G) 218 [.int .i32 n] h (.bool (OJ n)):=by
 refine acT Tryz.func218 2 ?_;refine Z ?_;refine(kM G n h).uu ?_;refine GV ?_ ?_<;>intro ha
 .refine AO ha ?_
  exact⟨by unfold OJ; rw[ha]; rfl,trivial⟩
 refine AO ha ?_;refine(AED G n h).uu ?_;refine GV ?_ ?_<;>intro hb
 .refine AO hb ?_
  exact⟨by unfold OJ; rw[ha,hb]; rfl,trivial⟩
 refine AO hb ?_;refine GV ?_ ?_<;>intro hc
 .refine AO hc ?_
  refine GV ?_ ?_<;>intro hd
  .refine AO hd ?_
   exact⟨by unfold OJ; rw[ha,hb,hc,hd]; rfl,trivial⟩
  .refine AO hd ?_
   exact⟨by unfold OJ; rw[ha,hb,hc,hd]; rfl,trivial⟩
 .refine AO hc ?_
  exact⟨by unfold OJ; rw[ha,hb,hc]; rfl,trivial⟩
theorem AJ1 (n:Int)(h:Hp):PCall (En G) 132 [.int .u8 n] h (.bool (OJ n)):=by
 refine acT Tryz.func132 2 ?_;refine Z ?_;refine(oM G n h).uu ?_;refine GV ?_ ?_<;>intro ha
 .refine AO ha ?_
  exact⟨by unfold OJ; rw[ha]; rfl,trivial⟩
 refine AO ha ?_;refine(AKL G n h).uu ?_;refine GV ?_ ?_<;>intro hb
 .refine AO hb ?_
  exact⟨by unfold OJ; rw[ha,hb]; rfl,trivial⟩
 refine AO hb ?_;refine GV ?_ ?_<;>intro hc
 .refine AO hc ?_
  refine GV ?_ ?_<;>intro hd
  .refine AO hd ?_
   exact⟨by unfold OJ; rw[ha,hb,hc,hd]; rfl,trivial⟩
  .refine AO hd ?_
   exact⟨by unfold OJ; rw[ha,hb,hc,hd]; rfl,trivial⟩
 .refine AO hc ?_
  exact⟨by unfold OJ; rw[ha,hb,hc]; rfl,trivial⟩
def qencStr (s:ByteArray):List AV:=[.str s]
theorem encStr0 (s:ByteArray):(qencStr s)[0]?=some (.str s):=rfl
def G7 (xs:List ByteArray)(v:ByteArray):Bool:=xs.any fun u=>v.toList==u.toList
theorem ASG (xs:List ByteArray)(m:SM)(v:ByteArray)(h:Hp)(hl:xs.length<=1099511627776):
  PCall (En G) 220 [.sl m 1 (xs.map qencStr),.str v] h (.bool (G7 xs v)):=by
 refine acT Tryz.func220 4 ?_;refine Z ?_;refine BB (fun n F H=>∃k,n+k=xs.length∧F 0=.sl m 1 (xs.map qencStr)∧F 1=.str v∧F 5=.n (k:Nat)∧H=h∧G7 xs v=G7 (xs.drop k) v) xs.length ⟨0,A8,rfl,rfl,rfl,rfl,rfl⟩ ?_;rintro n F H ⟨k,hk,f0,f1,f5,rfl,hin⟩;refine DI f0 f1 f5 ?_;refine DU ?_ ?_<;>intro hc'
 .have hs:G7 (xs.drop k) v=((v.toList==xs[k].toList)||G7 (xs.drop (k+1)) v):=LZ _ xs k hc'
  simp -implicitDefEqProofs only[vQ,CJ,OO,↓reduceIte,jC,enP,Y0,f0,f1,f5,CG hc',BP ag9 hc',encStr0];refine BG ?_ ?_<;>intro hb
  .refine Z ?_
   refine⟨?_,trivial⟩;rw[hin,hs,show(v.toList==xs[k].toList)=true by rw[BEq.comm]; exact hb]; rfl
  .refine AQ f5 (CW k) ?_
   refine⟨n-1,U,k+1,U,f0,f1,rfl,trivial,?_⟩;rw[hin,hs,show(v.toList==xs[k].toList)=false by rw[BEq.comm]; exact hb]; rfl
 .refine Z ?_
  exact⟨by rw[hin,jR U]; rfl,trivial⟩
theorem index_prog (xs:List ByteArray)(m:SM)(v:ByteArray)(h:Hp)(hl:xs.length<=1099511627776):
  ∃i:Int,(decide (i≥0)=G7 xs v)∧PCall (En G) 279 [.sl m 1 (xs.map qencStr),.str v] h (.n i):=by
 refine⟨(match xs.findIdx? (fun u=>v.toList==u.toList) with|some i=>(i:Int)|none => -1),?_,?_⟩
 .cases hx:xs.findIdx? (fun u=>v.toList==u.toList) with
  | some i =>
    obtain⟨h1,h2,_⟩:=wS.1 hx;have:G7 xs v=true:=qK.2 ⟨xs[i],A8,h2⟩;simp [this]
  | none =>
    have:G7 xs v=false:=by
     rw[wU] at hx;unfold G7;rw[qM]; intro x hx2; simp only[hx x hx2]; simp
    simp [this]
 refine acT Tryz.func279 4 ?_;refine Z ?_;refine BB (fun n F H=>∃k,n+k=xs.length∧F 0=.sl m 1 (xs.map qencStr)∧F 1=.str v∧F 7=.n xs.length∧F 8=.n (k:Nat)∧H=h∧(xs.take k).all (fun u => !(v.toList==u.toList))=true) xs.length ⟨0,A8,rfl,rfl,rfl,rfl,rfl,rfl⟩ ?_;rintro n F H ⟨k,hk,f0,f1,f7,f8,rfl,hin⟩;refine EO f0 f1 f7 f8 ?_;refine DU ?_ ?_<;>intro hc'
 .simp -implicitDefEqProofs only[vQ,CJ,OO,↓reduceIte,jC,enP,Y0,f0,f1,f7,f8,CG hc',BP ag9 hc',encStr0]
  refine BG ?_ ?_<;>intro hb
  .refine Z ?_
   refine⟨?_,trivial⟩
   rw[wS.2 ⟨hc',hb,fun j hj=>by
    rw[zJ] at hin;have:=hin xs[j] (by rw[List.mem_take_iff_getElem]; exact⟨j,U,rfl⟩)
    simpa using this⟩]
  .refine AQ f8 (CW k) ?_
   refine⟨n-1,U,k+1,U,f0,f1,f7,rfl,trivial,?_⟩;rw[jW hc',List.all_append,hin];simp only[List.all_cons,List.all_nil,hb]; rfl
 .refine Z ?_
  refine⟨?_,trivial⟩;rw[jJ U] at hin
  rw[wU.2 (by
   intro x hx;rw[zJ] at hin
   simpa using hin x hx)]
theorem nU (xs:List ByteArray)(m:SM)(v:ByteArray)(h:Hp)(hl:xs.length<=1099511627776):
  PCall (En G) 219 [.sl m 1 (xs.map qencStr),.str v] h (.bool (G7 xs v)):=by
 obtain⟨i,hi,hp⟩:=index_prog G xs m v h hl;refine acT Tryz.func219 4 ?_;refine Z ?_;refine hp.uu ?_;exact⟨by rw[hi],trivial⟩
def kw:List ByteArray:=[⟨#[99,108,97,115,115]⟩,⟨#[101,120,116,101,110,100,115]⟩,⟨#[114,97,110,100]⟩,⟨#[114,97,110,100,99]⟩,⟨#[115,116,97,116,101]⟩,⟨#[99,111,110,115,116,114,97,105,110,116]⟩,⟨#[115,111,102,116]⟩,⟨#[100,105,115,116]⟩,⟨#[105,102]⟩,⟨#[101,108,115,101]⟩,⟨#[101,97,99,104]⟩,⟨#[105,110]⟩,⟨#[115,111,108,118,101]⟩,⟨#[98,101,102,111,114,101]⟩,⟨#[105,110,115,105,100,101]⟩,⟨#[112,114,111,112,101,114,116,121]⟩,⟨#[115,101,113]⟩,⟨#[97,110,100]⟩,⟨#[111,114]⟩,⟨#[110,111,116]⟩,⟨#[115,101,116]⟩,⟨#[104,111,108,100]⟩,⟨#[112,108,97,105,110]⟩,⟨#[114,101,112,101,97,116]⟩]
theorem ANO:kw.length=24:=rfl
theorem sX (h:Hp):PCall (En G) 221 [] h (.sl .full 1 (kw.map qencStr)):=by
 refine acT Tryz.func221 0 ?_;refine Z ?_;refine JR (v:=.sl .full 1 (kw.map qencStr)) (h:=h) AZ ?_;refine Z ?_;exact G8
theorem nN (v:ByteArray)(h:Hp):PCall (En G) 131 [.str v] h (.bool (G7 kw v)):=by
 refine acT Tryz.func131 2 ?_;refine Z ?_;refine(sX G h).uu ?_;refine(ASG G kw .full v h (by rw[ANO]; omega)).uu ?_;exact G8
def KwG (G:Nat->AV):Prop:=∃m,G 0=.fptr 1 [[.sl m 1 (kw.map qencStr)]] 0 0
theorem kP (hG:KwG G)(v:ByteArray)(h:Hp):PCall (En G) 129 [.str v] h (.bool (G7 kw v)):=by
 obtain⟨m,hg⟩:=hG;refine acT Tryz.func129 2 ?_;have e:BO jA h 121 (G 0)=some (.sl m 1 (kw.map qencStr)):=by rw[hg]; exact ANA rK rfl rfl
 have hl:kw.length<=1099511627776:=by rw[ANO]; omega
 refine DI @AS2 @enG e ?_;refine(nU G kw m v h hl).uu ?_;exact G8
def UB (s:ByteArray):Bool:=(match s.data.toList with|[]=>false|b::_=>TA b.toNat)&&s.data.toList.all fun b=>OJ b.toNat
def ER (s:ByteArray):Bool:=UB s&&decide (s.size<=16) && !G7 kw s
theorem dG {n:Int}(h:OJ n=true):n<128:=by
 simp only[OJ,TA,ABC,Bool.or_eq_true,jT,decide_eq_true_eq,beq_iff_eq] at h;omega
theorem AQ3 (h:Hp)(s:ByteArray):eJ jA h 9 (.str s)=some (.ptr h.length 0 0,h++[.iter s 0]):=by
 have:Tryz.prog.underlying 9=some .string:=AZ;simp [eJ,this]
theorem ARV {h:Hp}{s:ByteArray}{pos:Nat}(hp:pos<s.size):fO (h++[.iter s pos]) (.ptr h.length 0 0) true=some (.tup [.bool true,.n pos,.int .i32 (Utf8.decode s pos).1],h++[.iter s (pos+(Utf8.decode s pos).2)]):=by
 simp [fO,hp]
theorem AM3 {h:Hp}{pos:Nat}(hp:¬pos<s.size):fO (h++[.iter s pos]) (.ptr h.length 0 0) true=some (.tup [.bool false],h++[.iter s pos]):=by
 simp [fO,hp]
theorem UX {k:Nat}(hk:k<s.size)(hb:OJ (s[k]'hk).toNat=false):UB s=false:=by
 unfold UB
 have:(s.data.toList.all fun b=>OJ b.toNat)=false:=by
  rw[List.all_eq_false];exact⟨s[k],Array.getElem_mem_toList (xs:=s.data) hk,by simp [hb]⟩
 rw[this]; simp
theorem eM (hk:0<s.size)(hb:TA (s[0]'hk).toNat=false):UB s=false:=by
 unfold UB
 have:(match s.data.toList with|[]=>false|b::_=>TA b.toNat)=false:=by
  cases hl:s.data.toList with
  | nil=>rfl
  | cons b l =>
    have h0:s[0]'hk=b:=by
     have:s.data.toList[0]?=some b:=by rw[hl]; rfl
     have h2:s.data[0]?=some b:=by rw[<-Array.getElem?_toList]; exact this
     have hk':0<s.data.size:=hk;rw[Array.getElem?_eq_getElem hk'] at h2;exact Option.some.inj h2
    simp only;rw[<-h0]; exact hb
 rw[this]; simp
theorem vE (hk:0<s.size)(hb:TA (s[0]'hk).toNat=true)(ha:∀i (hi:i<s.size),OJ (s[i]'hi).toNat=true):UB s=true:=by
 unfold UB
 have h1:(match s.data.toList with|[]=>false|b::_=>TA b.toNat)=true:=by
  cases hl:s.data.toList with
  | nil =>
    have:s.data.toList.length=0:=by rw[hl]; rfl
    have h2:s.data.size=0:=BL this;have h3:s.size=s.data.size:=rfl;omega
  | cons b l =>
    have h0:s[0]'hk=b:=by
     have:s.data.toList[0]?=some b:=by rw[hl]; rfl
     have h2:s.data[0]?=some b:=by rw[<-Array.getElem?_toList]; exact this
     have hk':0<s.data.size:=hk;rw[Array.getElem?_eq_getElem hk'] at h2;exact Option.some.inj h2
    simp only;rw[<-h0]; exact hb
 rw[h1,Bool.true_and,zJ];intro b hbm;obtain⟨i,hi,rfl⟩:=List.getElem_of_mem hbm;have hi':i<s.size:=BL hi;exact ha i hi'
theorem AH9 (s:ByteArray)(h:Hp)(hl:s.size<=1099511627776):PCall (En G) 128 [.str s] h (.bool (UB s)):=by
 refine ACalls.pure0 rfl ?_;refine acT Tryz.func128 2 ?_;refine AQ @AQQ @AQ3 ?_;refine BB (fun n F H=>∃k,n+k=s.size∧F 0=.str s∧F 6=.ptr h.length 0 0∧H=h++[.iter s k]∧(∀i (hi:i<s.size),i<k->OJ (s[i]'hi).toNat=true)∧(∀hp:0<s.size,0<k->TA (s[0]'hp).toNat=true)) s.size ⟨0,A8,rfl,AC,rfl,fun _ _ h=>absurd h U,fun _ h=>absurd h U⟩ ?_;rintro n F H ⟨k,hk,f0,f6,rfl,hall,h0⟩;rcases Classical.em (k<s.size) with hp|hp
 .have go:∀(r:Nat×Nat),Utf8.decode s k=r->(OJ r.1=true->r=((s[k]'hp).toNat,1)∧OJ (s[k]'hp).toNat=true)∧(OJ r.1=false->UB s=false)∧(TA r.1=false->k=0->UB s=false)∧(TA r.1=true->OJ r.1=true):=by
   rintro r rfl;have lf:∀n,TA n=true->OJ n=true:=fun n hn=>by unfold OJ; rw[hn]; rfl
   rcases jZ (s[k]'hp).toNat 128 with ha|ha
   .have hd:=decode_ascii s k hp ha
    rw[hd];exact⟨fun hf=>⟨rfl,hf⟩,fun hf=>UX hp hf,fun hf h0=>by subst h0; exact eM hp hf,lf _⟩
   .have hd:=(decode_high s k hp ha).1
    refine⟨fun hf=>?_,fun _=>?_,fun _ h0=>?_,lf _⟩
    .have:=dG hf; omega
    .refine UX hp ?_
     cases hf:OJ (s[k]'hp).toNat with
     | false=>rfl
     | true=>have:=dG hf; omega
    .refine UX hp ?_
     cases hf:OJ (s[k]'hp).toNat with
     | false=>rfl
     | true=>have:=dG hf; omega
  refine Y6 @ALK f0 f6 @ARV hp ?_;generalize hr:Utf8.decode s k=r at go;obtain⟨g1,g2,g3,g4⟩:=go r rfl
  have done:∀H',OJ r.1=true->(k=0->TA r.1=true)->H'=h++[ABlk.iter s (k+r.2)]->∃m,m<n∧∃k',m+k'=s.size∧H'=h++[.iter s k']∧(∀i (hi:i<s.size),i<k'->OJ (s[i]'hi).toNat=true)∧(∀hp:0<s.size,0<k'->TA (s[0]'hp).toNat=true):=by
   intro H' hf hlw hH;obtain⟨e1,e2⟩:=g1 hf;refine⟨n-1,U,k+1,U,by rw[hH,e1],fun i hi hik=>?_,fun hp0 _=>?_⟩
   .rcases jZ i k with h'|h'
    .exact hall i hi h'
    .have:i=k:=U
     subst this; exact e2
   .rcases wJ k with h'|h'
    .subst h'; have:=hlw rfl; rw[e1] at this; exact this
    .exact h0 hp0 h'
  refine GV ?_ ?_<;>intro ha
  .have hk0:k=0:=by simp at ha; omega
   refine AO ha ?_;refine(kM G _ _).uu ?_;refine GV ?_ ?_<;>intro hb
   .refine AO hb ?_
    have hlw:TA r.1=false:=BL hb;exact⟨by rw[g3 hlw hk0],_,rfl⟩
   have hlw:TA r.1=true:=BL hb;refine AO hb ?_;refine(bI G _ _).uu ?_;have hf:=g4 hlw;refine AO hf ?_;obtain⟨m,h1,k',h2,h3,h4,h5⟩:=done _ hf (fun _=>hlw) rfl;exact⟨m,h1,k',h2,f0,f6,h3,h4,h5⟩
  .have hk0:k≠0:=by intro e; subst e; simp at ha
   refine AO ha ?_;refine(bI G _ _).uu ?_;refine BG ?_ ?_<;>intro hb
   .have hf:OJ r.1=false:=BL hb
    refine Z ?_;exact⟨by rw[g2 hf],_,rfl⟩
   .have hf:OJ r.1=true:=BL hb
    refine Z ?_;obtain⟨m,h1,k',h2,h3,h4,h5⟩:=done _ hf (fun e=>absurd e hk0) rfl;exact⟨m,h1,k',h2,f0,f6,h3,h4,h5⟩
 .simp -implicitDefEqProofs only[vQ,List.getElem?_cons_zero,UI,iP,Y5,xL,CJ,eD,ALK,TW,bP,mE,↓reduceIte,jC,enP,f0,f6,AM3 hp]
  have hks:k=s.size:=U;refine⟨?_,_,rfl⟩;congr 1;rcases wJ s.size with hz|hz
  .have:s=⟨#[]⟩:=by
    obtain⟨d⟩:=s;have:d.size=0:=hz;rw[Array.eq_empty_of_size_eq_zero this]
   subst this;rw[ByteArray.toList_eq];rfl
  .rw[vE hz (h0 hz U) (fun i hi=>hall i hi U)]
   have hne:s.toList≠[]:=by
    rw[ByteArray.toList_eq];intro e;have:s.data.toList.length=0:=by rw[e]; rfl
    have h2:s.data.size=0:=BL this;have h3:s.size=s.data.size:=rfl;omega
   cases hl2:s.toList with
   | nil=>exact absurd hl2 hne
   | cons=>rw[ByteArray.toList_eq]; rfl
theorem L9 (hG:KwG G)(s:ByteArray)(h:Hp)(hl:s.size<=1099511627776):PCall (En G) 63 [.str s] h (.bool (ER s)):=by
 refine acT Tryz.func63 2 ?_;refine Z ?_;refine(AH9 G s h hl).uu ?_;refine GV ?_ ?_<;>intro ha
 .refine AO ha ?_
  refine GV ?_ ?_<;>intro hb
  .refine AO hb ?_
   refine(kP G hG s h).uu ?_;refine⟨?_,trivial⟩
   have:decide (s.size<=16)=true:=by simp at hb|-; omega
   unfold ER; rw[ha,this]; rfl
  .refine AO hb ?_
   refine⟨?_,trivial⟩
   have:decide (s.size<=16)=false:=by simp at hb|-; omega
   unfold ER; rw[ha,this]; rfl
 .refine AO ha ?_
  exact⟨by unfold ER; rw[ha]; rfl,trivial⟩
theorem ix9 (s:ByteArray)(k:Nat)(kk:IntKind)(hk:k<s.size):O1 jA 9 (.str s) (.int kk (k:Int))=some (.int .u8 (s[k]'hk).toNat):=by
 have hu:Tryz.prog.underlying 9=some .string:=AZ;have h0:(0:Int)<=(k:Int):=U;have:s[k]?=some (s[k]'hk):=by simp [hk]
 simp [O1,hu,h0,this]
theorem NF (s:ByteArray)(h:Hp):PCall (En G) 64 [.str s] h (.bool (ER s)):=by
 refine acT Tryz.func64 2 ?_;refine Z ?_;refine GV ?_ ?_<;>intro ha
 .refine AO ha ?_
  refine⟨?_,trivial⟩
  have:s.data.toList=[]:=by
   rw[ByteArray.toList_eq,ByteArray.toList_eq] at ha;have:=beq_iff_eq.1 ha;exact this
  unfold ER UB; rw[this]; rfl
 have hz:0<s.size:=by
  rcases wJ s.size with hz|hz
  .have:s=⟨#[]⟩:=by
    obtain⟨d⟩:=s;have:d.size=0:=hz;rw[Array.eq_empty_of_size_eq_zero this]
   rw[this] at ha;simp at ha
  .exact hz
 refine AO ha ?_;refine GV ?_ ?_<;>intro hb
 .refine AO hb ?_
  refine⟨?_,trivial⟩
  have:decide (s.size<=16)=false:=by simp at hb|-; omega
  unfold ER; rw[this]; simp
 have h16:decide (s.size<=16)=true:=by simp at hb|-; omega
 refine AO hb ?_;refine JR (v:=.int .u8 (s[0]'hz).toNat) (h:=h) (by rw[show(0:Int)=((0:Nat):Int) from rfl,ix9 s 0 .i64 hz]; rfl) ?_;refine Z ?_;refine(oM G _ h).uu ?_;refine GV ?_ ?_<;>intro hc
 .refine AO hc ?_
  refine⟨?_,trivial⟩;unfold ER; rw[eM hz (BL hc)]; rfl
 refine AO hc ?_;refine(nN G s h).uu ?_;refine BG ?_ ?_<;>intro hd
 .refine Z ?_
  refine⟨?_,trivial⟩;unfold ER; rw[hd]; simp
 refine Z ?_;have hlow:TA (s[0]'hz).toNat=true:=BL hc;refine BB (fun n F H=>∃k,n+k=s.size∧F 0=.str s∧F 3=.n (k:Nat)∧H=h∧(∀i (hi:i<s.size),i<k->OJ (s[i]'hi).toNat=true)) s.size ⟨0,A8,AC,AC,rfl,fun _ _ h=>absurd h U⟩ ?_;rintro n F H ⟨k,hk,f0,f3,rfl,hall⟩;refine AQ f0 f3 ?_;refine DU ?_ ?_<;>intro hk'
 .refine DI f0 f3 (ix9 s k .i64 hk') ?_
  refine(AJ1 G _ _).uu ?_;refine BG ?_ ?_<;>intro hf
  .refine Z ?_
   refine⟨?_,trivial⟩;unfold ER; rw[UX hk' (BL hf)]; rfl
  .refine AQ f3 (wrap_succ (show k<9223372036854775807 by simp at h16; omega)) ?_
   refine⟨n-1,U,k+1,U,f0,rfl,trivial,fun i hi hik=>?_⟩;rcases jZ i k with h'|h'
   .exact hall i hi h'
   .have:i=k:=U
    subst this; simpa using hf
 .refine Z ?_
  refine⟨?_,trivial⟩;unfold ER;rw[vE hz hlow (fun i hi=>hall i hi U),h16,hd]; rfl
def I7 (b:Bin):Bool :=
 decide (b.kind<0)||decide (b.kind>2)||(decide ((b.ranges.l.length:Int)>0)==decide ((b.steps.length:Int)>0))||(b.kind != 0&&decide ((b.steps.length:Int)>0))||((b.steps.length:Int)==1)||decide ((b.steps.length:Int)>8)
def GR (b:Bin):Int :=
 if ER b.name then if I7 b then 1 else if b.steps.any (fun l=>decide (l.l.length=0)) then 1 else
  if(sets b).any (fun l=>decide (l.l.length>64)) then 2 else if(sets b).any (fun l=>l.l.any bad) then 1 else 0
 else 7
def shape (b:Bin):Bool :=
 if(b.kind != 0&&b.kind != 1&&b.kind != 2) then false else if((b.steps.length:Int)==0) then decide ((b.ranges.l.length:Int)>0) else
  if(decide ((b.ranges.l.length:Int)>0)||b.kind != 0||decide ((b.steps.length:Int)<2)||decide ((b.steps.length:Int)>8)) then false else !(b.steps.any (fun l=>decide (l.l.length=0)))
theorem ACU:∀(n p z o t r s0 s1 s8 E:Bool),((n||p||z||o||t) && !(n&&p) && !(n&&z) && !(n&&o) && !(n&&t) && !(p&&z) && !(p&&o) && !(p&&t) && !(z&&o) && !(z&&t) && !(o&&t) && !(s0&&s1) && !(s0&&s8) && !(s1&&s8) && !(s0&&E))=true ->
 (if(!z && !o && !t) then false else if s0 then r else if(r || !z||(s0||s1)||s8) then false else !E)=(!(n||p||(r == !s0)||(!z && !s0)||s1||s8) && !E):=by decide +kernel
theorem AIQ (k r s:Int)(E:Bool)(hs:0<=s)(hE:s=0->E=false):
  (if(k != 0&&k != 1&&k != 2) then false else if(s==0) then decide (r>0) else if(decide (r>0)||k != 0||decide (s<2)||decide (s>8)) then false else !E) =
  (!(decide (k<0)||decide (k>2)||(decide (r>0)==decide (s>0))||(k != 0&&decide (s>0))||(s==1)||decide (s>8)) && !E):=by
 have h1:decide (s>0) = !(s==0):=by rw[wI]; simp; omega
 have h2:decide (s<2)=((s==0)||(s==1)):=by rw[wI]; simp; omega
 rw[h1,h2];have key:=ACU (decide (k<0)) (decide (k>2)) (k==0) (k==1) (k==2) (decide (r>0)) (s==0) (s==1) (decide (s>8)) E ?_
 .exact key
 .have a1:(decide (k<0)||decide (k>2)||(k==0)||(k==1)||(k==2))=true:=by simp; omega
  have no:∀(p q:Prop) [Decidable p] [Decidable q],¬(p∧q)->(!(decide p&&decide q))=true:=by
   intro p q _ _ h; by_cases hp:p<;>by_cases hq:q<;>simp_all
  have e0:(s==0&&E)=false:=by
   by_cases hz:s=0
   .rw[hE hz]; simp
   .simp [hz]
  have b0:(k==0)=decide (k=0):=rfl;have b1:(k==1)=decide (k=1):=rfl;have b2:(k==2)=decide (k=2):=rfl;have c0:(s==0)=decide (s=0):=rfl;have c1:(s==1)=decide (s=1):=rfl;rw[e0]
  rw[b0,b1,b2] at a1|-
  rw[c0,c1,a1,no _ _ (U:¬(k<0∧k>2)),no _ _ (U:¬(k<0∧k=0)),no _ _ (U:¬(k<0∧k=1)),no _ _ (U:¬(k<0∧k=2)),
   no _ _ (U:¬(k>2∧k=0)),no _ _ (U:¬(k>2∧k=1)),no _ _ (U:¬(k>2∧k=2)),no _ _ (U:¬(k=0∧k=1)),no _ _ (U:¬(k=0∧k=2)),no _ _ (U:¬(k=1∧k=2)),
   no _ _ (U:¬(s=0∧s=1)),no _ _ (U:¬(s=0∧s>8)),no _ _ (U:¬(s=1∧s>8))]
  rfl
theorem wV (b:Bin):shape b=(!I7 b && !(b.steps.any (fun l=>decide (l.l.length=0)))) :=
 AIQ b.kind b.ranges.l.length b.steps.length _ U (fun h=>by
  have:b.steps=[]:=List.eq_nil_of_length_eq_zero U
  rw[this]; rfl)
theorem ACT (b:Bin)(h:Hp)(hl:b.steps.length<=1099511627776):PCall (En G) 240 [.agg (H7 b)] h (.bool (shape b)):=by
 refine ACalls.pure0 rfl ?_;refine acT Tryz.func240 2 ?_;refine OQ @bxB @SL @bT @UG ?_;refine P7 (fun F H=>F 7=.bool (b.kind != 0&&b.kind != 1&&b.kind != 2)∧F 1=.ptr h.length 0 0∧F 3=.n b.steps.length∧H=h++[qF 4 [H7 b]]) ?_ ?_
 .refine GV ?_ ?_<;>intro ha
  .refine J3 ha @SL ?_
   refine GV ?_ ?_<;>intro hb
   .refine J3 hb @SL ?_
    exact⟨rfl,trivial,trivial,trivial⟩
   .refine AO hb ?_
    exact⟨rfl,trivial,trivial,trivial⟩
  .refine AO ha ?_
   exact⟨rfl,trivial,trivial,trivial⟩
 rintro F H ⟨f7,f1,f3,rfl⟩;refine DI f7 f1 f3 ?_;refine BG ?_ ?_<;>intro hk
 .refine Z ?_
  exact⟨by unfold shape; rw[if_pos hk],_,rfl⟩
 have hk':¬(b.kind != 0&&b.kind != 1&&b.kind != 2)=true:=by rw[hk]; simp
 refine AQ f1 f3 ?_;refine BG ?_ ?_<;>intro hs
 .refine J3 f1 @bT ?_
  exact⟨by unfold shape; rw[if_neg hk',if_pos hs],_,rfl⟩
 have hs':¬((b.steps.length:Int)==0)=true:=by rw[hs]; simp
 refine JZ f1 f3 @bT ?_;refine P7 (fun F H=>F 28=.bool (decide ((b.ranges.l.length:Int)>0)||b.kind != 0||decide ((b.steps.length:Int)<2)||decide ((b.steps.length:Int)>8))∧F 1=.ptr h.length 0 0∧H=h++[qF 4 [H7 b]]) ?_ ?_
 .refine GV ?_ ?_<;>intro ha
  .refine AQ ha f1 ?_
   exact⟨trivial,trivial,trivial⟩
  refine OQ @wL ha f1 @SL ?_;refine GV ?_ ?_<;>intro hb
  .refine AQ hb f1 ?_
   exact⟨trivial,trivial,trivial⟩
  refine EO @wL hb f1 f3 ?_;refine GV ?_ ?_<;>intro hc
  .refine AQ hc f1 ?_
   exact⟨trivial,trivial,trivial⟩
  .refine EO @wL hc f1 f3 ?_
   exact⟨trivial,trivial,trivial⟩
 rintro F H ⟨f28,f1,rfl⟩;refine AQ f28 f1 ?_;refine BG ?_ ?_<;>intro ho
 .refine Z ?_
  exact⟨by unfold shape; rw[if_neg hk',if_neg hs',if_pos ho],_,rfl⟩
 have ho':¬(decide ((b.ranges.l.length:Int)>0)||b.kind != 0||decide ((b.steps.length:Int)<2)||decide ((b.steps.length:Int)>8))=true:=by rw[ho]; simp
 refine J3 f1 @UG ?_;refine(lV G b.steps b.sm 291 [] (fun l=>decide (l.l.length=0)) _ hl fun r=>AO2 G r _).uu ?_;exact⟨by unfold shape; rw[if_neg hk',if_neg hs',if_neg ho'],_,rfl⟩
theorem eN {b:Bin}(h:ER b.name=false):GR b=7:=by unfold GR; rw[h]; rfl
theorem aL {b:Bin}(h:ER b.name=true)(hs:I7 b=true):GR b=1:=by unfold GR; rw[h,hs]; rfl
theorem aM {b:Bin}(h:ER b.name=true)(hs:b.steps.any (fun l=>decide (l.l.length=0))=true):GR b=1:=by
 unfold GR; rw[h,hs]; cases I7 b<;>rfl
theorem V8 {b:Bin}(h:ER b.name=true)(hs:I7 b=false)(he:b.steps.any (fun l=>decide (l.l.length=0))=false):
  GR b=if(sets b).any (fun l=>decide (l.l.length>64)) then 2 else if(sets b).any (fun l=>l.l.any bad) then 1 else 0:=by
 unfold GR; rw[h,hs,he]; rfl
structure BinOk (b:Bin):Prop where
 num:(sets b).length<=1099511627776
 name:b.name.size<=1099511627776
 steps:b.steps.length<=1099511627776
 sets:∀l∈sets b,l.l.length<=1099511627776
theorem xR (xs:List Rng):decide (IU xs=2)=decide (xs.length>64):=by
 unfold IU;split
 .simp_all
 .split<;>simp_all
theorem eS (xs:List Rng):decide (IU xs=1)=(decide (¬xs.length>64)&&xs.any bad):=by
 unfold IU;split
 .rename_i h; simp [h]
 .rename_i h
  split
  .rename_i h2; simp only[h2,h]; rfl
  .rename_i h2; simp only[wO] at h2; simp only[h2]; simp
theorem ALR {b:Bin}(h:ER b.name=true)(hs:I7 b=false)(he:b.steps.any (fun l=>decide (l.l.length=0))=false):
  GR b=if(sets b).any (fun l=>decide (IU l.l=2)) then 2 else if(sets b).any (fun l=>decide (IU l.l=1)) then 1 else 0:=by
 rw[V8 h hs he];simp only[xR];split
 .rfl
 .rename_i hn
  have:(sets b).any (fun l=>decide (IU l.l=1))=(sets b).any (fun l=>l.l.any bad):=by
   rw[wI,qK,qK];constructor
   .rintro⟨l,h1,h2⟩
    rw[eS] at h2;simp only[jT] at h2;exact⟨l,h1,h2.2⟩
   .rintro⟨l,h1,h2⟩
    refine⟨l,h1,?_⟩;rw[eS,h2];rw[wO,qM] at hn;have:=hn l h1;simp only[decide_eq_true_eq] at this;simp only[this,not_false_eq_true,decide_true,Bool.and_self]
  rw[this]
theorem XL {α:Type}(p:α->Bool)(xs:List α)(k:Nat)(h:k<xs.length):(xs.take (k+1)).any p=((xs.take k).any p||p xs[k]):=by
 rw[jW h,List.any_append,List.any_cons,List.any_nil,Bool.or_false]
theorem valid_prog (hG:KwG G)(b:Bin)(hb:BinOk b)(h:Hp):PCall (En G) 162 [.agg (H7 b)] h (.n (GR b)):=by
 refine ACalls.pure0 rfl ?_;refine acT Tryz.func162 2 ?_;refine JZ @tQ @bxB @AHJ ?_;refine(L9 G hG b.name _ hb.name).uu ?_;refine BG ?_ ?_<;>intro hn
 .refine Z ?_
  exact⟨by rw[eN (BL hn)],_,rfl⟩
 have hn':ER b.name=true:=BL hn;refine AO @ldB ?_;refine(ACT G b _ hb.steps).uu ?_;refine BG ?_ ?_<;>intro hs
 .refine Z ?_
  refine⟨?_,_,rfl⟩;have h1:shape b=false:=BL hs;rw[wV] at h1
  cases hr:I7 b with
  | true=>rw[aL hn' hr]
  | false =>
    rw[hr] at h1;rw[aM hn' (BL h1)]
 have h1:shape b=true:=BL hs;rw[wV] at h1;simp only[jT,Bool.not_eq_true'] at h1;have hv:=V8 hn' h1.1 h1.2;refine AO @ldB ?_;refine(AIR G b _).uu ?_;refine BB (fun n F H=>∃k,n+k=(sets b).length∧F 3=.bool (((sets b).take k).any fun l=>decide (IU l.l=2))∧F 4=.bool (((sets b).take k).any fun l=>decide (IU l.l=1))∧F 15=.sl (YU b) 1 ((sets b).map encS)∧F 16=.n (sets b).length∧F 17=.n (k:Nat)∧H=h++[qF 4 [H7 b]]) (sets b).length ⟨0,A8,rfl,rfl,rfl,rfl,rfl,rfl⟩ ?_;rintro n F H ⟨k,hk,f3,f4,f15,f16,f17,rfl⟩;refine DI f15 f16 f17 ?_;refine DU ?_ ?_<;>intro hc'
 .simp -implicitDefEqProofs only[vQ,CJ,↓reduceIte,jC,enP,sY,f15,f17,CG hc',BP QX hc',lH]
  refine(xQ G _ _ _ (hb.sets _ (List.getElem_mem hc'))).use ?_;have t2:=XL (fun l:Rs=>decide (IU l.l=2)) (sets b) k hc';have t1:=XL (fun l:Rs=>decide (IU l.l=1)) (sets b) k hc';refine Z ?_;refine BG ?_ ?_<;>intro hd
  .have hd':IU (sets b)[k].l=2:=BL hd
   refine AQ f17 (wrap_succ (show k<9223372036854775807 by have:=hb.num; omega)) ?_;refine⟨n-1,U,k+1,U,?_,?_,f15,f16,rfl,trivial⟩
   .rw[t2,hd']; simp
   .rw[f4,t1,hd']; simp
  refine Z ?_;refine BG ?_ ?_<;>intro he
  .have he':IU (sets b)[k].l=1:=BL he
   refine AQ f17 (wrap_succ (show k<9223372036854775807 by have:=hb.num; omega)) ?_;refine⟨n-1,U,k+1,U,?_,?_,f15,f16,rfl,trivial⟩
   .rw[f3,t2,he']; simp
   .rw[t1,he']; simp
  .have hd':IU (sets b)[k].l≠2:=BL hd
   have he':IU (sets b)[k].l≠1:=BL he;refine AQ f17 (wrap_succ (show k<9223372036854775807 by have:=hb.num; omega)) ?_;refine⟨n-1,U,k+1,U,?_,?_,f15,f16,rfl,trivial⟩
   .rw[f3,t2]; simp [hd']
   .rw[f4,t1]; simp [he']
 .rw[jJ U] at f3 f4
  have hE:=ALR hn' h1.1 h1.2;refine AQ f3 f4 ?_;refine BG ?_ ?_<;>intro hd
  .refine Z ?_
   exact⟨by rw[hE,if_pos hd],_,rfl⟩
  refine AO f4 ?_;refine BG ?_ ?_<;>intro he
  .refine Z ?_
   exact⟨by rw[hE,if_neg (by rw[hd]; simp),if_pos he],_,rfl⟩
  .refine Z ?_
   exact⟨by rw[hE,if_neg (by rw[hd]; simp),if_neg (by rw[he]; simp)],_,rfl⟩
theorem valid_ref (b:Bin)(hb:BinOk b)(h:Hp):PCall (En G) 195 [.agg (H7 b)] h (.n (GR b)):=by
 refine ACalls.pure0 rfl ?_;refine acT Tryz.func195 2 ?_;refine JZ @tQ @bxB @AHJ ?_;refine(NF G b.name _).uu ?_;refine BG ?_ ?_<;>intro hn
 .refine Z ?_
  exact⟨by rw[eN (BL hn)],_,rfl⟩
 have hn':ER b.name=true:=BL hn;refine TM @SL ?_;refine P7 (fun F H=>F 53=.bool (I7 b)∧F 1=.ptr h.length 0 0∧H=h++[qF 4 [H7 b]]) ?_ ?_
 .refine GV ?_ ?_<;>intro ha
  .refine AO ha ?_
   exact⟨by unfold I7; rw[ha]; rfl,trivial,trivial⟩
  refine J3 ha @SL ?_;refine GV ?_ ?_<;>intro hb
  .refine AO hb ?_
   exact⟨by unfold I7; rw[ha,hb]; rfl,trivial,trivial⟩
  refine OQ be4 hb @bT @UG ?_;refine GV ?_ ?_<;>intro hc
  .refine AO hc ?_
   exact⟨by unfold I7; rw[ha,hb,hc]; rfl,trivial,trivial⟩
  refine J3 hc @SL ?_;refine GV ?_ ?_<;>intro hd
  .refine J3 hd @UG ?_
   refine GV ?_ ?_<;>intro he
   .refine AO he ?_
    exact⟨by unfold I7; rw[ha,hb,hc,hd,he]; rfl,trivial,trivial⟩
   refine J3 he @UG ?_;refine GV ?_ ?_<;>intro hf
   .refine AO hf ?_
    exact⟨by unfold I7; rw[ha,hb,hc,hd,he,hf]; rfl,trivial,trivial⟩
   .refine J3 hf @UG ?_
    exact⟨by unfold I7; rw[ha,hb,hc,hd,he,hf]; rfl,trivial,trivial⟩
  .refine J3 hd @UG ?_
   refine GV ?_ ?_<;>intro hf
   .refine AO hf ?_
    exact⟨by unfold I7; rw[ha,hb,hc,hd,hf]; rfl,trivial,trivial⟩
   .refine J3 hf @UG ?_
    exact⟨by unfold I7; rw[ha,hb,hc,hd,hf]; rfl,trivial,trivial⟩
 rintro F H ⟨f53,f1,rfl⟩;refine AQ f53 f1 ?_;refine BG ?_ ?_<;>intro hs
 .refine Z ?_
  exact⟨by rw[aL hn' hs],_,rfl⟩
 refine Z ?_;refine D9 0 (fun F H=>F 1=.ptr h.length 0 0∧H=h++[qF 4 [H7 b]]∧b.steps.any (fun l=>decide (l.l.length=0))=false) (fun F H=>F 2=.n (GR b)∧H=h++[qF 4 [H7 b]]) ?_ ?_ ?_
 .refine BB (fun n F H=>∃k,n+k=b.steps.length∧F 1=.ptr h.length 0 0∧F 3=.n (k:Nat)∧H=h++[qF 4 [H7 b]]∧(b.steps.take k).any (fun l=>decide (l.l.length=0))=false) b.steps.length ⟨0,A8,TN f1,EX,rfl,rfl⟩ ?_
  rintro n F H ⟨k,hk,f1,f3,rfl,hin⟩;refine JZ f1 f3 @UG ?_;refine DU ?_ ?_<;>intro hc'
  .have t0:=XL (fun l:Rs=>decide (l.l.length=0)) b.steps k hc'
   simp -implicitDefEqProofs only[vQ,CJ,JO,↓reduceIte,jC,enP,kO,sY,tP,f1,f3,D6 VM,UG,CG hc',BP QX hc',lH,jL];refine BG ?_ ?_<;>intro hd
   .refine Z ?_
    refine⟨?_,trivial⟩
    have:b.steps.any (fun l=>decide (l.l.length=0))=true:=by
     rw[qK];exact⟨b.steps[k],A8,by simp at hd; simp [hd]⟩
    rw[aM hn' this]
   .refine AQ f3 (wrap_succ (show k<9223372036854775807 by have:=hb.steps; omega)) ?_
    refine⟨n-1,U,k+1,U,f1,rfl,trivial,?_⟩;rw[t0,hin];simp at hd;simp [hd]
  .refine Z ?_
   rw[jJ U] at hin;exact⟨f1,trivial,hin⟩
 .rintro F H ⟨f1,rfl,he⟩
  have hs':I7 b=false:=BL hs;have hv:=V8 hn' hs' he;refine AQ f1 @ldB ?_;refine(AMA G b _).uu ?_;refine D9 2 (fun F H=>F 4=.sl (YU b) 1 ((sets b).map encS)∧H=h++[qF 4 [H7 b]]∧(sets b).any (fun l=>decide (l.l.length>64))=false) (fun F H=>F 2=.n (GR b)∧H=h++[qF 4 [H7 b]]) ?_ ?_ ?_
  .refine BB (fun n F H=>∃k,n+k=(sets b).length∧F 4=.sl (YU b) 1 ((sets b).map encS)∧F 5=.n (k:Nat)∧H=h++[qF 4 [H7 b]]∧((sets b).take k).any (fun l=>decide (l.l.length>64))=false) (sets b).length ⟨0,A8,EX,EX,rfl,rfl⟩ ?_
   rintro n F H ⟨k,hk,f4,f5,rfl,hin⟩;refine AQ f4 f5 ?_;refine DU ?_ ?_<;>intro hc'
   .have t0:=XL (fun l:Rs=>decide (l.l.length>64)) (sets b) k hc'
    simp -implicitDefEqProofs only[vQ,CJ,↓reduceIte,jC,enP,kO,sY,f4,f5,CG hc',BP QX hc',lH,jL];refine BG ?_ ?_<;>intro hd
    .refine Z ?_
     refine⟨?_,trivial⟩
     have:(sets b).any (fun l=>decide (l.l.length>64))=true:=by
      rw[qK];exact⟨(sets b)[k],A8,by simp at hd|-; omega⟩
     rw[hv,if_pos this]
    .refine AQ f5 (wrap_succ (show k<9223372036854775807 by have:=hb.num; omega)) ?_
     refine⟨n-1,U,k+1,U,f4,rfl,trivial,?_⟩;rw[t0,hin]
     simp at hd|-
     omega
   .refine Z ?_
    rw[jJ U] at hin;exact⟨f4,trivial,hin⟩
  .rintro F H ⟨f4,rfl,h64⟩
   rw[h64] at hv;simp only[Bool.false_eq_true,if_false] at hv;refine AO f4 ?_;refine BB (fun n F H=>∃k,n+k=(sets b).length∧F 4=.sl (YU b) 1 ((sets b).map encS)∧F 6=.n (k:Nat)∧H=h++[qF 4 [H7 b]]∧((sets b).take k).any (fun l=>l.l.any bad)=false) (sets b).length ⟨0,A8,TN f4,EX,rfl,rfl⟩ ?_;rintro n F H ⟨k,hk,f4,f6,rfl,hin⟩;refine AQ f4 f6 ?_;refine DU ?_ ?_<;>intro hc'
   .have t0:=XL (fun l:Rs=>l.l.any bad) (sets b) k hc'
    simp -implicitDefEqProofs only[vQ,CJ,↓reduceIte,jC,enP,sY,f4,f6,CG hc',BP QX hc',lH,jL];refine(AC8 G _ _ _).use ?_
    have hk64:¬(sets b)[k].l.length>64:=by
     rw[qM] at h64;have:=h64 (sets b)[k] A8;simpa using this
    refine Z ?_
    cases hbad:(sets b)[k].l.any bad with
    | true =>
      have hr:=WF hk64 hbad;refine BG ?_ ?_<;>intro hd
      .refine Z ?_
       refine⟨?_,_,rfl⟩
       have:(sets b).any (fun l=>l.l.any bad)=true:=by
        rw[qK];exact⟨(sets b)[k],A8,hbad⟩
       rw[hr,hv,if_pos this]
      .rw[hr] at hd; simp at hd
    | false =>
      have hr:=ZI hk64 hbad;refine BG ?_ ?_<;>intro hd
      .rw[hr] at hd; simp at hd
      .refine AQ f6 (wrap_succ (show k<9223372036854775807 by have:=hb.num; omega)) ?_
       refine⟨n-1,U,k+1,U,f4,rfl,trivial,?_⟩;rw[t0,hin,hbad]; rfl
   .refine Z ?_
    rw[jJ U] at hin;exact⟨by rw[hv,if_neg (by rw[hin]; simp)],_,rfl⟩
  .rintro F H ⟨f2,rfl⟩
   refine Z ?_;exact⟨f2,_,rfl⟩
 .rintro F H ⟨f2,rfl⟩
  refine Z ?_;exact⟨by rw[f2],_,rfl⟩
end Go.Proofs.YtiihpnicbekebaaGreatDoor.Bins
namespace Go.Proofs.YtiihpnicbekebaaGreatDoor.Cov
open Sm Bins
variable (G:Nat->AV )
inductive Ex where
 | mk (op n:Int) (name:ByteArray) (m:SM) (args:List Ex)
def Ex.op:Ex->Int|.mk op _ _ _ _=>op
def Ex.n:Ex->Int|.mk _ n _ _ _=>n
def Ex.name:Ex->ByteArray|.mk _ _ name _ _=>name
def Ex.m:Ex->SM|.mk _ _ _ m _=>m
def Ex.args:Ex->List Ex|.mk _ _ _ _ args=>args
mutual
def AY:Ex->List AV
 | .mk op n name m args=>[.n op,.n n,.str name,.sl m 4 (AA6 args)]
def AA6:List Ex->List (List AV)
 | []=>[]
 | e::es=>AY e::AA6 es
end
theorem pY:∀l:List Ex,AA6 l=l.map AY
 | []=>by simp [AA6]
 | e::es=>by simp [AA6,pY es]
theorem EY (e:Ex):AY e=[.n e.op,.n e.n,.str e.name,.sl e.m 4 (e.args.map AY)]:=by
 cases e; simp [AY,pY,Ex.op,Ex.n,Ex.name,Ex.m,Ex.args]
theorem EF (e:Ex):(AY e).length=4:=by rw[EY]; rfl
theorem JS (e:Ex):(AY e)[0]?=some (.n e.op):=by rw[EY]; rfl
theorem bS (e:Ex):(AY e)[1]?=some (.n e.n):=by rw[EY]; rfl
theorem QT (e:Ex):(AY e)[2]?=some (.str e.name):=by rw[EY]; rfl
theorem XH (e:Ex):(AY e)[3]?=some (.sl e.m 4 (e.args.map AY)):=by rw[EY]; rfl
theorem UF (e:Ex):(AY e).all AV.leaf=true:=by rw[EY]; rfl
theorem bxE (h:Hp)(e:Ex):MP h (.agg (AY e))=some (.ptr h.length 0 0,h++[qF 4 [AY e]]):=by
 have:=YH (h:=h) (UF e);rw[EF] at this; exact this
theorem ldE (h:Hp)(e:Ex):BO jA (h++[qF 4 [AY e]]) 79 (.ptr h.length 0 0)=some (.agg (AY e)):=by
 rw[X8 OZ I8 (by rw[EF]; exact jF 4)];rw[zM,jJ (by rw[EF]; exact jF 4)]
theorem IW {h:Hp}{b:Nat}{e:Ex}(hb:h[b]?=some (qF 4 [AY e])):BO jA h 79 (.ptr b 0 0)=some (.agg (AY e)):=by
 rw[EH OZ I8 hb rfl (by rw[EF]; exact jF 4)];rw[zM,jJ (by rw[EF]; exact jF 4)]
mutual
def pre:Ex->List Ex
 | .mk op n name m args=>.mk op n name m args::E8 args
def E8:List Ex->List Ex
 | []=>[]
 | e::es=>pre e++E8 es
end
mutual
def dep:Ex->Nat
 | .mk _ _ _ _ args=>deps args+1
def deps:List Ex->Nat
 | []=>0
 | e::es=>max (dep e) (deps es)
end
mutual
def wt:Ex->Nat
 | .mk _ _ name _ args=>name.size+1+wts args
def wts:List Ex->Nat
 | []=>0
 | e::es=>wt e+wts es
end
theorem pre_eq (e:Ex):pre e=e::E8 e.args:=by cases e; simp [pre,Ex.args]
theorem Z4 (e:Ex):dep e=deps e.args+1:=by cases e; simp [dep,Ex.args]
theorem MH (e:Ex):wt e=e.name.size+1+wts e.args:=by cases e; simp [wt,Ex.args,Ex.name]
theorem MX (xs ys:List Ex):E8 (xs++ys)=E8 xs++E8 ys:=by
 induction xs with
 | nil=>simp [E8]
 | cons x xs ih=>simp [E8,ih]
theorem UW (xs:List Ex):xs.length<=wts xs:=by
 induction xs with
 | nil=>simp [wts]
 | cons x xs ih=>have:=MH x; simp [wts]; omega
theorem UU {xs:List Ex}{x:Ex}(h:x∈xs):wt x<=wts xs:=by
 induction xs with
 | nil=>cases h
 | cons y ys ih =>
   simp only[wts]
   cases List.mem_cons.1 h with
   | inl e=>subst e; omega
   | inr e=>have:=ih e; omega
theorem qS (xs:List Ex)(k:Nat)(h:k<xs.length):deps (xs.take (k+1))=max (deps (xs.take k)) (dep xs[k]):=by
 induction xs generalizing k with
 | nil=>simp at h
 | cons x xs ih =>
   cases k with
   | zero=>simp [deps]
   | succ k =>
     simp only[List.take_succ_cons,deps,List.getElem_cons_succ];rw[ih k (BL h),Nat.max_assoc]
theorem Ex.induct {P:Ex->Prop}(h:∀e:Ex,(∀a∈e.args,P a)->P e)(e:Ex):P e:=by
 have:∀n (e:Ex),wt e<=n->P e:=by
  intro n
  induction n with
  | zero=>intro e he; have:=MH e; omega
  | succ n ih =>
    intro e he;refine h e fun a ha=>ih a ?_
    have h1:=UU ha;have h2:=MH e;omega
 exact this _ e (jF _)
theorem AO4 (e:Ex):dep e<=wt e:=by
 refine Ex.induct (P:=fun e=>dep e<=wt e) (fun e ih=>?_) e;rw[Z4,MH]
 have:deps e.args<=wts e.args:=by
  generalize e.args=l at ih
  induction l with
  | nil=>simp [deps,wts]
  | cons x l ih2 =>
    have h1:=ih x A8;have h2:=ih2 (fun a ha=>ih a (by simp [ha]));simp only[deps,wts]; omega
 omega
theorem VA (e:Ex):(pre e).length<=wt e:=by
 refine Ex.induct (P:=fun e=>(pre e).length<=wt e) (fun e ih=>?_) e;rw[pre_eq,MH]
 have:(E8 e.args).length<=wts e.args:=by
  generalize e.args=l at ih
  induction l with
  | nil=>simp [E8,wts]
  | cons x l ih2 =>
    have h1:=ih x A8;have h2:=ih2 (fun a ha=>ih a (by simp [ha]));simp only[E8,wts,List.length_append]; omega
 simp; omega
def arity (op:Int):Int:=if op<1∨op>25 then -1 else if op=1∨op=2∨op=24 then 0 else if op=3∨op=4∨op=5∨op=6∨op=25 then 1 else if op=22 then 3 else if op=23 then -1 else 2
theorem AEX (op:Int)(h:Hp):PCall (En G) 299 [.n op] h (.n (arity op)):=by
 refine acT Tryz.func299 2 ?_;have hcase:op<1∨op>25∨op=1∨op=2∨op=3∨op=4∨op=5∨op=6∨op=7∨op=8∨op=9∨op=10∨op=11∨op=12∨op=13∨op=14∨op=15∨op=16∨op=17∨op=18∨op=19∨op=20∨op=21∨op=22∨op=23∨op=24∨op=25:=U;rcases hcase with h|h|rfl|rfl|rfl|rfl|rfl|rfl|rfl|rfl|rfl|rfl|rfl|rfl|rfl|rfl|rfl|rfl|rfl|rfl|rfl|rfl|rfl|rfl|rfl|rfl|rfl
 .have hne:∀k:Int,1<=k->(op==k)=false:=fun k hk=>beq_eq_false_iff_ne.2 U
  have hd:decide (op<1)=true:=by simp; omega
  have ha:arity op = -1:=by unfold arity; rw[if_pos (Or.inl h)]
  rw[ha];simp -implicitDefEqProofs only[vQ,N7,NK,ED,cM,CJ,FM,JO,↓reduceIte,jC,enX,enP,hne 1 DK,hne 2 DK,hne 3 DK,hne 4 DK,hne 5 DK,hne 6 DK,hne 7 DK,hne 8 DK,hne 9 DK,hne 10 DK,hne 11 DK,hne 12 DK,hne 13 DK,hne 14 DK,hne 15 DK,hne 16 DK,hne 17 DK,hne 18 DK,hne 19 DK,hne 20 DK,hne 21 DK,hne 22 DK,hne 23 DK,hne 24 DK,hne 25 DK,hd];exact G8
 .have hne:∀k:Int,k<=25->(op==k)=false:=fun k hk=>beq_eq_false_iff_ne.2 U
  have hd:decide (op<1)=false:=by simp; omega
  have hd2:decide (op>25)=true:=by simp; omega
  have ha:arity op = -1:=by unfold arity; rw[if_pos (Or.inr h)]
  rw[ha];simp -implicitDefEqProofs only[vQ,N7,NK,ED,CJ,JO,↓reduceIte,jC,enX,enP,hne 1 DK,hne 2 DK,hne 3 DK,hne 4 DK,hne 5 DK,hne 6 DK,hne 7 DK,hne 8 DK,hne 9 DK,hne 10 DK,hne 11 DK,hne 12 DK,hne 13 DK,hne 14 DK,hne 15 DK,hne 16 DK,hne 17 DK,hne 18 DK,hne 19 DK,hne 20 DK,hne 21 DK,hne 22 DK,hne 23 DK,hne 24 DK,hne 25 DK,hd,hd2];exact G8
 all_goals
  simp -implicitDefEqProofs only[vQ,N7,rC,NK,ED,CJ,JO,↓reduceIte,jC,decide_false,enX,enP,qZ,Int.reduceLT,Int.reduceGT];exact⟨rfl,trivial⟩
theorem AK1 (op:Int)(h:Hp):PCall (En G) 332 [.n op] h (.n (arity op)):=by
 refine acT Tryz.func332 2 ?_;have hcase:op<1∨op>25∨op=1∨op=2∨op=3∨op=4∨op=5∨op=6∨op=7∨op=8∨op=9∨op=10∨op=11∨op=12∨op=13∨op=14∨op=15∨op=16∨op=17∨op=18∨op=19∨op=20∨op=21∨op=22∨op=23∨op=24∨op=25:=U;rcases hcase with h|h|rfl|rfl|rfl|rfl|rfl|rfl|rfl|rfl|rfl|rfl|rfl|rfl|rfl|rfl|rfl|rfl|rfl|rfl|rfl|rfl|rfl|rfl|rfl|rfl|rfl
 .have hne:∀k:Int,1<=k->(op==k)=false:=fun k hk=>beq_eq_false_iff_ne.2 U
  have hd:decide (op<1)=true:=by simp; omega
  have ha:arity op = -1:=by unfold arity; rw[if_pos (Or.inl h)]
  rw[ha];simp -implicitDefEqProofs only[vQ,N7,NK,ED,cM,CJ,FM,JO,↓reduceIte,jC,enX,enP,hne 1 DK,hne 2 DK,hne 3 DK,hne 4 DK,hne 5 DK,hne 6 DK,hne 7 DK,hne 8 DK,hne 9 DK,hne 10 DK,hne 11 DK,hne 12 DK,hne 13 DK,hne 14 DK,hne 15 DK,hne 16 DK,hne 17 DK,hne 18 DK,hne 19 DK,hne 20 DK,hne 21 DK,hne 22 DK,hne 23 DK,hne 24 DK,hne 25 DK,hd];exact G8
 .have hne:∀k:Int,k<=25->(op==k)=false:=fun k hk=>beq_eq_false_iff_ne.2 U
  have hd:decide (op<1)=false:=by simp; omega
  have hd2:decide (op>25)=true:=by simp; omega
  have ha:arity op = -1:=by unfold arity; rw[if_pos (Or.inr h)]
  rw[ha];simp -implicitDefEqProofs only[vQ,N7,NK,ED,CJ,JO,↓reduceIte,jC,enX,enP,hne 1 DK,hne 2 DK,hne 3 DK,hne 4 DK,hne 5 DK,hne 6 DK,hne 7 DK,hne 8 DK,hne 9 DK,hne 10 DK,hne 11 DK,hne 12 DK,hne 13 DK,hne 14 DK,hne 15 DK,hne 16 DK,hne 17 DK,hne 18 DK,hne 19 DK,hne 20 DK,hne 21 DK,hne 22 DK,hne 23 DK,hne 24 DK,hne 25 DK,hd,hd2];exact G8
 all_goals
  simp -implicitDefEqProofs only[vQ,N7,rC,NK,CJ,JO,↓reduceIte,jC,enX,enP,qZ,Int.reduceLT,Int.reduceGT];exact⟨rfl,trivial⟩
def KN (op:Int):Bool:=op==2||op==3||op==24
theorem dC (op:Int)(h:Hp):PCall (En G) 331 [.n op] h (.bool (KN op)):=by
 refine acT Tryz.func331 2 ?_;refine Z ?_;cases ha:(op==2)<;>cases hb:(op==3)
 all_goals
  refine AQ ha hb ?_;exact⟨by simp [KN,ha,hb],trivial⟩
def TS (op:Int)(n:Nat):Bool:=if op==23 then ((n:Int)%2==1)&&decide ((n:Int)≥3)&&decide ((n:Int)<=33) else ((n:Int)==arity op)
theorem nJ (e:Ex)(h:Hp):PCall (En G) 249 [.agg (AY e)] h (.bool (TS e.op e.args.length)):=by
 refine ACalls.pure0 rfl ?_;refine acT Tryz.func249 2 ?_;refine JZ @bxE @XH @JS ?_;generalize he:e.args.length=n;have hm:(n:Int).tmod 2=(n:Int)%2:=Int.tmod_eq_emod_of_nonneg U;have b1:H9 jA 3 .rem (.n (n:Int)) (.n 2)=some (.n ((n:Int)%2)):=by rw[hZ _ _ _ _ _ DK,hm]
 refine BG ?_ ?_<;>intro hc
 .refine AO b1 ?_
  cases ha:((n:Int)%2==1)<;>cases hb:decide ((n:Int)≥3)
  all_goals
   refine AQ ha hb ?_;exact⟨by unfold TS; rw[if_pos hc,ha,hb]; simp,_,rfl⟩
 .refine TM @JS ?_
  refine(AEX G e.op _).uu ?_;exact⟨by unfold TS; rw[if_neg (by rw[hc]; decide)],_,rfl⟩
end Go.Proofs.YtiihpnicbekebaaGreatDoor.Cov
namespace Go.Proofs.YtiihpnicbekebaaGreatDoor.Cov
open Sm Bins Go.Shelf Go.RowKit
def AO8:Go.Shelf.Ren:=⟨fun|145=>232|220=>287|219=>323|217=>354|225=>355|224=>356|267=>357|266=>394|314=>395|n=>n,fun|9=>9|4=>4|59=>284|3=>3|5=>5|46=>344|146=>373|51=>364|n=>n,fun|1=>1|n=>n⟩
theorem A27:Go.Proofs.Lays.n145 Tryz.prog AO8 := {
 mixed:=AZ,
 f145:=Tryz.func232.trans (congrArg some AZ),
 f217:=Tryz.func354.trans (congrArg some AZ),
 f219:=Tryz.func323.trans (congrArg some AZ),
 f220:=Tryz.func287.trans (congrArg some AZ),
 f224:=Tryz.func356.trans (congrArg some AZ),
 f225:=Tryz.func355.trans (congrArg some AZ),
 f266:=Tryz.func394.trans (congrArg some AZ),
 f267:=Tryz.func357.trans (congrArg some AZ),
 f314:=Tryz.func395.trans (congrArg some AZ),
 t3:=Tryz.underlying3,
 a3:=Tryz.isAgg3,
 z3:=Tryz.sizeOf3,
 v3:=Tryz.zeroValue3,
 t4:=Tryz.underlying4,
 a4:=Tryz.isAgg4,
 z4:=Tryz.sizeOf4,
 v4:=Tryz.zeroValue4,
 t5:=Tryz.underlying5,
 a5:=Tryz.isAgg5,
 z5:=Tryz.sizeOf5,
 v5:=Tryz.zeroValue5,
 t9:=Tryz.underlying9,
 a9:=Tryz.isAgg9,
 z9:=Tryz.sizeOf9,
 v9:=Tryz.zeroValue9,
 t46:=Tryz.underlying344,
 a46:=Tryz.isAgg344,
 z46:=Tryz.sizeOf344,
 v46:=Tryz.zeroValue344,
 t51:=Tryz.underlying364,
 a51:=Tryz.isAgg364,
 z51:=Tryz.sizeOf364,
 v51:=Tryz.zeroValue364,
 t59:=Tryz.underlying284,
 a59:=Tryz.isAgg284,
 z59:=Tryz.sizeOf284,
 v59:=Tryz.zeroValue284,
 t146:=Tryz.underlying373,
 a146:=Tryz.isAgg373,
 z146:=Tryz.sizeOf373,
 v146:=Tryz.zeroValue373,
 g1:=by kernel_rfl }
structure GOk (G:Nat->AV):Prop where
 kw:KwG G
 mx:∃n,G 1=.fptr 1 [[.n n]] 0 0
theorem AN8 {G:Nat->AV}{g:Gh}{h:Hp}{w:World}{n:Nat}{k:IntKind}{z:Int}(S:SimH (En G) g h w)(hn:G n=.fptr 1 [[.int k z]] 0 0):w.cell? ⟨n,0,none⟩=some (.int k z):=by
 have:=S.glob n;rw[enG,hn] at this;generalize hp:Value.pointer (some ⟨n,0,none⟩)=p at this
 cases this with
 | fptr k' xs i j cb co c e fz cv h1 h2 h3 h4 =>
   simp only[Value.pointer.injEq,Option.some.injEq,Addr.mk.injEq] at hp;obtain⟨rfl,hco,_⟩:=hp;have h5:=h3 0 0 A8 A8;have h6:=h4 0 0 _ _ rfl rfl;generalize cv 0 0=u at h5 h6;cases h6;simp only[World.cell?,S.fro _ _ h1];subst hco;exact h5
def cutV (s:ByteArray):AV:=.tup [.str ⟨(Lib.cut s.data.toList [91]).1.toArray⟩,.str ⟨(Lib.cut s.data.toList [91]).2.1.toArray⟩,.bool (Lib.cut s.data.toList [91]).2.2]
theorem lT (G:Nat->AV)(hG:GOk G)(s:ByteArray)(h:Hp)(hl:s.size<=1048576):PCall (En G) 232 [.str s,.str ⟨#[91]⟩] h (cutV s):=by
 refine PCall.of_reads (cok 232 G AZ) fun g w cargs S ha=>?_
 obtain⟨hsz,hget⟩:=ha
 obtain⟨cv0,cv1,rfl⟩:∃a b,cargs = #[a,b]:=by
  obtain⟨l⟩:=cargs
  match l,hsz with
  | [a,b],_=>exact⟨a,b,rfl⟩
 obtain rfl:=(hget 0 _ cv0 rfl rfl).str_inv;obtain rfl:=(hget 1 _ cv1 rfl rfl).str_inv;obtain⟨z,hz⟩:=hG.mx;have hc:=AN8 S hz;have:=Any.strings_Cut A27 s ⟨#[91]⟩ z w U hc;refine⟨_,?_,this⟩;refine .tup _ _ rfl ?_;intro i v cv h1 h2
 match i,h1,h2 with
 | 0,h1,h2=>simp at h1 h2; subst h1; subst h2; exact .str _ _
 | 1,h1,h2=>simp at h1 h2; subst h1; subst h2; exact .str _ _
 | 2,h1,h2=>simp at h1 h2; subst h1; subst h2; exact .bool _ _
def JK (s:ByteArray):Option (List UInt8×UInt8) :=
 if 4<=s.data.toList.length then match s.data.toList.drop (s.data.toList.length-3) with
  | [x,d,y]=>if(y==93&&x==91&&decide (48<=d.toNat)&&decide (d.toNat<56)&&ER ⟨(s.data.toList.take (s.data.toList.length-3)).toArray⟩)=true then some (s.data.toList.take (s.data.toList.length-3),d) else none
  | _=>none
 else none
def elemV (o:Option (List UInt8×UInt8)):AV:=match o with
 | some (a,d)=>.tup [.str ⟨a.toArray⟩,.n ((d.toNat:Int)-48),.bool true]
 | none=>.tup [.str ⟨#[]⟩,.n 0,.bool false]
theorem RG {l:List UInt8}(h:ER ⟨l.toArray⟩=true):l≠[]∧∀b∈l,b≠91:=by
 have hw:UB ⟨l.toArray⟩=true:=by
  unfold ER at h;exact(Bool.and_eq_true_iff.1 (Bool.and_eq_true_iff.1 h).1).1
 unfold UB at hw;obtain⟨h1,h2⟩:=Bool.and_eq_true_iff.1 hw;refine⟨?_,?_⟩
 .intro e; subst e; cases h1
 .intro b hb e
  subst e;have:=List.all_eq_true.1 h2 91 hb
  revert this; decide
theorem three {l:List UInt8}(h:3<=l.length):∃a x d y,l=a++[x,d,y]:=by
 refine⟨l.take (l.length-3),?_⟩;have h1:(l.drop (l.length-3)).length=3:=by simp; omega
 match hm:l.drop (l.length-3),h1 with
 | [x,d,y],_=>exact⟨x,d,y,by rw[<-hm,wC]⟩
theorem bU {a:List UInt8}{x d y:UInt8}(ha:a≠[]):JK ⟨(a++[x,d,y]).toArray⟩=if(y==93&&x==91&&decide (48<=d.toNat)&&decide (d.toNat<56)&&ER ⟨a.toArray⟩)=true then some (a,d) else none:=by
 have hl:0<a.length:=List.length_pos_iff.2 ha;unfold JK;simp only;rw[if_pos MS];have e:(a++[x,d,y]).length-3=a.length:=A8;rw[e,List.drop_left,List.take_left]
theorem lO (s:ByteArray):JK s=if((Lib.cut s.data.toList [91]).2.2&&ER ⟨(Lib.cut s.data.toList [91]).1.toArray⟩)=true then match (Lib.cut s.data.toList [91]).2.1 with
  | [d,y]=>if(y==93&&decide (48<=d.toNat)&&decide (d.toNat<56))=true then some ((Lib.cut s.data.toList [91]).1,d) else none
  | _=>none
 else none:=by
 obtain⟨⟨l⟩⟩:=s
 have hocc:∀i,Lib.occAt l [91] i=true↔l[i]?=some 91:=by
  intro i;unfold Lib.occAt;rcases Nat.lt_or_ge i l.length with h|h
  .rw[zS h,jI h]
   simp [List.isPrefixOf];exact eq_comm
  .rw[List.drop_eq_nil_of_le h,List.getElem?_eq_none h]; simp [List.isPrefixOf]
 -- an element name of the reference's kind
 have main:∀a d,a≠[]->ER ⟨a.toArray⟩=true->l=a++[91,d,93]->Lib.cut l [91]=(a,[d,93],true):=by
  intro a d ha hn hl;obtain⟨_,hne⟩:=RG hn
  have hi:Lib.index l [91]=(a.length:Int):=by
   refine Lib.index_first (by rw[hl]; simp) ((hocc _).2 (by rw[hl]; simp)) fun j hj=>?_
   rw[<-Bool.not_eq_true,hocc,hl,List.getElem?_append_left hj,jI hj];intro e;exact hne _ (List.getElem_mem hj) (Option.some.inj e)
  unfold Lib.cut;rw[hi,if_pos U,qN,hl,List.take_left,<-List.drop_drop,List.drop_left];rfl
 show JK ⟨l.toArray⟩=_;rcases hcase:JK ⟨l.toArray⟩ with _|⟨a,d⟩
 .symm
  show(if _ then _ else none)=none;simp only;split
  .rename_i hb
   rw[jT] at hb;split
   .rename_i d y hm
    split
    .rename_i hd
     exfalso;simp only[jT,beq_iff_eq,decide_eq_true_eq] at hd;obtain⟨⟨rfl,hd1⟩,hd2⟩:=hd;obtain⟨ha,_⟩:=RG hb.2
     have hc:Lib.cut l [91]=((Lib.cut l [91]).1,[d,93],true):=by
      rw[<-hm]; have:=hb.1; cases hcc:Lib.cut l [91] with
      | mk p q=>cases q with
        | mk q1 q2=>rw[hcc] at this; simp at this; subst this; rfl
     have hl:l=(Lib.cut l [91]).1++[91,d,93]:=by
      generalize (Lib.cut l [91]).1=b at hc;unfold Lib.cut at hc;split at hc
      .rename_i h0
       obtain⟨i,hi⟩:∃i:Nat,Lib.index l [91]=i:=⟨(Lib.index l [91]).toNat,U⟩;rw[hi] at hc;simp only[qN,Prod.mk.injEq,List.length_singleton] at hc;rcases Lib.index_spec l [91] with⟨h1,_⟩|⟨j,h1,_,h3,_⟩
       .omega
       .have hj:i=j:=U
        subst hj;have h4:=(hocc i).1 h3;have h5:i<l.length:=(List.getElem?_eq_some_iff.1 h4).1;have h6:l[i]=91:=by rw[jI h5] at h4; exact Option.some.inj h4
        rw[<-hc.1]
        calc l=l.take i++l.drop i:=(wC i l).symm
         _=l.take i++(l[i]::l.drop (i+1)):=by rw[zS h5]
         _=l.take i++[91,d,93]:=by rw[h6,hc.2.1]
      .simp at hc
     have:=bU (x:=91) (d:=d) (y:=93) ha;rw[<-hl,hcase,if_pos (by simp [hb.2,hd1,hd2])] at this;cases this
    .rfl
   .rfl
  .rfl
 .have h4:4<=l.length:=by
   unfold JK at hcase;simp only at hcase;split at hcase
   .assumption
   .cases hcase
  obtain⟨b,x,d',y,rfl⟩:=three (U:3<=l.length);have hb:b≠[]:=by intro e; subst e; simp at h4
  rw[bU hb] at hcase;split at hcase
  .rename_i hc
   cases hcase;simp only[jT,beq_iff_eq,decide_eq_true_eq] at hc;obtain⟨⟨⟨⟨rfl,rfl⟩,h1⟩,h2⟩,h3⟩:=hc;simp only;rw[main a d hb h3 rfl];simp [h3,h1,h2]
  .cases hcase
end Go.Proofs.YtiihpnicbekebaaGreatDoor.Cov
namespace Go.Proofs.YtiihpnicbekebaaGreatDoor.Cov
open Sm Bins Go.RowKit
variable {c cb dd j k m m2 n o:Nat} {H h h':Hp} {v v1 v2:AV} {E:Env} {f:Int} (G:Nat->AV )
theorem AHO (l:List UInt8):(Lib.cut l [91]).1.length<=l.length:=by
 unfold Lib.cut;split
 .simp only[jU]; exact Nat.min_le_right _ _
 .exact jF _
theorem ixl {l:List UInt8}{b:UInt8}{i:Int}(hi:i=(k:Int))(hb:l[k]?=some b):O1 jA 9 (.str ⟨l.toArray⟩) (.n i)=some (.int .u8 b.toNat):=by
 subst hi;have hk:k<l.length:=(List.getElem?_eq_some_iff.1 hb).1;have:=ix9 ⟨l.toArray⟩ k .i64 hk;rw[this];have h2:(⟨l.toArray⟩:ByteArray)[k]'hk=l[k]:=rfl;rw[h2];rw[jI hk] at hb;rw[Option.some.inj hb]
theorem szl (l:List UInt8):(⟨l.toArray⟩:ByteArray).size=l.length:=rfl
theorem wrap_u8 {n:Int}(h0:0<=n)(h1:n<256):IntKind.u8.wrap n=n:=by
 unfold IntKind.wrap; simp [IntKind.bits,IntKind.signed]; omega
theorem uH (hG:GOk G)(s:ByteArray)(h:Hp)(hl:s.size<=1048576):PCall (En G) 300 [.str s] h (elemV (JK s)):=by
 refine acL Tryz.func300 [.tmp 2,.tmp 3,.tmp 4] ?_;refine Z ?_;refine(lT G hG s h hl).use ?_;have he:=lO s;have hal:=AHO s.data.toList;unfold cutV
 generalize Lib.cut s.data.toList [91]=c at he hal|-
 obtain⟨a,b,f⟩:=c;have hal2:a.length<=s.size:=BL hal;refine Z ?_;cases f
 .refine Z ?_
  exact⟨by rw[he]; rfl,trivial⟩
 refine Z ?_;refine(L9 G hG.kw ⟨a.toArray⟩ h (by rw[szl]; omega)).uu ?_;cases hn:ER ⟨a.toArray⟩
 .refine Z ?_
  exact⟨by rw[he]; simp [hn]; rfl,trivial⟩
 refine AO szl ?_;refine GV ?_ ?_<;>intro hb
 .refine AO hb ?_
  have hne:∀d y,b≠[d,y]:=by
   intro d y e; subst e; simp at hb
  have:JK s=none:=by
   rw[he]; split
   .split
    .rename_i hm; exact absurd hm (hne _ _)
    .rfl
   .rfl
  exact⟨by rw[this]; rfl,trivial⟩
 have h2:b.length=2:=by simp at hb; omega
 match b,h2 with
 | [d,y],_ =>
   have i1:O1 jA 9 (.str ⟨[d,y].toArray⟩) (.n 1)=some (.int .u8 y.toNat):=ixl (k:=1) rfl rfl;have i0:O1 jA 9 (.str ⟨[d,y].toArray⟩) (.n 0)=some (.int .u8 d.toNat):=ixl (k:=0) rfl rfl
   have he2:JK s=if(y==93&&decide (48<=d.toNat)&&decide (d.toNat<56))=true then some (a,d) else none:=by
    rw[he]; simp [hn]
   clear he;refine DI hb i1 i0 ?_;refine GV ?_ ?_<;>intro hc
   .refine AO hc ?_
    have hy:(y==93)=false:=by
     rw[<-wO]; intro e; rw[beq_iff_eq] at e; subst e; simp at hc
    exact⟨by rw[he2,hy]; rfl,trivial⟩
   have hy:(y==93)=true:=by
    rw[beq_iff_eq,<-UInt8.toNat_inj];simp at hc; show y.toNat=93; omega
   refine AQ hc i0 ?_;refine GV ?_ ?_<;>intro hd
   .refine AO hd ?_
    have:decide (48<=d.toNat)=false:=by simp at hd|-; omega
    exact⟨by rw[he2,this]; simp; rfl,trivial⟩
   have hd1:48<=d.toNat:=by simp at hd; omega
   refine AQ hd i0 ?_;refine BG ?_ ?_<;>intro hf
   .refine Z ?_
    have:decide (d.toNat<56)=false:=by simp at hf|-; omega
    exact⟨by rw[he2,this]; simp; rfl,trivial⟩
   have hd2:d.toNat<56:=by simp at hf; omega
   refine Z ?_;refine DJ AZ ?_;refine MR @ALI @rT @AO5 i0 (wrap_u8 (n:=(d.toNat:Int)-48) U U) (wrap_i64 (n:=(d.toNat:Int)-48) U U) ?_;exact⟨by rw[he2]; simp [hy,hd1,hd2]; rfl,trivial⟩
theorem iM {s:ByteArray}{u:Nat}(hu:u<=s.size):IQ jA h 9 (.str s) none (some (.n (u:Int))) none=some (.str (s.extract 0 u)):=by
 have:Tryz.prog.underlying 9=some .string:=AZ;simp [IQ,this,GZ,hu]
theorem AHD (a b:List UInt8):(⟨(a++b).toArray⟩:ByteArray).extract 0 a.length=⟨a.toArray⟩:=by
 ext1
 simp
theorem AIN (s:ByteArray)(h:Hp)(hl:s.size<=1099511627776):PCall (En G) 369 [.str s] h (elemV (JK s)):=by
 refine acL Tryz.func369 [.tmp 2,.tmp 3,.tmp 4] ?_;obtain⟨⟨l⟩⟩:=s;rw[szl] at hl;rcases jZ l.length 4 with h4|h4
 .have hd:decide ((l.length:Int)<4)=true:=by simp; omega
  refine AQ szl hd ?_
  have:JK ⟨l.toArray⟩=none:=by
   unfold JK; rw[if_neg]; simp; omega
  exact⟨by rw[this]; rfl,trivial⟩
 obtain⟨b,x,d,y,rfl⟩:=three (U:3<=l.length);have hlen:(b++[x,d,y]).length=b.length+3:=A8;rw[hlen] at hl h4;have hbl:0<b.length:=U;have hb:b≠[]:=List.length_pos_iff.1 hbl;have he:=bU (x:=x) (d:=d) (y:=y) hb;generalize hn:ER ⟨b.toArray⟩=nm at he;have i1:O1 jA 9 (.str ⟨(b++[x,d,y]).toArray⟩) (.n ((b.length:Int)+2))=some (.int .u8 y.toNat):=ixl (k:=b.length+2) U A8;have i2:O1 jA 9 (.str ⟨(b++[x,d,y]).toArray⟩) (.n ((b.length:Int)+1))=some (.int .u8 d.toNat):=ixl (k:=b.length+1) U A8;have i3:O1 jA 9 (.str ⟨(b++[x,d,y]).toArray⟩) (.n (b.length:Int))=some (.int .u8 x.toNat):=ixl (k:=b.length) rfl A8;have i4:=iM (s:=⟨(b++[x,d,y]).toArray⟩) (u:=b.length) (h:=h) (by rw[szl]; omega);rw[AHD] at i4;have hsz:(⟨(b++[x,d,y]).toArray⟩:ByteArray).size=b.length+3:=by rw[szl,hlen]
 generalize (⟨(b++[x,d,y]).toArray⟩:ByteArray)=s at *;have w1:IntKind.i64.wrap (((b.length+3:Nat):Int)-1)=(b.length:Int)+2:=by rw[wrap_i64 U U]; omega
 have w2:IntKind.i64.wrap (((b.length+3:Nat):Int)-2)=(b.length:Int)+1:=by rw[wrap_i64 U U]; omega
 have w3:IntKind.i64.wrap (((b.length+3:Nat):Int)-3)=(b.length:Int):=by rw[wrap_i64 U U]; omega
 have hd8:d.toNat<256:=d.toNat_lt;have w4:IntKind.i64.wrap (d.toNat:Int)=(d.toNat:Int):=wrap_i64 U U;have w5:IntKind.i64.wrap ((d.toNat:Int)-48)=(d.toNat:Int)-48:=wrap_i64 U U;have ha:decide (((b.length+3:Nat):Int)<4)=false:=by simp; omega
 refine VW hsz ha w1 w2 w3 i1 i2 i3 i4 ?_;refine GV ?_ ?_<;>intro hc
 .refine AO hc ?_
  have hy:(y==93)=false:=by
   rw[<-wO]; intro e; rw[beq_iff_eq] at e; subst e; simp at hc
  exact⟨by rw[he,hy]; simp; rfl,trivial⟩
 have hy:(y==93)=true:=by
  rw[beq_iff_eq,<-UInt8.toNat_inj];simp at hc; show y.toNat=93; omega
 refine VW hsz hc w1 w2 w3 i1 i2 i3 i4 ?_;refine BG ?_ ?_<;>intro hd
 .refine Z ?_
  have hx:(x==91)=false:=by
   rw[<-wO]; intro e; rw[beq_iff_eq] at e; subst e; simp at hd
  exact⟨by rw[he,hx]; simp; rfl,trivial⟩
 have hx:(x==91)=true:=by
  rw[beq_iff_eq,<-UInt8.toNat_inj];simp at hd; show x.toNat=91; omega
 refine aE @AO5 hsz w1 w2 w3 i1 i2 i3 i4 w4 w5 ?_;refine GV ?_ ?_<;>intro hf
 .refine AO hf ?_
  have:decide (48<=d.toNat)=false:=by simp at hf|-; omega
  exact⟨by rw[he,this]; simp; rfl,trivial⟩
 have hd1:48<=d.toNat:=by simp at hf; omega
 refine AO hf ?_;refine GV ?_ ?_<;>intro hf
 .refine AO hf ?_
  have:decide (d.toNat<56)=false:=by simp at hf|-; omega
  exact⟨by rw[he,this]; simp; rfl,trivial⟩
 have hd2:d.toNat<56:=by simp at hf; omega
 refine AO hf ?_;refine(NF G ⟨b.toArray⟩ h).use ?_;refine AO hn ?_;cases nm
 .refine Z ?_
  exact⟨by rw[he]; simp; rfl,trivial⟩
 .refine Z ?_
  exact⟨by rw[he]; simp [hy,hx,hd1,hd2]; rfl,trivial⟩
def FK (s:ByteArray):Bool:=(JK s).isSome||ER s
theorem lP (o:Option (List UInt8×UInt8)):∃a n,elemV o=.tup [.str a,.n n,.bool o.isSome]:=by
 cases o with
 | none=>exact⟨_,_,rfl⟩
 | some x=>exact⟨_,_,rfl⟩
theorem ADV (hG:GOk G)(s:ByteArray)(h:Hp)(hl:s.size<=1048576):PCall (En G) 250 [.str s] h (.bool (FK s)):=by
 refine acT Tryz.func250 2 ?_;refine Z ?_;refine(uH G hG s h hl).use ?_;obtain⟨a,n,e⟩:=lP (JK s);rw[e];refine Z ?_;cases hs:(JK s).isSome
 .refine Z ?_
  refine(L9 G hG.kw s h U).uu ?_;exact⟨by unfold FK; rw[hs]; rfl,trivial⟩
 .refine Z ?_
  exact⟨by unfold FK; rw[hs]; rfl,trivial⟩
theorem AJY (s:ByteArray)(h:Hp)(hl:s.size<=1048576):PCall (En G) 333 [.str s] h (.bool (FK s)):=by
 refine acT Tryz.func333 2 ?_;refine Z ?_;refine(AIN G s h U).use ?_;obtain⟨a,n,e⟩:=lP (JK s);rw[e];refine Z ?_;cases hs:(JK s).isSome
 .refine Z ?_
  refine(NF G s h).uu ?_;exact⟨by unfold FK; rw[hs]; rfl,trivial⟩
 .refine Z ?_
  exact⟨by unfold FK; rw[hs]; rfl,trivial⟩
def ND (s:ByteArray):Bool:=s.toList==(⟨#[]⟩:ByteArray).toList
def badO (e:Ex):Bool:=decide (e.op<1)||decide (e.op>25)
def V3 (e:Ex):Bool:=((e.op==1)&&(decide (e.n<0)||decide (e.n>65535)))||(!(e.op==1) && !(e.n==0))
def TB (e:Ex):Bool:=(!KN e.op && !ND e.name) || !TS e.op e.args.length
def UH (e:Ex):Bool:=((e.op==2) && !FK e.name)||(((e.op==3)||(e.op==24)) && !ER e.name)
def HY (e:Ex):Int:=if badO e then 1 else if V3 e then 1 else if TB e then 1 else if UH e then 7 else 0
theorem AJM (hG:GOk G)(e:Ex)(h:Hp)(hl:e.name.size<=1048576):PCall (En G) 172 [.agg (AY e)] h (.n (HY e)):=by
 refine ACalls.pure0 rfl ?_;refine acT Tryz.func172 2 ?_;refine J3 @bxE @JS ?_;refine P7 (fun F H=>F 3=.bool (KN e.op)∧F 1=.ptr h.length 0 0∧H=h++[qF 4 [AY e]]) ?_ ?_
 .cases b2:(e.op==2)<;>cases b3:(e.op==3)
  all_goals
   refine JZ b2 b3 @JS ?_;exact⟨by simp [KN,b2,b3],trivial,trivial⟩
 rintro F H ⟨f3,f1,rfl⟩;refine JZ f1 f3 @JS ?_;refine P7 (fun F H=>F 17=.bool (badO e)∧F 3=.bool (KN e.op)∧F 1=.ptr h.length 0 0∧H=h++[qF 4 [AY e]]) ?_ ?_
 .cases b2:decide (e.op<1)
  all_goals
   refine OQ b2 f1 f3 @JS ?_;exact⟨by simp [badO,b2],trivial,trivial,trivial⟩
 clear f1 f3;rintro F H ⟨f17,f3,f1,rfl⟩;refine AO f17 ?_;refine BG ?_ ?_<;>intro ho
 .refine Z ?_
  exact⟨by unfold HY; rw[if_pos ho],_,rfl⟩
 refine OQ f1 f3 @JS @bS ?_;refine P7 (fun F H=>F 26=.bool (V3 e)∧F 3=.bool (KN e.op)∧F 1=.ptr h.length 0 0∧H=h++[qF 4 [AY e]]) ?_ ?_
 .cases b1:(e.op==1)<;>cases b2:decide (e.n<0)<;>cases b3:decide (e.n>65535)<;>cases b4:(e.n==0)
  all_goals
   simp -implicitDefEqProofs only[vQ,ED,RD,cL,cM,ALA,CJ,FM,↓reduceIte,jC,qV,enP,XC,tU,bne,b1,b2,b3,b4,f1,f3,D6 ag3,JS,bS];exact⟨by simp [V3,b1,b2,b3,b4],trivial,trivial,trivial⟩
 clear f1 f3 f17;rintro F H ⟨f26,f3,f1,rfl⟩;refine AO f26 ?_;refine BG ?_ ?_<;>intro hn
 .refine Z ?_
  exact⟨by unfold HY; rw[if_neg (by simp [ho]),if_pos hn],_,rfl⟩
 refine JZ f1 f3 @QT ?_;refine P7 (fun F H=>F 50=.bool (TB e)∧F 3=.bool (KN e.op)∧F 1=.ptr h.length 0 0∧H=h++[qF 4 [AY e]]) ?_ ?_
 .cases bm:KN e.op<;>cases b5:ND e.name
  all_goals
   have b6:=b5;unfold ND at b6;simp -implicitDefEqProofs only[vQ,ED,RD,cL,cM,CJ,FM,eD,mE,↓reduceIte,jC,qV,enP,lB,bne,bm,b6,f1,f3,D6 ag9,QT,ldE]
  .exact⟨by simp [TB,bm,b5],trivial,trivial,trivial⟩
  all_goals
   refine(nJ G e _).use ?_;simp -implicitDefEqProofs only[vQ,ED,CJ,rU,cQ,↓reduceIte,jC,bne,bm,f1,f3];exact⟨by simp [TB,bm,b5],trivial,trivial,trivial⟩
 clear f1 f3 f26;rintro F H ⟨f50,f3,f1,rfl⟩;refine AO f50 ?_;refine BG ?_ ?_<;>intro hs
 .refine Z ?_
  exact⟨by unfold HY; rw[if_neg (by simp [ho]),if_neg (by simp [hn]),if_pos hs],_,rfl⟩
 refine OQ f1 f3 @JS @QT ?_
 have fin:∀b,UH e=b->HY e=if b then 7 else 0:=by
  intro b hb;unfold HY; rw[if_neg (by simp [ho]),if_neg (by simp [hn]),if_neg (by simp [hs]),hb]
 cases b2:(e.op==2)
 .refine Y6 b2 f1 f3 @JS @QT ?_
  cases b3:(e.op==3)<;>cases b4:(e.op==24)
  all_goals
   refine cK b3 b4 f1 f3 @JS @QT ?_
  .exact⟨by rw[fin false (by simp [UH,b2,b3,b4])]; rfl,_,rfl⟩
  all_goals
   refine(L9 G hG.kw e.name _ U).use ?_;cases bi:ER e.name
   .refine Z ?_
    exact⟨by rw[fin true (by simp [UH,b2,b3,b4,bi])]; rfl,_,rfl⟩
   .refine Z ?_
    exact⟨by rw[fin false (by simp [UH,b2,b3,b4,bi])]; rfl,_,rfl⟩
 .have e2:e.op=2:=BL b2
  refine Y6 b2 f1 f3 @JS @QT ?_;refine(ADV G hG e.name _ hl).use ?_;cases bi:FK e.name
  .refine Z ?_
   exact⟨by rw[fin true (by simp [UH,b2,bi])]; rfl,_,rfl⟩
  .refine JZ f1 @JS e2 ?_
   exact⟨by rw[fin false (by simp [UH,e2,bi])]; rfl,_,rfl⟩
def mJ (e:Ex):Bool:=badO e||decide (e.n<0)||decide (e.n>65535)||(!(e.n==0) && !(e.op==1))||(!ND e.name && !KN e.op)
def ABZ (op:Int)(n:Nat):Bool:=((op==23)&&(decide ((n:Int)<3)||decide ((n:Int)>33)||((n:Int)%2==0)))||(!(op==23) && !((n:Int)==arity op))
theorem ATW (op:Int)(n:Nat):ABZ op n = !TS op n:=by
 unfold ABZ TS;rcases hc:(op==23) with _|_
 .simp
 .have h1:decide ((n:Int)<3) = !decide ((n:Int)≥3):=by rw[wI]; simp
  have h2:decide ((n:Int)>33) = !decide ((n:Int)<=33):=by rw[wI]; simp
  have h3:((n:Int)%2==0) = !((n:Int)%2==1):=by rw[wI]; simp; omega
  rw[h1,h2,h3];cases ((n:Int)%2==1)<;>cases decide ((n:Int)≥3)<;>cases decide ((n:Int)<=33)<;>rfl
theorem ATX (e:Ex):(mJ e||ABZ e.op e.args.length)=(badO e||V3 e||TB e):=by
 rw[ATW];unfold mJ V3 TB;rcases h1:(e.op==1) with _|_
 .rcases h2:(e.n==0) with _|_
  .simp
  .have h3:decide (e.n<0)=false:=by simp at h2|-; omega
   have h4:decide (e.n>65535)=false:=by simp at h2|-; omega
   rw[h3,h4];cases badO e<;>cases ND e.name<;>cases KN e.op<;>cases TS e.op e.args.length<;>rfl
 .cases badO e<;>cases ND e.name<;>cases KN e.op<;>cases TS e.op e.args.length<;>cases decide (e.n<0)<;>cases decide (e.n>65535)<;>cases (e.n==0)<;>rfl
theorem dB (e:Ex):HY e=if mJ e then 1 else if ABZ e.op e.args.length then 1 else if UH e then 7 else 0:=by
 have:=ATX e;unfold HY
 revert this
 cases mJ e<;>cases ABZ e.op e.args.length<;>cases badO e<;>cases V3 e<;>cases TB e<;>simp
theorem AH7 (e:Ex)(h:Hp)(hl:e.name.size<=1048576):PCall (En G) 310 [.agg (AY e)] h (.n (HY e)):=by
 refine ACalls.pure0 rfl ?_;refine acT Tryz.func310 2 ?_;refine J3 @bxE @JS ?_;refine P7 (fun F H=>F 42=.bool (mJ e)∧F 1=.ptr h.length 0 0∧H=h++[qF 4 [AY e]]) ?_ ?_
 .cases b1:decide (e.op<1)
  case true =>
   refine AO b1 ?_;exact⟨by simp [mJ,badO,b1],trivial,trivial⟩
  refine JZ b1 @JS @bS ?_;cases b2:decide (e.op>25)
  case true =>
   refine AO b2 ?_;exact⟨by simp [mJ,badO,b2],trivial,trivial⟩
  refine JZ b2 @JS @bS ?_;have bO:badO e=false:=by unfold badO; rw[b1,b2]; rfl
  cases b3:decide (e.n<0)
  case true =>
   refine AO b3 ?_;exact⟨by simp only[mJ,b3]; simp,trivial,trivial⟩
  refine JZ b3 @JS @bS ?_;cases b4:decide (e.n>65535)
  case true =>
   refine AO b4 ?_;exact⟨by simp only[mJ,b4]; simp,trivial,trivial⟩
  simp -implicitDefEqProofs only[vQ,ED,CJ,↓reduceIte,jC,enP,tU,b4,bne,D6 ag3,D6 ag9,JS,bS,QT]
  have fin:∀b,((!(e.n==0) && !(e.op==1))||(!ND e.name && !KN e.op))=b->mJ e=b:=by
   intro b hb;unfold mJ; rw[bO,b3,b4]; simpa using hb
  cases b5:(e.n==0)<;>cases b6:(e.op==1)<;>cases b7:ND e.name
  all_goals
   have b8:=b7;unfold ND at b8;simp -implicitDefEqProofs only[vQ,ED,RD,cL,cM,ALA,CJ,FM,eD,mE,↓reduceIte,jC,qV,enP,XC,lB,bne,b5,b6,b8,D6 ag3,D6 ag9,JS,bS,QT]
  all_goals first
   | exact⟨by rw[fin _ rfl]; simp [b5,b6,b7],trivial,trivial⟩
   | refine(dC G e.op _).uu ?_
     exact⟨by rw[fin _ rfl]; simp [b5,b6,b7],trivial,trivial⟩
 rintro F H ⟨f42,f1,rfl⟩;refine AO f42 ?_;refine BG ?_ ?_<;>intro ho
 .refine Z ?_
  exact⟨by rw[dB,if_pos ho],_,rfl⟩
 refine JZ f1 @JS @XH ?_;generalize hn:e.args.length=n;have hm:(n:Int).tmod 2=(n:Int)%2:=Int.tmod_eq_emod_of_nonneg U;have br:H9 jA 3 .rem (.n (n:Int)) (.n 2)=some (.n ((n:Int)%2)):=by rw[hZ _ _ _ _ _ DK,hm]
 refine P7 (fun F H=>F 73=.bool (ABZ e.op n)∧F 1=.ptr h.length 0 0∧H=h++[qF 4 [AY e]]) ?_ ?_
 .cases b1:(e.op==23)
  .simp -implicitDefEqProofs only[vQ,ED,RD,cL,ALA,CJ,FM,↓reduceIte,jC,enP,XC,bne,b1,f1,D6 ag3,JS]
   refine(AK1 G e.op _).use ?_;simp -implicitDefEqProofs only[vQ,ED,RD,CJ,↓reduceIte,jC,enP,bne];exact⟨by unfold ABZ; rw[b1]; simp,f1,trivial⟩
  .cases b2:decide ((n:Int)<3)<;>cases b3:decide ((n:Int)>33)<;>cases b4:((n:Int)%2==0)
   all_goals
    simp -implicitDefEqProofs only[vQ,ED,RD,cL,cM,ALA,CJ,FM,JO,↓reduceIte,jC,qV,enP,XC,bne,b1,b2,b3,b4,br,f1,D6 ag3,JS];exact⟨by unfold ABZ; rw[b1,b2,b3,b4]; simp,trivial,trivial⟩
 clear f1 f42;rintro F H ⟨f73,f1,rfl⟩;refine AO f73 ?_;subst hn;refine BG ?_ ?_<;>intro hs
 .refine Z ?_
  exact⟨by rw[dB,if_neg (by simp [ho]),if_pos hs],_,rfl⟩
 refine JZ f1 @JS @QT ?_
 have fin:∀b,UH e=b->HY e=if b then 7 else 0:=by
  intro b hb;rw[dB,if_neg (by simp [ho]),if_neg (by simp [hs]),hb]
 cases b2:(e.op==2)
 .refine OQ b2 f1 @JS @QT ?_
  refine(dC G e.op _).use ?_;cases bm:KN e.op
  .have hv:UH e=false:=by
    unfold KN at bm; simp only[Bool.or_eq_false_iff] at bm;simp [UH,bm.1.1,bm.1.2,bm.2]
   refine Z ?_;exact⟨by rw[fin false hv]; rfl,_,rfl⟩
  have hv:UH e = !ER e.name:=by
   unfold KN at bm; rw[b2] at bm; simp only[wL] at bm;unfold UH; rw[b2,bm]; simp
  simp -implicitDefEqProofs only[vQ,ED,RD,CJ,↓reduceIte,jC,enP,XC,lB,bne,b2,f1,D6 ag9,D6 ag3,JS,QT];refine(NF G e.name _).use ?_;cases bi:ER e.name
  .refine Z ?_
   exact⟨by rw[fin true (by rw[hv,bi]; rfl)]; rfl,_,rfl⟩
  .refine Z ?_
   exact⟨by rw[fin false (by rw[hv,bi]; rfl)]; rfl,_,rfl⟩
 .have e2:e.op=2:=BL b2
  have hv:UH e = !FK e.name:=by
   unfold UH; rw[e2]; simp
  refine OQ b2 f1 @JS @QT ?_;refine(AJY G e.name _ hl).use ?_;cases bi:FK e.name
  .refine Z ?_
   exact⟨by rw[fin true (by rw[hv,bi]; rfl)]; rfl,_,rfl⟩
  .refine J3 f1 @JS ?_
   refine(dC G e.op _).use ?_;have bm:KN e.op=true:=by rw[e2]; rfl
   simp -implicitDefEqProofs only[vQ,ED,RD,cL,CJ,FM,↓reduceIte,jC,qV,enP,XC,bne,bm,f1,D6 ag3,JS,b2];exact⟨by rw[fin false (by rw[hv,bi]; rfl)]; rfl,_,rfl⟩
theorem ag230:JG jA 230=some false:=AZ
theorem sz230:szO jA 230=some 1:=AZ
theorem QW (h:Hp):F9 jA h 79=some (.ptr h.length 0 0,h++[qF 4 [[.n 0,.n 0,.str ⟨#[]⟩,.sl .nil 0 []]]]):=FC (row:=[.n 0,.n 0,.str ⟨#[]⟩,.sl .nil 0 []]) AZ
theorem nD (h:Hp)(e:Ex)(row:List AV)(hr:row.length=4):DX jA (h++[qF 4 [row]]) 79 (.ptr h.length 0 0) (.agg (AY e))=some (h++[qF 4 [AY e]]):=by
 rw[RP (PI (UF e)) (by rw[EF]; exact I8) (by rw[EF,hr]; exact jF _)];have:splice row 0 (AY e)=AY e:=by unfold splice; simp [EF,hr]
 rw[this]
theorem A3W (h:Hp):F9 jA h 38=some (.ptr h.length 0 0,h++[qF 1 [[.n 0]]]):=FC (row:=[.n 0]) AZ
theorem al3 (h:Hp):F9 jA h 3=some (.ptr h.length 0 0,h++[qF 1 [[.n 0]]]):=FC (row:=[.n 0]) AZ
theorem AVG (h:Hp):F9 jA h 230=some (.ptr h.length 0 0,h++[qF 1 [[.nilfn]]]):=FC (row:=[.nilfn]) AZ
theorem FZ {h:Hp}{t:TypeId}{b:Nat}{v:AV}(hag:JG jA t=some false)(hb:h[b]?=some (qF 1 [[v]])):BO jA h t (.ptr b 0 0)=some v:=by
 rw[BH hag hb (row:=[v]) rfl]; rfl
theorem TE {t:TypeId}{b:Nat}{u:AV}(hs:szO jA t=some 1)(hc:IB u=some [u])(hb:h[b]?=some (qF 1 [[v]])):DX jA h t (.ptr b 0 0) u=some (h.set b (qF 1 [[u]])):=by
 rw[G9 hc hs hb (row:=[v]) rfl A8]; rfl
theorem A3K (h:Hp)(f:Fn)(a b:List AV):MP h (.fn f a b)=some (.ptr h.length 0 0,h++[qF 1 [[.fn f a b]]]):=rfl
def Chg (c:Nat)(h h':Hp):Prop:=h.length<=h'.length∧∀b,b<h.length->b≠c->h'[b]?=h[b]?
theorem Chg.refl (c:Nat)(h:Hp):Chg c h h:=⟨jF _,fun _ _ _=>rfl⟩
theorem Chg.trans {a b d:Hp}(h1:Chg c a b)(h2:Chg c b d):Chg c a d :=
 ⟨wE h1.1 h2.1,fun i hi hc=>by rw[h2.2 i (Nat.lt_of_lt_of_le hi h1.1) hc,h1.2 i hi hc]⟩
theorem Chg.app (c:Nat)(h x:Hp):Chg c h (h++x):=⟨A8,fun i hi _=>qH hi⟩
theorem Chg.set (c:Nat)(h:Hp)(x:ABlk):Chg c h (h.set c x):=⟨A8,fun i _ hc=>by rw[zG,if_neg (fun e=>hc e.symm)]⟩
theorem Chg.get {b:Nat}{x:ABlk}(hc:Chg c h h')(hb:h[b]?=some x)(hne:b≠c):h'[b]?=some x:=by
 rw[hc.2 b (AB hb) hne]; exact hb
theorem Chg.above (hc:Chg c h h')(hl:h.length<=c):∃x,h'=h++x:=by
 refine⟨h'.drop h.length,?_⟩
 have:h'.take h.length=h:=by
  refine List.ext_getElem? fun i=>?_
  rcases jZ i h.length with hi|hi
  .rw[List.getElem?_take_of_lt hi,hc.2 i hi U]
  .rw[zW (by rw[jU]; omega),zW hi]
 conv=>lhs; rw[<-wC h.length h',this]
def run (upd:Ex->Int->Int)(cont:Int->Bool):List Ex->Int->Int×Bool
 | [],z=>(z,true)
 | e::es,z=>if cont (upd e z) then run upd cont es (upd e z) else (upd e z,false)
theorem run_go {upd:Ex->Int->Int}{cont:Int->Bool}:∀ {xs:List Ex} (ys:List Ex) {z z':Int},run upd cont xs z=(z',true)->run upd cont (xs++ys) z=run upd cont ys z'
 | [],ys,z,z',h=>by cases h; rfl
 | x::xs,ys,z,z',h=>by
   simp only[run,zF] at h|-
   split at h
   .rename_i hc; rw[if_pos hc]; exact run_go ys h
   .cases h
theorem run_stop {upd:Ex->Int->Int}{cont:Int->Bool}:∀ {xs:List Ex} (ys:List Ex) {z z':Int},run upd cont xs z=(z',false)->run upd cont (xs++ys) z=(z',false)
 | [],ys,z,z',h=>by cases h
 | x::xs,ys,z,z',h=>by
   simp only[run,zF] at h|-
   split at h
   .rename_i hc; rw[if_pos hc]; exact run_stop ys h
   .rename_i hc; rw[if_neg hc]; exact h
theorem LV (xs:List Ex)(j:Nat)(hj:j<xs.length):E8 (xs.take (j+1))=E8 (xs.take j)++pre xs[j]:=by
 rw[jW hj,MX]; simp [E8]
theorem X0 {a:Ex}:∀ {xs:List Ex},a∈xs->∀x∈pre a,x∈E8 xs
 | [],h,_,_=>by cases h
 | y::ys,h,x,hx=>by
   simp only[E8,zX]
   cases zK.1 h with
   | inl e=>subst e; exact .inl hx
   | inr e=>exact .inr (X0 e x hx)
def AH1 (G:Nat->AV)(k:FuncId)(upd:Ex->Int->Int)(cont:Int->Bool)(e:Ex):Prop :=
 ∀(h:Hp) (c:Nat) (z:Int),h[c]?=some (qF 1 [[.n z]])->ACalls (En G) k [.agg (AY e),.ptr c 0 0] h fun v h'=>v=.bool (cont (upd e z))∧Chg c h h'∧h'[c]?=some (qF 1 [[.n (upd e z)]])
theorem AKJ (k:FuncId)(upd:Ex->Int->Int)(cont:Int->Bool)(c vb db:Nat)(hv:vb≠c)(hd:db≠c)(e:Ex):
  wt e<=1099511627776->(∀x∈pre e,AH1 G k upd cont x)->∀(h:Hp) (z:Int),h[c]?=some (qF 1 [[.n z]])->h[vb]?=some (qF 1 [[.fn (.func k) [] [.ptr c 0 0]]]) ->
   h[db]?=some (qF 1 [[.fn (.func 248) [] [.ptr vb 0 0,.ptr db 0 0]]]) ->
   ACalls (En G) 248 [.agg (AY e),.ptr vb 0 0,.ptr db 0 0] h fun v h'=>v=.bool (run upd cont (pre e) z).2∧Chg c h h'∧h'[c]?=some (qF 1 [[.n (run upd cont (pre e) z).1]]):=by
 induction e using Ex.induct with|h e ih=>?_
 intro hw hvis h z hc hvb hdb;have hcl:=AB hc;have hal:e.args.length<=1099511627776:=by have:=UW e.args; have:=MH e; omega
 refine acT Tryz.func248 4 ?_;simp -implicitDefEqProofs only[vQ,CJ,TY,GK,qA,zF,↓reduceIte,jC,enP,bxE,FZ ag230 (AL hvb),ldE];refine(hvis e (by rw[pre_eq]; simp) _ c z (AL hc)).mono ?_;rintro v h1 ⟨rfl,hch,hc1⟩;have hch0:=(Chg.app c h _).trans hch;have hb3:h1[h.length]?=some (qF 4 [AY e]):=hch.get (AX _ _) U;have hrun:run upd cont (pre e) z=if cont (upd e z) then run upd cont (E8 e.args) (upd e z) else (upd e z,false):=by rw[pre_eq]; rfl
 refine Z ?_;cases hct:cont (upd e z)
 .refine Z ?_
  rw[hrun,hct];exact⟨rfl,hch0,hc1⟩
 rw[hct,if_pos rfl] at hrun;have hvb1:=hch0.get hvb hv;have hdb1:=hch0.get hdb hd;have l3:BO jA h1 23 (.ptr h.length 0 3)=some (.sl e.m 4 (e.args.map AY)):=by rw[BH L6 hb3 (row:=AY e) rfl,XH]
 refine AO l3 ?_;refine BB (fun n F H=>∃j z',n+j=e.args.length∧F 1=.ptr vb 0 0∧F 2=.ptr db 0 0∧F 12=.sl e.m 4 (e.args.map AY)∧F 13=.n e.args.length∧F 14=.n (j:Nat)∧Chg c h H∧H[c]?=some (qF 1 [[.n z']])∧run upd cont (E8 (e.args.take j)) (upd e z)=(z',true)) e.args.length ⟨0,upd e z,A8,EX,EX,EX,EX,EX,hch0,hc1,rfl⟩ ?_;rintro n F H ⟨j,z',hj,f1,f2,f12,f13,f14,hC,hcz,hr⟩;refine AQ f13 f14 ?_;refine DU ?_ ?_<;>intro hj'
 .have hdH:H[db]?=some (qF 1 [[.fn (.func 248) [] [.ptr vb 0 0,.ptr db 0 0]]]):=hC.get hdb hd
  have hvH:H[vb]?=some (qF 1 [[.fn (.func k) [] [.ptr c 0 0]]]):=hC.get hvb hv;simp -implicitDefEqProofs only[vQ,CJ,qA,zF,↓reduceIte,jC,enP,PK,jQ,f12,f14,CG hj',CY OZ I8 EF hj',QW,nD _ _ [.n 0,.n 0,.str ⟨#[]⟩,.sl .nil 0 []] rfl,f2,FZ ag230 (AL hdH),ldE];have hmem:e.args[j]∈e.args:=jH hj';refine(ih e.args[j] hmem (by have:=UU hmem; have:=MH e; omega) (fun x hx=>hvis x (by rw[pre_eq]; exact List.mem_cons_of_mem _ (X0 hmem x hx))) _ z' (AL hcz) (AL hvH) (AL hdH)).mono ?_;rintro v h2 ⟨rfl,hch2,hc2⟩;have hC2:=hC.trans ((Chg.app c H _).trans hch2)
  have hsplit:E8 e.args=E8 (e.args.take j)++(pre e.args[j]++E8 (e.args.drop (j+1))):=by
   rw[<-zC,<-LV _ _ hj',<-MX,wC]
  refine Z ?_;rcases hrr:run upd cont (pre e.args[j]) z' with⟨z2,b2⟩;rw[hrr] at hc2;cases b2
  .refine Z ?_
   have:run upd cont (pre e) z=(z2,false):=by rw[hrun,hsplit,run_go _ hr]; exact run_stop _ hrr
   rw[this];exact⟨rfl,hC2,hc2⟩
  .refine MR f1 f2 f12 f13 f14 (CW j) ?_
   refine⟨n-1,U,j+1,z2,U,trivial,trivial,trivial,trivial,rfl,hC2,hc2,?_⟩;rw[LV _ _ hj',run_go _ hr]; exact hrr
 .refine Z ?_
  rw[jJ U] at hr;rw[hrun,hr];exact⟨rfl,hC,hcz⟩
theorem nZ (k:FuncId)(upd:Ex->Int->Int)(cont:Int->Bool)(c:Nat)(e:Ex)(hw:wt e<=1099511627776)(hvis:∀x∈pre e,AH1 G k upd cont x)(h:Hp)(z:Int)(hc:h[c]?=some (qF 1 [[.n z]])):
  ACalls (En G) 170 [.agg (AY e),.fn (.func k) [] [.ptr c 0 0]] h fun _ h'=>Chg c h h'∧h'[c]?=some (qF 1 [[.n (run upd cont (pre e) z).1]]):=by
 have hcl:=AB hc;refine acL Tryz.func170 [] ?_;refine DI @bxE @A3K AVG ?_;have g0:(h++[qF 4 [AY e]]++[qF 1 [[AV.fn (.func k) [] [.ptr c 0 0]]]]++[qF 1 [[AV.nilfn]]])[(h++[qF 4 [AY e]]++[qF 1 [[AV.fn (.func k) [] [.ptr c 0 0]]]]).length]?=some (qF 1 [[.nilfn]]):=AX _ _;simp -implicitDefEqProofs only[vQ,CJ,↓reduceIte,jC,enP,TE sz230 (AVM _ _ _) g0]
 generalize hdb:(h++[qF 4 [AY e]]++[qF 1 [[AV.fn (.func k) [] [.ptr c 0 0]]]]).length=db at g0|-
 generalize hvb:(h++[qF 4 [AY e]]).length=vb;have hvl:vb=h.length+1:=by rw[<-hvb]; simp
 have hdl:db=h.length+2:=by rw[<-hdb]; simp
 generalize hH:(h++[qF 4 [AY e]]++[qF 1 [[AV.fn (.func k) [] [.ptr c 0 0]]]]++[qF 1 [[AV.nilfn]]]).set db (qF 1 [[AV.fn (.func 248) [] [.ptr vb 0 0,.ptr db 0 0]]])=H;have h1:H[db]?=some (qF 1 [[.fn (.func 248) [] [.ptr vb 0 0,.ptr db 0 0]]]):=by rw[<-hH]; exact CQ g0
 have h2:H[vb]?=some (qF 1 [[.fn (.func k) [] [.ptr c 0 0]]]):=by
  rw[<-hH]; refine DC ?_ U;rw[<-hvb]; exact AL (AX _ _)
 have h3:H[h.length]?=some (qF 4 [AY e]):=by
  rw[<-hH]; refine DC ?_ U;exact AL (AL (AX _ _))
 have h4:H[c]?=some (qF 1 [[.n z]]):=by
  rw[<-hH]; refine DC ?_ U;exact AL (AL (AL hc))
 have hC:Chg c h H:=by
  refine⟨by rw[<-hH]; simp,fun b hb hbc=>?_⟩;obtain⟨x,hx⟩:∃x,h[b]?=some x:=⟨_,jI hb⟩;rw[<-hH,hx];exact DC (AL (AL (AL hx))) U
 simp -implicitDefEqProofs only[vQ,CJ,qA,zF,↓reduceIte,jC,enP,FZ ag230 h1,IW h3];refine(AKJ G k upd cont c vb db U U e hw hvis H z h4 h2 h1).mono ?_;rintro v h' ⟨rfl,hch,hc1⟩;refine AO @lG ?_;exact⟨hC.trans hch,hc1⟩
theorem ACS (e:Ex):AH1 G 251 (fun _ z=>IntKind.i64.wrap (z+1)) (fun _=>true) e:=by
 intro h c z hc;have hcl:=AB hc;refine acT Tryz.func251 3 ?_;simp -implicitDefEqProofs only[vQ,CJ,TY,GK,↓reduceIte,jC,enP,jQ,bxE,FZ ag3 (AL hc),TE sz3 (XO _ _) (AL hc)];exact⟨trivial,(Chg.app c h _).trans (Chg.set c _ _),CQ (AL hc)⟩
theorem AAW (hG:GOk G)(e:Ex)(hl:e.name.size<=1048576):AH1 G 171 (fun e _=>HY e) (fun z=>z==0) e:=by
 intro h c z hc;have hcl:=AB hc;refine acT Tryz.func171 3 ?_;refine AQ @bxE @ldE ?_;refine(AJM G hG e _ hl).use ?_;have hs:=CQ (y:=qF 1 [[.n (HY e)]]) (AL (x:=qF 4 [AY e]) hc);simp -implicitDefEqProofs only[vQ,CJ,JO,GK,↓reduceIte,jC,enP,jQ,TE AVW (XO _ _) (AL hc),FZ AP4 hs];exact⟨trivial,(Chg.app c h _).trans (Chg.set c _ _),hs⟩
theorem xE:∀(xs:List Ex) (n:Nat),n+xs.length<=1099511627776->run (fun _ z=>IntKind.i64.wrap (z+1)) (fun _=>true) xs (n:Int)=(((n+xs.length:Nat):Int),true)
 | [],n,_=>rfl
 | x::xs,n,h=>by
   simp only[zH] at h;simp only[run,if_true];rw[wrap_succ U,xE xs (n+1) U,zH];congr 1; omega
def errs (xs:List Ex):Int:=xs.foldl (fun z e=>if z=0 then HY e else z) 0
theorem uE:∀(xs:List Ex) (z:Int),z≠0->xs.foldl (fun z e=>if z=0 then HY e else z) z=z
 | [],_,_=>rfl
 | x::xs,z,h=>by rw[qO,if_neg h]; exact uE xs z h
theorem xF:∀(xs:List Ex),(run (fun e _=>HY e) (fun z=>z==0) xs 0).1=errs xs
 | []=>rfl
 | x::xs=>by
   simp only[run,errs,qO,if_true];rcases hn:(HY x==0) with _|_
   .have:HY x≠0:=BL hn
    rw[uE _ _ this]; rfl
   .have:HY x=0:=BL hn
    rw[this]; simp only[if_true]; exact xF xs
theorem xZ {x e:Ex}(hx:x∈pre e):x.name.size<=wt e:=by
 induction e using Ex.induct with|h e ih=>?_
 rw[pre_eq] at hx;have hw:=MH e;rcases zK.1 hx with rfl|hx
 .omega
 have:∀l:List Ex,(∀a∈l,x∈pre a->x.name.size<=wt a)->x∈E8 l->x.name.size<=wts l:=by
  intro l
  induction l with
  | nil=>intro _ h; simp [E8] at h
  | cons y l ih2 =>
    intro hh h;simp only[E8,zX] at h;simp only[wts];rcases h with h|h
    .have:=hh y A8 h; omega
    .have:=ih2 (fun a ha=>hh a (by simp [ha])) h; omega
 have:=this e.args (fun a ha=>ih a ha) hx;omega
theorem size_prog (e:Ex)(h:Hp)(hw:wt e<=1099511627776):PCall (En G) 174 [.agg (AY e)] h (.n (pre e).length):=by
 refine ACalls.pure0 rfl ?_;refine acT Tryz.func174 2 ?_;have hg:=AX (h++[qF 4 [AY e]]) (qF 1 [[.n 0]]);have hs:(h++[qF 4 [AY e]]++[qF 1 [[.n 0]]]).set (h++[qF 4 [AY e]]).length (qF 1 [[.n 0]])=h++[qF 4 [AY e]]++[qF 1 [[.n 0]]]:=gM _ _ _;simp -implicitDefEqProofs only[vQ,CJ,TY,PO,↓reduceIte,jC,enP,jQ,bxE,al3,TE sz3 (XO _ _) hg,hs,IW (AL (AX h _))];refine(nZ G 251 _ _ _ e hw (fun x _=>ACS G x) _ 0 hg).mono ?_;rintro v h' ⟨hch,hc1⟩;refine AO (FZ ag3 hc1) ?_;have:=xE (pre e) 0 (by have:=VA e; omega);simp only[jG] at this;exact⟨by rw[show(0:Int)=((0:Nat):Int) from rfl,this],(((Chg.app _ h _).trans (Chg.app _ _ _)).trans hch).above A8⟩
theorem AEE (e:Ex):wt e<=1099511627776->∀h:Hp,PCall (En G) 173 [.agg (AY e)] h (.n (dep e)):=by
 induction e using Ex.induct with|h e ih=>?_
 intro hw h;have hal:e.args.length<=1099511627776:=by have:=UW e.args; have:=MH e; omega
 refine ACalls.pure0 rfl ?_;refine acT Tryz.func173 2 ?_;refine J3 @bxE @XH ?_;have hdw:dep e<=1099511627776:=wE (AO4 e) hw;refine BB (fun n F H=>∃j,n+j=e.args.length∧F 3=.n (deps (e.args.take j):Nat)∧F 7=.sl e.m 4 (e.args.map AY)∧F 8=.n e.args.length∧F 9=.n (j:Nat)∧∃x,H=h++x) e.args.length ⟨0,A8,EX,EX,EX,EX,⟨_,rfl⟩⟩ ?_;rintro n F H ⟨j,hj,f3,f7,f8,f9,x,rfl⟩;refine AQ f8 f9 ?_;refine DU ?_ ?_<;>intro hj'
 .have hmem:e.args[j]∈e.args:=jH hj'
  simp -implicitDefEqProofs only[vQ,CJ,↓reduceIte,jC,enP,PK,jQ,f3,f7,f9,CG hj',CY OZ I8 EF hj',QW,nD _ _ [.n 0,.n 0,.str ⟨#[]⟩,.sl .nil 0 []] rfl,ldE];refine(ih e.args[j] hmem (by have:=UU hmem; have:=MH e; omega) _).use ?_;refine MR @ALN @ADP f7 f8 f9 (CW j) ?_;refine⟨n-1,U,j+1,U,?_,trivial,trivial,rfl,_,by rw[zC]⟩;rw[qS _ _ hj'];congr 1;omega
 .rw[jJ U] at f3
  rw[Z4] at hdw|-
  refine AQ f3 (CW (deps e.args)) ?_;exact⟨trivial,x,rfl⟩
def exE (e:Ex):Int:=if errs (pre e)=0∧(24<dep e∨400<(pre e).length) then 2 else errs (pre e)
def WN (e:Ex):Prop:=wt e<=274877906944∧∀x∈pre e,x.name.size<=1048576
theorem AQB {e:Ex}(hw:wt e<=1048576):WN e:=⟨U,fun x hx=>by have:=xZ hx; omega⟩
theorem Y3 (hG:GOk G)(e:Ex)(h:Hp)(hn:WN e):PCall (En G) 96 [.agg (AY e)] h (.n (exE e)):=by
 refine ACalls.pure0 rfl ?_;refine acT Tryz.func96 2 ?_;have hg:=AX (h++[qF 4 [AY e]]) (qF 1 [[.n 0]]);have hs:(h++[qF 4 [AY e]]++[qF 1 [[.n 0]]]).set (h++[qF 4 [AY e]]).length (qF 1 [[.n 0]])=h++[qF 4 [AY e]]++[qF 1 [[.n 0]]]:=gM _ _ _;have hb:=AL (x:=qF 1 [[.n 0]]) (AX h (qF 4 [AY e]));have hw:=hn.1;simp -implicitDefEqProofs only[vQ,CJ,TY,PO,↓reduceIte,jC,enP,jQ,bxE,A3W,TE AVW (XO _ _) hg,hs,IW hb];refine(nZ G 171 _ _ _ e U (fun x hx=>AAW G hG x (hn.2 x hx)) _ 0 hg).mono ?_;rintro v h' ⟨hch,hc1⟩;rw[xF] at hc1;have hb':=hch.get hb A8;have hab:=(((Chg.app _ h _).trans (Chg.app _ _ _)).trans hch).above (A8:h.length<=(h++[qF 4 [AY e]]).length);refine AO (FZ AP4 hc1) ?_;rcases he:(errs (pre e)==0) with _|_
 .refine AO (FZ AP4 hc1) ?_
  have:errs (pre e)≠0:=BL he;exact⟨by unfold exE; rw[if_neg (fun hh=>this hh.1)],hab⟩
 have he0:errs (pre e)=0:=BL he;refine AO (IW hb') ?_;refine(AEE G e U _).uu ?_;refine GV ?_ ?_<;>intro hd
 .refine AO hd ?_
  exact⟨by unfold exE; rw[if_pos ⟨he0,.inl (by simp at hd; omega)⟩],hab⟩
 refine AQ hd (IW hb') ?_;refine(size_prog G e _ U).uu ?_;refine BG ?_ ?_<;>intro hn
 .refine Z ?_
  exact⟨by unfold exE; rw[if_pos ⟨he0,.inr (by simp at hn; omega)⟩],hab⟩
 .refine AO (FZ AP4 hc1) ?_
  exact⟨by unfold exE; rw[if_neg (fun hh=>by simp at hn hd; omega)],hab⟩
theorem NT (hG:GOk G)(e:Ex)(h:Hp)(hw:wt e<=1048576):PCall (En G) 96 [.agg (AY e)] h (.n (exE e)):=Y3 G hG e h (AQB hw)
theorem XI {H:Hint}{x y:Code}{F:Fr}{Q:AEx->Fr->Hp->Prop}{b:Bool}(N R:Fr->Hp->Prop)(h1:b=true->awp E H x F h (AM8 N R))(h2:b=false->awp E H y F h (AM8 N R))(hn:∀F h,N F h->Q .normal F h)(hr:∀F h,R F h->Q .ret F h):
 fH E H x y F h Q (.bool b):=⟨fun e=>uO N R (h1 e) hn hr,fun e=>uO N R (h2 e) hn hr⟩
def isB (v:AV)(b:Nat):Prop:=match v with
 | .own b' _ _=>b'=b
 | _=>False
def sv (h:Hp)(m:Nat)(v:AV):Prop:=∃vs:List ByteArray,vs.length<=m∧((vs=[]∧∃k,v=.sl .nil k [])∨∃b,v=.own b 0 vs.length∧h[b]?=some (qF 1 (vs.map qencStr)))
theorem ASI (k:Nat)(v:ByteArray)(h:Hp):PCall (En G) 311 [.sl .nil k [],.str v] h (.bool false):=by
 refine acT Tryz.func311 4 ?_;refine Z ?_;refine BB (fun n F H=>F 0=.sl .nil k []∧F 5=.n 0∧H=h) 0 ⟨rfl,rfl,rfl⟩ ?_;rintro n F H ⟨f0,f5,rfl⟩;refine J3 f0 f5 ?_;have:decide ((0:Int)<((0:Nat):Int))=false:=A8;refine AO @this ?_;exact G8
theorem row_map {α:Type}{f:α->List AV}{xs:List α}(hk:k<xs.length):(xs.map f)[k]?=some (f xs[k]):=by
 rw[jX,jI hk]; rfl
theorem IK {x:Hp}{y:ABlk}{b:Nat}(hb:h[b]?=some y):(h++x)[b]?=some y:=by
 rw[qH (AB hb)]; exact hb
theorem ASH (xs:List ByteArray)(b:Nat)(v:ByteArray)(h:Hp)(hb:h[b]?=some (qF 1 (xs.map qencStr)))(hl:xs.length<=1099511627776):
  PCall (En G) 311 [.own b 0 xs.length,.str v] h (.bool (G7 xs v)):=by
 refine acT Tryz.func311 4 ?_;refine Z ?_;refine BB (fun n F H=>∃k,n+k=xs.length∧F 0=.own b 0 xs.length∧F 1=.str v∧F 5=.n (k:Nat)∧H=h∧G7 xs v=G7 (xs.drop k) v) xs.length ⟨0,A8,rfl,rfl,rfl,rfl,rfl⟩ ?_;rintro n F H ⟨k,hk,f0,f1,f5,rfl,hin⟩;refine DI f0 f1 f5 ?_;refine DU ?_ ?_<;>intro hc'
 .have hs:G7 (xs.drop k) v=((v.toList==xs[k].toList)||G7 (xs.drop (k+1)) v):=LZ _ xs k hc'
  have l1:BO jA H 9 (.ptr b k 0)=some (.str xs[k]):=by rw[BH ag9 hb (row:=qencStr xs[k]) (row_map hc')]; rfl
  simp -implicitDefEqProofs only[vQ,CJ,OO,↓reduceIte,jC,enP,Y0,f0,f1,f5,IG hb hc',l1];refine BG ?_ ?_<;>intro hb
  .refine Z ?_
   refine⟨?_,trivial⟩;rw[hin,hs,show(v.toList==xs[k].toList)=true by rw[BEq.comm]; exact hb]; rfl
  .refine AQ f5 (CW k) ?_
   refine⟨n-1,U,k+1,U,f0,f1,rfl,trivial,?_⟩;rw[hin,hs,show(v.toList==xs[k].toList)=false by rw[BEq.comm]; exact hb]; rfl
 .refine Z ?_
  exact⟨by rw[hin,jR U]; rfl,trivial⟩
theorem AN6 (s:ByteArray)(hv:sv h m v)(hm:m<=1099511627776):∃r,PCall (En G) 311 [v,.str s] h (.bool r):=by
 obtain⟨vs,hl,⟨_,k,rfl⟩|⟨b,rfl,hb⟩⟩:=hv
 .exact⟨_,ASI G k s h⟩
 .exact⟨_,ASH G vs b s h hb U⟩
theorem APK (h:Hp)(s:ByteArray):C9 jA false h 121 1 [(0,.str s)]=some (.sl .full 1 [[.str s]],h):=AZ
theorem AP1 (s:ByteArray)(hv:sv h m v)(hm:m<=1099511627776):∃v' h',EP jA true h 121 121 v (.sl .full 1 [[.str s]])=some (v',h')∧sv h' (m+1) v'∧(∀b,isB v' b->b=h.length) ∧
  h.length<=h'.length∧∀b,b<h.length->¬isB v b->h'[b]?=h[b]? := by
 obtain⟨vs,hl,⟨rfl,k,rfl⟩|⟨b,rfl,hb⟩⟩:=hv
 .refine⟨_,_,VL ALV sz9 ALE APD (IE h .full 1 [[.str s]]) A8 (I5 A8 U),⟨[s],A8,.inr ⟨h.length,rfl,AX _ _⟩⟩,fun b hb=>hb.symm,A8,fun b hb _=>qH hb⟩
 .have hc:JF h (.own b 0 vs.length)=some (1,vs.map qencStr):=by
   rw[J6 hb A8,zM,jJ A8]
  refine⟨_,_,TK ALV sz9 ALE APD hc (IE h .full 1 [[.str s]]) A8 (by unfold room; simp; omega),⟨vs++[s],by simp; omega,.inr ⟨h.length,A8,by simp [qencStr]⟩⟩,fun b hb=>hb.symm,A8,fun o ho hn=>?_⟩;rw[qH (BL ho)];have hn':¬b=o:=hn;rw[zG,if_neg hn']
def wRow (n dd:Nat)(f:Int)(v1 v2:AV):List AV:=[.n n,.n dd,.n f,v1,v2]
structure St (h:Hp) (c m1 m2 n dd:Nat) (f:Int) (v1 v2:AV):Prop where
 w:h[c]?=some (qF 5 [wRow n dd f v1 v2])
 s1:sv h m1 v1
 s2:sv h m2 v2
 ap:∀b,isB v1 b->¬isB v2 b
theorem sv.b {h:Hp}{m:Nat}{v:AV}{b:Nat}(hs:sv h m v)(hb:isB v b):∃vs:List ByteArray,h[b]?=some (qF 1 (vs.map qencStr)):=by
 obtain⟨vs,_,⟨_,k,rfl⟩|⟨b',rfl,h'⟩⟩:=hs
 .exact hb.elim
 .cases hb; exact⟨vs,h'⟩
theorem sv.ne {b:Nat}{row:List AV}(hs:sv h m v)(hc:h[c]?=some (qF 5 [row]))(hb:isB v b):b≠c:=by
 intro e; subst e;obtain⟨vs,h'⟩:=hs.b hb;rw[h'] at hc; cases hc
theorem sv.keep {m':Nat}(hs:sv h m v)(hm:m<=m')(hk:∀b,isB v b->h'[b]?=h[b]?):sv h' m' v:=by
 obtain⟨vs,hl,⟨e,k,rfl⟩|⟨b,rfl,hb⟩⟩:=hs
 .exact⟨vs,U,.inl ⟨e,k,rfl⟩⟩
 .exact⟨vs,U,.inr ⟨b,rfl,by rw[hk b rfl]; exact hb⟩⟩
structure Ch (c:Nat) (v1 v2:AV) (h:Hp) (v1' v2':AV) (h':Hp):Prop where
 len:h.length<=h'.length
 get:∀b,b<h.length->b≠c->¬isB v1 b->¬isB v2 b->h'[b]?=h[b]?
 n1:∀b,isB v1' b->isB v1 b∨h.length<=b
 n2:∀b,isB v2' b->isB v2 b∨h.length<=b
theorem Ch.refl (c:Nat)(v1 v2:AV)(h:Hp):Ch c v1 v2 h v1 v2 h:=⟨jF _,fun _ _ _ _ _=>rfl,fun _ h=>.inl h,fun _ h=>.inl h⟩
theorem Ch.trans {u1 u2 w1 w2:AV}{a b d:Hp}(h1:Ch c v1 v2 a u1 u2 b)(h2:Ch c u1 u2 b w1 w2 d):Ch c v1 v2 a w1 w2 d:=by
 refine⟨wE h1.len h2.len,fun i hi hc hv hu=>?_,fun i hi=>?_,fun i hi=>?_⟩
 .rw[h2.get i (Nat.lt_of_lt_of_le hi h1.len) hc (fun e=>(h1.n1 i e).elim hv (fun e=>U)) (fun e=>(h1.n2 i e).elim hu (fun e=>U)),h1.get i hi hc hv hu]
 .rcases h2.n1 i hi with h|h
  .exact h1.n1 i h
  .exact .inr (wE h1.len h)
 .rcases h2.n2 i hi with h|h
  .exact h1.n2 i h
  .exact .inr (wE h1.len h)
theorem Ch.app (c:Nat)(v1 v2:AV)(h x:Hp):Ch c v1 v2 h v1 v2 (h++x):=⟨A8,fun _ hi _ _ _=>qH hi,fun _ h=>.inl h,fun _ h=>.inl h⟩
theorem Ch.set (c:Nat)(v1 v2:AV)(h:Hp)(x:ABlk):Ch c v1 v2 h v1 v2 (h.set c x):=⟨A8,fun _ _ hc _ _=>by rw[zG,if_neg (fun e=>hc e.symm)],fun _ h=>.inl h,fun _ h=>.inl h⟩
theorem St.app {m1:Nat}(s:St h c m1 m2 n dd f v1 v2)(x:Hp):St (h++x) c m1 m2 n dd f v1 v2:=by
 have keep:∀v m,sv h m v->sv (h++x) m v:=fun v m hv=>hv.keep (jF _) fun b hb=>by
  obtain⟨vs,h'⟩:=hv.b hb;exact qH (AB h')
 exact⟨IK s.w,keep _ _ s.s1,keep _ _ s.s2,s.ap⟩
theorem St.set {h:Hp}{c m1 m2 n dd:Nat}{f:Int}{v1 v2:AV}(s:St h c m1 m2 n dd f v1 v2)(n' dd':Nat)(f':Int):St (h.set c (qF 5 [wRow n' dd' f' v1 v2])) c m1 m2 n' dd' f' v1 v2:=by
 have keep:∀v m,sv h m v->sv (h.set c (qF 5 [wRow n' dd' f' v1 v2])) m v:=fun v m hv=>hv.keep (jF _) fun b hb=>by
  rw[zG,if_neg (fun e=>hv.ne s.w hb e.symm)]
 exact⟨CQ s.w,keep _ _ s.s1,keep _ _ s.s2,s.ap⟩
section
variable {h:Hp} {c m1 m2 n dd:Nat} {f:Int} {v1 v2:AV} (s:St h c m1 m2 n dd f v1 v2)
include s
theorem St.l0:BO jA h 3 (.ptr c 0 0)=some (.n n):=by rw[BH ag3 s.w (row:=wRow n dd f v1 v2) rfl]; rfl
theorem St.l1:BO jA h 3 (.ptr c 0 1)=some (.n dd):=by rw[BH ag3 s.w (row:=wRow n dd f v1 v2) rfl]; rfl
theorem St.l2:BO jA h 38 (.ptr c 0 2)=some (.n f):=by rw[BH AP4 s.w (row:=wRow n dd f v1 v2) rfl]; rfl
theorem St.l3:BO jA h 121 (.ptr c 0 3)=some v1:=by rw[BH rK s.w (row:=wRow n dd f v1 v2) rfl]; rfl
theorem St.l4:BO jA h 121 (.ptr c 0 4)=some v2:=by rw[BH rK s.w (row:=wRow n dd f v1 v2) rfl]; rfl
theorem St.t0 (x:Nat):DX jA h 3 (.ptr c 0 0) (.n x)=some (h.set c (qF 5 [wRow x dd f v1 v2])):=by
 rw[G9 (XO _ _) sz3 s.w (row:=wRow n dd f v1 v2) rfl (by simp [wRow])]; rfl
theorem St.t1 (x:Nat):DX jA h 3 (.ptr c 0 1) (.n x)=some (h.set c (qF 5 [wRow n x f v1 v2])):=by
 rw[G9 (XO _ _) sz3 s.w (row:=wRow n dd f v1 v2) rfl (by simp [wRow])]; rfl
theorem St.t2 (x:Int):DX jA h 38 (.ptr c 0 2) (.n x)=some (h.set c (qF 5 [wRow n dd x v1 v2])):=by
 rw[G9 (XO _ _) AVW s.w (row:=wRow n dd f v1 v2) rfl (by simp [wRow])]; rfl
end
theorem St.app3 {m1:Nat}(s:St h c m1 m2 n dd f v1 v2)(x:ByteArray)(hm:m1<=1099511627776):
  ∃ v' h',EP jA true h 121 121 v1 (.sl .full 1 [[.str x]])=some (v',h')∧DX jA h' 121 (.ptr c 0 3) v'=some (h'.set c (qF 5 [wRow n dd f v' v2])) ∧
    St (h'.set c (qF 5 [wRow n dd f v' v2])) c (m1+1) m2 n dd f v' v2∧Ch c v1 v2 h v' v2 (h'.set c (qF 5 [wRow n dd f v' v2])):=by
 obtain⟨v',h',ha,hs,hb,hl,hk⟩:=AP1 x s.s1 hm;have hc1:¬isB v1 c:=fun e=>s.s1.ne s.w e rfl
 have hc2:¬isB v2 c:=fun e=>s.s2.ne s.w e rfl
 have hcl:=AB s.w;have hw:h'[c]?=some (qF 5 [wRow n dd f v1 v2]):=by rw[hk c hcl hc1]; exact s.w
 have hvc:∀b,isB v' b->b≠c:=fun b hb' e=>by have:=hb b hb'; omega
 have hac:IB v'=some [v']:=by
  obtain⟨vs,_,⟨_,k,rfl⟩|⟨b,rfl,_⟩⟩:=hs<;>rfl
 refine⟨v',h',ha,by rw[G9 hac AL1 hw (row:=wRow n dd f v1 v2) rfl (by simp [wRow])]; rfl,⟨CQ hw,hs.keep (jF _) fun b hb'=>?_,s.s2.keep (jF _) fun b hb'=>?_,fun b h1 h2=>?_⟩,⟨BL hl,fun b hbl hne h1 h2=>?_,fun b hb'=>.inr (by rw[hb b hb']; exact jF _),fun b hb'=>.inl hb'⟩⟩
 .rw[zG,if_neg (fun e=>hvc b hb' e.symm)]
 .obtain⟨_,hx⟩:=s.s2.b hb'
  rw[zG,if_neg (fun e=>hc2 (by rw[e]; exact hb')),hk b (AB hx) (fun e=>s.ap b e hb')]
 .obtain⟨_,hx⟩:=s.s2.b h2
  have:=hb b h1; have:=AB hx; omega
 .rw[zG,if_neg (fun e=>hne e.symm),hk b hbl h1]
theorem St.app4 {m1:Nat}(s:St h c m1 m2 n dd f v1 v2)(x:ByteArray)(hm:m2<=1099511627776):
  ∃ v' h',EP jA true h 121 121 v2 (.sl .full 1 [[.str x]])=some (v',h')∧DX jA h' 121 (.ptr c 0 4) v'=some (h'.set c (qF 5 [wRow n dd f v1 v'])) ∧
    St (h'.set c (qF 5 [wRow n dd f v1 v'])) c m1 (m2+1) n dd f v1 v'∧Ch c v1 v2 h v1 v' (h'.set c (qF 5 [wRow n dd f v1 v'])):=by
 obtain⟨v',h',ha,hs,hb,hl,hk⟩:=AP1 x s.s2 hm;have hc1:¬isB v1 c:=fun e=>s.s1.ne s.w e rfl
 have hc2:¬isB v2 c:=fun e=>s.s2.ne s.w e rfl
 have hcl:=AB s.w;have hw:h'[c]?=some (qF 5 [wRow n dd f v1 v2]):=by rw[hk c hcl hc2]; exact s.w
 have hvc:∀b,isB v' b->b≠c:=fun b hb' e=>by have:=hb b hb'; omega
 have hac:IB v'=some [v']:=by
  obtain⟨vs,_,⟨_,k,rfl⟩|⟨b,rfl,_⟩⟩:=hs<;>rfl
 refine⟨v',h',ha,by rw[G9 hac AL1 hw (row:=wRow n dd f v1 v2) rfl (by simp [wRow])]; rfl,⟨CQ hw,s.s1.keep (jF _) fun b hb'=>?_,hs.keep (jF _) fun b hb'=>?_,fun b h1 h2=>?_⟩,⟨BL hl,fun b hbl hne h1 h2=>?_,fun b hb'=>.inl hb',fun b hb'=>.inr (by rw[hb b hb']; exact jF _)⟩⟩
 .obtain⟨_,hx⟩:=s.s1.b hb'
  rw[zG,if_neg (fun e=>hc1 (by rw[e]; exact hb')),hk b (AB hx) (fun e=>s.ap b hb' e)]
 .rw[zG,if_neg (fun e=>hvc b hb' e.symm)]
 .obtain⟨_,hx⟩:=s.s1.b h1
  have:=hb b h2; have:=AB hx; omega
 .rw[zG,if_neg (fun e=>hne e.symm),hk b hbl h2]
def YP (z:Int)(xs:List Ex):Int:=xs.foldl (fun z e=>if z=0 then HY e else z) z
theorem AA1 (z:Int)(xs ys:List Ex):YP z (xs++ys)=YP (YP z xs) ys:=List.foldl_append
theorem St.weak {m1 m1' m2':Nat}(s:St h c m1 m2 n dd f v1 v2)(h1:m1<=m1')(h2:m2<=m2'):St h c m1' m2' n dd f v1 v2 :=
 ⟨s.w,s.s1.keep h1 fun _ _=>rfl,s.s2.keep h2 fun _ _=>rfl,s.ap⟩
def Md (e:Ex)(c d:Nat)(v1 v2:AV)(h:Hp)(m1 m2 n dd:Nat)(f:Int)(F:Nat->AV)(H:Hp):Prop :=
 F 0=.ptr c 0 0∧F 2=.n (d:Nat)∧F 4=.ptr h.length 0 0∧∃u1 u2,St H c m1 m2 n dd f u1 u2∧Ch c v1 v2 (h++[qF 4 [AY e]]) u1 u2 H
theorem xX (xs:List Ex):(E8 xs).length<=wts xs:=by
 induction xs with
 | nil=>simp [E8,wts]
 | cons x xs ih=>have:=VA x; simp only[E8,wts,jS]; omega
theorem vB:∀(xs:List Ex) (j:Nat) (hj:j<xs.length),wts (xs.take j)+wt xs[j]<=wts xs
 | x::xs,0,_=>by simp [wts]
 | x::xs,j+1,h=>by
   have:=vB xs j (BL h);simp only[List.take_succ_cons,wts,List.getElem_cons_succ]; omega
theorem bV:∀(xs:List Ex) (j:Nat),deps (xs.take j)<=wts xs
 | [],j=>by simp [deps,wts]
 | x::xs,0=>by simp [deps]
 | x::xs,j+1=>by
   have h1:=bV xs j;have h2:=AO4 x;simp only[List.take_succ_cons,deps,wts]; omega
theorem AQZ (c:Nat)(e:Ex):WN e->∀(h:Hp) (d n dd:Nat) (f:Int) (v1 v2:AV),d+wt e<=549755813888->n+wt e<=549755813888->dd<=1099511627776->St h c n n n dd f v1 v2 ->
  ACalls (En G) 270 [.ptr c 0 0,.agg (AY e),.n (d:Nat)] h fun _ h'=>∃u1 u2,St h' c (n+(pre e).length) (n+(pre e).length) (n+(pre e).length) (max dd (d+deps e.args)) (YP f (pre e)) u1 u2∧Ch c v1 v2 h u1 u2 h':=by
 induction e using Ex.induct with|h e ih=>?_
 intro hwn h d n dd f v1 v2 hd hn hdd s;have hw:=hwn.1;have hnm:e.name.size<=1048576:=hwn.2 e (by rw[pre_eq]; simp);have hal:e.args.length<=wts e.args:=UW e.args;have hwe:=MH e;have hcl:=AB s.w
 have hbox:∀(u1 u2:AV) (H:Hp),Ch c v1 v2 (h++[qF 4 [AY e]]) u1 u2 H->H[h.length]?=some (qF 4 [AY e]):=by
  intro u1 u2 H hC;rw[hC.get h.length A8 U (fun hb=>?_) (fun hb=>?_)]
  .exact AX _ _
  .obtain⟨_,hx⟩:=s.s1.b hb
   have:=AB hx; omega
  .obtain⟨_,hx⟩:=s.s2.b hb
   have:=AB hx; omega
 have lb0:∀H:Hp,H[h.length]?=some (qF 4 [AY e])->BO jA H 3 (.ptr h.length 0 0)=some (.n e.op):=fun H hH=>by rw[BH ag3 hH (row:=AY e) rfl,JS]
 have lb2:∀H:Hp,H[h.length]?=some (qF 4 [AY e])->BO jA H 9 (.ptr h.length 0 2)=some (.str e.name):=fun H hH=>by rw[BH ag9 hH (row:=AY e) rfl,QT]
 have lb3:∀H:Hp,H[h.length]?=some (qF 4 [AY e])->BO jA H 23 (.ptr h.length 0 3)=some (.sl e.m 4 (e.args.map AY)):=fun H hH=>by rw[BH L6 hH (row:=AY e) rfl,XH]
 refine J7 (H:=hint [56,85] []) (enM G) Tryz.func270 rfl (by kernel_rfl) (by kernel_rfl) (jB (by kernel_rfl)) ?_;show awp _ _ _ _ _ (NU _ [] _);have s0:=s.app [qF 4 [AY e]];have c0:=Ch.app c v1 v2 h [qF 4 [AY e]];refine MR @AG7 @tX @bxE @s0.l0 (CW n) @s0.t0 ?_;have s1:=s0.set (n+1) dd f;have c1:=Ch.set c v1 v2 (h++[qF 4 [AY e]]) (qF 5 [wRow (n+1) dd f v1 v2]);clear s0
 generalize (h++[qF 4 [AY e]]).set c (qF 5 [wRow (n+1) dd f v1 v2])=H1 at s1 c1|-
 refine AO @s1.l1 ?_;refine XI (Md e c d v1 v2 h n n (n+1) (max dd d) f) (fun _ _=>False) (fun hb=>?_) (fun hb=>?_) ?_ (fun _ _ hh=>hh.elim)
 .refine AQ @tX @s1.t1 ?_
  refine⟨rfl,rfl,rfl,v1,v2,?_,c1.trans (Ch.set c _ _ _ _)⟩;have:max dd d=d:=by simp at hb; omega
  rw[this];exact s1.set (n+1) d f
 .refine Z ?_
  refine⟨rfl,rfl,rfl,v1,v2,?_,c1⟩;have:max dd d=dd:=by simp at hb; omega
  rw[this];exact s1
 clear s1 c1;rintro F H ⟨f0,f2,f4,u1,u2,s,hC⟩;refine DI @bL f0 @s.l2 ?_;refine XI (Md e c d v1 v2 h n n (n+1) (max dd d) (YP f [e])) (fun _ _=>False) (fun hb=>?_) (fun hb=>?_) ?_ (fun _ _ hh=>hh.elim)
 .refine EO f0 f2 f4 (IW (hbox _ _ _ hC)) ?_
  refine(AH7 G e _ hnm).use ?_;refine JL @bL @s.t2 f0 f2 f4 ?_;refine⟨f0,f2,f4,u1,u2,?_,hC.trans (Ch.set c _ _ _ _)⟩
  have:YP f [e]=HY e:=by
   have:f=0:=BL hb;subst this; rfl
  rw[this];exact s.set _ _ _
 .refine Z ?_
  refine⟨f0,f2,f4,u1,u2,?_,hC⟩
  have:YP f [e]=f:=by
   have:f≠0:=BL hb;show(if f=0 then HY e else f)=f;rw[if_neg this]
  rw[this]; exact s
 clear f0 f2 f4 s hC;rintro F H ⟨f0,f2,f4,u1,u2,s,hC⟩;refine Z ?_;refine DJ AZ ?_;have hB:=hbox _ _ _ hC;refine AQN (fun F H=>(∃b,F 47=.bool b)∧Md e c d v1 v2 h n n (n+1) (max dd d) (YP f [e]) F H) ?_ ?_
 .cases b2:(e.op==2)
  .refine JL f0 f2 f4 (lb0 _ hB) b2 ?_
   exact⟨⟨_,rfl⟩,f0,f2,f4,u1,u2,s,hC⟩
  .obtain⟨r,hr⟩:=AN6 G e.name s.s1 U
   refine QZ @AG6 f0 f2 f4 (lb0 _ hB) (lb2 _ hB) b2 @s.l3 ?_;refine⟨_,hr,?_⟩;refine DI f0 f2 f4 ?_;exact⟨⟨_,rfl⟩,f0,f2,f4,u1,u2,s,hC⟩
 clear f0 f2 f4 s hC hB;rintro F H ⟨⟨b,f47⟩,f0,f2,f4,u1,u2,s,hC⟩;have hB:=hbox _ _ _ hC;refine AO f47 ?_;refine XI (Md e c d v1 v2 h (n+1) n (n+1) (max dd d) (YP f [e])) (fun _ _=>False) (fun hb=>?_) (fun hb=>?_) ?_ (fun _ _ hh=>hh.elim)
 .obtain⟨v',H',ha,ht,s',hC'⟩:=s.app3 e.name U
  refine DJ AZ ?_;refine VW @AG6 f0 f2 f4 (lb2 _ hB) @s.l3 APK ha ht ?_;exact⟨f0,f2,f4,_,_,s',hC.trans hC'⟩
 .refine Z ?_
  exact⟨f0,f2,f4,_,_,s.weak U U,hC⟩
 clear f0 f2 f4 s hC hB;rintro F H ⟨f0,f2,f4,u1,u2,s,hC⟩;have hB:=hbox _ _ _ hC;refine Z ?_;refine DJ AZ ?_;refine AQN (fun F H=>(∃b,F 76=.bool b)∧Md e c d v1 v2 h (n+1) n (n+1) (max dd d) (YP f [e]) F H) ?_ ?_
 .obtain⟨r,hr⟩:=AN6 G e.name s.s2 U
  cases b2:(e.op==3)
  .cases b3:(e.op==24)
   .refine MR f0 f2 f4 (lb0 _ hB) b2 b3 ?_
    exact⟨⟨_,rfl⟩,f0,f2,f4,u1,u2,s,hC⟩
   .refine VW @tW f0 f2 f4 (lb0 _ hB) (lb2 _ hB) b2 b3 @s.l4 ?_
    refine⟨_,hr,?_⟩;refine DI f0 f2 f4 ?_;exact⟨⟨_,rfl⟩,f0,f2,f4,u1,u2,s,hC⟩
  .refine QZ @tW f0 f2 f4 (lb0 _ hB) (lb2 _ hB) b2 @s.l4 ?_
   refine⟨_,hr,?_⟩;refine DI f0 f2 f4 ?_;exact⟨⟨_,rfl⟩,f0,f2,f4,u1,u2,s,hC⟩
 clear f0 f2 f4 s hC hB f47;rintro F H ⟨⟨b,f76⟩,f0,f2,f4,u1,u2,s,hC⟩;have hB:=hbox _ _ _ hC;refine AO f76 ?_;refine XI (Md e c d v1 v2 h (n+1) (n+1) (n+1) (max dd d) (YP f [e])) (fun _ _=>False) (fun hb=>?_) (fun hb=>?_) ?_ (fun _ _ hh=>hh.elim)
 .obtain⟨v',H',ha,ht,s',hC'⟩:=s.app4 e.name U
  refine DJ AZ ?_;refine VW @tW f0 f2 f4 (lb2 _ hB) @s.l4 APK ha ht ?_;exact⟨f0,f2,f4,_,_,s',hC.trans hC'⟩
 .refine Z ?_
  exact⟨f0,f2,f4,_,_,s.weak U U,hC⟩
 clear f0 f2 f4 s hC hB f76;rintro F H ⟨f0,f2,f4,u1,u2,s,hC⟩;refine Z ?_;refine BB (fun k F H=>∃j,k+j=e.args.length∧F 6=.n (j:Nat)∧Md e c d v1 v2 h (n+1+(E8 (e.args.take j)).length) (n+1+(E8 (e.args.take j)).length) (n+1+(E8 (e.args.take j)).length) (max dd (d+deps (e.args.take j))) (YP (YP f [e]) (E8 (e.args.take j))) F H) e.args.length ⟨0,A8,rfl,f0,f2,f4,u1,u2,s,hC⟩ ?_;clear f0 f2 f4 s hC;rintro k F H ⟨j,hj,f6,f0,f2,f4,u1,u2,s,hC⟩;have hB:=hbox _ _ _ hC;refine DI f6 f4 (lb3 _ hB) ?_;refine DU ?_ ?_<;>intro hj'
 .have hmem:e.args[j]∈e.args:=jH hj'
  have hwa:=UU hmem
  have hpl:(E8 (e.args.take j)).length+(pre e.args[j]).length<=wts e.args:=by
   have h1:=xX e.args
   have h2:E8 e.args=E8 (e.args.take j)++(pre e.args[j]++E8 (e.args.drop (j+1))):=by
    rw[<-zC,<-LV _ _ hj',<-MX,wC]
   rw[h2] at h1; simp at h1; omega
  have hsp:(E8 (e.args.take j)).length+wt e.args[j]<=wts e.args:=by
   have h1:=xX (e.args.take j);have h2:=vB e.args j hj';omega
  have hdt:deps (e.args.take j)<=wts e.args:=bV e.args j;simp -implicitDefEqProofs only[vQ,List.contains_cons,List.contains_nil,Nat.reduceBEq,Bool.or_false,CJ,↓reduceIte,jC,enP,PK,ZX,IX,f0,f2,f4,f6,lb3 _ hB,CG hj',CY OZ I8 EF hj',CW d];refine(ih e.args[j] hmem ⟨U,fun x hx=>hwn.2 x (by rw[pre_eq]; exact List.mem_cons_of_mem _ (X0 hmem x hx))⟩ H (d+1) _ _ _ u1 u2 U U U s).mono ?_;rintro v H' ⟨w1,w2,s',hC'⟩;refine AQ f6 (CW j) ?_;refine⟨k-1,U,j+1,U,rfl,f0,f2,f4,w1,w2,?_,hC.trans hC'⟩;rw[LV _ _ hj',qS _ _ hj',AA1,jS]
  have e1:max (max dd (d+deps (e.args.take j))) (d+1+deps e.args[j].args)=max dd (d+max (deps (e.args.take j)) (dep e.args[j])):=by
   rw[Z4]; omega
  rw[e1,Nat.add_assoc (n+1)] at s';exact s'
 .rw[jJ U] at s
  refine AO @lG ?_;refine⟨u1,u2,?_,c0.trans hC⟩;have e1:n+1+(E8 e.args).length=n+(pre e).length:=by rw[pre_eq]; simp; omega
  have e2:YP (YP f [e]) (E8 e.args)=YP f (pre e):=by rw[pre_eq,<-AA1]; rfl
  rw[e1,e2] at s;exact s
theorem A1E:IR jA 263 []=some (.agg [.n 0,.n 0,.n 0,.sl .nil 0 [],.sl .nil 0 []]):=AZ
theorem A0W (h:Hp):MP h (.agg [.n 0,.n 0,.n 0,.sl .nil 0 [],.sl .nil 0 []])=some (.ptr h.length 0 0,h++[qF 5 [wRow 0 0 0 (.sl .nil 0 []) (.sl .nil 0 [])]]):=YH rfl
theorem AMU (e:Ex)(hwn:WN e)(h:Hp):
  ACalls (En G) 202 [.agg (AY e)] h fun v h'=>∃c m u1 u2,v=.ptr c 0 0∧St h' c m m (pre e).length (dep e) (errs (pre e)) u1 u2∧∃x,h'=h++x:=by
 refine acT Tryz.func202 2 ?_;simp -implicitDefEqProofs only[vQ,LC,CJ,AHT,TY,P9,↓reduceIte,jC,enP,bxE,A1E,A0W,IW (AL (AX h _))];have nb:∀b,¬isB (.sl .nil 0 []) b:=fun b hb=>hb
 have hw:=hwn.1;refine(AQZ G _ e hwn _ 1 0 0 0 (.sl .nil 0 []) (.sl .nil 0 []) U U U ⟨AX _ _,⟨[],A8,.inl ⟨rfl,_,rfl⟩⟩,⟨[],A8,.inl ⟨rfl,_,rfl⟩⟩,fun b hb=>(nb b hb).elim⟩).mono ?_;rintro v h' ⟨u1,u2,s,hC⟩;refine Z ?_;have e1:0+(pre e).length=(pre e).length:=jG _;have e2:max 0 (1+deps e.args)=dep e:=by rw[Z4]; omega
 rw[e1,e2] at s;refine⟨_,_,u1,u2,rfl,s,?_⟩;have hC2:=((Ch.app (h++[qF 4 [AY e]]).length (.sl .nil 0 []) (.sl .nil 0 []) h [qF 4 [AY e]]).trans (Ch.app _ _ _ _ [qF 5 [wRow 0 0 0 (.sl .nil 0 []) (.sl .nil 0 [])]])).trans hC;refine Chg.above (c:=(h++[qF 4 [AY e]]).length) ⟨hC2.len,fun b hb hne=>hC2.get b hb hne (nb b) (nb b)⟩ A8
theorem uB (e:Ex)(h:Hp)(hw:WN e):PCall (En G) 113 [.agg (AY e)] h (.n (exE e)):=by
 refine ACalls.pure0 rfl ?_;refine acT Tryz.func113 2 ?_;refine AQ @bxE @ldE ?_;refine(AMU G e hw _).mono ?_;rintro v h' ⟨c,m,u1,u2,rfl,s,x,rfl⟩;refine AQ @bL @s.l2 ?_;rcases he:(errs (pre e)==0) with _|_
 .refine AQ @bL @s.l2 ?_
  have:errs (pre e)≠0:=BL he;exact⟨by unfold exE; rw[if_neg (fun hh=>this hh.1)],_,by rw[zC]⟩
 have he0:errs (pre e)=0:=BL he;refine AQ @tX @s.l1 ?_;refine GV ?_ ?_<;>intro hd
 .refine AO hd ?_
  exact⟨by unfold exE; rw[if_pos ⟨he0,.inl (by simp at hd; omega)⟩],_,by rw[zC]⟩
 refine DI @AG7 hd @s.l0 ?_;refine BG ?_ ?_<;>intro hn
 .refine Z ?_
  exact⟨by unfold exE; rw[if_pos ⟨he0,.inr (by simp at hn; omega)⟩],_,by rw[zC]⟩
 .refine AQ @bL @s.l2 ?_
  exact⟨by unfold exE; rw[if_neg (fun hh=>by simp at hn hd; omega)],_,by rw[zC]⟩
theorem fA (e:Ex)(h:Hp)(hw:wt e<=1048576):PCall (En G) 113 [.agg (AY e)] h (.n (exE e)):=uB G e h (AQB hw)
structure Is where
 m:SM
 l:List Int
def KL (x:Is):List AV:=[.sl x.m 1 (x.l.map qencI)]
theorem SK (x:Is):(KL x)[0]?=some (.sl x.m 1 (x.l.map qencI)):=rfl
theorem lJ (x:Is):(KL x).length=1:=rfl
structure Pt where
 name:ByteArray
 ex:Ex
 bm:SM
 bins:List Bin
def FP (p:Pt):List AV:=.str p.name::(AY p.ex++[.sl p.bm 4 (p.bins.map H7)])
theorem AHG (p:Pt):(FP p)[0]?=some (.str p.name):=rfl
theorem NI (p:Pt):(FP p)[5]?=some (.sl p.bm 4 (p.bins.map H7)):=by unfold FP; rw[EY]; rfl
theorem IC (p:Pt):(FP p).length=6:=by unfold FP; rw[EY]; rfl
theorem dS (p:Pt):(FP p).all AV.leaf=true:=by unfold FP; rw[EY]; rfl
theorem uG (p:Pt):((FP p).drop 1).take 4=AY p.ex:=by unfold FP; rw[EY]; rfl
theorem bxP (h:Hp)(p:Pt):MP h (.agg (FP p))=some (.ptr h.length 0 0,h++[qF 6 [FP p]]):=by
 have:=YH (h:=h) (dS p);rw[IC] at this; exact this
theorem ANJ {b:Nat}{p:Pt}(hb:h[b]?=some (qF 6 [FP p])):BO jA h 79 (.ptr b 0 1)=some (.agg (AY p.ex)):=by
 rw[EH OZ I8 hb rfl (by rw[IC]; omega),uG]
structure Cr where
 name:ByteArray
 pm:SM
 pts:List Int
 xm:SM
 excl:List Is
def GG (c:Cr):List AV:=[.str c.name,.sl c.pm 1 (c.pts.map qencI),.sl c.xm 1 (c.excl.map KL)]
theorem AHI (c:Cr):(GG c)[0]?=some (.str c.name):=rfl
theorem fB (c:Cr):(GG c)[1]?=some (.sl c.pm 1 (c.pts.map qencI)):=rfl
theorem AA7 (c:Cr):(GG c)[2]?=some (.sl c.xm 1 (c.excl.map KL)):=rfl
theorem LY (c:Cr):(GG c).length=3:=rfl
theorem bxC (h:Hp)(c:Cr):MP h (.agg (GG c))=some (.ptr h.length 0 0,h++[qF 3 [GG c]]):=rfl
structure Mo where
 pm:SM
 pts:List Pt
 cm:SM
 crs:List Cr
def CZ (m:Mo):List AV:=[.sl m.pm 6 (m.pts.map FP),.sl m.cm 3 (m.crs.map GG)]
theorem UD (m:Mo):(CZ m)[0]?=some (.sl m.pm 6 (m.pts.map FP)):=rfl
theorem VT (m:Mo):(CZ m)[1]?=some (.sl m.cm 3 (m.crs.map GG)):=rfl
theorem AOZ (m:Mo):(CZ m).length=2:=rfl
theorem bxM (h:Hp)(m:Mo):MP h (.agg (CZ m))=some (.ptr h.length 0 0,h++[qF 2 [CZ m]]):=rfl
def nT:List ByteArray->List ByteArray->Bool
 | _,[]=>false
 | seen,x::xs=>G7 seen x||nT (seen++[x]) xs
def PM (l:List ByteArray):Bool:=nT [] l
theorem RV (N:List ByteArray)(i:Nat)(hi:i<N.length):nT (N.take i) (N.drop i)=(G7 (N.take i) N[i]||nT (N.take (i+1)) (N.drop (i+1))):=by
 rw[zS hi,jW hi]; rfl
theorem GI {α:Type}{l:List α}{i:Nat}{hi:i<l.length}{x:α}(h:l[i]?=some x):l[i]=x:=by
 rw[jI hi] at h; exact Option.some.inj h
theorem AGL (x:Bin)(h:Hp):PCall (En G) 164 [.agg (H7 x)] h (.str x.name):=by
 refine ACalls.pure0 rfl ?_;refine acT Tryz.func164 2 ?_;refine JZ @tQ @bxB @AHJ ?_;exact⟨trivial,_,rfl⟩
theorem AI5 (xs:List Bin)(m:SM)(h:Hp)(hl:xs.length<=1099511627776):
  PCall (En G) 163 [.sl m 4 (xs.map H7),.fn (.func 164) [] []] h (.bool (PM (xs.map (·.name)))):=by
 refine acT Tryz.func163 4 ?_;refine Z ?_;generalize hN:xs.map (·.name)=N;have hNl:N.length=xs.length:=by rw[<-hN]; simp
 have hNi:∀i (hi:i<xs.length),N[i]?=some xs[i].name:=fun i hi=>by rw[<-hN,jX,jI hi]; rfl
 refine BB (fun n F H=>∃i,n+i=xs.length∧F 0=.sl m 4 (xs.map H7)∧F 1=.fn (.func 164) [] []∧F 8=.n xs.length∧F 9=.n (i:Nat)∧H=h∧PM N=nT (N.take i) (N.drop i)) xs.length ⟨0,A8,AC,AC,AC,AC,rfl,rfl⟩ ?_;rintro n F H ⟨i,hi,f0,f1,f8,f9,rfl,hd⟩;refine AQ f8 f9 ?_;refine DU ?_ ?_<;>intro hi'
 .have hdrop:=RV N i U
  rw[GI (hNi i hi')] at hdrop;refine AO f9 ?_;refine D9 2 (fun F' H'=>F' 0=.sl m 4 (xs.map H7)∧F' 1=.fn (.func 164) [] []∧F' 8=.n xs.length∧F' 9=.n (i:Nat)∧H'=H∧G7 (N.take i) xs[i].name=false) (fun F' H'=>F' 4=.bool (PM N)∧H'=H) ?_ ?_ ?_
  .refine BB (fun n F' H'=>∃k,n+k=i∧F' 0=.sl m 4 (xs.map H7)∧F' 1=.fn (.func 164) [] []∧F' 8=.n xs.length∧F' 9=.n (i:Nat)∧F' 5=.n (i:Nat)∧F' 12=.n (i:Nat)∧F' 13=.n (k:Nat)∧H'=H∧G7 (N.take i) xs[i].name=G7 ((N.take i).drop k) xs[i].name) i ⟨0,A8,DW f0,DW f1,DW f8,DW f9,AC,AC,AC,rfl,rfl⟩ ?_
   clear f0 f1 f8 f9;rintro n' F H' ⟨k,hk,f0,f1,f8,f9,f5,f12,f13,rfl,hin⟩;refine AQ f12 f13 ?_;refine DU ?_ ?_<;>intro hk'
   .have hk2:k<xs.length:=U
    have hs:=LZ (fun u=>xs[i].name.toList==u.toList) (N.take i) k (by rw[jU]; omega)
    have hx:(N.take i)[k]'(by rw[jU]; omega)=xs[k].name:=by
     rw[List.getElem_take]; exact GI (hNi k hk2)
    rw[hx] at hs;refine AO f13 ?_;refine DJ AZ ?_;simp -implicitDefEqProofs only[vQ,LP,KF,↓reduceIte,jC,jP,enP,WU,f0,f1,f5,CG hi',CG hk2,CY gJ ZB KE hi',CY gJ ZB KE hk2];refine⟨_,AGL G xs[i] _,?_⟩;refine⟨_,AGL G xs[k] _,?_⟩
    try refine Z ?_
    refine BG ?_ ?_<;>intro hb
    .refine Z ?_
     refine⟨?_,trivial⟩
     have:G7 (N.take i) xs[i].name=true:=by
      rw[hin]; unfold G7; rw[hs,hb]; rfl
     rw[hd,hdrop,this]; rfl
    .refine AQ f13 (CW k) ?_
     refine⟨n'-1,U,k+1,U,f0,f1,f8,f9,f5,f12,rfl,trivial,?_⟩;rw[hin]; unfold G7; rw[hs,hb]; rfl
   .refine Z ?_
    refine⟨f0,f1,f8,f9,trivial,?_⟩;rw[hin,jR (by rw[jU]; omega)]; rfl
  .rintro F' H' ⟨g0,g1,g8,g9,rfl,hn⟩
   refine AQ g9 (CW i) ?_;refine⟨n-1,U,i+1,U,g0,g1,g8,rfl,trivial,?_⟩;rw[hd,hdrop,hn]; rfl
  .rintro F' H' ⟨g4,rfl⟩
   refine AO g4 ?_;exact G8
 .refine Z ?_
  exact⟨by rw[hd,jR U]; rfl,trivial⟩
theorem AGJ (x:Pt)(h:Hp):PCall (En G) 87 [.agg (FP x)] h (.str x.name):=by
 refine ACalls.pure0 rfl ?_;refine acT Tryz.func87 2 ?_;refine JZ @tR @bxP @AHG ?_;exact⟨trivial,_,rfl⟩
theorem AI3 (xs:List Pt)(m:SM)(h:Hp)(hl:xs.length<=1099511627776):
  PCall (En G) 86 [.sl m 6 (xs.map FP),.fn (.func 87) [] []] h (.bool (PM (xs.map (·.name)))):=by
 refine acT Tryz.func86 4 ?_;refine Z ?_;generalize hN:xs.map (·.name)=N;have hNl:N.length=xs.length:=by rw[<-hN]; simp
 have hNi:∀i (hi:i<xs.length),N[i]?=some xs[i].name:=fun i hi=>by rw[<-hN,jX,jI hi]; rfl
 refine BB (fun n F H=>∃i,n+i=xs.length∧F 0=.sl m 6 (xs.map FP)∧F 1=.fn (.func 87) [] []∧F 8=.n xs.length∧F 9=.n (i:Nat)∧H=h∧PM N=nT (N.take i) (N.drop i)) xs.length ⟨0,A8,AC,AC,AC,AC,rfl,rfl⟩ ?_;rintro n F H ⟨i,hi,f0,f1,f8,f9,rfl,hd⟩;refine AQ f8 f9 ?_;refine DU ?_ ?_<;>intro hi'
 .have hdrop:=RV N i U
  rw[GI (hNi i hi')] at hdrop;refine AO f9 ?_;refine D9 2 (fun F' H'=>F' 0=.sl m 6 (xs.map FP)∧F' 1=.fn (.func 87) [] []∧F' 8=.n xs.length∧F' 9=.n (i:Nat)∧H'=H∧G7 (N.take i) xs[i].name=false) (fun F' H'=>F' 4=.bool (PM N)∧H'=H) ?_ ?_ ?_
  .refine BB (fun n F' H'=>∃k,n+k=i∧F' 0=.sl m 6 (xs.map FP)∧F' 1=.fn (.func 87) [] []∧F' 8=.n xs.length∧F' 9=.n (i:Nat)∧F' 5=.n (i:Nat)∧F' 12=.n (i:Nat)∧F' 13=.n (k:Nat)∧H'=H∧G7 (N.take i) xs[i].name=G7 ((N.take i).drop k) xs[i].name) i ⟨0,A8,DW f0,DW f1,DW f8,DW f9,AC,AC,AC,rfl,rfl⟩ ?_
   clear f0 f1 f8 f9;rintro n' F H' ⟨k,hk,f0,f1,f8,f9,f5,f12,f13,rfl,hin⟩;refine AQ f12 f13 ?_;refine DU ?_ ?_<;>intro hk'
   .have hk2:k<xs.length:=U
    have hs:=LZ (fun u=>xs[i].name.toList==u.toList) (N.take i) k (by rw[jU]; omega)
    have hx:(N.take i)[k]'(by rw[jU]; omega)=xs[k].name:=by
     rw[List.getElem_take]; exact GI (hNi k hk2)
    rw[hx] at hs;refine AO f13 ?_;refine DJ AZ ?_;simp -implicitDefEqProofs only[vQ,LP,KF,↓reduceIte,jC,jP,enP,QM,f0,f1,f5,CG hi',CG hk2,CY gK ZC IC hi',CY gK ZC IC hk2];refine⟨_,AGJ G xs[i] _,?_⟩;refine⟨_,AGJ G xs[k] _,?_⟩
    try refine Z ?_
    refine BG ?_ ?_<;>intro hb
    .refine Z ?_
     refine⟨?_,trivial⟩
     have:G7 (N.take i) xs[i].name=true:=by
      rw[hin]; unfold G7; rw[hs,hb]; rfl
     rw[hd,hdrop,this]; rfl
    .refine AQ f13 (CW k) ?_
     refine⟨n'-1,U,k+1,U,f0,f1,f8,f9,f5,f12,rfl,trivial,?_⟩;rw[hin]; unfold G7; rw[hs,hb]; rfl
   .refine Z ?_
    refine⟨f0,f1,f8,f9,trivial,?_⟩;rw[hin,jR (by rw[jU]; omega)]; rfl
  .rintro F' H' ⟨g0,g1,g8,g9,rfl,hn⟩
   refine AQ g9 (CW i) ?_;refine⟨n-1,U,i+1,U,g0,g1,g8,rfl,trivial,?_⟩;rw[hd,hdrop,hn]; rfl
  .rintro F' H' ⟨g4,rfl⟩
   refine AO g4 ?_;exact G8
 .refine Z ?_
  exact⟨by rw[hd,jR U]; rfl,trivial⟩
theorem AGK (x:Cr)(h:Hp):PCall (En G) 90 [.agg (GG x)] h (.str x.name):=by
 refine ACalls.pure0 rfl ?_;refine acT Tryz.func90 2 ?_;refine JZ @tO @bxC @AHI ?_;exact⟨trivial,_,rfl⟩
theorem AI4 (xs:List Cr)(m:SM)(h:Hp)(hl:xs.length<=1099511627776):
  PCall (En G) 89 [.sl m 3 (xs.map GG),.fn (.func 90) [] []] h (.bool (PM (xs.map (·.name)))):=by
 refine acT Tryz.func89 4 ?_;refine Z ?_;generalize hN:xs.map (·.name)=N;have hNl:N.length=xs.length:=by rw[<-hN]; simp
 have hNi:∀i (hi:i<xs.length),N[i]?=some xs[i].name:=fun i hi=>by rw[<-hN,jX,jI hi]; rfl
 refine BB (fun n F H=>∃i,n+i=xs.length∧F 0=.sl m 3 (xs.map GG)∧F 1=.fn (.func 90) [] []∧F 8=.n xs.length∧F 9=.n (i:Nat)∧H=h∧PM N=nT (N.take i) (N.drop i)) xs.length ⟨0,A8,AC,AC,AC,AC,rfl,rfl⟩ ?_;rintro n F H ⟨i,hi,f0,f1,f8,f9,rfl,hd⟩;refine AQ f8 f9 ?_;refine DU ?_ ?_<;>intro hi'
 .have hdrop:=RV N i U
  rw[GI (hNi i hi')] at hdrop;refine AO f9 ?_;refine D9 2 (fun F' H'=>F' 0=.sl m 3 (xs.map GG)∧F' 1=.fn (.func 90) [] []∧F' 8=.n xs.length∧F' 9=.n (i:Nat)∧H'=H∧G7 (N.take i) xs[i].name=false) (fun F' H'=>F' 4=.bool (PM N)∧H'=H) ?_ ?_ ?_
  .refine BB (fun n F' H'=>∃k,n+k=i∧F' 0=.sl m 3 (xs.map GG)∧F' 1=.fn (.func 90) [] []∧F' 8=.n xs.length∧F' 9=.n (i:Nat)∧F' 5=.n (i:Nat)∧F' 12=.n (i:Nat)∧F' 13=.n (k:Nat)∧H'=H∧G7 (N.take i) xs[i].name=G7 ((N.take i).drop k) xs[i].name) i ⟨0,A8,DW f0,DW f1,DW f8,DW f9,AC,AC,AC,rfl,rfl⟩ ?_
   clear f0 f1 f8 f9;rintro n' F H' ⟨k,hk,f0,f1,f8,f9,f5,f12,f13,rfl,hin⟩;refine AQ f12 f13 ?_;refine DU ?_ ?_<;>intro hk'
   .have hk2:k<xs.length:=U
    have hs:=LZ (fun u=>xs[i].name.toList==u.toList) (N.take i) k (by rw[jU]; omega)
    have hx:(N.take i)[k]'(by rw[jU]; omega)=xs[k].name:=by
     rw[List.getElem_take]; exact GI (hNi k hk2)
    rw[hx] at hs;refine AO f13 ?_;refine DJ AZ ?_;simp -implicitDefEqProofs only[vQ,LP,KF,↓reduceIte,jC,jP,enP,WV,f0,f1,f5,CG hi',CG hk2,CY uT iL LY hi',CY uT iL LY hk2];refine⟨_,AGK G xs[i] _,?_⟩;refine⟨_,AGK G xs[k] _,?_⟩
    try refine Z ?_
    refine BG ?_ ?_<;>intro hb
    .refine Z ?_
     refine⟨?_,trivial⟩
     have:G7 (N.take i) xs[i].name=true:=by
      rw[hin]; unfold G7; rw[hs,hb]; rfl
     rw[hd,hdrop,this]; rfl
    .refine AQ f13 (CW k) ?_
     refine⟨n'-1,U,k+1,U,f0,f1,f8,f9,f5,f12,rfl,trivial,?_⟩;rw[hin]; unfold G7; rw[hs,hb]; rfl
   .refine Z ?_
    refine⟨f0,f1,f8,f9,trivial,?_⟩;rw[hin,jR (by rw[jU]; omega)]; rfl
  .rintro F' H' ⟨g0,g1,g8,g9,rfl,hn⟩
   refine AQ g9 (CW i) ?_;refine⟨n-1,U,i+1,U,g0,g1,g8,rfl,trivial,?_⟩;rw[hd,hdrop,hn]; rfl
  .rintro F' H' ⟨g4,rfl⟩
   refine AO g4 ?_;exact G8
 .refine Z ?_
  exact⟨by rw[hd,jR U]; rfl,trivial⟩
def fstE {α:Type}(f:α->Int):List α->Int
 | []=>0
 | x::xs=>if f x=0 then fstE f xs else f x
theorem RU {α:Type}(f:α->Int)(xs:List α)(k:Nat)(hk:k<xs.length):fstE f (xs.drop k)=if f xs[k]=0 then fstE f (xs.drop (k+1)) else f xs[k]:=by
 rw[zS hk]; rfl
def FV (p:Pt):Int :=
 if ER p.name=false then 7 else if exE p.ex≠0 then exE p.ex else if p.bins.length=0 then 1 else if 64<p.bins.length then 2 else
  if fstE GR p.bins≠0 then fstE GR p.bins else if PM (p.bins.map (·.name)) then 8 else 0
structure PtOk (p:Pt):Prop where
 ex:wt p.ex<=1048576
 name:p.name.size<=1048576
 num:p.bins.length<=1048576
 bins:∀b∈p.bins,BinOk b
theorem al79 (h:Hp):F9 jA h 87=some (.ptr h.length 0 0,h++[qF 4 [[.str ⟨#[]⟩,.n 0,.sl .nil 0 [],.sl .nil 0 []]]]):=FC (row:=[.str ⟨#[]⟩,.n 0,.sl .nil 0 [],.sl .nil 0 []]) AZ
theorem st79 (h:Hp)(b:Bin)(row:List AV)(hr:row.length=4):DX jA (h++[qF 4 [row]]) 87 (.ptr h.length 0 0) (.agg (H7 b))=some (h++[qF 4 [H7 b]]):=by
 rw[RP (PI rfl) (by rw[KE]; exact ZB) (by rw[KE,hr]; exact jF _)];have:splice row 0 (H7 b)=H7 b:=by unfold splice; simp [KE,hr]
 rw[this]
theorem ADB (hG:GOk G)(p:Pt)(hp:PtOk p)(h:Hp):PCall (En G) 85 [.agg (FP p)] h (.n (FV p)):=by
 refine ACalls.pure0 rfl ?_;have hp1:=hp.ex;have hp2:=hp.name;have hp3:=hp.num;refine acT Tryz.func85 2 ?_;refine JZ @tR @bxP @AHG ?_;refine(L9 G hG.kw p.name _ U).uu ?_;cases h1:ER p.name
 .refine Z ?_
  exact⟨by unfold FV; rw[if_pos h1],_,rfl⟩
 have h1':¬ER p.name=false:=by rw[h1]; decide
 simp -implicitDefEqProofs only[vQ,CJ,↓reduceIte,jC,qV,enP,dK,ANJ (AX h _)];refine(NT G hG p.ex _ hp1).uu ?_;refine BG ?_ ?_<;>intro h2
 .refine Z ?_
  exact⟨by unfold FV; rw[if_neg h1',if_pos (BL h2)],_,rfl⟩
 have h2':¬exE p.ex≠0:=BL h2;refine TM @NI ?_;refine BG ?_ ?_<;>intro h3
 .refine Z ?_
  exact⟨by unfold FV; rw[if_neg h1',if_neg h2',if_pos (by simp at h3; simpa using h3)],_,rfl⟩
 have h3':¬p.bins.length=0:=by simp at h3; simpa using h3
 refine TM @NI ?_;refine BG ?_ ?_<;>intro h4
 .refine Z ?_
  exact⟨by unfold FV; rw[if_neg h1',if_neg h2',if_neg h3',if_pos (by simp at h4; omega)],_,rfl⟩
 have h4':¬64<p.bins.length:=by simp at h4; omega
 have hpt:FV p=if fstE GR p.bins≠0 then fstE GR p.bins else if PM (p.bins.map (·.name)) then 8 else 0:=by
  unfold FV; rw[if_neg h1',if_neg h2',if_neg h3',if_neg h4']
 refine TM @NI ?_;refine D9 1 (fun F H=>F 1=.ptr h.length 0 0∧H[h.length]?=some (qF 6 [FP p])∧(∃x,H=h++x)∧fstE GR p.bins=0) (fun F H=>F 2=.n (FV p)∧∃x,H=h++x) ?_ ?_ ?_
 .refine BB (fun n F H=>∃k,n+k=p.bins.length∧F 1=.ptr h.length 0 0∧F 28=.sl p.bm 4 (p.bins.map H7)∧F 29=.n p.bins.length∧F 30=.n (k:Nat)∧H[h.length]?=some (qF 6 [FP p])∧(∃x,H=h++x)∧fstE GR p.bins=fstE GR (p.bins.drop k)) p.bins.length ⟨0,A8,EX,EX,EX,EX,AX _ _,⟨_,rfl⟩,rfl⟩ ?_
  rintro n F H ⟨k,hk,f1,f28,f29,f30,hb,⟨x,hx⟩,hf⟩;refine AQ f29 f30 ?_;refine DU ?_ ?_<;>intro hk'
  .have hs:=RU GR p.bins k hk'
   simp -implicitDefEqProofs only[vQ,CJ,↓reduceIte,jC,enP,WU,jQ,f28,f30,CG hk',CY gJ ZB KE hk',al79,st79 _ _ [.str ⟨#[]⟩,.n 0,.sl .nil 0 [],.sl .nil 0 []] rfl,ldB];refine(valid_prog G hG.kw p.bins[k] (hp.bins _ (jH hk')) _).uu ?_;refine BG ?_ ?_<;>intro hv
   .refine Z ?_
    have hv':GR p.bins[k]≠0:=BL hv;have:fstE GR p.bins=GR p.bins[k]:=by rw[hf,hs,if_neg hv']
    exact⟨by rw[hpt,this,if_pos hv'],x++_,by rw[hx,zC]⟩
   .have hv':GR p.bins[k]=0:=BL hv
    refine AQ f30 (CW k) ?_;exact⟨n-1,U,k+1,U,f1,f28,f29,rfl,AL hb,⟨x++_,by rw[hx,zC]⟩,by rw[hf,hs,if_pos hv']⟩
  .refine Z ?_
   exact⟨f1,hb,⟨x,hx⟩,by rw[hf,jR U]; rfl⟩
 .rintro F H ⟨f1,hb,⟨x,hx⟩,hf⟩
  have l5:BO jA H 80 (.ptr h.length 0 5)=some (.sl p.bm 4 (p.bins.map H7)):=by rw[BH OB hb (row:=FP p) rfl,NI]
  refine AQ f1 l5 ?_;refine(AI5 G p.bins p.bm H U).uu ?_;cases hd:PM (p.bins.map (·.name))
  .refine Z ?_
   exact⟨by rw[hpt,hf,hd]; rfl,x,hx⟩
  .refine Z ?_
   exact⟨by rw[hpt,hf,hd]; rfl,x,hx⟩
 .rintro F H ⟨f2,hx⟩
  refine AO f2 ?_;exact⟨trivial,hx⟩
theorem AI9 (p:Pt)(hp:PtOk p)(h:Hp):PCall (En G) 108 [.agg (FP p)] h (.n (FV p)):=by
 refine ACalls.pure0 rfl ?_;have hp1:=hp.ex;have hp2:=hp.name;have hp3:=hp.num;refine acT Tryz.func108 2 ?_;refine JZ @tR @bxP @AHG ?_;refine(NF G p.name _).uu ?_;cases h1:ER p.name
 .refine Z ?_
  exact⟨by unfold FV; rw[if_pos h1],_,rfl⟩
 have h1':¬ER p.name=false:=by rw[h1]; decide
 simp -implicitDefEqProofs only[vQ,CJ,↓reduceIte,jC,qV,enP,dK,ANJ (AX h _)];refine(fA G p.ex _ hp1).uu ?_;refine BG ?_ ?_<;>intro h2
 .refine Z ?_
  exact⟨by unfold FV; rw[if_neg h1',if_pos (BL h2)],_,rfl⟩
 have h2':¬exE p.ex≠0:=BL h2;refine TM @NI ?_;refine BG ?_ ?_<;>intro h3
 .refine Z ?_
  exact⟨by unfold FV; rw[if_neg h1',if_neg h2',if_pos (by simp at h3; simpa using h3)],_,rfl⟩
 have h3':¬p.bins.length=0:=by simp at h3; simpa using h3
 refine TM @NI ?_;refine BG ?_ ?_<;>intro h4
 .refine Z ?_
  exact⟨by unfold FV; rw[if_neg h1',if_neg h2',if_neg h3',if_pos (by simp at h4; omega)],_,rfl⟩
 have h4':¬64<p.bins.length:=by simp at h4; omega
 have hpt:FV p=if fstE GR p.bins≠0 then fstE GR p.bins else if PM (p.bins.map (·.name)) then 8 else 0:=by
  unfold FV; rw[if_neg h1',if_neg h2',if_neg h3',if_neg h4']
 refine Z ?_;refine D9 0 (fun F H=>F 1=.ptr h.length 0 0∧H=h++[qF 6 [FP p]]∧fstE GR p.bins=0) (fun F H=>F 2=.n (FV p)∧∃x,H=h++x) ?_ ?_ ?_
 .refine BB (fun n F H=>∃k,n+k=p.bins.length∧F 1=.ptr h.length 0 0∧F 4=.n (k:Nat)∧H=h++[qF 6 [FP p]]∧fstE GR p.bins=fstE GR (p.bins.drop k)) p.bins.length ⟨0,A8,EX,EX,rfl,rfl⟩ ?_
  rintro n F H ⟨k,hk,f1,f4,rfl,hf⟩;refine JZ f1 f4 @NI ?_;refine DU ?_ ?_<;>intro hk'
  .have hs:=RU GR p.bins k hk'
   simp -implicitDefEqProofs only[vQ,CJ,↓reduceIte,jC,enP,WU,JV,f1,f4,D6 OB,NI,CG hk',CY gJ ZB KE hk'];refine(valid_ref G p.bins[k] (hp.bins _ (jH hk')) _).uu ?_;refine BG ?_ ?_<;>intro hv
   .refine Z ?_
    have hv':GR p.bins[k]≠0:=BL hv;have:fstE GR p.bins=GR p.bins[k]:=by rw[hf,hs,if_neg hv']
    exact⟨by rw[hpt,this,if_pos hv'],_,rfl⟩
   .have hv':GR p.bins[k]=0:=BL hv
    refine AQ f4 (CW k) ?_;exact⟨n-1,U,k+1,U,f1,rfl,trivial,by rw[hf,hs,if_pos hv']⟩
  .refine Z ?_
   exact⟨f1,trivial,by rw[hf,jR U]; rfl⟩
 .rintro F H ⟨f1,rfl,hf⟩
  rw[hf,if_neg (fun hh=>hh rfl)] at hpt;refine AO f1 ?_;generalize hN:p.bins.map (·.name)=N at hpt;have hNl:N.length=p.bins.length:=by rw[<-hN]; simp
  have hNi:∀i (hi:i<p.bins.length),N[i]?=some p.bins[i].name:=fun i hi=>by rw[<-hN,jX,jI hi]; rfl
  refine BB (fun n F H=>∃i,n+i=p.bins.length∧F 1=.ptr h.length 0 0∧F 5=.n (i:Nat)∧H=h++[qF 6 [FP p]]∧PM N=nT (N.take i) (N.drop i)) p.bins.length ⟨0,A8,TN f1,EX,rfl,rfl⟩ ?_;clear f1;rintro n F H ⟨i,hi,f1,f5,rfl,hd⟩;refine JZ f1 f5 @NI ?_;refine DU ?_ ?_<;>intro hi'
  .have hdrop:=RV N i U
   rw[GI (hNi i hi')] at hdrop;refine AO f5 ?_;refine D9 4 (fun F' H'=>F' 1=.ptr h.length 0 0∧F' 5=.n (i:Nat)∧H'=h++[qF 6 [FP p]]∧G7 (N.take i) p.bins[i].name=false) (fun F' H'=>F' 2=.n 8∧H'=h++[qF 6 [FP p]]∧PM N=true) ?_ ?_ ?_
   .refine BB (fun n F' H'=>∃k,n+k=i∧F' 1=.ptr h.length 0 0∧F' 5=.n (i:Nat)∧F' 6=.n (k:Nat)∧H'=h++[qF 6 [FP p]]∧G7 (N.take i) p.bins[i].name=G7 ((N.take i).drop k) p.bins[i].name) i ⟨0,A8,TN f1,TN f5,EX,rfl,rfl⟩ ?_
    clear f1 f5;rintro n' F H' ⟨k,hk,f1,f5,f6,rfl,hin⟩;refine AQ f5 f6 ?_;refine DU ?_ ?_<;>intro hk'
    .have hk2:k<p.bins.length:=U
     have hs:=LZ (fun u=>p.bins[i].name.toList==u.toList) (N.take i) k (by rw[jU]; omega)
     have hx:(N.take i)[k]'(by rw[jU]; omega)=p.bins[k].name:=by
      rw[List.getElem_take]; exact GI (hNi k hk2)
     rw[hx] at hs;refine Z ?_;refine DJ AZ ?_;simp -implicitDefEqProofs only[vQ,OO,↓reduceIte,jC,jP,enP,WU,JV,tQ,f1,f5,f6,D6 OB,NI,CG hi',CG hk2,BP ag9 hi',BP ag9 hk2,AHJ];refine BG ?_ ?_<;>intro hb
     .refine Z ?_
      have:G7 (N.take i) p.bins[i].name=true:=by
       rw[hin]; unfold G7; rw[hs,BEq.comm,hb]; rfl
      exact⟨trivial,trivial,by rw[hd,hdrop,this]; rfl⟩
     .refine AQ f6 (CW k) ?_
      refine⟨n'-1,U,k+1,U,f1,f5,rfl,trivial,?_⟩;rw[hin]; unfold G7; rw[hs,BEq.comm,hb]; rfl
    .refine Z ?_
     refine⟨f1,f5,trivial,?_⟩;rw[hin,jR (by rw[jU]; omega)]; rfl
   .rintro F' H' ⟨g1,g5,rfl,hn⟩
    refine AQ g5 (CW i) ?_;refine⟨n-1,U,i+1,U,g1,rfl,trivial,?_⟩;rw[hd,hdrop,hn]; rfl
   .rintro F' H' ⟨g2,rfl,hdd⟩
    refine AO g2 ?_;exact⟨by rw[hpt,hdd]; rfl,_,rfl⟩
  .refine Z ?_
   exact⟨by rw[hpt,hd,jR U]; rfl,_,rfl⟩
 .rintro F H ⟨f2,hx⟩
  refine AO f2 ?_;exact⟨trivial,hx⟩
def outG {α:Type}(k:Nat)(f:α->List AV)(h:Hp)(ys:List α)(v:AV)(H:Hp):Prop :=
 (ys=[]∧v=.sl .nil 0 [])∨(ys≠[]∧∃o,h.length<=o∧v=.own o 0 ys.length∧H[o]?=some (qF k (ys.map f)))
theorem outG.nil {α:Type}(k:Nat)(f:α->List AV)(h H:Hp):outG k f h [] (.sl .nil 0 []) H:=.inl ⟨rfl,rfl⟩
theorem outG.keep {α:Type}{f:α->List AV}{H':Hp}{ys:List α}(ho:outG k f h ys v H)(hk:∀b,isB v b->H'[b]?=H[b]?):outG k f h ys v H':=by
 rcases ho with h1|⟨h1,o,h2,rfl,h3⟩
 .exact .inl h1
 .exact .inr ⟨h1,o,h2,rfl,by rw[hk o rfl]; exact h3⟩
theorem outG.lt {α:Type}{f:α->List AV}{ys:List α}{b:Nat}(ho:outG k f h ys v H)(hb:isB v b):h.length<=b∧b<H.length:=by
 rcases ho with⟨_,rfl⟩|⟨_,o,h2,rfl,h3⟩
 .exact hb.elim
 .cases hb; exact⟨h2,AB h3⟩
theorem outG.app {α:Type}{f:α->List AV}{ys:List α}(ho:outG k f h ys v H)(x:Hp):outG k f h ys v (H++x) :=
 ho.keep fun _ hb=>qH (ho.lt hb).2
theorem outG.append {P:Program}{t e:TypeId}{α:Type}{bs:Nat}{f:α->List AV}{ys:List α}(ho:outG k f h ys v H)(hu:P.underlying t=some (.slice e))(hs:szO P e=some k)(hz:SY P e=some k)(hb:KR P e=some bs)(hbs:bs<=4194304)(hl:ys.length<8388608)(he:ext h H)(y:α):
  ∃v' H',EP P true H t t v (.sl .full k [f y])=some (v',H')∧outG k f h (ys++[y]) v' H'∧(∀b x,H[b]?=some x->¬isB v b->H'[b]?=some x)∧ext h H'∧H.length<=H'.length∧∀b,isB v' b->b=H.length:=by
 have h1:([f y]:List (List AV))≠[]:=A8;rcases ho with⟨rfl,rfl⟩|⟨hne,o,h2,rfl,h3⟩
 .exact⟨_,_,VL hu hs hz hb (IE H .full k [f y]) h1 (I5 A8 hbs),.inr ⟨A8,H.length,he.le,rfl,A8⟩,fun b x hb _=>IK hb,he.app _,A8,fun b hb=>hb.symm⟩
 .have hc:JF H (.own o 0 ys.length)=some (k,ys.map f):=by
   rw[J6 h3 A8,zM,jJ A8]
  refine⟨_,_,TK hu hs hz hb hc (IE H .full k [f y]) h1 (I5 MS hbs),.inr ⟨A8,H.length,he.le,A8,A8⟩,fun b x hb hn=>?_,(he.set h2 _).app _,A8,fun b hb=>hb.symm⟩;have hn':¬o=b:=hn;refine IK ?_;rw[zG,if_neg hn']; exact hb
theorem outG.len {P:Program}{t:TypeId}{α:Type}{f:α->List AV}{ys:List α}(ho:outG k f h ys v H)(hl:(∀m k xs,JQ P t (.sl m k xs)=some (.n xs.length))∧∀b off len,JQ P t (.own b off len)=some (.n len)):JQ P t v=some (.n ys.length):=by
 rcases ho with⟨rfl,rfl⟩|⟨_,o,_,rfl,_⟩
 .exact hl.1 _ _ _
 .exact hl.2 _ _ _
def nm {α:Type}(ys:List α):SM:=match ys with
 | []=>.nil
 | _=>.any
theorem frzF_own (n:Nat)(h:Hp)(d b off len k:Nat)(xs:List (List AV))(hn:¬b<n)(hb:h[b]?=some (qF k xs)):FI n h (d+1) (.own b off len)=if off+len<=xs.length∧(((xs.drop off).take len).map (·.map (FI n h d))).all (·.all AV.leaf)=true then .sl .any k (((xs.drop off).take len).map (·.map (FI n h d))) else .junk:=by
 rw[FI];simp only[hn,if_false,hb]
def Frz {α:Type}(f:α->List AV):Prop:=∀(n:Nat) (h:Hp) (d:Nat) (x:α),(f x).map (FI n h (d+1))=f x∧(f x).all AV.leaf=true
theorem frz_rows {α:Type}{f:α->List AV}(hf:Frz f)(n:Nat)(h:Hp)(d:Nat)(xs:List α):(xs.map f).map (·.map (FI n h (d+1)))=xs.map f:=by
 rw[wF];exact List.map_congr_left fun x _=>(hf n h d x).1
theorem frz_own {α:Type}{f:α->List AV}(hf:Frz f){d:Nat}{xs:List α}(hn:n<=o)(ho:h[o]?=some (qF k (xs.map f))):FI n h (d+2) (.own o 0 xs.length)=.sl .any k (xs.map f):=by
 rw[frzF_own n h (d+1) o 0 xs.length k _ U ho,zM,jJ A8,frz_rows hf n h d xs];rw[if_pos];refine⟨A8,?_⟩;rw[zJ];intro row hr;obtain⟨x,_,rfl⟩:=qE.1 hr;exact(hf n h d x).2
theorem KT {f:FuncId}{args:List AV}{α:Type}{enc:α->List AV}(hf:Frz enc){ys:List α}(hc:ACalls E f args h fun v H=>ext h H∧outG k enc h ys v H)(hX:E.nox=E:=by rfl):PCall E f args h (.sl (nm ys) k (ys.map enc)):=by
 have h1:PCall E f args h (if ys.length=0 then AV.sl .nil 0 [] else .sl .any k (ys.map enc)):=by
  refine ACalls.pure 2 hc ?_ hX;rintro v H ⟨hex,hout⟩;refine⟨hex,?_⟩;rcases hout with⟨rfl,rfl⟩|⟨hne,o,ho1,rfl,ho⟩
  .rfl
  .rw[if_neg (BL hne)]; exact frz_own hf ho1 ho
 refine ACalls.conv h1 ?_;rintro v H ⟨rfl,rfl⟩;refine⟨_,⟨rfl,rfl⟩,?_⟩;intro g cv hr
 cases ys with
 | nil=>exact yQ hr
 | cons y ys=>exact hr
def IP (m:Mo)(p:Int):List Bin:=match m.pts[p.toNat]? with
 | some q=>q.bins
 | none=>[]
def szs (m:Mo)(l:List Int):List Nat:=l.map fun p=>(IP m p).length
def Here (m:Mo)(l:List Int):Prop:=∀p∈l,0<=p∧p<(m.pts.length:Int)
theorem Here.toNat {m:Mo}{l:List Int}(hh:Here m l){k:Nat}(hk:k<l.length):(l[k]).toNat<m.pts.length:=by
 have:=hh _ (jH hk); omega
theorem Here.bins {m:Mo}{l:List Int}(hh:Here m l){k:Nat}(hk:k<l.length):(m.pts[(l[k]).toNat]'(hh.toNat hk)).bins=IP m l[k]:=by
 unfold IP; rw[jI (hh.toNat hk)]
theorem Here.ix {m:Mo}{l:List Int}(hh:Here m l){k:Nat}(hk:k<l.length)(h:Hp)(s:SM):JM 6 h (.sl s 6 (m.pts.map FP)) (.n l[k])=some (.fptr 6 (m.pts.map FP) (l[k]).toNat 0):=by
 have:=hh _ (jH hk);exact AUT this.1 (by rw[jL]; exact this.2)
theorem Here.ld {m:Mo}{l:List Int}(hh:Here m l){k:Nat}(hk:k<l.length)(h:Hp):∃s,BO jA h 80 (.fptr 6 (m.pts.map FP) (l[k]).toNat 5)=some (.sl s 4 ((IP m l[k]).map H7)):=by
 rw[BP OB (hh.toNat hk),NI,hh.bins hk];exact⟨_,rfl⟩
theorem frzI:Frz qencI:=fun _ _ _ _=>⟨rfl,rfl⟩
theorem AER (h:Hp)(v:Int):C9 jA false h 32 1 [(0,.n v)]=some (.sl .full 1 [[.n v]],h):=AZ
def J5 (n:Nat):List AV:=[.n (n:Int)]
theorem ASS:Frz J5:=fun _ _ _ _=>⟨rfl,rfl⟩
theorem lI (n:Nat):(J5 n)[0]?=some (.n (n:Int)):=rfl
theorem encI0 (n:Int):(qencI n)[0]?=some (.n n):=rfl
theorem vK (m:Mo)(l:List Int)(k:Nat)(hk:k<l.length):szs m (l.take (k+1))=szs m (l.take k)++[(IP m l[k]).length]:=by
 unfold szs; rw[jW hk,qL]; rfl
theorem ZG (m:Mo)(c:Cr)(h:Hp)(hh:Here m c.pts)(hl:c.pts.length<=1048576):PCall (En G) 148 [.agg (CZ m),.agg (GG c)] h (.sl (nm (szs m c.pts)) 1 ((szs m c.pts).map J5)):=by
 refine KT ASS ?_;refine acT Tryz.func148 4 ?_;refine OQ @bxM @bxC MO @fB ?_;have hb0:(h++[qF 2 [CZ m]]++[qF 3 [GG c]])[h.length]?=some (qF 2 [CZ m]):=AL (AX _ _);refine BB (fun n F H=>∃k,n+k=c.pts.length∧F 2=.ptr h.length 0 0∧F 9=.sl c.pm 1 (c.pts.map qencI)∧F 10=.n c.pts.length∧F 11=.n (k:Nat)∧H[h.length]?=some (qF 2 [CZ m])∧ext h H∧(∀b,isB (F 5) b->h.length<b)∧outG 1 J5 h (szs m (c.pts.take k)) (F 5) H) c.pts.length ⟨0,A8,EX,EX,EX,EX,hb0,((ext.rfl' h).app _).app _,fun b hb=>hb.elim,outG.nil _ _ _ _⟩ ?_;rintro n F H ⟨k,hk,f2,f9,f10,f11,hb,he,hlt,ho⟩;refine AQ f10 f11 ?_;refine DU ?_ ?_<;>intro hk'
 .have lm:BO jA H 28 (.ptr h.length 0 0)=some (.sl m.pm 6 (m.pts.map FP)):=by rw[BH eI hb (row:=CZ m) rfl,UD]
  obtain⟨s,ls⟩:=hh.ld hk' H;have hzl:(szs m (c.pts.take k)).length<8388608:=by unfold szs; simp; omega
  obtain⟨v',H',ha,ho',hkeep,he',hle,hb'⟩:=ho.append fP sz3 AH6 uN U hzl he (IP m c.pts[k]).length;simp -implicitDefEqProofs only[vQ,LC,KD,CJ,GH,JX,↓reduceIte,jC,enP,QM,KQ,KJ,ZN,JV,f2,f9,f11,CG hk',BP ag3 hk',encI0,lm,hh.ix hk',ls,jL,AER];refine JR (v:=v') (h:=H') (by rw[show [[AV.int .i64 ((IP m c.pts[k]).length:Int)]]=[J5 (IP m c.pts[k]).length] from rfl,ha]) ?_;refine AQ f11 (CW k) ?_;refine⟨n-1,U,k+1,U,f2,f9,f10,rfl,hkeep _ _ hb (fun e=>by have:=hlt _ e; omega),he',fun b hbb=>?_,?_⟩
  .have:=hb' b hbb; have:=AB hb; omega
  .rw[vK m c.pts k hk']; exact ho'
 .rw[jJ U] at ho
  refine Z ?_;exact⟨he,ho⟩
def GN (l:List Nat):Nat:=l.foldl (· * ·) 1
theorem RZ (l:List Nat)(k:Nat)(hk:k<l.length):GN (l.take (k+1))=GN (l.take k)*l[k]:=by
 unfold GN; rw[jW hk,List.foldl_append]; rfl
theorem xW (l:List Nat)(k:Nat)(h:∀n∈l,n<=64)(hk:l.length<=k):GN l<=64^k:=by
 have gen:∀(l:List Nat) (a:Nat) (j:Nat),(∀n∈l,n<=64)->a<=64^j->l.foldl (· * ·) a<=64^(j+l.length):=by
  intro l
  induction l with
  | nil=>intro a j _ ha; exact ha
  | cons x l ih =>
    intro a j hl ha;rw[qO,zH,show j+(l.length+1)=(j+1)+l.length by omega];refine ih _ _ (fun n hn=>hl n (by simp [hn])) ?_;rw[Nat.pow_succ];exact Nat.mul_le_mul ha (hl x A8)
 have:=gen l 1 0 h A8;rw[jG] at this;exact wE this (Nat.pow_le_pow_right U hk)
theorem ADA (l:List Nat)(k:Nat)(h:∀n∈l,1<=n):GN (l.take k)<=GN l:=by
 have gen:∀(l:List Nat) (a:Nat),(∀n∈l,1<=n)->a<=l.foldl (· * ·) a:=by
  intro l
  induction l with
  | nil=>intro a _; exact jF _
  | cons x l ih =>
    intro a hl;rw[qO];refine wE ?_ (ih _ (fun n hn=>hl n (by simp [hn])));exact Nat.le_mul_of_pos_right a (hl x A8)
 have h2:GN l=(l.drop k).foldl (· * ·) (GN (l.take k)):=by
  unfold GN
  conv=>lhs; rw[<-wC k l,List.foldl_append]
 rw[h2];exact gen _ _ (fun n hn=>h n (List.mem_of_mem_drop hn))
theorem U9 (l:List Nat)(s:SM)(h:Hp)(hl:∀n∈l,n<=64)(hk:l.length<=4):PCall (En G) 147 [.sl s 1 (l.map J5)] h (.n (GN l)):=by
 refine acT Tryz.func147 2 ?_;refine Z ?_
 have hp:∀k,GN (l.take k)<=16777216:=fun k=>by
  have:=xW (l.take k) 4 (fun n hn=>hl n (List.mem_of_mem_take hn)) (by rw[jU]; omega);simpa using this
 refine BB (fun n F H=>∃k,n+k=l.length∧F 3=.n (GN (l.take k))∧F 6=.sl s 1 (l.map J5)∧F 7=.n l.length∧F 8=.n (k:Nat)∧H=h) l.length ⟨0,A8,AC,AC,AC,AC,rfl⟩ ?_;rintro n F H ⟨k,hk,f3,f6,f7,f8,rfl⟩;refine AQ f7 f8 ?_;refine DU ?_ ?_<;>intro hk'
 .have h1:=hp (k+1)
  rw[RZ l k hk'] at h1
  have hw:IntKind.i64.wrap ((GN (l.take k):Int)*(l[k]:Int))=((GN (l.take (k+1)):Nat):Int):=by
   rw[RZ l k hk',<-Int.natCast_mul,OC U]
  refine NZ f3 f6 f8 hk' @lI hw (CW k) ?_;exact⟨n-1,U,k+1,U,rfl,trivial,f7,rfl,trivial⟩
 .rw[jJ U] at f3
  refine AO f3 ?_;exact G8
def JP:List Nat->List Int->Bool
 | [],[]=>true
 | n::ns,x::xs=>decide (0<=x)&&decide (x<(n:Int))&&JP ns xs
 | _,_=>false
theorem AN0 (ns:List Nat):JP ns []=(ns.length==0):=by cases ns<;>rfl
theorem QN:∀ {ns:List Nat} {xs:List Int},JP ns xs=true->ns.length=xs.length
 | [],[],_=>rfl
 | n::ns,x::xs,h=>by
   simp only[JP,jT] at h;simp [QN h.2]
 | [],_::_,h=>by cases h
 | _::_,[],h=>by cases h
theorem inside_prog (ns:List Nat)(xs:List Int)(s t:SM)(h:Hp)(hn:ns.length<=1048576):PCall (En G) 167 [.sl s 1 (ns.map J5),.sl t 1 (xs.map qencI)] h (.bool (JP ns xs)):=by
 refine acT Tryz.func167 4 ?_;refine Z ?_;refine BB (fun n F H=>∃k,n+k=xs.length∧k<=ns.length∧F 0=.sl s 1 (ns.map J5)∧F 1=.sl t 1 (xs.map qencI)∧F 7=.sl t 1 (xs.map qencI)∧F 8=.n xs.length∧F 9=.n (k:Nat)∧H=h∧JP ns xs=JP (ns.drop k) (xs.drop k)) xs.length ⟨0,A8,A8,AC,AC,AC,AC,AC,rfl,rfl⟩ ?_;rintro n F H ⟨k,hk,hkn,f0,f1,f7,f8,f9,rfl,hi⟩;refine AQ f8 f9 ?_;refine DU ?_ ?_<;>intro hk'
 .rw[zS hk'] at hi
  simp -implicitDefEqProofs only[vQ,ED,CJ,LM,↓reduceIte,jC,enP,KJ,VY,f0,f7,f9,CG hk',BP ag3 hk',encI0,jL];refine GV ?_ ?_<;>intro ha
  .refine AO ha ?_
   have:ns.length<=k:=by simp at ha; omega
   rw[jR this] at hi;exact⟨by rw[hi]; rfl,trivial⟩
  have hkn':k<ns.length:=by simp at ha; omega
  rw[zS hkn'] at hi;refine AO ha ?_;refine GV ?_ ?_<;>intro hb
  .refine AO hb ?_
   have:decide (0<=xs[k])=false:=by simp at hb|-; omega
   exact⟨by rw[hi]; unfold JP; rw[this]; rfl,trivial⟩
  have h0:decide (0<=xs[k])=true:=by simp at hb|-; omega
  simp -implicitDefEqProofs only[vQ,ED,CJ,LM,↓reduceIte,jC,enP,KJ,hb,f0,CG hkn',BP ag3 hkn',lI];refine BG ?_ ?_<;>intro hd
  .refine Z ?_
   have:decide (xs[k]<(ns[k]:Int))=false:=by simp at hd|-; omega
   exact⟨by rw[hi]; unfold JP; rw[this,h0]; rfl,trivial⟩
  have h1:decide (xs[k]<(ns[k]:Int))=true:=by simp at hd|-; omega
  refine AQ f9 (CW k) ?_;refine⟨n-1,U,k+1,U,U,f0,f1,f7,f8,rfl,trivial,?_⟩;rw[hi]
  conv=>lhs; unfold JP
  rw[h0,h1]; rfl
 .refine AQ f0 f1 ?_
  refine⟨?_,trivial⟩;rw[hi,jR (U:xs.length<=k),AN0,List.length_drop];congr 1;rw[wI]; simp; omega
theorem AAD (G:Nat->AV)(xs:List Is)(m:SM)(fid:FuncId)(caps:List AV)(p:Is->Bool)(h:Hp)(hl:xs.length<=1099511627776)
  (hf:∀r,PCall (En G) fid (.sl r.m 1 (r.l.map qencI)::caps) h (.bool (p r))) :
  PCall (En G) 243 [.sl m 1 (xs.map KL),.fn (.func fid) [] caps] h (.n (match xs.findIdx? p with|some i=>(i:Int)|none => -1)):=by
 refine acT Tryz.func243 4 ?_;refine Z ?_;refine BB (fun n F H=>∃k,n+k=xs.length∧F 0=.sl m 1 (xs.map KL)∧F 1=.fn (.func fid) [] caps∧F 7=.n xs.length∧F 8=.n (k:Nat)∧H=h∧(xs.take k).all (fun r => !p r)=true) xs.length ⟨0,A8,rfl,rfl,rfl,rfl,rfl,rfl⟩ ?_;rintro n F H ⟨k,hk,f0,f1,f7,f8,rfl,hin⟩;refine EO f0 f1 f7 f8 ?_;refine DU ?_ ?_<;>intro hc'
 .simp -implicitDefEqProofs only[vQ,CJ,qA,zF,↓reduceIte,jC,enP,VZ,f0,f1,f7,f8,CG hc',BP MO hc',SK]
  refine(hf _).uu ?_;refine BG ?_ ?_<;>intro hb
  .refine Z ?_
   refine⟨?_,trivial⟩
   rw[wS.2 ⟨hc',hb,fun j hj=>by
    rw[zJ] at hin;have:=hin xs[j] (by rw[List.mem_take_iff_getElem]; exact⟨j,U,rfl⟩)
    simpa using this⟩]
  .refine AQ f8 (CW k) ?_
   refine⟨n-1,U,k+1,U,f0,f1,f7,rfl,trivial,?_⟩;rw[jW hc',List.all_append,hin];simp only[List.all_cons,List.all_nil,hb]; rfl
 .refine Z ?_
  refine⟨?_,trivial⟩;rw[jJ U] at hin;rw[wU.2 (BL hin)]
theorem SQ (G:Nat->AV)(xs:List Is)(m:SM)(fid:FuncId)(caps:List AV)(p:Is->Bool)(h:Hp)(hl:xs.length<=1099511627776)
  (hf:∀r,PCall (En G) fid (.sl r.m 1 (r.l.map qencI)::caps) h (.bool (p r))) :
  PCall (En G) 165 [.sl m 1 (xs.map KL),.fn (.func fid) [] caps] h (.bool (xs.any p)):=by
 refine acT Tryz.func165 4 ?_;refine Z ?_;refine(AAD G xs m fid caps p h hl hf).uu ?_;refine⟨?_,trivial⟩
 cases hx:xs.findIdx? p with
 | some i =>
   obtain⟨h1,h2,_⟩:=wS.1 hx;have:xs.any p=true:=qK.2 ⟨xs[i],A8,h2⟩;simp [this]
 | none =>
   have:xs.any p=false:=by
    rw[wU] at hx;rw[qM]; intro x hx2; simp [hx x hx2]
   simp [this]
theorem sO (ns:List Nat)(s:SM)(b:Nat)(r:Is)(h:Hp)(hb:h[b]?=some (qF 1 [[.sl s 1 (ns.map J5)]]))(hn:ns.length<=1048576):
  PCall (En G) 166 [.sl r.m 1 (r.l.map qencI),.ptr b 0 0] h (.bool (!JP ns r.l)):=by
 refine acT Tryz.func166 3 ?_;refine AO (FZ MO hb) ?_;refine(inside_prog G ns r.l s r.m h hn).uu ?_;exact G8
def WX (n:Nat):Option Int->List Int->Bool
 | _,[]=>true
 | o,p::ps=>(decide (0<=p)&&decide (p<(n:Int))&&(match o with|some q=>decide (q<p)|none=>true))&&WX n (some p) ps
def prev (l:List Int)(k:Nat):Option Int:=match k with
 | 0=>none
 | k+1=>l[k]?
theorem pK (n:Nat)(l:List Int)(k:Nat)(hk:k<l.length):WX n (prev l k) (l.drop k)=((decide (0<=l[k])&&decide (l[k]<(n:Int))&&(match prev l k with|some q=>decide (q<l[k])|none=>true))&&WX n (prev l (k+1)) (l.drop (k+1))):=by
 rw[zS hk];have:prev l (k+1)=some l[k]:=by unfold prev; exact jI hk
 rw[this]; rfl
theorem YB {m:Mo}:∀ {l:List Int} {o:Option Int},WX m.pts.length o l=true->Here m l
 | [],_,_=>fun p hp=>by cases hp
 | x::l,o,h=>by
   simp only[WX,jT,decide_eq_true_eq] at h;intro p hp
   cases zK.1 hp with
   | inl e=>subst e; exact⟨h.1.1.1,h.1.1.2⟩
   | inr e=>exact YB h.2 p e
def F8 (m:Mo)(c:Cr):Int :=
 if ER c.name=false then 7 else if c.pts.length<2∨4<c.pts.length then 1 else if WX m.pts.length none c.pts=false then 1 else
  if 256<GN (szs m c.pts)∨256<c.excl.length then 2 else if(c.excl.any fun x => !JP (szs m c.pts) x.l) then 1 else 0
structure CrOk (c:Cr):Prop where
 name:c.name.size<=1048576
 pts:c.pts.length<=1048576
 excl:c.excl.length<=1048576
 each:∀x∈c.excl,x.l.length<=1048576
def Full (m:Mo):Prop:=∀p∈m.pts,1<=p.bins.length∧p.bins.length<=64
theorem Full.szs {m:Mo}{l:List Int}(hf:Full m)(hh:Here m l):∀n∈szs m l,1<=n∧n<=64:=by
 intro n hn;obtain⟨p,hp,rfl⟩:=qE.1 hn;obtain⟨h0,h1⟩:=hh p hp;have hlt:p.toNat<m.pts.length:=U;have:IP m p=(m.pts[p.toNat]).bins:=by unfold IP; rw[jI hlt]
 rw[this];exact hf _ (jH hlt)
theorem A3T (h:Hp):F9 jA h 32=some (.ptr h.length 0 0,h++[qF 1 [[.sl .nil 0 []]]]):=FC (row:=[.sl .nil 0 []]) AZ
theorem ldM {b:Nat}{m:Mo}(hb:h[b]?=some (qF 2 [CZ m])):BO jA h 31 (.ptr b 0 0)=some (.agg (CZ m)):=by
 rw[EH A1R AVX hb rfl (by rw[AOZ]; exact jF 2)]; rfl
theorem ldC {b:Nat}{c:Cr}(hb:h[b]?=some (qF 3 [GG c])):BO jA h 90 (.ptr b 0 0)=some (.agg (GG c)):=by
 rw[EH uT iL hb rfl (by rw[LY]; exact jF 3)]; rfl
theorem AEG (hG:GOk G)(m:Mo)(c:Cr)(hc:CrOk c)(hf:Full m)(h:Hp):PCall (En G) 88 [.agg (CZ m),.agg (GG c)] h (.n (F8 m c)):=by
 refine ACalls.pure0 rfl ?_;have hc1:=hc.name;have hc2:=hc.pts;have hc3:=hc.excl;refine acT Tryz.func88 4 ?_;have gm:(h++[qF 2 [CZ m]]++[qF 3 [GG c]])[h.length]?=some (qF 2 [CZ m]):=AL (AX _ _);have gc:(h++[qF 2 [CZ m]]++[qF 3 [GG c]])[(h++[qF 2 [CZ m]]).length]?=some (qF 3 [GG c]):=AX _ _;have hx:∃x,h++[qF 2 [CZ m]]++[qF 3 [GG c]]=h++x:=⟨_,zC _ _ _⟩;have hlt:h.length<(h++[qF 2 [CZ m]]).length:=A8;refine DI @tO @bxM @bxC ?_
 generalize h++[qF 2 [CZ m]]++[qF 3 [GG c]]=H at gm gc hx|-
 generalize (h++[qF 2 [CZ m]]).length=cb at gc hlt|-
 have lm:BO jA H 28 (.ptr h.length 0 0)=some (.sl m.pm 6 (m.pts.map FP)):=by rw[BH eI gm (row:=CZ m) rfl,UD]
 have lc0:BO jA H 9 (.ptr cb 0 0)=some (.str c.name):=by rw[BH ag9 gc (row:=GG c) rfl,AHI]
 have lc1:BO jA H 32 (.ptr cb 0 1)=some (.sl c.pm 1 (c.pts.map qencI)):=by rw[BH MO gc (row:=GG c) rfl,fB]
 have lc2:BO jA H 25 (.ptr cb 0 2)=some (.sl c.xm 1 (c.excl.map KL)):=by rw[BH XN gc (row:=GG c) rfl,AA7]
 refine AO lc0 ?_;refine(L9 G hG.kw c.name _ U).uu ?_;cases h1:ER c.name
 .refine Z ?_
  exact⟨by unfold F8; rw[if_pos h1],hx⟩
 have h1':¬ER c.name=false:=by rw[h1]; decide
 refine AO lc1 ?_;refine GV ?_ ?_<;>intro h2
 .refine AO h2 ?_
  exact⟨by unfold F8; rw[if_neg h1',if_pos (.inl (by simp at h2; omega))],hx⟩
 refine AQ h2 lc1 ?_;refine BG ?_ ?_<;>intro h3
 .refine Z ?_
  exact⟨by unfold F8; rw[if_neg h1',if_pos (.inr (by simp at h3; omega))],hx⟩
 have h23:¬(c.pts.length<2∨4<c.pts.length):=by simp at h2 h3; omega
 refine AO lc1 ?_;refine D9 0 (fun F H'=>F 2=.ptr h.length 0 0∧F 3=.ptr cb 0 0∧H'=H∧WX m.pts.length none c.pts=true) (fun F H'=>F 4=.n 1∧H'=H∧WX m.pts.length none c.pts=false) ?_ ?_ ?_
 .refine BB (fun n F H'=>∃k,n+k=c.pts.length∧F 2=.ptr h.length 0 0∧F 3=.ptr cb 0 0∧F 23=.sl c.pm 1 (c.pts.map qencI)∧F 24=.n c.pts.length∧F 25=.n (k:Nat)∧H'=H∧WX m.pts.length none c.pts=WX m.pts.length (prev c.pts k) (c.pts.drop k)) c.pts.length ⟨0,A8,AC,AC,AC,AC,AC,rfl,rfl⟩ ?_
  rintro n F H' ⟨k,hk,f2,f3,f23,f24,f25,rfl,hi⟩;refine AQ f24 f25 ?_;refine DU ?_ ?_<;>intro hk'
  .rw[pK _ _ _ hk'] at hi
   simp -implicitDefEqProofs only[vQ,ED,CJ,↓reduceIte,jC,enP,KJ,f2,f3,f23,f25,CG hk',BP ag3 hk',encI0];refine GV ?_ ?_<;>intro ha
   .refine AO ha ?_
    have:decide (0<=c.pts[k])=false:=by simp at ha|-; omega
    exact⟨trivial,trivial,by rw[hi,this]; rfl⟩
   have ha':decide (0<=c.pts[k])=true:=by simp at ha|-; omega
   refine DI ha f2 lm ?_;refine GV ?_ ?_<;>intro hb
   .refine AO hb ?_
    have:decide (c.pts[k]<(m.pts.length:Int))=false:=by simp at hb|-; omega
    exact⟨trivial,trivial,by rw[hi,this,ha']; rfl⟩
   have hb':decide (c.pts[k]<(m.pts.length:Int))=true:=by simp at hb|-; omega
   rw[ha',hb'] at hi;simp only[wM] at hi
   cases k with
   | zero =>
     have hz:decide ((((0:Nat):Int))>0)=false:=by decide
     refine EO hb hz f25 (CW 0) ?_;exact⟨n-1,U,1,U,f2,f3,f23,f24,rfl,trivial,by rw[hi]; rfl⟩
   | succ k =>
     have hz:decide ((((k+1:Nat):Int))>0)=true:=A8;have hw:IntKind.i64.wrap (((k+1:Nat):Int)-1)=(k:Int):=by rw[wrap_i64 U U]; omega
     have hk2:k<c.pts.length:=U;have hpv:prev c.pts (k+1)=some c.pts[k]:=by unfold prev; exact jI hk2
     rw[hpv] at hi;simp -implicitDefEqProofs only[vQ,ED,RD,CJ,NW,cB,↓reduceIte,jC,enP,KJ,OA,hb,hz,f3,lc1,hw,CG hk2,BP ag3 hk2,encI0];refine BG ?_ ?_<;>intro hd
     .refine Z ?_
      have:decide (c.pts[k]<c.pts[k+1])=false:=by simp at hd|-; omega
      exact⟨trivial,trivial,by rw[hi]; simp only[this]; rfl⟩
     .refine AQ f25 (CW (k+1)) ?_
      have:decide (c.pts[k]<c.pts[k+1])=true:=by simp at hd|-; omega
      exact⟨n-1,U,k+1+1,U,f2,f3,f23,f24,rfl,trivial,by rw[hi]; simp only[this]; rfl⟩
  .refine Z ?_
   exact⟨f2,f3,trivial,by rw[hi,jR U]; rfl⟩
 .rintro F H' ⟨f2,f3,rfl,hi⟩
  have hh:=YB hi;have hi':¬WX m.pts.length none c.pts=false:=by rw[hi]; decide
  refine EO f2 f3 (ldM gm) (ldC gc) ?_;refine(ZG G m c _ hh U).use ?_;have hsz:(szs m c.pts).length<=4:=by unfold szs; simp; omega
  have hst:=TE (t:=32) (v:=.sl .nil 0 []) (u:=.sl (nm (szs m c.pts)) 1 ((szs m c.pts).map J5)) AII (A1Y _ _ _) (AX H' (qF 1 [[.sl .nil 0 []]]));rw[gM] at hst;refine Y6 A3T hst @FZ MO @AX ?_;refine(U9 G _ _ _ (fun n hn=>(hf.szs hh n hn).2) hsz).use ?_
  have hx2:∃x,H'++[qF 1 [[AV.sl (nm (szs m c.pts)) 1 ((szs m c.pts).map J5)]]]=h++x:=by
   obtain⟨x,hx⟩:=hx;exact⟨x++_,by rw[hx,zC]⟩
  have lc2':∀x,BO jA (H'++[x]) 25 (.ptr cb 0 2)=some (.sl c.xm 1 (c.excl.map KL)):=fun x=>by rw[BH XN (AL gc) (row:=GG c) rfl,AA7]
  refine Z ?_;refine GV ?_ ?_<;>intro ha
  .refine AO ha ?_
   exact⟨by unfold F8; rw[if_neg h1',if_neg h23,if_neg hi',if_pos (.inl (by simp at ha; omega))],hx2⟩
  refine DI ha f3 lc2' ?_;refine BG ?_ ?_<;>intro hb
  .refine Z ?_
   exact⟨by unfold F8; rw[if_neg h1',if_neg h23,if_neg hi',if_pos (.inr (by simp at hb; omega))],hx2⟩
  have hab:¬(256<GN (szs m c.pts)∨256<c.excl.length):=by simp at ha hb; omega
  refine AQ f3 lc2' ?_;refine(SQ G c.excl c.xm 166 _ (fun x => !JP (szs m c.pts) x.l) _ U fun r=>sO G _ _ _ r _ (AX H' _) U).uu ?_;cases he:c.excl.any fun x => !JP (szs m c.pts) x.l
  .refine Z ?_
   exact⟨by unfold F8; rw[if_neg h1',if_neg h23,if_neg hi',if_neg hab,he]; rfl,hx2⟩
  .refine Z ?_
   exact⟨by unfold F8; rw[if_neg h1',if_neg h23,if_neg hi',if_neg hab,he]; rfl,hx2⟩
 .rintro F H' ⟨f4,rfl,hi⟩
  refine AO f4 ?_;exact⟨by unfold F8; rw[if_neg h1',if_neg h23,if_pos hi],hx⟩
theorem sC (m:Mo)(l:List Int)(k:Nat)(hk:k<l.length):(szs m l)[k]?=some (IP m l[k]).length:=by
 unfold szs; rw[jX,jI hk]; rfl
theorem LJ (m:Mo)(l:List Int):(szs m l).length=l.length:=by unfold szs; simp
structure Two (h H:Hp) (m:Mo) (c:Cr) (cb:Nat):Prop where
 gm:H[h.length]?=some (qF 2 [CZ m])
 gc:H[cb]?=some (qF 3 [GG c])
 hx:∃x,H=h++x
theorem Two.lm {m:Mo}{c:Cr}(t:Two h H m c cb):BO jA H 28 (.ptr h.length 0 0)=some (.sl m.pm 6 (m.pts.map FP)):=by rw[BH eI t.gm (row:=CZ m) rfl,UD]
theorem Two.l0 {m:Mo}{c:Cr}(t:Two h H m c cb):BO jA H 9 (.ptr cb 0 0)=some (.str c.name):=by rw[BH ag9 t.gc (row:=GG c) rfl,AHI]
theorem Two.l1 {m:Mo}{c:Cr}(t:Two h H m c cb):BO jA H 32 (.ptr cb 0 1)=some (.sl c.pm 1 (c.pts.map qencI)):=by rw[BH MO t.gc (row:=GG c) rfl,fB]
theorem Two.l2 {m:Mo}{c:Cr}(t:Two h H m c cb):BO jA H 25 (.ptr cb 0 2)=some (.sl c.xm 1 (c.excl.map KL)):=by rw[BH XN t.gc (row:=GG c) rfl,AA7]
theorem Two.mk' (h:Hp)(m:Mo)(c:Cr):Two h (h++[qF 2 [CZ m]]++[qF 3 [GG c]]) m c (h++[qF 2 [CZ m]]).length:=⟨AL (AX _ _),AX _ _,⟨_,zC _ _ _⟩⟩
theorem qT (m:Mo)(c:Cr)(h:Hp)(hh:Here m c.pts)(hf:Full m)(hl:c.pts.length<=1048576):PCall (En G) 58 [.agg (CZ m),.agg (GG c)] h (.n (min (GN (szs m c.pts)) 1000)):=by
 refine ACalls.pure0 rfl ?_;refine acT Tryz.func58 4 ?_;have t:=Two.mk' h m c;refine AQ @bxM @bxC ?_
 generalize h++[qF 2 [CZ m]]++[qF 3 [GG c]]=H at t|-
 generalize (h++[qF 2 [CZ m]]).length=cb at t|-
 have hs:=hf.szs hh;refine D9 0 (fun F H'=>(F 5=.n (GN (szs m c.pts):Nat)∨∃n:Nat,1000<=n∧n<=GN (szs m c.pts)∧F 5=.n n)∧H'=H) (fun _ _=>False) ?_ ?_ (fun _ _ hh=>hh.elim)
 .refine BB (fun n F H'=>∃k,n+k=c.pts.length∧F 2=.ptr h.length 0 0∧F 3=.ptr cb 0 0∧F 5=.n (GN ((szs m c.pts).take k):Nat)∧F 6=.n (k:Nat)∧H'=H) c.pts.length ⟨0,A8,AC,AC,AC,AC,rfl⟩ ?_
  rintro n F H' ⟨k,hk,f2,f3,f5,f6,rfl⟩;refine DI f3 f6 @t.l1 ?_;refine GV ?_ ?_<;>intro ha
  .have hk':k<c.pts.length:=BL ha
   refine AQ ha f5 ?_;refine BG ?_ ?_<;>intro hb
   .have hb':GN ((szs m c.pts).take k)<1000:=by simp at hb; omega
    obtain⟨s,ls⟩:=hh.ld hk' H';have hks:k<(szs m c.pts).length:=by rw[LJ]; exact hk'
    have hgt:(szs m c.pts)[k]=(IP m c.pts[k]).length:=GI (sC m c.pts k hk');have h64:=(hs _ (jH hks)).2;rw[hgt] at h64;have hpt:=RZ (szs m c.pts) k hks;rw[hgt] at hpt;have hmul:GN ((szs m c.pts).take k)*(IP m c.pts[k]).length<=1000*64:=Nat.mul_le_mul U h64
    have hw:IntKind.i64.wrap ((GN ((szs m c.pts).take k):Int)*((IP m c.pts[k]).length:Int))=((GN ((szs m c.pts).take (k+1)):Nat):Int):=by
     rw[hpt,<-Int.natCast_mul,OC U]
    refine Z ?_;refine DJ AZ ?_;simp -implicitDefEqProofs only[vQ,LQ,IL,CJ,cA,↓reduceIte,jC,jP,enP,QM,KQ,KJ,ZN,JV,OA,f2,f3,f5,f6,t.lm,t.l1,CG hk',BP ag3 hk',encI0,hh.ix hk',ls,jL,hw,CW k];exact⟨n-1,U,k+1,U,trivial,trivial,rfl,rfl,trivial⟩
   .refine Z ?_
    exact⟨.inr ⟨_,by simp at hb; omega,ADA _ _ (fun n hn=>(hs n hn).1),f5⟩,trivial⟩
  .have hk':¬k<c.pts.length:=BL ha
   refine AO ha ?_;refine⟨.inl ?_,trivial⟩;rw[jJ (by rw[LJ]; omega)] at f5;exact f5
 .rintro F H' ⟨f5,rfl⟩
  rcases f5 with f5|⟨n,h1,h2,f5⟩
  .refine AO f5 ?_
   exact⟨trivial,t.hx⟩
  .refine AO f5 ?_
   exact⟨by congr 1; omega,t.hx⟩
def placed (m:Mo)(c:Cr):Bool:=decide (2<=c.pts.length)&&decide (c.pts.length<=4)&&WX m.pts.length none c.pts
theorem ADG (m:Mo)(c:Cr)(h:Hp)(hl:c.pts.length<=1048576):PCall (En G) 196 [.agg (CZ m),.agg (GG c)] h (.bool (placed m c)):=by
 refine ACalls.pure0 rfl ?_;refine acT Tryz.func196 4 ?_;have t:=Two.mk' h m c;refine AQ @bxM @bxC ?_
 generalize h++[qF 2 [CZ m]]++[qF 3 [GG c]]=H at t|-
 generalize (h++[qF 2 [CZ m]]).length=cb at t|-
 refine AO @t.l1 ?_;refine GV ?_ ?_<;>intro h2
 .refine AO h2 ?_
  have:decide (2<=c.pts.length)=false:=by simp at h2|-; omega
  exact⟨by unfold placed; rw[this]; rfl,t.hx⟩
 have d2:decide (2<=c.pts.length)=true:=by simp at h2|-; omega
 refine AQ h2 @t.l1 ?_;refine BG ?_ ?_<;>intro h3
 .refine Z ?_
  have:decide (c.pts.length<=4)=false:=by simp at h3|-; omega
  exact⟨by unfold placed; rw[this]; simp,t.hx⟩
 have d3:decide (c.pts.length<=4)=true:=by simp at h3|-; omega
 have hpl:placed m c=WX m.pts.length none c.pts:=by unfold placed; rw[d2,d3]; rfl
 rw[hpl];refine Z ?_;refine BB (fun n F H'=>∃k,n+k=c.pts.length∧F 2=.ptr h.length 0 0∧F 3=.ptr cb 0 0∧F 5=.n (k:Nat)∧H'=H∧WX m.pts.length none c.pts=WX m.pts.length (prev c.pts k) (c.pts.drop k)) c.pts.length ⟨0,A8,AC,AC,AC,rfl,rfl⟩ ?_;rintro n F H' ⟨k,hk,f2,f3,f5,rfl,hi⟩;refine DI f3 f5 @t.l1 ?_;refine DU ?_ ?_<;>intro hk'
 .rw[pK _ _ _ hk'] at hi
  refine Z ?_;refine DJ AZ ?_;simp -implicitDefEqProofs only[vQ,IM,KI,ED,↓reduceIte,jC,jP,enP,KJ,OA,f2,f3,f5,t.l1,CG hk',BP ag3 hk',encI0];refine mU ?_ ?_<;>intro ha
  .refine AO ha ?_
   have:decide (0<=c.pts[k])=false:=by simp at ha|-; omega
   exact⟨by rw[hi,this]; rfl,t.hx⟩
  have ha':decide (0<=c.pts[k])=true:=by simp at ha|-; omega
  simp -implicitDefEqProofs only[vQ,IM,KI,XR,Q3,IL,ED,LM,↓reduceIte,jC,jP,enP,ANE,KQ,KJ,OA,ha,f2,f3,f5,t.lm,t.l1,CG hk',BP ag3 hk',encI0,jL];refine mU ?_ ?_<;>intro hb
  .refine AO hb ?_
   have:decide (c.pts[k]<(m.pts.length:Int))=false:=by simp at hb|-; omega
   exact⟨by rw[hi,this,ha']; rfl,t.hx⟩
  have hb':decide (c.pts[k]<(m.pts.length:Int))=true:=by simp at hb|-; omega
  rw[ha',hb'] at hi;simp only[wM] at hi
  cases k with
  | zero =>
    have hz:decide ((((0:Nat):Int))>0)=false:=by decide
    refine EO hb hz f5 (CW 0) ?_;exact⟨n-1,U,1,U,f2,f3,rfl,trivial,by rw[hi]; rfl⟩
  | succ k =>
    have hz:decide ((((k+1:Nat):Int))>0)=true:=A8;have hw:IntKind.i64.wrap (((k+1:Nat):Int)-1)=(k:Int):=by rw[wrap_i64 U U]; omega
    have hk2:k<c.pts.length:=U;have hpv:prev c.pts (k+1)=some c.pts[k]:=by unfold prev; exact jI hk2
    rw[hpv] at hi;simp -implicitDefEqProofs only[vQ,IM,KI,Y7,XR,Q3,ED,NW,cB,↓reduceIte,jC,jP,enP,KJ,OA,hb,hz,f3,f5,t.l1,hw,CG hk',CG hk2,BP ag3 hk',BP ag3 hk2,encI0];refine BG ?_ ?_<;>intro hd
    .refine Z ?_
     have:decide (c.pts[k]<c.pts[k+1])=false:=by simp at hd|-; omega
     exact⟨by rw[hi]; simp only[this]; rfl,t.hx⟩
    .refine AQ f5 (CW (k+1)) ?_
     have:decide (c.pts[k]<c.pts[k+1])=true:=by simp at hd|-; omega
     exact⟨n-1,U,k+1+1,U,f2,f3,rfl,trivial,by rw[hi]; simp only[this]; rfl⟩
 .refine Z ?_
  exact⟨by rw[hi,jR U]; rfl,t.hx⟩
theorem gH (m:Mo)(c:Cr)(x:Is)(h:Hp)(hh:Here m c.pts)(hl:c.pts.length<=1048576):PCall (En G) 197 [.agg (CZ m),.agg (GG c),.sl x.m 1 (x.l.map qencI)] h (.bool (JP (szs m c.pts) x.l)):=by
 refine ACalls.pure0 rfl ?_;refine acT Tryz.func197 6 ?_;have t:=Two.mk' h m c;refine AQ @bxM @bxC ?_
 generalize h++[qF 2 [CZ m]]++[qF 3 [GG c]]=H at t|-
 generalize (h++[qF 2 [CZ m]]).length=cb at t|-
 refine AO @t.l1 ?_;refine BG ?_ ?_<;>intro h2
 .refine Z ?_
  have:JP (szs m c.pts) x.l=false:=by
   rw[<-wO]; intro e;have:=QN e;rw[LJ] at this;simp at h2; omega
  exact⟨by rw[this],t.hx⟩
 have hlen:x.l.length=c.pts.length:=by simp at h2; omega
 refine Z ?_;refine BB (fun n F H'=>∃k,n+k=x.l.length∧F 2=.sl x.m 1 (x.l.map qencI)∧F 3=.ptr h.length 0 0∧F 4=.ptr cb 0 0∧F 7=.n (k:Nat)∧H'=H∧JP (szs m c.pts) x.l=JP ((szs m c.pts).drop k) (x.l.drop k)) x.l.length ⟨0,A8,AC,AC,AC,AC,rfl,rfl⟩ ?_;rintro n F H' ⟨k,hk,f2,f3,f4,f7,rfl,hi⟩;refine AQ f2 f7 ?_;refine DU ?_ ?_<;>intro hk'
 .have hkc:k<c.pts.length:=U
  have hks:k<(szs m c.pts).length:=by rw[LJ]; exact hkc
  have hgt:(szs m c.pts)[k]=(IP m c.pts[k]).length:=GI (sC m c.pts k hkc);rw[zS hk',zS hks,hgt] at hi;obtain⟨s,ls⟩:=hh.ld hkc H';refine Z ?_;refine DJ AZ ?_;simp -implicitDefEqProofs only[vQ,IM,KI,ED,↓reduceIte,jC,jP,enP,KJ,f2,f3,f4,f7,CG hk',BP ag3 hk',encI0];refine mU ?_ ?_<;>intro ha
  .refine AO ha ?_
   have:decide (0<=x.l[k])=false:=by simp at ha|-; omega
   exact⟨by rw[hi]; unfold JP; rw[this]; rfl,t.hx⟩
  have h0:decide (0<=x.l[k])=true:=by simp at ha|-; omega
  simp -implicitDefEqProofs only[vQ,IM,KI,XR,Q3,IL,ED,LM,↓reduceIte,jC,jP,enP,QM,KQ,KJ,ZN,JV,OA,ha,f2,f3,f4,f7,t.lm,t.l1,CG hk',BP ag3 hk',CG hkc,BP ag3 hkc,encI0,hh.ix hkc,ls,jL];refine BG ?_ ?_<;>intro hd
  .refine Z ?_
   have:decide (x.l[k]<((IP m c.pts[k]).length:Int))=false:=by simp at hd|-; omega
   exact⟨by rw[hi]; unfold JP; rw[this,h0]; rfl,t.hx⟩
  .refine AQ f7 (CW k) ?_
   have h1:decide (x.l[k]<((IP m c.pts[k]).length:Int))=true:=by simp at hd|-; omega
   refine⟨n-1,U,k+1,U,f2,f3,f4,rfl,trivial,?_⟩;rw[hi]
   conv=>lhs; unfold JP
   rw[h0,h1]; rfl
 .refine Z ?_
  exact⟨by rw[hi,jR (U:x.l.length<=k),jR (by rw[LJ]; omega)]; rfl,t.hx⟩
theorem AKO (m:Mo)(c:Cr)(hc:CrOk c)(hf:Full m)(h:Hp):PCall (En G) 109 [.agg (CZ m),.agg (GG c)] h (.n (F8 m c)):=by
 refine ACalls.pure0 rfl ?_;have hc2:=hc.pts;have hc3:=hc.excl;refine acT Tryz.func109 4 ?_;have t:=Two.mk' h m c;refine DI @tO @bxM @bxC ?_
 generalize h++[qF 2 [CZ m]]++[qF 3 [GG c]]=H at t|-
 generalize (h++[qF 2 [CZ m]]).length=cb at t|-
 refine AO @t.l0 ?_;refine(NF G c.name _).uu ?_;cases h1:ER c.name
 .refine Z ?_
  exact⟨by unfold F8; rw[if_pos h1],t.hx⟩
 have h1':¬ER c.name=false:=by rw[h1]; decide
 refine AQ (ldM t.gm) (ldC t.gc) ?_;refine(ADG G m c _ U).uu ?_;cases h2:placed m c
 .refine Z ?_
  refine⟨?_,t.hx⟩;unfold F8; rw[if_neg h1'];unfold placed at h2;split
  .rfl
  .rename_i h3
   have d2:decide (2<=c.pts.length)=true:=by simp; omega
   have d3:decide (c.pts.length<=4)=true:=by simp; omega
   rw[d2,d3] at h2;rw[if_pos (BL h2)]
 unfold placed at h2;simp only[jT,decide_eq_true_eq] at h2;obtain⟨⟨h3,h4⟩,h5⟩:=h2;have h23:¬(c.pts.length<2∨4<c.pts.length):=U;have hi':¬WX m.pts.length none c.pts=false:=by rw[h5]; decide
 have hh:=YB h5;refine AQ (ldM t.gm) (ldC t.gc) ?_;refine(qT G m c _ hh hf U).uu ?_;refine GV ?_ ?_<;>intro ha
 .refine AO ha ?_
  exact⟨by unfold F8; rw[if_neg h1',if_neg h23,if_neg hi',if_pos (.inl (by simp at ha; omega))],t.hx⟩
 refine AQ ha @t.l2 ?_;refine BG ?_ ?_<;>intro hb
 .refine Z ?_
  exact⟨by unfold F8; rw[if_neg h1',if_neg h23,if_neg hi',if_pos (.inr (by simp at hb; omega))],t.hx⟩
 have hab:¬(256<GN (szs m c.pts)∨256<c.excl.length):=by simp at ha hb; omega
 have hce:F8 m c=if(c.excl.any fun x => !JP (szs m c.pts) x.l) then 1 else 0:=by
  unfold F8; rw[if_neg h1',if_neg h23,if_neg hi',if_neg hab]
 refine Z ?_;refine BB (fun n F H'=>∃k,n+k=c.excl.length∧F 2=.ptr h.length 0 0∧F 3=.ptr cb 0 0∧F 5=.n (k:Nat)∧H'=H∧(c.excl.any fun x => !JP (szs m c.pts) x.l)=((c.excl.drop k).any fun x => !JP (szs m c.pts) x.l)) c.excl.length ⟨0,A8,AC,AC,AC,rfl,rfl⟩ ?_;rintro n F H' ⟨k,hk,f2,f3,f5,rfl,hi⟩;refine DI f3 f5 @t.l2 ?_;refine DU ?_ ?_<;>intro hk'
 .have hs:=LZ (fun x:Is => !JP (szs m c.pts) x.l) c.excl k hk'
  refine Z ?_;refine DJ AZ ?_;simp -implicitDefEqProofs only[vQ,ALH,LP,KF,rU,↓reduceIte,jC,jP,enP,VZ,dJ,f2,f3,f5,ldM t.gm,ldC t.gc,t.l2,CG hk',BP MO hk',SK];refine⟨_,gH G m c c.excl[k] _ hh U,?_⟩
  try refine Z ?_
  cases hx:JP (szs m c.pts) c.excl[k].l
  .refine Z ?_
   exact⟨by rw[hce,hi,hs,hx]; rfl,t.hx⟩
  .refine AQ f5 (CW k) ?_
   refine⟨n-1,U,k+1,U,f2,f3,rfl,trivial,?_⟩;rw[hi,hs,hx]; rfl
 .refine Z ?_
  exact⟨by rw[hce,hi,jR U]; rfl,t.hx⟩
structure MoOk (m:Mo):Prop where
 np:m.pts.length<=1048576
 nc:m.crs.length<=1048576
 pts:∀p∈m.pts,PtOk p
 crs:∀c∈m.crs,CrOk c
def FT (m:Mo):Int :=
 if 16<m.pts.length+m.crs.length then 2 else if fstE FV m.pts≠0 then fstE FV m.pts else if PM (m.pts.map (·.name)) then 8 else
  if fstE (F8 m) m.crs≠0 then fstE (F8 m) m.crs else if PM (m.crs.map (·.name)) then 8 else 0
theorem W9 {α:Type}(f:α->Int):∀ {xs:List α},fstE f xs=0->∀x∈xs,f x=0
 | [],_,_,hx=>by cases hx
 | y::ys,h,x,hx=>by
   simp only[fstE] at h;split at h
   .rename_i h0
    cases zK.1 hx with
    | inl e=>subst e; exact h0
    | inr e=>exact W9 f h x e
   .rename_i h0; exact absurd h h0
theorem eU {p:Pt}(h:FV p=0):1<=p.bins.length∧p.bins.length<=64:=by
 unfold FV at h;split at h
 .cases h
 .split at h
  .rename_i h2; exact absurd h h2
  .split at h
   .cases h
   .split at h
    .cases h
    .omega
theorem full_of {m:Mo}(h:fstE FV m.pts=0):Full m:=fun p hp=>eU (W9 _ h p hp)
theorem AP3 (h:Hp):F9 jA h 82=some (.ptr h.length 0 0,h++[qF 6 [[.str ⟨#[]⟩,.n 0,.n 0,.str ⟨#[]⟩,.sl .nil 0 [],.sl .nil 0 []]]]):=FC (row:=[.str ⟨#[]⟩,.n 0,.n 0,.str ⟨#[]⟩,.sl .nil 0 [],.sl .nil 0 []]) AZ
theorem AL7 (h:Hp)(p:Pt)(row:List AV)(hr:row.length=6):DX jA (h++[qF 6 [row]]) 82 (.ptr h.length 0 0) (.agg (FP p))=some (h++[qF 6 [FP p]]):=by
 rw[RP (PI (dS p)) (by rw[IC]; exact ZC) (by rw[IC,hr]; exact jF _)];have:splice row 0 (FP p)=FP p:=by unfold splice; simp [IC,hr]
 rw[this]
theorem ldP {b:Nat}{p:Pt}(hb:h[b]?=some (qF 6 [FP p])):BO jA h 82 (.ptr b 0 0)=some (.agg (FP p)):=by
 rw[EH gK ZC hb rfl (by rw[IC]; exact jF 6),zM,jJ (by rw[IC]; exact jF 6)]
theorem AXV (h:Hp):F9 jA h 90=some (.ptr h.length 0 0,h++[qF 3 [[.str ⟨#[]⟩,.sl .nil 0 [],.sl .nil 0 []]]]):=FC (row:=[.str ⟨#[]⟩,.sl .nil 0 [],.sl .nil 0 []]) AZ
theorem AV0 (h:Hp)(c:Cr)(row:List AV)(hr:row.length=3):DX jA (h++[qF 3 [row]]) 90 (.ptr h.length 0 0) (.agg (GG c))=some (h++[qF 3 [GG c]]):=by
 rw[RP (PI rfl) (by rw[LY]; exact iL) (by rw[LY,hr]; exact jF _)];have:splice row 0 (GG c)=GG c:=by unfold splice; simp [LY,hr]
 rw[this]
theorem PS (hG:GOk G)(m:Mo)(hm:MoOk m)(h:Hp):PCall (En G) 41 [.agg (CZ m)] h (.n (FT m)):=by
 refine ACalls.pure0 rfl ?_;have hm1:=hm.np;have hm2:=hm.nc;refine acT Tryz.func41 2 ?_;have hw:IntKind.i64.wrap ((m.pts.length:Int)+(m.crs.length:Int))=(m.pts.length:Int)+(m.crs.length:Int):=wrap_i64 U U;refine cK @bxM eI gL @UD @VT hw ?_;refine BG ?_ ?_<;>intro h1
 .refine Z ?_
  exact⟨by unfold FT; rw[if_pos (by simp at h1; omega)],_,rfl⟩
 have h1':¬16<m.pts.length+m.crs.length:=by simp at h1; omega
 have hme:FT m=if fstE FV m.pts≠0 then fstE FV m.pts else if PM (m.pts.map (·.name)) then 8 else if fstE (F8 m) m.crs≠0 then fstE (F8 m) m.crs else if PM (m.crs.map (·.name)) then 8 else 0:=by
  unfold FT; rw[if_neg h1']
 have lm0:∀H:Hp,H[h.length]?=some (qF 2 [CZ m])->BO jA H 28 (.ptr h.length 0 0)=some (.sl m.pm 6 (m.pts.map FP)):=fun H hH=>by rw[BH eI hH (row:=CZ m) rfl,UD]
 have lm1:∀H:Hp,H[h.length]?=some (qF 2 [CZ m])->BO jA H 29 (.ptr h.length 0 1)=some (.sl m.cm 3 (m.crs.map GG)):=fun H hH=>by rw[BH gL hH (row:=CZ m) rfl,VT]
 refine J3 eI @UD ?_;refine D9 0 (fun F H=>F 1=.ptr h.length 0 0∧H[h.length]?=some (qF 2 [CZ m])∧(∃x,H=h++x)∧fstE FV m.pts=0) (fun F H=>F 2=.n (FT m)∧∃x,H=h++x) ?_ ?_ ?_
 .refine BB (fun n F H=>∃k,n+k=m.pts.length∧F 1=.ptr h.length 0 0∧F 18=.sl m.pm 6 (m.pts.map FP)∧F 19=.n m.pts.length∧F 20=.n (k:Nat)∧H[h.length]?=some (qF 2 [CZ m])∧(∃x,H=h++x)∧fstE FV m.pts=fstE FV (m.pts.drop k)) m.pts.length ⟨0,A8,EX,EX,EX,EX,AX _ _,⟨_,rfl⟩,rfl⟩ ?_
  rintro n F H ⟨k,hk,f1,f18,f19,f20,hb,⟨x,hx⟩,hf⟩;refine AQ f19 f20 ?_;refine DU ?_ ?_<;>intro hk'
  .have hs:=RU FV m.pts k hk'
   simp -implicitDefEqProofs only[vQ,CJ,↓reduceIte,jC,enP,QM,jQ,f18,f20,CG hk',CY gK ZC IC hk',AP3,AL7 _ _ [.str ⟨#[]⟩,.n 0,.n 0,.str ⟨#[]⟩,.sl .nil 0 [],.sl .nil 0 []] rfl,ldP (AX H (qF 6 [FP m.pts[k]]))];refine(ADB G hG m.pts[k] (hm.pts _ (jH hk')) _).uu ?_;refine BG ?_ ?_<;>intro hv
   .refine Z ?_
    have hv':FV m.pts[k]≠0:=BL hv;have:fstE FV m.pts=FV m.pts[k]:=by rw[hf,hs,if_neg hv']
    exact⟨by rw[hme,this,if_pos hv'],x++_,by rw[hx,zC]⟩
   .have hv':FV m.pts[k]=0:=BL hv
    refine AQ f20 (CW k) ?_;exact⟨n-1,U,k+1,U,f1,f18,f19,rfl,AL hb,⟨x++_,by rw[hx,zC]⟩,by rw[hf,hs,if_pos hv']⟩
  .refine Z ?_
   exact⟨f1,hb,⟨x,hx⟩,by rw[hf,jR U]; rfl⟩
 .rintro F H ⟨f1,hb,hx0,hf⟩
  have hfull:=full_of hf;rw[hf,if_neg (fun hh=>hh rfl)] at hme;refine AQ f1 (lm0 _ hb) ?_;refine(AI3 G m.pts m.pm H U).uu ?_;cases hd:PM (m.pts.map (·.name))
  case true =>
   refine Z ?_;exact⟨by rw[hme,hd]; rfl,hx0⟩
  rw[hd] at hme;simp only[qI,if_false] at hme;refine AQ f1 (lm1 _ hb) ?_;refine D9 2 (fun F H=>F 1=.ptr h.length 0 0∧H[h.length]?=some (qF 2 [CZ m])∧(∃x,H=h++x)∧fstE (F8 m) m.crs=0) (fun F H=>F 2=.n (FT m)∧∃x,H=h++x) ?_ ?_ ?_
  .refine BB (fun n F H=>∃k,n+k=m.crs.length∧F 1=.ptr h.length 0 0∧F 34=.sl m.cm 3 (m.crs.map GG)∧F 35=.n m.crs.length∧F 36=.n (k:Nat)∧H[h.length]?=some (qF 2 [CZ m])∧(∃x,H=h++x)∧fstE (F8 m) m.crs=fstE (F8 m) (m.crs.drop k)) m.crs.length ⟨0,A8,TN f1,EX,EX,EX,hb,hx0,rfl⟩ ?_
   clear f1 hb hx0;rintro n F H ⟨k,hk,f1,f34,f35,f36,hb,⟨x,hx⟩,hf⟩;refine AQ f35 f36 ?_;refine DU ?_ ?_<;>intro hk'
   .have hs:=RU (F8 m) m.crs k hk'
    simp -implicitDefEqProofs only[vQ,CJ,↓reduceIte,jC,enP,WV,jQ,f1,f34,f36,CG hk',CY uT iL LY hk',AXV,AV0 _ _ [.str ⟨#[]⟩,.sl .nil 0 [],.sl .nil 0 []] rfl,ldC (AX H (qF 3 [GG m.crs[k]])),ldM (AL (x:=qF 3 [GG m.crs[k]]) hb)];refine(AEG G hG m m.crs[k] (hm.crs _ (jH hk')) hfull _).uu ?_;refine BG ?_ ?_<;>intro hv
    .refine Z ?_
     have hv':F8 m m.crs[k]≠0:=BL hv;have:fstE (F8 m) m.crs=F8 m m.crs[k]:=by rw[hf,hs,if_neg hv']
     exact⟨by rw[hme,this,if_pos hv'],x++_,by rw[hx,zC]⟩
    .have hv':F8 m m.crs[k]=0:=BL hv
     refine AQ f36 (CW k) ?_;exact⟨n-1,U,k+1,U,f1,f34,f35,rfl,AL hb,⟨x++_,by rw[hx,zC]⟩,by rw[hf,hs,if_pos hv']⟩
   .refine Z ?_
    exact⟨f1,hb,⟨x,hx⟩,by rw[hf,jR U]; rfl⟩
  .rintro F H ⟨f1,hb,hx,hf⟩
   rw[hf,if_neg (fun hh=>hh rfl)] at hme;refine AQ f1 (lm1 _ hb) ?_;refine(AI4 G m.crs m.cm H U).uu ?_;cases hd:PM (m.crs.map (·.name))
   .refine Z ?_
    exact⟨by rw[hme,hd]; rfl,hx⟩
   .refine Z ?_
    exact⟨by rw[hme,hd]; rfl,hx⟩
  .rintro F H ⟨f2,hx⟩
   refine AO f2 ?_;exact⟨trivial,hx⟩
 .rintro F H ⟨f2,hx⟩
  refine AO f2 ?_;exact⟨trivial,hx⟩
theorem AJN (m:Mo)(hm:MoOk m)(h:Hp):PCall (En G) 49 [.agg (CZ m)] h (.n (FT m)):=by
 refine ACalls.pure0 rfl ?_;have hm1:=hm.np;have hm2:=hm.nc;refine acT Tryz.func49 2 ?_;have hw:IntKind.i64.wrap ((m.pts.length:Int)+(m.crs.length:Int))=(m.pts.length:Int)+(m.crs.length:Int):=wrap_i64 U U;have gm:=AX h (qF 2 [CZ m]);have hx:∃x,h++[qF 2 [CZ m]]=h++x:=⟨_,rfl⟩;refine AO @bxM ?_
 generalize h++[qF 2 [CZ m]]=H at gm hx|-
 have lm0:BO jA H 28 (.ptr h.length 0 0)=some (.sl m.pm 6 (m.pts.map FP)):=by rw[BH eI gm (row:=CZ m) rfl,UD]
 have lm1:BO jA H 29 (.ptr h.length 0 1)=some (.sl m.cm 3 (m.crs.map GG)):=by rw[BH gL gm (row:=CZ m) rfl,VT]
 refine DI lm0 lm1 hw ?_;refine BG ?_ ?_<;>intro h1
 .refine Z ?_
  exact⟨by unfold FT; rw[if_pos (by simp at h1; omega)],hx⟩
 have h1':¬16<m.pts.length+m.crs.length:=by simp at h1; omega
 have hme:FT m=if fstE FV m.pts≠0 then fstE FV m.pts else if PM (m.pts.map (·.name)) then 8 else if fstE (F8 m) m.crs≠0 then fstE (F8 m) m.crs else if PM (m.crs.map (·.name)) then 8 else 0:=by
  unfold FT; rw[if_neg h1']
 refine Z ?_;refine D9 0 (fun F H'=>F 1=.ptr h.length 0 0∧H'=H∧fstE FV m.pts=0) (fun F H'=>F 2=.n (FT m)∧H'=H) ?_ ?_ ?_
 .refine BB (fun n F H'=>∃k,n+k=m.pts.length∧F 1=.ptr h.length 0 0∧F 3=.n (k:Nat)∧H'=H∧fstE FV m.pts=fstE FV (m.pts.drop k)) m.pts.length ⟨0,A8,AC,AC,rfl,rfl⟩ ?_
  rintro n F H' ⟨k,hk,f1,f3,rfl,hf⟩;refine DI f1 f3 lm0 ?_;refine DU ?_ ?_<;>intro hk'
  .have hs:=RU FV m.pts k hk'
   simp -implicitDefEqProofs only[vQ,CJ,↓reduceIte,jC,enP,QM,KQ,f1,f3,lm0,CG hk',CY gK ZC IC hk'];refine(AI9 G m.pts[k] (hm.pts _ (jH hk')) _).uu ?_;refine BG ?_ ?_<;>intro hv
   .refine Z ?_
    have hv':FV m.pts[k]≠0:=BL hv;have:fstE FV m.pts=FV m.pts[k]:=by rw[hf,hs,if_neg hv']
    exact⟨by rw[hme,this,if_pos hv'],trivial⟩
   .have hv':FV m.pts[k]=0:=BL hv
    refine AQ f3 (CW k) ?_;exact⟨n-1,U,k+1,U,f1,rfl,trivial,by rw[hf,hs,if_pos hv']⟩
  .refine Z ?_
   exact⟨f1,trivial,by rw[hf,jR U]; rfl⟩
 .rintro F H' ⟨f1,rfl,hf⟩
  have hfull:=full_of hf;rw[hf,if_neg (fun hh=>hh rfl)] at hme;refine AO f1 ?_;refine D9 2 (fun F H=>F 1=.ptr h.length 0 0∧H=H'∧PM (m.pts.map (·.name))=false) (fun F H=>F 2=.n (FT m)∧H=H') ?_ ?_ ?_
  .generalize hN:m.pts.map (·.name)=N at hme|-
   have hNl:N.length=m.pts.length:=by rw[<-hN]; simp
   have hNi:∀i (hi:i<m.pts.length),N[i]?=some m.pts[i].name:=fun i hi=>by rw[<-hN,jX,jI hi]; rfl
   refine BB (fun n F H=>∃i,n+i=m.pts.length∧F 1=.ptr h.length 0 0∧F 5=.n (i:Nat)∧H=H'∧PM N=nT (N.take i) (N.drop i)) m.pts.length ⟨0,A8,DW f1,AC,rfl,rfl⟩ ?_;clear f1;rintro n F H' ⟨i,hi,f1,f5,rfl,hd⟩;refine DI f1 f5 lm0 ?_;refine DU ?_ ?_<;>intro hi'
   .have hdrop:=RV N i U
    rw[GI (hNi i hi')] at hdrop;refine AO f5 ?_;refine D9 4 (fun F' H=>F' 1=.ptr h.length 0 0∧F' 5=.n (i:Nat)∧H=H'∧G7 (N.take i) m.pts[i].name=false) (fun F' H=>F' 2=.n 8∧H=H'∧PM N=true) ?_ ?_ ?_
    .refine BB (fun n F' H=>∃k,n+k=i∧F' 1=.ptr h.length 0 0∧F' 5=.n (i:Nat)∧F' 6=.n (k:Nat)∧H=H'∧G7 (N.take i) m.pts[i].name=G7 ((N.take i).drop k) m.pts[i].name) i ⟨0,A8,DW f1,DW f5,AC,rfl,rfl⟩ ?_
     clear f1 f5;rintro n' F H' ⟨k,hk,f1,f5,f6,rfl,hin⟩;refine AQ f5 f6 ?_;refine DU ?_ ?_<;>intro hk'
     .have hk2:k<m.pts.length:=U
      have hs:=LZ (fun u=>m.pts[i].name.toList==u.toList) (N.take i) k (by rw[jU]; omega)
      have hx:(N.take i)[k]'(by rw[jU]; omega)=m.pts[k].name:=by
       rw[List.getElem_take]; exact GI (hNi k hk2)
      rw[hx] at hs;refine Z ?_;refine DJ AZ ?_;simp -implicitDefEqProofs only[vQ,OO,↓reduceIte,jC,jP,enP,QM,KQ,tR,f1,f5,f6,lm0,CG hi',CG hk2,BP ag9 hi',BP ag9 hk2,AHG];refine BG ?_ ?_<;>intro hb
      .refine Z ?_
       have:G7 (N.take i) m.pts[i].name=true:=by
        rw[hin]; unfold G7; rw[hs,BEq.comm,hb]; rfl
       exact⟨trivial,trivial,by rw[hd,hdrop,this]; rfl⟩
      .refine AQ f6 (CW k) ?_
       refine⟨n'-1,U,k+1,U,f1,f5,rfl,trivial,?_⟩;rw[hin]; unfold G7; rw[hs,BEq.comm,hb]; rfl
     .refine Z ?_
      refine⟨f1,f5,trivial,?_⟩;rw[hin,jR (by rw[jU]; omega)]; rfl
    .rintro F' H' ⟨g1,g5,rfl,hn⟩
     refine AQ g5 (CW i) ?_;refine⟨n-1,U,i+1,U,g1,rfl,trivial,?_⟩;rw[hd,hdrop,hn]; rfl
    .rintro F' H' ⟨g2,rfl,hdd⟩
     refine AO g2 ?_;exact⟨by rw[hme,hdd]; rfl,trivial⟩
   .refine Z ?_
    exact⟨f1,trivial,by rw[hd,jR U]; rfl⟩
  .clear f1
   rintro F H ⟨f1,rfl,hd⟩;rw[hd] at hme;simp only[qI,if_false] at hme;refine Z ?_;refine D9 6 (fun F H'=>F 1=.ptr h.length 0 0∧H'=H∧fstE (F8 m) m.crs=0) (fun F H'=>F 2=.n (FT m)∧H'=H) ?_ ?_ ?_
   .refine BB (fun n F H'=>∃k,n+k=m.crs.length∧F 1=.ptr h.length 0 0∧F 7=.n (k:Nat)∧H'=H∧fstE (F8 m) m.crs=fstE (F8 m) (m.crs.drop k)) m.crs.length ⟨0,A8,DW f1,AC,rfl,rfl⟩ ?_
    clear f1;rintro n F H' ⟨k,hk,f1,f7,rfl,hf⟩;refine DI f1 f7 lm1 ?_;refine DU ?_ ?_<;>intro hk'
    .have hs:=RU (F8 m) m.crs k hk'
     refine Z ?_;refine DJ AZ ?_;simp -implicitDefEqProofs only[vQ,LQ,LP,KF,CJ,↓reduceIte,jC,jP,enP,WV,OW,f1,f7,lm1,ldM gm,CG hk',CY uT iL LY hk'];refine⟨_,AKO G m m.crs[k] (hm.crs _ (jH hk')) hfull _,?_⟩
     try refine Z ?_
     refine BG ?_ ?_<;>intro hv
     .refine Z ?_
      have hv':F8 m m.crs[k]≠0:=BL hv;have:fstE (F8 m) m.crs=F8 m m.crs[k]:=by rw[hf,hs,if_neg hv']
      exact⟨by rw[hme,this,if_pos hv'],trivial⟩
     .have hv':F8 m m.crs[k]=0:=BL hv
      refine AQ f7 (CW k) ?_;exact⟨n-1,U,k+1,U,f1,rfl,trivial,by rw[hf,hs,if_pos hv']⟩
    .refine Z ?_
     exact⟨f1,trivial,by rw[hf,jR U]; rfl⟩
   .rintro F H' ⟨f1,rfl,hf⟩
    rw[hf,if_neg (fun hh=>hh rfl)] at hme;refine Z ?_;generalize hN:m.crs.map (·.name)=N at hme;have hNl:N.length=m.crs.length:=by rw[<-hN]; simp
    have hNi:∀i (hi:i<m.crs.length),N[i]?=some m.crs[i].name:=fun i hi=>by rw[<-hN,jX,jI hi]; rfl
    refine BB (fun n F H=>∃i,n+i=m.crs.length∧F 1=.ptr h.length 0 0∧F 9=.n (i:Nat)∧H=H'∧PM N=nT (N.take i) (N.drop i)) m.crs.length ⟨0,A8,DW f1,AC,rfl,rfl⟩ ?_;clear f1;rintro n F H' ⟨i,hi,f1,f9,rfl,hd⟩;refine DI f1 f9 lm1 ?_;refine DU ?_ ?_<;>intro hi'
    .have hdrop:=RV N i U
     rw[GI (hNi i hi')] at hdrop;refine AO f9 ?_;refine D9 10 (fun F' H=>F' 1=.ptr h.length 0 0∧F' 9=.n (i:Nat)∧H=H'∧G7 (N.take i) m.crs[i].name=false) (fun F' H=>F' 2=.n 8∧H=H'∧PM N=true) ?_ ?_ ?_
     .refine BB (fun n F' H=>∃k,n+k=i∧F' 1=.ptr h.length 0 0∧F' 9=.n (i:Nat)∧F' 10=.n (k:Nat)∧H=H'∧G7 (N.take i) m.crs[i].name=G7 ((N.take i).drop k) m.crs[i].name) i ⟨0,A8,DW f1,DW f9,AC,rfl,rfl⟩ ?_
      clear f1 f9;rintro n' F H' ⟨k,hk,f1,f9,f10,rfl,hin⟩;refine AQ f9 f10 ?_;refine DU ?_ ?_<;>intro hk'
      .have hk2:k<m.crs.length:=U
       have hs:=LZ (fun u=>m.crs[i].name.toList==u.toList) (N.take i) k (by rw[jU]; omega)
       have hx:(N.take i)[k]'(by rw[jU]; omega)=m.crs[k].name:=by
        rw[List.getElem_take]; exact GI (hNi k hk2)
       rw[hx] at hs;refine Z ?_;refine DJ AZ ?_;simp -implicitDefEqProofs only[vQ,OO,↓reduceIte,jC,jP,enP,WV,OW,tO,f1,f9,f10,lm1,CG hi',CG hk2,BP ag9 hi',BP ag9 hk2,AHI];refine BG ?_ ?_<;>intro hb
       .refine Z ?_
        have:G7 (N.take i) m.crs[i].name=true:=by
         rw[hin]; unfold G7; rw[hs,BEq.comm,hb]; rfl
        exact⟨trivial,trivial,by rw[hd,hdrop,this]; rfl⟩
       .refine AQ f10 (CW k) ?_
        refine⟨n'-1,U,k+1,U,f1,f9,rfl,trivial,?_⟩;rw[hin]; unfold G7; rw[hs,BEq.comm,hb]; rfl
      .refine Z ?_
       refine⟨f1,f9,trivial,?_⟩;rw[hin,jR (by rw[jU]; omega)]; rfl
     .rintro F' H' ⟨g1,g9,rfl,hn⟩
      refine AQ g9 (CW i) ?_;refine⟨n-1,U,i+1,U,g1,rfl,trivial,?_⟩;rw[hd,hdrop,hn]; rfl
     .rintro F' H' ⟨g2,rfl,hdd⟩
      refine AO g2 ?_;exact⟨by rw[hme,hdd]; rfl,hx⟩
    .refine Z ?_
     exact⟨by rw[hme,hd,jR U]; rfl,hx⟩
   .rintro F H' ⟨f2,rfl⟩
    refine AO f2 ?_;exact⟨trivial,hx⟩
  .rintro F H ⟨f2,rfl⟩
   refine AO f2 ?_;exact⟨trivial,hx⟩
 .rintro F H' ⟨f2,rfl⟩
  refine AO f2 ?_;exact⟨trivial,hx⟩
def eqL (a b:List Int):Bool:=decide (a=b)
theorem AA2 {a b:List Int}(ha:k<a.length)(hb:k<b.length):eqL (a.drop k) (b.drop k)=(decide (a[k]=b[k])&&eqL (a.drop (k+1)) (b.drop (k+1))):=by
 rw[zS ha,zS hb];unfold eqL;rw[decide_eq_decide.2 (Iff.of_eq (List.cons.injEq _ _ _ _)),Bool.decide_and]
theorem lF (a b:List Int)(s t:SM)(h:Hp)(hl:b.length<=1099511627776):PCall (En G) 216 [.sl s 1 (a.map qencI),.sl t 1 (b.map qencI)] h (.bool (eqL a b)):=by
 refine acT Tryz.func216 4 ?_;refine Z ?_;refine BG ?_ ?_<;>intro h1
 .refine Z ?_
  have:eqL a b=false:=by
   unfold eqL; rw[decide_eq_false_iff_not]; intro e; subst e; simp at h1
  exact⟨by rw[this],trivial⟩
 have hab:a.length=b.length:=by simp at h1; omega
 refine Z ?_;refine BB (fun n F H=>∃k,n+k=a.length∧F 0=.sl s 1 (a.map qencI)∧F 1=.sl t 1 (b.map qencI)∧F 12=.n a.length∧F 13=.n (k:Nat)∧H=h∧eqL a b=eqL (a.drop k) (b.drop k)) a.length ⟨0,A8,AC,AC,AC,AC,rfl,rfl⟩ ?_;rintro n F H ⟨k,hk,f0,f1,f12,f13,rfl,hi⟩;refine AQ f12 f13 ?_;refine DU ?_ ?_<;>intro hk'
 .have hkb:k<b.length:=U
  rw[AA2 hk' hkb] at hi;refine AO f13 ?_;refine DJ AZ ?_;simp -implicitDefEqProofs only[vQ,↓reduceIte,jC,jP,enP,KJ,f0,f1,f13,CG hk',CG hkb,BP ag3 hk',BP ag3 hkb,encI0];refine BG ?_ ?_<;>intro hd
  .refine Z ?_
   have:decide (a[k]=b[k])=false:=BL hd;exact⟨by rw[hi,this]; rfl,trivial⟩
  .refine AQ f13 (CW k) ?_
   have:decide (a[k]=b[k])=true:=BL hd;exact⟨n-1,U,k+1,U,f0,f1,f12,rfl,trivial,by rw[hi,this]; rfl⟩
 .refine Z ?_
  exact⟨by rw[hi,jR U,jR U]; rfl,trivial⟩
theorem AC0 (a b:List Int)(s t:SM)(h:Hp)(hl:b.length<=1099511627776):PCall (En G) 124 [.sl s 1 (a.map qencI),.sl t 1 (b.map qencI)] h (.bool (eqL a b)):=by
 refine acT Tryz.func124 4 ?_;refine Z ?_;refine BG ?_ ?_<;>intro h1
 .refine Z ?_
  have:eqL a b=false:=by
   unfold eqL; rw[decide_eq_false_iff_not]; intro e; subst e; simp at h1
  exact⟨by rw[this],trivial⟩
 have hab:a.length=b.length:=by simp at h1; omega
 refine Z ?_;refine BB (fun n F H=>∃k,n+k=a.length∧F 0=.sl s 1 (a.map qencI)∧F 1=.sl t 1 (b.map qencI)∧F 5=.n (k:Nat)∧H=h∧eqL a b=eqL (a.drop k) (b.drop k)) a.length ⟨0,A8,AC,AC,AC,rfl,rfl⟩ ?_;rintro n F H ⟨k,hk,f0,f1,f5,rfl,hi⟩;refine AQ f0 f5 ?_;refine DU ?_ ?_<;>intro hk'
 .have hkb:k<b.length:=U
  rw[AA2 hk' hkb] at hi;refine Z ?_;refine DJ AZ ?_;simp -implicitDefEqProofs only[vQ,↓reduceIte,jC,jP,enP,KJ,f0,f1,f5,CG hk',CG hkb,BP ag3 hk',BP ag3 hkb,encI0];refine BG ?_ ?_<;>intro hd
  .refine Z ?_
   have:decide (a[k]=b[k])=false:=BL hd;exact⟨by rw[hi,this]; rfl,trivial⟩
  .refine AQ f5 (CW k) ?_
   have:decide (a[k]=b[k])=true:=BL hd;exact⟨n-1,U,k+1,U,f0,f1,rfl,trivial,by rw[hi,this]; rfl⟩
 .refine Z ?_
  exact⟨by rw[hi,jR U,jR U]; rfl,trivial⟩
def MC (n:Int):Bool:=decide (0<=n)&&decide (n<=1099511627776)
def countB (n:Int)(may:Bool):Bool:=MC n&&(may||n==0)
theorem UY (n:Int)(h:Hp):PCall (En G) 57 [.n n] h (.bool (MC n)):=by
 refine acT Tryz.func57 2 ?_;refine Z ?_;cases ha:decide (n≥0)
 all_goals
  refine AO ha ?_;exact⟨by unfold MC; rw[show decide (0<=n)=decide (n≥0) from rfl,ha]; rfl,trivial⟩
theorem VK (n:Int)(may:Bool)(h:Hp):PCall (En G) 121 [.n n,.bool may] h (.bool (countB n may)):=by
 refine acT Tryz.func121 4 ?_;refine Z ?_;cases ha:decide (n≥0)<;>cases hb:decide (n<=1099511627776)<;>cases may
 all_goals
  refine AQ ha hb ?_;exact⟨by unfold countB MC; rw[show decide (0<=n)=decide (n≥0) from rfl,ha,hb]; rfl,trivial⟩
theorem fE (b:Bin)(h:Hp):PCall (En G) 210 [.agg (H7 b)] h (.bool (b.kind==0)):=by
 refine ACalls.pure0 rfl ?_;refine acT Tryz.func210 2 ?_;refine J3 @bxB @SL ?_;exact⟨trivial,_,rfl⟩
def ZR (m:Mo)(p b:Int):Int:=match (IP m p)[b.toNat]? with
 | some x=>x.kind
 | none=>0
def N9 (m:Mo):List Int->List Int->Bool
 | p::ps,b::bs=>(ZR m p b==0)&&N9 m ps bs
 | _,_=>true
def SB (m:Mo)(c:Cr)(l:List Int):Bool:=N9 m c.pts l && !(c.excl.any fun x=>eqL x.l l)
theorem X9 {m:Mo}:∀ {ps l:List Int},JP (szs m ps) l=true->∀(k:Nat) (hk:k<l.length) (hp:k<ps.length),0<=l[k]∧l[k]<((IP m ps[k]).length:Int)
 | p::ps,b::bs,h,k,hk,hp=>by
   simp only[szs,jK,JP,jT,decide_eq_true_eq] at h
   cases k with
   | zero=>exact h.1
   | succ k=>exact X9 (m:=m) (ps:=ps) h.2 k (BL hk) (BL hp)
 | [],b::bs,h,k,hk,hp=>by simp at hp
 | _,[],h,k,hk,hp=>by simp at hk
theorem WT (m:Mo)(ps l:List Int)(k:Nat)(hp:k<ps.length)(hk:k<l.length):N9 m (ps.drop k) (l.drop k)=((ZR m ps[k] l[k]==0)&&N9 m (ps.drop (k+1)) (l.drop (k+1))):=by
 rw[zS hp,zS hk]; rfl
theorem ZQ (m:Mo)(ps:List Int):N9 m ps []=true:=by cases ps<;>rfl
theorem AES {m:Mo}{p b:Int}(h0:0<=b)(h1:b<((IP m p).length:Int))(h:Hp)(s:SM):JM 4 h (.sl s 4 ((IP m p).map H7)) (.n b)=some (.fptr 4 ((IP m p).map H7) b.toNat 0) :=
 AUT h0 (by rw[jL]; exact h1)
theorem mF {m:Mo}{p b:Int}(h0:0<=b)(h1:b<((IP m p).length:Int)):((IP m p)[b.toNat]'U).kind=ZR m p b:=by
 unfold ZR; rw[jI U]
theorem AS0 (l:List Int)(s:SM)(b:Nat)(r:Is)(h:Hp)(hb:h[b]?=some (qF 1 [[.sl s 1 (l.map qencI)]]))(hl:l.length<=1099511627776):
  PCall (En G) 276 [.sl r.m 1 (r.l.map qencI),.ptr b 0 0] h (.bool (eqL r.l l)):=by
 refine acT Tryz.func276 3 ?_;refine AO (FZ MO hb) ?_;refine(lF G r.l l r.m s h hl).uu ?_;exact G8
theorem Two.app {m:Mo}{c:Cr}(t:Two h H m c cb)(x:Hp):Two h (H++x) m c cb:=by
 obtain⟨y,hy⟩:=t.hx;exact⟨IK t.gm,IK t.gc,⟨y++x,by rw[hy,zC]⟩⟩
theorem nP (m:Mo)(c:Cr)(l:List Int)(s:SM)(h:Hp)(hh:Here m c.pts)(hi:JP (szs m c.pts) l=true)(hl:c.pts.length<=1048576)(hx:c.excl.length<=1048576):PCall (En G) 211 [.agg (CZ m),.agg (GG c),.sl s 1 (l.map qencI)] h (.bool (SB m c l)):=by
 refine ACalls.pure0 rfl ?_;have hlen:l.length=c.pts.length:=by have:=QN hi; rw[LJ] at this; omega
 refine acT Tryz.func211 6 ?_;have t:=(Two.mk' h m c).app [qF 1 [[.sl s 1 (l.map qencI)]]];have gl:=AX (h++[qF 2 [CZ m]]++[qF 3 [GG c]]) (qF 1 [[.sl s 1 (l.map qencI)]]);refine DI @mA @bxM @bxC ?_
 generalize h++[qF 2 [CZ m]]++[qF 3 [GG c]]++[qF 1 [[.sl s 1 (l.map qencI)]]]=H at t gl|-
 generalize (h++[qF 2 [CZ m]]++[qF 3 [GG c]]).length=lb at gl|-
 generalize (h++[qF 2 [CZ m]]).length=cb at t|-
 refine AO (FZ MO gl) ?_;have hkb:=WT m c.pts l;refine D9 0 (fun F H'=>F 4=.ptr cb 0 0∧F 5=.ptr lb 0 0∧H'=H∧N9 m c.pts l=true) (fun F H'=>F 6=.bool false∧H'=H∧N9 m c.pts l=false) ?_ ?_ ?_
 .refine BB (fun n F H'=>∃k,n+k=l.length∧F 3=.ptr h.length 0 0∧F 4=.ptr cb 0 0∧F 5=.ptr lb 0 0∧F 9=.sl s 1 (l.map qencI)∧F 10=.n l.length∧F 11=.n (k:Nat)∧H'=H∧N9 m c.pts l=N9 m (c.pts.drop k) (l.drop k)) l.length ⟨0,A8,AC,AC,AC,AC,AC,AC,rfl,rfl⟩ ?_
  rintro n F H' ⟨k,hk,f3,f4,f5,f9,f10,f11,rfl,hk0⟩;refine AQ f10 f11 ?_;refine DU ?_ ?_<;>intro hk'
  .have hkc:k<c.pts.length:=U
   rw[hkb k hkc hk'] at hk0;obtain⟨h0,h1⟩:=X9 hi k hk' hkc;obtain⟨s2,ls⟩:=hh.ld hkc H';simp -implicitDefEqProofs only[vQ,CJ,↓reduceIte,jC,enP,KJ,f9,f11,CG hk',BP ag3 hk',encI0];refine DJ AZ ?_;simp -implicitDefEqProofs only[vQ,ALH,LP,KF,rU,↓reduceIte,jC,jP,enP,QM,KQ,KJ,WU,JV,OA,f3,f4,f11,t.lm,t.l1,CG hkc,BP ag3 hkc,encI0,hh.ix hkc,ls,AES h0 h1,CY gJ ZB KE (U:l[k].toNat<(IP m c.pts[k]).length)];refine⟨_,fE G _ _,?_⟩
   try refine Z ?_
   rw[mF h0 h1];cases hkd:(ZR m c.pts[k] l[k]==0)
   .refine Z ?_
    exact⟨trivial,trivial,by rw[hk0,hkd]; rfl⟩
   .refine AQ f11 (CW k) ?_
    exact⟨n-1,U,k+1,U,f3,f4,f5,f9,f10,rfl,trivial,by rw[hk0,hkd]; rfl⟩
  .refine Z ?_
   exact⟨f4,f5,trivial,by rw[hk0,jR (U:l.length<=k),ZQ]⟩
 .rintro F H' ⟨f4,f5,rfl,hk⟩
  refine DI f4 f5 @t.l2 ?_;refine(SQ G c.excl c.xm 276 _ (fun x=>eqL x.l l) _ U fun r=>AS0 G l s _ r _ gl U).uu ?_;exact⟨by unfold SB; rw[hk]; rfl,t.hx⟩
 .rintro F H' ⟨f6,rfl,hk⟩
  refine AO f6 ?_;exact⟨by unfold SB; rw[hk]; rfl,t.hx⟩
theorem AEI (m:Mo)(c:Cr)(l:List Int)(s:SM)(h:Hp)(hh:Here m c.pts)(hi:JP (szs m c.pts) l=true)(hl:c.pts.length<=1048576)(hx:c.excl.length<=1048576):PCall (En G) 59 [.agg (CZ m),.agg (GG c),.sl s 1 (l.map qencI)] h (.bool (SB m c l)):=by
 refine ACalls.pure0 rfl ?_;have hlen:l.length=c.pts.length:=by have:=QN hi; rw[LJ] at this; omega
 refine acT Tryz.func59 6 ?_;have t:=Two.mk' h m c;refine AQ @bxM @bxC ?_
 generalize h++[qF 2 [CZ m]]++[qF 3 [GG c]]=H at t|-
 generalize (h++[qF 2 [CZ m]]).length=cb at t|-
 have hkb:=WT m c.pts l;refine D9 0 (fun F H'=>F 2=.sl s 1 (l.map qencI)∧F 3=.ptr h.length 0 0∧F 4=.ptr cb 0 0∧H'=H∧(c.excl.any fun x=>eqL x.l l)=false) (fun F H'=>F 6=.bool false∧H'=H∧(c.excl.any fun x=>eqL x.l l)=true) ?_ ?_ ?_
 .refine BB (fun n F H'=>∃k,n+k=c.excl.length∧F 2=.sl s 1 (l.map qencI)∧F 3=.ptr h.length 0 0∧F 4=.ptr cb 0 0∧F 7=.n (k:Nat)∧H'=H∧(c.excl.any fun x=>eqL x.l l)=((c.excl.drop k).any fun x=>eqL x.l l)) c.excl.length ⟨0,A8,AC,AC,AC,AC,rfl,rfl⟩ ?_
  rintro n F H' ⟨k,hk,f2,f3,f4,f7,rfl,ha⟩;refine DI f4 f7 @t.l2 ?_;refine DU ?_ ?_<;>intro hk'
  .have hs:=LZ (fun x:Is=>eqL x.l l) c.excl k hk'
   simp -implicitDefEqProofs only[vQ,CJ,↓reduceIte,jC,enP,VZ,dJ,f2,f4,f7,t.l2,CG hk',BP MO hk',SK];refine(AC0 G c.excl[k].l l _ s _ U).uu ?_;cases he:eqL c.excl[k].l l
   .refine AQ f7 (CW k) ?_
    exact⟨n-1,U,k+1,U,f2,f3,f4,rfl,trivial,by rw[ha,hs,he]; rfl⟩
   .refine Z ?_
    exact⟨trivial,trivial,by rw[ha,hs,he]; rfl⟩
  .refine Z ?_
   exact⟨f2,f3,f4,trivial,by rw[ha,jR U]; rfl⟩
 .rintro F H' ⟨f2,f3,f4,rfl,ha⟩
  have hhb:SB m c l=N9 m c.pts l:=by unfold SB; rw[ha]; simp
  rw[hhb];refine Z ?_;refine BB (fun n F H=>∃k,n+k=l.length∧F 2=.sl s 1 (l.map qencI)∧F 3=.ptr h.length 0 0∧F 4=.ptr cb 0 0∧F 8=.n (k:Nat)∧H=H'∧N9 m c.pts l=N9 m (c.pts.drop k) (l.drop k)) l.length ⟨0,A8,DW f2,DW f3,DW f4,AC,rfl,rfl⟩ ?_;clear f2 f3 f4;rintro n F H' ⟨k,hk,f2,f3,f4,f8,rfl,hk0⟩;refine AQ f2 f8 ?_;refine DU ?_ ?_<;>intro hk'
  .have hkc:k<c.pts.length:=U
   rw[hkb k hkc hk'] at hk0;obtain⟨h0,h1⟩:=X9 hi k hk' hkc;obtain⟨s2,ls⟩:=hh.ld hkc H';have hlt:l[k].toNat<(IP m c.pts[k]).length:=U;refine Z ?_;refine DJ AZ ?_;simp -implicitDefEqProofs only[vQ,↓reduceIte,jC,jP,enP,QM,KQ,KJ,WU,JV,VE,OA,bne,f2,f3,f4,f8,t.lm,t.l1,CG hkc,BP ag3 hkc,CG hk',BP ag3 hk',encI0,hh.ix hkc,ls,AES h0 h1,BP ag3 hlt,SL,mF h0 h1];cases hkd:(ZR m c.pts[k] l[k]==0)
   .refine Z ?_
    exact⟨by rw[hk0,hkd]; rfl,t.hx⟩
   .refine AQ f8 (CW k) ?_
    exact⟨n-1,U,k+1,U,f2,f3,f4,rfl,trivial,by rw[hk0,hkd]; rfl⟩
  .refine Z ?_
   exact⟨by rw[hk0,jR (U:l.length<=k),ZQ],t.hx⟩
 .rintro F H' ⟨f6,rfl,ha⟩
  refine AO f6 ?_;exact⟨by unfold SB; rw[ha]; simp,t.hx⟩
theorem AHH (xs:List Nat):xs.map J5=(xs.map fun n:Nat=>(n:Int)).map qencI:=by
 rw[wF]; rfl
def tupF:List Nat->Nat->List Nat×Nat
 | [],k=>([],k)
 | n::ns,k=>(((tupF ns k).2%n)::(tupF ns k).1,(tupF ns k).2/n)
def RF (ns:List Nat)(k:Nat):List Int:=(tupF ns k).1.map fun n:Nat=>(n:Int)
theorem O7:∀(ns:List Nat) (k:Nat),(tupF ns k).1.length=ns.length
 | [],_=>rfl
 | n::ns,k=>by simp [tupF,O7 ns k]
theorem sB:∀(ns:List Nat) (k:Nat),(tupF ns k).2<=k
 | [],_=>jF _
 | _::ns,k=>wE (Nat.div_le_self _ _) (sB ns k)
theorem aO:∀(ns:List Nat) (k:Nat),(∀n∈ns,1<=n)->JP ns (RF ns k)=true
 | [],_,_=>rfl
 | n::ns,k,h=>by
   have h1:=h n A8;have ih:=aO ns k (fun x hx=>h x (by simp [hx]));have h2:(tupF ns k).2%n<n:=Nat.mod_lt _ U;show JP (n::ns) (((tupF ns k).2%n:Nat)::RF ns k)=true;unfold JP;rw[ih];simp; omega
theorem tup_step {ns:List Nat}{K:Nat}(hj:j<ns.length):tupF (ns.drop j) K=(((tupF (ns.drop (j+1)) K).2%ns[j])::(tupF (ns.drop (j+1)) K).1,(tupF (ns.drop (j+1)) K).2/ns[j]):=by
 rw[zS hj]; rfl
theorem wZ {α:Type}{f:α->List AV}{pre out:List α}{x:α}(hj:j<pre.length):((pre.take (j+1)++out).map f).set j (f x)=(pre.take j++x::out).map f:=by
 rw[jW hj,zC];simp only[qL,jK,jM,List.singleton_append];rw[List.set_append_right _ _ MS];simp [Nat.min_eq_left (Nat.le_of_lt hj)]
theorem AY7 (h:Hp)(n:Nat)(hn:n<=1048576):GL jA true h 32 (.n (n:Int)) (.n (n:Int))=some (.own h.length 0 n,h++[qF 1 ((zD n 0).map J5)]):=by
 have hz:MB jA 3=some [.n 0]:=AZ;have hr:room n 8:=I5 U U;unfold GL;simp only[fP,sz3,uN,hz,Int.toNat_natCast];rw[if_pos ⟨U,Int.le_refl _,hr,rfl⟩];simp [J5]
theorem AL5 {rows:List (List AV)}{x:Nat}(ho:h[o]?=some (qF 1 rows))(hj:∃v,rows[j]?=some [v]):DX jA h 3 (.ptr o j 0) (.n (x:Int))=some (h.set o (qF 1 (rows.set j (J5 x)))):=by
 obtain⟨v,hv⟩:=hj;rw[G9 (XO _ _) sz3 ho hv A8]; rfl
theorem AF5 (a b:Nat)(hb:0<b):H9 jA 3 .rem (.n (a:Int)) (.n (b:Int))=some (.n ((a%b:Nat):Int)):=by
 rw[hZ _ _ _ _ _ U,Int.tmod_eq_emod_of_nonneg U]; rfl
theorem AF6 (a b:Nat)(hb:0<b)(ha:a<=9223372036854775807):H9 jA 3 .quo (.n (a:Int)) (.n (b:Int))=some (.n ((a/b:Nat):Int)):=by
 have h1:((a:Int).tdiv (b:Int))=((a/b:Nat):Int):=by rw[Int.tdiv_eq_ediv_of_nonneg U]; rfl
 have h2:=Nat.div_le_self a b;rw[AHR _ _ _ _ _ U,h1,OC U]
theorem AIE (m:Mo)(c:Cr)(K:Nat)(h:Hp)(hh:Here m c.pts)(hf:Full m)(h0:0<c.pts.length)(hl:c.pts.length<=1048576)(hK:K<=1048576):PCall (En G) 60 [.agg (CZ m),.agg (GG c),.n (K:Int)] h (.sl .any 1 ((RF (szs m c.pts) K).map qencI)):=by
 have hs:=hf.szs hh;have hsl:=LJ m c.pts
 have hgo:ACalls (En G) 60 [.agg (CZ m),.agg (GG c),.n (K:Int)] h fun v H=>ext h H∧outG 1 J5 h (tupF (szs m c.pts) K).1 v H:=by
  refine acT Tryz.func60 6 ?_;have t:=Two.mk' h m c;have hlt:h.length<=(h++[qF 2 [CZ m]]++[qF 3 [GG c]]).length:=A8;have he0:ext h (h++[qF 2 [CZ m]]++[qF 3 [GG c]]):=((ext.rfl' h).app _).app _;refine AQ @bxM @bxC ?_
  generalize h++[qF 2 [CZ m]]++[qF 3 [GG c]]=H at t hlt he0|-
  generalize (h++[qF 2 [CZ m]]).length=cb at t|-
  have t2:Two h (H++[qF 1 ((zD c.pts.length 0).map J5)]) m c cb:=t.app _;refine OQ @t.l1 @AY7 hl @t2.l1 ?_;rw[wrap_i64 (n:=(c.pts.length:Int)-1) U U];refine BB (fun n F H'=>∃j,n=j∧j<=c.pts.length∧F 3=.ptr h.length 0 0∧F 4=.ptr cb 0 0∧F 7=.own H.length 0 c.pts.length∧F 8=.n ((j:Int)-1)∧F 2=.n ((tupF ((szs m c.pts).drop j) K).2:Nat)∧Two h H' m c cb∧ext h H'∧H'[H.length]?=some (qF 1 (((zD c.pts.length 0).take j++(tupF ((szs m c.pts).drop j) K).1).map J5))) c.pts.length ⟨c.pts.length,rfl,jF _,AC,AC,AC,AC,by refine Z ?_; rw[jR U]; rfl,t2,he0.app _,?_⟩ ?_
  .rw[jR U,jJ A8]
   simp only[tupF,jO];exact AX _ _
  rintro n F H' ⟨j,rfl,hj,f3,f4,f7,f8,f2,t',he,ho⟩;refine AO f8 ?_
  cases n with
  | zero =>
    have:decide ((((0:Nat):Int)-1)≥0)=false:=by decide
    refine AQ @this f7 ?_;rw[qB,qA,zM] at ho;refine⟨he,.inr ⟨?_,H.length,hlt,by rw[O7,hsl],ho⟩⟩;intro e;have:=O7 (szs m c.pts) K;rw[e] at this; simp at this; omega
  | succ j =>
    have hd:decide ((((j+1:Nat):Int)-1)≥0)=true:=A8;have hj':j<c.pts.length:=U;have hjs:j<(szs m c.pts).length:=U;have hgt:(szs m c.pts)[j]=(IP m c.pts[j]).length:=GI (sC m c.pts j hj');have h1:=(hs _ (jH hjs)).1;rw[hgt] at h1;obtain⟨s,ls⟩:=hh.ld hj' H';have e1:(((j+1:Nat):Int)-1)=(j:Int):=U;have hst:=tup_step (K:=K) hjs;rw[hgt] at hst;have hle:=sB ((szs m c.pts).drop (j+1)) K;generalize hr:(tupF ((szs m c.pts).drop (j+1)) K)=r at ho f2 hst hle
    have hrow:∃v,(((zD c.pts.length 0).take (j+1)++r.1).map J5)[j]?=some [v]:=by
     refine⟨.n 0,?_⟩;rw[jX,qH MS,List.getElem?_take_of_lt U,List.getElem?_replicate_of_lt hj'];rfl
    have hset:=wZ (f:=J5) (pre:=zD c.pts.length 0) (out:=r.1) (j:=j) (x:=r.2%(IP m c.pts[j]).length) (by simpa using hj');have hlo:=AB ho;refine AO hd ?_;refine DJ AZ ?_;simp -implicitDefEqProofs only[vQ,LQ,IL,CJ,NW,↓reduceIte,jC,jP,enP,QM,KQ,KJ,ZN,JV,OA,jQ,f2,f3,f4,f7,f8,e1,t'.lm,t'.l1,CG hj',BP ag3 hj',encI0,hh.ix hj',ls,jL,IG ho hj',AF5 _ _ h1,AF6 _ _ h1 (U:r.2<=9223372036854775807),AL5 ho hrow,hset];refine⟨j,U,j,rfl,U,trivial,trivial,trivial,?_,?_,⟨DC t'.gm ?_,DC t'.gc ?_,?_⟩,he.set hlt _,?_⟩
    .rw[wrap_i64 U U]
    .rw[hst]
    .exact Nat.ne_of_lt (AB t.gm)
    .exact Nat.ne_of_lt (AB t.gc)
    .exact he.set hlt _
    .rw[hst]; exact CQ ho
 have hp:=KT ASS hgo
 have hne:(tupF (szs m c.pts) K).1≠[]:=by
  intro e;have:=O7 (szs m c.pts) K;rw[e] at this; simp at this; omega
 rw[AHH] at hp
 have hnm:nm (tupF (szs m c.pts) K).1=SM.any:=by
  cases hx:(tupF (szs m c.pts) K).1 with
  | nil=>exact absurd hx hne
  | cons a l=>rfl
 rw[hnm] at hp;exact hp
structure Cvr where
 pm:SM
 pts:List Is
 cm:SM
 crs:List Is
 sam:Int
 ill:Int
def encV (v:Cvr):List AV:=[.sl v.pm 1 (v.pts.map KL),.sl v.cm 1 (v.crs.map KL),.n v.sam,.n v.ill]
theorem encV0 (v:Cvr):(encV v)[0]?=some (.sl v.pm 1 (v.pts.map KL)):=rfl
theorem encV1 (v:Cvr):(encV v)[1]?=some (.sl v.cm 1 (v.crs.map KL)):=rfl
theorem encV2 (v:Cvr):(encV v)[2]?=some (.n v.sam):=rfl
theorem encV3 (v:Cvr):(encV v)[3]?=some (.n v.ill):=rfl
theorem encV_len (v:Cvr):(encV v).length=4:=rfl
theorem bxV (h:Hp)(v:Cvr):MP h (.agg (encV v))=some (.ptr h.length 0 0,h++[qF 4 [encV v]]):=rfl
theorem ldV {b:Nat}{v:Cvr}(hb:h[b]?=some (qF 4 [encV v])):BO jA h 46 (.ptr b 0 0)=some (.agg (encV v)):=by
 rw[EH A1Q AIH hb rfl (by rw[encV_len]; exact jF 4)]; rfl
def rowF (p:Nat->Bool):Nat->List Int->Bool
 | _,[]=>true
 | k,n::ns=>countB n (p k)&&rowF p (k+1) ns
theorem XX (p:Nat->Bool)(l:List Int)(k:Nat)(hk:k<l.length):rowF p k (l.drop k)=(countB l[k] (p k)&&rowF p (k+1) (l.drop (k+1))):=by
 rw[zS hk]; rfl
def OV {α:Type}(ok:α->Is->Bool):List α->List Is->Bool
 | [],[]=>true
 | a::ws,x::xs=>ok a x&&OV ok ws xs
 | _,_=>false
theorem XB {α:Type}{ok:α->Is->Bool}:∀ {ws:List α} {xs:List Is},OV ok ws xs=true->ws.length=xs.length
 | [],[],_=>rfl
 | a::ws,x::xs,h=>by
   simp only[OV,jT] at h;simp [XB h.2]
 | [],_::_,h=>by cases h
 | _::_,[],h=>by cases h
theorem YD {α:Type}(ok:α->Is->Bool)(ws:List α)(xs:List Is)(k:Nat)(ha:k<ws.length)(hx:k<xs.length):OV ok (ws.drop k) (xs.drop k)=(ok ws[k] xs[k]&&OV ok (ws.drop (k+1)) (xs.drop (k+1))):=by
 rw[zS ha,zS hx]; rfl
theorem bJ {α:Type}(ok:α->Is->Bool)(ws:List α)(xs:List Is)(k:Nat)(ha:ws.length<=k)(hx:xs.length<=k):OV ok (ws.drop k) (xs.drop k)=true:=by
 rw[jR ha,jR hx]; rfl
def kindOf (p:Pt)(k:Nat):Int:=match p.bins[k]? with
 | some b=>b.kind
 | none=>0
def okP (p:Pt)(x:Is):Bool:=(x.l.length==p.bins.length)&&rowF (fun k=>kindOf p k==0) 0 x.l
def okC (m:Mo)(c:Cr)(x:Is):Bool:=(x.l.length==GN (szs m c.pts))&&rowF (fun k=>SB m c (RF (szs m c.pts) k)) 0 x.l
structure CvOk (v:Cvr):Prop where
 pts:v.pts.length<=1048576
 crs:v.crs.length<=1048576
 eachP:∀x∈v.pts,x.l.length<=1048576
 eachC:∀x∈v.crs,x.l.length<=1048576
theorem AJ8 (m:Mo)(l:List Is)(s:SM)(h:Hp)(hm:MoOk m)(hl:∀x∈l,x.l.length<=1048576):PCall (En G) 119 [.agg (CZ m),.sl s 1 (l.map KL)] h (.bool (OV okP m.pts l)):=by
 refine ACalls.pure0 rfl ?_;have hm1:=hm.np;refine acT Tryz.func119 4 ?_;refine JZ @bxM eI @UD ?_;refine BG ?_ ?_<;>intro h1
 .refine Z ?_
  have:OV okP m.pts l=false:=by
   rw[<-wO]; intro e;have:=XB e;simp at h1; omega
  exact⟨by rw[this],_,rfl⟩
 have hlen:l.length=m.pts.length:=by simp at h1; omega
 refine J3 eI @UD ?_;refine BB (fun n F H=>∃i,n+i=m.pts.length∧F 1=.sl s 1 (l.map KL)∧F 16=.sl m.pm 6 (m.pts.map FP)∧F 17=.n m.pts.length∧F 18=.n (i:Nat)∧(∃x,H=h++x)∧OV okP m.pts l=OV okP (m.pts.drop i) (l.drop i)) m.pts.length ⟨0,A8,EX,EX,EX,EX,⟨_,rfl⟩,rfl⟩ ?_;rintro n F H ⟨i,hi,f1,f16,f17,f18,hx,hf⟩;refine AQ f17 f18 ?_;refine DU ?_ ?_<;>intro hi'
 .have hil:i<l.length:=U
  rw[YD okP m.pts l i hi' hil] at hf
  have hx1:∃x,H++[qF 6 [FP m.pts[i]]]=h++x:=by
   obtain⟨x,rfl⟩:=hx;exact⟨_,zC _ _ _⟩
  have hxl:=hl _ (jH hil);simp -implicitDefEqProofs only[vQ,CJ,↓reduceIte,jC,enP,QM,jQ,f16,f18,CG hi',CY gK ZC IC hi',AP3,AL7 _ _ [.str ⟨#[]⟩,.n 0,.n 0,.str ⟨#[]⟩,.sl .nil 0 [],.sl .nil 0 []] rfl];refine DJ AZ ?_;simp -implicitDefEqProofs only[vQ,IL,↓reduceIte,jC,jP,enP,VZ,VY,ZN,JV,f1,CG hil,BP MO hil,SK,D6 OB,NI,jL];refine BG ?_ ?_<;>intro h2
  .refine Z ?_
   have:okP m.pts[i] l[i]=false:=by
    have:(l[i].l.length==m.pts[i].bins.length)=false:=by
     rw[beq_eq_false_iff_ne]; intro e; simp [e] at h2
    unfold okP; rw[this]; rfl
   exact⟨by rw[hf,this]; rfl,hx1⟩
  have hbl:l[i].l.length=m.pts[i].bins.length:=by simp at h2; omega
  have hok:okP m.pts[i] l[i]=rowF (fun k=>kindOf m.pts[i] k==0) 0 l[i].l:=by
   unfold okP; rw[beq_iff_eq.2 hbl]; rfl
  simp -implicitDefEqProofs only[vQ,CJ,↓reduceIte,jC,enP,VZ,VY,f1,CG hil,BP MO hil,SK,jL];refine D9 2 (fun F' H'=>F' 1=.sl s 1 (l.map KL)∧F' 16=.sl m.pm 6 (m.pts.map FP)∧F' 17=.n m.pts.length∧F' 18=.n (i:Nat)∧H'=H++[qF 6 [FP m.pts[i]]]∧okP m.pts[i] l[i]=true) (fun F' H'=>F' 4=.bool false∧H'=H++[qF 6 [FP m.pts[i]]]∧okP m.pts[i] l[i]=false) ?_ ?_ ?_
  .refine BB (fun n F' H'=>∃k,n+k=l[i].l.length∧F' 1=.sl s 1 (l.map KL)∧F' 16=.sl m.pm 6 (m.pts.map FP)∧F' 17=.n m.pts.length∧F' 18=.n (i:Nat)∧F' 6=.ptr H.length 0 0∧F' 35=.sl l[i].m 1 (l[i].l.map qencI)∧F' 36=.n l[i].l.length∧F' 37=.n (k:Nat)∧H'=H++[qF 6 [FP m.pts[i]]]∧okP m.pts[i] l[i]=rowF (fun k=>kindOf m.pts[i] k==0) k (l[i].l.drop k)) l[i].l.length ⟨0,A8,TN f1,TN f16,TN f17,TN f18,EX,EX,EX,EX,rfl,hok⟩ ?_
   clear f1 f16 f17 f18;rintro n' F H' ⟨k,hk,f1,f16,f17,f18,f6,f35,f36,f37,rfl,hr⟩;refine AQ f36 f37 ?_;refine DU ?_ ?_<;>intro hk'
   .have hkb:k<m.pts[i].bins.length:=U
    have hkd:kindOf m.pts[i] k=(m.pts[i].bins[k]).kind:=by unfold kindOf; rw[jI hkb]
    rw[XX _ _ _ hk',hkd] at hr;simp -implicitDefEqProofs only[vQ,CJ,↓reduceIte,jC,enP,KJ,WU,JV,f6,f35,f37,CG hk',BP ag3 hk',encI0,D6 OB,NI,CG hkb,CY gJ ZB KE hkb];refine(fE G _ _).uu ?_;refine(VK G _ _ _).uu ?_;cases hcb:countB l[i].l[k] (m.pts[i].bins[k].kind==0)
    .refine Z ?_
     exact⟨trivial,trivial,by rw[hr,hcb]; rfl⟩
    .refine AQ f37 (CW k) ?_
     exact⟨n'-1,U,k+1,U,f1,f16,f17,f18,f6,f35,f36,rfl,trivial,by rw[hr,hcb]; rfl⟩
   .refine Z ?_
    exact⟨f1,f16,f17,f18,trivial,by rw[hr,jR U]; rfl⟩
  .rintro F' H' ⟨g1,g16,g17,g18,rfl,hr⟩
   refine AQ g18 (CW i) ?_;exact⟨n-1,U,i+1,U,g1,g16,g17,rfl,hx1,by rw[hf,hr]; rfl⟩
  .rintro F' H' ⟨g4,rfl,hr⟩
   refine AO g4 ?_;exact⟨by rw[hf,hr]; rfl,hx1⟩
 .refine Z ?_
  exact⟨by rw[hf,bJ okP _ _ i U U],hx⟩
def iE (G:Nat->AV):Prop:=∀(ns:List Nat) (s:SM) (K:Nat) (h:Hp),0<ns.length->ns.length<=4->(∀n∈ns,1<=n∧n<=64)->K<=1048576 ->
 PCall (En G) 212 [.sl s 1 (ns.map J5),.n (K:Int)] h (.sl .any 1 ((RF ns K).map qencI))
structure CrGood (m:Mo) (c:Cr):Prop where
 here:Here m c.pts
 two:2<=c.pts.length
 four:c.pts.length<=4
 prod:GN (szs m c.pts)<=256
 num:c.excl.length<=256
 excl:∀x∈c.excl,JP (szs m c.pts) x.l=true
theorem AKP {m:Mo}{c:Cr}(h:F8 m c=0):CrGood m c:=by
 unfold F8 at h;split at h
 .cases h
 .split at h
  .cases h
  .split at h
   .cases h
   .split at h
    .cases h
    .split at h
     .cases h
     .rename_i h1 h2 h3 h4 h5
      have h3':WX m.pts.length none c.pts=true:=BL h3;refine⟨YB h3',U,U,U,U,fun x hx=>?_⟩;rw[wO,qM] at h5;have:=h5 x hx;simpa using this
structure Good (m:Mo):Prop where
 num:m.pts.length+m.crs.length<=16
 full:Full m
 crs:∀c∈m.crs,CrGood m c
theorem RI {m:Mo}(h:FT m=0):Good m:=by
 unfold FT at h;split at h
 .cases h
 .split at h
  .rename_i h2; exact absurd h h2
  .split at h
   .cases h
   .split at h
    .rename_i h4; exact absurd h h4
    .rename_i h1 h2 h3 h4
     refine⟨U,full_of (BL h2),fun c hc=>AKP (W9 _ (BL h4) c hc)⟩
theorem AJ9 (hT:iE G)(m:Mo)(l:List Is)(s:SM)(h:Hp)(hm:MoOk m)(hg:Good m)(hl:∀x∈l,x.l.length<=1048576):PCall (En G) 120 [.agg (CZ m),.sl s 1 (l.map KL)] h (.bool (OV (okC m) m.crs l)):=by
 refine ACalls.pure0 rfl ?_;have hm1:=hm.nc;refine acT Tryz.func120 4 ?_;refine JZ @bxM gL @VT ?_;refine BG ?_ ?_<;>intro h1
 .refine Z ?_
  have:OV (okC m) m.crs l=false:=by
   rw[<-wO]; intro e;have:=XB e;simp at h1; omega
  exact⟨by rw[this],_,rfl⟩
 have hlen:l.length=m.crs.length:=by simp at h1; omega
 refine J3 gL @VT ?_;refine BB (fun n F H=>∃i,n+i=m.crs.length∧F 1=.sl s 1 (l.map KL)∧F 2=.ptr h.length 0 0∧F 17=.sl m.cm 3 (m.crs.map GG)∧F 18=.n m.crs.length∧F 19=.n (i:Nat)∧H[h.length]?=some (qF 2 [CZ m])∧(∃x,H=h++x)∧OV (okC m) m.crs l=OV (okC m) (m.crs.drop i) (l.drop i)) m.crs.length ⟨0,A8,AC,AC,AC,AC,AC,AX _ _,⟨_,rfl⟩,rfl⟩ ?_;rintro n F H ⟨i,hi,f1,f2,f17,f18,f19,gm,hx,hf⟩;refine AQ f18 f19 ?_;refine DU ?_ ?_<;>intro hi'
 .have hil:i<l.length:=U
  rw[YD (okC m) m.crs l i hi' hil] at hf;have hcg:=hg.crs _ (jH hi');have hfs:=hg.full.szs hcg.here;have hsl:=LJ m m.crs[i].pts
  have hx1:∃x,H++[qF 3 [GG m.crs[i]]]=h++x:=by
   obtain⟨x,rfl⟩:=hx;exact⟨_,zC _ _ _⟩
  have hxl:=hl _ (jH hil);have gm1:(H++[qF 3 [GG m.crs[i]]])[h.length]?=some (qF 2 [CZ m]):=AL gm;have gc1:=AX H (qF 3 [GG m.crs[i]]);have htwo:=hcg.two;have hfour:=hcg.four;have hpr:=hcg.prod;simp -implicitDefEqProofs only[vQ,CJ,↓reduceIte,jC,enP,WV,jQ,f2,f17,f19,CG hi',CY uT iL LY hi',AXV,AV0 _ _ [.str ⟨#[]⟩,.sl .nil 0 [],.sl .nil 0 []] rfl,ldM gm1,ldC gc1];refine(ZG G m _ _ hcg.here U).uu ?_;refine DJ AZ ?_;simp -implicitDefEqProofs only[vQ,IL,LP,KF,↓reduceIte,jC,jP,enP,VZ,VY,f1,CG hil,BP MO hil,SK,jL];refine⟨_,U9 G _ _ _ (fun n hn=>(hfs n hn).2) U,?_⟩
  try refine Z ?_
  refine BG ?_ ?_<;>intro h2
  .refine Z ?_
   have:okC m m.crs[i] l[i]=false:=by
    have:(l[i].l.length==GN (szs m m.crs[i].pts))=false:=by
     rw[beq_eq_false_iff_ne]; intro e; simp [e] at h2
    unfold okC; rw[this]; rfl
   exact⟨by rw[hf,this]; rfl,hx1⟩
  have hbl:l[i].l.length=GN (szs m m.crs[i].pts):=by simp at h2; omega
  have hok:okC m m.crs[i] l[i]=rowF (fun k=>SB m m.crs[i] (RF (szs m m.crs[i].pts) k)) 0 l[i].l:=by
   unfold okC; rw[beq_iff_eq.2 hbl]; rfl
  simp -implicitDefEqProofs only[vQ,CJ,↓reduceIte,jC,enP,VZ,VY,f1,CG hil,BP MO hil,SK,jL];refine D9 2 (fun F' H'=>F' 1=.sl s 1 (l.map KL)∧F' 2=.ptr h.length 0 0∧F' 17=.sl m.cm 3 (m.crs.map GG)∧F' 18=.n m.crs.length∧F' 19=.n (i:Nat)∧H'=H++[qF 3 [GG m.crs[i]]]∧okC m m.crs[i] l[i]=true) (fun F' H'=>F' 4=.bool false∧H'=H++[qF 3 [GG m.crs[i]]]∧okC m m.crs[i] l[i]=false) ?_ ?_ ?_
  .refine BB (fun n F' H'=>∃k,n+k=l[i].l.length∧F' 1=.sl s 1 (l.map KL)∧F' 2=.ptr h.length 0 0∧F' 17=.sl m.cm 3 (m.crs.map GG)∧F' 18=.n m.crs.length∧F' 19=.n (i:Nat)∧F' 6=.ptr H.length 0 0∧F' 7=.sl (nm (szs m m.crs[i].pts)) 1 ((szs m m.crs[i].pts).map J5)∧F' 38=.sl l[i].m 1 (l[i].l.map qencI)∧F' 39=.n l[i].l.length∧F' 40=.n (k:Nat)∧H'=H++[qF 3 [GG m.crs[i]]]∧okC m m.crs[i] l[i]=rowF (fun k=>SB m m.crs[i] (RF (szs m m.crs[i].pts) k)) k (l[i].l.drop k)) l[i].l.length ⟨0,A8,DW f1,DW f2,DW f17,DW f18,DW f19,AC,AC,AC,AC,AC,rfl,hok⟩ ?_
   clear f1 f2 f17 f18 f19;rintro n' F H' ⟨k,hk,f1,f2,f17,f18,f19,f6,f7,f38,f39,f40,rfl,hr⟩;refine AQ f39 f40 ?_;refine DU ?_ ?_<;>intro hk'
   .rw[XX _ _ _ hk'] at hr
    simp -implicitDefEqProofs only[vQ,CJ,↓reduceIte,jC,enP,KJ,f38,f40,CG hk',BP ag3 hk',encI0];refine DJ AZ ?_;refine JL f2 f6 f7 (ldM gm1) (ldC gc1) ?_;refine⟨_,hT _ _ k _ U U hfs U,?_⟩
    try refine Z ?_
    refine⟨_,nP G m m.crs[i] _ _ _ hcg.here (aO _ _ fun n hn=>(hfs n hn).1) U (by have:=hcg.num; omega),?_⟩
    try refine Z ?_
    refine⟨_,VK G _ _ _,?_⟩
    try refine Z ?_
    cases hcb:countB l[i].l[k] (SB m m.crs[i] (RF (szs m m.crs[i].pts) k))
    .refine Z ?_
     exact⟨trivial,trivial,by rw[hr,hcb]; rfl⟩
    .refine AQ f40 (CW k) ?_
     exact⟨n'-1,U,k+1,U,f1,f2,f17,f18,f19,f6,f7,f38,f39,rfl,trivial,by rw[hr,hcb]; rfl⟩
   .refine Z ?_
    exact⟨f1,f2,f17,f18,f19,trivial,by rw[hr,jR U]; rfl⟩
  .rintro F' H' ⟨g1,g2,g17,g18,g19,rfl,hr⟩
   refine AQ g19 (CW i) ?_;exact⟨n-1,U,i+1,U,g1,g2,g17,g18,rfl,gm1,hx1,by rw[hf,hr]; rfl⟩
  .rintro F' H' ⟨g4,rfl,hr⟩
   refine AO g4 ?_;exact⟨by rw[hf,hr]; rfl,hx1⟩
 .refine Z ?_
  exact⟨by rw[hf,bJ (okC m) _ _ i U U],hx⟩
def KZ (m:Mo)(v:Cvr):Bool:=(FT m==0)&&OV okP m.pts v.pts&&OV (okC m) m.crs v.crs&&MC v.sam&&MC v.ill
theorem fF (n:Int):countB n true=MC n:=by unfold countB; simp
theorem AG5 (hG:GOk G)(m:Mo)(v:Cvr)(hm:MoOk m)(hv:CvOk v)(hC:Good m->∀h,PCall (En G) 120 [.agg (CZ m),.sl v.cm 1 (v.crs.map KL)] h (.bool (OV (okC m) m.crs v.crs)))(h:Hp):PCall (En G) 55 [.agg (CZ m),.agg (encV v)] h (.bool (KZ m v)):=by
 refine ACalls.pure0 rfl ?_;refine acT Tryz.func55 4 ?_;have gm:(h++[qF 2 [CZ m]]++[qF 4 [encV v]])[h.length]?=some (qF 2 [CZ m]):=AL (AX _ _);have gv:=AX (h++[qF 2 [CZ m]]) (qF 4 [encV v]);have hx:∃x,h++[qF 2 [CZ m]]++[qF 4 [encV v]]=h++x:=⟨_,zC _ _ _⟩;refine AQ @bxM @bxV ?_
 generalize h++[qF 2 [CZ m]]++[qF 4 [encV v]]=H at gm gv hx|-
 generalize (h++[qF 2 [CZ m]]).length=vb at gv|-
 have l0:BO jA H 25 (.ptr vb 0 0)=some (.sl v.pm 1 (v.pts.map KL)):=by rw[BH XN gv (row:=encV v) rfl,encV0]
 have l1:BO jA H 25 (.ptr vb 0 1)=some (.sl v.cm 1 (v.crs.map KL)):=by rw[BH XN gv (row:=encV v) rfl,encV1]
 have l2:BO jA H 3 (.ptr vb 0 2)=some (.n v.sam):=by rw[BH ag3 gv (row:=encV v) rfl,encV2]
 have l3:BO jA H 3 (.ptr vb 0 3)=some (.n v.ill):=by rw[BH ag3 gv (row:=encV v) rfl,encV3]
 refine AO (ldM gm) ?_;refine(PS G hG m hm _).uu ?_;cases h1:(FT m==0)
 .refine Z ?_
  exact⟨by unfold KZ; rw[h1]; rfl,hx⟩
 have hg:=RI (beq_iff_eq.1 h1);refine AQ (ldM gm) l0 ?_;refine(AJ8 G m v.pts v.pm _ hm hv.eachP).uu ?_;cases h2:OV okP m.pts v.pts
 .refine Z ?_
  exact⟨by unfold KZ; rw[h1,h2]; rfl,hx⟩
 refine AQ (ldM gm) l1 ?_;refine(hC hg _).uu ?_;cases h3:OV (okC m) m.crs v.crs
 .refine Z ?_
  exact⟨by unfold KZ; rw[h1,h2,h3]; rfl,hx⟩
 refine AQ @AON l2 ?_;refine(VK G _ _ _).use ?_;refine AO @fF ?_;cases h4:MC v.sam
 .refine Z ?_
  exact⟨by unfold KZ; rw[h1,h2,h3,h4]; rfl,hx⟩
 refine AQ @AOM l3 ?_;refine(VK G _ _ _).use ?_;refine AO @fF ?_;exact⟨by unfold KZ; rw[h1,h2,h3,h4]; rfl,hx⟩
theorem fits_prog (hG:GOk G)(hT:iE G)(m:Mo)(v:Cvr)(hm:MoOk m)(hv:CvOk v)(h:Hp):PCall (En G) 55 [.agg (CZ m),.agg (encV v)] h (.bool (KZ m v)) :=
 AG5 G hG m v hm hv (fun hg h=>AJ9 G hT m v.crs v.cm h hm hg hv.eachC) h
structure TwoV (h H:Hp) (m:Mo) (v:Cvr) (vb:Nat):Prop where
 gm:H[h.length]?=some (qF 2 [CZ m])
 gv:H[vb]?=some (qF 4 [encV v])
 hx:∃x,H=h++x
theorem TwoV.mk' (h:Hp)(m:Mo)(v:Cvr):TwoV h (h++[qF 2 [CZ m]]++[qF 4 [encV v]]) m v (h++[qF 2 [CZ m]]).length:=⟨AL (AX _ _),AX _ _,⟨_,zC _ _ _⟩⟩
section
variable {h H:Hp} {m:Mo} {v:Cvr} {vb:Nat} (t:TwoV h H m v vb)
include t
theorem TwoV.m0:BO jA H 28 (.ptr h.length 0 0)=some (.sl m.pm 6 (m.pts.map FP)):=by rw[BH eI t.gm (row:=CZ m) rfl,UD]
theorem TwoV.m1:BO jA H 29 (.ptr h.length 0 1)=some (.sl m.cm 3 (m.crs.map GG)):=by rw[BH gL t.gm (row:=CZ m) rfl,VT]
theorem TwoV.l0:BO jA H 25 (.ptr vb 0 0)=some (.sl v.pm 1 (v.pts.map KL)):=by rw[BH XN t.gv (row:=encV v) rfl,encV0]
theorem TwoV.l1:BO jA H 25 (.ptr vb 0 1)=some (.sl v.cm 1 (v.crs.map KL)):=by rw[BH XN t.gv (row:=encV v) rfl,encV1]
theorem TwoV.l2:BO jA H 3 (.ptr vb 0 2)=some (.n v.sam):=by rw[BH ag3 t.gv (row:=encV v) rfl,encV2]
theorem TwoV.l3:BO jA H 3 (.ptr vb 0 3)=some (.n v.ill):=by rw[BH ag3 t.gv (row:=encV v) rfl,encV3]
end
theorem lU (n:Int)(may:Bool):countB n may = !(!MC n||(decide (n>0) && !may)):=by
 unfold countB;cases hw:MC n
 .rfl
 .have h0:0<=n:=by
   unfold MC at hw; simp at hw; exact hw.1
  cases may
  .have:(n==0) = !decide (n>0):=by rw[wI]; simp; omega
   rw[this]; cases decide (n>0)<;>rfl
  .cases decide (n>0)<;>rfl
theorem AOH (m:Mo)(v:Cvr)(hm:MoOk m)(hv:CvOk v)(h:Hp):PCall (En G) 20 [.agg (CZ m),.agg (encV v)] h (.bool (KZ m v)):=by
 refine ACalls.pure0 rfl ?_;have hm1:=hm.np;have hm2:=hm.nc;refine acT Tryz.func20 4 ?_;have t:=TwoV.mk' h m v;refine AQ @bxM @bxV ?_
 generalize h++[qF 2 [CZ m]]++[qF 4 [encV v]]=H at t|-
 generalize (h++[qF 2 [CZ m]]).length=vb at t|-
 have hlp:m.pts.length≠v.pts.length->OV okP m.pts v.pts=false:=fun hne=>by
  rw[<-wO]; exact fun e=>hne (XB e)
 have hlc:m.crs.length≠v.crs.length->OV (okC m) m.crs v.crs=false:=fun hne=>by
  rw[<-wO]; exact fun e=>hne (XB e)
 refine AO (ldM t.gm) ?_;refine(AJN G m hm _).use ?_;simp -implicitDefEqProofs only[vQ,ED,CJ,↓reduceIte,enP,bne];cases h1:(FT m==0)
 .refine Z ?_
  exact⟨by unfold KZ; rw[h1]; rfl,t.hx⟩
 have hg:=RI (beq_iff_eq.1 h1);simp -implicitDefEqProofs only[vQ,ED,CJ,↓reduceIte,jC,qV,enP,ADS,ANE,KQ,XE,t.m0,t.l0,jL,bne];cases h2:((v.pts.length:Int)==(m.pts.length:Int))
 .refine Z ?_
  have:=hlp (by simp at h2; omega);exact⟨by unfold KZ; rw[this]; simp,t.hx⟩
 have h2':v.pts.length=m.pts.length:=by simp at h2; omega
 simp -implicitDefEqProofs only[vQ,ED,CJ,↓reduceIte,jC,qV,enP,ADS,ANC,OW,XD,t.m1,t.l1,jL,bne];cases h3:((v.crs.length:Int)==(m.crs.length:Int))
 .refine Z ?_
  have:=hlc (by simp at h3; omega);exact⟨by unfold KZ; rw[this]; simp,t.hx⟩
 have h3':v.crs.length=m.crs.length:=by simp at h3; omega
 refine AQ @AON @t.l2 ?_;refine(UY G _ _).uu ?_;cases h4:MC v.sam
 .refine Z ?_
  exact⟨by unfold KZ; rw[h4]; simp,t.hx⟩
 refine AQ @AOM @t.l3 ?_;refine(UY G _ _).uu ?_;cases h5:MC v.ill
 .refine Z ?_
  exact⟨by unfold KZ; rw[h5]; simp,t.hx⟩
 have hfb:KZ m v=(OV okP m.pts v.pts&&OV (okC m) m.crs v.crs):=by unfold KZ; rw[h1,h4,h5]; simp
 rw[hfb];refine Z ?_;refine D9 0 (fun F H'=>F 2=.ptr h.length 0 0∧F 3=.ptr vb 0 0∧H'=H∧OV okP m.pts v.pts=true) (fun F H'=>F 4=.bool false∧H'=H∧OV okP m.pts v.pts=false) ?_ ?_ ?_
 .refine BB (fun n F H'=>∃i,n+i=m.pts.length∧F 2=.ptr h.length 0 0∧F 3=.ptr vb 0 0∧F 5=.n (i:Nat)∧H'=H∧OV okP m.pts v.pts=OV okP (m.pts.drop i) (v.pts.drop i)) m.pts.length ⟨0,A8,AC,AC,AC,rfl,rfl⟩ ?_
  rintro n F H' ⟨i,hi,f2,f3,f5,rfl,hf⟩;refine DI f2 f5 @t.m0 ?_;refine DU ?_ ?_<;>intro hi'
  .have hil:i<v.pts.length:=U
   rw[YD okP m.pts v.pts i hi' hil] at hf;have hxl:=hv.eachP _ (jH hil);refine Z ?_;refine DJ AZ ?_;simp -implicitDefEqProofs only[vQ,IL,↓reduceIte,jC,jP,enP,VZ,QM,KQ,VY,XE,ZN,JV,f2,f3,f5,t.m0,t.l0,CG hil,CG hi',BP MO hil,SK,BP OB hi',NI,jL];refine BG ?_ ?_<;>intro h6
   .refine Z ?_
    have:okP m.pts[i] v.pts[i]=false:=by
     have:(v.pts[i].l.length==m.pts[i].bins.length)=false:=by
      rw[beq_eq_false_iff_ne]; intro e; simp [e] at h6
     unfold okP; rw[this]; rfl
    exact⟨trivial,trivial,by rw[hf,this]; rfl⟩
   have hbl:v.pts[i].l.length=m.pts[i].bins.length:=by simp at h6; omega
   have hok:okP m.pts[i] v.pts[i]=rowF (fun k=>kindOf m.pts[i] k==0) 0 v.pts[i].l:=by
    unfold okP; rw[beq_iff_eq.2 hbl]; rfl
   refine Z ?_;refine D9 2 (fun F' H=>F' 2=.ptr h.length 0 0∧F' 3=.ptr vb 0 0∧F' 5=.n (i:Nat)∧H=H'∧okP m.pts[i] v.pts[i]=true) (fun F' H=>F' 4=.bool false∧H=H'∧okP m.pts[i] v.pts[i]=false) ?_ ?_ ?_
   .refine BB (fun n F' H=>∃k,n+k=v.pts[i].l.length∧F' 2=.ptr h.length 0 0∧F' 3=.ptr vb 0 0∧F' 5=.n (i:Nat)∧F' 6=.n (k:Nat)∧H=H'∧okP m.pts[i] v.pts[i]=rowF (fun k=>kindOf m.pts[i] k==0) k (v.pts[i].l.drop k)) v.pts[i].l.length ⟨0,A8,DW f2,DW f3,DW f5,AC,rfl,hok⟩ ?_
    clear f2 f3 f5;rintro n' F H' ⟨k,hk,f2,f3,f5,f6,rfl,hr⟩;simp -implicitDefEqProofs only[vQ,CJ,↓reduceIte,jC,enP,VZ,VY,XE,f3,f5,f6,t.l0,CG hil,BP MO hil,SK,jL];refine DU ?_ ?_<;>intro hk'
    .have hkb:k<m.pts[i].bins.length:=U
     have hkd:kindOf m.pts[i] k=(m.pts[i].bins[k]).kind:=by unfold kindOf; rw[jI hkb]
     rw[XX _ _ _ hk',hkd,lU] at hr;simp -implicitDefEqProofs only[vQ,CJ,↓reduceIte,jC,enP,VZ,KJ,XE,f3,f5,f6,t.l0,CG hil,BP MO hil,SK,CG hk',BP ag3 hk',encI0];refine(UY G _ _).uu ?_;cases hw:MC v.pts[i].l[k]
     .refine Z ?_
      exact⟨trivial,trivial,by rw[hr,hw]; rfl⟩
     rw[hw] at hr;refine Z ?_;cases hp:decide (v.pts[i].l[k]>0)
     .refine AQ f6 (CW k) ?_
      exact⟨n'-1,U,k+1,U,f2,f3,f5,rfl,trivial,by rw[hr,hp]; rfl⟩
     rw[hp] at hr;simp -implicitDefEqProofs only[vQ,ED,RD,CJ,↓reduceIte,jC,enP,QM,KQ,WU,JV,VE,f2,f5,f6,t.m0,CG hi',BP OB hi',NI,CG hkb,BP ag3 hkb,SL,bne];cases hz:(m.pts[i].bins[k].kind==0)
     .refine Z ?_
      exact⟨trivial,trivial,by rw[hr,hz]; rfl⟩
     .refine AQ f6 (CW k) ?_
      exact⟨n'-1,U,k+1,U,f2,f3,f5,rfl,trivial,by rw[hr,hz]; rfl⟩
    .refine Z ?_
     exact⟨f2,f3,f5,trivial,by rw[hr,jR U]; rfl⟩
   .rintro F' H' ⟨g2,g3,g5,rfl,hr⟩
    refine AQ g5 (CW i) ?_;exact⟨n-1,U,i+1,U,g2,g3,rfl,trivial,by rw[hf,hr]; rfl⟩
   .rintro F' H' ⟨g4,rfl,hr⟩
    refine AO g4 ?_;exact⟨trivial,trivial,by rw[hf,hr]; rfl⟩
  .refine Z ?_
   exact⟨f2,f3,trivial,by rw[hf,bJ okP _ _ i U U]⟩
 .rintro F H' ⟨f2,f3,rfl,hfp⟩
  rw[hfp,wM];refine Z ?_;refine BB (fun n F H=>∃i,n+i=m.crs.length∧F 2=.ptr h.length 0 0∧F 3=.ptr vb 0 0∧F 8=.n (i:Nat)∧H=H'∧OV (okC m) m.crs v.crs=OV (okC m) (m.crs.drop i) (v.crs.drop i)) m.crs.length ⟨0,A8,DW f2,DW f3,AC,rfl,rfl⟩ ?_;clear f2 f3;rintro n F H' ⟨i,hi,f2,f3,f8,rfl,hf⟩;refine DI f2 f8 @t.m1 ?_;refine DU ?_ ?_<;>intro hi'
  .have hil:i<v.crs.length:=U
   rw[YD (okC m) m.crs v.crs i hi' hil] at hf;have hxl:=hv.eachC _ (jH hil);have hcg:=hg.crs _ (jH hi');have hfs:=hg.full.szs hcg.here;have htwo:=hcg.two;have hfour:=hcg.four;have hpr:=hcg.prod;have hnum:=hcg.num;have hmin:min (GN (szs m m.crs[i].pts):Int) 1000=(GN (szs m m.crs[i].pts):Int):=U;refine Z ?_;refine DJ AZ ?_;simp -implicitDefEqProofs only[vQ,IL,LP,KF,↓reduceIte,jC,jP,enP,VZ,WV,OW,VY,XD,f2,f3,f8,t.m1,t.l1,ldM t.gm,CG hil,CG hi',BP MO hil,SK,CY uT iL LY hi',jL];refine⟨_,qT G m m.crs[i] _ hcg.here hg.full U,?_⟩;rw[hmin]
   try refine Z ?_
   refine BG ?_ ?_<;>intro h6
   .refine Z ?_
    have:okC m m.crs[i] v.crs[i]=false:=by
     have:(v.crs[i].l.length==GN (szs m m.crs[i].pts))=false:=by
      rw[beq_eq_false_iff_ne]; intro e; simp [e] at h6
     unfold okC; rw[this]; rfl
    exact⟨by rw[hf,this]; rfl,t.hx⟩
   have hbl:v.crs[i].l.length=GN (szs m m.crs[i].pts):=by simp at h6; omega
   have hok:okC m m.crs[i] v.crs[i]=rowF (fun k=>SB m m.crs[i] (RF (szs m m.crs[i].pts) k)) 0 v.crs[i].l:=by
    unfold okC; rw[beq_iff_eq.2 hbl]; rfl
   refine Z ?_;refine D9 6 (fun F' H=>F' 2=.ptr h.length 0 0∧F' 3=.ptr vb 0 0∧F' 8=.n (i:Nat)∧H=H'∧okC m m.crs[i] v.crs[i]=true) (fun F' H=>F' 4=.bool false∧H=H'∧okC m m.crs[i] v.crs[i]=false) ?_ ?_ ?_
   .refine BB (fun n F' H=>∃k,n+k=v.crs[i].l.length∧F' 2=.ptr h.length 0 0∧F' 3=.ptr vb 0 0∧F' 8=.n (i:Nat)∧F' 9=.n (k:Nat)∧H=H'∧okC m m.crs[i] v.crs[i]=rowF (fun k=>SB m m.crs[i] (RF (szs m m.crs[i].pts) k)) k (v.crs[i].l.drop k)) v.crs[i].l.length ⟨0,A8,DW f2,DW f3,DW f8,AC,rfl,hok⟩ ?_
    clear f2 f3 f8;rintro n' F H' ⟨k,hk,f2,f3,f8,f9,rfl,hr⟩;simp -implicitDefEqProofs only[vQ,CJ,↓reduceIte,jC,enP,VZ,VY,XD,f3,f8,f9,t.l1,CG hil,BP MO hil,SK,jL];refine DU ?_ ?_<;>intro hk'
    .rw[XX _ _ _ hk',lU] at hr
     simp -implicitDefEqProofs only[vQ,CJ,↓reduceIte,jC,enP,VZ,KJ,XD,f3,f8,f9,t.l1,CG hil,BP MO hil,SK,CG hk',BP ag3 hk',encI0];refine DJ AZ ?_;refine Z ?_;refine⟨_,UY G _ _,?_⟩
     try refine Z ?_
     cases hw:MC v.crs[i].l[k]
     .refine Z ?_
      exact⟨trivial,trivial,by rw[hr,hw]; rfl⟩
     rw[hw] at hr;refine Z ?_;cases hp:decide (v.crs[i].l[k]>0)
     .refine AQ f9 (CW k) ?_
      exact⟨n'-1,U,k+1,U,f2,f3,f8,rfl,trivial,by rw[hr,hp]; rfl⟩
     rw[hp] at hr;simp -implicitDefEqProofs only[vQ,IM,KI,Y7,ALH,LP,KF,ED,rU,↓reduceIte,jC,jP,enP,WV,OW,f2,f8,f9,t.m1,ldM t.gm,CG hi',CY uT iL LY hi'];refine⟨_,AIE G m m.crs[i] k _ hcg.here hg.full U U U,?_⟩
     try refine Z ?_
     refine⟨_,AEI G m m.crs[i] _ _ _ hcg.here (aO _ _ fun n hn=>(hfs n hn).1) U U,?_⟩
     try refine Z ?_
     cases hz:SB m m.crs[i] (RF (szs m m.crs[i].pts) k)
     .refine Z ?_
      exact⟨trivial,trivial,by rw[hr,hz]; rfl⟩
     .refine AQ f9 (CW k) ?_
      exact⟨n'-1,U,k+1,U,f2,f3,f8,rfl,trivial,by rw[hr,hz]; rfl⟩
    .refine Z ?_
     exact⟨f2,f3,f8,trivial,by rw[hr,jR U]; rfl⟩
   .rintro F' H' ⟨g2,g3,g8,rfl,hr⟩
    refine AQ g8 (CW i) ?_;exact⟨n-1,U,i+1,U,g2,g3,rfl,trivial,by rw[hf,hr]; rfl⟩
   .rintro F' H' ⟨g4,rfl,hr⟩
    refine AO g4 ?_;exact⟨by rw[hf,hr]; rfl,t.hx⟩
  .refine Z ?_
   exact⟨by rw[hf,bJ (okC m) _ _ i U U],t.hx⟩
 .rintro F H' ⟨f4,rfl,hfp⟩
  refine AO f4 ?_;exact⟨by rw[hfp]; rfl,t.hx⟩
theorem ADY (G:Nat->AV)(xs:List Int)(m:SM)(fid:FuncId)(caps:List AV)(p:Int->Bool)(h:Hp)(hl:xs.length<=1099511627776)
  (hf:∀r,PCall (En G) fid (.n r::caps) h (.bool (p r))) :
  PCall (En G) 261 [.sl m 1 (xs.map qencI),.fn (.func fid) [] caps] h (.n (match xs.findIdx? p with|some i=>(i:Int)|none => -1)):=by
 refine acT Tryz.func261 4 ?_;refine Z ?_;refine BB (fun n F H=>∃k,n+k=xs.length∧F 0=.sl m 1 (xs.map qencI)∧F 1=.fn (.func fid) [] caps∧F 7=.n xs.length∧F 8=.n (k:Nat)∧H=h∧(xs.take k).all (fun r => !p r)=true) xs.length ⟨0,A8,rfl,rfl,rfl,rfl,rfl,rfl⟩ ?_;rintro n F H ⟨k,hk,f0,f1,f7,f8,rfl,hin⟩;refine EO f0 f1 f7 f8 ?_;refine DU ?_ ?_<;>intro hc'
 .simp -implicitDefEqProofs only[vQ,CJ,qA,zF,↓reduceIte,jC,enP,KJ,f0,f1,f7,f8,CG hc',BP ag3 hc',encI0]
  refine(hf _).uu ?_;refine BG ?_ ?_<;>intro hb
  .refine Z ?_
   refine⟨?_,trivial⟩
   rw[wS.2 ⟨hc',hb,fun j hj=>by
    rw[zJ] at hin;have:=hin xs[j] (by rw[List.mem_take_iff_getElem]; exact⟨j,U,rfl⟩)
    simpa using this⟩]
  .refine AQ f8 (CW k) ?_
   refine⟨n-1,U,k+1,U,f0,f1,f7,rfl,trivial,?_⟩;rw[jW hc',List.all_append,hin];simp only[List.all_cons,List.all_nil,hb]; rfl
 .refine Z ?_
  refine⟨?_,trivial⟩;rw[jJ U] at hin;rw[wU.2 (BL hin)]
theorem nV (G:Nat->AV)(xs:List Int)(m:SM)(fid:FuncId)(caps:List AV)(p:Int->Bool)(h:Hp)(hl:xs.length<=1099511627776)
  (hf:∀r,PCall (En G) fid (.n r::caps) h (.bool (p r))) :
  PCall (En G) 231 [.sl m 1 (xs.map qencI),.fn (.func fid) [] caps] h (.bool (xs.any p)):=by
 refine acT Tryz.func231 4 ?_;refine Z ?_;refine(ADY G xs m fid caps p h hl hf).uu ?_;refine⟨?_,trivial⟩
 cases hx:xs.findIdx? p with
 | some i =>
   obtain⟨h1,h2,_⟩:=wS.1 hx;have:xs.any p=true:=qK.2 ⟨xs[i],A8,h2⟩;simp [this]
 | none =>
   have:xs.any p=false:=by
    rw[wU] at hx;rw[qM]; intro x hx2; simp [hx x hx2]
   simp [this]
theorem ZP {b:Nat}{m:Mo}(hb:h[b]?=some (qF 2 [CZ m])):BO jA h 28 (.ptr b 0 0)=some (.sl m.pm 6 (m.pts.map FP)):=by rw[BH eI hb (row:=CZ m) rfl,UD]
theorem sW {b:Nat}{m:Mo}(hb:h[b]?=some (qF 2 [CZ m])):BO jA h 29 (.ptr b 0 1)=some (.sl m.cm 3 (m.crs.map GG)):=by rw[BH gL hb (row:=CZ m) rfl,VT]
theorem ADM (m:Mo)(b:Nat)(p:Int)(h:Hp)(hb:h[b]?=some (qF 2 [CZ m])):PCall (En G) 230 [.n p,.ptr b 0 0] h (.bool (decide (p<0)||decide (p≥(m.pts.length:Int)))):=by
 refine acT Tryz.func230 3 ?_;refine Z ?_;cases ha:decide (p<0)
 .refine AQ @wL (ZP hb) ?_
  exact⟨A8,trivial⟩
 .refine Z ?_
  exact⟨A8,trivial⟩
theorem AN5 {m:Mo}{l:List Int}(hh:Here m l):(l.any fun p=>decide (p<0)||decide (p≥(m.pts.length:Int)))=false:=by
 rw[qM];intro p hp;have:=hh p hp;simp; omega
theorem V9 (m:Mo)(i:Nat)(hi:i<m.crs.length)(hg:CrGood m m.crs[i])(h:Hp):PCall (En G) 145 [.agg (CZ m),.n (i:Int)] h (.bool true):=by
 refine ACalls.pure0 rfl ?_;have hfour:=hg.four;refine acT Tryz.func145 4 ?_;have d0:decide ((i:Int)<0)=false:=A8;have d1:decide ((i:Int)≥(m.crs.length:Int))=false:=by simp; omega
 simp -implicitDefEqProofs only[vQ,ED,CJ,TY,PO,LM,GK,↓reduceIte,jC,enP,WV,ANC,OW,OA,bxM,d0,D6 gL,VT,jL,d1,CG hi,BP MO hi,fB];refine(nV G m.crs[i].pts m.crs[i].pm 230 _ _ _ U fun r=>ADM G m _ r _ (AX _ _)).use ?_;refine AO (AN5 hg.here) ?_;exact⟨trivial,_,rfl⟩
theorem RJ (m:Mo)(i:Nat)(hi:i<m.crs.length)(hg:CrGood m m.crs[i])(h:Hp):PCall (En G) 146 [.agg (CZ m),.n (i:Int)] h (.sl .any 1 ((szs m m.crs[i].pts).map J5)):=by
 have hfour:=hg.four;have htwo:=hg.two;have hh:=hg.here
 have hp:PCall (En G) 146 [.agg (CZ m),.n (i:Int)] h (.sl (nm (szs m m.crs[i].pts)) 1 ((szs m m.crs[i].pts).map J5)):=by
  refine KT ASS ?_;refine acT Tryz.func146 4 ?_;simp -implicitDefEqProofs only[vQ,CJ,Z9,TY,GK,↓reduceIte,jC,enP,WV,OW,VY,OA,bxM,D6 gL,VT,CG hi,BP MO hi,fB,jL];refine BB (fun n F H=>∃k,n+k=m.crs[i].pts.length∧F 2=.ptr h.length 0 0∧F 13=.sl m.crs[i].pm 1 (m.crs[i].pts.map qencI)∧F 14=.n m.crs[i].pts.length∧F 15=.n (k:Nat)∧H[h.length]?=some (qF 2 [CZ m])∧ext h H∧(∀b,isB (F 5) b->h.length<b)∧outG 1 J5 h (szs m (m.crs[i].pts.take k)) (F 5) H) m.crs[i].pts.length ⟨0,A8,AC,AC,AC,AC,AX _ _,(ext.rfl' h).app _,fun b hb=>hb.elim,outG.nil _ _ _ _⟩ ?_;rintro n F H ⟨k,hk,f2,f13,f14,f15,hb,he,hlt,ho⟩;refine AQ f14 f15 ?_;refine DU ?_ ?_<;>intro hk'
  .obtain⟨s,ls⟩:=hh.ld hk' H
   have hzl:(szs m (m.crs[i].pts.take k)).length<8388608:=by unfold szs; simp; omega
   obtain⟨v',H',ha,ho',hkeep,he',hle,hb'⟩:=ho.append fP sz3 AH6 uN U hzl he (IP m m.crs[i].pts[k]).length;simp -implicitDefEqProofs only[vQ,LC,KD,CJ,GH,JX,↓reduceIte,jC,enP,QM,KQ,KJ,ZN,JV,f2,f13,f15,CG hk',BP ag3 hk',encI0,ZP hb,hh.ix hk',ls,jL,AER];refine JR (v:=v') (h:=H') (by rw[show [[AV.int .i64 ((IP m m.crs[i].pts[k]).length:Int)]]=[J5 (IP m m.crs[i].pts[k]).length] from rfl,ha]) ?_;refine AQ f15 (CW k) ?_;refine⟨n-1,U,k+1,U,f2,f13,f14,rfl,hkeep _ _ hb (fun e=>by have:=hlt _ e; omega),he',fun b hbb=>?_,?_⟩
   .have:=hb' b hbb; have:=AB hb; omega
   .rw[vK m m.crs[i].pts k hk']; exact ho'
  .rw[jJ U] at ho
   refine Z ?_;exact⟨he,ho⟩
 have hnm:nm (szs m m.crs[i].pts)=SM.any:=by
  have:=LJ m m.crs[i].pts
  cases hx:szs m m.crs[i].pts with
  | nil=>rw[hx] at this; simp at this; omega
  | cons a l=>rfl
 rw[hnm] at hp;exact hp
theorem eR (m:Mo)(i:Nat)(hi:i<m.crs.length)(hg:CrGood m m.crs[i])(hf:Full m)(h:Hp):PCall (En G) 125 [.agg (CZ m),.n (i:Int)] h (.n (GN (szs m m.crs[i].pts))):=by
 refine ACalls.pure0 rfl ?_;have hfour:=hg.four;have hs:=hf.szs hg.here;have hsl:=LJ m m.crs[i].pts;have hx:∃x,h++[qF 2 [CZ m]]=h++x:=⟨_,rfl⟩;refine acT Tryz.func125 4 ?_;refine AQ @bxM (ldM (AX h (qF 2 [CZ m]))) ?_;refine(V9 G m i hi hg _).use ?_;refine AO (ldM (AX h (qF 2 [CZ m]))) ?_;refine(RJ G m i hi hg _).uu ?_
 generalize szs m m.crs[i].pts=l at hs hsl|-
 have hp:∀k,GN (l.take k)<=16777216:=fun k=>by
  have:=xW (l.take k) 4 (fun n hn=>(hs n (List.mem_of_mem_take hn)).2) (by rw[jU]; omega);simpa using this
 refine BB (fun n F H=>∃k,n+k=l.length∧F 5=.n (GN (l.take k))∧F 14=.sl .any 1 (l.map J5)∧F 15=.n l.length∧F 16=.n (k:Nat)∧H=h++[qF 2 [CZ m]]) l.length ⟨0,A8,AC,AC,AC,AC,rfl⟩ ?_;rintro n F H ⟨k,hk,f5,f14,f15,f16,rfl⟩;refine AQ f15 f16 ?_;refine DU ?_ ?_<;>intro hk'
 .have h1:=hp (k+1)
  rw[RZ l k hk'] at h1
  have hw:IntKind.i64.wrap ((GN (l.take k):Int)*(l[k]:Int))=((GN (l.take (k+1)):Nat):Int):=by
   rw[RZ l k hk',<-Int.natCast_mul,OC U]
  refine NZ f5 f14 f16 hk' @lI hw (CW k) ?_;exact⟨n-1,U,k+1,U,rfl,trivial,f15,rfl,trivial⟩
 .rw[jJ U] at f5
  refine AO f5 ?_;exact⟨trivial,hx⟩
def tC:List Nat->List Int->Int->Int
 | n::ns,x::xs,z=>tC ns xs (IntKind.i64.wrap (IntKind.i64.wrap (z*(n:Int))+x))
 | _,_,z=>z
theorem AAE (ns:List Nat)(z:Int):tC ns [] z=z:=by cases ns<;>rfl
theorem zP:∀ {ns:List Nat} {l:List Int},JP ns l=true->∀(k:Nat) (hk:k<l.length) (hp:k<ns.length),0<=l[k]∧l[k]<(ns[k]:Int)
 | n::ns,b::bs,h,k,hk,hp=>by
   simp only[JP,jT,decide_eq_true_eq] at h
   cases k with
   | zero=>exact h.1
   | succ k=>exact zP (ns:=ns) h.2 k (BL hk) (BL hp)
 | [],b::bs,h,k,hk,hp=>by simp at hp
 | _,[],h,k,hk,hp=>by simp at hk
theorem tB (m:Mo)(i:Nat)(hi:i<m.crs.length)(hg:CrGood m m.crs[i])(l:List Int)(s:SM)(hin:JP (szs m m.crs[i].pts) l=true)(h:Hp):PCall (En G) 71 [.agg (CZ m),.n (i:Int),.sl s 1 (l.map qencI)] h (.tup [.n (tC (szs m m.crs[i].pts) l 0),.bool true]):=by
 have hfour:=hg.four;have hsl:=LJ m m.crs[i].pts;have hlen:=QN hin;refine ACalls.pure 2 (R:=fun v H=>v=.tup [.n (tC (szs m m.crs[i].pts) l 0),.bool true]∧∃x,H=h++x) ?_ (fun v h' ⟨e,x⟩=>⟨x,by subst e; rfl⟩);have hx:∃x,h++[qF 2 [CZ m]]=h++x:=⟨_,rfl⟩;refine acL Tryz.func71 [.tmp 6,.tmp 7] ?_;refine AQ @bxM (ldM (AX h (qF 2 [CZ m]))) ?_;refine(V9 G m i hi hg _).use ?_;refine AO (ldM (AX h (qF 2 [CZ m]))) ?_;refine(RJ G m i hi hg _).use ?_
 generalize szs m m.crs[i].pts=ns at hin hsl hlen|-
 have hne:((l.length:Int) != (ns.length:Int))=false:=by rw[hlen]; simp
 refine AO hne ?_;refine BB (fun n F H=>∃k,n+k=l.length∧F 8=.sl .any 1 (ns.map J5)∧(∃z,F 9=.n z∧tC ns l 0=tC (ns.drop k) (l.drop k) z)∧F 24=.sl s 1 (l.map qencI)∧F 25=.n l.length∧F 26=.n (k:Nat)∧H=h++[qF 2 [CZ m]]) l.length ⟨0,A8,AC,⟨0,rfl,rfl⟩,AC,AC,AC,rfl⟩ ?_;rintro n F H ⟨k,hk,f8,⟨z,f9,hz⟩,f24,f25,f26,rfl⟩;refine AQ f25 f26 ?_;refine DU ?_ ?_<;>intro hk'
 .have hkn:k<ns.length:=U
  obtain⟨h0,h1⟩:=zP hin k hk' hkn;have d0:decide (l[k]<0)=false:=by simp; omega
  have d1:decide (l[k]≥(ns[k]:Int))=false:=by simp; omega
  rw[zS hk',zS hkn] at hz;simp -implicitDefEqProofs only[vQ,ED,CJ,cA,LM,↓reduceIte,jC,enP,KJ,f8,f9,f24,f26,CG hk',BP ag3 hk',encI0,d0,CG hkn,BP ag3 hkn,lI,d1,CW k];exact⟨n-1,U,k+1,U,trivial,⟨_,rfl,hz⟩,trivial,f25,rfl,trivial⟩
 .rw[jR (U:l.length<=k),AAE] at hz
  refine AQ f9 hz ?_;exact⟨trivial,hx⟩
theorem A28 {rows ys:List (List AV)}{s:SM}(ho:H[o]?=some (qF 1 rows))(hr:rows.length=n)(hy:ys.length=n):rP jA H 32 (.own o 0 n) (.sl s 1 ys)=some (.n (n:Int),H.set o (qF 1 ys)):=by
 have hrs:rowsSet rows 0 ys=ys:=by
  unfold rowsSet;rw[qB,qA,jR U,jO]
 have h1:min (n:Int) (n:Int)=(n:Int):=U;unfold rP;simp only[fP,sz3,IE,ho];rw[if_pos ⟨trivial,.inl trivial,U⟩];simp [hy,hrs,jJ (Nat.le_of_eq hy)]
theorem AJD {f:FuncId}{args:List AV}{ys:List Nat}{b:Bool}(hc:ACalls E f args h fun v H=>ext h H∧∃o,h.length<=o∧v=.tup [.own o 0 ys.length,.bool b]∧H[o]?=some (qF 1 (ys.map J5)))(hX:E.nox=E:=by rfl):
  PCall E f args h (.tup [.sl .any 1 (ys.map J5),.bool b]):=by
 refine ACalls.pure 3 hc ?_ hX;rintro v H ⟨hex,o,ho1,rfl,ho⟩;refine⟨hex,?_⟩;show AV.tup [FI h.length H 2 (.own o 0 ys.length),FI h.length H 2 (.bool b)]=_;rw[frz_own ASS ho1 ho];rfl
theorem sA (m:Mo)(i:Nat)(hi:i<m.crs.length)(hg:CrGood m m.crs[i])(hf:Full m)(K:Nat)(hK:K<GN (szs m m.crs[i].pts))(h:Hp):PCall (En G) 126 [.agg (CZ m),.n (i:Int),.n (K:Int)] h (.tup [.sl .any 1 ((RF (szs m m.crs[i].pts) K).map qencI),.bool true]):=by
 have hprod:=hg.prod;have hs:=hf.szs hg.here;have hsl:=LJ m m.crs[i].pts;have hfour:=hg.four;show PCall (En G) 126 _ h (.tup [.sl .any 1 (((tupF (szs m m.crs[i].pts) K).1.map fun n:Nat=>(n:Int)).map qencI),.bool true]);rw[<-AHH];refine AJD ?_;rw[O7];refine acL Tryz.func126 [.tmp 6,.tmp 7] ?_;have d0:decide ((K:Int)<0)=false:=A8;refine DI @bxM d0 (ldM (AX h (qF 2 [CZ m]))) ?_;refine(eR G m i hi hg hf _).use ?_;have d1:decide ((K:Int)≥((GN (szs m m.crs[i].pts):Nat):Int))=false:=by simp; omega
 refine AQ d1 (ldM (AX h (qF 2 [CZ m]))) ?_;refine(RJ G m i hi hg _).use ?_;clear d1
 generalize szs m m.crs[i].pts=ns at hs hsl hK hprod|-
 have hlt:h.length<=(h++[qF 2 [CZ m]]).length:=A8;have he0:ext h (h++[qF 2 [CZ m]]):=(ext.rfl' h).app _
 generalize h++[qF 2 [CZ m]]=H at hlt he0|-
 have hcp:=A28 (s:=.any) (ys:=ns.map J5) (AX H (qF 1 ((zD ns.length 0).map J5))) (n:=ns.length) A8 A8;rw[gM] at hcp;refine DI @AVO (AY7 H ns.length U) hcp ?_;rw[wrap_i64 (n:=(ns.length:Int)-1) U U];refine BB (fun n F H'=>∃j,n=j∧j<=ns.length∧F 8=.sl .any 1 (ns.map J5)∧F 9=.own H.length 0 ns.length∧F 10=.n ((j:Int)-1)∧F 2=.n ((tupF (ns.drop j) K).2:Nat)∧ext h H'∧H'[H.length]?=some (qF 1 ((ns.take j++(tupF (ns.drop j) K).1).map J5))) ns.length ⟨ns.length,rfl,jF _,AC,AC,AC,by refine Z ?_; rw[jR (jF _)]; rfl,he0.app _,?_⟩ ?_
 .rw[jR (jF _),jJ (jF _)]
  simp only[tupF,jO];exact AX _ _
 rintro n F H' ⟨j,rfl,hj,f8,f9,f10,f2,he,ho⟩;refine AO f10 ?_
 cases n with
 | zero =>
   have:decide ((((0:Nat):Int)-1)≥0)=false:=by decide
   refine AQ @this f9 ?_;rw[qB,qA,zM] at ho;exact⟨he,H.length,hlt,rfl,ho⟩
 | succ j =>
   have hd:decide ((j:Int)≥0)=true:=A8;have hj':j<ns.length:=U;have h1:=(hs _ (jH hj')).1;have e1:(((j+1:Nat):Int)-1)=(j:Int):=U;have hst:=tup_step (K:=K) hj';have hle:=sB (ns.drop (j+1)) K;generalize hr:(tupF (ns.drop (j+1)) K)=r at ho f2 hst hle
   have hrow:∃v,((ns.take (j+1)++r.1).map J5)[j]?=some [v]:=by
    refine⟨.n ns[j],?_⟩;rw[jX,qH MS,List.getElem?_take_of_lt U,jI hj'];rfl
   have hset:=wZ (f:=J5) (pre:=ns) (out:=r.1) (j:=j) (x:=r.2%ns[j]) hj';simp -implicitDefEqProofs only[vQ,NK,CJ,NW,↓reduceIte,jC,enP,KJ,jQ,hd,f2,f8,f9,f10,e1,CG hj',BP ag3 hj',lI,IG ho hj',AF5 _ _ h1,AF6 _ _ h1 (U:r.2<=9223372036854775807),AL5 ho hrow,hset];refine⟨j,U,j,rfl,U,trivial,trivial,?_,?_,he.set hlt _,?_⟩
   .rw[wrap_i64 U U]
   .rw[hst]
   .rw[hst]; exact CQ ho
theorem AA0 (l:List Int)(s:SM)(b:Nat)(r:Is)(h:Hp)(hb:h[b]?=some (qF 1 [[.sl s 1 (l.map qencI)]]))(hl:l.length<=1099511627776):
  PCall (En G) 215 [.sl r.m 1 (r.l.map qencI),.ptr b 0 0] h (.bool (eqL r.l l)):=by
 refine acT Tryz.func215 3 ?_;refine AO (FZ MO hb) ?_;refine(lF G r.l l r.m s h hl).uu ?_;exact G8
theorem Y4 (m:Mo)(i:Nat)(hi:i<m.crs.length)(hg:CrGood m m.crs[i])(l:List Int)(s:SM)(hin:JP (szs m m.crs[i].pts) l=true)(h:Hp):PCall (En G) 127 [.agg (CZ m),.n (i:Int),.sl s 1 (l.map qencI)] h (.bool (!SB m m.crs[i] l)):=by
 refine ACalls.pure0 rfl ?_;have hh:=hg.here;have hfour:=hg.four;have hnum:=hg.num;have hlen:l.length=m.crs[i].pts.length:=by have:=QN hin; rw[LJ] at this; omega
 refine acT Tryz.func127 6 ?_;have gm:(h++[qF 2 [CZ m]]++[qF 1 [[.sl s 1 (l.map qencI)]]])[h.length]?=some (qF 2 [CZ m]):=AL (AX _ _);have gl:=AX (h++[qF 2 [CZ m]]) (qF 1 [[.sl s 1 (l.map qencI)]]);have hx:∃x,h++[qF 2 [CZ m]]++[qF 1 [[.sl s 1 (l.map qencI)]]]=h++x:=⟨_,zC _ _ _⟩;refine AQ @mA @bxM ?_
 generalize h++[qF 2 [CZ m]]++[qF 1 [[.sl s 1 (l.map qencI)]]]=H at gm gl hx|-
 generalize (h++[qF 2 [CZ m]]).length=lb at gl|-
 refine AQ (ldM gm) (FZ MO gl) ?_;refine(tB G m i hi hg l s hin _).use ?_;simp -implicitDefEqProofs only[vQ,List.getElem?_cons_zero,List.getElem?_cons_succ,CJ,rU,TW,bP,cQ,GK,↓reduceIte,jC,qV,enP,WV,OW,VY,OA,sW gm,CG hi,BP MO hi,fB,jL];have hkb:=WT m m.crs[i].pts l;refine D9 0 (fun F H'=>F 1=.n (i:Nat)∧F 3=.ptr h.length 0 0∧F 5=.ptr lb 0 0∧H'=H∧N9 m m.crs[i].pts l=true) (fun F H'=>F 6=.bool true∧H'=H∧N9 m m.crs[i].pts l=false) ?_ ?_ ?_
 .refine BB (fun n F H'=>∃k,n+k=l.length∧F 1=.n (i:Nat)∧F 3=.ptr h.length 0 0∧F 5=.ptr lb 0 0∧F 25=.sl m.crs[i].pm 1 (m.crs[i].pts.map qencI)∧F 26=.n m.crs[i].pts.length∧F 27=.n (k:Nat)∧H'=H∧N9 m m.crs[i].pts l=N9 m (m.crs[i].pts.drop k) (l.drop k)) l.length ⟨0,A8,EX,EX,EX,EX,EX,EX,rfl,rfl⟩ ?_
  rintro n F H' ⟨k,hk,f1,f3,f5,f25,f26,f27,rfl,hk0⟩;refine AQ f26 f27 ?_;refine DU (fun hkc=>?_) (fun hk'=>?_)
  .have hk':k<l.length:=U
   rw[hkb k hkc hk'] at hk0;obtain⟨h0,h1⟩:=X9 hin k hk' hkc;obtain⟨s2,ls⟩:=hh.ld hkc H';have hlt:l[k].toNat<(IP m m.crs[i].pts[k]).length:=U;simp -implicitDefEqProofs only[vQ,CJ,↓reduceIte,jC,enP,KJ,f25,f27,CG hkc,BP ag3 hkc,encI0];refine DJ AZ ?_;simp -implicitDefEqProofs only[vQ,↓reduceIte,jC,jP,enP,QM,KQ,KJ,WU,JV,VE,bne,f3,f5,f27,ZP gm,hh.ix hkc,ls,FZ MO gl,CG hk',BP ag3 hk',encI0,AES h0 h1,BP ag3 hlt,SL,mF h0 h1];cases hkd:(ZR m m.crs[i].pts[k] l[k]==0)
   .refine Z ?_
    exact⟨trivial,trivial,by rw[hk0,hkd]; rfl⟩
   .refine AQ f27 (CW k) ?_
    exact⟨n-1,U,k+1,U,f1,f3,f5,f25,f26,rfl,trivial,by rw[hk0,hkd]; rfl⟩
  .refine Z ?_
   exact⟨f1,f3,f5,trivial,by rw[hk0,jR (U:l.length<=k),ZQ]⟩
 .rintro F H' ⟨f1,f3,f5,rfl,hk⟩
  simp -implicitDefEqProofs only[vQ,Y5,CJ,PO,↓reduceIte,jC,enP,WV,OW,dJ,f1,f3,f5,sW gm,CG hi,BP XN hi,AA7];refine(SQ G m.crs[i].excl m.crs[i].xm 215 _ (fun x=>eqL x.l l) _ U fun r=>AA0 G l s _ r _ gl U).uu ?_;exact⟨by unfold SB; rw[hk]; simp,hx⟩
 .rintro F H' ⟨f6,rfl,hk⟩
  refine AO f6 ?_;exact⟨by unfold SB; rw[hk]; rfl,hx⟩
structure Gl where
 cross:Bool
 idx:Nat
 bm:SM
 bins:List Int
 at_:Nat
def JB (g:Gl):List AV:=[.bool g.cross,.n (g.idx:Int),.sl g.bm 1 (g.bins.map qencI),.n (g.at_:Int)]
def encH (g:Gl):List AV:=[.bool g.cross,.n (g.idx:Int),.sl g.bm 1 (g.bins.map qencI)]
theorem UE (g:Gl):(JB g).length=4:=rfl
theorem AZZ:Frz JB:=fun _ _ _ _=>⟨rfl,rfl⟩
theorem frzH:Frz encH:=fun _ _ _ _=>⟨rfl,rfl⟩
def mkP (i k:Nat):Gl:=⟨false,i,.full,[(k:Int)],k⟩
def mkC (m:Mo)(i k:Nat)(c:Cr):Gl:=⟨true,i,.any,RF (szs m c.pts) k,k⟩
def gPk (i:Nat)(p:Pt):Nat->List Gl
 | 0=>[]
 | k+1=>gPk i p k++(if(kindOf p k==0)=true then [mkP i k] else [])
def gP (m:Mo):Nat->List Gl
 | 0=>[]
 | i+1=>gP m i++(match m.pts[i]? with|some p=>gPk i p p.bins.length|none=>[])
def gCk (m:Mo)(i:Nat)(c:Cr):Nat->List Gl
 | 0=>[]
 | k+1=>gCk m i c k++(if SB m c (RF (szs m c.pts) k)=true then [mkC m i k c] else [])
def gC (m:Mo):Nat->List Gl
 | 0=>gP m m.pts.length
 | i+1=>gC m i++(match m.crs[i]? with|some c=>gCk m i c (GN (szs m c.pts))|none=>[])
def goals (m:Mo):List Gl:=gC m m.crs.length
theorem gV (i:Nat)(p:Pt):∀k,(gPk i p k).length<=k
 | 0=>jF _
 | k+1=>by
   have:=gV i p k;simp only[gPk,jS];split<;>simp<;>omega
theorem tI {m:Mo}(hf:Full m):∀i,(gP m i).length<=64*i
 | 0=>jF _
 | i+1=>by
   have h1:=tI hf i;simp only[gP,jS];split
   .rename_i p hp
    have h2:=gV i p p.bins.length;have h3:=(hf p (zU hp)).2;omega
   .simp; omega
theorem tK (m:Mo)(i:Nat)(c:Cr):∀k,(gCk m i c k).length<=k
 | 0=>jF _
 | k+1=>by
   have:=tK m i c k;simp only[gCk,jS];split<;>simp<;>omega
theorem tL {m:Mo}(hg:Good m):∀i,(gC m i).length<=64*m.pts.length+256*i
 | 0=>tI hg.full _
 | i+1=>by
   have h1:=tL hg i;simp only[gC,jS];split
   .rename_i c hc
    have h2:=tK m i c (GN (szs m c.pts));have h3:=(hg.crs c (zU hc)).prod;omega
   .simp; omega
theorem pL {m:Mo}(hg:Good m):(goals m).length<=8192:=by
 have h1:=tL hg m.crs.length;have h2:=hg.num;unfold goals; omega
theorem AVC (i:Int)(xs:List (List AV)):IR jA 34 [(1,.n i),(2,.sl .full 1 xs)]=some (.agg [.bool false,.n i,.sl .full 1 xs]):=AZ
theorem A07 (i:Int)(xs:List (List AV)):IR jA 34 [(0,.bool true),(1,.n i),(2,.sl .any 1 xs)]=some (.agg [.bool true,.n i,.sl .any 1 xs]):=AZ
theorem AVB (i k:Int)(xs:List (List AV)):IR jA 118 [(0,.agg [.bool false,.n i,.sl .full 1 xs]),(1,.n k)]=some (.agg [.bool false,.n i,.sl .full 1 xs,.n k]):=AZ
theorem A06 (i k:Int)(xs:List (List AV)):IR jA 118 [(0,.agg [.bool true,.n i,.sl .any 1 xs]),(1,.n k)]=some (.agg [.bool true,.n i,.sl .any 1 xs,.n k]):=AZ
theorem AXN (h:Hp)(g:Gl)(hf:(JB g).all AV.frozen=true):C9 jA false h 115 1 [(0,.agg (JB g))]=some (.sl .full 4 [JB g],h):=by
 have h1:Tryz.prog.underlying 115=some (.slice 118):=AFQ;unfold C9;simp only[h1,eP,AFE];have h2:aU 4 0 [(0,AV.agg (JB g))]=some [JB g]:=rfl;simp [h2,hf]
theorem AD2 (m:Mo)(hm:MoOk m)(hg:Good m)(h:Hp):PCall (En G) 61 [.agg (CZ m)] h (.sl (nm (goals m)) 4 ((goals m).map JB)):=by
 refine KT AZZ ?_;have hm1:=hm.np;have hm2:=hm.nc;have hnum:=hg.num;refine acT Tryz.func61 2 ?_;refine AQ @bxM (ZP (AX h (qF 2 [CZ m]))) ?_;refine D9 0 (fun F H=>F 1=.ptr h.length 0 0∧H[h.length]?=some (qF 2 [CZ m])∧ext h H∧(∀b,isB (F 3) b->h.length<b)∧outG 4 JB h (gC m 0) (F 3) H) (fun _ _=>False) ?_ ?_ (fun _ _ hh=>hh.elim)
 .refine BB (fun n F H=>∃i,n+i=m.pts.length∧F 1=.ptr h.length 0 0∧F 13=.sl m.pm 6 (m.pts.map FP)∧F 14=.n m.pts.length∧F 15=.n (i:Nat)∧H[h.length]?=some (qF 2 [CZ m])∧ext h H∧(∀b,isB (F 3) b->h.length<b)∧outG 4 JB h (gP m i) (F 3) H) m.pts.length ⟨0,A8,AC,AC,AC,AC,AX _ _,(ext.rfl' h).app _,fun b hb=>hb.elim,outG.nil _ _ _ _⟩ ?_
  rintro n F H ⟨i,hi,f1,f13,f14,f15,gm,he,hlt,ho⟩;refine AQ f14 f15 ?_;refine DU ?_ ?_<;>intro hi'
  .have hgp:gP m (i+1)=gP m i++gPk i m.pts[i] m.pts[i].bins.length:=by
    simp only[gP]; rw[jI hi']
   have h64:=(hg.full _ (jH hi')).2;have hpl:=tI hg.full i;simp -implicitDefEqProofs only[vQ,CJ,↓reduceIte,jC,enP,QM,ZN,JV,jQ,f13,f15,CG hi',CY gK ZC IC hi',AP3,AL7 _ _ [.str ⟨#[]⟩,.n 0,.n 0,.str ⟨#[]⟩,.sl .nil 0 [],.sl .nil 0 []] rfl,D6 OB,NI,jL];refine D9 2 (fun F' H'=>F' 1=.ptr h.length 0 0∧F' 13=.sl m.pm 6 (m.pts.map FP)∧F' 14=.n m.pts.length∧F' 15=.n (i:Nat)∧H'[h.length]?=some (qF 2 [CZ m])∧ext h H'∧(∀b,isB (F' 3) b->h.length<b)∧outG 4 JB h (gP m (i+1)) (F' 3) H') (fun _ _=>False) ?_ ?_ (fun _ _ hh=>hh.elim)
   .refine BB (fun n F' H'=>∃k,n+k=m.pts[i].bins.length∧F' 1=.ptr h.length 0 0∧F' 13=.sl m.pm 6 (m.pts.map FP)∧F' 14=.n m.pts.length∧F' 15=.n (i:Nat)∧F' 4=.n (i:Nat)∧F' 21=.sl m.pts[i].bm 4 (m.pts[i].bins.map H7)∧F' 22=.n m.pts[i].bins.length∧F' 23=.n (k:Nat)∧H'[h.length]?=some (qF 2 [CZ m])∧ext h H'∧(∀b,isB (F' 3) b->h.length<b)∧outG 4 JB h (gP m i++gPk i m.pts[i] k) (F' 3) H') m.pts[i].bins.length ⟨0,A8,DW f1,DW f13,DW f14,DW f15,AC,AC,AC,AC,AL gm,he.app _,hlt,by rw[show gPk i m.pts[i] 0=[] from rfl,jO]; exact ho.app _⟩ ?_
    clear f1 f13 f14 f15 gm he hlt ho;rintro n' F H ⟨k,hk,f1,f13,f14,f15,f4,f21,f22,f23,gm,he,hlt,ho⟩;refine AQ f22 f23 ?_;refine DU ?_ ?_<;>intro hk'
    .have hkd:kindOf m.pts[i] k=(m.pts[i].bins[k]).kind:=by unfold kindOf; rw[jI hk']
     have hkl:=gV i m.pts[i] k;have ho1:=ho.app [qF 4 [H7 m.pts[i].bins[k]]];have he1:ext h (H++[qF 4 [H7 m.pts[i].bins[k]]]):=he.app _;simp -implicitDefEqProofs only[vQ,CJ,JO,↓reduceIte,jC,enP,WU,VE,jQ,f21,f23,CG hk',CY gJ ZB KE hk',al79,st79 _ _ [.str ⟨#[]⟩,.n 0,.sl .nil 0 [],.sl .nil 0 []] rfl,D6 ag3,SL];cases hz:(m.pts[i].bins[k].kind==0)
     .have hgk:gPk i m.pts[i] (k+1)=gPk i m.pts[i] k:=by
       simp only[gPk]; rw[hkd,hz]; simp
      refine AQ f23 (CW k) ?_;refine⟨n'-1,U,k+1,U,f1,f13,f14,f15,f4,f21,f22,rfl,AL gm,he1,hlt,?_⟩;rw[hgk]; exact ho1
     .have hgk:gP m i++gPk i m.pts[i] (k+1)=(gP m i++gPk i m.pts[i] k)++[mkP i k]:=by
       simp only[gPk]; rw[hkd,hz,if_pos rfl,zC]
      obtain⟨v',H',ha,ho',hkeep,he',hle,hb'⟩:=ho1.append AFQ eP AFE APE U (by rw[jS]; omega) he1 (mkP i k);refine EO f4 AER @AVC @AVB ?_;rw[show [AV.bool false,AV.int .i64 ((i:Nat):Int),AV.sl .full 1 [[.n ((k:Nat):Int)]],AV.int .i64 ((k:Nat):Int)]=JB (mkP i k) from rfl];simp -implicitDefEqProofs only[vQ,CJ,JX,↓reduceIte,jC,enP,AXN _ _ (show(JB (mkP i k)).all AV.frozen=true from rfl)];refine JR (v:=v') (h:=H') ha ?_;refine AQ f23 (CW k) ?_;refine⟨n'-1,U,k+1,U,f1,f13,f14,f15,f4,f21,f22,rfl,hkeep _ _ (AL gm) (fun e=>by have:=hlt _ e; omega),he',fun b hbb=>?_,?_⟩
      .have h1:=hb' b hbb; have h2:=AB gm; rw[h1]; simp; omega
      .rw[hgk]; exact ho'
    .have hke:k=m.pts[i].bins.length:=U
     refine Z ?_;refine⟨f1,f13,f14,f15,gm,he,hlt,?_⟩;rw[hgp,<-hke]; exact ho
   .rintro F' H' ⟨g1,g13,g14,g15,gm',he',hlt',ho'⟩
    refine AQ g15 (CW i) ?_;exact⟨n-1,U,i+1,U,g1,g13,g14,rfl,gm',he',hlt',ho'⟩
  .have hie:i=m.pts.length:=U
   subst hie;refine Z ?_;exact⟨f1,gm,he,hlt,ho⟩
 .rintro F H ⟨f1,gm,he,hlt,ho⟩
  refine AQ f1 (sW gm) ?_;refine BB (fun n F H=>∃i,n+i=m.crs.length∧F 1=.ptr h.length 0 0∧F 44=.n m.crs.length∧F 45=.n (i:Nat)∧H[h.length]?=some (qF 2 [CZ m])∧ext h H∧(∀b,isB (F 3) b->h.length<b)∧outG 4 JB h (gC m i) (F 3) H) m.crs.length ⟨0,A8,DW f1,AC,AC,gm,he,hlt,ho⟩ ?_;clear f1 gm he hlt ho;rintro n F H ⟨i,hi,f1,f44,f45,gm,he,hlt,ho⟩;refine AQ f44 f45 ?_;refine DU ?_ ?_<;>intro hi'
  .have hcg:=hg.crs _ (jH hi')
   have hfs:=hg.full.szs hcg.here
   have hgc:gC m (i+1)=gC m i++gCk m i m.crs[i] (GN (szs m m.crs[i].pts)):=by
    simp only[gC]; rw[jI hi']
   have hpr:=hcg.prod;have hcl:=tL hg i;refine DI f1 f45 (ldM gm) ?_;refine(eR G m i hi' hcg hg.full _).uu ?_;refine D9 6 (fun F' H'=>F' 1=.ptr h.length 0 0∧F' 44=.n m.crs.length∧F' 45=.n (i:Nat)∧H'[h.length]?=some (qF 2 [CZ m])∧ext h H'∧(∀b,isB (F' 3) b->h.length<b)∧outG 4 JB h (gC m (i+1)) (F' 3) H') (fun _ _=>False) ?_ ?_ (fun _ _ hh=>hh.elim)
   .refine BB (fun n F' H'=>∃k,n+k=GN (szs m m.crs[i].pts)∧F' 1=.ptr h.length 0 0∧F' 44=.n m.crs.length∧F' 45=.n (i:Nat)∧F' 8=.n (i:Nat)∧F' 50=.n (GN (szs m m.crs[i].pts):Nat)∧F' 51=.n (k:Nat)∧H'[h.length]?=some (qF 2 [CZ m])∧ext h H'∧(∀b,isB (F' 3) b->h.length<b)∧outG 4 JB h (gC m i++gCk m i m.crs[i] k) (F' 3) H') (GN (szs m m.crs[i].pts)) ⟨0,A8,DW f1,DW f44,DW f45,AC,AC,AC,gm,he,hlt,by rw[show gCk m i m.crs[i] 0=[] from rfl,jO]; exact ho⟩ ?_
    clear f1 f44 f45 gm he hlt ho;rintro n' F H ⟨k,hk,f1,f44,f45,f8,f50,f51,gm,he,hlt,ho⟩;refine AQ f50 f51 ?_;refine DU ?_ ?_<;>intro hk'
    .have hkl:=tK m i m.crs[i] k
     refine EO f1 f8 f51 (ldM gm) ?_;refine(sA G m i hi' hcg hg.full k hk' _).use ?_;refine DI f1 f8 (ldM gm) ?_;refine(Y4 G m i hi' hcg _ _ (aO _ _ fun n hn=>(hfs n hn).1) _).uu ?_;cases hz:SB m m.crs[i] (RF (szs m m.crs[i].pts) k)
     .have hgk:gCk m i m.crs[i] (k+1)=gCk m i m.crs[i] k:=by
       simp only[gCk]; rw[hz]; simp
      refine AQ f51 (CW k) ?_;refine⟨n'-1,U,k+1,U,f1,f44,f45,f8,f50,rfl,gm,he,hlt,?_⟩;rw[hgk]; exact ho
     .have hgk:gC m i++gCk m i m.crs[i] (k+1)=(gC m i++gCk m i m.crs[i] k)++[mkC m i k m.crs[i]]:=by
       simp only[gCk]; rw[hz,if_pos rfl,zC]
      obtain⟨v',H',ha,ho',hkeep,he',hle,hb'⟩:=ho.append AFQ eP AFE APE U (by rw[jS]; omega) he (mkC m i k m.crs[i]);refine DI f8 @A07 @A06 ?_;rw[show [AV.bool true,AV.int .i64 ((i:Nat):Int),AV.sl .any 1 ((RF (szs m m.crs[i].pts) k).map qencI),AV.int .i64 ((k:Nat):Int)]=JB (mkC m i k m.crs[i]) from rfl];simp -implicitDefEqProofs only[vQ,CJ,JX,↓reduceIte,jC,enP,AXN _ _ (show(JB (mkC m i k m.crs[i])).all AV.frozen=true from rfl)];refine JR (v:=v') (h:=H') ha ?_;refine AQ f51 (CW k) ?_;refine⟨n'-1,U,k+1,U,f1,f44,f45,f8,f50,rfl,hkeep _ _ gm (fun e=>by have:=hlt _ e; omega),he',fun b hbb=>?_,?_⟩
      .have h1:=hb' b hbb; have h2:=AB gm; omega
      .rw[hgk]; exact ho'
    .have hke:k=GN (szs m m.crs[i].pts):=U
     refine Z ?_;refine⟨f1,f44,f45,gm,he,hlt,?_⟩;rw[hgc,<-hke]; exact ho
   .rintro F' H' ⟨g1,g44,g45,gm',he',hlt',ho'⟩
    refine AQ g45 (CW i) ?_;exact⟨n-1,U,i+1,U,g1,g44,rfl,gm',he',hlt',ho'⟩
  .have hie:i=m.crs.length:=U
   subst hie;refine Z ?_;exact⟨he,ho⟩
end Go.Proofs.YtiihpnicbekebaaGreatDoor.Cov
