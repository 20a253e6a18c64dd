/- Part 3 of the proof (Ft, Mr, Ms, B1, B2, B3, B4, B5, B6, E1, E2, E3, E4, E5, E6, E7, E8, E9, E10, M1, M2, L1, M4, M5, M6, M7, M9, M10, M11, M12, M13, M14, N1, N2, N4, N7, N8, A1, Q1, Q3, A2, R3, Q4, Q6, Q7, H1, H2, H3, X1, X3, X4, R9);no condition. -/
import Derived.Test.YtiihpnicbekebaaGreatDoorProg
import Derived.KernelRfl
import Derived.Laws.RangeAny
import Derived.Shelf.Strings.Cut
import Derived.Lib.IndexMore
import Derived.Test.YtiihpnicbekebaaGreatDoorCP2
set_option linter.unusedVariables false
set_option maxRecDepth 8000
set_option linter.unusedSimpArgs false
set_option maxHeartbeats 4000000
open Go.Proofs.YtiihpnicbekebaaGreatDoor.Sm.ABlk renaming live→yE
open Bool renaming and_eq_true→jM,eq_iff_iff→wL,false_eq_true→qR,false_or→wP,not_false→jE,not_true→qP,or_false→zO
open Go.Proofs.Tryz renaming prog→jA
open Int renaming reduceBEq→wE,toNat_natCast→qB
open List renaming all_cons→wF,all_eq_true→zL,all_nil→yC,any_eq_false→qO,any_eq_true→qL,append_assoc→zG,append_nil→jO,cons_append→zF,drop_eq_getElem_cons→qC,drop_eq_nil_of_le→zJ,drop_zero→zU,findIdx?_eq_none_iff→wR,findIdx?_eq_some_iff_getElem→wM,foldl_cons→qW,getElem?_append_left→qM,getElem?_cons_succ→wK,getElem?_cons_zero→wC,getElem?_eq_getElem→jI,getElem?_map→jW,getElem?_set→zQ,getElem_mem→jG,length_append→jX,length_cons→zT,length_map→jP,length_take→jZ,map_cons→jK,map_map→qQ,map_nil→jL,mem_append→zK,mem_cons_of_mem→yB,mem_cons→zN,mem_map→zH,mem_of_getElem?→zZ,nil_append→qH,replicate→jR,take_append_drop→yD,take_of_length_le→jJ,take_succ_eq_append_getElem→jU,take_zero→qI
open Nat renaming add_zero→zA,eq_zero_or_pos→yA,le_of_ble_eq_true→jB,le_refl→jF,le_trans→qJ,lt_or_ge→zB,mod_lt→wO,reduceAdd→jT,reduceEqDiff→jC,zero_add→jH
open Option renaming getD_none→jQ,getD_some→jD
namespace Go.Proofs.YtiihpnicbekebaaGreatDoor.Sm
variable {E:Env} {f:FuncId} {fn:Func} {c:Code} {h:Hp} (G:Nat->AV )

theorem sz3:szO jA 3=some 1:=AZ
theorem ag3:JP jA 3=some false:=AZ
theorem sz4:szO jA 4=some 1:=AZ
theorem ag4:JP jA 4=some false:=AZ
theorem sz9:szO jA 9=some 1:=AZ
theorem ag9:JP jA 9=some false:=AZ
theorem WZ:JP jA 22=some false:=AZ
theorem AMH:szO jA 23=some 1:=AZ
theorem LM:JP jA 23=some false:=AZ
theorem AU5:JP jA 24=some false:=AZ
theorem AV9:szO jA 25=some 1:=AZ
theorem UJ:JP jA 25=some false:=AZ
theorem cY:szO jA 27=some 5:=AZ
theorem lC:JP jA 27=some true:=AZ
theorem iD:JP jA 28=some false:=AZ
theorem sD:JP jA 29=some false:=AZ
theorem AQH:szO jA 31=some 2:=AZ
theorem A45:JP jA 31=some true:=AZ
theorem vP:szO jA 32=some 1:=AZ
theorem NF:JP jA 32=some false:=AZ
theorem mA:szO jA 34=some 3:=AZ
theorem A0B:JP jA 34=some true:=AZ
theorem A2L:szO jA 38=some 1:=AZ
theorem AU4:JP jA 38=some false:=AZ
theorem AGG:szO jA 46=some 4:=AZ
theorem A89:JP jA 46=some true:=AZ
theorem JE:szO jA 79=some 4:=AZ
theorem O6:JP jA 79=some true:=AZ
theorem QC:JP jA 80=some false:=AZ
theorem bA:szO jA 82=some 6:=AZ
theorem lB:JP jA 82=some true:=AZ
theorem A5R:szO jA 84=some 1:=AZ
theorem RZ:JP jA 84=some false:=AZ
theorem XO:JP jA 85=some false:=AZ
theorem aZ:szO jA 87=some 4:=AZ
theorem lA:JP jA 87=some true:=AZ
theorem AA5:szO jA 90=some 3:=AZ
theorem APN:JP jA 90=some true:=AZ
theorem AV8:szO jA 94=some 1:=AZ
theorem BBW:JP jA 94=some true:=AZ
theorem A03:szO jA 100=some 1:=AZ
theorem A18:JP jA 100=some false:=AZ
theorem sN:szO jA 118=some 4:=AZ
theorem A17:JP jA 118=some true:=AZ
theorem AL2:JP jA 120=some false:=AZ
theorem AQJ:szO jA 121=some 1:=AZ
theorem uX:JP jA 121=some false:=AZ
theorem iL:szO jA 131=some 4:=AZ
theorem AFT:JP jA 131=some true:=AZ
theorem A5U:szO jA 137=some 1:=AZ
theorem A16:JP jA 137=some false:=AZ
theorem iK:szO jA 140=some 2:=AZ
theorem AL1:JP jA 140=some true:=AZ
theorem A5T:szO jA 143=some 4:=AZ
theorem MF:szO jA 145=some 2:=AZ
theorem eQ:JP jA 145=some true:=AZ
theorem A5S:szO jA 150=some 1:=AZ
theorem A9F:JP jA 150=some false:=AZ
theorem AQI:szO jA 209=some 2:=AZ
theorem A9E:JP jA 209=some true:=AZ
theorem sz230:szO jA 230=some 1:=AZ
theorem ag230:JP jA 230=some false:=AZ
theorem A02:szO jA 233=some 1:=AZ
theorem A9D:JP jA 233=some true:=AZ
theorem A01:szO jA 235=some 2:=AZ
theorem A9C:JP jA 235=some true:=AZ
theorem AJH:szO jA 240=some 4:=AZ
theorem A15:JP jA 240=some true:=AZ
theorem A00:szO jA 277=some 1:=AZ
theorem A9B:JP jA 277=some true:=AZ
theorem A0Z:szO jA 316=some 2:=AZ
theorem A9A:JP jA 316=some true:=AZ
theorem ln9:∀s,JU jA 9 (.str s)=some (.int .i64 s.size):=AX0 (AZ:Tryz.prog.underlying 9=some .string)
theorem ZZ:∀h a i,EN jA h 22 a i=IM 4 h a i:=FN (AZ:Tryz.prog.underlying 22=some (.slice 131)) iL
theorem A6T:(∀m k xs,JU jA 22 (.sl m k xs)=some (.int .i64 xs.length))/\∀b off len,JU jA 22 (.own b off len)=some (.int .i64 len):=MM (AZ:Tryz.prog.underlying 22=some (.slice 131))
theorem A90:Tryz.prog.underlying 22=some (.slice 131):=AZ
theorem PZ:∀h a i,EN jA h 23 a i=IM 4 h a i:=FN (AZ:Tryz.prog.underlying 23=some (.slice 79)) JE
theorem AR3:(∀m k xs,JU jA 23 (.sl m k xs)=some (.int .i64 xs.length))/\∀b off len,JU jA 23 (.own b off len)=some (.int .i64 len):=MM (AZ:Tryz.prog.underlying 23=some (.slice 79))
theorem WB:Tryz.prog.underlying 23=some (.slice 79):=AZ
theorem eY:TA jA 79=some 4:=AZ
theorem eM:KI jA 79=some 56:=AZ
theorem AN6:∀h a i,EN jA h 24 a i=IM 2 h a i:=FN (AZ:Tryz.prog.underlying 24=some (.slice 140)) iK
theorem A6S:(∀m k xs,JU jA 24 (.sl m k xs)=some (.int .i64 xs.length))/\∀b off len,JU jA 24 (.own b off len)=some (.int .i64 len):=MM (AZ:Tryz.prog.underlying 24=some (.slice 140))
theorem A9Z:Tryz.prog.underlying 24=some (.slice 140):=AZ
theorem fQ:∀h a i,EN jA h 25 a i=IM 1 h a i:=FN (AZ:Tryz.prog.underlying 25=some (.slice 32)) vP
theorem AHA:(∀m k xs,JU jA 25 (.sl m k xs)=some (.int .i64 xs.length))/\∀b off len,JU jA 25 (.own b off len)=some (.int .i64 len):=MM (AZ:Tryz.prog.underlying 25=some (.slice 32))
theorem ud25:Tryz.prog.underlying 25=some (.slice 32):=AZ
theorem zs25:TA jA 32=some 1:=AZ
theorem by25:KI jA 32=some 24:=AZ
theorem oI:(∀b i j,BD jA 27 (.ptr b i j) 0=some (.ptr b i (j+0)))/\(∀k xs i j,BD jA 27 (.fptr k xs i j) 0=some (.fptr k xs i (j+0))):=FY (AZ:IW jA 27 0 0=true)
theorem bU:(∀b i j,BD jA 27 (.ptr b i j) 1=some (.ptr b i (j+1)))/\(∀k xs i j,BD jA 27 (.fptr k xs i j) 1=some (.fptr k xs i (j+1))):=FY (AZ:IW jA 27 1 1=true)
theorem oH:(∀b i j,BD jA 27 (.ptr b i j) 2=some (.ptr b i (j+2)))/\(∀k xs i j,BD jA 27 (.fptr k xs i j) 2=some (.fptr k xs i (j+2))):=FY (AZ:IW jA 27 2 2=true)
theorem ATI:(∀b i j,BD jA 27 (.ptr b i j) 3=some (.ptr b i (j+3)))/\(∀k xs i j,BD jA 27 (.fptr k xs i j) 3=some (.fptr k xs i (j+3))):=FY (AZ:IW jA 27 3 3=true)
theorem oG:(∀b i j,BD jA 27 (.ptr b i j) 4=some (.ptr b i (j+4)))/\(∀k xs i j,BD jA 27 (.fptr k xs i j) 4=some (.fptr k xs i (j+4))):=FY (AZ:IW jA 27 4 4=true)
theorem XL:∀h a i,EN jA h 28 a i=IM 6 h a i:=FN (AZ:Tryz.prog.underlying 28=some (.slice 82)) bA
theorem AR2:(∀m k xs,JU jA 28 (.sl m k xs)=some (.int .i64 xs.length))/\∀b off len,JU jA 28 (.own b off len)=some (.int .i64 len):=MM (AZ:Tryz.prog.underlying 28=some (.slice 82))
theorem fP:∀h a i,EN jA h 29 a i=IM 3 h a i:=FN (AZ:Tryz.prog.underlying 29=some (.slice 90)) AA5
theorem AXY:(∀m k xs,JU jA 29 (.sl m k xs)=some (.int .i64 xs.length))/\∀b off len,JU jA 29 (.own b off len)=some (.int .i64 len):=MM (AZ:Tryz.prog.underlying 29=some (.slice 90))
theorem P7:(∀b i j,BD jA 31 (.ptr b i j) 0=some (.ptr b i (j+0)))/\(∀k xs i j,BD jA 31 (.fptr k xs i j) 0=some (.fptr k xs i (j+0))):=FY (AZ:IW jA 31 0 0=true)
theorem U8:(∀b i j,BD jA 31 (.ptr b i j) 1=some (.ptr b i (j+1)))/\(∀k xs i j,BD jA 31 (.fptr k xs i j) 1=some (.fptr k xs i (j+1))):=FY (AZ:IW jA 31 1 1=true)
theorem LY:∀h a i,EN jA h 32 a i=IM 1 h a i:=FN (AZ:Tryz.prog.underlying 32=some (.slice 3)) sz3
theorem dO:(∀m k xs,JU jA 32 (.sl m k xs)=some (.int .i64 xs.length))/\∀b off len,JU jA 32 (.own b off len)=some (.int .i64 len):=MM (AZ:Tryz.prog.underlying 32=some (.slice 3))
theorem U4:Tryz.prog.underlying 32=some (.slice 3):=AZ
theorem aV:TA jA 3=some 1:=AZ
theorem YW:KI jA 3=some 8:=AZ
theorem ATH:(∀b i j,BD jA 34 (.ptr b i j) 0=some (.ptr b i (j+0)))/\(∀k xs i j,BD jA 34 (.fptr k xs i j) 0=some (.fptr k xs i (j+0))):=FY (AZ:IW jA 34 0 0=true)
theorem YR:(∀b i j,BD jA 34 (.ptr b i j) 1=some (.ptr b i (j+1)))/\(∀k xs i j,BD jA 34 (.fptr k xs i j) 1=some (.fptr k xs i (j+1))):=FY (AZ:IW jA 34 1 1=true)
theorem bT:(∀b i j,BD jA 34 (.ptr b i j) 2=some (.ptr b i (j+2)))/\(∀k xs i j,BD jA 34 (.fptr k xs i j) 2=some (.fptr k xs i (j+2))):=FY (AZ:IW jA 34 2 2=true)
theorem gB:(∀b i j,BD jA 46 (.ptr b i j) 0=some (.ptr b i (j+0)))/\(∀k xs i j,BD jA 46 (.fptr k xs i j) 0=some (.fptr k xs i (j+0))):=FY (AZ:IW jA 46 0 0=true)
theorem yG:(∀b i j,BD jA 46 (.ptr b i j) 1=some (.ptr b i (j+1)))/\(∀k xs i j,BD jA 46 (.fptr k xs i j) 1=some (.fptr k xs i (j+1))):=FY (AZ:IW jA 46 1 1=true)
theorem ATG:(∀b i j,BD jA 46 (.ptr b i j) 2=some (.ptr b i (j+2)))/\(∀k xs i j,BD jA 46 (.fptr k xs i j) 2=some (.fptr k xs i (j+2))):=FY (AZ:IW jA 46 2 2=true)
theorem ATF:(∀b i j,BD jA 46 (.ptr b i j) 3=some (.ptr b i (j+3)))/\(∀k xs i j,BD jA 46 (.fptr k xs i j) 3=some (.fptr k xs i (j+3))):=FY (AZ:IW jA 46 3 3=true)
theorem A4B:(∀b i j,BD jA 48 (.ptr b i j) 0=some (.ptr b i (j+0)))/\(∀k xs i j,BD jA 48 (.fptr k xs i j) 0=some (.fptr k xs i (j+0))):=FY (AZ:IW jA 48 0 0=true)
theorem A4A:(∀b i j,BD jA 48 (.ptr b i j) 1=some (.ptr b i (j+5)))/\(∀k xs i j,BD jA 48 (.fptr k xs i j) 1=some (.fptr k xs i (j+5))):=FY (AZ:IW jA 48 1 5=true)
theorem A39:(∀b i j,BD jA 48 (.ptr b i j) 2=some (.ptr b i (j+7)))/\(∀k xs i j,BD jA 48 (.fptr k xs i j) 2=some (.fptr k xs i (j+7))):=FY (AZ:IW jA 48 2 7=true)
theorem A63:∀h a i,EN jA h 49 a i=IM 3 h a i:=FN (AZ:Tryz.prog.underlying 49=some (.slice 34)) mA
theorem AR1:(∀m k xs,JU jA 49 (.sl m k xs)=some (.int .i64 xs.length))/\∀b off len,JU jA 49 (.own b off len)=some (.int .i64 len):=MM (AZ:Tryz.prog.underlying 49=some (.slice 34))
theorem AV6:Tryz.prog.underlying 49=some (.slice 34):=AZ
theorem AVU:TA jA 34=some 3:=AZ
theorem A4V:KI jA 34=some 40:=AZ
theorem BAS:∀h a i,EN jA h 73 a i=IM 1 h a i:=FN (AZ:Tryz.prog.underlying 73=some (.slice 137)) A5U
theorem BAN:(∀m k xs,JU jA 73 (.sl m k xs)=some (.int .i64 xs.length))/\∀b off len,JU jA 73 (.own b off len)=some (.int .i64 len):=MM (AZ:Tryz.prog.underlying 73=some (.slice 137))
theorem A5N:Tryz.prog.underlying 73=some (.slice 137):=AZ
theorem A5E:TA jA 137=some 1:=AZ
theorem BBA:KI jA 137=some 24:=AZ
theorem YQ:(∀b i j,BD jA 79 (.ptr b i j) 0=some (.ptr b i (j+0)))/\(∀k xs i j,BD jA 79 (.fptr k xs i j) 0=some (.fptr k xs i (j+0))):=FY (AZ:IW jA 79 0 0=true)
theorem yF:(∀b i j,BD jA 79 (.ptr b i j) 1=some (.ptr b i (j+1)))/\(∀k xs i j,BD jA 79 (.fptr k xs i j) 1=some (.fptr k xs i (j+1))):=FY (AZ:IW jA 79 1 1=true)
theorem oF:(∀b i j,BD jA 79 (.ptr b i j) 2=some (.ptr b i (j+2)))/\(∀k xs i j,BD jA 79 (.fptr k xs i j) 2=some (.fptr k xs i (j+2))):=FY (AZ:IW jA 79 2 2=true)
theorem bS:(∀b i j,BD jA 79 (.ptr b i j) 3=some (.ptr b i (j+3)))/\(∀k xs i j,BD jA 79 (.fptr k xs i j) 3=some (.fptr k xs i (j+3))):=FY (AZ:IW jA 79 3 3=true)
theorem fO:∀h a i,EN jA h 80 a i=IM 4 h a i:=FN (AZ:Tryz.prog.underlying 80=some (.slice 87)) aZ
theorem rO:(∀m k xs,JU jA 80 (.sl m k xs)=some (.int .i64 xs.length))/\∀b off len,JU jA 80 (.own b off len)=some (.int .i64 len):=MM (AZ:Tryz.prog.underlying 80=some (.slice 87))
theorem ATE:(∀b i j,BD jA 82 (.ptr b i j) 0=some (.ptr b i (j+0)))/\(∀k xs i j,BD jA 82 (.fptr k xs i j) 0=some (.fptr k xs i (j+0))):=FY (AZ:IW jA 82 0 0=true)
theorem oE:(∀b i j,BD jA 82 (.ptr b i j) 1=some (.ptr b i (j+1)))/\(∀k xs i j,BD jA 82 (.fptr k xs i j) 1=some (.fptr k xs i (j+1))):=FY (AZ:IW jA 82 1 1=true)
theorem OQ:(∀b i j,BD jA 82 (.ptr b i j) 2=some (.ptr b i (j+5)))/\(∀k xs i j,BD jA 82 (.fptr k xs i j) 2=some (.fptr k xs i (j+5))):=FY (AZ:IW jA 82 2 5=true)
theorem dT:∀h a i,EN jA h 84 a i=IM 2 h a i:=FN (AZ:Tryz.prog.underlying 84=some (.slice 145)) MF
theorem xJ:(∀m k xs,JU jA 84 (.sl m k xs)=some (.int .i64 xs.length))/\∀b off len,JU jA 84 (.own b off len)=some (.int .i64 len):=MM (AZ:Tryz.prog.underlying 84=some (.slice 145))
theorem aY:Tryz.prog.underlying 84=some (.slice 145):=AZ
theorem APU:TA jA 145=some 2:=AZ
theorem AUB:KI jA 145=some 16:=AZ
theorem AHF:∀h a i,EN jA h 85 a i=IM 1 h a i:=FN (AZ:Tryz.prog.underlying 85=some (.slice 84)) A5R
theorem A3E:(∀m k xs,JU jA 85 (.sl m k xs)=some (.int .i64 xs.length))/\∀b off len,JU jA 85 (.own b off len)=some (.int .i64 len):=MM (AZ:Tryz.prog.underlying 85=some (.slice 84))
theorem ATD:(∀b i j,BD jA 87 (.ptr b i j) 0=some (.ptr b i (j+0)))/\(∀k xs i j,BD jA 87 (.fptr k xs i j) 0=some (.fptr k xs i (j+0))):=FY (AZ:IW jA 87 0 0=true)
theorem gA:(∀b i j,BD jA 87 (.ptr b i j) 1=some (.ptr b i (j+1)))/\(∀k xs i j,BD jA 87 (.fptr k xs i j) 1=some (.fptr k xs i (j+1))):=FY (AZ:IW jA 87 1 1=true)
theorem AHW:(∀b i j,BD jA 87 (.ptr b i j) 2=some (.ptr b i (j+2)))/\(∀k xs i j,BD jA 87 (.fptr k xs i j) 2=some (.fptr k xs i (j+2))):=FY (AZ:IW jA 87 2 2=true)
theorem AHV:(∀b i j,BD jA 87 (.ptr b i j) 3=some (.ptr b i (j+3)))/\(∀k xs i j,BD jA 87 (.fptr k xs i j) 3=some (.fptr k xs i (j+3))):=FY (AZ:IW jA 87 3 3=true)
theorem ATC:(∀b i j,BD jA 90 (.ptr b i j) 0=some (.ptr b i (j+0)))/\(∀k xs i j,BD jA 90 (.fptr k xs i j) 0=some (.fptr k xs i (j+0))):=FY (AZ:IW jA 90 0 0=true)
theorem U7:(∀b i j,BD jA 90 (.ptr b i j) 1=some (.ptr b i (j+1)))/\(∀k xs i j,BD jA 90 (.fptr k xs i j) 1=some (.fptr k xs i (j+1))):=FY (AZ:IW jA 90 1 1=true)
theorem xZ:(∀b i j,BD jA 90 (.ptr b i j) 2=some (.ptr b i (j+2)))/\(∀k xs i j,BD jA 90 (.fptr k xs i j) 2=some (.fptr k xs i (j+2))):=FY (AZ:IW jA 90 2 2=true)
theorem xY:(∀b i j,BD jA 94 (.ptr b i j) 0=some (.ptr b i (j+0)))/\(∀k xs i j,BD jA 94 (.fptr k xs i j) 0=some (.fptr k xs i (j+0))):=FY (AZ:IW jA 94 0 0=true)
theorem AKR:∀h a i,EN jA h 100 a i=IM 1 h a i:=FN (AZ:Tryz.prog.underlying 100=some (.slice 23)) AMH
theorem iQ:(∀m k xs,JU jA 100 (.sl m k xs)=some (.int .i64 xs.length))/\∀b off len,JU jA 100 (.own b off len)=some (.int .i64 len):=MM (AZ:Tryz.prog.underlying 100=some (.slice 23))
theorem AQC:Tryz.prog.underlying 100=some (.slice 23):=AZ
theorem A0T:TA jA 23=some 1:=AZ
theorem AUD:KI jA 23=some 24:=AZ
theorem A66:∀h a i,EN jA h 115 a i=IM 4 h a i:=FN (AZ:Tryz.prog.underlying 115=some (.slice 118)) sN
theorem A6W:(∀m k xs,JU jA 115 (.sl m k xs)=some (.int .i64 xs.length))/\∀b off len,JU jA 115 (.own b off len)=some (.int .i64 len):=MM (AZ:Tryz.prog.underlying 115=some (.slice 118))
theorem A0Y:Tryz.prog.underlying 115=some (.slice 118):=AZ
theorem A0S:TA jA 118=some 4:=AZ
theorem A77:KI jA 118=some 48:=AZ
theorem lL:(∀b i j,BD jA 118 (.ptr b i j) 0=some (.ptr b i (j+0)))/\(∀k xs i j,BD jA 118 (.fptr k xs i j) 0=some (.fptr k xs i (j+0))):=FY (AZ:IW jA 118 0 0=true)
theorem ALF:(∀b i j,BD jA 118 (.ptr b i j) 1=some (.ptr b i (j+3)))/\(∀k xs i j,BD jA 118 (.fptr k xs i j) 1=some (.fptr k xs i (j+3))):=FY (AZ:IW jA 118 1 3=true)
theorem ASJ:∀h a i,EN jA h 120 a i=IM 4 h a i:=FN (AZ:Tryz.prog.underlying 120=some (.slice 240)) AJH
theorem AC6:(∀m k xs,JU jA 120 (.sl m k xs)=some (.int .i64 xs.length))/\∀b off len,JU jA 120 (.own b off len)=some (.int .i64 len):=MM (AZ:Tryz.prog.underlying 120=some (.slice 240))
theorem aJ:∀h a i,EN jA h 121 a i=IM 1 h a i:=FN (AZ:Tryz.prog.underlying 121=some (.slice 9)) sz9
theorem A1A:(∀m k xs,JU jA 121 (.sl m k xs)=some (.int .i64 xs.length))/\∀b off len,JU jA 121 (.own b off len)=some (.int .i64 len):=MM (AZ:Tryz.prog.underlying 121=some (.slice 9))
theorem AQB:Tryz.prog.underlying 121=some (.slice 9):=AZ
theorem APV:TA jA 9=some 1:=AZ
theorem AUC:KI jA 9=some 16:=AZ
theorem ZN:(∀b i j,BD jA 131 (.ptr b i j) 0=some (.ptr b i (j+0)))/\(∀k xs i j,BD jA 131 (.fptr k xs i j) 0=some (.fptr k xs i (j+0))):=FY (AZ:IW jA 131 0 0=true)
theorem SS:(∀b i j,BD jA 131 (.ptr b i j) 1=some (.ptr b i (j+1)))/\(∀k xs i j,BD jA 131 (.fptr k xs i j) 1=some (.fptr k xs i (j+1))):=FY (AZ:IW jA 131 1 1=true)
theorem UW:(∀b i j,BD jA 131 (.ptr b i j) 2=some (.ptr b i (j+2)))/\(∀k xs i j,BD jA 131 (.fptr k xs i j) 2=some (.fptr k xs i (j+2))):=FY (AZ:IW jA 131 2 2=true)
theorem WU:(∀b i j,BD jA 131 (.ptr b i j) 3=some (.ptr b i (j+3)))/\(∀k xs i j,BD jA 131 (.fptr k xs i j) 3=some (.fptr k xs i (j+3))):=FY (AZ:IW jA 131 3 3=true)
theorem A1H:∀h a i,EN jA h 137 a i=IM 2 h a i:=FN (AZ:Tryz.prog.underlying 137=some (.slice 209)) AQI
theorem A6V:(∀m k xs,JU jA 137 (.sl m k xs)=some (.int .i64 xs.length))/\∀b off len,JU jA 137 (.own b off len)=some (.int .i64 len):=MM (AZ:Tryz.prog.underlying 137=some (.slice 209))
theorem A0X:Tryz.prog.underlying 137=some (.slice 209):=AZ
theorem A0R:TA jA 209=some 2:=AZ
theorem A1W:KI jA 209=some 24:=AZ
theorem yL:(∀b i j,BD jA 140 (.ptr b i j) 0=some (.ptr b i (j+0)))/\(∀k xs i j,BD jA 140 (.fptr k xs i j) 0=some (.fptr k xs i (j+0))):=FY (AZ:IW jA 140 0 0=true)
theorem yK:(∀b i j,BD jA 140 (.ptr b i j) 1=some (.ptr b i (j+1)))/\(∀k xs i j,BD jA 140 (.fptr k xs i j) 1=some (.fptr k xs i (j+1))):=FY (AZ:IW jA 140 1 1=true)
theorem ZM:(∀b i j,BD jA 145 (.ptr b i j) 0=some (.ptr b i (j+0)))/\(∀k xs i j,BD jA 145 (.fptr k xs i j) 0=some (.fptr k xs i (j+0))):=FY (AZ:IW jA 145 0 0=true)
theorem ZL:(∀b i j,BD jA 145 (.ptr b i j) 1=some (.ptr b i (j+1)))/\(∀k xs i j,BD jA 145 (.fptr k xs i j) 1=some (.fptr k xs i (j+1))):=FY (AZ:IW jA 145 1 1=true)
theorem A1G:∀h a i,EN jA h 159 a i=IM 1 h a i:=FN (AZ:Tryz.prog.underlying 159=some (.slice 100)) A03
theorem A09:(∀m k xs,JU jA 159 (.sl m k xs)=some (.int .i64 xs.length))/\∀b off len,JU jA 159 (.own b off len)=some (.int .i64 len):=MM (AZ:Tryz.prog.underlying 159=some (.slice 100))
theorem A5P:Tryz.prog.underlying 159=some (.slice 100):=AZ
theorem A5F:TA jA 100=some 1:=AZ
theorem A76:KI jA 100=some 24:=AZ
theorem AY4:(∀b i j,BD jA 209 (.ptr b i j) 0=some (.ptr b i (j+0)))/\(∀k xs i j,BD jA 209 (.fptr k xs i j) 0=some (.fptr k xs i (j+0))):=FY (AZ:IW jA 209 0 0=true)
theorem ALE:(∀b i j,BD jA 209 (.ptr b i j) 1=some (.ptr b i (j+1)))/\(∀k xs i j,BD jA 209 (.fptr k xs i j) 1=some (.fptr k xs i (j+1))):=FY (AZ:IW jA 209 1 1=true)
theorem A64:∀h a i,EN jA h 212 a i=IM 1 h a i:=FN (AZ:Tryz.prog.underlying 212=some (.slice 150)) A5S
theorem A6U:(∀m k xs,JU jA 212 (.sl m k xs)=some (.int .i64 xs.length))/\∀b off len,JU jA 212 (.own b off len)=some (.int .i64 len):=MM (AZ:Tryz.prog.underlying 212=some (.slice 150))
theorem ASI:∀h a i,EN jA h 221 a i=IM 1 h a i:=FN (AZ:Tryz.prog.underlying 221=some (.slice 4)) sz4
theorem A5O:Tryz.prog.underlying 221=some (.slice 4):=AZ
theorem A75:KI jA 4=some 1:=AZ
theorem ALD:(∀b i j,BD jA 233 (.ptr b i j) 0=some (.ptr b i (j+0)))/\(∀k xs i j,BD jA 233 (.fptr k xs i j) 0=some (.fptr k xs i (j+0))):=FY (AZ:IW jA 233 0 0=true)
theorem ALC:(∀b i j,BD jA 235 (.ptr b i j) 0=some (.ptr b i (j+0)))/\(∀k xs i j,BD jA 235 (.fptr k xs i j) 0=some (.fptr k xs i (j+0))):=FY (AZ:IW jA 235 0 0=true)
theorem ALB:(∀b i j,BD jA 235 (.ptr b i j) 1=some (.ptr b i (j+1)))/\(∀k xs i j,BD jA 235 (.fptr k xs i j) 1=some (.fptr k xs i (j+1))):=FY (AZ:IW jA 235 1 1=true)
theorem eC:(∀b i j,BD jA 240 (.ptr b i j) 0=some (.ptr b i (j+0)))/\(∀k xs i j,BD jA 240 (.fptr k xs i j) 0=some (.fptr k xs i (j+0))):=FY (AZ:IW jA 240 0 0=true)
theorem lK:(∀b i j,BD jA 240 (.ptr b i j) 1=some (.ptr b i (j+1)))/\(∀k xs i j,BD jA 240 (.fptr k xs i j) 1=some (.fptr k xs i (j+1))):=FY (AZ:IW jA 240 1 1=true)
theorem eB:(∀b i j,BD jA 240 (.ptr b i j) 2=some (.ptr b i (j+2)))/\(∀k xs i j,BD jA 240 (.fptr k xs i j) 2=some (.fptr k xs i (j+2))):=FY (AZ:IW jA 240 2 2=true)
theorem yJ:(∀b i j,BD jA 249 (.ptr b i j) 0=some (.ptr b i (j+0)))/\(∀k xs i j,BD jA 249 (.fptr k xs i j) 0=some (.fptr k xs i (j+0))):=FY (AZ:IW jA 249 0 0=true)
theorem AY3:(∀b i j,BD jA 249 (.ptr b i j) 1=some (.ptr b i (j+5)))/\(∀k xs i j,BD jA 249 (.fptr k xs i j) 1=some (.fptr k xs i (j+5))):=FY (AZ:IW jA 249 1 5=true)
theorem WT:(∀b i j,BD jA 249 (.ptr b i j) 2=some (.ptr b i (j+6)))/\(∀k xs i j,BD jA 249 (.fptr k xs i j) 2=some (.fptr k xs i (j+6))):=FY (AZ:IW jA 249 2 6=true)
theorem lJ:(∀b i j,BD jA 249 (.ptr b i j) 3=some (.ptr b i (j+7)))/\(∀k xs i j,BD jA 249 (.fptr k xs i j) 3=some (.fptr k xs i (j+7))):=FY (AZ:IW jA 249 3 7=true)
theorem AY2:(∀b i j,BD jA 249 (.ptr b i j) 4=some (.ptr b i (j+8)))/\(∀k xs i j,BD jA 249 (.fptr k xs i j) 4=some (.fptr k xs i (j+8))):=FY (AZ:IW jA 249 4 8=true)
theorem ALA:(∀b i j,BD jA 263 (.ptr b i j) 0=some (.ptr b i (j+0)))/\(∀k xs i j,BD jA 263 (.fptr k xs i j) 0=some (.fptr k xs i (j+0))):=FY (AZ:IW jA 263 0 0=true)
theorem yI:(∀b i j,BD jA 263 (.ptr b i j) 1=some (.ptr b i (j+1)))/\(∀k xs i j,BD jA 263 (.fptr k xs i j) 1=some (.fptr k xs i (j+1))):=FY (AZ:IW jA 263 1 1=true)
theorem eA:(∀b i j,BD jA 263 (.ptr b i j) 2=some (.ptr b i (j+2)))/\(∀k xs i j,BD jA 263 (.fptr k xs i j) 2=some (.fptr k xs i (j+2))):=FY (AZ:IW jA 263 2 2=true)
theorem AK9:(∀b i j,BD jA 263 (.ptr b i j) 3=some (.ptr b i (j+3)))/\(∀k xs i j,BD jA 263 (.fptr k xs i j) 3=some (.fptr k xs i (j+3))):=FY (AZ:IW jA 263 3 3=true)
theorem yH:(∀b i j,BD jA 263 (.ptr b i j) 4=some (.ptr b i (j+4)))/\(∀k xs i j,BD jA 263 (.fptr k xs i j) 4=some (.fptr k xs i (j+4))):=FY (AZ:IW jA 263 4 4=true)
theorem AY1:(∀b i j,BD jA 277 (.ptr b i j) 0=some (.ptr b i (j+0)))/\(∀k xs i j,BD jA 277 (.fptr k xs i j) 0=some (.fptr k xs i (j+0))):=FY (AZ:IW jA 277 0 0=true)
theorem AY0:(∀b i j,BD jA 316 (.ptr b i j) 0=some (.ptr b i (j+0)))/\(∀k xs i j,BD jA 316 (.fptr k xs i j) 0=some (.fptr k xs i (j+0))):=FY (AZ:IW jA 316 0 0=true)
theorem AK8:(∀b i j,BD jA 316 (.ptr b i j) 1=some (.ptr b i (j+1)))/\(∀k xs i j,BD jA 316 (.fptr k xs i j) 1=some (.fptr k xs i (j+1))):=FY (AZ:IW jA 316 1 1=true)
theorem A1U:∀n,Y0 jA 3 5 (.int .i64 n)=some (.int .u8 (IntKind.u8.wrap n)):=fun n=>eK (ds:=.int .i64) jA .i64 n AZ AZ
theorem AZE:∀n,Y0 jA 3 348 (.int .i64 n)=some (.int .u16 (IntKind.u16.wrap n)):=fun n=>eK (ds:=.int .i64) jA .i64 n AZ AZ
theorem AT4:∀n,Y0 jA 5 3 (.int .u8 n)=some (.int .i64 (IntKind.i64.wrap n)):=fun n=>eK (ds:=.int .u8) jA .u8 n AZ AZ
theorem AZF:∀n,Y0 jA 348 3 (.int .u16 n)=some (.int .i64 (IntKind.i64.wrap n)):=fun n=>eK (ds:=.int .u16) jA .u16 n AZ AZ
noncomputable def En (G:Nat->AV):Env:=⟨jA,G,none,fun _ _=>False⟩
theorem enP:(En G).P=jA:=rfl
theorem enX:(En G).nox=En G:=rfl
theorem enG:(En G).G=G:=rfl
theorem enM:(En G).P.follows .mixedOrders=true:=AZ

abbrev AV.n (z:Int):AV:=.int .i64 z
theorem Mr_L:type_of% (ai @AY (ai @jD.{0} (ai @BG (ai @BF (ai @jE (ai @BP (ai @BR (ai @BJ (ai @BH (ai @BU (ai @BN (ai @CJ (ai @BL (ai @AA (ai @enP (ai @CO (ai @BQ (ai @CQ (ai @CX (ai @DK (ai @EC (ai @CE (ai @D5 (ai @EZ (ai @ET (ai @MW (ai @DY (ai @CB (ai @jL.{0,0} (ai @jK.{0,0} (ai @jO.{0} (ai @EH (ai @CG (ai @DZ (ai @D8 (ai @EY (ai @DL (ai @BV (ai @LG (ai @GL (ai @jH (ai @BX (ai @JL (ai @EP (ai @IY (ai @KR (ai @AU (ai @L9 (ai @IC (ai @IL (ai @FD (ai @OW (ai @kD (ai @IJ (ai @UD (ai @YX (ai @zA (ai @fA (ai @JX (ai @sY (ai @KJ (ai @FP (ai @jQ.{0} (ai @DR (ai @enX (ai @CU (ai @MC (ai @G7 (ai @G9 (ai @J7 (ai @TB (ai @AB0 (ai @F9 (ai @DX (ai @FT (ai @zO (ai @rB (ai @JG (ai @XT (ai @I7 (ai @XE (ai @JH (ai @II (ai @qP (ai @WY (ai @JV (ai @EF (ai @J6 (ai @F6 (ai @qR (ai @QH (ai @LY (ai @A6R (ai @FC (ai @MO (ai @dO (ai @KT (ai @TN (ai @EW (ai @JW (ai @wC.{0} (ai @O8 (ai @wK.{0} (ai @oL (ai @OT (ai @AXX (ai @eX (ai @YQ (ai @NZ (ai @ND (ai @Q3 (ai @O9 (ai @NW (ai @P7 (ai @P9 (ai @XQ (ai @gZ (ai @LQ (ai @OQ (ai @bS (ai @U8 (ai @AR3 (ai @oF (ai @PZ (ai @xJ (ai @U7 (ai @fQ (ai @qH.{0} (ai @ZR (ai @LP (ai @VI (ai @QI (ai @XL (ai @oI (ai @QR (ai @AR2 (ai @P8 (ai @rO (ai @QJ (ai @fP (ai @KY (ai @ZZ (ai @ATR (ai @APR (ai @pX (ai @YR (ai @A6T (ai @SS (ai @dT (ai @UK (ai @AXY (ai @AKG (ai @eW (ai @fO (ai @AHA (ai @UB (ai @VC (ai @bT (ai @A3E (ai @gA (ai @ZL (ai @AHV (ai @lO (ai @UW (ai @AVM (ai @ZN (ai @ZM (ai @Q4 (ai @AHW (ai @yF (ai @yG (ai @AKR (ai @AI4 (ai @AI2 (ai @xF (ai @gB (ai @eC (ai @yK (ai @A1A (ai @AF4 (ai @xZ (ai @A0K (ai @AN6 (ai @iQ (ai @AVX (ai @ATH (ai @ln9 (ai @lK (ai @AHF (ai @V3 (ai @oE (ai @ATI (ai @cT (ai @AR1 (ai @aJ (ai @AGA (ai @A6S (ai @WU (ai @yL (@jP.{0,0})))))))))))))))))))))))))))))))))))))))))))))))))))))))))))))))))))))))))))))))))))))))))))))))))))))))))))))))))))))))))))))))))))))))))))))))))))))))))))))))))))))))))))))))))))))))))))))))))))))))):=And.intro @AY (ai @jD.{0} (ai @BG (ai @BF (ai @jE (ai @BP (ai @BR (ai @BJ (ai @BH (ai @BU (ai @BN (ai @CJ (ai @BL (ai @AA (ai @enP (ai @CO (ai @BQ (ai @CQ (ai @CX (ai @DK (ai @EC (ai @CE (ai @D5 (ai @EZ (ai @ET (ai @MW (ai @DY (ai @CB (ai @jL.{0,0} (ai @jK.{0,0} (ai @jO.{0} (ai @EH (ai @CG (ai @DZ (ai @D8 (ai @EY (ai @DL (ai @BV (ai @LG (ai @GL (ai @jH (ai @BX (ai @JL (ai @EP (ai @IY (ai @KR (ai @AU (ai @L9 (ai @IC (ai @IL (ai @FD (ai @OW (ai @kD (ai @IJ (ai @UD (ai @YX (ai @zA (ai @fA (ai @JX (ai @sY (ai @KJ (ai @FP (ai @jQ.{0} (ai @DR (ai @enX (ai @CU (ai @MC (ai @G7 (ai @G9 (ai @J7 (ai @TB (ai @AB0 (ai @F9 (ai @DX (ai @FT (ai @zO (ai @rB (ai @JG (ai @XT (ai @I7 (ai @XE (ai @JH (ai @II (ai @qP (ai @WY (ai @JV (ai @EF (ai @J6 (ai @F6 (ai @qR (ai @QH (ai @LY (ai @A6R (ai @FC (ai @MO (ai @dO (ai @KT (ai @TN (ai @EW (ai @JW (ai @wC.{0} (ai @O8 (ai @wK.{0} (ai @oL (ai @OT (ai @AXX (ai @eX (ai @YQ (ai @NZ (ai @ND (ai @Q3 (ai @O9 (ai @NW (ai @P7 (ai @P9 (ai @XQ (ai @gZ (ai @LQ (ai @OQ (ai @bS (ai @U8 (ai @AR3 (ai @oF (ai @PZ (ai @xJ (ai @U7 (ai @fQ (ai @qH.{0} (ai @ZR (ai @LP (ai @VI (ai @QI (ai @XL (ai @oI (ai @QR (ai @AR2 (ai @P8 (ai @rO (ai @QJ (ai @fP (ai @KY (ai @ZZ (ai @ATR (ai @APR (ai @pX (ai @YR (ai @A6T (ai @SS (ai @dT (ai @UK (ai @AXY (ai @AKG (ai @eW (ai @fO (ai @AHA (ai @UB (ai @VC (ai @bT (ai @A3E (ai @gA (ai @ZL (ai @AHV (ai @lO (ai @UW (ai @AVM (ai @ZN (ai @ZM (ai @Q4 (ai @AHW (ai @yF (ai @yG (ai @AKR (ai @AI4 (ai @AI2 (ai @xF (ai @gB (ai @eC (ai @yK (ai @A1A (ai @AF4 (ai @xZ (ai @A0K (ai @AN6 (ai @iQ (ai @AVX (ai @ATH (ai @ln9 (ai @lK (ai @AHF (ai @V3 (ai @oE (ai @ATI (ai @cT (ai @AR1 (ai @aJ (ai @AGA (ai @A6S (ai @WU (ai @yL (@jP.{0,0})))))))))))))))))))))))))))))))))))))))))))))))))))))))))))))))))))))))))))))))))))))))))))))))))))))))))))))))))))))))))))))))))))))))))))))))))))))))))))))))))))))))))))))))))))))))))))))))))))))))
theorem acN {args:List AV}{R:AV->Hp->Prop}(hf:E.P.funcs[f]?=some fn)(hb:fn.body=some c)(hw:awp E Hint.none c (OE args) h (L6 E.P fn.results.toList R))(h0:E.P.follows .mixedOrders=true:=by kernel_rfl)(h1:(fn.name == "runtime.NumGoroutine")=false:=by kernel_rfl)(h2:RN fn.ntmps c=true:=by kernel_rfl)(h3:Nat.ble args.length fn.ntmps=true:=by kernel_rfl):ACalls E f args h R:=IP h0 hf hb h1 h2 (Nat.le_of_ble_eq_true h3) hw
theorem acT {args:List AV}{R:AV->Hp->Prop}(hf:E.P.funcs[f]?=some fn)(r:Nat)(hw:awp E Hint.none c (OE args) h (L6 E.P [.tmp r] R))(hb:fn.body=some c:=by rfl)(hr:fn.results.toList=[.tmp r]:=by rfl)(h0:E.P.follows .mixedOrders=true:=by kernel_rfl)(h1:(fn.name == "runtime.NumGoroutine")=false:=by kernel_rfl)(h2:RN fn.ntmps c=true:=by kernel_rfl)(h3:Nat.ble args.length fn.ntmps=true:=by kernel_rfl):ACalls E f args h R:=acN hf hb (by rw[hr]; exact hw) h0 h1 h2 h3
theorem acL {args:List AV}{R:AV->Hp->Prop}(hf:E.P.funcs[f]?=some fn)(r:List ResultVar)(hw:awp E Hint.none c (OE args) h (L6 E.P r R))(hb:fn.body=some c:=by rfl)(hr:fn.results.toList=r:=by rfl)(h0:E.P.follows .mixedOrders=true:=by kernel_rfl)(h1:(fn.name == "runtime.NumGoroutine")=false:=by kernel_rfl)(h2:RN fn.ntmps c=true:=by kernel_rfl)(h3:Nat.ble args.length fn.ntmps=true:=by kernel_rfl):ACalls E f args h R:=acN hf hb (by rw[hr]; exact hw) h0 h1 h2 h3
end Go.Proofs.YtiihpnicbekebaaGreatDoor.Sm
namespace Go.Proofs.YtiihpnicbekebaaGreatDoor
open Sm
variable {a b c d p q:Prop}
theorem DC (i:Nat)(h:i<9223372036854775807:=by omega):Go.IntKind.i64.wrap ((i:Int)+1)=((i+1:Nat):Int):=Sm.wrap_succ h
theorem AB (hp:p)(h:p->q:=by intro z;simp only[Sm.Mr_L,CP,EM,List.contains_nil,FZ,List.contains_cons,List.cons_append,Option.map_some,Option.map_none,Bool.or_true,Bool.true_or,↓reduceIte,Nat.reduceEqDiff,Nat.reduceBEq,Nat.reduceAdd];exact z):q:=h hp
theorem AQ (h:q:=by simp only[Sm.Mr_L,CP,EM,List.contains_nil,FZ,List.contains_cons,List.cons_append,Option.map_some,Option.map_none,Bool.or_true,Bool.true_or,↓reduceIte,Nat.reduceEqDiff,Nat.reduceBEq,Nat.reduceAdd]<;>rfl):q:=h
theorem A7 (y:a)(hp:p)(h:a->p->q:=by intro y z;simp only[Sm.Mr_L,CP,EM,List.contains_nil,FZ,List.contains_cons,List.cons_append,Option.map_some,Option.map_none,Bool.or_true,Bool.true_or,↓reduceIte,Nat.reduceEqDiff,Nat.reduceBEq,Nat.reduceAdd,y];exact z):q:=h y hp
theorem EI (y:a)(h:a->q:=by intro y;simp only[Sm.Mr_L,CP,EM,List.contains_nil,FZ,List.contains_cons,List.cons_append,Option.map_some,Option.map_none,Bool.or_true,Bool.true_or,↓reduceIte,Nat.reduceEqDiff,Nat.reduceBEq,Nat.reduceAdd,y]<;>rfl):q:=h y
theorem BB (y:a)(x:b)(hp:p)(h:a->b->p->q:=by intro y x z;simp only[Sm.Mr_L,CP,EM,List.contains_nil,FZ,List.contains_cons,List.cons_append,Option.map_some,Option.map_none,Bool.or_true,Bool.true_or,↓reduceIte,Nat.reduceEqDiff,Nat.reduceBEq,Nat.reduceAdd,y,x];exact z):q:=h y x hp
theorem DW (y:a)(x:b)(w:c)(hp:p)(h:a->b->c->p->q:=by intro y x w z;simp only[Sm.Mr_L,CP,EM,List.contains_nil,FZ,List.contains_cons,List.cons_append,Option.map_some,Option.map_none,Bool.or_true,Bool.true_or,↓reduceIte,Nat.reduceEqDiff,Nat.reduceBEq,Nat.reduceAdd,y,x,w];exact z):q:=h y x w hp
theorem ES (y:a)(x:b)(w:c)(v:d)(hp:p)(h:a->b->c->d->p->q:=by intro y x w v z;simp only[Sm.Mr_L,CP,EM,List.contains_nil,FZ,List.contains_cons,List.cons_append,Option.map_some,Option.map_none,Bool.or_true,Bool.true_or,↓reduceIte,Nat.reduceEqDiff,Nat.reduceBEq,Nat.reduceAdd,y,x,w,v];exact z):q:=h y x w v hp
theorem JI {e:Prop}(y:a)(x:b)(w:c)(v:d)(u:e)(hp:p)(h:a->b->c->d->e->p->q:=by intro y x w v u z;simp only[Sm.Mr_L,CP,EM,List.contains_nil,FZ,List.contains_cons,List.cons_append,Option.map_some,Option.map_none,Bool.or_true,Bool.true_or,↓reduceIte,Nat.reduceEqDiff,Nat.reduceBEq,Nat.reduceAdd,y,x,w,v,u];exact z):q:=h y x w v u hp
theorem NY {e f:Prop}(y:a)(x:b)(w:c)(v:d)(u:e)(t:f)(hp:p)(h:a->b->c->d->e->f->p->q:=by intro y x w v u t z;simp only[Sm.Mr_L,CP,EM,List.contains_nil,FZ,List.contains_cons,List.cons_append,Option.map_some,Option.map_none,Bool.or_true,Bool.true_or,↓reduceIte,Nat.reduceEqDiff,Nat.reduceBEq,Nat.reduceAdd,y,x,w,v,u,t];exact z):q:=h y x w v u t hp
theorem Sm.ext.r1 (h:Hp)(x:ABlk):Sm.ext h (h++[x]):=(ext.rfl' h).app _
theorem Sm.PCall.uu {E:Env}{f:FuncId}{args:List AV}{h:Hp}{r:AV}{K:AV->Hp->Prop}(hc:PCall E f args h r)(hp:p)(hk:p->K r h:=by intro z;simp only[Sm.Mr_L,CP,EM,List.contains_nil,FZ,List.contains_cons,List.cons_append,Option.map_some,Option.map_none,Bool.or_true,Bool.true_or,↓reduceIte,Nat.reduceEqDiff,Nat.reduceBEq,Nat.reduceAdd];exact z):ACalls E f args h K:=hc.use (hk hp)
end Go.Proofs.YtiihpnicbekebaaGreatDoor
namespace Go.Proofs.YtiihpnicbekebaaGreatDoor
open Sm
variable {a a1 b b1 c c1 d e f p q:Prop}
theorem Y3 (hp:p)(h:p->q:=by intro z;simp only[Sm.Mr_L,CP,EM,List.contains_nil,FZ,List.contains_cons,List.cons_append,Option.map_some,Option.map_none,Bool.or_true,Bool.true_or,CZ,CW,D7,ag3,ag9,QC,RZ,XO,LM,List.length_nil,↓reduceIte,Nat.reduceEqDiff,Nat.reduceBEq,Nat.reduceAdd,Int.reduceBEq];exact z):q:=h hp
theorem aU (y:a)(hp:p)(h:a->p->q:=by intro y z;simp only[Sm.Mr_L,CP,EM,List.contains_nil,FZ,List.contains_cons,List.cons_append,Option.map_some,Option.map_none,Bool.or_true,Bool.true_or,CZ,CW,D7,ag3,ag9,QC,RZ,XO,LM,List.length_nil,↓reduceIte,Nat.reduceEqDiff,Nat.reduceBEq,Nat.reduceAdd,Int.reduceBEq,y];exact z):q:=h y hp
theorem O7 (y:a)(x:b)(hp:p)(h:a->b->p->q:=by intro y x z;simp only[Sm.Mr_L,CP,EM,List.contains_nil,FZ,List.contains_cons,List.cons_append,Option.map_some,Option.map_none,Bool.or_true,Bool.true_or,CZ,CW,D7,ag3,ag9,QC,RZ,XO,LM,List.length_nil,↓reduceIte,Nat.reduceEqDiff,Nat.reduceBEq,Nat.reduceAdd,Int.reduceBEq,y,x];exact z):q:=h y x hp
theorem MI (y:a)(x:b)(w:c)(hp:p)(h:a->b->c->p->q:=by intro y x w z;simp only[Sm.Mr_L,CP,EM,List.contains_nil,FZ,List.contains_cons,List.cons_append,Option.map_some,Option.map_none,Bool.or_true,Bool.true_or,CZ,CW,D7,ag3,ag9,QC,RZ,XO,LM,List.length_nil,↓reduceIte,Nat.reduceEqDiff,Nat.reduceBEq,Nat.reduceAdd,Int.reduceBEq,y,x,w];exact z):q:=h y x w hp
theorem QD (y:a)(x:b)(w:c)(v:d)(hp:p)(h:a->b->c->d->p->q:=by intro y x w v z;simp only[Sm.Mr_L,CP,EM,List.contains_nil,FZ,List.contains_cons,List.cons_append,Option.map_some,Option.map_none,Bool.or_true,Bool.true_or,CZ,CW,D7,ag3,ag9,QC,RZ,XO,LM,List.length_nil,↓reduceIte,Nat.reduceEqDiff,Nat.reduceBEq,Nat.reduceAdd,Int.reduceBEq,y,x,w,v];exact z):q:=h y x w v hp
theorem aT (y:a)(x:b)(w:c)(v:d)(u:e)(hp:p)(h:a->b->c->d->e->p->q:=by intro y x w v u z;simp only[Sm.Mr_L,CP,EM,List.contains_nil,FZ,List.contains_cons,List.cons_append,Option.map_some,Option.map_none,Bool.or_true,Bool.true_or,CZ,CW,D7,ag3,ag9,QC,RZ,XO,LM,List.length_nil,↓reduceIte,Nat.reduceEqDiff,Nat.reduceBEq,Nat.reduceAdd,Int.reduceBEq,y,x,w,v,u];exact z):q:=h y x w v u hp
theorem aS (y:a)(x:b)(w:c)(v:d)(u:e)(t:f)(hp:p)(h:a->b->c->d->e->f->p->q:=by intro y x w v u t z;simp only[Sm.Mr_L,CP,EM,List.contains_nil,FZ,List.contains_cons,List.cons_append,Option.map_some,Option.map_none,Bool.or_true,Bool.true_or,CZ,CW,D7,ag3,ag9,QC,RZ,XO,LM,List.length_nil,↓reduceIte,Nat.reduceEqDiff,Nat.reduceBEq,Nat.reduceAdd,Int.reduceBEq,y,x,w,v,u,t];exact z):q:=h y x w v u t hp
theorem NJ (y:a)(x:b)(w:c)(v:d)(u:e)(t:f)(s:a1)(hp:p)(h:a->b->c->d->e->f->a1->p->q:=by intro y x w v u t s z;simp only[Sm.Mr_L,CP,EM,List.contains_nil,FZ,List.contains_cons,List.cons_append,Option.map_some,Option.map_none,Bool.or_true,Bool.true_or,CZ,CW,D7,ag3,ag9,QC,RZ,XO,LM,List.length_nil,↓reduceIte,Nat.reduceEqDiff,Nat.reduceBEq,Nat.reduceAdd,Int.reduceBEq,y,x,w,v,u,t,s];exact z):q:=h y x w v u t s hp
theorem SE (y:a)(x:b)(w:c)(v:d)(u:e)(t:f)(s:a1)(r:b1)(hp:p)(h:a->b->c->d->e->f->a1->b1->p->q:=by intro y x w v u t s r z;simp only[Sm.Mr_L,CP,EM,List.contains_nil,FZ,List.contains_cons,List.cons_append,Option.map_some,Option.map_none,Bool.or_true,Bool.true_or,CZ,CW,D7,ag3,ag9,QC,RZ,XO,LM,List.length_nil,↓reduceIte,Nat.reduceEqDiff,Nat.reduceBEq,Nat.reduceAdd,Int.reduceBEq,y,x,w,v,u,t,s,r];exact z):q:=h y x w v u t s r hp
theorem Y2 (y:a)(x:b)(w:c)(v:d)(u:e)(t:f)(s:a1)(r:b1)(o:c1)(hp:p)(h:a->b->c->d->e->f->a1->b1->c1->p->q:=by intro y x w v u t s r o z;simp only[Sm.Mr_L,CP,EM,List.contains_nil,FZ,List.contains_cons,List.cons_append,Option.map_some,Option.map_none,Bool.or_true,Bool.true_or,CZ,CW,D7,ag3,ag9,QC,RZ,XO,LM,List.length_nil,↓reduceIte,Nat.reduceEqDiff,Nat.reduceBEq,Nat.reduceAdd,Int.reduceBEq,y,x,w,v,u,t,s,r,o];exact z):q:=h y x w v u t s r o hp
theorem cN {d1:Prop}(y:a)(x:b)(w:c)(v:d)(u:e)(t:f)(s:a1)(r:b1)(o:c1)(n:d1)(hp:p)(h:a->b->c->d->e->f->a1->b1->c1->d1->p->q:=by intro y x w v u t s r o n z;simp only[Sm.Mr_L,CP,EM,List.contains_nil,FZ,List.contains_cons,List.cons_append,Option.map_some,Option.map_none,Bool.or_true,Bool.true_or,CZ,CW,D7,ag3,ag9,QC,RZ,XO,LM,List.length_nil,↓reduceIte,Nat.reduceEqDiff,Nat.reduceBEq,Nat.reduceAdd,Int.reduceBEq,y,x,w,v,u,t,s,r,o,n];exact z):q:=h y x w v u t s r o n hp
theorem cM {d1 e1:Prop}(y:a)(x:b)(w:c)(v:d)(u:e)(t:f)(s:a1)(r:b1)(o:c1)(n:d1)(m:e1)(hp:p)(h:a->b->c->d->e->f->a1->b1->c1->d1->e1->p->q:=by intro y x w v u t s r o n m z;simp only[Sm.Mr_L,CP,EM,List.contains_nil,FZ,List.contains_cons,List.cons_append,Option.map_some,Option.map_none,Bool.or_true,Bool.true_or,CZ,CW,D7,ag3,ag9,QC,RZ,XO,LM,List.length_nil,↓reduceIte,Nat.reduceEqDiff,Nat.reduceBEq,Nat.reduceAdd,Int.reduceBEq,y,x,w,v,u,t,s,r,o,n,m];exact z):q:=h y x w v u t s r o n m hp
theorem ER (h:q:=by first|(simp only[Sm.Mr_L,CP,EM,List.contains_nil,FZ,List.contains_cons,List.cons_append,Option.map_some,Option.map_none,Bool.or_true,Bool.true_or,CZ,CW,D7,ag3,ag9,QC,RZ,XO,LM,List.length_nil,↓reduceIte,Nat.reduceEqDiff,Nat.reduceBEq,Nat.reduceAdd,Int.reduceBEq];done)|(simp only[Sm.Mr_L,CP,EM,List.contains_nil,FZ,List.contains_cons,List.cons_append,Option.map_some,Option.map_none,Bool.or_true,Bool.true_or,CZ,CW,D7,ag3,ag9,QC,RZ,XO,LM,List.length_nil,↓reduceIte,Nat.reduceEqDiff,Nat.reduceBEq,Nat.reduceAdd,Int.reduceBEq];rfl)):q:=h
theorem MB (y:a)(h:a->q:=by intro y;first|(simp only[Sm.Mr_L,CP,EM,List.contains_nil,FZ,List.contains_cons,List.cons_append,Option.map_some,Option.map_none,Bool.or_true,Bool.true_or,CZ,CW,D7,ag3,ag9,QC,RZ,XO,LM,List.length_nil,↓reduceIte,Nat.reduceEqDiff,Nat.reduceBEq,Nat.reduceAdd,Int.reduceBEq,y];done)|(simp only[Sm.Mr_L,CP,EM,List.contains_nil,FZ,List.contains_cons,List.cons_append,Option.map_some,Option.map_none,Bool.or_true,Bool.true_or,CZ,CW,D7,ag3,ag9,QC,RZ,XO,LM,List.length_nil,↓reduceIte,Nat.reduceEqDiff,Nat.reduceBEq,Nat.reduceAdd,Int.reduceBEq,y];rfl)):q:=h y
theorem D9 {E:Env}{H:Hint}{x y:Code}{F:Fr}{h:Hp}{Q:AEx->Fr->Hp->Prop}{a b:Nat}(h1:a<b->awp E H x F h Q)(h2:¬a<b->awp E H y F h Q):kC E H x y F h Q (.bool (decide (((a:Nat):Int)<((b:Nat):Int)))):=BO (fun h=>h1 (by simpa using h)) (fun h=>h2 (by simpa using h))
end Go.Proofs.YtiihpnicbekebaaGreatDoor
namespace Go.Proofs.YtiihpnicbekebaaGreatDoor.Bins
open Sm
structure Rng where
 lo:Int
 hi:Int
 deriving DecidableEq
def encR (r:Rng):List AV:=[.n r.lo,.n r.hi]
theorem YS (r:Rng):(encR r).length=2:=rfl
theorem aO (r:Rng):(encR r)[0]?=some (.n r.lo):=rfl
theorem YT (r:Rng):(encR r)[1]?=some (.n r.hi):=rfl
def inside (xs:List Rng)(v:Int):Bool:=xs.any fun r=>decide (r.lo<=v)&&decide (v<=r.hi)
theorem UE {α:Type}(p:α->Bool)(xs:List α)(k:Nat)(h:k<xs.length):(xs.drop k).any p=(p xs[k]||(xs.drop (k+1)).any p):=by
 rw[List.drop_eq_getElem_cons h,List.any_cons]
theorem bxR (h:Hp)(r:Rng):MP h (.agg (encR r))=some (.ptr h.length 0 0,h++[yE 2 [encR r]]):=rfl
end Go.Proofs.YtiihpnicbekebaaGreatDoor.Bins
namespace Go.Proofs.YtiihpnicbekebaaGreatDoor.Bins
open Sm
variable {xs:List Rng} {s:ByteArray} (G:Nat->AV )
def bad (r:Rng):Bool:=decide (r.lo<0)||decide (r.lo>r.hi)||decide (r.hi>65535)
def JF (xs:List Rng):Int:=if xs.length>64 then 2 else if xs.any bad then 1 else 0
theorem AB8 (h:xs.length>64):JF xs=2:=by simp [JF,h]
theorem AB9 (h:¬xs.length>64)(hb:xs.any bad=true):JF xs=1:=by simp [JF,h,hb]
theorem AGU (h:¬xs.length>64)(hb:xs.any bad=false):JF xs=0:=by simp [JF,h,hb]
theorem APM (h:Hp):GH jA h 145=some (.ptr h.length 0 0,h++[yE 2 [[.n 0,.n 0]]]):=FB (row:=[.n 0,.n 0]) AZ
theorem AMK (h:Hp)(r:Rng)(row:List AV)(hr:row.length=2):DU jA (h++[yE 2 [row]]) 145 (.ptr h.length 0 0) (.agg (encR r))=some (h++[yE 2 [encR r]]):=by
 rw[SX (cs:=encR r) rfl MF (by simp [hr,encR])];simp [splice,hr,encR]
theorem AB6 (xs:List Rng)(m:SM)(h:Hp)(hl:xs.length<=1099511627776):
  PCall (En G) 242 [.sl m 2 (xs.map encR)] h (.n (JF xs)):=by
 refine ACalls.pure0 rfl ?_;refine acT Tryz.func242 2 ?_;refine AB ?_;refine BO ?_ ?_<;>intro hc
 .refine AB ?_
  exact⟨by rw[AB8 (by simp at hc;omega)],[],BA⟩
 refine AB ?_;have h64:¬xs.length>64:=by simp at hc;omega
 refine BK (fun n F H=>∃k,n+k=xs.length/\F 8=.sl m 2 (xs.map encR)/\F 9=.n xs.length/\F 10=.n (k:Nat)/\(∃x,H=h++x)/\xs.any bad=(xs.drop k).any bad) xs.length ⟨0,BA,rfl,rfl,rfl,⟨[],BA⟩,rfl⟩ ?_;rintro n F H ⟨k,hk,f8,f9,f10,⟨x,rfl⟩,hin⟩;refine DW f8 f9 f10 ?_;refine D9 ?_ ?_<;>intro hc'
 .have hs:=UE bad xs k hc'
  simp only[vQ,EM,CP,↓reduceIte,jC,Nat.add_zero,enP,dT,ZM,Option.getD_none,f8,f9,f10,CZ hc',DJ eQ MF YS hc',APM,AMK _ _ [.n 0,.n 0] rfl,D7 ag3,aO,YT];rw[hs] at hin;have fin:bad xs[k]=true->JF xs=1:=fun hb=>AB9 h64 (by rw[hin,hb];rfl)
  have nxt:bad xs[k]=false->xs.any bad=(xs.drop (k+1)).any bad:=fun hb=>by rw[hin,hb];rfl
  refine IZ ?_ ?_<;>intro ha
  .refine A7 ha ?_
   exact⟨by rw[fin (by unfold bad;rw[ha];rfl)],_,by rw[zG]⟩
  refine MI ha @aO @YT ?_;refine IZ ?_ ?_<;>intro hb
  .refine A7 hb ?_
   exact⟨by rw[fin (by unfold bad;rw[hb];simp)],_,by rw[zG]⟩
  refine MI hb @aO @YT ?_;refine BO ?_ ?_<;>intro hc
  .refine AB ?_
   exact⟨by rw[fin (by unfold bad;rw[hc];simp)],_,by rw[zG]⟩
  .refine BB f10 (DC k) ?_
   exact⟨n-1,U,k+1,U,f8,f9,rfl,⟨_,by rw[zG]⟩,nxt (by unfold bad;rw[ha,hb,hc];rfl)⟩
 .refine AB ?_
  rw[zJ U] at hin;exact⟨by rw[AGU h64 hin],_,rfl⟩
structure Rs where
 m:SM
 l:List Rng
def ATT (r:Rs):AV:=.sl r.m 2 (r.l.map encR)
def encS (r:Rs):List AV:=[ATT r]
structure Bin where
 name:ByteArray
 kind:Int
 ranges:Rs
 sm:SM
 steps:List Rs
def GG (b:Bin):List AV:=[.str b.name,.n b.kind,ATT b.ranges,.sl b.sm 1 (b.steps.map encS)]
theorem A1T (b:Bin):(GG b)[0]?=some (.str b.name):=rfl
theorem aQ (b:Bin):(GG b)[1]?=some (.n b.kind):=rfl
theorem uH (b:Bin):(GG b)[2]?=some (.sl b.ranges.m 2 (b.ranges.l.map encR)):=rfl
theorem ALJ (b:Bin):(GG b)[3]?=some (.sl b.sm 1 (b.steps.map encS)):=rfl
theorem LC (b:Bin):(GG b).length=4:=rfl
theorem AEG (r:Rs):(encS r)[0]?=some (.sl r.m 2 (r.l.map encR)):=rfl
theorem bxB (h:Hp)(b:Bin):MP h (.agg (GG b))=some (.ptr h.length 0 0,h++[yE 4 [GG b]]):=rfl
theorem ldB (h:Hp)(b:Bin):BI jA (h++[yE 4 [GG b]]) 87 (.ptr h.length 0 0)=some (.agg (GG b)):=ZI lA aZ (by simp [GG])
def sU (b:Bin):SM:=if b.ranges.l.length>0 then .full else b.sm
def sets (b:Bin):List Rs:=if b.ranges.l.length>0 then [b.ranges] else b.steps
theorem BBI (h:Hp)(r:Rs):DF jA false h 85 1 [(0,.sl r.m 2 (r.l.map encR))]=some (.sl .full 1 ([r].map encS),h):=by
 have:(X0 1 0 [(0,AV.sl r.m 2 (r.l.map encR))])=some [[.sl r.m 2 (r.l.map encR)]]:=rfl;simp only[DF,Tryz.underlying85,A5R,this];have hz:TA jA 84=some 1:=AZ;simp [hz,AV.frozen,encS,ATT]
theorem sT (b:Bin)(h:Hp):PCall (En G) 241 [.agg (GG b)] h (.sl (sU b) 1 ((sets b).map encS)):=by
 refine ACalls.pure0 rfl ?_;refine acT Tryz.func241 2 ?_;refine O7 @bxB @uH ?_;refine BO ?_ ?_<;>intro hc
 .have hc':b.ranges.l.length>0:=BM hc
  refine O7 @uH BBI ?_;exact⟨by rw[sU,sets,if_pos hc',if_pos hc'];rfl,_,rfl⟩
 .have hc':¬b.ranges.l.length>0:=BM hc
  refine aU @ALJ ?_;exact⟨by rw[sU,sets,if_neg hc',if_neg hc'],_,rfl⟩
theorem A6J (m:SM)(k:Nat)(xs:List (List AV)):IG jA 84 .eql (.sl m k xs) (.sl .nil 0 [])=some (.bool (decide (m=.nil))):=by cases m<;>kernel_rfl
theorem A6I (m:SM)(k:Nat)(xs:List (List AV)):IG jA 32 .eql (.sl m k xs) (.sl .nil 0 [])=some (.bool (decide (m=.nil))):=by cases m<;>kernel_rfl
def AIA (k:Nat)(xs:List (List AV))(h:Hp)(v:AV)(h':Hp):Prop :=
 (xs=[]/\(∃k0,v=.sl .nil k0 [])/\h'=h)\/(xs=[]/\v=.sl .full k []/\h'=h)\/(xs≠[]/\v=.own h.length 0 xs.length/\h'=h++[yE k xs])
theorem A4Y (h:Hp):DF jA false h 84 0 []=some (.sl .full 2 [],h):=AZ
theorem AIG (h:Hp):DF jA false h 32 0 []=some (.sl .full 1 [],h):=AZ
theorem cok (f:FuncId)(G:Nat->AV)(hf:(match Tryz.prog.funcs[f]? with|some fn=>fn.body.isSome && !(fn.name == "runtime.NumGoroutine")|none=>false)=true):cQ (En G).P f:=by
 have he:(En G).P=jA:=rfl;unfold cQ;rw[he]
 cases hx:Tryz.prog.funcs[f]? with
 | none=>rw[hx] at hf; cases hf
 | some fn =>
   rw[hx] at hf;simp at hf;exact⟨fn,rfl,by simpa using hf.1,by simpa using hf.2⟩
def qencI (n:Int):List AV:=[.n n]
theorem encI0 (n:Int):(qencI n)[0]?=some (.n n):=rfl
theorem ATZ (r:Rs)(h:Hp):PCall (En G) 291 [.sl r.m 2 (r.l.map encR)] h (.bool (decide (r.l.length=0))):=by
 refine acT Tryz.func291 2 ?_;refine AB ?_;refine⟨?_,trivial⟩;congr 1;rw[wL];simp
theorem ADJ (G:Nat->AV)(xs:List Rs)(m:SM)(fid:FuncId)(caps:List AV)(p:Rs->Bool)(h:Hp)(hl:xs.length<=1099511627776)
  (hf:∀r,PCall (En G) fid (.sl r.m 2 (r.l.map encR)::caps) h (.bool (p r))) :
  PCall (En G) 325 [.sl m 1 (xs.map encS),.fn (.func fid) [] caps] h (.n (match xs.findIdx? p with|some i=>(i:Int)|none => -1)):=by
 refine acT Tryz.func325 4 ?_;refine AB ?_;refine BK (fun n F H=>∃k,n+k=xs.length/\F 0=.sl m 1 (xs.map encS)/\F 1=.fn (.func fid) [] caps/\F 7=.n xs.length/\F 8=.n (k:Nat)/\H=h/\(xs.take k).all (fun r => !p r)=true) xs.length ⟨0,BA,rfl,rfl,rfl,rfl,rfl,rfl⟩ ?_;rintro n F H ⟨k,hk,f0,f1,f7,f8,rfl,hin⟩;refine ES f0 f1 f7 f8 ?_;refine D9 ?_ ?_<;>intro hc'
 .simp only[vQ,CP,List.nil_append,List.cons_append,↓reduceIte,jC,enP,AHF,f0,f1,f7,f8,CZ hc',CW RZ hc',AEG]
  refine(hf _).uu ?_;refine BO ?_ ?_<;>intro hb
  .refine AB ?_
   refine⟨?_,trivial⟩
   rw[wM.2 ⟨hc',hb,fun j hj=>by
    rw[zL] at hin;have:=hin xs[j] (by rw[List.mem_take_iff_getElem];exact⟨j,U,rfl⟩)
    simpa using this⟩]
  .refine BB f8 (DC k) ?_
   refine⟨n-1,U,k+1,U,f0,f1,f7,rfl,trivial,?_⟩;rw[jU hc',List.all_append,hin];simp only[wF,yC,hb];rfl
 .refine AB ?_
  refine⟨?_,trivial⟩;rw[jJ U] at hin;rw[wR.2 (BM hin)]
theorem oX (G:Nat->AV)(xs:List Rs)(m:SM)(fid:FuncId)(caps:List AV)(p:Rs->Bool)(h:Hp)(hl:xs.length<=1099511627776)
  (hf:∀r,PCall (En G) fid (.sl r.m 2 (r.l.map encR)::caps) h (.bool (p r))) :
  PCall (En G) 290 [.sl m 1 (xs.map encS),.fn (.func fid) [] caps] h (.bool (xs.any p)):=by
 refine acT Tryz.func290 4 ?_;refine AB ?_;refine(ADJ G xs m fid caps p h hl hf).uu ?_;refine⟨?_,trivial⟩
 cases hx:xs.findIdx? p with
 | some i =>
   obtain⟨h1,h2,_⟩:=wM.1 hx;have:xs.any p=true:=qL.2 ⟨xs[i],BA,h2⟩;simp [this]
 | none =>
   have:xs.any p=false:=by
    rw[wR] at hx;rw[qO];intro x hx2;simp [hx x hx2]
   simp [this]
def UI (n:Int):Bool:=decide (n≥97)&&decide (n<=122)
def AEO (n:Int):Bool:=decide (n≥48)&&decide (n<=57)
def O3 (n:Int):Bool:=UI n||AEO n||(decide (n≥65)&&decide (n<=90))||n==95
theorem nJ (n:Int)(h:Hp):PCall (En G) 217 [.int .i32 n] h (.bool (UI n)):=by
 refine acT Tryz.func217 2 ?_;refine AB ?_;refine IZ ?_ ?_<;>intro ha
 .refine A7 ha ?_
  exact⟨by unfold UI;rw[ha];rfl,trivial⟩
 .refine A7 ha ?_
  exact⟨by unfold UI;rw[ha];rfl,trivial⟩
theorem AH2 (n:Int)(h:Hp):PCall (En G) 278 [.int .i32 n] h (.bool (AEO n)):=by
 refine acT Tryz.func278 2 ?_;refine AB ?_;refine IZ ?_ ?_<;>intro ha
 .refine A7 ha ?_
  exact⟨by unfold AEO;rw[ha];rfl,trivial⟩
 .refine A7 ha ?_
  exact⟨by unfold AEO;rw[ha];rfl,trivial⟩
theorem sS (n:Int)(h:Hp):PCall (En G) 130 [.int .u8 n] h (.bool (UI n)):=by
 refine acT Tryz.func130 2 ?_;refine AB ?_;refine IZ ?_ ?_<;>intro ha
 .refine A7 ha ?_
  exact⟨by unfold UI;rw[ha];rfl,trivial⟩
 .refine A7 ha ?_
  exact⟨by unfold UI;rw[ha];rfl,trivial⟩
theorem AO2 (n:Int)(h:Hp):PCall (En G) 222 [.int .u8 n] h (.bool (AEO n)):=by
 refine acT Tryz.func222 2 ?_;refine AB ?_;refine IZ ?_ ?_<;>intro ha
 .refine A7 ha ?_
  exact⟨by unfold AEO;rw[ha];rfl,trivial⟩
 .refine A7 ha ?_
  exact⟨by unfold AEO;rw[ha];rfl,trivial⟩
theorem dX (n:Int)(h:Hp):PCall (En G) 218 [.int .i32 n] h (.bool (O3 n)):=by
 refine acT Tryz.func218 2 ?_;refine AB ?_;refine(nJ G n h).uu ?_;refine IZ ?_ ?_<;>intro ha
 .refine A7 ha ?_
  exact⟨by unfold O3;rw[ha];rfl,trivial⟩
 refine A7 ha ?_;refine(AH2 G n h).uu ?_;refine IZ ?_ ?_<;>intro hb
 .refine A7 hb ?_
  exact⟨by unfold O3;rw[ha,hb];rfl,trivial⟩
 refine A7 hb ?_;refine IZ ?_ ?_<;>intro hc
 .refine A7 hc ?_
  refine IZ ?_ ?_<;>intro hd
  .refine A7 hd ?_
   exact⟨by unfold O3;rw[ha,hb,hc,hd];rfl,trivial⟩
  .refine A7 hd ?_
   exact⟨by unfold O3;rw[ha,hb,hc,hd];rfl,trivial⟩
 .refine A7 hc ?_
  exact⟨by unfold O3;rw[ha,hb,hc];rfl,trivial⟩
theorem AOC (n:Int)(h:Hp):PCall (En G) 132 [.int .u8 n] h (.bool (O3 n)):=by
 refine acT Tryz.func132 2 ?_;refine AB ?_;refine(sS G n h).uu ?_;refine IZ ?_ ?_<;>intro ha
 .refine A7 ha ?_
  exact⟨by unfold O3;rw[ha];rfl,trivial⟩
 refine A7 ha ?_;refine(AO2 G n h).uu ?_;refine IZ ?_ ?_<;>intro hb
 .refine A7 hb ?_
  exact⟨by unfold O3;rw[ha,hb];rfl,trivial⟩
 refine A7 hb ?_;refine IZ ?_ ?_<;>intro hc
 .refine A7 hc ?_
  refine IZ ?_ ?_<;>intro hd
  .refine A7 hd ?_
   exact⟨by unfold O3;rw[ha,hb,hc,hd];rfl,trivial⟩
  .refine A7 hd ?_
   exact⟨by unfold O3;rw[ha,hb,hc,hd];rfl,trivial⟩
 .refine A7 hc ?_
  exact⟨by unfold O3;rw[ha,hb,hc];rfl,trivial⟩
def qencStr (s:ByteArray):List AV:=[.str s]
theorem encStr0 (s:ByteArray):(qencStr s)[0]?=some (.str s):=rfl
def JR (xs:List ByteArray)(v:ByteArray):Bool:=xs.any fun u=>v.toList==u.toList
theorem AYH (xs:List ByteArray)(m:SM)(v:ByteArray)(h:Hp)(hl:xs.length<=1099511627776):
  PCall (En G) 220 [.sl m 1 (xs.map qencStr),.str v] h (.bool (JR xs v)):=by
 refine acT Tryz.func220 4 ?_;refine AB ?_;refine BK (fun n F H=>∃k,n+k=xs.length/\F 0=.sl m 1 (xs.map qencStr)/\F 1=.str v/\F 5=.n (k:Nat)/\H=h/\JR xs v=JR (xs.drop k) v) xs.length ⟨0,BA,rfl,rfl,rfl,rfl,rfl⟩ ?_;rintro n F H ⟨k,hk,f0,f1,f5,rfl,hin⟩;refine DW f0 f1 f5 ?_;refine D9 ?_ ?_<;>intro hc'
 .have hs:JR (xs.drop k) v=((v.toList==xs[k].toList)||JR (xs.drop (k+1)) v):=UE _ xs k hc'
  simp only[vQ,CP,UB,↓reduceIte,jC,enP,aJ,f0,f1,f5,CZ hc',CW ag9 hc',encStr0];refine BO ?_ ?_<;>intro hb
  .refine AB ?_
   refine⟨?_,trivial⟩;rw[hin,hs,show(v.toList==xs[k].toList)=true by rw[BEq.comm];exact hb];rfl
  .refine BB f5 (DC k) ?_
   refine⟨n-1,U,k+1,U,f0,f1,rfl,trivial,?_⟩;rw[hin,hs,show(v.toList==xs[k].toList)=false by rw[BEq.comm];exact hb];rfl
 .refine AB ?_
  exact⟨by rw[hin,zJ U];rfl,trivial⟩
theorem index_prog (xs:List ByteArray)(m:SM)(v:ByteArray)(h:Hp)(hl:xs.length<=1099511627776):
  ∃i:Int,(decide (i≥0)=JR xs v)/\PCall (En G) 279 [.sl m 1 (xs.map qencStr),.str v] h (.n i):=by
 refine⟨(match xs.findIdx? (fun u=>v.toList==u.toList) with|some i=>(i:Int)|none => -1),?_,?_⟩
 .cases hx:xs.findIdx? (fun u=>v.toList==u.toList) with
  | some i =>
    obtain⟨h1,h2,_⟩:=wM.1 hx;have:JR xs v=true:=qL.2 ⟨xs[i],BA,h2⟩;simp [this]
  | none =>
    have:JR xs v=false:=by
     rw[wR] at hx;unfold JR;rw[qO];intro x hx2;simp only[hx x hx2];simp
    simp [this]
 refine acT Tryz.func279 4 ?_;refine AB ?_;refine BK (fun n F H=>∃k,n+k=xs.length/\F 0=.sl m 1 (xs.map qencStr)/\F 1=.str v/\F 7=.n xs.length/\F 8=.n (k:Nat)/\H=h/\(xs.take k).all (fun u => !(v.toList==u.toList))=true) xs.length ⟨0,BA,rfl,rfl,rfl,rfl,rfl,rfl⟩ ?_;rintro n F H ⟨k,hk,f0,f1,f7,f8,rfl,hin⟩;refine ES f0 f1 f7 f8 ?_;refine D9 ?_ ?_<;>intro hc'
 .simp only[vQ,CP,UB,↓reduceIte,jC,enP,aJ,f0,f1,f7,f8,CZ hc',CW ag9 hc',encStr0]
  refine BO ?_ ?_<;>intro hb
  .refine AB ?_
   refine⟨?_,trivial⟩
   rw[wM.2 ⟨hc',hb,fun j hj=>by
    rw[zL] at hin;have:=hin xs[j] (by rw[List.mem_take_iff_getElem];exact⟨j,U,rfl⟩)
    simpa using this⟩]
  .refine BB f8 (DC k) ?_
   refine⟨n-1,U,k+1,U,f0,f1,f7,rfl,trivial,?_⟩;rw[jU hc',List.all_append,hin];simp only[wF,yC,hb];rfl
 .refine AB ?_
  refine⟨?_,trivial⟩;rw[jJ U] at hin
  rw[wR.2 (by
   intro x hx;rw[zL] at hin
   simpa using hin x hx)]
theorem rZ (xs:List ByteArray)(m:SM)(v:ByteArray)(h:Hp)(hl:xs.length<=1099511627776):
  PCall (En G) 219 [.sl m 1 (xs.map qencStr),.str v] h (.bool (JR xs v)):=by
 obtain⟨i,hi,hp⟩:=index_prog G xs m v h hl;refine acT Tryz.func219 4 ?_;refine AB ?_;refine hp.uu ?_;exact⟨by rw[hi],trivial⟩
def kw:List ByteArray:=[⟨#[99,108,97,115,115]⟩,⟨#[101,120,116,101,110,100,115]⟩,⟨#[114,97,110,100]⟩,⟨#[114,97,110,100,99]⟩,⟨#[115,116,97,116,101]⟩,⟨#[99,111,110,115,116,114,97,105,110,116]⟩,⟨#[115,111,102,116]⟩,⟨#[100,105,115,116]⟩,⟨#[105,102]⟩,⟨#[101,108,115,101]⟩,⟨#[101,97,99,104]⟩,⟨#[105,110]⟩,⟨#[115,111,108,118,101]⟩,⟨#[98,101,102,111,114,101]⟩,⟨#[105,110,115,105,100,101]⟩,⟨#[112,114,111,112,101,114,116,121]⟩,⟨#[115,101,113]⟩,⟨#[97,110,100]⟩,⟨#[111,114]⟩,⟨#[110,111,116]⟩,⟨#[115,101,116]⟩,⟨#[104,111,108,100]⟩,⟨#[112,108,97,105,110]⟩,⟨#[114,101,112,101,97,116]⟩]
theorem ASC:kw.length=24:=rfl
theorem xL (h:Hp):PCall (En G) 221 [] h (.sl .full 1 (kw.map qencStr)):=by
 refine acT Tryz.func221 0 ?_;refine AB ?_;refine KW (v:=.sl .full 1 (kw.map qencStr)) (h:=h) AZ ?_;refine AB ?_;exact H7
theorem rQ (v:ByteArray)(h:Hp):PCall (En G) 131 [.str v] h (.bool (JR kw v)):=by
 refine acT Tryz.func131 2 ?_;refine AB ?_;refine(xL G h).uu ?_;refine(AYH G kw .full v h (by rw[ASC];omega)).uu ?_;exact H7
def KwG (G:Nat->AV):Prop:=∃m,G 0=.fptr 1 [[.sl m 1 (kw.map qencStr)]] 0 0
theorem nN (hG:KwG G)(v:ByteArray)(h:Hp):PCall (En G) 129 [.str v] h (.bool (JR kw v)):=by
 obtain⟨m,hg⟩:=hG;refine acT Tryz.func129 2 ?_;have e:BI jA h 121 (G 0)=some (.sl m 1 (kw.map qencStr)):=by rw[hg];exact AR0 uX rfl rfl
 have hl:kw.length<=1099511627776:=by rw[ASC];omega
 refine DW @AY8 @enG e ?_;refine(rZ G kw m v h hl).uu ?_;exact H7
def VE (s:ByteArray):Bool:=(match s.data.toList with|[]=>false|b::_=>UI b.toNat)&&s.data.toList.all fun b=>O3 b.toNat
def E8 (s:ByteArray):Bool:=VE s&&decide (s.size<=16) && !JR kw s
theorem fW {n:Int}(h:O3 n=true):n<128:=by
 simp only[O3,UI,AEO,Bool.or_eq_true,jM,decide_eq_true_eq,beq_iff_eq] at h;omega
theorem AWO (h:Hp)(s:ByteArray):iE jA h 9 (.str s)=some (.ptr h.length 0 0,h++[.iter s 0]):=by
 have:Tryz.prog.underlying 9=some .string:=AZ;simp [iE,this]
theorem AXN {h:Hp}{s:ByteArray}{pos:Nat}(hp:pos<s.size):kI (h++[.iter s pos]) (.ptr h.length 0 0) true=some (.tup [.bool true,.n pos,.int .i32 (Utf8.decode s pos).1],h++[.iter s (pos+(Utf8.decode s pos).2)]):=by
 simp [kI,hp]
theorem ARS {h:Hp}{pos:Nat}(hp:¬pos<s.size):kI (h++[.iter s pos]) (.ptr h.length 0 0) true=some (.tup [.bool false],h++[.iter s pos]):=by
 simp [kI,hp]
theorem V6 {k:Nat}(hk:k<s.size)(hb:O3 (s[k]'hk).toNat=false):VE s=false:=by
 unfold VE
 have:(s.data.toList.all fun b=>O3 b.toNat)=false:=by
  rw[List.all_eq_false];exact⟨s[k],Array.getElem_mem_toList (xs:=s.data) hk,by simp [hb]⟩
 rw[this];simp
theorem iH (hk:0<s.size)(hb:UI (s[0]'hk).toNat=false):VE s=false:=by
 unfold VE
 have:(match s.data.toList with|[]=>false|b::_=>UI b.toNat)=false:=by
  cases hl:s.data.toList with
  | nil=>rfl
  | cons b l =>
    have h0:s[0]'hk=b:=by
     have:s.data.toList[0]?=some b:=by rw[hl];rfl
     have h2:s.data[0]?=some b:=by grind
     have hk':0<s.data.size:=hk;rw[Array.getElem?_eq_getElem hk'] at h2;exact Option.some.inj h2
    simp only;rw[<-h0];exact hb
 rw[this];simp
theorem AAU (hk:0<s.size)(hb:UI (s[0]'hk).toNat=true)(ha:∀i (hi:i<s.size),O3 (s[i]'hi).toNat=true):VE s=true:=by
 unfold VE
 have h1:(match s.data.toList with|[]=>false|b::_=>UI b.toNat)=true:=by
  cases hl:s.data.toList with
  | nil =>
    have:s.data.toList.length=0:=by rw[hl];rfl
    have h2:s.data.size=0:=BM this;have h3:s.size=s.data.size:=rfl;omega
  | cons b l =>
    have h0:s[0]'hk=b:=by
     have:s.data.toList[0]?=some b:=by rw[hl];rfl
     have h2:s.data[0]?=some b:=by grind
     have hk':0<s.data.size:=hk;rw[Array.getElem?_eq_getElem hk'] at h2;exact Option.some.inj h2
    simp only;rw[<-h0];exact hb
 rw[h1,Bool.true_and,zL];intro b hbm;obtain⟨i,hi,rfl⟩:=List.getElem_of_mem hbm;have hi':i<s.size:=BM hi;exact ha i hi'
theorem AMC (s:ByteArray)(h:Hp)(hl:s.size<=1099511627776):PCall (En G) 128 [.str s] h (.bool (VE s)):=by
 refine ACalls.pure0 rfl ?_;refine acT Tryz.func128 2 ?_;refine BB @AVZ @AWO ?_;refine BK (fun n F H=>∃k,n+k=s.size/\F 0=.str s/\F 6=.ptr h.length 0 0/\H=h++[.iter s k]/\(∀i (hi:i<s.size),i<k->O3 (s[i]'hi).toNat=true)/\(∀hp:0<s.size,0<k->UI (s[0]'hp).toNat=true)) s.size ⟨0,BA,rfl,AQ,rfl,fun _ _ h=>absurd h U,fun _ h=>absurd h U⟩ ?_;rintro n F H ⟨k,hk,f0,f6,rfl,hall,h0⟩;rcases Classical.em (k<s.size) with hp|hp
 .have go:∀(r:Nat×Nat),Utf8.decode s k=r->(O3 r.1=true->r=((s[k]'hp).toNat,1)/\O3 (s[k]'hp).toNat=true)/\(O3 r.1=false->VE s=false)/\(UI r.1=false->k=0->VE s=false)/\(UI r.1=true->O3 r.1=true):=by
   rintro r rfl;have lf:∀n,UI n=true->O3 n=true:=fun n hn=>by unfold O3;rw[hn];rfl
   rcases zB (s[k]'hp).toNat 128 with ha|ha
   .have hd:=decode_ascii s k hp ha
    rw[hd];exact⟨fun hf=>⟨rfl,hf⟩,fun hf=>V6 hp hf,fun hf h0=>by subst h0;exact iH hp hf,lf _⟩
   .have hd:=(decode_high s k hp ha).1
    refine⟨fun hf=>?_,fun _=>?_,fun _ h0=>?_,lf _⟩
    .have:=fW hf;omega
    .refine V6 hp ?_
     cases hf:O3 (s[k]'hp).toNat with
     | false=>rfl
     | true=>have:=fW hf;omega
    .refine V6 hp ?_
     cases hf:O3 (s[k]'hp).toNat with
     | false=>rfl
     | true=>have:=fW hf;omega
  refine aT @APZ f0 f6 @AXN hp ?_;generalize hr:Utf8.decode s k=r at go;obtain⟨g1,g2,g3,g4⟩:=go r rfl
  have done:∀H',O3 r.1=true->(k=0->UI r.1=true)->H'=h++[ABlk.iter s (k+r.2)]->∃m,m<n/\∃k',m+k'=s.size/\H'=h++[.iter s k']/\(∀i (hi:i<s.size),i<k'->O3 (s[i]'hi).toNat=true)/\(∀hp:0<s.size,0<k'->UI (s[0]'hp).toNat=true):=by
   intro H' hf hlw hH;obtain⟨e1,e2⟩:=g1 hf;refine⟨n-1,U,k+1,U,by rw[hH,e1],fun i hi hik=>?_,fun hp0 _=>?_⟩
   .grind
   .grind
  refine IZ ?_ ?_<;>intro ha
  .have hk0:k=0:=by simp at ha;omega
   refine A7 ha ?_;refine(nJ G _ _).uu ?_;refine IZ ?_ ?_<;>intro hb
   .refine A7 hb ?_
    have hlw:UI r.1=false:=BM hb;exact⟨by rw[g3 hlw hk0],_,rfl⟩
   have hlw:UI r.1=true:=BM hb;refine A7 hb ?_;refine(dX G _ _).uu ?_;have hf:=g4 hlw;refine A7 hf ?_;obtain⟨m,h1,k',h2,h3,h4,h5⟩:=done _ hf (fun _=>hlw) rfl;exact⟨m,h1,k',h2,f0,f6,h3,h4,h5⟩
  .have hk0:k≠0:=by intro e;subst e;simp at ha
   refine A7 ha ?_;refine(dX G _ _).uu ?_;refine BO ?_ ?_<;>intro hb
   .have hf:O3 r.1=false:=BM hb
    refine AB ?_;exact⟨by rw[g2 hf],_,rfl⟩
   .have hf:O3 r.1=true:=BM hb
    refine AB ?_;obtain⟨m,h1,k',h2,h3,h4,h5⟩:=done _ hf (fun e=>absurd e hk0) rfl;exact⟨m,h1,k',h2,f0,f6,h3,h4,h5⟩
 .simp only[vQ,List.getElem?_cons_zero,UD,fA,YX,sY,CP,gZ,APZ,KT,O8,pI,↓reduceIte,jC,enP,f0,f6,ARS hp]
  have hks:k=s.size:=U;refine⟨?_,_,rfl⟩;congr 1;rcases yA s.size with hz|hz
  .have:s=⟨#[]⟩:=by
    obtain⟨d⟩:=s;have:d.size=0:=hz;rw[Array.eq_empty_of_size_eq_zero this]
   subst this;rw[ByteArray.toList_eq];rfl
  .rw[AAU hz (h0 hz U) (fun i hi=>hall i hi U)]
   have hne:s.toList≠[]:=by
    rw[ByteArray.toList_eq];intro e;have:s.data.toList.length=0:=by rw[e];rfl
    have h2:s.data.size=0:=BM this;have h3:s.size=s.data.size:=rfl;omega
   cases hl2:s.toList with
   | nil=>exact absurd hl2 hne
   | cons=>rw[ByteArray.toList_eq];rfl
theorem MH (hG:KwG G)(s:ByteArray)(h:Hp)(hl:s.size<=1099511627776):PCall (En G) 63 [.str s] h (.bool (E8 s)):=by
 refine acT Tryz.func63 2 ?_;refine AB ?_;refine(AMC G s h hl).uu ?_;refine IZ ?_ ?_<;>intro ha
 .refine A7 ha ?_
  refine IZ ?_ ?_<;>intro hb
  .refine A7 hb ?_
   refine(nN G hG s h).uu ?_;refine⟨?_,trivial⟩
   have:decide (s.size<=16)=true:=by simp at hb|-;omega
   unfold E8;rw[ha,this];rfl
  .refine A7 hb ?_
   refine⟨?_,trivial⟩
   have:decide (s.size<=16)=false:=by simp at hb|-;omega
   unfold E8;rw[ha,this];rfl
 .refine A7 ha ?_
  exact⟨by unfold E8;rw[ha];rfl,trivial⟩
theorem ix9 (s:ByteArray)(k:Nat)(kk:IntKind)(hk:k<s.size):PH jA 9 (.str s) (.int kk (k:Int))=some (.int .u8 (s[k]'hk).toNat):=by
 have hu:Tryz.prog.underlying 9=some .string:=AZ;have h0:(0:Int)<=(k:Int):=U;have:s[k]?=some (s[k]'hk):=by simp [hk]
 simp [PH,hu,h0,this]
theorem TK (s:ByteArray)(h:Hp):PCall (En G) 64 [.str s] h (.bool (E8 s)):=by
 refine acT Tryz.func64 2 ?_;refine AB ?_;refine IZ ?_ ?_<;>intro ha
 .refine A7 ha ?_
  refine⟨?_,trivial⟩
  have:s.data.toList=[]:=by
   rw[ByteArray.toList_eq,ByteArray.toList_eq] at ha;have:=beq_iff_eq.1 ha;exact this
  unfold E8 VE;rw[this];rfl
 have hz:0<s.size:=by
  rcases yA s.size with hz|hz
  .simp_all
  .exact hz
 refine A7 ha ?_;refine IZ ?_ ?_<;>intro hb
 .refine A7 hb ?_
  refine⟨?_,trivial⟩
  have:decide (s.size<=16)=false:=by simp at hb|-;omega
  unfold E8;rw[this];simp
 have h16:decide (s.size<=16)=true:=by simp at hb|-;omega
 refine A7 hb ?_;refine KW (v:=.int .u8 (s[0]'hz).toNat) (h:=h) (by rw[show(0:Int)=((0:Nat):Int) from rfl,ix9 s 0 .i64 hz];rfl) ?_;refine AB ?_;refine(sS G _ h).uu ?_;refine IZ ?_ ?_<;>intro hc
 .refine A7 hc ?_
  refine⟨?_,trivial⟩;unfold E8;rw[iH hz (BM hc)];rfl
 refine A7 hc ?_;refine(rQ G s h).uu ?_;refine BO ?_ ?_<;>intro hd
 .refine AB ?_
  refine⟨?_,trivial⟩;unfold E8;rw[hd];simp
 refine AB ?_;have hlow:UI (s[0]'hz).toNat=true:=BM hc;refine BK (fun n F H=>∃k,n+k=s.size/\F 0=.str s/\F 3=.n (k:Nat)/\H=h/\(∀i (hi:i<s.size),i<k->O3 (s[i]'hi).toNat=true)) s.size ⟨0,BA,AQ,AQ,rfl,fun _ _ h=>absurd h U⟩ ?_;rintro n F H ⟨k,hk,f0,f3,rfl,hall⟩;refine BB f0 f3 ?_;refine D9 ?_ ?_<;>intro hk'
 .refine DW f0 f3 (ix9 s k .i64 hk') ?_
  refine(AOC G _ _).uu ?_;refine BO ?_ ?_<;>intro hf
  .refine AB ?_
   refine⟨?_,trivial⟩;unfold E8;rw[V6 hk' (BM hf)];rfl
  .refine BB f3 (wrap_succ (show k<9223372036854775807 by simp at h16;omega)) ?_
   refine⟨n-1,U,k+1,U,f0,rfl,trivial,fun i hi hik=>?_⟩;rcases zB i k with h'|h'
   .exact hall i hi h'
   .grind
 .refine AB ?_
  refine⟨?_,trivial⟩;unfold E8;rw[AAU hz hlow (fun i hi=>hall i hi U),h16,hd];rfl
def OX (b:Bin):Bool :=
 decide (b.kind<0)||decide (b.kind>2)||(decide ((b.ranges.l.length:Int)>0)==decide ((b.steps.length:Int)>0))||(b.kind != 0&&decide ((b.steps.length:Int)>0))||((b.steps.length:Int)==1)||decide ((b.steps.length:Int)>8)
def IQ (b:Bin):Int :=
 if E8 b.name then if OX b then 1 else if b.steps.any (fun l=>decide (l.l.length=0)) then 1 else
  if(sets b).any (fun l=>decide (l.l.length>64)) then 2 else if(sets b).any (fun l=>l.l.any bad) then 1 else 0
 else 7
def shape (b:Bin):Bool :=
 if(b.kind != 0&&b.kind != 1&&b.kind != 2) then false else if((b.steps.length:Int)==0) then decide ((b.ranges.l.length:Int)>0) else
  if(decide ((b.ranges.l.length:Int)>0)||b.kind != 0||decide ((b.steps.length:Int)<2)||decide ((b.steps.length:Int)>8)) then false else !(b.steps.any (fun l=>decide (l.l.length=0)))
theorem AGK:∀(n p z o t r s0 s1 s8 E:Bool),((n||p||z||o||t) && !(n&&p) && !(n&&z) && !(n&&o) && !(n&&t) && !(p&&z) && !(p&&o) && !(p&&t) && !(z&&o) && !(z&&t) && !(o&&t) && !(s0&&s1) && !(s0&&s8) && !(s1&&s8) && !(s0&&E))=true ->
 (if(!z && !o && !t) then false else if s0 then r else if(r || !z||(s0||s1)||s8) then false else !E)=(!(n||p||(r == !s0)||(!z && !s0)||s1||s8) && !E):=by decide +kernel
theorem AMO (k r s:Int)(E:Bool)(hs:0<=s)(hE:s=0->E=false):
  (if(k != 0&&k != 1&&k != 2) then false else if(s==0) then decide (r>0) else if(decide (r>0)||k != 0||decide (s<2)||decide (s>8)) then false else !E) =
  (!(decide (k<0)||decide (k>2)||(decide (r>0)==decide (s>0))||(k != 0&&decide (s>0))||(s==1)||decide (s>8)) && !E):=by
 have h1:decide (s>0) = !(s==0):=by rw[wL];simp;omega
 have h2:decide (s<2)=((s==0)||(s==1)):=by rw[wL];simp;omega
 rw[h1,h2];have key:=AGK (decide (k<0)) (decide (k>2)) (k==0) (k==1) (k==2) (decide (r>0)) (s==0) (s==1) (decide (s>8)) E ?_
 .exact key
 .have a1:(decide (k<0)||decide (k>2)||(k==0)||(k==1)||(k==2))=true:=by simp;omega
  have no:∀(p q:Prop) [Decidable p] [Decidable q],¬(p/\q)->(!(decide p&&decide q))=true:=by grind
  have e0:(s==0&&E)=false:=by simp_all
  have b0:(k==0)=decide (k=0):=rfl;have b1:(k==1)=decide (k=1):=rfl;have b2:(k==2)=decide (k=2):=rfl;have c0:(s==0)=decide (s=0):=rfl;have c1:(s==1)=decide (s=1):=rfl;rw[e0]
  rw[b0,b1,b2] at a1|-
  rw[c0,c1,a1,no _ _ (U:¬(k<0/\k>2)),no _ _ (U:¬(k<0/\k=0)),no _ _ (U:¬(k<0/\k=1)),no _ _ (U:¬(k<0/\k=2)),
   no _ _ (U:¬(k>2/\k=0)),no _ _ (U:¬(k>2/\k=1)),no _ _ (U:¬(k>2/\k=2)),no _ _ (U:¬(k=0/\k=1)),no _ _ (U:¬(k=0/\k=2)),no _ _ (U:¬(k=1/\k=2)),
   no _ _ (U:¬(s=0/\s=1)),no _ _ (U:¬(s=0/\s>8)),no _ _ (U:¬(s=1/\s>8))]
  rfl
theorem ABM (b:Bin):shape b=(!OX b && !(b.steps.any (fun l=>decide (l.l.length=0)))) :=
 AMO b.kind b.ranges.l.length b.steps.length _ U (fun h=>by
  have:b.steps=[]:=List.eq_nil_of_length_eq_zero U
  rw[this];rfl)
theorem AGJ (b:Bin)(h:Hp)(hl:b.steps.length<=1099511627776):PCall (En G) 240 [.agg (GG b)] h (.bool (shape b)):=by
 refine ACalls.pure0 rfl ?_;refine acT Tryz.func240 2 ?_;refine QD @bxB @aQ @uH @ALJ ?_;refine SA (fun F H=>F 7=.bool (b.kind != 0&&b.kind != 1&&b.kind != 2)/\F 1=.ptr h.length 0 0/\F 3=.n b.steps.length/\H=h++[yE 4 [GG b]]) ?_ ?_
 .refine IZ ?_ ?_<;>intro ha
  .refine O7 ha @aQ ?_
   refine IZ ?_ ?_<;>intro hb
   .refine O7 hb @aQ ?_
    exact⟨rfl,trivial,trivial,trivial⟩
   .refine A7 hb ?_
    exact⟨rfl,trivial,trivial,trivial⟩
  .refine A7 ha ?_
   exact⟨rfl,trivial,trivial,trivial⟩
 rintro F H ⟨f7,f1,f3,rfl⟩;refine DW f7 f1 f3 ?_;refine BO ?_ ?_<;>intro hk
 .refine AB ?_
  exact⟨by unfold shape;rw[if_pos hk],_,rfl⟩
 have hk':¬(b.kind != 0&&b.kind != 1&&b.kind != 2)=true:=by rw[hk];simp
 refine BB f1 f3 ?_;refine BO ?_ ?_<;>intro hs
 .refine O7 f1 @uH ?_
  exact⟨by unfold shape;rw[if_neg hk',if_pos hs],_,rfl⟩
 have hs':¬((b.steps.length:Int)==0)=true:=by rw[hs];simp
 refine MI f1 f3 @uH ?_;refine SA (fun F H=>F 28=.bool (decide ((b.ranges.l.length:Int)>0)||b.kind != 0||decide ((b.steps.length:Int)<2)||decide ((b.steps.length:Int)>8))/\F 1=.ptr h.length 0 0/\H=h++[yE 4 [GG b]]) ?_ ?_
 .refine IZ ?_ ?_<;>intro ha
  .refine BB ha f1 ?_
   exact⟨trivial,trivial,trivial⟩
  refine QD @wP ha f1 @aQ ?_;refine IZ ?_ ?_<;>intro hb
  .refine BB hb f1 ?_
   exact⟨trivial,trivial,trivial⟩
  refine ES @wP hb f1 f3 ?_;refine IZ ?_ ?_<;>intro hc
  .refine BB hc f1 ?_
   exact⟨trivial,trivial,trivial⟩
  .refine ES @wP hc f1 f3 ?_
   exact⟨trivial,trivial,trivial⟩
 rintro F H ⟨f28,f1,rfl⟩;refine BB f28 f1 ?_;refine BO ?_ ?_<;>intro ho
 .refine AB ?_
  exact⟨by unfold shape;rw[if_neg hk',if_neg hs',if_pos ho],_,rfl⟩
 have ho':¬(decide ((b.ranges.l.length:Int)>0)||b.kind != 0||decide ((b.steps.length:Int)<2)||decide ((b.steps.length:Int)>8))=true:=by rw[ho];simp
 refine O7 f1 @ALJ ?_;refine(oX G b.steps b.sm 291 [] (fun l=>decide (l.l.length=0)) _ hl fun r=>ATZ G r _).uu ?_;exact⟨by unfold shape;rw[if_neg hk',if_neg hs',if_neg ho'],_,rfl⟩
theorem AAY {b:Bin}(h:E8 b.name=false):IQ b=7:=by unfold IQ;rw[h];rfl
theorem vH {b:Bin}(h:E8 b.name=true)(hs:OX b=true):IQ b=1:=by unfold IQ;rw[h,hs];rfl
theorem vI {b:Bin}(h:E8 b.name=true)(hs:b.steps.any (fun l=>decide (l.l.length=0))=true):IQ b=1:=by
 unfold IQ;rw[h,hs];cases OX b<;>rfl
theorem iI {b:Bin}(h:E8 b.name=true)(hs:OX b=false)(he:b.steps.any (fun l=>decide (l.l.length=0))=false):
  IQ b=if(sets b).any (fun l=>decide (l.l.length>64)) then 2 else if(sets b).any (fun l=>l.l.any bad) then 1 else 0:=by
 unfold IQ;rw[h,hs,he];rfl
structure BinOk (b:Bin):Prop where
 num:(sets b).length<=1099511627776
 name:b.name.size<=1099511627776
 steps:b.steps.length<=1099511627776
 sets:∀l∈sets b,l.l.length<=1099511627776
theorem AB7 (xs:List Rng):decide (JF xs=2)=decide (xs.length>64):=by
 unfold JF;split
 .simp_all
 .split<;>simp_all
theorem iN (xs:List Rng):decide (JF xs=1)=(decide (¬xs.length>64)&&xs.any bad):=by
 unfold JF;split
 .rename_i h;simp [h]
 .grind
theorem AP5 {b:Bin}(h:E8 b.name=true)(hs:OX b=false)(he:b.steps.any (fun l=>decide (l.l.length=0))=false):
  IQ b=if(sets b).any (fun l=>decide (JF l.l=2)) then 2 else if(sets b).any (fun l=>decide (JF l.l=1)) then 1 else 0:=by
 rw[iI h hs he];simp only[AB7];split
 .rfl
 .rename_i hn
  have:(sets b).any (fun l=>decide (JF l.l=1))=(sets b).any (fun l=>l.l.any bad):=by
   rw[wL,qL,qL];constructor
   .rintro⟨l,h1,h2⟩
    rw[iN] at h2;simp only[jM] at h2;exact⟨l,h1,h2.2⟩
   .rintro⟨l,h1,h2⟩
    refine⟨l,h1,?_⟩;rw[iN,h2];rw[Bool.not_eq_true,qO] at hn;have:=hn l h1;simp only[decide_eq_true_eq] at this;simp only[this,not_false_eq_true,decide_true,Bool.and_self]
  rw[this]
theorem AFM {α:Type}(p:α->Bool)(xs:List α)(k:Nat)(h:k<xs.length):(xs.take (k+1)).any p=((xs.take k).any p||p xs[k]):=by
 rw[jU h,List.any_append,List.any_cons,List.any_nil,Bool.or_false]
theorem valid_prog (hG:KwG G)(b:Bin)(hb:BinOk b)(h:Hp):PCall (En G) 162 [.agg (GG b)] h (.n (IQ b)):=by
 refine ACalls.pure0 rfl ?_;refine acT Tryz.func162 2 ?_;refine MI @ATD @bxB @A1T ?_;refine(MH G hG b.name _ hb.name).uu ?_;refine BO ?_ ?_<;>intro hn
 .refine AB ?_
  exact⟨by rw[AAY (BM hn)],_,rfl⟩
 have hn':E8 b.name=true:=BM hn;refine A7 @ldB ?_;refine(AGJ G b _ hb.steps).uu ?_;refine BO ?_ ?_<;>intro hs
 .refine AB ?_
  refine⟨?_,_,rfl⟩;have h1:shape b=false:=BM hs;rw[ABM] at h1
  cases hr:OX b with
  | true=>rw[vH hn' hr]
  | false =>
    rw[hr] at h1;rw[vI hn' (BM h1)]
 have h1:shape b=true:=BM hs;rw[ABM] at h1;simp only[jM,Bool.not_eq_true'] at h1;have hv:=iI hn' h1.1 h1.2;refine A7 @ldB ?_;refine(sT G b _).uu ?_;refine BK (fun n F H=>∃k,n+k=(sets b).length/\F 3=.bool (((sets b).take k).any fun l=>decide (JF l.l=2))/\F 4=.bool (((sets b).take k).any fun l=>decide (JF l.l=1))/\F 15=.sl (sU b) 1 ((sets b).map encS)/\F 16=.n (sets b).length/\F 17=.n (k:Nat)/\H=h++[yE 4 [GG b]]) (sets b).length ⟨0,BA,rfl,rfl,rfl,rfl,rfl,rfl⟩ ?_;rintro n F H ⟨k,hk,f3,f4,f15,f16,f17,rfl⟩;refine DW f15 f16 f17 ?_;refine D9 ?_ ?_<;>intro hc'
 .simp only[vQ,CP,List.append_nil,↓reduceIte,jC,enP,AHF,f15,f17,CZ hc',CW RZ hc',AEG]
  refine(AB6 G _ _ _ (hb.sets _ (List.getElem_mem hc'))).use ?_;have t2:=AFM (fun l:Rs=>decide (JF l.l=2)) (sets b) k hc';have t1:=AFM (fun l:Rs=>decide (JF l.l=1)) (sets b) k hc';refine AB ?_;refine BO ?_ ?_<;>intro hd
  .have hd':JF (sets b)[k].l=2:=BM hd
   refine BB f17 (wrap_succ (show k<9223372036854775807 by have:=hb.num;omega)) ?_;refine⟨n-1,U,k+1,U,?_,?_,f15,f16,rfl,trivial⟩
   .rw[t2,hd'];simp
   .rw[f4,t1,hd'];simp
  refine AB ?_;refine BO ?_ ?_<;>intro he
  .have he':JF (sets b)[k].l=1:=BM he
   refine BB f17 (wrap_succ (show k<9223372036854775807 by have:=hb.num;omega)) ?_;refine⟨n-1,U,k+1,U,?_,?_,f15,f16,rfl,trivial⟩
   .rw[f3,t2,he'];simp
   .rw[t1,he'];simp
  .have hd':JF (sets b)[k].l≠2:=BM hd
   have he':JF (sets b)[k].l≠1:=BM he;refine BB f17 (wrap_succ (show k<9223372036854775807 by have:=hb.num;omega)) ?_;refine⟨n-1,U,k+1,U,?_,?_,f15,f16,rfl,trivial⟩
   .rw[f3,t2];simp [hd']
   .rw[f4,t1];simp [he']
 .rw[jJ U] at f3 f4
  have hE:=AP5 hn' h1.1 h1.2;refine BB f3 f4 ?_;refine BO ?_ ?_<;>intro hd
  .refine AB ?_
   exact⟨by rw[hE,if_pos hd],_,rfl⟩
  refine A7 f4 ?_;refine BO ?_ ?_<;>intro he
  .refine AB ?_
   exact⟨by rw[hE,if_neg (by rw[hd];simp),if_pos he],_,rfl⟩
  .refine AB ?_
   exact⟨by rw[hE,if_neg (by rw[hd];simp),if_neg (by rw[he];simp)],_,rfl⟩
end Go.Proofs.YtiihpnicbekebaaGreatDoor.Bins
namespace Go.Proofs.YtiihpnicbekebaaGreatDoor.Cov
open Sm Bins
variable (G:Nat->AV )
inductive Ex where
 | mk (op n:Int) (name:ByteArray) (m:SM) (args:List Ex)
def Ex.op:Ex->Int|.mk op _ _ _ _=>op
def Ex.n:Ex->Int|.mk _ n _ _ _=>n
def Ex.name:Ex->ByteArray|.mk _ _ name _ _=>name
def Ex.m:Ex->SM|.mk _ _ _ m _=>m
def Ex.args:Ex->List Ex|.mk _ _ _ _ args=>args
mutual
def A8:Ex->List AV
 | .mk op n name m args=>[.n op,.n n,.str name,.sl m 4 (AEI args)]
def AEI:List Ex->List (List AV)
 | []=>[]
 | e::es=>A8 e::AEI es
end
theorem uG:∀l:List Ex,AEI l=l.map A8
 | []=>by simp [AEI]
 | e::es=>by simp [AEI,uG es]
theorem FI (e:Ex):A8 e=[.n e.op,.n e.n,.str e.name,.sl e.m 4 (e.args.map A8)]:=by
 cases e;simp [A8,uG,Ex.op,Ex.n,Ex.name,Ex.m,Ex.args]
theorem EG (e:Ex):(A8 e).length=4:=by rw[FI];rfl
theorem J4 (e:Ex):(A8 e)[0]?=some (.n e.op):=by rw[FI];rfl
theorem eE (e:Ex):(A8 e)[1]?=some (.n e.n):=by rw[FI];rfl
theorem RI (e:Ex):(A8 e)[2]?=some (.str e.name):=by rw[FI];rfl
theorem YU (e:Ex):(A8 e)[3]?=some (.sl e.m 4 (e.args.map A8)):=by rw[FI];rfl
theorem VQ (e:Ex):(A8 e).all AV.leaf=true:=by rw[FI];rfl
theorem bxE (h:Hp)(e:Ex):MP h (.agg (A8 e))=some (.ptr h.length 0 0,h++[yE 4 [A8 e]]):=by
 have:=WX (h:=h) (VQ e);rw[EG] at this;exact this
theorem ldE (h:Hp)(e:Ex):BI jA (h++[yE 4 [A8 e]]) 79 (.ptr h.length 0 0)=some (.agg (A8 e)):=by
 rw[ZI O6 JE (by rw[EG];exact jF 4)];rw[zU,jJ (by rw[EG];exact jF 4)]
theorem IU {h:Hp}{b:Nat}{e:Ex}(hb:h[b]?=some (yE 4 [A8 e])):BI jA h 79 (.ptr b 0 0)=some (.agg (A8 e)):=by
 rw[ED O6 JE hb rfl (by rw[EG];exact jF 4)];rw[zU,jJ (by rw[EG];exact jF 4)]
mutual
def pre:Ex->List Ex
 | .mk op n name m args=>.mk op n name m args::FM args
def FM:List Ex->List Ex
 | []=>[]
 | e::es=>pre e++FM es
end
mutual
def dep:Ex->Nat
 | .mk _ _ _ _ args=>deps args+1
def deps:List Ex->Nat
 | []=>0
 | e::es=>max (dep e) (deps es)
end
mutual
def wt:Ex->Nat
 | .mk _ _ name _ args=>name.size+1+wts args
def wts:List Ex->Nat
 | []=>0
 | e::es=>wt e+wts es
end
theorem pre_eq (e:Ex):pre e=e::FM e.args:=by cases e;simp [pre,Ex.args]
theorem bZ (e:Ex):dep e=deps e.args+1:=by cases e;simp [dep,Ex.args]
theorem MQ (e:Ex):wt e=e.name.size+1+wts e.args:=by cases e;simp [wt,Ex.args,Ex.name]
theorem NS (xs ys:List Ex):FM (xs++ys)=FM xs++FM ys:=by
 induction xs with
 | nil=>simp [FM]
 | cons x xs ih=>simp [FM,ih]
theorem V5 (xs:List Ex):xs.length<=wts xs:=by
 induction xs with
 | nil=>simp [wts]
 | cons x xs ih=>have:=MQ x;simp [wts];omega
theorem V4 {xs:List Ex}{x:Ex}(h:x∈xs):wt x<=wts xs:=by
 induction xs with
 | nil=>cases h
 | cons y ys ih =>
   simp only[wts]
   cases List.mem_cons.1 h with
   | inl e=>subst e;omega
   | inr e=>have:=ih e;omega
theorem uK (xs:List Ex)(k:Nat)(h:k<xs.length):deps (xs.take (k+1))=max (deps (xs.take k)) (dep xs[k]):=by
 induction xs generalizing k with
 | nil=>simp at h
 | cons x xs ih =>
   cases k with
   | zero=>simp [deps]
   | succ k =>
     simp only[List.take_succ_cons,deps,List.getElem_cons_succ];rw[ih k (BM h),Nat.max_assoc]
theorem Ex.induct {P:Ex->Prop}(h:∀e:Ex,(∀a∈e.args,P a)->P e)(e:Ex):P e:=by
 have:∀n (e:Ex),wt e<=n->P e:=by
  intro n
  induction n with
  | zero=>intro e he;have:=MQ e;omega
  | succ n ih =>
    intro e he;refine h e fun a ha=>ih a ?_
    have h1:=V4 ha;have h2:=MQ e;omega
 exact this _ e (jF _)
theorem AT1 (e:Ex):dep e<=wt e:=by
 refine Ex.induct (P:=fun e=>dep e<=wt e) (fun e ih=>?_) e;rw[bZ,MQ]
 have:deps e.args<=wts e.args:=by
  generalize e.args=l at ih
  induction l with
  | nil=>simp [deps,wts]
  | cons x l ih2 =>
    have h1:=ih x BA;have h2:=ih2 (fun a ha=>ih a (by simp [ha]));simp only[deps,wts];omega
 omega
theorem WI (e:Ex):(pre e).length<=wt e:=by
 refine Ex.induct (P:=fun e=>(pre e).length<=wt e) (fun e ih=>?_) e;rw[pre_eq,MQ]
 have:(FM e.args).length<=wts e.args:=by
  generalize e.args=l at ih
  induction l with
  | nil=>simp [FM,wts]
  | cons x l ih2 =>
    have h1:=ih x BA;have h2:=ih2 (fun a ha=>ih a (by simp [ha]));simp only[FM,wts,List.length_append];omega
 simp;omega
def arity (op:Int):Int:=if op<1\/op>25 then -1 else if op=1\/op=2\/op=24 then 0 else if op=3\/op=4\/op=5\/op=6\/op=25 then 1 else if op=22 then 3 else if op=23 then -1 else 2
theorem AIN (op:Int)(h:Hp):PCall (En G) 299 [.n op] h (.n (arity op)):=by
 refine acT Tryz.func299 2 ?_;have hcase:op<1\/op>25\/op=1\/op=2\/op=3\/op=4\/op=5\/op=6\/op=7\/op=8\/op=9\/op=10\/op=11\/op=12\/op=13\/op=14\/op=15\/op=16\/op=17\/op=18\/op=19\/op=20\/op=21\/op=22\/op=23\/op=24\/op=25:=U;rcases hcase with h|h|rfl|rfl|rfl|rfl|rfl|rfl|rfl|rfl|rfl|rfl|rfl|rfl|rfl|rfl|rfl|rfl|rfl|rfl|rfl|rfl|rfl|rfl|rfl|rfl|rfl
 .have hne:∀k:Int,1<=k->(op==k)=false:=fun k hk=>beq_eq_false_iff_ne.2 U
  have hd:decide (op<1)=true:=by simp;omega
  have ha:arity op = -1:=by unfold arity;rw[if_pos (Or.inl h)]
  rw[ha];simp only[vQ,LG,EM,XE,CP,FZ,J7,↓reduceIte,jC,enX,enP,hne 1 DT,hne 2 DT,hne 3 DT,hne 4 DT,hne 5 DT,hne 6 DT,hne 7 DT,hne 8 DT,hne 9 DT,hne 10 DT,hne 11 DT,hne 12 DT,hne 13 DT,hne 14 DT,hne 15 DT,hne 16 DT,hne 17 DT,hne 18 DT,hne 19 DT,hne 20 DT,hne 21 DT,hne 22 DT,hne 23 DT,hne 24 DT,hne 25 DT,hd];exact H7
 .have hne:∀k:Int,k<=25->(op==k)=false:=fun k hk=>beq_eq_false_iff_ne.2 U
  have hd:decide (op<1)=false:=by simp;omega
  have hd2:decide (op>25)=true:=by simp;omega
  have ha:arity op = -1:=by unfold arity;rw[if_pos (Or.inr h)]
  rw[ha];simp only[vQ,LG,EM,CP,J7,J6,↓reduceIte,jC,enX,enP,hne 1 DT,hne 2 DT,hne 3 DT,hne 4 DT,hne 5 DT,hne 6 DT,hne 7 DT,hne 8 DT,hne 9 DT,hne 10 DT,hne 11 DT,hne 12 DT,hne 13 DT,hne 14 DT,hne 15 DT,hne 16 DT,hne 17 DT,hne 18 DT,hne 19 DT,hne 20 DT,hne 21 DT,hne 22 DT,hne 23 DT,hne 24 DT,hne 25 DT,hd,hd2];exact H7
 all_goals
  simp only[vQ,LG,kD,EM,CP,J7,J6,↓reduceIte,jC,decide_false,enX,enP,wE,Int.reduceLT,Int.reduceGT];exact⟨rfl,trivial⟩
theorem API (op:Int)(h:Hp):PCall (En G) 332 [.n op] h (.n (arity op)):=by
 refine acT Tryz.func332 2 ?_;have hcase:op<1\/op>25\/op=1\/op=2\/op=3\/op=4\/op=5\/op=6\/op=7\/op=8\/op=9\/op=10\/op=11\/op=12\/op=13\/op=14\/op=15\/op=16\/op=17\/op=18\/op=19\/op=20\/op=21\/op=22\/op=23\/op=24\/op=25:=U;rcases hcase with h|h|rfl|rfl|rfl|rfl|rfl|rfl|rfl|rfl|rfl|rfl|rfl|rfl|rfl|rfl|rfl|rfl|rfl|rfl|rfl|rfl|rfl|rfl|rfl|rfl|rfl
 .have hne:∀k:Int,1<=k->(op==k)=false:=fun k hk=>beq_eq_false_iff_ne.2 U
  have hd:decide (op<1)=true:=by simp;omega
  have ha:arity op = -1:=by unfold arity;rw[if_pos (Or.inl h)]
  rw[ha];simp only[vQ,LG,EM,XE,CP,FZ,J7,↓reduceIte,jC,enX,enP,hne 1 DT,hne 2 DT,hne 3 DT,hne 4 DT,hne 5 DT,hne 6 DT,hne 7 DT,hne 8 DT,hne 9 DT,hne 10 DT,hne 11 DT,hne 12 DT,hne 13 DT,hne 14 DT,hne 15 DT,hne 16 DT,hne 17 DT,hne 18 DT,hne 19 DT,hne 20 DT,hne 21 DT,hne 22 DT,hne 23 DT,hne 24 DT,hne 25 DT,hd];exact H7
 .have hne:∀k:Int,k<=25->(op==k)=false:=fun k hk=>beq_eq_false_iff_ne.2 U
  have hd:decide (op<1)=false:=by simp;omega
  have hd2:decide (op>25)=true:=by simp;omega
  have ha:arity op = -1:=by unfold arity;rw[if_pos (Or.inr h)]
  rw[ha];simp only[vQ,LG,EM,CP,J7,J6,↓reduceIte,jC,enX,enP,hne 1 DT,hne 2 DT,hne 3 DT,hne 4 DT,hne 5 DT,hne 6 DT,hne 7 DT,hne 8 DT,hne 9 DT,hne 10 DT,hne 11 DT,hne 12 DT,hne 13 DT,hne 14 DT,hne 15 DT,hne 16 DT,hne 17 DT,hne 18 DT,hne 19 DT,hne 20 DT,hne 21 DT,hne 22 DT,hne 23 DT,hne 24 DT,hne 25 DT,hd,hd2];exact H7
 all_goals
  simp only[vQ,LG,kD,CP,J7,↓reduceIte,jC,enX,enP,wE,Int.reduceLT,Int.reduceGT];exact⟨rfl,trivial⟩
def LX (op:Int):Bool:=op==2||op==3||op==24
theorem fL (op:Int)(h:Hp):PCall (En G) 331 [.n op] h (.bool (LX op)):=by
 refine acT Tryz.func331 2 ?_;refine AB ?_;cases ha:(op==2)<;>cases hb:(op==3)
 all_goals
  refine BB ha hb ?_;exact⟨by simp [LX,ha,hb],trivial⟩
def WM (op:Int)(n:Nat):Bool:=if op==23 then ((n:Int)%2==1)&&decide ((n:Int)≥3)&&decide ((n:Int)<=33) else ((n:Int)==arity op)
theorem rJ (e:Ex)(h:Hp):PCall (En G) 249 [.agg (A8 e)] h (.bool (WM e.op e.args.length)):=by
 refine ACalls.pure0 rfl ?_;refine acT Tryz.func249 2 ?_;refine MI @bxE @YU @J4 ?_;generalize he:e.args.length=n;have hm:(n:Int).tmod 2=(n:Int)%2:=Int.tmod_eq_emod_of_nonneg U;have b1:IG jA 3 .rem (.n (n:Int)) (.n 2)=some (.n ((n:Int)%2)):=by rw[AAA _ _ _ _ _ DT,hm]
 refine BO ?_ ?_<;>intro hc
 .refine A7 b1 ?_
  cases ha:((n:Int)%2==1)<;>cases hb:decide ((n:Int)≥3)
  all_goals
   refine BB ha hb ?_;exact⟨by unfold WM;rw[if_pos hc,ha,hb];simp,_,rfl⟩
 .refine aU @J4 ?_
  refine(AIN G e.op _).uu ?_;exact⟨by unfold WM;rw[if_neg (by rw[hc];decide)],_,rfl⟩
end Go.Proofs.YtiihpnicbekebaaGreatDoor.Cov
namespace Go.Proofs.YtiihpnicbekebaaGreatDoor.Cov
open Sm Bins Go.Shelf Go.RowKit
def AT7:Go.Shelf.Ren:=⟨fun|145=>232|220=>287|219=>323|217=>354|225=>355|224=>356|267=>357|266=>394|314=>395|n=>n,fun|9=>9|4=>4|59=>284|3=>3|5=>5|46=>344|146=>373|51=>364|n=>n,fun|1=>1|n=>n⟩
theorem BAU:Go.Proofs.Lays.n145 Tryz.prog AT7 := {
 mixed:=AZ,
 f145:=Tryz.func232.trans (congrArg some AZ),
 f217:=Tryz.func354.trans (congrArg some AZ),
 f219:=Tryz.func323.trans (congrArg some AZ),
 f220:=Tryz.func287.trans (congrArg some AZ),
 f224:=Tryz.func356.trans (congrArg some AZ),
 f225:=Tryz.func355.trans (congrArg some AZ),
 f266:=Tryz.func394.trans (congrArg some AZ),
 f267:=Tryz.func357.trans (congrArg some AZ),
 f314:=Tryz.func395.trans (congrArg some AZ),
 t3:=Tryz.underlying3,
 a3:=Tryz.isAgg3,
 z3:=Tryz.sizeOf3,
 v3:=Tryz.zeroValue3,
 t4:=Tryz.underlying4,
 a4:=Tryz.isAgg4,
 z4:=Tryz.sizeOf4,
 v4:=Tryz.zeroValue4,
 t5:=Tryz.underlying5,
 a5:=Tryz.isAgg5,
 z5:=Tryz.sizeOf5,
 v5:=Tryz.zeroValue5,
 t9:=Tryz.underlying9,
 a9:=Tryz.isAgg9,
 z9:=Tryz.sizeOf9,
 v9:=Tryz.zeroValue9,
 t46:=Tryz.underlying344,
 a46:=Tryz.isAgg344,
 z46:=Tryz.sizeOf344,
 v46:=Tryz.zeroValue344,
 t51:=Tryz.underlying364,
 a51:=Tryz.isAgg364,
 z51:=Tryz.sizeOf364,
 v51:=Tryz.zeroValue364,
 t59:=Tryz.underlying284,
 a59:=Tryz.isAgg284,
 z59:=Tryz.sizeOf284,
 v59:=Tryz.zeroValue284,
 t146:=Tryz.underlying373,
 a146:=Tryz.isAgg373,
 z146:=Tryz.sizeOf373,
 v146:=Tryz.zeroValue373,
 g1:=by kernel_rfl }
structure GOk (G:Nat->AV):Prop where
 kw:KwG G
 mx:∃n,G 1=.fptr 1 [[.n n]] 0 0
theorem ASY {G:Nat->AV}{g:Gh}{h:Hp}{w:World}{n:Nat}{k:IntKind}{z:Int}(S:SimH (En G) g h w)(hn:G n=.fptr 1 [[.int k z]] 0 0):w.cell? ⟨n,0,none⟩=some (.int k z):=by
 have:=S.glob n;rw[enG,hn] at this;generalize hp:Value.pointer (some ⟨n,0,none⟩)=p at this
 cases this with
 | fptr k' xs i j cb co c e fz cv h1 h2 h3 h4 =>
   simp only[Value.pointer.injEq,Option.some.injEq,Addr.mk.injEq] at hp;obtain⟨rfl,hco,_⟩:=hp;have h5:=h3 0 0 BA BA;have h6:=h4 0 0 _ _ rfl rfl;generalize cv 0 0=u at h5 h6;cases h6;simp only[World.cell?,S.fro _ _ h1];subst hco;exact h5
def cutV (s:ByteArray):AV:=.tup [.str ⟨(Lib.cut s.data.toList [91]).1.toArray⟩,.str ⟨(Lib.cut s.data.toList [91]).2.1.toArray⟩,.bool (Lib.cut s.data.toList [91]).2.2]
theorem oW (G:Nat->AV)(hG:GOk G)(s:ByteArray)(h:Hp)(hl:s.size<=1048576):PCall (En G) 232 [.str s,.str ⟨#[91]⟩] h (cutV s):=by
 refine PCall.of_reads (cok 232 G AZ) fun g w cargs S ha=>?_
 obtain⟨hsz,hget⟩:=ha
 obtain⟨cv0,cv1,rfl⟩:∃a b,cargs = #[a,b]:=by
  obtain⟨l⟩:=cargs
  match l,hsz with
  | [a,b],_=>exact⟨a,b,rfl⟩
 obtain rfl:=(hget 0 _ cv0 rfl rfl).str_inv;obtain rfl:=(hget 1 _ cv1 rfl rfl).str_inv;obtain⟨z,hz⟩:=hG.mx;have hc:=ASY S hz;have:=Any.strings_Cut BAU s ⟨#[91]⟩ z w U hc;refine⟨_,?_,this⟩;refine .tup _ _ rfl ?_;intro i v cv h1 h2
 match i,h1,h2 with
 | 0,h1,h2=>simp at h1 h2;subst h1;subst h2;exact .str _ _
 | 1,h1,h2=>simp at h1 h2;subst h1;subst h2;exact .str _ _
 | 2,h1,h2=>simp at h1 h2;subst h1;subst h2;exact .bool _ _
def JQ (s:ByteArray):Option (List UInt8×UInt8) :=
 if 4<=s.data.toList.length then match s.data.toList.drop (s.data.toList.length-3) with
  | [x,d,y]=>if(y==93&&x==91&&decide (48<=d.toNat)&&decide (d.toNat<56)&&E8 ⟨(s.data.toList.take (s.data.toList.length-3)).toArray⟩)=true then some (s.data.toList.take (s.data.toList.length-3),d) else none
  | _=>none
 else none
def elemV (o:Option (List UInt8×UInt8)):AV:=match o with
 | some (a,d)=>.tup [.str ⟨a.toArray⟩,.n ((d.toNat:Int)-48),.bool true]
 | none=>.tup [.str ⟨#[]⟩,.n 0,.bool false]
theorem QV {l:List UInt8}(h:E8 ⟨l.toArray⟩=true):l≠[]/\∀b∈l,b≠91:=by
 have hw:VE ⟨l.toArray⟩=true:=by
  unfold E8 at h;exact(Bool.and_eq_true_iff.1 (Bool.and_eq_true_iff.1 h).1).1
 unfold VE at hw;obtain⟨h1,h2⟩:=Bool.and_eq_true_iff.1 hw;refine⟨?_,?_⟩
 .intro e;subst e;cases h1
 .intro b hb e
  subst e;have:=List.all_eq_true.1 h2 91 hb
  revert this;decide
theorem three {l:List UInt8}(h:3<=l.length):∃a x d y,l=a++[x,d,y]:=by
 refine⟨l.take (l.length-3),?_⟩;have h1:(l.drop (l.length-3)).length=3:=by simp;omega
 match hm:l.drop (l.length-3),h1 with
 | [x,d,y],_=>exact⟨x,d,y,by rw[<-hm,yD]⟩
theorem eG {a:List UInt8}{x d y:UInt8}(ha:a≠[]):JQ ⟨(a++[x,d,y]).toArray⟩=if(y==93&&x==91&&decide (48<=d.toNat)&&decide (d.toNat<56)&&E8 ⟨a.toArray⟩)=true then some (a,d) else none:=by
 have hl:0<a.length:=List.length_pos_iff.2 ha;unfold JQ;simp only;rw[if_pos LD];have e:(a++[x,d,y]).length-3=a.length:=BA;rw[e,List.drop_left,List.take_left]
theorem oR (s:ByteArray):JQ s=if((Lib.cut s.data.toList [91]).2.2&&E8 ⟨(Lib.cut s.data.toList [91]).1.toArray⟩)=true then match (Lib.cut s.data.toList [91]).2.1 with
  | [d,y]=>if(y==93&&decide (48<=d.toNat)&&decide (d.toNat<56))=true then some ((Lib.cut s.data.toList [91]).1,d) else none
  | _=>none
 else none:=by
 obtain⟨⟨l⟩⟩:=s
 have hocc:∀i,Lib.occAt l [91] i=true↔l[i]?=some 91:=by
  intro i;unfold Lib.occAt;rcases Nat.lt_or_ge i l.length with h|h
  .rw[qC h,jI h]
   simp [List.isPrefixOf];exact eq_comm
  .rw[List.drop_eq_nil_of_le h,List.getElem?_eq_none h];simp [List.isPrefixOf]
 -- an element name of the reference's kind
 have main:∀a d,a≠[]->E8 ⟨a.toArray⟩=true->l=a++[91,d,93]->Lib.cut l [91]=(a,[d,93],true):=by
  intro a d ha hn hl;obtain⟨_,hne⟩:=QV hn
  have hi:Lib.index l [91]=(a.length:Int):=by
   refine Lib.index_first (by rw[hl];simp) ((hocc _).2 (by rw[hl];simp)) fun j hj=>?_
   rw[<-Bool.not_eq_true,hocc,hl,List.getElem?_append_left hj,jI hj];intro e;exact hne _ (List.getElem_mem hj) (Option.some.inj e)
  unfold Lib.cut;rw[hi,if_pos U,qB,hl,List.take_left,<-List.drop_drop,List.drop_left];rfl
 show JQ ⟨l.toArray⟩=_;rcases hcase:JQ ⟨l.toArray⟩ with _|⟨a,d⟩
 .symm
  show(if _ then _ else none)=none;simp only;split
  .rename_i hb
   rw[jM] at hb;split
   .rename_i d y hm
    split
    .rename_i hd
     exfalso;simp only[jM,beq_iff_eq,decide_eq_true_eq] at hd;obtain⟨⟨rfl,hd1⟩,hd2⟩:=hd;obtain⟨ha,_⟩:=QV hb.2;have hc:Lib.cut l [91]=((Lib.cut l [91]).1,[d,93],true):=by grind
     have hl:l=(Lib.cut l [91]).1++[91,d,93]:=by
      generalize (Lib.cut l [91]).1=b at hc;unfold Lib.cut at hc;split at hc
      .rename_i h0
       obtain⟨i,hi⟩:∃i:Nat,Lib.index l [91]=i:=⟨(Lib.index l [91]).toNat,U⟩;rw[hi] at hc;simp only[qB,Prod.mk.injEq,List.length_singleton] at hc;rcases Lib.index_spec l [91] with⟨h1,_⟩|⟨j,h1,_,h3,_⟩
       .omega
       .have hj:i=j:=U
        subst hj;have h4:=(hocc i).1 h3;have h5:i<l.length:=(List.getElem?_eq_some_iff.1 h4).1;have h6:l[i]=91:=by simp_all
        rw[<-hc.1]
        calc l=l.take i++l.drop i:=(yD i l).symm
         _=l.take i++(l[i]::l.drop (i+1)):=by rw[qC h5]
         _=l.take i++[91,d,93]:=by rw[h6,hc.2.1]
      .simp at hc
     have:=eG (x:=91) (d:=d) (y:=93) ha;rw[<-hl,hcase,if_pos (by simp [hb.2,hd1,hd2])] at this;cases this
    .rfl
   .rfl
  .rfl
 .have h4:4<=l.length:=by
   unfold JQ at hcase;simp only at hcase;split at hcase
   .assumption
   .cases hcase
  obtain⟨b,x,d',y,rfl⟩:=three (U:3<=l.length);have hb:b≠[]:=by intro e;subst e;simp at h4
  rw[eG hb] at hcase;split at hcase
  .simp_all
  .cases hcase
end Go.Proofs.YtiihpnicbekebaaGreatDoor.Cov
namespace Go.Proofs.YtiihpnicbekebaaGreatDoor.Cov
open Sm Bins Go.RowKit
variable {a ba c cb dd i k m m2 n u:Nat} {H h h':Hp} {v v1 v2 x:AV} {F:Fr} {row:List AV} {f:Int} {P:Program} {R:AV->Hp->Prop} (G:Nat->AV )
theorem ALO (l:List UInt8):(Lib.cut l [91]).1.length<=l.length:=by
 unfold Lib.cut;split
 .simp only[jZ];exact Nat.min_le_right _ _
 .exact jF _
theorem ixl {l:List UInt8}{b:UInt8}{i:Int}(hi:i=(k:Int))(hb:l[k]?=some b):PH jA 9 (.str ⟨l.toArray⟩) (.n i)=some (.int .u8 b.toNat):=by
 subst hi;have hk:k<l.length:=(List.getElem?_eq_some_iff.1 hb).1;have:=ix9 ⟨l.toArray⟩ k .i64 hk;rw[this];have h2:(⟨l.toArray⟩:ByteArray)[k]'hk=l[k]:=rfl;rw[h2];rw[jI hk] at hb;rw[Option.some.inj hb]
theorem szl (l:List UInt8):(⟨l.toArray⟩:ByteArray).size=l.length:=rfl
theorem wrap_u8 {n:Int}(h0:0<=n)(h1:n<256):IntKind.u8.wrap n=n:=by
 unfold IntKind.wrap;simp [IntKind.bits,IntKind.signed];omega
theorem yR (hG:GOk G)(s:ByteArray)(h:Hp)(hl:s.size<=1048576):PCall (En G) 300 [.str s] h (elemV (JQ s)):=by
 refine acL Tryz.func300 [.tmp 2,.tmp 3,.tmp 4] ?_;refine AB ?_;refine(oW G hG s h hl).use ?_;have he:=oR s;have hal:=ALO s.data.toList;unfold cutV
 generalize Lib.cut s.data.toList [91]=c at he hal|-
 obtain⟨a,b,f⟩:=c;have hal2:a.length<=s.size:=BM hal;refine AB ?_;cases f
 .refine AB ?_
  exact⟨by rw[he];rfl,trivial⟩
 refine AB ?_;refine(MH G hG.kw ⟨a.toArray⟩ h (by rw[szl];omega)).uu ?_;cases hn:E8 ⟨a.toArray⟩
 .refine AB ?_
  exact⟨by rw[he];simp [hn];rfl,trivial⟩
 refine A7 szl ?_;refine IZ ?_ ?_<;>intro hb
 .refine A7 hb ?_
  have hne:∀d y,b≠[d,y]:=by
   intro d y e;subst e;simp at hb
  have:JQ s=none:=by
   rw[he];split
   .split
    .rename_i hm;exact absurd hm (hne _ _)
    .rfl
   .rfl
  exact⟨by rw[this];rfl,trivial⟩
 have h2:b.length=2:=by simp at hb;omega
 match b,h2 with
 | [d,y],_ =>
   have i1:PH jA 9 (.str ⟨[d,y].toArray⟩) (.n 1)=some (.int .u8 y.toNat):=ixl (k:=1) rfl rfl;have i0:PH jA 9 (.str ⟨[d,y].toArray⟩) (.n 0)=some (.int .u8 d.toNat):=ixl (k:=0) rfl rfl
   have he2:JQ s=if(y==93&&decide (48<=d.toNat)&&decide (d.toNat<56))=true then some (a,d) else none:=by
    rw[he];simp [hn]
   clear he;refine DW hb i1 i0 ?_;refine IZ ?_ ?_<;>intro hc
   .refine A7 hc ?_
    have hy:(y==93)=false:=by
     rw[<-Bool.not_eq_true];intro e;rw[beq_iff_eq] at e;subst e;simp at hc
    exact⟨by rw[he2,hy];rfl,trivial⟩
   have hy:(y==93)=true:=by
    rw[beq_iff_eq,<-UInt8.toNat_inj];simp at hc;show y.toNat=93;omega
   refine BB hc i0 ?_;refine IZ ?_ ?_<;>intro hd
   .refine A7 hd ?_
    have:decide (48<=d.toNat)=false:=by simp at hd|-;omega
    exact⟨by rw[he2,this];simp;rfl,trivial⟩
   have hd1:48<=d.toNat:=by simp at hd;omega
   refine BB hd i0 ?_;refine BO ?_ ?_<;>intro hf
   .refine AB ?_
    have:decide (d.toNat<56)=false:=by simp at hf|-;omega
    exact⟨by rw[he2,this];simp;rfl,trivial⟩
   have hd2:d.toNat<56:=by simp at hf;omega
   refine AB ?_;refine D6 AZ ?_;refine NY @APX @vE @AT4 i0 (wrap_u8 (n:=(d.toNat:Int)-48) U U) (wrap_i64 (n:=(d.toNat:Int)-48) U U) ?_;exact⟨by rw[he2];simp [hy,hd1,hd2];rfl,trivial⟩
theorem mE {s:ByteArray}(hu:u<=s.size):IE jA h 9 (.str s) none (some (.n (u:Int))) none=some (.str (s.extract 0 u)):=by
 have:Tryz.prog.underlying 9=some .string:=AZ;simp [IE,this,H6,hu]
theorem ALG (a b:List UInt8):(⟨(a++b).toArray⟩:ByteArray).extract 0 a.length=⟨a.toArray⟩:=by
 ext1
 simp
theorem AML (s:ByteArray)(h:Hp)(hl:s.size<=1099511627776):PCall (En G) 369 [.str s] h (elemV (JQ s)):=by
 refine acL Tryz.func369 [.tmp 2,.tmp 3,.tmp 4] ?_;obtain⟨⟨l⟩⟩:=s;rw[szl] at hl;rcases zB l.length 4 with h4|h4
 .have hd:decide ((l.length:Int)<4)=true:=by simp;omega
  refine BB szl hd ?_
  have:JQ ⟨l.toArray⟩=none:=by
   unfold JQ;rw[if_neg];simp;omega
  exact⟨by rw[this];rfl,trivial⟩
 obtain⟨b,x,d,y,rfl⟩:=three (U:3<=l.length);have hlen:(b++[x,d,y]).length=b.length+3:=BA;rw[hlen] at hl h4;have hbl:0<b.length:=U;have hb:b≠[]:=List.length_pos_iff.1 hbl;have he:=eG (x:=x) (d:=d) (y:=y) hb;generalize hn:E8 ⟨b.toArray⟩=nm at he;have i1:PH jA 9 (.str ⟨(b++[x,d,y]).toArray⟩) (.n ((b.length:Int)+2))=some (.int .u8 y.toNat):=ixl (k:=b.length+2) U BA;have i2:PH jA 9 (.str ⟨(b++[x,d,y]).toArray⟩) (.n ((b.length:Int)+1))=some (.int .u8 d.toNat):=ixl (k:=b.length+1) U BA;have i3:PH jA 9 (.str ⟨(b++[x,d,y]).toArray⟩) (.n (b.length:Int))=some (.int .u8 x.toNat):=ixl (k:=b.length) rfl BA;have i4:=mE (s:=⟨(b++[x,d,y]).toArray⟩) (u:=b.length) (h:=h) (by rw[szl];omega);rw[ALG] at i4;have hsz:(⟨(b++[x,d,y]).toArray⟩:ByteArray).size=b.length+3:=by rw[szl,hlen]
 generalize (⟨(b++[x,d,y]).toArray⟩:ByteArray)=s at *;have w1:IntKind.i64.wrap (((b.length+3:Nat):Int)-1)=(b.length:Int)+2:=by rw[wrap_i64 U U];omega
 have w2:IntKind.i64.wrap (((b.length+3:Nat):Int)-2)=(b.length:Int)+1:=by rw[wrap_i64 U U];omega
 have w3:IntKind.i64.wrap (((b.length+3:Nat):Int)-3)=(b.length:Int):=by rw[wrap_i64 U U];omega
 have hd8:d.toNat<256:=d.toNat_lt;have w4:IntKind.i64.wrap (d.toNat:Int)=(d.toNat:Int):=wrap_i64 U U;have w5:IntKind.i64.wrap ((d.toNat:Int)-48)=(d.toNat:Int)-48:=wrap_i64 U U;have ha:decide (((b.length+3:Nat):Int)<4)=false:=by simp;omega
 refine Y2 hsz ha w1 w2 w3 i1 i2 i3 i4 ?_;refine IZ ?_ ?_<;>intro hc
 .refine A7 hc ?_
  have hy:(y==93)=false:=by
   rw[<-Bool.not_eq_true];intro e;rw[beq_iff_eq] at e;subst e;simp at hc
  exact⟨by rw[he,hy];simp;rfl,trivial⟩
 have hy:(y==93)=true:=by
  rw[beq_iff_eq,<-UInt8.toNat_inj];simp at hc;show y.toNat=93;omega
 refine Y2 hsz hc w1 w2 w3 i1 i2 i3 i4 ?_;refine BO ?_ ?_<;>intro hd
 .refine AB ?_
  have hx:(x==91)=false:=by
   rw[<-Bool.not_eq_true];intro e;rw[beq_iff_eq] at e;subst e;simp at hd
  exact⟨by rw[he,hx];simp;rfl,trivial⟩
 have hx:(x==91)=true:=by
  rw[beq_iff_eq,<-UInt8.toNat_inj];simp at hd;show x.toNat=91;omega
 refine cM @AT4 hsz w1 w2 w3 i1 i2 i3 i4 w4 w5 ?_;refine IZ ?_ ?_<;>intro hf
 .refine A7 hf ?_
  have:decide (48<=d.toNat)=false:=by simp at hf|-;omega
  exact⟨by rw[he,this];simp;rfl,trivial⟩
 have hd1:48<=d.toNat:=by simp at hf;omega
 refine A7 hf ?_;refine IZ ?_ ?_<;>intro hf
 .refine A7 hf ?_
  have:decide (d.toNat<56)=false:=by simp at hf|-;omega
  exact⟨by rw[he,this];simp;rfl,trivial⟩
 have hd2:d.toNat<56:=by simp at hf;omega
 refine A7 hf ?_;refine(TK G ⟨b.toArray⟩ h).use ?_;refine A7 hn ?_;cases nm
 .refine AB ?_
  exact⟨by rw[he];simp;rfl,trivial⟩
 .refine AB ?_
  exact⟨by rw[he];simp [hy,hx,hd1,hd2];rfl,trivial⟩
def FX (s:ByteArray):Bool:=(JQ s).isSome||E8 s
theorem oS (o:Option (List UInt8×UInt8)):∃a n,elemV o=.tup [.str a,.n n,.bool o.isSome]:=by
 cases o with
 | none=>exact⟨_,_,rfl⟩
 | some x=>exact⟨_,_,rfl⟩
theorem AHG (hG:GOk G)(s:ByteArray)(h:Hp)(hl:s.size<=1048576):PCall (En G) 250 [.str s] h (.bool (FX s)):=by
 refine acT Tryz.func250 2 ?_;refine AB ?_;refine(yR G hG s h hl).use ?_;obtain⟨a,n,e⟩:=oS (JQ s);rw[e];refine AB ?_;cases hs:(JQ s).isSome
 .refine AB ?_
  refine(MH G hG.kw s h U).uu ?_;exact⟨by unfold FX;rw[hs];rfl,trivial⟩
 .refine AB ?_
  exact⟨by unfold FX;rw[hs];rfl,trivial⟩
theorem AN8 (s:ByteArray)(h:Hp)(hl:s.size<=1048576):PCall (En G) 333 [.str s] h (.bool (FX s)):=by
 refine acT Tryz.func333 2 ?_;refine AB ?_;refine(AML G s h U).use ?_;obtain⟨a,n,e⟩:=oS (JQ s);rw[e];refine AB ?_;cases hs:(JQ s).isSome
 .refine AB ?_
  refine(TK G s h).uu ?_;exact⟨by unfold FX;rw[hs];rfl,trivial⟩
 .refine AB ?_
  exact⟨by unfold FX;rw[hs];rfl,trivial⟩
def PE (s:ByteArray):Bool:=s.toList==(⟨#[]⟩:ByteArray).toList
def badO (e:Ex):Bool:=decide (e.op<1)||decide (e.op>25)
def cD (e:Ex):Bool:=((e.op==1)&&(decide (e.n<0)||decide (e.n>65535)))||(!(e.op==1) && !(e.n==0))
def VT (e:Ex):Bool:=(!LX e.op && !PE e.name) || !WM e.op e.args.length
def VS (e:Ex):Bool:=((e.op==2) && !FX e.name)||(((e.op==3)||(e.op==24)) && !E8 e.name)
def HY (e:Ex):Int:=if badO e then 1 else if cD e then 1 else if VT e then 1 else if VS e then 7 else 0
theorem ANT (hG:GOk G)(e:Ex)(h:Hp)(hl:e.name.size<=1048576):PCall (En G) 172 [.agg (A8 e)] h (.n (HY e)):=by
 refine ACalls.pure0 rfl ?_;refine acT Tryz.func172 2 ?_;refine O7 @bxE @J4 ?_;refine SA (fun F H=>F 3=.bool (LX e.op)/\F 1=.ptr h.length 0 0/\H=h++[yE 4 [A8 e]]) ?_ ?_
 .cases b2:(e.op==2)<;>cases b3:(e.op==3)
  all_goals
   refine MI b2 b3 @J4 ?_;exact⟨by simp [LX,b2,b3],trivial,trivial⟩
 rintro F H ⟨f3,f1,rfl⟩;refine MI f1 f3 @J4 ?_;refine SA (fun F H=>F 17=.bool (badO e)/\F 3=.bool (LX e.op)/\F 1=.ptr h.length 0 0/\H=h++[yE 4 [A8 e]]) ?_ ?_
 .cases b2:decide (e.op<1)
  all_goals
   refine QD b2 f1 f3 @J4 ?_;exact⟨by simp [badO,b2],trivial,trivial,trivial⟩
 clear f1 f3;rintro F H ⟨f17,f3,f1,rfl⟩;refine A7 f17 ?_;refine BO ?_ ?_<;>intro ho
 .refine AB ?_
  exact⟨by unfold HY;rw[if_pos ho],_,rfl⟩
 refine QD f1 f3 @J4 @eE ?_;refine SA (fun F H=>F 26=.bool (cD e)/\F 3=.bool (LX e.op)/\F 1=.ptr h.length 0 0/\H=h++[yE 4 [A8 e]]) ?_ ?_
 .cases b1:(e.op==1)<;>cases b2:decide (e.n<0)<;>cases b3:decide (e.n>65535)<;>cases b4:(e.n==0)
  all_goals
   simp only[vQ,EM,QH,eX,XE,APR,CP,FZ,J6,↓reduceIte,jC,qP,enP,YQ,yF,bne,b1,b2,b3,b4,f1,f3,D7 ag3,J4,eE];exact⟨by simp [cD,b1,b2,b3,b4],trivial,trivial,trivial⟩
 clear f1 f3 f17;rintro F H ⟨f26,f3,f1,rfl⟩;refine A7 f26 ?_;refine BO ?_ ?_<;>intro hn
 .refine AB ?_
  exact⟨by unfold HY;rw[if_neg (by simp [ho]),if_pos hn],_,rfl⟩
 refine MI f1 f3 @RI ?_;refine SA (fun F H=>F 50=.bool (VT e)/\F 3=.bool (LX e.op)/\F 1=.ptr h.length 0 0/\H=h++[yE 4 [A8 e]]) ?_ ?_
 .cases bm:LX e.op<;>cases b5:PE e.name
  all_goals
   have b6:=b5;unfold PE at b6;simp only[vQ,EM,QH,eX,XE,CP,FZ,gZ,pI,↓reduceIte,jC,qP,enP,oF,bne,bm,b6,f1,f3,D7 ag9,RI,ldE]
  .exact⟨by simp [VT,bm,b5],trivial,trivial,trivial⟩
  all_goals
   refine(rJ G e _).use ?_;simp only[vQ,EM,CP,rB,XT,↓reduceIte,jC,bne,bm,f1,f3];exact⟨by simp [VT,bm,b5],trivial,trivial,trivial⟩
 clear f1 f3 f26;rintro F H ⟨f50,f3,f1,rfl⟩;refine A7 f50 ?_;refine BO ?_ ?_<;>intro hs
 .refine AB ?_
  exact⟨by unfold HY;rw[if_neg (by simp [ho]),if_neg (by simp [hn]),if_pos hs],_,rfl⟩
 refine QD f1 f3 @J4 @RI ?_
 have fin:∀b,VS e=b->HY e=if b then 7 else 0:=by
  intro b hb;unfold HY;rw[if_neg (by simp [ho]),if_neg (by simp [hn]),if_neg (by simp [hs]),hb]
 cases b2:(e.op==2)
 .refine aT b2 f1 f3 @J4 @RI ?_
  cases b3:(e.op==3)<;>cases b4:(e.op==24)
  all_goals
   refine aS b3 b4 f1 f3 @J4 @RI ?_
  .exact⟨by rw[fin false (by simp [VS,b2,b3,b4])];rfl,_,rfl⟩
  all_goals
   refine(MH G hG.kw e.name _ U).use ?_;cases bi:E8 e.name
   .refine AB ?_
    exact⟨by rw[fin true (by simp [VS,b2,b3,b4,bi])];rfl,_,rfl⟩
   .refine AB ?_
    exact⟨by rw[fin false (by simp [VS,b2,b3,b4,bi])];rfl,_,rfl⟩
 .have e2:e.op=2:=BM b2
  refine aT b2 f1 f3 @J4 @RI ?_;refine(AHG G hG e.name _ hl).use ?_;cases bi:FX e.name
  .refine AB ?_
   exact⟨by rw[fin true (by simp [VS,b2,bi])];rfl,_,rfl⟩
  .refine MI f1 @J4 e2 ?_
   exact⟨by rw[fin false (by simp [VS,e2,bi])];rfl,_,rfl⟩
def pM (e:Ex):Bool:=badO e||decide (e.n<0)||decide (e.n>65535)||(!(e.n==0) && !(e.op==1))||(!PE e.name && !LX e.op)
def AFG (op:Int)(n:Nat):Bool:=((op==23)&&(decide ((n:Int)<3)||decide ((n:Int)>33)||((n:Int)%2==0)))||(!(op==23) && !((n:Int)==arity op))
theorem AZ5 (op:Int)(n:Nat):AFG op n = !WM op n:=by
 unfold AFG WM;rcases hc:(op==23) with _|_
 .simp
 .grind
theorem AZ6 (e:Ex):(pM e||AFG e.op e.args.length)=(badO e||cD e||VT e):=by
 rw[AZ5];unfold pM cD VT;rcases h1:(e.op==1) with _|_
 .grind
 .grind
theorem fK (e:Ex):HY e=if pM e then 1 else if AFG e.op e.args.length then 1 else if VS e then 7 else 0:=by
 have:=AZ6 e;unfold HY
 revert this
 cases pM e<;>cases AFG e.op e.args.length<;>cases badO e<;>cases cD e<;>cases VT e<;>simp
theorem AMA (e:Ex)(h:Hp)(hl:e.name.size<=1048576):PCall (En G) 310 [.agg (A8 e)] h (.n (HY e)):=by
 refine ACalls.pure0 rfl ?_;refine acT Tryz.func310 2 ?_;refine O7 @bxE @J4 ?_;refine SA (fun F H=>F 42=.bool (pM e)/\F 1=.ptr h.length 0 0/\H=h++[yE 4 [A8 e]]) ?_ ?_
 .cases b1:decide (e.op<1)
  case true =>
   refine A7 b1 ?_;exact⟨by simp [pM,badO,b1],trivial,trivial⟩
  refine MI b1 @J4 @eE ?_;cases b2:decide (e.op>25)
  case true =>
   refine A7 b2 ?_;exact⟨by simp [pM,badO,b2],trivial,trivial⟩
  refine MI b2 @J4 @eE ?_;have bO:badO e=false:=by unfold badO;rw[b1,b2];rfl
  cases b3:decide (e.n<0)
  case true =>
   refine A7 b3 ?_;exact⟨by simp only[pM,b3];simp,trivial,trivial⟩
  refine MI b3 @J4 @eE ?_;cases b4:decide (e.n>65535)
  case true =>
   refine A7 b4 ?_;exact⟨by simp only[pM,b4];simp,trivial,trivial⟩
  simp only[vQ,EM,CP,↓reduceIte,jC,enP,yF,b4,bne,D7 ag3,D7 ag9,J4,eE,RI]
  have fin:∀b,((!(e.n==0) && !(e.op==1))||(!PE e.name && !LX e.op))=b->pM e=b:=by
   intro b hb;unfold pM;rw[bO,b3,b4];simpa using hb
  cases b5:(e.n==0)<;>cases b6:(e.op==1)<;>cases b7:PE e.name
  all_goals
   have b8:=b7;unfold PE at b8;simp only[vQ,EM,QH,eX,XE,APR,CP,FZ,gZ,pI,↓reduceIte,jC,qP,enP,YQ,oF,bne,b5,b6,b8,D7 ag3,D7 ag9,J4,eE,RI]
  all_goals first
   | exact⟨by rw[fin _ rfl];simp [b5,b6,b7],trivial,trivial⟩
   | refine(fL G e.op _).uu ?_
     exact⟨by rw[fin _ rfl];simp [b5,b6,b7],trivial,trivial⟩
 rintro F H ⟨f42,f1,rfl⟩;refine A7 f42 ?_;refine BO ?_ ?_<;>intro ho
 .refine AB ?_
  exact⟨by rw[fK,if_pos ho],_,rfl⟩
 refine MI f1 @J4 @YU ?_;generalize hn:e.args.length=n;have hm:(n:Int).tmod 2=(n:Int)%2:=Int.tmod_eq_emod_of_nonneg U;have br:IG jA 3 .rem (.n (n:Int)) (.n 2)=some (.n ((n:Int)%2)):=by rw[AAA _ _ _ _ _ DT,hm]
 refine SA (fun F H=>F 73=.bool (AFG e.op n)/\F 1=.ptr h.length 0 0/\H=h++[yE 4 [A8 e]]) ?_ ?_
 .cases b1:(e.op==23)
  .simp only[vQ,EM,QH,eX,APR,CP,FZ,↓reduceIte,jC,enP,YQ,bne,b1,f1,D7 ag3,J4]
   refine(API G e.op _).use ?_;simp only[vQ,EM,QH,CP,↓reduceIte,jC,enP,bne];exact⟨by unfold AFG;rw[b1];simp,f1,trivial⟩
  .cases b2:decide ((n:Int)<3)<;>cases b3:decide ((n:Int)>33)<;>cases b4:((n:Int)%2==0)
   all_goals
    simp only[vQ,EM,QH,eX,XE,APR,CP,FZ,J7,J6,↓reduceIte,jC,qP,enP,YQ,bne,b1,b2,b3,b4,br,f1,D7 ag3,J4];exact⟨by unfold AFG;rw[b1,b2,b3,b4];simp,trivial,trivial⟩
 clear f1 f42;rintro F H ⟨f73,f1,rfl⟩;refine A7 f73 ?_;subst hn;refine BO ?_ ?_<;>intro hs
 .refine AB ?_
  exact⟨by rw[fK,if_neg (by simp [ho]),if_pos hs],_,rfl⟩
 refine MI f1 @J4 @RI ?_
 have fin:∀b,VS e=b->HY e=if b then 7 else 0:=by
  intro b hb;rw[fK,if_neg (by simp [ho]),if_neg (by simp [hs]),hb]
 cases b2:(e.op==2)
 .refine QD b2 f1 @J4 @RI ?_
  refine(fL G e.op _).use ?_;cases bm:LX e.op
  .have hv:VS e=false:=by
    unfold LX at bm;simp only[Bool.or_eq_false_iff] at bm;simp [VS,bm.1.1,bm.1.2,bm.2]
   refine AB ?_;exact⟨by rw[fin false hv];rfl,_,rfl⟩
  have hv:VS e = !E8 e.name:=by
   unfold LX at bm;rw[b2] at bm;simp only[wP] at bm;unfold VS;rw[b2,bm];simp
  simp only[vQ,EM,QH,CP,↓reduceIte,jC,enP,YQ,oF,bne,b2,f1,D7 ag9,D7 ag3,J4,RI];refine(TK G e.name _).use ?_;cases bi:E8 e.name
  .refine AB ?_
   exact⟨by rw[fin true (by rw[hv,bi];rfl)];rfl,_,rfl⟩
  .refine AB ?_
   exact⟨by rw[fin false (by rw[hv,bi];rfl)];rfl,_,rfl⟩
 .have e2:e.op=2:=BM b2
  have hv:VS e = !FX e.name:=by
   unfold VS;rw[e2];simp
  refine QD b2 f1 @J4 @RI ?_;refine(AN8 G e.name _ hl).use ?_;cases bi:FX e.name
  .refine AB ?_
   exact⟨by rw[fin true (by rw[hv,bi];rfl)];rfl,_,rfl⟩
  .refine O7 f1 @J4 ?_
   refine(fL G e.op _).use ?_;have bm:LX e.op=true:=by rw[e2];rfl
   simp only[vQ,EM,QH,eX,CP,FZ,↓reduceIte,jC,qP,enP,YQ,bne,bm,f1,D7 ag3,J4,b2];exact⟨by rw[fin false (by rw[hv,bi];rfl)];rfl,_,rfl⟩
theorem ag230:JP jA 230=some false:=AZ
theorem sz230:szO jA 230=some 1:=AZ
theorem RQ (h:Hp):GH jA h 79=some (.ptr h.length 0 0,h++[yE 4 [[.n 0,.n 0,.str ⟨#[]⟩,.sl .nil 0 []]]]):=FB (row:=[.n 0,.n 0,.str ⟨#[]⟩,.sl .nil 0 []]) AZ
theorem rF (h:Hp)(e:Ex)(row:List AV)(hr:row.length=4):DU jA (h++[yE 4 [row]]) 79 (.ptr h.length 0 0) (.agg (A8 e))=some (h++[yE 4 [A8 e]]):=by
 rw[SX (PG (VQ e)) (by rw[EG];exact JE) (by rw[EG,hr];exact jF _)];have:splice row 0 (A8 e)=A8 e:=by unfold splice;simp [EG,hr]
 rw[this]
theorem BBS (h:Hp):GH jA h 38=some (.ptr h.length 0 0,h++[yE 1 [[.n 0]]]):=FB (row:=[.n 0]) AZ
theorem al3 (h:Hp):GH jA h 3=some (.ptr h.length 0 0,h++[yE 1 [[.n 0]]]):=FB (row:=[.n 0]) AZ
theorem A14 (h:Hp):GH jA h 230=some (.ptr h.length 0 0,h++[yE 1 [[.nilfn]]]):=FB (row:=[.nilfn]) AZ
theorem GN {h:Hp}{t:TypeId}{b:Nat}{v:AV}(hag:JP jA t=some false)(hb:h[b]?=some (yE 1 [[v]])):BI jA h t (.ptr b 0 0)=some v:=by
 rw[BC hag hb (row:=[v]) rfl];rfl
theorem UO {t:TypeId}{b:Nat}{u:AV}(hs:szO jA t=some 1)(hc:IB u=some [u])(hb:h[b]?=some (yE 1 [[v]])):DU jA h t (.ptr b 0 0) u=some (h.set b (yE 1 [[u]])):=by
 rw[G8 hc hs hb (row:=[v]) rfl BA];rfl
theorem BBB (h:Hp)(f:Fn)(a b:List AV):MP h (.fn f a b)=some (.ptr h.length 0 0,h++[yE 1 [[.fn f a b]]]):=rfl
def Chg (c:Nat)(h h':Hp):Prop:=h.length<=h'.length/\∀b,b<h.length->b≠c->h'[b]?=h[b]?
theorem Chg.refl (c:Nat)(h:Hp):Chg c h h:=⟨jF _,fun _ _ _=>rfl⟩
theorem Chg.trans {a b d:Hp}(h1:Chg c a b)(h2:Chg c b d):Chg c a d :=
 ⟨qJ h1.1 h2.1,fun i hi hc=>by rw[h2.2 i (Nat.lt_of_lt_of_le hi h1.1) hc,h1.2 i hi hc]⟩
theorem Chg.app (c:Nat)(h x:Hp):Chg c h (h++x):=⟨BA,fun i hi _=>qM hi⟩
theorem Chg.set (c:Nat)(h:Hp)(x:ABlk):Chg c h (h.set c x):=⟨BA,fun i _ hc=>by rw[zQ,if_neg (fun e=>hc e.symm)]⟩
theorem Chg.get {b:Nat}{x:ABlk}(hc:Chg c h h')(hb:h[b]?=some x)(hne:b≠c):h'[b]?=some x:=by
 rw[hc.2 b (AC hb) hne];exact hb
theorem Chg.above (hc:Chg c h h')(hl:h.length<=c):∃x,h'=h++x:=by
 refine⟨h'.drop h.length,?_⟩
 have:h'.take h.length=h:=by
  refine List.ext_getElem? fun i=>?_
  rcases zB i h.length with hi|hi
  .rw[List.getElem?_take_of_lt hi,hc.2 i hi U]
  .grind
 conv=>lhs;rw[<-yD h.length h',this]
def run (upd:Ex->Int->Int)(cont:Int->Bool):List Ex->Int->Int×Bool
 | [],z=>(z,true)
 | e::es,z=>if cont (upd e z) then run upd cont es (upd e z) else (upd e z,false)
theorem run_go {upd:Ex->Int->Int}{cont:Int->Bool}:∀ {xs:List Ex} (ys:List Ex) {z z':Int},run upd cont xs z=(z',true)->run upd cont (xs++ys) z=run upd cont ys z'
 | [],ys,z,z',h=>by cases h;rfl
 | x::xs,ys,z,z',h=>by
   simp only[run,zF] at h|-
   split at h
   .rename_i hc;rw[if_pos hc];exact run_go ys h
   .cases h
theorem run_stop {upd:Ex->Int->Int}{cont:Int->Bool}:∀ {xs:List Ex} (ys:List Ex) {z z':Int},run upd cont xs z=(z',false)->run upd cont (xs++ys) z=(z',false)
 | [],ys,z,z',h=>by cases h
 | x::xs,ys,z,z',h=>by
   simp only[run,zF] at h|-
   split at h
   .rename_i hc;rw[if_pos hc];exact run_stop ys h
   .rename_i hc;rw[if_neg hc];exact h
theorem LW (xs:List Ex)(j:Nat)(hj:j<xs.length):FM (xs.take (j+1))=FM (xs.take j)++pre xs[j]:=by
 rw[jU hj,NS];simp [FM]
theorem ZB {a:Ex}:∀ {xs:List Ex},a∈xs->∀x∈pre a,x∈FM xs
 | [],h,_,_=>by cases h
 | y::ys,h,x,hx=>by
   simp only[FM,zK]
   cases zN.1 h with
   | inl e=>subst e;exact .inl hx
   | inr e=>exact .inr (ZB e x hx)
def AL6 (G:Nat->AV)(k:FuncId)(upd:Ex->Int->Int)(cont:Int->Bool)(e:Ex):Prop :=
 ∀(h:Hp) (c:Nat) (z:Int),h[c]?=some (yE 1 [[.n z]])->ACalls (En G) k [.agg (A8 e),.ptr c 0 0] h fun v h'=>v=.bool (cont (upd e z))/\Chg c h h'/\h'[c]?=some (yE 1 [[.n (upd e z)]])
theorem AO0 (k:FuncId)(upd:Ex->Int->Int)(cont:Int->Bool)(c vb db:Nat)(hv:vb≠c)(hd:db≠c)(e:Ex):
  wt e<=1099511627776->(∀x∈pre e,AL6 G k upd cont x)->∀(h:Hp) (z:Int),h[c]?=some (yE 1 [[.n z]])->h[vb]?=some (yE 1 [[.fn (.func k) [] [.ptr c 0 0]]]) ->
   h[db]?=some (yE 1 [[.fn (.func 248) [] [.ptr vb 0 0,.ptr db 0 0]]]) ->
   ACalls (En G) 248 [.agg (A8 e),.ptr vb 0 0,.ptr db 0 0] h fun v h'=>v=.bool (run upd cont (pre e) z).2/\Chg c h h'/\h'[c]?=some (yE 1 [[.n (run upd cont (pre e) z).1]]):=by
 induction e using Ex.induct with|h e ih=>?_
 intro hw hvis h z hc hvb hdb;have hcl:=AC hc;have hal:e.args.length<=1099511627776:=by have:=V5 e.args;have:=MQ e;omega
 refine acT Tryz.func248 4 ?_;simp only[vQ,CP,TB,qH,zF,↓reduceIte,jC,enP,bxE,GN ag230 (AO hvb),ldE];refine(hvis e (by rw[pre_eq];simp) _ c z (AO hc)).mono ?_;rintro v h1 ⟨rfl,hch,hc1⟩;have hch0:=(Chg.app c h _).trans hch;have hb3:h1[h.length]?=some (yE 4 [A8 e]):=hch.get (AX _ _) U;have hrun:run upd cont (pre e) z=if cont (upd e z) then run upd cont (FM e.args) (upd e z) else (upd e z,false):=by rw[pre_eq];rfl
 refine AB ?_;cases hct:cont (upd e z)
 .refine AB ?_
  rw[hrun,hct];exact⟨rfl,hch0,hc1⟩
 rw[hct,if_pos rfl] at hrun;have hvb1:=hch0.get hvb hv;have hdb1:=hch0.get hdb hd;have l3:BI jA h1 23 (.ptr h.length 0 3)=some (.sl e.m 4 (e.args.map A8)):=by rw[BC LM hb3 (row:=A8 e) rfl,YU]
 refine A7 l3 ?_;refine BK (fun n F H=>∃j z',n+j=e.args.length/\F 1=.ptr vb 0 0/\F 2=.ptr db 0 0/\F 12=.sl e.m 4 (e.args.map A8)/\F 13=.n e.args.length/\F 14=.n (j:Nat)/\Chg c h H/\H[c]?=some (yE 1 [[.n z']])/\run upd cont (FM (e.args.take j)) (upd e z)=(z',true)) e.args.length ⟨0,upd e z,BA,ER,ER,ER,ER,ER,hch0,hc1,rfl⟩ ?_;rintro n F H ⟨j,z',hj,f1,f2,f12,f13,f14,hC,hcz,hr⟩;refine BB f13 f14 ?_;refine D9 ?_ ?_<;>intro hj'
 .have hdH:H[db]?=some (yE 1 [[.fn (.func 248) [] [.ptr vb 0 0,.ptr db 0 0]]]):=hC.get hdb hd
  have hvH:H[vb]?=some (yE 1 [[.fn (.func k) [] [.ptr c 0 0]]]):=hC.get hvb hv;simp only[vQ,CP,qH,zF,↓reduceIte,jC,enP,PZ,jQ,f12,f14,CZ hj',DJ O6 JE EG hj',RQ,rF _ _ [.n 0,.n 0,.str ⟨#[]⟩,.sl .nil 0 []] rfl,f2,GN ag230 (AO hdH),ldE];have hmem:e.args[j]∈e.args:=jG hj';refine(ih e.args[j] hmem (by have:=V4 hmem;have:=MQ e;omega) (fun x hx=>hvis x (by rw[pre_eq];exact yB _ (ZB hmem x hx))) _ z' (AO hcz) (AO hvH) (AO hdH)).mono ?_;rintro v h2 ⟨rfl,hch2,hc2⟩;have hC2:=hC.trans ((Chg.app c H _).trans hch2)
  have hsplit:FM e.args=FM (e.args.take j)++(pre e.args[j]++FM (e.args.drop (j+1))):=by
   rw[<-zG,<-LW _ _ hj',<-NS,yD]
  refine AB ?_;rcases hrr:run upd cont (pre e.args[j]) z' with⟨z2,b2⟩;rw[hrr] at hc2;cases b2
  .refine AB ?_
   have:run upd cont (pre e) z=(z2,false):=by rw[hrun,hsplit,run_go _ hr];exact run_stop _ hrr
   rw[this];exact⟨rfl,hC2,hc2⟩
  .refine NY f1 f2 f12 f13 f14 (DC j) ?_
   refine⟨n-1,U,j+1,z2,U,trivial,trivial,trivial,trivial,rfl,hC2,hc2,?_⟩;rw[LW _ _ hj',run_go _ hr];exact hrr
 .refine AB ?_
  rw[jJ U] at hr;rw[hrun,hr];exact⟨rfl,hC,hcz⟩
theorem sI (k:FuncId)(upd:Ex->Int->Int)(cont:Int->Bool)(c:Nat)(e:Ex)(hw:wt e<=1099511627776)(hvis:∀x∈pre e,AL6 G k upd cont x)(h:Hp)(z:Int)(hc:h[c]?=some (yE 1 [[.n z]])):
  ACalls (En G) 170 [.agg (A8 e),.fn (.func k) [] [.ptr c 0 0]] h fun _ h'=>Chg c h h'/\h'[c]?=some (yE 1 [[.n (run upd cont (pre e) z).1]]):=by
 have hcl:=AC hc;refine acL Tryz.func170 [] ?_;refine DW @bxE @BBB A14 ?_;have g0:(h++[yE 4 [A8 e]]++[yE 1 [[AV.fn (.func k) [] [.ptr c 0 0]]]]++[yE 1 [[AV.nilfn]]])[(h++[yE 4 [A8 e]]++[yE 1 [[AV.fn (.func k) [] [.ptr c 0 0]]]]).length]?=some (yE 1 [[.nilfn]]):=AX _ _;simp only[vQ,CP,↓reduceIte,jC,enP,UO sz230 (A2A _ _ _) g0]
 generalize hdb:(h++[yE 4 [A8 e]]++[yE 1 [[AV.fn (.func k) [] [.ptr c 0 0]]]]).length=db at g0|-
 generalize hvb:(h++[yE 4 [A8 e]]).length=vb;have hvl:vb=h.length+1:=by rw[<-hvb];simp
 have hdl:db=h.length+2:=by rw[<-hdb];simp
 generalize hH:(h++[yE 4 [A8 e]]++[yE 1 [[AV.fn (.func k) [] [.ptr c 0 0]]]]++[yE 1 [[AV.nilfn]]]).set db (yE 1 [[AV.fn (.func 248) [] [.ptr vb 0 0,.ptr db 0 0]]])=H;have h1:H[db]?=some (yE 1 [[.fn (.func 248) [] [.ptr vb 0 0,.ptr db 0 0]]]):=by rw[<-hH];exact CV g0
 have h2:H[vb]?=some (yE 1 [[.fn (.func k) [] [.ptr c 0 0]]]):=by grind
 have h3:H[h.length]?=some (yE 4 [A8 e]):=by grind
 have h4:H[c]?=some (yE 1 [[.n z]]):=by grind
 have hC:Chg c h H:=by
  refine⟨by rw[<-hH];simp,fun b hb hbc=>?_⟩;obtain⟨x,hx⟩:∃x,h[b]?=some x:=⟨_,jI hb⟩;rw[<-hH,hx];exact C9 (AO (AO (AO hx))) U
 simp only[vQ,CP,qH,zF,↓reduceIte,jC,enP,GN ag230 h1,IU h3];refine(AO0 G k upd cont c vb db U U e hw hvis H z h4 h2 h1).mono ?_;rintro v h' ⟨rfl,hch,hc1⟩;refine A7 @gH ?_;exact⟨hC.trans hch,hc1⟩
theorem AGI (e:Ex):AL6 G 251 (fun _ z=>IntKind.i64.wrap (z+1)) (fun _=>true) e:=by
 intro h c z hc;have hcl:=AC hc;refine acT Tryz.func251 3 ?_;simp only[vQ,CP,TB,↓reduceIte,jC,enP,jQ,bxE,GN ag3 (AO hc),UO sz3 (YZ _ _) (AO hc)];exact⟨trivial,(Chg.app c h _).trans (Chg.set c _ _),CV (AO hc)⟩
theorem AD5 (hG:GOk G)(e:Ex)(hl:e.name.size<=1048576):AL6 G 171 (fun e _=>HY e) (fun z=>z==0) e:=by
 intro h c z hc;have hcl:=AC hc;refine acT Tryz.func171 3 ?_;refine BB @bxE @ldE ?_;refine(ANT G hG e _ hl).use ?_;have hs:=CV (y:=yE 1 [[.n (HY e)]]) (AO (x:=yE 4 [A8 e]) hc);simp only[vQ,CP,J7,↓reduceIte,jC,enP,jQ,UO A2L (YZ _ _) (AO hc),GN AU4 hs];exact⟨trivial,(Chg.app c h _).trans (Chg.set c _ _),hs⟩
theorem ABR:∀(xs:List Ex) (n:Nat),n+xs.length<=1099511627776->run (fun _ z=>IntKind.i64.wrap (z+1)) (fun _=>true) xs (n:Int)=(((n+xs.length:Nat):Int),true)
 | [],n,_=>rfl
 | x::xs,n,h=>by
   simp only[zT] at h;simp only[run,if_true];rw[wrap_succ U,ABR xs (n+1) U,zT];congr 1;omega
def errs (xs:List Ex):Int:=xs.foldl (fun z e=>if z=0 then HY e else z) 0
theorem yP:∀(xs:List Ex) (z:Int),z≠0->xs.foldl (fun z e=>if z=0 then HY e else z) z=z
 | [],_,_=>rfl
 | x::xs,z,h=>by rw[qW,if_neg h];exact yP xs z h
theorem ABT:∀(xs:List Ex),(run (fun e _=>HY e) (fun z=>z==0) xs 0).1=errs xs
 | []=>rfl
 | x::xs=>by
   simp only[run,errs,qW,if_true];rcases hn:(HY x==0) with _|_
   .have:HY x≠0:=BM hn
    rw[yP _ _ this];rfl
   .have:HY x=0:=BM hn
    rw[this];simp only[if_true];exact ABT xs
theorem ACE {x e:Ex}(hx:x∈pre e):x.name.size<=wt e:=by
 induction e using Ex.induct with|h e ih=>?_
 rw[pre_eq] at hx;have hw:=MQ e;rcases zN.1 hx with rfl|hx
 .omega
 have:∀l:List Ex,(∀a∈l,x∈pre a->x.name.size<=wt a)->x∈FM l->x.name.size<=wts l:=by
  intro l
  induction l with
  | nil=>intro _ h;simp [FM] at h
  | cons y l ih2 =>
    intro hh h;simp only[FM,zK] at h;simp only[wts];rcases h with h|h
    .have:=hh y BA h;omega
    .have:=ih2 (fun a ha=>hh a (by simp [ha])) h;omega
 have:=this e.args (fun a ha=>ih a ha) hx;omega
theorem size_prog (e:Ex)(h:Hp)(hw:wt e<=1099511627776):PCall (En G) 174 [.agg (A8 e)] h (.n (pre e).length):=by
 refine ACalls.pure0 rfl ?_;refine acT Tryz.func174 2 ?_;have hg:=AX (h++[yE 4 [A8 e]]) (yE 1 [[.n 0]]);have hs:(h++[yE 4 [A8 e]]++[yE 1 [[.n 0]]]).set (h++[yE 4 [A8 e]]).length (yE 1 [[.n 0]])=h++[yE 4 [A8 e]]++[yE 1 [[.n 0]]]:=vL _ _ _;simp only[vQ,CP,TB,QJ,↓reduceIte,jC,enP,jQ,bxE,al3,UO sz3 (YZ _ _) hg,hs,IU (AO (AX h _))];refine(sI G 251 _ _ _ e hw (fun x _=>AGI G x) _ 0 hg).mono ?_;rintro v h' ⟨hch,hc1⟩;refine A7 (GN ag3 hc1) ?_;have:=ABR (pre e) 0 (by have:=WI e;omega);simp only[jH] at this;exact⟨by rw[show(0:Int)=((0:Nat):Int) from rfl,this],(((Chg.app _ h _).trans (Chg.app _ _ _)).trans hch).above BA⟩
theorem AH4 (e:Ex):wt e<=1099511627776->∀h:Hp,PCall (En G) 173 [.agg (A8 e)] h (.n (dep e)):=by
 induction e using Ex.induct with|h e ih=>?_
 intro hw h;have hal:e.args.length<=1099511627776:=by have:=V5 e.args;have:=MQ e;omega
 refine ACalls.pure0 rfl ?_;refine acT Tryz.func173 2 ?_;refine O7 @bxE @YU ?_;have hdw:dep e<=1099511627776:=qJ (AT1 e) hw;refine BK (fun n F H=>∃j,n+j=e.args.length/\F 3=.n (deps (e.args.take j):Nat)/\F 7=.sl e.m 4 (e.args.map A8)/\F 8=.n e.args.length/\F 9=.n (j:Nat)/\∃x,H=h++x) e.args.length ⟨0,BA,ER,ER,ER,ER,⟨_,rfl⟩⟩ ?_;rintro n F H ⟨j,hj,f3,f7,f8,f9,x,rfl⟩;refine BB f8 f9 ?_;refine D9 ?_ ?_<;>intro hj'
 .have hmem:e.args[j]∈e.args:=jG hj'
  simp only[vQ,CP,↓reduceIte,jC,enP,PZ,jQ,f3,f7,f9,CZ hj',DJ O6 JE EG hj',RQ,rF _ _ [.n 0,.n 0,.str ⟨#[]⟩,.sl .nil 0 []] rfl,ldE];refine(ih e.args[j] hmem (by have:=V4 hmem;have:=MQ e;omega) _).use ?_;refine NY @AI3 @xG f7 f8 f9 (DC j) ?_;refine⟨n-1,U,j+1,U,?_,trivial,trivial,rfl,_,by rw[zG]⟩;rw[uK _ _ hj'];congr 1;omega
 .rw[jJ U] at f3
  rw[bZ] at hdw|-
  refine BB f3 (DC (deps e.args)) ?_;exact⟨trivial,x,rfl⟩
def exE (e:Ex):Int:=if errs (pre e)=0/\(24<dep e\/400<(pre e).length) then 2 else errs (pre e)
def WN (e:Ex):Prop:=wt e<=274877906944/\∀x∈pre e,x.name.size<=1048576
theorem AVD {e:Ex}(hw:wt e<=1048576):WN e:=⟨U,fun x hx=>by have:=ACE hx;omega⟩
theorem aL (hG:GOk G)(e:Ex)(h:Hp)(hn:WN e):PCall (En G) 96 [.agg (A8 e)] h (.n (exE e)):=by
 refine ACalls.pure0 rfl ?_;refine acT Tryz.func96 2 ?_;have hg:=AX (h++[yE 4 [A8 e]]) (yE 1 [[.n 0]]);have hs:(h++[yE 4 [A8 e]]++[yE 1 [[.n 0]]]).set (h++[yE 4 [A8 e]]).length (yE 1 [[.n 0]])=h++[yE 4 [A8 e]]++[yE 1 [[.n 0]]]:=vL _ _ _;have hb:=AO (x:=yE 1 [[.n 0]]) (AX h (yE 4 [A8 e]));have hw:=hn.1;simp only[vQ,CP,TB,QJ,↓reduceIte,jC,enP,jQ,bxE,BBS,UO A2L (YZ _ _) hg,hs,IU hb];refine(sI G 171 _ _ _ e U (fun x hx=>AD5 G hG x (hn.2 x hx)) _ 0 hg).mono ?_;rintro v h' ⟨hch,hc1⟩;rw[ABT] at hc1;have hb':=hch.get hb BA;have hab:=(((Chg.app _ h _).trans (Chg.app _ _ _)).trans hch).above (BA:h.length<=(h++[yE 4 [A8 e]]).length);refine A7 (GN AU4 hc1) ?_;rcases he:(errs (pre e)==0) with _|_
 .refine A7 (GN AU4 hc1) ?_
  have:errs (pre e)≠0:=BM he;exact⟨by unfold exE;rw[if_neg (fun hh=>this hh.1)],hab⟩
 have he0:errs (pre e)=0:=BM he;refine A7 (IU hb') ?_;refine(AH4 G e U _).uu ?_;refine IZ ?_ ?_<;>intro hd
 .refine A7 hd ?_
  exact⟨by unfold exE;rw[if_pos ⟨he0,.inl (by simp at hd;omega)⟩],hab⟩
 refine BB hd (IU hb') ?_;refine(size_prog G e _ U).uu ?_;refine BO ?_ ?_<;>intro hn
 .refine AB ?_
  exact⟨by unfold exE;rw[if_pos ⟨he0,.inr (by simp at hn;omega)⟩],hab⟩
 .refine A7 (GN AU4 hc1) ?_
  exact⟨by unfold exE;rw[if_neg (fun hh=>by simp at hn hd;omega)],hab⟩
theorem OG (hG:GOk G)(e:Ex)(h:Hp)(hw:wt e<=1048576):PCall (En G) 96 [.agg (A8 e)] h (.n (exE e)):=aL G hG e h (AVD hw)
theorem TY {E:Env}{H:Hint}{x y:Code}{Q:AEx->Fr->Hp->Prop}{b:Bool}(N R:Fr->Hp->Prop)(h1:b=true->awp E H x F h (AG7 N R))(h2:b=false->awp E H y F h (AG7 N R))(hn:∀F h,N F h->Q .normal F h)(hr:∀F h,R F h->Q .ret F h):
 kC E H x y F h Q (.bool b):=⟨fun e=>lP N R (h1 e) hn hr,fun e=>lP N R (h2 e) hn hr⟩
def isB (v:AV)(b:Nat):Prop:=match v with
 | .own b' _ _=>b'=b
 | _=>False
def sv (h:Hp)(m:Nat)(v:AV):Prop:=∃vs:List ByteArray,vs.length<=m/\((vs=[]/\∃k,v=.sl .nil k [])\/∃b,v=.own b 0 vs.length/\h[b]?=some (yE 1 (vs.map qencStr)))
theorem AYJ (k:Nat)(v:ByteArray)(h:Hp):PCall (En G) 311 [.sl .nil k [],.str v] h (.bool false):=by
 refine acT Tryz.func311 4 ?_;refine AB ?_;refine BK (fun n F H=>F 0=.sl .nil k []/\F 5=.n 0/\H=h) 0 ⟨rfl,rfl,rfl⟩ ?_;rintro n F H ⟨f0,f5,rfl⟩;refine O7 f0 f5 ?_;have:decide ((0:Int)<((0:Nat):Int))=false:=BA;refine A7 @this ?_;exact H7
theorem row_map {α:Type}{f:α->List AV}{xs:List α}(hk:k<xs.length):(xs.map f)[k]?=some (f xs[k]):=by simp_all
theorem FO {x:Hp}{y:ABlk}{b:Nat}(hb:h[b]?=some y):(h++x)[b]?=some y:=by grind
theorem AYI (xs:List ByteArray)(b:Nat)(v:ByteArray)(h:Hp)(hb:h[b]?=some (yE 1 (xs.map qencStr)))(hl:xs.length<=1099511627776):
  PCall (En G) 311 [.own b 0 xs.length,.str v] h (.bool (JR xs v)):=by
 refine acT Tryz.func311 4 ?_;refine AB ?_;refine BK (fun n F H=>∃k,n+k=xs.length/\F 0=.own b 0 xs.length/\F 1=.str v/\F 5=.n (k:Nat)/\H=h/\JR xs v=JR (xs.drop k) v) xs.length ⟨0,BA,rfl,rfl,rfl,rfl,rfl⟩ ?_;rintro n F H ⟨k,hk,f0,f1,f5,rfl,hin⟩;refine DW f0 f1 f5 ?_;refine D9 ?_ ?_<;>intro hc'
 .have hs:JR (xs.drop k) v=((v.toList==xs[k].toList)||JR (xs.drop (k+1)) v):=UE _ xs k hc'
  have l1:BI jA H 9 (.ptr b k 0)=some (.str xs[k]):=by rw[BC ag9 hb (row:=qencStr xs[k]) (row_map hc')];rfl
  simp only[vQ,CP,UB,↓reduceIte,jC,enP,aJ,f0,f1,f5,GM hb hc',l1];refine BO ?_ ?_<;>intro hb
  .refine AB ?_
   refine⟨?_,trivial⟩;rw[hin,hs,show(v.toList==xs[k].toList)=true by rw[BEq.comm];exact hb];rfl
  .refine BB f5 (DC k) ?_
   refine⟨n-1,U,k+1,U,f0,f1,rfl,trivial,?_⟩;rw[hin,hs,show(v.toList==xs[k].toList)=false by rw[BEq.comm];exact hb];rfl
 .refine AB ?_
  exact⟨by rw[hin,zJ U];rfl,trivial⟩
theorem ASW (s:ByteArray)(hv:sv h m v)(hm:m<=1099511627776):∃r,PCall (En G) 311 [v,.str s] h (.bool r):=by
 obtain⟨vs,hl,⟨_,k,rfl⟩|⟨b,rfl,hb⟩⟩:=hv
 .exact⟨_,AYJ G k s h⟩
 .exact⟨_,AYI G vs b s h hb U⟩
theorem AUI (h:Hp)(s:ByteArray):DF jA false h 121 1 [(0,.str s)]=some (.sl .full 1 [[.str s]],h):=AZ
theorem AUZ (s:ByteArray)(hv:sv h m v)(hm:m<=1099511627776):∃v' h',EQ jA true h 121 121 v (.sl .full 1 [[.str s]])=some (v',h')/\sv h' (m+1) v'/\(∀b,isB v' b->b=h.length) /\
  h.length<=h'.length/\∀b,b<h.length->¬isB v b->h'[b]?=h[b]? := by
 obtain⟨vs,hl,⟨rfl,k,rfl⟩|⟨b,rfl,hb⟩⟩:=hv
 .refine⟨_,_,QZ AQB sz9 APV AUC (GK h .full 1 [[.str s]]) BA (G5 BA U),⟨[s],BA,.inr ⟨h.length,rfl,AX _ _⟩⟩,fun b hb=>hb.symm,BA,fun b hb _=>qM hb⟩
 .have hc:I9 h (.own b 0 vs.length)=some (1,vs.map qencStr):=by
   rw[JS hb BA,zU,jJ BA]
  refine⟨_,_,QB AQB sz9 APV AUC hc (GK h .full 1 [[.str s]]) BA (by unfold room;simp;omega),⟨vs++[s],by simp;omega,.inr ⟨h.length,BA,by simp [qencStr]⟩⟩,fun b hb=>hb.symm,BA,fun o ho hn=>?_⟩;rw[qM (BM ho)];have hn':¬b=o:=hn;rw[zQ,if_neg hn']
def wRow (n dd:Nat)(f:Int)(v1 v2:AV):List AV:=[.n n,.n dd,.n f,v1,v2]
structure St (h:Hp) (c m1 m2 n dd:Nat) (f:Int) (v1 v2:AV):Prop where
 w:h[c]?=some (yE 5 [wRow n dd f v1 v2])
 s1:sv h m1 v1
 s2:sv h m2 v2
 ap:∀b,isB v1 b->¬isB v2 b
theorem sv.b {h:Hp}{m:Nat}{v:AV}{b:Nat}(hs:sv h m v)(hb:isB v b):∃vs:List ByteArray,h[b]?=some (yE 1 (vs.map qencStr)):=by
 obtain⟨vs,_,⟨_,k,rfl⟩|⟨b',rfl,h'⟩⟩:=hs
 .exact hb.elim
 .cases hb;exact⟨vs,h'⟩
theorem sv.ne {b:Nat}(hs:sv h m v)(hc:h[c]?=some (yE 5 [row]))(hb:isB v b):b≠c:=by
 intro e;subst e;obtain⟨vs,h'⟩:=hs.b hb;rw[h'] at hc;cases hc
theorem sv.keep {m':Nat}(hs:sv h m v)(hm:m<=m')(hk:∀b,isB v b->h'[b]?=h[b]?):sv h' m' v:=by
 obtain⟨vs,hl,⟨e,k,rfl⟩|⟨b,rfl,hb⟩⟩:=hs
 .exact⟨vs,U,.inl ⟨e,k,rfl⟩⟩
 .exact⟨vs,U,.inr ⟨b,rfl,by rw[hk b rfl];exact hb⟩⟩
structure Ch (c:Nat) (v1 v2:AV) (h:Hp) (v1' v2':AV) (h':Hp):Prop where
 len:h.length<=h'.length
 get:∀b,b<h.length->b≠c->¬isB v1 b->¬isB v2 b->h'[b]?=h[b]?
 n1:∀b,isB v1' b->isB v1 b\/h.length<=b
 n2:∀b,isB v2' b->isB v2 b\/h.length<=b
theorem Ch.refl (c:Nat)(v1 v2:AV)(h:Hp):Ch c v1 v2 h v1 v2 h:=⟨jF _,fun _ _ _ _ _=>rfl,fun _ h=>.inl h,fun _ h=>.inl h⟩
theorem Ch.trans {u1 u2 w1 w2:AV}{a b d:Hp}(h1:Ch c v1 v2 a u1 u2 b)(h2:Ch c u1 u2 b w1 w2 d):Ch c v1 v2 a w1 w2 d:=by
 refine⟨qJ h1.len h2.len,fun i hi hc hv hu=>?_,fun i hi=>?_,fun i hi=>?_⟩
 .rw[h2.get i (Nat.lt_of_lt_of_le hi h1.len) hc (fun e=>(h1.n1 i e).elim hv (fun e=>U)) (fun e=>(h1.n2 i e).elim hu (fun e=>U)),h1.get i hi hc hv hu]
 .rcases h2.n1 i hi with h|h
  .exact h1.n1 i h
  .exact .inr (qJ h1.len h)
 .rcases h2.n2 i hi with h|h
  .exact h1.n2 i h
  .exact .inr (qJ h1.len h)
theorem Ch.app (c:Nat)(v1 v2:AV)(h x:Hp):Ch c v1 v2 h v1 v2 (h++x):=⟨BA,fun _ hi _ _ _=>qM hi,fun _ h=>.inl h,fun _ h=>.inl h⟩
theorem Ch.set (c:Nat)(v1 v2:AV)(h:Hp)(x:ABlk):Ch c v1 v2 h v1 v2 (h.set c x):=⟨BA,fun _ _ hc _ _=>by rw[zQ,if_neg (fun e=>hc e.symm)],fun _ h=>.inl h,fun _ h=>.inl h⟩
theorem St.app {m1:Nat}(s:St h c m1 m2 n dd f v1 v2)(x:Hp):St (h++x) c m1 m2 n dd f v1 v2:=by
 have keep:∀v m,sv h m v->sv (h++x) m v:=fun v m hv=>hv.keep (jF _) fun b hb=>by
  obtain⟨vs,h'⟩:=hv.b hb;exact qM (AC h')
 exact⟨FO s.w,keep _ _ s.s1,keep _ _ s.s2,s.ap⟩
theorem St.set {h:Hp}{c m1 m2 n dd:Nat}{f:Int}{v1 v2:AV}(s:St h c m1 m2 n dd f v1 v2)(n' dd':Nat)(f':Int):St (h.set c (yE 5 [wRow n' dd' f' v1 v2])) c m1 m2 n' dd' f' v1 v2:=by
 have keep:∀v m,sv h m v->sv (h.set c (yE 5 [wRow n' dd' f' v1 v2])) m v:=fun v m hv=>hv.keep (jF _) fun b hb=>by
  rw[zQ,if_neg (fun e=>hv.ne s.w hb e.symm)]
 exact⟨CV s.w,keep _ _ s.s1,keep _ _ s.s2,s.ap⟩
section
variable {h:Hp} {c m1 m2 n dd:Nat} {f:Int} {v1 v2:AV} (s:St h c m1 m2 n dd f v1 v2)
include s
theorem St.l0:BI jA h 3 (.ptr c 0 0)=some (.n n):=by rw[BC ag3 s.w (row:=wRow n dd f v1 v2) rfl];rfl
theorem St.l1:BI jA h 3 (.ptr c 0 1)=some (.n dd):=by rw[BC ag3 s.w (row:=wRow n dd f v1 v2) rfl];rfl
theorem St.l2:BI jA h 38 (.ptr c 0 2)=some (.n f):=by rw[BC AU4 s.w (row:=wRow n dd f v1 v2) rfl];rfl
theorem St.l3:BI jA h 121 (.ptr c 0 3)=some v1:=by rw[BC uX s.w (row:=wRow n dd f v1 v2) rfl];rfl
theorem St.l4:BI jA h 121 (.ptr c 0 4)=some v2:=by rw[BC uX s.w (row:=wRow n dd f v1 v2) rfl];rfl
theorem St.t0 (x:Nat):DU jA h 3 (.ptr c 0 0) (.n x)=some (h.set c (yE 5 [wRow x dd f v1 v2])):=by
 rw[G8 (YZ _ _) sz3 s.w (row:=wRow n dd f v1 v2) rfl (by simp [wRow])];rfl
theorem St.t1 (x:Nat):DU jA h 3 (.ptr c 0 1) (.n x)=some (h.set c (yE 5 [wRow n x f v1 v2])):=by
 rw[G8 (YZ _ _) sz3 s.w (row:=wRow n dd f v1 v2) rfl (by simp [wRow])];rfl
theorem St.t2 (x:Int):DU jA h 38 (.ptr c 0 2) (.n x)=some (h.set c (yE 5 [wRow n dd x v1 v2])):=by
 rw[G8 (YZ _ _) A2L s.w (row:=wRow n dd f v1 v2) rfl (by simp [wRow])];rfl
end
theorem St.app3 {m1:Nat}(s:St h c m1 m2 n dd f v1 v2)(x:ByteArray)(hm:m1<=1099511627776):
  ∃ v' h',EQ jA true h 121 121 v1 (.sl .full 1 [[.str x]])=some (v',h')/\DU jA h' 121 (.ptr c 0 3) v'=some (h'.set c (yE 5 [wRow n dd f v' v2])) /\
    St (h'.set c (yE 5 [wRow n dd f v' v2])) c (m1+1) m2 n dd f v' v2/\Ch c v1 v2 h v' v2 (h'.set c (yE 5 [wRow n dd f v' v2])):=by
 obtain⟨v',h',ha,hs,hb,hl,hk⟩:=AUZ x s.s1 hm;have hc1:¬isB v1 c:=fun e=>s.s1.ne s.w e rfl
 have hc2:¬isB v2 c:=fun e=>s.s2.ne s.w e rfl
 have hcl:=AC s.w;have hw:h'[c]?=some (yE 5 [wRow n dd f v1 v2]):=by rw[hk c hcl hc1];exact s.w
 have hvc:∀b,isB v' b->b≠c:=fun b hb' e=>by have:=hb b hb';omega
 have hac:IB v'=some [v']:=by
  obtain⟨vs,_,⟨_,k,rfl⟩|⟨b,rfl,_⟩⟩:=hs<;>rfl
 refine⟨v',h',ha,by rw[G8 hac AQJ hw (row:=wRow n dd f v1 v2) rfl (by simp [wRow])];rfl,⟨CV hw,hs.keep (jF _) fun b hb'=>?_,s.s2.keep (jF _) fun b hb'=>?_,fun b h1 h2=>?_⟩,⟨BM hl,fun b hbl hne h1 h2=>?_,fun b hb'=>.inr (by rw[hb b hb'];exact jF _),fun b hb'=>.inl hb'⟩⟩
 .grind
 .obtain⟨_,hx⟩:=s.s2.b hb'
  rw[zQ,if_neg (fun e=>hc2 (by rw[e];exact hb')),hk b (AC hx) (fun e=>s.ap b e hb')]
 .obtain⟨_,hx⟩:=s.s2.b h2
  have:=hb b h1;have:=AC hx;omega
 .grind
theorem St.app4 {m1:Nat}(s:St h c m1 m2 n dd f v1 v2)(x:ByteArray)(hm:m2<=1099511627776):
  ∃ v' h',EQ jA true h 121 121 v2 (.sl .full 1 [[.str x]])=some (v',h')/\DU jA h' 121 (.ptr c 0 4) v'=some (h'.set c (yE 5 [wRow n dd f v1 v'])) /\
    St (h'.set c (yE 5 [wRow n dd f v1 v'])) c m1 (m2+1) n dd f v1 v'/\Ch c v1 v2 h v1 v' (h'.set c (yE 5 [wRow n dd f v1 v'])):=by
 obtain⟨v',h',ha,hs,hb,hl,hk⟩:=AUZ x s.s2 hm;have hc1:¬isB v1 c:=fun e=>s.s1.ne s.w e rfl
 have hc2:¬isB v2 c:=fun e=>s.s2.ne s.w e rfl
 have hcl:=AC s.w;have hw:h'[c]?=some (yE 5 [wRow n dd f v1 v2]):=by rw[hk c hcl hc2];exact s.w
 have hvc:∀b,isB v' b->b≠c:=fun b hb' e=>by have:=hb b hb';omega
 have hac:IB v'=some [v']:=by
  obtain⟨vs,_,⟨_,k,rfl⟩|⟨b,rfl,_⟩⟩:=hs<;>rfl
 refine⟨v',h',ha,by rw[G8 hac AQJ hw (row:=wRow n dd f v1 v2) rfl (by simp [wRow])];rfl,⟨CV hw,s.s1.keep (jF _) fun b hb'=>?_,hs.keep (jF _) fun b hb'=>?_,fun b h1 h2=>?_⟩,⟨BM hl,fun b hbl hne h1 h2=>?_,fun b hb'=>.inl hb',fun b hb'=>.inr (by rw[hb b hb'];exact jF _)⟩⟩
 .obtain⟨_,hx⟩:=s.s1.b hb'
  rw[zQ,if_neg (fun e=>hc1 (by rw[e];exact hb')),hk b (AC hx) (fun e=>s.ap b hb' e)]
 .grind
 .obtain⟨_,hx⟩:=s.s1.b h1
  have:=hb b h2;have:=AC hx;omega
 .grind
def Z8 (z:Int)(xs:List Ex):Int:=xs.foldl (fun z e=>if z=0 then HY e else z) z
theorem AEC (z:Int)(xs ys:List Ex):Z8 z (xs++ys)=Z8 (Z8 z xs) ys:=List.foldl_append
theorem St.weak {m1 m1' m2':Nat}(s:St h c m1 m2 n dd f v1 v2)(h1:m1<=m1')(h2:m2<=m2'):St h c m1' m2' n dd f v1 v2 :=
 ⟨s.w,s.s1.keep h1 fun _ _=>rfl,s.s2.keep h2 fun _ _=>rfl,s.ap⟩
def Md (e:Ex)(c d:Nat)(v1 v2:AV)(h:Hp)(m1 m2 n dd:Nat)(f:Int)(F:Nat->AV)(H:Hp):Prop :=
 F 0=.ptr c 0 0/\F 2=.n (d:Nat)/\F 4=.ptr h.length 0 0/\∃u1 u2,St H c m1 m2 n dd f u1 u2/\Ch c v1 v2 (h++[yE 4 [A8 e]]) u1 u2 H
theorem ACC (xs:List Ex):(FM xs).length<=wts xs:=by
 induction xs with
 | nil=>simp [FM,wts]
 | cons x xs ih=>have:=WI x;simp only[FM,wts,jX];omega
theorem AAR:∀(xs:List Ex) (j:Nat) (hj:j<xs.length),wts (xs.take j)+wt xs[j]<=wts xs
 | x::xs,0,_=>by simp [wts]
 | x::xs,j+1,h=>by
   have:=AAR xs j (BM h);simp only[List.take_succ_cons,wts,List.getElem_cons_succ];omega
theorem eH:∀(xs:List Ex) (j:Nat),deps (xs.take j)<=wts xs
 | [],j=>by simp [deps,wts]
 | x::xs,0=>by simp [deps]
 | x::xs,j+1=>by
   have h1:=eH xs j;have h2:=AT1 x;simp only[List.take_succ_cons,deps,wts];omega
theorem AWF (c:Nat)(e:Ex):WN e->∀(h:Hp) (d n dd:Nat) (f:Int) (v1 v2:AV),d+wt e<=549755813888->n+wt e<=549755813888->dd<=1099511627776->St h c n n n dd f v1 v2 ->
  ACalls (En G) 270 [.ptr c 0 0,.agg (A8 e),.n (d:Nat)] h fun _ h'=>∃u1 u2,St h' c (n+(pre e).length) (n+(pre e).length) (n+(pre e).length) (max dd (d+deps e.args)) (Z8 f (pre e)) u1 u2/\Ch c v1 v2 h u1 u2 h':=by
 induction e using Ex.induct with|h e ih=>?_
 intro hwn h d n dd f v1 v2 hd hn hdd s;have hw:=hwn.1;have hnm:e.name.size<=1048576:=hwn.2 e (by rw[pre_eq];simp);have hal:e.args.length<=wts e.args:=V5 e.args;have hwe:=MQ e;have hcl:=AC s.w
 have hbox:∀(u1 u2:AV) (H:Hp),Ch c v1 v2 (h++[yE 4 [A8 e]]) u1 u2 H->H[h.length]?=some (yE 4 [A8 e]):=by
  intro u1 u2 H hC;rw[hC.get h.length BA U (fun hb=>?_) (fun hb=>?_)]
  .exact AX _ _
  .obtain⟨_,hx⟩:=s.s1.b hb
   have:=AC hx;omega
  .obtain⟨_,hx⟩:=s.s2.b hb
   have:=AC hx;omega
 have lb0:∀H:Hp,H[h.length]?=some (yE 4 [A8 e])->BI jA H 3 (.ptr h.length 0 0)=some (.n e.op):=fun H hH=>by rw[BC ag3 hH (row:=A8 e) rfl,J4]
 have lb2:∀H:Hp,H[h.length]?=some (yE 4 [A8 e])->BI jA H 9 (.ptr h.length 0 2)=some (.str e.name):=fun H hH=>by rw[BC ag9 hH (row:=A8 e) rfl,RI]
 have lb3:∀H:Hp,H[h.length]?=some (yE 4 [A8 e])->BI jA H 23 (.ptr h.length 0 3)=some (.sl e.m 4 (e.args.map A8)):=fun H hH=>by rw[BC LM hH (row:=A8 e) rfl,YU]
 refine IP (H:=hint [56,85] []) (enM G) Tryz.func270 rfl (by kernel_rfl) (by kernel_rfl) (jB (by kernel_rfl)) ?_;show awp _ _ _ _ _ (L6 _ [] _);have s0:=s.app [yE 4 [A8 e]];have c0:=Ch.app c v1 v2 h [yE 4 [A8 e]];refine NY @ALA @yI @bxE @s0.l0 (DC n) @s0.t0 ?_;have s1:=s0.set (n+1) dd f;have c1:=Ch.set c v1 v2 (h++[yE 4 [A8 e]]) (yE 5 [wRow (n+1) dd f v1 v2]);clear s0
 generalize (h++[yE 4 [A8 e]]).set c (yE 5 [wRow (n+1) dd f v1 v2])=H1 at s1 c1|-
 refine A7 @s1.l1 ?_;refine TY (Md e c d v1 v2 h n n (n+1) (max dd d) f) (fun _ _=>False) (fun hb=>?_) (fun hb=>?_) ?_ (fun _ _ hh=>hh.elim)
 .refine BB @yI @s1.t1 ?_
  refine⟨rfl,rfl,rfl,v1,v2,?_,c1.trans (Ch.set c _ _ _ _)⟩;have:max dd d=d:=by simp at hb;omega
  rw[this];exact s1.set (n+1) d f
 .refine AB ?_
  refine⟨rfl,rfl,rfl,v1,v2,?_,c1⟩;have:max dd d=dd:=by simp at hb;omega
  rw[this];exact s1
 clear s1 c1;rintro F H ⟨f0,f2,f4,u1,u2,s,hC⟩;refine DW @eA f0 @s.l2 ?_;refine TY (Md e c d v1 v2 h n n (n+1) (max dd d) (Z8 f [e])) (fun _ _=>False) (fun hb=>?_) (fun hb=>?_) ?_ (fun _ _ hh=>hh.elim)
 .refine ES f0 f2 f4 (IU (hbox _ _ _ hC)) ?_
  refine(AMA G e _ hnm).use ?_;refine JI @eA @s.t2 f0 f2 f4 ?_;refine⟨f0,f2,f4,u1,u2,?_,hC.trans (Ch.set c _ _ _ _)⟩
  have:Z8 f [e]=HY e:=by
   have:f=0:=BM hb;subst this;rfl
  rw[this];exact s.set _ _ _
 .refine AB ?_
  refine⟨f0,f2,f4,u1,u2,?_,hC⟩
  have:Z8 f [e]=f:=by
   have:f≠0:=BM hb;show(if f=0 then HY e else f)=f;rw[if_neg this]
  rw[this];exact s
 clear f0 f2 f4 s hC;rintro F H ⟨f0,f2,f4,u1,u2,s,hC⟩;refine AB ?_;refine D6 AZ ?_;have hB:=hbox _ _ _ hC;refine AVS (fun F H=>(∃b,F 47=.bool b)/\Md e c d v1 v2 h n n (n+1) (max dd d) (Z8 f [e]) F H) ?_ ?_
 .cases b2:(e.op==2)
  .refine JI f0 f2 f4 (lb0 _ hB) b2 ?_
   exact⟨⟨_,rfl⟩,f0,f2,f4,u1,u2,s,hC⟩
  .obtain⟨r,hr⟩:=ASW G e.name s.s1 U
   refine SE @AK9 f0 f2 f4 (lb0 _ hB) (lb2 _ hB) b2 @s.l3 ?_;refine⟨_,hr,?_⟩;refine DW f0 f2 f4 ?_;exact⟨⟨_,rfl⟩,f0,f2,f4,u1,u2,s,hC⟩
 clear f0 f2 f4 s hC hB;rintro F H ⟨⟨b,f47⟩,f0,f2,f4,u1,u2,s,hC⟩;have hB:=hbox _ _ _ hC;refine A7 f47 ?_;refine TY (Md e c d v1 v2 h (n+1) n (n+1) (max dd d) (Z8 f [e])) (fun _ _=>False) (fun hb=>?_) (fun hb=>?_) ?_ (fun _ _ hh=>hh.elim)
 .obtain⟨v',H',ha,ht,s',hC'⟩:=s.app3 e.name U
  refine D6 AZ ?_;refine Y2 @AK9 f0 f2 f4 (lb2 _ hB) @s.l3 AUI ha ht ?_;exact⟨f0,f2,f4,_,_,s',hC.trans hC'⟩
 .refine AB ?_
  exact⟨f0,f2,f4,_,_,s.weak U U,hC⟩
 clear f0 f2 f4 s hC hB;rintro F H ⟨f0,f2,f4,u1,u2,s,hC⟩;have hB:=hbox _ _ _ hC;refine AB ?_;refine D6 AZ ?_;refine AVS (fun F H=>(∃b,F 76=.bool b)/\Md e c d v1 v2 h (n+1) n (n+1) (max dd d) (Z8 f [e]) F H) ?_ ?_
 .obtain⟨r,hr⟩:=ASW G e.name s.s2 U
  cases b2:(e.op==3)
  .cases b3:(e.op==24)
   .refine NY f0 f2 f4 (lb0 _ hB) b2 b3 ?_
    exact⟨⟨_,rfl⟩,f0,f2,f4,u1,u2,s,hC⟩
   .refine Y2 @yH f0 f2 f4 (lb0 _ hB) (lb2 _ hB) b2 b3 @s.l4 ?_
    refine⟨_,hr,?_⟩;refine DW f0 f2 f4 ?_;exact⟨⟨_,rfl⟩,f0,f2,f4,u1,u2,s,hC⟩
  .refine SE @yH f0 f2 f4 (lb0 _ hB) (lb2 _ hB) b2 @s.l4 ?_
   refine⟨_,hr,?_⟩;refine DW f0 f2 f4 ?_;exact⟨⟨_,rfl⟩,f0,f2,f4,u1,u2,s,hC⟩
 clear f0 f2 f4 s hC hB f47;rintro F H ⟨⟨b,f76⟩,f0,f2,f4,u1,u2,s,hC⟩;have hB:=hbox _ _ _ hC;refine A7 f76 ?_;refine TY (Md e c d v1 v2 h (n+1) (n+1) (n+1) (max dd d) (Z8 f [e])) (fun _ _=>False) (fun hb=>?_) (fun hb=>?_) ?_ (fun _ _ hh=>hh.elim)
 .obtain⟨v',H',ha,ht,s',hC'⟩:=s.app4 e.name U
  refine D6 AZ ?_;refine Y2 @yH f0 f2 f4 (lb2 _ hB) @s.l4 AUI ha ht ?_;exact⟨f0,f2,f4,_,_,s',hC.trans hC'⟩
 .refine AB ?_
  exact⟨f0,f2,f4,_,_,s.weak U U,hC⟩
 clear f0 f2 f4 s hC hB f76;rintro F H ⟨f0,f2,f4,u1,u2,s,hC⟩;refine AB ?_;refine BK (fun k F H=>∃j,k+j=e.args.length/\F 6=.n (j:Nat)/\Md e c d v1 v2 h (n+1+(FM (e.args.take j)).length) (n+1+(FM (e.args.take j)).length) (n+1+(FM (e.args.take j)).length) (max dd (d+deps (e.args.take j))) (Z8 (Z8 f [e]) (FM (e.args.take j))) F H) e.args.length ⟨0,BA,rfl,f0,f2,f4,u1,u2,s,hC⟩ ?_;clear f0 f2 f4 s hC;rintro k F H ⟨j,hj,f6,f0,f2,f4,u1,u2,s,hC⟩;have hB:=hbox _ _ _ hC;refine DW f6 f4 (lb3 _ hB) ?_;refine D9 ?_ ?_<;>intro hj'
 .have hmem:e.args[j]∈e.args:=jG hj'
  have hwa:=V4 hmem
  have hpl:(FM (e.args.take j)).length+(pre e.args[j]).length<=wts e.args:=by
   have h1:=ACC e.args
   have h2:FM e.args=FM (e.args.take j)++(pre e.args[j]++FM (e.args.drop (j+1))):=by
    rw[<-zG,<-LW _ _ hj',<-NS,yD]
   rw[h2] at h1;simp at h1;omega
  have hsp:(FM (e.args.take j)).length+wt e.args[j]<=wts e.args:=by
   have h1:=ACC (e.args.take j);have h2:=AAR e.args j hj';omega
  have hdt:deps (e.args.take j)<=wts e.args:=eH e.args j;simp only[vQ,List.contains_cons,List.contains_nil,Nat.reduceBEq,Bool.or_false,CP,↓reduceIte,jC,enP,PZ,bS,f0,f2,f4,f6,lb3 _ hB,CZ hj',DJ O6 JE EG hj',DC d];refine(ih e.args[j] hmem ⟨U,fun x hx=>hwn.2 x (by rw[pre_eq];exact yB _ (ZB hmem x hx))⟩ H (d+1) _ _ _ u1 u2 U U U s).mono ?_;rintro v H' ⟨w1,w2,s',hC'⟩;refine BB f6 (DC j) ?_;refine⟨k-1,U,j+1,U,rfl,f0,f2,f4,w1,w2,?_,hC.trans hC'⟩;rw[LW _ _ hj',uK _ _ hj',AEC,jX]
  have e1:max (max dd (d+deps (e.args.take j))) (d+1+deps e.args[j].args)=max dd (d+max (deps (e.args.take j)) (dep e.args[j])):=by
   rw[bZ];omega
  rw[e1,Nat.add_assoc (n+1)] at s';exact s'
 .rw[jJ U] at s
  refine A7 @gH ?_;refine⟨u1,u2,?_,c0.trans hC⟩;have e1:n+1+(FM e.args).length=n+(pre e).length:=by rw[pre_eq];simp;omega
  have e2:Z8 (Z8 f [e]) (FM e.args)=Z8 f (pre e):=by rw[pre_eq,<-AEC];rfl
  rw[e1,e2] at s;exact s
theorem A8T:I5 jA 263 []=some (.agg [.n 0,.n 0,.n 0,.sl .nil 0 [],.sl .nil 0 []]):=AZ
theorem A8B (h:Hp):MP h (.agg [.n 0,.n 0,.n 0,.sl .nil 0 [],.sl .nil 0 []])=some (.ptr h.length 0 0,h++[yE 5 [wRow 0 0 0 (.sl .nil 0 []) (.sl .nil 0 [])]]):=WX rfl
theorem ARF (e:Ex)(hwn:WN e)(h:Hp):
  ACalls (En G) 202 [.agg (A8 e)] h fun v h'=>∃c m u1 u2,v=.ptr c 0 0/\St h' c m m (pre e).length (dep e) (errs (pre e)) u1 u2/\∃x,h'=h++x:=by
 refine acT Tryz.func202 2 ?_;simp only[vQ,CP,ALY,TB,NZ,↓reduceIte,jC,enP,bxE,A8T,A8B,IU (AO (AX h _))];have nb:∀b,¬isB (.sl .nil 0 []) b:=fun b hb=>hb
 have hw:=hwn.1;refine(AWF G _ e hwn _ 1 0 0 0 (.sl .nil 0 []) (.sl .nil 0 []) U U U ⟨AX _ _,⟨[],BA,.inl ⟨rfl,_,rfl⟩⟩,⟨[],BA,.inl ⟨rfl,_,rfl⟩⟩,fun b hb=>(nb b hb).elim⟩).mono ?_;rintro v h' ⟨u1,u2,s,hC⟩;refine AB ?_;have e1:0+(pre e).length=(pre e).length:=jH _;have e2:max 0 (1+deps e.args)=dep e:=by rw[bZ];omega
 rw[e1,e2] at s;refine⟨_,_,u1,u2,rfl,s,?_⟩;have hC2:=((Ch.app (h++[yE 4 [A8 e]]).length (.sl .nil 0 []) (.sl .nil 0 []) h [yE 4 [A8 e]]).trans (Ch.app _ _ _ _ [yE 5 [wRow 0 0 0 (.sl .nil 0 []) (.sl .nil 0 [])]])).trans hC;refine Chg.above (c:=(h++[yE 4 [A8 e]]).length) ⟨hC2.len,fun b hb hne=>hC2.get b hb hne (nb b) (nb b)⟩ BA
theorem yM (e:Ex)(h:Hp)(hw:WN e):PCall (En G) 113 [.agg (A8 e)] h (.n (exE e)):=by
 refine ACalls.pure0 rfl ?_;refine acT Tryz.func113 2 ?_;refine BB @bxE @ldE ?_;refine(ARF G e hw _).mono ?_;rintro v h' ⟨c,m,u1,u2,rfl,s,x,rfl⟩;refine BB @eA @s.l2 ?_;rcases he:(errs (pre e)==0) with _|_
 .refine BB @eA @s.l2 ?_
  have:errs (pre e)≠0:=BM he;exact⟨by unfold exE;rw[if_neg (fun hh=>this hh.1)],_,by rw[zG]⟩
 have he0:errs (pre e)=0:=BM he;refine BB @yI @s.l1 ?_;refine IZ ?_ ?_<;>intro hd
 .refine A7 hd ?_
  exact⟨by unfold exE;rw[if_pos ⟨he0,.inl (by simp at hd;omega)⟩],_,by rw[zG]⟩
 refine DW @ALA hd @s.l0 ?_;refine BO ?_ ?_<;>intro hn
 .refine AB ?_
  exact⟨by unfold exE;rw[if_pos ⟨he0,.inr (by simp at hn;omega)⟩],_,by rw[zG]⟩
 .refine BB @eA @s.l2 ?_
  exact⟨by unfold exE;rw[if_neg (fun hh=>by simp at hn hd;omega)],_,by rw[zG]⟩
theorem AD9 (e:Ex)(h:Hp)(hw:wt e<=1048576):PCall (En G) 113 [.agg (A8 e)] h (.n (exE e)):=yM G e h (AVD hw)
structure Is where
 m:SM
 l:List Int
def encL (x:Is):List AV:=[.sl x.m 1 (x.l.map qencI)]
theorem oN (x:Is):(encL x)[0]?=some (.sl x.m 1 (x.l.map qencI)):=rfl
theorem eD (x:Is):(encL x).length=1:=rfl
structure Pt where
 name:ByteArray
 ex:Ex
 bm:SM
 bins:List Bin
def FK (p:Pt):List AV:=.str p.name::(A8 p.ex++[.sl p.bm 4 (p.bins.map GG)])
theorem A1S (p:Pt):(FK p)[0]?=some (.str p.name):=rfl
theorem TS (p:Pt):(FK p)[5]?=some (.sl p.bm 4 (p.bins.map GG)):=by unfold FK;rw[FI];rfl
theorem H9 (p:Pt):(FK p).length=6:=by unfold FK;rw[FI];rfl
theorem gJ (p:Pt):(FK p).all AV.leaf=true:=by unfold FK;rw[FI];rfl
theorem yQ (p:Pt):((FK p).drop 1).take 4=A8 p.ex:=by unfold FK;rw[FI];rfl
theorem bxP (h:Hp)(p:Pt):MP h (.agg (FK p))=some (.ptr h.length 0 0,h++[yE 6 [FK p]]):=by
 have:=WX (h:=h) (gJ p);rw[H9] at this;exact this
theorem AR6 {b:Nat}{p:Pt}(hb:h[b]?=some (yE 6 [FK p])):BI jA h 79 (.ptr b 0 1)=some (.agg (A8 p.ex)):=by
 rw[ED O6 JE hb rfl (by rw[H9];omega),yQ]
structure Cr where
 name:ByteArray
 pm:SM
 pts:List Int
 xm:SM
 excl:List Is
def IA (c:Cr):List AV:=[.str c.name,.sl c.pm 1 (c.pts.map qencI),.sl c.xm 1 (c.excl.map encL)]
theorem ATY (c:Cr):(IA c)[0]?=some (.str c.name):=rfl
theorem eF (c:Cr):(IA c)[1]?=some (.sl c.pm 1 (c.pts.map qencI)):=rfl
theorem AEJ (c:Cr):(IA c)[2]?=some (.sl c.xm 1 (c.excl.map encL)):=rfl
theorem O4 (c:Cr):(IA c).length=3:=rfl
theorem bxC (h:Hp)(c:Cr):MP h (.agg (IA c))=some (.ptr h.length 0 0,h++[yE 3 [IA c]]):=rfl
structure Mo where
 pm:SM
 pts:List Pt
 cm:SM
 crs:List Cr
def DV (m:Mo):List AV:=[.sl m.pm 6 (m.pts.map FK),.sl m.cm 3 (m.crs.map IA)]
theorem VN (m:Mo):(DV m)[0]?=some (.sl m.pm 6 (m.pts.map FK)):=rfl
theorem aP (m:Mo):(DV m)[1]?=some (.sl m.cm 3 (m.crs.map IA)):=rfl
theorem oM (m:Mo):(DV m).length=2:=rfl
theorem bxM (h:Hp)(m:Mo):MP h (.agg (DV m))=some (.ptr h.length 0 0,h++[yE 2 [DV m]]):=rfl
def AHZ:List ByteArray->List ByteArray->Bool
 | _,[]=>false
 | seen,x::xs=>JR seen x||AHZ (seen++[x]) xs
def XM (l:List ByteArray):Bool:=AHZ [] l
theorem gM (N:List ByteArray)(i:Nat)(hi:i<N.length):AHZ (N.take i) (N.drop i)=(JR (N.take i) N[i]||AHZ (N.take (i+1)) (N.drop (i+1))):=by
 rw[qC hi,jU hi];rfl
theorem OD {α:Type}{l:List α}{hi:i<l.length}{x:α}(h:l[i]?=some x):l[i]=x:=by
 rw[jI hi] at h;exact Option.some.inj h
theorem AKF (x:Bin)(h:Hp):PCall (En G) 164 [.agg (GG x)] h (.str x.name):=by
 refine ACalls.pure0 rfl ?_;refine acT Tryz.func164 2 ?_;refine MI @ATD @bxB @A1T ?_;exact⟨trivial,_,rfl⟩
theorem AM4 (xs:List Bin)(m:SM)(h:Hp)(hl:xs.length<=1099511627776):
  PCall (En G) 163 [.sl m 4 (xs.map GG),.fn (.func 164) [] []] h (.bool (XM (xs.map (·.name)))):=by
 refine acT Tryz.func163 4 ?_;refine AB ?_;generalize hN:xs.map (·.name)=N;have hNl:N.length=xs.length:=by rw[<-hN];simp
 have hNi:∀i (hi:i<xs.length),N[i]?=some xs[i].name:=fun i hi=>by rw[<-hN,jW,jI hi];rfl
 refine BK (fun n F H=>∃i,n+i=xs.length/\F 0=.sl m 4 (xs.map GG)/\F 1=.fn (.func 164) [] []/\F 8=.n xs.length/\F 9=.n (i:Nat)/\H=h/\XM N=AHZ (N.take i) (N.drop i)) xs.length ⟨0,BA,AQ,AQ,AQ,AQ,rfl,rfl⟩ ?_;rintro n F H ⟨i,hi,f0,f1,f8,f9,rfl,hd⟩;refine BB f8 f9 ?_;refine D9 ?_ ?_<;>intro hi'
 .have hdrop:=gM N i U
  rw[OD (hNi i hi')] at hdrop;refine A7 f9 ?_;refine EU 2 (fun F' H'=>F' 0=.sl m 4 (xs.map GG)/\F' 1=.fn (.func 164) [] []/\F' 8=.n xs.length/\F' 9=.n (i:Nat)/\H'=H/\JR (N.take i) xs[i].name=false) (fun F' H'=>F' 4=.bool (XM N)/\H'=H) ?_ ?_ ?_
  .refine BK (fun n F' H'=>∃k,n+k=i/\F' 0=.sl m 4 (xs.map GG)/\F' 1=.fn (.func 164) [] []/\F' 8=.n xs.length/\F' 9=.n (i:Nat)/\F' 5=.n (i:Nat)/\F' 12=.n (i:Nat)/\F' 13=.n (k:Nat)/\H'=H/\JR (N.take i) xs[i].name=JR ((N.take i).drop k) xs[i].name) i ⟨0,BA,EI f0,EI f1,EI f8,EI f9,AQ,AQ,AQ,rfl,rfl⟩ ?_
   clear f0 f1 f8 f9;rintro n' F H' ⟨k,hk,f0,f1,f8,f9,f5,f12,f13,rfl,hin⟩;refine BB f12 f13 ?_;refine D9 ?_ ?_<;>intro hk'
   .have hk2:k<xs.length:=U
    have hs:=UE (fun u=>xs[i].name.toList==u.toList) (N.take i) k (by rw[jZ];omega)
    have hx:(N.take i)[k]'(by rw[jZ];omega)=xs[k].name:=by
     rw[List.getElem_take];exact OD (hNi k hk2)
    rw[hx] at hs;refine A7 f13 ?_;refine D6 AZ ?_;simp only[vQ,OT,O9,NW,↓reduceIte,jC,jT,enP,fO,f0,f1,f5,CZ hi',CZ hk2,DJ lA aZ LC hi',DJ lA aZ LC hk2];refine⟨_,AKF G xs[i] _,?_⟩;refine⟨_,AKF G xs[k] _,?_⟩
    try refine AB ?_
    refine BO ?_ ?_<;>intro hb
    .refine AB ?_
     refine⟨?_,trivial⟩
     have:JR (N.take i) xs[i].name=true:=by
      rw[hin];unfold JR;rw[hs,hb];rfl
     rw[hd,hdrop,this];rfl
    .refine BB f13 (DC k) ?_
     refine⟨n'-1,U,k+1,U,f0,f1,f8,f9,f5,f12,rfl,trivial,?_⟩;rw[hin];unfold JR;rw[hs,hb];rfl
   .refine AB ?_
    refine⟨f0,f1,f8,f9,trivial,?_⟩;rw[hin,zJ (by rw[jZ];omega)];rfl
  .rintro F' H' ⟨g0,g1,g8,g9,rfl,hn⟩
   refine BB g9 (DC i) ?_;refine⟨n-1,U,i+1,U,g0,g1,g8,rfl,trivial,?_⟩;rw[hd,hdrop,hn];rfl
  .rintro F' H' ⟨g4,rfl⟩
   refine A7 g4 ?_;exact H7
 .refine AB ?_
  exact⟨by rw[hd,zJ U];rfl,trivial⟩
theorem AKD (x:Pt)(h:Hp):PCall (En G) 87 [.agg (FK x)] h (.str x.name):=by
 refine ACalls.pure0 rfl ?_;refine acT Tryz.func87 2 ?_;refine MI @ATE @bxP @A1S ?_;exact⟨trivial,_,rfl⟩
theorem AM2 (xs:List Pt)(m:SM)(h:Hp)(hl:xs.length<=1099511627776):
  PCall (En G) 86 [.sl m 6 (xs.map FK),.fn (.func 87) [] []] h (.bool (XM (xs.map (·.name)))):=by
 refine acT Tryz.func86 4 ?_;refine AB ?_;generalize hN:xs.map (·.name)=N;have hNl:N.length=xs.length:=by rw[<-hN];simp
 have hNi:∀i (hi:i<xs.length),N[i]?=some xs[i].name:=fun i hi=>by rw[<-hN,jW,jI hi];rfl
 refine BK (fun n F H=>∃i,n+i=xs.length/\F 0=.sl m 6 (xs.map FK)/\F 1=.fn (.func 87) [] []/\F 8=.n xs.length/\F 9=.n (i:Nat)/\H=h/\XM N=AHZ (N.take i) (N.drop i)) xs.length ⟨0,BA,AQ,AQ,AQ,AQ,rfl,rfl⟩ ?_;rintro n F H ⟨i,hi,f0,f1,f8,f9,rfl,hd⟩;refine BB f8 f9 ?_;refine D9 ?_ ?_<;>intro hi'
 .have hdrop:=gM N i U
  rw[OD (hNi i hi')] at hdrop;refine A7 f9 ?_;refine EU 2 (fun F' H'=>F' 0=.sl m 6 (xs.map FK)/\F' 1=.fn (.func 87) [] []/\F' 8=.n xs.length/\F' 9=.n (i:Nat)/\H'=H/\JR (N.take i) xs[i].name=false) (fun F' H'=>F' 4=.bool (XM N)/\H'=H) ?_ ?_ ?_
  .refine BK (fun n F' H'=>∃k,n+k=i/\F' 0=.sl m 6 (xs.map FK)/\F' 1=.fn (.func 87) [] []/\F' 8=.n xs.length/\F' 9=.n (i:Nat)/\F' 5=.n (i:Nat)/\F' 12=.n (i:Nat)/\F' 13=.n (k:Nat)/\H'=H/\JR (N.take i) xs[i].name=JR ((N.take i).drop k) xs[i].name) i ⟨0,BA,EI f0,EI f1,EI f8,EI f9,AQ,AQ,AQ,rfl,rfl⟩ ?_
   clear f0 f1 f8 f9;rintro n' F H' ⟨k,hk,f0,f1,f8,f9,f5,f12,f13,rfl,hin⟩;refine BB f12 f13 ?_;refine D9 ?_ ?_<;>intro hk'
   .have hk2:k<xs.length:=U
    have hs:=UE (fun u=>xs[i].name.toList==u.toList) (N.take i) k (by rw[jZ];omega)
    have hx:(N.take i)[k]'(by rw[jZ];omega)=xs[k].name:=by
     rw[List.getElem_take];exact OD (hNi k hk2)
    rw[hx] at hs;refine A7 f13 ?_;refine D6 AZ ?_;simp only[vQ,OT,O9,NW,↓reduceIte,jC,jT,enP,XL,f0,f1,f5,CZ hi',CZ hk2,DJ lB bA H9 hi',DJ lB bA H9 hk2];refine⟨_,AKD G xs[i] _,?_⟩;refine⟨_,AKD G xs[k] _,?_⟩
    try refine AB ?_
    refine BO ?_ ?_<;>intro hb
    .refine AB ?_
     refine⟨?_,trivial⟩
     have:JR (N.take i) xs[i].name=true:=by
      rw[hin];unfold JR;rw[hs,hb];rfl
     rw[hd,hdrop,this];rfl
    .refine BB f13 (DC k) ?_
     refine⟨n'-1,U,k+1,U,f0,f1,f8,f9,f5,f12,rfl,trivial,?_⟩;rw[hin];unfold JR;rw[hs,hb];rfl
   .refine AB ?_
    refine⟨f0,f1,f8,f9,trivial,?_⟩;rw[hin,zJ (by rw[jZ];omega)];rfl
  .rintro F' H' ⟨g0,g1,g8,g9,rfl,hn⟩
   refine BB g9 (DC i) ?_;refine⟨n-1,U,i+1,U,g0,g1,g8,rfl,trivial,?_⟩;rw[hd,hdrop,hn];rfl
  .rintro F' H' ⟨g4,rfl⟩
   refine A7 g4 ?_;exact H7
 .refine AB ?_
  exact⟨by rw[hd,zJ U];rfl,trivial⟩
theorem AKE (x:Cr)(h:Hp):PCall (En G) 90 [.agg (IA x)] h (.str x.name):=by
 refine ACalls.pure0 rfl ?_;refine acT Tryz.func90 2 ?_;refine MI @ATC @bxC @ATY ?_;exact⟨trivial,_,rfl⟩
theorem AM3 (xs:List Cr)(m:SM)(h:Hp)(hl:xs.length<=1099511627776):
  PCall (En G) 89 [.sl m 3 (xs.map IA),.fn (.func 90) [] []] h (.bool (XM (xs.map (·.name)))):=by
 refine acT Tryz.func89 4 ?_;refine AB ?_;generalize hN:xs.map (·.name)=N;have hNl:N.length=xs.length:=by rw[<-hN];simp
 have hNi:∀i (hi:i<xs.length),N[i]?=some xs[i].name:=fun i hi=>by rw[<-hN,jW,jI hi];rfl
 refine BK (fun n F H=>∃i,n+i=xs.length/\F 0=.sl m 3 (xs.map IA)/\F 1=.fn (.func 90) [] []/\F 8=.n xs.length/\F 9=.n (i:Nat)/\H=h/\XM N=AHZ (N.take i) (N.drop i)) xs.length ⟨0,BA,AQ,AQ,AQ,AQ,rfl,rfl⟩ ?_;rintro n F H ⟨i,hi,f0,f1,f8,f9,rfl,hd⟩;refine BB f8 f9 ?_;refine D9 ?_ ?_<;>intro hi'
 .have hdrop:=gM N i U
  rw[OD (hNi i hi')] at hdrop;refine A7 f9 ?_;refine EU 2 (fun F' H'=>F' 0=.sl m 3 (xs.map IA)/\F' 1=.fn (.func 90) [] []/\F' 8=.n xs.length/\F' 9=.n (i:Nat)/\H'=H/\JR (N.take i) xs[i].name=false) (fun F' H'=>F' 4=.bool (XM N)/\H'=H) ?_ ?_ ?_
  .refine BK (fun n F' H'=>∃k,n+k=i/\F' 0=.sl m 3 (xs.map IA)/\F' 1=.fn (.func 90) [] []/\F' 8=.n xs.length/\F' 9=.n (i:Nat)/\F' 5=.n (i:Nat)/\F' 12=.n (i:Nat)/\F' 13=.n (k:Nat)/\H'=H/\JR (N.take i) xs[i].name=JR ((N.take i).drop k) xs[i].name) i ⟨0,BA,EI f0,EI f1,EI f8,EI f9,AQ,AQ,AQ,rfl,rfl⟩ ?_
   clear f0 f1 f8 f9;rintro n' F H' ⟨k,hk,f0,f1,f8,f9,f5,f12,f13,rfl,hin⟩;refine BB f12 f13 ?_;refine D9 ?_ ?_<;>intro hk'
   .have hk2:k<xs.length:=U
    have hs:=UE (fun u=>xs[i].name.toList==u.toList) (N.take i) k (by rw[jZ];omega)
    have hx:(N.take i)[k]'(by rw[jZ];omega)=xs[k].name:=by
     rw[List.getElem_take];exact OD (hNi k hk2)
    rw[hx] at hs;refine A7 f13 ?_;refine D6 AZ ?_;simp only[vQ,OT,O9,NW,↓reduceIte,jC,jT,enP,fP,f0,f1,f5,CZ hi',CZ hk2,DJ APN AA5 O4 hi',DJ APN AA5 O4 hk2];refine⟨_,AKE G xs[i] _,?_⟩;refine⟨_,AKE G xs[k] _,?_⟩
    try refine AB ?_
    refine BO ?_ ?_<;>intro hb
    .refine AB ?_
     refine⟨?_,trivial⟩
     have:JR (N.take i) xs[i].name=true:=by
      rw[hin];unfold JR;rw[hs,hb];rfl
     rw[hd,hdrop,this];rfl
    .refine BB f13 (DC k) ?_
     refine⟨n'-1,U,k+1,U,f0,f1,f8,f9,f5,f12,rfl,trivial,?_⟩;rw[hin];unfold JR;rw[hs,hb];rfl
   .refine AB ?_
    refine⟨f0,f1,f8,f9,trivial,?_⟩;rw[hin,zJ (by rw[jZ];omega)];rfl
  .rintro F' H' ⟨g0,g1,g8,g9,rfl,hn⟩
   refine BB g9 (DC i) ?_;refine⟨n-1,U,i+1,U,g0,g1,g8,rfl,trivial,?_⟩;rw[hd,hdrop,hn];rfl
  .rintro F' H' ⟨g4,rfl⟩
   refine A7 g4 ?_;exact H7
 .refine AB ?_
  exact⟨by rw[hd,zJ U];rfl,trivial⟩
def fstE {α:Type}(f:α->Int):List α->Int
 | []=>0
 | x::xs=>if f x=0 then fstE f xs else f x
theorem ZK {α:Type}(f:α->Int)(xs:List α)(k:Nat)(hk:k<xs.length):fstE f (xs.drop k)=if f xs[k]=0 then fstE f (xs.drop (k+1)) else f xs[k]:=by
 rw[qC hk];rfl
def I4 (p:Pt):Int :=
 if E8 p.name=false then 7 else if exE p.ex≠0 then exE p.ex else if p.bins.length=0 then 1 else if 64<p.bins.length then 2 else
  if fstE IQ p.bins≠0 then fstE IQ p.bins else if XM (p.bins.map (·.name)) then 8 else 0
structure PtOk (p:Pt):Prop where
 ex:wt p.ex<=1048576
 name:p.name.size<=1048576
 num:p.bins.length<=1048576
 bins:∀b∈p.bins,BinOk b
theorem al79 (h:Hp):GH jA h 87=some (.ptr h.length 0 0,h++[yE 4 [[.str ⟨#[]⟩,.n 0,.sl .nil 0 [],.sl .nil 0 []]]]):=FB (row:=[.str ⟨#[]⟩,.n 0,.sl .nil 0 [],.sl .nil 0 []]) AZ
theorem st79 (h:Hp)(b:Bin)(row:List AV)(hr:row.length=4):DU jA (h++[yE 4 [row]]) 87 (.ptr h.length 0 0) (.agg (GG b))=some (h++[yE 4 [GG b]]):=by
 rw[SX (PG rfl) (by rw[LC];exact aZ) (by rw[LC,hr];exact jF _)];have:splice row 0 (GG b)=GG b:=by unfold splice;simp [LC,hr]
 rw[this]
theorem nA (hG:GOk G)(p:Pt)(hp:PtOk p)(h:Hp):PCall (En G) 85 [.agg (FK p)] h (.n (I4 p)):=by
 refine ACalls.pure0 rfl ?_;have hp1:=hp.ex;have hp2:=hp.name;have hp3:=hp.num;refine acT Tryz.func85 2 ?_;refine MI @ATE @bxP @A1S ?_;refine(MH G hG.kw p.name _ U).uu ?_;cases h1:E8 p.name
 .refine AB ?_
  exact⟨by unfold I4;rw[if_pos h1],_,rfl⟩
 have h1':¬E8 p.name=false:=by rw[h1];decide
 simp only[vQ,CP,↓reduceIte,jC,qP,enP,oE,AR6 (AX h _)];refine(OG G hG p.ex _ hp1).uu ?_;refine BO ?_ ?_<;>intro h2
 .refine AB ?_
  exact⟨by unfold I4;rw[if_neg h1',if_pos (BM h2)],_,rfl⟩
 have h2':¬exE p.ex≠0:=BM h2;refine aU @TS ?_;refine BO ?_ ?_<;>intro h3
 .refine AB ?_
  exact⟨by unfold I4;rw[if_neg h1',if_neg h2',if_pos (by simp at h3;simpa using h3)],_,rfl⟩
 have h3':¬p.bins.length=0:=by simp at h3;simpa using h3
 refine aU @TS ?_;refine BO ?_ ?_<;>intro h4
 .refine AB ?_
  exact⟨by unfold I4;rw[if_neg h1',if_neg h2',if_neg h3',if_pos (by simp at h4;omega)],_,rfl⟩
 have h4':¬64<p.bins.length:=by simp at h4;omega
 have hpt:I4 p=if fstE IQ p.bins≠0 then fstE IQ p.bins else if XM (p.bins.map (·.name)) then 8 else 0:=by
  unfold I4;rw[if_neg h1',if_neg h2',if_neg h3',if_neg h4']
 refine aU @TS ?_;refine EU 1 (fun F H=>F 1=.ptr h.length 0 0/\H[h.length]?=some (yE 6 [FK p])/\(∃x,H=h++x)/\fstE IQ p.bins=0) (fun F H=>F 2=.n (I4 p)/\∃x,H=h++x) ?_ ?_ ?_
 .refine BK (fun n F H=>∃k,n+k=p.bins.length/\F 1=.ptr h.length 0 0/\F 28=.sl p.bm 4 (p.bins.map GG)/\F 29=.n p.bins.length/\F 30=.n (k:Nat)/\H[h.length]?=some (yE 6 [FK p])/\(∃x,H=h++x)/\fstE IQ p.bins=fstE IQ (p.bins.drop k)) p.bins.length ⟨0,BA,ER,ER,ER,ER,AX _ _,⟨_,rfl⟩,rfl⟩ ?_
  rintro n F H ⟨k,hk,f1,f28,f29,f30,hb,⟨x,hx⟩,hf⟩;refine BB f29 f30 ?_;refine D9 ?_ ?_<;>intro hk'
  .have hs:=ZK IQ p.bins k hk'
   simp only[vQ,CP,↓reduceIte,jC,enP,fO,jQ,f28,f30,CZ hk',DJ lA aZ LC hk',al79,st79 _ _ [.str ⟨#[]⟩,.n 0,.sl .nil 0 [],.sl .nil 0 []] rfl,ldB];refine(valid_prog G hG.kw p.bins[k] (hp.bins _ (jG hk')) _).uu ?_;refine BO ?_ ?_<;>intro hv
   .refine AB ?_
    have hv':IQ p.bins[k]≠0:=BM hv;have:fstE IQ p.bins=IQ p.bins[k]:=by rw[hf,hs,if_neg hv']
    exact⟨by rw[hpt,this,if_pos hv'],x++_,by rw[hx,zG]⟩
   .have hv':IQ p.bins[k]=0:=BM hv
    refine BB f30 (DC k) ?_;exact⟨n-1,U,k+1,U,f1,f28,f29,rfl,AO hb,⟨x++_,by rw[hx,zG]⟩,by rw[hf,hs,if_pos hv']⟩
  .refine AB ?_
   exact⟨f1,hb,⟨x,hx⟩,by rw[hf,zJ U];rfl⟩
 .rintro F H ⟨f1,hb,⟨x,hx⟩,hf⟩
  have l5:BI jA H 80 (.ptr h.length 0 5)=some (.sl p.bm 4 (p.bins.map GG)):=by rw[BC QC hb (row:=FK p) rfl,TS]
  refine BB f1 l5 ?_;refine(AM4 G p.bins p.bm H U).uu ?_;cases hd:XM (p.bins.map (·.name))
  .refine AB ?_
   exact⟨by rw[hpt,hf,hd];rfl,x,hx⟩
  .refine AB ?_
   exact⟨by rw[hpt,hf,hd];rfl,x,hx⟩
 .rintro F H ⟨f2,hx⟩
  refine A7 f2 ?_;exact⟨trivial,hx⟩
def outG {α:Type}(k:Nat)(f:α->List AV)(h:Hp)(ys:List α)(v:AV)(H:Hp):Prop :=
 (ys=[]/\v=.sl .nil 0 [])\/(ys≠[]/\∃o,h.length<=o/\v=.own o 0 ys.length/\H[o]?=some (yE k (ys.map f)))
theorem outG.nil {α:Type}(k:Nat)(f:α->List AV)(h H:Hp):outG k f h [] (.sl .nil 0 []) H:=.inl ⟨rfl,rfl⟩
theorem outG.keep {α:Type}{f:α->List AV}{H':Hp}{ys:List α}(ho:outG k f h ys v H)(hk:∀b,isB v b->H'[b]?=H[b]?):outG k f h ys v H':=by
 rcases ho with h1|⟨h1,o,h2,rfl,h3⟩
 .exact .inl h1
 .exact .inr ⟨h1,o,h2,rfl,by rw[hk o rfl];exact h3⟩
theorem outG.lt {α:Type}{f:α->List AV}{ys:List α}{b:Nat}(ho:outG k f h ys v H)(hb:isB v b):h.length<=b/\b<H.length:=by
 rcases ho with⟨_,rfl⟩|⟨_,o,h2,rfl,h3⟩
 .exact hb.elim
 .cases hb;exact⟨h2,AC h3⟩
theorem outG.app {α:Type}{f:α->List AV}{ys:List α}(ho:outG k f h ys v H)(x:Hp):outG k f h ys v (H++x) :=
 ho.keep fun _ hb=>qM (ho.lt hb).2
theorem outG.append {t e:TypeId}{α:Type}{bs:Nat}{f:α->List AV}{ys:List α}(ho:outG k f h ys v H)(hu:P.underlying t=some (.slice e))(hs:szO P e=some k)(hz:TA P e=some k)(hb:KI P e=some bs)(hbs:bs<=4194304)(hl:ys.length<8388608)(he:ext h H)(y:α):
  ∃v' H',EQ P true H t t v (.sl .full k [f y])=some (v',H')/\outG k f h (ys++[y]) v' H'/\(∀b x,H[b]?=some x->¬isB v b->H'[b]?=some x)/\ext h H'/\H.length<=H'.length/\∀b,isB v' b->b=H.length:=by
 have h1:([f y]:List (List AV))≠[]:=BA;rcases ho with⟨rfl,rfl⟩|⟨hne,o,h2,rfl,h3⟩
 .exact⟨_,_,QZ hu hs hz hb (GK H .full k [f y]) h1 (G5 BA hbs),.inr ⟨BA,H.length,he.le,rfl,BA⟩,fun b x hb _=>FO hb,he.app _,BA,fun b hb=>hb.symm⟩
 .have hc:I9 H (.own o 0 ys.length)=some (k,ys.map f):=by
   rw[JS h3 BA,zU,jJ BA]
  refine⟨_,_,QB hu hs hz hb hc (GK H .full k [f y]) h1 (G5 LD hbs),.inr ⟨BA,H.length,he.le,BA,BA⟩,fun b x hb hn=>?_,(he.set h2 _).app _,BA,fun b hb=>hb.symm⟩;have hn':¬o=b:=hn;refine FO ?_;rw[zQ,if_neg hn'];exact hb
theorem outG.len {t:TypeId}{α:Type}{f:α->List AV}{ys:List α}(ho:outG k f h ys v H)(hl:(∀m k xs,JU P t (.sl m k xs)=some (.n xs.length))/\∀b off len,JU P t (.own b off len)=some (.n len)):JU P t v=some (.n ys.length):=by
 rcases ho with⟨rfl,rfl⟩|⟨_,o,_,rfl,_⟩
 .exact hl.1 _ _ _
 .exact hl.2 _ _ _
def nm {α:Type}(ys:List α):SM:=match ys with
 | []=>.nil
 | _=>.any
theorem frzF_own (n:Nat)(h:Hp)(d b off len k:Nat)(xs:List (List AV))(hn:¬b<n)(hb:h[b]?=some (yE k xs)):FH n h (d+1) (.own b off len)=if off+len<=xs.length/\(((xs.drop off).take len).map (·.map (FH n h d))).all (·.all AV.leaf)=true then .sl .any k (((xs.drop off).take len).map (·.map (FH n h d))) else .junk:=by
 rw[FH];simp only[hn,if_false,hb]
def Frz {α:Type}(f:α->List AV):Prop:=∀(n:Nat) (h:Hp) (d:Nat) (x:α),(f x).map (FH n h (d+1))=f x/\(f x).all AV.leaf=true
theorem frz_rows {α:Type}{f:α->List AV}(hf:Frz f)(n:Nat)(h:Hp)(d:Nat)(xs:List α):(xs.map f).map (·.map (FH n h (d+1)))=xs.map f:=by
 rw[qQ];exact List.map_congr_left fun x _=>(hf n h d x).1
theorem frz_own {α:Type}{f:α->List AV}(hf:Frz f){d:Nat}{o:Nat}{xs:List α}(hn:n<=o)(ho:h[o]?=some (yE k (xs.map f))):FH n h (d+2) (.own o 0 xs.length)=.sl .any k (xs.map f):=by
 rw[frzF_own n h (d+1) o 0 xs.length k _ U ho,zU,jJ BA,frz_rows hf n h d xs];rw[if_pos];refine⟨BA,?_⟩;rw[zL];intro row hr;obtain⟨x,_,rfl⟩:=zH.1 hr;exact(hf n h d x).2
theorem J3 {E:Env}{f:FuncId}{args:List AV}{α:Type}{enc:α->List AV}(hf:Frz enc){ys:List α}(hc:ACalls E f args h fun v H=>ext h H/\outG k enc h ys v H)(hX:E.nox=E:=by rfl):PCall E f args h (.sl (nm ys) k (ys.map enc)):=by
 have h1:PCall E f args h (if ys.length=0 then AV.sl .nil 0 [] else .sl .any k (ys.map enc)):=by
  refine ACalls.pure 2 hc ?_ hX;rintro v H ⟨hex,hout⟩;refine⟨hex,?_⟩;rcases hout with⟨rfl,rfl⟩|⟨hne,o,ho1,rfl,ho⟩
  .rfl
  .rw[if_neg (BM hne)];exact frz_own hf ho1 ho
 refine ACalls.conv h1 ?_;rintro v H ⟨rfl,rfl⟩;refine⟨_,⟨rfl,rfl⟩,?_⟩;intro g cv hr
 cases ys with
 | nil=>exact AC0 hr
 | cons y ys=>exact hr
def KD (m:Mo)(p:Int):List Bin:=match m.pts[p.toNat]? with
 | some q=>q.bins
 | none=>[]
def szs (m:Mo)(l:List Int):List Nat:=l.map fun p=>(KD m p).length
def Here (m:Mo)(l:List Int):Prop:=∀p∈l,0<=p/\p<(m.pts.length:Int)
theorem Here.toNat {m:Mo}{l:List Int}(hh:Here m l){k:Nat}(hk:k<l.length):(l[k]).toNat<m.pts.length:=by
 have:=hh _ (jG hk);omega
theorem Here.bins {m:Mo}{l:List Int}(hh:Here m l){k:Nat}(hk:k<l.length):(m.pts[(l[k]).toNat]'(hh.toNat hk)).bins=KD m l[k]:=by
 unfold KD;rw[jI (hh.toNat hk)]
theorem Here.ix {m:Mo}{l:List Int}(hh:Here m l){k:Nat}(hk:k<l.length)(h:Hp)(s:SM):IM 6 h (.sl s 6 (m.pts.map FK)) (.n l[k])=some (.fptr 6 (m.pts.map FK) (l[k]).toNat 0):=by
 have:=hh _ (jG hk);exact A1F this.1 (by rw[jP];exact this.2)
theorem Here.ld {m:Mo}{l:List Int}(hh:Here m l){k:Nat}(hk:k<l.length)(h:Hp):∃s,BI jA h 80 (.fptr 6 (m.pts.map FK) (l[k]).toNat 5)=some (.sl s 4 ((KD m l[k]).map GG)):=by
 rw[CW QC (hh.toNat hk),TS,hh.bins hk];exact⟨_,rfl⟩
theorem frzI:Frz qencI:=fun _ _ _ _=>⟨rfl,rfl⟩
theorem AFA (h:Hp)(v:Int):DF jA false h 32 1 [(0,.n v)]=some (.sl .full 1 [[.n v]],h):=AZ
def KN (n:Nat):List AV:=[.n (n:Int)]
theorem A37:Frz KN:=fun _ _ _ _=>⟨rfl,rfl⟩
theorem encN0 (n:Nat):(KN n)[0]?=some (.n (n:Int)):=rfl
theorem encI0 (n:Int):(qencI n)[0]?=some (.n n):=rfl
theorem AA4 (m:Mo)(l:List Int)(k:Nat)(hk:k<l.length):szs m (l.take (k+1))=szs m (l.take k)++[(KD m l[k]).length]:=by
 unfold szs;rw[jU hk,List.map_append];rfl
theorem bC (m:Mo)(c:Cr)(h:Hp)(hh:Here m c.pts)(hl:c.pts.length<=1048576):PCall (En G) 148 [.agg (DV m),.agg (IA c)] h (.sl (nm (szs m c.pts)) 1 ((szs m c.pts).map KN)):=by
 refine J3 A37 ?_;refine acT Tryz.func148 4 ?_;refine QD @bxM @bxC NF @eF ?_;have hb0:(h++[yE 2 [DV m]]++[yE 3 [IA c]])[h.length]?=some (yE 2 [DV m]):=AO (AX _ _);refine BK (fun n F H=>∃k,n+k=c.pts.length/\F 2=.ptr h.length 0 0/\F 9=.sl c.pm 1 (c.pts.map qencI)/\F 10=.n c.pts.length/\F 11=.n (k:Nat)/\H[h.length]?=some (yE 2 [DV m])/\ext h H/\(∀b,isB (F 5) b->h.length<b)/\outG 1 KN h (szs m (c.pts.take k)) (F 5) H) c.pts.length ⟨0,BA,ER,ER,ER,ER,hb0,((ext.rfl' h).app _).app _,fun b hb=>hb.elim,outG.nil _ _ _ _⟩ ?_;rintro n F H ⟨k,hk,f2,f9,f10,f11,hb,he,hlt,ho⟩;refine BB f10 f11 ?_;refine D9 ?_ ?_<;>intro hk'
 .have lm:BI jA H 28 (.ptr h.length 0 0)=some (.sl m.pm 6 (m.pts.map FK)):=by rw[BC iD hb (row:=DV m) rfl,VN]
  obtain⟨s,ls⟩:=hh.ld hk' H;have hzl:(szs m (c.pts.take k)).length<8388608:=by unfold szs;simp;omega
  obtain⟨v',H',ha,ho',hkeep,he',hle,hb'⟩:=ho.append U4 sz3 aV YW U hzl he (KD m c.pts[k]).length;simp only[vQ,JH,CP,F6,JW,↓reduceIte,jC,enP,XL,P7,LY,rO,OQ,f2,f9,f11,CZ hk',CW ag3 hk',encI0,lm,hh.ix hk',ls,jP,AFA];refine KW (v:=v') (h:=H') (by rw[show [[AV.int .i64 ((KD m c.pts[k]).length:Int)]]=[KN (KD m c.pts[k]).length] from rfl,ha]) ?_;refine BB f11 (DC k) ?_;refine⟨n-1,U,k+1,U,f2,f9,f10,rfl,hkeep _ _ hb (fun e=>by have:=hlt _ e;omega),he',fun b hbb=>?_,?_⟩
  .grind
  .rw[AA4 m c.pts k hk'];exact ho'
 .rw[jJ U] at ho
  refine AB ?_;exact⟨he,ho⟩
def JB (l:List Nat):Nat:=l.foldl (· * ·) 1
theorem mT (l:List Nat)(k:Nat)(hk:k<l.length):JB (l.take (k+1))=JB (l.take k)*l[k]:=by
 unfold JB;rw[jU hk,List.foldl_append];rfl
theorem mU (l:List Nat)(k:Nat)(h:∀n∈l,n<=64)(hk:l.length<=k):JB l<=64^k:=by
 have gen:∀(l:List Nat) (a:Nat) (j:Nat),(∀n∈l,n<=64)->a<=64^j->l.foldl (· * ·) a<=64^(j+l.length):=by
  intro l
  induction l with
  | nil=>intro a j _ ha;exact ha
  | cons x l ih =>
    intro a j hl ha;rw[qW,zT,show j+(l.length+1)=(j+1)+l.length by omega];refine ih _ _ (fun n hn=>hl n (by simp [hn])) ?_;rw[Nat.pow_succ];exact Nat.mul_le_mul ha (hl x BA)
 have:=gen l 1 0 h BA;rw[jH] at this;exact qJ this (Nat.pow_le_pow_right U hk)
theorem dF (l:List Nat)(s:SM)(h:Hp)(hl:∀n∈l,n<=64)(hk:l.length<=4):PCall (En G) 147 [.sl s 1 (l.map KN)] h (.n (JB l)):=by
 refine acT Tryz.func147 2 ?_;refine AB ?_
 have hp:∀k,JB (l.take k)<=16777216:=fun k=>by
  have:=mU (l.take k) 4 (fun n hn=>hl n (List.mem_of_mem_take hn)) (by rw[jZ];omega);simpa using this
 refine BK (fun n F H=>∃k,n+k=l.length/\F 3=.n (JB (l.take k))/\F 6=.sl s 1 (l.map KN)/\F 7=.n l.length/\F 8=.n (k:Nat)/\H=h) l.length ⟨0,BA,AQ,AQ,AQ,AQ,rfl⟩ ?_;rintro n F H ⟨k,hk,f3,f6,f7,f8,rfl⟩;refine BB f7 f8 ?_;refine D9 ?_ ?_<;>intro hk'
 .have h1:=hp (k+1)
  rw[mT l k hk'] at h1
  have hw:IntKind.i64.wrap ((JB (l.take k):Int)*(l[k]:Int))=((JB (l.take (k+1)):Nat):Int):=by
   rw[mT l k hk',<-Int.natCast_mul,MR U]
  refine NJ f3 f6 f8 hk' @encN0 hw (DC k) ?_;exact⟨n-1,U,k+1,U,rfl,trivial,f7,rfl,trivial⟩
 .rw[jJ U] at f3
  refine A7 f3 ?_;exact H7
def KA:List Nat->List Int->Bool
 | [],[]=>true
 | n::ns,x::xs=>decide (0<=x)&&decide (x<(n:Int))&&KA ns xs
 | _,_=>false
theorem ASQ (ns:List Nat):KA ns []=(ns.length==0):=by cases ns<;>rfl
theorem TL:∀ {ns:List Nat} {xs:List Int},KA ns xs=true->ns.length=xs.length
 | [],[],_=>rfl
 | n::ns,x::xs,h=>by
   simp only[KA,jM] at h;simp [TL h.2]
 | [],_::_,h=>by cases h
 | _::_,[],h=>by cases h
theorem inside_prog (ns:List Nat)(xs:List Int)(s t:SM)(h:Hp)(hn:ns.length<=1048576):PCall (En G) 167 [.sl s 1 (ns.map KN),.sl t 1 (xs.map qencI)] h (.bool (KA ns xs)):=by
 refine acT Tryz.func167 4 ?_;refine AB ?_;refine BK (fun n F H=>∃k,n+k=xs.length/\k<=ns.length/\F 0=.sl s 1 (ns.map KN)/\F 1=.sl t 1 (xs.map qencI)/\F 7=.sl t 1 (xs.map qencI)/\F 8=.n xs.length/\F 9=.n (k:Nat)/\H=h/\KA ns xs=KA (ns.drop k) (xs.drop k)) xs.length ⟨0,BA,BA,AQ,AQ,AQ,AQ,AQ,rfl,rfl⟩ ?_;rintro n F H ⟨k,hk,hkn,f0,f1,f7,f8,f9,rfl,hi⟩;refine BB f8 f9 ?_;refine D9 ?_ ?_<;>intro hk'
 .rw[qC hk'] at hi
  simp only[vQ,EM,CP,MO,↓reduceIte,jC,enP,LY,dO,f0,f7,f9,CZ hk',CW ag3 hk',encI0,jP];refine IZ ?_ ?_<;>intro ha
  .refine A7 ha ?_
   have:ns.length<=k:=by simp at ha;omega
   rw[zJ this] at hi;exact⟨by rw[hi];rfl,trivial⟩
  have hkn':k<ns.length:=by simp at ha;omega
  rw[qC hkn'] at hi;refine A7 ha ?_;refine IZ ?_ ?_<;>intro hb
  .refine A7 hb ?_
   have:decide (0<=xs[k])=false:=by simp at hb|-;omega
   exact⟨by rw[hi];unfold KA;rw[this];rfl,trivial⟩
  have h0:decide (0<=xs[k])=true:=by simp at hb|-;omega
  simp only[vQ,EM,CP,MO,↓reduceIte,jC,enP,LY,hb,f0,CZ hkn',CW ag3 hkn',encN0];refine BO ?_ ?_<;>intro hd
  .refine AB ?_
   have:decide (xs[k]<(ns[k]:Int))=false:=by simp at hd|-;omega
   exact⟨by rw[hi];unfold KA;rw[this,h0];rfl,trivial⟩
  have h1:decide (xs[k]<(ns[k]:Int))=true:=by simp at hd|-;omega
  refine BB f9 (DC k) ?_;refine⟨n-1,U,k+1,U,U,f0,f1,f7,f8,rfl,trivial,?_⟩;rw[hi]
  conv=>lhs;unfold KA
  rw[h0,h1];rfl
 .refine BB f0 f1 ?_
  refine⟨?_,trivial⟩;rw[hi,zJ (U:xs.length<=k),ASQ,List.length_drop];congr 1;rw[Bool.eq_iff_iff];simp;omega
theorem ADK (G:Nat->AV)(xs:List Is)(m:SM)(fid:FuncId)(caps:List AV)(p:Is->Bool)(h:Hp)(hl:xs.length<=1099511627776)
  (hf:∀r,PCall (En G) fid (.sl r.m 1 (r.l.map qencI)::caps) h (.bool (p r))) :
  PCall (En G) 243 [.sl m 1 (xs.map encL),.fn (.func fid) [] caps] h (.n (match xs.findIdx? p with|some i=>(i:Int)|none => -1)):=by
 refine acT Tryz.func243 4 ?_;refine AB ?_;refine BK (fun n F H=>∃k,n+k=xs.length/\F 0=.sl m 1 (xs.map encL)/\F 1=.fn (.func fid) [] caps/\F 7=.n xs.length/\F 8=.n (k:Nat)/\H=h/\(xs.take k).all (fun r => !p r)=true) xs.length ⟨0,BA,rfl,rfl,rfl,rfl,rfl,rfl⟩ ?_;rintro n F H ⟨k,hk,f0,f1,f7,f8,rfl,hin⟩;refine ES f0 f1 f7 f8 ?_;refine D9 ?_ ?_<;>intro hc'
 .simp only[vQ,CP,qH,zF,↓reduceIte,jC,enP,fQ,f0,f1,f7,f8,CZ hc',CW NF hc',oN]
  refine(hf _).uu ?_;refine BO ?_ ?_<;>intro hb
  .refine AB ?_
   refine⟨?_,trivial⟩
   rw[wM.2 ⟨hc',hb,fun j hj=>by
    rw[zL] at hin;have:=hin xs[j] (by rw[List.mem_take_iff_getElem];exact⟨j,U,rfl⟩)
    simpa using this⟩]
  .refine BB f8 (DC k) ?_
   refine⟨n-1,U,k+1,U,f0,f1,f7,rfl,trivial,?_⟩;rw[jU hc',List.all_append,hin];simp only[wF,yC,hb];rfl
 .refine AB ?_
  refine⟨?_,trivial⟩;rw[jJ U] at hin;rw[wR.2 (BM hin)]
theorem TW (G:Nat->AV)(xs:List Is)(m:SM)(fid:FuncId)(caps:List AV)(p:Is->Bool)(h:Hp)(hl:xs.length<=1099511627776)
  (hf:∀r,PCall (En G) fid (.sl r.m 1 (r.l.map qencI)::caps) h (.bool (p r))) :
  PCall (En G) 165 [.sl m 1 (xs.map encL),.fn (.func fid) [] caps] h (.bool (xs.any p)):=by
 refine acT Tryz.func165 4 ?_;refine AB ?_;refine(ADK G xs m fid caps p h hl hf).uu ?_;refine⟨?_,trivial⟩
 cases hx:xs.findIdx? p with
 | some i =>
   obtain⟨h1,h2,_⟩:=wM.1 hx;have:xs.any p=true:=qL.2 ⟨xs[i],BA,h2⟩;simp [this]
 | none =>
   have:xs.any p=false:=by
    rw[wR] at hx;rw[qO];intro x hx2;simp [hx x hx2]
   simp [this]
theorem wT (ns:List Nat)(s:SM)(b:Nat)(r:Is)(h:Hp)(hb:h[b]?=some (yE 1 [[.sl s 1 (ns.map KN)]]))(hn:ns.length<=1048576):
  PCall (En G) 166 [.sl r.m 1 (r.l.map qencI),.ptr b 0 0] h (.bool (!KA ns r.l)):=by
 refine acT Tryz.func166 3 ?_;refine A7 (GN NF hb) ?_;refine(inside_prog G ns r.l s r.m h hn).uu ?_;exact H7
def kV (n:Nat):Option Int->List Int->Bool
 | _,[]=>true
 | o,p::ps=>(decide (0<=p)&&decide (p<(n:Int))&&(match o with|some q=>decide (q<p)|none=>true))&&kV n (some p) ps
def prev (l:List Int)(k:Nat):Option Int:=match k with
 | 0=>none
 | k+1=>l[k]?
theorem AOG (n:Nat)(l:List Int)(k:Nat)(hk:k<l.length):kV n (prev l k) (l.drop k)=((decide (0<=l[k])&&decide (l[k]<(n:Int))&&(match prev l k with|some q=>decide (q<l[k])|none=>true))&&kV n (prev l (k+1)) (l.drop (k+1))):=by
 rw[qC hk];have:prev l (k+1)=some l[k]:=by unfold prev;exact jI hk
 rw[this];rfl
theorem fR {m:Mo}:∀ {l:List Int} {o:Option Int},kV m.pts.length o l=true->Here m l
 | [],_,_=>fun p hp=>by cases hp
 | x::l,o,h=>by
   simp only[kV,jM,decide_eq_true_eq] at h;intro p hp
   cases zN.1 hp with
   | inl e=>subst e;exact⟨h.1.1.1,h.1.1.2⟩
   | inr e=>exact fR h.2 p e
def KH (m:Mo)(c:Cr):Int :=
 if E8 c.name=false then 7 else if c.pts.length<2\/4<c.pts.length then 1 else if kV m.pts.length none c.pts=false then 1 else
  if 256<JB (szs m c.pts)\/256<c.excl.length then 2 else if(c.excl.any fun x => !KA (szs m c.pts) x.l) then 1 else 0
structure CrOk (c:Cr):Prop where
 name:c.name.size<=1048576
 pts:c.pts.length<=1048576
 excl:c.excl.length<=1048576
 each:∀x∈c.excl,x.l.length<=1048576
def Full (m:Mo):Prop:=∀p∈m.pts,1<=p.bins.length/\p.bins.length<=64
theorem Full.szs {m:Mo}{l:List Int}(hf:Full m)(hh:Here m l):∀n∈szs m l,1<=n/\n<=64:=by
 intro n hn;obtain⟨p,hp,rfl⟩:=zH.1 hn;obtain⟨h0,h1⟩:=hh p hp;have hlt:p.toNat<m.pts.length:=U;have:KD m p=(m.pts[p.toNat]).bins:=by unfold KD;rw[jI hlt]
 rw[this];exact hf _ (jG hlt)
theorem BBP (h:Hp):GH jA h 32=some (.ptr h.length 0 0,h++[yE 1 [[.sl .nil 0 []]]]):=FB (row:=[.sl .nil 0 []]) AZ
theorem ldM {b:Nat}{m:Mo}(hb:h[b]?=some (yE 2 [DV m])):BI jA h 31 (.ptr b 0 0)=some (.agg (DV m)):=by
 rw[ED A45 AQH hb rfl (by rw[oM];exact jF 2)];rfl
theorem ldC {b:Nat}{c:Cr}(hb:h[b]?=some (yE 3 [IA c])):BI jA h 90 (.ptr b 0 0)=some (.agg (IA c)):=by
 rw[ED APN AA5 hb rfl (by rw[O4];exact jF 3)];rfl
theorem AH6 (hG:GOk G)(m:Mo)(c:Cr)(hc:CrOk c)(hf:Full m)(h:Hp):PCall (En G) 88 [.agg (DV m),.agg (IA c)] h (.n (KH m c)):=by
 refine ACalls.pure0 rfl ?_;have hc1:=hc.name;have hc2:=hc.pts;have hc3:=hc.excl;refine acT Tryz.func88 4 ?_;have gm:(h++[yE 2 [DV m]]++[yE 3 [IA c]])[h.length]?=some (yE 2 [DV m]):=AO (AX _ _);have gc:(h++[yE 2 [DV m]]++[yE 3 [IA c]])[(h++[yE 2 [DV m]]).length]?=some (yE 3 [IA c]):=AX _ _;have hx:∃x,h++[yE 2 [DV m]]++[yE 3 [IA c]]=h++x:=⟨_,zG _ _ _⟩;have hlt:h.length<(h++[yE 2 [DV m]]).length:=BA;refine DW @ATC @bxM @bxC ?_
 generalize h++[yE 2 [DV m]]++[yE 3 [IA c]]=H at gm gc hx|-
 generalize (h++[yE 2 [DV m]]).length=cb at gc hlt|-
 have lm:BI jA H 28 (.ptr h.length 0 0)=some (.sl m.pm 6 (m.pts.map FK)):=by rw[BC iD gm (row:=DV m) rfl,VN]
 have lc0:BI jA H 9 (.ptr cb 0 0)=some (.str c.name):=by rw[BC ag9 gc (row:=IA c) rfl,ATY]
 have lc1:BI jA H 32 (.ptr cb 0 1)=some (.sl c.pm 1 (c.pts.map qencI)):=by rw[BC NF gc (row:=IA c) rfl,eF]
 have lc2:BI jA H 25 (.ptr cb 0 2)=some (.sl c.xm 1 (c.excl.map encL)):=by rw[BC UJ gc (row:=IA c) rfl,AEJ]
 refine A7 lc0 ?_;refine(MH G hG.kw c.name _ U).uu ?_;cases h1:E8 c.name
 .refine AB ?_
  exact⟨by unfold KH;rw[if_pos h1],hx⟩
 have h1':¬E8 c.name=false:=by rw[h1];decide
 refine A7 lc1 ?_;refine IZ ?_ ?_<;>intro h2
 .refine A7 h2 ?_
  exact⟨by unfold KH;rw[if_neg h1',if_pos (.inl (by simp at h2;omega))],hx⟩
 refine BB h2 lc1 ?_;refine BO ?_ ?_<;>intro h3
 .refine AB ?_
  exact⟨by unfold KH;rw[if_neg h1',if_pos (.inr (by simp at h3;omega))],hx⟩
 have h23:¬(c.pts.length<2\/4<c.pts.length):=by simp at h2 h3;omega
 refine A7 lc1 ?_;refine EU 0 (fun F H'=>F 2=.ptr h.length 0 0/\F 3=.ptr cb 0 0/\H'=H/\kV m.pts.length none c.pts=true) (fun F H'=>F 4=.n 1/\H'=H/\kV m.pts.length none c.pts=false) ?_ ?_ ?_
 .refine BK (fun n F H'=>∃k,n+k=c.pts.length/\F 2=.ptr h.length 0 0/\F 3=.ptr cb 0 0/\F 23=.sl c.pm 1 (c.pts.map qencI)/\F 24=.n c.pts.length/\F 25=.n (k:Nat)/\H'=H/\kV m.pts.length none c.pts=kV m.pts.length (prev c.pts k) (c.pts.drop k)) c.pts.length ⟨0,BA,AQ,AQ,AQ,AQ,AQ,rfl,rfl⟩ ?_
  rintro n F H' ⟨k,hk,f2,f3,f23,f24,f25,rfl,hi⟩;refine BB f24 f25 ?_;refine D9 ?_ ?_<;>intro hk'
  .rw[AOG _ _ _ hk'] at hi
   simp only[vQ,EM,CP,↓reduceIte,jC,enP,LY,f2,f3,f23,f25,CZ hk',CW ag3 hk',encI0];refine IZ ?_ ?_<;>intro ha
   .refine A7 ha ?_
    have:decide (0<=c.pts[k])=false:=by simp at ha|-;omega
    exact⟨trivial,trivial,by rw[hi,this];rfl⟩
   have ha':decide (0<=c.pts[k])=true:=by simp at ha|-;omega
   refine DW ha f2 lm ?_;refine IZ ?_ ?_<;>intro hb
   .refine A7 hb ?_
    have:decide (c.pts[k]<(m.pts.length:Int))=false:=by simp at hb|-;omega
    exact⟨trivial,trivial,by rw[hi,this,ha'];rfl⟩
   have hb':decide (c.pts[k]<(m.pts.length:Int))=true:=by simp at hb|-;omega
   rw[ha',hb'] at hi;simp only[Bool.true_and] at hi
   cases k with
   | zero =>
     have hz:decide ((((0:Nat):Int))>0)=false:=by decide
     refine ES hb hz f25 (DC 0) ?_;exact⟨n-1,U,1,U,f2,f3,f23,f24,rfl,trivial,by rw[hi];rfl⟩
   | succ k =>
     have hz:decide ((((k+1:Nat):Int))>0)=true:=BA;have hw:IntKind.i64.wrap (((k+1:Nat):Int)-1)=(k:Int):=by rw[wrap_i64 U U];omega
     have hk2:k<c.pts.length:=U;have hpv:prev c.pts (k+1)=some c.pts[k]:=by unfold prev;exact jI hk2
     rw[hpv] at hi;simp only[vQ,EM,QH,CP,P9,ZR,J6,↓reduceIte,jC,enP,LY,U7,hb,hz,f3,lc1,hw,CZ hk2,CW ag3 hk2,encI0];refine BO ?_ ?_<;>intro hd
     .refine AB ?_
      have:decide (c.pts[k]<c.pts[k+1])=false:=by simp at hd|-;omega
      exact⟨trivial,trivial,by rw[hi];simp only[this];rfl⟩
     .refine BB f25 (DC (k+1)) ?_
      have:decide (c.pts[k]<c.pts[k+1])=true:=by simp at hd|-;omega
      exact⟨n-1,U,k+1+1,U,f2,f3,f23,f24,rfl,trivial,by rw[hi];simp only[this];rfl⟩
  .refine AB ?_
   exact⟨f2,f3,trivial,by rw[hi,zJ U];rfl⟩
 .rintro F H' ⟨f2,f3,rfl,hi⟩
  have hh:=fR hi;have hi':¬kV m.pts.length none c.pts=false:=by rw[hi];decide
  refine ES f2 f3 (ldM gm) (ldC gc) ?_;refine(bC G m c _ hh U).use ?_;have hsz:(szs m c.pts).length<=4:=by unfold szs;simp;omega
  have hst:=UO (t:=32) (v:=.sl .nil 0 []) (u:=.sl (nm (szs m c.pts)) 1 ((szs m c.pts).map KN)) vP (AU8 _ _ _) (AX H' (yE 1 [[.sl .nil 0 []]]));rw[vL] at hst;refine aT BBP hst @GN NF @AX ?_;refine(dF G _ _ _ (fun n hn=>(hf.szs hh n hn).2) hsz).use ?_
  have hx2:∃x,H'++[yE 1 [[AV.sl (nm (szs m c.pts)) 1 ((szs m c.pts).map KN)]]]=h++x:=by
   obtain⟨x,hx⟩:=hx;exact⟨x++_,by rw[hx,zG]⟩
  have lc2':∀x,BI jA (H'++[x]) 25 (.ptr cb 0 2)=some (.sl c.xm 1 (c.excl.map encL)):=fun x=>by rw[BC UJ (AO gc) (row:=IA c) rfl,AEJ]
  refine AB ?_;refine IZ ?_ ?_<;>intro ha
  .refine A7 ha ?_
   exact⟨by unfold KH;rw[if_neg h1',if_neg h23,if_neg hi',if_pos (.inl (by simp at ha;omega))],hx2⟩
  refine DW ha f3 lc2' ?_;refine BO ?_ ?_<;>intro hb
  .refine AB ?_
   exact⟨by unfold KH;rw[if_neg h1',if_neg h23,if_neg hi',if_pos (.inr (by simp at hb;omega))],hx2⟩
  have hab:¬(256<JB (szs m c.pts)\/256<c.excl.length):=by simp at ha hb;omega
  refine BB f3 lc2' ?_;refine(TW G c.excl c.xm 166 _ (fun x => !KA (szs m c.pts) x.l) _ U fun r=>wT G _ _ _ r _ (AX H' _) U).uu ?_;cases he:c.excl.any fun x => !KA (szs m c.pts) x.l
  .refine AB ?_
   exact⟨by unfold KH;rw[if_neg h1',if_neg h23,if_neg hi',if_neg hab,he];rfl,hx2⟩
  .refine AB ?_
   exact⟨by unfold KH;rw[if_neg h1',if_neg h23,if_neg hi',if_neg hab,he];rfl,hx2⟩
 .rintro F H' ⟨f4,rfl,hi⟩
  refine A7 f4 ?_;exact⟨by unfold KH;rw[if_neg h1',if_neg h23,if_pos hi],hx⟩
theorem SG (m:Mo)(l:List Int):(szs m l).length=l.length:=by unfold szs;simp
structure Two (h H:Hp) (m:Mo) (c:Cr) (cb:Nat):Prop where
 gm:H[h.length]?=some (yE 2 [DV m])
 gc:H[cb]?=some (yE 3 [IA c])
 hx:∃x,H=h++x
theorem Two.lm {m:Mo}{c:Cr}(t:Two h H m c cb):BI jA H 28 (.ptr h.length 0 0)=some (.sl m.pm 6 (m.pts.map FK)):=by rw[BC iD t.gm (row:=DV m) rfl,VN]
theorem Two.l0 {m:Mo}{c:Cr}(t:Two h H m c cb):BI jA H 9 (.ptr cb 0 0)=some (.str c.name):=by rw[BC ag9 t.gc (row:=IA c) rfl,ATY]
theorem Two.l1 {h H:Hp}{m:Mo}{c:Cr}{cb:Nat}(t:Two h H m c cb):BI jA H 32 (.ptr cb 0 1)=some (.sl c.pm 1 (c.pts.map qencI)):=by rw[BC NF t.gc (row:=IA c) rfl,eF]
theorem Two.l2 {m:Mo}{c:Cr}(t:Two h H m c cb):BI jA H 25 (.ptr cb 0 2)=some (.sl c.xm 1 (c.excl.map encL)):=by rw[BC UJ t.gc (row:=IA c) rfl,AEJ]
theorem Two.mk' (h:Hp)(m:Mo)(c:Cr):Two h (h++[yE 2 [DV m]]++[yE 3 [IA c]]) m c (h++[yE 2 [DV m]]).length:=⟨AO (AX _ _),AX _ _,⟨_,zG _ _ _⟩⟩
structure MoOk (m:Mo):Prop where
 np:m.pts.length<=1048576
 nc:m.crs.length<=1048576
 pts:∀p∈m.pts,PtOk p
 crs:∀c∈m.crs,CrOk c
def FQ (m:Mo):Int :=
 if 16<m.pts.length+m.crs.length then 2 else if fstE I4 m.pts≠0 then fstE I4 m.pts else if XM (m.pts.map (·.name)) then 8 else
  if fstE (KH m) m.crs≠0 then fstE (KH m) m.crs else if XM (m.crs.map (·.name)) then 8 else 0
theorem P5 {α:Type}(f:α->Int):∀ {xs:List α},fstE f xs=0->∀x∈xs,f x=0
 | [],_,_,hx=>by cases hx
 | y::ys,h,x,hx=>by
   simp only[fstE] at h;split at h
   .rename_i h0
    cases zN.1 hx with
    | inl e=>subst e;exact h0
    | inr e=>exact P5 f h x e
   .rename_i h0;exact absurd h h0
theorem iO {p:Pt}(h:I4 p=0):1<=p.bins.length/\p.bins.length<=64:=by
 unfold I4 at h;split at h
 .cases h
 .split at h
  .rename_i h2;exact absurd h h2
  .split at h
   .cases h
   .split at h
    .cases h
    .omega
theorem full_of {m:Mo}(h:fstE I4 m.pts=0):Full m:=fun p hp=>iO (P5 _ h p hp)
theorem AU2 (h:Hp):GH jA h 82=some (.ptr h.length 0 0,h++[yE 6 [[.str ⟨#[]⟩,.n 0,.n 0,.str ⟨#[]⟩,.sl .nil 0 [],.sl .nil 0 []]]]):=FB (row:=[.str ⟨#[]⟩,.n 0,.n 0,.str ⟨#[]⟩,.sl .nil 0 [],.sl .nil 0 []]) AZ
theorem AQO (h:Hp)(p:Pt)(row:List AV)(hr:row.length=6):DU jA (h++[yE 6 [row]]) 82 (.ptr h.length 0 0) (.agg (FK p))=some (h++[yE 6 [FK p]]):=by
 rw[SX (PG (gJ p)) (by rw[H9];exact bA) (by rw[H9,hr];exact jF _)];have:splice row 0 (FK p)=FK p:=by unfold splice;simp [H9,hr]
 rw[this]
theorem ldP {b:Nat}{p:Pt}(hb:h[b]?=some (yE 6 [FK p])):BI jA h 82 (.ptr b 0 0)=some (.agg (FK p)):=by
 rw[ED lB bA hb rfl (by rw[H9];exact jF 6),zU,jJ (by rw[H9];exact jF 6)]
theorem A44 (h:Hp):GH jA h 90=some (.ptr h.length 0 0,h++[yE 3 [[.str ⟨#[]⟩,.sl .nil 0 [],.sl .nil 0 []]]]):=FB (row:=[.str ⟨#[]⟩,.sl .nil 0 [],.sl .nil 0 []]) AZ
theorem A2O (h:Hp)(c:Cr)(row:List AV)(hr:row.length=3):DU jA (h++[yE 3 [row]]) 90 (.ptr h.length 0 0) (.agg (IA c))=some (h++[yE 3 [IA c]]):=by
 rw[SX (PG rfl) (by rw[O4];exact AA5) (by rw[O4,hr];exact jF _)];have:splice row 0 (IA c)=IA c:=by unfold splice;simp [O4,hr]
 rw[this]
theorem TI (hG:GOk G)(m:Mo)(hm:MoOk m)(h:Hp):PCall (En G) 41 [.agg (DV m)] h (.n (FQ m)):=by
 refine ACalls.pure0 rfl ?_;have hm1:=hm.np;have hm2:=hm.nc;refine acT Tryz.func41 2 ?_;have hw:IntKind.i64.wrap ((m.pts.length:Int)+(m.crs.length:Int))=(m.pts.length:Int)+(m.crs.length:Int):=wrap_i64 U U;refine aS @bxM iD sD @VN @aP hw ?_;refine BO ?_ ?_<;>intro h1
 .refine AB ?_
  exact⟨by unfold FQ;rw[if_pos (by simp at h1;omega)],_,rfl⟩
 have h1':¬16<m.pts.length+m.crs.length:=by simp at h1;omega
 have hme:FQ m=if fstE I4 m.pts≠0 then fstE I4 m.pts else if XM (m.pts.map (·.name)) then 8 else if fstE (KH m) m.crs≠0 then fstE (KH m) m.crs else if XM (m.crs.map (·.name)) then 8 else 0:=by
  unfold FQ;rw[if_neg h1']
 have lm0:∀H:Hp,H[h.length]?=some (yE 2 [DV m])->BI jA H 28 (.ptr h.length 0 0)=some (.sl m.pm 6 (m.pts.map FK)):=fun H hH=>by rw[BC iD hH (row:=DV m) rfl,VN]
 have lm1:∀H:Hp,H[h.length]?=some (yE 2 [DV m])->BI jA H 29 (.ptr h.length 0 1)=some (.sl m.cm 3 (m.crs.map IA)):=fun H hH=>by rw[BC sD hH (row:=DV m) rfl,aP]
 refine O7 iD @VN ?_;refine EU 0 (fun F H=>F 1=.ptr h.length 0 0/\H[h.length]?=some (yE 2 [DV m])/\(∃x,H=h++x)/\fstE I4 m.pts=0) (fun F H=>F 2=.n (FQ m)/\∃x,H=h++x) ?_ ?_ ?_
 .refine BK (fun n F H=>∃k,n+k=m.pts.length/\F 1=.ptr h.length 0 0/\F 18=.sl m.pm 6 (m.pts.map FK)/\F 19=.n m.pts.length/\F 20=.n (k:Nat)/\H[h.length]?=some (yE 2 [DV m])/\(∃x,H=h++x)/\fstE I4 m.pts=fstE I4 (m.pts.drop k)) m.pts.length ⟨0,BA,ER,ER,ER,ER,AX _ _,⟨_,rfl⟩,rfl⟩ ?_
  rintro n F H ⟨k,hk,f1,f18,f19,f20,hb,⟨x,hx⟩,hf⟩;refine BB f19 f20 ?_;refine D9 ?_ ?_<;>intro hk'
  .have hs:=ZK I4 m.pts k hk'
   simp only[vQ,CP,↓reduceIte,jC,enP,XL,jQ,f18,f20,CZ hk',DJ lB bA H9 hk',AU2,AQO _ _ [.str ⟨#[]⟩,.n 0,.n 0,.str ⟨#[]⟩,.sl .nil 0 [],.sl .nil 0 []] rfl,ldP (AX H (yE 6 [FK m.pts[k]]))];refine(nA G hG m.pts[k] (hm.pts _ (jG hk')) _).uu ?_;refine BO ?_ ?_<;>intro hv
   .refine AB ?_
    have hv':I4 m.pts[k]≠0:=BM hv;have:fstE I4 m.pts=I4 m.pts[k]:=by rw[hf,hs,if_neg hv']
    exact⟨by rw[hme,this,if_pos hv'],x++_,by rw[hx,zG]⟩
   .have hv':I4 m.pts[k]=0:=BM hv
    refine BB f20 (DC k) ?_;exact⟨n-1,U,k+1,U,f1,f18,f19,rfl,AO hb,⟨x++_,by rw[hx,zG]⟩,by rw[hf,hs,if_pos hv']⟩
  .refine AB ?_
   exact⟨f1,hb,⟨x,hx⟩,by rw[hf,zJ U];rfl⟩
 .rintro F H ⟨f1,hb,hx0,hf⟩
  have hfull:=full_of hf;rw[hf,if_neg (fun hh=>hh rfl)] at hme;refine BB f1 (lm0 _ hb) ?_;refine(AM2 G m.pts m.pm H U).uu ?_;cases hd:XM (m.pts.map (·.name))
  case true =>
   refine AB ?_;exact⟨by rw[hme,hd];rfl,hx0⟩
  rw[hd] at hme;simp only[qR,if_false] at hme;refine BB f1 (lm1 _ hb) ?_;refine EU 2 (fun F H=>F 1=.ptr h.length 0 0/\H[h.length]?=some (yE 2 [DV m])/\(∃x,H=h++x)/\fstE (KH m) m.crs=0) (fun F H=>F 2=.n (FQ m)/\∃x,H=h++x) ?_ ?_ ?_
  .refine BK (fun n F H=>∃k,n+k=m.crs.length/\F 1=.ptr h.length 0 0/\F 34=.sl m.cm 3 (m.crs.map IA)/\F 35=.n m.crs.length/\F 36=.n (k:Nat)/\H[h.length]?=some (yE 2 [DV m])/\(∃x,H=h++x)/\fstE (KH m) m.crs=fstE (KH m) (m.crs.drop k)) m.crs.length ⟨0,BA,MB f1,ER,ER,ER,hb,hx0,rfl⟩ ?_
   clear f1 hb hx0;rintro n F H ⟨k,hk,f1,f34,f35,f36,hb,⟨x,hx⟩,hf⟩;refine BB f35 f36 ?_;refine D9 ?_ ?_<;>intro hk'
   .have hs:=ZK (KH m) m.crs k hk'
    simp only[vQ,CP,↓reduceIte,jC,enP,fP,jQ,f1,f34,f36,CZ hk',DJ APN AA5 O4 hk',A44,A2O _ _ [.str ⟨#[]⟩,.sl .nil 0 [],.sl .nil 0 []] rfl,ldC (AX H (yE 3 [IA m.crs[k]])),ldM (AO (x:=yE 3 [IA m.crs[k]]) hb)];refine(AH6 G hG m m.crs[k] (hm.crs _ (jG hk')) hfull _).uu ?_;refine BO ?_ ?_<;>intro hv
    .refine AB ?_
     have hv':KH m m.crs[k]≠0:=BM hv;have:fstE (KH m) m.crs=KH m m.crs[k]:=by rw[hf,hs,if_neg hv']
     exact⟨by rw[hme,this,if_pos hv'],x++_,by rw[hx,zG]⟩
    .have hv':KH m m.crs[k]=0:=BM hv
     refine BB f36 (DC k) ?_;exact⟨n-1,U,k+1,U,f1,f34,f35,rfl,AO hb,⟨x++_,by rw[hx,zG]⟩,by rw[hf,hs,if_pos hv']⟩
   .refine AB ?_
    exact⟨f1,hb,⟨x,hx⟩,by rw[hf,zJ U];rfl⟩
  .rintro F H ⟨f1,hb,hx,hf⟩
   rw[hf,if_neg (fun hh=>hh rfl)] at hme;refine BB f1 (lm1 _ hb) ?_;refine(AM3 G m.crs m.cm H U).uu ?_;cases hd:XM (m.crs.map (·.name))
   .refine AB ?_
    exact⟨by rw[hme,hd];rfl,hx⟩
   .refine AB ?_
    exact⟨by rw[hme,hd];rfl,hx⟩
  .rintro F H ⟨f2,hx⟩
   refine A7 f2 ?_;exact⟨trivial,hx⟩
 .rintro F H ⟨f2,hx⟩
  refine A7 f2 ?_;exact⟨trivial,hx⟩
def eqL (a b:List Int):Bool:=decide (a=b)
theorem ATM {a b:List Int}(ha:k<a.length)(hb:k<b.length):eqL (a.drop k) (b.drop k)=(decide (a[k]=b[k])&&eqL (a.drop (k+1)) (b.drop (k+1))):=by
 rw[qC ha,qC hb];unfold eqL;rw[decide_eq_decide.2 (Iff.of_eq (List.cons.injEq _ _ _ _)),Bool.decide_and]
theorem oK (a b:List Int)(s t:SM)(h:Hp)(hl:b.length<=1099511627776):PCall (En G) 216 [.sl s 1 (a.map qencI),.sl t 1 (b.map qencI)] h (.bool (eqL a b)):=by
 refine acT Tryz.func216 4 ?_;refine AB ?_;refine BO ?_ ?_<;>intro h1
 .refine AB ?_
  have:eqL a b=false:=by
   unfold eqL;rw[decide_eq_false_iff_not];intro e;subst e;simp at h1
  exact⟨by rw[this],trivial⟩
 have hab:a.length=b.length:=by simp at h1;omega
 refine AB ?_;refine BK (fun n F H=>∃k,n+k=a.length/\F 0=.sl s 1 (a.map qencI)/\F 1=.sl t 1 (b.map qencI)/\F 12=.n a.length/\F 13=.n (k:Nat)/\H=h/\eqL a b=eqL (a.drop k) (b.drop k)) a.length ⟨0,BA,AQ,AQ,AQ,AQ,rfl,rfl⟩ ?_;rintro n F H ⟨k,hk,f0,f1,f12,f13,rfl,hi⟩;refine BB f12 f13 ?_;refine D9 ?_ ?_<;>intro hk'
 .have hkb:k<b.length:=U
  rw[ATM hk' hkb] at hi;refine A7 f13 ?_;refine D6 AZ ?_;simp only[vQ,OT,↓reduceIte,jC,jT,enP,LY,f0,f1,f13,CZ hk',CZ hkb,CW ag3 hk',CW ag3 hkb,encI0];refine BO ?_ ?_<;>intro hd
  .refine AB ?_
   have:decide (a[k]=b[k])=false:=BM hd;exact⟨by rw[hi,this];rfl,trivial⟩
  .refine BB f13 (DC k) ?_
   have:decide (a[k]=b[k])=true:=BM hd;exact⟨n-1,U,k+1,U,f0,f1,f12,rfl,trivial,by rw[hi,this];rfl⟩
 .refine AB ?_
  exact⟨by rw[hi,zJ U,zJ U];rfl,trivial⟩
def KL (n:Int):Bool:=decide (0<=n)&&decide (n<=1099511627776)
def countB (n:Int)(may:Bool):Bool:=KL n&&(may||n==0)
theorem cB (n:Int)(may:Bool)(h:Hp):PCall (En G) 121 [.n n,.bool may] h (.bool (countB n may)):=by
 refine acT Tryz.func121 4 ?_;refine AB ?_;cases ha:decide (n≥0)<;>cases hb:decide (n<=1099511627776)<;>cases may
 all_goals
  refine BB ha hb ?_;exact⟨by unfold countB KL;rw[show decide (0<=n)=decide (n≥0) from rfl,ha,hb];rfl,trivial⟩
theorem jN (b:Bin)(h:Hp):PCall (En G) 210 [.agg (GG b)] h (.bool (b.kind==0)):=by
 refine ACalls.pure0 rfl ?_;refine acT Tryz.func210 2 ?_;refine O7 @bxB @aQ ?_;exact⟨trivial,_,rfl⟩
def WQ (m:Mo)(p b:Int):Int:=match (KD m p)[b.toNat]? with
 | some x=>x.kind
 | none=>0
def OJ (m:Mo):List Int->List Int->Bool
 | p::ps,b::bs=>(WQ m p b==0)&&OJ m ps bs
 | _,_=>true
def Z7 (m:Mo)(c:Cr)(l:List Int):Bool:=OJ m c.pts l && !(c.excl.any fun x=>eqL x.l l)
theorem dV {m:Mo}:∀ {ps l:List Int},KA (szs m ps) l=true->∀(k:Nat) (hk:k<l.length) (hp:k<ps.length),0<=l[k]/\l[k]<((KD m ps[k]).length:Int)
 | p::ps,b::bs,h,k,hk,hp=>by
   simp only[szs,jK,KA,jM,decide_eq_true_eq] at h
   cases k with
   | zero=>exact h.1
   | succ k=>exact dV (m:=m) (ps:=ps) h.2 k (BM hk) (BM hp)
 | [],b::bs,h,k,hk,hp=>by simp at hp
 | _,[],h,k,hk,hp=>by simp at hk
theorem iR (m:Mo)(ps l:List Int)(k:Nat)(hp:k<ps.length)(hk:k<l.length):OJ m (ps.drop k) (l.drop k)=((WQ m ps[k] l[k]==0)&&OJ m (ps.drop (k+1)) (l.drop (k+1))):=by
 rw[qC hp,qC hk];rfl
theorem nM (m:Mo)(ps:List Int):OJ m ps []=true:=by cases ps<;>rfl
theorem AUL {m:Mo}{p b:Int}(h0:0<=b)(h1:b<((KD m p).length:Int))(h:Hp)(s:SM):IM 4 h (.sl s 4 ((KD m p).map GG)) (.n b)=some (.fptr 4 ((KD m p).map GG) b.toNat 0) :=
 A1F h0 (by rw[jP];exact h1)
theorem AFC {m:Mo}{p b:Int}(h0:0<=b)(h1:b<((KD m p).length:Int)):((KD m p)[b.toNat]'U).kind=WQ m p b:=by
 unfold WQ;rw[jI U]
theorem AY6 (l:List Int)(s:SM)(b:Nat)(r:Is)(h:Hp)(hb:h[b]?=some (yE 1 [[.sl s 1 (l.map qencI)]]))(hl:l.length<=1099511627776):
  PCall (En G) 276 [.sl r.m 1 (r.l.map qencI),.ptr b 0 0] h (.bool (eqL r.l l)):=by
 refine acT Tryz.func276 3 ?_;refine A7 (GN NF hb) ?_;refine(oK G r.l l r.m s h hl).uu ?_;exact H7
theorem Two.app {m:Mo}{c:Cr}(t:Two h H m c cb)(x:Hp):Two h (H++x) m c cb:=by
 obtain⟨y,hy⟩:=t.hx;exact⟨FO t.gm,FO t.gc,⟨y++x,by rw[hy,zG]⟩⟩
theorem rS (m:Mo)(c:Cr)(l:List Int)(s:SM)(h:Hp)(hh:Here m c.pts)(hi:KA (szs m c.pts) l=true)(hl:c.pts.length<=1048576)(hx:c.excl.length<=1048576):PCall (En G) 211 [.agg (DV m),.agg (IA c),.sl s 1 (l.map qencI)] h (.bool (Z7 m c l)):=by
 refine ACalls.pure0 rfl ?_;have hlen:l.length=c.pts.length:=by have:=TL hi;rw[SG] at this;omega
 refine acT Tryz.func211 6 ?_;have t:=(Two.mk' h m c).app [yE 1 [[.sl s 1 (l.map qencI)]]];have gl:=AX (h++[yE 2 [DV m]]++[yE 3 [IA c]]) (yE 1 [[.sl s 1 (l.map qencI)]]);refine DW @pF @bxM @bxC ?_
 generalize h++[yE 2 [DV m]]++[yE 3 [IA c]]++[yE 1 [[.sl s 1 (l.map qencI)]]]=H at t gl|-
 generalize (h++[yE 2 [DV m]]++[yE 3 [IA c]]).length=lb at gl|-
 generalize (h++[yE 2 [DV m]]).length=cb at t|-
 refine A7 (GN NF gl) ?_;have hkb:=iR m c.pts l;refine EU 0 (fun F H'=>F 4=.ptr cb 0 0/\F 5=.ptr lb 0 0/\H'=H/\OJ m c.pts l=true) (fun F H'=>F 6=.bool false/\H'=H/\OJ m c.pts l=false) ?_ ?_ ?_
 .refine BK (fun n F H'=>∃k,n+k=l.length/\F 3=.ptr h.length 0 0/\F 4=.ptr cb 0 0/\F 5=.ptr lb 0 0/\F 9=.sl s 1 (l.map qencI)/\F 10=.n l.length/\F 11=.n (k:Nat)/\H'=H/\OJ m c.pts l=OJ m (c.pts.drop k) (l.drop k)) l.length ⟨0,BA,AQ,AQ,AQ,AQ,AQ,AQ,rfl,rfl⟩ ?_
  rintro n F H' ⟨k,hk,f3,f4,f5,f9,f10,f11,rfl,hk0⟩;refine BB f10 f11 ?_;refine D9 ?_ ?_<;>intro hk'
  .have hkc:k<c.pts.length:=U
   rw[hkb k hkc hk'] at hk0;obtain⟨h0,h1⟩:=dV hi k hk' hkc;obtain⟨s2,ls⟩:=hh.ld hkc H';simp only[vQ,CP,↓reduceIte,jC,enP,LY,f9,f11,CZ hk',CW ag3 hk',encI0];refine D6 AZ ?_;simp only[vQ,AVX,O9,NW,rB,↓reduceIte,jC,jT,enP,XL,P7,LY,fO,OQ,U7,f3,f4,f11,t.lm,t.l1,CZ hkc,CW ag3 hkc,encI0,hh.ix hkc,ls,AUL h0 h1,DJ lA aZ LC (U:l[k].toNat<(KD m c.pts[k]).length)];refine⟨_,jN G _ _,?_⟩
   try refine AB ?_
   rw[AFC h0 h1];cases hkd:(WQ m c.pts[k] l[k]==0)
   .refine AB ?_
    exact⟨trivial,trivial,by rw[hk0,hkd];rfl⟩
   .refine BB f11 (DC k) ?_
    exact⟨n-1,U,k+1,U,f3,f4,f5,f9,f10,rfl,trivial,by rw[hk0,hkd];rfl⟩
  .refine AB ?_
   exact⟨f4,f5,trivial,by rw[hk0,zJ (U:l.length<=k),nM]⟩
 .rintro F H' ⟨f4,f5,rfl,hk⟩
  refine DW f4 f5 @t.l2 ?_;refine(TW G c.excl c.xm 276 _ (fun x=>eqL x.l l) _ U fun r=>AY6 G l s _ r _ gl U).uu ?_;exact⟨by unfold Z7;rw[hk];rfl,t.hx⟩
 .rintro F H' ⟨f6,rfl,hk⟩
  refine A7 f6 ?_;exact⟨by unfold Z7;rw[hk];rfl,t.hx⟩
theorem AY9 (xs:List Nat):xs.map KN=(xs.map fun n:Nat=>(n:Int)).map qencI:=by
 rw[qQ];rfl
def tupF:List Nat->Nat->List Nat×Nat
 | [],k=>([],k)
 | n::ns,k=>(((tupF ns k).2%n)::(tupF ns k).1,(tupF ns k).2/n)
def TC (ns:List Nat)(k:Nat):List Int:=(tupF ns k).1.map fun n:Nat=>(n:Int)
theorem XU:∀(ns:List Nat) (k:Nat),(tupF ns k).1.length=ns.length
 | [],_=>rfl
 | n::ns,k=>by simp [tupF,XU ns k]
theorem AA3:∀(ns:List Nat) (k:Nat),(∀n∈ns,1<=n)->KA ns (TC ns k)=true
 | [],_,_=>rfl
 | n::ns,k,h=>by
   have h1:=h n BA;have ih:=AA3 ns k (fun x hx=>h x (by simp [hx]));have h2:(tupF ns k).2%n<n:=Nat.mod_lt _ U;show KA (n::ns) (((tupF ns k).2%n:Nat)::TC ns k)=true;unfold KA;rw[ih];simp;omega
theorem tup_step {ns:List Nat}{K j:Nat}(hj:j<ns.length):tupF (ns.drop j) K=(((tupF (ns.drop (j+1)) K).2%ns[j])::(tupF (ns.drop (j+1)) K).1,(tupF (ns.drop (j+1)) K).2/ns[j]):=by
 rw[qC hj];rfl
theorem BAL (h:Hp)(n:Nat)(hn:n<=1048576):GV jA true h 32 (.n (n:Int)) (.n (n:Int))=some (.own h.length 0 n,h++[yE 1 ((jR n 0).map KN)]):=by
 have hz:MJ jA 3=some [.n 0]:=AZ;have hr:room n 8:=G5 U U;unfold GV;simp only[U4,sz3,YW,hz,Int.toNat_natCast];rw[if_pos ⟨U,Int.le_refl _,hr,rfl⟩];simp [KN]
structure Cvr where
 pm:SM
 pts:List Is
 cm:SM
 crs:List Is
 sam:Int
 ill:Int
def encV (v:Cvr):List AV:=[.sl v.pm 1 (v.pts.map encL),.sl v.cm 1 (v.crs.map encL),.n v.sam,.n v.ill]
theorem encV0 (v:Cvr):(encV v)[0]?=some (.sl v.pm 1 (v.pts.map encL)):=rfl
theorem encV1 (v:Cvr):(encV v)[1]?=some (.sl v.cm 1 (v.crs.map encL)):=rfl
theorem encV2 (v:Cvr):(encV v)[2]?=some (.n v.sam):=rfl
theorem encV3 (v:Cvr):(encV v)[3]?=some (.n v.ill):=rfl
theorem encV_len (v:Cvr):(encV v).length=4:=rfl
theorem bxV (h:Hp)(v:Cvr):MP h (.agg (encV v))=some (.ptr h.length 0 0,h++[yE 4 [encV v]]):=rfl
theorem ldV {b:Nat}{v:Cvr}(hb:h[b]?=some (yE 4 [encV v])):BI jA h 46 (.ptr b 0 0)=some (.agg (encV v)):=by
 rw[ED A89 AGG hb rfl (by rw[encV_len];exact jF 4)];rfl
def rowF (p:Nat->Bool):Nat->List Int->Bool
 | _,[]=>true
 | k,n::ns=>countB n (p k)&&rowF p (k+1) ns
theorem AMY (p:Nat->Bool)(l:List Int)(k:Nat)(hk:k<l.length):rowF p k (l.drop k)=(countB l[k] (p k)&&rowF p (k+1) (l.drop (k+1))):=by
 rw[qC hk];rfl
def OO {α:Type}(ok:α->Is->Bool):List α->List Is->Bool
 | [],[]=>true
 | a::ws,x::xs=>ok a x&&OO ok ws xs
 | _,_=>false
theorem dY {α:Type}{ok:α->Is->Bool}:∀ {ws:List α} {xs:List Is},OO ok ws xs=true->ws.length=xs.length
 | [],[],_=>rfl
 | a::ws,x::xs,h=>by
   simp only[OO,jM] at h;simp [dY h.2]
 | [],_::_,h=>by cases h
 | _::_,[],h=>by cases h
theorem AOQ {α:Type}(ok:α->Is->Bool)(ws:List α)(xs:List Is)(k:Nat)(ha:k<ws.length)(hx:k<xs.length):OO ok (ws.drop k) (xs.drop k)=(ok ws[k] xs[k]&&OO ok (ws.drop (k+1)) (xs.drop (k+1))):=by
 rw[qC ha,qC hx];rfl
theorem AS9 {α:Type}(ok:α->Is->Bool)(ws:List α)(xs:List Is)(k:Nat)(ha:ws.length<=k)(hx:xs.length<=k):OO ok (ws.drop k) (xs.drop k)=true:=by
 rw[zJ ha,zJ hx];rfl
def kindOf (p:Pt)(k:Nat):Int:=match p.bins[k]? with
 | some b=>b.kind
 | none=>0
def okP (p:Pt)(x:Is):Bool:=(x.l.length==p.bins.length)&&rowF (fun k=>kindOf p k==0) 0 x.l
def okC (m:Mo)(c:Cr)(x:Is):Bool:=(x.l.length==JB (szs m c.pts))&&rowF (fun k=>Z7 m c (TC (szs m c.pts) k)) 0 x.l
structure CvOk (v:Cvr):Prop where
 pts:v.pts.length<=1048576
 crs:v.crs.length<=1048576
 eachP:∀x∈v.pts,x.l.length<=1048576
 eachC:∀x∈v.crs,x.l.length<=1048576
theorem AOP (m:Mo)(l:List Is)(s:SM)(h:Hp)(hm:MoOk m)(hl:∀x∈l,x.l.length<=1048576):PCall (En G) 119 [.agg (DV m),.sl s 1 (l.map encL)] h (.bool (OO okP m.pts l)):=by
 refine ACalls.pure0 rfl ?_;have hm1:=hm.np;refine acT Tryz.func119 4 ?_;refine MI @bxM iD @VN ?_;refine BO ?_ ?_<;>intro h1
 .refine AB ?_
  have:OO okP m.pts l=false:=by
   rw[<-Bool.not_eq_true];intro e;have:=dY e;simp at h1;omega
  exact⟨by rw[this],_,rfl⟩
 have hlen:l.length=m.pts.length:=by simp at h1;omega
 refine O7 iD @VN ?_;refine BK (fun n F H=>∃i,n+i=m.pts.length/\F 1=.sl s 1 (l.map encL)/\F 16=.sl m.pm 6 (m.pts.map FK)/\F 17=.n m.pts.length/\F 18=.n (i:Nat)/\(∃x,H=h++x)/\OO okP m.pts l=OO okP (m.pts.drop i) (l.drop i)) m.pts.length ⟨0,BA,ER,ER,ER,ER,⟨_,rfl⟩,rfl⟩ ?_;rintro n F H ⟨i,hi,f1,f16,f17,f18,hx,hf⟩;refine BB f17 f18 ?_;refine D9 ?_ ?_<;>intro hi'
 .have hil:i<l.length:=U
  rw[AOQ okP m.pts l i hi' hil] at hf
  have hx1:∃x,H++[yE 6 [FK m.pts[i]]]=h++x:=by
   obtain⟨x,rfl⟩:=hx;exact⟨_,zG _ _ _⟩
  have hxl:=hl _ (jG hil);simp only[vQ,CP,↓reduceIte,jC,enP,XL,jQ,f16,f18,CZ hi',DJ lB bA H9 hi',AU2,AQO _ _ [.str ⟨#[]⟩,.n 0,.n 0,.str ⟨#[]⟩,.sl .nil 0 [],.sl .nil 0 []] rfl];refine D6 AZ ?_;simp only[vQ,OT,LP,↓reduceIte,jC,jT,enP,fQ,dO,rO,OQ,f1,CZ hil,CW NF hil,oN,D7 QC,TS,jP];refine BO ?_ ?_<;>intro h2
  .refine AB ?_
   have:okP m.pts[i] l[i]=false:=by
    have:(l[i].l.length==m.pts[i].bins.length)=false:=by
     rw[beq_eq_false_iff_ne];intro e;simp [e] at h2
    unfold okP;rw[this];rfl
   exact⟨by rw[hf,this];rfl,hx1⟩
  have hbl:l[i].l.length=m.pts[i].bins.length:=by simp at h2;omega
  have hok:okP m.pts[i] l[i]=rowF (fun k=>kindOf m.pts[i] k==0) 0 l[i].l:=by
   unfold okP;rw[beq_iff_eq.2 hbl];rfl
  simp only[vQ,CP,↓reduceIte,jC,enP,fQ,dO,f1,CZ hil,CW NF hil,oN,jP];refine EU 2 (fun F' H'=>F' 1=.sl s 1 (l.map encL)/\F' 16=.sl m.pm 6 (m.pts.map FK)/\F' 17=.n m.pts.length/\F' 18=.n (i:Nat)/\H'=H++[yE 6 [FK m.pts[i]]]/\okP m.pts[i] l[i]=true) (fun F' H'=>F' 4=.bool false/\H'=H++[yE 6 [FK m.pts[i]]]/\okP m.pts[i] l[i]=false) ?_ ?_ ?_
  .refine BK (fun n F' H'=>∃k,n+k=l[i].l.length/\F' 1=.sl s 1 (l.map encL)/\F' 16=.sl m.pm 6 (m.pts.map FK)/\F' 17=.n m.pts.length/\F' 18=.n (i:Nat)/\F' 6=.ptr H.length 0 0/\F' 35=.sl l[i].m 1 (l[i].l.map qencI)/\F' 36=.n l[i].l.length/\F' 37=.n (k:Nat)/\H'=H++[yE 6 [FK m.pts[i]]]/\okP m.pts[i] l[i]=rowF (fun k=>kindOf m.pts[i] k==0) k (l[i].l.drop k)) l[i].l.length ⟨0,BA,MB f1,MB f16,MB f17,MB f18,ER,ER,ER,ER,rfl,hok⟩ ?_
   clear f1 f16 f17 f18;rintro n' F H' ⟨k,hk,f1,f16,f17,f18,f6,f35,f36,f37,rfl,hr⟩;refine BB f36 f37 ?_;refine D9 ?_ ?_<;>intro hk'
   .have hkb:k<m.pts[i].bins.length:=U
    have hkd:kindOf m.pts[i] k=(m.pts[i].bins[k]).kind:=by unfold kindOf;rw[jI hkb]
    rw[AMY _ _ _ hk',hkd] at hr;simp only[vQ,CP,↓reduceIte,jC,enP,LY,fO,OQ,f6,f35,f37,CZ hk',CW ag3 hk',encI0,D7 QC,TS,CZ hkb,DJ lA aZ LC hkb];refine(jN G _ _).uu ?_;refine(cB G _ _ _).uu ?_;cases hcb:countB l[i].l[k] (m.pts[i].bins[k].kind==0)
    .refine AB ?_
     exact⟨trivial,trivial,by rw[hr,hcb];rfl⟩
    .refine BB f37 (DC k) ?_
     exact⟨n'-1,U,k+1,U,f1,f16,f17,f18,f6,f35,f36,rfl,trivial,by rw[hr,hcb];rfl⟩
   .refine AB ?_
    exact⟨f1,f16,f17,f18,trivial,by rw[hr,zJ U];rfl⟩
  .rintro F' H' ⟨g1,g16,g17,g18,rfl,hr⟩
   refine BB g18 (DC i) ?_;exact⟨n-1,U,i+1,U,g1,g16,g17,rfl,hx1,by rw[hf,hr];rfl⟩
  .rintro F' H' ⟨g4,rfl,hr⟩
   refine A7 g4 ?_;exact⟨by rw[hf,hr];rfl,hx1⟩
 .refine AB ?_
  exact⟨by rw[hf,AS9 okP _ _ i U U],hx⟩
def eT (G:Nat->AV):Prop:=∀(ns:List Nat) (s:SM) (K:Nat) (h:Hp),0<ns.length->ns.length<=4->(∀n∈ns,1<=n/\n<=64)->K<=1048576 ->
 PCall (En G) 212 [.sl s 1 (ns.map KN),.n (K:Int)] h (.sl .any 1 ((TC ns K).map qencI))
structure CrGood (m:Mo) (c:Cr):Prop where
 here:Here m c.pts
 two:2<=c.pts.length
 four:c.pts.length<=4
 prod:JB (szs m c.pts)<=256
 num:c.excl.length<=256
 excl:∀x∈c.excl,KA (szs m c.pts) x.l=true
theorem AO5 {m:Mo}{c:Cr}(h:KH m c=0):CrGood m c:=by
 unfold KH at h;split at h
 .cases h
 .split at h
  .cases h
  .split at h
   .cases h
   .split at h
    .cases h
    .split at h
     .cases h
     .rename_i h1 h2 h3 h4 h5
      have h3':kV m.pts.length none c.pts=true:=BM h3;refine⟨fR h3',U,U,U,U,fun x hx=>?_⟩;rw[Bool.not_eq_true,qO] at h5;have:=h5 x hx;simpa using this
structure Good (m:Mo):Prop where
 num:m.pts.length+m.crs.length<=16
 full:Full m
 crs:∀c∈m.crs,CrGood m c
theorem UU {m:Mo}(h:FQ m=0):Good m:=by
 unfold FQ at h;split at h
 .cases h
 .split at h
  .rename_i h2;exact absurd h h2
  .split at h
   .cases h
   .split at h
    .rename_i h4;exact absurd h h4
    .rename_i h1 h2 h3 h4
     refine⟨U,full_of (BM h2),fun c hc=>AO5 (P5 _ (BM h4) c hc)⟩
def MV (m:Mo)(v:Cvr):Bool:=(FQ m==0)&&OO okP m.pts v.pts&&OO (okC m) m.crs v.crs&&KL v.sam&&KL v.ill
theorem kB (n:Int):countB n true=KL n:=by unfold countB;simp
theorem AYY (hG:GOk G)(m:Mo)(v:Cvr)(hm:MoOk m)(hv:CvOk v)(hC:Good m->∀h,PCall (En G) 120 [.agg (DV m),.sl v.cm 1 (v.crs.map encL)] h (.bool (OO (okC m) m.crs v.crs)))(h:Hp):PCall (En G) 55 [.agg (DV m),.agg (encV v)] h (.bool (MV m v)):=by
 refine ACalls.pure0 rfl ?_;refine acT Tryz.func55 4 ?_;have gm:(h++[yE 2 [DV m]]++[yE 4 [encV v]])[h.length]?=some (yE 2 [DV m]):=AO (AX _ _);have gv:=AX (h++[yE 2 [DV m]]) (yE 4 [encV v]);have hx:∃x,h++[yE 2 [DV m]]++[yE 4 [encV v]]=h++x:=⟨_,zG _ _ _⟩;refine BB @bxM @bxV ?_
 generalize h++[yE 2 [DV m]]++[yE 4 [encV v]]=H at gm gv hx|-
 generalize (h++[yE 2 [DV m]]).length=vb at gv|-
 have l0:BI jA H 25 (.ptr vb 0 0)=some (.sl v.pm 1 (v.pts.map encL)):=by rw[BC UJ gv (row:=encV v) rfl,encV0]
 have l1:BI jA H 25 (.ptr vb 0 1)=some (.sl v.cm 1 (v.crs.map encL)):=by rw[BC UJ gv (row:=encV v) rfl,encV1]
 have l2:BI jA H 3 (.ptr vb 0 2)=some (.n v.sam):=by rw[BC ag3 gv (row:=encV v) rfl,encV2]
 have l3:BI jA H 3 (.ptr vb 0 3)=some (.n v.ill):=by rw[BC ag3 gv (row:=encV v) rfl,encV3]
 refine A7 (ldM gm) ?_;refine(TI G hG m hm _).uu ?_;cases h1:(FQ m==0)
 .refine AB ?_
  exact⟨by unfold MV;rw[h1];rfl,hx⟩
 have hg:=UU (beq_iff_eq.1 h1);refine BB (ldM gm) l0 ?_;refine(AOP G m v.pts v.pm _ hm hv.eachP).uu ?_;cases h2:OO okP m.pts v.pts
 .refine AB ?_
  exact⟨by unfold MV;rw[h1,h2];rfl,hx⟩
 refine BB (ldM gm) l1 ?_;refine(hC hg _).uu ?_;cases h3:OO (okC m) m.crs v.crs
 .refine AB ?_
  exact⟨by unfold MV;rw[h1,h2,h3];rfl,hx⟩
 refine BB @ATG l2 ?_;refine(cB G _ _ _).use ?_;refine A7 @kB ?_;cases h4:KL v.sam
 .refine AB ?_
  exact⟨by unfold MV;rw[h1,h2,h3,h4];rfl,hx⟩
 refine BB @ATF l3 ?_;refine(cB G _ _ _).use ?_;refine A7 @kB ?_;exact⟨by unfold MV;rw[h1,h2,h3,h4];rfl,hx⟩
structure TwoV (h H:Hp) (m:Mo) (v:Cvr) (vb:Nat):Prop where
 gm:H[h.length]?=some (yE 2 [DV m])
 gv:H[vb]?=some (yE 4 [encV v])
 hx:∃x,H=h++x
theorem TwoV.mk' (h:Hp)(m:Mo)(v:Cvr):TwoV h (h++[yE 2 [DV m]]++[yE 4 [encV v]]) m v (h++[yE 2 [DV m]]).length:=⟨AO (AX _ _),AX _ _,⟨_,zG _ _ _⟩⟩
section
variable {h H:Hp} {m:Mo} {v:Cvr} {vb:Nat} (t:TwoV h H m v vb)
include t
theorem TwoV.m0:BI jA H 28 (.ptr h.length 0 0)=some (.sl m.pm 6 (m.pts.map FK)):=by rw[BC iD t.gm (row:=DV m) rfl,VN]
theorem TwoV.m1:BI jA H 29 (.ptr h.length 0 1)=some (.sl m.cm 3 (m.crs.map IA)):=by rw[BC sD t.gm (row:=DV m) rfl,aP]
theorem TwoV.l0:BI jA H 25 (.ptr vb 0 0)=some (.sl v.pm 1 (v.pts.map encL)):=by rw[BC UJ t.gv (row:=encV v) rfl,encV0]
theorem TwoV.l1:BI jA H 25 (.ptr vb 0 1)=some (.sl v.cm 1 (v.crs.map encL)):=by rw[BC UJ t.gv (row:=encV v) rfl,encV1]
theorem TwoV.l2:BI jA H 3 (.ptr vb 0 2)=some (.n v.sam):=by rw[BC ag3 t.gv (row:=encV v) rfl,encV2]
theorem TwoV.l3:BI jA H 3 (.ptr vb 0 3)=some (.n v.ill):=by rw[BC ag3 t.gv (row:=encV v) rfl,encV3]
end
theorem AHK (G:Nat->AV)(xs:List Int)(m:SM)(fid:FuncId)(caps:List AV)(p:Int->Bool)(h:Hp)(hl:xs.length<=1099511627776)
  (hf:∀r,PCall (En G) fid (.n r::caps) h (.bool (p r))) :
  PCall (En G) 261 [.sl m 1 (xs.map qencI),.fn (.func fid) [] caps] h (.n (match xs.findIdx? p with|some i=>(i:Int)|none => -1)):=by
 refine acT Tryz.func261 4 ?_;refine AB ?_;refine BK (fun n F H=>∃k,n+k=xs.length/\F 0=.sl m 1 (xs.map qencI)/\F 1=.fn (.func fid) [] caps/\F 7=.n xs.length/\F 8=.n (k:Nat)/\H=h/\(xs.take k).all (fun r => !p r)=true) xs.length ⟨0,BA,rfl,rfl,rfl,rfl,rfl,rfl⟩ ?_;rintro n F H ⟨k,hk,f0,f1,f7,f8,rfl,hin⟩;refine ES f0 f1 f7 f8 ?_;refine D9 ?_ ?_<;>intro hc'
 .simp only[vQ,CP,qH,zF,↓reduceIte,jC,enP,LY,f0,f1,f7,f8,CZ hc',CW ag3 hc',encI0]
  refine(hf _).uu ?_;refine BO ?_ ?_<;>intro hb
  .refine AB ?_
   refine⟨?_,trivial⟩
   rw[wM.2 ⟨hc',hb,fun j hj=>by
    rw[zL] at hin;have:=hin xs[j] (by rw[List.mem_take_iff_getElem];exact⟨j,U,rfl⟩)
    simpa using this⟩]
  .refine BB f8 (DC k) ?_
   refine⟨n-1,U,k+1,U,f0,f1,f7,rfl,trivial,?_⟩;rw[jU hc',List.all_append,hin];simp only[wF,yC,hb];rfl
 .refine AB ?_
  refine⟨?_,trivial⟩;rw[jJ U] at hin;rw[wR.2 (BM hin)]
theorem sA (G:Nat->AV)(xs:List Int)(m:SM)(fid:FuncId)(caps:List AV)(p:Int->Bool)(h:Hp)(hl:xs.length<=1099511627776)
  (hf:∀r,PCall (En G) fid (.n r::caps) h (.bool (p r))) :
  PCall (En G) 231 [.sl m 1 (xs.map qencI),.fn (.func fid) [] caps] h (.bool (xs.any p)):=by
 refine acT Tryz.func231 4 ?_;refine AB ?_;refine(AHK G xs m fid caps p h hl hf).uu ?_;refine⟨?_,trivial⟩
 cases hx:xs.findIdx? p with
 | some i =>
   obtain⟨h1,h2,_⟩:=wM.1 hx;have:xs.any p=true:=qL.2 ⟨xs[i],BA,h2⟩;simp [this]
 | none =>
   have:xs.any p=false:=by
    rw[wR] at hx;rw[qO];intro x hx2;simp [hx x hx2]
   simp [this]
theorem dS {b:Nat}{m:Mo}(hb:h[b]?=some (yE 2 [DV m])):BI jA h 28 (.ptr b 0 0)=some (.sl m.pm 6 (m.pts.map FK)):=by rw[BC iD hb (row:=DV m) rfl,VN]
theorem AC8 {b:Nat}{m:Mo}(hb:h[b]?=some (yE 2 [DV m])):BI jA h 29 (.ptr b 0 1)=some (.sl m.cm 3 (m.crs.map IA)):=by rw[BC sD hb (row:=DV m) rfl,aP]
theorem AG5 (m:Mo)(b:Nat)(p:Int)(h:Hp)(hb:h[b]?=some (yE 2 [DV m])):PCall (En G) 230 [.n p,.ptr b 0 0] h (.bool (decide (p<0)||decide (p≥(m.pts.length:Int)))):=by
 refine acT Tryz.func230 3 ?_;refine AB ?_;cases ha:decide (p<0)
 .refine BB @wP (dS hb) ?_
  exact⟨BA,trivial⟩
 .refine AB ?_
  exact⟨BA,trivial⟩
theorem ASV {m:Mo}{l:List Int}(hh:Here m l):(l.any fun p=>decide (p<0)||decide (p≥(m.pts.length:Int)))=false:=by
 rw[qO];intro p hp;have:=hh p hp;simp;omega
theorem iJ (m:Mo)(i:Nat)(hi:i<m.crs.length)(hg:CrGood m m.crs[i])(h:Hp):PCall (En G) 145 [.agg (DV m),.n (i:Int)] h (.bool true):=by
 refine ACalls.pure0 rfl ?_;have hfour:=hg.four;refine acT Tryz.func145 4 ?_;have d0:decide ((i:Int)<0)=false:=BA;have d1:decide ((i:Int)≥(m.crs.length:Int))=false:=by simp;omega
 simp only[vQ,EM,CP,TB,QJ,MO,↓reduceIte,jC,enP,fP,AXY,U8,U7,bxM,d0,D7 sD,aP,jP,d1,CZ hi,CW NF hi,eF];refine(sA G m.crs[i].pts m.crs[i].pm 230 _ _ _ U fun r=>AG5 G m _ r _ (AX _ _)).use ?_;refine A7 (ASV hg.here) ?_;exact⟨trivial,_,rfl⟩
theorem eL (m:Mo)(i:Nat)(hi:i<m.crs.length)(hg:CrGood m m.crs[i])(h:Hp):PCall (En G) 146 [.agg (DV m),.n (i:Int)] h (.sl .any 1 ((szs m m.crs[i].pts).map KN)):=by
 have hfour:=hg.four;have htwo:=hg.two;have hh:=hg.here
 have hp:PCall (En G) 146 [.agg (DV m),.n (i:Int)] h (.sl (nm (szs m m.crs[i].pts)) 1 ((szs m m.crs[i].pts).map KN)):=by
  refine J3 A37 ?_;refine acT Tryz.func146 4 ?_;simp only[vQ,CP,WY,TB,↓reduceIte,jC,enP,fP,U8,dO,U7,bxM,D7 sD,aP,CZ hi,CW NF hi,eF,jP];refine BK (fun n F H=>∃k,n+k=m.crs[i].pts.length/\F 2=.ptr h.length 0 0/\F 13=.sl m.crs[i].pm 1 (m.crs[i].pts.map qencI)/\F 14=.n m.crs[i].pts.length/\F 15=.n (k:Nat)/\H[h.length]?=some (yE 2 [DV m])/\ext h H/\(∀b,isB (F 5) b->h.length<b)/\outG 1 KN h (szs m (m.crs[i].pts.take k)) (F 5) H) m.crs[i].pts.length ⟨0,BA,AQ,AQ,AQ,AQ,AX _ _,(ext.rfl' h).app _,fun b hb=>hb.elim,outG.nil _ _ _ _⟩ ?_;rintro n F H ⟨k,hk,f2,f13,f14,f15,hb,he,hlt,ho⟩;refine BB f14 f15 ?_;refine D9 ?_ ?_<;>intro hk'
  .obtain⟨s,ls⟩:=hh.ld hk' H
   have hzl:(szs m (m.crs[i].pts.take k)).length<8388608:=by unfold szs;simp;omega
   obtain⟨v',H',ha,ho',hkeep,he',hle,hb'⟩:=ho.append U4 sz3 aV YW U hzl he (KD m m.crs[i].pts[k]).length;simp only[vQ,JH,CP,F6,JW,↓reduceIte,jC,enP,XL,P7,LY,rO,OQ,f2,f13,f15,CZ hk',CW ag3 hk',encI0,dS hb,hh.ix hk',ls,jP,AFA];refine KW (v:=v') (h:=H') (by rw[show [[AV.int .i64 ((KD m m.crs[i].pts[k]).length:Int)]]=[KN (KD m m.crs[i].pts[k]).length] from rfl,ha]) ?_;refine BB f15 (DC k) ?_;refine⟨n-1,U,k+1,U,f2,f13,f14,rfl,hkeep _ _ hb (fun e=>by have:=hlt _ e;omega),he',fun b hbb=>?_,?_⟩
   .have:=hb' b hbb;have:=AC hb;omega
   .rw[AA4 m m.crs[i].pts k hk'];exact ho'
  .rw[jJ U] at ho
   refine AB ?_;exact⟨he,ho⟩
 have hnm:nm (szs m m.crs[i].pts)=SM.any:=by
  have:=SG m m.crs[i].pts
  cases hx:szs m m.crs[i].pts with
  | nil=>rw[hx] at this;simp at this;omega
  | cons a l=>rfl
 rw[hnm] at hp;exact hp
def Z5:List Nat->List Int->Int->Int
 | n::ns,x::xs,z=>Z5 ns xs (IntKind.i64.wrap (IntKind.i64.wrap (z*(n:Int))+x))
 | _,_,z=>z
theorem ADM (ns:List Nat)(z:Int):Z5 ns [] z=z:=by cases ns<;>rfl
theorem ADF:∀ {ns:List Nat} {l:List Int},KA ns l=true->∀(k:Nat) (hk:k<l.length) (hp:k<ns.length),0<=l[k]/\l[k]<(ns[k]:Int)
 | n::ns,b::bs,h,k,hk,hp=>by
   simp only[KA,jM,decide_eq_true_eq] at h
   cases k with
   | zero=>exact h.1
   | succ k=>exact ADF (ns:=ns) h.2 k (BM hk) (BM hp)
 | [],b::bs,h,k,hk,hp=>by simp at hp
 | _,[],h,k,hk,hp=>by simp at hk
theorem xP (m:Mo)(i:Nat)(hi:i<m.crs.length)(hg:CrGood m m.crs[i])(l:List Int)(s:SM)(hin:KA (szs m m.crs[i].pts) l=true)(h:Hp):PCall (En G) 71 [.agg (DV m),.n (i:Int),.sl s 1 (l.map qencI)] h (.tup [.n (Z5 (szs m m.crs[i].pts) l 0),.bool true]):=by
 have hfour:=hg.four;have hsl:=SG m m.crs[i].pts;have hlen:=TL hin;refine ACalls.pure 2 (R:=fun v H=>v=.tup [.n (Z5 (szs m m.crs[i].pts) l 0),.bool true]/\∃x,H=h++x) ?_ (fun v h' ⟨e,x⟩=>⟨x,by subst e;rfl⟩);have hx:∃x,h++[yE 2 [DV m]]=h++x:=⟨_,rfl⟩;refine acL Tryz.func71 [.tmp 6,.tmp 7] ?_;refine BB @bxM (ldM (AX h (yE 2 [DV m]))) ?_;refine(iJ G m i hi hg _).use ?_;refine A7 (ldM (AX h (yE 2 [DV m]))) ?_;refine(eL G m i hi hg _).use ?_
 generalize szs m m.crs[i].pts=ns at hin hsl hlen|-
 have hne:((l.length:Int) != (ns.length:Int))=false:=by rw[hlen];simp
 refine A7 hne ?_;refine BK (fun n F H=>∃k,n+k=l.length/\F 8=.sl .any 1 (ns.map KN)/\(∃z,F 9=.n z/\Z5 ns l 0=Z5 (ns.drop k) (l.drop k) z)/\F 24=.sl s 1 (l.map qencI)/\F 25=.n l.length/\F 26=.n (k:Nat)/\H=h++[yE 2 [DV m]]) l.length ⟨0,BA,AQ,⟨0,rfl,rfl⟩,AQ,AQ,AQ,rfl⟩ ?_;rintro n F H ⟨k,hk,f8,⟨z,f9,hz⟩,f24,f25,f26,rfl⟩;refine BB f25 f26 ?_;refine D9 ?_ ?_<;>intro hk'
 .have hkn:k<ns.length:=U
  obtain⟨h0,h1⟩:=ADF hin k hk' hkn;have d0:decide (l[k]<0)=false:=by simp;omega
  have d1:decide (l[k]≥(ns[k]:Int))=false:=by simp;omega
  rw[qC hk',qC hkn] at hz;simp only[vQ,OW,EM,CP,lO,MO,↓reduceIte,jC,enP,LY,f8,f9,f24,f26,CZ hk',CW ag3 hk',encI0,d0,CZ hkn,CW ag3 hkn,encN0,d1,DC k];exact⟨n-1,U,k+1,U,trivial,⟨_,rfl,hz⟩,trivial,f25,rfl,trivial⟩
 .rw[zJ (U:l.length<=k),ADM] at hz
  refine BB f9 hz ?_;exact⟨trivial,hx⟩
theorem AEB (l:List Int)(s:SM)(b:Nat)(r:Is)(h:Hp)(hb:h[b]?=some (yE 1 [[.sl s 1 (l.map qencI)]]))(hl:l.length<=1099511627776):
  PCall (En G) 215 [.sl r.m 1 (r.l.map qencI),.ptr b 0 0] h (.bool (eqL r.l l)):=by
 refine acT Tryz.func215 3 ?_;refine A7 (GN NF hb) ?_;refine(oK G r.l l r.m s h hl).uu ?_;exact H7
theorem rY (m:Mo)(i:Nat)(hi:i<m.crs.length)(hg:CrGood m m.crs[i])(l:List Int)(s:SM)(hin:KA (szs m m.crs[i].pts) l=true)(h:Hp):PCall (En G) 127 [.agg (DV m),.n (i:Int),.sl s 1 (l.map qencI)] h (.bool (!Z7 m m.crs[i] l)):=by
 refine ACalls.pure0 rfl ?_;have hh:=hg.here;have hfour:=hg.four;have hnum:=hg.num;have hlen:l.length=m.crs[i].pts.length:=by have:=TL hin;rw[SG] at this;omega
 refine acT Tryz.func127 6 ?_;have gm:(h++[yE 2 [DV m]]++[yE 1 [[.sl s 1 (l.map qencI)]]])[h.length]?=some (yE 2 [DV m]):=AO (AX _ _);have gl:=AX (h++[yE 2 [DV m]]) (yE 1 [[.sl s 1 (l.map qencI)]]);have hx:∃x,h++[yE 2 [DV m]]++[yE 1 [[.sl s 1 (l.map qencI)]]]=h++x:=⟨_,zG _ _ _⟩;refine BB @pF @bxM ?_
 generalize h++[yE 2 [DV m]]++[yE 1 [[.sl s 1 (l.map qencI)]]]=H at gm gl hx|-
 generalize (h++[yE 2 [DV m]]).length=lb at gl|-
 refine BB (ldM gm) (GN NF gl) ?_;refine(xP G m i hi hg l s hin _).use ?_;simp only[vQ,List.getElem?_cons_zero,List.getElem?_cons_succ,CP,rB,KT,O8,XT,↓reduceIte,jC,qP,enP,fP,U8,dO,U7,AC8 gm,CZ hi,CW NF hi,eF,jP];have hkb:=iR m m.crs[i].pts l;refine EU 0 (fun F H'=>F 1=.n (i:Nat)/\F 3=.ptr h.length 0 0/\F 5=.ptr lb 0 0/\H'=H/\OJ m m.crs[i].pts l=true) (fun F H'=>F 6=.bool true/\H'=H/\OJ m m.crs[i].pts l=false) ?_ ?_ ?_
 .refine BK (fun n F H'=>∃k,n+k=l.length/\F 1=.n (i:Nat)/\F 3=.ptr h.length 0 0/\F 5=.ptr lb 0 0/\F 25=.sl m.crs[i].pm 1 (m.crs[i].pts.map qencI)/\F 26=.n m.crs[i].pts.length/\F 27=.n (k:Nat)/\H'=H/\OJ m m.crs[i].pts l=OJ m (m.crs[i].pts.drop k) (l.drop k)) l.length ⟨0,BA,ER,ER,ER,ER,ER,ER,rfl,rfl⟩ ?_
  rintro n F H' ⟨k,hk,f1,f3,f5,f25,f26,f27,rfl,hk0⟩;refine BB f26 f27 ?_;refine D9 (fun hkc=>?_) (fun hk'=>?_)
  .have hk':k<l.length:=U
   rw[hkb k hkc hk'] at hk0;obtain⟨h0,h1⟩:=dV hin k hk' hkc;obtain⟨s2,ls⟩:=hh.ld hkc H';have hlt:l[k].toNat<(KD m m.crs[i].pts[k]).length:=U;simp only[vQ,CP,↓reduceIte,jC,enP,LY,f25,f27,CZ hkc,CW ag3 hkc,encI0];refine D6 AZ ?_;simp only[vQ,OT,↓reduceIte,jC,jT,enP,XL,P7,LY,fO,OQ,gA,bne,f3,f5,f27,dS gm,hh.ix hkc,ls,GN NF gl,CZ hk',CW ag3 hk',encI0,AUL h0 h1,CW ag3 hlt,aQ,AFC h0 h1];cases hkd:(WQ m m.crs[i].pts[k] l[k]==0)
   .refine AB ?_
    exact⟨trivial,trivial,by rw[hk0,hkd];rfl⟩
   .refine BB f27 (DC k) ?_
    exact⟨n-1,U,k+1,U,f1,f3,f5,f25,f26,rfl,trivial,by rw[hk0,hkd];rfl⟩
  .refine AB ?_
   exact⟨f1,f3,f5,trivial,by rw[hk0,zJ (U:l.length<=k),nM]⟩
 .rintro F H' ⟨f1,f3,f5,rfl,hk⟩
  simp only[vQ,YX,CP,QJ,↓reduceIte,jC,enP,fP,U8,xZ,f1,f3,f5,AC8 gm,CZ hi,CW UJ hi,AEJ];refine(TW G m.crs[i].excl m.crs[i].xm 215 _ (fun x=>eqL x.l l) _ U fun r=>AEB G l s _ r _ gl U).uu ?_;exact⟨by unfold Z7;rw[hk];simp,hx⟩
 .rintro F H' ⟨f6,rfl,hk⟩
  refine A7 f6 ?_;exact⟨by unfold Z7;rw[hk];rfl,hx⟩
structure Gl where
 cross:Bool
 idx:Nat
 bm:SM
 bins:List Int
 at_:Nat
def KQ (g:Gl):List AV:=[.bool g.cross,.n (g.idx:Int),.sl g.bm 1 (g.bins.map qencI),.n (g.at_:Int)]
def encH (g:Gl):List AV:=[.bool g.cross,.n (g.idx:Int),.sl g.bm 1 (g.bins.map qencI)]
theorem VO (g:Gl):(KQ g).length=4:=rfl
theorem BAT:Frz KQ:=fun _ _ _ _=>⟨rfl,rfl⟩
theorem frzH:Frz encH:=fun _ _ _ _=>⟨rfl,rfl⟩
def mkP (i k:Nat):Gl:=⟨false,i,.full,[(k:Int)],k⟩
def mkC (m:Mo)(i k:Nat)(c:Cr):Gl:=⟨true,i,.any,TC (szs m c.pts) k,k⟩
def gPk (i:Nat)(p:Pt):Nat->List Gl
 | 0=>[]
 | k+1=>gPk i p k++(if(kindOf p k==0)=true then [mkP i k] else [])
def gP (m:Mo):Nat->List Gl
 | 0=>[]
 | i+1=>gP m i++(match m.pts[i]? with|some p=>gPk i p p.bins.length|none=>[])
def gCk (m:Mo)(i:Nat)(c:Cr):Nat->List Gl
 | 0=>[]
 | k+1=>gCk m i c k++(if Z7 m c (TC (szs m c.pts) k)=true then [mkC m i k c] else [])
def gC (m:Mo):Nat->List Gl
 | 0=>gP m m.pts.length
 | i+1=>gC m i++(match m.crs[i]? with|some c=>gCk m i c (JB (szs m c.pts))|none=>[])
def goals (m:Mo):List Gl:=gC m m.crs.length
theorem xT (i:Nat)(p:Pt):∀k,(gPk i p k).length<=k
 | 0=>jF _
 | k+1=>by
   have:=xT i p k;simp only[gPk,jX];split<;>simp<;>omega
theorem AHP {m:Mo}(hf:Full m):∀i,(gP m i).length<=64*i
 | 0=>jF _
 | i+1=>by
   have h1:=AHP hf i;simp only[gP,jX];split
   .rename_i p hp
    have h2:=xT i p p.bins.length;have h3:=(hf p (zZ hp)).2;omega
   .simp;omega
theorem AKY (m:Mo)(i:Nat)(c:Cr):∀k,(gCk m i c k).length<=k
 | 0=>jF _
 | k+1=>by
   have:=AKY m i c k;simp only[gCk,jX];split<;>simp<;>omega
theorem AS3 {m:Mo}(hg:Good m):∀i,(gC m i).length<=64*m.pts.length+256*i
 | 0=>AHP hg.full _
 | i+1=>by
   have h1:=AS3 hg i;simp only[gC,jX];split
   .rename_i c hc
    have h2:=AKY m i c (JB (szs m c.pts));have h3:=(hg.crs c (zZ hc)).prod;omega
   .simp;omega
theorem tU {m:Mo}(hg:Good m):(goals m).length<=8192:=by
 have h1:=AS3 hg m.crs.length;have h2:=hg.num;unfold goals;omega
theorem A8N (i:Int)(xs:List (List AV)):I5 jA 34 [(1,.n i),(2,.sl .full 1 xs)]=some (.agg [.bool false,.n i,.sl .full 1 xs]):=AZ
theorem A8M (i k:Int)(xs:List (List AV)):I5 jA 118 [(0,.agg [.bool false,.n i,.sl .full 1 xs]),(1,.n k)]=some (.agg [.bool false,.n i,.sl .full 1 xs,.n k]):=AZ
theorem BBF (h:Hp)(g:Gl)(hf:(KQ g).all AV.frozen=true):DF jA false h 115 1 [(0,.agg (KQ g))]=some (.sl .full 4 [KQ g],h):=by
 have h1:Tryz.prog.underlying 115=some (.slice 118):=A0Y;unfold DF;simp only[h1,sN,A0S];have h2:X0 4 0 [(0,AV.agg (KQ g))]=some [KQ g]:=rfl;simp [h2,hf]
def cellAt (l:List Is)(i k:Nat):Int:=match l[i]? with
 | some x=>(match x.l[k]? with|some z=>z|none=>0)
 | none=>0
def TU (v:Cvr)(g:Gl):Int:=if g.cross then cellAt v.crs g.idx g.at_ else cellAt v.pts g.idx g.at_
def InL (l:List Is)(i k:Nat):Prop:=∃hi:i<l.length,k<(l[i]'hi).l.length
def InR (v:Cvr)(g:Gl):Prop:=if g.cross=true then InL v.crs g.idx g.at_ else InL v.pts g.idx g.at_
theorem ZQ {l:List Is}(h:InL l i k):∃(hi:i<l.length) (hk:k<l[i].l.length),cellAt l i k=l[i].l[k]:=by
 obtain⟨hi,hk⟩:=h;refine⟨hi,hk,?_⟩;unfold cellAt;rw[jI hi];simp only;rw[jI hk]
def AVL (m:Mo)(g:Gl):Prop:=(g.cross=false/\∃p,m.pts[g.idx]?=some p/\g.at_<p.bins.length)\/(g.cross=true/\∃c,m.crs[g.idx]?=some c/\g.at_<JB (szs m c.pts))
theorem AS1 {i:Nat}{p:Pt}:∀ {k:Nat} {g:Gl},g∈gPk i p k->g.cross=false/\g.idx=i/\g.at_<k
 | 0,g,h=>by cases h
 | k+1,g,h=>by
   simp only[gPk,zK] at h;rcases h with h|h
   .obtain⟨h1,h2,h3⟩:=AS1 h;exact⟨h1,h2,U⟩
   .split at h
    .simp at h;subst h;exact⟨rfl,rfl,Nat.lt_succ_self k⟩
    .cases h
theorem A1K {m:Mo}:∀ {i:Nat} {g:Gl},g∈gP m i->AVL m g
 | 0,g,h=>by cases h
 | i+1,g,h=>by
   simp only[gP,zK] at h;rcases h with h|h
   .exact A1K h
   .split at h
    .rename_i p hp
     obtain⟨h1,h2,h3⟩:=AS1 h;exact .inl ⟨h1,p,by rw[h2];exact hp,h3⟩
    .cases h
theorem AS2 {m:Mo}{i:Nat}{c:Cr}:∀ {k:Nat} {g:Gl},g∈gCk m i c k->g.cross=true/\g.idx=i/\g.at_<k
 | 0,g,h=>by cases h
 | k+1,g,h=>by
   simp only[gCk,zK] at h;rcases h with h|h
   .obtain⟨h1,h2,h3⟩:=AS2 h;exact⟨h1,h2,U⟩
   .split at h
    .simp at h;subst h;exact⟨rfl,rfl,Nat.lt_succ_self k⟩
    .cases h
theorem A1L {m:Mo}:∀ {i:Nat} {g:Gl},g∈gC m i->AVL m g
 | 0,g,h=>A1K h
 | i+1,g,h=>by
   simp only[gC,zK] at h;rcases h with h|h
   .exact A1L h
   .split at h
    .rename_i c hc
     obtain⟨h1,h2,h3⟩:=AS2 h;exact .inr ⟨h1,c,by rw[h2];exact hc,h3⟩
    .cases h
theorem VL {α:Type}{ok:α->Is->Bool}:∀ {ws:List α} {xs:List Is},OO ok ws xs=true->∀(i:Nat) (a:α),ws[i]?=some a->∃x,xs[i]?=some x/\ok a x=true
 | [],[],_,i,a,h=>by simp at h
 | w::ws,x::xs,h,i,a,ha=>by
   simp only[OO,jM] at h
   cases i with
   | zero=>simp at ha;subst ha;exact⟨x,rfl,h.1⟩
   | succ i=>exact VL h.2 i a (BM ha)
 | [],_::_,h,_,_,_=>by cases h
 | _::_,[],h,_,_,_=>by cases h
theorem xQ {l:List Is}{x:Is}(hx:l[i]?=some x)(hn:x.l.length=n)(hk:k<n):InL l i k:=by
 obtain⟨hi,e⟩:=List.getElem?_eq_some_iff.1 hx;exact⟨hi,by rw[e];omega⟩
theorem A3P {m:Mo}{v:Cvr}(hf:MV m v=true){g:Gl}(hg:g∈goals m):InR v g:=by
 unfold MV at hf;simp only[jM] at hf;obtain⟨⟨⟨⟨_,h1⟩,h2⟩,_⟩,_⟩:=hf;unfold InR;rcases A1L hg with⟨hc,p,hp,hk⟩|⟨hc,c,hcc,hk⟩
 .rw[if_neg (by simp [hc])]
  obtain⟨x,hx,ho⟩:=VL h1 _ _ hp;unfold okP at ho;simp only[jM,beq_iff_eq] at ho;exact xQ hx ho.1 hk
 .rw[if_pos hc]
  obtain⟨x,hx,ho⟩:=VL h2 _ _ hcc;unfold okC at ho;simp only[jM,beq_iff_eq] at ho;exact xQ hx ho.1 hk
theorem A7U (g:Gl):(KQ g)[0]?=some (.bool g.cross):=rfl
theorem A7T (g:Gl):(KQ g)[1]?=some (.n (g.idx:Int)):=rfl
theorem A7S (g:Gl):(KQ g)[3]?=some (.n (g.at_:Int)):=rfl
theorem bxG (h:Hp)(g:Gl):MP h (.agg (KQ g))=some (.ptr h.length 0 0,h++[yE 4 [KQ g]]):=rfl
theorem rI (v:Cvr)(g:Gl)(hi:InR v g)(h:Hp):PCall (En G) 62 [.agg (KQ g),.agg (encV v)] h (.bool (decide (TU v g>0))):=by
 refine ACalls.pure0 rfl ?_;refine acT Tryz.func62 4 ?_;have gg:(h++[yE 4 [KQ g]]++[yE 4 [encV v]])[h.length]?=some (yE 4 [KQ g]):=AO (AX _ _);have gv:=AX (h++[yE 4 [KQ g]]) (yE 4 [encV v]);have hx:∃x,h++[yE 4 [KQ g]]++[yE 4 [encV v]]=h++x:=⟨_,zG _ _ _⟩;refine DW @lL @bxG @bxV ?_
 generalize h++[yE 4 [KQ g]]++[yE 4 [encV v]]=H at gg gv hx|-
 generalize (h++[yE 4 [KQ g]]).length=vb at gv|-
 have l0:BI jA H 4 (.ptr h.length 0 0)=some (.bool g.cross):=by rw[BC ag4 gg (row:=KQ g) rfl,A7U]
 have l1:BI jA H 3 (.ptr h.length 0 1)=some (.n (g.idx:Int)):=by rw[BC ag3 gg (row:=KQ g) rfl,A7T]
 have l3:BI jA H 3 (.ptr h.length 0 3)=some (.n (g.at_:Int)):=by rw[BC ag3 gg (row:=KQ g) rfl,A7S]
 have lv0:BI jA H 25 (.ptr vb 0 0)=some (.sl v.pm 1 (v.pts.map encL)):=by rw[BC UJ gv (row:=encV v) rfl,encV0]
 have lv1:BI jA H 25 (.ptr vb 0 1)=some (.sl v.cm 1 (v.crs.map encL)):=by rw[BC UJ gv (row:=encV v) rfl,encV1]
 refine A7 l0 ?_;unfold InR at hi;cases hc:g.cross
 .rw[if_neg (by simp [hc])] at hi
  obtain⟨h1,h2,h3⟩:=ZQ hi;have hcg:TU v g=v.pts[g.idx].l[g.at_]:=by unfold TU;rw[hc,if_neg BA,h3]
  refine AB ?_;refine D6 AZ ?_;simp only[vQ,LQ,OT,J6,↓reduceIte,jC,jT,enP,fQ,LY,YR,gB,lL,ALF,l1,l3,lv0,CZ h1,CW NF h1,oN,CZ h2,CW ag3 h2,encI0];exact⟨by rw[hcg],hx⟩
 .rw[if_pos hc] at hi
  obtain⟨h1,h2,h3⟩:=ZQ hi;have hcg:TU v g=v.crs[g.idx].l[g.at_]:=by unfold TU;rw[hc,if_pos rfl,h3]
  refine AB ?_;refine D6 AZ ?_;simp only[vQ,LQ,OT,LG,J6,↓reduceIte,jC,jT,enP,fQ,LY,YR,yG,lL,ALF,l1,l3,lv1,CZ h1,CW NF h1,oN,CZ h2,CW ag3 h2,encI0];exact⟨by rw[hcg],hx⟩
theorem AOX (g:Gl):(KQ g).all AV.leaf=true:=rfl
theorem ATW (g:Gl):(encH g).all AV.frozen=true:=rfl
theorem BBO (h:Hp):GH jA h 118=some (.ptr h.length 0 0,h++[yE 4 [[.bool false,.n 0,.sl .nil 0 [],.n 0]]]):=FB (row:=[.bool false,.n 0,.sl .nil 0 [],.n 0]) AZ
theorem A96 (h:Hp)(g:Gl)(row:List AV)(hr:row.length=4):DU jA (h++[yE 4 [row]]) 118 (.ptr h.length 0 0) (.agg (KQ g))=some (h++[yE 4 [KQ g]]):=by
 rw[SX (PG (AOX g)) (by rw[VO];exact sN) (by rw[VO,hr];exact jF _)];have:splice row 0 (KQ g)=KQ g:=by unfold splice;simp [VO,hr]
 rw[this]
theorem ldG {b:Nat}{g:Gl}(hb:h[b]?=some (yE 4 [KQ g])):BI jA h 118 (.ptr b 0 0)=some (.agg (KQ g)):=by
 rw[ED A17 sN hb rfl (by rw[VO];exact jF 4)];rfl
theorem ldH {b:Nat}{g:Gl}(hb:h[b]?=some (yE 4 [KQ g])):BI jA h 34 (.ptr b 0 0)=some (.agg (encH g)):=by
 rw[ED A0B mA hb rfl (by rw[VO];omega)];rfl
theorem BBG (h:Hp)(g:Gl):DF jA false h 49 1 [(0,.agg (encH g))]=some (.sl .full 3 [encH g],h):=by
 have h1:Tryz.prog.underlying 49=some (.slice 34):=AV6;unfold DF;simp only[h1,mA,AVU];have h2:X0 3 0 [(0,AV.agg (encH g))]=some [encH g]:=rfl;simp [h2,ATW]
theorem nZ {m:Mo}{v:Cvr}(hf:MV m v=true):FQ m=0:=by
 unfold MV at hf;simp only[jM,beq_iff_eq] at hf;exact hf.1.1.1.1
theorem AD7 {α:Type}(p:α->Bool)(xs:List α)(k:Nat)(hk:k<xs.length):(xs.take (k+1)).filter p=(xs.take k).filter p++(if p xs[k]=true then [xs[k]] else []):=by
 rw[jU hk,List.filter_append];simp [List.filter_cons]
def OM (m:Mo)(v:Cvr):List Gl:=if MV m v=true then (goals m).filter (fun g => !decide (TU v g>0)) else []
theorem ASU (m:Mo)(v:Cvr)(hF:∀h,PCall (En G) 55 [.agg (DV m),.agg (encV v)] h (.bool (MV m v)))(hL:Good m->∀h,PCall (En G) 61 [.agg (DV m)] h (.sl (nm (goals m)) 4 ((goals m).map KQ)))(h:Hp):PCall (En G) 21 [.agg (DV m),.agg (encV v)] h (.sl (nm (OM m v)) 3 ((OM m v).map encH)):=by
 refine J3 frzH ?_;refine acT Tryz.func21 4 ?_;have t:=TwoV.mk' h m v;have hvb:h.length<(h++[yE 2 [DV m]]).length:=BA;refine BB @bxM @bxV ?_
 generalize h++[yE 2 [DV m]]++[yE 4 [encV v]]=H at t|-
 generalize (h++[yE 2 [DV m]]).length=vb at t hvb|-
 refine BB (ldM t.gm) (ldV t.gv) ?_;refine(hF _).uu ?_;cases hf:MV m v
 .refine AB ?_
  have:OM m v=[]:=by unfold OM;rw[hf];rfl
  rw[this];exact⟨t.hx,outG.nil _ _ _ _⟩
 have hg:=UU (nZ hf);have hgl:=tU hg;have hin:∀g∈goals m,InR v g:=fun g hg'=>A3P hf hg'
 refine A7 (ldM t.gm) ?_;refine(hL hg _).use ?_;have hrn:OM m v=(goals m).filter (fun g => !decide (TU v g>0)):=by unfold OM;rw[if_pos hf]
 rw[hrn]
 generalize goals m=gs at hgl hin|-
 refine A7 A6W ?_;refine BK (fun n F H'=>∃k,n+k=gs.length/\F 3=.ptr vb 0 0/\F 13=.sl (nm gs) 4 (gs.map KQ)/\F 14=.n gs.length/\F 15=.n (k:Nat)/\H'[vb]?=some (yE 4 [encV v])/\ext h H'/\(∀b,isB (F 5) b->vb<b)/\outG 3 encH h ((gs.take k).filter (fun g => !decide (TU v g>0))) (F 5) H') gs.length ⟨0,BA,AQ,AQ,AQ,AQ,t.gv,t.hx,fun b hb=>hb.elim,outG.nil _ _ _ _⟩ ?_;rintro n F H' ⟨k,hk,f3,f13,f14,f15,gv,he,hlt,ho⟩;refine BB f14 f15 ?_;refine D9 ?_ ?_<;>intro hk'
 .have hcl:((gs.take k).filter (fun g => !decide (TU v g>0))).length<=k:=qJ (List.length_filter_le _ _) LD
  have hct:=AD7 (fun g => !decide (TU v g>0)) gs k hk';have ho1:=ho.app [yE 4 [KQ gs[k]]];have he1:ext h (H'++[yE 4 [KQ gs[k]]]):=he.app _;simp only[vQ,CP,↓reduceIte,jC,enP,A66,jQ,f3,f13,f15,CZ hk',DJ A17 sN VO hk',BBO,A96 _ _ [.bool false,.n 0,.sl .nil 0 [],.n 0] rfl,ldG (AX H' _),ldV (AO (x:=yE 4 [KQ gs[k]]) gv)];refine(rI G v gs[k] (hin _ (jG hk')) _).uu ?_;cases hp:decide (TU v gs[k]>0)
  .obtain⟨v',H2,ha,ho',hkeep,he',hle,hb'⟩:=ho1.append AV6 mA AVU A4V U U he1 gs[k]
   refine DW @lL (ldH (AX H' (yE 4 [KQ gs[k]]))) BBG ?_;refine KW (v:=v') (h:=H2) ha ?_;refine BB f15 (DC k) ?_;refine⟨n-1,U,k+1,U,f3,f13,f14,rfl,hkeep _ _ (AO gv) (fun e=>by have:=hlt _ e;omega),he',fun b hbb=>?_,?_⟩
   .have h1:=hb' b hbb;have h2:=AC gv;rw[h1];simp;omega
   .rw[hct,hp];exact ho'
  .refine BB f15 (DC k) ?_
   refine⟨n-1,U,k+1,U,f3,f13,f14,rfl,AO gv,he1,hlt,?_⟩;rw[hct,hp];simp only[qP,qR,if_false,jO];exact ho1
 .rw[jJ U] at ho
  refine AB ?_;exact⟨he,ho⟩
theorem PI {n:Int}:KL n=true↔0<=n/\n<=1099511627776:=by unfold KL;simp
theorem aR {n:Int}{p:Bool}(h:countB n p=true):KL n=true:=by unfold countB at h;simp only[jM] at h;exact h.1
def WL (x:List Int):Prop:=∀n∈x,KL n=true
theorem X3:∀ {x:List Int} {p:Nat->Bool} {k:Nat},rowF p k x=true->WL x
 | [],_,_,_=>fun _ h=>by cases h
 | n::x,p,k,h=>by
   simp only[rowF,jM] at h;intro m hm;rcases zN.1 hm with rfl|hm
   .exact aR h.1
   .exact X3 h.2 m hm
theorem fY {m:Mo}{v:Cvr}:MV m v=true↔FQ m=0/\OO okP m.pts v.pts=true/\OO (okC m) m.crs v.crs=true/\KL v.sam=true/\KL v.ill=true:=by
 unfold MV;simp only[jM,beq_iff_eq];exact⟨fun⟨⟨⟨⟨a,b⟩,c⟩,d⟩,e⟩=>⟨a,b,c,d,e⟩,fun⟨a,b,c,d,e⟩=>⟨⟨⟨⟨a,b⟩,c⟩,d⟩,e⟩⟩
def zeros (n:Nat):List Int:=jR n 0
def zIs (n:Nat):Is:=⟨.full,zeros n⟩
theorem fE:∀(n:Nat) {p:Nat->Bool} {k:Nat},rowF p k (zeros n)=true
 | 0,_,_=>rfl
 | n+1,p,k=>by
   have ih:=fE n (p:=p) (k:=k+1);unfold zeros at *;simp only[List.replicate_succ,rowF,ih,Bool.and_true];unfold countB;cases p k<;>rfl
theorem oB {α:Type}{ok:α->Is->Bool}(f:α->Is)(hf:∀a,ok a (f a)=true):∀ws:List α,OO ok ws (ws.map f)=true
 | []=>rfl
 | a::ws=>by simp only[jK,OO,hf,oB f hf ws,Bool.and_true]
theorem AXB {p:Pt}{x:Is}(h:okP p x=true):x.l.length=p.bins.length:=by
 unfold okP at h;simp only[jM,beq_iff_eq] at h;exact h.1
theorem AXF {m:Mo}{c:Cr}{x:Is}(h:okC m c x=true):x.l.length=JB (szs m c.pts):=by
 unfold okC at h;simp only[jM,beq_iff_eq] at h;exact h.1
theorem oC {α:Type}{ok:α->Is->Bool}(hok:∀a x y,x.l=y.l->ok a x=ok a y):∀(ws:List α) (xs ys:List Is),xs.map (·.l)=ys.map (·.l)->OO ok ws xs=OO ok ws ys
 | [],[],[],_=>rfl
 | a::ws,x::xs,y::ys,h=>by
   simp only[jK,List.cons.injEq] at h;simp only[OO,hok a x y h.1,oC hok ws xs ys h.2]
 | [],x::xs,y::ys,h=>rfl
 | a::ws,[],[],h=>rfl
 | _,[],_::_,h=>by simp at h
 | _,_::_,[],h=>by simp at h
theorem mkI (h:Hp)(n:Nat)(hn:n<=1048576):GV jA true h 32 (.n (n:Int)) (.n (n:Int))=some (.own h.length 0 n,h++[yE 1 ((zeros n).map qencI)]):=by
 rw[BAL h n hn,AY9];simp [zeros]
theorem JZ (h:Hp)(x y:ABlk):(h++[x]).set h.length y=h++[y]:=BA
theorem JM {t:Nat}{b:Nat}(hF:F a=.ptr b 0 0)(h1:BI P h t (.ptr b 0 0)=some x):L6 P [.cell a t] R .ret F h=R x h:=by simp [L6,cG,U2,hF,h1]
theorem A4I {t b:Nat}{y:AV}{bb:Nat}(hF:F a=.ptr ba 0 0)(hG:F b=.ptr bb 0 0)(h1:BI P h t (.ptr ba 0 0)=some x)(h2:BI P h u (.ptr bb 0 0)=some y):L6 P [.cell a t,.cell b u] R .ret F h=R (.tup [x,y]) h:=by simp [L6,cG,RP,U2,hF,hG,h1,h2]
theorem ALI {t b:Nat}{y:AV}{bb:Nat}(hF:F a=.ptr ba 0 0)(hG:F b=.ptr bb 0 0)(h1:BI P h t (.ptr ba 0 0)=some x)(h2:BI P h u (.ptr bb 0 0)=some y):L6 P [.cell a t,.cell b u,.tmp c] R .ret F h=R (.tup [x,y,F c]) h:=by simp [L6,cG,RP,U2,hF,hG,h1,h2]
theorem ZP {t:Nat}(hF:F a=.ptr ba 0 0)(h1:BI P h t (.ptr ba 0 0)=some x):L6 P [.cell a t,.tmp c] R .ret F h=R (.tup [x,F c]) h:=by simp [L6,cG,RP,U2,hF,h1]
def fzG {α:Type}(k:Nat)(f:α->List AV)(ys:List α):AV:=match ys with
 | []=>.sl .nil 0 []
 | _=>.sl .any k (ys.map f)
theorem P6 {α:Type}{f:α->List AV}{ys:List α}(hf:Frz f)(ho:outG k f h ys v H)(n d:Nat)(hn:n<=h.length):FH n H (d+2) v=fzG k f ys:=by
 rcases ho with⟨rfl,rfl⟩|⟨hne,o,h2,rfl,h3⟩
 .rfl
 .rw[frz_own hf (qJ hn h2) h3]
  cases ys with
  | nil=>exact absurd rfl hne
  | cons _ _=>rfl
theorem WR {α:Type}{f:α->List AV}{ys:List α}:CvR (fzG k f ys) (.sl (nm ys) k (ys.map f)):=by
 cases ys with
 | nil=>exact CvR.sl (Cv.nil 0 k)
 | cons y ys=>exact CvR.refl _
theorem outG.app2 {t e:TypeId}{α:Type}{bs:Nat}{f:α->List AV}{ys:List α}(ho:outG k f h ys v H)(hu:P.underlying t=some (.slice e))(hs:szO P e=some k)(hz:TA P e=some k)(hb:KI P e=some bs)(hbs:bs<=4194304)(hl:ys.length<8388608)(he:h.length<=H.length)(y:α):
  ∃v' H',EQ P true H t t v (.sl .full k [f y])=some (v',H')/\outG k f h (ys++[y]) v' H'/\(∀b x,H[b]?=some x->¬isB v b->H'[b]?=some x)/\H'.length=H.length+1/\(∀b,isB v' b->b=H.length)/\(∃o l,v'=.own o 0 l)/\∀e:Hp,e.length<=h.length->ext e H->ext e H':=by
 have h1:([f y]:List (List AV))≠[]:=BA;rcases ho with⟨rfl,rfl⟩|⟨hne,o,h2,rfl,h3⟩
 .exact⟨_,_,QZ hu hs hz hb (GK H .full k [f y]) h1 (G5 BA hbs),.inr ⟨BA,H.length,he,rfl,BA⟩,fun b x hb _=>FO hb,BA,fun b hb=>hb.symm,⟨_,_,rfl⟩,fun e _ hx=>hx.app _⟩
 .have hc:I9 H (.own o 0 ys.length)=some (k,ys.map f):=by
   rw[JS h3 BA,zU,jJ BA]
  refine⟨_,_,QB hu hs hz hb hc (GK H .full k [f y]) h1 (G5 LD hbs),.inr ⟨BA,H.length,he,BA,BA⟩,fun b x hb hn=>?_,BA,fun b hb=>hb.symm,⟨_,_,rfl⟩,fun e hl hx=>(hx.set (qJ hl h2) _).app _⟩;have hn':¬o=b:=hn;refine FO ?_;rw[zQ,if_neg hn'];exact hb
theorem IR {t b j:Nat}{cs:List AV}(hc:IB v=some cs)(hs:szO P t=some cs.length)(hb:H[b]?=some (yE k [row]))(hl:j+cs.length<=row.length):DU P H t (.ptr b 0 j) v=some (H.set b (yE k [splice row j cs])):=by
 rw[G8 (i:=0) hc hs hb rfl hl];rfl
structure Tk where
 m:SM
 last:List Is
def AEF (t:Tk):List AV:=[.sl t.m 1 (t.last.map encL)]
def zV:Cvr:=⟨.nil,[],.nil,[],0,0⟩
def zLs (m:Mo):List Is:=m.pts.map fun _=>⟨.nil,[]⟩
def GU:List AV:=[.sl .nil 0 []]
theorem A36 {α:Type}:Frz (fun _:α=>GU):=fun _ _ _ _=>⟨rfl,rfl⟩
theorem AXM:CvRow GU (encL ⟨.nil,[]⟩):=CvRow.cons rfl (Cv.nil 0 1) CvRow.nil
theorem AXL {α:Type}{s:SM}(xs:List α):Cv (.sl s 1 (xs.map fun _=>GU)) (.sl s 1 ((xs.map fun _=>(⟨.nil,[]⟩:Is)).map encL)):=by
 rw[qQ];exact Cv.map fun _ _=>AXM
theorem A5G:CvR (.agg [.sl .nil 0 [],.sl .nil 0 [],.n 0,.n 0]) (.agg (encV zV)):=CvR.agg (CvRL.cons (CvR.sl (Cv.nil 0 1)) (CvRL.cons (CvR.sl (Cv.nil 0 1)) (CvRL.cons (CvR.refl _) (CvRL.cons (CvR.refl _) CvRL.nil))))
def I8:List AV:=[.sl .nil 0 [],.sl .nil 0 [],.n 0,.n 0]
theorem pR (h:Hp):GH jA h 46=some (.ptr h.length 0 0,h++[yE 4 [I8]]):=FB (row:=I8) AZ
theorem AU3 (h:Hp):GH jA h 94=some (.ptr h.length 0 0,h++[yE 1 [GU]]):=FB (row:=GU) AZ
theorem AUP:I5 jA 46 []=some (.agg I8):=AZ
theorem A8P:I5 jA 94 []=some (.agg GU):=AZ
theorem stV {b:Nat}{v:Cvr}(hb:H[b]?=some (yE 4 [row]))(hr:row.length=4):DU jA H 46 (.ptr b 0 0) (.agg (encV v))=some (H.set b (yE 4 [encV v])):=by
 rw[IR (cs:=encV v) rfl AGG hb (by rw[hr];exact jF 4)];have:splice row 0 (encV v)=encV v:=by unfold splice;simp [encV_len,hr]
 rw[this]
theorem stZ {b:Nat}(hb:H[b]?=some (yE 4 [row]))(hr:row.length=4):DU jA H 46 (.ptr b 0 0) (.agg I8)=some (H.set b (yE 4 [I8])):=by
 rw[IR (cs:=I8) rfl AGG hb (by rw[hr];exact jF 4)];have:splice row 0 I8=I8:=by unfold splice;simp [I8,hr]
 rw[this]
theorem A5W {b:Nat}(hb:H[b]?=some (yE 1 [row]))(hr:row.length=1):DU jA H 94 (.ptr b 0 0) (.agg GU)=some (H.set b (yE 1 [GU])):=by
 rw[IR (cs:=GU) rfl AV8 hb (by rw[hr];exact jF 1)];have:splice row 0 GU=GU:=by unfold splice;rw[List.take_zero,zJ (by rw[hr];exact jF 1)];simp
 rw[this]
theorem SN {b:Nat}(hb:h[b]?=some (yE 4 [row]))(hr:row.length=4):BI jA h 46 (.ptr b 0 0)=some (.agg row):=by
 rw[ED A89 AGG hb rfl (by rw[hr];exact jF 4),zU,jJ U]
theorem dR {b:Nat}(hb:h[b]?=some (yE 1 [row]))(hr:row.length=1):BI jA h 94 (.ptr b 0 0)=some (.agg row):=by
 rw[ED BBW AV8 hb rfl (by rw[hr];exact jF 1),zU,jJ U]
def ALT (l:List (List Int))(i k:Nat):Int:=match l[i]? with
 | some x=>(match x[k]? with|some z=>z|none=>0)
 | none=>0
theorem AE2 (l:List Is)(i k:Nat):cellAt l i k=ALT (l.map (·.l)) i k:=by
 unfold cellAt ALT;rw[jW];cases l[i]? <;> rfl
end Go.Proofs.YtiihpnicbekebaaGreatDoor.Cov
namespace Go.Proofs.YtiihpnicbekebaaGreatDoor.Rk
open Sm Bins Cov Go.RowKit
def SomeB (E:Env)(f:FuncId)(args:List AV)(h:Hp):Prop:=ACalls E f args h fun v H=>(∃b:Bool,v=.bool b)/\H=h
theorem SomeB.of {E:Env}{f:FuncId}{args:List AV}{h:Hp}(hc:ACalls E f args h fun v H=>(∃b:Bool,v=.bool b)/\ext h H):SomeB E f args h :=
 hc.trunc fun v H hR=>by
  obtain⟨⟨b,rfl⟩,x,rfl⟩:=hR;exact⟨1,h,rfl,fun b hb=>.inr (.inl ⟨by rw[qM hb],by rw[qM hb]⟩),⟨b,rfl⟩,rfl⟩
theorem SomeB.use {E:Env}{f:FuncId}{args:List AV}{h:Hp}{K:AV->Hp->Prop}(hc:SomeB E f args h)(hk:∀b:Bool,K (.bool b) h):ACalls E f args h K :=
 ACalls.mono hc fun v H ⟨⟨b,e⟩,e2⟩=>by rw[e,e2];exact hk b
theorem wt_arg {e:Ex}{k:Nat}(hk:k<e.args.length):wt e.args[k]<wt e:=by
 have h1:=V4 (List.getElem_mem hk);have h2:=MQ e;omega
theorem ldE' {H:Hp}{b:Nat}{e:Ex}(hb:H[b]?=some (yE 4 [A8 e])):BI jA H 23 (.ptr b 0 3)=some (.sl e.m 4 (e.args.map A8)):=by
 rw[BC LM hb (row:=A8 e) rfl,YU]
theorem ldPE {H:Hp}{l:List Pt}{i:Nat}(hi:i<l.length):BI jA H 79 (.fptr 6 (l.map FK) i 1)=some (.agg (A8 l[i].ex)):=by
 have h1:=H9 l[i];simp only[BI,Sm.rowAt,List.getElem?_map,List.getElem?_eq_getElem hi,Option.map_some,O6,JE];rw[if_pos (by rw[h1];omega),yQ]
end Go.Proofs.YtiihpnicbekebaaGreatDoor.Rk
namespace Go.Proofs.YtiihpnicbekebaaGreatDoor.Cov
open Sm Bins Go.RowKit
variable {b k:Nat} {H h:Hp} {v:AV}
theorem outG.setB {α:Type}{f:α->List AV}{ys:List α}(ho:outG k f h ys v H)(hb:b<h.length)(y:ABlk):outG k f h ys v (H.set b y) :=
 ho.keep fun b' hb'=>by
  have:=ho.lt hb';rw[List.getElem?_set_ne U]
theorem outG.keepA {α:Type}{f:α->List AV}{H':Hp}{ys:List α}{u:AV}(ho:outG k f h ys v H)(hk:∀b x,H[b]?=some x->¬isB u b->H'[b]?=some x)(hd:∀b,isB v b->¬isB u b):outG k f h ys v H':=by
 rcases ho with h1|⟨h1,o,h2,rfl,h3⟩
 .exact .inl h1
 .exact .inr ⟨h1,o,h2,rfl,hk _ _ h3 (hd o rfl)⟩
theorem outG.leaf {α:Type}{k:Nat}{f:α->List AV}{h H:Hp}{ys:List α}{v:AV}(ho:outG k f h ys v H):v.leaf=true:=by
 rcases ho with⟨_,rfl⟩|⟨_,o,_,rfl,_⟩<;>rfl
theorem outG.base {α:Type}{f:α->List AV}{h':Hp}{ys:List α}(ho:outG k f h ys v H)(hl:h'.length<=h.length):outG k f h' ys v H:=by
 rcases ho with h1|⟨h1,o,h2,rfl,h3⟩
 .exact .inl h1
 .exact .inr ⟨h1,o,Nat.le_trans hl h2,rfl,h3⟩
def LV (v1 v2:AV):List AV:=[v1,v2,.n 0,.n 0]
structure Em (h H:Hp) (m:Mo) (b2 b3 b4 b5:Nat) (v1 v2 v3:AV):Prop where
 gm:H[h.length]?=some (yE 2 [DV m])
 g2:H[b2]?=some (yE 4 [I8])
 g3:H[b3]?=some (yE 1 [GU])
 g4:H[b4]?=some (yE 4 [LV v1 v2])
 g5:H[b5]?=some (yE 1 [[v3]])
 o2:h.length<b2
 o3:b2<b3
 o4:b3<b4
 o5:b4<b5
 hx:ext h H
section
variable {h H:Hp} {m:Mo} {b2 b3 b4 b5:Nat} {v1 v2 v3:AV} (E:Em h H m b2 b3 b4 b5 v1 v2 v3)
include E
theorem Em.m0:BI jA H 28 (.ptr h.length 0 0)=some (.sl m.pm 6 (m.pts.map FK)):=by rw[BC iD E.gm (row:=DV m) rfl,VN]
theorem Em.m1:BI jA H 29 (.ptr h.length 0 1)=some (.sl m.cm 3 (m.crs.map IA)):=by rw[BC sD E.gm (row:=DV m) rfl,aP]
theorem Em.l4:BI jA H 25 (.ptr b4 0 0)=some v1:=by rw[BC UJ E.g4 (row:=LV v1 v2) rfl];rfl
theorem Em.l4':BI jA H 25 (.ptr b4 0 1)=some v2:=by rw[BC UJ E.g4 (row:=LV v1 v2) rfl];rfl
theorem Em.l5:BI jA H 25 (.ptr b5 0 0)=some v3:=by rw[BC UJ E.g5 (row:=[v3]) rfl];rfl
theorem Em.app (x:Hp):Em h (H++x) m b2 b3 b4 b5 v1 v2 v3:=⟨FO E.gm,FO E.g2,FO E.g3,FO E.g4,FO E.g5,E.o2,E.o3,E.o4,E.o5,E.hx.app _⟩
theorem Em.keep {H':Hp}{u:AV}(hk:∀b x,H[b]?=some x->¬isB u b->H'[b]?=some x)(hu:∀b,isB u b->b5<b)(hx:ext h H->ext h H'):Em h H' m b2 b3 b4 b5 v1 v2 v3:=by
 have o2:=E.o2;have o3:=E.o3;have o4:=E.o4;have o5:=E.o5;exact⟨hk _ _ E.gm (fun e=>by have:=hu _ e;omega),hk _ _ E.g2 (fun e=>by have:=hu _ e;omega),hk _ _ E.g3 (fun e=>by have:=hu _ e;omega),hk _ _ E.g4 (fun e=>by have:=hu _ e;omega),hk _ _ E.g5 (fun e=>by have:=hu _ e;omega),o2,o3,o4,o5,hx E.hx⟩
theorem Em.set4 (w1 w2:AV):Em h (H.set b4 (yE 4 [LV w1 w2])) m b2 b3 b4 b5 w1 w2 v3:=by
 have o2:=E.o2;have o3:=E.o3;have o4:=E.o4;have o5:=E.o5;exact⟨C9 E.gm U,C9 E.g2 U,C9 E.g3 U,CV E.g4,C9 E.g5 U,o2,o3,o4,o5,E.hx.set U _⟩
theorem Em.set5 (w3:AV):Em h (H.set b5 (yE 1 [[w3]])) m b2 b3 b4 b5 v1 v2 w3:=by
 have o2:=E.o2;have o3:=E.o3;have o4:=E.o4;have o5:=E.o5;exact⟨C9 E.gm U,C9 E.g2 U,C9 E.g3 U,C9 E.g4 U,CV E.g5,o2,o3,o4,o5,E.hx.set U _⟩
theorem Em.s4 {o l:Nat}:DU jA H 25 (.ptr b4 0 0) (.own o 0 l)=some (H.set b4 (yE 4 [LV (.own o 0 l) v2])):=IR (row:=LV v1 v2) (AAI _ _ _) AV9 E.g4 (by simp [LV])
theorem Em.s4' {o l:Nat}:DU jA H 25 (.ptr b4 0 1) (.own o 0 l)=some (H.set b4 (yE 4 [LV v1 (.own o 0 l)])):=IR (row:=LV v1 v2) (AAI _ _ _) AV9 E.g4 (by simp [LV])
theorem Em.s5 {o l:Nat}:DU jA H 25 (.ptr b5 0 0) (.own o 0 l)=some (H.set b5 (yE 1 [[.own o 0 l]])):=IR (row:=[v3]) (AAI _ _ _) AV9 E.g5 BA
theorem Em.lt:b5<H.length:=AC E.g5
end
theorem Em.mk' (h:Hp)(m:Mo):Em h (h++[yE 2 [DV m]]++[yE 4 [I8]]++[yE 1 [GU]]++[yE 4 [I8]]++[yE 1 [GU]]) m (h++[yE 2 [DV m]]).length (h++[yE 2 [DV m]]++[yE 4 [I8]]).length
  (h++[yE 2 [DV m]]++[yE 4 [I8]]++[yE 1 [GU]]).length (h++[yE 2 [DV m]]++[yE 4 [I8]]++[yE 1 [GU]]++[yE 4 [I8]]).length (.sl .nil 0 []) (.sl .nil 0 []) (.sl .nil 0 []) :=
 ⟨AO (AO (AO (AO (AX _ _)))),AO (AO (AO (AX _ _))),AO (AO (AX _ _)),AO (AX _ _),AX _ _,BA,BA,BA,BA,((((ext.rfl' h).app _).app _).app _).app _ |>.app _⟩
theorem A8H (h:Hp):DF jA false h 25 1 [(0,.sl .nil 0 [])]=some (.sl .full 1 [GU],h):=AZ
theorem AQQ {row:List AV}{v1 v2:AV}(hb:H[b]?=some (yE 4 [row]))(hr:row.length=4)(h1:v1.leaf=true)(h2:v2.leaf=true):DU jA H 46 (.ptr b 0 0) (.agg (LV v1 v2))=some (H.set b (yE 4 [LV v1 v2])):=by
 rw[IR (cs:=LV v1 v2) (PG (by simp [LV,h1,h2];rfl)) AGG hb (by rw[hr];exact jF 4)];have:splice row 0 (LV v1 v2)=LV v1 v2:=by unfold splice;rw[qI,zJ (by rw[hr];exact jF 4)];simp
 rw[this]
theorem AQP {row:List AV}{v3:AV}(hb:H[b]?=some (yE 1 [row]))(hr:row.length=1)(h3:v3.leaf=true):DU jA H 94 (.ptr b 0 0) (.agg [v3])=some (H.set b (yE 1 [[v3]])):=by
 rw[IR (cs:=[v3]) (PG (by simp [h3])) AV8 hb (by rw[hr];exact jF 1)];have:splice row 0 [v3]=[v3]:=by unfold splice;rw[qI,zJ (by rw[hr];exact jF 1)];simp
 rw[this]
theorem X8 {E:Env}{f:FuncId}{args:List AV}{r:AV}(d:Nat)(hr:∀n H,FH n H d r=r)(hc:ACalls E f args h fun v H=>v=r/\ext h H)(hX:E.nox=E:=by rfl):PCall E f args h r :=
 ACalls.pure d hc (fun v H ⟨e,he⟩=>⟨he,by rw[e];exact hr _ _⟩) hX
structure Ee (h H:Hp) (m:Mo) (b2 b3:Nat):Prop where
 gm:H[h.length]?=some (yE 2 [DV m])
 g2:H[b2]?=some (yE 4 [I8])
 g3:H[b3]?=some (yE 1 [GU])
 o2:h.length<b2
 o3:b2<b3
 hx:ext h H
theorem Ee.mk' (h:Hp)(m:Mo):Ee h (h++[yE 2 [DV m]]++[yE 4 [I8]]++[yE 1 [GU]]) m (h++[yE 2 [DV m]]).length (h++[yE 2 [DV m]]++[yE 4 [I8]]).length :=
 ⟨AO (AO (AX _ _)),AO (AX _ _),AX _ _,BA,BA,(((ext.rfl' h).app _).app _).app _⟩
theorem Ee.lt {m:Mo}{b2 b3:Nat}(E:Ee h H m b2 b3):b3<H.length:=AC E.g3
theorem Ee.m0 {m:Mo}{b2 b3:Nat}(E:Ee h H m b2 b3):BI jA H 28 (.ptr h.length 0 0)=some (.sl m.pm 6 (m.pts.map FK)):=by rw[BC iD E.gm (row:=DV m) rfl,VN]
theorem DI {x:ABlk}(he:ext h H)(hb:h[b]?=some x):H[b]?=some x:=by
 obtain⟨y,rfl⟩:=he;exact FO hb
theorem A2N (h:Hp)(v:Cvr):DU jA (h++[yE 4 [I8]]) 46 (.ptr h.length 0 0) (.agg (encV v))=some (h++[yE 4 [encV v]]):=by rw[stV (AX _ _) rfl,JZ]
end Go.Proofs.YtiihpnicbekebaaGreatDoor.Cov
namespace Go.Proofs.YtiihpnicbekebaaGreatDoor.Bins
open Sm
variable {last:List Int} {v:Int} {n:Nat} (G:Nat->AV )
instance:Inhabited Rs:=⟨⟨.nil,[]⟩⟩
theorem AN9 (r:Rng)(b:Nat)(v:Int)(h:Hp)(hv:BI jA h 3 (.ptr b 0 0)=some (.n v)):
  PCall (En G) 409 [.agg (encR r),.ptr b 0 0] h (.bool (decide (r.lo<=v)&&decide (v<=r.hi))):=by
 refine ACalls.pure0 rfl ?_;refine acT Tryz.func409 3 ?_;simp only[vQ,EM,CP,TB,ZR,↓reduceIte,jC,Nat.add_zero,enP,ZM,bxR,D7 ag3,AC5 hv,aO,YT];refine IZ ?_ ?_<;>intro ha
 .simp only[vQ,EM,QH,CP,ZR,↓reduceIte,jC,enP,ZL,bxR,D7 ag3,AC5 hv,aO,YT,ha]
  exact⟨BA,_,rfl⟩
 .refine A7 ha ?_
  exact⟨BA,_,rfl⟩
theorem indexFunc (G:Nat->AV)(xs:List Rng)(m:SM)(fid:FuncId)(caps:List AV)(p:Rng->Bool)(h:Hp)(hl:xs.length<=1099511627776)
  (hf:∀r,PCall (En G) fid (.agg (encR r)::caps) h (.bool (p r))) :
  PCall (En G) 326 [.sl m 2 (xs.map encR),.fn (.func fid) [] caps] h (.n (match xs.findIdx? p with|some i=>(i:Int)|none => -1)):=by
 refine acT Tryz.func326 4 ?_;refine AB ?_;refine BK (fun n F H=>∃k,n+k=xs.length/\F 0=.sl m 2 (xs.map encR)/\F 1=.fn (.func fid) [] caps/\F 7=.n xs.length/\F 8=.n (k:Nat)/\H=h/\(xs.take k).all (fun r => !p r)=true) xs.length ⟨0,BA,rfl,rfl,rfl,rfl,rfl,rfl⟩ ?_;rintro n F H ⟨k,hk,f0,f1,f7,f8,rfl,hin⟩;refine ES f0 f1 f7 f8 ?_;refine D9 ?_ ?_<;>intro hc'
 .simp only[vQ,CP,List.nil_append,List.cons_append,↓reduceIte,jC,enP,dT,f0,f1,f7,f8,CZ hc',DJ eQ MF YS hc']
  refine(hf _).uu ?_;refine BO ?_ ?_<;>intro hb
  .refine AB ?_
   refine⟨?_,trivial⟩
   rw[wM.2 ⟨hc',hb,fun j hj=>by
    rw[List.all_eq_true] at hin;have:=hin xs[j] (by rw[List.mem_take_iff_getElem];exact⟨j,U,rfl⟩)
    simpa using this⟩]
  .refine BB f8 (DC k) ?_
   refine⟨n-1,U,k+1,U,f0,f1,f7,rfl,trivial,?_⟩;rw[List.take_succ_eq_append_getElem hc',List.all_append,hin];simp only[wF,yC,hb];rfl
 .refine AB ?_
  refine⟨?_,trivial⟩;rw[List.take_of_length_le U] at hin;rw[List.findIdx?_eq_none_iff.2 (BM hin)]
theorem yY (G:Nat->AV)(xs:List Rng)(m:SM)(fid:FuncId)(caps:List AV)(p:Rng->Bool)(h:Hp)(hl:xs.length<=1099511627776)
  (hf:∀r,PCall (En G) fid (.agg (encR r)::caps) h (.bool (p r))) :
  PCall (En G) 408 [.sl m 2 (xs.map encR),.fn (.func fid) [] caps] h (.bool (xs.any p)):=by
 refine acT Tryz.func408 4 ?_;refine AB ?_;refine(indexFunc G xs m fid caps p h hl hf).uu ?_;refine⟨?_,trivial⟩
 cases hx:xs.findIdx? p with
 | some i =>
   obtain⟨h1,h2,_⟩:=wM.1 hx;have:xs.any p=true:=List.any_eq_true.2 ⟨xs[i],BA,h2⟩;simp [this]
 | none =>
   have:xs.any p=false:=by simp_all
   simp [this]
theorem inside_prog (xs:List Rng)(m:SM)(v:Int)(h:Hp)(hl:xs.length<=1099511627776):
  PCall (En G) 393 [.sl m 2 (xs.map encR),.n v] h (.bool (inside xs v)):=by
 refine ACalls.pure0 rfl ?_;refine acT Tryz.func393 4 ?_;refine A7 @ALV ?_;refine(yY G xs m 409 _ _ _ hl fun r=>AN9 G r h.length v _ (D7 ag3)).uu ?_;exact⟨rfl,_,rfl⟩
theorem ALQ (xs:List Int)(m:SM)(h:Hp)(hl:xs.length<=16777216):
  ACalls (En G) 189 [.sl m 1 (xs.map qencI)] h (AIA 1 (xs.map qencI) h):=by
 refine ACalls.of_rep (cok _ _ AZ) fun⟨g,cargs,ha⟩=>?_
 refine acT Tryz.func189 2 ?_;refine A7 A6I ?_;refine BO ?_ ?_<;>intro hc
 .have hm:m=.nil:=BM hc
  subst hm;refine A7 @decide_true ?_;exact .inl ⟨nF ha (i:=0) rfl,⟨_,rfl⟩,rfl⟩
 .refine A7 @AIG ?_
  rcases Classical.em (xs=[]) with hx|hx
  .subst hx
   simp only[vQ,CP,↓reduceIte,AFK U4 sz3 (.inr rfl)];exact .inr (.inl ⟨rfl,rfl,rfl⟩)
  .have hr:room (([]:List (List AV)).length+(xs.map qencI).length) 8:=G5 (BM hl) U
   have hne:xs.map qencI≠[]:=BM hx;refine A7 (VW U4 sz3 aV YW (GK h m 1 (xs.map qencI)) hne hr) ?_;exact .inr (.inr ⟨BM hx,BA,BA⟩)
def setAt (b:Bin)(i:Nat):List Rng:=((sets b)[i]?.getD default).l
def cV (last:List Int)(n:Nat)(v:Int)(i:Nat):Int:=if i+1<n then last[last.length+1-n+i]?.getD 0 else v
def ADO (b:Bin)(last:List Int)(v:Int)(k:Nat):Bool:=(List.range k).all fun i=>inside (setAt b i) (cV last (sets b).length v i)
def hit (b:Bin)(last:List Int)(v:Int):Bool:=decide (IQ b=0)&&decide ((sets b).length<=last.length+1)&&ADO b last v (sets b).length
theorem AOI (b:Bin)(last:List Int)(v:Int)(k:Nat):ADO b last v (k+1)=(ADO b last v k&&inside (setAt b k) (cV last (sets b).length v k)):=by
 unfold ADO;rw[List.range_succ,List.all_append,wF,yC,Bool.and_true]
theorem AYE {b:Bin}{k:Nat}(hk:k<n)(h:inside (setAt b k) (cV last (sets b).length v k)=false):ADO b last v n=false:=by
 unfold ADO;rw[List.all_eq_false];exact⟨k,BM hk,by simp [h]⟩
theorem AGC {b:Bin}(h:IQ b=0):1<=(sets b).length:=by
 unfold IQ at h;split at h
 .split at h
  .cases h
  .rename_i hr
   unfold sets;split
   .simp
   .rename_i hz
    simp only[OX,Bool.not_eq_true,Bool.or_eq_false_iff] at hr;have:=hr.1.1.1.2;have hz':decide ((b.ranges.l.length:Int)>0)=false:=decide_eq_false U;rw[hz'] at this;simp at this;rcases hs:b.steps with _|⟨x,l⟩
    .rw[hs] at this;simp at this
    .simp
 .cases h
theorem ASN {xs:List Int}{i:Nat}(h:i<xs.length):(xs.map qencI)[i]?=some [.n xs[i]]:=by simp [h,qencI]
theorem pE (h:Hp)(v:Int):DF jA false h 32 1 [(0,.n v)]=some (.sl .full 1 [[.n v]],h):=AZ
def vals (last:List Int)(n:Nat)(v:Int):List Int:=last.drop (last.length+1-n)++[v]
theorem AAX (h1:1<=n)(h2:n<=last.length+1):(vals last n v).length=n:=by simp [vals];omega
theorem AP4 {i:Nat}(h1:1<=n)(h2:n<=last.length+1)(hi:i<(vals last n v).length):(vals last n v)[i]=cV last n v i:=by
 have hl:=AAX (v:=v) h1 h2;unfold vals cV at *;rw[List.getElem_append];split
 .grind
 .grind
theorem hit_prog (hG:KwG G)(b:Bin)(hb:BinOk b)(last:List Int)(m:SM)(v:Int)(h:Hp)(hl:last.length<=8388608):
  PCall (En G) 392 [.agg (GG b),.sl m 1 (last.map qencI),.n v] h (.bool (hit b last v)):=by
 refine ACalls.pure0 rfl ?_;refine acT Tryz.func392 6 ?_;refine BB @bxB @ldB ?_;refine(valid_prog G hG b hb _).uu ?_;refine BO ?_ ?_<;>intro hv
 .refine AB ?_
  refine⟨?_,_,rfl⟩;have:IQ b≠0:=BM hv;simp [hit,this]
 have hv0:IQ b=0:=BM hv;have h1:=AGC hv0;have hnum:=hb.num;refine A7 @ldB ?_;refine(sT G b _).use ?_;have hw:IntKind.i64.wrap (((sets b).length:Int)-1)=(((sets b).length-1:Nat):Int):=by rw[wrap_i64 U U];omega
 refine A7 hw ?_;refine BO ?_ ?_<;>intro hc
 .refine AB ?_
  refine⟨?_,_,rfl⟩;have:¬(sets b).length<=last.length+1:=by simp at hc;omega
  simp [hit,this]
 have hc':(sets b).length<=last.length+1:=by simp at hc;omega
 have hw2:IntKind.i64.wrap ((last.length:Int)-(((sets b).length-1:Nat):Int))=((last.length+1-(sets b).length:Nat):Int):=by rw[wrap_i64 U U];omega
 simp only[vQ,Option.map_some,Option.map_none,CP,UK,P9,↓reduceIte,jC,enP,dO,A3E,List.length_map,hw,hw2,lE U4 sz3 (h:=h++[yE 4 [GG b]]) (m:=m) (kk:=.i64) (xs:=last.map qencI) (l:=last.length+1-(sets b).length) LD,<-List.map_drop];refine(ALQ G _ m _ LD).mono fun vv H' hcl=>?_
 have hn:=AAX (v:=v) h1 hc';refine sG (fun F H=>F 7=.sl (sU b) 1 ((sets b).map encS)/\∃o,F 8=.own o 0 (sets b).length/\H[o]?=some (yE 1 ((vals last (sets b).length v).map qencI))/\∃x,H=h++x) ?_ ?_
 .have hv1:([[AV.int .i64 v]]:List (List AV))≠[]:=BA
  rcases hcl with⟨hx,⟨k0,rfl⟩,rfl⟩|⟨hx,rfl,rfl⟩|⟨hx,rfl,rfl⟩
  .have hx':last.drop (last.length+1-(sets b).length)=[]:=BM hx
   have e1:vals last (sets b).length v=[v]:=by unfold vals;rw[hx'];rfl
   rw[e1] at hn;simp at hn;simp only[vQ,JH,CP,F6,JW,↓reduceIte,jC,enP,pE,QZ U4 sz3 aV YW (GK (h++[yE 4 [GG b]]) .full 1 [[AV.int .i64 v]]) hv1 (G5 BA U)];exact⟨trivial,_,by rw[<-hn];rfl,by rw[e1];simp [qencI],_,by rw[zG]⟩
  .have hx':last.drop (last.length+1-(sets b).length)=[]:=BM hx
   have e1:vals last (sets b).length v=[v]:=by unfold vals;rw[hx'];rfl
   rw[e1] at hn;simp at hn;refine BB @pE (VW U4 sz3 aV YW (GK (h++[yE 4 [GG b]]) .full 1 [[AV.int .i64 v]]) (xs:=[]) hv1 (G5 BA U)) ?_;exact⟨trivial,_,by rw[<-hn];rfl,by rw[e1];simp [qencI],_,by rw[zG]⟩
  .have hle:(last.drop (last.length+1-(sets b).length)).length+1<=16777216:=by simp;omega
   simp only[vQ,JH,CP,F6,JW,↓reduceIte,jC,enP,pE,QB U4 sz3 aV YW (uM (h:=h++[yE 4 [GG b]])) (GK ((h++[yE 4 [GG b]])++[yE 1 ((last.drop (last.length+1-(sets b).length)).map qencI)]) .full 1 [[AV.int .i64 v]]) hv1 (G5 (BM hle) U)];refine⟨trivial,((h++[yE 4 [GG b]])++[yE 1 ((last.drop (last.length+1-(sets b).length)).map qencI)]).length,?_,?_,?_⟩
   .grind
   .simp [vals,qencI]
   .simp_all
 rintro F H ⟨f7,o,f8,ho,hx⟩;refine A7 f8 ?_;refine BK (fun n F H'=>∃k,n+k=(sets b).length/\F 7=.sl (sU b) 1 ((sets b).map encS)/\F 34=.own o 0 (sets b).length/\F 35=.n (sets b).length/\F 36=.n (k:Nat)/\H'=H/\ADO b last v k=true) (sets b).length ⟨0,BA,EI f7,AQ,AQ,AQ,rfl,rfl⟩ ?_;rintro n F H' ⟨k,hk,f7,f34,f35,f36,rfl,hin⟩;refine BB f35 f36 ?_;refine D9 ?_ ?_<;>intro hd'
 .have hdv:k<(vals last (sets b).length v).length:=U
  have e1:((vals last (sets b).length v).map qencI)[k]?=some [.n (cV last (sets b).length v k)]:=by rw[ASN hdv,AP4 h1 hc' hdv]
  have e2:setAt b k=(sets b)[k].l:=by unfold setAt;simp [hd']
  simp only[vQ,List.getElem?_cons_zero,CP,↓reduceIte,jC,enP,LY,AHF,f7,f34,f36,GM ho hd',BC ag3 ho e1,CZ hd',CW RZ hd',AEG];refine(inside_prog G _ _ _ _ (hb.sets _ (List.getElem_mem hd'))).uu ?_;refine BO ?_ ?_<;>intro hi
  .refine AB ?_
   refine⟨?_,hx⟩;have hi':inside (sets b)[k].l (cV last (sets b).length v k)=false:=BM hi;unfold hit;rw[AYE hd' (by rw[e2];exact hi')];simp
  .refine BB f36 (DC k) ?_
   refine⟨n-1,U,k+1,U,f7,f34,f35,rfl,trivial,?_⟩;rw[AOI,hin,e2];simpa using hi
 .refine AB ?_
  refine⟨?_,hx⟩;have:k=(sets b).length:=U;subst this;unfold hit;rw[hin,hv0];simp [hc']
end Go.Proofs.YtiihpnicbekebaaGreatDoor.Bins
namespace Go.Proofs.YtiihpnicbekebaaGreatDoor.Wd
open Sm Bins Cov Go.RowKit
variable {a:Nat} {n:Int} (G:Nat->AV )
def wW (z:Int):Nat:=(z%65536).toNat
theorem AI9 (z:Int):wW z<65536:=by unfold wW;omega
theorem V8 (h:a<65536):wW (a:Int)=a:=by unfold wW;omega
def AFB (a i:Nat):Nat:=a/2^i%2
def ML (a:Nat):Nat->Nat
 | 0=>0
 | k+1=>ML a k+AFB a k
def aG (a:Nat):Nat:=ML a 16
def ABL (a:Nat)(n:Int):Nat:=if n<0\/n≥16 then 0 else a*2^n.toNat%65536
def ABK (a:Nat)(n:Int):Nat:=if n<0\/n≥16 then 0 else a/2^n.toNat
theorem AZZ (a i:Nat):AFB a i<2:=wO _ U
theorem SY (a:Nat):∀k,ML a k<=k
 | 0=>Nat.le_refl 0
 | k+1=>by have:=SY a k;have:=AZZ a k;unfold ML;omega
theorem U0 (a i:Nat)(hi:i<8):AFB (a%256) i=AFB a i:=by
 unfold AFB;have:i=0\/i=1\/i=2\/i=3\/i=4\/i=5\/i=6\/i=7:=U;rcases this with rfl|rfl|rfl|rfl|rfl|rfl|rfl|rfl<;>simp only[Nat.reducePow]<;>omega
theorem AUK (a i:Nat):AFB (a/256) i=AFB a (8+i):=by
 unfold AFB;rw[Nat.div_div_eq_div_mul,Nat.pow_add]
theorem ARI (a:Nat):aG a=ML (a/256) 8+ML (a%256) 8:=by
 unfold aG;simp only[ML,AUK,U0 a 0 U,U0 a 1 U,U0 a 2 U,U0 a 3 U,U0 a 4 U,U0 a 5 U,U0 a 6 U,U0 a 7 U,Nat.reduceAdd,Nat.add_zero];omega
theorem AP1 (h0:0<=n)(h1:n<65536):IntKind.u16.wrap n=n:=by
 have e:IntKind.u16.wrap n=n%65536:=by simp [IntKind.wrap,IntKind.bits,IntKind.signed]
 rw[e];omega
theorem VD (n:Int):IntKind.u16.wrap n=n%65536:=by simp [IntKind.wrap,IntKind.bits,IntKind.signed]
theorem A0A (z:Int):IG jA 3 .and (.n z) (.n 65535)=some (.n ((wW z:Nat):Int)):=by
 have e:IG jA 3 .and (.n z) (.n 65535)=some (.n (IntKind.i64.wrap ((BitVec.ofInt 64 z &&& BitVec.ofInt 64 65535).toNat:Int))):=rfl;rw[e,BitVec.toNat_and];have h1:(BitVec.ofInt 64 65535).toNat=2^16-1:=by decide
 rw[h1,Nat.and_two_pow_sub_one_eq_mod,BitVec.toNat_ofInt]
 have h2:((z%((2^64:Nat):Int)).toNat%2^16)=wW z:=by
  unfold wW;simp only[Nat.reducePow];omega
 rw[h2,MR (by have:=AI9 z;omega)]
theorem APD (a:Nat)(h:a<65536):(BitVec.ofInt 64 (a:Int)).toNat=a:=by grind
theorem A8W (a b:Nat)(ha:a<65536)(hb:b<65536):IG jA 3 .and (.n (a:Nat)) (.n (b:Nat))=some (.n ((a &&& b:Nat):Int)):=by
 have e:IG jA 3 .and (.n (a:Nat)) (.n (b:Nat))=some (.n (IntKind.i64.wrap ((BitVec.ofInt 64 (a:Int) &&& BitVec.ofInt 64 (b:Int)).toNat:Int))):=rfl;have hx:a &&& b<2^16:=Nat.and_lt_two_pow _ U;rw[e,BitVec.toNat_and,APD a ha,APD b hb,MR U]
theorem BAI (a b:Nat)(ha:a<65536)(hb:b<65536):IG jA 3 .or (.n (a:Nat)) (.n (b:Nat))=some (.n ((a ||| b:Nat):Int)):=by
 have e:IG jA 3 .or (.n (a:Nat)) (.n (b:Nat))=some (.n (IntKind.i64.wrap ((BitVec.ofInt 64 (a:Int) ||| BitVec.ofInt 64 (b:Int)).toNat:Int))):=rfl
 have hx:a ||| b<2^16:=Nat.or_lt_two_pow U U
 rw[e,BitVec.toNat_or,APD a ha,APD b hb,MR U]
theorem A5J (a b:Nat)(ha:a<65536)(hb:b<65536):IG jA 3 .xor (.n (a:Nat)) (.n (b:Nat))=some (.n ((a ^^^ b:Nat):Int)):=by
 have e:IG jA 3 .xor (.n (a:Nat)) (.n (b:Nat))=some (.n (IntKind.i64.wrap ((BitVec.ofInt 64 (a:Int) ^^^ BitVec.ofInt 64 (b:Int)).toNat:Int))):=rfl;have hx:a ^^^ b<2^16:=Nat.xor_lt_two_pow U U;rw[e,BitVec.toNat_xor,APD a ha,APD b hb,MR U]
theorem gR (E:Env)(fid:FuncId)(a:AV)(l args caps:List AV)(h:Hp)(K:AV->Hp->Prop):AE6 E (.fn (.func fid) (a::l) caps) args h K=ACalls E fid ((a::l)++(args++caps)) h K:=rfl
theorem QU (z:Int)(h:Hp):PCall (En G) 340 [.n z] h (.int .u16 ((wW z:Nat):Int)):=by
 have:=AI9 z;refine acT Tryz.func340 2 ?_;refine DW @AZE @A0A (AP1 (n:=((wW z:Nat):Int)) U U) ?_;exact H7
theorem V9 (a:Nat)(ha:a<65536)(h:Hp):PCall (En G) 341 [.int .u16 (a:Nat)] h (.n (a:Nat)):=by
 refine acT Tryz.func341 2 ?_;refine BB @AZF (MR (n:=a) U) ?_;exact H7
theorem AMB (z:Int)(h:Hp):PCall (En G) 316 [.n z] h (.n ((wW z:Nat):Int)):=by
 refine acT Tryz.func316 2 ?_;refine AB ?_;refine(QU G z h).uu ?_;refine(V9 G _ (AI9 z) h).uu ?_;exact H7
theorem lW (k:FuncId)(a b r:Nat)(hb:b<65536)(hr:r<65536)(h:Hp)(hc:PCall (En G) k [.int .u16 (a:Nat),.int .u16 (b:Nat)] h (.int .u16 (r:Nat))):
  PCall (En G) 342 [.fn (.func k) [.int .u16 (a:Nat)] [],.n (b:Nat)] h (.n (r:Nat)):=by
 have ho:=QU G (b:Nat) h;rw[V8 hb] at ho;refine acT Tryz.func342 4 ?_;refine AB ?_;refine ho.use ?_;refine A7 @gR ?_;refine hc.uu ?_;refine(V9 G r hr h).uu ?_;exact H7
theorem ACU (k:FuncId)(a r:Nat)(hr:r<65536)(h:Hp)(hc:PCall (En G) k [.int .u16 (a:Nat)] h (.int .u16 (r:Nat))):
  PCall (En G) 383 [.fn (.func k) [.int .u16 (a:Nat)] []] h (.n (r:Nat)):=by
 refine acT Tryz.func383 2 ?_;refine A7 @gR ?_;refine hc.uu ?_;refine(V9 G r hr h).uu ?_;exact H7
theorem A19 (a b:Nat)(ha:a<65536)(hb:b<65536)(h:Hp):PCall (En G) 317 [.n (a:Nat),.n (b:Nat)] h (.n (((a+b)%65536:Nat):Int)):=by
 have hc:PCall (En G) 343 [.int .u16 (a:Nat),.int .u16 (b:Nat)] h (.int .u16 (((a+b)%65536:Nat):Int)):=by
  have e:IntKind.u16.wrap ((a:Int)+(b:Int))=(((a+b)%65536:Nat):Int):=by rw[VD];omega
  refine acT Tryz.func343 4 ?_;refine A7 e ?_;exact H7
 have ho:=QU G (a:Nat) h;rw[V8 ha] at ho;refine acT Tryz.func317 4 ?_;refine AB ?_;refine ho.uu ?_;refine(lW G 343 a b _ hb (wO _ U) h hc).uu ?_;exact H7
theorem A5V (a b:Nat)(ha:a<65536)(hb:b<65536)(h:Hp):PCall (En G) 348 [.n (a:Nat),.n (b:Nat)] h (.n (((a+65536-b)%65536:Nat):Int)):=by
 have hc:PCall (En G) 387 [.int .u16 (a:Nat),.int .u16 (b:Nat)] h (.int .u16 (((a+65536-b)%65536:Nat):Int)):=by
  have e:IntKind.u16.wrap ((a:Int)-(b:Int))=(((a+65536-b)%65536:Nat):Int):=by rw[VD];omega
  refine acT Tryz.func387 4 ?_;refine A7 e ?_;exact H7
 have ho:=QU G (a:Nat) h;rw[V8 ha] at ho;refine acT Tryz.func348 4 ?_;refine AB ?_;refine ho.uu ?_;refine(lW G 387 a b _ hb (wO _ U) h hc).uu ?_;exact H7
theorem A6L (a b:Nat)(ha:a<65536)(hb:b<65536)(h:Hp):PCall (En G) 349 [.n (a:Nat),.n (b:Nat)] h (.n ((a*b%65536:Nat):Int)):=by
 have hc:PCall (En G) 388 [.int .u16 (a:Nat),.int .u16 (b:Nat)] h (.int .u16 ((a*b%65536:Nat):Int)):=by
  have e:IntKind.u16.wrap ((a:Int)*(b:Int))=((a*b%65536:Nat):Int):=by rw[VD];rw[<-Int.natCast_mul];rfl
  refine acT Tryz.func388 4 ?_;refine A7 e ?_;exact H7
 have ho:=QU G (a:Nat) h;rw[V8 ha] at ho;refine acT Tryz.func349 4 ?_;refine AB ?_;refine ho.uu ?_;refine(lW G 388 a b _ hb (wO _ U) h hc).uu ?_;exact H7
theorem A68 (a:Nat)(ha:a<65536)(h:Hp):PCall (En G) 345 [.n (a:Nat)] h (.n ((65535-a:Nat):Int)):=by
 have hu:aUn .xor (.int .u16 (a:Nat))=some (.int .u16 ((65535-a:Nat):Int)):=by
  have e:aUn .xor (.int .u16 (a:Nat))=some (.int .u16 (IntKind.u16.wrap ((BitVec.ofInt 16 65535 ^^^ BitVec.ofInt 16 (a:Int)).toNat:Int))):=rfl;have h1:BitVec.ofInt 16 65535=BitVec.allOnes 16:=by decide
  have h2:(BitVec.ofInt 16 (a:Int)).toNat=a:=by simp_all
  rw[e,h1,BitVec.allOnes_xor,BitVec.toNat_not,h2,AP1 U (by simp only[Nat.reducePow];omega)]
 have hc:PCall (En G) 384 [.int .u16 (a:Nat)] h (.int .u16 ((65535-a:Nat):Int)):=by
  refine acT Tryz.func384 2 ?_;refine A7 hu ?_;exact H7
 have ho:=QU G (a:Nat) h;rw[V8 ha] at ho;refine acT Tryz.func345 2 ?_;refine AB ?_;refine ho.uu ?_;refine(ACU G 384 a _ U h hc).uu ?_;exact H7
theorem A6K (a:Nat)(ha:a<65536)(h:Hp):PCall (En G) 346 [.n (a:Nat)] h (.n (((65536-a)%65536:Nat):Int)):=by
 have hc:PCall (En G) 385 [.int .u16 (a:Nat)] h (.int .u16 (((65536-a)%65536:Nat):Int)):=by
  have e:IntKind.u16.wrap (0-(a:Int))=(((65536-a)%65536:Nat):Int):=by rw[VD];omega
  refine acT Tryz.func385 2 ?_;refine BB @AQA e ?_;exact H7
 have ho:=QU G (a:Nat) h;rw[V8 ha] at ho;refine acT Tryz.func346 2 ?_;refine AB ?_;refine ho.uu ?_;refine(ACU G 385 a _ (wO _ U) h hc).uu ?_;exact H7
theorem mG (k:FuncId)(a r:Nat)(n:Int)(hr:r<65536)(h:Hp)(hc:¬(n<0\/n≥16)->PCall (En G) k [.int .u16 (a:Nat),.n n] h (.int .u16 (r:Nat)))(h0:n<0\/n≥16->r=0):
  PCall (En G) 389 [.fn (.func k) [.int .u16 (a:Nat)] [],.n n] h (.n (r:Nat)):=by
 refine acT Tryz.func389 4 ?_;refine AB ?_;cases h1:decide (n<0)
 .have h1':¬n<0:=BM h1
  cases h2:decide (n≥16)
  .have h2':¬n≥16:=BM h2
   refine BB h2 @gR ?_;refine(hc U).uu ?_;refine(V9 G r hr h).uu ?_;exact H7
  .have h2':n≥16:=BM h2
   refine A7 h2 ?_;exact⟨by rw[h0 (.inr h2')];rfl,trivial⟩
 .have h1':n<0:=BM h1
  refine AB ?_;exact⟨by rw[h0 (.inl h1')];rfl,trivial⟩
theorem AJM:ABL a n<65536:=by
 unfold ABL;split
 .omega
 .exact wO _ U
theorem AJL (ha:a<65536):ABK a n<65536:=by
 unfold ABK;split
 .omega
 .exact Nat.lt_of_le_of_lt (Nat.div_le_self _ _) ha
theorem shl_w (a:Nat)(n:Int)(ha:a<65536)(h:Hp):PCall (En G) 350 [.n (a:Nat),.n n] h (.n (ABL a n:Nat)):=by
 have hc:¬(n<0\/n≥16)->PCall (En G) 390 [.int .u16 (a:Nat),.n n] h (.int .u16 (ABL a n:Nat)):=fun hn=>by
  have hb:IG jA 348 .shl (.int .u16 (a:Nat)) (.n n)=some (.int .u16 (ABL a n:Nat)):=by
   have e:IG jA 348 .shl (.int .u16 (a:Nat)) (.n n)=if n<0 then none else some (.int .u16 (IntKind.u16.wrap ((a:Int)*2^(min n.toNat 16)))):=rfl
   have h1:min n.toNat 16=n.toNat:=U;rw[e,if_neg U,h1,VD];unfold ABL;rw[if_neg hn,Int.natCast_emod,Int.natCast_mul,Int.natCast_pow];rfl
  refine acT Tryz.func390 4 ?_;refine A7 hb ?_;exact H7
 have ho:=QU G (a:Nat) h;rw[V8 ha] at ho;refine acT Tryz.func350 4 ?_;refine AB ?_;refine ho.uu ?_;refine(mG G 390 a _ n AJM h hc (fun hh=>by unfold ABL;rw[if_pos hh])).uu ?_;exact H7
theorem A55 (a:Nat)(n:Int)(ha:a<65536)(h:Hp):PCall (En G) 351 [.n (a:Nat),.n n] h (.n (ABK a n:Nat)):=by
 have hc:¬(n<0\/n≥16)->PCall (En G) 391 [.int .u16 (a:Nat),.n n] h (.int .u16 (ABK a n:Nat)):=fun hn=>by
  have hb:IG jA 348 .shr (.int .u16 (a:Nat)) (.n n)=some (.int .u16 (ABK a n:Nat)):=by
   have e:IG jA 348 .shr (.int .u16 (a:Nat)) (.n n)=if n<0 then none else some (.int .u16 ((a:Int).fdiv (2^(min n.toNat 16)))):=rfl
   have h1:min n.toNat 16=n.toNat:=U;rw[e,if_neg U,h1];unfold ABK;rw[if_neg hn,Int.fdiv_eq_ediv_of_nonneg _ (by exact Int.le_of_lt (Int.pow_pos DT)),Int.natCast_ediv,Int.natCast_pow];rfl
  refine acT Tryz.func391 4 ?_;refine A7 hb ?_;exact H7
 have ho:=QU G (a:Nat) h;rw[V8 ha] at ho;refine acT Tryz.func351 4 ?_;refine AB ?_;refine ho.uu ?_;refine(mG G 391 a _ n (AJL ha) h hc (fun hh=>by unfold ABK;rw[if_pos hh])).uu ?_;exact H7
def AJF (fn:Func):ByteArray:=match fn.body with
 | some (.seq _ (.seq (.region _ ops _) _))=>match ops[2]? with
   | some o=>match o.op with
     | .index _ (.const (.string s)) _=>s
     | _=>⟨#[]⟩
   | none=>⟨#[]⟩
 | _=>⟨#[]⟩
theorem AV7:(List.range 256).all (fun y=>(AJF Tryz.f386)[y]? == some (UInt8.ofNat (ML y 8)))=true:=AZ
theorem AQE {y:Nat}(hy:y<256)(h:Hp):ofO h (PH jA 9 (.str (AJF Tryz.f386)) (.int .u16 (y:Nat)))=some (.int .u8 (ML y 8:Nat),h):=by
 have h1:=List.all_eq_true.1 AV7 y (BM hy);have h2:(AJF Tryz.f386)[y]?=some (UInt8.ofNat (ML y 8)):=BM h1;have hle:=SY y 8;have hu:Tryz.prog.underlying 9=some .string:=AZ
 have h3:PH jA 9 (.str (AJF Tryz.f386)) (.int .u16 (y:Nat))=some (.int .u8 (ML y 8:Nat)):=by
  unfold PH;simp only[hu,Int.toNat_natCast,h2];rw[if_pos U];simp;omega
 rw[h3];rfl
theorem ANJ (a:Nat)(ha:a<65536)(h:Hp):PCall (En G) 347 [.n (a:Nat)] h (.n (aG a:Nat)):=by
 have hs:IG jA 347 .shr (.int .u16 (a:Nat)) (.int .u64 8)=some (.int .u16 ((a/256:Nat):Int)):=by
  have e:IG jA 347 .shr (.int .u16 (a:Nat)) (.int .u64 8)=some (.int .u16 ((a:Int).fdiv (2^8))):=rfl;rw[e,Int.fdiv_eq_ediv_of_nonneg _ DT];rfl
 have hl:IG jA 347 .and (.int .u16 (a:Nat)) (.int .u16 255)=some (.int .u16 ((a%256:Nat):Int)):=by
  have e:IG jA 347 .and (.int .u16 (a:Nat)) (.int .u16 255)=some (.int .u16 (IntKind.u16.wrap ((BitVec.ofInt 16 (a:Int) &&& BitVec.ofInt 16 255).toNat:Int))):=rfl;have h1:(BitVec.ofInt 16 255).toNat=2^8-1:=by decide
  have h2:(BitVec.ofInt 16 (a:Int)).toNat=a:=by simp_all
  rw[e,BitVec.toNat_and,h1,Nat.and_two_pow_sub_one_eq_mod,h2,AP1 U (by simp only[Nat.reducePow];omega)]
 have l1:=SY (a/256) 8;have l2:=SY (a%256) 8
 have hadd:IG jA 5 .add (.int .u8 (ML (a/256) 8:Nat)) (.int .u8 (ML (a%256) 8:Nat))=some (.int .u8 (aG a:Nat)):=by
  have e:IG jA 5 .add (.int .u8 (ML (a/256) 8:Nat)) (.int .u8 (ML (a%256) 8:Nat))=some (.int .u8 (IntKind.u8.wrap ((ML (a/256) 8:Int)+(ML (a%256) 8:Int)))):=rfl;have e2:∀n:Int,IntKind.u8.wrap n=n%256:=fun n=>by simp [IntKind.wrap,IntKind.bits,IntKind.signed]
  have e3:=ARI a;rw[e,e2];congr 2;omega
 have h64:IntKind.i64.wrap ((aG a:Nat):Int)=((aG a:Nat):Int):=MR (by have:=SY a 16;unfold aG;omega)
 have hc:PCall (En G) 386 [.int .u16 (a:Nat)] h (.n (aG a:Nat)):=by
  refine acT Tryz.func386 2 ?_;refine AB ?_;refine D6 AZ ?_;refine DW @vE hs hl ?_;refine KW (v:=.int .u8 (ML (a/256) 8:Nat)) (h:=h) (AQE U h) ?_;refine DW @vE hs hl ?_;refine KW (v:=.int .u8 (ML (a%256) 8:Nat)) (h:=h) (AQE U h) ?_;refine ES @APX @AT4 @hadd h64 ?_;exact H7
 have ho:=QU G (a:Nat) h;rw[V8 ha] at ho;refine acT Tryz.func347 2 ?_;refine AB ?_;refine ho.uu ?_;refine hc.uu ?_;exact H7
end Go.Proofs.YtiihpnicbekebaaGreatDoor.Wd
namespace Go.Proofs.YtiihpnicbekebaaGreatDoor.Xe
open Sm Bins Cov Wd Go.RowKit
variable (G:Nat->AV )
def tr (b:Bool):Nat:=if b then 1 else 0
def sgW (op:Int)(a:Nat):Nat:=if op=4 then tr (a==0) else if op=5 then 65535-a else if op=6 then (65536-a)%65536 else aG a
def dbW (op:Int)(a b:Nat):Nat :=
 if op=7 then (a+b)%65536 else if op=8 then (a+65536-b)%65536 else if op=9 then a*b%65536 else if op=10 then a &&& b else if op=11 then a ||| b else if op=12 then a ^^^ b
 else if op=13 then ABL a (b:Nat) else if op=14 then ABK a (b:Nat) else if op=15 then tr (a==b) else if op=16 then tr (!(a==b)) else if op=17 then tr (decide (a<b)) else if op=18 then tr (decide (a<=b))
 else if op=19 then tr (!(a==0) && !(b==0)) else if op=20 then tr (!(a==0) || !(b==0)) else tr ((a==0) || !(b==0))
theorem cW (b:Bool):tr b<65536:=by cases b<;>decide
theorem A2R {op:Int}{a:Nat}(ha:a<65536):sgW op a<65536:=by
 unfold sgW;by_cases h4:op=4
 .rw[if_pos h4];exact cW _
 by_cases h5:op=5
 .rw[if_neg h4,if_pos h5];omega
 by_cases h6:op=6
 .grind
 .rw[if_neg h4,if_neg h5,if_neg h6]
  have:=SY a 16;unfold aG;omega
theorem A4M {op:Int}{a b:Nat}(ha:a<65536)(hb:b<65536):dbW op a b<65536:=by
 unfold dbW;by_cases h7:op=7
 .rw[if_pos h7];exact wO _ U
 by_cases h8:op=8
 .grind
 by_cases h9:op=9
 .grind
 by_cases h10:op=10
 .rw[if_neg h7,if_neg h8,if_neg h9,if_pos h10];exact Nat.lt_of_le_of_lt Nat.and_le_left ha
 by_cases h11:op=11
 .rw[if_neg h7,if_neg h8,if_neg h9,if_neg h10,if_pos h11];exact Nat.or_lt_two_pow (n:=16) U U
 by_cases h12:op=12
 .rw[if_neg h7,if_neg h8,if_neg h9,if_neg h10,if_neg h11,if_pos h12];exact Nat.xor_lt_two_pow (n:=16) U U
 by_cases h13:op=13
 .rw[if_neg h7,if_neg h8,if_neg h9,if_neg h10,if_neg h11,if_neg h12,if_pos h13];exact AJM
 by_cases h14:op=14
 .rw[if_neg h7,if_neg h8,if_neg h9,if_neg h10,if_neg h11,if_neg h12,if_neg h13,if_pos h14];exact AJL ha
 by_cases h15:op=15
 .rw[if_neg h7,if_neg h8,if_neg h9,if_neg h10,if_neg h11,if_neg h12,if_neg h13,if_neg h14,if_pos h15];exact cW _
 by_cases h16:op=16
 .rw[if_neg h7,if_neg h8,if_neg h9,if_neg h10,if_neg h11,if_neg h12,if_neg h13,if_neg h14,if_neg h15,if_pos h16];exact cW _
 by_cases h17:op=17
 .rw[if_neg h7,if_neg h8,if_neg h9,if_neg h10,if_neg h11,if_neg h12,if_neg h13,if_neg h14,if_neg h15,if_neg h16,if_pos h17];exact cW _
 by_cases h18:op=18
 .rw[if_neg h7,if_neg h8,if_neg h9,if_neg h10,if_neg h11,if_neg h12,if_neg h13,if_neg h14,if_neg h15,if_neg h16,if_neg h17,if_pos h18];exact cW _
 by_cases h19:op=19
 .rw[if_neg h7,if_neg h8,if_neg h9,if_neg h10,if_neg h11,if_neg h12,if_neg h13,if_neg h14,if_neg h15,if_neg h16,if_neg h17,if_neg h18,if_pos h19];exact cW _
 by_cases h20:op=20
 .rw[if_neg h7,if_neg h8,if_neg h9,if_neg h10,if_neg h11,if_neg h12,if_neg h13,if_neg h14,if_neg h15,if_neg h16,if_neg h17,if_neg h18,if_neg h19,if_pos h20];exact cW _
 .rw[if_neg h7,if_neg h8,if_neg h9,if_neg h10,if_neg h11,if_neg h12,if_neg h13,if_neg h14,if_neg h15,if_neg h16,if_neg h17,if_neg h18,if_neg h19,if_neg h20];exact cW _
theorem eqc (a b:Nat):((a:Int)==(b:Int))=(a==b):=by grind
theorem eqz (a:Nat):((a:Int)==0)=(a==0):=eqc a 0
theorem nec (a b:Nat):((a:Int) != (b:Int)) = !(a==b):=congrArg not (eqc a b)
theorem nez (a:Nat):((a:Int) != 0) = !(a==0):=nec a 0
theorem ltc (a b:Nat):decide ((a:Int)<(b:Int))=decide (a<b):=by simp_all
theorem lec (a b:Nat):decide ((a:Int)<=(b:Int))=decide (a<=b):=by simp_all
theorem NR (b:Bool)(h:Hp):PCall (En G) 344 [.bool b] h (.n (tr b:Nat)):=by
 refine acT Tryz.func344 2 ?_;cases b
 all_goals
  refine AB ?_;exact⟨rfl,trivial⟩
theorem ABJ (op:Int)(a:Nat)(ha:a<65536)(h:Hp):PCall (En G) 318 [.n op,.n (a:Nat)] h (.n (sgW op a:Nat)):=by
 refine acT Tryz.func318 4 ?_;have hcase:op=4\/op=5\/op=6\/(op≠4/\op≠5/\op≠6):=U;rcases hcase with rfl|rfl|rfl|⟨n4,n5,n6⟩
 .refine aU eqz ?_
  refine(NR G _ h).uu ?_;exact⟨rfl,trivial⟩
 .refine Y3 ?_
  refine(A68 G a ha h).uu ?_;exact⟨rfl,trivial⟩
 .refine Y3 ?_
  refine(A6K G a ha h).uu ?_;exact⟨rfl,trivial⟩
 .refine DW (beq_eq_false_iff_ne.2 n4) (beq_eq_false_iff_ne.2 n5) (beq_eq_false_iff_ne.2 n6) ?_
  refine(ANJ G a ha h).uu ?_;exact⟨by unfold sgW;rw[if_neg n4,if_neg n5,if_neg n6],trivial⟩
theorem AEM (op:Int)(a b:Nat)(ha:a<65536)(hb:b<65536)(h:Hp):PCall (En G) 319 [.n op,.n (a:Nat),.n (b:Nat)] h (.n (dbW op a b:Nat)):=by
 refine acT Tryz.func319 6 ?_;have hcase:op=7\/op=8\/op=9\/op=10\/op=11\/op=12\/op=13\/op=14\/op=15\/op=16\/op=17\/op=18\/op=19\/op=20\/(op<7\/20<op):=U;rcases hcase with rfl|rfl|rfl|rfl|rfl|rfl|rfl|rfl|rfl|rfl|rfl|rfl|rfl|rfl|hop
 .refine Y3 ?_
  refine(A19 G a b ha hb h).uu ?_;exact⟨rfl,trivial⟩
 .refine Y3 ?_
  refine(A5V G a b ha hb h).uu ?_;exact⟨rfl,trivial⟩
 .refine Y3 ?_
  refine(A6L G a b ha hb h).uu ?_;exact⟨rfl,trivial⟩
 .refine aU (A8W a b ha hb) ?_
  exact⟨rfl,trivial⟩
 .refine aU (BAI a b ha hb) ?_
  exact⟨rfl,trivial⟩
 .refine aU (A5J a b ha hb) ?_
  exact⟨rfl,trivial⟩
 .refine Y3 ?_
  refine(shl_w G a (b:Nat) ha h).uu ?_;exact⟨rfl,trivial⟩
 .refine Y3 ?_
  refine(A55 G a (b:Nat) ha h).uu ?_;exact⟨rfl,trivial⟩
 .refine QD eqc nec ltc lec ?_
  refine(NR G _ h).uu ?_;exact⟨rfl,trivial⟩
 .refine QD eqc nec ltc lec ?_
  refine(NR G _ h).uu ?_;exact⟨rfl,trivial⟩
 .refine QD eqc nec ltc lec ?_
  refine(NR G _ h).uu ?_;exact⟨rfl,trivial⟩
 .refine QD eqc nec ltc lec ?_
  refine(NR G _ h).uu ?_;exact⟨rfl,trivial⟩
 .refine O7 eqz nez ?_
  cases h1:(a==0)<;>cases h2:(b==0)
  all_goals
   refine DW h1 h2 nez ?_;refine(NR G _ h).uu ?_;exact⟨by unfold dbW;rw[h1,h2];rfl,trivial⟩
 .refine O7 eqz nez ?_
  cases h1:(a==0)<;>cases h2:(b==0)
  all_goals
   refine DW h1 h2 nez ?_;refine(NR G _ h).uu ?_;exact⟨by unfold dbW;rw[h1,h2];rfl,trivial⟩
 .have hne:∀k:Int,7<=k->k<=20->(op==k)=false:=fun k _ _=>beq_eq_false_iff_ne.2 U
  have hd:dbW op a b=tr ((a==0) || !(b==0)):=by
   unfold dbW;rw[if_neg (U:¬op=7),if_neg (U:¬op=8),if_neg (U:¬op=9),if_neg (U:¬op=10),if_neg (U:¬op=11),if_neg (U:¬op=12),if_neg (U:¬op=13),if_neg (U:¬op=14),if_neg (U:¬op=15),if_neg (U:¬op=16),if_neg (U:¬op=17),if_neg (U:¬op=18),if_neg (U:¬op=19),if_neg (U:¬op=20)]
  rw[hd];simp only[vQ,EM,CP,J7,↓reduceIte,jC,enX,enP,hne 7 DT DT,hne 8 DT DT,hne 9 DT DT,hne 10 DT DT,hne 11 DT DT,hne 12 DT DT,hne 13 DT DT,hne 14 DT DT,hne 15 DT DT,hne 16 DT DT,hne 17 DT DT,hne 18 DT DT,hne 19 DT DT,hne 20 DT DT,eqz,nez];cases h1:(a==0)<;>cases h2:(b==0)
  all_goals
   refine DW h1 h2 nez ?_;refine(NR G _ h).uu ?_;exact⟨AL,trivial⟩
abbrev Sg:=ByteArray×Int
def FU (s:Sg):List AV:=[.str s.1,.n s.2]
theorem AOW (s:Sg):(FU s).length=2:=rfl
def A47 (s:Sg):Prop := -9223372036854775808<=s.2/\s.2<=9223372036854775807
def LJ:List Sg->ByteArray->Nat×Bool
 | [],_=>(0,false)
 | s::l,n=>if(s.1.toList==n.toList)=true then (wW s.2,true) else LJ l n
theorem dZ:∀(l:List Sg) (n:ByteArray),(LJ l n).1<65536
 | [],_=>by simp [LJ]
 | s::l,n=>by unfold LJ;split;exact AI9 _;exact dZ l n
theorem AHU (l:List Sg)(n:ByteArray)(k:Nat)(hk:k<l.length):LJ (l.drop k) n=if(l[k].1.toList==n.toList)=true then (wW l[k].2,true) else LJ (l.drop (k+1)) n:=by
 rw[qC hk];rfl
def aE (p:Nat×Bool):AV:=.tup [.n (p.1:Nat),.bool p.2]
theorem ACO (p:Nat×Bool)(n:Nat)(H:Hp):FH n H 2 (aE p)=aE p:=rfl
theorem A85 (h:Hp):GH jA h 209=some (.ptr h.length 0 0,h++[yE 2 [[.str ⟨#[]⟩,.n 0]]]):=FB (row:=[.str ⟨#[]⟩,.n 0]) AZ
theorem A51 (h:Hp)(s:Sg):DU jA (h++[yE 2 [[.str ⟨#[]⟩,.n 0]]]) 209 (.ptr h.length 0 0) (.agg (FU s))=some (h++[yE 2 [FU s]]):=by
 rw[IR (cs:=FU s) (row:=[.str ⟨#[]⟩,.n 0]) rfl AQI (AX _ _) (by exact jF 2),JZ];rfl
theorem AE8 (h:Hp)(u:AV)(hu:u.leaf=true):MP h (.agg [u])=some (.ptr h.length 0 0,h++[yE 1 [[u]]]):=WX (by simp only[List.all_cons,hu,List.all_nil];rfl)
theorem aH {h:Hp}{b:Nat}{u:AV}(hb:h[b]?=some (yE 1 [[u]])):BI jA h 277 (.ptr b 0 0)=some (.agg [u]):=by
 rw[ED A9B A00 hb rfl (by exact jF 1)];rfl
theorem UC {P:Program}{t:TypeId}{a b:ByteArray}(h:a.size+b.size<=9223372036854775807):IG P t .add (.str a) (.str b)=some (.str (a++b)):=by
 show AU9 .add a b=_;unfold AU9
 have:((a.size+b.size:Nat):Int)<=IntKind.i64.max:=by
  show _<=(9223372036854775807:Int);omega
 simp only[if_pos this]
section
variable (G:Nat->AV)
theorem fZ (l:List Sg)(m:SM)(n:ByteArray)(h:Hp)(hl:l.length<=1099511627776):PCall (En G) 280 [.agg [.sl m 2 (l.map FU)],.str n] h (aE (LJ l n)):=by
 refine X8 2 (ACO _) ?_;refine acL Tryz.func280 [.tmp 4,.tmp 5] ?_;refine ES A6V @AY1 (AE8 h (.sl m 2 (l.map FU)) rfl) (GN A16 (AX h (yE 1 [[.sl m 2 (l.map FU)]]))) ?_;refine BK (fun k F H=>∃j,k+j=l.length/\F 1=.str n/\F 9=.sl m 2 (l.map FU)/\F 10=.n (l.length:Nat)/\F 11=.n (j:Nat)/\ext h H/\LJ l n=LJ (l.drop j) n) l.length ⟨0,BA,AQ,AQ,AQ,AQ,(ext.rfl' h).app _,rfl⟩ ?_;rintro k F H ⟨j,hj,f1,f9,f10,f11,hx,hf⟩;refine BB f10 f11 ?_;refine D9 ?_ ?_<;>intro hj'
 .have g:=AX H (yE 2 [FU l[j]])
  have l0:BI jA (H++[yE 2 [FU l[j]]]) 9 (.ptr H.length 0 0)=some (.str l[j].1):=by rw[BC ag9 g (row:=FU l[j]) rfl];rfl
  have l1:BI jA (H++[yE 2 [FU l[j]]]) 3 (.ptr H.length 0 1)=some (.n l[j].2):=by rw[BC ag3 g (row:=FU l[j]) rfl];rfl
  rw[AHU l n j hj'] at hf;simp only[vQ,CP,UB,↓reduceIte,jC,Nat.add_zero,enP,A1H,AY4,Option.getD_none,f1,f9,f11,CZ hj',DJ A9E AQI AOW hj',A85,A51,l0];refine BO ?_ ?_<;>intro hb
  .refine BB @ALE l1 ?_
   refine(AMB G _ _).uu ?_;exact⟨by rw[hf,if_pos hb];rfl,hx.app _⟩
  .refine BB f11 (DC j) ?_
   exact⟨k-1,U,j+1,U,AL,AL,AL,rfl,hx.app _,by rw[hf,if_neg (by rw[hb];decide)]⟩
 .refine AB ?_
  exact⟨by rw[hf,List.drop_eq_nil_of_le U];rfl,hx⟩
def elN (a:ByteArray)(i:Nat):ByteArray:=a++(⟨#[91]⟩:ByteArray)++(⟨#[UInt8.ofNat (48+i)]⟩:ByteArray)++(⟨#[93]⟩:ByteArray)
def atG (l:List Sg)(a:ByteArray)(i:Int):Nat×Bool:=if i<0\/i≥8 then (0,false) else LJ l (elN a i.toNat)
theorem AUW (l:List Sg)(a:ByteArray)(i:Int):(atG l a i).1<65536:=by unfold atG;split;decide;exact dZ _ _
theorem AEN:∀i:Nat,i<8->Y0 jA 334 9 (.sl .full 1 [[.int .u8 (IntKind.u8.wrap (IntKind.i64.wrap (48+(i:Int))))]])=some (.str ⟨#[UInt8.ofNat (48+i)]⟩)
 | 0,_=>AZ
 | 1,_=>AZ
 | 2,_=>AZ
 | 3,_=>AZ
 | 4,_=>AZ
 | 5,_=>AZ
 | 6,_=>AZ
 | 7,_=>AZ
 | n+8,h=>absurd h U
theorem A10 (h:Hp)(v:Int):DF jA false h 334 1 [(0,.int .u8 v)]=some (.sl .full 1 [[.int .u8 v]],h):=AZ
theorem ZT (a b:ByteArray):(a++b).size=a.size+b.size:=ByteArray.size_append
theorem AAC (l:List Sg)(m:SM)(a:ByteArray)(i:Int)(h:Hp)(hl:l.length<=1099511627776)(ha:a.size<=1048576):PCall (En G) 281 [.agg [.sl m 2 (l.map FU)],.str a,.n i] h (aE (atG l a i)):=by
 refine X8 2 (ACO _) ?_;refine acL Tryz.func281 [.tmp 6,.tmp 7] ?_;have hx:=Sm.ext.r1 h (yE 1 [[.sl m 2 (l.map FU)]]);refine A7 (AE8 h (.sl m 2 (l.map FU)) rfl) ?_;cases h1:decide (i<0)
 .cases h2:decide (i≥8)
  .have h1':¬i<0:=BM h1
   have h2':¬i≥8:=BM h2;obtain⟨k,rfl⟩:=Int.eq_ofNat_of_zero_le (U:0<=i);have hk:k<8:=U;have e1:IG jA 9 .add (.str a) (.str ⟨#[91]⟩)=_:=UC (by show a.size+1<=_;omega);have e2:IG jA 9 .add (.str (a++(⟨#[91]⟩:ByteArray))) (.str ⟨#[UInt8.ofNat (48+k)]⟩)=_:=UC (by rw[ZT];show a.size+1+1<=_;omega);have e3:IG jA 9 .add (.str (a++(⟨#[91]⟩:ByteArray)++(⟨#[UInt8.ofNat (48+k)]⟩:ByteArray))) (.str ⟨#[93]⟩)=_:=UC (by rw[ZT,ZT];show a.size+1+1+1<=_;omega);refine SE @A1U h2 (aH (AX h (yE 1 [[.sl m 2 (l.map FU)]]))) e1 A10 (AEN k hk) e2 e3 ?_;refine(fZ G l m _ _ hl).use ?_;unfold aE;refine AB ?_;exact⟨by unfold atG;rw[if_neg U];rfl,hx⟩
  .refine A7 h2 ?_
   have h2':i≥8:=BM h2;exact⟨by unfold atG;rw[if_pos (.inr h2')];rfl,hx⟩
 .refine AB ?_
  have h1':i<0:=BM h1;exact⟨by unfold atG;rw[if_pos (.inl h1')];rfl,hx⟩
def sumTo (l:List Sg)(a:ByteArray):Nat->Nat
 | 0=>0
 | k+1=>(sumTo l a k+(atG l a (k:Nat)).1)%65536
theorem mC (l:List Sg)(a:ByteArray)(k:Nat):sumTo l a k<65536:=by
 cases k with
 | zero=>show 0<65536;decide
 | succ k=>exact wO _ U
theorem AQK (l:List Sg)(m:SM)(a:ByteArray)(h:Hp)(hl:l.length<=1099511627776)(ha:a.size<=1048576):PCall (En G) 282 [.agg [.sl m 2 (l.map FU)],.str a] h (.n (sumTo l a 8:Nat)):=by
 refine ACalls.pure0 rfl ?_;refine acT Tryz.func282 4 ?_;have g:=AX h (yE 1 [[.sl m 2 (l.map FU)]]);refine A7 (AE8 h (.sl m 2 (l.map FU)) rfl) ?_
 generalize hH:h++[yE 1 [[.sl m 2 (l.map FU)]]]=H at g|-
 refine BK (fun k F H'=>∃j,k+j=8/\F 1=.str a/\F 2=.ptr h.length 0 0/\F 5=.n (sumTo l a j:Nat)/\F 9=.n (j:Nat)/\H'=H) 8 ⟨0,BA,AQ,AQ,AQ,AQ,rfl⟩ ?_;rintro k F H' ⟨j,hj,f1,f2,f5,f9,rfl⟩;refine A7 f9 ?_;refine BO ?_ ?_<;>intro hc
 .have hj':j<8:=by simp at hc;omega
  refine ES f1 f2 f9 (aH g) ?_;refine(AAC G l m a (j:Nat) H' hl ha).use ?_;unfold aE;refine A7 f5 ?_;refine(A19 G _ _ (mC l a j) (AUW l a (j:Nat)) H').use ?_;refine ES f1 f2 f9 (DC j) ?_;exact⟨k-1,U,j+1,U,AL,AL,AL,AL,trivial⟩
 .have hj':j=8:=by simp at hc;omega
  subst hj';refine A7 f5 ?_;exact⟨trivial,_,hH.symm⟩
end
def insW (x:Nat):List Nat->Bool
 | a::b::r=>(decide (a<=x)&&decide (x<=b))||insW x r
 | _=>false
def opW (op:Int)(vs:List Nat):Nat :=
 if op=22 then (if vs.getD 0 0≠0 then vs.getD 1 0 else vs.getD 2 0) else if op=23 then tr (insW (vs.getD 0 0) (vs.drop 1))
 else if vs.length=1 then sgW op (vs.getD 0 0) else dbW op (vs.getD 0 0) (vs.getD 1 0)
theorem getD_lt {vs:List Nat}(hv:∀x∈vs,x<65536)(k:Nat):vs.getD k 0<65536:=by
 rw[List.getD_eq_getElem?_getD];rcases Nat.lt_or_ge k vs.length with h|h
 .simp_all
 .rw[List.getElem?_eq_none h];decide
theorem A25 (op:Int){vs:List Nat}(hv:∀x∈vs,x<65536):opW op vs<65536:=by
 unfold opW;have h0:=getD_lt hv 0;have h1:=getD_lt hv 1;have h2:=getD_lt hv 2;split
 .split<;>assumption
 split
 .exact cW _
 split
 .exact A2R h0
 .exact A4M h0 h1
theorem AOA (x:Nat)(l:List Nat)(k:Nat)(hk:k+1<l.length):insW x (l.drop k)=((decide (l[k]<=x)&&decide (x<=l[k+1]))||insW x (l.drop (k+2))):=by
 rw[qC (U:k<l.length),qC hk];rfl
theorem ASP (x:Nat)(l:List Nat)(k:Nat)(hk:l.length<=k+1):insW x (l.drop k)=false:=by
 have:(l.drop k).length<=1:=by simp;omega
 match hm:l.drop k,this with
 | [],_=>rfl
 | [a],_=>rfl
theorem gec (a b:Nat):decide ((a:Int)≥(b:Int))=decide (b<=a):=lec b a
def AVH (op:Int)(n:Nat):Prop:=(op=22->n=3)/\(op=23->n%2=1/\3<=n)/\(op≠22->op≠23->n=1\/n=2)
theorem ANI (op:Int)(vs:List Nat)(o:Nat)(H:Hp)(ho:H[o]?=some (yE 1 (vs.map KN)))(hv:∀x∈vs,x<65536)(hl:vs.length<=1048576)(hops:AVH op vs.length):
  PCall (En G) 283 [.n op,.own o 0 vs.length] H (.n (opW op vs:Nat)):=by
 have hix:∀k:Nat,k<vs.length->IM 1 H (.own o 0 vs.length) (.n (k:Nat))=some (.ptr o k 0):=fun k hk=>by rw[GM ho hk,Nat.zero_add]
 have hld:∀(k:Nat) (hk:k<vs.length),BI jA H 3 (.ptr o k 0)=some (.n (vs[k]:Nat)):=fun k hk=>by rw[BC ag3 ho (row:=KN vs[k]) (row_map hk)];rfl
 have h1:1<=vs.length:=by
  obtain⟨a,b,c⟩:=hops;by_cases e:op=22
  .have:=a e;omega
  by_cases e':op=23
  .have:=b e';omega
  .have:=c e e';omega
 have i0:IM 1 H (.own o 0 vs.length) (.n 0)=some (.ptr o 0 0):=hix 0 h1;have d0:=hld 0 h1;have g0:vs.getD 0 0=vs[0]:=by grind
 have v0:vs[0]<65536:=hv _ (jG _);refine acT Tryz.func283 4 ?_;by_cases e22:op=22
 .subst e22
  have hl3:vs.length=3:=hops.1 rfl;have i1:IM 1 H (.own o 0 vs.length) (.n 1)=some (.ptr o 1 0):=hix 1 U;have i2:IM 1 H (.own o 0 vs.length) (.n 2)=some (.ptr o 2 0):=hix 2 U;have d1:=hld 1 U;have d2:=hld 2 U;have g1:vs.getD 1 0=vs[1]:=by simp_all
  have g2:vs.getD 2 0=vs[2]:=by simp_all
  refine QD i0 d0 eqz nez ?_;cases hz:(vs[0]==0)
  .refine BB i1 d1 ?_
   have:vs[0]≠0:=BM hz;exact⟨by unfold opW;rw[if_pos rfl,g0,if_pos this,g1],trivial⟩
  .refine BB i2 d2 ?_
   have:¬vs[0]≠0:=BM hz;exact⟨by unfold opW;rw[if_pos rfl,g0,if_neg this,g2],trivial⟩
 by_cases e23:op=23
 .subst e23
  obtain⟨hodd,h3⟩:=hops.2.1 rfl;refine Y3 ?_;have hval:opW 23 vs=tr (insW vs[0] (vs.drop 1)):=by unfold opW;rw[if_neg DT,if_pos rfl,g0]
  rw[hval];refine BK (fun n F H'=>∃j,n+j=vs.length/\j%2=1/\F 1=.own o 0 vs.length/\F 5=.n (j:Nat)/\H'=H/\insW vs[0] (vs.drop 1)=insW vs[0] (vs.drop j)) (vs.length-1) ⟨1,U,rfl,AQ,AQ,rfl,rfl⟩ ?_;rintro n F H' ⟨j,hj,hj2,f1,f5,rfl,hin⟩;refine DW f1 f5 (DC j) ?_;refine BO ?_ ?_<;>intro hc
  .have hc':j+1<vs.length:=by simp at hc;omega
   have ij:=hix j U;have ij1:=hix (j+1) hc';have dj:=hld j U;have dj1:=hld (j+1) hc';rw[AOA _ _ _ hc'] at hin;have e2:IntKind.i64.wrap (((j:Nat):Int)+2)=((j+2:Nat):Int):=by rw[wrap_i64 U U];omega
   have es:IntKind.i64.wrap (((j:Nat):Int)+1)=((j+1:Nat):Int):=wrap_succ (U:j<9223372036854775807);refine AB ?_;refine D6 AZ ?_;refine cM f1 f5 i0 d0 ij dj es ij1 dj1 lec gec ?_;cases ha:decide (vs[j]<=vs[0])
   .refine DW ha f5 e2 ?_
    exact⟨n-2,U,j+2,U,U,AL,AL,trivial,by rw[hin,ha];rfl⟩
   .cases hb:decide (vs[0]<=vs[j+1])
    .refine cM ha hb f1 f5 es ij1 dj1 lec i0 d0 e2 ?_
     exact⟨n-2,U,j+2,U,U,AL,AL,trivial,by rw[hin,ha,hb];rfl⟩
    .refine cN ha hb f1 f5 es ij1 dj1 lec i0 d0 ?_
     exact⟨by rw[hin,ha,hb];rfl,trivial⟩
  .have hc':vs.length<=j+1:=by simp at hc;omega
   refine AB ?_;exact⟨by rw[hin,ASP _ _ _ hc'];rfl,trivial⟩
 .have n12:=hops.2.2 e22 e23
  have c1:(op==22)=false:=beq_eq_false_iff_ne.2 e22;have c2:(op==23)=false:=beq_eq_false_iff_ne.2 e23;have hval:opW op vs=if vs.length=1 then sgW op (vs.getD 0 0) else dbW op (vs.getD 0 0) (vs.getD 1 0):=by unfold opW;rw[if_neg e22,if_neg e23]
  rw[hval];refine BB c1 c2 ?_;refine BO ?_ ?_<;>intro hc
  .have hl1:vs.length=1:=by simp at hc;omega
   refine BB i0 d0 ?_;refine(ABJ G op _ v0 H).uu ?_;exact⟨by rw[if_pos hl1,g0],trivial⟩
  .have hl1:vs.length≠1:=by simp at hc;omega
   have i1:IM 1 H (.own o 0 vs.length) (.n 1)=some (.ptr o 1 0):=hix 1 U;have d1:=hld 1 U;have g1:vs.getD 1 0=vs[1]:=by simp_all
   have v1:vs[1]<65536:=hv _ (jG _);refine AB ?_;refine D6 AZ ?_;refine ES i0 d0 i1 d1 ?_;refine⟨_,AEM G op _ _ v0 v1 H,?_⟩;exact⟨by rw[if_neg hl1,g0,g1],trivial⟩
end Go.Proofs.YtiihpnicbekebaaGreatDoor.Xe
namespace Go.Proofs.YtiihpnicbekebaaGreatDoor.Rk
open Sm Bins Cov Go.RowKit
theorem ACalls.args {E:Env}{f:FuncId}{as1 as2:List AV}{h:Hp}{R:AV->Hp->Prop}(hc:ACalls E f as2 h R)(ha:∀g cargs,aB g as1 cargs->aB g as2 cargs):ACalls E f as1 h R :=
 ⟨hc.1,fun g w cargs S hr=>hc.2 g w cargs S (ha g cargs hr)⟩
def hasB (xs:List Int)(z:Int):Bool:=xs.any fun x=>x==z
theorem AHI (G:Nat->AV)(xs:List Int)(s:SM)(z:Int)(h:Hp)(hn:xs.length<=1048576):∃k:Int,PCall (En G) 322 [.sl s 1 (xs.map qencI),.n z] h (.n k)/\decide (k≥0)=hasB xs z:=by
 by_cases hb:hasB xs z=true
 .obtain⟨i,hi⟩:∃i,xs.findIdx? (fun x=>x==z)=some i:=by
   cases he:xs.findIdx? (fun x=>x==z) with
   | some i=>exact⟨i,rfl⟩
   | none =>
     rw[List.findIdx?_eq_none_iff] at he;unfold hasB at hb;rw[List.any_eq_true] at hb;obtain⟨x,hx,hz⟩:=hb;rw[he x hx] at hz;cases hz
  refine⟨(i:Int),?_,by rw[hb];simp⟩;obtain⟨hil,hiz,hbef⟩:=List.findIdx?_eq_some_iff_getElem.1 hi;refine acT Tryz.func322 4 ?_;refine AB ?_;refine BK (fun n F H=>∃k,n+k=xs.length/\k<=i/\F 0=.sl s 1 (xs.map qencI)/\F 1=.n z/\F 7=.n (xs.length:Nat)/\F 8=.n (k:Nat)/\H=h) xs.length ⟨0,BA,U,AQ,AQ,AQ,AQ,rfl⟩ ?_;rintro n F H ⟨k,hk,hki,f0,f1,f7,f8,rfl⟩;have hk':k<xs.length:=U;have hd:decide (((k:Nat):Int)<((xs.length:Nat):Int))=true:=by simp;omega
  simp only[vQ,CP,J7,↓reduceIte,Nat.reduceEqDiff,Option.getD_some,Bool.not_false,enP,LY,f7,f8,hd,f0,f1,CZ hk',CW ag3 hk',Cov.encI0];rcases Nat.eq_or_lt_of_le hki with e|hlt
  .subst e
   have hzz:(z==xs[k])=true:=by rw[BEq.comm];exact hiz
   refine BB hzz f8 ?_;exact H7
  .have hzz:(z==xs[k])=false:=by
    have:=hbef k hlt;rw[BEq.comm];simpa using this
   refine DW hzz f8 (DC k) ?_;exact⟨n-1,U,k+1,U,U,AL,AL,AL,rfl,trivial⟩
 .have hb':hasB xs z=false:=BM hb
  refine⟨-1,?_,by rw[hb'];decide⟩;refine acT Tryz.func322 4 ?_;refine AB ?_;refine BK (fun n F H=>∃k,n+k=xs.length/\F 0=.sl s 1 (xs.map qencI)/\F 1=.n z/\F 7=.n (xs.length:Nat)/\F 8=.n (k:Nat)/\H=h) xs.length ⟨0,BA,AQ,AQ,AQ,AQ,rfl⟩ ?_;rintro n F H ⟨k,hk,f0,f1,f7,f8,rfl⟩;refine BB f7 f8 ?_;refine BO ?_ ?_<;>intro hc
  .have hk':k<xs.length:=BM hc
   have hzz:(z==xs[k])=false:=by
    rw[<-Bool.not_eq_true];intro e;unfold hasB at hb';rw[List.any_eq_false] at hb';exact hb' xs[k] (List.getElem_mem hk') (by rw[BEq.comm];exact e)
   refine NJ f0 f1 f8 hk' @Cov.encI0 hzz (DC k) ?_;exact⟨n-1,U,k+1,U,AL,AL,f7,rfl,trivial⟩
  .refine AB ?_
   exact H7
theorem contains_rank (G:Nat->AV)(xs:List Int)(s:SM)(z:Int)(h:Hp)(hn:xs.length<=1048576):PCall (En G) 286 [.sl s 1 (xs.map qencI),.n z] h (.bool (hasB xs z)):=by
 obtain⟨k,hk,hd⟩:=AHI G xs s z h hn;refine acT Tryz.func286 4 ?_;refine AB ?_;refine hk.use ?_;refine A7 hd ?_;exact H7
end Go.Proofs.YtiihpnicbekebaaGreatDoor.Rk
