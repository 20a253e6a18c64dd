/- Part 3 of the proof (Ft, Mr, Ms, B1, B2, B3, B4, B5, B6, E1, E2, E3, E4, E5, E6, E7, E8, E9, E10, M1, M2, L1, M4, M5, M6, M7, M9, M10, M11, M12, M13, M14, N1, N2, N4, N7, N8, A1, Q1, Q3, R2, R3, Q4, Q6, Q7, H1, H2, H3, X1, X3, X4, R9); no condition. -/
import Derived.Test.YtiihpnicbekebaaGreatDoorProg
import Derived.KernelRfl
import Derived.Laws.RangeAny
import Derived.Shelf.Strings.Cut
import Derived.Lib.IndexMore
import Derived.Test.YtiihpnicbekebaaGreatDoorCH2
set_option linter.unusedVariables false
set_option maxRecDepth 8000
set_option linter.unusedSimpArgs false
set_option maxHeartbeats 4000000
open Go.Proofs.YtiihpnicbekebaaGreatDoor.Sm.ABlk renaming live→yK
open Bool renaming and_eq_true→jO,eq_iff_iff→qY,false_eq_true→qU,false_or→wV,not_false→jE,not_true→qV,or_false→qB
open Go.Proofs.Tryz renaming prog→jA
open Int renaming reduceBEq→wJ,toNat_natCast→qG
open List renaming all_append→yI,all_cons→wK,all_eq_true→zL,all_nil→yJ,any_eq_false→qM,any_eq_true→qL,append_assoc→zK,append_nil→jP,cons_append→zG,drop_eq_getElem_cons→qC,drop_eq_nil_of_le→zM,drop_zero→zT,findIdx?_eq_none_iff→wS,findIdx?_eq_some_iff_getElem→wR,foldl_cons→wC,getD_eq_getElem?_getD→zF,getElem?_append_left→zX,getElem?_cons_succ→wP,getElem?_cons_zero→wE,getElem?_eq_getElem→jG,getElem?_eq_none→zY,getElem?_map→jV,getElem?_set→zJ,getElem_mem→jI,length_append→jT,length_cons→zO,length_map→jM,length_take→jZ,map_cons→jK,map_map→qW,map_nil→jL,mem_append→zI,mem_cons_of_mem→yF,mem_cons→zQ,mem_map→zH,mem_of_getElem?→zZ,nil_append→qJ,replicate→jR,take_append_drop→wZ,take_of_length_le→jJ,take_succ_eq_append_getElem→jU,take_zero→qK
open Nat renaming add_zero→zD,eq_zero_or_pos→wU,le_of_ble_eq_true→jB,le_refl→jF,le_trans→qQ,lt_or_ge→jW,mod_eq_of_lt→yG,mod_lt→wI,reduceAdd→jS,reduceEqDiff→jC,zero_add→jH
open Option renaming getD_none→jQ,getD_some→jD
namespace Go.Proofs.YtiihpnicbekebaaGreatDoor.Sm
variable {E:Env} {f:FuncId} {fn:Func} {c:Code} {h:Hp} (G:Nat->AV )

theorem sz3:szO jA 3=some 1:=A7
theorem ag3:JJ jA 3=some false:=A7
theorem sz4:szO jA 4=some 1:=A7
theorem ag4:JJ jA 4=some false:=A7
theorem sz9:szO jA 9=some 1:=A7
theorem ag9:JJ jA 9=some false:=A7
theorem XK:JJ jA 22=some false:=A7
theorem AMH:szO jA 23=some 1:=A7
theorem LH:JJ jA 23=some false:=A7
theorem AU5:JJ jA 24=some false:=A7
theorem AV7:szO jA 25=some 1:=A7
theorem UC:JJ jA 25=some false:=A7
theorem kH:szO jA 27=some 5:=A7
theorem pQ:JJ jA 27=some true:=A7
theorem iC:JJ jA 28=some false:=A7
theorem sA:JJ jA 29=some false:=A7
theorem A2A:szO jA 31=some 2:=A7
theorem A8E:JJ jA 31=some true:=A7
theorem vP:szO jA 32=some 1:=A7
theorem NE:JJ jA 32=some false:=A7
theorem vO:szO jA 34=some 3:=A7
theorem A4B:JJ jA 34=some true:=A7
theorem A19:szO jA 38=some 1:=A7
theorem AU4:JJ jA 38=some false:=A7
theorem AGL:szO jA 46=some 4:=A7
theorem A8C:JJ jA 46=some true:=A7
theorem JB:szO jA 79=some 4:=A7
theorem O1:JJ jA 79=some true:=A7
theorem P6:JJ jA 80=some false:=A7
theorem aQ:szO jA 82=some 6:=A7
theorem lA:JJ jA 82=some true:=A7
theorem A4W:szO jA 84=some 1:=A7
theorem RQ:JJ jA 84=some false:=A7
theorem XJ:JJ jA 85=some false:=A7
theorem aP:szO jA 87=some 4:=A7
theorem kZ:JJ jA 87=some true:=A7
theorem ABG:szO jA 90=some 3:=A7
theorem APJ:JJ jA 90=some true:=A7
theorem AV6:szO jA 94=some 1:=A7
theorem BAS:JJ jA 94=some true:=A7
theorem A0T:szO jA 100=some 1:=A7
theorem A1W:JJ jA 100=some false:=A7
theorem sK:szO jA 118=some 4:=A7
theorem A1V:JJ jA 118=some true:=A7
theorem AL2:JJ jA 120=some false:=A7
theorem AQE:szO jA 121=some 1:=A7
theorem uW:JJ jA 121=some false:=A7
theorem lY:szO jA 131=some 4:=A7
theorem AL1:JJ jA 131=some true:=A7
theorem A4Z:szO jA 137=some 1:=A7
theorem A1U:JJ jA 137=some false:=A7
theorem iJ:szO jA 140=some 2:=A7
theorem AL0:JJ jA 140=some true:=A7
theorem A4Y:szO jA 143=some 4:=A7
theorem LZ:szO jA 145=some 2:=A7
theorem eI:JJ jA 145=some true:=A7
theorem A4X:szO jA 150=some 1:=A7
theorem A8J:JJ jA 150=some false:=A7
theorem AQD:szO jA 209=some 2:=A7
theorem A8I:JJ jA 209=some true:=A7
theorem sz230:szO jA 230=some 1:=A7
theorem ag230:JJ jA 230=some false:=A7
theorem A0S:szO jA 233=some 1:=A7
theorem A8H:JJ jA 233=some true:=A7
theorem A0R:szO jA 235=some 2:=A7
theorem A8G:JJ jA 235=some true:=A7
theorem AJO:szO jA 240=some 4:=A7
theorem A1T:JJ jA 240=some true:=A7
theorem A0Q:szO jA 277=some 1:=A7
theorem A8F:JJ jA 277=some true:=A7
theorem A0P:szO jA 316=some 2:=A7
theorem A8D:JJ jA 316=some true:=A7
theorem ln9:∀s,JR jA 9 (.str s)=some (.int .i64 s.size):=AXZ (A7:Tryz.prog.underlying 9=some .string)
theorem bE:∀h a i,EJ jA h 22 a i=IG 4 h a i:=FH (A7:Tryz.prog.underlying 22=some (.slice 131)) lY
theorem A5X:(∀m k xs,JR jA 22 (.sl m k xs)=some (.int .i64 xs.length))∧∀b off len,JR jA 22 (.own b off len)=some (.int .i64 len):=MI (A7:Tryz.prog.underlying 22=some (.slice 131))
theorem A83:Tryz.prog.underlying 22=some (.slice 131):=A7
theorem PQ:∀h a i,EJ jA h 23 a i=IG 4 h a i:=FH (A7:Tryz.prog.underlying 23=some (.slice 79)) JB
theorem AR1:(∀m k xs,JR jA 23 (.sl m k xs)=some (.int .i64 xs.length))∧∀b off len,JR jA 23 (.own b off len)=some (.int .i64 len):=MI (A7:Tryz.prog.underlying 23=some (.slice 79))
theorem V7:Tryz.prog.underlying 23=some (.slice 79):=A7
theorem eQ:SK jA 79=some 4:=A7
theorem eE:KG jA 79=some 56:=A7
theorem AN1:∀h a i,EJ jA h 24 a i=IG 2 h a i:=FH (A7:Tryz.prog.underlying 24=some (.slice 140)) iJ
theorem A5W:(∀m k xs,JR jA 24 (.sl m k xs)=some (.int .i64 xs.length))∧∀b off len,JR jA 24 (.own b off len)=some (.int .i64 len):=MI (A7:Tryz.prog.underlying 24=some (.slice 140))
theorem A82:Tryz.prog.underlying 24=some (.slice 140):=A7
theorem fN:∀h a i,EJ jA h 25 a i=IG 1 h a i:=FH (A7:Tryz.prog.underlying 25=some (.slice 32)) vP
theorem xJ:(∀m k xs,JR jA 25 (.sl m k xs)=some (.int .i64 xs.length))∧∀b off len,JR jA 25 (.own b off len)=some (.int .i64 len):=MI (A7:Tryz.prog.underlying 25=some (.slice 32))
theorem ud25:Tryz.prog.underlying 25=some (.slice 32):=A7
theorem zs25:SK jA 32=some 1:=A7
theorem by25:KG jA 32=some 24:=A7
theorem yR:(∀b i j,BD jA 27 (.ptr b i j) 0=some (.ptr b i (j+0)))∧(∀k xs i j,BD jA 27 (.fptr k xs i j) 0=some (.fptr k xs i (j+0))):=FZ (A7:I4 jA 27 0 0=true)
theorem bJ:(∀b i j,BD jA 27 (.ptr b i j) 1=some (.ptr b i (j+1)))∧(∀k xs i j,BD jA 27 (.fptr k xs i j) 1=some (.fptr k xs i (j+1))):=FZ (A7:I4 jA 27 1 1=true)
theorem oG:(∀b i j,BD jA 27 (.ptr b i j) 2=some (.ptr b i (j+2)))∧(∀k xs i j,BD jA 27 (.fptr k xs i j) 2=some (.fptr k xs i (j+2))):=FZ (A7:I4 jA 27 2 2=true)
theorem ATG:(∀b i j,BD jA 27 (.ptr b i j) 3=some (.ptr b i (j+3)))∧(∀k xs i j,BD jA 27 (.fptr k xs i j) 3=some (.fptr k xs i (j+3))):=FZ (A7:I4 jA 27 3 3=true)
theorem oD:(∀b i j,BD jA 27 (.ptr b i j) 4=some (.ptr b i (j+4)))∧(∀k xs i j,BD jA 27 (.fptr k xs i j) 4=some (.fptr k xs i (j+4))):=FZ (A7:I4 jA 27 4 4=true)
theorem XG:∀h a i,EJ jA h 28 a i=IG 6 h a i:=FH (A7:Tryz.prog.underlying 28=some (.slice 82)) aQ
theorem AR0:(∀m k xs,JR jA 28 (.sl m k xs)=some (.int .i64 xs.length))∧∀b off len,JR jA 28 (.own b off len)=some (.int .i64 len):=MI (A7:Tryz.prog.underlying 28=some (.slice 82))
theorem fM:∀h a i,EJ jA h 29 a i=IG 3 h a i:=FH (A7:Tryz.prog.underlying 29=some (.slice 90)) ABG
theorem AXW:(∀m k xs,JR jA 29 (.sl m k xs)=some (.int .i64 xs.length))∧∀b off len,JR jA 29 (.own b off len)=some (.int .i64 len):=MI (A7:Tryz.prog.underlying 29=some (.slice 90))
theorem PX:(∀b i j,BD jA 31 (.ptr b i j) 0=some (.ptr b i (j+0)))∧(∀k xs i j,BD jA 31 (.fptr k xs i j) 0=some (.fptr k xs i (j+0))):=FZ (A7:I4 jA 31 0 0=true)
theorem U2:(∀b i j,BD jA 31 (.ptr b i j) 1=some (.ptr b i (j+1)))∧(∀k xs i j,BD jA 31 (.fptr k xs i j) 1=some (.fptr k xs i (j+1))):=FZ (A7:I4 jA 31 1 1=true)
theorem LY:∀h a i,EJ jA h 32 a i=IG 1 h a i:=FH (A7:Tryz.prog.underlying 32=some (.slice 3)) sz3
theorem dH:(∀m k xs,JR jA 32 (.sl m k xs)=some (.int .i64 xs.length))∧∀b off len,JR jA 32 (.own b off len)=some (.int .i64 len):=MI (A7:Tryz.prog.underlying 32=some (.slice 3))
theorem VD:Tryz.prog.underlying 32=some (.slice 3):=A7
theorem cH:SK jA 3=some 1:=A7
theorem ZU:KG jA 3=some 8:=A7
theorem ATF:(∀b i j,BD jA 34 (.ptr b i j) 0=some (.ptr b i (j+0)))∧(∀k xs i j,BD jA 34 (.fptr k xs i j) 0=some (.fptr k xs i (j+0))):=FZ (A7:I4 jA 34 0 0=true)
theorem YH:(∀b i j,BD jA 34 (.ptr b i j) 1=some (.ptr b i (j+1)))∧(∀k xs i j,BD jA 34 (.fptr k xs i j) 1=some (.fptr k xs i (j+1))):=FZ (A7:I4 jA 34 1 1=true)
theorem bI:(∀b i j,BD jA 34 (.ptr b i j) 2=some (.ptr b i (j+2)))∧(∀k xs i j,BD jA 34 (.fptr k xs i j) 2=some (.fptr k xs i (j+2))):=FZ (A7:I4 jA 34 2 2=true)
theorem fZ:(∀b i j,BD jA 46 (.ptr b i j) 0=some (.ptr b i (j+0)))∧(∀k xs i j,BD jA 46 (.fptr k xs i j) 0=some (.fptr k xs i (j+0))):=FZ (A7:I4 jA 46 0 0=true)
theorem yQ:(∀b i j,BD jA 46 (.ptr b i j) 1=some (.ptr b i (j+1)))∧(∀k xs i j,BD jA 46 (.fptr k xs i j) 1=some (.fptr k xs i (j+1))):=FZ (A7:I4 jA 46 1 1=true)
theorem ATE:(∀b i j,BD jA 46 (.ptr b i j) 2=some (.ptr b i (j+2)))∧(∀k xs i j,BD jA 46 (.fptr k xs i j) 2=some (.fptr k xs i (j+2))):=FZ (A7:I4 jA 46 2 2=true)
theorem ATD:(∀b i j,BD jA 46 (.ptr b i j) 3=some (.ptr b i (j+3)))∧(∀k xs i j,BD jA 46 (.fptr k xs i j) 3=some (.fptr k xs i (j+3))):=FZ (A7:I4 jA 46 3 3=true)
theorem A6A:∀h a i,EJ jA h 49 a i=IG 3 h a i:=FH (A7:Tryz.prog.underlying 49=some (.slice 34)) vO
theorem ARZ:(∀m k xs,JR jA 49 (.sl m k xs)=some (.int .i64 xs.length))∧∀b off len,JR jA 49 (.own b off len)=some (.int .i64 len):=MI (A7:Tryz.prog.underlying 49=some (.slice 34))
theorem AV4:Tryz.prog.underlying 49=some (.slice 34):=A7
theorem AVT:SK jA 34=some 3:=A7
theorem A31:KG jA 34=some 40:=A7
theorem A9V:∀h a i,EJ jA h 73 a i=IG 1 h a i:=FH (A7:Tryz.prog.underlying 73=some (.slice 137)) A4Z
theorem A9R:(∀m k xs,JR jA 73 (.sl m k xs)=some (.int .i64 xs.length))∧∀b off len,JR jA 73 (.own b off len)=some (.int .i64 len):=MI (A7:Tryz.prog.underlying 73=some (.slice 137))
theorem A4S:Tryz.prog.underlying 73=some (.slice 137):=A7
theorem A4J:SK jA 137=some 1:=A7
theorem A99:KG jA 137=some 24:=A7
theorem YG:(∀b i j,BD jA 79 (.ptr b i j) 0=some (.ptr b i (j+0)))∧(∀k xs i j,BD jA 79 (.fptr k xs i j) 0=some (.fptr k xs i (j+0))):=FZ (A7:I4 jA 79 0 0=true)
theorem yP:(∀b i j,BD jA 79 (.ptr b i j) 1=some (.ptr b i (j+1)))∧(∀k xs i j,BD jA 79 (.fptr k xs i j) 1=some (.fptr k xs i (j+1))):=FZ (A7:I4 jA 79 1 1=true)
theorem oC:(∀b i j,BD jA 79 (.ptr b i j) 2=some (.ptr b i (j+2)))∧(∀k xs i j,BD jA 79 (.fptr k xs i j) 2=some (.fptr k xs i (j+2))):=FZ (A7:I4 jA 79 2 2=true)
theorem bH:(∀b i j,BD jA 79 (.ptr b i j) 3=some (.ptr b i (j+3)))∧(∀k xs i j,BD jA 79 (.fptr k xs i j) 3=some (.fptr k xs i (j+3))):=FZ (A7:I4 jA 79 3 3=true)
theorem fL:∀h a i,EJ jA h 80 a i=IG 4 h a i:=FH (A7:Tryz.prog.underlying 80=some (.slice 87)) aP
theorem rM:(∀m k xs,JR jA 80 (.sl m k xs)=some (.int .i64 xs.length))∧∀b off len,JR jA 80 (.own b off len)=some (.int .i64 len):=MI (A7:Tryz.prog.underlying 80=some (.slice 87))
theorem ATC:(∀b i j,BD jA 82 (.ptr b i j) 0=some (.ptr b i (j+0)))∧(∀k xs i j,BD jA 82 (.fptr k xs i j) 0=some (.fptr k xs i (j+0))):=FZ (A7:I4 jA 82 0 0=true)
theorem nZ:(∀b i j,BD jA 82 (.ptr b i j) 1=some (.ptr b i (j+1)))∧(∀k xs i j,BD jA 82 (.fptr k xs i j) 1=some (.fptr k xs i (j+1))):=FZ (A7:I4 jA 82 1 1=true)
theorem OJ:(∀b i j,BD jA 82 (.ptr b i j) 2=some (.ptr b i (j+5)))∧(∀k xs i j,BD jA 82 (.fptr k xs i j) 2=some (.fptr k xs i (j+5))):=FZ (A7:I4 jA 82 2 5=true)
theorem dL:∀h a i,EJ jA h 84 a i=IG 2 h a i:=FH (A7:Tryz.prog.underlying 84=some (.slice 145)) LZ
theorem xI:(∀m k xs,JR jA 84 (.sl m k xs)=some (.int .i64 xs.length))∧∀b off len,JR jA 84 (.own b off len)=some (.int .i64 len):=MI (A7:Tryz.prog.underlying 84=some (.slice 145))
theorem aO:Tryz.prog.underlying 84=some (.slice 145):=A7
theorem APQ:SK jA 145=some 2:=A7
theorem AUB:KG jA 145=some 16:=A7
theorem AHK:∀h a i,EJ jA h 85 a i=IG 1 h a i:=FH (A7:Tryz.prog.underlying 85=some (.slice 84)) A4W
theorem A20:(∀m k xs,JR jA 85 (.sl m k xs)=some (.int .i64 xs.length))∧∀b off len,JR jA 85 (.own b off len)=some (.int .i64 len):=MI (A7:Tryz.prog.underlying 85=some (.slice 84))
theorem ATB:(∀b i j,BD jA 87 (.ptr b i j) 0=some (.ptr b i (j+0)))∧(∀k xs i j,BD jA 87 (.fptr k xs i j) 0=some (.fptr k xs i (j+0))):=FZ (A7:I4 jA 87 0 0=true)
theorem fY:(∀b i j,BD jA 87 (.ptr b i j) 1=some (.ptr b i (j+1)))∧(∀k xs i j,BD jA 87 (.fptr k xs i j) 1=some (.fptr k xs i (j+1))):=FZ (A7:I4 jA 87 1 1=true)
theorem AH3:(∀b i j,BD jA 87 (.ptr b i j) 2=some (.ptr b i (j+2)))∧(∀k xs i j,BD jA 87 (.fptr k xs i j) 2=some (.fptr k xs i (j+2))):=FZ (A7:I4 jA 87 2 2=true)
theorem AH2:(∀b i j,BD jA 87 (.ptr b i j) 3=some (.ptr b i (j+3)))∧(∀k xs i j,BD jA 87 (.fptr k xs i j) 3=some (.fptr k xs i (j+3))):=FZ (A7:I4 jA 87 3 3=true)
theorem ATA:(∀b i j,BD jA 90 (.ptr b i j) 0=some (.ptr b i (j+0)))∧(∀k xs i j,BD jA 90 (.fptr k xs i j) 0=some (.fptr k xs i (j+0))):=FZ (A7:I4 jA 90 0 0=true)
theorem U1:(∀b i j,BD jA 90 (.ptr b i j) 1=some (.ptr b i (j+1)))∧(∀k xs i j,BD jA 90 (.fptr k xs i j) 1=some (.fptr k xs i (j+1))):=FZ (A7:I4 jA 90 1 1=true)
theorem yO:(∀b i j,BD jA 90 (.ptr b i j) 2=some (.ptr b i (j+2)))∧(∀k xs i j,BD jA 90 (.fptr k xs i j) 2=some (.fptr k xs i (j+2))):=FZ (A7:I4 jA 90 2 2=true)
theorem yN:(∀b i j,BD jA 94 (.ptr b i j) 0=some (.ptr b i (j+0)))∧(∀k xs i j,BD jA 94 (.fptr k xs i j) 0=some (.fptr k xs i (j+0))):=FZ (A7:I4 jA 94 0 0=true)
theorem AKV:∀h a i,EJ jA h 100 a i=IG 1 h a i:=FH (A7:Tryz.prog.underlying 100=some (.slice 23)) AMH
theorem iO:(∀m k xs,JR jA 100 (.sl m k xs)=some (.int .i64 xs.length))∧∀b off len,JR jA 100 (.own b off len)=some (.int .i64 len):=MI (A7:Tryz.prog.underlying 100=some (.slice 23))
theorem AP8:Tryz.prog.underlying 100=some (.slice 23):=A7
theorem A0J:SK jA 23=some 1:=A7
theorem AUD:KG jA 23=some 24:=A7
theorem A6D:∀h a i,EJ jA h 115 a i=IG 4 h a i:=FH (A7:Tryz.prog.underlying 115=some (.slice 118)) sK
theorem A50:(∀m k xs,JR jA 115 (.sl m k xs)=some (.int .i64 xs.length))∧∀b off len,JR jA 115 (.own b off len)=some (.int .i64 len):=MI (A7:Tryz.prog.underlying 115=some (.slice 118))
theorem A0O:Tryz.prog.underlying 115=some (.slice 118):=A7
theorem A0I:SK jA 118=some 4:=A7
theorem A7E:KG jA 118=some 48:=A7
theorem lJ:(∀b i j,BD jA 118 (.ptr b i j) 0=some (.ptr b i (j+0)))∧(∀k xs i j,BD jA 118 (.fptr k xs i j) 0=some (.fptr k xs i (j+0))):=FZ (A7:I4 jA 118 0 0=true)
theorem ALG:(∀b i j,BD jA 118 (.ptr b i j) 1=some (.ptr b i (j+3)))∧(∀k xs i j,BD jA 118 (.fptr k xs i j) 1=some (.fptr k xs i (j+3))):=FZ (A7:I4 jA 118 1 3=true)
theorem ASH:∀h a i,EJ jA h 120 a i=IG 4 h a i:=FH (A7:Tryz.prog.underlying 120=some (.slice 240)) AJO
theorem ADF:(∀m k xs,JR jA 120 (.sl m k xs)=some (.int .i64 xs.length))∧∀b off len,JR jA 120 (.own b off len)=some (.int .i64 len):=MI (A7:Tryz.prog.underlying 120=some (.slice 240))
theorem aA:∀h a i,EJ jA h 121 a i=IG 1 h a i:=FH (A7:Tryz.prog.underlying 121=some (.slice 9)) sz9
theorem A0Z:(∀m k xs,JR jA 121 (.sl m k xs)=some (.int .i64 xs.length))∧∀b off len,JR jA 121 (.own b off len)=some (.int .i64 len):=MI (A7:Tryz.prog.underlying 121=some (.slice 9))
theorem AP7:Tryz.prog.underlying 121=some (.slice 9):=A7
theorem APR:SK jA 9=some 1:=A7
theorem AUC:KG jA 9=some 16:=A7
theorem ZE:(∀b i j,BD jA 131 (.ptr b i j) 0=some (.ptr b i (j+0)))∧(∀k xs i j,BD jA 131 (.fptr k xs i j) 0=some (.fptr k xs i (j+0))):=FZ (A7:I4 jA 131 0 0=true)
theorem UN:(∀b i j,BD jA 131 (.ptr b i j) 1=some (.ptr b i (j+1)))∧(∀k xs i j,BD jA 131 (.fptr k xs i j) 1=some (.fptr k xs i (j+1))):=FZ (A7:I4 jA 131 1 1=true)
theorem UM:(∀b i j,BD jA 131 (.ptr b i j) 2=some (.ptr b i (j+2)))∧(∀k xs i j,BD jA 131 (.fptr k xs i j) 2=some (.fptr k xs i (j+2))):=FZ (A7:I4 jA 131 2 2=true)
theorem WR:(∀b i j,BD jA 131 (.ptr b i j) 3=some (.ptr b i (j+3)))∧(∀k xs i j,BD jA 131 (.fptr k xs i j) 3=some (.fptr k xs i (j+3))):=FZ (A7:I4 jA 131 3 3=true)
theorem A06:∀h a i,EJ jA h 137 a i=IG 2 h a i:=FH (A7:Tryz.prog.underlying 137=some (.slice 209)) AQD
theorem A5Z:(∀m k xs,JR jA 137 (.sl m k xs)=some (.int .i64 xs.length))∧∀b off len,JR jA 137 (.own b off len)=some (.int .i64 len):=MI (A7:Tryz.prog.underlying 137=some (.slice 209))
theorem A0N:Tryz.prog.underlying 137=some (.slice 209):=A7
theorem A0H:SK jA 209=some 2:=A7
theorem A1K:KG jA 209=some 24:=A7
theorem yW:(∀b i j,BD jA 140 (.ptr b i j) 0=some (.ptr b i (j+0)))∧(∀k xs i j,BD jA 140 (.fptr k xs i j) 0=some (.fptr k xs i (j+0))):=FZ (A7:I4 jA 140 0 0=true)
theorem yV:(∀b i j,BD jA 140 (.ptr b i j) 1=some (.ptr b i (j+1)))∧(∀k xs i j,BD jA 140 (.fptr k xs i j) 1=some (.fptr k xs i (j+1))):=FZ (A7:I4 jA 140 1 1=true)
theorem ZC:(∀b i j,BD jA 145 (.ptr b i j) 0=some (.ptr b i (j+0)))∧(∀k xs i j,BD jA 145 (.fptr k xs i j) 0=some (.fptr k xs i (j+0))):=FZ (A7:I4 jA 145 0 0=true)
theorem ZB:(∀b i j,BD jA 145 (.ptr b i j) 1=some (.ptr b i (j+1)))∧(∀k xs i j,BD jA 145 (.fptr k xs i j) 1=some (.fptr k xs i (j+1))):=FZ (A7:I4 jA 145 1 1=true)
theorem A05:∀h a i,EJ jA h 159 a i=IG 1 h a i:=FH (A7:Tryz.prog.underlying 159=some (.slice 100)) A0T
theorem A0Y:(∀m k xs,JR jA 159 (.sl m k xs)=some (.int .i64 xs.length))∧∀b off len,JR jA 159 (.own b off len)=some (.int .i64 len):=MI (A7:Tryz.prog.underlying 159=some (.slice 100))
theorem A4U:Tryz.prog.underlying 159=some (.slice 100):=A7
theorem A4K:SK jA 100=some 1:=A7
theorem A7D:KG jA 100=some 24:=A7
theorem AYW:(∀b i j,BD jA 209 (.ptr b i j) 0=some (.ptr b i (j+0)))∧(∀k xs i j,BD jA 209 (.fptr k xs i j) 0=some (.fptr k xs i (j+0))):=FZ (A7:I4 jA 209 0 0=true)
theorem ALF:(∀b i j,BD jA 209 (.ptr b i j) 1=some (.ptr b i (j+1)))∧(∀k xs i j,BD jA 209 (.fptr k xs i j) 1=some (.fptr k xs i (j+1))):=FZ (A7:I4 jA 209 1 1=true)
theorem A6B:∀h a i,EJ jA h 212 a i=IG 1 h a i:=FH (A7:Tryz.prog.underlying 212=some (.slice 150)) A4X
theorem A5Y:(∀m k xs,JR jA 212 (.sl m k xs)=some (.int .i64 xs.length))∧∀b off len,JR jA 212 (.own b off len)=some (.int .i64 len):=MI (A7:Tryz.prog.underlying 212=some (.slice 150))
theorem ASG:∀h a i,EJ jA h 221 a i=IG 1 h a i:=FH (A7:Tryz.prog.underlying 221=some (.slice 4)) sz4
theorem A4T:Tryz.prog.underlying 221=some (.slice 4):=A7
theorem A7C:KG jA 4=some 1:=A7
theorem ALE:(∀b i j,BD jA 233 (.ptr b i j) 0=some (.ptr b i (j+0)))∧(∀k xs i j,BD jA 233 (.fptr k xs i j) 0=some (.fptr k xs i (j+0))):=FZ (A7:I4 jA 233 0 0=true)
theorem ALD:(∀b i j,BD jA 235 (.ptr b i j) 0=some (.ptr b i (j+0)))∧(∀k xs i j,BD jA 235 (.fptr k xs i j) 0=some (.fptr k xs i (j+0))):=FZ (A7:I4 jA 235 0 0=true)
theorem ALC:(∀b i j,BD jA 235 (.ptr b i j) 1=some (.ptr b i (j+1)))∧(∀k xs i j,BD jA 235 (.fptr k xs i j) 1=some (.fptr k xs i (j+1))):=FZ (A7:I4 jA 235 1 1=true)
theorem dV:(∀b i j,BD jA 240 (.ptr b i j) 0=some (.ptr b i (j+0)))∧(∀k xs i j,BD jA 240 (.fptr k xs i j) 0=some (.fptr k xs i (j+0))):=FZ (A7:I4 jA 240 0 0=true)
theorem lI:(∀b i j,BD jA 240 (.ptr b i j) 1=some (.ptr b i (j+1)))∧(∀k xs i j,BD jA 240 (.fptr k xs i j) 1=some (.fptr k xs i (j+1))):=FZ (A7:I4 jA 240 1 1=true)
theorem dU:(∀b i j,BD jA 240 (.ptr b i j) 2=some (.ptr b i (j+2)))∧(∀k xs i j,BD jA 240 (.fptr k xs i j) 2=some (.fptr k xs i (j+2))):=FZ (A7:I4 jA 240 2 2=true)
theorem yU:(∀b i j,BD jA 249 (.ptr b i j) 0=some (.ptr b i (j+0)))∧(∀k xs i j,BD jA 249 (.fptr k xs i j) 0=some (.fptr k xs i (j+0))):=FZ (A7:I4 jA 249 0 0=true)
theorem AYV:(∀b i j,BD jA 249 (.ptr b i j) 1=some (.ptr b i (j+5)))∧(∀k xs i j,BD jA 249 (.fptr k xs i j) 1=some (.fptr k xs i (j+5))):=FZ (A7:I4 jA 249 1 5=true)
theorem WQ:(∀b i j,BD jA 249 (.ptr b i j) 2=some (.ptr b i (j+6)))∧(∀k xs i j,BD jA 249 (.fptr k xs i j) 2=some (.fptr k xs i (j+6))):=FZ (A7:I4 jA 249 2 6=true)
theorem lH:(∀b i j,BD jA 249 (.ptr b i j) 3=some (.ptr b i (j+7)))∧(∀k xs i j,BD jA 249 (.fptr k xs i j) 3=some (.fptr k xs i (j+7))):=FZ (A7:I4 jA 249 3 7=true)
theorem AYU:(∀b i j,BD jA 249 (.ptr b i j) 4=some (.ptr b i (j+8)))∧(∀k xs i j,BD jA 249 (.fptr k xs i j) 4=some (.fptr k xs i (j+8))):=FZ (A7:I4 jA 249 4 8=true)
theorem ALB:(∀b i j,BD jA 263 (.ptr b i j) 0=some (.ptr b i (j+0)))∧(∀k xs i j,BD jA 263 (.fptr k xs i j) 0=some (.fptr k xs i (j+0))):=FZ (A7:I4 jA 263 0 0=true)
theorem yT:(∀b i j,BD jA 263 (.ptr b i j) 1=some (.ptr b i (j+1)))∧(∀k xs i j,BD jA 263 (.fptr k xs i j) 1=some (.fptr k xs i (j+1))):=FZ (A7:I4 jA 263 1 1=true)
theorem dT:(∀b i j,BD jA 263 (.ptr b i j) 2=some (.ptr b i (j+2)))∧(∀k xs i j,BD jA 263 (.fptr k xs i j) 2=some (.fptr k xs i (j+2))):=FZ (A7:I4 jA 263 2 2=true)
theorem ALA:(∀b i j,BD jA 263 (.ptr b i j) 3=some (.ptr b i (j+3)))∧(∀k xs i j,BD jA 263 (.fptr k xs i j) 3=some (.fptr k xs i (j+3))):=FZ (A7:I4 jA 263 3 3=true)
theorem yS:(∀b i j,BD jA 263 (.ptr b i j) 4=some (.ptr b i (j+4)))∧(∀k xs i j,BD jA 263 (.fptr k xs i j) 4=some (.fptr k xs i (j+4))):=FZ (A7:I4 jA 263 4 4=true)
theorem AYT:(∀b i j,BD jA 277 (.ptr b i j) 0=some (.ptr b i (j+0)))∧(∀k xs i j,BD jA 277 (.fptr k xs i j) 0=some (.fptr k xs i (j+0))):=FZ (A7:I4 jA 277 0 0=true)
theorem AYS:(∀b i j,BD jA 316 (.ptr b i j) 0=some (.ptr b i (j+0)))∧(∀k xs i j,BD jA 316 (.fptr k xs i j) 0=some (.fptr k xs i (j+0))):=FZ (A7:I4 jA 316 0 0=true)
theorem AK9:(∀b i j,BD jA 316 (.ptr b i j) 1=some (.ptr b i (j+1)))∧(∀k xs i j,BD jA 316 (.fptr k xs i j) 1=some (.fptr k xs i (j+1))):=FZ (A7:I4 jA 316 1 1=true)
theorem A1I:∀n,YR jA 3 5 (.int .i64 n)=some (.int .u8 (IntKind.u8.wrap n)):=fun n=>eC (ds:=.int .i64) jA .i64 n A7 A7
theorem AY5:∀n,YR jA 3 348 (.int .i64 n)=some (.int .u16 (IntKind.u16.wrap n)):=fun n=>eC (ds:=.int .i64) jA .i64 n A7 A7
theorem AT3:∀n,YR jA 5 3 (.int .u8 n)=some (.int .i64 (IntKind.i64.wrap n)):=fun n=>eC (ds:=.int .u8) jA .u8 n A7 A7
theorem AY6:∀n,YR jA 348 3 (.int .u16 n)=some (.int .i64 (IntKind.i64.wrap n)):=fun n=>eC (ds:=.int .u16) jA .u16 n A7 A7
noncomputable def En (G:Nat->AV):Env:=⟨jA,G,none,fun _ _=>False⟩
theorem enP:(En G).P=jA:=rfl
theorem enX:(En G).nox=En G:=rfl
theorem enG:(En G).G=G:=rfl
theorem enM:(En G).P.follows .mixedOrders=true:=A7

abbrev AV.n (z:Int):AV:=.int .i64 z
theorem Mr_L:type_of% (And.intro @AU (And.intro @jD.{0} (And.intro @BC (And.intro @BB (And.intro @jE (And.intro @BN (And.intro @BP (And.intro @BI (And.intro @BF (And.intro @BQ (And.intro @BK (And.intro @CB (And.intro @BL (And.intro @Y (And.intro @enP (And.intro @CE (And.intro @BO (And.intro @CO (And.intro @CV (And.intro @DJ (And.intro @D9 (And.intro @BZ (And.intro @DW (And.intro @EW (And.intro @EQ (And.intro @MR (And.intro @DY (And.intro @BV (And.intro @jL.{0,0} (And.intro @jK.{0,0} (And.intro @jP.{0} (And.intro @ED (And.intro @CJ (And.intro @DX (And.intro @D6 (And.intro @EU (And.intro @DI (And.intro @BR (And.intro @LC (And.intro @GH (And.intro @jH (And.intro @BX (And.intro @I7 (And.intro @EN (And.intro @IR (And.intro @KQ (And.intro @AO (And.intro @L9 (And.intro @IE (And.intro @IC (And.intro @FY (And.intro @PD (And.intro @kB (And.intro @IL (And.intro @TT (And.intro @YN (And.intro @zD (And.intro @eT (And.intro @JW (And.intro @sU (And.intro @KL (And.intro @FO (And.intro @jQ.{0} (And.intro @DK (And.intro @enX (And.intro @CQ (And.intro @MM (And.intro @G6 (And.intro @G9 (And.intro @JS (And.intro @SL (And.intro @ACC (And.intro @FU (And.intro @DU (And.intro @GN (And.intro @qB (And.intro @AA1 (And.intro @JK (And.intro @eS (And.intro @I5 (And.intro @YU (And.intro @JM (And.intro @II (And.intro @qV (And.intro @WV (And.intro @JU (And.intro @EG (And.intro @JL (And.intro @F7 (And.intro @qU (And.intro @P8 (And.intro @LY (And.intro @A5V (And.intro @E8 (And.intro @ML (And.intro @dH (And.intro @KA (And.intro @TD (And.intro @ES (And.intro @J6 (And.intro @wE.{0} (And.intro @OD (And.intro @wP.{0} (And.intro @oJ (And.intro @OM (And.intro @AXV (And.intro @eP (And.intro @YG (And.intro @NZ (And.intro @MX (And.intro @QU (And.intro @O4 (And.intro @NU (And.intro @PX (And.intro @PY (And.intro @XM (And.intro @gX (And.intro @LM (And.intro @OJ (And.intro @bH (And.intro @U2 (And.intro @AR1 (And.intro @oC (And.intro @PQ (And.intro @xI (And.intro @U1 (And.intro @fN (And.intro @qJ.{0} (And.intro @ZI (And.intro @LJ (And.intro @VG (And.intro @QD (And.intro @XG (And.intro @yR (And.intro @RX (And.intro @AR0 (And.intro @QR (And.intro @rM (And.intro @QE (And.intro @fM (And.intro @KW (And.intro @bE (And.intro @ATP (And.intro @APN (And.intro @pW (And.intro @YH (And.intro @A5X (And.intro @UN (And.intro @dL (And.intro @UD (And.intro @AXW (And.intro @ARV (And.intro @eO (And.intro @fL (And.intro @xJ (And.intro @TQ (And.intro @U6 (And.intro @bI (And.intro @A20 (And.intro @fY (And.intro @ZB (And.intro @AH2 (And.intro @lN (And.intro @UM (And.intro @AVM (And.intro @ZE (And.intro @ZC (And.intro @QV (And.intro @AH3 (And.intro @yP (And.intro @yQ (And.intro @AKV (And.intro @AJB (And.intro @AI9 (And.intro @xE (And.intro @fZ (And.intro @dV (And.intro @yV (And.intro @A0Z (And.intro @AF9 (And.intro @yO (And.intro @A0A (And.intro @AN1 (And.intro @iO (And.intro @AVW (And.intro @ATF (And.intro @ln9 (And.intro @lI (And.intro @AHK (And.intro @VW (And.intro @nZ (And.intro @ATG (And.intro @cJ (And.intro @ARZ (And.intro @aA (And.intro @AGF (And.intro @A5W (And.intro @WR (And.intro @yW (@jM.{0,0})))))))))))))))))))))))))))))))))))))))))))))))))))))))))))))))))))))))))))))))))))))))))))))))))))))))))))))))))))))))))))))))))))))))))))))))))))))))))))))))))))))))))))))))))))))))))))))))))))))))):=And.intro @AU (And.intro @jD.{0} (And.intro @BC (And.intro @BB (And.intro @jE (And.intro @BN (And.intro @BP (And.intro @BI (And.intro @BF (And.intro @BQ (And.intro @BK (And.intro @CB (And.intro @BL (And.intro @Y (And.intro @enP (And.intro @CE (And.intro @BO (And.intro @CO (And.intro @CV (And.intro @DJ (And.intro @D9 (And.intro @BZ (And.intro @DW (And.intro @EW (And.intro @EQ (And.intro @MR (And.intro @DY (And.intro @BV (And.intro @jL.{0,0} (And.intro @jK.{0,0} (And.intro @jP.{0} (And.intro @ED (And.intro @CJ (And.intro @DX (And.intro @D6 (And.intro @EU (And.intro @DI (And.intro @BR (And.intro @LC (And.intro @GH (And.intro @jH (And.intro @BX (And.intro @I7 (And.intro @EN (And.intro @IR (And.intro @KQ (And.intro @AO (And.intro @L9 (And.intro @IE (And.intro @IC (And.intro @FY (And.intro @PD (And.intro @kB (And.intro @IL (And.intro @TT (And.intro @YN (And.intro @zD (And.intro @eT (And.intro @JW (And.intro @sU (And.intro @KL (And.intro @FO (And.intro @jQ.{0} (And.intro @DK (And.intro @enX (And.intro @CQ (And.intro @MM (And.intro @G6 (And.intro @G9 (And.intro @JS (And.intro @SL (And.intro @ACC (And.intro @FU (And.intro @DU (And.intro @GN (And.intro @qB (And.intro @AA1 (And.intro @JK (And.intro @eS (And.intro @I5 (And.intro @YU (And.intro @JM (And.intro @II (And.intro @qV (And.intro @WV (And.intro @JU (And.intro @EG (And.intro @JL (And.intro @F7 (And.intro @qU (And.intro @P8 (And.intro @LY (And.intro @A5V (And.intro @E8 (And.intro @ML (And.intro @dH (And.intro @KA (And.intro @TD (And.intro @ES (And.intro @J6 (And.intro @wE.{0} (And.intro @OD (And.intro @wP.{0} (And.intro @oJ (And.intro @OM (And.intro @AXV (And.intro @eP (And.intro @YG (And.intro @NZ (And.intro @MX (And.intro @QU (And.intro @O4 (And.intro @NU (And.intro @PX (And.intro @PY (And.intro @XM (And.intro @gX (And.intro @LM (And.intro @OJ (And.intro @bH (And.intro @U2 (And.intro @AR1 (And.intro @oC (And.intro @PQ (And.intro @xI (And.intro @U1 (And.intro @fN (And.intro @qJ.{0} (And.intro @ZI (And.intro @LJ (And.intro @VG (And.intro @QD (And.intro @XG (And.intro @yR (And.intro @RX (And.intro @AR0 (And.intro @QR (And.intro @rM (And.intro @QE (And.intro @fM (And.intro @KW (And.intro @bE (And.intro @ATP (And.intro @APN (And.intro @pW (And.intro @YH (And.intro @A5X (And.intro @UN (And.intro @dL (And.intro @UD (And.intro @AXW (And.intro @ARV (And.intro @eO (And.intro @fL (And.intro @xJ (And.intro @TQ (And.intro @U6 (And.intro @bI (And.intro @A20 (And.intro @fY (And.intro @ZB (And.intro @AH2 (And.intro @lN (And.intro @UM (And.intro @AVM (And.intro @ZE (And.intro @ZC (And.intro @QV (And.intro @AH3 (And.intro @yP (And.intro @yQ (And.intro @AKV (And.intro @AJB (And.intro @AI9 (And.intro @xE (And.intro @fZ (And.intro @dV (And.intro @yV (And.intro @A0Z (And.intro @AF9 (And.intro @yO (And.intro @A0A (And.intro @AN1 (And.intro @iO (And.intro @AVW (And.intro @ATF (And.intro @ln9 (And.intro @lI (And.intro @AHK (And.intro @VW (And.intro @nZ (And.intro @ATG (And.intro @cJ (And.intro @ARZ (And.intro @aA (And.intro @AGF (And.intro @A5W (And.intro @WR (And.intro @yW (@jM.{0,0})))))))))))))))))))))))))))))))))))))))))))))))))))))))))))))))))))))))))))))))))))))))))))))))))))))))))))))))))))))))))))))))))))))))))))))))))))))))))))))))))))))))))))))))))))))))))))))))))))))))
theorem acN {args:List AV}{R:AV->Hp->Prop}(hf:E.P.funcs[f]?=some fn)(hb:fn.body=some c)(hw:awp E Hint.none c (OB args) h (MJ E.P fn.results.toList R))(h0:E.P.follows .mixedOrders=true:=by kernel_rfl)(h1:(fn.name == "runtime.NumGoroutine")=false:=by kernel_rfl)(h2:RH fn.ntmps c=true:=by kernel_rfl)(h3:Nat.ble args.length fn.ntmps=true:=by kernel_rfl):ACalls E f args h R:=JE h0 hf hb h1 h2 (Nat.le_of_ble_eq_true h3) hw
theorem acT {args:List AV}{R:AV->Hp->Prop}(hf:E.P.funcs[f]?=some fn)(r:Nat)(hw:awp E Hint.none c (OB args) h (MJ E.P [.tmp r] R))(hb:fn.body=some c:=by rfl)(hr:fn.results.toList=[.tmp r]:=by rfl)(h0:E.P.follows .mixedOrders=true:=by kernel_rfl)(h1:(fn.name == "runtime.NumGoroutine")=false:=by kernel_rfl)(h2:RH fn.ntmps c=true:=by kernel_rfl)(h3:Nat.ble args.length fn.ntmps=true:=by kernel_rfl):ACalls E f args h R:=acN hf hb (by rw[hr]; exact hw) h0 h1 h2 h3
theorem acL {args:List AV}{R:AV->Hp->Prop}(hf:E.P.funcs[f]?=some fn)(r:List ResultVar)(hw:awp E Hint.none c (OB args) h (MJ E.P r R))(hb:fn.body=some c:=by rfl)(hr:fn.results.toList=r:=by rfl)(h0:E.P.follows .mixedOrders=true:=by kernel_rfl)(h1:(fn.name == "runtime.NumGoroutine")=false:=by kernel_rfl)(h2:RH fn.ntmps c=true:=by kernel_rfl)(h3:Nat.ble args.length fn.ntmps=true:=by kernel_rfl):ACalls E f args h R:=acN hf hb (by rw[hr]; exact hw) h0 h1 h2 h3
end Go.Proofs.YtiihpnicbekebaaGreatDoor.Sm
namespace Go.Proofs.YtiihpnicbekebaaGreatDoor
open Sm
variable {a b c d p q:Prop}
theorem CZ (i:Nat)(h:i<9223372036854775807:=by omega):Go.IntKind.i64.wrap ((i:Int)+1)=((i+1:Nat):Int):=Sm.wrap_succ h
theorem AA (hp:p)(h:p->q:=by intro z; simp only[Sm.Mr_L,CG,EI,List.contains_nil,FV,List.contains_cons,List.cons_append,Option.map_some,Option.map_none,Bool.or_true,Bool.true_or,↓reduceIte,Nat.reduceEqDiff,Nat.reduceBEq,Nat.reduceAdd]; exact z):q:=h hp
theorem AL (h:q:=by simp only[Sm.Mr_L,CG,EI,List.contains_nil,FV,List.contains_cons,List.cons_append,Option.map_some,Option.map_none,Bool.or_true,Bool.true_or,↓reduceIte,Nat.reduceEqDiff,Nat.reduceBEq,Nat.reduceAdd]<;>rfl):q:=h
theorem AY (y:a)(hp:p)(h:a->p->q:=by intro y z; simp only[Sm.Mr_L,CG,EI,List.contains_nil,FV,List.contains_cons,List.cons_append,Option.map_some,Option.map_none,Bool.or_true,Bool.true_or,↓reduceIte,Nat.reduceEqDiff,Nat.reduceBEq,Nat.reduceAdd,y]; exact z):q:=h y hp
theorem EE (y:a)(h:a->q:=by intro y; simp only[Sm.Mr_L,CG,EI,List.contains_nil,FV,List.contains_cons,List.cons_append,Option.map_some,Option.map_none,Bool.or_true,Bool.true_or,↓reduceIte,Nat.reduceEqDiff,Nat.reduceBEq,Nat.reduceAdd,y]<;>rfl):q:=h y
theorem A8 (y:a)(x:b)(hp:p)(h:a->b->p->q:=by intro y x z; simp only[Sm.Mr_L,CG,EI,List.contains_nil,FV,List.contains_cons,List.cons_append,Option.map_some,Option.map_none,Bool.or_true,Bool.true_or,↓reduceIte,Nat.reduceEqDiff,Nat.reduceBEq,Nat.reduceAdd,y,x]; exact z):q:=h y x hp
theorem DL (y:a)(x:b)(w:c)(hp:p)(h:a->b->c->p->q:=by intro y x w z; simp only[Sm.Mr_L,CG,EI,List.contains_nil,FV,List.contains_cons,List.cons_append,Option.map_some,Option.map_none,Bool.or_true,Bool.true_or,↓reduceIte,Nat.reduceEqDiff,Nat.reduceBEq,Nat.reduceAdd,y,x,w]; exact z):q:=h y x w hp
theorem EM (y:a)(x:b)(w:c)(v:d)(hp:p)(h:a->b->c->d->p->q:=by intro y x w v z; simp only[Sm.Mr_L,CG,EI,List.contains_nil,FV,List.contains_cons,List.cons_append,Option.map_some,Option.map_none,Bool.or_true,Bool.true_or,↓reduceIte,Nat.reduceEqDiff,Nat.reduceBEq,Nat.reduceAdd,y,x,w,v]; exact z):q:=h y x w v hp
theorem JG {e:Prop}(y:a)(x:b)(w:c)(v:d)(u:e)(hp:p)(h:a->b->c->d->e->p->q:=by intro y x w v u z; simp only[Sm.Mr_L,CG,EI,List.contains_nil,FV,List.contains_cons,List.cons_append,Option.map_some,Option.map_none,Bool.or_true,Bool.true_or,↓reduceIte,Nat.reduceEqDiff,Nat.reduceBEq,Nat.reduceAdd,y,x,w,v,u]; exact z):q:=h y x w v u hp
theorem NY {e f:Prop}(y:a)(x:b)(w:c)(v:d)(u:e)(t:f)(hp:p)(h:a->b->c->d->e->f->p->q:=by intro y x w v u t z; simp only[Sm.Mr_L,CG,EI,List.contains_nil,FV,List.contains_cons,List.cons_append,Option.map_some,Option.map_none,Bool.or_true,Bool.true_or,↓reduceIte,Nat.reduceEqDiff,Nat.reduceBEq,Nat.reduceAdd,y,x,w,v,u,t]; exact z):q:=h y x w v u t hp
theorem Sm.ext.r1 (h:Hp)(x:ABlk):Sm.ext h (h++[x]):=(ext.rfl' h).app _
theorem Sm.PCall.uu {E:Env}{f:FuncId}{args:List AV}{h:Hp}{r:AV}{K:AV->Hp->Prop}(hc:PCall E f args h r)(hp:p)(hk:p->K r h:=by intro z; simp only[Sm.Mr_L,CG,EI,List.contains_nil,FV,List.contains_cons,List.cons_append,Option.map_some,Option.map_none,Bool.or_true,Bool.true_or,↓reduceIte,Nat.reduceEqDiff,Nat.reduceBEq,Nat.reduceAdd]; exact z):ACalls E f args h K:=hc.use (hk hp)
end Go.Proofs.YtiihpnicbekebaaGreatDoor
namespace Go.Proofs.YtiihpnicbekebaaGreatDoor
open Sm
variable {a a1 b b1 c c1 d e f p q:Prop}
theorem YT (hp:p)(h:p->q:=by intro z; simp only[Sm.Mr_L,CG,EI,List.contains_nil,FV,List.contains_cons,List.cons_append,Option.map_some,Option.map_none,Bool.or_true,Bool.true_or,CX,CU,D5,ag3,ag9,P6,RQ,XJ,LH,List.length_nil,↓reduceIte,Nat.reduceEqDiff,Nat.reduceBEq,Nat.reduceAdd,Int.reduceBEq]; exact z):q:=h hp
theorem aK (y:a)(hp:p)(h:a->p->q:=by intro y z; simp only[Sm.Mr_L,CG,EI,List.contains_nil,FV,List.contains_cons,List.cons_append,Option.map_some,Option.map_none,Bool.or_true,Bool.true_or,CX,CU,D5,ag3,ag9,P6,RQ,XJ,LH,List.length_nil,↓reduceIte,Nat.reduceEqDiff,Nat.reduceBEq,Nat.reduceAdd,Int.reduceBEq,y]; exact z):q:=h y hp
theorem O3 (y:a)(x:b)(hp:p)(h:a->b->p->q:=by intro y x z; simp only[Sm.Mr_L,CG,EI,List.contains_nil,FV,List.contains_cons,List.cons_append,Option.map_some,Option.map_none,Bool.or_true,Bool.true_or,CX,CU,D5,ag3,ag9,P6,RQ,XJ,LH,List.length_nil,↓reduceIte,Nat.reduceEqDiff,Nat.reduceBEq,Nat.reduceAdd,Int.reduceBEq,y,x]; exact z):q:=h y x hp
theorem MB (y:a)(x:b)(w:c)(hp:p)(h:a->b->c->p->q:=by intro y x w z; simp only[Sm.Mr_L,CG,EI,List.contains_nil,FV,List.contains_cons,List.cons_append,Option.map_some,Option.map_none,Bool.or_true,Bool.true_or,CX,CU,D5,ag3,ag9,P6,RQ,XJ,LH,List.length_nil,↓reduceIte,Nat.reduceEqDiff,Nat.reduceBEq,Nat.reduceAdd,Int.reduceBEq,y,x,w]; exact z):q:=h y x w hp
theorem P7 (y:a)(x:b)(w:c)(v:d)(hp:p)(h:a->b->c->d->p->q:=by intro y x w v z; simp only[Sm.Mr_L,CG,EI,List.contains_nil,FV,List.contains_cons,List.cons_append,Option.map_some,Option.map_none,Bool.or_true,Bool.true_or,CX,CU,D5,ag3,ag9,P6,RQ,XJ,LH,List.length_nil,↓reduceIte,Nat.reduceEqDiff,Nat.reduceBEq,Nat.reduceAdd,Int.reduceBEq,y,x,w,v]; exact z):q:=h y x w v hp
theorem aJ (y:a)(x:b)(w:c)(v:d)(u:e)(hp:p)(h:a->b->c->d->e->p->q:=by intro y x w v u z; simp only[Sm.Mr_L,CG,EI,List.contains_nil,FV,List.contains_cons,List.cons_append,Option.map_some,Option.map_none,Bool.or_true,Bool.true_or,CX,CU,D5,ag3,ag9,P6,RQ,XJ,LH,List.length_nil,↓reduceIte,Nat.reduceEqDiff,Nat.reduceBEq,Nat.reduceAdd,Int.reduceBEq,y,x,w,v,u]; exact z):q:=h y x w v u hp
theorem aI (y:a)(x:b)(w:c)(v:d)(u:e)(t:f)(hp:p)(h:a->b->c->d->e->f->p->q:=by intro y x w v u t z; simp only[Sm.Mr_L,CG,EI,List.contains_nil,FV,List.contains_cons,List.cons_append,Option.map_some,Option.map_none,Bool.or_true,Bool.true_or,CX,CU,D5,ag3,ag9,P6,RQ,XJ,LH,List.length_nil,↓reduceIte,Nat.reduceEqDiff,Nat.reduceBEq,Nat.reduceAdd,Int.reduceBEq,y,x,w,v,u,t]; exact z):q:=h y x w v u t hp
theorem NW (y:a)(x:b)(w:c)(v:d)(u:e)(t:f)(s:a1)(hp:p)(h:a->b->c->d->e->f->a1->p->q:=by intro y x w v u t s z; simp only[Sm.Mr_L,CG,EI,List.contains_nil,FV,List.contains_cons,List.cons_append,Option.map_some,Option.map_none,Bool.or_true,Bool.true_or,CX,CU,D5,ag3,ag9,P6,RQ,XJ,LH,List.length_nil,↓reduceIte,Nat.reduceEqDiff,Nat.reduceBEq,Nat.reduceAdd,Int.reduceBEq,y,x,w,v,u,t,s]; exact z):q:=h y x w v u t s hp
theorem TW (y:a)(x:b)(w:c)(v:d)(u:e)(t:f)(s:a1)(r:b1)(hp:p)(h:a->b->c->d->e->f->a1->b1->p->q:=by intro y x w v u t s r z; simp only[Sm.Mr_L,CG,EI,List.contains_nil,FV,List.contains_cons,List.cons_append,Option.map_some,Option.map_none,Bool.or_true,Bool.true_or,CX,CU,D5,ag3,ag9,P6,RQ,XJ,LH,List.length_nil,↓reduceIte,Nat.reduceEqDiff,Nat.reduceBEq,Nat.reduceAdd,Int.reduceBEq,y,x,w,v,u,t,s,r]; exact z):q:=h y x w v u t s r hp
theorem YS (y:a)(x:b)(w:c)(v:d)(u:e)(t:f)(s:a1)(r:b1)(o:c1)(hp:p)(h:a->b->c->d->e->f->a1->b1->c1->p->q:=by intro y x w v u t s r o z; simp only[Sm.Mr_L,CG,EI,List.contains_nil,FV,List.contains_cons,List.cons_append,Option.map_some,Option.map_none,Bool.or_true,Bool.true_or,CX,CU,D5,ag3,ag9,P6,RQ,XJ,LH,List.length_nil,↓reduceIte,Nat.reduceEqDiff,Nat.reduceBEq,Nat.reduceAdd,Int.reduceBEq,y,x,w,v,u,t,s,r,o]; exact z):q:=h y x w v u t s r o hp
theorem cC {d1:Prop}(y:a)(x:b)(w:c)(v:d)(u:e)(t:f)(s:a1)(r:b1)(o:c1)(n:d1)(hp:p)(h:a->b->c->d->e->f->a1->b1->c1->d1->p->q:=by intro y x w v u t s r o n z; simp only[Sm.Mr_L,CG,EI,List.contains_nil,FV,List.contains_cons,List.cons_append,Option.map_some,Option.map_none,Bool.or_true,Bool.true_or,CX,CU,D5,ag3,ag9,P6,RQ,XJ,LH,List.length_nil,↓reduceIte,Nat.reduceEqDiff,Nat.reduceBEq,Nat.reduceAdd,Int.reduceBEq,y,x,w,v,u,t,s,r,o,n]; exact z):q:=h y x w v u t s r o n hp
theorem cB {d1 e1:Prop}(y:a)(x:b)(w:c)(v:d)(u:e)(t:f)(s:a1)(r:b1)(o:c1)(n:d1)(m:e1)(hp:p)(h:a->b->c->d->e->f->a1->b1->c1->d1->e1->p->q:=by intro y x w v u t s r o n m z; simp only[Sm.Mr_L,CG,EI,List.contains_nil,FV,List.contains_cons,List.cons_append,Option.map_some,Option.map_none,Bool.or_true,Bool.true_or,CX,CU,D5,ag3,ag9,P6,RQ,XJ,LH,List.length_nil,↓reduceIte,Nat.reduceEqDiff,Nat.reduceBEq,Nat.reduceAdd,Int.reduceBEq,y,x,w,v,u,t,s,r,o,n,m]; exact z):q:=h y x w v u t s r o n m hp
theorem EK (h:q:=by first|(simp only[Sm.Mr_L,CG,EI,List.contains_nil,FV,List.contains_cons,List.cons_append,Option.map_some,Option.map_none,Bool.or_true,Bool.true_or,CX,CU,D5,ag3,ag9,P6,RQ,XJ,LH,List.length_nil,↓reduceIte,Nat.reduceEqDiff,Nat.reduceBEq,Nat.reduceAdd,Int.reduceBEq]; done)|(simp only[Sm.Mr_L,CG,EI,List.contains_nil,FV,List.contains_cons,List.cons_append,Option.map_some,Option.map_none,Bool.or_true,Bool.true_or,CX,CU,D5,ag3,ag9,P6,RQ,XJ,LH,List.length_nil,↓reduceIte,Nat.reduceEqDiff,Nat.reduceBEq,Nat.reduceAdd,Int.reduceBEq]; rfl)):q:=h
theorem LX (y:a)(h:a->q:=by intro y; first|(simp only[Sm.Mr_L,CG,EI,List.contains_nil,FV,List.contains_cons,List.cons_append,Option.map_some,Option.map_none,Bool.or_true,Bool.true_or,CX,CU,D5,ag3,ag9,P6,RQ,XJ,LH,List.length_nil,↓reduceIte,Nat.reduceEqDiff,Nat.reduceBEq,Nat.reduceAdd,Int.reduceBEq,y]; done)|(simp only[Sm.Mr_L,CG,EI,List.contains_nil,FV,List.contains_cons,List.cons_append,Option.map_some,Option.map_none,Bool.or_true,Bool.true_or,CX,CU,D5,ag3,ag9,P6,RQ,XJ,LH,List.length_nil,↓reduceIte,Nat.reduceEqDiff,Nat.reduceBEq,Nat.reduceAdd,Int.reduceBEq,y]; rfl)):q:=h y
theorem D8 {E:Env}{H:Hint}{x y:Code}{F:Fr}{h:Hp}{Q:AEx->Fr->Hp->Prop}{a b:Nat}(h1:a<b->awp E H x F h Q)(h2:¬a<b->awp E H y F h Q):jN E H x y F h Q (.bool (decide (((a:Nat):Int)<((b:Nat):Int)))):=BM (fun h=>h1 (by simpa using h)) (fun h=>h2 (by simpa using h))
end Go.Proofs.YtiihpnicbekebaaGreatDoor
namespace Go.Proofs.YtiihpnicbekebaaGreatDoor.Bins
open Sm
structure Rng where
 lo:Int
 hi:Int
 deriving DecidableEq
def encR (r:Rng):List AV:=[.n r.lo,.n r.hi]
theorem YI (r:Rng):(encR r).length=2:=rfl
theorem aE (r:Rng):(encR r)[0]?=some (.n r.lo):=rfl
theorem YJ (r:Rng):(encR r)[1]?=some (.n r.hi):=rfl
def inside (xs:List Rng)(v:Int):Bool:=xs.any fun r=>decide (r.lo<=v)&&decide (v<=r.hi)
theorem TU {α:Type}(p:α->Bool)(xs:List α)(k:Nat)(h:k<xs.length):(xs.drop k).any p=(p xs[k]||(xs.drop (k+1)).any p):=by
 rw[List.drop_eq_getElem_cons h,List.any_cons]
theorem bxR (h:Hp)(r:Rng):MS h (.agg (encR r))=some (.ptr h.length 0 0,h++[yK 2 [encR r]]):=rfl
end Go.Proofs.YtiihpnicbekebaaGreatDoor.Bins
namespace Go.Proofs.YtiihpnicbekebaaGreatDoor.Bins
open Sm
variable {xs:List Rng} {s:ByteArray} (G:Nat->AV )
def bad (r:Rng):Bool:=decide (r.lo<0)||decide (r.lo>r.hi)||decide (r.hi>65535)
def JC (xs:List Rng):Int:=if xs.length>64 then 2 else if xs.any bad then 1 else 0
theorem ACJ (h:xs.length>64):JC xs=2:=by simp [JC,h]
theorem ACK (h:¬xs.length>64)(hb:xs.any bad=true):JC xs=1:=by simp [JC,h,hb]
theorem AG0 (h:¬xs.length>64)(hb:xs.any bad=false):JC xs=0:=by simp [JC,h,hb]
theorem API (h:Hp):GU jA h 145=some (.ptr h.length 0 0,h++[yK 2 [[.n 0,.n 0]]]):=FI (row:=[.n 0,.n 0]) A7
theorem AMK (h:Hp)(r:Rng)(row:List AV)(hr:row.length=2):DT jA (h++[yK 2 [row]]) 145 (.ptr h.length 0 0) (.agg (encR r))=some (h++[yK 2 [encR r]]):=by
 rw[SE (cs:=encR r) rfl LZ (by simp [hr,encR])];simp [splice,hr,encR]
theorem ACH (xs:List Rng)(m:SM)(h:Hp)(hl:xs.length<=1099511627776):
  PCall (En G) 242 [.sl m 2 (xs.map encR)] h (.n (JC xs)):=by
 refine ACalls.pure0 rfl ?_;refine acT Tryz.func242 2 ?_;refine AA ?_;refine BM ?_ ?_<;>intro hc
 .refine AA ?_
  exact⟨by rw[ACJ (by simp at hc; omega)],[],AZ⟩
 refine AA ?_;have h64:¬xs.length>64:=by simp at hc; omega
 refine BJ (fun n F H=>∃k,n+k=xs.length∧F 8=.sl m 2 (xs.map encR)∧F 9=.n xs.length∧F 10=.n (k:Nat)∧(∃x,H=h++x)∧xs.any bad=(xs.drop k).any bad) xs.length ⟨0,AZ,rfl,rfl,rfl,⟨[],AZ⟩,rfl⟩ ?_;rintro n F H ⟨k,hk,f8,f9,f10,⟨x,rfl⟩,hin⟩;refine DL f8 f9 f10 ?_;refine D8 ?_ ?_<;>intro hc'
 .have hs:=TU bad xs k hc'
  simp only[vQ,EI,CG,↓reduceIte,jC,Nat.add_zero,enP,dL,ZC,Option.getD_none,f8,f9,f10,CX hc',DC eI LZ YI hc',API,AMK _ _ [.n 0,.n 0] rfl,D5 ag3,aE,YJ];rw[hs] at hin;have fin:bad xs[k]=true->JC xs=1:=fun hb=>ACK h64 (by rw[hin,hb]; rfl)
  have nxt:bad xs[k]=false->xs.any bad=(xs.drop (k+1)).any bad:=fun hb=>by rw[hin,hb]; rfl
  refine IW ?_ ?_<;>intro ha
  .refine AY ha ?_
   exact⟨by rw[fin (by unfold bad; rw[ha]; rfl)],_,by rw[zK]⟩
  refine MB ha @aE @YJ ?_;refine IW ?_ ?_<;>intro hb
  .refine AY hb ?_
   exact⟨by rw[fin (by unfold bad; rw[hb]; simp)],_,by rw[zK]⟩
  refine MB hb @aE @YJ ?_;refine BM ?_ ?_<;>intro hc
  .refine AA ?_
   exact⟨by rw[fin (by unfold bad; rw[hc]; simp)],_,by rw[zK]⟩
  .refine A8 f10 (CZ k) ?_
   exact⟨n-1,U,k+1,U,f8,f9,rfl,⟨_,by rw[zK]⟩,nxt (by unfold bad; rw[ha,hb,hc]; rfl)⟩
 .refine AA ?_
  rw[zM U] at hin;exact⟨by rw[AG0 h64 hin],_,rfl⟩
structure Rs where
 m:SM
 l:List Rng
def ATR (r:Rs):AV:=.sl r.m 2 (r.l.map encR)
def encS (r:Rs):List AV:=[ATR r]
structure Bin where
 name:ByteArray
 kind:Int
 ranges:Rs
 sm:SM
 steps:List Rs
def F6 (b:Bin):List AV:=[.str b.name,.n b.kind,ATR b.ranges,.sl b.sm 1 (b.steps.map encS)]
theorem A1H (b:Bin):(F6 b)[0]?=some (.str b.name):=rfl
theorem aG (b:Bin):(F6 b)[1]?=some (.n b.kind):=rfl
theorem uH (b:Bin):(F6 b)[2]?=some (.sl b.ranges.m 2 (b.ranges.l.map encR)):=rfl
theorem ALK (b:Bin):(F6 b)[3]?=some (.sl b.sm 1 (b.steps.map encS)):=rfl
theorem KZ (b:Bin):(F6 b).length=4:=rfl
theorem AEM (r:Rs):(encS r)[0]?=some (.sl r.m 2 (r.l.map encR)):=rfl
theorem bxB (h:Hp)(b:Bin):MS h (.agg (F6 b))=some (.ptr h.length 0 0,h++[yK 4 [F6 b]]):=rfl
theorem ldB (h:Hp)(b:Bin):BH jA (h++[yK 4 [F6 b]]) 87 (.ptr h.length 0 0)=some (.agg (F6 b)):=Y8 kZ aP (by simp [F6])
def sP (b:Bin):SM:=if b.ranges.l.length>0 then .full else b.sm
def sets (b:Bin):List Rs:=if b.ranges.l.length>0 then [b.ranges] else b.steps
theorem BAH (h:Hp)(r:Rs):C9 jA false h 85 1 [(0,.sl r.m 2 (r.l.map encR))]=some (.sl .full 1 ([r].map encS),h):=by
 have:(ZZ 1 0 [(0,AV.sl r.m 2 (r.l.map encR))])=some [[.sl r.m 2 (r.l.map encR)]]:=rfl;simp only[C9,Tryz.underlying85,A4W,this];have hz:SK jA 84=some 1:=A7;simp [hz,AV.frozen,encS,ATR]
theorem sO (b:Bin)(h:Hp):PCall (En G) 241 [.agg (F6 b)] h (.sl (sP b) 1 ((sets b).map encS)):=by
 refine ACalls.pure0 rfl ?_;refine acT Tryz.func241 2 ?_;refine O3 @bxB @uH ?_;refine BM ?_ ?_<;>intro hc
 .have hc':b.ranges.l.length>0:=BG hc
  refine O3 @uH BAH ?_;exact⟨by rw[sP,sets,if_pos hc',if_pos hc']; rfl,_,rfl⟩
 .have hc':¬b.ranges.l.length>0:=BG hc
  refine aK @ALK ?_;exact⟨by rw[sP,sets,if_neg hc',if_neg hc'],_,rfl⟩
theorem A5N (m:SM)(k:Nat)(xs:List (List AV)):IQ jA 84 .eql (.sl m k xs) (.sl .nil 0 [])=some (.bool (decide (m=.nil))):=by cases m<;>kernel_rfl
theorem A5M (m:SM)(k:Nat)(xs:List (List AV)):IQ jA 32 .eql (.sl m k xs) (.sl .nil 0 [])=some (.bool (decide (m=.nil))):=by cases m<;>kernel_rfl
def AIG (k:Nat)(xs:List (List AV))(h:Hp)(v:AV)(h':Hp):Prop :=
 (xs=[]∧(∃k0,v=.sl .nil k0 [])∧h'=h)∨(xs=[]∧v=.sl .full k []∧h'=h)∨(xs≠[]∧v=.own h.length 0 xs.length∧h'=h++[yK k xs])
theorem A34 (h:Hp):C9 jA false h 84 0 []=some (.sl .full 2 [],h):=A7
theorem AIN (h:Hp):C9 jA false h 32 0 []=some (.sl .full 1 [],h):=A7
theorem cok (f:FuncId)(G:Nat->AV)(hf:(match Tryz.prog.funcs[f]? with|some fn=>fn.body.isSome && !(fn.name == "runtime.NumGoroutine")|none=>false)=true):cG (En G).P f:=by
 have he:(En G).P=jA:=rfl;unfold cG;rw[he]
 cases hx:Tryz.prog.funcs[f]? with
 | none=>rw[hx] at hf; cases hf
 | some fn =>
   rw[hx] at hf;simp at hf;exact⟨fn,rfl,by simpa using hf.1,by simpa using hf.2⟩
def qencI (n:Int):List AV:=[.n n]
theorem encI0 (n:Int):(qencI n)[0]?=some (.n n):=rfl
theorem ATY (r:Rs)(h:Hp):PCall (En G) 291 [.sl r.m 2 (r.l.map encR)] h (.bool (decide (r.l.length=0))):=by
 refine acT Tryz.func291 2 ?_;refine AA ?_;refine⟨?_,trivial⟩;congr 1;rw[qY]; simp
theorem ADR (G:Nat->AV)(xs:List Rs)(m:SM)(fid:FuncId)(caps:List AV)(p:Rs->Bool)(h:Hp)(hl:xs.length<=1099511627776)
  (hf:∀r,PCall (En G) fid (.sl r.m 2 (r.l.map encR)::caps) h (.bool (p r))) :
  PCall (En G) 325 [.sl m 1 (xs.map encS),.fn (.func fid) [] caps] h (.n (match xs.findIdx? p with|some i=>(i:Int)|none => -1)):=by
 refine acT Tryz.func325 4 ?_;refine AA ?_;refine BJ (fun n F H=>∃k,n+k=xs.length∧F 0=.sl m 1 (xs.map encS)∧F 1=.fn (.func fid) [] caps∧F 7=.n xs.length∧F 8=.n (k:Nat)∧H=h∧(xs.take k).all (fun r => !p r)=true) xs.length ⟨0,AZ,rfl,rfl,rfl,rfl,rfl,rfl⟩ ?_;rintro n F H ⟨k,hk,f0,f1,f7,f8,rfl,hin⟩;refine EM f0 f1 f7 f8 ?_;refine D8 ?_ ?_<;>intro hc'
 .simp only[vQ,CG,List.nil_append,List.cons_append,↓reduceIte,jC,enP,AHK,f0,f1,f7,f8,CX hc',CU RQ hc',AEM]
  refine(hf _).uu ?_;refine BM ?_ ?_<;>intro hb
  .refine AA ?_
   refine⟨?_,trivial⟩
   rw[wR.2 ⟨hc',hb,fun j hj=>by
    rw[zL] at hin;have:=hin xs[j] (by rw[List.mem_take_iff_getElem]; exact⟨j,U,rfl⟩)
    simpa using this⟩]
  .refine A8 f8 (CZ k) ?_
   refine⟨n-1,U,k+1,U,f0,f1,f7,rfl,trivial,?_⟩;rw[jU hc',yI,hin];simp only[wK,yJ,hb]; rfl
 .refine AA ?_
  refine⟨?_,trivial⟩;rw[jJ U] at hin;rw[wS.2 (BG hin)]
theorem oV (G:Nat->AV)(xs:List Rs)(m:SM)(fid:FuncId)(caps:List AV)(p:Rs->Bool)(h:Hp)(hl:xs.length<=1099511627776)
  (hf:∀r,PCall (En G) fid (.sl r.m 2 (r.l.map encR)::caps) h (.bool (p r))) :
  PCall (En G) 290 [.sl m 1 (xs.map encS),.fn (.func fid) [] caps] h (.bool (xs.any p)):=by
 refine acT Tryz.func290 4 ?_;refine AA ?_;refine(ADR G xs m fid caps p h hl hf).uu ?_;refine⟨?_,trivial⟩
 cases hx:xs.findIdx? p with
 | some i =>
   obtain⟨h1,h2,_⟩:=wR.1 hx;have:xs.any p=true:=qL.2 ⟨xs[i],AZ,h2⟩;simp [this]
 | none =>
   have:xs.any p=false:=by
    rw[wS] at hx;rw[qM]; intro x hx2; simp [hx x hx2]
   simp [this]
def UB (n:Int):Bool:=decide (n≥97)&&decide (n<=122)
def AEU (n:Int):Bool:=decide (n≥48)&&decide (n<=57)
def OY (n:Int):Bool:=UB n||AEU n||(decide (n≥65)&&decide (n<=90))||n==95
theorem nG (n:Int)(h:Hp):PCall (En G) 217 [.int .i32 n] h (.bool (UB n)):=by
 refine acT Tryz.func217 2 ?_;refine AA ?_;refine IW ?_ ?_<;>intro ha
 .refine AY ha ?_
  exact⟨by unfold UB; rw[ha]; rfl,trivial⟩
 .refine AY ha ?_
  exact⟨by unfold UB; rw[ha]; rfl,trivial⟩
theorem AH9 (n:Int)(h:Hp):PCall (En G) 278 [.int .i32 n] h (.bool (AEU n)):=by
 refine acT Tryz.func278 2 ?_;refine AA ?_;refine IW ?_ ?_<;>intro ha
 .refine AY ha ?_
  exact⟨by unfold AEU; rw[ha]; rfl,trivial⟩
 .refine AY ha ?_
  exact⟨by unfold AEU; rw[ha]; rfl,trivial⟩
theorem sN (n:Int)(h:Hp):PCall (En G) 130 [.int .u8 n] h (.bool (UB n)):=by
 refine acT Tryz.func130 2 ?_;refine AA ?_;refine IW ?_ ?_<;>intro ha
 .refine AY ha ?_
  exact⟨by unfold UB; rw[ha]; rfl,trivial⟩
 .refine AY ha ?_
  exact⟨by unfold UB; rw[ha]; rfl,trivial⟩
theorem AOY (n:Int)(h:Hp):PCall (En G) 222 [.int .u8 n] h (.bool (AEU n)):=by
 refine acT Tryz.func222 2 ?_;refine AA ?_;refine IW ?_ ?_<;>intro ha
 .refine AY ha ?_
  exact⟨by unfold AEU; rw[ha]; rfl,trivial⟩
 .refine AY ha ?_
  exact⟨by unfold AEU; rw[ha]; rfl,trivial⟩
theorem dQ (n:Int)(h:Hp):PCall (En G) 218 [.int .i32 n] h (.bool (OY n)):=by
 refine acT Tryz.func218 2 ?_;refine AA ?_;refine(nG G n h).uu ?_;refine IW ?_ ?_<;>intro ha
 .refine AY ha ?_
  exact⟨by unfold OY; rw[ha]; rfl,trivial⟩
 refine AY ha ?_;refine(AH9 G n h).uu ?_;refine IW ?_ ?_<;>intro hb
 .refine AY hb ?_
  exact⟨by unfold OY; rw[ha,hb]; rfl,trivial⟩
 refine AY hb ?_;refine IW ?_ ?_<;>intro hc
 .refine AY hc ?_
  refine IW ?_ ?_<;>intro hd
  .refine AY hd ?_
   exact⟨by unfold OY; rw[ha,hb,hc,hd]; rfl,trivial⟩
  .refine AY hd ?_
   exact⟨by unfold OY; rw[ha,hb,hc,hd]; rfl,trivial⟩
 .refine AY hc ?_
  exact⟨by unfold OY; rw[ha,hb,hc]; rfl,trivial⟩
theorem AN7 (n:Int)(h:Hp):PCall (En G) 132 [.int .u8 n] h (.bool (OY n)):=by
 refine acT Tryz.func132 2 ?_;refine AA ?_;refine(sN G n h).uu ?_;refine IW ?_ ?_<;>intro ha
 .refine AY ha ?_
  exact⟨by unfold OY; rw[ha]; rfl,trivial⟩
 refine AY ha ?_;refine(AOY G n h).uu ?_;refine IW ?_ ?_<;>intro hb
 .refine AY hb ?_
  exact⟨by unfold OY; rw[ha,hb]; rfl,trivial⟩
 refine AY hb ?_;refine IW ?_ ?_<;>intro hc
 .refine AY hc ?_
  refine IW ?_ ?_<;>intro hd
  .refine AY hd ?_
   exact⟨by unfold OY; rw[ha,hb,hc,hd]; rfl,trivial⟩
  .refine AY hd ?_
   exact⟨by unfold OY; rw[ha,hb,hc,hd]; rfl,trivial⟩
 .refine AY hc ?_
  exact⟨by unfold OY; rw[ha,hb,hc]; rfl,trivial⟩
def qencStr (s:ByteArray):List AV:=[.str s]
theorem encStr0 (s:ByteArray):(qencStr s)[0]?=some (.str s):=rfl
def JP (xs:List ByteArray)(v:ByteArray):Bool:=xs.any fun u=>v.toList==u.toList
theorem AYF (xs:List ByteArray)(m:SM)(v:ByteArray)(h:Hp)(hl:xs.length<=1099511627776):
  PCall (En G) 220 [.sl m 1 (xs.map qencStr),.str v] h (.bool (JP xs v)):=by
 refine acT Tryz.func220 4 ?_;refine AA ?_;refine BJ (fun n F H=>∃k,n+k=xs.length∧F 0=.sl m 1 (xs.map qencStr)∧F 1=.str v∧F 5=.n (k:Nat)∧H=h∧JP xs v=JP (xs.drop k) v) xs.length ⟨0,AZ,rfl,rfl,rfl,rfl,rfl⟩ ?_;rintro n F H ⟨k,hk,f0,f1,f5,rfl,hin⟩;refine DL f0 f1 f5 ?_;refine D8 ?_ ?_<;>intro hc'
 .have hs:JP (xs.drop k) v=((v.toList==xs[k].toList)||JP (xs.drop (k+1)) v):=TU _ xs k hc'
  simp only[vQ,CG,TQ,↓reduceIte,jC,enP,aA,f0,f1,f5,CX hc',CU ag9 hc',encStr0];refine BM ?_ ?_<;>intro hb
  .refine AA ?_
   refine⟨?_,trivial⟩;rw[hin,hs,show(v.toList==xs[k].toList)=true by rw[BEq.comm]; exact hb]; rfl
  .refine A8 f5 (CZ k) ?_
   refine⟨n-1,U,k+1,U,f0,f1,rfl,trivial,?_⟩;rw[hin,hs,show(v.toList==xs[k].toList)=false by rw[BEq.comm]; exact hb]; rfl
 .refine AA ?_
  exact⟨by rw[hin,zM U]; rfl,trivial⟩
theorem index_prog (xs:List ByteArray)(m:SM)(v:ByteArray)(h:Hp)(hl:xs.length<=1099511627776):
  ∃i:Int,(decide (i≥0)=JP xs v)∧PCall (En G) 279 [.sl m 1 (xs.map qencStr),.str v] h (.n i):=by
 refine⟨(match xs.findIdx? (fun u=>v.toList==u.toList) with|some i=>(i:Int)|none => -1),?_,?_⟩
 .cases hx:xs.findIdx? (fun u=>v.toList==u.toList) with
  | some i =>
    obtain⟨h1,h2,_⟩:=wR.1 hx;have:JP xs v=true:=qL.2 ⟨xs[i],AZ,h2⟩;simp [this]
  | none =>
    have:JP xs v=false:=by
     rw[wS] at hx;unfold JP;rw[qM]; intro x hx2; simp only[hx x hx2]; simp
    simp [this]
 refine acT Tryz.func279 4 ?_;refine AA ?_;refine BJ (fun n F H=>∃k,n+k=xs.length∧F 0=.sl m 1 (xs.map qencStr)∧F 1=.str v∧F 7=.n xs.length∧F 8=.n (k:Nat)∧H=h∧(xs.take k).all (fun u => !(v.toList==u.toList))=true) xs.length ⟨0,AZ,rfl,rfl,rfl,rfl,rfl,rfl⟩ ?_;rintro n F H ⟨k,hk,f0,f1,f7,f8,rfl,hin⟩;refine EM f0 f1 f7 f8 ?_;refine D8 ?_ ?_<;>intro hc'
 .simp only[vQ,CG,TQ,↓reduceIte,jC,enP,aA,f0,f1,f7,f8,CX hc',CU ag9 hc',encStr0]
  refine BM ?_ ?_<;>intro hb
  .refine AA ?_
   refine⟨?_,trivial⟩
   rw[wR.2 ⟨hc',hb,fun j hj=>by
    rw[zL] at hin;have:=hin xs[j] (by rw[List.mem_take_iff_getElem]; exact⟨j,U,rfl⟩)
    simpa using this⟩]
  .refine A8 f8 (CZ k) ?_
   refine⟨n-1,U,k+1,U,f0,f1,f7,rfl,trivial,?_⟩;rw[jU hc',yI,hin];simp only[wK,yJ,hb]; rfl
 .refine AA ?_
  refine⟨?_,trivial⟩;rw[jJ U] at hin
  rw[wS.2 (by
   intro x hx;rw[zL] at hin
   simpa using hin x hx)]
theorem rX (xs:List ByteArray)(m:SM)(v:ByteArray)(h:Hp)(hl:xs.length<=1099511627776):
  PCall (En G) 219 [.sl m 1 (xs.map qencStr),.str v] h (.bool (JP xs v)):=by
 obtain⟨i,hi,hp⟩:=index_prog G xs m v h hl;refine acT Tryz.func219 4 ?_;refine AA ?_;refine hp.uu ?_;exact⟨by rw[hi],trivial⟩
def kw:List ByteArray:=[⟨#[99,108,97,115,115]⟩,⟨#[101,120,116,101,110,100,115]⟩,⟨#[114,97,110,100]⟩,⟨#[114,97,110,100,99]⟩,⟨#[115,116,97,116,101]⟩,⟨#[99,111,110,115,116,114,97,105,110,116]⟩,⟨#[115,111,102,116]⟩,⟨#[100,105,115,116]⟩,⟨#[105,102]⟩,⟨#[101,108,115,101]⟩,⟨#[101,97,99,104]⟩,⟨#[105,110]⟩,⟨#[115,111,108,118,101]⟩,⟨#[98,101,102,111,114,101]⟩,⟨#[105,110,115,105,100,101]⟩,⟨#[112,114,111,112,101,114,116,121]⟩,⟨#[115,101,113]⟩,⟨#[97,110,100]⟩,⟨#[111,114]⟩,⟨#[110,111,116]⟩,⟨#[115,101,116]⟩,⟨#[104,111,108,100]⟩,⟨#[112,108,97,105,110]⟩,⟨#[114,101,112,101,97,116]⟩]
theorem ASA:kw.length=24:=rfl
theorem xL (h:Hp):PCall (En G) 221 [] h (.sl .full 1 (kw.map qencStr)):=by
 refine acT Tryz.func221 0 ?_;refine AA ?_;refine KT (v:=.sl .full 1 (kw.map qencStr)) (h:=h) A7 ?_;refine AA ?_;exact HY
theorem rO (v:ByteArray)(h:Hp):PCall (En G) 131 [.str v] h (.bool (JP kw v)):=by
 refine acT Tryz.func131 2 ?_;refine AA ?_;refine(xL G h).uu ?_;refine(AYF G kw .full v h (by rw[ASA]; omega)).uu ?_;exact HY
def KwG (G:Nat->AV):Prop:=∃m,G 0=.fptr 1 [[.sl m 1 (kw.map qencStr)]] 0 0
theorem nK (hG:KwG G)(v:ByteArray)(h:Hp):PCall (En G) 129 [.str v] h (.bool (JP kw v)):=by
 obtain⟨m,hg⟩:=hG;refine acT Tryz.func129 2 ?_;have e:BH jA h 121 (G 0)=some (.sl m 1 (kw.map qencStr)):=by rw[hg]; exact ARY uW rfl rfl
 have hl:kw.length<=1099511627776:=by rw[ASA]; omega
 refine DL @AY0 @enG e ?_;refine(rX G kw m v h hl).uu ?_;exact HY
def U9 (s:ByteArray):Bool:=(match s.data.toList with|[]=>false|b::_=>UB b.toNat)&&s.data.toList.all fun b=>OY b.toNat
def EX (s:ByteArray):Bool:=U9 s&&decide (s.size<=16) && !JP kw s
theorem fU {n:Int}(h:OY n=true):n<128:=by
 simp only[OY,UB,AEU,Bool.or_eq_true,jO,decide_eq_true_eq,beq_iff_eq] at h;omega
theorem AWM (h:Hp)(s:ByteArray):iD jA h 9 (.str s)=some (.ptr h.length 0 0,h++[.iter s 0]):=by
 have:Tryz.prog.underlying 9=some .string:=A7;simp [iD,this]
theorem AXM {h:Hp}{s:ByteArray}{pos:Nat}(hp:pos<s.size):kG (h++[.iter s pos]) (.ptr h.length 0 0) true=some (.tup [.bool true,.n pos,.int .i32 (Utf8.decode s pos).1],h++[.iter s (pos+(Utf8.decode s pos).2)]):=by
 simp [kG,hp]
theorem ARO {h:Hp}{pos:Nat}(hp:¬pos<s.size):kG (h++[.iter s pos]) (.ptr h.length 0 0) true=some (.tup [.bool false],h++[.iter s pos]):=by
 simp [kG,hp]
theorem VZ {k:Nat}(hk:k<s.size)(hb:OY (s[k]'hk).toNat=false):U9 s=false:=by
 unfold U9
 have:(s.data.toList.all fun b=>OY b.toNat)=false:=by
  rw[List.all_eq_false];exact⟨s[k],Array.getElem_mem_toList (xs:=s.data) hk,by simp [hb]⟩
 rw[this]; simp
theorem iG (hk:0<s.size)(hb:UB (s[0]'hk).toNat=false):U9 s=false:=by
 unfold U9
 have:(match s.data.toList with|[]=>false|b::_=>UB b.toNat)=false:=by
  cases hl:s.data.toList with
  | nil=>rfl
  | cons b l =>
    have h0:s[0]'hk=b:=by
     have:s.data.toList[0]?=some b:=by rw[hl]; rfl
     have h2:s.data[0]?=some b:=by rw[<-Array.getElem?_toList]; exact this
     have hk':0<s.data.size:=hk;rw[Array.getElem?_eq_getElem hk'] at h2;exact Option.some.inj h2
    simp only;rw[<-h0]; exact hb
 rw[this]; simp
theorem AA5 (hk:0<s.size)(hb:UB (s[0]'hk).toNat=true)(ha:∀i (hi:i<s.size),OY (s[i]'hi).toNat=true):U9 s=true:=by
 unfold U9
 have h1:(match s.data.toList with|[]=>false|b::_=>UB b.toNat)=true:=by
  cases hl:s.data.toList with
  | nil =>
    have:s.data.toList.length=0:=by rw[hl]; rfl
    have h2:s.data.size=0:=BG this;have h3:s.size=s.data.size:=rfl;omega
  | cons b l =>
    have h0:s[0]'hk=b:=by
     have:s.data.toList[0]?=some b:=by rw[hl]; rfl
     have h2:s.data[0]?=some b:=by rw[<-Array.getElem?_toList]; exact this
     have hk':0<s.data.size:=hk;rw[Array.getElem?_eq_getElem hk'] at h2;exact Option.some.inj h2
    simp only;rw[<-h0]; exact hb
 rw[h1,Bool.true_and,zL];intro b hbm;obtain⟨i,hi,rfl⟩:=List.getElem_of_mem hbm;have hi':i<s.size:=BG hi;exact ha i hi'
theorem AMC (s:ByteArray)(h:Hp)(hl:s.size<=1099511627776):PCall (En G) 128 [.str s] h (.bool (U9 s)):=by
 refine ACalls.pure0 rfl ?_;refine acT Tryz.func128 2 ?_;refine A8 @AVX @AWM ?_;refine BJ (fun n F H=>∃k,n+k=s.size∧F 0=.str s∧F 6=.ptr h.length 0 0∧H=h++[.iter s k]∧(∀i (hi:i<s.size),i<k->OY (s[i]'hi).toNat=true)∧(∀hp:0<s.size,0<k->UB (s[0]'hp).toNat=true)) s.size ⟨0,AZ,rfl,AL,rfl,fun _ _ h=>absurd h U,fun _ h=>absurd h U⟩ ?_;rintro n F H ⟨k,hk,f0,f6,rfl,hall,h0⟩;rcases Classical.em (k<s.size) with hp|hp
 .have go:∀(r:Nat×Nat),Utf8.decode s k=r->(OY r.1=true->r=((s[k]'hp).toNat,1)∧OY (s[k]'hp).toNat=true)∧(OY r.1=false->U9 s=false)∧(UB r.1=false->k=0->U9 s=false)∧(UB r.1=true->OY r.1=true):=by
   rintro r rfl;have lf:∀n,UB n=true->OY n=true:=fun n hn=>by unfold OY; rw[hn]; rfl
   rcases jW (s[k]'hp).toNat 128 with ha|ha
   .have hd:=decode_ascii s k hp ha
    rw[hd];exact⟨fun hf=>⟨rfl,hf⟩,fun hf=>VZ hp hf,fun hf h0=>by subst h0; exact iG hp hf,lf _⟩
   .have hd:=(decode_high s k hp ha).1
    refine⟨fun hf=>?_,fun _=>?_,fun _ h0=>?_,lf _⟩
    .have:=fU hf; omega
    .refine VZ hp ?_
     cases hf:OY (s[k]'hp).toNat with
     | false=>rfl
     | true=>have:=fU hf; omega
    .refine VZ hp ?_
     cases hf:OY (s[k]'hp).toNat with
     | false=>rfl
     | true=>have:=fU hf; omega
  refine aJ @APV f0 f6 @AXM hp ?_;generalize hr:Utf8.decode s k=r at go;obtain⟨g1,g2,g3,g4⟩:=go r rfl
  have done:∀H',OY r.1=true->(k=0->UB r.1=true)->H'=h++[ABlk.iter s (k+r.2)]->∃m,m<n∧∃k',m+k'=s.size∧H'=h++[.iter s k']∧(∀i (hi:i<s.size),i<k'->OY (s[i]'hi).toNat=true)∧(∀hp:0<s.size,0<k'->UB (s[0]'hp).toNat=true):=by
   intro H' hf hlw hH;obtain⟨e1,e2⟩:=g1 hf;refine⟨n-1,U,k+1,U,by rw[hH,e1],fun i hi hik=>?_,fun hp0 _=>?_⟩
   .rcases jW i k with h'|h'
    .exact hall i hi h'
    .have:i=k:=U
     subst this; exact e2
   .rcases wU k with h'|h'
    .subst h'; have:=hlw rfl; rw[e1] at this; exact this
    .exact h0 hp0 h'
  refine IW ?_ ?_<;>intro ha
  .have hk0:k=0:=by simp at ha; omega
   refine AY ha ?_;refine(nG G _ _).uu ?_;refine IW ?_ ?_<;>intro hb
   .refine AY hb ?_
    have hlw:UB r.1=false:=BG hb;exact⟨by rw[g3 hlw hk0],_,rfl⟩
   have hlw:UB r.1=true:=BG hb;refine AY hb ?_;refine(dQ G _ _).uu ?_;have hf:=g4 hlw;refine AY hf ?_;obtain⟨m,h1,k',h2,h3,h4,h5⟩:=done _ hf (fun _=>hlw) rfl;exact⟨m,h1,k',h2,f0,f6,h3,h4,h5⟩
  .have hk0:k≠0:=by intro e; subst e; simp at ha
   refine AY ha ?_;refine(dQ G _ _).uu ?_;refine BM ?_ ?_<;>intro hb
   .have hf:OY r.1=false:=BG hb
    refine AA ?_;exact⟨by rw[g2 hf],_,rfl⟩
   .have hf:OY r.1=true:=BG hb
    refine AA ?_;obtain⟨m,h1,k',h2,h3,h4,h5⟩:=done _ hf (fun e=>absurd e hk0) rfl;exact⟨m,h1,k',h2,f0,f6,h3,h4,h5⟩
 .simp only[vQ,List.getElem?_cons_zero,TT,eT,YN,sU,CG,gX,APV,KA,OD,pF,↓reduceIte,jC,enP,f0,f6,ARO hp]
  have hks:k=s.size:=U;refine⟨?_,_,rfl⟩;congr 1;rcases wU s.size with hz|hz
  .have:s=⟨#[]⟩:=by
    obtain⟨d⟩:=s;have:d.size=0:=hz;rw[Array.eq_empty_of_size_eq_zero this]
   subst this;rw[ByteArray.toList_eq];rfl
  .rw[AA5 hz (h0 hz U) (fun i hi=>hall i hi U)]
   have hne:s.toList≠[]:=by
    rw[ByteArray.toList_eq];intro e;have:s.data.toList.length=0:=by rw[e]; rfl
    have h2:s.data.size=0:=BG this;have h3:s.size=s.data.size:=rfl;omega
   cases hl2:s.toList with
   | nil=>exact absurd hl2 hne
   | cons=>rw[ByteArray.toList_eq]; rfl
theorem L8 (hG:KwG G)(s:ByteArray)(h:Hp)(hl:s.size<=1099511627776):PCall (En G) 63 [.str s] h (.bool (EX s)):=by
 refine acT Tryz.func63 2 ?_;refine AA ?_;refine(AMC G s h hl).uu ?_;refine IW ?_ ?_<;>intro ha
 .refine AY ha ?_
  refine IW ?_ ?_<;>intro hb
  .refine AY hb ?_
   refine(nK G hG s h).uu ?_;refine⟨?_,trivial⟩
   have:decide (s.size<=16)=true:=by simp at hb|-; omega
   unfold EX; rw[ha,this]; rfl
  .refine AY hb ?_
   refine⟨?_,trivial⟩
   have:decide (s.size<=16)=false:=by simp at hb|-; omega
   unfold EX; rw[ha,this]; rfl
 .refine AY ha ?_
  exact⟨by unfold EX; rw[ha]; rfl,trivial⟩
theorem ix9 (s:ByteArray)(k:Nat)(kk:IntKind)(hk:k<s.size):O8 jA 9 (.str s) (.int kk (k:Int))=some (.int .u8 (s[k]'hk).toNat):=by
 have hu:Tryz.prog.underlying 9=some .string:=A7;have h0:(0:Int)<=(k:Int):=U;have:s[k]?=some (s[k]'hk):=by simp [hk]
 simp [O8,hu,h0,this]
theorem TA (s:ByteArray)(h:Hp):PCall (En G) 64 [.str s] h (.bool (EX s)):=by
 refine acT Tryz.func64 2 ?_;refine AA ?_;refine IW ?_ ?_<;>intro ha
 .refine AY ha ?_
  refine⟨?_,trivial⟩
  have:s.data.toList=[]:=by
   rw[ByteArray.toList_eq,ByteArray.toList_eq] at ha;have:=beq_iff_eq.1 ha;exact this
  unfold EX U9; rw[this]; rfl
 have hz:0<s.size:=by
  rcases wU s.size with hz|hz
  .have:s=⟨#[]⟩:=by
    obtain⟨d⟩:=s;have:d.size=0:=hz;rw[Array.eq_empty_of_size_eq_zero this]
   rw[this] at ha;simp at ha
  .exact hz
 refine AY ha ?_;refine IW ?_ ?_<;>intro hb
 .refine AY hb ?_
  refine⟨?_,trivial⟩
  have:decide (s.size<=16)=false:=by simp at hb|-; omega
  unfold EX; rw[this]; simp
 have h16:decide (s.size<=16)=true:=by simp at hb|-; omega
 refine AY hb ?_;refine KT (v:=.int .u8 (s[0]'hz).toNat) (h:=h) (by rw[show(0:Int)=((0:Nat):Int) from rfl,ix9 s 0 .i64 hz]; rfl) ?_;refine AA ?_;refine(sN G _ h).uu ?_;refine IW ?_ ?_<;>intro hc
 .refine AY hc ?_
  refine⟨?_,trivial⟩;unfold EX; rw[iG hz (BG hc)]; rfl
 refine AY hc ?_;refine(rO G s h).uu ?_;refine BM ?_ ?_<;>intro hd
 .refine AA ?_
  refine⟨?_,trivial⟩;unfold EX; rw[hd]; simp
 refine AA ?_;have hlow:UB (s[0]'hz).toNat=true:=BG hc;refine BJ (fun n F H=>∃k,n+k=s.size∧F 0=.str s∧F 3=.n (k:Nat)∧H=h∧(∀i (hi:i<s.size),i<k->OY (s[i]'hi).toNat=true)) s.size ⟨0,AZ,AL,AL,rfl,fun _ _ h=>absurd h U⟩ ?_;rintro n F H ⟨k,hk,f0,f3,rfl,hall⟩;refine A8 f0 f3 ?_;refine D8 ?_ ?_<;>intro hk'
 .refine DL f0 f3 (ix9 s k .i64 hk') ?_
  refine(AN7 G _ _).uu ?_;refine BM ?_ ?_<;>intro hf
  .refine AA ?_
   refine⟨?_,trivial⟩;unfold EX; rw[VZ hk' (BG hf)]; rfl
  .refine A8 f3 (wrap_succ (show k<9223372036854775807 by simp at h16; omega)) ?_
   refine⟨n-1,U,k+1,U,f0,rfl,trivial,fun i hi hik=>?_⟩;rcases jW i k with h'|h'
   .exact hall i hi h'
   .have:i=k:=U
    subst this; simpa using hf
 .refine AA ?_
  refine⟨?_,trivial⟩;unfold EX;rw[AA5 hz hlow (fun i hi=>hall i hi U),h16,hd]; rfl
def OT (b:Bin):Bool :=
 decide (b.kind<0)||decide (b.kind>2)||(decide ((b.ranges.l.length:Int)>0)==decide ((b.steps.length:Int)>0))||(b.kind != 0&&decide ((b.steps.length:Int)>0))||((b.steps.length:Int)==1)||decide ((b.steps.length:Int)>8)
def IK (b:Bin):Int :=
 if EX b.name then if OT b then 1 else if b.steps.any (fun l=>decide (l.l.length=0)) then 1 else
  if(sets b).any (fun l=>decide (l.l.length>64)) then 2 else if(sets b).any (fun l=>l.l.any bad) then 1 else 0
 else 7
def shape (b:Bin):Bool :=
 if(b.kind != 0&&b.kind != 1&&b.kind != 2) then false else if((b.steps.length:Int)==0) then decide ((b.ranges.l.length:Int)>0) else
  if(decide ((b.ranges.l.length:Int)>0)||b.kind != 0||decide ((b.steps.length:Int)<2)||decide ((b.steps.length:Int)>8)) then false else !(b.steps.any (fun l=>decide (l.l.length=0)))
theorem AGP:∀(n p z o t r s0 s1 s8 E:Bool),((n||p||z||o||t) && !(n&&p) && !(n&&z) && !(n&&o) && !(n&&t) && !(p&&z) && !(p&&o) && !(p&&t) && !(z&&o) && !(z&&t) && !(o&&t) && !(s0&&s1) && !(s0&&s8) && !(s1&&s8) && !(s0&&E))=true ->
 (if(!z && !o && !t) then false else if s0 then r else if(r || !z||(s0||s1)||s8) then false else !E)=(!(n||p||(r == !s0)||(!z && !s0)||s1||s8) && !E):=by decide +kernel
theorem AMO (k r s:Int)(E:Bool)(hs:0<=s)(hE:s=0->E=false):
  (if(k != 0&&k != 1&&k != 2) then false else if(s==0) then decide (r>0) else if(decide (r>0)||k != 0||decide (s<2)||decide (s>8)) then false else !E) =
  (!(decide (k<0)||decide (k>2)||(decide (r>0)==decide (s>0))||(k != 0&&decide (s>0))||(s==1)||decide (s>8)) && !E):=by
 have h1:decide (s>0) = !(s==0):=by rw[qY]; simp; omega
 have h2:decide (s<2)=((s==0)||(s==1)):=by rw[qY]; simp; omega
 rw[h1,h2];have key:=AGP (decide (k<0)) (decide (k>2)) (k==0) (k==1) (k==2) (decide (r>0)) (s==0) (s==1) (decide (s>8)) E ?_
 .exact key
 .have a1:(decide (k<0)||decide (k>2)||(k==0)||(k==1)||(k==2))=true:=by simp; omega
  have no:∀(p q:Prop) [Decidable p] [Decidable q],¬(p∧q)->(!(decide p&&decide q))=true:=by
   intro p q _ _ h; by_cases hp:p<;>by_cases hq:q<;>simp_all
  have e0:(s==0&&E)=false:=by
   by_cases hz:s=0
   .rw[hE hz]; simp
   .simp [hz]
  have b0:(k==0)=decide (k=0):=rfl;have b1:(k==1)=decide (k=1):=rfl;have b2:(k==2)=decide (k=2):=rfl;have c0:(s==0)=decide (s=0):=rfl;have c1:(s==1)=decide (s=1):=rfl;rw[e0]
  rw[b0,b1,b2] at a1|-
  rw[c0,c1,a1,no _ _ (U:¬(k<0∧k>2)),no _ _ (U:¬(k<0∧k=0)),no _ _ (U:¬(k<0∧k=1)),no _ _ (U:¬(k<0∧k=2)),
   no _ _ (U:¬(k>2∧k=0)),no _ _ (U:¬(k>2∧k=1)),no _ _ (U:¬(k>2∧k=2)),no _ _ (U:¬(k=0∧k=1)),no _ _ (U:¬(k=0∧k=2)),no _ _ (U:¬(k=1∧k=2)),
   no _ _ (U:¬(s=0∧s=1)),no _ _ (U:¬(s=0∧s>8)),no _ _ (U:¬(s=1∧s>8))]
  rfl
theorem ABX (b:Bin):shape b=(!OT b && !(b.steps.any (fun l=>decide (l.l.length=0)))) :=
 AMO b.kind b.ranges.l.length b.steps.length _ U (fun h=>by
  have:b.steps=[]:=List.eq_nil_of_length_eq_zero U
  rw[this]; rfl)
theorem AGO (b:Bin)(h:Hp)(hl:b.steps.length<=1099511627776):PCall (En G) 240 [.agg (F6 b)] h (.bool (shape b)):=by
 refine ACalls.pure0 rfl ?_;refine acT Tryz.func240 2 ?_;refine P7 @bxB @aG @uH @ALK ?_;refine RS (fun F H=>F 7=.bool (b.kind != 0&&b.kind != 1&&b.kind != 2)∧F 1=.ptr h.length 0 0∧F 3=.n b.steps.length∧H=h++[yK 4 [F6 b]]) ?_ ?_
 .refine IW ?_ ?_<;>intro ha
  .refine O3 ha @aG ?_
   refine IW ?_ ?_<;>intro hb
   .refine O3 hb @aG ?_
    exact⟨rfl,trivial,trivial,trivial⟩
   .refine AY hb ?_
    exact⟨rfl,trivial,trivial,trivial⟩
  .refine AY ha ?_
   exact⟨rfl,trivial,trivial,trivial⟩
 rintro F H ⟨f7,f1,f3,rfl⟩;refine DL f7 f1 f3 ?_;refine BM ?_ ?_<;>intro hk
 .refine AA ?_
  exact⟨by unfold shape; rw[if_pos hk],_,rfl⟩
 have hk':¬(b.kind != 0&&b.kind != 1&&b.kind != 2)=true:=by rw[hk]; simp
 refine A8 f1 f3 ?_;refine BM ?_ ?_<;>intro hs
 .refine O3 f1 @uH ?_
  exact⟨by unfold shape; rw[if_neg hk',if_pos hs],_,rfl⟩
 have hs':¬((b.steps.length:Int)==0)=true:=by rw[hs]; simp
 refine MB f1 f3 @uH ?_;refine RS (fun F H=>F 28=.bool (decide ((b.ranges.l.length:Int)>0)||b.kind != 0||decide ((b.steps.length:Int)<2)||decide ((b.steps.length:Int)>8))∧F 1=.ptr h.length 0 0∧H=h++[yK 4 [F6 b]]) ?_ ?_
 .refine IW ?_ ?_<;>intro ha
  .refine A8 ha f1 ?_
   exact⟨trivial,trivial,trivial⟩
  refine P7 @wV ha f1 @aG ?_;refine IW ?_ ?_<;>intro hb
  .refine A8 hb f1 ?_
   exact⟨trivial,trivial,trivial⟩
  refine EM @wV hb f1 f3 ?_;refine IW ?_ ?_<;>intro hc
  .refine A8 hc f1 ?_
   exact⟨trivial,trivial,trivial⟩
  .refine EM @wV hc f1 f3 ?_
   exact⟨trivial,trivial,trivial⟩
 rintro F H ⟨f28,f1,rfl⟩;refine A8 f28 f1 ?_;refine BM ?_ ?_<;>intro ho
 .refine AA ?_
  exact⟨by unfold shape; rw[if_neg hk',if_neg hs',if_pos ho],_,rfl⟩
 have ho':¬(decide ((b.ranges.l.length:Int)>0)||b.kind != 0||decide ((b.steps.length:Int)<2)||decide ((b.steps.length:Int)>8))=true:=by rw[ho]; simp
 refine O3 f1 @ALK ?_;refine(oV G b.steps b.sm 291 [] (fun l=>decide (l.l.length=0)) _ hl fun r=>ATY G r _).uu ?_;exact⟨by unfold shape; rw[if_neg hk',if_neg hs',if_neg ho'],_,rfl⟩
theorem AA9 {b:Bin}(h:EX b.name=false):IK b=7:=by unfold IK; rw[h]; rfl
theorem vG {b:Bin}(h:EX b.name=true)(hs:OT b=true):IK b=1:=by unfold IK; rw[h,hs]; rfl
theorem vH {b:Bin}(h:EX b.name=true)(hs:b.steps.any (fun l=>decide (l.l.length=0))=true):IK b=1:=by
 unfold IK; rw[h,hs]; cases OT b<;>rfl
theorem iH {b:Bin}(h:EX b.name=true)(hs:OT b=false)(he:b.steps.any (fun l=>decide (l.l.length=0))=false):
  IK b=if(sets b).any (fun l=>decide (l.l.length>64)) then 2 else if(sets b).any (fun l=>l.l.any bad) then 1 else 0:=by
 unfold IK; rw[h,hs,he]; rfl
structure BinOk (b:Bin):Prop where
 num:(sets b).length<=1099511627776
 name:b.name.size<=1099511627776
 steps:b.steps.length<=1099511627776
 sets:∀l∈sets b,l.l.length<=1099511627776
theorem ACI (xs:List Rng):decide (JC xs=2)=decide (xs.length>64):=by
 unfold JC;split
 .simp_all
 .split<;>simp_all
theorem iL (xs:List Rng):decide (JC xs=1)=(decide (¬xs.length>64)&&xs.any bad):=by
 unfold JC;split
 .rename_i h; simp [h]
 .rename_i h
  split
  .rename_i h2; simp only[h2,h]; rfl
  .rename_i h2; simp only[Bool.not_eq_true] at h2; simp only[h2]; simp
theorem AP1 {b:Bin}(h:EX b.name=true)(hs:OT b=false)(he:b.steps.any (fun l=>decide (l.l.length=0))=false):
  IK b=if(sets b).any (fun l=>decide (JC l.l=2)) then 2 else if(sets b).any (fun l=>decide (JC l.l=1)) then 1 else 0:=by
 rw[iH h hs he];simp only[ACI];split
 .rfl
 .rename_i hn
  have:(sets b).any (fun l=>decide (JC l.l=1))=(sets b).any (fun l=>l.l.any bad):=by
   rw[qY,qL,qL];constructor
   .rintro⟨l,h1,h2⟩
    rw[iL] at h2;simp only[jO] at h2;exact⟨l,h1,h2.2⟩
   .rintro⟨l,h1,h2⟩
    refine⟨l,h1,?_⟩;rw[iL,h2];rw[Bool.not_eq_true,qM] at hn;have:=hn l h1;simp only[decide_eq_true_eq] at this;simp only[this,not_false_eq_true,decide_true,Bool.and_self]
  rw[this]
theorem AFR {α:Type}(p:α->Bool)(xs:List α)(k:Nat)(h:k<xs.length):(xs.take (k+1)).any p=((xs.take k).any p||p xs[k]):=by
 rw[jU h,List.any_append,List.any_cons,List.any_nil,Bool.or_false]
theorem valid_prog (hG:KwG G)(b:Bin)(hb:BinOk b)(h:Hp):PCall (En G) 162 [.agg (F6 b)] h (.n (IK b)):=by
 refine ACalls.pure0 rfl ?_;refine acT Tryz.func162 2 ?_;refine MB @ATB @bxB @A1H ?_;refine(L8 G hG b.name _ hb.name).uu ?_;refine BM ?_ ?_<;>intro hn
 .refine AA ?_
  exact⟨by rw[AA9 (BG hn)],_,rfl⟩
 have hn':EX b.name=true:=BG hn;refine AY @ldB ?_;refine(AGO G b _ hb.steps).uu ?_;refine BM ?_ ?_<;>intro hs
 .refine AA ?_
  refine⟨?_,_,rfl⟩;have h1:shape b=false:=BG hs;rw[ABX] at h1
  cases hr:OT b with
  | true=>rw[vG hn' hr]
  | false =>
    rw[hr] at h1;rw[vH hn' (BG h1)]
 have h1:shape b=true:=BG hs;rw[ABX] at h1;simp only[jO,Bool.not_eq_true'] at h1;have hv:=iH hn' h1.1 h1.2;refine AY @ldB ?_;refine(sO G b _).uu ?_;refine BJ (fun n F H=>∃k,n+k=(sets b).length∧F 3=.bool (((sets b).take k).any fun l=>decide (JC l.l=2))∧F 4=.bool (((sets b).take k).any fun l=>decide (JC l.l=1))∧F 15=.sl (sP b) 1 ((sets b).map encS)∧F 16=.n (sets b).length∧F 17=.n (k:Nat)∧H=h++[yK 4 [F6 b]]) (sets b).length ⟨0,AZ,rfl,rfl,rfl,rfl,rfl,rfl⟩ ?_;rintro n F H ⟨k,hk,f3,f4,f15,f16,f17,rfl⟩;refine DL f15 f16 f17 ?_;refine D8 ?_ ?_<;>intro hc'
 .simp only[vQ,CG,List.append_nil,↓reduceIte,jC,enP,AHK,f15,f17,CX hc',CU RQ hc',AEM]
  refine(ACH G _ _ _ (hb.sets _ (List.getElem_mem hc'))).use ?_;have t2:=AFR (fun l:Rs=>decide (JC l.l=2)) (sets b) k hc';have t1:=AFR (fun l:Rs=>decide (JC l.l=1)) (sets b) k hc';refine AA ?_;refine BM ?_ ?_<;>intro hd
  .have hd':JC (sets b)[k].l=2:=BG hd
   refine A8 f17 (wrap_succ (show k<9223372036854775807 by have:=hb.num; omega)) ?_;refine⟨n-1,U,k+1,U,?_,?_,f15,f16,rfl,trivial⟩
   .rw[t2,hd']; simp
   .rw[f4,t1,hd']; simp
  refine AA ?_;refine BM ?_ ?_<;>intro he
  .have he':JC (sets b)[k].l=1:=BG he
   refine A8 f17 (wrap_succ (show k<9223372036854775807 by have:=hb.num; omega)) ?_;refine⟨n-1,U,k+1,U,?_,?_,f15,f16,rfl,trivial⟩
   .rw[f3,t2,he']; simp
   .rw[t1,he']; simp
  .have hd':JC (sets b)[k].l≠2:=BG hd
   have he':JC (sets b)[k].l≠1:=BG he;refine A8 f17 (wrap_succ (show k<9223372036854775807 by have:=hb.num; omega)) ?_;refine⟨n-1,U,k+1,U,?_,?_,f15,f16,rfl,trivial⟩
   .rw[f3,t2]; simp [hd']
   .rw[f4,t1]; simp [he']
 .rw[jJ U] at f3 f4
  have hE:=AP1 hn' h1.1 h1.2;refine A8 f3 f4 ?_;refine BM ?_ ?_<;>intro hd
  .refine AA ?_
   exact⟨by rw[hE,if_pos hd],_,rfl⟩
  refine AY f4 ?_;refine BM ?_ ?_<;>intro he
  .refine AA ?_
   exact⟨by rw[hE,if_neg (by rw[hd]; simp),if_pos he],_,rfl⟩
  .refine AA ?_
   exact⟨by rw[hE,if_neg (by rw[hd]; simp),if_neg (by rw[he]; simp)],_,rfl⟩
end Go.Proofs.YtiihpnicbekebaaGreatDoor.Bins
namespace Go.Proofs.YtiihpnicbekebaaGreatDoor.Cov
open Sm Bins
variable (G:Nat->AV )
inductive Ex where
 | mk (op n:Int) (name:ByteArray) (m:SM) (args:List Ex)
def Ex.op:Ex->Int|.mk op _ _ _ _=>op
def Ex.n:Ex->Int|.mk _ n _ _ _=>n
def Ex.name:Ex->ByteArray|.mk _ _ name _ _=>name
def Ex.m:Ex->SM|.mk _ _ _ m _=>m
def Ex.args:Ex->List Ex|.mk _ _ _ _ args=>args
mutual
def AX:Ex->List AV
 | .mk op n name m args=>[.n op,.n n,.str name,.sl m 4 (AEO args)]
def AEO:List Ex->List (List AV)
 | []=>[]
 | e::es=>AX e::AEO es
end
theorem uG:∀l:List Ex,AEO l=l.map AX
 | []=>by simp [AEO]
 | e::es=>by simp [AEO,uG es]
theorem FB (e:Ex):AX e=[.n e.op,.n e.n,.str e.name,.sl e.m 4 (e.args.map AX)]:=by
 cases e; simp [AX,uG,Ex.op,Ex.n,Ex.name,Ex.m,Ex.args]
theorem EC (e:Ex):(AX e).length=4:=by rw[FB]; rfl
theorem J3 (e:Ex):(AX e)[0]?=some (.n e.op):=by rw[FB]; rfl
theorem dW (e:Ex):(AX e)[1]?=some (.n e.n):=by rw[FB]; rfl
theorem RF (e:Ex):(AX e)[2]?=some (.str e.name):=by rw[FB]; rfl
theorem YK (e:Ex):(AX e)[3]?=some (.sl e.m 4 (e.args.map AX)):=by rw[FB]; rfl
theorem VN (e:Ex):(AX e).all AV.leaf=true:=by rw[FB]; rfl
theorem bxE (h:Hp)(e:Ex):MS h (.agg (AX e))=some (.ptr h.length 0 0,h++[yK 4 [AX e]]):=by
 have:=WT (h:=h) (VN e);rw[EC] at this; exact this
theorem ldE (h:Hp)(e:Ex):BH jA (h++[yK 4 [AX e]]) 79 (.ptr h.length 0 0)=some (.agg (AX e)):=by
 rw[Y8 O1 JB (by rw[EC]; exact jF 4)];rw[zT,jJ (by rw[EC]; exact jF 4)]
theorem IM {h:Hp}{b:Nat}{e:Ex}(hb:h[b]?=some (yK 4 [AX e])):BH jA h 79 (.ptr b 0 0)=some (.agg (AX e)):=by
 rw[EF O1 JB hb rfl (by rw[EC]; exact jF 4)];rw[zT,jJ (by rw[EC]; exact jF 4)]
mutual
def pre:Ex->List Ex
 | .mk op n name m args=>.mk op n name m args::FD args
def FD:List Ex->List Ex
 | []=>[]
 | e::es=>pre e++FD es
end
mutual
def dep:Ex->Nat
 | .mk _ _ _ _ args=>deps args+1
def deps:List Ex->Nat
 | []=>0
 | e::es=>max (dep e) (deps es)
end
mutual
def wt:Ex->Nat
 | .mk _ _ name _ args=>name.size+1+wts args
def wts:List Ex->Nat
 | []=>0
 | e::es=>wt e+wts es
end
theorem pre_eq (e:Ex):pre e=e::FD e.args:=by cases e; simp [pre,Ex.args]
theorem bP (e:Ex):dep e=deps e.args+1:=by cases e; simp [dep,Ex.args]
theorem MN (e:Ex):wt e=e.name.size+1+wts e.args:=by cases e; simp [wt,Ex.args,Ex.name]
theorem NQ (xs ys:List Ex):FD (xs++ys)=FD xs++FD ys:=by
 induction xs with
 | nil=>simp [FD]
 | cons x xs ih=>simp [FD,ih]
theorem VY (xs:List Ex):xs.length<=wts xs:=by
 induction xs with
 | nil=>simp [wts]
 | cons x xs ih=>have:=MN x; simp [wts]; omega
theorem VX {xs:List Ex}{x:Ex}(h:x∈xs):wt x<=wts xs:=by
 induction xs with
 | nil=>cases h
 | cons y ys ih =>
   simp only[wts]
   cases List.mem_cons.1 h with
   | inl e=>subst e; omega
   | inr e=>have:=ih e; omega
theorem uK (xs:List Ex)(k:Nat)(h:k<xs.length):deps (xs.take (k+1))=max (deps (xs.take k)) (dep xs[k]):=by
 induction xs generalizing k with
 | nil=>simp at h
 | cons x xs ih =>
   cases k with
   | zero=>simp [deps]
   | succ k =>
     simp only[List.take_succ_cons,deps,List.getElem_cons_succ];rw[ih k (BG h),Nat.max_assoc]
theorem Ex.induct {P:Ex->Prop}(h:∀e:Ex,(∀a∈e.args,P a)->P e)(e:Ex):P e:=by
 have:∀n (e:Ex),wt e<=n->P e:=by
  intro n
  induction n with
  | zero=>intro e he; have:=MN e; omega
  | succ n ih =>
    intro e he;refine h e fun a ha=>ih a ?_
    have h1:=VX ha;have h2:=MN e;omega
 exact this _ e (jF _)
theorem AT0 (e:Ex):dep e<=wt e:=by
 refine Ex.induct (P:=fun e=>dep e<=wt e) (fun e ih=>?_) e;rw[bP,MN]
 have:deps e.args<=wts e.args:=by
  generalize e.args=l at ih
  induction l with
  | nil=>simp [deps,wts]
  | cons x l ih2 =>
    have h1:=ih x AZ;have h2:=ih2 (fun a ha=>ih a (by simp [ha]));simp only[deps,wts]; omega
 omega
theorem WH (e:Ex):(pre e).length<=wt e:=by
 refine Ex.induct (P:=fun e=>(pre e).length<=wt e) (fun e ih=>?_) e;rw[pre_eq,MN]
 have:(FD e.args).length<=wts e.args:=by
  generalize e.args=l at ih
  induction l with
  | nil=>simp [FD,wts]
  | cons x l ih2 =>
    have h1:=ih x AZ;have h2:=ih2 (fun a ha=>ih a (by simp [ha]));simp only[FD,wts,List.length_append]; omega
 simp; omega
def arity (op:Int):Int:=if op<1∨op>25 then -1 else if op=1∨op=2∨op=24 then 0 else if op=3∨op=4∨op=5∨op=6∨op=25 then 1 else if op=22 then 3 else if op=23 then -1 else 2
theorem AIU (op:Int)(h:Hp):PCall (En G) 299 [.n op] h (.n (arity op)):=by
 refine acT Tryz.func299 2 ?_;have hcase:op<1∨op>25∨op=1∨op=2∨op=3∨op=4∨op=5∨op=6∨op=7∨op=8∨op=9∨op=10∨op=11∨op=12∨op=13∨op=14∨op=15∨op=16∨op=17∨op=18∨op=19∨op=20∨op=21∨op=22∨op=23∨op=24∨op=25:=U;rcases hcase with h|h|rfl|rfl|rfl|rfl|rfl|rfl|rfl|rfl|rfl|rfl|rfl|rfl|rfl|rfl|rfl|rfl|rfl|rfl|rfl|rfl|rfl|rfl|rfl|rfl|rfl
 .have hne:∀k:Int,1<=k->(op==k)=false:=fun k hk=>beq_eq_false_iff_ne.2 U
  have hd:decide (op<1)=true:=by simp; omega
  have ha:arity op = -1:=by unfold arity; rw[if_pos (Or.inl h)]
  rw[ha];simp only[vQ,LC,EI,YU,CG,FV,JS,↓reduceIte,jC,enX,enP,hne 1 DF,hne 2 DF,hne 3 DF,hne 4 DF,hne 5 DF,hne 6 DF,hne 7 DF,hne 8 DF,hne 9 DF,hne 10 DF,hne 11 DF,hne 12 DF,hne 13 DF,hne 14 DF,hne 15 DF,hne 16 DF,hne 17 DF,hne 18 DF,hne 19 DF,hne 20 DF,hne 21 DF,hne 22 DF,hne 23 DF,hne 24 DF,hne 25 DF,hd];exact HY
 .have hne:∀k:Int,k<=25->(op==k)=false:=fun k hk=>beq_eq_false_iff_ne.2 U
  have hd:decide (op<1)=false:=by simp; omega
  have hd2:decide (op>25)=true:=by simp; omega
  have ha:arity op = -1:=by unfold arity; rw[if_pos (Or.inr h)]
  rw[ha];simp only[vQ,LC,EI,CG,JS,↓reduceIte,jC,enX,enP,hne 1 DF,hne 2 DF,hne 3 DF,hne 4 DF,hne 5 DF,hne 6 DF,hne 7 DF,hne 8 DF,hne 9 DF,hne 10 DF,hne 11 DF,hne 12 DF,hne 13 DF,hne 14 DF,hne 15 DF,hne 16 DF,hne 17 DF,hne 18 DF,hne 19 DF,hne 20 DF,hne 21 DF,hne 22 DF,hne 23 DF,hne 24 DF,hne 25 DF,hd,hd2];exact HY
 all_goals
  simp only[vQ,LC,kB,EI,CG,JS,↓reduceIte,jC,decide_false,enX,enP,wJ,Int.reduceLT,Int.reduceGT];exact⟨rfl,trivial⟩
theorem APE (op:Int)(h:Hp):PCall (En G) 332 [.n op] h (.n (arity op)):=by
 refine acT Tryz.func332 2 ?_;have hcase:op<1∨op>25∨op=1∨op=2∨op=3∨op=4∨op=5∨op=6∨op=7∨op=8∨op=9∨op=10∨op=11∨op=12∨op=13∨op=14∨op=15∨op=16∨op=17∨op=18∨op=19∨op=20∨op=21∨op=22∨op=23∨op=24∨op=25:=U;rcases hcase with h|h|rfl|rfl|rfl|rfl|rfl|rfl|rfl|rfl|rfl|rfl|rfl|rfl|rfl|rfl|rfl|rfl|rfl|rfl|rfl|rfl|rfl|rfl|rfl|rfl|rfl
 .have hne:∀k:Int,1<=k->(op==k)=false:=fun k hk=>beq_eq_false_iff_ne.2 U
  have hd:decide (op<1)=true:=by simp; omega
  have ha:arity op = -1:=by unfold arity; rw[if_pos (Or.inl h)]
  rw[ha];simp only[vQ,LC,EI,YU,CG,FV,JS,↓reduceIte,jC,enX,enP,hne 1 DF,hne 2 DF,hne 3 DF,hne 4 DF,hne 5 DF,hne 6 DF,hne 7 DF,hne 8 DF,hne 9 DF,hne 10 DF,hne 11 DF,hne 12 DF,hne 13 DF,hne 14 DF,hne 15 DF,hne 16 DF,hne 17 DF,hne 18 DF,hne 19 DF,hne 20 DF,hne 21 DF,hne 22 DF,hne 23 DF,hne 24 DF,hne 25 DF,hd];exact HY
 .have hne:∀k:Int,k<=25->(op==k)=false:=fun k hk=>beq_eq_false_iff_ne.2 U
  have hd:decide (op<1)=false:=by simp; omega
  have hd2:decide (op>25)=true:=by simp; omega
  have ha:arity op = -1:=by unfold arity; rw[if_pos (Or.inr h)]
  rw[ha];simp only[vQ,LC,EI,CG,JS,↓reduceIte,jC,enX,enP,hne 1 DF,hne 2 DF,hne 3 DF,hne 4 DF,hne 5 DF,hne 6 DF,hne 7 DF,hne 8 DF,hne 9 DF,hne 10 DF,hne 11 DF,hne 12 DF,hne 13 DF,hne 14 DF,hne 15 DF,hne 16 DF,hne 17 DF,hne 18 DF,hne 19 DF,hne 20 DF,hne 21 DF,hne 22 DF,hne 23 DF,hne 24 DF,hne 25 DF,hd,hd2];exact HY
 all_goals
  simp only[vQ,LC,kB,CG,JS,↓reduceIte,jC,enX,enP,wJ,Int.reduceLT,Int.reduceGT];exact⟨rfl,trivial⟩
def KN (op:Int):Bool:=op==2||op==3||op==24
theorem fH (op:Int)(h:Hp):PCall (En G) 331 [.n op] h (.bool (KN op)):=by
 refine acT Tryz.func331 2 ?_;refine AA ?_;cases ha:(op==2)<;>cases hb:(op==3)
 all_goals
  refine A8 ha hb ?_;exact⟨by simp [KN,ha,hb],trivial⟩
def UZ (op:Int)(n:Nat):Bool:=if op==23 then ((n:Int)%2==1)&&decide ((n:Int)≥3)&&decide ((n:Int)<=33) else ((n:Int)==arity op)
theorem rH (e:Ex)(h:Hp):PCall (En G) 249 [.agg (AX e)] h (.bool (UZ e.op e.args.length)):=by
 refine ACalls.pure0 rfl ?_;refine acT Tryz.func249 2 ?_;refine MB @bxE @YK @J3 ?_;generalize he:e.args.length=n;have hm:(n:Int).tmod 2=(n:Int)%2:=Int.tmod_eq_emod_of_nonneg U;have b1:IQ jA 3 .rem (.n (n:Int)) (.n 2)=some (.n ((n:Int)%2)):=by rw[AAK _ _ _ _ _ DF,hm]
 refine BM ?_ ?_<;>intro hc
 .refine AY b1 ?_
  cases ha:((n:Int)%2==1)<;>cases hb:decide ((n:Int)≥3)
  all_goals
   refine A8 ha hb ?_;exact⟨by unfold UZ; rw[if_pos hc,ha,hb]; simp,_,rfl⟩
 .refine aK @J3 ?_
  refine(AIU G e.op _).uu ?_;exact⟨by unfold UZ; rw[if_neg (by rw[hc]; decide)],_,rfl⟩
end Go.Proofs.YtiihpnicbekebaaGreatDoor.Cov
namespace Go.Proofs.YtiihpnicbekebaaGreatDoor.Cov
open Sm Bins Go.Shelf Go.RowKit
def AT6:Go.Shelf.Ren:=⟨fun|145=>232|220=>287|219=>323|217=>354|225=>355|224=>356|267=>357|266=>394|314=>395|n=>n,fun|9=>9|4=>4|59=>284|3=>3|5=>5|46=>344|146=>373|51=>364|n=>n,fun|1=>1|n=>n⟩
theorem A9X:Go.Proofs.Lays.n145 Tryz.prog AT6 := {
 mixed:=A7,
 f145:=Tryz.func232.trans (congrArg some A7),
 f217:=Tryz.func354.trans (congrArg some A7),
 f219:=Tryz.func323.trans (congrArg some A7),
 f220:=Tryz.func287.trans (congrArg some A7),
 f224:=Tryz.func356.trans (congrArg some A7),
 f225:=Tryz.func355.trans (congrArg some A7),
 f266:=Tryz.func394.trans (congrArg some A7),
 f267:=Tryz.func357.trans (congrArg some A7),
 f314:=Tryz.func395.trans (congrArg some A7),
 t3:=Tryz.underlying3,
 a3:=Tryz.isAgg3,
 z3:=Tryz.sizeOf3,
 v3:=Tryz.zeroValue3,
 t4:=Tryz.underlying4,
 a4:=Tryz.isAgg4,
 z4:=Tryz.sizeOf4,
 v4:=Tryz.zeroValue4,
 t5:=Tryz.underlying5,
 a5:=Tryz.isAgg5,
 z5:=Tryz.sizeOf5,
 v5:=Tryz.zeroValue5,
 t9:=Tryz.underlying9,
 a9:=Tryz.isAgg9,
 z9:=Tryz.sizeOf9,
 v9:=Tryz.zeroValue9,
 t46:=Tryz.underlying344,
 a46:=Tryz.isAgg344,
 z46:=Tryz.sizeOf344,
 v46:=Tryz.zeroValue344,
 t51:=Tryz.underlying364,
 a51:=Tryz.isAgg364,
 z51:=Tryz.sizeOf364,
 v51:=Tryz.zeroValue364,
 t59:=Tryz.underlying284,
 a59:=Tryz.isAgg284,
 z59:=Tryz.sizeOf284,
 v59:=Tryz.zeroValue284,
 t146:=Tryz.underlying373,
 a146:=Tryz.isAgg373,
 z146:=Tryz.sizeOf373,
 v146:=Tryz.zeroValue373,
 g1:=by kernel_rfl }
structure GOk (G:Nat->AV):Prop where
 kw:KwG G
 mx:∃n,G 1=.fptr 1 [[.n n]] 0 0
theorem ASW {G:Nat->AV}{g:Gh}{h:Hp}{w:World}{n:Nat}{k:IntKind}{z:Int}(S:SimH (En G) g h w)(hn:G n=.fptr 1 [[.int k z]] 0 0):w.cell? ⟨n,0,none⟩=some (.int k z):=by
 have:=S.glob n;rw[enG,hn] at this;generalize hp:Value.pointer (some ⟨n,0,none⟩)=p at this
 cases this with
 | fptr k' xs i j cb co c e fz cv h1 h2 h3 h4 =>
   simp only[Value.pointer.injEq,Option.some.injEq,Addr.mk.injEq] at hp;obtain⟨rfl,hco,_⟩:=hp;have h5:=h3 0 0 AZ AZ;have h6:=h4 0 0 _ _ rfl rfl;generalize cv 0 0=u at h5 h6;cases h6;simp only[World.cell?,S.fro _ _ h1];subst hco;exact h5
def cutV (s:ByteArray):AV:=.tup [.str ⟨(Lib.cut s.data.toList [91]).1.toArray⟩,.str ⟨(Lib.cut s.data.toList [91]).2.1.toArray⟩,.bool (Lib.cut s.data.toList [91]).2.2]
theorem oU (G:Nat->AV)(hG:GOk G)(s:ByteArray)(h:Hp)(hl:s.size<=1048576):PCall (En G) 232 [.str s,.str ⟨#[91]⟩] h (cutV s):=by
 refine PCall.of_reads (cok 232 G A7) fun g w cargs S ha=>?_
 obtain⟨hsz,hget⟩:=ha
 obtain⟨cv0,cv1,rfl⟩:∃a b,cargs = #[a,b]:=by
  obtain⟨l⟩:=cargs
  match l,hsz with
  | [a,b],_=>exact⟨a,b,rfl⟩
 obtain rfl:=(hget 0 _ cv0 rfl rfl).str_inv;obtain rfl:=(hget 1 _ cv1 rfl rfl).str_inv;obtain⟨z,hz⟩:=hG.mx;have hc:=ASW S hz;have:=Any.strings_Cut A9X s ⟨#[91]⟩ z w U hc;refine⟨_,?_,this⟩;refine .tup _ _ rfl ?_;intro i v cv h1 h2
 match i,h1,h2 with
 | 0,h1,h2=>simp at h1 h2; subst h1; subst h2; exact .str _ _
 | 1,h1,h2=>simp at h1 h2; subst h1; subst h2; exact .str _ _
 | 2,h1,h2=>simp at h1 h2; subst h1; subst h2; exact .bool _ _
def JO (s:ByteArray):Option (List UInt8×UInt8) :=
 if 4<=s.data.toList.length then match s.data.toList.drop (s.data.toList.length-3) with
  | [x,d,y]=>if(y==93&&x==91&&decide (48<=d.toNat)&&decide (d.toNat<56)&&EX ⟨(s.data.toList.take (s.data.toList.length-3)).toArray⟩)=true then some (s.data.toList.take (s.data.toList.length-3),d) else none
  | _=>none
 else none
def elemV (o:Option (List UInt8×UInt8)):AV:=match o with
 | some (a,d)=>.tup [.str ⟨a.toArray⟩,.n ((d.toNat:Int)-48),.bool true]
 | none=>.tup [.str ⟨#[]⟩,.n 0,.bool false]
theorem QO {l:List UInt8}(h:EX ⟨l.toArray⟩=true):l≠[]∧∀b∈l,b≠91:=by
 have hw:U9 ⟨l.toArray⟩=true:=by
  unfold EX at h;exact(Bool.and_eq_true_iff.1 (Bool.and_eq_true_iff.1 h).1).1
 unfold U9 at hw;obtain⟨h1,h2⟩:=Bool.and_eq_true_iff.1 hw;refine⟨?_,?_⟩
 .intro e; subst e; cases h1
 .intro b hb e
  subst e;have:=List.all_eq_true.1 h2 91 hb
  revert this; decide
theorem three {l:List UInt8}(h:3<=l.length):∃a x d y,l=a++[x,d,y]:=by
 refine⟨l.take (l.length-3),?_⟩;have h1:(l.drop (l.length-3)).length=3:=by simp; omega
 match hm:l.drop (l.length-3),h1 with
 | [x,d,y],_=>exact⟨x,d,y,by rw[<-hm,wZ]⟩
theorem dY {a:List UInt8}{x d y:UInt8}(ha:a≠[]):JO ⟨(a++[x,d,y]).toArray⟩=if(y==93&&x==91&&decide (48<=d.toNat)&&decide (d.toNat<56)&&EX ⟨a.toArray⟩)=true then some (a,d) else none:=by
 have hl:0<a.length:=List.length_pos_iff.2 ha;unfold JO;simp only;rw[if_pos KH];have e:(a++[x,d,y]).length-3=a.length:=AZ;rw[e,List.drop_left,List.take_left]
theorem oO (s:ByteArray):JO s=if((Lib.cut s.data.toList [91]).2.2&&EX ⟨(Lib.cut s.data.toList [91]).1.toArray⟩)=true then match (Lib.cut s.data.toList [91]).2.1 with
  | [d,y]=>if(y==93&&decide (48<=d.toNat)&&decide (d.toNat<56))=true then some ((Lib.cut s.data.toList [91]).1,d) else none
  | _=>none
 else none:=by
 obtain⟨⟨l⟩⟩:=s
 have hocc:∀i,Lib.occAt l [91] i=true↔l[i]?=some 91:=by
  intro i;unfold Lib.occAt;rcases Nat.lt_or_ge i l.length with h|h
  .rw[qC h,jG h]
   simp [List.isPrefixOf];exact eq_comm
  .rw[List.drop_eq_nil_of_le h,List.getElem?_eq_none h]; simp [List.isPrefixOf]
 -- an element name of the reference's kind
 have main:∀a d,a≠[]->EX ⟨a.toArray⟩=true->l=a++[91,d,93]->Lib.cut l [91]=(a,[d,93],true):=by
  intro a d ha hn hl;obtain⟨_,hne⟩:=QO hn
  have hi:Lib.index l [91]=(a.length:Int):=by
   refine Lib.index_first (by rw[hl]; simp) ((hocc _).2 (by rw[hl]; simp)) fun j hj=>?_
   rw[<-Bool.not_eq_true,hocc,hl,List.getElem?_append_left hj,jG hj];intro e;exact hne _ (List.getElem_mem hj) (Option.some.inj e)
  unfold Lib.cut;rw[hi,if_pos U,qG,hl,List.take_left,<-List.drop_drop,List.drop_left];rfl
 show JO ⟨l.toArray⟩=_;rcases hcase:JO ⟨l.toArray⟩ with _|⟨a,d⟩
 .symm
  show(if _ then _ else none)=none;simp only;split
  .rename_i hb
   rw[jO] at hb;split
   .rename_i d y hm
    split
    .rename_i hd
     exfalso;simp only[jO,beq_iff_eq,decide_eq_true_eq] at hd;obtain⟨⟨rfl,hd1⟩,hd2⟩:=hd;obtain⟨ha,_⟩:=QO hb.2
     have hc:Lib.cut l [91]=((Lib.cut l [91]).1,[d,93],true):=by
      rw[<-hm]; have:=hb.1; cases hcc:Lib.cut l [91] with
      | mk p q=>cases q with
        | mk q1 q2=>rw[hcc] at this; simp at this; subst this; rfl
     have hl:l=(Lib.cut l [91]).1++[91,d,93]:=by
      generalize (Lib.cut l [91]).1=b at hc;unfold Lib.cut at hc;split at hc
      .rename_i h0
       obtain⟨i,hi⟩:∃i:Nat,Lib.index l [91]=i:=⟨(Lib.index l [91]).toNat,U⟩;rw[hi] at hc;simp only[qG,Prod.mk.injEq,List.length_singleton] at hc;rcases Lib.index_spec l [91] with⟨h1,_⟩|⟨j,h1,_,h3,_⟩
       .omega
       .have hj:i=j:=U
        subst hj;have h4:=(hocc i).1 h3;have h5:i<l.length:=(List.getElem?_eq_some_iff.1 h4).1;have h6:l[i]=91:=by rw[jG h5] at h4; exact Option.some.inj h4
        rw[<-hc.1]
        calc l=l.take i++l.drop i:=(wZ i l).symm
         _=l.take i++(l[i]::l.drop (i+1)):=by rw[qC h5]
         _=l.take i++[91,d,93]:=by rw[h6,hc.2.1]
      .simp at hc
     have:=dY (x:=91) (d:=d) (y:=93) ha;rw[<-hl,hcase,if_pos (by simp [hb.2,hd1,hd2])] at this;cases this
    .rfl
   .rfl
  .rfl
 .have h4:4<=l.length:=by
   unfold JO at hcase;simp only at hcase;split at hcase
   .assumption
   .cases hcase
  obtain⟨b,x,d',y,rfl⟩:=three (U:3<=l.length);have hb:b≠[]:=by intro e; subst e; simp at h4
  rw[dY hb] at hcase;split at hcase
  .rename_i hc
   cases hcase;simp only[jO,beq_iff_eq,decide_eq_true_eq] at hc;obtain⟨⟨⟨⟨rfl,rfl⟩,h1⟩,h2⟩,h3⟩:=hc;simp only;rw[main a d hb h3 rfl];simp [h3,h1,h2]
  .cases hcase
end Go.Proofs.YtiihpnicbekebaaGreatDoor.Cov
namespace Go.Proofs.YtiihpnicbekebaaGreatDoor.Cov
open Sm Bins Go.RowKit
variable {a ba c cb dd i k m m2 n u:Nat} {H h h':Hp} {v v1 v2 x:AV} {F:Fr} {row:List AV} {f:Int} {P:Program} {R:AV->Hp->Prop} (G:Nat->AV )
theorem ALP (l:List UInt8):(Lib.cut l [91]).1.length<=l.length:=by
 unfold Lib.cut;split
 .simp only[jZ]; exact Nat.min_le_right _ _
 .exact jF _
theorem ixl {l:List UInt8}{b:UInt8}{i:Int}(hi:i=(k:Int))(hb:l[k]?=some b):O8 jA 9 (.str ⟨l.toArray⟩) (.n i)=some (.int .u8 b.toNat):=by
 subst hi;have hk:k<l.length:=(List.getElem?_eq_some_iff.1 hb).1;have:=ix9 ⟨l.toArray⟩ k .i64 hk;rw[this];have h2:(⟨l.toArray⟩:ByteArray)[k]'hk=l[k]:=rfl;rw[h2];rw[jG hk] at hb;rw[Option.some.inj hb]
theorem szl (l:List UInt8):(⟨l.toArray⟩:ByteArray).size=l.length:=rfl
theorem wrap_u8 {n:Int}(h0:0<=n)(h1:n<256):IntKind.u8.wrap n=n:=by
 unfold IntKind.wrap; simp [IntKind.bits,IntKind.signed]; omega
theorem AAA (hG:GOk G)(s:ByteArray)(h:Hp)(hl:s.size<=1048576):PCall (En G) 300 [.str s] h (elemV (JO s)):=by
 refine acL Tryz.func300 [.tmp 2,.tmp 3,.tmp 4] ?_;refine AA ?_;refine(oU G hG s h hl).use ?_;have he:=oO s;have hal:=ALP s.data.toList;unfold cutV
 generalize Lib.cut s.data.toList [91]=c at he hal|-
 obtain⟨a,b,f⟩:=c;have hal2:a.length<=s.size:=BG hal;refine AA ?_;cases f
 .refine AA ?_
  exact⟨by rw[he]; rfl,trivial⟩
 refine AA ?_;refine(L8 G hG.kw ⟨a.toArray⟩ h (by rw[szl]; omega)).uu ?_;cases hn:EX ⟨a.toArray⟩
 .refine AA ?_
  exact⟨by rw[he]; simp [hn]; rfl,trivial⟩
 refine AY szl ?_;refine IW ?_ ?_<;>intro hb
 .refine AY hb ?_
  have hne:∀d y,b≠[d,y]:=by
   intro d y e; subst e; simp at hb
  have:JO s=none:=by
   rw[he]; split
   .split
    .rename_i hm; exact absurd hm (hne _ _)
    .rfl
   .rfl
  exact⟨by rw[this]; rfl,trivial⟩
 have h2:b.length=2:=by simp at hb; omega
 match b,h2 with
 | [d,y],_ =>
   have i1:O8 jA 9 (.str ⟨[d,y].toArray⟩) (.n 1)=some (.int .u8 y.toNat):=ixl (k:=1) rfl rfl;have i0:O8 jA 9 (.str ⟨[d,y].toArray⟩) (.n 0)=some (.int .u8 d.toNat):=ixl (k:=0) rfl rfl
   have he2:JO s=if(y==93&&decide (48<=d.toNat)&&decide (d.toNat<56))=true then some (a,d) else none:=by
    rw[he]; simp [hn]
   clear he;refine DL hb i1 i0 ?_;refine IW ?_ ?_<;>intro hc
   .refine AY hc ?_
    have hy:(y==93)=false:=by
     rw[<-Bool.not_eq_true]; intro e; rw[beq_iff_eq] at e; subst e; simp at hc
    exact⟨by rw[he2,hy]; rfl,trivial⟩
   have hy:(y==93)=true:=by
    rw[beq_iff_eq,<-UInt8.toNat_inj];simp at hc; show y.toNat=93; omega
   refine A8 hc i0 ?_;refine IW ?_ ?_<;>intro hd
   .refine AY hd ?_
    have:decide (48<=d.toNat)=false:=by simp at hd|-; omega
    exact⟨by rw[he2,this]; simp; rfl,trivial⟩
   have hd1:48<=d.toNat:=by simp at hd; omega
   refine A8 hd i0 ?_;refine BM ?_ ?_<;>intro hf
   .refine AA ?_
    have:decide (d.toNat<56)=false:=by simp at hf|-; omega
    exact⟨by rw[he2,this]; simp; rfl,trivial⟩
   have hd2:d.toNat<56:=by simp at hf; omega
   refine AA ?_;refine DZ A7 ?_;refine NY @APT @vD @AT3 i0 (wrap_u8 (n:=(d.toNat:Int)-48) U U) (wrap_i64 (n:=(d.toNat:Int)-48) U U) ?_;exact⟨by rw[he2]; simp [hy,hd1,hd2]; rfl,trivial⟩
theorem mB {s:ByteArray}(hu:u<=s.size):IA jA h 9 (.str s) none (some (.n (u:Int))) none=some (.str (s.extract 0 u)):=by
 have:Tryz.prog.underlying 9=some .string:=A7;simp [IA,this,G8,hu]
theorem ALH (a b:List UInt8):(⟨(a++b).toArray⟩:ByteArray).extract 0 a.length=⟨a.toArray⟩:=by
 ext1
 simp
theorem AML (s:ByteArray)(h:Hp)(hl:s.size<=1099511627776):PCall (En G) 369 [.str s] h (elemV (JO s)):=by
 refine acL Tryz.func369 [.tmp 2,.tmp 3,.tmp 4] ?_;obtain⟨⟨l⟩⟩:=s;rw[szl] at hl;rcases jW l.length 4 with h4|h4
 .have hd:decide ((l.length:Int)<4)=true:=by simp; omega
  refine A8 szl hd ?_
  have:JO ⟨l.toArray⟩=none:=by
   unfold JO; rw[if_neg]; simp; omega
  exact⟨by rw[this]; rfl,trivial⟩
 obtain⟨b,x,d,y,rfl⟩:=three (U:3<=l.length);have hlen:(b++[x,d,y]).length=b.length+3:=AZ;rw[hlen] at hl h4;have hbl:0<b.length:=U;have hb:b≠[]:=List.length_pos_iff.1 hbl;have he:=dY (x:=x) (d:=d) (y:=y) hb;generalize hn:EX ⟨b.toArray⟩=nm at he;have i1:O8 jA 9 (.str ⟨(b++[x,d,y]).toArray⟩) (.n ((b.length:Int)+2))=some (.int .u8 y.toNat):=ixl (k:=b.length+2) U AZ;have i2:O8 jA 9 (.str ⟨(b++[x,d,y]).toArray⟩) (.n ((b.length:Int)+1))=some (.int .u8 d.toNat):=ixl (k:=b.length+1) U AZ;have i3:O8 jA 9 (.str ⟨(b++[x,d,y]).toArray⟩) (.n (b.length:Int))=some (.int .u8 x.toNat):=ixl (k:=b.length) rfl AZ;have i4:=mB (s:=⟨(b++[x,d,y]).toArray⟩) (u:=b.length) (h:=h) (by rw[szl]; omega);rw[ALH] at i4;have hsz:(⟨(b++[x,d,y]).toArray⟩:ByteArray).size=b.length+3:=by rw[szl,hlen]
 generalize (⟨(b++[x,d,y]).toArray⟩:ByteArray)=s at *;have w1:IntKind.i64.wrap (((b.length+3:Nat):Int)-1)=(b.length:Int)+2:=by rw[wrap_i64 U U]; omega
 have w2:IntKind.i64.wrap (((b.length+3:Nat):Int)-2)=(b.length:Int)+1:=by rw[wrap_i64 U U]; omega
 have w3:IntKind.i64.wrap (((b.length+3:Nat):Int)-3)=(b.length:Int):=by rw[wrap_i64 U U]; omega
 have hd8:d.toNat<256:=d.toNat_lt;have w4:IntKind.i64.wrap (d.toNat:Int)=(d.toNat:Int):=wrap_i64 U U;have w5:IntKind.i64.wrap ((d.toNat:Int)-48)=(d.toNat:Int)-48:=wrap_i64 U U;have ha:decide (((b.length+3:Nat):Int)<4)=false:=by simp; omega
 refine YS hsz ha w1 w2 w3 i1 i2 i3 i4 ?_;refine IW ?_ ?_<;>intro hc
 .refine AY hc ?_
  have hy:(y==93)=false:=by
   rw[<-Bool.not_eq_true]; intro e; rw[beq_iff_eq] at e; subst e; simp at hc
  exact⟨by rw[he,hy]; simp; rfl,trivial⟩
 have hy:(y==93)=true:=by
  rw[beq_iff_eq,<-UInt8.toNat_inj];simp at hc; show y.toNat=93; omega
 refine YS hsz hc w1 w2 w3 i1 i2 i3 i4 ?_;refine BM ?_ ?_<;>intro hd
 .refine AA ?_
  have hx:(x==91)=false:=by
   rw[<-Bool.not_eq_true]; intro e; rw[beq_iff_eq] at e; subst e; simp at hd
  exact⟨by rw[he,hx]; simp; rfl,trivial⟩
 have hx:(x==91)=true:=by
  rw[beq_iff_eq,<-UInt8.toNat_inj];simp at hd; show x.toNat=91; omega
 refine cB @AT3 hsz w1 w2 w3 i1 i2 i3 i4 w4 w5 ?_;refine IW ?_ ?_<;>intro hf
 .refine AY hf ?_
  have:decide (48<=d.toNat)=false:=by simp at hf|-; omega
  exact⟨by rw[he,this]; simp; rfl,trivial⟩
 have hd1:48<=d.toNat:=by simp at hf; omega
 refine AY hf ?_;refine IW ?_ ?_<;>intro hf
 .refine AY hf ?_
  have:decide (d.toNat<56)=false:=by simp at hf|-; omega
  exact⟨by rw[he,this]; simp; rfl,trivial⟩
 have hd2:d.toNat<56:=by simp at hf; omega
 refine AY hf ?_;refine(TA G ⟨b.toArray⟩ h).use ?_;refine AY hn ?_;cases nm
 .refine AA ?_
  exact⟨by rw[he]; simp; rfl,trivial⟩
 .refine AA ?_
  exact⟨by rw[he]; simp [hy,hx,hd1,hd2]; rfl,trivial⟩
def FT (s:ByteArray):Bool:=(JO s).isSome||EX s
theorem oP (o:Option (List UInt8×UInt8)):∃a n,elemV o=.tup [.str a,.n n,.bool o.isSome]:=by
 cases o with
 | none=>exact⟨_,_,rfl⟩
 | some x=>exact⟨_,_,rfl⟩
theorem AHL (hG:GOk G)(s:ByteArray)(h:Hp)(hl:s.size<=1048576):PCall (En G) 250 [.str s] h (.bool (FT s)):=by
 refine acT Tryz.func250 2 ?_;refine AA ?_;refine(AAA G hG s h hl).use ?_;obtain⟨a,n,e⟩:=oP (JO s);rw[e];refine AA ?_;cases hs:(JO s).isSome
 .refine AA ?_
  refine(L8 G hG.kw s h U).uu ?_;exact⟨by unfold FT; rw[hs]; rfl,trivial⟩
 .refine AA ?_
  exact⟨by unfold FT; rw[hs]; rfl,trivial⟩
theorem AN3 (s:ByteArray)(h:Hp)(hl:s.size<=1048576):PCall (En G) 333 [.str s] h (.bool (FT s)):=by
 refine acT Tryz.func333 2 ?_;refine AA ?_;refine(AML G s h U).use ?_;obtain⟨a,n,e⟩:=oP (JO s);rw[e];refine AA ?_;cases hs:(JO s).isSome
 .refine AA ?_
  refine(TA G s h).uu ?_;exact⟨by unfold FT; rw[hs]; rfl,trivial⟩
 .refine AA ?_
  exact⟨by unfold FT; rw[hs]; rfl,trivial⟩
def NS (s:ByteArray):Bool:=s.toList==(⟨#[]⟩:ByteArray).toList
def badO (e:Ex):Bool:=decide (e.op<1)||decide (e.op>25)
def WU (e:Ex):Bool:=((e.op==1)&&(decide (e.n<0)||decide (e.n>65535)))||(!(e.op==1) && !(e.n==0))
def TS (e:Ex):Bool:=(!KN e.op && !NS e.name) || !UZ e.op e.args.length
def U5 (e:Ex):Bool:=((e.op==2) && !FT e.name)||(((e.op==3)||(e.op==24)) && !EX e.name)
def G7 (e:Ex):Int:=if badO e then 1 else if WU e then 1 else if TS e then 1 else if U5 e then 7 else 0
theorem ANN (hG:GOk G)(e:Ex)(h:Hp)(hl:e.name.size<=1048576):PCall (En G) 172 [.agg (AX e)] h (.n (G7 e)):=by
 refine ACalls.pure0 rfl ?_;refine acT Tryz.func172 2 ?_;refine O3 @bxE @J3 ?_;refine RS (fun F H=>F 3=.bool (KN e.op)∧F 1=.ptr h.length 0 0∧H=h++[yK 4 [AX e]]) ?_ ?_
 .cases b2:(e.op==2)<;>cases b3:(e.op==3)
  all_goals
   refine MB b2 b3 @J3 ?_;exact⟨by simp [KN,b2,b3],trivial,trivial⟩
 rintro F H ⟨f3,f1,rfl⟩;refine MB f1 f3 @J3 ?_;refine RS (fun F H=>F 17=.bool (badO e)∧F 3=.bool (KN e.op)∧F 1=.ptr h.length 0 0∧H=h++[yK 4 [AX e]]) ?_ ?_
 .cases b2:decide (e.op<1)
  all_goals
   refine P7 b2 f1 f3 @J3 ?_;exact⟨by simp [badO,b2],trivial,trivial,trivial⟩
 clear f1 f3;rintro F H ⟨f17,f3,f1,rfl⟩;refine AY f17 ?_;refine BM ?_ ?_<;>intro ho
 .refine AA ?_
  exact⟨by unfold G7; rw[if_pos ho],_,rfl⟩
 refine P7 f1 f3 @J3 @dW ?_;refine RS (fun F H=>F 26=.bool (WU e)∧F 3=.bool (KN e.op)∧F 1=.ptr h.length 0 0∧H=h++[yK 4 [AX e]]) ?_ ?_
 .cases b1:(e.op==1)<;>cases b2:decide (e.n<0)<;>cases b3:decide (e.n>65535)<;>cases b4:(e.n==0)
  all_goals
   simp only[vQ,EI,P8,eP,YU,APN,CG,FV,↓reduceIte,jC,qV,enP,YG,yP,bne,b1,b2,b3,b4,f1,f3,D5 ag3,J3,dW];exact⟨by simp [WU,b1,b2,b3,b4],trivial,trivial,trivial⟩
 clear f1 f3 f17;rintro F H ⟨f26,f3,f1,rfl⟩;refine AY f26 ?_;refine BM ?_ ?_<;>intro hn
 .refine AA ?_
  exact⟨by unfold G7; rw[if_neg (by simp [ho]),if_pos hn],_,rfl⟩
 refine MB f1 f3 @RF ?_;refine RS (fun F H=>F 50=.bool (TS e)∧F 3=.bool (KN e.op)∧F 1=.ptr h.length 0 0∧H=h++[yK 4 [AX e]]) ?_ ?_
 .cases bm:KN e.op<;>cases b5:NS e.name
  all_goals
   have b6:=b5;unfold NS at b6;simp only[vQ,EI,P8,eP,YU,CG,FV,gX,pF,↓reduceIte,jC,qV,enP,oC,bne,bm,b6,f1,f3,D5 ag9,RF,ldE]
  .exact⟨by simp [TS,bm,b5],trivial,trivial,trivial⟩
  all_goals
   refine(rH G e _).use ?_;simp only[vQ,EI,CG,AA1,eS,↓reduceIte,jC,bne,bm,f1,f3];exact⟨by simp [TS,bm,b5],trivial,trivial,trivial⟩
 clear f1 f3 f26;rintro F H ⟨f50,f3,f1,rfl⟩;refine AY f50 ?_;refine BM ?_ ?_<;>intro hs
 .refine AA ?_
  exact⟨by unfold G7; rw[if_neg (by simp [ho]),if_neg (by simp [hn]),if_pos hs],_,rfl⟩
 refine P7 f1 f3 @J3 @RF ?_
 have fin:∀b,U5 e=b->G7 e=if b then 7 else 0:=by
  intro b hb;unfold G7; rw[if_neg (by simp [ho]),if_neg (by simp [hn]),if_neg (by simp [hs]),hb]
 cases b2:(e.op==2)
 .refine aJ b2 f1 f3 @J3 @RF ?_
  cases b3:(e.op==3)<;>cases b4:(e.op==24)
  all_goals
   refine aI b3 b4 f1 f3 @J3 @RF ?_
  .exact⟨by rw[fin false (by simp [U5,b2,b3,b4])]; rfl,_,rfl⟩
  all_goals
   refine(L8 G hG.kw e.name _ U).use ?_;cases bi:EX e.name
   .refine AA ?_
    exact⟨by rw[fin true (by simp [U5,b2,b3,b4,bi])]; rfl,_,rfl⟩
   .refine AA ?_
    exact⟨by rw[fin false (by simp [U5,b2,b3,b4,bi])]; rfl,_,rfl⟩
 .have e2:e.op=2:=BG b2
  refine aJ b2 f1 f3 @J3 @RF ?_;refine(AHL G hG e.name _ hl).use ?_;cases bi:FT e.name
  .refine AA ?_
   exact⟨by rw[fin true (by simp [U5,b2,bi])]; rfl,_,rfl⟩
  .refine MB f1 @J3 e2 ?_
   exact⟨by rw[fin false (by simp [U5,e2,bi])]; rfl,_,rfl⟩
def pJ (e:Ex):Bool:=badO e||decide (e.n<0)||decide (e.n>65535)||(!(e.n==0) && !(e.op==1))||(!NS e.name && !KN e.op)
def AFL (op:Int)(n:Nat):Bool:=((op==23)&&(decide ((n:Int)<3)||decide ((n:Int)>33)||((n:Int)%2==0)))||(!(op==23) && !((n:Int)==arity op))
theorem AZW (op:Int)(n:Nat):AFL op n = !UZ op n:=by
 unfold AFL UZ;rcases hc:(op==23) with _|_
 .simp
 .have h1:decide ((n:Int)<3) = !decide ((n:Int)≥3):=by rw[qY]; simp
  have h2:decide ((n:Int)>33) = !decide ((n:Int)<=33):=by rw[qY]; simp
  have h3:((n:Int)%2==0) = !((n:Int)%2==1):=by rw[qY]; simp; omega
  rw[h1,h2,h3];cases ((n:Int)%2==1)<;>cases decide ((n:Int)≥3)<;>cases decide ((n:Int)<=33)<;>rfl
theorem AZX (e:Ex):(pJ e||AFL e.op e.args.length)=(badO e||WU e||TS e):=by
 rw[AZW];unfold pJ WU TS;rcases h1:(e.op==1) with _|_
 .rcases h2:(e.n==0) with _|_
  .simp
  .have h3:decide (e.n<0)=false:=by simp at h2|-; omega
   have h4:decide (e.n>65535)=false:=by simp at h2|-; omega
   rw[h3,h4];cases badO e<;>cases NS e.name<;>cases KN e.op<;>cases UZ e.op e.args.length<;>rfl
 .cases badO e<;>cases NS e.name<;>cases KN e.op<;>cases UZ e.op e.args.length<;>cases decide (e.n<0)<;>cases decide (e.n>65535)<;>cases (e.n==0)<;>rfl
theorem fG (e:Ex):G7 e=if pJ e then 1 else if AFL e.op e.args.length then 1 else if U5 e then 7 else 0:=by
 have:=AZX e;unfold G7
 revert this
 cases pJ e<;>cases AFL e.op e.args.length<;>cases badO e<;>cases WU e<;>cases TS e<;>simp
theorem AMA (e:Ex)(h:Hp)(hl:e.name.size<=1048576):PCall (En G) 310 [.agg (AX e)] h (.n (G7 e)):=by
 refine ACalls.pure0 rfl ?_;refine acT Tryz.func310 2 ?_;refine O3 @bxE @J3 ?_;refine RS (fun F H=>F 42=.bool (pJ e)∧F 1=.ptr h.length 0 0∧H=h++[yK 4 [AX e]]) ?_ ?_
 .cases b1:decide (e.op<1)
  case true =>
   refine AY b1 ?_;exact⟨by simp [pJ,badO,b1],trivial,trivial⟩
  refine MB b1 @J3 @dW ?_;cases b2:decide (e.op>25)
  case true =>
   refine AY b2 ?_;exact⟨by simp [pJ,badO,b2],trivial,trivial⟩
  refine MB b2 @J3 @dW ?_;have bO:badO e=false:=by unfold badO; rw[b1,b2]; rfl
  cases b3:decide (e.n<0)
  case true =>
   refine AY b3 ?_;exact⟨by simp only[pJ,b3]; simp,trivial,trivial⟩
  refine MB b3 @J3 @dW ?_;cases b4:decide (e.n>65535)
  case true =>
   refine AY b4 ?_;exact⟨by simp only[pJ,b4]; simp,trivial,trivial⟩
  simp only[vQ,EI,CG,↓reduceIte,jC,enP,yP,b4,bne,D5 ag3,D5 ag9,J3,dW,RF]
  have fin:∀b,((!(e.n==0) && !(e.op==1))||(!NS e.name && !KN e.op))=b->pJ e=b:=by
   intro b hb;unfold pJ; rw[bO,b3,b4]; simpa using hb
  cases b5:(e.n==0)<;>cases b6:(e.op==1)<;>cases b7:NS e.name
  all_goals
   have b8:=b7;unfold NS at b8;simp only[vQ,EI,P8,eP,YU,APN,CG,FV,gX,pF,↓reduceIte,jC,qV,enP,YG,oC,bne,b5,b6,b8,D5 ag3,D5 ag9,J3,dW,RF]
  all_goals first
   | exact⟨by rw[fin _ rfl]; simp [b5,b6,b7],trivial,trivial⟩
   | refine(fH G e.op _).uu ?_
     exact⟨by rw[fin _ rfl]; simp [b5,b6,b7],trivial,trivial⟩
 rintro F H ⟨f42,f1,rfl⟩;refine AY f42 ?_;refine BM ?_ ?_<;>intro ho
 .refine AA ?_
  exact⟨by rw[fG,if_pos ho],_,rfl⟩
 refine MB f1 @J3 @YK ?_;generalize hn:e.args.length=n;have hm:(n:Int).tmod 2=(n:Int)%2:=Int.tmod_eq_emod_of_nonneg U;have br:IQ jA 3 .rem (.n (n:Int)) (.n 2)=some (.n ((n:Int)%2)):=by rw[AAK _ _ _ _ _ DF,hm]
 refine RS (fun F H=>F 73=.bool (AFL e.op n)∧F 1=.ptr h.length 0 0∧H=h++[yK 4 [AX e]]) ?_ ?_
 .cases b1:(e.op==23)
  .simp only[vQ,EI,P8,eP,APN,CG,FV,↓reduceIte,jC,enP,YG,bne,b1,f1,D5 ag3,J3]
   refine(APE G e.op _).use ?_;simp only[vQ,EI,P8,CG,↓reduceIte,jC,enP,bne];exact⟨by unfold AFL; rw[b1]; simp,f1,trivial⟩
  .cases b2:decide ((n:Int)<3)<;>cases b3:decide ((n:Int)>33)<;>cases b4:((n:Int)%2==0)
   all_goals
    simp only[vQ,EI,P8,eP,YU,APN,CG,FV,JS,↓reduceIte,jC,qV,enP,YG,bne,b1,b2,b3,b4,br,f1,D5 ag3,J3];exact⟨by unfold AFL; rw[b1,b2,b3,b4]; simp,trivial,trivial⟩
 clear f1 f42;rintro F H ⟨f73,f1,rfl⟩;refine AY f73 ?_;subst hn;refine BM ?_ ?_<;>intro hs
 .refine AA ?_
  exact⟨by rw[fG,if_neg (by simp [ho]),if_pos hs],_,rfl⟩
 refine MB f1 @J3 @RF ?_
 have fin:∀b,U5 e=b->G7 e=if b then 7 else 0:=by
  intro b hb;rw[fG,if_neg (by simp [ho]),if_neg (by simp [hs]),hb]
 cases b2:(e.op==2)
 .refine P7 b2 f1 @J3 @RF ?_
  refine(fH G e.op _).use ?_;cases bm:KN e.op
  .have hv:U5 e=false:=by
    unfold KN at bm; simp only[Bool.or_eq_false_iff] at bm;simp [U5,bm.1.1,bm.1.2,bm.2]
   refine AA ?_;exact⟨by rw[fin false hv]; rfl,_,rfl⟩
  have hv:U5 e = !EX e.name:=by
   unfold KN at bm; rw[b2] at bm; simp only[wV] at bm;unfold U5; rw[b2,bm]; simp
  simp only[vQ,EI,P8,CG,↓reduceIte,jC,enP,YG,oC,bne,b2,f1,D5 ag9,D5 ag3,J3,RF];refine(TA G e.name _).use ?_;cases bi:EX e.name
  .refine AA ?_
   exact⟨by rw[fin true (by rw[hv,bi]; rfl)]; rfl,_,rfl⟩
  .refine AA ?_
   exact⟨by rw[fin false (by rw[hv,bi]; rfl)]; rfl,_,rfl⟩
 .have e2:e.op=2:=BG b2
  have hv:U5 e = !FT e.name:=by
   unfold U5; rw[e2]; simp
  refine P7 b2 f1 @J3 @RF ?_;refine(AN3 G e.name _ hl).use ?_;cases bi:FT e.name
  .refine AA ?_
   exact⟨by rw[fin true (by rw[hv,bi]; rfl)]; rfl,_,rfl⟩
  .refine O3 f1 @J3 ?_
   refine(fH G e.op _).use ?_;have bm:KN e.op=true:=by rw[e2]; rfl
   simp only[vQ,EI,P8,eP,CG,FV,↓reduceIte,jC,qV,enP,YG,bne,bm,f1,D5 ag3,J3,b2];exact⟨by rw[fin false (by rw[hv,bi]; rfl)]; rfl,_,rfl⟩
theorem ag230:JJ jA 230=some false:=A7
theorem sz230:szO jA 230=some 1:=A7
theorem RJ (h:Hp):GU jA h 79=some (.ptr h.length 0 0,h++[yK 4 [[.n 0,.n 0,.str ⟨#[]⟩,.sl .nil 0 []]]]):=FI (row:=[.n 0,.n 0,.str ⟨#[]⟩,.sl .nil 0 []]) A7
theorem rD (h:Hp)(e:Ex)(row:List AV)(hr:row.length=4):DT jA (h++[yK 4 [row]]) 79 (.ptr h.length 0 0) (.agg (AX e))=some (h++[yK 4 [AX e]]):=by
 rw[SE (O7 (VN e)) (by rw[EC]; exact JB) (by rw[EC,hr]; exact jF _)];have:splice row 0 (AX e)=AX e:=by unfold splice; simp [EC,hr]
 rw[this]
theorem BAN (h:Hp):GU jA h 38=some (.ptr h.length 0 0,h++[yK 1 [[.n 0]]]):=FI (row:=[.n 0]) A7
theorem al3 (h:Hp):GU jA h 3=some (.ptr h.length 0 0,h++[yK 1 [[.n 0]]]):=FI (row:=[.n 0]) A7
theorem A1S (h:Hp):GU jA h 230=some (.ptr h.length 0 0,h++[yK 1 [[.nilfn]]]):=FI (row:=[.nilfn]) A7
theorem GG {h:Hp}{t:TypeId}{b:Nat}{v:AV}(hag:JJ jA t=some false)(hb:h[b]?=some (yK 1 [[v]])):BH jA h t (.ptr b 0 0)=some v:=by
 rw[BA hag hb (row:=[v]) rfl]; rfl
theorem UH {t:TypeId}{b:Nat}{u:AV}(hs:szO jA t=some 1)(hc:H9 u=some [u])(hb:h[b]?=some (yK 1 [[v]])):DT jA h t (.ptr b 0 0) u=some (h.set b (yK 1 [[u]])):=by
 rw[G5 hc hs hb (row:=[v]) rfl AZ]; rfl
theorem BAA (h:Hp)(f:Fn)(a b:List AV):MS h (.fn f a b)=some (.ptr h.length 0 0,h++[yK 1 [[.fn f a b]]]):=rfl
def Chg (c:Nat)(h h':Hp):Prop:=h.length<=h'.length∧∀b,b<h.length->b≠c->h'[b]?=h[b]?
theorem Chg.refl (c:Nat)(h:Hp):Chg c h h:=⟨jF _,fun _ _ _=>rfl⟩
theorem Chg.trans {a b d:Hp}(h1:Chg c a b)(h2:Chg c b d):Chg c a d :=
 ⟨qQ h1.1 h2.1,fun i hi hc=>by rw[h2.2 i (Nat.lt_of_lt_of_le hi h1.1) hc,h1.2 i hi hc]⟩
theorem Chg.app (c:Nat)(h x:Hp):Chg c h (h++x):=⟨AZ,fun i hi _=>zX hi⟩
theorem Chg.set (c:Nat)(h:Hp)(x:ABlk):Chg c h (h.set c x):=⟨AZ,fun i _ hc=>by rw[zJ,if_neg (fun e=>hc e.symm)]⟩
theorem Chg.get {b:Nat}{x:ABlk}(hc:Chg c h h')(hb:h[b]?=some x)(hne:b≠c):h'[b]?=some x:=by
 rw[hc.2 b (Z hb) hne]; exact hb
theorem Chg.above (hc:Chg c h h')(hl:h.length<=c):∃x,h'=h++x:=by
 refine⟨h'.drop h.length,?_⟩
 have:h'.take h.length=h:=by
  refine List.ext_getElem? fun i=>?_
  rcases jW i h.length with hi|hi
  .rw[List.getElem?_take_of_lt hi,hc.2 i hi U]
  .rw[zY (by rw[jZ]; omega),zY hi]
 conv=>lhs; rw[<-wZ h.length h',this]
def run (upd:Ex->Int->Int)(cont:Int->Bool):List Ex->Int->Int×Bool
 | [],z=>(z,true)
 | e::es,z=>if cont (upd e z) then run upd cont es (upd e z) else (upd e z,false)
theorem run_go {upd:Ex->Int->Int}{cont:Int->Bool}:∀ {xs:List Ex} (ys:List Ex) {z z':Int},run upd cont xs z=(z',true)->run upd cont (xs++ys) z=run upd cont ys z'
 | [],ys,z,z',h=>by cases h; rfl
 | x::xs,ys,z,z',h=>by
   simp only[run,zG] at h|-
   split at h
   .rename_i hc; rw[if_pos hc]; exact run_go ys h
   .cases h
theorem run_stop {upd:Ex->Int->Int}{cont:Int->Bool}:∀ {xs:List Ex} (ys:List Ex) {z z':Int},run upd cont xs z=(z',false)->run upd cont (xs++ys) z=(z',false)
 | [],ys,z,z',h=>by cases h
 | x::xs,ys,z,z',h=>by
   simp only[run,zG] at h|-
   split at h
   .rename_i hc; rw[if_pos hc]; exact run_stop ys h
   .rename_i hc; rw[if_neg hc]; exact h
theorem LV (xs:List Ex)(j:Nat)(hj:j<xs.length):FD (xs.take (j+1))=FD (xs.take j)++pre xs[j]:=by
 rw[jU hj,NQ]; simp [FD]
theorem Y2 {a:Ex}:∀ {xs:List Ex},a∈xs->∀x∈pre a,x∈FD xs
 | [],h,_,_=>by cases h
 | y::ys,h,x,hx=>by
   simp only[FD,zI]
   cases zQ.1 h with
   | inl e=>subst e; exact .inl hx
   | inr e=>exact .inr (Y2 e x hx)
def AL6 (G:Nat->AV)(k:FuncId)(upd:Ex->Int->Int)(cont:Int->Bool)(e:Ex):Prop :=
 ∀(h:Hp) (c:Nat) (z:Int),h[c]?=some (yK 1 [[.n z]])->ACalls (En G) k [.agg (AX e),.ptr c 0 0] h fun v h'=>v=.bool (cont (upd e z))∧Chg c h h'∧h'[c]?=some (yK 1 [[.n (upd e z)]])
theorem AOW (k:FuncId)(upd:Ex->Int->Int)(cont:Int->Bool)(c vb db:Nat)(hv:vb≠c)(hd:db≠c)(e:Ex):
  wt e<=1099511627776->(∀x∈pre e,AL6 G k upd cont x)->∀(h:Hp) (z:Int),h[c]?=some (yK 1 [[.n z]])->h[vb]?=some (yK 1 [[.fn (.func k) [] [.ptr c 0 0]]]) ->
   h[db]?=some (yK 1 [[.fn (.func 248) [] [.ptr vb 0 0,.ptr db 0 0]]]) ->
   ACalls (En G) 248 [.agg (AX e),.ptr vb 0 0,.ptr db 0 0] h fun v h'=>v=.bool (run upd cont (pre e) z).2∧Chg c h h'∧h'[c]?=some (yK 1 [[.n (run upd cont (pre e) z).1]]):=by
 induction e using Ex.induct with|h e ih=>?_
 intro hw hvis h z hc hvb hdb;have hcl:=Z hc;have hal:e.args.length<=1099511627776:=by have:=VY e.args; have:=MN e; omega
 refine acT Tryz.func248 4 ?_;simp only[vQ,CG,SL,qJ,zG,↓reduceIte,jC,enP,bxE,GG ag230 (AB hvb),ldE];refine(hvis e (by rw[pre_eq]; simp) _ c z (AB hc)).mono ?_;rintro v h1 ⟨rfl,hch,hc1⟩;have hch0:=(Chg.app c h _).trans hch;have hb3:h1[h.length]?=some (yK 4 [AX e]):=hch.get (AQ _ _) U;have hrun:run upd cont (pre e) z=if cont (upd e z) then run upd cont (FD e.args) (upd e z) else (upd e z,false):=by rw[pre_eq]; rfl
 refine AA ?_;cases hct:cont (upd e z)
 .refine AA ?_
  rw[hrun,hct];exact⟨rfl,hch0,hc1⟩
 rw[hct,if_pos rfl] at hrun;have hvb1:=hch0.get hvb hv;have hdb1:=hch0.get hdb hd;have l3:BH jA h1 23 (.ptr h.length 0 3)=some (.sl e.m 4 (e.args.map AX)):=by rw[BA LH hb3 (row:=AX e) rfl,YK]
 refine AY l3 ?_;refine BJ (fun n F H=>∃j z',n+j=e.args.length∧F 1=.ptr vb 0 0∧F 2=.ptr db 0 0∧F 12=.sl e.m 4 (e.args.map AX)∧F 13=.n e.args.length∧F 14=.n (j:Nat)∧Chg c h H∧H[c]?=some (yK 1 [[.n z']])∧run upd cont (FD (e.args.take j)) (upd e z)=(z',true)) e.args.length ⟨0,upd e z,AZ,EK,EK,EK,EK,EK,hch0,hc1,rfl⟩ ?_;rintro n F H ⟨j,z',hj,f1,f2,f12,f13,f14,hC,hcz,hr⟩;refine A8 f13 f14 ?_;refine D8 ?_ ?_<;>intro hj'
 .have hdH:H[db]?=some (yK 1 [[.fn (.func 248) [] [.ptr vb 0 0,.ptr db 0 0]]]):=hC.get hdb hd
  have hvH:H[vb]?=some (yK 1 [[.fn (.func k) [] [.ptr c 0 0]]]):=hC.get hvb hv;simp only[vQ,CG,qJ,zG,↓reduceIte,jC,enP,PQ,jQ,f12,f14,CX hj',DC O1 JB EC hj',RJ,rD _ _ [.n 0,.n 0,.str ⟨#[]⟩,.sl .nil 0 []] rfl,f2,GG ag230 (AB hdH),ldE];have hmem:e.args[j]∈e.args:=jI hj';refine(ih e.args[j] hmem (by have:=VX hmem; have:=MN e; omega) (fun x hx=>hvis x (by rw[pre_eq]; exact yF _ (Y2 hmem x hx))) _ z' (AB hcz) (AB hvH) (AB hdH)).mono ?_;rintro v h2 ⟨rfl,hch2,hc2⟩;have hC2:=hC.trans ((Chg.app c H _).trans hch2)
  have hsplit:FD e.args=FD (e.args.take j)++(pre e.args[j]++FD (e.args.drop (j+1))):=by
   rw[<-zK,<-LV _ _ hj',<-NQ,wZ]
  refine AA ?_;rcases hrr:run upd cont (pre e.args[j]) z' with⟨z2,b2⟩;rw[hrr] at hc2;cases b2
  .refine AA ?_
   have:run upd cont (pre e) z=(z2,false):=by rw[hrun,hsplit,run_go _ hr]; exact run_stop _ hrr
   rw[this];exact⟨rfl,hC2,hc2⟩
  .refine NY f1 f2 f12 f13 f14 (CZ j) ?_
   refine⟨n-1,U,j+1,z2,U,trivial,trivial,trivial,trivial,rfl,hC2,hc2,?_⟩;rw[LV _ _ hj',run_go _ hr]; exact hrr
 .refine AA ?_
  rw[jJ U] at hr;rw[hrun,hr];exact⟨rfl,hC,hcz⟩
theorem sF (k:FuncId)(upd:Ex->Int->Int)(cont:Int->Bool)(c:Nat)(e:Ex)(hw:wt e<=1099511627776)(hvis:∀x∈pre e,AL6 G k upd cont x)(h:Hp)(z:Int)(hc:h[c]?=some (yK 1 [[.n z]])):
  ACalls (En G) 170 [.agg (AX e),.fn (.func k) [] [.ptr c 0 0]] h fun _ h'=>Chg c h h'∧h'[c]?=some (yK 1 [[.n (run upd cont (pre e) z).1]]):=by
 have hcl:=Z hc;refine acL Tryz.func170 [] ?_;refine DL @bxE @BAA A1S ?_;have g0:(h++[yK 4 [AX e]]++[yK 1 [[AV.fn (.func k) [] [.ptr c 0 0]]]]++[yK 1 [[AV.nilfn]]])[(h++[yK 4 [AX e]]++[yK 1 [[AV.fn (.func k) [] [.ptr c 0 0]]]]).length]?=some (yK 1 [[.nilfn]]):=AQ _ _;simp only[vQ,CG,↓reduceIte,jC,enP,UH sz230 (A1Y _ _ _) g0]
 generalize hdb:(h++[yK 4 [AX e]]++[yK 1 [[AV.fn (.func k) [] [.ptr c 0 0]]]]).length=db at g0|-
 generalize hvb:(h++[yK 4 [AX e]]).length=vb;have hvl:vb=h.length+1:=by rw[<-hvb]; simp
 have hdl:db=h.length+2:=by rw[<-hdb]; simp
 generalize hH:(h++[yK 4 [AX e]]++[yK 1 [[AV.fn (.func k) [] [.ptr c 0 0]]]]++[yK 1 [[AV.nilfn]]]).set db (yK 1 [[AV.fn (.func 248) [] [.ptr vb 0 0,.ptr db 0 0]]])=H;have h1:H[db]?=some (yK 1 [[.fn (.func 248) [] [.ptr vb 0 0,.ptr db 0 0]]]):=by rw[<-hH]; exact CP g0
 have h2:H[vb]?=some (yK 1 [[.fn (.func k) [] [.ptr c 0 0]]]):=by
  rw[<-hH]; refine CY ?_ U;rw[<-hvb]; exact AB (AQ _ _)
 have h3:H[h.length]?=some (yK 4 [AX e]):=by
  rw[<-hH]; refine CY ?_ U;exact AB (AB (AQ _ _))
 have h4:H[c]?=some (yK 1 [[.n z]]):=by
  rw[<-hH]; refine CY ?_ U;exact AB (AB (AB hc))
 have hC:Chg c h H:=by
  refine⟨by rw[<-hH]; simp,fun b hb hbc=>?_⟩;obtain⟨x,hx⟩:∃x,h[b]?=some x:=⟨_,jG hb⟩;rw[<-hH,hx];exact CY (AB (AB (AB hx))) U
 simp only[vQ,CG,qJ,zG,↓reduceIte,jC,enP,GG ag230 h1,IM h3];refine(AOW G k upd cont c vb db U U e hw hvis H z h4 h2 h1).mono ?_;rintro v h' ⟨rfl,hch,hc1⟩;refine AY @gF ?_;exact⟨hC.trans hch,hc1⟩
theorem AGN (e:Ex):AL6 G 251 (fun _ z=>IntKind.i64.wrap (z+1)) (fun _=>true) e:=by
 intro h c z hc;have hcl:=Z hc;refine acT Tryz.func251 3 ?_;simp only[vQ,CG,SL,↓reduceIte,jC,enP,jQ,bxE,GG ag3 (AB hc),UH sz3 (YQ _ _) (AB hc)];exact⟨trivial,(Chg.app c h _).trans (Chg.set c _ _),CP (AB hc)⟩
theorem AEC (hG:GOk G)(e:Ex)(hl:e.name.size<=1048576):AL6 G 171 (fun e _=>G7 e) (fun z=>z==0) e:=by
 intro h c z hc;have hcl:=Z hc;refine acT Tryz.func171 3 ?_;refine A8 @bxE @ldE ?_;refine(ANN G hG e _ hl).use ?_;have hs:=CP (y:=yK 1 [[.n (G7 e)]]) (AB (x:=yK 4 [AX e]) hc);simp only[vQ,CG,JS,↓reduceIte,jC,enP,jQ,UH A19 (YQ _ _) (AB hc),GG AU4 hs];exact⟨trivial,(Chg.app c h _).trans (Chg.set c _ _),hs⟩
theorem AB2:∀(xs:List Ex) (n:Nat),n+xs.length<=1099511627776->run (fun _ z=>IntKind.i64.wrap (z+1)) (fun _=>true) xs (n:Int)=(((n+xs.length:Nat):Int),true)
 | [],n,_=>rfl
 | x::xs,n,h=>by
   simp only[zO] at h;simp only[run,if_true];rw[wrap_succ U,AB2 xs (n+1) U,zO];congr 1; omega
def errs (xs:List Ex):Int:=xs.foldl (fun z e=>if z=0 then G7 e else z) 0
theorem zE:∀(xs:List Ex) (z:Int),z≠0->xs.foldl (fun z e=>if z=0 then G7 e else z) z=z
 | [],_,_=>rfl
 | x::xs,z,h=>by rw[wC,if_neg h]; exact zE xs z h
theorem AB4:∀(xs:List Ex),(run (fun e _=>G7 e) (fun z=>z==0) xs 0).1=errs xs
 | []=>rfl
 | x::xs=>by
   simp only[run,errs,wC,if_true];rcases hn:(G7 x==0) with _|_
   .have:G7 x≠0:=BG hn
    rw[zE _ _ this]; rfl
   .have:G7 x=0:=BG hn
    rw[this]; simp only[if_true]; exact AB4 xs
theorem ACQ {x e:Ex}(hx:x∈pre e):x.name.size<=wt e:=by
 induction e using Ex.induct with|h e ih=>?_
 rw[pre_eq] at hx;have hw:=MN e;rcases zQ.1 hx with rfl|hx
 .omega
 have:∀l:List Ex,(∀a∈l,x∈pre a->x.name.size<=wt a)->x∈FD l->x.name.size<=wts l:=by
  intro l
  induction l with
  | nil=>intro _ h; simp [FD] at h
  | cons y l ih2 =>
    intro hh h;simp only[FD,zI] at h;simp only[wts];rcases h with h|h
    .have:=hh y AZ h; omega
    .have:=ih2 (fun a ha=>hh a (by simp [ha])) h; omega
 have:=this e.args (fun a ha=>ih a ha) hx;omega
theorem size_prog (e:Ex)(h:Hp)(hw:wt e<=1099511627776):PCall (En G) 174 [.agg (AX e)] h (.n (pre e).length):=by
 refine ACalls.pure0 rfl ?_;refine acT Tryz.func174 2 ?_;have hg:=AQ (h++[yK 4 [AX e]]) (yK 1 [[.n 0]]);have hs:(h++[yK 4 [AX e]]++[yK 1 [[.n 0]]]).set (h++[yK 4 [AX e]]).length (yK 1 [[.n 0]])=h++[yK 4 [AX e]]++[yK 1 [[.n 0]]]:=vK _ _ _;simp only[vQ,CG,SL,QE,↓reduceIte,jC,enP,jQ,bxE,al3,UH sz3 (YQ _ _) hg,hs,IM (AB (AQ h _))];refine(sF G 251 _ _ _ e hw (fun x _=>AGN G x) _ 0 hg).mono ?_;rintro v h' ⟨hch,hc1⟩;refine AY (GG ag3 hc1) ?_;have:=AB2 (pre e) 0 (by have:=WH e; omega);simp only[jH] at this;exact⟨by rw[show(0:Int)=((0:Nat):Int) from rfl,this],(((Chg.app _ h _).trans (Chg.app _ _ _)).trans hch).above AZ⟩
theorem AIA (e:Ex):wt e<=1099511627776->∀h:Hp,PCall (En G) 173 [.agg (AX e)] h (.n (dep e)):=by
 induction e using Ex.induct with|h e ih=>?_
 intro hw h;have hal:e.args.length<=1099511627776:=by have:=VY e.args; have:=MN e; omega
 refine ACalls.pure0 rfl ?_;refine acT Tryz.func173 2 ?_;refine O3 @bxE @YK ?_;have hdw:dep e<=1099511627776:=qQ (AT0 e) hw;refine BJ (fun n F H=>∃j,n+j=e.args.length∧F 3=.n (deps (e.args.take j):Nat)∧F 7=.sl e.m 4 (e.args.map AX)∧F 8=.n e.args.length∧F 9=.n (j:Nat)∧∃x,H=h++x) e.args.length ⟨0,AZ,EK,EK,EK,EK,⟨_,rfl⟩⟩ ?_;rintro n F H ⟨j,hj,f3,f7,f8,f9,x,rfl⟩;refine A8 f8 f9 ?_;refine D8 ?_ ?_<;>intro hj'
 .have hmem:e.args[j]∈e.args:=jI hj'
  simp only[vQ,CG,↓reduceIte,jC,enP,PQ,jQ,f3,f7,f9,CX hj',DC O1 JB EC hj',RJ,rD _ _ [.n 0,.n 0,.str ⟨#[]⟩,.sl .nil 0 []] rfl,ldE];refine(ih e.args[j] hmem (by have:=VX hmem; have:=MN e; omega) _).use ?_;refine NY @AJA @xF f7 f8 f9 (CZ j) ?_;refine⟨n-1,U,j+1,U,?_,trivial,trivial,rfl,_,by rw[zK]⟩;rw[uK _ _ hj'];congr 1;omega
 .rw[jJ U] at f3
  rw[bP] at hdw|-
  refine A8 f3 (CZ (deps e.args)) ?_;exact⟨trivial,x,rfl⟩
def exE (e:Ex):Int:=if errs (pre e)=0∧(24<dep e∨400<(pre e).length) then 2 else errs (pre e)
def WN (e:Ex):Prop:=wt e<=274877906944∧∀x∈pre e,x.name.size<=1048576
theorem AVD {e:Ex}(hw:wt e<=1048576):WN e:=⟨U,fun x hx=>by have:=ACQ hx; omega⟩
theorem aC (hG:GOk G)(e:Ex)(h:Hp)(hn:WN e):PCall (En G) 96 [.agg (AX e)] h (.n (exE e)):=by
 refine ACalls.pure0 rfl ?_;refine acT Tryz.func96 2 ?_;have hg:=AQ (h++[yK 4 [AX e]]) (yK 1 [[.n 0]]);have hs:(h++[yK 4 [AX e]]++[yK 1 [[.n 0]]]).set (h++[yK 4 [AX e]]).length (yK 1 [[.n 0]])=h++[yK 4 [AX e]]++[yK 1 [[.n 0]]]:=vK _ _ _;have hb:=AB (x:=yK 1 [[.n 0]]) (AQ h (yK 4 [AX e]));have hw:=hn.1;simp only[vQ,CG,SL,QE,↓reduceIte,jC,enP,jQ,bxE,BAN,UH A19 (YQ _ _) hg,hs,IM hb];refine(sF G 171 _ _ _ e U (fun x hx=>AEC G hG x (hn.2 x hx)) _ 0 hg).mono ?_;rintro v h' ⟨hch,hc1⟩;rw[AB4] at hc1;have hb':=hch.get hb AZ;have hab:=(((Chg.app _ h _).trans (Chg.app _ _ _)).trans hch).above (AZ:h.length<=(h++[yK 4 [AX e]]).length);refine AY (GG AU4 hc1) ?_;rcases he:(errs (pre e)==0) with _|_
 .refine AY (GG AU4 hc1) ?_
  have:errs (pre e)≠0:=BG he;exact⟨by unfold exE; rw[if_neg (fun hh=>this hh.1)],hab⟩
 have he0:errs (pre e)=0:=BG he;refine AY (IM hb') ?_;refine(AIA G e U _).uu ?_;refine IW ?_ ?_<;>intro hd
 .refine AY hd ?_
  exact⟨by unfold exE; rw[if_pos ⟨he0,.inl (by simp at hd; omega)⟩],hab⟩
 refine A8 hd (IM hb') ?_;refine(size_prog G e _ U).uu ?_;refine BM ?_ ?_<;>intro hn
 .refine AA ?_
  exact⟨by unfold exE; rw[if_pos ⟨he0,.inr (by simp at hn; omega)⟩],hab⟩
 .refine AY (GG AU4 hc1) ?_
  exact⟨by unfold exE; rw[if_neg (fun hh=>by simp at hn hd; omega)],hab⟩
theorem OC (hG:GOk G)(e:Ex)(h:Hp)(hw:wt e<=1048576):PCall (En G) 96 [.agg (AX e)] h (.n (exE e)):=aC G hG e h (AVD hw)
theorem VO {E:Env}{H:Hint}{x y:Code}{Q:AEx->Fr->Hp->Prop}{b:Bool}(N R:Fr->Hp->Prop)(h1:b=true->awp E H x F h (ARW N R))(h2:b=false->awp E H y F h (ARW N R))(hn:∀F h,N F h->Q .normal F h)(hr:∀F h,R F h->Q .ret F h):
 jN E H x y F h Q (.bool b):=⟨fun e=>AAL N R (h1 e) hn hr,fun e=>AAL N R (h2 e) hn hr⟩
def isB (v:AV)(b:Nat):Prop:=match v with
 | .own b' _ _=>b'=b
 | _=>False
def sv (h:Hp)(m:Nat)(v:AV):Prop:=∃vs:List ByteArray,vs.length<=m∧((vs=[]∧∃k,v=.sl .nil k [])∨∃b,v=.own b 0 vs.length∧h[b]?=some (yK 1 (vs.map qencStr)))
theorem AYH (k:Nat)(v:ByteArray)(h:Hp):PCall (En G) 311 [.sl .nil k [],.str v] h (.bool false):=by
 refine acT Tryz.func311 4 ?_;refine AA ?_;refine BJ (fun n F H=>F 0=.sl .nil k []∧F 5=.n 0∧H=h) 0 ⟨rfl,rfl,rfl⟩ ?_;rintro n F H ⟨f0,f5,rfl⟩;refine O3 f0 f5 ?_;have:decide ((0:Int)<((0:Nat):Int))=false:=AZ;refine AY @this ?_;exact HY
theorem row_map {α:Type}{f:α->List AV}{xs:List α}(hk:k<xs.length):(xs.map f)[k]?=some (f xs[k]):=by
 rw[jV,jG hk]; rfl
theorem FM {x:Hp}{y:ABlk}{b:Nat}(hb:h[b]?=some y):(h++x)[b]?=some y:=by
 rw[zX (Z hb)]; exact hb
theorem AYG (xs:List ByteArray)(b:Nat)(v:ByteArray)(h:Hp)(hb:h[b]?=some (yK 1 (xs.map qencStr)))(hl:xs.length<=1099511627776):
  PCall (En G) 311 [.own b 0 xs.length,.str v] h (.bool (JP xs v)):=by
 refine acT Tryz.func311 4 ?_;refine AA ?_;refine BJ (fun n F H=>∃k,n+k=xs.length∧F 0=.own b 0 xs.length∧F 1=.str v∧F 5=.n (k:Nat)∧H=h∧JP xs v=JP (xs.drop k) v) xs.length ⟨0,AZ,rfl,rfl,rfl,rfl,rfl⟩ ?_;rintro n F H ⟨k,hk,f0,f1,f5,rfl,hin⟩;refine DL f0 f1 f5 ?_;refine D8 ?_ ?_<;>intro hc'
 .have hs:JP (xs.drop k) v=((v.toList==xs[k].toList)||JP (xs.drop (k+1)) v):=TU _ xs k hc'
  have l1:BH jA H 9 (.ptr b k 0)=some (.str xs[k]):=by rw[BA ag9 hb (row:=qencStr xs[k]) (row_map hc')]; rfl
  simp only[vQ,CG,TQ,↓reduceIte,jC,enP,aA,f0,f1,f5,GM hb hc',l1];refine BM ?_ ?_<;>intro hb
  .refine AA ?_
   refine⟨?_,trivial⟩;rw[hin,hs,show(v.toList==xs[k].toList)=true by rw[BEq.comm]; exact hb]; rfl
  .refine A8 f5 (CZ k) ?_
   refine⟨n-1,U,k+1,U,f0,f1,rfl,trivial,?_⟩;rw[hin,hs,show(v.toList==xs[k].toList)=false by rw[BEq.comm]; exact hb]; rfl
 .refine AA ?_
  exact⟨by rw[hin,zM U]; rfl,trivial⟩
theorem ASU (s:ByteArray)(hv:sv h m v)(hm:m<=1099511627776):∃r,PCall (En G) 311 [v,.str s] h (.bool r):=by
 obtain⟨vs,hl,⟨_,k,rfl⟩|⟨b,rfl,hb⟩⟩:=hv
 .exact⟨_,AYH G k s h⟩
 .exact⟨_,AYG G vs b s h hb U⟩
theorem AUI (h:Hp)(s:ByteArray):C9 jA false h 121 1 [(0,.str s)]=some (.sl .full 1 [[.str s]],h):=A7
theorem AUZ (s:ByteArray)(hv:sv h m v)(hm:m<=1099511627776):∃v' h',EP jA true h 121 121 v (.sl .full 1 [[.str s]])=some (v',h')∧sv h' (m+1) v'∧(∀b,isB v' b->b=h.length) ∧
  h.length<=h'.length∧∀b,b<h.length->¬isB v b->h'[b]?=h[b]? := by
 obtain⟨vs,hl,⟨rfl,k,rfl⟩|⟨b,rfl,hb⟩⟩:=hv
 .refine⟨_,_,QT AP7 sz9 APR AUC (F9 h .full 1 [[.str s]]) AZ (GV AZ U),⟨[s],AZ,.inr ⟨h.length,rfl,AQ _ _⟩⟩,fun b hb=>hb.symm,AZ,fun b hb _=>zX hb⟩
 .have hc:IV h (.own b 0 vs.length)=some (1,vs.map qencStr):=by
   rw[JQ hb AZ,zT,jJ AZ]
  refine⟨_,_,P5 AP7 sz9 APR AUC hc (F9 h .full 1 [[.str s]]) AZ (by unfold room; simp; omega),⟨vs++[s],by simp; omega,.inr ⟨h.length,AZ,by simp [qencStr]⟩⟩,fun b hb=>hb.symm,AZ,fun o ho hn=>?_⟩;rw[zX (BG ho)];have hn':¬b=o:=hn;rw[zJ,if_neg hn']
def wRow (n dd:Nat)(f:Int)(v1 v2:AV):List AV:=[.n n,.n dd,.n f,v1,v2]
structure St (h:Hp) (c m1 m2 n dd:Nat) (f:Int) (v1 v2:AV):Prop where
 w:h[c]?=some (yK 5 [wRow n dd f v1 v2])
 s1:sv h m1 v1
 s2:sv h m2 v2
 ap:∀b,isB v1 b->¬isB v2 b
theorem sv.b {h:Hp}{m:Nat}{v:AV}{b:Nat}(hs:sv h m v)(hb:isB v b):∃vs:List ByteArray,h[b]?=some (yK 1 (vs.map qencStr)):=by
 obtain⟨vs,_,⟨_,k,rfl⟩|⟨b',rfl,h'⟩⟩:=hs
 .exact hb.elim
 .cases hb; exact⟨vs,h'⟩
theorem sv.ne {b:Nat}(hs:sv h m v)(hc:h[c]?=some (yK 5 [row]))(hb:isB v b):b≠c:=by
 intro e; subst e;obtain⟨vs,h'⟩:=hs.b hb;rw[h'] at hc; cases hc
theorem sv.keep {m':Nat}(hs:sv h m v)(hm:m<=m')(hk:∀b,isB v b->h'[b]?=h[b]?):sv h' m' v:=by
 obtain⟨vs,hl,⟨e,k,rfl⟩|⟨b,rfl,hb⟩⟩:=hs
 .exact⟨vs,U,.inl ⟨e,k,rfl⟩⟩
 .exact⟨vs,U,.inr ⟨b,rfl,by rw[hk b rfl]; exact hb⟩⟩
structure Ch (c:Nat) (v1 v2:AV) (h:Hp) (v1' v2':AV) (h':Hp):Prop where
 len:h.length<=h'.length
 get:∀b,b<h.length->b≠c->¬isB v1 b->¬isB v2 b->h'[b]?=h[b]?
 n1:∀b,isB v1' b->isB v1 b∨h.length<=b
 n2:∀b,isB v2' b->isB v2 b∨h.length<=b
theorem Ch.refl (c:Nat)(v1 v2:AV)(h:Hp):Ch c v1 v2 h v1 v2 h:=⟨jF _,fun _ _ _ _ _=>rfl,fun _ h=>.inl h,fun _ h=>.inl h⟩
theorem Ch.trans {u1 u2 w1 w2:AV}{a b d:Hp}(h1:Ch c v1 v2 a u1 u2 b)(h2:Ch c u1 u2 b w1 w2 d):Ch c v1 v2 a w1 w2 d:=by
 refine⟨qQ h1.len h2.len,fun i hi hc hv hu=>?_,fun i hi=>?_,fun i hi=>?_⟩
 .rw[h2.get i (Nat.lt_of_lt_of_le hi h1.len) hc (fun e=>(h1.n1 i e).elim hv (fun e=>U)) (fun e=>(h1.n2 i e).elim hu (fun e=>U)),h1.get i hi hc hv hu]
 .rcases h2.n1 i hi with h|h
  .exact h1.n1 i h
  .exact .inr (qQ h1.len h)
 .rcases h2.n2 i hi with h|h
  .exact h1.n2 i h
  .exact .inr (qQ h1.len h)
theorem Ch.app (c:Nat)(v1 v2:AV)(h x:Hp):Ch c v1 v2 h v1 v2 (h++x):=⟨AZ,fun _ hi _ _ _=>zX hi,fun _ h=>.inl h,fun _ h=>.inl h⟩
theorem Ch.set (c:Nat)(v1 v2:AV)(h:Hp)(x:ABlk):Ch c v1 v2 h v1 v2 (h.set c x):=⟨AZ,fun _ _ hc _ _=>by rw[zJ,if_neg (fun e=>hc e.symm)],fun _ h=>.inl h,fun _ h=>.inl h⟩
theorem St.app {m1:Nat}(s:St h c m1 m2 n dd f v1 v2)(x:Hp):St (h++x) c m1 m2 n dd f v1 v2:=by
 have keep:∀v m,sv h m v->sv (h++x) m v:=fun v m hv=>hv.keep (jF _) fun b hb=>by
  obtain⟨vs,h'⟩:=hv.b hb;exact zX (Z h')
 exact⟨FM s.w,keep _ _ s.s1,keep _ _ s.s2,s.ap⟩
theorem St.set {h:Hp}{c m1 m2 n dd:Nat}{f:Int}{v1 v2:AV}(s:St h c m1 m2 n dd f v1 v2)(n' dd':Nat)(f':Int):St (h.set c (yK 5 [wRow n' dd' f' v1 v2])) c m1 m2 n' dd' f' v1 v2:=by
 have keep:∀v m,sv h m v->sv (h.set c (yK 5 [wRow n' dd' f' v1 v2])) m v:=fun v m hv=>hv.keep (jF _) fun b hb=>by
  rw[zJ,if_neg (fun e=>hv.ne s.w hb e.symm)]
 exact⟨CP s.w,keep _ _ s.s1,keep _ _ s.s2,s.ap⟩
section
variable {h:Hp} {c m1 m2 n dd:Nat} {f:Int} {v1 v2:AV} (s:St h c m1 m2 n dd f v1 v2)
include s
theorem St.l0:BH jA h 3 (.ptr c 0 0)=some (.n n):=by rw[BA ag3 s.w (row:=wRow n dd f v1 v2) rfl]; rfl
theorem St.l1:BH jA h 3 (.ptr c 0 1)=some (.n dd):=by rw[BA ag3 s.w (row:=wRow n dd f v1 v2) rfl]; rfl
theorem St.l2:BH jA h 38 (.ptr c 0 2)=some (.n f):=by rw[BA AU4 s.w (row:=wRow n dd f v1 v2) rfl]; rfl
theorem St.l3:BH jA h 121 (.ptr c 0 3)=some v1:=by rw[BA uW s.w (row:=wRow n dd f v1 v2) rfl]; rfl
theorem St.l4:BH jA h 121 (.ptr c 0 4)=some v2:=by rw[BA uW s.w (row:=wRow n dd f v1 v2) rfl]; rfl
theorem St.t0 (x:Nat):DT jA h 3 (.ptr c 0 0) (.n x)=some (h.set c (yK 5 [wRow x dd f v1 v2])):=by
 rw[G5 (YQ _ _) sz3 s.w (row:=wRow n dd f v1 v2) rfl (by simp [wRow])]; rfl
theorem St.t1 (x:Nat):DT jA h 3 (.ptr c 0 1) (.n x)=some (h.set c (yK 5 [wRow n x f v1 v2])):=by
 rw[G5 (YQ _ _) sz3 s.w (row:=wRow n dd f v1 v2) rfl (by simp [wRow])]; rfl
theorem St.t2 (x:Int):DT jA h 38 (.ptr c 0 2) (.n x)=some (h.set c (yK 5 [wRow n dd x v1 v2])):=by
 rw[G5 (YQ _ _) A19 s.w (row:=wRow n dd f v1 v2) rfl (by simp [wRow])]; rfl
end
theorem St.app3 {m1:Nat}(s:St h c m1 m2 n dd f v1 v2)(x:ByteArray)(hm:m1<=1099511627776):
  ∃ v' h',EP jA true h 121 121 v1 (.sl .full 1 [[.str x]])=some (v',h')∧DT jA h' 121 (.ptr c 0 3) v'=some (h'.set c (yK 5 [wRow n dd f v' v2])) ∧
    St (h'.set c (yK 5 [wRow n dd f v' v2])) c (m1+1) m2 n dd f v' v2∧Ch c v1 v2 h v' v2 (h'.set c (yK 5 [wRow n dd f v' v2])):=by
 obtain⟨v',h',ha,hs,hb,hl,hk⟩:=AUZ x s.s1 hm;have hc1:¬isB v1 c:=fun e=>s.s1.ne s.w e rfl
 have hc2:¬isB v2 c:=fun e=>s.s2.ne s.w e rfl
 have hcl:=Z s.w;have hw:h'[c]?=some (yK 5 [wRow n dd f v1 v2]):=by rw[hk c hcl hc1]; exact s.w
 have hvc:∀b,isB v' b->b≠c:=fun b hb' e=>by have:=hb b hb'; omega
 have hac:H9 v'=some [v']:=by
  obtain⟨vs,_,⟨_,k,rfl⟩|⟨b,rfl,_⟩⟩:=hs<;>rfl
 refine⟨v',h',ha,by rw[G5 hac AQE hw (row:=wRow n dd f v1 v2) rfl (by simp [wRow])]; rfl,⟨CP hw,hs.keep (jF _) fun b hb'=>?_,s.s2.keep (jF _) fun b hb'=>?_,fun b h1 h2=>?_⟩,⟨BG hl,fun b hbl hne h1 h2=>?_,fun b hb'=>.inr (by rw[hb b hb']; exact jF _),fun b hb'=>.inl hb'⟩⟩
 .rw[zJ,if_neg (fun e=>hvc b hb' e.symm)]
 .obtain⟨_,hx⟩:=s.s2.b hb'
  rw[zJ,if_neg (fun e=>hc2 (by rw[e]; exact hb')),hk b (Z hx) (fun e=>s.ap b e hb')]
 .obtain⟨_,hx⟩:=s.s2.b h2
  have:=hb b h1; have:=Z hx; omega
 .rw[zJ,if_neg (fun e=>hne e.symm),hk b hbl h1]
theorem St.app4 {m1:Nat}(s:St h c m1 m2 n dd f v1 v2)(x:ByteArray)(hm:m2<=1099511627776):
  ∃ v' h',EP jA true h 121 121 v2 (.sl .full 1 [[.str x]])=some (v',h')∧DT jA h' 121 (.ptr c 0 4) v'=some (h'.set c (yK 5 [wRow n dd f v1 v'])) ∧
    St (h'.set c (yK 5 [wRow n dd f v1 v'])) c m1 (m2+1) n dd f v1 v'∧Ch c v1 v2 h v1 v' (h'.set c (yK 5 [wRow n dd f v1 v'])):=by
 obtain⟨v',h',ha,hs,hb,hl,hk⟩:=AUZ x s.s2 hm;have hc1:¬isB v1 c:=fun e=>s.s1.ne s.w e rfl
 have hc2:¬isB v2 c:=fun e=>s.s2.ne s.w e rfl
 have hcl:=Z s.w;have hw:h'[c]?=some (yK 5 [wRow n dd f v1 v2]):=by rw[hk c hcl hc2]; exact s.w
 have hvc:∀b,isB v' b->b≠c:=fun b hb' e=>by have:=hb b hb'; omega
 have hac:H9 v'=some [v']:=by
  obtain⟨vs,_,⟨_,k,rfl⟩|⟨b,rfl,_⟩⟩:=hs<;>rfl
 refine⟨v',h',ha,by rw[G5 hac AQE hw (row:=wRow n dd f v1 v2) rfl (by simp [wRow])]; rfl,⟨CP hw,s.s1.keep (jF _) fun b hb'=>?_,hs.keep (jF _) fun b hb'=>?_,fun b h1 h2=>?_⟩,⟨BG hl,fun b hbl hne h1 h2=>?_,fun b hb'=>.inl hb',fun b hb'=>.inr (by rw[hb b hb']; exact jF _)⟩⟩
 .obtain⟨_,hx⟩:=s.s1.b hb'
  rw[zJ,if_neg (fun e=>hc1 (by rw[e]; exact hb')),hk b (Z hx) (fun e=>s.ap b hb' e)]
 .rw[zJ,if_neg (fun e=>hvc b hb' e.symm)]
 .obtain⟨_,hx⟩:=s.s1.b h1
  have:=hb b h2; have:=Z hx; omega
 .rw[zJ,if_neg (fun e=>hne e.symm),hk b hbl h2]
def ZR (z:Int)(xs:List Ex):Int:=xs.foldl (fun z e=>if z=0 then G7 e else z) z
theorem AEJ (z:Int)(xs ys:List Ex):ZR z (xs++ys)=ZR (ZR z xs) ys:=List.foldl_append
theorem St.weak {m1 m1' m2':Nat}(s:St h c m1 m2 n dd f v1 v2)(h1:m1<=m1')(h2:m2<=m2'):St h c m1' m2' n dd f v1 v2 :=
 ⟨s.w,s.s1.keep h1 fun _ _=>rfl,s.s2.keep h2 fun _ _=>rfl,s.ap⟩
def Md (e:Ex)(c d:Nat)(v1 v2:AV)(h:Hp)(m1 m2 n dd:Nat)(f:Int)(F:Nat->AV)(H:Hp):Prop :=
 F 0=.ptr c 0 0∧F 2=.n (d:Nat)∧F 4=.ptr h.length 0 0∧∃u1 u2,St H c m1 m2 n dd f u1 u2∧Ch c v1 v2 (h++[yK 4 [AX e]]) u1 u2 H
theorem ACO (xs:List Ex):(FD xs).length<=wts xs:=by
 induction xs with
 | nil=>simp [FD,wts]
 | cons x xs ih=>have:=WH x; simp only[FD,wts,jT]; omega
theorem AA2:∀(xs:List Ex) (j:Nat) (hj:j<xs.length),wts (xs.take j)+wt xs[j]<=wts xs
 | x::xs,0,_=>by simp [wts]
 | x::xs,j+1,h=>by
   have:=AA2 xs j (BG h);simp only[List.take_succ_cons,wts,List.getElem_cons_succ]; omega
theorem dZ:∀(xs:List Ex) (j:Nat),deps (xs.take j)<=wts xs
 | [],j=>by simp [deps,wts]
 | x::xs,0=>by simp [deps]
 | x::xs,j+1=>by
   have h1:=dZ xs j;have h2:=AT0 x;simp only[List.take_succ_cons,deps,wts]; omega
theorem AWD (c:Nat)(e:Ex):WN e->∀(h:Hp) (d n dd:Nat) (f:Int) (v1 v2:AV),d+wt e<=549755813888->n+wt e<=549755813888->dd<=1099511627776->St h c n n n dd f v1 v2 ->
  ACalls (En G) 270 [.ptr c 0 0,.agg (AX e),.n (d:Nat)] h fun _ h'=>∃u1 u2,St h' c (n+(pre e).length) (n+(pre e).length) (n+(pre e).length) (max dd (d+deps e.args)) (ZR f (pre e)) u1 u2∧Ch c v1 v2 h u1 u2 h':=by
 induction e using Ex.induct with|h e ih=>?_
 intro hwn h d n dd f v1 v2 hd hn hdd s;have hw:=hwn.1;have hnm:e.name.size<=1048576:=hwn.2 e (by rw[pre_eq]; simp);have hal:e.args.length<=wts e.args:=VY e.args;have hwe:=MN e;have hcl:=Z s.w
 have hbox:∀(u1 u2:AV) (H:Hp),Ch c v1 v2 (h++[yK 4 [AX e]]) u1 u2 H->H[h.length]?=some (yK 4 [AX e]):=by
  intro u1 u2 H hC;rw[hC.get h.length AZ U (fun hb=>?_) (fun hb=>?_)]
  .exact AQ _ _
  .obtain⟨_,hx⟩:=s.s1.b hb
   have:=Z hx; omega
  .obtain⟨_,hx⟩:=s.s2.b hb
   have:=Z hx; omega
 have lb0:∀H:Hp,H[h.length]?=some (yK 4 [AX e])->BH jA H 3 (.ptr h.length 0 0)=some (.n e.op):=fun H hH=>by rw[BA ag3 hH (row:=AX e) rfl,J3]
 have lb2:∀H:Hp,H[h.length]?=some (yK 4 [AX e])->BH jA H 9 (.ptr h.length 0 2)=some (.str e.name):=fun H hH=>by rw[BA ag9 hH (row:=AX e) rfl,RF]
 have lb3:∀H:Hp,H[h.length]?=some (yK 4 [AX e])->BH jA H 23 (.ptr h.length 0 3)=some (.sl e.m 4 (e.args.map AX)):=fun H hH=>by rw[BA LH hH (row:=AX e) rfl,YK]
 refine JE (H:=hint [56,85] []) (enM G) Tryz.func270 rfl (by kernel_rfl) (by kernel_rfl) (jB (by kernel_rfl)) ?_;show awp _ _ _ _ _ (MJ _ [] _);have s0:=s.app [yK 4 [AX e]];have c0:=Ch.app c v1 v2 h [yK 4 [AX e]];refine NY @ALB @yT @bxE @s0.l0 (CZ n) @s0.t0 ?_;have s1:=s0.set (n+1) dd f;have c1:=Ch.set c v1 v2 (h++[yK 4 [AX e]]) (yK 5 [wRow (n+1) dd f v1 v2]);clear s0
 generalize (h++[yK 4 [AX e]]).set c (yK 5 [wRow (n+1) dd f v1 v2])=H1 at s1 c1|-
 refine AY @s1.l1 ?_;refine VO (Md e c d v1 v2 h n n (n+1) (max dd d) f) (fun _ _=>False) (fun hb=>?_) (fun hb=>?_) ?_ (fun _ _ hh=>hh.elim)
 .refine A8 @yT @s1.t1 ?_
  refine⟨rfl,rfl,rfl,v1,v2,?_,c1.trans (Ch.set c _ _ _ _)⟩;have:max dd d=d:=by simp at hb; omega
  rw[this];exact s1.set (n+1) d f
 .refine AA ?_
  refine⟨rfl,rfl,rfl,v1,v2,?_,c1⟩;have:max dd d=dd:=by simp at hb; omega
  rw[this];exact s1
 clear s1 c1;rintro F H ⟨f0,f2,f4,u1,u2,s,hC⟩;refine DL @dT f0 @s.l2 ?_;refine VO (Md e c d v1 v2 h n n (n+1) (max dd d) (ZR f [e])) (fun _ _=>False) (fun hb=>?_) (fun hb=>?_) ?_ (fun _ _ hh=>hh.elim)
 .refine EM f0 f2 f4 (IM (hbox _ _ _ hC)) ?_
  refine(AMA G e _ hnm).use ?_;refine JG @dT @s.t2 f0 f2 f4 ?_;refine⟨f0,f2,f4,u1,u2,?_,hC.trans (Ch.set c _ _ _ _)⟩
  have:ZR f [e]=G7 e:=by
   have:f=0:=BG hb;subst this; rfl
  rw[this];exact s.set _ _ _
 .refine AA ?_
  refine⟨f0,f2,f4,u1,u2,?_,hC⟩
  have:ZR f [e]=f:=by
   have:f≠0:=BG hb;show(if f=0 then G7 e else f)=f;rw[if_neg this]
  rw[this]; exact s
 clear f0 f2 f4 s hC;rintro F H ⟨f0,f2,f4,u1,u2,s,hC⟩;refine AA ?_;refine DZ A7 ?_;have hB:=hbox _ _ _ hC;refine AVR (fun F H=>(∃b,F 47=.bool b)∧Md e c d v1 v2 h n n (n+1) (max dd d) (ZR f [e]) F H) ?_ ?_
 .cases b2:(e.op==2)
  .refine JG f0 f2 f4 (lb0 _ hB) b2 ?_
   exact⟨⟨_,rfl⟩,f0,f2,f4,u1,u2,s,hC⟩
  .obtain⟨r,hr⟩:=ASU G e.name s.s1 U
   refine TW @ALA f0 f2 f4 (lb0 _ hB) (lb2 _ hB) b2 @s.l3 ?_;refine⟨_,hr,?_⟩;refine DL f0 f2 f4 ?_;exact⟨⟨_,rfl⟩,f0,f2,f4,u1,u2,s,hC⟩
 clear f0 f2 f4 s hC hB;rintro F H ⟨⟨b,f47⟩,f0,f2,f4,u1,u2,s,hC⟩;have hB:=hbox _ _ _ hC;refine AY f47 ?_;refine VO (Md e c d v1 v2 h (n+1) n (n+1) (max dd d) (ZR f [e])) (fun _ _=>False) (fun hb=>?_) (fun hb=>?_) ?_ (fun _ _ hh=>hh.elim)
 .obtain⟨v',H',ha,ht,s',hC'⟩:=s.app3 e.name U
  refine DZ A7 ?_;refine YS @ALA f0 f2 f4 (lb2 _ hB) @s.l3 AUI ha ht ?_;exact⟨f0,f2,f4,_,_,s',hC.trans hC'⟩
 .refine AA ?_
  exact⟨f0,f2,f4,_,_,s.weak U U,hC⟩
 clear f0 f2 f4 s hC hB;rintro F H ⟨f0,f2,f4,u1,u2,s,hC⟩;have hB:=hbox _ _ _ hC;refine AA ?_;refine DZ A7 ?_;refine AVR (fun F H=>(∃b,F 76=.bool b)∧Md e c d v1 v2 h (n+1) n (n+1) (max dd d) (ZR f [e]) F H) ?_ ?_
 .obtain⟨r,hr⟩:=ASU G e.name s.s2 U
  cases b2:(e.op==3)
  .cases b3:(e.op==24)
   .refine NY f0 f2 f4 (lb0 _ hB) b2 b3 ?_
    exact⟨⟨_,rfl⟩,f0,f2,f4,u1,u2,s,hC⟩
   .refine YS @yS f0 f2 f4 (lb0 _ hB) (lb2 _ hB) b2 b3 @s.l4 ?_
    refine⟨_,hr,?_⟩;refine DL f0 f2 f4 ?_;exact⟨⟨_,rfl⟩,f0,f2,f4,u1,u2,s,hC⟩
  .refine TW @yS f0 f2 f4 (lb0 _ hB) (lb2 _ hB) b2 @s.l4 ?_
   refine⟨_,hr,?_⟩;refine DL f0 f2 f4 ?_;exact⟨⟨_,rfl⟩,f0,f2,f4,u1,u2,s,hC⟩
 clear f0 f2 f4 s hC hB f47;rintro F H ⟨⟨b,f76⟩,f0,f2,f4,u1,u2,s,hC⟩;have hB:=hbox _ _ _ hC;refine AY f76 ?_;refine VO (Md e c d v1 v2 h (n+1) (n+1) (n+1) (max dd d) (ZR f [e])) (fun _ _=>False) (fun hb=>?_) (fun hb=>?_) ?_ (fun _ _ hh=>hh.elim)
 .obtain⟨v',H',ha,ht,s',hC'⟩:=s.app4 e.name U
  refine DZ A7 ?_;refine YS @yS f0 f2 f4 (lb2 _ hB) @s.l4 AUI ha ht ?_;exact⟨f0,f2,f4,_,_,s',hC.trans hC'⟩
 .refine AA ?_
  exact⟨f0,f2,f4,_,_,s.weak U U,hC⟩
 clear f0 f2 f4 s hC hB f76;rintro F H ⟨f0,f2,f4,u1,u2,s,hC⟩;refine AA ?_;refine BJ (fun k F H=>∃j,k+j=e.args.length∧F 6=.n (j:Nat)∧Md e c d v1 v2 h (n+1+(FD (e.args.take j)).length) (n+1+(FD (e.args.take j)).length) (n+1+(FD (e.args.take j)).length) (max dd (d+deps (e.args.take j))) (ZR (ZR f [e]) (FD (e.args.take j))) F H) e.args.length ⟨0,AZ,rfl,f0,f2,f4,u1,u2,s,hC⟩ ?_;clear f0 f2 f4 s hC;rintro k F H ⟨j,hj,f6,f0,f2,f4,u1,u2,s,hC⟩;have hB:=hbox _ _ _ hC;refine DL f6 f4 (lb3 _ hB) ?_;refine D8 ?_ ?_<;>intro hj'
 .have hmem:e.args[j]∈e.args:=jI hj'
  have hwa:=VX hmem
  have hpl:(FD (e.args.take j)).length+(pre e.args[j]).length<=wts e.args:=by
   have h1:=ACO e.args
   have h2:FD e.args=FD (e.args.take j)++(pre e.args[j]++FD (e.args.drop (j+1))):=by
    rw[<-zK,<-LV _ _ hj',<-NQ,wZ]
   rw[h2] at h1; simp at h1; omega
  have hsp:(FD (e.args.take j)).length+wt e.args[j]<=wts e.args:=by
   have h1:=ACO (e.args.take j);have h2:=AA2 e.args j hj';omega
  have hdt:deps (e.args.take j)<=wts e.args:=dZ e.args j;simp only[vQ,List.contains_cons,List.contains_nil,Nat.reduceBEq,Bool.or_false,CG,↓reduceIte,jC,enP,PQ,bH,f0,f2,f4,f6,lb3 _ hB,CX hj',DC O1 JB EC hj',CZ d];refine(ih e.args[j] hmem ⟨U,fun x hx=>hwn.2 x (by rw[pre_eq]; exact yF _ (Y2 hmem x hx))⟩ H (d+1) _ _ _ u1 u2 U U U s).mono ?_;rintro v H' ⟨w1,w2,s',hC'⟩;refine A8 f6 (CZ j) ?_;refine⟨k-1,U,j+1,U,rfl,f0,f2,f4,w1,w2,?_,hC.trans hC'⟩;rw[LV _ _ hj',uK _ _ hj',AEJ,jT]
  have e1:max (max dd (d+deps (e.args.take j))) (d+1+deps e.args[j].args)=max dd (d+max (deps (e.args.take j)) (dep e.args[j])):=by
   rw[bP]; omega
  rw[e1,Nat.add_assoc (n+1)] at s';exact s'
 .rw[jJ U] at s
  refine AY @gF ?_;refine⟨u1,u2,?_,c0.trans hC⟩;have e1:n+1+(FD e.args).length=n+(pre e).length:=by rw[pre_eq]; simp; omega
  have e2:ZR (ZR f [e]) (FD e.args)=ZR f (pre e):=by rw[pre_eq,<-AEJ]; rfl
  rw[e1,e2] at s;exact s
theorem A7Z:IY jA 263 []=some (.agg [.n 0,.n 0,.n 0,.sl .nil 0 [],.sl .nil 0 []]):=A7
theorem A7H (h:Hp):MS h (.agg [.n 0,.n 0,.n 0,.sl .nil 0 [],.sl .nil 0 []])=some (.ptr h.length 0 0,h++[yK 5 [wRow 0 0 0 (.sl .nil 0 []) (.sl .nil 0 [])]]):=WT rfl
theorem AQ8 (e:Ex)(hwn:WN e)(h:Hp):
  ACalls (En G) 202 [.agg (AX e)] h fun v h'=>∃c m u1 u2,v=.ptr c 0 0∧St h' c m m (pre e).length (dep e) (errs (pre e)) u1 u2∧∃x,h'=h++x:=by
 refine acT Tryz.func202 2 ?_;simp only[vQ,CG,ALY,SL,NZ,↓reduceIte,jC,enP,bxE,A7Z,A7H,IM (AB (AQ h _))];have nb:∀b,¬isB (.sl .nil 0 []) b:=fun b hb=>hb
 have hw:=hwn.1;refine(AWD G _ e hwn _ 1 0 0 0 (.sl .nil 0 []) (.sl .nil 0 []) U U U ⟨AQ _ _,⟨[],AZ,.inl ⟨rfl,_,rfl⟩⟩,⟨[],AZ,.inl ⟨rfl,_,rfl⟩⟩,fun b hb=>(nb b hb).elim⟩).mono ?_;rintro v h' ⟨u1,u2,s,hC⟩;refine AA ?_;have e1:0+(pre e).length=(pre e).length:=jH _;have e2:max 0 (1+deps e.args)=dep e:=by rw[bP]; omega
 rw[e1,e2] at s;refine⟨_,_,u1,u2,rfl,s,?_⟩;have hC2:=((Ch.app (h++[yK 4 [AX e]]).length (.sl .nil 0 []) (.sl .nil 0 []) h [yK 4 [AX e]]).trans (Ch.app _ _ _ _ [yK 5 [wRow 0 0 0 (.sl .nil 0 []) (.sl .nil 0 [])]])).trans hC;refine Chg.above (c:=(h++[yK 4 [AX e]]).length) ⟨hC2.len,fun b hb hne=>hC2.get b hb hne (nb b) (nb b)⟩ AZ
theorem yX (e:Ex)(h:Hp)(hw:WN e):PCall (En G) 113 [.agg (AX e)] h (.n (exE e)):=by
 refine ACalls.pure0 rfl ?_;refine acT Tryz.func113 2 ?_;refine A8 @bxE @ldE ?_;refine(AQ8 G e hw _).mono ?_;rintro v h' ⟨c,m,u1,u2,rfl,s,x,rfl⟩;refine A8 @dT @s.l2 ?_;rcases he:(errs (pre e)==0) with _|_
 .refine A8 @dT @s.l2 ?_
  have:errs (pre e)≠0:=BG he;exact⟨by unfold exE; rw[if_neg (fun hh=>this hh.1)],_,by rw[zK]⟩
 have he0:errs (pre e)=0:=BG he;refine A8 @yT @s.l1 ?_;refine IW ?_ ?_<;>intro hd
 .refine AY hd ?_
  exact⟨by unfold exE; rw[if_pos ⟨he0,.inl (by simp at hd; omega)⟩],_,by rw[zK]⟩
 refine DL @ALB hd @s.l0 ?_;refine BM ?_ ?_<;>intro hn
 .refine AA ?_
  exact⟨by unfold exE; rw[if_pos ⟨he0,.inr (by simp at hn; omega)⟩],_,by rw[zK]⟩
 .refine A8 @dT @s.l2 ?_
  exact⟨by unfold exE; rw[if_neg (fun hh=>by simp at hn hd; omega)],_,by rw[zK]⟩
theorem AEG (e:Ex)(h:Hp)(hw:wt e<=1048576):PCall (En G) 113 [.agg (AX e)] h (.n (exE e)):=yX G e h (AVD hw)
structure Is where
 m:SM
 l:List Int
def encL (x:Is):List AV:=[.sl x.m 1 (x.l.map qencI)]
theorem oL (x:Is):(encL x)[0]?=some (.sl x.m 1 (x.l.map qencI)):=rfl
theorem oK (x:Is):(encL x).length=1:=rfl
structure Pt where
 name:ByteArray
 ex:Ex
 bm:SM
 bins:List Bin
def FC (p:Pt):List AV:=.str p.name::(AX p.ex++[.sl p.bm 4 (p.bins.map F6)])
theorem A1G (p:Pt):(FC p)[0]?=some (.str p.name):=rfl
theorem TI (p:Pt):(FC p)[5]?=some (.sl p.bm 4 (p.bins.map F6)):=by unfold FC; rw[FB]; rfl
theorem H7 (p:Pt):(FC p).length=6:=by unfold FC; rw[FB]; rfl
theorem gH (p:Pt):(FC p).all AV.leaf=true:=by unfold FC; rw[FB]; rfl
theorem zR (p:Pt):((FC p).drop 1).take 4=AX p.ex:=by unfold FC; rw[FB]; rfl
theorem bxP (h:Hp)(p:Pt):MS h (.agg (FC p))=some (.ptr h.length 0 0,h++[yK 6 [FC p]]):=by
 have:=WT (h:=h) (gH p);rw[H7] at this; exact this
theorem AR4 {b:Nat}{p:Pt}(hb:h[b]?=some (yK 6 [FC p])):BH jA h 79 (.ptr b 0 1)=some (.agg (AX p.ex)):=by
 rw[EF O1 JB hb rfl (by rw[H7]; omega),zR]
structure Cr where
 name:ByteArray
 pm:SM
 pts:List Int
 xm:SM
 excl:List Is
def H8 (c:Cr):List AV:=[.str c.name,.sl c.pm 1 (c.pts.map qencI),.sl c.xm 1 (c.excl.map encL)]
theorem ATX (c:Cr):(H8 c)[0]?=some (.str c.name):=rfl
theorem dX (c:Cr):(H8 c)[1]?=some (.sl c.pm 1 (c.pts.map qencI)):=rfl
theorem AEP (c:Cr):(H8 c)[2]?=some (.sl c.xm 1 (c.excl.map encL)):=rfl
theorem OZ (c:Cr):(H8 c).length=3:=rfl
theorem bxC (h:Hp)(c:Cr):MS h (.agg (H8 c))=some (.ptr h.length 0 0,h++[yK 3 [H8 c]]):=rfl
structure Mo where
 pm:SM
 pts:List Pt
 cm:SM
 crs:List Cr
def DR (m:Mo):List AV:=[.sl m.pm 6 (m.pts.map FC),.sl m.cm 3 (m.crs.map H8)]
theorem VL (m:Mo):(DR m)[0]?=some (.sl m.pm 6 (m.pts.map FC)):=rfl
theorem aF (m:Mo):(DR m)[1]?=some (.sl m.cm 3 (m.crs.map H8)):=rfl
theorem ATT (m:Mo):(DR m).length=2:=rfl
theorem bxM (h:Hp)(m:Mo):MS h (.agg (DR m))=some (.ptr h.length 0 0,h++[yK 2 [DR m]]):=rfl
def AH6:List ByteArray->List ByteArray->Bool
 | _,[]=>false
 | seen,x::xs=>JP seen x||AH6 (seen++[x]) xs
def XH (l:List ByteArray):Bool:=AH6 [] l
theorem gJ (N:List ByteArray)(i:Nat)(hi:i<N.length):AH6 (N.take i) (N.drop i)=(JP (N.take i) N[i]||AH6 (N.take (i+1)) (N.drop (i+1))):=by
 rw[qC hi,jU hi]; rfl
theorem OA {α:Type}{l:List α}{hi:i<l.length}{x:α}(h:l[i]?=some x):l[i]=x:=by
 rw[jG hi] at h; exact Option.some.inj h
theorem AKL (x:Bin)(h:Hp):PCall (En G) 164 [.agg (F6 x)] h (.str x.name):=by
 refine ACalls.pure0 rfl ?_;refine acT Tryz.func164 2 ?_;refine MB @ATB @bxB @A1H ?_;exact⟨trivial,_,rfl⟩
theorem AM4 (xs:List Bin)(m:SM)(h:Hp)(hl:xs.length<=1099511627776):
  PCall (En G) 163 [.sl m 4 (xs.map F6),.fn (.func 164) [] []] h (.bool (XH (xs.map (·.name)))):=by
 refine acT Tryz.func163 4 ?_;refine AA ?_;generalize hN:xs.map (·.name)=N;have hNl:N.length=xs.length:=by rw[<-hN]; simp
 have hNi:∀i (hi:i<xs.length),N[i]?=some xs[i].name:=fun i hi=>by rw[<-hN,jV,jG hi]; rfl
 refine BJ (fun n F H=>∃i,n+i=xs.length∧F 0=.sl m 4 (xs.map F6)∧F 1=.fn (.func 164) [] []∧F 8=.n xs.length∧F 9=.n (i:Nat)∧H=h∧XH N=AH6 (N.take i) (N.drop i)) xs.length ⟨0,AZ,AL,AL,AL,AL,rfl,rfl⟩ ?_;rintro n F H ⟨i,hi,f0,f1,f8,f9,rfl,hd⟩;refine A8 f8 f9 ?_;refine D8 ?_ ?_<;>intro hi'
 .have hdrop:=gJ N i U
  rw[OA (hNi i hi')] at hdrop;refine AY f9 ?_;refine ER 2 (fun F' H'=>F' 0=.sl m 4 (xs.map F6)∧F' 1=.fn (.func 164) [] []∧F' 8=.n xs.length∧F' 9=.n (i:Nat)∧H'=H∧JP (N.take i) xs[i].name=false) (fun F' H'=>F' 4=.bool (XH N)∧H'=H) ?_ ?_ ?_
  .refine BJ (fun n F' H'=>∃k,n+k=i∧F' 0=.sl m 4 (xs.map F6)∧F' 1=.fn (.func 164) [] []∧F' 8=.n xs.length∧F' 9=.n (i:Nat)∧F' 5=.n (i:Nat)∧F' 12=.n (i:Nat)∧F' 13=.n (k:Nat)∧H'=H∧JP (N.take i) xs[i].name=JP ((N.take i).drop k) xs[i].name) i ⟨0,AZ,EE f0,EE f1,EE f8,EE f9,AL,AL,AL,rfl,rfl⟩ ?_
   clear f0 f1 f8 f9;rintro n' F H' ⟨k,hk,f0,f1,f8,f9,f5,f12,f13,rfl,hin⟩;refine A8 f12 f13 ?_;refine D8 ?_ ?_<;>intro hk'
   .have hk2:k<xs.length:=U
    have hs:=TU (fun u=>xs[i].name.toList==u.toList) (N.take i) k (by rw[jZ]; omega)
    have hx:(N.take i)[k]'(by rw[jZ]; omega)=xs[k].name:=by
     rw[List.getElem_take]; exact OA (hNi k hk2)
    rw[hx] at hs;refine AY f13 ?_;refine DZ A7 ?_;simp only[vQ,OM,O4,NU,↓reduceIte,jC,jS,enP,fL,f0,f1,f5,CX hi',CX hk2,DC kZ aP KZ hi',DC kZ aP KZ hk2];refine⟨_,AKL G xs[i] _,?_⟩;refine⟨_,AKL G xs[k] _,?_⟩
    try refine AA ?_
    refine BM ?_ ?_<;>intro hb
    .refine AA ?_
     refine⟨?_,trivial⟩
     have:JP (N.take i) xs[i].name=true:=by
      rw[hin]; unfold JP; rw[hs,hb]; rfl
     rw[hd,hdrop,this]; rfl
    .refine A8 f13 (CZ k) ?_
     refine⟨n'-1,U,k+1,U,f0,f1,f8,f9,f5,f12,rfl,trivial,?_⟩;rw[hin]; unfold JP; rw[hs,hb]; rfl
   .refine AA ?_
    refine⟨f0,f1,f8,f9,trivial,?_⟩;rw[hin,zM (by rw[jZ]; omega)]; rfl
  .rintro F' H' ⟨g0,g1,g8,g9,rfl,hn⟩
   refine A8 g9 (CZ i) ?_;refine⟨n-1,U,i+1,U,g0,g1,g8,rfl,trivial,?_⟩;rw[hd,hdrop,hn]; rfl
  .rintro F' H' ⟨g4,rfl⟩
   refine AY g4 ?_;exact HY
 .refine AA ?_
  exact⟨by rw[hd,zM U]; rfl,trivial⟩
theorem AKJ (x:Pt)(h:Hp):PCall (En G) 87 [.agg (FC x)] h (.str x.name):=by
 refine ACalls.pure0 rfl ?_;refine acT Tryz.func87 2 ?_;refine MB @ATC @bxP @A1G ?_;exact⟨trivial,_,rfl⟩
theorem AM2 (xs:List Pt)(m:SM)(h:Hp)(hl:xs.length<=1099511627776):
  PCall (En G) 86 [.sl m 6 (xs.map FC),.fn (.func 87) [] []] h (.bool (XH (xs.map (·.name)))):=by
 refine acT Tryz.func86 4 ?_;refine AA ?_;generalize hN:xs.map (·.name)=N;have hNl:N.length=xs.length:=by rw[<-hN]; simp
 have hNi:∀i (hi:i<xs.length),N[i]?=some xs[i].name:=fun i hi=>by rw[<-hN,jV,jG hi]; rfl
 refine BJ (fun n F H=>∃i,n+i=xs.length∧F 0=.sl m 6 (xs.map FC)∧F 1=.fn (.func 87) [] []∧F 8=.n xs.length∧F 9=.n (i:Nat)∧H=h∧XH N=AH6 (N.take i) (N.drop i)) xs.length ⟨0,AZ,AL,AL,AL,AL,rfl,rfl⟩ ?_;rintro n F H ⟨i,hi,f0,f1,f8,f9,rfl,hd⟩;refine A8 f8 f9 ?_;refine D8 ?_ ?_<;>intro hi'
 .have hdrop:=gJ N i U
  rw[OA (hNi i hi')] at hdrop;refine AY f9 ?_;refine ER 2 (fun F' H'=>F' 0=.sl m 6 (xs.map FC)∧F' 1=.fn (.func 87) [] []∧F' 8=.n xs.length∧F' 9=.n (i:Nat)∧H'=H∧JP (N.take i) xs[i].name=false) (fun F' H'=>F' 4=.bool (XH N)∧H'=H) ?_ ?_ ?_
  .refine BJ (fun n F' H'=>∃k,n+k=i∧F' 0=.sl m 6 (xs.map FC)∧F' 1=.fn (.func 87) [] []∧F' 8=.n xs.length∧F' 9=.n (i:Nat)∧F' 5=.n (i:Nat)∧F' 12=.n (i:Nat)∧F' 13=.n (k:Nat)∧H'=H∧JP (N.take i) xs[i].name=JP ((N.take i).drop k) xs[i].name) i ⟨0,AZ,EE f0,EE f1,EE f8,EE f9,AL,AL,AL,rfl,rfl⟩ ?_
   clear f0 f1 f8 f9;rintro n' F H' ⟨k,hk,f0,f1,f8,f9,f5,f12,f13,rfl,hin⟩;refine A8 f12 f13 ?_;refine D8 ?_ ?_<;>intro hk'
   .have hk2:k<xs.length:=U
    have hs:=TU (fun u=>xs[i].name.toList==u.toList) (N.take i) k (by rw[jZ]; omega)
    have hx:(N.take i)[k]'(by rw[jZ]; omega)=xs[k].name:=by
     rw[List.getElem_take]; exact OA (hNi k hk2)
    rw[hx] at hs;refine AY f13 ?_;refine DZ A7 ?_;simp only[vQ,OM,O4,NU,↓reduceIte,jC,jS,enP,XG,f0,f1,f5,CX hi',CX hk2,DC lA aQ H7 hi',DC lA aQ H7 hk2];refine⟨_,AKJ G xs[i] _,?_⟩;refine⟨_,AKJ G xs[k] _,?_⟩
    try refine AA ?_
    refine BM ?_ ?_<;>intro hb
    .refine AA ?_
     refine⟨?_,trivial⟩
     have:JP (N.take i) xs[i].name=true:=by
      rw[hin]; unfold JP; rw[hs,hb]; rfl
     rw[hd,hdrop,this]; rfl
    .refine A8 f13 (CZ k) ?_
     refine⟨n'-1,U,k+1,U,f0,f1,f8,f9,f5,f12,rfl,trivial,?_⟩;rw[hin]; unfold JP; rw[hs,hb]; rfl
   .refine AA ?_
    refine⟨f0,f1,f8,f9,trivial,?_⟩;rw[hin,zM (by rw[jZ]; omega)]; rfl
  .rintro F' H' ⟨g0,g1,g8,g9,rfl,hn⟩
   refine A8 g9 (CZ i) ?_;refine⟨n-1,U,i+1,U,g0,g1,g8,rfl,trivial,?_⟩;rw[hd,hdrop,hn]; rfl
  .rintro F' H' ⟨g4,rfl⟩
   refine AY g4 ?_;exact HY
 .refine AA ?_
  exact⟨by rw[hd,zM U]; rfl,trivial⟩
theorem AKK (x:Cr)(h:Hp):PCall (En G) 90 [.agg (H8 x)] h (.str x.name):=by
 refine ACalls.pure0 rfl ?_;refine acT Tryz.func90 2 ?_;refine MB @ATA @bxC @ATX ?_;exact⟨trivial,_,rfl⟩
theorem AM3 (xs:List Cr)(m:SM)(h:Hp)(hl:xs.length<=1099511627776):
  PCall (En G) 89 [.sl m 3 (xs.map H8),.fn (.func 90) [] []] h (.bool (XH (xs.map (·.name)))):=by
 refine acT Tryz.func89 4 ?_;refine AA ?_;generalize hN:xs.map (·.name)=N;have hNl:N.length=xs.length:=by rw[<-hN]; simp
 have hNi:∀i (hi:i<xs.length),N[i]?=some xs[i].name:=fun i hi=>by rw[<-hN,jV,jG hi]; rfl
 refine BJ (fun n F H=>∃i,n+i=xs.length∧F 0=.sl m 3 (xs.map H8)∧F 1=.fn (.func 90) [] []∧F 8=.n xs.length∧F 9=.n (i:Nat)∧H=h∧XH N=AH6 (N.take i) (N.drop i)) xs.length ⟨0,AZ,AL,AL,AL,AL,rfl,rfl⟩ ?_;rintro n F H ⟨i,hi,f0,f1,f8,f9,rfl,hd⟩;refine A8 f8 f9 ?_;refine D8 ?_ ?_<;>intro hi'
 .have hdrop:=gJ N i U
  rw[OA (hNi i hi')] at hdrop;refine AY f9 ?_;refine ER 2 (fun F' H'=>F' 0=.sl m 3 (xs.map H8)∧F' 1=.fn (.func 90) [] []∧F' 8=.n xs.length∧F' 9=.n (i:Nat)∧H'=H∧JP (N.take i) xs[i].name=false) (fun F' H'=>F' 4=.bool (XH N)∧H'=H) ?_ ?_ ?_
  .refine BJ (fun n F' H'=>∃k,n+k=i∧F' 0=.sl m 3 (xs.map H8)∧F' 1=.fn (.func 90) [] []∧F' 8=.n xs.length∧F' 9=.n (i:Nat)∧F' 5=.n (i:Nat)∧F' 12=.n (i:Nat)∧F' 13=.n (k:Nat)∧H'=H∧JP (N.take i) xs[i].name=JP ((N.take i).drop k) xs[i].name) i ⟨0,AZ,EE f0,EE f1,EE f8,EE f9,AL,AL,AL,rfl,rfl⟩ ?_
   clear f0 f1 f8 f9;rintro n' F H' ⟨k,hk,f0,f1,f8,f9,f5,f12,f13,rfl,hin⟩;refine A8 f12 f13 ?_;refine D8 ?_ ?_<;>intro hk'
   .have hk2:k<xs.length:=U
    have hs:=TU (fun u=>xs[i].name.toList==u.toList) (N.take i) k (by rw[jZ]; omega)
    have hx:(N.take i)[k]'(by rw[jZ]; omega)=xs[k].name:=by
     rw[List.getElem_take]; exact OA (hNi k hk2)
    rw[hx] at hs;refine AY f13 ?_;refine DZ A7 ?_;simp only[vQ,OM,O4,NU,↓reduceIte,jC,jS,enP,fM,f0,f1,f5,CX hi',CX hk2,DC APJ ABG OZ hi',DC APJ ABG OZ hk2];refine⟨_,AKK G xs[i] _,?_⟩;refine⟨_,AKK G xs[k] _,?_⟩
    try refine AA ?_
    refine BM ?_ ?_<;>intro hb
    .refine AA ?_
     refine⟨?_,trivial⟩
     have:JP (N.take i) xs[i].name=true:=by
      rw[hin]; unfold JP; rw[hs,hb]; rfl
     rw[hd,hdrop,this]; rfl
    .refine A8 f13 (CZ k) ?_
     refine⟨n'-1,U,k+1,U,f0,f1,f8,f9,f5,f12,rfl,trivial,?_⟩;rw[hin]; unfold JP; rw[hs,hb]; rfl
   .refine AA ?_
    refine⟨f0,f1,f8,f9,trivial,?_⟩;rw[hin,zM (by rw[jZ]; omega)]; rfl
  .rintro F' H' ⟨g0,g1,g8,g9,rfl,hn⟩
   refine A8 g9 (CZ i) ?_;refine⟨n-1,U,i+1,U,g0,g1,g8,rfl,trivial,?_⟩;rw[hd,hdrop,hn]; rfl
  .rintro F' H' ⟨g4,rfl⟩
   refine AY g4 ?_;exact HY
 .refine AA ?_
  exact⟨by rw[hd,zM U]; rfl,trivial⟩
def fstE {α:Type}(f:α->Int):List α->Int
 | []=>0
 | x::xs=>if f x=0 then fstE f xs else f x
theorem ZA {α:Type}(f:α->Int)(xs:List α)(k:Nat)(hk:k<xs.length):fstE f (xs.drop k)=if f xs[k]=0 then fstE f (xs.drop (k+1)) else f xs[k]:=by
 rw[qC hk]; rfl
def IX (p:Pt):Int :=
 if EX p.name=false then 7 else if exE p.ex≠0 then exE p.ex else if p.bins.length=0 then 1 else if 64<p.bins.length then 2 else
  if fstE IK p.bins≠0 then fstE IK p.bins else if XH (p.bins.map (·.name)) then 8 else 0
structure PtOk (p:Pt):Prop where
 ex:wt p.ex<=1048576
 name:p.name.size<=1048576
 num:p.bins.length<=1048576
 bins:∀b∈p.bins,BinOk b
theorem al79 (h:Hp):GU jA h 87=some (.ptr h.length 0 0,h++[yK 4 [[.str ⟨#[]⟩,.n 0,.sl .nil 0 [],.sl .nil 0 []]]]):=FI (row:=[.str ⟨#[]⟩,.n 0,.sl .nil 0 [],.sl .nil 0 []]) A7
theorem st79 (h:Hp)(b:Bin)(row:List AV)(hr:row.length=4):DT jA (h++[yK 4 [row]]) 87 (.ptr h.length 0 0) (.agg (F6 b))=some (h++[yK 4 [F6 b]]):=by
 rw[SE (O7 rfl) (by rw[KZ]; exact aP) (by rw[KZ,hr]; exact jF _)];have:splice row 0 (F6 b)=F6 b:=by unfold splice; simp [KZ,hr]
 rw[this]
theorem mW (hG:GOk G)(p:Pt)(hp:PtOk p)(h:Hp):PCall (En G) 85 [.agg (FC p)] h (.n (IX p)):=by
 refine ACalls.pure0 rfl ?_;have hp1:=hp.ex;have hp2:=hp.name;have hp3:=hp.num;refine acT Tryz.func85 2 ?_;refine MB @ATC @bxP @A1G ?_;refine(L8 G hG.kw p.name _ U).uu ?_;cases h1:EX p.name
 .refine AA ?_
  exact⟨by unfold IX; rw[if_pos h1],_,rfl⟩
 have h1':¬EX p.name=false:=by rw[h1]; decide
 simp only[vQ,CG,↓reduceIte,jC,qV,enP,nZ,AR4 (AQ h _)];refine(OC G hG p.ex _ hp1).uu ?_;refine BM ?_ ?_<;>intro h2
 .refine AA ?_
  exact⟨by unfold IX; rw[if_neg h1',if_pos (BG h2)],_,rfl⟩
 have h2':¬exE p.ex≠0:=BG h2;refine aK @TI ?_;refine BM ?_ ?_<;>intro h3
 .refine AA ?_
  exact⟨by unfold IX; rw[if_neg h1',if_neg h2',if_pos (by simp at h3; simpa using h3)],_,rfl⟩
 have h3':¬p.bins.length=0:=by simp at h3; simpa using h3
 refine aK @TI ?_;refine BM ?_ ?_<;>intro h4
 .refine AA ?_
  exact⟨by unfold IX; rw[if_neg h1',if_neg h2',if_neg h3',if_pos (by simp at h4; omega)],_,rfl⟩
 have h4':¬64<p.bins.length:=by simp at h4; omega
 have hpt:IX p=if fstE IK p.bins≠0 then fstE IK p.bins else if XH (p.bins.map (·.name)) then 8 else 0:=by
  unfold IX; rw[if_neg h1',if_neg h2',if_neg h3',if_neg h4']
 refine aK @TI ?_;refine ER 1 (fun F H=>F 1=.ptr h.length 0 0∧H[h.length]?=some (yK 6 [FC p])∧(∃x,H=h++x)∧fstE IK p.bins=0) (fun F H=>F 2=.n (IX p)∧∃x,H=h++x) ?_ ?_ ?_
 .refine BJ (fun n F H=>∃k,n+k=p.bins.length∧F 1=.ptr h.length 0 0∧F 28=.sl p.bm 4 (p.bins.map F6)∧F 29=.n p.bins.length∧F 30=.n (k:Nat)∧H[h.length]?=some (yK 6 [FC p])∧(∃x,H=h++x)∧fstE IK p.bins=fstE IK (p.bins.drop k)) p.bins.length ⟨0,AZ,EK,EK,EK,EK,AQ _ _,⟨_,rfl⟩,rfl⟩ ?_
  rintro n F H ⟨k,hk,f1,f28,f29,f30,hb,⟨x,hx⟩,hf⟩;refine A8 f29 f30 ?_;refine D8 ?_ ?_<;>intro hk'
  .have hs:=ZA IK p.bins k hk'
   simp only[vQ,CG,↓reduceIte,jC,enP,fL,jQ,f28,f30,CX hk',DC kZ aP KZ hk',al79,st79 _ _ [.str ⟨#[]⟩,.n 0,.sl .nil 0 [],.sl .nil 0 []] rfl,ldB];refine(valid_prog G hG.kw p.bins[k] (hp.bins _ (jI hk')) _).uu ?_;refine BM ?_ ?_<;>intro hv
   .refine AA ?_
    have hv':IK p.bins[k]≠0:=BG hv;have:fstE IK p.bins=IK p.bins[k]:=by rw[hf,hs,if_neg hv']
    exact⟨by rw[hpt,this,if_pos hv'],x++_,by rw[hx,zK]⟩
   .have hv':IK p.bins[k]=0:=BG hv
    refine A8 f30 (CZ k) ?_;exact⟨n-1,U,k+1,U,f1,f28,f29,rfl,AB hb,⟨x++_,by rw[hx,zK]⟩,by rw[hf,hs,if_pos hv']⟩
  .refine AA ?_
   exact⟨f1,hb,⟨x,hx⟩,by rw[hf,zM U]; rfl⟩
 .rintro F H ⟨f1,hb,⟨x,hx⟩,hf⟩
  have l5:BH jA H 80 (.ptr h.length 0 5)=some (.sl p.bm 4 (p.bins.map F6)):=by rw[BA P6 hb (row:=FC p) rfl,TI]
  refine A8 f1 l5 ?_;refine(AM4 G p.bins p.bm H U).uu ?_;cases hd:XH (p.bins.map (·.name))
  .refine AA ?_
   exact⟨by rw[hpt,hf,hd]; rfl,x,hx⟩
  .refine AA ?_
   exact⟨by rw[hpt,hf,hd]; rfl,x,hx⟩
 .rintro F H ⟨f2,hx⟩
  refine AY f2 ?_;exact⟨trivial,hx⟩
def outG {α:Type}(k:Nat)(f:α->List AV)(h:Hp)(ys:List α)(v:AV)(H:Hp):Prop :=
 (ys=[]∧v=.sl .nil 0 [])∨(ys≠[]∧∃o,h.length<=o∧v=.own o 0 ys.length∧H[o]?=some (yK k (ys.map f)))
theorem outG.nil {α:Type}(k:Nat)(f:α->List AV)(h H:Hp):outG k f h [] (.sl .nil 0 []) H:=.inl ⟨rfl,rfl⟩
theorem outG.keep {α:Type}{f:α->List AV}{H':Hp}{ys:List α}(ho:outG k f h ys v H)(hk:∀b,isB v b->H'[b]?=H[b]?):outG k f h ys v H':=by
 rcases ho with h1|⟨h1,o,h2,rfl,h3⟩
 .exact .inl h1
 .exact .inr ⟨h1,o,h2,rfl,by rw[hk o rfl]; exact h3⟩
theorem outG.lt {α:Type}{f:α->List AV}{ys:List α}{b:Nat}(ho:outG k f h ys v H)(hb:isB v b):h.length<=b∧b<H.length:=by
 rcases ho with⟨_,rfl⟩|⟨_,o,h2,rfl,h3⟩
 .exact hb.elim
 .cases hb; exact⟨h2,Z h3⟩
theorem outG.app {α:Type}{f:α->List AV}{ys:List α}(ho:outG k f h ys v H)(x:Hp):outG k f h ys v (H++x) :=
 ho.keep fun _ hb=>zX (ho.lt hb).2
theorem outG.append {t e:TypeId}{α:Type}{bs:Nat}{f:α->List AV}{ys:List α}(ho:outG k f h ys v H)(hu:P.underlying t=some (.slice e))(hs:szO P e=some k)(hz:SK P e=some k)(hb:KG P e=some bs)(hbs:bs<=4194304)(hl:ys.length<8388608)(he:ext h H)(y:α):
  ∃v' H',EP P true H t t v (.sl .full k [f y])=some (v',H')∧outG k f h (ys++[y]) v' H'∧(∀b x,H[b]?=some x->¬isB v b->H'[b]?=some x)∧ext h H'∧H.length<=H'.length∧∀b,isB v' b->b=H.length:=by
 have h1:([f y]:List (List AV))≠[]:=AZ;rcases ho with⟨rfl,rfl⟩|⟨hne,o,h2,rfl,h3⟩
 .exact⟨_,_,QT hu hs hz hb (F9 H .full k [f y]) h1 (GV AZ hbs),.inr ⟨AZ,H.length,he.le,rfl,AZ⟩,fun b x hb _=>FM hb,he.app _,AZ,fun b hb=>hb.symm⟩
 .have hc:IV H (.own o 0 ys.length)=some (k,ys.map f):=by
   rw[JQ h3 AZ,zT,jJ AZ]
  refine⟨_,_,P5 hu hs hz hb hc (F9 H .full k [f y]) h1 (GV KH hbs),.inr ⟨AZ,H.length,he.le,AZ,AZ⟩,fun b x hb hn=>?_,(he.set h2 _).app _,AZ,fun b hb=>hb.symm⟩;have hn':¬o=b:=hn;refine FM ?_;rw[zJ,if_neg hn']; exact hb
theorem outG.len {t:TypeId}{α:Type}{f:α->List AV}{ys:List α}(ho:outG k f h ys v H)(hl:(∀m k xs,JR P t (.sl m k xs)=some (.n xs.length))∧∀b off len,JR P t (.own b off len)=some (.n len)):JR P t v=some (.n ys.length):=by
 rcases ho with⟨rfl,rfl⟩|⟨_,o,_,rfl,_⟩
 .exact hl.1 _ _ _
 .exact hl.2 _ _ _
def nm {α:Type}(ys:List α):SM:=match ys with
 | []=>.nil
 | _=>.any
theorem frzF_own (n:Nat)(h:Hp)(d b off len k:Nat)(xs:List (List AV))(hn:¬b<n)(hb:h[b]?=some (yK k xs)):EZ n h (d+1) (.own b off len)=if off+len<=xs.length∧(((xs.drop off).take len).map (·.map (EZ n h d))).all (·.all AV.leaf)=true then .sl .any k (((xs.drop off).take len).map (·.map (EZ n h d))) else .junk:=by
 rw[EZ];simp only[hn,if_false,hb]
def Frz {α:Type}(f:α->List AV):Prop:=∀(n:Nat) (h:Hp) (d:Nat) (x:α),(f x).map (EZ n h (d+1))=f x∧(f x).all AV.leaf=true
theorem frz_rows {α:Type}{f:α->List AV}(hf:Frz f)(n:Nat)(h:Hp)(d:Nat)(xs:List α):(xs.map f).map (·.map (EZ n h (d+1)))=xs.map f:=by
 rw[qW];exact List.map_congr_left fun x _=>(hf n h d x).1
theorem frz_own {α:Type}{f:α->List AV}(hf:Frz f){d:Nat}{o:Nat}{xs:List α}(hn:n<=o)(ho:h[o]?=some (yK k (xs.map f))):EZ n h (d+2) (.own o 0 xs.length)=.sl .any k (xs.map f):=by
 rw[frzF_own n h (d+1) o 0 xs.length k _ U ho,zT,jJ AZ,frz_rows hf n h d xs];rw[if_pos];refine⟨AZ,?_⟩;rw[zL];intro row hr;obtain⟨x,_,rfl⟩:=zH.1 hr;exact(hf n h d x).2
theorem KD {E:Env}{f:FuncId}{args:List AV}{α:Type}{enc:α->List AV}(hf:Frz enc){ys:List α}(hc:ACalls E f args h fun v H=>ext h H∧outG k enc h ys v H)(hX:E.nox=E:=by rfl):PCall E f args h (.sl (nm ys) k (ys.map enc)):=by
 have h1:PCall E f args h (if ys.length=0 then AV.sl .nil 0 [] else .sl .any k (ys.map enc)):=by
  refine ACalls.pure 2 hc ?_ hX;rintro v H ⟨hex,hout⟩;refine⟨hex,?_⟩;rcases hout with⟨rfl,rfl⟩|⟨hne,o,ho1,rfl,ho⟩
  .rfl
  .rw[if_neg (BG hne)]; exact frz_own hf ho1 ho
 refine ACalls.conv h1 ?_;rintro v H ⟨rfl,rfl⟩;refine⟨_,⟨rfl,rfl⟩,?_⟩;intro g cv hr
 cases ys with
 | nil=>exact AC8 hr
 | cons y ys=>exact hr
def J8 (m:Mo)(p:Int):List Bin:=match m.pts[p.toNat]? with
 | some q=>q.bins
 | none=>[]
def szs (m:Mo)(l:List Int):List Nat:=l.map fun p=>(J8 m p).length
def Here (m:Mo)(l:List Int):Prop:=∀p∈l,0<=p∧p<(m.pts.length:Int)
theorem Here.toNat {m:Mo}{l:List Int}(hh:Here m l){k:Nat}(hk:k<l.length):(l[k]).toNat<m.pts.length:=by
 have:=hh _ (jI hk); omega
theorem Here.bins {m:Mo}{l:List Int}(hh:Here m l){k:Nat}(hk:k<l.length):(m.pts[(l[k]).toNat]'(hh.toNat hk)).bins=J8 m l[k]:=by
 unfold J8; rw[jG (hh.toNat hk)]
theorem Here.ix {m:Mo}{l:List Int}(hh:Here m l){k:Nat}(hk:k<l.length)(h:Hp)(s:SM):IG 6 h (.sl s 6 (m.pts.map FC)) (.n l[k])=some (.fptr 6 (m.pts.map FC) (l[k]).toNat 0):=by
 have:=hh _ (jI hk);exact A04 this.1 (by rw[jM]; exact this.2)
theorem Here.ld {m:Mo}{l:List Int}(hh:Here m l){k:Nat}(hk:k<l.length)(h:Hp):∃s,BH jA h 80 (.fptr 6 (m.pts.map FC) (l[k]).toNat 5)=some (.sl s 4 ((J8 m l[k]).map F6)):=by
 rw[CU P6 (hh.toNat hk),TI,hh.bins hk];exact⟨_,rfl⟩
theorem frzI:Frz qencI:=fun _ _ _ _=>⟨rfl,rfl⟩
theorem AFF (h:Hp)(v:Int):C9 jA false h 32 1 [(0,.n v)]=some (.sl .full 1 [[.n v]],h):=A7
def KJ (n:Nat):List AV:=[.n (n:Int)]
theorem A3G:Frz KJ:=fun _ _ _ _=>⟨rfl,rfl⟩
theorem encN0 (n:Nat):(KJ n)[0]?=some (.n (n:Int)):=rfl
theorem encI0 (n:Int):(qencI n)[0]?=some (.n n):=rfl
theorem ABF (m:Mo)(l:List Int)(k:Nat)(hk:k<l.length):szs m (l.take (k+1))=szs m (l.take k)++[(J8 m l[k]).length]:=by
 unfold szs; rw[jU hk,List.map_append]; rfl
theorem aT (m:Mo)(c:Cr)(h:Hp)(hh:Here m c.pts)(hl:c.pts.length<=1048576):PCall (En G) 148 [.agg (DR m),.agg (H8 c)] h (.sl (nm (szs m c.pts)) 1 ((szs m c.pts).map KJ)):=by
 refine KD A3G ?_;refine acT Tryz.func148 4 ?_;refine P7 @bxM @bxC NE @dX ?_;have hb0:(h++[yK 2 [DR m]]++[yK 3 [H8 c]])[h.length]?=some (yK 2 [DR m]):=AB (AQ _ _);refine BJ (fun n F H=>∃k,n+k=c.pts.length∧F 2=.ptr h.length 0 0∧F 9=.sl c.pm 1 (c.pts.map qencI)∧F 10=.n c.pts.length∧F 11=.n (k:Nat)∧H[h.length]?=some (yK 2 [DR m])∧ext h H∧(∀b,isB (F 5) b->h.length<b)∧outG 1 KJ h (szs m (c.pts.take k)) (F 5) H) c.pts.length ⟨0,AZ,EK,EK,EK,EK,hb0,((ext.rfl' h).app _).app _,fun b hb=>hb.elim,outG.nil _ _ _ _⟩ ?_;rintro n F H ⟨k,hk,f2,f9,f10,f11,hb,he,hlt,ho⟩;refine A8 f10 f11 ?_;refine D8 ?_ ?_<;>intro hk'
 .have lm:BH jA H 28 (.ptr h.length 0 0)=some (.sl m.pm 6 (m.pts.map FC)):=by rw[BA iC hb (row:=DR m) rfl,VL]
  obtain⟨s,ls⟩:=hh.ld hk' H;have hzl:(szs m (c.pts.take k)).length<8388608:=by unfold szs; simp; omega
  obtain⟨v',H',ha,ho',hkeep,he',hle,hb'⟩:=ho.append VD sz3 cH ZU U hzl he (J8 m c.pts[k]).length;simp only[vQ,JM,CG,F7,J6,↓reduceIte,jC,enP,XG,PX,LY,rM,OJ,f2,f9,f11,CX hk',CU ag3 hk',encI0,lm,hh.ix hk',ls,jM,AFF];refine KT (v:=v') (h:=H') (by rw[show [[AV.int .i64 ((J8 m c.pts[k]).length:Int)]]=[KJ (J8 m c.pts[k]).length] from rfl,ha]) ?_;refine A8 f11 (CZ k) ?_;refine⟨n-1,U,k+1,U,f2,f9,f10,rfl,hkeep _ _ hb (fun e=>by have:=hlt _ e; omega),he',fun b hbb=>?_,?_⟩
  .have:=hb' b hbb; have:=Z hb; omega
  .rw[ABF m c.pts k hk']; exact ho'
 .rw[jJ U] at ho
  refine AA ?_;exact⟨he,ho⟩
def I8 (l:List Nat):Nat:=l.foldl (· * ·) 1
theorem mQ (l:List Nat)(k:Nat)(hk:k<l.length):I8 (l.take (k+1))=I8 (l.take k)*l[k]:=by
 unfold I8; rw[jU hk,List.foldl_append]; rfl
theorem mR (l:List Nat)(k:Nat)(h:∀n∈l,n<=64)(hk:l.length<=k):I8 l<=64^k:=by
 have gen:∀(l:List Nat) (a:Nat) (j:Nat),(∀n∈l,n<=64)->a<=64^j->l.foldl (· * ·) a<=64^(j+l.length):=by
  intro l
  induction l with
  | nil=>intro a j _ ha; exact ha
  | cons x l ih =>
    intro a j hl ha;rw[wC,zO,show j+(l.length+1)=(j+1)+l.length by omega];refine ih _ _ (fun n hn=>hl n (by simp [hn])) ?_;rw[Nat.pow_succ];exact Nat.mul_le_mul ha (hl x AZ)
 have:=gen l 1 0 h AZ;rw[jH] at this;exact qQ this (Nat.pow_le_pow_right U hk)
theorem cZ (l:List Nat)(s:SM)(h:Hp)(hl:∀n∈l,n<=64)(hk:l.length<=4):PCall (En G) 147 [.sl s 1 (l.map KJ)] h (.n (I8 l)):=by
 refine acT Tryz.func147 2 ?_;refine AA ?_
 have hp:∀k,I8 (l.take k)<=16777216:=fun k=>by
  have:=mR (l.take k) 4 (fun n hn=>hl n (List.mem_of_mem_take hn)) (by rw[jZ]; omega);simpa using this
 refine BJ (fun n F H=>∃k,n+k=l.length∧F 3=.n (I8 (l.take k))∧F 6=.sl s 1 (l.map KJ)∧F 7=.n l.length∧F 8=.n (k:Nat)∧H=h) l.length ⟨0,AZ,AL,AL,AL,AL,rfl⟩ ?_;rintro n F H ⟨k,hk,f3,f6,f7,f8,rfl⟩;refine A8 f7 f8 ?_;refine D8 ?_ ?_<;>intro hk'
 .have h1:=hp (k+1)
  rw[mQ l k hk'] at h1
  have hw:IntKind.i64.wrap ((I8 (l.take k):Int)*(l[k]:Int))=((I8 (l.take (k+1)):Nat):Int):=by
   rw[mQ l k hk',<-Int.natCast_mul,NK U]
  refine NW f3 f6 f8 hk' @encN0 hw (CZ k) ?_;exact⟨n-1,U,k+1,U,rfl,trivial,f7,rfl,trivial⟩
 .rw[jJ U] at f3
  refine AY f3 ?_;exact HY
def J7:List Nat->List Int->Bool
 | [],[]=>true
 | n::ns,x::xs=>decide (0<=x)&&decide (x<(n:Int))&&J7 ns xs
 | _,_=>false
theorem ASO (ns:List Nat):J7 ns []=(ns.length==0):=by cases ns<;>rfl
theorem TB:∀ {ns:List Nat} {xs:List Int},J7 ns xs=true->ns.length=xs.length
 | [],[],_=>rfl
 | n::ns,x::xs,h=>by
   simp only[J7,jO] at h;simp [TB h.2]
 | [],_::_,h=>by cases h
 | _::_,[],h=>by cases h
theorem inside_prog (ns:List Nat)(xs:List Int)(s t:SM)(h:Hp)(hn:ns.length<=1048576):PCall (En G) 167 [.sl s 1 (ns.map KJ),.sl t 1 (xs.map qencI)] h (.bool (J7 ns xs)):=by
 refine acT Tryz.func167 4 ?_;refine AA ?_;refine BJ (fun n F H=>∃k,n+k=xs.length∧k<=ns.length∧F 0=.sl s 1 (ns.map KJ)∧F 1=.sl t 1 (xs.map qencI)∧F 7=.sl t 1 (xs.map qencI)∧F 8=.n xs.length∧F 9=.n (k:Nat)∧H=h∧J7 ns xs=J7 (ns.drop k) (xs.drop k)) xs.length ⟨0,AZ,AZ,AL,AL,AL,AL,AL,rfl,rfl⟩ ?_;rintro n F H ⟨k,hk,hkn,f0,f1,f7,f8,f9,rfl,hi⟩;refine A8 f8 f9 ?_;refine D8 ?_ ?_<;>intro hk'
 .rw[qC hk'] at hi
  simp only[vQ,EI,CG,ML,↓reduceIte,jC,enP,LY,dH,f0,f7,f9,CX hk',CU ag3 hk',encI0,jM];refine IW ?_ ?_<;>intro ha
  .refine AY ha ?_
   have:ns.length<=k:=by simp at ha; omega
   rw[zM this] at hi;exact⟨by rw[hi]; rfl,trivial⟩
  have hkn':k<ns.length:=by simp at ha; omega
  rw[qC hkn'] at hi;refine AY ha ?_;refine IW ?_ ?_<;>intro hb
  .refine AY hb ?_
   have:decide (0<=xs[k])=false:=by simp at hb|-; omega
   exact⟨by rw[hi]; unfold J7; rw[this]; rfl,trivial⟩
  have h0:decide (0<=xs[k])=true:=by simp at hb|-; omega
  simp only[vQ,EI,CG,ML,↓reduceIte,jC,enP,LY,hb,f0,CX hkn',CU ag3 hkn',encN0];refine BM ?_ ?_<;>intro hd
  .refine AA ?_
   have:decide (xs[k]<(ns[k]:Int))=false:=by simp at hd|-; omega
   exact⟨by rw[hi]; unfold J7; rw[this,h0]; rfl,trivial⟩
  have h1:decide (xs[k]<(ns[k]:Int))=true:=by simp at hd|-; omega
  refine A8 f9 (CZ k) ?_;refine⟨n-1,U,k+1,U,U,f0,f1,f7,f8,rfl,trivial,?_⟩;rw[hi]
  conv=>lhs; unfold J7
  rw[h0,h1]; rfl
 .refine A8 f0 f1 ?_
  refine⟨?_,trivial⟩;rw[hi,zM (U:xs.length<=k),ASO,List.length_drop];congr 1;rw[qY]; simp; omega
theorem ADS (G:Nat->AV)(xs:List Is)(m:SM)(fid:FuncId)(caps:List AV)(p:Is->Bool)(h:Hp)(hl:xs.length<=1099511627776)
  (hf:∀r,PCall (En G) fid (.sl r.m 1 (r.l.map qencI)::caps) h (.bool (p r))) :
  PCall (En G) 243 [.sl m 1 (xs.map encL),.fn (.func fid) [] caps] h (.n (match xs.findIdx? p with|some i=>(i:Int)|none => -1)):=by
 refine acT Tryz.func243 4 ?_;refine AA ?_;refine BJ (fun n F H=>∃k,n+k=xs.length∧F 0=.sl m 1 (xs.map encL)∧F 1=.fn (.func fid) [] caps∧F 7=.n xs.length∧F 8=.n (k:Nat)∧H=h∧(xs.take k).all (fun r => !p r)=true) xs.length ⟨0,AZ,rfl,rfl,rfl,rfl,rfl,rfl⟩ ?_;rintro n F H ⟨k,hk,f0,f1,f7,f8,rfl,hin⟩;refine EM f0 f1 f7 f8 ?_;refine D8 ?_ ?_<;>intro hc'
 .simp only[vQ,CG,qJ,zG,↓reduceIte,jC,enP,fN,f0,f1,f7,f8,CX hc',CU NE hc',oL]
  refine(hf _).uu ?_;refine BM ?_ ?_<;>intro hb
  .refine AA ?_
   refine⟨?_,trivial⟩
   rw[wR.2 ⟨hc',hb,fun j hj=>by
    rw[zL] at hin;have:=hin xs[j] (by rw[List.mem_take_iff_getElem]; exact⟨j,U,rfl⟩)
    simpa using this⟩]
  .refine A8 f8 (CZ k) ?_
   refine⟨n-1,U,k+1,U,f0,f1,f7,rfl,trivial,?_⟩;rw[jU hc',yI,hin];simp only[wK,yJ,hb]; rfl
 .refine AA ?_
  refine⟨?_,trivial⟩;rw[jJ U] at hin;rw[wS.2 (BG hin)]
theorem TM (G:Nat->AV)(xs:List Is)(m:SM)(fid:FuncId)(caps:List AV)(p:Is->Bool)(h:Hp)(hl:xs.length<=1099511627776)
  (hf:∀r,PCall (En G) fid (.sl r.m 1 (r.l.map qencI)::caps) h (.bool (p r))) :
  PCall (En G) 165 [.sl m 1 (xs.map encL),.fn (.func fid) [] caps] h (.bool (xs.any p)):=by
 refine acT Tryz.func165 4 ?_;refine AA ?_;refine(ADS G xs m fid caps p h hl hf).uu ?_;refine⟨?_,trivial⟩
 cases hx:xs.findIdx? p with
 | some i =>
   obtain⟨h1,h2,_⟩:=wR.1 hx;have:xs.any p=true:=qL.2 ⟨xs[i],AZ,h2⟩;simp [this]
 | none =>
   have:xs.any p=false:=by
    rw[wS] at hx;rw[qM]; intro x hx2; simp [hx x hx2]
   simp [this]
theorem wA (ns:List Nat)(s:SM)(b:Nat)(r:Is)(h:Hp)(hb:h[b]?=some (yK 1 [[.sl s 1 (ns.map KJ)]]))(hn:ns.length<=1048576):
  PCall (En G) 166 [.sl r.m 1 (r.l.map qencI),.ptr b 0 0] h (.bool (!J7 ns r.l)):=by
 refine acT Tryz.func166 3 ?_;refine AY (GG NE hb) ?_;refine(inside_prog G ns r.l s r.m h hn).uu ?_;exact HY
def kT (n:Nat):Option Int->List Int->Bool
 | _,[]=>true
 | o,p::ps=>(decide (0<=p)&&decide (p<(n:Int))&&(match o with|some q=>decide (q<p)|none=>true))&&kT n (some p) ps
def prev (l:List Int)(k:Nat):Option Int:=match k with
 | 0=>none
 | k+1=>l[k]?
theorem AOB (n:Nat)(l:List Int)(k:Nat)(hk:k<l.length):kT n (prev l k) (l.drop k)=((decide (0<=l[k])&&decide (l[k]<(n:Int))&&(match prev l k with|some q=>decide (q<l[k])|none=>true))&&kT n (prev l (k+1)) (l.drop (k+1))):=by
 rw[qC hk];have:prev l (k+1)=some l[k]:=by unfold prev; exact jG hk
 rw[this]; rfl
theorem fO {m:Mo}:∀ {l:List Int} {o:Option Int},kT m.pts.length o l=true->Here m l
 | [],_,_=>fun p hp=>by cases hp
 | x::l,o,h=>by
   simp only[kT,jO,decide_eq_true_eq] at h;intro p hp
   cases zQ.1 hp with
   | inl e=>subst e; exact⟨h.1.1.1,h.1.1.2⟩
   | inr e=>exact fO h.2 p e
def KF (m:Mo)(c:Cr):Int :=
 if EX c.name=false then 7 else if c.pts.length<2∨4<c.pts.length then 1 else if kT m.pts.length none c.pts=false then 1 else
  if 256<I8 (szs m c.pts)∨256<c.excl.length then 2 else if(c.excl.any fun x => !J7 (szs m c.pts) x.l) then 1 else 0
structure CrOk (c:Cr):Prop where
 name:c.name.size<=1048576
 pts:c.pts.length<=1048576
 excl:c.excl.length<=1048576
 each:∀x∈c.excl,x.l.length<=1048576
def Full (m:Mo):Prop:=∀p∈m.pts,1<=p.bins.length∧p.bins.length<=64
theorem Full.szs {m:Mo}{l:List Int}(hf:Full m)(hh:Here m l):∀n∈szs m l,1<=n∧n<=64:=by
 intro n hn;obtain⟨p,hp,rfl⟩:=zH.1 hn;obtain⟨h0,h1⟩:=hh p hp;have hlt:p.toNat<m.pts.length:=U;have:J8 m p=(m.pts[p.toNat]).bins:=by unfold J8; rw[jG hlt]
 rw[this];exact hf _ (jI hlt)
theorem BAK (h:Hp):GU jA h 32=some (.ptr h.length 0 0,h++[yK 1 [[.sl .nil 0 []]]]):=FI (row:=[.sl .nil 0 []]) A7
theorem ldM {b:Nat}{m:Mo}(hb:h[b]?=some (yK 2 [DR m])):BH jA h 31 (.ptr b 0 0)=some (.agg (DR m)):=by
 rw[EF A8E A2A hb rfl (by rw[ATT]; exact jF 2)]; rfl
theorem ldC {b:Nat}{c:Cr}(hb:h[b]?=some (yK 3 [H8 c])):BH jA h 90 (.ptr b 0 0)=some (.agg (H8 c)):=by
 rw[EF APJ ABG hb rfl (by rw[OZ]; exact jF 3)]; rfl
theorem AIC (hG:GOk G)(m:Mo)(c:Cr)(hc:CrOk c)(hf:Full m)(h:Hp):PCall (En G) 88 [.agg (DR m),.agg (H8 c)] h (.n (KF m c)):=by
 refine ACalls.pure0 rfl ?_;have hc1:=hc.name;have hc2:=hc.pts;have hc3:=hc.excl;refine acT Tryz.func88 4 ?_;have gm:(h++[yK 2 [DR m]]++[yK 3 [H8 c]])[h.length]?=some (yK 2 [DR m]):=AB (AQ _ _);have gc:(h++[yK 2 [DR m]]++[yK 3 [H8 c]])[(h++[yK 2 [DR m]]).length]?=some (yK 3 [H8 c]):=AQ _ _;have hx:∃x,h++[yK 2 [DR m]]++[yK 3 [H8 c]]=h++x:=⟨_,zK _ _ _⟩;have hlt:h.length<(h++[yK 2 [DR m]]).length:=AZ;refine DL @ATA @bxM @bxC ?_
 generalize h++[yK 2 [DR m]]++[yK 3 [H8 c]]=H at gm gc hx|-
 generalize (h++[yK 2 [DR m]]).length=cb at gc hlt|-
 have lm:BH jA H 28 (.ptr h.length 0 0)=some (.sl m.pm 6 (m.pts.map FC)):=by rw[BA iC gm (row:=DR m) rfl,VL]
 have lc0:BH jA H 9 (.ptr cb 0 0)=some (.str c.name):=by rw[BA ag9 gc (row:=H8 c) rfl,ATX]
 have lc1:BH jA H 32 (.ptr cb 0 1)=some (.sl c.pm 1 (c.pts.map qencI)):=by rw[BA NE gc (row:=H8 c) rfl,dX]
 have lc2:BH jA H 25 (.ptr cb 0 2)=some (.sl c.xm 1 (c.excl.map encL)):=by rw[BA UC gc (row:=H8 c) rfl,AEP]
 refine AY lc0 ?_;refine(L8 G hG.kw c.name _ U).uu ?_;cases h1:EX c.name
 .refine AA ?_
  exact⟨by unfold KF; rw[if_pos h1],hx⟩
 have h1':¬EX c.name=false:=by rw[h1]; decide
 refine AY lc1 ?_;refine IW ?_ ?_<;>intro h2
 .refine AY h2 ?_
  exact⟨by unfold KF; rw[if_neg h1',if_pos (.inl (by simp at h2; omega))],hx⟩
 refine A8 h2 lc1 ?_;refine BM ?_ ?_<;>intro h3
 .refine AA ?_
  exact⟨by unfold KF; rw[if_neg h1',if_pos (.inr (by simp at h3; omega))],hx⟩
 have h23:¬(c.pts.length<2∨4<c.pts.length):=by simp at h2 h3; omega
 refine AY lc1 ?_;refine ER 0 (fun F H'=>F 2=.ptr h.length 0 0∧F 3=.ptr cb 0 0∧H'=H∧kT m.pts.length none c.pts=true) (fun F H'=>F 4=.n 1∧H'=H∧kT m.pts.length none c.pts=false) ?_ ?_ ?_
 .refine BJ (fun n F H'=>∃k,n+k=c.pts.length∧F 2=.ptr h.length 0 0∧F 3=.ptr cb 0 0∧F 23=.sl c.pm 1 (c.pts.map qencI)∧F 24=.n c.pts.length∧F 25=.n (k:Nat)∧H'=H∧kT m.pts.length none c.pts=kT m.pts.length (prev c.pts k) (c.pts.drop k)) c.pts.length ⟨0,AZ,AL,AL,AL,AL,AL,rfl,rfl⟩ ?_
  rintro n F H' ⟨k,hk,f2,f3,f23,f24,f25,rfl,hi⟩;refine A8 f24 f25 ?_;refine D8 ?_ ?_<;>intro hk'
  .rw[AOB _ _ _ hk'] at hi
   simp only[vQ,EI,CG,↓reduceIte,jC,enP,LY,f2,f3,f23,f25,CX hk',CU ag3 hk',encI0];refine IW ?_ ?_<;>intro ha
   .refine AY ha ?_
    have:decide (0<=c.pts[k])=false:=by simp at ha|-; omega
    exact⟨trivial,trivial,by rw[hi,this]; rfl⟩
   have ha':decide (0<=c.pts[k])=true:=by simp at ha|-; omega
   refine DL ha f2 lm ?_;refine IW ?_ ?_<;>intro hb
   .refine AY hb ?_
    have:decide (c.pts[k]<(m.pts.length:Int))=false:=by simp at hb|-; omega
    exact⟨trivial,trivial,by rw[hi,this,ha']; rfl⟩
   have hb':decide (c.pts[k]<(m.pts.length:Int))=true:=by simp at hb|-; omega
   rw[ha',hb'] at hi;simp only[Bool.true_and] at hi
   cases k with
   | zero =>
     have hz:decide ((((0:Nat):Int))>0)=false:=by decide
     refine EM hb hz f25 (CZ 0) ?_;exact⟨n-1,U,1,U,f2,f3,f23,f24,rfl,trivial,by rw[hi]; rfl⟩
   | succ k =>
     have hz:decide ((((k+1:Nat):Int))>0)=true:=AZ;have hw:IntKind.i64.wrap (((k+1:Nat):Int)-1)=(k:Int):=by rw[wrap_i64 U U]; omega
     have hk2:k<c.pts.length:=U;have hpv:prev c.pts (k+1)=some c.pts[k]:=by unfold prev; exact jG hk2
     rw[hpv] at hi;simp only[vQ,EI,P8,CG,PY,ZI,↓reduceIte,jC,enP,LY,U1,hb,hz,f3,lc1,hw,CX hk2,CU ag3 hk2,encI0];refine BM ?_ ?_<;>intro hd
     .refine AA ?_
      have:decide (c.pts[k]<c.pts[k+1])=false:=by simp at hd|-; omega
      exact⟨trivial,trivial,by rw[hi]; simp only[this]; rfl⟩
     .refine A8 f25 (CZ (k+1)) ?_
      have:decide (c.pts[k]<c.pts[k+1])=true:=by simp at hd|-; omega
      exact⟨n-1,U,k+1+1,U,f2,f3,f23,f24,rfl,trivial,by rw[hi]; simp only[this]; rfl⟩
  .refine AA ?_
   exact⟨f2,f3,trivial,by rw[hi,zM U]; rfl⟩
 .rintro F H' ⟨f2,f3,rfl,hi⟩
  have hh:=fO hi;have hi':¬kT m.pts.length none c.pts=false:=by rw[hi]; decide
  refine EM f2 f3 (ldM gm) (ldC gc) ?_;refine(aT G m c _ hh U).use ?_;have hsz:(szs m c.pts).length<=4:=by unfold szs; simp; omega
  have hst:=UH (t:=32) (v:=.sl .nil 0 []) (u:=.sl (nm (szs m c.pts)) 1 ((szs m c.pts).map KJ)) vP (AU8 _ _ _) (AQ H' (yK 1 [[.sl .nil 0 []]]));rw[vK] at hst;refine aJ BAK hst @GG NE @AQ ?_;refine(cZ G _ _ _ (fun n hn=>(hf.szs hh n hn).2) hsz).use ?_
  have hx2:∃x,H'++[yK 1 [[AV.sl (nm (szs m c.pts)) 1 ((szs m c.pts).map KJ)]]]=h++x:=by
   obtain⟨x,hx⟩:=hx;exact⟨x++_,by rw[hx,zK]⟩
  have lc2':∀x,BH jA (H'++[x]) 25 (.ptr cb 0 2)=some (.sl c.xm 1 (c.excl.map encL)):=fun x=>by rw[BA UC (AB gc) (row:=H8 c) rfl,AEP]
  refine AA ?_;refine IW ?_ ?_<;>intro ha
  .refine AY ha ?_
   exact⟨by unfold KF; rw[if_neg h1',if_neg h23,if_neg hi',if_pos (.inl (by simp at ha; omega))],hx2⟩
  refine DL ha f3 lc2' ?_;refine BM ?_ ?_<;>intro hb
  .refine AA ?_
   exact⟨by unfold KF; rw[if_neg h1',if_neg h23,if_neg hi',if_pos (.inr (by simp at hb; omega))],hx2⟩
  have hab:¬(256<I8 (szs m c.pts)∨256<c.excl.length):=by simp at ha hb; omega
  refine A8 f3 lc2' ?_;refine(TM G c.excl c.xm 166 _ (fun x => !J7 (szs m c.pts) x.l) _ U fun r=>wA G _ _ _ r _ (AQ H' _) U).uu ?_;cases he:c.excl.any fun x => !J7 (szs m c.pts) x.l
  .refine AA ?_
   exact⟨by unfold KF; rw[if_neg h1',if_neg h23,if_neg hi',if_neg hab,he]; rfl,hx2⟩
  .refine AA ?_
   exact⟨by unfold KF; rw[if_neg h1',if_neg h23,if_neg hi',if_neg hab,he]; rfl,hx2⟩
 .rintro F H' ⟨f4,rfl,hi⟩
  refine AY f4 ?_;exact⟨by unfold KF; rw[if_neg h1',if_neg h23,if_pos hi],hx⟩
theorem RY (m:Mo)(l:List Int):(szs m l).length=l.length:=by unfold szs; simp
structure Two (h H:Hp) (m:Mo) (c:Cr) (cb:Nat):Prop where
 gm:H[h.length]?=some (yK 2 [DR m])
 gc:H[cb]?=some (yK 3 [H8 c])
 hx:∃x,H=h++x
theorem Two.lm {m:Mo}{c:Cr}(t:Two h H m c cb):BH jA H 28 (.ptr h.length 0 0)=some (.sl m.pm 6 (m.pts.map FC)):=by rw[BA iC t.gm (row:=DR m) rfl,VL]
theorem Two.l0 {m:Mo}{c:Cr}(t:Two h H m c cb):BH jA H 9 (.ptr cb 0 0)=some (.str c.name):=by rw[BA ag9 t.gc (row:=H8 c) rfl,ATX]
theorem Two.l1 {h H:Hp}{m:Mo}{c:Cr}{cb:Nat}(t:Two h H m c cb):BH jA H 32 (.ptr cb 0 1)=some (.sl c.pm 1 (c.pts.map qencI)):=by rw[BA NE t.gc (row:=H8 c) rfl,dX]
theorem Two.l2 {m:Mo}{c:Cr}(t:Two h H m c cb):BH jA H 25 (.ptr cb 0 2)=some (.sl c.xm 1 (c.excl.map encL)):=by rw[BA UC t.gc (row:=H8 c) rfl,AEP]
theorem Two.mk' (h:Hp)(m:Mo)(c:Cr):Two h (h++[yK 2 [DR m]]++[yK 3 [H8 c]]) m c (h++[yK 2 [DR m]]).length:=⟨AB (AQ _ _),AQ _ _,⟨_,zK _ _ _⟩⟩
structure MoOk (m:Mo):Prop where
 np:m.pts.length<=1048576
 nc:m.crs.length<=1048576
 pts:∀p∈m.pts,PtOk p
 crs:∀c∈m.crs,CrOk c
def FK (m:Mo):Int :=
 if 16<m.pts.length+m.crs.length then 2 else if fstE IX m.pts≠0 then fstE IX m.pts else if XH (m.pts.map (·.name)) then 8 else
  if fstE (KF m) m.crs≠0 then fstE (KF m) m.crs else if XH (m.crs.map (·.name)) then 8 else 0
theorem PU {α:Type}(f:α->Int):∀ {xs:List α},fstE f xs=0->∀x∈xs,f x=0
 | [],_,_,hx=>by cases hx
 | y::ys,h,x,hx=>by
   simp only[fstE] at h;split at h
   .rename_i h0
    cases zQ.1 hx with
    | inl e=>subst e; exact h0
    | inr e=>exact PU f h x e
   .rename_i h0; exact absurd h h0
theorem iM {p:Pt}(h:IX p=0):1<=p.bins.length∧p.bins.length<=64:=by
 unfold IX at h;split at h
 .cases h
 .split at h
  .rename_i h2; exact absurd h h2
  .split at h
   .cases h
   .split at h
    .cases h
    .omega
theorem full_of {m:Mo}(h:fstE IX m.pts=0):Full m:=fun p hp=>iM (PU _ h p hp)
theorem AU2 (h:Hp):GU jA h 82=some (.ptr h.length 0 0,h++[yK 6 [[.str ⟨#[]⟩,.n 0,.n 0,.str ⟨#[]⟩,.sl .nil 0 [],.sl .nil 0 []]]]):=FI (row:=[.str ⟨#[]⟩,.n 0,.n 0,.str ⟨#[]⟩,.sl .nil 0 [],.sl .nil 0 []]) A7
theorem AQI (h:Hp)(p:Pt)(row:List AV)(hr:row.length=6):DT jA (h++[yK 6 [row]]) 82 (.ptr h.length 0 0) (.agg (FC p))=some (h++[yK 6 [FC p]]):=by
 rw[SE (O7 (gH p)) (by rw[H7]; exact aQ) (by rw[H7,hr]; exact jF _)];have:splice row 0 (FC p)=FC p:=by unfold splice; simp [H7,hr]
 rw[this]
theorem ldP {b:Nat}{p:Pt}(hb:h[b]?=some (yK 6 [FC p])):BH jA h 82 (.ptr b 0 0)=some (.agg (FC p)):=by
 rw[EF lA aQ hb rfl (by rw[H7]; exact jF 6),zT,jJ (by rw[H7]; exact jF 6)]
theorem A4A (h:Hp):GU jA h 90=some (.ptr h.length 0 0,h++[yK 3 [[.str ⟨#[]⟩,.sl .nil 0 [],.sl .nil 0 []]]]):=FI (row:=[.str ⟨#[]⟩,.sl .nil 0 [],.sl .nil 0 []]) A7
theorem A2D (h:Hp)(c:Cr)(row:List AV)(hr:row.length=3):DT jA (h++[yK 3 [row]]) 90 (.ptr h.length 0 0) (.agg (H8 c))=some (h++[yK 3 [H8 c]]):=by
 rw[SE (O7 rfl) (by rw[OZ]; exact ABG) (by rw[OZ,hr]; exact jF _)];have:splice row 0 (H8 c)=H8 c:=by unfold splice; simp [OZ,hr]
 rw[this]
theorem S9 (hG:GOk G)(m:Mo)(hm:MoOk m)(h:Hp):PCall (En G) 41 [.agg (DR m)] h (.n (FK m)):=by
 refine ACalls.pure0 rfl ?_;have hm1:=hm.np;have hm2:=hm.nc;refine acT Tryz.func41 2 ?_;have hw:IntKind.i64.wrap ((m.pts.length:Int)+(m.crs.length:Int))=(m.pts.length:Int)+(m.crs.length:Int):=wrap_i64 U U;refine aI @bxM iC sA @VL @aF hw ?_;refine BM ?_ ?_<;>intro h1
 .refine AA ?_
  exact⟨by unfold FK; rw[if_pos (by simp at h1; omega)],_,rfl⟩
 have h1':¬16<m.pts.length+m.crs.length:=by simp at h1; omega
 have hme:FK m=if fstE IX m.pts≠0 then fstE IX m.pts else if XH (m.pts.map (·.name)) then 8 else if fstE (KF m) m.crs≠0 then fstE (KF m) m.crs else if XH (m.crs.map (·.name)) then 8 else 0:=by
  unfold FK; rw[if_neg h1']
 have lm0:∀H:Hp,H[h.length]?=some (yK 2 [DR m])->BH jA H 28 (.ptr h.length 0 0)=some (.sl m.pm 6 (m.pts.map FC)):=fun H hH=>by rw[BA iC hH (row:=DR m) rfl,VL]
 have lm1:∀H:Hp,H[h.length]?=some (yK 2 [DR m])->BH jA H 29 (.ptr h.length 0 1)=some (.sl m.cm 3 (m.crs.map H8)):=fun H hH=>by rw[BA sA hH (row:=DR m) rfl,aF]
 refine O3 iC @VL ?_;refine ER 0 (fun F H=>F 1=.ptr h.length 0 0∧H[h.length]?=some (yK 2 [DR m])∧(∃x,H=h++x)∧fstE IX m.pts=0) (fun F H=>F 2=.n (FK m)∧∃x,H=h++x) ?_ ?_ ?_
 .refine BJ (fun n F H=>∃k,n+k=m.pts.length∧F 1=.ptr h.length 0 0∧F 18=.sl m.pm 6 (m.pts.map FC)∧F 19=.n m.pts.length∧F 20=.n (k:Nat)∧H[h.length]?=some (yK 2 [DR m])∧(∃x,H=h++x)∧fstE IX m.pts=fstE IX (m.pts.drop k)) m.pts.length ⟨0,AZ,EK,EK,EK,EK,AQ _ _,⟨_,rfl⟩,rfl⟩ ?_
  rintro n F H ⟨k,hk,f1,f18,f19,f20,hb,⟨x,hx⟩,hf⟩;refine A8 f19 f20 ?_;refine D8 ?_ ?_<;>intro hk'
  .have hs:=ZA IX m.pts k hk'
   simp only[vQ,CG,↓reduceIte,jC,enP,XG,jQ,f18,f20,CX hk',DC lA aQ H7 hk',AU2,AQI _ _ [.str ⟨#[]⟩,.n 0,.n 0,.str ⟨#[]⟩,.sl .nil 0 [],.sl .nil 0 []] rfl,ldP (AQ H (yK 6 [FC m.pts[k]]))];refine(mW G hG m.pts[k] (hm.pts _ (jI hk')) _).uu ?_;refine BM ?_ ?_<;>intro hv
   .refine AA ?_
    have hv':IX m.pts[k]≠0:=BG hv;have:fstE IX m.pts=IX m.pts[k]:=by rw[hf,hs,if_neg hv']
    exact⟨by rw[hme,this,if_pos hv'],x++_,by rw[hx,zK]⟩
   .have hv':IX m.pts[k]=0:=BG hv
    refine A8 f20 (CZ k) ?_;exact⟨n-1,U,k+1,U,f1,f18,f19,rfl,AB hb,⟨x++_,by rw[hx,zK]⟩,by rw[hf,hs,if_pos hv']⟩
  .refine AA ?_
   exact⟨f1,hb,⟨x,hx⟩,by rw[hf,zM U]; rfl⟩
 .rintro F H ⟨f1,hb,hx0,hf⟩
  have hfull:=full_of hf;rw[hf,if_neg (fun hh=>hh rfl)] at hme;refine A8 f1 (lm0 _ hb) ?_;refine(AM2 G m.pts m.pm H U).uu ?_;cases hd:XH (m.pts.map (·.name))
  case true =>
   refine AA ?_;exact⟨by rw[hme,hd]; rfl,hx0⟩
  rw[hd] at hme;simp only[qU,if_false] at hme;refine A8 f1 (lm1 _ hb) ?_;refine ER 2 (fun F H=>F 1=.ptr h.length 0 0∧H[h.length]?=some (yK 2 [DR m])∧(∃x,H=h++x)∧fstE (KF m) m.crs=0) (fun F H=>F 2=.n (FK m)∧∃x,H=h++x) ?_ ?_ ?_
  .refine BJ (fun n F H=>∃k,n+k=m.crs.length∧F 1=.ptr h.length 0 0∧F 34=.sl m.cm 3 (m.crs.map H8)∧F 35=.n m.crs.length∧F 36=.n (k:Nat)∧H[h.length]?=some (yK 2 [DR m])∧(∃x,H=h++x)∧fstE (KF m) m.crs=fstE (KF m) (m.crs.drop k)) m.crs.length ⟨0,AZ,LX f1,EK,EK,EK,hb,hx0,rfl⟩ ?_
   clear f1 hb hx0;rintro n F H ⟨k,hk,f1,f34,f35,f36,hb,⟨x,hx⟩,hf⟩;refine A8 f35 f36 ?_;refine D8 ?_ ?_<;>intro hk'
   .have hs:=ZA (KF m) m.crs k hk'
    simp only[vQ,CG,↓reduceIte,jC,enP,fM,jQ,f1,f34,f36,CX hk',DC APJ ABG OZ hk',A4A,A2D _ _ [.str ⟨#[]⟩,.sl .nil 0 [],.sl .nil 0 []] rfl,ldC (AQ H (yK 3 [H8 m.crs[k]])),ldM (AB (x:=yK 3 [H8 m.crs[k]]) hb)];refine(AIC G hG m m.crs[k] (hm.crs _ (jI hk')) hfull _).uu ?_;refine BM ?_ ?_<;>intro hv
    .refine AA ?_
     have hv':KF m m.crs[k]≠0:=BG hv;have:fstE (KF m) m.crs=KF m m.crs[k]:=by rw[hf,hs,if_neg hv']
     exact⟨by rw[hme,this,if_pos hv'],x++_,by rw[hx,zK]⟩
    .have hv':KF m m.crs[k]=0:=BG hv
     refine A8 f36 (CZ k) ?_;exact⟨n-1,U,k+1,U,f1,f34,f35,rfl,AB hb,⟨x++_,by rw[hx,zK]⟩,by rw[hf,hs,if_pos hv']⟩
   .refine AA ?_
    exact⟨f1,hb,⟨x,hx⟩,by rw[hf,zM U]; rfl⟩
  .rintro F H ⟨f1,hb,hx,hf⟩
   rw[hf,if_neg (fun hh=>hh rfl)] at hme;refine A8 f1 (lm1 _ hb) ?_;refine(AM3 G m.crs m.cm H U).uu ?_;cases hd:XH (m.crs.map (·.name))
   .refine AA ?_
    exact⟨by rw[hme,hd]; rfl,hx⟩
   .refine AA ?_
    exact⟨by rw[hme,hd]; rfl,hx⟩
  .rintro F H ⟨f2,hx⟩
   refine AY f2 ?_;exact⟨trivial,hx⟩
 .rintro F H ⟨f2,hx⟩
  refine AY f2 ?_;exact⟨trivial,hx⟩
def eqL (a b:List Int):Bool:=decide (a=b)
theorem ATK {a b:List Int}(ha:k<a.length)(hb:k<b.length):eqL (a.drop k) (b.drop k)=(decide (a[k]=b[k])&&eqL (a.drop (k+1)) (b.drop (k+1))):=by
 rw[qC ha,qC hb];unfold eqL;rw[decide_eq_decide.2 (Iff.of_eq (List.cons.injEq _ _ _ _)),Bool.decide_and]
theorem oI (a b:List Int)(s t:SM)(h:Hp)(hl:b.length<=1099511627776):PCall (En G) 216 [.sl s 1 (a.map qencI),.sl t 1 (b.map qencI)] h (.bool (eqL a b)):=by
 refine acT Tryz.func216 4 ?_;refine AA ?_;refine BM ?_ ?_<;>intro h1
 .refine AA ?_
  have:eqL a b=false:=by
   unfold eqL; rw[decide_eq_false_iff_not]; intro e; subst e; simp at h1
  exact⟨by rw[this],trivial⟩
 have hab:a.length=b.length:=by simp at h1; omega
 refine AA ?_;refine BJ (fun n F H=>∃k,n+k=a.length∧F 0=.sl s 1 (a.map qencI)∧F 1=.sl t 1 (b.map qencI)∧F 12=.n a.length∧F 13=.n (k:Nat)∧H=h∧eqL a b=eqL (a.drop k) (b.drop k)) a.length ⟨0,AZ,AL,AL,AL,AL,rfl,rfl⟩ ?_;rintro n F H ⟨k,hk,f0,f1,f12,f13,rfl,hi⟩;refine A8 f12 f13 ?_;refine D8 ?_ ?_<;>intro hk'
 .have hkb:k<b.length:=U
  rw[ATK hk' hkb] at hi;refine AY f13 ?_;refine DZ A7 ?_;simp only[vQ,OM,↓reduceIte,jC,jS,enP,LY,f0,f1,f13,CX hk',CX hkb,CU ag3 hk',CU ag3 hkb,encI0];refine BM ?_ ?_<;>intro hd
  .refine AA ?_
   have:decide (a[k]=b[k])=false:=BG hd;exact⟨by rw[hi,this]; rfl,trivial⟩
  .refine A8 f13 (CZ k) ?_
   have:decide (a[k]=b[k])=true:=BG hd;exact⟨n-1,U,k+1,U,f0,f1,f12,rfl,trivial,by rw[hi,this]; rfl⟩
 .refine AA ?_
  exact⟨by rw[hi,zM U,zM U]; rfl,trivial⟩
def KI (n:Int):Bool:=decide (0<=n)&&decide (n<=1099511627776)
def countB (n:Int)(may:Bool):Bool:=KI n&&(may||n==0)
theorem bS (n:Int)(may:Bool)(h:Hp):PCall (En G) 121 [.n n,.bool may] h (.bool (countB n may)):=by
 refine acT Tryz.func121 4 ?_;refine AA ?_;cases ha:decide (n≥0)<;>cases hb:decide (n<=1099511627776)<;>cases may
 all_goals
  refine A8 ha hb ?_;exact⟨by unfold countB KI; rw[show decide (0<=n)=decide (n≥0) from rfl,ha,hb]; rfl,trivial⟩
theorem iY (b:Bin)(h:Hp):PCall (En G) 210 [.agg (F6 b)] h (.bool (b.kind==0)):=by
 refine ACalls.pure0 rfl ?_;refine acT Tryz.func210 2 ?_;refine O3 @bxB @aG ?_;exact⟨trivial,_,rfl⟩
def WO (m:Mo)(p b:Int):Int:=match (J8 m p)[b.toNat]? with
 | some x=>x.kind
 | none=>0
def OG (m:Mo):List Int->List Int->Bool
 | p::ps,b::bs=>(WO m p b==0)&&OG m ps bs
 | _,_=>true
def ZQ (m:Mo)(c:Cr)(l:List Int):Bool:=OG m c.pts l && !(c.excl.any fun x=>eqL x.l l)
theorem dN {m:Mo}:∀ {ps l:List Int},J7 (szs m ps) l=true->∀(k:Nat) (hk:k<l.length) (hp:k<ps.length),0<=l[k]∧l[k]<((J8 m ps[k]).length:Int)
 | p::ps,b::bs,h,k,hk,hp=>by
   simp only[szs,jK,J7,jO,decide_eq_true_eq] at h
   cases k with
   | zero=>exact h.1
   | succ k=>exact dN (m:=m) (ps:=ps) h.2 k (BG hk) (BG hp)
 | [],b::bs,h,k,hk,hp=>by simp at hp
 | _,[],h,k,hk,hp=>by simp at hk
theorem iP (m:Mo)(ps l:List Int)(k:Nat)(hp:k<ps.length)(hk:k<l.length):OG m (ps.drop k) (l.drop k)=((WO m ps[k] l[k]==0)&&OG m (ps.drop (k+1)) (l.drop (k+1))):=by
 rw[qC hp,qC hk]; rfl
theorem nJ (m:Mo)(ps:List Int):OG m ps []=true:=by cases ps<;>rfl
theorem AUL {m:Mo}{p b:Int}(h0:0<=b)(h1:b<((J8 m p).length:Int))(h:Hp)(s:SM):IG 4 h (.sl s 4 ((J8 m p).map F6)) (.n b)=some (.fptr 4 ((J8 m p).map F6) b.toNat 0) :=
 A04 h0 (by rw[jM]; exact h1)
theorem AFH {m:Mo}{p b:Int}(h0:0<=b)(h1:b<((J8 m p).length:Int)):((J8 m p)[b.toNat]'U).kind=WO m p b:=by
 unfold WO; rw[jG U]
theorem AYY (l:List Int)(s:SM)(b:Nat)(r:Is)(h:Hp)(hb:h[b]?=some (yK 1 [[.sl s 1 (l.map qencI)]]))(hl:l.length<=1099511627776):
  PCall (En G) 276 [.sl r.m 1 (r.l.map qencI),.ptr b 0 0] h (.bool (eqL r.l l)):=by
 refine acT Tryz.func276 3 ?_;refine AY (GG NE hb) ?_;refine(oI G r.l l r.m s h hl).uu ?_;exact HY
theorem Two.app {m:Mo}{c:Cr}(t:Two h H m c cb)(x:Hp):Two h (H++x) m c cb:=by
 obtain⟨y,hy⟩:=t.hx;exact⟨FM t.gm,FM t.gc,⟨y++x,by rw[hy,zK]⟩⟩
theorem rQ (m:Mo)(c:Cr)(l:List Int)(s:SM)(h:Hp)(hh:Here m c.pts)(hi:J7 (szs m c.pts) l=true)(hl:c.pts.length<=1048576)(hx:c.excl.length<=1048576):PCall (En G) 211 [.agg (DR m),.agg (H8 c),.sl s 1 (l.map qencI)] h (.bool (ZQ m c l)):=by
 refine ACalls.pure0 rfl ?_;have hlen:l.length=c.pts.length:=by have:=TB hi; rw[RY] at this; omega
 refine acT Tryz.func211 6 ?_;have t:=(Two.mk' h m c).app [yK 1 [[.sl s 1 (l.map qencI)]]];have gl:=AQ (h++[yK 2 [DR m]]++[yK 3 [H8 c]]) (yK 1 [[.sl s 1 (l.map qencI)]]);refine DL @pC @bxM @bxC ?_
 generalize h++[yK 2 [DR m]]++[yK 3 [H8 c]]++[yK 1 [[.sl s 1 (l.map qencI)]]]=H at t gl|-
 generalize (h++[yK 2 [DR m]]++[yK 3 [H8 c]]).length=lb at gl|-
 generalize (h++[yK 2 [DR m]]).length=cb at t|-
 refine AY (GG NE gl) ?_;have hkb:=iP m c.pts l;refine ER 0 (fun F H'=>F 4=.ptr cb 0 0∧F 5=.ptr lb 0 0∧H'=H∧OG m c.pts l=true) (fun F H'=>F 6=.bool false∧H'=H∧OG m c.pts l=false) ?_ ?_ ?_
 .refine BJ (fun n F H'=>∃k,n+k=l.length∧F 3=.ptr h.length 0 0∧F 4=.ptr cb 0 0∧F 5=.ptr lb 0 0∧F 9=.sl s 1 (l.map qencI)∧F 10=.n l.length∧F 11=.n (k:Nat)∧H'=H∧OG m c.pts l=OG m (c.pts.drop k) (l.drop k)) l.length ⟨0,AZ,AL,AL,AL,AL,AL,AL,rfl,rfl⟩ ?_
  rintro n F H' ⟨k,hk,f3,f4,f5,f9,f10,f11,rfl,hk0⟩;refine A8 f10 f11 ?_;refine D8 ?_ ?_<;>intro hk'
  .have hkc:k<c.pts.length:=U
   rw[hkb k hkc hk'] at hk0;obtain⟨h0,h1⟩:=dN hi k hk' hkc;obtain⟨s2,ls⟩:=hh.ld hkc H';simp only[vQ,CG,↓reduceIte,jC,enP,LY,f9,f11,CX hk',CU ag3 hk',encI0];refine DZ A7 ?_;simp only[vQ,AVW,O4,NU,AA1,↓reduceIte,jC,jS,enP,XG,PX,LY,fL,OJ,U1,f3,f4,f11,t.lm,t.l1,CX hkc,CU ag3 hkc,encI0,hh.ix hkc,ls,AUL h0 h1,DC kZ aP KZ (U:l[k].toNat<(J8 m c.pts[k]).length)];refine⟨_,iY G _ _,?_⟩
   try refine AA ?_
   rw[AFH h0 h1];cases hkd:(WO m c.pts[k] l[k]==0)
   .refine AA ?_
    exact⟨trivial,trivial,by rw[hk0,hkd]; rfl⟩
   .refine A8 f11 (CZ k) ?_
    exact⟨n-1,U,k+1,U,f3,f4,f5,f9,f10,rfl,trivial,by rw[hk0,hkd]; rfl⟩
  .refine AA ?_
   exact⟨f4,f5,trivial,by rw[hk0,zM (U:l.length<=k),nJ]⟩
 .rintro F H' ⟨f4,f5,rfl,hk⟩
  refine DL f4 f5 @t.l2 ?_;refine(TM G c.excl c.xm 276 _ (fun x=>eqL x.l l) _ U fun r=>AYY G l s _ r _ gl U).uu ?_;exact⟨by unfold ZQ; rw[hk]; rfl,t.hx⟩
 .rintro F H' ⟨f6,rfl,hk⟩
  refine AY f6 ?_;exact⟨by unfold ZQ; rw[hk]; rfl,t.hx⟩
theorem AY1 (xs:List Nat):xs.map KJ=(xs.map fun n:Nat=>(n:Int)).map qencI:=by
 rw[qW]; rfl
def tupF:List Nat->Nat->List Nat×Nat
 | [],k=>([],k)
 | n::ns,k=>(((tupF ns k).2%n)::(tupF ns k).1,(tupF ns k).2/n)
def SQ (ns:List Nat)(k:Nat):List Int:=(tupF ns k).1.map fun n:Nat=>(n:Int)
theorem XO:∀(ns:List Nat) (k:Nat),(tupF ns k).1.length=ns.length
 | [],_=>rfl
 | n::ns,k=>by simp [tupF,XO ns k]
theorem ABE:∀(ns:List Nat) (k:Nat),(∀n∈ns,1<=n)->J7 ns (SQ ns k)=true
 | [],_,_=>rfl
 | n::ns,k,h=>by
   have h1:=h n AZ;have ih:=ABE ns k (fun x hx=>h x (by simp [hx]));have h2:(tupF ns k).2%n<n:=Nat.mod_lt _ U;show J7 (n::ns) (((tupF ns k).2%n:Nat)::SQ ns k)=true;unfold J7;rw[ih];simp; omega
theorem tup_step {ns:List Nat}{K j:Nat}(hj:j<ns.length):tupF (ns.drop j) K=(((tupF (ns.drop (j+1)) K).2%ns[j])::(tupF (ns.drop (j+1)) K).1,(tupF (ns.drop (j+1)) K).2/ns[j]):=by
 rw[qC hj]; rfl
theorem A9P (h:Hp)(n:Nat)(hn:n<=1048576):GR jA true h 32 (.n (n:Int)) (.n (n:Int))=some (.own h.length 0 n,h++[yK 1 ((jR n 0).map KJ)]):=by
 have hz:MC jA 3=some [.n 0]:=A7;have hr:room n 8:=GV U U;unfold GR;simp only[VD,sz3,ZU,hz,Int.toNat_natCast];rw[if_pos ⟨U,Int.le_refl _,hr,rfl⟩];simp [KJ]
structure Cvr where
 pm:SM
 pts:List Is
 cm:SM
 crs:List Is
 sam:Int
 ill:Int
def encV (v:Cvr):List AV:=[.sl v.pm 1 (v.pts.map encL),.sl v.cm 1 (v.crs.map encL),.n v.sam,.n v.ill]
theorem encV0 (v:Cvr):(encV v)[0]?=some (.sl v.pm 1 (v.pts.map encL)):=rfl
theorem encV1 (v:Cvr):(encV v)[1]?=some (.sl v.cm 1 (v.crs.map encL)):=rfl
theorem encV2 (v:Cvr):(encV v)[2]?=some (.n v.sam):=rfl
theorem encV3 (v:Cvr):(encV v)[3]?=some (.n v.ill):=rfl
theorem encV_len (v:Cvr):(encV v).length=4:=rfl
theorem bxV (h:Hp)(v:Cvr):MS h (.agg (encV v))=some (.ptr h.length 0 0,h++[yK 4 [encV v]]):=rfl
theorem ldV {b:Nat}{v:Cvr}(hb:h[b]?=some (yK 4 [encV v])):BH jA h 46 (.ptr b 0 0)=some (.agg (encV v)):=by
 rw[EF A8C AGL hb rfl (by rw[encV_len]; exact jF 4)]; rfl
def rowF (p:Nat->Bool):Nat->List Int->Bool
 | _,[]=>true
 | k,n::ns=>countB n (p k)&&rowF p (k+1) ns
theorem AMY (p:Nat->Bool)(l:List Int)(k:Nat)(hk:k<l.length):rowF p k (l.drop k)=(countB l[k] (p k)&&rowF p (k+1) (l.drop (k+1))):=by
 rw[qC hk]; rfl
def OI {α:Type}(ok:α->Is->Bool):List α->List Is->Bool
 | [],[]=>true
 | a::ws,x::xs=>ok a x&&OI ok ws xs
 | _,_=>false
theorem dR {α:Type}{ok:α->Is->Bool}:∀ {ws:List α} {xs:List Is},OI ok ws xs=true->ws.length=xs.length
 | [],[],_=>rfl
 | a::ws,x::xs,h=>by
   simp only[OI,jO] at h;simp [dR h.2]
 | [],_::_,h=>by cases h
 | _::_,[],h=>by cases h
theorem AOK {α:Type}(ok:α->Is->Bool)(ws:List α)(xs:List Is)(k:Nat)(ha:k<ws.length)(hx:k<xs.length):OI ok (ws.drop k) (xs.drop k)=(ok ws[k] xs[k]&&OI ok (ws.drop (k+1)) (xs.drop (k+1))):=by
 rw[qC ha,qC hx]; rfl
theorem AS7 {α:Type}(ok:α->Is->Bool)(ws:List α)(xs:List Is)(k:Nat)(ha:ws.length<=k)(hx:xs.length<=k):OI ok (ws.drop k) (xs.drop k)=true:=by
 rw[zM ha,zM hx]; rfl
def kindOf (p:Pt)(k:Nat):Int:=match p.bins[k]? with
 | some b=>b.kind
 | none=>0
def okP (p:Pt)(x:Is):Bool:=(x.l.length==p.bins.length)&&rowF (fun k=>kindOf p k==0) 0 x.l
def okC (m:Mo)(c:Cr)(x:Is):Bool:=(x.l.length==I8 (szs m c.pts))&&rowF (fun k=>ZQ m c (SQ (szs m c.pts) k)) 0 x.l
structure CvOk (v:Cvr):Prop where
 pts:v.pts.length<=1048576
 crs:v.crs.length<=1048576
 eachP:∀x∈v.pts,x.l.length<=1048576
 eachC:∀x∈v.crs,x.l.length<=1048576
theorem AOJ (m:Mo)(l:List Is)(s:SM)(h:Hp)(hm:MoOk m)(hl:∀x∈l,x.l.length<=1048576):PCall (En G) 119 [.agg (DR m),.sl s 1 (l.map encL)] h (.bool (OI okP m.pts l)):=by
 refine ACalls.pure0 rfl ?_;have hm1:=hm.np;refine acT Tryz.func119 4 ?_;refine MB @bxM iC @VL ?_;refine BM ?_ ?_<;>intro h1
 .refine AA ?_
  have:OI okP m.pts l=false:=by
   rw[<-Bool.not_eq_true]; intro e;have:=dR e;simp at h1; omega
  exact⟨by rw[this],_,rfl⟩
 have hlen:l.length=m.pts.length:=by simp at h1; omega
 refine O3 iC @VL ?_;refine BJ (fun n F H=>∃i,n+i=m.pts.length∧F 1=.sl s 1 (l.map encL)∧F 16=.sl m.pm 6 (m.pts.map FC)∧F 17=.n m.pts.length∧F 18=.n (i:Nat)∧(∃x,H=h++x)∧OI okP m.pts l=OI okP (m.pts.drop i) (l.drop i)) m.pts.length ⟨0,AZ,EK,EK,EK,EK,⟨_,rfl⟩,rfl⟩ ?_;rintro n F H ⟨i,hi,f1,f16,f17,f18,hx,hf⟩;refine A8 f17 f18 ?_;refine D8 ?_ ?_<;>intro hi'
 .have hil:i<l.length:=U
  rw[AOK okP m.pts l i hi' hil] at hf
  have hx1:∃x,H++[yK 6 [FC m.pts[i]]]=h++x:=by
   obtain⟨x,rfl⟩:=hx;exact⟨_,zK _ _ _⟩
  have hxl:=hl _ (jI hil);simp only[vQ,CG,↓reduceIte,jC,enP,XG,jQ,f16,f18,CX hi',DC lA aQ H7 hi',AU2,AQI _ _ [.str ⟨#[]⟩,.n 0,.n 0,.str ⟨#[]⟩,.sl .nil 0 [],.sl .nil 0 []] rfl];refine DZ A7 ?_;simp only[vQ,OM,LJ,↓reduceIte,jC,jS,enP,fN,dH,rM,OJ,f1,CX hil,CU NE hil,oL,D5 P6,TI,jM];refine BM ?_ ?_<;>intro h2
  .refine AA ?_
   have:okP m.pts[i] l[i]=false:=by
    have:(l[i].l.length==m.pts[i].bins.length)=false:=by
     rw[beq_eq_false_iff_ne]; intro e; simp [e] at h2
    unfold okP; rw[this]; rfl
   exact⟨by rw[hf,this]; rfl,hx1⟩
  have hbl:l[i].l.length=m.pts[i].bins.length:=by simp at h2; omega
  have hok:okP m.pts[i] l[i]=rowF (fun k=>kindOf m.pts[i] k==0) 0 l[i].l:=by
   unfold okP; rw[beq_iff_eq.2 hbl]; rfl
  simp only[vQ,CG,↓reduceIte,jC,enP,fN,dH,f1,CX hil,CU NE hil,oL,jM];refine ER 2 (fun F' H'=>F' 1=.sl s 1 (l.map encL)∧F' 16=.sl m.pm 6 (m.pts.map FC)∧F' 17=.n m.pts.length∧F' 18=.n (i:Nat)∧H'=H++[yK 6 [FC m.pts[i]]]∧okP m.pts[i] l[i]=true) (fun F' H'=>F' 4=.bool false∧H'=H++[yK 6 [FC m.pts[i]]]∧okP m.pts[i] l[i]=false) ?_ ?_ ?_
  .refine BJ (fun n F' H'=>∃k,n+k=l[i].l.length∧F' 1=.sl s 1 (l.map encL)∧F' 16=.sl m.pm 6 (m.pts.map FC)∧F' 17=.n m.pts.length∧F' 18=.n (i:Nat)∧F' 6=.ptr H.length 0 0∧F' 35=.sl l[i].m 1 (l[i].l.map qencI)∧F' 36=.n l[i].l.length∧F' 37=.n (k:Nat)∧H'=H++[yK 6 [FC m.pts[i]]]∧okP m.pts[i] l[i]=rowF (fun k=>kindOf m.pts[i] k==0) k (l[i].l.drop k)) l[i].l.length ⟨0,AZ,LX f1,LX f16,LX f17,LX f18,EK,EK,EK,EK,rfl,hok⟩ ?_
   clear f1 f16 f17 f18;rintro n' F H' ⟨k,hk,f1,f16,f17,f18,f6,f35,f36,f37,rfl,hr⟩;refine A8 f36 f37 ?_;refine D8 ?_ ?_<;>intro hk'
   .have hkb:k<m.pts[i].bins.length:=U
    have hkd:kindOf m.pts[i] k=(m.pts[i].bins[k]).kind:=by unfold kindOf; rw[jG hkb]
    rw[AMY _ _ _ hk',hkd] at hr;simp only[vQ,CG,↓reduceIte,jC,enP,LY,fL,OJ,f6,f35,f37,CX hk',CU ag3 hk',encI0,D5 P6,TI,CX hkb,DC kZ aP KZ hkb];refine(iY G _ _).uu ?_;refine(bS G _ _ _).uu ?_;cases hcb:countB l[i].l[k] (m.pts[i].bins[k].kind==0)
    .refine AA ?_
     exact⟨trivial,trivial,by rw[hr,hcb]; rfl⟩
    .refine A8 f37 (CZ k) ?_
     exact⟨n'-1,U,k+1,U,f1,f16,f17,f18,f6,f35,f36,rfl,trivial,by rw[hr,hcb]; rfl⟩
   .refine AA ?_
    exact⟨f1,f16,f17,f18,trivial,by rw[hr,zM U]; rfl⟩
  .rintro F' H' ⟨g1,g16,g17,g18,rfl,hr⟩
   refine A8 g18 (CZ i) ?_;exact⟨n-1,U,i+1,U,g1,g16,g17,rfl,hx1,by rw[hf,hr]; rfl⟩
  .rintro F' H' ⟨g4,rfl,hr⟩
   refine AY g4 ?_;exact⟨by rw[hf,hr]; rfl,hx1⟩
 .refine AA ?_
  exact⟨by rw[hf,AS7 okP _ _ i U U],hx⟩
def eL (G:Nat->AV):Prop:=∀(ns:List Nat) (s:SM) (K:Nat) (h:Hp),0<ns.length->ns.length<=4->(∀n∈ns,1<=n∧n<=64)->K<=1048576 ->
 PCall (En G) 212 [.sl s 1 (ns.map KJ),.n (K:Int)] h (.sl .any 1 ((SQ ns K).map qencI))
structure CrGood (m:Mo) (c:Cr):Prop where
 here:Here m c.pts
 two:2<=c.pts.length
 four:c.pts.length<=4
 prod:I8 (szs m c.pts)<=256
 num:c.excl.length<=256
 excl:∀x∈c.excl,J7 (szs m c.pts) x.l=true
theorem AO1 {m:Mo}{c:Cr}(h:KF m c=0):CrGood m c:=by
 unfold KF at h;split at h
 .cases h
 .split at h
  .cases h
  .split at h
   .cases h
   .split at h
    .cases h
    .split at h
     .cases h
     .rename_i h1 h2 h3 h4 h5
      have h3':kT m.pts.length none c.pts=true:=BG h3;refine⟨fO h3',U,U,U,U,fun x hx=>?_⟩;rw[Bool.not_eq_true,qM] at h5;have:=h5 x hx;simpa using this
structure Good (m:Mo):Prop where
 num:m.pts.length+m.crs.length<=16
 full:Full m
 crs:∀c∈m.crs,CrGood m c
theorem UL {m:Mo}(h:FK m=0):Good m:=by
 unfold FK at h;split at h
 .cases h
 .split at h
  .rename_i h2; exact absurd h h2
  .split at h
   .cases h
   .split at h
    .rename_i h4; exact absurd h h4
    .rename_i h1 h2 h3 h4
     refine⟨U,full_of (BG h2),fun c hc=>AO1 (PU _ (BG h4) c hc)⟩
def MQ (m:Mo)(v:Cvr):Bool:=(FK m==0)&&OI okP m.pts v.pts&&OI (okC m) m.crs v.crs&&KI v.sam&&KI v.ill
theorem iZ (n:Int):countB n true=KI n:=by unfold countB; simp
theorem AYQ (hG:GOk G)(m:Mo)(v:Cvr)(hm:MoOk m)(hv:CvOk v)(hC:Good m->∀h,PCall (En G) 120 [.agg (DR m),.sl v.cm 1 (v.crs.map encL)] h (.bool (OI (okC m) m.crs v.crs)))(h:Hp):PCall (En G) 55 [.agg (DR m),.agg (encV v)] h (.bool (MQ m v)):=by
 refine ACalls.pure0 rfl ?_;refine acT Tryz.func55 4 ?_;have gm:(h++[yK 2 [DR m]]++[yK 4 [encV v]])[h.length]?=some (yK 2 [DR m]):=AB (AQ _ _);have gv:=AQ (h++[yK 2 [DR m]]) (yK 4 [encV v]);have hx:∃x,h++[yK 2 [DR m]]++[yK 4 [encV v]]=h++x:=⟨_,zK _ _ _⟩;refine A8 @bxM @bxV ?_
 generalize h++[yK 2 [DR m]]++[yK 4 [encV v]]=H at gm gv hx|-
 generalize (h++[yK 2 [DR m]]).length=vb at gv|-
 have l0:BH jA H 25 (.ptr vb 0 0)=some (.sl v.pm 1 (v.pts.map encL)):=by rw[BA UC gv (row:=encV v) rfl,encV0]
 have l1:BH jA H 25 (.ptr vb 0 1)=some (.sl v.cm 1 (v.crs.map encL)):=by rw[BA UC gv (row:=encV v) rfl,encV1]
 have l2:BH jA H 3 (.ptr vb 0 2)=some (.n v.sam):=by rw[BA ag3 gv (row:=encV v) rfl,encV2]
 have l3:BH jA H 3 (.ptr vb 0 3)=some (.n v.ill):=by rw[BA ag3 gv (row:=encV v) rfl,encV3]
 refine AY (ldM gm) ?_;refine(S9 G hG m hm _).uu ?_;cases h1:(FK m==0)
 .refine AA ?_
  exact⟨by unfold MQ; rw[h1]; rfl,hx⟩
 have hg:=UL (beq_iff_eq.1 h1);refine A8 (ldM gm) l0 ?_;refine(AOJ G m v.pts v.pm _ hm hv.eachP).uu ?_;cases h2:OI okP m.pts v.pts
 .refine AA ?_
  exact⟨by unfold MQ; rw[h1,h2]; rfl,hx⟩
 refine A8 (ldM gm) l1 ?_;refine(hC hg _).uu ?_;cases h3:OI (okC m) m.crs v.crs
 .refine AA ?_
  exact⟨by unfold MQ; rw[h1,h2,h3]; rfl,hx⟩
 refine A8 @ATE l2 ?_;refine(bS G _ _ _).use ?_;refine AY @iZ ?_;cases h4:KI v.sam
 .refine AA ?_
  exact⟨by unfold MQ; rw[h1,h2,h3,h4]; rfl,hx⟩
 refine A8 @ATD l3 ?_;refine(bS G _ _ _).use ?_;refine AY @iZ ?_;exact⟨by unfold MQ; rw[h1,h2,h3,h4]; rfl,hx⟩
structure TwoV (h H:Hp) (m:Mo) (v:Cvr) (vb:Nat):Prop where
 gm:H[h.length]?=some (yK 2 [DR m])
 gv:H[vb]?=some (yK 4 [encV v])
 hx:∃x,H=h++x
theorem TwoV.mk' (h:Hp)(m:Mo)(v:Cvr):TwoV h (h++[yK 2 [DR m]]++[yK 4 [encV v]]) m v (h++[yK 2 [DR m]]).length:=⟨AB (AQ _ _),AQ _ _,⟨_,zK _ _ _⟩⟩
section
variable {h H:Hp} {m:Mo} {v:Cvr} {vb:Nat} (t:TwoV h H m v vb)
include t
theorem TwoV.m0:BH jA H 28 (.ptr h.length 0 0)=some (.sl m.pm 6 (m.pts.map FC)):=by rw[BA iC t.gm (row:=DR m) rfl,VL]
theorem TwoV.m1:BH jA H 29 (.ptr h.length 0 1)=some (.sl m.cm 3 (m.crs.map H8)):=by rw[BA sA t.gm (row:=DR m) rfl,aF]
theorem TwoV.l0:BH jA H 25 (.ptr vb 0 0)=some (.sl v.pm 1 (v.pts.map encL)):=by rw[BA UC t.gv (row:=encV v) rfl,encV0]
theorem TwoV.l1:BH jA H 25 (.ptr vb 0 1)=some (.sl v.cm 1 (v.crs.map encL)):=by rw[BA UC t.gv (row:=encV v) rfl,encV1]
theorem TwoV.l2:BH jA H 3 (.ptr vb 0 2)=some (.n v.sam):=by rw[BA ag3 t.gv (row:=encV v) rfl,encV2]
theorem TwoV.l3:BH jA H 3 (.ptr vb 0 3)=some (.n v.ill):=by rw[BA ag3 t.gv (row:=encV v) rfl,encV3]
end
theorem AHO (G:Nat->AV)(xs:List Int)(m:SM)(fid:FuncId)(caps:List AV)(p:Int->Bool)(h:Hp)(hl:xs.length<=1099511627776)
  (hf:∀r,PCall (En G) fid (.n r::caps) h (.bool (p r))) :
  PCall (En G) 261 [.sl m 1 (xs.map qencI),.fn (.func fid) [] caps] h (.n (match xs.findIdx? p with|some i=>(i:Int)|none => -1)):=by
 refine acT Tryz.func261 4 ?_;refine AA ?_;refine BJ (fun n F H=>∃k,n+k=xs.length∧F 0=.sl m 1 (xs.map qencI)∧F 1=.fn (.func fid) [] caps∧F 7=.n xs.length∧F 8=.n (k:Nat)∧H=h∧(xs.take k).all (fun r => !p r)=true) xs.length ⟨0,AZ,rfl,rfl,rfl,rfl,rfl,rfl⟩ ?_;rintro n F H ⟨k,hk,f0,f1,f7,f8,rfl,hin⟩;refine EM f0 f1 f7 f8 ?_;refine D8 ?_ ?_<;>intro hc'
 .simp only[vQ,CG,qJ,zG,↓reduceIte,jC,enP,LY,f0,f1,f7,f8,CX hc',CU ag3 hc',encI0]
  refine(hf _).uu ?_;refine BM ?_ ?_<;>intro hb
  .refine AA ?_
   refine⟨?_,trivial⟩
   rw[wR.2 ⟨hc',hb,fun j hj=>by
    rw[zL] at hin;have:=hin xs[j] (by rw[List.mem_take_iff_getElem]; exact⟨j,U,rfl⟩)
    simpa using this⟩]
  .refine A8 f8 (CZ k) ?_
   refine⟨n-1,U,k+1,U,f0,f1,f7,rfl,trivial,?_⟩;rw[jU hc',yI,hin];simp only[wK,yJ,hb]; rfl
 .refine AA ?_
  refine⟨?_,trivial⟩;rw[jJ U] at hin;rw[wS.2 (BG hin)]
theorem rY (G:Nat->AV)(xs:List Int)(m:SM)(fid:FuncId)(caps:List AV)(p:Int->Bool)(h:Hp)(hl:xs.length<=1099511627776)
  (hf:∀r,PCall (En G) fid (.n r::caps) h (.bool (p r))) :
  PCall (En G) 231 [.sl m 1 (xs.map qencI),.fn (.func fid) [] caps] h (.bool (xs.any p)):=by
 refine acT Tryz.func231 4 ?_;refine AA ?_;refine(AHO G xs m fid caps p h hl hf).uu ?_;refine⟨?_,trivial⟩
 cases hx:xs.findIdx? p with
 | some i =>
   obtain⟨h1,h2,_⟩:=wR.1 hx;have:xs.any p=true:=qL.2 ⟨xs[i],AZ,h2⟩;simp [this]
 | none =>
   have:xs.any p=false:=by
    rw[wS] at hx;rw[qM]; intro x hx2; simp [hx x hx2]
   simp [this]
theorem dK {b:Nat}{m:Mo}(hb:h[b]?=some (yK 2 [DR m])):BH jA h 28 (.ptr b 0 0)=some (.sl m.pm 6 (m.pts.map FC)):=by rw[BA iC hb (row:=DR m) rfl,VL]
theorem ADH {b:Nat}{m:Mo}(hb:h[b]?=some (yK 2 [DR m])):BH jA h 29 (.ptr b 0 1)=some (.sl m.cm 3 (m.crs.map H8)):=by rw[BA sA hb (row:=DR m) rfl,aF]
theorem AHD (m:Mo)(b:Nat)(p:Int)(h:Hp)(hb:h[b]?=some (yK 2 [DR m])):PCall (En G) 230 [.n p,.ptr b 0 0] h (.bool (decide (p<0)||decide (p≥(m.pts.length:Int)))):=by
 refine acT Tryz.func230 3 ?_;refine AA ?_;cases ha:decide (p<0)
 .refine A8 @wV (dK hb) ?_
  exact⟨AZ,trivial⟩
 .refine AA ?_
  exact⟨AZ,trivial⟩
theorem AST {m:Mo}{l:List Int}(hh:Here m l):(l.any fun p=>decide (p<0)||decide (p≥(m.pts.length:Int)))=false:=by
 rw[qM];intro p hp;have:=hh p hp;simp; omega
theorem iI (m:Mo)(i:Nat)(hi:i<m.crs.length)(hg:CrGood m m.crs[i])(h:Hp):PCall (En G) 145 [.agg (DR m),.n (i:Int)] h (.bool true):=by
 refine ACalls.pure0 rfl ?_;have hfour:=hg.four;refine acT Tryz.func145 4 ?_;have d0:decide ((i:Int)<0)=false:=AZ;have d1:decide ((i:Int)≥(m.crs.length:Int))=false:=by simp; omega
 simp only[vQ,EI,CG,SL,QE,ML,↓reduceIte,jC,enP,fM,AXW,U2,U1,bxM,d0,D5 sA,aF,jM,d1,CX hi,CU NE hi,dX];refine(rY G m.crs[i].pts m.crs[i].pm 230 _ _ _ U fun r=>AHD G m _ r _ (AQ _ _)).use ?_;refine AY (AST hg.here) ?_;exact⟨trivial,_,rfl⟩
theorem eD (m:Mo)(i:Nat)(hi:i<m.crs.length)(hg:CrGood m m.crs[i])(h:Hp):PCall (En G) 146 [.agg (DR m),.n (i:Int)] h (.sl .any 1 ((szs m m.crs[i].pts).map KJ)):=by
 have hfour:=hg.four;have htwo:=hg.two;have hh:=hg.here
 have hp:PCall (En G) 146 [.agg (DR m),.n (i:Int)] h (.sl (nm (szs m m.crs[i].pts)) 1 ((szs m m.crs[i].pts).map KJ)):=by
  refine KD A3G ?_;refine acT Tryz.func146 4 ?_;simp only[vQ,CG,WV,SL,↓reduceIte,jC,enP,fM,U2,dH,U1,bxM,D5 sA,aF,CX hi,CU NE hi,dX,jM];refine BJ (fun n F H=>∃k,n+k=m.crs[i].pts.length∧F 2=.ptr h.length 0 0∧F 13=.sl m.crs[i].pm 1 (m.crs[i].pts.map qencI)∧F 14=.n m.crs[i].pts.length∧F 15=.n (k:Nat)∧H[h.length]?=some (yK 2 [DR m])∧ext h H∧(∀b,isB (F 5) b->h.length<b)∧outG 1 KJ h (szs m (m.crs[i].pts.take k)) (F 5) H) m.crs[i].pts.length ⟨0,AZ,AL,AL,AL,AL,AQ _ _,(ext.rfl' h).app _,fun b hb=>hb.elim,outG.nil _ _ _ _⟩ ?_;rintro n F H ⟨k,hk,f2,f13,f14,f15,hb,he,hlt,ho⟩;refine A8 f14 f15 ?_;refine D8 ?_ ?_<;>intro hk'
  .obtain⟨s,ls⟩:=hh.ld hk' H
   have hzl:(szs m (m.crs[i].pts.take k)).length<8388608:=by unfold szs; simp; omega
   obtain⟨v',H',ha,ho',hkeep,he',hle,hb'⟩:=ho.append VD sz3 cH ZU U hzl he (J8 m m.crs[i].pts[k]).length;simp only[vQ,JM,CG,F7,J6,↓reduceIte,jC,enP,XG,PX,LY,rM,OJ,f2,f13,f15,CX hk',CU ag3 hk',encI0,dK hb,hh.ix hk',ls,jM,AFF];refine KT (v:=v') (h:=H') (by rw[show [[AV.int .i64 ((J8 m m.crs[i].pts[k]).length:Int)]]=[KJ (J8 m m.crs[i].pts[k]).length] from rfl,ha]) ?_;refine A8 f15 (CZ k) ?_;refine⟨n-1,U,k+1,U,f2,f13,f14,rfl,hkeep _ _ hb (fun e=>by have:=hlt _ e; omega),he',fun b hbb=>?_,?_⟩
   .have:=hb' b hbb; have:=Z hb; omega
   .rw[ABF m m.crs[i].pts k hk']; exact ho'
  .rw[jJ U] at ho
   refine AA ?_;exact⟨he,ho⟩
 have hnm:nm (szs m m.crs[i].pts)=SM.any:=by
  have:=RY m m.crs[i].pts
  cases hx:szs m m.crs[i].pts with
  | nil=>rw[hx] at this; simp at this; omega
  | cons a l=>rfl
 rw[hnm] at hp;exact hp
def ZP:List Nat->List Int->Int->Int
 | n::ns,x::xs,z=>ZP ns xs (IntKind.i64.wrap (IntKind.i64.wrap (z*(n:Int))+x))
 | _,_,z=>z
theorem ADU (ns:List Nat)(z:Int):ZP ns [] z=z:=by cases ns<;>rfl
theorem ADN:∀ {ns:List Nat} {l:List Int},J7 ns l=true->∀(k:Nat) (hk:k<l.length) (hp:k<ns.length),0<=l[k]∧l[k]<(ns[k]:Int)
 | n::ns,b::bs,h,k,hk,hp=>by
   simp only[J7,jO,decide_eq_true_eq] at h
   cases k with
   | zero=>exact h.1
   | succ k=>exact ADN (ns:=ns) h.2 k (BG hk) (BG hp)
 | [],b::bs,h,k,hk,hp=>by simp at hp
 | _,[],h,k,hk,hp=>by simp at hk
theorem xP (m:Mo)(i:Nat)(hi:i<m.crs.length)(hg:CrGood m m.crs[i])(l:List Int)(s:SM)(hin:J7 (szs m m.crs[i].pts) l=true)(h:Hp):PCall (En G) 71 [.agg (DR m),.n (i:Int),.sl s 1 (l.map qencI)] h (.tup [.n (ZP (szs m m.crs[i].pts) l 0),.bool true]):=by
 have hfour:=hg.four;have hsl:=RY m m.crs[i].pts;have hlen:=TB hin;refine ACalls.pure 2 (R:=fun v H=>v=.tup [.n (ZP (szs m m.crs[i].pts) l 0),.bool true]∧∃x,H=h++x) ?_ (fun v h' ⟨e,x⟩=>⟨x,by subst e; rfl⟩);have hx:∃x,h++[yK 2 [DR m]]=h++x:=⟨_,rfl⟩;refine acL Tryz.func71 [.tmp 6,.tmp 7] ?_;refine A8 @bxM (ldM (AQ h (yK 2 [DR m]))) ?_;refine(iI G m i hi hg _).use ?_;refine AY (ldM (AQ h (yK 2 [DR m]))) ?_;refine(eD G m i hi hg _).use ?_
 generalize szs m m.crs[i].pts=ns at hin hsl hlen|-
 have hne:((l.length:Int) != (ns.length:Int))=false:=by rw[hlen]; simp
 refine AY hne ?_;refine BJ (fun n F H=>∃k,n+k=l.length∧F 8=.sl .any 1 (ns.map KJ)∧(∃z,F 9=.n z∧ZP ns l 0=ZP (ns.drop k) (l.drop k) z)∧F 24=.sl s 1 (l.map qencI)∧F 25=.n l.length∧F 26=.n (k:Nat)∧H=h++[yK 2 [DR m]]) l.length ⟨0,AZ,AL,⟨0,rfl,rfl⟩,AL,AL,AL,rfl⟩ ?_;rintro n F H ⟨k,hk,f8,⟨z,f9,hz⟩,f24,f25,f26,rfl⟩;refine A8 f25 f26 ?_;refine D8 ?_ ?_<;>intro hk'
 .have hkn:k<ns.length:=U
  obtain⟨h0,h1⟩:=ADN hin k hk' hkn;have d0:decide (l[k]<0)=false:=by simp; omega
  have d1:decide (l[k]≥(ns[k]:Int))=false:=by simp; omega
  rw[qC hk',qC hkn] at hz;simp only[vQ,PD,EI,CG,lN,ML,↓reduceIte,jC,enP,LY,f8,f9,f24,f26,CX hk',CU ag3 hk',encI0,d0,CX hkn,CU ag3 hkn,encN0,d1,CZ k];exact⟨n-1,U,k+1,U,trivial,⟨_,rfl,hz⟩,trivial,f25,rfl,trivial⟩
 .rw[zM (U:l.length<=k),ADU] at hz
  refine A8 f9 hz ?_;exact⟨trivial,hx⟩
theorem AEI (l:List Int)(s:SM)(b:Nat)(r:Is)(h:Hp)(hb:h[b]?=some (yK 1 [[.sl s 1 (l.map qencI)]]))(hl:l.length<=1099511627776):
  PCall (En G) 215 [.sl r.m 1 (r.l.map qencI),.ptr b 0 0] h (.bool (eqL r.l l)):=by
 refine acT Tryz.func215 3 ?_;refine AY (GG NE hb) ?_;refine(oI G r.l l r.m s h hl).uu ?_;exact HY
theorem rU (m:Mo)(i:Nat)(hi:i<m.crs.length)(hg:CrGood m m.crs[i])(l:List Int)(s:SM)(hin:J7 (szs m m.crs[i].pts) l=true)(h:Hp):PCall (En G) 127 [.agg (DR m),.n (i:Int),.sl s 1 (l.map qencI)] h (.bool (!ZQ m m.crs[i] l)):=by
 refine ACalls.pure0 rfl ?_;have hh:=hg.here;have hfour:=hg.four;have hnum:=hg.num;have hlen:l.length=m.crs[i].pts.length:=by have:=TB hin; rw[RY] at this; omega
 refine acT Tryz.func127 6 ?_;have gm:(h++[yK 2 [DR m]]++[yK 1 [[.sl s 1 (l.map qencI)]]])[h.length]?=some (yK 2 [DR m]):=AB (AQ _ _);have gl:=AQ (h++[yK 2 [DR m]]) (yK 1 [[.sl s 1 (l.map qencI)]]);have hx:∃x,h++[yK 2 [DR m]]++[yK 1 [[.sl s 1 (l.map qencI)]]]=h++x:=⟨_,zK _ _ _⟩;refine A8 @pC @bxM ?_
 generalize h++[yK 2 [DR m]]++[yK 1 [[.sl s 1 (l.map qencI)]]]=H at gm gl hx|-
 generalize (h++[yK 2 [DR m]]).length=lb at gl|-
 refine A8 (ldM gm) (GG NE gl) ?_;refine(xP G m i hi hg l s hin _).use ?_;simp only[vQ,List.getElem?_cons_zero,List.getElem?_cons_succ,CG,AA1,KA,OD,eS,↓reduceIte,jC,qV,enP,fM,U2,dH,U1,ADH gm,CX hi,CU NE hi,dX,jM];have hkb:=iP m m.crs[i].pts l;refine ER 0 (fun F H'=>F 1=.n (i:Nat)∧F 3=.ptr h.length 0 0∧F 5=.ptr lb 0 0∧H'=H∧OG m m.crs[i].pts l=true) (fun F H'=>F 6=.bool true∧H'=H∧OG m m.crs[i].pts l=false) ?_ ?_ ?_
 .refine BJ (fun n F H'=>∃k,n+k=l.length∧F 1=.n (i:Nat)∧F 3=.ptr h.length 0 0∧F 5=.ptr lb 0 0∧F 25=.sl m.crs[i].pm 1 (m.crs[i].pts.map qencI)∧F 26=.n m.crs[i].pts.length∧F 27=.n (k:Nat)∧H'=H∧OG m m.crs[i].pts l=OG m (m.crs[i].pts.drop k) (l.drop k)) l.length ⟨0,AZ,EK,EK,EK,EK,EK,EK,rfl,rfl⟩ ?_
  rintro n F H' ⟨k,hk,f1,f3,f5,f25,f26,f27,rfl,hk0⟩;refine A8 f26 f27 ?_;refine D8 (fun hkc=>?_) (fun hk'=>?_)
  .have hk':k<l.length:=U
   rw[hkb k hkc hk'] at hk0;obtain⟨h0,h1⟩:=dN hin k hk' hkc;obtain⟨s2,ls⟩:=hh.ld hkc H';have hlt:l[k].toNat<(J8 m m.crs[i].pts[k]).length:=U;simp only[vQ,CG,↓reduceIte,jC,enP,LY,f25,f27,CX hkc,CU ag3 hkc,encI0];refine DZ A7 ?_;simp only[vQ,OM,↓reduceIte,jC,jS,enP,XG,PX,LY,fL,OJ,fY,bne,f3,f5,f27,dK gm,hh.ix hkc,ls,GG NE gl,CX hk',CU ag3 hk',encI0,AUL h0 h1,CU ag3 hlt,aG,AFH h0 h1];cases hkd:(WO m m.crs[i].pts[k] l[k]==0)
   .refine AA ?_
    exact⟨trivial,trivial,by rw[hk0,hkd]; rfl⟩
   .refine A8 f27 (CZ k) ?_
    exact⟨n-1,U,k+1,U,f1,f3,f5,f25,f26,rfl,trivial,by rw[hk0,hkd]; rfl⟩
  .refine AA ?_
   exact⟨f1,f3,f5,trivial,by rw[hk0,zM (U:l.length<=k),nJ]⟩
 .rintro F H' ⟨f1,f3,f5,rfl,hk⟩
  simp only[vQ,YN,CG,QE,↓reduceIte,jC,enP,fM,U2,yO,f1,f3,f5,ADH gm,CX hi,CU UC hi,AEP];refine(TM G m.crs[i].excl m.crs[i].xm 215 _ (fun x=>eqL x.l l) _ U fun r=>AEI G l s _ r _ gl U).uu ?_;exact⟨by unfold ZQ; rw[hk]; simp,hx⟩
 .rintro F H' ⟨f6,rfl,hk⟩
  refine AY f6 ?_;exact⟨by unfold ZQ; rw[hk]; rfl,hx⟩
structure Gl where
 cross:Bool
 idx:Nat
 bm:SM
 bins:List Int
 at_:Nat
def KP (g:Gl):List AV:=[.bool g.cross,.n (g.idx:Int),.sl g.bm 1 (g.bins.map qencI),.n (g.at_:Int)]
def encH (g:Gl):List AV:=[.bool g.cross,.n (g.idx:Int),.sl g.bm 1 (g.bins.map qencI)]
theorem VM (g:Gl):(KP g).length=4:=rfl
theorem A9W:Frz KP:=fun _ _ _ _=>⟨rfl,rfl⟩
theorem frzH:Frz encH:=fun _ _ _ _=>⟨rfl,rfl⟩
def mkP (i k:Nat):Gl:=⟨false,i,.full,[(k:Int)],k⟩
def mkC (m:Mo)(i k:Nat)(c:Cr):Gl:=⟨true,i,.any,SQ (szs m c.pts) k,k⟩
def gPk (i:Nat)(p:Pt):Nat->List Gl
 | 0=>[]
 | k+1=>gPk i p k++(if(kindOf p k==0)=true then [mkP i k] else [])
def gP (m:Mo):Nat->List Gl
 | 0=>[]
 | i+1=>gP m i++(match m.pts[i]? with|some p=>gPk i p p.bins.length|none=>[])
def gCk (m:Mo)(i:Nat)(c:Cr):Nat->List Gl
 | 0=>[]
 | k+1=>gCk m i c k++(if ZQ m c (SQ (szs m c.pts) k)=true then [mkC m i k c] else [])
def gC (m:Mo):Nat->List Gl
 | 0=>gP m m.pts.length
 | i+1=>gC m i++(match m.crs[i]? with|some c=>gCk m i c (I8 (szs m c.pts))|none=>[])
def goals (m:Mo):List Gl:=gC m m.crs.length
theorem xW (i:Nat)(p:Pt):∀k,(gPk i p k).length<=k
 | 0=>jF _
 | k+1=>by
   have:=xW i p k;simp only[gPk,jT];split<;>simp<;>omega
theorem AHT {m:Mo}(hf:Full m):∀i,(gP m i).length<=64*i
 | 0=>jF _
 | i+1=>by
   have h1:=AHT hf i;simp only[gP,jT];split
   .rename_i p hp
    have h2:=xW i p p.bins.length;have h3:=(hf p (zZ hp)).2;omega
   .simp; omega
theorem AK2 (m:Mo)(i:Nat)(c:Cr):∀k,(gCk m i c k).length<=k
 | 0=>jF _
 | k+1=>by
   have:=AK2 m i c k;simp only[gCk,jT];split<;>simp<;>omega
theorem AS1 {m:Mo}(hg:Good m):∀i,(gC m i).length<=64*m.pts.length+256*i
 | 0=>AHT hg.full _
 | i+1=>by
   have h1:=AS1 hg i;simp only[gC,jT];split
   .rename_i c hc
    have h2:=AK2 m i c (I8 (szs m c.pts));have h3:=(hg.crs c (zZ hc)).prod;omega
   .simp; omega
theorem tV {m:Mo}(hg:Good m):(goals m).length<=8192:=by
 have h1:=AS1 hg m.crs.length;have h2:=hg.num;unfold goals; omega
theorem A7T (i:Int)(xs:List (List AV)):IY jA 34 [(1,.n i),(2,.sl .full 1 xs)]=some (.agg [.bool false,.n i,.sl .full 1 xs]):=A7
theorem A7S (i k:Int)(xs:List (List AV)):IY jA 118 [(0,.agg [.bool false,.n i,.sl .full 1 xs]),(1,.n k)]=some (.agg [.bool false,.n i,.sl .full 1 xs,.n k]):=A7
theorem BAE (h:Hp)(g:Gl)(hf:(KP g).all AV.frozen=true):C9 jA false h 115 1 [(0,.agg (KP g))]=some (.sl .full 4 [KP g],h):=by
 have h1:Tryz.prog.underlying 115=some (.slice 118):=A0O;unfold C9;simp only[h1,sK,A0I];have h2:ZZ 4 0 [(0,AV.agg (KP g))]=some [KP g]:=rfl;simp [h2,hf]
def cellAt (l:List Is)(i k:Nat):Int:=match l[i]? with
 | some x=>(match x.l[k]? with|some z=>z|none=>0)
 | none=>0
def TK (v:Cvr)(g:Gl):Int:=if g.cross then cellAt v.crs g.idx g.at_ else cellAt v.pts g.idx g.at_
def InL (l:List Is)(i k:Nat):Prop:=∃hi:i<l.length,k<(l[i]'hi).l.length
def InR (v:Cvr)(g:Gl):Prop:=if g.cross=true then InL v.crs g.idx g.at_ else InL v.pts g.idx g.at_
theorem ZH {l:List Is}(h:InL l i k):∃(hi:i<l.length) (hk:k<l[i].l.length),cellAt l i k=l[i].l[k]:=by
 obtain⟨hi,hk⟩:=h;refine⟨hi,hk,?_⟩;unfold cellAt;rw[jG hi];simp only;rw[jG hk]
def AVL (m:Mo)(g:Gl):Prop:=(g.cross=false∧∃p,m.pts[g.idx]?=some p∧g.at_<p.bins.length)∨(g.cross=true∧∃c,m.crs[g.idx]?=some c∧g.at_<I8 (szs m c.pts))
theorem ASZ {i:Nat}{p:Pt}:∀ {k:Nat} {g:Gl},g∈gPk i p k->g.cross=false∧g.idx=i∧g.at_<k
 | 0,g,h=>by cases h
 | k+1,g,h=>by
   simp only[gPk,zI] at h;rcases h with h|h
   .obtain⟨h1,h2,h3⟩:=ASZ h; exact⟨h1,h2,U⟩
   .split at h
    .simp at h; subst h; exact⟨rfl,rfl,Nat.lt_succ_self k⟩
    .cases h
theorem A09 {m:Mo}:∀ {i:Nat} {g:Gl},g∈gP m i->AVL m g
 | 0,g,h=>by cases h
 | i+1,g,h=>by
   simp only[gP,zI] at h;rcases h with h|h
   .exact A09 h
   .split at h
    .rename_i p hp
     obtain⟨h1,h2,h3⟩:=ASZ h;exact .inl ⟨h1,p,by rw[h2]; exact hp,h3⟩
    .cases h
theorem AS0 {m:Mo}{i:Nat}{c:Cr}:∀ {k:Nat} {g:Gl},g∈gCk m i c k->g.cross=true∧g.idx=i∧g.at_<k
 | 0,g,h=>by cases h
 | k+1,g,h=>by
   simp only[gCk,zI] at h;rcases h with h|h
   .obtain⟨h1,h2,h3⟩:=AS0 h; exact⟨h1,h2,U⟩
   .split at h
    .simp at h; subst h; exact⟨rfl,rfl,Nat.lt_succ_self k⟩
    .cases h
theorem A1A {m:Mo}:∀ {i:Nat} {g:Gl},g∈gC m i->AVL m g
 | 0,g,h=>A09 h
 | i+1,g,h=>by
   simp only[gC,zI] at h;rcases h with h|h
   .exact A1A h
   .split at h
    .rename_i c hc
     obtain⟨h1,h2,h3⟩:=AS0 h;exact .inr ⟨h1,c,by rw[h2]; exact hc,h3⟩
    .cases h
theorem VJ {α:Type}{ok:α->Is->Bool}:∀ {ws:List α} {xs:List Is},OI ok ws xs=true->∀(i:Nat) (a:α),ws[i]?=some a->∃x,xs[i]?=some x∧ok a x=true
 | [],[],_,i,a,h=>by simp at h
 | w::ws,x::xs,h,i,a,ha=>by
   simp only[OI,jO] at h
   cases i with
   | zero=>simp at ha; subst ha; exact⟨x,rfl,h.1⟩
   | succ i=>exact VJ h.2 i a (BG ha)
 | [],_::_,h,_,_,_=>by cases h
 | _::_,[],h,_,_,_=>by cases h
theorem xQ {l:List Is}{x:Is}(hx:l[i]?=some x)(hn:x.l.length=n)(hk:k<n):InL l i k:=by
 obtain⟨hi,e⟩:=List.getElem?_eq_some_iff.1 hx;exact⟨hi,by rw[e]; omega⟩
theorem A28 {m:Mo}{v:Cvr}(hf:MQ m v=true){g:Gl}(hg:g∈goals m):InR v g:=by
 unfold MQ at hf;simp only[jO] at hf;obtain⟨⟨⟨⟨_,h1⟩,h2⟩,_⟩,_⟩:=hf;unfold InR;rcases A1A hg with⟨hc,p,hp,hk⟩|⟨hc,c,hcc,hk⟩
 .rw[if_neg (by simp [hc])]
  obtain⟨x,hx,ho⟩:=VJ h1 _ _ hp;unfold okP at ho;simp only[jO,beq_iff_eq] at ho;exact xQ hx ho.1 hk
 .rw[if_pos hc]
  obtain⟨x,hx,ho⟩:=VJ h2 _ _ hcc;unfold okC at ho;simp only[jO,beq_iff_eq] at ho;exact xQ hx ho.1 hk
theorem A61 (g:Gl):(KP g)[0]?=some (.bool g.cross):=rfl
theorem A60 (g:Gl):(KP g)[1]?=some (.n (g.idx:Int)):=rfl
theorem A6Z (g:Gl):(KP g)[3]?=some (.n (g.at_:Int)):=rfl
theorem bxG (h:Hp)(g:Gl):MS h (.agg (KP g))=some (.ptr h.length 0 0,h++[yK 4 [KP g]]):=rfl
theorem rG (v:Cvr)(g:Gl)(hi:InR v g)(h:Hp):PCall (En G) 62 [.agg (KP g),.agg (encV v)] h (.bool (decide (TK v g>0))):=by
 refine ACalls.pure0 rfl ?_;refine acT Tryz.func62 4 ?_;have gg:(h++[yK 4 [KP g]]++[yK 4 [encV v]])[h.length]?=some (yK 4 [KP g]):=AB (AQ _ _);have gv:=AQ (h++[yK 4 [KP g]]) (yK 4 [encV v]);have hx:∃x,h++[yK 4 [KP g]]++[yK 4 [encV v]]=h++x:=⟨_,zK _ _ _⟩;refine DL @lJ @bxG @bxV ?_
 generalize h++[yK 4 [KP g]]++[yK 4 [encV v]]=H at gg gv hx|-
 generalize (h++[yK 4 [KP g]]).length=vb at gv|-
 have l0:BH jA H 4 (.ptr h.length 0 0)=some (.bool g.cross):=by rw[BA ag4 gg (row:=KP g) rfl,A61]
 have l1:BH jA H 3 (.ptr h.length 0 1)=some (.n (g.idx:Int)):=by rw[BA ag3 gg (row:=KP g) rfl,A60]
 have l3:BH jA H 3 (.ptr h.length 0 3)=some (.n (g.at_:Int)):=by rw[BA ag3 gg (row:=KP g) rfl,A6Z]
 have lv0:BH jA H 25 (.ptr vb 0 0)=some (.sl v.pm 1 (v.pts.map encL)):=by rw[BA UC gv (row:=encV v) rfl,encV0]
 have lv1:BH jA H 25 (.ptr vb 0 1)=some (.sl v.cm 1 (v.crs.map encL)):=by rw[BA UC gv (row:=encV v) rfl,encV1]
 refine AY l0 ?_;unfold InR at hi;cases hc:g.cross
 .rw[if_neg (by simp [hc])] at hi
  obtain⟨h1,h2,h3⟩:=ZH hi;have hcg:TK v g=v.pts[g.idx].l[g.at_]:=by unfold TK; rw[hc,if_neg AZ,h3]
  refine AA ?_;refine DZ A7 ?_;simp only[vQ,LM,OM,↓reduceIte,jC,jS,enP,fN,LY,YH,fZ,lJ,ALG,l1,l3,lv0,CX h1,CU NE h1,oL,CX h2,CU ag3 h2,encI0];exact⟨by rw[hcg],hx⟩
 .rw[if_pos hc] at hi
  obtain⟨h1,h2,h3⟩:=ZH hi;have hcg:TK v g=v.crs[g.idx].l[g.at_]:=by unfold TK; rw[hc,if_pos rfl,h3]
  refine AA ?_;refine DZ A7 ?_;simp only[vQ,LM,OM,LC,↓reduceIte,jC,jS,enP,fN,LY,YH,yQ,lJ,ALG,l1,l3,lv1,CX h1,CU NE h1,oL,CX h2,CU ag3 h2,encI0];exact⟨by rw[hcg],hx⟩
theorem AOT (g:Gl):(KP g).all AV.leaf=true:=rfl
theorem ATV (g:Gl):(encH g).all AV.frozen=true:=rfl
theorem BAJ (h:Hp):GU jA h 118=some (.ptr h.length 0 0,h++[yK 4 [[.bool false,.n 0,.sl .nil 0 [],.n 0]]]):=FI (row:=[.bool false,.n 0,.sl .nil 0 [],.n 0]) A7
theorem A9A (h:Hp)(g:Gl)(row:List AV)(hr:row.length=4):DT jA (h++[yK 4 [row]]) 118 (.ptr h.length 0 0) (.agg (KP g))=some (h++[yK 4 [KP g]]):=by
 rw[SE (O7 (AOT g)) (by rw[VM]; exact sK) (by rw[VM,hr]; exact jF _)];have:splice row 0 (KP g)=KP g:=by unfold splice; simp [VM,hr]
 rw[this]
theorem ldG {b:Nat}{g:Gl}(hb:h[b]?=some (yK 4 [KP g])):BH jA h 118 (.ptr b 0 0)=some (.agg (KP g)):=by
 rw[EF A1V sK hb rfl (by rw[VM]; exact jF 4)]; rfl
theorem ldH {b:Nat}{g:Gl}(hb:h[b]?=some (yK 4 [KP g])):BH jA h 34 (.ptr b 0 0)=some (.agg (encH g)):=by
 rw[EF A4B vO hb rfl (by rw[VM]; omega)]; rfl
theorem BAF (h:Hp)(g:Gl):C9 jA false h 49 1 [(0,.agg (encH g))]=some (.sl .full 3 [encH g],h):=by
 have h1:Tryz.prog.underlying 49=some (.slice 34):=AV4;unfold C9;simp only[h1,vO,AVT];have h2:ZZ 3 0 [(0,AV.agg (encH g))]=some [encH g]:=rfl;simp [h2,ATV]
theorem nV {m:Mo}{v:Cvr}(hf:MQ m v=true):FK m=0:=by
 unfold MQ at hf;simp only[jO,beq_iff_eq] at hf;exact hf.1.1.1.1
theorem AEE {α:Type}(p:α->Bool)(xs:List α)(k:Nat)(hk:k<xs.length):(xs.take (k+1)).filter p=(xs.take k).filter p++(if p xs[k]=true then [xs[k]] else []):=by
 rw[jU hk,List.filter_append]; simp [List.filter_cons]
def OH (m:Mo)(v:Cvr):List Gl:=if MQ m v=true then (goals m).filter (fun g => !decide (TK v g>0)) else []
theorem ASS (m:Mo)(v:Cvr)(hF:∀h,PCall (En G) 55 [.agg (DR m),.agg (encV v)] h (.bool (MQ m v)))(hL:Good m->∀h,PCall (En G) 61 [.agg (DR m)] h (.sl (nm (goals m)) 4 ((goals m).map KP)))(h:Hp):PCall (En G) 21 [.agg (DR m),.agg (encV v)] h (.sl (nm (OH m v)) 3 ((OH m v).map encH)):=by
 refine KD frzH ?_;refine acT Tryz.func21 4 ?_;have t:=TwoV.mk' h m v;have hvb:h.length<(h++[yK 2 [DR m]]).length:=AZ;refine A8 @bxM @bxV ?_
 generalize h++[yK 2 [DR m]]++[yK 4 [encV v]]=H at t|-
 generalize (h++[yK 2 [DR m]]).length=vb at t hvb|-
 refine A8 (ldM t.gm) (ldV t.gv) ?_;refine(hF _).uu ?_;cases hf:MQ m v
 .refine AA ?_
  have:OH m v=[]:=by unfold OH; rw[hf]; rfl
  rw[this];exact⟨t.hx,outG.nil _ _ _ _⟩
 have hg:=UL (nV hf);have hgl:=tV hg;have hin:∀g∈goals m,InR v g:=fun g hg'=>A28 hf hg'
 refine AY (ldM t.gm) ?_;refine(hL hg _).use ?_;have hrn:OH m v=(goals m).filter (fun g => !decide (TK v g>0)):=by unfold OH; rw[if_pos hf]
 rw[hrn]
 generalize goals m=gs at hgl hin|-
 refine AY A50 ?_;refine BJ (fun n F H'=>∃k,n+k=gs.length∧F 3=.ptr vb 0 0∧F 13=.sl (nm gs) 4 (gs.map KP)∧F 14=.n gs.length∧F 15=.n (k:Nat)∧H'[vb]?=some (yK 4 [encV v])∧ext h H'∧(∀b,isB (F 5) b->vb<b)∧outG 3 encH h ((gs.take k).filter (fun g => !decide (TK v g>0))) (F 5) H') gs.length ⟨0,AZ,AL,AL,AL,AL,t.gv,t.hx,fun b hb=>hb.elim,outG.nil _ _ _ _⟩ ?_;rintro n F H' ⟨k,hk,f3,f13,f14,f15,gv,he,hlt,ho⟩;refine A8 f14 f15 ?_;refine D8 ?_ ?_<;>intro hk'
 .have hcl:((gs.take k).filter (fun g => !decide (TK v g>0))).length<=k:=qQ (List.length_filter_le _ _) KH
  have hct:=AEE (fun g => !decide (TK v g>0)) gs k hk';have ho1:=ho.app [yK 4 [KP gs[k]]];have he1:ext h (H'++[yK 4 [KP gs[k]]]):=he.app _;simp only[vQ,CG,↓reduceIte,jC,enP,A6D,jQ,f3,f13,f15,CX hk',DC A1V sK VM hk',BAJ,A9A _ _ [.bool false,.n 0,.sl .nil 0 [],.n 0] rfl,ldG (AQ H' _),ldV (AB (x:=yK 4 [KP gs[k]]) gv)];refine(rG G v gs[k] (hin _ (jI hk')) _).uu ?_;cases hp:decide (TK v gs[k]>0)
  .obtain⟨v',H2,ha,ho',hkeep,he',hle,hb'⟩:=ho1.append AV4 vO AVT A31 U U he1 gs[k]
   refine DL @lJ (ldH (AQ H' (yK 4 [KP gs[k]]))) BAF ?_;refine KT (v:=v') (h:=H2) ha ?_;refine A8 f15 (CZ k) ?_;refine⟨n-1,U,k+1,U,f3,f13,f14,rfl,hkeep _ _ (AB gv) (fun e=>by have:=hlt _ e; omega),he',fun b hbb=>?_,?_⟩
   .have h1:=hb' b hbb; have h2:=Z gv; rw[h1]; simp; omega
   .rw[hct,hp]; exact ho'
  .refine A8 f15 (CZ k) ?_
   refine⟨n-1,U,k+1,U,f3,f13,f14,rfl,AB gv,he1,hlt,?_⟩;rw[hct,hp];simp only[qV,qU,if_false,jP];exact ho1
 .rw[jJ U] at ho
  refine AA ?_;exact⟨he,ho⟩
theorem O9 {n:Int}:KI n=true↔0<=n∧n<=1099511627776:=by unfold KI; simp
theorem aH {n:Int}{p:Bool}(h:countB n p=true):KI n=true:=by unfold countB at h; simp only[jO] at h; exact h.1
def WL (x:List Int):Prop:=∀n∈x,KI n=true
theorem XT:∀ {x:List Int} {p:Nat->Bool} {k:Nat},rowF p k x=true->WL x
 | [],_,_,_=>fun _ h=>by cases h
 | n::x,p,k,h=>by
   simp only[rowF,jO] at h;intro m hm;rcases zQ.1 hm with rfl|hm
   .exact aH h.1
   .exact XT h.2 m hm
theorem fW {m:Mo}{v:Cvr}:MQ m v=true↔FK m=0∧OI okP m.pts v.pts=true∧OI (okC m) m.crs v.crs=true∧KI v.sam=true∧KI v.ill=true:=by
 unfold MQ;simp only[jO,beq_iff_eq];exact⟨fun⟨⟨⟨⟨a,b⟩,c⟩,d⟩,e⟩=>⟨a,b,c,d,e⟩,fun⟨a,b,c,d,e⟩=>⟨⟨⟨⟨a,b⟩,c⟩,d⟩,e⟩⟩
def zeros (n:Nat):List Int:=jR n 0
def zIs (n:Nat):Is:=⟨.full,zeros n⟩
theorem eY:∀(n:Nat) {p:Nat->Bool} {k:Nat},rowF p k (zeros n)=true
 | 0,_,_=>rfl
 | n+1,p,k=>by
   have ih:=eY n (p:=p) (k:=k+1);unfold zeros at *;simp only[List.replicate_succ,rowF,ih,Bool.and_true];unfold countB; cases p k<;>rfl
theorem nW {α:Type}{ok:α->Is->Bool}(f:α->Is)(hf:∀a,ok a (f a)=true):∀ws:List α,OI ok ws (ws.map f)=true
 | []=>rfl
 | a::ws=>by simp only[jK,OI,hf,nW f hf ws,Bool.and_true]
theorem AXA {p:Pt}{x:Is}(h:okP p x=true):x.l.length=p.bins.length:=by
 unfold okP at h; simp only[jO,beq_iff_eq] at h; exact h.1
theorem AXE {m:Mo}{c:Cr}{x:Is}(h:okC m c x=true):x.l.length=I8 (szs m c.pts):=by
 unfold okC at h; simp only[jO,beq_iff_eq] at h; exact h.1
theorem nX {α:Type}{ok:α->Is->Bool}(hok:∀a x y,x.l=y.l->ok a x=ok a y):∀(ws:List α) (xs ys:List Is),xs.map (·.l)=ys.map (·.l)->OI ok ws xs=OI ok ws ys
 | [],[],[],_=>rfl
 | a::ws,x::xs,y::ys,h=>by
   simp only[jK,List.cons.injEq] at h;simp only[OI,hok a x y h.1,nX hok ws xs ys h.2]
 | [],x::xs,y::ys,h=>rfl
 | a::ws,[],[],h=>rfl
 | _,[],_::_,h=>by simp at h
 | _,_::_,[],h=>by simp at h
theorem mkI (h:Hp)(n:Nat)(hn:n<=1048576):GR jA true h 32 (.n (n:Int)) (.n (n:Int))=some (.own h.length 0 n,h++[yK 1 ((zeros n).map qencI)]):=by
 rw[A9P h n hn,AY1];simp [zeros]
theorem JZ (h:Hp)(x y:ABlk):(h++[x]).set h.length y=h++[y]:=AZ
theorem JH {t:Nat}{b:Nat}(hF:F a=.ptr b 0 0)(h1:BH P h t (.ptr b 0 0)=some x):MJ P [.cell a t] R .ret F h=R x h:=by simp [MJ,bW,UW,hF,h1]
theorem A3O {t b:Nat}{y:AV}{bb:Nat}(hF:F a=.ptr ba 0 0)(hG:F b=.ptr bb 0 0)(h1:BH P h t (.ptr ba 0 0)=some x)(h2:BH P h u (.ptr bb 0 0)=some y):MJ P [.cell a t,.cell b u] R .ret F h=R (.tup [x,y]) h:=by simp [MJ,bW,RI,UW,hF,hG,h1,h2]
theorem ALJ {t b:Nat}{y:AV}{bb:Nat}(hF:F a=.ptr ba 0 0)(hG:F b=.ptr bb 0 0)(h1:BH P h t (.ptr ba 0 0)=some x)(h2:BH P h u (.ptr bb 0 0)=some y):MJ P [.cell a t,.cell b u,.tmp c] R .ret F h=R (.tup [x,y,F c]) h:=by simp [MJ,bW,RI,UW,hF,hG,h1,h2]
theorem ZG {t:Nat}(hF:F a=.ptr ba 0 0)(h1:BH P h t (.ptr ba 0 0)=some x):MJ P [.cell a t,.tmp c] R .ret F h=R (.tup [x,F c]) h:=by simp [MJ,bW,RI,UW,hF,h1]
def fzG {α:Type}(k:Nat)(f:α->List AV)(ys:List α):AV:=match ys with
 | []=>.sl .nil 0 []
 | _=>.sl .any k (ys.map f)
theorem PW {α:Type}{f:α->List AV}{ys:List α}(hf:Frz f)(ho:outG k f h ys v H)(n d:Nat)(hn:n<=h.length):EZ n H (d+2) v=fzG k f ys:=by
 rcases ho with⟨rfl,rfl⟩|⟨hne,o,h2,rfl,h3⟩
 .rfl
 .rw[frz_own hf (qQ hn h2) h3]
  cases ys with
  | nil=>exact absurd rfl hne
  | cons _ _=>rfl
theorem WP {α:Type}{f:α->List AV}{ys:List α}:CvR (fzG k f ys) (.sl (nm ys) k (ys.map f)):=by
 cases ys with
 | nil=>exact CvR.sl (Cv.nil 0 k)
 | cons y ys=>exact CvR.refl _
theorem outG.app2 {t e:TypeId}{α:Type}{bs:Nat}{f:α->List AV}{ys:List α}(ho:outG k f h ys v H)(hu:P.underlying t=some (.slice e))(hs:szO P e=some k)(hz:SK P e=some k)(hb:KG P e=some bs)(hbs:bs<=4194304)(hl:ys.length<8388608)(he:h.length<=H.length)(y:α):
  ∃v' H',EP P true H t t v (.sl .full k [f y])=some (v',H')∧outG k f h (ys++[y]) v' H'∧(∀b x,H[b]?=some x->¬isB v b->H'[b]?=some x)∧H'.length=H.length+1∧(∀b,isB v' b->b=H.length)∧(∃o l,v'=.own o 0 l)∧∀e:Hp,e.length<=h.length->ext e H->ext e H':=by
 have h1:([f y]:List (List AV))≠[]:=AZ;rcases ho with⟨rfl,rfl⟩|⟨hne,o,h2,rfl,h3⟩
 .exact⟨_,_,QT hu hs hz hb (F9 H .full k [f y]) h1 (GV AZ hbs),.inr ⟨AZ,H.length,he,rfl,AZ⟩,fun b x hb _=>FM hb,AZ,fun b hb=>hb.symm,⟨_,_,rfl⟩,fun e _ hx=>hx.app _⟩
 .have hc:IV H (.own o 0 ys.length)=some (k,ys.map f):=by
   rw[JQ h3 AZ,zT,jJ AZ]
  refine⟨_,_,P5 hu hs hz hb hc (F9 H .full k [f y]) h1 (GV KH hbs),.inr ⟨AZ,H.length,he,AZ,AZ⟩,fun b x hb hn=>?_,AZ,fun b hb=>hb.symm,⟨_,_,rfl⟩,fun e hl hx=>(hx.set (qQ hl h2) _).app _⟩;have hn':¬o=b:=hn;refine FM ?_;rw[zJ,if_neg hn']; exact hb
theorem IU {t b j:Nat}{cs:List AV}(hc:H9 v=some cs)(hs:szO P t=some cs.length)(hb:H[b]?=some (yK k [row]))(hl:j+cs.length<=row.length):DT P H t (.ptr b 0 j) v=some (H.set b (yK k [splice row j cs])):=by
 rw[G5 (i:=0) hc hs hb rfl hl]; rfl
structure Tk where
 m:SM
 last:List Is
def AEL (t:Tk):List AV:=[.sl t.m 1 (t.last.map encL)]
def zV:Cvr:=⟨.nil,[],.nil,[],0,0⟩
def zLs (m:Mo):List Is:=m.pts.map fun _=>⟨.nil,[]⟩
def GL:List AV:=[.sl .nil 0 []]
theorem A3F {α:Type}:Frz (fun _:α=>GL):=fun _ _ _ _=>⟨rfl,rfl⟩
theorem AXL:CvRow GL (encL ⟨.nil,[]⟩):=CvRow.cons rfl (Cv.nil 0 1) CvRow.nil
theorem AXK {α:Type}{s:SM}(xs:List α):Cv (.sl s 1 (xs.map fun _=>GL)) (.sl s 1 ((xs.map fun _=>(⟨.nil,[]⟩:Is)).map encL)):=by
 rw[qW];exact Cv.map fun _ _=>AXL
theorem A4L:CvR (.agg [.sl .nil 0 [],.sl .nil 0 [],.n 0,.n 0]) (.agg (encV zV)):=CvR.agg (CvRL.cons (CvR.sl (Cv.nil 0 1)) (CvRL.cons (CvR.sl (Cv.nil 0 1)) (CvRL.cons (CvR.refl _) (CvRL.cons (CvR.refl _) CvRL.nil))))
def IZ:List AV:=[.sl .nil 0 [],.sl .nil 0 [],.n 0,.n 0]
theorem pP (h:Hp):GU jA h 46=some (.ptr h.length 0 0,h++[yK 4 [IZ]]):=FI (row:=IZ) A7
theorem AU3 (h:Hp):GU jA h 94=some (.ptr h.length 0 0,h++[yK 1 [GL]]):=FI (row:=GL) A7
theorem AUP:IY jA 46 []=some (.agg IZ):=A7
theorem A7V:IY jA 94 []=some (.agg GL):=A7
theorem stV {b:Nat}{v:Cvr}(hb:H[b]?=some (yK 4 [row]))(hr:row.length=4):DT jA H 46 (.ptr b 0 0) (.agg (encV v))=some (H.set b (yK 4 [encV v])):=by
 rw[IU (cs:=encV v) rfl AGL hb (by rw[hr]; exact jF 4)];have:splice row 0 (encV v)=encV v:=by unfold splice; simp [encV_len,hr]
 rw[this]
theorem stZ {b:Nat}(hb:H[b]?=some (yK 4 [row]))(hr:row.length=4):DT jA H 46 (.ptr b 0 0) (.agg IZ)=some (H.set b (yK 4 [IZ])):=by
 rw[IU (cs:=IZ) rfl AGL hb (by rw[hr]; exact jF 4)];have:splice row 0 IZ=IZ:=by unfold splice; simp [IZ,hr]
 rw[this]
theorem A41 {b:Nat}(hb:H[b]?=some (yK 1 [row]))(hr:row.length=1):DT jA H 94 (.ptr b 0 0) (.agg GL)=some (H.set b (yK 1 [GL])):=by
 rw[IU (cs:=GL) rfl AV6 hb (by rw[hr]; exact jF 1)];have:splice row 0 GL=GL:=by unfold splice; rw[List.take_zero,zM (by rw[hr]; exact jF 1)]; simp
 rw[this]
theorem SA {b:Nat}(hb:h[b]?=some (yK 4 [row]))(hr:row.length=4):BH jA h 46 (.ptr b 0 0)=some (.agg row):=by
 rw[EF A8C AGL hb rfl (by rw[hr]; exact jF 4),zT,jJ U]
theorem dJ {b:Nat}(hb:h[b]?=some (yK 1 [row]))(hr:row.length=1):BH jA h 94 (.ptr b 0 0)=some (.agg row):=by
 rw[EF BAS AV6 hb rfl (by rw[hr]; exact jF 1),zT,jJ U]
end Go.Proofs.YtiihpnicbekebaaGreatDoor.Cov
namespace Go.Proofs.YtiihpnicbekebaaGreatDoor.Rk
open Sm Bins Cov Go.RowKit
def SomeB (E:Env)(f:FuncId)(args:List AV)(h:Hp):Prop:=ACalls E f args h fun v H=>(∃b:Bool,v=.bool b)∧H=h
theorem SomeB.of {E:Env}{f:FuncId}{args:List AV}{h:Hp}(hc:ACalls E f args h fun v H=>(∃b:Bool,v=.bool b)∧ext h H):SomeB E f args h :=
 hc.trunc fun v H hR=>by
  obtain⟨⟨b,rfl⟩,x,rfl⟩:=hR;exact⟨1,h,rfl,fun b hb=>.inr (.inl ⟨by rw[zX hb],by rw[zX hb]⟩),⟨b,rfl⟩,rfl⟩
theorem SomeB.use {E:Env}{f:FuncId}{args:List AV}{h:Hp}{K:AV->Hp->Prop}(hc:SomeB E f args h)(hk:∀b:Bool,K (.bool b) h):ACalls E f args h K :=
 ACalls.mono hc fun v H ⟨⟨b,e⟩,e2⟩=>by rw[e,e2]; exact hk b
theorem wt_arg {e:Ex}{k:Nat}(hk:k<e.args.length):wt e.args[k]<wt e:=by
 have h1:=VX (List.getElem_mem hk);have h2:=MN e;omega
theorem ldE' {H:Hp}{b:Nat}{e:Ex}(hb:H[b]?=some (yK 4 [AX e])):BH jA H 23 (.ptr b 0 3)=some (.sl e.m 4 (e.args.map AX)):=by
 rw[BA LH hb (row:=AX e) rfl,YK]
theorem ldPE {H:Hp}{l:List Pt}{i:Nat}(hi:i<l.length):BH jA H 79 (.fptr 6 (l.map FC) i 1)=some (.agg (AX l[i].ex)):=by
 have h1:=H7 l[i];simp only[BH,Sm.rowAt,List.getElem?_map,List.getElem?_eq_getElem hi,Option.map_some,O1,JB];rw[if_pos (by rw[h1]; omega),zR]
end Go.Proofs.YtiihpnicbekebaaGreatDoor.Rk
namespace Go.Proofs.YtiihpnicbekebaaGreatDoor.Cov
open Sm Bins Go.RowKit
variable {b k:Nat} {H h:Hp} {v:AV}
theorem outG.setB {α:Type}{f:α->List AV}{ys:List α}(ho:outG k f h ys v H)(hb:b<h.length)(y:ABlk):outG k f h ys v (H.set b y) :=
 ho.keep fun b' hb'=>by
  have:=ho.lt hb';rw[List.getElem?_set_ne U]
theorem outG.keepA {α:Type}{f:α->List AV}{H':Hp}{ys:List α}{u:AV}(ho:outG k f h ys v H)(hk:∀b x,H[b]?=some x->¬isB u b->H'[b]?=some x)(hd:∀b,isB v b->¬isB u b):outG k f h ys v H':=by
 rcases ho with h1|⟨h1,o,h2,rfl,h3⟩
 .exact .inl h1
 .exact .inr ⟨h1,o,h2,rfl,hk _ _ h3 (hd o rfl)⟩
theorem outG.leaf {α:Type}{k:Nat}{f:α->List AV}{h H:Hp}{ys:List α}{v:AV}(ho:outG k f h ys v H):v.leaf=true:=by
 rcases ho with⟨_,rfl⟩|⟨_,o,_,rfl,_⟩<;>rfl
theorem outG.base {α:Type}{f:α->List AV}{h':Hp}{ys:List α}(ho:outG k f h ys v H)(hl:h'.length<=h.length):outG k f h' ys v H:=by
 rcases ho with h1|⟨h1,o,h2,rfl,h3⟩
 .exact .inl h1
 .exact .inr ⟨h1,o,Nat.le_trans hl h2,rfl,h3⟩
def LQ (v1 v2:AV):List AV:=[v1,v2,.n 0,.n 0]
structure Em (h H:Hp) (m:Mo) (b2 b3 b4 b5:Nat) (v1 v2 v3:AV):Prop where
 gm:H[h.length]?=some (yK 2 [DR m])
 g2:H[b2]?=some (yK 4 [IZ])
 g3:H[b3]?=some (yK 1 [GL])
 g4:H[b4]?=some (yK 4 [LQ v1 v2])
 g5:H[b5]?=some (yK 1 [[v3]])
 o2:h.length<b2
 o3:b2<b3
 o4:b3<b4
 o5:b4<b5
 hx:ext h H
section
variable {h H:Hp} {m:Mo} {b2 b3 b4 b5:Nat} {v1 v2 v3:AV} (E:Em h H m b2 b3 b4 b5 v1 v2 v3)
include E
theorem Em.m0:BH jA H 28 (.ptr h.length 0 0)=some (.sl m.pm 6 (m.pts.map FC)):=by rw[BA iC E.gm (row:=DR m) rfl,VL]
theorem Em.m1:BH jA H 29 (.ptr h.length 0 1)=some (.sl m.cm 3 (m.crs.map H8)):=by rw[BA sA E.gm (row:=DR m) rfl,aF]
theorem Em.l4:BH jA H 25 (.ptr b4 0 0)=some v1:=by rw[BA UC E.g4 (row:=LQ v1 v2) rfl]; rfl
theorem Em.l4':BH jA H 25 (.ptr b4 0 1)=some v2:=by rw[BA UC E.g4 (row:=LQ v1 v2) rfl]; rfl
theorem Em.l5:BH jA H 25 (.ptr b5 0 0)=some v3:=by rw[BA UC E.g5 (row:=[v3]) rfl]; rfl
theorem Em.app (x:Hp):Em h (H++x) m b2 b3 b4 b5 v1 v2 v3:=⟨FM E.gm,FM E.g2,FM E.g3,FM E.g4,FM E.g5,E.o2,E.o3,E.o4,E.o5,E.hx.app _⟩
theorem Em.keep {H':Hp}{u:AV}(hk:∀b x,H[b]?=some x->¬isB u b->H'[b]?=some x)(hu:∀b,isB u b->b5<b)(hx:ext h H->ext h H'):Em h H' m b2 b3 b4 b5 v1 v2 v3:=by
 have o2:=E.o2; have o3:=E.o3; have o4:=E.o4; have o5:=E.o5;exact⟨hk _ _ E.gm (fun e=>by have:=hu _ e; omega),hk _ _ E.g2 (fun e=>by have:=hu _ e; omega),hk _ _ E.g3 (fun e=>by have:=hu _ e; omega),hk _ _ E.g4 (fun e=>by have:=hu _ e; omega),hk _ _ E.g5 (fun e=>by have:=hu _ e; omega),o2,o3,o4,o5,hx E.hx⟩
theorem Em.set4 (w1 w2:AV):Em h (H.set b4 (yK 4 [LQ w1 w2])) m b2 b3 b4 b5 w1 w2 v3:=by
 have o2:=E.o2; have o3:=E.o3; have o4:=E.o4; have o5:=E.o5;exact⟨CY E.gm U,CY E.g2 U,CY E.g3 U,CP E.g4,CY E.g5 U,o2,o3,o4,o5,E.hx.set U _⟩
theorem Em.set5 (w3:AV):Em h (H.set b5 (yK 1 [[w3]])) m b2 b3 b4 b5 v1 v2 w3:=by
 have o2:=E.o2; have o3:=E.o3; have o4:=E.o4; have o5:=E.o5;exact⟨CY E.gm U,CY E.g2 U,CY E.g3 U,CY E.g4 U,CP E.g5,o2,o3,o4,o5,E.hx.set U _⟩
theorem Em.s4 {o l:Nat}:DT jA H 25 (.ptr b4 0 0) (.own o 0 l)=some (H.set b4 (yK 4 [LQ (.own o 0 l) v2])):=IU (row:=LQ v1 v2) (AAS _ _ _) AV7 E.g4 (by simp [LQ])
theorem Em.s4' {o l:Nat}:DT jA H 25 (.ptr b4 0 1) (.own o 0 l)=some (H.set b4 (yK 4 [LQ v1 (.own o 0 l)])):=IU (row:=LQ v1 v2) (AAS _ _ _) AV7 E.g4 (by simp [LQ])
theorem Em.s5 {o l:Nat}:DT jA H 25 (.ptr b5 0 0) (.own o 0 l)=some (H.set b5 (yK 1 [[.own o 0 l]])):=IU (row:=[v3]) (AAS _ _ _) AV7 E.g5 AZ
theorem Em.lt:b5<H.length:=Z E.g5
end
theorem Em.mk' (h:Hp)(m:Mo):Em h (h++[yK 2 [DR m]]++[yK 4 [IZ]]++[yK 1 [GL]]++[yK 4 [IZ]]++[yK 1 [GL]]) m (h++[yK 2 [DR m]]).length (h++[yK 2 [DR m]]++[yK 4 [IZ]]).length
  (h++[yK 2 [DR m]]++[yK 4 [IZ]]++[yK 1 [GL]]).length (h++[yK 2 [DR m]]++[yK 4 [IZ]]++[yK 1 [GL]]++[yK 4 [IZ]]).length (.sl .nil 0 []) (.sl .nil 0 []) (.sl .nil 0 []) :=
 ⟨AB (AB (AB (AB (AQ _ _)))),AB (AB (AB (AQ _ _))),AB (AB (AQ _ _)),AB (AQ _ _),AQ _ _,AZ,AZ,AZ,AZ,((((ext.rfl' h).app _).app _).app _).app _ |>.app _⟩
theorem A7N (h:Hp):C9 jA false h 25 1 [(0,.sl .nil 0 [])]=some (.sl .full 1 [GL],h):=A7
theorem AQK {row:List AV}{v1 v2:AV}(hb:H[b]?=some (yK 4 [row]))(hr:row.length=4)(h1:v1.leaf=true)(h2:v2.leaf=true):DT jA H 46 (.ptr b 0 0) (.agg (LQ v1 v2))=some (H.set b (yK 4 [LQ v1 v2])):=by
 rw[IU (cs:=LQ v1 v2) (O7 (by simp [LQ,h1,h2]; rfl)) AGL hb (by rw[hr]; exact jF 4)];have:splice row 0 (LQ v1 v2)=LQ v1 v2:=by unfold splice; rw[qK,zM (by rw[hr]; exact jF 4)]; simp
 rw[this]
theorem AQJ {row:List AV}{v3:AV}(hb:H[b]?=some (yK 1 [row]))(hr:row.length=1)(h3:v3.leaf=true):DT jA H 94 (.ptr b 0 0) (.agg [v3])=some (H.set b (yK 1 [[v3]])):=by
 rw[IU (cs:=[v3]) (O7 (by simp [h3])) AV6 hb (by rw[hr]; exact jF 1)];have:splice row 0 [v3]=[v3]:=by unfold splice; rw[qK,zM (by rw[hr]; exact jF 1)]; simp
 rw[this]
theorem XY {E:Env}{f:FuncId}{args:List AV}{r:AV}(d:Nat)(hr:∀n H,EZ n H d r=r)(hc:ACalls E f args h fun v H=>v=r∧ext h H)(hX:E.nox=E:=by rfl):PCall E f args h r :=
 ACalls.pure d hc (fun v H ⟨e,he⟩=>⟨he,by rw[e]; exact hr _ _⟩) hX
structure Ee (h H:Hp) (m:Mo) (b2 b3:Nat):Prop where
 gm:H[h.length]?=some (yK 2 [DR m])
 g2:H[b2]?=some (yK 4 [IZ])
 g3:H[b3]?=some (yK 1 [GL])
 o2:h.length<b2
 o3:b2<b3
 hx:ext h H
theorem Ee.mk' (h:Hp)(m:Mo):Ee h (h++[yK 2 [DR m]]++[yK 4 [IZ]]++[yK 1 [GL]]) m (h++[yK 2 [DR m]]).length (h++[yK 2 [DR m]]++[yK 4 [IZ]]).length :=
 ⟨AB (AB (AQ _ _)),AB (AQ _ _),AQ _ _,AZ,AZ,(((ext.rfl' h).app _).app _).app _⟩
theorem Ee.lt {m:Mo}{b2 b3:Nat}(E:Ee h H m b2 b3):b3<H.length:=Z E.g3
theorem Ee.m0 {m:Mo}{b2 b3:Nat}(E:Ee h H m b2 b3):BH jA H 28 (.ptr h.length 0 0)=some (.sl m.pm 6 (m.pts.map FC)):=by rw[BA iC E.gm (row:=DR m) rfl,VL]
theorem DV {x:ABlk}(he:ext h H)(hb:h[b]?=some x):H[b]?=some x:=by
 obtain⟨y,rfl⟩:=he;exact FM hb
theorem A2C (h:Hp)(v:Cvr):DT jA (h++[yK 4 [IZ]]) 46 (.ptr h.length 0 0) (.agg (encV v))=some (h++[yK 4 [encV v]]):=by rw[stV (AQ _ _) rfl,JZ]
end Go.Proofs.YtiihpnicbekebaaGreatDoor.Cov
namespace Go.Proofs.YtiihpnicbekebaaGreatDoor.Bins
open Sm
variable {last:List Int} {v:Int} {n:Nat} (G:Nat->AV )
instance:Inhabited Rs:=⟨⟨.nil,[]⟩⟩
theorem AN4 (r:Rng)(b:Nat)(v:Int)(h:Hp)(hv:BH jA h 3 (.ptr b 0 0)=some (.n v)):
  PCall (En G) 409 [.agg (encR r),.ptr b 0 0] h (.bool (decide (r.lo<=v)&&decide (v<=r.hi))):=by
 refine ACalls.pure0 rfl ?_;refine acT Tryz.func409 3 ?_;simp only[vQ,EI,CG,SL,ZI,↓reduceIte,jC,Nat.add_zero,enP,ZC,bxR,D5 ag3,ADE hv,aE,YJ];refine IW ?_ ?_<;>intro ha
 .simp only[vQ,EI,P8,CG,ZI,↓reduceIte,jC,enP,ZB,bxR,D5 ag3,ADE hv,aE,YJ,ha]
  exact⟨AZ,_,rfl⟩
 .refine AY ha ?_
  exact⟨AZ,_,rfl⟩
theorem indexFunc (G:Nat->AV)(xs:List Rng)(m:SM)(fid:FuncId)(caps:List AV)(p:Rng->Bool)(h:Hp)(hl:xs.length<=1099511627776)
  (hf:∀r,PCall (En G) fid (.agg (encR r)::caps) h (.bool (p r))) :
  PCall (En G) 326 [.sl m 2 (xs.map encR),.fn (.func fid) [] caps] h (.n (match xs.findIdx? p with|some i=>(i:Int)|none => -1)):=by
 refine acT Tryz.func326 4 ?_;refine AA ?_;refine BJ (fun n F H=>∃k,n+k=xs.length∧F 0=.sl m 2 (xs.map encR)∧F 1=.fn (.func fid) [] caps∧F 7=.n xs.length∧F 8=.n (k:Nat)∧H=h∧(xs.take k).all (fun r => !p r)=true) xs.length ⟨0,AZ,rfl,rfl,rfl,rfl,rfl,rfl⟩ ?_;rintro n F H ⟨k,hk,f0,f1,f7,f8,rfl,hin⟩;refine EM f0 f1 f7 f8 ?_;refine D8 ?_ ?_<;>intro hc'
 .simp only[vQ,CG,List.nil_append,List.cons_append,↓reduceIte,jC,enP,dL,f0,f1,f7,f8,CX hc',DC eI LZ YI hc']
  refine(hf _).uu ?_;refine BM ?_ ?_<;>intro hb
  .refine AA ?_
   refine⟨?_,trivial⟩
   rw[wR.2 ⟨hc',hb,fun j hj=>by
    rw[List.all_eq_true] at hin;have:=hin xs[j] (by rw[List.mem_take_iff_getElem]; exact⟨j,U,rfl⟩)
    simpa using this⟩]
  .refine A8 f8 (CZ k) ?_
   refine⟨n-1,U,k+1,U,f0,f1,f7,rfl,trivial,?_⟩;rw[List.take_succ_eq_append_getElem hc',yI,hin];simp only[wK,yJ,hb]; rfl
 .refine AA ?_
  refine⟨?_,trivial⟩;rw[List.take_of_length_le U] at hin;rw[wS.2 (BG hin)]
theorem AAH (G:Nat->AV)(xs:List Rng)(m:SM)(fid:FuncId)(caps:List AV)(p:Rng->Bool)(h:Hp)(hl:xs.length<=1099511627776)
  (hf:∀r,PCall (En G) fid (.agg (encR r)::caps) h (.bool (p r))) :
  PCall (En G) 408 [.sl m 2 (xs.map encR),.fn (.func fid) [] caps] h (.bool (xs.any p)):=by
 refine acT Tryz.func408 4 ?_;refine AA ?_;refine(indexFunc G xs m fid caps p h hl hf).uu ?_;refine⟨?_,trivial⟩
 cases hx:xs.findIdx? p with
 | some i =>
   obtain⟨h1,h2,_⟩:=wR.1 hx;have:xs.any p=true:=List.any_eq_true.2 ⟨xs[i],AZ,h2⟩;simp [this]
 | none =>
   have:xs.any p=false:=by
    rw[wS] at hx;rw[List.any_eq_false]; intro x hx2; simp [hx x hx2]
   simp [this]
theorem inside_prog (xs:List Rng)(m:SM)(v:Int)(h:Hp)(hl:xs.length<=1099511627776):
  PCall (En G) 393 [.sl m 2 (xs.map encR),.n v] h (.bool (inside xs v)):=by
 refine ACalls.pure0 rfl ?_;refine acT Tryz.func393 4 ?_;refine AY @ALV ?_;refine(AAH G xs m 409 _ _ _ hl fun r=>AN4 G r h.length v _ (D5 ag3)).uu ?_;exact⟨rfl,_,rfl⟩
theorem ALR (xs:List Int)(m:SM)(h:Hp)(hl:xs.length<=16777216):
  ACalls (En G) 189 [.sl m 1 (xs.map qencI)] h (AIG 1 (xs.map qencI) h):=by
 refine ACalls.of_rep (cok _ _ A7) fun⟨g,cargs,ha⟩=>?_
 refine acT Tryz.func189 2 ?_;refine AY A5M ?_;refine BM ?_ ?_<;>intro hc
 .have hm:m=.nil:=BG hc
  subst hm;refine AY @decide_true ?_;exact .inl ⟨nC ha (i:=0) rfl,⟨_,rfl⟩,rfl⟩
 .refine AY @AIN ?_
  rcases Classical.em (xs=[]) with hx|hx
  .subst hx
   simp only[vQ,CG,↓reduceIte,AFP VD sz3 (.inr rfl)];exact .inr (.inl ⟨rfl,rfl,rfl⟩)
  .have hr:room (([]:List (List AV)).length+(xs.map qencI).length) 8:=GV (BG hl) U
   have hne:xs.map qencI≠[]:=BG hx;refine AY (VS VD sz3 cH ZU (F9 h m 1 (xs.map qencI)) hne hr) ?_;exact .inr (.inr ⟨BG hx,AZ,AZ⟩)
def setAt (b:Bin)(i:Nat):List Rng:=((sets b)[i]?.getD default).l
def cL (last:List Int)(n:Nat)(v:Int)(i:Nat):Int:=if i+1<n then last[last.length+1-n+i]?.getD 0 else v
def ADW (b:Bin)(last:List Int)(v:Int)(k:Nat):Bool:=(List.range k).all fun i=>inside (setAt b i) (cL last (sets b).length v i)
def hit (b:Bin)(last:List Int)(v:Int):Bool:=decide (IK b=0)&&decide ((sets b).length<=last.length+1)&&ADW b last v (sets b).length
theorem AOD (b:Bin)(last:List Int)(v:Int)(k:Nat):ADW b last v (k+1)=(ADW b last v k&&inside (setAt b k) (cL last (sets b).length v k)):=by
 unfold ADW; rw[List.range_succ,yI,wK,yJ,Bool.and_true]
theorem AYC {b:Bin}{k:Nat}(hk:k<n)(h:inside (setAt b k) (cL last (sets b).length v k)=false):ADW b last v n=false:=by
 unfold ADW; rw[List.all_eq_false]; exact⟨k,BG hk,by simp [h]⟩
theorem AGH {b:Bin}(h:IK b=0):1<=(sets b).length:=by
 unfold IK at h;split at h
 .split at h
  .cases h
  .rename_i hr
   unfold sets;split
   .simp
   .rename_i hz
    simp only[OT,Bool.not_eq_true,Bool.or_eq_false_iff] at hr;have:=hr.1.1.1.2;have hz':decide ((b.ranges.l.length:Int)>0)=false:=decide_eq_false U;rw[hz'] at this;simp at this;rcases hs:b.steps with _|⟨x,l⟩
    .rw[hs] at this; simp at this
    .simp
 .cases h
theorem ASL {xs:List Int}{i:Nat}(h:i<xs.length):(xs.map qencI)[i]?=some [.n xs[i]]:=by simp [h,qencI]
theorem AIM (h:Hp)(v:Int):C9 jA false h 32 1 [(0,.n v)]=some (.sl .full 1 [[.n v]],h):=A7
def vals (last:List Int)(n:Nat)(v:Int):List Int:=last.drop (last.length+1-n)++[v]
theorem AA8 (h1:1<=n)(h2:n<=last.length+1):(vals last n v).length=n:=by simp [vals]; omega
theorem AP0 {i:Nat}(h1:1<=n)(h2:n<=last.length+1)(hi:i<(vals last n v).length):(vals last n v)[i]=cL last n v i:=by
 have hl:=AA8 (v:=v) h1 h2;unfold vals cL at *;rw[List.getElem_append];split
 .rename_i h
  have h':i<last.length-(last.length+1-n):=BG h;rw[if_pos U,List.getElem_drop,List.getElem?_eq_getElem U];rfl
 .rename_i h
  have h':¬i<last.length-(last.length+1-n):=BG h;rw[if_neg U];simp
theorem hit_prog (hG:KwG G)(b:Bin)(hb:BinOk b)(last:List Int)(m:SM)(v:Int)(h:Hp)(hl:last.length<=8388608):
  PCall (En G) 392 [.agg (F6 b),.sl m 1 (last.map qencI),.n v] h (.bool (hit b last v)):=by
 refine ACalls.pure0 rfl ?_;refine acT Tryz.func392 6 ?_;refine A8 @bxB @ldB ?_;refine(valid_prog G hG b hb _).uu ?_;refine BM ?_ ?_<;>intro hv
 .refine AA ?_
  refine⟨?_,_,rfl⟩;have:IK b≠0:=BG hv;simp [hit,this]
 have hv0:IK b=0:=BG hv;have h1:=AGH hv0;have hnum:=hb.num;refine AY @ldB ?_;refine(sO G b _).use ?_;have hw:IntKind.i64.wrap (((sets b).length:Int)-1)=(((sets b).length-1:Nat):Int):=by rw[wrap_i64 U U]; omega
 refine AY hw ?_;refine BM ?_ ?_<;>intro hc
 .refine AA ?_
  refine⟨?_,_,rfl⟩;have:¬(sets b).length<=last.length+1:=by simp at hc; omega
  simp [hit,this]
 have hc':(sets b).length<=last.length+1:=by simp at hc; omega
 have hw2:IntKind.i64.wrap ((last.length:Int)-(((sets b).length-1:Nat):Int))=((last.length+1-(sets b).length:Nat):Int):=by rw[wrap_i64 U U]; omega
 simp only[vQ,Option.map_some,Option.map_none,CG,UD,PY,↓reduceIte,jC,enP,dH,A20,List.length_map,hw,hw2,lC VD sz3 (h:=h++[yK 4 [F6 b]]) (m:=m) (kk:=.i64) (xs:=last.map qencI) (l:=last.length+1-(sets b).length) KH,<-List.map_drop];refine(ALR G _ m _ KH).mono fun vv H' hcl=>?_
 have hn:=AA8 (v:=v) h1 hc';refine sD (fun F H=>F 7=.sl (sP b) 1 ((sets b).map encS)∧∃o,F 8=.own o 0 (sets b).length∧H[o]?=some (yK 1 ((vals last (sets b).length v).map qencI))∧∃x,H=h++x) ?_ ?_
 .have hv1:([[AV.int .i64 v]]:List (List AV))≠[]:=AZ
  rcases hcl with⟨hx,⟨k0,rfl⟩,rfl⟩|⟨hx,rfl,rfl⟩|⟨hx,rfl,rfl⟩
  .have hx':last.drop (last.length+1-(sets b).length)=[]:=BG hx
   have e1:vals last (sets b).length v=[v]:=by unfold vals; rw[hx']; rfl
   rw[e1] at hn;simp at hn;simp only[vQ,JM,CG,F7,J6,↓reduceIte,jC,enP,AIM,QT VD sz3 cH ZU (F9 (h++[yK 4 [F6 b]]) .full 1 [[AV.int .i64 v]]) hv1 (GV AZ U)];exact⟨trivial,_,by rw[<-hn]; rfl,by rw[e1]; simp [qencI],_,by rw[zK]⟩
  .have hx':last.drop (last.length+1-(sets b).length)=[]:=BG hx
   have e1:vals last (sets b).length v=[v]:=by unfold vals; rw[hx']; rfl
   rw[e1] at hn;simp at hn;refine A8 @AIM (VS VD sz3 cH ZU (F9 (h++[yK 4 [F6 b]]) .full 1 [[AV.int .i64 v]]) (xs:=[]) hv1 (GV AZ U)) ?_;exact⟨trivial,_,by rw[<-hn]; rfl,by rw[e1]; simp [qencI],_,by rw[zK]⟩
  .have hle:(last.drop (last.length+1-(sets b).length)).length+1<=16777216:=by simp; omega
   simp only[vQ,JM,CG,F7,J6,↓reduceIte,jC,enP,AIM,P5 VD sz3 cH ZU (uM (h:=h++[yK 4 [F6 b]])) (F9 ((h++[yK 4 [F6 b]])++[yK 1 ((last.drop (last.length+1-(sets b).length)).map qencI)]) .full 1 [[AV.int .i64 v]]) hv1 (GV (BG hle) U)];refine⟨trivial,((h++[yK 4 [F6 b]])++[yK 1 ((last.drop (last.length+1-(sets b).length)).map qencI)]).length,?_,?_,?_⟩
   .congr 1
    rw[<-hn]; simp [vals]; omega
   .simp [vals,qencI]
   .refine⟨[yK 4 [F6 b],.dead,yK 1 ((last.drop (last.length+1-(sets b).length)).map qencI++[[AV.int .i64 v]])],?_⟩
    rw[zK,List.set_append_right _ _ AZ];simp
 rintro F H ⟨f7,o,f8,ho,hx⟩;refine AY f8 ?_;refine BJ (fun n F H'=>∃k,n+k=(sets b).length∧F 7=.sl (sP b) 1 ((sets b).map encS)∧F 34=.own o 0 (sets b).length∧F 35=.n (sets b).length∧F 36=.n (k:Nat)∧H'=H∧ADW b last v k=true) (sets b).length ⟨0,AZ,EE f7,AL,AL,AL,rfl,rfl⟩ ?_;rintro n F H' ⟨k,hk,f7,f34,f35,f36,rfl,hin⟩;refine A8 f35 f36 ?_;refine D8 ?_ ?_<;>intro hd'
 .have hdv:k<(vals last (sets b).length v).length:=U
  have e1:((vals last (sets b).length v).map qencI)[k]?=some [.n (cL last (sets b).length v k)]:=by rw[ASL hdv,AP0 h1 hc' hdv]
  have e2:setAt b k=(sets b)[k].l:=by unfold setAt; simp [hd']
  simp only[vQ,List.getElem?_cons_zero,CG,↓reduceIte,jC,enP,LY,AHK,f7,f34,f36,GM ho hd',BA ag3 ho e1,CX hd',CU RQ hd',AEM];refine(inside_prog G _ _ _ _ (hb.sets _ (List.getElem_mem hd'))).uu ?_;refine BM ?_ ?_<;>intro hi
  .refine AA ?_
   refine⟨?_,hx⟩;have hi':inside (sets b)[k].l (cL last (sets b).length v k)=false:=BG hi;unfold hit;rw[AYC hd' (by rw[e2]; exact hi')]; simp
  .refine A8 f36 (CZ k) ?_
   refine⟨n-1,U,k+1,U,f7,f34,f35,rfl,trivial,?_⟩;rw[AOD,hin,e2]; simpa using hi
 .refine AA ?_
  refine⟨?_,hx⟩;have:k=(sets b).length:=U;subst this;unfold hit; rw[hin,hv0]; simp [hc']
end Go.Proofs.YtiihpnicbekebaaGreatDoor.Bins
namespace Go.Proofs.YtiihpnicbekebaaGreatDoor.Wd
open Sm Bins Cov Go.RowKit
variable {a:Nat} {n:Int} (G:Nat->AV )
def wW (z:Int):Nat:=(z%65536).toNat
theorem AJG (z:Int):wW z<65536:=by unfold wW; omega
theorem V4 (h:a<65536):wW (a:Int)=a:=by unfold wW; omega
def AFG (a i:Nat):Nat:=a/2^i%2
def MH (a:Nat):Nat->Nat
 | 0=>0
 | k+1=>MH a k+AFG a k
def Z7 (a:Nat):Nat:=MH a 16
def ABW (a:Nat)(n:Int):Nat:=if n<0∨n≥16 then 0 else a*2^n.toNat%65536
def ABV (a:Nat)(n:Int):Nat:=if n<0∨n≥16 then 0 else a/2^n.toNat
theorem AZQ (a i:Nat):AFG a i<2:=wI _ U
theorem SG (a:Nat):∀k,MH a k<=k
 | 0=>Nat.le_refl 0
 | k+1=>by have:=SG a k; have:=AZQ a k; unfold MH; omega
theorem UT (a i:Nat)(hi:i<8):AFG (a%256) i=AFG a i:=by
 unfold AFG;have:i=0∨i=1∨i=2∨i=3∨i=4∨i=5∨i=6∨i=7:=U;rcases this with rfl|rfl|rfl|rfl|rfl|rfl|rfl|rfl<;>simp only[Nat.reducePow]<;>omega
theorem AUK (a i:Nat):AFG (a/256) i=AFG a (8+i):=by
 unfold AFG;rw[Nat.div_div_eq_div_mul,Nat.pow_add]
theorem ARA (a:Nat):Z7 a=MH (a/256) 8+MH (a%256) 8:=by
 unfold Z7;simp only[MH,AUK,UT a 0 U,UT a 1 U,UT a 2 U,UT a 3 U,UT a 4 U,UT a 5 U,UT a 6 U,UT a 7 U,Nat.reduceAdd,Nat.add_zero];omega
theorem APX (h0:0<=n)(h1:n<65536):IntKind.u16.wrap n=n:=by
 have e:IntKind.u16.wrap n=n%65536:=by simp [IntKind.wrap,IntKind.bits,IntKind.signed]
 rw[e]; omega
theorem U7 (n:Int):IntKind.u16.wrap n=n%65536:=by simp [IntKind.wrap,IntKind.bits,IntKind.signed]
theorem AZ1 (z:Int):IQ jA 3 .and (.n z) (.n 65535)=some (.n ((wW z:Nat):Int)):=by
 have e:IQ jA 3 .and (.n z) (.n 65535)=some (.n (IntKind.i64.wrap ((BitVec.ofInt 64 z &&& BitVec.ofInt 64 65535).toNat:Int))):=rfl;rw[e,BitVec.toNat_and];have h1:(BitVec.ofInt 64 65535).toNat=2^16-1:=by decide
 rw[h1,Nat.and_two_pow_sub_one_eq_mod,BitVec.toNat_ofInt]
 have h2:((z%((2^64:Nat):Int)).toNat%2^16)=wW z:=by
  unfold wW;simp only[Nat.reducePow];omega
 rw[h2,NK (by have:=AJG z; omega)]
theorem AO8 (a:Nat)(h:a<65536):(BitVec.ofInt 64 (a:Int)).toNat=a:=by
 rw[BitVec.ofInt_natCast,BitVec.toNat_ofNat];exact yG U
theorem A72 (a b:Nat)(ha:a<65536)(hb:b<65536):IQ jA 3 .and (.n (a:Nat)) (.n (b:Nat))=some (.n ((a &&& b:Nat):Int)):=by
 have e:IQ jA 3 .and (.n (a:Nat)) (.n (b:Nat))=some (.n (IntKind.i64.wrap ((BitVec.ofInt 64 (a:Int) &&& BitVec.ofInt 64 (b:Int)).toNat:Int))):=rfl;have hx:a &&& b<2^16:=Nat.and_lt_two_pow _ U;rw[e,BitVec.toNat_and,AO8 a ha,AO8 b hb,NK U]
theorem A9M (a b:Nat)(ha:a<65536)(hb:b<65536):IQ jA 3 .or (.n (a:Nat)) (.n (b:Nat))=some (.n ((a ||| b:Nat):Int)):=by
 have e:IQ jA 3 .or (.n (a:Nat)) (.n (b:Nat))=some (.n (IntKind.i64.wrap ((BitVec.ofInt 64 (a:Int) ||| BitVec.ofInt 64 (b:Int)).toNat:Int))):=rfl
 have hx:a ||| b<2^16:=Nat.or_lt_two_pow U U
 rw[e,BitVec.toNat_or,AO8 a ha,AO8 b hb,NK U]
theorem A4O (a b:Nat)(ha:a<65536)(hb:b<65536):IQ jA 3 .xor (.n (a:Nat)) (.n (b:Nat))=some (.n ((a ^^^ b:Nat):Int)):=by
 have e:IQ jA 3 .xor (.n (a:Nat)) (.n (b:Nat))=some (.n (IntKind.i64.wrap ((BitVec.ofInt 64 (a:Int) ^^^ BitVec.ofInt 64 (b:Int)).toNat:Int))):=rfl;have hx:a ^^^ b<2^16:=Nat.xor_lt_two_pow U U;rw[e,BitVec.toNat_xor,AO8 a ha,AO8 b hb,NK U]
theorem gL (E:Env)(fid:FuncId)(a:AV)(l args caps:List AV)(h:Hp)(K:AV->Hp->Prop):AFB E (.fn (.func fid) (a::l) caps) args h K=ACalls E fid ((a::l)++(args++caps)) h K:=rfl
theorem QN (z:Int)(h:Hp):PCall (En G) 340 [.n z] h (.int .u16 ((wW z:Nat):Int)):=by
 have:=AJG z;refine acT Tryz.func340 2 ?_;refine DL @AY5 @AZ1 (APX (n:=((wW z:Nat):Int)) U U) ?_;exact HY
theorem V5 (a:Nat)(ha:a<65536)(h:Hp):PCall (En G) 341 [.int .u16 (a:Nat)] h (.n (a:Nat)):=by
 refine acT Tryz.func341 2 ?_;refine A8 @AY6 (NK (n:=a) U) ?_;exact HY
theorem AMB (z:Int)(h:Hp):PCall (En G) 316 [.n z] h (.n ((wW z:Nat):Int)):=by
 refine acT Tryz.func316 2 ?_;refine AA ?_;refine(QN G z h).uu ?_;refine(V5 G _ (AJG z) h).uu ?_;exact HY
theorem lU (k:FuncId)(a b r:Nat)(hb:b<65536)(hr:r<65536)(h:Hp)(hc:PCall (En G) k [.int .u16 (a:Nat),.int .u16 (b:Nat)] h (.int .u16 (r:Nat))):
  PCall (En G) 342 [.fn (.func k) [.int .u16 (a:Nat)] [],.n (b:Nat)] h (.n (r:Nat)):=by
 have ho:=QN G (b:Nat) h;rw[V4 hb] at ho;refine acT Tryz.func342 4 ?_;refine AA ?_;refine ho.use ?_;refine AY @gL ?_;refine hc.uu ?_;refine(V5 G r hr h).uu ?_;exact HY
theorem AC3 (k:FuncId)(a r:Nat)(hr:r<65536)(h:Hp)(hc:PCall (En G) k [.int .u16 (a:Nat)] h (.int .u16 (r:Nat))):
  PCall (En G) 383 [.fn (.func k) [.int .u16 (a:Nat)] []] h (.n (r:Nat)):=by
 refine acT Tryz.func383 2 ?_;refine AY @gL ?_;refine hc.uu ?_;refine(V5 G r hr h).uu ?_;exact HY
theorem A1X (a b:Nat)(ha:a<65536)(hb:b<65536)(h:Hp):PCall (En G) 317 [.n (a:Nat),.n (b:Nat)] h (.n (((a+b)%65536:Nat):Int)):=by
 have hc:PCall (En G) 343 [.int .u16 (a:Nat),.int .u16 (b:Nat)] h (.int .u16 (((a+b)%65536:Nat):Int)):=by
  have e:IntKind.u16.wrap ((a:Int)+(b:Int))=(((a+b)%65536:Nat):Int):=by rw[U7]; omega
  refine acT Tryz.func343 4 ?_;refine AY e ?_;exact HY
 have ho:=QN G (a:Nat) h;rw[V4 ha] at ho;refine acT Tryz.func317 4 ?_;refine AA ?_;refine ho.uu ?_;refine(lU G 343 a b _ hb (wI _ U) h hc).uu ?_;exact HY
theorem A40 (a b:Nat)(ha:a<65536)(hb:b<65536)(h:Hp):PCall (En G) 348 [.n (a:Nat),.n (b:Nat)] h (.n (((a+65536-b)%65536:Nat):Int)):=by
 have hc:PCall (En G) 387 [.int .u16 (a:Nat),.int .u16 (b:Nat)] h (.int .u16 (((a+65536-b)%65536:Nat):Int)):=by
  have e:IntKind.u16.wrap ((a:Int)-(b:Int))=(((a+65536-b)%65536:Nat):Int):=by rw[U7]; omega
  refine acT Tryz.func387 4 ?_;refine AY e ?_;exact HY
 have ho:=QN G (a:Nat) h;rw[V4 ha] at ho;refine acT Tryz.func348 4 ?_;refine AA ?_;refine ho.uu ?_;refine(lU G 387 a b _ hb (wI _ U) h hc).uu ?_;exact HY
theorem A5P (a b:Nat)(ha:a<65536)(hb:b<65536)(h:Hp):PCall (En G) 349 [.n (a:Nat),.n (b:Nat)] h (.n ((a*b%65536:Nat):Int)):=by
 have hc:PCall (En G) 388 [.int .u16 (a:Nat),.int .u16 (b:Nat)] h (.int .u16 ((a*b%65536:Nat):Int)):=by
  have e:IntKind.u16.wrap ((a:Int)*(b:Int))=((a*b%65536:Nat):Int):=by rw[U7]; rw[<-Int.natCast_mul]; rfl
  refine acT Tryz.func388 4 ?_;refine AY e ?_;exact HY
 have ho:=QN G (a:Nat) h;rw[V4 ha] at ho;refine acT Tryz.func349 4 ?_;refine AA ?_;refine ho.uu ?_;refine(lU G 388 a b _ hb (wI _ U) h hc).uu ?_;exact HY
theorem A6F (a:Nat)(ha:a<65536)(h:Hp):PCall (En G) 345 [.n (a:Nat)] h (.n ((65535-a:Nat):Int)):=by
 have hu:aUn .xor (.int .u16 (a:Nat))=some (.int .u16 ((65535-a:Nat):Int)):=by
  have e:aUn .xor (.int .u16 (a:Nat))=some (.int .u16 (IntKind.u16.wrap ((BitVec.ofInt 16 65535 ^^^ BitVec.ofInt 16 (a:Int)).toNat:Int))):=rfl;have h1:BitVec.ofInt 16 65535=BitVec.allOnes 16:=by decide
  have h2:(BitVec.ofInt 16 (a:Int)).toNat=a:=by
   rw[BitVec.ofInt_natCast,BitVec.toNat_ofNat];exact yG U
  rw[e,h1,BitVec.allOnes_xor,BitVec.toNat_not,h2,APX U (by simp only[Nat.reducePow]; omega)]
 have hc:PCall (En G) 384 [.int .u16 (a:Nat)] h (.int .u16 ((65535-a:Nat):Int)):=by
  refine acT Tryz.func384 2 ?_;refine AY hu ?_;exact HY
 have ho:=QN G (a:Nat) h;rw[V4 ha] at ho;refine acT Tryz.func345 2 ?_;refine AA ?_;refine ho.uu ?_;refine(AC3 G 384 a _ U h hc).uu ?_;exact HY
theorem A5O (a:Nat)(ha:a<65536)(h:Hp):PCall (En G) 346 [.n (a:Nat)] h (.n (((65536-a)%65536:Nat):Int)):=by
 have hc:PCall (En G) 385 [.int .u16 (a:Nat)] h (.int .u16 (((65536-a)%65536:Nat):Int)):=by
  have e:IntKind.u16.wrap (0-(a:Int))=(((65536-a)%65536:Nat):Int):=by rw[U7]; omega
  refine acT Tryz.func385 2 ?_;refine A8 @AP6 e ?_;exact HY
 have ho:=QN G (a:Nat) h;rw[V4 ha] at ho;refine acT Tryz.func346 2 ?_;refine AA ?_;refine ho.uu ?_;refine(AC3 G 385 a _ (wI _ U) h hc).uu ?_;exact HY
theorem mE (k:FuncId)(a r:Nat)(n:Int)(hr:r<65536)(h:Hp)(hc:¬(n<0∨n≥16)->PCall (En G) k [.int .u16 (a:Nat),.n n] h (.int .u16 (r:Nat)))(h0:n<0∨n≥16->r=0):
  PCall (En G) 389 [.fn (.func k) [.int .u16 (a:Nat)] [],.n n] h (.n (r:Nat)):=by
 refine acT Tryz.func389 4 ?_;refine AA ?_;cases h1:decide (n<0)
 .have h1':¬n<0:=BG h1
  cases h2:decide (n≥16)
  .have h2':¬n≥16:=BG h2
   refine A8 h2 @gL ?_;refine(hc U).uu ?_;refine(V5 G r hr h).uu ?_;exact HY
  .have h2':n≥16:=BG h2
   refine AY h2 ?_;exact⟨by rw[h0 (.inr h2')]; rfl,trivial⟩
 .have h1':n<0:=BG h1
  refine AA ?_;exact⟨by rw[h0 (.inl h1')]; rfl,trivial⟩
theorem AJT:ABW a n<65536:=by
 unfold ABW;split
 .omega
 .exact wI _ U
theorem AJS (ha:a<65536):ABV a n<65536:=by
 unfold ABV;split
 .omega
 .exact Nat.lt_of_le_of_lt (Nat.div_le_self _ _) ha
theorem shl_w (a:Nat)(n:Int)(ha:a<65536)(h:Hp):PCall (En G) 350 [.n (a:Nat),.n n] h (.n (ABW a n:Nat)):=by
 have hc:¬(n<0∨n≥16)->PCall (En G) 390 [.int .u16 (a:Nat),.n n] h (.int .u16 (ABW a n:Nat)):=fun hn=>by
  have hb:IQ jA 348 .shl (.int .u16 (a:Nat)) (.n n)=some (.int .u16 (ABW a n:Nat)):=by
   have e:IQ jA 348 .shl (.int .u16 (a:Nat)) (.n n)=if n<0 then none else some (.int .u16 (IntKind.u16.wrap ((a:Int)*2^(min n.toNat 16)))):=rfl
   have h1:min n.toNat 16=n.toNat:=U;rw[e,if_neg U,h1,U7];unfold ABW;rw[if_neg hn,Int.natCast_emod,Int.natCast_mul,Int.natCast_pow];rfl
  refine acT Tryz.func390 4 ?_;refine AY hb ?_;exact HY
 have ho:=QN G (a:Nat) h;rw[V4 ha] at ho;refine acT Tryz.func350 4 ?_;refine AA ?_;refine ho.uu ?_;refine(mE G 390 a _ n AJT h hc (fun hh=>by unfold ABW; rw[if_pos hh])).uu ?_;exact HY
theorem A5A (a:Nat)(n:Int)(ha:a<65536)(h:Hp):PCall (En G) 351 [.n (a:Nat),.n n] h (.n (ABV a n:Nat)):=by
 have hc:¬(n<0∨n≥16)->PCall (En G) 391 [.int .u16 (a:Nat),.n n] h (.int .u16 (ABV a n:Nat)):=fun hn=>by
  have hb:IQ jA 348 .shr (.int .u16 (a:Nat)) (.n n)=some (.int .u16 (ABV a n:Nat)):=by
   have e:IQ jA 348 .shr (.int .u16 (a:Nat)) (.n n)=if n<0 then none else some (.int .u16 ((a:Int).fdiv (2^(min n.toNat 16)))):=rfl
   have h1:min n.toNat 16=n.toNat:=U;rw[e,if_neg U,h1];unfold ABV;rw[if_neg hn,Int.fdiv_eq_ediv_of_nonneg _ (by exact Int.le_of_lt (Int.pow_pos DF)),Int.natCast_ediv,Int.natCast_pow];rfl
  refine acT Tryz.func391 4 ?_;refine AY hb ?_;exact HY
 have ho:=QN G (a:Nat) h;rw[V4 ha] at ho;refine acT Tryz.func351 4 ?_;refine AA ?_;refine ho.uu ?_;refine(mE G 391 a _ n (AJS ha) h hc (fun hh=>by unfold ABV; rw[if_pos hh])).uu ?_;exact HY
def AJM (fn:Func):ByteArray:=match fn.body with
 | some (.seq _ (.seq (.region _ ops _) _))=>match ops[2]? with
   | some o=>match o.op with
     | .index _ (.const (.string s)) _=>s
     | _=>⟨#[]⟩
   | none=>⟨#[]⟩
 | _=>⟨#[]⟩
theorem AV5:(List.range 256).all (fun y=>(AJM Tryz.f386)[y]? == some (UInt8.ofNat (MH y 8)))=true:=A7
theorem AQA {y:Nat}(hy:y<256)(h:Hp):ofO h (O8 jA 9 (.str (AJM Tryz.f386)) (.int .u16 (y:Nat)))=some (.int .u8 (MH y 8:Nat),h):=by
 have h1:=List.all_eq_true.1 AV5 y (BG hy);have h2:(AJM Tryz.f386)[y]?=some (UInt8.ofNat (MH y 8)):=BG h1;have hle:=SG y 8;have hu:Tryz.prog.underlying 9=some .string:=A7
 have h3:O8 jA 9 (.str (AJM Tryz.f386)) (.int .u16 (y:Nat))=some (.int .u8 (MH y 8:Nat)):=by
  unfold O8;simp only[hu,Int.toNat_natCast,h2];rw[if_pos U];simp;omega
 rw[h3]; rfl
theorem ANG (a:Nat)(ha:a<65536)(h:Hp):PCall (En G) 347 [.n (a:Nat)] h (.n (Z7 a:Nat)):=by
 have hs:IQ jA 347 .shr (.int .u16 (a:Nat)) (.int .u64 8)=some (.int .u16 ((a/256:Nat):Int)):=by
  have e:IQ jA 347 .shr (.int .u16 (a:Nat)) (.int .u64 8)=some (.int .u16 ((a:Int).fdiv (2^8))):=rfl;rw[e,Int.fdiv_eq_ediv_of_nonneg _ DF];rfl
 have hl:IQ jA 347 .and (.int .u16 (a:Nat)) (.int .u16 255)=some (.int .u16 ((a%256:Nat):Int)):=by
  have e:IQ jA 347 .and (.int .u16 (a:Nat)) (.int .u16 255)=some (.int .u16 (IntKind.u16.wrap ((BitVec.ofInt 16 (a:Int) &&& BitVec.ofInt 16 255).toNat:Int))):=rfl;have h1:(BitVec.ofInt 16 255).toNat=2^8-1:=by decide
  have h2:(BitVec.ofInt 16 (a:Int)).toNat=a:=by
   rw[BitVec.ofInt_natCast,BitVec.toNat_ofNat];exact yG U
  rw[e,BitVec.toNat_and,h1,Nat.and_two_pow_sub_one_eq_mod,h2,APX U (by simp only[Nat.reducePow]; omega)]
 have l1:=SG (a/256) 8;have l2:=SG (a%256) 8
 have hadd:IQ jA 5 .add (.int .u8 (MH (a/256) 8:Nat)) (.int .u8 (MH (a%256) 8:Nat))=some (.int .u8 (Z7 a:Nat)):=by
  have e:IQ jA 5 .add (.int .u8 (MH (a/256) 8:Nat)) (.int .u8 (MH (a%256) 8:Nat))=some (.int .u8 (IntKind.u8.wrap ((MH (a/256) 8:Int)+(MH (a%256) 8:Int)))):=rfl;have e2:∀n:Int,IntKind.u8.wrap n=n%256:=fun n=>by simp [IntKind.wrap,IntKind.bits,IntKind.signed]
  have e3:=ARA a;rw[e,e2];congr 2;omega
 have h64:IntKind.i64.wrap ((Z7 a:Nat):Int)=((Z7 a:Nat):Int):=NK (by have:=SG a 16; unfold Z7; omega)
 have hc:PCall (En G) 386 [.int .u16 (a:Nat)] h (.n (Z7 a:Nat)):=by
  refine acT Tryz.func386 2 ?_;refine AA ?_;refine DZ A7 ?_;refine DL @vD hs hl ?_;refine KT (v:=.int .u8 (MH (a/256) 8:Nat)) (h:=h) (AQA U h) ?_;refine DL @vD hs hl ?_;refine KT (v:=.int .u8 (MH (a%256) 8:Nat)) (h:=h) (AQA U h) ?_;refine EM @APT @AT3 @hadd h64 ?_;exact HY
 have ho:=QN G (a:Nat) h;rw[V4 ha] at ho;refine acT Tryz.func347 2 ?_;refine AA ?_;refine ho.uu ?_;refine hc.uu ?_;exact HY
end Go.Proofs.YtiihpnicbekebaaGreatDoor.Wd
namespace Go.Proofs.YtiihpnicbekebaaGreatDoor.Xe
open Sm Bins Cov Wd Go.RowKit
variable (G:Nat->AV )
def tr (b:Bool):Nat:=if b then 1 else 0
def sgW (op:Int)(a:Nat):Nat:=if op=4 then tr (a==0) else if op=5 then 65535-a else if op=6 then (65536-a)%65536 else Z7 a
def dbW (op:Int)(a b:Nat):Nat :=
 if op=7 then (a+b)%65536 else if op=8 then (a+65536-b)%65536 else if op=9 then a*b%65536 else if op=10 then a &&& b else if op=11 then a ||| b else if op=12 then a ^^^ b
 else if op=13 then ABW a (b:Nat) else if op=14 then ABV a (b:Nat) else if op=15 then tr (a==b) else if op=16 then tr (!(a==b)) else if op=17 then tr (decide (a<b)) else if op=18 then tr (decide (a<=b))
 else if op=19 then tr (!(a==0) && !(b==0)) else if op=20 then tr (!(a==0) || !(b==0)) else tr ((a==0) || !(b==0))
theorem cM (b:Bool):tr b<65536:=by cases b<;>decide
theorem A2G {op:Int}{a:Nat}(ha:a<65536):sgW op a<65536:=by
 unfold sgW;by_cases h4:op=4
 .rw[if_pos h4]; exact cM _
 by_cases h5:op=5
 .rw[if_neg h4,if_pos h5]; omega
 by_cases h6:op=6
 .rw[if_neg h4,if_neg h5,if_pos h6]; exact wI _ U
 .rw[if_neg h4,if_neg h5,if_neg h6]
  have:=SG a 16;unfold Z7; omega
theorem A3S {op:Int}{a b:Nat}(ha:a<65536)(hb:b<65536):dbW op a b<65536:=by
 unfold dbW;by_cases h7:op=7
 .rw[if_pos h7]; exact wI _ U
 by_cases h8:op=8
 .rw[if_neg h7,if_pos h8]; exact wI _ U
 by_cases h9:op=9
 .rw[if_neg h7,if_neg h8,if_pos h9]; exact wI _ U
 by_cases h10:op=10
 .rw[if_neg h7,if_neg h8,if_neg h9,if_pos h10]; exact Nat.lt_of_le_of_lt Nat.and_le_left ha
 by_cases h11:op=11
 .rw[if_neg h7,if_neg h8,if_neg h9,if_neg h10,if_pos h11]; exact Nat.or_lt_two_pow (n:=16) U U
 by_cases h12:op=12
 .rw[if_neg h7,if_neg h8,if_neg h9,if_neg h10,if_neg h11,if_pos h12]; exact Nat.xor_lt_two_pow (n:=16) U U
 by_cases h13:op=13
 .rw[if_neg h7,if_neg h8,if_neg h9,if_neg h10,if_neg h11,if_neg h12,if_pos h13]; exact AJT
 by_cases h14:op=14
 .rw[if_neg h7,if_neg h8,if_neg h9,if_neg h10,if_neg h11,if_neg h12,if_neg h13,if_pos h14]; exact AJS ha
 by_cases h15:op=15
 .rw[if_neg h7,if_neg h8,if_neg h9,if_neg h10,if_neg h11,if_neg h12,if_neg h13,if_neg h14,if_pos h15]; exact cM _
 by_cases h16:op=16
 .rw[if_neg h7,if_neg h8,if_neg h9,if_neg h10,if_neg h11,if_neg h12,if_neg h13,if_neg h14,if_neg h15,if_pos h16]; exact cM _
 by_cases h17:op=17
 .rw[if_neg h7,if_neg h8,if_neg h9,if_neg h10,if_neg h11,if_neg h12,if_neg h13,if_neg h14,if_neg h15,if_neg h16,if_pos h17]; exact cM _
 by_cases h18:op=18
 .rw[if_neg h7,if_neg h8,if_neg h9,if_neg h10,if_neg h11,if_neg h12,if_neg h13,if_neg h14,if_neg h15,if_neg h16,if_neg h17,if_pos h18]; exact cM _
 by_cases h19:op=19
 .rw[if_neg h7,if_neg h8,if_neg h9,if_neg h10,if_neg h11,if_neg h12,if_neg h13,if_neg h14,if_neg h15,if_neg h16,if_neg h17,if_neg h18,if_pos h19]; exact cM _
 by_cases h20:op=20
 .rw[if_neg h7,if_neg h8,if_neg h9,if_neg h10,if_neg h11,if_neg h12,if_neg h13,if_neg h14,if_neg h15,if_neg h16,if_neg h17,if_neg h18,if_neg h19,if_pos h20]; exact cM _
 .rw[if_neg h7,if_neg h8,if_neg h9,if_neg h10,if_neg h11,if_neg h12,if_neg h13,if_neg h14,if_neg h15,if_neg h16,if_neg h17,if_neg h18,if_neg h19,if_neg h20]; exact cM _
theorem eqc (a b:Nat):((a:Int)==(b:Int))=(a==b):=by
 rw[qY]; simp only[beq_iff_eq]; omega
theorem eqz (a:Nat):((a:Int)==0)=(a==0):=eqc a 0
theorem nec (a b:Nat):((a:Int) != (b:Int)) = !(a==b):=congrArg not (eqc a b)
theorem nez (a:Nat):((a:Int) != 0) = !(a==0):=nec a 0
theorem ltc (a b:Nat):decide ((a:Int)<(b:Int))=decide (a<b):=by
 rw[qY]; simp only[decide_eq_true_eq]; omega
theorem lec (a b:Nat):decide ((a:Int)<=(b:Int))=decide (a<=b):=by
 rw[qY]; simp only[decide_eq_true_eq]; omega
theorem NM (b:Bool)(h:Hp):PCall (En G) 344 [.bool b] h (.n (tr b:Nat)):=by
 refine acT Tryz.func344 2 ?_;cases b
 all_goals
  refine AA ?_;exact⟨rfl,trivial⟩
theorem ABU (op:Int)(a:Nat)(ha:a<65536)(h:Hp):PCall (En G) 318 [.n op,.n (a:Nat)] h (.n (sgW op a:Nat)):=by
 refine acT Tryz.func318 4 ?_;have hcase:op=4∨op=5∨op=6∨(op≠4∧op≠5∧op≠6):=U;rcases hcase with rfl|rfl|rfl|⟨n4,n5,n6⟩
 .refine aK eqz ?_
  refine(NM G _ h).uu ?_;exact⟨rfl,trivial⟩
 .refine YT ?_
  refine(A6F G a ha h).uu ?_;exact⟨rfl,trivial⟩
 .refine YT ?_
  refine(A5O G a ha h).uu ?_;exact⟨rfl,trivial⟩
 .refine DL (beq_eq_false_iff_ne.2 n4) (beq_eq_false_iff_ne.2 n5) (beq_eq_false_iff_ne.2 n6) ?_
  refine(ANG G a ha h).uu ?_;exact⟨by unfold sgW; rw[if_neg n4,if_neg n5,if_neg n6],trivial⟩
theorem AES (op:Int)(a b:Nat)(ha:a<65536)(hb:b<65536)(h:Hp):PCall (En G) 319 [.n op,.n (a:Nat),.n (b:Nat)] h (.n (dbW op a b:Nat)):=by
 refine acT Tryz.func319 6 ?_;have hcase:op=7∨op=8∨op=9∨op=10∨op=11∨op=12∨op=13∨op=14∨op=15∨op=16∨op=17∨op=18∨op=19∨op=20∨(op<7∨20<op):=U;rcases hcase with rfl|rfl|rfl|rfl|rfl|rfl|rfl|rfl|rfl|rfl|rfl|rfl|rfl|rfl|hop
 .refine YT ?_
  refine(A1X G a b ha hb h).uu ?_;exact⟨rfl,trivial⟩
 .refine YT ?_
  refine(A40 G a b ha hb h).uu ?_;exact⟨rfl,trivial⟩
 .refine YT ?_
  refine(A5P G a b ha hb h).uu ?_;exact⟨rfl,trivial⟩
 .refine aK (A72 a b ha hb) ?_
  exact⟨rfl,trivial⟩
 .refine aK (A9M a b ha hb) ?_
  exact⟨rfl,trivial⟩
 .refine aK (A4O a b ha hb) ?_
  exact⟨rfl,trivial⟩
 .refine YT ?_
  refine(shl_w G a (b:Nat) ha h).uu ?_;exact⟨rfl,trivial⟩
 .refine YT ?_
  refine(A5A G a (b:Nat) ha h).uu ?_;exact⟨rfl,trivial⟩
 .refine P7 eqc nec ltc lec ?_
  refine(NM G _ h).uu ?_;exact⟨rfl,trivial⟩
 .refine P7 eqc nec ltc lec ?_
  refine(NM G _ h).uu ?_;exact⟨rfl,trivial⟩
 .refine P7 eqc nec ltc lec ?_
  refine(NM G _ h).uu ?_;exact⟨rfl,trivial⟩
 .refine P7 eqc nec ltc lec ?_
  refine(NM G _ h).uu ?_;exact⟨rfl,trivial⟩
 .refine O3 eqz nez ?_
  cases h1:(a==0)<;>cases h2:(b==0)
  all_goals
   refine DL h1 h2 nez ?_;refine(NM G _ h).uu ?_;exact⟨by unfold dbW; rw[h1,h2]; rfl,trivial⟩
 .refine O3 eqz nez ?_
  cases h1:(a==0)<;>cases h2:(b==0)
  all_goals
   refine DL h1 h2 nez ?_;refine(NM G _ h).uu ?_;exact⟨by unfold dbW; rw[h1,h2]; rfl,trivial⟩
 .have hne:∀k:Int,7<=k->k<=20->(op==k)=false:=fun k _ _=>beq_eq_false_iff_ne.2 U
  have hd:dbW op a b=tr ((a==0) || !(b==0)):=by
   unfold dbW;rw[if_neg (U:¬op=7),if_neg (U:¬op=8),if_neg (U:¬op=9),if_neg (U:¬op=10),if_neg (U:¬op=11),if_neg (U:¬op=12),if_neg (U:¬op=13),if_neg (U:¬op=14),if_neg (U:¬op=15),if_neg (U:¬op=16),if_neg (U:¬op=17),if_neg (U:¬op=18),if_neg (U:¬op=19),if_neg (U:¬op=20)]
  rw[hd];simp only[vQ,EI,CG,JS,↓reduceIte,jC,enX,enP,hne 7 DF DF,hne 8 DF DF,hne 9 DF DF,hne 10 DF DF,hne 11 DF DF,hne 12 DF DF,hne 13 DF DF,hne 14 DF DF,hne 15 DF DF,hne 16 DF DF,hne 17 DF DF,hne 18 DF DF,hne 19 DF DF,hne 20 DF DF,eqz,nez];cases h1:(a==0)<;>cases h2:(b==0)
  all_goals
   refine DL h1 h2 nez ?_;refine(NM G _ h).uu ?_;exact⟨AC,trivial⟩
abbrev Sg:=ByteArray×Int
def FN (s:Sg):List AV:=[.str s.1,.n s.2]
theorem AOR (s:Sg):(FN s).length=2:=rfl
def A4D (s:Sg):Prop := -9223372036854775808<=s.2∧s.2<=9223372036854775807
def LG:List Sg->ByteArray->Nat×Bool
 | [],_=>(0,false)
 | s::l,n=>if(s.1.toList==n.toList)=true then (wW s.2,true) else LG l n
theorem dS:∀(l:List Sg) (n:ByteArray),(LG l n).1<65536
 | [],_=>by simp [LG]
 | s::l,n=>by unfold LG; split; exact AJG _; exact dS l n
theorem AH1 (l:List Sg)(n:ByteArray)(k:Nat)(hk:k<l.length):LG (l.drop k) n=if(l[k].1.toList==n.toList)=true then (wW l[k].2,true) else LG (l.drop (k+1)) n:=by
 rw[qC hk]; rfl
def Z4 (p:Nat×Bool):AV:=.tup [.n (p.1:Nat),.bool p.2]
theorem ACZ (p:Nat×Bool)(n:Nat)(H:Hp):EZ n H 2 (Z4 p)=Z4 p:=rfl
theorem A78 (h:Hp):GU jA h 209=some (.ptr h.length 0 0,h++[yK 2 [[.str ⟨#[]⟩,.n 0]]]):=FI (row:=[.str ⟨#[]⟩,.n 0]) A7
theorem A46 (h:Hp)(s:Sg):DT jA (h++[yK 2 [[.str ⟨#[]⟩,.n 0]]]) 209 (.ptr h.length 0 0) (.agg (FN s))=some (h++[yK 2 [FN s]]):=by
 rw[IU (cs:=FN s) (row:=[.str ⟨#[]⟩,.n 0]) rfl AQD (AQ _ _) (by exact jF 2),JZ];rfl
theorem AFD (h:Hp)(u:AV)(hu:u.leaf=true):MS h (.agg [u])=some (.ptr h.length 0 0,h++[yK 1 [[u]]]):=WT (by simp only[List.all_cons,hu,List.all_nil]; rfl)
theorem Z8 {h:Hp}{b:Nat}{u:AV}(hb:h[b]?=some (yK 1 [[u]])):BH jA h 277 (.ptr b 0 0)=some (.agg [u]):=by
 rw[EF A8F A0Q hb rfl (by exact jF 1)]; rfl
theorem TR {P:Program}{t:TypeId}{a b:ByteArray}(h:a.size+b.size<=9223372036854775807):IQ P t .add (.str a) (.str b)=some (.str (a++b)):=by
 show AU9 .add a b=_;unfold AU9
 have:((a.size+b.size:Nat):Int)<=IntKind.i64.max:=by
  show _<=(9223372036854775807:Int);omega
 simp only[if_pos this]
section
variable (G:Nat->AV)
theorem fX (l:List Sg)(m:SM)(n:ByteArray)(h:Hp)(hl:l.length<=1099511627776):PCall (En G) 280 [.agg [.sl m 2 (l.map FN)],.str n] h (Z4 (LG l n)):=by
 refine XY 2 (ACZ _) ?_;refine acL Tryz.func280 [.tmp 4,.tmp 5] ?_;refine EM A5Z @AYT (AFD h (.sl m 2 (l.map FN)) rfl) (GG A1U (AQ h (yK 1 [[.sl m 2 (l.map FN)]]))) ?_;refine BJ (fun k F H=>∃j,k+j=l.length∧F 1=.str n∧F 9=.sl m 2 (l.map FN)∧F 10=.n (l.length:Nat)∧F 11=.n (j:Nat)∧ext h H∧LG l n=LG (l.drop j) n) l.length ⟨0,AZ,AL,AL,AL,AL,(ext.rfl' h).app _,rfl⟩ ?_;rintro k F H ⟨j,hj,f1,f9,f10,f11,hx,hf⟩;refine A8 f10 f11 ?_;refine D8 ?_ ?_<;>intro hj'
 .have g:=AQ H (yK 2 [FN l[j]])
  have l0:BH jA (H++[yK 2 [FN l[j]]]) 9 (.ptr H.length 0 0)=some (.str l[j].1):=by rw[BA ag9 g (row:=FN l[j]) rfl]; rfl
  have l1:BH jA (H++[yK 2 [FN l[j]]]) 3 (.ptr H.length 0 1)=some (.n l[j].2):=by rw[BA ag3 g (row:=FN l[j]) rfl]; rfl
  rw[AH1 l n j hj'] at hf;simp only[vQ,CG,TQ,↓reduceIte,jC,Nat.add_zero,enP,A06,AYW,Option.getD_none,f1,f9,f11,CX hj',DC A8I AQD AOR hj',A78,A46,l0];refine BM ?_ ?_<;>intro hb
  .refine A8 @ALF l1 ?_
   refine(AMB G _ _).uu ?_;exact⟨by rw[hf,if_pos hb]; rfl,hx.app _⟩
  .refine A8 f11 (CZ j) ?_
   exact⟨k-1,U,j+1,U,AC,AC,AC,rfl,hx.app _,by rw[hf,if_neg (by rw[hb]; decide)]⟩
 .refine AA ?_
  exact⟨by rw[hf,List.drop_eq_nil_of_le U]; rfl,hx⟩
def elN (a:ByteArray)(i:Nat):ByteArray:=a++(⟨#[91]⟩:ByteArray)++(⟨#[UInt8.ofNat (48+i)]⟩:ByteArray)++(⟨#[93]⟩:ByteArray)
def atG (l:List Sg)(a:ByteArray)(i:Int):Nat×Bool:=if i<0∨i≥8 then (0,false) else LG l (elN a i.toNat)
theorem AUW (l:List Sg)(a:ByteArray)(i:Int):(atG l a i).1<65536:=by unfold atG; split; decide; exact dS _ _
theorem AET:∀i:Nat,i<8->YR jA 334 9 (.sl .full 1 [[.int .u8 (IntKind.u8.wrap (IntKind.i64.wrap (48+(i:Int))))]])=some (.str ⟨#[UInt8.ofNat (48+i)]⟩)
 | 0,_=>A7
 | 1,_=>A7
 | 2,_=>A7
 | 3,_=>A7
 | 4,_=>A7
 | 5,_=>A7
 | 6,_=>A7
 | 7,_=>A7
 | n+8,h=>absurd h U
theorem A1O (h:Hp)(v:Int):C9 jA false h 334 1 [(0,.int .u8 v)]=some (.sl .full 1 [[.int .u8 v]],h):=A7
theorem ZJ (a b:ByteArray):(a++b).size=a.size+b.size:=ByteArray.size_append
theorem AAM (l:List Sg)(m:SM)(a:ByteArray)(i:Int)(h:Hp)(hl:l.length<=1099511627776)(ha:a.size<=1048576):PCall (En G) 281 [.agg [.sl m 2 (l.map FN)],.str a,.n i] h (Z4 (atG l a i)):=by
 refine XY 2 (ACZ _) ?_;refine acL Tryz.func281 [.tmp 6,.tmp 7] ?_;have hx:=Sm.ext.r1 h (yK 1 [[.sl m 2 (l.map FN)]]);refine AY (AFD h (.sl m 2 (l.map FN)) rfl) ?_;cases h1:decide (i<0)
 .cases h2:decide (i≥8)
  .have h1':¬i<0:=BG h1
   have h2':¬i≥8:=BG h2;obtain⟨k,rfl⟩:=Int.eq_ofNat_of_zero_le (U:0<=i);have hk:k<8:=U;have e1:IQ jA 9 .add (.str a) (.str ⟨#[91]⟩)=_:=TR (by show a.size+1<=_; omega);have e2:IQ jA 9 .add (.str (a++(⟨#[91]⟩:ByteArray))) (.str ⟨#[UInt8.ofNat (48+k)]⟩)=_:=TR (by rw[ZJ]; show a.size+1+1<=_; omega);have e3:IQ jA 9 .add (.str (a++(⟨#[91]⟩:ByteArray)++(⟨#[UInt8.ofNat (48+k)]⟩:ByteArray))) (.str ⟨#[93]⟩)=_:=TR (by rw[ZJ,ZJ]; show a.size+1+1+1<=_; omega);refine TW @A1I h2 (Z8 (AQ h (yK 1 [[.sl m 2 (l.map FN)]]))) e1 A1O (AET k hk) e2 e3 ?_;refine(fX G l m _ _ hl).use ?_;unfold Z4;refine AA ?_;exact⟨by unfold atG; rw[if_neg U]; rfl,hx⟩
  .refine AY h2 ?_
   have h2':i≥8:=BG h2;exact⟨by unfold atG; rw[if_pos (.inr h2')]; rfl,hx⟩
 .refine AA ?_
  have h1':i<0:=BG h1;exact⟨by unfold atG; rw[if_pos (.inl h1')]; rfl,hx⟩
def sumTo (l:List Sg)(a:ByteArray):Nat->Nat
 | 0=>0
 | k+1=>(sumTo l a k+(atG l a (k:Nat)).1)%65536
theorem mA (l:List Sg)(a:ByteArray)(k:Nat):sumTo l a k<65536:=by
 cases k with
 | zero=>show 0<65536; decide
 | succ k=>exact wI _ U
theorem AQF (l:List Sg)(m:SM)(a:ByteArray)(h:Hp)(hl:l.length<=1099511627776)(ha:a.size<=1048576):PCall (En G) 282 [.agg [.sl m 2 (l.map FN)],.str a] h (.n (sumTo l a 8:Nat)):=by
 refine ACalls.pure0 rfl ?_;refine acT Tryz.func282 4 ?_;have g:=AQ h (yK 1 [[.sl m 2 (l.map FN)]]);refine AY (AFD h (.sl m 2 (l.map FN)) rfl) ?_
 generalize hH:h++[yK 1 [[.sl m 2 (l.map FN)]]]=H at g|-
 refine BJ (fun k F H'=>∃j,k+j=8∧F 1=.str a∧F 2=.ptr h.length 0 0∧F 5=.n (sumTo l a j:Nat)∧F 9=.n (j:Nat)∧H'=H) 8 ⟨0,AZ,AL,AL,AL,AL,rfl⟩ ?_;rintro k F H' ⟨j,hj,f1,f2,f5,f9,rfl⟩;refine AY f9 ?_;refine BM ?_ ?_<;>intro hc
 .have hj':j<8:=by simp at hc; omega
  refine EM f1 f2 f9 (Z8 g) ?_;refine(AAM G l m a (j:Nat) H' hl ha).use ?_;unfold Z4;refine AY f5 ?_;refine(A1X G _ _ (mA l a j) (AUW l a (j:Nat)) H').use ?_;refine EM f1 f2 f9 (CZ j) ?_;exact⟨k-1,U,j+1,U,AC,AC,AC,AC,trivial⟩
 .have hj':j=8:=by simp at hc; omega
  subst hj';refine AY f5 ?_;exact⟨trivial,_,hH.symm⟩
end
def insW (x:Nat):List Nat->Bool
 | a::b::r=>(decide (a<=x)&&decide (x<=b))||insW x r
 | _=>false
def opW (op:Int)(vs:List Nat):Nat :=
 if op=22 then (if vs.getD 0 0≠0 then vs.getD 1 0 else vs.getD 2 0) else if op=23 then tr (insW (vs.getD 0 0) (vs.drop 1))
 else if vs.length=1 then sgW op (vs.getD 0 0) else dbW op (vs.getD 0 0) (vs.getD 1 0)
theorem getD_lt {vs:List Nat}(hv:∀x∈vs,x<65536)(k:Nat):vs.getD k 0<65536:=by
 rw[zF];rcases Nat.lt_or_ge k vs.length with h|h
 .rw[jG h]; exact hv _ (jI h)
 .rw[List.getElem?_eq_none h]; decide
theorem A2T (op:Int){vs:List Nat}(hv:∀x∈vs,x<65536):opW op vs<65536:=by
 unfold opW;have h0:=getD_lt hv 0;have h1:=getD_lt hv 1;have h2:=getD_lt hv 2;split
 .split<;>assumption
 split
 .exact cM _
 split
 .exact A2G h0
 .exact A3S h0 h1
theorem AN5 (x:Nat)(l:List Nat)(k:Nat)(hk:k+1<l.length):insW x (l.drop k)=((decide (l[k]<=x)&&decide (x<=l[k+1]))||insW x (l.drop (k+2))):=by
 rw[qC (U:k<l.length),qC hk]; rfl
theorem ASN (x:Nat)(l:List Nat)(k:Nat)(hk:l.length<=k+1):insW x (l.drop k)=false:=by
 have:(l.drop k).length<=1:=by simp; omega
 match hm:l.drop k,this with
 | [],_=>rfl
 | [a],_=>rfl
theorem gec (a b:Nat):decide ((a:Int)≥(b:Int))=decide (b<=a):=lec b a
def AVH (op:Int)(n:Nat):Prop:=(op=22->n=3)∧(op=23->n%2=1∧3<=n)∧(op≠22->op≠23->n=1∨n=2)
theorem ANF (op:Int)(vs:List Nat)(o:Nat)(H:Hp)(ho:H[o]?=some (yK 1 (vs.map KJ)))(hv:∀x∈vs,x<65536)(hl:vs.length<=1048576)(hops:AVH op vs.length):
  PCall (En G) 283 [.n op,.own o 0 vs.length] H (.n (opW op vs:Nat)):=by
 have hix:∀k:Nat,k<vs.length->IG 1 H (.own o 0 vs.length) (.n (k:Nat))=some (.ptr o k 0):=fun k hk=>by rw[GM ho hk,Nat.zero_add]
 have hld:∀(k:Nat) (hk:k<vs.length),BH jA H 3 (.ptr o k 0)=some (.n (vs[k]:Nat)):=fun k hk=>by rw[BA ag3 ho (row:=KJ vs[k]) (row_map hk)]; rfl
 have h1:1<=vs.length:=by
  obtain⟨a,b,c⟩:=hops;by_cases e:op=22
  .have:=a e; omega
  by_cases e':op=23
  .have:=b e'; omega
  .have:=c e e'; omega
 have i0:IG 1 H (.own o 0 vs.length) (.n 0)=some (.ptr o 0 0):=hix 0 h1;have d0:=hld 0 h1;have g0:vs.getD 0 0=vs[0]:=by rw[zF,jG h1]; rfl
 have v0:vs[0]<65536:=hv _ (jI _);refine acT Tryz.func283 4 ?_;by_cases e22:op=22
 .subst e22
  have hl3:vs.length=3:=hops.1 rfl;have i1:IG 1 H (.own o 0 vs.length) (.n 1)=some (.ptr o 1 0):=hix 1 U;have i2:IG 1 H (.own o 0 vs.length) (.n 2)=some (.ptr o 2 0):=hix 2 U;have d1:=hld 1 U;have d2:=hld 2 U;have g1:vs.getD 1 0=vs[1]:=by rw[zF,jG U]; rfl
  have g2:vs.getD 2 0=vs[2]:=by rw[zF,jG U]; rfl
  refine P7 i0 d0 eqz nez ?_;cases hz:(vs[0]==0)
  .refine A8 i1 d1 ?_
   have:vs[0]≠0:=BG hz;exact⟨by unfold opW; rw[if_pos rfl,g0,if_pos this,g1],trivial⟩
  .refine A8 i2 d2 ?_
   have:¬vs[0]≠0:=BG hz;exact⟨by unfold opW; rw[if_pos rfl,g0,if_neg this,g2],trivial⟩
 by_cases e23:op=23
 .subst e23
  obtain⟨hodd,h3⟩:=hops.2.1 rfl;refine YT ?_;have hval:opW 23 vs=tr (insW vs[0] (vs.drop 1)):=by unfold opW; rw[if_neg DF,if_pos rfl,g0]
  rw[hval];refine BJ (fun n F H'=>∃j,n+j=vs.length∧j%2=1∧F 1=.own o 0 vs.length∧F 5=.n (j:Nat)∧H'=H∧insW vs[0] (vs.drop 1)=insW vs[0] (vs.drop j)) (vs.length-1) ⟨1,U,rfl,AL,AL,rfl,rfl⟩ ?_;rintro n F H' ⟨j,hj,hj2,f1,f5,rfl,hin⟩;refine DL f1 f5 (CZ j) ?_;refine BM ?_ ?_<;>intro hc
  .have hc':j+1<vs.length:=by simp at hc; omega
   have ij:=hix j U;have ij1:=hix (j+1) hc';have dj:=hld j U;have dj1:=hld (j+1) hc';rw[AN5 _ _ _ hc'] at hin;have e2:IntKind.i64.wrap (((j:Nat):Int)+2)=((j+2:Nat):Int):=by rw[wrap_i64 U U]; omega
   have es:IntKind.i64.wrap (((j:Nat):Int)+1)=((j+1:Nat):Int):=wrap_succ (U:j<9223372036854775807);refine AA ?_;refine DZ A7 ?_;refine cB f1 f5 i0 d0 ij dj es ij1 dj1 lec gec ?_;cases ha:decide (vs[j]<=vs[0])
   .refine DL ha f5 e2 ?_
    exact⟨n-2,U,j+2,U,U,AC,AC,trivial,by rw[hin,ha]; rfl⟩
   .cases hb:decide (vs[0]<=vs[j+1])
    .refine cB ha hb f1 f5 es ij1 dj1 lec i0 d0 e2 ?_
     exact⟨n-2,U,j+2,U,U,AC,AC,trivial,by rw[hin,ha,hb]; rfl⟩
    .refine cC ha hb f1 f5 es ij1 dj1 lec i0 d0 ?_
     exact⟨by rw[hin,ha,hb]; rfl,trivial⟩
  .have hc':vs.length<=j+1:=by simp at hc; omega
   refine AA ?_;exact⟨by rw[hin,ASN _ _ _ hc']; rfl,trivial⟩
 .have n12:=hops.2.2 e22 e23
  have c1:(op==22)=false:=beq_eq_false_iff_ne.2 e22;have c2:(op==23)=false:=beq_eq_false_iff_ne.2 e23;have hval:opW op vs=if vs.length=1 then sgW op (vs.getD 0 0) else dbW op (vs.getD 0 0) (vs.getD 1 0):=by unfold opW; rw[if_neg e22,if_neg e23]
  rw[hval];refine A8 c1 c2 ?_;refine BM ?_ ?_<;>intro hc
  .have hl1:vs.length=1:=by simp at hc; omega
   refine A8 i0 d0 ?_;refine(ABU G op _ v0 H).uu ?_;exact⟨by rw[if_pos hl1,g0],trivial⟩
  .have hl1:vs.length≠1:=by simp at hc; omega
   have i1:IG 1 H (.own o 0 vs.length) (.n 1)=some (.ptr o 1 0):=hix 1 U;have d1:=hld 1 U;have g1:vs.getD 1 0=vs[1]:=by rw[zF,jG U]; rfl
   have v1:vs[1]<65536:=hv _ (jI _);refine AA ?_;refine DZ A7 ?_;refine EM i0 d0 i1 d1 ?_;refine⟨_,AES G op _ _ v0 v1 H,?_⟩;exact⟨by rw[if_neg hl1,g0,g1],trivial⟩
end Go.Proofs.YtiihpnicbekebaaGreatDoor.Xe
namespace Go.Proofs.YtiihpnicbekebaaGreatDoor.Rk
open Sm Bins Cov Go.RowKit
theorem ACalls.args {E:Env}{f:FuncId}{as1 as2:List AV}{h:Hp}{R:AV->Hp->Prop}(hc:ACalls E f as2 h R)(ha:∀g cargs,ZW g as1 cargs->ZW g as2 cargs):ACalls E f as1 h R :=
 ⟨hc.1,fun g w cargs S hr=>hc.2 g w cargs S (ha g cargs hr)⟩
def hasB (xs:List Int)(z:Int):Bool:=xs.any fun x=>x==z
theorem AHM (G:Nat->AV)(xs:List Int)(s:SM)(z:Int)(h:Hp)(hn:xs.length<=1048576):∃k:Int,PCall (En G) 322 [.sl s 1 (xs.map qencI),.n z] h (.n k)∧decide (k≥0)=hasB xs z:=by
 by_cases hb:hasB xs z=true
 .obtain⟨i,hi⟩:∃i,xs.findIdx? (fun x=>x==z)=some i:=by
   cases he:xs.findIdx? (fun x=>x==z) with
   | some i=>exact⟨i,rfl⟩
   | none =>
     rw[List.findIdx?_eq_none_iff] at he;unfold hasB at hb;rw[List.any_eq_true] at hb;obtain⟨x,hx,hz⟩:=hb;rw[he x hx] at hz; cases hz
  refine⟨(i:Int),?_,by rw[hb]; simp⟩;obtain⟨hil,hiz,hbef⟩:=List.findIdx?_eq_some_iff_getElem.1 hi;refine acT Tryz.func322 4 ?_;refine AA ?_;refine BJ (fun n F H=>∃k,n+k=xs.length∧k<=i∧F 0=.sl s 1 (xs.map qencI)∧F 1=.n z∧F 7=.n (xs.length:Nat)∧F 8=.n (k:Nat)∧H=h) xs.length ⟨0,AZ,U,AL,AL,AL,AL,rfl⟩ ?_;rintro n F H ⟨k,hk,hki,f0,f1,f7,f8,rfl⟩;have hk':k<xs.length:=U;have hd:decide (((k:Nat):Int)<((xs.length:Nat):Int))=true:=by simp; omega
  simp only[vQ,CG,JS,↓reduceIte,Nat.reduceEqDiff,Option.getD_some,Bool.not_false,enP,LY,f7,f8,hd,f0,f1,CX hk',CU ag3 hk',Cov.encI0];rcases Nat.eq_or_lt_of_le hki with e|hlt
  .subst e
   have hzz:(z==xs[k])=true:=by rw[BEq.comm]; exact hiz
   refine A8 hzz f8 ?_;exact HY
  .have hzz:(z==xs[k])=false:=by
    have:=hbef k hlt;rw[BEq.comm]; simpa using this
   refine DL hzz f8 (CZ k) ?_;exact⟨n-1,U,k+1,U,U,AC,AC,AC,rfl,trivial⟩
 .have hb':hasB xs z=false:=BG hb
  refine⟨-1,?_,by rw[hb']; decide⟩;refine acT Tryz.func322 4 ?_;refine AA ?_;refine BJ (fun n F H=>∃k,n+k=xs.length∧F 0=.sl s 1 (xs.map qencI)∧F 1=.n z∧F 7=.n (xs.length:Nat)∧F 8=.n (k:Nat)∧H=h) xs.length ⟨0,AZ,AL,AL,AL,AL,rfl⟩ ?_;rintro n F H ⟨k,hk,f0,f1,f7,f8,rfl⟩;refine A8 f7 f8 ?_;refine BM ?_ ?_<;>intro hc
  .have hk':k<xs.length:=BG hc
   have hzz:(z==xs[k])=false:=by
    rw[<-Bool.not_eq_true]; intro e;unfold hasB at hb';rw[List.any_eq_false] at hb';exact hb' xs[k] (List.getElem_mem hk') (by rw[BEq.comm]; exact e)
   refine NW f0 f1 f8 hk' @Cov.encI0 hzz (CZ k) ?_;exact⟨n-1,U,k+1,U,AC,AC,f7,rfl,trivial⟩
  .refine AA ?_
   exact HY
theorem contains_rank (G:Nat->AV)(xs:List Int)(s:SM)(z:Int)(h:Hp)(hn:xs.length<=1048576):PCall (En G) 286 [.sl s 1 (xs.map qencI),.n z] h (.bool (hasB xs z)):=by
 obtain⟨k,hk,hd⟩:=AHM G xs s z h hn;refine acT Tryz.func286 4 ?_;refine AA ?_;refine hk.use ?_;refine AY hd ?_;exact HY
end Go.Proofs.YtiihpnicbekebaaGreatDoor.Rk
