/- Part 3 of the proof (Ft, Mr, Ms, B1, B2, B3, B4, B5, B6, B7, E1, E2, E3, E4, E5, E6, E7, E8, E9, E10, M1, M2, M3, L1, M4, M5, M6, M7, M8, M9, M10, M11, M12, M13, M14, N1, N2, N3, N4, N7, N8, A1, Q1, Q3, R2, R3, Q4, Q6, H1, H2);no condition. -/
import Derived.Test.YtiihpnicbekebaaGreatDoorProg
import Derived.KernelRfl
import Derived.Laws.RangeAny
import Derived.Shelf.Strings.Cut
import Derived.Lib.IndexMore
import Derived.Test.YtiihpnicbekebaaGreatDoorCR2
set_option linter.unusedVariables false
set_option maxRecDepth 8000
set_option linter.unusedSimpArgs false
set_option maxHeartbeats 2000000
open Go.Proofs.YtiihpnicbekebaaGreatDoor.Sm.ABlk renaming live→qG
open Bool renaming and_eq_true→jX,eq_iff_iff→wP,false_eq_true→zZ,false_or→wF,not_false→jE,not_true→qN,or_false→zN,true_and→qZ
open Go.Proofs.Tryz renaming prog→jA
open Int renaming reduceBEq→qW,toNat_natCast→qM
open List renaming all_cons→wS,all_eq_true→zJ,any_eq_false→qQ,any_eq_true→qJ,append_assoc→zD,append_nil→jM,cons_append→zG,drop_eq_getElem_cons→zX,drop_eq_nil_of_le→jY,drop_zero→zI,findIdx?_eq_none_iff→wU,findIdx?_eq_some_iff_getElem→wR,foldl_cons→qU,getElem?_append_left→qH,getElem?_cons_zero→wQ,getElem?_eq_getElem→jO,getElem?_map→zB,getElem?_set→zU,getElem_mem→jH,length_append→jW,length_cons→zF,length_map→jI,length_take→jR,map_cons→jJ,map_map→qE,map_nil→jL,mem_append→zM,mem_cons→zO,mem_map→zQ,mem_of_getElem?→qB,nil_append→qI,replicate→zK,take_append_drop→wE,take_of_length_le→jK,take_succ_eq_append_getElem→jV,take_zero→qA
open Nat renaming add_zero→jT,le_of_ble_eq_true→jB,le_refl→jF,le_trans→qX,lt_or_ge→zA,mod_lt→wJ,reduceAdd→jP,reduceEqDiff→jC,zero_add→jG
open Option renaming getD_none→jQ,getD_some→jD
namespace Go.Proofs.YtiihpnicbekebaaGreatDoor.Sm
variable {E:Env} {f:FuncId} {fn:Func} {c:Code} {h:Hp} (G:Nat->AV )

theorem sz3:szO jA 3=some 1:=BC
theorem ag3:J9 jA 3=some false:=BC
theorem sz4:szO jA 4=some 1:=BC
theorem ag4:J9 jA 4=some false:=BC
theorem sz9:szO jA 9=some 1:=BC
theorem ag9:J9 jA 9=some false:=BC
theorem Z7:J9 jA 22=some false:=BC
theorem lQ:szO jA 23=some 1:=BC
theorem LU:J9 jA 23=some false:=BC
theorem APL:J9 jA 24=some false:=BC
theorem A0Z:szO jA 25=some 1:=BC
theorem Z5:J9 jA 25=some false:=BC
theorem cH:szO jA 27=some 5:=BC
theorem fU:J9 jA 27=some true:=BC
theorem kG:J9 jA 28=some false:=BC
theorem sD:J9 jA 29=some false:=BC
theorem A0Y:szO jA 31=some 2:=BC
theorem A6A:J9 jA 31=some true:=BC
theorem ACF:szO jA 32=some 1:=BC
theorem O4:J9 jA 32=some false:=BC
theorem yJ:szO jA 34=some 3:=BC
theorem A2Q:J9 jA 34=some true:=BC
theorem A0X:szO jA 38=some 1:=BC
theorem AUU:J9 jA 38=some false:=BC
theorem AQD:szO jA 46=some 4:=BC
theorem A59:J9 jA 46=some true:=BC
theorem GZ:szO jA 79=some 4:=BC
theorem NI:J9 jA 79=some true:=BC
theorem QQ:J9 jA 80=some false:=BC
theorem bI:szO jA 82=some 6:=BC
theorem kF:J9 jA 82=some true:=BC
theorem A24:szO jA 84=some 1:=BC
theorem TB:J9 jA 84=some false:=BC
theorem YG:J9 jA 85=some false:=BC
theorem dX:szO jA 87=some 4:=BC
theorem sC:J9 jA 87=some true:=BC
theorem yI:szO jA 90=some 3:=BC
theorem AJK:J9 jA 90=some true:=BC
theorem AQC:szO jA 94=some 1:=BC
theorem A8O:J9 jA 94=some true:=BC
theorem AQG:szO jA 100=some 1:=BC
theorem AGL:J9 jA 100=some false:=BC
theorem uF:szO jA 118=some 4:=BC
theorem A0M:J9 jA 118=some true:=BC
theorem AGK:J9 jA 120=some false:=BC
theorem AQF:szO jA 121=some 1:=BC
theorem xO:J9 jA 121=some false:=BC
theorem ACG:szO jA 131=some 4:=BC
theorem A0L:J9 jA 131=some true:=BC
theorem A6G:J9 jA 137=some false:=BC
theorem dY:szO jA 140=some 2:=BC
theorem AGJ:J9 jA 140=some true:=BC
theorem A26:szO jA 143=some 4:=BC
theorem J8:szO jA 145=some 2:=BC
theorem Z8:J9 jA 145=some true:=BC
theorem A25:szO jA 150=some 1:=BC
theorem A6F:J9 jA 150=some false:=BC
theorem AQE:szO jA 209=some 2:=BC
theorem A6E:J9 jA 209=some true:=BC
theorem sz230:szO jA 230=some 1:=BC
theorem ag230:J9 jA 230=some false:=BC
theorem AZO:szO jA 233=some 1:=BC
theorem A6D:J9 jA 233=some true:=BC
theorem AZN:szO jA 235=some 2:=BC
theorem A6C:J9 jA 235=some true:=BC
theorem AKA:szO jA 240=some 4:=BC
theorem A0K:J9 jA 240=some true:=BC
theorem AZM:szO jA 277=some 1:=BC
theorem A6B:J9 jA 277=some true:=BC
theorem be4:∀p q,IQ jA 4 .eql (.bool p) (.bool q)=some (.bool (p==q)):=fun p q=>AUE jA 4 p q BC
theorem ln9:∀s,KA jA 9 (.str s)=some (.int .i64 s.size):=AW8 (BC:Tryz.prog.underlying 9=some .string)
theorem bM:∀h a i,EY jA h 22 a i=JD 4 h a i:=GG (BC:Tryz.prog.underlying 22=some (.slice 131)) ACG
theorem A32:(∀m k xs,KA jA 22 (.sl m k xs)=some (.int .i64 xs.length))/\∀b off len,KA jA 22 (.own b off len)=some (.int .i64 len):=OM (BC:Tryz.prog.underlying 22=some (.slice 131))
theorem A62:Tryz.prog.underlying 22=some (.slice 131):=BC
theorem PU:∀h a i,EY jA h 23 a i=JD 4 h a i:=GG (BC:Tryz.prog.underlying 23=some (.slice 79)) GZ
theorem AAG:(∀m k xs,KA jA 23 (.sl m k xs)=some (.int .i64 xs.length))/\∀b off len,KA jA 23 (.own b off len)=some (.int .i64 len):=OM (BC:Tryz.prog.underlying 23=some (.slice 79))
theorem NJ:Tryz.prog.underlying 23=some (.slice 79):=BC
theorem QA:UZ jA 79=some 4:=BC
theorem P9:LQ jA 79=some 56:=BC
theorem AH7:∀h a i,EY jA h 24 a i=JD 2 h a i:=GG (BC:Tryz.prog.underlying 24=some (.slice 140)) dY
theorem A31:(∀m k xs,KA jA 24 (.sl m k xs)=some (.int .i64 xs.length))/\∀b off len,KA jA 24 (.own b off len)=some (.int .i64 len):=OM (BC:Tryz.prog.underlying 24=some (.slice 140))
theorem A61:Tryz.prog.underlying 24=some (.slice 140):=BC
theorem oR:∀h a i,EY jA h 25 a i=JD 1 h a i:=GG (BC:Tryz.prog.underlying 25=some (.slice 32)) ACF
theorem ARZ:(∀m k xs,KA jA 25 (.sl m k xs)=some (.int .i64 xs.length))/\∀b off len,KA jA 25 (.own b off len)=some (.int .i64 len):=OM (BC:Tryz.prog.underlying 25=some (.slice 32))
theorem ud25:Tryz.prog.underlying 25=some (.slice 32):=BC
theorem zs25:UZ jA 32=some 1:=BC
theorem by25:LQ jA 32=some 24:=BC
theorem iK:(∀b i j,BM jA 27 (.ptr b i j) 0=some (.ptr b i (j+0)))/\(∀k xs i j,BM jA 27 (.fptr k xs i j) 0=some (.fptr k xs i (j+0))):=G8 (BC:JW jA 27 0 0=true)
theorem dA:(∀b i j,BM jA 27 (.ptr b i j) 1=some (.ptr b i (j+1)))/\(∀k xs i j,BM jA 27 (.fptr k xs i j) 1=some (.fptr k xs i (j+1))):=G8 (BC:JW jA 27 1 1=true)
theorem pR:(∀b i j,BM jA 27 (.ptr b i j) 2=some (.ptr b i (j+2)))/\(∀k xs i j,BM jA 27 (.fptr k xs i j) 2=some (.fptr k xs i (j+2))):=G8 (BC:JW jA 27 2 2=true)
theorem AIM:(∀b i j,BM jA 27 (.ptr b i j) 3=some (.ptr b i (j+3)))/\(∀k xs i j,BM jA 27 (.fptr k xs i j) 3=some (.fptr k xs i (j+3))):=G8 (BC:JW jA 27 3 3=true)
theorem pQ:(∀b i j,BM jA 27 (.ptr b i j) 4=some (.ptr b i (j+4)))/\(∀k xs i j,BM jA 27 (.fptr k xs i j) 4=some (.fptr k xs i (j+4))):=G8 (BC:JW jA 27 4 4=true)
theorem UF:∀h a i,EY jA h 28 a i=JD 6 h a i:=GG (BC:Tryz.prog.underlying 28=some (.slice 82)) bI
theorem AN4:(∀m k xs,KA jA 28 (.sl m k xs)=some (.int .i64 xs.length))/\∀b off len,KA jA 28 (.own b off len)=some (.int .i64 len):=OM (BC:Tryz.prog.underlying 28=some (.slice 82))
theorem WI:∀h a i,EY jA h 29 a i=JD 3 h a i:=GG (BC:Tryz.prog.underlying 29=some (.slice 90)) yI
theorem ARY:(∀m k xs,KA jA 29 (.sl m k xs)=some (.int .i64 xs.length))/\∀b off len,KA jA 29 (.own b off len)=some (.int .i64 len):=OM (BC:Tryz.prog.underlying 29=some (.slice 90))
theorem LZ:(∀b i j,BM jA 31 (.ptr b i j) 0=some (.ptr b i (j+0)))/\(∀k xs i j,BM jA 31 (.fptr k xs i j) 0=some (.fptr k xs i (j+0))):=G8 (BC:JW jA 31 0 0=true)
theorem NW:(∀b i j,BM jA 31 (.ptr b i j) 1=some (.ptr b i (j+1)))/\(∀k xs i j,BM jA 31 (.fptr k xs i j) 1=some (.fptr k xs i (j+1))):=G8 (BC:JW jA 31 1 1=true)
theorem LJ:∀h a i,EY jA h 32 a i=JD 1 h a i:=GG (BC:Tryz.prog.underlying 32=some (.slice 3)) sz3
theorem YT:(∀m k xs,KA jA 32 (.sl m k xs)=some (.int .i64 xs.length))/\∀b off len,KA jA 32 (.own b off len)=some (.int .i64 len):=OM (BC:Tryz.prog.underlying 32=some (.slice 3))
theorem gH:Tryz.prog.underlying 32=some (.slice 3):=BC
theorem xY:UZ jA 3=some 1:=BC
theorem rM:LQ jA 3=some 8:=BC
theorem AIL:(∀b i j,BM jA 34 (.ptr b i j) 0=some (.ptr b i (j+0)))/\(∀k xs i j,BM jA 34 (.fptr k xs i j) 0=some (.fptr k xs i (j+0))):=G8 (BC:JW jA 34 0 0=true)
theorem WL:(∀b i j,BM jA 34 (.ptr b i j) 1=some (.ptr b i (j+1)))/\(∀k xs i j,BM jA 34 (.fptr k xs i j) 1=some (.fptr k xs i (j+1))):=G8 (BC:JW jA 34 1 1=true)
theorem VA:(∀b i j,BM jA 34 (.ptr b i j) 2=some (.ptr b i (j+2)))/\(∀k xs i j,BM jA 34 (.fptr k xs i j) 2=some (.fptr k xs i (j+2))):=G8 (BC:JW jA 34 2 2=true)
theorem AAX:(∀b i j,BM jA 46 (.ptr b i j) 0=some (.ptr b i (j+0)))/\(∀k xs i j,BM jA 46 (.fptr k xs i j) 0=some (.fptr k xs i (j+0))):=G8 (BC:JW jA 46 0 0=true)
theorem AIK:(∀b i j,BM jA 46 (.ptr b i j) 1=some (.ptr b i (j+1)))/\(∀k xs i j,BM jA 46 (.fptr k xs i j) 1=some (.fptr k xs i (j+1))):=G8 (BC:JW jA 46 1 1=true)
theorem A1Y:(∀b i j,BM jA 46 (.ptr b i j) 2=some (.ptr b i (j+2)))/\(∀k xs i j,BM jA 46 (.fptr k xs i j) 2=some (.fptr k xs i (j+2))):=G8 (BC:JW jA 46 2 2=true)
theorem A1X:(∀b i j,BM jA 46 (.ptr b i j) 3=some (.ptr b i (j+3)))/\(∀k xs i j,BM jA 46 (.fptr k xs i j) 3=some (.fptr k xs i (j+3))):=G8 (BC:JW jA 46 3 3=true)
theorem A4B:∀h a i,EY jA h 49 a i=JD 3 h a i:=GG (BC:Tryz.prog.underlying 49=some (.slice 34)) yJ
theorem ARX:(∀m k xs,KA jA 49 (.sl m k xs)=some (.int .i64 xs.length))/\∀b off len,KA jA 49 (.own b off len)=some (.int .i64 len):=OM (BC:Tryz.prog.underlying 49=some (.slice 34))
theorem AVS:Tryz.prog.underlying 49=some (.slice 34):=BC
theorem AVH:UZ jA 34=some 3:=BC
theorem A2J:LQ jA 34=some 40:=BC
theorem X6:(∀b i j,BM jA 79 (.ptr b i j) 0=some (.ptr b i (j+0)))/\(∀k xs i j,BM jA 79 (.fptr k xs i j) 0=some (.fptr k xs i (j+0))):=G8 (BC:JW jA 79 0 0=true)
theorem pP:(∀b i j,BM jA 79 (.ptr b i j) 1=some (.ptr b i (j+1)))/\(∀k xs i j,BM jA 79 (.fptr k xs i j) 1=some (.fptr k xs i (j+1))):=G8 (BC:JW jA 79 1 1=true)
theorem iJ:(∀b i j,BM jA 79 (.ptr b i j) 2=some (.ptr b i (j+2)))/\(∀k xs i j,BM jA 79 (.fptr k xs i j) 2=some (.fptr k xs i (j+2))):=G8 (BC:JW jA 79 2 2=true)
theorem UG:(∀b i j,BM jA 79 (.ptr b i j) 3=some (.ptr b i (j+3)))/\(∀k xs i j,BM jA 79 (.fptr k xs i j) 3=some (.fptr k xs i (j+3))):=G8 (BC:JW jA 79 3 3=true)
theorem ZL:∀h a i,EY jA h 80 a i=JD 4 h a i:=GG (BC:Tryz.prog.underlying 80=some (.slice 87)) dX
theorem eO:(∀m k xs,KA jA 80 (.sl m k xs)=some (.int .i64 xs.length))/\∀b off len,KA jA 80 (.own b off len)=some (.int .i64 len):=OM (BC:Tryz.prog.underlying 80=some (.slice 87))
theorem AAW:(∀b i j,BM jA 82 (.ptr b i j) 0=some (.ptr b i (j+0)))/\(∀k xs i j,BM jA 82 (.fptr k xs i j) 0=some (.fptr k xs i (j+0))):=G8 (BC:JW jA 82 0 0=true)
theorem cZ:(∀b i j,BM jA 82 (.ptr b i j) 1=some (.ptr b i (j+1)))/\(∀k xs i j,BM jA 82 (.fptr k xs i j) 1=some (.fptr k xs i (j+1))):=G8 (BC:JW jA 82 1 1=true)
theorem KX:(∀b i j,BM jA 82 (.ptr b i j) 2=some (.ptr b i (j+5)))/\(∀k xs i j,BM jA 82 (.fptr k xs i j) 2=some (.fptr k xs i (j+5))):=G8 (BC:JW jA 82 2 5=true)
theorem VI:∀h a i,EY jA h 84 a i=JD 2 h a i:=GG (BC:Tryz.prog.underlying 84=some (.slice 145)) J8
theorem ZJ:(∀m k xs,KA jA 84 (.sl m k xs)=some (.int .i64 xs.length))/\∀b off len,KA jA 84 (.own b off len)=some (.int .i64 len):=OM (BC:Tryz.prog.underlying 84=some (.slice 145))
theorem WB:Tryz.prog.underlying 84=some (.slice 145):=BC
theorem xX:UZ jA 145=some 2:=BC
theorem ABH:LQ jA 145=some 16:=BC
theorem tG:∀h a i,EY jA h 85 a i=JD 1 h a i:=GG (BC:Tryz.prog.underlying 85=some (.slice 84)) A24
theorem A30:(∀m k xs,KA jA 85 (.sl m k xs)=some (.int .i64 xs.length))/\∀b off len,KA jA 85 (.own b off len)=some (.int .i64 len):=OM (BC:Tryz.prog.underlying 85=some (.slice 84))
theorem AAV:(∀b i j,BM jA 87 (.ptr b i j) 0=some (.ptr b i (j+0)))/\(∀k xs i j,BM jA 87 (.fptr k xs i j) 0=some (.fptr k xs i (j+0))):=G8 (BC:JW jA 87 0 0=true)
theorem X5:(∀b i j,BM jA 87 (.ptr b i j) 1=some (.ptr b i (j+1)))/\(∀k xs i j,BM jA 87 (.fptr k xs i j) 1=some (.fptr k xs i (j+1))):=G8 (BC:JW jA 87 1 1=true)
theorem AIJ:(∀b i j,BM jA 87 (.ptr b i j) 2=some (.ptr b i (j+2)))/\(∀k xs i j,BM jA 87 (.fptr k xs i j) 2=some (.fptr k xs i (j+2))):=G8 (BC:JW jA 87 2 2=true)
theorem pO:(∀b i j,BM jA 87 (.ptr b i j) 3=some (.ptr b i (j+3)))/\(∀k xs i j,BM jA 87 (.fptr k xs i j) 3=some (.fptr k xs i (j+3))):=G8 (BC:JW jA 87 3 3=true)
theorem AAU:(∀b i j,BM jA 90 (.ptr b i j) 0=some (.ptr b i (j+0)))/\(∀k xs i j,BM jA 90 (.fptr k xs i j) 0=some (.fptr k xs i (j+0))):=G8 (BC:JW jA 90 0 0=true)
theorem NF:(∀b i j,BM jA 90 (.ptr b i j) 1=some (.ptr b i (j+1)))/\(∀k xs i j,BM jA 90 (.fptr k xs i j) 1=some (.fptr k xs i (j+1))):=G8 (BC:JW jA 90 1 1=true)
theorem iI:(∀b i j,BM jA 90 (.ptr b i j) 2=some (.ptr b i (j+2)))/\(∀k xs i j,BM jA 90 (.fptr k xs i j) 2=some (.fptr k xs i (j+2))):=G8 (BC:JW jA 90 2 2=true)
theorem AS6:(∀b i j,BM jA 94 (.ptr b i j) 0=some (.ptr b i (j+0)))/\(∀k xs i j,BM jA 94 (.fptr k xs i j) 0=some (.fptr k xs i (j+0))):=G8 (BC:JW jA 94 0 0=true)
theorem vH:∀h a i,EY jA h 100 a i=JD 1 h a i:=GG (BC:Tryz.prog.underlying 100=some (.slice 23)) lQ
theorem VR:(∀m k xs,KA jA 100 (.sl m k xs)=some (.int .i64 xs.length))/\∀b off len,KA jA 100 (.own b off len)=some (.int .i64 len):=OM (BC:Tryz.prog.underlying 100=some (.slice 23))
theorem kO:Tryz.prog.underlying 100=some (.slice 23):=BC
theorem mZ:UZ jA 23=some 1:=BC
theorem lH:LQ jA 23=some 24:=BC
theorem A4E:∀h a i,EY jA h 115 a i=JD 4 h a i:=GG (BC:Tryz.prog.underlying 115=some (.slice 118)) uF
theorem A34:(∀m k xs,KA jA 115 (.sl m k xs)=some (.int .i64 xs.length))/\∀b off len,KA jA 115 (.own b off len)=some (.int .i64 len):=OM (BC:Tryz.prog.underlying 115=some (.slice 118))
theorem AZL:Tryz.prog.underlying 115=some (.slice 118):=BC
theorem AZG:UZ jA 118=some 4:=BC
theorem A5D:LQ jA 118=some 48:=BC
theorem mP:(∀b i j,BM jA 118 (.ptr b i j) 0=some (.ptr b i (j+0)))/\(∀k xs i j,BM jA 118 (.fptr k xs i j) 0=some (.fptr k xs i (j+0))):=G8 (BC:JW jA 118 0 0=true)
theorem ALY:(∀b i j,BM jA 118 (.ptr b i j) 1=some (.ptr b i (j+3)))/\(∀k xs i j,BM jA 118 (.fptr k xs i j) 1=some (.fptr k xs i (j+3))):=G8 (BC:JW jA 118 1 3=true)
theorem vG:∀h a i,EY jA h 120 a i=JD 4 h a i:=GG (BC:Tryz.prog.underlying 120=some (.slice 240)) AKA
theorem vB:(∀m k xs,KA jA 120 (.sl m k xs)=some (.int .i64 xs.length))/\∀b off len,KA jA 120 (.own b off len)=some (.int .i64 len):=OM (BC:Tryz.prog.underlying 120=some (.slice 240))
theorem bY:∀h a i,EY jA h 121 a i=JD 1 h a i:=GG (BC:Tryz.prog.underlying 121=some (.slice 9)) sz9
theorem AZW:(∀m k xs,KA jA 121 (.sl m k xs)=some (.int .i64 xs.length))/\∀b off len,KA jA 121 (.own b off len)=some (.int .i64 len):=OM (BC:Tryz.prog.underlying 121=some (.slice 9))
theorem AP7:Tryz.prog.underlying 121=some (.slice 9):=BC
theorem APU:UZ jA 9=some 1:=BC
theorem ATY:LQ jA 9=some 16:=BC
theorem VV:(∀b i j,BM jA 131 (.ptr b i j) 0=some (.ptr b i (j+0)))/\(∀k xs i j,BM jA 131 (.fptr k xs i j) 0=some (.fptr k xs i (j+0))):=G8 (BC:JW jA 131 0 0=true)
theorem VU:(∀b i j,BM jA 131 (.ptr b i j) 1=some (.ptr b i (j+1)))/\(∀k xs i j,BM jA 131 (.fptr k xs i j) 1=some (.fptr k xs i (j+1))):=G8 (BC:JW jA 131 1 1=true)
theorem X8:(∀b i j,BM jA 131 (.ptr b i j) 2=some (.ptr b i (j+2)))/\(∀k xs i j,BM jA 131 (.fptr k xs i j) 2=some (.fptr k xs i (j+2))):=G8 (BC:JW jA 131 2 2=true)
theorem aZ:(∀b i j,BM jA 131 (.ptr b i j) 3=some (.ptr b i (j+3)))/\(∀k xs i j,BM jA 131 (.fptr k xs i j) 3=some (.fptr k xs i (j+3))):=G8 (BC:JW jA 131 3 3=true)
theorem ALC:∀h a i,EY jA h 137 a i=JD 2 h a i:=GG (BC:Tryz.prog.underlying 137=some (.slice 209)) AQE
theorem AZV:(∀m k xs,KA jA 137 (.sl m k xs)=some (.int .i64 xs.length))/\∀b off len,KA jA 137 (.own b off len)=some (.int .i64 len):=OM (BC:Tryz.prog.underlying 137=some (.slice 209))
theorem AZK:Tryz.prog.underlying 137=some (.slice 209):=BC
theorem AZF:UZ jA 209=some 2:=BC
theorem A0D:LQ jA 209=some 24:=BC
theorem mO:(∀b i j,BM jA 140 (.ptr b i j) 0=some (.ptr b i (j+0)))/\(∀k xs i j,BM jA 140 (.fptr k xs i j) 0=some (.fptr k xs i (j+0))):=G8 (BC:JW jA 140 0 0=true)
theorem AA2:(∀b i j,BM jA 140 (.ptr b i j) 1=some (.ptr b i (j+1)))/\(∀k xs i j,BM jA 140 (.fptr k xs i j) 1=some (.fptr k xs i (j+1))):=G8 (BC:JW jA 140 1 1=true)
theorem QI:(∀b i j,BM jA 145 (.ptr b i j) 0=some (.ptr b i (j+0)))/\(∀k xs i j,BM jA 145 (.fptr k xs i j) 0=some (.fptr k xs i (j+0))):=G8 (BC:JW jA 145 0 0=true)
theorem QH:(∀b i j,BM jA 145 (.ptr b i j) 1=some (.ptr b i (j+1)))/\(∀k xs i j,BM jA 145 (.fptr k xs i j) 1=some (.fptr k xs i (j+1))):=G8 (BC:JW jA 145 1 1=true)
theorem AEA:∀h a i,EY jA h 159 a i=JD 1 h a i:=GG (BC:Tryz.prog.underlying 159=some (.slice 100)) AQG
theorem AK5:(∀m k xs,KA jA 159 (.sl m k xs)=some (.int .i64 xs.length))/\∀b off len,KA jA 159 (.own b off len)=some (.int .i64 len):=OM (BC:Tryz.prog.underlying 159=some (.slice 100))
theorem AZJ:Tryz.prog.underlying 159=some (.slice 100):=BC
theorem AZE:UZ jA 100=some 1:=BC
theorem A0C:LQ jA 100=some 24:=BC
theorem ALX:(∀b i j,BM jA 209 (.ptr b i j) 0=some (.ptr b i (j+0)))/\(∀k xs i j,BM jA 209 (.fptr k xs i j) 0=some (.fptr k xs i (j+0))):=G8 (BC:JW jA 209 0 0=true)
theorem AA1:(∀b i j,BM jA 209 (.ptr b i j) 1=some (.ptr b i (j+1)))/\(∀k xs i j,BM jA 209 (.fptr k xs i j) 1=some (.fptr k xs i (j+1))):=G8 (BC:JW jA 209 1 1=true)
theorem A4C:∀h a i,EY jA h 212 a i=JD 1 h a i:=GG (BC:Tryz.prog.underlying 212=some (.slice 150)) A25
theorem A33:(∀m k xs,KA jA 212 (.sl m k xs)=some (.int .i64 xs.length))/\∀b off len,KA jA 212 (.own b off len)=some (.int .i64 len):=OM (BC:Tryz.prog.underlying 212=some (.slice 150))
theorem ASB:∀h a i,EY jA h 221 a i=JD 1 h a i:=GG (BC:Tryz.prog.underlying 221=some (.slice 4)) sz4
theorem A23:Tryz.prog.underlying 221=some (.slice 4):=BC
theorem A5C:LQ jA 4=some 1:=BC
theorem ALW:(∀b i j,BM jA 233 (.ptr b i j) 0=some (.ptr b i (j+0)))/\(∀k xs i j,BM jA 233 (.fptr k xs i j) 0=some (.fptr k xs i (j+0))):=G8 (BC:JW jA 233 0 0=true)
theorem ALV:(∀b i j,BM jA 235 (.ptr b i j) 0=some (.ptr b i (j+0)))/\(∀k xs i j,BM jA 235 (.fptr k xs i j) 0=some (.fptr k xs i (j+0))):=G8 (BC:JW jA 235 0 0=true)
theorem ALU:(∀b i j,BM jA 235 (.ptr b i j) 1=some (.ptr b i (j+1)))/\(∀k xs i j,BM jA 235 (.fptr k xs i j) 1=some (.fptr k xs i (j+1))):=G8 (BC:JW jA 235 1 1=true)
theorem fF:(∀b i j,BM jA 240 (.ptr b i j) 0=some (.ptr b i (j+0)))/\(∀k xs i j,BM jA 240 (.fptr k xs i j) 0=some (.fptr k xs i (j+0))):=G8 (BC:JW jA 240 0 0=true)
theorem mN:(∀b i j,BM jA 240 (.ptr b i j) 1=some (.ptr b i (j+1)))/\(∀k xs i j,BM jA 240 (.fptr k xs i j) 1=some (.fptr k xs i (j+1))):=G8 (BC:JW jA 240 1 1=true)
theorem aY:(∀b i j,BM jA 240 (.ptr b i j) 2=some (.ptr b i (j+2)))/\(∀k xs i j,BM jA 240 (.fptr k xs i j) 2=some (.fptr k xs i (j+2))):=G8 (BC:JW jA 240 2 2=true)
theorem AA0:(∀b i j,BM jA 249 (.ptr b i j) 0=some (.ptr b i (j+0)))/\(∀k xs i j,BM jA 249 (.fptr k xs i j) 0=some (.fptr k xs i (j+0))):=G8 (BC:JW jA 249 0 0=true)
theorem AXS:(∀b i j,BM jA 249 (.ptr b i j) 1=some (.ptr b i (j+5)))/\(∀k xs i j,BM jA 249 (.fptr k xs i j) 1=some (.fptr k xs i (j+5))):=G8 (BC:JW jA 249 1 5=true)
theorem X7:(∀b i j,BM jA 249 (.ptr b i j) 2=some (.ptr b i (j+6)))/\(∀k xs i j,BM jA 249 (.fptr k xs i j) 2=some (.fptr k xs i (j+6))):=G8 (BC:JW jA 249 2 6=true)
theorem mM:(∀b i j,BM jA 249 (.ptr b i j) 3=some (.ptr b i (j+7)))/\(∀k xs i j,BM jA 249 (.fptr k xs i j) 3=some (.fptr k xs i (j+7))):=G8 (BC:JW jA 249 3 7=true)
theorem AXR:(∀b i j,BM jA 249 (.ptr b i j) 4=some (.ptr b i (j+8)))/\(∀k xs i j,BM jA 249 (.fptr k xs i j) 4=some (.fptr k xs i (j+8))):=G8 (BC:JW jA 249 4 8=true)
theorem ALT:(∀b i j,BM jA 263 (.ptr b i j) 0=some (.ptr b i (j+0)))/\(∀k xs i j,BM jA 263 (.fptr k xs i j) 0=some (.fptr k xs i (j+0))):=G8 (BC:JW jA 263 0 0=true)
theorem AAZ:(∀b i j,BM jA 263 (.ptr b i j) 1=some (.ptr b i (j+1)))/\(∀k xs i j,BM jA 263 (.fptr k xs i j) 1=some (.fptr k xs i (j+1))):=G8 (BC:JW jA 263 1 1=true)
theorem fE:(∀b i j,BM jA 263 (.ptr b i j) 2=some (.ptr b i (j+2)))/\(∀k xs i j,BM jA 263 (.fptr k xs i j) 2=some (.fptr k xs i (j+2))):=G8 (BC:JW jA 263 2 2=true)
theorem ALS:(∀b i j,BM jA 263 (.ptr b i j) 3=some (.ptr b i (j+3)))/\(∀k xs i j,BM jA 263 (.fptr k xs i j) 3=some (.fptr k xs i (j+3))):=G8 (BC:JW jA 263 3 3=true)
theorem AAY:(∀b i j,BM jA 263 (.ptr b i j) 4=some (.ptr b i (j+4)))/\(∀k xs i j,BM jA 263 (.fptr k xs i j) 4=some (.fptr k xs i (j+4))):=G8 (BC:JW jA 263 4 4=true)
theorem AXQ:(∀b i j,BM jA 277 (.ptr b i j) 0=some (.ptr b i (j+0)))/\(∀k xs i j,BM jA 277 (.fptr k xs i j) 0=some (.fptr k xs i (j+0))):=G8 (BC:JW jA 277 0 0=true)
theorem ATO:∀n,YP jA 3 5 (.int .i64 n)=some (.int .u8 (IntKind.u8.wrap n)):=fun n=>fN (ds:=.int .i64) jA .i64 n BC BC
theorem AX0:∀n,YP jA 3 348 (.int .i64 n)=some (.int .u16 (IntKind.u16.wrap n)):=fun n=>fN (ds:=.int .i64) jA .i64 n BC BC
theorem ATN:∀n,YP jA 5 3 (.int .u8 n)=some (.int .i64 (IntKind.i64.wrap n)):=fun n=>fN (ds:=.int .u8) jA .u8 n BC BC
theorem AX1:∀n,YP jA 348 3 (.int .u16 n)=some (.int .i64 (IntKind.i64.wrap n)):=fun n=>fN (ds:=.int .u16) jA .u16 n BC BC
noncomputable def En (G:Nat->AV):Env:=⟨jA,G,none,fun _ _=>False⟩
theorem enP:(En G).P=jA:=rfl
theorem enX:(En G).nox=En G:=rfl
theorem enG:(En G).G=G:=rfl
theorem enM:(En G).P.follows .mixedOrders=true:=BC

abbrev AV.n (z:Int):AV:=.int .i64 z
theorem Mr_L:type_of% (cj @A8 (cj @jD.{0} (cj @BG (cj @BD (cj @jE (cj @BV (cj @CB (cj @BJ (cj @BF (cj @BU (cj @BP (cj @CV (cj @BN (cj @AA (cj @enP (cj @BZ (cj @BX (cj @CX (cj @CY (cj @DI (cj @DZ (cj @BQ (cj @DK (cj @FC (cj @ER (cj @MK (cj @D9 (cj @CG (cj @jL.{0,0} (cj @jJ.{0,0} (cj @jM.{0} (cj @EM (cj @BI (cj @EE (cj @EF (cj @FD (cj @DY (cj @CE (cj @LV (cj @FY (cj @jG (cj @CU (cj @IZ (cj @ES (cj @GL (cj @L9 (cj @AL (cj @KF (cj @G6 (cj @GR (cj @FP (cj @MI (cj @rO (cj @GM (cj @RP (cj @VF (cj @jT (cj @cM (cj @KR (cj @kR (cj @KG (cj @EJ (cj @jQ.{0} (cj @D6 (cj @enX (cj @CZ (cj @JO (cj @E8 (cj @FB (cj @JR (cj @U0 (cj @AKL (cj @F6 (cj @ED (cj @IV (cj @zN (cj @nA (cj @IX (cj @WA (cj @GK (cj @fZ (cj @HY (cj @FN (cj @qN (cj @WO (cj @FX (cj @EX (cj @JY (cj @EU (cj @zZ (cj @UL (cj @LJ (cj @A3Z (cj @D5 (cj @JQ (cj @YT (cj @PO (cj @ND (cj @DV (cj @JI (cj @wQ.{0} (cj @VX (cj @List.getElem?_cons_succ.{0} (cj @pT (cj @J4 (cj @AW6 (cj @fY (cj @X6 (cj @NS (cj @JA (cj @KP (cj @MS (cj @MN (cj @LZ (cj @MR (cj @Q3 (cj @iZ (cj @KQ (cj @KX (cj @UG (cj @NW (cj @AAG (cj @iJ (cj @PU (cj @ZJ (cj @NF (cj @oR (cj @qI.{0} (cj @bG (cj @JE (cj @eK (cj @XO (cj @UF (cj @iK (cj @QZ (cj @AN4 (cj @QK (cj @eO (cj @SI (cj @WI (cj @JF (cj @bM (cj @ATD (cj @APP (cj @YQ (cj @WL (cj @A32 (cj @VU (cj @VI (cj @UM (cj @ARY (cj @ARS (cj @aB (cj @ZL (cj @ARZ (cj @QF (cj @aD (cj @VA (cj @A30 (cj @X5 (cj @QH (cj @pO (cj @YF (cj @X8 (cj @AU9 (cj @VV (cj @QI (cj @YY (cj @AIJ (cj @pP (cj @AIK (cj @vH (cj @AJ1 (cj @AJ0 (cj @AAE (cj @AAX (cj @fF (cj @AA2 (cj @AZW (cj @xV (cj @iI (cj @AU7 (cj @AH7 (cj @VR (cj @A0R (cj @AIL (cj @ln9 (cj @mN (cj @tG (cj @XM (cj @cZ (cj @AIM (cj @XN (cj @ARX (cj @bY (cj @yA (cj @A31 (cj @aZ (cj @mO (@jI.{0,0})))))))))))))))))))))))))))))))))))))))))))))))))))))))))))))))))))))))))))))))))))))))))))))))))))))))))))))))))))))))))))))))))))))))))))))))))))))))))))))))))))))))))))))))))))))))))))))))))))))))):=And.intro @A8 (cj @jD.{0} (cj @BG (cj @BD (cj @jE (cj @BV (cj @CB (cj @BJ (cj @BF (cj @BU (cj @BP (cj @CV (cj @BN (cj @AA (cj @enP (cj @BZ (cj @BX (cj @CX (cj @CY (cj @DI (cj @DZ (cj @BQ (cj @DK (cj @FC (cj @ER (cj @MK (cj @D9 (cj @CG (cj @jL.{0,0} (cj @jJ.{0,0} (cj @jM.{0} (cj @EM (cj @BI (cj @EE (cj @EF (cj @FD (cj @DY (cj @CE (cj @LV (cj @FY (cj @jG (cj @CU (cj @IZ (cj @ES (cj @GL (cj @L9 (cj @AL (cj @KF (cj @G6 (cj @GR (cj @FP (cj @MI (cj @rO (cj @GM (cj @RP (cj @VF (cj @jT (cj @cM (cj @KR (cj @kR (cj @KG (cj @EJ (cj @jQ.{0} (cj @D6 (cj @enX (cj @CZ (cj @JO (cj @E8 (cj @FB (cj @JR (cj @U0 (cj @AKL (cj @F6 (cj @ED (cj @IV (cj @zN (cj @nA (cj @IX (cj @WA (cj @GK (cj @fZ (cj @HY (cj @FN (cj @qN (cj @WO (cj @FX (cj @EX (cj @JY (cj @EU (cj @zZ (cj @UL (cj @LJ (cj @A3Z (cj @D5 (cj @JQ (cj @YT (cj @PO (cj @ND (cj @DV (cj @JI (cj @wQ.{0} (cj @VX (cj @List.getElem?_cons_succ.{0} (cj @pT (cj @J4 (cj @AW6 (cj @fY (cj @X6 (cj @NS (cj @JA (cj @KP (cj @MS (cj @MN (cj @LZ (cj @MR (cj @Q3 (cj @iZ (cj @KQ (cj @KX (cj @UG (cj @NW (cj @AAG (cj @iJ (cj @PU (cj @ZJ (cj @NF (cj @oR (cj @qI.{0} (cj @bG (cj @JE (cj @eK (cj @XO (cj @UF (cj @iK (cj @QZ (cj @AN4 (cj @QK (cj @eO (cj @SI (cj @WI (cj @JF (cj @bM (cj @ATD (cj @APP (cj @YQ (cj @WL (cj @A32 (cj @VU (cj @VI (cj @UM (cj @ARY (cj @ARS (cj @aB (cj @ZL (cj @ARZ (cj @QF (cj @aD (cj @VA (cj @A30 (cj @X5 (cj @QH (cj @pO (cj @YF (cj @X8 (cj @AU9 (cj @VV (cj @QI (cj @YY (cj @AIJ (cj @pP (cj @AIK (cj @vH (cj @AJ1 (cj @AJ0 (cj @AAE (cj @AAX (cj @fF (cj @AA2 (cj @AZW (cj @xV (cj @iI (cj @AU7 (cj @AH7 (cj @VR (cj @A0R (cj @AIL (cj @ln9 (cj @mN (cj @tG (cj @XM (cj @cZ (cj @AIM (cj @XN (cj @ARX (cj @bY (cj @yA (cj @A31 (cj @aZ (cj @mO (@jI.{0,0})))))))))))))))))))))))))))))))))))))))))))))))))))))))))))))))))))))))))))))))))))))))))))))))))))))))))))))))))))))))))))))))))))))))))))))))))))))))))))))))))))))))))))))))))))))))))))))))))))))))
theorem acN {args:List AV}{R:AV->Hp->Prop}(hf:E.P.funcs[f]?=some fn)(hb:fn.body=some c)(hw:awp E Hint.none c (PX args) h (ML E.P fn.results.toList R))(h0:E.P.follows .mixedOrders=true:=by kernel_rfl)(h1:(fn.name == "runtime.NumGoroutine")=false:=by kernel_rfl)(h2:UA fn.ntmps c=true:=by kernel_rfl)(h3:Nat.ble args.length fn.ntmps=true:=by kernel_rfl):ACalls E f args h R:=IK h0 hf hb h1 h2 (Nat.le_of_ble_eq_true h3) hw
theorem acT {args:List AV}{R:AV->Hp->Prop}(hf:E.P.funcs[f]?=some fn)(r:Nat)(hw:awp E Hint.none c (PX args) h (ML E.P [.tmp r] R))(hb:fn.body=some c:=by rfl)(hr:fn.results.toList=[.tmp r]:=by rfl)(h0:E.P.follows .mixedOrders=true:=by kernel_rfl)(h1:(fn.name == "runtime.NumGoroutine")=false:=by kernel_rfl)(h2:UA fn.ntmps c=true:=by kernel_rfl)(h3:Nat.ble args.length fn.ntmps=true:=by kernel_rfl):ACalls E f args h R:=acN hf hb (by rw[hr]; exact hw) h0 h1 h2 h3
theorem acL {args:List AV}{R:AV->Hp->Prop}(hf:E.P.funcs[f]?=some fn)(r:List ResultVar)(hw:awp E Hint.none c (PX args) h (ML E.P r R))(hb:fn.body=some c:=by rfl)(hr:fn.results.toList=r:=by rfl)(h0:E.P.follows .mixedOrders=true:=by kernel_rfl)(h1:(fn.name == "runtime.NumGoroutine")=false:=by kernel_rfl)(h2:UA fn.ntmps c=true:=by kernel_rfl)(h3:Nat.ble args.length fn.ntmps=true:=by kernel_rfl):ACalls E f args h R:=acN hf hb (by rw[hr]; exact hw) h0 h1 h2 h3
end Go.Proofs.YtiihpnicbekebaaGreatDoor.Sm
namespace Go.Proofs.YtiihpnicbekebaaGreatDoor
open Sm
variable {a b c d p q:Prop}
theorem C9 (i:Nat)(h:i<9223372036854775807:=by omega):Go.IntKind.i64.wrap ((i:Int)+1)=((i+1:Nat):Int):=Sm.wrap_succ h
theorem AB (hp:p)(h:p->q:=by intro z;simp only[Sm.Mr_L,CQ,EP,List.contains_nil,GI,List.contains_cons,List.cons_append,Option.map_some,Option.map_none,Bool.or_true,Bool.true_or,↓reduceIte,Nat.reduceEqDiff,Nat.reduceBEq,Nat.reduceAdd];exact z):q:=h hp
theorem AO (h:q:=by simp only[Sm.Mr_L,CQ,EP,List.contains_nil,GI,List.contains_cons,List.cons_append,Option.map_some,Option.map_none,Bool.or_true,Bool.true_or,↓reduceIte,Nat.reduceEqDiff,Nat.reduceBEq,Nat.reduceAdd]<;>rfl):q:=h
theorem AY (y:a)(hp:p)(h:a->p->q:=by intro y z;simp only[Sm.Mr_L,CQ,EP,List.contains_nil,GI,List.contains_cons,List.cons_append,Option.map_some,Option.map_none,Bool.or_true,Bool.true_or,↓reduceIte,Nat.reduceEqDiff,Nat.reduceBEq,Nat.reduceAdd,y];exact z):q:=h y hp
theorem D7 (y:a)(h:a->q:=by intro y;simp only[Sm.Mr_L,CQ,EP,List.contains_nil,GI,List.contains_cons,List.cons_append,Option.map_some,Option.map_none,Bool.or_true,Bool.true_or,↓reduceIte,Nat.reduceEqDiff,Nat.reduceBEq,Nat.reduceAdd,y]<;>rfl):q:=h y
theorem A7 (y:a)(x:b)(hp:p)(h:a->b->p->q:=by intro y x z;simp only[Sm.Mr_L,CQ,EP,List.contains_nil,GI,List.contains_cons,List.cons_append,Option.map_some,Option.map_none,Bool.or_true,Bool.true_or,↓reduceIte,Nat.reduceEqDiff,Nat.reduceBEq,Nat.reduceAdd,y,x];exact z):q:=h y x hp
theorem A6M (y:a)(x:b)(h:a->b->q:=by intro y x;simp only[Sm.Mr_L,CQ,EP,List.contains_nil,GI,List.contains_cons,List.cons_append,Option.map_some,Option.map_none,Bool.or_true,Bool.true_or,↓reduceIte,Nat.reduceEqDiff,Nat.reduceBEq,Nat.reduceAdd,y,x]<;>rfl):q:=h y x
theorem DC (y:a)(x:b)(w:c)(hp:p)(h:a->b->c->p->q:=by intro y x w z;simp only[Sm.Mr_L,CQ,EP,List.contains_nil,GI,List.contains_cons,List.cons_append,Option.map_some,Option.map_none,Bool.or_true,Bool.true_or,↓reduceIte,Nat.reduceEqDiff,Nat.reduceBEq,Nat.reduceAdd,y,x,w];exact z):q:=h y x w hp
theorem EG (y:a)(x:b)(w:c)(v:d)(hp:p)(h:a->b->c->d->p->q:=by intro y x w v z;simp only[Sm.Mr_L,CQ,EP,List.contains_nil,GI,List.contains_cons,List.cons_append,Option.map_some,Option.map_none,Bool.or_true,Bool.true_or,↓reduceIte,Nat.reduceEqDiff,Nat.reduceBEq,Nat.reduceAdd,y,x,w,v];exact z):q:=h y x w v hp
theorem H7 {e:Prop}(y:a)(x:b)(w:c)(v:d)(u:e)(hp:p)(h:a->b->c->d->e->p->q:=by intro y x w v u z;simp only[Sm.Mr_L,CQ,EP,List.contains_nil,GI,List.contains_cons,List.cons_append,Option.map_some,Option.map_none,Bool.or_true,Bool.true_or,↓reduceIte,Nat.reduceEqDiff,Nat.reduceBEq,Nat.reduceAdd,y,x,w,v,u];exact z):q:=h y x w v u hp
theorem KO {e f:Prop}(y:a)(x:b)(w:c)(v:d)(u:e)(t:f)(hp:p)(h:a->b->c->d->e->f->p->q:=by intro y x w v u t z;simp only[Sm.Mr_L,CQ,EP,List.contains_nil,GI,List.contains_cons,List.cons_append,Option.map_some,Option.map_none,Bool.or_true,Bool.true_or,↓reduceIte,Nat.reduceEqDiff,Nat.reduceBEq,Nat.reduceAdd,y,x,w,v,u,t];exact z):q:=h y x w v u t hp
theorem Sm.ext.r1 (h:Hp)(x:ABlk):Sm.ext h (h++[x]):=(ext.rfl' h).app _
theorem Sm.PCall.uu {E:Env}{f:FuncId}{args:List AV}{h:Hp}{r:AV}{K:AV->Hp->Prop}(hc:PCall E f args h r)(hp:p)(hk:p->K r h:=by intro z;simp only[Sm.Mr_L,CQ,EP,List.contains_nil,GI,List.contains_cons,List.cons_append,Option.map_some,Option.map_none,Bool.or_true,Bool.true_or,↓reduceIte,Nat.reduceEqDiff,Nat.reduceBEq,Nat.reduceAdd];exact z):ACalls E f args h K:=hc.use (hk hp)
end Go.Proofs.YtiihpnicbekebaaGreatDoor
namespace Go.Proofs.YtiihpnicbekebaaGreatDoor
open Sm
variable {a a1 b b1 c c1 d e f p q:Prop}
theorem P6 (hp:p)(h:p->q:=by intro z;simp only[Sm.Mr_L,CQ,EP,List.contains_nil,GI,List.contains_cons,List.cons_append,Option.map_some,Option.map_none,Bool.or_true,Bool.true_or,CP,BR,EI,ag3,ag9,QQ,TB,YG,LU,List.length_nil,↓reduceIte,Nat.reduceEqDiff,Nat.reduceBEq,Nat.reduceAdd,Int.reduceBEq];exact z):q:=h hp
theorem UK (y:a)(hp:p)(h:a->p->q:=by intro y z;simp only[Sm.Mr_L,CQ,EP,List.contains_nil,GI,List.contains_cons,List.cons_append,Option.map_some,Option.map_none,Bool.or_true,Bool.true_or,CP,BR,EI,ag3,ag9,QQ,TB,YG,LU,List.length_nil,↓reduceIte,Nat.reduceEqDiff,Nat.reduceBEq,Nat.reduceAdd,Int.reduceBEq,y];exact z):q:=h y hp
theorem LD (y:a)(x:b)(hp:p)(h:a->b->p->q:=by intro y x z;simp only[Sm.Mr_L,CQ,EP,List.contains_nil,GI,List.contains_cons,List.cons_append,Option.map_some,Option.map_none,Bool.or_true,Bool.true_or,CP,BR,EI,ag3,ag9,QQ,TB,YG,LU,List.length_nil,↓reduceIte,Nat.reduceEqDiff,Nat.reduceBEq,Nat.reduceAdd,Int.reduceBEq,y,x];exact z):q:=h y x hp
theorem LC (y:a)(x:b)(w:c)(hp:p)(h:a->b->c->p->q:=by intro y x w z;simp only[Sm.Mr_L,CQ,EP,List.contains_nil,GI,List.contains_cons,List.cons_append,Option.map_some,Option.map_none,Bool.or_true,Bool.true_or,CP,BR,EI,ag3,ag9,QQ,TB,YG,LU,List.length_nil,↓reduceIte,Nat.reduceEqDiff,Nat.reduceBEq,Nat.reduceAdd,Int.reduceBEq,y,x,w];exact z):q:=h y x w hp
theorem OH (y:a)(x:b)(w:c)(v:d)(hp:p)(h:a->b->c->d->p->q:=by intro y x w v z;simp only[Sm.Mr_L,CQ,EP,List.contains_nil,GI,List.contains_cons,List.cons_append,Option.map_some,Option.map_none,Bool.or_true,Bool.true_or,CP,BR,EI,ag3,ag9,QQ,TB,YG,LU,List.length_nil,↓reduceIte,Nat.reduceEqDiff,Nat.reduceBEq,Nat.reduceAdd,Int.reduceBEq,y,x,w,v];exact z):q:=h y x w v hp
theorem Z9 (y:a)(x:b)(w:c)(v:d)(u:e)(hp:p)(h:a->b->c->d->e->p->q:=by intro y x w v u z;simp only[Sm.Mr_L,CQ,EP,List.contains_nil,GI,List.contains_cons,List.cons_append,Option.map_some,Option.map_none,Bool.or_true,Bool.true_or,CP,BR,EI,ag3,ag9,QQ,TB,YG,LU,List.length_nil,↓reduceIte,Nat.reduceEqDiff,Nat.reduceBEq,Nat.reduceAdd,Int.reduceBEq,y,x,w,v,u];exact z):q:=h y x w v u hp
theorem V8 (y:a)(x:b)(w:c)(v:d)(u:e)(t:f)(hp:p)(h:a->b->c->d->e->f->p->q:=by intro y x w v u t z;simp only[Sm.Mr_L,CQ,EP,List.contains_nil,GI,List.contains_cons,List.cons_append,Option.map_some,Option.map_none,Bool.or_true,Bool.true_or,CP,BR,EI,ag3,ag9,QQ,TB,YG,LU,List.length_nil,↓reduceIte,Nat.reduceEqDiff,Nat.reduceBEq,Nat.reduceAdd,Int.reduceBEq,y,x,w,v,u,t];exact z):q:=h y x w v u t hp
theorem KZ (y:a)(x:b)(w:c)(v:d)(u:e)(t:f)(s:a1)(hp:p)(h:a->b->c->d->e->f->a1->p->q:=by intro y x w v u t s z;simp only[Sm.Mr_L,CQ,EP,List.contains_nil,GI,List.contains_cons,List.cons_append,Option.map_some,Option.map_none,Bool.or_true,Bool.true_or,CP,BR,EI,ag3,ag9,QQ,TB,YG,LU,List.length_nil,↓reduceIte,Nat.reduceEqDiff,Nat.reduceBEq,Nat.reduceAdd,Int.reduceBEq,y,x,w,v,u,t,s];exact z):q:=h y x w v u t s hp
theorem OZ (y:a)(x:b)(w:c)(v:d)(u:e)(t:f)(s:a1)(r:b1)(hp:p)(h:a->b->c->d->e->f->a1->b1->p->q:=by intro y x w v u t s r z;simp only[Sm.Mr_L,CQ,EP,List.contains_nil,GI,List.contains_cons,List.cons_append,Option.map_some,Option.map_none,Bool.or_true,Bool.true_or,CP,BR,EI,ag3,ag9,QQ,TB,YG,LU,List.length_nil,↓reduceIte,Nat.reduceEqDiff,Nat.reduceBEq,Nat.reduceAdd,Int.reduceBEq,y,x,w,v,u,t,s,r];exact z):q:=h y x w v u t s r hp
theorem V7 (y:a)(x:b)(w:c)(v:d)(u:e)(t:f)(s:a1)(r:b1)(o:c1)(hp:p)(h:a->b->c->d->e->f->a1->b1->c1->p->q:=by intro y x w v u t s r o z;simp only[Sm.Mr_L,CQ,EP,List.contains_nil,GI,List.contains_cons,List.cons_append,Option.map_some,Option.map_none,Bool.or_true,Bool.true_or,CP,BR,EI,ag3,ag9,QQ,TB,YG,LU,List.length_nil,↓reduceIte,Nat.reduceEqDiff,Nat.reduceBEq,Nat.reduceAdd,Int.reduceBEq,y,x,w,v,u,t,s,r,o];exact z):q:=h y x w v u t s r o hp
theorem aA {d1:Prop}(y:a)(x:b)(w:c)(v:d)(u:e)(t:f)(s:a1)(r:b1)(o:c1)(n:d1)(hp:p)(h:a->b->c->d->e->f->a1->b1->c1->d1->p->q:=by intro y x w v u t s r o n z;simp only[Sm.Mr_L,CQ,EP,List.contains_nil,GI,List.contains_cons,List.cons_append,Option.map_some,Option.map_none,Bool.or_true,Bool.true_or,CP,BR,EI,ag3,ag9,QQ,TB,YG,LU,List.length_nil,↓reduceIte,Nat.reduceEqDiff,Nat.reduceBEq,Nat.reduceAdd,Int.reduceBEq,y,x,w,v,u,t,s,r,o,n];exact z):q:=h y x w v u t s r o n hp
theorem WP {d1 e1:Prop}(y:a)(x:b)(w:c)(v:d)(u:e)(t:f)(s:a1)(r:b1)(o:c1)(n:d1)(m:e1)(hp:p)(h:a->b->c->d->e->f->a1->b1->c1->d1->e1->p->q:=by intro y x w v u t s r o n m z;simp only[Sm.Mr_L,CQ,EP,List.contains_nil,GI,List.contains_cons,List.cons_append,Option.map_some,Option.map_none,Bool.or_true,Bool.true_or,CP,BR,EI,ag3,ag9,QQ,TB,YG,LU,List.length_nil,↓reduceIte,Nat.reduceEqDiff,Nat.reduceBEq,Nat.reduceAdd,Int.reduceBEq,y,x,w,v,u,t,s,r,o,n,m];exact z):q:=h y x w v u t s r o n m hp
theorem EZ (h:q:=by first|(simp only[Sm.Mr_L,CQ,EP,List.contains_nil,GI,List.contains_cons,List.cons_append,Option.map_some,Option.map_none,Bool.or_true,Bool.true_or,CP,BR,EI,ag3,ag9,QQ,TB,YG,LU,List.length_nil,↓reduceIte,Nat.reduceEqDiff,Nat.reduceBEq,Nat.reduceAdd,Int.reduceBEq];done)|(simp only[Sm.Mr_L,CQ,EP,List.contains_nil,GI,List.contains_cons,List.cons_append,Option.map_some,Option.map_none,Bool.or_true,Bool.true_or,CP,BR,EI,ag3,ag9,QQ,TB,YG,LU,List.length_nil,↓reduceIte,Nat.reduceEqDiff,Nat.reduceBEq,Nat.reduceAdd,Int.reduceBEq];rfl)):q:=h
theorem UD (y:a)(h:a->q:=by intro y;first|(simp only[Sm.Mr_L,CQ,EP,List.contains_nil,GI,List.contains_cons,List.cons_append,Option.map_some,Option.map_none,Bool.or_true,Bool.true_or,CP,BR,EI,ag3,ag9,QQ,TB,YG,LU,List.length_nil,↓reduceIte,Nat.reduceEqDiff,Nat.reduceBEq,Nat.reduceAdd,Int.reduceBEq,y];done)|(simp only[Sm.Mr_L,CQ,EP,List.contains_nil,GI,List.contains_cons,List.cons_append,Option.map_some,Option.map_none,Bool.or_true,Bool.true_or,CP,BR,EI,ag3,ag9,QQ,TB,YG,LU,List.length_nil,↓reduceIte,Nat.reduceEqDiff,Nat.reduceBEq,Nat.reduceAdd,Int.reduceBEq,y];rfl)):q:=h y
theorem DX {E:Env}{H:Hint}{x y:Code}{F:Fr}{h:Hp}{Q:AEx->Fr->Hp->Prop}{a b:Nat}(g:a<b->awp E H x F h Q)(h2:¬a<b->awp E H y F h Q):lG E H x y F h Q (.bool (decide (((a:Nat):Int)<((b:Nat):Int)))):=BH (fun h=>g (by simpa using h)) (fun h=>h2 (by simpa using h))
end Go.Proofs.YtiihpnicbekebaaGreatDoor
namespace Go.Proofs.YtiihpnicbekebaaGreatDoor.Bins
open Sm
structure Rng where
 lo:Int
 hi:Int
 deriving DecidableEq
def encR (r:Rng):List AV:=[.n r.lo,.n r.hi]
theorem fH (r:Rng):(encR r).length=2:=rfl
theorem VC (r:Rng):(encR r)[0]?=some (.n r.lo):=rfl
theorem TY (r:Rng):(encR r)[1]?=some (.n r.hi):=rfl
def inside (xs:List Rng)(v:Int):Bool:=xs.any fun r=>decide (r.lo<=v)&&decide (v<=r.hi)
theorem NG {α:Type}(p:α->Bool)(xs:List α)(k:Nat)(h:k<xs.length):(xs.drop k).any p=(p xs[k]||(xs.drop (k+1)).any p):=by
 rw[List.drop_eq_getElem_cons h,List.any_cons]
theorem bxR (h:Hp)(r:Rng):OU h (.agg (encR r))=some (.ptr h.length 0 0,h++[qG 2 [encR r]]):=rfl
end Go.Proofs.YtiihpnicbekebaaGreatDoor.Bins
namespace Go.Proofs.YtiihpnicbekebaaGreatDoor.Bins
open Sm
variable {xs:List Rng} {s:ByteArray} (G:Nat->AV )
def bad (r:Rng):Bool:=decide (r.lo<0)||decide (r.lo>r.hi)||decide (r.hi>65535)
def JM (xs:List Rng):Int:=if xs.length>64 then 2 else if xs.any bad then 1 else 0
theorem kU (h:xs.length>64):JM xs=2:=by simp [JM,h]
theorem Y8 (h:¬xs.length>64)(a:xs.any bad=true):JM xs=1:=by simp [JM,h,a]
theorem cO (h:¬xs.length>64)(a:xs.any bad=false):JM xs=0:=by simp [JM,h,a]
theorem AJJ (h:Hp):IG jA h 145=some (.ptr h.length 0 0,h++[qG 2 [[.n 0,.n 0]]]):=F9 (row:=[.n 0,.n 0]) BC
theorem AG5 (h:Hp)(r:Rng)(row:List AV)(a:row.length=2):D8 jA (h++[qG 2 [row]]) 145 (.ptr h.length 0 0) (.agg (encR r))=some (h++[qG 2 [encR r]]):=by
 rw[UW (cs:=encR r) rfl J8 (by simp [a,encR])];simp [splice,a,encR]
theorem ADA (xs:List Rng)(m:SM)(h:Hp)(p:xs.length<=1099511627776):
  PCall (En G) 242 [.sl m 2 (xs.map encR)] h (.n (JM xs)):=by
 refine ACalls.pure0 rfl ?_;refine acT Tryz.func242 2 ?_;refine AB ?_;refine BH ?_ ?_<;>intro e
 .refine AB ?_
  exact⟨by rw[kU (by simp at e;omega)],[],BA⟩
 refine AB ?_;have d:¬xs.length>64:=by simp at e;omega
 refine BB (fun n F H=>∃k,n+k=xs.length/\F 8=.sl m 2 (xs.map encR)/\F 9=.n xs.length/\F 10=.n (k:Nat)/\(∃x,H=h++x)/\xs.any bad=(xs.drop k).any bad) xs.length ⟨0,BA,rfl,rfl,rfl,⟨[],BA⟩,rfl⟩ ?_;rintro n F H ⟨k,hk,g,i,f10,⟨x,rfl⟩,a⟩;refine DC g i f10 ?_;refine DX ?_ ?_<;>intro c
 .have l:=NG bad xs k c
  simp only[vQ,EP,CQ,↓reduceIte,jC,enP,VI,QI,Option.getD_none,g,i,f10,CP c,DL Z8 J8 fH c,AJJ,AG5 _ _ [.n 0,.n 0] rfl,EI ag3,VC,TY];rw[l] at a;have fin:bad xs[k]=true->JM xs=1:=fun b=>Y8 d (by rw[a,b];rfl)
  have j:bad xs[k]=false->xs.any bad=(xs.drop (k+1)).any bad:=fun b=>by rw[a,b];rfl
  refine IW ?_ ?_<;>intro f
  .refine AY f ?_
   exact⟨by rw[fin (by unfold bad;rw[f];rfl)],_,by rw[zD]⟩
  refine LC f @VC @TY ?_;refine IW ?_ ?_<;>intro b
  .refine AY b ?_
   exact⟨by rw[fin (by unfold bad;rw[b];simp)],_,by rw[zD]⟩
  refine LC b @VC @TY ?_;refine BH ?_ ?_<;>intro e
  .refine AB ?_
   exact⟨by rw[fin (by unfold bad;rw[e];simp)],_,by rw[zD]⟩
  .refine A7 f10 (C9 k) ?_
   exact⟨n-1,U,k+1,U,g,i,rfl,⟨_,by rw[zD]⟩,j (by unfold bad;rw[f,b,e];rfl)⟩
 .refine AB ?_
  rw[jY U] at a;exact⟨by rw[cO d a],_,rfl⟩
theorem AHL (xs:List Rng)(m:SM)(h:Hp):
  PCall (En G) 267 [.sl m 2 (xs.map encR)] h (.n (JM xs)):=by
 refine acT Tryz.func267 2 ?_;refine AB ?_;refine BH ?_ ?_<;>intro g
 .refine AB ?_
  exact⟨by rw[kU (by simp at g;omega)],trivial⟩
 refine AB ?_;have f:¬xs.length>64:=by simp at g;omega
 refine BB (fun n F H=>∃k,n+k=xs.length/\F 0=.sl m 2 (xs.map encR)/\F 3=.n (k:Nat)/\H=h/\xs.any bad=(xs.drop k).any bad) xs.length ⟨0,BA,rfl,rfl,rfl,rfl⟩ ?_;rintro n F H ⟨k,hk,d,e,rfl,b⟩;refine A7 d e ?_;refine DX ?_ ?_<;>intro a
 .rw[NG bad xs k a] at b
  have fin:bad xs[k]=true->JM xs=1:=fun c=>Y8 f (by rw[b,c];rfl)
  have j:bad xs[k]=false->xs.any bad=(xs.drop (k+1)).any bad:=fun c=>by rw[b,c];rfl
  refine AB ?_;refine DR BC ?_;simp only[vQ,JA,KP,EP,↓reduceIte,jC,jP,enP,VI,QI,d,e,CP a,BR ag3 a,VC,TY];refine lO ?_ ?_<;>intro i
  .refine AY i ?_
   exact⟨by rw[fin (by unfold bad;rw[i];rfl)],trivial⟩
  simp only[vQ,JA,KP,YQ,Q3,EP,↓reduceIte,jC,jP,enP,VI,QI,QH,i,d,e,CP a,BR ag3 a,VC,TY];refine lO ?_ ?_<;>intro c
  .refine AY c ?_
   exact⟨by rw[fin (by unfold bad;rw[c];simp)],trivial⟩
  simp only[vQ,JA,KP,YQ,Q3,EP,↓reduceIte,jC,jP,enP,VI,QH,c,d,e,CP a,BR ag3 a,VC,TY];refine BH ?_ ?_<;>intro g
  .refine AB ?_
   exact⟨by rw[fin (by unfold bad;rw[g];simp)],trivial⟩
  .refine A7 e (C9 k) ?_
   exact⟨n-1,U,k+1,U,d,rfl,trivial,j (by unfold bad;rw[i,c,g];rfl)⟩
 .refine AB ?_
  rw[jY U] at b;exact⟨by rw[cO f b],trivial⟩
structure Rs where
 m:SM
 l:List Rng
def ATG (r:Rs):AV:=.sl r.m 2 (r.l.map encR)
def encS (r:Rs):List AV:=[ATG r]
structure Bin where
 name:ByteArray
 kind:Int
 ranges:Rs
 sm:SM
 steps:List Rs
def I7 (b:Bin):List AV:=[.str b.name,.n b.kind,ATG b.ranges,.sl b.sm 1 (b.steps.map encS)]
theorem AL6 (b:Bin):(I7 b)[0]?=some (.str b.name):=rfl
theorem VD (b:Bin):(I7 b)[1]?=some (.n b.kind):=rfl
theorem cD (b:Bin):(I7 b)[2]?=some (.sl b.ranges.m 2 (b.ranges.l.map encR)):=rfl
theorem XC (b:Bin):(I7 b)[3]?=some (.sl b.sm 1 (b.steps.map encS)):=rfl
theorem MM (b:Bin):(I7 b).length=4:=rfl
theorem lB (r:Rs):(encS r)[0]?=some (.sl r.m 2 (r.l.map encR)):=rfl
theorem bxB (h:Hp)(b:Bin):OU h (.agg (I7 b))=some (.ptr h.length 0 0,h++[qG 4 [I7 b]]):=rfl
theorem ldB (h:Hp)(b:Bin):BO jA (h++[qG 4 [I7 b]]) 87 (.ptr h.length 0 0)=some (.agg (I7 b)):=aT sC dX (by simp [I7])
def bU (b:Bin):SM:=if b.ranges.l.length>0 then .full else b.sm
def sets (b:Bin):List Rs:=if b.ranges.l.length>0 then [b.ranges] else b.steps
theorem A5K (h:Hp)(r:Rs):DJ jA false h 85 1 [(0,.sl r.m 2 (r.l.map encR))]=some (.sl .full 1 ([r].map encS),h):=by
 have:(eB 1 0 [(0,AV.sl r.m 2 (r.l.map encR))])=some [[.sl r.m 2 (r.l.map encR)]]:=rfl;simp only[DJ,Tryz.underlying85,A24,this];have a:UZ jA 84=some 1:=BC;simp [a,AV.frozen,encS,ATG]
theorem AM5 (b:Bin)(h:Hp):PCall (En G) 241 [.agg (I7 b)] h (.sl (bU b) 1 ((sets b).map encS)):=by
 refine ACalls.pure0 rfl ?_;refine acT Tryz.func241 2 ?_;refine LD @bxB @cD ?_;refine BH ?_ ?_<;>intro c
 .have a:b.ranges.l.length>0:=BL c
  refine LD @cD A5K ?_;exact⟨by rw[bU,sets,if_pos a,if_pos a];rfl,_,rfl⟩
 .have a:¬b.ranges.l.length>0:=BL c
  refine UK @XC ?_;exact⟨by rw[bU,sets,if_neg a,if_neg a],_,rfl⟩
theorem AQR (b:Bin)(h:Hp):PCall (En G) 266 [.agg (I7 b)] h (.sl (bU b) 1 ((sets b).map encS)):=by
 refine ACalls.pure0 rfl ?_;refine acT Tryz.func266 2 ?_;refine LD @bxB @cD ?_;refine BH ?_ ?_<;>intro c
 .have a:b.ranges.l.length>0:=BL c
  refine LD @cD A5K ?_;exact⟨by rw[bU,sets,if_pos a,if_pos a];rfl,_,rfl⟩
 .have a:¬b.ranges.l.length>0:=BL c
  refine UK @XC ?_;exact⟨by rw[bU,sets,if_neg a,if_neg a],_,rfl⟩
theorem A3Q (m:SM)(k:Nat)(xs:List (List AV)):IQ jA 84 .eql (.sl m k xs) (.sl .nil 0 [])=some (.bool (decide (m=.nil))):=by cases m<;>kernel_rfl
def A2E (k:Nat)(xs:List (List AV))(h:Hp)(v:AV)(a:Hp):Prop :=
 (xs=[]/\(∃b,v=.sl .nil b [])/\a=h)\/(xs=[]/\v=.sl .full k []/\a=h)\/(xs≠[]/\v=.own h.length 0 xs.length/\a=h++[qG k xs])
theorem AT5 (h:Hp):DJ jA false h 84 0 []=some (.sl .full 2 [],h):=BC
theorem AT4 (h:Hp):DJ jA false h 32 0 []=some (.sl .full 1 [],h):=BC
theorem cok (f:FuncId)(G:Nat->AV)(hf:(match Tryz.prog.funcs[f]? with|some fn=>fn.body.isSome && !(fn.name == "runtime.NumGoroutine")|none=>false)=true):kK (En G).P f:=by
 have he:(En G).P=jA:=rfl;unfold kK;rw[he]
 cases hx:Tryz.prog.funcs[f]? with
 | none=>rw[hx] at hf; cases hf
 | some fn =>
   rw[hx] at hf;simp at hf;exact⟨fn,rfl,by simpa using hf.1,by simpa using hf.2⟩
def qencI (n:Int):List AV:=[.n n]
theorem ATJ (r:Rs)(h:Hp):PCall (En G) 291 [.sl r.m 2 (r.l.map encR)] h (.bool (decide (r.l.length=0))):=by
 refine acT Tryz.func291 2 ?_;refine AB ?_;refine⟨?_,trivial⟩;congr 1;rw[wP];simp
theorem AEM (G:Nat->AV)(xs:List Rs)(m:SM)(d:FuncId)(a:List AV)(p:Rs->Bool)(h:Hp)(E:xs.length<=1099511627776)
  (B:∀r,PCall (En G) d (.sl r.m 2 (r.l.map encR)::a) h (.bool (p r))) :
  PCall (En G) 325 [.sl m 1 (xs.map encS),.fn (.func d) [] a] h (.n (match xs.findIdx? p with|some i=>(i:Int)|none => -1)):=by
 refine acT Tryz.func325 4 ?_;refine AB ?_;refine BB (fun n F H=>∃k,n+k=xs.length/\F 0=.sl m 1 (xs.map encS)/\F 1=.fn (.func d) [] a/\F 7=.n xs.length/\F 8=.n (k:Nat)/\H=h/\(xs.take k).all (fun r => !p r)=true) xs.length ⟨0,BA,rfl,rfl,rfl,rfl,rfl,rfl⟩ ?_;rintro n F H ⟨k,hk,e,f,g,q,rfl,b⟩;refine EG e f g q ?_;refine DX ?_ ?_<;>intro c
 .simp only[vQ,CQ,List.nil_append,List.cons_append,↓reduceIte,jC,enP,tG,e,f,g,q,CP c,BR TB c,lB]
  refine(B _).uu ?_;refine BH ?_ ?_<;>intro A
  .refine AB ?_
   refine⟨?_,trivial⟩
   rw[wR.2 ⟨c,A,fun j C=>by
    rw[zJ] at b;have:=b xs[j] (by rw[List.mem_take_iff_getElem];exact⟨j,U,rfl⟩)
    simpa using this⟩]
  .refine A7 q (C9 k) ?_
   refine⟨n-1,U,k+1,U,e,f,g,rfl,trivial,?_⟩;rw[jV c,List.all_append,b];simp only[wS,List.all_nil,A];rfl
 .refine AB ?_
  refine⟨?_,trivial⟩;rw[jK U] at b;rw[wU.2 (BL b)]
theorem rH (G:Nat->AV)(xs:List Rs)(m:SM)(b:FuncId)(a:List AV)(p:Rs->Bool)(h:Hp)(g:xs.length<=1099511627776)
  (f:∀r,PCall (En G) b (.sl r.m 2 (r.l.map encR)::a) h (.bool (p r))) :
  PCall (En G) 290 [.sl m 1 (xs.map encS),.fn (.func b) [] a] h (.bool (xs.any p)):=by
 refine acT Tryz.func290 4 ?_;refine AB ?_;refine(AEM G xs m b a p h g f).uu ?_;refine⟨?_,trivial⟩
 cases c:xs.findIdx? p with
 | some i =>
   obtain⟨j,e,_⟩:=wR.1 c;have:xs.any p=true:=qJ.2 ⟨xs[i],BA,e⟩;simp [this]
 | none =>
   have:xs.any p=false:=by
    rw[wU] at c;rw[qQ];intro x d;simp [c x d]
   simp [this]
def VH (n:Int):Bool:=decide (n≥97)&&decide (n<=122)
def AFI (n:Int):Bool:=decide (n≥48)&&decide (n<=57)
def QD (n:Int):Bool:=VH n||AFI n||(decide (n≥65)&&decide (n<=90))||n==95
theorem oN (n:Int)(h:Hp):PCall (En G) 217 [.int .i32 n] h (.bool (VH n)):=by
 refine acT Tryz.func217 2 ?_;refine AB ?_;refine IW ?_ ?_<;>intro a
 .refine AY a ?_
  exact⟨by unfold VH;rw[a];rfl,trivial⟩
 .refine AY a ?_
  exact⟨by unfold VH;rw[a];rfl,trivial⟩
theorem AIT (n:Int)(h:Hp):PCall (En G) 278 [.int .i32 n] h (.bool (AFI n)):=by
 refine acT Tryz.func278 2 ?_;refine AB ?_;refine IW ?_ ?_<;>intro a
 .refine AY a ?_
  exact⟨by unfold AFI;rw[a];rfl,trivial⟩
 .refine AY a ?_
  exact⟨by unfold AFI;rw[a];rfl,trivial⟩
theorem uJ (n:Int)(h:Hp):PCall (En G) 130 [.int .u8 n] h (.bool (VH n)):=by
 refine acT Tryz.func130 2 ?_;refine AB ?_;refine IW ?_ ?_<;>intro a
 .refine AY a ?_
  exact⟨by unfold VH;rw[a];rfl,trivial⟩
 .refine AY a ?_
  exact⟨by unfold VH;rw[a];rfl,trivial⟩
theorem digit_ref (n:Int)(h:Hp):PCall (En G) 222 [.int .u8 n] h (.bool (AFI n)):=by
 refine acT Tryz.func222 2 ?_;refine AB ?_;refine IW ?_ ?_<;>intro a
 .refine AY a ?_
  exact⟨by unfold AFI;rw[a];rfl,trivial⟩
 .refine AY a ?_
  exact⟨by unfold AFI;rw[a];rfl,trivial⟩
theorem fD (n:Int)(h:Hp):PCall (En G) 218 [.int .i32 n] h (.bool (QD n)):=by
 refine acT Tryz.func218 2 ?_;refine AB ?_;refine(oN G n h).uu ?_;refine IW ?_ ?_<;>intro a
 .refine AY a ?_
  exact⟨by unfold QD;rw[a];rfl,trivial⟩
 refine AY a ?_;refine(AIT G n h).uu ?_;refine IW ?_ ?_<;>intro b
 .refine AY b ?_
  exact⟨by unfold QD;rw[a,b];rfl,trivial⟩
 refine AY b ?_;refine IW ?_ ?_<;>intro c
 .refine AY c ?_
  refine IW ?_ ?_<;>intro d
  .refine AY d ?_
   exact⟨by unfold QD;rw[a,b,c,d];rfl,trivial⟩
  .refine AY d ?_
   exact⟨by unfold QD;rw[a,b,c,d];rfl,trivial⟩
 .refine AY c ?_
  exact⟨by unfold QD;rw[a,b,c];rfl,trivial⟩
theorem AOF (n:Int)(h:Hp):PCall (En G) 132 [.int .u8 n] h (.bool (QD n)):=by
 refine acT Tryz.func132 2 ?_;refine AB ?_;refine(uJ G n h).uu ?_;refine IW ?_ ?_<;>intro a
 .refine AY a ?_
  exact⟨by unfold QD;rw[a];rfl,trivial⟩
 refine AY a ?_;refine(digit_ref G n h).uu ?_;refine IW ?_ ?_<;>intro b
 .refine AY b ?_
  exact⟨by unfold QD;rw[a,b];rfl,trivial⟩
 refine AY b ?_;refine IW ?_ ?_<;>intro c
 .refine AY c ?_
  refine IW ?_ ?_<;>intro d
  .refine AY d ?_
   exact⟨by unfold QD;rw[a,b,c,d];rfl,trivial⟩
  .refine AY d ?_
   exact⟨by unfold QD;rw[a,b,c,d];rfl,trivial⟩
 .refine AY c ?_
  exact⟨by unfold QD;rw[a,b,c];rfl,trivial⟩
def qencStr (s:ByteArray):List AV:=[.str s]
theorem encStr0 (s:ByteArray):(qencStr s)[0]?=some (.str s):=rfl
def I8 (xs:List ByteArray)(v:ByteArray):Bool:=xs.any fun u=>v.toList==u.toList
theorem AXH (xs:List ByteArray)(m:SM)(v:ByteArray)(h:Hp)(i:xs.length<=1099511627776):
  PCall (En G) 220 [.sl m 1 (xs.map qencStr),.str v] h (.bool (I8 xs v)):=by
 refine acT Tryz.func220 4 ?_;refine AB ?_;refine BB (fun n F H=>∃k,n+k=xs.length/\F 0=.sl m 1 (xs.map qencStr)/\F 1=.str v/\F 5=.n (k:Nat)/\H=h/\I8 xs v=I8 (xs.drop k) v) xs.length ⟨0,BA,rfl,rfl,rfl,rfl,rfl⟩ ?_;rintro n F H ⟨k,hk,c,d,e,rfl,b⟩;refine DC c d e ?_;refine DX ?_ ?_<;>intro a
 .have g:I8 (xs.drop k) v=((v.toList==xs[k].toList)||I8 (xs.drop (k+1)) v):=NG _ xs k a
  simp only[vQ,CQ,QF,↓reduceIte,jC,enP,bY,c,d,e,CP a,BR ag9 a,encStr0];refine BH ?_ ?_<;>intro f
  .refine AB ?_
   refine⟨?_,trivial⟩;rw[b,g,show(v.toList==xs[k].toList)=true by rw[BEq.comm];exact f];rfl
  .refine A7 e (C9 k) ?_
   refine⟨n-1,U,k+1,U,c,d,rfl,trivial,?_⟩;rw[b,g,show(v.toList==xs[k].toList)=false by rw[BEq.comm];exact f];rfl
 .refine AB ?_
  exact⟨by rw[b,jY U];rfl,trivial⟩
theorem index_prog (xs:List ByteArray)(m:SM)(v:ByteArray)(h:Hp)(C:xs.length<=1099511627776):
  ∃i:Int,(decide (i≥0)=I8 xs v)/\PCall (En G) 279 [.sl m 1 (xs.map qencStr),.str v] h (.n i):=by
 refine⟨(match xs.findIdx? (fun u=>v.toList==u.toList) with|some i=>(i:Int)|none => -1),?_,?_⟩
 .cases c:xs.findIdx? (fun u=>v.toList==u.toList) with
  | some i =>
    obtain⟨A,q,_⟩:=wR.1 c;have:I8 xs v=true:=qJ.2 ⟨xs[i],BA,q⟩;simp [this]
  | none =>
    have:I8 xs v=false:=by
     rw[wU] at c;unfold I8;rw[qQ];intro x l;simp only[c x l];simp
    simp [this]
 refine acT Tryz.func279 4 ?_;refine AB ?_;refine BB (fun n F H=>∃k,n+k=xs.length/\F 0=.sl m 1 (xs.map qencStr)/\F 1=.str v/\F 7=.n xs.length/\F 8=.n (k:Nat)/\H=h/\(xs.take k).all (fun u => !(v.toList==u.toList))=true) xs.length ⟨0,BA,rfl,rfl,rfl,rfl,rfl,rfl⟩ ?_;rintro n F H ⟨k,hk,d,e,f,g,rfl,a⟩;refine EG d e f g ?_;refine DX ?_ ?_<;>intro b
 .simp only[vQ,CQ,QF,↓reduceIte,jC,enP,bY,d,e,f,g,CP b,BR ag9 b,encStr0]
  refine BH ?_ ?_<;>intro p
  .refine AB ?_
   refine⟨?_,trivial⟩
   rw[wR.2 ⟨b,p,fun j B=>by
    rw[zJ] at a;have:=a xs[j] (by rw[List.mem_take_iff_getElem];exact⟨j,U,rfl⟩)
    simpa using this⟩]
  .refine A7 g (C9 k) ?_
   refine⟨n-1,U,k+1,U,d,e,f,rfl,trivial,?_⟩;rw[jV b,List.all_append,a];simp only[wS,List.all_nil,p];rfl
 .refine AB ?_
  refine⟨?_,trivial⟩;rw[jK U] at a
  rw[wU.2 (by
   intro x c;rw[zJ] at a
   simpa using a x c)]
theorem tS (xs:List ByteArray)(m:SM)(v:ByteArray)(h:Hp)(b:xs.length<=1099511627776):
  PCall (En G) 219 [.sl m 1 (xs.map qencStr),.str v] h (.bool (I8 xs v)):=by
 obtain⟨i,a,c⟩:=index_prog G xs m v h b;refine acT Tryz.func219 4 ?_;refine AB ?_;refine c.uu ?_;exact⟨by rw[a],trivial⟩
def kw:List ByteArray:=[⟨#[99,108,97,115,115]⟩,⟨#[101,120,116,101,110,100,115]⟩,⟨#[114,97,110,100]⟩,⟨#[114,97,110,100,99]⟩,⟨#[115,116,97,116,101]⟩,⟨#[99,111,110,115,116,114,97,105,110,116]⟩,⟨#[115,111,102,116]⟩,⟨#[100,105,115,116]⟩,⟨#[105,102]⟩,⟨#[101,108,115,101]⟩,⟨#[101,97,99,104]⟩,⟨#[105,110]⟩,⟨#[115,111,108,118,101]⟩,⟨#[98,101,102,111,114,101]⟩,⟨#[105,110,115,105,100,101]⟩,⟨#[112,114,111,112,101,114,116,121]⟩,⟨#[115,101,113]⟩,⟨#[97,110,100]⟩,⟨#[111,114]⟩,⟨#[110,111,116]⟩,⟨#[115,101,116]⟩,⟨#[104,111,108,100]⟩,⟨#[112,108,97,105,110]⟩,⟨#[114,101,112,101,97,116]⟩]
theorem AR7:kw.length=24:=rfl
theorem AAH (h:Hp):PCall (En G) 221 [] h (.sl .full 1 (kw.map qencStr)):=by
 refine acT Tryz.func221 0 ?_;refine AB ?_;refine MF (v:=.sl .full 1 (kw.map qencStr)) (h:=h) BC ?_;refine AB ?_;exact G7
theorem tH (v:ByteArray)(h:Hp):PCall (En G) 131 [.str v] h (.bool (I8 kw v)):=by
 refine acT Tryz.func131 2 ?_;refine AB ?_;refine(AAH G h).uu ?_;refine(AXH G kw .full v h (by rw[AR7];omega)).uu ?_;exact G7
def KwG (G:Nat->AV):Prop:=∃m,G 0=.fptr 1 [[.sl m 1 (kw.map qencStr)]] 0 0
theorem oS (a:KwG G)(v:ByteArray)(h:Hp):PCall (En G) 129 [.str v] h (.bool (I8 kw v)):=by
 obtain⟨m,b⟩:=a;refine acT Tryz.func129 2 ?_;have e:BO jA h 121 (G 0)=some (.sl m 1 (kw.map qencStr)):=by rw[b];exact ARV xO rfl rfl
 have c:kw.length<=1099511627776:=by rw[AR7];omega
 refine DC @AXU @enG e ?_;refine(tS G kw m v h c).uu ?_;exact G7
def WR (s:ByteArray):Bool:=(match s.data.toList with|[]=>false|b::_=>VH b.toNat)&&s.data.toList.all fun b=>QD b.toNat
def FI (s:ByteArray):Bool:=WR s&&decide (s.size<=16) && !I8 kw s
theorem iE {n:Int}(h:QD n=true):n<128:=by
 simp only[QD,VH,AFI,Bool.or_eq_true,jX,decide_eq_true_eq,beq_iff_eq] at h;omega
theorem AV9 (h:Hp)(s:ByteArray):kH jA h 9 (.str s)=some (.ptr h.length 0 0,h++[.iter s 0]):=by
 have:Tryz.prog.underlying 9=some .string:=BC;simp [kH,this]
theorem AWY {h:Hp}{s:ByteArray}{pos:Nat}(a:pos<s.size):lM (h++[.iter s pos]) (.ptr h.length 0 0) true=some (.tup [.bool true,.n pos,.int .i32 (Utf8.decode s pos).1],h++[.iter s (pos+(Utf8.decode s pos).2)]):=by
 simp [lM,a]
theorem ARP {h:Hp}{pos:Nat}(a:¬pos<s.size):lM (h++[.iter s pos]) (.ptr h.length 0 0) true=some (.tup [.bool false],h++[.iter s pos]):=by
 simp [lM,a]
theorem XR {k:Nat}(hk:k<s.size)(a:QD (s[k]'hk).toNat=false):WR s=false:=by
 unfold WR
 have:(s.data.toList.all fun b=>QD b.toNat)=false:=by
  rw[List.all_eq_false];exact⟨s[k],Array.getElem_mem_toList (xs:=s.data) hk,by simp [a]⟩
 rw[this];simp
theorem kL (hk:0<s.size)(e:VH (s[0]'hk).toNat=false):WR s=false:=by
 unfold WR
 have:(match s.data.toList with|[]=>false|b::_=>VH b.toNat)=false:=by
  cases f:s.data.toList with
  | nil=>rfl
  | cons b l =>
    have d:s[0]'hk=b:=by
     have:s.data.toList[0]?=some b:=by rw[f];rfl
     have c:s.data[0]?=some b:=by grind
     have a:0<s.data.size:=hk;rw[Array.getElem?_eq_getElem a] at c;exact Option.some.inj c
    simp only;rw[<-d];exact e
 rw[this];simp
theorem AB5 (hk:0<s.size)(p:VH (s[0]'hk).toNat=true)(k:∀i (d:i<s.size),QD (s[i]'d).toNat=true):WR s=true:=by
 unfold WR
 have j:(match s.data.toList with|[]=>false|b::_=>VH b.toNat)=true:=by
  cases g:s.data.toList with
  | nil =>
    have:s.data.toList.length=0:=by rw[g];rfl
    have a:s.data.size=0:=BL this;have q:s.size=s.data.size:=rfl;omega
  | cons b l =>
    have h:s[0]'hk=b:=by
     have:s.data.toList[0]?=some b:=by rw[g];rfl
     have a:s.data[0]?=some b:=by grind
     have f:0<s.data.size:=hk;rw[Array.getElem?_eq_getElem f] at a;exact Option.some.inj a
    simp only;rw[<-h];exact p
 rw[j,Bool.true_and,zJ];intro b c;obtain⟨i,d,rfl⟩:=List.getElem_of_mem c;have e:i<s.size:=BL d;exact k i e
theorem AMS (s:ByteArray)(h:Hp)(hl:s.size<=1099511627776):PCall (En G) 128 [.str s] h (.bool (WR s)):=by
 refine ACalls.pure0 rfl ?_;refine acT Tryz.func128 2 ?_;refine A7 @AVK @AV9 ?_;refine BB (fun n F H=>∃k,n+k=s.size/\F 0=.str s/\F 6=.ptr h.length 0 0/\H=h++[.iter s k]/\(∀i (p:i<s.size),i<k->QD (s[i]'p).toNat=true)/\(∀b:0<s.size,0<k->VH (s[0]'b).toNat=true)) s.size ⟨0,BA,rfl,AO,rfl,fun _ _ h=>absurd h U,fun _ h=>absurd h U⟩ ?_;rintro n F H ⟨k,hk,A,B,rfl,q,C⟩;rcases Classical.em (k<s.size) with b|b
 .have Q:∀(r:Nat×Nat),Utf8.decode s k=r->(QD r.1=true->r=((s[k]'b).toNat,1)/\QD (s[k]'b).toNat=true)/\(QD r.1=false->WR s=false)/\(VH r.1=false->k=0->WR s=false)/\(VH r.1=true->QD r.1=true):=by
   rintro r rfl;have S:∀n,VH n=true->QD n=true:=fun n hn=>by unfold QD;rw[hn];rfl
   rcases zA (s[k]'b).toNat 128 with f|f
   .have R:=decode_ascii s k b f
    rw[R];exact⟨fun a=>⟨rfl,a⟩,fun a=>XR b a,fun a C=>by subst C;exact kL b a,S _⟩
   .have R:=(decode_high s k b f).1
    refine⟨fun a=>?_,fun _=>?_,fun _ C=>?_,S _⟩
    .have:=iE a;omega
    .refine XR b ?_
     cases a:QD (s[k]'b).toNat with
     | false=>rfl
     | true=>have:=iE a;omega
    .refine XR b ?_
     cases a:QD (s[k]'b).toNat with
     | false=>rfl
     | true=>have:=iE a;omega
  refine Z9 @APZ A B @AWY b ?_;generalize hr:Utf8.decode s k=r at Q;obtain⟨V,X,Y,Z⟩:=Q r rfl
  have done:∀K,QD r.1=true->(k=0->VH r.1=true)->K=h++[ABlk.iter s (k+r.2)]->∃m,m<n/\∃g,m+g=s.size/\K=h++[.iter s g]/\(∀i (p:i<s.size),i<g->QD (s[i]'p).toNat=true)/\(∀b:0<s.size,0<g->VH (s[0]'b).toNat=true):=by
   intro K a c hH;obtain⟨T,e2⟩:=V a;refine⟨n-1,U,k+1,U,by rw[hH,T],fun i p a0=>?_,fun a2 _=>?_⟩
   .grind
   .grind
  refine IW ?_ ?_<;>intro f
  .have l:k=0:=by simp at f;omega
   refine AY f ?_;refine(oN G _ _).uu ?_;refine IW ?_ ?_<;>intro j
   .refine AY j ?_
    have c:VH r.1=false:=BL j;exact⟨by rw[Y c l],_,rfl⟩
   have c:VH r.1=true:=BL j;refine AY j ?_;refine(fD G _ _).uu ?_;have a:=Z c;refine AY a ?_;obtain⟨m,L,g,E,I,M,N⟩:=done _ a (fun _=>c) rfl;exact⟨m,L,g,E,A,B,I,M,N⟩
  .have l:k≠0:=by intro e;subst e;simp at f
   refine AY f ?_;refine(fD G _ _).uu ?_;refine BH ?_ ?_<;>intro j
   .have a:QD r.1=false:=BL j
    refine AB ?_;exact⟨by rw[X a],_,rfl⟩
   .have a:QD r.1=true:=BL j
    refine AB ?_;obtain⟨m,L,g,E,I,M,N⟩:=done _ a (fun e=>absurd e l) rfl;exact⟨m,L,g,E,A,B,I,M,N⟩
 .simp only[vQ,List.getElem?_cons_zero,RP,cM,VF,kR,CQ,iZ,APZ,PO,VX,rR,↓reduceIte,jC,enP,A,B,ARP b]
  have a1:k=s.size:=U;refine⟨?_,_,rfl⟩;congr 1;rcases Nat.eq_zero_or_pos s.size with J|J
  .have:s=⟨#[]⟩:=by
    obtain⟨d⟩:=s;have:d.size=0:=J;rw[Array.eq_empty_of_size_eq_zero this]
   subst this;rw[ByteArray.toList_eq];rfl
  .rw[AB5 J (C J U) (fun i p=>q i p U)]
   have P:s.toList≠[]:=by
    rw[ByteArray.toList_eq];intro e;have:s.data.toList.length=0:=by rw[e];rfl
    have E:s.data.size=0:=BL this;have I:s.size=s.data.size:=rfl;omega
   cases O:s.toList with
   | nil=>exact absurd O P
   | cons=>rw[ByteArray.toList_eq];rfl
theorem NR (c:KwG G)(s:ByteArray)(h:Hp)(d:s.size<=1099511627776):PCall (En G) 63 [.str s] h (.bool (FI s)):=by
 refine acT Tryz.func63 2 ?_;refine AB ?_;refine(AMS G s h d).uu ?_;refine IW ?_ ?_<;>intro a
 .refine AY a ?_
  refine IW ?_ ?_<;>intro b
  .refine AY b ?_
   refine(oS G c s h).uu ?_;refine⟨?_,trivial⟩
   have:decide (s.size<=16)=true:=by simp at b|-;omega
   unfold FI;rw[a,this];rfl
  .refine AY b ?_
   refine⟨?_,trivial⟩
   have:decide (s.size<=16)=false:=by simp at b|-;omega
   unfold FI;rw[a,this];rfl
 .refine AY a ?_
  exact⟨by unfold FI;rw[a];rfl,trivial⟩
theorem ix9 (s:ByteArray)(k:Nat)(kk:IntKind)(hk:k<s.size):QR jA 9 (.str s) (.int kk (k:Int))=some (.int .u8 (s[k]'hk).toNat):=by
 have b:Tryz.prog.underlying 9=some .string:=BC;have a:(0:Int)<=(k:Int):=U;have:s[k]?=some (s[k]'hk):=by simp [hk]
 simp [QR,b,a,this]
theorem O9 (s:ByteArray)(h:Hp):PCall (En G) 64 [.str s] h (.bool (FI s)):=by
 refine acT Tryz.func64 2 ?_;refine AB ?_;refine IW ?_ ?_<;>intro g
 .refine AY g ?_
  refine⟨?_,trivial⟩
  have:s.data.toList=[]:=by
   rw[ByteArray.toList_eq,ByteArray.toList_eq] at g;have:=beq_iff_eq.1 g;exact this
  unfold FI WR;rw[this];rfl
 have b:0<s.size:=by
  rcases Nat.eq_zero_or_pos s.size with b|b
  .simp_all
  .exact b
 refine AY g ?_;refine IW ?_ ?_<;>intro j
 .refine AY j ?_
  refine⟨?_,trivial⟩
  have:decide (s.size<=16)=false:=by simp at j|-;omega
  unfold FI;rw[this];simp
 have c:decide (s.size<=16)=true:=by simp at j|-;omega
 refine AY j ?_;refine MF (v:=.int .u8 (s[0]'b).toNat) (h:=h) (by rw[show(0:Int)=((0:Nat):Int) from rfl,ix9 s 0 .i64 b];rfl) ?_;refine AB ?_;refine(uJ G _ h).uu ?_;refine IW ?_ ?_<;>intro l
 .refine AY l ?_
  refine⟨?_,trivial⟩;unfold FI;rw[kL b (BL l)];rfl
 refine AY l ?_;refine(tH G s h).uu ?_;refine BH ?_ ?_<;>intro B
 .refine AB ?_
  refine⟨?_,trivial⟩;unfold FI;rw[B];simp
 refine AB ?_;have f:VH (s[0]'b).toNat=true:=BL l;refine BB (fun n F H=>∃k,n+k=s.size/\F 0=.str s/\F 3=.n (k:Nat)/\H=h/\(∀i (d:i<s.size),i<k->QD (s[i]'d).toNat=true)) s.size ⟨0,BA,AO,AO,rfl,fun _ _ h=>absurd h U⟩ ?_;rintro n F H ⟨k,hk,p,q,rfl,a⟩;refine A7 p q ?_;refine DX ?_ ?_<;>intro e
 .refine DC p q (ix9 s k .i64 e) ?_
  refine(AOF G _ _).uu ?_;refine BH ?_ ?_<;>intro C
  .refine AB ?_
   refine⟨?_,trivial⟩;unfold FI;rw[XR e (BL C)];rfl
  .refine A7 q (wrap_succ (show k<9223372036854775807 by simp at c;omega)) ?_
   refine⟨n-1,U,k+1,U,p,rfl,trivial,fun i d E=>?_⟩;rcases zA i k with A|A
   .exact a i d A
   .grind
 .refine AB ?_
  refine⟨?_,trivial⟩;unfold FI;rw[AB5 b f (fun i d=>a i d U),c,B];rfl
def JX (b:Bin):Bool :=
 decide (b.kind<0)||decide (b.kind>2)||(decide ((b.ranges.l.length:Int)>0)==decide ((b.steps.length:Int)>0))||(b.kind != 0&&decide ((b.steps.length:Int)>0))||((b.steps.length:Int)==1)||decide ((b.steps.length:Int)>8)
def IR (b:Bin):Int :=
 if FI b.name then if JX b then 1 else if b.steps.any (fun l=>decide (l.l.length=0)) then 1 else
  if(sets b).any (fun l=>decide (l.l.length>64)) then 2 else if(sets b).any (fun l=>l.l.any bad) then 1 else 0
 else 7
def shape (b:Bin):Bool :=
 if(b.kind != 0&&b.kind != 1&&b.kind != 2) then false else if((b.steps.length:Int)==0) then decide ((b.ranges.l.length:Int)>0) else
  if(decide ((b.ranges.l.length:Int)>0)||b.kind != 0||decide ((b.steps.length:Int)<2)||decide ((b.steps.length:Int)>8)) then false else !(b.steps.any (fun l=>decide (l.l.length=0)))
theorem AHA:∀(n p z o t r a b c E:Bool),((n||p||z||o||t) && !(n&&p) && !(n&&z) && !(n&&o) && !(n&&t) && !(p&&z) && !(p&&o) && !(p&&t) && !(z&&o) && !(z&&t) && !(o&&t) && !(a&&b) && !(a&&c) && !(b&&c) && !(a&&E))=true ->
 (if(!z && !o && !t) then false else if a then r else if(r || !z||(a||b)||c) then false else !E)=(!(n||p||(r == !a)||(!z && !a)||b||c) && !E):=by decide +kernel
theorem AM4 (k r s:Int)(E:Bool)(l:0<=s)(j:s=0->E=false):
  (if(k != 0&&k != 1&&k != 2) then false else if(s==0) then decide (r>0) else if(decide (r>0)||k != 0||decide (s<2)||decide (s>8)) then false else !E) =
  (!(decide (k<0)||decide (k>2)||(decide (r>0)==decide (s>0))||(k != 0&&decide (s>0))||(s==1)||decide (s>8)) && !E):=by
 have h:decide (s>0) = !(s==0):=by rw[wP];simp;omega
 have i:decide (s<2)=((s==0)||(s==1)):=by rw[wP];simp;omega
 rw[h,i];have key:=AHA (decide (k<0)) (decide (k>2)) (k==0) (k==1) (k==2) (decide (r>0)) (s==0) (s==1) (decide (s>8)) E ?_
 .exact key
 .have a:(decide (k<0)||decide (k>2)||(k==0)||(k==1)||(k==2))=true:=by simp;omega
  have no:∀(p q:Prop) [Decidable p] [Decidable q],¬(p/\q)->(!(decide p&&decide q))=true:=by grind
  have g:(s==0&&E)=false:=by simp_all
  have b:(k==0)=decide (k=0):=rfl;have c:(k==1)=decide (k=1):=rfl;have d:(k==2)=decide (k=2):=rfl;have e:(s==0)=decide (s=0):=rfl;have f:(s==1)=decide (s=1):=rfl;rw[g]
  rw[b,c,d] at a|-
  rw[e,f,a,no _ _ (U:¬(k<0/\k>2)),no _ _ (U:¬(k<0/\k=0)),no _ _ (U:¬(k<0/\k=1)),no _ _ (U:¬(k<0/\k=2)),
   no _ _ (U:¬(k>2/\k=0)),no _ _ (U:¬(k>2/\k=1)),no _ _ (U:¬(k>2/\k=2)),no _ _ (U:¬(k=0/\k=1)),no _ _ (U:¬(k=0/\k=2)),no _ _ (U:¬(k=1/\k=2)),
   no _ _ (U:¬(s=0/\s=1)),no _ _ (U:¬(s=0/\s>8)),no _ _ (U:¬(s=1/\s>8))]
  rfl
theorem ACV (b:Bin):shape b=(!JX b && !(b.steps.any (fun l=>decide (l.l.length=0)))) :=
 AM4 b.kind b.ranges.l.length b.steps.length _ U (fun h=>by
  have:b.steps=[]:=List.eq_nil_of_length_eq_zero U
  rw[this];rfl)
theorem AG9 (b:Bin)(h:Hp)(B:b.steps.length<=1099511627776):PCall (En G) 240 [.agg (I7 b)] h (.bool (shape b)):=by
 refine ACalls.pure0 rfl ?_;refine acT Tryz.func240 2 ?_;refine OH @bxB @VD @cD @XC ?_;refine RZ (fun F H=>F 7=.bool (b.kind != 0&&b.kind != 1&&b.kind != 2)/\F 1=.ptr h.length 0 0/\F 3=.n b.steps.length/\H=h++[qG 4 [I7 b]]) ?_ ?_
 .refine IW ?_ ?_<;>intro e
  .refine LD e @VD ?_
   refine IW ?_ ?_<;>intro f
   .refine LD f @VD ?_
    exact⟨rfl,trivial,trivial,trivial⟩
   .refine AY f ?_
    exact⟨rfl,trivial,trivial,trivial⟩
  .refine AY e ?_
   exact⟨rfl,trivial,trivial,trivial⟩
 rintro F H ⟨A,a,d,rfl⟩;refine DC A a d ?_;refine BH ?_ ?_<;>intro hk
 .refine AB ?_
  exact⟨by unfold shape;rw[if_pos hk],_,rfl⟩
 have c:¬(b.kind != 0&&b.kind != 1&&b.kind != 2)=true:=by rw[hk];simp
 refine A7 a d ?_;refine BH ?_ ?_<;>intro q
 .refine LD a @cD ?_
  exact⟨by unfold shape;rw[if_neg c,if_pos q],_,rfl⟩
 have g:¬((b.steps.length:Int)==0)=true:=by rw[q];simp
 refine LC a d @cD ?_;refine RZ (fun F H=>F 28=.bool (decide ((b.ranges.l.length:Int)>0)||b.kind != 0||decide ((b.steps.length:Int)<2)||decide ((b.steps.length:Int)>8))/\F 1=.ptr h.length 0 0/\H=h++[qG 4 [I7 b]]) ?_ ?_
 .refine IW ?_ ?_<;>intro e
  .refine A7 e a ?_
   exact⟨trivial,trivial,trivial⟩
  refine OH @wF e a @VD ?_;refine IW ?_ ?_<;>intro f
  .refine A7 f a ?_
   exact⟨trivial,trivial,trivial⟩
  refine EG @wF f a d ?_;refine IW ?_ ?_<;>intro k
  .refine A7 k a ?_
   exact⟨trivial,trivial,trivial⟩
  .refine EG @wF k a d ?_
   exact⟨trivial,trivial,trivial⟩
 rintro F H ⟨i,a,rfl⟩;refine A7 i a ?_;refine BH ?_ ?_<;>intro p
 .refine AB ?_
  exact⟨by unfold shape;rw[if_neg c,if_neg g,if_pos p],_,rfl⟩
 have j:¬(decide ((b.ranges.l.length:Int)>0)||b.kind != 0||decide ((b.steps.length:Int)<2)||decide ((b.steps.length:Int)>8))=true:=by rw[p];simp
 refine LD a @XC ?_;refine(rH G b.steps b.sm 291 [] (fun l=>decide (l.l.length=0)) _ B fun r=>ATJ G r _).uu ?_;exact⟨by unfold shape;rw[if_neg c,if_neg g,if_neg j],_,rfl⟩
theorem kM {b:Bin}(h:FI b.name=false):IR b=7:=by unfold IR;rw[h];rfl
theorem dR {b:Bin}(h:FI b.name=true)(a:JX b=true):IR b=1:=by unfold IR;rw[h,a];rfl
theorem dS {b:Bin}(h:FI b.name=true)(a:b.steps.any (fun l=>decide (l.l.length=0))=true):IR b=1:=by
 unfold IR;rw[h,a];cases JX b<;>rfl
theorem YZ {b:Bin}(h:FI b.name=true)(c:JX b=false)(a:b.steps.any (fun l=>decide (l.l.length=0))=false):
  IR b=if(sets b).any (fun l=>decide (l.l.length>64)) then 2 else if(sets b).any (fun l=>l.l.any bad) then 1 else 0:=by
 unfold IR;rw[h,c,a];rfl
structure BinOk (b:Bin):Prop where
 num:(sets b).length<=1099511627776
 name:b.name.size<=1099511627776
 steps:b.steps.length<=1099511627776
 sets:∀l∈sets b,l.l.length<=1099511627776
theorem ADB (xs:List Rng):decide (JM xs=2)=decide (xs.length>64):=by
 unfold JM;split
 .simp_all
 .split<;>simp_all
theorem kT (xs:List Rng):decide (JM xs=1)=(decide (¬xs.length>64)&&xs.any bad):=by
 unfold JM;split
 .rename_i h;simp [h]
 .grind
theorem AP4 {b:Bin}(h:FI b.name=true)(f:JX b=false)(e:b.steps.any (fun l=>decide (l.l.length=0))=false):
  IR b=if(sets b).any (fun l=>decide (JM l.l=2)) then 2 else if(sets b).any (fun l=>decide (JM l.l=1)) then 1 else 0:=by
 rw[YZ h f e];simp only[ADB];split
 .rfl
 .rename_i d
  have:(sets b).any (fun l=>decide (JM l.l=1))=(sets b).any (fun l=>l.l.any bad):=by
   rw[wP,qJ,qJ];constructor
   .rintro⟨l,c,a⟩
    rw[kT] at a;simp only[jX] at a;exact⟨l,c,a.2⟩
   .rintro⟨l,c,a⟩
    refine⟨l,c,?_⟩;rw[kT,a];rw[Bool.not_eq_true,qQ] at d;have:=d l c;simp only[decide_eq_true_eq] at this;simp only[this,not_false_eq_true,decide_true,Bool.and_self]
  rw[this]
theorem Z4 {α:Type}(p:α->Bool)(xs:List α)(k:Nat)(h:k<xs.length):(xs.take (k+1)).any p=((xs.take k).any p||p xs[k]):=by
 rw[jV h,List.any_append,List.any_cons,List.any_nil,Bool.or_false]
theorem valid_prog (K:KwG G)(b:Bin)(g:BinOk b)(h:Hp):PCall (En G) 162 [.agg (I7 b)] h (.n (IR b)):=by
 refine ACalls.pure0 rfl ?_;refine acT Tryz.func162 2 ?_;refine LC @AAV @bxB @AL6 ?_;refine(NR G K b.name _ g.name).uu ?_;refine BH ?_ ?_<;>intro E
 .refine AB ?_
  exact⟨by rw[kM (BL E)],_,rfl⟩
 have f:FI b.name=true:=BL E;refine AY @ldB ?_;refine(AG9 G b _ g.steps).uu ?_;refine BH ?_ ?_<;>intro J
 .refine AB ?_
  refine⟨?_,_,rfl⟩;have c:shape b=false:=BL J;rw[ACV] at c
  cases I:JX b with
  | true=>rw[dR f I]
  | false =>
    rw[I] at c;rw[dS f (BL c)]
 have c:shape b=true:=BL J;rw[ACV] at c;simp only[jX,Bool.not_eq_true'] at c;have L:=YZ f c.1 c.2;refine AY @ldB ?_;refine(AM5 G b _).uu ?_;refine BB (fun n F H=>∃k,n+k=(sets b).length/\F 3=.bool (((sets b).take k).any fun l=>decide (JM l.l=2))/\F 4=.bool (((sets b).take k).any fun l=>decide (JM l.l=1))/\F 15=.sl (bU b) 1 ((sets b).map encS)/\F 16=.n (sets b).length/\F 17=.n (k:Nat)/\H=h++[qG 4 [I7 b]]) (sets b).length ⟨0,BA,rfl,rfl,rfl,rfl,rfl,rfl⟩ ?_;rintro n F H ⟨k,hk,q,j,f15,f16,f17,rfl⟩;refine DC f15 f16 f17 ?_;refine DX ?_ ?_<;>intro a
 .simp only[vQ,CQ,↓reduceIte,jC,enP,tG,f15,f17,CP a,BR TB a,lB]
  refine(ADA G _ _ _ (g.sets _ (List.getElem_mem a))).use ?_;have C:=Z4 (fun l:Rs=>decide (JM l.l=2)) (sets b) k a;have B:=Z4 (fun l:Rs=>decide (JM l.l=1)) (sets b) k a;refine AB ?_;refine BH ?_ ?_<;>intro i
  .have d:JM (sets b)[k].l=2:=BL i
   refine A7 f17 (wrap_succ (show k<9223372036854775807 by have:=g.num;omega)) ?_;refine⟨n-1,U,k+1,U,?_,?_,f15,f16,rfl,trivial⟩
   .rw[C,d];simp
   .rw[j,B,d];simp
  refine AB ?_;refine BH ?_ ?_<;>intro p
  .have e:JM (sets b)[k].l=1:=BL p
   refine A7 f17 (wrap_succ (show k<9223372036854775807 by have:=g.num;omega)) ?_;refine⟨n-1,U,k+1,U,?_,?_,f15,f16,rfl,trivial⟩
   .rw[q,C,e];simp
   .rw[B,e];simp
  .have d:JM (sets b)[k].l≠2:=BL i
   have e:JM (sets b)[k].l≠1:=BL p;refine A7 f17 (wrap_succ (show k<9223372036854775807 by have:=g.num;omega)) ?_;refine⟨n-1,U,k+1,U,?_,?_,f15,f16,rfl,trivial⟩
   .rw[q,C];simp [d]
   .rw[j,B];simp [e]
 .rw[jK U] at q j
  have A:=AP4 f c.1 c.2;refine A7 q j ?_;refine BH ?_ ?_<;>intro i
  .refine AB ?_
   exact⟨by rw[A,if_pos i],_,rfl⟩
  refine AY j ?_;refine BH ?_ ?_<;>intro p
  .refine AB ?_
   exact⟨by rw[A,if_neg (by rw[i];simp),if_pos p],_,rfl⟩
  .refine AB ?_
   exact⟨by rw[A,if_neg (by rw[i];simp),if_neg (by rw[p];simp)],_,rfl⟩
theorem valid_ref (b:Bin)(f:BinOk b)(h:Hp):PCall (En G) 195 [.agg (I7 b)] h (.n (IR b)):=by
 refine ACalls.pure0 rfl ?_;refine acT Tryz.func195 2 ?_;refine LC @AAV @bxB @AL6 ?_;refine(O9 G b.name _).uu ?_;refine BH ?_ ?_<;>intro R
 .refine AB ?_
  exact⟨by rw[kM (BL R)],_,rfl⟩
 have E:FI b.name=true:=BL R;refine UK @VD ?_;refine RZ (fun F H=>F 53=.bool (JX b)/\F 1=.ptr h.length 0 0/\H=h++[qG 4 [I7 b]]) ?_ ?_
 .refine IW ?_ ?_<;>intro i
  .refine AY i ?_
   exact⟨by unfold JX;rw[i];rfl,trivial,trivial⟩
  refine LD i @VD ?_;refine IW ?_ ?_<;>intro f
  .refine AY f ?_
   exact⟨by unfold JX;rw[i,f];rfl,trivial,trivial⟩
  refine OH be4 f @cD @XC ?_;refine IW ?_ ?_<;>intro q
  .refine AY q ?_
   exact⟨by unfold JX;rw[i,f,q];rfl,trivial,trivial⟩
  refine LD q @VD ?_;refine IW ?_ ?_<;>intro d
  .refine LD d @XC ?_
   refine IW ?_ ?_<;>intro C
   .refine AY C ?_
    exact⟨by unfold JX;rw[i,f,q,d,C];rfl,trivial,trivial⟩
   refine LD C @XC ?_;refine IW ?_ ?_<;>intro p
   .refine AY p ?_
    exact⟨by unfold JX;rw[i,f,q,d,C,p];rfl,trivial,trivial⟩
   .refine LD p @XC ?_
    exact⟨by unfold JX;rw[i,f,q,d,C,p];rfl,trivial,trivial⟩
  .refine LD d @XC ?_
   refine IW ?_ ?_<;>intro p
   .refine AY p ?_
    exact⟨by unfold JX;rw[i,f,q,d,p];rfl,trivial,trivial⟩
   .refine LD p @XC ?_
    exact⟨by unfold JX;rw[i,f,q,d,p];rfl,trivial,trivial⟩
 rintro F H ⟨O,j,rfl⟩;refine A7 O j ?_;refine BH ?_ ?_<;>intro S
 .refine AB ?_
  exact⟨by rw[dR E S],_,rfl⟩
 refine AB ?_;refine EK 0 (fun F H=>F 1=.ptr h.length 0 0/\H=h++[qG 4 [I7 b]]/\b.steps.any (fun l=>decide (l.l.length=0))=false) (fun F H=>F 2=.n (IR b)/\H=h++[qG 4 [I7 b]]) ?_ ?_ ?_
 .refine BB (fun n F H=>∃k,n+k=b.steps.length/\F 1=.ptr h.length 0 0/\F 3=.n (k:Nat)/\H=h++[qG 4 [I7 b]]/\(b.steps.take k).any (fun l=>decide (l.l.length=0))=false) b.steps.length ⟨0,BA,UD j,EZ,rfl,rfl⟩ ?_
  rintro n F H ⟨k,hk,j,M,rfl,c⟩;refine LC j M @XC ?_;refine DX ?_ ?_<;>intro a
  .have J:=Z4 (fun l:Rs=>decide (l.l.length=0)) b.steps k a
   simp only[vQ,CQ,↓reduceIte,jC,enP,ZJ,tG,pO,j,M,EI YG,XC,CP a,BR TB a,lB,jI];refine BH ?_ ?_<;>intro d
   .refine AB ?_
    refine⟨?_,trivial⟩
    have:b.steps.any (fun l=>decide (l.l.length=0))=true:=by
     rw[qJ];exact⟨b.steps[k],BA,by simp at d;simp [d]⟩
    rw[dS E this]
   .refine A7 M (wrap_succ (show k<9223372036854775807 by have:=f.steps;omega)) ?_
    refine⟨n-1,U,k+1,U,j,rfl,trivial,?_⟩;rw[J,c];simp at d;simp [d]
  .refine AB ?_
   rw[jK U] at c;exact⟨j,trivial,c⟩
 .rintro F H ⟨j,rfl,C⟩
  have Q:JX b=false:=BL S;have I:=YZ E Q C;refine A7 j @ldB ?_;refine(AQR G b _).uu ?_;refine EK 2 (fun F H=>F 4=.sl (bU b) 1 ((sets b).map encS)/\H=h++[qG 4 [I7 b]]/\(sets b).any (fun l=>decide (l.l.length>64))=false) (fun F H=>F 2=.n (IR b)/\H=h++[qG 4 [I7 b]]) ?_ ?_ ?_
  .refine BB (fun n F H=>∃k,n+k=(sets b).length/\F 4=.sl (bU b) 1 ((sets b).map encS)/\F 5=.n (k:Nat)/\H=h++[qG 4 [I7 b]]/\((sets b).take k).any (fun l=>decide (l.l.length>64))=false) (sets b).length ⟨0,BA,EZ,EZ,rfl,rfl⟩ ?_
   rintro n F H ⟨k,hk,g,N,rfl,c⟩;refine A7 g N ?_;refine DX ?_ ?_<;>intro a
   .have J:=Z4 (fun l:Rs=>decide (l.l.length>64)) (sets b) k a
    simp only[vQ,CQ,↓reduceIte,jC,enP,ZJ,tG,g,N,CP a,BR TB a,lB,jI];refine BH ?_ ?_<;>intro d
    .refine AB ?_
     refine⟨?_,trivial⟩
     have:(sets b).any (fun l=>decide (l.l.length>64))=true:=by
      rw[qJ];exact⟨(sets b)[k],BA,by simp at d|-;omega⟩
     rw[I,if_pos this]
    .refine A7 N (wrap_succ (show k<9223372036854775807 by have:=f.num;omega)) ?_
     refine⟨n-1,U,k+1,U,g,rfl,trivial,?_⟩;rw[J,c]
     simp at d|-
     omega
   .refine AB ?_
    rw[jK U] at c;exact⟨g,trivial,c⟩
  .rintro F H ⟨g,rfl,B⟩
   rw[B] at I;simp only[Bool.false_eq_true,if_false] at I;refine AY g ?_;refine BB (fun n F H=>∃k,n+k=(sets b).length/\F 4=.sl (bU b) 1 ((sets b).map encS)/\F 6=.n (k:Nat)/\H=h++[qG 4 [I7 b]]/\((sets b).take k).any (fun l=>l.l.any bad)=false) (sets b).length ⟨0,BA,UD g,EZ,rfl,rfl⟩ ?_;rintro n F H ⟨k,hk,g,P,rfl,c⟩;refine A7 g P ?_;refine DX ?_ ?_<;>intro a
   .have J:=Z4 (fun l:Rs=>l.l.any bad) (sets b) k a
    simp only[vQ,CQ,↓reduceIte,jC,enP,tG,g,P,CP a,BR TB a,lB,jI];refine(AHL G _ _ _).use ?_
    have A:¬(sets b)[k].l.length>64:=by
     rw[qQ] at B;have:=B (sets b)[k] BA;simpa using this
    refine AB ?_
    cases e:(sets b)[k].l.any bad with
    | true =>
      have K:=Y8 A e;refine BH ?_ ?_<;>intro d
      .refine AB ?_
       refine⟨?_,_,rfl⟩
       have:(sets b).any (fun l=>l.l.any bad)=true:=by
        rw[qJ];exact⟨(sets b)[k],BA,e⟩
       rw[K,I,if_pos this]
      .rw[K] at d;simp at d
    | false =>
      have K:=cO A e;refine BH ?_ ?_<;>intro d
      .rw[K] at d;simp at d
      .refine A7 P (wrap_succ (show k<9223372036854775807 by have:=f.num;omega)) ?_
       refine⟨n-1,U,k+1,U,g,rfl,trivial,?_⟩;rw[J,c,e];rfl
   .refine AB ?_
    rw[jK U] at c;exact⟨by rw[I,if_neg (by rw[c];simp)],_,rfl⟩
  .rintro F H ⟨L,rfl⟩
   refine AB ?_;exact⟨L,_,rfl⟩
 .rintro F H ⟨L,rfl⟩
  refine AB ?_;exact⟨by rw[L],_,rfl⟩
end Go.Proofs.YtiihpnicbekebaaGreatDoor.Bins
namespace Go.Proofs.YtiihpnicbekebaaGreatDoor.Cov
open Sm Bins
variable (G:Nat->AV )
inductive Ex where
 | mk (op n:Int) (name:ByteArray) (m:SM) (args:List Ex)
def Ex.op:Ex->Int|.mk op _ _ _ _=>op
def Ex.n:Ex->Int|.mk _ n _ _ _=>n
def Ex.name:Ex->ByteArray|.mk _ _ name _ _=>name
def Ex.m:Ex->SM|.mk _ _ _ m _=>m
def Ex.args:Ex->List Ex|.mk _ _ _ _ args=>args
mutual
def AQ:Ex->List AV
 | .mk c n b m a=>[.n c,.n n,.str b,.sl m 4 (AFB a)]
def AFB:List Ex->List (List AV)
 | []=>[]
 | e::es=>AQ e::AFB es
end
theorem wA:∀l:List Ex,AFB l=l.map AQ
 | []=>by simp [AFB]
 | e::es=>by simp [AFB,wA es]
theorem FK (e:Ex):AQ e=[.n e.op,.n e.n,.str e.name,.sl e.m 4 (e.args.map AQ)]:=by
 cases e;simp [AQ,wA,Ex.op,Ex.n,Ex.name,Ex.m,Ex.args]
theorem EC (e:Ex):(AQ e).length=4:=by rw[FK];rfl
theorem KD (e:Ex):(AQ e)[0]?=some (.n e.op):=by rw[FK];rfl
theorem cC (e:Ex):(AQ e)[1]?=some (.n e.n):=by rw[FK];rfl
theorem SG (e:Ex):(AQ e)[2]?=some (.str e.name):=by rw[FK];rfl
theorem YL (e:Ex):(AQ e)[3]?=some (.sl e.m 4 (e.args.map AQ)):=by rw[FK];rfl
theorem S9 (e:Ex):(AQ e).all AV.leaf=true:=by rw[FK];rfl
theorem bxE (h:Hp)(e:Ex):OU h (.agg (AQ e))=some (.ptr h.length 0 0,h++[qG 4 [AQ e]]):=by
 have:=bE (h:=h) (S9 e);rw[EC] at this;exact this
theorem ldE (h:Hp)(e:Ex):BO jA (h++[qG 4 [AQ e]]) 79 (.ptr h.length 0 0)=some (.agg (AQ e)):=by
 rw[aT NI GZ (by rw[EC];exact jF 4)];rw[zI,jK (by rw[EC];exact jF 4)]
theorem IC {h:Hp}{b:Nat}{e:Ex}(a:h[b]?=some (qG 4 [AQ e])):BO jA h 79 (.ptr b 0 0)=some (.agg (AQ e)):=by
 rw[EN NI GZ a rfl (by rw[EC];exact jF 4)];rw[zI,jK (by rw[EC];exact jF 4)]
mutual
def pre:Ex->List Ex
 | .mk c n b m a=>.mk c n b m a::FT a
def FT:List Ex->List Ex
 | []=>[]
 | e::es=>pre e++FT es
end
mutual
def dep:Ex->Nat
 | .mk _ _ _ _ a=>deps a+1
def deps:List Ex->Nat
 | []=>0
 | e::es=>max (dep e) (deps es)
end
mutual
def wt:Ex->Nat
 | .mk _ _ b _ a=>b.size+1+wts a
def wts:List Ex->Nat
 | []=>0
 | e::es=>wt e+wts es
end
theorem pre_eq (e:Ex):pre e=e::FT e.args:=by cases e;simp [pre,Ex.args]
theorem YA (e:Ex):dep e=deps e.args+1:=by cases e;simp [dep,Ex.args]
theorem N7 (e:Ex):wt e=e.name.size+1+wts e.args:=by cases e;simp [wt,Ex.args,Ex.name]
theorem NQ (xs ys:List Ex):FT (xs++ys)=FT xs++FT ys:=by
 induction xs with
 | nil=>simp [FT]
 | cons x xs a=>simp [FT,a]
theorem XQ (xs:List Ex):xs.length<=wts xs:=by
 induction xs with
 | nil=>simp [wts]
 | cons x xs a=>have:=N7 x;simp [wts];omega
theorem XP {xs:List Ex}{x:Ex}(h:x∈xs):wt x<=wts xs:=by
 induction xs with
 | nil=>cases h
 | cons y b a =>
   simp only[wts]
   cases List.mem_cons.1 h with
   | inl e=>subst e;omega
   | inr e=>have:=a e;omega
theorem wZ (xs:List Ex)(k:Nat)(h:k<xs.length):deps (xs.take (k+1))=max (deps (xs.take k)) (dep xs[k]):=by
 induction xs generalizing k with
 | nil=>simp at h
 | cons x xs a =>
   cases k with
   | zero=>simp [deps]
   | succ k =>
     simp only[List.take_succ_cons,deps,List.getElem_cons_succ];rw[a k (BL h),Nat.max_assoc]
theorem Ex.induct {P:Ex->Prop}(h:∀e:Ex,(∀a∈e.args,P a)->P e)(e:Ex):P e:=by
 have:∀n (e:Ex),wt e<=n->P e:=by
  intro n
  induction n with
  | zero=>intro e c;have:=N7 e;omega
  | succ n d =>
    intro e c;refine h e fun a b=>d a ?_
    have f:=XP b;have g:=N7 e;omega
 exact this _ e (jF _)
theorem ATM (e:Ex):dep e<=wt e:=by
 refine Ex.induct (P:=fun e=>dep e<=wt e) (fun e b=>?_) e;rw[YA,N7]
 have:deps e.args<=wts e.args:=by
  generalize e.args=l at b
  induction l with
  | nil=>simp [deps,wts]
  | cons x l c =>
    have f:=b x BA;have g:=c (fun a d=>b a (by simp [d]));simp only[deps,wts];omega
 omega
theorem XX (e:Ex):(pre e).length<=wt e:=by
 refine Ex.induct (P:=fun e=>(pre e).length<=wt e) (fun e b=>?_) e;rw[pre_eq,N7]
 have:(FT e.args).length<=wts e.args:=by
  generalize e.args=l at b
  induction l with
  | nil=>simp [FT,wts]
  | cons x l c =>
    have f:=b x BA;have g:=c (fun a d=>b a (by simp [d]));simp only[FT,wts,List.length_append];omega
 simp;omega
def arity (op:Int):Int:=if op<1\/op>25 then -1 else if op=1\/op=2\/op=24 then 0 else if op=3\/op=4\/op=5\/op=6\/op=25 then 1 else if op=22 then 3 else if op=23 then -1 else 2
theorem AJD (op:Int)(h:Hp):PCall (En G) 299 [.n op] h (.n (arity op)):=by
 refine acT Tryz.func299 2 ?_;have b:op<1\/op>25\/op=1\/op=2\/op=3\/op=4\/op=5\/op=6\/op=7\/op=8\/op=9\/op=10\/op=11\/op=12\/op=13\/op=14\/op=15\/op=16\/op=17\/op=18\/op=19\/op=20\/op=21\/op=22\/op=23\/op=24\/op=25:=U;rcases b with h|h|rfl|rfl|rfl|rfl|rfl|rfl|rfl|rfl|rfl|rfl|rfl|rfl|rfl|rfl|rfl|rfl|rfl|rfl|rfl|rfl|rfl|rfl|rfl|rfl|rfl
 .have a:∀k:Int,1<=k->(op==k)=false:=fun k hk=>beq_eq_false_iff_ne.2 U
  have d:decide (op<1)=true:=by simp;omega
  have c:arity op = -1:=by unfold arity;rw[if_pos (Or.inl h)]
  rw[c];simp only[vQ,EP,fZ,CQ,GI,↓reduceIte,jC,enX,enP,a 1 DU,a 2 DU,a 3 DU,a 4 DU,a 5 DU,a 6 DU,a 7 DU,a 8 DU,a 9 DU,a 10 DU,a 11 DU,a 12 DU,a 13 DU,a 14 DU,a 15 DU,a 16 DU,a 17 DU,a 18 DU,a 19 DU,a 20 DU,a 21 DU,a 22 DU,a 23 DU,a 24 DU,a 25 DU,d];exact G7
 .have a:∀k:Int,k<=25->(op==k)=false:=fun k hk=>beq_eq_false_iff_ne.2 U
  have d:decide (op<1)=false:=by simp;omega
  have e:decide (op>25)=true:=by simp;omega
  have c:arity op = -1:=by unfold arity;rw[if_pos (Or.inr h)]
  rw[c];simp only[vQ,EP,CQ,↓reduceIte,jC,enX,enP,a 1 DU,a 2 DU,a 3 DU,a 4 DU,a 5 DU,a 6 DU,a 7 DU,a 8 DU,a 9 DU,a 10 DU,a 11 DU,a 12 DU,a 13 DU,a 14 DU,a 15 DU,a 16 DU,a 17 DU,a 18 DU,a 19 DU,a 20 DU,a 21 DU,a 22 DU,a 23 DU,a 24 DU,a 25 DU,d,e];exact G7
 all_goals
  simp only[vQ,rO,EP,CQ,↓reduceIte,jC,decide_false,enX,enP,qW,Int.reduceLT,Int.reduceGT];exact⟨rfl,trivial⟩
theorem APH (op:Int)(h:Hp):PCall (En G) 332 [.n op] h (.n (arity op)):=by
 refine acT Tryz.func332 2 ?_;have b:op<1\/op>25\/op=1\/op=2\/op=3\/op=4\/op=5\/op=6\/op=7\/op=8\/op=9\/op=10\/op=11\/op=12\/op=13\/op=14\/op=15\/op=16\/op=17\/op=18\/op=19\/op=20\/op=21\/op=22\/op=23\/op=24\/op=25:=U;rcases b with h|h|rfl|rfl|rfl|rfl|rfl|rfl|rfl|rfl|rfl|rfl|rfl|rfl|rfl|rfl|rfl|rfl|rfl|rfl|rfl|rfl|rfl|rfl|rfl|rfl|rfl
 .have a:∀k:Int,1<=k->(op==k)=false:=fun k hk=>beq_eq_false_iff_ne.2 U
  have d:decide (op<1)=true:=by simp;omega
  have c:arity op = -1:=by unfold arity;rw[if_pos (Or.inl h)]
  rw[c];simp only[vQ,EP,fZ,CQ,GI,↓reduceIte,jC,enX,enP,a 1 DU,a 2 DU,a 3 DU,a 4 DU,a 5 DU,a 6 DU,a 7 DU,a 8 DU,a 9 DU,a 10 DU,a 11 DU,a 12 DU,a 13 DU,a 14 DU,a 15 DU,a 16 DU,a 17 DU,a 18 DU,a 19 DU,a 20 DU,a 21 DU,a 22 DU,a 23 DU,a 24 DU,a 25 DU,d];exact G7
 .have a:∀k:Int,k<=25->(op==k)=false:=fun k hk=>beq_eq_false_iff_ne.2 U
  have d:decide (op<1)=false:=by simp;omega
  have e:decide (op>25)=true:=by simp;omega
  have c:arity op = -1:=by unfold arity;rw[if_pos (Or.inr h)]
  rw[c];simp only[vQ,EP,CQ,↓reduceIte,jC,enX,enP,a 1 DU,a 2 DU,a 3 DU,a 4 DU,a 5 DU,a 6 DU,a 7 DU,a 8 DU,a 9 DU,a 10 DU,a 11 DU,a 12 DU,a 13 DU,a 14 DU,a 15 DU,a 16 DU,a 17 DU,a 18 DU,a 19 DU,a 20 DU,a 21 DU,a 22 DU,a 23 DU,a 24 DU,a 25 DU,d,e];exact G7
 all_goals
  simp only[vQ,rO,CQ,↓reduceIte,jC,enX,enP,qW,Int.reduceLT,Int.reduceGT];exact⟨rfl,trivial⟩
def KW (op:Int):Bool:=op==2||op==3||op==24
theorem aQ (op:Int)(h:Hp):PCall (En G) 331 [.n op] h (.bool (KW op)):=by
 refine acT Tryz.func331 2 ?_;refine AB ?_;cases a:(op==2)<;>cases b:(op==3)
 all_goals
  refine A7 a b ?_;exact⟨by simp [KW,a,b],trivial⟩
def XZ (op:Int)(n:Nat):Bool:=if op==23 then ((n:Int)%2==1)&&decide ((n:Int)≥3)&&decide ((n:Int)<=33) else ((n:Int)==arity op)
theorem tA (e:Ex)(h:Hp):PCall (En G) 249 [.agg (AQ e)] h (.bool (XZ e.op e.args.length)):=by
 refine ACalls.pure0 rfl ?_;refine acT Tryz.func249 2 ?_;refine LC @bxE @YL @KD ?_;generalize g:e.args.length=n;have f:(n:Int).tmod 2=(n:Int)%2:=Int.tmod_eq_emod_of_nonneg U;have d:IQ jA 3 .rem (.n (n:Int)) (.n 2)=some (.n ((n:Int)%2)):=by rw[bF _ _ _ _ _ DU,f]
 refine BH ?_ ?_<;>intro c
 .refine AY d ?_
  cases a:((n:Int)%2==1)<;>cases b:decide ((n:Int)≥3)
  all_goals
   refine A7 a b ?_;exact⟨by unfold XZ;rw[if_pos c,a,b];simp,_,rfl⟩
 .refine UK @KD ?_
  refine(AJD G e.op _).uu ?_;exact⟨by unfold XZ;rw[if_neg (by rw[c];decide)],_,rfl⟩
end Go.Proofs.YtiihpnicbekebaaGreatDoor.Cov
namespace Go.Proofs.YtiihpnicbekebaaGreatDoor.Cov
open Sm Bins Go.Shelf Go.RowKit
def ATR:Go.Shelf.Ren:=⟨fun|145=>232|220=>287|219=>323|217=>354|225=>355|224=>356|267=>357|266=>394|314=>395|n=>n,fun|9=>9|4=>4|59=>284|3=>3|5=>5|46=>344|146=>373|51=>364|n=>n,fun|1=>1|n=>n⟩
theorem A7U:Go.Proofs.Lays.n145 Tryz.prog ATR := {
 mixed:=BC,
 f145:=Tryz.func232.trans (congrArg some BC),
 f217:=Tryz.func354.trans (congrArg some BC),
 f219:=Tryz.func323.trans (congrArg some BC),
 f220:=Tryz.func287.trans (congrArg some BC),
 f224:=Tryz.func356.trans (congrArg some BC),
 f225:=Tryz.func355.trans (congrArg some BC),
 f266:=Tryz.func394.trans (congrArg some BC),
 f267:=Tryz.func357.trans (congrArg some BC),
 f314:=Tryz.func395.trans (congrArg some BC),
 t3:=Tryz.underlying3,
 a3:=Tryz.isAgg3,
 z3:=Tryz.sizeOf3,
 v3:=Tryz.zeroValue3,
 t4:=Tryz.underlying4,
 a4:=Tryz.isAgg4,
 z4:=Tryz.sizeOf4,
 v4:=Tryz.zeroValue4,
 t5:=Tryz.underlying5,
 a5:=Tryz.isAgg5,
 z5:=Tryz.sizeOf5,
 v5:=Tryz.zeroValue5,
 t9:=Tryz.underlying9,
 a9:=Tryz.isAgg9,
 z9:=Tryz.sizeOf9,
 v9:=Tryz.zeroValue9,
 t46:=Tryz.underlying344,
 a46:=Tryz.isAgg344,
 z46:=Tryz.sizeOf344,
 v46:=Tryz.zeroValue344,
 t51:=Tryz.underlying364,
 a51:=Tryz.isAgg364,
 z51:=Tryz.sizeOf364,
 v51:=Tryz.zeroValue364,
 t59:=Tryz.underlying284,
 a59:=Tryz.isAgg284,
 z59:=Tryz.sizeOf284,
 v59:=Tryz.zeroValue284,
 t146:=Tryz.underlying373,
 a146:=Tryz.isAgg373,
 z146:=Tryz.sizeOf373,
 v146:=Tryz.zeroValue373,
 g1:=by kernel_rfl }
structure GOk (G:Nat->AV):Prop where
 kw:KwG G
 mx:∃n,G 1=.fptr 1 [[.n n]] 0 0
theorem ASR {G:Nat->AV}{g:Gh}{h:Hp}{w:World}{n:Nat}{k:IntKind}{z:Int}(S:SimH (En G) g h w)(C:G n=.fptr 1 [[.int k z]] 0 0):w.cell? ⟨n,0,none⟩=some (.int k z):=by
 have:=S.glob n;rw[enG,C] at this;generalize f:Value.pointer (some ⟨n,0,none⟩)=p at this
 cases this with
 | fptr J K i j E F c e H l q I A B =>
   simp only[Value.pointer.injEq,Option.some.injEq,Addr.mk.injEq] at f;obtain⟨rfl,a,_⟩:=f;have b:=A 0 0 BA BA;have d:=B 0 0 _ _ rfl rfl;generalize l 0 0=u at b d;cases d;simp only[World.cell?,S.fro _ _ q];subst a;exact b
def cutV (s:ByteArray):AV:=.tup [.str ⟨(Lib.cut s.data.toList [91]).1.toArray⟩,.str ⟨(Lib.cut s.data.toList [91]).2.1.toArray⟩,.bool (Lib.cut s.data.toList [91]).2.2]
theorem rE (G:Nat->AV)(q:GOk G)(s:ByteArray)(h:Hp)(F:s.size<=1048576):PCall (En G) 232 [.str s,.str ⟨#[91]⟩] h (cutV s):=by
 refine PCall.of_reads (cok 232 G BC) fun g w c S A=>?_
 obtain⟨p,f⟩:=A
 obtain⟨j,k,rfl⟩:∃a b,c = #[a,b]:=by
  obtain⟨l⟩:=c
  match l,p with
  | [a,b],_=>exact⟨a,b,rfl⟩
 obtain rfl:=(f 0 _ j rfl rfl).str_inv;obtain rfl:=(f 1 _ k rfl rfl).str_inv;obtain⟨z,C⟩:=q.mx;have B:=ASR S C;have:=Any.strings_Cut A7U s ⟨#[91]⟩ z w U B;refine⟨_,?_,this⟩;refine .tup _ _ rfl ?_;intro i v E d e
 match i,d,e with
 | 0,d,e=>simp at d e;subst d;subst e;exact .str _ _
 | 1,d,e=>simp at d e;subst d;subst e;exact .str _ _
 | 2,d,e=>simp at d e;subst d;subst e;exact .bool _ _
def KE (s:ByteArray):Option (List UInt8×UInt8) :=
 if 4<=s.data.toList.length then match s.data.toList.drop (s.data.toList.length-3) with
  | [x,d,y]=>if(y==93&&x==91&&decide (48<=d.toNat)&&decide (d.toNat<56)&&FI ⟨(s.data.toList.take (s.data.toList.length-3)).toArray⟩)=true then some (s.data.toList.take (s.data.toList.length-3),d) else none
  | _=>none
 else none
def elemV (o:Option (List UInt8×UInt8)):AV:=match o with
 | some (a,d)=>.tup [.str ⟨a.toArray⟩,.n ((d.toNat:Int)-48),.bool true]
 | none=>.tup [.str ⟨#[]⟩,.n 0,.bool false]
theorem UQ {l:List UInt8}(h:FI ⟨l.toArray⟩=true):l≠[]/\∀b∈l,b≠91:=by
 have a:WR ⟨l.toArray⟩=true:=by
  unfold FI at h;exact(Bool.and_eq_true_iff.1 (Bool.and_eq_true_iff.1 h).1).1
 unfold WR at a;obtain⟨c,d⟩:=Bool.and_eq_true_iff.1 a;refine⟨?_,?_⟩
 .intro e;subst e;cases c
 .intro b f e
  subst e;have:=List.all_eq_true.1 d 91 f
  revert this;decide
theorem three {l:List UInt8}(h:3<=l.length):∃a x d y,l=a++[x,d,y]:=by
 refine⟨l.take (l.length-3),?_⟩;have b:(l.drop (l.length-3)).length=3:=by simp;omega
 match hm:l.drop (l.length-3),b with
 | [x,d,y],_=>exact⟨x,d,y,by rw[<-hm,wE]⟩
theorem fJ {a:List UInt8}{x d y:UInt8}(b:a≠[]):KE ⟨(a++[x,d,y]).toArray⟩=if(y==93&&x==91&&decide (48<=d.toNat)&&decide (d.toNat<56)&&FI ⟨a.toArray⟩)=true then some (a,d) else none:=by
 have c:0<a.length:=List.length_pos_iff.2 b;unfold KE;simp only;rw[if_pos NZ];have e:(a++[x,d,y]).length-3=a.length:=BA;rw[e,List.drop_left,List.take_left]
theorem qT (s:ByteArray):KE s=if((Lib.cut s.data.toList [91]).2.2&&FI ⟨(Lib.cut s.data.toList [91]).1.toArray⟩)=true then match (Lib.cut s.data.toList [91]).2.1 with
  | [d,y]=>if(y==93&&decide (48<=d.toNat)&&decide (d.toNat<56))=true then some ((Lib.cut s.data.toList [91]).1,d) else none
  | _=>none
 else none:=by
 obtain⟨⟨l⟩⟩:=s
 have c:∀i,Lib.occAt l [91] i=true↔l[i]?=some 91:=by
  intro i;unfold Lib.occAt;rcases Nat.lt_or_ge i l.length with h|h
  .rw[zX h,jO h]
   simp [List.isPrefixOf];exact eq_comm
  .rw[List.drop_eq_nil_of_le h,List.getElem?_eq_none h];simp [List.isPrefixOf]
 -- an element name of the reference's kind
 have H:∀a d,a≠[]->FI ⟨a.toArray⟩=true->l=a++[91,d,93]->Lib.cut l [91]=(a,[d,93],true):=by
  intro a d F M g;obtain⟨_,E⟩:=UQ M
  have C:Lib.index l [91]=(a.length:Int):=by
   refine Lib.index_first (by rw[g];simp) ((c _).2 (by rw[g];simp)) fun j p=>?_
   rw[<-Bool.not_eq_true,c,g,List.getElem?_append_left p,jO p];intro e;exact E _ (List.getElem_mem p) (Option.some.inj e)
  unfold Lib.cut;rw[C,if_pos U,qM,g,List.take_left,<-List.drop_drop,List.drop_left];rfl
 show KE ⟨l.toArray⟩=_;rcases hcase:KE ⟨l.toArray⟩ with _|⟨a,d⟩
 .symm
  show(if _ then _ else none)=none;simp only;split
  .rename_i k
   rw[jX] at k;split
   .rename_i d y P
    split
    .rename_i G
     exfalso;simp only[jX,beq_iff_eq,decide_eq_true_eq] at G;obtain⟨⟨rfl,A⟩,B⟩:=G;obtain⟨F,_⟩:=UQ k.2;have f:Lib.cut l [91]=((Lib.cut l [91]).1,[d,93],true):=by grind
     have g:l=(Lib.cut l [91]).1++[91,d,93]:=by
      generalize (Lib.cut l [91]).1=b at f;unfold Lib.cut at f;split at f
      .rename_i O
       obtain⟨i,C⟩:∃i:Nat,Lib.index l [91]=i:=⟨(Lib.index l [91]).toNat,U⟩;rw[C] at f;simp only[qM,Prod.mk.injEq,List.length_singleton] at f;rcases Lib.index_spec l [91] with⟨I,_⟩|⟨j,I,_,J,_⟩
       .omega
       .have p:i=j:=U
        subst p;have q:=(c i).1 J;have K:i<l.length:=(List.getElem?_eq_some_iff.1 q).1;have L:l[i]=91:=by simp_all
        rw[<-f.1]
        calc l=l.take i++l.drop i:=(wE i l).symm
         _=l.take i++(l[i]::l.drop (i+1)):=by rw[zX K]
         _=l.take i++[91,d,93]:=by rw[L,f.2.1]
      .simp at f
     have:=fJ (x:=91) (d:=d) (y:=93) F;rw[<-g,hcase,if_pos (by simp [k.2,A,B])] at this;cases this
    .rfl
   .rfl
  .rfl
 .have q:4<=l.length:=by
   unfold KE at hcase;simp only at hcase;split at hcase
   .assumption
   .cases hcase
  obtain⟨b,x,N,y,rfl⟩:=three (U:3<=l.length);have k:b≠[]:=by intro e;subst e;simp at q
  rw[fJ k] at hcase;split at hcase
  .simp_all
  .cases hcase
end Go.Proofs.YtiihpnicbekebaaGreatDoor.Cov
namespace Go.Proofs.YtiihpnicbekebaaGreatDoor.Cov
open Sm Bins Go.RowKit
variable {a ba c cb dd i k m m2 n u:Nat} {H h h':Hp} {v v1 v2 x:AV} {F:Fr} {row:List AV} {f:Int} {P:Program} {R:AV->Hp->Prop} (G:Nat->AV )
theorem AMA (l:List UInt8):(Lib.cut l [91]).1.length<=l.length:=by
 unfold Lib.cut;split
 .simp only[jR];exact Nat.min_le_right _ _
 .exact jF _
theorem ixl {l:List UInt8}{b:UInt8}{i:Int}(g:i=(k:Int))(d:l[k]?=some b):QR jA 9 (.str ⟨l.toArray⟩) (.n i)=some (.int .u8 b.toNat):=by
 subst g;have hk:k<l.length:=(List.getElem?_eq_some_iff.1 d).1;have:=ix9 ⟨l.toArray⟩ k .i64 hk;rw[this];have e:(⟨l.toArray⟩:ByteArray)[k]'hk=l[k]:=rfl;rw[e];rw[jO hk] at d;rw[Option.some.inj d]
theorem szl (l:List UInt8):(⟨l.toArray⟩:ByteArray).size=l.length:=rfl
theorem wrap_u8 {n:Int}(b:0<=n)(d:n<256):IntKind.u8.wrap n=n:=by
 unfold IntKind.wrap;simp [IntKind.bits,IntKind.signed];omega
theorem ABA (K:GOk G)(s:ByteArray)(h:Hp)(Q:s.size<=1048576):PCall (En G) 300 [.str s] h (elemV (KE s)):=by
 refine acL Tryz.func300 [.tmp 2,.tmp 3,.tmp 4] ?_;refine AB ?_;refine(rE G K s h Q).use ?_;have j:=qT s;have l:=AMA s.data.toList;unfold cutV
 generalize Lib.cut s.data.toList [91]=c at j l|-
 obtain⟨a,b,f⟩:=c;have L:a.length<=s.size:=BL l;refine AB ?_;cases f
 .refine AB ?_
  exact⟨by rw[j];rfl,trivial⟩
 refine AB ?_;refine(NR G K.kw ⟨a.toArray⟩ h (by rw[szl];omega)).uu ?_;cases N:FI ⟨a.toArray⟩
 .refine AB ?_
  exact⟨by rw[j];simp [N];rfl,trivial⟩
 refine AY szl ?_;refine IW ?_ ?_<;>intro p
 .refine AY p ?_
  have I:∀d y,b≠[d,y]:=by
   intro d y e;subst e;simp at p
  have:KE s=none:=by
   rw[j];split
   .split
    .rename_i S;exact absurd S (I _ _)
    .rfl
   .rfl
  exact⟨by rw[this];rfl,trivial⟩
 have O:b.length=2:=by simp at p;omega
 match b,O with
 | [d,y],_ =>
   have T:QR jA 9 (.str ⟨[d,y].toArray⟩) (.n 1)=some (.int .u8 y.toNat):=ixl (k:=1) rfl rfl;have B:QR jA 9 (.str ⟨[d,y].toArray⟩) (.n 0)=some (.int .u8 d.toNat):=ixl (k:=0) rfl rfl
   have g:KE s=if(y==93&&decide (48<=d.toNat)&&decide (d.toNat<56))=true then some (a,d) else none:=by
    rw[j];simp [N]
   clear j;refine DC p T B ?_;refine IW ?_ ?_<;>intro q
   .refine AY q ?_
    have J:(y==93)=false:=by
     rw[<-Bool.not_eq_true];intro e;rw[beq_iff_eq] at e;subst e;simp at q
    exact⟨by rw[g,J];rfl,trivial⟩
   have J:(y==93)=true:=by
    rw[beq_iff_eq,<-UInt8.toNat_inj];simp at q;show y.toNat=93;omega
   refine A7 q B ?_;refine IW ?_ ?_<;>intro A
   .refine AY A ?_
    have:decide (48<=d.toNat)=false:=by simp at A|-;omega
    exact⟨by rw[g,this];simp;rfl,trivial⟩
   have C:48<=d.toNat:=by simp at A;omega
   refine A7 A B ?_;refine BH ?_ ?_<;>intro M
   .refine AB ?_
    have:decide (d.toNat<56)=false:=by simp at M|-;omega
    exact⟨by rw[g,this];simp;rfl,trivial⟩
   have E:d.toNat<56:=by simp at M;omega
   refine AB ?_;refine DR BC ?_;refine KO @APX @xZ @ATN B (wrap_u8 (n:=(d.toNat:Int)-48) U U) (wrap_i64 (n:=(d.toNat:Int)-48) U U) ?_;exact⟨by rw[g];simp [J,C,E];rfl,trivial⟩
theorem nK {s:ByteArray}(b:u<=s.size):IP jA h 9 (.str s) none (some (.n (u:Int))) none=some (.str (s.extract 0 u)):=by
 have:Tryz.prog.underlying 9=some .string:=BC;simp [IP,this,GU,b]
theorem AL0 (a b:List UInt8):(⟨(a++b).toArray⟩:ByteArray).extract 0 a.length=⟨a.toArray⟩:=by
 ext1
 simp
theorem AM1 (s:ByteArray)(h:Hp)(X:s.size<=1099511627776):PCall (En G) 369 [.str s] h (elemV (KE s)):=by
 refine acL Tryz.func369 [.tmp 2,.tmp 3,.tmp 4] ?_;obtain⟨⟨l⟩⟩:=s;rw[szl] at X;rcases zA l.length 4 with V|V
 .have B:decide ((l.length:Int)<4)=true:=by simp;omega
  refine A7 szl B ?_
  have:KE ⟨l.toArray⟩=none:=by
   unfold KE;rw[if_neg];simp;omega
  exact⟨by rw[this];rfl,trivial⟩
 obtain⟨b,x,d,y,rfl⟩:=three (U:3<=l.length);have j:(b++[x,d,y]).length=b.length+3:=BA;rw[j] at X V;have E:0<b.length:=U;have Z:b≠[]:=List.length_pos_iff.1 E;have p:=fJ (x:=x) (d:=d) (y:=y) Z;generalize hn:FI ⟨b.toArray⟩=nm at p;have M:QR jA 9 (.str ⟨(b++[x,d,y]).toArray⟩) (.n ((b.length:Int)+2))=some (.int .u8 y.toNat):=ixl (k:=b.length+2) U BA;have N:QR jA 9 (.str ⟨(b++[x,d,y]).toArray⟩) (.n ((b.length:Int)+1))=some (.int .u8 d.toNat):=ixl (k:=b.length+1) U BA;have O:QR jA 9 (.str ⟨(b++[x,d,y]).toArray⟩) (.n (b.length:Int))=some (.int .u8 x.toNat):=ixl (k:=b.length) rfl BA;have C:=nK (s:=⟨(b++[x,d,y]).toArray⟩) (u:=b.length) (h:=h) (by rw[szl];omega);rw[AL0] at C;have q:(⟨(b++[x,d,y]).toArray⟩:ByteArray).size=b.length+3:=by rw[szl,j]
 generalize (⟨(b++[x,d,y]).toArray⟩:ByteArray)=s at *;have Q:IntKind.i64.wrap (((b.length+3:Nat):Int)-1)=(b.length:Int)+2:=by rw[wrap_i64 U U];omega
 have S:IntKind.i64.wrap (((b.length+3:Nat):Int)-2)=(b.length:Int)+1:=by rw[wrap_i64 U U];omega
 have T:IntKind.i64.wrap (((b.length+3:Nat):Int)-3)=(b.length:Int):=by rw[wrap_i64 U U];omega
 have a0:d.toNat<256:=d.toNat_lt;have w4:IntKind.i64.wrap (d.toNat:Int)=(d.toNat:Int):=wrap_i64 U U;have w5:IntKind.i64.wrap ((d.toNat:Int)-48)=(d.toNat:Int)-48:=wrap_i64 U U;have Y:decide (((b.length+3:Nat):Int)<4)=false:=by simp;omega
 refine V7 q Y Q S T M N O C ?_;refine IW ?_ ?_<;>intro A
 .refine AY A ?_
  have L:(y==93)=false:=by
   rw[<-Bool.not_eq_true];intro e;rw[beq_iff_eq] at e;subst e;simp at A
  exact⟨by rw[p,L];simp;rfl,trivial⟩
 have L:(y==93)=true:=by
  rw[beq_iff_eq,<-UInt8.toNat_inj];simp at A;show y.toNat=93;omega
 refine V7 q A Q S T M N O C ?_;refine BH ?_ ?_<;>intro B
 .refine AB ?_
  have K:(x==91)=false:=by
   rw[<-Bool.not_eq_true];intro e;rw[beq_iff_eq] at e;subst e;simp at B
  exact⟨by rw[p,K];simp;rfl,trivial⟩
 have K:(x==91)=true:=by
  rw[beq_iff_eq,<-UInt8.toNat_inj];simp at B;show x.toNat=91;omega
 refine WP @ATN q Q S T M N O C w4 w5 ?_;refine IW ?_ ?_<;>intro g
 .refine AY g ?_
  have:decide (48<=d.toNat)=false:=by simp at g|-;omega
  exact⟨by rw[p,this];simp;rfl,trivial⟩
 have I:48<=d.toNat:=by simp at g;omega
 refine AY g ?_;refine IW ?_ ?_<;>intro g
 .refine AY g ?_
  have:decide (d.toNat<56)=false:=by simp at g|-;omega
  exact⟨by rw[p,this];simp;rfl,trivial⟩
 have J:d.toNat<56:=by simp at g;omega
 refine AY g ?_;refine(O9 G ⟨b.toArray⟩ h).use ?_;refine AY hn ?_;cases nm
 .refine AB ?_
  exact⟨by rw[p];simp;rfl,trivial⟩
 .refine AB ?_
  exact⟨by rw[p];simp [L,K,I,J];rfl,trivial⟩
def F7 (s:ByteArray):Bool:=(KE s).isSome||FI s
theorem rA (o:Option (List UInt8×UInt8)):∃a n,elemV o=.tup [.str a,.n n,.bool o.isSome]:=by
 cases o with
 | none=>exact⟨_,_,rfl⟩
 | some x=>exact⟨_,_,rfl⟩
theorem AH8 (b:GOk G)(s:ByteArray)(h:Hp)(g:s.size<=1048576):PCall (En G) 250 [.str s] h (.bool (F7 s)):=by
 refine acT Tryz.func250 2 ?_;refine AB ?_;refine(ABA G b s h g).use ?_;obtain⟨a,n,e⟩:=rA (KE s);rw[e];refine AB ?_;cases d:(KE s).isSome
 .refine AB ?_
  refine(NR G b.kw s h U).uu ?_;exact⟨by unfold F7;rw[d];rfl,trivial⟩
 .refine AB ?_
  exact⟨by unfold F7;rw[d];rfl,trivial⟩
theorem AOE (s:ByteArray)(h:Hp)(d:s.size<=1048576):PCall (En G) 333 [.str s] h (.bool (F7 s)):=by
 refine acT Tryz.func333 2 ?_;refine AB ?_;refine(AM1 G s h U).use ?_;obtain⟨a,n,e⟩:=rA (KE s);rw[e];refine AB ?_;cases b:(KE s).isSome
 .refine AB ?_
  refine(O9 G s h).uu ?_;exact⟨by unfold F7;rw[b];rfl,trivial⟩
 .refine AB ?_
  exact⟨by unfold F7;rw[b];rfl,trivial⟩
def QN (s:ByteArray):Bool:=s.toList==(⟨#[]⟩:ByteArray).toList
def badO (e:Ex):Bool:=decide (e.op<1)||decide (e.op>25)
def dG (e:Ex):Bool:=((e.op==1)&&(decide (e.n<0)||decide (e.n>65535)))||(!(e.op==1) && !(e.n==0))
def XG (e:Ex):Bool:=(!KW e.op && !QN e.name) || !XZ e.op e.args.length
def XF (e:Ex):Bool:=((e.op==2) && !F7 e.name)||(((e.op==3)||(e.op==24)) && !FI e.name)
def II (e:Ex):Int:=if badO e then 1 else if dG e then 1 else if XG e then 1 else if XF e then 7 else 0
theorem AN0 (N:GOk G)(e:Ex)(h:Hp)(S:e.name.size<=1048576):PCall (En G) 172 [.agg (AQ e)] h (.n (II e)):=by
 refine ACalls.pure0 rfl ?_;refine acT Tryz.func172 2 ?_;refine LD @bxE @KD ?_;refine RZ (fun F H=>F 3=.bool (KW e.op)/\F 1=.ptr h.length 0 0/\H=h++[qG 4 [AQ e]]) ?_ ?_
 .cases j:(e.op==2)<;>cases l:(e.op==3)
  all_goals
   refine LC j l @KD ?_;exact⟨by simp [KW,j,l],trivial,trivial⟩
 rintro F H ⟨g,d,rfl⟩;refine LC d g @KD ?_;refine RZ (fun F H=>F 17=.bool (badO e)/\F 3=.bool (KW e.op)/\F 1=.ptr h.length 0 0/\H=h++[qG 4 [AQ e]]) ?_ ?_
 .cases j:decide (e.op<1)
  all_goals
   refine OH j d g @KD ?_;exact⟨by simp [badO,j],trivial,trivial,trivial⟩
 clear d g;rintro F H ⟨f17,g,d,rfl⟩;refine AY f17 ?_;refine BH ?_ ?_<;>intro C
 .refine AB ?_
  exact⟨by unfold II;rw[if_pos C],_,rfl⟩
 refine OH d g @KD @cC ?_;refine RZ (fun F H=>F 26=.bool (dG e)/\F 3=.bool (KW e.op)/\F 1=.ptr h.length 0 0/\H=h++[qG 4 [AQ e]]) ?_ ?_
 .cases K:(e.op==1)<;>cases j:decide (e.n<0)<;>cases l:decide (e.n>65535)<;>cases p:(e.n==0)
  all_goals
   simp only[vQ,EP,UL,fY,fZ,APP,CQ,GI,↓reduceIte,jC,qN,enP,X6,pP,bne,K,j,l,p,d,g,EI ag3,KD,cC];exact⟨by simp [dG,K,j,l,p],trivial,trivial,trivial⟩
 clear d g f17;rintro F H ⟨A,g,d,rfl⟩;refine AY A ?_;refine BH ?_ ?_<;>intro J
 .refine AB ?_
  exact⟨by unfold II;rw[if_neg (by simp [C]),if_pos J],_,rfl⟩
 refine LC d g @SG ?_;refine RZ (fun F H=>F 50=.bool (XG e)/\F 3=.bool (KW e.op)/\F 1=.ptr h.length 0 0/\H=h++[qG 4 [AQ e]]) ?_ ?_
 .cases B:KW e.op<;>cases E:QN e.name
  all_goals
   have L:=E;unfold QN at L;simp only[vQ,EP,UL,fY,fZ,CQ,GI,iZ,rR,↓reduceIte,jC,qN,enP,iJ,bne,B,L,d,g,EI ag9,SG,ldE]
  .exact⟨by simp [XG,B,E],trivial,trivial,trivial⟩
  all_goals
   refine(tA G e _).use ?_;simp only[vQ,EP,CQ,nA,WA,↓reduceIte,jC,bne,B,d,g];exact⟨by simp [XG,B,E],trivial,trivial,trivial⟩
 clear d g A;rintro F H ⟨I,g,d,rfl⟩;refine AY I ?_;refine BH ?_ ?_<;>intro O
 .refine AB ?_
  exact⟨by unfold II;rw[if_neg (by simp [C]),if_neg (by simp [J]),if_pos O],_,rfl⟩
 refine OH d g @KD @SG ?_
 have fin:∀b,XF e=b->II e=if b then 7 else 0:=by
  intro b Q;unfold II;rw[if_neg (by simp [C]),if_neg (by simp [J]),if_neg (by simp [O]),Q]
 cases j:(e.op==2)
 .refine Z9 j d g @KD @SG ?_
  cases l:(e.op==3)<;>cases p:(e.op==24)
  all_goals
   refine V8 l p d g @KD @SG ?_
  .exact⟨by rw[fin false (by simp [XF,j,l,p])];rfl,_,rfl⟩
  all_goals
   refine(NR G N.kw e.name _ U).use ?_;cases q:FI e.name
   .refine AB ?_
    exact⟨by rw[fin true (by simp [XF,j,l,p,q])];rfl,_,rfl⟩
   .refine AB ?_
    exact⟨by rw[fin false (by simp [XF,j,l,p,q])];rfl,_,rfl⟩
 .have M:e.op=2:=BL j
  refine Z9 j d g @KD @SG ?_;refine(AH8 G N e.name _ S).use ?_;cases q:F7 e.name
  .refine AB ?_
   exact⟨by rw[fin true (by simp [XF,j,q])];rfl,_,rfl⟩
  .refine LC d @KD M ?_
   exact⟨by rw[fin false (by simp [XF,M,q])];rfl,_,rfl⟩
def rY (e:Ex):Bool:=badO e||decide (e.n<0)||decide (e.n>65535)||(!(e.n==0) && !(e.op==1))||(!QN e.name && !KW e.op)
def AGB (op:Int)(n:Nat):Bool:=((op==23)&&(decide ((n:Int)<3)||decide ((n:Int)>33)||((n:Int)%2==0)))||(!(op==23) && !((n:Int)==arity op))
theorem AYV (op:Int)(n:Nat):AGB op n = !XZ op n:=by
 unfold AGB XZ;rcases hc:(op==23) with _|_
 .simp
 .grind
theorem AYW (e:Ex):(rY e||AGB e.op e.args.length)=(badO e||dG e||XG e):=by
 rw[AYV];unfold rY dG XG;rcases h1:(e.op==1) with _|_
 .grind
 .grind
theorem iB (e:Ex):II e=if rY e then 1 else if AGB e.op e.args.length then 1 else if XF e then 7 else 0:=by
 have:=AYW e;unfold II
 revert this
 cases rY e<;>cases AGB e.op e.args.length<;>cases badO e<;>cases dG e<;>cases XG e<;>simp
theorem AMQ (e:Ex)(h:Hp)(V:e.name.size<=1048576):PCall (En G) 310 [.agg (AQ e)] h (.n (II e)):=by
 refine ACalls.pure0 rfl ?_;refine acT Tryz.func310 2 ?_;refine LD @bxE @KD ?_;refine RZ (fun F H=>F 42=.bool (rY e)/\F 1=.ptr h.length 0 0/\H=h++[qG 4 [AQ e]]) ?_ ?_
 .cases l:decide (e.op<1)
  case true =>
   refine AY l ?_;exact⟨by simp [rY,badO,l],trivial,trivial⟩
  refine LC l @KD @cC ?_;cases d:decide (e.op>25)
  case true =>
   refine AY d ?_;exact⟨by simp [rY,badO,d],trivial,trivial⟩
  refine LC d @KD @cC ?_;have S:badO e=false:=by unfold badO;rw[l,d];rfl
  cases p:decide (e.n<0)
  case true =>
   refine AY p ?_;exact⟨by simp only[rY,p];simp,trivial,trivial⟩
  refine LC p @KD @cC ?_;cases q:decide (e.n>65535)
  case true =>
   refine AY q ?_;exact⟨by simp only[rY,q];simp,trivial,trivial⟩
  simp only[vQ,EP,CQ,↓reduceIte,jC,enP,pP,q,bne,EI ag3,EI ag9,KD,cC,SG]
  have fin:∀b,((!(e.n==0) && !(e.op==1))||(!QN e.name && !KW e.op))=b->rY e=b:=by
   intro b L;unfold rY;rw[S,p,q];simpa using L
  cases E:(e.n==0)<;>cases I:(e.op==1)<;>cases J:QN e.name
  all_goals
   have N:=J;unfold QN at N;simp only[vQ,EP,UL,fY,fZ,APP,CQ,GI,iZ,rR,↓reduceIte,jC,qN,enP,X6,iJ,bne,E,I,N,EI ag3,EI ag9,KD,cC,SG]
  all_goals first
   | exact⟨by rw[fin _ rfl];simp [E,I,J],trivial,trivial⟩
   | refine(aQ G e.op _).uu ?_
     exact⟨by rw[fin _ rfl];simp [E,I,J],trivial,trivial⟩
 rintro F H ⟨C,g,rfl⟩;refine AY C ?_;refine BH ?_ ?_<;>intro M
 .refine AB ?_
  exact⟨by rw[iB,if_pos M],_,rfl⟩
 refine LC g @KD @YL ?_;generalize Y:e.args.length=n;have X:(n:Int).tmod 2=(n:Int)%2:=Int.tmod_eq_emod_of_nonneg U;have T:IQ jA 3 .rem (.n (n:Int)) (.n 2)=some (.n ((n:Int)%2)):=by rw[bF _ _ _ _ _ DU,X]
 refine RZ (fun F H=>F 73=.bool (AGB e.op n)/\F 1=.ptr h.length 0 0/\H=h++[qG 4 [AQ e]]) ?_ ?_
 .cases l:(e.op==23)
  .simp only[vQ,EP,UL,fY,APP,CQ,GI,↓reduceIte,jC,enP,X6,bne,l,g,EI ag3,KD]
   refine(APH G e.op _).use ?_;simp only[vQ,EP,UL,CQ,↓reduceIte,jC,enP,bne];exact⟨by unfold AGB;rw[l];simp,g,trivial⟩
  .cases d:decide ((n:Int)<3)<;>cases p:decide ((n:Int)>33)<;>cases q:((n:Int)%2==0)
   all_goals
    simp only[vQ,EP,UL,fY,fZ,APP,CQ,GI,↓reduceIte,jC,qN,enP,X6,bne,l,d,p,q,T,g,EI ag3,KD];exact⟨by unfold AGB;rw[l,d,p,q];simp,trivial,trivial⟩
 clear g C;rintro F H ⟨K,g,rfl⟩;refine AY K ?_;subst Y;refine BH ?_ ?_<;>intro Q
 .refine AB ?_
  exact⟨by rw[iB,if_neg (by simp [M]),if_pos Q],_,rfl⟩
 refine LC g @KD @SG ?_
 have fin:∀b,XF e=b->II e=if b then 7 else 0:=by
  intro b L;rw[iB,if_neg (by simp [M]),if_neg (by simp [Q]),L]
 cases d:(e.op==2)
 .refine OH d g @KD @SG ?_
  refine(aQ G e.op _).use ?_;cases j:KW e.op
  .have A:XF e=false:=by
    unfold KW at j;simp only[Bool.or_eq_false_iff] at j;simp [XF,j.1.1,j.1.2,j.2]
   refine AB ?_;exact⟨by rw[fin false A];rfl,_,rfl⟩
  have A:XF e = !FI e.name:=by
   unfold KW at j;rw[d] at j;simp only[wF] at j;unfold XF;rw[d,j];simp
  simp only[vQ,EP,UL,CQ,↓reduceIte,jC,enP,X6,iJ,bne,d,g,EI ag9,EI ag3,KD,SG];refine(O9 G e.name _).use ?_;cases B:FI e.name
  .refine AB ?_
   exact⟨by rw[fin true (by rw[A,B];rfl)];rfl,_,rfl⟩
  .refine AB ?_
   exact⟨by rw[fin false (by rw[A,B];rfl)];rfl,_,rfl⟩
 .have O:e.op=2:=BL d
  have A:XF e = !F7 e.name:=by
   unfold XF;rw[O];simp
  refine OH d g @KD @SG ?_;refine(AOE G e.name _ V).use ?_;cases B:F7 e.name
  .refine AB ?_
   exact⟨by rw[fin true (by rw[A,B];rfl)];rfl,_,rfl⟩
  .refine LD g @KD ?_
   refine(aQ G e.op _).use ?_;have j:KW e.op=true:=by rw[O];rfl
   simp only[vQ,EP,UL,fY,CQ,GI,↓reduceIte,jC,qN,enP,X6,bne,j,g,EI ag3,KD,d];exact⟨by rw[fin false (by rw[A,B];rfl)];rfl,_,rfl⟩
theorem ag230:J9 jA 230=some false:=BC
theorem sz230:szO jA 230=some 1:=BC
theorem NY (h:Hp):IG jA h 79=some (.ptr h.length 0 0,h++[qG 4 [[.n 0,.n 0,.str ⟨#[]⟩,.sl .nil 0 []]]]):=F9 (row:=[.n 0,.n 0,.str ⟨#[]⟩,.sl .nil 0 []]) BC
theorem gQ (h:Hp)(e:Ex)(row:List AV)(b:row.length=4):D8 jA (h++[qG 4 [row]]) 79 (.ptr h.length 0 0) (.agg (AQ e))=some (h++[qG 4 [AQ e]]):=by
 rw[UW (RV (S9 e)) (by rw[EC];exact GZ) (by rw[EC,b];exact jF _)];have:splice row 0 (AQ e)=AQ e:=by unfold splice;simp [EC,b]
 rw[this]
theorem A8K (h:Hp):IG jA h 38=some (.ptr h.length 0 0,h++[qG 1 [[.n 0]]]):=F9 (row:=[.n 0]) BC
theorem al3 (h:Hp):IG jA h 3=some (.ptr h.length 0 0,h++[qG 1 [[.n 0]]]):=F9 (row:=[.n 0]) BC
theorem A0J (h:Hp):IG jA h 230=some (.ptr h.length 0 0,h++[qG 1 [[.nilfn]]]):=F9 (row:=[.nilfn]) BC
theorem IL {h:Hp}{t:TypeId}{b:Nat}{v:AV}(d:J9 jA t=some false)(e:h[b]?=some (qG 1 [[v]])):BO jA h t (.ptr b 0 0)=some v:=by
 rw[BK d e (row:=[v]) rfl];rfl
theorem VN {t:TypeId}{b:Nat}{u:AV}(g:szO jA t=some 1)(e:JH u=some [u])(d:h[b]?=some (qG 1 [[v]])):D8 jA h t (.ptr b 0 0) u=some (h.set b (qG 1 [[u]])):=by
 rw[IJ e g d (row:=[v]) rfl BA];rfl
theorem A76 (h:Hp)(f:Fn)(a b:List AV):OU h (.fn f a b)=some (.ptr h.length 0 0,h++[qG 1 [[.fn f a b]]]):=rfl
def Chg (c:Nat)(h h':Hp):Prop:=h.length<=h'.length/\∀b,b<h.length->b≠c->h'[b]?=h[b]?
theorem Chg.refl (c:Nat)(h:Hp):Chg c h h:=⟨jF _,fun _ _ _=>rfl⟩
theorem Chg.trans {a b d:Hp}(e:Chg c a b)(h2:Chg c b d):Chg c a d :=
 ⟨qX e.1 h2.1,fun i j g=>by rw[h2.2 i (Nat.lt_of_lt_of_le j e.1) g,e.2 i j g]⟩
theorem Chg.app (c:Nat)(h x:Hp):Chg c h (h++x):=⟨BA,fun i b _=>qH b⟩
theorem Chg.set (c:Nat)(h:Hp)(x:ABlk):Chg c h (h.set c x):=⟨BA,fun i _ b=>by rw[zU,if_neg (fun e=>b e.symm)]⟩
theorem Chg.get {b:Nat}{x:ABlk}(g:Chg c h h')(e:h[b]?=some x)(d:b≠c):h'[b]?=some x:=by
 rw[g.2 b (AX e) d];exact e
theorem Chg.above (d:Chg c h h')(e:h.length<=c):∃x,h'=h++x:=by
 refine⟨h'.drop h.length,?_⟩
 have:h'.take h.length=h:=by
  refine List.ext_getElem? fun i=>?_
  rcases zA i h.length with b|b
  .rw[List.getElem?_take_of_lt b,d.2 i b U]
  .grind
 conv=>lhs;rw[<-wE h.length h',this]
def run (upd:Ex->Int->Int)(b:Int->Bool):List Ex->Int->Int×Bool
 | [],z=>(z,true)
 | e::es,z=>if b (upd e z) then run upd b es (upd e z) else (upd e z,false)
theorem run_go {upd:Ex->Int->Int}{b:Int->Bool}:∀ {xs:List Ex} (ys:List Ex) {z d:Int},run upd b xs z=(d,true)->run upd b (xs++ys) z=run upd b ys d
 | [],ys,z,d,h=>by cases h;rfl
 | x::xs,ys,z,d,h=>by
   simp only[run,zG] at h|-
   split at h
   .rename_i e;rw[if_pos e];exact run_go ys h
   .cases h
theorem run_stop {upd:Ex->Int->Int}{b:Int->Bool}:∀ {xs:List Ex} (ys:List Ex) {z d:Int},run upd b xs z=(d,false)->run upd b (xs++ys) z=(d,false)
 | [],ys,z,d,h=>by cases h
 | x::xs,ys,z,d,h=>by
   simp only[run,zG] at h|-
   split at h
   .rename_i e;rw[if_pos e];exact run_stop ys h
   .rename_i e;rw[if_neg e];exact h
theorem LH (xs:List Ex)(j:Nat)(b:j<xs.length):FT (xs.take (j+1))=FT (xs.take j)++pre xs[j]:=by
 rw[jV b,NQ];simp [FT]
theorem VO {a:Ex}:∀ {xs:List Ex},a∈xs->∀x∈pre a,x∈FT xs
 | [],h,_,_=>by cases h
 | y::ys,h,x,b=>by
   simp only[FT,zM]
   cases zO.1 h with
   | inl e=>subst e;exact .inl b
   | inr e=>exact .inr (VO e x b)
def AMM (G:Nat->AV)(k:FuncId)(upd:Ex->Int->Int)(b:Int->Bool)(e:Ex):Prop :=
 ∀(h:Hp) (c:Nat) (z:Int),h[c]?=some (qG 1 [[.n z]])->ACalls (En G) k [.agg (AQ e),.ptr c 0 0] h fun v h'=>v=.bool (b (upd e z))/\Chg c h h'/\h'[c]?=some (qG 1 [[.n (upd e z)]])
theorem AOZ (k:FuncId)(upd:Ex->Int->Int)(b:Int->Bool)(c I B:Nat)(hv:I≠c)(hd:B≠c)(e:Ex):
  wt e<=1099511627776->(∀x∈pre e,AMM G k upd b x)->∀(h:Hp) (z:Int),h[c]?=some (qG 1 [[.n z]])->h[I]?=some (qG 1 [[.fn (.func k) [] [.ptr c 0 0]]]) ->
   h[B]?=some (qG 1 [[.fn (.func 248) [] [.ptr I 0 0,.ptr B 0 0]]]) ->
   ACalls (En G) 248 [.agg (AQ e),.ptr I 0 0,.ptr B 0 0] h fun v h'=>v=.bool (run upd b (pre e) z).2/\Chg c h h'/\h'[c]?=some (qG 1 [[.n (run upd b (pre e) z).1]]):=by
 induction e using Ex.induct with|h e ih=>?_
 intro hw A h z hc E S;have a3:=AX hc;have a2:e.args.length<=1099511627776:=by have:=XQ e.args;have:=N7 e;omega
 refine acT Tryz.func248 4 ?_;simp only[vQ,CQ,U0,qI,zG,↓reduceIte,jC,enP,bxE,IL ag230 (AU E),ldE];refine(A e (by rw[pre_eq];simp) _ c z (AU hc)).mono ?_;rintro v h1 ⟨rfl,L,K⟩;have d:=(Chg.app c h _).trans L;have Y:h1[h.length]?=some (qG 4 [AQ e]):=L.get (AZ _ _) U;have g:run upd b (pre e) z=if b (upd e z) then run upd b (FT e.args) (upd e z) else (upd e z,false):=by rw[pre_eq];rfl
 refine AB ?_;cases N:b (upd e z)
 .refine AB ?_
  rw[g,N];exact⟨rfl,d,K⟩
 rw[N,if_pos rfl] at g;have a1:=d.get E hv;have a0:=d.get S hd;have l3:BO jA h1 23 (.ptr h.length 0 3)=some (.sl e.m 4 (e.args.map AQ)):=by rw[BK LU Y (row:=AQ e) rfl,YL]
 refine AY l3 ?_;refine BB (fun n F H=>∃j T,n+j=e.args.length/\F 1=.ptr I 0 0/\F 2=.ptr B 0 0/\F 12=.sl e.m 4 (e.args.map AQ)/\F 13=.n e.args.length/\F 14=.n (j:Nat)/\Chg c h H/\H[c]?=some (qG 1 [[.n T]])/\run upd b (FT (e.args.take j)) (upd e z)=(T,true)) e.args.length ⟨0,upd e z,BA,EZ,EZ,EZ,EZ,EZ,d,K,rfl⟩ ?_;rintro n F H ⟨j,T,hj,f1,f2,f12,f13,f14,V,O,X⟩;refine A7 f13 f14 ?_;refine DX ?_ ?_<;>intro l
 .have Q:H[B]?=some (qG 1 [[.fn (.func 248) [] [.ptr I 0 0,.ptr B 0 0]]]):=V.get S hd
  have Z:H[I]?=some (qG 1 [[.fn (.func k) [] [.ptr c 0 0]]]):=V.get E hv;simp only[vQ,CQ,qI,zG,↓reduceIte,jC,enP,PU,jQ,f12,f14,CP l,DL NI GZ EC l,NY,gQ _ _ [.n 0,.n 0,.str ⟨#[]⟩,.sl .nil 0 []] rfl,f2,IL ag230 (AU Q),ldE];have p:e.args[j]∈e.args:=jH l;refine(ih e.args[j] p (by have:=XP p;have:=N7 e;omega) (fun x hx=>A x (by rw[pre_eq];exact List.mem_cons_of_mem _ (VO p x hx))) _ T (AU O) (AU Z) (AU Q)).mono ?_;rintro v h2 ⟨rfl,M,C⟩;have J:=V.trans ((Chg.app c H _).trans M)
  have q:FT e.args=FT (e.args.take j)++(pre e.args[j]++FT (e.args.drop (j+1))):=by
   rw[<-zD,<-LH _ _ l,<-NQ,wE]
  refine AB ?_;rcases hrr:run upd b (pre e.args[j]) T with⟨z2,b2⟩;rw[hrr] at C;cases b2
  .refine AB ?_
   have:run upd b (pre e) z=(z2,false):=by rw[g,q,run_go _ X];exact run_stop _ hrr
   rw[this];exact⟨rfl,J,C⟩
  .refine KO f1 f2 f12 f13 f14 (C9 j) ?_
   refine⟨n-1,U,j+1,z2,U,trivial,trivial,trivial,trivial,rfl,J,C,?_⟩;rw[LH _ _ l,run_go _ X];exact hrr
 .refine AB ?_
  rw[jK U] at X;rw[g,X];exact⟨rfl,V,O⟩
theorem uB (k:FuncId)(upd:Ex->Int->Int)(d:Int->Bool)(c:Nat)(e:Ex)(V:wt e<=1099511627776)(j:∀x∈pre e,AMM G k upd d x)(h:Hp)(z:Int)(O:h[c]?=some (qG 1 [[.n z]])):
  ACalls (En G) 170 [.agg (AQ e),.fn (.func k) [] [.ptr c 0 0]] h fun _ h'=>Chg c h h'/\h'[c]?=some (qG 1 [[.n (run upd d (pre e) z).1]]):=by
 have Q:=AX O;refine acL Tryz.func170 [] ?_;refine DC @bxE @A76 A0J ?_;have g0:(h++[qG 4 [AQ e]]++[qG 1 [[AV.fn (.func k) [] [.ptr c 0 0]]]]++[qG 1 [[AV.nilfn]]])[(h++[qG 4 [AQ e]]++[qG 1 [[AV.fn (.func k) [] [.ptr c 0 0]]]]).length]?=some (qG 1 [[.nilfn]]):=AZ _ _;simp only[vQ,CQ,↓reduceIte,jC,enP,VN sz230 (A0P _ _ _) g0]
 generalize A:(h++[qG 4 [AQ e]]++[qG 1 [[AV.fn (.func k) [] [.ptr c 0 0]]]]).length=g at g0|-
 generalize B:(h++[qG 4 [AQ e]]).length=vb;have T:vb=h.length+1:=by rw[<-B];simp
 have S:g=h.length+2:=by rw[<-A];simp
 generalize l:(h++[qG 4 [AQ e]]++[qG 1 [[AV.fn (.func k) [] [.ptr c 0 0]]]]++[qG 1 [[AV.nilfn]]]).set g (qG 1 [[AV.fn (.func 248) [] [.ptr vb 0 0,.ptr g 0 0]]])=H;have C:H[g]?=some (qG 1 [[.fn (.func 248) [] [.ptr vb 0 0,.ptr g 0 0]]]):=by rw[<-l];exact CJ g0
 have I:H[vb]?=some (qG 1 [[.fn (.func k) [] [.ptr c 0 0]]]):=by grind
 have J:H[h.length]?=some (qG 4 [AQ e]):=by grind
 have K:H[c]?=some (qG 1 [[.n z]]):=by grind
 have L:Chg c h H:=by
  refine⟨by rw[<-l];simp,fun b M N=>?_⟩;obtain⟨x,E⟩:∃x,h[b]?=some x:=⟨_,jO M⟩;rw[<-l,E];exact DF (AU (AU (AU E))) U
 simp only[vQ,CQ,qI,zG,↓reduceIte,jC,enP,IL ag230 C,IC J];refine(AOZ G k upd d c vb g U U e V j H z K I C).mono ?_;rintro v h' ⟨rfl,q,p⟩;refine AY @pU ?_;exact⟨L.trans q,p⟩
theorem AG7 (e:Ex):AMM G 251 (fun _ z=>IntKind.i64.wrap (z+1)) (fun _=>true) e:=by
 intro h c z b;have d:=AX b;refine acT Tryz.func251 3 ?_;simp only[vQ,CQ,U0,↓reduceIte,jC,enP,jQ,bxE,IL ag3 (AU b),VN sz3 (dJ _ _) (AU b)];exact⟨trivial,(Chg.app c h _).trans (Chg.set c _ _),CJ (AU b)⟩
theorem AEZ (g:GOk G)(e:Ex)(l:e.name.size<=1048576):AMM G 171 (fun e _=>II e) (fun z=>z==0) e:=by
 intro h c z b;have j:=AX b;refine acT Tryz.func171 3 ?_;refine A7 @bxE @ldE ?_;refine(AN0 G g e _ l).use ?_;have d:=CJ (y:=qG 1 [[.n (II e)]]) (AU (x:=qG 4 [AQ e]) b);simp only[vQ,CQ,↓reduceIte,jC,enP,jQ,VN A0X (dJ _ _) (AU b),IL AUU d];exact⟨trivial,(Chg.app c h _).trans (Chg.set c _ _),d⟩
theorem ACZ:∀(xs:List Ex) (n:Nat),n+xs.length<=1099511627776->run (fun _ z=>IntKind.i64.wrap (z+1)) (fun _=>true) xs (n:Int)=(((n+xs.length:Nat):Int),true)
 | [],n,_=>rfl
 | x::xs,n,h=>by
   simp only[zF] at h;simp only[run,if_true];rw[wrap_succ U,ACZ xs (n+1) U,zF];congr 1;omega
def errs (xs:List Ex):Int:=xs.foldl (fun z e=>if z=0 then II e else z) 0
theorem AA7:∀(xs:List Ex) (z:Int),z≠0->xs.foldl (fun z e=>if z=0 then II e else z) z=z
 | [],_,_=>rfl
 | x::xs,z,h=>by rw[qU,if_neg h];exact AA7 xs z h
theorem AC0:∀(xs:List Ex),(run (fun e _=>II e) (fun z=>z==0) xs 0).1=errs xs
 | []=>rfl
 | x::xs=>by
   simp only[run,errs,qU,if_true];rcases hn:(II x==0) with _|_
   .have:II x≠0:=BL hn
    rw[AA7 _ _ this];rfl
   .have:II x=0:=BL hn
    rw[this];simp only[if_true];exact AC0 xs
theorem ADH {x e:Ex}(b:x∈pre e):x.name.size<=wt e:=by
 induction e using Ex.induct with|h e ih=>?_
 rw[pre_eq] at b;have p:=N7 e;rcases zO.1 b with rfl|b
 .omega
 have:∀l:List Ex,(∀a∈l,x∈pre a->x.name.size<=wt a)->x∈FT l->x.name.size<=wts l:=by
  intro l
  induction l with
  | nil=>intro _ h;simp [FT] at h
  | cons y l g =>
    intro j h;simp only[FT,zM] at h;simp only[wts];rcases h with h|h
    .have:=j y BA h;omega
    .have:=g (fun a d=>j a (by simp [d])) h;omega
 have:=this e.args (fun a d=>ih a d) b;omega
theorem size_prog (e:Ex)(h:Hp)(l:wt e<=1099511627776):PCall (En G) 174 [.agg (AQ e)] h (.n (pre e).length):=by
 refine ACalls.pure0 rfl ?_;refine acT Tryz.func174 2 ?_;have g:=AZ (h++[qG 4 [AQ e]]) (qG 1 [[.n 0]]);have j:(h++[qG 4 [AQ e]]++[qG 1 [[.n 0]]]).set (h++[qG 4 [AQ e]]).length (qG 1 [[.n 0]])=h++[qG 4 [AQ e]]++[qG 1 [[.n 0]]]:=yG _ _ _;simp only[vQ,CQ,U0,SI,↓reduceIte,jC,enP,jQ,bxE,al3,VN sz3 (dJ _ _) g,j,IC (AU (AZ h _))];refine(uB G 251 _ _ _ e l (fun x _=>AG7 G x) _ 0 g).mono ?_;rintro v h' ⟨d,b⟩;refine AY (IL ag3 b) ?_;have:=ACZ (pre e) 0 (by have:=XX e;omega);simp only[jG] at this;exact⟨by rw[show(0:Int)=((0:Nat):Int) from rfl,this],(((Chg.app _ h _).trans (Chg.app _ _ _)).trans d).above BA⟩
theorem AIV (e:Ex):wt e<=1099511627776->∀h:Hp,PCall (En G) 173 [.agg (AQ e)] h (.n (dep e)):=by
 induction e using Ex.induct with|h e ih=>?_
 intro C h;have B:e.args.length<=1099511627776:=by have:=XQ e.args;have:=N7 e;omega
 refine ACalls.pure0 rfl ?_;refine acT Tryz.func173 2 ?_;refine LD @bxE @YL ?_;have p:dep e<=1099511627776:=qX (ATM e) C;refine BB (fun n F H=>∃j,n+j=e.args.length/\F 3=.n (deps (e.args.take j):Nat)/\F 7=.sl e.m 4 (e.args.map AQ)/\F 8=.n e.args.length/\F 9=.n (j:Nat)/\∃x,H=h++x) e.args.length ⟨0,BA,EZ,EZ,EZ,EZ,⟨_,rfl⟩⟩ ?_;rintro n F H ⟨j,E,g,q,A,l,x,rfl⟩;refine A7 A l ?_;refine DX ?_ ?_<;>intro b
 .have d:e.args[j]∈e.args:=jH b
  simp only[vQ,CQ,↓reduceIte,jC,enP,PU,jQ,g,q,l,CP b,DL NI GZ EC b,NY,gQ _ _ [.n 0,.n 0,.str ⟨#[]⟩,.sl .nil 0 []] rfl,ldE];refine(ih e.args[j] d (by have:=XP d;have:=N7 e;omega) _).use ?_;refine KO @AB1 @oL q A l (C9 j) ?_;refine⟨n-1,U,j+1,U,?_,trivial,trivial,rfl,_,by rw[zD]⟩;rw[wZ _ _ b];congr 1;omega
 .rw[jK U] at g
  rw[YA] at p|-
  refine A7 g (C9 (deps e.args)) ?_;exact⟨trivial,x,rfl⟩
def exE (e:Ex):Int:=if errs (pre e)=0/\(24<dep e\/400<(pre e).length) then 2 else errs (pre e)
def WN (e:Ex):Prop:=wt e<=274877906944/\∀x∈pre e,x.name.size<=1048576
theorem AGQ {e:Ex}(d:wt e<=1048576):WN e:=⟨U,fun x b=>by have:=ADH b;omega⟩
theorem cB (E:GOk G)(e:Ex)(h:Hp)(p:WN e):PCall (En G) 96 [.agg (AQ e)] h (.n (exE e)):=by
 refine ACalls.pure0 rfl ?_;refine acT Tryz.func96 2 ?_;have B:=AZ (h++[qG 4 [AQ e]]) (qG 1 [[.n 0]]);have I:(h++[qG 4 [AQ e]]++[qG 1 [[.n 0]]]).set (h++[qG 4 [AQ e]]).length (qG 1 [[.n 0]])=h++[qG 4 [AQ e]]++[qG 1 [[.n 0]]]:=yG _ _ _;have A:=AU (x:=qG 1 [[.n 0]]) (AZ h (qG 4 [AQ e]));have K:=p.1;simp only[vQ,CQ,U0,SI,↓reduceIte,jC,enP,jQ,bxE,A8K,VN A0X (dJ _ _) B,I,IC A];refine(uB G 171 _ _ _ e U (fun x J=>AEZ G E x (p.2 x J)) _ 0 B).mono ?_;rintro v h' ⟨j,d⟩;rw[AC0] at d;have g:=j.get A BA;have b:=(((Chg.app _ h _).trans (Chg.app _ _ _)).trans j).above (BA:h.length<=(h++[qG 4 [AQ e]]).length);refine AY (IL AUU d) ?_;rcases he:(errs (pre e)==0) with _|_
 .refine AY (IL AUU d) ?_
  have:errs (pre e)≠0:=BL he;exact⟨by unfold exE;rw[if_neg (fun C=>this C.1)],b⟩
 have l:errs (pre e)=0:=BL he;refine AY (IC g) ?_;refine(AIV G e U _).uu ?_;refine IW ?_ ?_<;>intro q
 .refine AY q ?_
  exact⟨by unfold exE;rw[if_pos ⟨l,.inl (by simp at q;omega)⟩],b⟩
 refine A7 q (IC g) ?_;refine(size_prog G e _ U).uu ?_;refine BH ?_ ?_<;>intro p
 .refine AB ?_
  exact⟨by unfold exE;rw[if_pos ⟨l,.inr (by simp at p;omega)⟩],b⟩
 .refine AY (IL AUU d) ?_
  exact⟨by unfold exE;rw[if_neg (fun C=>by simp at p q;omega)],b⟩
theorem PY (b:GOk G)(e:Ex)(h:Hp)(d:wt e<=1048576):PCall (En G) 96 [.agg (AQ e)] h (.n (exE e)):=cB G b e h (AGQ d)
theorem UB {E:Env}{H:Hint}{x y:Code}{Q:AEx->Fr->Hp->Prop}{b:Bool}(N R:Fr->Hp->Prop)(j:b=true->awp E H x F h (ART N R))(h2:b=false->awp E H y F h (ART N R))(d:∀F h,N F h->Q .normal F h)(g:∀F h,R F h->Q .ret F h):
 lG E H x y F h Q (.bool b):=⟨fun e=>ABO N R (j e) d g,fun e=>ABO N R (h2 e) d g⟩
def isB (v:AV)(b:Nat):Prop:=match v with
 | .own d _ _=>d=b
 | _=>False
def sv (h:Hp)(m:Nat)(v:AV):Prop:=∃d:List ByteArray,d.length<=m/\((d=[]/\∃k,v=.sl .nil k [])\/∃b,v=.own b 0 d.length/\h[b]?=some (qG 1 (d.map qencStr)))
theorem AXJ (k:Nat)(v:ByteArray)(h:Hp):PCall (En G) 311 [.sl .nil k [],.str v] h (.bool false):=by
 refine acT Tryz.func311 4 ?_;refine AB ?_;refine BB (fun n F H=>F 0=.sl .nil k []/\F 5=.n 0/\H=h) 0 ⟨rfl,rfl,rfl⟩ ?_;rintro n F H ⟨b,d,rfl⟩;refine LD b d ?_;have:decide ((0:Int)<((0:Nat):Int))=false:=BA;refine AY @this ?_;exact G7
theorem row_map {α:Type}{f:α->List AV}{xs:List α}(hk:k<xs.length):(xs.map f)[k]?=some (f xs[k]):=by simp_all
theorem IA {x:Hp}{y:ABlk}{b:Nat}(d:h[b]?=some y):(h++x)[b]?=some y:=by grind
theorem AXI (xs:List ByteArray)(b:Nat)(v:ByteArray)(h:Hp)(g:h[b]?=some (qG 1 (xs.map qencStr)))(B:xs.length<=1099511627776):
  PCall (En G) 311 [.own b 0 xs.length,.str v] h (.bool (I8 xs v)):=by
 refine acT Tryz.func311 4 ?_;refine AB ?_;refine BB (fun n F H=>∃k,n+k=xs.length/\F 0=.own b 0 xs.length/\F 1=.str v/\F 5=.n (k:Nat)/\H=h/\I8 xs v=I8 (xs.drop k) v) xs.length ⟨0,BA,rfl,rfl,rfl,rfl,rfl⟩ ?_;rintro n F H ⟨k,hk,j,l,p,rfl,e⟩;refine DC j l p ?_;refine DX ?_ ?_<;>intro d
 .have q:I8 (xs.drop k) v=((v.toList==xs[k].toList)||I8 (xs.drop (k+1)) v):=NG _ xs k d
  have A:BO jA H 9 (.ptr b k 0)=some (.str xs[k]):=by rw[BK ag9 g (row:=qencStr xs[k]) (row_map d)];rfl
  simp only[vQ,CQ,QF,↓reduceIte,jC,enP,bY,j,l,p,GN g d,A];refine BH ?_ ?_<;>intro g
  .refine AB ?_
   refine⟨?_,trivial⟩;rw[e,q,show(v.toList==xs[k].toList)=true by rw[BEq.comm];exact g];rfl
  .refine A7 p (C9 k) ?_
   refine⟨n-1,U,k+1,U,j,l,rfl,trivial,?_⟩;rw[e,q,show(v.toList==xs[k].toList)=false by rw[BEq.comm];exact g];rfl
 .refine AB ?_
  exact⟨by rw[e,jY U];rfl,trivial⟩
theorem ASP (s:ByteArray)(e:sv h m v)(l:m<=1099511627776):∃r,PCall (En G) 311 [v,.str s] h (.bool r):=by
 obtain⟨g,j,⟨_,k,rfl⟩|⟨b,rfl,d⟩⟩:=e
 .exact⟨_,AXJ G k s h⟩
 .exact⟨_,AXI G g b s h d U⟩
theorem AT8 (h:Hp)(s:ByteArray):DJ jA false h 121 1 [(0,.str s)]=some (.sl .full 1 [[.str s]],h):=BC
theorem AUS (s:ByteArray)(A:sv h m v)(C:m<=1099511627776):∃g h',EH jA true h 121 121 v (.sl .full 1 [[.str s]])=some (g,h')/\sv h' (m+1) g/\(∀b,isB g b->b=h.length) /\
  h.length<=h'.length/\∀b,b<h.length->¬isB v b->h'[b]?=h[b]? := by
 obtain⟨j,B,⟨rfl,k,rfl⟩|⟨b,rfl,d⟩⟩:=A
 .refine⟨_,_,UU AP7 sz9 APU ATY (H6 h .full 1 [[.str s]]) BA (I5 BA U),⟨[s],BA,.inr ⟨h.length,rfl,AZ _ _⟩⟩,fun b d=>d.symm,BA,fun b d _=>qH d⟩
 .have l:JJ h (.own b 0 j.length)=some (1,j.map qencStr):=by
   rw[JK d BA,zI,jK BA]
  refine⟨_,_,TM AP7 sz9 APU ATY l (H6 h .full 1 [[.str s]]) BA (by unfold room;simp;omega),⟨j++[s],by simp;omega,.inr ⟨h.length,BA,by simp [qencStr]⟩⟩,fun b d=>d.symm,BA,fun o q p=>?_⟩;rw[qH (BL q)];have e:¬b=o:=p;rw[zU,if_neg e]
def wRow (n dd:Nat)(f:Int)(v1 v2:AV):List AV:=[.n n,.n dd,.n f,v1,v2]
structure St (h:Hp) (c m1 m2 n dd:Nat) (f:Int) (v1 v2:AV):Prop where
 w:h[c]?=some (qG 5 [wRow n dd f v1 v2])
 s1:sv h m1 v1
 s2:sv h m2 v2
 ap:∀b,isB v1 b->¬isB v2 b
theorem sv.b {h:Hp}{m:Nat}{v:AV}{b:Nat}(g:sv h m v)(e:isB v b):∃d:List ByteArray,h[b]?=some (qG 1 (d.map qencStr)):=by
 obtain⟨d,_,⟨_,k,rfl⟩|⟨j,rfl,h'⟩⟩:=g
 .exact e.elim
 .cases e;exact⟨d,h'⟩
theorem sv.ne {b:Nat}(j:sv h m v)(d:h[c]?=some (qG 5 [row]))(g:isB v b):b≠c:=by
 intro e;subst e;obtain⟨l,h'⟩:=j.b g;rw[h'] at d;cases d
theorem sv.keep {m':Nat}(j:sv h m v)(p:m<=m')(hk:∀b,isB v b->h'[b]?=h[b]?):sv h' m' v:=by
 obtain⟨d,l,⟨e,k,rfl⟩|⟨b,rfl,g⟩⟩:=j
 .exact⟨d,U,.inl ⟨e,k,rfl⟩⟩
 .exact⟨d,U,.inr ⟨b,rfl,by rw[hk b rfl];exact g⟩⟩
structure Ch (c:Nat) (v1 v2:AV) (h:Hp) (v1' v2':AV) (h':Hp):Prop where
 len:h.length<=h'.length
 get:∀b,b<h.length->b≠c->¬isB v1 b->¬isB v2 b->h'[b]?=h[b]?
 n1:∀b,isB v1' b->isB v1 b\/h.length<=b
 n2:∀b,isB v2' b->isB v2 b\/h.length<=b
theorem Ch.refl (c:Nat)(v1 v2:AV)(h:Hp):Ch c v1 v2 h v1 v2 h:=⟨jF _,fun _ _ _ _ _=>rfl,fun _ h=>.inl h,fun _ h=>.inl h⟩
theorem Ch.trans {A B C E:AV}{a b d:Hp}(g:Ch c v1 v2 a A B b)(h2:Ch c A B b C E d):Ch c v1 v2 a C E d:=by
 refine⟨qX g.len h2.len,fun i j l q p=>?_,fun i j=>?_,fun i j=>?_⟩
 .rw[h2.get i (Nat.lt_of_lt_of_le j g.len) l (fun e=>(g.n1 i e).elim q (fun e=>U)) (fun e=>(g.n2 i e).elim p (fun e=>U)),g.get i j l q p]
 .rcases h2.n1 i j with h|h
  .exact g.n1 i h
  .exact .inr (qX g.len h)
 .rcases h2.n2 i j with h|h
  .exact g.n2 i h
  .exact .inr (qX g.len h)
theorem Ch.app (c:Nat)(v1 v2:AV)(h x:Hp):Ch c v1 v2 h v1 v2 (h++x):=⟨BA,fun _ b _ _ _=>qH b,fun _ h=>.inl h,fun _ h=>.inl h⟩
theorem Ch.set (c:Nat)(v1 v2:AV)(h:Hp)(x:ABlk):Ch c v1 v2 h v1 v2 (h.set c x):=⟨BA,fun _ _ b _ _=>by rw[zU,if_neg (fun e=>b e.symm)],fun _ h=>.inl h,fun _ h=>.inl h⟩
theorem St.app {g:Nat}(s:St h c g m2 n dd f v1 v2)(x:Hp):St (h++x) c g m2 n dd f v1 v2:=by
 have d:∀v m,sv h m v->sv (h++x) m v:=fun v m e=>e.keep (jF _) fun b j=>by
  obtain⟨l,h'⟩:=e.b j;exact qH (AX h')
 exact⟨IA s.w,d _ _ s.s1,d _ _ s.s2,s.ap⟩
theorem St.set {h:Hp}{c q m2 n dd:Nat}{f:Int}{v1 v2:AV}(s:St h c q m2 n dd f v1 v2)(l g:Nat)(j:Int):St (h.set c (qG 5 [wRow l g j v1 v2])) c q m2 l g j v1 v2:=by
 have d:∀v m,sv h m v->sv (h.set c (qG 5 [wRow l g j v1 v2])) m v:=fun v m p=>p.keep (jF _) fun b A=>by
  rw[zU,if_neg (fun e=>p.ne s.w A e.symm)]
 exact⟨CJ s.w,d _ _ s.s1,d _ _ s.s2,s.ap⟩
section
variable {h:Hp} {c m1 m2 n dd:Nat} {f:Int} {v1 v2:AV} (s:St h c m1 m2 n dd f v1 v2)
include s
theorem St.l0:BO jA h 3 (.ptr c 0 0)=some (.n n):=by rw[BK ag3 s.w (row:=wRow n dd f v1 v2) rfl];rfl
theorem St.l1:BO jA h 3 (.ptr c 0 1)=some (.n dd):=by rw[BK ag3 s.w (row:=wRow n dd f v1 v2) rfl];rfl
theorem St.l2:BO jA h 38 (.ptr c 0 2)=some (.n f):=by rw[BK AUU s.w (row:=wRow n dd f v1 v2) rfl];rfl
theorem St.l3:BO jA h 121 (.ptr c 0 3)=some v1:=by rw[BK xO s.w (row:=wRow n dd f v1 v2) rfl];rfl
theorem St.l4:BO jA h 121 (.ptr c 0 4)=some v2:=by rw[BK xO s.w (row:=wRow n dd f v1 v2) rfl];rfl
theorem St.t0 (x:Nat):D8 jA h 3 (.ptr c 0 0) (.n x)=some (h.set c (qG 5 [wRow x dd f v1 v2])):=by
 rw[IJ (dJ _ _) sz3 s.w (row:=wRow n dd f v1 v2) rfl (by simp [wRow])];rfl
theorem St.t1 (x:Nat):D8 jA h 3 (.ptr c 0 1) (.n x)=some (h.set c (qG 5 [wRow n x f v1 v2])):=by
 rw[IJ (dJ _ _) sz3 s.w (row:=wRow n dd f v1 v2) rfl (by simp [wRow])];rfl
theorem St.t2 (x:Int):D8 jA h 38 (.ptr c 0 2) (.n x)=some (h.set c (qG 5 [wRow n dd x v1 v2])):=by
 rw[IJ (dJ _ _) A0X s.w (row:=wRow n dd f v1 v2) rfl (by simp [wRow])];rfl
end
theorem St.app3 {m1:Nat}(s:St h c m1 m2 n dd f v1 v2)(x:ByteArray)(N:m1<=1099511627776):
  ∃ g h',EH jA true h 121 121 v1 (.sl .full 1 [[.str x]])=some (g,h')/\D8 jA h' 121 (.ptr c 0 3) g=some (h'.set c (qG 5 [wRow n dd f g v2])) /\
    St (h'.set c (qG 5 [wRow n dd f g v2])) c (m1+1) m2 n dd f g v2/\Ch c v1 v2 h g v2 (h'.set c (qG 5 [wRow n dd f g v2])):=by
 obtain⟨g,h',K,I,l,M,hk⟩:=AUS x s.s1 N;have p:¬isB v1 c:=fun e=>s.s1.ne s.w e rfl
 have q:¬isB v2 c:=fun e=>s.s2.ne s.w e rfl
 have A:=AX s.w;have J:h'[c]?=some (qG 5 [wRow n dd f v1 v2]):=by rw[hk c A p];exact s.w
 have Q:∀b,isB g b->b≠c:=fun b d e=>by have:=l b d;omega
 have j:JH g=some [g]:=by
  obtain⟨S,_,⟨_,k,rfl⟩|⟨b,rfl,_⟩⟩:=I<;>rfl
 refine⟨g,h',K,by rw[IJ j AQF J (row:=wRow n dd f v1 v2) rfl (by simp [wRow])];rfl,⟨CJ J,I.keep (jF _) fun b d=>?_,s.s2.keep (jF _) fun b d=>?_,fun b C E=>?_⟩,⟨BL M,fun b L O C E=>?_,fun b d=>.inr (by rw[l b d];exact jF _),fun b d=>.inl d⟩⟩
 .grind
 .obtain⟨_,B⟩:=s.s2.b d
  rw[zU,if_neg (fun e=>q (by rw[e];exact d)),hk b (AX B) (fun e=>s.ap b e d)]
 .obtain⟨_,B⟩:=s.s2.b E
  have:=l b C;have:=AX B;omega
 .grind
theorem St.app4 {m1:Nat}(s:St h c m1 m2 n dd f v1 v2)(x:ByteArray)(N:m2<=1099511627776):
  ∃ g h',EH jA true h 121 121 v2 (.sl .full 1 [[.str x]])=some (g,h')/\D8 jA h' 121 (.ptr c 0 4) g=some (h'.set c (qG 5 [wRow n dd f v1 g])) /\
    St (h'.set c (qG 5 [wRow n dd f v1 g])) c m1 (m2+1) n dd f v1 g/\Ch c v1 v2 h v1 g (h'.set c (qG 5 [wRow n dd f v1 g])):=by
 obtain⟨g,h',K,I,l,M,hk⟩:=AUS x s.s2 N;have p:¬isB v1 c:=fun e=>s.s1.ne s.w e rfl
 have q:¬isB v2 c:=fun e=>s.s2.ne s.w e rfl
 have A:=AX s.w;have J:h'[c]?=some (qG 5 [wRow n dd f v1 v2]):=by rw[hk c A q];exact s.w
 have Q:∀b,isB g b->b≠c:=fun b d e=>by have:=l b d;omega
 have j:JH g=some [g]:=by
  obtain⟨S,_,⟨_,k,rfl⟩|⟨b,rfl,_⟩⟩:=I<;>rfl
 refine⟨g,h',K,by rw[IJ j AQF J (row:=wRow n dd f v1 v2) rfl (by simp [wRow])];rfl,⟨CJ J,s.s1.keep (jF _) fun b d=>?_,I.keep (jF _) fun b d=>?_,fun b C E=>?_⟩,⟨BL M,fun b L O C E=>?_,fun b d=>.inl d,fun b d=>.inr (by rw[l b d];exact jF _)⟩⟩
 .obtain⟨_,B⟩:=s.s1.b d
  rw[zU,if_neg (fun e=>p (by rw[e];exact d)),hk b (AX B) (fun e=>s.ap b d e)]
 .grind
 .obtain⟨_,B⟩:=s.s1.b C
  have:=l b E;have:=AX B;omega
 .grind
def bP (z:Int)(xs:List Ex):Int:=xs.foldl (fun z e=>if z=0 then II e else z) z
theorem AE5 (z:Int)(xs ys:List Ex):bP z (xs++ys)=bP (bP z xs) ys:=List.foldl_append
theorem St.weak {m1 b d:Nat}(s:St h c m1 m2 n dd f v1 v2)(e:m1<=b)(h2:m2<=d):St h c b d n dd f v1 v2 :=
 ⟨s.w,s.s1.keep e fun _ _=>rfl,s.s2.keep h2 fun _ _=>rfl,s.ap⟩
def Md (e:Ex)(c d:Nat)(v1 v2:AV)(h:Hp)(m1 m2 n dd:Nat)(f:Int)(F:Nat->AV)(H:Hp):Prop :=
 F 0=.ptr c 0 0/\F 2=.n (d:Nat)/\F 4=.ptr h.length 0 0/\∃b g,St H c m1 m2 n dd f b g/\Ch c v1 v2 (h++[qG 4 [AQ e]]) b g H
theorem ADF (xs:List Ex):(FT xs).length<=wts xs:=by
 induction xs with
 | nil=>simp [FT,wts]
 | cons x xs b=>have:=XX x;simp only[FT,wts,jW];omega
theorem AB2:∀(xs:List Ex) (j:Nat) (b:j<xs.length),wts (xs.take j)+wt xs[j]<=wts xs
 | x::xs,0,_=>by simp [wts]
 | x::xs,j+1,h=>by
   have:=AB2 xs j (BL h);simp only[List.take_succ_cons,wts,List.getElem_cons_succ];omega
theorem fK:∀(xs:List Ex) (j:Nat),deps (xs.take j)<=wts xs
 | [],j=>by simp [deps,wts]
 | x::xs,0=>by simp [deps]
 | x::xs,j+1=>by
   have b:=fK xs j;have d:=ATM x;simp only[List.take_succ_cons,deps,wts];omega
theorem AVZ (c:Nat)(e:Ex):WN e->∀(h:Hp) (d n dd:Nat) (f:Int) (v1 v2:AV),d+wt e<=549755813888->n+wt e<=549755813888->dd<=1099511627776->St h c n n n dd f v1 v2 ->
  ACalls (En G) 270 [.ptr c 0 0,.agg (AQ e),.n (d:Nat)] h fun _ h'=>∃A B,St h' c (n+(pre e).length) (n+(pre e).length) (n+(pre e).length) (max dd (d+deps e.args)) (bP f (pre e)) A B/\Ch c v1 v2 h A B h':=by
 induction e using Ex.induct with|h e ih=>?_
 intro Q h d n dd f v1 v2 hd hn a4 s;have hw:=Q.1;have a1:e.name.size<=1048576:=Q.2 e (by rw[pre_eq];simp);have a2:e.args.length<=wts e.args:=XQ e.args;have a9:=N7 e;have a3:=AX s.w
 have E:∀(A B:AV) (H:Hp),Ch c v1 v2 (h++[qG 4 [AQ e]]) A B H->H[h.length]?=some (qG 4 [AQ e]):=by
  intro A B H q;rw[q.get h.length BA U (fun I=>?_) (fun I=>?_)]
  .exact AZ _ _
  .obtain⟨_,hx⟩:=s.s1.b I
   have:=AX hx;omega
  .obtain⟨_,hx⟩:=s.s2.b I
   have:=AX hx;omega
 have M:∀H:Hp,H[h.length]?=some (qG 4 [AQ e])->BO jA H 3 (.ptr h.length 0 0)=some (.n e.op):=fun H Z=>by rw[BK ag3 Z (row:=AQ e) rfl,KD]
 have N:∀H:Hp,H[h.length]?=some (qG 4 [AQ e])->BO jA H 9 (.ptr h.length 0 2)=some (.str e.name):=fun H Z=>by rw[BK ag9 Z (row:=AQ e) rfl,SG]
 have a0:∀H:Hp,H[h.length]?=some (qG 4 [AQ e])->BO jA H 23 (.ptr h.length 0 3)=some (.sl e.m 4 (e.args.map AQ)):=fun H Z=>by rw[BK LU Z (row:=AQ e) rfl,YL]
 refine IK (H:=hint [56,85] []) (enM G) Tryz.func270 rfl (by kernel_rfl) (by kernel_rfl) (jB (by kernel_rfl)) ?_;show awp _ _ _ _ _ (ML _ [] _);have s0:=s.app [qG 4 [AQ e]];have c0:=Ch.app c v1 v2 h [qG 4 [AQ e]];refine KO @ALT @AAZ @bxE @s0.l0 (C9 n) @s0.t0 ?_;have V:=s0.set (n+1) dd f;have c1:=Ch.set c v1 v2 (h++[qG 4 [AQ e]]) (qG 5 [wRow (n+1) dd f v1 v2]);clear s0
 generalize (h++[qG 4 [AQ e]]).set c (qG 5 [wRow (n+1) dd f v1 v2])=H1 at V c1|-
 refine AY @V.l1 ?_;refine UB (Md e c d v1 v2 h n n (n+1) (max dd d) f) (fun _ _=>False) (fun I=>?_) (fun I=>?_) ?_ (fun _ _ O=>O.elim)
 .refine A7 @AAZ @V.t1 ?_
  refine⟨rfl,rfl,rfl,v1,v2,?_,c1.trans (Ch.set c _ _ _ _)⟩;have:max dd d=d:=by simp at I;omega
  rw[this];exact V.set (n+1) d f
 .refine AB ?_
  refine⟨rfl,rfl,rfl,v1,v2,?_,c1⟩;have:max dd d=dd:=by simp at I;omega
  rw[this];exact V
 clear V c1;rintro F H ⟨g,p,l,A,B,s,q⟩;refine DC @fE g @s.l2 ?_;refine UB (Md e c d v1 v2 h n n (n+1) (max dd d) (bP f [e])) (fun _ _=>False) (fun I=>?_) (fun I=>?_) ?_ (fun _ _ O=>O.elim)
 .refine EG g p l (IC (E _ _ _ q)) ?_
  refine(AMQ G e _ a1).use ?_;refine H7 @fE @s.t2 g p l ?_;refine⟨g,p,l,A,B,?_,q.trans (Ch.set c _ _ _ _)⟩
  have:bP f [e]=II e:=by
   have:f=0:=BL I;subst this;rfl
  rw[this];exact s.set _ _ _
 .refine AB ?_
  refine⟨g,p,l,A,B,?_,q⟩
  have:bP f [e]=f:=by
   have:f≠0:=BL I;show(if f=0 then II e else f)=f;rw[if_neg this]
  rw[this];exact s
 clear g p l s q;rintro F H ⟨g,p,l,A,B,s,q⟩;refine AB ?_;refine DR BC ?_;have C:=E _ _ _ q;refine AVF (fun F H=>(∃b,F 47=.bool b)/\Md e c d v1 v2 h n n (n+1) (max dd d) (bP f [e]) F H) ?_ ?_
 .cases S:(e.op==2)
  .refine H7 g p l (M _ C) S ?_
   exact⟨⟨_,rfl⟩,g,p,l,A,B,s,q⟩
  .obtain⟨r,hr⟩:=ASP G e.name s.s1 U
   refine OZ @ALS g p l (M _ C) (N _ C) S @s.l3 ?_;refine⟨_,hr,?_⟩;refine DC g p l ?_;exact⟨⟨_,rfl⟩,g,p,l,A,B,s,q⟩
 clear g p l s q C;rintro F H ⟨⟨b,X⟩,g,p,l,A,B,s,q⟩;have C:=E _ _ _ q;refine AY X ?_;refine UB (Md e c d v1 v2 h (n+1) n (n+1) (max dd d) (bP f [e])) (fun _ _=>False) (fun I=>?_) (fun I=>?_) ?_ (fun _ _ O=>O.elim)
 .obtain⟨v',H',ha,ht,T,K⟩:=s.app3 e.name U
  refine DR BC ?_;refine V7 @ALS g p l (N _ C) @s.l3 AT8 ha ht ?_;exact⟨g,p,l,_,_,T,q.trans K⟩
 .refine AB ?_
  exact⟨g,p,l,_,_,s.weak U U,q⟩
 clear g p l s q C;rintro F H ⟨g,p,l,A,B,s,q⟩;have C:=E _ _ _ q;refine AB ?_;refine DR BC ?_;refine AVF (fun F H=>(∃b,F 76=.bool b)/\Md e c d v1 v2 h (n+1) n (n+1) (max dd d) (bP f [e]) F H) ?_ ?_
 .obtain⟨r,hr⟩:=ASP G e.name s.s2 U
  cases S:(e.op==3)
  .cases b3:(e.op==24)
   .refine KO g p l (M _ C) S b3 ?_
    exact⟨⟨_,rfl⟩,g,p,l,A,B,s,q⟩
   .refine V7 @AAY g p l (M _ C) (N _ C) S b3 @s.l4 ?_
    refine⟨_,hr,?_⟩;refine DC g p l ?_;exact⟨⟨_,rfl⟩,g,p,l,A,B,s,q⟩
  .refine OZ @AAY g p l (M _ C) (N _ C) S @s.l4 ?_
   refine⟨_,hr,?_⟩;refine DC g p l ?_;exact⟨⟨_,rfl⟩,g,p,l,A,B,s,q⟩
 clear g p l s q C X;rintro F H ⟨⟨b,Y⟩,g,p,l,A,B,s,q⟩;have C:=E _ _ _ q;refine AY Y ?_;refine UB (Md e c d v1 v2 h (n+1) (n+1) (n+1) (max dd d) (bP f [e])) (fun _ _=>False) (fun I=>?_) (fun I=>?_) ?_ (fun _ _ O=>O.elim)
 .obtain⟨v',H',ha,ht,T,K⟩:=s.app4 e.name U
  refine DR BC ?_;refine V7 @AAY g p l (N _ C) @s.l4 AT8 ha ht ?_;exact⟨g,p,l,_,_,T,q.trans K⟩
 .refine AB ?_
  exact⟨g,p,l,_,_,s.weak U U,q⟩
 clear g p l s q C Y;rintro F H ⟨g,p,l,A,B,s,q⟩;refine AB ?_;refine BB (fun k F H=>∃j,k+j=e.args.length/\F 6=.n (j:Nat)/\Md e c d v1 v2 h (n+1+(FT (e.args.take j)).length) (n+1+(FT (e.args.take j)).length) (n+1+(FT (e.args.take j)).length) (max dd (d+deps (e.args.take j))) (bP (bP f [e]) (FT (e.args.take j))) F H) e.args.length ⟨0,BA,rfl,g,p,l,A,B,s,q⟩ ?_;clear g p l s q;rintro k F H ⟨j,hj,f6,g,p,l,A,B,s,q⟩;have C:=E _ _ _ q;refine DC f6 l (a0 _ C) ?_;refine DX ?_ ?_<;>intro J
 .have L:e.args[j]∈e.args:=jH J
  have a8:=XP L
  have a6:(FT (e.args.take j)).length+(pre e.args[j]).length<=wts e.args:=by
   have h1:=ADF e.args
   have h2:FT e.args=FT (e.args.take j)++(pre e.args[j]++FT (e.args.drop (j+1))):=by
    rw[<-zD,<-LH _ _ J,<-NQ,wE]
   rw[h2] at h1;simp at h1;omega
  have a7:(FT (e.args.take j)).length+wt e.args[j]<=wts e.args:=by
   have h1:=ADF (e.args.take j);have h2:=AB2 e.args j J;omega
  have a5:deps (e.args.take j)<=wts e.args:=fK e.args j;simp only[vQ,List.contains_cons,List.contains_nil,Nat.reduceBEq,Bool.or_false,CQ,↓reduceIte,jC,enP,PU,UG,g,p,l,f6,a0 _ C,CP J,DL NI GZ EC J,C9 d];refine(ih e.args[j] L ⟨U,fun x hx=>Q.2 x (by rw[pre_eq];exact List.mem_cons_of_mem _ (VO L x hx))⟩ H (d+1) _ _ _ A B U U U s).mono ?_;rintro v H' ⟨w1,w2,T,K⟩;refine A7 f6 (C9 j) ?_;refine⟨k-1,U,j+1,U,rfl,g,p,l,w1,w2,?_,q.trans K⟩;rw[LH _ _ J,wZ _ _ J,AE5,jW]
  have e1:max (max dd (d+deps (e.args.take j))) (d+1+deps e.args[j].args)=max dd (d+max (deps (e.args.take j)) (dep e.args[j])):=by
   rw[YA];omega
  rw[e1,Nat.add_assoc (n+1)] at T;exact T
 .rw[jK U] at s
  refine AY @pU ?_;refine⟨A,B,?_,c0.trans q⟩;have e1:n+1+(FT e.args).length=n+(pre e).length:=by rw[pre_eq];simp;omega
  have e2:bP (bP f [e]) (FT e.args)=bP f (pre e):=by rw[pre_eq,<-AE5];rfl
  rw[e1,e2] at s;exact s
theorem A5X:JC jA 263 []=some (.agg [.n 0,.n 0,.n 0,.sl .nil 0 [],.sl .nil 0 []]):=BC
theorem A5F (h:Hp):OU h (.agg [.n 0,.n 0,.n 0,.sl .nil 0 [],.sl .nil 0 []])=some (.ptr h.length 0 0,h++[qG 5 [wRow 0 0 0 (.sl .nil 0 []) (.sl .nil 0 [])]]):=bE rfl
theorem ARB (e:Ex)(j:WN e)(h:Hp):
  ACalls (En G) 202 [.agg (AQ e)] h fun v h'=>∃c m q A,v=.ptr c 0 0/\St h' c m m (pre e).length (dep e) (errs (pre e)) q A/\∃x,h'=h++x:=by
 refine acT Tryz.func202 2 ?_;simp only[vQ,CQ,AMF,U0,NS,↓reduceIte,jC,enP,bxE,A5X,A5F,IC (AU (AZ h _))];have p:∀b,¬isB (.sl .nil 0 []) b:=fun b g=>g
 have I:=j.1;refine(AVZ G _ e j _ 1 0 0 0 (.sl .nil 0 []) (.sl .nil 0 []) U U U ⟨AZ _ _,⟨[],BA,.inl ⟨rfl,_,rfl⟩⟩,⟨[],BA,.inl ⟨rfl,_,rfl⟩⟩,fun b g=>(p b g).elim⟩).mono ?_;rintro v h' ⟨q,A,s,E⟩;refine AB ?_;have B:0+(pre e).length=(pre e).length:=jG _;have C:max 0 (1+deps e.args)=dep e:=by rw[YA];omega
 rw[B,C] at s;refine⟨_,_,q,A,rfl,s,?_⟩;have d:=((Ch.app (h++[qG 4 [AQ e]]).length (.sl .nil 0 []) (.sl .nil 0 []) h [qG 4 [AQ e]]).trans (Ch.app _ _ _ _ [qG 5 [wRow 0 0 0 (.sl .nil 0 []) (.sl .nil 0 [])]])).trans E;refine Chg.above (c:=(h++[qG 4 [AQ e]]).length) ⟨d.len,fun b g l=>d.get b g l (p b) (p b)⟩ BA
theorem X9 (e:Ex)(h:Hp)(l:WN e):PCall (En G) 113 [.agg (AQ e)] h (.n (exE e)):=by
 refine ACalls.pure0 rfl ?_;refine acT Tryz.func113 2 ?_;refine A7 @bxE @ldE ?_;refine(ARB G e l _).mono ?_;rintro v h' ⟨c,m,p,q,rfl,s,x,rfl⟩;refine A7 @fE @s.l2 ?_;rcases he:(errs (pre e)==0) with _|_
 .refine A7 @fE @s.l2 ?_
  have:errs (pre e)≠0:=BL he;exact⟨by unfold exE;rw[if_neg (fun g=>this g.1)],_,by rw[zD]⟩
 have b:errs (pre e)=0:=BL he;refine A7 @AAZ @s.l1 ?_;refine IW ?_ ?_<;>intro d
 .refine AY d ?_
  exact⟨by unfold exE;rw[if_pos ⟨b,.inl (by simp at d;omega)⟩],_,by rw[zD]⟩
 refine DC @ALT d @s.l0 ?_;refine BH ?_ ?_<;>intro j
 .refine AB ?_
  exact⟨by unfold exE;rw[if_pos ⟨b,.inr (by simp at j;omega)⟩],_,by rw[zD]⟩
 .refine A7 @fE @s.l2 ?_
  exact⟨by unfold exE;rw[if_neg (fun g=>by simp at j d;omega)],_,by rw[zD]⟩
theorem VW (e:Ex)(h:Hp)(b:wt e<=1048576):PCall (En G) 113 [.agg (AQ e)] h (.n (exE e)):=X9 G e h (AGQ b)
structure Is where
 m:SM
 l:List Int
def PE (x:Is):List AV:=[.sl x.m 1 (x.l.map qencI)]
theorem pX (x:Is):(PE x)[0]?=some (.sl x.m 1 (x.l.map qencI)):=rfl
theorem pW (x:Is):(PE x).length=1:=rfl
structure Pt where
 name:ByteArray
 ex:Ex
 bm:SM
 bins:List Bin
def F8 (p:Pt):List AV:=.str p.name::(AQ p.ex++[.sl p.bm 4 (p.bins.map I7)])
theorem AL4 (p:Pt):(F8 p)[0]?=some (.str p.name):=rfl
theorem QE (p:Pt):(F8 p)[5]?=some (.sl p.bm 4 (p.bins.map I7)):=by unfold F8;rw[FK];rfl
theorem JB (p:Pt):(F8 p).length=6:=by unfold F8;rw[FK];rfl
theorem iO (p:Pt):(F8 p).all AV.leaf=true:=by unfold F8;rw[FK];rfl
theorem AA9 (p:Pt):((F8 p).drop 1).take 4=AQ p.ex:=by unfold F8;rw[FK];rfl
theorem bxP (h:Hp)(p:Pt):OU h (.agg (F8 p))=some (.ptr h.length 0 0,h++[qG 6 [F8 p]]):=by
 have:=bE (h:=h) (iO p);rw[JB] at this;exact this
theorem AR4 {b:Nat}{p:Pt}(d:h[b]?=some (qG 6 [F8 p])):BO jA h 79 (.ptr b 0 1)=some (.agg (AQ p.ex)):=by
 rw[EN NI GZ d rfl (by rw[JB];omega),AA9]
structure Cr where
 name:ByteArray
 pm:SM
 pts:List Int
 xm:SM
 excl:List Is
def JP (c:Cr):List AV:=[.str c.name,.sl c.pm 1 (c.pts.map qencI),.sl c.xm 1 (c.excl.map PE)]
theorem AL5 (c:Cr):(JP c)[0]?=some (.str c.name):=rfl
theorem VY (c:Cr):(JP c)[1]?=some (.sl c.pm 1 (c.pts.map qencI)):=rfl
theorem AFC (c:Cr):(JP c)[2]?=some (.sl c.xm 1 (c.excl.map PE)):=rfl
theorem PI (c:Cr):(JP c).length=3:=rfl
theorem bxC (h:Hp)(c:Cr):OU h (.agg (JP c))=some (.ptr h.length 0 0,h++[qG 3 [JP c]]):=rfl
structure Mo where
 pm:SM
 pts:List Pt
 cm:SM
 crs:List Cr
def DT (m:Mo):List AV:=[.sl m.pm 6 (m.pts.map F8),.sl m.cm 3 (m.crs.map JP)]
theorem XA (m:Mo):(DT m)[0]?=some (.sl m.pm 6 (m.pts.map F8)):=rfl
theorem ZV (m:Mo):(DT m)[1]?=some (.sl m.cm 3 (m.crs.map JP)):=rfl
theorem ATH (m:Mo):(DT m).length=2:=rfl
theorem bxM (h:Hp)(m:Mo):OU h (.agg (DT m))=some (.ptr h.length 0 0,h++[qG 2 [DT m]]):=rfl
def tQ:List ByteArray->List ByteArray->Bool
 | _,[]=>false
 | b,x::xs=>I8 b x||tQ (b++[x]) xs
def SA (l:List ByteArray):Bool:=tQ [] l
theorem UY (N:List ByteArray)(i:Nat)(b:i<N.length):tQ (N.take i) (N.drop i)=(I8 (N.take i) N[i]||tQ (N.take (i+1)) (N.drop (i+1))):=by
 rw[zX b,jV b];rfl
theorem H8 {α:Type}{l:List α}{b:i<l.length}{x:α}(h:l[i]?=some x):l[i]=x:=by
 rw[jO b] at h;exact Option.some.inj h
theorem AK1 (x:Bin)(h:Hp):PCall (En G) 164 [.agg (I7 x)] h (.str x.name):=by
 refine ACalls.pure0 rfl ?_;refine acT Tryz.func164 2 ?_;refine LC @AAV @bxB @AL6 ?_;exact⟨trivial,_,rfl⟩
theorem ANJ (xs:List Bin)(m:SM)(h:Hp)(hl:xs.length<=1099511627776):
  PCall (En G) 163 [.sl m 4 (xs.map I7),.fn (.func 164) [] []] h (.bool (SA (xs.map (·.name)))):=by
 refine acT Tryz.func163 4 ?_;refine AB ?_;generalize L:xs.map (·.name)=N;have V:N.length=xs.length:=by rw[<-L];simp
 have C:∀i (I:i<xs.length),N[i]?=some xs[i].name:=fun i I=>by rw[<-L,zB,jO I];rfl
 refine BB (fun n F H=>∃i,n+i=xs.length/\F 0=.sl m 4 (xs.map I7)/\F 1=.fn (.func 164) [] []/\F 8=.n xs.length/\F 9=.n (i:Nat)/\H=h/\SA N=tQ (N.take i) (N.drop i)) xs.length ⟨0,BA,AO,AO,AO,AO,rfl,rfl⟩ ?_;rintro n F H ⟨i,I,q,A,B,g,rfl,E⟩;refine A7 B g ?_;refine DX ?_ ?_<;>intro j
 .have d:=UY N i U
  rw[H8 (C i j)] at d;refine AY g ?_;refine EK 2 (fun b e=>b 0=.sl m 4 (xs.map I7)/\b 1=.fn (.func 164) [] []/\b 8=.n xs.length/\b 9=.n (i:Nat)/\e=H/\I8 (N.take i) xs[i].name=false) (fun b e=>b 4=.bool (SA N)/\e=H) ?_ ?_ ?_
  .refine BB (fun n b e=>∃k,n+k=i/\b 0=.sl m 4 (xs.map I7)/\b 1=.fn (.func 164) [] []/\b 8=.n xs.length/\b 9=.n (i:Nat)/\b 5=.n (i:Nat)/\b 12=.n (i:Nat)/\b 13=.n (k:Nat)/\e=H/\I8 (N.take i) xs[i].name=I8 ((N.take i).drop k) xs[i].name) i ⟨0,BA,D7 q,D7 A,D7 B,D7 g,AO,AO,AO,rfl,rfl⟩ ?_
   clear q A B g;rintro n' F e ⟨k,hk,q,A,B,g,K,f12,f13,rfl,l⟩;refine A7 f12 f13 ?_;refine DX ?_ ?_<;>intro X
   .have p:k<xs.length:=U
    have J:=NG (fun u=>xs[i].name.toList==u.toList) (N.take i) k (by rw[jR];omega)
    have Z:(N.take i)[k]'(by rw[jR];omega)=xs[k].name:=by
     rw[List.getElem_take];exact H8 (C k p)
    rw[Z] at J;refine AY f13 ?_;refine DR BC ?_;simp only[vQ,MS,MN,↓reduceIte,jC,jP,enP,ZL,q,A,K,CP j,CP p,DL sC dX MM j,DL sC dX MM p];refine⟨_,AK1 G xs[i] _,?_⟩;refine⟨_,AK1 G xs[k] _,?_⟩
    try refine AB ?_
    refine BH ?_ ?_<;>intro M
    .refine AB ?_
     refine⟨?_,trivial⟩
     have:I8 (N.take i) xs[i].name=true:=by
      rw[l];unfold I8;rw[J,M];rfl
     rw[E,d,this];rfl
    .refine A7 f13 (C9 k) ?_
     refine⟨n'-1,U,k+1,U,q,A,B,g,K,f12,rfl,trivial,?_⟩;rw[l];unfold I8;rw[J,M];rfl
   .refine AB ?_
    refine⟨q,A,B,g,trivial,?_⟩;rw[l,jY (by rw[jR];omega)];rfl
  .rintro b e ⟨g0,O,S,T,rfl,Y⟩
   refine A7 T (C9 i) ?_;refine⟨n-1,U,i+1,U,g0,O,S,rfl,trivial,?_⟩;rw[E,d,Y];rfl
  .rintro b e ⟨Q,rfl⟩
   refine AY Q ?_;exact G7
 .refine AB ?_
  exact⟨by rw[E,jY U];rfl,trivial⟩
theorem AKZ (x:Pt)(h:Hp):PCall (En G) 87 [.agg (F8 x)] h (.str x.name):=by
 refine ACalls.pure0 rfl ?_;refine acT Tryz.func87 2 ?_;refine LC @AAW @bxP @AL4 ?_;exact⟨trivial,_,rfl⟩
theorem ANH (xs:List Pt)(m:SM)(h:Hp)(hl:xs.length<=1099511627776):
  PCall (En G) 86 [.sl m 6 (xs.map F8),.fn (.func 87) [] []] h (.bool (SA (xs.map (·.name)))):=by
 refine acT Tryz.func86 4 ?_;refine AB ?_;generalize L:xs.map (·.name)=N;have V:N.length=xs.length:=by rw[<-L];simp
 have C:∀i (I:i<xs.length),N[i]?=some xs[i].name:=fun i I=>by rw[<-L,zB,jO I];rfl
 refine BB (fun n F H=>∃i,n+i=xs.length/\F 0=.sl m 6 (xs.map F8)/\F 1=.fn (.func 87) [] []/\F 8=.n xs.length/\F 9=.n (i:Nat)/\H=h/\SA N=tQ (N.take i) (N.drop i)) xs.length ⟨0,BA,AO,AO,AO,AO,rfl,rfl⟩ ?_;rintro n F H ⟨i,I,q,A,B,g,rfl,E⟩;refine A7 B g ?_;refine DX ?_ ?_<;>intro j
 .have d:=UY N i U
  rw[H8 (C i j)] at d;refine AY g ?_;refine EK 2 (fun b e=>b 0=.sl m 6 (xs.map F8)/\b 1=.fn (.func 87) [] []/\b 8=.n xs.length/\b 9=.n (i:Nat)/\e=H/\I8 (N.take i) xs[i].name=false) (fun b e=>b 4=.bool (SA N)/\e=H) ?_ ?_ ?_
  .refine BB (fun n b e=>∃k,n+k=i/\b 0=.sl m 6 (xs.map F8)/\b 1=.fn (.func 87) [] []/\b 8=.n xs.length/\b 9=.n (i:Nat)/\b 5=.n (i:Nat)/\b 12=.n (i:Nat)/\b 13=.n (k:Nat)/\e=H/\I8 (N.take i) xs[i].name=I8 ((N.take i).drop k) xs[i].name) i ⟨0,BA,D7 q,D7 A,D7 B,D7 g,AO,AO,AO,rfl,rfl⟩ ?_
   clear q A B g;rintro n' F e ⟨k,hk,q,A,B,g,K,f12,f13,rfl,l⟩;refine A7 f12 f13 ?_;refine DX ?_ ?_<;>intro X
   .have p:k<xs.length:=U
    have J:=NG (fun u=>xs[i].name.toList==u.toList) (N.take i) k (by rw[jR];omega)
    have Z:(N.take i)[k]'(by rw[jR];omega)=xs[k].name:=by
     rw[List.getElem_take];exact H8 (C k p)
    rw[Z] at J;refine AY f13 ?_;refine DR BC ?_;simp only[vQ,MS,MN,↓reduceIte,jC,jP,enP,UF,q,A,K,CP j,CP p,DL kF bI JB j,DL kF bI JB p];refine⟨_,AKZ G xs[i] _,?_⟩;refine⟨_,AKZ G xs[k] _,?_⟩
    try refine AB ?_
    refine BH ?_ ?_<;>intro M
    .refine AB ?_
     refine⟨?_,trivial⟩
     have:I8 (N.take i) xs[i].name=true:=by
      rw[l];unfold I8;rw[J,M];rfl
     rw[E,d,this];rfl
    .refine A7 f13 (C9 k) ?_
     refine⟨n'-1,U,k+1,U,q,A,B,g,K,f12,rfl,trivial,?_⟩;rw[l];unfold I8;rw[J,M];rfl
   .refine AB ?_
    refine⟨q,A,B,g,trivial,?_⟩;rw[l,jY (by rw[jR];omega)];rfl
  .rintro b e ⟨g0,O,S,T,rfl,Y⟩
   refine A7 T (C9 i) ?_;refine⟨n-1,U,i+1,U,g0,O,S,rfl,trivial,?_⟩;rw[E,d,Y];rfl
  .rintro b e ⟨Q,rfl⟩
   refine AY Q ?_;exact G7
 .refine AB ?_
  exact⟨by rw[E,jY U];rfl,trivial⟩
theorem AK0 (x:Cr)(h:Hp):PCall (En G) 90 [.agg (JP x)] h (.str x.name):=by
 refine ACalls.pure0 rfl ?_;refine acT Tryz.func90 2 ?_;refine LC @AAU @bxC @AL5 ?_;exact⟨trivial,_,rfl⟩
theorem ANI (xs:List Cr)(m:SM)(h:Hp)(hl:xs.length<=1099511627776):
  PCall (En G) 89 [.sl m 3 (xs.map JP),.fn (.func 90) [] []] h (.bool (SA (xs.map (·.name)))):=by
 refine acT Tryz.func89 4 ?_;refine AB ?_;generalize L:xs.map (·.name)=N;have V:N.length=xs.length:=by rw[<-L];simp
 have C:∀i (I:i<xs.length),N[i]?=some xs[i].name:=fun i I=>by rw[<-L,zB,jO I];rfl
 refine BB (fun n F H=>∃i,n+i=xs.length/\F 0=.sl m 3 (xs.map JP)/\F 1=.fn (.func 90) [] []/\F 8=.n xs.length/\F 9=.n (i:Nat)/\H=h/\SA N=tQ (N.take i) (N.drop i)) xs.length ⟨0,BA,AO,AO,AO,AO,rfl,rfl⟩ ?_;rintro n F H ⟨i,I,q,A,B,g,rfl,E⟩;refine A7 B g ?_;refine DX ?_ ?_<;>intro j
 .have d:=UY N i U
  rw[H8 (C i j)] at d;refine AY g ?_;refine EK 2 (fun b e=>b 0=.sl m 3 (xs.map JP)/\b 1=.fn (.func 90) [] []/\b 8=.n xs.length/\b 9=.n (i:Nat)/\e=H/\I8 (N.take i) xs[i].name=false) (fun b e=>b 4=.bool (SA N)/\e=H) ?_ ?_ ?_
  .refine BB (fun n b e=>∃k,n+k=i/\b 0=.sl m 3 (xs.map JP)/\b 1=.fn (.func 90) [] []/\b 8=.n xs.length/\b 9=.n (i:Nat)/\b 5=.n (i:Nat)/\b 12=.n (i:Nat)/\b 13=.n (k:Nat)/\e=H/\I8 (N.take i) xs[i].name=I8 ((N.take i).drop k) xs[i].name) i ⟨0,BA,D7 q,D7 A,D7 B,D7 g,AO,AO,AO,rfl,rfl⟩ ?_
   clear q A B g;rintro n' F e ⟨k,hk,q,A,B,g,K,f12,f13,rfl,l⟩;refine A7 f12 f13 ?_;refine DX ?_ ?_<;>intro X
   .have p:k<xs.length:=U
    have J:=NG (fun u=>xs[i].name.toList==u.toList) (N.take i) k (by rw[jR];omega)
    have Z:(N.take i)[k]'(by rw[jR];omega)=xs[k].name:=by
     rw[List.getElem_take];exact H8 (C k p)
    rw[Z] at J;refine AY f13 ?_;refine DR BC ?_;simp only[vQ,MS,MN,↓reduceIte,jC,jP,enP,WI,q,A,K,CP j,CP p,DL AJK yI PI j,DL AJK yI PI p];refine⟨_,AK0 G xs[i] _,?_⟩;refine⟨_,AK0 G xs[k] _,?_⟩
    try refine AB ?_
    refine BH ?_ ?_<;>intro M
    .refine AB ?_
     refine⟨?_,trivial⟩
     have:I8 (N.take i) xs[i].name=true:=by
      rw[l];unfold I8;rw[J,M];rfl
     rw[E,d,this];rfl
    .refine A7 f13 (C9 k) ?_
     refine⟨n'-1,U,k+1,U,q,A,B,g,K,f12,rfl,trivial,?_⟩;rw[l];unfold I8;rw[J,M];rfl
   .refine AB ?_
    refine⟨q,A,B,g,trivial,?_⟩;rw[l,jY (by rw[jR];omega)];rfl
  .rintro b e ⟨g0,O,S,T,rfl,Y⟩
   refine A7 T (C9 i) ?_;refine⟨n-1,U,i+1,U,g0,O,S,rfl,trivial,?_⟩;rw[E,d,Y];rfl
  .rintro b e ⟨Q,rfl⟩
   refine AY Q ?_;exact G7
 .refine AB ?_
  exact⟨by rw[E,jY U];rfl,trivial⟩
def fstE {α:Type}(f:α->Int):List α->Int
 | []=>0
 | x::xs=>if f x=0 then fstE f xs else f x
theorem UX {α:Type}(f:α->Int)(xs:List α)(k:Nat)(hk:k<xs.length):fstE f (xs.drop k)=if f xs[k]=0 then fstE f (xs.drop (k+1)) else f xs[k]:=by
 rw[zX hk];rfl
def G9 (p:Pt):Int :=
 if FI p.name=false then 7 else if exE p.ex≠0 then exE p.ex else if p.bins.length=0 then 1 else if 64<p.bins.length then 2 else
  if fstE IR p.bins≠0 then fstE IR p.bins else if SA (p.bins.map (·.name)) then 8 else 0
structure PtOk (p:Pt):Prop where
 ex:wt p.ex<=1048576
 name:p.name.size<=1048576
 num:p.bins.length<=1048576
 bins:∀b∈p.bins,BinOk b
theorem al79 (h:Hp):IG jA h 87=some (.ptr h.length 0 0,h++[qG 4 [[.str ⟨#[]⟩,.n 0,.sl .nil 0 [],.sl .nil 0 []]]]):=F9 (row:=[.str ⟨#[]⟩,.n 0,.sl .nil 0 [],.sl .nil 0 []]) BC
theorem st79 (h:Hp)(b:Bin)(row:List AV)(d:row.length=4):D8 jA (h++[qG 4 [row]]) 87 (.ptr h.length 0 0) (.agg (I7 b))=some (h++[qG 4 [I7 b]]):=by
 rw[UW (RV rfl) (by rw[MM];exact dX) (by rw[MM,d];exact jF _)];have:splice row 0 (I7 b)=I7 b:=by unfold splice;simp [MM,d]
 rw[this]
theorem AHP (N:GOk G)(p:Pt)(L:PtOk p)(h:Hp):PCall (En G) 85 [.agg (F8 p)] h (.n (G9 p)):=by
 refine ACalls.pure0 rfl ?_;have O:=L.ex;have a0:=L.name;have a1:=L.num;refine acT Tryz.func85 2 ?_;refine LC @AAW @bxP @AL4 ?_;refine(NR G N.kw p.name _ U).uu ?_;cases Q:FI p.name
 .refine AB ?_
  exact⟨by unfold G9;rw[if_pos Q],_,rfl⟩
 have b:¬FI p.name=false:=by rw[Q];decide
 simp only[vQ,CQ,↓reduceIte,jC,qN,enP,cZ,AR4 (AZ h _)];refine(PY G N p.ex _ O).uu ?_;refine BH ?_ ?_<;>intro S
 .refine AB ?_
  exact⟨by unfold G9;rw[if_neg b,if_pos (BL S)],_,rfl⟩
 have l:¬exE p.ex≠0:=BL S;refine UK @QE ?_;refine BH ?_ ?_<;>intro J
 .refine AB ?_
  exact⟨by unfold G9;rw[if_neg b,if_neg l,if_pos (by simp at J;simpa using J)],_,rfl⟩
 have E:¬p.bins.length=0:=by simp at J;simpa using J
 refine UK @QE ?_;refine BH ?_ ?_<;>intro T
 .refine AB ?_
  exact⟨by unfold G9;rw[if_neg b,if_neg l,if_neg E,if_pos (by simp at T;omega)],_,rfl⟩
 have M:¬64<p.bins.length:=by simp at T;omega
 have q:G9 p=if fstE IR p.bins≠0 then fstE IR p.bins else if SA (p.bins.map (·.name)) then 8 else 0:=by
  unfold G9;rw[if_neg b,if_neg l,if_neg E,if_neg M]
 refine UK @QE ?_;refine EK 1 (fun F H=>F 1=.ptr h.length 0 0/\H[h.length]?=some (qG 6 [F8 p])/\(∃x,H=h++x)/\fstE IR p.bins=0) (fun F H=>F 2=.n (G9 p)/\∃x,H=h++x) ?_ ?_ ?_
 .refine BB (fun n F H=>∃k,n+k=p.bins.length/\F 1=.ptr h.length 0 0/\F 28=.sl p.bm 4 (p.bins.map I7)/\F 29=.n p.bins.length/\F 30=.n (k:Nat)/\H[h.length]?=some (qG 6 [F8 p])/\(∃x,H=h++x)/\fstE IR p.bins=fstE IR (p.bins.drop k)) p.bins.length ⟨0,BA,EZ,EZ,EZ,EZ,AZ _ _,⟨_,rfl⟩,rfl⟩ ?_
  rintro n F H ⟨k,hk,I,B,C,j,K,⟨x,g⟩,A⟩;refine A7 C j ?_;refine DX ?_ ?_<;>intro d
  .have X:=UX IR p.bins k d
   simp only[vQ,CQ,↓reduceIte,jC,enP,ZL,jQ,B,j,CP d,DL sC dX MM d,al79,st79 _ _ [.str ⟨#[]⟩,.n 0,.sl .nil 0 [],.sl .nil 0 []] rfl,ldB];refine(valid_prog G N.kw p.bins[k] (L.bins _ (jH d)) _).uu ?_;refine BH ?_ ?_<;>intro Y
   .refine AB ?_
    have e:IR p.bins[k]≠0:=BL Y;have:fstE IR p.bins=IR p.bins[k]:=by rw[A,X,if_neg e]
    exact⟨by rw[q,this,if_pos e],x++_,by rw[g,zD]⟩
   .have e:IR p.bins[k]=0:=BL Y
    refine A7 j (C9 k) ?_;exact⟨n-1,U,k+1,U,I,B,C,rfl,AU K,⟨x++_,by rw[g,zD]⟩,by rw[A,X,if_pos e]⟩
  .refine AB ?_
   exact⟨I,K,⟨x,g⟩,by rw[A,jY U];rfl⟩
 .rintro F H ⟨I,K,⟨x,g⟩,A⟩
  have l5:BO jA H 80 (.ptr h.length 0 5)=some (.sl p.bm 4 (p.bins.map I7)):=by rw[BK QQ K (row:=F8 p) rfl,QE]
  refine A7 I l5 ?_;refine(ANJ G p.bins p.bm H U).uu ?_;cases V:SA (p.bins.map (·.name))
  .refine AB ?_
   exact⟨by rw[q,A,V];rfl,x,g⟩
  .refine AB ?_
   exact⟨by rw[q,A,V];rfl,x,g⟩
 .rintro F H ⟨Z,g⟩
  refine AY Z ?_;exact⟨trivial,g⟩
theorem ANL (p:Pt)(S:PtOk p)(h:Hp):PCall (En G) 108 [.agg (F8 p)] h (.n (G9 p)):=by
 refine ACalls.pure0 rfl ?_;have a0:=S.ex;have a2:=S.name;have a3:=S.num;refine acT Tryz.func108 2 ?_;refine LC @AAW @bxP @AL4 ?_;refine(O9 G p.name _).uu ?_;cases h1:FI p.name
 .refine AB ?_
  exact⟨by unfold G9;rw[if_pos h1],_,rfl⟩
 have q:¬FI p.name=false:=by rw[h1];decide
 simp only[vQ,CQ,↓reduceIte,jC,qN,enP,cZ,AR4 (AZ h _)];refine(VW G p.ex _ a0).uu ?_;refine BH ?_ ?_<;>intro h2
 .refine AB ?_
  exact⟨by unfold G9;rw[if_neg q,if_pos (BL h2)],_,rfl⟩
 have C:¬exE p.ex≠0:=BL h2;refine UK @QE ?_;refine BH ?_ ?_<;>intro Q
 .refine AB ?_
  exact⟨by unfold G9;rw[if_neg q,if_neg C,if_pos (by simp at Q;simpa using Q)],_,rfl⟩
 have L:¬p.bins.length=0:=by simp at Q;simpa using Q
 refine UK @QE ?_;refine BH ?_ ?_<;>intro h4
 .refine AB ?_
  exact⟨by unfold G9;rw[if_neg q,if_neg C,if_neg L,if_pos (by simp at h4;omega)],_,rfl⟩
 have X:¬64<p.bins.length:=by simp at h4;omega
 have g:G9 p=if fstE IR p.bins≠0 then fstE IR p.bins else if SA (p.bins.map (·.name)) then 8 else 0:=by
  unfold G9;rw[if_neg q,if_neg C,if_neg L,if_neg X]
 refine AB ?_;refine EK 0 (fun F H=>F 1=.ptr h.length 0 0/\H=h++[qG 6 [F8 p]]/\fstE IR p.bins=0) (fun F H=>F 2=.n (G9 p)/\∃x,H=h++x) ?_ ?_ ?_
 .refine BB (fun n F H=>∃k,n+k=p.bins.length/\F 1=.ptr h.length 0 0/\F 4=.n (k:Nat)/\H=h++[qG 6 [F8 p]]/\fstE IR p.bins=fstE IR (p.bins.drop k)) p.bins.length ⟨0,BA,EZ,EZ,rfl,rfl⟩ ?_
  rintro n F H ⟨k,hk,b,T,rfl,O⟩;refine LC b T @QE ?_;refine DX ?_ ?_<;>intro e
  .have K:=UX IR p.bins k e
   simp only[vQ,CQ,↓reduceIte,jC,enP,ZL,KX,b,T,EI QQ,QE,CP e,DL sC dX MM e];refine(valid_ref G p.bins[k] (S.bins _ (jH e)) _).uu ?_;refine BH ?_ ?_<;>intro hv
   .refine AB ?_
    have A:IR p.bins[k]≠0:=BL hv;have:fstE IR p.bins=IR p.bins[k]:=by rw[O,K,if_neg A]
    exact⟨by rw[g,this,if_pos A],_,rfl⟩
   .have A:IR p.bins[k]=0:=BL hv
    refine A7 T (C9 k) ?_;exact⟨n-1,U,k+1,U,b,rfl,trivial,by rw[O,K,if_pos A]⟩
  .refine AB ?_
   exact⟨b,trivial,by rw[O,jY U];rfl⟩
 .rintro F H ⟨b,rfl,O⟩
  rw[O,if_neg (fun hh=>hh rfl)] at g;refine AY b ?_;generalize hN:p.bins.map (·.name)=N at g;have a1:N.length=p.bins.length:=by rw[<-hN];simp
  have M:∀i (hi:i<p.bins.length),N[i]?=some p.bins[i].name:=fun i hi=>by rw[<-hN,zB,jO hi];rfl
  refine BB (fun n F H=>∃i,n+i=p.bins.length/\F 1=.ptr h.length 0 0/\F 5=.n (i:Nat)/\H=h++[qG 6 [F8 p]]/\SA N=tQ (N.take i) (N.drop i)) p.bins.length ⟨0,BA,UD b,EZ,rfl,rfl⟩ ?_;clear b;rintro n F H ⟨i,hi,b,l,rfl,Y⟩;refine LC b l @QE ?_;refine DX ?_ ?_<;>intro E
  .have d:=UY N i U
   rw[H8 (M i E)] at d;refine AY l ?_;refine EK 4 (fun j B=>j 1=.ptr h.length 0 0/\j 5=.n (i:Nat)/\B=h++[qG 6 [F8 p]]/\I8 (N.take i) p.bins[i].name=false) (fun j B=>j 2=.n 8/\B=h++[qG 6 [F8 p]]/\SA N=true) ?_ ?_ ?_
   .refine BB (fun n j B=>∃k,n+k=i/\j 1=.ptr h.length 0 0/\j 5=.n (i:Nat)/\j 6=.n (k:Nat)/\B=h++[qG 6 [F8 p]]/\I8 (N.take i) p.bins[i].name=I8 ((N.take i).drop k) p.bins[i].name) i ⟨0,BA,UD b,UD l,EZ,rfl,rfl⟩ ?_
    clear b l;rintro n' F B ⟨k,hk,b,l,V,rfl,I⟩;refine A7 l V ?_;refine DX ?_ ?_<;>intro e
    .have J:k<p.bins.length:=U
     have K:=NG (fun u=>p.bins[i].name.toList==u.toList) (N.take i) k (by rw[jR];omega)
     have hx:(N.take i)[k]'(by rw[jR];omega)=p.bins[k].name:=by
      rw[List.getElem_take];exact H8 (M k J)
     rw[hx] at K;refine AB ?_;refine DR BC ?_;simp only[vQ,QF,↓reduceIte,jC,jP,enP,ZL,KX,AAV,b,l,V,EI QQ,QE,CP E,CP J,BR ag9 E,BR ag9 J,AL6];refine BH ?_ ?_<;>intro hb
     .refine AB ?_
      have:I8 (N.take i) p.bins[i].name=true:=by
       rw[I];unfold I8;rw[K,BEq.comm,hb];rfl
      exact⟨trivial,trivial,by rw[Y,d,this];rfl⟩
     .refine A7 V (C9 k) ?_
      refine⟨n'-1,U,k+1,U,b,l,rfl,trivial,?_⟩;rw[I];unfold I8;rw[K,BEq.comm,hb];rfl
    .refine AB ?_
     refine⟨b,l,trivial,?_⟩;rw[I,jY (by rw[jR];omega)];rfl
   .rintro j B ⟨g1,g5,rfl,hn⟩
    refine A7 g5 (C9 i) ?_;refine⟨n-1,U,i+1,U,g1,rfl,trivial,?_⟩;rw[Y,d,hn];rfl
   .rintro j B ⟨g2,rfl,Z⟩
    refine AY g2 ?_;exact⟨by rw[g,Z];rfl,_,rfl⟩
  .refine AB ?_
   exact⟨by rw[g,Y,jY U];rfl,_,rfl⟩
 .rintro F H ⟨f2,hx⟩
  refine AY f2 ?_;exact⟨trivial,hx⟩
def outG {α:Type}(k:Nat)(f:α->List AV)(h:Hp)(ys:List α)(v:AV)(H:Hp):Prop :=
 (ys=[]/\v=.sl .nil 0 [])\/(ys≠[]/\∃o,h.length<=o/\v=.own o 0 ys.length/\H[o]?=some (qG k (ys.map f)))
theorem outG.nil {α:Type}(k:Nat)(f:α->List AV)(h H:Hp):outG k f h [] (.sl .nil 0 []) H:=.inl ⟨rfl,rfl⟩
theorem outG.keep {α:Type}{f:α->List AV}{H':Hp}{ys:List α}(j:outG k f h ys v H)(hk:∀b,isB v b->H'[b]?=H[b]?):outG k f h ys v H':=by
 rcases j with d|⟨d,o,e,rfl,g⟩
 .exact .inl d
 .exact .inr ⟨d,o,e,rfl,by rw[hk o rfl];exact g⟩
theorem outG.lt {α:Type}{f:α->List AV}{ys:List α}{b:Nat}(j:outG k f h ys v H)(d:isB v b):h.length<=b/\b<H.length:=by
 rcases j with⟨_,rfl⟩|⟨_,o,e,rfl,g⟩
 .exact d.elim
 .cases d;exact⟨e,AX g⟩
theorem outG.app {α:Type}{f:α->List AV}{ys:List α}(b:outG k f h ys v H)(x:Hp):outG k f h ys v (H++x) :=
 b.keep fun _ d=>qH (b.lt d).2
theorem outG.append {t e:TypeId}{α:Type}{p:Nat}{f:α->List AV}{ys:List α}(M:outG k f h ys v H)(B:P.underlying t=some (.slice e))(A:szO P e=some k)(C:UZ P e=some k)(d:LQ P e=some p)(hbs:p<=4194304)(N:ys.length<8388608)(g:ext h H)(y:α):
  ∃l H',EH P true H t t v (.sl .full k [f y])=some (l,H')/\outG k f h (ys++[y]) l H'/\(∀b x,H[b]?=some x->¬isB v b->H'[b]?=some x)/\ext h H'/\H.length<=H'.length/\∀b,isB l b->b=H.length:=by
 have q:([f y]:List (List AV))≠[]:=BA;rcases M with⟨rfl,rfl⟩|⟨L,o,E,rfl,I⟩
 .exact⟨_,_,UU B A C d (H6 H .full k [f y]) q (I5 BA hbs),.inr ⟨BA,H.length,g.le,rfl,BA⟩,fun b x d _=>IA d,g.app _,BA,fun b d=>d.symm⟩
 .have J:JJ H (.own o 0 ys.length)=some (k,ys.map f):=by
   rw[JK I BA,zI,jK BA]
  refine⟨_,_,TM B A C d J (H6 H .full k [f y]) q (I5 NZ hbs),.inr ⟨BA,H.length,g.le,BA,BA⟩,fun b x d K=>?_,(g.set E _).app _,BA,fun b d=>d.symm⟩;have j:¬o=b:=K;refine IA ?_;rw[zU,if_neg j];exact d
theorem outG.len {t:TypeId}{α:Type}{f:α->List AV}{ys:List α}(e:outG k f h ys v H)(d:(∀m k xs,KA P t (.sl m k xs)=some (.n xs.length))/\∀b off len,KA P t (.own b off len)=some (.n len)):KA P t v=some (.n ys.length):=by
 rcases e with⟨rfl,rfl⟩|⟨_,o,_,rfl,_⟩
 .exact d.1 _ _ _
 .exact d.2 _ _ _
def nm {α:Type}(ys:List α):SM:=match ys with
 | []=>.nil
 | _=>.any
theorem frzF_own (n:Nat)(h:Hp)(d b off len k:Nat)(xs:List (List AV))(g:¬b<n)(e:h[b]?=some (qG k xs)):FH n h (d+1) (.own b off len)=if off+len<=xs.length/\(((xs.drop off).take len).map (·.map (FH n h d))).all (·.all AV.leaf)=true then .sl .any k (((xs.drop off).take len).map (·.map (FH n h d))) else .junk:=by
 rw[FH];simp only[g,if_false,e]
def Frz {α:Type}(f:α->List AV):Prop:=∀(n:Nat) (h:Hp) (d:Nat) (x:α),(f x).map (FH n h (d+1))=f x/\(f x).all AV.leaf=true
theorem frz_rows {α:Type}{f:α->List AV}(b:Frz f)(n:Nat)(h:Hp)(d:Nat)(xs:List α):(xs.map f).map (·.map (FH n h (d+1)))=xs.map f:=by
 rw[qE];exact List.map_congr_left fun x _=>(b n h d x).1
theorem frz_own {α:Type}{f:α->List AV}(b:Frz f){d:Nat}{o:Nat}{xs:List α}(j:n<=o)(e:h[o]?=some (qG k (xs.map f))):FH n h (d+2) (.own o 0 xs.length)=.sl .any k (xs.map f):=by
 rw[frzF_own n h (d+1) o 0 xs.length k _ U e,zI,jK BA,frz_rows b n h d xs];rw[if_pos];refine⟨BA,?_⟩;rw[zJ];intro row g;obtain⟨x,_,rfl⟩:=zQ.1 g;exact(b n h d x).2
theorem JZ {E:Env}{f:FuncId}{args:List AV}{α:Type}{enc:α->List AV}(hf:Frz enc){ys:List α}(hc:ACalls E f args h fun v H=>ext h H/\outG k enc h ys v H)(hX:E.nox=E:=by rfl):PCall E f args h (.sl (nm ys) k (ys.map enc)):=by
 have h1:PCall E f args h (if ys.length=0 then AV.sl .nil 0 [] else .sl .any k (ys.map enc)):=by
  refine ACalls.pure 2 hc ?_ hX;rintro v H ⟨hex,hout⟩;refine⟨hex,?_⟩;rcases hout with⟨rfl,rfl⟩|⟨hne,o,ho1,rfl,ho⟩
  .rfl
  .rw[if_neg (BL hne)];exact frz_own hf ho1 ho
 refine ACalls.conv h1 ?_;rintro v H ⟨rfl,rfl⟩;refine⟨_,⟨rfl,rfl⟩,?_⟩;intro g cv hr
 cases ys with
 | nil=>exact AD2 hr
 | cons y ys=>exact hr
def JL (m:Mo)(p:Int):List Bin:=match m.pts[p.toNat]? with
 | some q=>q.bins
 | none=>[]
def szs (m:Mo)(l:List Int):List Nat:=l.map fun p=>(JL m p).length
def Here (m:Mo)(l:List Int):Prop:=∀p∈l,0<=p/\p<(m.pts.length:Int)
theorem Here.toNat {m:Mo}{l:List Int}(b:Here m l){k:Nat}(hk:k<l.length):(l[k]).toNat<m.pts.length:=by
 have:=b _ (jH hk);omega
theorem Here.bins {m:Mo}{l:List Int}(b:Here m l){k:Nat}(hk:k<l.length):(m.pts[(l[k]).toNat]'(b.toNat hk)).bins=JL m l[k]:=by
 unfold JL;rw[jO (b.toNat hk)]
theorem Here.ix {m:Mo}{l:List Int}(b:Here m l){k:Nat}(hk:k<l.length)(h:Hp)(s:SM):JD 6 h (.sl s 6 (m.pts.map F8)) (.n l[k])=some (.fptr 6 (m.pts.map F8) (l[k]).toNat 0):=by
 have:=b _ (jH hk);exact AZ0 this.1 (by rw[jI];exact this.2)
theorem Here.ld {m:Mo}{l:List Int}(b:Here m l){k:Nat}(hk:k<l.length)(h:Hp):∃s,BO jA h 80 (.fptr 6 (m.pts.map F8) (l[k]).toNat 5)=some (.sl s 4 ((JL m l[k]).map I7)):=by
 rw[BR QQ (b.toNat hk),QE,b.bins hk];exact⟨_,rfl⟩
theorem frzI:Frz qencI:=fun _ _ _ _=>⟨rfl,rfl⟩
theorem AI7 (h:Hp)(v:Int):DJ jA false h 32 1 [(0,.n v)]=some (.sl .full 1 [[.n v]],h):=BC
def O3 (n:Nat):List AV:=[.n (n:Int)]
theorem A4K:Frz O3:=fun _ _ _ _=>⟨rfl,rfl⟩
theorem AE9 (n:Nat):(O3 n)[0]?=some (.n (n:Int)):=rfl
theorem encI0 (n:Int):(qencI n)[0]?=some (.n n):=rfl
theorem ACE (m:Mo)(l:List Int)(k:Nat)(hk:k<l.length):szs m (l.take (k+1))=szs m (l.take k)++[(JL m l[k]).length]:=by
 unfold szs;rw[jV hk,List.map_append];rfl
theorem nL (m:Mo)(c:Cr)(h:Hp)(K:Here m c.pts)(V:c.pts.length<=1048576):PCall (En G) 148 [.agg (DT m),.agg (JP c)] h (.sl (nm (szs m c.pts)) 1 ((szs m c.pts).map O3)):=by
 refine JZ A4K ?_;refine acT Tryz.func148 4 ?_;refine OH @bxM @bxC O4 @VY ?_;have l:(h++[qG 2 [DT m]]++[qG 3 [JP c]])[h.length]?=some (qG 2 [DT m]):=AU (AZ _ _);refine BB (fun n F H=>∃k,n+k=c.pts.length/\F 2=.ptr h.length 0 0/\F 9=.sl c.pm 1 (c.pts.map qencI)/\F 10=.n c.pts.length/\F 11=.n (k:Nat)/\H[h.length]?=some (qG 2 [DT m])/\ext h H/\(∀b,isB (F 5) b->h.length<b)/\outG 1 O3 h (szs m (c.pts.take k)) (F 5) H) c.pts.length ⟨0,BA,EZ,EZ,EZ,EZ,l,((ext.rfl' h).app _).app _,fun b j=>j.elim,outG.nil _ _ _ _⟩ ?_;rintro n F H ⟨k,hk,E,I,f10,f11,j,J,q,A⟩;refine A7 f10 f11 ?_;refine DX ?_ ?_<;>intro d
 .have Q:BO jA H 28 (.ptr h.length 0 0)=some (.sl m.pm 6 (m.pts.map F8)):=by rw[BK kG j (row:=DT m) rfl,XA]
  obtain⟨s,S⟩:=K.ld d H;have C:(szs m (c.pts.take k)).length<8388608:=by unfold szs;simp;omega
  obtain⟨T,L,M,B,g,p,hle,N⟩:=A.append gH sz3 xY rM U C J (JL m c.pts[k]).length;simp only[vQ,CQ,↓reduceIte,jC,enP,UF,LZ,LJ,eO,KX,E,I,f11,CP d,BR ag3 d,encI0,Q,K.ix d,S,jI,AI7];refine MF (v:=T) (h:=L) (by rw[show [[AV.int .i64 ((JL m c.pts[k]).length:Int)]]=[O3 (JL m c.pts[k]).length] from rfl,M]) ?_;refine A7 f11 (C9 k) ?_;refine⟨n-1,U,k+1,U,E,I,f10,rfl,g _ _ j (fun e=>by have:=q _ e;omega),p,fun b O=>?_,?_⟩
  .grind
  .rw[ACE m c.pts k d];exact B
 .rw[jK U] at A
  refine AB ?_;exact⟨J,A⟩
def KJ (l:List Nat):Nat:=l.foldl (· * ·) 1
theorem cP (l:List Nat)(k:Nat)(hk:k<l.length):KJ (l.take (k+1))=KJ (l.take k)*l[k]:=by
 unfold KJ;rw[jV hk,List.foldl_append];rfl
theorem AQ3 (l:List Nat)(k:Nat)(h:∀n∈l,n<=64)(hk:l.length<=k):KJ l<=64^k:=by
 have gen:∀(l:List Nat) (a:Nat) (j:Nat),(∀n∈l,n<=64)->a<=64^j->l.foldl (· * ·) a<=64^(j+l.length):=by
  intro l
  induction l with
  | nil=>intro a j _ b;exact b
  | cons x l g =>
    intro a j d b;rw[qU,zF,show j+(l.length+1)=(j+1)+l.length by omega];refine g _ _ (fun n e=>d n (by simp [e])) ?_;rw[Nat.pow_succ];exact Nat.mul_le_mul b (d x BA)
 have:=gen l 1 0 h BA;rw[jG] at this;exact qX this (Nat.pow_le_pow_right U hk)
theorem AHO (l:List Nat)(k:Nat)(h:∀n∈l,1<=n):KJ (l.take k)<=KJ l:=by
 have gen:∀(l:List Nat) (a:Nat),(∀n∈l,1<=n)->a<=l.foldl (· * ·) a:=by
  intro l
  induction l with
  | nil=>intro a _;exact jF _
  | cons x l g =>
    intro a d;rw[qU];refine qX ?_ (g _ (fun n b=>d n (by simp [b])));exact Nat.le_mul_of_pos_right a (d x BA)
 have e:KJ l=(l.drop k).foldl (· * ·) (KJ (l.take k)):=by
  unfold KJ
  conv=>lhs;rw[<-wE k l,List.foldl_append]
 rw[e];exact gen _ _ (fun n b=>h n (List.mem_of_mem_drop b))
theorem eF (l:List Nat)(s:SM)(h:Hp)(q:∀n∈l,n<=64)(hk:l.length<=4):PCall (En G) 147 [.sl s 1 (l.map O3)] h (.n (KJ l)):=by
 refine acT Tryz.func147 2 ?_;refine AB ?_
 have B:∀k,KJ (l.take k)<=16777216:=fun k=>by
  have:=AQ3 (l.take k) 4 (fun n A=>q n (List.mem_of_mem_take A)) (by rw[jR];omega);simpa using this
 refine BB (fun n F H=>∃k,n+k=l.length/\F 3=.n (KJ (l.take k))/\F 6=.sl s 1 (l.map O3)/\F 7=.n l.length/\F 8=.n (k:Nat)/\H=h) l.length ⟨0,BA,AO,AO,AO,AO,rfl⟩ ?_;rintro n F H ⟨k,hk,d,j,e,g,rfl⟩;refine A7 e g ?_;refine DX ?_ ?_<;>intro b
 .have p:=B (k+1)
  rw[cP l k b] at p
  have C:IntKind.i64.wrap ((KJ (l.take k):Int)*(l[k]:Int))=((KJ (l.take (k+1)):Nat):Int):=by
   rw[cP l k b,<-Int.natCast_mul,N8 U]
  refine KZ d j g b @AE9 C (C9 k) ?_;exact⟨n-1,U,k+1,U,rfl,trivial,e,rfl,trivial⟩
 .rw[jK U] at d
  refine AY d ?_;exact G7
def J6:List Nat->List Int->Bool
 | [],[]=>true
 | n::ns,x::xs=>decide (0<=x)&&decide (x<(n:Int))&&J6 ns xs
 | _,_=>false
theorem ASI (ns:List Nat):J6 ns []=(ns.length==0):=by cases ns<;>rfl
theorem TS:∀ {ns:List Nat} {xs:List Int},J6 ns xs=true->ns.length=xs.length
 | [],[],_=>rfl
 | n::ns,x::xs,h=>by
   simp only[J6,jX] at h;simp [TS h.2]
 | [],_::_,h=>by cases h
 | _::_,[],h=>by cases h
theorem inside_prog (ns:List Nat)(xs:List Int)(s t:SM)(h:Hp)(K:ns.length<=1048576):PCall (En G) 167 [.sl s 1 (ns.map O3),.sl t 1 (xs.map qencI)] h (.bool (J6 ns xs)):=by
 refine acT Tryz.func167 4 ?_;refine AB ?_;refine BB (fun n F H=>∃k,n+k=xs.length/\k<=ns.length/\F 0=.sl s 1 (ns.map O3)/\F 1=.sl t 1 (xs.map qencI)/\F 7=.sl t 1 (xs.map qencI)/\F 8=.n xs.length/\F 9=.n (k:Nat)/\H=h/\J6 ns xs=J6 (ns.drop k) (xs.drop k)) xs.length ⟨0,BA,BA,AO,AO,AO,AO,AO,rfl,rfl⟩ ?_;rintro n F H ⟨k,hk,J,g,q,A,B,p,rfl,d⟩;refine A7 B p ?_;refine DX ?_ ?_<;>intro e
 .rw[zX e] at d
  simp only[vQ,EP,CQ,↓reduceIte,jC,enP,LJ,YT,g,A,p,CP e,BR ag3 e,encI0,jI];refine IW ?_ ?_<;>intro j
  .refine AY j ?_
   have:ns.length<=k:=by simp at j;omega
   rw[jY this] at d;exact⟨by rw[d];rfl,trivial⟩
  have b:k<ns.length:=by simp at j;omega
  rw[zX b] at d;refine AY j ?_;refine IW ?_ ?_<;>intro l
  .refine AY l ?_
   have:decide (0<=xs[k])=false:=by simp at l|-;omega
   exact⟨by rw[d];unfold J6;rw[this];rfl,trivial⟩
  have C:decide (0<=xs[k])=true:=by simp at l|-;omega
  simp only[vQ,EP,CQ,↓reduceIte,jC,enP,LJ,l,g,CP b,BR ag3 b,AE9];refine BH ?_ ?_<;>intro E
  .refine AB ?_
   have:decide (xs[k]<(ns[k]:Int))=false:=by simp at E|-;omega
   exact⟨by rw[d];unfold J6;rw[this,C];rfl,trivial⟩
  have I:decide (xs[k]<(ns[k]:Int))=true:=by simp at E|-;omega
  refine A7 p (C9 k) ?_;refine⟨n-1,U,k+1,U,U,g,q,A,B,rfl,trivial,?_⟩;rw[d]
  conv=>lhs;unfold J6
  rw[C,I];rfl
 .refine A7 g q ?_
  refine⟨?_,trivial⟩;rw[d,jY (U:xs.length<=k),ASI,List.length_drop];congr 1;rw[Bool.eq_iff_iff];simp;omega
theorem AEN (G:Nat->AV)(xs:List Is)(m:SM)(g:FuncId)(b:List AV)(p:Is->Bool)(h:Hp)(K:xs.length<=1099511627776)
  (I:∀r,PCall (En G) g (.sl r.m 1 (r.l.map qencI)::b) h (.bool (p r))) :
  PCall (En G) 243 [.sl m 1 (xs.map PE),.fn (.func g) [] b] h (.n (match xs.findIdx? p with|some i=>(i:Int)|none => -1)):=by
 refine acT Tryz.func243 4 ?_;refine AB ?_;refine BB (fun n F H=>∃k,n+k=xs.length/\F 0=.sl m 1 (xs.map PE)/\F 1=.fn (.func g) [] b/\F 7=.n xs.length/\F 8=.n (k:Nat)/\H=h/\(xs.take k).all (fun r => !p r)=true) xs.length ⟨0,BA,rfl,rfl,rfl,rfl,rfl,rfl⟩ ?_;rintro n F H ⟨k,hk,q,A,B,C,rfl,d⟩;refine EG q A B C ?_;refine DX ?_ ?_<;>intro e
 .simp only[vQ,CQ,qI,zG,↓reduceIte,jC,enP,oR,q,A,B,C,CP e,BR O4 e,pX]
  refine(I _).uu ?_;refine BH ?_ ?_<;>intro E
  .refine AB ?_
   refine⟨?_,trivial⟩
   rw[wR.2 ⟨e,E,fun j J=>by
    rw[zJ] at d;have:=d xs[j] (by rw[List.mem_take_iff_getElem];exact⟨j,U,rfl⟩)
    simpa using this⟩]
  .refine A7 C (C9 k) ?_
   refine⟨n-1,U,k+1,U,q,A,B,rfl,trivial,?_⟩;rw[jV e,List.all_append,d];simp only[wS,List.all_nil,E];rfl
 .refine AB ?_
  refine⟨?_,trivial⟩;rw[jK U] at d;rw[wU.2 (BL d)]
theorem ZW (G:Nat->AV)(xs:List Is)(m:SM)(d:FuncId)(b:List AV)(p:Is->Bool)(h:Hp)(A:xs.length<=1099511627776)
  (q:∀r,PCall (En G) d (.sl r.m 1 (r.l.map qencI)::b) h (.bool (p r))) :
  PCall (En G) 165 [.sl m 1 (xs.map PE),.fn (.func d) [] b] h (.bool (xs.any p)):=by
 refine acT Tryz.func165 4 ?_;refine AB ?_;refine(AEN G xs m d b p h A q).uu ?_;refine⟨?_,trivial⟩
 cases e:xs.findIdx? p with
 | some i =>
   obtain⟨B,j,_⟩:=wR.1 e;have:xs.any p=true:=qJ.2 ⟨xs[i],BA,j⟩;simp [this]
 | none =>
   have:xs.any p=false:=by
    rw[wU] at e;rw[qQ];intro x g;simp [e x g]
   simp [this]
theorem AAA (ns:List Nat)(s:SM)(b:Nat)(r:Is)(h:Hp)(d:h[b]?=some (qG 1 [[.sl s 1 (ns.map O3)]]))(e:ns.length<=1048576):
  PCall (En G) 166 [.sl r.m 1 (r.l.map qencI),.ptr b 0 0] h (.bool (!J6 ns r.l)):=by
 refine acT Tryz.func166 3 ?_;refine AY (IL O4 d) ?_;refine(inside_prog G ns r.l s r.m h e).uu ?_;exact G7
def ZO (n:Nat):Option Int->List Int->Bool
 | _,[]=>true
 | o,p::ps=>(decide (0<=p)&&decide (p<(n:Int))&&(match o with|some q=>decide (q<p)|none=>true))&&ZO n (some p) ps
def prev (l:List Int)(k:Nat):Option Int:=match k with
 | 0=>none
 | k+1=>l[k]?
theorem vO (n:Nat)(l:List Int)(k:Nat)(hk:k<l.length):ZO n (prev l k) (l.drop k)=((decide (0<=l[k])&&decide (l[k]<(n:Int))&&(match prev l k with|some q=>decide (q<l[k])|none=>true))&&ZO n (prev l (k+1)) (l.drop (k+1))):=by
 rw[zX hk];have:prev l (k+1)=some l[k]:=by unfold prev;exact jO hk
 rw[this];rfl
theorem aW {m:Mo}:∀ {l:List Int} {o:Option Int},ZO m.pts.length o l=true->Here m l
 | [],_,_=>fun p b=>by cases b
 | x::l,o,h=>by
   simp only[ZO,jX,decide_eq_true_eq] at h;intro p b
   cases zO.1 b with
   | inl e=>subst e;exact⟨h.1.1.1,h.1.1.2⟩
   | inr e=>exact aW h.2 p e
def IE (m:Mo)(c:Cr):Int :=
 if FI c.name=false then 7 else if c.pts.length<2\/4<c.pts.length then 1 else if ZO m.pts.length none c.pts=false then 1 else
  if 256<KJ (szs m c.pts)\/256<c.excl.length then 2 else if(c.excl.any fun x => !J6 (szs m c.pts) x.l) then 1 else 0
structure CrOk (c:Cr):Prop where
 name:c.name.size<=1048576
 pts:c.pts.length<=1048576
 excl:c.excl.length<=1048576
 each:∀x∈c.excl,x.l.length<=1048576
def Full (m:Mo):Prop:=∀p∈m.pts,1<=p.bins.length/\p.bins.length<=64
theorem Full.szs {m:Mo}{l:List Int}(d:Full m)(e:Here m l):∀n∈szs m l,1<=n/\n<=64:=by
 intro n g;obtain⟨p,j,rfl⟩:=zQ.1 g;obtain⟨q,A⟩:=e p j;have b:p.toNat<m.pts.length:=U;have:JL m p=(m.pts[p.toNat]).bins:=by unfold JL;rw[jO b]
 rw[this];exact d _ (jH b)
theorem A8H (h:Hp):IG jA h 32=some (.ptr h.length 0 0,h++[qG 1 [[.sl .nil 0 []]]]):=F9 (row:=[.sl .nil 0 []]) BC
theorem ldM {b:Nat}{m:Mo}(d:h[b]?=some (qG 2 [DT m])):BO jA h 31 (.ptr b 0 0)=some (.agg (DT m)):=by
 rw[EN A6A A0Y d rfl (by rw[ATH];exact jF 2)];rfl
theorem ldC {b:Nat}{c:Cr}(d:h[b]?=some (qG 3 [JP c])):BO jA h 90 (.ptr b 0 0)=some (.agg (JP c)):=by
 rw[EN AJK yI d rfl (by rw[PI];exact jF 3)];rfl
theorem AIX (hG:GOk G)(m:Mo)(c:Cr)(Z:CrOk c)(hf:Full m)(h:Hp):PCall (En G) 88 [.agg (DT m),.agg (JP c)] h (.n (IE m c)):=by
 refine ACalls.pure0 rfl ?_;have a4:=Z.name;have a5:=Z.pts;have a6:=Z.excl;refine acT Tryz.func88 4 ?_;have X:(h++[qG 2 [DT m]]++[qG 3 [JP c]])[h.length]?=some (qG 2 [DT m]):=AU (AZ _ _);have M:(h++[qG 2 [DT m]]++[qG 3 [JP c]])[(h++[qG 2 [DT m]]).length]?=some (qG 3 [JP c]):=AZ _ _;have I:∃x,h++[qG 2 [DT m]]++[qG 3 [JP c]]=h++x:=⟨_,zD _ _ _⟩;have a0:h.length<(h++[qG 2 [DT m]]).length:=BA;refine DC @AAU @bxM @bxC ?_
 generalize h++[qG 2 [DT m]]++[qG 3 [JP c]]=H at X M I|-
 generalize (h++[qG 2 [DT m]]).length=cb at M a0|-
 have lm:BO jA H 28 (.ptr h.length 0 0)=some (.sl m.pm 6 (m.pts.map F8)):=by rw[BK kG X (row:=DT m) rfl,XA]
 have a3:BO jA H 9 (.ptr cb 0 0)=some (.str c.name):=by rw[BK ag9 M (row:=JP c) rfl,AL5]
 have C:BO jA H 32 (.ptr cb 0 1)=some (.sl c.pm 1 (c.pts.map qencI)):=by rw[BK O4 M (row:=JP c) rfl,VY]
 have a7:BO jA H 25 (.ptr cb 0 2)=some (.sl c.xm 1 (c.excl.map PE)):=by rw[BK Z5 M (row:=JP c) rfl,AFC]
 refine AY a3 ?_;refine(NR G hG.kw c.name _ U).uu ?_;cases h1:FI c.name
 .refine AB ?_
  exact⟨by unfold IE;rw[if_pos h1],I⟩
 have b:¬FI c.name=false:=by rw[h1];decide
 refine AY C ?_;refine IW ?_ ?_<;>intro V
 .refine AY V ?_
  exact⟨by unfold IE;rw[if_neg b,if_pos (.inl (by simp at V;omega))],I⟩
 refine A7 V C ?_;refine BH ?_ ?_<;>intro h3
 .refine AB ?_
  exact⟨by unfold IE;rw[if_neg b,if_pos (.inr (by simp at h3;omega))],I⟩
 have g:¬(c.pts.length<2\/4<c.pts.length):=by simp at V h3;omega
 refine AY C ?_;refine EK 0 (fun F e=>F 2=.ptr h.length 0 0/\F 3=.ptr cb 0 0/\e=H/\ZO m.pts.length none c.pts=true) (fun F e=>F 4=.n 1/\e=H/\ZO m.pts.length none c.pts=false) ?_ ?_ ?_
 .refine BB (fun n F e=>∃k,n+k=c.pts.length/\F 2=.ptr h.length 0 0/\F 3=.ptr cb 0 0/\F 23=.sl c.pm 1 (c.pts.map qencI)/\F 24=.n c.pts.length/\F 25=.n (k:Nat)/\e=H/\ZO m.pts.length none c.pts=ZO m.pts.length (prev c.pts k) (c.pts.drop k)) c.pts.length ⟨0,BA,AO,AO,AO,AO,AO,rfl,rfl⟩ ?_
  rintro n F e ⟨k,hk,K,p,f23,L,j,rfl,d⟩;refine A7 L j ?_;refine DX ?_ ?_<;>intro N
  .rw[vO _ _ _ N] at d
   simp only[vQ,EP,CQ,↓reduceIte,jC,enP,LJ,K,p,f23,j,CP N,BR ag3 N,encI0];refine IW ?_ ?_<;>intro q
   .refine AY q ?_
    have:decide (0<=c.pts[k])=false:=by simp at q|-;omega
    exact⟨trivial,trivial,by rw[d,this];rfl⟩
   have Q:decide (0<=c.pts[k])=true:=by simp at q|-;omega
   refine DC q K lm ?_;refine IW ?_ ?_<;>intro E
   .refine AY E ?_
    have:decide (c.pts[k]<(m.pts.length:Int))=false:=by simp at E|-;omega
    exact⟨trivial,trivial,by rw[d,this,Q];rfl⟩
   have Y:decide (c.pts[k]<(m.pts.length:Int))=true:=by simp at E|-;omega
   rw[Q,Y] at d;simp only[qZ] at d
   cases k with
   | zero =>
     have hz:decide ((((0:Nat):Int))>0)=false:=by decide
     refine EG E hz j (C9 0) ?_;exact⟨n-1,U,1,U,K,p,f23,L,rfl,trivial,by rw[d];rfl⟩
   | succ k =>
     have hz:decide ((((k+1:Nat):Int))>0)=true:=BA;have hw:IntKind.i64.wrap (((k+1:Nat):Int)-1)=(k:Int):=by rw[wrap_i64 U U];omega
     have O:k<c.pts.length:=U;have a1:prev c.pts (k+1)=some c.pts[k]:=by unfold prev;exact jO O
     rw[a1] at d;simp only[vQ,EP,UL,CQ,MR,bG,↓reduceIte,jC,enP,LJ,NF,E,hz,p,C,hw,CP O,BR ag3 O,encI0];refine BH ?_ ?_<;>intro hd
     .refine AB ?_
      have:decide (c.pts[k]<c.pts[k+1])=false:=by simp at hd|-;omega
      exact⟨trivial,trivial,by rw[d];simp only[this];rfl⟩
     .refine A7 j (C9 (k+1)) ?_
      have:decide (c.pts[k]<c.pts[k+1])=true:=by simp at hd|-;omega
      exact⟨n-1,U,k+1+1,U,K,p,f23,L,rfl,trivial,by rw[d];simp only[this];rfl⟩
  .refine AB ?_
   exact⟨K,p,trivial,by rw[d,jY U];rfl⟩
 .rintro F e ⟨K,p,rfl,d⟩
  have hh:=aW d;have A:¬ZO m.pts.length none c.pts=false:=by rw[d];decide
  refine EG K p (ldM X) (ldC M) ?_;refine(nL G m c _ hh U).use ?_;have a2:(szs m c.pts).length<=4:=by unfold szs;simp;omega
  have T:=VN (t:=32) (v:=.sl .nil 0 []) (u:=.sl (nm (szs m c.pts)) 1 ((szs m c.pts).map O3)) ACF (A6H _ _ _) (AZ e (qG 1 [[.sl .nil 0 []]]));rw[yG] at T;refine Z9 A8H T @IL O4 @AZ ?_;refine(eF G _ _ _ (fun n hn=>(hf.szs hh n hn).2) a2).use ?_
  have B:∃x,e++[qG 1 [[AV.sl (nm (szs m c.pts)) 1 ((szs m c.pts).map O3)]]]=h++x:=by
   obtain⟨x,I⟩:=I;exact⟨x++_,by rw[I,zD]⟩
  have J:∀x,BO jA (e++[x]) 25 (.ptr cb 0 2)=some (.sl c.xm 1 (c.excl.map PE)):=fun x=>by rw[BK Z5 (AU M) (row:=JP c) rfl,AFC]
  refine AB ?_;refine IW ?_ ?_<;>intro q
  .refine AY q ?_
   exact⟨by unfold IE;rw[if_neg b,if_neg g,if_neg A,if_pos (.inl (by simp at q;omega))],B⟩
  refine DC q p J ?_;refine BH ?_ ?_<;>intro E
  .refine AB ?_
   exact⟨by unfold IE;rw[if_neg b,if_neg g,if_neg A,if_pos (.inr (by simp at E;omega))],B⟩
  have S:¬(256<KJ (szs m c.pts)\/256<c.excl.length):=by simp at q E;omega
  refine A7 p J ?_;refine(ZW G c.excl c.xm 166 _ (fun x => !J6 (szs m c.pts) x.l) _ U fun r=>AAA G _ _ _ r _ (AZ e _) U).uu ?_;cases he:c.excl.any fun x => !J6 (szs m c.pts) x.l
  .refine AB ?_
   exact⟨by unfold IE;rw[if_neg b,if_neg g,if_neg A,if_neg S,he];rfl,B⟩
  .refine AB ?_
   exact⟨by unfold IE;rw[if_neg b,if_neg g,if_neg A,if_neg S,he];rfl,B⟩
 .rintro F e ⟨f4,rfl,d⟩
  refine AY f4 ?_;exact⟨by unfold IE;rw[if_neg b,if_neg g,if_pos d],I⟩
theorem mG (m:Mo)(l:List Int)(k:Nat)(hk:k<l.length):(szs m l)[k]?=some (JL m l[k]).length:=by
 unfold szs;rw[zB,jO hk];rfl
theorem PQ (m:Mo)(l:List Int):(szs m l).length=l.length:=by unfold szs;simp
structure Two (h H:Hp) (m:Mo) (c:Cr) (cb:Nat):Prop where
 gm:H[h.length]?=some (qG 2 [DT m])
 gc:H[cb]?=some (qG 3 [JP c])
 hx:∃x,H=h++x
theorem Two.lm {m:Mo}{c:Cr}(t:Two h H m c cb):BO jA H 28 (.ptr h.length 0 0)=some (.sl m.pm 6 (m.pts.map F8)):=by rw[BK kG t.gm (row:=DT m) rfl,XA]
theorem Two.l0 {m:Mo}{c:Cr}(t:Two h H m c cb):BO jA H 9 (.ptr cb 0 0)=some (.str c.name):=by rw[BK ag9 t.gc (row:=JP c) rfl,AL5]
theorem Two.l1 {m:Mo}{c:Cr}(t:Two h H m c cb):BO jA H 32 (.ptr cb 0 1)=some (.sl c.pm 1 (c.pts.map qencI)):=by rw[BK O4 t.gc (row:=JP c) rfl,VY]
theorem Two.l2 {m:Mo}{c:Cr}(t:Two h H m c cb):BO jA H 25 (.ptr cb 0 2)=some (.sl c.xm 1 (c.excl.map PE)):=by rw[BK Z5 t.gc (row:=JP c) rfl,AFC]
theorem Two.mk' (h:Hp)(m:Mo)(c:Cr):Two h (h++[qG 2 [DT m]]++[qG 3 [JP c]]) m c (h++[qG 2 [DT m]]).length:=⟨AU (AZ _ _),AZ _ _,⟨_,zD _ _ _⟩⟩
theorem AO3 (m:Mo)(c:Cr)(h:Hp)(l:Here m c.pts)(M:Full m)(V:c.pts.length<=1048576):PCall (En G) 58 [.agg (DT m),.agg (JP c)] h (.n (min (KJ (szs m c.pts)) 1000)):=by
 refine ACalls.pure0 rfl ?_;refine acT Tryz.func58 4 ?_;have t:=Two.mk' h m c;refine A7 @bxM @bxC ?_
 generalize h++[qG 2 [DT m]]++[qG 3 [JP c]]=H at t|-
 generalize (h++[qG 2 [DT m]]).length=cb at t|-
 have J:=M.szs l;refine EK 0 (fun F e=>(F 5=.n (KJ (szs m c.pts):Nat)\/∃n:Nat,1000<=n/\n<=KJ (szs m c.pts)/\F 5=.n n)/\e=H) (fun _ _=>False) ?_ ?_ (fun _ _ l=>l.elim)
 .refine BB (fun n F e=>∃k,n+k=c.pts.length/\F 2=.ptr h.length 0 0/\F 3=.ptr cb 0 0/\F 5=.n (KJ ((szs m c.pts).take k):Nat)/\F 6=.n (k:Nat)/\e=H) c.pts.length ⟨0,BA,AO,AO,AO,AO,rfl⟩ ?_
  rintro n F e ⟨k,hk,K,B,d,C,rfl⟩;refine DC B C @t.l1 ?_;refine IW ?_ ?_<;>intro A
  .have b:k<c.pts.length:=BL A
   refine A7 A d ?_;refine BH ?_ ?_<;>intro E
   .have L:KJ ((szs m c.pts).take k)<1000:=by simp at E;omega
    obtain⟨s,Q⟩:=l.ld b e;have p:k<(szs m c.pts).length:=by rw[PQ];exact b
    have j:(szs m c.pts)[k]=(JL m c.pts[k]).length:=H8 (mG m c.pts k b);have g:=(J _ (jH p)).2;rw[j] at g;have q:=cP (szs m c.pts) k p;rw[j] at q;have I:KJ ((szs m c.pts).take k)*(JL m c.pts[k]).length<=1000*64:=Nat.mul_le_mul U g
    have O:IntKind.i64.wrap ((KJ ((szs m c.pts).take k):Int)*((JL m c.pts[k]).length:Int))=((KJ ((szs m c.pts).take (k+1)):Nat):Int):=by
     rw[q,<-Int.natCast_mul,N8 U]
    refine AB ?_;refine DR BC ?_;simp only[vQ,KQ,JE,CQ,YF,↓reduceIte,jC,jP,enP,UF,LZ,LJ,eO,KX,NF,K,B,d,C,t.lm,t.l1,CP b,BR ag3 b,encI0,l.ix b,Q,jI,O,C9 k];exact⟨n-1,U,k+1,U,trivial,trivial,rfl,rfl,trivial⟩
   .refine AB ?_
    exact⟨.inr ⟨_,by simp at E;omega,AHO _ _ (fun n N=>(J n N).1),d⟩,trivial⟩
  .have b:¬k<c.pts.length:=BL A
   refine AY A ?_;refine⟨.inl ?_,trivial⟩;rw[jK (by rw[PQ];omega)] at d;exact d
 .rintro F e ⟨d,rfl⟩
  rcases d with d|⟨n,S,T,d⟩
  .refine AY d ?_
   exact⟨trivial,t.hx⟩
  .refine AY d ?_
   exact⟨by congr 1;omega,t.hx⟩
def placed (m:Mo)(c:Cr):Bool:=decide (2<=c.pts.length)&&decide (c.pts.length<=4)&&ZO m.pts.length none c.pts
theorem AHR (m:Mo)(c:Cr)(h:Hp)(S:c.pts.length<=1048576):PCall (En G) 196 [.agg (DT m),.agg (JP c)] h (.bool (placed m c)):=by
 refine ACalls.pure0 rfl ?_;refine acT Tryz.func196 4 ?_;have t:=Two.mk' h m c;refine A7 @bxM @bxC ?_
 generalize h++[qG 2 [DT m]]++[qG 3 [JP c]]=H at t|-
 generalize (h++[qG 2 [DT m]]).length=cb at t|-
 refine AY @t.l1 ?_;refine IW ?_ ?_<;>intro A
 .refine AY A ?_
  have:decide (2<=c.pts.length)=false:=by simp at A|-;omega
  exact⟨by unfold placed;rw[this];rfl,t.hx⟩
 have N:decide (2<=c.pts.length)=true:=by simp at A|-;omega
 refine A7 A @t.l1 ?_;refine BH ?_ ?_<;>intro L
 .refine AB ?_
  have:decide (c.pts.length<=4)=false:=by simp at L|-;omega
  exact⟨by unfold placed;rw[this];simp,t.hx⟩
 have O:decide (c.pts.length<=4)=true:=by simp at L|-;omega
 have E:placed m c=ZO m.pts.length none c.pts:=by unfold placed;rw[N,O];rfl
 rw[E];refine AB ?_;refine BB (fun n F K=>∃k,n+k=c.pts.length/\F 2=.ptr h.length 0 0/\F 3=.ptr cb 0 0/\F 5=.n (k:Nat)/\K=H/\ZO m.pts.length none c.pts=ZO m.pts.length (prev c.pts k) (c.pts.drop k)) c.pts.length ⟨0,BA,AO,AO,AO,rfl,rfl⟩ ?_;rintro n F K ⟨k,hk,q,g,j,rfl,d⟩;refine DC g j @t.l1 ?_;refine DX ?_ ?_<;>intro b
 .rw[vO _ _ _ b] at d
  refine AB ?_;refine DR BC ?_;simp only[vQ,JA,KP,EP,↓reduceIte,jC,jP,enP,LJ,NF,q,g,j,t.l1,CP b,BR ag3 b,encI0];refine lO ?_ ?_<;>intro B
  .refine AY B ?_
   have:decide (0<=c.pts[k])=false:=by simp at B|-;omega
   exact⟨by rw[d,this];rfl,t.hx⟩
  have l:decide (0<=c.pts[k])=true:=by simp at B|-;omega
  simp only[vQ,JA,KP,YQ,Q3,JE,EP,↓reduceIte,jC,jP,enP,AN4,LZ,LJ,NF,B,q,g,j,t.lm,t.l1,CP b,BR ag3 b,encI0,jI];refine lO ?_ ?_<;>intro p
  .refine AY p ?_
   have:decide (c.pts[k]<(m.pts.length:Int))=false:=by simp at p|-;omega
   exact⟨by rw[d,this,l];rfl,t.hx⟩
  have C:decide (c.pts[k]<(m.pts.length:Int))=true:=by simp at p|-;omega
  rw[l,C] at d;simp only[qZ] at d
  cases k with
  | zero =>
    have J:decide ((((0:Nat):Int))>0)=false:=by decide
    refine EG p J j (C9 0) ?_;exact⟨n-1,U,1,U,q,g,rfl,trivial,by rw[d];rfl⟩
  | succ k =>
    have J:decide ((((k+1:Nat):Int))>0)=true:=BA;have Q:IntKind.i64.wrap (((k+1:Nat):Int)-1)=(k:Int):=by rw[wrap_i64 U U];omega
    have e:k<c.pts.length:=U;have I:prev c.pts (k+1)=some c.pts[k]:=by unfold prev;exact jO e
    rw[I] at d;simp only[vQ,JA,KP,aB,YQ,Q3,EP,MR,bG,↓reduceIte,jC,jP,enP,LJ,NF,p,J,g,j,t.l1,Q,CP b,CP e,BR ag3 b,BR ag3 e,encI0];refine BH ?_ ?_<;>intro M
    .refine AB ?_
     have:decide (c.pts[k]<c.pts[k+1])=false:=by simp at M|-;omega
     exact⟨by rw[d];simp only[this];rfl,t.hx⟩
    .refine A7 j (C9 (k+1)) ?_
     have:decide (c.pts[k]<c.pts[k+1])=true:=by simp at M|-;omega
     exact⟨n-1,U,k+1+1,U,q,g,rfl,trivial,by rw[d];simp only[this];rfl⟩
 .refine AB ?_
  exact⟨by rw[d,jY U];rfl,t.hx⟩
theorem mA (m:Mo)(c:Cr)(x:Is)(h:Hp)(M:Here m c.pts)(S:c.pts.length<=1048576):PCall (En G) 197 [.agg (DT m),.agg (JP c),.sl x.m 1 (x.l.map qencI)] h (.bool (J6 (szs m c.pts) x.l)):=by
 refine ACalls.pure0 rfl ?_;refine acT Tryz.func197 6 ?_;have t:=Two.mk' h m c;refine A7 @bxM @bxC ?_
 generalize h++[qG 2 [DT m]]++[qG 3 [JP c]]=H at t|-
 generalize (h++[qG 2 [DT m]]).length=cb at t|-
 refine AY @t.l1 ?_;refine BH ?_ ?_<;>intro K
 .refine AB ?_
  have:J6 (szs m c.pts) x.l=false:=by
   rw[<-Bool.not_eq_true];intro e;have:=TS e;rw[PQ] at this;simp at K;omega
  exact⟨by rw[this],t.hx⟩
 have N:x.l.length=c.pts.length:=by simp at K;omega
 refine AB ?_;refine BB (fun n F A=>∃k,n+k=x.l.length/\F 2=.sl x.m 1 (x.l.map qencI)/\F 3=.ptr h.length 0 0/\F 4=.ptr cb 0 0/\F 7=.n (k:Nat)/\A=H/\J6 (szs m c.pts) x.l=J6 ((szs m c.pts).drop k) (x.l.drop k)) x.l.length ⟨0,BA,AO,AO,AO,AO,rfl,rfl⟩ ?_;rintro n F A ⟨k,hk,j,B,C,p,rfl,g⟩;refine A7 j p ?_;refine DX ?_ ?_<;>intro d
 .have b:k<c.pts.length:=U
  have I:k<(szs m c.pts).length:=by rw[PQ];exact b
  have E:(szs m c.pts)[k]=(JL m c.pts[k]).length:=H8 (mG m c.pts k b);rw[zX d,zX I,E] at g;obtain⟨s,Q⟩:=M.ld b A;refine AB ?_;refine DR BC ?_;simp only[vQ,JA,KP,EP,↓reduceIte,jC,jP,enP,LJ,j,B,C,p,CP d,BR ag3 d,encI0];refine lO ?_ ?_<;>intro q
  .refine AY q ?_
   have:decide (0<=x.l[k])=false:=by simp at q|-;omega
   exact⟨by rw[g];unfold J6;rw[this];rfl,t.hx⟩
  have J:decide (0<=x.l[k])=true:=by simp at q|-;omega
  simp only[vQ,JA,KP,YQ,Q3,JE,EP,↓reduceIte,jC,jP,enP,UF,LZ,LJ,eO,KX,NF,q,j,B,C,p,t.lm,t.l1,CP d,BR ag3 d,CP b,BR ag3 b,encI0,M.ix b,Q,jI];refine BH ?_ ?_<;>intro L
  .refine AB ?_
   have:decide (x.l[k]<((JL m c.pts[k]).length:Int))=false:=by simp at L|-;omega
   exact⟨by rw[g];unfold J6;rw[this,J];rfl,t.hx⟩
  .refine A7 p (C9 k) ?_
   have O:decide (x.l[k]<((JL m c.pts[k]).length:Int))=true:=by simp at L|-;omega
   refine⟨n-1,U,k+1,U,j,B,C,rfl,trivial,?_⟩;rw[g]
   conv=>lhs;unfold J6
   rw[J,O];rfl
 .refine AB ?_
  exact⟨by rw[g,jY (U:x.l.length<=k),jY (by rw[PQ];omega)];rfl,t.hx⟩
theorem AO4 (m:Mo)(c:Cr)(N:CrOk c)(hf:Full m)(h:Hp):PCall (En G) 109 [.agg (DT m),.agg (JP c)] h (.n (IE m c)):=by
 refine ACalls.pure0 rfl ?_;have Y:=N.pts;have Z:=N.excl;refine acT Tryz.func109 4 ?_;have t:=Two.mk' h m c;refine DC @AAU @bxM @bxC ?_
 generalize h++[qG 2 [DT m]]++[qG 3 [JP c]]=H at t|-
 generalize (h++[qG 2 [DT m]]).length=cb at t|-
 refine AY @t.l0 ?_;refine(O9 G c.name _).uu ?_;cases K:FI c.name
 .refine AB ?_
  exact⟨by unfold IE;rw[if_pos K],t.hx⟩
 have b:¬FI c.name=false:=by rw[K];decide
 refine A7 (ldM t.gm) (ldC t.gc) ?_;refine(AHR G m c _ U).uu ?_;cases j:placed m c
 .refine AB ?_
  refine⟨?_,t.hx⟩;unfold IE;rw[if_neg b];unfold placed at j;split
  .rfl
  .rename_i X
   have T:decide (2<=c.pts.length)=true:=by simp;omega
   have V:decide (c.pts.length<=4)=true:=by simp;omega
   rw[T,V] at j;rw[if_pos (BL j)]
 unfold placed at j;simp only[jX,decide_eq_true_eq] at j;obtain⟨⟨X,h4⟩,L⟩:=j;have d:¬(c.pts.length<2\/4<c.pts.length):=U;have e:¬ZO m.pts.length none c.pts=false:=by rw[L];decide
 have O:=aW L;refine A7 (ldM t.gm) (ldC t.gc) ?_;refine(AO3 G m c _ O hf U).uu ?_;refine IW ?_ ?_<;>intro q
 .refine AY q ?_
  exact⟨by unfold IE;rw[if_neg b,if_neg d,if_neg e,if_pos (.inl (by simp at q;omega))],t.hx⟩
 refine A7 q @t.l2 ?_;refine BH ?_ ?_<;>intro M
 .refine AB ?_
  exact⟨by unfold IE;rw[if_neg b,if_neg d,if_neg e,if_pos (.inr (by simp at M;omega))],t.hx⟩
 have C:¬(256<KJ (szs m c.pts)\/256<c.excl.length):=by simp at q M;omega
 have p:IE m c=if(c.excl.any fun x => !J6 (szs m c.pts) x.l) then 1 else 0:=by
  unfold IE;rw[if_neg b,if_neg d,if_neg e,if_neg C]
 refine AB ?_;refine BB (fun n F I=>∃k,n+k=c.excl.length/\F 2=.ptr h.length 0 0/\F 3=.ptr cb 0 0/\F 5=.n (k:Nat)/\I=H/\(c.excl.any fun x => !J6 (szs m c.pts) x.l)=((c.excl.drop k).any fun x => !J6 (szs m c.pts) x.l)) c.excl.length ⟨0,BA,AO,AO,AO,rfl,rfl⟩ ?_;rintro n F I ⟨k,hk,J,A,B,rfl,E⟩;refine DC A B @t.l2 ?_;refine DX ?_ ?_<;>intro g
 .have Q:=NG (fun x:Is => !J6 (szs m c.pts) x.l) c.excl k g
  refine AB ?_;refine DR BC ?_;simp only[vQ,A0R,MS,MN,nA,↓reduceIte,jC,jP,enP,oR,iI,J,A,B,ldM t.gm,ldC t.gc,t.l2,CP g,BR O4 g,pX];refine⟨_,mA G m c c.excl[k] _ O U,?_⟩
  try refine AB ?_
  cases S:J6 (szs m c.pts) c.excl[k].l
  .refine AB ?_
   exact⟨by rw[p,E,Q,S];rfl,t.hx⟩
  .refine A7 B (C9 k) ?_
   refine⟨n-1,U,k+1,U,J,A,rfl,trivial,?_⟩;rw[E,Q,S];rfl
 .refine AB ?_
  exact⟨by rw[p,E,jY U];rfl,t.hx⟩
structure MoOk (m:Mo):Prop where
 np:m.pts.length<=1048576
 nc:m.crs.length<=1048576
 pts:∀p∈m.pts,PtOk p
 crs:∀c∈m.crs,CrOk c
def GH (m:Mo):Int :=
 if 16<m.pts.length+m.crs.length then 2 else if fstE G9 m.pts≠0 then fstE G9 m.pts else if SA (m.pts.map (·.name)) then 8 else
  if fstE (IE m) m.crs≠0 then fstE (IE m) m.crs else if SA (m.crs.map (·.name)) then 8 else 0
theorem ZR {α:Type}(f:α->Int):∀ {xs:List α},fstE f xs=0->∀x∈xs,f x=0
 | [],_,_,d=>by cases d
 | y::ys,h,x,d=>by
   simp only[fstE] at h;split at h
   .rename_i b
    cases zO.1 d with
    | inl e=>subst e;exact b
    | inr e=>exact ZR f h x e
   .rename_i b;exact absurd h b
theorem kV {p:Pt}(h:G9 p=0):1<=p.bins.length/\p.bins.length<=64:=by
 unfold G9 at h;split at h
 .cases h
 .split at h
  .rename_i b;exact absurd h b
  .split at h
   .cases h
   .split at h
    .cases h
    .omega
theorem full_of {m:Mo}(h:fstE G9 m.pts=0):Full m:=fun p b=>kV (ZR _ h p b)
theorem AY0 (h:Hp):IG jA h 82=some (.ptr h.length 0 0,h++[qG 6 [[.str ⟨#[]⟩,.n 0,.n 0,.str ⟨#[]⟩,.sl .nil 0 [],.sl .nil 0 []]]]):=F9 (row:=[.str ⟨#[]⟩,.n 0,.n 0,.str ⟨#[]⟩,.sl .nil 0 [],.sl .nil 0 []]) BC
theorem AVU (h:Hp)(p:Pt)(row:List AV)(b:row.length=6):D8 jA (h++[qG 6 [row]]) 82 (.ptr h.length 0 0) (.agg (F8 p))=some (h++[qG 6 [F8 p]]):=by
 rw[UW (RV (iO p)) (by rw[JB];exact bI) (by rw[JB,b];exact jF _)];have:splice row 0 (F8 p)=F8 p:=by unfold splice;simp [JB,b]
 rw[this]
theorem ldP {b:Nat}{p:Pt}(d:h[b]?=some (qG 6 [F8 p])):BO jA h 82 (.ptr b 0 0)=some (.agg (F8 p)):=by
 rw[EN kF bI d rfl (by rw[JB];exact jF 6),zI,jK (by rw[JB];exact jF 6)]
theorem A2O (h:Hp):IG jA h 90=some (.ptr h.length 0 0,h++[qG 3 [[.str ⟨#[]⟩,.sl .nil 0 [],.sl .nil 0 []]]]):=F9 (row:=[.str ⟨#[]⟩,.sl .nil 0 [],.sl .nil 0 []]) BC
theorem A01 (h:Hp)(c:Cr)(row:List AV)(b:row.length=3):D8 jA (h++[qG 3 [row]]) 90 (.ptr h.length 0 0) (.agg (JP c))=some (h++[qG 3 [JP c]]):=by
 rw[UW (RV rfl) (by rw[PI];exact yI) (by rw[PI,b];exact jF _)];have:splice row 0 (JP c)=JP c:=by unfold splice;simp [PI,b]
 rw[this]
theorem U5 (X:GOk G)(m:Mo)(M:MoOk m)(h:Hp):PCall (En G) 41 [.agg (DT m)] h (.n (GH m)):=by
 refine ACalls.pure0 rfl ?_;have Y:=M.np;have Z:=M.nc;refine acT Tryz.func41 2 ?_;have hw:IntKind.i64.wrap ((m.pts.length:Int)+(m.crs.length:Int))=(m.pts.length:Int)+(m.crs.length:Int):=wrap_i64 U U;refine V8 @bxM kG sD @XA @ZV hw ?_;refine BH ?_ ?_<;>intro V
 .refine AB ?_
  exact⟨by unfold GH;rw[if_pos (by simp at V;omega)],_,rfl⟩
 have O:¬16<m.pts.length+m.crs.length:=by simp at V;omega
 have d:GH m=if fstE G9 m.pts≠0 then fstE G9 m.pts else if SA (m.pts.map (·.name)) then 8 else if fstE (IE m) m.crs≠0 then fstE (IE m) m.crs else if SA (m.crs.map (·.name)) then 8 else 0:=by
  unfold GH;rw[if_neg O]
 have T:∀H:Hp,H[h.length]?=some (qG 2 [DT m])->BO jA H 28 (.ptr h.length 0 0)=some (.sl m.pm 6 (m.pts.map F8)):=fun H Q=>by rw[BK kG Q (row:=DT m) rfl,XA]
 have L:∀H:Hp,H[h.length]?=some (qG 2 [DT m])->BO jA H 29 (.ptr h.length 0 1)=some (.sl m.cm 3 (m.crs.map JP)):=fun H Q=>by rw[BK sD Q (row:=DT m) rfl,ZV]
 refine LD kG @XA ?_;refine EK 0 (fun F H=>F 1=.ptr h.length 0 0/\H[h.length]?=some (qG 2 [DT m])/\(∃x,H=h++x)/\fstE G9 m.pts=0) (fun F H=>F 2=.n (GH m)/\∃x,H=h++x) ?_ ?_ ?_
 .refine BB (fun n F H=>∃k,n+k=m.pts.length/\F 1=.ptr h.length 0 0/\F 18=.sl m.pm 6 (m.pts.map F8)/\F 19=.n m.pts.length/\F 20=.n (k:Nat)/\H[h.length]?=some (qG 2 [DT m])/\(∃x,H=h++x)/\fstE G9 m.pts=fstE G9 (m.pts.drop k)) m.pts.length ⟨0,BA,EZ,EZ,EZ,EZ,AZ _ _,⟨_,rfl⟩,rfl⟩ ?_
  rintro n F H ⟨k,hk,j,f18,f19,f20,l,⟨x,g⟩,p⟩;refine A7 f19 f20 ?_;refine DX ?_ ?_<;>intro b
  .have J:=UX G9 m.pts k b
   simp only[vQ,CQ,↓reduceIte,jC,enP,UF,jQ,f18,f20,CP b,DL kF bI JB b,AY0,AVU _ _ [.str ⟨#[]⟩,.n 0,.n 0,.str ⟨#[]⟩,.sl .nil 0 [],.sl .nil 0 []] rfl,ldP (AZ H (qG 6 [F8 m.pts[k]]))];refine(AHP G X m.pts[k] (M.pts _ (jH b)) _).uu ?_;refine BH ?_ ?_<;>intro K
   .refine AB ?_
    have e:G9 m.pts[k]≠0:=BL K;have:fstE G9 m.pts=G9 m.pts[k]:=by rw[p,J,if_neg e]
    exact⟨by rw[d,this,if_pos e],x++_,by rw[g,zD]⟩
   .have e:G9 m.pts[k]=0:=BL K
    refine A7 f20 (C9 k) ?_;exact⟨n-1,U,k+1,U,j,f18,f19,rfl,AU l,⟨x++_,by rw[g,zD]⟩,by rw[p,J,if_pos e]⟩
  .refine AB ?_
   exact⟨j,l,⟨x,g⟩,by rw[p,jY U];rfl⟩
 .rintro F H ⟨j,l,B,p⟩
  have A:=full_of p;rw[p,if_neg (fun S=>S rfl)] at d;refine A7 j (T _ l) ?_;refine(ANH G m.pts m.pm H U).uu ?_;cases I:SA (m.pts.map (·.name))
  case true =>
   refine AB ?_;exact⟨by rw[d,I];rfl,B⟩
  rw[I] at d;simp only[zZ,if_false] at d;refine A7 j (L _ l) ?_;refine EK 2 (fun F H=>F 1=.ptr h.length 0 0/\H[h.length]?=some (qG 2 [DT m])/\(∃x,H=h++x)/\fstE (IE m) m.crs=0) (fun F H=>F 2=.n (GH m)/\∃x,H=h++x) ?_ ?_ ?_
  .refine BB (fun n F H=>∃k,n+k=m.crs.length/\F 1=.ptr h.length 0 0/\F 34=.sl m.cm 3 (m.crs.map JP)/\F 35=.n m.crs.length/\F 36=.n (k:Nat)/\H[h.length]?=some (qG 2 [DT m])/\(∃x,H=h++x)/\fstE (IE m) m.crs=fstE (IE m) (m.crs.drop k)) m.crs.length ⟨0,BA,UD j,EZ,EZ,EZ,l,B,rfl⟩ ?_
   clear j l B;rintro n F H ⟨k,hk,j,C,E,q,l,⟨x,g⟩,p⟩;refine A7 E q ?_;refine DX ?_ ?_<;>intro b
   .have J:=UX (IE m) m.crs k b
    simp only[vQ,CQ,↓reduceIte,jC,enP,WI,jQ,j,C,q,CP b,DL AJK yI PI b,A2O,A01 _ _ [.str ⟨#[]⟩,.sl .nil 0 [],.sl .nil 0 []] rfl,ldC (AZ H (qG 3 [JP m.crs[k]])),ldM (AU (x:=qG 3 [JP m.crs[k]]) l)];refine(AIX G X m m.crs[k] (M.crs _ (jH b)) A _).uu ?_;refine BH ?_ ?_<;>intro K
    .refine AB ?_
     have e:IE m m.crs[k]≠0:=BL K;have:fstE (IE m) m.crs=IE m m.crs[k]:=by rw[p,J,if_neg e]
     exact⟨by rw[d,this,if_pos e],x++_,by rw[g,zD]⟩
    .have e:IE m m.crs[k]=0:=BL K
     refine A7 q (C9 k) ?_;exact⟨n-1,U,k+1,U,j,C,E,rfl,AU l,⟨x++_,by rw[g,zD]⟩,by rw[p,J,if_pos e]⟩
   .refine AB ?_
    exact⟨j,l,⟨x,g⟩,by rw[p,jY U];rfl⟩
  .rintro F H ⟨j,l,g,p⟩
   rw[p,if_neg (fun S=>S rfl)] at d;refine A7 j (L _ l) ?_;refine(ANI G m.crs m.cm H U).uu ?_;cases I:SA (m.crs.map (·.name))
   .refine AB ?_
    exact⟨by rw[d,I];rfl,g⟩
   .refine AB ?_
    exact⟨by rw[d,I];rfl,g⟩
  .rintro F H ⟨N,g⟩
   refine AY N ?_;exact⟨trivial,g⟩
 .rintro F H ⟨N,g⟩
  refine AY N ?_;exact⟨trivial,g⟩
theorem uY (m:Mo)(hm:MoOk m)(h:Hp):PCall (En G) 49 [.agg (DT m)] h (.n (GH m)):=by
 refine ACalls.pure0 rfl ?_;have a2:=hm.np;have a3:=hm.nc;refine acT Tryz.func49 2 ?_;have hw:IntKind.i64.wrap ((m.pts.length:Int)+(m.crs.length:Int))=(m.pts.length:Int)+(m.crs.length:Int):=wrap_i64 U U;have gm:=AZ h (qG 2 [DT m]);have J:∃x,h++[qG 2 [DT m]]=h++x:=⟨_,rfl⟩;refine AY @bxM ?_
 generalize h++[qG 2 [DT m]]=H at gm J|-
 have K:BO jA H 28 (.ptr h.length 0 0)=some (.sl m.pm 6 (m.pts.map F8)):=by rw[BK kG gm (row:=DT m) rfl,XA]
 have L:BO jA H 29 (.ptr h.length 0 1)=some (.sl m.cm 3 (m.crs.map JP)):=by rw[BK sD gm (row:=DT m) rfl,ZV]
 refine DC K L hw ?_;refine BH ?_ ?_<;>intro h1
 .refine AB ?_
  exact⟨by unfold GH;rw[if_pos (by simp at h1;omega)],J⟩
 have a0:¬16<m.pts.length+m.crs.length:=by simp at h1;omega
 have j:GH m=if fstE G9 m.pts≠0 then fstE G9 m.pts else if SA (m.pts.map (·.name)) then 8 else if fstE (IE m) m.crs≠0 then fstE (IE m) m.crs else if SA (m.crs.map (·.name)) then 8 else 0:=by
  unfold GH;rw[if_neg a0]
 refine AB ?_;refine EK 0 (fun F d=>F 1=.ptr h.length 0 0/\d=H/\fstE G9 m.pts=0) (fun F d=>F 2=.n (GH m)/\d=H) ?_ ?_ ?_
 .refine BB (fun n F d=>∃k,n+k=m.pts.length/\F 1=.ptr h.length 0 0/\F 3=.n (k:Nat)/\d=H/\fstE G9 m.pts=fstE G9 (m.pts.drop k)) m.pts.length ⟨0,BA,AO,AO,rfl,rfl⟩ ?_
  rintro n F d ⟨k,hk,b,f3,rfl,E⟩;refine DC b f3 K ?_;refine DX ?_ ?_<;>intro g
  .have C:=UX G9 m.pts k g
   simp only[vQ,CQ,↓reduceIte,jC,enP,UF,LZ,b,f3,K,CP g,DL kF bI JB g];refine(ANL G m.pts[k] (hm.pts _ (jH g)) _).uu ?_;refine BH ?_ ?_<;>intro hv
   .refine AB ?_
    have p:G9 m.pts[k]≠0:=BL hv;have:fstE G9 m.pts=G9 m.pts[k]:=by rw[E,C,if_neg p]
    exact⟨by rw[j,this,if_pos p],trivial⟩
   .have p:G9 m.pts[k]=0:=BL hv
    refine A7 f3 (C9 k) ?_;exact⟨n-1,U,k+1,U,b,rfl,trivial,by rw[E,C,if_pos p]⟩
  .refine AB ?_
   exact⟨b,trivial,by rw[E,jY U];rfl⟩
 .rintro F d ⟨b,rfl,E⟩
  have T:=full_of E;rw[E,if_neg (fun hh=>hh rfl)] at j;refine AY b ?_;refine EK 2 (fun F H=>F 1=.ptr h.length 0 0/\H=d/\SA (m.pts.map (·.name))=false) (fun F H=>F 2=.n (GH m)/\H=d) ?_ ?_ ?_
  .generalize Y:m.pts.map (·.name)=N at j|-
   have a1:N.length=m.pts.length:=by rw[<-Y];simp
   have I:∀i (V:i<m.pts.length),N[i]?=some m.pts[i].name:=fun i V=>by rw[<-Y,zB,jO V];rfl
   refine BB (fun n F H=>∃i,n+i=m.pts.length/\F 1=.ptr h.length 0 0/\F 5=.n (i:Nat)/\H=d/\SA N=tQ (N.take i) (N.drop i)) m.pts.length ⟨0,BA,D7 b,AO,rfl,rfl⟩ ?_;clear b;rintro n F d ⟨i,V,b,M,rfl,Q⟩;refine DC b M K ?_;refine DX ?_ ?_<;>intro q
   .have e:=UY N i U
    rw[H8 (I i q)] at e;refine AY M ?_;refine EK 4 (fun l H=>l 1=.ptr h.length 0 0/\l 5=.n (i:Nat)/\H=d/\I8 (N.take i) m.pts[i].name=false) (fun l H=>l 2=.n 8/\H=d/\SA N=true) ?_ ?_ ?_
    .refine BB (fun n l H=>∃k,n+k=i/\l 1=.ptr h.length 0 0/\l 5=.n (i:Nat)/\l 6=.n (k:Nat)/\H=d/\I8 (N.take i) m.pts[i].name=I8 ((N.take i).drop k) m.pts[i].name) i ⟨0,BA,D7 b,D7 M,AO,rfl,rfl⟩ ?_
     clear b M;rintro n' F d ⟨k,hk,b,M,f6,rfl,A⟩;refine A7 M f6 ?_;refine DX ?_ ?_<;>intro g
     .have B:k<m.pts.length:=U
      have C:=NG (fun u=>m.pts[i].name.toList==u.toList) (N.take i) k (by rw[jR];omega)
      have J:(N.take i)[k]'(by rw[jR];omega)=m.pts[k].name:=by
       rw[List.getElem_take];exact H8 (I k B)
      rw[J] at C;refine AB ?_;refine DR BC ?_;simp only[vQ,QF,↓reduceIte,jC,jP,enP,UF,LZ,AAW,b,M,f6,K,CP q,CP B,BR ag9 q,BR ag9 B,AL4];refine BH ?_ ?_<;>intro Z
      .refine AB ?_
       have:I8 (N.take i) m.pts[i].name=true:=by
        rw[A];unfold I8;rw[C,BEq.comm,Z];rfl
       exact⟨trivial,trivial,by rw[Q,e,this];rfl⟩
      .refine A7 f6 (C9 k) ?_
       refine⟨n'-1,U,k+1,U,b,M,rfl,trivial,?_⟩;rw[A];unfold I8;rw[C,BEq.comm,Z];rfl
     .refine AB ?_
      refine⟨b,M,trivial,?_⟩;rw[A,jY (by rw[jR];omega)];rfl
    .rintro l d ⟨g1,g5,rfl,hn⟩
     refine A7 g5 (C9 i) ?_;refine⟨n-1,U,i+1,U,g1,rfl,trivial,?_⟩;rw[Q,e,hn];rfl
    .rintro l d ⟨g2,rfl,S⟩
     refine AY g2 ?_;exact⟨by rw[j,S];rfl,trivial⟩
   .refine AB ?_
    exact⟨b,trivial,by rw[Q,jY U];rfl⟩
  .clear b
   rintro F H ⟨b,rfl,Q⟩;rw[Q] at j;simp only[zZ,if_false] at j;refine AB ?_;refine EK 6 (fun F d=>F 1=.ptr h.length 0 0/\d=H/\fstE (IE m) m.crs=0) (fun F d=>F 2=.n (GH m)/\d=H) ?_ ?_ ?_
   .refine BB (fun n F d=>∃k,n+k=m.crs.length/\F 1=.ptr h.length 0 0/\F 7=.n (k:Nat)/\d=H/\fstE (IE m) m.crs=fstE (IE m) (m.crs.drop k)) m.crs.length ⟨0,BA,D7 b,AO,rfl,rfl⟩ ?_
    clear b;rintro n F d ⟨k,hk,b,f7,rfl,E⟩;refine DC b f7 L ?_;refine DX ?_ ?_<;>intro g
    .have C:=UX (IE m) m.crs k g
     refine AB ?_;refine DR BC ?_;simp only[vQ,KQ,MS,MN,CQ,↓reduceIte,jC,jP,enP,WI,NW,b,f7,L,ldM gm,CP g,DL AJK yI PI g];refine⟨_,AO4 G m m.crs[k] (hm.crs _ (jH g)) T _,?_⟩
     try refine AB ?_
     refine BH ?_ ?_<;>intro hv
     .refine AB ?_
      have p:IE m m.crs[k]≠0:=BL hv;have:fstE (IE m) m.crs=IE m m.crs[k]:=by rw[E,C,if_neg p]
      exact⟨by rw[j,this,if_pos p],trivial⟩
     .have p:IE m m.crs[k]=0:=BL hv
      refine A7 f7 (C9 k) ?_;exact⟨n-1,U,k+1,U,b,rfl,trivial,by rw[E,C,if_pos p]⟩
    .refine AB ?_
     exact⟨b,trivial,by rw[E,jY U];rfl⟩
   .rintro F d ⟨b,rfl,E⟩
    rw[E,if_neg (fun hh=>hh rfl)] at j;refine AB ?_;generalize Y:m.crs.map (·.name)=N at j;have a1:N.length=m.crs.length:=by rw[<-Y];simp
    have I:∀i (V:i<m.crs.length),N[i]?=some m.crs[i].name:=fun i V=>by rw[<-Y,zB,jO V];rfl
    refine BB (fun n F H=>∃i,n+i=m.crs.length/\F 1=.ptr h.length 0 0/\F 9=.n (i:Nat)/\H=d/\SA N=tQ (N.take i) (N.drop i)) m.crs.length ⟨0,BA,D7 b,AO,rfl,rfl⟩ ?_;clear b;rintro n F d ⟨i,V,b,O,rfl,Q⟩;refine DC b O L ?_;refine DX ?_ ?_<;>intro q
    .have e:=UY N i U
     rw[H8 (I i q)] at e;refine AY O ?_;refine EK 10 (fun l H=>l 1=.ptr h.length 0 0/\l 9=.n (i:Nat)/\H=d/\I8 (N.take i) m.crs[i].name=false) (fun l H=>l 2=.n 8/\H=d/\SA N=true) ?_ ?_ ?_
     .refine BB (fun n l H=>∃k,n+k=i/\l 1=.ptr h.length 0 0/\l 9=.n (i:Nat)/\l 10=.n (k:Nat)/\H=d/\I8 (N.take i) m.crs[i].name=I8 ((N.take i).drop k) m.crs[i].name) i ⟨0,BA,D7 b,D7 O,AO,rfl,rfl⟩ ?_
      clear b O;rintro n' F d ⟨k,hk,b,O,f10,rfl,A⟩;refine A7 O f10 ?_;refine DX ?_ ?_<;>intro g
      .have B:k<m.crs.length:=U
       have C:=NG (fun u=>m.crs[i].name.toList==u.toList) (N.take i) k (by rw[jR];omega)
       have J:(N.take i)[k]'(by rw[jR];omega)=m.crs[k].name:=by
        rw[List.getElem_take];exact H8 (I k B)
       rw[J] at C;refine AB ?_;refine DR BC ?_;simp only[vQ,QF,↓reduceIte,jC,jP,enP,WI,NW,AAU,b,O,f10,L,CP q,CP B,BR ag9 q,BR ag9 B,AL5];refine BH ?_ ?_<;>intro Z
       .refine AB ?_
        have:I8 (N.take i) m.crs[i].name=true:=by
         rw[A];unfold I8;rw[C,BEq.comm,Z];rfl
        exact⟨trivial,trivial,by rw[Q,e,this];rfl⟩
       .refine A7 f10 (C9 k) ?_
        refine⟨n'-1,U,k+1,U,b,O,rfl,trivial,?_⟩;rw[A];unfold I8;rw[C,BEq.comm,Z];rfl
      .refine AB ?_
       refine⟨b,O,trivial,?_⟩;rw[A,jY (by rw[jR];omega)];rfl
     .rintro l d ⟨g1,g9,rfl,hn⟩
      refine A7 g9 (C9 i) ?_;refine⟨n-1,U,i+1,U,g1,rfl,trivial,?_⟩;rw[Q,e,hn];rfl
     .rintro l d ⟨g2,rfl,S⟩
      refine AY g2 ?_;exact⟨by rw[j,S];rfl,J⟩
    .refine AB ?_
     exact⟨by rw[j,Q,jY U];rfl,J⟩
   .rintro F d ⟨X,rfl⟩
    refine AY X ?_;exact⟨trivial,J⟩
  .rintro F H ⟨X,rfl⟩
   refine AY X ?_;exact⟨trivial,J⟩
 .rintro F d ⟨X,rfl⟩
  refine AY X ?_;exact⟨trivial,J⟩
def eqL (a b:List Int):Bool:=decide (a=b)
theorem AE6 {a b:List Int}(d:k<a.length)(e:k<b.length):eqL (a.drop k) (b.drop k)=(decide (a[k]=b[k])&&eqL (a.drop (k+1)) (b.drop (k+1))):=by
 rw[zX d,zX e];unfold eqL;rw[decide_eq_decide.2 (Iff.of_eq (List.cons.injEq _ _ _ _)),Bool.decide_and]
theorem AIP (a b:List Int)(s t:SM)(h:Hp)(C:b.length<=1099511627776):PCall (En G) 216 [.sl s 1 (a.map qencI),.sl t 1 (b.map qencI)] h (.bool (eqL a b)):=by
 refine acT Tryz.func216 4 ?_;refine AB ?_;refine BH ?_ ?_<;>intro q
 .refine AB ?_
  have:eqL a b=false:=by
   unfold eqL;rw[decide_eq_false_iff_not];intro e;subst e;simp at q
  exact⟨by rw[this],trivial⟩
 have B:a.length=b.length:=by simp at q;omega
 refine AB ?_;refine BB (fun n F H=>∃k,n+k=a.length/\F 0=.sl s 1 (a.map qencI)/\F 1=.sl t 1 (b.map qencI)/\F 12=.n a.length/\F 13=.n (k:Nat)/\H=h/\eqL a b=eqL (a.drop k) (b.drop k)) a.length ⟨0,BA,AO,AO,AO,AO,rfl,rfl⟩ ?_;rintro n F H ⟨k,hk,l,p,f12,f13,rfl,j⟩;refine A7 f12 f13 ?_;refine DX ?_ ?_<;>intro d
 .have g:k<b.length:=U
  rw[AE6 d g] at j;refine AY f13 ?_;refine DR BC ?_;simp only[vQ,↓reduceIte,jC,jP,enP,LJ,l,p,f13,CP d,CP g,BR ag3 d,BR ag3 g,encI0];refine BH ?_ ?_<;>intro A
  .refine AB ?_
   have:decide (a[k]=b[k])=false:=BL A;exact⟨by rw[j,this];rfl,trivial⟩
  .refine A7 f13 (C9 k) ?_
   have:decide (a[k]=b[k])=true:=BL A;exact⟨n-1,U,k+1,U,l,p,f12,rfl,trivial,by rw[j,this];rfl⟩
 .refine AB ?_
  exact⟨by rw[j,jY U,jY U];rfl,trivial⟩
theorem AHH (a b:List Int)(s t:SM)(h:Hp)(E:b.length<=1099511627776):PCall (En G) 200 [.sl s 1 (a.map qencI),.sl t 1 (b.map qencI)] h (.bool (eqL a b)):=by
 refine acT Tryz.func200 4 ?_;refine AB ?_;refine BH ?_ ?_<;>intro A
 .refine AB ?_
  have:eqL a b=false:=by
   unfold eqL;rw[decide_eq_false_iff_not];intro e;subst e;simp at A
  exact⟨by rw[this],trivial⟩
 have C:a.length=b.length:=by simp at A;omega
 refine AB ?_;refine BB (fun n F H=>∃k,n+k=a.length/\F 0=.sl s 1 (a.map qencI)/\F 1=.sl t 1 (b.map qencI)/\F 5=.n (k:Nat)/\H=h/\eqL a b=eqL (a.drop k) (b.drop k)) a.length ⟨0,BA,AO,AO,AO,rfl,rfl⟩ ?_;rintro n F H ⟨k,hk,l,q,p,rfl,j⟩;refine A7 l p ?_;refine DX ?_ ?_<;>intro d
 .have g:k<b.length:=U
  rw[AE6 d g] at j;refine AB ?_;refine DR BC ?_;simp only[vQ,↓reduceIte,jC,jP,enP,LJ,l,q,p,CP d,CP g,BR ag3 d,BR ag3 g,encI0];refine BH ?_ ?_<;>intro B
  .refine AB ?_
   have:decide (a[k]=b[k])=false:=BL B;exact⟨by rw[j,this];rfl,trivial⟩
  .refine A7 p (C9 k) ?_
   have:decide (a[k]=b[k])=true:=BL B;exact⟨n-1,U,k+1,U,l,q,rfl,trivial,by rw[j,this];rfl⟩
 .refine AB ?_
  exact⟨by rw[j,jY U,jY U];rfl,trivial⟩
def aE (n:Int):Bool:=decide (0<=n)&&decide (n<=1099511627776)
def countB (n:Int)(may:Bool):Bool:=aE n&&(may||n==0)
theorem dE (n:Int)(may:Bool)(h:Hp):PCall (En G) 121 [.n n,.bool may] h (.bool (countB n may)):=by
 refine acT Tryz.func121 4 ?_;refine AB ?_;cases b:decide (n≥0)<;>cases d:decide (n<=1099511627776)<;>cases may
 all_goals
  refine A7 b d ?_;exact⟨by unfold countB aE;rw[show decide (0<=n)=decide (n≥0) from rfl,b,d];rfl,trivial⟩
theorem AFR (b:Bin)(h:Hp):PCall (En G) 210 [.agg (I7 b)] h (.bool (b.kind==0)):=by
 refine ACalls.pure0 rfl ?_;refine acT Tryz.func210 2 ?_;refine LD @bxB @VD ?_;exact⟨trivial,_,rfl⟩
def iC (m:Mo)(p b:Int):Int:=match (JL m p)[b.toNat]? with
 | some x=>x.kind
 | none=>0
def UE (m:Mo):List Int->List Int->Bool
 | p::ps,b::bs=>(iC m p b==0)&&UE m ps bs
 | _,_=>true
def eX (m:Mo)(c:Cr)(l:List Int):Bool:=UE m c.pts l && !(c.excl.any fun x=>eqL x.l l)
theorem eV {m:Mo}:∀ {ps l:List Int},J6 (szs m ps) l=true->∀(k:Nat) (hk:k<l.length) (d:k<ps.length),0<=l[k]/\l[k]<((JL m ps[k]).length:Int)
 | p::ps,b::bs,h,k,hk,d=>by
   simp only[szs,jJ,J6,jX,decide_eq_true_eq] at h
   cases k with
   | zero=>exact h.1
   | succ k=>exact eV (m:=m) (ps:=ps) h.2 k (BL hk) (BL d)
 | [],b::bs,h,k,hk,d=>by simp at d
 | _,[],h,k,hk,d=>by simp at hk
theorem kW (m:Mo)(ps l:List Int)(k:Nat)(b:k<ps.length)(hk:k<l.length):UE m (ps.drop k) (l.drop k)=((iC m ps[k] l[k]==0)&&UE m (ps.drop (k+1)) (l.drop (k+1))):=by
 rw[zX b,zX hk];rfl
theorem oQ (m:Mo)(ps:List Int):UE m ps []=true:=by cases ps<;>rfl
theorem AUD {m:Mo}{p b:Int}(d:0<=b)(e:b<((JL m p).length:Int))(h:Hp)(s:SM):JD 4 h (.sl s 4 ((JL m p).map I7)) (.n b)=some (.fptr 4 ((JL m p).map I7) b.toNat 0) :=
 AZ0 d (by rw[jI];exact e)
theorem AF7 {m:Mo}{p b:Int}(d:0<=b)(e:b<((JL m p).length:Int)):((JL m p)[b.toNat]'U).kind=iC m p b:=by
 unfold iC;rw[jO U]
theorem Two.app {m:Mo}{c:Cr}(t:Two h H m c cb)(x:Hp):Two h (H++x) m c cb:=by
 obtain⟨y,b⟩:=t.hx;exact⟨IA t.gm,IA t.gc,⟨y++x,by rw[b,zD]⟩⟩
theorem AXW (xs:List Nat):xs.map O3=(xs.map fun n:Nat=>(n:Int)).map qencI:=by
 rw[qE];rfl
def AMY:List Nat->Nat->List Nat×Nat
 | [],k=>([],k)
 | n::ns,k=>(((AMY ns k).2%n)::(AMY ns k).1,(AMY ns k).2/n)
def AP8 (ns:List Nat)(k:Nat):List Int:=(AMY ns k).1.map fun n:Nat=>(n:Int)
theorem ACC:∀(ns:List Nat) (k:Nat),(AMY ns k).1.length=ns.length
 | [],_=>rfl
 | n::ns,k=>by simp [AMY,ACC ns k]
theorem A7O (h:Hp)(n:Nat)(e:n<=1048576):I4 jA true h 32 (.n (n:Int)) (.n (n:Int))=some (.own h.length 0 n,h++[qG 1 ((zK n 0).map O3)]):=by
 have d:OV jA 3=some [.n 0]:=BC;have b:room n 8:=I5 U U;unfold I4;simp only[gH,sz3,rM,d,Int.toNat_natCast];rw[if_pos ⟨U,Int.le_refl _,b,rfl⟩];simp [O3]
theorem AWB (a b:Nat)(d:0<b):IQ jA 3 .rem (.n (a:Int)) (.n (b:Int))=some (.n ((a%b:Nat):Int)):=by
 rw[bF _ _ _ _ _ U,Int.tmod_eq_emod_of_nonneg U];rfl
theorem AWF (a b:Nat)(j:0<b)(g:a<=9223372036854775807):IQ jA 3 .quo (.n (a:Int)) (.n (b:Int))=some (.n ((a/b:Nat):Int)):=by
 have d:((a:Int).tdiv (b:Int))=((a/b:Nat):Int):=by rw[Int.tdiv_eq_ediv_of_nonneg U];rfl
 have e:=Nat.div_le_self a b;rw[ABM _ _ _ _ _ U,d,N8 U]
structure Cvr where
 pm:SM
 pts:List Is
 cm:SM
 crs:List Is
 sam:Int
 ill:Int
def encV (v:Cvr):List AV:=[.sl v.pm 1 (v.pts.map PE),.sl v.cm 1 (v.crs.map PE),.n v.sam,.n v.ill]
theorem encV0 (v:Cvr):(encV v)[0]?=some (.sl v.pm 1 (v.pts.map PE)):=rfl
theorem encV1 (v:Cvr):(encV v)[1]?=some (.sl v.cm 1 (v.crs.map PE)):=rfl
theorem encV2 (v:Cvr):(encV v)[2]?=some (.n v.sam):=rfl
theorem encV3 (v:Cvr):(encV v)[3]?=some (.n v.ill):=rfl
theorem encV_len (v:Cvr):(encV v).length=4:=rfl
theorem bxV (h:Hp)(v:Cvr):OU h (.agg (encV v))=some (.ptr h.length 0 0,h++[qG 4 [encV v]]):=rfl
theorem ldV {b:Nat}{v:Cvr}(d:h[b]?=some (qG 4 [encV v])):BO jA h 46 (.ptr b 0 0)=some (.agg (encV v)):=by
 rw[EN A59 AQD d rfl (by rw[encV_len];exact jF 4)];rfl
def rowF (p:Nat->Bool):Nat->List Int->Bool
 | _,[]=>true
 | k,n::ns=>countB n (p k)&&rowF p (k+1) ns
theorem ANF (p:Nat->Bool)(l:List Int)(k:Nat)(hk:k<l.length):rowF p k (l.drop k)=(countB l[k] (p k)&&rowF p (k+1) (l.drop (k+1))):=by
 rw[zX hk];rfl
def ZU {α:Type}(b:α->Is->Bool):List α->List Is->Bool
 | [],[]=>true
 | a::ws,x::xs=>b a x&&ZU b ws xs
 | _,_=>false
theorem AEY {α:Type}{b:α->Is->Bool}:∀ {ws:List α} {xs:List Is},ZU b ws xs=true->ws.length=xs.length
 | [],[],_=>rfl
 | a::ws,x::xs,h=>by
   simp only[ZU,jX] at h;simp [AEY h.2]
 | [],_::_,h=>by cases h
 | _::_,[],h=>by cases h
theorem AOP {α:Type}(b:α->Is->Bool)(ws:List α)(xs:List Is)(k:Nat)(d:k<ws.length)(e:k<xs.length):ZU b (ws.drop k) (xs.drop k)=(b ws[k] xs[k]&&ZU b (ws.drop (k+1)) (xs.drop (k+1))):=by
 rw[zX d,zX e];rfl
theorem AS3 {α:Type}(e:α->Is->Bool)(ws:List α)(xs:List Is)(k:Nat)(b:ws.length<=k)(d:xs.length<=k):ZU e (ws.drop k) (xs.drop k)=true:=by
 rw[jY b,jY d];rfl
def kindOf (p:Pt)(k:Nat):Int:=match p.bins[k]? with
 | some b=>b.kind
 | none=>0
def okP (p:Pt)(x:Is):Bool:=(x.l.length==p.bins.length)&&rowF (fun k=>kindOf p k==0) 0 x.l
def okC (m:Mo)(c:Cr)(x:Is):Bool:=(x.l.length==KJ (szs m c.pts))&&rowF (fun k=>eX m c (AP8 (szs m c.pts) k)) 0 x.l
structure CvOk (v:Cvr):Prop where
 pts:v.pts.length<=1048576
 crs:v.crs.length<=1048576
 eachP:∀x∈v.pts,x.l.length<=1048576
 eachC:∀x∈v.crs,x.l.length<=1048576
theorem AOO (m:Mo)(l:List Is)(s:SM)(h:Hp)(hm:MoOk m)(hl:∀x∈l,x.l.length<=1048576):PCall (En G) 119 [.agg (DT m),.sl s 1 (l.map PE)] h (.bool (ZU okP m.pts l)):=by
 refine ACalls.pure0 rfl ?_;have a0:=hm.np;refine acT Tryz.func119 4 ?_;refine LC @bxM kG @XA ?_;refine BH ?_ ?_<;>intro X
 .refine AB ?_
  have:ZU okP m.pts l=false:=by
   rw[<-Bool.not_eq_true];intro e;have:=AEY e;simp at X;omega
  exact⟨by rw[this],_,rfl⟩
 have Z:l.length=m.pts.length:=by simp at X;omega
 refine LD kG @XA ?_;refine BB (fun n F H=>∃i,n+i=m.pts.length/\F 1=.sl s 1 (l.map PE)/\F 16=.sl m.pm 6 (m.pts.map F8)/\F 17=.n m.pts.length/\F 18=.n (i:Nat)/\(∃x,H=h++x)/\ZU okP m.pts l=ZU okP (m.pts.drop i) (l.drop i)) m.pts.length ⟨0,BA,EZ,EZ,EZ,EZ,⟨_,rfl⟩,rfl⟩ ?_;rintro n F H ⟨i,hi,p,f16,f17,f18,hx,L⟩;refine A7 f17 f18 ?_;refine DX ?_ ?_<;>intro A
 .have d:i<l.length:=U
  rw[AOP okP m.pts l i A d] at L
  have E:∃x,H++[qG 6 [F8 m.pts[i]]]=h++x:=by
   obtain⟨x,rfl⟩:=hx;exact⟨_,zD _ _ _⟩
  have a1:=hl _ (jH d);simp only[vQ,CQ,↓reduceIte,jC,enP,UF,jQ,f16,f18,CP A,DL kF bI JB A,AY0,AVU _ _ [.str ⟨#[]⟩,.n 0,.n 0,.str ⟨#[]⟩,.sl .nil 0 [],.sl .nil 0 []] rfl];refine DR BC ?_;simp only[vQ,JE,↓reduceIte,jC,jP,enP,oR,YT,eO,KX,p,CP d,BR O4 d,pX,EI QQ,QE,jI];refine BH ?_ ?_<;>intro Y
  .refine AB ?_
   have:okP m.pts[i] l[i]=false:=by
    have:(l[i].l.length==m.pts[i].bins.length)=false:=by
     rw[beq_eq_false_iff_ne];intro e;simp [e] at Y
    unfold okP;rw[this];rfl
   exact⟨by rw[L,this];rfl,E⟩
  have Q:l[i].l.length=m.pts[i].bins.length:=by simp at Y;omega
  have T:okP m.pts[i] l[i]=rowF (fun k=>kindOf m.pts[i] k==0) 0 l[i].l:=by
   unfold okP;rw[beq_iff_eq.2 Q];rfl
  simp only[vQ,CQ,↓reduceIte,jC,enP,oR,YT,p,CP d,BR O4 d,pX,jI];refine EK 2 (fun b g=>b 1=.sl s 1 (l.map PE)/\b 16=.sl m.pm 6 (m.pts.map F8)/\b 17=.n m.pts.length/\b 18=.n (i:Nat)/\g=H++[qG 6 [F8 m.pts[i]]]/\okP m.pts[i] l[i]=true) (fun b g=>b 4=.bool false/\g=H++[qG 6 [F8 m.pts[i]]]/\okP m.pts[i] l[i]=false) ?_ ?_ ?_
  .refine BB (fun n b g=>∃k,n+k=l[i].l.length/\b 1=.sl s 1 (l.map PE)/\b 16=.sl m.pm 6 (m.pts.map F8)/\b 17=.n m.pts.length/\b 18=.n (i:Nat)/\b 6=.ptr H.length 0 0/\b 35=.sl l[i].m 1 (l[i].l.map qencI)/\b 36=.n l[i].l.length/\b 37=.n (k:Nat)/\g=H++[qG 6 [F8 m.pts[i]]]/\okP m.pts[i] l[i]=rowF (fun k=>kindOf m.pts[i] k==0) k (l[i].l.drop k)) l[i].l.length ⟨0,BA,UD p,UD f16,UD f17,UD f18,EZ,EZ,EZ,EZ,rfl,T⟩ ?_
   clear p f16 f17 f18;rintro n' F g ⟨k,hk,p,f16,f17,f18,V,I,J,q,rfl,j⟩;refine A7 J q ?_;refine DX ?_ ?_<;>intro B
   .have C:k<m.pts[i].bins.length:=U
    have S:kindOf m.pts[i] k=(m.pts[i].bins[k]).kind:=by unfold kindOf;rw[jO C]
    rw[ANF _ _ _ B,S] at j;simp only[vQ,CQ,↓reduceIte,jC,enP,LJ,ZL,KX,V,I,q,CP B,BR ag3 B,encI0,EI QQ,QE,CP C,DL sC dX MM C];refine(AFR G _ _).uu ?_;refine(dE G _ _ _).uu ?_;cases K:countB l[i].l[k] (m.pts[i].bins[k].kind==0)
    .refine AB ?_
     exact⟨trivial,trivial,by rw[j,K];rfl⟩
    .refine A7 q (C9 k) ?_
     exact⟨n'-1,U,k+1,U,p,f16,f17,f18,V,I,J,rfl,trivial,by rw[j,K];rfl⟩
   .refine AB ?_
    exact⟨p,f16,f17,f18,trivial,by rw[j,jY U];rfl⟩
  .rintro b g ⟨g1,M,N,O,rfl,j⟩
   refine A7 O (C9 i) ?_;exact⟨n-1,U,i+1,U,g1,M,N,rfl,E,by rw[L,j];rfl⟩
  .rintro b g ⟨g4,rfl,j⟩
   refine AY g4 ?_;exact⟨by rw[L,j];rfl,E⟩
 .refine AB ?_
  exact⟨by rw[L,AS3 okP _ _ i U U],hx⟩
structure CrGood (m:Mo) (c:Cr):Prop where
 here:Here m c.pts
 two:2<=c.pts.length
 four:c.pts.length<=4
 prod:KJ (szs m c.pts)<=256
 num:c.excl.length<=256
 excl:∀x∈c.excl,J6 (szs m c.pts) x.l=true
theorem AO5 {m:Mo}{c:Cr}(h:IE m c=0):CrGood m c:=by
 unfold IE at h;split at h
 .cases h
 .split at h
  .cases h
  .split at h
   .cases h
   .split at h
    .cases h
    .split at h
     .cases h
     .rename_i j l e p d
      have b:ZO m.pts.length none c.pts=true:=BL e;refine⟨aW b,U,U,U,U,fun x g=>?_⟩;rw[Bool.not_eq_true,qQ] at d;have:=d x g;simpa using this
structure Good (m:Mo):Prop where
 num:m.pts.length+m.crs.length<=16
 full:Full m
 crs:∀c∈m.crs,CrGood m c
theorem VT {m:Mo}(h:GH m=0):Good m:=by
 unfold GH at h;split at h
 .cases h
 .split at h
  .rename_i b;exact absurd h b
  .split at h
   .cases h
   .split at h
    .rename_i d;exact absurd h d
    .rename_i g b j d
     refine⟨U,full_of (BL b),fun c e=>AO5 (ZR _ (BL d) c e)⟩
def RH (m:Mo)(v:Cvr):Bool:=(GH m==0)&&ZU okP m.pts v.pts&&ZU (okC m) m.crs v.crs&&aE v.sam&&aE v.ill
theorem lF (n:Int):countB n true=aE n:=by unfold countB;simp
theorem AXO (B:GOk G)(m:Mo)(v:Cvr)(q:MoOk m)(E:CvOk v)(A:Good m->∀h,PCall (En G) 120 [.agg (DT m),.sl v.cm 1 (v.crs.map PE)] h (.bool (ZU (okC m) m.crs v.crs)))(h:Hp):PCall (En G) 55 [.agg (DT m),.agg (encV v)] h (.bool (RH m v)):=by
 refine ACalls.pure0 rfl ?_;refine acT Tryz.func55 4 ?_;have g:(h++[qG 2 [DT m]]++[qG 4 [encV v]])[h.length]?=some (qG 2 [DT m]):=AU (AZ _ _);have b:=AZ (h++[qG 2 [DT m]]) (qG 4 [encV v]);have e:∃x,h++[qG 2 [DT m]]++[qG 4 [encV v]]=h++x:=⟨_,zD _ _ _⟩;refine A7 @bxM @bxV ?_
 generalize h++[qG 2 [DT m]]++[qG 4 [encV v]]=H at g b e|-
 generalize (h++[qG 2 [DT m]]).length=vb at b|-
 have I:BO jA H 25 (.ptr vb 0 0)=some (.sl v.pm 1 (v.pts.map PE)):=by rw[BK Z5 b (row:=encV v) rfl,encV0]
 have J:BO jA H 25 (.ptr vb 0 1)=some (.sl v.cm 1 (v.crs.map PE)):=by rw[BK Z5 b (row:=encV v) rfl,encV1]
 have K:BO jA H 3 (.ptr vb 0 2)=some (.n v.sam):=by rw[BK ag3 b (row:=encV v) rfl,encV2]
 have L:BO jA H 3 (.ptr vb 0 3)=some (.n v.ill):=by rw[BK ag3 b (row:=encV v) rfl,encV3]
 refine AY (ldM g) ?_;refine(U5 G B m q _).uu ?_;cases d:(GH m==0)
 .refine AB ?_
  exact⟨by unfold RH;rw[d];rfl,e⟩
 have C:=VT (beq_iff_eq.1 d);refine A7 (ldM g) I ?_;refine(AOO G m v.pts v.pm _ q E.eachP).uu ?_;cases j:ZU okP m.pts v.pts
 .refine AB ?_
  exact⟨by unfold RH;rw[d,j];rfl,e⟩
 refine A7 (ldM g) J ?_;refine(A C _).uu ?_;cases l:ZU (okC m) m.crs v.crs
 .refine AB ?_
  exact⟨by unfold RH;rw[d,j,l];rfl,e⟩
 refine A7 @A1Y K ?_;refine(dE G _ _ _).use ?_;refine AY @lF ?_;cases p:aE v.sam
 .refine AB ?_
  exact⟨by unfold RH;rw[d,j,l,p];rfl,e⟩
 refine A7 @A1X L ?_;refine(dE G _ _ _).use ?_;refine AY @lF ?_;exact⟨by unfold RH;rw[d,j,l,p];rfl,e⟩
structure TwoV (h H:Hp) (m:Mo) (v:Cvr) (vb:Nat):Prop where
 gm:H[h.length]?=some (qG 2 [DT m])
 gv:H[vb]?=some (qG 4 [encV v])
 hx:∃x,H=h++x
theorem TwoV.mk' (h:Hp)(m:Mo)(v:Cvr):TwoV h (h++[qG 2 [DT m]]++[qG 4 [encV v]]) m v (h++[qG 2 [DT m]]).length:=⟨AU (AZ _ _),AZ _ _,⟨_,zD _ _ _⟩⟩
section
variable {h H:Hp} {m:Mo} {v:Cvr} {vb:Nat} (t:TwoV h H m v vb)
include t
theorem TwoV.m0:BO jA H 28 (.ptr h.length 0 0)=some (.sl m.pm 6 (m.pts.map F8)):=by rw[BK kG t.gm (row:=DT m) rfl,XA]
theorem TwoV.m1:BO jA H 29 (.ptr h.length 0 1)=some (.sl m.cm 3 (m.crs.map JP)):=by rw[BK sD t.gm (row:=DT m) rfl,ZV]
theorem TwoV.l0:BO jA H 25 (.ptr vb 0 0)=some (.sl v.pm 1 (v.pts.map PE)):=by rw[BK Z5 t.gv (row:=encV v) rfl,encV0]
theorem TwoV.l1:BO jA H 25 (.ptr vb 0 1)=some (.sl v.cm 1 (v.crs.map PE)):=by rw[BK Z5 t.gv (row:=encV v) rfl,encV1]
theorem TwoV.l2:BO jA H 3 (.ptr vb 0 2)=some (.n v.sam):=by rw[BK ag3 t.gv (row:=encV v) rfl,encV2]
theorem TwoV.l3:BO jA H 3 (.ptr vb 0 3)=some (.n v.ill):=by rw[BK ag3 t.gv (row:=encV v) rfl,encV3]
end
theorem AIB (G:Nat->AV)(xs:List Int)(m:SM)(g:FuncId)(b:List AV)(p:Int->Bool)(h:Hp)(J:xs.length<=1099511627776)
  (E:∀r,PCall (En G) g (.n r::b) h (.bool (p r))) :
  PCall (En G) 261 [.sl m 1 (xs.map qencI),.fn (.func g) [] b] h (.n (match xs.findIdx? p with|some i=>(i:Int)|none => -1)):=by
 refine acT Tryz.func261 4 ?_;refine AB ?_;refine BB (fun n F H=>∃k,n+k=xs.length/\F 0=.sl m 1 (xs.map qencI)/\F 1=.fn (.func g) [] b/\F 7=.n xs.length/\F 8=.n (k:Nat)/\H=h/\(xs.take k).all (fun r => !p r)=true) xs.length ⟨0,BA,rfl,rfl,rfl,rfl,rfl,rfl⟩ ?_;rintro n F H ⟨k,hk,l,q,A,B,rfl,d⟩;refine EG l q A B ?_;refine DX ?_ ?_<;>intro e
 .simp only[vQ,CQ,qI,zG,↓reduceIte,jC,enP,LJ,l,q,A,B,CP e,BR ag3 e,encI0]
  refine(E _).uu ?_;refine BH ?_ ?_<;>intro C
  .refine AB ?_
   refine⟨?_,trivial⟩
   rw[wR.2 ⟨e,C,fun j I=>by
    rw[zJ] at d;have:=d xs[j] (by rw[List.mem_take_iff_getElem];exact⟨j,U,rfl⟩)
    simpa using this⟩]
  .refine A7 B (C9 k) ?_
   refine⟨n-1,U,k+1,U,l,q,A,rfl,trivial,?_⟩;rw[jV e,List.all_append,d];simp only[wS,List.all_nil,C];rfl
 .refine AB ?_
  refine⟨?_,trivial⟩;rw[jK U] at d;rw[wU.2 (BL d)]
theorem tT (G:Nat->AV)(xs:List Int)(m:SM)(d:FuncId)(b:List AV)(p:Int->Bool)(h:Hp)(q:xs.length<=1099511627776)
  (l:∀r,PCall (En G) d (.n r::b) h (.bool (p r))) :
  PCall (En G) 231 [.sl m 1 (xs.map qencI),.fn (.func d) [] b] h (.bool (xs.any p)):=by
 refine acT Tryz.func231 4 ?_;refine AB ?_;refine(AIB G xs m d b p h q l).uu ?_;refine⟨?_,trivial⟩
 cases e:xs.findIdx? p with
 | some i =>
   obtain⟨A,j,_⟩:=wR.1 e;have:xs.any p=true:=qJ.2 ⟨xs[i],BA,j⟩;simp [this]
 | none =>
   have:xs.any p=false:=by
    rw[wU] at e;rw[qQ];intro x g;simp [e x g]
   simp [this]
theorem WH {b:Nat}{m:Mo}(d:h[b]?=some (qG 2 [DT m])):BO jA h 28 (.ptr b 0 0)=some (.sl m.pm 6 (m.pts.map F8)):=by rw[BK kG d (row:=DT m) rfl,XA]
theorem cV {b:Nat}{m:Mo}(d:h[b]?=some (qG 2 [DT m])):BO jA h 29 (.ptr b 0 1)=some (.sl m.cm 3 (m.crs.map JP)):=by rw[BK sD d (row:=DT m) rfl,ZV]
theorem AH1 (m:Mo)(b:Nat)(p:Int)(h:Hp)(d:h[b]?=some (qG 2 [DT m])):PCall (En G) 230 [.n p,.ptr b 0 0] h (.bool (decide (p<0)||decide (p≥(m.pts.length:Int)))):=by
 refine acT Tryz.func230 3 ?_;refine AB ?_;cases e:decide (p<0)
 .refine A7 @wF (WH d) ?_
  exact⟨BA,trivial⟩
 .refine AB ?_
  exact⟨BA,trivial⟩
theorem ASO {m:Mo}{l:List Int}(b:Here m l):(l.any fun p=>decide (p<0)||decide (p≥(m.pts.length:Int)))=false:=by
 rw[qQ];intro p d;have:=b p d;simp;omega
theorem kN (m:Mo)(i:Nat)(e:i<m.crs.length)(d:CrGood m m.crs[i])(h:Hp):PCall (En G) 145 [.agg (DT m),.n (i:Int)] h (.bool true):=by
 refine ACalls.pure0 rfl ?_;have b:=d.four;refine acT Tryz.func145 4 ?_;have g:decide ((i:Int)<0)=false:=BA;have j:decide ((i:Int)≥(m.crs.length:Int))=false:=by simp;omega
 simp only[vQ,EP,CQ,U0,SI,↓reduceIte,jC,enP,WI,ARY,NW,NF,bxM,g,EI sD,ZV,jI,j,CP e,BR O4 e,VY];refine(tT G m.crs[i].pts m.crs[i].pm 230 _ _ _ U fun r=>AH1 G m _ r _ (AZ _ _)).use ?_;refine AY (ASO d.here) ?_;exact⟨trivial,_,rfl⟩
theorem fO (m:Mo)(i:Nat)(Q:i<m.crs.length)(C:CrGood m m.crs[i])(h:Hp):PCall (En G) 146 [.agg (DT m),.n (i:Int)] h (.sl .any 1 ((szs m m.crs[i].pts).map O3)):=by
 have B:=C.four;have T:=C.two;have O:=C.here
 have S:PCall (En G) 146 [.agg (DT m),.n (i:Int)] h (.sl (nm (szs m m.crs[i].pts)) 1 ((szs m m.crs[i].pts).map O3)):=by
  refine JZ A4K ?_;refine acT Tryz.func146 4 ?_;simp only[vQ,CQ,WO,U0,↓reduceIte,jC,enP,WI,NW,YT,NF,bxM,EI sD,ZV,CP Q,BR O4 Q,VY,jI];refine BB (fun n F H=>∃k,n+k=m.crs[i].pts.length/\F 2=.ptr h.length 0 0/\F 13=.sl m.crs[i].pm 1 (m.crs[i].pts.map qencI)/\F 14=.n m.crs[i].pts.length/\F 15=.n (k:Nat)/\H[h.length]?=some (qG 2 [DT m])/\ext h H/\(∀b,isB (F 5) b->h.length<b)/\outG 1 O3 h (szs m (m.crs[i].pts.take k)) (F 5) H) m.crs[i].pts.length ⟨0,BA,AO,AO,AO,AO,AZ _ _,(ext.rfl' h).app _,fun b j=>j.elim,outG.nil _ _ _ _⟩ ?_;rintro n F H ⟨k,hk,M,f13,f14,f15,j,N,E,J⟩;refine A7 f14 f15 ?_;refine DX ?_ ?_<;>intro d
  .obtain⟨s,Z⟩:=O.ld d H
   have L:(szs m (m.crs[i].pts.take k)).length<8388608:=by unfold szs;simp;omega
   obtain⟨v',V,X,K,g,A,hle,p⟩:=J.append gH sz3 xY rM U L N (JL m m.crs[i].pts[k]).length;simp only[vQ,CQ,↓reduceIte,jC,enP,UF,LZ,LJ,eO,KX,M,f13,f15,CP d,BR ag3 d,encI0,WH j,O.ix d,Z,jI,AI7];refine MF (v:=v') (h:=V) (by rw[show [[AV.int .i64 ((JL m m.crs[i].pts[k]).length:Int)]]=[O3 (JL m m.crs[i].pts[k]).length] from rfl,X]) ?_;refine A7 f15 (C9 k) ?_;refine⟨n-1,U,k+1,U,M,f13,f14,rfl,g _ _ j (fun e=>by have:=E _ e;omega),A,fun b q=>?_,?_⟩
   .have:=p b q;have:=AX j;omega
   .rw[ACE m m.crs[i].pts k d];exact K
  .rw[jK U] at J
   refine AB ?_;exact⟨N,J⟩
 have I:nm (szs m m.crs[i].pts)=SM.any:=by
  have:=PQ m m.crs[i].pts
  cases Y:szs m m.crs[i].pts with
  | nil=>rw[Y] at this;simp at this;omega
  | cons a l=>rfl
 rw[I] at S;exact S
def cW:List Nat->List Int->Int->Int
 | n::ns,x::xs,z=>cW ns xs (IntKind.i64.wrap (IntKind.i64.wrap (z*(n:Int))+x))
 | _,_,z=>z
theorem eW (ns:List Nat)(z:Int):cW ns [] z=z:=by cases ns<;>rfl
theorem oU:∀ {ns:List Nat} {l:List Int},J6 ns l=true->∀(k:Nat) (hk:k<l.length) (d:k<ns.length),0<=l[k]/\l[k]<(ns[k]:Int)
 | n::ns,b::bs,h,k,hk,d=>by
   simp only[J6,jX,decide_eq_true_eq] at h
   cases k with
   | zero=>exact h.1
   | succ k=>exact oU (ns:=ns) h.2 k (BL hk) (BL d)
 | [],b::bs,h,k,hk,d=>by simp at d
 | _,[],h,k,hk,d=>by simp at hk
theorem AAL (m:Mo)(i:Nat)(L:i<m.crs.length)(E:CrGood m m.crs[i])(l:List Int)(s:SM)(j:J6 (szs m m.crs[i].pts) l=true)(h:Hp):PCall (En G) 71 [.agg (DT m),.n (i:Int),.sl s 1 (l.map qencI)] h (.tup [.n (cW (szs m m.crs[i].pts) l 0),.bool true]):=by
 have C:=E.four;have J:=PQ m m.crs[i].pts;have g:=TS j;refine ACalls.pure 2 (R:=fun v H=>v=.tup [.n (cW (szs m m.crs[i].pts) l 0),.bool true]/\∃x,H=h++x) ?_ (fun v h' ⟨e,x⟩=>⟨x,by subst e;rfl⟩);have Q:∃x,h++[qG 2 [DT m]]=h++x:=⟨_,rfl⟩;refine acL Tryz.func71 [.tmp 6,.tmp 7] ?_;refine A7 @bxM (ldM (AZ h (qG 2 [DT m]))) ?_;refine(kN G m i L E _).use ?_;refine AY (ldM (AZ h (qG 2 [DT m]))) ?_;refine(fO G m i L E _).use ?_
 generalize szs m m.crs[i].pts=ns at j J g|-
 have I:((l.length:Int) != (ns.length:Int))=false:=by rw[g];simp
 refine AY I ?_;refine BB (fun n F H=>∃k,n+k=l.length/\F 8=.sl .any 1 (ns.map O3)/\(∃z,F 9=.n z/\cW ns l 0=cW (ns.drop k) (l.drop k) z)/\F 24=.sl s 1 (l.map qencI)/\F 25=.n l.length/\F 26=.n (k:Nat)/\H=h++[qG 2 [DT m]]) l.length ⟨0,BA,AO,⟨0,rfl,rfl⟩,AO,AO,AO,rfl⟩ ?_;rintro n F H ⟨k,hk,O,⟨z,K,A⟩,B,p,q,rfl⟩;refine A7 p q ?_;refine DX ?_ ?_<;>intro b
 .have d:k<ns.length:=U
  obtain⟨S,T⟩:=oU j k b d;have M:decide (l[k]<0)=false:=by simp;omega
  have N:decide (l[k]≥(ns[k]:Int))=false:=by simp;omega
  rw[zX b,zX d] at A;simp only[vQ,EP,CQ,YF,↓reduceIte,jC,enP,LJ,O,K,B,q,CP b,BR ag3 b,encI0,M,CP d,BR ag3 d,AE9,N,C9 k];exact⟨n-1,U,k+1,U,trivial,⟨_,rfl,A⟩,trivial,p,rfl,trivial⟩
 .rw[jY (U:l.length<=k),eW] at A
  refine A7 K A ?_;exact⟨trivial,Q⟩
theorem AE4 (l:List Int)(s:SM)(b:Nat)(r:Is)(h:Hp)(d:h[b]?=some (qG 1 [[.sl s 1 (l.map qencI)]]))(e:l.length<=1099511627776):
  PCall (En G) 215 [.sl r.m 1 (r.l.map qencI),.ptr b 0 0] h (.bool (eqL r.l l)):=by
 refine acT Tryz.func215 3 ?_;refine AY (IL O4 d) ?_;refine(AIP G r.l l r.m s h e).uu ?_;exact G7
theorem tP (m:Mo)(i:Nat)(J:i<m.crs.length)(M:CrGood m m.crs[i])(l:List Int)(s:SM)(p:J6 (szs m m.crs[i].pts) l=true)(h:Hp):PCall (En G) 127 [.agg (DT m),.n (i:Int),.sl s 1 (l.map qencI)] h (.bool (!eX m m.crs[i] l)):=by
 refine ACalls.pure0 rfl ?_;have X:=M.here;have N:=M.four;have Z:=M.num;have Y:l.length=m.crs[i].pts.length:=by have:=TS p;rw[PQ] at this;omega
 refine acT Tryz.func127 6 ?_;have I:(h++[qG 2 [DT m]]++[qG 1 [[.sl s 1 (l.map qencI)]]])[h.length]?=some (qG 2 [DT m]):=AU (AZ _ _);have E:=AZ (h++[qG 2 [DT m]]) (qG 1 [[.sl s 1 (l.map qencI)]]);have S:∃x,h++[qG 2 [DT m]]++[qG 1 [[.sl s 1 (l.map qencI)]]]=h++x:=⟨_,zD _ _ _⟩;refine A7 @ABK @bxM ?_
 generalize h++[qG 2 [DT m]]++[qG 1 [[.sl s 1 (l.map qencI)]]]=H at I E S|-
 generalize (h++[qG 2 [DT m]]).length=lb at E|-
 refine A7 (ldM I) (IL O4 E) ?_;refine(AAL G m i J M l s p _).use ?_;simp only[vQ,wQ,List.getElem?_cons_succ,CQ,nA,PO,VX,WA,↓reduceIte,jC,qN,enP,WI,NW,YT,NF,cV I,CP J,BR O4 J,VY,jI];have O:=kW m m.crs[i].pts l;refine EK 0 (fun F e=>F 1=.n (i:Nat)/\F 3=.ptr h.length 0 0/\F 5=.ptr lb 0 0/\e=H/\UE m m.crs[i].pts l=true) (fun F e=>F 6=.bool true/\e=H/\UE m m.crs[i].pts l=false) ?_ ?_ ?_
 .refine BB (fun n F e=>∃k,n+k=l.length/\F 1=.n (i:Nat)/\F 3=.ptr h.length 0 0/\F 5=.ptr lb 0 0/\F 25=.sl m.crs[i].pm 1 (m.crs[i].pts.map qencI)/\F 26=.n m.crs[i].pts.length/\F 27=.n (k:Nat)/\e=H/\UE m m.crs[i].pts l=UE m (m.crs[i].pts.drop k) (l.drop k)) l.length ⟨0,BA,EZ,EZ,EZ,EZ,EZ,EZ,rfl,rfl⟩ ?_
  rintro n F e ⟨k,hk,L,B,C,q,A,g,rfl,j⟩;refine A7 A g ?_;refine DX (fun b=>?_) (fun d=>?_)
  .have d:k<l.length:=U
   rw[O k b d] at j;obtain⟨T,V⟩:=eV p k d b;obtain⟨s2,ls⟩:=X.ld b e;have Q:l[k].toNat<(JL m m.crs[i].pts[k]).length:=U;simp only[vQ,CQ,↓reduceIte,jC,enP,LJ,q,g,CP b,BR ag3 b,encI0];refine DR BC ?_;simp only[vQ,↓reduceIte,jC,jP,enP,UF,LZ,LJ,ZL,KX,X5,bne,B,C,g,WH I,X.ix b,ls,IL O4 E,CP d,BR ag3 d,encI0,AUD T V,BR ag3 Q,VD,AF7 T V];cases K:(iC m m.crs[i].pts[k] l[k]==0)
   .refine AB ?_
    exact⟨trivial,trivial,by rw[j,K];rfl⟩
   .refine A7 g (C9 k) ?_
    exact⟨n-1,U,k+1,U,L,B,C,q,A,rfl,trivial,by rw[j,K];rfl⟩
  .refine AB ?_
   exact⟨L,B,C,trivial,by rw[j,jY (U:l.length<=k),oQ]⟩
 .rintro F e ⟨L,B,C,rfl,hk⟩
  simp only[vQ,VF,CQ,SI,↓reduceIte,jC,enP,WI,NW,iI,L,B,C,cV I,CP J,BR Z5 J,AFC];refine(ZW G m.crs[i].excl m.crs[i].xm 215 _ (fun x=>eqL x.l l) _ U fun r=>AE4 G l s _ r _ E U).uu ?_;exact⟨by unfold eX;rw[hk];simp,S⟩
 .rintro F e ⟨f6,rfl,hk⟩
  refine AY f6 ?_;exact⟨by unfold eX;rw[hk];rfl,S⟩
theorem nG (m:Mo)(i:Nat)(q:i<m.crs.length)(p:CrGood m m.crs[i])(h:Hp):PCall (En G) 198 [.agg (DT m),.n (i:Int)] h (.bool true):=by
 refine ACalls.pure0 rfl ?_;have e:=p.four;have d:=AZ h (qG 2 [DT m]);have A:∃x,h++[qG 2 [DT m]]=h++x:=⟨_,rfl⟩;refine acT Tryz.func198 4 ?_;have B:decide ((i:Int)<0)=false:=BA;have C:decide ((i:Int)≥(m.crs.length:Int))=false:=by simp;omega
 simp only[vQ,EP,CQ,U0,↓reduceIte,jC,enP,WI,ARY,NW,NF,bxM,B,cV d,jI,C,CP q,BR O4 q,VY]
 generalize h++[qG 2 [DT m]]=H at d A|-
 refine BB (fun n F g=>∃k,n+k=m.crs[i].pts.length/\F 2=.ptr h.length 0 0/\F 5=.sl m.crs[i].pm 1 (m.crs[i].pts.map qencI)/\F 6=.n (k:Nat)/\g=H) m.crs[i].pts.length ⟨0,BA,AO,AO,AO,rfl⟩ ?_;rintro n F g ⟨k,hk,J,j,l,rfl⟩;refine A7 j l ?_;refine BH ?_ ?_<;>intro K
 .have b:k<m.crs[i].pts.length:=BL K
  have L:=p.here _ (jH b);have E:decide (m.crs[i].pts[k]<0)=false:=by simp;omega
  have I:decide (m.crs[i].pts[k]≥(m.pts.length:Int))=false:=by simp;omega
  refine AB ?_;refine DR BC ?_;refine V7 J j l b @encI0 E (WH d) I (C9 k) ?_;exact⟨n-1,U,k+1,U,trivial,trivial,rfl,trivial⟩
 .refine AB ?_
  exact⟨trivial,A⟩
theorem rQ (m:Mo)(i:Nat)(e:i<m.crs.length)(d:CrGood m m.crs[i])(k:Nat)(hk:k<m.crs[i].pts.length)(h:Hp):PCall (En G) 199 [.agg (DT m),.n (i:Int),.n (k:Int)] h (.n ((JL m m.crs[i].pts[k]).length:Int)):=by
 refine ACalls.pure0 rfl ?_;have b:=AZ h (qG 2 [DT m]);obtain⟨s,g⟩:=d.here.ld hk (h++[qG 2 [DT m]]);refine acT Tryz.func199 6 ?_;refine AY @bxM ?_;refine DR BC ?_;simp only[vQ,KQ,JE,↓reduceIte,jC,jP,enP,UF,WI,LZ,NW,LJ,eO,KX,NF,WH b,cV b,CP e,BR O4 e,VY,CP hk,BR ag3 hk,encI0,d.here.ix hk,g,jI];exact⟨trivial,_,rfl⟩
theorem AEL (m:Mo)(i:Nat)(C:i<m.crs.length)(K:CrGood m m.crs[i])(l:List Int)(s:SM)(j:J6 (szs m m.crs[i].pts) l=true)(h:Hp):PCall (En G) 110 [.agg (DT m),.n (i:Int),.sl s 1 (l.map qencI)] h (.tup [.n (cW (szs m m.crs[i].pts) l 0),.bool true]):=by
 have J:=K.four;have A:=PQ m m.crs[i].pts;have d:=mG m m.crs[i].pts;have g:=TS j;refine ACalls.pure 2 (R:=fun v H=>v=.tup [.n (cW (szs m m.crs[i].pts) l 0),.bool true]/\∃x,H=h++x) ?_ (fun v h' ⟨e,x⟩=>⟨x,by subst e;rfl⟩);have B:=AZ h (qG 2 [DT m]);have V:∃x,h++[qG 2 [DT m]]=h++x:=⟨_,rfl⟩;refine acL Tryz.func110 [.tmp 6,.tmp 7] ?_;refine A7 @bxM (ldM B) ?_;refine(nG G m i C K _).use ?_;have M:((l.length:Int) != (m.crs[i].pts.length:Int))=false:=by rw[<-A,g];simp
 simp only[vQ,EP,CQ,nA,WA,↓reduceIte,jC,qN,enP,WI,NW,YT,NF,cV B,CP C,BR O4 C,VY,jI,M]
 generalize h++[qG 2 [DT m]]=H at B V|-
 generalize szs m m.crs[i].pts=ns at j A g d|-
 refine BB (fun n F N=>∃k,n+k=l.length/\F 1=.n (i:Nat)/\F 2=.sl s 1 (l.map qencI)/\F 3=.ptr h.length 0 0/\(∃z,F 8=.n z/\cW ns l 0=cW (ns.drop k) (l.drop k) z)/\F 9=.n (k:Nat)/\N=H) l.length ⟨0,BA,by simp only[vQ,↓reduceIte,jC],by simp only[vQ,↓reduceIte,jC],by simp only[A8,↓reduceIte,jC],⟨0,rfl,rfl⟩,by simp only[A8,↓reduceIte];rfl,rfl⟩ ?_;rintro n F N ⟨k,hk,O,Q,S,⟨z,T,E⟩,I,rfl⟩;refine A7 Q I ?_;refine DX ?_ ?_<;>intro b
 .have q:k<ns.length:=U
  have p:k<m.crs[i].pts.length:=U;have L:ns[k]=(JL m m.crs[i].pts[k]).length:=H8 (d k p);obtain⟨Z,h1⟩:=oU j k b q;have X:decide (l[k]<0)=false:=by simp;omega
  have Y:decide (l[k]≥(ns[k]:Int))=false:=by simp;omega
  rw[zX b,zX q] at E;refine EG O S I (ldM B) ?_;refine(rQ G m i C K k p _).use ?_;rw[<-L];simp only[vQ,EP,CQ,YF,↓reduceIte,jC,enP,LJ,Q,T,I,CP b,BR ag3 b,encI0,X,Y,C9 k];exact⟨n-1,U,k+1,U,O,trivial,S,⟨_,rfl,E⟩,rfl,trivial⟩
 .rw[jY (U:l.length<=k),eW] at E
  refine A7 T E ?_;exact⟨trivial,V⟩
theorem AA3 (m:Mo)(i:Nat)(K:i<m.crs.length)(E:CrGood m m.crs[i])(l:List Int)(s:SM)(B:J6 (szs m m.crs[i].pts) l=true)(h:Hp):PCall (En G) 111 [.agg (DT m),.n (i:Int),.sl s 1 (l.map qencI)] h (.bool (!eX m m.crs[i] l)):=by
 refine ACalls.pure0 rfl ?_;have S:=E.here;have I:=E.four;have V:=E.num;have T:l.length=m.crs[i].pts.length:=by have:=TS B;rw[PQ] at this;omega
 refine acT Tryz.func111 6 ?_;have t:=Two.mk' h m m.crs[i];refine A7 @bxM (ldM (AZ h (qG 2 [DT m]))) ?_;refine(AEL G m i K E l s B _).use ?_;simp only[vQ,wQ,List.getElem?_cons_succ,CQ,nA,PO,VX,WA,↓reduceIte,jC,qN,enP,WI,NW,jQ,cV (AZ h (qG 2 [DT m])),CP K,DL AJK yI PI K,A2O,A01 _ _ [.str ⟨#[]⟩,.sl .nil 0 [],.sl .nil 0 []] rfl]
 generalize h++[qG 2 [DT m]]++[qG 3 [JP m.crs[i]]]=H at t|-
 generalize (h++[qG 2 [DT m]]).length=cb at t|-
 have L:=kW m m.crs[i].pts l;refine EK 0 (fun F e=>F 2=.sl s 1 (l.map qencI)/\F 3=.ptr h.length 0 0/\F 9=.ptr cb 0 0/\e=H/\(m.crs[i].excl.any fun x=>eqL x.l l)=false) (fun F e=>F 6=.bool true/\e=H/\(m.crs[i].excl.any fun x=>eqL x.l l)=true) ?_ ?_ ?_
 .refine BB (fun n F e=>∃k,n+k=m.crs[i].excl.length/\F 2=.sl s 1 (l.map qencI)/\F 3=.ptr h.length 0 0/\F 9=.ptr cb 0 0/\F 10=.n (k:Nat)/\e=H/\(m.crs[i].excl.any fun x=>eqL x.l l)=((m.crs[i].excl.drop k).any fun x=>eqL x.l l)) m.crs[i].excl.length ⟨0,BA,EZ,EZ,EZ,EZ,rfl,rfl⟩ ?_
  rintro n F e ⟨k,hk,g,q,j,f10,rfl,A⟩;refine DC j f10 @t.l2 ?_;refine DX ?_ ?_<;>intro b
  .have X:=NG (fun x:Is=>eqL x.l l) m.crs[i].excl k b
   simp only[vQ,CQ,↓reduceIte,jC,enP,oR,iI,g,j,f10,t.l2,CP b,BR O4 b,pX];refine(AHH G m.crs[i].excl[k].l l _ s _ U).uu ?_;cases Q:eqL m.crs[i].excl[k].l l
   .refine A7 f10 (C9 k) ?_
    exact⟨n-1,U,k+1,U,g,q,j,rfl,trivial,by rw[A,X,Q];rfl⟩
   .refine AB ?_
    exact⟨trivial,trivial,by rw[A,X,Q];rfl⟩
  .refine AB ?_
   exact⟨g,q,j,trivial,by rw[A,jY U];rfl⟩
 .rintro F e ⟨g,q,j,rfl,A⟩
  have J:eX m m.crs[i] l=UE m m.crs[i].pts l:=by unfold eX;rw[A];simp
  rw[J];refine AB ?_;refine BB (fun n F H=>∃k,n+k=l.length/\F 2=.sl s 1 (l.map qencI)/\F 3=.ptr h.length 0 0/\F 9=.ptr cb 0 0/\F 11=.n (k:Nat)/\H=e/\UE m m.crs[i].pts l=UE m (m.crs[i].pts.drop k) (l.drop k)) l.length ⟨0,BA,UD g,UD q,UD j,EZ,rfl,rfl⟩ ?_;clear g q j;rintro n F e ⟨k,hk,g,q,j,f11,rfl,p⟩;refine A7 g f11 ?_;refine DX ?_ ?_<;>intro b
  .have d:k<m.crs[i].pts.length:=U
   rw[L k d b] at p;obtain⟨N,O⟩:=eV B k b d;obtain⟨s2,Z⟩:=S.ld d e;have M:l[k].toNat<(JL m m.crs[i].pts[k]).length:=U;refine AB ?_;refine DR BC ?_;simp only[vQ,↓reduceIte,jC,jP,enP,UF,LZ,LJ,ZL,KX,X5,NF,bne,g,q,j,f11,t.lm,t.l1,CP d,BR ag3 d,CP b,BR ag3 b,encI0,S.ix d,Z,AUD N O,BR ag3 M,VD,AF7 N O];cases C:(iC m m.crs[i].pts[k] l[k]==0)
   .refine AB ?_
    exact⟨by rw[p,C];rfl,t.hx⟩
   .refine A7 f11 (C9 k) ?_
    exact⟨n-1,U,k+1,U,g,q,j,rfl,trivial,by rw[p,C];rfl⟩
  .refine AB ?_
   exact⟨by rw[p,jY (U:l.length<=k),oQ];rfl,t.hx⟩
 .rintro F e ⟨Y,rfl,A⟩
  refine AY Y ?_;exact⟨by unfold eX;rw[A];simp,t.hx⟩
structure Gl where
 cross:Bool
 idx:Nat
 bm:SM
 bins:List Int
 at_:Nat
def L8 (g:Gl):List AV:=[.bool g.cross,.n (g.idx:Int),.sl g.bm 1 (g.bins.map qencI),.n (g.at_:Int)]
def encH (g:Gl):List AV:=[.bool g.cross,.n (g.idx:Int),.sl g.bm 1 (g.bins.map qencI)]
theorem XB (g:Gl):(L8 g).length=4:=rfl
theorem A7T:Frz L8:=fun _ _ _ _=>⟨rfl,rfl⟩
theorem frzH:Frz encH:=fun _ _ _ _=>⟨rfl,rfl⟩
def mkP (i k:Nat):Gl:=⟨false,i,.full,[(k:Int)],k⟩
def mkC (m:Mo)(i k:Nat)(c:Cr):Gl:=⟨true,i,.any,AP8 (szs m c.pts) k,k⟩
def gPk (i:Nat)(p:Pt):Nat->List Gl
 | 0=>[]
 | k+1=>gPk i p k++(if(kindOf p k==0)=true then [mkP i k] else [])
def gP (m:Mo):Nat->List Gl
 | 0=>[]
 | i+1=>gP m i++(match m.pts[i]? with|some p=>gPk i p p.bins.length|none=>[])
def gCk (m:Mo)(i:Nat)(c:Cr):Nat->List Gl
 | 0=>[]
 | k+1=>gCk m i c k++(if eX m c (AP8 (szs m c.pts) k)=true then [mkC m i k c] else [])
def gC (m:Mo):Nat->List Gl
 | 0=>gP m m.pts.length
 | i+1=>gC m i++(match m.crs[i]? with|some c=>gCk m i c (KJ (szs m c.pts))|none=>[])
def goals (m:Mo):List Gl:=gC m m.crs.length
theorem AAO (i:Nat)(p:Pt):∀k,(gPk i p k).length<=k
 | 0=>jF _
 | k+1=>by
   have:=AAO i p k;simp only[gPk,jW];split<;>simp<;>omega
theorem AIG {m:Mo}(b:Full m):∀i,(gP m i).length<=64*i
 | 0=>jF _
 | i+1=>by
   have e:=AIG b i;simp only[gP,jW];split
   .rename_i p d
    have g:=AAO i p p.bins.length;have j:=(b p (qB d)).2;omega
   .simp;omega
theorem ALK (m:Mo)(i:Nat)(c:Cr):∀k,(gCk m i c k).length<=k
 | 0=>jF _
 | k+1=>by
   have:=ALK m i c k;simp only[gCk,jW];split<;>simp<;>omega
theorem ASW {m:Mo}(b:Good m):∀i,(gC m i).length<=64*m.pts.length+256*i
 | 0=>AIG b.full _
 | i+1=>by
   have e:=ASW b i;simp only[gC,jW];split
   .rename_i c d
    have g:=ALK m i c (KJ (szs m c.pts));have j:=(b.crs c (qB d)).prod;omega
   .simp;omega
theorem vP {m:Mo}(b:Good m):(goals m).length<=8192:=by
 have d:=ASW b m.crs.length;have e:=b.num;unfold goals;omega
theorem A5R (i:Int)(xs:List (List AV)):JC jA 34 [(1,.n i),(2,.sl .full 1 xs)]=some (.agg [.bool false,.n i,.sl .full 1 xs]):=BC
theorem A5Q (i k:Int)(xs:List (List AV)):JC jA 118 [(0,.agg [.bool false,.n i,.sl .full 1 xs]),(1,.n k)]=some (.agg [.bool false,.n i,.sl .full 1 xs,.n k]):=BC
theorem A8A (h:Hp)(g:Gl)(e:(L8 g).all AV.frozen=true):DJ jA false h 115 1 [(0,.agg (L8 g))]=some (.sl .full 4 [L8 g],h):=by
 have b:Tryz.prog.underlying 115=some (.slice 118):=AZL;unfold DJ;simp only[b,uF,AZG];have d:eB 4 0 [(0,AV.agg (L8 g))]=some [L8 g]:=rfl;simp [d,e]
def cellAt (l:List Is)(i k:Nat):Int:=match l[i]? with
 | some x=>(match x.l[k]? with|some z=>z|none=>0)
 | none=>0
def UH (v:Cvr)(g:Gl):Int:=if g.cross then cellAt v.crs g.idx g.at_ else cellAt v.pts g.idx g.at_
def InL (l:List Is)(i k:Nat):Prop:=∃b:i<l.length,k<(l[i]'b).l.length
def InR (v:Cvr)(g:Gl):Prop:=if g.cross=true then InL v.crs g.idx g.at_ else InL v.pts g.idx g.at_
theorem xA {l:List Is}(h:InL l i k):∃(b:i<l.length) (hk:k<l[i].l.length),cellAt l i k=l[i].l[k]:=by
 obtain⟨b,hk⟩:=h;refine⟨b,hk,?_⟩;unfold cellAt;rw[jO b];simp only;rw[jO hk]
def AU6 (m:Mo)(g:Gl):Prop:=(g.cross=false/\∃p,m.pts[g.idx]?=some p/\g.at_<p.bins.length)\/(g.cross=true/\∃c,m.crs[g.idx]?=some c/\g.at_<KJ (szs m c.pts))
theorem ASU {i:Nat}{p:Pt}:∀ {k:Nat} {g:Gl},g∈gPk i p k->g.cross=false/\g.idx=i/\g.at_<k
 | 0,g,h=>by cases h
 | k+1,g,h=>by
   simp only[gPk,zM] at h;rcases h with h|h
   .obtain⟨b,d,e⟩:=ASU h;exact⟨b,d,U⟩
   .split at h
    .simp at h;subst h;exact⟨rfl,rfl,Nat.lt_succ_self k⟩
    .cases h
theorem AZ2 {m:Mo}:∀ {i:Nat} {g:Gl},g∈gP m i->AU6 m g
 | 0,g,h=>by cases h
 | i+1,g,h=>by
   simp only[gP,zM] at h;rcases h with h|h
   .exact AZ2 h
   .split at h
    .rename_i p j
     obtain⟨b,d,e⟩:=ASU h;exact .inl ⟨b,p,by rw[d];exact j,e⟩
    .cases h
theorem ASV {m:Mo}{i:Nat}{c:Cr}:∀ {k:Nat} {g:Gl},g∈gCk m i c k->g.cross=true/\g.idx=i/\g.at_<k
 | 0,g,h=>by cases h
 | k+1,g,h=>by
   simp only[gCk,zM] at h;rcases h with h|h
   .obtain⟨b,d,e⟩:=ASV h;exact⟨b,d,U⟩
   .split at h
    .simp at h;subst h;exact⟨rfl,rfl,Nat.lt_succ_self k⟩
    .cases h
theorem AZ3 {m:Mo}:∀ {i:Nat} {g:Gl},g∈gC m i->AU6 m g
 | 0,g,h=>AZ2 h
 | i+1,g,h=>by
   simp only[gC,zM] at h;rcases h with h|h
   .exact AZ3 h
   .split at h
    .rename_i c j
     obtain⟨b,d,e⟩:=ASV h;exact .inr ⟨b,c,by rw[d];exact j,e⟩
    .cases h
theorem pJ {α:Type}{d:α->Is->Bool}:∀ {ws:List α} {xs:List Is},ZU d ws xs=true->∀(i:Nat) (a:α),ws[i]?=some a->∃x,xs[i]?=some x/\d a x=true
 | [],[],_,i,a,h=>by simp at h
 | w::ws,x::xs,h,i,a,b=>by
   simp only[ZU,jX] at h
   cases i with
   | zero=>simp at b;subst b;exact⟨x,rfl,h.1⟩
   | succ i=>exact pJ h.2 i a (BL b)
 | [],_::_,h,_,_,_=>by cases h
 | _::_,[],h,_,_,_=>by cases h
theorem ASL {l:List Is}{x:Is}(d:l[i]?=some x)(g:x.l.length=n)(hk:k<n):InL l i k:=by
 obtain⟨b,e⟩:=List.getElem?_eq_some_iff.1 d;exact⟨b,by rw[e];omega⟩
theorem A1P {m:Mo}{v:Cvr}(j:RH m v=true){g:Gl}(B:g∈goals m):InR v g:=by
 unfold RH at j;simp only[jX] at j;obtain⟨⟨⟨⟨_,q⟩,A⟩,_⟩,_⟩:=j;unfold InR;rcases AZ3 B with⟨d,p,C,hk⟩|⟨d,c,e,hk⟩
 .rw[if_neg (by simp [d])]
  obtain⟨x,l,b⟩:=pJ q _ _ C;unfold okP at b;simp only[jX,beq_iff_eq] at b;exact ASL l b.1 hk
 .rw[if_pos d]
  obtain⟨x,l,b⟩:=pJ A _ _ e;unfold okC at b;simp only[jX,beq_iff_eq] at b;exact ASL l b.1 hk
theorem A42 (g:Gl):(L8 g)[0]?=some (.bool g.cross):=rfl
theorem A41 (g:Gl):(L8 g)[1]?=some (.n (g.idx:Int)):=rfl
theorem A40 (g:Gl):(L8 g)[3]?=some (.n (g.at_:Int)):=rfl
theorem bxG (h:Hp)(g:Gl):OU h (.agg (L8 g))=some (.ptr h.length 0 0,h++[qG 4 [L8 g]]):=rfl
theorem sY (v:Cvr)(g:Gl)(j:InR v g)(h:Hp):PCall (En G) 62 [.agg (L8 g),.agg (encV v)] h (.bool (decide (UH v g>0))):=by
 refine ACalls.pure0 rfl ?_;refine acT Tryz.func62 4 ?_;have p:(h++[qG 4 [L8 g]]++[qG 4 [encV v]])[h.length]?=some (qG 4 [L8 g]):=AU (AZ _ _);have q:=AZ (h++[qG 4 [L8 g]]) (qG 4 [encV v]);have C:∃x,h++[qG 4 [L8 g]]++[qG 4 [encV v]]=h++x:=⟨_,zD _ _ _⟩;refine DC @mP @bxG @bxV ?_
 generalize h++[qG 4 [L8 g]]++[qG 4 [encV v]]=H at p q C|-
 generalize (h++[qG 4 [L8 g]]).length=vb at q|-
 have L:BO jA H 4 (.ptr h.length 0 0)=some (.bool g.cross):=by rw[BK ag4 p (row:=L8 g) rfl,A42]
 have J:BO jA H 3 (.ptr h.length 0 1)=some (.n (g.idx:Int)):=by rw[BK ag3 p (row:=L8 g) rfl,A41]
 have K:BO jA H 3 (.ptr h.length 0 3)=some (.n (g.at_:Int)):=by rw[BK ag3 p (row:=L8 g) rfl,A40]
 have E:BO jA H 25 (.ptr vb 0 0)=some (.sl v.pm 1 (v.pts.map PE)):=by rw[BK Z5 q (row:=encV v) rfl,encV0]
 have I:BO jA H 25 (.ptr vb 0 1)=some (.sl v.cm 1 (v.crs.map PE)):=by rw[BK Z5 q (row:=encV v) rfl,encV1]
 refine AY L ?_;unfold InR at j;cases A:g.cross
 .rw[if_neg (by simp [A])] at j
  obtain⟨d,e,B⟩:=xA j;have b:UH v g=v.pts[g.idx].l[g.at_]:=by unfold UH;rw[A,if_neg BA,B]
  refine AB ?_;refine DR BC ?_;simp only[vQ,KQ,↓reduceIte,jC,jP,enP,oR,LJ,WL,AAX,mP,ALY,J,K,E,CP d,BR O4 d,pX,CP e,BR ag3 e,encI0];exact⟨by rw[b],C⟩
 .rw[if_pos A] at j
  obtain⟨d,e,B⟩:=xA j;have b:UH v g=v.crs[g.idx].l[g.at_]:=by unfold UH;rw[A,if_pos rfl,B]
  refine AB ?_;refine DR BC ?_;simp only[vQ,KQ,↓reduceIte,jC,jP,enP,oR,LJ,WL,AIK,mP,ALY,J,K,I,CP d,BR O4 d,pX,CP e,BR ag3 e,encI0];exact⟨by rw[b],C⟩
theorem AOW (g:Gl):(L8 g).all AV.leaf=true:=rfl
theorem ATI (g:Gl):(encH g).all AV.frozen=true:=rfl
theorem A8G (h:Hp):IG jA h 118=some (.ptr h.length 0 0,h++[qG 4 [[.bool false,.n 0,.sl .nil 0 [],.n 0]]]):=F9 (row:=[.bool false,.n 0,.sl .nil 0 [],.n 0]) BC
theorem A69 (h:Hp)(g:Gl)(row:List AV)(b:row.length=4):D8 jA (h++[qG 4 [row]]) 118 (.ptr h.length 0 0) (.agg (L8 g))=some (h++[qG 4 [L8 g]]):=by
 rw[UW (RV (AOW g)) (by rw[XB];exact uF) (by rw[XB,b];exact jF _)];have:splice row 0 (L8 g)=L8 g:=by unfold splice;simp [XB,b]
 rw[this]
theorem ldG {b:Nat}{g:Gl}(d:h[b]?=some (qG 4 [L8 g])):BO jA h 118 (.ptr b 0 0)=some (.agg (L8 g)):=by
 rw[EN A0M uF d rfl (by rw[XB];exact jF 4)];rfl
theorem ldH {b:Nat}{g:Gl}(d:h[b]?=some (qG 4 [L8 g])):BO jA h 34 (.ptr b 0 0)=some (.agg (encH g)):=by
 rw[EN A2Q yJ d rfl (by rw[XB];omega)];rfl
theorem A8C (h:Hp)(g:Gl):DJ jA false h 49 1 [(0,.agg (encH g))]=some (.sl .full 3 [encH g],h):=by
 have b:Tryz.prog.underlying 49=some (.slice 34):=AVS;unfold DJ;simp only[b,yJ,AVH];have d:eB 3 0 [(0,AV.agg (encH g))]=some [encH g]:=rfl;simp [d,ATI]
theorem pF {m:Mo}{v:Cvr}(b:RH m v=true):GH m=0:=by
 unfold RH at b;simp only[jX,beq_iff_eq] at b;exact b.1.1.1.1
theorem AE1 {α:Type}(p:α->Bool)(xs:List α)(k:Nat)(hk:k<xs.length):(xs.take (k+1)).filter p=(xs.take k).filter p++(if p xs[k]=true then [xs[k]] else []):=by
 rw[jV hk,List.filter_append];simp [List.filter_cons]
def P7 (m:Mo)(v:Cvr):List Gl:=if RH m v=true then (goals m).filter (fun g => !decide (UH v g>0)) else []
theorem ASM (m:Mo)(v:Cvr)(hF:∀h,PCall (En G) 55 [.agg (DT m),.agg (encV v)] h (.bool (RH m v)))(hL:Good m->∀h,PCall (En G) 61 [.agg (DT m)] h (.sl (nm (goals m)) 4 ((goals m).map L8)))(h:Hp):PCall (En G) 21 [.agg (DT m),.agg (encV v)] h (.sl (nm (P7 m v)) 3 ((P7 m v).map encH)):=by
 refine JZ frzH ?_;refine acT Tryz.func21 4 ?_;have t:=TwoV.mk' h m v;have V:h.length<(h++[qG 2 [DT m]]).length:=BA;refine A7 @bxM @bxV ?_
 generalize h++[qG 2 [DT m]]++[qG 4 [encV v]]=H at t|-
 generalize (h++[qG 2 [DT m]]).length=vb at t V|-
 refine A7 (ldM t.gm) (ldV t.gv) ?_;refine(hF _).uu ?_;cases I:RH m v
 .refine AB ?_
  have:P7 m v=[]:=by unfold P7;rw[I];rfl
  rw[this];exact⟨t.hx,outG.nil _ _ _ _⟩
 have Y:=VT (pF I);have O:=vP Y;have A:∀g∈goals m,InR v g:=fun g N=>A1P I N
 refine AY (ldM t.gm) ?_;refine(hL Y _).use ?_;have T:P7 m v=(goals m).filter (fun g => !decide (UH v g>0)):=by unfold P7;rw[if_pos I]
 rw[T]
 generalize goals m=gs at O A|-
 refine AY A34 ?_;refine BB (fun n F j=>∃k,n+k=gs.length/\F 3=.ptr vb 0 0/\F 13=.sl (nm gs) 4 (gs.map L8)/\F 14=.n gs.length/\F 15=.n (k:Nat)/\j[vb]?=some (qG 4 [encV v])/\ext h j/\(∀b,isB (F 5) b->vb<b)/\outG 3 encH h ((gs.take k).filter (fun g => !decide (UH v g>0))) (F 5) j) gs.length ⟨0,BA,AO,AO,AO,AO,t.gv,t.hx,fun b hb=>hb.elim,outG.nil _ _ _ _⟩ ?_;rintro n F j ⟨k,hk,J,f13,f14,f15,E,X,B,Q⟩;refine A7 f14 f15 ?_;refine DX ?_ ?_<;>intro d
 .have a0:((gs.take k).filter (fun g => !decide (UH v g>0))).length<=k:=qX (List.length_filter_le _ _) NZ
  have p:=AE1 (fun g => !decide (UH v g>0)) gs k d;have C:=Q.app [qG 4 [L8 gs[k]]];have q:ext h (j++[qG 4 [L8 gs[k]]]):=X.app _;simp only[vQ,CQ,↓reduceIte,jC,enP,A4E,jQ,J,f13,f15,CP d,DL A0M uF XB d,A8G,A69 _ _ [.bool false,.n 0,.sl .nil 0 [],.n 0] rfl,ldG (AZ j _),ldV (AU (x:=qG 4 [L8 gs[k]]) E)];refine(sY G v gs[k] (A _ (jH d)) _).uu ?_;cases Z:decide (UH v gs[k]>0)
  .obtain⟨v',H2,ha,S,l,M,hle,K⟩:=C.append AVS yJ AVH A2J U U q gs[k]
   refine DC @mP (ldH (AZ j (qG 4 [L8 gs[k]]))) A8C ?_;refine MF (v:=v') (h:=H2) ha ?_;refine A7 f15 (C9 k) ?_;refine⟨n-1,U,k+1,U,J,f13,f14,rfl,l _ _ (AU E) (fun e=>by have:=B _ e;omega),M,fun b L=>?_,?_⟩
   .have h1:=K b L;have h2:=AX E;rw[h1];simp;omega
   .rw[p,Z];exact S
  .refine A7 f15 (C9 k) ?_
   refine⟨n-1,U,k+1,U,J,f13,f14,rfl,AU E,q,B,?_⟩;rw[p,Z];simp only[qN,zZ,if_false,jM];exact C
 .rw[jK U] at Q
  refine AB ?_;exact⟨X,Q⟩
def zeros (n:Nat):List Int:=zK n 0
theorem mkI (h:Hp)(n:Nat)(b:n<=1048576):I4 jA true h 32 (.n (n:Int)) (.n (n:Int))=some (.own h.length 0 n,h++[qG 1 ((zeros n).map qencI)]):=by
 rw[A7O h n b,AXW];simp [zeros]
theorem KI (h:Hp)(x y:ABlk):(h++[x]).set h.length y=h++[y]:=BA
theorem IM {t:Nat}{b:Nat}(e:F a=.ptr b 0 0)(d:BO P h t (.ptr b 0 0)=some x):ML P [.cell a t] R .ret F h=R x h:=by simp [ML,fT,XH,e,d]
theorem A11 {t b:Nat}{y:AV}{bb:Nat}(e:F a=.ptr ba 0 0)(g:F b=.ptr bb 0 0)(d:BO P h t (.ptr ba 0 0)=some x)(h2:BO P h u (.ptr bb 0 0)=some y):ML P [.cell a t,.cell b u] R .ret F h=R (.tup [x,y]) h:=by simp [ML,fT,UJ,XH,e,g,d,h2]
theorem AL3 {t b:Nat}{y:AV}{bb:Nat}(e:F a=.ptr ba 0 0)(g:F b=.ptr bb 0 0)(d:BO P h t (.ptr ba 0 0)=some x)(h2:BO P h u (.ptr bb 0 0)=some y):ML P [.cell a t,.cell b u,.tmp c] R .ret F h=R (.tup [x,y,F c]) h:=by simp [ML,fT,UJ,XH,e,g,d,h2]
theorem bC {t:Nat}(d:F a=.ptr ba 0 0)(b:BO P h t (.ptr ba 0 0)=some x):ML P [.cell a t,.tmp c] R .ret F h=R (.tup [x,F c]) h:=by simp [ML,fT,UJ,XH,d,b]
def fzG {α:Type}(k:Nat)(f:α->List AV)(ys:List α):AV:=match ys with
 | []=>.sl .nil 0 []
 | _=>.sl .any k (ys.map f)
theorem LP {α:Type}{f:α->List AV}{ys:List α}(j:Frz f)(p:outG k f h ys v H)(n d:Nat)(l:n<=h.length):FH n H (d+2) v=fzG k f ys:=by
 rcases p with⟨rfl,rfl⟩|⟨b,o,e,rfl,g⟩
 .rfl
 .rw[frz_own j (qX l e) g]
  cases ys with
  | nil=>exact absurd rfl b
  | cons _ _=>rfl
theorem WJ {α:Type}{f:α->List AV}{ys:List α}:CvR (fzG k f ys) (.sl (nm ys) k (ys.map f)):=by
 cases ys with
 | nil=>exact CvR.sl (Cv.nil 0 k)
 | cons y ys=>exact CvR.refl _
theorem outG.app2 {t e:TypeId}{α:Type}{q:Nat}{f:α->List AV}{ys:List α}(Q:outG k f h ys v H)(I:P.underlying t=some (.slice e))(E:szO P e=some k)(J:UZ P e=some k)(d:LQ P e=some q)(hbs:q<=4194304)(C:ys.length<8388608)(B:h.length<=H.length)(y:α):
  ∃g H',EH P true H t t v (.sl .full k [f y])=some (g,H')/\outG k f h (ys++[y]) g H'/\(∀b x,H[b]?=some x->¬isB v b->H'[b]?=some x)/\H'.length=H.length+1/\(∀b,isB g b->b=H.length)/\(∃o l,g=.own o 0 l)/\∀e:Hp,e.length<=h.length->ext e H->ext e H':=by
 have A:([f y]:List (List AV))≠[]:=BA;rcases Q with⟨rfl,rfl⟩|⟨O,o,K,rfl,L⟩
 .exact⟨_,_,UU I E J d (H6 H .full k [f y]) A (I5 BA hbs),.inr ⟨BA,H.length,B,rfl,BA⟩,fun b x d _=>IA d,BA,fun b d=>d.symm,⟨_,_,rfl⟩,fun e _ p=>p.app _⟩
 .have M:JJ H (.own o 0 ys.length)=some (k,ys.map f):=by
   rw[JK L BA,zI,jK BA]
  refine⟨_,_,TM I E J d M (H6 H .full k [f y]) A (I5 NZ hbs),.inr ⟨BA,H.length,B,BA,BA⟩,fun b x d N=>?_,BA,fun b d=>d.symm,⟨_,_,rfl⟩,fun e C p=>(p.set (qX C K) _).app _⟩;have j:¬o=b:=N;refine IA ?_;rw[zU,if_neg j];exact d
theorem JU {t b j:Nat}{cs:List AV}(e:JH v=some cs)(l:szO P t=some cs.length)(d:H[b]?=some (qG k [row]))(g:j+cs.length<=row.length):D8 P H t (.ptr b 0 j) v=some (H.set b (qG k [splice row j cs])):=by
 rw[IJ (i:=0) e l d rfl g];rfl
structure Tk where
 m:SM
 last:List Is
def fG (t:Tk):List AV:=[.sl t.m 1 (t.last.map PE)]
theorem ATF (t:Tk):(fG t).length=1:=rfl
def zLs (m:Mo):List Is:=m.pts.map fun _=>⟨.nil,[]⟩
def MZ:List AV:=[.sl .nil 0 []]
theorem A1W {α:Type}:Frz (fun _:α=>MZ):=fun _ _ _ _=>⟨rfl,rfl⟩
theorem AWX:CvRow MZ (PE ⟨.nil,[]⟩):=CvRow.cons rfl (Cv.nil 0 1) CvRow.nil
theorem AWW {α:Type}{s:SM}(xs:List α):Cv (.sl s 1 (xs.map fun _=>MZ)) (.sl s 1 ((xs.map fun _=>(⟨.nil,[]⟩:Is)).map PE)):=by
 rw[qE];exact Cv.map fun _ _=>AWX
def LW:List AV:=[.sl .nil 0 [],.sl .nil 0 [],.n 0,.n 0]
theorem AUT (h:Hp):IG jA h 46=some (.ptr h.length 0 0,h++[qG 4 [LW]]):=F9 (row:=LW) BC
theorem A2P (h:Hp):IG jA h 94=some (.ptr h.length 0 0,h++[qG 1 [MZ]]):=F9 (row:=MZ) BC
theorem A5U:JC jA 46 []=some (.agg LW):=BC
theorem A5S:JC jA 94 []=some (.agg MZ):=BC
theorem stZ {b:Nat}(e:H[b]?=some (qG 4 [row]))(d:row.length=4):D8 jA H 46 (.ptr b 0 0) (.agg LW)=some (H.set b (qG 4 [LW])):=by
 rw[JU (cs:=LW) rfl AQD e (by rw[d];exact jF 4)];have:splice row 0 LW=LW:=by unfold splice;simp [LW,d]
 rw[this]
theorem stT {H:Hp}{b:Nat}{row:List AV}{t:Tk}(d:H[b]?=some (qG 1 [row]))(e:row.length=1):D8 jA H 94 (.ptr b 0 0) (.agg (fG t))=some (H.set b (qG 1 [fG t])):=by
 rw[JU (cs:=fG t) rfl AQC d (by rw[e];exact jF 1)];have:splice row 0 (fG t)=fG t:=by unfold splice;rw[ATF,qA,jY U];simp
 rw[this]
theorem A29 {b:Nat}(e:H[b]?=some (qG 1 [row]))(d:row.length=1):D8 jA H 94 (.ptr b 0 0) (.agg MZ)=some (H.set b (qG 1 [MZ])):=by
 rw[JU (cs:=MZ) rfl AQC e (by rw[d];exact jF 1)];have:splice row 0 MZ=MZ:=by unfold splice;rw[qA,jY (by rw[d];exact jF 1)];simp
 rw[this]
theorem eS {b:Nat}(d:h[b]?=some (qG 4 [row]))(e:row.length=4):BO jA h 46 (.ptr b 0 0)=some (.agg row):=by
 rw[EN A59 AQD d rfl (by rw[e];exact jF 4),zI,jK U]
theorem eR {b:Nat}(d:h[b]?=some (qG 1 [row]))(e:row.length=1):BO jA h 94 (.ptr b 0 0)=some (.agg row):=by
 rw[EN A8O AQC d rfl (by rw[e];exact jF 1),zI,jK U]
end Go.Proofs.YtiihpnicbekebaaGreatDoor.Cov
namespace Go.Proofs.YtiihpnicbekebaaGreatDoor.Rk
open Sm Bins Cov Go.RowKit
def hit (v:Cvr)(g:Gl):Bool:=decide (UH v g>0)
def hits (l:List Cvr)(i:Nat)(g:Gl):Bool:=match l[i]? with
 | some v=>hit v g
 | none=>false
def row (m:Mo)(v:Cvr):List Bool:=(goals m).map (hit v)
def left (b:List Gl)(v:Cvr)(k:Nat):List Gl:=(b.drop k).filter fun g => !hit v g
def SomeB (E:Env)(f:FuncId)(args:List AV)(h:Hp):Prop:=ACalls E f args h fun v H=>(∃b:Bool,v=.bool b)/\H=h
theorem SomeB.of {E:Env}{f:FuncId}{args:List AV}{h:Hp}(g:ACalls E f args h fun v H=>(∃b:Bool,v=.bool b)/\ext h H):SomeB E f args h :=
 g.trunc fun v H e=>by
  obtain⟨⟨b,rfl⟩,x,rfl⟩:=e;exact⟨1,h,rfl,fun b d=>.inr (.inl ⟨by rw[qH d],by rw[qH d]⟩),⟨b,rfl⟩,rfl⟩
theorem SomeB.use {E:Env}{f:FuncId}{args:List AV}{h:Hp}{K:AV->Hp->Prop}(g:SomeB E f args h)(hk:∀b:Bool,K (.bool b) h):ACalls E f args h K :=
 ACalls.mono g fun v H ⟨⟨b,e⟩,d⟩=>by rw[e,d];exact hk b
theorem wt_arg {e:Ex}{k:Nat}(hk:k<e.args.length):wt e.args[k]<wt e:=by
 have b:=XP (List.getElem_mem hk);have d:=N7 e;omega
theorem ldE' {H:Hp}{b:Nat}{e:Ex}(d:H[b]?=some (qG 4 [AQ e])):BO jA H 23 (.ptr b 0 3)=some (.sl e.m 4 (e.args.map AQ)):=by
 rw[BK LU d (row:=AQ e) rfl,YL]
theorem ldPE {H:Hp}{l:List Pt}{i:Nat}(d:i<l.length):BO jA H 79 (.fptr 6 (l.map F8) i 1)=some (.agg (AQ l[i].ex)):=by
 have b:=JB l[i];simp only[BO,Sm.rowAt,List.getElem?_map,List.getElem?_eq_getElem d,Option.map_some,NI,GZ];rw[if_pos (by rw[b];omega),AA9]
end Go.Proofs.YtiihpnicbekebaaGreatDoor.Rk
namespace Go.Proofs.YtiihpnicbekebaaGreatDoor.Cov
open Sm Bins Go.RowKit
variable {b k:Nat} {H h:Hp} {v:AV}
theorem outG.setB {α:Type}{f:α->List AV}{ys:List α}(e:outG k f h ys v H)(j:b<h.length)(y:ABlk):outG k f h ys v (H.set b y) :=
 e.keep fun g d=>by
  have:=e.lt d;rw[List.getElem?_set_ne U]
theorem outG.keepA {α:Type}{f:α->List AV}{H':Hp}{ys:List α}{u:AV}(l:outG k f h ys v H)(hk:∀b x,H[b]?=some x->¬isB u b->H'[b]?=some x)(j:∀b,isB v b->¬isB u b):outG k f h ys v H':=by
 rcases l with d|⟨d,o,e,rfl,g⟩
 .exact .inl d
 .exact .inr ⟨d,o,e,rfl,hk _ _ g (j o rfl)⟩
theorem outG.leaf {α:Type}{k:Nat}{f:α->List AV}{h H:Hp}{ys:List α}{v:AV}(d:outG k f h ys v H):v.leaf=true:=by
 rcases d with⟨_,rfl⟩|⟨_,o,_,rfl,_⟩<;>rfl
theorem outG.base {α:Type}{f:α->List AV}{h':Hp}{ys:List α}(l:outG k f h ys v H)(j:h'.length<=h.length):outG k f h' ys v H:=by
 rcases l with d|⟨d,o,e,rfl,g⟩
 .exact .inl d
 .exact .inr ⟨d,o,Nat.le_trans j e,rfl,g⟩
def OB (v1 v2:AV):List AV:=[v1,v2,.n 0,.n 0]
structure Em (h H:Hp) (m:Mo) (b2 b3 b4 b5:Nat) (v1 v2 v3:AV):Prop where
 gm:H[h.length]?=some (qG 2 [DT m])
 g2:H[b2]?=some (qG 4 [LW])
 g3:H[b3]?=some (qG 1 [MZ])
 g4:H[b4]?=some (qG 4 [OB v1 v2])
 g5:H[b5]?=some (qG 1 [[v3]])
 o2:h.length<b2
 o3:b2<b3
 o4:b3<b4
 o5:b4<b5
 hx:ext h H
section
variable {h H:Hp} {m:Mo} {b2 b3 b4 b5:Nat} {v1 v2 v3:AV} (E:Em h H m b2 b3 b4 b5 v1 v2 v3)
include E
theorem Em.m0:BO jA H 28 (.ptr h.length 0 0)=some (.sl m.pm 6 (m.pts.map F8)):=by rw[BK kG E.gm (row:=DT m) rfl,XA]
theorem Em.m1:BO jA H 29 (.ptr h.length 0 1)=some (.sl m.cm 3 (m.crs.map JP)):=by rw[BK sD E.gm (row:=DT m) rfl,ZV]
theorem Em.l4:BO jA H 25 (.ptr b4 0 0)=some v1:=by rw[BK Z5 E.g4 (row:=OB v1 v2) rfl];rfl
theorem Em.l4':BO jA H 25 (.ptr b4 0 1)=some v2:=by rw[BK Z5 E.g4 (row:=OB v1 v2) rfl];rfl
theorem Em.l5:BO jA H 25 (.ptr b5 0 0)=some v3:=by rw[BK Z5 E.g5 (row:=[v3]) rfl];rfl
theorem Em.app (x:Hp):Em h (H++x) m b2 b3 b4 b5 v1 v2 v3:=⟨IA E.gm,IA E.g2,IA E.g3,IA E.g4,IA E.g5,E.o2,E.o3,E.o4,E.o5,E.hx.app _⟩
theorem Em.keep {H':Hp}{u:AV}(hk:∀b x,H[b]?=some x->¬isB u b->H'[b]?=some x)(d:∀b,isB u b->b5<b)(g:ext h H->ext h H'):Em h H' m b2 b3 b4 b5 v1 v2 v3:=by
 have j:=E.o2;have l:=E.o3;have p:=E.o4;have q:=E.o5;exact⟨hk _ _ E.gm (fun e=>by have:=d _ e;omega),hk _ _ E.g2 (fun e=>by have:=d _ e;omega),hk _ _ E.g3 (fun e=>by have:=d _ e;omega),hk _ _ E.g4 (fun e=>by have:=d _ e;omega),hk _ _ E.g5 (fun e=>by have:=d _ e;omega),j,l,p,q,g E.hx⟩
theorem Em.set4 (d e:AV):Em h (H.set b4 (qG 4 [OB d e])) m b2 b3 b4 b5 d e v3:=by
 have g:=E.o2;have j:=E.o3;have l:=E.o4;have p:=E.o5;exact⟨DF E.gm U,DF E.g2 U,DF E.g3 U,CJ E.g4,DF E.g5 U,g,j,l,p,E.hx.set U _⟩
theorem Em.set5 (d:AV):Em h (H.set b5 (qG 1 [[d]])) m b2 b3 b4 b5 v1 v2 d:=by
 have e:=E.o2;have g:=E.o3;have j:=E.o4;have l:=E.o5;exact⟨DF E.gm U,DF E.g2 U,DF E.g3 U,DF E.g4 U,CJ E.g5,e,g,j,l,E.hx.set U _⟩
theorem Em.s4 {o l:Nat}:D8 jA H 25 (.ptr b4 0 0) (.own o 0 l)=some (H.set b4 (qG 4 [OB (.own o 0 l) v2])):=JU (row:=OB v1 v2) (AJL _ _ _) A0Z E.g4 (by simp [OB])
theorem Em.s4' {o l:Nat}:D8 jA H 25 (.ptr b4 0 1) (.own o 0 l)=some (H.set b4 (qG 4 [OB v1 (.own o 0 l)])):=JU (row:=OB v1 v2) (AJL _ _ _) A0Z E.g4 (by simp [OB])
theorem Em.s5 {o l:Nat}:D8 jA H 25 (.ptr b5 0 0) (.own o 0 l)=some (H.set b5 (qG 1 [[.own o 0 l]])):=JU (row:=[v3]) (AJL _ _ _) A0Z E.g5 BA
theorem Em.lt:b5<H.length:=AX E.g5
end
theorem Em.mk' (h:Hp)(m:Mo):Em h (h++[qG 2 [DT m]]++[qG 4 [LW]]++[qG 1 [MZ]]++[qG 4 [LW]]++[qG 1 [MZ]]) m (h++[qG 2 [DT m]]).length (h++[qG 2 [DT m]]++[qG 4 [LW]]).length
  (h++[qG 2 [DT m]]++[qG 4 [LW]]++[qG 1 [MZ]]).length (h++[qG 2 [DT m]]++[qG 4 [LW]]++[qG 1 [MZ]]++[qG 4 [LW]]).length (.sl .nil 0 []) (.sl .nil 0 []) (.sl .nil 0 []) :=
 ⟨AU (AU (AU (AU (AZ _ _)))),AU (AU (AU (AZ _ _))),AU (AU (AZ _ _)),AU (AZ _ _),AZ _ _,BA,BA,BA,BA,((((ext.rfl' h).app _).app _).app _).app _ |>.app _⟩
theorem A5L (h:Hp):DJ jA false h 25 1 [(0,.sl .nil 0 [])]=some (.sl .full 1 [MZ],h):=BC
theorem AQN {row:List AV}{v1 v2:AV}(g:H[b]?=some (qG 4 [row]))(d:row.length=4)(e:v1.leaf=true)(h2:v2.leaf=true):D8 jA H 46 (.ptr b 0 0) (.agg (OB v1 v2))=some (H.set b (qG 4 [OB v1 v2])):=by
 rw[JU (cs:=OB v1 v2) (RV (by simp [OB,e,h2];rfl)) AQD g (by rw[d];exact jF 4)];have:splice row 0 (OB v1 v2)=OB v1 v2:=by unfold splice;rw[qA,jY (by rw[d];exact jF 4)];simp
 rw[this]
theorem AQM {row:List AV}{v3:AV}(g:H[b]?=some (qG 1 [row]))(d:row.length=1)(e:v3.leaf=true):D8 jA H 94 (.ptr b 0 0) (.agg [v3])=some (H.set b (qG 1 [[v3]])):=by
 rw[JU (cs:=[v3]) (RV (by simp [e])) AQC g (by rw[d];exact jF 1)];have:splice row 0 [v3]=[v3]:=by unfold splice;rw[qA,jY (by rw[d];exact jF 1)];simp
 rw[this]
theorem SE {E:Env}{f:FuncId}{args:List AV}{r:AV}(d:Nat)(hr:∀n H,FH n H d r=r)(hc:ACalls E f args h fun v H=>v=r/\ext h H)(hX:E.nox=E:=by rfl):PCall E f args h r :=
 ACalls.pure d hc (fun v H ⟨e,he⟩=>⟨he,by rw[e];exact hr _ _⟩) hX
structure Ee (h H:Hp) (m:Mo) (b2 b3:Nat):Prop where
 gm:H[h.length]?=some (qG 2 [DT m])
 g2:H[b2]?=some (qG 4 [LW])
 g3:H[b3]?=some (qG 1 [MZ])
 o2:h.length<b2
 o3:b2<b3
 hx:ext h H
theorem Ee.mk' (h:Hp)(m:Mo):Ee h (h++[qG 2 [DT m]]++[qG 4 [LW]]++[qG 1 [MZ]]) m (h++[qG 2 [DT m]]).length (h++[qG 2 [DT m]]++[qG 4 [LW]]).length :=
 ⟨AU (AU (AZ _ _)),AU (AZ _ _),AZ _ _,BA,BA,(((ext.rfl' h).app _).app _).app _⟩
theorem Ee.lt {m:Mo}{b2 b3:Nat}(E:Ee h H m b2 b3):b3<H.length:=AX E.g3
theorem Ee.m0 {m:Mo}{b2 b3:Nat}(E:Ee h H m b2 b3):BO jA H 28 (.ptr h.length 0 0)=some (.sl m.pm 6 (m.pts.map F8)):=by rw[BK kG E.gm (row:=DT m) rfl,XA]
theorem DW {x:ABlk}(e:ext h H)(d:h[b]?=some x):H[b]?=some x:=by
 obtain⟨y,rfl⟩:=e;exact IA d
end Go.Proofs.YtiihpnicbekebaaGreatDoor.Cov
namespace Go.Proofs.YtiihpnicbekebaaGreatDoor.Bins
open Sm
instance:Inhabited Rs:=⟨⟨.nil,[]⟩⟩
def setAt (b:Bin)(i:Nat):List Rng:=((sets b)[i]?.getD default).l
def A22 (d:List Int)(n:Nat)(v:Int)(i:Nat):Int:=if i+1<n then d[d.length+1-n+i]?.getD 0 else v
def A7S (b:Bin)(d:List Int)(v:Int)(k:Nat):Bool:=(List.range k).all fun i=>inside (setAt b i) (A22 d (sets b).length v i)
def hit (b:Bin)(d:List Int)(v:Int):Bool:=decide (IR b=0)&&decide ((sets b).length<=d.length+1)&&A7S b d v (sets b).length
end Go.Proofs.YtiihpnicbekebaaGreatDoor.Bins
namespace Go.Proofs.YtiihpnicbekebaaGreatDoor.Wd
open Sm Bins Cov Go.RowKit
variable {a:Nat} {n:Int} (G:Nat->AV )
def wW (z:Int):Nat:=(z%65536).toNat
theorem AJ4 (z:Int):wW z<65536:=by unfold wW;omega
theorem V9 (h:a<65536):wW (a:Int)=a:=by unfold wW;omega
theorem AVN (z:Int):((wW z:Nat):Int)=z%65536:=by unfold wW;omega
def MO (a i:Nat):Nat:=a/2^i%2
def KT (a:Nat):Nat->Nat
 | 0=>0
 | k+1=>KT a k+MO a k
def ZE (a:Nat):Nat:=KT a 16
def gR (a:Nat)(n:Int):Nat:=if n<0\/n≥16 then 0 else a*2^n.toNat%65536
def cK (a:Nat)(n:Int):Nat:=if n<0\/n≥16 then 0 else a/2^n.toNat
theorem mV (a i:Nat):MO a i<2:=wJ _ U
theorem SQ (a:Nat):∀k,KT a k<=k
 | 0=>Nat.le_refl 0
 | k+1=>by have:=SQ a k;have:=mV a k;unfold KT;omega
theorem V4 (a i:Nat)(d:i<8):MO (a%256) i=MO a i:=by
 unfold MO;have:i=0\/i=1\/i=2\/i=3\/i=4\/i=5\/i=6\/i=7:=U;rcases this with rfl|rfl|rfl|rfl|rfl|rfl|rfl|rfl<;>simp only[Nat.reducePow]<;>omega
theorem AUC (a i:Nat):MO (a/256) i=MO a (8+i):=by
 unfold MO;rw[Nat.div_div_eq_div_mul,Nat.pow_add]
theorem ARF (a:Nat):ZE a=KT (a/256) 8+KT (a%256) 8:=by
 unfold ZE;simp only[KT,AUC,V4 a 0 U,V4 a 1 U,V4 a 2 U,V4 a 3 U,V4 a 4 U,V4 a 5 U,V4 a 6 U,V4 a 7 U,Nat.reduceAdd,Nat.add_zero];omega
theorem AP1 (d:0<=n)(g:n<65536):IntKind.u16.wrap n=n:=by
 have e:IntKind.u16.wrap n=n%65536:=by simp [IntKind.wrap,IntKind.bits,IntKind.signed]
 rw[e];omega
theorem WQ (n:Int):IntKind.u16.wrap n=n%65536:=by simp [IntKind.wrap,IntKind.bits,IntKind.signed]
theorem AYZ (z:Int):IQ jA 3 .and (.n z) (.n 65535)=some (.n ((wW z:Nat):Int)):=by
 have e:IQ jA 3 .and (.n z) (.n 65535)=some (.n (IntKind.i64.wrap ((BitVec.ofInt 64 z &&& BitVec.ofInt 64 65535).toNat:Int))):=rfl;rw[e,BitVec.toNat_and];have d:(BitVec.ofInt 64 65535).toNat=2^16-1:=by decide
 rw[d,Nat.and_two_pow_sub_one_eq_mod,BitVec.toNat_ofInt]
 have g:((z%((2^64:Nat):Int)).toNat%2^16)=wW z:=by
  unfold wW;simp only[Nat.reducePow];omega
 rw[g,N8 (by have:=AJ4 z;omega)]
theorem APB (a:Nat)(h:a<65536):(BitVec.ofInt 64 (a:Int)).toNat=a:=by grind
theorem A5Z (a b:Nat)(d:a<65536)(g:b<65536):IQ jA 3 .and (.n (a:Nat)) (.n (b:Nat))=some (.n ((a &&& b:Nat):Int)):=by
 have e:IQ jA 3 .and (.n (a:Nat)) (.n (b:Nat))=some (.n (IntKind.i64.wrap ((BitVec.ofInt 64 (a:Int) &&& BitVec.ofInt 64 (b:Int)).toNat:Int))):=rfl;have j:a &&& b<2^16:=Nat.and_lt_two_pow _ U;rw[e,BitVec.toNat_and,APB a d,APB b g,N8 U]
theorem A7L (a b:Nat)(d:a<65536)(g:b<65536):IQ jA 3 .or (.n (a:Nat)) (.n (b:Nat))=some (.n ((a ||| b:Nat):Int)):=by
 have e:IQ jA 3 .or (.n (a:Nat)) (.n (b:Nat))=some (.n (IntKind.i64.wrap ((BitVec.ofInt 64 (a:Int) ||| BitVec.ofInt 64 (b:Int)).toNat:Int))):=rfl
 have j:a ||| b<2^16:=Nat.or_lt_two_pow U U
 rw[e,BitVec.toNat_or,APB a d,APB b g,N8 U]
theorem A2X (a b:Nat)(d:a<65536)(g:b<65536):IQ jA 3 .xor (.n (a:Nat)) (.n (b:Nat))=some (.n ((a ^^^ b:Nat):Int)):=by
 have e:IQ jA 3 .xor (.n (a:Nat)) (.n (b:Nat))=some (.n (IntKind.i64.wrap ((BitVec.ofInt 64 (a:Int) ^^^ BitVec.ofInt 64 (b:Int)).toNat:Int))):=rfl;have j:a ^^^ b<2^16:=Nat.xor_lt_two_pow U U;rw[e,BitVec.toNat_xor,APB a d,APB b g,N8 U]
theorem iT (E:Env)(e:FuncId)(a:AV)(l args d:List AV)(h:Hp)(K:AV->Hp->Prop):AF0 E (.fn (.func e) (a::l) d) args h K=ACalls E e ((a::l)++(args++d)) h K:=rfl
theorem TG (z:Int)(h:Hp):PCall (En G) 340 [.n z] h (.int .u16 ((wW z:Nat):Int)):=by
 have:=AJ4 z;refine acT Tryz.func340 2 ?_;refine DC @AX0 @AYZ (AP1 (n:=((wW z:Nat):Int)) U U) ?_;exact G7
theorem XU (a:Nat)(d:a<65536)(h:Hp):PCall (En G) 341 [.int .u16 (a:Nat)] h (.n (a:Nat)):=by
 refine acT Tryz.func341 2 ?_;refine A7 @AX1 (N8 (n:=a) U) ?_;exact G7
theorem AMR (z:Int)(h:Hp):PCall (En G) 316 [.n z] h (.n ((wW z:Nat):Int)):=by
 refine acT Tryz.func316 2 ?_;refine AB ?_;refine(TG G z h).uu ?_;refine(XU G _ (AJ4 z) h).uu ?_;exact G7
theorem nH (k:FuncId)(a b r:Nat)(e:b<65536)(j:r<65536)(h:Hp)(g:PCall (En G) k [.int .u16 (a:Nat),.int .u16 (b:Nat)] h (.int .u16 (r:Nat))):
  PCall (En G) 342 [.fn (.func k) [.int .u16 (a:Nat)] [],.n (b:Nat)] h (.n (r:Nat)):=by
 have d:=TG G (b:Nat) h;rw[V9 e] at d;refine acT Tryz.func342 4 ?_;refine AB ?_;refine d.use ?_;refine AY @iT ?_;refine g.uu ?_;refine(XU G r j h).uu ?_;exact G7
theorem ADT (k:FuncId)(a r:Nat)(e:r<65536)(h:Hp)(d:PCall (En G) k [.int .u16 (a:Nat)] h (.int .u16 (r:Nat))):
  PCall (En G) 383 [.fn (.func k) [.int .u16 (a:Nat)] []] h (.n (r:Nat)):=by
 refine acT Tryz.func383 2 ?_;refine AY @iT ?_;refine d.uu ?_;refine(XU G r e h).uu ?_;exact G7
theorem A0N (a b:Nat)(g:a<65536)(j:b<65536)(h:Hp):PCall (En G) 317 [.n (a:Nat),.n (b:Nat)] h (.n (((a+b)%65536:Nat):Int)):=by
 have l:PCall (En G) 343 [.int .u16 (a:Nat),.int .u16 (b:Nat)] h (.int .u16 (((a+b)%65536:Nat):Int)):=by
  have e:IntKind.u16.wrap ((a:Int)+(b:Int))=(((a+b)%65536:Nat):Int):=by rw[WQ];omega
  refine acT Tryz.func343 4 ?_;refine AY e ?_;exact G7
 have d:=TG G (a:Nat) h;rw[V9 g] at d;refine acT Tryz.func317 4 ?_;refine AB ?_;refine d.uu ?_;refine(nH G 343 a b _ j (wJ _ U) h l).uu ?_;exact G7
theorem A27 (a b:Nat)(g:a<65536)(j:b<65536)(h:Hp):PCall (En G) 348 [.n (a:Nat),.n (b:Nat)] h (.n (((a+65536-b)%65536:Nat):Int)):=by
 have l:PCall (En G) 387 [.int .u16 (a:Nat),.int .u16 (b:Nat)] h (.int .u16 (((a+65536-b)%65536:Nat):Int)):=by
  have e:IntKind.u16.wrap ((a:Int)-(b:Int))=(((a+65536-b)%65536:Nat):Int):=by rw[WQ];omega
  refine acT Tryz.func387 4 ?_;refine AY e ?_;exact G7
 have d:=TG G (a:Nat) h;rw[V9 g] at d;refine acT Tryz.func348 4 ?_;refine AB ?_;refine d.uu ?_;refine(nH G 387 a b _ j (wJ _ U) h l).uu ?_;exact G7
theorem A3U (a b:Nat)(g:a<65536)(j:b<65536)(h:Hp):PCall (En G) 349 [.n (a:Nat),.n (b:Nat)] h (.n ((a*b%65536:Nat):Int)):=by
 have l:PCall (En G) 388 [.int .u16 (a:Nat),.int .u16 (b:Nat)] h (.int .u16 ((a*b%65536:Nat):Int)):=by
  have e:IntKind.u16.wrap ((a:Int)*(b:Int))=((a*b%65536:Nat):Int):=by rw[WQ];rw[<-Int.natCast_mul];rfl
  refine acT Tryz.func388 4 ?_;refine AY e ?_;exact G7
 have d:=TG G (a:Nat) h;rw[V9 g] at d;refine acT Tryz.func349 4 ?_;refine AB ?_;refine d.uu ?_;refine(nH G 388 a b _ j (wJ _ U) h l).uu ?_;exact G7
theorem A4F (a:Nat)(l:a<65536)(h:Hp):PCall (En G) 345 [.n (a:Nat)] h (.n ((65535-a:Nat):Int)):=by
 have q:aUn .xor (.int .u16 (a:Nat))=some (.int .u16 ((65535-a:Nat):Int)):=by
  have e:aUn .xor (.int .u16 (a:Nat))=some (.int .u16 (IntKind.u16.wrap ((BitVec.ofInt 16 65535 ^^^ BitVec.ofInt 16 (a:Int)).toNat:Int))):=rfl;have g:BitVec.ofInt 16 65535=BitVec.allOnes 16:=by decide
  have j:(BitVec.ofInt 16 (a:Int)).toNat=a:=by simp_all
  rw[e,g,BitVec.allOnes_xor,BitVec.toNat_not,j,AP1 U (by simp only[Nat.reducePow];omega)]
 have p:PCall (En G) 384 [.int .u16 (a:Nat)] h (.int .u16 ((65535-a:Nat):Int)):=by
  refine acT Tryz.func384 2 ?_;refine AY q ?_;exact G7
 have d:=TG G (a:Nat) h;rw[V9 l] at d;refine acT Tryz.func345 2 ?_;refine AB ?_;refine d.uu ?_;refine(ADT G 384 a _ U h p).uu ?_;exact G7
theorem A3R (a:Nat)(g:a<65536)(h:Hp):PCall (En G) 346 [.n (a:Nat)] h (.n (((65536-a)%65536:Nat):Int)):=by
 have j:PCall (En G) 385 [.int .u16 (a:Nat)] h (.int .u16 (((65536-a)%65536:Nat):Int)):=by
  have e:IntKind.u16.wrap (0-(a:Int))=(((65536-a)%65536:Nat):Int):=by rw[WQ];omega
  refine acT Tryz.func385 2 ?_;refine A7 @AG3 e ?_;exact G7
 have d:=TG G (a:Nat) h;rw[V9 g] at d;refine acT Tryz.func346 2 ?_;refine AB ?_;refine d.uu ?_;refine(ADT G 385 a _ (wJ _ U) h j).uu ?_;exact G7
theorem nM (k:FuncId)(a r:Nat)(n:Int)(q:r<65536)(h:Hp)(p:¬(n<0\/n≥16)->PCall (En G) k [.int .u16 (a:Nat),.n n] h (.int .u16 (r:Nat)))(j:n<0\/n≥16->r=0):
  PCall (En G) 389 [.fn (.func k) [.int .u16 (a:Nat)] [],.n n] h (.n (r:Nat)):=by
 refine acT Tryz.func389 4 ?_;refine AB ?_;cases l:decide (n<0)
 .have d:¬n<0:=BL l
  cases g:decide (n≥16)
  .have e:¬n≥16:=BL g
   refine A7 g @iT ?_;refine(p U).uu ?_;refine(XU G r q h).uu ?_;exact G7
  .have e:n≥16:=BL g
   refine AY g ?_;exact⟨by rw[j (.inr e)];rfl,trivial⟩
 .have d:n<0:=BL l
  refine AB ?_;exact⟨by rw[j (.inl d)];rfl,trivial⟩
theorem AKF:gR a n<65536:=by
 unfold gR;split
 .omega
 .exact wJ _ U
theorem AKE (d:a<65536):cK a n<65536:=by
 unfold cK;split
 .omega
 .exact Nat.lt_of_le_of_lt (Nat.div_le_self _ _) d
theorem shl_w (a:Nat)(n:Int)(j:a<65536)(h:Hp):PCall (En G) 350 [.n (a:Nat),.n n] h (.n (gR a n:Nat)):=by
 have p:¬(n<0\/n≥16)->PCall (En G) 390 [.int .u16 (a:Nat),.n n] h (.int .u16 (gR a n:Nat)):=fun A=>by
  have l:IQ jA 348 .shl (.int .u16 (a:Nat)) (.n n)=some (.int .u16 (gR a n:Nat)):=by
   have e:IQ jA 348 .shl (.int .u16 (a:Nat)) (.n n)=if n<0 then none else some (.int .u16 (IntKind.u16.wrap ((a:Int)*2^(min n.toNat 16)))):=rfl
   have g:min n.toNat 16=n.toNat:=U;rw[e,if_neg U,g,WQ];unfold gR;rw[if_neg A,Int.natCast_emod,Int.natCast_mul,Int.natCast_pow];rfl
  refine acT Tryz.func390 4 ?_;refine AY l ?_;exact G7
 have d:=TG G (a:Nat) h;rw[V9 j] at d;refine acT Tryz.func350 4 ?_;refine AB ?_;refine d.uu ?_;refine(nM G 390 a _ n AKF h p (fun q=>by unfold gR;rw[if_pos q])).uu ?_;exact G7
theorem A3F (a:Nat)(n:Int)(d:a<65536)(h:Hp):PCall (En G) 351 [.n (a:Nat),.n n] h (.n (cK a n:Nat)):=by
 have p:¬(n<0\/n≥16)->PCall (En G) 391 [.int .u16 (a:Nat),.n n] h (.int .u16 (cK a n:Nat)):=fun A=>by
  have l:IQ jA 348 .shr (.int .u16 (a:Nat)) (.n n)=some (.int .u16 (cK a n:Nat)):=by
   have e:IQ jA 348 .shr (.int .u16 (a:Nat)) (.n n)=if n<0 then none else some (.int .u16 ((a:Int).fdiv (2^(min n.toNat 16)))):=rfl
   have j:min n.toNat 16=n.toNat:=U;rw[e,if_neg U,j];unfold cK;rw[if_neg A,Int.fdiv_eq_ediv_of_nonneg _ (by exact Int.le_of_lt (Int.pow_pos DU)),Int.natCast_ediv,Int.natCast_pow];rfl
  refine acT Tryz.func391 4 ?_;refine AY l ?_;exact G7
 have g:=TG G (a:Nat) h;rw[V9 d] at g;refine acT Tryz.func351 4 ?_;refine AB ?_;refine g.uu ?_;refine(nM G 391 a _ n (AKE d) h p (fun q=>by unfold cK;rw[if_pos q])).uu ?_;exact G7
def AJ9 (fn:Func):ByteArray:=match fn.body with
 | some (.seq _ (.seq (.region _ ops _) _))=>match ops[2]? with
   | some o=>match o.op with
     | .index _ (.const (.string s)) _=>s
     | _=>⟨#[]⟩
   | none=>⟨#[]⟩
 | _=>⟨#[]⟩
theorem AVT:(List.range 256).all (fun y=>(AJ9 Tryz.f386)[y]? == some (UInt8.ofNat (KT y 8)))=true:=BC
theorem AP9 {y:Nat}(l:y<256)(h:Hp):ofO h (QR jA 9 (.str (AJ9 Tryz.f386)) (.int .u16 (y:Nat)))=some (.int .u8 (KT y 8:Nat),h):=by
 have d:=List.all_eq_true.1 AVT y (BL l);have e:(AJ9 Tryz.f386)[y]?=some (UInt8.ofNat (KT y 8)):=BL d;have hle:=SQ y 8;have j:Tryz.prog.underlying 9=some .string:=BC
 have g:QR jA 9 (.str (AJ9 Tryz.f386)) (.int .u16 (y:Nat))=some (.int .u8 (KT y 8:Nat)):=by
  unfold QR;simp only[j,Int.toNat_natCast,e];rw[if_pos U];simp;omega
 rw[g];rfl
end Go.Proofs.YtiihpnicbekebaaGreatDoor.Wd
