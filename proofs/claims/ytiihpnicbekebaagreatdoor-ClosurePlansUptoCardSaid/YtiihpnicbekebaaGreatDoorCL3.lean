/- Part 3 of the proof; no condition. -/
import Derived.Test.YtiihpnicbekebaaGreatDoorProg
import Derived.KernelRfl
import Derived.Laws.RangeAny
import Derived.Shelf.Strings.Cut
import Derived.Lib.IndexMore
import Derived.Test.YtiihpnicbekebaaGreatDoorCL2
set_option linter.unusedVariables false
set_option maxRecDepth 8000
set_option linter.unusedSimpArgs false
set_option maxHeartbeats 2000000
open Go.Proofs.YtiihpnicbekebaaGreatDoor.Sm.bO renaming live→qH
open Bool renaming and_eq_true→jY,eq_iff_iff→wJ,false_eq_true→zZ,false_or→wF,not_eq_true→wS,not_false→jE,not_true→qL,or_false→zK,true_and→qX
open Go.Proofs.Tryz renaming prog→jA
open Int renaming natCast_mul→wU,reduceBEq→qV,toNat_natCast→qI
open List renaming all_cons→wZ,all_eq_true→zJ,any_eq_false→qP,any_eq_true→qK,append_assoc→zA,append_nil→jL,cons_append→zG,drop_eq_getElem_cons→zU,drop_eq_nil_of_le→jS,drop_zero→zI,findIdx?_eq_none_iff→yA,findIdx?_eq_some_iff_getElem→wV,foldl_cons→qU,getElem?_append_left→qF,getElem?_cons_succ→wR,getElem?_cons_zero→wL,getElem?_eq_getElem→jP,getElem?_map→zB,getElem?_set→zW,getElem_mem→jH,length_append→jX,length_cons→zF,length_map→jI,length_take→jT,map_append→qE,map_cons→jJ,map_map→qG,map_nil→jM,mem_append→zQ,mem_cons→zM,mem_map→zO,nil_append→zX,replicate→zD,take_append_drop→wE,take_of_length_le→jK,take_succ_eq_append_getElem→jW,take_zero→qA
open Nat renaming add_zero→jR,le_of_ble_eq_true→jB,le_refl→jF,le_trans→qW,lt_or_ge→zC,reduceAdd→jO,reduceEqDiff→jC,zero_add→jG
open Option renaming getD_none→jQ,getD_some→jD
namespace Go.Proofs.YtiihpnicbekebaaGreatDoor
namespace Sm
variable {E:Env} {f:FuncId} {fn:Func} {c:Code} {h:Hp} (G:Nat->AV )
theorem iz:da jA 3=some 1:=BC
theorem ct:KN jA 3=some false:=BC
theorem xl:da jA 4=some 1:=BC
theorem po:KN jA 4=some false:=BC
theorem tt:da jA 9=some 1:=BC
theorem eo:KN jA 9=some false:=BC
theorem aW:KN jA 22=some false:=BC
theorem mO:da jA 23=some 1:=BC
theorem MQ:KN jA 23=some false:=BC
theorem qw:KN jA 24=some false:=BC
theorem xp:da jA 25=some 1:=BC
theorem XF:KN jA 25=some false:=BC
theorem ZU:da jA 27=some 5:=BC
theorem eP:KN jA 27=some true:=BC
theorem lE:KN jA 28=some false:=BC
theorem nE:KN jA 29=some false:=BC
theorem sn:da jA 31=some 2:=BC
theorem ya:KN jA 31=some true:=BC
theorem nv:da jA 32=some 1:=BC
theorem MB:KN jA 32=some false:=BC
theorem dL:da jA 34=some 3:=BC
theorem qu:KN jA 34=some true:=BC
theorem xo:da jA 38=some 1:=BC
theorem tc:KN jA 38=some false:=BC
theorem nu:da jA 46=some 4:=BC
theorem x_:KN jA 46=some true:=BC
theorem G9:da jA 79=some 4:=BC
theorem NU:KN jA 79=some true:=BC
theorem PS:KN jA 80=some false:=BC
theorem cK:da jA 82=some 6:=BC
theorem lD:KN jA 82=some true:=BC
theorem CR:da jA 84=some 1:=BC
theorem TP:KN jA 84=some false:=BC
theorem Y7:KN jA 85=some false:=BC
theorem dK:da jA 87=some 4:=BC
theorem nD:KN jA 87=some true:=BC
theorem mN:da jA 90=some 3:=BC
theorem vF:KN jA 90=some true:=BC
theorem qh:da jA 94=some 1:=BC
theorem Dr:KN jA 94=some true:=BC
theorem Aw:da jA 100=some 1:=BC
theorem sj:KN jA 100=some false:=BC
theorem oP:da jA 118=some 4:=BC
theorem CC:KN jA 118=some true:=BC
theorem si:KN jA 120=some false:=BC
theorem Av:da jA 121=some 1:=BC
theorem p':KN jA 121=some false:=BC
theorem rq:da jA 131=some 4:=BC
theorem CA:KN jA 131=some true:=BC
theorem Qq:KN jA 137=some false:=BC
theorem fG:da jA 140=some 2:=BC
theorem sh:KN jA 140=some true:=BC
theorem Np:da jA 143=some 4:=BC
theorem KO:da jA 145=some 2:=BC
theorem aX:KN jA 145=some true:=BC
theorem No:da jA 150=some 1:=BC
theorem Qp:KN jA 150=some false:=BC
theorem rp:da jA 185=some 4:=BC
theorem Qo:KN jA 185=some true:=BC
theorem Au:da jA 209=some 2:=BC
theorem Qn:KN jA 209=some true:=BC
theorem l_:da jA 230=some 1:=BC
theorem je:KN jA 230=some false:=BC
theorem BS:da jA 233=some 1:=BC
theorem Qm:KN jA 233=some true:=BC
theorem BE:da jA 235=some 2:=BC
theorem Ql:KN jA 235=some true:=BC
theorem u_:da jA 240=some 4:=BC
theorem Cz:KN jA 240=some true:=BC
theorem Bz:da jA 277=some 1:=BC
theorem Qk:KN jA 277=some true:=BC
theorem be4:∀p q,IZ jA 4 .eql (.bool p) (.bool q)=some (.bool (p==q)):=fun p q=>AV0 jA 4 p q BC
theorem Kd:∀s,KI jA 9 (.str s)=some (.int .i64 s.size):=AYW (BC:Tryz.prog.underlying 9=some .string)
theorem cM:∀h a i,FC jA h 22 a i=JJ 4 h a i:=F7 (BC:Tryz.prog.underlying 22=some (.slice 131)) rq
theorem Db:(∀m k xs,KI jA 22 (.sl m k xs)=some (.int .i64 xs.length))/\∀b off len,KI jA 22 (.own b off len)=some (.int .i64 len):=OD (BC:Tryz.prog.underlying 22=some (.slice 131))
theorem Ri:Tryz.prog.underlying 22=some (.slice 131):=BC
theorem P5:∀h a i,FC jA h 23 a i=JJ 4 h a i:=F7 (BC:Tryz.prog.underlying 23=some (.slice 79)) G9
theorem mz:(∀m k xs,KI jA 23 (.sl m k xs)=some (.int .i64 xs.length))/\∀b off len,KI jA 23 (.own b off len)=some (.int .i64 len):=OD (BC:Tryz.prog.underlying 23=some (.slice 79))
theorem NV:Tryz.prog.underlying 23=some (.slice 79):=BC
theorem QF:U5 jA 79=some 4:=BC
theorem QD:L8 jA 79=some 56:=BC
theorem ph:∀h a i,FC jA h 24 a i=JJ 2 h a i:=F7 (BC:Tryz.prog.underlying 24=some (.slice 140)) fG
theorem Da:(∀m k xs,KI jA 24 (.sl m k xs)=some (.int .i64 xs.length))/\∀b off len,KI jA 24 (.own b off len)=some (.int .i64 len):=OD (BC:Tryz.prog.underlying 24=some (.slice 140))
theorem Rh:Tryz.prog.underlying 24=some (.slice 140):=BC
theorem V6:∀h a i,FC jA h 25 a i=JJ 1 h a i:=F7 (BC:Tryz.prog.underlying 25=some (.slice 32)) nv
theorem qn:(∀m k xs,KI jA 25 (.sl m k xs)=some (.int .i64 xs.length))/\∀b off len,KI jA 25 (.own b off len)=some (.int .i64 len):=OD (BC:Tryz.prog.underlying 25=some (.slice 32))
theorem kn:Tryz.prog.underlying 25=some (.slice 32):=BC
theorem kp:U5 jA 32=some 1:=BC
theorem kh:L8 jA 32=some 24:=BC
theorem kI:(∀b i j,BM jA 27 (.ptr b i j) 0=some (.ptr b i (j+0)))/\(∀k xs i j,BM jA 27 (.fptr k xs i j) 0=some (.fptr k xs i (j+0))):=GM (BC:JQ jA 27 0 0=true)
theorem eH:(∀b i j,BM jA 27 (.ptr b i j) 1=some (.ptr b i (j+1)))/\(∀k xs i j,BM jA 27 (.fptr k xs i j) 1=some (.fptr k xs i (j+1))):=GM (BC:JQ jA 27 1 1=true)
theorem sA:(∀b i j,BM jA 27 (.ptr b i j) 2=some (.ptr b i (j+2)))/\(∀k xs i j,BM jA 27 (.fptr k xs i j) 2=some (.fptr k xs i (j+2))):=GM (BC:JQ jA 27 2 2=true)
theorem z6:(∀b i j,BM jA 27 (.ptr b i j) 3=some (.ptr b i (j+3)))/\(∀k xs i j,BM jA 27 (.fptr k xs i j) 3=some (.fptr k xs i (j+3))):=GM (BC:JQ jA 27 3 3=true)
theorem rZ:(∀b i j,BM jA 27 (.ptr b i j) 4=some (.ptr b i (j+4)))/\(∀k xs i j,BM jA 27 (.fptr k xs i j) 4=some (.fptr k xs i (j+4))):=GM (BC:JQ jA 27 4 4=true)
theorem QJ:∀h a i,FC jA h 28 a i=JJ 6 h a i:=F7 (BC:Tryz.prog.underlying 28=some (.slice 82)) cK
theorem pg:(∀m k xs,KI jA 28 (.sl m k xs)=some (.int .i64 xs.length))/\∀b off len,KI jA 28 (.own b off len)=some (.int .i64 len):=OD (BC:Tryz.prog.underlying 28=some (.slice 82))
theorem UG:∀h a i,FC jA h 29 a i=JJ 3 h a i:=F7 (BC:Tryz.prog.underlying 29=some (.slice 90)) mN
theorem sQ:(∀m k xs,KI jA 29 (.sl m k xs)=some (.int .i64 xs.length))/\∀b off len,KI jA 29 (.own b off len)=some (.int .i64 len):=OD (BC:Tryz.prog.underlying 29=some (.slice 90))
theorem J5:(∀b i j,BM jA 31 (.ptr b i j) 0=some (.ptr b i (j+0)))/\(∀k xs i j,BM jA 31 (.fptr k xs i j) 0=some (.fptr k xs i (j+0))):=GM (BC:JQ jA 31 0 0=true)
theorem MN:(∀b i j,BM jA 31 (.ptr b i j) 1=some (.ptr b i (j+1)))/\(∀k xs i j,BM jA 31 (.fptr k xs i j) 1=some (.fptr k xs i (j+1))):=GM (BC:JQ jA 31 1 1=true)
theorem J8:∀h a i,FC jA h 32 a i=JJ 1 h a i:=F7 (BC:Tryz.prog.underlying 32=some (.slice 3)) iz
theorem UF:(∀m k xs,KI jA 32 (.sl m k xs)=some (.int .i64 xs.length))/\∀b off len,KI jA 32 (.own b off len)=some (.int .i64 len):=OD (BC:Tryz.prog.underlying 32=some (.slice 3))
theorem dJ:Tryz.prog.underlying 32=some (.slice 3):=BC
theorem mr:U5 jA 3=some 1:=BC
theorem nA:L8 jA 3=some 8:=BC
theorem zy:(∀b i j,BM jA 34 (.ptr b i j) 0=some (.ptr b i (j+0)))/\(∀k xs i j,BM jA 34 (.fptr k xs i j) 0=some (.fptr k xs i (j+0))):=GM (BC:JQ jA 34 0 0=true)
theorem UZ:(∀b i j,BM jA 34 (.ptr b i j) 1=some (.ptr b i (j+1)))/\(∀k xs i j,BM jA 34 (.fptr k xs i j) 1=some (.fptr k xs i (j+1))):=GM (BC:JQ jA 34 1 1=true)
theorem VU:(∀b i j,BM jA 34 (.ptr b i j) 2=some (.ptr b i (j+2)))/\(∀k xs i j,BM jA 34 (.fptr k xs i j) 2=some (.fptr k xs i (j+2))):=GM (BC:JQ jA 34 2 2=true)
theorem YW:(∀b i j,BM jA 46 (.ptr b i j) 0=some (.ptr b i (j+0)))/\(∀k xs i j,BM jA 46 (.fptr k xs i j) 0=some (.fptr k xs i (j+0))):=GM (BC:JQ jA 46 0 0=true)
theorem YV:(∀b i j,BM jA 46 (.ptr b i j) 1=some (.ptr b i (j+1)))/\(∀k xs i j,BM jA 46 (.fptr k xs i j) 1=some (.fptr k xs i (j+1))):=GM (BC:JQ jA 46 1 1=true)
theorem Jj:(∀b i j,BM jA 46 (.ptr b i j) 2=some (.ptr b i (j+2)))/\(∀k xs i j,BM jA 46 (.fptr k xs i j) 2=some (.fptr k xs i (j+2))):=GM (BC:JQ jA 46 2 2=true)
theorem Ji:(∀b i j,BM jA 46 (.ptr b i j) 3=some (.ptr b i (j+3)))/\(∀k xs i j,BM jA 46 (.fptr k xs i j) 3=some (.fptr k xs i (j+3))):=GM (BC:JQ jA 46 3 3=true)
theorem Mj:(∀b i j,BM jA 48 (.ptr b i j) 0=some (.ptr b i (j+0)))/\(∀k xs i j,BM jA 48 (.fptr k xs i j) 0=some (.fptr k xs i (j+0))):=GM (BC:JQ jA 48 0 0=true)
theorem Mi:(∀b i j,BM jA 48 (.ptr b i j) 1=some (.ptr b i (j+5)))/\(∀k xs i j,BM jA 48 (.fptr k xs i j) 1=some (.fptr k xs i (j+5))):=GM (BC:JQ jA 48 1 5=true)
theorem Mh:(∀b i j,BM jA 48 (.ptr b i j) 3=some (.ptr b i (j+10)))/\(∀k xs i j,BM jA 48 (.fptr k xs i j) 3=some (.fptr k xs i (j+10))):=GM (BC:JQ jA 48 3 10=true)
theorem Jh:(∀b i j,BM jA 48 (.ptr b i j) 4=some (.ptr b i (j+14)))/\(∀k xs i j,BM jA 48 (.fptr k xs i j) 4=some (.fptr k xs i (j+14))):=GM (BC:JQ jA 48 4 14=true)
theorem qi:∀h a i,FC jA h 49 a i=JJ 3 h a i:=F7 (BC:Tryz.prog.underlying 49=some (.slice 34)) dL
theorem nz:(∀m k xs,KI jA 49 (.sl m k xs)=some (.int .i64 xs.length))/\∀b off len,KI jA 49 (.own b off len)=some (.int .i64 len):=OD (BC:Tryz.prog.underlying 49=some (.slice 34))
theorem pa:Tryz.prog.underlying 49=some (.slice 34):=BC
theorem o8:U5 jA 34=some 3:=BC
theorem qq:L8 jA 34=some 40:=BC
theorem YU:(∀b i j,BM jA 79 (.ptr b i j) 0=some (.ptr b i (j+0)))/\(∀k xs i j,BM jA 79 (.fptr k xs i j) 0=some (.fptr k xs i (j+0))):=GM (BC:JQ jA 79 0 0=true)
theorem rY:(∀b i j,BM jA 79 (.ptr b i j) 1=some (.ptr b i (j+1)))/\(∀k xs i j,BM jA 79 (.fptr k xs i j) 1=some (.fptr k xs i (j+1))):=GM (BC:JQ jA 79 1 1=true)
theorem kH:(∀b i j,BM jA 79 (.ptr b i j) 2=some (.ptr b i (j+2)))/\(∀k xs i j,BM jA 79 (.fptr k xs i j) 2=some (.fptr k xs i (j+2))):=GM (BC:JQ jA 79 2 2=true)
theorem UY:(∀b i j,BM jA 79 (.ptr b i j) 3=some (.ptr b i (j+3)))/\(∀k xs i j,BM jA 79 (.fptr k xs i j) 3=some (.fptr k xs i (j+3))):=GM (BC:JQ jA 79 3 3=true)
theorem XB:∀h a i,FC jA h 80 a i=JJ 4 h a i:=F7 (BC:Tryz.prog.underlying 80=some (.slice 87)) dK
theorem aF:(∀m k xs,KI jA 80 (.sl m k xs)=some (.int .i64 xs.length))/\∀b off len,KI jA 80 (.own b off len)=some (.int .i64 len):=OD (BC:Tryz.prog.underlying 80=some (.slice 87))
theorem um:(∀b i j,BM jA 82 (.ptr b i j) 0=some (.ptr b i (j+0)))/\(∀k xs i j,BM jA 82 (.fptr k xs i j) 0=some (.fptr k xs i (j+0))):=GM (BC:JQ jA 82 0 0=true)
theorem eG:(∀b i j,BM jA 82 (.ptr b i j) 1=some (.ptr b i (j+1)))/\(∀k xs i j,BM jA 82 (.fptr k xs i j) 1=some (.fptr k xs i (j+1))):=GM (BC:JQ jA 82 1 1=true)
theorem JW:(∀b i j,BM jA 82 (.ptr b i j) 2=some (.ptr b i (j+5)))/\(∀k xs i j,BM jA 82 (.fptr k xs i j) 2=some (.fptr k xs i (j+5))):=GM (BC:JQ jA 82 2 5=true)
theorem V5:∀h a i,FC jA h 84 a i=JJ 2 h a i:=F7 (BC:Tryz.prog.underlying 84=some (.slice 145)) KO
theorem aE:(∀m k xs,KI jA 84 (.sl m k xs)=some (.int .i64 xs.length))/\∀b off len,KI jA 84 (.own b off len)=some (.int .i64 len):=OD (BC:Tryz.prog.underlying 84=some (.slice 145))
theorem WY:Tryz.prog.underlying 84=some (.slice 145):=BC
theorem mq:U5 jA 145=some 2:=BC
theorem m8:L8 jA 145=some 16:=BC
theorem uQ:∀h a i,FC jA h 85 a i=JJ 1 h a i:=F7 (BC:Tryz.prog.underlying 85=some (.slice 84)) CR
theorem C_:(∀m k xs,KI jA 85 (.sl m k xs)=some (.int .i64 xs.length))/\∀b off len,KI jA 85 (.own b off len)=some (.int .i64 len):=OD (BC:Tryz.prog.underlying 85=some (.slice 84))
theorem uk:(∀b i j,BM jA 87 (.ptr b i j) 0=some (.ptr b i (j+0)))/\(∀k xs i j,BM jA 87 (.fptr k xs i j) 0=some (.fptr k xs i (j+0))):=GM (BC:JQ jA 87 0 0=true)
theorem UX:(∀b i j,BM jA 87 (.ptr b i j) 1=some (.ptr b i (j+1)))/\(∀k xs i j,BM jA 87 (.fptr k xs i j) 1=some (.fptr k xs i (j+1))):=GM (BC:JQ jA 87 1 1=true)
theorem zx:(∀b i j,BM jA 87 (.ptr b i j) 2=some (.ptr b i (j+2)))/\(∀k xs i j,BM jA 87 (.fptr k xs i j) 2=some (.fptr k xs i (j+2))):=GM (BC:JQ jA 87 2 2=true)
theorem rX:(∀b i j,BM jA 87 (.ptr b i j) 3=some (.ptr b i (j+3)))/\(∀k xs i j,BM jA 87 (.fptr k xs i j) 3=some (.fptr k xs i (j+3))):=GM (BC:JQ jA 87 3 3=true)
theorem uj:(∀b i j,BM jA 90 (.ptr b i j) 0=some (.ptr b i (j+0)))/\(∀k xs i j,BM jA 90 (.fptr k xs i j) 0=some (.fptr k xs i (j+0))):=GM (BC:JQ jA 90 0 0=true)
theorem LQ:(∀b i j,BM jA 90 (.ptr b i j) 1=some (.ptr b i (j+1)))/\(∀k xs i j,BM jA 90 (.fptr k xs i j) 1=some (.fptr k xs i (j+1))):=GM (BC:JQ jA 90 1 1=true)
theorem eF:(∀b i j,BM jA 90 (.ptr b i j) 2=some (.ptr b i (j+2)))/\(∀k xs i j,BM jA 90 (.fptr k xs i j) 2=some (.fptr k xs i (j+2))):=GM (BC:JQ jA 90 2 2=true)
theorem Jg:(∀b i j,BM jA 94 (.ptr b i j) 0=some (.ptr b i (j+0)))/\(∀k xs i j,BM jA 94 (.fptr k xs i j) 0=some (.fptr k xs i (j+0))):=GM (BC:JQ jA 94 0 0=true)
theorem xQ:∀h a i,FC jA h 100 a i=JJ 1 h a i:=F7 (BC:Tryz.prog.underlying 100=some (.slice 23)) mO
theorem WG:(∀m k xs,KI jA 100 (.sl m k xs)=some (.int .i64 xs.length))/\∀b off len,KI jA 100 (.own b off len)=some (.int .i64 len):=OD (BC:Tryz.prog.underlying 100=some (.slice 23))
theorem lK:Tryz.prog.underlying 100=some (.slice 23):=BC
theorem oH:U5 jA 23=some 1:=BC
theorem mF:L8 jA 23=some 24:=BC
theorem On:∀h a i,FC jA h 115 a i=JJ 4 h a i:=F7 (BC:Tryz.prog.underlying 115=some (.slice 118)) oP
theorem Og:(∀m k xs,KI jA 115 (.sl m k xs)=some (.int .i64 xs.length))/\∀b off len,KI jA 115 (.own b off len)=some (.int .i64 len):=OD (BC:Tryz.prog.underlying 115=some (.slice 118))
theorem Am:Tryz.prog.underlying 115=some (.slice 118):=BC
theorem Ap:U5 jA 118=some 4:=BC
theorem Cm:L8 jA 118=some 48:=BC
theorem nV:(∀b i j,BM jA 118 (.ptr b i j) 0=some (.ptr b i (j+0)))/\(∀k xs i j,BM jA 118 (.fptr k xs i j) 0=some (.fptr k xs i (j+0))):=GM (BC:JQ jA 118 0 0=true)
theorem HL:(∀b i j,BM jA 118 (.ptr b i j) 1=some (.ptr b i (j+3)))/\(∀k xs i j,BM jA 118 (.fptr k xs i j) 1=some (.fptr k xs i (j+3))):=GM (BC:JQ jA 118 1 3=true)
theorem xP:∀h a i,FC jA h 120 a i=JJ 4 h a i:=F7 (BC:Tryz.prog.underlying 120=some (.slice 240)) u_
theorem xK:(∀m k xs,KI jA 120 (.sl m k xs)=some (.int .i64 xs.length))/\∀b off len,KI jA 120 (.own b off len)=some (.int .i64 len):=OD (BC:Tryz.prog.underlying 120=some (.slice 240))
theorem cZ:∀h a i,FC jA h 121 a i=JJ 1 h a i:=F7 (BC:Tryz.prog.underlying 121=some (.slice 9)) tt
theorem B_:(∀m k xs,KI jA 121 (.sl m k xs)=some (.int .i64 xs.length))/\∀b off len,KI jA 121 (.own b off len)=some (.int .i64 len):=OD (BC:Tryz.prog.underlying 121=some (.slice 9))
theorem Al:Tryz.prog.underlying 121=some (.slice 9):=BC
theorem Ao:U5 jA 9=some 1:=BC
theorem AN:L8 jA 9=some 16:=BC
theorem WL:(∀b i j,BM jA 131 (.ptr b i j) 0=some (.ptr b i (j+0)))/\(∀k xs i j,BM jA 131 (.fptr k xs i j) 0=some (.fptr k xs i (j+0))):=GM (BC:JQ jA 131 0 0=true)
theorem WJ:(∀b i j,BM jA 131 (.ptr b i j) 1=some (.ptr b i (j+1)))/\(∀k xs i j,BM jA 131 (.fptr k xs i j) 1=some (.fptr k xs i (j+1))):=GM (BC:JQ jA 131 1 1=true)
theorem YY:(∀b i j,BM jA 131 (.ptr b i j) 2=some (.ptr b i (j+2)))/\(∀k xs i j,BM jA 131 (.fptr k xs i j) 2=some (.fptr k xs i (j+2))):=GM (BC:JQ jA 131 2 2=true)
theorem bZ:(∀b i j,BM jA 131 (.ptr b i j) 3=some (.ptr b i (j+3)))/\(∀k xs i j,BM jA 131 (.fptr k xs i j) 3=some (.fptr k xs i (j+3))):=GM (BC:JQ jA 131 3 3=true)
theorem va:∀h a i,FC jA h 137 a i=JJ 2 h a i:=F7 (BC:Tryz.prog.underlying 137=some (.slice 209)) Au
theorem B':(∀m k xs,KI jA 137 (.sl m k xs)=some (.int .i64 xs.length))/\∀b off len,KI jA 137 (.own b off len)=some (.int .i64 len):=OD (BC:Tryz.prog.underlying 137=some (.slice 209))
theorem By:Tryz.prog.underlying 137=some (.slice 209):=BC
theorem Br:U5 jA 209=some 2:=BC
theorem Ck:L8 jA 209=some 24:=BC
theorem nU:(∀b i j,BM jA 140 (.ptr b i j) 0=some (.ptr b i (j+0)))/\(∀k xs i j,BM jA 140 (.fptr k xs i j) 0=some (.fptr k xs i (j+0))):=GM (BC:JQ jA 140 0 0=true)
theorem zb:(∀b i j,BM jA 140 (.ptr b i j) 1=some (.ptr b i (j+1)))/\(∀k xs i j,BM jA 140 (.fptr k xs i j) 1=some (.fptr k xs i (j+1))):=GM (BC:JQ jA 140 1 1=true)
theorem QQ:(∀b i j,BM jA 145 (.ptr b i j) 0=some (.ptr b i (j+0)))/\(∀k xs i j,BM jA 145 (.fptr k xs i j) 0=some (.fptr k xs i (j+0))):=GM (BC:JQ jA 145 0 0=true)
theorem QP:(∀b i j,BM jA 145 (.ptr b i j) 1=some (.ptr b i (j+1)))/\(∀k xs i j,BM jA 145 (.fptr k xs i j) 1=some (.fptr k xs i (j+1))):=GM (BC:JQ jA 145 1 1=true)
theorem ry:∀h a i,FC jA h 159 a i=JJ 1 h a i:=F7 (BC:Tryz.prog.underlying 159=some (.slice 100)) Aw
theorem vg:(∀m k xs,KI jA 159 (.sl m k xs)=some (.int .i64 xs.length))/\∀b off len,KI jA 159 (.own b off len)=some (.int .i64 len):=OD (BC:Tryz.prog.underlying 159=some (.slice 100))
theorem Bx:Tryz.prog.underlying 159=some (.slice 100):=BC
theorem Bq:U5 jA 100=some 1:=BC
theorem Cj:L8 jA 100=some 24:=BC
theorem Bf:∀h a i,FC jA h 181 a i=JJ 4 h a i:=F7 (BC:Tryz.prog.underlying 181=some (.slice 185)) rp
theorem Of:(∀m k xs,KI jA 181 (.sl m k xs)=some (.int .i64 xs.length))/\∀b off len,KI jA 181 (.own b off len)=some (.int .i64 len):=OD (BC:Tryz.prog.underlying 181=some (.slice 185))
theorem Ak:Tryz.prog.underlying 181=some (.slice 185):=BC
theorem An:U5 jA 185=some 4:=BC
theorem Ci:L8 jA 185=some 48:=BC
theorem nT:(∀b i j,BM jA 185 (.ptr b i j) 0=some (.ptr b i (j+0)))/\(∀k xs i j,BM jA 185 (.fptr k xs i j) 0=some (.fptr k xs i (j+0))):=GM (BC:JQ jA 185 0 0=true)
theorem HK:(∀b i j,BM jA 185 (.ptr b i j) 1=some (.ptr b i (j+3)))/\(∀k xs i j,BM jA 185 (.fptr k xs i j) 1=some (.fptr k xs i (j+3))):=GM (BC:JQ jA 185 1 3=true)
theorem HJ:(∀b i j,BM jA 209 (.ptr b i j) 0=some (.ptr b i (j+0)))/\(∀k xs i j,BM jA 209 (.fptr k xs i j) 0=some (.fptr k xs i (j+0))):=GM (BC:JQ jA 209 0 0=true)
theorem za:(∀b i j,BM jA 209 (.ptr b i j) 1=some (.ptr b i (j+1)))/\(∀k xs i j,BM jA 209 (.fptr k xs i j) 1=some (.fptr k xs i (j+1))):=GM (BC:JQ jA 209 1 1=true)
theorem Ol:∀h a i,FC jA h 212 a i=JJ 1 h a i:=F7 (BC:Tryz.prog.underlying 212=some (.slice 150)) No
theorem Oe:(∀m k xs,KI jA 212 (.sl m k xs)=some (.int .i64 xs.length))/\∀b off len,KI jA 212 (.own b off len)=some (.int .i64 len):=OD (BC:Tryz.prog.underlying 212=some (.slice 150))
theorem Az:∀h a i,FC jA h 221 a i=JJ 1 h a i:=F7 (BC:Tryz.prog.underlying 221=some (.slice 4)) xl
theorem Nn:Tryz.prog.underlying 221=some (.slice 4):=BC
theorem Pm:L8 jA 4=some 1:=BC
theorem HI:(∀b i j,BM jA 233 (.ptr b i j) 0=some (.ptr b i (j+0)))/\(∀k xs i j,BM jA 233 (.fptr k xs i j) 0=some (.fptr k xs i (j+0))):=GM (BC:JQ jA 233 0 0=true)
theorem HH:(∀b i j,BM jA 235 (.ptr b i j) 0=some (.ptr b i (j+0)))/\(∀k xs i j,BM jA 235 (.fptr k xs i j) 0=some (.fptr k xs i (j+0))):=GM (BC:JQ jA 235 0 0=true)
theorem HG:(∀b i j,BM jA 235 (.ptr b i j) 1=some (.ptr b i (j+1)))/\(∀k xs i j,BM jA 235 (.fptr k xs i j) 1=some (.fptr k xs i (j+1))):=GM (BC:JQ jA 235 1 1=true)
theorem gK:(∀b i j,BM jA 240 (.ptr b i j) 0=some (.ptr b i (j+0)))/\(∀k xs i j,BM jA 240 (.fptr k xs i j) 0=some (.fptr k xs i (j+0))):=GM (BC:JQ jA 240 0 0=true)
theorem nS:(∀b i j,BM jA 240 (.ptr b i j) 1=some (.ptr b i (j+1)))/\(∀k xs i j,BM jA 240 (.fptr k xs i j) 1=some (.fptr k xs i (j+1))):=GM (BC:JQ jA 240 1 1=true)
theorem bY:(∀b i j,BM jA 240 (.ptr b i j) 2=some (.ptr b i (j+2)))/\(∀k xs i j,BM jA 240 (.fptr k xs i j) 2=some (.fptr k xs i (j+2))):=GM (BC:JQ jA 240 2 2=true)
theorem y_:(∀b i j,BM jA 249 (.ptr b i j) 0=some (.ptr b i (j+0)))/\(∀k xs i j,BM jA 249 (.fptr k xs i j) 0=some (.fptr k xs i (j+0))):=GM (BC:JQ jA 249 0 0=true)
theorem AZO:(∀b i j,BM jA 249 (.ptr b i j) 1=some (.ptr b i (j+5)))/\(∀k xs i j,BM jA 249 (.fptr k xs i j) 1=some (.fptr k xs i (j+5))):=GM (BC:JQ jA 249 1 5=true)
theorem YX:(∀b i j,BM jA 249 (.ptr b i j) 2=some (.ptr b i (j+6)))/\(∀k xs i j,BM jA 249 (.fptr k xs i j) 2=some (.fptr k xs i (j+6))):=GM (BC:JQ jA 249 2 6=true)
theorem nR:(∀b i j,BM jA 249 (.ptr b i j) 3=some (.ptr b i (j+7)))/\(∀k xs i j,BM jA 249 (.fptr k xs i j) 3=some (.fptr k xs i (j+7))):=GM (BC:JQ jA 249 3 7=true)
theorem AZN:(∀b i j,BM jA 249 (.ptr b i j) 4=some (.ptr b i (j+8)))/\(∀k xs i j,BM jA 249 (.fptr k xs i j) 4=some (.fptr k xs i (j+8))):=GM (BC:JQ jA 249 4 8=true)
theorem HF:(∀b i j,BM jA 263 (.ptr b i j) 0=some (.ptr b i (j+0)))/\(∀k xs i j,BM jA 263 (.fptr k xs i j) 0=some (.fptr k xs i (j+0))):=GM (BC:JQ jA 263 0 0=true)
theorem yt:(∀b i j,BM jA 263 (.ptr b i j) 1=some (.ptr b i (j+1)))/\(∀k xs i j,BM jA 263 (.fptr k xs i j) 1=some (.fptr k xs i (j+1))):=GM (BC:JQ jA 263 1 1=true)
theorem gJ:(∀b i j,BM jA 263 (.ptr b i j) 2=some (.ptr b i (j+2)))/\(∀k xs i j,BM jA 263 (.fptr k xs i j) 2=some (.fptr k xs i (j+2))):=GM (BC:JQ jA 263 2 2=true)
theorem HE:(∀b i j,BM jA 263 (.ptr b i j) 3=some (.ptr b i (j+3)))/\(∀k xs i j,BM jA 263 (.fptr k xs i j) 3=some (.fptr k xs i (j+3))):=GM (BC:JQ jA 263 3 3=true)
theorem yr:(∀b i j,BM jA 263 (.ptr b i j) 4=some (.ptr b i (j+4)))/\(∀k xs i j,BM jA 263 (.fptr k xs i j) 4=some (.fptr k xs i (j+4))):=GM (BC:JQ jA 263 4 4=true)
theorem AZM:(∀b i j,BM jA 277 (.ptr b i j) 0=some (.ptr b i (j+0)))/\(∀k xs i j,BM jA 277 (.fptr k xs i j) 0=some (.fptr k xs i (j+0))):=GM (BC:JQ jA 277 0 0=true)
theorem AF:∀n,ZH jA 3 5 (.int .i64 n)=some (.int .u8 (IntKind.u8.wrap n)):=fun n=>gX (ds:=.int .i64) jA .i64 n BC BC
theorem AZY:∀n,ZH jA 3 348 (.int .i64 n)=some (.int .u16 (IntKind.u16.wrap n)):=fun n=>gX (ds:=.int .i64) jA .i64 n BC BC
theorem AE:∀n,ZH jA 5 3 (.int .u8 n)=some (.int .i64 (IntKind.i64.wrap n)):=fun n=>gX (ds:=.int .u8) jA .u8 n BC BC
theorem AZZ:∀n,ZH jA 348 3 (.int .u16 n)=some (.int .i64 (IntKind.i64.wrap n)):=fun n=>gX (ds:=.int .u16) jA .u16 n BC BC
noncomputable def En (G:Nat->AV):Env:=⟨jA,G,none,fun _ _=>False⟩
theorem b_:(En G).P=jA:=rfl
theorem mh:(En G).nox=En G:=rfl
theorem J':(En G).G=G:=rfl
theorem ji:(En G).P.follows .mixedOrders=true:=BC
abbrev AV.n (z:Int):AV:=.int .i64 z
theorem el:type_of% (cj @AX (cj @jD.{0} (cj @BH (cj @BF (cj @jE (cj @BV (cj @BX (cj @BI (cj @BD (cj @BU (cj @BN (cj @CQ (cj @BO (cj @AA (cj @b_ (cj @CB (cj @BZ (cj @CX (cj @CV (cj @DF (cj @DW (cj @BP (cj @DJ (cj @FD (cj @EP (cj @MO (cj @ED (cj @CJ (cj @jM.{0,0} (cj @jJ.{0,0} (cj @jL.{0} (cj @EI (cj @BG (cj @EE (cj @D8 (cj @EU (cj @D5 (cj @CG (cj @MJ (cj @FQ (cj @jG (cj @CS (cj @GZ (cj @ET (cj @F9 (cj @LV (cj @AC (cj @J4 (cj @GU (cj @G5 (cj @FO (cj @LC (cj @tH (cj @GH (cj @RY (cj @VY (cj @jR (cj @dT (cj @KX (cj @lO (cj @J6 (cj @EC (cj @jQ.{0} (cj @D6 (cj @mh (cj @CY (cj @I4 (cj @EO (cj @ER (cj @JP (cj @V8 (cj @u5 (cj @FM (cj @D9 (cj @IR (cj @zK (cj @iF (cj @IJ (cj @WX (cj @FU (cj @iE (cj @G6 (cj @EX (cj @qL (cj @XE (cj @FI (cj @EZ (cj @KF (cj @ES (cj @zZ (cj @SX (cj @J8 (cj @C' (cj @DT (cj @JU (cj @UF (cj @OV (cj @NR (cj @DK (cj @IC (cj @wL.{0} (cj @VD (cj @wR.{0} (cj @sE (cj @JO (cj @wu (cj @iD (cj @YU (cj @OA (cj @JA (cj @KW (cj @KU (cj @KE (cj @J5 (cj @L9 (cj @RD (cj @kX (cj @JX (cj @JW (cj @UY (cj @MN (cj @mz (cj @kH (cj @P5 (cj @aE (cj @LQ (cj @V6 (cj @zX.{0} (cj @cI (cj @IB (cj @fQ (cj @X9 (cj @QJ (cj @kI (cj @PU (cj @pg (cj @O8 (cj @aF (cj @SY (cj @UG (cj @JK (cj @cM (cj @IT (cj @qx (cj @ZJ (cj @UZ (cj @Db (cj @WJ (cj @V5 (cj @U6 (cj @sQ (cj @vf (cj @ZI (cj @XB (cj @qn (cj @QN (cj @XG (cj @VU (cj @C_ (cj @UX (cj @QP (cj @rX (cj @Y6 (cj @YY (cj @A3 (cj @WL (cj @QQ (cj @V7 (cj @zx (cj @rY (cj @YV (cj @xQ (cj @Gv (cj @u6 (cj @uo (cj @YW (cj @gK (cj @zb (cj @B_ (cj @qd (cj @eF (cj @te (cj @ph (cj @WG (cj @so (cj @zy (cj @Kd (cj @nS (cj @uQ (cj @X7 (cj @eG (cj @z6 (cj @X8 (cj @nz (cj @cZ (cj @ue (cj @Da (cj @bZ (cj @nU (@jI.{0,0})))))))))))))))))))))))))))))))))))))))))))))))))))))))))))))))))))))))))))))))))))))))))))))))))))))))))))))))))))))))))))))))))))))))))))))))))))))))))))))))))))))))))))))))))))))))))))))))))))))))):=And.intro @AX (cj @jD.{0} (cj @BH (cj @BF (cj @jE (cj @BV (cj @BX (cj @BI (cj @BD (cj @BU (cj @BN (cj @CQ (cj @BO (cj @AA (cj @b_ (cj @CB (cj @BZ (cj @CX (cj @CV (cj @DF (cj @DW (cj @BP (cj @DJ (cj @FD (cj @EP (cj @MO (cj @ED (cj @CJ (cj @jM.{0,0} (cj @jJ.{0,0} (cj @jL.{0} (cj @EI (cj @BG (cj @EE (cj @D8 (cj @EU (cj @D5 (cj @CG (cj @MJ (cj @FQ (cj @jG (cj @CS (cj @GZ (cj @ET (cj @F9 (cj @LV (cj @AC (cj @J4 (cj @GU (cj @G5 (cj @FO (cj @LC (cj @tH (cj @GH (cj @RY (cj @VY (cj @jR (cj @dT (cj @KX (cj @lO (cj @J6 (cj @EC (cj @jQ.{0} (cj @D6 (cj @mh (cj @CY (cj @I4 (cj @EO (cj @ER (cj @JP (cj @V8 (cj @u5 (cj @FM (cj @D9 (cj @IR (cj @zK (cj @iF (cj @IJ (cj @WX (cj @FU (cj @iE (cj @G6 (cj @EX (cj @qL (cj @XE (cj @FI (cj @EZ (cj @KF (cj @ES (cj @zZ (cj @SX (cj @J8 (cj @C' (cj @DT (cj @JU (cj @UF (cj @OV (cj @NR (cj @DK (cj @IC (cj @wL.{0} (cj @VD (cj @wR.{0} (cj @sE (cj @JO (cj @wu (cj @iD (cj @YU (cj @OA (cj @JA (cj @KW (cj @KU (cj @KE (cj @J5 (cj @L9 (cj @RD (cj @kX (cj @JX (cj @JW (cj @UY (cj @MN (cj @mz (cj @kH (cj @P5 (cj @aE (cj @LQ (cj @V6 (cj @zX.{0} (cj @cI (cj @IB (cj @fQ (cj @X9 (cj @QJ (cj @kI (cj @PU (cj @pg (cj @O8 (cj @aF (cj @SY (cj @UG (cj @JK (cj @cM (cj @IT (cj @qx (cj @ZJ (cj @UZ (cj @Db (cj @WJ (cj @V5 (cj @U6 (cj @sQ (cj @vf (cj @ZI (cj @XB (cj @qn (cj @QN (cj @XG (cj @VU (cj @C_ (cj @UX (cj @QP (cj @rX (cj @Y6 (cj @YY (cj @A3 (cj @WL (cj @QQ (cj @V7 (cj @zx (cj @rY (cj @YV (cj @xQ (cj @Gv (cj @u6 (cj @uo (cj @YW (cj @gK (cj @zb (cj @B_ (cj @qd (cj @eF (cj @te (cj @ph (cj @WG (cj @so (cj @zy (cj @Kd (cj @nS (cj @uQ (cj @X7 (cj @eG (cj @z6 (cj @X8 (cj @nz (cj @cZ (cj @ue (cj @Da (cj @bZ (cj @nU (@jI.{0,0})))))))))))))))))))))))))))))))))))))))))))))))))))))))))))))))))))))))))))))))))))))))))))))))))))))))))))))))))))))))))))))))))))))))))))))))))))))))))))))))))))))))))))))))))))))))))))))))))))))))
theorem JN {args:List AV}{R:AV->Hp->Prop}(hf:E.P.funcs[f]?=some fn)(hb:fn.body=some c)(hw:dh E Hint.none c (P7 args) h (MW E.P fn.results.toList R))(h0:E.P.follows .mixedOrders=true:=by kernel_rfl)(h1:(fn.name == "runtime.NumGoroutine")=false:=by kernel_rfl)(h2:UO fn.ntmps c=true:=by kernel_rfl)(h3:Nat.ble args.length fn.ntmps=true:=by kernel_rfl):ACalls E f args h R:=II h0 hf hb h1 h2 (Nat.le_of_ble_eq_true h3) hw
theorem cn {args:List AV}{R:AV->Hp->Prop}(hf:E.P.funcs[f]?=some fn)(r:Nat)(hw:dh E Hint.none c (P7 args) h (MW E.P [.tmp r] R))(hb:fn.body=some c:=by rfl)(hr:fn.results.toList=[.tmp r]:=by rfl)(h0:E.P.follows .mixedOrders=true:=by kernel_rfl)(h1:(fn.name == "runtime.NumGoroutine")=false:=by kernel_rfl)(h2:UO fn.ntmps c=true:=by kernel_rfl)(h3:Nat.ble args.length fn.ntmps=true:=by kernel_rfl):ACalls E f args h R:=JN hf hb (by rw[hr]; exact hw) h0 h1 h2 h3
theorem e7 {args:List AV}{R:AV->Hp->Prop}(hf:E.P.funcs[f]?=some fn)(r:List ResultVar)(hw:dh E Hint.none c (P7 args) h (MW E.P r R))(hb:fn.body=some c:=by rfl)(hr:fn.results.toList=r:=by rfl)(h0:E.P.follows .mixedOrders=true:=by kernel_rfl)(h1:(fn.name == "runtime.NumGoroutine")=false:=by kernel_rfl)(h2:UO fn.ntmps c=true:=by kernel_rfl)(h3:Nat.ble args.length fn.ntmps=true:=by kernel_rfl):ACalls E f args h R:=JN hf hb (by rw[hr]; exact hw) h0 h1 h2 h3
end Sm
section
open Sm
variable {a b c d p q:Prop}
theorem CZ (i:Nat)(h:i<9223372036854775807:=by omega):Go.IntKind.i64.wrap ((i:Int)+1)=((i+1:Nat):Int):=Sm.wrap_succ h
theorem AB (hp:p)(h:p->q:=by intro z;simp only[Sm.el,CP,EM,List.contains_nil,GV,List.contains_cons,List.cons_append,Option.map_some,Option.map_none,Bool.or_true,Bool.true_or,↓reduceIte,Nat.reduceEqDiff,Nat.reduceBEq,Nat.reduceAdd];exact z):q:=h hp
theorem AL (h:q:=by simp only[Sm.el,CP,EM,List.contains_nil,GV,List.contains_cons,List.cons_append,Option.map_some,Option.map_none,Bool.or_true,Bool.true_or,↓reduceIte,Nat.reduceEqDiff,Nat.reduceBEq,Nat.reduceAdd]<;>rfl):q:=h
theorem A7 (y:a)(hp:p)(h:a->p->q:=by intro y z;simp only[Sm.el,CP,EM,List.contains_nil,GV,List.contains_cons,List.cons_append,Option.map_some,Option.map_none,Bool.or_true,Bool.true_or,↓reduceIte,Nat.reduceEqDiff,Nat.reduceBEq,Nat.reduceAdd,y];exact z):q:=h y hp
theorem DY (y:a)(h:a->q:=by intro y;simp only[Sm.el,CP,EM,List.contains_nil,GV,List.contains_cons,List.cons_append,Option.map_some,Option.map_none,Bool.or_true,Bool.true_or,↓reduceIte,Nat.reduceEqDiff,Nat.reduceBEq,Nat.reduceAdd,y]<;>rfl):q:=h y
theorem AZ (y:a)(x:b)(hp:p)(h:a->b->p->q:=by intro y x z;simp only[Sm.el,CP,EM,List.contains_nil,GV,List.contains_cons,List.cons_append,Option.map_some,Option.map_none,Bool.or_true,Bool.true_or,↓reduceIte,Nat.reduceEqDiff,Nat.reduceBEq,Nat.reduceAdd,y,x];exact z):q:=h y x hp
theorem Py (y:a)(x:b)(h:a->b->q:=by intro y x;simp only[Sm.el,CP,EM,List.contains_nil,GV,List.contains_cons,List.cons_append,Option.map_some,Option.map_none,Bool.or_true,Bool.true_or,↓reduceIte,Nat.reduceEqDiff,Nat.reduceBEq,Nat.reduceAdd,y,x]<;>rfl):q:=h y x
theorem DC (y:a)(x:b)(w:c)(hp:p)(h:a->b->c->p->q:=by intro y x w z;simp only[Sm.el,CP,EM,List.contains_nil,GV,List.contains_cons,List.cons_append,Option.map_some,Option.map_none,Bool.or_true,Bool.true_or,↓reduceIte,Nat.reduceEqDiff,Nat.reduceBEq,Nat.reduceAdd,y,x,w];exact z):q:=h y x w hp
theorem EH (y:a)(x:b)(w:c)(v:d)(hp:p)(h:a->b->c->d->p->q:=by intro y x w v z;simp only[Sm.el,CP,EM,List.contains_nil,GV,List.contains_cons,List.cons_append,Option.map_some,Option.map_none,Bool.or_true,Bool.true_or,↓reduceIte,Nat.reduceEqDiff,Nat.reduceBEq,Nat.reduceAdd,y,x,w,v];exact z):q:=h y x w v hp
theorem G7 {e:Prop}(y:a)(x:b)(w:c)(v:d)(u:e)(hp:p)(h:a->b->c->d->e->p->q:=by intro y x w v u z;simp only[Sm.el,CP,EM,List.contains_nil,GV,List.contains_cons,List.cons_append,Option.map_some,Option.map_none,Bool.or_true,Bool.true_or,↓reduceIte,Nat.reduceEqDiff,Nat.reduceBEq,Nat.reduceAdd,y,x,w,v,u];exact z):q:=h y x w v u hp
theorem LP {e f:Prop}(y:a)(x:b)(w:c)(v:d)(u:e)(t:f)(hp:p)(h:a->b->c->d->e->f->p->q:=by intro y x w v u t z;simp only[Sm.el,CP,EM,List.contains_nil,GV,List.contains_cons,List.cons_append,Option.map_some,Option.map_none,Bool.or_true,Bool.true_or,↓reduceIte,Nat.reduceEqDiff,Nat.reduceBEq,Nat.reduceAdd,y,x,w,v,u,t];exact z):q:=h y x w v u t hp
theorem Sm.ext.r1 (h:Hp)(x:bO):Sm.ext h (h++[x]):=(ext.rfl' h).app _
theorem Sm.a_.uu {E:Env}{f:FuncId}{args:List AV}{h:Hp}{r:AV}{K:AV->Hp->Prop}(hc:a_ E f args h r)(hp:p)(hk:p->K r h:=by intro z;simp only[Sm.el,CP,EM,List.contains_nil,GV,List.contains_cons,List.cons_append,Option.map_some,Option.map_none,Bool.or_true,Bool.true_or,↓reduceIte,Nat.reduceEqDiff,Nat.reduceBEq,Nat.reduceAdd];exact z):ACalls E f args h K:=hc.use (hk hp)
end
section
open Sm
variable {a a1 b b1 c c1 d e f p q:Prop}
theorem QA (hp:p)(h:p->q:=by intro z;simp only[Sm.el,CP,EM,List.contains_nil,GV,List.contains_cons,List.cons_append,Option.map_some,Option.map_none,Bool.or_true,Bool.true_or,CE,BK,EN,ct,eo,PS,TP,Y7,MQ,List.length_nil,↓reduceIte,Nat.reduceEqDiff,Nat.reduceBEq,Nat.reduceAdd,Int.reduceBEq];exact z):q:=h hp
theorem U4 (y:a)(hp:p)(h:a->p->q:=by intro y z;simp only[Sm.el,CP,EM,List.contains_nil,GV,List.contains_cons,List.cons_append,Option.map_some,Option.map_none,Bool.or_true,Bool.true_or,CE,BK,EN,ct,eo,PS,TP,Y7,MQ,List.length_nil,↓reduceIte,Nat.reduceEqDiff,Nat.reduceBEq,Nat.reduceAdd,Int.reduceBEq,y];exact z):q:=h y hp
theorem LM (y:a)(x:b)(hp:p)(h:a->b->p->q:=by intro y x z;simp only[Sm.el,CP,EM,List.contains_nil,GV,List.contains_cons,List.cons_append,Option.map_some,Option.map_none,Bool.or_true,Bool.true_or,CE,BK,EN,ct,eo,PS,TP,Y7,MQ,List.length_nil,↓reduceIte,Nat.reduceEqDiff,Nat.reduceBEq,Nat.reduceAdd,Int.reduceBEq,y,x];exact z):q:=h y x hp
theorem MF (y:a)(x:b)(w:c)(hp:p)(h:a->b->c->p->q:=by intro y x w z;simp only[Sm.el,CP,EM,List.contains_nil,GV,List.contains_cons,List.cons_append,Option.map_some,Option.map_none,Bool.or_true,Bool.true_or,CE,BK,EN,ct,eo,PS,TP,Y7,MQ,List.length_nil,↓reduceIte,Nat.reduceEqDiff,Nat.reduceBEq,Nat.reduceAdd,Int.reduceBEq,y,x,w];exact z):q:=h y x w hp
theorem N8 (y:a)(x:b)(w:c)(v:d)(hp:p)(h:a->b->c->d->p->q:=by intro y x w v z;simp only[Sm.el,CP,EM,List.contains_nil,GV,List.contains_cons,List.cons_append,Option.map_some,Option.map_none,Bool.or_true,Bool.true_or,CE,BK,EN,ct,eo,PS,TP,Y7,MQ,List.length_nil,↓reduceIte,Nat.reduceEqDiff,Nat.reduceBEq,Nat.reduceAdd,Int.reduceBEq,y,x,w,v];exact z):q:=h y x w v hp
theorem aZ (y:a)(x:b)(w:c)(v:d)(u:e)(hp:p)(h:a->b->c->d->e->p->q:=by intro y x w v u z;simp only[Sm.el,CP,EM,List.contains_nil,GV,List.contains_cons,List.cons_append,Option.map_some,Option.map_none,Bool.or_true,Bool.true_or,CE,BK,EN,ct,eo,PS,TP,Y7,MQ,List.length_nil,↓reduceIte,Nat.reduceEqDiff,Nat.reduceBEq,Nat.reduceAdd,Int.reduceBEq,y,x,w,v,u];exact z):q:=h y x w v u hp
theorem WU (y:a)(x:b)(w:c)(v:d)(u:e)(t:f)(hp:p)(h:a->b->c->d->e->f->p->q:=by intro y x w v u t z;simp only[Sm.el,CP,EM,List.contains_nil,GV,List.contains_cons,List.cons_append,Option.map_some,Option.map_none,Bool.or_true,Bool.true_or,CE,BK,EN,ct,eo,PS,TP,Y7,MQ,List.length_nil,↓reduceIte,Nat.reduceEqDiff,Nat.reduceBEq,Nat.reduceAdd,Int.reduceBEq,y,x,w,v,u,t];exact z):q:=h y x w v u t hp
theorem LJ (y:a)(x:b)(w:c)(v:d)(u:e)(t:f)(s:a1)(hp:p)(h:a->b->c->d->e->f->a1->p->q:=by intro y x w v u t s z;simp only[Sm.el,CP,EM,List.contains_nil,GV,List.contains_cons,List.cons_append,Option.map_some,Option.map_none,Bool.or_true,Bool.true_or,CE,BK,EN,ct,eo,PS,TP,Y7,MQ,List.length_nil,↓reduceIte,Nat.reduceEqDiff,Nat.reduceBEq,Nat.reduceAdd,Int.reduceBEq,y,x,w,v,u,t,s];exact z):q:=h y x w v u t s hp
theorem N7 (y:a)(x:b)(w:c)(v:d)(u:e)(t:f)(s:a1)(r:b1)(hp:p)(h:a->b->c->d->e->f->a1->b1->p->q:=by intro y x w v u t s r z;simp only[Sm.el,CP,EM,List.contains_nil,GV,List.contains_cons,List.cons_append,Option.map_some,Option.map_none,Bool.or_true,Bool.true_or,CE,BK,EN,ct,eo,PS,TP,Y7,MQ,List.length_nil,↓reduceIte,Nat.reduceEqDiff,Nat.reduceBEq,Nat.reduceAdd,Int.reduceBEq,y,x,w,v,u,t,s,r];exact z):q:=h y x w v u t s r hp
theorem U3 (y:a)(x:b)(w:c)(v:d)(u:e)(t:f)(s:a1)(r:b1)(o:c1)(hp:p)(h:a->b->c->d->e->f->a1->b1->c1->p->q:=by intro y x w v u t s r o z;simp only[Sm.el,CP,EM,List.contains_nil,GV,List.contains_cons,List.cons_append,Option.map_some,Option.map_none,Bool.or_true,Bool.true_or,CE,BK,EN,ct,eo,PS,TP,Y7,MQ,List.length_nil,↓reduceIte,Nat.reduceEqDiff,Nat.reduceBEq,Nat.reduceAdd,Int.reduceBEq,y,x,w,v,u,t,s,r,o];exact z):q:=h y x w v u t s r o hp
theorem Y9 {d1:Prop}(y:a)(x:b)(w:c)(v:d)(u:e)(t:f)(s:a1)(r:b1)(o:c1)(n:d1)(hp:p)(h:a->b->c->d->e->f->a1->b1->c1->d1->p->q:=by intro y x w v u t s r o n z;simp only[Sm.el,CP,EM,List.contains_nil,GV,List.contains_cons,List.cons_append,Option.map_some,Option.map_none,Bool.or_true,Bool.true_or,CE,BK,EN,ct,eo,PS,TP,Y7,MQ,List.length_nil,↓reduceIte,Nat.reduceEqDiff,Nat.reduceBEq,Nat.reduceAdd,Int.reduceBEq,y,x,w,v,u,t,s,r,o,n];exact z):q:=h y x w v u t s r o n hp
theorem V3 {d1 e1:Prop}(y:a)(x:b)(w:c)(v:d)(u:e)(t:f)(s:a1)(r:b1)(o:c1)(n:d1)(m:e1)(hp:p)(h:a->b->c->d->e->f->a1->b1->c1->d1->e1->p->q:=by intro y x w v u t s r o n m z;simp only[Sm.el,CP,EM,List.contains_nil,GV,List.contains_cons,List.cons_append,Option.map_some,Option.map_none,Bool.or_true,Bool.true_or,CE,BK,EN,ct,eo,PS,TP,Y7,MQ,List.length_nil,↓reduceIte,Nat.reduceEqDiff,Nat.reduceBEq,Nat.reduceAdd,Int.reduceBEq,y,x,w,v,u,t,s,r,o,n,m];exact z):q:=h y x w v u t s r o n m hp
theorem FB (h:q:=by first|(simp only[Sm.el,CP,EM,List.contains_nil,GV,List.contains_cons,List.cons_append,Option.map_some,Option.map_none,Bool.or_true,Bool.true_or,CE,BK,EN,ct,eo,PS,TP,Y7,MQ,List.length_nil,↓reduceIte,Nat.reduceEqDiff,Nat.reduceBEq,Nat.reduceAdd,Int.reduceBEq];done)|(simp only[Sm.el,CP,EM,List.contains_nil,GV,List.contains_cons,List.cons_append,Option.map_some,Option.map_none,Bool.or_true,Bool.true_or,CE,BK,EN,ct,eo,PS,TP,Y7,MQ,List.length_nil,↓reduceIte,Nat.reduceEqDiff,Nat.reduceBEq,Nat.reduceAdd,Int.reduceBEq];rfl)):q:=h
theorem UT (y:a)(h:a->q:=by intro y;first|(simp only[Sm.el,CP,EM,List.contains_nil,GV,List.contains_cons,List.cons_append,Option.map_some,Option.map_none,Bool.or_true,Bool.true_or,CE,BK,EN,ct,eo,PS,TP,Y7,MQ,List.length_nil,↓reduceIte,Nat.reduceEqDiff,Nat.reduceBEq,Nat.reduceAdd,Int.reduceBEq,y];done)|(simp only[Sm.el,CP,EM,List.contains_nil,GV,List.contains_cons,List.cons_append,Option.map_some,Option.map_none,Bool.or_true,Bool.true_or,CE,BK,EN,ct,eo,PS,TP,Y7,MQ,List.length_nil,↓reduceIte,Nat.reduceEqDiff,Nat.reduceBEq,Nat.reduceAdd,Int.reduceBEq,y];rfl)):q:=h y
theorem DV {E:Env}{H:Hint}{x y:Code}{F:Fr}{h:Hp}{Q:e8->Fr->Hp->Prop}{a b:Nat}(g:a<b->dh E H x F h Q)(h2:¬a<b->dh E H y F h Q):mE E H x y F h Q (.bool (decide (((a:Nat):Int)<((b:Nat):Int)))):=BL (fun h=>g (by simpa using h)) (fun h=>h2 (by simpa using h))
end
namespace Bins
open Sm
structure cp where
 lo:Int
 hi:Int
 deriving DecidableEq
def encR (r:cp):List AV:=[.n r.lo,.n r.hi]
theorem gM (r:cp):(encR r).length=2:=rfl
theorem VV (r:cp):(encR r)[0]?=some (.n r.lo):=rfl
theorem UL (r:cp):(encR r)[1]?=some (.n r.hi):=rfl
def inside (xs:List cp)(v:Int):Bool:=xs.any fun r=>decide (r.lo<=v)&&decide (v<=r.hi)
theorem NH {α:Type}(p:α->Bool)(xs:List α)(k:Nat)(h:k<xs.length):(xs.drop k).any p=(p xs[k]||(xs.drop (k+1)).any p):=by
 rw[List.drop_eq_getElem_cons h,List.any_cons]
theorem bxR (h:Hp)(r:cp):OU h (.agg (encR r))=some (.ptr h.length 0 0,h++[qH 2 [encR r]]):=rfl
end Bins
namespace Bins
open Sm
variable {xs:List cp} {s:ByteArray} (G:Nat->AV )
def bad (r:cp):Bool:=decide (r.lo<0)||decide (r.lo>r.hi)||decide (r.hi>65535)
def JS (xs:List cp):Int:=if xs.length>64 then 2 else if xs.any bad then 1 else 0
theorem lQ (h:xs.length>64):JS xs=2:=by simp [JS,h]
theorem Z5 (h:¬xs.length>64)(a:xs.any bad=true):JS xs=1:=by simp [JS,h,a]
theorem dX (h:¬xs.length>64)(a:xs.any bad=false):JS xs=0:=by simp [JS,h,a]
theorem pj (h:Hp):H9 jA h 145=some (.ptr h.length 0 0,h++[qH 2 [[.n 0,.n 0]]]):=FZ (row:=[.n 0,.n 0]) BC
theorem pc (h:Hp)(r:cp)(row:List AV)(a:row.length=2):D7 jA (h++[qH 2 [row]]) 145 (.ptr h.length 0 0) (.agg (encR r))=some (h++[qH 2 [encR r]]):=by
 rw[VH (cs:=encR r) rfl KO (by simp [a,encR])];simp [splice,a,encR]
theorem Ti (xs:List cp)(m:SM)(h:Hp)(p:xs.length<=1099511627776):
  a_ (En G) 242 [.sl m 2 (xs.map encR)] h (.n (JS xs)):=by
 refine ACalls.pure0 rfl ?_;refine cn Tryz.func242 2 ?_;refine AB ?_;refine BL ?_ ?_<;>intro e
 .refine AB ?_
  exact⟨by rw[lQ (by simp at e;omega)],[],BA⟩
 refine AB ?_;have d:¬xs.length>64:=by simp at e;omega
 refine BB (fun n F H=>∃k,n+k=xs.length/\F 8=.sl m 2 (xs.map encR)/\F 9=.n xs.length/\F 10=.n (k:Nat)/\(∃x,H=h++x)/\xs.any bad=(xs.drop k).any bad) xs.length ⟨0,BA,rfl,rfl,rfl,⟨[],BA⟩,rfl⟩ ?_;rintro n F H ⟨k,hk,g,i,f10,⟨x,rfl⟩,a⟩;refine DC g i f10 ?_;refine DV ?_ ?_<;>intro c
 .have l:=NH bad xs k c
  simp only[vQ,EM,CP,↓reduceIte,jC,b_,V5,QQ,Option.getD_none,g,i,f10,CE c,DL aX KO gM c,pj,pc _ _ [.n 0,.n 0] rfl,EN ct,VV,UL];rw[l] at a;have fin:bad xs[k]=true->JS xs=1:=fun b=>Z5 d (by rw[a,b];rfl)
  have j:bad xs[k]=false->xs.any bad=(xs.drop (k+1)).any bad:=fun b=>by rw[a,b];rfl
  refine I8 ?_ ?_<;>intro f
  .refine A7 f ?_
   exact⟨by rw[fin (by unfold bad;rw[f];rfl)],_,by rw[zA]⟩
  refine MF f @VV @UL ?_;refine I8 ?_ ?_<;>intro b
  .refine A7 b ?_
   exact⟨by rw[fin (by unfold bad;rw[b];simp)],_,by rw[zA]⟩
  refine MF b @VV @UL ?_;refine BL ?_ ?_<;>intro e
  .refine AB ?_
   exact⟨by rw[fin (by unfold bad;rw[e];simp)],_,by rw[zA]⟩
  .refine AZ f10 (CZ k) ?_
   exact⟨n-1,U,k+1,U,g,i,rfl,⟨_,by rw[zA]⟩,j (by unfold bad;rw[f,b,e];rfl)⟩
 .refine AB ?_
  rw[jS U] at a;exact⟨by rw[dX d a],_,rfl⟩
theorem Ve (xs:List cp)(m:SM)(h:Hp):
  a_ (En G) 267 [.sl m 2 (xs.map encR)] h (.n (JS xs)):=by
 refine cn Tryz.func267 2 ?_;refine AB ?_;refine BL ?_ ?_<;>intro g
 .refine AB ?_
  exact⟨by rw[lQ (by simp at g;omega)],trivial⟩
 refine AB ?_;have f:¬xs.length>64:=by simp at g;omega
 refine BB (fun n F H=>∃k,n+k=xs.length/\F 0=.sl m 2 (xs.map encR)/\F 3=.n (k:Nat)/\H=h/\xs.any bad=(xs.drop k).any bad) xs.length ⟨0,BA,rfl,rfl,rfl,rfl⟩ ?_;rintro n F H ⟨k,hk,d,e,rfl,b⟩;refine AZ d e ?_;refine DV ?_ ?_<;>intro a
 .rw[NH bad xs k a] at b
  have fin:bad xs[k]=true->JS xs=1:=fun c=>Z5 f (by rw[b,c];rfl)
  have j:bad xs[k]=false->xs.any bad=(xs.drop (k+1)).any bad:=fun c=>by rw[b,c];rfl
  refine AB ?_;refine DI BC ?_;simp only[vQ,JA,KW,EM,↓reduceIte,jC,jO,b_,V5,QQ,d,e,CE a,BK ct a,VV,UL];refine mL ?_ ?_<;>intro i
  .refine A7 i ?_
   exact⟨by rw[fin (by unfold bad;rw[i];rfl)],trivial⟩
  simp only[vQ,JA,KW,ZJ,RD,EM,↓reduceIte,jC,jO,b_,V5,QQ,QP,i,d,e,CE a,BK ct a,VV,UL];refine mL ?_ ?_<;>intro c
  .refine A7 c ?_
   exact⟨by rw[fin (by unfold bad;rw[c];simp)],trivial⟩
  simp only[vQ,JA,KW,ZJ,RD,EM,↓reduceIte,jC,jO,b_,V5,QP,c,d,e,CE a,BK ct a,VV,UL];refine BL ?_ ?_<;>intro g
  .refine AB ?_
   exact⟨by rw[fin (by unfold bad;rw[g];simp)],trivial⟩
  .refine AZ e (CZ k) ?_
   exact⟨n-1,U,k+1,U,d,rfl,trivial,j (by unfold bad;rw[i,c,g];rfl)⟩
 .refine AB ?_
  rw[jS U] at b;exact⟨by rw[dX f b],trivial⟩
structure Rs where
 m:SM
 l:List cp
def AD (r:Rs):AV:=.sl r.m 2 (r.l.map encR)
def encS (r:Rs):List AV:=[AD r]
structure Bin where
 name:ByteArray
 kind:Int
 ranges:Rs
 sm:SM
 steps:List Rs
def JD (b:Bin):List AV:=[.str b.name,.n b.kind,AD b.ranges,.sl b.sm 1 (b.steps.map encS)]
theorem vy (b:Bin):(JD b)[0]?=some (.str b.name):=rfl
theorem SV (b:Bin):(JD b)[1]?=some (.n b.kind):=rfl
theorem dF (b:Bin):(JD b)[2]?=some (.sl b.ranges.m 2 (b.ranges.l.map encR)):=rfl
theorem XU (b:Bin):(JD b)[3]?=some (.sl b.sm 1 (b.steps.map encS)):=rfl
theorem MP (b:Bin):(JD b).length=4:=rfl
theorem lX (r:Rs):(encS r)[0]?=some (.sl r.m 2 (r.l.map encR)):=rfl
theorem bxB (h:Hp)(b:Bin):OU h (.agg (JD b))=some (.ptr h.length 0 0,h++[qH 4 [JD b]]):=rfl
theorem xf (h:Hp)(b:Bin):BR jA (h++[qH 4 [JD b]]) 87 (.ptr h.length 0 0)=some (.agg (JD b)):=bS nD dK (by simp [JD])
def cU (b:Bin):SM:=if b.ranges.l.length>0 then .full else b.sm
def sets (b:Bin):List Rs:=if b.ranges.l.length>0 then [b.ranges] else b.steps
theorem Dd (h:Hp)(r:Rs):DR jA false h 85 1 [(0,.sl r.m 2 (r.l.map encR))]=some (.sl .full 1 ([r].map encS),h):=by
 have:(cW 1 0 [(0,AV.sl r.m 2 (r.l.map encR))])=some [[.sl r.m 2 (r.l.map encR)]]:=rfl;simp only[DR,Tryz.underlying85,CR,this];have a:U5 jA 84=some 1:=BC;simp [a,AV.frozen,encS,AD]
theorem Yd (b:Bin)(h:Hp):a_ (En G) 241 [.agg (JD b)] h (.sl (cU b) 1 ((sets b).map encS)):=by
 refine ACalls.pure0 rfl ?_;refine cn Tryz.func241 2 ?_;refine LM @bxB @dF ?_;refine BL ?_ ?_<;>intro c
 .have a:b.ranges.l.length>0:=BQ c
  refine LM @dF Dd ?_;exact⟨by rw[cU,sets,if_pos a,if_pos a];rfl,_,rfl⟩
 .have a:¬b.ranges.l.length>0:=BQ c
  refine U4 @XU ?_;exact⟨by rw[cU,sets,if_neg a,if_neg a],_,rfl⟩
theorem ASM (b:Bin)(h:Hp):a_ (En G) 266 [.agg (JD b)] h (.sl (cU b) 1 ((sets b).map encS)):=by
 refine ACalls.pure0 rfl ?_;refine cn Tryz.func266 2 ?_;refine LM @bxB @dF ?_;refine BL ?_ ?_<;>intro c
 .have a:b.ranges.l.length>0:=BQ c
  refine LM @dF Dd ?_;exact⟨by rw[cU,sets,if_pos a,if_pos a];rfl,_,rfl⟩
 .have a:¬b.ranges.l.length>0:=BQ c
  refine U4 @XU ?_;exact⟨by rw[cU,sets,if_neg a,if_neg a],_,rfl⟩
theorem M_ (m:SM)(k:Nat)(xs:List (List AV)):IZ jA 84 .eql (.sl m k xs) (.sl .nil 0 [])=some (.bool (decide (m=.nil))):=by cases m<;>kernel_rfl
def MA (k:Nat)(xs:List (List AV))(h:Hp)(v:AV)(a:Hp):Prop :=
 (xs=[]/\(∃b,v=.sl .nil b [])/\a=h)\/(xs=[]/\v=.sl .full k []/\a=h)\/(xs≠[]/\v=.own h.length 0 xs.length/\a=h++[qH k xs])
theorem Jr (h:Hp):DR jA false h 84 0 []=some (.sl .full 2 [],h):=BC
theorem Jq (h:Hp):DR jA false h 32 0 []=some (.sl .full 1 [],h):=BC
theorem pq (f:FuncId)(G:Nat->AV)(hf:(match Tryz.prog.funcs[f]? with|some fn=>fn.body.isSome && !(fn.name == "runtime.NumGoroutine")|none=>false)=true):eX (En G).P f:=by
 have he:(En G).P=jA:=rfl;unfold eX;rw[he]
 cases hx:Tryz.prog.funcs[f]? with
 | none=>rw[hx] at hf; cases hf
 | some fn =>
   rw[hx] at hf;simp at hf;exact⟨fn,rfl,by simpa using hf.1,by simpa using hf.2⟩
def bu (n:Int):List AV:=[.n n]
theorem AU4 (r:Rs)(h:Hp):a_ (En G) 291 [.sl r.m 2 (r.l.map encR)] h (.bool (decide (r.l.length=0))):=by
 refine cn Tryz.func291 2 ?_;refine AB ?_;refine⟨?_,trivial⟩;congr 1;rw[wJ];simp
theorem Tw (G:Nat->AV)(xs:List Rs)(m:SM)(d:FuncId)(a:List AV)(p:Rs->Bool)(h:Hp)(E:xs.length<=1099511627776)
  (B:∀r,a_ (En G) d (.sl r.m 2 (r.l.map encR)::a) h (.bool (p r))) :
  a_ (En G) 325 [.sl m 1 (xs.map encS),.fn (.func d) [] a] h (.n (match xs.findIdx? p with|some i=>(i:Int)|none => -1)):=by
 refine cn Tryz.func325 4 ?_;refine AB ?_;refine BB (fun n F H=>∃k,n+k=xs.length/\F 0=.sl m 1 (xs.map encS)/\F 1=.fn (.func d) [] a/\F 7=.n xs.length/\F 8=.n (k:Nat)/\H=h/\(xs.take k).all (fun r => !p r)=true) xs.length ⟨0,BA,rfl,rfl,rfl,rfl,rfl,rfl⟩ ?_;rintro n F H ⟨k,hk,e,f,g,q,rfl,b⟩;refine EH e f g q ?_;refine DV ?_ ?_<;>intro c
 .simp only[vQ,CP,List.nil_append,List.cons_append,↓reduceIte,jC,b_,uQ,e,f,g,q,CE c,BK TP c,lX]
  refine(B _).uu ?_;refine BL ?_ ?_<;>intro A
  .refine AB ?_
   refine⟨?_,trivial⟩
   rw[wV.2 ⟨c,A,fun j C=>by
    rw[zJ] at b;have:=b xs[j] (by rw[List.mem_take_iff_getElem];exact⟨j,U,rfl⟩)
    simpa using this⟩]
  .refine AZ q (CZ k) ?_
   refine⟨n-1,U,k+1,U,e,f,g,rfl,trivial,?_⟩;rw[jW c,List.all_append,b];simp only[wZ,List.all_nil,A];rfl
 .refine AB ?_
  refine⟨?_,trivial⟩;rw[jK U] at b;rw[yA.2 (BQ b)]
theorem tA (G:Nat->AV)(xs:List Rs)(m:SM)(b:FuncId)(a:List AV)(p:Rs->Bool)(h:Hp)(g:xs.length<=1099511627776)
  (f:∀r,a_ (En G) b (.sl r.m 2 (r.l.map encR)::a) h (.bool (p r))) :
  a_ (En G) 290 [.sl m 1 (xs.map encS),.fn (.func b) [] a] h (.bool (xs.any p)):=by
 refine cn Tryz.func290 4 ?_;refine AB ?_;refine(Tw G xs m b a p h g f).uu ?_;refine⟨?_,trivial⟩
 cases c:xs.findIdx? p with
 | some i =>
   obtain⟨j,e,_⟩:=wV.1 c;have:xs.any p=true:=qK.2 ⟨xs[i],BA,e⟩;simp [this]
 | none =>
   have:xs.any p=false:=by
    rw[yA] at c;rw[qP];intro x d;simp [c x d]
   simp [this]
def V4 (n:Int):Bool:=decide (n≥97)&&decide (n<=122)
def n_ (n:Int):Bool:=decide (n≥48)&&decide (n<=57)
def QM (n:Int):Bool:=V4 n||n_ n||(decide (n≥65)&&decide (n<=90))||n==95
theorem qD (n:Int)(h:Hp):a_ (En G) 217 [.int .i32 n] h (.bool (V4 n)):=by
 refine cn Tryz.func217 2 ?_;refine AB ?_;refine I8 ?_ ?_<;>intro a
 .refine A7 a ?_
  exact⟨by unfold V4;rw[a];rfl,trivial⟩
 .refine A7 a ?_
  exact⟨by unfold V4;rw[a];rfl,trivial⟩
theorem Wl (n:Int)(h:Hp):a_ (En G) 278 [.int .i32 n] h (.bool (n_ n)):=by
 refine cn Tryz.func278 2 ?_;refine AB ?_;refine I8 ?_ ?_<;>intro a
 .refine A7 a ?_
  exact⟨by unfold n_;rw[a];rfl,trivial⟩
 .refine A7 a ?_
  exact⟨by unfold n_;rw[a];rfl,trivial⟩
theorem vT (n:Int)(h:Hp):a_ (En G) 130 [.int .u8 n] h (.bool (V4 n)):=by
 refine cn Tryz.func130 2 ?_;refine AB ?_;refine I8 ?_ ?_<;>intro a
 .refine A7 a ?_
  exact⟨by unfold V4;rw[a];rfl,trivial⟩
 .refine A7 a ?_
  exact⟨by unfold V4;rw[a];rfl,trivial⟩
theorem iX (n:Int)(h:Hp):a_ (En G) 222 [.int .u8 n] h (.bool (n_ n)):=by
 refine cn Tryz.func222 2 ?_;refine AB ?_;refine I8 ?_ ?_<;>intro a
 .refine A7 a ?_
  exact⟨by unfold n_;rw[a];rfl,trivial⟩
 .refine A7 a ?_
  exact⟨by unfold n_;rw[a];rfl,trivial⟩
theorem gG (n:Int)(h:Hp):a_ (En G) 218 [.int .i32 n] h (.bool (QM n)):=by
 refine cn Tryz.func218 2 ?_;refine AB ?_;refine(qD G n h).uu ?_;refine I8 ?_ ?_<;>intro a
 .refine A7 a ?_
  exact⟨by unfold QM;rw[a];rfl,trivial⟩
 refine A7 a ?_;refine(Wl G n h).uu ?_;refine I8 ?_ ?_<;>intro b
 .refine A7 b ?_
  exact⟨by unfold QM;rw[a,b];rfl,trivial⟩
 refine A7 b ?_;refine I8 ?_ ?_<;>intro c
 .refine A7 c ?_
  refine I8 ?_ ?_<;>intro d
  .refine A7 d ?_
   exact⟨by unfold QM;rw[a,b,c,d];rfl,trivial⟩
  .refine A7 d ?_
   exact⟨by unfold QM;rw[a,b,c,d];rfl,trivial⟩
 .refine A7 c ?_
  exact⟨by unfold QM;rw[a,b,c];rfl,trivial⟩
theorem Yi (n:Int)(h:Hp):a_ (En G) 132 [.int .u8 n] h (.bool (QM n)):=by
 refine cn Tryz.func132 2 ?_;refine AB ?_;refine(vT G n h).uu ?_;refine I8 ?_ ?_<;>intro a
 .refine A7 a ?_
  exact⟨by unfold QM;rw[a];rfl,trivial⟩
 refine A7 a ?_;refine(iX G n h).uu ?_;refine I8 ?_ ?_<;>intro b
 .refine A7 b ?_
  exact⟨by unfold QM;rw[a,b];rfl,trivial⟩
 refine A7 b ?_;refine I8 ?_ ?_<;>intro c
 .refine A7 c ?_
  refine I8 ?_ ?_<;>intro d
  .refine A7 d ?_
   exact⟨by unfold QM;rw[a,b,c,d];rfl,trivial⟩
  .refine A7 d ?_
   exact⟨by unfold QM;rw[a,b,c,d];rfl,trivial⟩
 .refine A7 c ?_
  exact⟨by unfold QM;rw[a,b,c];rfl,trivial⟩
def cu (s:ByteArray):List AV:=[.str s]
theorem iq (s:ByteArray):(cu s)[0]?=some (.str s):=rfl
def JC (xs:List ByteArray)(v:ByteArray):Bool:=xs.any fun u=>v.toList==u.toList
theorem AY5 (xs:List ByteArray)(m:SM)(v:ByteArray)(h:Hp)(i:xs.length<=1099511627776):
  a_ (En G) 220 [.sl m 1 (xs.map cu),.str v] h (.bool (JC xs v)):=by
 refine cn Tryz.func220 4 ?_;refine AB ?_;refine BB (fun n F H=>∃k,n+k=xs.length/\F 0=.sl m 1 (xs.map cu)/\F 1=.str v/\F 5=.n (k:Nat)/\H=h/\JC xs v=JC (xs.drop k) v) xs.length ⟨0,BA,rfl,rfl,rfl,rfl,rfl⟩ ?_;rintro n F H ⟨k,hk,c,d,e,rfl,b⟩;refine DC c d e ?_;refine DV ?_ ?_<;>intro a
 .have g:JC (xs.drop k) v=((v.toList==xs[k].toList)||JC (xs.drop (k+1)) v):=NH _ xs k a
  simp only[vQ,CP,QN,↓reduceIte,jC,b_,cZ,c,d,e,CE a,BK eo a,iq];refine BL ?_ ?_<;>intro f
  .refine AB ?_
   refine⟨?_,trivial⟩;rw[b,g,show(v.toList==xs[k].toList)=true by rw[BEq.comm];exact f];rfl
  .refine AZ e (CZ k) ?_
   refine⟨n-1,U,k+1,U,c,d,rfl,trivial,?_⟩;rw[b,g,show(v.toList==xs[k].toList)=false by rw[BEq.comm];exact f];rfl
 .refine AB ?_
  exact⟨by rw[b,jS U];rfl,trivial⟩
theorem d_ (xs:List ByteArray)(m:SM)(v:ByteArray)(h:Hp)(C:xs.length<=1099511627776):
  ∃i:Int,(decide (i≥0)=JC xs v)/\a_ (En G) 279 [.sl m 1 (xs.map cu),.str v] h (.n i):=by
 refine⟨(match xs.findIdx? (fun u=>v.toList==u.toList) with|some i=>(i:Int)|none => -1),?_,?_⟩
 .cases c:xs.findIdx? (fun u=>v.toList==u.toList) with
  | some i =>
    obtain⟨A,q,_⟩:=wV.1 c;have:JC xs v=true:=qK.2 ⟨xs[i],BA,q⟩;simp [this]
  | none =>
    have:JC xs v=false:=by
     rw[yA] at c;unfold JC;rw[qP];intro x l;simp only[c x l];simp
    simp [this]
 refine cn Tryz.func279 4 ?_;refine AB ?_;refine BB (fun n F H=>∃k,n+k=xs.length/\F 0=.sl m 1 (xs.map cu)/\F 1=.str v/\F 7=.n xs.length/\F 8=.n (k:Nat)/\H=h/\(xs.take k).all (fun u => !(v.toList==u.toList))=true) xs.length ⟨0,BA,rfl,rfl,rfl,rfl,rfl,rfl⟩ ?_;rintro n F H ⟨k,hk,d,e,f,g,rfl,a⟩;refine EH d e f g ?_;refine DV ?_ ?_<;>intro b
 .simp only[vQ,CP,QN,↓reduceIte,jC,b_,cZ,d,e,f,g,CE b,BK eo b,iq]
  refine BL ?_ ?_<;>intro p
  .refine AB ?_
   refine⟨?_,trivial⟩
   rw[wV.2 ⟨b,p,fun j B=>by
    rw[zJ] at a;have:=a xs[j] (by rw[List.mem_take_iff_getElem];exact⟨j,U,rfl⟩)
    simpa using this⟩]
  .refine AZ g (CZ k) ?_
   refine⟨n-1,U,k+1,U,d,e,f,rfl,trivial,?_⟩;rw[jW b,List.all_append,a];simp only[wZ,List.all_nil,p];rfl
 .refine AB ?_
  refine⟨?_,trivial⟩;rw[jK U] at a
  rw[yA.2 (by
   intro x c;rw[zJ] at a
   simpa using a x c)]
theorem vC (xs:List ByteArray)(m:SM)(v:ByteArray)(h:Hp)(b:xs.length<=1099511627776):
  a_ (En G) 219 [.sl m 1 (xs.map cu),.str v] h (.bool (JC xs v)):=by
 obtain⟨i,a,c⟩:=d_ G xs m v h b;refine cn Tryz.func219 4 ?_;refine AB ?_;refine c.uu ?_;exact⟨by rw[a],trivial⟩
def kw:List ByteArray:=[⟨#[99,108,97,115,115]⟩,⟨#[101,120,116,101,110,100,115]⟩,⟨#[114,97,110,100]⟩,⟨#[114,97,110,100,99]⟩,⟨#[115,116,97,116,101]⟩,⟨#[99,111,110,115,116,114,97,105,110,116]⟩,⟨#[115,111,102,116]⟩,⟨#[100,105,115,116]⟩,⟨#[105,102]⟩,⟨#[101,108,115,101]⟩,⟨#[101,97,99,104]⟩,⟨#[105,110]⟩,⟨#[115,111,108,118,101]⟩,⟨#[98,101,102,111,114,101]⟩,⟨#[105,110,115,105,100,101]⟩,⟨#[112,114,111,112,101,114,116,121]⟩,⟨#[115,101,113]⟩,⟨#[97,110,100]⟩,⟨#[111,114]⟩,⟨#[110,111,116]⟩,⟨#[115,101,116]⟩,⟨#[104,111,108,100]⟩,⟨#[112,108,97,105,110]⟩,⟨#[114,101,112,101,97,116]⟩]
theorem IF:kw.length=24:=rfl
theorem R5 (h:Hp):a_ (En G) 221 [] h (.sl .full 1 (kw.map cu)):=by
 refine cn Tryz.func221 0 ?_;refine AB ?_;refine KG (v:=.sl .full 1 (kw.map cu)) (h:=h) BC ?_;refine AB ?_;exact H7
theorem uR (v:ByteArray)(h:Hp):a_ (En G) 131 [.str v] h (.bool (JC kw v)):=by
 refine cn Tryz.func131 2 ?_;refine AB ?_;refine(R5 G h).uu ?_;refine(AY5 G kw .full v h (by rw[IF];omega)).uu ?_;exact H7
def w9 (G:Nat->AV):Prop:=∃m,G 0=.fptr 1 [[.sl m 1 (kw.map cu)]] 0 0
theorem rB (a:w9 G)(v:ByteArray)(h:Hp):a_ (En G) 129 [.str v] h (.bool (JC kw v)):=by
 obtain⟨m,b⟩:=a;refine cn Tryz.func129 2 ?_;have e:BR jA h 121 (G 0)=some (.sl m 1 (kw.map cu)):=by rw[b];exact ATI p' rfl rfl
 have c:kw.length<=1099511627776:=by rw[IF];omega
 refine DC @AZR @J' e ?_;refine(vC G kw m v h c).uu ?_;exact H7
def XJ (s:ByteArray):Bool:=(match s.data.toList with|[]=>false|b::_=>V4 b.toNat)&&s.data.toList.all fun b=>QM b.toNat
def FN (s:ByteArray):Bool:=XJ s&&decide (s.size<=16) && !JC kw s
theorem kD {n:Int}(h:QM n=true):n<128:=by
 simp only[QM,V4,n_,Bool.or_eq_true,jY,decide_eq_true_eq,beq_iff_eq] at h;omega
theorem AXV (h:Hp)(s:ByteArray):lF jA h 9 (.str s)=some (.ptr h.length 0 0,h++[.iter s 0]):=by
 have:Tryz.prog.underlying 9=some .string:=BC;simp [lF,this]
theorem AYK {h:Hp}{s:ByteArray}{pos:Nat}(a:pos<s.size):mK (h++[.iter s pos]) (.ptr h.length 0 0) true=some (.tup [.bool true,.n pos,.int .i32 (Utf8.decode s pos).1],h++[.iter s (pos+(Utf8.decode s pos).2)]):=by
 simp [mK,a]
theorem ATD {h:Hp}{pos:Nat}(a:¬pos<s.size):mK (h++[.iter s pos]) (.ptr h.length 0 0) true=some (.tup [.bool false],h++[.iter s pos]):=by
 simp [mK,a]
theorem YD {k:Nat}(hk:k<s.size)(a:QM (s[k]'hk).toNat=false):XJ s=false:=by
 unfold XJ
 have:(s.data.toList.all fun b=>QM b.toNat)=false:=by
  rw[List.all_eq_false];exact⟨s[k],Array.getElem_mem_toList (xs:=s.data) hk,by simp [a]⟩
 rw[this];simp
theorem lI (hk:0<s.size)(e:V4 (s[0]'hk).toNat=false):XJ s=false:=by
 unfold XJ
 have:(match s.data.toList with|[]=>false|b::_=>V4 b.toNat)=false:=by
  cases f:s.data.toList with
  | nil=>rfl
  | cons b l =>
    have d:s[0]'hk=b:=by
     have:s.data.toList[0]?=some b:=by rw[f];rfl
     have c:s.data[0]?=some b:=by grind
     have a:0<s.data.size:=hk;rw[Array.getElem?_eq_getElem a] at c;exact Option.some.inj c
    simp only;rw[<-d];exact e
 rw[this];simp
theorem DE (hk:0<s.size)(p:V4 (s[0]'hk).toNat=true)(k:∀i (d:i<s.size),QM (s[i]'d).toNat=true):XJ s=true:=by
 unfold XJ
 have j:(match s.data.toList with|[]=>false|b::_=>V4 b.toNat)=true:=by
  cases g:s.data.toList with
  | nil =>
    have:s.data.toList.length=0:=by rw[g];rfl
    have a:s.data.size=0:=BQ this;have q:s.size=s.data.size:=rfl;omega
  | cons b l =>
    have h:s[0]'hk=b:=by
     have:s.data.toList[0]?=some b:=by rw[g];rfl
     have a:s.data[0]?=some b:=by grind
     have f:0<s.data.size:=hk;rw[Array.getElem?_eq_getElem f] at a;exact Option.some.inj a
    simp only;rw[<-h];exact p
 rw[j,Bool.true_and,zJ];intro b c;obtain⟨i,d,rfl⟩:=List.getElem_of_mem c;have e:i<s.size:=BQ d;exact k i e
theorem Xt (s:ByteArray)(h:Hp)(hl:s.size<=1099511627776):a_ (En G) 128 [.str s] h (.bool (XJ s)):=by
 refine ACalls.pure0 rfl ?_;refine cn Tryz.func128 2 ?_;refine AZ @AW6 @AXV ?_;refine BB (fun n F H=>∃k,n+k=s.size/\F 0=.str s/\F 6=.ptr h.length 0 0/\H=h++[.iter s k]/\(∀i (p:i<s.size),i<k->QM (s[i]'p).toNat=true)/\(∀b:0<s.size,0<k->V4 (s[0]'b).toNat=true)) s.size ⟨0,BA,rfl,AL,rfl,fun _ _ h=>absurd h U,fun _ h=>absurd h U⟩ ?_;rintro n F H ⟨k,hk,A,B,rfl,q,C⟩;rcases Classical.em (k<s.size) with b|b
 .have Q:∀(r:Nat×Nat),Utf8.decode s k=r->(QM r.1=true->r=((s[k]'b).toNat,1)/\QM (s[k]'b).toNat=true)/\(QM r.1=false->XJ s=false)/\(V4 r.1=false->k=0->XJ s=false)/\(V4 r.1=true->QM r.1=true):=by
   rintro r rfl;have S:∀n,V4 n=true->QM n=true:=fun n hn=>by unfold QM;rw[hn];rfl
   rcases zC (s[k]'b).toNat 128 with f|f
   .have R:=decode_ascii s k b f
    rw[R];exact⟨fun a=>⟨rfl,a⟩,fun a=>YD b a,fun a C=>by subst C;exact lI b a,S _⟩
   .have R:=(decode_high s k b f).1
    refine⟨fun a=>?_,fun _=>?_,fun _ C=>?_,S _⟩
    .have:=kD a;omega
    .refine YD b ?_
     cases a:QM (s[k]'b).toNat with
     | false=>rfl
     | true=>have:=kD a;omega
    .refine YD b ?_
     cases a:QM (s[k]'b).toNat with
     | false=>rfl
     | true=>have:=kD a;omega
  refine aZ @Ii A B @AYK b ?_;generalize hr:Utf8.decode s k=r at Q;obtain⟨V,X,Y,Z⟩:=Q r rfl
  have done:∀K,QM r.1=true->(k=0->V4 r.1=true)->K=h++[bO.iter s (k+r.2)]->∃m,m<n/\∃g,m+g=s.size/\K=h++[.iter s g]/\(∀i (p:i<s.size),i<g->QM (s[i]'p).toNat=true)/\(∀b:0<s.size,0<g->V4 (s[0]'b).toNat=true):=by
   intro K a c hH;obtain⟨T,e2⟩:=V a;refine⟨n-1,U,k+1,U,by rw[hH,T],fun i p a0=>?_,fun a2 _=>?_⟩
   .grind
   .grind
  refine I8 ?_ ?_<;>intro f
  .have l:k=0:=by simp at f;omega
   refine A7 f ?_;refine(qD G _ _).uu ?_;refine I8 ?_ ?_<;>intro j
   .refine A7 j ?_
    have c:V4 r.1=false:=BQ j;exact⟨by rw[Y c l],_,rfl⟩
   have c:V4 r.1=true:=BQ j;refine A7 j ?_;refine(gG G _ _).uu ?_;have a:=Z c;refine A7 a ?_;obtain⟨m,L,g,E,I,M,N⟩:=done _ a (fun _=>c) rfl;exact⟨m,L,g,E,A,B,I,M,N⟩
  .have l:k≠0:=by intro e;subst e;simp at f
   refine A7 f ?_;refine(gG G _ _).uu ?_;refine BL ?_ ?_<;>intro j
   .have a:QM r.1=false:=BQ j
    refine AB ?_;exact⟨by rw[X a],_,rfl⟩
   .have a:QM r.1=true:=BQ j
    refine AB ?_;obtain⟨m,L,g,E,I,M,N⟩:=done _ a (fun e=>absurd e l) rfl;exact⟨m,L,g,E,A,B,I,M,N⟩
 .simp only[vQ,List.getElem?_cons_zero,RY,dT,VY,lO,CP,kX,Ii,OV,VD,tJ,↓reduceIte,jC,b_,A,B,ATD b]
  have a1:k=s.size:=U;refine⟨?_,_,rfl⟩;congr 1;rcases Nat.eq_zero_or_pos s.size with J|J
  .have:s=⟨#[]⟩:=by
    obtain⟨d⟩:=s;have:d.size=0:=J;rw[Array.eq_empty_of_size_eq_zero this]
   subst this;rw[ByteArray.toList_eq];rfl
  .rw[DE J (C J U) (fun i p=>q i p U)]
   have P:s.toList≠[]:=by
    rw[ByteArray.toList_eq];intro e;have:s.data.toList.length=0:=by rw[e];rfl
    have E:s.data.size=0:=BQ this;have I:s.size=s.data.size:=rfl;omega
   cases O:s.toList with
   | nil=>exact absurd O P
   | cons=>rw[ByteArray.toList_eq];rfl
theorem NZ (c:w9 G)(s:ByteArray)(h:Hp)(d:s.size<=1099511627776):a_ (En G) 63 [.str s] h (.bool (FN s)):=by
 refine cn Tryz.func63 2 ?_;refine AB ?_;refine(Xt G s h d).uu ?_;refine I8 ?_ ?_<;>intro a
 .refine A7 a ?_
  refine I8 ?_ ?_<;>intro b
  .refine A7 b ?_
   refine(rB G c s h).uu ?_;refine⟨?_,trivial⟩
   have:decide (s.size<=16)=true:=by simp at b|-;omega
   unfold FN;rw[a,this];rfl
  .refine A7 b ?_
   refine⟨?_,trivial⟩
   have:decide (s.size<=16)=false:=by simp at b|-;omega
   unfold FN;rw[a,this];rfl
 .refine A7 a ?_
  exact⟨by unfold FN;rw[a];rfl,trivial⟩
theorem tn (s:ByteArray)(k:Nat)(kk:IntKind)(hk:k<s.size):QY jA 9 (.str s) (.int kk (k:Int))=some (.int .u8 (s[k]'hk).toNat):=by
 have b:Tryz.prog.underlying 9=some .string:=BC;have a:(0:Int)<=(k:Int):=U;have:s[k]?=some (s[k]'hk):=by simp [hk]
 simp [QY,b,a,this]
theorem PI (s:ByteArray)(h:Hp):a_ (En G) 64 [.str s] h (.bool (FN s)):=by
 refine cn Tryz.func64 2 ?_;refine AB ?_;refine I8 ?_ ?_<;>intro g
 .refine A7 g ?_
  refine⟨?_,trivial⟩
  have:s.data.toList=[]:=by
   rw[ByteArray.toList_eq,ByteArray.toList_eq] at g;have:=beq_iff_eq.1 g;exact this
  unfold FN XJ;rw[this];rfl
 have b:0<s.size:=by
  rcases Nat.eq_zero_or_pos s.size with b|b
  .simp_all
  .exact b
 refine A7 g ?_;refine I8 ?_ ?_<;>intro j
 .refine A7 j ?_
  refine⟨?_,trivial⟩
  have:decide (s.size<=16)=false:=by simp at j|-;omega
  unfold FN;rw[this];simp
 have c:decide (s.size<=16)=true:=by simp at j|-;omega
 refine A7 j ?_;refine KG (v:=.int .u8 (s[0]'b).toNat) (h:=h) (by rw[show(0:Int)=((0:Nat):Int) from rfl,tn s 0 .i64 b];rfl) ?_;refine AB ?_;refine(vT G _ h).uu ?_;refine I8 ?_ ?_<;>intro l
 .refine A7 l ?_
  refine⟨?_,trivial⟩;unfold FN;rw[lI b (BQ l)];rfl
 refine A7 l ?_;refine(uR G s h).uu ?_;refine BL ?_ ?_<;>intro B
 .refine AB ?_
  refine⟨?_,trivial⟩;unfold FN;rw[B];simp
 refine AB ?_;have f:V4 (s[0]'b).toNat=true:=BQ l;refine BB (fun n F H=>∃k,n+k=s.size/\F 0=.str s/\F 3=.n (k:Nat)/\H=h/\(∀i (d:i<s.size),i<k->QM (s[i]'d).toNat=true)) s.size ⟨0,BA,AL,AL,rfl,fun _ _ h=>absurd h U⟩ ?_;rintro n F H ⟨k,hk,p,q,rfl,a⟩;refine AZ p q ?_;refine DV ?_ ?_<;>intro e
 .refine DC p q (tn s k .i64 e) ?_
  refine(Yi G _ _).uu ?_;refine BL ?_ ?_<;>intro C
  .refine AB ?_
   refine⟨?_,trivial⟩;unfold FN;rw[YD e (BQ C)];rfl
  .refine AZ q (wrap_succ (show k<9223372036854775807 by simp at c;omega)) ?_
   refine⟨n-1,U,k+1,U,p,rfl,trivial,fun i d E=>?_⟩;rcases zC i k with A|A
   .exact a i d A
   .grind
 .refine AB ?_
  refine⟨?_,trivial⟩;unfold FN;rw[DE b f (fun i d=>a i d U),c,B];rfl
def J9 (b:Bin):Bool :=
 decide (b.kind<0)||decide (b.kind>2)||(decide ((b.ranges.l.length:Int)>0)==decide ((b.steps.length:Int)>0))||(b.kind != 0&&decide ((b.steps.length:Int)>0))||((b.steps.length:Int)==1)||decide ((b.steps.length:Int)>8)
def I5 (b:Bin):Int :=
 if FN b.name then if J9 b then 1 else if b.steps.any (fun l=>decide (l.l.length=0)) then 1 else
  if(sets b).any (fun l=>decide (l.l.length>64)) then 2 else if(sets b).any (fun l=>l.l.any bad) then 1 else 0
 else 7
def shape (b:Bin):Bool :=
 if(b.kind != 0&&b.kind != 1&&b.kind != 2) then false else if((b.steps.length:Int)==0) then decide ((b.ranges.l.length:Int)>0) else
  if(decide ((b.ranges.l.length:Int)>0)||b.kind != 0||decide ((b.steps.length:Int)<2)||decide ((b.steps.length:Int)>8)) then false else !(b.steps.any (fun l=>decide (l.l.length=0)))
theorem U':∀(n p z o t r a b c E:Bool),((n||p||z||o||t) && !(n&&p) && !(n&&z) && !(n&&o) && !(n&&t) && !(p&&z) && !(p&&o) && !(p&&t) && !(z&&o) && !(z&&t) && !(o&&t) && !(a&&b) && !(a&&c) && !(b&&c) && !(a&&E))=true ->
 (if(!z && !o && !t) then false else if a then r else if(r || !z||(a||b)||c) then false else !E)=(!(n||p||(r == !a)||(!z && !a)||b||c) && !E):=by decide +kernel
theorem Yb (k r s:Int)(E:Bool)(l:0<=s)(j:s=0->E=false):
  (if(k != 0&&k != 1&&k != 2) then false else if(s==0) then decide (r>0) else if(decide (r>0)||k != 0||decide (s<2)||decide (s>8)) then false else !E) =
  (!(decide (k<0)||decide (k>2)||(decide (r>0)==decide (s>0))||(k != 0&&decide (s>0))||(s==1)||decide (s>8)) && !E):=by
 have h:decide (s>0) = !(s==0):=by rw[wJ];simp;omega
 have i:decide (s<2)=((s==0)||(s==1)):=by rw[wJ];simp;omega
 rw[h,i];have key:=U' (decide (k<0)) (decide (k>2)) (k==0) (k==1) (k==2) (decide (r>0)) (s==0) (s==1) (decide (s>8)) E ?_
 .exact key
 .have a:(decide (k<0)||decide (k>2)||(k==0)||(k==1)||(k==2))=true:=by simp;omega
  have no:∀(p q:Prop) [Decidable p] [Decidable q],¬(p/\q)->(!(decide p&&decide q))=true:=by grind
  have g:(s==0&&E)=false:=by simp_all
  have b:(k==0)=decide (k=0):=rfl;have c:(k==1)=decide (k=1):=rfl;have d:(k==2)=decide (k=2):=rfl;have e:(s==0)=decide (s=0):=rfl;have f:(s==1)=decide (s=1):=rfl;rw[g]
  rw[b,c,d] at a|-
  rw[e,f,a,no _ _ (U:¬(k<0/\k>2)),no _ _ (U:¬(k<0/\k=0)),no _ _ (U:¬(k<0/\k=1)),no _ _ (U:¬(k<0/\k=2)),
   no _ _ (U:¬(k>2/\k=0)),no _ _ (U:¬(k>2/\k=1)),no _ _ (U:¬(k>2/\k=2)),no _ _ (U:¬(k=0/\k=1)),no _ _ (U:¬(k=0/\k=2)),no _ _ (U:¬(k=1/\k=2)),
   no _ _ (U:¬(s=0/\s=1)),no _ _ (U:¬(s=0/\s>8)),no _ _ (U:¬(s=1/\s>8))]
  rfl
theorem Dz (b:Bin):shape b=(!J9 b && !(b.steps.any (fun l=>decide (l.l.length=0)))) :=
 Yb b.kind b.ranges.l.length b.steps.length _ U (fun h=>by
  have:b.steps=[]:=List.eq_nil_of_length_eq_zero U
  rw[this];rfl)
theorem US (b:Bin)(h:Hp)(B:b.steps.length<=1099511627776):a_ (En G) 240 [.agg (JD b)] h (.bool (shape b)):=by
 refine ACalls.pure0 rfl ?_;refine cn Tryz.func240 2 ?_;refine N8 @bxB @SV @dF @XU ?_;refine SI (fun F H=>F 7=.bool (b.kind != 0&&b.kind != 1&&b.kind != 2)/\F 1=.ptr h.length 0 0/\F 3=.n b.steps.length/\H=h++[qH 4 [JD b]]) ?_ ?_
 .refine I8 ?_ ?_<;>intro e
  .refine LM e @SV ?_
   refine I8 ?_ ?_<;>intro f
   .refine LM f @SV ?_
    exact⟨rfl,trivial,trivial,trivial⟩
   .refine A7 f ?_
    exact⟨rfl,trivial,trivial,trivial⟩
  .refine A7 e ?_
   exact⟨rfl,trivial,trivial,trivial⟩
 rintro F H ⟨A,a,d,rfl⟩;refine DC A a d ?_;refine BL ?_ ?_<;>intro hk
 .refine AB ?_
  exact⟨by unfold shape;rw[if_pos hk],_,rfl⟩
 have c:¬(b.kind != 0&&b.kind != 1&&b.kind != 2)=true:=by rw[hk];simp
 refine AZ a d ?_;refine BL ?_ ?_<;>intro q
 .refine LM a @dF ?_
  exact⟨by unfold shape;rw[if_neg c,if_pos q],_,rfl⟩
 have g:¬((b.steps.length:Int)==0)=true:=by rw[q];simp
 refine MF a d @dF ?_;refine SI (fun F H=>F 28=.bool (decide ((b.ranges.l.length:Int)>0)||b.kind != 0||decide ((b.steps.length:Int)<2)||decide ((b.steps.length:Int)>8))/\F 1=.ptr h.length 0 0/\H=h++[qH 4 [JD b]]) ?_ ?_
 .refine I8 ?_ ?_<;>intro e
  .refine AZ e a ?_
   exact⟨trivial,trivial,trivial⟩
  refine N8 @wF e a @SV ?_;refine I8 ?_ ?_<;>intro f
  .refine AZ f a ?_
   exact⟨trivial,trivial,trivial⟩
  refine EH @wF f a d ?_;refine I8 ?_ ?_<;>intro k
  .refine AZ k a ?_
   exact⟨trivial,trivial,trivial⟩
  .refine EH @wF k a d ?_
   exact⟨trivial,trivial,trivial⟩
 rintro F H ⟨i,a,rfl⟩;refine AZ i a ?_;refine BL ?_ ?_<;>intro p
 .refine AB ?_
  exact⟨by unfold shape;rw[if_neg c,if_neg g,if_pos p],_,rfl⟩
 have j:¬(decide ((b.ranges.l.length:Int)>0)||b.kind != 0||decide ((b.steps.length:Int)<2)||decide ((b.steps.length:Int)>8))=true:=by rw[p];simp
 refine LM a @XU ?_;refine(tA G b.steps b.sm 291 [] (fun l=>decide (l.l.length=0)) _ B fun r=>AU4 G r _).uu ?_;exact⟨by unfold shape;rw[if_neg c,if_neg g,if_neg j],_,rfl⟩
theorem lJ {b:Bin}(h:FN b.name=false):I5 b=7:=by unfold I5;rw[h];rfl
theorem fA {b:Bin}(h:FN b.name=true)(a:J9 b=true):I5 b=1:=by unfold I5;rw[h,a];rfl
theorem fB {b:Bin}(h:FN b.name=true)(a:b.steps.any (fun l=>decide (l.l.length=0))=true):I5 b=1:=by
 unfold I5;rw[h,a];cases J9 b<;>rfl
theorem ZQ {b:Bin}(h:FN b.name=true)(c:J9 b=false)(a:b.steps.any (fun l=>decide (l.l.length=0))=false):
  I5 b=if(sets b).any (fun l=>decide (l.l.length>64)) then 2 else if(sets b).any (fun l=>l.l.any bad) then 1 else 0:=by
 unfold I5;rw[h,c,a];rfl
structure kq (b:Bin):Prop where
 num:(sets b).length<=1099511627776
 name:b.name.size<=1099511627776
 steps:b.steps.length<=1099511627776
 sets:∀l∈sets b,l.l.length<=1099511627776
theorem Tj (xs:List cp):decide (JS xs=2)=decide (xs.length>64):=by
 unfold JS;split
 .simp_all
 .split<;>simp_all
theorem lP (xs:List cp):decide (JS xs=1)=(decide (¬xs.length>64)&&xs.any bad):=by
 unfold JS;split
 .rename_i h;simp [h]
 .grind
theorem AR0 {b:Bin}(h:FN b.name=true)(f:J9 b=false)(e:b.steps.any (fun l=>decide (l.l.length=0))=false):
  I5 b=if(sets b).any (fun l=>decide (JS l.l=2)) then 2 else if(sets b).any (fun l=>decide (JS l.l=1)) then 1 else 0:=by
 rw[ZQ h f e];simp only[Tj];split
 .rfl
 .rename_i d
  have:(sets b).any (fun l=>decide (JS l.l=1))=(sets b).any (fun l=>l.l.any bad):=by
   rw[wJ,qK,qK];constructor
   .rintro⟨l,c,a⟩
    rw[lP] at a;simp only[jY] at a;exact⟨l,c,a.2⟩
   .rintro⟨l,c,a⟩
    refine⟨l,c,?_⟩;rw[lP,a];rw[Bool.not_eq_true,qP] at d;have:=d l c;simp only[decide_eq_true_eq] at this;simp only[this,not_false_eq_true,decide_true,Bool.and_self]
  rw[this]
theorem aV {α:Type}(p:α->Bool)(xs:List α)(k:Nat)(h:k<xs.length):(xs.take (k+1)).any p=((xs.take k).any p||p xs[k]):=by
 rw[jW h,List.any_append,List.any_cons,List.any_nil,Bool.or_false]
theorem df (K:w9 G)(b:Bin)(g:kq b)(h:Hp):a_ (En G) 162 [.agg (JD b)] h (.n (I5 b)):=by
 refine ACalls.pure0 rfl ?_;refine cn Tryz.func162 2 ?_;refine MF @uk @bxB @vy ?_;refine(NZ G K b.name _ g.name).uu ?_;refine BL ?_ ?_<;>intro E
 .refine AB ?_
  exact⟨by rw[lJ (BQ E)],_,rfl⟩
 have f:FN b.name=true:=BQ E;refine A7 @xf ?_;refine(US G b _ g.steps).uu ?_;refine BL ?_ ?_<;>intro J
 .refine AB ?_
  refine⟨?_,_,rfl⟩;have c:shape b=false:=BQ J;rw[Dz] at c
  cases I:J9 b with
  | true=>rw[fA f I]
  | false =>
    rw[I] at c;rw[fB f (BQ c)]
 have c:shape b=true:=BQ J;rw[Dz] at c;simp only[jY,Bool.not_eq_true'] at c;have L:=ZQ f c.1 c.2;refine A7 @xf ?_;refine(Yd G b _).uu ?_;refine BB (fun n F H=>∃k,n+k=(sets b).length/\F 3=.bool (((sets b).take k).any fun l=>decide (JS l.l=2))/\F 4=.bool (((sets b).take k).any fun l=>decide (JS l.l=1))/\F 15=.sl (cU b) 1 ((sets b).map encS)/\F 16=.n (sets b).length/\F 17=.n (k:Nat)/\H=h++[qH 4 [JD b]]) (sets b).length ⟨0,BA,rfl,rfl,rfl,rfl,rfl,rfl⟩ ?_;rintro n F H ⟨k,hk,q,j,f15,f16,f17,rfl⟩;refine DC f15 f16 f17 ?_;refine DV ?_ ?_<;>intro a
 .simp only[vQ,CP,↓reduceIte,jC,b_,uQ,f15,f17,CE a,BK TP a,lX]
  refine(Ti G _ _ _ (g.sets _ (List.getElem_mem a))).use ?_;have C:=aV (fun l:Rs=>decide (JS l.l=2)) (sets b) k a;have B:=aV (fun l:Rs=>decide (JS l.l=1)) (sets b) k a;refine AB ?_;refine BL ?_ ?_<;>intro i
  .have d:JS (sets b)[k].l=2:=BQ i
   refine AZ f17 (wrap_succ (show k<9223372036854775807 by have:=g.num;omega)) ?_;refine⟨n-1,U,k+1,U,?_,?_,f15,f16,rfl,trivial⟩
   .rw[C,d];simp
   .rw[j,B,d];simp
  refine AB ?_;refine BL ?_ ?_<;>intro p
  .have e:JS (sets b)[k].l=1:=BQ p
   refine AZ f17 (wrap_succ (show k<9223372036854775807 by have:=g.num;omega)) ?_;refine⟨n-1,U,k+1,U,?_,?_,f15,f16,rfl,trivial⟩
   .rw[q,C,e];simp
   .rw[B,e];simp
  .have d:JS (sets b)[k].l≠2:=BQ i
   have e:JS (sets b)[k].l≠1:=BQ p;refine AZ f17 (wrap_succ (show k<9223372036854775807 by have:=g.num;omega)) ?_;refine⟨n-1,U,k+1,U,?_,?_,f15,f16,rfl,trivial⟩
   .rw[q,C];simp [d]
   .rw[j,B];simp [e]
 .rw[jK U] at q j
  have A:=AR0 f c.1 c.2;refine AZ q j ?_;refine BL ?_ ?_<;>intro i
  .refine AB ?_
   exact⟨by rw[A,if_pos i],_,rfl⟩
  refine A7 j ?_;refine BL ?_ ?_<;>intro p
  .refine AB ?_
   exact⟨by rw[A,if_neg (by rw[i];simp),if_pos p],_,rfl⟩
  .refine AB ?_
   exact⟨by rw[A,if_neg (by rw[i];simp),if_neg (by rw[p];simp)],_,rfl⟩
theorem dq (b:Bin)(f:kq b)(h:Hp):a_ (En G) 195 [.agg (JD b)] h (.n (I5 b)):=by
 refine ACalls.pure0 rfl ?_;refine cn Tryz.func195 2 ?_;refine MF @uk @bxB @vy ?_;refine(PI G b.name _).uu ?_;refine BL ?_ ?_<;>intro R
 .refine AB ?_
  exact⟨by rw[lJ (BQ R)],_,rfl⟩
 have E:FN b.name=true:=BQ R;refine U4 @SV ?_;refine SI (fun F H=>F 53=.bool (J9 b)/\F 1=.ptr h.length 0 0/\H=h++[qH 4 [JD b]]) ?_ ?_
 .refine I8 ?_ ?_<;>intro i
  .refine A7 i ?_
   exact⟨by unfold J9;rw[i];rfl,trivial,trivial⟩
  refine LM i @SV ?_;refine I8 ?_ ?_<;>intro f
  .refine A7 f ?_
   exact⟨by unfold J9;rw[i,f];rfl,trivial,trivial⟩
  refine N8 be4 f @dF @XU ?_;refine I8 ?_ ?_<;>intro q
  .refine A7 q ?_
   exact⟨by unfold J9;rw[i,f,q];rfl,trivial,trivial⟩
  refine LM q @SV ?_;refine I8 ?_ ?_<;>intro d
  .refine LM d @XU ?_
   refine I8 ?_ ?_<;>intro C
   .refine A7 C ?_
    exact⟨by unfold J9;rw[i,f,q,d,C];rfl,trivial,trivial⟩
   refine LM C @XU ?_;refine I8 ?_ ?_<;>intro p
   .refine A7 p ?_
    exact⟨by unfold J9;rw[i,f,q,d,C,p];rfl,trivial,trivial⟩
   .refine LM p @XU ?_
    exact⟨by unfold J9;rw[i,f,q,d,C,p];rfl,trivial,trivial⟩
  .refine LM d @XU ?_
   refine I8 ?_ ?_<;>intro p
   .refine A7 p ?_
    exact⟨by unfold J9;rw[i,f,q,d,p];rfl,trivial,trivial⟩
   .refine LM p @XU ?_
    exact⟨by unfold J9;rw[i,f,q,d,p];rfl,trivial,trivial⟩
 rintro F H ⟨O,j,rfl⟩;refine AZ O j ?_;refine BL ?_ ?_<;>intro S
 .refine AB ?_
  exact⟨by rw[fA E S],_,rfl⟩
 refine AB ?_;refine EG 0 (fun F H=>F 1=.ptr h.length 0 0/\H=h++[qH 4 [JD b]]/\b.steps.any (fun l=>decide (l.l.length=0))=false) (fun F H=>F 2=.n (I5 b)/\H=h++[qH 4 [JD b]]) ?_ ?_ ?_
 .refine BB (fun n F H=>∃k,n+k=b.steps.length/\F 1=.ptr h.length 0 0/\F 3=.n (k:Nat)/\H=h++[qH 4 [JD b]]/\(b.steps.take k).any (fun l=>decide (l.l.length=0))=false) b.steps.length ⟨0,BA,UT j,FB,rfl,rfl⟩ ?_
  rintro n F H ⟨k,hk,j,M,rfl,c⟩;refine MF j M @XU ?_;refine DV ?_ ?_<;>intro a
  .have J:=aV (fun l:Rs=>decide (l.l.length=0)) b.steps k a
   simp only[vQ,CP,↓reduceIte,jC,b_,aE,uQ,rX,j,M,EN Y7,XU,CE a,BK TP a,lX,jI];refine BL ?_ ?_<;>intro d
   .refine AB ?_
    refine⟨?_,trivial⟩
    have:b.steps.any (fun l=>decide (l.l.length=0))=true:=by
     rw[qK];exact⟨b.steps[k],BA,by simp at d;simp [d]⟩
    rw[fB E this]
   .refine AZ M (wrap_succ (show k<9223372036854775807 by have:=f.steps;omega)) ?_
    refine⟨n-1,U,k+1,U,j,rfl,trivial,?_⟩;rw[J,c];simp at d;simp [d]
  .refine AB ?_
   rw[jK U] at c;exact⟨j,trivial,c⟩
 .rintro F H ⟨j,rfl,C⟩
  have Q:J9 b=false:=BQ S;have I:=ZQ E Q C;refine AZ j @xf ?_;refine(ASM G b _).uu ?_;refine EG 2 (fun F H=>F 4=.sl (cU b) 1 ((sets b).map encS)/\H=h++[qH 4 [JD b]]/\(sets b).any (fun l=>decide (l.l.length>64))=false) (fun F H=>F 2=.n (I5 b)/\H=h++[qH 4 [JD b]]) ?_ ?_ ?_
  .refine BB (fun n F H=>∃k,n+k=(sets b).length/\F 4=.sl (cU b) 1 ((sets b).map encS)/\F 5=.n (k:Nat)/\H=h++[qH 4 [JD b]]/\((sets b).take k).any (fun l=>decide (l.l.length>64))=false) (sets b).length ⟨0,BA,FB,FB,rfl,rfl⟩ ?_
   rintro n F H ⟨k,hk,g,N,rfl,c⟩;refine AZ g N ?_;refine DV ?_ ?_<;>intro a
   .have J:=aV (fun l:Rs=>decide (l.l.length>64)) (sets b) k a
    simp only[vQ,CP,↓reduceIte,jC,b_,aE,uQ,g,N,CE a,BK TP a,lX,jI];refine BL ?_ ?_<;>intro d
    .refine AB ?_
     refine⟨?_,trivial⟩
     have:(sets b).any (fun l=>decide (l.l.length>64))=true:=by
      rw[qK];exact⟨(sets b)[k],BA,by simp at d|-;omega⟩
     rw[I,if_pos this]
    .refine AZ N (wrap_succ (show k<9223372036854775807 by have:=f.num;omega)) ?_
     refine⟨n-1,U,k+1,U,g,rfl,trivial,?_⟩;rw[J,c]
     simp at d|-
     omega
   .refine AB ?_
    rw[jK U] at c;exact⟨g,trivial,c⟩
  .rintro F H ⟨g,rfl,B⟩
   rw[B] at I;simp only[Bool.false_eq_true,if_false] at I;refine A7 g ?_;refine BB (fun n F H=>∃k,n+k=(sets b).length/\F 4=.sl (cU b) 1 ((sets b).map encS)/\F 6=.n (k:Nat)/\H=h++[qH 4 [JD b]]/\((sets b).take k).any (fun l=>l.l.any bad)=false) (sets b).length ⟨0,BA,UT g,FB,rfl,rfl⟩ ?_;rintro n F H ⟨k,hk,g,P,rfl,c⟩;refine AZ g P ?_;refine DV ?_ ?_<;>intro a
   .have J:=aV (fun l:Rs=>l.l.any bad) (sets b) k a
    simp only[vQ,CP,↓reduceIte,jC,b_,uQ,g,P,CE a,BK TP a,lX,jI];refine(Ve G _ _ _).use ?_
    have A:¬(sets b)[k].l.length>64:=by
     rw[qP] at B;have:=B (sets b)[k] BA;simpa using this
    refine AB ?_
    cases e:(sets b)[k].l.any bad with
    | true =>
      have K:=Z5 A e;refine BL ?_ ?_<;>intro d
      .refine AB ?_
       refine⟨?_,_,rfl⟩
       have:(sets b).any (fun l=>l.l.any bad)=true:=by
        rw[qK];exact⟨(sets b)[k],BA,e⟩
       rw[K,I,if_pos this]
      .rw[K] at d;simp at d
    | false =>
      have K:=dX A e;refine BL ?_ ?_<;>intro d
      .rw[K] at d;simp at d
      .refine AZ P (wrap_succ (show k<9223372036854775807 by have:=f.num;omega)) ?_
       refine⟨n-1,U,k+1,U,g,rfl,trivial,?_⟩;rw[J,c,e];rfl
   .refine AB ?_
    rw[jK U] at c;exact⟨by rw[I,if_neg (by rw[c];simp)],_,rfl⟩
  .rintro F H ⟨L,rfl⟩
   refine AB ?_;exact⟨L,_,rfl⟩
 .rintro F H ⟨L,rfl⟩
  refine AB ?_;exact⟨by rw[L],_,rfl⟩
end Bins
namespace Cov
open Sm Bins
variable (G:Nat->AV )
inductive Ex where
 | mk (op n:Int) (name:ByteArray) (m:SM) (args:List Ex)
def Ex.op:Ex->Int|.mk op _ _ _ _=>op
def Ex.n:Ex->Int|.mk _ n _ _ _=>n
def Ex.name:Ex->ByteArray|.mk _ _ name _ _=>name
def Ex.m:Ex->SM|.mk _ _ _ m _=>m
def Ex.args:Ex->List Ex|.mk _ _ _ _ args=>args
mutual
def AQ:Ex->List AV
 | .mk c n b m a=>[.n c,.n n,.str b,.sl m 4 (rL a)]
def rL:List Ex->List (List AV)
 | []=>[]
 | e::es=>AQ e::rL es
end
theorem yK:∀l:List Ex,rL l=l.map AQ
 | []=>by simp [rL]
 | e::es=>by simp [rL,yK es]
theorem FP (e:Ex):AQ e=[.n e.op,.n e.n,.str e.name,.sl e.m 4 (e.args.map AQ)]:=by
 cases e;simp [AQ,yK,Ex.op,Ex.n,Ex.name,Ex.m,Ex.args]
theorem EF (e:Ex):(AQ e).length=4:=by rw[FP];rfl
theorem KQ (e:Ex):(AQ e)[0]?=some (.n e.op):=by rw[FP];rfl
theorem dE (e:Ex):(AQ e)[1]?=some (.n e.n):=by rw[FP];rfl
theorem SS (e:Ex):(AQ e)[2]?=some (.str e.name):=by rw[FP];rfl
theorem ZE (e:Ex):(AQ e)[3]?=some (.sl e.m 4 (e.args.map AQ)):=by rw[FP];rfl
theorem TL (e:Ex):(AQ e).all AV.leaf=true:=by rw[FP];rfl
theorem fa (h:Hp)(e:Ex):OU h (.agg (AQ e))=some (.ptr h.length 0 0,h++[qH 4 [AQ e]]):=by
 have:=cG (h:=h) (TL e);rw[EF] at this;exact this
theorem ka (h:Hp)(e:Ex):BR jA (h++[qH 4 [AQ e]]) 79 (.ptr h.length 0 0)=some (.agg (AQ e)):=by
 rw[bS NU G9 (by rw[EF];exact jF 4)];rw[zI,jK (by rw[EF];exact jF 4)]
theorem IL {h:Hp}{b:Nat}{e:Ex}(a:h[b]?=some (qH 4 [AQ e])):BR jA h 79 (.ptr b 0 0)=some (.agg (AQ e)):=by
 rw[EK NU G9 a rfl (by rw[EF];exact jF 4)];rw[zI,jK (by rw[EF];exact jF 4)]
mutual
def pre:Ex->List Ex
 | .mk c n b m a=>.mk c n b m a::FV a
def FV:List Ex->List Ex
 | []=>[]
 | e::es=>pre e++FV es
end
mutual
def dep:Ex->Nat
 | .mk _ _ _ _ a=>deps a+1
def deps:List Ex->Nat
 | []=>0
 | e::es=>max (dep e) (deps es)
end
mutual
def wt:Ex->Nat
 | .mk _ _ b _ a=>b.size+1+wts a
def wts:List Ex->Nat
 | []=>0
 | e::es=>wt e+wts es
end
theorem pre_eq (e:Ex):pre e=e::FV e.args:=by cases e;simp [pre,Ex.args]
theorem Y0 (e:Ex):dep e=deps e.args+1:=by cases e;simp [dep,Ex.args]
theorem OI (e:Ex):wt e=e.name.size+1+wts e.args:=by cases e;simp [wt,Ex.args,Ex.name]
theorem NY (xs ys:List Ex):FV (xs++ys)=FV xs++FV ys:=by
 induction xs with
 | nil=>simp [FV]
 | cons x xs a=>simp [FV,a]
theorem YB (xs:List Ex):xs.length<=wts xs:=by
 induction xs with
 | nil=>simp [wts]
 | cons x xs a=>have:=OI x;simp [wts];omega
theorem YA {xs:List Ex}{x:Ex}(h:x∈xs):wt x<=wts xs:=by
 induction xs with
 | nil=>cases h
 | cons y b a =>
   simp only[wts]
   cases List.mem_cons.1 h with
   | inl e=>subst e;omega
   | inr e=>have:=a e;omega
theorem yO (xs:List Ex)(k:Nat)(h:k<xs.length):deps (xs.take (k+1))=max (deps (xs.take k)) (dep xs[k]):=by
 induction xs generalizing k with
 | nil=>simp at h
 | cons x xs a =>
   cases k with
   | zero=>simp [deps]
   | succ k =>
     simp only[List.take_succ_cons,deps,List.getElem_cons_succ];rw[a k (BQ h),Nat.max_assoc]
theorem Ex.induct {P:Ex->Prop}(h:∀e:Ex,(∀a∈e.args,P a)->P e)(e:Ex):P e:=by
 have:∀n (e:Ex),wt e<=n->P e:=by
  intro n
  induction n with
  | zero=>intro e c;have:=OI e;omega
  | succ n d =>
    intro e c;refine h e fun a b=>d a ?_
    have f:=YA b;have g:=OI e;omega
 exact this _ e (jF _)
theorem I_ (e:Ex):dep e<=wt e:=by
 refine Ex.induct (P:=fun e=>dep e<=wt e) (fun e b=>?_) e;rw[Y0,OI]
 have:deps e.args<=wts e.args:=by
  generalize e.args=l at b
  induction l with
  | nil=>simp [deps,wts]
  | cons x l c =>
    have f:=b x BA;have g:=c (fun a d=>b a (by simp [d]));simp only[deps,wts];omega
 omega
theorem YM (e:Ex):(pre e).length<=wt e:=by
 refine Ex.induct (P:=fun e=>(pre e).length<=wt e) (fun e b=>?_) e;rw[pre_eq,OI]
 have:(FV e.args).length<=wts e.args:=by
  generalize e.args=l at b
  induction l with
  | nil=>simp [FV,wts]
  | cons x l c =>
    have f:=b x BA;have g:=c (fun a d=>b a (by simp [d]));simp only[FV,wts,List.length_append];omega
 simp;omega
def arity (op:Int):Int:=if op<1\/op>25 then -1 else if op=1\/op=2\/op=24 then 0 else if op=3\/op=4\/op=5\/op=6\/op=25 then 1 else if op=22 then 3 else if op=23 then -1 else 2
theorem WK (op:Int)(h:Hp):a_ (En G) 299 [.n op] h (.n (arity op)):=by
 refine cn Tryz.func299 2 ?_;have b:op<1\/op>25\/op=1\/op=2\/op=3\/op=4\/op=5\/op=6\/op=7\/op=8\/op=9\/op=10\/op=11\/op=12\/op=13\/op=14\/op=15\/op=16\/op=17\/op=18\/op=19\/op=20\/op=21\/op=22\/op=23\/op=24\/op=25:=U;rcases b with h|h|rfl|rfl|rfl|rfl|rfl|rfl|rfl|rfl|rfl|rfl|rfl|rfl|rfl|rfl|rfl|rfl|rfl|rfl|rfl|rfl|rfl|rfl|rfl|rfl|rfl
 .have a:∀k:Int,1<=k->(op==k)=false:=fun k hk=>beq_eq_false_iff_ne.2 U
  have d:decide (op<1)=true:=by simp;omega
  have c:arity op = -1:=by unfold arity;rw[if_pos (Or.inl h)]
  rw[c];simp only[vQ,EM,iE,CP,GV,↓reduceIte,jC,mh,b_,a 1 DX,a 2 DX,a 3 DX,a 4 DX,a 5 DX,a 6 DX,a 7 DX,a 8 DX,a 9 DX,a 10 DX,a 11 DX,a 12 DX,a 13 DX,a 14 DX,a 15 DX,a 16 DX,a 17 DX,a 18 DX,a 19 DX,a 20 DX,a 21 DX,a 22 DX,a 23 DX,a 24 DX,a 25 DX,d];exact H7
 .have a:∀k:Int,k<=25->(op==k)=false:=fun k hk=>beq_eq_false_iff_ne.2 U
  have d:decide (op<1)=false:=by simp;omega
  have e:decide (op>25)=true:=by simp;omega
  have c:arity op = -1:=by unfold arity;rw[if_pos (Or.inr h)]
  rw[c];simp only[vQ,EM,CP,↓reduceIte,jC,mh,b_,a 1 DX,a 2 DX,a 3 DX,a 4 DX,a 5 DX,a 6 DX,a 7 DX,a 8 DX,a 9 DX,a 10 DX,a 11 DX,a 12 DX,a 13 DX,a 14 DX,a 15 DX,a 16 DX,a 17 DX,a 18 DX,a 19 DX,a 20 DX,a 21 DX,a 22 DX,a 23 DX,a 24 DX,a 25 DX,d,e];exact H7
 all_goals
  simp only[vQ,tH,EM,CP,↓reduceIte,jC,decide_false,mh,b_,qV,Int.reduceLT,Int.reduceGT];exact⟨rfl,trivial⟩
theorem Zi (op:Int)(h:Hp):a_ (En G) 332 [.n op] h (.n (arity op)):=by
 refine cn Tryz.func332 2 ?_;have b:op<1\/op>25\/op=1\/op=2\/op=3\/op=4\/op=5\/op=6\/op=7\/op=8\/op=9\/op=10\/op=11\/op=12\/op=13\/op=14\/op=15\/op=16\/op=17\/op=18\/op=19\/op=20\/op=21\/op=22\/op=23\/op=24\/op=25:=U;rcases b with h|h|rfl|rfl|rfl|rfl|rfl|rfl|rfl|rfl|rfl|rfl|rfl|rfl|rfl|rfl|rfl|rfl|rfl|rfl|rfl|rfl|rfl|rfl|rfl|rfl|rfl
 .have a:∀k:Int,1<=k->(op==k)=false:=fun k hk=>beq_eq_false_iff_ne.2 U
  have d:decide (op<1)=true:=by simp;omega
  have c:arity op = -1:=by unfold arity;rw[if_pos (Or.inl h)]
  rw[c];simp only[vQ,EM,iE,CP,GV,↓reduceIte,jC,mh,b_,a 1 DX,a 2 DX,a 3 DX,a 4 DX,a 5 DX,a 6 DX,a 7 DX,a 8 DX,a 9 DX,a 10 DX,a 11 DX,a 12 DX,a 13 DX,a 14 DX,a 15 DX,a 16 DX,a 17 DX,a 18 DX,a 19 DX,a 20 DX,a 21 DX,a 22 DX,a 23 DX,a 24 DX,a 25 DX,d];exact H7
 .have a:∀k:Int,k<=25->(op==k)=false:=fun k hk=>beq_eq_false_iff_ne.2 U
  have d:decide (op<1)=false:=by simp;omega
  have e:decide (op>25)=true:=by simp;omega
  have c:arity op = -1:=by unfold arity;rw[if_pos (Or.inr h)]
  rw[c];simp only[vQ,EM,CP,↓reduceIte,jC,mh,b_,a 1 DX,a 2 DX,a 3 DX,a 4 DX,a 5 DX,a 6 DX,a 7 DX,a 8 DX,a 9 DX,a 10 DX,a 11 DX,a 12 DX,a 13 DX,a 14 DX,a 15 DX,a 16 DX,a 17 DX,a 18 DX,a 19 DX,a 20 DX,a 21 DX,a 22 DX,a 23 DX,a 24 DX,a 25 DX,d,e];exact H7
 all_goals
  simp only[vQ,tH,CP,↓reduceIte,jC,mh,b_,qV,Int.reduceLT,Int.reduceGT];exact⟨rfl,trivial⟩
def LZ (op:Int):Bool:=op==2||op==3||op==24
theorem bN (op:Int)(h:Hp):a_ (En G) 331 [.n op] h (.bool (LZ op)):=by
 refine cn Tryz.func331 2 ?_;refine AB ?_;cases a:(op==2)<;>cases b:(op==3)
 all_goals
  refine AZ a b ?_;exact⟨by simp [LZ,a,b],trivial⟩
def YP (op:Int)(n:Nat):Bool:=if op==23 then ((n:Int)%2==1)&&decide ((n:Int)≥3)&&decide ((n:Int)<=33) else ((n:Int)==arity op)
theorem uK (e:Ex)(h:Hp):a_ (En G) 249 [.agg (AQ e)] h (.bool (YP e.op e.args.length)):=by
 refine ACalls.pure0 rfl ?_;refine cn Tryz.func249 2 ?_;refine MF @fa @ZE @KQ ?_;generalize g:e.args.length=n;have f:(n:Int).tmod 2=(n:Int)%2:=Int.tmod_eq_emod_of_nonneg U;have d:IZ jA 3 .rem (.n (n:Int)) (.n 2)=some (.n ((n:Int)%2)):=by rw[cH _ _ _ _ _ DX,f]
 refine BL ?_ ?_<;>intro c
 .refine A7 d ?_
  cases a:((n:Int)%2==1)<;>cases b:decide ((n:Int)≥3)
  all_goals
   refine AZ a b ?_;exact⟨by unfold YP;rw[if_pos c,a,b];simp,_,rfl⟩
 .refine U4 @KQ ?_
  refine(WK G e.op _).uu ?_;exact⟨by unfold YP;rw[if_neg (by rw[c];decide)],_,rfl⟩
end Cov
namespace Cov
open Sm Bins Go.Shelf Go.RowKit
def AVC:Go.Shelf.Ren:=⟨fun|145=>232|220=>287|219=>323|217=>354|225=>355|224=>356|267=>357|266=>394|314=>395|n=>n,fun|9=>9|4=>4|59=>284|3=>3|5=>5|46=>344|146=>373|51=>364|n=>n,fun|1=>1|n=>n⟩
theorem BAB:Go.Proofs.Lays.n145 Tryz.prog AVC := {
 mixed:=BC,
 f145:=Tryz.func232.trans (congrArg some BC),
 f217:=Tryz.func354.trans (congrArg some BC),
 f219:=Tryz.func323.trans (congrArg some BC),
 f220:=Tryz.func287.trans (congrArg some BC),
 f224:=Tryz.func356.trans (congrArg some BC),
 f225:=Tryz.func355.trans (congrArg some BC),
 f266:=Tryz.func394.trans (congrArg some BC),
 f267:=Tryz.func357.trans (congrArg some BC),
 f314:=Tryz.func395.trans (congrArg some BC),
 t3:=Tryz.underlying3,
 a3:=Tryz.isAgg3,
 z3:=Tryz.sizeOf3,
 v3:=Tryz.zeroValue3,
 t4:=Tryz.underlying4,
 a4:=Tryz.isAgg4,
 z4:=Tryz.sizeOf4,
 v4:=Tryz.zeroValue4,
 t5:=Tryz.underlying5,
 a5:=Tryz.isAgg5,
 z5:=Tryz.sizeOf5,
 v5:=Tryz.zeroValue5,
 t9:=Tryz.underlying9,
 a9:=Tryz.isAgg9,
 z9:=Tryz.sizeOf9,
 v9:=Tryz.zeroValue9,
 t46:=Tryz.underlying344,
 a46:=Tryz.isAgg344,
 z46:=Tryz.sizeOf344,
 v46:=Tryz.zeroValue344,
 t51:=Tryz.underlying364,
 a51:=Tryz.isAgg364,
 z51:=Tryz.sizeOf364,
 v51:=Tryz.zeroValue364,
 t59:=Tryz.underlying284,
 a59:=Tryz.isAgg284,
 z59:=Tryz.sizeOf284,
 v59:=Tryz.zeroValue284,
 t146:=Tryz.underlying373,
 a146:=Tryz.isAgg373,
 z146:=Tryz.sizeOf373,
 v146:=Tryz.zeroValue373,
 g1:=by kernel_rfl }
structure fm (G:Nat->AV):Prop where
 kw:w9 G
 mx:∃n,G 1=.fptr 1 [[.n n]] 0 0
theorem AUC {G:Nat->AV}{g:Gh}{h:Hp}{w:World}{n:Nat}{k:IntKind}{z:Int}(S:ck (En G) g h w)(C:G n=.fptr 1 [[.int k z]] 0 0):w.cell? ⟨n,0,none⟩=some (.int k z):=by
 have:=S.glob n;rw[J',C] at this;generalize f:Value.pointer (some ⟨n,0,none⟩)=p at this
 cases this with
 | fptr J K i j E F c e H l q I A B =>
   simp only[Value.pointer.injEq,Option.some.injEq,Addr.mk.injEq] at f;obtain⟨rfl,a,_⟩:=f;have b:=A 0 0 BA BA;have d:=B 0 0 _ _ rfl rfl;generalize l 0 0=u at b d;cases d;simp only[World.cell?,S.fro _ _ q];subst a;exact b
def cutV (s:ByteArray):AV:=.tup [.str ⟨(Lib.cut s.data.toList [91]).1.toArray⟩,.str ⟨(Lib.cut s.data.toList [91]).2.1.toArray⟩,.bool (Lib.cut s.data.toList [91]).2.2]
theorem sW (G:Nat->AV)(q:fm G)(s:ByteArray)(h:Hp)(F:s.size<=1048576):a_ (En G) 232 [.str s,.str ⟨#[91]⟩] h (cutV s):=by
 refine a_.of_reads (pq 232 G BC) fun g w c S A=>?_
 obtain⟨p,f⟩:=A
 obtain⟨j,k,rfl⟩:∃a b,c = #[a,b]:=by
  obtain⟨l⟩:=c
  match l,p with
  | [a,b],_=>exact⟨a,b,rfl⟩
 obtain rfl:=(f 0 _ j rfl rfl).str_inv;obtain rfl:=(f 1 _ k rfl rfl).str_inv;obtain⟨z,C⟩:=q.mx;have B:=AUC S C;have:=Any.strings_Cut BAB s ⟨#[91]⟩ z w U B;refine⟨_,?_,this⟩;refine .tup _ _ rfl ?_;intro i v E d e
 match i,d,e with
 | 0,d,e=>simp at d e;subst d;subst e;exact .str _ _
 | 1,d,e=>simp at d e;subst d;subst e;exact .str _ _
 | 2,d,e=>simp at d e;subst d;subst e;exact .bool _ _
def KR (s:ByteArray):Option (List UInt8×UInt8) :=
 if 4<=s.data.toList.length then match s.data.toList.drop (s.data.toList.length-3) with
  | [x,d,y]=>if(y==93&&x==91&&decide (48<=d.toNat)&&decide (d.toNat<56)&&FN ⟨(s.data.toList.take (s.data.toList.length-3)).toArray⟩)=true then some (s.data.toList.take (s.data.toList.length-3),d) else none
  | _=>none
 else none
def elemV (o:Option (List UInt8×UInt8)):AV:=match o with
 | some (a,d)=>.tup [.str ⟨a.toArray⟩,.n ((d.toNat:Int)-48),.bool true]
 | none=>.tup [.str ⟨#[]⟩,.n 0,.bool false]
theorem U9 {l:List UInt8}(h:FN ⟨l.toArray⟩=true):l≠[]/\∀b∈l,b≠91:=by
 have a:XJ ⟨l.toArray⟩=true:=by
  unfold FN at h;exact(Bool.and_eq_true_iff.1 (Bool.and_eq_true_iff.1 h).1).1
 unfold XJ at a;obtain⟨c,d⟩:=Bool.and_eq_true_iff.1 a;refine⟨?_,?_⟩
 .intro e;subst e;cases c
 .intro b f e
  subst e;have:=List.all_eq_true.1 d 91 f
  revert this;decide
theorem three {l:List UInt8}(h:3<=l.length):∃a x d y,l=a++[x,d,y]:=by
 refine⟨l.take (l.length-3),?_⟩;have b:(l.drop (l.length-3)).length=3:=by simp;omega
 match hm:l.drop (l.length-3),b with
 | [x,d,y],_=>exact⟨x,d,y,by rw[<-hm,wE]⟩
theorem gR {a:List UInt8}{x d y:UInt8}(b:a≠[]):KR ⟨(a++[x,d,y]).toArray⟩=if(y==93&&x==91&&decide (48<=d.toNat)&&decide (d.toNat<56)&&FN ⟨a.toArray⟩)=true then some (a,d) else none:=by
 have c:0<a.length:=List.length_pos_iff.2 b;unfold KR;simp only;rw[if_pos NI];have e:(a++[x,d,y]).length-3=a.length:=BA;rw[e,List.drop_left,List.take_left]
theorem sR (s:ByteArray):KR s=if((Lib.cut s.data.toList [91]).2.2&&FN ⟨(Lib.cut s.data.toList [91]).1.toArray⟩)=true then match (Lib.cut s.data.toList [91]).2.1 with
  | [d,y]=>if(y==93&&decide (48<=d.toNat)&&decide (d.toNat<56))=true then some ((Lib.cut s.data.toList [91]).1,d) else none
  | _=>none
 else none:=by
 obtain⟨⟨l⟩⟩:=s
 have c:∀i,Lib.occAt l [91] i=true↔l[i]?=some 91:=by
  intro i;unfold Lib.occAt;rcases Nat.lt_or_ge i l.length with h|h
  .rw[zU h,jP h]
   simp [List.isPrefixOf];exact eq_comm
  .rw[List.drop_eq_nil_of_le h,List.getElem?_eq_none h];simp [List.isPrefixOf]
 -- an element name of the reference's kind
 have H:∀a d,a≠[]->FN ⟨a.toArray⟩=true->l=a++[91,d,93]->Lib.cut l [91]=(a,[d,93],true):=by
  intro a d F M g;obtain⟨_,E⟩:=U9 M
  have C:Lib.index l [91]=(a.length:Int):=by
   refine Lib.index_first (by rw[g];simp) ((c _).2 (by rw[g];simp)) fun j p=>?_
   rw[<-Bool.not_eq_true,c,g,List.getElem?_append_left p,jP p];intro e;exact E _ (List.getElem_mem p) (Option.some.inj e)
  unfold Lib.cut;rw[C,if_pos U,qI,g,List.take_left,<-List.drop_drop,List.drop_left];rfl
 show KR ⟨l.toArray⟩=_;rcases hcase:KR ⟨l.toArray⟩ with _|⟨a,d⟩
 .symm
  show(if _ then _ else none)=none;simp only;split
  .rename_i k
   rw[jY] at k;split
   .rename_i d y P
    split
    .rename_i G
     exfalso;simp only[jY,beq_iff_eq,decide_eq_true_eq] at G;obtain⟨⟨rfl,A⟩,B⟩:=G;obtain⟨F,_⟩:=U9 k.2;have f:Lib.cut l [91]=((Lib.cut l [91]).1,[d,93],true):=by grind
     have g:l=(Lib.cut l [91]).1++[91,d,93]:=by
      generalize (Lib.cut l [91]).1=b at f;unfold Lib.cut at f;split at f
      .rename_i O
       obtain⟨i,C⟩:∃i:Nat,Lib.index l [91]=i:=⟨(Lib.index l [91]).toNat,U⟩;rw[C] at f;simp only[qI,Prod.mk.injEq,List.length_singleton] at f;rcases Lib.index_spec l [91] with⟨I,_⟩|⟨j,I,_,J,_⟩
       .omega
       .have p:i=j:=U
        subst p;have q:=(c i).1 J;have K:i<l.length:=(List.getElem?_eq_some_iff.1 q).1;have L:l[i]=91:=by simp_all
        rw[<-f.1]
        calc l=l.take i++l.drop i:=(wE i l).symm
         _=l.take i++(l[i]::l.drop (i+1)):=by rw[zU K]
         _=l.take i++[91,d,93]:=by rw[L,f.2.1]
      .simp at f
     have:=gR (x:=91) (d:=d) (y:=93) F;rw[<-g,hcase,if_pos (by simp [k.2,A,B])] at this;cases this
    .rfl
   .rfl
  .rfl
 .have q:4<=l.length:=by
   unfold KR at hcase;simp only at hcase;split at hcase
   .assumption
   .cases hcase
  obtain⟨b,x,N,y,rfl⟩:=three (U:3<=l.length);have k:b≠[]:=by intro e;subst e;simp at q
  rw[gR k] at hcase;split at hcase
  .simp_all
  .cases hcase
end Cov
namespace Cov
open Sm Bins Go.RowKit
variable {c cb dd j k m m2 n o:Nat} {H h h':Hp} {v v1 v2:AV} {E:Env} {f:Int} (G:Nat->AV )
theorem Hy (l:List UInt8):(Lib.cut l [91]).1.length<=l.length:=by
 unfold Lib.cut;split
 .simp only[jT];exact Nat.min_le_right _ _
 .exact jF _
theorem ixl {l:List UInt8}{b:UInt8}{i:Int}(e:i=(k:Int))(a:l[k]?=some b):QY jA 9 (.str ⟨l.toArray⟩) (.n i)=some (.int .u8 b.toNat):=by
 subst e;have hk:k<l.length:=(List.getElem?_eq_some_iff.1 a).1;have:=tn ⟨l.toArray⟩ k .i64 hk;rw[this];have d:(⟨l.toArray⟩:ByteArray)[k]'hk=l[k]:=rfl;rw[d];rw[jP hk] at a;rw[Option.some.inj a]
theorem lf (l:List UInt8):(⟨l.toArray⟩:ByteArray).size=l.length:=rfl
theorem wrap_u8 {n:Int}(a:0<=n)(b:n<256):IntKind.u8.wrap n=n:=by
 unfold IntKind.wrap;simp [IntKind.bits,IntKind.signed];omega
theorem Sj (K:fm G)(s:ByteArray)(h:Hp)(P:s.size<=1048576):a_ (En G) 300 [.str s] h (elemV (KR s)):=by
 refine e7 Tryz.func300 [.tmp 2,.tmp 3,.tmp 4] ?_;refine AB ?_;refine(sW G K s h P).use ?_;have i:=sR s;have l:=Hy s.data.toList;unfold cutV
 generalize Lib.cut s.data.toList [91]=c at i l|-
 obtain⟨a,b,f⟩:=c;have L:a.length<=s.size:=BQ l;refine AB ?_;cases f
 .refine AB ?_
  exact⟨by rw[i];rfl,trivial⟩
 refine AB ?_;refine(NZ G K.kw ⟨a.toArray⟩ h (by rw[lf];omega)).uu ?_;cases N:FN ⟨a.toArray⟩
 .refine AB ?_
  exact⟨by rw[i];simp [N];rfl,trivial⟩
 refine A7 lf ?_;refine I8 ?_ ?_<;>intro p
 .refine A7 p ?_
  have I:∀d y,b≠[d,y]:=by
   intro d y e;subst e;simp at p
  have:KR s=none:=by
   rw[i];split
   .split
    .rename_i Q;exact absurd Q (I _ _)
    .rfl
   .rfl
  exact⟨by rw[this];rfl,trivial⟩
 have O:b.length=2:=by simp at p;omega
 match b,O with
 | [d,y],_ =>
   have R:QY jA 9 (.str ⟨[d,y].toArray⟩) (.n 1)=some (.int .u8 y.toNat):=ixl (k:=1) rfl rfl;have B:QY jA 9 (.str ⟨[d,y].toArray⟩) (.n 0)=some (.int .u8 d.toNat):=ixl (k:=0) rfl rfl
   have g:KR s=if(y==93&&decide (48<=d.toNat)&&decide (d.toNat<56))=true then some (a,d) else none:=by
    rw[i];simp [N]
   clear i;refine DC p R B ?_;refine I8 ?_ ?_<;>intro q
   .refine A7 q ?_
    have J:(y==93)=false:=by
     rw[<-wS];intro e;rw[beq_iff_eq] at e;subst e;simp at q
    exact⟨by rw[g,J];rfl,trivial⟩
   have J:(y==93)=true:=by
    rw[beq_iff_eq,<-UInt8.toNat_inj];simp at q;show y.toNat=93;omega
   refine AZ q B ?_;refine I8 ?_ ?_<;>intro A
   .refine A7 A ?_
    have:decide (48<=d.toNat)=false:=by simp at A|-;omega
    exact⟨by rw[g,this];simp;rfl,trivial⟩
   have C:48<=d.toNat:=by simp at A;omega
   refine AZ A B ?_;refine BL ?_ ?_<;>intro M
   .refine AB ?_
    have:decide (d.toNat<56)=false:=by simp at M|-;omega
    exact⟨by rw[g,this];simp;rfl,trivial⟩
   have F:d.toNat<56:=by simp at M;omega
   refine AB ?_;refine DI BC ?_;refine LP @Ih @yl @AE B (wrap_u8 (n:=(d.toNat:Int)-48) U U) (wrap_i64 (n:=(d.toNat:Int)-48) U U) ?_;exact⟨by rw[g];simp [J,C,F];rfl,trivial⟩
theorem oR {s:ByteArray}{u:Nat}(a:u<=s.size):IW jA h 9 (.str s) none (some (.n (u:Int))) none=some (.str (s.extract 0 u)):=by
 have:Tryz.prog.underlying 9=some .string:=BC;simp [IW,this,G8,a]
theorem HN (a b:List UInt8):(⟨(a++b).toArray⟩:ByteArray).extract 0 a.length=⟨a.toArray⟩:=by
 ext1
 simp
theorem X' (s:ByteArray)(h:Hp)(S:s.size<=1099511627776):a_ (En G) 369 [.str s] h (elemV (KR s)):=by
 refine e7 Tryz.func369 [.tmp 2,.tmp 3,.tmp 4] ?_;obtain⟨⟨l⟩⟩:=s;rw[lf] at S;rcases zC l.length 4 with R|R
 .have A:decide ((l.length:Int)<4)=true:=by simp;omega
  refine AZ lf A ?_
  have:KR ⟨l.toArray⟩=none:=by
   unfold KR;rw[if_neg];simp;omega
  exact⟨by rw[this];rfl,trivial⟩
 obtain⟨b,x,d,y,rfl⟩:=three (U:3<=l.length);have g:(b++[x,d,y]).length=b.length+3:=BA;rw[g] at S R;have C:0<b.length:=U;have V:b≠[]:=List.length_pos_iff.1 C;have i:=gR (x:=x) (d:=d) (y:=y) V;generalize Y:FN ⟨b.toArray⟩=nm at i;have L:QY jA 9 (.str ⟨(b++[x,d,y]).toArray⟩) (.n ((b.length:Int)+2))=some (.int .u8 y.toNat):=ixl (k:=b.length+2) U BA;have M:QY jA 9 (.str ⟨(b++[x,d,y]).toArray⟩) (.n ((b.length:Int)+1))=some (.int .u8 d.toNat):=ixl (k:=b.length+1) U BA;have N:QY jA 9 (.str ⟨(b++[x,d,y]).toArray⟩) (.n (b.length:Int))=some (.int .u8 x.toNat):=ixl (k:=b.length) rfl BA;have B:=oR (s:=⟨(b++[x,d,y]).toArray⟩) (u:=b.length) (h:=h) (by rw[lf];omega);rw[HN] at B;have p:(⟨(b++[x,d,y]).toArray⟩:ByteArray).size=b.length+3:=by rw[lf,g]
 generalize (⟨(b++[x,d,y]).toArray⟩:ByteArray)=s at *;have O:IntKind.i64.wrap (((b.length+3:Nat):Int)-1)=(b.length:Int)+2:=by rw[wrap_i64 U U];omega
 have P:IntKind.i64.wrap (((b.length+3:Nat):Int)-2)=(b.length:Int)+1:=by rw[wrap_i64 U U];omega
 have Q:IntKind.i64.wrap (((b.length+3:Nat):Int)-3)=(b.length:Int):=by rw[wrap_i64 U U];omega
 have X:d.toNat<256:=d.toNat_lt;have Z:IntKind.i64.wrap (d.toNat:Int)=(d.toNat:Int):=wrap_i64 U U;have w5:IntKind.i64.wrap ((d.toNat:Int)-48)=(d.toNat:Int)-48:=wrap_i64 U U;have T:decide (((b.length+3:Nat):Int)<4)=false:=by simp;omega
 refine U3 p T O P Q L M N B ?_;refine I8 ?_ ?_<;>intro q
 .refine A7 q ?_
  have K:(y==93)=false:=by
   rw[<-wS];intro e;rw[beq_iff_eq] at e;subst e;simp at q
  exact⟨by rw[i,K];simp;rfl,trivial⟩
 have K:(y==93)=true:=by
  rw[beq_iff_eq,<-UInt8.toNat_inj];simp at q;show y.toNat=93;omega
 refine U3 p q O P Q L M N B ?_;refine BL ?_ ?_<;>intro A
 .refine AB ?_
  have J:(x==91)=false:=by
   rw[<-wS];intro e;rw[beq_iff_eq] at e;subst e;simp at A
  exact⟨by rw[i,J];simp;rfl,trivial⟩
 have J:(x==91)=true:=by
  rw[beq_iff_eq,<-UInt8.toNat_inj];simp at A;show x.toNat=91;omega
 refine V3 @AE p O P Q L M N B Z w5 ?_;refine I8 ?_ ?_<;>intro a
 .refine A7 a ?_
  have:decide (48<=d.toNat)=false:=by simp at a|-;omega
  exact⟨by rw[i,this];simp;rfl,trivial⟩
 have F:48<=d.toNat:=by simp at a;omega
 refine A7 a ?_;refine I8 ?_ ?_<;>intro a
 .refine A7 a ?_
  have:decide (d.toNat<56)=false:=by simp at a|-;omega
  exact⟨by rw[i,this];simp;rfl,trivial⟩
 have I:d.toNat<56:=by simp at a;omega
 refine A7 a ?_;refine(PI G ⟨b.toArray⟩ h).use ?_;refine A7 Y ?_;cases nm
 .refine AB ?_
  exact⟨by rw[i];simp;rfl,trivial⟩
 .refine AB ?_
  exact⟨by rw[i];simp [K,J,F,I];rfl,trivial⟩
def GG (s:ByteArray):Bool:=(KR s).isSome||FN s
theorem sS (o:Option (List UInt8×UInt8)):∃a n,elemV o=.tup [.str a,.n n,.bool o.isSome]:=by
 cases o with
 | none=>exact⟨_,_,rfl⟩
 | some x=>exact⟨_,_,rfl⟩
theorem Vw (b:fm G)(s:ByteArray)(h:Hp)(g:s.size<=1048576):a_ (En G) 250 [.str s] h (.bool (GG s)):=by
 refine cn Tryz.func250 2 ?_;refine AB ?_;refine(Sj G b s h g).use ?_;obtain⟨a,n,e⟩:=sS (KR s);rw[e];refine AB ?_;cases d:(KR s).isSome
 .refine AB ?_
  refine(NZ G b.kw s h U).uu ?_;exact⟨by unfold GG;rw[d];rfl,trivial⟩
 .refine AB ?_
  exact⟨by unfold GG;rw[d];rfl,trivial⟩
theorem Yh (s:ByteArray)(h:Hp)(d:s.size<=1048576):a_ (En G) 333 [.str s] h (.bool (GG s)):=by
 refine cn Tryz.func333 2 ?_;refine AB ?_;refine(X' G s h U).use ?_;obtain⟨a,n,e⟩:=sS (KR s);rw[e];refine AB ?_;cases b:(KR s).isSome
 .refine AB ?_
  refine(PI G s h).uu ?_;exact⟨by unfold GG;rw[b];rfl,trivial⟩
 .refine AB ?_
  exact⟨by unfold GG;rw[b];rfl,trivial⟩
def QU (s:ByteArray):Bool:=s.toList==(⟨#[]⟩:ByteArray).toList
def dy (e:Ex):Bool:=decide (e.op<1)||decide (e.op>25)
def eN (e:Ex):Bool:=((e.op==1)&&(decide (e.n<0)||decide (e.n>65535)))||(!(e.op==1) && !(e.n==0))
def XZ (e:Ex):Bool:=(!LZ e.op && !QU e.name) || !YP e.op e.args.length
def XY (e:Ex):Bool:=((e.op==2) && !GG e.name)||(((e.op==3)||(e.op==24)) && !FN e.name)
def IQ (e:Ex):Int:=if dy e then 1 else if eN e then 1 else if XZ e then 1 else if XY e then 7 else 0
theorem Y' (N:fm G)(e:Ex)(h:Hp)(Q:e.name.size<=1048576):a_ (En G) 172 [.agg (AQ e)] h (.n (IQ e)):=by
 refine ACalls.pure0 rfl ?_;refine cn Tryz.func172 2 ?_;refine LM @fa @KQ ?_;refine SI (fun F H=>F 3=.bool (LZ e.op)/\F 1=.ptr h.length 0 0/\H=h++[qH 4 [AQ e]]) ?_ ?_
 .cases g:(e.op==2)<;>cases i:(e.op==3)
  all_goals
   refine MF g i @KQ ?_;exact⟨by simp [LZ,g,i],trivial,trivial⟩
 rintro F H ⟨d,a,rfl⟩;refine MF a d @KQ ?_;refine SI (fun F H=>F 17=.bool (dy e)/\F 3=.bool (LZ e.op)/\F 1=.ptr h.length 0 0/\H=h++[qH 4 [AQ e]]) ?_ ?_
 .cases g:decide (e.op<1)
  all_goals
   refine N8 g a d @KQ ?_;exact⟨by simp [dy,g],trivial,trivial,trivial⟩
 clear a d;rintro F H ⟨f17,d,a,rfl⟩;refine A7 f17 ?_;refine BL ?_ ?_<;>intro B
 .refine AB ?_
  exact⟨by unfold IQ;rw[if_pos B],_,rfl⟩
 refine N8 a d @KQ @dE ?_;refine SI (fun F H=>F 26=.bool (eN e)/\F 3=.bool (LZ e.op)/\F 1=.ptr h.length 0 0/\H=h++[qH 4 [AQ e]]) ?_ ?_
 .cases K:(e.op==1)<;>cases g:decide (e.n<0)<;>cases i:decide (e.n>65535)<;>cases l:(e.n==0)
  all_goals
   simp only[vQ,EM,SX,iD,iE,qx,CP,GV,↓reduceIte,jC,qL,b_,YU,rY,bne,K,g,i,l,a,d,EN ct,KQ,dE];exact⟨by simp [eN,K,g,i,l],trivial,trivial,trivial⟩
 clear a d f17;rintro F H ⟨q,d,a,rfl⟩;refine A7 q ?_;refine BL ?_ ?_<;>intro J
 .refine AB ?_
  exact⟨by unfold IQ;rw[if_neg (by simp [B]),if_pos J],_,rfl⟩
 refine MF a d @SS ?_;refine SI (fun F H=>F 50=.bool (XZ e)/\F 3=.bool (LZ e.op)/\F 1=.ptr h.length 0 0/\H=h++[qH 4 [AQ e]]) ?_ ?_
 .cases A:LZ e.op<;>cases C:QU e.name
  all_goals
   have L:=C;unfold QU at L;simp only[vQ,EM,SX,iD,iE,CP,GV,kX,tJ,↓reduceIte,jC,qL,b_,kH,bne,A,L,a,d,EN eo,SS,ka]
  .exact⟨by simp [XZ,A,C],trivial,trivial,trivial⟩
  all_goals
   refine(uK G e _).use ?_;simp only[vQ,EM,CP,iF,WX,↓reduceIte,jC,bne,A,a,d];exact⟨by simp [XZ,A,C],trivial,trivial,trivial⟩
 clear a d q;rintro F H ⟨I,d,a,rfl⟩;refine A7 I ?_;refine BL ?_ ?_<;>intro O
 .refine AB ?_
  exact⟨by unfold IQ;rw[if_neg (by simp [B]),if_neg (by simp [J]),if_pos O],_,rfl⟩
 refine N8 a d @KQ @SS ?_
 have fin:∀b,XY e=b->IQ e=if b then 7 else 0:=by
  intro b P;unfold IQ;rw[if_neg (by simp [B]),if_neg (by simp [J]),if_neg (by simp [O]),P]
 cases g:(e.op==2)
 .refine aZ g a d @KQ @SS ?_
  cases i:(e.op==3)<;>cases l:(e.op==24)
  all_goals
   refine WU i l a d @KQ @SS ?_
  .exact⟨by rw[fin false (by simp [XY,g,i,l])];rfl,_,rfl⟩
  all_goals
   refine(NZ G N.kw e.name _ U).use ?_;cases p:FN e.name
   .refine AB ?_
    exact⟨by rw[fin true (by simp [XY,g,i,l,p])];rfl,_,rfl⟩
   .refine AB ?_
    exact⟨by rw[fin false (by simp [XY,g,i,l,p])];rfl,_,rfl⟩
 .have M:e.op=2:=BQ g
  refine aZ g a d @KQ @SS ?_;refine(Vw G N e.name _ Q).use ?_;cases p:GG e.name
  .refine AB ?_
   exact⟨by rw[fin true (by simp [XY,g,p])];rfl,_,rfl⟩
  .refine MF a @KQ M ?_
   exact⟨by rw[fin false (by simp [XY,M,p])];rfl,_,rfl⟩
def tO (e:Ex):Bool:=dy e||decide (e.n<0)||decide (e.n>65535)||(!(e.n==0) && !(e.op==1))||(!QU e.name && !LZ e.op)
def og (op:Int)(n:Nat):Bool:=((op==23)&&(decide ((n:Int)<3)||decide ((n:Int)>33)||((n:Int)%2==0)))||(!(op==23) && !((n:Int)==arity op))
theorem K6 (op:Int)(n:Nat):og op n = !YP op n:=by
 unfold og YP;rcases hc:(op==23) with _|_
 .simp
 .grind
theorem K7 (e:Ex):(tO e||og e.op e.args.length)=(dy e||eN e||XZ e):=by
 rw[K6];unfold tO eN XZ;rcases h1:(e.op==1) with _|_
 .grind
 .grind
theorem jN (e:Ex):IQ e=if tO e then 1 else if og e.op e.args.length then 1 else if XY e then 7 else 0:=by
 have:=K7 e;unfold IQ
 revert this
 cases tO e<;>cases og e.op e.args.length<;>cases dy e<;>cases eN e<;>cases XZ e<;>simp
theorem Xq (e:Ex)(h:Hp)(S:e.name.size<=1048576):a_ (En G) 310 [.agg (AQ e)] h (.n (IQ e)):=by
 refine ACalls.pure0 rfl ?_;refine cn Tryz.func310 2 ?_;refine LM @fa @KQ ?_;refine SI (fun F H=>F 42=.bool (tO e)/\F 1=.ptr h.length 0 0/\H=h++[qH 4 [AQ e]]) ?_ ?_
 .cases i:decide (e.op<1)
  case true =>
   refine A7 i ?_;exact⟨by simp [tO,dy,i],trivial,trivial⟩
  refine MF i @KQ @dE ?_;cases a:decide (e.op>25)
  case true =>
   refine A7 a ?_;exact⟨by simp [tO,dy,a],trivial,trivial⟩
  refine MF a @KQ @dE ?_;have Q:dy e=false:=by unfold dy;rw[i,a];rfl
  cases l:decide (e.n<0)
  case true =>
   refine A7 l ?_;exact⟨by simp only[tO,l];simp,trivial,trivial⟩
  refine MF l @KQ @dE ?_;cases p:decide (e.n>65535)
  case true =>
   refine A7 p ?_;exact⟨by simp only[tO,p];simp,trivial,trivial⟩
  simp only[vQ,EM,CP,↓reduceIte,jC,b_,rY,p,bne,EN ct,EN eo,KQ,dE,SS]
  have fin:∀b,((!(e.n==0) && !(e.op==1))||(!QU e.name && !LZ e.op))=b->tO e=b:=by
   intro b L;unfold tO;rw[Q,l,p];simpa using L
  cases C:(e.n==0)<;>cases I:(e.op==1)<;>cases J:QU e.name
  all_goals
   have N:=J;unfold QU at N;simp only[vQ,EM,SX,iD,iE,qx,CP,GV,kX,tJ,↓reduceIte,jC,qL,b_,YU,kH,bne,C,I,N,EN ct,EN eo,KQ,dE,SS]
  all_goals first
   | exact⟨by rw[fin _ rfl];simp [C,I,J],trivial,trivial⟩
   | refine(bN G e.op _).uu ?_
     exact⟨by rw[fin _ rfl];simp [C,I,J],trivial,trivial⟩
 rintro F H ⟨B,d,rfl⟩;refine A7 B ?_;refine BL ?_ ?_<;>intro M
 .refine AB ?_
  exact⟨by rw[jN,if_pos M],_,rfl⟩
 refine MF d @KQ @ZE ?_;generalize V:e.args.length=n;have T:(n:Int).tmod 2=(n:Int)%2:=Int.tmod_eq_emod_of_nonneg U;have R:IZ jA 3 .rem (.n (n:Int)) (.n 2)=some (.n ((n:Int)%2)):=by rw[cH _ _ _ _ _ DX,T]
 refine SI (fun F H=>F 73=.bool (og e.op n)/\F 1=.ptr h.length 0 0/\H=h++[qH 4 [AQ e]]) ?_ ?_
 .cases i:(e.op==23)
  .simp only[vQ,EM,SX,iD,qx,CP,GV,↓reduceIte,jC,b_,YU,bne,i,d,EN ct,KQ]
   refine(Zi G e.op _).use ?_;simp only[vQ,EM,SX,CP,↓reduceIte,jC,b_,bne];exact⟨by unfold og;rw[i];simp,d,trivial⟩
  .cases a:decide ((n:Int)<3)<;>cases l:decide ((n:Int)>33)<;>cases p:((n:Int)%2==0)
   all_goals
    simp only[vQ,EM,SX,iD,iE,qx,CP,GV,↓reduceIte,jC,qL,b_,YU,bne,i,a,l,p,R,d,EN ct,KQ];exact⟨by unfold og;rw[i,a,l,p];simp,trivial,trivial⟩
 clear d B;rintro F H ⟨K,d,rfl⟩;refine A7 K ?_;subst V;refine BL ?_ ?_<;>intro P
 .refine AB ?_
  exact⟨by rw[jN,if_neg (by simp [M]),if_pos P],_,rfl⟩
 refine MF d @KQ @SS ?_
 have fin:∀b,XY e=b->IQ e=if b then 7 else 0:=by
  intro b L;rw[jN,if_neg (by simp [M]),if_neg (by simp [P]),L]
 cases a:(e.op==2)
 .refine N8 a d @KQ @SS ?_
  refine(bN G e.op _).use ?_;cases g:LZ e.op
  .have q:XY e=false:=by
    unfold LZ at g;simp only[Bool.or_eq_false_iff] at g;simp [XY,g.1.1,g.1.2,g.2]
   refine AB ?_;exact⟨by rw[fin false q];rfl,_,rfl⟩
  have q:XY e = !FN e.name:=by
   unfold LZ at g;rw[a] at g;simp only[wF] at g;unfold XY;rw[a,g];simp
  simp only[vQ,EM,SX,CP,↓reduceIte,jC,b_,YU,kH,bne,a,d,EN eo,EN ct,KQ,SS];refine(PI G e.name _).use ?_;cases A:FN e.name
  .refine AB ?_
   exact⟨by rw[fin true (by rw[q,A];rfl)];rfl,_,rfl⟩
  .refine AB ?_
   exact⟨by rw[fin false (by rw[q,A];rfl)];rfl,_,rfl⟩
 .have O:e.op=2:=BQ a
  have q:XY e = !GG e.name:=by
   unfold XY;rw[O];simp
  refine N8 a d @KQ @SS ?_;refine(Yh G e.name _ S).use ?_;cases A:GG e.name
  .refine AB ?_
   exact⟨by rw[fin true (by rw[q,A];rfl)];rfl,_,rfl⟩
  .refine LM d @KQ ?_
   refine(bN G e.op _).use ?_;have g:LZ e.op=true:=by rw[O];rfl
   simp only[vQ,EM,SX,iD,CP,GV,↓reduceIte,jC,qL,b_,YU,bne,g,d,EN ct,KQ,a];exact⟨by rw[fin false (by rw[q,A];rfl)];rfl,_,rfl⟩
theorem je:KN jA 230=some false:=BC
theorem l_:da jA 230=some 1:=BC
theorem OH (h:Hp):H9 jA h 79=some (.ptr h.length 0 0,h++[qH 4 [[.n 0,.n 0,.str ⟨#[]⟩,.sl .nil 0 []]]]):=FZ (row:=[.n 0,.n 0,.str ⟨#[]⟩,.sl .nil 0 []]) BC
theorem iN (h:Hp)(e:Ex)(row:List AV)(a:row.length=4):D7 jA (h++[qH 4 [row]]) 79 (.ptr h.length 0 0) (.agg (AQ e))=some (h++[qH 4 [AQ e]]):=by
 rw[VH (SC (TL e)) (by rw[EF];exact G9) (by rw[EF,a];exact jF _)];have:splice row 0 (AQ e)=AQ e:=by unfold splice;simp [EF,a]
 rw[this]
theorem BA7 (h:Hp):H9 jA h 38=some (.ptr h.length 0 0,h++[qH 1 [[.n 0]]]):=FZ (row:=[.n 0]) BC
theorem A5 (h:Hp):H9 jA h 3=some (.ptr h.length 0 0,h++[qH 1 [[.n 0]]]):=FZ (row:=[.n 0]) BC
theorem Cy (h:Hp):H9 jA h 230=some (.ptr h.length 0 0,h++[qH 1 [[.nilfn]]]):=FZ (row:=[.nilfn]) BC
theorem IA {h:Hp}{t:TypeId}{b:Nat}{v:AV}(a:KN jA t=some false)(d:h[b]?=some (qH 1 [[v]])):BR jA h t (.ptr b 0 0)=some v:=by
 rw[BJ a d (row:=[v]) rfl];rfl
theorem WC {t:TypeId}{b:Nat}{u:AV}(e:da jA t=some 1)(d:JI u=some [u])(a:h[b]?=some (qH 1 [[v]])):D7 jA h t (.ptr b 0 0) u=some (h.set b (qH 1 [[u]])):=by
 rw[IE d e a (row:=[v]) rfl BA];rfl
theorem BAT (h:Hp)(f:Fn)(a b:List AV):OU h (.fn f a b)=some (.ptr h.length 0 0,h++[qH 1 [[.fn f a b]]]):=rfl
def ig (c:Nat)(h h':Hp):Prop:=h.length<=h'.length/\∀b,b<h.length->b≠c->h'[b]?=h[b]?
theorem ig.refl (c:Nat)(h:Hp):ig c h h:=⟨jF _,fun _ _ _=>rfl⟩
theorem ig.trans {a b d:Hp}(e:ig c a b)(h2:ig c b d):ig c a d :=
 ⟨qW e.1 h2.1,fun i l g=>by rw[h2.2 i (Nat.lt_of_lt_of_le l e.1) g,e.2 i l g]⟩
theorem ig.app (c:Nat)(h x:Hp):ig c h (h++x):=⟨BA,fun i a _=>qF a⟩
theorem ig.set (c:Nat)(h:Hp)(x:bO):ig c h (h.set c x):=⟨BA,fun i _ a=>by rw[zW,if_neg (fun e=>a e.symm)]⟩
theorem ig.get {b:Nat}{x:bO}(e:ig c h h')(d:h[b]?=some x)(a:b≠c):h'[b]?=some x:=by
 rw[e.2 b (AY d) a];exact d
theorem ig.above (b:ig c h h')(d:h.length<=c):∃x,h'=h++x:=by
 refine⟨h'.drop h.length,?_⟩
 have:h'.take h.length=h:=by
  refine List.ext_getElem? fun i=>?_
  rcases zC i h.length with a|a
  .rw[List.getElem?_take_of_lt a,b.2 i a U]
  .grind
 conv=>lhs;rw[<-wE h.length h',this]
def run (upd:Ex->Int->Int)(a:Int->Bool):List Ex->Int->Int×Bool
 | [],z=>(z,true)
 | e::es,z=>if a (upd e z) then run upd a es (upd e z) else (upd e z,false)
theorem run_go {upd:Ex->Int->Int}{a:Int->Bool}:∀ {xs:List Ex} (ys:List Ex) {z b:Int},run upd a xs z=(b,true)->run upd a (xs++ys) z=run upd a ys b
 | [],ys,z,b,h=>by cases h;rfl
 | x::xs,ys,z,b,h=>by
   simp only[run,zG] at h|-
   split at h
   .rename_i d;rw[if_pos d];exact run_go ys h
   .cases h
theorem run_stop {upd:Ex->Int->Int}{a:Int->Bool}:∀ {xs:List Ex} (ys:List Ex) {z b:Int},run upd a xs z=(b,false)->run upd a (xs++ys) z=(b,false)
 | [],ys,z,b,h=>by cases h
 | x::xs,ys,z,b,h=>by
   simp only[run,zG] at h|-
   split at h
   .rename_i d;rw[if_pos d];exact run_stop ys h
   .rename_i d;rw[if_neg d];exact h
theorem MI (xs:List Ex)(j:Nat)(a:j<xs.length):FV (xs.take (j+1))=FV (xs.take j)++pre xs[j]:=by
 rw[jW a,NY];simp [FV]
theorem WE {a:Ex}:∀ {xs:List Ex},a∈xs->∀x∈pre a,x∈FV xs
 | [],h,_,_=>by cases h
 | y::ys,h,x,b=>by
   simp only[FV,zQ]
   cases zM.1 h with
   | inl e=>subst e;exact .inl b
   | inr e=>exact .inr (WE e x b)
def vz (G:Nat->AV)(k:FuncId)(upd:Ex->Int->Int)(a:Int->Bool)(e:Ex):Prop :=
 ∀(h:Hp) (c:Nat) (z:Int),h[c]?=some (qH 1 [[.n z]])->ACalls (En G) k [.agg (AQ e),.ptr c 0 0] h fun v h'=>v=.bool (a (upd e z))/\ig c h h'/\h'[c]?=some (qH 1 [[.n (upd e z)]])
theorem Zz (k:FuncId)(upd:Ex->Int->Int)(a:Int->Bool)(c C q:Nat)(hv:C≠c)(hd:q≠c)(e:Ex):
  wt e<=1099511627776->(∀x∈pre e,vz G k upd a x)->∀(h:Hp) (z:Int),h[c]?=some (qH 1 [[.n z]])->h[C]?=some (qH 1 [[.fn (.func k) [] [.ptr c 0 0]]]) ->
   h[q]?=some (qH 1 [[.fn (.func 248) [] [.ptr C 0 0,.ptr q 0 0]]]) ->
   ACalls (En G) 248 [.agg (AQ e),.ptr C 0 0,.ptr q 0 0] h fun v h'=>v=.bool (run upd a (pre e) z).2/\ig c h h'/\h'[c]?=some (qH 1 [[.n (run upd a (pre e) z).1]]):=by
 induction e using Ex.induct with|h e ih=>?_
 intro hw p h z Z B P;have a3:=AY Z;have a2:e.args.length<=1099511627776:=by have:=YB e.args;have:=OI e;omega
 refine cn Tryz.func248 4 ?_;simp only[vQ,CP,V8,zX,zG,↓reduceIte,jC,b_,fa,IA je (AU B),ka];refine(p e (by rw[pre_eq];simp) _ c z (AU Z)).mono ?_;rintro v Y ⟨rfl,K,J⟩;have b:=(ig.app c h _).trans K;have T:Y[h.length]?=some (qH 4 [AQ e]):=K.get (A8 _ _) U;have d:run upd a (pre e) z=if a (upd e z) then run upd a (FV e.args) (upd e z) else (upd e z,false):=by rw[pre_eq];rfl
 refine AB ?_;cases M:a (upd e z)
 .refine AB ?_
  rw[d,M];exact⟨rfl,b,J⟩
 rw[M,if_pos rfl] at d;have a1:=b.get B hv;have a0:=b.get P hd;have l3:BR jA Y 23 (.ptr h.length 0 3)=some (.sl e.m 4 (e.args.map AQ)):=by rw[BJ MQ T (row:=AQ e) rfl,ZE]
 refine A7 l3 ?_;refine BB (fun n F H=>∃j Q,n+j=e.args.length/\F 1=.ptr C 0 0/\F 2=.ptr q 0 0/\F 12=.sl e.m 4 (e.args.map AQ)/\F 13=.n e.args.length/\F 14=.n (j:Nat)/\ig c h H/\H[c]?=some (qH 1 [[.n Q]])/\run upd a (FV (e.args.take j)) (upd e z)=(Q,true)) e.args.length ⟨0,upd e z,BA,FB,FB,FB,FB,FB,b,J,rfl⟩ ?_;rintro n F H ⟨j,Q,hj,f1,X,f12,f13,f14,R,N,S⟩;refine AZ f13 f14 ?_;refine DV ?_ ?_<;>intro g
 .have O:H[q]?=some (qH 1 [[.fn (.func 248) [] [.ptr C 0 0,.ptr q 0 0]]]):=R.get P hd
  have V:H[C]?=some (qH 1 [[.fn (.func k) [] [.ptr c 0 0]]]):=R.get B hv;simp only[vQ,CP,zX,zG,↓reduceIte,jC,b_,P5,jQ,f12,f14,CE g,DL NU G9 EF g,OH,iN _ _ [.n 0,.n 0,.str ⟨#[]⟩,.sl .nil 0 []] rfl,X,IA je (AU O),ka];have i:e.args[j]∈e.args:=jH g;refine(ih e.args[j] i (by have:=YA i;have:=OI e;omega) (fun x hx=>p x (by rw[pre_eq];exact List.mem_cons_of_mem _ (WE i x hx))) _ Q (AU N) (AU V) (AU O)).mono ?_;rintro v h2 ⟨rfl,L,A⟩;have I:=R.trans ((ig.app c H _).trans L)
  have l:FV e.args=FV (e.args.take j)++(pre e.args[j]++FV (e.args.drop (j+1))):=by
   rw[<-zA,<-MI _ _ g,<-NY,wE]
  refine AB ?_;rcases hrr:run upd a (pre e.args[j]) Q with⟨z2,b2⟩;rw[hrr] at A;cases b2
  .refine AB ?_
   have:run upd a (pre e) z=(z2,false):=by rw[d,l,run_go _ S];exact run_stop _ hrr
   rw[this];exact⟨rfl,I,A⟩
  .refine LP f1 X f12 f13 f14 (CZ j) ?_
   refine⟨n-1,U,j+1,z2,U,trivial,trivial,trivial,trivial,rfl,I,A,?_⟩;rw[MI _ _ g,run_go _ S];exact hrr
 .refine AB ?_
  rw[jK U] at S;rw[d,S];exact⟨rfl,R,N⟩
theorem vL (k:FuncId)(upd:Ex->Int->Int)(a:Int->Bool)(c:Nat)(e:Ex)(R:wt e<=1099511627776)(g:∀x∈pre e,vz G k upd a x)(h:Hp)(z:Int)(N:h[c]?=some (qH 1 [[.n z]])):
  ACalls (En G) 170 [.agg (AQ e),.fn (.func k) [] [.ptr c 0 0]] h fun _ h'=>ig c h h'/\h'[c]?=some (qH 1 [[.n (run upd a (pre e) z).1]]):=by
 have O:=AY N;refine e7 Tryz.func170 [] ?_;refine DC @fa @BAT Cy ?_;have g0:(h++[qH 4 [AQ e]]++[qH 1 [[AV.fn (.func k) [] [.ptr c 0 0]]]]++[qH 1 [[AV.nilfn]]])[(h++[qH 4 [AQ e]]++[qH 1 [[AV.fn (.func k) [] [.ptr c 0 0]]]]).length]?=some (qH 1 [[.nilfn]]):=A8 _ _;simp only[vQ,CP,↓reduceIte,jC,b_,WC l_ (CH _ _ _) g0]
 generalize q:(h++[qH 4 [AQ e]]++[qH 1 [[AV.fn (.func k) [] [.ptr c 0 0]]]]).length=d at g0|-
 generalize A:(h++[qH 4 [AQ e]]).length=vb;have Q:vb=h.length+1:=by rw[<-A];simp
 have P:d=h.length+2:=by rw[<-q];simp
 generalize i:(h++[qH 4 [AQ e]]++[qH 1 [[AV.fn (.func k) [] [.ptr c 0 0]]]]++[qH 1 [[AV.nilfn]]]).set d (qH 1 [[AV.fn (.func 248) [] [.ptr vb 0 0,.ptr d 0 0]]])=H;have B:H[d]?=some (qH 1 [[.fn (.func 248) [] [.ptr vb 0 0,.ptr d 0 0]]]):=by rw[<-i];exact CO g0
 have F:H[vb]?=some (qH 1 [[.fn (.func k) [] [.ptr c 0 0]]]):=by grind
 have I:H[h.length]?=some (qH 4 [AQ e]):=by grind
 have J:H[c]?=some (qH 1 [[.n z]]):=by grind
 have K:ig c h H:=by
  refine⟨by rw[<-i];simp,fun b L M=>?_⟩;obtain⟨x,C⟩:∃x,h[b]?=some x:=⟨_,jP L⟩;rw[<-i,C];exact DU (AU (AU (AU C))) U
 simp only[vQ,CP,zX,zG,↓reduceIte,jC,b_,IA je B,IL I];refine(Zz G k upd a c vb d U U e R g H z J F B).mono ?_;rintro v h' ⟨rfl,p,l⟩;refine A7 @sF ?_;exact⟨K.trans p,l⟩
theorem Uz (e:Ex):vz G 251 (fun _ z=>IntKind.i64.wrap (z+1)) (fun _=>true) e:=by
 intro h c z a;have b:=AY a;refine cn Tryz.func251 3 ?_;simp only[vQ,CP,V8,↓reduceIte,jC,b_,jQ,fa,IA ct (AU a),WC iz (aY _ _) (AU a)];exact⟨trivial,(ig.app c h _).trans (ig.set c _ _),CO (AU a)⟩
theorem T8 (d:fm G)(e:Ex)(i:e.name.size<=1048576):vz G 171 (fun e _=>IQ e) (fun z=>z==0) e:=by
 intro h c z a;have g:=AY a;refine cn Tryz.func171 3 ?_;refine AZ @fa @ka ?_;refine(Y' G d e _ i).use ?_;have b:=CO (y:=qH 1 [[.n (IQ e)]]) (AU (x:=qH 4 [AQ e]) a);simp only[vQ,CP,↓reduceIte,jC,b_,jQ,WC xo (aY _ _) (AU a),IA tc b];exact⟨trivial,(ig.app c h _).trans (ig.set c _ _),b⟩
theorem Ec:∀(xs:List Ex) (n:Nat),n+xs.length<=1099511627776->run (fun _ z=>IntKind.i64.wrap (z+1)) (fun _=>true) xs (n:Int)=(((n+xs.length:Nat):Int),true)
 | [],n,_=>rfl
 | x::xs,n,h=>by
   simp only[zF] at h;simp only[run,if_true];rw[wrap_succ U,Ec xs (n+1) U,zF];congr 1;omega
def errs (xs:List Ex):Int:=xs.foldl (fun z e=>if z=0 then IQ e else z) 0
theorem zc:∀(xs:List Ex) (z:Int),z≠0->xs.foldl (fun z e=>if z=0 then IQ e else z) z=z
 | [],_,_=>rfl
 | x::xs,z,h=>by rw[qU,if_neg h];exact zc xs z h
theorem Ed:∀(xs:List Ex),(run (fun e _=>IQ e) (fun z=>z==0) xs 0).1=errs xs
 | []=>rfl
 | x::xs=>by
   simp only[run,errs,qU,if_true];rcases hn:(IQ x==0) with _|_
   .have:IQ x≠0:=BQ hn
    rw[zc _ _ this];rfl
   .have:IQ x=0:=BQ hn
    rw[this];simp only[if_true];exact Ed xs
theorem Eo {x e:Ex}(b:x∈pre e):x.name.size<=wt e:=by
 induction e using Ex.induct with|h e ih=>?_
 rw[pre_eq] at b;have p:=OI e;rcases zM.1 b with rfl|b
 .omega
 have:∀l:List Ex,(∀a∈l,x∈pre a->x.name.size<=wt a)->x∈FV l->x.name.size<=wts l:=by
  intro l
  induction l with
  | nil=>intro _ h;simp [FV] at h
  | cons y l g =>
    intro i h;simp only[FV,zQ] at h;simp only[wts];rcases h with h|h
    .have:=i y BA h;omega
    .have:=g (fun a d=>i a (by simp [d])) h;omega
 have:=this e.args (fun a d=>ih a d) b;omega
theorem ed (e:Ex)(h:Hp)(i:wt e<=1099511627776):a_ (En G) 174 [.agg (AQ e)] h (.n (pre e).length):=by
 refine ACalls.pure0 rfl ?_;refine cn Tryz.func174 2 ?_;have d:=A8 (h++[qH 4 [AQ e]]) (qH 1 [[.n 0]]);have g:(h++[qH 4 [AQ e]]++[qH 1 [[.n 0]]]).set (h++[qH 4 [AQ e]]).length (qH 1 [[.n 0]])=h++[qH 4 [AQ e]]++[qH 1 [[.n 0]]]:=nH _ _ _;simp only[vQ,CP,V8,SY,↓reduceIte,jC,b_,jQ,fa,A5,WC iz (aY _ _) d,g,IL (AU (A8 h _))];refine(vL G 251 _ _ _ e i (fun x _=>Uz G x) _ 0 d).mono ?_;rintro v h' ⟨b,a⟩;refine A7 (IA ct a) ?_;have:=Ec (pre e) 0 (by have:=YM e;omega);simp only[jG] at this;exact⟨by rw[show(0:Int)=((0:Nat):Int) from rfl,this],(((ig.app _ h _).trans (ig.app _ _ _)).trans b).above BA⟩
theorem Wm (e:Ex):wt e<=1099511627776->∀h:Hp,a_ (En G) 173 [.agg (AQ e)] h (.n (dep e)):=by
 induction e using Ex.induct with|h e ih=>?_
 intro A h;have q:e.args.length<=1099511627776:=by have:=YB e.args;have:=OI e;omega
 refine ACalls.pure0 rfl ?_;refine cn Tryz.func173 2 ?_;refine LM @fa @ZE ?_;have i:dep e<=1099511627776:=qW (I_ e) A;refine BB (fun n F H=>∃j,n+j=e.args.length/\F 3=.n (deps (e.args.take j):Nat)/\F 7=.sl e.m 4 (e.args.map AQ)/\F 8=.n e.args.length/\F 9=.n (j:Nat)/\∃x,H=h++x) e.args.length ⟨0,BA,FB,FB,FB,FB,⟨_,rfl⟩⟩ ?_;rintro n F H ⟨j,B,d,l,p,g,x,rfl⟩;refine AZ p g ?_;refine DV ?_ ?_<;>intro a
 .have b:e.args[j]∈e.args:=jH a
  simp only[vQ,CP,↓reduceIte,jC,b_,P5,jQ,d,l,g,CE a,DL NU G9 EF a,OH,iN _ _ [.n 0,.n 0,.str ⟨#[]⟩,.sl .nil 0 []] rfl,ka];refine(ih e.args[j] b (by have:=YA b;have:=OI e;omega) _).use ?_;refine LP @ri @pX l p g (CZ j) ?_;refine⟨n-1,U,j+1,U,?_,trivial,trivial,rfl,_,by rw[zA]⟩;rw[yO _ _ a];congr 1;omega
 .rw[jK U] at d
  rw[Y0] at i|-
  refine AZ d (CZ (deps e.args)) ?_;exact⟨trivial,x,rfl⟩
def c9 (e:Ex):Int:=if errs (pre e)=0/\(24<dep e\/400<(pre e).length) then 2 else errs (pre e)
def WN (e:Ex):Prop:=wt e<=274877906944/\∀x∈pre e,x.name.size<=1048576
theorem r9 {e:Ex}(b:wt e<=1048576):WN e:=⟨U,fun x a=>by have:=Eo a;omega⟩
theorem dC (C:fm G)(e:Ex)(h:Hp)(l:WN e):a_ (En G) 96 [.agg (AQ e)] h (.n (c9 e)):=by
 refine ACalls.pure0 rfl ?_;refine cn Tryz.func96 2 ?_;have A:=A8 (h++[qH 4 [AQ e]]) (qH 1 [[.n 0]]);have F:(h++[qH 4 [AQ e]]++[qH 1 [[.n 0]]]).set (h++[qH 4 [AQ e]]).length (qH 1 [[.n 0]])=h++[qH 4 [AQ e]]++[qH 1 [[.n 0]]]:=nH _ _ _;have q:=AU (x:=qH 1 [[.n 0]]) (A8 h (qH 4 [AQ e]));have J:=l.1;simp only[vQ,CP,V8,SY,↓reduceIte,jC,b_,jQ,fa,BA7,WC xo (aY _ _) A,F,IL q];refine(vL G 171 _ _ _ e U (fun x I=>T8 G C x (l.2 x I)) _ 0 A).mono ?_;rintro v h' ⟨g,b⟩;rw[Ed] at b;have d:=g.get q BA;have a:=(((ig.app _ h _).trans (ig.app _ _ _)).trans g).above (BA:h.length<=(h++[qH 4 [AQ e]]).length);refine A7 (IA tc b) ?_;rcases he:(errs (pre e)==0) with _|_
 .refine A7 (IA tc b) ?_
  have:errs (pre e)≠0:=BQ he;exact⟨by unfold c9;rw[if_neg (fun B=>this B.1)],a⟩
 have i:errs (pre e)=0:=BQ he;refine A7 (IL d) ?_;refine(Wm G e U _).uu ?_;refine I8 ?_ ?_<;>intro p
 .refine A7 p ?_
  exact⟨by unfold c9;rw[if_pos ⟨i,.inl (by simp at p;omega)⟩],a⟩
 refine AZ p (IL d) ?_;refine(ed G e _ U).uu ?_;refine BL ?_ ?_<;>intro l
 .refine AB ?_
  exact⟨by unfold c9;rw[if_pos ⟨i,.inr (by simp at l;omega)⟩],a⟩
 .refine A7 (IA tc b) ?_
  exact⟨by unfold c9;rw[if_neg (fun B=>by simp at l p;omega)],a⟩
theorem P8 (a:fm G)(e:Ex)(h:Hp)(b:wt e<=1048576):a_ (En G) 96 [.agg (AQ e)] h (.n (c9 e)):=dC G a e h (r9 b)
theorem UQ {H:Hint}{x y:Code}{F:Fr}{Q:e8->Fr->Hp->Prop}{b:Bool}(N R:Fr->Hp->Prop)(g:b=true->dh E H x F h (sy N R))(h2:b=false->dh E H y F h (sy N R))(a:∀F h,N F h->Q .normal F h)(d:∀F h,R F h->Q .ret F h):
 mE E H x y F h Q (.bool b):=⟨fun e=>oC N R (g e) a d,fun e=>oC N R (h2 e) a d⟩
def db (v:AV)(b:Nat):Prop:=match v with
 | .own a _ _=>a=b
 | _=>False
def sv (h:Hp)(m:Nat)(v:AV):Prop:=∃a:List ByteArray,a.length<=m/\((a=[]/\∃k,v=.sl .nil k [])\/∃b,v=.own b 0 a.length/\h[b]?=some (qH 1 (a.map cu)))
theorem AY7 (k:Nat)(v:ByteArray)(h:Hp):a_ (En G) 311 [.sl .nil k [],.str v] h (.bool false):=by
 refine cn Tryz.func311 4 ?_;refine AB ?_;refine BB (fun n F H=>F 0=.sl .nil k []/\F 5=.n 0/\H=h) 0 ⟨rfl,rfl,rfl⟩ ?_;rintro n F H ⟨a,b,rfl⟩;refine LM a b ?_;have:decide ((0:Int)<((0:Nat):Int))=false:=BA;refine A7 @this ?_;exact H7
theorem c8 {α:Type}{f:α->List AV}{xs:List α}(hk:k<xs.length):(xs.map f)[k]?=some (f xs[k]):=by simp_all
theorem JM {x:Hp}{y:bO}{b:Nat}(a:h[b]?=some y):(h++x)[b]?=some y:=by grind
theorem AY6 (xs:List ByteArray)(b:Nat)(v:ByteArray)(h:Hp)(e:h[b]?=some (qH 1 (xs.map cu)))(A:xs.length<=1099511627776):
  a_ (En G) 311 [.own b 0 xs.length,.str v] h (.bool (JC xs v)):=by
 refine cn Tryz.func311 4 ?_;refine AB ?_;refine BB (fun n F H=>∃k,n+k=xs.length/\F 0=.own b 0 xs.length/\F 1=.str v/\F 5=.n (k:Nat)/\H=h/\JC xs v=JC (xs.drop k) v) xs.length ⟨0,BA,rfl,rfl,rfl,rfl,rfl⟩ ?_;rintro n F H ⟨k,hk,g,i,l,rfl,d⟩;refine DC g i l ?_;refine DV ?_ ?_<;>intro a
 .have p:JC (xs.drop k) v=((v.toList==xs[k].toList)||JC (xs.drop (k+1)) v):=NH _ xs k a
  have q:BR jA H 9 (.ptr b k 0)=some (.str xs[k]):=by rw[BJ eo e (row:=cu xs[k]) (c8 a)];rfl
  simp only[vQ,CP,QN,↓reduceIte,jC,b_,cZ,g,i,l,GR e a,q];refine BL ?_ ?_<;>intro e
  .refine AB ?_
   refine⟨?_,trivial⟩;rw[d,p,show(v.toList==xs[k].toList)=true by rw[BEq.comm];exact e];rfl
  .refine AZ l (CZ k) ?_
   refine⟨n-1,U,k+1,U,g,i,rfl,trivial,?_⟩;rw[d,p,show(v.toList==xs[k].toList)=false by rw[BEq.comm];exact e];rfl
 .refine AB ?_
  exact⟨by rw[d,jS U];rfl,trivial⟩
theorem Ja (s:ByteArray)(d:sv h m v)(i:m<=1099511627776):∃r,a_ (En G) 311 [v,.str s] h (.bool r):=by
 obtain⟨e,g,⟨_,k,rfl⟩|⟨b,rfl,a⟩⟩:=d
 .exact⟨_,AY7 G k s h⟩
 .exact⟨_,AY6 G e b s h a U⟩
theorem AW (h:Hp)(s:ByteArray):DR jA false h 121 1 [(0,.str s)]=some (.sl .full 1 [[.str s]],h):=BC
theorem Jw (s:ByteArray)(q:sv h m v)(B:m<=1099511627776):∃e h',EJ jA true h 121 121 v (.sl .full 1 [[.str s]])=some (e,h')/\sv h' (m+1) e/\(∀b,db e b->b=h.length) /\
  h.length<=h'.length/\∀b,b<h.length->¬db v b->h'[b]?=h[b]? := by
 obtain⟨g,A,⟨rfl,k,rfl⟩|⟨b,rfl,a⟩⟩:=q
 .refine⟨_,_,WS Al tt Ao AN (H6 h .full 1 [[.str s]]) BA (JF BA U),⟨[s],BA,.inr ⟨h.length,rfl,A8 _ _⟩⟩,fun b a=>a.symm,BA,fun b a _=>qF a⟩
 .have i:JR h (.own b 0 g.length)=some (1,g.map cu):=by
   rw[KH a BA,zI,jK BA]
  refine⟨_,_,VG Al tt Ao AN i (H6 h .full 1 [[.str s]]) BA (by unfold room;simp;omega),⟨g++[s],by simp;omega,.inr ⟨h.length,BA,by simp [cu]⟩⟩,fun b a=>a.symm,BA,fun o p l=>?_⟩;rw[qF (BQ p)];have d:¬b=o:=l;rw[zW,if_neg d]
def wRow (n dd:Nat)(f:Int)(v1 v2:AV):List AV:=[.n n,.n dd,.n f,v1,v2]
structure St (h:Hp) (c m1 m2 n dd:Nat) (f:Int) (v1 v2:AV):Prop where
 w:h[c]?=some (qH 5 [wRow n dd f v1 v2])
 s1:sv h m1 v1
 s2:sv h m2 v2
 ap:∀b,db v1 b->¬db v2 b
theorem sv.b {h:Hp}{m:Nat}{v:AV}{b:Nat}(e:sv h m v)(d:db v b):∃a:List ByteArray,h[b]?=some (qH 1 (a.map cu)):=by
 obtain⟨a,_,⟨_,k,rfl⟩|⟨g,rfl,h'⟩⟩:=e
 .exact d.elim
 .cases d;exact⟨a,h'⟩
theorem sv.ne {b:Nat}{row:List AV}(g:sv h m v)(a:h[c]?=some (qH 5 [row]))(d:db v b):b≠c:=by
 intro e;subst e;obtain⟨i,h'⟩:=g.b d;rw[h'] at a;cases a
theorem sv.keep {m':Nat}(g:sv h m v)(l:m<=m')(hk:∀b,db v b->h'[b]?=h[b]?):sv h' m' v:=by
 obtain⟨a,i,⟨e,k,rfl⟩|⟨b,rfl,d⟩⟩:=g
 .exact⟨a,U,.inl ⟨e,k,rfl⟩⟩
 .exact⟨a,U,.inr ⟨b,rfl,by rw[hk b rfl];exact d⟩⟩
structure Ch (c:Nat) (v1 v2:AV) (h:Hp) (v1' v2':AV) (h':Hp):Prop where
 len:h.length<=h'.length
 get:∀b,b<h.length->b≠c->¬db v1 b->¬db v2 b->h'[b]?=h[b]?
 n1:∀b,db v1' b->db v1 b\/h.length<=b
 n2:∀b,db v2' b->db v2 b\/h.length<=b
theorem Ch.refl (c:Nat)(v1 v2:AV)(h:Hp):Ch c v1 v2 h v1 v2 h:=⟨jF _,fun _ _ _ _ _=>rfl,fun _ h=>.inl h,fun _ h=>.inl h⟩
theorem Ch.trans {B C F I:AV}{a b d:Hp}(g:Ch c v1 v2 a B C b)(h2:Ch c B C b F I d):Ch c v1 v2 a F I d:=by
 refine⟨qW g.len h2.len,fun i l p A q=>?_,fun i l=>?_,fun i l=>?_⟩
 .rw[h2.get i (Nat.lt_of_lt_of_le l g.len) p (fun e=>(g.n1 i e).elim A (fun e=>U)) (fun e=>(g.n2 i e).elim q (fun e=>U)),g.get i l p A q]
 .rcases h2.n1 i l with h|h
  .exact g.n1 i h
  .exact .inr (qW g.len h)
 .rcases h2.n2 i l with h|h
  .exact g.n2 i h
  .exact .inr (qW g.len h)
theorem Ch.app (c:Nat)(v1 v2:AV)(h x:Hp):Ch c v1 v2 h v1 v2 (h++x):=⟨BA,fun _ a _ _ _=>qF a,fun _ h=>.inl h,fun _ h=>.inl h⟩
theorem Ch.set (c:Nat)(v1 v2:AV)(h:Hp)(x:bO):Ch c v1 v2 h v1 v2 (h.set c x):=⟨BA,fun _ _ a _ _=>by rw[zW,if_neg (fun e=>a e.symm)],fun _ h=>.inl h,fun _ h=>.inl h⟩
theorem St.app {e:Nat}(s:St h c e m2 n dd f v1 v2)(x:Hp):St (h++x) c e m2 n dd f v1 v2:=by
 have a:∀v m,sv h m v->sv (h++x) m v:=fun v m d=>d.keep (jF _) fun b g=>by
  obtain⟨i,h'⟩:=d.b g;exact qF (AY h')
 exact⟨JM s.w,a _ _ s.s1,a _ _ s.s2,s.ap⟩
theorem St.set {h:Hp}{c p m2 n dd:Nat}{f:Int}{v1 v2:AV}(s:St h c p m2 n dd f v1 v2)(i d:Nat)(g:Int):St (h.set c (qH 5 [wRow i d g v1 v2])) c p m2 i d g v1 v2:=by
 have a:∀v m,sv h m v->sv (h.set c (qH 5 [wRow i d g v1 v2])) m v:=fun v m l=>l.keep (jF _) fun b q=>by
  rw[zW,if_neg (fun e=>l.ne s.w q e.symm)]
 exact⟨CO s.w,a _ _ s.s1,a _ _ s.s2,s.ap⟩
section
variable {h:Hp} {c m1 m2 n dd:Nat} {f:Int} {v1 v2:AV} (s:St h c m1 m2 n dd f v1 v2)
include s
theorem St.l0:BR jA h 3 (.ptr c 0 0)=some (.n n):=by rw[BJ ct s.w (row:=wRow n dd f v1 v2) rfl];rfl
theorem St.l1:BR jA h 3 (.ptr c 0 1)=some (.n dd):=by rw[BJ ct s.w (row:=wRow n dd f v1 v2) rfl];rfl
theorem St.l2:BR jA h 38 (.ptr c 0 2)=some (.n f):=by rw[BJ tc s.w (row:=wRow n dd f v1 v2) rfl];rfl
theorem St.l3:BR jA h 121 (.ptr c 0 3)=some v1:=by rw[BJ p' s.w (row:=wRow n dd f v1 v2) rfl];rfl
theorem St.l4:BR jA h 121 (.ptr c 0 4)=some v2:=by rw[BJ p' s.w (row:=wRow n dd f v1 v2) rfl];rfl
theorem St.t0 (x:Nat):D7 jA h 3 (.ptr c 0 0) (.n x)=some (h.set c (qH 5 [wRow x dd f v1 v2])):=by
 rw[IE (aY _ _) iz s.w (row:=wRow n dd f v1 v2) rfl (by simp [wRow])];rfl
theorem St.t1 (x:Nat):D7 jA h 3 (.ptr c 0 1) (.n x)=some (h.set c (qH 5 [wRow n x f v1 v2])):=by
 rw[IE (aY _ _) iz s.w (row:=wRow n dd f v1 v2) rfl (by simp [wRow])];rfl
theorem St.t2 (x:Int):D7 jA h 38 (.ptr c 0 2) (.n x)=some (h.set c (qH 5 [wRow n dd x v1 v2])):=by
 rw[IE (aY _ _) xo s.w (row:=wRow n dd f v1 v2) rfl (by simp [wRow])];rfl
end
theorem St.app3 {m1:Nat}(s:St h c m1 m2 n dd f v1 v2)(x:ByteArray)(M:m1<=1099511627776):
  ∃ d h',EJ jA true h 121 121 v1 (.sl .full 1 [[.str x]])=some (d,h')/\D7 jA h' 121 (.ptr c 0 3) d=some (h'.set c (qH 5 [wRow n dd f d v2])) /\
    St (h'.set c (qH 5 [wRow n dd f d v2])) c (m1+1) m2 n dd f d v2/\Ch c v1 v2 h d v2 (h'.set c (qH 5 [wRow n dd f d v2])):=by
 obtain⟨d,h',J,F,i,L,hk⟩:=Jw x s.s1 M;have l:¬db v1 c:=fun e=>s.s1.ne s.w e rfl
 have p:¬db v2 c:=fun e=>s.s2.ne s.w e rfl
 have q:=AY s.w;have I:h'[c]?=some (qH 5 [wRow n dd f v1 v2]):=by rw[hk c q l];exact s.w
 have O:∀b,db d b->b≠c:=fun b a e=>by have:=i b a;omega
 have g:JI d=some [d]:=by
  obtain⟨P,_,⟨_,k,rfl⟩|⟨b,rfl,_⟩⟩:=F<;>rfl
 refine⟨d,h',J,by rw[IE g Av I (row:=wRow n dd f v1 v2) rfl (by simp [wRow])];rfl,⟨CO I,F.keep (jF _) fun b a=>?_,s.s2.keep (jF _) fun b a=>?_,fun b B C=>?_⟩,⟨BQ L,fun b K N B C=>?_,fun b a=>.inr (by rw[i b a];exact jF _),fun b a=>.inl a⟩⟩
 .grind
 .obtain⟨_,A⟩:=s.s2.b a
  rw[zW,if_neg (fun e=>p (by rw[e];exact a)),hk b (AY A) (fun e=>s.ap b e a)]
 .obtain⟨_,A⟩:=s.s2.b C
  have:=i b B;have:=AY A;omega
 .grind
theorem St.app4 {m1:Nat}(s:St h c m1 m2 n dd f v1 v2)(x:ByteArray)(M:m2<=1099511627776):
  ∃ d h',EJ jA true h 121 121 v2 (.sl .full 1 [[.str x]])=some (d,h')/\D7 jA h' 121 (.ptr c 0 4) d=some (h'.set c (qH 5 [wRow n dd f v1 d])) /\
    St (h'.set c (qH 5 [wRow n dd f v1 d])) c m1 (m2+1) n dd f v1 d/\Ch c v1 v2 h v1 d (h'.set c (qH 5 [wRow n dd f v1 d])):=by
 obtain⟨d,h',J,F,i,L,hk⟩:=Jw x s.s2 M;have l:¬db v1 c:=fun e=>s.s1.ne s.w e rfl
 have p:¬db v2 c:=fun e=>s.s2.ne s.w e rfl
 have q:=AY s.w;have I:h'[c]?=some (qH 5 [wRow n dd f v1 v2]):=by rw[hk c q p];exact s.w
 have O:∀b,db d b->b≠c:=fun b a e=>by have:=i b a;omega
 have g:JI d=some [d]:=by
  obtain⟨P,_,⟨_,k,rfl⟩|⟨b,rfl,_⟩⟩:=F<;>rfl
 refine⟨d,h',J,by rw[IE g Av I (row:=wRow n dd f v1 v2) rfl (by simp [wRow])];rfl,⟨CO I,s.s1.keep (jF _) fun b a=>?_,F.keep (jF _) fun b a=>?_,fun b B C=>?_⟩,⟨BQ L,fun b K N B C=>?_,fun b a=>.inl a,fun b a=>.inr (by rw[i b a];exact jF _)⟩⟩
 .obtain⟨_,A⟩:=s.s1.b a
  rw[zW,if_neg (fun e=>l (by rw[e];exact a)),hk b (AY A) (fun e=>s.ap b a e)]
 .grind
 .obtain⟨_,A⟩:=s.s1.b B
  have:=i b C;have:=AY A;omega
 .grind
def cO (z:Int)(xs:List Ex):Int:=xs.foldl (fun z e=>if z=0 then IQ e else z) z
theorem Fo (z:Int)(xs ys:List Ex):cO z (xs++ys)=cO (cO z xs) ys:=List.foldl_append
theorem St.weak {m1 a b:Nat}(s:St h c m1 m2 n dd f v1 v2)(d:m1<=a)(h2:m2<=b):St h c a b n dd f v1 v2 :=
 ⟨s.w,s.s1.keep d fun _ _=>rfl,s.s2.keep h2 fun _ _=>rfl,s.ap⟩
def Md (e:Ex)(c d:Nat)(v1 v2:AV)(h:Hp)(m1 m2 n dd:Nat)(f:Int)(F:Nat->AV)(H:Hp):Prop :=
 F 0=.ptr c 0 0/\F 2=.n (d:Nat)/\F 4=.ptr h.length 0 0/\∃a b,St H c m1 m2 n dd f a b/\Ch c v1 v2 (h++[qH 4 [AQ e]]) a b H
theorem Ek (xs:List Ex):(FV xs).length<=wts xs:=by
 induction xs with
 | nil=>simp [FV,wts]
 | cons x xs a=>have:=YM x;simp only[FV,wts,jX];omega
theorem DB:∀(xs:List Ex) (j:Nat) (a:j<xs.length),wts (xs.take j)+wt xs[j]<=wts xs
 | x::xs,0,_=>by simp [wts]
 | x::xs,j+1,h=>by
   have:=DB xs j (BQ h);simp only[List.take_succ_cons,wts,List.getElem_cons_succ];omega
theorem gS:∀(xs:List Ex) (j:Nat),deps (xs.take j)<=wts xs
 | [],j=>by simp [deps,wts]
 | x::xs,0=>by simp [deps]
 | x::xs,j+1=>by
   have a:=gS xs j;have b:=I_ x;simp only[List.take_succ_cons,deps,wts];omega
theorem AXL (c:Nat)(e:Ex):WN e->∀(h:Hp) (d n dd:Nat) (f:Int) (v1 v2:AV),d+wt e<=549755813888->n+wt e<=549755813888->dd<=1099511627776->St h c n n n dd f v1 v2 ->
  ACalls (En G) 270 [.ptr c 0 0,.agg (AQ e),.n (d:Nat)] h fun _ h'=>∃p q,St h' c (n+(pre e).length) (n+(pre e).length) (n+(pre e).length) (max dd (d+deps e.args)) (cO f (pre e)) p q/\Ch c v1 v2 h p q h':=by
 induction e using Ex.induct with|h e ih=>?_
 intro O h d n dd f v1 v2 hd hn a3 s;have hw:=O.1;have a0:e.name.size<=1048576:=O.2 e (by rw[pre_eq];simp);have a1:e.args.length<=wts e.args:=YB e.args;have a8:=OI e;have a2:=AY s.w
 have B:∀(p q:AV) (H:Hp),Ch c v1 v2 (h++[qH 4 [AQ e]]) p q H->H[h.length]?=some (qH 4 [AQ e]):=by
  intro p q H l;rw[l.get h.length BA U (fun C=>?_) (fun C=>?_)]
  .exact A8 _ _
  .obtain⟨_,X⟩:=s.s1.b C
   have:=AY X;omega
  .obtain⟨_,X⟩:=s.s2.b C
   have:=AY X;omega
 have L:∀H:Hp,H[h.length]?=some (qH 4 [AQ e])->BR jA H 3 (.ptr h.length 0 0)=some (.n e.op):=fun H V=>by rw[BJ ct V (row:=AQ e) rfl,KQ]
 have M:∀H:Hp,H[h.length]?=some (qH 4 [AQ e])->BR jA H 9 (.ptr h.length 0 2)=some (.str e.name):=fun H V=>by rw[BJ eo V (row:=AQ e) rfl,SS]
 have Y:∀H:Hp,H[h.length]?=some (qH 4 [AQ e])->BR jA H 23 (.ptr h.length 0 3)=some (.sl e.m 4 (e.args.map AQ)):=fun H V=>by rw[BJ MQ V (row:=AQ e) rfl,ZE]
 refine II (H:=hint [56,85] []) (ji G) Tryz.func270 rfl (by kernel_rfl) (by kernel_rfl) (jB (by kernel_rfl)) ?_;show dh _ _ _ _ _ (MW _ [] _);have s0:=s.app [qH 4 [AQ e]];have c0:=Ch.app c v1 v2 h [qH 4 [AQ e]];refine LP @HF @yt @fa @s0.l0 (CZ n) @s0.t0 ?_;have R:=s0.set (n+1) dd f;have Z:=Ch.set c v1 v2 (h++[qH 4 [AQ e]]) (qH 5 [wRow (n+1) dd f v1 v2]);clear s0
 generalize (h++[qH 4 [AQ e]]).set c (qH 5 [wRow (n+1) dd f v1 v2])=H1 at R Z|-
 refine A7 @R.l1 ?_;refine UQ (Md e c d v1 v2 h n n (n+1) (max dd d) f) (fun _ _=>False) (fun C=>?_) (fun C=>?_) ?_ (fun _ _ N=>N.elim)
 .refine AZ @yt @R.t1 ?_
  refine⟨rfl,rfl,rfl,v1,v2,?_,Z.trans (Ch.set c _ _ _ _)⟩;have:max dd d=d:=by simp at C;omega
  rw[this];exact R.set (n+1) d f
 .refine AB ?_
  refine⟨rfl,rfl,rfl,v1,v2,?_,Z⟩;have:max dd d=dd:=by simp at C;omega
  rw[this];exact R
 clear R Z;rintro F H ⟨a,i,g,p,q,s,l⟩;refine DC @gJ a @s.l2 ?_;refine UQ (Md e c d v1 v2 h n n (n+1) (max dd d) (cO f [e])) (fun _ _=>False) (fun C=>?_) (fun C=>?_) ?_ (fun _ _ N=>N.elim)
 .refine EH a i g (IL (B _ _ _ l)) ?_
  refine(Xq G e _ a0).use ?_;refine G7 @gJ @s.t2 a i g ?_;refine⟨a,i,g,p,q,?_,l.trans (Ch.set c _ _ _ _)⟩
  have:cO f [e]=IQ e:=by
   have:f=0:=BQ C;subst this;rfl
  rw[this];exact s.set _ _ _
 .refine AB ?_
  refine⟨a,i,g,p,q,?_,l⟩
  have:cO f [e]=f:=by
   have:f≠0:=BQ C;show(if f=0 then IQ e else f)=f;rw[if_neg this]
  rw[this];exact s
 clear a i g s l;rintro F H ⟨a,i,g,p,q,s,l⟩;refine AB ?_;refine DI BC ?_;have A:=B _ _ _ l;refine Js (fun F H=>(∃b,F 47=.bool b)/\Md e c d v1 v2 h n n (n+1) (max dd d) (cO f [e]) F H) ?_ ?_
 .cases P:(e.op==2)
  .refine G7 a i g (L _ A) P ?_
   exact⟨⟨_,rfl⟩,a,i,g,p,q,s,l⟩
  .obtain⟨r,hr⟩:=Ja G e.name s.s1 U
   refine N7 @HE a i g (L _ A) (M _ A) P @s.l3 ?_;refine⟨_,hr,?_⟩;refine DC a i g ?_;exact⟨⟨_,rfl⟩,a,i,g,p,q,s,l⟩
 clear a i g s l A;rintro F H ⟨⟨b,S⟩,a,i,g,p,q,s,l⟩;have A:=B _ _ _ l;refine A7 S ?_;refine UQ (Md e c d v1 v2 h (n+1) n (n+1) (max dd d) (cO f [e])) (fun _ _=>False) (fun C=>?_) (fun C=>?_) ?_ (fun _ _ N=>N.elim)
 .obtain⟨v',H',ha,ht,Q,J⟩:=s.app3 e.name U
  refine DI BC ?_;refine U3 @HE a i g (M _ A) @s.l3 AW ha ht ?_;exact⟨a,i,g,_,_,Q,l.trans J⟩
 .refine AB ?_
  exact⟨a,i,g,_,_,s.weak U U,l⟩
 clear a i g s l A;rintro F H ⟨a,i,g,p,q,s,l⟩;have A:=B _ _ _ l;refine AB ?_;refine DI BC ?_;refine Js (fun F H=>(∃b,F 76=.bool b)/\Md e c d v1 v2 h (n+1) n (n+1) (max dd d) (cO f [e]) F H) ?_ ?_
 .obtain⟨r,hr⟩:=Ja G e.name s.s2 U
  cases P:(e.op==3)
  .cases b3:(e.op==24)
   .refine LP a i g (L _ A) P b3 ?_
    exact⟨⟨_,rfl⟩,a,i,g,p,q,s,l⟩
   .refine U3 @yr a i g (L _ A) (M _ A) P b3 @s.l4 ?_
    refine⟨_,hr,?_⟩;refine DC a i g ?_;exact⟨⟨_,rfl⟩,a,i,g,p,q,s,l⟩
  .refine N7 @yr a i g (L _ A) (M _ A) P @s.l4 ?_
   refine⟨_,hr,?_⟩;refine DC a i g ?_;exact⟨⟨_,rfl⟩,a,i,g,p,q,s,l⟩
 clear a i g s l A S;rintro F H ⟨⟨b,T⟩,a,i,g,p,q,s,l⟩;have A:=B _ _ _ l;refine A7 T ?_;refine UQ (Md e c d v1 v2 h (n+1) (n+1) (n+1) (max dd d) (cO f [e])) (fun _ _=>False) (fun C=>?_) (fun C=>?_) ?_ (fun _ _ N=>N.elim)
 .obtain⟨v',H',ha,ht,Q,J⟩:=s.app4 e.name U
  refine DI BC ?_;refine U3 @yr a i g (M _ A) @s.l4 AW ha ht ?_;exact⟨a,i,g,_,_,Q,l.trans J⟩
 .refine AB ?_
  exact⟨a,i,g,_,_,s.weak U U,l⟩
 clear a i g s l A T;rintro F H ⟨a,i,g,p,q,s,l⟩;refine AB ?_;refine BB (fun k F H=>∃j,k+j=e.args.length/\F 6=.n (j:Nat)/\Md e c d v1 v2 h (n+1+(FV (e.args.take j)).length) (n+1+(FV (e.args.take j)).length) (n+1+(FV (e.args.take j)).length) (max dd (d+deps (e.args.take j))) (cO (cO f [e]) (FV (e.args.take j))) F H) e.args.length ⟨0,BA,rfl,a,i,g,p,q,s,l⟩ ?_;clear a i g s l;rintro k F H ⟨j,hj,f6,a,i,g,p,q,s,l⟩;have A:=B _ _ _ l;refine DC f6 g (Y _ A) ?_;refine DV ?_ ?_<;>intro I
 .have K:e.args[j]∈e.args:=jH I
  have a7:=YA K
  have a5:(FV (e.args.take j)).length+(pre e.args[j]).length<=wts e.args:=by
   have h1:=Ek e.args
   have h2:FV e.args=FV (e.args.take j)++(pre e.args[j]++FV (e.args.drop (j+1))):=by
    rw[<-zA,<-MI _ _ I,<-NY,wE]
   rw[h2] at h1;simp at h1;omega
  have a6:(FV (e.args.take j)).length+wt e.args[j]<=wts e.args:=by
   have h1:=Ek (e.args.take j);have h2:=DB e.args j I;omega
  have a4:deps (e.args.take j)<=wts e.args:=gS e.args j;simp only[vQ,List.contains_cons,List.contains_nil,Nat.reduceBEq,Bool.or_false,CP,↓reduceIte,jC,b_,P5,UY,a,i,g,f6,Y _ A,CE I,DL NU G9 EF I,CZ d];refine(ih e.args[j] K ⟨U,fun x X=>O.2 x (by rw[pre_eq];exact List.mem_cons_of_mem _ (WE K x X))⟩ H (d+1) _ _ _ p q U U U s).mono ?_;rintro v H' ⟨w1,w2,Q,J⟩;refine AZ f6 (CZ j) ?_;refine⟨k-1,U,j+1,U,rfl,a,i,g,w1,w2,?_,l.trans J⟩;rw[MI _ _ I,yO _ _ I,Fo,jX]
  have e1:max (max dd (d+deps (e.args.take j))) (d+1+deps e.args[j].args)=max dd (d+max (deps (e.args.take j)) (dep e.args[j])):=by
   rw[Y0];omega
  rw[e1,Nat.add_assoc (n+1)] at Q;exact Q
 .rw[jK U] at s
  refine A7 @sF ?_;refine⟨p,q,?_,c0.trans l⟩;have e1:n+1+(FV e.args).length=n+(pre e).length:=by rw[pre_eq];simp;omega
  have e2:cO (cO f [e]) (FV e.args)=cO f (pre e):=by rw[pre_eq,<-Fo];rfl
  rw[e1,e2] at s;exact s
theorem P3:IY jA 263 []=some (.agg [.n 0,.n 0,.n 0,.sl .nil 0 [],.sl .nil 0 []]):=BC
theorem Pp (h:Hp):OU h (.agg [.n 0,.n 0,.n 0,.sl .nil 0 [],.sl .nil 0 []])=some (.ptr h.length 0 0,h++[qH 5 [wRow 0 0 0 (.sl .nil 0 []) (.sl .nil 0 [])]]):=cG rfl
theorem AS2 (e:Ex)(g:WN e)(h:Hp):
  ACalls (En G) 202 [.agg (AQ e)] h fun v h'=>∃c m p q,v=.ptr c 0 0/\St h' c m m (pre e).length (dep e) (errs (pre e)) p q/\∃x,h'=h++x:=by
 refine cn Tryz.func202 2 ?_;simp only[vQ,CP,HA,V8,OA,↓reduceIte,jC,b_,fa,P3,Pp,IL (AU (A8 h _))];have l:∀b,¬db (.sl .nil 0 []) b:=fun b d=>d
 have F:=g.1;refine(AXL G _ e g _ 1 0 0 0 (.sl .nil 0 []) (.sl .nil 0 []) U U U ⟨A8 _ _,⟨[],BA,.inl ⟨rfl,_,rfl⟩⟩,⟨[],BA,.inl ⟨rfl,_,rfl⟩⟩,fun b d=>(l b d).elim⟩).mono ?_;rintro v h' ⟨p,q,s,C⟩;refine AB ?_;have A:0+(pre e).length=(pre e).length:=jG _;have B:max 0 (1+deps e.args)=dep e:=by rw[Y0];omega
 rw[A,B] at s;refine⟨_,_,p,q,rfl,s,?_⟩;have a:=((Ch.app (h++[qH 4 [AQ e]]).length (.sl .nil 0 []) (.sl .nil 0 []) h [qH 4 [AQ e]]).trans (Ch.app _ _ _ _ [qH 5 [wRow 0 0 0 (.sl .nil 0 []) (.sl .nil 0 [])]])).trans C;refine ig.above (c:=(h++[qH 4 [AQ e]]).length) ⟨a.len,fun b d i=>a.get b d i (l b) (l b)⟩ BA
theorem YZ (e:Ex)(h:Hp)(i:WN e):a_ (En G) 113 [.agg (AQ e)] h (.n (c9 e)):=by
 refine ACalls.pure0 rfl ?_;refine cn Tryz.func113 2 ?_;refine AZ @fa @ka ?_;refine(AS2 G e i _).mono ?_;rintro v h' ⟨c,m,l,p,rfl,s,x,rfl⟩;refine AZ @gJ @s.l2 ?_;rcases he:(errs (pre e)==0) with _|_
 .refine AZ @gJ @s.l2 ?_
  have:errs (pre e)≠0:=BQ he;exact⟨by unfold c9;rw[if_neg (fun d=>this d.1)],_,by rw[zA]⟩
 have a:errs (pre e)=0:=BQ he;refine AZ @yt @s.l1 ?_;refine I8 ?_ ?_<;>intro b
 .refine A7 b ?_
  exact⟨by unfold c9;rw[if_pos ⟨a,.inl (by simp at b;omega)⟩],_,by rw[zA]⟩
 refine DC @HF b @s.l0 ?_;refine BL ?_ ?_<;>intro g
 .refine AB ?_
  exact⟨by unfold c9;rw[if_pos ⟨a,.inr (by simp at g;omega)⟩],_,by rw[zA]⟩
 .refine AZ @gJ @s.l2 ?_
  exact⟨by unfold c9;rw[if_neg (fun d=>by simp at g b;omega)],_,by rw[zA]⟩
theorem WM (e:Ex)(h:Hp)(a:wt e<=1048576):a_ (En G) 113 [.agg (AQ e)] h (.n (c9 e)):=YZ G e h (r9 a)
structure Is where
 m:SM
 l:List Int
def LW (x:Is):List AV:=[.sl x.m 1 (x.l.map bu)]
theorem SQ (x:Is):(LW x)[0]?=some (.sl x.m 1 (x.l.map bu)):=rfl
theorem gQ (x:Is):(LW x).length=1:=rfl
structure Pt where
 name:ByteArray
 ex:Ex
 bm:SM
 bins:List Bin
def GL (p:Pt):List AV:=.str p.name::(AQ p.ex++[.sl p.bm 4 (p.bins.map JD)])
theorem vw (p:Pt):(GL p)[0]?=some (.str p.name):=rfl
theorem OQ (p:Pt):(GL p)[5]?=some (.sl p.bm 4 (p.bins.map JD)):=by unfold GL;rw[FP];rfl
theorem JH (p:Pt):(GL p).length=6:=by unfold GL;rw[FP];rfl
theorem kM (p:Pt):(GL p).all AV.leaf=true:=by unfold GL;rw[FP];rfl
theorem ze (p:Pt):((GL p).drop 1).take 4=AQ p.ex:=by unfold GL;rw[FP];rfl
theorem A' (h:Hp)(p:Pt):OU h (.agg (GL p))=some (.ptr h.length 0 0,h++[qH 6 [GL p]]):=by
 have:=cG (h:=h) (kM p);rw[JH] at this;exact this
theorem ID {b:Nat}{p:Pt}(a:h[b]?=some (qH 6 [GL p])):BR jA h 79 (.ptr b 0 1)=some (.agg (AQ p.ex)):=by
 rw[EK NU G9 a rfl (by rw[JH];omega),ze]
structure Cr where
 name:ByteArray
 pm:SM
 pts:List Int
 xm:SM
 excl:List Is
def IM (c:Cr):List AV:=[.str c.name,.sl c.pm 1 (c.pts.map bu),.sl c.xm 1 (c.excl.map LW)]
theorem vx (c:Cr):(IM c)[0]?=some (.str c.name):=rfl
theorem U1 (c:Cr):(IM c)[1]?=some (.sl c.pm 1 (c.pts.map bu)):=rfl
theorem rV (c:Cr):(IM c)[2]?=some (.sl c.xm 1 (c.excl.map LW)):=rfl
theorem NF (c:Cr):(IM c).length=3:=rfl
theorem me (h:Hp)(c:Cr):OU h (.agg (IM c))=some (.ptr h.length 0 0,h++[qH 3 [IM c]]):=rfl
structure Mo where
 pm:SM
 pts:List Pt
 cm:SM
 crs:List Cr
def C9 (m:Mo):List AV:=[.sl m.pm 6 (m.pts.map GL),.sl m.cm 3 (m.crs.map IM)]
theorem XT (m:Mo):(C9 m)[0]?=some (.sl m.pm 6 (m.pts.map GL)):=rfl
theorem ZC (m:Mo):(C9 m)[1]?=some (.sl m.cm 3 (m.crs.map IM)):=rfl
theorem sI (m:Mo):(C9 m).length=2:=rfl
theorem er (h:Hp)(m:Mo):OU h (.agg (C9 m))=some (.ptr h.length 0 0,h++[qH 2 [C9 m]]):=rfl
def vA:List ByteArray->List ByteArray->Bool
 | _,[]=>false
 | a,x::xs=>JC a x||vA (a++[x]) xs
def SK (l:List ByteArray):Bool:=vA [] l
theorem VK (N:List ByteArray)(i:Nat)(a:i<N.length):vA (N.take i) (N.drop i)=(JC (N.take i) N[i]||vA (N.take (i+1)) (N.drop (i+1))):=by
 rw[zU a,jW a];rfl
theorem GK {α:Type}{l:List α}{i:Nat}{a:i<l.length}{x:α}(h:l[i]?=some x):l[i]=x:=by
 rw[jP a] at h;exact Option.some.inj h
theorem Hq (x:Bin)(h:Hp):a_ (En G) 164 [.agg (JD x)] h (.str x.name):=by
 refine ACalls.pure0 rfl ?_;refine cn Tryz.func164 2 ?_;refine MF @uk @bxB @vy ?_;exact⟨trivial,_,rfl⟩
theorem Yp (xs:List Bin)(m:SM)(h:Hp)(hl:xs.length<=1099511627776):
  a_ (En G) 163 [.sl m 4 (xs.map JD),.fn (.func 164) [] []] h (.bool (SK (xs.map (·.name)))):=by
 refine cn Tryz.func163 4 ?_;refine AB ?_;generalize M:xs.map (·.name)=N;have T:N.length=xs.length:=by rw[<-M];simp
 have C:∀i (J:i<xs.length),N[i]?=some xs[i].name:=fun i J=>by rw[<-M,zB,jP J];rfl
 refine BB (fun n F H=>∃i,n+i=xs.length/\F 0=.sl m 4 (xs.map JD)/\F 1=.fn (.func 164) [] []/\F 8=.n xs.length/\F 9=.n (i:Nat)/\H=h/\SK N=vA (N.take i) (N.drop i)) xs.length ⟨0,BA,AL,AL,AL,AL,rfl,rfl⟩ ?_;rintro n F H ⟨i,J,q,A,B,e,rfl,I⟩;refine AZ B e ?_;refine DV ?_ ?_<;>intro g
 .have b:=VK N i U
  rw[GK (C i g)] at b;refine A7 e ?_;refine EG 2 (fun a d=>a 0=.sl m 4 (xs.map JD)/\a 1=.fn (.func 164) [] []/\a 8=.n xs.length/\a 9=.n (i:Nat)/\d=H/\JC (N.take i) xs[i].name=false) (fun a d=>a 4=.bool (SK N)/\d=H) ?_ ?_ ?_
  .refine BB (fun n a d=>∃k,n+k=i/\a 0=.sl m 4 (xs.map JD)/\a 1=.fn (.func 164) [] []/\a 8=.n xs.length/\a 9=.n (i:Nat)/\a 5=.n (i:Nat)/\a 12=.n (i:Nat)/\a 13=.n (k:Nat)/\d=H/\JC (N.take i) xs[i].name=JC ((N.take i).drop k) xs[i].name) i ⟨0,BA,DY q,DY A,DY B,DY e,AL,AL,AL,rfl,rfl⟩ ?_
   clear q A B e;rintro Z F d ⟨k,hk,q,A,B,e,L,f12,f13,rfl,l⟩;refine AZ f12 f13 ?_;refine DV ?_ ?_<;>intro V
   .have p:k<xs.length:=U
    have K:=NH (fun u=>xs[i].name.toList==u.toList) (N.take i) k (by rw[jT];omega)
    have Y:(N.take i)[k]'(by rw[jT];omega)=xs[k].name:=by
     rw[List.getElem_take];exact GK (C k p)
    rw[Y] at K;refine A7 f13 ?_;refine DI BC ?_;simp only[vQ,KU,KE,↓reduceIte,jC,jO,b_,XB,q,A,L,CE g,CE p,DL nD dK MP g,DL nD dK MP p];refine⟨_,Hq G xs[i] _,?_⟩;refine⟨_,Hq G xs[k] _,?_⟩
    try refine AB ?_
    refine BL ?_ ?_<;>intro O
    .refine AB ?_
     refine⟨?_,trivial⟩
     have:JC (N.take i) xs[i].name=true:=by
      rw[l];unfold JC;rw[K,O];rfl
     rw[I,b,this];rfl
    .refine AZ f13 (CZ k) ?_
     refine⟨Z-1,U,k+1,U,q,A,B,e,L,f12,rfl,trivial,?_⟩;rw[l];unfold JC;rw[K,O];rfl
   .refine AB ?_
    refine⟨q,A,B,e,trivial,?_⟩;rw[l,jS (by rw[jT];omega)];rfl
  .rintro a d ⟨g0,P,R,S,rfl,X⟩
   refine AZ S (CZ i) ?_;refine⟨n-1,U,i+1,U,g0,P,R,rfl,trivial,?_⟩;rw[I,b,X];rfl
  .rintro a d ⟨Q,rfl⟩
   refine A7 Q ?_;exact H7
 .refine AB ?_
  exact⟨by rw[I,jS U];rfl,trivial⟩
theorem Hm (x:Pt)(h:Hp):a_ (En G) 87 [.agg (GL x)] h (.str x.name):=by
 refine ACalls.pure0 rfl ?_;refine cn Tryz.func87 2 ?_;refine MF @um @A' @vw ?_;exact⟨trivial,_,rfl⟩
theorem Yn (xs:List Pt)(m:SM)(h:Hp)(hl:xs.length<=1099511627776):
  a_ (En G) 86 [.sl m 6 (xs.map GL),.fn (.func 87) [] []] h (.bool (SK (xs.map (·.name)))):=by
 refine cn Tryz.func86 4 ?_;refine AB ?_;generalize M:xs.map (·.name)=N;have T:N.length=xs.length:=by rw[<-M];simp
 have C:∀i (J:i<xs.length),N[i]?=some xs[i].name:=fun i J=>by rw[<-M,zB,jP J];rfl
 refine BB (fun n F H=>∃i,n+i=xs.length/\F 0=.sl m 6 (xs.map GL)/\F 1=.fn (.func 87) [] []/\F 8=.n xs.length/\F 9=.n (i:Nat)/\H=h/\SK N=vA (N.take i) (N.drop i)) xs.length ⟨0,BA,AL,AL,AL,AL,rfl,rfl⟩ ?_;rintro n F H ⟨i,J,q,A,B,e,rfl,I⟩;refine AZ B e ?_;refine DV ?_ ?_<;>intro g
 .have b:=VK N i U
  rw[GK (C i g)] at b;refine A7 e ?_;refine EG 2 (fun a d=>a 0=.sl m 6 (xs.map GL)/\a 1=.fn (.func 87) [] []/\a 8=.n xs.length/\a 9=.n (i:Nat)/\d=H/\JC (N.take i) xs[i].name=false) (fun a d=>a 4=.bool (SK N)/\d=H) ?_ ?_ ?_
  .refine BB (fun n a d=>∃k,n+k=i/\a 0=.sl m 6 (xs.map GL)/\a 1=.fn (.func 87) [] []/\a 8=.n xs.length/\a 9=.n (i:Nat)/\a 5=.n (i:Nat)/\a 12=.n (i:Nat)/\a 13=.n (k:Nat)/\d=H/\JC (N.take i) xs[i].name=JC ((N.take i).drop k) xs[i].name) i ⟨0,BA,DY q,DY A,DY B,DY e,AL,AL,AL,rfl,rfl⟩ ?_
   clear q A B e;rintro Z F d ⟨k,hk,q,A,B,e,L,f12,f13,rfl,l⟩;refine AZ f12 f13 ?_;refine DV ?_ ?_<;>intro V
   .have p:k<xs.length:=U
    have K:=NH (fun u=>xs[i].name.toList==u.toList) (N.take i) k (by rw[jT];omega)
    have Y:(N.take i)[k]'(by rw[jT];omega)=xs[k].name:=by
     rw[List.getElem_take];exact GK (C k p)
    rw[Y] at K;refine A7 f13 ?_;refine DI BC ?_;simp only[vQ,KU,KE,↓reduceIte,jC,jO,b_,QJ,q,A,L,CE g,CE p,DL lD cK JH g,DL lD cK JH p];refine⟨_,Hm G xs[i] _,?_⟩;refine⟨_,Hm G xs[k] _,?_⟩
    try refine AB ?_
    refine BL ?_ ?_<;>intro O
    .refine AB ?_
     refine⟨?_,trivial⟩
     have:JC (N.take i) xs[i].name=true:=by
      rw[l];unfold JC;rw[K,O];rfl
     rw[I,b,this];rfl
    .refine AZ f13 (CZ k) ?_
     refine⟨Z-1,U,k+1,U,q,A,B,e,L,f12,rfl,trivial,?_⟩;rw[l];unfold JC;rw[K,O];rfl
   .refine AB ?_
    refine⟨q,A,B,e,trivial,?_⟩;rw[l,jS (by rw[jT];omega)];rfl
  .rintro a d ⟨g0,P,R,S,rfl,X⟩
   refine AZ S (CZ i) ?_;refine⟨n-1,U,i+1,U,g0,P,R,rfl,trivial,?_⟩;rw[I,b,X];rfl
  .rintro a d ⟨Q,rfl⟩
   refine A7 Q ?_;exact H7
 .refine AB ?_
  exact⟨by rw[I,jS U];rfl,trivial⟩
theorem Hn (x:Cr)(h:Hp):a_ (En G) 90 [.agg (IM x)] h (.str x.name):=by
 refine ACalls.pure0 rfl ?_;refine cn Tryz.func90 2 ?_;refine MF @uj @me @vx ?_;exact⟨trivial,_,rfl⟩
theorem Yo (xs:List Cr)(m:SM)(h:Hp)(hl:xs.length<=1099511627776):
  a_ (En G) 89 [.sl m 3 (xs.map IM),.fn (.func 90) [] []] h (.bool (SK (xs.map (·.name)))):=by
 refine cn Tryz.func89 4 ?_;refine AB ?_;generalize M:xs.map (·.name)=N;have T:N.length=xs.length:=by rw[<-M];simp
 have C:∀i (J:i<xs.length),N[i]?=some xs[i].name:=fun i J=>by rw[<-M,zB,jP J];rfl
 refine BB (fun n F H=>∃i,n+i=xs.length/\F 0=.sl m 3 (xs.map IM)/\F 1=.fn (.func 90) [] []/\F 8=.n xs.length/\F 9=.n (i:Nat)/\H=h/\SK N=vA (N.take i) (N.drop i)) xs.length ⟨0,BA,AL,AL,AL,AL,rfl,rfl⟩ ?_;rintro n F H ⟨i,J,q,A,B,e,rfl,I⟩;refine AZ B e ?_;refine DV ?_ ?_<;>intro g
 .have b:=VK N i U
  rw[GK (C i g)] at b;refine A7 e ?_;refine EG 2 (fun a d=>a 0=.sl m 3 (xs.map IM)/\a 1=.fn (.func 90) [] []/\a 8=.n xs.length/\a 9=.n (i:Nat)/\d=H/\JC (N.take i) xs[i].name=false) (fun a d=>a 4=.bool (SK N)/\d=H) ?_ ?_ ?_
  .refine BB (fun n a d=>∃k,n+k=i/\a 0=.sl m 3 (xs.map IM)/\a 1=.fn (.func 90) [] []/\a 8=.n xs.length/\a 9=.n (i:Nat)/\a 5=.n (i:Nat)/\a 12=.n (i:Nat)/\a 13=.n (k:Nat)/\d=H/\JC (N.take i) xs[i].name=JC ((N.take i).drop k) xs[i].name) i ⟨0,BA,DY q,DY A,DY B,DY e,AL,AL,AL,rfl,rfl⟩ ?_
   clear q A B e;rintro Z F d ⟨k,hk,q,A,B,e,L,f12,f13,rfl,l⟩;refine AZ f12 f13 ?_;refine DV ?_ ?_<;>intro V
   .have p:k<xs.length:=U
    have K:=NH (fun u=>xs[i].name.toList==u.toList) (N.take i) k (by rw[jT];omega)
    have Y:(N.take i)[k]'(by rw[jT];omega)=xs[k].name:=by
     rw[List.getElem_take];exact GK (C k p)
    rw[Y] at K;refine A7 f13 ?_;refine DI BC ?_;simp only[vQ,KU,KE,↓reduceIte,jC,jO,b_,UG,q,A,L,CE g,CE p,DL vF mN NF g,DL vF mN NF p];refine⟨_,Hn G xs[i] _,?_⟩;refine⟨_,Hn G xs[k] _,?_⟩
    try refine AB ?_
    refine BL ?_ ?_<;>intro O
    .refine AB ?_
     refine⟨?_,trivial⟩
     have:JC (N.take i) xs[i].name=true:=by
      rw[l];unfold JC;rw[K,O];rfl
     rw[I,b,this];rfl
    .refine AZ f13 (CZ k) ?_
     refine⟨Z-1,U,k+1,U,q,A,B,e,L,f12,rfl,trivial,?_⟩;rw[l];unfold JC;rw[K,O];rfl
   .refine AB ?_
    refine⟨q,A,B,e,trivial,?_⟩;rw[l,jS (by rw[jT];omega)];rfl
  .rintro a d ⟨g0,P,R,S,rfl,X⟩
   refine AZ S (CZ i) ?_;refine⟨n-1,U,i+1,U,g0,P,R,rfl,trivial,?_⟩;rw[I,b,X];rfl
  .rintro a d ⟨Q,rfl⟩
   refine A7 Q ?_;exact H7
 .refine AB ?_
  exact⟨by rw[I,jS U];rfl,trivial⟩
def cr {α:Type}(f:α->Int):List α->Int
 | []=>0
 | x::xs=>if f x=0 then cr f xs else f x
theorem VJ {α:Type}(f:α->Int)(xs:List α)(k:Nat)(hk:k<xs.length):cr f (xs.drop k)=if f xs[k]=0 then cr f (xs.drop (k+1)) else f xs[k]:=by
 rw[zU hk];rfl
def H8 (p:Pt):Int :=
 if FN p.name=false then 7 else if c9 p.ex≠0 then c9 p.ex else if p.bins.length=0 then 1 else if 64<p.bins.length then 2 else
  if cr I5 p.bins≠0 then cr I5 p.bins else if SK (p.bins.map (·.name)) then 8 else 0
structure ng (p:Pt):Prop where
 ex:wt p.ex<=1048576
 name:p.name.size<=1048576
 num:p.bins.length<=1048576
 bins:∀b∈p.bins,kq b
theorem e9 (h:Hp):H9 jA h 87=some (.ptr h.length 0 0,h++[qH 4 [[.str ⟨#[]⟩,.n 0,.sl .nil 0 [],.sl .nil 0 []]]]):=FZ (row:=[.str ⟨#[]⟩,.n 0,.sl .nil 0 [],.sl .nil 0 []]) BC
theorem gg (h:Hp)(b:Bin)(row:List AV)(a:row.length=4):D7 jA (h++[qH 4 [row]]) 87 (.ptr h.length 0 0) (.agg (JD b))=some (h++[qH 4 [JD b]]):=by
 rw[VH (SC rfl) (by rw[MP];exact dK) (by rw[MP,a];exact jF _)];have:splice row 0 (JD b)=JD b:=by unfold splice;simp [MP,a]
 rw[this]
theorem Up (N:fm G)(p:Pt)(L:ng p)(h:Hp):a_ (En G) 85 [.agg (GL p)] h (.n (H8 p)):=by
 refine ACalls.pure0 rfl ?_;have O:=L.ex;have Y:=L.name;have Z:=L.num;refine cn Tryz.func85 2 ?_;refine MF @um @A' @vw ?_;refine(NZ G N.kw p.name _ U).uu ?_;cases P:FN p.name
 .refine AB ?_
  exact⟨by unfold H8;rw[if_pos P],_,rfl⟩
 have a:¬FN p.name=false:=by rw[P];decide
 simp only[vQ,CP,↓reduceIte,jC,qL,b_,eG,ID (A8 h _)];refine(P8 G N p.ex _ O).uu ?_;refine BL ?_ ?_<;>intro Q
 .refine AB ?_
  exact⟨by unfold H8;rw[if_neg a,if_pos (BQ Q)],_,rfl⟩
 have i:¬c9 p.ex≠0:=BQ Q;refine U4 @OQ ?_;refine BL ?_ ?_<;>intro J
 .refine AB ?_
  exact⟨by unfold H8;rw[if_neg a,if_neg i,if_pos (by simp at J;simpa using J)],_,rfl⟩
 have C:¬p.bins.length=0:=by simp at J;simpa using J
 refine U4 @OQ ?_;refine BL ?_ ?_<;>intro R
 .refine AB ?_
  exact⟨by unfold H8;rw[if_neg a,if_neg i,if_neg C,if_pos (by simp at R;omega)],_,rfl⟩
 have M:¬64<p.bins.length:=by simp at R;omega
 have l:H8 p=if cr I5 p.bins≠0 then cr I5 p.bins else if SK (p.bins.map (·.name)) then 8 else 0:=by
  unfold H8;rw[if_neg a,if_neg i,if_neg C,if_neg M]
 refine U4 @OQ ?_;refine EG 1 (fun F H=>F 1=.ptr h.length 0 0/\H[h.length]?=some (qH 6 [GL p])/\(∃x,H=h++x)/\cr I5 p.bins=0) (fun F H=>F 2=.n (H8 p)/\∃x,H=h++x) ?_ ?_ ?_
 .refine BB (fun n F H=>∃k,n+k=p.bins.length/\F 1=.ptr h.length 0 0/\F 28=.sl p.bm 4 (p.bins.map JD)/\F 29=.n p.bins.length/\F 30=.n (k:Nat)/\H[h.length]?=some (qH 6 [GL p])/\(∃x,H=h++x)/\cr I5 p.bins=cr I5 (p.bins.drop k)) p.bins.length ⟨0,BA,FB,FB,FB,FB,A8 _ _,⟨_,rfl⟩,rfl⟩ ?_
  rintro n F H ⟨k,hk,I,A,B,g,K,⟨x,e⟩,q⟩;refine AZ B g ?_;refine DV ?_ ?_<;>intro b
  .have T:=VJ I5 p.bins k b
   simp only[vQ,CP,↓reduceIte,jC,b_,XB,jQ,A,g,CE b,DL nD dK MP b,e9,gg _ _ [.str ⟨#[]⟩,.n 0,.sl .nil 0 [],.sl .nil 0 []] rfl,xf];refine(df G N.kw p.bins[k] (L.bins _ (jH b)) _).uu ?_;refine BL ?_ ?_<;>intro V
   .refine AB ?_
    have d:I5 p.bins[k]≠0:=BQ V;have:cr I5 p.bins=I5 p.bins[k]:=by rw[q,T,if_neg d]
    exact⟨by rw[l,this,if_pos d],x++_,by rw[e,zA]⟩
   .have d:I5 p.bins[k]=0:=BQ V
    refine AZ g (CZ k) ?_;exact⟨n-1,U,k+1,U,I,A,B,rfl,AU K,⟨x++_,by rw[e,zA]⟩,by rw[q,T,if_pos d]⟩
  .refine AB ?_
   exact⟨I,K,⟨x,e⟩,by rw[q,jS U];rfl⟩
 .rintro F H ⟨I,K,⟨x,e⟩,q⟩
  have l5:BR jA H 80 (.ptr h.length 0 5)=some (.sl p.bm 4 (p.bins.map JD)):=by rw[BJ PS K (row:=GL p) rfl,OQ]
  refine AZ I l5 ?_;refine(Yp G p.bins p.bm H U).uu ?_;cases S:SK (p.bins.map (·.name))
  .refine AB ?_
   exact⟨by rw[l,q,S];rfl,x,e⟩
  .refine AB ?_
   exact⟨by rw[l,q,S];rfl,x,e⟩
 .rintro F H ⟨X,e⟩
  refine A7 X ?_;exact⟨trivial,e⟩
theorem Yr (p:Pt)(R:ng p)(h:Hp):a_ (En G) 108 [.agg (GL p)] h (.n (H8 p)):=by
 refine ACalls.pure0 rfl ?_;have a0:=R.ex;have a2:=R.name;have a3:=R.num;refine cn Tryz.func108 2 ?_;refine MF @um @A' @vw ?_;refine(PI G p.name _).uu ?_;cases h1:FN p.name
 .refine AB ?_
  exact⟨by unfold H8;rw[if_pos h1],_,rfl⟩
 have q:¬FN p.name=false:=by rw[h1];decide
 simp only[vQ,CP,↓reduceIte,jC,qL,b_,eG,ID (A8 h _)];refine(WM G p.ex _ a0).uu ?_;refine BL ?_ ?_<;>intro h2
 .refine AB ?_
  exact⟨by unfold H8;rw[if_neg q,if_pos (BQ h2)],_,rfl⟩
 have C:¬c9 p.ex≠0:=BQ h2;refine U4 @OQ ?_;refine BL ?_ ?_<;>intro Q
 .refine AB ?_
  exact⟨by unfold H8;rw[if_neg q,if_neg C,if_pos (by simp at Q;simpa using Q)],_,rfl⟩
 have M:¬p.bins.length=0:=by simp at Q;simpa using Q
 refine U4 @OQ ?_;refine BL ?_ ?_<;>intro h4
 .refine AB ?_
  exact⟨by unfold H8;rw[if_neg q,if_neg C,if_neg M,if_pos (by simp at h4;omega)],_,rfl⟩
 have V:¬64<p.bins.length:=by simp at h4;omega
 have e:H8 p=if cr I5 p.bins≠0 then cr I5 p.bins else if SK (p.bins.map (·.name)) then 8 else 0:=by
  unfold H8;rw[if_neg q,if_neg C,if_neg M,if_neg V]
 refine AB ?_;refine EG 0 (fun F H=>F 1=.ptr h.length 0 0/\H=h++[qH 6 [GL p]]/\cr I5 p.bins=0) (fun F H=>F 2=.n (H8 p)/\∃x,H=h++x) ?_ ?_ ?_
 .refine BB (fun n F H=>∃k,n+k=p.bins.length/\F 1=.ptr h.length 0 0/\F 4=.n (k:Nat)/\H=h++[qH 6 [GL p]]/\cr I5 p.bins=cr I5 (p.bins.drop k)) p.bins.length ⟨0,BA,FB,FB,rfl,rfl⟩ ?_
  rintro n F H ⟨k,hk,a,S,rfl,P⟩;refine MF a S @OQ ?_;refine DV ?_ ?_<;>intro d
  .have L:=VJ I5 p.bins k d
   simp only[vQ,CP,↓reduceIte,jC,b_,XB,JW,a,S,EN PS,OQ,CE d,DL nD dK MP d];refine(dq G p.bins[k] (R.bins _ (jH d)) _).uu ?_;refine BL ?_ ?_<;>intro hv
   .refine AB ?_
    have A:I5 p.bins[k]≠0:=BQ hv;have:cr I5 p.bins=I5 p.bins[k]:=by rw[P,L,if_neg A]
    exact⟨by rw[e,this,if_pos A],_,rfl⟩
   .have A:I5 p.bins[k]=0:=BQ hv
    refine AZ S (CZ k) ?_;exact⟨n-1,U,k+1,U,a,rfl,trivial,by rw[P,L,if_pos A]⟩
  .refine AB ?_
   exact⟨a,trivial,by rw[P,jS U];rfl⟩
 .rintro F H ⟨a,rfl,P⟩
  rw[P,if_neg (fun hh=>hh rfl)] at e;refine A7 a ?_;generalize hN:p.bins.map (·.name)=N at e;have a1:N.length=p.bins.length:=by rw[<-hN];simp
  have O:∀i (Z:i<p.bins.length),N[i]?=some p.bins[i].name:=fun i Z=>by rw[<-hN,zB,jP Z];rfl
  refine BB (fun n F H=>∃i,n+i=p.bins.length/\F 1=.ptr h.length 0 0/\F 5=.n (i:Nat)/\H=h++[qH 6 [GL p]]/\SK N=vA (N.take i) (N.drop i)) p.bins.length ⟨0,BA,UT a,FB,rfl,rfl⟩ ?_;clear a;rintro n F H ⟨i,Z,a,l,rfl,X⟩;refine MF a l @OQ ?_;refine DV ?_ ?_<;>intro I
  .have b:=VK N i U
   rw[GK (O i I)] at b;refine A7 l ?_;refine EG 4 (fun g B=>g 1=.ptr h.length 0 0/\g 5=.n (i:Nat)/\B=h++[qH 6 [GL p]]/\JC (N.take i) p.bins[i].name=false) (fun g B=>g 2=.n 8/\B=h++[qH 6 [GL p]]/\SK N=true) ?_ ?_ ?_
   .refine BB (fun n g B=>∃k,n+k=i/\g 1=.ptr h.length 0 0/\g 5=.n (i:Nat)/\g 6=.n (k:Nat)/\B=h++[qH 6 [GL p]]/\JC (N.take i) p.bins[i].name=JC ((N.take i).drop k) p.bins[i].name) i ⟨0,BA,UT a,UT l,FB,rfl,rfl⟩ ?_
    clear a l;rintro n' F B ⟨k,hk,a,l,T,rfl,J⟩;refine AZ l T ?_;refine DV ?_ ?_<;>intro d
    .have K:k<p.bins.length:=U
     have L:=NH (fun u=>p.bins[i].name.toList==u.toList) (N.take i) k (by rw[jT];omega)
     have hx:(N.take i)[k]'(by rw[jT];omega)=p.bins[k].name:=by
      rw[List.getElem_take];exact GK (O k K)
     rw[hx] at L;refine AB ?_;refine DI BC ?_;simp only[vQ,QN,↓reduceIte,jC,jO,b_,XB,JW,uk,a,l,T,EN PS,OQ,CE I,CE K,BK eo I,BK eo K,vy];refine BL ?_ ?_<;>intro hb
     .refine AB ?_
      have:JC (N.take i) p.bins[i].name=true:=by
       rw[J];unfold JC;rw[L,BEq.comm,hb];rfl
      exact⟨trivial,trivial,by rw[X,b,this];rfl⟩
     .refine AZ T (CZ k) ?_
      refine⟨n'-1,U,k+1,U,a,l,rfl,trivial,?_⟩;rw[J];unfold JC;rw[L,BEq.comm,hb];rfl
    .refine AB ?_
     refine⟨a,l,trivial,?_⟩;rw[J,jS (by rw[jT];omega)];rfl
   .rintro g B ⟨g1,g5,rfl,hn⟩
    refine AZ g5 (CZ i) ?_;refine⟨n-1,U,i+1,U,g1,rfl,trivial,?_⟩;rw[X,b,hn];rfl
   .rintro g B ⟨g2,rfl,Y⟩
    refine A7 g2 ?_;exact⟨by rw[e,Y];rfl,_,rfl⟩
  .refine AB ?_
   exact⟨by rw[e,X,jS U];rfl,_,rfl⟩
 .rintro F H ⟨f2,hx⟩
  refine A7 f2 ?_;exact⟨trivial,hx⟩
def bw {α:Type}(k:Nat)(f:α->List AV)(h:Hp)(ys:List α)(v:AV)(H:Hp):Prop :=
 (ys=[]/\v=.sl .nil 0 [])\/(ys≠[]/\∃o,h.length<=o/\v=.own o 0 ys.length/\H[o]?=some (qH k (ys.map f)))
theorem bw.nil {α:Type}(k:Nat)(f:α->List AV)(h H:Hp):bw k f h [] (.sl .nil 0 []) H:=.inl ⟨rfl,rfl⟩
theorem bw.keep {α:Type}{f:α->List AV}{d:Hp}{ys:List α}(i:bw k f h ys v H)(hk:∀b,db v b->d[b]?=H[b]?):bw k f h ys v d:=by
 rcases i with a|⟨a,o,e,rfl,g⟩
 .exact .inl a
 .exact .inr ⟨a,o,e,rfl,by rw[hk o rfl];exact g⟩
theorem bw.lt {α:Type}{f:α->List AV}{ys:List α}{b:Nat}(g:bw k f h ys v H)(a:db v b):h.length<=b/\b<H.length:=by
 rcases g with⟨_,rfl⟩|⟨_,o,d,rfl,e⟩
 .exact a.elim
 .cases a;exact⟨d,AY e⟩
theorem bw.app {α:Type}{f:α->List AV}{ys:List α}(a:bw k f h ys v H)(x:Hp):bw k f h ys v (H++x) :=
 a.keep fun _ b=>qF (a.lt b).2
theorem bw.append {P:Program}{t e:TypeId}{α:Type}{p:Nat}{f:α->List AV}{ys:List α}(M:bw k f h ys v H)(B:P.underlying t=some (.slice e))(A:da P e=some k)(C:U5 P e=some k)(a:L8 P e=some p)(hbs:p<=4194304)(N:ys.length<8388608)(g:ext h H)(y:α):
  ∃l d,EJ P true H t t v (.sl .full k [f y])=some (l,d)/\bw k f h (ys++[y]) l d/\(∀b x,H[b]?=some x->¬db v b->d[b]?=some x)/\ext h d/\H.length<=d.length/\∀b,db l b->b=H.length:=by
 have q:([f y]:List (List AV))≠[]:=BA;rcases M with⟨rfl,rfl⟩|⟨L,o,F,rfl,I⟩
 .exact⟨_,_,WS B A C a (H6 H .full k [f y]) q (JF BA hbs),.inr ⟨BA,H.length,g.le,rfl,BA⟩,fun b x a _=>JM a,g.app _,BA,fun b a=>a.symm⟩
 .have J:JR H (.own o 0 ys.length)=some (k,ys.map f):=by
   rw[KH I BA,zI,jK BA]
  refine⟨_,_,VG B A C a J (H6 H .full k [f y]) q (JF NI hbs),.inr ⟨BA,H.length,g.le,BA,BA⟩,fun b x a K=>?_,(g.set F _).app _,BA,fun b a=>a.symm⟩;have i:¬o=b:=K;refine JM ?_;rw[zW,if_neg i];exact a
theorem bw.len {P:Program}{t:TypeId}{α:Type}{f:α->List AV}{ys:List α}(d:bw k f h ys v H)(a:(∀m k xs,KI P t (.sl m k xs)=some (.n xs.length))/\∀b off len,KI P t (.own b off len)=some (.n len)):KI P t v=some (.n ys.length):=by
 rcases d with⟨rfl,rfl⟩|⟨_,o,_,rfl,_⟩
 .exact a.1 _ _ _
 .exact a.2 _ _ _
def nm {α:Type}(ys:List α):SM:=match ys with
 | []=>.nil
 | _=>.any
theorem ez (n:Nat)(h:Hp)(d b off len k:Nat)(xs:List (List AV))(e:¬b<n)(a:h[b]?=some (qH k xs)):FK n h (d+1) (.own b off len)=if off+len<=xs.length/\(((xs.drop off).take len).map (·.map (FK n h d))).all (·.all AV.leaf)=true then .sl .any k (((xs.drop off).take len).map (·.map (FK n h d))) else .junk:=by
 rw[FK];simp only[e,if_false,a]
def jd {α:Type}(f:α->List AV):Prop:=∀(n:Nat) (h:Hp) (d:Nat) (x:α),(f x).map (FK n h (d+1))=f x/\(f x).all AV.leaf=true
theorem ft {α:Type}{f:α->List AV}(a:jd f)(n:Nat)(h:Hp)(d:Nat)(xs:List α):(xs.map f).map (·.map (FK n h (d+1)))=xs.map f:=by
 rw[qG];exact List.map_congr_left fun x _=>(a n h d x).1
theorem ew {α:Type}{f:α->List AV}(a:jd f){d:Nat}{xs:List α}(g:n<=o)(b:h[o]?=some (qH k (xs.map f))):FK n h (d+2) (.own o 0 xs.length)=.sl .any k (xs.map f):=by
 rw[ez n h (d+1) o 0 xs.length k _ U b,zI,jK BA,ft a n h d xs];rw[if_pos];refine⟨BA,?_⟩;rw[zJ];intro row e;obtain⟨x,_,rfl⟩:=zO.1 e;exact(a n h d x).2
theorem JL {f:FuncId}{args:List AV}{α:Type}{enc:α->List AV}(hf:jd enc){ys:List α}(hc:ACalls E f args h fun v H=>ext h H/\bw k enc h ys v H)(hX:E.nox=E:=by rfl):a_ E f args h (.sl (nm ys) k (ys.map enc)):=by
 have h1:a_ E f args h (if ys.length=0 then AV.sl .nil 0 [] else .sl .any k (ys.map enc)):=by
  refine ACalls.pure 2 hc ?_ hX;rintro v H ⟨hex,hout⟩;refine⟨hex,?_⟩;rcases hout with⟨rfl,rfl⟩|⟨hne,o,ho1,rfl,ho⟩
  .rfl
  .rw[if_neg (BQ hne)];exact ew hf ho1 ho
 refine ACalls.conv h1 ?_;rintro v H ⟨rfl,rfl⟩;refine⟨_,⟨rfl,rfl⟩,?_⟩;intro g cv hr
 cases ys with
 | nil=>exact E0 hr
 | cons y ys=>exact hr
def IV (m:Mo)(p:Int):List Bin:=match m.pts[p.toNat]? with
 | some q=>q.bins
 | none=>[]
def szs (m:Mo)(l:List Int):List Nat:=l.map fun p=>(IV m p).length
def Here (m:Mo)(l:List Int):Prop:=∀p∈l,0<=p/\p<(m.pts.length:Int)
theorem Here.toNat {m:Mo}{l:List Int}(a:Here m l){k:Nat}(hk:k<l.length):(l[k]).toNat<m.pts.length:=by
 have:=a _ (jH hk);omega
theorem Here.bins {m:Mo}{l:List Int}(a:Here m l){k:Nat}(hk:k<l.length):(m.pts[(l[k]).toNat]'(a.toNat hk)).bins=IV m l[k]:=by
 unfold IV;rw[jP (a.toNat hk)]
theorem Here.ix {m:Mo}{l:List Int}(a:Here m l){k:Nat}(hk:k<l.length)(h:Hp)(s:SM):JJ 6 h (.sl s 6 (m.pts.map GL)) (.n l[k])=some (.fptr 6 (m.pts.map GL) (l[k]).toNat 0):=by
 have:=a _ (jH hk);exact Cc this.1 (by rw[jI];exact this.2)
theorem Here.ld {m:Mo}{l:List Int}(a:Here m l){k:Nat}(hk:k<l.length)(h:Hp):∃s,BR jA h 80 (.fptr 6 (m.pts.map GL) (l[k]).toNat 5)=some (.sl s 4 ((IV m l[k]).map JD)):=by
 rw[BK PS (a.toNat hk),OQ,a.bins hk];exact⟨_,rfl⟩
theorem nj:jd bu:=fun _ _ _ _=>⟨rfl,rfl⟩
theorem od (h:Hp)(v:Int):DR jA false h 32 1 [(0,.n v)]=some (.sl .full 1 [[.n v]],h):=BC
def KD (n:Nat):List AV:=[.n (n:Int)]
theorem w4:jd KD:=fun _ _ _ _=>⟨rfl,rfl⟩
theorem sH (n:Nat):(KD n)[0]?=some (.n (n:Int)):=rfl
theorem cy (n:Int):(bu n)[0]?=some (.n n):=rfl
theorem DQ (m:Mo)(l:List Int)(k:Nat)(hk:k<l.length):szs m (l.take (k+1))=szs m (l.take k)++[(IV m l[k]).length]:=by
 unfold szs;rw[jW hk,qE];rfl
theorem dP (m:Mo)(c:Cr)(h:Hp)(K:Here m c.pts)(S:c.pts.length<=1048576):a_ (En G) 148 [.agg (C9 m),.agg (IM c)] h (.sl (nm (szs m c.pts)) 1 ((szs m c.pts).map KD)):=by
 refine JL w4 ?_;refine cn Tryz.func148 4 ?_;refine N8 @er @me MB @U1 ?_;have i:(h++[qH 2 [C9 m]]++[qH 3 [IM c]])[h.length]?=some (qH 2 [C9 m]):=AU (A8 _ _);refine BB (fun n F H=>∃k,n+k=c.pts.length/\F 2=.ptr h.length 0 0/\F 9=.sl c.pm 1 (c.pts.map bu)/\F 10=.n c.pts.length/\F 11=.n (k:Nat)/\H[h.length]?=some (qH 2 [C9 m])/\ext h H/\(∀b,db (F 5) b->h.length<b)/\bw 1 KD h (szs m (c.pts.take k)) (F 5) H) c.pts.length ⟨0,BA,FB,FB,FB,FB,i,((ext.rfl' h).app _).app _,fun b g=>g.elim,bw.nil _ _ _ _⟩ ?_;rintro n F H ⟨k,hk,C,I,f10,f11,g,J,p,q⟩;refine AZ f10 f11 ?_;refine DV ?_ ?_<;>intro a
 .have P:BR jA H 28 (.ptr h.length 0 0)=some (.sl m.pm 6 (m.pts.map GL)):=by rw[BJ lE g (row:=C9 m) rfl,XT]
  obtain⟨s,Q⟩:=K.ld a H;have B:(szs m (c.pts.take k)).length<8388608:=by unfold szs;simp;omega
  obtain⟨R,L,M,A,d,l,hle,N⟩:=q.append dJ iz mr nA U B J (IV m c.pts[k]).length;simp only[vQ,CP,↓reduceIte,jC,b_,QJ,J5,J8,aF,JW,C,I,f11,CE a,BK ct a,cy,P,K.ix a,Q,jI,od];refine KG (v:=R) (h:=L) (by rw[show [[AV.int .i64 ((IV m c.pts[k]).length:Int)]]=[KD (IV m c.pts[k]).length] from rfl,M]) ?_;refine AZ f11 (CZ k) ?_;refine⟨n-1,U,k+1,U,C,I,f10,rfl,d _ _ g (fun e=>by have:=p _ e;omega),l,fun b O=>?_,?_⟩
  .grind
  .rw[DQ m c.pts k a];exact A
 .rw[jK U] at q
  refine AB ?_;exact⟨J,q⟩
def GN (l:List Nat):Nat:=l.foldl (· * ·) 1
theorem QT (l:List Nat)(k:Nat)(hk:k<l.length):GN (l.take (k+1))=GN (l.take k)*l[k]:=by
 unfold GN;rw[jW hk,List.foldl_append];rfl
theorem pM (l:List Nat)(k:Nat)(h:∀n∈l,n<=64)(hk:l.length<=k):GN l<=64^k:=by
 have gen:∀(l:List Nat) (a:Nat) (j:Nat),(∀n∈l,n<=64)->a<=64^j->l.foldl (· * ·) a<=64^(j+l.length):=by
  intro l
  induction l with
  | nil=>intro a j _ b;exact b
  | cons x l g =>
    intro a j d b;rw[qU,zF,show j+(l.length+1)=(j+1)+l.length by omega];refine g _ _ (fun n e=>d n (by simp [e])) ?_;rw[Nat.pow_succ];exact Nat.mul_le_mul b (d x BA)
 have:=gen l 1 0 h BA;rw[jG] at this;exact qW this (Nat.pow_le_pow_right U hk)
theorem Uo (l:List Nat)(k:Nat)(h:∀n∈l,1<=n):GN (l.take k)<=GN l:=by
 have gen:∀(l:List Nat) (a:Nat),(∀n∈l,1<=n)->a<=l.foldl (· * ·) a:=by
  intro l
  induction l with
  | nil=>intro a _;exact jF _
  | cons x l g =>
    intro a d;rw[qU];refine qW ?_ (g _ (fun n b=>d n (by simp [b])));exact Nat.le_mul_of_pos_right a (d x BA)
 have e:GN l=(l.drop k).foldl (· * ·) (GN (l.take k)):=by
  unfold GN
  conv=>lhs;rw[<-wE k l,List.foldl_append]
 rw[e];exact gen _ _ (fun n b=>h n (List.mem_of_mem_drop b))
theorem YL (l:List Nat)(s:SM)(h:Hp)(p:∀n∈l,n<=64)(hk:l.length<=4):a_ (En G) 147 [.sl s 1 (l.map KD)] h (.n (GN l)):=by
 refine cn Tryz.func147 2 ?_;refine AB ?_
 have A:∀k,GN (l.take k)<=16777216:=fun k=>by
  have:=pM (l.take k) 4 (fun n q=>p n (List.mem_of_mem_take q)) (by rw[jT];omega);simpa using this
 refine BB (fun n F H=>∃k,n+k=l.length/\F 3=.n (GN (l.take k))/\F 6=.sl s 1 (l.map KD)/\F 7=.n l.length/\F 8=.n (k:Nat)/\H=h) l.length ⟨0,BA,AL,AL,AL,AL,rfl⟩ ?_;rintro n F H ⟨k,hk,b,g,d,e,rfl⟩;refine AZ d e ?_;refine DV ?_ ?_<;>intro a
 .have i:=A (k+1)
  rw[QT l k a] at i
  have B:IntKind.i64.wrap ((GN (l.take k):Int)*(l[k]:Int))=((GN (l.take (k+1)):Nat):Int):=by
   rw[QT l k a,<-wU,ND U]
  refine LJ b g e a @sH B (CZ k) ?_;exact⟨n-1,U,k+1,U,rfl,trivial,d,rfl,trivial⟩
 .rw[jK U] at b
  refine A7 b ?_;exact H7
def JZ:List Nat->List Int->Bool
 | [],[]=>true
 | n::ns,x::xs=>decide (0<=x)&&decide (x<(n:Int))&&JZ ns xs
 | _,_=>false
theorem AT3 (ns:List Nat):JZ ns []=(ns.length==0):=by cases ns<;>rfl
theorem QL:∀ {ns:List Nat} {xs:List Int},JZ ns xs=true->ns.length=xs.length
 | [],[],_=>rfl
 | n::ns,x::xs,h=>by
   simp only[JZ,jY] at h;simp [QL h.2]
 | [],_::_,h=>by cases h
 | _::_,[],h=>by cases h
theorem fk (ns:List Nat)(xs:List Int)(s t:SM)(h:Hp)(K:ns.length<=1048576):a_ (En G) 167 [.sl s 1 (ns.map KD),.sl t 1 (xs.map bu)] h (.bool (JZ ns xs)):=by
 refine cn Tryz.func167 4 ?_;refine AB ?_;refine BB (fun n F H=>∃k,n+k=xs.length/\k<=ns.length/\F 0=.sl s 1 (ns.map KD)/\F 1=.sl t 1 (xs.map bu)/\F 7=.sl t 1 (xs.map bu)/\F 8=.n xs.length/\F 9=.n (k:Nat)/\H=h/\JZ ns xs=JZ (ns.drop k) (xs.drop k)) xs.length ⟨0,BA,BA,AL,AL,AL,AL,AL,rfl,rfl⟩ ?_;rintro n F H ⟨k,hk,J,e,p,q,A,l,rfl,b⟩;refine AZ A l ?_;refine DV ?_ ?_<;>intro d
 .rw[zU d] at b
  simp only[vQ,EM,CP,↓reduceIte,jC,b_,J8,UF,e,q,l,CE d,BK ct d,cy,jI];refine I8 ?_ ?_<;>intro g
  .refine A7 g ?_
   have:ns.length<=k:=by simp at g;omega
   rw[jS this] at b;exact⟨by rw[b];rfl,trivial⟩
  have a:k<ns.length:=by simp at g;omega
  rw[zU a] at b;refine A7 g ?_;refine I8 ?_ ?_<;>intro i
  .refine A7 i ?_
   have:decide (0<=xs[k])=false:=by simp at i|-;omega
   exact⟨by rw[b];unfold JZ;rw[this];rfl,trivial⟩
  have B:decide (0<=xs[k])=true:=by simp at i|-;omega
  simp only[vQ,EM,CP,↓reduceIte,jC,b_,J8,i,e,CE a,BK ct a,sH];refine BL ?_ ?_<;>intro C
  .refine AB ?_
   have:decide (xs[k]<(ns[k]:Int))=false:=by simp at C|-;omega
   exact⟨by rw[b];unfold JZ;rw[this,B];rfl,trivial⟩
  have I:decide (xs[k]<(ns[k]:Int))=true:=by simp at C|-;omega
  refine AZ l (CZ k) ?_;refine⟨n-1,U,k+1,U,U,e,p,q,A,rfl,trivial,?_⟩;rw[b]
  conv=>lhs;unfold JZ
  rw[B,I];rfl
 .refine AZ e p ?_
  refine⟨?_,trivial⟩;rw[b,jS (U:xs.length<=k),AT3,List.length_drop];congr 1;rw[wJ];simp;omega
theorem Tx (G:Nat->AV)(xs:List Is)(m:SM)(e:FuncId)(a:List AV)(p:Is->Bool)(h:Hp)(K:xs.length<=1099511627776)
  (I:∀r,a_ (En G) e (.sl r.m 1 (r.l.map bu)::a) h (.bool (p r))) :
  a_ (En G) 243 [.sl m 1 (xs.map LW),.fn (.func e) [] a] h (.n (match xs.findIdx? p with|some i=>(i:Int)|none => -1)):=by
 refine cn Tryz.func243 4 ?_;refine AB ?_;refine BB (fun n F H=>∃k,n+k=xs.length/\F 0=.sl m 1 (xs.map LW)/\F 1=.fn (.func e) [] a/\F 7=.n xs.length/\F 8=.n (k:Nat)/\H=h/\(xs.take k).all (fun r => !p r)=true) xs.length ⟨0,BA,rfl,rfl,rfl,rfl,rfl,rfl⟩ ?_;rintro n F H ⟨k,hk,g,q,A,B,rfl,b⟩;refine EH g q A B ?_;refine DV ?_ ?_<;>intro d
 .simp only[vQ,CP,zX,zG,↓reduceIte,jC,b_,V6,g,q,A,B,CE d,BK MB d,SQ]
  refine(I _).uu ?_;refine BL ?_ ?_<;>intro C
  .refine AB ?_
   refine⟨?_,trivial⟩
   rw[wV.2 ⟨d,C,fun j J=>by
    rw[zJ] at b;have:=b xs[j] (by rw[List.mem_take_iff_getElem];exact⟨j,U,rfl⟩)
    simpa using this⟩]
  .refine AZ B (CZ k) ?_
   refine⟨n-1,U,k+1,U,g,q,A,rfl,trivial,?_⟩;rw[jW d,List.all_append,b];simp only[wZ,List.all_nil,C];rfl
 .refine AB ?_
  refine⟨?_,trivial⟩;rw[jK U] at b;rw[yA.2 (BQ b)]
theorem VX (G:Nat->AV)(xs:List Is)(m:SM)(b:FuncId)(a:List AV)(p:Is->Bool)(h:Hp)(A:xs.length<=1099511627776)
  (q:∀r,a_ (En G) b (.sl r.m 1 (r.l.map bu)::a) h (.bool (p r))) :
  a_ (En G) 165 [.sl m 1 (xs.map LW),.fn (.func b) [] a] h (.bool (xs.any p)):=by
 refine cn Tryz.func165 4 ?_;refine AB ?_;refine(Tx G xs m b a p h A q).uu ?_;refine⟨?_,trivial⟩
 cases d:xs.findIdx? p with
 | some i =>
   obtain⟨B,g,_⟩:=wV.1 d;have:xs.any p=true:=qK.2 ⟨xs[i],BA,g⟩;simp [this]
 | none =>
   have:xs.any p=false:=by
    rw[yA] at d;rw[qP];intro x e;simp [d x e]
   simp [this]
theorem RT (ns:List Nat)(s:SM)(b:Nat)(r:Is)(h:Hp)(a:h[b]?=some (qH 1 [[.sl s 1 (ns.map KD)]]))(d:ns.length<=1048576):
  a_ (En G) 166 [.sl r.m 1 (r.l.map bu),.ptr b 0 0] h (.bool (!JZ ns r.l)):=by
 refine cn Tryz.func166 3 ?_;refine A7 (IA MB a) ?_;refine(fk G ns r.l s r.m h d).uu ?_;exact H7
def aK (n:Nat):Option Int->List Int->Bool
 | _,[]=>true
 | o,p::ps=>(decide (0<=p)&&decide (p<(n:Int))&&(match o with|some q=>decide (q<p)|none=>true))&&aK n (some p) ps
def prev (l:List Int)(k:Nat):Option Int:=match k with
 | 0=>none
 | k+1=>l[k]?
theorem xX (n:Nat)(l:List Int)(k:Nat)(hk:k<l.length):aK n (prev l k) (l.drop k)=((decide (0<=l[k])&&decide (l[k]<(n:Int))&&(match prev l k with|some q=>decide (q<l[k])|none=>true))&&aK n (prev l (k+1)) (l.drop (k+1))):=by
 rw[zU hk];have:prev l (k+1)=some l[k]:=by unfold prev;exact jP hk
 rw[this];rfl
theorem bV {m:Mo}:∀ {l:List Int} {o:Option Int},aK m.pts.length o l=true->Here m l
 | [],_,_=>fun p a=>by cases a
 | x::l,o,h=>by
   simp only[aK,jY,decide_eq_true_eq] at h;intro p a
   cases zM.1 a with
   | inl e=>subst e;exact⟨h.1.1.1,h.1.1.2⟩
   | inr e=>exact bV h.2 p e
def IP (m:Mo)(c:Cr):Int :=
 if FN c.name=false then 7 else if c.pts.length<2\/4<c.pts.length then 1 else if aK m.pts.length none c.pts=false then 1 else
  if 256<GN (szs m c.pts)\/256<c.excl.length then 2 else if(c.excl.any fun x => !JZ (szs m c.pts) x.l) then 1 else 0
structure m9 (c:Cr):Prop where
 name:c.name.size<=1048576
 pts:c.pts.length<=1048576
 excl:c.excl.length<=1048576
 each:∀x∈c.excl,x.l.length<=1048576
def Full (m:Mo):Prop:=∀p∈m.pts,1<=p.bins.length/\p.bins.length<=64
theorem Full.szs {m:Mo}{l:List Int}(b:Full m)(d:Here m l):∀n∈szs m l,1<=n/\n<=64:=by
 intro n e;obtain⟨p,g,rfl⟩:=zO.1 e;obtain⟨i,q⟩:=d p g;have a:p.toNat<m.pts.length:=U;have:IV m p=(m.pts[p.toNat]).bins:=by unfold IV;rw[jP a]
 rw[this];exact b _ (jH a)
theorem BA4 (h:Hp):H9 jA h 32=some (.ptr h.length 0 0,h++[qH 1 [[.sl .nil 0 []]]]):=FZ (row:=[.sl .nil 0 []]) BC
theorem dk {b:Nat}{m:Mo}(a:h[b]?=some (qH 2 [C9 m])):BR jA h 31 (.ptr b 0 0)=some (.agg (C9 m)):=by
 rw[EK ya sn a rfl (by rw[sI];exact jF 2)];rfl
theorem ow {b:Nat}{c:Cr}(a:h[b]?=some (qH 3 [IM c])):BR jA h 90 (.ptr b 0 0)=some (.agg (IM c)):=by
 rw[EK vF mN a rfl (by rw[NF];exact jF 3)];rfl
theorem Wo (hG:fm G)(m:Mo)(c:Cr)(X:m9 c)(hf:Full m)(h:Hp):a_ (En G) 88 [.agg (C9 m),.agg (IM c)] h (.n (IP m c)):=by
 refine ACalls.pure0 rfl ?_;have a2:=X.name;have a3:=X.pts;have a4:=X.excl;refine cn Tryz.func88 4 ?_;have T:(h++[qH 2 [C9 m]]++[qH 3 [IM c]])[h.length]?=some (qH 2 [C9 m]):=AU (A8 _ _);have M:(h++[qH 2 [C9 m]]++[qH 3 [IM c]])[(h++[qH 2 [C9 m]]).length]?=some (qH 3 [IM c]):=A8 _ _;have I:∃x,h++[qH 2 [C9 m]]++[qH 3 [IM c]]=h++x:=⟨_,zA _ _ _⟩;have Y:h.length<(h++[qH 2 [C9 m]]).length:=BA;refine DC @uj @er @me ?_
 generalize h++[qH 2 [C9 m]]++[qH 3 [IM c]]=H at T M I|-
 generalize (h++[qH 2 [C9 m]]).length=cb at M Y|-
 have lm:BR jA H 28 (.ptr h.length 0 0)=some (.sl m.pm 6 (m.pts.map GL)):=by rw[BJ lE T (row:=C9 m) rfl,XT]
 have a1:BR jA H 9 (.ptr cb 0 0)=some (.str c.name):=by rw[BJ eo M (row:=IM c) rfl,vx]
 have B:BR jA H 32 (.ptr cb 0 1)=some (.sl c.pm 1 (c.pts.map bu)):=by rw[BJ MB M (row:=IM c) rfl,U1]
 have a5:BR jA H 25 (.ptr cb 0 2)=some (.sl c.xm 1 (c.excl.map LW)):=by rw[BJ XF M (row:=IM c) rfl,rV]
 refine A7 a1 ?_;refine(NZ G hG.kw c.name _ U).uu ?_;cases h1:FN c.name
 .refine AB ?_
  exact⟨by unfold IP;rw[if_pos h1],I⟩
 have a:¬FN c.name=false:=by rw[h1];decide
 refine A7 B ?_;refine I8 ?_ ?_<;>intro S
 .refine A7 S ?_
  exact⟨by unfold IP;rw[if_neg a,if_pos (.inl (by simp at S;omega))],I⟩
 refine AZ S B ?_;refine BL ?_ ?_<;>intro h3
 .refine AB ?_
  exact⟨by unfold IP;rw[if_neg a,if_pos (.inr (by simp at h3;omega))],I⟩
 have e:¬(c.pts.length<2\/4<c.pts.length):=by simp at S h3;omega
 refine A7 B ?_;refine EG 0 (fun F d=>F 2=.ptr h.length 0 0/\F 3=.ptr cb 0 0/\d=H/\aK m.pts.length none c.pts=true) (fun F d=>F 4=.n 1/\d=H/\aK m.pts.length none c.pts=false) ?_ ?_ ?_
 .refine BB (fun n F d=>∃k,n+k=c.pts.length/\F 2=.ptr h.length 0 0/\F 3=.ptr cb 0 0/\F 23=.sl c.pm 1 (c.pts.map bu)/\F 24=.n c.pts.length/\F 25=.n (k:Nat)/\d=H/\aK m.pts.length none c.pts=aK m.pts.length (prev c.pts k) (c.pts.drop k)) c.pts.length ⟨0,BA,AL,AL,AL,AL,AL,rfl,rfl⟩ ?_
  rintro n F d ⟨k,hk,K,i,f23,L,g,rfl,b⟩;refine AZ L g ?_;refine DV ?_ ?_<;>intro N
  .rw[xX _ _ _ N] at b
   simp only[vQ,EM,CP,↓reduceIte,jC,b_,J8,K,i,f23,g,CE N,BK ct N,cy];refine I8 ?_ ?_<;>intro p
   .refine A7 p ?_
    have:decide (0<=c.pts[k])=false:=by simp at p|-;omega
    exact⟨trivial,trivial,by rw[b,this];rfl⟩
   have P:decide (0<=c.pts[k])=true:=by simp at p|-;omega
   refine DC p K lm ?_;refine I8 ?_ ?_<;>intro C
   .refine A7 C ?_
    have:decide (c.pts[k]<(m.pts.length:Int))=false:=by simp at C|-;omega
    exact⟨trivial,trivial,by rw[b,this,P];rfl⟩
   have V:decide (c.pts[k]<(m.pts.length:Int))=true:=by simp at C|-;omega
   rw[P,V] at b;simp only[qX] at b
   cases k with
   | zero =>
     have hz:decide ((((0:Nat):Int))>0)=false:=by decide
     refine EH C hz g (CZ 0) ?_;exact⟨n-1,U,1,U,K,i,f23,L,rfl,trivial,by rw[b];rfl⟩
   | succ k =>
     have hz:decide ((((k+1:Nat):Int))>0)=true:=BA;have hw:IntKind.i64.wrap (((k+1:Nat):Int)-1)=(k:Int):=by rw[wrap_i64 U U];omega
     have O:k<c.pts.length:=U;have Z:prev c.pts (k+1)=some c.pts[k]:=by unfold prev;exact jP O
     rw[Z] at b;simp only[vQ,EM,SX,CP,L9,cI,↓reduceIte,jC,b_,J8,LQ,C,hz,i,B,hw,CE O,BK ct O,cy];refine BL ?_ ?_<;>intro hd
     .refine AB ?_
      have:decide (c.pts[k]<c.pts[k+1])=false:=by simp at hd|-;omega
      exact⟨trivial,trivial,by rw[b];simp only[this];rfl⟩
     .refine AZ g (CZ (k+1)) ?_
      have:decide (c.pts[k]<c.pts[k+1])=true:=by simp at hd|-;omega
      exact⟨n-1,U,k+1+1,U,K,i,f23,L,rfl,trivial,by rw[b];simp only[this];rfl⟩
  .refine AB ?_
   exact⟨K,i,trivial,by rw[b,jS U];rfl⟩
 .rintro F d ⟨K,i,rfl,b⟩
  have hh:=bV b;have q:¬aK m.pts.length none c.pts=false:=by rw[b];decide
  refine EH K i (dk T) (ow M) ?_;refine(dP G m c _ hh U).use ?_;have a0:(szs m c.pts).length<=4:=by unfold szs;simp;omega
  have R:=WC (t:=32) (v:=.sl .nil 0 []) (u:=.sl (nm (szs m c.pts)) 1 ((szs m c.pts).map KD)) nv (Ps _ _ _) (A8 d (qH 1 [[.sl .nil 0 []]]));rw[nH] at R;refine aZ BA4 R @IA MB @A8 ?_;refine(YL G _ _ _ (fun n hn=>(hf.szs hh n hn).2) a0).use ?_
  have A:∃x,d++[qH 1 [[AV.sl (nm (szs m c.pts)) 1 ((szs m c.pts).map KD)]]]=h++x:=by
   obtain⟨x,I⟩:=I;exact⟨x++_,by rw[I,zA]⟩
  have J:∀x,BR jA (d++[x]) 25 (.ptr cb 0 2)=some (.sl c.xm 1 (c.excl.map LW)):=fun x=>by rw[BJ XF (AU M) (row:=IM c) rfl,rV]
  refine AB ?_;refine I8 ?_ ?_<;>intro p
  .refine A7 p ?_
   exact⟨by unfold IP;rw[if_neg a,if_neg e,if_neg q,if_pos (.inl (by simp at p;omega))],A⟩
  refine DC p i J ?_;refine BL ?_ ?_<;>intro C
  .refine AB ?_
   exact⟨by unfold IP;rw[if_neg a,if_neg e,if_neg q,if_pos (.inr (by simp at C;omega))],A⟩
  have Q:¬(256<GN (szs m c.pts)\/256<c.excl.length):=by simp at p C;omega
  refine AZ i J ?_;refine(VX G c.excl c.xm 166 _ (fun x => !JZ (szs m c.pts) x.l) _ U fun r=>RT G _ _ _ r _ (A8 d _) U).uu ?_;cases he:c.excl.any fun x => !JZ (szs m c.pts) x.l
  .refine AB ?_
   exact⟨by unfold IP;rw[if_neg a,if_neg e,if_neg q,if_neg Q,he];rfl,A⟩
  .refine AB ?_
   exact⟨by unfold IP;rw[if_neg a,if_neg e,if_neg q,if_neg Q,he];rfl,A⟩
 .rintro F d ⟨f4,rfl,b⟩
  refine A7 f4 ?_;exact⟨by unfold IP;rw[if_neg a,if_neg e,if_pos b],I⟩
theorem YI (m:Mo)(l:List Int)(k:Nat)(hk:k<l.length):(szs m l)[k]?=some (IV m l[k]).length:=by
 unfold szs;rw[zB,jP hk];rfl
theorem KT (m:Mo)(l:List Int):(szs m l).length=l.length:=by unfold szs;simp
structure Two (h H:Hp) (m:Mo) (c:Cr) (cb:Nat):Prop where
 gm:H[h.length]?=some (qH 2 [C9 m])
 gc:H[cb]?=some (qH 3 [IM c])
 hx:∃x,H=h++x
theorem Two.lm {m:Mo}{c:Cr}(t:Two h H m c cb):BR jA H 28 (.ptr h.length 0 0)=some (.sl m.pm 6 (m.pts.map GL)):=by rw[BJ lE t.gm (row:=C9 m) rfl,XT]
theorem Two.l0 {m:Mo}{c:Cr}(t:Two h H m c cb):BR jA H 9 (.ptr cb 0 0)=some (.str c.name):=by rw[BJ eo t.gc (row:=IM c) rfl,vx]
theorem Two.l1 {m:Mo}{c:Cr}(t:Two h H m c cb):BR jA H 32 (.ptr cb 0 1)=some (.sl c.pm 1 (c.pts.map bu)):=by rw[BJ MB t.gc (row:=IM c) rfl,U1]
theorem Two.l2 {m:Mo}{c:Cr}(t:Two h H m c cb):BR jA H 25 (.ptr cb 0 2)=some (.sl c.xm 1 (c.excl.map LW)):=by rw[BJ XF t.gc (row:=IM c) rfl,rV]
theorem Two.mk' (h:Hp)(m:Mo)(c:Cr):Two h (h++[qH 2 [C9 m]]++[qH 3 [IM c]]) m c (h++[qH 2 [C9 m]]).length:=⟨AU (A8 _ _),A8 _ _,⟨_,zA _ _ _⟩⟩
theorem yP (m:Mo)(c:Cr)(h:Hp)(i:Here m c.pts)(M:Full m)(S:c.pts.length<=1048576):a_ (En G) 58 [.agg (C9 m),.agg (IM c)] h (.n (min (GN (szs m c.pts)) 1000)):=by
 refine ACalls.pure0 rfl ?_;refine cn Tryz.func58 4 ?_;have t:=Two.mk' h m c;refine AZ @er @me ?_
 generalize h++[qH 2 [C9 m]]++[qH 3 [IM c]]=H at t|-
 generalize (h++[qH 2 [C9 m]]).length=cb at t|-
 have J:=M.szs i;refine EG 0 (fun F d=>(F 5=.n (GN (szs m c.pts):Nat)\/∃n:Nat,1000<=n/\n<=GN (szs m c.pts)/\F 5=.n n)/\d=H) (fun _ _=>False) ?_ ?_ (fun _ _ i=>i.elim)
 .refine BB (fun n F d=>∃k,n+k=c.pts.length/\F 2=.ptr h.length 0 0/\F 3=.ptr cb 0 0/\F 5=.n (GN ((szs m c.pts).take k):Nat)/\F 6=.n (k:Nat)/\d=H) c.pts.length ⟨0,BA,AL,AL,AL,AL,rfl⟩ ?_
  rintro n F d ⟨k,hk,K,A,b,B,rfl⟩;refine DC A B @t.l1 ?_;refine I8 ?_ ?_<;>intro q
  .have a:k<c.pts.length:=BQ q
   refine AZ q b ?_;refine BL ?_ ?_<;>intro C
   .have L:GN ((szs m c.pts).take k)<1000:=by simp at C;omega
    obtain⟨s,P⟩:=i.ld a d;have l:k<(szs m c.pts).length:=by rw[KT];exact a
    have g:(szs m c.pts)[k]=(IV m c.pts[k]).length:=GK (YI m c.pts k a);have e:=(J _ (jH l)).2;rw[g] at e;have p:=QT (szs m c.pts) k l;rw[g] at p;have I:GN ((szs m c.pts).take k)*(IV m c.pts[k]).length<=1000*64:=Nat.mul_le_mul U e
    have O:IntKind.i64.wrap ((GN ((szs m c.pts).take k):Int)*((IV m c.pts[k]).length:Int))=((GN ((szs m c.pts).take (k+1)):Nat):Int):=by
     rw[p,<-wU,ND U]
    refine AB ?_;refine DI BC ?_;simp only[vQ,JX,CP,Y6,↓reduceIte,jC,jO,b_,QJ,J5,J8,aF,JW,LQ,K,A,b,B,t.lm,t.l1,CE a,BK ct a,cy,i.ix a,P,jI,O,CZ k];exact⟨n-1,U,k+1,U,trivial,trivial,rfl,rfl,trivial⟩
   .refine AB ?_
    exact⟨.inr ⟨_,by simp at C;omega,Uo _ _ (fun n N=>(J n N).1),b⟩,trivial⟩
  .have a:¬k<c.pts.length:=BQ q
   refine A7 q ?_;refine⟨.inl ?_,trivial⟩;rw[jK (by rw[KT];omega)] at b;exact b
 .rintro F d ⟨b,rfl⟩
  rcases b with b|⟨n,Q,R,b⟩
  .refine A7 b ?_
   exact⟨trivial,t.hx⟩
  .refine A7 b ?_
   exact⟨by congr 1;omega,t.hx⟩
def placed (m:Mo)(c:Cr):Bool:=decide (2<=c.pts.length)&&decide (c.pts.length<=4)&&aK m.pts.length none c.pts
theorem Ur (m:Mo)(c:Cr)(h:Hp)(Q:c.pts.length<=1048576):a_ (En G) 196 [.agg (C9 m),.agg (IM c)] h (.bool (placed m c)):=by
 refine ACalls.pure0 rfl ?_;refine cn Tryz.func196 4 ?_;have t:=Two.mk' h m c;refine AZ @er @me ?_
 generalize h++[qH 2 [C9 m]]++[qH 3 [IM c]]=H at t|-
 generalize (h++[qH 2 [C9 m]]).length=cb at t|-
 refine A7 @t.l1 ?_;refine I8 ?_ ?_<;>intro q
 .refine A7 q ?_
  have:decide (2<=c.pts.length)=false:=by simp at q|-;omega
  exact⟨by unfold placed;rw[this];rfl,t.hx⟩
 have N:decide (2<=c.pts.length)=true:=by simp at q|-;omega
 refine AZ q @t.l1 ?_;refine BL ?_ ?_<;>intro L
 .refine AB ?_
  have:decide (c.pts.length<=4)=false:=by simp at L|-;omega
  exact⟨by unfold placed;rw[this];simp,t.hx⟩
 have O:decide (c.pts.length<=4)=true:=by simp at L|-;omega
 have C:placed m c=aK m.pts.length none c.pts:=by unfold placed;rw[N,O];rfl
 rw[C];refine AB ?_;refine BB (fun n F K=>∃k,n+k=c.pts.length/\F 2=.ptr h.length 0 0/\F 3=.ptr cb 0 0/\F 5=.n (k:Nat)/\K=H/\aK m.pts.length none c.pts=aK m.pts.length (prev c.pts k) (c.pts.drop k)) c.pts.length ⟨0,BA,AL,AL,AL,rfl,rfl⟩ ?_;rintro n F K ⟨k,hk,p,e,g,rfl,b⟩;refine DC e g @t.l1 ?_;refine DV ?_ ?_<;>intro a
 .rw[xX _ _ _ a] at b
  refine AB ?_;refine DI BC ?_;simp only[vQ,JA,KW,EM,↓reduceIte,jC,jO,b_,J8,LQ,p,e,g,t.l1,CE a,BK ct a,cy];refine mL ?_ ?_<;>intro A
  .refine A7 A ?_
   have:decide (0<=c.pts[k])=false:=by simp at A|-;omega
   exact⟨by rw[b,this];rfl,t.hx⟩
  have i:decide (0<=c.pts[k])=true:=by simp at A|-;omega
  simp only[vQ,JA,KW,ZJ,RD,EM,↓reduceIte,jC,jO,b_,pg,J5,J8,LQ,A,p,e,g,t.lm,t.l1,CE a,BK ct a,cy,jI];refine mL ?_ ?_<;>intro l
  .refine A7 l ?_
   have:decide (c.pts[k]<(m.pts.length:Int))=false:=by simp at l|-;omega
   exact⟨by rw[b,this,i];rfl,t.hx⟩
  have B:decide (c.pts[k]<(m.pts.length:Int))=true:=by simp at l|-;omega
  rw[i,B] at b;simp only[qX] at b
  cases k with
  | zero =>
    have J:decide ((((0:Nat):Int))>0)=false:=by decide
    refine EH l J g (CZ 0) ?_;exact⟨n-1,U,1,U,p,e,rfl,trivial,by rw[b];rfl⟩
  | succ k =>
    have J:decide ((((k+1:Nat):Int))>0)=true:=BA;have P:IntKind.i64.wrap (((k+1:Nat):Int)-1)=(k:Int):=by rw[wrap_i64 U U];omega
    have d:k<c.pts.length:=U;have I:prev c.pts (k+1)=some c.pts[k]:=by unfold prev;exact jP d
    rw[I] at b;simp only[vQ,JA,KW,ZI,ZJ,RD,EM,L9,cI,↓reduceIte,jC,jO,b_,J8,LQ,l,J,e,g,t.l1,P,CE a,CE d,BK ct a,BK ct d,cy];refine BL ?_ ?_<;>intro M
    .refine AB ?_
     have:decide (c.pts[k]<c.pts[k+1])=false:=by simp at M|-;omega
     exact⟨by rw[b];simp only[this];rfl,t.hx⟩
    .refine AZ g (CZ (k+1)) ?_
     have:decide (c.pts[k]<c.pts[k+1])=true:=by simp at M|-;omega
     exact⟨n-1,U,k+1+1,U,p,e,rfl,trivial,by rw[b];simp only[this];rfl⟩
 .refine AB ?_
  exact⟨by rw[b,jS U];rfl,t.hx⟩
theorem mY (m:Mo)(c:Cr)(x:Is)(h:Hp)(M:Here m c.pts)(Q:c.pts.length<=1048576):a_ (En G) 197 [.agg (C9 m),.agg (IM c),.sl x.m 1 (x.l.map bu)] h (.bool (JZ (szs m c.pts) x.l)):=by
 refine ACalls.pure0 rfl ?_;refine cn Tryz.func197 6 ?_;have t:=Two.mk' h m c;refine AZ @er @me ?_
 generalize h++[qH 2 [C9 m]]++[qH 3 [IM c]]=H at t|-
 generalize (h++[qH 2 [C9 m]]).length=cb at t|-
 refine A7 @t.l1 ?_;refine BL ?_ ?_<;>intro K
 .refine AB ?_
  have:JZ (szs m c.pts) x.l=false:=by
   rw[<-wS];intro e;have:=QL e;rw[KT] at this;simp at K;omega
  exact⟨by rw[this],t.hx⟩
 have N:x.l.length=c.pts.length:=by simp at K;omega
 refine AB ?_;refine BB (fun n F q=>∃k,n+k=x.l.length/\F 2=.sl x.m 1 (x.l.map bu)/\F 3=.ptr h.length 0 0/\F 4=.ptr cb 0 0/\F 7=.n (k:Nat)/\q=H/\JZ (szs m c.pts) x.l=JZ ((szs m c.pts).drop k) (x.l.drop k)) x.l.length ⟨0,BA,AL,AL,AL,AL,rfl,rfl⟩ ?_;rintro n F q ⟨k,hk,g,A,B,i,rfl,d⟩;refine AZ g i ?_;refine DV ?_ ?_<;>intro b
 .have a:k<c.pts.length:=U
  have I:k<(szs m c.pts).length:=by rw[KT];exact a
  have C:(szs m c.pts)[k]=(IV m c.pts[k]).length:=GK (YI m c.pts k a);rw[zU b,zU I,C] at d;obtain⟨s,P⟩:=M.ld a q;refine AB ?_;refine DI BC ?_;simp only[vQ,JA,KW,EM,↓reduceIte,jC,jO,b_,J8,g,A,B,i,CE b,BK ct b,cy];refine mL ?_ ?_<;>intro p
  .refine A7 p ?_
   have:decide (0<=x.l[k])=false:=by simp at p|-;omega
   exact⟨by rw[d];unfold JZ;rw[this];rfl,t.hx⟩
  have J:decide (0<=x.l[k])=true:=by simp at p|-;omega
  simp only[vQ,JA,KW,ZJ,RD,EM,↓reduceIte,jC,jO,b_,QJ,J5,J8,aF,JW,LQ,p,g,A,B,i,t.lm,t.l1,CE b,BK ct b,CE a,BK ct a,cy,M.ix a,P,jI];refine BL ?_ ?_<;>intro L
  .refine AB ?_
   have:decide (x.l[k]<((IV m c.pts[k]).length:Int))=false:=by simp at L|-;omega
   exact⟨by rw[d];unfold JZ;rw[this,J];rfl,t.hx⟩
  .refine AZ i (CZ k) ?_
   have O:decide (x.l[k]<((IV m c.pts[k]).length:Int))=true:=by simp at L|-;omega
   refine⟨n-1,U,k+1,U,g,A,B,rfl,trivial,?_⟩;rw[d]
   conv=>lhs;unfold JZ
   rw[J,O];rfl
 .refine AB ?_
  exact⟨by rw[d,jS (U:x.l.length<=k),jS (by rw[KT];omega)];rfl,t.hx⟩
theorem Z1 (m:Mo)(c:Cr)(N:m9 c)(Y:Full m)(h:Hp):a_ (En G) 109 [.agg (C9 m),.agg (IM c)] h (.n (IP m c)):=by
 refine ACalls.pure0 rfl ?_;have V:=N.pts;have X:=N.excl;refine cn Tryz.func109 4 ?_;have t:=Two.mk' h m c;refine DC @uj @er @me ?_
 generalize h++[qH 2 [C9 m]]++[qH 3 [IM c]]=H at t|-
 generalize (h++[qH 2 [C9 m]]).length=cb at t|-
 refine A7 @t.l0 ?_;refine(PI G c.name _).uu ?_;cases K:FN c.name
 .refine AB ?_
  exact⟨by unfold IP;rw[if_pos K],t.hx⟩
 have a:¬FN c.name=false:=by rw[K];decide
 refine AZ (dk t.gm) (ow t.gc) ?_;refine(Ur G m c _ U).uu ?_;cases g:placed m c
 .refine AB ?_
  refine⟨?_,t.hx⟩;unfold IP;rw[if_neg a];unfold placed at g;split
  .rfl
  .rename_i T
   have R:decide (2<=c.pts.length)=true:=by simp;omega
   have S:decide (c.pts.length<=4)=true:=by simp;omega
   rw[R,S] at g;rw[if_pos (BQ g)]
 unfold placed at g;simp only[jY,decide_eq_true_eq] at g;obtain⟨⟨T,Z⟩,L⟩:=g;have b:¬(c.pts.length<2\/4<c.pts.length):=U;have d:¬aK m.pts.length none c.pts=false:=by rw[L];decide
 have O:=bV L;refine AZ (dk t.gm) (ow t.gc) ?_;refine(yP G m c _ O Y U).uu ?_;refine I8 ?_ ?_<;>intro p
 .refine A7 p ?_
  exact⟨by unfold IP;rw[if_neg a,if_neg b,if_neg d,if_pos (.inl (by simp at p;omega))],t.hx⟩
 refine AZ p @t.l2 ?_;refine BL ?_ ?_<;>intro M
 .refine AB ?_
  exact⟨by unfold IP;rw[if_neg a,if_neg b,if_neg d,if_pos (.inr (by simp at M;omega))],t.hx⟩
 have B:¬(256<GN (szs m c.pts)\/256<c.excl.length):=by simp at p M;omega
 have i:IP m c=if(c.excl.any fun x => !JZ (szs m c.pts) x.l) then 1 else 0:=by
  unfold IP;rw[if_neg a,if_neg b,if_neg d,if_neg B]
 refine AB ?_;refine BB (fun n F I=>∃k,n+k=c.excl.length/\F 2=.ptr h.length 0 0/\F 3=.ptr cb 0 0/\F 5=.n (k:Nat)/\I=H/\(c.excl.any fun x => !JZ (szs m c.pts) x.l)=((c.excl.drop k).any fun x => !JZ (szs m c.pts) x.l)) c.excl.length ⟨0,BA,AL,AL,AL,rfl,rfl⟩ ?_;rintro n F I ⟨k,hk,J,q,A,rfl,C⟩;refine DC q A @t.l2 ?_;refine DV ?_ ?_<;>intro e
 .have P:=NH (fun x:Is => !JZ (szs m c.pts) x.l) c.excl k e
  refine AB ?_;refine DI BC ?_;simp only[vQ,so,KU,KE,iF,↓reduceIte,jC,jO,b_,V6,eF,J,q,A,dk t.gm,ow t.gc,t.l2,CE e,BK MB e,SQ];refine⟨_,mY G m c c.excl[k] _ O U,?_⟩
  try refine AB ?_
  cases Q:JZ (szs m c.pts) c.excl[k].l
  .refine AB ?_
   exact⟨by rw[i,C,P,Q];rfl,t.hx⟩
  .refine AZ A (CZ k) ?_
   refine⟨n-1,U,k+1,U,J,q,rfl,trivial,?_⟩;rw[C,P,Q];rfl
 .refine AB ?_
  exact⟨by rw[i,C,jS U];rfl,t.hx⟩
structure dt (m:Mo):Prop where
 np:m.pts.length<=1048576
 nc:m.crs.length<=1048576
 pts:∀p∈m.pts,ng p
 crs:∀c∈m.crs,m9 c
def F6 (m:Mo):Int :=
 if 16<m.pts.length+m.crs.length then 2 else if cr H8 m.pts≠0 then cr H8 m.pts else if SK (m.pts.map (·.name)) then 8 else
  if cr (IP m) m.crs≠0 then cr (IP m) m.crs else if SK (m.crs.map (·.name)) then 8 else 0
theorem aO {α:Type}(f:α->Int):∀ {xs:List α},cr f xs=0->∀x∈xs,f x=0
 | [],_,_,b=>by cases b
 | y::ys,h,x,b=>by
   simp only[cr] at h;split at h
   .rename_i a
    cases zM.1 b with
    | inl e=>subst e;exact a
    | inr e=>exact aO f h x e
   .rename_i a;exact absurd h a
theorem lR {p:Pt}(h:H8 p=0):1<=p.bins.length/\p.bins.length<=64:=by
 unfold H8 at h;split at h
 .cases h
 .split at h
  .rename_i a;exact absurd h a
  .split at h
   .cases h
   .split at h
    .cases h
    .omega
theorem full_of {m:Mo}(h:cr H8 m.pts=0):Full m:=fun p a=>lR (aO _ h p a)
theorem tu (h:Hp):H9 jA h 82=some (.ptr h.length 0 0,h++[qH 6 [[.str ⟨#[]⟩,.n 0,.n 0,.str ⟨#[]⟩,.sl .nil 0 [],.sl .nil 0 []]]]):=FZ (row:=[.str ⟨#[]⟩,.n 0,.n 0,.str ⟨#[]⟩,.sl .nil 0 [],.sl .nil 0 []]) BC
theorem wa (h:Hp)(p:Pt)(row:List AV)(a:row.length=6):D7 jA (h++[qH 6 [row]]) 82 (.ptr h.length 0 0) (.agg (GL p))=some (h++[qH 6 [GL p]]):=by
 rw[VH (SC (kM p)) (by rw[JH];exact cK) (by rw[JH,a];exact jF _)];have:splice row 0 (GL p)=GL p:=by unfold splice;simp [JH,a]
 rw[this]
theorem ldP {b:Nat}{p:Pt}(a:h[b]?=some (qH 6 [GL p])):BR jA h 82 (.ptr b 0 0)=some (.agg (GL p)):=by
 rw[EK lD cK a rfl (by rw[JH];exact jF 6),zI,jK (by rw[JH];exact jF 6)]
theorem ua (h:Hp):H9 jA h 90=some (.ptr h.length 0 0,h++[qH 3 [[.str ⟨#[]⟩,.sl .nil 0 [],.sl .nil 0 []]]]):=FZ (row:=[.str ⟨#[]⟩,.sl .nil 0 [],.sl .nil 0 []]) BC
theorem v_ (h:Hp)(c:Cr)(row:List AV)(a:row.length=3):D7 jA (h++[qH 3 [row]]) 90 (.ptr h.length 0 0) (.agg (IM c))=some (h++[qH 3 [IM c]]):=by
 rw[VH (SC rfl) (by rw[NF];exact mN) (by rw[NF,a];exact jF _)];have:splice row 0 (IM c)=IM c:=by unfold splice;simp [NF,a]
 rw[this]
theorem TE (T:fm G)(m:Mo)(M:dt m)(h:Hp):a_ (En G) 41 [.agg (C9 m)] h (.n (F6 m)):=by
 refine ACalls.pure0 rfl ?_;have V:=M.np;have X:=M.nc;refine cn Tryz.func41 2 ?_;have Y:IntKind.i64.wrap ((m.pts.length:Int)+(m.crs.length:Int))=(m.pts.length:Int)+(m.crs.length:Int):=wrap_i64 U U;refine WU @er lE nE @XT @ZC Y ?_;refine BL ?_ ?_<;>intro S
 .refine AB ?_
  exact⟨by unfold F6;rw[if_pos (by simp at S;omega)],_,rfl⟩
 have O:¬16<m.pts.length+m.crs.length:=by simp at S;omega
 have b:F6 m=if cr H8 m.pts≠0 then cr H8 m.pts else if SK (m.pts.map (·.name)) then 8 else if cr (IP m) m.crs≠0 then cr (IP m) m.crs else if SK (m.crs.map (·.name)) then 8 else 0:=by
  unfold F6;rw[if_neg O]
 have R:∀H:Hp,H[h.length]?=some (qH 2 [C9 m])->BR jA H 28 (.ptr h.length 0 0)=some (.sl m.pm 6 (m.pts.map GL)):=fun H P=>by rw[BJ lE P (row:=C9 m) rfl,XT]
 have L:∀H:Hp,H[h.length]?=some (qH 2 [C9 m])->BR jA H 29 (.ptr h.length 0 1)=some (.sl m.cm 3 (m.crs.map IM)):=fun H P=>by rw[BJ nE P (row:=C9 m) rfl,ZC]
 refine LM lE @XT ?_;refine EG 0 (fun F H=>F 1=.ptr h.length 0 0/\H[h.length]?=some (qH 2 [C9 m])/\(∃x,H=h++x)/\cr H8 m.pts=0) (fun F H=>F 2=.n (F6 m)/\∃x,H=h++x) ?_ ?_ ?_
 .refine BB (fun n F H=>∃k,n+k=m.pts.length/\F 1=.ptr h.length 0 0/\F 18=.sl m.pm 6 (m.pts.map GL)/\F 19=.n m.pts.length/\F 20=.n (k:Nat)/\H[h.length]?=some (qH 2 [C9 m])/\(∃x,H=h++x)/\cr H8 m.pts=cr H8 (m.pts.drop k)) m.pts.length ⟨0,BA,FB,FB,FB,FB,A8 _ _,⟨_,rfl⟩,rfl⟩ ?_
  rintro n F H ⟨k,hk,g,f18,f19,f20,i,⟨x,e⟩,l⟩;refine AZ f19 f20 ?_;refine DV ?_ ?_<;>intro a
  .have J:=VJ H8 m.pts k a
   simp only[vQ,CP,↓reduceIte,jC,b_,QJ,jQ,f18,f20,CE a,DL lD cK JH a,tu,wa _ _ [.str ⟨#[]⟩,.n 0,.n 0,.str ⟨#[]⟩,.sl .nil 0 [],.sl .nil 0 []] rfl,ldP (A8 H (qH 6 [GL m.pts[k]]))];refine(Up G T m.pts[k] (M.pts _ (jH a)) _).uu ?_;refine BL ?_ ?_<;>intro K
   .refine AB ?_
    have d:H8 m.pts[k]≠0:=BQ K;have:cr H8 m.pts=H8 m.pts[k]:=by rw[l,J,if_neg d]
    exact⟨by rw[b,this,if_pos d],x++_,by rw[e,zA]⟩
   .have d:H8 m.pts[k]=0:=BQ K
    refine AZ f20 (CZ k) ?_;exact⟨n-1,U,k+1,U,g,f18,f19,rfl,AU i,⟨x++_,by rw[e,zA]⟩,by rw[l,J,if_pos d]⟩
  .refine AB ?_
   exact⟨g,i,⟨x,e⟩,by rw[l,jS U];rfl⟩
 .rintro F H ⟨g,i,A,l⟩
  have q:=full_of l;rw[l,if_neg (fun Q=>Q rfl)] at b;refine AZ g (R _ i) ?_;refine(Yn G m.pts m.pm H U).uu ?_;cases I:SK (m.pts.map (·.name))
  case true =>
   refine AB ?_;exact⟨by rw[b,I];rfl,A⟩
  rw[I] at b;simp only[zZ,if_false] at b;refine AZ g (L _ i) ?_;refine EG 2 (fun F H=>F 1=.ptr h.length 0 0/\H[h.length]?=some (qH 2 [C9 m])/\(∃x,H=h++x)/\cr (IP m) m.crs=0) (fun F H=>F 2=.n (F6 m)/\∃x,H=h++x) ?_ ?_ ?_
  .refine BB (fun n F H=>∃k,n+k=m.crs.length/\F 1=.ptr h.length 0 0/\F 34=.sl m.cm 3 (m.crs.map IM)/\F 35=.n m.crs.length/\F 36=.n (k:Nat)/\H[h.length]?=some (qH 2 [C9 m])/\(∃x,H=h++x)/\cr (IP m) m.crs=cr (IP m) (m.crs.drop k)) m.crs.length ⟨0,BA,UT g,FB,FB,FB,i,A,rfl⟩ ?_
   clear g i A;rintro n F H ⟨k,hk,g,B,C,p,i,⟨x,e⟩,l⟩;refine AZ C p ?_;refine DV ?_ ?_<;>intro a
   .have J:=VJ (IP m) m.crs k a
    simp only[vQ,CP,↓reduceIte,jC,b_,UG,jQ,g,B,p,CE a,DL vF mN NF a,ua,v_ _ _ [.str ⟨#[]⟩,.sl .nil 0 [],.sl .nil 0 []] rfl,ow (A8 H (qH 3 [IM m.crs[k]])),dk (AU (x:=qH 3 [IM m.crs[k]]) i)];refine(Wo G T m m.crs[k] (M.crs _ (jH a)) q _).uu ?_;refine BL ?_ ?_<;>intro K
    .refine AB ?_
     have d:IP m m.crs[k]≠0:=BQ K;have:cr (IP m) m.crs=IP m m.crs[k]:=by rw[l,J,if_neg d]
     exact⟨by rw[b,this,if_pos d],x++_,by rw[e,zA]⟩
    .have d:IP m m.crs[k]=0:=BQ K
     refine AZ p (CZ k) ?_;exact⟨n-1,U,k+1,U,g,B,C,rfl,AU i,⟨x++_,by rw[e,zA]⟩,by rw[l,J,if_pos d]⟩
   .refine AB ?_
    exact⟨g,i,⟨x,e⟩,by rw[l,jS U];rfl⟩
  .rintro F H ⟨g,i,e,l⟩
   rw[l,if_neg (fun Q=>Q rfl)] at b;refine AZ g (L _ i) ?_;refine(Yo G m.crs m.cm H U).uu ?_;cases I:SK (m.crs.map (·.name))
   .refine AB ?_
    exact⟨by rw[b,I];rfl,e⟩
   .refine AB ?_
    exact⟨by rw[b,I];rfl,e⟩
  .rintro F H ⟨N,e⟩
   refine A7 N ?_;exact⟨trivial,e⟩
 .rintro F H ⟨N,e⟩
  refine A7 N ?_;exact⟨trivial,e⟩
theorem XP (m:Mo)(hm:dt m)(h:Hp):a_ (En G) 49 [.agg (C9 m)] h (.n (F6 m)):=by
 refine ACalls.pure0 rfl ?_;have a2:=hm.np;have a3:=hm.nc;refine cn Tryz.func49 2 ?_;have hw:IntKind.i64.wrap ((m.pts.length:Int)+(m.crs.length:Int))=(m.pts.length:Int)+(m.crs.length:Int):=wrap_i64 U U;have gm:=A8 h (qH 2 [C9 m]);have K:∃x,h++[qH 2 [C9 m]]=h++x:=⟨_,rfl⟩;refine A7 @er ?_
 generalize h++[qH 2 [C9 m]]=H at gm K|-
 have L:BR jA H 28 (.ptr h.length 0 0)=some (.sl m.pm 6 (m.pts.map GL)):=by rw[BJ lE gm (row:=C9 m) rfl,XT]
 have M:BR jA H 29 (.ptr h.length 0 1)=some (.sl m.cm 3 (m.crs.map IM)):=by rw[BJ nE gm (row:=C9 m) rfl,ZC]
 refine DC L M hw ?_;refine BL ?_ ?_<;>intro h1
 .refine AB ?_
  exact⟨by unfold F6;rw[if_pos (by simp at h1;omega)],K⟩
 have a0:¬16<m.pts.length+m.crs.length:=by simp at h1;omega
 have g:F6 m=if cr H8 m.pts≠0 then cr H8 m.pts else if SK (m.pts.map (·.name)) then 8 else if cr (IP m) m.crs≠0 then cr (IP m) m.crs else if SK (m.crs.map (·.name)) then 8 else 0:=by
  unfold F6;rw[if_neg a0]
 refine AB ?_;refine EG 0 (fun F b=>F 1=.ptr h.length 0 0/\b=H/\cr H8 m.pts=0) (fun F b=>F 2=.n (F6 m)/\b=H) ?_ ?_ ?_
 .refine BB (fun n F b=>∃k,n+k=m.pts.length/\F 1=.ptr h.length 0 0/\F 3=.n (k:Nat)/\b=H/\cr H8 m.pts=cr H8 (m.pts.drop k)) m.pts.length ⟨0,BA,AL,AL,rfl,rfl⟩ ?_
  rintro n F b ⟨k,hk,a,f3,rfl,I⟩;refine DC a f3 L ?_;refine DV ?_ ?_<;>intro e
  .have C:=VJ H8 m.pts k e
   simp only[vQ,CP,↓reduceIte,jC,b_,QJ,J5,a,f3,L,CE e,DL lD cK JH e];refine(Yr G m.pts[k] (hm.pts _ (jH e)) _).uu ?_;refine BL ?_ ?_<;>intro Z
   .refine AB ?_
    have p:H8 m.pts[k]≠0:=BQ Z;have:cr H8 m.pts=H8 m.pts[k]:=by rw[I,C,if_neg p]
    exact⟨by rw[g,this,if_pos p],trivial⟩
   .have p:H8 m.pts[k]=0:=BQ Z
    refine AZ f3 (CZ k) ?_;exact⟨n-1,U,k+1,U,a,rfl,trivial,by rw[I,C,if_pos p]⟩
  .refine AB ?_
   exact⟨a,trivial,by rw[I,jS U];rfl⟩
 .rintro F b ⟨a,rfl,I⟩
  have S:=full_of I;rw[I,if_neg (fun hh=>hh rfl)] at g;refine A7 a ?_;refine EG 2 (fun F H=>F 1=.ptr h.length 0 0/\H=b/\SK (m.pts.map (·.name))=false) (fun F H=>F 2=.n (F6 m)/\H=b) ?_ ?_ ?_
  .generalize X:m.pts.map (·.name)=N at g|-
   have a1:N.length=m.pts.length:=by rw[<-X];simp
   have J:∀i (T:i<m.pts.length),N[i]?=some m.pts[i].name:=fun i T=>by rw[<-X,zB,jP T];rfl
   refine BB (fun n F H=>∃i,n+i=m.pts.length/\F 1=.ptr h.length 0 0/\F 5=.n (i:Nat)/\H=b/\SK N=vA (N.take i) (N.drop i)) m.pts.length ⟨0,BA,DY a,AL,rfl,rfl⟩ ?_;clear a;rintro n F b ⟨i,T,a,O,rfl,Q⟩;refine DC a O L ?_;refine DV ?_ ?_<;>intro q
   .have d:=VK N i U
    rw[GK (J i q)] at d;refine A7 O ?_;refine EG 4 (fun l H=>l 1=.ptr h.length 0 0/\l 5=.n (i:Nat)/\H=b/\JC (N.take i) m.pts[i].name=false) (fun l H=>l 2=.n 8/\H=b/\SK N=true) ?_ ?_ ?_
    .refine BB (fun n l H=>∃k,n+k=i/\l 1=.ptr h.length 0 0/\l 5=.n (i:Nat)/\l 6=.n (k:Nat)/\H=b/\JC (N.take i) m.pts[i].name=JC ((N.take i).drop k) m.pts[i].name) i ⟨0,BA,DY a,DY O,AL,rfl,rfl⟩ ?_
     clear a O;rintro n' F b ⟨k,hk,a,O,f6,rfl,A⟩;refine AZ O f6 ?_;refine DV ?_ ?_<;>intro e
     .have B:k<m.pts.length:=U
      have C:=NH (fun u=>m.pts[i].name.toList==u.toList) (N.take i) k (by rw[jT];omega)
      have K:(N.take i)[k]'(by rw[jT];omega)=m.pts[k].name:=by
       rw[List.getElem_take];exact GK (J k B)
      rw[K] at C;refine AB ?_;refine DI BC ?_;simp only[vQ,QN,↓reduceIte,jC,jO,b_,QJ,J5,um,a,O,f6,L,CE q,CE B,BK eo q,BK eo B,vw];refine BL ?_ ?_<;>intro Y
      .refine AB ?_
       have:JC (N.take i) m.pts[i].name=true:=by
        rw[A];unfold JC;rw[C,BEq.comm,Y];rfl
       exact⟨trivial,trivial,by rw[Q,d,this];rfl⟩
      .refine AZ f6 (CZ k) ?_
       refine⟨n'-1,U,k+1,U,a,O,rfl,trivial,?_⟩;rw[A];unfold JC;rw[C,BEq.comm,Y];rfl
     .refine AB ?_
      refine⟨a,O,trivial,?_⟩;rw[A,jS (by rw[jT];omega)];rfl
    .rintro l b ⟨g1,g5,rfl,hn⟩
     refine AZ g5 (CZ i) ?_;refine⟨n-1,U,i+1,U,g1,rfl,trivial,?_⟩;rw[Q,d,hn];rfl
    .rintro l b ⟨g2,rfl,R⟩
     refine A7 g2 ?_;exact⟨by rw[g,R];rfl,trivial⟩
   .refine AB ?_
    exact⟨a,trivial,by rw[Q,jS U];rfl⟩
  .clear a
   rintro F H ⟨a,rfl,Q⟩;rw[Q] at g;simp only[zZ,if_false] at g;refine AB ?_;refine EG 6 (fun F b=>F 1=.ptr h.length 0 0/\b=H/\cr (IP m) m.crs=0) (fun F b=>F 2=.n (F6 m)/\b=H) ?_ ?_ ?_
   .refine BB (fun n F b=>∃k,n+k=m.crs.length/\F 1=.ptr h.length 0 0/\F 7=.n (k:Nat)/\b=H/\cr (IP m) m.crs=cr (IP m) (m.crs.drop k)) m.crs.length ⟨0,BA,DY a,AL,rfl,rfl⟩ ?_
    clear a;rintro n F b ⟨k,hk,a,f7,rfl,I⟩;refine DC a f7 M ?_;refine DV ?_ ?_<;>intro e
    .have C:=VJ (IP m) m.crs k e
     refine AB ?_;refine DI BC ?_;simp only[vQ,JX,KU,KE,CP,↓reduceIte,jC,jO,b_,UG,MN,a,f7,M,dk gm,CE e,DL vF mN NF e];refine⟨_,Z1 G m m.crs[k] (hm.crs _ (jH e)) S _,?_⟩
     try refine AB ?_
     refine BL ?_ ?_<;>intro Z
     .refine AB ?_
      have p:IP m m.crs[k]≠0:=BQ Z;have:cr (IP m) m.crs=IP m m.crs[k]:=by rw[I,C,if_neg p]
      exact⟨by rw[g,this,if_pos p],trivial⟩
     .have p:IP m m.crs[k]=0:=BQ Z
      refine AZ f7 (CZ k) ?_;exact⟨n-1,U,k+1,U,a,rfl,trivial,by rw[I,C,if_pos p]⟩
    .refine AB ?_
     exact⟨a,trivial,by rw[I,jS U];rfl⟩
   .rintro F b ⟨a,rfl,I⟩
    rw[I,if_neg (fun hh=>hh rfl)] at g;refine AB ?_;generalize X:m.crs.map (·.name)=N at g;have a1:N.length=m.crs.length:=by rw[<-X];simp
    have J:∀i (T:i<m.crs.length),N[i]?=some m.crs[i].name:=fun i T=>by rw[<-X,zB,jP T];rfl
    refine BB (fun n F H=>∃i,n+i=m.crs.length/\F 1=.ptr h.length 0 0/\F 9=.n (i:Nat)/\H=b/\SK N=vA (N.take i) (N.drop i)) m.crs.length ⟨0,BA,DY a,AL,rfl,rfl⟩ ?_;clear a;rintro n F b ⟨i,T,a,P,rfl,Q⟩;refine DC a P M ?_;refine DV ?_ ?_<;>intro q
    .have d:=VK N i U
     rw[GK (J i q)] at d;refine A7 P ?_;refine EG 10 (fun l H=>l 1=.ptr h.length 0 0/\l 9=.n (i:Nat)/\H=b/\JC (N.take i) m.crs[i].name=false) (fun l H=>l 2=.n 8/\H=b/\SK N=true) ?_ ?_ ?_
     .refine BB (fun n l H=>∃k,n+k=i/\l 1=.ptr h.length 0 0/\l 9=.n (i:Nat)/\l 10=.n (k:Nat)/\H=b/\JC (N.take i) m.crs[i].name=JC ((N.take i).drop k) m.crs[i].name) i ⟨0,BA,DY a,DY P,AL,rfl,rfl⟩ ?_
      clear a P;rintro n' F b ⟨k,hk,a,P,f10,rfl,A⟩;refine AZ P f10 ?_;refine DV ?_ ?_<;>intro e
      .have B:k<m.crs.length:=U
       have C:=NH (fun u=>m.crs[i].name.toList==u.toList) (N.take i) k (by rw[jT];omega)
       have K:(N.take i)[k]'(by rw[jT];omega)=m.crs[k].name:=by
        rw[List.getElem_take];exact GK (J k B)
       rw[K] at C;refine AB ?_;refine DI BC ?_;simp only[vQ,QN,↓reduceIte,jC,jO,b_,UG,MN,uj,a,P,f10,M,CE q,CE B,BK eo q,BK eo B,vx];refine BL ?_ ?_<;>intro Y
       .refine AB ?_
        have:JC (N.take i) m.crs[i].name=true:=by
         rw[A];unfold JC;rw[C,BEq.comm,Y];rfl
        exact⟨trivial,trivial,by rw[Q,d,this];rfl⟩
       .refine AZ f10 (CZ k) ?_
        refine⟨n'-1,U,k+1,U,a,P,rfl,trivial,?_⟩;rw[A];unfold JC;rw[C,BEq.comm,Y];rfl
      .refine AB ?_
       refine⟨a,P,trivial,?_⟩;rw[A,jS (by rw[jT];omega)];rfl
     .rintro l b ⟨g1,g9,rfl,hn⟩
      refine AZ g9 (CZ i) ?_;refine⟨n-1,U,i+1,U,g1,rfl,trivial,?_⟩;rw[Q,d,hn];rfl
     .rintro l b ⟨g2,rfl,R⟩
      refine A7 g2 ?_;exact⟨by rw[g,R];rfl,K⟩
    .refine AB ?_
     exact⟨by rw[g,Q,jS U];rfl,K⟩
   .rintro F b ⟨V,rfl⟩
    refine A7 V ?_;exact⟨trivial,K⟩
  .rintro F H ⟨V,rfl⟩
   refine A7 V ?_;exact⟨trivial,K⟩
 .rintro F b ⟨V,rfl⟩
  refine A7 V ?_;exact⟨trivial,K⟩
def gr (a b:List Int):Bool:=decide (a=b)
theorem sD {a b:List Int}(d:k<a.length)(e:k<b.length):gr (a.drop k) (b.drop k)=(decide (a[k]=b[k])&&gr (a.drop (k+1)) (b.drop (k+1))):=by
 rw[zU d,zU e];unfold gr;rw[decide_eq_decide.2 (Iff.of_eq (List.cons.injEq _ _ _ _)),Bool.decide_and]
theorem sC (a b:List Int)(s t:SM)(h:Hp)(C:b.length<=1099511627776):a_ (En G) 216 [.sl s 1 (a.map bu),.sl t 1 (b.map bu)] h (.bool (gr a b)):=by
 refine cn Tryz.func216 4 ?_;refine AB ?_;refine BL ?_ ?_<;>intro q
 .refine AB ?_
  have:gr a b=false:=by
   unfold gr;rw[decide_eq_false_iff_not];intro e;subst e;simp at q
  exact⟨by rw[this],trivial⟩
 have B:a.length=b.length:=by simp at q;omega
 refine AB ?_;refine BB (fun n F H=>∃k,n+k=a.length/\F 0=.sl s 1 (a.map bu)/\F 1=.sl t 1 (b.map bu)/\F 12=.n a.length/\F 13=.n (k:Nat)/\H=h/\gr a b=gr (a.drop k) (b.drop k)) a.length ⟨0,BA,AL,AL,AL,AL,rfl,rfl⟩ ?_;rintro n F H ⟨k,hk,l,p,f12,f13,rfl,i⟩;refine AZ f12 f13 ?_;refine DV ?_ ?_<;>intro d
 .have g:k<b.length:=U
  rw[sD d g] at i;refine A7 f13 ?_;refine DI BC ?_;simp only[vQ,↓reduceIte,jC,jO,b_,J8,l,p,f13,CE d,CE g,BK ct d,BK ct g,cy];refine BL ?_ ?_<;>intro A
  .refine AB ?_
   have:decide (a[k]=b[k])=false:=BQ A;exact⟨by rw[i,this];rfl,trivial⟩
  .refine AZ f13 (CZ k) ?_
   have:decide (a[k]=b[k])=true:=BQ A;exact⟨n-1,U,k+1,U,l,p,f12,rfl,trivial,by rw[i,this];rfl⟩
 .refine AB ?_
  exact⟨by rw[i,jS U,jS U];rfl,trivial⟩
theorem Vb (a b:List Int)(s t:SM)(h:Hp)(I:b.length<=1099511627776):a_ (En G) 124 [.sl s 1 (a.map bu),.sl t 1 (b.map bu)] h (.bool (gr a b)):=by
 refine cn Tryz.func124 4 ?_;refine AB ?_;refine BL ?_ ?_<;>intro A
 .refine AB ?_
  have:gr a b=false:=by
   unfold gr;rw[decide_eq_false_iff_not];intro e;subst e;simp at A
  exact⟨by rw[this],trivial⟩
 have C:a.length=b.length:=by simp at A;omega
 refine AB ?_;refine BB (fun n F H=>∃k,n+k=a.length/\F 0=.sl s 1 (a.map bu)/\F 1=.sl t 1 (b.map bu)/\F 5=.n (k:Nat)/\H=h/\gr a b=gr (a.drop k) (b.drop k)) a.length ⟨0,BA,AL,AL,AL,rfl,rfl⟩ ?_;rintro n F H ⟨k,hk,l,q,p,rfl,i⟩;refine AZ l p ?_;refine DV ?_ ?_<;>intro d
 .have g:k<b.length:=U
  rw[sD d g] at i;refine AB ?_;refine DI BC ?_;simp only[vQ,↓reduceIte,jC,jO,b_,J8,l,q,p,CE d,CE g,BK ct d,BK ct g,cy];refine BL ?_ ?_<;>intro B
  .refine AB ?_
   have:decide (a[k]=b[k])=false:=BQ B;exact⟨by rw[i,this];rfl,trivial⟩
  .refine AZ p (CZ k) ?_
   have:decide (a[k]=b[k])=true:=BQ B;exact⟨n-1,U,k+1,U,l,q,rfl,trivial,by rw[i,this];rfl⟩
 .refine AB ?_
  exact⟨by rw[i,jS U,jS U];rfl,trivial⟩
theorem Va (a b:List Int)(s t:SM)(h:Hp)(I:b.length<=1099511627776):a_ (En G) 200 [.sl s 1 (a.map bu),.sl t 1 (b.map bu)] h (.bool (gr a b)):=by
 refine cn Tryz.func200 4 ?_;refine AB ?_;refine BL ?_ ?_<;>intro A
 .refine AB ?_
  have:gr a b=false:=by
   unfold gr;rw[decide_eq_false_iff_not];intro e;subst e;simp at A
  exact⟨by rw[this],trivial⟩
 have C:a.length=b.length:=by simp at A;omega
 refine AB ?_;refine BB (fun n F H=>∃k,n+k=a.length/\F 0=.sl s 1 (a.map bu)/\F 1=.sl t 1 (b.map bu)/\F 5=.n (k:Nat)/\H=h/\gr a b=gr (a.drop k) (b.drop k)) a.length ⟨0,BA,AL,AL,AL,rfl,rfl⟩ ?_;rintro n F H ⟨k,hk,l,q,p,rfl,i⟩;refine AZ l p ?_;refine DV ?_ ?_<;>intro d
 .have g:k<b.length:=U
  rw[sD d g] at i;refine AB ?_;refine DI BC ?_;simp only[vQ,↓reduceIte,jC,jO,b_,J8,l,q,p,CE d,CE g,BK ct d,BK ct g,cy];refine BL ?_ ?_<;>intro B
  .refine AB ?_
   have:decide (a[k]=b[k])=false:=BQ B;exact⟨by rw[i,this];rfl,trivial⟩
  .refine AZ p (CZ k) ?_
   have:decide (a[k]=b[k])=true:=BQ B;exact⟨n-1,U,k+1,U,l,q,rfl,trivial,by rw[i,this];rfl⟩
 .refine AB ?_
  exact⟨by rw[i,jS U,jS U];rfl,trivial⟩
def NM (n:Int):Bool:=decide (0<=n)&&decide (n<=1099511627776)
def countB (n:Int)(may:Bool):Bool:=NM n&&(may||n==0)
theorem YF (n:Int)(h:Hp):a_ (En G) 57 [.n n] h (.bool (NM n)):=by
 refine cn Tryz.func57 2 ?_;refine AB ?_;cases a:decide (n≥0)
 all_goals
  refine A7 a ?_;exact⟨by unfold NM;rw[show decide (0<=n)=decide (n≥0) from rfl,a];rfl,trivial⟩
theorem Y3 (n:Int)(may:Bool)(h:Hp):a_ (En G) 121 [.n n,.bool may] h (.bool (countB n may)):=by
 refine cn Tryz.func121 4 ?_;refine AB ?_;cases a:decide (n≥0)<;>cases b:decide (n<=1099511627776)<;>cases may
 all_goals
  refine AZ a b ?_;exact⟨by unfold countB NM;rw[show decide (0<=n)=decide (n≥0) from rfl,a,b];rfl,trivial⟩
theorem mB (b:Bin)(h:Hp):a_ (En G) 210 [.agg (JD b)] h (.bool (b.kind==0)):=by
 refine ACalls.pure0 rfl ?_;refine cn Tryz.func210 2 ?_;refine LM @bxB @SV ?_;exact⟨trivial,_,rfl⟩
def aH (m:Mo)(p b:Int):Int:=match (IV m p)[b.toNat]? with
 | some x=>x.kind
 | none=>0
def OE (m:Mo):List Int->List Int->Bool
 | p::ps,b::bs=>(aH m p b==0)&&OE m ps bs
 | _,_=>true
def RS (m:Mo)(c:Cr)(l:List Int):Bool:=OE m c.pts l && !(c.excl.any fun x=>gr x.l l)
theorem YT {m:Mo}:∀ {ps l:List Int},JZ (szs m ps) l=true->∀(k:Nat) (hk:k<l.length) (a:k<ps.length),0<=l[k]/\l[k]<((IV m ps[k]).length:Int)
 | p::ps,b::bs,h,k,hk,a=>by
   simp only[szs,jJ,JZ,jY,decide_eq_true_eq] at h
   cases k with
   | zero=>exact h.1
   | succ k=>exact YT (m:=m) (ps:=ps) h.2 k (BQ hk) (BQ a)
 | [],b::bs,h,k,hk,a=>by simp at a
 | _,[],h,k,hk,a=>by simp at hk
theorem WH (m:Mo)(ps l:List Int)(k:Nat)(a:k<ps.length)(hk:k<l.length):OE m (ps.drop k) (l.drop k)=((aH m ps[k] l[k]==0)&&OE m (ps.drop (k+1)) (l.drop (k+1))):=by
 rw[zU a,zU hk];rfl
theorem YS (m:Mo)(ps:List Int):OE m ps []=true:=by cases ps<;>rfl
theorem u3 {m:Mo}{p b:Int}(a:0<=b)(d:b<((IV m p).length:Int))(h:Hp)(s:SM):JJ 4 h (.sl s 4 ((IV m p).map JD)) (.n b)=some (.fptr 4 ((IV m p).map JD) b.toNat 0) :=
 Cc a (by rw[jI];exact d)
theorem gZ {m:Mo}{p b:Int}(a:0<=b)(d:b<((IV m p).length:Int)):((IV m p)[b.toNat]'U).kind=aH m p b:=by
 unfold aH;rw[jP U]
theorem AZP (l:List Int)(s:SM)(b:Nat)(r:Is)(h:Hp)(a:h[b]?=some (qH 1 [[.sl s 1 (l.map bu)]]))(d:l.length<=1099511627776):
  a_ (En G) 276 [.sl r.m 1 (r.l.map bu),.ptr b 0 0] h (.bool (gr r.l l)):=by
 refine cn Tryz.func276 3 ?_;refine A7 (IA MB a) ?_;refine(sC G r.l l r.m s h d).uu ?_;exact H7
theorem Two.app {m:Mo}{c:Cr}(t:Two h H m c cb)(x:Hp):Two h (H++x) m c cb:=by
 obtain⟨y,a⟩:=t.hx;exact⟨JM t.gm,JM t.gc,⟨y++x,by rw[a,zA]⟩⟩
theorem uV (m:Mo)(c:Cr)(l:List Int)(s:SM)(h:Hp)(K:Here m c.pts)(L:JZ (szs m c.pts) l=true)(P:c.pts.length<=1048576)(Q:c.excl.length<=1048576):a_ (En G) 211 [.agg (C9 m),.agg (IM c),.sl s 1 (l.map bu)] h (.bool (RS m c l)):=by
 refine ACalls.pure0 rfl ?_;have M:l.length=c.pts.length:=by have:=QL L;rw[KT] at this;omega
 refine cn Tryz.func211 6 ?_;have t:=(Two.mk' h m c).app [qH 1 [[.sl s 1 (l.map bu)]]];have q:=A8 (h++[qH 2 [C9 m]]++[qH 3 [IM c]]) (qH 1 [[.sl s 1 (l.map bu)]]);refine DC @tF @er @me ?_
 generalize h++[qH 2 [C9 m]]++[qH 3 [IM c]]++[qH 1 [[.sl s 1 (l.map bu)]]]=H at t q|-
 generalize (h++[qH 2 [C9 m]]++[qH 3 [IM c]]).length=lb at q|-
 generalize (h++[qH 2 [C9 m]]).length=cb at t|-
 refine A7 (IA MB q) ?_;have A:=WH m c.pts l;refine EG 0 (fun F b=>F 4=.ptr cb 0 0/\F 5=.ptr lb 0 0/\b=H/\OE m c.pts l=true) (fun F b=>F 6=.bool false/\b=H/\OE m c.pts l=false) ?_ ?_ ?_
 .refine BB (fun n F b=>∃k,n+k=l.length/\F 3=.ptr h.length 0 0/\F 4=.ptr cb 0 0/\F 5=.ptr lb 0 0/\F 9=.sl s 1 (l.map bu)/\F 10=.n l.length/\F 11=.n (k:Nat)/\b=H/\OE m c.pts l=OE m (c.pts.drop k) (l.drop k)) l.length ⟨0,BA,AL,AL,AL,AL,AL,AL,rfl,rfl⟩ ?_
  rintro n F b ⟨k,hk,B,g,p,C,f10,f11,rfl,e⟩;refine AZ f10 f11 ?_;refine DV ?_ ?_<;>intro d
  .have a:k<c.pts.length:=U
   rw[A k a d] at e;obtain⟨I,J⟩:=YT L k d a;obtain⟨R,O⟩:=K.ld a b;simp only[vQ,CP,↓reduceIte,jC,b_,J8,C,f11,CE d,BK ct d,cy];refine DI BC ?_;simp only[vQ,so,KU,KE,iF,↓reduceIte,jC,jO,b_,QJ,J5,J8,XB,JW,LQ,B,g,f11,t.lm,t.l1,CE a,BK ct a,cy,K.ix a,O,u3 I J,DL nD dK MP (U:l[k].toNat<(IV m c.pts[k]).length)];refine⟨_,mB G _ _,?_⟩
   try refine AB ?_
   rw[gZ I J];cases i:(aH m c.pts[k] l[k]==0)
   .refine AB ?_
    exact⟨trivial,trivial,by rw[e,i];rfl⟩
   .refine AZ f11 (CZ k) ?_
    exact⟨n-1,U,k+1,U,B,g,p,C,f10,rfl,trivial,by rw[e,i];rfl⟩
  .refine AB ?_
   exact⟨g,p,trivial,by rw[e,jS (U:l.length<=k),YS]⟩
 .rintro F b ⟨g,p,rfl,hk⟩
  refine DC g p @t.l2 ?_;refine(VX G c.excl c.xm 276 _ (fun x=>gr x.l l) _ U fun r=>AZP G l s _ r _ q U).uu ?_;exact⟨by unfold RS;rw[hk];rfl,t.hx⟩
 .rintro F b ⟨N,rfl,hk⟩
  refine A7 N ?_;exact⟨by unfold RS;rw[hk];rfl,t.hx⟩
theorem Wp (m:Mo)(c:Cr)(l:List Int)(s:SM)(h:Hp)(O:Here m c.pts)(P:JZ (szs m c.pts) l=true)(V:c.pts.length<=1048576)(X:c.excl.length<=1048576):a_ (En G) 59 [.agg (C9 m),.agg (IM c),.sl s 1 (l.map bu)] h (.bool (RS m c l)):=by
 refine ACalls.pure0 rfl ?_;have Q:l.length=c.pts.length:=by have:=QL P;rw[KT] at this;omega
 refine cn Tryz.func59 6 ?_;have t:=Two.mk' h m c;refine AZ @er @me ?_
 generalize h++[qH 2 [C9 m]]++[qH 3 [IM c]]=H at t|-
 generalize (h++[qH 2 [C9 m]]).length=cb at t|-
 have J:=WH m c.pts l;refine EG 0 (fun F d=>F 2=.sl s 1 (l.map bu)/\F 3=.ptr h.length 0 0/\F 4=.ptr cb 0 0/\d=H/\(c.excl.any fun x=>gr x.l l)=false) (fun F d=>F 6=.bool false/\d=H/\(c.excl.any fun x=>gr x.l l)=true) ?_ ?_ ?_
 .refine BB (fun n F d=>∃k,n+k=c.excl.length/\F 2=.sl s 1 (l.map bu)/\F 3=.ptr h.length 0 0/\F 4=.ptr cb 0 0/\F 7=.n (k:Nat)/\d=H/\(c.excl.any fun x=>gr x.l l)=((c.excl.drop k).any fun x=>gr x.l l)) c.excl.length ⟨0,BA,AL,AL,AL,AL,rfl,rfl⟩ ?_
  rintro n F d ⟨k,hk,e,p,g,B,rfl,q⟩;refine DC g B @t.l2 ?_;refine DV ?_ ?_<;>intro a
  .have R:=NH (fun x:Is=>gr x.l l) c.excl k a
   simp only[vQ,CP,↓reduceIte,jC,b_,V6,eF,e,g,B,t.l2,CE a,BK MB a,SQ];refine(Vb G c.excl[k].l l _ s _ U).uu ?_;cases N:gr c.excl[k].l l
   .refine AZ B (CZ k) ?_
    exact⟨n-1,U,k+1,U,e,p,g,rfl,trivial,by rw[q,R,N];rfl⟩
   .refine AB ?_
    exact⟨trivial,trivial,by rw[q,R,N];rfl⟩
  .refine AB ?_
   exact⟨e,p,g,trivial,by rw[q,jS U];rfl⟩
 .rintro F d ⟨e,p,g,rfl,q⟩
  have I:RS m c l=OE m c.pts l:=by unfold RS;rw[q];simp
  rw[I];refine AB ?_;refine BB (fun n F H=>∃k,n+k=l.length/\F 2=.sl s 1 (l.map bu)/\F 3=.ptr h.length 0 0/\F 4=.ptr cb 0 0/\F 8=.n (k:Nat)/\H=d/\OE m c.pts l=OE m (c.pts.drop k) (l.drop k)) l.length ⟨0,BA,DY e,DY p,DY g,AL,rfl,rfl⟩ ?_;clear e p g;rintro n F d ⟨k,hk,e,p,g,C,rfl,i⟩;refine AZ e C ?_;refine DV ?_ ?_<;>intro a
  .have b:k<c.pts.length:=U
   rw[J k b a] at i;obtain⟨L,M⟩:=YT P k a b;obtain⟨Y,T⟩:=O.ld b d;have K:l[k].toNat<(IV m c.pts[k]).length:=U;refine AB ?_;refine DI BC ?_;simp only[vQ,↓reduceIte,jC,jO,b_,QJ,J5,J8,XB,JW,UX,LQ,bne,e,p,g,C,t.lm,t.l1,CE b,BK ct b,CE a,BK ct a,cy,O.ix b,T,u3 L M,BK ct K,SV,gZ L M];cases A:(aH m c.pts[k] l[k]==0)
   .refine AB ?_
    exact⟨by rw[i,A];rfl,t.hx⟩
   .refine AZ C (CZ k) ?_
    exact⟨n-1,U,k+1,U,e,p,g,rfl,trivial,by rw[i,A];rfl⟩
  .refine AB ?_
   exact⟨by rw[i,jS (U:l.length<=k),YS],t.hx⟩
 .rintro F d ⟨S,rfl,q⟩
  refine A7 S ?_;exact⟨by unfold RS;rw[q];simp,t.hx⟩
theorem zf (xs:List Nat):xs.map KD=(xs.map fun n:Nat=>(n:Int)).map bu:=by
 rw[qG];rfl
def dp:List Nat->Nat->List Nat×Nat
 | [],k=>([],k)
 | n::ns,k=>(((dp ns k).2%n)::(dp ns k).1,(dp ns k).2/n)
def TA (ns:List Nat)(k:Nat):List Int:=(dp ns k).1.map fun n:Nat=>(n:Int)
theorem QG:∀(ns:List Nat) (k:Nat),(dp ns k).1.length=ns.length
 | [],_=>rfl
 | n::ns,k=>by simp [dp,QG ns k]
theorem nG:∀(ns:List Nat) (k:Nat),(dp ns k).2<=k
 | [],_=>jF _
 | _::ns,k=>qW (Nat.div_le_self _ _) (nG ns k)
theorem ZT:∀(ns:List Nat) (k:Nat),(∀n∈ns,1<=n)->JZ ns (TA ns k)=true
 | [],_,_=>rfl
 | n::ns,k,h=>by
   have d:=h n BA;have b:=ZT ns k (fun x a=>h x (by simp [a]));have e:(dp ns k).2%n<n:=Nat.mod_lt _ U;show JZ (n::ns) (((dp ns k).2%n:Nat)::TA ns k)=true;unfold JZ;rw[b];simp;omega
theorem iw {ns:List Nat}{K:Nat}(a:j<ns.length):dp (ns.drop j) K=(((dp (ns.drop (j+1)) K).2%ns[j])::(dp (ns.drop (j+1)) K).1,(dp (ns.drop (j+1)) K).2/ns[j]):=by
 rw[zU a];rfl
theorem oU {α:Type}{f:α->List AV}{pre out:List α}{x:α}(a:j<pre.length):((pre.take (j+1)++out).map f).set j (f x)=(pre.take j++x::out).map f:=by
 rw[jW a,zA];simp only[qE,jJ,jM,List.singleton_append];rw[List.set_append_right _ _ NI];simp [Nat.min_eq_left (Nat.le_of_lt a)]
theorem x5 (h:Hp)(n:Nat)(d:n<=1048576):IX jA true h 32 (.n (n:Int)) (.n (n:Int))=some (.own h.length 0 n,h++[qH 1 ((zD n 0).map KD)]):=by
 have b:N9 jA 3=some [.n 0]:=BC;have a:room n 8:=JF U U;unfold IX;simp only[dJ,iz,nA,b,Int.toNat_natCast];rw[if_pos ⟨U,Int.le_refl _,a,rfl⟩];simp [KD]
theorem zq {a:List (List AV)}{x:Nat}(d:h[o]?=some (qH 1 a))(b:∃v,a[j]?=some [v]):D7 jA h 3 (.ptr o j 0) (.n (x:Int))=some (h.set o (qH 1 (a.set j (KD x)))):=by
 obtain⟨v,e⟩:=b;rw[IE (aY _ _) iz d e BA];rfl
theorem nJ (a b:Nat)(d:0<b):IZ jA 3 .rem (.n (a:Int)) (.n (b:Int))=some (.n ((a%b:Nat):Int)):=by
 rw[cH _ _ _ _ _ U,Int.tmod_eq_emod_of_nonneg U];rfl
theorem nK (a b:Nat)(i:0<b)(g:a<=9223372036854775807):IZ jA 3 .quo (.n (a:Int)) (.n (b:Int))=some (.n ((a/b:Nat):Int)):=by
 have d:((a:Int).tdiv (b:Int))=((a/b:Nat):Int):=by rw[Int.tdiv_eq_ediv_of_nonneg U];rfl
 have e:=Nat.div_le_self a b;rw[zl _ _ _ _ _ U,d,ND U]
theorem Xy (m:Mo)(c:Cr)(K:Nat)(h:Hp)(O:Here m c.pts)(hf:Full m)(h0:0<c.pts.length)(hl:c.pts.length<=1048576)(hK:K<=1048576):a_ (En G) 60 [.agg (C9 m),.agg (IM c),.n (K:Int)] h (.sl .any 1 ((TA (szs m c.pts) K).map bu)):=by
 have hs:=hf.szs O;have S:=KT m c.pts
 have N:ACalls (En G) 60 [.agg (C9 m),.agg (IM c),.n (K:Int)] h fun v H=>ext h H/\bw 1 KD h (dp (szs m c.pts) K).1 v H:=by
  refine cn Tryz.func60 6 ?_;have t:=Two.mk' h m c;have d:h.length<=(h++[qH 2 [C9 m]]++[qH 3 [IM c]]).length:=BA;have q:ext h (h++[qH 2 [C9 m]]++[qH 3 [IM c]]):=((ext.rfl' h).app _).app _;refine AZ @er @me ?_
  generalize h++[qH 2 [C9 m]]++[qH 3 [IM c]]=H at t d q|-
  generalize (h++[qH 2 [C9 m]]).length=cb at t|-
  have Y:Two h (H++[qH 1 ((zD c.pts.length 0).map KD)]) m c cb:=t.app _;refine N8 @t.l1 @x5 hl @Y.l1 ?_;rw[wrap_i64 (n:=(c.pts.length:Int)-1) U U];refine BB (fun n F p=>∃j,n=j/\j<=c.pts.length/\F 3=.ptr h.length 0 0/\F 4=.ptr cb 0 0/\F 7=.own H.length 0 c.pts.length/\F 8=.n ((j:Int)-1)/\F 2=.n ((dp ((szs m c.pts).drop j) K).2:Nat)/\Two h p m c cb/\ext h p/\p[H.length]?=some (qH 1 (((zD c.pts.length 0).take j++(dp ((szs m c.pts).drop j) K).1).map KD))) c.pts.length ⟨c.pts.length,rfl,jF _,AL,AL,AL,AL,by refine AB ?_;rw[jS U];rfl,Y,q.app _,?_⟩ ?_
  .rw[jS U,jK BA]
   simp only[dp,jL];exact A8 _ _
  rintro n F p ⟨j,rfl,hj,f3,f4,V,X,T,J,M,i⟩;refine A7 X ?_
  cases n with
  | zero =>
    have:decide ((((0:Nat):Int)-1)≥0)=false:=by decide
    refine AZ @this V ?_;rw[qA,zX,zI] at i;refine⟨M,.inr ⟨?_,H.length,d,by rw[QG,S],i⟩⟩;intro e;have:=QG (szs m c.pts) K;rw[e] at this;simp at this;omega
  | succ j =>
    have hd:decide ((((j+1:Nat):Int)-1)≥0)=true:=BA;have b:j<c.pts.length:=U;have B:j<(szs m c.pts).length:=U;have A:(szs m c.pts)[j]=(IV m c.pts[j]).length:=GK (YI m c.pts j b);have L:=(hs _ (jH B)).1;rw[A] at L;obtain⟨s,ls⟩:=O.ld b p;have Z:(((j+1:Nat):Int)-1)=(j:Int):=U;have g:=iw (K:=K) B;rw[A] at g;have hle:=nG ((szs m c.pts).drop (j+1)) K;generalize hr:(dp ((szs m c.pts).drop (j+1)) K)=r at i T g hle
    have C:∃v,(((zD c.pts.length 0).take (j+1)++r.1).map KD)[j]?=some [v]:=by
     refine⟨.n 0,?_⟩;rw[zB,qF NI,List.getElem?_take_of_lt U,List.getElem?_replicate_of_lt b];rfl
    have I:=oU (f:=KD) (pre:=zD c.pts.length 0) (out:=r.1) (j:=j) (x:=r.2%(IV m c.pts[j]).length) (by simpa using b);have a0:=AY i;refine A7 hd ?_;refine DI BC ?_;simp only[vQ,JX,CP,L9,↓reduceIte,jC,jO,b_,QJ,J5,J8,aF,JW,LQ,jQ,T,f3,f4,V,X,Z,J.lm,J.l1,CE b,BK ct b,cy,O.ix b,ls,jI,GR i b,nJ _ _ L,nK _ _ L (U:r.2<=9223372036854775807),zq i C,I];refine⟨j,U,j,rfl,U,trivial,trivial,trivial,?_,?_,⟨DU J.gm ?_,DU J.gc ?_,?_⟩,M.set d _,?_⟩
    .rw[wrap_i64 U U]
    .rw[g]
    .exact Nat.ne_of_lt (AY t.gm)
    .exact Nat.ne_of_lt (AY t.gc)
    .exact M.set d _
    .rw[g];exact CO i
 have R:=JL w4 N
 have P:(dp (szs m c.pts) K).1≠[]:=by
  intro e;have:=QG (szs m c.pts) K;rw[e] at this;simp at this;omega
 rw[zf] at R
 have Q:nm (dp (szs m c.pts) K).1=SM.any:=by
  cases hx:(dp (szs m c.pts) K).1 with
  | nil=>exact absurd hx P
  | cons a l=>rfl
 rw[Q] at R;exact R
structure eu where
 pm:SM
 pts:List Is
 cm:SM
 crs:List Is
 sam:Int
 ill:Int
def bt (v:eu):List AV:=[.sl v.pm 1 (v.pts.map LW),.sl v.cm 1 (v.crs.map LW),.n v.sam,.n v.ill]
theorem ir (v:eu):(bt v)[0]?=some (.sl v.pm 1 (v.pts.map LW)):=rfl
theorem i6 (v:eu):(bt v)[1]?=some (.sl v.cm 1 (v.crs.map LW)):=rfl
theorem jq (v:eu):(bt v)[2]?=some (.n v.sam):=rfl
theorem j9 (v:eu):(bt v)[3]?=some (.n v.ill):=rfl
theorem dz (v:eu):(bt v).length=4:=rfl
theorem k6 (h:Hp)(v:eu):OU h (.agg (bt v))=some (.ptr h.length 0 0,h++[qH 4 [bt v]]):=rfl
theorem jo {b:Nat}{v:eu}(a:h[b]?=some (qH 4 [bt v])):BR jA h 46 (.ptr b 0 0)=some (.agg (bt v)):=by
 rw[EK x_ nu a rfl (by rw[dz];exact jF 4)];rfl
def c_ (p:Nat->Bool):Nat->List Int->Bool
 | _,[]=>true
 | k,n::ns=>countB n (p k)&&c_ p (k+1) ns
theorem bI (p:Nat->Bool)(l:List Int)(k:Nat)(hk:k<l.length):c_ p k (l.drop k)=(countB l[k] (p k)&&c_ p (k+1) (l.drop (k+1))):=by
 rw[zU hk];rfl
def QX {α:Type}(b:α->Is->Bool):List α->List Is->Bool
 | [],[]=>true
 | a::ws,x::xs=>b a x&&QX b ws xs
 | _,_=>false
theorem aQ {α:Type}{b:α->Is->Bool}:∀ {ws:List α} {xs:List Is},QX b ws xs=true->ws.length=xs.length
 | [],[],_=>rfl
 | a::ws,x::xs,h=>by
   simp only[QX,jY] at h;simp [aQ h.2]
 | [],_::_,h=>by cases h
 | _::_,[],h=>by cases h
theorem bX {α:Type}(a:α->Is->Bool)(ws:List α)(xs:List Is)(k:Nat)(b:k<ws.length)(d:k<xs.length):QX a (ws.drop k) (xs.drop k)=(a ws[k] xs[k]&&QX a (ws.drop (k+1)) (xs.drop (k+1))):=by
 rw[zU b,zU d];rfl
theorem gH {α:Type}(d:α->Is->Bool)(ws:List α)(xs:List Is)(k:Nat)(a:ws.length<=k)(b:xs.length<=k):QX d (ws.drop k) (xs.drop k)=true:=by
 rw[jS a,jS b];rfl
def kindOf (p:Pt)(k:Nat):Int:=match p.bins[k]? with
 | some b=>b.kind
 | none=>0
def ia (p:Pt)(x:Is):Bool:=(x.l.length==p.bins.length)&&c_ (fun k=>kindOf p k==0) 0 x.l
def ie (m:Mo)(c:Cr)(x:Is):Bool:=(x.l.length==GN (szs m c.pts))&&c_ (fun k=>RS m c (TA (szs m c.pts) k)) 0 x.l
structure jc (v:eu):Prop where
 pts:v.pts.length<=1048576
 crs:v.crs.length<=1048576
 eachP:∀x∈v.pts,x.l.length<=1048576
 eachC:∀x∈v.crs,x.l.length<=1048576
theorem Zq (m:Mo)(l:List Is)(s:SM)(h:Hp)(hm:dt m)(hl:∀x∈l,x.l.length<=1048576):a_ (En G) 119 [.agg (C9 m),.sl s 1 (l.map LW)] h (.bool (QX ia m.pts l)):=by
 refine ACalls.pure0 rfl ?_;have a0:=hm.np;refine cn Tryz.func119 4 ?_;refine MF @er lE @XT ?_;refine BL ?_ ?_<;>intro V
 .refine AB ?_
  have:QX ia m.pts l=false:=by
   rw[<-wS];intro e;have:=aQ e;simp at V;omega
  exact⟨by rw[this],_,rfl⟩
 have Y:l.length=m.pts.length:=by simp at V;omega
 refine LM lE @XT ?_;refine BB (fun n F H=>∃i,n+i=m.pts.length/\F 1=.sl s 1 (l.map LW)/\F 16=.sl m.pm 6 (m.pts.map GL)/\F 17=.n m.pts.length/\F 18=.n (i:Nat)/\(∃x,H=h++x)/\QX ia m.pts l=QX ia (m.pts.drop i) (l.drop i)) m.pts.length ⟨0,BA,FB,FB,FB,FB,⟨_,rfl⟩,rfl⟩ ?_;rintro n F H ⟨i,hi,p,f16,f17,f18,Z,M⟩;refine AZ f17 f18 ?_;refine DV ?_ ?_<;>intro A
 .have b:i<l.length:=U
  rw[bX ia m.pts l i A b] at M
  have I:∃x,H++[qH 6 [GL m.pts[i]]]=h++x:=by
   obtain⟨x,rfl⟩:=Z;exact⟨_,zA _ _ _⟩
  have a1:=hl _ (jH b);simp only[vQ,CP,↓reduceIte,jC,b_,QJ,jQ,f16,f18,CE A,DL lD cK JH A,tu,wa _ _ [.str ⟨#[]⟩,.n 0,.n 0,.str ⟨#[]⟩,.sl .nil 0 [],.sl .nil 0 []] rfl];refine DI BC ?_;simp only[vQ,↓reduceIte,jC,jO,b_,V6,UF,aF,JW,p,CE b,BK MB b,SQ,EN PS,OQ,jI];refine BL ?_ ?_<;>intro X
  .refine AB ?_
   have:ia m.pts[i] l[i]=false:=by
    have:(l[i].l.length==m.pts[i].bins.length)=false:=by
     rw[beq_eq_false_iff_ne];intro e;simp [e] at X
    unfold ia;rw[this];rfl
   exact⟨by rw[M,this];rfl,I⟩
  have Q:l[i].l.length=m.pts[i].bins.length:=by simp at X;omega
  have S:ia m.pts[i] l[i]=c_ (fun k=>kindOf m.pts[i] k==0) 0 l[i].l:=by
   unfold ia;rw[beq_iff_eq.2 Q];rfl
  simp only[vQ,CP,↓reduceIte,jC,b_,V6,UF,p,CE b,BK MB b,SQ,jI];refine EG 2 (fun a d=>a 1=.sl s 1 (l.map LW)/\a 16=.sl m.pm 6 (m.pts.map GL)/\a 17=.n m.pts.length/\a 18=.n (i:Nat)/\d=H++[qH 6 [GL m.pts[i]]]/\ia m.pts[i] l[i]=true) (fun a d=>a 4=.bool false/\d=H++[qH 6 [GL m.pts[i]]]/\ia m.pts[i] l[i]=false) ?_ ?_ ?_
  .refine BB (fun n a d=>∃k,n+k=l[i].l.length/\a 1=.sl s 1 (l.map LW)/\a 16=.sl m.pm 6 (m.pts.map GL)/\a 17=.n m.pts.length/\a 18=.n (i:Nat)/\a 6=.ptr H.length 0 0/\a 35=.sl l[i].m 1 (l[i].l.map bu)/\a 36=.n l[i].l.length/\a 37=.n (k:Nat)/\d=H++[qH 6 [GL m.pts[i]]]/\ia m.pts[i] l[i]=c_ (fun k=>kindOf m.pts[i] k==0) k (l[i].l.drop k)) l[i].l.length ⟨0,BA,UT p,UT f16,UT f17,UT f18,FB,FB,FB,FB,rfl,S⟩ ?_
   clear p f16 f17 f18;rintro n' F d ⟨k,hk,p,f16,f17,f18,T,J,K,q,rfl,g⟩;refine AZ K q ?_;refine DV ?_ ?_<;>intro B
   .have C:k<m.pts[i].bins.length:=U
    have R:kindOf m.pts[i] k=(m.pts[i].bins[k]).kind:=by unfold kindOf;rw[jP C]
    rw[bI _ _ _ B,R] at g;simp only[vQ,CP,↓reduceIte,jC,b_,J8,XB,JW,T,J,q,CE B,BK ct B,cy,EN PS,OQ,CE C,DL nD dK MP C];refine(mB G _ _).uu ?_;refine(Y3 G _ _ _).uu ?_;cases L:countB l[i].l[k] (m.pts[i].bins[k].kind==0)
    .refine AB ?_
     exact⟨trivial,trivial,by rw[g,L];rfl⟩
    .refine AZ q (CZ k) ?_
     exact⟨n'-1,U,k+1,U,p,f16,f17,f18,T,J,K,rfl,trivial,by rw[g,L];rfl⟩
   .refine AB ?_
    exact⟨p,f16,f17,f18,trivial,by rw[g,jS U];rfl⟩
  .rintro a d ⟨g1,N,O,P,rfl,g⟩
   refine AZ P (CZ i) ?_;exact⟨n-1,U,i+1,U,g1,N,O,rfl,I,by rw[M,g];rfl⟩
  .rintro a d ⟨g4,rfl,g⟩
   refine A7 g4 ?_;exact⟨by rw[M,g];rfl,I⟩
 .refine AB ?_
  exact⟨by rw[M,gH ia _ _ i U U],Z⟩
def oF (G:Nat->AV):Prop:=∀(a:List Nat) (s:SM) (K:Nat) (h:Hp),0<a.length->a.length<=4->(∀n∈a,1<=n/\n<=64)->K<=1048576 ->
 a_ (En G) 212 [.sl s 1 (a.map KD),.n (K:Int)] h (.sl .any 1 ((TA a K).map bu))
structure dw (m:Mo) (c:Cr):Prop where
 here:Here m c.pts
 two:2<=c.pts.length
 four:c.pts.length<=4
 prod:GN (szs m c.pts)<=256
 num:c.excl.length<=256
 excl:∀x∈c.excl,JZ (szs m c.pts) x.l=true
theorem Z2 {m:Mo}{c:Cr}(h:IP m c=0):dw m c:=by
 unfold IP at h;split at h
 .cases h
 .split at h
  .cases h
  .split at h
   .cases h
   .split at h
    .cases h
    .split at h
     .cases h
     .rename_i g i d l b
      have a:aK m.pts.length none c.pts=true:=BQ d;refine⟨bV a,U,U,U,U,fun x e=>?_⟩;rw[wS,qP] at b;have:=b x e;simpa using this
structure Good (m:Mo):Prop where
 num:m.pts.length+m.crs.length<=16
 full:Full m
 crs:∀c∈m.crs,dw m c
theorem TY {m:Mo}(h:F6 m=0):Good m:=by
 unfold F6 at h;split at h
 .cases h
 .split at h
  .rename_i a;exact absurd h a
  .split at h
   .cases h
   .split at h
    .rename_i b;exact absurd h b
    .rename_i e a g b
     refine⟨U,full_of (BQ a),fun c d=>Z2 (aO _ (BQ b) c d)⟩
theorem Zr (hT:oF G)(m:Mo)(l:List Is)(s:SM)(h:Hp)(hm:dt m)(hg:Good m)(hl:∀x∈l,x.l.length<=1048576):a_ (En G) 120 [.agg (C9 m),.sl s 1 (l.map LW)] h (.bool (QX (ie m) m.crs l)):=by
 refine ACalls.pure0 rfl ?_;have a2:=hm.nc;refine cn Tryz.func120 4 ?_;refine MF @er nE @ZC ?_;refine BL ?_ ?_<;>intro h1
 .refine AB ?_
  have:QX (ie m) m.crs l=false:=by
   rw[<-wS];intro e;have:=aQ e;simp at h1;omega
  exact⟨by rw[this],_,rfl⟩
 have a0:l.length=m.crs.length:=by simp at h1;omega
 refine LM nE @ZC ?_;refine BB (fun n F H=>∃i,n+i=m.crs.length/\F 1=.sl s 1 (l.map LW)/\F 2=.ptr h.length 0 0/\F 17=.sl m.cm 3 (m.crs.map IM)/\F 18=.n m.crs.length/\F 19=.n (i:Nat)/\H[h.length]?=some (qH 2 [C9 m])/\(∃x,H=h++x)/\QX (ie m) m.crs l=QX (ie m) (m.crs.drop i) (l.drop i)) m.crs.length ⟨0,BA,AL,AL,AL,AL,AL,A8 _ _,⟨_,rfl⟩,rfl⟩ ?_;rintro n F H ⟨i,hi,A,B,f17,f18,f19,gm,hx,Q⟩;refine AZ f18 f19 ?_;refine DV ?_ ?_<;>intro g
 .have d:i<l.length:=U
  rw[bX (ie m) m.crs l i g d] at Q;have b:=hg.crs _ (jH g);have J:=hg.full.szs b.here;have a4:=KT m m.crs[i].pts
  have L:∃x,H++[qH 3 [IM m.crs[i]]]=h++x:=by
   obtain⟨x,rfl⟩:=hx;exact⟨_,zA _ _ _⟩
  have a5:=hl _ (jH d);have I:(H++[qH 3 [IM m.crs[i]]])[h.length]?=some (qH 2 [C9 m]):=AU gm;have O:=A8 H (qH 3 [IM m.crs[i]]);have a1:=b.two;have X:=b.four;have a3:=b.prod;simp only[vQ,CP,↓reduceIte,jC,b_,UG,jQ,B,f17,f19,CE g,DL vF mN NF g,ua,v_ _ _ [.str ⟨#[]⟩,.sl .nil 0 [],.sl .nil 0 []] rfl,dk I,ow O];refine(dP G m _ _ b.here U).uu ?_;refine DI BC ?_;simp only[vQ,KU,KE,↓reduceIte,jC,jO,b_,V6,UF,A,CE d,BK MB d,SQ,jI];refine⟨_,YL G _ _ _ (fun n Y=>(J n Y).2) U,?_⟩
  try refine AB ?_
  refine BL ?_ ?_<;>intro h2
  .refine AB ?_
   have:ie m m.crs[i] l[i]=false:=by
    have:(l[i].l.length==GN (szs m m.crs[i].pts))=false:=by
     rw[beq_eq_false_iff_ne];intro e;simp [e] at h2
    unfold ie;rw[this];rfl
   exact⟨by rw[Q,this];rfl,L⟩
  have V:l[i].l.length=GN (szs m m.crs[i].pts):=by simp at h2;omega
  have Z:ie m m.crs[i] l[i]=c_ (fun k=>RS m m.crs[i] (TA (szs m m.crs[i].pts) k)) 0 l[i].l:=by
   unfold ie;rw[beq_iff_eq.2 V];rfl
  simp only[vQ,CP,↓reduceIte,jC,b_,V6,UF,A,CE d,BK MB d,SQ,jI];refine EG 2 (fun a p=>a 1=.sl s 1 (l.map LW)/\a 2=.ptr h.length 0 0/\a 17=.sl m.cm 3 (m.crs.map IM)/\a 18=.n m.crs.length/\a 19=.n (i:Nat)/\p=H++[qH 3 [IM m.crs[i]]]/\ie m m.crs[i] l[i]=true) (fun a p=>a 4=.bool false/\p=H++[qH 3 [IM m.crs[i]]]/\ie m m.crs[i] l[i]=false) ?_ ?_ ?_
  .refine BB (fun n a p=>∃k,n+k=l[i].l.length/\a 1=.sl s 1 (l.map LW)/\a 2=.ptr h.length 0 0/\a 17=.sl m.cm 3 (m.crs.map IM)/\a 18=.n m.crs.length/\a 19=.n (i:Nat)/\a 6=.ptr H.length 0 0/\a 7=.sl (nm (szs m m.crs[i].pts)) 1 ((szs m m.crs[i].pts).map KD)/\a 38=.sl l[i].m 1 (l[i].l.map bu)/\a 39=.n l[i].l.length/\a 40=.n (k:Nat)/\p=H++[qH 3 [IM m.crs[i]]]/\ie m m.crs[i] l[i]=c_ (fun k=>RS m m.crs[i] (TA (szs m m.crs[i].pts) k)) k (l[i].l.drop k)) l[i].l.length ⟨0,BA,DY A,DY B,DY f17,DY f18,DY f19,AL,AL,AL,AL,AL,rfl,Z⟩ ?_
   clear A B f17 f18 f19;rintro n' F p ⟨k,hk,A,B,f17,f18,f19,f6,f7,M,N,C,rfl,q⟩;refine AZ N C ?_;refine DV ?_ ?_<;>intro K
   .rw[bI _ _ _ K] at q
    simp only[vQ,CP,↓reduceIte,jC,b_,J8,M,C,CE K,BK ct K,cy];refine DI BC ?_;refine G7 B f6 f7 (dk I) (ow O) ?_;refine⟨_,hT _ _ k _ U U J U,?_⟩
    try refine AB ?_
    refine⟨_,uV G m m.crs[i] _ _ _ b.here (ZT _ _ fun n Y=>(J n Y).1) U (by have:=b.num;omega),?_⟩
    try refine AB ?_
    refine⟨_,Y3 G _ _ _,?_⟩
    try refine AB ?_
    cases P:countB l[i].l[k] (RS m m.crs[i] (TA (szs m m.crs[i].pts) k))
    .refine AB ?_
     exact⟨trivial,trivial,by rw[q,P];rfl⟩
    .refine AZ C (CZ k) ?_
     exact⟨n'-1,U,k+1,U,A,B,f17,f18,f19,f6,f7,M,N,rfl,trivial,by rw[q,P];rfl⟩
   .refine AB ?_
    exact⟨A,B,f17,f18,f19,trivial,by rw[q,jS U];rfl⟩
  .rintro a p ⟨g1,g2,R,S,T,rfl,q⟩
   refine AZ T (CZ i) ?_;exact⟨n-1,U,i+1,U,g1,g2,R,S,rfl,I,L,by rw[Q,q];rfl⟩
  .rintro a p ⟨g4,rfl,q⟩
   refine A7 g4 ?_;exact⟨by rw[Q,q];rfl,L⟩
 .refine AB ?_
  exact⟨by rw[Q,gH (ie m) _ _ i U U],hx⟩
def MC (m:Mo)(v:eu):Bool:=(F6 m==0)&&QX ia m.pts v.pts&&QX (ie m) m.crs v.crs&&NM v.sam&&NM v.ill
theorem mC (n:Int):countB n true=NM n:=by unfold countB;simp
theorem AZK (A:fm G)(m:Mo)(v:eu)(p:dt m)(C:jc v)(q:Good m->∀h,a_ (En G) 120 [.agg (C9 m),.sl v.cm 1 (v.crs.map LW)] h (.bool (QX (ie m) m.crs v.crs)))(h:Hp):a_ (En G) 55 [.agg (C9 m),.agg (bt v)] h (.bool (MC m v)):=by
 refine ACalls.pure0 rfl ?_;refine cn Tryz.func55 4 ?_;have e:(h++[qH 2 [C9 m]]++[qH 4 [bt v]])[h.length]?=some (qH 2 [C9 m]):=AU (A8 _ _);have a:=A8 (h++[qH 2 [C9 m]]) (qH 4 [bt v]);have d:∃x,h++[qH 2 [C9 m]]++[qH 4 [bt v]]=h++x:=⟨_,zA _ _ _⟩;refine AZ @er @k6 ?_
 generalize h++[qH 2 [C9 m]]++[qH 4 [bt v]]=H at e a d|-
 generalize (h++[qH 2 [C9 m]]).length=vb at a|-
 have F:BR jA H 25 (.ptr vb 0 0)=some (.sl v.pm 1 (v.pts.map LW)):=by rw[BJ XF a (row:=bt v) rfl,ir]
 have I:BR jA H 25 (.ptr vb 0 1)=some (.sl v.cm 1 (v.crs.map LW)):=by rw[BJ XF a (row:=bt v) rfl,i6]
 have J:BR jA H 3 (.ptr vb 0 2)=some (.n v.sam):=by rw[BJ ct a (row:=bt v) rfl,jq]
 have K:BR jA H 3 (.ptr vb 0 3)=some (.n v.ill):=by rw[BJ ct a (row:=bt v) rfl,j9]
 refine A7 (dk e) ?_;refine(TE G A m p _).uu ?_;cases b:(F6 m==0)
 .refine AB ?_
  exact⟨by unfold MC;rw[b];rfl,d⟩
 have B:=TY (beq_iff_eq.1 b);refine AZ (dk e) F ?_;refine(Zq G m v.pts v.pm _ p C.eachP).uu ?_;cases g:QX ia m.pts v.pts
 .refine AB ?_
  exact⟨by unfold MC;rw[b,g];rfl,d⟩
 refine AZ (dk e) I ?_;refine(q B _).uu ?_;cases i:QX (ie m) m.crs v.crs
 .refine AB ?_
  exact⟨by unfold MC;rw[b,g,i];rfl,d⟩
 refine AZ @Jj J ?_;refine(Y3 G _ _ _).use ?_;refine A7 @mC ?_;cases l:NM v.sam
 .refine AB ?_
  exact⟨by unfold MC;rw[b,g,i,l];rfl,d⟩
 refine AZ @Ji K ?_;refine(Y3 G _ _ _).use ?_;refine A7 @mC ?_;exact⟨by unfold MC;rw[b,g,i,l];rfl,d⟩
theorem gx (d:fm G)(e:oF G)(m:Mo)(v:eu)(a:dt m)(b:jc v)(h:Hp):a_ (En G) 55 [.agg (C9 m),.agg (bt v)] h (.bool (MC m v)) :=
 AZK G d m v a b (fun g h=>Zr G e m v.crs v.cm h a g b.eachC) h
structure i7 (h H:Hp) (m:Mo) (v:eu) (vb:Nat):Prop where
 gm:H[h.length]?=some (qH 2 [C9 m])
 gv:H[vb]?=some (qH 4 [bt v])
 hx:∃x,H=h++x
theorem i7.mk' (h:Hp)(m:Mo)(v:eu):i7 h (h++[qH 2 [C9 m]]++[qH 4 [bt v]]) m v (h++[qH 2 [C9 m]]).length:=⟨AU (A8 _ _),A8 _ _,⟨_,zA _ _ _⟩⟩
section
variable {h H:Hp} {m:Mo} {v:eu} {vb:Nat} (t:i7 h H m v vb)
include t
theorem i7.m0:BR jA H 28 (.ptr h.length 0 0)=some (.sl m.pm 6 (m.pts.map GL)):=by rw[BJ lE t.gm (row:=C9 m) rfl,XT]
theorem i7.m1:BR jA H 29 (.ptr h.length 0 1)=some (.sl m.cm 3 (m.crs.map IM)):=by rw[BJ nE t.gm (row:=C9 m) rfl,ZC]
theorem i7.l0:BR jA H 25 (.ptr vb 0 0)=some (.sl v.pm 1 (v.pts.map LW)):=by rw[BJ XF t.gv (row:=bt v) rfl,ir]
theorem i7.l1:BR jA H 25 (.ptr vb 0 1)=some (.sl v.cm 1 (v.crs.map LW)):=by rw[BJ XF t.gv (row:=bt v) rfl,i6]
theorem i7.l2:BR jA H 3 (.ptr vb 0 2)=some (.n v.sam):=by rw[BJ ct t.gv (row:=bt v) rfl,jq]
theorem i7.l3:BR jA H 3 (.ptr vb 0 3)=some (.n v.ill):=by rw[BJ ct t.gv (row:=bt v) rfl,j9]
end
theorem sZ (n:Int)(may:Bool):countB n may = !(!NM n||(decide (n>0) && !may)):=by
 unfold countB;cases a:NM n
 .rfl
 .have b:0<=n:=by
   unfold NM at a;simp at a;exact a.1
  cases may
  .have:(n==0) = !decide (n>0):=by rw[wJ];simp;omega
   rw[this];cases decide (n>0)<;>rfl
  .cases decide (n>0)<;>rfl
theorem Fm (m:Mo)(v:eu)(hm:dt m)(hv:jc v)(h:Hp):a_ (En G) 20 [.agg (C9 m),.agg (bt v)] h (.bool (MC m v)):=by
 refine ACalls.pure0 rfl ?_;have ab:=hm.np;have ac:=hm.nc;refine cn Tryz.func20 4 ?_;have t:=i7.mk' h m v;refine AZ @er @k6 ?_
 generalize h++[qH 2 [C9 m]]++[qH 4 [bt v]]=H at t|-
 generalize (h++[qH 2 [C9 m]]).length=vb at t|-
 have a5:m.pts.length≠v.pts.length->QX ia m.pts v.pts=false:=fun O=>by
  rw[<-wS];exact fun e=>O (aQ e)
 have a4:m.crs.length≠v.crs.length->QX (ie m) m.crs v.crs=false:=fun O=>by
  rw[<-wS];exact fun e=>O (aQ e)
 refine A7 (dk t.gm) ?_;refine(XP G m hm _).use ?_;simp only[vQ,EM,CP,↓reduceIte,b_,bne];cases h1:(F6 m==0)
 .refine AB ?_
  exact⟨by unfold MC;rw[h1];rfl,t.hx⟩
 have hg:=TY (beq_iff_eq.1 h1);simp only[vQ,EM,CP,↓reduceIte,jC,qL,b_,qn,pg,J5,YW,t.m0,t.l0,jI,bne];cases h2:((v.pts.length:Int)==(m.pts.length:Int))
 .refine AB ?_
  have:=a5 (by simp at h2;omega);exact⟨by unfold MC;rw[this];simp,t.hx⟩
 have a9:v.pts.length=m.pts.length:=by simp at h2;omega
 simp only[vQ,EM,CP,↓reduceIte,jC,qL,b_,qn,sQ,MN,YV,t.m1,t.l1,jI,bne];cases h3:((v.crs.length:Int)==(m.crs.length:Int))
 .refine AB ?_
  have:=a4 (by simp at h3;omega);exact⟨by unfold MC;rw[this];simp,t.hx⟩
 have aa:v.crs.length=m.crs.length:=by simp at h3;omega
 refine AZ @Jj @t.l2 ?_;refine(YF G _ _).uu ?_;cases h4:NM v.sam
 .refine AB ?_
  exact⟨by unfold MC;rw[h4];simp,t.hx⟩
 refine AZ @Ji @t.l3 ?_;refine(YF G _ _).uu ?_;cases h5:NM v.ill
 .refine AB ?_
  exact⟨by unfold MC;rw[h5];simp,t.hx⟩
 have a0:MC m v=(QX ia m.pts v.pts&&QX (ie m) m.crs v.crs):=by unfold MC;rw[h1,h4,h5];simp
 rw[a0];refine AB ?_;refine EG 0 (fun F A=>F 2=.ptr h.length 0 0/\F 3=.ptr vb 0 0/\A=H/\QX ia m.pts v.pts=true) (fun F A=>F 4=.bool false/\A=H/\QX ia m.pts v.pts=false) ?_ ?_ ?_
 .refine BB (fun n F A=>∃i,n+i=m.pts.length/\F 2=.ptr h.length 0 0/\F 3=.ptr vb 0 0/\F 5=.n (i:Nat)/\A=H/\QX ia m.pts v.pts=QX ia (m.pts.drop i) (v.pts.drop i)) m.pts.length ⟨0,BA,AL,AL,AL,rfl,rfl⟩ ?_
  rintro n F A ⟨i,hi,p,q,I,rfl,K⟩;refine DC p I @t.m0 ?_;refine DV ?_ ?_<;>intro d
  .have a:i<v.pts.length:=U
   rw[bX ia m.pts v.pts i d a] at K;have a6:=hv.eachP _ (jH a);refine AB ?_;refine DI BC ?_;simp only[vQ,↓reduceIte,jC,jO,b_,V6,QJ,J5,UF,YW,aF,JW,p,q,I,t.m0,t.l0,CE a,CE d,BK MB a,SQ,BK PS d,OQ,jI];refine BL ?_ ?_<;>intro S
   .refine AB ?_
    have:ia m.pts[i] v.pts[i]=false:=by
     have:(v.pts[i].l.length==m.pts[i].bins.length)=false:=by
      rw[beq_eq_false_iff_ne];intro e;simp [e] at S
     unfold ia;rw[this];rfl
    exact⟨trivial,trivial,by rw[K,this];rfl⟩
   have L:v.pts[i].l.length=m.pts[i].bins.length:=by simp at S;omega
   have P:ia m.pts[i] v.pts[i]=c_ (fun k=>kindOf m.pts[i] k==0) 0 v.pts[i].l:=by
    unfold ia;rw[beq_iff_eq.2 L];rfl
   refine AB ?_;refine EG 2 (fun b H=>b 2=.ptr h.length 0 0/\b 3=.ptr vb 0 0/\b 5=.n (i:Nat)/\H=A/\ia m.pts[i] v.pts[i]=true) (fun b H=>b 4=.bool false/\H=A/\ia m.pts[i] v.pts[i]=false) ?_ ?_ ?_
   .refine BB (fun n b H=>∃k,n+k=v.pts[i].l.length/\b 2=.ptr h.length 0 0/\b 3=.ptr vb 0 0/\b 5=.n (i:Nat)/\b 6=.n (k:Nat)/\H=A/\ia m.pts[i] v.pts[i]=c_ (fun k=>kindOf m.pts[i] k==0) k (v.pts[i].l.drop k)) v.pts[i].l.length ⟨0,BA,DY p,DY q,DY I,AL,rfl,P⟩ ?_
    clear p q I;rintro Z F A ⟨k,hk,p,q,I,Q,rfl,g⟩;simp only[vQ,CP,↓reduceIte,jC,b_,V6,UF,YW,q,I,Q,t.l0,CE a,BK MB a,SQ,jI];refine DV ?_ ?_<;>intro C
    .have N:k<m.pts[i].bins.length:=U
     have a3:kindOf m.pts[i] k=(m.pts[i].bins[k]).kind:=by unfold kindOf;rw[jP N]
     rw[bI _ _ _ C,a3,sZ] at g;simp only[vQ,CP,↓reduceIte,jC,b_,V6,J8,YW,q,I,Q,t.l0,CE a,BK MB a,SQ,CE C,BK ct C,cy];refine(YF G _ _).uu ?_;cases X:NM v.pts[i].l[k]
     .refine AB ?_
      exact⟨trivial,trivial,by rw[g,X];rfl⟩
     rw[X] at g;refine AB ?_;cases V:decide (v.pts[i].l[k]>0)
     .refine AZ Q (CZ k) ?_
      exact⟨Z-1,U,k+1,U,p,q,I,rfl,trivial,by rw[g,V];rfl⟩
     rw[V] at g;simp only[vQ,EM,SX,CP,↓reduceIte,jC,b_,QJ,J5,XB,JW,UX,p,I,Q,t.m0,CE d,BK PS d,OQ,CE N,BK ct N,SV,bne];cases Y:(m.pts[i].bins[k].kind==0)
     .refine AB ?_
      exact⟨trivial,trivial,by rw[g,Y];rfl⟩
     .refine AZ Q (CZ k) ?_
      exact⟨Z-1,U,k+1,U,p,q,I,rfl,trivial,by rw[g,Y];rfl⟩
    .refine AB ?_
     exact⟨p,q,I,trivial,by rw[g,jS U];rfl⟩
   .rintro b A ⟨g2,g3,g5,rfl,g⟩
    refine AZ g5 (CZ i) ?_;exact⟨n-1,U,i+1,U,g2,g3,rfl,trivial,by rw[K,g];rfl⟩
   .rintro b A ⟨g4,rfl,g⟩
    refine A7 g4 ?_;exact⟨trivial,trivial,by rw[K,g];rfl⟩
  .refine AB ?_
   exact⟨p,q,trivial,by rw[K,gH ia _ _ i U U]⟩
 .rintro F A ⟨p,q,rfl,M⟩
  rw[M,qX];refine AB ?_;refine BB (fun n F H=>∃i,n+i=m.crs.length/\F 2=.ptr h.length 0 0/\F 3=.ptr vb 0 0/\F 8=.n (i:Nat)/\H=A/\QX (ie m) m.crs v.crs=QX (ie m) (m.crs.drop i) (v.crs.drop i)) m.crs.length ⟨0,BA,DY p,DY q,AL,rfl,rfl⟩ ?_;clear p q;rintro n F A ⟨i,hi,p,q,J,rfl,K⟩;refine DC p J @t.m1 ?_;refine DV ?_ ?_<;>intro d
  .have a:i<v.crs.length:=U
   rw[bX (ie m) m.crs v.crs i d a] at K;have a6:=hv.eachC _ (jH a);have B:=hg.crs _ (jH d);have a2:=hg.full.szs B.here;have a8:=B.two;have a1:=B.four;have ad:=B.prod;have a7:=B.num;have T:min (GN (szs m m.crs[i].pts):Int) 1000=(GN (szs m m.crs[i].pts):Int):=U;refine AB ?_;refine DI BC ?_;simp only[vQ,KU,KE,↓reduceIte,jC,jO,b_,V6,UG,MN,UF,YV,p,q,J,t.m1,t.l1,dk t.gm,CE a,CE d,BK MB a,SQ,DL vF mN NF d,jI];refine⟨_,yP G m m.crs[i] _ B.here hg.full U,?_⟩;rw[T]
   try refine AB ?_
   refine BL ?_ ?_<;>intro S
   .refine AB ?_
    have:ie m m.crs[i] v.crs[i]=false:=by
     have:(v.crs[i].l.length==GN (szs m m.crs[i].pts))=false:=by
      rw[beq_eq_false_iff_ne];intro e;simp [e] at S
     unfold ie;rw[this];rfl
    exact⟨by rw[K,this];rfl,t.hx⟩
   have L:v.crs[i].l.length=GN (szs m m.crs[i].pts):=by simp at S;omega
   have P:ie m m.crs[i] v.crs[i]=c_ (fun k=>RS m m.crs[i] (TA (szs m m.crs[i].pts) k)) 0 v.crs[i].l:=by
    unfold ie;rw[beq_iff_eq.2 L];rfl
   refine AB ?_;refine EG 6 (fun b H=>b 2=.ptr h.length 0 0/\b 3=.ptr vb 0 0/\b 8=.n (i:Nat)/\H=A/\ie m m.crs[i] v.crs[i]=true) (fun b H=>b 4=.bool false/\H=A/\ie m m.crs[i] v.crs[i]=false) ?_ ?_ ?_
   .refine BB (fun n b H=>∃k,n+k=v.crs[i].l.length/\b 2=.ptr h.length 0 0/\b 3=.ptr vb 0 0/\b 8=.n (i:Nat)/\b 9=.n (k:Nat)/\H=A/\ie m m.crs[i] v.crs[i]=c_ (fun k=>RS m m.crs[i] (TA (szs m m.crs[i].pts) k)) k (v.crs[i].l.drop k)) v.crs[i].l.length ⟨0,BA,DY p,DY q,DY J,AL,rfl,P⟩ ?_
    clear p q J;rintro Z F A ⟨k,hk,p,q,J,R,rfl,g⟩;simp only[vQ,CP,↓reduceIte,jC,b_,V6,UF,YV,q,J,R,t.l1,CE a,BK MB a,SQ,jI];refine DV ?_ ?_<;>intro C
    .rw[bI _ _ _ C,sZ] at g
     simp only[vQ,CP,↓reduceIte,jC,b_,V6,J8,YV,q,J,R,t.l1,CE a,BK MB a,SQ,CE C,BK ct C,cy];refine DI BC ?_;refine AB ?_;refine⟨_,YF G _ _,?_⟩
     try refine AB ?_
     cases X:NM v.crs[i].l[k]
     .refine AB ?_
      exact⟨trivial,trivial,by rw[g,X];rfl⟩
     rw[X] at g;refine AB ?_;cases V:decide (v.crs[i].l[k]>0)
     .refine AZ R (CZ k) ?_
      exact⟨Z-1,U,k+1,U,p,q,J,rfl,trivial,by rw[g,V];rfl⟩
     rw[V] at g;simp only[vQ,JA,KW,ZI,so,KU,KE,EM,iF,↓reduceIte,jC,jO,b_,UG,MN,p,J,R,t.m1,dk t.gm,CE d,DL vF mN NF d];refine⟨_,Xy G m m.crs[i] k _ B.here hg.full U U U,?_⟩
     try refine AB ?_
     refine⟨_,Wp G m m.crs[i] _ _ _ B.here (ZT _ _ fun n hn=>(a2 n hn).1) U U,?_⟩
     try refine AB ?_
     cases Y:RS m m.crs[i] (TA (szs m m.crs[i].pts) k)
     .refine AB ?_
      exact⟨trivial,trivial,by rw[g,Y];rfl⟩
     .refine AZ R (CZ k) ?_
      exact⟨Z-1,U,k+1,U,p,q,J,rfl,trivial,by rw[g,Y];rfl⟩
    .refine AB ?_
     exact⟨p,q,J,trivial,by rw[g,jS U];rfl⟩
   .rintro b A ⟨g2,g3,g8,rfl,g⟩
    refine AZ g8 (CZ i) ?_;exact⟨n-1,U,i+1,U,g2,g3,rfl,trivial,by rw[K,g];rfl⟩
   .rintro b A ⟨g4,rfl,g⟩
    refine A7 g4 ?_;exact⟨by rw[K,g];rfl,t.hx⟩
  .refine AB ?_
   exact⟨by rw[K,gH (ie m) _ _ i U U],t.hx⟩
 .rintro F A ⟨f4,rfl,M⟩
  refine A7 f4 ?_;exact⟨by rw[M];rfl,t.hx⟩
theorem Vz (G:Nat->AV)(xs:List Int)(m:SM)(e:FuncId)(a:List AV)(p:Int->Bool)(h:Hp)(J:xs.length<=1099511627776)
  (C:∀r,a_ (En G) e (.n r::a) h (.bool (p r))) :
  a_ (En G) 261 [.sl m 1 (xs.map bu),.fn (.func e) [] a] h (.n (match xs.findIdx? p with|some i=>(i:Int)|none => -1)):=by
 refine cn Tryz.func261 4 ?_;refine AB ?_;refine BB (fun n F H=>∃k,n+k=xs.length/\F 0=.sl m 1 (xs.map bu)/\F 1=.fn (.func e) [] a/\F 7=.n xs.length/\F 8=.n (k:Nat)/\H=h/\(xs.take k).all (fun r => !p r)=true) xs.length ⟨0,BA,rfl,rfl,rfl,rfl,rfl,rfl⟩ ?_;rintro n F H ⟨k,hk,g,l,q,A,rfl,b⟩;refine EH g l q A ?_;refine DV ?_ ?_<;>intro d
 .simp only[vQ,CP,zX,zG,↓reduceIte,jC,b_,J8,g,l,q,A,CE d,BK ct d,cy]
  refine(C _).uu ?_;refine BL ?_ ?_<;>intro B
  .refine AB ?_
   refine⟨?_,trivial⟩
   rw[wV.2 ⟨d,B,fun j I=>by
    rw[zJ] at b;have:=b xs[j] (by rw[List.mem_take_iff_getElem];exact⟨j,U,rfl⟩)
    simpa using this⟩]
  .refine AZ A (CZ k) ?_
   refine⟨n-1,U,k+1,U,g,l,q,rfl,trivial,?_⟩;rw[jW d,List.all_append,b];simp only[wZ,List.all_nil,B];rfl
 .refine AB ?_
  refine⟨?_,trivial⟩;rw[jK U] at b;rw[yA.2 (BQ b)]
theorem vD (G:Nat->AV)(xs:List Int)(m:SM)(b:FuncId)(a:List AV)(p:Int->Bool)(h:Hp)(q:xs.length<=1099511627776)
  (l:∀r,a_ (En G) b (.n r::a) h (.bool (p r))) :
  a_ (En G) 231 [.sl m 1 (xs.map bu),.fn (.func b) [] a] h (.bool (xs.any p)):=by
 refine cn Tryz.func231 4 ?_;refine AB ?_;refine(Vz G xs m b a p h q l).uu ?_;refine⟨?_,trivial⟩
 cases d:xs.findIdx? p with
 | some i =>
   obtain⟨A,g,_⟩:=wV.1 d;have:xs.any p=true:=qK.2 ⟨xs[i],BA,g⟩;simp [this]
 | none =>
   have:xs.any p=false:=by
    rw[yA] at d;rw[qP];intro x e;simp [d x e]
   simp [this]
theorem VC {b:Nat}{m:Mo}(a:h[b]?=some (qH 2 [C9 m])):BR jA h 28 (.ptr b 0 0)=some (.sl m.pm 6 (m.pts.map GL)):=by rw[BJ lE a (row:=C9 m) rfl,XT]
theorem ZM {b:Nat}{m:Mo}(a:h[b]?=some (qH 2 [C9 m])):BR jA h 29 (.ptr b 0 1)=some (.sl m.cm 3 (m.crs.map IM)):=by rw[BJ nE a (row:=C9 m) rfl,ZC]
theorem Vp (m:Mo)(b:Nat)(p:Int)(h:Hp)(a:h[b]?=some (qH 2 [C9 m])):a_ (En G) 230 [.n p,.ptr b 0 0] h (.bool (decide (p<0)||decide (p≥(m.pts.length:Int)))):=by
 refine cn Tryz.func230 3 ?_;refine AB ?_;cases d:decide (p<0)
 .refine AZ @wF (VC a) ?_
  exact⟨BA,trivial⟩
 .refine AB ?_
  exact⟨BA,trivial⟩
theorem AT9 {m:Mo}{l:List Int}(a:Here m l):(l.any fun p=>decide (p<0)||decide (p≥(m.pts.length:Int)))=false:=by
 rw[qP];intro p b;have:=a p b;simp;omega
theorem ZR (m:Mo)(i:Nat)(d:i<m.crs.length)(b:dw m m.crs[i])(h:Hp):a_ (En G) 145 [.agg (C9 m),.n (i:Int)] h (.bool true):=by
 refine ACalls.pure0 rfl ?_;have a:=b.four;refine cn Tryz.func145 4 ?_;have e:decide ((i:Int)<0)=false:=BA;have g:decide ((i:Int)≥(m.crs.length:Int))=false:=by simp;omega
 simp only[vQ,EM,CP,V8,SY,↓reduceIte,jC,b_,UG,sQ,MN,LQ,er,e,EN nE,ZC,jI,g,CE d,BK MB d,U1];refine(vD G m.crs[i].pts m.crs[i].pm 230 _ _ _ U fun r=>Vp G m _ r _ (A8 _ _)).use ?_;refine A7 (AT9 b.here) ?_;exact⟨trivial,_,rfl⟩
theorem VE (m:Mo)(i:Nat)(R:i<m.crs.length)(I:dw m m.crs[i])(h:Hp):a_ (En G) 146 [.agg (C9 m),.n (i:Int)] h (.sl .any 1 ((szs m m.crs[i].pts).map KD)):=by
 have C:=I.four;have T:=I.two;have Q:=I.here
 have S:a_ (En G) 146 [.agg (C9 m),.n (i:Int)] h (.sl (nm (szs m m.crs[i].pts)) 1 ((szs m m.crs[i].pts).map KD)):=by
  refine JL w4 ?_;refine cn Tryz.func146 4 ?_;simp only[vQ,CP,XE,V8,↓reduceIte,jC,b_,UG,MN,UF,LQ,er,EN nE,ZC,CE R,BK MB R,U1,jI];refine BB (fun n F H=>∃k,n+k=m.crs[i].pts.length/\F 2=.ptr h.length 0 0/\F 13=.sl m.crs[i].pm 1 (m.crs[i].pts.map bu)/\F 14=.n m.crs[i].pts.length/\F 15=.n (k:Nat)/\H[h.length]?=some (qH 2 [C9 m])/\ext h H/\(∀b,db (F 5) b->h.length<b)/\bw 1 KD h (szs m (m.crs[i].pts.take k)) (F 5) H) m.crs[i].pts.length ⟨0,BA,AL,AL,AL,AL,A8 _ _,(ext.rfl' h).app _,fun b p=>p.elim,bw.nil _ _ _ _⟩ ?_;rintro n F H ⟨k,hk,O,f13,f14,f15,p,P,J,L⟩;refine AZ f14 f15 ?_;refine DV ?_ ?_<;>intro d
  .obtain⟨s,Z⟩:=Q.ld d H
   have N:(szs m (m.crs[i].pts.take k)).length<8388608:=by unfold szs;simp;omega
   obtain⟨v',V,X,M,g,B,hle,q⟩:=L.append dJ iz mr nA U N P (IV m m.crs[i].pts[k]).length;simp only[vQ,CP,↓reduceIte,jC,b_,QJ,J5,J8,aF,JW,O,f13,f15,CE d,BK ct d,cy,VC p,Q.ix d,Z,jI,od];refine KG (v:=v') (h:=V) (by rw[show [[AV.int .i64 ((IV m m.crs[i].pts[k]).length:Int)]]=[KD (IV m m.crs[i].pts[k]).length] from rfl,X]) ?_;refine AZ f15 (CZ k) ?_;refine⟨n-1,U,k+1,U,O,f13,f14,rfl,g _ _ p (fun e=>by have:=J _ e;omega),B,fun b A=>?_,?_⟩
   .have:=q b A;have:=AY p;omega
   .rw[DQ m m.crs[i].pts k d];exact M
  .rw[jK U] at L
   refine AB ?_;exact⟨P,L⟩
 have K:nm (szs m m.crs[i].pts)=SM.any:=by
  have:=KT m m.crs[i].pts
  cases Y:szs m m.crs[i].pts with
  | nil=>rw[Y] at this;simp at this;omega
  | cons a l=>rfl
 rw[K] at S;exact S
theorem lN (m:Mo)(i:Nat)(p:i<m.crs.length)(b:dw m m.crs[i])(B:Full m)(h:Hp):a_ (En G) 125 [.agg (C9 m),.n (i:Int)] h (.n (GN (szs m m.crs[i].pts))):=by
 refine ACalls.pure0 rfl ?_;have e:=b.four;have q:=B.szs b.here;have g:=KT m m.crs[i].pts;have K:∃x,h++[qH 2 [C9 m]]=h++x:=⟨_,rfl⟩;refine cn Tryz.func125 4 ?_;refine AZ @er (dk (A8 h (qH 2 [C9 m]))) ?_;refine(ZR G m i p b _).use ?_;refine A7 (dk (A8 h (qH 2 [C9 m]))) ?_;refine(VE G m i p b _).uu ?_
 generalize szs m m.crs[i].pts=l at q g|-
 have I:∀k,GN (l.take k)<=16777216:=fun k=>by
  have:=pM (l.take k) 4 (fun n C=>(q n (List.mem_of_mem_take C)).2) (by rw[jT];omega);simpa using this
 refine BB (fun n F H=>∃k,n+k=l.length/\F 5=.n (GN (l.take k))/\F 14=.sl .any 1 (l.map KD)/\F 15=.n l.length/\F 16=.n (k:Nat)/\H=h++[qH 2 [C9 m]]) l.length ⟨0,BA,AL,AL,AL,AL,rfl⟩ ?_;rintro n F H ⟨k,hk,d,f14,f15,f16,rfl⟩;refine AZ f15 f16 ?_;refine DV ?_ ?_<;>intro a
 .have A:=I (k+1)
  rw[QT l k a] at A
  have J:IntKind.i64.wrap ((GN (l.take k):Int)*(l[k]:Int))=((GN (l.take (k+1)):Nat):Int):=by
   rw[QT l k a,<-wU,ND U]
  refine LJ d f14 f16 a @sH J (CZ k) ?_;exact⟨n-1,U,k+1,U,rfl,trivial,f15,rfl,trivial⟩
 .rw[jK U] at d
  refine A7 d ?_;exact⟨trivial,K⟩
def eB:List Nat->List Int->Int->Int
 | n::ns,x::xs,z=>eB ns xs (IntKind.i64.wrap (IntKind.i64.wrap (z*(n:Int))+x))
 | _,_,z=>z
theorem fX (ns:List Nat)(z:Int):eB ns [] z=z:=by cases ns<;>rfl
theorem rD:∀ {ns:List Nat} {l:List Int},JZ ns l=true->∀(k:Nat) (hk:k<l.length) (a:k<ns.length),0<=l[k]/\l[k]<(ns[k]:Int)
 | n::ns,b::bs,h,k,hk,a=>by
   simp only[JZ,jY,decide_eq_true_eq] at h
   cases k with
   | zero=>exact h.1
   | succ k=>exact rD (ns:=ns) h.2 k (BQ hk) (BQ a)
 | [],b::bs,h,k,hk,a=>by simp at a
 | _,[],h,k,hk,a=>by simp at hk
theorem R6 (m:Mo)(i:Nat)(M:i<m.crs.length)(I:dw m m.crs[i])(l:List Int)(s:SM)(g:JZ (szs m m.crs[i].pts) l=true)(h:Hp):a_ (En G) 71 [.agg (C9 m),.n (i:Int),.sl s 1 (l.map bu)] h (.tup [.n (eB (szs m m.crs[i].pts) l 0),.bool true]):=by
 have C:=I.four;have K:=KT m m.crs[i].pts;have d:=QL g;refine ACalls.pure 2 (R:=fun v H=>v=.tup [.n (eB (szs m m.crs[i].pts) l 0),.bool true]/\∃x,H=h++x) ?_ (fun v h' ⟨e,x⟩=>⟨x,by subst e;rfl⟩);have Q:∃x,h++[qH 2 [C9 m]]=h++x:=⟨_,rfl⟩;refine e7 Tryz.func71 [.tmp 6,.tmp 7] ?_;refine AZ @er (dk (A8 h (qH 2 [C9 m]))) ?_;refine(ZR G m i M I _).use ?_;refine A7 (dk (A8 h (qH 2 [C9 m]))) ?_;refine(VE G m i M I _).use ?_
 generalize szs m m.crs[i].pts=ns at g K d|-
 have J:((l.length:Int) != (ns.length:Int))=false:=by rw[d];simp
 refine A7 J ?_;refine BB (fun n F H=>∃k,n+k=l.length/\F 8=.sl .any 1 (ns.map KD)/\(∃z,F 9=.n z/\eB ns l 0=eB (ns.drop k) (l.drop k) z)/\F 24=.sl s 1 (l.map bu)/\F 25=.n l.length/\F 26=.n (k:Nat)/\H=h++[qH 2 [C9 m]]) l.length ⟨0,BA,AL,⟨0,rfl,rfl⟩,AL,AL,AL,rfl⟩ ?_;rintro n F H ⟨k,hk,P,⟨z,L,A⟩,B,p,q,rfl⟩;refine AZ p q ?_;refine DV ?_ ?_<;>intro a
 .have b:k<ns.length:=U
  obtain⟨S,T⟩:=rD g k a b;have N:decide (l[k]<0)=false:=by simp;omega
  have O:decide (l[k]≥(ns[k]:Int))=false:=by simp;omega
  rw[zU a,zU b] at A;simp only[vQ,EM,CP,Y6,↓reduceIte,jC,b_,J8,P,L,B,q,CE a,BK ct a,cy,N,CE b,BK ct b,sH,O,CZ k];exact⟨n-1,U,k+1,U,trivial,⟨_,rfl,A⟩,trivial,p,rfl,trivial⟩
 .rw[jS (U:l.length<=k),fX] at A
  refine AZ L A ?_;exact⟨trivial,Q⟩
theorem BAC {a ys:List (List AV)}{s:SM}(e:H[o]?=some (qH 1 a))(i:a.length=n)(d:ys.length=n):qb jA H 32 (.own o 0 n) (.sl s 1 ys)=some (.n (n:Int),H.set o (qH 1 ys)):=by
 have b:eg a 0 ys=ys:=by
  unfold eg;rw[qA,zX,jS U,jL]
 have g:min (n:Int) (n:Int)=(n:Int):=U;unfold qb;simp only[dJ,iz,H6,e];rw[if_pos ⟨trivial,.inl trivial,U⟩];simp [d,b,jK (Nat.le_of_eq d)]
theorem xA {f:FuncId}{args:List AV}{ys:List Nat}{b:Bool}(hc:ACalls E f args h fun v H=>ext h H/\∃o,h.length<=o/\v=.tup [.own o 0 ys.length,.bool b]/\H[o]?=some (qH 1 (ys.map KD)))(hX:E.nox=E:=by rfl):
  a_ E f args h (.tup [.sl .any 1 (ys.map KD),.bool b]):=by
 refine ACalls.pure 3 hc ?_ hX;rintro v H ⟨hex,o,ho1,rfl,ho⟩;refine⟨hex,?_⟩;show AV.tup [FK h.length H 2 (.own o 0 ys.length),FK h.length H 2 (.bool b)]=_;rw[ew w4 ho1 ho];rfl
theorem RL (m:Mo)(i:Nat)(R:i<m.crs.length)(q:dw m m.crs[i])(Q:Full m)(K:Nat)(hK:K<GN (szs m m.crs[i].pts))(h:Hp):a_ (En G) 126 [.agg (C9 m),.n (i:Int),.n (K:Int)] h (.tup [.sl .any 1 ((TA (szs m m.crs[i].pts) K).map bu),.bool true]):=by
 have d:=q.prod;have S:=Q.szs q.here;have J:=KT m m.crs[i].pts;have I:=q.four;show a_ (En G) 126 _ h (.tup [.sl .any 1 (((dp (szs m m.crs[i].pts) K).1.map fun n:Nat=>(n:Int)).map bu),.bool true]);rw[<-zf];refine xA ?_;rw[QG];refine e7 Tryz.func126 [.tmp 6,.tmp 7] ?_;have T:decide ((K:Int)<0)=false:=BA;refine DC @er T (dk (A8 h (qH 2 [C9 m]))) ?_;refine(lN G m i R q Q _).use ?_;have L:decide ((K:Int)≥((GN (szs m m.crs[i].pts):Nat):Int))=false:=by simp;omega
 refine AZ L (dk (A8 h (qH 2 [C9 m]))) ?_;refine(VE G m i R q _).use ?_;clear L
 generalize szs m m.crs[i].pts=ns at S J hK d|-
 have b:h.length<=(h++[qH 2 [C9 m]]).length:=BA;have p:=Sm.ext.r1 h (qH 2 [C9 m])
 generalize h++[qH 2 [C9 m]]=H at b p|-
 have l:=BAC (s:=.any) (ys:=ns.map KD) (A8 H (qH 1 ((zD ns.length 0).map KD))) (n:=ns.length) BA BA;rw[nH] at l;refine DC @Lo (x5 H ns.length U) l ?_;rw[wrap_i64 (n:=(ns.length:Int)-1) U U];refine BB (fun n F C=>∃j,n=j/\j<=ns.length/\F 8=.sl .any 1 (ns.map KD)/\F 9=.own H.length 0 ns.length/\F 10=.n ((j:Int)-1)/\F 2=.n ((dp (ns.drop j) K).2:Nat)/\ext h C/\C[H.length]?=some (qH 1 ((ns.take j++(dp (ns.drop j) K).1).map KD))) ns.length ⟨ns.length,rfl,jF _,AL,AL,AL,by refine AB ?_;rw[jS (jF _)];rfl,p.app _,?_⟩ ?_
 .rw[jS (jF _),jK (jF _)]
  simp only[dp,jL];exact A8 _ _
 rintro n F C ⟨j,rfl,Z,X,N,f10,M,P,g⟩;refine A7 f10 ?_
 cases n with
 | zero =>
   have:decide ((((0:Nat):Int)-1)≥0)=false:=by decide
   refine AZ @this N ?_;rw[qA,zX,zI] at g;exact⟨P,H.length,b,rfl,g⟩
 | succ j =>
   have Y:decide ((j:Int)≥0)=true:=BA;have a:j<ns.length:=U;have O:=(S _ (jH a)).1;have V:(((j+1:Nat):Int)-1)=(j:Int):=U;have e:=iw (K:=K) a;have hle:=nG (ns.drop (j+1)) K;generalize hr:(dp (ns.drop (j+1)) K)=r at g M e hle
   have A:∃v,((ns.take (j+1)++r.1).map KD)[j]?=some [v]:=by
    refine⟨.n ns[j],?_⟩;rw[zB,qF NI,List.getElem?_take_of_lt U,jP a];rfl
   have B:=oU (f:=KD) (pre:=ns) (out:=r.1) (j:=j) (x:=r.2%ns[j]) a;simp only[vQ,CP,L9,↓reduceIte,jC,b_,J8,jQ,Y,M,X,N,f10,V,CE a,BK ct a,sH,GR g a,nJ _ _ O,nK _ _ O (U:r.2<=9223372036854775807),zq g A,B];refine⟨j,U,j,rfl,U,trivial,trivial,?_,?_,P.set b _,?_⟩
   .rw[wrap_i64 U U]
   .rw[e]
   .rw[e];exact CO g
theorem T_ (l:List Int)(s:SM)(b:Nat)(r:Is)(h:Hp)(a:h[b]?=some (qH 1 [[.sl s 1 (l.map bu)]]))(d:l.length<=1099511627776):
  a_ (En G) 215 [.sl r.m 1 (r.l.map bu),.ptr b 0 0] h (.bool (gr r.l l)):=by
 refine cn Tryz.func215 3 ?_;refine A7 (IA MB a) ?_;refine(sC G r.l l r.m s h d).uu ?_;exact H7
theorem dD (m:Mo)(i:Nat)(K:i<m.crs.length)(N:dw m m.crs[i])(l:List Int)(s:SM)(p:JZ (szs m m.crs[i].pts) l=true)(h:Hp):a_ (En G) 127 [.agg (C9 m),.n (i:Int),.sl s 1 (l.map bu)] h (.bool (!RS m m.crs[i] l)):=by
 refine ACalls.pure0 rfl ?_;have V:=N.here;have O:=N.four;have Y:=N.num;have X:l.length=m.crs[i].pts.length:=by have:=QL p;rw[KT] at this;omega
 refine cn Tryz.func127 6 ?_;have J:(h++[qH 2 [C9 m]]++[qH 1 [[.sl s 1 (l.map bu)]]])[h.length]?=some (qH 2 [C9 m]):=AU (A8 _ _);have I:=A8 (h++[qH 2 [C9 m]]) (qH 1 [[.sl s 1 (l.map bu)]]);have R:∃x,h++[qH 2 [C9 m]]++[qH 1 [[.sl s 1 (l.map bu)]]]=h++x:=⟨_,zA _ _ _⟩;refine AZ @tF @er ?_
 generalize h++[qH 2 [C9 m]]++[qH 1 [[.sl s 1 (l.map bu)]]]=H at J I R|-
 generalize (h++[qH 2 [C9 m]]).length=lb at I|-
 refine AZ (dk J) (IA MB I) ?_;refine(R6 G m i K N l s p _).use ?_;simp only[vQ,List.getElem?_cons_zero,List.getElem?_cons_succ,CP,iF,OV,VD,WX,↓reduceIte,jC,qL,b_,UG,MN,UF,LQ,ZM J,CE K,BK MB K,U1,jI];have P:=WH m m.crs[i].pts l;refine EG 0 (fun F d=>F 1=.n (i:Nat)/\F 3=.ptr h.length 0 0/\F 5=.ptr lb 0 0/\d=H/\OE m m.crs[i].pts l=true) (fun F d=>F 6=.bool true/\d=H/\OE m m.crs[i].pts l=false) ?_ ?_ ?_
 .refine BB (fun n F d=>∃k,n+k=l.length/\F 1=.n (i:Nat)/\F 3=.ptr h.length 0 0/\F 5=.ptr lb 0 0/\F 25=.sl m.crs[i].pm 1 (m.crs[i].pts.map bu)/\F 26=.n m.crs[i].pts.length/\F 27=.n (k:Nat)/\d=H/\OE m m.crs[i].pts l=OE m (m.crs[i].pts.drop k) (l.drop k)) l.length ⟨0,BA,FB,FB,FB,FB,FB,FB,rfl,rfl⟩ ?_
  rintro n F d ⟨k,hk,M,B,C,q,A,e,rfl,g⟩;refine AZ A e ?_;refine DV (fun a=>?_) (fun b=>?_)
  .have b:k<l.length:=U
   rw[P k a b] at g;obtain⟨S,T⟩:=YT p k b a;obtain⟨s2,ls⟩:=V.ld a d;have Q:l[k].toNat<(IV m m.crs[i].pts[k]).length:=U;simp only[vQ,CP,↓reduceIte,jC,b_,J8,q,e,CE a,BK ct a,cy];refine DI BC ?_;simp only[vQ,↓reduceIte,jC,jO,b_,QJ,J5,J8,XB,JW,UX,bne,B,C,e,VC J,V.ix a,ls,IA MB I,CE b,BK ct b,cy,u3 S T,BK ct Q,SV,gZ S T];cases L:(aH m m.crs[i].pts[k] l[k]==0)
   .refine AB ?_
    exact⟨trivial,trivial,by rw[g,L];rfl⟩
   .refine AZ e (CZ k) ?_
    exact⟨n-1,U,k+1,U,M,B,C,q,A,rfl,trivial,by rw[g,L];rfl⟩
  .refine AB ?_
   exact⟨M,B,C,trivial,by rw[g,jS (U:l.length<=k),YS]⟩
 .rintro F d ⟨M,B,C,rfl,hk⟩
  simp only[vQ,VY,CP,SY,↓reduceIte,jC,b_,UG,MN,eF,M,B,C,ZM J,CE K,BK XF K,rV];refine(VX G m.crs[i].excl m.crs[i].xm 215 _ (fun x=>gr x.l l) _ U fun r=>T_ G l s _ r _ I U).uu ?_;exact⟨by unfold RS;rw[hk];simp,R⟩
 .rintro F d ⟨Z,rfl,hk⟩
  refine A7 Z ?_;exact⟨by unfold RS;rw[hk];rfl,R⟩
end Cov
end Go.Proofs.YtiihpnicbekebaaGreatDoor
