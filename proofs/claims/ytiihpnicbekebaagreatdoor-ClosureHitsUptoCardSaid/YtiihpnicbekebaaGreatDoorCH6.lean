/- Part 6 of the proof (J6, S5, J7, O37, O46, O47, O48, O49); no condition. -/
import Derived.Test.YtiihpnicbekebaaGreatDoorCH5
set_option linter.unusedVariables false
set_option linter.unusedSimpArgs false
set_option maxRecDepth 8000
set_option maxHeartbeats 4000000
open Go.Proofs.YtiihpnicbekebaaGreatDoor.Sm.ABlk renaming live→yK
open Bool renaming and_eq_true→jO,not_false→jE,true_and→wG
open Go.Proofs.Tryz renaming prog→jA
open Int renaming toNat_natCast→qG
open List renaming all_cons→wK,all_eq_true→zL,eq_nil_of_length_eq_zero→qX,getD_eq_getElem?_getD→zF,getElem?_eq_getElem→jG,getElem?_map→jV,getElem?_set_ne→jY,getElem_mem→jI,length_map→jM,map_cons→jK,map_nil→jL,mem_append→zI,mem_cons_of_mem→yF,mem_map→zH,mem_singleton→qP,replicate→jR,take_of_length_le→jJ
open Nat renaming le_of_ble_eq_true→jB,le_refl→jF,lt_or_ge→jW,reduceEqDiff→jC
open Option renaming getD_none→jQ,getD_some→jD
namespace Go.Proofs.YtiihpnicbekebaaGreatDoor.Bd.Cl
open Sm Bins Cov Xe Wd Bl Ho Go.RowKit
variable {H:Hp} {b:Nat} {r:List AV}
theorem A42 {op n:Int}{s:ByteArray}{m:SM}{l:List (List AV)}(g:H[b]?=some (yK 4 [[.n op,.n n,.str s,.sl m 4 l]])){o k:Nat}:
  DT jA H 23 (.ptr b 0 3) (.own o 0 k)=some (H.set b (yK 4 [[.n op,.n n,.str s,.own o 0 k]])):=by
 rw[IU (cs:=[.own o 0 k]) rfl (A7:szO jA 23=some 1) g AZ]; rfl
section
variable (G:Nat->AV)
theorem AE6 (vs:List Vr)(m:SM)(hl:vs.length<=1048576)(hv:∀v∈vs,FT v.name=true)(a:ByteArray)(ha:a.size<=1048576)(i:Ex)(hw:wt i<=1048576)(hi:i.op=1->0<=i.n)(h:Hp):PCall (En G) 256 [.agg [.sl m 4 (vs.map encV)],.str a,.agg (AX i)] h (.agg (AX (ZT cpE a i (szA vs a)))):=by
 have hsz:=lX vs a;refine ACalls.pure (R:=fun v H=>v=.agg (AX (ZT cpE a i (szA vs a)))∧Sm.ext h H) 3 ?_ (fun v H ⟨a,b⟩=>⟨b,by rw[a]; exact RD _ _ 0 _⟩);refine acL Tryz.func256 [.cell 6 79] ?_;have gs:isS (h++[yK 1 [[.sl m 4 (vs.map encV)]]]++[yK 4 [AX i]]++[yK 4 [ET]]) h.length m vs:=AB (AB (AQ _ _));have ge:=AB (x:=yK 4 [ET]) (AQ (h++[yK 1 [[.sl m 4 (vs.map encV)]]]) (yK 4 [AX i]));have gr:=AQ (h++[yK 1 [[.sl m 4 (vs.map encV)]]]++[yK 4 [AX i]]) (yK 4 [ET]);have hx:Sm.ext h (h++[yK 1 [[.sl m 4 (vs.map encV)]]]++[yK 4 [AX i]]++[yK 4 [ET]]):=(((ext.rfl' h).app _).app _).app _;have e1:(h++[yK 1 [[.sl m 4 (vs.map encV)]]]).length=h.length+1:=AZ;have e2:(h++[yK 1 [[.sl m 4 (vs.map encV)]]]++[yK 4 [AX i]]).length=h.length+2:=AZ;refine EM @bxS @bxE RJ z4 ?_
 rw[e1] at ge|-
 rw[e2] at gr|-
 generalize h++[yK 1 [[.sl m 4 (vs.map encV)]]]++[yK 4 [AX i]]++[yK 4 [ET]]=H1 at gs ge gr hx|-
 clear e1 e2;refine AY (isS.ld gs) ?_;refine(size_prog G vs m hl hv a ha H1).use ?_;refine AY (AON ge) ?_;cases b1:(i.op==1)
 case true =>
  have ho:i.op=1:=BG b1;have h0:=hi ho;refine A8 b1 (exN ge) ?_;cases b2:decide (i.n<((szA vs a:Nat):Int))
  .have q:=of_decide_eq_false b2
   refine AY b2 ?_;refine(X6 G 0 H1).use ?_;refine AY (QW (e:=cE 0) gr rfl) ?_;rw[JH (b:=h.length+2) EK (PI (CP gr))];exact⟨by unfold ZT; rw[if_pos ho,if_neg q],hx.set U _⟩
  .have q:=of_decide_eq_true b2
   obtain⟨k,hk⟩:=Int.eq_ofNat_of_zero_le h0;have hv2:=QL G a k U ha H1;rw[<-hk] at hv2;refine A8 b2 (exN ge) ?_;refine hv2.use ?_;refine AY (QW (e:=vaE a k) gr rfl) ?_;rw[JH (b:=h.length+2) EK (PI (CP gr))];exact⟨by unfold ZT; rw[if_pos ho,if_pos q,hk,Int.toNat_natCast],hx.set U _⟩
 have o1:¬i.op=1:=BG b1;refine AY b1 ?_;refine(X6 G 0 H1).use ?_;have gs:=AB (x:=yK 4 [AX (cE 0)]) gs;have ge:=AB (x:=yK 4 [AX (cE 0)]) ge;have lr:=Z gr;have gr:=AB (x:=yK 4 [AX (cE 0)]) gr;have go:=AQ H1 (yK 4 [AX (cE 0)]);have hx:=hx.app [yK 4 [AX (cE 0)]];have w1:IntKind.i64.wrap (((szA vs a:Nat):Int)-1)=((szA vs a:Nat):Int)-1:=wrap_i64 U U;refine DL al79 st79 w1 ?_
 generalize H1++[yK 4 [AX (cE 0)]]=H2 at gs ge gr go hx|-
 generalize H1.length=ob at go lr|-
 refine ER 0 (fun F H=>F 6=.ptr (h.length+2) 0 0∧F 8=.ptr ob 0 0∧H[h.length+2]?=some (yK 4 [ET])∧H[ob]?=some (yK 4 [AX (chK cpE a i (szA vs a) (szA vs a))])∧Sm.ext h H) (fun _ _=>False) ?_ ?_ (fun _ _ q=>q.elim)
 .refine BJ (fun n F H=>∃j,n+j=szA vs a∧F 1=.str a∧F 5=.ptr (h.length+1) 0 0∧F 6=.ptr (h.length+2) 0 0∧F 8=.ptr ob 0 0∧F 9=.n (((szA vs a:Nat):Int)-1-(j:Nat))∧H[h.length+1]?=some (yK 4 [AX i])∧H[h.length+2]?=some (yK 4 [ET])∧H[ob]?=some (yK 4 [AX (chK cpE a i (szA vs a) j)])∧Sm.ext h H) (szA vs a)
   ⟨0,U,EK,EK,EK,EK,by simp only[AU,↓reduceIte]; simp,ge,gr,go,hx⟩ ?_
  clear gs ge gr go hx;rintro n F H ⟨j,hj,f1,f5,f6,f8,f9,ge,gr,go,hx⟩;refine AY f9 ?_;refine BM ?_ ?_<;>intro hc
  .have hc:j<szA vs a:=by have:=of_decide_eq_true hc; omega
   have ek:((szA vs a:Nat):Int)-1-(j:Nat)=((szA vs a-1-j:Nat):Int):=U;have w2:IntKind.i64.wrap (((szA vs a-1-j:Nat):Int)-1)=((szA vs a:Nat):Int)-1-((j+1:Nat):Int):=by rw[wrap_i64 U U]; omega
   rw[ek] at f9;have s2:=QW (e:=chK cpE a i (szA vs a) (j+1)) go (EC _);refine AA ?_;refine DZ A7 ?_;refine NY f1 f5 f8 f9 (IM ge) (PI go) ?_;refine⟨_,AE2 G (wt i) i H (jF _) hw,?_⟩
   try refine EM f1 f8 f9 (PI go) ?_
   refine⟨_,X6 G _ H,?_⟩
   try refine JG @gR f1 f8 f9 (PI go) ?_
   refine⟨_,fF G 15 .full [cpE i,cE ((szA vs a-1-j:Nat):Int)] H,?_⟩
   try refine EM f1 f8 f9 (PI go) ?_
   refine⟨_,QL G a (szA vs a-1-j) U ha H,?_⟩
   try refine JG bs3 f1 f8 f9 (PI go) ?_
   refine⟨_,fF G 22 .full [.mk 15 0 ⟨#[]⟩ .full [cpE i,cE ((szA vs a-1-j:Nat):Int)],vaE a (szA vs a-1-j),chK cpE a i (szA vs a) j] H,?_⟩;change DT jA H 79 (.ptr ob 0 0) (.agg (AX (.mk 22 0 ⟨#[]⟩ .full [.mk 15 0 ⟨#[]⟩ .full [cpE i,cE ((szA vs a-1-j:Nat):Int)],vaE a (szA vs a-1-j),chK cpE a i (szA vs a) j])))=_ at s2;refine EM f8 s2 f9 w2 ?_;exact⟨n-1,U,j+1,U,AC,AC,AC,AC,AC,by rw[jY U]; exact ge,by rw[jY U]; exact gr,CP go,hx.set U _⟩
  .have hc:¬j<szA vs a:=fun q=>by rw[decide_eq_true U] at hc; cases hc
   have e:j=szA vs a:=U;rw[e] at go;refine AA ?_;exact⟨AC,AC,gr,go,hx⟩
 rintro F H ⟨f6,f8,gr,go,hx⟩;simp only[vQ,YN,CG,↓reduceIte,jC,enP,jQ,f6,f8,PI go,QW gr rfl];rw[JH (b:=h.length+2) (LX f6) (PI (CP gr))];exact⟨by unfold ZT; rw[if_neg o1],hx.set U _⟩
theorem ANO (vs:List Vr)(m:SM)(hl:vs.length<=1048576)(hv:∀v∈vs,FT v.name=true)(e:Ex):NdOk e->OQ vs e=false->(H6 vs e).1<=400->∀h:Hp,PCall (En G) 177 [.agg [.sl m 4 (vs.map encV)],.agg (AX e)] h (.agg (AX (GI sdP vs e))):=by
 induction e using Ex.induct with|h e ih=>?_
 intro hn hu hsm h;have hnm:=hn.name;have hal:=hn.len;refine ACalls.pure (R:=fun v H=>Sm.ext h H∧EZ h.length H 4 v=.agg (AX (GI sdP vs e))) 4 ?_ (fun v H ⟨a,b⟩=>⟨a,b⟩);refine acL Tryz.func177 [.cell 4 79] ?_;have hscl:=WB sdP vs e;unfold scF at hscl;have gs:isS (h++[yK 1 [[.sl m 4 (vs.map encV)]]]++[yK 4 [AX e]]++[yK 4 [ET]]) h.length m vs:=AB (AB (AQ _ _));have ge:=AB (x:=yK 4 [ET]) (AQ (h++[yK 1 [[.sl m 4 (vs.map encV)]]]) (yK 4 [AX e]));have gr:=AQ (h++[yK 1 [[.sl m 4 (vs.map encV)]]]++[yK 4 [AX e]]) (yK 4 [ET]);have hx:Sm.ext h (h++[yK 1 [[.sl m 4 (vs.map encV)]]]++[yK 4 [AX e]]++[yK 4 [ET]]):=(((ext.rfl' h).app _).app _).app _;have e1:(h++[yK 1 [[.sl m 4 (vs.map encV)]]]).length=h.length+1:=AZ;have e2:(h++[yK 1 [[.sl m 4 (vs.map encV)]]]++[yK 4 [AX e]]).length=h.length+2:=AZ;refine EM @bxS @bxE RJ z4 ?_
 rw[e1] at ge|-
 rw[e2] at gr|-
 generalize h++[yK 1 [[.sl m 4 (vs.map encV)]]]++[yK 4 [AX e]]++[yK 4 [ET]]=H1 at gs ge gr hx|-
 clear e1 e2;refine AY (AON ge) ?_;cases b24:(e.op==24)
 case true =>
  have ho:e.op=24:=BG b24;rw[if_pos ho] at hscl;refine DL b24 (isS.ld gs) (bL ge) ?_;refine(AQG G vs m hl hv e.name U (V6 hu (.inr ho)) H1).use ?_;refine AY (QW (e:=V9 e.name (szA vs e.name-1)) gr rfl) ?_;rw[JH (b:=h.length+2) AL (PI (CP gr))];exact⟨hx.set U _,by rw[hscl]; exact RD _ _ 1 _⟩
 have o24:¬e.op=24:=BG b24;rw[if_neg o24] at hscl;have lr:=Z gr;refine DL b24 (U3 ge) (A5S H1 e.args.length U) ?_;have ho:kO h ((e.args.map (GI sdP vs)).take 0) (.own H1.length 0 0) (H1++[yK 4 (jR e.args.length ET)]):=⟨H1.length,jR e.args.length ET,hx.le,rfl,AZ⟩;have gs:=AB (x:=yK 4 (jR e.args.length ET)) gs;have ge:=AB (x:=yK 4 (jR e.args.length ET)) ge;have gr:=AB (x:=yK 4 (jR e.args.length ET)) gr;have hx:=hx.app [yK 4 (jR e.args.length ET)];have hb0:∀b,isB (.own H1.length 0 0) b->h.length+2<b:=fun b hb=>by cases hb; omega
 generalize H1++[yK 4 (jR e.args.length ET)]=H2 at gs ge gr hx ho|-
 refine AY (U3 ge) ?_;generalize AV.own H1.length 0 0=v0 at ho hb0;have hsl:(e.args.map (GI sdP vs)).length=e.args.length:=List.length_map _;refine ER 0 (fun F H=>∃v,F 2=.ptr h.length 0 0∧F 3=.ptr (h.length+1) 0 0∧F 4=.ptr (h.length+2) 0 0∧F 5=v∧isS H h.length m vs∧H[h.length+1]?=some (yK 4 [AX e])∧H[h.length+2]?=some (yK 4 [ET])∧Sm.ext h H∧kO h (e.args.map (GI sdP vs)) v H∧∀b,isB v b->h.length+2<b) (fun _ _=>False) ?_ ?_ (fun _ _ q=>q.elim)
 .refine BJ (fun n F H=>∃j v,n+j=e.args.length∧F 2=.ptr h.length 0 0∧F 3=.ptr (h.length+1) 0 0∧F 4=.ptr (h.length+2) 0 0∧F 5=v∧F 20=.sl e.m 4 (e.args.map AX)∧F 21=.n (e.args.length:Nat)∧F 22=.n (j:Nat)∧isS H h.length m vs∧H[h.length+1]?=some (yK 4 [AX e])∧H[h.length+2]?=some (yK 4 [ET])∧Sm.ext h H∧kO h ((e.args.map (GI sdP vs)).take j) v H∧∀b,isB v b->h.length+2<b) e.args.length
   ⟨0,v0,AZ,AL,AL,AL,AL,AL,AL,AL,gs,ge,gr,hx,ho,hb0⟩ ?_
  clear gs ge gr hx ho hb0;rintro n F H ⟨j,v,hj,f2,f3,f4,f5,f20,f21,f22,gs,ge,gr,hx,ho,hb0⟩;refine A8 f21 f22 ?_;refine D8 ?_ ?_<;>intro hj'
  .have hmem:e.args[j]∈e.args:=List.getElem_mem hj'
   have ga:=AQ H (yK 4 [AX e.args[j]]);have gs:=AB (x:=yK 4 [AX e.args[j]]) gs;have ge:=AB (x:=yK 4 [AX e.args[j]]) ge;have gr:=AB (x:=yK 4 [AX e.args[j]]) gr;have hx:=hx.app [yK 4 [AX e.args[j]]]
   have ho:kO h ((e.args.map (GI sdP vs)).take j) v (H++[yK 4 [AX e.args[j]]]):=by
    obtain⟨o,tail,q1,q2,q3⟩:=ho;exact⟨o,tail,q1,q2,AB q3⟩
   simp only[vQ,CG,↓reduceIte,jC,enP,PQ,jQ,f20,f22,CX hj',DC O1 JB EC hj',al79,st79]
   generalize H++[yK 4 [AX e.args[j]]]=H3 at gs ge gr hx ga ho|-
   refine EM f2 f5 (isS.ld gs) (IM ga) ?_;refine(ih e.args[j] hmem (hn.arg hmem) (QM hu hmem) (yY hn hu hsm hmem) H3).use ?_;obtain⟨v',H',a1,a2,a3,a4,a5⟩:=AC2 ho hx (by rw[List.length_take]; omega) (GI sdP vs e.args[j]);have hit:j<(e.args.map (GI sdP vs)).length:=U;have hget:(e.args.map (GI sdP vs))[j]=GI sdP vs e.args[j]:=AZ;rw[<-hget,<-List.take_succ_eq_append_getElem hit] at a2;have lr3:=Z gr;refine EM @uO a1 f22 (CZ j) ?_;refine⟨n-1,U,j+1,v',U,AC,AC,AC,AC,AC,AC,AC,a4 _ _ gs (fun q=>?_),a4 _ _ ge (fun q=>?_),a4 _ _ gr (fun q=>?_),a3,a2,fun b hb=>?_⟩
   .have:=hb0 _ q; omega
   .have:=hb0 _ q; omega
   .have:=hb0 _ q; omega
   .have:=a5 b hb; omega
  .rw[jJ U] at ho
   refine AA ?_;exact⟨v,AC,AC,AC,AC,gs,ge,gr,hx,ho,hb0⟩
 clear gs ge gr hx ho hb0;rintro F H ⟨v,f2,f3,f4,f5,gs,ge,gr,hx,ho,hb0⟩;obtain⟨o,tail,q1,rfl,q3⟩:=ho;have hbo:=hb0 o rfl;refine A8 f3 (AON ge) ?_;cases b3:(e.op==3)
 case true =>
  have o3:e.op=3:=BG b3;rw[if_pos o3] at hscl;obtain⟨b,hb⟩:=VR hn.self o3;have hm:b∈e.args:=by rw[hb]; simp
  have hargs:e.args.map (GI sdP vs)=[GI sdP vs b]:=by rw[hb]; rfl
  rw[hargs] at hscl q3;have hw:=AQP AJV (hn.arg hm) (QM hu hm) (yY hn hu hsm hm);obtain⟨c1,c2⟩:=eU (s:=sdP) (hn.arg hm) (QM hu hm);have hlen:(e.args.map (GI sdP vs)).length=1:=by rw[hargs]; rfl
  rw[hlen] at f5;have ix0:IG 4 H (.own o 0 1) (.n 0)=some (.ptr o 0 0):=GM q3 (show 0<1 from Nat.one_pos)
  have ld0:BH jA H 79 (.ptr o 0 0)=some (.agg (AX (GI sdP vs b))):=by
   rw[EF O1 JB q3 (row:=AX (GI sdP vs b)) rfl (by rw[EC]; exact jF 4),List.drop_zero,jJ (by rw[EC]; exact jF 4)]
  refine AY b3 ?_;refine DZ A7 ?_;refine TW f2 f3 f4 f5 (isS.ld gs) (bL ge) ix0 ld0 ?_;refine⟨_,AE6 G vs m hl hv e.name U (GI sdP vs b) U (fun q=>by rw[c2 (c1.1 q)]; exact c1.1 q) H,?_⟩;refine A8 f4 (QW (e:=ZT cpE e.name (GI sdP vs b) (szA vs e.name)) gr rfl) ?_;rw[JH (b:=h.length+2) (EE f4) (PI (CP gr))];exact⟨hx.set U _,by rw[hscl]; exact RD _ _ 1 _⟩
 have o3:¬e.op=3:=BG b3;rw[if_neg o3] at hscl;generalize hys:e.args.map (GI sdP vs)=ys at *;have ge2:=ge;rw[FB] at ge2;have hst:=A42 ge2 (o:=o) (k:=ys.length);have g1':(H.set (h.length+1) (yK 4 [[.n e.op,.n e.n,.str e.name,.own o 0 ys.length]]))[h.length+1]?=some (yK 4 [[.n e.op,.n e.n,.str e.name,.own o 0 ys.length]]):=CP ge2;have g2':(H.set (h.length+1) (yK 4 [[.n e.op,.n e.n,.str e.name,.own o 0 ys.length]]))[h.length+2]?=some (yK 4 [ET]):=by rw[jY U]; exact gr
 have q3':(H.set (h.length+1) (yK 4 [[.n e.op,.n e.n,.str e.name,.own o 0 ys.length]]))[o]?=some (yK 4 (ys.map AX++tail)):=by rw[jY U]; exact q3
 have hx':=hx.set (b:=h.length+1) U (yK 4 [[.n e.op,.n e.n,.str e.name,.own o 0 ys.length]]);refine JG b3 f3 f4 f5 hst ?_
 generalize H.set (h.length+1) (yK 4 [[.n e.op,.n e.n,.str e.name,.own o 0 ys.length]])=H3 at g1' g2' q3' hx'|-
 have hlf4:([.n e.op,.n e.n,.str e.name,.own o 0 ys.length]:List AV).all AV.leaf=true:=rfl;refine EM f3 f4 (KY g1' rfl) (WZ g2' rfl rfl hlf4) ?_;rw[JH (b:=h.length+2) (EE f4) (KY (CP g2') rfl)];refine⟨hx'.set U _,?_⟩;have ho4:kO h ys (.own o 0 ys.length) (H3.set (h.length+2) (yK 4 [[.n e.op,.n e.n,.str e.name,.own o 0 ys.length]])):=⟨o,tail,q1,rfl,by rw[jY U]; exact q3'⟩;have hz:=AC1 ho4 1;show AV.agg [.n e.op,.n e.n,.str e.name,EZ h.length _ 3 (.own o 0 ys.length)]=_;rw[hz,hscl,FB]; rfl
theorem A76 (h:Hp):GU jA h 233=some (.ptr h.length 0 0,h++[yK 1 [[.sl .nil 0 []]]]):=FI (row:=[.sl .nil 0 []]) A7
theorem A7X (m:SM)(xs:List (List AV)):IY jA 233 [(0,.sl m 4 xs)]=some (.agg [.sl m 4 xs]):=A7
theorem A44 (h:Hp)(m:SM)(vs:List Vr):DT jA (h++[yK 1 [[.sl .nil 0 []]]]) 233 (.ptr h.length 0 0) (.agg [.sl m 4 (vs.map encV)])=some (h++[yK 1 [[.sl m 4 (vs.map encV)]]]):=by
 rw[IU (cs:=[.sl m 4 (vs.map encV)]) (row:=[.sl .nil 0 []]) rfl A0S (AQ _ _) (jF 1),JZ]; rfl
theorem bdZ:IY jA 79 []=some (.agg ET):=A7
theorem stZ (g:H[b]?=some (yK 4 [ET])):DT jA H 79 (.ptr b 0 0) (.agg ET)=some (H.set b (yK 4 [ET])):=WZ g rfl rfl rfl
theorem SB {p:Pr}(hb:H[b]?=some (yK 5 [CW p])):BH jA H 27 (.ptr b 0 0)=some (.agg (CW p)):=by rw[EF pQ kH hb (row:=CW p) rfl (by rw[OE]; exact jF 5)]; rfl
theorem A5E {p:Pr}(P:PV p):∀v∈p.vars,FT v.name=true:=fun v hv=>(SN (P.vr v hv)).1
theorem AQQ {s:Bw}{vs:List Vr}{e:Ex}(h:scC vs e=0):scV s vs e=.tup [.agg (AX (GI s vs e)),.n 0]:=by unfold scV; rw[if_pos h,h]
theorem AGS {s:Bw}{vs:List Vr}{e:Ex}{z:Int}(h:scC vs e=z)(hz:z≠0):scV s vs e=.tup [.agg ET,.n z]:=by unfold scV; rw[if_neg (by rw[h]; exact hz),h]
theorem AWI (s:Bw)(vs:List Vr)(e:Ex)(n:Nat)(H:Hp):EZ n H 4 (scV s vs e)=scV s vs e:=by
 unfold scV;split
 .show AV.tup [EZ n H 3 (.agg (AX _)),.n _]=_
  rw[RD n H 0]
 .rfl
theorem AF3 (hG:GOk G)(p:Pr)(hs:PrS p)(hv:IJ p=0)(e:Ex)(he:exE e=0)(h:Hp):PCall (En G) 97 [.agg (CW p),.agg (AX e)] h (scV sdP p.vars e):=by
 have P:=PV.of hv;have hn:=NdOk.of he;have hvb:=A5E P;have hvl:=hs.vars;have hw:=ATI he;refine ACalls.pure (R:=fun v H=>v=scV sdP p.vars e∧Sm.ext h H) 4 ?_ (fun v H ⟨a,b⟩=>⟨b,by rw[a]; exact AWI _ _ _ _ _⟩);refine acL Tryz.func97 [.cell 4 79,.tmp 5] ?_;have gp:=AB (x:=yK 4 [ET]) (AB (x:=yK 4 [AX e]) (AQ h (yK 5 [CW p])));have ge:=AB (x:=yK 4 [ET]) (AQ (h++[yK 5 [CW p]]) (yK 4 [AX e]));have gr:=AQ (h++[yK 5 [CW p]]++[yK 4 [AX e]]) (yK 4 [ET]);have hx:Sm.ext h (h++[yK 5 [CW p]]++[yK 4 [AX e]]++[yK 4 [ET]]):=(((ext.rfl' h).app _).app _).app _;have e1:(h++[yK 5 [CW p]]).length=h.length+1:=AZ;have e2:(h++[yK 5 [CW p]]++[yK 4 [AX e]]).length=h.length+2:=AZ;refine EM @QA @bxE RJ z4 ?_
 rw[e1] at ge|-
 rw[e2] at gr|-
 generalize h++[yK 5 [CW p]]++[yK 4 [AX e]]++[yK 4 [ET]]=H1 at gp ge gr hx|-
 clear e1 e2;refine AY (SB gp) ?_;refine(Bd.valid_prog G hG p hs H1).use ?_;refine A8 (show(IJ p != 0)=false by rw[hv]; rfl) (IM ge) ?_;refine(OC G hG e H1 U).use ?_;have lr:=Z gr;refine JG (show(exE e != 0)=false by rw[he]; rfl) (rN gp) A7X A76 A44 ?_;have gs:isS (H1++[yK 1 [[.sl p.vm 4 (p.vars.map encV)]]]) H1.length p.vm p.vars:=AQ _ _;have ge:=AB (x:=yK 1 [[.sl p.vm 4 (p.vars.map encV)]]) ge;have gr:=AB (x:=yK 1 [[.sl p.vm 4 (p.vars.map encV)]]) gr;have hx:=hx.app [yK 1 [[.sl p.vm 4 (p.vars.map encV)]]]
 generalize H1++[yK 1 [[.sl p.vm 4 (p.vars.map encV)]]]=H2 at gs ge gr hx|-
 generalize H1.length=sb at gs lr|-
 have bad:∀(z:Int) (F:Fr),scC p.vars e=z->z≠0->F 4=.ptr (h.length+2) 0 0->F 5=.n z->MJ jA [.cell 4 79,.tmp 5] (fun v H=>v=scV sdP p.vars e∧Sm.ext h H) .ret F (H2.set (h.length+2) (yK 4 [ET])):=fun z F q1 q2 f4 f5=>by
  rw[ZG (ba:=h.length+2) f4 (KY (CP gr) rfl),f5];exact⟨by rw[AGS q1 q2],hx.set U _⟩
 refine A8 (isS.ld gs) (IM ge) ?_;refine(ASC G p.vars p.vm hvl hvb e hn H2).use ?_;cases bu:OQ p.vars e
 case true =>
  refine A8 @bdZ (stZ gr) ?_;exact bad 7 _ (by unfold scC; rw[if_pos bu]) DF EK EK
 have hc1:scC p.vars e=if 400<(H6 p.vars e).1 then 2 else exE (GI sdP p.vars e):=by unfold scC; rw[if_neg (by rw[bu]; decide)]
 refine A8 (isS.ld gs) (IM ge) ?_;refine(AOM G p.vars p.vm hvl hvb e hn bu H2).use ?_;have fx:pT jA 235 (.agg (exR (H6 p.vars e))) 0=some (.n ((H6 p.vars e).1:Nat)):=A7;refine A8 @AVY fx ?_;cases bx:decide ((((H6 p.vars e).1:Nat):Int)>400)
 case true =>
  have q:=of_decide_eq_true bx;refine DL bx @bdZ (stZ gr) ?_;exact bad 2 _ (by rw[hc1,if_pos U]) DF EK EK
 have q:=of_decide_eq_false bx;rw[if_neg U] at hc1;have hx400:(H6 p.vars e).1<=400:=U;refine DL bx (isS.ld gs) (IM ge) ?_;refine(ANO G p.vars p.vm hvl hvb e hn bu hx400 H2).use ?_;have hwo:=AQP AJV hn bu hx400;have go:=AQ H2 (yK 4 [AX (GI sdP p.vars e)]);have gr':=AB (x:=yK 4 [AX (GI sdP p.vars e)]) gr;have hx':=hx.app [yK 4 [AX (GI sdP p.vars e)]];refine A8 al79 st79 ?_
 generalize H2++[yK 4 [AX (GI sdP p.vars e)]]=H3 at go gr' hx'|-
 refine AY (PI go) ?_;refine(OC G hG (GI sdP p.vars e) H3 U).use ?_;cases bz:(exE (GI sdP p.vars e) != 0)
 case true =>
  have qz:exE (GI sdP p.vars e)≠0:=BG bz;refine DL bz @bdZ (stZ gr') ?_;rw[ZG (ba:=h.length+2) EK (KY (CP gr') rfl)];refine AA ?_;exact⟨by rw[AGS hc1 qz],hx'.set U _⟩
 have qz:exE (GI sdP p.vars e)=0:=BG bz;simp only[vQ,CG,↓reduceIte,jC,enP,jQ,bz,PI go,QW gr' rfl];rw[ZG (ba:=h.length+2) EK (PI (CP gr'))];refine AA ?_;exact⟨by rw[AQQ (hc1.trans qz)],hx'.set U _⟩
end
theorem A18 {a b a' b':List AV}(h1:CvRow a a')(h2:CvRow b b'):Cv (.sl .full 4 [a,b]) (.sl .full 4 [a',b']):=Cv.rows rfl fun i r r' p q=>by
 match i,p,q with
 | 0,p,q=>cases p; cases q; exact h1
 | 1,p,q=>cases p; cases q; exact h2
def R4 (r:List AV):Prop:=∃a n s m k xs,r=[.n a,.n n,.str s,.sl m k xs]
theorem R4.enc (e:Ex):R4 (AX e):=⟨_,_,_,_,_,_,FB e⟩
theorem R4.len (h:R4 r):r.length=4:=by obtain⟨_,_,_,_,_,_,rfl⟩:=h; rfl
theorem R4.leaf {r:List AV}(h:R4 r):r.all AV.leaf=true:=by obtain⟨_,_,_,_,_,_,rfl⟩:=h; rfl
theorem BAG (h:Hp){s:List AV}(hr:R4 r)(hs:R4 s):C9 jA false h 23 2 [(0,.agg r),(1,.agg s)]=some (.sl .full 4 [r,s],h):=by
 obtain⟨_,_,_,_,_,_,rfl⟩:=hr;obtain⟨_,_,_,_,_,_,rfl⟩:=hs
 kernel_rfl
abbrev isW (i:Ex)(k:Nat):List AV:=[.n 15,.n 0,.str ⟨#[]⟩,.sl .full 4 [AX i,pA 1 (k:Nat)]]
def chW (a:ByteArray)(i:Ex)(n:Nat):Nat->List AV
 | 0=>pA 1 0
 | j+1=>[.n 22,.n 0,.str ⟨#[]⟩,.sl .full 4 [isW i (n-1-j),AX (vaE a (n-1-j)),chW a i n j]]
theorem R4.is (i:Ex)(k:Nat):R4 (isW i k):=⟨_,_,_,_,_,_,rfl⟩
theorem R4.ch (a:ByteArray)(i:Ex)(n:Nat):∀j,R4 (chW a i n j)
 | 0=>⟨_,_,_,_,_,_,rfl⟩
 | _+1=>⟨_,_,_,_,_,_,rfl⟩
theorem AQH (h:Hp)(hr:R4 r):DT jA (h++[yK 4 [[.n 0,.n 0,.str ⟨#[]⟩,.sl .nil 0 []]]]) 79 (.ptr h.length 0 0) (.agg r)=some (h++[yK 4 [r]]):=by
 rw[WZ (AQ _ _) rfl hr.len hr.leaf,JZ]
def csW (a:ByteArray)(i:Ex)(n:Nat):List AV:=if i.op=1 then (if i.n<(n:Int) then AX (vaE a i.n.toNat) else pA 1 0) else chW a i n n
theorem R4.cs (a:ByteArray)(i:Ex)(n:Nat):R4 (csW a i n):=by
 unfold csW;split
 .split
  .exact R4.enc _
  .exact⟨_,_,_,_,_,_,rfl⟩
 .exact R4.ch a i n n
end Go.Proofs.YtiihpnicbekebaaGreatDoor.Bd.Cl
namespace Go.Proofs.YtiihpnicbekebaaGreatDoor.Ho
open Sm Bins Cov Go.RowKit
def AGU (l:List Ex):List AV:=[fzG 4 AX l]
theorem AYO:Frz AGU:=fun _ _ _ l=>by cases l<;>exact⟨rfl,rfl⟩
theorem A7M (h:Hp)(l:List Ex):C9 jA false h 100 1 [(0,fzG 4 AX l)]=some (.sl .full 1 [AGU l],h):=by
 cases l with
 | nil=>show C9 jA false h 100 1 [(0,.sl .nil 0 [])]=some (.sl .full 1 [[.sl .nil 0 []]],h); kernel_rfl
 | cons x xs=>exact A1N h .any _
end Go.Proofs.YtiihpnicbekebaaGreatDoor.Ho
namespace Go.Proofs.YtiihpnicbekebaaGreatDoor.Ho
open Sm Bins Cov Xe Go.RowKit
variable {xs:List Rng} {e:Ex} {s:List Sg} {c:List (List Ex)} {i k t:Nat} {p:Pt} {l:List (List Sg)} {m:Mo} {x:Hl}
theorem A13 (l:List Sg)(e:Ex):FQ l (cpE e)=FQ l e:=by
 induction e using Ex.induct with|h e ih=>?_
 rw[JY,JY l e,ALQ,A62,lK,AAF,JD,JD,List.map_map];congr 1;exact List.map_congr_left fun x hx=>ih x hx
def kN (l:List Sg)(e:Ex):Bool:=(pre e).all (knE l)
theorem kNs (l:List Sg):∀xs:List Ex,(FD xs).all (knE l)=xs.all (kN l)
 | []=>rfl
 | x::xs=>by
   show(pre x++FD xs).all _=_;rw[List.all_append,wK,kNs l xs]; rfl
theorem ASD (l:List Sg)(e:Ex):kN l e=(knE l e&&e.args.all (kN l)):=by
 unfold kN;rw[pre_eq,wK,kNs];rfl
theorem A59 (l:List Sg)(e:Ex):kN l (cpE e)=kN l e:=by
 unfold kN;rw[AG4,List.all_map];congr 1;funext x;show knE l (cpE x)=knE l x;unfold knE;rw[ALQ,lK]
theorem A03 (l:List Sg)(n:Int):kN l (cE n)=true:=rfl
theorem ASE (l:List Sg):∀L:List Rng,(cEs L).all (kN l)=true
 | []=>rfl
 | a::L=>by rw[TP,wK,wK,A03,A03,ASE l L]; rfl
theorem AKU (l:List Sg)(e:Ex)(L:List Rng):kN l (JA e L)=kN l e:=by
 rw[UK,ASD];show(true&&(insL e L).all (kN l))=_;unfold insL;rw[wK,ASE,Bool.and_true,wG]
theorem A23 (l:List Sg)(a b:Ex):kN l (orE a b)=(kN l a&&kN l b):=by
 unfold orE;rw[ASD];show(true && [a,b].all (kN l))=_;simp
theorem AX3 (l:List Sg)(a:Ex):kN l (notE a)=kN l a:=by
 unfold notE;rw[ASD];show(true && [a].all (kN l))=_;simp
theorem AKT (l:List Sg)(e:Ex)(L:List Rng):∀k,kN l (NH e L k)=kN l e
 | 0=>AKU l e _
 | k+1=>by
   show kN l (orE (NH e L k) (JA e (part L (k+1))))=_;rw[A23,AKT l e L k,AKU,Bool.and_self]
def cD (r:Rng):Prop:=0<=r.lo∧r.lo<=65535∧0<=r.hi∧r.hi<=65535
theorem AX4 {out:List Rng}{r:Rng}(h:∀x∈out,cD x)(hr:cD r):∀x∈join out r,cD x:=by
 unfold join;split
 .rename_i t ht
  split
  .intro x hx
   rcases zI.1 hx with hx|hx
   .exact h x ((List.dropLast_sublist out).subset hx)
   .rw[qP.1 hx]
    obtain⟨a,b,c,d⟩:=h t (List.mem_of_getLast? ht);obtain⟨a',b',c',d'⟩:=hr;exact⟨a,b,by show 0<=max t.hi r.hi; omega,by show max t.hi r.hi<=65535; omega⟩
  .intro x hx
   rcases zI.1 hx with hx|hx
   .exact h x hx
   .rw[qP.1 hx]; exact hr
 .intro x hx
  rcases zI.1 hx with hx|hx
  .exact h x hx
  .rw[qP.1 hx]; exact hr
theorem ANK (h:∀r∈xs,cD r):∀r∈normal xs,cD r:=by
 have gen:∀(ys out:List Rng),(∀r∈out,cD r)->(∀r∈ys,cD r)->∀r∈ys.foldl join out,cD r:=by
  intro ys
  induction ys with
  | nil=>intro out ho _; exact ho
  | cons y ys ih =>
    intro out ho hy;rw[List.foldl_cons];exact ih _ (AX4 ho (hy y AZ)) fun r hr=>hy r (by simp [hr])
 refine gen _ [] (fun r hr=>by cases hr) fun r hr=>?_
 have:=List.mem_mergeSort.1 hr;exact h r ((List.mem_filter.1 this).1)
theorem AP3 (l:List Sg){n:Int}(h0:0<=n)(h1:n<=65535):FQ l (cE n)=n.toNat:=by
 unfold cE;rw[JY];show(if(1:Int)=1 then n.toNat%65536 else _)=_;rw[if_pos rfl];omega
theorem ADM (l:List Sg)(v:Nat):∀L:List Rng,(∀r∈L,cD r)->Xe.insW v ((cEs L).map (FQ l))=inside L (v:Int)
 | [],_=>rfl
 | a::L,h=>by
   obtain⟨a1,a2,a3,a4⟩:=h a AZ;rw[TP,jK,jK,AP3 l a1 a2,AP3 l a3 a4];show((decide (a.lo.toNat<=v)&&decide (v<=a.hi.toNat))||Xe.insW v ((cEs L).map (FQ l)))=(((decide (a.lo<=(v:Int))&&decide ((v:Int)<=a.hi))||inside L (v:Int)));rw[ADM l v L fun r hr=>h r (by simp [hr])];congr 2
   .rw[decide_eq_decide]; omega
   .rw[decide_eq_decide]; omega
theorem ABB (l:List Sg)(e:Ex)(L:List Rng)(h:∀r∈L,cD r):FQ l (JA e L)=tr (inside L ((FQ l e:Nat):Int)):=by
 rw[UK,JY];show opW 23 (LP l (insL e L))=_;rw[JD];unfold insL;rw[jK];show tr (Xe.insW (FQ l e) ((cEs L).map (FQ l)))=_;rw[ADM l _ L h]
theorem AV2 (l:List Sg)(a b:Ex){x y:Bool}(ha:FQ l a=tr x)(hb:FQ l b=tr y):FQ l (orE a b)=tr (x||y):=by
 unfold orE;rw[JY];have e1:∀vs,XD l 20 0 ⟨#[]⟩ vs=opW 20 vs:=fun vs=>by unfold XD; simp
 have e2:opW 20 [tr x,tr y]=tr (x||y):=by cases x<;>cases y<;>decide
 show XD l 20 0 ⟨#[]⟩ (LP l [a,b])=_;rw[e1,JD,jK,jK,jL,ha,hb,e2]
theorem AP2 (l:List Sg)(a:Ex){x:Bool}(ha:FQ l a=tr x):FQ l (notE a)=tr (!x):=by
 unfold notE;rw[JY];have e1:∀vs,XD l 4 0 ⟨#[]⟩ vs=opW 4 vs:=fun vs=>by unfold XD; simp
 have e2:opW 4 [tr x]=tr (!x):=by cases x<;>decide
 show XD l 4 0 ⟨#[]⟩ (LP l [a])=_;rw[e1,JD,jK,jL,ha,e2]
theorem tB (L:List Rng)(k:Nat):L.take (16*(k+1))=L.take (16*k)++part L k:=by
 unfold part;rw[Nat.mul_add,Nat.mul_one,List.take_add]
theorem AJ9 {L:List Rng}(h:∀r∈L,cD r)(k:Nat):∀r∈part L k,cD r:=fun r hr=>h r (List.mem_of_mem_drop (List.mem_of_mem_take hr))
theorem ABA (l:List Sg)(e:Ex)(L:List Rng)(h:∀r∈L,cD r):∀k,FQ l (NH e L k)=tr (inside (L.take (16*(k+1))) ((FQ l e:Nat):Int))
 | 0=>by
   show FQ l (JA e (part L 0))=_;rw[ABB l e _ (AJ9 h 0),tB];rfl
 | k+1=>by
   show FQ l (orE (NH e L k) (JA e (part L (k+1))))=_;rw[AV2 l _ _ (ABA l e L h k) (ABB l e _ (AJ9 h (k+1))),tB L (k+1),LD]
theorem AKW (l:List Sg)(h:∀r∈xs,0<=r.lo∧r.lo<=r.hi∧r.hi<=65535)(hne:xs≠[]):FQ l (D7 e xs)=tr (inside xs ((FQ l e:Nat):Int))∧kN l (D7 e xs)=kN l e:=by
 have hn:=ANJ h hne;have h16:=ANK fun r hr=>show cD r by have:=h r hr; unfold cD; omega
 unfold D7;rw[YA e _ hn,ABA l _ _ h16,AKT,A59,A13];refine⟨?_,rfl⟩;have hp:=parts_eq (normal xs);have hl:0<(normal xs).length:=List.length_pos_iff.2 hn;rw[List.take_of_length_le U,iN h]
theorem AKE (h:∀r∈xs,0<=r.lo∧r.lo<=r.hi∧r.hi<=65535)(hne:xs≠[])(he:(evE s e).2=0)(hx:exE (D7 e xs)=0):okX s (D7 e xs)=inside xs ((evE s e).1:Nat):=by
 obtain⟨h1,h2⟩:=AKW s (e:=e) h hne
 have hk:kN s e=true∧(evE s e).1=FQ s e:=by
  unfold evE at he|-
  split at he
  .cases he
  split at he
  .rename_i q; exact⟨q,by rw[if_neg (by assumption),if_pos q]⟩
  .cases he
 rw[hk.1] at h2
 have hv:(evE s (D7 e xs)).1=FQ s (D7 e xs):=by
  unfold evE;rw[if_neg (by rw[hx]; simp),if_pos (show(pre _).all (knE s)=true from h2)]
 unfold okX;rw[hv,h1,hk.2];cases inside xs ((FQ s e:Nat):Int)<;>rfl
theorem AKD (h:∀r∈xs,0<=r.lo∧r.lo<=r.hi∧r.hi<=65535)(hne:xs≠[])(he:(evE s e).2=0)(hx:exE (notE (D7 e xs))=0):okX s (notE (D7 e xs)) = !inside xs ((evE s e).1:Nat):=by
 obtain⟨h1,h2⟩:=AKW s (e:=e) h hne
 have hk:kN s e=true∧(evE s e).1=FQ s e:=by
  unfold evE at he|-
  split at he
  .cases he
  split at he
  .rename_i q; exact⟨q,by rw[if_neg (by assumption),if_pos q]⟩
  .cases he
 rw[hk.1] at h2;rw[<-AX3] at h2
 have hv:(evE s (notE (D7 e xs))).1=FQ s (notE (D7 e xs)):=by
  unfold evE;rw[if_neg (by rw[hx]; simp),if_pos (show(pre _).all (knE s)=true from h2)]
 unfold okX;rw[hv,AP2 s _ h1,hk.2];cases inside xs ((FQ s e:Nat):Int)<;>rfl
def AHW (c:List (List Ex))(l:List (List Sg)):Prop:=c.length<=l.length∧∀t,t<c.length->∀e∈c[t]?.getD [],okX (l.getD (l.length-c.length+t) []) e=true
theorem O6 (cs:List (List (List Ex))):(JX cs).length=OV cs:=by unfold JX; simp
theorem pO (cs:List (List (List Ex)))(t:Nat)(h:t<(JX cs).length):(JX cs)[t]?.getD []=cs.flatMap (rowC (OV cs) t):=by
 rw[O6] at h;unfold JX;rw[jV,List.getElem?_range h]; rfl
theorem AFX {cs:List (List (List Ex))}(hc:c∈cs)(ht:t<c.length)(he:e∈c[t]?.getD []):t+(OV cs-c.length)<(JX cs).length∧e∈(JX cs)[t+(OV cs-c.length)]?.getD []:=by
 have hl:=X9 hc;have hlt:t+(OV cs-c.length)<(JX cs).length:=by rw[O6]; omega
 refine⟨hlt,?_⟩;rw[pO cs _ hlt,List.mem_flatMap];refine⟨c,hc,?_⟩;unfold rowC;rw[if_pos U,show t+(OV cs-c.length)-(OV cs-c.length)=t by omega];exact he
theorem AHV (cs:List (List (List Ex)))(l:List (List Sg)):AHW (JX cs) l↔∀c∈cs,AHW c l:=by
 constructor
 .rintro⟨h1,h2⟩ c hc
  have hl:=X9 hc;rw[O6] at h1;refine⟨U,fun t ht e he=>?_⟩;obtain⟨g1,g2⟩:=AFX hc ht he;have:=h2 _ g1 e g2;rw[O6] at this;rw[show l.length-c.length+t=l.length-OV cs+(t+(OV cs-c.length)) by omega];exact this
 .intro h
  have hn:OV cs<=l.length:=WM cs 0 _ (Nat.zero_le _) fun c hc=>(h c hc).1
  refine⟨by rw[O6]; exact hn,fun t ht e he=>?_⟩;rw[pO cs t ht,List.mem_flatMap] at he;obtain⟨c,hc,he⟩:=he;have hl:=X9 hc
  rw[O6] at ht|-
  unfold rowC at he;split at he
  .rename_i q
   rcases jW (t-(OV cs-c.length)) c.length with g|g
   .have:=(h c hc).2 _ g e he
    rw[show l.length-OV cs+t=l.length-c.length+(t-(OV cs-c.length)) by omega];exact this
   .rw[List.getElem?_eq_none g] at he; cases he
  .cases he
theorem ARQ {y:Ex}(h':t<c.length):(ARR (some y) c)[t]?.getD []=if t=c.length-1 then c[t]?.getD []++[notE y] else c[t]?.getD []:=by
 show(c.set (c.length-1) (c[c.length-1]?.getD []++[notE y]))[t]?.getD []=_;rw[List.getElem?_set];split
 .rename_i q
  subst q;rw[if_pos h',if_pos rfl]; rfl
 .rename_i q
  rw[if_neg (fun e=>q e.symm)]
theorem mem_row (h:e∈c[t]?.getD []):∃r∈c,e∈r:=by
 cases hc:c[t]? with
 | none=>rw[hc] at h; cases h
 | some r=>rw[hc] at h; exact⟨r,List.mem_of_getElem? hc,h⟩
def AYD (p:Pt)(b:Bin)(v:Nat->Int)(K:Nat):Prop:=(FP b).length<=K∧(∀t (h:t<(FP b).length),inside (FP b)[t].l (v (K-(FP b).length+t))=true)∧inside (J9 p.bins) (v (K-1))=false
theorem AOE {b:Bin}(vp:VP p)(vb:VB b)(he:∀k,k<l.length->(evE (l.getD k []) p.ex).2=0)(hx:∀r∈TN D7 p b,∀e∈r,exE e=0):
  AHW (TN D7 p b) l↔AYD p b (fun k=>((evE (l.getD k []) p.ex).1:Nat)) l.length:=by
 have hcl:=AE3 D7 p b;have hne:(FP b).length≠0:=fun q=>vb.ne (qX q)
 have hget:∀t (ht:t<(FP b).length),(TN D7 p b)[t]?.getD []=if t=(FP b).length-1∧J9 p.bins≠[] then [D7 p.ex (FP b)[t].l,notE (D7 p.ex (J9 p.bins))] else [D7 p.ex (FP b)[t].l]:=fun t ht=>by
  have h0:((FP b).map fun s=>[D7 p.ex s.l])[t]?.getD []=[D7 p.ex (FP b)[t].l]:=by rw[jV,jG ht]; rfl
  unfold TN badO;by_cases hb:J9 p.bins=[]
  .rw[if_pos hb,if_neg (fun q=>q.2 hb)]
   exact h0
  .rw[if_neg hb,ARQ (by rw[jM]; exact ht),jM,h0]
   by_cases ht3:t=(FP b).length-1
   .rw[if_pos ht3,if_pos ⟨ht3,hb⟩]; rfl
   .rw[if_neg ht3,if_neg (fun q=>ht3 q.1)]
 have hex:∀ {t:Nat} {e:Ex},e∈(TN D7 p b)[t]?.getD []->exE e=0:=fun h=>by
  obtain⟨r,hr,hm⟩:=mem_row h;exact hx r hr _ hm
 unfold AHW AYD;rw[hcl];refine and_congr_right fun hle=>?_
 constructor
 .intro h
  constructor
  .intro t ht
   have hm:D7 p.ex (FP b)[t].l∈(TN D7 p b)[t]?.getD []:=by rw[hget t ht]; split<;>simp
   have:=h t ht _ hm;obtain⟨e1,_,e3⟩:=vb.each _ (jI ht);rw[AKE e3 e1 (he _ U) (hex hm)] at this;exact this
  .by_cases hb:J9 p.bins=[]
   .rw[hb]; rfl
   .have ht:(FP b).length-1<(FP b).length:=U
    have hm:notE (D7 p.ex (J9 p.bins))∈(TN D7 p b)[(FP b).length-1]?.getD []:=by rw[hget _ ht,if_pos ⟨rfl,hb⟩]; simp
    have:=h _ ht _ hm;rw[AKD vp.badOk hb (he _ U) (hex hm)] at this;rw[show l.length-(FP b).length+((FP b).length-1)=l.length-1 by omega] at this;simpa using this
 .rintro⟨h1,h2⟩ t ht e hm
  have hxe:=hex hm;rw[hget t ht] at hm
  have hcase:e=D7 p.ex (FP b)[t].l∨(t=(FP b).length-1∧J9 p.bins≠[]∧e=notE (D7 p.ex (J9 p.bins))):=by
   split at hm
   .rename_i q
    simp at hm;rcases hm with rfl|rfl
    .exact .inl rfl
    .exact .inr ⟨q.1,q.2,rfl⟩
   .simp at hm
    exact .inl hm
  rcases hcase with rfl|⟨rfl,hb,rfl⟩
  .obtain⟨e1,_,e3⟩:=vb.each _ (jI ht)
   rw[AKE e3 e1 (he _ U) hxe];exact h1 t ht
  .rw[AKD vp.badOk hb (he _ U) hxe,show l.length-(FP b).length+((FP b).length-1)=l.length-1 by omega,h2]
   rfl
theorem tR (bins:List Bin)(last:List Int)(v kind:Int):∀(n j:Nat),j∈NF bins last v kind n↔j<n∧(bins[j]?.map (hK last v kind)).getD false=true
 | 0,j=>by simp [NF]
 | n+1,j=>by
   simp only[NF,zI,tR bins last v kind n j];constructor
   .rintro (⟨h1,h2⟩|h)
    .exact⟨U,h2⟩
    .split at h
     .rename_i q
      rw[qP.1 h];exact⟨U,q⟩
     .cases h
   .rintro⟨h1,h2⟩
    rcases jW j n with g|g
    .exact .inl ⟨g,h2⟩
    .obtain rfl:j=n:=U
     right
     rw[if_pos h2];simp
theorem AG2 {last:List Int}(h:(ptE p last s).err=0):(evE s p.ex).2=0∧(ptE p last s).next=nextL last (evE s p.ex).1 ∧
  ∀j,j∈(ptE p last s).hit↔(inK p.bins 2 (evE s p.ex).1=false∧inK p.bins 1 (evE s p.ex).1=false)∧j∈iS p last (evE s p.ex).1 0:=by
 unfold ptE at h|-
 split at h
 .cases h
 split at h
 .rename_i q; exact absurd h q
 rename_i q1 q2;rw[if_neg q1,if_neg q2];have he:(evE s p.ex).2=0:=BG q2;split
 .rename_i q
  exact⟨he,rfl,fun j=>⟨fun hh=>(by cases hh),fun⟨⟨a,_⟩,_⟩=>(by rw[q] at a; cases a)⟩⟩
 .rename_i r1
  split
  .rename_i q
   exact⟨he,rfl,fun j=>⟨fun hh=>(by cases hh),fun⟨⟨_,a⟩,_⟩=>(by rw[q] at a; cases a)⟩⟩
  .rename_i r2
   exact⟨he,rfl,fun j=>⟨fun hh=>⟨⟨BG r1,BG r2⟩,hh⟩,fun hh=>hh.2⟩⟩
theorem ALX:∀(l:List Bin) (v:Int),inside (J9 l) v=l.any fun b=>(b.kind != 0)&&inside b.ranges.l v
 | [],_=>rfl
 | b::l,v=>by
   rw[J9,LD,List.any_cons,ALX l v];congr 1;by_cases h:b.kind=0
   .rw[if_neg (BG h),h]; rfl
   .rw[if_pos h]
    have:(b.kind != 0)=true:=BG h;rw[this,wG]
theorem AZV (vp:VP p)(v:Int):(inK p.bins 2 v=false∧inK p.bins 1 v=false)↔inside (J9 p.bins) v=false:=by
 rw[ALX];unfold inK;simp only[List.any_eq_false];constructor
 .rintro⟨h2,h1⟩ b hb q
  rw[jO] at q;have k0:=(vp.bins b hb).k0;have k2:=(vp.bins b hb).k2;have hn:b.kind≠0:=by simpa using q.1
  rcases (U:b.kind=1∨b.kind=2) with e|e
  .exact h1 b hb (by rw[e,q.2]; rfl)
  .exact h2 b hb (by rw[e,q.2]; rfl)
 .intro h
  refine⟨fun b hb q=>h b hb ?_,fun b hb q=>h b hb ?_⟩
  .rw[jO] at q|-
   have:b.kind=2:=by simpa using q.1
   exact⟨by rw[this]; rfl,q.2⟩
  .rw[jO] at q|-
   have:b.kind=1:=by simpa using q.1
   exact⟨by rw[this]; rfl,q.2⟩
def Z9 (v:Nat->Int)(k:Nat):List Int:=((List.range k).map v).drop (k-7)
theorem fJ (v:Nat->Int)(k:Nat):(Z9 v k).length=k-(k-7):=by unfold Z9; simp
theorem ANU (v:Nat->Int)(h:i<k-(k-7)):(Z9 v k)[i]?=some (v (k-7+i)):=by
 unfold Z9;rw[List.getElem?_drop,jV,List.getElem?_range U]; rfl
theorem AHJ (v:Nat->Int)(k:Nat)(n:Nat)(hn:v k=(n:Int)):nextL (Z9 v k) n=Z9 v (k+1):=by
 unfold nextL;rw[fJ];unfold Z9;rw[List.range_succ,List.map_append,<-List.drop_append_of_le_length AZ,List.drop_drop];congr 1
 .omega
 .rw[List.map_singleton,hn]
theorem AOC {b:Bin}(vb:VB b)(hv:IK b=0)(v:Nat->Int)(k:Nat):hit b (Z9 v k) (v k)=true↔(FP b).length<=k+1∧∀t (h:t<(FP b).length),inside (FP b)[t].l (v (k+1-(FP b).length+t))=true:=by
 have h8:=vb.few;have hne:(FP b).length≠0:=fun q=>vb.ne (qX q)
 unfold hit ADW;rw[aU,fJ,decide_eq_true hv,wG,jO,decide_eq_true_iff,zL]
 have hvl:∀t,t<(FP b).length->(FP b).length<=k+1->cL (Z9 v k) (FP b).length (v k) t=v (k+1-(FP b).length+t):=fun t ht hle=>by
  unfold cL;rw[fJ];split
  .rw[ANU v U]
   show v _=v _;congr 1;omega
  .congr 1
   omega
 have hsa:∀t (h:t<(FP b).length),setAt b t=(FP b)[t].l:=fun t h=>by
  unfold setAt;rw[aU,jG h]; rfl
 constructor
 .rintro⟨h1,h2⟩
  refine⟨U,fun t ht=>?_⟩;have:=h2 t (BG ht);rw[hsa t ht,hvl t ht U] at this;exact this
 .rintro⟨h1,h2⟩
  refine⟨U,fun t ht=>?_⟩;have ht':t<(FP b).length:=BG ht;rw[hsa t ht',hvl t ht' h1];exact h2 t ht'
theorem AIO (h:FK m=0):∀p∈m.pts,∀b∈p.bins,IK b=0:=by
 unfold FK at h;split at h
 .cases h
 split at h
 .rename_i q; exact absurd h q
 rename_i q;intro p hp b hb;have h:=PU _ (BG q) p hp;unfold IX at h;split at h
 .cases h
 split at h
 .rename_i q; exact absurd h q
 split at h
 .cases h
 split at h
 .cases h
 split at h
 .rename_i q; exact absurd h q
 rename_i q2;exact PU _ (BG q2) b hb
section
variable {m:Mo} {l:List (List Sg)} (R:RunOk m l)
include R
theorem AWK (hk:k<l.length)(hi:i<m.pts.length):(evE (l.getD k []) m.pts[i].ex).2=0:=by
 obtain⟨h1,h2,h3⟩:=R.at' hk hi;have he:=R.err hk h1;rw[h3] at he;have:=(AG2 he).1;rw[zF,jG hk];exact this
theorem AB3 {i:Nat}(hi:i<m.pts.length):∀k,k<=l.length->(stK m l k).ls.getD i []=Z9 (fun k=>((evE (l.getD k []) m.pts[i].ex).1:Nat)) k
 | 0,_=>by
   show(List.replicate m.pts.length []).getD i []=_;rw[zF,List.getElem?_replicate,if_pos hi]; rfl
 | k+1,hk=>by
   have ih:=AB3 hi k U;obtain⟨h1,h2,h3⟩:=R.at' (U:k<l.length) hi;have he:=R.err (U:k<l.length) h1;rw[R.last U hi,h3];rw[h3] at he;rw[(AG2 he).2.1];rw[zF,jG h2] at ih;rw[show(stK m l k).ls[i]=_ from ih];refine AHJ _ k _ ?_;show(((evE (l.getD k []) m.pts[i].ex).1:Nat):Int)=_;rw[zF,jG (U:k<l.length)]; rfl
theorem AMS {j:Nat}(hk:k<l.length)(hi:i<m.pts.length)(hj:j<m.pts[i].bins.length)(h0:m.pts[i].bins[j].kind=0):
  j∈((rsK m l k).map PtR.hit).getD i []↔AYD m.pts[i] m.pts[i].bins[j] (fun k=>((evE (l.getD k []) m.pts[i].ex).1:Nat)) (k+1):=by
 obtain⟨h1,h2,h3⟩:=R.at' hk hi;have he:=R.err hk h1;have vp:=lT R.me _ (jI hi);have vb:=vp.bins _ (jI hj);have hl:=AB3 R hi k U;rw[zF,jG h2] at hl;have hl':(stK m l k).ls[i]=_:=hl;rw[zF,jV,jG h1];show j∈(rsK m l k)[i].hit↔_
 rw[h3] at he|-
 rw[(AG2 he).2.2,AZV vp];unfold iS;rw[tR,jG hj];show inside _ _=false∧j<_∧hK _ _ 0 _=true↔_;unfold hK;rw[h0,if_pos (show((0:Int)==0)=true from rfl)]
 have hv:((evE l[k] m.pts[i].ex).1:Int)=(fun k=>((evE (l.getD k []) m.pts[i].ex).1:Int)) k:=by
  show _=((evE (l.getD k []) m.pts[i].ex).1:Int);rw[zF,jG hk]; rfl
 have hva:IK m.pts[i].bins[j]=0:=AIO R.me _ (jI hi) _ (jI hj);rw[hl',hv,show((0:Int)==0)=true from rfl,wG,AOC vb hva];unfold AYD;constructor
 .rintro⟨a,_,b,c⟩
  exact⟨b,c,a⟩
 .rintro⟨b,c,a⟩
  exact⟨a,hj,b,c⟩
end
theorem WS (P:List (List Int))(i j:Nat):cellAt (PK P) i j=(P.getD i []).getD j 0:=by
 unfold cellAt PK;rw[jV,zF,zF]
 cases P[i]? with
 | none=>rfl
 | some x =>
   show(match x[j]? with|some z=>z|none=>0)=_;show _=(x[j]?).getD 0;cases x[j]? <;> rfl
theorem AQR {n:Int}(h:0<=n):0<rz n:=by unfold rz; omega
theorem AJL:∀ {ns:List Nat} {l:List Int} {z:Nat},J7 ns l=true->(∀n∈ns,1<=n)->(z+1)*I8 ns<=4611686018427387904->∀r:Nat,ZP ns l (z:Int)=(r:Int)->(tupF ns r).1.map (fun n:Nat=>(n:Int))=l∧(tupF ns r).2=z
 | [],[],z,_,_,_,r,hr=>by
   have:r=z:=by have:(z:Int)=(r:Int):=hr; omega
   subst this;exact⟨rfl,rfl⟩
 | [],_::_,_,h,_,_,_,_=>by simp [J7] at h
 | _::_,[],_,h,_,_,_,_=>by simp [J7] at h
 | n::ns,x::xs,z,h,h1,hb,r,hr=>by
   simp only[J7,jO,decide_eq_true_eq] at h;obtain⟨⟨x0,x1⟩,hin⟩:=h;have hP:=fD (ns:=ns) fun k hk=>h1 k (yF _ hk)
   rw[aX] at hb;obtain⟨y,rfl⟩:∃y:Nat,x=(y:Int):=⟨x.toNat,U⟩;have hy:y<n:=U;generalize hp:I8 ns=P at hP hb;have e1:(z+1)*(n*P)=(z*n+n)*P:=by rw[<-Nat.mul_assoc,Nat.add_mul,Nat.one_mul]
   have e2:(z*n+n)<=(z*n+n)*P:=Nat.le_mul_of_pos_right _ hP;have e3:(z*n+y+1)*P<=(z*n+n)*P:=Nat.mul_le_mul_right P U;have w1:IntKind.i64.wrap ((z:Int)*(n:Int))=((z*n:Nat):Int):=by rw[<-Int.natCast_mul]; exact NK U
   have w2:IntKind.i64.wrap (((z*n:Nat):Int)+(y:Int))=((z*n+y:Nat):Int):=by rw[<-Int.natCast_add]; exact NK U
   have hr':ZP ns xs ((z*n+y:Nat):Int)=(r:Int):=by
    have:ZP ns xs (IntKind.i64.wrap (IntKind.i64.wrap ((z:Int)*(n:Int))+(y:Int)))=(r:Int):=hr;rw[w1,w2] at this;exact this
   obtain⟨i1,i2⟩:=AJL hin (fun k hk=>h1 k (yF _ hk)) (by rw[hp]; omega) r hr';have hm:(z*n+y)%n=y:=by rw[Nat.add_comm,Nat.mul_comm,Nat.add_mul_mod_self_left,Nat.mod_eq_of_lt hy]
   have hd:(z*n+y)/n=z:=by rw[Nat.add_comm,Nat.mul_comm,Nat.add_mul_div_left _ _ U,Nat.div_eq_of_lt hy,Nat.zero_add]
   refine⟨?_,?_⟩
   .show(((tupF ns r).2%n)::(tupF ns r).1).map _=_
    rw[jK,i1,i2,hm]
   .show(tupF ns r).2/n=z
    rw[i2,hd]
theorem AX9 (hg:Cov.Good m)(hi:i<m.crs.length){l:List Int}(hin:J7 (szs m m.crs[i].pts) l=true):∃k:Nat,ZP (szs m m.crs[i].pts) l 0=(k:Int)∧k<I8 (szs m m.crs[i].pts)∧SQ (szs m m.crs[i].pts) k=l:=by
 obtain⟨k,h1,h2⟩:=ADT hg hi hin;have hcg:=hg.crs _ (jI hi);have hs:=hg.full.szs hcg.here;have hfour:=hcg.four;have hp:I8 (szs m m.crs[i].pts)<=64^4:=mR _ 4 (fun n hn=>(hs n hn).2) (by rw[RY]; exact hfour);exact⟨k,h1,h2,(AJL (z:=0) hin (fun n hn=>(hs n hn).1) U k h1).1⟩
theorem AFW (hits:List (List Nat)):∀L:List (Nat×Nat),allB (L.map fun q=>((q.1:Nat):Int)) (L.map fun q=>((q.2:Nat):Int)) hits=L.all fun q=>decide (q.2∈hits.getD q.1 [])
 | []=>rfl
 | q::L=>by
   show(Rk.hasB ((hits.getD ((q.1:Nat):Int).toNat []).map fun n:Nat=>(n:Int)) q.2&&allB (L.map fun q=>((q.1:Nat):Int)) (L.map fun q=>((q.2:Nat):Int)) hits)=_;rw[AFW hits L,wK,qG];congr 1;rw[Bool.eq_iff_iff,decide_eq_true_iff];unfold Rk.hasB;rw[List.any_eq_true];constructor
   .rintro⟨z,hz,e⟩
    obtain⟨n,hn,rfl⟩:=zH.1 hz
    have:n=q.2:=by have:(n:Int)=(q.2:Int):=BG e
                   omega
    rw[<-this]; exact hn
   .intro h
    exact⟨(q.2:Int),zH.2 ⟨q.2,h,rfl⟩,AZ⟩
section
variable {m:Mo} {l:List (List Sg)} (R:RunOk m l)
include R
theorem AV8 {j:Nat}(hk:k<l.length)(hi:i<m.pts.length)(_hj:j<m.pts[i].bins.length):(0<((stK m l (k+1)).P.getD i []).getD j 0)↔(0<((stK m l k).P.getD i []).getD j 0∨j∈((rsK m l k).map PtR.hit).getD i []):=by
 obtain⟨h1,h2,h3⟩:=R.at' hk hi;have hl:=R.rowLen (U:k<=l.length) hi
 have hw:Wn ((stK m l k).P.getD i []):=by
  have h2:=R.pl k U;rw[zF,jG U];exact(R.fit k U).ok.sh.wp _ (jI U)
 rw[R.row hk hi,eX j _ _ (by rw[h3]; exact sX _ _ _) (fun x hx=>by rw[hl]; rw[h3] at hx; exact AG3 _ _ _ x hx)];rw[zF (l:=(rsK m l k).map PtR.hit),jV,jG h1];show _↔_∨j∈(rsK m l k)[i].hit;split
 .rename_i q
  exact⟨fun _=>.inr q,fun _=>AQR (hw.getD j).1⟩
 .rename_i q
  exact⟨fun h=>.inl h,fun h=>h.elim id fun h=>absurd h q⟩
theorem AV9 (hk:k<l.length)(hi:i<m.crs.length)(ht:t<I8 (szs m m.crs[i].pts)):(0<((stK m l (k+1)).C.getD i []).getD t 0)↔(0<((stK m l k).C.getD i []).getD t 0∨crK m m.crs[i] ((rsK m l k).map PtR.hit) t=true):=by
 have hl:=R.rowCLen (U:k<=l.length) hi
 have hw:Wn ((stK m l k).C.getD i []):=by
  have h2:=R.cl k U;rw[zF,jG U];exact(R.fit k U).ok.sh.wc _ (jI U)
 rw[R.rowC hk hi];have hlt:t<((stK m l k).C.getD i []).length:=U
 generalize (stK m l k).C.getD i []=row at hlt hw hl|-
 have e1:(Xe.rowC m m.crs[i] ((rsK m l k).map PtR.hit) row).getD t 0=(Xe.rowC m m.crs[i] ((rsK m l k).map PtR.hit) row)[t]'(by rw[Xe.rowC_len]; exact hlt):=by
  rw[zF,jG (by rw[Xe.rowC_len]; exact hlt)]; rfl
 have e2:row.getD t 0=row[t]:=by rw[zF,jG hlt]; rfl
 rw[e1,e2];rw[Xe.rowC_get _ _ _ _ t hlt];split
 .rename_i q
  exact⟨fun _=>.inr q,fun _=>AQR (hw _ (jI hlt)).1⟩
 .rename_i q
  exact⟨fun h=>.inl h,fun h=>h.elim id fun h=>absurd h q⟩
theorem AMJ (hv:MF m x=true)(hk:k<l.length):(0<XB m x (cvS (stK m l (k+1))))↔(0<XB m x (cvS (stK m l k))∨∀q∈NI m x,q.2∈((rsK m l k).map PtR.hit).getD q.1 []):=by
 have hL:=fC hv;unfold XB;cases hc:x.cross
 .obtain⟨i,hi,j,hj,hz,hb,hkd,hg⟩:=VA hv hc
  rw[if_neg DF,if_neg DF,hz,hb];show(0<cellAt (PK _) (i:Int).toNat (j:Int).toNat)↔(0<cellAt (PK _) (i:Int).toNat (j:Int).toNat∨_);rw[WS,WS,qG,qG,AV8 R hk hi hj]
  have hps:NI m x=[(i,j)]:=by
   unfold NI kU;rw[if_neg (by rw[hc]; decide),hz,hb];simp
  rw[hps];simp
 .obtain⟨i,hi,hz,hin,hh,hg⟩:=VC hv hc
  obtain⟨t,t1,t2,t3⟩:=AX9 hg hi hin
  have hix:(ixV (szs m m.crs[i].pts) x.bins).toNat=t:=by
   unfold ixV;rw[if_pos hin,t1,qG]
  rw[if_pos rfl,if_pos rfl,hz,UR hi];show(0<cellAt (PK _) (i:Int).toNat (ixV _ _).toNat)↔(0<cellAt (PK _) (i:Int).toNat (ixV _ _).toNat∨_);rw[hix,WS,WS,qG,AV9 R hk hi t2];refine or_congr Iff.rfl ?_;unfold crK;have hp:=hL.pts;unfold kU at hp;rw[if_pos hc,hz,UR hi] at hp;have hp':m.crs[i].pts=(NI m x).map fun q=>((q.1:Nat):Int):=hp
  rw[t3,hh,wG]
  have hq:allB m.crs[i].pts x.bins ((rsK m l k).map PtR.hit)=allB ((NI m x).map fun q=>((q.1:Nat):Int)) ((NI m x).map fun q=>((q.2:Nat):Int)) ((rsK m l k).map PtR.hit):=by
   rw[<-hp',<-hL.bins]
  rw[hq,AFW,zL];simp
end
theorem ANC (hv:MF m x=true):∀q∈NI m x,∃(h1:q.1<m.pts.length) (h2:q.2<m.pts[q.1].bins.length),m.pts[q.1].bins[q.2].kind=0:=by
 have hL:=fC hv;cases hc:x.cross
 .obtain⟨i,hi,j,hj,hz,hb,hkd,hg⟩:=VA hv hc
  have hps:NI m x=[(i,j)]:=by
   unfold NI kU;rw[if_neg (by rw[hc]; decide),hz,hb];simp
  rw[hps];intro q hq;rw[qP.1 hq];exact⟨hi,hj,hkd⟩
 .obtain⟨i,hi,hz,hin,hh,hg⟩:=VC hv hc
  have hp:=hL.pts;unfold kU at hp;rw[if_pos hc,hz,UR hi] at hp;have hp':m.crs[i].pts=(NI m x).map fun q=>((q.1:Nat):Int):=hp
  have hk:OG m ((NI m x).map fun q=>((q.1:Nat):Int)) ((NI m x).map fun q=>((q.2:Nat):Int))=true:=by
   rw[<-hp',<-hL.bins];unfold ZQ at hh;rw[jO] at hh;exact hh.1
  have gen:∀L:List (Nat×Nat),OG m (L.map fun q=>((q.1:Nat):Int)) (L.map fun q=>((q.2:Nat):Int))=true->∀q∈L,WO m q.1 q.2=0:=by
   intro L
   induction L with
   | nil=>intro _ q hq; cases hq
   | cons y L ih =>
     intro h q hq;have h':((WO m y.1 y.2==0)&&OG m (L.map fun q=>((q.1:Nat):Int)) (L.map fun q=>((q.2:Nat):Int)))=true:=h;rw[jO] at h';rcases List.mem_cons.1 hq with rfl|hq
     .simpa using h'.1
     .exact ih h'.2 q hq
  intro q hq;obtain⟨a,b⟩:=hL.ok q hq;refine⟨a,b,?_⟩;have:=gen _ hk q hq;unfold WO at this;have hbe:J8 m (q.1:Int)=m.pts[q.1].bins:=by unfold J8; rw[qG,jG a]
  rw[hbe,qG,jG b] at this;exact this
theorem AO3 (R:RunOk m l)(hv:MF m x=true)(he:cnE D7 m x=0):AHW (cnL D7 m x) l↔∃k,k+1=l.length∧∀q∈NI m x,q.2∈((rsK m l k).map PtR.hit).getD q.1 []:=by
 have hL:=fC hv
 have hE:∀e∈(cnL D7 m x).flatten,exE e=0:=by
  unfold cnE at he;rw[if_pos hv] at he;split at he
  .rename_i q
   rw[zL] at q;intro e hm;simpa using q e hm
  .cases he
 have hcl:cnL D7 m x=JX ((NI m x).map (cdQ D7 m)):=rfl;rw[hcl] at hE;rw[hcl,AHV]
 have hone:∀q∈NI m x,∀k,k+1=l.length->(AHW (cdQ D7 m q) l↔q.2∈((rsK m l k).map PtR.hit).getD q.1 []):=by
  intro q hq k hk;obtain⟨a,b,c⟩:=ANC hv q hq;have vp:=lT R.me _ (jI a);have vb:=vp.bins _ (jI b);rw[AMS R U a b c,hk];have hcd:=AAJ D7 a b;rw[hcd];refine AOE vp vb (fun k hk=>AWK R hk a) fun r hr e hm=>?_
  rw[<-hcd] at hr;obtain⟨t,ht,rfl⟩:=List.getElem_of_mem hr;obtain⟨g1,g2⟩:=AFX (zH.2 ⟨q,hq,rfl⟩) ht (e:=e) (by rw[jG ht]; exact hm);obtain⟨r',hr',hm'⟩:=mem_row g2;exact hE e (List.mem_flatten.2 ⟨r',hr',hm'⟩)
 constructor
 .intro h
  have hn1:=hL.n1;obtain⟨q,hq⟩:=List.exists_mem_of_length_pos (U:0<(NI m x).length);obtain⟨a,b⟩:=hL.ok q hq;have h1:=(h _ (zH.2 ⟨q,hq,rfl⟩)).1;have h2:=(lL (ins:=D7) R.me a b).1;refine⟨l.length-1,U,fun q hq=>(hone q hq _ U).1 (h _ (zH.2 ⟨q,hq,rfl⟩))⟩
 .rintro⟨k,hk,h⟩ c hc
  obtain⟨q,hq,rfl⟩:=zH.1 hc;exact(hone q hq k hk).2 (h q hq)
theorem AG7 (hr:TY m l=0)(hv:MF m x=true)(he:cnE D7 m x=0)(hf:AHW (cnL D7 m x) l):0<XB m x (WF m l):=by
 have R:=AQU hr;obtain⟨k,hk,h⟩:=(AO3 R hv he).1 hf;rw[R.val,<-hk,AMJ R hv U];exact .inr h
end Go.Proofs.YtiihpnicbekebaaGreatDoor.Ho
