/- Part 6 of the proof (J6, S5, J7, O37, O46, O47, O48, O49);no condition. -/
import Derived.Test.YtiihpnicbekebaaGreatDoorCP5
set_option linter.unusedVariables false
set_option linter.unusedSimpArgs false
set_option maxRecDepth 8000
set_option maxHeartbeats 4000000
open Go.Proofs.YtiihpnicbekebaaGreatDoor.Sm.ABlk renaming live→yE
open Bool renaming and_eq_true→jM,not_false→jE,true_and→wG
open Go.Proofs.Tryz renaming prog→jA
open Int renaming toNat_natCast→qB
open List renaming all_cons→wF,all_eq_true→zL,eq_nil_of_length_eq_zero→qV,getD_eq_getElem?_getD→zI,getElem?_eq_getElem→jI,getElem?_map→jW,getElem?_set_ne→zD,getElem_mem→jG,length_map→jP,map_cons→jK,map_nil→jL,mem_append→zK,mem_cons_of_mem→yB,mem_map→zH,mem_singleton→wI,replicate→jR,take_of_length_le→jJ
open Nat renaming le_of_ble_eq_true→jB,le_refl→jF,reduceEqDiff→jC
open Option renaming getD_none→jQ,getD_some→jD
namespace Go.Proofs.YtiihpnicbekebaaGreatDoor.Bd.Cl
open Sm Bins Cov Xe Wd Bl Ho Go.RowKit
variable {H:Hp} {b:Nat} {r:List AV}
theorem A5X {op n:Int}{s:ByteArray}{m:SM}{l:List (List AV)}(g:H[b]?=some (yE 4 [[.n op,.n n,.str s,.sl m 4 l]])){o k:Nat}:
  DU jA H 23 (.ptr b 0 3) (.own o 0 k)=some (H.set b (yE 4 [[.n op,.n n,.str s,.own o 0 k]])):=by
 rw[IR (cs:=[.own o 0 k]) rfl (AZ:szO jA 23=some 1) g BA];rfl
section
variable (G:Nat->AV)
theorem AE0 (vs:List Vr)(m:SM)(hl:vs.length<=1048576)(hv:∀v∈vs,FX v.name=true)(a:ByteArray)(ha:a.size<=1048576)(i:Ex)(hw:wt i<=1048576)(hi:i.op=1->0<=i.n)(h:Hp):PCall (En G) 256 [.agg [.sl m 4 (vs.map encV)],.str a,.agg (A8 i)] h (.agg (A8 (Z9 cpE a i (szA vs a)))):=by
 have hsz:=lZ vs a;refine ACalls.pure (R:=fun v H=>v=.agg (A8 (Z9 cpE a i (szA vs a)))/\Sm.ext h H) 3 ?_ (fun v H ⟨a,b⟩=>⟨b,by rw[a];exact RH _ _ 0 _⟩);refine acL Tryz.func256 [.cell 6 79] ?_;have gs:isS (h++[yE 1 [[.sl m 4 (vs.map encV)]]]++[yE 4 [A8 i]]++[yE 4 [EX]]) h.length m vs:=AO (AO (AX _ _));have ge:=AO (x:=yE 4 [EX]) (AX (h++[yE 1 [[.sl m 4 (vs.map encV)]]]) (yE 4 [A8 i]));have gr:=AX (h++[yE 1 [[.sl m 4 (vs.map encV)]]]++[yE 4 [A8 i]]) (yE 4 [EX]);have hx:Sm.ext h (h++[yE 1 [[.sl m 4 (vs.map encV)]]]++[yE 4 [A8 i]]++[yE 4 [EX]]):=(((ext.rfl' h).app _).app _).app _;have e1:(h++[yE 1 [[.sl m 4 (vs.map encV)]]]).length=h.length+1:=BA;have e2:(h++[yE 1 [[.sl m 4 (vs.map encV)]]]++[yE 4 [A8 i]]).length=h.length+2:=BA;refine ES @bxS @bxE RQ z4 ?_
 rw[e1] at ge|-
 rw[e2] at gr|-
 generalize h++[yE 1 [[.sl m 4 (vs.map encV)]]]++[yE 4 [A8 i]]++[yE 4 [EX]]=H1 at gs ge gr hx|-
 clear e1 e2;refine A7 (isS.ld gs) ?_;refine(size_prog G vs m hl hv a ha H1).use ?_;refine A7 (AOT ge) ?_;cases b1:(i.op==1)
 case true =>
  have ho:i.op=1:=BM b1;have h0:=hi ho;refine BB b1 (exN ge) ?_;cases b2:decide (i.n<((szA vs a:Nat):Int))
  .have q:=of_decide_eq_false b2
   refine A7 b2 ?_;refine(YH G 0 H1).use ?_;refine A7 (Q5 (e:=cE 0) gr rfl) ?_;rw[JM (b:=h.length+2) ER (PO (CV gr))];exact⟨by unfold Z9;rw[if_pos ho,if_neg q],hx.set U _⟩
  .have q:=of_decide_eq_true b2
   obtain⟨k,hk⟩:=Int.eq_ofNat_of_zero_le h0;have hv2:=QS G a k U ha H1;rw[<-hk] at hv2;refine BB b2 (exN ge) ?_;refine hv2.use ?_;refine A7 (Q5 (e:=vaE a k) gr rfl) ?_;rw[JM (b:=h.length+2) ER (PO (CV gr))];exact⟨by unfold Z9;rw[if_pos ho,if_pos q,hk,Int.toNat_natCast],hx.set U _⟩
 have o1:¬i.op=1:=BM b1;refine A7 b1 ?_;refine(YH G 0 H1).use ?_;have gs:=AO (x:=yE 4 [A8 (cE 0)]) gs;have ge:=AO (x:=yE 4 [A8 (cE 0)]) ge;have lr:=AC gr;have gr:=AO (x:=yE 4 [A8 (cE 0)]) gr;have go:=AX H1 (yE 4 [A8 (cE 0)]);have hx:=hx.app [yE 4 [A8 (cE 0)]];have w1:IntKind.i64.wrap (((szA vs a:Nat):Int)-1)=((szA vs a:Nat):Int)-1:=wrap_i64 U U;refine DW al79 st79 w1 ?_
 generalize H1++[yE 4 [A8 (cE 0)]]=H2 at gs ge gr go hx|-
 generalize H1.length=ob at go lr|-
 refine EU 0 (fun F H=>F 6=.ptr (h.length+2) 0 0/\F 8=.ptr ob 0 0/\H[h.length+2]?=some (yE 4 [EX])/\H[ob]?=some (yE 4 [A8 (chK cpE a i (szA vs a) (szA vs a))])/\Sm.ext h H) (fun _ _=>False) ?_ ?_ (fun _ _ q=>q.elim)
 .refine BK (fun n F H=>∃j,n+j=szA vs a/\F 1=.str a/\F 5=.ptr (h.length+1) 0 0/\F 6=.ptr (h.length+2) 0 0/\F 8=.ptr ob 0 0/\F 9=.n (((szA vs a:Nat):Int)-1-(j:Nat))/\H[h.length+1]?=some (yE 4 [A8 i])/\H[h.length+2]?=some (yE 4 [EX])/\H[ob]?=some (yE 4 [A8 (chK cpE a i (szA vs a) j)])/\Sm.ext h H) (szA vs a)
   ⟨0,U,ER,ER,ER,ER,by simp only[AY,↓reduceIte];simp,ge,gr,go,hx⟩ ?_
  clear gs ge gr go hx;rintro n F H ⟨j,hj,f1,f5,f6,f8,f9,ge,gr,go,hx⟩;refine A7 f9 ?_;refine BO ?_ ?_<;>intro hc
  .have hc:j<szA vs a:=by have:=of_decide_eq_true hc;omega
   have ek:((szA vs a:Nat):Int)-1-(j:Nat)=((szA vs a-1-j:Nat):Int):=U;have w2:IntKind.i64.wrap (((szA vs a-1-j:Nat):Int)-1)=((szA vs a:Nat):Int)-1-((j+1:Nat):Int):=by rw[wrap_i64 U U];omega
   rw[ek] at f9;have s2:=Q5 (e:=chK cpE a i (szA vs a) (j+1)) go (EG _);refine AB ?_;refine D6 AZ ?_;refine NY f1 f5 f8 f9 (IU ge) (PO go) ?_;refine⟨_,AEW G (wt i) i H (jF _) hw,?_⟩
   try refine ES f1 f8 f9 (PO go) ?_
   refine⟨_,YH G _ H,?_⟩
   try refine JI @gV f1 f8 f9 (PO go) ?_
   refine⟨_,fJ G 15 .full [cpE i,cE ((szA vs a-1-j:Nat):Int)] H,?_⟩
   try refine ES f1 f8 f9 (PO go) ?_
   refine⟨_,QS G a (szA vs a-1-j) U ha H,?_⟩
   try refine JI bs3 f1 f8 f9 (PO go) ?_
   refine⟨_,fJ G 22 .full [.mk 15 0 ⟨#[]⟩ .full [cpE i,cE ((szA vs a-1-j:Nat):Int)],vaE a (szA vs a-1-j),chK cpE a i (szA vs a) j] H,?_⟩;change DU jA H 79 (.ptr ob 0 0) (.agg (A8 (.mk 22 0 ⟨#[]⟩ .full [.mk 15 0 ⟨#[]⟩ .full [cpE i,cE ((szA vs a-1-j:Nat):Int)],vaE a (szA vs a-1-j),chK cpE a i (szA vs a) j])))=_ at s2;refine ES f8 s2 f9 w2 ?_;exact⟨n-1,U,j+1,U,AL,AL,AL,AL,AL,by rw[zD U];exact ge,by rw[zD U];exact gr,CV go,hx.set U _⟩
  .have hc:¬j<szA vs a:=fun q=>by rw[decide_eq_true U] at hc;cases hc
   have e:j=szA vs a:=U;rw[e] at go;refine AB ?_;exact⟨AL,AL,gr,go,hx⟩
 rintro F H ⟨f6,f8,gr,go,hx⟩;simp only[vQ,YX,CP,↓reduceIte,jC,enP,jQ,f6,f8,PO go,Q5 gr rfl];rw[JM (b:=h.length+2) (MB f6) (PO (CV gr))];exact⟨by unfold Z9;rw[if_neg o1],hx.set U _⟩
theorem ANU (vs:List Vr)(m:SM)(hl:vs.length<=1048576)(hv:∀v∈vs,FX v.name=true)(e:Ex):NdOk e->OV vs e=false->(H8 vs e).1<=400->∀h:Hp,PCall (En G) 177 [.agg [.sl m 4 (vs.map encV)],.agg (A8 e)] h (.agg (A8 (GZ sdP vs e))):=by
 induction e using Ex.induct with|h e ih=>?_
 intro hn hu hsm h;have hnm:=hn.name;have hal:=hn.len;refine ACalls.pure (R:=fun v H=>Sm.ext h H/\FH h.length H 4 v=.agg (A8 (GZ sdP vs e))) 4 ?_ (fun v H ⟨a,b⟩=>⟨a,b⟩);refine acL Tryz.func177 [.cell 4 79] ?_;have hscl:=WF sdP vs e;unfold scF at hscl;have gs:isS (h++[yE 1 [[.sl m 4 (vs.map encV)]]]++[yE 4 [A8 e]]++[yE 4 [EX]]) h.length m vs:=AO (AO (AX _ _));have ge:=AO (x:=yE 4 [EX]) (AX (h++[yE 1 [[.sl m 4 (vs.map encV)]]]) (yE 4 [A8 e]));have gr:=AX (h++[yE 1 [[.sl m 4 (vs.map encV)]]]++[yE 4 [A8 e]]) (yE 4 [EX]);have hx:Sm.ext h (h++[yE 1 [[.sl m 4 (vs.map encV)]]]++[yE 4 [A8 e]]++[yE 4 [EX]]):=(((ext.rfl' h).app _).app _).app _;have e1:(h++[yE 1 [[.sl m 4 (vs.map encV)]]]).length=h.length+1:=BA;have e2:(h++[yE 1 [[.sl m 4 (vs.map encV)]]]++[yE 4 [A8 e]]).length=h.length+2:=BA;refine ES @bxS @bxE RQ z4 ?_
 rw[e1] at ge|-
 rw[e2] at gr|-
 generalize h++[yE 1 [[.sl m 4 (vs.map encV)]]]++[yE 4 [A8 e]]++[yE 4 [EX]]=H1 at gs ge gr hx|-
 clear e1 e2;refine A7 (AOT ge) ?_;cases b24:(e.op==24)
 case true =>
  have ho:e.op=24:=BM b24;rw[if_pos ho] at hscl;refine DW b24 (isS.ld gs) (bV ge) ?_;refine(AQL G vs m hl hv e.name U (WA hu (.inr ho)) H1).use ?_;refine A7 (Q5 (e:=WE e.name (szA vs e.name-1)) gr rfl) ?_;rw[JM (b:=h.length+2) AQ (PO (CV gr))];exact⟨hx.set U _,by rw[hscl];exact RH _ _ 1 _⟩
 have o24:¬e.op=24:=BM b24;rw[if_neg o24] at hscl;have lr:=AC gr;refine DW b24 (U9 ge) (A6O H1 e.args.length U) ?_;have ho:kQ h ((e.args.map (GZ sdP vs)).take 0) (.own H1.length 0 0) (H1++[yE 4 (jR e.args.length EX)]):=⟨H1.length,jR e.args.length EX,hx.le,rfl,BA⟩;have gs:=AO (x:=yE 4 (jR e.args.length EX)) gs;have ge:=AO (x:=yE 4 (jR e.args.length EX)) ge;have gr:=AO (x:=yE 4 (jR e.args.length EX)) gr;have hx:=hx.app [yE 4 (jR e.args.length EX)];have hb0:∀b,isB (.own H1.length 0 0) b->h.length+2<b:=fun b hb=>by cases hb;omega
 generalize H1++[yE 4 (jR e.args.length EX)]=H2 at gs ge gr hx ho|-
 refine A7 (U9 ge) ?_;generalize AV.own H1.length 0 0=v0 at ho hb0;have hsl:(e.args.map (GZ sdP vs)).length=e.args.length:=List.length_map _;refine EU 0 (fun F H=>∃v,F 2=.ptr h.length 0 0/\F 3=.ptr (h.length+1) 0 0/\F 4=.ptr (h.length+2) 0 0/\F 5=v/\isS H h.length m vs/\H[h.length+1]?=some (yE 4 [A8 e])/\H[h.length+2]?=some (yE 4 [EX])/\Sm.ext h H/\kQ h (e.args.map (GZ sdP vs)) v H/\∀b,isB v b->h.length+2<b) (fun _ _=>False) ?_ ?_ (fun _ _ q=>q.elim)
 .refine BK (fun n F H=>∃j v,n+j=e.args.length/\F 2=.ptr h.length 0 0/\F 3=.ptr (h.length+1) 0 0/\F 4=.ptr (h.length+2) 0 0/\F 5=v/\F 20=.sl e.m 4 (e.args.map A8)/\F 21=.n (e.args.length:Nat)/\F 22=.n (j:Nat)/\isS H h.length m vs/\H[h.length+1]?=some (yE 4 [A8 e])/\H[h.length+2]?=some (yE 4 [EX])/\Sm.ext h H/\kQ h ((e.args.map (GZ sdP vs)).take j) v H/\∀b,isB v b->h.length+2<b) e.args.length
   ⟨0,v0,BA,AQ,AQ,AQ,AQ,AQ,AQ,AQ,gs,ge,gr,hx,ho,hb0⟩ ?_
  clear gs ge gr hx ho hb0;rintro n F H ⟨j,v,hj,f2,f3,f4,f5,f20,f21,f22,gs,ge,gr,hx,ho,hb0⟩;refine BB f21 f22 ?_;refine D9 ?_ ?_<;>intro hj'
  .have hmem:e.args[j]∈e.args:=List.getElem_mem hj'
   have ga:=AX H (yE 4 [A8 e.args[j]]);have gs:=AO (x:=yE 4 [A8 e.args[j]]) gs;have ge:=AO (x:=yE 4 [A8 e.args[j]]) ge;have gr:=AO (x:=yE 4 [A8 e.args[j]]) gr;have hx:=hx.app [yE 4 [A8 e.args[j]]]
   have ho:kQ h ((e.args.map (GZ sdP vs)).take j) v (H++[yE 4 [A8 e.args[j]]]):=by
    obtain⟨o,tail,q1,q2,q3⟩:=ho;exact⟨o,tail,q1,q2,AO q3⟩
   simp only[vQ,CP,↓reduceIte,jC,enP,PZ,jQ,f20,f22,CZ hj',DJ O6 JE EG hj',al79,st79]
   generalize H++[yE 4 [A8 e.args[j]]]=H3 at gs ge gr hx ga ho|-
   refine ES f2 f5 (isS.ld gs) (IU ga) ?_;refine(ih e.args[j] hmem (hn.arg hmem) (QT hu hmem) (yN hn hu hsm hmem) H3).use ?_;obtain⟨v',H',a1,a2,a3,a4,a5⟩:=ACR ho hx (by rw[List.length_take];omega) (GZ sdP vs e.args[j]);have hit:j<(e.args.map (GZ sdP vs)).length:=U;have hget:(e.args.map (GZ sdP vs))[j]=GZ sdP vs e.args[j]:=BA;rw[<-hget,<-List.take_succ_eq_append_getElem hit] at a2;have lr3:=AC gr;refine ES @uO a1 f22 (DC j) ?_;refine⟨n-1,U,j+1,v',U,AL,AL,AL,AL,AL,AL,AL,a4 _ _ gs (fun q=>?_),a4 _ _ ge (fun q=>?_),a4 _ _ gr (fun q=>?_),a3,a2,fun b hb=>?_⟩
   .have:=hb0 _ q;omega
   .have:=hb0 _ q;omega
   .have:=hb0 _ q;omega
   .have:=a5 b hb;omega
  .rw[jJ U] at ho
   refine AB ?_;exact⟨v,AL,AL,AL,AL,gs,ge,gr,hx,ho,hb0⟩
 clear gs ge gr hx ho hb0;rintro F H ⟨v,f2,f3,f4,f5,gs,ge,gr,hx,ho,hb0⟩;obtain⟨o,tail,q1,rfl,q3⟩:=ho;have hbo:=hb0 o rfl;refine BB f3 (AOT ge) ?_;cases b3:(e.op==3)
 case true =>
  have o3:e.op=3:=BM b3;rw[if_pos o3] at hscl;obtain⟨b,hb⟩:=VV hn.self o3;have hm:b∈e.args:=by rw[hb];simp
  have hargs:e.args.map (GZ sdP vs)=[GZ sdP vs b]:=by rw[hb];rfl
  rw[hargs] at hscl q3;have hw:=AQV AJO (hn.arg hm) (QT hu hm) (yN hn hu hsm hm);obtain⟨c1,c2⟩:=fB (s:=sdP) (hn.arg hm) (QT hu hm);have hlen:(e.args.map (GZ sdP vs)).length=1:=by rw[hargs];rfl
  rw[hlen] at f5;have ix0:IM 4 H (.own o 0 1) (.n 0)=some (.ptr o 0 0):=GM q3 (show 0<1 from Nat.one_pos)
  have ld0:BI jA H 79 (.ptr o 0 0)=some (.agg (A8 (GZ sdP vs b))):=by
   rw[ED O6 JE q3 (row:=A8 (GZ sdP vs b)) rfl (by rw[EG];exact jF 4),List.drop_zero,jJ (by rw[EG];exact jF 4)]
  refine A7 b3 ?_;refine D6 AZ ?_;refine SE f2 f3 f4 f5 (isS.ld gs) (bV ge) ix0 ld0 ?_;refine⟨_,AE0 G vs m hl hv e.name U (GZ sdP vs b) U (fun q=>by rw[c2 (c1.1 q)];exact c1.1 q) H,?_⟩;refine BB f4 (Q5 (e:=Z9 cpE e.name (GZ sdP vs b) (szA vs e.name)) gr rfl) ?_;rw[JM (b:=h.length+2) (EI f4) (PO (CV gr))];exact⟨hx.set U _,by rw[hscl];exact RH _ _ 1 _⟩
 have o3:¬e.op=3:=BM b3;rw[if_neg o3] at hscl;generalize hys:e.args.map (GZ sdP vs)=ys at *;have ge2:=ge;rw[FI] at ge2;have hst:=A5X ge2 (o:=o) (k:=ys.length);have g1':(H.set (h.length+1) (yE 4 [[.n e.op,.n e.n,.str e.name,.own o 0 ys.length]]))[h.length+1]?=some (yE 4 [[.n e.op,.n e.n,.str e.name,.own o 0 ys.length]]):=CV ge2;have g2':(H.set (h.length+1) (yE 4 [[.n e.op,.n e.n,.str e.name,.own o 0 ys.length]]))[h.length+2]?=some (yE 4 [EX]):=by rw[zD U];exact gr
 have q3':(H.set (h.length+1) (yE 4 [[.n e.op,.n e.n,.str e.name,.own o 0 ys.length]]))[o]?=some (yE 4 (ys.map A8++tail)):=by rw[zD U];exact q3
 have hx':=hx.set (b:=h.length+1) U (yE 4 [[.n e.op,.n e.n,.str e.name,.own o 0 ys.length]]);refine JI b3 f3 f4 f5 hst ?_
 generalize H.set (h.length+1) (yE 4 [[.n e.op,.n e.n,.str e.name,.own o 0 ys.length]])=H3 at g1' g2' q3' hx'|-
 have hlf4:([.n e.op,.n e.n,.str e.name,.own o 0 ys.length]:List AV).all AV.leaf=true:=rfl;refine ES f3 f4 (KZ g1' rfl) (XA g2' rfl rfl hlf4) ?_;rw[JM (b:=h.length+2) (EI f4) (KZ (CV g2') rfl)];refine⟨hx'.set U _,?_⟩;have ho4:kQ h ys (.own o 0 ys.length) (H3.set (h.length+2) (yE 4 [[.n e.op,.n e.n,.str e.name,.own o 0 ys.length]])):=⟨o,tail,q1,rfl,by rw[zD U];exact q3'⟩;have hz:=ACQ ho4 1;show AV.agg [.n e.op,.n e.n,.str e.name,FH h.length _ 3 (.own o 0 ys.length)]=_;rw[hz,hscl,FI];rfl
theorem A83 (h:Hp):GH jA h 233=some (.ptr h.length 0 0,h++[yE 1 [[.sl .nil 0 []]]]):=FB (row:=[.sl .nil 0 []]) AZ
theorem A8R (m:SM)(xs:List (List AV)):I5 jA 233 [(0,.sl m 4 xs)]=some (.agg [.sl m 4 xs]):=AZ
theorem A5Z (h:Hp)(m:SM)(vs:List Vr):DU jA (h++[yE 1 [[.sl .nil 0 []]]]) 233 (.ptr h.length 0 0) (.agg [.sl m 4 (vs.map encV)])=some (h++[yE 1 [[.sl m 4 (vs.map encV)]]]):=by
 rw[IR (cs:=[.sl m 4 (vs.map encV)]) (row:=[.sl .nil 0 []]) rfl A02 (AX _ _) (jF 1),JZ];rfl
theorem bdZ:I5 jA 79 []=some (.agg EX):=AZ
theorem stZ (g:H[b]?=some (yE 4 [EX])):DU jA H 79 (.ptr b 0 0) (.agg EX)=some (H.set b (yE 4 [EX])):=XA g rfl rfl rfl
theorem RX {p:Pr}(hb:H[b]?=some (yE 5 [CY p])):BI jA H 27 (.ptr b 0 0)=some (.agg (CY p)):=by rw[ED lC cY hb (row:=CY p) rfl (by rw[L8];exact jF 5)];rfl
theorem A6B {p:Pr}(P:PV p):∀v∈p.vars,FX v.name=true:=fun v hv=>(PQ (P.vr v hv)).1
theorem AQW {s:Bw}{vs:List Vr}{e:Ex}(h:scC vs e=0):scV s vs e=.tup [.agg (A8 (GZ s vs e)),.n 0]:=by unfold scV;rw[if_pos h,h]
theorem AGN {s:Bw}{vs:List Vr}{e:Ex}{z:Int}(h:scC vs e=z)(hz:z≠0):scV s vs e=.tup [.agg EX,.n z]:=by unfold scV;rw[if_neg (by rw[h];exact hz),h]
theorem AWK (s:Bw)(vs:List Vr)(e:Ex)(n:Nat)(H:Hp):FH n H 4 (scV s vs e)=scV s vs e:=by
 unfold scV;split
 .show AV.tup [FH n H 3 (.agg (A8 _)),.n _]=_
  rw[RH n H 0]
 .rfl
theorem AFZ (hG:GOk G)(p:Pr)(hs:PrS p)(hv:IX p=0)(e:Ex)(he:exE e=0)(h:Hp):PCall (En G) 97 [.agg (CY p),.agg (A8 e)] h (scV sdP p.vars e):=by
 have P:=PV.of hv;have hn:=NdOk.of he;have hvb:=A6B P;have hvl:=hs.vars;have hw:=ATK he;refine ACalls.pure (R:=fun v H=>v=scV sdP p.vars e/\Sm.ext h H) 4 ?_ (fun v H ⟨a,b⟩=>⟨b,by rw[a];exact AWK _ _ _ _ _⟩);refine acL Tryz.func97 [.cell 4 79,.tmp 5] ?_;have gp:=AO (x:=yE 4 [EX]) (AO (x:=yE 4 [A8 e]) (AX h (yE 5 [CY p])));have ge:=AO (x:=yE 4 [EX]) (AX (h++[yE 5 [CY p]]) (yE 4 [A8 e]));have gr:=AX (h++[yE 5 [CY p]]++[yE 4 [A8 e]]) (yE 4 [EX]);have hx:Sm.ext h (h++[yE 5 [CY p]]++[yE 4 [A8 e]]++[yE 4 [EX]]):=(((ext.rfl' h).app _).app _).app _;have e1:(h++[yE 5 [CY p]]).length=h.length+1:=BA;have e2:(h++[yE 5 [CY p]]++[yE 4 [A8 e]]).length=h.length+2:=BA;refine ES @QE @bxE RQ z4 ?_
 rw[e1] at ge|-
 rw[e2] at gr|-
 generalize h++[yE 5 [CY p]]++[yE 4 [A8 e]]++[yE 4 [EX]]=H1 at gp ge gr hx|-
 clear e1 e2;refine A7 (RX gp) ?_;refine(Bd.valid_prog G hG p hs H1).use ?_;refine BB (show(IX p != 0)=false by rw[hv];rfl) (IU ge) ?_;refine(OG G hG e H1 U).use ?_;have lr:=AC gr;refine JI (show(exE e != 0)=false by rw[he];rfl) (rP gp) A8R A83 A5Z ?_;have gs:isS (H1++[yE 1 [[.sl p.vm 4 (p.vars.map encV)]]]) H1.length p.vm p.vars:=AX _ _;have ge:=AO (x:=yE 1 [[.sl p.vm 4 (p.vars.map encV)]]) ge;have gr:=AO (x:=yE 1 [[.sl p.vm 4 (p.vars.map encV)]]) gr;have hx:=hx.app [yE 1 [[.sl p.vm 4 (p.vars.map encV)]]]
 generalize H1++[yE 1 [[.sl p.vm 4 (p.vars.map encV)]]]=H2 at gs ge gr hx|-
 generalize H1.length=sb at gs lr|-
 have bad:∀(z:Int) (F:Fr),scC p.vars e=z->z≠0->F 4=.ptr (h.length+2) 0 0->F 5=.n z->L6 jA [.cell 4 79,.tmp 5] (fun v H=>v=scV sdP p.vars e/\Sm.ext h H) .ret F (H2.set (h.length+2) (yE 4 [EX])):=fun z F q1 q2 f4 f5=>by
  rw[ZP (ba:=h.length+2) f4 (KZ (CV gr) rfl),f5];exact⟨by rw[AGN q1 q2],hx.set U _⟩
 refine BB (isS.ld gs) (IU ge) ?_;refine(ASE G p.vars p.vm hvl hvb e hn H2).use ?_;cases bu:OV p.vars e
 case true =>
  refine BB @bdZ (stZ gr) ?_;exact bad 7 _ (by unfold scC;rw[if_pos bu]) DT ER ER
 have hc1:scC p.vars e=if 400<(H8 p.vars e).1 then 2 else exE (GZ sdP p.vars e):=by unfold scC;rw[if_neg (by rw[bu];decide)]
 refine BB (isS.ld gs) (IU ge) ?_;refine(AOS G p.vars p.vm hvl hvb e hn bu H2).use ?_;have fx:pU jA 235 (.agg (exR (H8 p.vars e))) 0=some (.n ((H8 p.vars e).1:Nat)):=AZ;refine BB @AV0 fx ?_;cases bx:decide ((((H8 p.vars e).1:Nat):Int)>400)
 case true =>
  have q:=of_decide_eq_true bx;refine DW bx @bdZ (stZ gr) ?_;exact bad 2 _ (by rw[hc1,if_pos U]) DT ER ER
 have q:=of_decide_eq_false bx;rw[if_neg U] at hc1;have hx400:(H8 p.vars e).1<=400:=U;refine DW bx (isS.ld gs) (IU ge) ?_;refine(ANU G p.vars p.vm hvl hvb e hn bu hx400 H2).use ?_;have hwo:=AQV AJO hn bu hx400;have go:=AX H2 (yE 4 [A8 (GZ sdP p.vars e)]);have gr':=AO (x:=yE 4 [A8 (GZ sdP p.vars e)]) gr;have hx':=hx.app [yE 4 [A8 (GZ sdP p.vars e)]];refine BB al79 st79 ?_
 generalize H2++[yE 4 [A8 (GZ sdP p.vars e)]]=H3 at go gr' hx'|-
 refine A7 (PO go) ?_;refine(OG G hG (GZ sdP p.vars e) H3 U).use ?_;cases bz:(exE (GZ sdP p.vars e) != 0)
 case true =>
  have qz:exE (GZ sdP p.vars e)≠0:=BM bz;refine DW bz @bdZ (stZ gr') ?_;rw[ZP (ba:=h.length+2) ER (KZ (CV gr') rfl)];refine AB ?_;exact⟨by rw[AGN hc1 qz],hx'.set U _⟩
 have qz:exE (GZ sdP p.vars e)=0:=BM bz;simp only[vQ,CP,↓reduceIte,jC,enP,jQ,bz,PO go,Q5 gr' rfl];rw[ZP (ba:=h.length+2) ER (PO (CV gr'))];refine AB ?_;exact⟨by rw[AQW (hc1.trans qz)],hx'.set U _⟩
end
theorem A2K {a b a' b':List AV}(h1:CvRow a a')(h2:CvRow b b'):Cv (.sl .full 4 [a,b]) (.sl .full 4 [a',b']):=Cv.rows rfl fun i r r' p q=>by
 match i,p,q with
 | 0,p,q=>cases p;cases q;exact h1
 | 1,p,q=>cases p;cases q;exact h2
def R4 (r:List AV):Prop:=∃a n s m k xs,r=[.n a,.n n,.str s,.sl m k xs]
theorem R4.enc (e:Ex):R4 (A8 e):=⟨_,_,_,_,_,_,FI e⟩
theorem R4.len (h:R4 r):r.length=4:=by obtain⟨_,_,_,_,_,_,rfl⟩:=h;rfl
theorem R4.leaf {r:List AV}(h:R4 r):r.all AV.leaf=true:=by obtain⟨_,_,_,_,_,_,rfl⟩:=h;rfl
theorem BBH (h:Hp){s:List AV}(hr:R4 r)(hs:R4 s):DF jA false h 23 2 [(0,.agg r),(1,.agg s)]=some (.sl .full 4 [r,s],h):=by
 obtain⟨_,_,_,_,_,_,rfl⟩:=hr;obtain⟨_,_,_,_,_,_,rfl⟩:=hs
 kernel_rfl
abbrev isW (i:Ex)(k:Nat):List AV:=[.n 15,.n 0,.str ⟨#[]⟩,.sl .full 4 [A8 i,pB 1 (k:Nat)]]
def chW (a:ByteArray)(i:Ex)(n:Nat):Nat->List AV
 | 0=>pB 1 0
 | j+1=>[.n 22,.n 0,.str ⟨#[]⟩,.sl .full 4 [isW i (n-1-j),A8 (vaE a (n-1-j)),chW a i n j]]
theorem R4.is (i:Ex)(k:Nat):R4 (isW i k):=⟨_,_,_,_,_,_,rfl⟩
theorem R4.ch (a:ByteArray)(i:Ex)(n:Nat):∀j,R4 (chW a i n j)
 | 0=>⟨_,_,_,_,_,_,rfl⟩
 | _+1=>⟨_,_,_,_,_,_,rfl⟩
theorem AQN (h:Hp)(hr:R4 r):DU jA (h++[yE 4 [[.n 0,.n 0,.str ⟨#[]⟩,.sl .nil 0 []]]]) 79 (.ptr h.length 0 0) (.agg r)=some (h++[yE 4 [r]]):=by
 rw[XA (AX _ _) rfl hr.len hr.leaf,JZ]
def csW (a:ByteArray)(i:Ex)(n:Nat):List AV:=if i.op=1 then (if i.n<(n:Int) then A8 (vaE a i.n.toNat) else pB 1 0) else chW a i n n
theorem R4.cs (a:ByteArray)(i:Ex)(n:Nat):R4 (csW a i n):=by
 unfold csW;split
 .split
  .exact R4.enc _
  .exact⟨_,_,_,_,_,_,rfl⟩
 .exact R4.ch a i n n
end Go.Proofs.YtiihpnicbekebaaGreatDoor.Bd.Cl
namespace Go.Proofs.YtiihpnicbekebaaGreatDoor.Ho
open Sm Bins Cov Go.RowKit
def AGQ (l:List Ex):List AV:=[fzG 4 A8 l]
theorem AYW:Frz AGQ:=fun _ _ _ l=>by cases l<;>exact⟨rfl,rfl⟩
theorem A8G (h:Hp)(l:List Ex):DF jA false h 100 1 [(0,fzG 4 A8 l)]=some (.sl .full 1 [AGQ l],h):=by
 cases l with
 | nil=>show DF jA false h 100 1 [(0,.sl .nil 0 [])]=some (.sl .full 1 [[.sl .nil 0 []]],h);kernel_rfl
 | cons x xs=>exact A1Z h .any _
end Go.Proofs.YtiihpnicbekebaaGreatDoor.Ho
namespace Go.Proofs.YtiihpnicbekebaaGreatDoor.Ho
open Sm Bins Cov Xe Go.RowKit
variable {xs:List Rng} {e:Ex} {s:List Sg} {c:List (List Ex)} {i k t:Nat} {p:Pt} {m:Mo} {x:Hl}
theorem A2F (l:List Sg)(e:Ex):FV l (cpE e)=FV l e:=by
 induction e using Ex.induct with|h e ih=>?_
 rw[JY,JY l e,ALP,A7W,lM,yW,JJ,JJ,List.map_map];congr 1;exact List.map_congr_left fun x hx=>ih x hx
def kN (l:List Sg)(e:Ex):Bool:=(pre e).all (knE l)
theorem kNs (l:List Sg):∀xs:List Ex,(FM xs).all (knE l)=xs.all (kN l)
 | []=>rfl
 | x::xs=>by
   show(pre x++FM xs).all _=_;rw[List.all_append,wF,kNs l xs];rfl
theorem ASF (l:List Sg)(e:Ex):kN l e=(knE l e&&e.args.all (kN l)):=by
 unfold kN;rw[pre_eq,wF,kNs];rfl
theorem A62 (l:List Sg)(e:Ex):kN l (cpE e)=kN l e:=by
 unfold kN;rw[AGX,List.all_map];congr 1;funext x;show knE l (cpE x)=knE l x;unfold knE;rw[ALP,lM]
theorem A1E (l:List Sg)(n:Int):kN l (cE n)=true:=rfl
theorem ASG (l:List Sg):∀L:List Rng,(cEs L).all (kN l)=true
 | []=>rfl
 | a::L=>by rw[UA,wF,wF,A1E,A1E,ASG l L];rfl
theorem AKQ (l:List Sg)(e:Ex)(L:List Rng):kN l (JD e L)=kN l e:=by
 rw[UT,ASF];show(true&&(insL e L).all (kN l))=_;unfold insL;rw[wF,ASG,Bool.and_true,wG]
theorem A3K (l:List Sg)(a b:Ex):kN l (orE a b)=(kN l a&&kN l b):=by
 unfold orE;rw[ASF];show(true && [a,b].all (kN l))=_;simp
theorem AX4 (l:List Sg)(a:Ex):kN l (notE a)=kN l a:=by
 unfold notE;rw[ASF];show(true && [a].all (kN l))=_;simp
theorem AKP (l:List Sg)(e:Ex)(L:List Rng):∀k,kN l (NK e L k)=kN l e
 | 0=>AKQ l e _
 | k+1=>by
   show kN l (orE (NK e L k) (JD e (part L (k+1))))=_;rw[A3K,AKP l e L k,AKQ,Bool.and_self]
def cO (r:Rng):Prop:=0<=r.lo/\r.lo<=65535/\0<=r.hi/\r.hi<=65535
theorem AX5 {out:List Rng}{r:Rng}(h:∀x∈out,cO x)(hr:cO r):∀x∈join out r,cO x:=by
 unfold join;split
 .rename_i t ht
  split
  .intro x hx
   rcases zK.1 hx with hx|hx
   .exact h x ((List.dropLast_sublist out).subset hx)
   .rw[wI.1 hx]
    obtain⟨a,b,c,d⟩:=h t (List.mem_of_getLast? ht);obtain⟨a',b',c',d'⟩:=hr;exact⟨a,b,by show 0<=max t.hi r.hi;omega,by show max t.hi r.hi<=65535;omega⟩
  .grind
 .simp_all
theorem ANO (h:∀r∈xs,cO r):∀r∈normal xs,cO r:=by
 have gen:∀(ys out:List Rng),(∀r∈out,cO r)->(∀r∈ys,cO r)->∀r∈ys.foldl join out,cO r:=by
  intro ys
  induction ys with
  | nil=>intro out ho _;exact ho
  | cons y ys ih =>
    intro out ho hy;rw[List.foldl_cons];exact ih _ (AX5 ho (hy y BA)) fun r hr=>hy r (by simp [hr])
 refine gen _ [] (fun r hr=>by cases hr) fun r hr=>?_
 have:=List.mem_mergeSort.1 hr;exact h r ((List.mem_filter.1 this).1)
theorem AP7 (l:List Sg){n:Int}(h0:0<=n)(h1:n<=65535):FV l (cE n)=n.toNat:=by
 unfold cE;rw[JY];show(if(1:Int)=1 then n.toNat%65536 else _)=_;rw[if_pos rfl];omega
theorem ADE (l:List Sg)(v:Nat):∀L:List Rng,(∀r∈L,cO r)->Xe.insW v ((cEs L).map (FV l))=inside L (v:Int)
 | [],_=>rfl
 | a::L,h=>by
   obtain⟨a1,a2,a3,a4⟩:=h a BA;rw[UA,jK,jK,AP7 l a1 a2,AP7 l a3 a4];show((decide (a.lo.toNat<=v)&&decide (v<=a.hi.toNat))||Xe.insW v ((cEs L).map (FV l)))=(((decide (a.lo<=(v:Int))&&decide ((v:Int)<=a.hi))||inside L (v:Int)));rw[ADE l v L fun r hr=>h r (by simp [hr])];congr 2
   .rw[decide_eq_decide];omega
   .rw[decide_eq_decide];omega
theorem AA0 (l:List Sg)(e:Ex)(L:List Rng)(h:∀r∈L,cO r):FV l (JD e L)=tr (inside L ((FV l e:Nat):Int)):=by
 rw[UT,JY];show opW 23 (LU l (insL e L))=_;rw[JJ];unfold insL;rw[jK];show tr (Xe.insW (FV l e) ((cEs L).map (FV l)))=_;rw[ADE l _ L h]
theorem AV4 (l:List Sg)(a b:Ex){x y:Bool}(ha:FV l a=tr x)(hb:FV l b=tr y):FV l (orE a b)=tr (x||y):=by
 unfold orE;rw[JY];have e1:∀vs,XF l 20 0 ⟨#[]⟩ vs=opW 20 vs:=fun vs=>by unfold XF;simp
 have e2:opW 20 [tr x,tr y]=tr (x||y):=by cases x<;>cases y<;>decide
 show XF l 20 0 ⟨#[]⟩ (LU l [a,b])=_;rw[e1,JJ,jK,jK,jL,ha,hb,e2]
theorem AP6 (l:List Sg)(a:Ex){x:Bool}(ha:FV l a=tr x):FV l (notE a)=tr (!x):=by
 unfold notE;rw[JY];have e1:∀vs,XF l 4 0 ⟨#[]⟩ vs=opW 4 vs:=fun vs=>by unfold XF;simp
 have e2:opW 4 [tr x]=tr (!x):=by cases x<;>decide
 show XF l 4 0 ⟨#[]⟩ (LU l [a])=_;rw[e1,JJ,jK,jL,ha,e2]
theorem tE (L:List Rng)(k:Nat):L.take (16*(k+1))=L.take (16*k)++part L k:=by
 unfold part;rw[Nat.mul_add,Nat.mul_one,List.take_add]
theorem AJ3 {L:List Rng}(h:∀r∈L,cO r)(k:Nat):∀r∈part L k,cO r:=fun r hr=>h r (List.mem_of_mem_drop (List.mem_of_mem_take hr))
theorem AAZ (l:List Sg)(e:Ex)(L:List Rng)(h:∀r∈L,cO r):∀k,FV l (NK e L k)=tr (inside (L.take (16*(k+1))) ((FV l e:Nat):Int))
 | 0=>by
   show FV l (JD e (part L 0))=_;rw[AA0 l e _ (AJ3 h 0),tE];rfl
 | k+1=>by
   show FV l (orE (NK e L k) (JD e (part L (k+1))))=_;rw[AV4 l _ _ (AAZ l e L h k) (AA0 l e _ (AJ3 h (k+1))),tE L (k+1),LH]
theorem AKS (l:List Sg)(h:∀r∈xs,0<=r.lo/\r.lo<=r.hi/\r.hi<=65535)(hne:xs≠[]):FV l (EE e xs)=tr (inside xs ((FV l e:Nat):Int))/\kN l (EE e xs)=kN l e:=by
 have hn:=ANN h hne;have h16:=ANO fun r hr=>show cO r by have:=h r hr;unfold cO;omega
 unfold EE;rw[YK e _ hn,AAZ l _ _ h16,AKP,A62,A2F];refine⟨?_,rfl⟩;have hp:=parts_eq (normal xs);have hl:0<(normal xs).length:=List.length_pos_iff.2 hn;rw[List.take_of_length_le U,iP h]
theorem AJ8 (h:∀r∈xs,0<=r.lo/\r.lo<=r.hi/\r.hi<=65535)(hne:xs≠[])(he:(evE s e).2=0)(hx:exE (EE e xs)=0):okX s (EE e xs)=inside xs ((evE s e).1:Nat):=by
 obtain⟨h1,h2⟩:=AKS s (e:=e) h hne
 have hk:kN s e=true/\(evE s e).1=FV s e:=by
  unfold evE at he|-
  split at he
  .cases he
  split at he
  .rename_i q;exact⟨q,by rw[if_neg (by assumption),if_pos q]⟩
  .cases he
 rw[hk.1] at h2
 have hv:(evE s (EE e xs)).1=FV s (EE e xs):=by
  unfold evE;rw[if_neg (by rw[hx];simp),if_pos (show(pre _).all (knE s)=true from h2)]
 unfold okX;rw[hv,h1,hk.2];cases inside xs ((FV s e:Nat):Int)<;>rfl
theorem AJ7 (h:∀r∈xs,0<=r.lo/\r.lo<=r.hi/\r.hi<=65535)(hne:xs≠[])(he:(evE s e).2=0)(hx:exE (notE (EE e xs))=0):okX s (notE (EE e xs)) = !inside xs ((evE s e).1:Nat):=by
 obtain⟨h1,h2⟩:=AKS s (e:=e) h hne
 have hk:kN s e=true/\(evE s e).1=FV s e:=by
  unfold evE at he|-
  split at he
  .cases he
  split at he
  .rename_i q;exact⟨q,by rw[if_neg (by assumption),if_pos q]⟩
  .cases he
 rw[hk.1] at h2;rw[<-AX4] at h2
 have hv:(evE s (notE (EE e xs))).1=FV s (notE (EE e xs)):=by
  unfold evE;rw[if_neg (by rw[hx];simp),if_pos (show(pre _).all (knE s)=true from h2)]
 unfold okX;rw[hv,AP6 s _ h1,hk.2];cases inside xs ((FV s e:Nat):Int)<;>rfl
def AOK (c:List (List Ex))(l:List (List Sg)):Prop:=c.length<=l.length/\∀t,t<c.length->∀e∈c[t]?.getD [],okX (l.getD (l.length-c.length+t) []) e=true
theorem QN (cs:List (List (List Ex))):(J8 cs).length=OZ cs:=by unfold J8;simp
theorem pQ (cs:List (List (List Ex)))(t:Nat)(h:t<(J8 cs).length):(J8 cs)[t]?.getD []=cs.flatMap (rowC (OZ cs) t):=by
 rw[QN] at h;unfold J8;rw[jW,List.getElem?_range h];rfl
theorem AFS {cs:List (List (List Ex))}(hc:c∈cs)(ht:t<c.length)(he:e∈c[t]?.getD []):t+(OZ cs-c.length)<(J8 cs).length/\e∈(J8 cs)[t+(OZ cs-c.length)]?.getD []:=by
 have hl:=dP hc;have hlt:t+(OZ cs-c.length)<(J8 cs).length:=by rw[QN];omega
 refine⟨hlt,?_⟩;rw[pQ cs _ hlt,List.mem_flatMap];refine⟨c,hc,?_⟩;unfold rowC;rw[if_pos U,show t+(OZ cs-c.length)-(OZ cs-c.length)=t by omega];exact he
theorem AHR (cs:List (List (List Ex)))(l:List (List Sg)):AOK (J8 cs) l↔∀c∈cs,AOK c l:=by
 constructor
 .rintro⟨h1,h2⟩ c hc
  have hl:=dP hc;rw[QN] at h1;refine⟨U,fun t ht e he=>?_⟩;obtain⟨g1,g2⟩:=AFS hc ht he;have:=h2 _ g1 e g2;rw[QN] at this;rw[show l.length-c.length+t=l.length-OZ cs+(t+(OZ cs-c.length)) by omega];exact this
 .intro h
  have hn:OZ cs<=l.length:=WP cs 0 _ (Nat.zero_le _) fun c hc=>(h c hc).1
  refine⟨by rw[QN];exact hn,fun t ht e he=>?_⟩;rw[pQ cs t ht,List.mem_flatMap] at he;obtain⟨c,hc,he⟩:=he;have hl:=dP hc
  rw[QN] at ht|-
  unfold rowC at he;split at he
  .rename_i q
   rcases Nat.lt_or_ge (t-(OZ cs-c.length)) c.length with g|g
   .have:=(h c hc).2 _ g e he
    rw[show l.length-OZ cs+t=l.length-c.length+(t-(OZ cs-c.length)) by omega];exact this
   .simp_all
  .cases he
theorem ARU {y:Ex}(h':t<c.length):(ARV (some y) c)[t]?.getD []=if t=c.length-1 then c[t]?.getD []++[notE y] else c[t]?.getD []:=by
 show(c.set (c.length-1) (c[c.length-1]?.getD []++[notE y]))[t]?.getD []=_;rw[List.getElem?_set];split
 .simp_all
 .grind
theorem mem_row (h:e∈c[t]?.getD []):∃r∈c,e∈r:=by grind
def AYF (p:Pt)(b:Bin)(v:Nat->Int)(K:Nat):Prop:=(F7 b).length<=K/\(∀t (h:t<(F7 b).length),inside (F7 b)[t].l (v (K-(F7 b).length+t))=true)/\inside (KG p.bins) (v (K-1))=false
theorem AOJ {b:Bin}(vp:VP p)(vb:VB b){l:List (List Sg)}(he:∀k,k<l.length->(evE (l.getD k []) p.ex).2=0)(hx:∀r∈TZ EE p b,∀e∈r,exE e=0):
  AOK (TZ EE p b) l↔AYF p b (fun k=>((evE (l.getD k []) p.ex).1:Nat)) l.length:=by
 have hcl:=AEX EE p b;have hne:(F7 b).length≠0:=fun q=>vb.ne (qV q)
 have hget:∀t (ht:t<(F7 b).length),(TZ EE p b)[t]?.getD []=if t=(F7 b).length-1/\KG p.bins≠[] then [EE p.ex (F7 b)[t].l,notE (EE p.ex (KG p.bins))] else [EE p.ex (F7 b)[t].l]:=fun t ht=>by
  have h0:((F7 b).map fun s=>[EE p.ex s.l])[t]?.getD []=[EE p.ex (F7 b)[t].l]:=by simp_all
  unfold TZ badO;by_cases hb:KG p.bins=[]
  .rw[if_pos hb,if_neg (fun q=>q.2 hb)]
   exact h0
  .rw[if_neg hb,ARU (by rw[jP];exact ht),jP,h0]
   by_cases ht3:t=(F7 b).length-1
   .simp_all
   .simp_all
 have hex:∀ {t:Nat} {e:Ex},e∈(TZ EE p b)[t]?.getD []->exE e=0:=fun h=>by
  obtain⟨r,hr,hm⟩:=mem_row h;exact hx r hr _ hm
 unfold AOK AYF;rw[hcl];refine and_congr_right fun hle=>?_
 constructor
 .intro h
  constructor
  .intro t ht
   have hm:EE p.ex (F7 b)[t].l∈(TZ EE p b)[t]?.getD []:=by rw[hget t ht];split<;>simp
   have:=h t ht _ hm;obtain⟨e1,_,e3⟩:=vb.each _ (jG ht);rw[AJ8 e3 e1 (he _ U) (hex hm)] at this;exact this
  .by_cases hb:KG p.bins=[]
   .rw[hb];rfl
   .have ht:(F7 b).length-1<(F7 b).length:=U
    have hm:notE (EE p.ex (KG p.bins))∈(TZ EE p b)[(F7 b).length-1]?.getD []:=by simp_all
    have:=h _ ht _ hm;rw[AJ7 vp.badOk hb (he _ U) (hex hm)] at this;rw[show l.length-(F7 b).length+((F7 b).length-1)=l.length-1 by omega] at this;simpa using this
 .rintro⟨h1,h2⟩ t ht e hm
  have hxe:=hex hm;rw[hget t ht] at hm;have hcase:e=EE p.ex (F7 b)[t].l\/(t=(F7 b).length-1/\KG p.bins≠[]/\e=notE (EE p.ex (KG p.bins))):=by grind
  rcases hcase with rfl|⟨rfl,hb,rfl⟩
  .obtain⟨e1,_,e3⟩:=vb.each _ (jG ht)
   rw[AJ8 e3 e1 (he _ U) hxe];exact h1 t ht
  .rw[AJ7 vp.badOk hb (he _ U) hxe,show l.length-(F7 b).length+((F7 b).length-1)=l.length-1 by omega,h2]
   rfl
theorem tS (bins:List Bin)(last:List Int)(v kind:Int):∀(n j:Nat),j∈NH bins last v kind n↔j<n/\(bins[j]?.map (hK last v kind)).getD false=true
 | 0,j=>by simp [NH]
 | n+1,j=>by
   simp only[NH,zK,tS bins last v kind n j];constructor
   .grind
   .grind
theorem AGW {last:List Int}(h:(ptE p last s).err=0):(evE s p.ex).2=0/\(ptE p last s).next=nextL last (evE s p.ex).1 /\
  ∀j,j∈(ptE p last s).hit↔(inK p.bins 2 (evE s p.ex).1=false/\inK p.bins 1 (evE s p.ex).1=false)/\j∈iU p last (evE s p.ex).1 0:=by
 unfold ptE at h|-
 split at h
 .cases h
 split at h
 .rename_i q;exact absurd h q
 rename_i q1 q2;rw[if_neg q1,if_neg q2];have he:(evE s p.ex).2=0:=BM q2;split
 .simp_all
 .grind
theorem ALX:∀(l:List Bin) (v:Int),inside (KG l) v=l.any fun b=>(b.kind != 0)&&inside b.ranges.l v
 | [],_=>rfl
 | b::l,v=>by
   rw[KG,LH,List.any_cons,ALX l v];congr 1;by_cases h:b.kind=0
   .rw[if_neg (BM h),h];rfl
   .simp_all
theorem AZ4 (vp:VP p)(v:Int):(inK p.bins 2 v=false/\inK p.bins 1 v=false)↔inside (KG p.bins) v=false:=by
 rw[ALX];unfold inK;simp only[List.any_eq_false];constructor
 .rintro⟨h2,h1⟩ b hb q
  rw[jM] at q;have k0:=(vp.bins b hb).k0;have k2:=(vp.bins b hb).k2;have hn:b.kind≠0:=by simpa using q.1
  rcases (U:b.kind=1\/b.kind=2) with e|e
  .exact h1 b hb (by rw[e,q.2];rfl)
  .exact h2 b hb (by rw[e,q.2];rfl)
 .simp_all
def aI (v:Nat->Int)(k:Nat):List Int:=((List.range k).map v).drop (k-7)
theorem fM (v:Nat->Int)(k:Nat):(aI v k).length=k-(k-7):=by unfold aI;simp
theorem AN0 (v:Nat->Int)(h:i<k-(k-7)):(aI v k)[i]?=some (v (k-7+i)):=by
 unfold aI;rw[List.getElem?_drop,jW,List.getElem?_range U];rfl
theorem AHE (v:Nat->Int)(k:Nat)(n:Nat)(hn:v k=(n:Int)):nextL (aI v k) n=aI v (k+1):=by
 unfold nextL;rw[fM];unfold aI;rw[List.range_succ,List.map_append,<-List.drop_append_of_le_length BA,List.drop_drop];congr 1
 .omega
 .rw[List.map_singleton,hn]
theorem AOH {b:Bin}(vb:VB b)(hv:IQ b=0)(v:Nat->Int)(k:Nat):hit b (aI v k) (v k)=true↔(F7 b).length<=k+1/\∀t (h:t<(F7 b).length),inside (F7 b)[t].l (v (k+1-(F7 b).length+t))=true:=by
 have h8:=vb.few;have hne:(F7 b).length≠0:=fun q=>vb.ne (qV q)
 unfold hit ADO;rw[bD,fM,decide_eq_true hv,wG,jM,decide_eq_true_iff,zL]
 have hvl:∀t,t<(F7 b).length->(F7 b).length<=k+1->cV (aI v k) (F7 b).length (v k) t=v (k+1-(F7 b).length+t):=fun t ht hle=>by
  unfold cV;rw[fM];split
  .rw[AN0 v U]
   show v _=v _;congr 1;omega
  .congr 1
   omega
 have hsa:∀t (h:t<(F7 b).length),setAt b t=(F7 b)[t].l:=fun t h=>by
  unfold setAt;rw[bD,jI h];rfl
 constructor
 .grind
 .grind
theorem AIH (h:FQ m=0):∀p∈m.pts,∀b∈p.bins,IQ b=0:=by
 unfold FQ at h;split at h
 .cases h
 split at h
 .rename_i q;exact absurd h q
 rename_i q;intro p hp b hb;have h:=P5 _ (BM q) p hp;unfold I4 at h;split at h
 .cases h
 split at h
 .rename_i q;exact absurd h q
 split at h
 .cases h
 split at h
 .cases h
 split at h
 .rename_i q;exact absurd h q
 rename_i q2;exact P5 _ (BM q2) b hb
section
variable {m:Mo} {l:List (List Sg)} (R:RunOk m l)
include R
theorem AWM (hk:k<l.length)(hi:i<m.pts.length):(evE (l.getD k []) m.pts[i].ex).2=0:=by
 obtain⟨h1,h2,h3⟩:=R.at' hk hi;have he:=R.err hk h1;rw[h3] at he;have:=(AGW he).1;rw[zI,jI hk];exact this
theorem ABS {i:Nat}(hi:i<m.pts.length):∀k,k<=l.length->(stK m l k).ls.getD i []=aI (fun k=>((evE (l.getD k []) m.pts[i].ex).1:Nat)) k
 | 0,_=>by
   show(List.replicate m.pts.length []).getD i []=_;rw[zI,List.getElem?_replicate,if_pos hi];rfl
 | k+1,hk=>by
   have ih:=ABS hi k U;obtain⟨h1,h2,h3⟩:=R.at' (U:k<l.length) hi;have he:=R.err (U:k<l.length) h1;rw[R.last U hi,h3];rw[h3] at he;rw[(AGW he).2.1];rw[zI,jI h2] at ih;rw[show(stK m l k).ls[i]=_ from ih];refine AHE _ k _ ?_;show(((evE (l.getD k []) m.pts[i].ex).1:Nat):Int)=_;rw[zI,jI (U:k<l.length)];rfl
theorem AMS {j:Nat}(hk:k<l.length)(hi:i<m.pts.length)(hj:j<m.pts[i].bins.length)(h0:m.pts[i].bins[j].kind=0):
  j∈((rsK m l k).map PtR.hit).getD i []↔AYF m.pts[i] m.pts[i].bins[j] (fun k=>((evE (l.getD k []) m.pts[i].ex).1:Nat)) (k+1):=by
 obtain⟨h1,h2,h3⟩:=R.at' hk hi;have he:=R.err hk h1;have vp:=lV R.me _ (jG hi);have vb:=vp.bins _ (jG hj);have hl:=ABS R hi k U;rw[zI,jI h2] at hl;have hl':(stK m l k).ls[i]=_:=hl;rw[zI,jW,jI h1];show j∈(rsK m l k)[i].hit↔_
 rw[h3] at he|-
 rw[(AGW he).2.2,AZ4 vp];unfold iU;rw[tS,jI hj];show inside _ _=false/\j<_/\hK _ _ 0 _=true↔_;unfold hK;rw[h0,if_pos (show((0:Int)==0)=true from rfl)];have hv:((evE l[k] m.pts[i].ex).1:Int)=(fun k=>((evE (l.getD k []) m.pts[i].ex).1:Int)) k:=by simp_all
 have hva:IQ m.pts[i].bins[j]=0:=AIH R.me _ (jG hi) _ (jG hj);rw[hl',hv,show((0:Int)==0)=true from rfl,wG,AOH vb hva];unfold AYF;constructor
 .simp_all
 .simp_all
end
theorem WV (P:List (List Int))(i j:Nat):cellAt (O5 P) i j=(P.getD i []).getD j 0:=by
 unfold cellAt O5;rw[jW,zI,zI]
 cases P[i]? with
 | none=>rfl
 | some x =>
   show(match x[j]? with|some z=>z|none=>0)=_;show _=(x[j]?).getD 0;cases x[j]? <;> rfl
theorem AQX {n:Int}(h:0<=n):0<rz n:=by unfold rz;omega
theorem AJE:∀ {ns:List Nat} {l:List Int} {z:Nat},KA ns l=true->(∀n∈ns,1<=n)->(z+1)*JB ns<=4611686018427387904->∀r:Nat,Z5 ns l (z:Int)=(r:Int)->(tupF ns r).1.map (fun n:Nat=>(n:Int))=l/\(tupF ns r).2=z
 | [],[],z,_,_,_,r,hr=>by
   have:r=z:=by have:(z:Int)=(r:Int):=hr;omega
   subst this;exact⟨rfl,rfl⟩
 | [],_::_,_,h,_,_,_,_=>by simp [KA] at h
 | _::_,[],_,h,_,_,_,_=>by simp [KA] at h
 | n::ns,x::xs,z,h,h1,hb,r,hr=>by
   simp only[KA,jM,decide_eq_true_eq] at h;obtain⟨⟨x0,x1⟩,hin⟩:=h;have hP:=fH (ns:=ns) fun k hk=>h1 k (yB _ hk)
   rw[bH] at hb;obtain⟨y,rfl⟩:∃y:Nat,x=(y:Int):=⟨x.toNat,U⟩;have hy:y<n:=U;generalize hp:JB ns=P at hP hb;have e1:(z+1)*(n*P)=(z*n+n)*P:=by grind
   have e2:(z*n+n)<=(z*n+n)*P:=Nat.le_mul_of_pos_right _ hP;have e3:(z*n+y+1)*P<=(z*n+n)*P:=Nat.mul_le_mul_right P U;have w1:IntKind.i64.wrap ((z:Int)*(n:Int))=((z*n:Nat):Int):=by rw[<-Int.natCast_mul];exact MR U
   have w2:IntKind.i64.wrap (((z*n:Nat):Int)+(y:Int))=((z*n+y:Nat):Int):=by rw[<-Int.natCast_add];exact MR U
   have hr':Z5 ns xs ((z*n+y:Nat):Int)=(r:Int):=by
    have:Z5 ns xs (IntKind.i64.wrap (IntKind.i64.wrap ((z:Int)*(n:Int))+(y:Int)))=(r:Int):=hr;rw[w1,w2] at this;exact this
   obtain⟨i1,i2⟩:=AJE hin (fun k hk=>h1 k (yB _ hk)) (by rw[hp];omega) r hr';have hm:(z*n+y)%n=y:=by rw[Nat.add_comm,Nat.mul_comm,Nat.add_mul_mod_self_left,Nat.mod_eq_of_lt hy]
   have hd:(z*n+y)/n=z:=by rw[Nat.add_comm,Nat.mul_comm,Nat.add_mul_div_left _ _ U,Nat.div_eq_of_lt hy,Nat.zero_add]
   refine⟨?_,?_⟩
   .show(((tupF ns r).2%n)::(tupF ns r).1).map _=_
    rw[jK,i1,i2,hm]
   .show(tupF ns r).2/n=z
    rw[i2,hd]
theorem AYA (hg:Cov.Good m)(hi:i<m.crs.length){l:List Int}(hin:KA (szs m m.crs[i].pts) l=true):∃k:Nat,Z5 (szs m m.crs[i].pts) l 0=(k:Int)/\k<JB (szs m m.crs[i].pts)/\TC (szs m m.crs[i].pts) k=l:=by
 obtain⟨k,h1,h2⟩:=ADL hg hi hin;have hcg:=hg.crs _ (jG hi);have hs:=hg.full.szs hcg.here;have hfour:=hcg.four;have hp:JB (szs m m.crs[i].pts)<=64^4:=mU _ 4 (fun n hn=>(hs n hn).2) (by rw[SG];exact hfour);exact⟨k,h1,h2,(AJE (z:=0) hin (fun n hn=>(hs n hn).1) U k h1).1⟩
theorem AFR (hits:List (List Nat)):∀L:List (Nat×Nat),allB (L.map fun q=>((q.1:Nat):Int)) (L.map fun q=>((q.2:Nat):Int)) hits=L.all fun q=>decide (q.2∈hits.getD q.1 [])
 | []=>rfl
 | q::L=>by
   show(Rk.hasB ((hits.getD ((q.1:Nat):Int).toNat []).map fun n:Nat=>(n:Int)) q.2&&allB (L.map fun q=>((q.1:Nat):Int)) (L.map fun q=>((q.2:Nat):Int)) hits)=_;rw[AFR hits L,wF,qB];congr 1;rw[Bool.eq_iff_iff,decide_eq_true_iff];unfold Rk.hasB;rw[List.any_eq_true];constructor
   .grind
   .grind
section
variable {m:Mo} {l:List (List Sg)} (R:RunOk m l)
include R
theorem AWA {j:Nat}(hk:k<l.length)(hi:i<m.pts.length)(_hj:j<m.pts[i].bins.length):(0<((stK m l (k+1)).P.getD i []).getD j 0)↔(0<((stK m l k).P.getD i []).getD j 0\/j∈((rsK m l k).map PtR.hit).getD i []):=by
 obtain⟨h1,h2,h3⟩:=R.at' hk hi;have hl:=R.rowLen (U:k<=l.length) hi
 have hw:Wn ((stK m l k).P.getD i []):=by
  have h2:=R.pl k U;rw[zI,jI U];exact(R.fit k U).ok.sh.wp _ (jG U)
 rw[R.row hk hi,Y8 j _ _ (by rw[h3];exact fG _ _ _) (fun x hx=>by rw[hl];rw[h3] at hx;exact vZ _ _ _ x hx)];rw[zI (l:=(rsK m l k).map PtR.hit),jW,jI h1];show _↔_\/j∈(rsK m l k)[i].hit;split
 .rename_i q
  exact⟨fun _=>.inr q,fun _=>AQX (hw.getD j).1⟩
 .simp_all
theorem AWB (hk:k<l.length)(hi:i<m.crs.length)(ht:t<JB (szs m m.crs[i].pts)):(0<((stK m l (k+1)).C.getD i []).getD t 0)↔(0<((stK m l k).C.getD i []).getD t 0\/crK m m.crs[i] ((rsK m l k).map PtR.hit) t=true):=by
 have hl:=R.rowCLen (U:k<=l.length) hi
 have hw:Wn ((stK m l k).C.getD i []):=by
  have h2:=R.cl k U;rw[zI,jI U];exact(R.fit k U).ok.sh.wc _ (jG U)
 rw[R.rowC hk hi];have hlt:t<((stK m l k).C.getD i []).length:=U
 generalize (stK m l k).C.getD i []=row at hlt hw hl|-
 have e1:(Xe.rowC m m.crs[i] ((rsK m l k).map PtR.hit) row).getD t 0=(Xe.rowC m m.crs[i] ((rsK m l k).map PtR.hit) row)[t]'(by rw[Xe.rowC_len];exact hlt):=by grind
 have e2:row.getD t 0=row[t]:=by simp_all
 rw[e1,e2];rw[Xe.rowC_get _ _ _ _ t hlt];split
 .rename_i q
  exact⟨fun _=>.inr q,fun _=>AQX (hw _ (jG hlt)).1⟩
 .simp_all
theorem AMJ (hv:NQ m x=true)(hk:k<l.length):(0<VR m x (cvS (stK m l (k+1))))↔(0<VR m x (cvS (stK m l k))\/∀q∈OB m x,q.2∈((rsK m l k).map PtR.hit).getD q.1 []):=by
 have hL:=mS hv;unfold VR;cases hc:x.cross
 .obtain⟨i,hi,j,hj,hz,hb,hkd,hg⟩:=VF hv hc
  rw[if_neg DT,if_neg DT,hz,hb];show(0<cellAt (O5 _) (i:Int).toNat (j:Int).toNat)↔(0<cellAt (O5 _) (i:Int).toNat (j:Int).toNat\/_);rw[WV,WV,qB,qB,AWA R hk hi hj]
  have hps:OB m x=[(i,j)]:=by
   unfold OB kW;rw[if_neg (by rw[hc];decide),hz,hb];simp
  rw[hps];simp
 .obtain⟨i,hi,hz,hin,hh,hg⟩:=VG hv hc
  obtain⟨t,t1,t2,t3⟩:=AYA hg hi hin
  have hix:(ixV (szs m m.crs[i].pts) x.bins).toNat=t:=by
   unfold ixV;rw[if_pos hin,t1,qB]
  rw[if_pos rfl,if_pos rfl,hz,UZ hi];show(0<cellAt (O5 _) (i:Int).toNat (ixV _ _).toNat)↔(0<cellAt (O5 _) (i:Int).toNat (ixV _ _).toNat\/_);rw[hix,WV,WV,qB,AWB R hk hi t2];refine or_congr Iff.rfl ?_;unfold crK;have hp:=hL.pts;unfold kW at hp;rw[if_pos hc,hz,UZ hi] at hp;have hp':m.crs[i].pts=(OB m x).map fun q=>((q.1:Nat):Int):=hp
  rw[t3,hh,wG]
  have hq:allB m.crs[i].pts x.bins ((rsK m l k).map PtR.hit)=allB ((OB m x).map fun q=>((q.1:Nat):Int)) ((OB m x).map fun q=>((q.2:Nat):Int)) ((rsK m l k).map PtR.hit):=by
   rw[<-hp',<-hL.bins]
  rw[hq,AFR,zL];simp
end
theorem ANG (hv:NQ m x=true):∀q∈OB m x,∃(h1:q.1<m.pts.length) (h2:q.2<m.pts[q.1].bins.length),m.pts[q.1].bins[q.2].kind=0:=by
 have hL:=mS hv;cases hc:x.cross
 .obtain⟨i,hi,j,hj,hz,hb,hkd,hg⟩:=VF hv hc
  have hps:OB m x=[(i,j)]:=by
   unfold OB kW;rw[if_neg (by rw[hc];decide),hz,hb];simp
  rw[hps];intro q hq;rw[wI.1 hq];exact⟨hi,hj,hkd⟩
 .obtain⟨i,hi,hz,hin,hh,hg⟩:=VG hv hc
  have hp:=hL.pts;unfold kW at hp;rw[if_pos hc,hz,UZ hi] at hp;have hp':m.crs[i].pts=(OB m x).map fun q=>((q.1:Nat):Int):=hp
  have hk:OJ m ((OB m x).map fun q=>((q.1:Nat):Int)) ((OB m x).map fun q=>((q.2:Nat):Int))=true:=by
   rw[<-hp',<-hL.bins];unfold Z7 at hh;rw[jM] at hh;exact hh.1
  have gen:∀L:List (Nat×Nat),OJ m (L.map fun q=>((q.1:Nat):Int)) (L.map fun q=>((q.2:Nat):Int))=true->∀q∈L,WQ m q.1 q.2=0:=by
   intro L
   induction L with
   | nil=>intro _ q hq;cases hq
   | cons y L ih =>
     intro h q hq;have h':((WQ m y.1 y.2==0)&&OJ m (L.map fun q=>((q.1:Nat):Int)) (L.map fun q=>((q.2:Nat):Int)))=true:=h;rw[jM] at h';rcases List.mem_cons.1 hq with rfl|hq
     .simpa using h'.1
     .exact ih h'.2 q hq
  intro q hq;obtain⟨a,b⟩:=hL.ok q hq;refine⟨a,b,?_⟩;have:=gen _ hk q hq;unfold WQ at this;have hbe:KD m (q.1:Int)=m.pts[q.1].bins:=by unfold KD;rw[qB,jI a]
  rw[hbe,qB,jI b] at this;exact this
theorem AO7 {l:List (List Sg)}(R:RunOk m l)(hv:NQ m x=true)(he:cnE EE m x=0):AOK (cnL EE m x) l↔∃k,k+1=l.length/\∀q∈OB m x,q.2∈((rsK m l k).map PtR.hit).getD q.1 []:=by
 have hL:=mS hv
 have hE:∀e∈(cnL EE m x).flatten,exE e=0:=by
  unfold cnE at he;rw[if_pos hv] at he;split at he
  .grind
  .cases he
 have hcl:cnL EE m x=J8 ((OB m x).map (cdQ EE m)):=rfl;rw[hcl] at hE;rw[hcl,AHR]
 have hone:∀q∈OB m x,∀k,k+1=l.length->(AOK (cdQ EE m q) l↔q.2∈((rsK m l k).map PtR.hit).getD q.1 []):=by
  intro q hq k hk;obtain⟨a,b,c⟩:=ANG hv q hq;have vp:=lV R.me _ (jG a);have vb:=vp.bins _ (jG b);rw[AMS R U a b c,hk];have hcd:=zR EE a b;rw[hcd];refine AOJ vp vb (fun k hk=>AWM R hk a) fun r hr e hm=>?_
  rw[<-hcd] at hr;obtain⟨t,ht,rfl⟩:=List.getElem_of_mem hr;obtain⟨g1,g2⟩:=AFS (zH.2 ⟨q,hq,rfl⟩) ht (e:=e) (by rw[jI ht];exact hm);obtain⟨r',hr',hm'⟩:=mem_row g2;exact hE e (List.mem_flatten.2 ⟨r',hr',hm'⟩)
 constructor
 .intro h
  have hn1:=hL.n1;obtain⟨q,hq⟩:=List.exists_mem_of_length_pos (U:0<(OB m x).length);obtain⟨a,b⟩:=hL.ok q hq;have h1:=(h _ (zH.2 ⟨q,hq,rfl⟩)).1;have h2:=(zE (ins:=EE) R.me a b).1;refine⟨l.length-1,U,fun q hq=>(hone q hq _ U).1 (h _ (zH.2 ⟨q,hq,rfl⟩))⟩
 .grind
end Go.Proofs.YtiihpnicbekebaaGreatDoor.Ho
