/- Part 5 of the proof (W3, O1, O2, O3, O4, O5, O6, O11, O12, O13, O14, P1, C1, C2, C3, Bs, Bt, O15, O16, O18, Sy, O21, O22, O23, S1, S2, O25, P2, O32, O26, O27, O29, O30, O24, O31, O33, S3, S4, W4, W5, S7, J1, J2, J3, O34, O35, O42, J4, J5); no condition. -/
import Derived.Shelf.SlSortCmp.WholeK
import Derived.Shelf.SlSortCmp.NoneTotal
import Derived.Shelf.SlicesG.Cmp
import Derived.Shelf.Spec.SlicesGrow
import Derived.Test.YtiihpnicbekebaaGreatDoorCH4
set_option linter.unusedVariables false
set_option linter.unusedSimpArgs false
set_option maxRecDepth 8000
set_option maxHeartbeats 8000000
open Go.Proofs.YtiihpnicbekebaaGreatDoor.Sm.ABlk renaming live→yK
open Bool renaming and_eq_true→jO,eq_iff_iff→qY,false_eq_true→qU,not_false→jE,or_eq_false_iff→wF,or_eq_true→qN,or_false→qB,true_and→wG
open Go.Proofs.Tryz renaming prog→jA
open Int renaming toNat_natCast→qG
open List renaming all_eq_true→zL,any_eq_false→qM,any_eq_true→qL,append_assoc→zK,append_nil→jP,cons_append→zG,contains_cons→zA,contains_nil→jX,drop_eq_getElem_cons→qC,drop_eq_nil_of_le→zM,drop_zero→zT,eq_nil_of_length_eq_zero→qX,findIdx?_eq_none_iff→wS,findIdx?_eq_some_iff_getElem→wR,foldl_cons→wC,getElem?_append_left→zX,getElem?_append_right→wM,getElem?_cons_succ→wP,getElem?_cons_zero→wE,getElem?_drop→wH,getElem?_eq_getElem→jG,getElem?_eq_none→zY,getElem?_map→jV,getElem?_set_ne→jY,getElem?_set→zJ,getElem_mem→jI,getElem_of_mem→qO,length_append→jT,length_cons→zO,length_drop→yB,length_eq_zero_iff→yH,length_map→jM,length_nil→zU,length_pos_iff→qZ,length_set→wB,length_take→jZ,length→wO,map_append→qR,map_congr_left→yA,map_cons→jK,map_map→qW,map_nil→jL,mem_append→zI,mem_cons_of_mem→yF,mem_cons→zQ,mem_map→zH,mem_of_getElem?→zZ,mem_singleton→qP,range→zN,replicate→jR,take_of_length_le→jJ,take_succ_eq_append_getElem→jU,take_zero→qK
open Nat renaming add_mul→qE,add_zero→zD,le_of_ble_eq_true→jB,le_refl→jF,lt_or_ge→jW,mul_le_mul_right→wL,one_mul→yD,reduceAdd→jS,reduceBEq→zB,reduceEqDiff→jC,zero_add→jH,zero_le→qI
open Option renaming getD_none→jQ,getD_some→jD
namespace Go.Proofs.YtiihpnicbekebaaGreatDoor.Bd.Cl
open Sm Bins Cov Xe Wd Bl Go.RowKit
def fdr (p:Pr)(lm:SM)(l:List Ex)(ab n:Nat)(ov:Bool)(st:Int):List AV:=[.sl p.vm 4 (p.vars.map encV),.sl p.hm 4 (p.hard.map AX),.sl p.sm 4 (p.soft.map AX),.sl p.dm 2 (p.dists.map IB),.sl p.gm 1 (p.groups.map Q9),.sl lm 4 (l.map AX),.own ab 0 n,.bool ov,.n st]
abbrev isF (H:Hp)(fb:Nat)(p:Pr)(lm:SM)(l:List Ex)(ab n:Nat)(ov:Bool)(st:Int):Prop:=H[fb]?=some (yK 9 [fdr p lm l ab n ov st])
section
variable {H:Hp} {fb:Nat} {p:Pr} {lm:SM} {l:List Ex} {ab n:Nat} {ov:Bool} {st:Int}
theorem isF.vs (h:isF H fb p lm l ab n ov st):BH jA H 22 (.ptr fb 0 0)=some (.sl p.vm 4 (p.vars.map encV)):=by rw[BA XK h rfl]; rfl
theorem isF.pr (h:isF H fb p lm l ab n ov st):BH jA H 27 (.ptr fb 0 0)=some (.agg (CW p)):=by rw[EF pQ kH h rfl (by show 0+5<=9; omega)]; rfl
theorem isF.es (h:isF H fb p lm l ab n ov st):BH jA H 23 (.ptr fb 0 5)=some (.sl lm 4 (l.map AX)):=by rw[BA LH h rfl]; rfl
theorem isF.as (h:isF H fb p lm l ab n ov st):BH jA H 32 (.ptr fb 0 6)=some (.own ab 0 n):=by rw[BA NE h rfl]; rfl
theorem isF.ovd (h:isF H fb p lm l ab n ov st):BH jA H 4 (.ptr fb 0 7)=some (.bool ov):=by rw[BA ag4 h rfl]; rfl
theorem isF.std (h:isF H fb p lm l ab n ov st):BH jA H 3 (.ptr fb 0 8)=some (.n st):=by rw[BA ag3 h rfl]; rfl
theorem isF.setSt (h:isF H fb p lm l ab n ov st)(z:Int):DT jA H 3 (.ptr fb 0 8) (.n z)=some (H.set fb (yK 9 [fdr p lm l ab n ov z])):=by
 rw[IU (cs:=[.n z]) rfl sz3 h (by show 8+1<=9; omega)]; rfl
theorem isF.setOv (h:isF H fb p lm l ab n ov st)(z:Bool):DT jA H 4 (.ptr fb 0 7) (.bool z)=some (H.set fb (yK 9 [fdr p lm l ab n z st])):=by
 rw[IU (cs:=[.bool z]) rfl sz4 h (by show 7+1<=9; omega)]; rfl
end
section
variable (G:Nat->AV)
theorem AAR (p:Pr)(hs:PrS p)(P:PV p)(lm:SM)(l:List Ex)(st:Int)(a:List Int)(ok:AOk p a)(fb ab:Nat)(hne:fb≠ab)(h:Hp)(hf:isF h fb p lm l ab a.length false st)(hb:isI h ab a) :
  ACalls (En G) 260 [.ptr fb 0 0] h fun _ H=>KB [fb,ab] h H∧match nxK p.vars p.vars.length a with
  | some a'=>isF H fb p lm l ab a.length false st∧isI H ab a'
  | none=>isF H fb p lm l ab a.length true st∧∃a',a'.length=a.length∧isI H ab a':=by
 generalize hO:nxK p.vars p.vars.length a=O;have hvl:=hs.vars;refine acL Tryz.func260 [] ?_;have hal:a.length=p.vars.length:=ok.len;have z1:IntKind.i64.wrap (((a.length:Nat):Int)-1)=((a.length:Nat):Int)-1:=wrap_i64 U U;refine DL @WQ @hf.as z1 ?_;refine ER 0 (fun F H=>KB [fb,ab] h H∧O=none∧F 0=.ptr fb 0 0∧isF H fb p lm l ab a.length false st∧∃a',a'.length=a.length∧isI H ab a') (fun F H=>KB [fb,ab] h H∧∃a',O=some a'∧isF H fb p lm l ab a.length false st∧isI H ab a') ?_ ?_ ?_
 .refine BJ (fun n F H=>∃k c,n=k∧k<=p.vars.length∧AOk p c∧nxK p.vars k c=O∧KB [fb,ab] h H∧isI H ab c∧isF H fb p lm l ab a.length false st∧F 0=.ptr fb 0 0∧F 2=.n (((k:Nat):Int)-1)) p.vars.length
   ⟨p.vars.length,a,rfl,jF _,ok,hO,KB.rfl' _ _,hb,hf,AL,by refine AA ?_; rw[hal]⟩ ?_
  clear hb hf;rintro n F H ⟨k,c,rfl,hkn,okc,hS,k1,qb,hf,f0,f2⟩;have ec:decide (((n:Nat):Int)-1≥0)=decide (1<=n):=by rw[decide_eq_decide]; omega
  refine A8 f2 ec ?_;refine BM ?_ ?_<;>intro hc
  .have h1:1<=n:=BG hc
   obtain⟨i,rfl⟩:∃i,n=i+1:=⟨n-1,U⟩;have hi:i<p.vars.length:=U;have hic:i<c.length:=by rw[okc.len]; exact hi
   have hia:i<a.length:=U;have ei:((((i+1:Nat):Int))-1)=((i:Nat):Int):=U;rw[ei] at f2;unfold nxK at hS;simp only[List.getElem?_eq_getElem hi] at hS;obtain⟨_,w1,w8,_⟩:=SN (P.vr _ (jI hi));have lmd:∀H:Hp,BH jA H 3 (.fptr 4 (p.vars.map encV) i 2)=some (.n p.vars[i].mode):=fun H=>by rw[CU ag3 hi]; rfl
   have zi:IntKind.i64.wrap (((i:Nat):Int)-1)=((i:Nat):Int)-1:=wrap_i64 U U;refine aI @yU f0 f2 @hf.vs hi lmd ?_;refine BM ?_ ?_<;>intro hm
   .have hm:p.vars[i].mode=0:=BG hm
    rw[if_pos hm] at hS;refine A8 f2 zi ?_;exact⟨i,U,i,c,rfl,U,okc,hS,k1,qb,hf,AC,AC⟩
   .have hm:¬p.vars[i].mode=0:=BG hm
    rw[if_neg hm] at hS;obtain⟨q0,q1⟩:=okc.rn i hi hm;obtain⟨r0,r1⟩:=okc.rng P i hi;have zz:IntKind.i64.wrap (c.getD i 0+1)=c.getD i 0+1:=wrap_i64 U U;have qb1:=qb.st (i:=i) hic (c.getD i 0+1);have qbs:isI (H.set ab (yK 1 ((c.set i (c.getD i 0+1)).map qencI))) ab (c.set i (c.getD i 0+1)):=CP qb;have hf1:isF (H.set ab (yK 1 ((c.set i (c.getD i 0+1)).map qencI))) fb p lm l ab a.length false st:=by unfold isF; rw[jY (Ne.symm hne)]; exact hf
    have k2:KB [fb,ab] h (H.set ab (yK 1 ((c.set i (c.getD i 0+1)).map qencI))):=k1.set AZ _;obtain⟨w,hw⟩:=Int.eq_ofNat_of_zero_le (U:0<=p.vars[i].width);have lw:∀H:Hp,BH jA H 3 (.fptr 4 (p.vars.map encV) i 1)=some (.n (w:Nat)):=fun H=>by rw[CU ag3 hi]; show some (AV.int .i64 p.vars[i].width)=_; rw[hw]
    rw[hw,Int.toNat_natCast] at hS q1;refine cC @WQ f0 f2 @hf.as @qb.ix hia @qb.ld hic zz qb1 ?_
    generalize H.set ab (yK 1 ((c.set i (c.getD i 0+1)).map qencI))=H1 at qbs hf1 k2|-
    have hic1:i<(c.set i (c.getD i 0+1)).length:=by rw[wB]; exact hic
    have ld1:=qbs.ld (i:=i) hic1;rw[Bl.getD_set_eq hic] at ld1;refine DZ A7 ?_;simp only[vQ,OM,↓reduceIte,jC,jS,Nat.add_zero,enP,bE,yR,LY,UN,yU,WQ,QD,VW,VG,f0,f2,hf1.as,qbs.ix hia,ld1,hf1.vs,CX hi,lw,A5C w U];refine BM ?_ ?_<;>intro hd
    .have hd:c.getD i 0+1<2^w:=BG hd
     rw[if_pos hd] at hS;refine AA ?_;exact⟨k2,_,hS.symm,hf1,qbs⟩
    .have hd:¬c.getD i 0+1<2^w:=fun q=>by rw[decide_eq_true q] at hd; cases hd
     rw[if_neg hd] at hS;have qb2:=qbs.st (i:=i) hic1 0;rw[List.set_set] at qb2;have qbz:isI (H1.set ab (yK 1 ((c.set i 0).map qencI))) ab (c.set i 0):=CP qbs;have hf2:isF (H1.set ab (yK 1 ((c.set i 0).map qencI))) fb p lm l ab a.length false st:=by unfold isF; rw[jY (Ne.symm hne)]; exact hf1
     have hp0:(0:Int)<2^p.vars[i].width.toNat:=Int.pow_pos DF
     have setok:AOk p (c.set i 0):=by
      refine⟨by rw[wB]; exact okc.len,fun j hj hmj=>?_,fun j hj hmj=>?_⟩
      .by_cases e:j=i
       .subst e; exact absurd hmj hm
       .rw[Bl.getD_set_ne (fun q=>e q.symm)]; exact okc.st j hj hmj
      .by_cases e:j=i
       .subst e; rw[Bl.getD_set_eq hic]; exact⟨Int.le_refl 0,hp0⟩
       .rw[Bl.getD_set_ne (fun q=>e q.symm)]; exact okc.rn j hj hmj
     refine TW @WQ f0 f2 @hf1.as @qbs.ix hia qb2 zi ?_;exact⟨i,U,i,c.set i 0,rfl,U,setok,hS,k2.set AZ _,qbz,hf2,AC,AC⟩
  .have h1:¬1<=n:=fun q=>by rw[decide_eq_true q] at hc; cases hc
   obtain rfl:n=0:=U;have hS:none=O:=hS;refine AA ?_;exact⟨k1,hS.symm,AC,hf,c,by rw[okc.len,hal],qb⟩
 .rintro F H ⟨k1,ho,f0,hf,c,hcl,qb⟩
  refine EM @gF @lH f0 @hf.setOv ?_;refine⟨k1.set AZ _,?_⟩;rw[ho];exact⟨CP hf,c,hcl,by unfold isI; rw[jY hne]; exact qb⟩
 .rintro F H ⟨k1,a',ho,hf,q⟩
  refine AY @A3N ?_;refine⟨k1,?_⟩;rw[ho];exact⟨hf,q⟩
theorem AIQ (hG:GOk G)(p:Pr)(hs:PrS p)(hv:IJ p=0)(lm:SM)(l:List Ex)(hl:l.length<=1048576)(hw:∀e∈l,wt e<=1048576)(hk:∀e∈l,xpE p.vars e=0)(h:Hp) :
  ACalls (En G) 182 [.agg (CW p),.sl lm 4 (l.map AX),.n 262144] h fun v H=>ext h H∧∃fb ab,h.length<=fb∧h.length<=ab∧fb≠ab∧v=.tup [.ptr fb 0 0,.n 0]∧isF H fb p lm l ab p.vars.length false 262144∧isI H ab (dP p):=by
 have P:=PV.of hv;have hvl:=hs.vars;refine JE (H:=hint [40] []) (enM G) Tryz.func182 rfl (by kernel_rfl) (by kernel_rfl) (jB (by kernel_rfl)) ?_;show awp _ _ _ _ _ (MJ _ [.tmp 6,.tmp 7] _);have ge:=AQ h (yK 5 [CW p]);have hx:=Sm.ext.r1 h (yK 5 [CW p]);have hge:h.length<(h++[yK 5 [CW p]]).length:=AZ;have ldP:∀ {H:Hp},H[h.length]?=some (yK 5 [CW p])->BH jA H 27 (.ptr h.length 0 0)=some (.agg (CW p)):=fun q=>by rw[EF pQ kH q (row:=CW p) rfl (by rw[OE]; exact jF 5)]; rfl
 refine A8 @ALY @QA ?_
 generalize h++[yK 5 [CW p]]=H0 at ge hx hge|-
 refine AY (ldP ge) ?_;refine(Bd.valid_prog G hG p hs H0).use ?_;have b0:(IJ p != 0)=false:=by rw[hv]; rfl
 refine DL b0 (show decide ((262144:Int)<0)=false by decide) (show decide ((262144:Int)>262144)=false by decide) ?_;refine ER 0 (fun F H=>ext h H∧H[h.length]?=some (yK 5 [CW p])∧F 1=.sl lm 4 (l.map AX)∧F 2=.n 262144∧F 3=.ptr h.length 0 0) (fun F H=>False) ?_ ?_ (fun _ _ q=>q.elim)
 .refine BJ (fun n F H=>∃i,n+i=l.length∧ext h H∧H[h.length]?=some (yK 5 [CW p])∧F 1=.sl lm 4 (l.map AX)∧F 2=.n 262144∧F 3=.ptr h.length 0 0∧F 24=.sl lm 4 (l.map AX)∧F 25=.n (l.length:Nat)∧F 26=.n (i:Nat)) l.length
   ⟨0,AZ,hx,ge,AL,AL,AL,AL,AL,AL⟩ ?_
  clear hx ge hge;rintro n F H ⟨i,hi,hx,ge,f1,f2,f3,f24,f25,f26⟩;refine A8 f25 f26 ?_;refine BM ?_ ?_<;>intro hc
  .have hi':i<l.length:=BG hc
   have gE:=AQ H (yK 4 [AX l[i]]);have ge:=AB (x:=yK 4 [AX l[i]]) ge;have hx:=hx.app [yK 4 [AX l[i]]];simp only[vQ,zA,jX,zB,qB,CG,↓reduceIte,jC,enP,PQ,jQ,f24,f26,CX hi',DC O1 JB EC hi',al79,st79]
   generalize H++[yK 4 [AX l[i]]]=H1 at ge hx gE|-
   refine DL f3 (ldP ge) (IM gE) ?_;refine(known_prog G hG p hvl l[i] (hw _ (jI hi')) H1).use ?_;have b1:(xpE p.vars l[i]==0)=true:=by rw[hk _ (jI hi')]; rfl
   refine DL b1 f26 (CZ i) ?_;exact⟨n-1,U,i+1,U,hx,ge,AC,AC,AC,AC,AC,AC⟩
  .refine AA ?_
   exact⟨hx,ge,AC,AC,AC⟩
 clear hx ge hge;rintro F H ⟨hx,ge,f1,f2,f3⟩;have hgl:=Z ge;have hxl:=hx.le;have bd:∀ab:Nat,IY jA 249 [(0,.agg (CW p)),(1,.sl lm 4 (l.map AX)),(2,.own ab 0 p.vars.length),(4,.n 262144)]=some (.agg (fdr p lm l ab p.vars.length false 262144)):=fun ab=>A7
 have bx:∀(H:Hp) (ab:Nat),MS H (.agg (fdr p lm l ab p.vars.length false 262144))=some (.ptr H.length 0 0,H++[yK 9 [fdr p lm l ab p.vars.length false 262144]]):=fun H ab=>rfl
 refine AA ?_;refine DZ A7 ?_;refine cC @A4N @XN f1 f2 f3 (ldP ge) (rN ge) (mkI H p.vars.length hvl) bd bx ?_;have qa:isI (H++[yK 1 ((jR p.vars.length (0:Int)).map qencI)]) H.length (jR p.vars.length 0):=AQ _ _;have qa:=AB (x:=yK 9 [fdr p lm l H.length p.vars.length false 262144]) qa;have ge:=AB (x:=yK 9 [fdr p lm l H.length p.vars.length false 262144]) (AB (x:=yK 1 ((jR p.vars.length (0:Int)).map qencI)) ge);have hx:=(hx.app [yK 1 ((jR p.vars.length (0:Int)).map qencI)]).app [yK 9 [fdr p lm l H.length p.vars.length false 262144]];have qf:isF (H++[yK 1 ((jR p.vars.length (0:Int)).map qencI)]++[yK 9 [fdr p lm l H.length p.vars.length false 262144]]) (H++[yK 1 ((jR p.vars.length (0:Int)).map qencI)]).length p lm l H.length p.vars.length false 262144:=AQ _ _;have hne:(H++[yK 1 ((jR p.vars.length (0:Int)).map qencI)]).length=H.length+1:=AZ
 generalize H++[yK 1 ((jR p.vars.length (0:Int)).map qencI)]++[yK 9 [fdr p lm l H.length p.vars.length false 262144]]=X at qa ge hx qf|-
 rw[hne] at qf|-
 generalize H.length=ob at qa qf hgl hxl|-
 refine A8 f3 (rN ge) ?_
 refine BJ (fun n F H=>∃i,n+i=p.vars.length∧isI H ob ((p.vars.map Vr.value).take i++jR (p.vars.length-i) 0)∧isF H (ob+1) p lm l ob p.vars.length false 262144∧ext h H∧F 10=.ptr (ob+1) 0 0∧F 45=.sl p.vm 4 (p.vars.map encV)∧F 46=.n (p.vars.length:Nat)∧F 47=.n (i:Nat)) p.vars.length
  ⟨0,rfl,by rw[List.take_zero,List.nil_append]; exact qa,qf,hx,AL,AL,AL,AL⟩ ?_
 clear qa ge hx qf f1 f2 f3;rintro n F H ⟨i,hn,qa,qf,hx,f10,f45,f46,f47⟩;refine A8 f46 f47 ?_;refine D8 (fun hi=>?_) (fun hc'=>?_)
 .have him:i<(p.vars.map Vr.value).length:=by rw[jM]; exact hi
  have qv:=AQ H (yK 4 [encV p.vars[i]]);have qa:isI (H++[yK 4 [encV p.vars[i]]]) ob ((p.vars.map Vr.value).take i++jR (p.vars.length-i) 0):=AB qa;have qf:isF (H++[yK 4 [encV p.vars[i]]]) (ob+1) p lm l ob p.vars.length false 262144:=AB qf;have hx:=hx.app [yK 4 [encV p.vars[i]]];have hlt:((p.vars.map Vr.value).take i).length=i:=by rw[List.length_take]; omega
  have hst:=qa.st (i:=i) KH p.vars[i].value
  have hset:((p.vars.map Vr.value).take i++jR (p.vars.length-i) 0).set i p.vars[i].value=(p.vars.map Vr.value).take (i+1)++jR (p.vars.length-(i+1)) 0:=by
   rw[List.set_append_right _ _ U,hlt,Nat.sub_self,show p.vars.length-i=(p.vars.length-(i+1))+1 by omega,List.replicate_succ,List.set_cons_zero,jU him,List.getElem_map,zK];rfl
  rw[hset] at hst;have l2:BH jA (H++[yK 4 [encV p.vars[i]]]) 3 (.ptr H.length 0 2)=some (.n p.vars[i].mode):=by rw[BA ag3 qv rfl]; rfl
  have l3:BH jA (H++[yK 4 [encV p.vars[i]]]) 3 (.ptr H.length 0 3)=some (.n p.vars[i].value):=by rw[BA ag3 qv rfl]; rfl
  simp only[vQ,zA,jX,zB,qB,CG,JS,↓reduceIte,jC,enP,bE,UM,jQ,f45,f47,CX hi,ldV hi,Bd.al61,Bd.st61,l2];refine BM ?_ ?_<;>intro hm
  .refine DZ A7 ?_
   simp only[vQ,zA,jX,zB,qB,QR,RX,PD,CG,↓reduceIte,jC,jS,enP,LY,WR,WQ,jQ,QD,VW,VG,f10,f47,l3,qf.as,qa.ix hi,hst,CZ i];exact⟨n-1,U,i+1,U,CP qa,by unfold isF; rw[jY U]; exact qf,hx.set U _,AC,AC,AC,AC⟩
  .have hm:p.vars[i].mode≠0:=BG hm
   obtain⟨_,_,_,_,_,_,_,v0⟩:=SN (P.vr _ (jI hi))
   have hsame:(p.vars.map Vr.value).take (i+1)++jR (p.vars.length-(i+1)) 0=(p.vars.map Vr.value).take i++jR (p.vars.length-i) 0:=by
    rw[jU him,List.getElem_map,v0 hm,zK,show p.vars.length-i=(p.vars.length-(i+1))+1 by omega,List.replicate_succ]; rfl
   refine A8 f47 (CZ i) ?_;exact⟨n-1,U,i+1,U,by rw[hsame]; exact qa,qf,hx,AC,AC,AC,AC⟩
 .rw[List.take_of_length_le (by rw[jM]; omega),show p.vars.length-i=0 by omega,List.replicate_zero,List.append_nil] at qa
  refine AY f10 ?_;exact⟨hx,ob+1,ob,U,U,U,AC,qf,qa⟩
end
end Go.Proofs.YtiihpnicbekebaaGreatDoor.Bd.Cl
namespace Go.Proofs.YtiihpnicbekebaaGreatDoor.Cov
open Sm Bins Go.RowKit
variable {ns:List Nat} {l:List Int} (G:Nat->AV )
def ixV (ns:List Nat)(l:List Int):Int:=if J7 ns l=true then ZP ns l 0 else 0
theorem AX8 (h:l.length≠ns.length):J7 ns l=false:=by
 cases e:J7 ns l
 .rfl
 .exact absurd (TB e).symm h
theorem AN6 {k:Nat}(hk:k<l.length)(hn:k<ns.length):J7 (ns.drop k) (l.drop k)=(decide (0<=l[k])&&decide (l[k]<(ns[k]:Int))&&J7 (ns.drop (k+1)) (l.drop (k+1))):=by
 rw[qC hk,qC hn]; rfl
theorem ASP {k:Nat}(hk:l.length<=k)(hn:ns.length<=k):J7 (ns.drop k) (l.drop k)=true:=by
 rw[zM hk,zM hn]; rfl
theorem AGJ (m:Mo)(z:Int)(hz:z<0∨(m.crs.length:Int)<=z)(h:Hp):PCall (En G) 145 [.agg (DR m),.n z] h (.bool false):=by
 refine ACalls.pure0 rfl ?_;refine acT Tryz.func145 4 ?_;refine AY @bxM ?_;cases d0:decide (z<0)
 .have d1:decide (z≥(m.crs.length:Int))=true:=by rw[decide_eq_true_eq]; rw[decide_eq_false_iff_not] at d0; omega
  refine MB sA @aF d1 ?_;exact⟨trivial,_,rfl⟩
 .refine AA ?_
  exact⟨trivial,_,rfl⟩
theorem nM (m:Mo)(z:Int)(hz:z<0∨(m.crs.length:Int)<=z)(l:List Int)(s:SM)(h:Hp):PCall (En G) 71 [.agg (DR m),.n z,.sl s 1 (l.map qencI)] h (.tup [.n 0,.bool false]):=by
 refine ACalls.pure 2 (R:=fun v H=>v=.tup [.n 0,.bool false]∧∃x,H=h++x) ?_ (fun v h' ⟨e,x⟩=>⟨x,by subst e; rfl⟩);refine acL Tryz.func71 [.tmp 6,.tmp 7] ?_;refine A8 @bxM (ldM (AQ h (yK 2 [DR m]))) ?_;refine(AGJ G m z hz _).uu ?_;exact⟨trivial,_,rfl⟩
theorem YB (m:Mo)(i:Nat)(hi:i<m.crs.length)(hg:CrGood m m.crs[i])(l:List Int)(s:SM)(hn:l.length<=1048576)(h:Hp):PCall (En G) 71 [.agg (DR m),.n (i:Int),.sl s 1 (l.map qencI)] h (.tup [.n (ixV (szs m m.crs[i].pts) l),.bool (J7 (szs m m.crs[i].pts) l)]):=by
 refine ACalls.pure 2 (R:=fun v H=>v=.tup [.n (ixV (szs m m.crs[i].pts) l),.bool (J7 (szs m m.crs[i].pts) l)]∧∃x,H=h++x) ?_ (fun v h' ⟨e,x⟩=>⟨x,by subst e; rfl⟩);have hx:∃x,h++[yK 2 [DR m]]=h++x:=⟨_,rfl⟩;refine acL Tryz.func71 [.tmp 6,.tmp 7] ?_;refine A8 @bxM (ldM (AQ h (yK 2 [DR m]))) ?_;refine(iI G m i hi hg _).use ?_;refine AY (ldM (AQ h (yK 2 [DR m]))) ?_;refine(eD G m i hi hg _).use ?_;generalize szs m m.crs[i].pts=ns;rcases Classical.em (l.length=ns.length) with hlen|hlen
 case inr =>
  have hne:((l.length:Int) != (ns.length:Int))=true:=by simp; omega
  have hb:=AX8 hlen;have hv:ixV ns l=0:=by unfold ixV; rw[hb]; rfl
  refine AY hne ?_;exact⟨by rw[hb,hv],hx⟩
 have hne:((l.length:Int) != (ns.length:Int))=false:=by rw[hlen]; simp
 refine AY hne ?_;refine BJ (fun n F H=>∃k,n+k=l.length∧F 8=.sl .any 1 (ns.map KJ)∧(∃z,F 9=.n z∧ZP ns l 0=ZP (ns.drop k) (l.drop k) z)∧F 24=.sl s 1 (l.map qencI)∧F 25=.n l.length∧F 26=.n (k:Nat)∧H=h++[yK 2 [DR m]]∧J7 ns l=J7 (ns.drop k) (l.drop k)) l.length ⟨0,AZ,AL,⟨0,rfl,rfl⟩,AL,AL,AL,rfl,rfl⟩ ?_;rintro n F H ⟨k,hk,f8,⟨z,f9,hz⟩,f24,f25,f26,rfl,hin⟩;refine A8 f25 f26 ?_;refine D8 ?_ ?_<;>intro hk'
 .have hkn:k<ns.length:=U
  rw[AN6 hk' hkn] at hin;rw[qC hk',qC hkn] at hz;cases d0:decide (l[k]<0)
  .have e0:decide (0<=l[k])=true:=by rw[decide_eq_true_eq]; rw[decide_eq_false_iff_not] at d0; omega
   cases d1:decide (l[k]≥(ns[k]:Int))
   .have e1:decide (l[k]<(ns[k]:Int))=true:=by rw[decide_eq_true_eq]; rw[decide_eq_false_iff_not] at d1; omega
    rw[e0,e1,wG,wG] at hin;simp only[vQ,PD,EI,CG,lN,ML,↓reduceIte,Nat.reduceEqDiff,Option.getD_some,Bool.not_false,enP,LY,f8,f9,f24,f26,CX hk',CU ag3 hk',encI0,d0,CX hkn,CU ag3 hkn,encN0,d1,CZ k];exact⟨n-1,U,k+1,U,trivial,⟨_,rfl,hz⟩,trivial,f25,rfl,trivial,hin⟩
   .have e1:decide (l[k]<(ns[k]:Int))=false:=by rw[decide_eq_false_iff_not]; rw[decide_eq_true_eq] at d1; omega
    rw[e1,Bool.and_false,Bool.false_and] at hin;have hv:ixV ns l=0:=by unfold ixV; rw[hin]; rfl
    refine cC f8 f9 f24 f26 hk' @encI0 d0 hkn @encN0 d1 ?_;exact⟨by rw[hin,hv],hx⟩
  .have e0:decide (0<=l[k])=false:=by rw[decide_eq_false_iff_not]; rw[decide_eq_true_eq] at d0; omega
   rw[e0,Bool.false_and,Bool.false_and] at hin;have hv:ixV ns l=0:=by unfold ixV; rw[hin]; rfl
   refine NW f8 f9 f24 f26 hk' @encI0 d0 ?_;exact⟨by rw[hin,hv],hx⟩
 .rw[ASP U U] at hin
  rw[zM (U:l.length<=k),ADU] at hz;have hv:ixV ns l=z:=by unfold ixV; rw[if_pos hin,hz]
  refine AY f9 ?_;exact⟨by rw[hin,hv],hx⟩
end Go.Proofs.YtiihpnicbekebaaGreatDoor.Cov
namespace Go.Proofs.YtiihpnicbekebaaGreatDoor.Ho
open Sm Bins Cov Go.RowKit
variable {H:Hp} {b i:Nat} {m:Mo} {p:Pt} {l:List Int}
structure Hl where
 cross:Bool
 idx:Int
 bm:SM
 bins:List Int
def FX (x:Hl):List AV:=[.bool x.cross,.n x.idx,.sl x.bm 1 (x.bins.map qencI)]
theorem AOS (x:Hl):(FX x).length=3:=rfl
theorem bxH (h:Hp)(x:Hl):MS h (.agg (FX x))=some (.ptr h.length 0 0,h++[yK 3 [FX x]]):=WT rfl
theorem ldH {x:Hl}(hb:H[b]?=some (yK 3 [FX x])):BH jA H 34 (.ptr b 0 0)=some (.agg (FX x)):=by
 rw[EF A4B vO hb rfl (by rw[AOS]; exact jF 3)]; rfl
theorem AX0 {x:Hl}(hb:H[b]?=some (yK 3 [FX x])):BH jA H 4 (.ptr b 0 0)=some (.bool x.cross):=by rw[BA ag4 hb (row:=FX x) rfl]; rfl
theorem ANT {x:Hl}(hb:H[b]?=some (yK 3 [FX x])):BH jA H 3 (.ptr b 0 1)=some (.n x.idx):=by rw[BA ag3 hb (row:=FX x) rfl]; rfl
theorem AR5 {x:Hl}(hb:H[b]?=some (yK 3 [FX x])):BH jA H 32 (.ptr b 0 2)=some (.sl x.bm 1 (x.bins.map qencI)):=by rw[BA NE hb (row:=FX x) rfl]; rfl
def AEY (m:Mo)(z:Int):Option Cr:=if 0<=z then m.crs[z.toNat]? else none
def AM7 (m:Mo)(z:Int):Option Pt:=if 0<=z then m.pts[z.toNat]? else none
def uB (p:Pt):List Int->Bool
 | [b]=>decide (0<=b)&&decide (b<(p.bins.length:Int))&&(kindOf p b.toNat==0)
 | _=>false
def crF (m:Mo)(x:Hl):Option Cr->Bool
 | some c=>J7 (szs m c.pts) x.bins&&ZQ m c x.bins
 | none=>false
def ptF (x:Hl):Option Pt->Bool
 | some p=>uB p x.bins
 | none=>false
def kW (m:Mo)(x:Hl):Bool:=if x.cross=true then crF m x (AEY m x.idx) else ptF x (AM7 m x.idx)
def MF (m:Mo)(x:Hl):Bool:=(FK m==0)&&kW m x
theorem AEX {z:Int}(h:z<0∨(m.crs.length:Int)<=z):AEY m z=none:=by
 unfold AEY;split
 .exact zY U
 .rfl
theorem UR (hi:i<m.crs.length):AEY m (i:Int)=some m.crs[i]:=by
 unfold AEY;rw[if_pos U,qG,jG hi]
theorem ACN {z:Int}(h:z<0∨(m.pts.length:Int)<=z):AM7 m z=none:=by
 unfold AM7;split
 .exact zY U
 .rfl
theorem AJ3 (hi:i<m.pts.length):AM7 m (i:Int)=some m.pts[i]:=by
 unfold AM7;rw[if_pos U,qG,jG hi]
theorem VQ (z:Int)(n:Nat):(z<0∨(n:Int)<=z)∨∃i:Nat,i<n∧z=(i:Int):=by
 rcases Classical.em (z<0∨(n:Int)<=z) with h|h
 .exact .inl h
 .exact .inr ⟨z.toNat,U,U⟩
structure Hb (h H:Hp) (m:Mo) (x:Hl) (hb:Nat):Prop where
 gm:H[h.length]?=some (yK 2 [DR m])
 gh:H[hb]?=some (yK 3 [FX x])
 hx:ext h H
theorem Hb.mk' (h:Hp)(m:Mo)(x:Hl):Hb h (h++[yK 2 [DR m]]++[yK 3 [FX x]]) m x (h++[yK 2 [DR m]]).length :=
 ⟨AB (AQ _ _),AQ _ _,((ext.rfl' h).app _).app _⟩
theorem AEA (h:l.length≠1):uB p l=false:=by
 match l,h with
 | [],_=>rfl
 | [b],h=>exact absurd rfl h
 | _::_::_,_=>rfl
theorem ANZ {k:Nat}(hk:k<p.bins.length):kindOf p k=p.bins[k].kind:=by unfold kindOf; rw[jG hk]
theorem uA {b:Int}(h:b<0∨(p.bins.length:Int)<=b):uB p [b]=false:=by
 show(decide (0<=b)&&decide (b<(p.bins.length:Int))&&(kindOf p b.toNat==0))=false;rcases h with h|h
 .rw[show decide (0<=b)=false by rw[decide_eq_false_iff_not]; omega]; rfl
 .rw[show decide (b<(p.bins.length:Int))=false by rw[decide_eq_false_iff_not]; omega,Bool.and_false]; rfl
theorem AEB {k:Nat}(hk:k<p.bins.length):uB p [(k:Int)]=(p.bins[k].kind==0):=by
 show(decide (0<=(k:Int))&&decide ((k:Int)<(p.bins.length:Int))&&(kindOf p (k:Int).toNat==0))=_;rw[qG,ANZ hk,show decide (0<=(k:Int))=true by rw[decide_eq_true_eq]; omega,show decide ((k:Int)<(p.bins.length:Int))=true by rw[decide_eq_true_eq]; omega]; rfl
theorem ltz_false (i:Nat):decide ((i:Int)<0)=false:=by rw[decide_eq_false_iff_not]; omega
theorem tW {n:Nat}(h:i<n):decide ((i:Int)≥(n:Int))=false:=by rw[decide_eq_false_iff_not]; omega
theorem ARX {n:Nat}(h:i<n):decide ((i:Int)<(n:Int))=true:=by rw[decide_eq_true_eq]; omega
theorem ADY (i:Nat):decide ((i:Int)≥0)=true:=by rw[decide_eq_true_eq]; omega
theorem mC (h:l.length=1):∃b,l=[b]:=by
 match l,h with
 | [b],_=>exact⟨b,rfl⟩
section
variable (G:Nat->AV)
theorem AOI (m:Mo)(hg:Cov.Good m)(x:Hl)(hn:x.bins.length<=1048576)(h:Hp):PCall (En G) 91 [.agg (DR m),.agg (FX x)] h (.bool (kW m x)):=by
 refine ACalls.pure0 rfl ?_;refine acT Tryz.func91 4 ?_;have t:=Hb.mk' h m x;refine A8 @bxM @bxH ?_
 generalize h++[yK 2 [DR m]]++[yK 3 [FX x]]=H at t|-
 generalize (h++[yK 2 [DR m]]).length=hb at t|-
 refine AY (AX0 t.gh) ?_;cases hc:x.cross
 case true =>
  have hf:kW m x=crF m x (AEY m x.idx):=by unfold kW; rw[if_pos hc]
  refine DL (ldM t.gm) (ANT t.gh) (AR5 t.gh) ?_;rcases VQ x.idx m.crs.length with hz|⟨i,hi,hz⟩
  .rw[AEX hz] at hf; change kW m x=false at hf
   refine(nM G m x.idx hz x.bins x.bm H).uu ?_;exact⟨by rw[hf],t.hx⟩
  .rw[hz,UR hi] at hf
   change kW m x=(J7 (szs m m.crs[i].pts) x.bins&&ZQ m m.crs[i] x.bins) at hf;have hcg:=hg.crs _ (jI hi);rw[hz];refine(YB G m i hi hcg x.bins x.bm hn H).use ?_;cases hin:J7 (szs m m.crs[i].pts) x.bins
   .refine AA ?_
    exact⟨by rw[hf,hin,Bool.false_and],t.hx⟩
   .refine DL (ldM t.gm) (ANT t.gh) (AR5 t.gh) ?_
    rw[hz];refine(rU G m i hi hcg x.bins x.bm hin H).uu ?_;exact⟨by rw[hf,hin,wG,Bool.not_not],t.hx⟩
 have hf:kW m x=ptF x (AM7 m x.idx):=by unfold kW; rw[if_neg (by rw[hc]; decide)]
 have l1:=ANT t.gh;have l2:=AR5 t.gh;rcases VQ x.idx m.pts.length with hz|⟨i,hi,hz⟩
 .rw[ACN hz] at hf; change kW m x=false at hf
  cases d0:decide (x.idx<0)
  .have d1:decide (x.idx≥(m.pts.length:Int))=true:=by rw[decide_eq_true_eq]; rw[decide_eq_false_iff_not] at d0; omega
   refine EM l1 d0 (dK t.gm) d1 ?_;exact⟨by rw[hf],t.hx⟩
  .refine A8 l1 d0 ?_
   exact⟨by rw[hf],t.hx⟩
 rw[hz,AJ3 hi] at hf;change kW m x=uB m.pts[i] x.bins at hf;rw[hz] at l1;rcases Classical.em (x.bins.length=1) with hl|hl
 case inr =>
  have hne:((x.bins.length:Int) != 1)=true:=by simp; omega
  refine NY l1 l2 @ltz_false (dK t.gm) (tW hi) hne ?_;exact⟨by rw[hf,AEA hl],t.hx⟩
 obtain⟨b,hb1⟩:=mC hl;rw[hb1] at l2 hf;have h01:0<([b]:List Int).length:=AZ;have i0:IG 1 H (.sl x.bm 1 [qencI b]) (.n 0)=some (.fptr 1 [qencI b] 0 0):=CX (k:=1) h01;have hne:(((([qencI b]:List (List AV)).length:Nat):Int) != 1)=false:=rfl;have lb:BH jA H 3 (.fptr 1 [qencI b] 0 0)=some (.n b):=(CU ag3 h01).trans rfl;simp only[vQ,EI,CG,ML,↓reduceIte,jC,Nat.add_zero,enP,XG,AR0,PX,LY,dH,YH,bI,OJ,l1,l2,ltz_false,dK t.gm,jM,tW hi,hne,CX hi,CU P6 hi,TI,i0,lb];rcases VQ b m.pts[i].bins.length with hb2|⟨k,hk,rfl⟩
 .rw[uA hb2] at hf
  cases d0:decide (b≥0)
  .refine AY d0 ?_
   exact⟨by rw[hf],t.hx⟩
  .have d1:decide (b<(m.pts[i].bins.length:Int))=false:=by rw[decide_eq_false_iff_not]; rw[decide_eq_true_eq] at d0; omega
   refine JG d0 l2 i0 lb d1 ?_;exact⟨by rw[hf],t.hx⟩
 .rw[AEB hk] at hf
  simp only[vQ,EI,P8,CG,JS,↓reduceIte,jC,enP,LY,bI,fL,rM,fY,ADY,l2,i0,lb,jM,ARX hk,CX hk,CU ag3 hk,aG];exact⟨by rw[hf],t.hx⟩
end
section
variable (G:Nat->AV)
theorem valid_prog (hG:GOk G)(m:Mo)(hm:MoOk m)(x:Hl)(hn:x.bins.length<=1048576)(h:Hp):PCall (En G) 42 [.agg (DR m),.agg (FX x)] h (.bool (MF m x)):=by
 refine ACalls.pure0 rfl ?_;refine acT Tryz.func42 4 ?_;have t:=Hb.mk' h m x;refine A8 @bxM @bxH ?_
 generalize h++[yK 2 [DR m]]++[yK 3 [FX x]]=H at t|-
 generalize (h++[yK 2 [DR m]]).length=hb at t|-
 refine AY (ldM t.gm) ?_;refine(S9 G hG m hm H).use ?_;unfold MF;cases h0:(FK m==0)
 .refine AY h0 ?_
  exact⟨by rw[Bool.false_and],t.hx⟩
 .have hg:Cov.Good m:=UL (BG h0)
  refine DL h0 (ldM t.gm) (ldH t.gh) ?_;refine(AOI G m hg x hn H).uu ?_;exact⟨by rw[wG],t.hx⟩
end
theorem VC {x:Hl}(hv:MF m x=true)(hc:x.cross=true):∃i,∃hi:i<m.crs.length,x.idx=(i:Int)∧J7 (szs m m.crs[i].pts) x.bins=true∧ZQ m m.crs[i] x.bins=true∧Cov.Good m:=by
 unfold MF at hv;rw[jO] at hv;obtain⟨h0,hf⟩:=hv;unfold kW at hf;rw[if_pos hc] at hf;rcases VQ x.idx m.crs.length with hz|⟨i,hi,hz⟩
 .rw[AEX hz] at hf; exact Bool.noConfusion (show false=true from hf)
 .rw[hz,UR hi] at hf
  change (J7 (szs m m.crs[i].pts) x.bins&&ZQ m m.crs[i] x.bins)=true at hf;rw[jO] at hf;exact⟨i,hi,hz,hf.1,hf.2,UL (BG h0)⟩
theorem VA {x:Hl}(hv:MF m x=true)(hc:x.cross=false):∃i,∃hi:i<m.pts.length,∃k,∃hk:k<m.pts[i].bins.length,x.idx=(i:Int)∧x.bins=[(k:Int)]∧m.pts[i].bins[k].kind=0∧Cov.Good m:=by
 unfold MF at hv;rw[jO] at hv;obtain⟨h0,hf⟩:=hv;unfold kW at hf;rw[if_neg (by rw[hc]; decide)] at hf;rcases VQ x.idx m.pts.length with hz|⟨i,hi,hz⟩
 .rw[ACN hz] at hf; exact Bool.noConfusion (show false=true from hf)
 .rw[hz,AJ3 hi] at hf
  change uB m.pts[i] x.bins=true at hf;rcases Classical.em (x.bins.length=1) with hl|hl
  .obtain⟨b,hb⟩:=mC hl
   rw[hb] at hf;rcases VQ b m.pts[i].bins.length with hb2|⟨k,hk,rfl⟩
   .rw[uA hb2] at hf; exact Bool.noConfusion (show false=true from hf)
   .rw[AEB hk] at hf
    exact⟨i,hi,k,hk,hz,hb,BG hf,UL (BG h0)⟩
  .rw[AEA hl] at hf; exact Bool.noConfusion (show false=true from hf)
theorem fS:∀(l:List Nat) (a:Nat),l.foldl (· * ·) a=a*l.foldl (· * ·) 1
 | [],a=>(Nat.mul_one a).symm
 | n::l,a=>by
   show l.foldl (· * ·) (a*n)=a*l.foldl (· * ·) (1*n);rw[fS l (a*n),fS l (1*n),yD,Nat.mul_assoc]
theorem aX (n:Nat)(ns:List Nat):I8 (n::ns)=n*I8 ns:=by
 unfold I8;show ns.foldl (· * ·) (1*n)=_;rw[yD,fS]
theorem fD:∀ {ns:List Nat},(∀n∈ns,1<=n)->1<=I8 ns
 | [],_=>jF 1
 | n::ns,h=>by
   rw[aX];exact Nat.mul_le_mul (h n List.mem_cons_self) (fD fun k hk=>h k (yF _ hk))
theorem ASR:∀ {ns:List Nat} {l:List Int} {z:Nat},J7 ns l=true->(∀n∈ns,1<=n)->(z+1)*I8 ns<=4611686018427387904->∃r:Nat,ZP ns l (z:Int)=((z*I8 ns+r:Nat):Int)∧r<I8 ns
 | [],[],z,_,_,_=>⟨0,by show(z:Int)=((z*1+0:Nat):Int); omega,by decide⟩
 | [],_::_,_,h,_,_=>by simp [J7] at h
 | _::_,[],_,h,_,_=>by simp [J7] at h
 | n::ns,x::xs,z,h,h1,hb=>by
   simp only[J7,jO,decide_eq_true_eq] at h;obtain⟨⟨x0,x1⟩,hr⟩:=h;have hP:=fD (ns:=ns) fun k hk=>h1 k (yF _ hk)
   rw[aX] at hb|-
   obtain⟨y,rfl⟩:∃y:Nat,x=(y:Int):=⟨x.toNat,U⟩;have hy:y<n:=U
   generalize hp:I8 ns=P at hP hb|-
   have e1:(z+1)*(n*P)=(z*n+n)*P:=by rw[<-Nat.mul_assoc,qE,yD]
   have e2:(z*n+n)<=(z*n+n)*P:=Nat.le_mul_of_pos_right _ hP;have e3:(z*n+y+1)*P<=(z*n+n)*P:=wL P U;have w1:IntKind.i64.wrap ((z:Int)*(n:Int))=((z*n:Nat):Int):=by rw[<-Int.natCast_mul]; exact NK U
   have w2:IntKind.i64.wrap (((z*n:Nat):Int)+(y:Int))=((z*n+y:Nat):Int):=by rw[<-Int.natCast_add]; exact NK U
   obtain⟨r,r1,r2⟩:=ASR (z:=z*n+y) hr (fun k hk=>h1 k (yF _ hk)) (by rw[hp]; omega);rw[hp] at r1 r2;refine⟨y*P+r,?_,?_⟩
   .show ZP ns xs (IntKind.i64.wrap (IntKind.i64.wrap ((z:Int)*(n:Int))+(y:Int)))=_
    rw[w1,w2,r1];congr 1;rw[qE,Nat.mul_assoc];omega
   .have:(y+1)*P<=n*P:=wL P hy
    rw[qE,yD] at this;omega
theorem ADT (hg:Cov.Good m)(hi:i<m.crs.length)(hin:J7 (szs m m.crs[i].pts) l=true):∃k:Nat,ZP (szs m m.crs[i].pts) l 0=(k:Int)∧k<I8 (szs m m.crs[i].pts):=by
 have hcg:=hg.crs _ (jI hi);have hs:=hg.full.szs hcg.here;have hfour:=hcg.four;have hp:I8 (szs m m.crs[i].pts)<=64^4:=mR _ 4 (fun n hn=>(hs n hn).2) (by rw[RY]; exact hfour);obtain⟨r,r1,r2⟩:=ASR (z:=0) hin (fun n hn=>(hs n hn).1) U;exact⟨r,by rw[show(0:Int)=((0:Nat):Int) from rfl,r1,Nat.zero_mul,jH],r2⟩
end Go.Proofs.YtiihpnicbekebaaGreatDoor.Ho
namespace Go.Proofs.YtiihpnicbekebaaGreatDoor.Ho
open Sm Bins Cov Xe Go.RowKit
variable {m:Mo} {c:Cvr}
theorem sS {m:Mo}:∀ {l:List (List Sg)} {s:St},FitS m s->(SY m s l).1=0->FitS m (SY m s l).2
 | [],_,h,_=>h
 | e::r,s,h,h0=>by
   unfold SY at h0|-
   split
   .rename_i hn
    rw[if_pos hn] at h0;exact absurd h0 hn
   .rename_i hn
    rw[if_neg hn] at h0;exact sS (h.step (Classical.byContradiction hn)) h0
theorem AQT {l:List (List Sg)}(h0:FK m=0)(h:TY m l=0):MQ m (WF m l)=true:=by
 unfold TY at h;rw[if_pos h0] at h;unfold WF;rw[if_pos ⟨h0,h⟩];exact(sS (APS h0) h).fits
theorem AZK (hf:MQ m c=true){i k:Nat}(hi:i<m.pts.length)(hk:k<m.pts[i].bins.length):∃hi:i<c.pts.length,∃hk:k<c.pts[i].l.length,cellAt c.pts i k=c.pts[i].l[k]:=by
 obtain⟨_,h1,_⟩:=fW.1 hf;obtain⟨x,e,ho⟩:=VJ h1 i m.pts[i] (jG hi);exact ZH (xQ e (AXA ho) hk)
theorem AZL (hf:MQ m c=true){i k:Nat}(hi:i<m.crs.length)(hk:k<I8 (szs m m.crs[i].pts)):∃hi:i<c.crs.length,∃hk:k<c.crs[i].l.length,cellAt c.crs i k=c.crs[i].l[k]:=by
 obtain⟨_,_,h2,_⟩:=fW.1 hf;obtain⟨x,e,ho⟩:=VJ h2 i m.crs[i] (jG hi);exact ZH (xQ e (AXE ho) hk)
def XB (m:Mo)(x:Hl)(c:Cvr):Int:=if x.cross=true then (match AEY m x.idx with
    | some r=>cellAt c.crs x.idx.toNat (ixV (szs m r.pts) x.bins).toNat
    | none=>0) else cellAt c.pts x.idx.toNat (x.bins.headD 0).toNat
def htV (m:Mo)(x:Hl)(c:Cvr)(e:Int):Bool×Int:=if MF m x=true then (if e=0 then (decide (XB m x c>0),0) else (false,e)) else (false,1)
structure H3 (h H:Hp) (m:Mo) (x:Hl) (c:Cvr) (hb cb:Nat):Prop where
 gm:H[h.length]?=some (yK 2 [DR m])
 gh:H[hb]?=some (yK 3 [FX x])
 gc:H[cb]?=some (yK 4 [encV c])
 hx:ext h H
theorem A9U {H:Hp}{b:Nat}(hb:H[b]?=some (yK 4 [encV c])):BH jA H 25 (.ptr b 0 0)=some (.sl c.pm 1 (c.pts.map encL)):=by rw[BA UC hb (row:=encV c) rfl]; rfl
theorem A9T {H:Hp}{b:Nat}(hb:H[b]?=some (yK 4 [encV c])):BH jA H 25 (.ptr b 0 1)=some (.sl c.cm 1 (c.crs.map encL)):=by rw[BA UC hb (row:=encV c) rfl]; rfl
section
variable (G:Nat->AV)
theorem hit_prog (hG:GOk G)(hT:eL G)(m:Mo)(hm:MoOk m)(x:Hl)(hn:x.bins.length<=1048576)(l:List Ss)(s:SM)(h:Hp)(hl:l.length<=1048576)(he:∀x∈l,x.l.length<=1048576∧∀s∈x.l,A4D s):
  PCall (En G) 31 [.agg (DR m),.agg (FX x),.sl s 1 (l.map aD)] h (.tup [.bool (htV m x (WF m (l.map Ss.l)) (TY m (l.map Ss.l))).1,.n (htV m x (WF m (l.map Ss.l)) (TY m (l.map Ss.l))).2]):=by
 refine ACalls.pure 2 (R:=fun v H=>v=.tup [.bool (htV m x (WF m (l.map Ss.l)) (TY m (l.map Ss.l))).1,.n (htV m x (WF m (l.map Ss.l)) (TY m (l.map Ss.l))).2]∧ext h H) ?_ (fun v h' ⟨e,x⟩=>⟨x,by subst e; rfl⟩);refine acL Tryz.func31 [.tmp 6,.tmp 7] ?_;have t:=Hb.mk' h m x;refine A8 @bxM @bxH ?_
 generalize h++[yK 2 [DR m]]++[yK 3 [FX x]]=H at t|-
 generalize (h++[yK 2 [DR m]]).length=hb at t|-
 refine A8 (ldM t.gm) (ldH t.gh) ?_;refine(valid_prog G hG m hm x hn H).use ?_;cases hv:MF m x
 .have hr:htV m x (WF m (l.map Ss.l)) (TY m (l.map Ss.l))=(false,1):=by unfold htV; rw[if_neg (by rw[hv]; decide)]
  refine AA ?_;exact⟨by rw[hr],t.hx⟩
 have h0:FK m=0:=by unfold MF at hv; rw[Bool.and_eq_true] at hv; simpa using hv.1
 refine AY (ldM t.gm) ?_;refine(AVE G hG hT m hm l s H hl (fun x hx=>(he x hx).1)).use ?_;have hfit:=fun e=>AQT (m:=m) (l:=l.map Ss.l) h0 e
 generalize WF m (l.map Ss.l)=c at hfit|-
 generalize TY m (l.map Ss.l)=e at hfit|-
 have t':H3 h (H++[yK 4 [encV c]]) m x c hb H.length:=⟨AB t.gm,AB t.gh,AQ _ _,t.hx.app _⟩;simp only[vQ,wE,wP,CG,KA,OD,↓reduceIte,jC,enP,Option.getD_none,pP,A2C,bne]
 generalize H++[yK 4 [encV c]]=H1 at t'|-
 generalize H.length=cb at t'|-
 cases hz:(e==0)
 .have hz':e≠0:=BG hz
  have hr:htV m x c e=(false,e):=by unfold htV; rw[if_pos hv,if_neg hz']
  refine AA ?_;exact⟨by rw[hr],t'.hx⟩
 have hz':e=0:=BG hz;have hf:=hfit hz';have hr:htV m x c e=(decide (XB m x c>0),0):=by unfold htV; rw[if_pos hv,if_pos hz']
 rw[hr];clear hr hfit t;have l1:=ANT t'.gh;have l2:=AR5 t'.gh;refine AY (AX0 t'.gh) ?_;cases hc:x.cross
 .obtain⟨i,hi,k,hk,hzi,hbn,_,hg⟩:=VA hv hc
  rw[hzi] at l1;rw[hbn] at l2;have h01:0<([(k:Int)]:List Int).length:=AZ;have i0:IG 1 H1 (.sl x.bm 1 [qencI k]) (.n 0)=some (.fptr 1 [qencI k] 0 0):=CX (k:=1) h01;have lb:BH jA H1 3 (.fptr 1 [qencI k] 0 0)=some (.n k):=(CU ag3 h01).trans rfl;obtain⟨hi2,hk2,hcell⟩:=AZK hf hi hk
  have hce:XB m x c=c.pts[i].l[k]:=by
   unfold XB;rw[if_neg (by rw[hc]; decide),hzi,hbn];exact hcell
  refine AA ?_;refine DZ A7 ?_;simp only[vQ,LM,OM,LC,oJ,List.map_cons,List.map_nil,↓reduceIte,jC,Nat.reduceAdd,Nat.add_zero,enP,fN,LY,YH,bI,fZ,l1,l2,A9U t'.gc,CX hi2,CU NE hi2,oL,i0,lb,CX hk2,CU ag3 hk2,Bins.encI0];exact⟨by rw[hce],t'.hx⟩
 obtain⟨i,hi,hzi,hin,_,hg⟩:=VC hv hc;have hcg:=hg.crs _ (List.getElem_mem hi);obtain⟨k,hk1,hk⟩:=ADT hg hi hin;have hiv:ixV (szs m m.crs[i].pts) x.bins=(k:Int):=by unfold ixV; rw[if_pos hin,hk1]
 rw[hzi] at l1;obtain⟨hi2,hk2,hcell⟩:=AZL hf hi hk
 have hce:XB m x c=c.crs[i].l[k]:=by
  unfold XB;rw[if_pos hc,hzi,UR hi];show cellAt c.crs i (ixV (szs m m.crs[i].pts) x.bins).toNat=_;rw[hiv];exact hcell
 refine DL (ldM t'.gm) l1 l2 ?_;refine(YB G m i hi hcg x.bins x.bm hn H1).use ?_;rw[hiv];simp only[vQ,wE,wP,oJ,CG,KA,OD,↓reduceIte,jC,enP,fN,LY,YH,yQ,l1,A9T t'.gc,CX hi2,CU NE hi2,oL,CX hk2,CU ag3 hk2,Bins.encI0];exact⟨by rw[hce],t'.hx⟩
end
end Go.Proofs.YtiihpnicbekebaaGreatDoor.Ho
namespace Go.Proofs.YtiihpnicbekebaaGreatDoor.Ho
open Sm Bins Cov Go.RowKit
variable {H:Hp} {b:Nat}
theorem A51 {p:Pt}(hb:H[b]?=some (yK 6 [FC p])):BH jA H 80 (.ptr b 0 5)=some (.sl p.bm 4 (p.bins.map F6)):=by
 rw[BA P6 hb (row:=FC p) rfl,TI]
theorem A02 {p:Pt}(hb:H[b]?=some (yK 6 [FC p])):BH jA H 79 (.ptr b 0 1)=some (.agg (AX p.ex)):=by
 rw[EF O1 JB hb rfl (by rw[H7]; exact jB rfl),zR]
theorem Y4 {P:Program}{t e:TypeId}{α:Type}{k bs:Nat}{f:α->List AV}{h:Hp}{xs ys:List α}{v:AV}(s:SM)(ho:outG k f h xs v H)(hu:P.underlying t=some (.slice e))(hs:szO P e=some k)(hz:SK P e=some k)(hb:KG P e=some bs)(hbs:bs<=4194304)(hl:xs.length+ys.length<=8388608)(he:ext h H):
  ∃v' H',EP P true H t t v (.sl s k (ys.map f))=some (v',H')∧outG k f h (xs++ys) v' H'∧(∀b x,H[b]?=some x->¬isB v b->H'[b]?=some x)∧ext h H'∧H.length<=H'.length∧(∀b,isB v' b->isB v b∨b=H.length):=by
 cases ys with
 | nil =>
   refine⟨v,H,?_,by rw[jP]; exact ho,fun _ _ hx _=>hx,he,jF _,fun b hb=>.inl hb⟩;have hcs:IV H (.sl s k [])=some (k,[]):=F9 H s k [];rcases ho with⟨rfl,rfl⟩|⟨hne,o,h2,rfl,h3⟩
   .simp [EP,hu,hs,SS,hcs,bump]
   .have hc:IV H (.own o 0 xs.length)=some (k,xs.map f):=by rw[JQ h3 AZ,zT,jJ AZ]
    simp [EP,hu,hs,SS,hc,hcs,bump]
 | cons y ys =>
   have h1:(y::ys).map f≠[]:=AZ;rcases ho with⟨rfl,rfl⟩|⟨hne,o,h2,rfl,h3⟩
   .refine⟨_,_,QT hu hs hz hb (F9 H s k ((y::ys).map f)) h1 (GV (by simp at hl|-; omega) hbs),.inr ⟨AZ,H.length,he.le,AZ,AZ⟩,fun b x hb _=>FM hb,he.app _,AZ,fun b hb=>.inr hb.symm⟩
   .have hc:IV H (.own o 0 xs.length)=some (k,xs.map f):=by rw[JQ h3 AZ,zT,jJ AZ]
    refine⟨_,_,P5 hu hs hz hb hc (F9 H s k ((y::ys).map f)) h1 (GV (by simp at hl|-; omega) hbs),.inr ⟨AZ,H.length,he.le,AZ,AZ⟩,fun b x hb hn=>?_,(he.set h2 _).app _,AZ,fun b hb=>.inr hb.symm⟩;have hn':¬o=b:=hn;refine FM ?_;rw[List.getElem?_set,if_neg hn']; exact hb
def J9:List Bin->List Rng
 | []=>[]
 | b::r=>(if b.kind≠0 then b.ranges.l else [])++J9 r
theorem APB {l:List Bin}{k:Nat}(hk:k<l.length):J9 (l.take (k+1))=J9 (l.take k)++(if l[k].kind≠0 then l[k].ranges.l else []):=by
 induction l generalizing k with
 | nil=>simp at hk
 | cons b r ih =>
   cases k with
   | zero=>simp [J9]
   | succ k =>
     have:=ih (k:=k) (BG hk);simp only[List.take_succ_cons,List.getElem_cons_succ];show _++J9 (r.take (k+1))=(_++J9 (r.take k))++_;rw[this,List.append_assoc]
theorem AUS {l:List Bin}(k:Nat):(J9 (l.take k)).length<=(J9 l).length:=by
 induction l generalizing k with
 | nil=>simp
 | cons b r ih =>
   cases k with
   | zero=>simp [J9]
   | succ k =>
     have:=ih k;show(_++J9 (r.take k)).length<=(_++J9 r).length;rw[jT,jT]; omega
theorem A6J:Frz encR:=fun _ _ _ _=>⟨rfl,rfl⟩
theorem AR6 {x:Bin}(hb:H[b]?=some (yK 4 [F6 x])):BH jA H 84 (.ptr b 0 2)=some (.sl x.ranges.m 2 (x.ranges.l.map encR)):=by
 rw[BA RQ hb (row:=F6 x) rfl,uH]
theorem A53 {x:Bin}(hb:H[b]?=some (yK 4 [F6 x])):BH jA H 3 (.ptr b 0 1)=some (.n x.kind):=by
 rw[BA ag3 hb (row:=F6 x) rfl,aG]
theorem A7G (h:Hp)(p:Pt):MS h (.agg (FC p))=some (.ptr h.length 0 0,h++[yK 6 [FC p]]):=by
 rw[WT (gH p),H7]
section
variable (G:Nat->AV)
theorem AUR (p:Pt)(hp:p.bins.length<=1048576)(hl:(J9 p.bins).length<=1048576)(h:Hp):PCall (En G) 169 [.agg (FC p)] h (.sl (Cov.nm (J9 p.bins)) 2 ((J9 p.bins).map encR)):=by
 refine KD A6J ?_;refine acT Tryz.func169 2 ?_;have gp:=AQ h (yK 6 [FC p]);have hx:=Sm.ext.r1 h (yK 6 [FC p]);refine AY @A7G ?_
 generalize h++[yK 6 [FC p]]=H0 at gp hx|-
 refine AY (A51 gp) ?_
 refine BJ (fun n F H=>∃k u,n+k=p.bins.length∧F 3=u∧F 7=.sl p.bm 4 (p.bins.map F6)∧F 8=.n (p.bins.length:Nat)∧F 9=.n (k:Nat)∧ext H0 H∧outG 2 encR H0 (J9 (p.bins.take k)) u H) p.bins.length
  ⟨0,.sl .nil 0 [],AZ,AL,AL,AL,AL,ext.rfl' _,outG.nil _ _ _ _⟩ ?_
 rintro n F H ⟨k,u,hk,f3,f7,f8,f9,he,ho⟩;refine A8 f8 f9 ?_;refine D8 ?_ ?_<;>intro hk'
 .have hst:=APB hk'
  have hbl:=AUS (l:=p.bins) (k+1);have gb:=AQ H (yK 4 [F6 p.bins[k]]);have he1:=he.app [yK 4 [F6 p.bins[k]]];have ho1:=ho.app [yK 4 [F6 p.bins[k]]];simp only[vQ,CG,↓reduceIte,jC,Nat.zero_add,enP,fL,fY,jQ,f7,f9,CX hk',DC kZ aP KZ hk',al79,st79 _ _ [.str ⟨#[]⟩,.n 0,.sl .nil 0 [],.sl .nil 0 []] rfl]
  generalize H++[yK 4 [F6 p.bins[k]]]=H1 at gb he1 ho1|-
  simp only[vQ,CG,↓reduceIte,enP,A53 gb,bne];cases hz:(p.bins[k].kind==0)
  .have hz':p.bins[k].kind≠0:=BG hz
   rw[if_pos hz'] at hst;rw[hst,jT] at hbl;obtain⟨v',H2,ha,ho2,_,he2,_,_⟩:=Y4 p.bins[k].ranges.m ho1 aO LZ APQ AUB U (ys:=p.bins[k].ranges.l) U he1;rw[<-hst] at ho2;refine JG f3 (AR6 gb) ha f9 (CZ k) ?_;exact⟨n-1,U,k+1,v',U,AC,AC,AC,AC,he2,ho2⟩
  .have hz':¬p.bins[k].kind≠0:=BG hz
   rw[if_neg hz',jP] at hst;rw[<-hst] at ho1;refine A8 f9 (CZ k) ?_;exact⟨n-1,U,k+1,u,U,AC,AC,AC,AC,he1,ho1⟩
 .rw[jJ U] at ho
  refine AY f3 ?_;exact⟨hx.trans he,ho.base hx.le⟩
end
def cE (n:Int):Ex:=.mk 1 n ⟨#[]⟩ .nil []
def pA (op n:Int):List AV:=[.n op,.n n,.str ⟨#[]⟩,.sl .nil 0 []]
theorem ALW (n:Int):IY jA 79 [(0,.n 1),(1,.n n)]=some (.agg (pA 1 n)):=A7
theorem AZN (n:Int):CvRow (pA 1 n) (AX (cE n)):=by
 rw[FB];exact CvRow.cons rfl (Cv.refl _) (CvRow.cons rfl (Cv.refl _) (CvRow.cons rfl (Cv.refl _) (CvRow.cons rfl (Cv.nil 0 4) CvRow.nil)))
def cpE:Ex->Ex
 | .mk op n name _ args=>.mk op n name (match args with|[]=>.nil|_=>.any) (cpEs args)
 where cpEs:List Ex->List Ex
 | []=>[]
 | e::es=>cpE e::cpEs es
theorem AEZ:∀l:List Ex,cpE.cpEs l=l.map cpE
 | []=>rfl
 | e::es=>by show cpE e::cpE.cpEs es=_; rw[AEZ es]; rfl
theorem bQ (e:Ex):cpE e=.mk e.op e.n e.name (Cov.nm (e.args.map cpE)) (e.args.map cpE):=by
 cases e with
 | mk op n name m args =>
   show Ex.mk op n name _ (cpE.cpEs args)=Ex.mk op n name _ (args.map cpE);rw[AEZ];cases args<;>rfl
theorem frzEx:Frz AX:=fun n h d x=>by
 rw[FB]; exact⟨rfl,rfl⟩
def cpW (e:Ex):List AV:=[.n e.op,.n e.n,.str e.name,fzG 4 AX (e.args.map cpE)]
theorem AT8 (e:Ex):CvR (.agg (cpW e)) (.agg (AX (cpE e))):=by
 rw[FB,bQ];exact CvR.agg (CvRL.cons (CvR.refl _) (CvRL.cons (CvR.refl _) (CvRL.cons (CvR.refl _) (CvRL.cons WP CvRL.nil))))
theorem oZ (n:Int):CvR (.agg (pA 1 n)) (.agg (AX (cE n))):=by
 rw[FB];exact CvR.agg (CvRL.cons (CvR.refl _) (CvRL.cons (CvR.refl _) (CvRL.cons (CvR.refl _) (CvRL.cons (CvR.sl (Cv.nil 0 4)) CvRL.nil))))
theorem WZ {row cs:List AV}(hb:H[b]?=some (yK 4 [row]))(hr:row.length=4)(hc:cs.length=4)(hl:cs.all AV.leaf=true):DT jA H 79 (.ptr b 0 0) (.agg cs)=some (H.set b (yK 4 [cs])):=by
 rw[IU (cs:=cs) (O7 hl) (by rw[hc]; exact JB) hb (by rw[hr,hc]; exact jF 4)];have:splice row 0 cs=cs:=by unfold splice; rw[List.take_zero,List.drop_eq_nil_of_le (by rw[hr,hc]; exact jF 4)]; simp
 rw[this]
theorem KY {h:Hp}{row:List AV}(hb:h[b]?=some (yK 4 [row]))(hr:row.length=4):BH jA h 79 (.ptr b 0 0)=some (.agg row):=by
 rw[EF O1 JB hb rfl (by rw[hr]; exact jF 4),zT,<-hr,List.take_length]
theorem X5 (G:Nat->AV)(n:Int)(h:Hp):PCall (En G) 247 [.n n] h (.agg (AX (cE n))):=by
 refine PCall.res ?_ (oZ n);refine XY 3 (fun n H=>rfl) ?_;refine acL Tryz.func247 [.cell 2 79] ?_;have g2:=AQ h (yK 4 [[.n 0,.n 0,.str ⟨#[]⟩,.sl .nil 0 []]]);have hx:=Sm.ext.r1 h (yK 4 [[.n 0,.n 0,.str ⟨#[]⟩,.sl .nil 0 []]]);refine AY RJ ?_
 generalize h++[yK 4 [[.n 0,.n 0,.str ⟨#[]⟩,.sl .nil 0 []]]]=H at g2 hx|-
 refine A8 @ALW (WZ (cs:=pA 1 n) g2 rfl rfl rfl) ?_;rw[JH (b:=h.length) AL (KY (CP g2) rfl)];exact⟨rfl,hx.set (jF _) _⟩
theorem AE1 (G:Nat->AV):∀(w:Nat) (e:Ex) (h:Hp),wt e<=w->wt e<=1048576->PCall (En G) 246 [.agg (AX e)] h (.agg (AX (cpE e))):=by
 intro w
 induction w with
 | zero=>intro e h h1 _; have:=MN e; omega
 | succ w ih =>
   intro e h h1 h2;have hlen:=VY e.args;have hwt:=MN e;refine PCall.res (r:=.agg (cpW e)) ?_ (AT8 e);refine ACalls.pure (R:=fun v H=>ext h H∧EZ h.length H 4 v=.agg (cpW e)) 4 ?_ (fun v H ⟨a,b⟩=>⟨a,b⟩);refine acL Tryz.func246 [.cell 2 79] ?_;have ge:=AB (x:=yK 4 [[.n 0,.n 0,.str ⟨#[]⟩,.sl .nil 0 []]]) (AQ h (yK 4 [AX e]));have g2:=AQ (h++[yK 4 [AX e]]) (yK 4 [[.n 0,.n 0,.str ⟨#[]⟩,.sl .nil 0 []]]);have hx:ext h (h++[yK 4 [AX e]]++[yK 4 [[.n 0,.n 0,.str ⟨#[]⟩,.sl .nil 0 []]]]):=((ext.rfl' h).app _).app _;have hb2:h.length<(h++[yK 4 [AX e]]).length:=AZ;refine A8 @bxE RJ ?_
   generalize h++[yK 4 [AX e]]++[yK 4 [[.n 0,.n 0,.str ⟨#[]⟩,.sl .nil 0 []]]]=H0 at ge g2 hx|-
   generalize (h++[yK 4 [AX e]]).length=b2 at g2 hb2|-
   have l2:=Z g2;refine AY (Rk.ldE' ge) ?_
   refine BJ (fun n F H=>∃k u,n+k=e.args.length∧F 1=.ptr h.length 0 0∧F 2=.ptr b2 0 0∧F 3=u∧F 7=.sl e.m 4 (e.args.map AX)∧F 8=.n (e.args.length:Nat)∧F 9=.n (k:Nat)∧ext H0 H∧outG 4 AX H0 ((e.args.take k).map cpE) u H) e.args.length
    ⟨0,.sl .nil 0 [],AZ,AL,AL,AL,AL,AL,AL,ext.rfl' _,outG.nil _ _ _ _⟩ ?_
   rintro n F H ⟨k,u,hk,f1,f2,f3,f7,f8,f9,he,ho⟩;refine A8 f8 f9 ?_;refine D8 ?_ ?_<;>intro hk'
   .have hlt:=Rk.wt_arg hk'
    have he1:=he.app [yK 4 [AX e.args[k]]];have ho1:=ho.app [yK 4 [AX e.args[k]]];have gT:=ldE H e.args[k];simp only[vQ,CG,List.map_cons,List.map_nil,↓reduceIte,jC,enP,PQ,jQ,f7,f9,CX hk',DC O1 JB EC hk',RJ,rD _ _ [.n 0,.n 0,.str ⟨#[]⟩,.sl .nil 0 []] rfl,gT]
    generalize H++[yK 4 [AX e.args[k]]]=H1 at he1 ho1|-
    refine(ih e.args[k] H1 U U).use ?_
    have hbs:C9 jA false H1 23 1 [(0,.agg (AX (cpE e.args[k])))]=some (.sl .full 4 [AX (cpE e.args[k])],H1):=by
     rw[FB]; exact(A7:C9 jA false H1 23 1 [(0,.agg [.n (cpE e.args[k]).op,.n (cpE e.args[k]).n,.str (cpE e.args[k]).name,.sl (cpE e.args[k]).m 4 ((cpE e.args[k]).args.map AX)])]=_)
    obtain⟨v',H2,ha,ho2,_,he2,_,_⟩:=ho1.append V7 JB eQ eE U KH he1 (cpE e.args[k]);have e3:(e.args.take k).map cpE++[cpE e.args[k]]=(e.args.take (k+1)).map cpE:=by rw[List.take_succ_eq_append_getElem hk',List.map_append]; rfl
    rw[e3] at ho2;refine JG f3 hbs ha f9 (CZ k) ?_;exact⟨n-1,U,k+1,v',U,AC,AC,AC,AC,AC,AC,he2,ho2⟩
   .rw[jJ U] at ho
    have ge1:=DV he ge;have g21:=DV he g2;have hle:=he.le;have hlf:=ho.leaf;have h0l:h.length<H0.length:=U
    have hst:DT jA H 23 (.ptr h.length 0 3) u=some (H.set h.length (yK 4 [[.n e.op,.n e.n,.str e.name,u]])):=by
     rw[FB] at ge1;rcases ho with⟨_,rfl⟩|⟨_,o,_,rfl,_⟩
     .rw[IU (cs:=[.sl .nil 0 []]) rfl (A7:szO jA 23=some 1) ge1 AZ]; rfl
     .rw[IU (cs:=[.own o 0 _]) rfl (A7:szO jA 23=some 1) ge1 AZ]; rfl
    have g1':(H.set h.length (yK 4 [[.n e.op,.n e.n,.str e.name,u]]))[h.length]?=some (yK 4 [[.n e.op,.n e.n,.str e.name,u]]):=CP ge1;have g2':(H.set h.length (yK 4 [[.n e.op,.n e.n,.str e.name,u]]))[b2]?=_:=CY g21 U;have ho3:outG 4 AX H0 (e.args.map cpE) u (H.set h.length (yK 4 [[.n e.op,.n e.n,.str e.name,u]])):=ho.setB h0l _;have hx3:ext h (H.set h.length (yK 4 [[.n e.op,.n e.n,.str e.name,u]])):=(hx.trans he).set (jF _) _;refine EM f1 f2 f3 hst ?_
    generalize H.set h.length (yK 4 [[.n e.op,.n e.n,.str e.name,u]])=H3 at g1' g2' ho3 hx3|-
    have hlf4:([.n e.op,.n e.n,.str e.name,u]:List AV).all AV.leaf=true:=by simp [hlf]; exact⟨rfl,rfl,rfl⟩
    refine EM f1 f2 (KY g1' rfl) (WZ g2' rfl rfl hlf4) ?_;rw[JH (b:=b2) (EE f2) (KY (CP g2') rfl)];refine⟨hx3.set U _,?_⟩;have ho4:=ho3.setB (b:=b2) l2 (yK 4 [[.n e.op,.n e.n,.str e.name,u]]);have hz:=PW frzEx ho4 h.length 1 (by have:=hx.le; omega);show AV.agg [.n e.op,.n e.n,.str e.name,EZ h.length _ 3 u]=.agg (cpW e);rw[hz]; rfl
abbrev It:=Sum Ex Int
def A6E:It->Ex
 | .inl e=>e
 | .inr n=>cE n
def AX7 (l:List Rng):List It:=l.flatMap fun r=>[.inr r.lo,.inr r.hi]
def A07 (e:Ex)(l:List Rng):List It:=.inl e::AX7 l
def JA (e:Ex)(l:List Rng):Ex:=.mk 23 0 ⟨#[]⟩ .any ((A07 e l).map A6E)
theorem AN2 (a:Rng)(l:List Rng):AX7 (a::l)=.inr a.lo :: .inr a.hi::AX7 l:=rfl
theorem AZO (h:Hp)(a b:Int)(s:ByteArray)(m:SM)(xs:List (List AV)):C9 jA true h 23 1 [(0,.agg [.n a,.n b,.str s,.sl m 4 xs])]=some (.own h.length 0 1,h++[yK 4 [[.n a,.n b,.str s,.sl m 4 xs]]]):=A7
theorem A7L (h:Hp)(e:Ex):C9 jA true h 23 1 [(0,.agg (AX e))]=some (.own h.length 0 1,h++[yK 4 [AX e]]):=by
 rw[FB]; exact AZO h _ _ _ _ _
theorem A1Q (o n:Nat):IY jA 79 [(0,.n 23),(3,.own o 0 n)]=some (.agg [.n 23,.n 0,.str ⟨#[]⟩,.own o 0 n]):=A7
end Go.Proofs.YtiihpnicbekebaaGreatDoor.Ho
namespace Go.Proofs.YtiihpnicbekebaaGreatDoor.Bins
open Sm
variable {ys:List Rng} {h:Hp} (G:Nat->AV )
def full (r:Rng):Bool:=decide (r.lo<=r.hi)
def glue (t r:Rng):Bool:=decide (r.lo<=t.hi)||decide (IntKind.i64.wrap (r.lo-1)=t.hi)
def join (out:List Rng)(r:Rng):List Rng:=match out.getLast? with
 | some t=>if glue t r then out.dropLast++[⟨t.lo,max t.hi r.hi⟩] else out++[r]
 | none=>out++[r]
def Y9 (xs:List Rng):List Rng:=xs.foldl join []
def gM (a b:Rng):Bool:=decide (a.lo<=b.lo)
def normal (xs:List Rng):List Rng:=Y9 ((xs.filter full).mergeSort gM)
theorem AN0 {out:List Rng}{a b:Rng}(h:a.lo=b.lo)(ha:full a=true)(hb:full b=true):join (join out a) b=join (join out b) a:=by
 simp only[full,decide_eq_true_eq] at ha hb
 have key:∀(init:List Rng) (t r s:Rng),glue t s=true->(join (init++[t]) s)=init++[⟨t.lo,max t.hi s.hi⟩]:=by
  intro init t r s hg;simp [join,hg]
 cases hl:out.getLast? with
 | none =>
   have:out=[]:=BG hl;subst this;have e1:join [] a=[]++[a]:=rfl;have e2:join [] b=[]++[b]:=rfl;rw[e1,e2,key [] a a b (by simp [glue]; omega),key [] b b a (by simp [glue]; omega)];simp [h,Int.max_comm]
 | some t =>
   obtain⟨init,rfl⟩:∃init,out=init++[t]:=by
    have:=List.getLast?_eq_some_iff.1 hl;exact this
   have hg:glue t a=glue t b:=by unfold glue; rw[h]
   cases hc:glue t a with
   | true =>
     have hc':glue t b=true:=by rw[<-hg]; exact hc
     rw[key init t a a hc,key init t b b hc',key init _ a b (by simp [glue]; omega),key init _ b a (by simp [glue]; omega)];simp only[Int.max_assoc,Int.max_comm a.hi b.hi]
   | false =>
     have hc':glue t b=false:=by rw[<-hg]; exact hc
     have e1:join (init++[t]) a=(init++[t])++[a]:=by simp [join,hc]
     have e2:join (init++[t]) b=(init++[t])++[b]:=by simp [join,hc']
     rw[e1,e2,key (init++[t]) a a b (by simp [glue]; omega),key (init++[t]) b b a (by simp [glue]; omega)];simp [h,Int.max_comm]
theorem A5F {a:Rng}(ha:full a=true):∀(pre:List Rng) (rest out:List Rng),(∀x∈pre,x.lo=a.lo∧full x=true)->(pre++a::rest).foldl join out=(a::(pre++rest)).foldl join out
 | [],rest,out,_=>rfl
 | p::pre,rest,out,h=>by
   have hp:=h p AZ;have ih:=A5F ha pre rest (join out p) (fun x hx=>h x (by simp [hx]))
   simp only[zG,wC] at ih|-
   rw[ih,AN0 hp.1 hp.2 ha]
theorem tM:∀(xs ys:List Rng) (out:List Rng),xs.Perm ys->xs.Pairwise (fun a b=>a.lo<=b.lo)->ys.Pairwise (fun a b=>a.lo<=b.lo)->(∀x∈xs,full x=true)->xs.foldl join out=ys.foldl join out
 | [],ys,out,hp,_,_,_=>by rw[List.nil_perm.1 hp]
 | a::xs,ys,out,hp,hx,hy,hf=>by
   have hmem:a∈ys:=hp.subset AZ;obtain⟨pre,rest,rfl⟩:=List.append_of_mem hmem
   have hpre:∀x∈pre,x.lo=a.lo∧full x=true:=by
    intro x hxp;have h1:x.lo<=a.lo:=(List.pairwise_append.1 hy).2.2 x hxp a AZ;have h2:x∈a::xs:=hp.symm.subset (by simp [hxp])
    have h3:a.lo<=x.lo:=by
     rcases List.mem_cons.1 h2 with rfl|h2
     .exact Int.le_refl _
     .exact(List.pairwise_cons.1 hx).1 x h2
    exact⟨U,hf x h2⟩
   rw[A5F (hf a AZ) pre rest out hpre];simp only[wC];have hp':xs.Perm (pre++rest):=(List.perm_cons a).1 (hp.trans (List.perm_middle));refine tM xs (pre++rest) _ hp' (List.pairwise_cons.1 hx).2 ?_ (fun x h=>hf x (by simp [h]));have:=List.pairwise_append.1 hy;rw[List.pairwise_append];exact⟨this.1,(List.pairwise_cons.1 this.2.1).2,fun x h1 y h2=>this.2.2 x h1 y (by simp [h2])⟩
theorem ANI {xs:List Rng}(hp:ys.Perm (xs.filter full))(hs:ys.Pairwise (fun a b=>a.lo<=b.lo)):Y9 ys=normal xs:=by
 unfold normal Y9;refine tM _ _ _ (hp.trans (List.mergeSort_perm _ _).symm) hs ?_ (fun x hx=>by have:=hp.subset hx; simp at this; exact this.2);have:=List.pairwise_mergeSort (le:=gM) (fun a b c h1 h2=>by simp [gM] at *; omega) (fun a b=>by simp [gM]; omega) (xs.filter full);exact this.imp (by simp [gM])
theorem row_map {α:Type}{f:α->List AV}{xs:List α}{k:Nat}(h:k<xs.length):(xs.map f)[k]?=some (f xs[k]):=by simp [h]
theorem ABQ {row cs:List AV}(h:row.length=cs.length):splice row 0 cs=cs:=by simp [splice,h]
theorem rP (G:Nat->AV)(xs:List Rng)(b:Nat)(fid:FuncId)(caps:List AV)(p:Rng->Bool)(h:Hp)(hl:xs.length<=1099511627776)(hb:h[b]?=some (yK 2 (xs.map encR)))
  (hf:∀r,PCall (En G) fid (.agg (encR r)::caps) h (.bool (p r))) :
  PCall (En G) 326 [.own b 0 xs.length,.fn (.func fid) [] caps] h (.n (match xs.findIdx? p with|some i=>(i:Int)|none => -1)):=by
 refine acT Tryz.func326 4 ?_;refine AA ?_;refine BJ (fun n F H=>∃k,n+k=xs.length∧F 0=.own b 0 xs.length∧F 1=.fn (.func fid) [] caps∧F 7=.n xs.length∧F 8=.n (k:Nat)∧H=h∧(xs.take k).all (fun r => !p r)=true) xs.length ⟨0,AZ,rfl,rfl,rfl,rfl,rfl,rfl⟩ ?_;rintro n F H ⟨k,hk,f0,f1,f7,f8,rfl,hin⟩;refine EM f0 f1 f7 f8 ?_;refine D8 ?_ ?_<;>intro hc'
 .have e1:BH jA H 145 (.ptr b k 0)=some (.agg (encR xs[k])):=by
   rw[EF eI LZ hb (row_map hc') (by simp [encR])]; rfl
  simp only[vQ,CG,List.nil_append,zG,↓reduceIte,jC,enP,dL,f0,f1,f7,f8,GM hb hc',e1];refine(hf _).uu ?_;refine BM ?_ ?_<;>intro hb
  .refine AA ?_
   refine⟨?_,trivial⟩
   rw[wR.2 ⟨hc',hb,fun j hj=>by
    rw[zL] at hin;have:=hin xs[j] (by rw[List.mem_take_iff_getElem]; exact⟨j,U,rfl⟩)
    simpa using this⟩]
  .refine A8 f8 (CZ k) ?_
   refine⟨n-1,U,k+1,U,f0,f1,f7,rfl,trivial,?_⟩;rw[jU hc',List.all_append,hin];simp only[List.all_cons,List.all_nil,hb]; rfl
 .refine AA ?_
  refine⟨?_,trivial⟩;rw[jJ U] at hin;rw[wS.2 (BG hin)]
theorem AEQ (r:Rng)(h:Hp):PCall (En G) 295 [.agg (encR r)] h (.bool (!full r)):=by
 refine ACalls.pure0 rfl ?_;refine acT Tryz.func295 2 ?_;refine MB @bxR @aE @YJ ?_;refine⟨?_,_,rfl⟩;congr 1;unfold full;rw[Bool.eq_iff_iff]; simp
theorem AIB (G:Nat->AV)(xs:List Rng)(b:Nat)(fid:FuncId)(p:Rng->Bool)(h0 h:Hp)(hl:xs.length<=1099511627776)(he:ext h0 h)(hb0:h0.length<=b)(hb:h[b]?=some (yK 2 (xs.map encR)))
  (hf:∀r H,PCall (En G) fid [.agg (encR r)] H (.bool (p r))) :
  ACalls (En G) 293 [.own b 0 xs.length,.fn (.func fid) [] []] h fun v H=>v=.own b 0 (xs.filter fun r => !p r).length∧ext h0 H∧∃tail,H[b]?=some (yK 2 ((xs.filter fun r => !p r).map encR++tail)):=by
 refine acT Tryz.func293 4 ?_;refine AA ?_;refine(rP G xs b fid [] p h hl hb (fun r=>hf r h)).uu ?_
 cases hi:xs.findIdx? p with
 | none =>
   refine AA ?_;refine BM ?_ ?_<;>intro hc
   .refine AA ?_
    have:xs.filter (fun r => !p r)=xs:=by
     rw[wS] at hi;rw[List.filter_eq_self]; intro x hx; simp [hi x hx]
    rw[this];exact⟨rfl,he,[],BG hb⟩
   .simp at hc
 | some i0 =>
   refine AA ?_;obtain⟨hi1,hi2,hi3⟩:=wR.1 hi;refine BM ?_ ?_<;>intro hc
   .simp at hc
   refine AY (CZ i0) ?_;refine BJ (fun n F H=>∃i j zs,n+j=xs.length∧i<j∧F 0=.own b 0 xs.length∧F 1=.fn (.func fid) [] []∧F 5=.n (i:Nat)∧F 6=.n (j:Nat)∧ext h0 H∧H[b]?=some (yK 2 (zs.map encR))∧zs.length=xs.length∧zs.take i=(xs.take j).filter (fun r => !p r)∧zs.drop j=xs.drop j) (xs.length-(i0+1)) ⟨i0,i0+1,xs,U,U,AL,AL,AL,AL,he,hb,rfl,?_,rfl⟩ ?_
   .rw[jU hi1,List.filter_append]
    simp [hi2];refine(List.filter_eq_self.2 ?_).symm;intro x hx;rw[List.mem_take_iff_getElem] at hx;obtain⟨j,hj,rfl⟩:=hx;have:=hi3 j U;simpa using this
   rintro n F H ⟨i,j,zs,hn,hij,f0,f1,f5,f6,hex,hz,hzl,hzt,hzd⟩;refine A8 f0 f6 ?_;refine D8 ?_ ?_<;>intro hd'
   .have hdz:j<zs.length:=U
    have e0:zs[j]=xs[j]:=by
     have h1:(zs.drop j)[0]?=(xs.drop j)[0]? := by rw[hzd]
     rw[wH,wH,zD,jG hdz,jG hd'] at h1;exact Option.some.inj h1
    have e1:BH jA H 145 (.ptr b j 0)=some (.agg (encR xs[j])):=by
     rw[EF eI LZ hz (row_map hdz) (by simp [encR]),e0]; rfl
    have ld:BH jA (H++[yK 2 [encR xs[j]]]) 145 (.ptr (wO H) 0 0)=some (.agg (encR xs[j])):=Y8 eI LZ (by simp [encR]);simp only[vQ,CG,List.append_nil,↓reduceIte,jC,enP,dL,jQ,f0,f1,f6,GM hz hd',e1,API,AMK _ _ [.n 0,.n 0] rfl,ld];refine(hf _ _).uu ?_
    have htk:(xs.take (j+1)).filter (fun r => !p r)=(xs.take j).filter (fun r => !p r)++(if p xs[j] then [] else [xs[j]]):=by
     rw[jU hd',List.filter_append];cases hp:p xs[j]<;>simp [hp]
    have hz2:(H++[yK 2 [encR xs[j]]])[b]?=some (yK 2 (zs.map encR)):=AB hz
    have hdrop:zs.drop (j+1)=xs.drop (j+1):=by
     have:=congrArg (List.drop 1) hzd;simpa [Nat.add_comm] using this
    refine BM ?_ ?_<;>intro hp
    .have hp':p xs[j]=false:=BG hp
     have hiz:i<zs.length:=U;have hix:i<xs.length:=U
     have st:DT jA (H++[yK 2 [encR xs[j]]]) 145 (.ptr b i 0) (.agg (encR xs[j]))=some ((H++[yK 2 [encR xs[j]]]).set b (yK 2 ((zs.set i xs[j]).map encR))):=by
      rw[G5 (cs:=encR xs[j]) rfl LZ hz2 (row_map hiz) (by simp [encR]),ABQ (by simp [encR]),List.map_set]
     simp only[vQ,PD,CG,↓reduceIte,jC,enP,dL,jQ,f0,f5,ld,GM hz2 hix,st,CZ i,f6,CZ j];refine⟨n-1,U,i+1,j+1,zs.set i xs[j],U,U,trivial,f1,rfl,rfl,(hex.app _).set hb0 _,CP hz2,BG hzl,?_,?_⟩
     .rw[htk,hp',<-hzt,jU (BG hiz),List.take_set,List.set_eq_of_length_le KH]
      simp
     .rw[List.drop_set_of_lt U]; exact hdrop
    .have hp':p xs[j]=true:=BG hp
     refine A8 f6 (CZ j) ?_;refine⟨n-1,U,i,j+1,zs,U,U,f0,f1,f5,rfl,hex.app _,hz2,hzl,?_,hdrop⟩;rw[htk,hp',hzt]; simp
   .have hjl:j=xs.length:=U
    have hfl:(xs.filter fun r => !p r)=zs.take i:=by
     rw[hzt,jJ U]
    have hil:i<=zs.length:=U;have hlen:(xs.filter fun r => !p r).length=i:=by rw[hfl]; simp; omega
    have hs1:IA jA H 84 (.own b 0 xs.length) (some (.n (i:Int))) none none=some (.own b i (xs.length-i)):=by
     have:=AC0 aO LZ (kk:=.i64) (off:=0) (len:=xs.length) (l:=i) hz U;rw[jH] at this; exact this
    have hcl:iE jA H 84 (.own b i (xs.length-i))=some (GZ,H.set b (yK 2 (Sm.rowsSet (zs.map encR) i (jR (xs.length-i) [.n 0,.n 0])))):=by
     have hz0:MC jA 145=some [.n 0,.n 0]:=A7;simp only[iE,aO,hz0,hz];rw[if_pos];refine⟨rfl,?_⟩;simp; omega
    have hs2:IA jA (H.set b (yK 2 (Sm.rowsSet (zs.map encR) i (jR (xs.length-i) [.n 0,.n 0])))) 84 (.own b 0 xs.length) none (some (.n (i:Int))) none=some (.own b 0 i):=A2R aO LZ (CP hz) U;refine NY @AVZ f0 f5 hs1 hcl hs2 ?_;refine⟨by rw[hlen],hex.set hb0 _,?_⟩;rw[CP hz,hfl];refine⟨jR (xs.length-i) [.n 0,.n 0]++(zs.map encR).drop (i+(xs.length-i)),?_⟩;simp [Sm.rowsSet,List.map_take]
theorem AZH (xs:List Rng)(m:SM)(h:Hp)(hl:xs.length<=16777216):
  ACalls (En G) 294 [.sl m 2 (xs.map encR)] h (AIG 2 (xs.map encR) h):=by
 refine ACalls.of_rep (cok _ _ A7) fun⟨g,cargs,ha⟩=>?_
 refine acT Tryz.func294 2 ?_;refine AY A5N ?_;refine BM ?_ ?_<;>intro hc
 .have hm:m=.nil:=BG hc
  subst hm;refine AY @decide_true ?_;exact .inl ⟨nC ha (i:=0) rfl,⟨_,rfl⟩,rfl⟩
 .refine AY @A34 ?_
  rcases Classical.em (xs=[]) with hx|hx
  .subst hx
   simp only[vQ,CG,↓reduceIte,AFP aO LZ (.inr rfl)];exact .inr (.inl ⟨rfl,rfl,rfl⟩)
  .have hr:room (([]:List (List AV)).length+(xs.map encR).length) 16:=GV (BG hl) U
   have hne:xs.map encR≠[]:=BG hx;refine AY (VS aO LZ APQ AUB (F9 h m 2 (xs.map encR)) hne hr) ?_;exact .inr (.inr ⟨BG hx,AZ,AZ⟩)
theorem nN (m:SM)(k:Nat)(fv:AV)(h:Hp):PCall (En G) 326 [.sl m k [],fv] h (.n (-1)):=by
 refine acT Tryz.func326 4 ?_;refine YT ?_;refine BJ (fun n F H=>F 7=.n ((0:Nat):Int)∧F 8=.n 0∧H=h) 0 ⟨rfl,rfl,rfl⟩ ?_;rintro n F H ⟨f7,f8,rfl⟩;refine A8 f7 f8 ?_;refine BM ?_ ?_<;>intro hc
 .simp at hc
 .refine AA ?_
  exact HY
theorem iW (m:SM)(k:Nat)(fv:AV)(h:Hp):PCall (En G) 293 [.sl m k [],fv] h (.sl m k []):=by
 refine acT Tryz.func293 4 ?_;refine AA ?_;refine(nN G m k fv h).uu ?_;refine BM ?_ ?_<;>intro hc
 .refine AA ?_
  exact HY
 .simp at hc
structure SortOk (G:Nat->AV):Prop where
 own:∀(xs:List Rng) (b:Nat) (tail:List (List AV)) (h0 h:Hp),xs.length<=16777216->ext h0 h->h0.length<=b->h[b]?=some (yK 2 (xs.map encR++tail)) ->
  ACalls (En G) 296 [.own b 0 xs.length,.fn (.func 297) [] []] h fun _ H=>ext h0 H∧∃ys:List Rng,ys.Perm xs∧ys.Pairwise (fun a b=>a.lo<=b.lo)∧H[b]?=some (yK 2 (ys.map encR++tail))
 none:∀(m:SM) (k:Nat) (h:Hp),PCall (En G) 296 [.sl m k [],.fn (.func 297) [] []] h (.tup [])
def nm (ys:List Rng):SM:=if ys=[] then .nil else .any
def A2S (h:Hp)(out:List Rng)(b:Nat)(v:AV)(H:Hp):Prop :=
 (out=[]∧v=.sl .nil 0 [])∨(out≠[]∧∃o,h.length<=o∧o≠b∧v=.own o 0 out.length∧H[o]?=some (yK 2 (out.map encR)))
theorem AUG (h:Hp)(r:Rng):C9 jA false h 84 1 [(0,.agg (encR r))]=some (.sl .full 2 [encR r],h):=A7
def srcR (h:Hp)(ys:List Rng)(b:Nat)(v:AV)(H:Hp):Prop :=
 (ys=[]∧∃m k,v=.sl m k [])∨(h.length<=b∧v=.own b 0 ys.length∧∃tail,H[b]?=some (yK 2 (ys.map encR++tail)))
theorem ASF (out:List Rng)(r:Rng):(join out r).length<=out.length+1:=by
 unfold join;split
 .split
  .simp
  .simp
 .simp
theorem fK:∀(xs out:List Rng),(xs.foldl join out).length<=out.length+xs.length
 | [],out=>AZ
 | x::xs,out=>by
   have h1:=fK xs (join out x);have h2:=ASF out x;simp only[wC,List.length_cons];omega
theorem srcR.app {b:Nat}{v:AV}{H:Hp}(hs:srcR h ys b v H)(x:ABlk):srcR h ys b v (H++[x]):=by
 rcases hs with h1|⟨h1,h2,tail,h3⟩
 .exact .inl h1
 .exact .inr ⟨h1,h2,tail,AB h3⟩
theorem srcR.set {h:Hp}{ys:List Rng}{b o:Nat}{v:AV}{H:Hp}(hs:srcR h ys b v H)(x:ABlk)(ho:o≠b):srcR h ys b v (H.set o x):=by
 rcases hs with h1|⟨h1,h2,tail,h3⟩
 .exact .inl h1
 .exact .inr ⟨h1,h2,tail,CY h3 ho.symm⟩
theorem wN (hS:SortOk G)(xs:List Rng)(m:SM)(h:Hp)(hl:xs.length<=8388608):
  ACalls (En G) 245 [.sl m 2 (xs.map encR)] h fun v H=>ext h H∧∃b,A2S h (normal xs) b v H:=by
 refine acT Tryz.func245 2 ?_;refine AA ?_;refine(AZH G xs m h U).mono fun vv H' hcl=>?_
 have hfl:(xs.filter full).length<=xs.length:=List.length_filter_le _ _;refine sD (fun F H=>ext h H∧((xs.filter full=[]∧∃m k,F 3=.sl m k [])∨∃b,h.length<=b∧F 3=.own b 0 (xs.filter full).length∧∃tail,H[b]?=some (yK 2 ((xs.filter full).map encR++tail)))) ?_ ?_
 .rcases hcl with⟨hx,⟨k0,rfl⟩,rfl⟩|⟨hx,rfl,rfl⟩|⟨hx,rfl,rfl⟩
  .have hx':xs=[]:=BG hx
   refine AA ?_;refine(iW G _ _ _ _).uu ?_;exact⟨ext.rfl' _,.inl ⟨by rw[hx']; rfl,_,_,rfl⟩⟩
  .have hx':xs=[]:=BG hx
   refine AA ?_;refine(iW G _ _ _ _).uu ?_;exact⟨ext.rfl' _,.inl ⟨by rw[hx']; rfl,_,_,rfl⟩⟩
  .refine AA ?_
   refine(AIB G xs h.length 295 (fun r => !full r) h (h++[yK 2 (xs.map encR)]) U ⟨_,rfl⟩ (jF _) (AQ _ _) (fun r H=>AEQ G r H)).mono ?_;rintro v H ⟨rfl,hex,tail,ht⟩;refine AA ?_;have e:(xs.filter fun r => !!full r)=xs.filter full:=AZ
   rw[e] at ht|-
   exact⟨hex,.inr ⟨h.length,jF _,rfl,tail,ht⟩⟩
 rintro F H ⟨hex,hcase⟩;rw[BQ,BO];refine AAL (fun F H=>ext h H∧∃ys:List Rng,ys.Perm (xs.filter full)∧ys.Pairwise (fun a b=>a.lo<=b.lo)∧∃b,srcR h ys b (F 3) H) (fun _ _=>False) ?_ ?_ (fun _ _ hh=>hh.elim)
 .rcases hcase with⟨hz,m0,k0,f3⟩|⟨b,hb,f3,tail,ht⟩
  .refine AY f3 ?_
   refine(hS.none m0 k0 H).uu ?_;exact⟨hex,[],by rw[hz],.nil,0,.inl ⟨rfl,m0,k0,f3⟩⟩
  .refine AY f3 ?_
   refine(hS.own (xs.filter full) b tail h H U hex hb ht).mono ?_;rintro v H' ⟨hex',ys,hp,hs,hy⟩;refine AA ?_;refine⟨hex',ys,hp,hs,b,.inr ⟨hb,?_,tail,hy⟩⟩;rw[hp.length_eq]; exact f3
 rintro F H ⟨hex,ys,hp,hs,b,hsrc⟩;have hyl:ys.length<=8388608:=by rw[hp.length_eq]; omega
 have hN:Y9 ys=normal xs:=ANI hp hs;generalize hsv:F 3=sv at hsrc
 have hlen:JR jA 84 sv=some (.n ys.length):=by
  rcases hsrc with⟨rfl,m0,k0,rfl⟩|⟨_,rfl,_⟩
  .exact xI.1 _ _ _
  .exact xI.2 _ _ _
 refine A8 hsv @hlen ?_;refine BJ (fun n F H=>∃k,n+k=ys.length∧F 13=sv∧F 14=.n ys.length∧F 15=.n (k:Nat)∧ext h H∧srcR h ys b sv H∧A2S h ((ys.take k).foldl join []) b (F 4) H) ys.length ⟨0,AZ,AL,AL,AL,hex,hsrc,.inl ⟨rfl,AL⟩⟩ ?_;clear hex hsrc hsv;rintro n F H ⟨k,hk,f13,f14,f15,hex,hsrc,hout⟩;refine A8 f14 f15 ?_;refine D8 ?_ ?_<;>intro hc'
 .have htk:(ys.take (k+1)).foldl join []=join ((ys.take k).foldl join []) ys[k]:=by
   rw[jU hc',List.foldl_append]; rfl
  have hol0:((ys.take k).foldl join []).length<=8388608:=by
   have:=fK (ys.take k) [];simp at this; omega
  generalize (ys.take k).foldl join []=out at hout htk hol0;have hsrc':=hsrc;rcases hsrc with⟨rfl,_⟩|⟨hb,rfl,tail,ht⟩
  .simp at hc'
  have e1:BH jA H 145 (.ptr b k 0)=some (.agg (encR ys[k])):=by
   rw[EF eI LZ ht (row:=encR ys[k]) (by rw[List.getElem?_append_left (by simpa using hc')]; exact row_map hc') (by simp [encR])]; rfl
  have ht2:(H++[yK 2 [encR ys[k]]])[b]?=some (yK 2 (ys.map encR++tail)):=AB ht;have ld:BH jA (H++[yK 2 [encR ys[k]]]) 145 (.ptr (wO H) 0 0)=some (.agg (encR ys[k])):=Y8 eI LZ (by simp [encR]);rcases hout with⟨rfl,f4⟩|⟨hne,o,ho1,ho2,f4,ho⟩
  .have dneg:decide ((IntKind.i64.wrap (((0:Nat):Int)-1))≥0)=false:=by rw[wrap_i64 U U]; simp
   simp only[vQ,CG,PY,↓reduceIte,jC,enP,dL,xI,jQ,f13,f15,GM ht hc',e1,API,AMK _ _ [.n 0,.n 0] rfl,f4,List.length_nil];refine DZ A7 ?_;have h1:([encR ys[k]]:List (List AV))≠[]:=AZ;simp only[vQ,JM,MX,QU,AF9,A0A,XM,OM,PD,EI,CG,FV,F7,J6,ML,↓reduceIte,jC,jS,enP,dneg,ld,f4,AUG,QT aO LZ APQ AUB (F9 (H++[yK 2 [encR ys[k]]]) .full 2 [encR ys[k]]) h1 (GV AZ U),f15,CZ k];refine⟨n-1,U,k+1,U,f13,f14,rfl,(hex.app _).app _,(hsrc'.app _).app _,?_⟩;rw[htk];have hbl:=Z ht;exact .inr ⟨by simp [join],_,by simp; have:=hex.le; omega,by simp; omega,rfl,by simp [join]⟩
  .obtain⟨init,t,rfl⟩:∃init t,out=init++[t]:=⟨out.dropLast,out.getLast hne,(List.dropLast_concat_getLast hne).symm⟩
   have hol:=Z ho;have hbl:=Z ht
   have hlast:(IntKind.i64.wrap (((init++[t]).length:Int)-1))=((init.length:Nat):Int):=by
    rw[wrap_i64 U U]; simp
   have dpos:decide (((init.length:Nat):Int)≥0)=true:=AZ;have ho3:(H++[yK 2 [encR ys[k]]])[o]?=some (yK 2 ((init++[t]).map encR)):=AB ho;have hil:init.length<(init++[t]).length:=AZ;have erow:((init++[t]).map encR)[init.length]?=some (encR t):=AZ;have lhi:BH jA (H++[yK 2 [encR ys[k]]]) 3 (.ptr o init.length 1)=some (.n t.hi):=by rw[BA ag3 ho3 erow]; rfl
   simp only[vQ,CG,PY,↓reduceIte,jC,enP,dL,xI,jQ,f13,f15,GM ht hc',e1,API,AMK _ _ [.n 0,.n 0] rfl,f4,hlast];refine DZ A7 ?_;simp only[vQ,MX,QU,eO,OM,EI,ZI,ML,↓reduceIte,jC,jS,enP,dL,ZC,ZB,dpos,D5 ag3,aE,YJ,f4,GM ho3 hil,lhi];refine A4F (fun F H'=>F 44=.bool (glue t ys[k])∧F 13=.own b 0 ys.length∧F 14=.n ys.length∧F 15=.n (k:Nat)∧F 4=.own o 0 (init++[t]).length∧F 6=.ptr H.length 0 0∧F 7=.n (init.length:Nat)∧H'=H++[yK 2 [encR ys[k]]]) ?_ ?_
   .refine A10 ?_ ?_<;>intro ha
    .refine JG ha f4 f13 f14 f15 ?_
     exact⟨by unfold glue; rw[ha]; rfl,trivial,trivial,trivial,trivial,trivial,trivial,trivial⟩
    .simp only[vQ,MX,QU,eO,pW,XM,OM,EI,PY,JS,↓reduceIte,jC,jS,enP,dL,ZC,ZB,ha,D5 ag3,aE,YJ,f4,f13,f14,f15,GM ho3 hil,lhi]
     exact⟨by unfold glue; rw[ha]; rfl,trivial,trivial,trivial,trivial,trivial,trivial,trivial⟩
   clear f13 f14 f15 f4;rintro F H' ⟨f44,f13,f14,f15,f4,f6,f7,rfl⟩;refine AY f44 ?_;refine BM ?_ ?_<;>intro hg
   .have st:∀v:Int,DT jA (H++[yK 2 [encR ys[k]]]) 3 (.ptr o init.length 1) (.n v)=some ((H++[yK 2 [encR ys[k]]]).set o (yK 2 ((init++[Rng.mk t.lo v]).map encR))):=by
     intro v;have h2:=G5 (P:=jA) (t:=3) (j:=1) (v:=.n v) (cs:=[.n v]) rfl sz3 ho3 erow (by simp [encR]);have h3:((init++[t]).map encR).set init.length (splice (encR t) 1 [.n v])=(init++[Rng.mk t.lo v]).map encR:=by simp [encR,splice]
     rw[h2,h3]
    refine AA ?_;refine DZ A7 ?_;simp only[vQ,QR,RX,LJ,TT,eT,YN,PD,CG,AJA,xF,↓reduceIte,jC,jS,enP,dL,ZB,jQ,f4,f6,f7,GM ho3 hil,lhi,D5 ag3,YJ,st,f15,CZ k];refine⟨n-1,U,k+1,U,f13,f14,rfl,(hex.app _).set ho1 _,(hsrc'.app _).set _ ho2,?_⟩;rw[htk];have hj:join (init++[t]) ys[k]=init++[⟨t.lo,max t.hi ys[k].hi⟩]:=by simp [join,hg]
    rw[hj];exact .inr ⟨AZ,o,ho1,ho2,AZ,CP ho3⟩
   .have h1:([encR ys[k]]:List (List AV))≠[]:=AZ
    have hc1:IV (H++[yK 2 [encR ys[k]]]) (.own o 0 (init++[t]).length)=some (2,(init++[t]).map encR):=by
     rw[JQ ho3 AZ,zT,jJ AZ]
    refine NW ld f4 f6 @AUG (P5 aO LZ APQ AUB hc1 (F9 (H++[yK 2 [encR ys[k]]]) .full 2 [encR ys[k]]) h1 (GV (by simp at hol0|-; omega) U)) f15 (CZ k) ?_;refine⟨n-1,U,k+1,U,f13,f14,rfl,((hex.app _).set ho1 _).app _,((hsrc'.app _).set _ ho2).app _,?_⟩;rw[htk];have hj:join (init++[t]) ys[k]=(init++[t])++[ys[k]]:=by simp [join,hg]
    rw[hj];exact .inr ⟨AZ,(H++[yK 2 [encR ys[k]]]).length,by simp; have:=hex.le; omega,by simp; omega,AZ,AZ⟩
 .have:k=ys.length:=U
  subst this;rw[List.take_length] at hout;have hN':ys.foldl join []=normal xs:=hN;rw[hN'] at hout;refine AA ?_;exact⟨hex,b,hout⟩
theorem frz_rows (n:Nat)(h:Hp)(d:Nat)(xs:List Rng):(xs.map encR).map (·.map (EZ n h (d+1)))=xs.map encR:=by
 rw[List.map_map];congr 1
theorem frzF_own (n:Nat)(h:Hp)(d b off len k:Nat)(xs:List (List AV))(hn:¬b<n)(hb:h[b]?=some (yK k xs)):EZ n h (d+1) (.own b off len)=if off+len<=xs.length∧(((xs.drop off).take len).map (·.map (EZ n h d))).all (·.all AV.leaf)=true then .sl .any k (((xs.drop off).take len).map (·.map (EZ n h d))) else .junk:=by
 rw[EZ];simp only[hn,if_false,hb]
theorem frz_own {n d:Nat}{o:Nat}{xs:List Rng}(hn:n<=o)(ho:h[o]?=some (yK 2 (xs.map encR))):EZ n h (d+2) (.own o 0 xs.length)=.sl .any 2 (xs.map encR):=by
 rw[frzF_own n h (d+1) o 0 xs.length 2 _ U ho,zT,jJ AZ,frz_rows n h d xs];rw[if_pos];refine⟨AZ,?_⟩;rw[zL];intro row hr;obtain⟨x,_,rfl⟩:=List.mem_map.1 hr;rfl
theorem ANE {G:Nat->AV}{f:FuncId}{args:List AV}(hc:ACalls (En G) f args h fun v H=>ext h H∧∃b,A2S h ys b v H):PCall (En G) f args h (.sl (nm ys) 2 (ys.map encR)):=by
 have h1:PCall (En G) f args h (if ys=[] then AV.sl .nil 0 [] else .sl .any 2 (ys.map encR)):=by
  refine ACalls.pure 2 hc ?_;rintro v H ⟨hex,b,hout⟩;refine⟨hex,?_⟩;rcases hout with⟨rfl,rfl⟩|⟨hne,o,ho1,_,rfl,ho⟩
  .rfl
  .rw[if_neg hne]; exact frz_own ho1 ho
 refine ACalls.conv h1 ?_;rintro v H ⟨rfl,rfl⟩;refine⟨_,⟨rfl,rfl⟩,?_⟩;intro g cv hr;unfold nm;split at hr
 .rename_i hz; subst hz; exact AC8 hr
 .rename_i hz; rw[if_neg hz]; exact hr
theorem AC5 (hS:SortOk G)(xs:List Rng)(m:SM)(h:Hp)(hl:xs.length<=8388608):PCall (En G) 245 [.sl m 2 (xs.map encR)] h (.sl (nm (normal xs)) 2 ((normal xs).map encR)) :=
 ANE (wN G hS xs m h hl)
end Go.Proofs.YtiihpnicbekebaaGreatDoor.Bins
namespace Go.Proofs.YtiihpnicbekebaaGreatDoor.Bins
open Sm Go.Shelf Go.RowKit Go.Lib Go.Sort
variable (G:Nat->AV )
def AMM:Go.Shelf.Ren:=⟨fun|6=>296|15=>328|14=>327|28=>367|29=>368|20=>359|21=>360|22=>361|23=>362|24=>363|25=>364|26=>365|27=>366|46=>400|47=>401|48=>402|49=>403|50=>404|57=>414|n=>n,fun|22=>84|24=>145|25=>326|3=>3|39=>344|0=>0|53=>364|55=>366|4=>4|46=>358|45=>357|50=>135|5=>5|9=>9|66=>379|70=>281|76=>388|77=>389|n=>n,fun|n=>n⟩
theorem AQL:Go.Proofs.SlLaysF0.n6 jA AMM := {
 mixed:=A7,
 f6:=⟨Tryz.f296.name,by decide,Tryz.func296.trans (congrArg some A7)⟩,
 f14:=⟨Tryz.f327.name,by decide,Tryz.func327.trans (congrArg some A7)⟩,
 f15:=Tryz.func328.trans (congrArg some A7),
 f20:=⟨Tryz.f359.name,by decide,Tryz.func359.trans (congrArg some A7)⟩,
 f21:=⟨Tryz.f360.name,by decide,Tryz.func360.trans (congrArg some A7)⟩,
 f22:=⟨Tryz.f361.name,by decide,Tryz.func361.trans (congrArg some A7)⟩,
 f23:=⟨Tryz.f362.name,by decide,Tryz.func362.trans (congrArg some A7)⟩,
 f24:=⟨Tryz.f363.name,by decide,Tryz.func363.trans (congrArg some A7)⟩,
 f25:=⟨Tryz.f364.name,by decide,Tryz.func364.trans (congrArg some A7)⟩,
 f26:=⟨Tryz.f365.name,by decide,Tryz.func365.trans (congrArg some A7)⟩,
 f27:=⟨Tryz.f366.name,by decide,Tryz.func366.trans (congrArg some A7)⟩,
 f28:=Tryz.func367.trans (congrArg some A7),
 f29:=Tryz.func368.trans (congrArg some A7),
 f46:=⟨Tryz.f400.name,by decide,Tryz.func400.trans (congrArg some A7)⟩,
 f47:=Tryz.func401.trans (congrArg some A7),
 f48:=Tryz.func402.trans (congrArg some A7),
 f49:=⟨Tryz.f403.name,by decide,Tryz.func403.trans (congrArg some A7)⟩,
 f50:=⟨Tryz.f404.name,by decide,Tryz.func404.trans (congrArg some A7)⟩,
 f57:=⟨Tryz.f414.name,by decide,Tryz.func414.trans (congrArg some A7)⟩,
 t0:=Tryz.underlying0,
 a0:=Tryz.isAgg0,
 z0:=Tryz.sizeOf0,
 v0:=Tryz.zeroValue0,
 t3:=Tryz.underlying3,
 a3:=Tryz.isAgg3,
 z3:=Tryz.sizeOf3,
 v3:=Tryz.zeroValue3,
 t4:=Tryz.underlying4,
 a4:=Tryz.isAgg4,
 z4:=Tryz.sizeOf4,
 v4:=Tryz.zeroValue4,
 t5:=Tryz.underlying5,
 a5:=Tryz.isAgg5,
 z5:=Tryz.sizeOf5,
 v5:=Tryz.zeroValue5,
 t9:=Tryz.underlying9,
 a9:=Tryz.isAgg9,
 z9:=Tryz.sizeOf9,
 v9:=Tryz.zeroValue9,
 t22:=Tryz.underlying84,
 a22:=Tryz.isAgg84,
 z22:=Tryz.sizeOf84,
 v22:=Tryz.zeroValue84,
 t25:=Tryz.underlying326,
 a25:=Tryz.isAgg326,
 z25:=Tryz.sizeOf326,
 v25:=Tryz.zeroValue326,
 t39:=Tryz.underlying344,
 a39:=Tryz.isAgg344,
 z39:=Tryz.sizeOf344,
 v39:=Tryz.zeroValue344,
 t45:=Tryz.underlying357,
 a45:=Tryz.isAgg357,
 z45:=Tryz.sizeOf357,
 v45:=Tryz.zeroValue357,
 t46:=Tryz.underlying358,
 a46:=Tryz.isAgg358,
 z46:=Tryz.sizeOf358,
 v46:=Tryz.zeroValue358,
 t50:=Tryz.underlying135,
 a50:=Tryz.isAgg135,
 z50:=Tryz.sizeOf135,
 v50:=Tryz.zeroValue135,
 t53:=Tryz.underlying364,
 a53:=Tryz.isAgg364,
 z53:=Tryz.sizeOf364,
 v53:=Tryz.zeroValue364,
 t55:=Tryz.underlying366,
 a55:=Tryz.isAgg366,
 z55:=Tryz.sizeOf366,
 v55:=Tryz.zeroValue366,
 t66:=Tryz.underlying379,
 a66:=Tryz.isAgg379,
 z66:=Tryz.sizeOf379,
 v66:=Tryz.zeroValue379,
 t70:=Tryz.underlying281,
 a70:=Tryz.isAgg281,
 z70:=Tryz.sizeOf281,
 v70:=Tryz.zeroValue281,
 t76:=Tryz.underlying388,
 a76:=Tryz.isAgg388,
 z76:=Tryz.sizeOf388,
 v76:=Tryz.zeroValue388,
 t77:=Tryz.underlying389,
 a77:=Tryz.isAgg389,
 z77:=Tryz.sizeOf389,
 v77:=Tryz.zeroValue389 }
def AE4:Go.Shelf.Ren:=⟨fun|5=>298|7=>329|n=>n,fun|22=>3|3=>3|4=>4|n=>n,fun|n=>n⟩
theorem AZC:Go.Proofs.SlLaysC2.n5 jA AE4 := {
 mixed:=A7,
 f5:=⟨Tryz.f298.name,by decide,Tryz.func298.trans (congrArg some A7)⟩,
 f7:=⟨Tryz.f329.name,by decide,Tryz.func329.trans (congrArg some A7)⟩,
 t3:=Tryz.underlying3,
 a3:=Tryz.isAgg3,
 z3:=Tryz.sizeOf3,
 v3:=Tryz.zeroValue3,
 t4:=Tryz.underlying4,
 a4:=Tryz.isAgg4,
 z4:=Tryz.sizeOf4,
 v4:=Tryz.zeroValue4,
 t22:=Tryz.underlying3,
 a22:=Tryz.isAgg3,
 z22:=Tryz.sizeOf3,
 v22:=Tryz.zeroValue3 }
def encV (x:Rng):List Value:=[.int .i64 x.lo,.int .i64 x.hi]
instance:Inhabited Rng:=⟨⟨0,0⟩⟩
theorem AO6 (x y:Rng)(W:World):Calls jA 297 #[.agg #[.int .i64 x.lo,.int .i64 x.hi],.agg #[.int .i64 y.lo,.int .i64 y.hi]] W fun e w'=>e=.returned (.int .i64 (Lib.compareInt x.lo y.lo))∧∃q os',w'=grow (W.drewN q) os':=by
 have hcon:=fun W'=>AnyG.cmp_Compare_int AZC x.lo y.lo W'
 change ∀W',Calls jA 298 _ _ _ at hcon
 generalize Lib.compareInt x.lo y.lo=r at hcon|-
 go_enter Tryz.func297,Tryz.ntmps297
 go_wp2_with (go_at_call 298; refine(hcon _).mono ?_; rintro e w' ⟨rfl,rfl⟩)
 go_ret
 exact⟨rfl,0,_,by rw[alloc_eq_grow,alloc_eq_grow,grow_grow]; rfl⟩
theorem AO5 (blk off size:Nat)(w:World):CmpLays jA 297 #[] encV 2 (fun x y=>Lib.compareInt x.lo y.lo) blk off size w :=
 fun _ _ _ _ x y=>AO6 x y _
theorem ltLo (x y:Rng):ltOf (fun x y:Rng=>Lib.compareInt x.lo y.lo) x y=decide (x.lo<y.lo):=by
 unfold ltOf Lib.compareInt;by_cases h1:x.lo<y.lo
 .simp [h1]
 .by_cases h2:y.lo<x.lo<;>simp [h1,h2]
theorem swoLo:SWO (ltOf fun x y:Rng=>Lib.compareInt x.lo y.lo) where
 irrefl x:=by rw[ltLo]; simp
 trans x y z h1 h2:=by rw[ltLo] at *; simp at *; omega
 ntrans x y z h1 h2:=by rw[ltLo] at *; simp at *; omega
theorem encV_len (x:Rng):(encV x).length=2:=rfl
theorem AEK (x:Rng)(j:Nat)(a:AV)(h:(encR x)[j]?=some a)(g:Gh):∃v,(encV x)[j]?=some v∧(encV x)[j]! = v∧Rep g a v∧∀v',Rep g a v'->v'=v:=by
 match j,h with
 | 0,h=>simp [encR] at h; subst h; exact⟨_,rfl,rfl,.int _ _ _,fun v' hv=>hv.int_inv⟩
 | 1,h=>simp [encR] at h; subst h; exact⟨_,rfl,rfl,.int _ _ _,fun v' hv=>hv.int_inv⟩
 | n+2,h=>simp [encR] at h
theorem ABR:∀args w,(callFunc 297 args).run jA w=.ok (.enter 297 args) w:=enters_of Tryz.func297 A7 rfl
theorem AY4 {t n:Nat}(h:t<n*2):t/2<n:=U
theorem AWA (xs:List Rng)(b:Nat)(tail:List (List AV))(h0 h:Hp)(hl:xs.length<=16777216)(he:ext h0 h)(hb0:h0.length<=b)(hb:h[b]?=some (yK 2 (xs.map encR++tail))):
  ACalls (En G) 296 [.own b 0 xs.length,.fn (.func 297) [] []] h fun _ H=>ext h0 H∧∃ys:List Rng,ys.Perm xs∧ys.Pairwise (fun a b=>a.lo<=b.lo)∧H[b]?=some (yK 2 (ys.map encR++tail)):=by
 refine⟨cok 296 G A7,fun g w cargs S ha=>?_⟩;obtain⟨hsz,hget⟩:=ha
 obtain⟨cv0,cv1,rfl⟩:∃a b,cargs = #[a,b]:=by
  obtain⟨l⟩:=cargs
  match l,hsz with
  | [a,b],_=>exact⟨a,b,rfl⟩
 have r0:=hget 0 _ cv0 rfl rfl;have r1:=hget 1 _ cv1 rfl rfl;obtain⟨f1,f2,rfl,q1,q2,_⟩:=r1.fn_inv;obtain rfl:f1 = #[]:=Array.eq_empty_of_size_eq_zero (BG q1);obtain rfl:f2 = #[]:=Array.eq_empty_of_size_eq_zero (BG q2)
 have none_case:∀(p:Option Addr) (cap:Nat),xs=[]->Calls jA 296 #[.slice p 0 cap,.func (.func 297) #[] #[]] w fun e w'=>∃v cv g' h',e=.returned cv∧(ext h0 h'∧∃ys:List Rng,ys.Perm xs∧ys.Pairwise (fun a b=>a.lo<=b.lo)∧h'[b]?=some (yK 2 (ys.map encR++tail)))∧g.le g'∧SimH (En G) g' h' w'∧Rep g' v cv:=by
  intro p cap hx;have hcon:=AnyF.slices_SortFunc_none AQL p cap (.func (.func 297) #[] #[]) w;change Calls jA 296 _ _ _ at hcon;refine hcon.mono ?_;rintro e w' ⟨rfl,rfl⟩;exact⟨.tup [],_,g,h,rfl,⟨he,xs,.refl _,by rw[hx]; exact .nil,hb⟩,Gh.le.refl g,S,Rep.undef g⟩
 rcases r0.own_inv with⟨l,cap,hl0,hlc,hsp,rfl⟩|⟨hn,a,rfl⟩
 case inr =>
  have hx:xs=[]:=List.length_eq_zero_iff.1 hn;have:=none_case (some a) 0 hx;exact this.mono fun _ _ q=>.inl q
 obtain⟨l',c,ety,p1,p2,p3,p4,p5,p6,p7,p8⟩:=S.live b 2 _ hb;rw[hl0] at p1; cases p1;obtain⟨cb,co,k,sz⟩:=l;simp only at p2 p3 p4 p5 p6 p8 hsp;subst p2;simp only[Nat.zero_mul,Nat.add_zero]
 have hblk:cb<w.heap.size:=by
  have:=(Array.getElem?_eq_some_iff.1 p4).1; exact this
 -- the row's cells
 have hcell:∀t,t<xs.length*2->c[co+t]?=some ((encV (xs.toArray[t/2]!))[t%2]!):=by
  intro t ht;have hi:=AY4 ht;have e1:(xs.map encR++tail)[t/2]?=some (encR xs[t/2]):=by rw[zX (BG hi)]; exact row_map hi
  have hj:t%2<2:=Nat.mod_lt _ DF;have e2:(encR xs[t/2])[t%2]?=some ((encR xs[t/2])[t%2]'hj):=List.getElem?_eq_getElem _;obtain⟨cv,s1,s2⟩:=p8 (t/2) (t%2) _ _ e1 e2;obtain⟨v,_,t2,_,t4⟩:=AEK _ _ _ e2 g;rw[show co+t/2*2+t%2=co+t by omega] at s1;rw[s1,t4 cv s2];have:xs.toArray[t/2]! = xs[t/2]:=by simp [hi]
  rw[this,t2]
 have hH:HoldsK encV 2 w cb co xs.toArray:=by
  intro t ht;simp only[size_flatK,List.size_toArray] at ht;refine⟨?_,?_⟩
  .rw[get_flatK _ _ _ _ (BG ht)]
   simp only[World.cell?,p4];exact hcell t ht
  .simp [World.frozen?,p4]
 have hcon:=AnyQ.slices_SortFunc AQL 2 Tryz.isAgg145 Tryz.sizeOf145 encV encV_len (fun x v hv=>by simp [encV] at hv; rcases hv with rfl|rfl<;>rfl) (fun x y=>Lib.compareInt x.lo y.lo) swoLo 297 #[] cb co cap xs.toArray w
  ABR (AO5 cb co _ w) hH hblk KH
 simp only[List.size_toArray] at hcon;change Calls jA 296 _ _ _ at hcon;refine hcon.mono ?_;rintro e w' ⟨rfl,d',m,os,hp,hs,rfl⟩;have hds:d'.size=xs.length:=by simpa using hp.1
 have hperm:d'.toList.Perm xs:=by
  have:=hp.2.2;simpa [Array.extract_eq_self_of_le,hds] using this
 have hpw:d'.toList.Pairwise (fun a b=>a.lo<=b.lo):=by
  rw[List.pairwise_iff_getElem];intro i j hi hj hij;have:=hs i j (Nat.zero_le _) hij (by simpa [hds] using hj);rw[ltLo] at this;simp at hi hj;rw[getElem!_pos d' i hi,getElem!_pos d' j hj] at this;simpa using this
 -- the written world
 have hw1:Wrote w (putRowK encV 2 (Sort.ahead w m) cb co d') cb ety c (putCells id co (flatK encV 2 d') c) co (flatK encV 2 d').toList:=by
  refine⟨rfl,rfl,rfl,?_,?_,?_,?_⟩
  .show(w.heap.modify cb _)[cb]?=_
   rw[Array.getElem?_modify,if_pos rfl,p4];rfl
  .simp [putCells]
  .intro j
   simp only[putCells,Array.getElem?_mapIdx,Array.length_toList];rcases jW j c.size with hj|hj
   .rw[Array.getElem?_eq_getElem hj]
    simp only[Option.map_some];split
    .rename_i hh
     rw[Array.getElem?_toList,Array.getElem?_eq_getElem U,getElem!_pos _ _ U];rfl
    .rfl
   .rw[Array.getElem?_eq_none hj,if_neg ?_]
    .rfl
    .simp only[size_flatK,hds]
     have:co+xs.length*2<=c.size:=by
      rw[p5]; simp only[jT,jM] at p6; omega
     omega
  .intro k hk
   show(w.heap.modify cb _)[k]?=_;rw[Array.getElem?_modify,if_neg (fun e=>hk e.symm)]
 have hrows:PH g (putCells id co (flatK encV 2 d') c) co 2 (d'.toList.map encR++tail):=by
  refine⟨?_,?_,?_⟩
  .have:(putCells id co (flatK encV 2 d') c).size=c.size:=hw1.size
   rw[this,p5]
   simp only[jT,jM,Array.length_toList,hds] at p6|-
   exact p6
  .intro i row hrow
   rcases jW i xs.length with hi|hi
   .rw[zX (by simpa [hds] using hi),List.getElem?_map,Option.map_eq_some_iff] at hrow
    obtain⟨x,_,rfl⟩:=hrow;refine⟨rfl,fun j v hv=>?_⟩
    match j,hv with
    | 0,hv=>simp [encR] at hv; subst hv; rfl
    | 1,hv=>simp [encR] at hv; subst hv; rfl
    | n+2,hv=>simp [encR] at hv
   .rw[wM (by simpa [hds] using hi)] at hrow
    refine p7 i row ?_;rw[wM (BG hi)];simpa [hds] using hrow
  .intro i j row v hrow hv
   rw[hw1.cells];rcases jW i xs.length with hi|hi
   .have hi':i<d'.toList.length:=by simpa [hds] using hi
    rw[zX (by simpa using hi'),row_map hi'] at hrow;cases hrow;have hj:j<2:=(List.getElem?_eq_some_iff.1 hv).1;obtain⟨v',t1,t2,t3,_⟩:=AEK _ _ _ hv g;refine⟨v',?_,t3⟩;have hlt:i*2+j<d'.size*2:=U;rw[if_pos (by simp only[Array.length_toList,size_flatK]; omega),show co+i*2+j-co=i*2+j by omega,Array.getElem?_toList,Array.getElem?_eq_getElem (BG hlt)];rw[<-getElem!_pos,get_flatK _ _ _ _ hlt,show(i*2+j)/2=i by omega,show(i*2+j)%2=j by omega];rw[getElem!_pos d' i U];rw[show d'[i]=d'.toList[i] by simp,t2]
   .rw[if_neg (by simp only[Array.length_toList,size_flatK,hds]; omega)]
    rw[wM (by simpa [hds] using hi)] at hrow;refine p8 i j row v ?_ hv;rw[wM (BG hi)];simpa [hds] using hrow
 have S1:=S.write hb hl0 hw1 p5 hrows
 have S2:SimH (En G) g (h.set b (yK 2 (d'.toList.map encR++tail))) (sortWorldK encV 2 w cb co m d' os):=by
  refine S1.world rfl rfl rfl fun k hk=>?_
  show((putRowK encV 2 (Sort.ahead w m) cb co d').heap++os)[k]?=_;rcases jW k (putRowK encV 2 (Sort.ahead w m) cb co d').heap.size with hlt|hge
  .rw[Array.getElem?_append_left hlt]
  .exfalso
   obtain⟨u1,u2⟩:=S1.unowned_new hge;rcases hk with⟨o,ho⟩|hk
   .rw[u2] at ho; cases ho
   .exact hk u1
 refine .inl ⟨.tup [],_,g,_,rfl,⟨he.set hb0 _,d'.toList,hperm,hpw,CP hb⟩,Gh.le.refl g,S2,Rep.undef g⟩
theorem AQM (m:SM)(k:Nat)(h:Hp):PCall (En G) 296 [.sl m k [],.fn (.func 297) [] []] h (.tup []):=by
 refine⟨cok 296 G A7,fun g w cargs S ha=>?_⟩;obtain⟨hsz,hget⟩:=ha
 obtain⟨cv0,cv1,rfl⟩:∃a b,cargs = #[a,b]:=by
  obtain⟨l⟩:=cargs
  match l,hsz with
  | [a,b],_=>exact⟨a,b,rfl⟩
 have r0:=(hget 0 _ cv0 rfl rfl).sl_inv;have r1:=hget 1 _ cv1 rfl rfl;obtain⟨f1,f2,rfl,q1,q2,_⟩:=r1.fn_inv;obtain rfl:f1 = #[]:=Array.eq_empty_of_size_eq_zero (BG q1);obtain rfl:f2 = #[]:=Array.eq_empty_of_size_eq_zero (BG q2)
 have none_case:∀(p:Option Addr) (cap:Nat),Calls jA 296 #[.slice p 0 cap,.func (.func 297) #[] #[]] w fun e w'=>∃v cv g' h',e=.returned cv∧(v=.tup []∧h'=h)∧g.le g'∧SimH (En G) g' h' w'∧Rep g' v cv:=by
  intro p cap;have hcon:=AnyF.slices_SortFunc_none AQL p cap (.func (.func 297) #[] #[]) w;change Calls jA 296 _ _ _ at hcon;refine hcon.mono ?_;rintro e w' ⟨rfl,rfl⟩;exact⟨.tup [],_,g,h,rfl,⟨rfl,rfl⟩,Gh.le.refl g,S,Rep.undef g⟩
 generalize hx:AV.sl m k []=v at r0
 cases r0<;>first|(cases hx; done)|skip
 .exact(none_case _ _).mono fun _ _ q=>.inl q
 .exact(none_case _ _).mono fun _ _ q=>.inl q
 .rename_i hne _ _ _ _ _ _ _
  cases hx; exact absurd rfl hne
theorem A2E:SortOk G:=⟨fun xs b tail h0 h hl he hb0 hb=>AWA G xs b tail h0 h hl he hb0 hb,fun m k h=>AQM G m k h⟩
theorem wT (xs:List Rng)(m:SM)(h:Hp)(hl:xs.length<=8388608):PCall (En G) 245 [.sl m 2 (xs.map encR)] h (.sl (nm (normal xs)) 2 ((normal xs).map encR)):=AC5 G (A2E G) xs m h hl
end Go.Proofs.YtiihpnicbekebaaGreatDoor.Bins
namespace Go.Proofs.YtiihpnicbekebaaGreatDoor.Ho
open Sm Bins Cov Go.RowKit
def orE (a b:Ex):Ex:=.mk 20 0 ⟨#[]⟩ .full [a,b]
def ARS (e:Ex)(l:List Rng):Nat->Nat->Ex->Ex
 | 0,_,out=>out
 | f+1,i,out=>if i<l.length then ARS e l f (i+16) (orE out (JA e ((l.drop i).take (min l.length (i+16)-i)))) else out
def xN (e:Ex)(l:List Rng):Ex:=ARS e l l.length 16 (JA e (l.take (min l.length 16)))
theorem gR (h:Hp)(a b:Ex):C9 jA false h 23 2 [(0,.agg (AX a)),(1,.agg (AX b))]=some (.sl .full 4 [AX a,AX b],h):=by
 rw[FB a,FB b];generalize a.args.map AX=xs;generalize b.args.map AX=ys
 kernel_rfl
theorem A1P (xs:List (List AV)):IY jA 79 [(0,.n 20),(3,.sl .full 4 xs)]=some (.agg [.n 20,.n 0,.str ⟨#[]⟩,.sl .full 4 xs]):=A7
theorem AKA (a b:Ex):AX (orE a b)=[.n 20,.n 0,.str ⟨#[]⟩,.sl .full 4 [AX a,AX b]]:=by rw[FB]; rfl
theorem nA (xs:List Rng):(normal xs).length<=xs.length:=by
 unfold normal Y9;have h1:=fK ((xs.filter full).mergeSort gM) [];have h2:=List.length_filter_le full xs;rw[List.length_mergeSort] at h1;simp only[List.length_nil,Nat.zero_add] at h1;omega
theorem PI {H:Hp}{b:Nat}{e:Ex}(hb:H[b]?=some (yK 4 [AX e])):BH jA H 79 (.ptr b 0 0)=some (.agg (AX e)):=KY hb (EC e)
theorem QW {H:Hp}{b:Nat}{row:List AV}{e:Ex}(hb:H[b]?=some (yK 4 [row]))(hr:row.length=4):DT jA H 79 (.ptr b 0 0) (.agg (AX e))=some (H.set b (yK 4 [AX e])):=WZ hb hr (EC e) (VN e)
end Go.Proofs.YtiihpnicbekebaaGreatDoor.Ho
namespace Go.Proofs.YtiihpnicbekebaaGreatDoor.Ho
open Sm Bins Cov Wd Xe Go.RowKit
structure Xs where
 m:SM
 l:List Ex
def A1F (x:Xs):List AV:=[.sl x.m 4 (x.l.map AX)]
def okX (s:List Sg)(e:Ex):Bool := !(((evE s e).1:Int)==0)
end Go.Proofs.YtiihpnicbekebaaGreatDoor.Ho
namespace Go.Proofs.YtiihpnicbekebaaGreatDoor.Ho
open Sm Bins Cov Go.RowKit
section
variable (G:Nat->AV)
theorem ACV (m:Mo)(x:Hl)(hc:x.cross=true)(i:Nat)(hi:i<m.crs.length)(hz:x.idx=(i:Int))(h:Hp):PCall (En G) 94 [.agg (DR m),.agg (FX x)] h (.sl m.crs[i].pm 1 (m.crs[i].pts.map qencI)):=by
 refine ACalls.pure0 rfl ?_;refine acT Tryz.func94 4 ?_;have t:=Hb.mk' h m x;refine A8 @bxM @bxH ?_
 generalize h++[yK 2 [DR m]]++[yK 3 [FX x]]=H at t|-
 generalize (h++[yK 2 [DR m]]).length=hb at t|-
 have l0:=AX0 t.gh;have l1:=ANT t.gh;rw[hc] at l0;rw[hz] at l1;simp only[vQ,LC,CG,↓reduceIte,Nat.reduceEqDiff,Nat.zero_add,Option.getD_some,Bool.not_false,enP,fM,U2,YH,U1,l0,l1,ADH t.gm,CX hi,CU NE hi,dX];exact⟨AC,t.hx⟩
theorem ACU (m:Mo)(x:Hl)(hc:x.cross=false)(h:Hp):PCall (En G) 94 [.agg (DR m),.agg (FX x)] h (.sl .full 1 ([x.idx].map qencI)):=by
 refine ACalls.pure0 rfl ?_;refine acT Tryz.func94 4 ?_;have t:=Hb.mk' h m x;refine A8 @bxM @bxH ?_
 generalize h++[yK 2 [DR m]]++[yK 3 [FX x]]=H at t|-
 generalize (h++[yK 2 [DR m]]).length=hb at t|-
 have l0:=AX0 t.gh;rw[hc] at l0;refine DL l0 (ANT t.gh) AFF ?_;exact⟨AC,t.hx⟩
end
end Go.Proofs.YtiihpnicbekebaaGreatDoor.Ho
namespace Go.Proofs.YtiihpnicbekebaaGreatDoor.Sm

theorem GSt.refl (E:Env)(h:Hp):GSt E h h:=fun g _ S=>⟨g,Gh.le.refl g,S⟩
theorem GSt.trans {E:Env}{a b c:Hp}(h1:GSt E a b)(h2:GSt E b c):GSt E a c:=fun g w S =>
 let ⟨g1,l1,S1⟩:=h1 g w S; let ⟨g2,l2,S2⟩:=h2 g1 w S1; ⟨g2,l1.trans l2,S2⟩
theorem GSt.kill (E:Env)(h:Hp)(b:Nat):GSt E h (h.set b .dead):=fun g _ S=>⟨g,Gh.le.refl g,S.kill b⟩
theorem GSt.frz {E:Env}{h:Hp}{b k i j o off len k':Nat}{xs ys:List (List AV)}{row:List AV}(hb:h[b]?=some (yK k xs))(hi:xs[i]?=some row)(hj:row[j]?=some (.own o off len))(ho:h[o]?=some (yK k' ys))
  (hne:o≠b) (hle:off+len<=ys.length) (hfz:MW ((ys.drop off).take len)=true) :
  GSt E h ((h.set o .dead).set b (yK k (xs.set i (row.set j (.sl .any k' ((ys.drop off).take len)))))):=by
 intro g w S;obtain⟨lo,co,eo,p1,p2,p3,p4,p5,p6,p7,p8⟩:=S.live o k' ys ho;have S1:=S.kill o;have u:=N7 S ho AZ p1;have S2:=S1.freeze p4 p3 u;have hg:g.le (g.freeze lo.cb (.cells co eo (0,0))):=Gh.freeze_le p3;have hM:(g.freeze lo.cb (.cells co eo (0,0))).M lo.cb=some (.cells co eo (0,0)):=by simp [Gh.freeze]
 refine⟨_,hg,?_⟩
 generalize g.freeze lo.cb (.cells co eo (0,0))=g' at S2 hg hM|-
 obtain⟨l,c,e,q1,q2,q3,q4,q5,q6,q7,q8⟩:=S.live b k xs hb;have hb2:(h.set o .dead)[b]?=some (yK k xs):=by rw[List.getElem?_set_ne hne]; exact hb
 obtain⟨l',c',e',r1,r2,r3,r4,r5,r6,r7,r8⟩:=S2.live b k xs hb2;have hl:l=l':=by have:=hg.μ _ _ q1; rw[r1] at this; cases this; rfl
 subst hl;have hc:c=c':=by rw[q4] at r4; cases r4; rfl
 subst hc;simp only[MW,List.all_eq_true] at hfz
 have key:∀cv,Rep g (.own o off len) cv->Rep g' (.sl .any k' ((ys.drop off).take len)) cv:=by
  intro cv hr
  have:=aY (φ:=id) S ho p1 p4 hM hle hr (fun row hrow v hv=>by
   obtain⟨i,hi,rfl⟩:=qO hrow;obtain⟨j',hj',rfl⟩:=qO hv;refine⟨?_,fun cv hcv=>(AV.frozen_rep (hfz _ hrow _ hv) hcv).mono hg.M⟩;have:=hfz _ hrow _ hv
   revert this
   generalize (((ys.drop off).take len)[i])[j']=y;intro this
   cases y<;>simp_all [AV.frozen,AV.leaf])
  have hid:((ys.drop off).take len).map (·.map id)=(ys.drop off).take len:=by
   have:(fun x:List AV=>x.map id)=id:=by funext x; simp
   rw[this,List.map_id]
  rw[hid] at this;exact .fro this
 have S3:=S2.kill b;have u2:=N7 S2 hb2 AZ r1;have:=S3.revive (xs:=xs.set i (row.set j (.sl .any k' ((ys.drop off).take len)))) r1 r4 r5 r3 u2 ?_
 .rw[List.set_set,r2] at this; exact this
 rw[r2]
 have hrw:∀(i':Nat) (row':List AV),(xs.set i (row.set j (.sl .any k' ((ys.drop off).take len))))[i']?=some row'->(i'=i∧row'=row.set j (.sl .any k' ((ys.drop off).take len)))∨(i'≠i∧xs[i']?=some row'):=by
  intro i' row' h';rw[zJ] at h';split at h'
  .rename_i e1
   split at h'<;>simp at h';exact .inl ⟨e1.symm,h'.symm⟩
  .rename_i e1; exact .inr ⟨fun q=>e1 q.symm,h'⟩
 refine⟨by rw[wB,r5]; exact r6,?_,?_⟩
 .intro i' row' h'
  rcases hrw i' row' h' with⟨rfl,rfl⟩|⟨_,h2⟩
  .refine⟨by rw[wB]; exact(r7 _ _ hi).1,fun j' v hv=>?_⟩
   rw[zJ] at hv;split at hv
   .split at hv<;>simp at hv
    subst hv; rfl
   .exact(r7 _ _ hi).2 j' v hv
  .exact r7 _ _ h2
 .intro i' j' row' v h' hv
  rcases hrw i' row' h' with⟨rfl,rfl⟩|⟨_,h2⟩
  .rw[zJ] at hv
   split at hv
   .rename_i e1
    split at hv<;>simp at hv;subst hv; subst e1;obtain⟨cv,s1,s2⟩:=q8 _ _ _ _ hi hj;exact⟨cv,s1,key cv s2⟩
   .exact r8 _ _ _ _ hi hv
  .exact r8 _ _ _ _ h2 hv
end Go.Proofs.YtiihpnicbekebaaGreatDoor.Sm
namespace Go.Proofs.YtiihpnicbekebaaGreatDoor.Ho
open Sm Bins Cov Go.RowKit
variable {k:Nat} {H h:Hp} {v:AV}
theorem knP (E:Env)(g:Gh):(E.know g).P=E.P:=rfl
theorem knG (E:Env)(g:Gh):(E.know g).G=E.G:=rfl
def tX (m:SM):SM:=match m with|.nil=>.nil|_=>.full
theorem A9E {P:Program}{t e:TypeId}(hu:P.underlying t=some (.slice e))(hs:szO P e=some k){m:SM}{xs:List (List AV)}{l u:Nat}(h1:l<=u)(h2:u<=xs.length):
  IA P h t (.sl m k xs) (some (.n (l:Int))) (some (.n (u:Int))) (some (.n (u:Int)))=some (.sl (tX m) k ((xs.drop l).take (u-l))):=by
 have b1:G8 (some (.n (u:Int))) (some xs.length)=some u:=by simp [G8]
 have b2:G8 (some (.n (l:Int))) (some 0)=some l:=by simp [G8]
 have b3:G8 (some (.n (u:Int))) none=some u:=by simp [G8]
 simp only[IA,hu,b1,b2,b3,hs,true_and];rw[if_pos ⟨h1,jF _,h2,rfl⟩];cases m<;>simp [tX]
def part (L:List Rng)(k:Nat):List Rng:=(L.drop (16*k)).take 16
def parts (L:List Rng):Nat:=(L.length+15)/16
theorem AII (G:Nat->AV)(L:List Rng)(m:SM)(hl:L.length<=1048576)(b2 b3:Nat)(I:Nat->Hp->Prop)(hI:∀k h,I k h->h[b2]?=some (yK 1 [[.sl m 2 (L.map encR)]])∧h[b3]?=some (yK 1 [[.n 16]])):
  Iter (En G) 292 [.ptr b2 0 0,.ptr b3 0 0] (parts L) (fun k=>[.sl (tX m) 2 ((part L k).map encR)]) I:=by
 intro l g0 hY h h0;refine JE (H:=Hint.none) (enM G) Tryz.func292 rfl (by kernel_rfl) (by kernel_rfl) (jB (by kernel_rfl)) ?_;show awp _ _ _ _ _ (MJ _ [] _);refine A8 @knP @knG ?_
 refine BJ (fun n F H=>∃k,n+k=parts L∧F 0=.fn (.yield l) [] []∧F 1=.ptr b2 0 0∧F 2=.ptr b3 0 0∧F 4=.n ((16*k:Nat):Int)∧I k H) (parts L)
  ⟨0,AZ,AL,AL,AL,AL,h0⟩ ?_
 rintro n F H ⟨k,hk,f0,f1,f2,f4,hIk⟩;obtain⟨g2,g3⟩:=hI k H hIk;have l2:BH jA H 84 (.ptr b2 0 0)=some (.sl m 2 (L.map encR)):=by rw[BA RQ g2 (row:=[.sl m 2 (L.map encR)]) rfl]; rfl
 have l3:BH jA H 3 (.ptr b3 0 0)=some (.n 16):=by rw[BA ag3 g3 (row:=[.n 16]) rfl]; rfl
 have hp:parts L=(L.length+15)/16:=rfl;refine JG @knP @knG f1 f4 l2 ?_;refine D8 ?_ ?_<;>intro hk'
 .have hkn:k<parts L:=U
  have hs1:IA jA H 84 (.sl m 2 (L.map encR)) (some (.n ((16*k:Nat):Int))) none none=some (.sl m 2 ((L.drop (16*k)).map encR)):=by
   rw[lC aO LZ KH,List.map_drop]
  have hw1:IntKind.i64.wrap (((16*k:Nat):Int)+((min 16 (L.length-16*k):Nat):Int))=((16*k+min 16 (L.length-16*k):Nat):Int):=by rw[wrap_i64 U U]; omega
  have hw2:IntKind.i64.wrap (((16*k:Nat):Int)+16)=((16*(k+1):Nat):Int):=by rw[wrap_i64 U U]; omega
  have hs2:IA jA H 84 (.sl m 2 (L.map encR)) (some (.n ((16*k:Nat):Int))) (some (.n ((16*k+min 16 (L.length-16*k):Nat):Int))) (some (.n ((16*k+min 16 (L.length-16*k):Nat):Int)))=some (.sl (tX m) 2 ((part L k).map encR)):=by
   rw[A9E aO LZ U KH,<-List.map_drop,<-List.map_take]
   have e:(L.drop (16*k)).take (16*k+min 16 (L.length-16*k)-16*k)=part L k:=by
    unfold part;rw[List.take_eq_take_iff,yB];omega
   rw[e]
  refine A8 @knP @knG ?_;refine DZ A7 ?_;simp only[vQ,Option.map_some,Option.map_none,LM,cI,LJ,CG,UD,AI9,xE,↓reduceIte,jC,jS,enP,xI,knP,knG,f1,f2,f4,l2,l3,hs1,jM,yB];have hm16:min (16:Int) ((L.length-16*k:Nat):Int)=((min 16 (L.length-16*k):Nat):Int):=U;simp only[vQ,CG,AZM,↓reduceIte,jC,knP,knG,hm16,f0,f1,f2,f4,l2,hw1,hs2];refine(hY k H hkn hIk).mono ?_;rintro v h' ⟨rfl,hI'⟩;obtain⟨g2',g3'⟩:=hI (k+1) h' hI';have l3':BH jA h' 3 (.ptr b3 0 0)=some (.n 16):=by rw[BA ag3 g3' (row:=[.n 16]) rfl]; rfl
  refine NY @knP @knG f2 f4 l3' hw2 ?_;exact⟨n-1,U,k+1,U,AC,AC,AC,AC,hI'⟩
 .have:k=parts L:=U
  subst this;refine DL @gF @knP @knG ?_;exact hIk
theorem AIH (G:Nat->AV)(s:AV)(hs:H9 s=some [s])(h:Hp):ACalls (En G) 244 [s,.n 16] h fun v h'=>v=.fn (.func 292) [] [.ptr h.length 0 0,.ptr (h.length+1) 0 0]∧h'=h++[yK 1 [[s]]]++[yK 1 [[.n 16]]]:=by
 refine acT Tryz.func244 4 ?_;have hb:MS h s=some (.ptr h.length 0 0,h++[yK 1 [[s]]]):=by simp [MS,hs]
 have l3:BH jA (h++[yK 1 [[s]]]++[yK 1 [[.n 16]]]) 3 (.ptr (h++[yK 1 [[s]]]).length 0 0)=some (.n 16):=by rw[BA ag3 (AQ _ _) (row:=[.n 16]) rfl]; rfl
 have d16:decide ((16:Int)<1)=false:=rfl;refine JG @ALV @AFO hb l3 d16 ?_;exact⟨AZ,AC⟩
def cEs (l:List Rng):List Ex:=l.flatMap fun r=>[cE r.lo,cE r.hi]
def insL (e:Ex)(l:List Rng):List Ex:=e::cEs l
theorem TP (a:Rng)(l:List Rng):cEs (a::l)=cE a.lo::cE a.hi::cEs l:=rfl
theorem ADI:∀l:List Rng,(AX7 l).map A6E=cEs l
 | []=>rfl
 | a::l=>by rw[AN2,TP,jK,jK,ADI l]; rfl
theorem UK (e:Ex)(l:List Rng):JA e l=.mk 23 0 ⟨#[]⟩ .any (insL e l):=by
 unfold JA A07 insL;rw[jK,ADI]; rfl
theorem AFC {l:List Rng}(hk:k<l.length):cEs (l.take (k+1))=cEs (l.take k)++[cE l[k].lo,cE l[k].hi]:=by
 unfold cEs;rw[List.take_succ_eq_append_getElem hk,List.flatMap_append]; rfl
theorem lM:∀l:List Rng,(cEs l).length=2*l.length
 | []=>rfl
 | a::l=>by rw[TP,zO,zO,lM l,zO]; omega
def nodes (e:Ex)(L:List Rng)(k:Nat):List Ex:=(List.range k).map fun i=>JA e (part L i)
theorem KR (e:Ex)(L:List Rng)(k:Nat):(nodes e L k).length=k:=by simp [nodes]
theorem nB (e:Ex)(L:List Rng)(k:Nat):nodes e L (k+1)=nodes e L k++[JA e (part L k)]:=by simp [nodes,List.range_succ]
theorem ANM (e:Ex)(L:List Rng)(k i:Nat)(h:i<(nodes e L k).length):(nodes e L k)[i]=JA e (part L i):=by simp [nodes]
def NH (e:Ex)(L:List Rng):Nat->Ex
 | 0=>JA e (part L 0)
 | k+1=>orE (NH e L k) (JA e (part L (k+1)))
def SC (e:Ex)(L:List Rng):Ex:=if L=[] then cE 0 else xN (cpE e) L
theorem parts_eq (L:List Rng):parts L=(L.length+15)/16:=rfl
theorem ACW (L:List Rng)(i:Nat):(L.drop (16*i)).take (min L.length (16*i+16)-16*i)=part L i:=by
 unfold part;rw[List.take_eq_take_iff,yB];omega
theorem tI (e:Ex)(L:List Rng):∀(n k:Nat),L.length<=16*(k+1)+n->k<parts L->ARS e L n (16*(k+1)) (NH e L k)=NH e L (parts L-1)
 | 0,k,h,hk=>by
   have hp:=parts_eq L;have:parts L-1=k:=U;rw[this]; rfl
 | n+1,k,h,hk=>by
   have hp:=parts_eq L;show(if 16*(k+1)<L.length then _ else _)=_;by_cases hc:16*(k+1)<L.length
   .rw[if_pos hc,ACW]
    exact tI e L n (k+1) U U
   .rw[if_neg hc]
    have:parts L-1=k:=U;rw[this]
theorem ADL (e:Ex)(L:List Rng)(h:L≠[]):xN e L=NH e L (parts L-1):=by
 have hl:0<L.length:=qZ.2 h;have hp:=parts_eq L;unfold xN;have:=tI e L L.length 0 U U
 have h0:JA e (L.take (min L.length 16))=NH e L 0:=by
  show _=JA e (part L 0);have:=ACW L 0;simp only[Nat.mul_zero,jH,Nat.sub_zero,zT] at this;rw[<-this]
 rw[h0]; exact this
theorem YA (e:Ex)(L:List Rng)(h:L≠[]):SC e L=NH (cpE e) L (parts L-1):=by
 unfold SC; rw[if_neg h,ADL _ _ h]
theorem A16 (F:Fr)(p:Nat)(ps:List Nat)(v:AV)(vs:List AV):vJ F (p::ps) (v::vs)=vJ (upd F p v) ps vs:=rfl
theorem A15 (F:Fr)(vs:List AV):vJ F [] vs=F:=by cases vs<;>rfl
theorem BAM (h:Hp):GU jA h 23=some (.ptr h.length 0 0,h++[yK 1 [[.sl .nil 0 []]]]):=FI (row:=[.sl .nil 0 []]) A7
abbrev ET:List AV:=[.n 0,.n 0,.str ⟨#[]⟩,.sl .nil 0 []]
structure Ic (h hb H:Hp) (e:Ex) (L:List Rng) (m:SM) (b4 b5 c2 c3 k:Nat) (v:AV):Prop where
 ge:H[h.length]?=some (yK 4 [AX e])
 g4:H[b4]?=some (yK 4 [ET])
 g5:H[b5]?=some (yK 1 [[v]])
 g2:H[c2]?=some (yK 1 [[.sl m 2 (L.map encR)]])
 g3:H[c3]?=some (yK 1 [[.n 16]])
 ho:outG 4 AX hb (nodes (cpE e) L k) v H
 hx:ext h H
 hy:hb.length<=H.length
structure In (hb H1 H:Hp) (e:Ex) (l:List Rng) (b7:Nat) (v:AV):Prop where
 g7:H[b7]?=some (yK 4 [[.n 23,.n 0,.str ⟨#[]⟩,v]])
 ho:outG 4 AX H1 (insL e l) v H
 hx:ext H1 H
 ne:∀b,isB v b->b≠b7
theorem AW5 {α:Type}{f:α->List AV}{ys:List α}(ho:outG k f h ys v H):outG k id h (ys.map f) v H:=by
 rcases ho with⟨rfl,rfl⟩|⟨hne,o,h2,rfl,h3⟩
 .exact .inl ⟨rfl,rfl⟩
 .exact .inr ⟨BG hne,o,h2,by rw[jM],by rw[List.map_id]; exact h3⟩
theorem A1M (h:Hp):C9 jA false h 23 1 [(0,.agg ET)]=some (.sl .full 4 [ET],h):=A7
theorem A71:XI (Value.agg #[.int .i64 0,.int .i64 0,.string ⟨#[]⟩,.slice none 0 0])=.agg ET:=rfl
theorem YP (l:List Ex):MW (l.map AX)=true:=by
 unfold MW;rw[List.all_eq_true];intro row hr;obtain⟨x,_,rfl⟩:=List.mem_map.1 hr;rw[FB]; rfl
theorem outG_ext {α:Type}{f:α->List AV}{H':Hp}{ys:List α}(ho:outG k f h ys v H)(hx:Sm.ext H H'):outG k f h ys v H':=by
 obtain⟨x,rfl⟩:=hx; exact ho.app x
theorem Ic.ext {hb H':Hp}{e:Ex}{L:List Rng}{m:SM}{b4 b5 c2 c3:Nat}(I:Ic h hb H e L m b4 b5 c2 c3 k v)(hx:Sm.ext H H'):Ic h hb H' e L m b4 b5 c2 c3 k v :=
 ⟨DV hx I.ge,DV hx I.g4,DV hx I.g5,DV hx I.g2,DV hx I.g3,outG_ext I.ho hx,I.hx.trans hx,Nat.le_trans I.hy hx.le⟩
theorem ADO (e:Ex)(l:List Rng):AX (JA e l)=[.n 23,.n 0,.str ⟨#[]⟩,.sl .any 4 ((insL e l).map AX)]:=by rw[UK,FB]; rfl
section
variable (G:Nat->AV)
theorem inside_prog (e:Ex)(xs:List Rng)(s:SM)(hl:xs.length<=1048576)(hw:wt e<=1048576)(h:Hp):PCall (En G) 168 [.agg (AX e),.sl s 2 (xs.map encR)] h (.agg (AX (SC e (normal xs)))):=by
 refine ACalls.pure (R:=fun v H=>Sm.ext h H∧EZ h.length H 3 v=.agg (AX (SC e (normal xs)))) 3 ?_ (fun v H ⟨a,b⟩=>⟨a,b⟩);refine JE (H:=hint [19,36,43] []) (enM G) Tryz.func168 rfl (by kernel_rfl) (by kernel_rfl) (jB (by kernel_rfl)) ?_;show awp _ _ _ _ _ (MJ _ [.cell 4 79] _);have ge:=AB (x:=yK 1 [[.sl .nil 0 []]]) (AB (x:=yK 4 [ET]) (AQ h (yK 4 [AX e])));have g4:=AB (x:=yK 1 [[.sl .nil 0 []]]) (AQ (h++[yK 4 [AX e]]) (yK 4 [ET]));have g5:=AQ (h++[yK 4 [AX e]]++[yK 4 [ET]]) (yK 1 [[.sl .nil 0 []]]);have hx:Sm.ext h (h++[yK 4 [AX e]]++[yK 4 [ET]]++[yK 1 [[.sl .nil 0 []]]]):=(((ext.rfl' h).app _).app _).app _;have o4:h.length<(h++[yK 4 [AX e]]).length:=AZ;have o5:(h++[yK 4 [AX e]]).length<(h++[yK 4 [AX e]]++[yK 4 [ET]]).length:=AZ;have hnl:=nA xs;refine DL @bxE RJ BAM ?_
 generalize h++[yK 4 [AX e]]++[yK 4 [ET]]++[yK 1 [[.sl .nil 0 []]]]=H0 at ge g4 g5 hx|-
 generalize (h++[yK 4 [AX e]]++[yK 4 [ET]]).length=b5 at g5 o5|-
 generalize (h++[yK 4 [AX e]]).length=b4 at g4 o4 o5|-
 have l5:=Z g5;refine(wT G xs s _ U).use ?_
 generalize normal xs=L at hnl|-
 have hL:L.length<=1048576:=U;generalize Bins.nm L=m;refine AA ?_;refine(AIH G _ rfl _).mono ?_;rintro v H ⟨rfl,rfl⟩
 have I0:Ic h (H0++[yK 1 [[.sl m 2 (L.map encR)]]]++[yK 1 [[.n 16]]]) (H0++[yK 1 [[.sl m 2 (L.map encR)]]]++[yK 1 [[.n 16]]]) e L m b4 b5 H0.length (H0.length+1) 0 (.sl .nil 0 []) :=
  ⟨AB (AB ge),AB (AB g4),AB (AB g5),AB (AQ _ _),AZ,outG.nil _ _ _ _,(hx.app _).app _,jF _⟩
 generalize H0++[yK 1 [[.sl m 2 (L.map encR)]]]++[yK 1 [[.n 16]]]=H1 at I0|-
 have k2:b5<H0.length:=l5;have k3:H0.length<H0.length+1:=Nat.lt_succ_self _
 generalize H0.length+1=c3 at I0 k3|-
 generalize H0.length=c2 at I0 k2 k3|-
 have l3:=Z I0.g3;clear ge g4 g5 hx l5;refine AA ?_;refine A39 A7 AL (parts L) (fun k=>[.sl (tX m) 2 ((part L k).map encR)]) (fun k H=>∃v,Ic h H1 H e L m b4 b5 c2 c3 k v) (AII G L m hL c2 c3 _ (fun k H ⟨v,I⟩=>⟨I.g2,I.g3⟩)) ⟨_,I0⟩ ?_ ?_
 .clear I0
  rintro k H hk ⟨v,I⟩;refine⟨rfl,?_⟩;have hy:=I.hy;have lb:=PI I.ge;have gc0:(H++[yK 4 [AX (cpE e)]]++[yK 4 [ET]])[(H++[yK 4 [AX (cpE e)]]).length]?=some (yK 4 [ET]):=AQ _ _;have sc0:=WZ (cs:=[.n 23,.n 0,.str ⟨#[]⟩,.own H.length 0 1]) gc0 rfl rfl rfl
  have N0:In H1 H ((H++[yK 4 [AX (cpE e)]]++[yK 4 [ET]]).set (H++[yK 4 [AX (cpE e)]]).length (yK 4 [[.n 23,.n 0,.str ⟨#[]⟩,.own H.length 0 1]])) (cpE e) ((part L k).take 0) (H++[yK 4 [AX (cpE e)]]).length (.own H.length 0 1) :=
   ⟨CP gc0,.inr ⟨by rw[qK]; exact List.cons_ne_nil _ _,H.length,jF _,by rw[qK]; rfl,by rw[qK]; exact CY (AB (AQ _ _)) AZ⟩,(((ext.rfl' H).app _).app _).set AZ _,fun b hb=>by cases hb; simp⟩
  refine DL @A16 @A15 lb ?_;refine(AE1 G (wt e) e H (jF _) hw).use ?_;refine EM @A7L @A1Q RJ sc0 ?_
  generalize ((H++[yK 4 [AX (cpE e)]]++[yK 4 [ET]]).set (H++[yK 4 [AX (cpE e)]]).length (yK 4 [[.n 23,.n 0,.str ⟨#[]⟩,.own H.length 0 1]]))=H2 at N0|-
  have hb7:H.length<(H++[yK 4 [AX (cpE e)]]).length:=AZ
  generalize (H++[yK 4 [AX (cpE e)]]).length=b7 at N0 hb7|-
  generalize AV.own H.length 0 1=u0 at N0;clear gc0 sc0 lb;refine ER 2 (fun F H'=>F 5=.ptr b5 0 0∧F 7=.ptr b7 0 0∧∃u,In H1 H H' (cpE e) (part L k) b7 u) (fun _ _=>False) ?_ ?_ (fun _ _ q=>q.elim)
  .refine BJ (fun n F H'=>∃j u,n+j=(part L k).length∧F 5=.ptr b5 0 0∧F 7=.ptr b7 0 0∧F 21=.sl (tX m) 2 ((part L k).map encR)∧F 22=.n ((part L k).length:Nat)∧F 23=.n (j:Nat)∧In H1 H H' (cpE e) ((part L k).take j) b7 u) (part L k).length
    ⟨0,u0,AZ,AL,AL,AL,AL,AL,N0⟩ ?_
   clear N0;rintro n F H' ⟨j,u,hj,f5,f7,f21,f22,f23,N⟩;refine A8 f22 f23 ?_;refine D8 ?_ ?_<;>intro hj'
   .have hpl:(part L k).length<=16:=by unfold part; rw[jZ]; omega
    have N1:In H1 H (H'++[yK 2 [encR (part L k)[j]]]) (cpE e) ((part L k).take j) b7 u:=⟨AB N.g7,N.ho.app _,N.hx.app _,N.ne⟩;simp only[vQ,zA,jX,zB,qB,CG,↓reduceIte,jC,enP,dL,jQ,f21,f23,CX hj',DC eI LZ YI hj',API,AMK _ _ [.n 0,.n 0] rfl];have q0:BH jA (H'++[yK 2 [encR (part L k)[j]]]) 3 (.ptr H'.length 0 0)=some (.n (part L k)[j].lo):=by rw[D5 ag3,aE]
    have q1:BH jA (H'++[yK 2 [encR (part L k)[j]]]) 3 (.ptr H'.length 0 1)=some (.n (part L k)[j].hi):=by rw[D5 ag3,YJ]
    generalize H'++[yK 2 [encR (part L k)[j]]]=H3 at N1 q0 q1|-
    have hlen:(insL (cpE e) ((part L k).take j)).length+2<=8388608:=by
     unfold insL;rw[zO,lM,jZ]; omega
    obtain⟨v',H4,ha,ho2,hkeep,he2,hl2,hv2⟩:=Y4 .full N1.ho V7 JB eQ eE U (ys:=[cE (part L k)[j].lo,cE (part L k)[j].hi]) hlen N1.hx;have ha':EP jA true H3 23 23 u (.sl .full 4 [AX (cE (part L k)[j].lo),AX (cE (part L k)[j].hi)])=some (v',H4):=ha
    have hits:insL (cpE e) ((part L k).take j)++[cE (part L k)[j].lo,cE (part L k)[j].hi]=insL (cpE e) ((part L k).take (j+1)):=by
     unfold insL;rw[AFC hj']; rfl
    rw[hits] at ho2;have g72:=hkeep _ _ N1.g7 (fun q=>N1.ne _ q rfl);have l7:BH jA H3 23 (.ptr b7 0 3)=some u:=by rw[BA LH N1.g7 (row:=[.n 23,.n 0,.str ⟨#[]⟩,u]) rfl]; rfl
    have lb7:=Z N1.g7
    have hst:DT jA H4 23 (.ptr b7 0 3) v'=some (H4.set b7 (yK 4 [[.n 23,.n 0,.str ⟨#[]⟩,v']])):=by
     rcases ho2 with⟨e1,_⟩|⟨_,o,_,rfl,_⟩
     .exact absurd e1 (List.cons_ne_nil _ _)
     .rw[IU (cs:=[.own o 0 _]) rfl (A7:szO jA 23=some 1) g72 AZ]; rfl
    have hv2':∀b,isB v' b->b≠b7:=fun b hb=>by
     rcases hv2 b hb with q|q
     .exact N1.ne b q
     .omega
    have N2:In H1 H (H4.set b7 (yK 4 [[.n 23,.n 0,.str ⟨#[]⟩,v']])) (cpE e) ((part L k).take (j+1)) b7 v' :=
     ⟨CP g72,ho2.keep (fun b hb=>by rw[List.getElem?_set_ne (fun q=>hv2' b hb q.symm)]),he2.set U _,hv2'⟩
    refine DZ A7 ?_;refine EM f7 l7 q0 q1 ?_;refine⟨_,X5 G _ _,_,X5 G _ _,?_⟩
    try refine YS f5 f7 f21 f22 f23 @gR ha' hst (CZ j) ?_
    exact⟨n-1,U,j+1,v',U,AC,AC,AC,AC,AC,N2⟩
   .rw[jJ U] at N
    refine AA ?_;exact⟨AC,AC,u,N⟩
  .rintro F H' ⟨f5,f7,u,N⟩
   have I2:=I.ext N.hx;have hpl:(part L k).length<=16:=by unfold part; rw[jZ]; omega
   obtain⟨o,n0,hu,ho1,ho2⟩:∃o n0,u=.own o 0 n0∧H.length<=o∧(n0=(insL (cpE e) (part L k)).length∧H'[o]?=some (yK 4 ((insL (cpE e) (part L k)).map AX))):=by
    rcases N.ho with⟨e1,_⟩|⟨_,o,h1,h2,h3⟩
    .exact absurd e1 (List.cons_ne_nil _ _)
    .exact⟨o,_,h2,h1,rfl,h3⟩
   subst hu;obtain⟨rfl,ho2⟩:=ho2;have hk1:(nodes (cpE e) L k).length<8388608:=by rw[KR]; unfold parts at hk; omega
   obtain⟨v',H3,ha,ho3,hkeep,hl3,hv3,⟨ob,n1,hv'⟩,hext⟩:=(AW5 I2.ho).app2 V7 JB eQ eE U (by rw[jM]; exact hk1) I2.hy ET;subst hv';have hob:ob=H'.length:=hv3 ob rfl
   obtain⟨hn1,hb3⟩:n1=k+1∧H3[ob]?=some (yK 4 ((nodes (cpE e) L k).map AX++[ET])):=by
    rcases ho3 with⟨e1,_⟩|⟨_,o',_,h2,h3⟩
    .simp at e1
    .cases h2
     refine⟨by simp [KR],?_⟩;rw[List.map_id] at h3; exact h3
   subst hn1;have hlo:∀b,isB v b->H1.length<=b∧b<H.length:=fun b hb=>I.ho.lt hb
   have nb:∀b x,H'[b]?=some x->b<H1.length∨H.length<=b->H3[b]?=some x:=fun b x hx hb=>hkeep b x hx fun q=>by have:=hlo b q; omega
   have l5:b5<H1.length:=U;have lo':=Z ho2;have l7':=Z N.g7;have hle:=N.hx.le
   have hset:∀a b:List AV,((nodes (cpE e) L k).map AX++[a]).set k b=(nodes (cpE e) L k).map AX++[b]:=fun a b=>by
    rw[List.set_append_right _ _ (by simp [KR])]; simp [KR]
   have hget:∀a:List AV,((nodes (cpE e) L k).map AX++[a])[k]?=some a:=fun a=>by
    rw[List.getElem?_append_right (by simp [KR])]; simp [KR]
   have d5:BH jA H' 23 (.ptr b5 0 0)=some v:=by rw[BA LH I2.g5 (row:=[v]) rfl]; rfl
   have d7:BH jA H' 79 (.ptr b7 0 0)=some (.agg [.n 23,.n 0,.str ⟨#[]⟩,.own o 0 (insL (cpE e) (part L k)).length]):=KY N.g7 rfl;have dl:JR jA 23 v=some (.n (k:Nat)):=by rw[I2.ho.len AR1,KR]
   have ha':EP jA true H' 23 23 v (.sl .full 4 [ET])=some (.own ob 0 (k+1),H3):=ha;have di:IG 4 H3 (.own ob 0 (k+1)) (.n (k:Nat))=some (.ptr ob k 0):=by rw[GM hb3 (Nat.lt_succ_self k),jH]
   have s1:DT jA H3 79 (.ptr ob k 0) (.agg [.n 23,.n 0,.str ⟨#[]⟩,.own o 0 (insL (cpE e) (part L k)).length])=some (H3.set ob (yK 4 ((nodes (cpE e) L k).map AX++[[.n 23,.n 0,.str ⟨#[]⟩,.own o 0 (insL (cpE e) (part L k)).length]]))):=by
    rw[G5 (O7 rfl) JB hb3 (hget ET) (jF 4),hset]; rfl
   have g53:=nb _ _ I2.g5 (.inl l5)
   have s2:DT jA (H3.set ob (yK 4 ((nodes (cpE e) L k).map AX++[[.n 23,.n 0,.str ⟨#[]⟩,.own o 0 (insL (cpE e) (part L k)).length]]))) 23 (.ptr b5 0 0) (.own ob 0 (k+1)) =
     some ((H3.set ob (yK 4 ((nodes (cpE e) L k).map AX++[[.n 23,.n 0,.str ⟨#[]⟩,.own o 0 (insL (cpE e) (part L k)).length]]))).set b5 (yK 1 [[.own ob 0 (k+1)]])):=by
    rw[IU (cs:=[.own ob 0 (k+1)]) rfl (A7:szO jA 23=some 1) (CY g53 U) AZ]; rfl
   have hob1:H1.length<=ob:=by have:=I2.hy; omega
   have hoo:o≠ob:=U;have ob5:ob≠b5:=U;have o5':o≠b5:=U;have lob:=Z hb3
   have t2:DT jA H3 23 (.ptr b5 0 0) (.own ob 0 (k+1))=some (H3.set b5 (yK 1 [[.own ob 0 (k+1)]])):=by
    rw[IU (cs:=[.own ob 0 (k+1)]) rfl (A7:szO jA 23=some 1) g53 AZ]; rfl
   have t1:DT jA (H3.set b5 (yK 1 [[.own ob 0 (k+1)]])) 79 (.ptr ob k 0) (.agg [.int .i64 23,.int .i64 0,.str ⟨#[]⟩,.own o 0 (insL (cpE e) (part L k)).length])=some ((H3.set ob (yK 4 ((nodes (cpE e) L k).map AX++[[.int .i64 23,.int .i64 0,.str ⟨#[]⟩,.own o 0 (insL (cpE e) (part L k)).length]]))).set b5 (yK 1 [[.own ob 0 (k+1)]])):=by
    rw[G5 (O7 rfl) JB (CY hb3 ob5) (hget ET) (jF 4),hset,List.set_comm _ _ ob5]; rfl
   refine AA ?_;refine AFN [] [0,1,2,3,4,5] 6 7 [] A7 trivial ?_;simp only[NR,List.getElem?_cons_succ,List.getElem?_cons_zero];simp only[vQ,JM,zA,jX,zB,qB,Bool.or_true,QR,KW,RX,LJ,ARV,F7,J6,↓reduceIte,jC,jS,enP,PQ,jQ,f5,f7,d5,d7,dl,A71,A1M,ha',di,s1,s2,t1,t2];rw[and_self_iff];clear t1 t2 s1 s2;generalize hrN : [AV.int .i64 23,.n 0,.str ⟨#[]⟩,.own o 0 (insL (cpE e) (part L k)).length]=rowN at *;have hb4:(H3.set ob (yK 4 ((nodes (cpE e) L k).map AX++[rowN])))[ob]?=some (yK 4 ((nodes (cpE e) L k).map AX++[rowN])):=CP hb3;have hbo:((H3.set ob (yK 4 ((nodes (cpE e) L k).map AX++[rowN]))).set b5 (yK 1 [[.own ob 0 (k+1)]]))[ob]?=some (yK 4 ((nodes (cpE e) L k).map AX++[rowN])):=CY hb4 ob5;have ho5:((H3.set ob (yK 4 ((nodes (cpE e) L k).map AX++[rowN]))).set b5 (yK 1 [[.own ob 0 (k+1)]]))[o]?=some (yK 4 ((insL (cpE e) (part L k)).map AX)):=CY (CY (nb _ _ ho2 (.inr ho1)) hoo) o5';have gst:=GSt.frz (E:=En G) hbo (hget rowN) (j:=3) (by rw[<-hrN]; rfl) ho5 hoo AZ (by rw[zT,jJ AZ]; exact YP _)
   have hr6:((nodes (cpE e) L k).map AX++[rowN]).set k (rowN.set 3 (.sl .any 4 ((((insL (cpE e) (part L k)).map AX).drop 0).take (insL (cpE e) (part L k)).length)))=(nodes (cpE e) L (k+1)).map AX:=by
    rw[hset,nB,List.map_append,jK,jL,ADO,<-hrN,zT,jJ AZ]; rfl
   rw[hr6] at gst;refine⟨_,gst,.own ob 0 (k+1),?_⟩
   have keep:∀b x,b<H1.length->b≠b5->H'[b]?=some x->(((((H3.set ob (yK 4 ((nodes (cpE e) L k).map AX++[rowN]))).set b5 (yK 1 [[.own ob 0 (k+1)]])).set o .dead).set ob (yK 4 ((nodes (cpE e) L (k+1)).map AX)))[b]?=some x):=fun b x h1 h2 h3 =>
    CY (CY (CY (CY (nb b x h3 (.inl h1)) U) h2) U) U
   have hex:=hext h U I2.hx;refine⟨keep _ _ U U I2.ge,keep _ _ U U I2.g4,CY (CY (CP (CY g53 U)) U) U,keep _ _ U U I2.g2,keep _ _ U U I2.g3,.inr ⟨by rw[nB]; simp,ob,hob1,by rw[KR],CP (CY hbo hoo.symm)⟩,(((hex.set U _).set U _).set U _).set U _,by simp; omega⟩
 .rintro H ⟨v,I⟩
  have hn:=I.ho.len AR1;rw[KR] at hn;have d5:BH jA H 23 (.ptr b5 0 0)=some v:=by rw[BA LH I.g5 (row:=[v]) rfl]; rfl
  have hpe:=parts_eq L;rcases Classical.em (L=[]) with hL0|hL0
  .have hz:(((parts L:Nat):Int)==0)=true:=by rw[hL0]; rfl
   refine DL d5 hn hz ?_;refine(X5 G 0 H).use ?_;simp only[vQ,zA,jX,zB,qB,LC,CG,↓reduceIte,jC,enP,jQ,QW I.g4 rfl];rw[JH (b:=b4) AL (PI (CP I.g4))];refine⟨I.hx.set U _,?_⟩;rw[show SC e L=cE 0 by unfold SC; rw[if_pos hL0],FB];rfl
  have hlp:0<L.length:=qZ.2 hL0;have hp0:0<parts L:=U;have hz:(((parts L:Nat):Int)==0)=false:=by simp; omega
  obtain⟨ob,rfl,hob1,hob⟩:∃ob,v=.own ob 0 (parts L)∧H1.length<=ob∧H[ob]?=some (yK 4 ((nodes (cpE e) L (parts L)).map AX)):=by
   rcases I.ho with⟨e1,_⟩|⟨_,o,h1,h2,h3⟩
   .have:=congrArg List.length e1
    rw[KR,List.length_nil] at this; omega
   .exact⟨o,by rw[h2,KR],h1,h3⟩
  have hrow:∀i,i<parts L->((nodes (cpE e) L (parts L)).map AX)[i]?=some (AX (JA (cpE e) (part L i))):=fun i hi=>by
   have hi':i<(nodes (cpE e) L (parts L)).length:=by rw[KR]; exact hi
   rw[List.getElem?_map,List.getElem?_eq_getElem hi',ANM]; rfl
  have hld:∀(H':Hp) i,H'[ob]?=some (yK 4 ((nodes (cpE e) L (parts L)).map AX))->i<parts L->BH jA H' 79 (.ptr ob i 0)=some (.agg (AX (JA (cpE e) (part L i)))):=fun H' i h' hi=>by
   rw[EF O1 JB h' (hrow i hi) (by rw[EC]; exact jF 4),zT,<-EC (JA (cpE e) (part L i)),List.take_length]
  have i0:IG 4 H (.own ob 0 (parts L)) (.n 0)=some (.ptr ob 0 0):=GM (n:=0) hob hp0;have hcut:∀H':Hp,H'[ob]?=some (yK 4 ((nodes (cpE e) L (parts L)).map AX))->IA jA H' 23 (.own ob 0 (parts L)) (some (.n 1)) none none=some (.own ob 1 (parts L-1)):=fun H' h'=>AC0 (l:=1) V7 JB h' hp0
  have hobH:=Z hob;have s10:=rD H (JA (cpE e) (part L 0)) ET rfl;have g10:(H++[yK 4 [AX (JA (cpE e) (part L 0))]])[H.length]?=some (yK 4 [AX (NH (cpE e) L 0)]):=AQ H _;refine NW d5 hn hz i0 (hld H 0 hob hp0) RJ s10 ?_;have I3:=I.ext (Sm.ext.app (Sm.ext.rfl' H) [yK 4 [AX (JA (cpE e) (part L 0))]]);have hob3:=AB (x:=yK 4 [AX (JA (cpE e) (part L 0))]) hob;have d53:BH jA (H++[yK 4 [AX (JA (cpE e) (part L 0))]]) 23 (.ptr b5 0 0)=some (.own ob 0 (parts L)):=by rw[BA LH I3.g5 (row:=[.own ob 0 (parts L)]) rfl]; rfl
  refine A8 d53 (hcut _ hob3) ?_;have l3:H.length=H.length:=rfl
  generalize hb10:H.length=b10 at g10|-
  have hx3:=I3.hx;have g43:=I3.g4
  generalize H++[yK 4 [AX (JA (cpE e) (part L 0))]]=H3 at g10 hob3 hx3 g43|-
  have hle1:=I.hy;clear I3 I d5 d53 hn i0 s10
  refine BJ (fun n F H'=>∃k,n+k=parts L-1∧F 4=.ptr b4 0 0∧F 10=.ptr b10 0 0∧F 53=.own ob 1 (parts L-1)∧F 54=.n ((parts L-1:Nat):Int)∧F 55=.n (k:Nat)∧H'[b10]?=some (yK 4 [AX (NH (cpE e) L k)])∧H'[ob]?=some (yK 4 ((nodes (cpE e) L (parts L)).map AX))∧H'[b4]?=some (yK 4 [ET])∧Sm.ext h H') (parts L-1)
   ⟨0,AZ,AL,AL,AL,AL,AL,g10,hob3,g43,hx3⟩ ?_
  clear g10 hob3 g43 hx3;rintro n F H' ⟨k,hk,f4,f10,f53,f54,f55,g10,gob,g4,hx⟩;refine A8 f54 f55 ?_;refine BM ?_ ?_<;>intro hc
  .have hk':k<parts L-1:=BG hc
   have ik:IG 4 H' (.own ob 1 (parts L-1)) (.n (k:Nat))=some (.ptr ob (k+1) 0):=by rw[GM gob hk',Nat.add_comm]
   have s12:=rD H' (JA (cpE e) (part L (k+1))) ET rfl;have q10:=AB (x:=yK 4 [AX (JA (cpE e) (part L (k+1)))]) g10;have q12:=PI (AQ H' (yK 4 [AX (JA (cpE e) (part L (k+1)))]));have lb10:=Z g10
   have s10:DT jA (H'++[yK 4 [AX (JA (cpE e) (part L (k+1)))]]) 79 (.ptr b10 0 0) (.agg [.n 20,.n 0,.str ⟨#[]⟩,.sl .full 4 [AX (NH (cpE e) L k),AX (JA (cpE e) (part L (k+1)))]])=some ((H'++[yK 4 [AX (JA (cpE e) (part L (k+1)))]]).set b10 (yK 4 [AX (NH (cpE e) L (k+1))])):=by
    have:=QW (e:=NH (cpE e) L (k+1)) q10 (EC _);change DT _ _ _ _ (.agg (AX (orE (NH (cpE e) L k) (JA (cpE e) (part L (k+1))))))=some (List.set _ _ (yK 4 [AX (orE (NH (cpE e) L k) (JA (cpE e) (part L (k+1))))])) at this;show _=some (List.set _ _ (yK 4 [AX (orE (NH (cpE e) L k) (JA (cpE e) (part L (k+1))))]))
    rw[AKA] at this|-
    exact this
   simp only[vQ,JM,zA,jX,zB,qB,PD,CG,NZ,F7,↓reduceIte,jC,enP,PQ,jQ,f10,f53,f55,ik,hld H' (k+1) gob U,RJ,s12,PI q10,q12,gR,A1P,s10,CZ k];exact⟨n-1,U,k+1,U,AC,AC,AC,AC,AC,CP q10,CY (AB gob) U,CY (AB g4) U,(hx.app _).set U _⟩
  .have hk':k=parts L-1:=by have:¬k<parts L-1:=BG hc
                            omega
   subst hk';simp only[vQ,zA,jX,zB,qB,TT,eT,YN,sU,CG,↓reduceIte,jC,enP,jQ,f4,f10,PI g10,QW g4 rfl];rw[JH (b:=b4) (EE f4) (PI (CP g4))];refine⟨hx.set U _,?_⟩;rw[YA e L hL0,FB];rfl
end
end Go.Proofs.YtiihpnicbekebaaGreatDoor.Ho
namespace Go.Proofs.YtiihpnicbekebaaGreatDoor.Bd.Cl
open Sm Bins Cov Xe Wd Bl Ho Go.RowKit
variable {ws:List Wg} {k:Nat}
def JF (n:ByteArray):Ex:=.mk 2 0 n .nil []
def OO (n:ByteArray):List AV:=[.n 2,.n 0,.str n,.sl .nil 0 []]
theorem ABC (n:ByteArray):CvRow (OO n) (AX (JF n)):=by
 rw[FB];exact CvRow.cons rfl (Cv.refl _) (CvRow.cons rfl (Cv.refl _) (CvRow.cons rfl (Cv.refl _) (CvRow.cons rfl (Cv.nil 0 4) CvRow.nil)))
abbrev Iv:=Sum ByteArray Ex
def tN:Iv->List AV
 | .inl n=>OO n
 | .inr e=>AX e
def AX6:Iv->Ex
 | .inl n=>JF n
 | .inr e=>e
theorem ASI:∀x:Iv,CvRow (tN x) (AX (AX6 x))
 | .inl n=>ABC n
 | .inr e=>CvRow.refl fun v hv=>by
   have:=VN e;rw[List.all_eq_true] at this;exact this v hv
theorem A6L:Frz tN:=fun n h d x=>by
 cases x with
 | inl k=>exact⟨rfl,rfl⟩
 | inr e=>exact Ho.frzEx n h d e
def ivL (n:ByteArray)(l:List Rng):List Iv:=.inl n::(cEs l).map .inr
theorem A25 (n:ByteArray)(l:List Rng):(ivL n l).map AX6=insL (JF n) l:=by
 unfold ivL insL;rw[List.map_cons,qW];show JF n::(cEs l).map (AX6 ∘ .inr)=_;rw[show(AX6 ∘ Sum.inr:Ex->Ex)=id from rfl,List.map_id]
def ivW (n:ByteArray)(l:List Rng):List AV:=[.n 23,.n 0,.str ⟨#[]⟩,.sl .any 4 ((ivL n l).map tN)]
theorem A24 (n:ByteArray)(l:List Rng):CvR (.agg (ivW n l)) (.agg (AX (JA (JF n) l))):=by
 rw[ADO,<-A25,qW];exact CvR.agg (CvRL.cons (CvR.refl _) (CvRL.cons (CvR.refl _) (CvRL.cons (CvR.refl _) (CvRL.cons (CvR.sl (Cv.map fun x _=>ASI x)) CvRL.nil))))
theorem AZU (n:ByteArray):IY jA 79 [(0,.n 2),(2,.str n)]=some (.agg (OO n)):=A7
theorem BAB (h:Hp)(n:ByteArray):C9 jA true h 23 1 [(0,.agg (OO n))]=some (.own h.length 0 1,h++[yK 4 [OO n]]):=A7
section
variable (G:Nat->AV)
theorem X4 (n:Int)(h:Hp):PCall (En G) 257 [.n n] h (.agg (AX (cE n))):=by
 refine PCall.res ?_ (oZ n);refine XY 3 (fun n H=>rfl) ?_;refine acL Tryz.func257 [.cell 2 79] ?_;have g2:=AQ h (yK 4 [ET]);have s2:=WZ (cs:=pA 1 n) g2 rfl rfl rfl;refine A8 RJ @ALW ?_;rw[show([AV.int .i64 0,.n 0,.str ⟨#[]⟩,.sl .nil 0 []]:List AV)=ET from rfl];refine AY s2 ?_;rw[JH (b:=h.length) AL (KY (CP g2) rfl)];exact⟨rfl,((ext.rfl' h).app _).set (jF _) _⟩
theorem iQ (nm:ByteArray)(l:List Rng)(s:SM)(hl:l.length<=1048576)(h:Hp):PCall (En G) 258 [.str nm,.sl s 2 (l.map encR)] h (.agg (AX (JA (JF nm) l))):=by
 refine PCall.res (r:=.agg (ivW nm l)) ?_ (A24 nm l);refine ACalls.pure (R:=fun v H=>Sm.ext h H∧EZ h.length H 4 v=.agg (ivW nm l)) 4 ?_ (fun v H ⟨a,b⟩=>⟨a,b⟩);refine JE (H:=hint [10,25] []) (enM G) Tryz.func258 rfl (by kernel_rfl) (by kernel_rfl) (jB (by kernel_rfl)) ?_;show awp _ _ _ _ _ (MJ _ [.cell 4 79] _);have g4:=AB (x:=yK 4 [OO nm]) (AQ h (yK 4 [ET]));have g5:=AQ (h++[yK 4 [ET]]) (yK 4 [OO nm]);have hx:Sm.ext h (h++[yK 4 [ET]]++[yK 4 [OO nm]]):=((ext.rfl' h).app _).app _
 have ho:outG 4 tN (h++[yK 4 [ET]]) (ivL nm (l.take 0)) (.own (h++[yK 4 [ET]]).length 0 1) (h++[yK 4 [ET]]++[yK 4 [OO nm]]) :=
  .inr ⟨List.cons_ne_nil _ _,_,jF _,by rw[qK]; rfl,by rw[qK]; exact g5⟩
 have hlh:h.length<(h++[yK 4 [ET]]).length:=AZ;have hxx:Sm.ext (h++[yK 4 [ET]]) (h++[yK 4 [ET]]++[yK 4 [OO nm]]):=(ext.rfl' _).app _;refine A8 RJ @AZU ?_;rw[show([AV.int .i64 0,.n 0,.str ⟨#[]⟩,.sl .nil 0 []]:List AV)=ET from rfl];refine AY @BAB ?_
 generalize h++[yK 4 [ET]]++[yK 4 [OO nm]]=H1 at g4 hx ho hxx|-
 generalize AV.own (h++[yK 4 [ET]]).length 0 1=u0 at ho
 generalize h++[yK 4 [ET]]=H0 at ho hlh hxx|-
 clear g5;refine ER 0 (fun F H=>∃u,F 4=.ptr h.length 0 0∧F 5=u∧H[h.length]?=some (yK 4 [ET])∧Sm.ext h H∧outG 4 tN H0 (ivL nm l) u H) (fun _ _=>False) ?_ ?_ (fun _ _ q=>q.elim)
 .refine BJ (fun n F H=>∃i u,n+i=l.length∧F 4=.ptr h.length 0 0∧F 5=u∧F 11=.sl s 2 (l.map encR)∧F 12=.n (l.length:Nat)∧F 13=.n (i:Nat)∧H[h.length]?=some (yK 4 [ET])∧Sm.ext h H∧Sm.ext H0 H∧outG 4 tN H0 (ivL nm (l.take i)) u H) l.length
   ⟨0,u0,AZ,AL,AL,AL,AL,AL,g4,hx,hxx,ho⟩ ?_
  clear g4 hx hxx ho;rintro n F H ⟨i,u,hi,f4,f5,f11,f12,f13,g4,hx,hxx,ho⟩;refine A8 f12 f13 ?_;refine D8 ?_ ?_<;>intro hi'
  .simp only[vQ,List.contains_cons,List.contains_nil,Nat.reduceBEq,Bool.or_false,CG,↓reduceIte,Nat.reduceEqDiff,Option.getD_some,Bool.not_false,enP,dL,Option.getD_none,f11,f13,CX hi',DC eI LZ YI hi',API,AMK _ _ [.n 0,.n 0] rfl]
   have q0:BH jA (H++[yK 2 [encR l[i]]]) 3 (.ptr H.length 0 0)=some (.n l[i].lo):=by rw[D5 ag3,aE]
   have q1:BH jA (H++[yK 2 [encR l[i]]]) 3 (.ptr H.length 0 1)=some (.n l[i].hi):=by rw[D5 ag3,YJ]
   have g4:=AB (x:=yK 2 [encR l[i]]) g4;have hx:=hx.app [yK 2 [encR l[i]]];have hxx:=hxx.app [yK 2 [encR l[i]]];have ho:=ho.app [yK 2 [encR l[i]]]
   generalize H++[yK 2 [encR l[i]]]=H3 at g4 hx hxx ho q0 q1|-
   have hlen:(ivL nm (l.take i)).length+2<=8388608:=by
    unfold ivL;rw[zO,jM,lM,List.length_take]; omega
   obtain⟨v',H4,ha,ho2,hkeep,he2,hl2,hv2⟩:=Y4 .full ho V7 JB eQ eE U (ys:=[.inr (cE l[i].lo),.inr (cE l[i].hi)]) hlen hxx;have ha':EP jA true H3 23 23 u (.sl .full 4 [AX (cE l[i].lo),AX (cE l[i].hi)])=some (v',H4):=ha
   have hits:ivL nm (l.take i)++[.inr (cE l[i].lo),.inr (cE l[i].hi)]=ivL nm (l.take (i+1)):=by
    unfold ivL;rw[AFC hi',qR]; rfl
   rw[hits] at ho2;have nlo:∀b,isB u b->H0.length<=b:=fun b hb=>(ho.lt hb).1
   have g42:=hkeep _ _ g4 (fun q=>by have:=nlo _ q; omega);have hx4:Sm.ext h H4:=ATH (fun k y q=>hkeep _ _ (DV hx q) (fun q'=>by have:=nlo _ q'; have:=Z q; omega)) (by have:=hx.le; omega);refine DZ A7 ?_;refine A8 q0 q1 ?_;refine⟨_,X4 G _ _,_,X4 G _ _,?_⟩
   try refine NY f4 f5 @gR ha' f13 (CZ i) ?_
   exact⟨n-1,U,i+1,v',U,AC,AC,AC,AC,AC,g42,hx4,he2,ho2⟩
  .rw[List.take_of_length_le U] at ho
   refine AA ?_;exact⟨u,AC,AC,g4,hx,ho⟩
 .rintro F H ⟨u,f4,f5,g4,hx,ho⟩
  have hlf:=ho.leaf;have hlf4:([.n 23,.n 0,.str ⟨#[]⟩,u]:List AV).all AV.leaf=true:=by simp [hlf]; exact⟨rfl,rfl,rfl⟩
  have bd:IY jA 79 [(0,.n 23),(3,u)]=some (.agg [.n 23,.n 0,.str ⟨#[]⟩,u]):=by
   rcases ho with⟨e1,_⟩|⟨_,o,_,rfl,_⟩
   .exact absurd e1 (List.cons_ne_nil _ _)
   .exact A1Q _ _
  refine EM f4 f5 bd (WZ g4 rfl rfl hlf4) ?_;rw[JH (b:=h.length) (EE f4) (KY (CP g4) rfl)];refine⟨hx.set (jF _) _,?_⟩;have ho4:=ho.setB (b:=h.length) hlh (yK 4 [[.n 23,.n 0,.str ⟨#[]⟩,u]]);have hz:=PW A6L ho4 h.length 1 U;show AV.agg [.n 23,.n 0,.str ⟨#[]⟩,EZ h.length _ 3 u]=.agg (ivW nm l);rw[hz]; rfl
end
def ZO (n:Int)(w:Wg):Bool:=decide (w.lo<=n)&&decide (n<=w.hi)
def RP (n:Int):List Wg->Bool
 | []=>false
 | w::ws=>if ZO n w=true then decide (w.w>0) else RP n ws
theorem AJ5 {n:Int}:∀ {ws:List Wg} {k:Nat} (hk:k<ws.length),(∀(j:Nat) (hj:j<k),ZO n (ws[j]'U)=false)->ZO n ws[k]=true->RP n ws=decide (ws[k].w>0)
 | [],k,hk,_,_=>by simp at hk
 | w::ws,0,_,_,h=>by
   have h:ZO n w=true:=h;unfold RP; rw[if_pos h]; rfl
 | w::ws,k+1,hk,hb,h=>by
   have h0:=hb 0 U;simp only[List.getElem_cons_zero] at h0;unfold RP;rw[if_neg (by rw[h0]; decide)];exact AJ5 (BG hk) (fun j hj=>by have:=hb (j+1) U; simpa using this) (BG h)
theorem AJ4 {n:Int}:∀ {ws:List Wg},(∀w∈ws,ZO n w=false)->RP n ws=false
 | [],_=>rfl
 | w::ws,h=>by unfold RP; rw[if_neg (by rw[h w AZ]; decide)]; exact AJ4 fun x hx=>h x (by simp [hx])
def ZV (out:List Rng)(n:Int):List Rng:=match out.getLast? with
 | some r=>if r.hi=n-1 then out.dropLast++[⟨r.lo,n⟩] else out++[⟨n,n⟩]
 | none=>[⟨n,n⟩]
def RU (l:List Int):List Rng:=l.foldl ZV []
theorem mM (l:List Int)(n:Int):RU (l++[n])=ZV (RU l) n:=by unfold RU; rw[List.foldl_append]; rfl
def TZ (ws:List Wg):Nat->List Int
 | 0=>[]
 | k+1=>TZ ws k++(if RP (k:Int) ws=true then [(k:Int)] else [])
theorem mV (ws:List Wg):∀k,(TZ ws k).length<=k
 | 0=>jF 0
 | k+1=>by
   have:=mV ws k;simp only[TZ,jT];split<;>simp<;>omega
def runs (ws:List Wg)(k:Nat):List Rng:=RU (TZ ws k)
def AFJ (ws:List Wg)(k:Nat):Bool:=match k with
 | 0=>false
 | k+1=>RP (k:Int) ws
theorem YY (ws:List Wg)(k:Nat):runs ws (k+1)=if RP (k:Int) ws=true then ZV (runs ws k) k else runs ws k:=by
 unfold runs;simp only[TZ];split
 .rw[mM]
 .rw[List.append_nil]
theorem eV (ws:List Wg):∀k,(AFJ ws k=true->∃r,(runs ws k).getLast?=some r∧r.hi=(k:Int)-1)∧(AFJ ws k=false->∀r,(runs ws k).getLast?=some r->r.hi<(k:Int)-1)
 | 0=>⟨(fun h=>by cases h),fun _ r h=>by cases h⟩
 | k+1=>by
   obtain⟨i1,i2⟩:=eV ws k;rw[YY];constructor
   .intro h
    have h:RP (k:Int) ws=true:=h;rw[if_pos h];unfold ZV
    cases hg:(runs ws k).getLast? with
    | none=>exact⟨⟨k,k⟩,rfl,by show(k:Int)=_; omega⟩
    | some r =>
      simp only;split
      .exact⟨⟨r.lo,k⟩,AZ,by show(k:Int)=_; omega⟩
      .exact⟨⟨k,k⟩,AZ,by show(k:Int)=_; omega⟩
   .intro h r hr
    have h:RP (k:Int) ws=false:=h;rw[if_neg (by rw[h]; decide)] at hr
    cases hb:AFJ ws k with
    | true=>obtain⟨r',e1,e2⟩:=i1 hb; rw[e1] at hr; cases hr; omega
    | false=>have:=i2 hb r hr; omega
theorem AJZ (hp:RP (k:Int) ws=true)(hb:AFJ ws k=true):∃r,(runs ws k).getLast?=some r∧runs ws (k+1)=(runs ws k).dropLast++[⟨r.lo,k⟩]:=by
 obtain⟨r,e1,e2⟩:=(eV ws k).1 hb;refine⟨r,e1,?_⟩;rw[YY,if_pos hp];unfold ZV;rw[e1];simp only;rw[if_pos e2]
theorem AB1 (hp:RP (k:Int) ws=true)(hb:AFJ ws k=false):runs ws (k+1)=runs ws k++[⟨k,k⟩]:=by
 rw[YY,if_pos hp];unfold ZV
 cases hg:(runs ws k).getLast? with
 | none=>rw[List.getLast?_eq_none_iff.1 hg]; rfl
 | some r =>
   have:=(eV ws k).2 hb r hg;simp only;rw[if_neg U]
theorem AJX (hp:RP (k:Int) ws=false):runs ws (k+1)=runs ws k:=by rw[YY,if_neg (by rw[hp]; decide)]
theorem AJY (ws:List Wg):∀k,∀r∈runs ws k,0<=r.lo∧r.lo<=r.hi∧r.hi<(k:Int)
 | 0,r,h=>by cases h
 | k+1,r,h=>by
   have ih:=AJY ws k
   cases hp:RP (k:Int) ws with
   | false=>rw[AJX hp] at h; have:=ih r h; omega
   | true =>
     cases hb:AFJ ws k with
     | false =>
       rw[AB1 hp hb] at h;rcases zI.1 h with h|h
       .have:=ih r h; omega
       .rw[qP.1 h]; show 0<=(k:Int)∧(k:Int)<=(k:Int)∧(k:Int)<_; omega
     | true =>
       obtain⟨r0,e1,e2⟩:=AJZ hp hb;rw[e2] at h;rcases zI.1 h with h|h
       .have:=ih r (List.dropLast_subset _ h); omega
       .rw[qP.1 h]
        have:=ih r0 (List.mem_of_getLast? e1);show 0<=r0.lo∧r0.lo<=(k:Int)∧(k:Int)<_; omega
def AIP (ws:List Wg):List Int:=0::ws.flatMap fun w=>[w.lo,w.hi+1]
theorem AUO (ws:List Wg):(AIP ws).length=1+2*ws.length:=by
 unfold AIP
 have:∀l:List Wg,(l.flatMap fun w=>[w.lo,w.hi+1]).length=2*l.length:=fun l=>by
  induction l with
  | nil=>rfl
  | cons a l ih=>rw[List.flatMap_cons,jT,ih]; simp; omega
 rw[zO,this]; omega
theorem sZ {n m:Int}:∀ {ws:List Wg},(∀w∈ws,ZO n w=ZO m w)->RP n ws=RP m ws
 | [],_=>rfl
 | w::ws,h=>by
   unfold RP;rw[h w AZ,sZ fun x hx=>h x (by simp [hx])]
theorem AZT (hp:RP (k:Int) ws=true)(hb:AFJ ws k=false):(k:Int)∈AIP ws:=by
 cases k with
 | zero=>simp [AIP]
 | succ k =>
   have hb:RP (k:Int) ws=false:=hb;apply Classical.byContradiction;intro hn
   have:RP ((k+1:Nat):Int) ws=RP (k:Int) ws:=sZ fun w hw=>by
    unfold ZO;have h1:((k+1:Nat):Int)≠w.lo:=fun e=>hn (by unfold AIP; rw[zQ,List.mem_flatMap]; exact .inr ⟨w,hw,by rw[e]; simp⟩)
    have h2:((k+1:Nat):Int)≠w.hi+1:=fun e=>hn (by unfold AIP; rw[zQ,List.mem_flatMap]; exact .inr ⟨w,hw,by rw[e]; simp⟩)
    have e1:decide (w.lo<=((k+1:Nat):Int))=decide (w.lo<=(k:Int)):=by rw[decide_eq_decide]; omega
    have e2:decide (((k+1:Nat):Int)<=w.hi)=decide ((k:Int)<=w.hi):=by rw[decide_eq_decide]; omega
    rw[e1,e2]
   rw[this,hb] at hp; cases hp
theorem AC6 {α:Type} [DecidableEq α]:∀ {l m:List α},l.Nodup->(∀x∈l,x∈m)->l.length<=m.length
 | [],m,_,_=>Nat.zero_le _
 | a::l,m,h,hs=>by
   have ha:a∈m:=hs a AZ;rw[List.nodup_cons] at h;have ih:=AC6 (m:=m.erase a) h.2 fun x hx=>(List.mem_erase_of_ne (fun e=>h.1 (by rw[<-e]; exact hx))).2 (hs x (by simp [hx]))
   rw[List.length_erase_of_mem ha] at ih;have:=List.length_pos_of_mem ha;simp; omega
theorem mG (ws:List Wg):∀k,((runs ws k).map Rng.lo).Nodup∧∀x∈(runs ws k).map Rng.lo,x∈AIP ws∧x<(k:Int)
 | 0=>⟨List.nodup_nil,fun x h=>by cases h⟩
 | k+1=>by
   obtain⟨i1,i2⟩:=mG ws k
   cases hp:RP (k:Int) ws with
   | false=>rw[AJX hp]; exact⟨i1,fun x hx=>⟨(i2 x hx).1,by have:=(i2 x hx).2; omega⟩⟩
   | true =>
     cases hb:AFJ ws k with
     | false =>
       rw[AB1 hp hb,qR];refine⟨List.nodup_append.2 ⟨i1,AZ,fun a ha b hbm=>?_⟩,fun x hx=>?_⟩
       .have:=(i2 a ha).2
        have hb':b=(k:Int):=BG hbm;omega
       .rcases zI.1 hx with h|h
        .exact⟨(i2 x h).1,by have:=(i2 x h).2; omega⟩
        .have e:x=(k:Int):=BG h
         rw[e]; exact⟨AZT hp hb,U⟩
     | true =>
       obtain⟨r,e1,e2⟩:=AJZ hp hb
       have hm:(runs ws k).dropLast++[r]=runs ws k:=by
        obtain⟨hne,hl⟩:∃h:runs ws k≠[],(runs ws k).getLast h=r:=by
         cases hq:runs ws k with
         | nil=>rw[hq] at e1; cases e1
         | cons a l=>rw[hq] at e1; exact⟨AZ,by rw[List.getLast?_eq_some_getLast AZ] at e1; exact Option.some.inj e1⟩
        rw[<-hl]; exact List.dropLast_concat_getLast hne
       have e3:(runs ws (k+1)).map Rng.lo=(runs ws k).map Rng.lo:=by
        rw[e2]
        conv=>rhs; rw[<-hm]
        rw[qR,qR]; rfl
       rw[e3];exact⟨i1,fun x hx=>⟨(i2 x hx).1,by have:=(i2 x hx).2; omega⟩⟩
theorem AQS (ws:List Wg)(k:Nat):(runs ws k).length<=1+2*ws.length:=by
 have h:=AC6 (mG ws k).1 fun x hx=>((mG ws k).2 x hx).1
 rw[jM,AUO] at h; exact h
def rB (nm:ByteArray)(R:List Rng):Ex:=if R=[] then cE 0 else NH (JF nm) R (parts R-1)
def ABH (p:Pr)(d:Ds):Ex:=match p.vars[d.var.toNat]? with
 | some v=>rB v.name (runs d.ws (2^v.width.toNat))
 | none=>cE 0
def V8 (p:Pr):List Ex:=p.dists.map (ABH p)
end Go.Proofs.YtiihpnicbekebaaGreatDoor.Bd.Cl
namespace Go.Proofs.YtiihpnicbekebaaGreatDoor.Ho
open Sm Bins Cov Go.RowKit
def D7 (e:Ex)(l:List Rng):Ex:=SC e (normal l)
def notE (e:Ex):Ex:=.mk 4 0 ⟨#[]⟩ .full [e]
def FP (b:Bin):List Rs:=if b.ranges.l=[] then b.steps else [b.ranges]
def ARR (x:Option Ex)(c:List (List Ex)):List (List Ex):=match x with
 | none=>c
 | some y=>c.set (c.length-1) (c[c.length-1]?.getD []++[notE y])
def badO (ins:Ex->List Rng->Ex)(p:Pt):Option Ex:=if J9 p.bins=[] then none else some (ins p.ex (J9 p.bins))
def TN (ins:Ex->List Rng->Ex)(p:Pt)(b:Bin):List (List Ex):=ARR (badO ins p) ((FP b).map fun s=>[ins p.ex s.l])
def OV (cs:List (List (List Ex))):Nat:=cs.foldl (fun n c=>max n c.length) 0
def rowC (n t:Nat)(c:List (List Ex)):List Ex:=if n-c.length<=t then c[t-(n-c.length)]?.getD [] else []
def rowA (n:Nat)(cs:List (List (List Ex)))(t:Nat):List Ex:=cs.flatMap (rowC n t)
def JX (cs:List (List (List Ex))):List (List Ex):=(List.range (OV cs)).map (rowA (OV cs) cs)
theorem AKQ:∀(cs:List (List (List Ex))) (a:Nat),a<=cs.foldl (fun n c=>max n c.length) a∧∀c∈cs,c.length<=cs.foldl (fun n c=>max n c.length) a
 | [],a=>⟨Nat.le_refl _,fun c hc=>by cases hc⟩
 | x::cs,a=>by
   obtain⟨h1,h2⟩:=AKQ cs (max a x.length);rw[wC];refine⟨U,fun c hc=>?_⟩;rcases List.mem_cons.1 hc with rfl|hc
   .omega
   .exact h2 c hc
theorem X9 {cs:List (List (List Ex))}{c:List (List Ex)}(h:c∈cs):c.length<=OV cs:=(AKQ cs 0).2 c h
theorem WM:∀(cs:List (List (List Ex))) (a b:Nat),a<=b->(∀c∈cs,c.length<=b)->cs.foldl (fun n c=>max n c.length) a<=b
 | [],_,_,h,_=>h
 | x::cs,a,b,h,h2=>by
   rw[wC];exact WM cs _ b (by have:=h2 x AZ; omega) fun c hc=>h2 c (by simp [hc])
theorem ANR (cs:List (List (List Ex)))(k:Nat)(hk:k<cs.length):OV (cs.take (k+1))=max (OV (cs.take k)) cs[k].length:=by
 unfold OV;rw[List.take_succ_eq_append_getElem hk,List.foldl_append]; rfl
theorem AC9 (x:Option Ex)(c:List (List Ex)):(ARR x c).length=c.length:=by cases x<;>simp [ARR]
end Go.Proofs.YtiihpnicbekebaaGreatDoor.Ho
namespace Go.Proofs.YtiihpnicbekebaaGreatDoor.Bins
open Sm
variable {xs:List Rng}
def inI (r:Rng):Prop:=(-9223372036854775808<=r.lo∧r.lo<=9223372036854775807)∧-9223372036854775808<=r.hi∧r.hi<=9223372036854775807
structure Inv (ps out:List Rng):Prop where
 f:∀r∈out,full r=true∧inI r
 pw:out.Pairwise (fun a b=>a.lo<=b.lo)
 gap:∀(i:Nat) (a b:Rng),out[i]?=some a->out[i+1]?=some b->glue a b=false
 ins:∀v,inside out v=inside ps v
 low:∀r∈out,∃p∈ps,r.lo=p.lo
theorem LD (xs ys:List Rng)(v:Int):inside (xs++ys) v=(inside xs v||inside ys v):=by simp [inside]
theorem AHS {t r:Rng}(ht:full t=true∧inI t)(hr:full r=true∧inI r)(hlo:t.lo<=r.lo)(hg:glue t r=true)(v:Int):
  (decide (t.lo<=v)&&decide (v<=max t.hi r.hi))=((decide (t.lo<=v)&&decide (v<=t.hi))||(decide (r.lo<=v)&&decide (v<=r.hi))):=by
 obtain⟨h1,⟨h2,h3⟩,h4,h5⟩:=ht;obtain⟨k1,⟨k2,k3⟩,k4,k5⟩:=hr;simp only[full,decide_eq_true_eq] at h1 k1
 have hg':r.lo<=t.hi+1:=by
  simp only[glue,qN,decide_eq_true_eq] at hg;rcases hg with hg|hg
  .omega
  .rcases (U : -9223372036854775808<r.lo∨r.lo<=-9223372036854775808) with h|h
   .rw[wrap_i64 U U] at hg; omega
   .omega
 rw[qY];simp only[jO,qN,decide_eq_true_eq];omega
theorem Inv.step {ps out:List Rng}(h:Inv ps out){r:Rng}(hr:full r=true∧inI r)(hlo:∀p∈ps,p.lo<=r.lo):Inv (ps++[r]) (join out r):=by
 have hall:∀x∈out,x.lo<=r.lo:=fun x hx=>by obtain⟨p,hp,e⟩:=h.low x hx; have:=hlo p hp; omega
 have hone:∀v,inside [r] v=(decide (r.lo<=v)&&decide (v<=r.hi)):=fun v=>by simp [inside]
 have plain:(∀t,out.getLast?=some t->glue t r=false)->Inv (ps++[r]) (out++[r]):=by
  intro hng;refine⟨?_,?_,?_,?_,?_⟩
  .intro x hx
   rw[zI] at hx;rcases hx with hx|hx
   .exact h.f x hx
   .simp at hx; subst hx; exact hr
  .rw[List.pairwise_append]
   exact⟨h.pw,AZ,fun a ha b hb=>by simp at hb; subst hb; exact hall a ha⟩
  .intro i a b ha hb
   rcases jW (i+1) out.length with h1|h1
   .rw[zX U] at ha hb
    exact h.gap i a b ha hb
   .have h2:i+1=out.length:=by
     have:=Z hb;simp at this; omega
    rw[wM h1,h2] at hb;rw[zX U] at ha;simp at hb; subst hb;refine hng a ?_;rw[List.getLast?_eq_getElem?,<-ha];congr 1; omega
  .intro v; rw[LD,LD,h.ins]
  .intro x hx
   rw[zI] at hx;rcases hx with hx|hx
   .obtain⟨p,hp,e⟩:=h.low x hx; exact⟨p,by simp [hp],e⟩
   .simp at hx; subst hx; exact⟨x,AZ,rfl⟩
 unfold join
 cases hl:out.getLast? with
 | none=>exact plain (fun t ht=>by rw[hl] at ht; cases ht)
 | some t =>
   obtain⟨ini,rfl⟩:∃ini,out=ini++[t]:=by
    obtain⟨ini,hi⟩:=List.getLast?_eq_some_iff.1 hl;exact⟨ini,hi⟩
   cases hg:glue t r with
   | false=>simp only[hg,Bool.false_eq_true,if_false]; exact plain (fun t' ht'=>by rw[hl] at ht'; cases ht'; exact hg)
   | true =>
     simp only[hg,if_true,List.dropLast_concat];have ht:=h.f t AZ;have htl:=hall t AZ
     have hft:full ⟨t.lo,max t.hi r.hi⟩=true:=by
      have h1:=ht.1
      simp only[full,decide_eq_true_eq] at h1|-
      omega
     refine⟨?_,?_,?_,?_,?_⟩
     .intro x hx
      rw[zI] at hx;rcases hx with hx|hx
      .exact h.f x (by simp [hx])
      .simp at hx; subst hx
       refine⟨hft,?_⟩;obtain⟨_,⟨h2,h3⟩,h4,h5⟩:=ht;obtain⟨_,⟨k2,k3⟩,k4,k5⟩:=hr;exact⟨⟨h2,h3⟩,by show _<=max t.hi r.hi; omega,by show max t.hi r.hi<=_; omega⟩
     .have hp:=h.pw
      rw[List.pairwise_append] at hp|-
      exact⟨hp.1,AZ,fun a ha b hb=>by simp at hb; subst hb; exact hp.2.2 a ha t AZ⟩
     .intro i a b ha hb
      rcases jW (i+1) ini.length with h1|h1
      .rw[zX U] at ha hb
       exact h.gap i a b (by rw[zX U]; exact ha) (by rw[zX U]; exact hb)
      .have h2:i+1=ini.length:=by
        have:=Z hb;simp at this; omega
       rw[wM h1,h2] at hb;rw[zX U] at ha;simp at hb; subst hb;have:=h.gap i a t (by rw[zX U]; exact ha) (by rw[wM h1,h2]; simp)
       unfold glue at this|-
       exact this
     .intro v
      rw[LD,LD,<-h.ins,LD,hone,Bool.or_assoc];congr 1;have:=AHS ht hr htl hg v;simp only[inside,List.any_cons,List.any_nil,Bool.or_false];exact this
     .intro x hx
      rw[zI] at hx;rcases hx with hx|hx
      .obtain⟨p,hp,e⟩:=h.low x (by simp [hx]); exact⟨p,by simp [hp],e⟩
      .simp at hx; subst hx
       obtain⟨p,hp,e⟩:=h.low t AZ;exact⟨p,by simp [hp],e⟩
theorem Inv.fold:∀(xs ps out:List Rng),Inv ps out->(ps++xs).Pairwise (fun a b=>a.lo<=b.lo)->(∀r∈xs,full r=true∧inI r)->Inv (ps++xs) (xs.foldl join out)
 | [],ps,out,h,_,_=>BG h
 | x::xs,ps,out,h,hp,hf=>by
   have e:ps++x::xs=(ps++[x])++xs:=AZ
   rw[e] at hp|-
   have hp1:=(List.pairwise_append.1 hp).1;exact Inv.fold xs (ps++[x]) (join out x) (h.step (hf x AZ) fun p hp2=>(List.pairwise_append.1 hp1).2.2 p hp2 x AZ) hp (fun r hr=>hf r (by simp [hr]))
theorem AHA (hx:∀r∈xs,inI r):Inv ((xs.filter full).mergeSort gM) (normal xs):=by
 have hs:((xs.filter full).mergeSort gM).Pairwise (fun a b=>a.lo<=b.lo):=by
  have:=List.pairwise_mergeSort (le:=gM) (fun a b c h1 h2=>by simp [gM] at *; omega) (fun a b=>by simp [gM]; omega) (xs.filter full);exact this.imp fun {a b} h=>by simpa [gM] using h
 have:=Inv.fold ((xs.filter full).mergeSort gM) [] [] ⟨AZ,.nil,AZ,fun _=>rfl,AZ⟩ (BG hs) (fun r hr=>by
  rw[List.mem_mergeSort,List.mem_filter] at hr
  exact⟨hr.2,hx r hr.1⟩)
 unfold normal Y9;simpa using this
theorem ADJ {ys:List Rng}(h:xs.Perm ys)(v:Int):inside xs v=inside ys v:=by
 unfold inside;rw[qY,qL,qL];exact⟨fun⟨r,h1,h2⟩=>⟨r,h.mem_iff.1 h1,h2⟩,fun⟨r,h1,h2⟩=>⟨r,h.mem_iff.2 h1,h2⟩⟩
theorem ADK (xs:List Rng)(v:Int):inside (xs.filter full) v=inside xs v:=by
 unfold inside;rw[qY,qL,qL];constructor
 .rintro⟨r,h1,h2⟩; exact⟨r,(List.mem_filter.1 h1).1,h2⟩
 .rintro⟨r,h1,h2⟩
  refine⟨r,List.mem_filter.2 ⟨h1,?_⟩,h2⟩;simp only[jO,decide_eq_true_eq] at h2;simp only[full,decide_eq_true_eq];omega
theorem rJ (hx:∀r∈xs,inI r)(v:Int):inside (normal xs) v=inside xs v:=by
 rw[(AHA hx).ins,ADJ (List.mergeSort_perm _ _),ADK]
end Go.Proofs.YtiihpnicbekebaaGreatDoor.Bins
namespace Go.Proofs.YtiihpnicbekebaaGreatDoor.Ho
open Sm Bins Cov Go.RowKit
variable {b:Bin} {p:Pt} {H h:Hp} {v:Nat->AV} {N n t:Nat} {c:List (List Ex)} {e:Ex}
theorem aU (b:Bin):sets b=FP b:=by
 unfold sets FP
 cases h:b.ranges.l with
 | nil=>rfl
 | cons x xs=>rw[if_pos AZ,if_neg AZ]
structure VB (b:Bin):Prop where
 one:b.steps=[]∨b.ranges.l=[]
 ne:FP b≠[]
 few:(FP b).length<=8
 k0:0<=b.kind
 k2:b.kind<=2
 sk:b.kind≠0->b.steps=[]
 each:∀s∈FP b,s.l≠[]∧s.l.length<=64∧∀r∈s.l,0<=r.lo∧r.lo<=r.hi∧r.hi<=65535
theorem A4R (h:IK b=0):VB b:=by
 unfold IK at h;split at h
 case isFalse=>cases h
 split at h
 case isTrue=>cases h
 rename_i h1 h2;split at h
 case isTrue=>cases h
 rename_i h3;split at h
 case isTrue=>cases h
 rename_i h4;split at h
 case isTrue=>cases h
 rename_i h5;have h2':OT b=false:=BG h2;unfold OT at h2';simp only[wF,decide_eq_false_iff_not,Bool.and_eq_false_iff] at h2';obtain⟨⟨⟨⟨⟨q1,q2⟩,q3⟩,q4⟩,q5⟩,q6⟩:=h2'
 have hst:∀s∈b.steps,s.l≠[]:=fun s hs e=>by
  have:b.steps.any (fun l=>decide (l.l.length=0))=true:=qL.2 ⟨s,hs,by rw[e]; rfl⟩;exact h3 this
 have h64:∀s∈sets b,s.l.length<=64:=fun s hs=>by
  rcases Nat.lt_or_ge 64 s.l.length with q|q
  .exact absurd (qL.2 ⟨s,hs,BG q⟩) h4
  .exact q
 have hbad:∀s∈sets b,∀r∈s.l,bad r=false:=fun s hs r hr=>by
  cases hb:bad r with
  | false=>rfl
  | true=>exact absurd (qL.2 ⟨s,hs,qL.2 ⟨r,hr,hb⟩⟩) h5
 have hone:b.steps=[]∨b.ranges.l=[]:=by
  rcases Classical.em (b.steps=[]) with q|q
  .exact .inl q
  .refine .inr ?_
   have l1:0<b.steps.length:=qZ.2 q;rcases Classical.em (b.ranges.l=[]) with r|r
   .exact r
   .have l2:0<b.ranges.l.length:=qZ.2 r
    have e1:decide (((b.ranges.l.length:Nat):Int)>0)=true:=by rw[decide_eq_true_eq]; omega
    have e2:decide (((b.steps.length:Nat):Int)>0)=true:=by rw[decide_eq_true_eq]; omega
    rw[e1,e2] at q3; cases q3
 have hne:b.steps≠[]∨b.ranges.l≠[]:=by
  rcases Classical.em (b.steps=[]) with q|q
  .refine .inr fun r=>?_
   rw[q,r] at q3; exact absurd q3 DF
  .exact .inl q
 rw[aU] at h64 hbad;refine⟨hone,?_,?_,U,U,fun hk=>?_,fun s hs=>⟨?_,h64 s hs,fun r hr=>?_⟩⟩
 .unfold FP
  split
  .rename_i q; exact hne.resolve_right (fun r=>r q)
  .exact List.cons_ne_nil _ _
 .unfold FP
  split
  .simp at q6; omega
  .simp
 .rcases q4 with q|q
  .simp at q; exact absurd q hk
  .exact yH.1 U
 .unfold FP at hs
  split at hs
  .exact hst s hs
  .rename_i q
   rw[qP.1 hs]; exact q
 .have:=hbad s hs r hr
  unfold bad at this;simp only[wF,decide_eq_false_iff_not] at this;omega
structure VP (p:Pt):Prop where
 n1:1<=p.bins.length
 n64:p.bins.length<=64
 ex:exE p.ex=0
 bins:∀b∈p.bins,VB b
theorem A4Q (h:IX p=0):VP p:=by
 obtain⟨h1,h2⟩:=iM h;unfold IX at h;split at h
 .cases h
 split at h
 .rename_i q; exact absurd h q
 rename_i q1;split at h
 .cases h
 split at h
 .cases h
 split at h
 .rename_i q; exact absurd h q
 rename_i q2;exact⟨h1,h2,BG q1,fun b hb=>A4R (PU _ (BG q2) b hb)⟩
theorem lT {m:Mo}(h:FK m=0):∀p∈m.pts,VP p:=by
 unfold FK at h;split at h
 .cases h
 split at h
 .rename_i q; exact absurd h q
 rename_i q;exact fun p hp=>A4Q (PU _ (BG q) p hp)
theorem pI {n:Nat}:∀ {l:List Bin},(∀b∈l,b.kind≠0->b.ranges.l.length<=n)->(J9 l).length<=n*l.length
 | [],_=>by simp [J9]
 | b::l,h=>by
   have ih:=pI (l:=l) fun b hb=>h b (by simp [hb])
   show((if b.kind≠0 then b.ranges.l else [])++J9 l).length<=n*(l.length+1);rw[jT,Nat.mul_add];by_cases hk:b.kind≠0
   .rw[if_pos hk]; have:=h b AZ hk; omega
   .rw[if_neg hk,zU]; omega
theorem VB.ranges {b:Bin}(v:VB b)(hk:b.kind≠0):FP b=[b.ranges]:=by
 rcases Classical.em (b.ranges.l=[]) with q|q
 .have h1:=setsB_nil' q
  have h2:=v.ne;rw[h1,v.sk hk] at h2; exact absurd rfl h2
 .unfold FP; rw[if_neg q]
 where setsB_nil' {b:Bin} (h:b.ranges.l=[]):FP b=b.steps:=by unfold FP; rw[if_pos h]
theorem VP.badLen (v:VP p):(J9 p.bins).length<=4096:=by
 have:=pI (n:=64) (l:=p.bins) fun b hb hk=>((v.bins b hb).each b.ranges (by rw[(v.bins b hb).ranges hk]; simp)).2.1
 have:=v.n64;omega
theorem AFK {r:Rng}:∀ {l:List Bin},r∈J9 l->∃b∈l,b.kind≠0∧r∈b.ranges.l
 | b::l,h=>by
   rcases zI.1 (show r∈(if b.kind≠0 then b.ranges.l else [])++J9 l from h) with h|h
   .by_cases hk:b.kind≠0
    .rw[if_pos hk] at h; exact⟨b,AZ,hk,h⟩
    .rw[if_neg hk] at h; cases h
   .obtain⟨b',h1,h2⟩:=AFK h; exact⟨b',by simp [h1],h2⟩
theorem VP.badOk (v:VP p):∀r∈J9 p.bins,0<=r.lo∧r.lo<=r.hi∧r.hi<=65535:=fun r hr=>by
 obtain⟨b,hb,hk,hr⟩:=AFK hr;exact((v.bins b hb).each b.ranges (by rw[(v.bins b hb).ranges hk]; simp)).2.2 r hr
theorem iN {xs:List Rng}(h:∀r∈xs,0<=r.lo∧r.lo<=r.hi∧r.hi<=65535)(v:Int):inside (normal xs) v=inside xs v:=rJ (fun r hr=>by have:=h r hr; unfold inI; omega) v
theorem ANJ {xs:List Rng}(h:∀r∈xs,0<=r.lo∧r.lo<=r.hi∧r.hi<=65535)(hx:xs≠[]):normal xs≠[]:=by
 intro e
 cases xs with
 | nil=>exact hx rfl
 | cons r rs =>
   have h1:=iN h r.lo;rw[e] at h1;have h2:inside (r::rs) r.lo=true:=qL.2 ⟨r,AZ,by have:=h r AZ; simp; omega⟩;rw[h2] at h1; cases h1
def encX (l:List Ex):List AV:=A1F ⟨.any,l⟩
def rowF (x:Ex):List AV:=[.sl .full 4 [AX x]]
def L6 (X:List Ex):Ex:=X[X.length-1]?.getD (cE 0)
def ACB (X:List Ex):Option Ex->List (List AV)
 | none=>X.map rowF
 | some y=>(X.map rowF).set (X.length-1) [.sl .any 4 [AX (L6 X),AX (notE y)]]
theorem AMU (X:List Ex)(y:Option Ex):(ACB X y).length=X.length:=by cases y<;>simp [ACB]
theorem AJ0 (x:Ex):CvRow (rowF x) (encX [x]):=CvRow.cons rfl (Cv.any AZ 4 _) CvRow.nil
theorem AQV (X:List Ex)(y:Option Ex):Cv (.sl .any 1 (ACB X y)) (.sl .any 1 ((ARR y (X.map fun x=>[x])).map encX)):=by
 refine Cv.rows (by rw[jM,AC9,jM,AMU]) fun i r r' h1 h2=>?_
 cases y with
 | none =>
   change ((X.map fun x=>[x]).map encX)[i]?=some r' at h2;change (X.map rowF)[i]?=some r at h1;rw[qW,jV] at h2;rw[jV] at h1
   cases hx:X[i]? with
   | none=>rw[hx] at h1; cases h1
   | some x =>
     rw[hx] at h1 h2;cases h1; cases h2;exact AJ0 x
 | some y =>
   change (((X.map fun x=>[x]).set ((X.map fun x=>[x]).length-1) ((X.map fun x=>[x])[(X.map fun x=>[x]).length-1]?.getD []++[notE y])).map encX)[i]?=some r' at h2;change ((X.map rowF).set (X.length-1) [.sl .any 4 [AX (L6 X),AX (notE y)]])[i]?=some r at h1;have hi:i<X.length:=by have:=Z h1; simpa using this
   rw[zJ] at h1;rw[jV,zJ] at h2;by_cases e:X.length-1=i
   .have hl:(X.map fun x=>[x])[X.length-1]?.getD []=[L6 X]:=by
     unfold L6;rw[jV,jG U]; rfl
    rw[if_pos e,if_pos (by simpa using U)] at h1;rw[jM,if_pos e,if_pos U,hl] at h2;cases h1; cases h2;exact CvRow.cons rfl (Cv.refl _) CvRow.nil
   .rw[if_neg e] at h1
    rw[jM,if_neg e,jV] at h2;rw[jV,jG hi] at h1;rw[jG hi] at h2;cases h1; cases h2;exact AJ0 _
theorem ANV {X:List Ex}(h:X≠[]):X[X.length-1]?=some (L6 X):=by
 have:0<X.length:=qZ.2 h;unfold L6;rw[jG U]; rfl
theorem AK4:Frz rowF:=fun _ _ _ _=>⟨rfl,rfl⟩
theorem AOF {n:Nat}{H:Hp}{ob nb:Nat}{X:List Ex}{y:Ex}(h1:n<=ob)(h2:n<=nb)(_:X≠[])(g:H[ob]?=some (yK 1 ((X.map rowF).set (X.length-1) [.own nb 0 2])))
  (gn:H[nb]?=some (yK 4 [AX (L6 X),AX (notE y)])):EZ n H 4 (.own ob 0 X.length)=.sl .any 1 (ACB X (some y)):=by
 have e2:EZ n H 3 (.own nb 0 2)=.sl .any 4 [AX (L6 X),AX (notE y)]:=frz_own (f:=AX) (xs:=[L6 X,notE y]) (d:=1) frzEx h2 gn;rw[Cov.frzF_own n H 3 ob 0 X.length 1 _ U g,zT,jJ AZ,List.map_set,jK,jL,e2,frz_rows AK4 n H 2 X];rw[if_pos]
 .rfl
 refine⟨AZ,?_⟩;rw[zL];intro row hr;rcases List.mem_or_eq_of_mem_set hr with hr|rfl
 .obtain⟨x,_,rfl⟩:=zH.1 hr; rfl
 .rfl
structure BdB (p:Pt) (b:Bin):Prop where
 hs:FP b≠[]
 hl:(FP b).length<=1048576
 hr:∀s∈FP b,s.l.length<=1048576
 hb:(J9 p.bins).length<=1048576
 hn:p.bins.length<=1048576
 hw:wt p.ex<=1048576
theorem BAD (h:Hp)(m:SM)(xs:List (List AV)):C9 jA false h 85 1 [(0,.sl m 2 xs)]=some (.sl .full 1 [[.sl m 2 xs]],h):=A7
theorem A33 (h:Hp)(a b:Int)(s:ByteArray)(m:SM)(xs:List (List AV)):C9 jA false h 23 1 [(0,.agg [.n a,.n b,.str s,.sl m 4 xs])]=some (.sl .full 4 [[.n a,.n b,.str s,.sl m 4 xs]],h):=A7
theorem uO (h:Hp)(e:Ex):C9 jA false h 23 1 [(0,.agg (AX e))]=some (.sl .full 4 [AX e],h):=by
 rw[FB]; exact A33 h _ _ _ _ _
theorem A1N (h:Hp)(m:SM)(xs:List (List AV)):C9 jA false h 100 1 [(0,.sl m 4 xs)]=some (.sl .full 1 [[.sl m 4 xs]],h):=A7
theorem A7U (xs:List (List AV)):IY jA 79 [(0,.n 4),(3,.sl .full 4 xs)]=some (.agg [.n 4,.n 0,.str ⟨#[]⟩,.sl .full 4 xs]):=A7
theorem ARH (e:Ex):AX (notE e)=[.n 4,.n 0,.str ⟨#[]⟩,.sl .full 4 [AX e]]:=by rw[FB]; rfl
theorem A52 {b:Nat}{x:Bin}(hb:H[b]?=some (yK 4 [F6 x])):BH jA H 85 (.ptr b 0 3)=some (.sl x.sm 1 (x.steps.map encS)):=by
 rw[BA XJ hb (row:=F6 x) rfl,ALK]
theorem A9S {b:Nat}(hb:H[b]?=some (yK 6 [FC p])):BH jA H 82 (.ptr b 0 0)=some (.agg (FC p)):=by
 rw[EF lA aQ hb rfl (by rw[H7]; exact jF 6),zT,<-H7 p,List.take_length]
theorem AMP (h:b.ranges.l=[]):FP b=b.steps:=by unfold FP; rw[if_pos h]
theorem AGQ (h:b.ranges.l≠[]):FP b=[b.ranges]:=by unfold FP; rw[if_neg h]
section
variable (G:Nat->AV)
theorem oY (p:Pt)(k:Nat)(hk:k<p.bins.length)(B:BdB p p.bins[k])(h:Hp):PCall (En G) 93 [.agg (FC p),.n (k:Nat)] h (.sl .any 1 ((TN D7 p p.bins[k]).map encX)):=by
 have hcv:=AQV ((FP p.bins[k]).map fun s=>D7 p.ex s.l) (badO D7 p);have hcl:(((FP p.bins[k]).map fun s=>D7 p.ex s.l).map fun x=>[x])=(FP p.bins[k]).map fun s=>[D7 p.ex s.l]:=by rw[qW]; rfl
 rw[hcl] at hcv;refine PCall.res ?_ (CvR.sl hcv);clear hcv hcl;refine ACalls.pure (R:=fun v H=>Sm.ext h H∧EZ h.length H 4 v=.sl .any 1 (ACB ((FP p.bins[k]).map fun s=>D7 p.ex s.l) (badO D7 p))) 4 ?_ (fun v H ⟨a,b⟩=>⟨a,b⟩);have hb1:=B.hs; have hb2:=B.hl; have hb3:=B.hr; have hb4:=B.hb; have hb5:=B.hn; have hb6:=B.hw;refine JE (H:=hint [61] []) (enM G) Tryz.func93 rfl (by kernel_rfl) (by kernel_rfl) (jB (by kernel_rfl)) ?_;show awp _ _ _ _ _ (MJ _ [.tmp 4] _);have gp:=AB (x:=yK 4 [F6 p.bins[k]]) (AQ h (yK 6 [FC p]));have gb:=AQ (h++[yK 6 [FC p]]) (yK 4 [F6 p.bins[k]]);have hx:Sm.ext h (h++[yK 6 [FC p]]++[yK 4 [F6 p.bins[k]]]):=((ext.rfl' h).app _).app _;simp only[vQ,zA,jX,zB,qB,CG,WV,SL,↓reduceIte,jC,enP,fL,OJ,AH2,jQ,A7G,A51 (AQ h (yK 6 [FC p])),CX hk,DC kZ aP KZ hk,al79,st79 _ _ [.str ⟨#[]⟩,.n 0,.sl .nil 0 [],.sl .nil 0 []] rfl]
 generalize h++[yK 6 [FC p]]++[yK 4 [F6 p.bins[k]]]=H0 at gp gb hx|-
 generalize (h++[yK 6 [FC p]]).length=b5 at gb|-
 generalize p.bins[k]=b at gb hb1 hb2 hb3|-
 refine A8 (A52 gb) (AR6 gb) ?_;refine VO (fun F H=>∃s,F 2=.ptr h.length 0 0∧F 6=.sl s 1 ((FP b).map encS)∧H=H0) (fun _ _=>False) (fun hc=>?_) (fun hc=>?_) ?_ (fun _ _ q=>q.elim)
 .have hne:b.ranges.l≠[]:=by
   intro q;rw[q] at hc; exact absurd hc DF
  refine A8 (AR6 gb) BAD ?_;exact⟨_,AC,by rw[AGQ hne]; exact rfl,AC⟩
 .have he:b.ranges.l=[]:=by
   have:=of_decide_eq_false hc;exact yH.1 U
  refine AA ?_;exact⟨_,AC,by rw[AMP he],AC⟩
 rintro F H ⟨s,f2,f6,rfl⟩
 generalize FP b=S at f6 hb1 hb2 hb3|-
 refine AY f6 ?_;refine ER 0 (fun F H'=>∃v,F 2=.ptr h.length 0 0∧F 7=v∧Sm.ext H H'∧outG 1 rowF H (S.map fun s=>D7 p.ex s.l) v H') (fun _ _=>False) ?_ ?_ (fun _ _ q=>q.elim)
 .refine BJ (fun n F H'=>∃i v,n+i=S.length∧F 2=.ptr h.length 0 0∧F 7=v∧F 26=.sl s 1 (S.map encS)∧F 27=.n (S.length:Nat)∧F 28=.n (i:Nat)∧Sm.ext H H'∧outG 1 rowF H ((S.take i).map fun s=>D7 p.ex s.l) v H') S.length
   ⟨0,.sl .nil 0 [],AZ,LX f2,EK,LX f6,EK,EK,ext.rfl' _,by rw[qK]; exact outG.nil _ _ _ _⟩ ?_
  clear f2 f6;rintro n F H' ⟨i,v,hi,f2,f7,f26,f27,f28,hxH,ho⟩;refine A8 f27 f28 ?_;refine D8 ?_ ?_<;>intro hi'
  .have gp':=DV hxH gp
   have hlen:((S.take i).map fun s=>D7 p.ex s.l).length<8388608:=by rw[jM,jZ]; omega
   obtain⟨v',H2,ha,ho2,_,he2,_,_⟩:=ho.append (P:=jA) AP8 AMH A0J AUD U hlen hxH (D7 p.ex S[i].l);have ha':EP jA true H' 100 100 v (.sl .full 1 [[.sl .full 4 [AX (D7 p.ex S[i].l)]]])=some (v',H2):=ha
   have hst:(S.take (i+1)).map (fun s=>D7 p.ex s.l)=(S.take i).map (fun s=>D7 p.ex s.l)++[D7 p.ex S[i].l]:=by
    rw[jU hi',List.map_append]; rfl
   simp only[vQ,zA,jX,zB,qB,CG,↓reduceIte,jC,enP,nZ,AHK,f2,f7,f26,f28,CX hi',CU RQ hi',AEM,A02 gp'];have hin:PCall (En G) 168 [.agg (AX p.ex),.sl S[i].m 2 (S[i].l.map encR)] H' (.agg (AX (D7 p.ex S[i].l))):=inside_prog G p.ex S[i].l S[i].m (hb3 _ (jI hi')) hb6 H';refine hin.use ?_;refine NY f7 f28 @uO @A1N ha' (CZ i) ?_;exact⟨n-1,U,i+1,v',U,AC,AC,AC,AC,AC,he2,by rw[hst]; exact ho2⟩
  .rw[jJ U] at ho
   refine AA ?_;exact⟨v,AC,AC,hxH,ho⟩
 rintro F H' ⟨v,f2,f7,hxH,ho⟩;clear f6;have gp':=DV hxH gp;refine A8 f2 (A9S gp') ?_;refine(AUR G p hb5 hb4 H').uu ?_;have hSl:0<S.length:=qZ.2 hb1
 obtain⟨ob,rfl,hob1,hob⟩:∃ob,v=.own ob 0 S.length∧H.length<=ob∧H'[ob]?=some (yK 1 ((S.map fun s=>D7 p.ex s.l).map rowF)):=by
  rcases ho with⟨e1,_⟩|⟨_,o,h1,h2,h3⟩
  .exact absurd (BG e1) hb1
  .exact⟨o,by rw[h2,jM],h1,h3⟩
 have hXl:(S.map fun s=>D7 p.ex s.l).length=S.length:=AZ;have hX0:(S.map fun s=>D7 p.ex s.l)≠[]:=BG hb1;have hhx:=hx.trans hxH;have hl0:=hx.le
 generalize (S.map fun s=>D7 p.ex s.l)=X at hob hXl hX0|-
 refine BM ?_ ?_<;>intro hc
 .have hbad:J9 p.bins≠[]:=by
   intro q;rw[q] at hc; exact absurd hc DF
  have hbo:badO D7 p=some (D7 p.ex (J9 p.bins)):=by unfold badO; rw[if_neg hbad]
  rw[hbo];have hw1:IntKind.i64.wrap (((S.length:Nat):Int)-1)=((S.length-1:Nat):Int):=by rw[wrap_i64 U U]; omega
  have hin:PCall (En G) 168 [.agg (AX p.ex),.sl (Cov.nm (J9 p.bins)) 2 ((J9 p.bins).map encR)] H' (.agg (AX (D7 p.ex (J9 p.bins)))):=inside_prog G p.ex (J9 p.bins) (Cov.nm (J9 p.bins)) hb4 hb6 H'
  generalize D7 p.ex (J9 p.bins)=y at hin|-
  have hlast:(X.map rowF)[S.length-1]?=some (rowF (L6 X)):=by
   rw[jV,<-hXl,ANV hX0]; rfl
  have i1:IG 1 H' (.own ob 0 S.length) (.n ((S.length-1:Nat):Int))=some (.ptr ob (S.length-1) 0):=by rw[GM hob U,jH]
  have d1:BH jA H' 23 (.ptr ob (S.length-1) 0)=some (.sl .full 4 [AX (L6 X)]):=by rw[BA LH hob hlast]; rfl
  have ha:EP jA true H' 23 23 (.sl .full 4 [AX (L6 X)]) (.sl .full 4 [ET])=some (.own H'.length 0 2,H'++[yK 4 ([AX (L6 X)]++[ET])]) :=
   VS V7 JB eQ eE (F9 H' .full 4 [ET]) AZ (GV AZ U)
  have gN:=AQ H' (yK 4 ([AX (L6 X)]++[ET]));have gO:=AB (x:=yK 4 ([AX (L6 X)]++[ET])) hob;have lob:=Z hob;have i2:IG 4 (H'++[yK 4 ([AX (L6 X)]++[ET])]) (.own H'.length 0 2) (.n ((1:Nat):Int))=some (.ptr H'.length 1 0):=GM (n:=1) gN DF;have i3:IG 1 (H'++[yK 4 ([AX (L6 X)]++[ET])]) (.own ob 0 S.length) (.n ((S.length-1:Nat):Int))=some (.ptr ob (S.length-1) 0):=by rw[GM gO U,jH]
  have hHx:=hhx.app [yK 4 ([AX (L6 X)]++[ET])];generalize H'++[yK 4 ([AX (L6 X)]++[ET])]=H2 at gN gO i2 i3 ha hHx;generalize hnb:H'.length=nb at gN i2 ha lob
  have hsN:∀Hq:Hp,Hq[nb]?=some (yK 4 ([AX (L6 X)]++[ET]))->DT jA Hq 79 (.ptr nb 1 0) (.agg [.n 4,.n 0,.str ⟨#[]⟩,.sl .full 4 [AX y]])=some (Hq.set nb (yK 4 [AX (L6 X),AX (notE y)])):=fun Hq hq=>by
   rw[G5 (i:=1) (O7 rfl) JB hq rfl (jF 4),ARH]; rfl
  have hsO:∀Hq:Hp,Hq[ob]?=some (yK 1 (X.map rowF))->DT jA Hq 23 (.ptr ob (S.length-1) 0) (.own nb 0 2)=some (Hq.set ob (yK 1 ((X.map rowF).set (X.length-1) [.own nb 0 2]))):=fun Hq hq=>by
   rw[G5 (cs:=[.own nb 0 2]) rfl AMH hq hlast (by exact jF 1),hXl]; rfl
  have q1:=hsN H2 gN;have q2:=hsO (H2.set nb (yK 4 [AX (L6 X),AX (notE y)])) (CY gO U);have q3:=hsO H2 gO;have q4:=hsN (H2.set ob (yK 1 ((X.map rowF).set (X.length-1) [.own nb 0 2]))) (CY gN U);rw[List.set_comm _ _ (U:ob≠nb)] at q4;clear hsN hsO;have gF1:((H2.set nb (yK 4 [AX (L6 X),AX (notE y)])).set ob (yK 1 ((X.map rowF).set (X.length-1) [.own nb 0 2])))[ob]?=some (yK 1 ((X.map rowF).set (X.length-1) [.own nb 0 2])):=CP (CY gO U);have gF2:((H2.set nb (yK 4 [AX (L6 X),AX (notE y)])).set ob (yK 1 ((X.map rowF).set (X.length-1) [.own nb 0 2])))[nb]?=some (yK 4 [AX (L6 X),AX (notE y)]):=CY (CP gN) U;have hF:=(hHx.set (U:h.length<=nb) (yK 4 [AX (L6 X),AX (notE y)])).set (U:h.length<=ob) (yK 1 ((X.map rowF).set (X.length-1) [.own nb 0 2]));have hfz:=AOF (n:=h.length) (y:=y) U U hX0 gF1 gF2;refine DL f7 @iO.2 hw1 ?_;refine AFN [] [0,1,2,3,4,5,6,7,8,9,10,11,12,13,15] 14 16 [] A7 trivial ?_;simp only[NR,List.getElem?_cons_succ,List.getElem?_cons_zero];refine JG f2 f7 i1 d1 (A02 gp') ?_;refine⟨_,hin,?_⟩
  try simp only[vQ,JM,zA,jX,zB,qB,QR,cJ,KW,RX,LJ,CG,NZ,F7,J6,↓reduceIte,jC,Nat.reduceAdd,enP,PQ,AR1,AKV,jQ,uO,A7U,A71,A1M,ha,i2,i3,zO,zU,q1,q2,q3,q4]
  rw[f7,<-hXl,hfz];exact⟨⟨hF,rfl⟩,hF,rfl⟩
 .have hbad:J9 p.bins=[]:=by
   have:=of_decide_eq_false hc;exact yH.1 U
  have hbo:badO D7 p=none:=by unfold badO; rw[if_pos hbad]
  rw[hbo];refine AY f7 ?_;refine⟨hhx,?_⟩;have:=frz_own (d:=2) AK4 (n:=h.length) (U:h.length<=ob) hob;rw[hXl] at this;exact this
end
def TG (l:List Ex):List AV:=A1F ⟨Cov.nm l,l⟩
def XA (c:List (List Ex)):List AV:=[.sl .any 1 (c.map encX)]
theorem ATW (c:List (List Ex)):(XA c)[0]?=some (.sl .any 1 (c.map encX)):=rfl
theorem A6Y (l:List Ex):(encX l)[0]?=some (.sl .any 4 (l.map AX)):=rfl
structure OL (n0:Nat) (H:Hp) (ob n:Nat) (v:Nat->AV) (X:Nat->List Ex):Prop where
 gob:H[ob]?=some (yK 1 ((zN n).map fun t=>[v t]))
 lo:n0<=ob
 each:∀t,t<n->(X t=[]∧v t=.sl .nil 0 [])∨(X t≠[]∧∃o,n0<=o∧v t=.own o 0 (X t).length∧H[o]?=some (yK 4 ((X t).map AX)))
 ap:∀t u b,t<n->u<n->isB (v t) b->isB (v u) b->t=u
 ne:∀t b,t<n->isB (v t) b->b≠ob
def cX {α:Type}(f:Nat->α)(a:Nat)(x:α)(t:Nat):α:=if t=a then x else f t
theorem AM6 {a:Nat}{x:AV}(_ha:a<n):((zN n).map fun t=>[v t]).set a [x]=(zN n).map fun t=>[cX v a x t]:=by
 apply List.ext_getElem
 .simp
 intro i h1 h2;rw[List.getElem_set];simp only[List.getElem_map,List.getElem_range,cX];by_cases e:a=i
 .rw[if_pos e,if_pos e.symm]
 .rw[if_neg e,if_neg (Ne.symm e)]
theorem fE {n0:Nat}{X:List Ex}{v:AV}(hl:n0=h.length):((X=[]∧v=.sl .nil 0 [])∨(X≠[]∧∃o,n0<=o∧v=.own o 0 X.length∧H[o]?=some (yK 4 (X.map AX))))↔outG 4 AX h X v H:=by subst hl; exact Iff.rfl
theorem OL.app {ob a:Nat}{X:Nat->List Ex}(O:OL h.length H ob n v X)(ha:a<n)(hx:ext h H)(s:SM)(ys:List Ex)(hl:(X a).length+ys.length<=8388608):
  ∃ v' H',EP jA true H 23 23 (v a) (.sl s 4 (ys.map AX))=some (v',H')∧H'[ob]?=some (yK 1 ((zN n).map fun t=>[v t]))∧H9 v'=some [v'] ∧
    OL h.length (H'.set ob (yK 1 ((zN n).map fun t=>[cX v a v' t]))) ob n (cX v a v') (cX X a (X a++ys))∧ext h (H'.set ob (yK 1 ((zN n).map fun t=>[cX v a v' t]))):=by
 obtain⟨v',H',h1,h2,h3,h4,h5,h6⟩:=Y4 (P:=jA) s ((fE rfl).1 (O.each a ha)) V7 JB eQ eE U (ys:=ys) hl hx;have lob:=Z O.gob;have g1:=h3 _ _ O.gob (fun q=>O.ne a _ ha q rfl)
 have hlt:∀t b,t<n->isB (v t) b->b<H.length:=fun t b ht hb=>((fE rfl).1 (O.each t ht)).lt hb |>.2
 have hne':∀b,isB v' b->b≠ob:=fun b hb=>by
  rcases h6 b hb with q|q
  .exact O.ne a b ha q
  .omega
 have hac:H9 v'=some [v']:=by
  rcases h2 with⟨_,rfl⟩|⟨_,o,_,rfl,_⟩<;>rfl
 refine⟨v',H',h1,g1,hac,⟨CP g1,O.lo,fun t ht=>?_,fun t u b ht hu h7 h8=>?_,fun t b ht hb=>?_⟩,h4.set O.lo _⟩
 .by_cases e:t=a
  .subst e
   simp only[cX,if_true];exact(fE rfl).2 (h2.keep fun b hb=>by rw[jY (Ne.symm (hne' b hb))])
  .simp only[cX,if_neg e]
   refine(fE rfl).2 (((fE rfl).1 (O.each t ht)).keep fun b hb=>?_);rw[jY (Ne.symm (O.ne t b ht hb))];rcases O.each t ht with⟨_,q⟩|⟨_,o,_,q,q2⟩
   .rw[q] at hb; exact hb.elim
   .rw[q] at hb; cases hb
    rw[q2];exact h3 _ _ q2 fun q3=>e (O.ap t a _ ht ha (by rw[q]; rfl) q3)
 .simp only[cX] at h7 h8
  by_cases e1:t=a<;>by_cases e2:u=a
  .rw[e1,e2]
  .rw[if_pos e1] at h7; rw[if_neg e2] at h8
   rcases h6 b h7 with q|q
   .exact e1.trans (O.ap a u b ha hu q h8)
   .have:=hlt u b hu h8; omega
  .rw[if_neg e1] at h7; rw[if_pos e2] at h8
   rcases h6 b h8 with q|q
   .exact(O.ap t a b ht ha h7 q).trans e2.symm
   .have:=hlt t b ht h7; omega
  .rw[if_neg e1] at h7; rw[if_neg e2] at h8
   exact O.ap t u b ht hu h7 h8
 .simp only[cX] at hb
  by_cases e1:t=a
  .rw[if_pos e1] at hb; exact hne' b hb
  .rw[if_neg e1] at hb; exact O.ne t b ht hb
theorem OL.frz {n0:Nat}{ob:Nat}{X:Nat->List Ex}(O:OL n0 H ob n v X)(h:Hp)(hl:n0=h.length):EZ h.length H 4 (.own ob 0 n)=.sl .any 1 ((zN n).map fun t=>[fzG 4 AX (X t)]):=by
 subst hl
 have hm:((zN n).map fun t=>[v t]).map (·.map (EZ h.length H 3))=(zN n).map fun t=>[fzG 4 AX (X t)]:=by
  rw[qW];refine yA fun t ht=>?_
  have ht':t<n:=BG ht;show [EZ h.length H 3 (v t)]=_;rw[PW frzEx ((fE rfl).1 (O.each t ht')) h.length 1 (jF _)]
 rw[Cov.frzF_own h.length H 3 ob 0 n 1 _ (by have:=O.lo; omega) O.gob,zT,jJ AZ,hm];rw[if_pos];refine⟨AZ,?_⟩;rw[zL];intro row hr;obtain⟨t,_,rfl⟩:=zH.1 hr;cases X t<;>rfl
theorem A1B (l:List Ex):CvRow [fzG 4 AX l] (TG l):=by
 cases l with
 | nil=>exact CvRow.cons rfl (Cv.nil 0 4) CvRow.nil
 | cons x xs=>exact CvRow.cons rfl (Cv.refl _) CvRow.nil
def rowP (n i t:Nat)(c:List (List Ex)):List Ex:=if n-c.length<=t∧t<n-c.length+i then c[t-(n-c.length)]?.getD [] else []
theorem AMW (n t:Nat)(c:List (List Ex)):rowP n 0 t c=[]:=by unfold rowP; rw[if_neg U]
theorem AMX (ht:t<n)(hc:c.length<=n):rowP n c.length t c=rowC n t c:=by
 unfold rowP rowC;by_cases h:n-c.length<=t
 .rw[if_pos ⟨h,U⟩,if_pos h]
 .rw[if_neg U,if_neg h]
theorem AM1 (n t:Nat)(cs:List (List (List Ex)))(j:Nat)(hj:j<cs.length):rowA n (cs.take (j+1)) t=rowA n (cs.take j) t++rowC n t cs[j]:=by
 unfold rowA;rw[jU hj,List.flatMap_append]; simp
theorem rowC_len {B:Nat}(h:∀r∈c,r.length<=B):(rowC n t c).length<=B:=by
 unfold rowC;split
 .cases hx:c[t-(n-c.length)]? with
  | none=>exact qI _
  | some r=>exact h r (zZ hx)
 .exact qI _
theorem mL {n t B:Nat}:∀ {cs:List (List (List Ex))},(∀c∈cs,∀r∈c,r.length<=B)->(rowA n cs t).length<=B*cs.length
 | [],_=>by simp [rowA]
 | c::cs,h=>by
   have h1:=rowC_len (n:=n) (t:=t) (h c AZ);have h2:=mL (n:=n) (t:=t) (cs:=cs) fun c hc=>h c (by simp [hc])
   show(rowC n t c++rowA n cs t).length<=_;rw[jT,zO,Nat.mul_add]; omega
theorem A9Q (h:Hp)(n:Nat)(hn:n<=1048576):GR jA true h 100 (.n (n:Int)) (.n (n:Int))=some (.own h.length 0 n,h++[yK 1 ((zN n).map fun _=>[.sl .nil 0 []])]):=by
 have hz:MC jA 23=some [.sl .nil 0 []]:=A7;have hr:room n 24:=GV U U;unfold GR;simp only[AP8,AMH,AUD,hz,Int.toNat_natCast];rw[if_pos ⟨U,Int.le_refl _,hr,rfl⟩];have e:(zN n).map (fun _=>[AV.sl .nil 0 []])=List.replicate n [.sl .nil 0 []]:=by rw[List.map_const',List.length_range]
 rw[e]; rfl
theorem rowP_step {i:Nat}(hc:c.length<=n)(hi:i<c.length)(_ht:t<n):rowP n (i+1) t c=if t=n-c.length+i then c[i] else rowP n i t c:=by
 unfold rowP;by_cases e:t=n-c.length+i
 .rw[if_pos e,if_pos U,show t-(n-c.length)=i by omega,jG hi]; rfl
 .rw[if_neg e]
  by_cases h:n-c.length<=t∧t<n-c.length+i
  .rw[if_pos h,if_pos U]
  .rw[if_neg h,if_neg U]
section
variable (G:Nat->AV)
theorem AAQ (cs:List (List (List Ex)))(s:SM)(hcs:cs.length<=1048576)(hl:∀c∈cs,c.length<=1048576)(hr:∀c∈cs,∀r∈c,r.length<=2)(h:Hp):PCall (En G) 95 [.sl s 1 (cs.map XA)] h (.sl .any 1 ((JX cs).map TG)):=by
 have hcv:Cv (.sl .any 1 ((zN (OV cs)).map fun t=>[fzG 4 AX (rowA (OV cs) cs t)])) (.sl .any 1 ((JX cs).map TG)):=by
  unfold JX;rw[qW];exact Cv.map fun t _=>A1B _
 refine PCall.res ?_ (CvR.sl hcv);clear hcv;refine ACalls.pure (R:=fun v H=>Sm.ext h H∧EZ h.length H 4 v=.sl .any 1 ((zN (OV cs)).map fun t=>[fzG 4 AX (rowA (OV cs) cs t)])) 4 ?_ (fun v H ⟨a,b⟩=>⟨a,b⟩);have hnb:OV cs<=1048576:=WM cs 0 _ (qI _) hl;refine acT Tryz.func95 2 ?_;refine AY A0Y ?_;refine ER 0 (fun F H'=>F 0=.sl s 1 (cs.map XA)∧F 3=.n (OV cs:Nat)∧H'=h) (fun _ _=>False) ?_ ?_ (fun _ _ q=>q.elim)
 .refine BJ (fun n F H'=>∃i,n+i=cs.length∧F 0=.sl s 1 (cs.map XA)∧F 3=.n (OV (cs.take i):Nat)∧F 12=.sl s 1 (cs.map XA)∧F 13=.n (cs.length:Nat)∧F 14=.n (i:Nat)∧H'=h) cs.length
   ⟨0,AZ,AL,AL,AL,AL,AL,rfl⟩ ?_
  rintro n F H ⟨i,hi,f0,f3,f12,f13,f14,rfl⟩;refine A8 f13 f14 ?_;refine D8 ?_ ?_<;>intro hi'
  .have hm:max ((OV (cs.take i):Nat):Int) ((cs[i].length:Nat):Int)=((OV (cs.take (i+1)):Nat):Int):=by rw[ANR cs i hi']; omega
   simp only[vQ,PD,CG,AJA,xF,↓reduceIte,jC,enP,iO,A05,f3,f12,f14,CX hi',CU A1W hi',ATW,jM,hm,CZ i];exact⟨n-1,U,i+1,U,AC,AC,AC,AC,AC,AC⟩
  .rw[jJ U] at f3
   refine AA ?_;exact⟨AC,AC,AC⟩
 rintro F H ⟨f0,f3,rfl⟩;generalize hN:OV cs=N at *;have g0:=AQ H (yK 1 ((zN N).map fun _=>[AV.sl .nil 0 []]))
 have O0:OL H.length (H++[yK 1 ((zN N).map fun _=>[AV.sl .nil 0 []])]) H.length N (fun _=>.sl .nil 0 []) (fun _=>[]) :=
  ⟨g0,jF _,fun t _=>.inl ⟨rfl,rfl⟩,fun t u b _ _ q=>q.elim,fun t b _ q=>q.elim⟩
 have hx0:Sm.ext H (H++[yK 1 ((zN N).map fun _=>[AV.sl .nil 0 []])]):=(ext.rfl' H).app _;refine EM A0Y f0 f3 (A9Q H N hnb) ?_
 generalize H++[yK 1 ((zN N).map fun _=>[AV.sl .nil 0 []])]=H0 at O0 hx0|-
 refine BJ (fun n F H'=>∃j v X,n+j=cs.length∧F 3=.n (N:Nat)∧F 6=.own H.length 0 N∧F 25=.sl s 1 (cs.map XA)∧F 26=.n (cs.length:Nat)∧F 27=.n (j:Nat)∧OL H.length H' H.length N v X∧(∀t,t<N->X t=rowA N (cs.take j) t)∧Sm.ext H H') cs.length
  ⟨0,_,_,AZ,EE f3,AL,AL,AL,AL,O0,fun t _=>by rw[qK]; rfl,hx0⟩ ?_
 clear O0 hx0 f0 f3 g0;rintro n F H1 ⟨j,v,X,hj,f3,f6,f25,f26,f27,O,hX,hx⟩;refine A8 f26 f27 ?_;refine D8 ?_ ?_<;>intro hj'
 .have hcN:cs[j].length<=N:=by rw[<-hN]; exact X9 (jI hj')
  have hrj:=hr _ (jI hj')
  have hrt:∀t,(rowA N (cs.take j) t).length<=2*j:=fun t=>by
   have:=mL (n:=N) (t:=t) (B:=2) (cs:=cs.take j) fun c hc=>hr c (List.mem_of_mem_take hc)
   rw[jZ,Nat.min_eq_left U] at this; exact this
  have hst:∀t,rowA N (cs.take (j+1)) t=rowA N (cs.take j) t++rowC N t cs[j]:=fun t=>AM1 N t cs j hj'
  simp only[vQ,CG,↓reduceIte,jC,enP,iO,A05,f25,f27,CX hj',CU A1W hj',ATW,jM]
  generalize cs[j]=c at hcN hrj hst|-
  refine ER 4 (fun F H'=>∃v X,F 3=.n (N:Nat)∧F 6=.own H.length 0 N∧F 25=.sl s 1 (cs.map XA)∧F 26=.n (cs.length:Nat)∧F 27=.n (j:Nat)∧OL H.length H' H.length N v X∧(∀t,t<N->X t=rowA N (cs.take (j+1)) t)∧Sm.ext H H') (fun _ _=>False) ?_ ?_ (fun _ _ q=>q.elim)
  .refine BJ (fun n F H'=>∃i v X,n+i=c.length∧F 3=.n (N:Nat)∧F 6=.own H.length 0 N∧F 8=.sl .any 1 (c.map encX)∧F 25=.sl s 1 (cs.map XA)∧F 26=.n (cs.length:Nat)∧F 27=.n (j:Nat)∧F 31=.sl .any 1 (c.map encX)∧F 32=.n (c.length:Nat)∧F 33=.n (i:Nat)∧OL H.length H' H.length N v X∧(∀t,t<N->X t=rowA N (cs.take j) t++rowP N i t c)∧Sm.ext H H') c.length
    ⟨0,v,X,AZ,EE f3,EE f6,AL,EE f25,EE f26,EE f27,AL,AL,AL,O,fun t ht=>by rw[AMW,jP]; exact hX t ht,hx⟩ ?_
   clear f3 f6 f25 f26 f27 O hX hx;rintro n2 F H2 ⟨i,v,X,hi,f3,f6,f8,f25,f26,f27,f31,f32,f33,O,hX,hx⟩;refine A8 f32 f33 ?_;refine BM ?_ ?_<;>intro hd
   .have hi':i<c.length:=BG hd
    have ha:N-c.length+i<N:=U
    have hlen:(X (N-c.length+i)).length+c[i].length<=8388608:=by
     have h1:=hrt (N-c.length+i);have h2:=hrj _ (jI hi');rw[hX _ ha,jT];have h3:rowP N i (N-c.length+i) c=[]:=by unfold rowP; rw[if_neg U]
     rw[h3,zU]; omega
    obtain⟨v',H3,a1,a2,a3,O2,hx2⟩:=O.app ha hx .any c[i] hlen;have hw1:IntKind.i64.wrap (((N:Nat):Int)-((c.length:Nat):Int))=((N-c.length:Nat):Int):=by rw[wrap_i64 U U]; omega
    have hw2:IntKind.i64.wrap (((N-c.length:Nat):Int)+((i:Nat):Int))=((N-c.length+i:Nat):Int):=by rw[wrap_i64 U U]; omega
    have i1:IG 1 H2 (.own H.length 0 N) (.n ((N-c.length+i:Nat):Int))=some (.ptr H.length (N-c.length+i) 0):=by rw[GM O.gob ha,jH]
    have hrow:∀f:Nat->AV,((zN N).map fun t=>[f t])[N-c.length+i]?=some [f (N-c.length+i)]:=fun f=>by
     rw[jV,List.getElem?_range ha]; rfl
    have d1:BH jA H2 23 (.ptr H.length (N-c.length+i) 0)=some (v (N-c.length+i)):=by rw[BA LH O.gob (hrow v)]; rfl
    have i2:IG 1 H3 (.own H.length 0 N) (.n ((N-c.length+i:Nat):Int))=some (.ptr H.length (N-c.length+i) 0):=by rw[GM a2 ha,jH]
    have s1:DT jA H3 23 (.ptr H.length (N-c.length+i) 0) v'=some (H3.set H.length (yK 1 ((zN N).map fun t=>[cX v (N-c.length+i) v' t]))):=by
     rw[G5 (cs:=[v']) a3 AMH a2 (hrow v) (by exact jF 1),<-AM6 ha]; rfl
    have hX2:∀t,t<N->cX X (N-c.length+i) (X (N-c.length+i)++c[i]) t=rowA N (cs.take j) t++rowP N (i+1) t c:=fun t ht=>by
     rw[rowP_step hcN hi' ht];by_cases e:t=N-c.length+i
     .rw[if_pos e]
      simp only[cX,if_pos e];rw[hX _ ha,<-e];have h3:rowP N i t c=[]:=by unfold rowP; rw[if_neg U]
      rw[h3,jP]
     .rw[if_neg e]
      simp only[cX,if_neg e];exact hX t ht
    simp only[vQ,PD,CG,J6,PY,↓reduceIte,jC,enP,AKV,iO,jQ,f3,f6,f8,f31,f33,CX hi',CU LH hi',A6Y,jM,hw1,hw2,i1,d1,a1,i2,s1,CZ i];exact⟨n2-1,U,i+1,_,_,U,AC,AC,AC,AC,AC,AC,AC,AC,AC,O2,hX2,hx2⟩
   .have hi':i=c.length:=by have:¬i<c.length:=BG hd
                            omega
    subst hi';refine AA ?_;exact⟨v,X,AC,AC,AC,AC,AC,O,fun t ht=>by rw[hX t ht,hst,AMX ht hcN],hx⟩
  .clear f3 f6 f25 f26 f27 O hX hx
   rintro F H2 ⟨v,X,f3,f6,f25,f26,f27,O,hX,hx⟩;refine A8 f27 (CZ j) ?_;exact⟨n-1,U,j+1,v,X,U,AC,AC,AC,AC,AC,O,hX,hx⟩
 .rw[jJ U] at hX
  refine AY f6 ?_;refine⟨hx,?_⟩;rw[O.frz H rfl];congr 1;refine yA fun t ht=>?_
  rw[hX t (BG ht)]
end
def growR_ren:Go.Shelf.Ren:=⟨fun|4=>98|n=>n,fun|22=>23|25=>79|3=>3|4=>4|9=>9|20=>20|0=>0|n=>n,fun|n=>n⟩
theorem growR:Go.Proofs.Lays8.n4 jA growR_ren := {
 mixed:=A7,
 f4:=⟨Tryz.f98.name,by decide,Tryz.func98.trans (congrArg some A7)⟩,
 t0:=Tryz.underlying0,
 a0:=Tryz.isAgg0,
 z0:=Tryz.sizeOf0,
 v0:=Tryz.zeroValue0,
 t3:=Tryz.underlying3,
 a3:=Tryz.isAgg3,
 z3:=Tryz.sizeOf3,
 v3:=Tryz.zeroValue3,
 t4:=Tryz.underlying4,
 a4:=Tryz.isAgg4,
 z4:=Tryz.sizeOf4,
 v4:=Tryz.zeroValue4,
 t9:=Tryz.underlying9,
 a9:=Tryz.isAgg9,
 z9:=Tryz.sizeOf9,
 v9:=Tryz.zeroValue9,
 t20:=Tryz.underlying20,
 a20:=Tryz.isAgg20,
 z20:=Tryz.sizeOf20,
 v20:=Tryz.zeroValue20,
 t22:=Tryz.underlying23,
 a22:=Tryz.isAgg23,
 z22:=Tryz.sizeOf23,
 v22:=Tryz.zeroValue23 }
theorem zc_size (z:Array Value)(n:Nat):(Builtin.zeroCells z n).size=n*z.size:=by simp [Builtin.zeroCells]
theorem grow_prog (G:Nat->AV)(n:Nat)(hn:n<=1048576)(h:Hp):ACalls (En G) 98 [.sl .nil 0 [],.n (n:Nat)] h fun v H=>(n=0∧v=.sl .nil 0 []∧H=h)∨(0<n∧v=.own h.length 0 0∧H=h++[yK 4 []]):=by
 refine⟨cok 98 G A7,fun g w cargs S ha=>?_⟩;obtain⟨hsz,hget⟩:=ha
 obtain⟨cv0,cv1,rfl⟩:∃a b,cargs = #[a,b]:=by
  obtain⟨l⟩:=cargs
  match l,hsz with
  | [a,b],_=>exact⟨a,b,rfl⟩
 have r0:=(hget 0 _ cv0 rfl rfl).sl_inv;obtain rfl:=(hget 1 _ cv1 rfl rfl).int_inv
 have hnil:cv0=.slice none 0 0:=by
  cases r0 with
  | nil=>rfl
  | empty _ _ _ _ q=>exact absurd rfl q
  | sl _ _ _ _ _ _ _ _ _ _ _ q=>exact absurd rfl q
 subst hnil;rcases Nat.eq_zero_or_pos n with h0|h0
 .subst h0
  refine(Any8.slices_Grow_room growR none 0 0 0 w (jF _) U U (jF _)).mono ?_;rintro e w' ⟨rfl,rfl⟩;exact .inl ⟨_,_,g,h,rfl,.inl ⟨rfl,rfl,rfl⟩,Gh.le.refl g,S,.fro (.nil 0)⟩
 .have i0:Tryz.prog.info? 79=some Tryz.t79:=A7
  have hz:Tryz.t79.zero.isSome=true:=A7;obtain⟨z,hz⟩:=Option.isSome_iff_exists.1 hz;have hs:Tryz.t79.size=4:=A7;have hb:Tryz.t79.bytes<=64:=jB A7;have hmul:n*Tryz.t79.bytes<=1048576*64:=Nat.mul_le_mul hn hb
  have hzs:z.cells.size=4:=by
   have h1:(Tryz.t79.zero.map fun z=>z.cells.size)=some 4:=A7;rw[hz] at h1; simpa using h1
  have hc:=Any8.slices_Grow_grow growR Tryz.t79 z i0 hz (by rw[hs]; omega) none 0 0 n [] w (jF _) U (by rw[jH]; omega) U AZ (fun _=>rfl) (fun a q=>by cases q);refine hc.mono ?_;rintro e w' ⟨rfl,rfl⟩;generalize hG:grownCap w (0+n) 0 (growR_ren.t 25)=cap;have hle:0+n<=cap:=hG▸grownCap_ge w _ _ _;have hgr:Grew w (w.drew.alloc (.cells ((#[]:Array Value)++Builtin.zeroCells z.cells (0+n-0)++Builtin.zeroCells z.cells (cap-(0+n))) (growR_ren.t 25))) (.cells ((#[]:Array Value)++Builtin.zeroCells z.cells (0+n-0)++Builtin.zeroCells z.cells (cap-(0+n))) (growR_ren.t 25) (0,0)):=⟨rfl,rfl,rfl,rfl⟩
  have hsize:((#[]:Array Value)++Builtin.zeroCells z.cells (0+n-0)++Builtin.zeroCells z.cells (cap-(0+n))).size=cap*4:=by
   simp only[Array.size_append,zc_size,hzs,List.size_toArray,zU]; omega
  generalize ((#[]:Array Value)++Builtin.zeroCells z.cells (0+n-0)++Builtin.zeroCells z.cells (cap-(0+n)))=c at hgr hsize;obtain⟨S',hle'⟩:=S.new (k:=4) (xs:=[]) hgr ⟨AZ,fun i row h=>by simp at h,fun i j row v h=>by simp at h⟩;refine .inl ⟨_,_,_,_,rfl,.inr ⟨h0,rfl,rfl⟩,hle',S',?_⟩;exact Rep.own h.length 0 0 cap ⟨w.heap.size,0,4,c.size⟩ (by simp [Gh.adopt]) (qI _) (by simp only[hsize]; omega)
theorem A1E (l:List Ex):(TG l)[0]?=some (.sl (Cov.nm l) 4 (l.map AX)):=rfl
theorem flat_take {R:List (List Ex)}{i:Nat}(hi:i<R.length):(R.take (i+1)).flatten=(R.take i).flatten++R[i]:=by
 rw[jU hi,List.flatten_append]; simp
theorem flat_take_le (R:List (List Ex))(i:Nat):(R.take i).flatten.length<=R.flatten.length:=by
 have:R.flatten=(R.take i).flatten++(R.drop i).flatten:=by rw[<-List.flatten_append,List.take_append_drop]
 rw[this,jT]; omega
def outK (h:Hp)(ys:List Ex)(v:AV)(H:Hp):Prop:=(v=.sl .nil 0 []∧ys=[])∨∃o,h.length<=o∧v=.own o 0 ys.length∧H[o]?=some (yK 4 (ys.map AX))
theorem outK_app {xs ys:List Ex}{v:AV}(s:SM)(ho:outK h xs v H)(he:ext h H)(hl:xs.length+ys.length<=8388608):
  ∃v' H',EP jA true H 23 23 v (.sl s 4 (ys.map AX))=some (v',H')∧outK h (xs++ys) v' H'∧ext h H'∧(v=.sl .nil 0 []->ys=[]->v'=.sl .nil 0 []):=by
 cases ys with
 | nil =>
   refine⟨v,H,?_,by rw[jP]; exact ho,he,fun q _=>q⟩;have hcs:IV H (.sl s 4 [])=some (4,[]):=F9 H s 4 [];rcases ho with⟨rfl,rfl⟩|⟨o,h2,rfl,h3⟩
   .simp [EP,V7,JB,SS,hcs,bump]
   .have hc:IV H (.own o 0 xs.length)=some (4,xs.map AX):=by rw[JQ h3 AZ,zT,jJ AZ]
    simp [EP,V7,JB,SS,hc,hcs,bump]
 | cons y ys =>
   have h1:(y::ys).map AX≠[]:=AZ;rcases ho with⟨rfl,rfl⟩|⟨o,h2,rfl,h3⟩
   .exact⟨_,_,QT V7 JB eQ eE (F9 H s 4 ((y::ys).map AX)) h1 (GV (by simp at hl|-; omega) U),.inr ⟨H.length,he.le,AZ,AZ⟩,he.app _,fun _ q=>by cases q⟩
   .have hc:IV H (.own o 0 xs.length)=some (4,xs.map AX):=by rw[JQ h3 AZ,zT,jJ AZ]
    exact⟨_,_,P5 V7 JB eQ eE hc (F9 H s 4 ((y::ys).map AX)) h1 (GV (by simp at hl|-; omega) U),.inr ⟨H.length,he.le,AZ,AZ⟩,(he.set h2 _).app _,fun q=>by cases q⟩
section
variable (G:Nat->AV)
theorem concat_prog (R:List (List Ex))(s:SM)(hR:R.length<=1048576)(hl:R.flatten.length<=1048576)(h:Hp):PCall (En G) 45 [.sl s 1 (R.map TG)] h (.sl (Cov.nm R.flatten) 4 (R.flatten.map AX)):=by
 refine KD frzEx ?_;refine acT Tryz.func45 2 ?_;refine AA ?_;refine ER 0 (fun F H'=>F 0=.sl s 1 (R.map TG)∧F 3=.n (R.flatten.length:Nat)∧H'=h) (fun _ _=>False) ?_ ?_ (fun _ _ q=>q.elim)
 .refine BJ (fun n F H'=>∃i,n+i=R.length∧F 0=.sl s 1 (R.map TG)∧F 3=.n ((R.take i).flatten.length:Nat)∧F 9=.sl s 1 (R.map TG)∧F 10=.n (R.length:Nat)∧F 11=.n (i:Nat)∧H'=h) R.length
   ⟨0,AZ,AL,AL,AL,AL,AL,rfl⟩ ?_
  rintro n F H ⟨i,hi,f0,f3,f9,f10,f11,rfl⟩;refine A8 f10 f11 ?_;refine D8 ?_ ?_<;>intro hi'
  .have hfl:=flat_take hi'
   have hle:=flat_take_le R (i+1);rw[hfl,jT] at hle;have hw:IntKind.i64.wrap ((((R.take i).flatten.length:Nat):Int)+((R[i].length:Nat):Int))=(((R.take (i+1)).flatten.length:Nat):Int):=by rw[hfl,jT,wrap_i64 U U]; omega
   refine TW f3 f9 f11 hi' @A1E hw @ltz_false (CZ i) ?_;exact⟨n-1,U,i+1,U,AC,AC,AC,AC,AC,AC⟩
  .rw[jJ U] at f3
   refine AA ?_;exact⟨AC,AC,AC⟩
 rintro F H ⟨f0,f3,rfl⟩;refine AY f3 ?_;refine(grow_prog G R.flatten.length hl H).mono ?_;intro v0 H0 hg
 have I0:outK H [] v0 H0∧Sm.ext H H0∧(R.flatten.length=0->v0=.sl .nil 0 []):=by
  rcases hg with⟨h0,rfl,rfl⟩|⟨h0,rfl,rfl⟩
  .exact⟨.inl ⟨rfl,rfl⟩,ext.rfl' _,fun _=>rfl⟩
  .exact⟨.inr ⟨H.length,jF _,rfl,AQ _ _⟩,(ext.rfl' H).app _,fun q=>U⟩
 refine AY f0 ?_
 refine BJ (fun n F H'=>∃i v,n+i=R.length∧F 6=v∧F 25=.sl s 1 (R.map TG)∧F 26=.n (R.length:Nat)∧F 27=.n (i:Nat)∧outK H (R.take i).flatten v H'∧Sm.ext H H'∧(R.flatten.length=0->v=.sl .nil 0 [])) R.length
  ⟨0,v0,AZ,AL,AL,AL,AL,by rw[qK]; exact I0.1,I0.2.1,I0.2.2⟩ ?_
 clear I0 hg f0 f3;rintro n F H' ⟨i,v,hi,f6,f25,f26,f27,ho,hx,hz⟩;refine A8 f26 f27 ?_;refine D8 ?_ ?_<;>intro hi'
 .have hfl:=flat_take hi'
  have hle:=flat_take_le R (i+1);rw[hfl,jT] at hle;obtain⟨v',H2,ha,ho2,hx2,hn2⟩:=outK_app (Cov.nm R[i]) ho hx (ys:=R[i]) U;rw[<-hfl] at ho2;refine NW f6 f25 f27 hi' @A1E ha (CZ i) ?_;exact⟨n-1,U,i+1,v',U,AC,AC,AC,AC,ho2,hx2,fun q=>hn2 (hz q) (yH.1 U)⟩
 .rw[jJ U] at ho
  refine AY f6 ?_;refine⟨hx,?_⟩;rcases ho with⟨h1,h2⟩|⟨o,h1,h2,h3⟩
  .exact .inl ⟨h2,h1⟩
  .refine .inr ⟨fun q=>?_,o,h1,h2,h3⟩
   have:=hz (by rw[q]; rfl);rw[this] at h2; cases h2
end
theorem AA3 (op n:Int)(name:ByteArray)(m:SM)(args:List Ex):wt (.mk op n name m args)=name.size+1+wts args:=MN _
theorem nsz:(⟨#[]⟩:ByteArray).size=0:=rfl
theorem APW (n:Int):wt (cE n)=1:=by unfold cE; rw[AA3,nsz]; rfl
theorem AJC:∀l:List Rng,wts (cEs l)=2*l.length
 | []=>rfl
 | a::l=>by
   rw[TP];simp only[wts,APW,AJC l,zO]; omega
theorem AJF (e:Ex)(l:List Rng):wt (JA e l)=1+wt e+2*l.length:=by
 rw[UK,AA3,nsz];unfold insL;simp only[wts,AJC]; omega
theorem A11 (a b:Ex):wt (orE a b)=1+wt a+wt b:=by
 unfold orE;rw[AA3,nsz]; simp only[wts]; omega
theorem AJE (a:Ex):wt (notE a)=1+wt a:=by
 unfold notE;rw[AA3,nsz]; simp only[wts]; omega
theorem Q3 (L:List Rng)(k:Nat):(part L k).length<=16:=by unfold part; rw[jZ]; omega
theorem AJD (e:Ex)(L:List Rng):∀k,wt (NH e L k)<=(k+1)*(wt e+34)
 | 0=>by
   have:=Q3 L 0;show wt (JA e (part L 0))<=_;rw[AJF]; omega
 | k+1=>by
   have:=Q3 L (k+1);have ih:=AJD e L k;show wt (orE (NH e L k) (JA e (part L (k+1))))<=_;rw[A11,AJF,Nat.add_mul (k+1) 1]; omega
theorem lQ:∀l:List Ex,(∀e∈l,wt (cpE e)=wt e)->wts (l.map cpE)=wts l
 | [],_=>rfl
 | e::l,h=>by
   simp only[jK,wts];rw[h e AZ,lQ l fun e he=>h e (by simp [he])]
theorem A12 (e:Ex):wt (cpE e)=wt e:=by
 induction e using Ex.induct with|h e ih=>?_
 rw[bQ,AA3,lQ _ ih,MN e]
theorem mem_pres {x:Ex}:∀ {xs:List Ex},x∈FD xs↔∃a∈xs,x∈pre a
 | []=>by simp [FD]
 | a::xs=>by simp [FD,mem_pres (xs:=xs)]
def NmB (N:Nat)(e:Ex):Prop:=∀x∈pre e,x.name.size<=N
theorem NmB.mk {N:Nat}{op n:Int}{name:ByteArray}{m:SM}{args:List Ex}(h:name.size<=N)(ha:∀a∈args,NmB N a):NmB N (.mk op n name m args):=fun x hx=>by
 rw[pre_eq] at hx;rcases zQ.1 hx with rfl|hx
 .exact h
 .obtain⟨a,h1,h2⟩:=mem_pres.1 hx
  exact ha a h1 x h2
theorem bZ (N:Nat)(n:Int):NmB N (cE n):=NmB.mk (qI _) fun a h=>by cases h
theorem AF7 (h:NmB N e)(l:List Rng):NmB N (JA e l):=by
 rw[UK];refine NmB.mk (qI _) fun a ha=>?_
 rcases zQ.1 ha with rfl|ha
 .exact h
 .unfold cEs at ha
  obtain⟨r,_,hr⟩:=List.mem_flatMap.1 ha;rcases zQ.1 hr with rfl|hr
  .exact bZ N _
  .rw[qP.1 hr]; exact bZ N _
theorem AZ9 {a b:Ex}(h1:NmB N a)(h2:NmB N b):NmB N (orE a b):=NmB.mk (qI _) fun x hx=>by
 rcases zQ.1 hx with rfl|hx
 .exact h1
 .rw[qP.1 hx]; exact h2
theorem AVI {a:Ex}(h1:NmB N a):NmB N (notE a):=NmB.mk (qI _) fun x hx=>by rw[qP.1 hx]; exact h1
theorem AF6 {N:Nat}{e:Ex}(h:NmB N e)(L:List Rng):∀k,NmB N (NH e L k)
 | 0=>AF7 h _
 | k+1=>AZ9 (AF6 h L k) (AF7 h _)
theorem AL8 (e:Ex)(h:NmB N e):NmB N (cpE e):=by
 induction e using Ex.induct with|h e ih=>?_
 rw[bQ];refine NmB.mk (h e (by rw[pre_eq]; simp)) fun a ha=>?_
 obtain⟨b,hb,rfl⟩:=zH.1 ha;exact ih b hb fun x hx=>h x (by rw[pre_eq]; exact List.mem_cons_of_mem _ (mem_pres.2 ⟨b,hb,hx⟩))
theorem AL5 {l:List Rng}(h:wt e<=1048576)(hl:l.length<=4096):WN (D7 e l)∧wt (D7 e l)<=269000000:=by
 have hn:NmB 1048576 e:=(AVD h).2;have hnl:=nA l;have hp:parts (normal l)<=256:=by rw[parts_eq]; omega
 unfold D7;rcases Classical.em (normal l=[]) with q|q
 .have:SC e (normal l)=cE 0:=by unfold SC; rw[if_pos q]
  rw[this];exact⟨⟨by rw[APW]; omega,bZ _ _⟩,by rw[APW]; omega⟩
 .rw[YA e _ q]
  have h1:=AJD (cpE e) (normal l) (parts (normal l)-1);rw[A12] at h1;have h2:(parts (normal l)-1+1)*(wt e+34)<=256*(1048576+34):=Nat.mul_le_mul U U;exact⟨⟨U,AF6 (AL8 e hn) _ _⟩,U⟩
theorem AZ5 (h:WN e∧wt e<=269000000):WN (notE e)∧wt (notE e)<=269000001:=⟨⟨by rw[AJE]; omega,AVI h.1.2⟩,by rw[AJE]; omega⟩
theorem AO4 {P:Ex->Prop}{ins:Ex->List Rng->Ex}(h1:∀s∈FP b,P (ins p.ex s.l))(h2:J9 p.bins≠[]->P (notE (ins p.ex (J9 p.bins)))):∀r∈TN ins p b,r.length<=2∧∀e∈r,P e:=by
 have base:∀r∈(FP b).map (fun s=>[ins p.ex s.l]),r.length=1∧∀e∈r,P e:=fun r hr=>by
  obtain⟨s,hs,rfl⟩:=zH.1 hr;exact⟨rfl,fun e he=>by rw[qP.1 he]; exact h1 s hs⟩
 intro r hr;unfold TN badO at hr;by_cases q:J9 p.bins=[]
 .rw[if_pos q] at hr
  obtain⟨a,b⟩:=base r hr;exact⟨U,b⟩
 .rw[if_neg q] at hr
  rcases List.mem_or_eq_of_mem_set (show r∈List.set _ _ _ from hr) with hr|rfl
  .obtain⟨a,b⟩:=base r hr
   exact⟨U,b⟩
  .cases hx:((FP b).map fun s=>[ins p.ex s.l])[((FP b).map fun s=>[ins p.ex s.l]).length-1]? with
   | none =>
     refine⟨AZ,fun e he=>?_⟩;have:e=notE (ins p.ex (J9 p.bins)):=BG he;rw[this]; exact h2 q
   | some r0 =>
     obtain⟨a,b⟩:=base r0 (zZ hx);refine⟨by simp [a],fun e he=>?_⟩;rcases zI.1 he with he|he
     .exact b e he
     .rw[qP.1 he]; exact h2 q
theorem AE3 (ins:Ex->List Rng->Ex)(p:Pt)(b:Bin):(TN ins p b).length=(FP b).length:=by unfold TN; rw[AC9,jM]
def kU (m:Mo)(x:Hl):List Int:=if x.cross=true then (match AEY m x.idx with|some c=>c.pts|none=>[]) else [x.idx]
structure Prt (m:Mo) (x:Hl) (L:List (Nat×Nat)):Prop where
 pts:kU m x=L.map fun q=>(q.1:Int)
 bins:x.bins=L.map fun q=>(q.2:Int)
 ok:∀q∈L,∃h:q.1<m.pts.length,q.2<m.pts[q.1].bins.length
 n1:1<=L.length
 n4:L.length<=4
def cdQ (ins:Ex->List Rng->Ex)(m:Mo)(q:Nat×Nat):List (List Ex):=match m.pts[q.1]? with
 | some p=>(match p.bins[q.2]? with|some b=>TN ins p b|none=>[])
 | none=>[]
theorem AAJ (ins:Ex->List Rng->Ex){m:Mo}{q:Nat×Nat}(h:q.1<m.pts.length)(h2:q.2<m.pts[q.1].bins.length):cdQ ins m q=TN ins m.pts[q.1] m.pts[q.1].bins[q.2]:=by
 unfold cdQ;rw[jG h];show(match m.pts[q.1].bins[q.2]? with|some b=>TN ins m.pts[q.1] b|none=>[])=_;rw[jG h2]
def A64 (ins:Ex->List Rng->Ex)(m:Mo)(L:List (Nat×Nat)):List (List Ex):=JX (L.map (cdQ ins m))
end Go.Proofs.YtiihpnicbekebaaGreatDoor.Ho
namespace Go.Proofs.YtiihpnicbekebaaGreatDoor.Bd.Cl
open Sm Bins Cov Xe Wd Bl Ho Go.RowKit
variable {n:Int} {H:Hp}
theorem ACX (L:List Rng)(k n:Nat)(h:n=min 16 (L.length-16*k)):(L.drop (16*k)).take n=Ho.part L k:=by
 unfold Ho.part;rw[List.take_eq_take_iff,yB]; omega
theorem RD (n:Nat)(H:Hp)(d:Nat)(e:Ex):EZ n H (d+3) (.agg (AX e))=.agg (AX e):=by rw[FB]; rfl
section
variable (G:Nat->AV)
theorem AGK (nm:ByteArray)(L:List Rng)(s:SM)(hl:L.length<=1048576)(h:Hp):PCall (En G) 180 [.str nm,.sl s 2 (L.map encR)] h (.agg (AX (rB nm L))):=by
 refine ACalls.pure (R:=fun v H=>v=.agg (AX (rB nm L))∧Sm.ext h H) 3 ?_ (fun v H ⟨a,b⟩=>⟨b,by rw[a]; exact RD _ _ 0 _⟩);refine acL Tryz.func180 [.cell 4 79] ?_;have g4:=AQ h (yK 4 [ET]);have hx:=Sm.ext.r1 h (yK 4 [ET]);have hb4:h.length<(h++[yK 4 [ET]]).length:=AZ;refine AY RJ ?_;rw[show([AV.int .i64 0,.n 0,.str ⟨#[]⟩,.sl .nil 0 []]:List AV)=ET from rfl]
 generalize h++[yK 4 [ET]]=H0 at g4 hx hb4|-
 refine BM ?_ ?_<;>intro hz
 .have hz:L=[]:=List.eq_nil_of_length_eq_zero (BG hz)
  refine AA ?_;refine(X4 G 0 _).use ?_;simp only[vQ,LC,CG,↓reduceIte,jC,enP,jQ,QW g4 rfl];rw[JH (b:=h.length) AL (PI (CP g4))];exact⟨by rw[hz]; rfl,hx.set (jF _) _⟩
 have hne:L≠[]:=by intro e; rw[e] at hz; simp at hz
 have hpos:0<L.length:=qZ.2 hne;have e1:min (16:Int) ((L.length:Nat):Int)=((min 16 L.length:Nat):Int):=U
 have hs1:∀H:Hp,IA jA H 84 (.sl s 2 (L.map encR)) none (some (.n ((min 16 L.length:Nat):Int))) none=some (.sl (AO0 s (min 16 L.length) L.length) 2 ((Ho.part L 0).map encR)):=fun H=>by
  have:=AJR aO LZ (h:=H) (m:=s) (kk:=.i64) (xs:=L.map encR) (u:=min 16 L.length) KH;rw[<-List.map_take,jM] at this;have e:=ACX L 0 (min 16 L.length) U;rw[Nat.mul_zero,zT] at e;rw[<-e];exact this
 have hs2:∀H:Hp,IA jA H 84 (.sl s 2 (L.map encR)) (some (.n ((min 16 L.length:Nat):Int))) none none=some (.sl s 2 ((L.drop (16*1)).map encR)):=fun H=>by
  rw[lC aO LZ KH,<-List.map_drop]
  have:L.drop (min 16 L.length)=L.drop (16*1):=by
   by_cases q:L.length<=16
   .rw[zM U,zM U]
   .rw[show min 16 L.length=16*1 by omega]
  rw[this]
 refine A8 e1 hs1 ?_;refine(iQ G nm (Ho.part L 0) _ (by have:=Q3 L 0; omega) _).use ?_;have gc:=AQ H0 (yK 4 [AX (JA (JF nm) (Ho.part L 0))]);have st0:=rD H0 (JA (JF nm) (Ho.part L 0)) ET rfl;refine AY RJ ?_;rw[show([AV.int .i64 0,.n 0,.str ⟨#[]⟩,.sl .nil 0 []]:List AV)=ET from rfl];refine A8 st0 hs2 ?_;have g4:=AB (x:=yK 4 [AX (JA (JF nm) (Ho.part L 0))]) g4;have hx:=hx.app [yK 4 [AX (JA (JF nm) (Ho.part L 0))]]
 generalize H0++[yK 4 [AX (JA (JF nm) (Ho.part L 0))]]=H1 at gc g4 hx|-
 generalize H0.length=cb at gc hb4|-
 have hsum:JA (JF nm) (Ho.part L 0)=NH (JF nm) L 0:=rfl;rw[hsum] at gc;refine ER 0 (fun F H=>F 4=.ptr h.length 0 0∧F 6=.ptr cb 0 0∧H[h.length]?=some (yK 4 [ET])∧H[cb]?=some (yK 4 [AX (rB nm L)])∧Sm.ext h H) (fun _ _=>False) ?_ ?_ (fun _ _ q=>q.elim)
 .refine BJ (fun n F H=>∃k,n=L.length-16*(k+1)∧16*k<L.length∧F 0=.str nm∧F 1=.sl s 2 ((L.drop (16*(k+1))).map encR)∧F 4=.ptr h.length 0 0∧F 6=.ptr cb 0 0∧H[h.length]?=some (yK 4 [ET])∧H[cb]?=some (yK 4 [AX (NH (JF nm) L k)])∧Sm.ext h H) (L.length-16)
   ⟨0,U,U,AL,AL,AL,AL,g4,gc,hx⟩ ?_
  clear g4 gc hx;rintro n F H ⟨k,rfl,hk,f0,f1,f4,f6,g4,gc,hx⟩;have ec:decide ((((L.drop (16*(k+1))).length:Nat):Int)>0)=decide (16*(k+1)<L.length):=by rw[decide_eq_decide,yB]; omega
  refine A8 f1 ec ?_;refine BM ?_ ?_<;>intro hc
  .have hk':16*(k+1)<L.length:=BG hc
   have e2:min (16:Int) (((L.drop (16*(k+1))).length:Nat):Int)=((min 16 (L.length-16*(k+1)):Nat):Int):=by rw[yB]; omega
   have hs3:∀H:Hp,IA jA H 84 (.sl s 2 ((L.drop (16*(k+1))).map encR)) none (some (.n ((min 16 (L.length-16*(k+1)):Nat):Int))) none=some (.sl (AO0 s (min 16 (L.length-16*(k+1))) (L.drop (16*(k+1))).length) 2 ((Ho.part L (k+1)).map encR)):=fun H=>by
    have:=AJR aO LZ (h:=H) (m:=s) (kk:=.i64) (xs:=(L.drop (16*(k+1))).map encR) (u:=min 16 (L.length-16*(k+1))) KH;rw[<-List.map_take,jM,ACX L (k+1) _ rfl] at this;exact this
   have hs4:∀H:Hp,IA jA H 84 (.sl s 2 ((L.drop (16*(k+1))).map encR)) (some (.n ((min 16 (L.length-16*(k+1)):Nat):Int))) none none=some (.sl s 2 ((L.drop (16*(k+1+1))).map encR)):=fun H=>by
    rw[lC aO LZ KH,<-List.map_drop,List.drop_drop]
    have:L.drop (16*(k+1)+min 16 (L.length-16*(k+1)))=L.drop (16*(k+1+1)):=by
     by_cases q:L.length<=16*(k+1+1)
     .rw[zM U,zM U]
     .rw[show 16*(k+1)+min 16 (L.length-16*(k+1))=16*(k+1+1) by omega]
    rw[this]
   have st3:DT jA H 79 (.ptr cb 0 0) (.agg [.n 20,.n 0,.str ⟨#[]⟩,.sl .full 4 [AX (NH (JF nm) L k),AX (JA (JF nm) (Ho.part L (k+1)))]])=some (H.set cb (yK 4 [AX (NH (JF nm) L (k+1))])):=by
    have:=QW (e:=orE (NH (JF nm) L k) (JA (JF nm) (Ho.part L (k+1)))) gc (EC _);rw[AKA] at this;exact this
   have hcl:=Z gc;refine A8 f1 e2 ?_;refine DZ A7 ?_;refine NY @cI f0 f1 f6 (PI gc) hs3 ?_;refine⟨_,iQ G nm (Ho.part L (k+1)) _ (by have:=Q3 L (k+1); omega) _,?_⟩
   try refine NY @gR @A1P st3 f6 f1 hs4 ?_
   exact⟨_,U,k+1,rfl,hk',AC,AC,AC,AC,CY g4 U,CP gc,hx.set U _⟩
  .have hk':¬16*(k+1)<L.length:=BG hc
   have he:rB nm L=NH (JF nm) L k:=by
    unfold rB;rw[if_neg hne,show parts L-1=k by unfold parts; omega]
   refine AA ?_;exact⟨AC,AC,g4,by rw[he]; exact gc,hx⟩
 .rintro F H ⟨f4,f6,g4,gc,hx⟩
  simp only[vQ,YN,CG,↓reduceIte,jC,enP,jQ,f4,f6,PI gc,QW g4 rfl];rw[JH (b:=h.length) (EE f4) (PI (CP g4))];exact⟨rfl,hx.set (jF _) _⟩
theorem AUQ (a b:Int):IY jA 145 [(0,.n a),(1,.n b)]=some (.agg (encR ⟨a,b⟩)):=A7
theorem A32 (h:Hp)(r:Rng):C9 jA false h 84 1 [(0,.agg (encR r))]=some (.sl .full 2 [encR r],h):=A7
theorem A6K:Frz encR:=fun _ _ _ _=>⟨rfl,rfl⟩
theorem sT (l:List Int):(RU l).length<=l.length:=by
 have:∀(l:List Int) (o:List Rng),(l.foldl ZV o).length<=o.length+l.length:=fun l=>by
  induction l with
  | nil=>intro o; simp
  | cons a l ih =>
    intro o;have h1:=ih (ZV o a)
    have h2:(ZV o a).length<=o.length+1:=by
     unfold ZV
     cases hg:o.getLast? with
     | none=>simp
     | some r =>
       have hp:0<o.length:=by cases o<;>simp at hg|-
       simp only;split<;>simp<;>omega
    rw[List.foldl_cons,List.length_cons]; omega
 have:=this l [];simpa [RU] using this
theorem AU6 (n:Int):ZV [] n=[⟨n,n⟩]:=rfl
theorem AZ2 {R:List Rng}(hne:R≠[])(h:(R[R.length-1]'(by have:=qZ.2 hne; omega)).hi=n-1):ZV R n=R.set (R.length-1) ⟨(R[R.length-1]'(by have:=qZ.2 hne; omega)).lo,n⟩:=by
 have hp:=qZ.2 hne;have e:R.getLast?=some R[R.length-1]:=by rw[List.getLast?_eq_getElem?,jG]
 unfold ZV;rw[e];simp only;rw[if_pos h];apply List.ext_getElem?;intro j;rw[List.getElem?_set,List.dropLast_eq_take,List.getElem?_append,jZ,Nat.min_eq_left U];by_cases q:R.length-1=j
 .subst q
  rw[if_neg U,if_pos rfl,if_pos U,Nat.sub_self]; rfl
 .rw[if_neg q]
  by_cases q2:j<R.length-1
  .rw[if_pos q2,List.getElem?_take,if_pos q2]
  .rw[if_neg q2,zY KH,zY U]
theorem AU7 {R:List Rng}(hne:R≠[])(h:¬(R[R.length-1]'(by have:=qZ.2 hne; omega)).hi=n-1):ZV R n=R++[⟨n,n⟩]:=by
 have hp:=qZ.2 hne;have e:R.getLast?=some R[R.length-1]:=by rw[List.getLast?_eq_getElem?,jG]
 unfold ZV;rw[e];simp only;rw[if_neg h]
theorem ACG (l:List Int)(v:AV)(h0 h:Hp)(hv:outG 1 Bins.qencI h0 l v h)(hl:l.length<=1048576)(hr:∀z∈l,-1048576<=z∧z<=1048576):PCall (En G) 181 [v] h (.sl (Cov.nm (RU l)) 2 ((RU l).map encR)):=by
 refine KD A6K ?_;refine acT Tryz.func181 2 ?_;rcases hv with⟨rfl,rfl⟩|⟨hne,o,_,rfl,ho⟩
 .refine YT ?_
  refine BJ (fun n F H=>F 3=.sl .nil 0 []∧F 8=.n 0∧F 9=.n 0∧H=h) 0 ⟨AL,AL,AL,rfl⟩ ?_;rintro n F H ⟨f3,f8,f9,rfl⟩;refine EM f8 f9 (show decide ((0:Int)<0)=false by decide) f3 ?_;exact⟨ext.rfl' _,.inl ⟨rfl,rfl⟩⟩
 have ho:isI h o l:=ho;refine AA ?_
 refine BJ (fun n F H=>∃i u,n+i=l.length∧F 3=u∧F 7=.own o 0 l.length∧F 8=.n (l.length:Nat)∧F 9=.n (i:Nat)∧Sm.ext h H∧outG 2 encR h (RU (l.take i)) u H) l.length
  ⟨0,.sl .nil 0 [],AZ,AL,AL,AL,AL,ext.rfl' _,outG.nil _ _ _ _⟩ ?_
 rintro n F H ⟨i,u,hi,f3,f7,f8,f9,hx,hq⟩;refine A8 f8 f9 ?_;refine D8 ?_ ?_<;>intro hi'
 .have hoH:isI H o l:=DV hx ho
  have ld:BH jA H 3 (.ptr o i 0)=some (.n l[i]):=by rw[hoH.ld hi',List.getD_eq_getElem?_getD,jG hi']; rfl
  obtain⟨r0,r1⟩:=hr _ (jI hi');have hsn:RU (l.take (i+1))=ZV (RU (l.take i)) l[i]:=by rw[jU hi',mM]
  have hRl:=sT (l.take i);rw[jZ] at hRl
  have app:∀ {R:List Rng},RU (l.take i)=R->∃v' H',EP jA true H 84 84 u (.sl .full 2 [encR ⟨l[i],l[i]⟩])=some (v',H')∧outG 2 encR h (R++[⟨l[i],l[i]⟩]) v' H'∧Sm.ext h H':=fun {R} hR=>by
   subst hR;obtain⟨v',H',a1,a2,_,a3,_,_⟩:=hq.append (P:=jA) aO LZ APQ AUB U U hx ⟨l[i],l[i]⟩;exact⟨v',H',a1,a2,a3⟩
  generalize RU (l.take i)=R at hq hsn hRl app;have fin:∀ {v':AV} {H':Hp} (hq':outG 2 encR h (RU (l.take (i+1))) v' H') (hx':Sm.ext h H') (n:Nat),n+i=l.length->∃m,m<n∧∃i' u,m+i'=l.length∧v'=u∧(.own o 0 l.length:AV)=.own o 0 l.length∧Sm.ext h H'∧outG 2 encR h (RU (l.take i')) u H':=fun hq' hx' n hn=>⟨n-1,U,i+1,_,U,rfl,rfl,hx',hq'⟩
  rcases hq with⟨rfl,rfl⟩|⟨hR,ob,hob,rfl,hb⟩
  .obtain⟨v',H',a1,a2,a3⟩:=app rfl
   rw[AU6] at hsn;rw[List.nil_append,<-hsn] at a2;simp only[vQ,JM,PD,EI,eP,CG,FV,NZ,F7,J6,PY,ML,↓reduceIte,jC,enP,LY,xI,f3,f7,f9,hoH.ix hi',ld,List.length_nil,show IntKind.i64.wrap (((0:Nat):Int)-1) = -1 by decide,show decide ((-1:Int)≥0)=false by decide,AUQ,A32,a1,CZ i];exact⟨n-1,U,i+1,v',U,AC,AC,AC,AC,a3,a2⟩
  .have hp:=qZ.2 hR
   have hk:R.length-1<R.length:=U;have zk:IntKind.i64.wrap (((R.length:Nat):Int)-1)=((R.length-1:Nat):Int):=by rw[wrap_i64 U U]; omega
   have zn:IntKind.i64.wrap (l[i]-1)=l[i]-1:=wrap_i64 U U;have ixo:IG 2 H (.own ob 0 R.length) (.n ((R.length-1:Nat):Int))=some (.ptr ob (R.length-1) 0):=by rw[GM hb hk,jH]
   have lh:BH jA H 3 (.ptr ob (R.length-1) 1)=some (.n R[R.length-1].hi):=by rw[BA ag3 hb (Cov.row_map hk)]; rfl
   refine cB f3 f7 f9 @hoH.ix hi' ld zk @ADY ixo lh zn ?_;refine BM ?_ ?_<;>intro hd
   .have hd:R[R.length-1].hi=l[i]-1:=BG hd
    have st:DT jA H 3 (.ptr ob (R.length-1) 1) (.n l[i])=some (H.set ob (yK 2 ((R.set (R.length-1) ⟨R[R.length-1].lo,l[i]⟩).map encR))):=by
     rw[G5 (cs:=[.n l[i]]) rfl sz3 hb (Cov.row_map hk) (by simp [encR]),List.map_set]; rfl
    refine JG f3 ixo st f9 (CZ i) ?_;refine⟨n-1,U,i+1,_,U,AC,AC,AC,AC,hx.set hob _,?_⟩;rw[hsn,AZ2 hR hd];exact .inr ⟨fun e=>by have:=congrArg List.length e; simp at this; exact hR this,ob,hob,by rw[List.length_set],CP hb⟩
   .have hd:¬R[R.length-1].hi=l[i]-1:=BG hd
    obtain⟨v',H',a1,a2,a3⟩:=app rfl;rw[AU7 hR hd] at hsn;rw[<-hsn] at a2;refine NY f3 AUQ A32 a1 f9 (CZ i) ?_;exact⟨n-1,U,i+1,v',U,AC,AC,AC,AC,a3,a2⟩
 .rw[jJ U] at hq
  refine AY f3 ?_;exact⟨hx,hq⟩
theorem A6R (n:Int)(w:Wg)(c:Nat)(h:Hp)(hc:h[c]?=some (yK 1 [[.n n]])):PCall (En G) 179 ([.agg (I9 w)]++[.ptr c 0 0]) h (.bool (ZO n w)):=by
 refine ACalls.pure0 rfl ?_;refine acT Tryz.func179 3 ?_;have hc':(h++[yK 4 [I9 w]])[c]?=_:=AB hc;have l0:BH jA (h++[yK 4 [I9 w]]) 3 (.ptr h.length 0 0)=some (.n w.lo):=by rw[BA ag3 (AQ _ _) (row:=I9 w) rfl]; rfl
 have l1:BH jA (h++[yK 4 [I9 w]]) 3 (.ptr h.length 0 1)=some (.n w.hi):=by rw[BA ag3 (AQ _ _) (row:=I9 w) rfl]; rfl
 have l2:BH jA (h++[yK 4 [I9 w]]) 3 (.ptr c 0 0)=some (.n n):=GG ag3 hc';refine EM @A7F l0 l1 l2 ?_;cases b1:decide (w.lo<=n)
 .refine DL b1 l1 l2 ?_
  exact⟨by unfold ZO; rw[b1]; rfl,_,rfl⟩
 .refine DL b1 l1 l2 ?_
  exact⟨by unfold ZO; rw[b1]; rfl,_,rfl⟩
end
theorem al3 (h:Hp):GU jA h 3=some (.ptr h.length 0 0,h++[yK 1 [[.n 0]]]):=FI (row:=[.n 0]) A7
theorem A9C (h:Hp)(n:Int):DT jA (h++[yK 1 [[.n 0]]]) 3 (.ptr h.length 0 0) (.n n)=some (h++[yK 1 [[.n n]]]):=by
 rw[IU (cs:=[.n n]) (row:=[.n 0]) rfl sz3 (AQ _ _) (jF 1),JZ]; rfl
theorem bsI (h:Hp)(n:Int):C9 jA false h 32 1 [(0,.n n)]=some (.sl .full 1 [Bins.qencI n],h):=A7
theorem AJ6 (ws:List Wg):∀k,∀z∈TZ ws k,0<=z∧z<(k:Int)
 | 0,z,h=>by cases h
 | k+1,z,h=>by
   rcases List.mem_append.1 h with h|h
   .have:=AJ6 ws k z h; omega
   .split at h
    .have e:z=(k:Int):=BG h
     rw[e]; omega
    .cases h
theorem AQ4 {ws:List Wg}:(N9 (ZO n) ws<0->RP n ws=false)∧(0<=N9 (ZO n) ws->∃k,∃hk:k<ws.length,N9 (ZO n) ws=(k:Nat)∧RP n ws=decide (ws[k].w>0)):=by
 constructor
 .intro h
  exact AJ4 (fP _ _ h)
 .intro h
  obtain⟨k,hk,e,h1,h2⟩:=VH _ _ h;exact⟨k,hk,e,AJ5 hk h2 h1⟩
theorem A21 {b:Nat}{d:Ds}(hb:H[b]?=some (yK 2 [IB d])):BH jA H 140 (.ptr b 0 0)=some (.agg (IB d)):=by
 rw[EF AL0 iJ hb rfl (by rw[RG]; exact jF 2),zT,jJ (by rw[RG]; exact jF 2)]
section
variable (G:Nat->AV)
theorem vR (p:Pr)(hs:PrS p)(P:PV p)(d:Ds)(hr:PM p.vars d.var=true)(hwl:d.ws.length<=1048576)(h:Hp):PCall (En G) 99 [.agg (CW p),.agg (IB d)] h (.agg (AX (ABH p d))):=by
 obtain⟨k,hk,hdk,hm⟩:=YZ hr;obtain⟨_,w1,w8,_⟩:=SN (P.vr _ (jI hk));obtain⟨w,hw⟩:=Int.eq_ofNat_of_zero_le (U:0<=p.vars[k].width)
 have hsup:ABH p d=rB p.vars[k].name (runs d.ws (2^w)):=by
  unfold ABH;rw[hdk,qG,jG hk];simp only;rw[hw,qG]
 have hW:(2:Nat)^w<=256:=by
  have:w<=8:=U
  calc (2:Nat)^w<=2^8:=Nat.pow_le_pow_right DF this
   _=256:=rfl
 have e2:(2:Int)^w=((2^w:Nat):Int):=by rw[Int.natCast_pow]; rfl
 rw[hsup];refine ACalls.pure (R:=fun v H=>v=.agg (AX (rB p.vars[k].name (runs d.ws (2^w))))∧Sm.ext h H) 3 ?_ (fun v H ⟨a,b⟩=>⟨b,by rw[a]; exact RD _ _ 0 _⟩);refine acL Tryz.func99 [.cell 4 79] ?_;have gp:=AB (x:=yK 4 [ET]) (AB (x:=yK 2 [IB d]) (AQ h (yK 5 [CW p])));have gd:=AB (x:=yK 4 [ET]) (AQ (h++[yK 5 [CW p]]) (yK 2 [IB d]));have g4:=AQ (h++[yK 5 [CW p]]++[yK 2 [IB d]]) (yK 4 [ET]);have hx:Sm.ext h (h++[yK 5 [CW p]]++[yK 2 [IB d]]++[yK 4 [ET]]):=(((ext.rfl' h).app _).app _).app _;have e4:(h++[yK 5 [CW p]]++[yK 2 [IB d]]).length=h.length+2:=AZ;have e3:(h++[yK 5 [CW p]]).length=h.length+1:=AZ;refine DL @QA @bxD RJ ?_;rw[show([AV.int .i64 0,.n 0,.str ⟨#[]⟩,.sl .nil 0 []]:List AV)=ET from rfl]
 rw[e4] at g4|-
 rw[e3] at gd|-
 generalize h++[yK 5 [CW p]]++[yK 2 [IB d]]++[yK 4 [ET]]=H0 at gp gd g4 hx|-
 have ldv:BH jA H0 3 (.ptr (h.length+1) 0 0)=some (.n (k:Nat)):=by rw[BA ag3 gd (row:=IB d) rfl]; show some (AV.int .i64 d.var)=_; rw[hdk]
 have gp:=AB (x:=yK 4 [encV p.vars[k]]) gp;have gd:=AB (x:=yK 4 [encV p.vars[k]]) gd;have gv:=AQ H0 (yK 4 [encV p.vars[k]]);have hl4:=Z g4;simp only[vQ,CG,WV,↓reduceIte,jC,Nat.add_zero,enP,bE,UN,yW,jQ,rN (show H0[h.length]?=some (yK 5 [CW p]) by rw[<-List.getElem?_append_left (l₂:=[yK 4 [encV p.vars[k]]]) U]; exact gp),ldv,CX hk,Bd.ldV hk,Bd.al61,Bd.st61];have g4:=AB (x:=yK 4 [encV p.vars[k]]) g4;have hx:=hx.app [yK 4 [encV p.vars[k]]];have hxv:Sm.ext H0 (H0++[yK 4 [encV p.vars[k]]]):=(ext.rfl' _).app _
 generalize H0++[yK 4 [encV p.vars[k]]]=H1 at gp gd g4 gv hx hxv|-
 generalize H0.length=vb at gv hl4|-
 clear ldv e3 e4;have lw:BH jA H1 3 (.ptr vb 0 1)=some (.n (w:Nat)):=by rw[BA ag3 gv rfl]; show some (AV.int .i64 p.vars[k].width)=_; rw[hw]
 have hvb:=Z gv;refine A8 lw (A5C w (by omega)) ?_;refine ER 0 (fun F H=>∃u,F 4=.ptr (h.length+2) 0 0∧F 5=.ptr vb 0 0∧F 6=u∧Sm.ext H1 H∧outG 1 Bins.qencI H1 (TZ d.ws (2^w)) u H) (fun _ _=>False) ?_ ?_ (fun _ _ q=>q.elim)
 .refine BJ (fun n F H=>∃i u,n+i=2^w∧F 3=.ptr (h.length+1) 0 0∧F 4=.ptr (h.length+2) 0 0∧F 5=.ptr vb 0 0∧F 6=u∧F 17=.n ((2^w:Nat):Int)∧F 18=.n (i:Nat)∧Sm.ext H1 H∧outG 1 Bins.qencI H1 (TZ d.ws i) u H) (2^w)
   ⟨0,.sl .nil 0 [],AZ,AL,AL,AL,AL,by refine AA ?_; rw[e2],AL,ext.rfl' _,outG.nil _ _ _ _⟩ ?_
  rintro n F H ⟨i,u,hi,f3,f4,f5,f6,f17,f18,hxH,ho⟩;refine A8 f17 f18 ?_;refine D8 ?_ ?_<;>intro hi'
  .have gi:=AQ H (yK 1 [[.n (i:Nat)]])
   have hxH:=hxH.app [yK 1 [[.n (i:Nat)]]];have ho:=ho.app [yK 1 [[.n (i:Nat)]]];refine DL f18 al3 @A9C ?_
   generalize H++[yK 1 [[.n (i:Nat)]]]=H2 at gi hxH ho|-
   generalize H.length=ib at gi|-
   have gd2:=DV hxH gd;have lws:BH jA H2 120 (.ptr (h.length+1) 0 1)=some (.sl d.wm 4 (d.ws.map I9)):=by rw[BA AL2 gd2 rfl]; rfl
   have li:BH jA H2 3 (.ptr ib 0 0)=some (.n (i:Nat)):=by rw[BA ag3 gi rfl]; rfl
   refine A8 f3 lws ?_;refine(ADP G d.ws d.wm 179 [.ptr ib 0 0] (ZO (i:Nat)) H2 U fun x _=>A6R G (i:Nat) x ib H2 gi).use ?_;have fin:∀(u':AV) (H':Hp),Sm.ext H1 H'->outG 1 Bins.qencI H1 (TZ d.ws (i+1)) u' H'->Sm.ext H1 H'∧outG 1 Bins.qencI H1 (TZ d.ws (i+1)) u' H':=fun _ _ a b=>⟨a,b⟩
   have hl:=mV d.ws i;obtain⟨c1,c2⟩:=AQ4 (n:=(i:Nat)) (ws:=d.ws);cases b1:decide (N9 (ZO ((i:Nat):Int)) d.ws≥0)
   .have hp:=c1 (by have:=of_decide_eq_false b1; omega)
    have hps:TZ d.ws (i+1)=TZ d.ws i:=by simp only[TZ]; rw[if_neg (by rw[hp]; decide),jP]
    rw[<-hps] at ho;refine DL b1 f18 (CZ i) ?_;exact⟨n-1,U,i+1,u,U,AC,AC,AC,AC,AC,AC,hxH,ho⟩
   .obtain⟨j,hj,ej,hp⟩:=c2 (by have:=of_decide_eq_true b1; omega)
    rw[ej] at b1|-
    have lw2:BH jA H2 3 (.fptr 4 (d.ws.map I9) j 2)=some (.n d.ws[j].w):=by rw[CU ag3 hj]; rfl
    refine NW ASH @dU b1 f3 lws hj lw2 ?_;refine BM ?_ ?_<;>intro hq
    .have hps:TZ d.ws (i+1)=TZ d.ws i++[((i:Nat):Int)]:=by simp only[TZ]; rw[if_pos (by rw[hp]; exact hq)]
     obtain⟨v',H',a1,a2,_,a3,_,_⟩:=ho.append (P:=jA) VD sz3 cH ZU U U hxH ((i:Nat):Int);rw[<-hps] at a2;refine NY f6 li @bsI a1 f18 (CZ i) ?_;exact⟨n-1,U,i+1,v',U,AC,AC,AC,AC,AC,AC,a3,a2⟩
    .have hps:TZ d.ws (i+1)=TZ d.ws i:=by simp only[TZ]; rw[if_neg (by rw[hp,hq]; decide),jP]
     rw[<-hps] at ho;refine A8 f18 (CZ i) ?_;exact⟨n-1,U,i+1,u,U,AC,AC,AC,AC,AC,AC,hxH,ho⟩
  .have ei:i=2^w:=U
   rw[ei] at ho;refine AA ?_;exact⟨u,AC,AC,AC,hxH,ho⟩
 .rintro F H ⟨u,f4,f5,f6,hxH,ho⟩
  have gv2:=DV hxH gv;have g42:=DV hxH g4;have ln:BH jA H 9 (.ptr vb 0 0)=some (.str p.vars[k].name):=by rw[BA ag9 gv2 rfl]; rfl
  have hpl:=mV d.ws (2^w);have hpi:=AJ6 d.ws (2^w);refine AA ?_;refine DZ A7 ?_;refine DL f5 f6 ln ?_;refine⟨_,ACG G (TZ d.ws (2^w)) u H1 _ ho U (fun z hz=>by have:=hpi z hz; omega),_,AGK G p.vars[k].name (runs d.ws (2^w)) _ (by have:=sT (TZ d.ws (2^w)); show(RU (TZ d.ws (2^w))).length<=_; omega) _,?_⟩;simp only[vQ,QR,f4,QW g42 rfl];rw[JH (b:=h.length+2) (EE f4) (PI (CP g42))];exact⟨rfl,(hx.trans hxH).set U _⟩
def kO (h:Hp)(ys:List Ex)(v:AV)(H:Hp):Prop:=∃o tail,h.length<=o∧v=.own o 0 ys.length∧H[o]?=some (yK 4 (ys.map AX++tail))
theorem AC2 {h:Hp}{xs:List Ex}{v:AV}(ho:kO h xs v H)(he:Sm.ext h H)(hl:xs.length+1<=8388608)(y:Ex):
  ∃v' H',EP jA true H 23 23 v (.sl .full 4 [AX y])=some (v',H')∧kO h (xs++[y]) v' H'∧Sm.ext h H'∧(∀b x,H[b]?=some x->¬isB v b->H'[b]?=some x)∧∀b,isB v' b->b=H.length:=by
 obtain⟨o,tail,h2,rfl,h3⟩:=ho;have hc:IV H (.own o 0 xs.length)=some (4,xs.map AX):=by rw[JQ h3 AZ,zT,List.take_append_of_le_length AZ,jJ AZ]
 refine⟨_,_,P5 V7 JB eQ eE hc (F9 H .full 4 [AX y]) AZ (GV KH U),⟨H.length,[],he.le,AZ,AZ⟩,(he.set h2 _).app _,fun b x hb hn=>?_,fun b hb=>hb.symm⟩;exact AB (by rw[List.getElem?_set_ne (fun e=>hn e)]; exact hb)
theorem AC1 {h:Hp}{ys:List Ex}{v:AV}(ho:kO h ys v H)(d:Nat):EZ h.length H (d+2) v=.sl .any 4 (ys.map AX):=by
 obtain⟨o,tail,h2,rfl,h3⟩:=ho;have e:((ys.map AX++tail).drop 0).take ys.length=ys.map AX:=by rw[zT,List.take_append_of_le_length AZ,jJ AZ]
 rw[Cov.frzF_own _ _ (d+1) o 0 ys.length 4 _ U h3,e,frz_rows Ho.frzEx _ _ d _,if_pos];refine⟨AZ,?_⟩;rw[List.all_eq_true];intro row hr;obtain⟨x,_,rfl⟩:=List.mem_map.1 hr;exact VN x
theorem A5S (h:Hp)(n:Nat)(hn:n<=1048576):GR jA true h 23 (.n 0) (.n (n:Int))=some (.own h.length 0 0,h++[yK 4 (jR n ET)]):=by
 have hz:MC jA 79=some ET:=A7;have hr:room n 56:=GV U U;unfold GR;simp only[V7,JB,eE,hz];rw[if_pos ⟨U,U,by rw[qG]; exact hr,rfl⟩];simp
theorem ALM {p:Pr}(hv:IJ p=0):∀d∈p.dists,PM p.vars d.var=true∧d.ws.length<=16:=by
 have h3:ND p.vars p.dists=0:=by
  unfold IJ at hv;by_cases h1:KE p.vars≠0
  .rw[if_pos h1] at hv; exact absurd hv h1
  rw[if_neg h1] at hv;by_cases h2:J5 p.vars (p.hard++p.soft)≠0
  .rw[if_pos h2] at hv; exact absurd hv h2
  rw[if_neg h2] at hv;by_cases h3:ND p.vars p.dists≠0
  .rw[if_pos h3] at hv; exact absurd hv h3
  simpa using h3
 intro d hd;obtain⟨i,hi,rfl⟩:=List.getElem_of_mem hd;unfold ND at h3;have h4:=Bd.fstE_zero h3 i (BG hi);rw[oQ hi] at h4;unfold dsE at h4
 cases hr:PM p.vars p.dists[i].var with
 | false=>rw[if_neg (by rw[hr]; decide)] at h4; exact absurd h4 DF
 | true =>
   rw[if_pos hr] at h4;refine⟨rfl,?_⟩;split at h4
   .exact absurd h4 DF
   .split at h4
    .exact absurd h4 DF
    .omega
theorem eM (hG:GOk G)(p:Pr)(hs:PrS p)(hv:IJ p=0)(h:Hp):PCall (En G) 46 [.agg (CW p)] h (.sl .any 4 ((V8 p).map AX)):=by
 have P:=PV.of hv;refine ACalls.pure (R:=fun v H=>kO h (V8 p) v H∧Sm.ext h H) 2 ?_ (fun v H ⟨a,b⟩=>⟨b,AC1 a 0⟩);refine acT Tryz.func46 2 ?_;have gp:=AQ h (yK 5 [CW p]);have hx:=Sm.ext.r1 h (yK 5 [CW p]);have hdl:=hs.dists;refine AY @QA ?_
 generalize h++[yK 5 [CW p]]=H0 at gp hx|-
 have ldP:∀ {H:Hp},H[h.length]?=some (yK 5 [CW p])->BH jA H 27 (.ptr h.length 0 0)=some (.agg (CW p)):=fun q=>by rw[EF pQ kH q (row:=CW p) rfl (by rw[OE]; exact jF 5)]; rfl
 have ldD:∀ {H:Hp},H[h.length]?=some (yK 5 [CW p])->BH jA H 24 (.ptr h.length 0 3)=some (.sl p.dm 2 (p.dists.map IB)):=fun q=>by rw[BA AU5 q (row:=CW p) rfl]; rfl
 refine AY (ldP gp) ?_;refine(Bd.valid_prog G hG p hs H0).use ?_;refine DL (show(IJ p != 0)=false by rw[hv]; rfl) (ldD gp) (A5S H0 p.dists.length hdl) ?_;have hpl0:=Z gp;have ho:kO h ((V8 p).take 0) (.own H0.length 0 0) (H0++[yK 4 (jR p.dists.length ET)]):=⟨H0.length,jR p.dists.length ET,hx.le,rfl,AZ⟩;have gp:=AB (x:=yK 4 (jR p.dists.length ET)) gp;have hx:=hx.app [yK 4 (jR p.dists.length ET)];have hb0:∀b,isB (.own H0.length 0 0) b->b≠h.length:=fun b hb=>by cases hb; omega
 generalize H0++[yK 4 (jR p.dists.length ET)]=H1 at gp hx ho|-
 refine AY (ldD gp) ?_;generalize AV.own H0.length 0 0=v0 at ho hb0;have hsl:(V8 p).length=p.dists.length:=by unfold V8; rw[jM]
 refine BJ (fun n F H=>∃i v,n+i=p.dists.length∧F 1=.ptr h.length 0 0∧F 3=v∧F 14=.sl p.dm 2 (p.dists.map IB)∧F 15=.n (p.dists.length:Nat)∧F 16=.n (i:Nat)∧H[h.length]?=some (yK 5 [CW p])∧Sm.ext h H∧kO h ((V8 p).take i) v H∧∀b,isB v b->b≠h.length) p.dists.length
  ⟨0,v0,AZ,AL,AL,AL,AL,AL,gp,hx,ho,hb0⟩ ?_
 clear gp hx ho hb0;rintro n F H ⟨i,v,hi,f1,f3,f14,f15,f16,gp,hx,ho,hb0⟩;refine A8 f15 f16 ?_;refine D8 ?_ ?_<;>intro hi'
 .obtain⟨d1,d2⟩:=ALM hv _ (jI hi')
  have lt:=Z gp;have gp:=AB (x:=yK 2 [IB p.dists[i]]) gp;have hx:=hx.app [yK 2 [IB p.dists[i]]];have gd:=AQ H (yK 2 [IB p.dists[i]])
  have ho:kO h ((V8 p).take i) v (H++[yK 2 [IB p.dists[i]]]):=by
   obtain⟨o,tail,q1,q2,q3⟩:=ho;exact⟨o,tail,q1,q2,AB q3⟩
  have ald:GU jA H 140=some (.ptr H.length 0 0,H++[yK 2 [[.n 0,.sl .nil 0 []]]]):=FI (row:=[.n 0,.sl .nil 0 []]) A7
  have std:DT jA (H++[yK 2 [[.n 0,.sl .nil 0 []]]]) 140 (.ptr H.length 0 0) (.agg (IB p.dists[i]))=some (H++[yK 2 [IB p.dists[i]]]):=by
   rw[IU (cs:=IB p.dists[i]) (row:=[.n 0,.sl .nil 0 []]) rfl (by rw[RG]; exact iJ) (AQ _ _) (by rw[RG]; exact jF 2),JZ]; rfl
  simp only[vQ,CG,↓reduceIte,jC,enP,AN1,jQ,f14,f16,CX hi',DC AL0 iJ RG hi',ald,std]
  generalize H++[yK 2 [IB p.dists[i]]]=H2 at gp hx gd ho|-
  refine EM f1 f3 (ldP gp) (A21 gd) ?_;refine(vR G p hs P p.dists[i] d1 U H2).use ?_;obtain⟨v',H',a1,a2,a3,a4,a5⟩:=AC2 ho hx (by rw[jZ]; omega) (ABH p p.dists[i]);have hit:i<(V8 p).length:=U;have hget:(V8 p)[i]=ABH p p.dists[i]:=by simp [V8]
  rw[<-hget,<-jU hit] at a2;refine EM @uO a1 f16 (CZ i) ?_;refine⟨n-1,U,i+1,v',U,AC,AC,AC,AC,AC,a4 _ _ gp (fun q=>hb0 _ q rfl),a3,a2,fun b hb=>by have:=a5 b hb; have:=Z gp; have:=Z gd; omega⟩
 .rw[jJ U] at ho
  refine AY f3 ?_;exact⟨ho,hx⟩
end
end Go.Proofs.YtiihpnicbekebaaGreatDoor.Bd.Cl
namespace Go.Proofs.YtiihpnicbekebaaGreatDoor.Bd.Cl
open Sm Bins Cov Xe Wd Bl Go.RowKit
variable {H h:Hp} {u v:AV} {a b c:List Int} {i:Nat} {e:Ex} {p:Pr}
theorem A9N (o off len:Nat):IQ jA 32 .eql (.own o off len) (.sl .nil 0 [])=some (.bool false):=A7
def cpO (h H:Hp)(xs:List Int)(v:AV):Prop:=(xs=[]∧v=.sl .full 1 [])∨(xs≠[]∧∃o,h.length<=o∧v=.own o 0 xs.length∧isI H o xs)
theorem cpO.app {xs:List Int}(q:cpO h H xs v)(x:ABlk):cpO h (H++[x]) xs v:=q.imp id fun⟨a,o,b,c,d⟩=>⟨a,o,b,c,AB d⟩
theorem cpO.keep {h H H':Hp}{B:List Nat}{xs:List Int}{v:AV}(q:cpO h H xs v)(k:KB B H H')(hB:∀b∈B,b<h.length):cpO h H' xs v :=
 q.imp id fun⟨a,o,b,c,d⟩=>⟨a,o,b,c,k.keep _ _ d fun hm=>by have:=hB _ hm; omega⟩
section
variable (G:Nat->AV)
theorem AIF {o:Nat}{xs:List Int}(ho:isI h o xs)(hm:xs.length<=1048576):ACalls (En G) 189 [.own o 0 xs.length] h fun v H=>ext h H∧cpO h H xs v:=by
 by_cases hz:xs.length=0
 .have e:xs=[]:=qX hz
  subst e;refine acT Tryz.func189 2 ?_
  have ap:EP jA true h 32 32 (.sl .full 1 []) (.own o 0 0)=some (.sl .full 1 [],h):=by
   unfold EP;have hs:SS jA h 1 32 (.own o 0 0)=some []:=by unfold SS; simp only[VD,JQ ho (AZ:0+0<=(([]:List Int).map Bins.qencI).length)]; rfl
   simp only[VD,sz3,F9,hs];rfl
  refine MB A9N @AIN ap ?_;exact⟨ext.rfl' _,.inl ⟨rfl,rfl⟩⟩
 .refine(uN G ho (U:0+xs.length=xs.length) U hm).mono ?_
  rintro v H ⟨rfl,rfl⟩;exact⟨(ext.rfl' h).app _,.inr ⟨fun e=>hz (by rw[e]; rfl),h.length,jF _,rfl,by rw[List.drop_zero]; exact AQ _ _⟩⟩
theorem AVN (hG:GOk G)(l:List Sg)(v:AV)(h0 h:Hp)(hv:outG 2 FN h0 l v h)(e:Ex)(hl:l.length<=1048576)(hw:wt e<=1048576):PCall (En G) 143 [.agg (AX e),v] h (evV (evE l e)):=by
 rcases hv with⟨rfl,rfl⟩|⟨hne,o,ho,rfl,hb⟩
 .exact ACalls.args (ZL G hG [] .nil e h AZ hw) (CvRL.cons (CvR.refl _) (CvRL.cons (CvR.sl (Cv.nil 0 2)) CvRL.nil))
 .refine PCall.thaw (args':=[.agg (AX e),.sl .any 2 (l.map FN)]) (ZL G hG l .any e _ U hw) rfl (fun i v' hi=>?_) rfl
  match i,hi with
  | 0,hi=>exact⟨_,rfl,by cases hi; exact .same _⟩
  | 1,hi =>
    refine⟨_,rfl,?_⟩;cases hi;refine .own o 2 l.length (l.map FN) hb (by rw[List.length_map]) fun row hr u hu=>?_
    obtain⟨s,_,rfl⟩:=List.mem_map.1 hr;simp only[FN,List.mem_cons,List.not_mem_nil,or_false] at hu;rcases hu with rfl|rfl<;>exact⟨rfl,rfl⟩
  | i+2,hi=>cases hi
theorem ATN {vars:List Vr}(z:Int)(h1:i<vars.length)(h2:i<a.length):(F8 vars a).set i (vars[i].name,z)=F8 vars (a.set i z):=by
 apply List.ext_getElem?;intro j;have hel:∀ {b:List Int},j<(F8 vars b).length↔j<vars.length∧j<b.length:=fun {b}=>by unfold F8; simp; omega
 by_cases hj:j<vars.length∧j<a.length
 .have hj1:j<(F8 vars (a.set i z)).length:=hel.2 ⟨hj.1,by rw[wB]; exact hj.2⟩
  rw[List.getElem?_set,jG hj1,ZF hj.1 (by rw[wB]; exact hj.2) hj1,List.getElem_set];by_cases e:i=j
  .subst e
   rw[if_pos rfl,if_pos (hel.2 hj),if_pos rfl]
  .rw[if_neg e,if_neg e,jG (hel.2 hj),ZF hj.1 hj.2 (hel.2 hj)]
 .rw[zY (by rw[wB]; have:=(hel (b:=a)).1; omega),zY (by have:=(hel (b:=a.set i z)).1; rw[wB] at this; omega)]
def kP (c b:List Int)(i:Nat):List Int:=c.take i++b.drop i
theorem ARU (h:c.length=b.length)(i:Nat):(kP c b i).length=b.length:=by unfold kP; simp; omega
theorem ART (h:c.length=b.length)(hi:i<c.length):(kP c b i).set i (c.getD i 0)=kP c b (i+1):=by
 unfold kP;rw[List.set_append_right _ _ (by rw[jZ]; omega),jZ,Nat.min_eq_left U,Nat.sub_self,List.drop_eq_getElem_cons (U:i<b.length),List.set_cons_zero,jU hi,List.append_assoc];rw[List.getD_eq_getElem?_getD,jG hi]; rfl
theorem VK:∀(vars:List Vr) (a:List Int),a.length=vars.length->∀n:ByteArray,(LG (F8 vars a) n).2=decide (0<=plc vars n)
 | [],[],_,n=>rfl
 | [],_::_,hl,_=>by simp at hl
 | _::_,[],hl,_=>by simp at hl
 | v::vs,z::a,hl,n=>by
   have e:LG (F8 (v::vs) (z::a)) n=if(v.name.toList==n.toList)=true then (wW z,true) else LG (F8 vs a) n:=rfl
   have ep:plc (v::vs) n=if(v.name.toList==n.toList)=true then 0 else if plc vs n<0 then -1 else plc vs n+1:=rfl
   rw[e,ep];by_cases q:(v.name.toList==n.toList)=true
   .rw[if_pos q,if_pos q]; rfl
   .rw[if_neg q,if_neg q,VK vs a (BG hl) n,decide_eq_decide]
    split<;>omega
theorem APU {l:List Vr}(h:xpE l e=0):exE e=0∧pL e=false∧kV l e=false:=by
 unfold xpE at h;by_cases he:exE e≠0
 .rw[if_pos he] at h; exact absurd h he
 rw[if_neg he] at h;unfold plE at h;refine⟨BG he,?_,?_⟩
 .cases q:pL e
  .rfl
  .rw[if_pos q] at h; exact absurd h DF
 .cases q:kV l e
  .rfl
  .rw[if_pos q] at h; split at h<;>exact absurd h DF
theorem A58 (h:xpE p.vars e=0)(hl:a.length=p.vars.length):(pre e).all (knE (F8 p.vars a))=true:=by
 obtain⟨_,h2,h3⟩:=APU h;rw[zL];intro x hx
 have a2:OW x=false:=by
  cases q:OW x
  .rfl
  .unfold pL at h2; rw[qM] at h2; exact absurd q (h2 x hx)
 have a3:PG p.vars x=false:=by
  cases q:PG p.vars x
  .rfl
  .unfold kV at h3; rw[qM] at h3; exact absurd q (h3 x hx)
 unfold knE;by_cases e2:x.op=2
 .rw[if_pos e2,VK p.vars a hl,decide_eq_true_eq]
  unfold PG at a3;simp [e2] at a3;exact a3
 .rw[if_neg e2]
  unfold OW at a2;rw[if_neg];intro q;rcases q with q|q<;>simp [q] at a2
theorem A1D (h:xpE p.vars e=0)(hl:a.length=p.vars.length):evE (F8 p.vars a) e=(FQ (F8 p.vars a) e,0):=by
 unfold evE; rw[if_neg (by simpa using (APU h).1),if_pos (A58 h hl)]
def Dh (h:Hp)(p:Pr)(c b:List Int)(u v:AV)(H:Hp):Prop :=
 (p.vars.length=0∧u=.sl .full 1 []∧v=.sl .nil 0 [])∨(p.vars.length≠0∧∃eb o,h.length<=eb∧eb<o∧v=.own eb 0 p.vars.length∧u=.own o 0 p.vars.length∧H[eb]?=some (yK 2 ((F8 p.vars b).map FN))∧isI H o c)
theorem Dh.kb {H':Hp}(d:Dh h p c b u v H){B:List Nat}(k:KB B H H')(hB:∀x∈B,x<h.length):Dh h p c b u v H' :=
 d.imp id fun⟨a,eb,o,q1,q2,q3,q4,q5,q6⟩=>⟨a,eb,o,q1,q2,q3,q4,k.keep _ _ q5 fun hm=>by have:=hB _ hm; omega,k.keep _ _ q6 fun hm=>by have:=hB _ hm; omega⟩
theorem Dh.env (d:Dh h p c b u v H)(hb:b.length=p.vars.length):outG 2 FN h (F8 p.vars b) v H:=by
 have hel:=Q8 hb;rcases d with⟨z,_,rfl⟩|⟨z,eb,o,q1,q2,rfl,q4,q5,q6⟩
 .exact .inl ⟨qX U,rfl⟩
 .exact .inr ⟨fun e=>z (by rw[<-hel,e]; rfl),eb,q1,by rw[hel],q5⟩
theorem Dh.cpy (d:Dh h p c b u v H)(hc:c.length=p.vars.length):cpO h H c u:=by
 rcases d with⟨z,rfl,_⟩|⟨z,eb,o,q1,q2,_,rfl,q5,q6⟩
 .exact .inl ⟨qX U,rfl⟩
 .exact .inr ⟨fun e=>z (by rw[<-hc,e]; rfl),o,U,by rw[hc],q6⟩
theorem A88 {b:Nat}{l:List Sg}(hb:H[b]?=some (yK 2 (l.map FN)))(hi:i<l.length)(z:Int):DT jA H 3 (.ptr b i 1) (.n z)=some (H.set b (yK 2 ((l.set i (l[i].1,z)).map FN))):=by
 rw[G5 (cs:=[.n z]) rfl sz3 hb (Cov.row_map hi) (by simp [FN]),List.map_set]; rfl
theorem hit_prog (hG:GOk G)(p:Pr)(hs:PrS p)(P:PV p)(lm:SM)(l:List Ex)(hl:l.length<=1048576)(hw:∀e∈l,wt e<=1048576)(hk:∀e∈l,xpE p.vars e=0)(st:Int)(a:List Int)(ok:AOk p a)(fb ab:Nat)(hne:fb≠ab)(h:Hp)(hst:(lft p a:Int)<=st)(hst2:st<=262144)
  (hf:isF h fb p lm l ab p.vars.length false st) (hb:isI h ab a):ACalls (En G) 183 [.ptr fb 0 0] h fun v H=>KB [fb,ab] h H∧match kI p l (lft p a) a with
  | some b=>∃u,v=.tup [u,.bool true]∧cpO h H b u
  | none=>v=.tup [.sl .nil 0 [],.bool false]∧∃st',isF H fb p lm l ab p.vars.length true st':=by
 generalize hR:kI p l (lft p a) a=R;have hvl:=hs.vars;have hal:=ok.len;have hfl:=Z hf;have hbl:=Z hb;have hB:∀x∈[fb,ab],x<h.length:=fun x hx=>by simp at hx; omega
 refine acL Tryz.func183 [.tmp 2,.tmp 3] ?_;refine A8 @uP @ZK ?_;refine APC (.ones [0,1,2,3,4,5,6,7] (.alt 8 (.ones [9] .done) .non)) A7 ?_;simp only[DN,NR,List.getElem?_cons_succ,List.getElem?_cons_zero];refine EM @yU @WQ @hf.pr @hf.as ?_;have hE:=A0C G p hs a ab hal h hb;rw[hal] at hE;refine⟨ACalls.mono hE ?_,trivial⟩;rintro v0 H1 ⟨hx1,ho1⟩;have k1:KB [fb,ab] h H1:=⟨hx1.le,fun i y q _=>DV hx1 q⟩;have hf1:isF H1 fb p lm l ab p.vars.length false st:=DV hx1 hf;have hb1:isI H1 ab a:=DV hx1 hb;refine DL @A54 @A55 @ZK ?_;refine ER 0 (fun F H=>KB [fb,ab] h H∧R=none∧∃st',isF H fb p lm l ab p.vars.length true st') (fun F H=>KB [fb,ab] h H∧∃b,R=some b∧F 3=.bool true∧cpO h H b (F 2)) ?_ ?_ ?_
 .refine BJ (fun n F H=>∃ov c b st,F 0=.ptr fb 0 0∧KB [fb,ab] h H∧b.length=p.vars.length∧outG 2 FN h (F8 p.vars b) (F 4) H∧isF H fb p lm l ab p.vars.length ov st∧c.length=p.vars.length∧isI H ab c∧(ov=true->R=none)∧(ov=false->n=lft p c∧AOk p c∧kI p l (lft p c) c=R∧(lft p c:Int)<=st∧st<=262144)) (lft p a)
   ⟨false,a,a,st,AL,k1,hal,by refine AA ?_; exact ho1,hf1,hal,hb1,(fun q=>by cases q),fun _=>⟨rfl,ok,hR,hst,hst2⟩⟩ ?_
  clear hf hb hf1 hb1 k1 ho1 hx1 hst hst2;rintro n F H ⟨ov,c,b,st,f0,k1,hbn,ho,hf,hcn,hb,hov,hno⟩
  cases ov with
  | true =>
    refine DL @lH f0 @hf.ovd ?_;exact⟨k1,hov rfl,st,hf⟩
  | false =>
    obtain⟨rfl,okc,hS,hs1,hs2⟩:=hno rfl;have hpos:=AXY okc;have z1:IntKind.i64.wrap (st-1)=st-1:=wrap_i64 U U;have b1:decide (st>0)=true:=by rw[decide_eq_true_eq]; omega
    have k2:=k1.set (b:=fb) AZ (yK 9 [fdr p lm l ab p.vars.length false (st-1)]);have hf2:isF (H.set fb (yK 9 [fdr p lm l ab p.vars.length false (st-1)])) fb p lm l ab p.vars.length false (st-1):=CP hf;have hb2:isI (H.set fb (yK 9 [fdr p lm l ab p.vars.length false (st-1)])) ab c:=by unfold isI; rw[jY hne]; exact hb
    have ho2:outG 2 FN h (F8 p.vars b) (F 4) (H.set fb (yK 9 [fdr p lm l ab p.vars.length false (st-1)])):=ho.setB hfl _;refine YS @WQ @lH @AYU f0 @hf.ovd @hf.std b1 z1 @hf.setSt ?_
    generalize H.set fb (yK 9 [fdr p lm l ab p.vars.length false (st-1)])=H2 at k2 hf2 hb2 ho2|-
    refine A8 f0 @hf2.as ?_;have hC:=AIF G hb2 U;rw[hcn] at hC;refine hC.mono ?_;rintro u H3 ⟨hx3,hc3⟩;have k3:KB [fb,ab] h H3:=k2.trans ⟨hx3.le,fun i y q _=>DV hx3 q⟩;have hf3:isF H3 fb p lm l ab p.vars.length false (st-1):=DV hx3 hf2;have hb3:isI H3 ab c:=DV hx3 hb2;have ho3:=Ho.outG_ext ho2 hx3
    have hd3:Dh h p c (kP c b 0) u (F 4) H3:=by
     have e0:kP c b 0=b:=by simp [kP]
     rw[e0];have hel:=Q8 hbn;rcases hc3 with⟨z,rfl⟩|⟨z,o,q1,rfl,q2⟩
     .have hz:p.vars.length=0:=by rw[<-hcn,z]; rfl
      rcases ho3 with⟨_,w⟩|⟨w,_⟩
      .exact .inl ⟨hz,rfl,w⟩
      .exact absurd (qX U) w
     .have hz:p.vars.length≠0:=fun q=>z (qX U)
      rcases ho2 with⟨w,_⟩|⟨w,eb,p1,p2,p3⟩
      .exact absurd (by rw[<-hel,w]; rfl) hz
      .exact .inr ⟨hz,eb,o,p1,by have:=Z p3; omega,by rw[p2,hel],by rw[hcn],DV hx3 p3,q2⟩
    have hlen:JR jA 32 u=some (.n (p.vars.length:Nat)):=by
     rcases hd3 with⟨z,rfl,z3⟩|⟨z,eb,o,q1,q2,q3,rfl,q5,q6⟩
     .simp only[dH,z]; rfl
     .simp only[dH]
    refine AY @hlen ?_;refine ER 2 (fun F' H'=>F' 0=.ptr fb 0 0∧F' 4=F 4∧F' 5=u∧KB [fb,ab] h H'∧isF H' fb p lm l ab p.vars.length false (st-1)∧isI H' ab c∧Dh h p c c u (F 4) H') (fun _ _=>False) ?_ ?_ (fun _ _ q=>q.elim)
    .refine BJ (fun n F' H'=>∃i,n+i=p.vars.length∧F' 0=.ptr fb 0 0∧F' 4=F 4∧F' 5=u∧F' 45=u∧F' 46=.n (p.vars.length:Nat)∧F' 47=.n (i:Nat)∧KB [fb,ab] h H'∧isF H' fb p lm l ab p.vars.length false (st-1)∧isI H' ab c∧Dh h p c (kP c b i) u (F 4) H') p.vars.length
      ⟨0,AZ,EE f0,AL,AL,AL,AL,AL,k3,hf3,hb3,hd3⟩ ?_
     clear k3 hf3 hb3 hd3;rintro n F2 H' ⟨i,hi,f0,f4,f5,f45,f46,f47,k3,hf3,hb3,hd3⟩;refine A8 f46 f47 ?_;refine D8 ?_ ?_<;>intro hi'
     .have hic:i<c.length:=U
      rcases hd3 with⟨z,_⟩|⟨z,eb,o,q1,q2,q3,q4,q5,q6⟩
      .omega
      have hml:=ARU (c:=c) (b:=b) U i;have hie:i<(F8 p.vars (kP c b i)).length:=by rw[Q8 U]; exact hi'
      have ss:=A88 q5 hie (c.getD i 0);rw[ZF hi' U hie,ATN _ hi' U,ART U hic] at ss;have ixe:IG 2 H' (.own eb 0 p.vars.length) (.n (i:Nat))=some (.ptr eb i 0):=by rw[GM q5 hi',jH]
      rw[q4] at f45;rw[q3] at f4;simp only[vQ,PD,CG,↓reduceIte,jC,enP,LY,A06,ALF,jQ,f0,f4,f45,f47,q6.ix hi',q6.ld hic,ixe,ss,CZ i];refine⟨n-1,U,i+1,U,AC,by first|exact True.intro|(rw[q3]; exact f4)|exact q3.symm,AC,by first|exact True.intro|(rw[q4]; exact f45)|exact q4.symm,AC,AC,⟨by rw[wB]; exact k3.len,fun k y q hm=>?_⟩,?_,?_,.inr ⟨z,eb,o,q1,q2,q3,q4,CP q5,?_⟩⟩
      .rw[jY (by have:=Z q; omega)]; exact k3.keep k y q hm
      .unfold isF; rw[jY U]; exact hf3
      .unfold isI; rw[jY U]; exact hb3
      .unfold isI; rw[jY U]; exact q6
     .have e1:kP c b i=c:=by unfold kP; rw[jJ U,List.drop_eq_nil_of_le U,List.append_nil]
      rw[e1] at hd3;refine AA ?_;exact⟨AC,AC,AC,k3,hf3,hb3,hd3⟩
    clear k3 hf3 hb3 hd3 ho3 hc3 hx3 ho2 hb2 hf2 k2 ho hf hb hov hno k1;rintro F2 H' ⟨f0,f4,f5,k3,hf3,hb3,hd3⟩;have hA:=AAR G p hs P lm l (st-1) c okc fb ab hne H' (by rw[hcn]; exact hf3) hb3;rw[hcn] at hA;refine AY f0 ?_;refine hA.mono ?_;rintro _ H4 ⟨kA,post⟩;have k4:=k3.trans kA;have hd4:=hd3.kb kA hB;generalize hN:nxK p.vars p.vars.length c=O at post
    obtain⟨ov',c',hf4,hc'n,hb4,ho1,ho2⟩:∃ov' c',isF H4 fb p lm l ab p.vars.length ov' (st-1)∧c'.length=p.vars.length∧isI H4 ab c'∧(ov'=true->O=none)∧(ov'=false->O=some c'):=by
     cases O with
     | none =>
       obtain⟨q1,c',q2,q3⟩:=post;exact⟨true,c',q1,U,q3,fun _=>rfl,fun q=>by cases q⟩
     | some c' =>
       obtain⟨q1,q2⟩:=post;exact⟨false,c',q1,(nI okc hN).1.len,q2,(fun q=>by cases q),fun _=>rfl⟩
    clear post hA
    have go:WC p l c≠true->(ov'=true->R=none)∧(ov'=false->AOk p c'∧lft p c'+1=lft p c∧kI p l (lft p c') c'=R):=fun hns=>by
     obtain⟨k,hk'⟩:∃k,lft p c=k+1:=⟨lft p c-1,U⟩;rw[hk'] at hS;unfold kI at hS;rw[if_neg hns,hN] at hS;constructor
     .intro q
      rw[ho1 q] at hS;exact hS.symm
     .intro q
      rw[ho2 q] at hN hS;have hS:kI p l k c'=R:=hS;obtain⟨n1,n2⟩:=nI okc hN;refine⟨n1,n2,?_⟩;rw[<-hS,show lft p c'=k by omega]
    have hdone:WC p l c=true->R=some c:=fun q=>by
     obtain⟨k,hk'⟩:∃k,lft p c=k+1:=⟨lft p c-1,U⟩;rw[hk'] at hS;unfold kI at hS;rw[if_pos q] at hS;exact hS.symm
    refine DL @AYV f0 @hf4.es ?_
    refine BJ (fun n F' H'=>∃i,n+i=l.length∧F' 0=.ptr fb 0 0∧F' 4=F 4∧F' 5=u∧F' 63=.sl lm 4 (l.map AX)∧F' 64=.n (l.length:Nat)∧F' 65=.n (i:Nat)∧KB [fb,ab] h H'∧isF H' fb p lm l ab p.vars.length ov' (st-1)∧isI H' ab c'∧Dh h p c c u (F 4) H'∧∀e∈l.take i,FQ (F8 p.vars c) e≠0) l.length
     ⟨0,AZ,EE f0,EE f4,EE f5,AL,AL,AL,k4,hf4,hb4,hd4,AZ⟩ ?_
    clear f0 f4 f5 k3 hf3 hb3 hd3 k4 hf4 hb4 hd4 kA;rintro n F2 H' ⟨i,hi,f0,f4,f5,f63,f64,f65,k4,hf4,hb4,hd4,hsat⟩;refine A8 f64 f65 ?_;refine D8 ?_ ?_<;>intro hi'
    .have hmem:=List.getElem_mem hi'
     have k5:=k4.app (yK 4 [AX l[i]]);have hf5:isF (H'++[yK 4 [AX l[i]]]) fb p lm l ab p.vars.length ov' (st-1):=AB hf4;have hb5:isI (H'++[yK 4 [AX l[i]]]) ab c':=AB hb4;have hd5:=hd4.kb ((KB.rfl' [fb,ab] H').app (yK 4 [AX l[i]])) hB;have gE:=AQ H' (yK 4 [AX l[i]]);simp only[vQ,CG,↓reduceIte,jC,enP,PQ,jQ,f63,f65,CX hi',DC O1 JB EC hi',al79,st79]
     generalize H'++[yK 4 [AX l[i]]]=H5 at k5 hf5 hb5 hd5 gE|-
     refine A8 (IM gE) f4 ?_;have hel:=Q8 (vars:=p.vars) hcn;refine(AVN G hG (F8 p.vars c) (F 4) h H5 (hd5.env hcn) l[i] U (hw _ hmem)).use ?_;have hev:evV (evE (F8 p.vars c) l[i])=.tup [.n (FQ (F8 p.vars c) l[i]:Nat),.n 0]:=by rw[A1D (hk _ hmem) hcn]; rfl
     rw[hev];refine AA ?_;refine BM ?_ ?_<;>intro hz
     .have hz:FQ (F8 p.vars c) l[i]=0:=BG hz
      have hns:WC p l c≠true:=fun q=>by
       unfold WC at q;rw[zL] at q;have:=q _ hmem;rw[hz] at this; simp at this
      obtain⟨g1,g2⟩:=go hns;refine AA ?_
      cases hq:ov' with
      | true =>
        refine⟨0,hpos,true,c',c,st-1,AC,k5,hcn,?_,by rw[<-hq]; exact hf5,hc'n,hb5,fun _=>g1 hq,fun q=>by cases q⟩
        first|(rw[f4]; exact hd5.env hcn)|exact hd5.env hcn
      | false =>
        obtain⟨n1,n2,n3⟩:=g2 hq;refine⟨lft p c',U,false,c',c,st-1,AC,k5,hcn,?_,by rw[<-hq]; exact hf5,hc'n,hb5,(fun q=>by cases q),fun _=>⟨rfl,n1,n3,U,U⟩⟩
        first|(rw[f4]; exact hd5.env hcn)|exact hd5.env hcn
     .have hz:FQ (F8 p.vars c) l[i]≠0:=BG hz
      refine A8 f65 (CZ i) ?_;refine⟨n-1,U,i+1,U,AC,AC,AC,AC,AC,AC,k5,hf5,hb5,hd5,fun e he=>?_⟩;rw[jU hi'] at he;rcases List.mem_append.1 he with h1|h1
      .exact hsat e h1
      .rw[List.mem_singleton.1 h1]; exact hz
    .rw[jJ U] at hsat
     have hs1:WC p l c=true:=by
      unfold WC;rw[zL];intro e he;have:=hsat e he;simpa using this
     refine AY f5 ?_;exact⟨k4,c,hdone hs1,AC,hd4.cpy hcn⟩
 .rintro F H ⟨k1,ho,st',hf⟩
  refine AA ?_;refine⟨k1,?_⟩;rw[ho];exact⟨AC,st',hf⟩
 .rintro F H ⟨k1,b,ho,f3,hc⟩
  refine AY f3 ?_;refine⟨k1,?_⟩;rw[ho];exact⟨_,AC,hc⟩
end
def FstQ (r:Option (List Int))(v:AV):Prop:=match r with
 | some a=>∃m,m≠.nil∧v=.tup [.sl m 1 (a.map Bins.qencI),.n 0]
 | none=>v=.tup [.sl .nil 0 [],.n 11]
theorem KB.ext {h H H':Hp}{B:List Nat}(hx:Sm.ext h H)(k:KB B H H')(hB:∀b∈B,h.length<=b):Sm.ext h H' :=
 ATH (fun i y q=>k.keep i y (DV hx q) (fun hm=>by have:=hB _ hm; have:=Z q; omega)) (Nat.le_trans hx.le k.len)
section
variable (G:Nat->AV)
theorem AI6 (hG:GOk G)(p:Pr)(hs:PrS p)(hv:IJ p=0)(lm:SM)(l:List Ex)(hl:l.length<=1048576)(hw:∀e∈l,wt e<=1048576)(hk:∀e∈l,xpE p.vars e=0)(hst:lft p (dP p)<=262144)(h:Hp):
  QCall (En G) 100 [.agg (CW p),.sl lm 4 (l.map AX),.n 262144] h (FstQ (U0 p l)):=by
 have P:=PV.of hv;have okf:=xY P;refine ACalls.pureQ (R:=fun v H=>Sm.ext h H∧FstQ (U0 p l) (EZ h.length H 3 v)) 3 ?_ (fun v H ⟨a,b⟩=>⟨a,b⟩);refine acL Tryz.func100 [.tmp 6,.tmp 7] ?_;have ge:=AQ h (yK 5 [CW p]);have hx:=Sm.ext.r1 h (yK 5 [CW p]);refine AY @QA ?_
 generalize h++[yK 5 [CW p]]=H0 at ge hx|-
 have lp:BH jA H0 27 (.ptr h.length 0 0)=some (.agg (CW p)):=by rw[EF pQ kH ge (row:=CW p) rfl (by rw[OE]; exact jF 5)]; rfl
 refine AY lp ?_;refine(AIQ G hG p hs hv lm l hl hw hk H0).mono ?_;rintro v H1 ⟨hx1,fb,ab,hfb,hab,hne,rfl,hf,hb⟩;have hx01:=hx.trans hx1;have hxl:=hx.le;refine AY (show((0:Int) != 0)=false from rfl) ?_;refine(hit_prog G hG p hs P lm l hl hw hk 262144 (dP p) okf fb ab hne H1 U U hf hb).mono ?_;rintro v H2 ⟨k,post⟩;have hx2:Sm.ext h H2:=KB.ext hx01 k (fun b hb=>by simp at hb; omega);have hxx:=hx01.le;unfold U0
 cases hr:kI p l (lft p (dP p)) (dP p) with
 | some a =>
   rw[hr] at post;obtain⟨u,rfl,hc⟩:=post;refine AA ?_;refine⟨hx2,?_⟩;rcases hc with⟨rfl,rfl⟩|⟨hne2,o,ho,rfl,hb2⟩
   .exact⟨.full,by decide,rfl⟩
   .refine⟨.any,by decide,?_⟩
    show AV.tup [EZ h.length H2 2 (.own o 0 a.length),EZ h.length H2 2 (.n 0)]=_;rw[Cov.frz_own Cov.frzI (U:h.length<=o) hb2]; rfl
 | none =>
   rw[hr] at post;obtain⟨rfl,st',hf2⟩:=post;refine A8 @lH @hf2.ovd ?_;exact⟨hx2,rfl⟩
def AHX (r:Option (List Int)):AV:=match r with
 | some a=>.tup [.sl .any 1 (a.map Bins.qencI),.n 0]
 | none=>.tup [.sl .nil 0 [],.n 11]
theorem FstQ.cv {r:Option (List Int)}(h:FstQ r v):CvR v (AHX r):=by
 cases r with
 | none=>rw[show v=_ from h]; exact CvR.refl _
 | some a =>
   obtain⟨m,hm,rfl⟩:=h;exact CvR.tup (CvRL.cons (CvR.sl (Cv.any hm 1 _)) (CvRL.cons (CvR.refl _) CvRL.nil))
theorem A0B (hG:GOk G)(p:Pr)(hs:PrS p)(hv:IJ p=0)(lm:SM)(l:List Ex)(hl:l.length<=1048576)(hw:∀e∈l,wt e<=1048576)(hk:∀e∈l,xpE p.vars e=0)(hst:lft p (dP p)<=262144)(h:Hp):
  PCall (En G) 100 [.agg (CW p),.sl lm 4 (l.map AX),.n 262144] h (AHX (U0 p l)) :=
 ACalls.conv (AI6 G hG p hs hv lm l hl hw hk hst h) fun _ _ ⟨q,e⟩=>⟨_,⟨rfl,e⟩,q.cv⟩
end
end Go.Proofs.YtiihpnicbekebaaGreatDoor.Bd.Cl
namespace Go.Proofs.YtiihpnicbekebaaGreatDoor.Bd.Cl
open Sm Bins Cov Xe Wd Bl Ho Go.RowKit
variable {s:ByteArray} {a e:Ex} {vs:List Vr} {H:Hp} {b:Nat} {c d:Int} (G:Nat->AV )
theorem Y6 (h:EX s=true):s.size<=16:=by
 unfold EX at h;have:=(Bool.and_eq_true_iff.1 (Bool.and_eq_true_iff.1 h).1).2;simpa using this
theorem vL (s:ByteArray):s.size=s.data.toList.length:=(Array.length_toList).symm
theorem AOV (h:(JO s).isSome=true):s.size<=19:=by
 unfold JO at h;split at h
 .rename_i h4
  split at h
  .split at h
   .rename_i hc
    have hn:=(Bool.and_eq_true_iff.1 hc).2;have:=Y6 hn
    rw[vL] at this|-
    simp at this
    simp at h4|-
    omega
   .cases h
  .cases h
 .cases h
theorem APZ (h:FT s=true):s.size<=19:=by
 unfold FT at h;rcases Bool.or_eq_true_iff.1 h with q|q
 .exact AOV q
 .have:=Y6 q; omega
theorem AC7 (h:NS s=true):s.size=0:=by
 unfold NS at h;have:=str_eq h;rw[this]; rfl
theorem tH (h:G7 e=0):e.name.size<=19:=by
 unfold G7 at h
 have hO:badO e=false:=by
  cases hb:badO e
  .rfl
  .rw[hb] at h; simp at h
 have hN:WU e=false:=by
  cases hb:WU e
  .rfl
  .rw[hO,hb] at h; simp at h
 have hS:TS e=false:=by
  cases hb:TS e
  .rfl
  .rw[hO,hN,hb] at h; simp at h
 have hV:U5 e=false:=by
  cases hb:U5 e
  .rfl
  .rw[hO,hN,hS,hb] at h; simp at h
 unfold TS at hS;rw[wF] at hS;have h1:=hS.1;unfold U5 at hV;rw[wF] at hV;obtain⟨v1,v2⟩:=hV;cases hn:NS e.name
 .rw[hn] at h1
  have h1:KN e.op=true:=BG h1;unfold KN at h1;simp only[Bool.or_eq_true,beq_iff_eq] at h1;rcases h1 with (q|q)|q
  .rw[q] at v1
   exact APZ (BG v1)
  .rw[q] at v2
   have:=Y6 (s:=e.name) (BG v2);omega
  .rw[q] at v2
   have:=Y6 (s:=e.name) (BG v2);omega
 .rw[AC7 hn]; omega
theorem A0M (B:Nat)(e:Ex):(∀x∈pre e,x.name.size<=B)->wt e<=(pre e).length*(B+1):=by
 induction e using Ex.induct with|h e ih=>?_
 intro h
 have hl:∀xs:List Ex,(∀a∈xs,wt a<=(pre a).length*(B+1))->wts xs<=(FD xs).length*(B+1):=by
  intro xs
  induction xs with
  | nil=>intro _; simp [wts]
  | cons x xs ihx =>
    intro hx;have h1:=hx x AZ;have h2:=ihx fun a ha=>hx a (by simp [ha])
    simp only[wts,FD,jT,qE]; omega
 have h1:=hl e.args fun a ha=>ih a ha fun x hx=>h x (by rw[pre_eq]; exact yF _ (Y2 ha x hx))
 have h2:=h e (by rw[pre_eq]; simp);rw[MN,pre_eq,zO,qE]; omega
theorem AYZ (h0:exE e=0):(pre e).length<=400:=by
 unfold exE at h0;split at h0
 .cases h0
 .rename_i q; rw[h0] at q; simp at q; omega
theorem ATI (h:exE e=0):wt e<=8000:=by
 have h1:=A0M 19 e fun x hx=>tH (gA h x hx)
 have h2:=AYZ h;omega
theorem AOO {xs:List Ex}(h:∀x∈xs,G7 x=0):errs xs=0:=by
 induction xs with
 | nil=>rfl
 | cons y ys ih =>
   show ys.foldl (fun z e=>if z=0 then G7 e else z) (G7 y)=0;rw[h y AZ];exact ih fun x hx=>h x (by simp [hx])
def Gd (vs:List Vr)(x:Ex):Prop:=G7 x=0∧OW x=false∧PG vs x=false
theorem A08 (h:∀x∈pre e,Gd vs x)(hd:dep e<=24)(hl:(pre e).length<=400):xpE vs e=0:=by
 have h1:exE e=0:=by
  unfold exE;rw[AOO fun x hx=>(h x hx).1,if_neg U]
 have h2:pL e=false:=qM.2 fun x hx=>by rw[(h x hx).2.1]; simp
 have h3:kV vs e=false:=qM.2 fun x hx=>by rw[(h x hx).2.2]; simp
 unfold xpE;rw[if_neg (by rw[h1]; simp)];unfold plE;rw[h2,h3]; rfl
theorem xA:NS (⟨#[]⟩:ByteArray)=true:=by unfold NS; exact beq_self_eq_true _
theorem ASX {n:Int}(h:0<=n∧n<=65535):∀x∈pre (cE n),Gd vs x:=by
 intro x hx;have e:x=cE n:=by simpa [cE,pre,FD] using hx
 subst e;refine⟨?_,rfl,rfl⟩
 have b:WU (cE n)=false:=by
  have:WU (cE n)=((true&&(decide (n<0)||decide (n>65535)))||(false && !(n==0))):=rfl;rw[this];simp; omega
 have b2:TS (cE n)=false:=by
  have:TS (cE n)=((!KN 1 && !NS (⟨#[]⟩:ByteArray)) || !UZ 1 0):=rfl;rw[this,xA]; rfl
 unfold G7;rw[b,b2]; rfl
theorem AKY {n:ByteArray}(h:FT n=true)(hp:0<=plc vs n):∀x∈pre (JF n),Gd vs x:=by
 intro x hx;have e:x=JF n:=by simpa [JF,pre,FD] using hx
 subst e;refine⟨?_,rfl,?_⟩
 .have b:U5 (JF n)=false:=by
   have:U5 (JF n)=((true && !FT n)||((false||false) && !EX n)):=rfl;rw[this,h]; rfl
  unfold G7;rw[b]; rfl
 .have:PG vs (JF n)=(true&&decide (plc vs n<0)):=rfl
  rw[this]; simp; omega
theorem tJ {x:Ex}{xs:List Ex}(h:x∈FD xs):∃a∈xs,x∈pre a:=mem_pres.1 h
theorem AK0 {l:List Rng}(he:∀x∈pre e,Gd vs x)(h0:l≠[])(h16:l.length<=16)(hl:∀r∈l,0<=r.lo∧r.lo<=65535∧0<=r.hi∧r.hi<=65535):∀x∈pre (JA e l),Gd vs x:=by
 intro x hx;rw[UK,pre_eq] at hx;rcases zQ.1 hx with rfl|hx
 .have hlen:(insL e l).length=1+2*l.length:=by unfold insL; rw[zO,lM]; omega
  have hp:0<l.length:=qZ.2 h0;refine⟨?_,rfl,rfl⟩
  have b:TS (.mk 23 0 ⟨#[]⟩ .any (insL e l))=false:=by
   have:TS (.mk 23 0 ⟨#[]⟩ .any (insL e l))=((!KN 23 && !NS (⟨#[]⟩:ByteArray)) || !UZ 23 (insL e l).length):=rfl;rw[this,hlen,xA];unfold UZ;simp;omega
  unfold G7;rw[b]; rfl
 .obtain⟨a,ha,hxa⟩:=tJ hx
  have ha:a∈insL e l:=ha;unfold insL at ha;rcases zQ.1 ha with rfl|ha
  .exact he x hxa
  .unfold cEs at ha
   obtain⟨r,hr,hm⟩:=List.mem_flatMap.1 ha;have:=hl r hr;simp only[zQ,List.not_mem_nil,or_false] at hm;rcases hm with rfl|rfl
   .exact ASX U x hxa
   .exact ASX U x hxa
theorem A3C {b:Ex}(ha:∀x∈pre a,Gd vs x)(hb:∀x∈pre b,Gd vs x):∀x∈pre (orE a b),Gd vs x:=by
 intro x hx;unfold orE at hx;rw[pre_eq] at hx;rcases zQ.1 hx with rfl|hx
 .refine⟨?_,rfl,rfl⟩
  have b2:TS (.mk 20 0 ⟨#[]⟩ .full [a,b])=false:=by
   have:TS (.mk 20 0 ⟨#[]⟩ .full [a,b])=((!KN 20 && !NS (⟨#[]⟩:ByteArray)) || !UZ 20 2):=rfl;rw[this,xA]; rfl
  unfold G7;rw[b2]; rfl
 .obtain⟨c,hc,hxc⟩:=tJ hx
  have hc:c∈[a,b]:=hc;simp only[zQ,List.not_mem_nil,or_false] at hc;rcases hc with rfl|rfl
  .exact ha x hxc
  .exact hb x hxc
theorem mU:∀l:List Rng,(FD (cEs l)).length=2*l.length
 | []=>rfl
 | r::l=>by
   rw[TP];have:=mU l;simp only[FD,jT,this,zO];simp [cE,pre,FD]; omega
theorem oS:∀l:List Rng,deps (cEs l)<=1
 | []=>qI _
 | r::l=>by
   rw[TP];have:=oS l;simp only[deps];simp [cE,dep,deps]; omega
theorem ADG (n:ByteArray)(R:List Rng):∀k,(pre (NH (JF n) R k)).length<=35*(k+1)∧dep (NH (JF n) R k)<=k+2
 | 0=>by
   have hp:=Q3 R 0;show(pre (JA (JF n) (Ho.part R 0))).length<=_∧dep (JA (JF n) (Ho.part R 0))<=_;rw[UK,pre_eq,bP];show(_::FD (insL (JF n) (Ho.part R 0))).length<=_∧deps (insL (JF n) (Ho.part R 0))+1<=_;have h1:=mU (Ho.part R 0);have h2:=oS (Ho.part R 0);unfold insL;simp only[FD,deps,zO,jT,h1];simp [JF,pre,FD,dep,deps]; omega
 | k+1=>by
   have ih:=ADG n R k;have hp:=Q3 R (k+1);have h1:=mU (Ho.part R (k+1));have h2:=oS (Ho.part R (k+1))
   have e1:(pre (JA (JF n) (Ho.part R (k+1)))).length<=34∧dep (JA (JF n) (Ho.part R (k+1)))<=2:=by
    rw[UK,pre_eq,bP];show(_::FD (insL (JF n) (Ho.part R (k+1)))).length<=_∧deps (insL (JF n) (Ho.part R (k+1)))+1<=_;unfold insL;simp only[FD,deps,zO,jT,h1];simp [JF,pre,FD,dep,deps]; omega
   show(pre (orE (NH (JF n) R k) (JA (JF n) (Ho.part R (k+1))))).length<=_∧dep (orE (NH (JF n) R k) (JA (JF n) (Ho.part R (k+1))))<=_;unfold orE;rw[pre_eq,bP];show(_::FD [NH (JF n) R k,JA (JF n) (Ho.part R (k+1))]).length<=_∧deps [NH (JF n) R k,JA (JF n) (Ho.part R (k+1))]+1<=_;simp only[FD,deps,zO,jT,List.append_nil];omega
theorem AKZ {vs:List Vr}{n:ByteArray}(h:FT n=true)(hp:0<=plc vs n){R:List Rng}(hR:∀r∈R,0<=r.lo∧r.lo<=65535∧0<=r.hi∧r.hi<=65535):∀k,16*k<R.length->∀x∈pre (NH (JF n) R k),Gd vs x
 | 0,hk=>by
   show ∀x∈pre (JA (JF n) (Ho.part R 0)),_;refine AK0 (AKY h hp) ?_ (Q3 R 0) fun r hr=>hR r ?_
   .unfold Ho.part; intro e
    have:=congrArg wO e;rw[jZ,yB,zU] at this; omega
   .unfold Ho.part at hr; exact List.mem_of_mem_drop (List.mem_of_mem_take hr)
 | k+1,hk=>by
   show ∀x∈pre (orE (NH (JF n) R k) (JA (JF n) (Ho.part R (k+1)))),_;refine A3C (AKZ h hp hR k U) (AK0 (AKY h hp) ?_ (Q3 R (k+1)) fun r hr=>hR r ?_)
   .unfold Ho.part; intro e
    have:=congrArg wO e;rw[jZ,yB,zU] at this; omega
   .unfold Ho.part at hr; exact List.mem_of_mem_drop (List.mem_of_mem_take hr)
theorem AWY {v:Vr}(h:v∈vs):0<=plc vs v.name:=by
 apply Classical.byContradiction;intro q;have:=fP (MZ v.name) vs (by unfold plc at q; omega) v h;unfold MZ at this;simp at this
theorem A2B {p:Pr}(hv:IJ p=0):∀e∈V8 p,xpE p.vars e=0:=by
 intro e he;have P:=PV.of hv;unfold V8 at he;obtain⟨d,hd,rfl⟩:=List.mem_map.1 he;obtain⟨d1,d2⟩:=ALM hv d hd;obtain⟨k,hk,hdk,hm⟩:=YZ d1;obtain⟨n1,w1,w8,_⟩:=SN (P.vr _ (jI hk))
 have hsup:ABH p d=rB p.vars[k].name (runs d.ws (2^p.vars[k].width.toNat)):=by
  unfold ABH;rw[hdk,Int.toNat_natCast,List.getElem?_eq_getElem hk]
 have hW:(2:Nat)^p.vars[k].width.toNat<=256:=by
  have:p.vars[k].width.toNat<=8:=U
  calc (2:Nat)^p.vars[k].width.toNat<=2^8:=Nat.pow_le_pow_right DF this
   _=256:=rfl
 have hr:=AQS d.ws (2^p.vars[k].width.toNat);have hi:=AJY d.ws (2^p.vars[k].width.toNat);rw[hsup];generalize runs d.ws (2^p.vars[k].width.toNat)=R at hr hi;unfold rB;by_cases q:R=[]
 .rw[if_pos q]
  exact A08 (ASX U) (by simp [cE,dep,deps]) (by simp [cE,pre,FD])
 .rw[if_neg q]
  have hp:0<R.length:=qZ.2 q;have hk2:parts R-1<=2:=by unfold parts; omega
  obtain⟨l1,l2⟩:=ADG p.vars[k].name R (parts R-1);exact A08 (AKZ n1 (AWY (jI hk)) (fun r hr=>by have:=hi r hr; omega) _ (by unfold parts; omega)) U U
theorem A0L (h:xpE vs e=0):wt e<=8000:=ATI (APU h).1
theorem A49:∀(k:Nat),k<9->∀h:Hp,IA jA h 9 (.str ALZ) (some (.n (k:Nat))) (some (.n ((k+1:Nat):Int))) none=some (.str (dgS k))
 | 0,_,h=>A7
 | 1,_,h=>A7
 | 2,_,h=>A7
 | 3,_,h=>A7
 | 4,_,h=>A7
 | 5,_,h=>A7
 | 6,_,h=>A7
 | 7,_,h=>A7
 | 8,_,h=>A7
 | n+9,q,_=>absurd q U
theorem ABS (k:Nat)(hk:k<9)(h:Hp):PCall (En G) 396 [.n (k:Nat)] h (.str (dgS k)):=by
 refine acT Tryz.func396 2 ?_;have hd:decide (((k:Nat):Int)<10)=true:=by simp; omega
 have:=A49 k hk h;unfold ALZ at this;refine DL hd (CZ k) @this ?_;exact HY
theorem AI4 (k:Nat)(hk:k<9)(h:Hp):PCall (En G) 288 [.n (k:Nat)] h (.str (dgS k)):=by
 have h1:PCall (En G) 358 [.n (k:Nat),.n 10] h (.str (dgS k)):=by
  refine acT Tryz.func358 4 ?_;have d1:((10:Int)==10)=true:=rfl;have d2:decide ((0:Int)<=((k:Nat):Int))=true:=AZ;have d3:decide (((k:Nat):Int)<100)=true:=by simp; omega
  refine DL d1 d2 d3 ?_;refine(ABS G k hk h).uu ?_;exact HY
 have h2:PCall (En G) 324 [.n (k:Nat)] h (.str (dgS k)):=by
  refine acT Tryz.func324 2 ?_;refine AA ?_;refine h1.uu ?_;exact HY
 refine acT Tryz.func288 2 ?_;refine AA ?_;refine h2.uu ?_;exact HY
theorem oN (a:ByteArray)(k:Nat)(hk:k<9)(h:Hp)(ha:a.size<=1048576):PCall (En G) 233 [.str a,.n (k:Nat)] h (.str (elN a k)):=by
 refine acT Tryz.func233 4 ?_;obtain⟨b1,b2,b3⟩:=A36 a k ha;refine AY b1 ?_;refine(AI4 G k hk h).use ?_;refine A8 b2 b3 ?_;exact HY
theorem ARK (a:ByteArray):FT (elN a 8)=false:=by
 have hl:=NT a 8;unfold FT
 have h1:JO (elN a 8)=none:=by
  unfold JO;rw[hl];have e:(a.data.toList++[91,UInt8.ofNat (48+8),93]).length-3=a.data.toList.length:=AZ;rw[e,List.drop_left];split
  .dsimp only
   rw[if_neg];intro q;simp only[Bool.and_eq_true,decide_eq_true_eq] at q;exact absurd q.1.2 DF
  .rfl
 have h2:EX (elN a 8)=false:=by
  cases hn:EX (elN a 8)
  .rfl
  .have e:elN a 8=⟨(elN a 8).data.toList.toArray⟩:=AZ
   rw[e] at hn;have:=(QO hn).2 91 (by rw[hl]; simp);exact absurd rfl this
 rw[h1,h2]; rfl
theorem AWX (hv:∀v∈vs,FT v.name=true)(a:ByteArray):plc vs (elN a 8)<0:=by
 apply Classical.byContradiction;intro q;obtain⟨k,hk,_,h1,_⟩:=VH (MZ (elN a 8)) vs (by unfold plc at q; omega);have:=str_eq h1;have h2:=hv _ (jI hk);rw[this,ARK] at h2; cases h2
def szF (vs:List Vr)(a:ByteArray):Nat->Nat->Nat
 | 0,n=>n
 | f+1,n=>if plc vs (elN a n)<0 then n else szF vs a f (n+1)
def szA (vs:List Vr)(a:ByteArray):Nat:=szF vs a 8 0
theorem AQB (vs:List Vr)(a:ByteArray):∀f n,n<=szF vs a f n∧szF vs a f n<=n+f
 | 0,n=>⟨jF _,jF _⟩
 | f+1,n=>by
   unfold szF;split
   .omega
   .have:=AQB vs a f (n+1); omega
theorem lX (vs:List Vr)(a:ByteArray):szA vs a<=8:=by have:=(AQB vs a 8 0).2; unfold szA; omega
theorem AQC (vs:List Vr)(a:ByteArray):∀f n k,n<=k->k<szF vs a f n->0<=plc vs (elN a k)
 | 0,n,k,h1,h2=>by unfold szF at h2; omega
 | f+1,n,k,h1,h2=>by
   unfold szF at h2;split at h2
   .omega
   .rename_i q
    by_cases e:n=k
    .subst e; omega
    .exact AQC vs a f (n+1) k U h2
theorem vN {a:ByteArray}{k:Nat}(h:k<szA vs a):0<=plc vs (elN a k):=AQC vs a 8 0 k (qI _) h
theorem lW {vs:List Vr}{a:ByteArray}{f n:Nat}:(plc vs (elN a n)<0->szF vs a (f+1) n=n)∧(¬plc vs (elN a n)<0->szF vs a (f+1) n=szF vs a f (n+1)):=by
 constructor<;>intro h<;>(conv=>lhs; unfold szF)
 .rw[if_pos h]
 .rw[if_neg h]
section
variable (G:Nat->AV)
theorem size_prog (vs:List Vr)(m:SM)(hl:vs.length<=1048576)(hv:∀v∈vs,FT v.name=true)(a:ByteArray)(ha:a.size<=1048576)(h:Hp):PCall (En G) 252 [.agg [.sl m 4 (vs.map encV)],.str a] h (.n (szA vs a:Nat)):=by
 refine ACalls.pure0 rfl ?_;refine acT Tryz.func252 4 ?_;have gs:=AQ h (yK 1 [[.sl m 4 (vs.map encV)]]);have hx:=Sm.ext.r1 h (yK 1 [[.sl m 4 (vs.map encV)]]);have bx:MS h (.agg [.sl m 4 (vs.map encV)])=some (.ptr h.length 0 0,h++[yK 1 [[.sl m 4 (vs.map encV)]]]):=rfl;refine AY bx ?_
 generalize h++[yK 1 [[.sl m 4 (vs.map encV)]]]=H0 at gs hx|-
 have l0:BH jA H0 22 (.ptr h.length 0 0)=some (.sl m 4 (vs.map encV)):=by rw[BA XK gs rfl]; rfl
 refine BJ (fun k F H=>∃n,k+n=8∧szF vs a k n=szA vs a∧F 1=.str a∧F 2=.ptr h.length 0 0∧F 5=.n (n:Nat)∧H=H0) 8
  ⟨0,rfl,rfl,AL,AL,AL,rfl⟩ ?_
 rintro k F H ⟨n,hn,hs,f1,f2,f5,rfl⟩
 try refine AA ?_
 refine DZ A7 ?_;refine JG @ALE f1 f2 f5 l0 ?_;refine⟨_,oN G a n U H ha,_,index_prog G vs m (elN a n) H U,?_⟩;refine AA ?_;refine BM ?_ ?_<;>intro hc
 .have hc:¬plc vs (elN a n)<0:=BG hc
  obtain⟨j,rfl⟩:∃j,k=j+1:=⟨k-1,by
   have:k≠0:=fun e=>hc (by have:n=8:=U
                           rw[this]; exact AWX hv a)
   omega⟩
  rw[lW.2 hc] at hs;refine A8 f5 (CZ n) ?_;exact⟨j,U,n+1,U,hs,AC,AC,AC,AC⟩
 .have hc:plc vs (elN a n)<0:=by
   have:=of_decide_eq_false hc;omega
  have e:szA vs a=n:=by
   rw[<-hs]
   cases k with
   | zero=>rfl
   | succ k=>exact lW.1 hc
  refine AY f5 ?_;exact⟨by rw[e],hx⟩
end
theorem node_ops (h:G7 e=0):UZ e.op e.args.length=true:=by
 unfold G7 at h
 have hO:badO e=false:=by
  cases hb:badO e
  .rfl
  .rw[hb] at h; simp at h
 have hN:WU e=false:=by
  cases hb:WU e
  .rfl
  .rw[hO,hb] at h; simp at h
 have hS:TS e=false:=by
  cases hb:TS e
  .rfl
  .rw[hO,hN,hb] at h; simp at h
 unfold TS at hS;rw[wF] at hS;simpa using hS.2
theorem eH (h:G7 e=0)(ho:e.op=1∨e.op=2∨e.op=24):e.args=[]:=by
 have h1:=node_ops h;unfold UZ at h1;rw[if_neg (by rcases ho with q|q|q<;>rw[q]<;>decide)] at h1
 have ha:arity e.op=0:=by rcases ho with q|q|q<;>rw[q]<;>rfl
 rw[ha] at h1;exact List.eq_nil_of_length_eq_zero (BG h1)
theorem VR (h:G7 e=0)(ho:e.op=3):∃a,e.args=[a]:=by
 have h1:=node_ops h;unfold UZ at h1;rw[if_neg (by rw[ho]; decide)] at h1;have ha:arity e.op=1:=by rw[ho]; rfl
 rw[ha] at h1;have h2:((e.args.length:Nat):Int)=1:=BG h1;have h2:e.args.length=1:=U
 match hq:e.args,h2 with
 | [a],_=>exact⟨a,rfl⟩
theorem ARI (h:G7 e=0)(ho:e.op=1):0<=e.n∧e.n<=65535:=by
 unfold G7 at h
 have hO:badO e=false:=by
  cases hb:badO e
  .rfl
  .rw[hb] at h; simp at h
 have hN:WU e=false:=by
  cases hb:WU e
  .rfl
  .rw[hO,hb] at h; simp at h
 unfold WU at hN;rw[ho] at hN;simp at hN;omega
theorem A9O (n:Nat):(((n:Nat):Int)==0)=(n==0):=by rw[Bool.eq_iff_iff]; simp
def QC (vs:List Vr)(e:Ex):Bool:=(e.op==2&&decide (plc vs e.name<0))||((e.op==3||e.op==24)&&(szA vs e.name==0))
def OQ (vs:List Vr)(e:Ex):Bool:=(pre e).any (QC vs)
theorem UG (vs:List Vr)(e:Ex):OQ vs e=(QC vs e||e.args.any (OQ vs)):=by
 unfold OQ;rw[pre_eq,List.any_cons];congr 1
 have:∀xs:List Ex,(FD xs).any (QC vs)=xs.any fun e=>(pre e).any (QC vs):=by
  intro xs
  induction xs with
  | nil=>rfl
  | cons x xs ih=>simp only[FD,List.any_append,List.any_cons,ih]
 exact this e.args
def NdOk (e:Ex):Prop:=∀x∈pre e,G7 x=0
theorem NdOk.arg (h:NdOk e)(ha:a∈e.args):NdOk a:=fun x hx=>h x (by rw[pre_eq]; exact yF _ (Y2 ha x hx))
theorem NdOk.self (h:NdOk e):G7 e=0:=h e (by rw[pre_eq]; simp)
theorem NdOk.name {e:Ex}(h:NdOk e):e.name.size<=19:=tH h.self
theorem NdOk.of (h:exE e=0):NdOk e:=gA h
theorem NdOk.len (h:NdOk e):e.args.length<=33:=by
 have h1:=node_ops h.self;unfold UZ at h1;split at h1
 .simp at h1; omega
 .have:arity e.op<=3:=by
   unfold arity
   repeat' split
   all_goals omega
  have:((e.args.length:Nat):Int)=arity e.op:=BG h1;omega
abbrev isS (H:Hp)(b:Nat)(m:SM)(vs:List Vr):Prop:=H[b]?=some (yK 1 [[.sl m 4 (vs.map encV)]])
theorem isS.ld {H:Hp}{b:Nat}{m:SM}{vs:List Vr}(h:isS H b m vs):BH jA H 233 (.ptr b 0 0)=some (.agg [.sl m 4 (vs.map encV)]):=by
 rw[EF A8H A0S h rfl (jF 1)]; rfl
theorem isS.l {m:SM}(h:isS H b m vs):BH jA H 22 (.ptr b 0 0)=some (.sl m 4 (vs.map encV)):=by rw[BA XK h rfl]; rfl
theorem bxS (h:Hp)(m:SM)(vs:List Vr):MS h (.agg [.sl m 4 (vs.map encV)])=some (.ptr h.length 0 0,h++[yK 1 [[.sl m 4 (vs.map encV)]]]):=rfl
section
variable {H:Hp} {b:Nat} {e:Ex}
theorem AON (h:H[b]?=some (yK 4 [AX e])):BH jA H 3 (.ptr b 0 0)=some (.n e.op):=by rw[BA ag3 h (row:=AX e) rfl,J3]
theorem exN (h:H[b]?=some (yK 4 [AX e])):BH jA H 3 (.ptr b 0 1)=some (.n e.n):=by rw[BA ag3 h (row:=AX e) rfl,dW]
theorem bL (h:H[b]?=some (yK 4 [AX e])):BH jA H 9 (.ptr b 0 2)=some (.str e.name):=by rw[BA ag9 h (row:=AX e) rfl,RF]
theorem U3 (h:H[b]?=some (yK 4 [AX e])):BH jA H 23 (.ptr b 0 3)=some (.sl e.m 4 (e.args.map AX)):=by rw[BA LH h (row:=AX e) rfl,YK]
end
section
variable (G:Nat->AV)
theorem ASQ (xs:List Ex)(m:SM)(fid:FuncId)(caps:List AV)(p:Ex->Bool)(h:Hp)(hn:xs.length<=1099511627776)(hf:∀x∈xs,PCall (En G) fid ([.agg (AX x)]++caps) h (.bool (p x))):
  PCall (En G) 301 [.sl m 4 (xs.map AX),.fn (.func fid) [] caps] h (.n (N9 p xs)):=by
 refine acT Tryz.func301 4 ?_;refine AA ?_;refine BJ (fun n F H=>∃k,n+k=xs.length∧(∀(j:Nat) (hj:j<k) (hl:j<xs.length),p xs[j]=false)∧F 0=.sl m 4 (xs.map AX)∧F 1=.fn (.func fid) [] caps∧F 7=.n (xs.length:Nat)∧F 8=.n (k:Nat)∧H=h) xs.length ⟨0,AZ,fun j hj=>absurd hj U,AL,AL,AL,AL,rfl⟩ ?_;rintro n F H ⟨k,hk,hb,f0,f1,f7,f8,rfl⟩;refine A8 f7 f8 ?_;refine BM ?_ ?_<;>intro hc
 .have hk':k<xs.length:=BG hc
  simp only[vQ,CG,List.map_cons,List.map_nil,List.nil_append,List.cons_append,↓reduceIte,jC,enP,PQ,f0,f1,f8,CX hk',DC O1 JB EC hk'];refine(hf _ (jI hk')).uu ?_;refine BM ?_ ?_<;>intro hp
  .refine AY f8 ?_
   exact⟨by rw[Q5 p xs k hk' (fun j hj=>hb j hj U) hp],trivial⟩
  .refine A8 f8 (CZ k) ?_
   refine⟨n-1,U,k+1,U,fun j hj hl=>?_,AC,AC,AC,rfl,trivial⟩;rcases Nat.lt_or_ge j k with h1|h1
   .exact hb j h1 hl
   .obtain rfl:j=k:=U
    exact hp
 .refine AA ?_
  have hk':¬k<xs.length:=BG hc;exact⟨by rw[QF p xs fun j hj=>hb j U hj],trivial⟩
theorem AHQ (xs:List Ex)(m:SM)(fid:FuncId)(caps:List AV)(p:Ex->Bool)(h:Hp)(hn:xs.length<=1099511627776)(hf:∀x∈xs,PCall (En G) fid ([.agg (AX x)]++caps) h (.bool (p x))):
  PCall (En G) 253 [.sl m 4 (xs.map AX),.fn (.func fid) [] caps] h (.bool (xs.any p)):=by
 refine acT Tryz.func253 4 ?_;refine AA ?_;refine(ASQ G xs m fid caps p h hn hf).use ?_;refine AY @Q7 ?_;exact HY
theorem A6Q (vs:List Vr)(m:SM)(a:Ex)(c:Nat)(h:Hp)(hc:isS h c m vs)(r:Bool)(hf:∀H,PCall (En G) 175 [.agg [.sl m 4 (vs.map encV)],.agg (AX a)] H (.bool r)):PCall (En G) 254 ([.agg (AX a)]++[.ptr c 0 0]) h (.bool (!r)):=by
 refine ACalls.pure0 rfl ?_;refine acT Tryz.func254 3 ?_;have hc':isS (h++[yK 4 [AX a]]) c m vs:=AB hc;refine DL @bxE @hc'.ld @ldE ?_;refine(hf _).uu ?_;exact⟨AC,_,rfl⟩
theorem ASC (vs:List Vr)(m:SM)(hl:vs.length<=1048576)(hv:∀v∈vs,FT v.name=true)(e:Ex):NdOk e->∀h:Hp,PCall (En G) 175 [.agg [.sl m 4 (vs.map encV)],.agg (AX e)] h (.bool (!OQ vs e)):=by
 induction e using Ex.induct with|h e ih=>?_
 intro hn h;have hnm:=hn.name;have hal:=hn.len;refine ACalls.pure0 rfl ?_;refine acT Tryz.func175 4 ?_;have gs:isS (h++[yK 1 [[.sl m 4 (vs.map encV)]]]++[yK 4 [AX e]]) h.length m vs:=AB (AQ _ _);have ge:=AQ (h++[yK 1 [[.sl m 4 (vs.map encV)]]]) (yK 4 [AX e]);have hx:Sm.ext h (h++[yK 1 [[.sl m 4 (vs.map encV)]]]++[yK 4 [AX e]]):=((ext.rfl' h).app _).app _;refine A8 @bxS @bxE ?_
 generalize h++[yK 1 [[.sl m 4 (vs.map encV)]]]++[yK 4 [AX e]]=H1 at gs ge hx|-
 generalize (h++[yK 1 [[.sl m 4 (vs.map encV)]]]).length=eb at ge|-
 generalize h.length=sb at gs|-
 have last:QC vs e=false->OQ vs e=e.args.any (OQ vs):=fun q=>by rw[UG,q,Bool.false_or]
 have fin:∀x∈e.args,PCall (En G) 254 ([.agg (AX x)]++[.ptr sb 0 0]) H1 (.bool (OQ vs x)):=fun x hx=>by
  have:=A6Q G vs m x sb H1 gs (!OQ vs x) (ih x hx (hn.arg hx))
  rwa [Bool.not_not] at this
 refine AY (AON ge) ?_;cases b2:(e.op==2)
 case true =>
  have ho:e.op=2:=BG b2;refine EM @ALE b2 (isS.l gs) (bL ge) ?_;refine(index_prog G vs m e.name H1 U).uu ?_;refine⟨?_,hx⟩
  have:OQ vs e=decide (plc vs e.name<0):=by
   rw[UG,eH hn.self (.inr (.inl ho))];unfold QC; rw[ho]; simp
  rw[this,<-decide_not];congr 1;rw[decide_eq_decide]; omega
 cases b24:(e.op==24)
 case true =>
  refine EM b2 b24 (isS.ld gs) (bL ge) ?_;refine(size_prog G vs m hl hv e.name U H1).uu ?_;refine BM ?_ ?_<;>intro hc
  .refine AA ?_
   refine⟨?_,hx⟩;have hc:szA vs e.name=0:=BG hc;have:OQ vs e=true:=by rw[UG]; unfold QC; rw[b24,hc]; simp
   rw[this]; rfl
  .have hc:¬szA vs e.name=0:=BG hc
   have hu:QC vs e=false:=by unfold QC; rw[b2,b24]; simp [hc]
   refine AY (U3 ge) ?_;refine(AHQ G e.args e.m 254 [.ptr sb 0 0] (OQ vs) H1 U fin).uu ?_;exact⟨by rw[last hu],hx⟩
 cases b3:(e.op==3)
 case true =>
  refine JG b2 b24 b3 (isS.ld gs) (bL ge) ?_;refine(size_prog G vs m hl hv e.name U H1).uu ?_;refine BM ?_ ?_<;>intro hc
  .refine AA ?_
   refine⟨?_,hx⟩;have hc:szA vs e.name=0:=BG hc;have:OQ vs e=true:=by rw[UG]; unfold QC; rw[b3,hc]; simp
   rw[this]; rfl
  .have hc:¬szA vs e.name=0:=BG hc
   have hu:QC vs e=false:=by unfold QC; rw[b2,b3]; simp [hc]
   refine AY (U3 ge) ?_;refine(AHQ G e.args e.m 254 [.ptr sb 0 0] (OQ vs) H1 U fin).uu ?_;exact⟨by rw[last hu],hx⟩
 have hu:QC vs e=false:=by unfold QC; rw[b2,b24,b3]; rfl
 refine EM b2 b24 b3 (U3 ge) ?_;refine(AHQ G e.args e.m 254 [.ptr sb 0 0] (OQ vs) H1 U fin).uu ?_;exact⟨by rw[last hu],hx⟩
end
def cO (l:List (Nat×Int)):Nat:=l.foldl (fun s x=>min (s+x.1) 401) 1
def UJ (l:List (Nat×Int)):Nat×Int:=l.getLast?.getD (0,-1)
def xtF (vs:List Vr)(op n:Int)(name:ByteArray)(l:List (Nat×Int)):Nat×Int :=
 if op=1 then (1,n) else if op=24 then (2*szA vs name-1,-1) else if op≠3 then (cO l,-1) else if(szA vs name:Int)<=(UJ l).2 then (1,0) else if 0<=(UJ l).2 then (1,-1) else (min (szA vs name*((UJ l).1+4)+1) 401,-1)
mutual
def H6 (vs:List Vr):Ex->Nat×Int
 | .mk op n name _ args=>xtF vs op n name (AEH vs args)
def AEH (vs:List Vr):List Ex->List (Nat×Int)
 | []=>[]
 | e::es=>H6 vs e::AEH vs es
end
theorem uD (vs:List Vr):∀l:List Ex,AEH vs l=l.map (H6 vs)
 | []=>by simp [AEH]
 | e::es=>by simp [AEH,uD vs es]
theorem UO (vs:List Vr)(e:Ex):H6 vs e=xtF vs e.op e.n e.name (e.args.map (H6 vs)):=by
 cases e; simp only[H6,uD]; rfl
theorem sM (l:List (Nat×Int))(x:Nat×Int):cO (l++[x])=min (cO l+x.1) 401:=by unfold cO; rw[List.foldl_append]; rfl
theorem AHI (l:List (Nat×Int))(x:Nat×Int):UJ (l++[x])=x:=by unfold UJ; simp
theorem AJQ (l:List (Nat×Int)):cO l<=401:=by
 rcases List.eq_nil_or_concat l with rfl|⟨l',x,rfl⟩
 .decide
 .rw[List.concat_eq_append,sM]; omega
theorem ALI (vs:List Vr)(e:Ex):(H6 vs e).1<=401:=by
 have:=lX vs e.name;have:=AJQ (e.args.map (H6 vs));rw[UO];unfold xtF;split
 .show(1:Nat)<=401; omega
 split
 .show 2*szA vs e.name-1<=401; omega
 split
 .assumption
 split
 .show(1:Nat)<=401; omega
 split
 .show(1:Nat)<=401; omega
 .show min _ 401<=401; omega
theorem AYX (h:0<=(H6 vs e).2):(H6 vs e).1=1:=by
 have hm:∀x:Nat,¬(0:Int)<=(x,(-1:Int)).2:=fun x=>by show ¬(0:Int)<=-1; decide
 rw[UO] at h|-
 unfold xtF at h|-
 by_cases c1:e.op=1
 .rw[if_pos c1]
 rw[if_neg c1] at h|-
 by_cases c2:e.op=24
 .rw[if_pos c2] at h; exact absurd h (hm _)
 rw[if_neg c2] at h|-
 by_cases c3:e.op≠3
 .rw[if_pos c3] at h; exact absurd h (hm _)
 rw[if_neg c3] at h|-
 by_cases c4:(szA vs e.name:Int)<=(UJ (e.args.map (H6 vs))).2
 .rw[if_pos c4]
 rw[if_neg c4] at h|-
 by_cases c5:0<=(UJ (e.args.map (H6 vs))).2
 .rw[if_pos c5]
 rw[if_neg c5] at h;exact absurd h (hm _)
def exR (x:Nat×Int):List AV:=[.n (x.1:Nat),.n x.2]
theorem A1R (h:Hp):GU jA h 235=some (.ptr h.length 0 0,h++[yK 2 [[.n 0,.n 0]]]):=FI (row:=[.n 0,.n 0]) A7
theorem pG (a b:Int):IY jA 235 [(0,.n a),(1,.n b)]=some (.agg [.n a,.n b]):=A7
theorem iK (hb:H[b]?=some (yK 2 [[.n c,.n d]]))(x y:Int):DT jA H 235 (.ptr b 0 0) (.agg [.n x,.n y])=some (H.set b (yK 2 [[.n x,.n y]])):=by
 rw[IU (cs:=[.n x,.n y]) rfl A0R hb (jF 2)]; rfl
theorem tL (hb:H[b]?=some (yK 2 [[.n c,.n d]])):BH jA H 235 (.ptr b 0 0)=some (.agg [.n c,.n d]):=by
 rw[EF A8G A0R hb rfl (jF 2)]; rfl
theorem AKR (hb:H[b]?=some (yK 2 [[.n c,.n d]])):BH jA H 3 (.ptr b 0 0)=some (.n c):=by rw[BA ag3 hb rfl]; rfl
theorem AX1 (hb:H[b]?=some (yK 2 [[.n c,.n d]])):BH jA H 3 (.ptr b 0 1)=some (.n d):=by rw[BA ag3 hb rfl]; rfl
theorem QM (h:OQ vs e=false)(ha:a∈e.args):OQ vs a=false:=by
 rw[UG,wF] at h;have:=qM.1 h.2 a ha;simpa using this
theorem V6 (h:OQ vs e=false)(ho:e.op=3∨e.op=24):1<=szA vs e.name:=by
 rw[UG,wF] at h;have h1:=h.1;unfold QC at h1;rcases ho with q|q<;>rw[q] at h1<;>simp at h1<;>omega
section
variable (G:Nat->AV)
theorem AOM (vs:List Vr)(m:SM)(hl:vs.length<=1048576)(hv:∀v∈vs,FT v.name=true)(e:Ex):NdOk e->OQ vs e=false->∀h:Hp,PCall (En G) 176 [.agg [.sl m 4 (vs.map encV)],.agg (AX e)] h (.agg (exR (H6 vs e))):=by
 induction e using Ex.induct with|h e ih=>?_
 intro hn hu h;have hnm:=hn.name;have hal:=hn.len;have hsz:=lX vs e.name;refine ACalls.pure (R:=fun v H=>v=.agg (exR (H6 vs e))∧Sm.ext h H) 2 ?_ (fun v H ⟨a,b⟩=>⟨b,by rw[a]; rfl⟩);refine acL Tryz.func176 [.cell 4 235] ?_;have gs:isS (h++[yK 1 [[.sl m 4 (vs.map encV)]]]++[yK 4 [AX e]]++[yK 2 [[.n 0,.n 0]]]) h.length m vs:=AB (AB (AQ _ _));have ge:=AB (x:=yK 2 [[.n 0,.n 0]]) (AQ (h++[yK 1 [[.sl m 4 (vs.map encV)]]]) (yK 4 [AX e]));have gr:=AQ (h++[yK 1 [[.sl m 4 (vs.map encV)]]]++[yK 4 [AX e]]) (yK 2 [[.n 0,.n 0]]);have hx:Sm.ext h (h++[yK 1 [[.sl m 4 (vs.map encV)]]]++[yK 4 [AX e]]++[yK 2 [[.n 0,.n 0]]]):=(((ext.rfl' h).app _).app _).app _;have e1:(h++[yK 1 [[.sl m 4 (vs.map encV)]]]).length=h.length+1:=AZ;have e2:(h++[yK 1 [[.sl m 4 (vs.map encV)]]]++[yK 4 [AX e]]).length=h.length+2:=AZ;refine DL @bxS @bxE A1R ?_
 rw[e1] at ge|-
 rw[e2] at gr|-
 generalize h++[yK 1 [[.sl m 4 (vs.map encV)]]]++[yK 4 [AX e]]++[yK 2 [[.n 0,.n 0]]]=H1 at gs ge gr hx|-
 clear e1 e2;refine AY (AON ge) ?_;cases b1:(e.op==1)
 case true =>
  have ho:e.op=1:=BG b1;refine EM b1 (exN ge) pG (iK gr) ?_;rw[JH (b:=h.length+2) AL (tL (CP gr))];exact⟨by rw[UO]; unfold xtF; rw[if_pos ho]; rfl,hx.set U _⟩
 have o1:¬e.op=1:=BG b1;cases b24:(e.op==24)
 case true =>
  have ho:e.op=24:=BG b24;have h1:=V6 hu (.inr ho);have w1:IntKind.i64.wrap (2*((szA vs e.name:Nat):Int))=2*((szA vs e.name:Nat):Int):=wrap_i64 U U;have w2:IntKind.i64.wrap (2*((szA vs e.name:Nat):Int)-1)=((2*szA vs e.name-1:Nat):Int):=by rw[wrap_i64 U U]; omega
  refine EM b1 b24 (isS.ld gs) (bL ge) ?_;refine(size_prog G vs m hl hv e.name U H1).use ?_;refine EM w1 w2 pG (iK gr) ?_;rw[JH (b:=h.length+2) AL (tL (CP gr))];exact⟨by rw[UO]; unfold xtF; rw[if_neg o1,if_pos ho]; rfl,hx.set U _⟩
 have o24:¬e.op=24:=BG b24;have gs:=AB (x:=yK 2 [[.n 0,.n (-1)]]) gs;have ge:=AB (x:=yK 2 [[.n 0,.n (-1)]]) ge;have lr:=Z gr;have gr:=AB (x:=yK 2 [[.n 0,.n (-1)]]) gr;have gl:=AQ H1 (yK 2 [[.n 0,.n (-1)]]);have hx:=hx.app [yK 2 [[.n 0,.n (-1)]]];have sl235:DT jA (H1++[yK 2 [[.n 0,.n 0]]]) 235 (.ptr H1.length 0 0) (.agg [.n 0,.n (-1)])=some (H1++[yK 2 [[.n 0,.n (-1)]]]):=by rw[iK (AQ _ _),JZ]
 refine JG b1 b24 pG A1R sl235 ?_
 generalize H1++[yK 2 [[.n 0,.n (-1)]]]=H2 at gs ge gr gl hx|-
 generalize H1.length=lb at gl lr|-
 refine AY (U3 ge) ?_;have hlen:(e.args.map (H6 vs)).length=e.args.length:=List.length_map _;refine ER 1 (fun F H=>F 2=.ptr h.length 0 0∧F 3=.ptr (h.length+1) 0 0∧F 4=.ptr (h.length+2) 0 0∧F 5=.n (cO (e.args.map (H6 vs)):Nat)∧F 6=.ptr lb 0 0∧isS H h.length m vs∧H[h.length+1]?=some (yK 4 [AX e])∧H[h.length+2]?=some (yK 2 [[.n 0,.n 0]])∧H[lb]?=some (yK 2 [exR (UJ (e.args.map (H6 vs)))])∧Sm.ext h H) (fun _ _=>False) ?_ ?_ (fun _ _ q=>q.elim)
 .refine BJ (fun n F H=>∃j,n+j=e.args.length∧F 2=.ptr h.length 0 0∧F 3=.ptr (h.length+1) 0 0∧F 4=.ptr (h.length+2) 0 0∧F 5=.n (cO ((e.args.map (H6 vs)).take j):Nat)∧F 6=.ptr lb 0 0∧F 28=.sl e.m 4 (e.args.map AX)∧F 29=.n (e.args.length:Nat)∧F 30=.n (j:Nat)∧isS H h.length m vs∧H[h.length+1]?=some (yK 4 [AX e])∧H[h.length+2]?=some (yK 2 [[.n 0,.n 0]])∧H[lb]?=some (yK 2 [exR (UJ ((e.args.map (H6 vs)).take j))])∧Sm.ext h H) e.args.length
   ⟨0,AZ,AL,AL,AL,AL,AL,AL,AL,AL,gs,ge,gr,gl,hx⟩ ?_
  clear gs ge gr gl hx;rintro n F H ⟨j,hj,f2,f3,f4,f5,f6,f28,f29,f30,gs,ge,gr,gl,hx⟩;refine A8 f29 f30 ?_;refine D8 ?_ ?_<;>intro hj'
  .have hmem:e.args[j]∈e.args:=jI hj'
   have gs:=AB (x:=yK 4 [AX e.args[j]]) gs;have ge:=AB (x:=yK 4 [AX e.args[j]]) ge;have gr:=AB (x:=yK 4 [AX e.args[j]]) gr;have gl:=AB (x:=yK 4 [AX e.args[j]]) gl;have hx:=hx.app [yK 4 [AX e.args[j]]];have ga:=AQ H (yK 4 [AX e.args[j]]);simp only[vQ,CG,↓reduceIte,jC,enP,PQ,Option.getD_none,f28,f30,CX hj',DC O1 JB EC hj',al79,st79]
   generalize H++[yK 4 [AX e.args[j]]]=H3 at gs ge gr gl hx ga|-
   generalize H.length=ab at ga|-
   refine EM f2 f6 (isS.ld gs) (IM ga) ?_;refine(ih e.args[j] hmem (hn.arg hmem) (QM hu hmem) H3).use ?_;have hj2:j<(e.args.map (H6 vs)).length:=U;have hget:(e.args.map (H6 vs))[j]=H6 vs e.args[j]:=AZ;have ss:DT jA H3 235 (.ptr lb 0 0) (.agg (exR (H6 vs e.args[j])))=some (H3.set lb (yK 2 [exR (H6 vs e.args[j])])):=iK gl _ _;have gs':isS (H3.set lb (yK 2 [exR (H6 vs e.args[j])])) h.length m vs:=by unfold isS; rw[jY U]; exact gs
   have ge':(H3.set lb (yK 2 [exR (H6 vs e.args[j])]))[h.length+1]?=some (yK 4 [AX e]):=by rw[jY U]; exact ge
   have gr':(H3.set lb (yK 2 [exR (H6 vs e.args[j])]))[h.length+2]?=some (yK 2 [[.n 0,.n 0]]):=by rw[jY U]; exact gr
   have gl':(H3.set lb (yK 2 [exR (H6 vs e.args[j])]))[lb]?=some (yK 2 [exR (H6 vs e.args[j])]):=CP gl;have hx':=hx.set (b:=lb) U (yK 2 [exR (H6 vs e.args[j])]);refine DL @ALD f6 ss ?_
   generalize H3.set lb (yK 2 [exR (H6 vs e.args[j])])=H4 at gs' ge' gr' gl' hx'|-
   have s1:=AJQ ((e.args.map (H6 vs)).take j);have s2:=ALI vs e.args[j];have w1:IntKind.i64.wrap (((cO ((e.args.map (H6 vs)).take j):Nat):Int)+(((H6 vs e.args[j]).1:Nat):Int))=((cO ((e.args.map (H6 vs)).take j)+(H6 vs e.args[j]).1:Nat):Int):=by rw[wrap_i64 U U]; omega
   have mn:min (((cO ((e.args.map (H6 vs)).take j)+(H6 vs e.args[j]).1:Nat):Int)) 401=((cO ((e.args.map (H6 vs)).take (j+1)):Nat):Int):=by
    rw[jU hj2,sM,hget]; omega
   refine NW f5 f6 f30 (AKR gl') w1 mn (CZ j) ?_;refine⟨n-1,U,j+1,U,AC,AC,AC,AC,AC,AC,AC,AC,gs',ge',gr',?_,hx'⟩;rw[jU hj2,AHI,hget]; exact gl'
  .rw[List.take_of_length_le U] at f5 gl
   refine AA ?_;exact⟨AC,AC,AC,AC,AC,gs,ge,gr,gl,hx⟩
 clear gs ge gr gl hx;rintro F H ⟨f2,f3,f4,f5,f6,gs,ge,gr,gl,hx⟩;have hext:=UO vs e;unfold xtF at hext;rw[if_neg o1,if_neg o24] at hext;refine EM f2 f3 (isS.ld gs) (bL ge) ?_;refine(size_prog G vs m hl hv e.name U H).use ?_;refine A8 f3 (AON ge) ?_;cases b3:(e.op != 3)
 case true =>
  have ho:e.op≠3:=BG b3;refine JG b3 f4 f5 pG (iK gr) ?_;rw[JH (b:=h.length+2) (EE f4) (tL (CP gr))];exact⟨by rw[hext,if_pos ho]; rfl,hx.set U _⟩
 have o3:e.op=3:=BG b3;rw[if_neg (fun q=>q o3)] at hext;have hz:=V6 hu (.inl o3);obtain⟨a,hargs⟩:=VR hn.self o3;have hle:(UJ (e.args.map (H6 vs))).1<=401:=by rw[hargs]; exact ALI vs a
 generalize UJ (e.args.map (H6 vs))=x at gl hext hle;have g0:=AKR gl;have g1:=AX1 gl;refine EM @ALC b3 f6 g1 ?_;cases c1:decide (x.2≥((szA vs e.name:Nat):Int))
 case true =>
  have q:=of_decide_eq_true c1;refine EM c1 f4 pG (iK gr) ?_;rw[JH (b:=h.length+2) (EE f4) (tL (CP gr))];exact⟨by rw[hext,if_pos q]; rfl,hx.set U _⟩
 have q:=of_decide_eq_false c1;rw[if_neg q] at hext;refine EM @ALC c1 f6 g1 ?_;cases c2:decide (x.2≥(0:Int))
 case true =>
  have q:=of_decide_eq_true c2;refine EM c2 f4 pG (iK gr) ?_;rw[JH (b:=h.length+2) (EE f4) (tL (CP gr))];exact⟨by rw[hext,if_pos q]; rfl,hx.set U _⟩
 have q2:=of_decide_eq_false c2;rw[if_neg q2] at hext;have w1:IntKind.i64.wrap (((x.1:Nat):Int)+4)=((x.1+4:Nat):Int):=by rw[wrap_i64 U U]; omega
 have hm8:szA vs e.name*(x.1+4)<=8*405:=Nat.mul_le_mul hsz U;have w2:IntKind.i64.wrap (((szA vs e.name:Nat):Int)*((x.1+4:Nat):Int))=((szA vs e.name*(x.1+4):Nat):Int):=by rw[<-Int.natCast_mul,wrap_i64 U U]
 have w3:IntKind.i64.wrap (((szA vs e.name*(x.1+4):Nat):Int)+1)=((szA vs e.name*(x.1+4)+1:Nat):Int):=by rw[wrap_i64 U U]; omega
 have mn:min (((szA vs e.name*(x.1+4)+1:Nat):Int)) 401=((min (szA vs e.name*(x.1+4)+1) 401:Nat):Int):=U;refine cB @ALD c2 f4 f6 g0 w1 w2 w3 mn pG (iK gr) ?_;rw[JH (b:=h.length+2) (EE f4) (tL (CP gr))];exact⟨by rw[hext]; rfl,hx.set U _⟩
end
end Go.Proofs.YtiihpnicbekebaaGreatDoor.Bd.Cl
namespace Go.Proofs.YtiihpnicbekebaaGreatDoor.Ho
open Sm Bins Cov Go.RowKit
variable {m:Mo} {x:Hl} {ins:Ex->List Rng->Ex}
def NI (m:Mo)(x:Hl):List (Nat×Nat):=((kU m x).map Int.toNat).zip (x.bins.map Int.toNat)
theorem AKI (l:List Int)(h:∀z∈l,0<=z):(l.map Int.toNat).map (fun n:Nat=>(n:Int))=l:=by
 rw[qW]
 conv=>rhs; rw[<-List.map_id l]
 exact List.map_congr_left fun z hz=>by have:=h z hz; show((z.toNat:Nat):Int)=z; omega
theorem fC (hv:MF m x=true):Prt m x (NI m x):=by
 have mk:∀(ps bs:List Int),kU m x=ps->x.bins=bs->ps.length=bs.length->(∀z∈ps,0<=z)->(∀z∈bs,0<=z)->1<=ps.length->ps.length<=4 ->
   (∀k (h1:k<ps.length) (h2:k<bs.length),∃h:ps[k].toNat<m.pts.length,bs[k].toNat<m.pts[ps[k].toNat].bins.length)->Prt m x (NI m x):=by
  intro ps bs hp hb hl p0 b0 l1 l4 hok
  have e1:(NI m x).map Prod.fst=ps.map Int.toNat:=by
   unfold NI;rw[hp,hb,List.map_fst_zip (by simp [hl])]
  have e2:(NI m x).map Prod.snd=bs.map Int.toNat:=by
   unfold NI;rw[hp,hb,List.map_snd_zip (by simp [hl])]
  have hlen:(NI m x).length=ps.length:=by have:=congrArg wO e1; simpa using this
  refine⟨?_,?_,fun q hq=>?_,U,U⟩
  .have:=congrArg (List.map fun n:Nat=>(n:Int)) e1
   rw[AKI ps p0,qW] at this;rw[hp]; exact this.symm
  .have:=congrArg (List.map fun n:Nat=>(n:Int)) e2
   rw[AKI bs b0,qW] at this;rw[hb]; exact this.symm
  .obtain⟨k,hk,rfl⟩:=qO hq
   have h1:k<ps.length:=U;have h2:k<bs.length:=U
   have g1:(NI m x)[k].1=ps[k].toNat:=by
    have:((NI m x).map Prod.fst)[k]?=(ps.map Int.toNat)[k]? := by rw[e1]
    rw[jV,jV,jG hk,jG h1] at this;simpa using this
   have g2:(NI m x)[k].2=bs[k].toNat:=by
    have:((NI m x).map Prod.snd)[k]?=(bs.map Int.toNat)[k]? := by rw[e2]
    rw[jV,jV,jG hk,jG h2] at this;simpa using this
   obtain⟨q1,q2⟩:=hok k h1 h2;rw[<-g1] at q1;refine⟨q1,?_⟩;rw[g2];have:m.pts[(NI m x)[k].1]=m.pts[ps[k].toNat]:=by congr 1
   rw[this]; exact q2
 cases hc:x.cross
 .obtain⟨i,hi,k,hk,hz,hb,hkd,hg⟩:=VA hv hc
  refine mk [(i:Int)] [(k:Int)] ?_ hb rfl (fun z hz=>?_) (fun z hz=>?_) AZ AZ fun k' h1 h2=>?_
  .unfold kU; rw[if_neg (by rw[hc]; decide),hz]
  .rw[qP.1 hz]; omega
  .rw[qP.1 hz]; omega
  .have:k'=0:=by simp at h1; omega
   subst this;exact⟨hi,hk⟩
 .obtain⟨i,hi,hz,hin,hh,hg⟩:=VC hv hc
  have hcg:=hg.crs _ (jI hi);have hl:=TB hin;have hl2:m.crs[i].pts.length=x.bins.length:=by rw[<-hl]; unfold szs; rw[jM]
  have h2:=hcg.two; have h4:=hcg.four;refine mk m.crs[i].pts x.bins ?_ rfl hl2 (fun z hz=>(hcg.here z hz).1) (fun z hz=>?_) U U fun k h1 h2=>?_
  .unfold kU; rw[if_pos hc,hz,UR hi]
  .obtain⟨k,hk,rfl⟩:=qO hz
   exact(dN hin k hk U).1
  .obtain⟨q1,q2⟩:=dN hin k h2 h1
   refine⟨hcg.here.toNat h1,?_⟩;have:=hcg.here.bins h1;rw[this]; omega
theorem A37 (hm:MoOk m)(h0:FK m=0){p:Pt}(hp:p∈m.pts){b:Bin}(hb:b∈p.bins):BdB p b:=by
 have v:=lT h0 p hp;have vb:=v.bins b hb;have h1:=v.n64;have h2:=vb.few;have h3:=v.badLen;exact⟨vb.ne,U,fun s hs=>by have:=(vb.each s hs).2.1; omega,U,U,(hm.pts p hp).ex⟩
theorem AE8 {P:Ex->Prop}{ins:Ex->List Rng->Ex}{m:Mo}(h0:FK m=0){q:Nat×Nat}(h:q.1<m.pts.length)(h2:q.2<m.pts[q.1].bins.length)
  (h3:∀l:List Rng,l.length<=4096->P (ins m.pts[q.1].ex l)∧P (notE (ins m.pts[q.1].ex l))):∀r∈cdQ ins m q,r.length<=2∧∀e∈r,P e:=by
 rw[AAJ ins h h2];have v:=lT h0 _ (jI h);have vb:=v.bins _ (jI h2);exact AO4 (fun s hs=>(h3 s.l (by have:=(vb.each s hs).2.1; omega)).1) fun _=>(h3 _ v.badLen).2
theorem lL (h0:FK m=0){q:Nat×Nat}(h:q.1<m.pts.length)(h2:q.2<m.pts[q.1].bins.length):1<=(cdQ ins m q).length∧(cdQ ins m q).length<=8:=by
 rw[AAJ ins h h2,AE3];have vb:=(lT h0 _ (jI h)).bins _ (jI h2);exact⟨List.length_pos_iff.2 vb.ne,vb.few⟩
theorem AIX {P:Ex->Prop}{cs:List (List (List Ex))}(h:∀c∈cs,∀r∈c,∀e∈r,P e):∀r∈JX cs,∀e∈r,P e:=by
 intro r hr e he;unfold JX at hr;obtain⟨t,_,rfl⟩:=zH.1 hr;unfold rowA at he;obtain⟨c,hc,he⟩:=List.mem_flatMap.1 he;unfold rowC at he;split at he
 .cases hx:c[t-(OV cs-c.length)]? with
  | none=>rw[hx] at he; cases he
  | some r0=>rw[hx] at he; exact h c hc r0 (List.mem_of_getElem? hx) e he
 .cases he
theorem AD7 {B:Nat}:∀ {R:List (List Ex)},(∀r∈R,r.length<=B)->R.flatten.length<=B*R.length
 | [],_=>AZ
 | r::R,h=>by
   have h1:=h r AZ;have h2:=AD7 (R:=R) fun r hr=>h r (by simp [hr])
   rw[List.flatten_cons,List.length_append,List.length_cons,Nat.mul_add]; omega
theorem uV {cs:List (List (List Ex))}(h4:cs.length<=4)(h8:∀c∈cs,c.length<=8)(h2:∀c∈cs,∀r∈c,r.length<=2):(JX cs).length<=8∧(∀r∈JX cs,r.length<=8)∧(JX cs).flatten.length<=64:=by
 have hn:OV cs<=8:=WM cs 0 _ (Nat.zero_le _) h8;have a:(JX cs).length<=8:=by unfold JX; simpa using hn
 have b:∀r∈JX cs,r.length<=8:=fun r hr=>by
  unfold JX at hr;obtain⟨t,_,rfl⟩:=zH.1 hr;have:=mL (n:=OV cs) (t:=t) h2;omega
 refine⟨a,b,?_⟩;have:=AD7 b;omega
def cnL (ins:Ex->List Rng->Ex)(m:Mo)(x:Hl):List (List Ex):=A64 ins m (NI m x)
def cnE (ins:Ex->List Rng->Ex)(m:Mo)(x:Hl):Int:=if MF m x=true then (if(cnL ins m x).flatten.all (fun e=>exE e==0)=true then 0 else 2) else 1
def cnV (ins:Ex->List Rng->Ex)(m:Mo)(x:Hl):AV:=.tup [if cnE ins m x=0 then .sl .any 1 ((cnL ins m x).map TG) else .sl .nil 0 [],.n (cnE ins m x)]
theorem ANB (G:Nat->AV)(m:Mo)(x:Hl)(hv:MF m x=true)(h:Hp):∃s,PCall (En G) 94 [.agg (DR m),.agg (FX x)] h (.sl s 1 ((kU m x).map Bins.qencI)):=by
 cases hc:x.cross
 .obtain⟨i,hi,k,hk,hz,hb,hkd,hg⟩:=VA hv hc
  exact⟨_,by have:=ACU G m x hc h; unfold kU; rw[if_neg (by rw[hc]; decide)]; exact this⟩
 .obtain⟨i,hi,hz,hin,hh,hg⟩:=VC hv hc
  exact⟨_,by have:=ACV G m x hc i hi hz h; unfold kU; rw[if_pos hc,hz,UR hi]; exact this⟩
section
variable (G:Nat->AV)
theorem AIL (m:Mo)(hm:MoOk m)(h0:FK m=0)(x:Hl)(L:List (Nat×Nat))(hL:Prt m x L)(j:Nat)(hj:j<L.length)(b2 b3:Nat)(h:Hp)(gm:h[b2]?=some (yK 2 [DR m]))(gh:h[b3]?=some (yK 3 [FX x])):
  PCall (En G) 92 [.n (j:Nat),.n (L[j].1:Nat),.ptr b2 0 0,.ptr b3 0 0] h (.sl .any 1 ((cdQ D7 m L[j]).map encX)):=by
 obtain⟨h1,h2⟩:=hL.ok _ (jI hj);have B:=A37 hm h0 (jI h1) (jI h2);have hb:j<x.bins.length:=by rw[hL.bins,jM]; exact hj
 have hbj:x.bins[j]=((L[j].2:Nat):Int):=by
  have:x.bins[j]?=(L.map fun q=>((q.2:Nat):Int))[j]? := by rw[<-hL.bins]
  rw[jG hb,jV,jG hj] at this;simpa using this
 rw[AAJ D7 h1 h2];refine acT Tryz.func92 6 ?_;refine AA ?_;refine DZ A7 ?_;simp only[vQ,LM,O4,NU,↓reduceIte,jC,Nat.reduceAdd,Nat.add_zero,Nat.zero_add,enP,XG,PX,LY,bI,dK gm,CX h1,DC lA aQ H7 h1,AR5 gh,CX hb,CU ag3 hb,Cov.encI0,hbj];refine⟨_,oY G m.pts[L[j].1] L[j].2 h2 B h,?_⟩
 try refine AA ?_
 exact⟨AC,AC⟩
end
theorem A7I (h:Hp)(xs:List (List AV)):C9 jA false h 159 1 [(0,.sl .any 1 xs)]=some (.sl .full 1 [[.sl .any 1 xs]],h):=A7
theorem A6M:∀l:List (List (List Ex)),MW (l.map XA)=true:=fun l=>by
 unfold MW;rw[List.all_eq_true];intro row hr;obtain⟨c,_,rfl⟩:=zH.1 hr; rfl
theorem AZA (ins:Ex->List Rng->Ex)(m:Mo)(x:Hl)(n:Nat)(H:Hp):EZ n H 3 (cnV ins m x)=cnV ins m x:=by
 unfold cnV;split<;>rfl
theorem AZB (h:MF m x=false):cnV ins m x=.tup [.sl .nil 0 [],.n 1]:=by
 have:cnE ins m x=1:=by unfold cnE; rw[if_neg (by rw[h]; decide)]
 unfold cnV;rw[this]; rfl
theorem AY9 (h:MF m x=true)(hc:(cnL ins m x).flatten.all (fun e=>exE e==0)=false):cnV ins m x=.tup [.sl .nil 0 [],.n 2]:=by
 have:cnE ins m x=2:=by unfold cnE; rw[if_pos h,if_neg (by rw[hc]; decide)]
 unfold cnV;rw[this]; rfl
theorem A3W (h:MF m x=true)(hc:(cnL ins m x).flatten.all (fun e=>exE e==0)=true):cnV ins m x=.tup [.sl .any 1 ((cnL ins m x).map TG),.n 0]:=by
 have:cnE ins m x=0:=by unfold cnE; rw[if_pos h,if_pos hc]
 unfold cnV;rw[this]; rfl
theorem vI (h:MF m x=true):FK m=0:=by
 unfold MF at h;rw[Bool.and_eq_true] at h;simpa using h.1
section
variable (G:Nat->AV)
theorem qD (hG:GOk G)(m:Mo)(hm:MoOk m)(x:Hl)(hn:x.bins.length<=1048576)(h:Hp):PCall (En G) 43 [.agg (DR m),.agg (FX x)] h (cnV D7 m x):=by
 refine ACalls.pure (R:=fun v H=>v=cnV D7 m x∧Sm.ext h H) 3 ?_ (fun v H ⟨a,b⟩=>⟨b,by rw[a,AZA]⟩);refine JE (H:=hint [] [(36,[35])]) (enM G) Tryz.func43 rfl (by kernel_rfl) (by kernel_rfl) (jB (by kernel_rfl)) ?_;show awp _ _ _ _ _ (MJ _ [.tmp 4,.tmp 5] _);have t:=Hb.mk' h m x;refine A8 @bxM @bxH ?_
 generalize h++[yK 2 [DR m]]++[yK 3 [FX x]]=H at t|-
 generalize (h++[yK 2 [DR m]]).length=hb at t|-
 refine A8 (ldM t.gm) (ldH t.gh) ?_;refine(valid_prog G hG m hm x hn H).use ?_;cases hv:MF m x
 .refine AA ?_
  exact⟨by rw[AZB hv],t.hx⟩
 have h0:=vI hv;have hL:=fC hv;obtain⟨s,hp⟩:=ANB G m x hv H;rw[hL.pts] at hp;refine A8 (ldM t.gm) (ldH t.gh) ?_;refine hp.use ?_;have hcl:cnL D7 m x=JX ((NI m x).map (cdQ D7 m)):=rfl;have hln:=hL.n4;have hl1:=hL.n1
 have hev:∀q∈NI m x,(∀r∈cdQ D7 m q,r.length<=2∧∀e∈r,WN e)∧1<=(cdQ D7 m q).length∧(cdQ D7 m q).length<=8:=fun q hq=>by
  obtain⟨a,b⟩:=hL.ok q hq;have hw:=(hm.pts _ (jI a)).ex;exact⟨AE8 h0 a b fun l hl=>⟨(AL5 hw hl).1,(AZ5 (AL5 hw hl)).1⟩,lL h0 a b⟩
 generalize NI m x=L at hL hcl hln hl1 hev;refine AA ?_;refine ER 0 (fun F H'=>∃v,F 7=v∧Sm.ext H H'∧outG 1 XA H (L.map (cdQ D7 m)) v H') (fun _ _=>False) ?_ ?_ (fun _ _ q=>q.elim)
 .refine BJ (fun n F H'=>∃j v,n+j=L.length∧F 6=.fn (.func 92) [] [.ptr h.length 0 0,.ptr hb 0 0]∧F 7=v∧F 20=.sl s 1 ((L.map fun q=>((q.1:Nat):Int)).map Bins.qencI)∧F 21=.n (L.length:Nat)∧F 22=.n (j:Nat)∧Sm.ext H H'∧outG 1 XA H ((L.take j).map (cdQ D7 m)) v H') L.length
   ⟨0,.sl .nil 0 [],AZ,AL,AL,AL,AL,AL,ext.rfl' _,by rw[List.take_zero]; exact outG.nil _ _ _ _⟩ ?_
  rintro n F H' ⟨j,v,hj,f6,f7,f20,f21,f22,hx,ho⟩;refine A8 f21 f22 ?_;refine D8 ?_ ?_<;>intro hj'
  .have hj2:j<(L.map fun q=>((q.1:Nat):Int)).length:=by rw[jM]; exact hj'
   have hg:(L.map fun q=>((q.1:Nat):Int))[j]=((L[j].1:Nat):Int):=AZ;have hlen:((L.take j).map (cdQ D7 m)).length<8388608:=by rw[jM,List.length_take]; omega
   obtain⟨v',H2,ha,ho2,_,he2,_,_⟩:=ho.append (P:=jA) A4U A0T A4K A7D U hlen hx (cdQ D7 m L[j]);have ha':EP jA true H' 159 159 v (.sl .full 1 [[.sl .any 1 ((cdQ D7 m L[j]).map encX)]])=some (v',H2):=ha
   have hst:(L.take (j+1)).map (cdQ D7 m)=(L.take j).map (cdQ D7 m)++[cdQ D7 m L[j]]:=by
    rw[List.take_succ_eq_append_getElem hj',qR]; rfl
   simp only[vQ,jX,zB,CG,List.nil_append,List.cons_append,↓reduceIte,jC,enP,LY,qU,TD,f6,f7,f20,f22,CX hj2,CU ag3 hj2,Cov.encI0,hg];refine(AIL G m hm h0 x L hL j hj' h.length hb H' (DV hx t.gm) (DV hx t.gh)).use ?_;refine JG f7 f22 @A7I ha' (CZ j) ?_;exact⟨n-1,U,j+1,v',U,AC,AC,AC,AC,AC,he2,by rw[hst]; exact ho2⟩
  .rw[jJ U] at ho
   refine AA ?_;exact⟨v,AC,hx,ho⟩
 rintro F H' ⟨v,f7,hx,ho⟩;have hcl4:(L.map (cdQ D7 m)).length<=4:=by rw[jM]; exact hln
 have hcl1:L.map (cdQ D7 m)≠[]:=by intro q; have:=congrArg wO q; rw[jM,List.length_nil] at this; omega
 have hc8:∀c∈L.map (cdQ D7 m),c.length<=8:=fun c hc=>by
  obtain⟨q,hq,rfl⟩:=zH.1 hc;exact(hev q hq).2.2
 have hc2:∀c∈L.map (cdQ D7 m),∀r∈c,r.length<=2:=fun c hc r hr=>by
  obtain⟨q,hq,rfl⟩:=zH.1 hc;exact((hev q hq).1 r hr).1
 have hcw:∀c∈L.map (cdQ D7 m),∀r∈c,∀e∈r,WN e:=fun c hc r hr=>by
  obtain⟨q,hq,rfl⟩:=zH.1 hc;exact((hev q hq).1 r hr).2
 generalize L.map (cdQ D7 m)=cs at ho hcl hcl4 hcl1 hc8 hc2 hcw;clear hev hp
 obtain⟨o,rfl,ho1,hob⟩:∃o,v=.own o 0 cs.length∧H.length<=o∧H'[o]?=some (yK 1 (cs.map XA)):=by
  rcases ho with⟨e1,_⟩|⟨_,o,h1,h2,h3⟩
  .exact absurd e1 hcl1
  .exact⟨o,h2,h1,h3⟩
 have hz:=ADZ (i:=35) (off:=0) (len:=cs.length) hob AZ (by rw[zT,jJ AZ]; exact A6M cs);rw[zT,jJ AZ] at hz;have hx2:=hx.set ho1 .dead;refine DL f7 @AD0 hz ?_
 generalize H'.set o .dead=H2 at hx2|-
 refine(AAQ G cs .any U (fun c hc=>by have:=hc8 c hc; omega) hc2 H2).use ?_;obtain⟨ha1,ha2,ha3⟩:=uV hcl4 hc8 hc2
 have haw:∀e∈(JX cs).flatten,WN e:=fun e he=>by
  obtain⟨r,hr,he⟩:=List.mem_flatten.1 he;exact AIX hcw r hr e he
 rw[<-hcl] at ha1 ha2 ha3 haw|-
 clear hcl;refine AA ?_;refine(concat_prog G (cnL D7 m x) .any U U H2).uu ?_
 generalize hE:(cnL D7 m x).flatten=E at ha3 haw|-
 have hok:∀b,E.all (fun e=>exE e==0)=b->(cnL D7 m x).flatten.all (fun e=>exE e==0)=b:=fun b hb=>by rw[hE]; exact hb
 have hhx:=t.hx.trans hx2;refine ER 2 (fun F H'=>F 10=.sl .any 1 ((cnL D7 m x).map TG)∧Sm.ext h H'∧E.all (fun e=>exE e==0)=true) (fun F H'=>F 4=.sl .nil 0 []∧F 5=.n 2∧Sm.ext h H'∧E.all (fun e=>exE e==0)=false) ?_ ?_ ?_
 .refine BJ (fun n F H'=>∃i,n+i=E.length∧F 10=.sl .any 1 ((cnL D7 m x).map TG)∧F 38=.sl (Cov.nm E) 4 (E.map AX)∧F 39=.n (E.length:Nat)∧F 40=.n (i:Nat)∧Sm.ext h H'∧E.all (fun e=>exE e==0)=(E.drop i).all (fun e=>exE e==0)) E.length
   ⟨0,AZ,AL,AL,AL,AL,hhx,rfl⟩ ?_
  rintro n F H3 ⟨i,hi,f10,f38,f39,f40,hx3,hq⟩;refine A8 f39 f40 ?_;refine D8 ?_ ?_<;>intro hi'
  .rw[List.drop_eq_getElem_cons hi',List.all_cons] at hq
   simp only[vQ,jX,zB,CG,↓reduceIte,jC,enP,PQ,Option.getD_none,qU,TD,f38,f40,CX hi',DC O1 JB EC hi',RJ,rD _ _ [.n 0,.n 0,.str ⟨#[]⟩,.sl .nil 0 []] rfl,ldE];refine(aC G hG E[i] _ (haw _ (jI hi'))).use ?_;simp only[vQ,jX,zB,CG,↓reduceIte,enP,qU,TD,bne];cases hz:(exE E[i]==0)
   .rw[hz,Bool.false_and] at hq
    refine AA ?_;exact⟨AC,AC,hx3.app _,hq⟩
   .rw[hz,Bool.true_and] at hq
    refine A8 f40 (CZ i) ?_;exact⟨n-1,U,i+1,U,AC,AC,AC,AC,hx3.app _,hq⟩
  .rw[List.drop_eq_nil_of_le U] at hq
   refine AA ?_;exact⟨AC,hx3,hq⟩
 .rintro F H3 ⟨f10,hx3,hq⟩
  refine AY f10 ?_;exact⟨by rw[A3W hv (hok _ hq)],hx3⟩
 .rintro F H3 ⟨f4,f5,hx3,hq⟩
  refine A8 f4 f5 ?_;exact⟨by rw[AY9 hv (hok _ hq)],hx3⟩
end
theorem ALQ (e:Ex):(cpE e).op=e.op:=by rw[bQ]; rfl
theorem A62 (e:Ex):(cpE e).n=e.n:=by rw[bQ]; rfl
theorem lK (e:Ex):(cpE e).name=e.name:=by rw[bQ]; rfl
theorem AAF (e:Ex):(cpE e).args=e.args.map cpE:=by rw[bQ]; rfl
theorem ACP:∀l:List Ex,(∀e∈l,pre (cpE e)=(pre e).map cpE)->FD (l.map cpE)=(FD l).map cpE
 | [],_=>rfl
 | e::l,h=>by
   show pre (cpE e)++FD (l.map cpE)=(pre e++FD l).map cpE;rw[qR,h e AZ,ACP l fun x hx=>h x (by simp [hx])]
theorem AG4 (e:Ex):pre (cpE e)=(pre e).map cpE:=by
 induction e using Ex.induct with|h e ih=>?_
 rw[pre_eq,pre_eq e,AAF,ACP _ ih,jK]
end Go.Proofs.YtiihpnicbekebaaGreatDoor.Ho
namespace Go.Proofs.YtiihpnicbekebaaGreatDoor.Bd.Cl
open Sm Bins Cov Xe Wd Bl Ho Go.RowKit
variable {vs:List Vr} {e:Ex}
def vaE (a:ByteArray)(k:Nat):Ex:=JF (elN a k)
def V9 (a:ByteArray):Nat->Ex
 | 0=>vaE a 0
 | k+1=>.mk 7 0 ⟨#[]⟩ .full [V9 a k,vaE a (k+1)]
def chK (c:Ex->Ex)(a:ByteArray)(i:Ex)(n:Nat):Nat->Ex
 | 0=>cE 0
 | j+1=>.mk 22 0 ⟨#[]⟩ .full [.mk 15 0 ⟨#[]⟩ .full [c i,cE ((n-1-j:Nat):Int)],vaE a (n-1-j),chK c a i n j]
def ZT (c:Ex->Ex)(a:ByteArray)(i:Ex)(n:Nat):Ex:=if i.op=1 then (if i.n<(n:Int) then vaE a i.n.toNat else cE 0) else chK c a i n n
structure Bw where
 c:Ex->Ex
 md:List Ex->SM
def scF (s:Bw)(vs:List Vr)(op n:Int)(name:ByteArray)(l:List Ex):Ex :=
 if op=24 then V9 name (szA vs name-1) else if op=3 then ZT s.c name (l.head?.getD (cE 0)) (szA vs name) else .mk op n name (s.md l) l
mutual
def GI (s:Bw)(vs:List Vr):Ex->Ex
 | .mk op n name _ args=>scF s vs op n name (ABZ s vs args)
def ABZ (s:Bw)(vs:List Vr):List Ex->List Ex
 | []=>[]
 | e::es=>GI s vs e::ABZ s vs es
end
theorem sR (s:Bw)(vs:List Vr):∀l:List Ex,ABZ s vs l=l.map (GI s vs)
 | []=>by simp [ABZ]
 | e::es=>by simp [ABZ,sR s vs es]
theorem WB (s:Bw)(vs:List Vr)(e:Ex):GI s vs e=scF s vs e.op e.n e.name (e.args.map (GI s vs)):=by
 cases e; simp only[GI,sR]; rfl
def sdP:Bw:=⟨cpE,fun _=>.any⟩
def Bw.Len (s:Bw):Prop:=∀e,(pre (s.c e)).length=(pre e).length∧(∀N,NmB N e->NmB N (s.c e))
theorem AJV:sdP.Len:=fun e=>⟨by show(pre (cpE e)).length=_; rw[AG4,List.length_map],fun N h=>AL8 e h⟩
theorem WI (op n:Int)(name:ByteArray)(m:SM)(l:List Ex):(pre (.mk op n name m l)).length=1+(FD l).length:=by rw[pre_eq,List.length_cons]; show _+1=1+(FD l).length; rw[Nat.add_comm]; rfl
theorem mT:FD []=[]:=rfl
theorem PE (e:Ex)(l:List Ex):FD (e::l)=pre e++FD l:=rfl
theorem AJI (a:ByteArray)(k:Nat):(pre (vaE a k)).length=1:=rfl
theorem A30 (n:Int):(pre (cE n)).length=1:=rfl
theorem ABL (a:ByteArray):∀k,(pre (V9 a k)).length=2*k+1
 | 0=>rfl
 | k+1=>by
   have ih:=ABL a k;show(pre (.mk 7 0 ⟨#[]⟩ .full [V9 a k,vaE a (k+1)])).length=_;rw[WI,PE,PE,mT,jT,jT,ih,AJI]; simp; omega
theorem ALT {s:Bw}(hs:s.Len)(a:ByteArray)(i:Ex)(n:Nat):∀j,(pre (chK s.c a i n j)).length=j*((pre i).length+4)+1
 | 0=>by rw[Nat.zero_mul]; rfl
 | j+1=>by
   have ih:=ALT hs a i n j;show(pre (.mk 22 0 ⟨#[]⟩ .full [.mk 15 0 ⟨#[]⟩ .full [s.c i,cE ((n-1-j:Nat):Int)],vaE a (n-1-j),chK s.c a i n j])).length=_;rw[WI,PE,PE,PE,mT,jT,jT,jT,ih,AJI,WI,PE,PE,mT,jT,jT,A30,(hs i).1,Nat.add_mul];simp; omega
theorem ADA (x:Nat):¬(0:Int)<=((x,-1):Nat×Int).2:=by show ¬(0:Int)<=-1; decide
theorem AK7:∀(l:List (Nat×Int)) (s:Nat),s<=401->s<=l.foldl (fun s x=>min (s+x.1) 401) s
 | [],s,_=>jF s
 | x::l,s,h=>by
   have:=AK7 l (min (s+x.1) 401) U;rw[wC]; omega
theorem AD4:∀(l:List (Nat×Int)) (s:Nat),l.foldl (fun s x=>min (s+x.1) 401) s<=400->l.foldl (fun s x=>min (s+x.1) 401) s=(l.map Prod.fst).foldl (·+·) s∧∀x∈l,x.1<=400
 | [],s,_=>⟨rfl,fun x hx=>by cases hx⟩
 | x::l,s,h=>by
   rw[wC] at h|-
   have h1:=AK7 l (min (s+x.1) 401) U;have e:min (s+x.1) 401=s+x.1:=U;obtain⟨i1,i2⟩:=AD4 l (min (s+x.1) 401) h;refine⟨by rw[i1,e]; rfl,fun y hy=>?_⟩;rcases zQ.1 hy with rfl|hy
   .omega
   .exact i2 y hy
theorem ABJ {l:List (Nat×Int)}(h:cO l<=400):cO l=(l.map Prod.fst).foldl (·+·) 1∧∀x∈l,x.1<=400:=AD4 l 1 h
theorem sY:∀(l:List Ex) (z:Nat),z+(FD l).length=(l.map fun e=>(pre e).length).foldl (·+·) z
 | [],z=>rfl
 | e::l,z=>by
   rw[jK,wC,<-sY l,PE,jT]; omega
theorem ATZ (a:ByteArray)(k:Nat):(elN a k).size=a.size+3:=by
 rw[vL,NT,jT,vL]; rfl
theorem lP {a:ByteArray}{k N:Nat}(h:a.size+3<=N):NmB N (vaE a k):=NmB.mk (by rw[ATZ]; exact h) fun x hx=>by cases hx
theorem AF5 {a:ByteArray}{N:Nat}(h:a.size+3<=N):∀k,NmB N (V9 a k)
 | 0=>lP h
 | k+1=>NmB.mk (qI _) fun x hx=>by
   simp only[zQ,List.not_mem_nil,or_false] at hx;rcases hx with rfl|rfl
   .exact AF5 h k
   .exact lP h
theorem AL9 {s:Bw}(hs:s.Len){a:ByteArray}{i:Ex}{n N:Nat}(h:a.size+3<=N)(hi:NmB N i):∀j,NmB N (chK s.c a i n j)
 | 0=>bZ N 0
 | j+1=>NmB.mk (qI _) fun x hx=>by
   simp only[zQ,List.not_mem_nil,or_false] at hx;rcases hx with rfl|rfl|rfl
   .refine NmB.mk (qI _) fun x hx=>?_
    simp only[zQ,List.not_mem_nil,or_false] at hx;rcases hx with rfl|rfl
    .exact(hs i).2 N hi
    .exact bZ N _
   .exact lP h
   .exact AL9 hs h hi j
theorem AVJ {s:Bw}(hs:s.Len){a:ByteArray}{i:Ex}{n N:Nat}(h:a.size+3<=N)(hi:NmB N i):NmB N (ZT s.c a i n):=by
 unfold ZT;split
 .split
  .exact lP h
  .exact bZ N 0
 .exact AL9 hs h hi n
theorem A2K {s:Bw}(hs:s.Len)(vs:List Vr)(e:Ex):NdOk e->NmB 22 (GI s vs e):=by
 induction e using Ex.induct with|h e ih=>?_
 intro hn;have hnm:=hn.name;rw[WB];unfold scF;split
 .exact AF5 U _
 split
 .refine AVJ hs U ?_
  cases hq:e.args with
  | nil=>exact bZ _ _
  | cons a tl=>exact ih a (by rw[hq]; simp) (hn.arg (by rw[hq]; simp))
 .refine NmB.mk U fun x hx=>?_
  obtain⟨a,ha,rfl⟩:=zH.1 hx;exact ih a ha (hn.arg ha)
theorem yY {a:Ex}(hn:NdOk e)(hu:OQ vs e=false)(h:(H6 vs e).1<=400)(ha:a∈e.args):(H6 vs a).1<=400:=by
 rw[UO] at h;unfold xtF at h;split at h
 .rename_i ho; rw[eH hn.self (.inl ho)] at ha; cases ha
 split at h
 .rename_i ho; rw[eH hn.self (.inr (.inr ho))] at ha; cases ha
 split at h
 .exact(ABJ h).2 _ (zH.2 ⟨a,ha,rfl⟩)
 .rename_i o1 o24 o3
  have o3:e.op=3:=BG o3;obtain⟨b,hb⟩:=VR hn.self o3;have hz:=V6 hu (.inl o3);rw[hb] at ha h;rw[List.mem_singleton.1 ha];have hlast:UJ ([b].map (H6 vs))=H6 vs b:=rfl;rw[hlast] at h;have one:0<=(H6 vs b).2->(H6 vs b).1<=400:=fun q=>by rw[AYX q]; decide
  split at h
  .exact one U
  split at h
  .exact one (by assumption)
  .have h:min (szA vs e.name*((H6 vs b).1+4)+1) 401<=400:=h
   have h1:1*((H6 vs b).1+4)<=szA vs e.name*((H6 vs b).1+4):=Nat.mul_le_mul hz (jF _);omega
theorem eU {s:Bw}:NdOk e->OQ vs e=false->((GI s vs e).op=1↔0<=(H6 vs e).2)∧(0<=(H6 vs e).2->(GI s vs e).n=(H6 vs e).2):=by
 induction e using Ex.induct with|h e ih=>?_
 intro hn hu;rw[UO,WB];unfold xtF scF;by_cases o1:e.op=1
 .have:=(ARI hn.self o1).1
  rw[if_pos o1,if_neg U,if_neg U];exact⟨⟨fun _=>this,fun _=>o1⟩,fun _=>rfl⟩
 rw[if_neg o1];by_cases o24:e.op=24
 .rw[if_pos o24,if_pos o24]
  have:∀k,(V9 e.name k).op≠1:=fun k=>by
   cases k with
   | zero=>show(2:Int)≠1; decide
   | succ k=>show(7:Int)≠1; decide
  exact⟨⟨fun q=>absurd q (this _),fun q=>absurd q (ADA _)⟩,fun q=>absurd q (ADA _)⟩
 rw[if_neg o24,if_neg o24];by_cases o3:e.op=3
 .have o3n:¬e.op≠3:=fun q=>q o3
  rw[if_pos o3,if_neg o3n];obtain⟨b,hb⟩:=VR hn.self o3;have hz:=V6 hu (.inl o3);have hm:b∈e.args:=by rw[hb]; simp
  obtain⟨i1,i2⟩:=ih b hm (hn.arg hm) (QM hu hm);rw[hb];have hlast:UJ ([b].map (H6 vs))=H6 vs b:=rfl;have hhd:(([b].map (GI s vs)).head?.getD (cE 0))=GI s vs b:=rfl;rw[hlast,hhd];unfold ZT;generalize GI s vs b=x at i1 i2;generalize H6 vs b=y at i1 i2;by_cases q:x.op=1
  .have h0:=i1.1 q
   have hn2:=i2 h0;rw[if_pos q,hn2];by_cases q2:(szA vs e.name:Int)<=y.2
   .rw[if_pos q2,if_neg U]
    exact⟨⟨fun _=>Int.le_refl 0,fun _=>rfl⟩,fun _=>rfl⟩
   .rw[if_neg q2,if_pos h0,if_pos U]
    exact⟨⟨fun q=>absurd q (by show(2:Int)≠1; decide),fun q=>absurd q (ADA _)⟩,fun q=>absurd q (ADA _)⟩
  .have h0:¬0<=y.2:=fun h=>q (i1.2 h)
   rw[if_neg q,if_neg U,if_neg h0]
   have:∀k,0<k->(chK s.c e.name x (szA vs e.name) k).op≠1:=fun k hk=>by
    cases k with
    | zero=>omega
    | succ k=>show(22:Int)≠1; decide
   exact⟨⟨fun q=>absurd q (this _ U),fun q=>absurd q (ADA _)⟩,fun q=>absurd q (ADA _)⟩
 .rw[if_pos o3,if_neg o3]
  exact⟨⟨fun q=>absurd q o1,fun q=>absurd q (ADA _)⟩,fun q=>absurd q (ADA _)⟩
theorem AWH {s:Bw}(hs:s.Len)(vs:List Vr)(e:Ex):NdOk e->OQ vs e=false->(H6 vs e).1<=400->(pre (GI s vs e)).length=(H6 vs e).1:=by
 induction e using Ex.induct with|h e ih=>?_
 intro hn hu hx;have ih':∀a∈e.args,(pre (GI s vs a)).length=(H6 vs a).1:=fun a ha=>ih a ha (hn.arg ha) (QM hu ha) (yY hn hu hx ha)
 rw[WB]
 rw[UO] at hx|-
 unfold xtF at hx|-
 unfold scF;by_cases o1:e.op=1
 .rw[if_pos o1,if_neg U,if_neg U,eH hn.self (.inl o1)]
  rfl
 rw[if_neg o1] at hx|-
 by_cases o24:e.op=24
 .have hz:=V6 hu (.inr o24)
  rw[if_pos o24,if_pos o24,ABL];show 2*(szA vs e.name-1)+1=2*szA vs e.name-1;omega
 rw[if_neg o24] at hx|-
 rw[if_neg o24];by_cases o3:e.op=3
 .have o3n:¬e.op≠3:=fun q=>q o3
  rw[if_neg o3n] at hx|-
  rw[if_pos o3];obtain⟨b,hb⟩:=VR hn.self o3;have hz:=V6 hu (.inl o3);have hm:b∈e.args:=by rw[hb]; simp
  obtain⟨i1,i2⟩:=eU (s:=s) (hn.arg hm) (QM hu hm);have hl:=ih' b hm
  rw[hb] at hx|-
  have hlast:UJ ([b].map (H6 vs))=H6 vs b:=rfl;have hhd:(([b].map (GI s vs)).head?.getD (cE 0))=GI s vs b:=rfl
  rw[hlast] at hx|-
  rw[hhd];unfold ZT;generalize GI s vs b=x at i1 i2 hl;generalize H6 vs b=y at i1 i2 hl hx;by_cases q:x.op=1
  .have h0:=i1.1 q
   have hn2:=i2 h0;rw[if_pos q,hn2];by_cases q2:(szA vs e.name:Int)<=y.2
   .rw[if_pos q2,if_neg U]; rfl
   .rw[if_neg q2,if_pos h0,if_pos U]; rfl
  .have h0:¬0<=y.2:=fun h=>q (i1.2 h)
   have h1:¬(szA vs e.name:Int)<=y.2:=U
   rw[if_neg h1,if_neg h0] at hx|-
   rw[if_neg q,ALT hs,hl];have hx:min (szA vs e.name*(y.1+4)+1) 401<=400:=hx;show szA vs e.name*(y.1+4)+1=min (szA vs e.name*(y.1+4)+1) 401;omega
 .rw[if_pos o3] at hx|-
  rw[if_neg o3];have h1:=(ABJ hx).1;show(pre (.mk e.op e.n e.name (s.md (e.args.map (GI s vs))) (e.args.map (GI s vs)))).length=cO (e.args.map (H6 vs));rw[h1,WI,sY,qW,qW];congr 1;exact List.map_congr_left fun a ha=>ih' a ha
theorem AQP {s:Bw}(hs:s.Len)(hn:NdOk e)(hu:OQ vs e=false)(hx:(H6 vs e).1<=400):wt (GI s vs e)<=10000:=by
 have h1:=A0M 22 (GI s vs e) (A2K hs vs e hn);rw[AWH hs vs e hn hu hx] at h1;have:(H6 vs e).1*23<=400*23:=Nat.mul_le_mul_right _ hx;omega
def scC (vs:List Vr)(e:Ex):Int:=if OQ vs e=true then 7 else if 400<(H6 vs e).1 then 2 else exE (GI sdP vs e)
def scV (s:Bw)(vs:List Vr)(e:Ex):AV:=.tup [.agg (if scC vs e=0 then AX (GI s vs e) else ET),.n (scC vs e)]
theorem A14 (n:ByteArray):CvR (.agg (OO n)) (.agg (AX (JF n))):=by
 rw[FB];exact CvR.agg (CvRL.cons (CvR.refl _) (CvRL.cons (CvR.refl _) (CvRL.cons (CvR.refl _) (CvRL.cons (CvR.sl (Cv.nil 0 4)) CvRL.nil))))
theorem A7Q (op:Int)(m:SM)(xs:List (List AV)):IY jA 79 [(0,.n op),(3,.sl m 4 xs)]=some (.agg [.n op,.n 0,.str ⟨#[]⟩,.sl m 4 xs]):=A7
theorem ATS (op:Int)(m:SM)(l:List Ex):AX (.mk op 0 ⟨#[]⟩ m l)=[.n op,.n 0,.str ⟨#[]⟩,.sl m 4 (l.map AX)]:=FB _
theorem bs3 (h:Hp)(a b c:Ex):C9 jA false h 23 3 [(0,.agg (AX a)),(1,.agg (AX b)),(2,.agg (AX c))]=some (.sl .full 4 [AX a,AX b,AX c],h):=by
 rw[FB a,FB b,FB c];exact(A7:C9 jA false h 23 3 [(0,.agg [.n a.op,.n a.n,.str a.name,.sl a.m 4 (a.args.map AX)]),(1,.agg [.n b.op,.n b.n,.str b.name,.sl b.m 4 (b.args.map AX)]),(2,.agg [.n c.op,.n c.n,.str c.name,.sl c.m 4 (c.args.map AX)])]=_)
theorem z4:([AV.int .i64 0,.n 0,.str ⟨#[]⟩,.sl .nil 0 []]:List AV)=ET:=rfl
section
variable (G:Nat->AV)
theorem QL (a:ByteArray)(k:Nat)(hk:k<9)(ha:a.size<=1048576)(h:Hp):PCall (En G) 302 [.str a,.n (k:Nat)] h (.agg (AX (vaE a k))):=by
 refine PCall.res ?_ (A14 (elN a k));refine XY 3 (fun n H=>rfl) ?_;refine acL Tryz.func302 [.cell 4 79] ?_;have g2:=AQ h (yK 4 [ET]);have hx:=Sm.ext.r1 h (yK 4 [ET]);refine A8 RJ z4 ?_
 generalize h++[yK 4 [ET]]=H1 at g2 hx|-
 refine(oN G a k hk H1 ha).use ?_;have s2:=WZ (cs:=OO (elN a k)) g2 rfl rfl rfl;refine A8 @AZU s2 ?_;rw[JH (b:=h.length) AL (KY (CP g2) rfl)];exact⟨rfl,hx.set (jF _) _⟩
theorem X6 (n:Int)(h:Hp):PCall (En G) 304 [.n n] h (.agg (AX (cE n))):=by
 refine PCall.res ?_ (oZ n);refine XY 3 (fun n H=>rfl) ?_;refine acL Tryz.func304 [.cell 2 79] ?_;have g2:=AQ h (yK 4 [ET]);have s2:=WZ (cs:=pA 1 n) g2 rfl rfl rfl;refine EM RJ @ALW z4 s2 ?_;rw[JH (b:=h.length) AL (KY (CP g2) rfl)];exact⟨rfl,((ext.rfl' h).app _).set (jF _) _⟩
theorem fF (op:Int)(m:SM)(l:List Ex)(h:Hp):PCall (En G) 303 [.n op,.sl m 4 (l.map AX)] h (.agg (AX (.mk op 0 ⟨#[]⟩ m l))):=by
 refine XY 3 (fun n H=>RD n H 0 _) ?_;refine acL Tryz.func303 [.cell 4 79] ?_;have g2:=AQ h (yK 4 [ET]);have s2:=QW (e:=.mk op 0 ⟨#[]⟩ m l) g2 rfl;rw[ATS] at s2;refine EM RJ @A7Q z4 s2 ?_;rw[<-ATS];rw[JH (b:=h.length) AL (PI (CP g2))];exact⟨rfl,((ext.rfl' h).app _).set (jF _) _⟩
theorem AE2:∀(w:Nat) (e:Ex) (h:Hp),wt e<=w->wt e<=1048576->PCall (En G) 305 [.agg (AX e)] h (.agg (AX (cpE e))):=by
 intro w
 induction w with
 | zero=>intro e h h1 _; have:=MN e; omega
 | succ w ih =>
   intro e h h1 h2;have hlen:=VY e.args;have hwt:=MN e;refine PCall.res (r:=.agg (cpW e)) ?_ (AT8 e);refine ACalls.pure (R:=fun v H=>Sm.ext h H∧EZ h.length H 4 v=.agg (cpW e)) 4 ?_ (fun v H ⟨a,b⟩=>⟨a,b⟩);refine acL Tryz.func305 [.cell 2 79] ?_;have ge:=AB (x:=yK 4 [[.n 0,.n 0,.str ⟨#[]⟩,.sl .nil 0 []]]) (AQ h (yK 4 [AX e]));have g2:=AQ (h++[yK 4 [AX e]]) (yK 4 [[.n 0,.n 0,.str ⟨#[]⟩,.sl .nil 0 []]]);have hx:Sm.ext h (h++[yK 4 [AX e]]++[yK 4 [[.n 0,.n 0,.str ⟨#[]⟩,.sl .nil 0 []]]]):=((ext.rfl' h).app _).app _;have hb2:h.length<(h++[yK 4 [AX e]]).length:=AZ;refine A8 @bxE RJ ?_
   generalize h++[yK 4 [AX e]]++[yK 4 [[.n 0,.n 0,.str ⟨#[]⟩,.sl .nil 0 []]]]=H0 at ge g2 hx|-
   generalize (h++[yK 4 [AX e]]).length=b2 at g2 hb2|-
   have l2:=Z g2;refine AY (Rk.ldE' ge) ?_
   refine BJ (fun n F H=>∃k u,n+k=e.args.length∧F 1=.ptr h.length 0 0∧F 2=.ptr b2 0 0∧F 3=u∧F 7=.sl e.m 4 (e.args.map AX)∧F 8=.n (e.args.length:Nat)∧F 9=.n (k:Nat)∧Sm.ext H0 H∧outG 4 AX H0 ((e.args.take k).map cpE) u H) e.args.length
    ⟨0,.sl .nil 0 [],AZ,AL,AL,AL,AL,AL,AL,ext.rfl' _,outG.nil _ _ _ _⟩ ?_
   rintro n F H ⟨k,u,hk,f1,f2,f3,f7,f8,f9,he,ho⟩;refine A8 f8 f9 ?_;refine D8 ?_ ?_<;>intro hk'
   .have hlt:=Rk.wt_arg hk'
    have he1:=he.app [yK 4 [AX e.args[k]]];have ho1:=ho.app [yK 4 [AX e.args[k]]];have gT:=ldE H e.args[k];simp only[vQ,CG,List.map_nil,List.append_nil,↓reduceIte,jC,enP,PQ,jQ,f7,f9,CX hk',DC O1 JB EC hk',RJ,rD _ _ [.n 0,.n 0,.str ⟨#[]⟩,.sl .nil 0 []] rfl,gT]
    generalize H++[yK 4 [AX e.args[k]]]=H1 at he1 ho1|-
    refine(ih e.args[k] H1 U U).use ?_;have hbs:=uO H1 (cpE e.args[k]);obtain⟨v',H2,ha,ho2,_,he2,_,_⟩:=ho1.append V7 JB eQ eE U KH he1 (cpE e.args[k]);have e3:(e.args.take k).map cpE++[cpE e.args[k]]=(e.args.take (k+1)).map cpE:=by rw[List.take_succ_eq_append_getElem hk',List.map_append]; rfl
    rw[e3] at ho2;refine JG f3 hbs ha f9 (CZ k) ?_;exact⟨n-1,U,k+1,v',U,AC,AC,AC,AC,AC,AC,he2,ho2⟩
   .rw[List.take_of_length_le U] at ho
    have ge1:=DV he ge;have g21:=DV he g2;have hle:=he.le;have hlf:=ho.leaf;have h0l:h.length<H0.length:=U
    have hst:DT jA H 23 (.ptr h.length 0 3) u=some (H.set h.length (yK 4 [[.n e.op,.n e.n,.str e.name,u]])):=by
     rw[FB] at ge1;rcases ho with⟨_,rfl⟩|⟨_,o,_,rfl,_⟩
     .rw[IU (cs:=[.sl .nil 0 []]) rfl (A7:szO jA 23=some 1) ge1 AZ]; rfl
     .rw[IU (cs:=[.own o 0 _]) rfl (A7:szO jA 23=some 1) ge1 AZ]; rfl
    have g1':(H.set h.length (yK 4 [[.n e.op,.n e.n,.str e.name,u]]))[h.length]?=some (yK 4 [[.n e.op,.n e.n,.str e.name,u]]):=CP ge1;have g2':(H.set h.length (yK 4 [[.n e.op,.n e.n,.str e.name,u]]))[b2]?=_:=CY g21 U;have ho3:outG 4 AX H0 (e.args.map cpE) u (H.set h.length (yK 4 [[.n e.op,.n e.n,.str e.name,u]])):=ho.setB h0l _;have hx3:Sm.ext h (H.set h.length (yK 4 [[.n e.op,.n e.n,.str e.name,u]])):=(hx.trans he).set (jF _) _;refine EM f1 f2 f3 hst ?_
    generalize H.set h.length (yK 4 [[.n e.op,.n e.n,.str e.name,u]])=H3 at g1' g2' ho3 hx3|-
    have hlf4:([.n e.op,.n e.n,.str e.name,u]:List AV).all AV.leaf=true:=by simp [hlf]; exact⟨rfl,rfl,rfl⟩
    refine EM f1 f2 (KY g1' rfl) (WZ g2' rfl rfl hlf4) ?_;rw[JH (b:=b2) (EE f2) (KY (CP g2') rfl)];refine⟨hx3.set U _,?_⟩;have ho4:=ho3.setB (b:=b2) l2 (yK 4 [[.n e.op,.n e.n,.str e.name,u]]);have hz:=PW frzEx ho4 h.length 1 (by have:=hx.le; omega);show AV.agg [.n e.op,.n e.n,.str e.name,EZ h.length _ 3 u]=.agg (cpW e);rw[hz]; rfl
theorem AQG (vs:List Vr)(m:SM)(hl:vs.length<=1048576)(hv:∀v∈vs,FT v.name=true)(a:ByteArray)(ha:a.size<=1048576)(hz:1<=szA vs a)(h:Hp):PCall (En G) 255 [.agg [.sl m 4 (vs.map encV)],.str a] h (.agg (AX (V9 a (szA vs a-1)))):=by
 have hsz:=lX vs a;refine ACalls.pure (R:=fun v H=>v=.agg (AX (V9 a (szA vs a-1)))∧Sm.ext h H) 3 ?_ (fun v H ⟨a,b⟩=>⟨b,by rw[a]; exact RD _ _ 0 _⟩);refine acL Tryz.func255 [.cell 4 79] ?_;have gs:isS (h++[yK 1 [[.sl m 4 (vs.map encV)]]]++[yK 4 [ET]]) h.length m vs:=AB (AQ _ _);have gr:=AQ (h++[yK 1 [[.sl m 4 (vs.map encV)]]]) (yK 4 [ET]);have hx:Sm.ext h (h++[yK 1 [[.sl m 4 (vs.map encV)]]]++[yK 4 [ET]]):=((ext.rfl' h).app _).app _;have e1:(h++[yK 1 [[.sl m 4 (vs.map encV)]]]).length=h.length+1:=AZ;refine DL @bxS RJ z4 ?_
 rw[e1] at gr|-
 generalize h++[yK 1 [[.sl m 4 (vs.map encV)]]]++[yK 4 [ET]]=H1 at gs gr hx|-
 refine(QL G a 0 U ha H1).use ?_;have gs:=AB (x:=yK 4 [AX (vaE a 0)]) gs;have lr:=Z gr;have gr:=AB (x:=yK 4 [AX (vaE a 0)]) gr;have go:=AQ H1 (yK 4 [AX (vaE a 0)]);have hx:=hx.app [yK 4 [AX (vaE a 0)]];refine A8 al79 st79 ?_
 generalize H1++[yK 4 [AX (vaE a 0)]]=H2 at gs gr go hx|-
 generalize H1.length=ob at go lr|-
 refine ER 0 (fun F H=>F 4=.ptr (h.length+1) 0 0∧F 5=.ptr ob 0 0∧H[h.length+1]?=some (yK 4 [ET])∧H[ob]?=some (yK 4 [AX (V9 a (szA vs a-1))])∧Sm.ext h H) (fun _ _=>False) ?_ ?_ (fun _ _ q=>q.elim)
 .refine BJ (fun n F H=>∃k,n+(k+1)=szA vs a∧F 1=.str a∧F 2=.ptr h.length 0 0∧F 4=.ptr (h.length+1) 0 0∧F 5=.ptr ob 0 0∧F 6=.n ((k+1:Nat):Int)∧isS H h.length m vs∧H[h.length+1]?=some (yK 4 [ET])∧H[ob]?=some (yK 4 [AX (V9 a k)])∧Sm.ext h H) (szA vs a-1)
   ⟨0,U,EK,EK,EK,EK,EK,gs,gr,go,hx⟩ ?_
  clear gs gr go hx;rintro n F H ⟨k,hk,f1,f2,f4,f5,f6,gs,gr,go,hx⟩;refine EM f1 f2 f6 (isS.ld gs) ?_;refine(size_prog G vs m hl hv a ha H).use ?_;refine AY f6 ?_;refine D8 ?_ ?_<;>intro hc
  .have s2:=QW (e:=V9 a (k+1)) go (EC _)
   refine AA ?_;refine DZ A7 ?_;refine EM f1 f5 f6 (PI go) ?_;refine⟨_,QL G a (k+1) U ha H,?_⟩;refine AY @gR ?_;refine⟨_,fF G 7 .full [V9 a k,vaE a (k+1)] H,?_⟩;change DT jA H 79 (.ptr ob 0 0) (.agg (AX (.mk 7 0 ⟨#[]⟩ .full [V9 a k,vaE a (k+1)])))=_ at s2;refine EM f5 s2 f6 (CZ (k+1)) ?_;exact⟨n-1,U,k+1,U,AC,AC,AC,AC,AC,by unfold isS; rw[jY U]; exact gs,by rw[jY U]; exact gr,CP go,hx.set U _⟩
  .have e:szA vs a-1=k:=U
   refine AA ?_;exact⟨AC,AC,gr,by rw[e]; exact go,hx⟩
 rintro F H ⟨f4,f5,gr,go,hx⟩;simp only[vQ,YN,CG,↓reduceIte,jC,enP,jQ,f4,f5,PI go,QW gr rfl];rw[JH (b:=h.length+1) (LX f4) (PI (CP gr))];exact⟨rfl,hx.set U _⟩
end
end Go.Proofs.YtiihpnicbekebaaGreatDoor.Bd.Cl
