/- Part 5 of the proof (W3, O1, O2, O3, O4, O5, O6, O11, O12, O13, O14, P1, C1, C2, C3, Bs, Bt, O15, O16, O18, Sy, O21, O22, O23, S1, S2, O25, P2, O32, O26, O27, O29, O30, O24, O31, O33, S3, S4, W4, W5, S7, J1, J2, J3, O34, O35, O42, J4, J5);no condition. -/
import Derived.Shelf.SlSortCmp.WholeK
import Derived.Shelf.SlSortCmp.NoneTotal
import Derived.Shelf.SlicesG.Cmp
import Derived.Shelf.Spec.SlicesGrow
import Derived.Test.YtiihpnicbekebaaGreatDoorCP4
set_option linter.unusedVariables false
set_option linter.unusedSimpArgs false
set_option maxRecDepth 8000
set_option maxHeartbeats 8000000
open Go.Proofs.YtiihpnicbekebaaGreatDoor.Sm.ABlk renaming live→yE
open Bool renaming and_eq_true→jM,eq_iff_iff→wL,false_eq_true→qR,not_false→jE,or_eq_false_iff→wB,or_eq_true→qN,or_false→zO,true_and→wG
open Go.Proofs.Tryz renaming prog→jA
open Int renaming toNat_natCast→qB
open List renaming all_eq_true→zL,any_eq_false→qO,any_eq_true→qL,append_assoc→zG,append_nil→jO,cons_append→zF,contains_cons→jY,contains_nil→jS,drop_eq_getElem_cons→qC,drop_eq_nil_of_le→zJ,drop_zero→zU,eq_nil_of_length_eq_zero→qV,findIdx?_eq_none_iff→wR,findIdx?_eq_some_iff_getElem→wM,foldl_cons→qW,getElem?_append_left→qM,getElem?_append_right→wS,getElem?_cons_succ→wK,getElem?_cons_zero→wC,getElem?_eq_getElem→jI,getElem?_eq_none→qZ,getElem?_map→jW,getElem?_set_ne→zD,getElem?_set→zQ,getElem_mem→jG,getElem_of_mem→qF,length_append→jX,length_cons→zT,length_map→jP,length_nil→zW,length_pos_iff→qX,length_set→qY,length_take→jZ,length→wH,map_append→qU,map_congr_left→wQ,map_cons→jK,map_map→qQ,map_nil→jL,mem_append→zK,mem_cons_of_mem→yB,mem_cons→zN,mem_map→zH,mem_singleton→wI,range→zM,replicate→jR,take_of_length_le→jJ,take_succ_eq_append_getElem→jU,take_zero→qI
open Nat renaming add_mul→qE,add_zero→zA,le_of_ble_eq_true→jB,le_refl→jF,lt_or_ge→zB,mul_le_mul_right→wJ,one_mul→wZ,reduceAdd→jT,reduceBEq→jV,reduceEqDiff→jC,zero_add→jH,zero_le→qK
open Option renaming getD_none→jQ,getD_some→jD
namespace Go.Proofs.YtiihpnicbekebaaGreatDoor.Bd.Cl
open Sm Bins Cov Xe Wd Bl Go.RowKit
def fdr (p:Pr)(lm:SM)(l:List Ex)(ab n:Nat)(ov:Bool)(st:Int):List AV:=[.sl p.vm 4 (p.vars.map encV),.sl p.hm 4 (p.hard.map A8),.sl p.sm 4 (p.soft.map A8),.sl p.dm 2 (p.dists.map IK),.sl p.gm 1 (p.groups.map OH),.sl lm 4 (l.map A8),.own ab 0 n,.bool ov,.n st]
abbrev isF (H:Hp)(fb:Nat)(p:Pr)(lm:SM)(l:List Ex)(ab n:Nat)(ov:Bool)(st:Int):Prop:=H[fb]?=some (yE 9 [fdr p lm l ab n ov st])
section
variable {H:Hp} {fb:Nat} {p:Pr} {lm:SM} {l:List Ex} {ab n:Nat} {ov:Bool} {st:Int}
theorem isF.vs (h:isF H fb p lm l ab n ov st):BI jA H 22 (.ptr fb 0 0)=some (.sl p.vm 4 (p.vars.map encV)):=by rw[BC WZ h rfl];rfl
theorem isF.pr (h:isF H fb p lm l ab n ov st):BI jA H 27 (.ptr fb 0 0)=some (.agg (CY p)):=by rw[ED lC cY h rfl (by show 0+5<=9;omega)];rfl
theorem isF.es (h:isF H fb p lm l ab n ov st):BI jA H 23 (.ptr fb 0 5)=some (.sl lm 4 (l.map A8)):=by rw[BC LM h rfl];rfl
theorem isF.as (h:isF H fb p lm l ab n ov st):BI jA H 32 (.ptr fb 0 6)=some (.own ab 0 n):=by rw[BC NF h rfl];rfl
theorem isF.ovd (h:isF H fb p lm l ab n ov st):BI jA H 4 (.ptr fb 0 7)=some (.bool ov):=by rw[BC ag4 h rfl];rfl
theorem isF.std (h:isF H fb p lm l ab n ov st):BI jA H 3 (.ptr fb 0 8)=some (.n st):=by rw[BC ag3 h rfl];rfl
theorem isF.setSt (h:isF H fb p lm l ab n ov st)(z:Int):DU jA H 3 (.ptr fb 0 8) (.n z)=some (H.set fb (yE 9 [fdr p lm l ab n ov z])):=by
 rw[IR (cs:=[.n z]) rfl sz3 h (by show 8+1<=9;omega)];rfl
theorem isF.setOv (h:isF H fb p lm l ab n ov st)(z:Bool):DU jA H 4 (.ptr fb 0 7) (.bool z)=some (H.set fb (yE 9 [fdr p lm l ab n z st])):=by
 rw[IR (cs:=[.bool z]) rfl sz4 h (by show 7+1<=9;omega)];rfl
end
section
variable (G:Nat->AV)
theorem AAH (p:Pr)(hs:PrS p)(P:PV p)(lm:SM)(l:List Ex)(st:Int)(a:List Int)(ok:AOk p a)(fb ab:Nat)(hne:fb≠ab)(h:Hp)(hf:isF h fb p lm l ab a.length false st)(hb:isI h ab a) :
  ACalls (En G) 260 [.ptr fb 0 0] h fun _ H=>KB [fb,ab] h H/\match nxK p.vars p.vars.length a with
  | some a'=>isF H fb p lm l ab a.length false st/\isI H ab a'
  | none=>isF H fb p lm l ab a.length true st/\∃a',a'.length=a.length/\isI H ab a':=by
 generalize hO:nxK p.vars p.vars.length a=O;have hvl:=hs.vars;refine acL Tryz.func260 [] ?_;have hal:a.length=p.vars.length:=ok.len;have z1:IntKind.i64.wrap (((a.length:Nat):Int)-1)=((a.length:Nat):Int)-1:=wrap_i64 U U;refine DW @WT @hf.as z1 ?_;refine EU 0 (fun F H=>KB [fb,ab] h H/\O=none/\F 0=.ptr fb 0 0/\isF H fb p lm l ab a.length false st/\∃a',a'.length=a.length/\isI H ab a') (fun F H=>KB [fb,ab] h H/\∃a',O=some a'/\isF H fb p lm l ab a.length false st/\isI H ab a') ?_ ?_ ?_
 .refine BK (fun n F H=>∃k c,n=k/\k<=p.vars.length/\AOk p c/\nxK p.vars k c=O/\KB [fb,ab] h H/\isI H ab c/\isF H fb p lm l ab a.length false st/\F 0=.ptr fb 0 0/\F 2=.n (((k:Nat):Int)-1)) p.vars.length
   ⟨p.vars.length,a,rfl,jF _,ok,hO,KB.rfl' _ _,hb,hf,AQ,by refine AB ?_;rw[hal]⟩ ?_
  clear hb hf;rintro n F H ⟨k,c,rfl,hkn,okc,hS,k1,qb,hf,f0,f2⟩;have ec:decide (((n:Nat):Int)-1≥0)=decide (1<=n):=by rw[decide_eq_decide];omega
  refine BB f2 ec ?_;refine BO ?_ ?_<;>intro hc
  .have h1:1<=n:=BM hc
   obtain⟨i,rfl⟩:∃i,n=i+1:=⟨n-1,U⟩;have hi:i<p.vars.length:=U;have hic:i<c.length:=by rw[okc.len];exact hi
   have hia:i<a.length:=U;have ei:((((i+1:Nat):Int))-1)=((i:Nat):Int):=U;rw[ei] at f2;unfold nxK at hS;simp only[List.getElem?_eq_getElem hi] at hS;obtain⟨_,w1,w8,_⟩:=PQ (P.vr _ (jG hi));have lmd:∀H:Hp,BI jA H 3 (.fptr 4 (p.vars.map encV) i 2)=some (.n p.vars[i].mode):=fun H=>by rw[CW ag3 hi];rfl
   have zi:IntKind.i64.wrap (((i:Nat):Int)-1)=((i:Nat):Int)-1:=wrap_i64 U U;refine aS @yJ f0 f2 @hf.vs hi lmd ?_;refine BO ?_ ?_<;>intro hm
   .have hm:p.vars[i].mode=0:=BM hm
    rw[if_pos hm] at hS;refine BB f2 zi ?_;exact⟨i,U,i,c,rfl,U,okc,hS,k1,qb,hf,AL,AL⟩
   .have hm:¬p.vars[i].mode=0:=BM hm
    rw[if_neg hm] at hS;obtain⟨q0,q1⟩:=okc.rn i hi hm;obtain⟨r0,r1⟩:=okc.rng P i hi;have zz:IntKind.i64.wrap (c.getD i 0+1)=c.getD i 0+1:=wrap_i64 U U;have qb1:=qb.st (i:=i) hic (c.getD i 0+1);have qbs:isI (H.set ab (yE 1 ((c.set i (c.getD i 0+1)).map qencI))) ab (c.set i (c.getD i 0+1)):=CV qb;have hf1:isF (H.set ab (yE 1 ((c.set i (c.getD i 0+1)).map qencI))) fb p lm l ab a.length false st:=by unfold isF;rw[zD (Ne.symm hne)];exact hf
    have k2:KB [fb,ab] h (H.set ab (yE 1 ((c.set i (c.getD i 0+1)).map qencI))):=k1.set BA _;obtain⟨w,hw⟩:=Int.eq_ofNat_of_zero_le (U:0<=p.vars[i].width);have lw:∀H:Hp,BI jA H 3 (.fptr 4 (p.vars.map encV) i 1)=some (.n (w:Nat)):=fun H=>by rw[CW ag3 hi];show some (AV.int .i64 p.vars[i].width)=_;rw[hw]
    rw[hw,Int.toNat_natCast] at hS q1;refine cN @WT f0 f2 @hf.as @qb.ix hia @qb.ld hic zz qb1 ?_
    generalize H.set ab (yE 1 ((c.set i (c.getD i 0+1)).map qencI))=H1 at qbs hf1 k2|-
    have hic1:i<(c.set i (c.getD i 0+1)).length:=by rw[qY];exact hic
    have ld1:=qbs.ld (i:=i) hic1;rw[Bl.getD_set_eq hic] at ld1;refine D6 AZ ?_;simp only[vQ,OT,↓reduceIte,jC,jT,Nat.add_zero,enP,ZZ,oI,LY,SS,yJ,WT,QI,V3,VI,f0,f2,hf1.as,qbs.ix hia,ld1,hf1.vs,CZ hi,lw,A57 w U];refine BO ?_ ?_<;>intro hd
    .have hd:c.getD i 0+1<2^w:=BM hd
     rw[if_pos hd] at hS;refine AB ?_;exact⟨k2,_,hS.symm,hf1,qbs⟩
    .have hd:¬c.getD i 0+1<2^w:=fun q=>by rw[decide_eq_true q] at hd;cases hd
     rw[if_neg hd] at hS;have qb2:=qbs.st (i:=i) hic1 0;rw[List.set_set] at qb2;have qbz:isI (H1.set ab (yE 1 ((c.set i 0).map qencI))) ab (c.set i 0):=CV qbs;have hf2:isF (H1.set ab (yE 1 ((c.set i 0).map qencI))) fb p lm l ab a.length false st:=by unfold isF;rw[zD (Ne.symm hne)];exact hf1
     have hp0:(0:Int)<2^p.vars[i].width.toNat:=Int.pow_pos DT
     have setok:AOk p (c.set i 0):=by
      refine⟨by rw[qY];exact okc.len,fun j hj hmj=>?_,fun j hj hmj=>?_⟩
      .by_cases e:j=i
       .subst e;exact absurd hmj hm
       .rw[Bl.getD_set_ne (fun q=>e q.symm)];exact okc.st j hj hmj
      .by_cases e:j=i
       .subst e;rw[Bl.getD_set_eq hic];exact⟨Int.le_refl 0,hp0⟩
       .rw[Bl.getD_set_ne (fun q=>e q.symm)];exact okc.rn j hj hmj
     refine SE @WT f0 f2 @hf1.as @qbs.ix hia qb2 zi ?_;exact⟨i,U,i,c.set i 0,rfl,U,setok,hS,k2.set BA _,qbz,hf2,AL,AL⟩
  .have h1:¬1<=n:=fun q=>by rw[decide_eq_true q] at hc;cases hc
   obtain rfl:n=0:=U;have hS:none=O:=hS;refine AB ?_;exact⟨k1,hS.symm,AL,hf,c,by rw[okc.len,hal],qb⟩
 .rintro F H ⟨k1,ho,f0,hf,c,hcl,qb⟩
  refine ES @gH @lJ f0 @hf.setOv ?_;refine⟨k1.set BA _,?_⟩;rw[ho];exact⟨CV hf,c,hcl,by unfold isI;rw[zD hne];exact qb⟩
 .rintro F H ⟨k1,a',ho,hf,q⟩
  refine A7 @A4H ?_;refine⟨k1,?_⟩;rw[ho];exact⟨hf,q⟩
theorem AIJ (hG:GOk G)(p:Pr)(hs:PrS p)(hv:IX p=0)(lm:SM)(l:List Ex)(hl:l.length<=1048576)(hw:∀e∈l,wt e<=1048576)(hk:∀e∈l,xpE p.vars e=0)(h:Hp) :
  ACalls (En G) 182 [.agg (CY p),.sl lm 4 (l.map A8),.n 262144] h fun v H=>ext h H/\∃fb ab,h.length<=fb/\h.length<=ab/\fb≠ab/\v=.tup [.ptr fb 0 0,.n 0]/\isF H fb p lm l ab p.vars.length false 262144/\isI H ab (YN p):=by
 have P:=PV.of hv;have hvl:=hs.vars;refine IP (H:=hint [40] []) (enM G) Tryz.func182 rfl (by kernel_rfl) (by kernel_rfl) (jB (by kernel_rfl)) ?_;show awp _ _ _ _ _ (L6 _ [.tmp 6,.tmp 7] _);have ge:=AX h (yE 5 [CY p]);have hx:=Sm.ext.r1 h (yE 5 [CY p]);have hge:h.length<(h++[yE 5 [CY p]]).length:=BA;have ldP:∀ {H:Hp},H[h.length]?=some (yE 5 [CY p])->BI jA H 27 (.ptr h.length 0 0)=some (.agg (CY p)):=fun q=>by rw[ED lC cY q (row:=CY p) rfl (by rw[L8];exact jF 5)];rfl
 refine BB @ALY @QE ?_
 generalize h++[yE 5 [CY p]]=H0 at ge hx hge|-
 refine A7 (ldP ge) ?_;refine(Bd.valid_prog G hG p hs H0).use ?_;have b0:(IX p != 0)=false:=by rw[hv];rfl
 refine DW b0 (show decide ((262144:Int)<0)=false by decide) (show decide ((262144:Int)>262144)=false by decide) ?_;refine EU 0 (fun F H=>ext h H/\H[h.length]?=some (yE 5 [CY p])/\F 1=.sl lm 4 (l.map A8)/\F 2=.n 262144/\F 3=.ptr h.length 0 0) (fun F H=>False) ?_ ?_ (fun _ _ q=>q.elim)
 .refine BK (fun n F H=>∃i,n+i=l.length/\ext h H/\H[h.length]?=some (yE 5 [CY p])/\F 1=.sl lm 4 (l.map A8)/\F 2=.n 262144/\F 3=.ptr h.length 0 0/\F 24=.sl lm 4 (l.map A8)/\F 25=.n (l.length:Nat)/\F 26=.n (i:Nat)) l.length
   ⟨0,BA,hx,ge,AQ,AQ,AQ,AQ,AQ,AQ⟩ ?_
  clear hx ge hge;rintro n F H ⟨i,hi,hx,ge,f1,f2,f3,f24,f25,f26⟩;refine BB f25 f26 ?_;refine BO ?_ ?_<;>intro hc
  .have hi':i<l.length:=BM hc
   have gE:=AX H (yE 4 [A8 l[i]]);have ge:=AO (x:=yE 4 [A8 l[i]]) ge;have hx:=hx.app [yE 4 [A8 l[i]]];simp only[vQ,jY,jS,jV,zO,CP,↓reduceIte,jC,enP,PZ,jQ,f24,f26,CZ hi',DJ O6 JE EG hi',al79,st79]
   generalize H++[yE 4 [A8 l[i]]]=H1 at ge hx gE|-
   refine DW f3 (ldP ge) (IU gE) ?_;refine(known_prog G hG p hvl l[i] (hw _ (jG hi')) H1).use ?_;have b1:(xpE p.vars l[i]==0)=true:=by rw[hk _ (jG hi')];rfl
   refine DW b1 f26 (DC i) ?_;exact⟨n-1,U,i+1,U,hx,ge,AL,AL,AL,AL,AL,AL⟩
  .refine AB ?_
   exact⟨hx,ge,AL,AL,AL⟩
 clear hx ge hge;rintro F H ⟨hx,ge,f1,f2,f3⟩;have hgl:=AC ge;have hxl:=hx.le;have bd:∀ab:Nat,I5 jA 249 [(0,.agg (CY p)),(1,.sl lm 4 (l.map A8)),(2,.own ab 0 p.vars.length),(4,.n 262144)]=some (.agg (fdr p lm l ab p.vars.length false 262144)):=fun ab=>AZ
 have bx:∀(H:Hp) (ab:Nat),MP H (.agg (fdr p lm l ab p.vars.length false 262144))=some (.ptr H.length 0 0,H++[yE 9 [fdr p lm l ab p.vars.length false 262144]]):=fun H ab=>rfl
 refine AB ?_;refine D6 AZ ?_;refine cN @A5I @XR f1 f2 f3 (ldP ge) (rP ge) (mkI H p.vars.length hvl) bd bx ?_;have qa:isI (H++[yE 1 ((jR p.vars.length (0:Int)).map qencI)]) H.length (jR p.vars.length 0):=AX _ _;have qa:=AO (x:=yE 9 [fdr p lm l H.length p.vars.length false 262144]) qa;have ge:=AO (x:=yE 9 [fdr p lm l H.length p.vars.length false 262144]) (AO (x:=yE 1 ((jR p.vars.length (0:Int)).map qencI)) ge);have hx:=(hx.app [yE 1 ((jR p.vars.length (0:Int)).map qencI)]).app [yE 9 [fdr p lm l H.length p.vars.length false 262144]];have qf:isF (H++[yE 1 ((jR p.vars.length (0:Int)).map qencI)]++[yE 9 [fdr p lm l H.length p.vars.length false 262144]]) (H++[yE 1 ((jR p.vars.length (0:Int)).map qencI)]).length p lm l H.length p.vars.length false 262144:=AX _ _;have hne:(H++[yE 1 ((jR p.vars.length (0:Int)).map qencI)]).length=H.length+1:=BA
 generalize H++[yE 1 ((jR p.vars.length (0:Int)).map qencI)]++[yE 9 [fdr p lm l H.length p.vars.length false 262144]]=X at qa ge hx qf|-
 rw[hne] at qf|-
 generalize H.length=ob at qa qf hgl hxl|-
 refine BB f3 (rP ge) ?_
 refine BK (fun n F H=>∃i,n+i=p.vars.length/\isI H ob ((p.vars.map Vr.value).take i++jR (p.vars.length-i) 0)/\isF H (ob+1) p lm l ob p.vars.length false 262144/\ext h H/\F 10=.ptr (ob+1) 0 0/\F 45=.sl p.vm 4 (p.vars.map encV)/\F 46=.n (p.vars.length:Nat)/\F 47=.n (i:Nat)) p.vars.length
  ⟨0,rfl,by rw[List.take_zero,List.nil_append];exact qa,qf,hx,AQ,AQ,AQ,AQ⟩ ?_
 clear qa ge hx qf f1 f2 f3;rintro n F H ⟨i,hn,qa,qf,hx,f10,f45,f46,f47⟩;refine BB f46 f47 ?_;refine D9 (fun hi=>?_) (fun hc'=>?_)
 .have him:i<(p.vars.map Vr.value).length:=by rw[jP];exact hi
  have qv:=AX H (yE 4 [encV p.vars[i]]);have qa:isI (H++[yE 4 [encV p.vars[i]]]) ob ((p.vars.map Vr.value).take i++jR (p.vars.length-i) 0):=AO qa;have qf:isF (H++[yE 4 [encV p.vars[i]]]) (ob+1) p lm l ob p.vars.length false 262144:=AO qf;have hx:=hx.app [yE 4 [encV p.vars[i]]];have hlt:((p.vars.map Vr.value).take i).length=i:=by rw[List.length_take];omega
  have hst:=qa.st (i:=i) LD p.vars[i].value
  have hset:((p.vars.map Vr.value).take i++jR (p.vars.length-i) 0).set i p.vars[i].value=(p.vars.map Vr.value).take (i+1)++jR (p.vars.length-(i+1)) 0:=by
   rw[List.set_append_right _ _ U,hlt,Nat.sub_self,show p.vars.length-i=(p.vars.length-(i+1))+1 by omega,List.replicate_succ,List.set_cons_zero,jU him,List.getElem_map,zG];rfl
  rw[hset] at hst;have l2:BI jA (H++[yE 4 [encV p.vars[i]]]) 3 (.ptr H.length 0 2)=some (.n p.vars[i].mode):=by rw[BC ag3 qv rfl];rfl
  have l3:BI jA (H++[yE 4 [encV p.vars[i]]]) 3 (.ptr H.length 0 3)=some (.n p.vars[i].value):=by rw[BC ag3 qv rfl];rfl
  simp only[vQ,jY,jS,jV,zO,CP,J7,↓reduceIte,jC,enP,ZZ,UW,jQ,f45,f47,CZ hi,ldV hi,Bd.al61,Bd.st61,l2];refine BO ?_ ?_<;>intro hm
  .refine D6 AZ ?_
   simp only[vQ,jY,jS,jV,zO,P8,QR,OW,CP,↓reduceIte,jC,jT,enP,LY,WU,WT,jQ,QI,V3,VI,f10,f47,l3,qf.as,qa.ix hi,hst,DC i];exact⟨n-1,U,i+1,U,CV qa,by unfold isF;rw[zD U];exact qf,hx.set U _,AL,AL,AL,AL⟩
  .have hm:p.vars[i].mode≠0:=BM hm
   obtain⟨_,_,_,_,_,_,_,v0⟩:=PQ (P.vr _ (jG hi))
   have hsame:(p.vars.map Vr.value).take (i+1)++jR (p.vars.length-(i+1)) 0=(p.vars.map Vr.value).take i++jR (p.vars.length-i) 0:=by
    rw[jU him,List.getElem_map,v0 hm,zG,show p.vars.length-i=(p.vars.length-(i+1))+1 by omega,List.replicate_succ];rfl
   refine BB f47 (DC i) ?_;exact⟨n-1,U,i+1,U,by rw[hsame];exact qa,qf,hx,AL,AL,AL,AL⟩
 .rw[List.take_of_length_le (by rw[jP];omega),show p.vars.length-i=0 by omega,List.replicate_zero,List.append_nil] at qa
  refine A7 f10 ?_;exact⟨hx,ob+1,ob,U,U,U,AL,qf,qa⟩
end
end Go.Proofs.YtiihpnicbekebaaGreatDoor.Bd.Cl
namespace Go.Proofs.YtiihpnicbekebaaGreatDoor.Cov
open Sm Bins Go.RowKit
variable {ns:List Nat} {l:List Int} (G:Nat->AV )
def ixV (ns:List Nat)(l:List Int):Int:=if KA ns l=true then Z5 ns l 0 else 0
theorem AX9 (h:l.length≠ns.length):KA ns l=false:=by
 cases e:KA ns l
 .rfl
 .exact absurd (TL e).symm h
theorem AOB {k:Nat}(hk:k<l.length)(hn:k<ns.length):KA (ns.drop k) (l.drop k)=(decide (0<=l[k])&&decide (l[k]<(ns[k]:Int))&&KA (ns.drop (k+1)) (l.drop (k+1))):=by
 rw[qC hk,qC hn];rfl
theorem ASR {k:Nat}(hk:l.length<=k)(hn:ns.length<=k):KA (ns.drop k) (l.drop k)=true:=by
 rw[zJ hk,zJ hn];rfl
theorem AGE (m:Mo)(z:Int)(hz:z<0\/(m.crs.length:Int)<=z)(h:Hp):PCall (En G) 145 [.agg (DV m),.n z] h (.bool false):=by
 refine ACalls.pure0 rfl ?_;refine acT Tryz.func145 4 ?_;refine A7 @bxM ?_;cases d0:decide (z<0)
 .have d1:decide (z≥(m.crs.length:Int))=true:=by rw[decide_eq_true_eq];rw[decide_eq_false_iff_not] at d0;omega
  refine MI sD @aP d1 ?_;exact⟨trivial,_,rfl⟩
 .refine AB ?_
  exact⟨trivial,_,rfl⟩
theorem nP (m:Mo)(z:Int)(hz:z<0\/(m.crs.length:Int)<=z)(l:List Int)(s:SM)(h:Hp):PCall (En G) 71 [.agg (DV m),.n z,.sl s 1 (l.map qencI)] h (.tup [.n 0,.bool false]):=by
 refine ACalls.pure 2 (R:=fun v H=>v=.tup [.n 0,.bool false]/\∃x,H=h++x) ?_ (fun v h' ⟨e,x⟩=>⟨x,by subst e;rfl⟩);refine acL Tryz.func71 [.tmp 6,.tmp 7] ?_;refine BB @bxM (ldM (AX h (yE 2 [DV m]))) ?_;refine(AGE G m z hz _).uu ?_;exact⟨trivial,_,rfl⟩
theorem YL (m:Mo)(i:Nat)(hi:i<m.crs.length)(hg:CrGood m m.crs[i])(l:List Int)(s:SM)(hn:l.length<=1048576)(h:Hp):PCall (En G) 71 [.agg (DV m),.n (i:Int),.sl s 1 (l.map qencI)] h (.tup [.n (ixV (szs m m.crs[i].pts) l),.bool (KA (szs m m.crs[i].pts) l)]):=by
 refine ACalls.pure 2 (R:=fun v H=>v=.tup [.n (ixV (szs m m.crs[i].pts) l),.bool (KA (szs m m.crs[i].pts) l)]/\∃x,H=h++x) ?_ (fun v h' ⟨e,x⟩=>⟨x,by subst e;rfl⟩);have hx:∃x,h++[yE 2 [DV m]]=h++x:=⟨_,rfl⟩;refine acL Tryz.func71 [.tmp 6,.tmp 7] ?_;refine BB @bxM (ldM (AX h (yE 2 [DV m]))) ?_;refine(iJ G m i hi hg _).use ?_;refine A7 (ldM (AX h (yE 2 [DV m]))) ?_;refine(eL G m i hi hg _).use ?_;generalize szs m m.crs[i].pts=ns;rcases Classical.em (l.length=ns.length) with hlen|hlen
 case inr =>
  have hne:((l.length:Int) != (ns.length:Int))=true:=by simp;omega
  have hb:=AX9 hlen;have hv:ixV ns l=0:=by unfold ixV;rw[hb];rfl
  refine A7 hne ?_;exact⟨by rw[hb,hv],hx⟩
 have hne:((l.length:Int) != (ns.length:Int))=false:=by rw[hlen];simp
 refine A7 hne ?_;refine BK (fun n F H=>∃k,n+k=l.length/\F 8=.sl .any 1 (ns.map KN)/\(∃z,F 9=.n z/\Z5 ns l 0=Z5 (ns.drop k) (l.drop k) z)/\F 24=.sl s 1 (l.map qencI)/\F 25=.n l.length/\F 26=.n (k:Nat)/\H=h++[yE 2 [DV m]]/\KA ns l=KA (ns.drop k) (l.drop k)) l.length ⟨0,BA,AQ,⟨0,rfl,rfl⟩,AQ,AQ,AQ,rfl,rfl⟩ ?_;rintro n F H ⟨k,hk,f8,⟨z,f9,hz⟩,f24,f25,f26,rfl,hin⟩;refine BB f25 f26 ?_;refine D9 ?_ ?_<;>intro hk'
 .have hkn:k<ns.length:=U
  rw[AOB hk' hkn] at hin;rw[qC hk',qC hkn] at hz;cases d0:decide (l[k]<0)
  .have e0:decide (0<=l[k])=true:=by rw[decide_eq_true_eq];rw[decide_eq_false_iff_not] at d0;omega
   cases d1:decide (l[k]≥(ns[k]:Int))
   .have e1:decide (l[k]<(ns[k]:Int))=true:=by rw[decide_eq_true_eq];rw[decide_eq_false_iff_not] at d1;omega
    rw[e0,e1,wG,wG] at hin;simp only[vQ,OW,EM,CP,lO,MO,↓reduceIte,Nat.reduceEqDiff,Option.getD_some,Bool.not_false,enP,LY,f8,f9,f24,f26,CZ hk',CW ag3 hk',encI0,d0,CZ hkn,CW ag3 hkn,encN0,d1,DC k];exact⟨n-1,U,k+1,U,trivial,⟨_,rfl,hz⟩,trivial,f25,rfl,trivial,hin⟩
   .have e1:decide (l[k]<(ns[k]:Int))=false:=by rw[decide_eq_false_iff_not];rw[decide_eq_true_eq] at d1;omega
    rw[e1,Bool.and_false,Bool.false_and] at hin;have hv:ixV ns l=0:=by unfold ixV;rw[hin];rfl
    refine cN f8 f9 f24 f26 hk' @encI0 d0 hkn @encN0 d1 ?_;exact⟨by rw[hin,hv],hx⟩
  .have e0:decide (0<=l[k])=false:=by rw[decide_eq_false_iff_not];rw[decide_eq_true_eq] at d0;omega
   rw[e0,Bool.false_and,Bool.false_and] at hin;have hv:ixV ns l=0:=by unfold ixV;rw[hin];rfl
   refine NJ f8 f9 f24 f26 hk' @encI0 d0 ?_;exact⟨by rw[hin,hv],hx⟩
 .rw[ASR U U] at hin
  rw[zJ (U:l.length<=k),ADM] at hz;have hv:ixV ns l=z:=by unfold ixV;rw[if_pos hin,hz]
  refine A7 f9 ?_;exact⟨by rw[hin,hv],hx⟩
end Go.Proofs.YtiihpnicbekebaaGreatDoor.Cov
namespace Go.Proofs.YtiihpnicbekebaaGreatDoor.Ho
open Sm Bins Cov Go.RowKit
variable {H:Hp} {b i:Nat} {m:Mo} {p:Pt} {l:List Int}
structure Hl where
 cross:Bool
 idx:Int
 bm:SM
 bins:List Int
def F8 (x:Hl):List AV:=[.bool x.cross,.n x.idx,.sl x.bm 1 (x.bins.map qencI)]
theorem gK (x:Hl):(F8 x).length=3:=rfl
theorem bxH (h:Hp)(x:Hl):MP h (.agg (F8 x))=some (.ptr h.length 0 0,h++[yE 3 [F8 x]]):=WX rfl
theorem ldH {x:Hl}(hb:H[b]?=some (yE 3 [F8 x])):BI jA H 34 (.ptr b 0 0)=some (.agg (F8 x)):=by
 rw[ED A0B mA hb rfl (by rw[gK];exact jF 3)];rfl
theorem AX1 {x:Hl}(hb:H[b]?=some (yE 3 [F8 x])):BI jA H 4 (.ptr b 0 0)=some (.bool x.cross):=by rw[BC ag4 hb (row:=F8 x) rfl];rfl
theorem ANZ {x:Hl}(hb:H[b]?=some (yE 3 [F8 x])):BI jA H 3 (.ptr b 0 1)=some (.n x.idx):=by rw[BC ag3 hb (row:=F8 x) rfl];rfl
theorem AR7 {x:Hl}(hb:H[b]?=some (yE 3 [F8 x])):BI jA H 32 (.ptr b 0 2)=some (.sl x.bm 1 (x.bins.map qencI)):=by rw[BC NF hb (row:=F8 x) rfl];rfl
def AES (m:Mo)(z:Int):Option Cr:=if 0<=z then m.crs[z.toNat]? else none
def AM9 (m:Mo)(z:Int):Option Pt:=if 0<=z then m.pts[z.toNat]? else none
def uA (p:Pt):List Int->Bool
 | [b]=>decide (0<=b)&&decide (b<(p.bins.length:Int))&&(kindOf p b.toNat==0)
 | _=>false
def crF (m:Mo)(x:Hl):Option Cr->Bool
 | some c=>KA (szs m c.pts) x.bins&&Z7 m c x.bins
 | none=>false
def ptF (x:Hl):Option Pt->Bool
 | some p=>uA p x.bins
 | none=>false
def kX (m:Mo)(x:Hl):Bool:=if x.cross=true then crF m x (AES m x.idx) else ptF x (AM9 m x.idx)
def NQ (m:Mo)(x:Hl):Bool:=(FQ m==0)&&kX m x
theorem AER {z:Int}(h:z<0\/(m.crs.length:Int)<=z):AES m z=none:=by
 unfold AES;split
 .exact qZ U
 .rfl
theorem UZ (hi:i<m.crs.length):AES m (i:Int)=some m.crs[i]:=by
 unfold AES;rw[if_pos U,qB,jI hi]
theorem ACB {z:Int}(h:z<0\/(m.pts.length:Int)<=z):AM9 m z=none:=by
 unfold AM9;split
 .exact qZ U
 .rfl
theorem AJX (hi:i<m.pts.length):AM9 m (i:Int)=some m.pts[i]:=by
 unfold AM9;rw[if_pos U,qB,jI hi]
theorem VU (z:Int)(n:Nat):(z<0\/(n:Int)<=z)\/∃i:Nat,i<n/\z=(i:Int):=by
 rcases Classical.em (z<0\/(n:Int)<=z) with h|h
 .exact .inl h
 .exact .inr ⟨z.toNat,U,U⟩
structure Hb (h H:Hp) (m:Mo) (x:Hl) (hb:Nat):Prop where
 gm:H[h.length]?=some (yE 2 [DV m])
 gh:H[hb]?=some (yE 3 [F8 x])
 hx:ext h H
theorem Hb.mk' (h:Hp)(m:Mo)(x:Hl):Hb h (h++[yE 2 [DV m]]++[yE 3 [F8 x]]) m x (h++[yE 2 [DV m]]).length :=
 ⟨AO (AX _ _),AX _ _,((ext.rfl' h).app _).app _⟩
theorem AD3 (h:l.length≠1):uA p l=false:=by
 match l,h with
 | [],_=>rfl
 | [b],h=>exact absurd rfl h
 | _::_::_,_=>rfl
theorem AN4 {k:Nat}(hk:k<p.bins.length):kindOf p k=p.bins[k].kind:=by unfold kindOf;rw[jI hk]
theorem tZ {b:Int}(h:b<0\/(p.bins.length:Int)<=b):uA p [b]=false:=by
 show(decide (0<=b)&&decide (b<(p.bins.length:Int))&&(kindOf p b.toNat==0))=false;rcases h with h|h
 .rw[show decide (0<=b)=false by rw[decide_eq_false_iff_not];omega];rfl
 .rw[show decide (b<(p.bins.length:Int))=false by rw[decide_eq_false_iff_not];omega,Bool.and_false];rfl
theorem AD4 {k:Nat}(hk:k<p.bins.length):uA p [(k:Int)]=(p.bins[k].kind==0):=by
 show(decide (0<=(k:Int))&&decide ((k:Int)<(p.bins.length:Int))&&(kindOf p (k:Int).toNat==0))=_;rw[qB,AN4 hk,show decide (0<=(k:Int))=true by rw[decide_eq_true_eq];omega,show decide ((k:Int)<(p.bins.length:Int))=true by rw[decide_eq_true_eq];omega];rfl
theorem ltz_false (i:Nat):decide ((i:Int)<0)=false:=by rw[decide_eq_false_iff_not];omega
theorem tV {n:Nat}(h:i<n):decide ((i:Int)≥(n:Int))=false:=by rw[decide_eq_false_iff_not];omega
theorem ARZ {n:Nat}(h:i<n):decide ((i:Int)<(n:Int))=true:=by rw[decide_eq_true_eq];omega
theorem ADR (i:Nat):decide ((i:Int)≥0)=true:=by rw[decide_eq_true_eq];omega
theorem mF (h:l.length=1):∃b,l=[b]:=by
 match l,h with
 | [b],_=>exact⟨b,rfl⟩
section
variable (G:Nat->AV)
theorem AOO (m:Mo)(hg:Cov.Good m)(x:Hl)(hn:x.bins.length<=1048576)(h:Hp):PCall (En G) 91 [.agg (DV m),.agg (F8 x)] h (.bool (kX m x)):=by
 refine ACalls.pure0 rfl ?_;refine acT Tryz.func91 4 ?_;have t:=Hb.mk' h m x;refine BB @bxM @bxH ?_
 generalize h++[yE 2 [DV m]]++[yE 3 [F8 x]]=H at t|-
 generalize (h++[yE 2 [DV m]]).length=hb at t|-
 refine A7 (AX1 t.gh) ?_;cases hc:x.cross
 case true =>
  have hf:kX m x=crF m x (AES m x.idx):=by unfold kX;rw[if_pos hc]
  refine DW (ldM t.gm) (ANZ t.gh) (AR7 t.gh) ?_;rcases VU x.idx m.crs.length with hz|⟨i,hi,hz⟩
  .rw[AER hz] at hf;change kX m x=false at hf
   refine(nP G m x.idx hz x.bins x.bm H).uu ?_;exact⟨by rw[hf],t.hx⟩
  .rw[hz,UZ hi] at hf
   change kX m x=(KA (szs m m.crs[i].pts) x.bins&&Z7 m m.crs[i] x.bins) at hf;have hcg:=hg.crs _ (jG hi);rw[hz];refine(YL G m i hi hcg x.bins x.bm hn H).use ?_;cases hin:KA (szs m m.crs[i].pts) x.bins
   .refine AB ?_
    exact⟨by rw[hf,hin,Bool.false_and],t.hx⟩
   .refine DW (ldM t.gm) (ANZ t.gh) (AR7 t.gh) ?_
    rw[hz];refine(rY G m i hi hcg x.bins x.bm hin H).uu ?_;exact⟨by rw[hf,hin,wG,Bool.not_not],t.hx⟩
 have hf:kX m x=ptF x (AM9 m x.idx):=by unfold kX;rw[if_neg (by rw[hc];decide)]
 have l1:=ANZ t.gh;have l2:=AR7 t.gh;rcases VU x.idx m.pts.length with hz|⟨i,hi,hz⟩
 .rw[ACB hz] at hf;change kX m x=false at hf
  cases d0:decide (x.idx<0)
  .have d1:decide (x.idx≥(m.pts.length:Int))=true:=by rw[decide_eq_true_eq];rw[decide_eq_false_iff_not] at d0;omega
   refine ES l1 d0 (dS t.gm) d1 ?_;exact⟨by rw[hf],t.hx⟩
  .refine BB l1 d0 ?_
   exact⟨by rw[hf],t.hx⟩
 rw[hz,AJX hi] at hf;change kX m x=uA m.pts[i] x.bins at hf;rw[hz] at l1;rcases Classical.em (x.bins.length=1) with hl|hl
 case inr =>
  have hne:((x.bins.length:Int) != 1)=true:=by simp;omega
  refine NY l1 l2 @ltz_false (dS t.gm) (tV hi) hne ?_;exact⟨by rw[hf,AD3 hl],t.hx⟩
 obtain⟨b,hb1⟩:=mF hl;rw[hb1] at l2 hf;have h01:0<([b]:List Int).length:=BA;have i0:IM 1 H (.sl x.bm 1 [qencI b]) (.n 0)=some (.fptr 1 [qencI b] 0 0):=CZ (k:=1) h01;have hne:(((([qencI b]:List (List AV)).length:Nat):Int) != 1)=false:=rfl;have lb:BI jA H 3 (.fptr 1 [qencI b] 0 0)=some (.n b):=(CW ag3 h01).trans rfl;simp only[vQ,EM,CP,MO,↓reduceIte,jC,Nat.add_zero,enP,XL,AR2,P7,LY,dO,YR,bT,OQ,l1,l2,ltz_false,dS t.gm,jP,tV hi,hne,CZ hi,CW QC hi,TS,i0,lb];rcases VU b m.pts[i].bins.length with hb2|⟨k,hk,rfl⟩
 .rw[tZ hb2] at hf
  cases d0:decide (b≥0)
  .refine A7 d0 ?_
   exact⟨by rw[hf],t.hx⟩
  .have d1:decide (b<(m.pts[i].bins.length:Int))=false:=by rw[decide_eq_false_iff_not];rw[decide_eq_true_eq] at d0;omega
   refine JI d0 l2 i0 lb d1 ?_;exact⟨by rw[hf],t.hx⟩
 .rw[AD4 hk] at hf
  simp only[vQ,EM,QH,CP,J7,↓reduceIte,jC,enP,LY,bT,fO,rO,gA,ADR,l2,i0,lb,jP,ARZ hk,CZ hk,CW ag3 hk,aQ];exact⟨by rw[hf],t.hx⟩
end
section
variable (G:Nat->AV)
theorem valid_prog (hG:GOk G)(m:Mo)(hm:MoOk m)(x:Hl)(hn:x.bins.length<=1048576)(h:Hp):PCall (En G) 42 [.agg (DV m),.agg (F8 x)] h (.bool (NQ m x)):=by
 refine ACalls.pure0 rfl ?_;refine acT Tryz.func42 4 ?_;have t:=Hb.mk' h m x;refine BB @bxM @bxH ?_
 generalize h++[yE 2 [DV m]]++[yE 3 [F8 x]]=H at t|-
 generalize (h++[yE 2 [DV m]]).length=hb at t|-
 refine A7 (ldM t.gm) ?_;refine(TI G hG m hm H).use ?_;unfold NQ;cases h0:(FQ m==0)
 .refine A7 h0 ?_
  exact⟨by rw[Bool.false_and],t.hx⟩
 .have hg:Cov.Good m:=UU (BM h0)
  refine DW h0 (ldM t.gm) (ldH t.gh) ?_;refine(AOO G m hg x hn H).uu ?_;exact⟨by rw[wG],t.hx⟩
end
theorem VG {x:Hl}(hv:NQ m x=true)(hc:x.cross=true):∃i,∃hi:i<m.crs.length,x.idx=(i:Int)/\KA (szs m m.crs[i].pts) x.bins=true/\Z7 m m.crs[i] x.bins=true/\Cov.Good m:=by
 unfold NQ at hv;rw[jM] at hv;obtain⟨h0,hf⟩:=hv;unfold kX at hf;rw[if_pos hc] at hf;rcases VU x.idx m.crs.length with hz|⟨i,hi,hz⟩
 .rw[AER hz] at hf;exact Bool.noConfusion (show false=true from hf)
 .rw[hz,UZ hi] at hf
  change (KA (szs m m.crs[i].pts) x.bins&&Z7 m m.crs[i] x.bins)=true at hf;rw[jM] at hf;exact⟨i,hi,hz,hf.1,hf.2,UU (BM h0)⟩
theorem VF {x:Hl}(hv:NQ m x=true)(hc:x.cross=false):∃i,∃hi:i<m.pts.length,∃k,∃hk:k<m.pts[i].bins.length,x.idx=(i:Int)/\x.bins=[(k:Int)]/\m.pts[i].bins[k].kind=0/\Cov.Good m:=by
 unfold NQ at hv;rw[jM] at hv;obtain⟨h0,hf⟩:=hv;unfold kX at hf;rw[if_neg (by rw[hc];decide)] at hf;rcases VU x.idx m.pts.length with hz|⟨i,hi,hz⟩
 .rw[ACB hz] at hf;exact Bool.noConfusion (show false=true from hf)
 .rw[hz,AJX hi] at hf
  change uA m.pts[i] x.bins=true at hf;rcases Classical.em (x.bins.length=1) with hl|hl
  .obtain⟨b,hb⟩:=mF hl
   rw[hb] at hf;rcases VU b m.pts[i].bins.length with hb2|⟨k,hk,rfl⟩
   .rw[tZ hb2] at hf;exact Bool.noConfusion (show false=true from hf)
   .rw[AD4 hk] at hf
    exact⟨i,hi,k,hk,hz,hb,BM hf,UU (BM h0)⟩
  .rw[AD3 hl] at hf;exact Bool.noConfusion (show false=true from hf)
theorem fV:∀(l:List Nat) (a:Nat),l.foldl (· * ·) a=a*l.foldl (· * ·) 1
 | [],a=>(Nat.mul_one a).symm
 | n::l,a=>by
   show l.foldl (· * ·) (a*n)=a*l.foldl (· * ·) (1*n);rw[fV l (a*n),fV l (1*n),wZ,Nat.mul_assoc]
theorem bH (n:Nat)(ns:List Nat):JB (n::ns)=n*JB ns:=by
 unfold JB;show ns.foldl (· * ·) (1*n)=_;rw[wZ,fV]
theorem fH:∀ {ns:List Nat},(∀n∈ns,1<=n)->1<=JB ns
 | [],_=>jF 1
 | n::ns,h=>by
   rw[bH];exact Nat.mul_le_mul (h n List.mem_cons_self) (fH fun k hk=>h k (yB _ hk))
theorem AST:∀ {ns:List Nat} {l:List Int} {z:Nat},KA ns l=true->(∀n∈ns,1<=n)->(z+1)*JB ns<=4611686018427387904->∃r:Nat,Z5 ns l (z:Int)=((z*JB ns+r:Nat):Int)/\r<JB ns
 | [],[],z,_,_,_=>⟨0,by show(z:Int)=((z*1+0:Nat):Int);omega,by decide⟩
 | [],_::_,_,h,_,_=>by simp [KA] at h
 | _::_,[],_,h,_,_=>by simp [KA] at h
 | n::ns,x::xs,z,h,h1,hb=>by
   simp only[KA,jM,decide_eq_true_eq] at h;obtain⟨⟨x0,x1⟩,hr⟩:=h;have hP:=fH (ns:=ns) fun k hk=>h1 k (yB _ hk)
   rw[bH] at hb|-
   obtain⟨y,rfl⟩:∃y:Nat,x=(y:Int):=⟨x.toNat,U⟩;have hy:y<n:=U
   generalize hp:JB ns=P at hP hb|-
   have e1:(z+1)*(n*P)=(z*n+n)*P:=by rw[<-Nat.mul_assoc,qE,wZ]
   have e2:(z*n+n)<=(z*n+n)*P:=Nat.le_mul_of_pos_right _ hP;have e3:(z*n+y+1)*P<=(z*n+n)*P:=wJ P U;have w1:IntKind.i64.wrap ((z:Int)*(n:Int))=((z*n:Nat):Int):=by rw[<-Int.natCast_mul];exact MR U
   have w2:IntKind.i64.wrap (((z*n:Nat):Int)+(y:Int))=((z*n+y:Nat):Int):=by rw[<-Int.natCast_add];exact MR U
   obtain⟨r,r1,r2⟩:=AST (z:=z*n+y) hr (fun k hk=>h1 k (yB _ hk)) (by rw[hp];omega);rw[hp] at r1 r2;refine⟨y*P+r,?_,?_⟩
   .show Z5 ns xs (IntKind.i64.wrap (IntKind.i64.wrap ((z:Int)*(n:Int))+(y:Int)))=_
    rw[w1,w2,r1];congr 1;rw[qE,Nat.mul_assoc];omega
   .have:(y+1)*P<=n*P:=wJ P hy
    rw[qE,wZ] at this;omega
theorem ADL (hg:Cov.Good m)(hi:i<m.crs.length)(hin:KA (szs m m.crs[i].pts) l=true):∃k:Nat,Z5 (szs m m.crs[i].pts) l 0=(k:Int)/\k<JB (szs m m.crs[i].pts):=by
 have hcg:=hg.crs _ (jG hi);have hs:=hg.full.szs hcg.here;have hfour:=hcg.four;have hp:JB (szs m m.crs[i].pts)<=64^4:=mU _ 4 (fun n hn=>(hs n hn).2) (by rw[SG];exact hfour);obtain⟨r,r1,r2⟩:=AST (z:=0) hin (fun n hn=>(hs n hn).1) U;exact⟨r,by rw[show(0:Int)=((0:Nat):Int) from rfl,r1,Nat.zero_mul,jH],r2⟩
end Go.Proofs.YtiihpnicbekebaaGreatDoor.Ho
namespace Go.Proofs.YtiihpnicbekebaaGreatDoor.Ho
open Sm Bins Cov Xe Go.RowKit
variable {m:Mo} {c:Cvr}
theorem sW {m:Mo}:∀ {l:List (List Sg)} {s:St},FitS m s->(RU m s l).1=0->FitS m (RU m s l).2
 | [],_,h,_=>h
 | e::r,s,h,h0=>by
   unfold RU at h0|-
   split
   .rename_i hn
    rw[if_pos hn] at h0;exact absurd h0 hn
   .rename_i hn
    rw[if_neg hn] at h0;exact sW (h.step (Classical.byContradiction hn)) h0
theorem AQ0 {l:List (List Sg)}(h0:FQ m=0)(h:U5 m l=0):MV m (XI m l)=true:=by
 unfold U5 at h;rw[if_pos h0] at h;unfold XI;rw[if_pos ⟨h0,h⟩];exact(sW (APW h0) h).fits
theorem AZT (hf:MV m c=true){i k:Nat}(hi:i<m.pts.length)(hk:k<m.pts[i].bins.length):∃hi:i<c.pts.length,∃hk:k<c.pts[i].l.length,cellAt c.pts i k=c.pts[i].l[k]:=by
 obtain⟨_,h1,_⟩:=fY.1 hf;obtain⟨x,e,ho⟩:=VL h1 i m.pts[i] (jI hi);exact ZQ (xQ e (AXB ho) hk)
theorem AZU (hf:MV m c=true){i k:Nat}(hi:i<m.crs.length)(hk:k<JB (szs m m.crs[i].pts)):∃hi:i<c.crs.length,∃hk:k<c.crs[i].l.length,cellAt c.crs i k=c.crs[i].l[k]:=by
 obtain⟨_,_,h2,_⟩:=fY.1 hf;obtain⟨x,e,ho⟩:=VL h2 i m.crs[i] (jI hi);exact ZQ (xQ e (AXF ho) hk)
def VR (m:Mo)(x:Hl)(c:Cvr):Int:=if x.cross=true then (match AES m x.idx with
    | some r=>cellAt c.crs x.idx.toNat (ixV (szs m r.pts) x.bins).toNat
    | none=>0) else cellAt c.pts x.idx.toNat (x.bins.headD 0).toNat
def htV (m:Mo)(x:Hl)(c:Cvr)(e:Int):Bool×Int:=if NQ m x=true then (if e=0 then (decide (VR m x c>0),0) else (false,e)) else (false,1)
structure H3 (h H:Hp) (m:Mo) (x:Hl) (c:Cvr) (hb cb:Nat):Prop where
 gm:H[h.length]?=some (yE 2 [DV m])
 gh:H[hb]?=some (yE 3 [F8 x])
 gc:H[cb]?=some (yE 4 [encV c])
 hx:ext h H
theorem BAQ {H:Hp}{b:Nat}(hb:H[b]?=some (yE 4 [encV c])):BI jA H 25 (.ptr b 0 0)=some (.sl c.pm 1 (c.pts.map encL)):=by rw[BC UJ hb (row:=encV c) rfl];rfl
theorem BAP {H:Hp}{b:Nat}(hb:H[b]?=some (yE 4 [encV c])):BI jA H 25 (.ptr b 0 1)=some (.sl c.cm 1 (c.crs.map encL)):=by rw[BC UJ hb (row:=encV c) rfl];rfl
section
variable (G:Nat->AV)
theorem hit_prog (hG:GOk G)(hT:eT G)(m:Mo)(hm:MoOk m)(x:Hl)(hn:x.bins.length<=1048576)(l:List Ss)(s:SM)(h:Hp)(hl:l.length<=1048576)(he:∀x∈l,x.l.length<=1048576/\∀s∈x.l,A47 s):
  PCall (En G) 31 [.agg (DV m),.agg (F8 x),.sl s 1 (l.map aM)] h (.tup [.bool (htV m x (XI m (l.map Ss.l)) (U5 m (l.map Ss.l))).1,.n (htV m x (XI m (l.map Ss.l)) (U5 m (l.map Ss.l))).2]):=by
 refine ACalls.pure 2 (R:=fun v H=>v=.tup [.bool (htV m x (XI m (l.map Ss.l)) (U5 m (l.map Ss.l))).1,.n (htV m x (XI m (l.map Ss.l)) (U5 m (l.map Ss.l))).2]/\ext h H) ?_ (fun v h' ⟨e,x⟩=>⟨x,by subst e;rfl⟩);refine acL Tryz.func31 [.tmp 6,.tmp 7] ?_;have t:=Hb.mk' h m x;refine BB @bxM @bxH ?_
 generalize h++[yE 2 [DV m]]++[yE 3 [F8 x]]=H at t|-
 generalize (h++[yE 2 [DV m]]).length=hb at t|-
 refine BB (ldM t.gm) (ldH t.gh) ?_;refine(valid_prog G hG m hm x hn H).use ?_;cases hv:NQ m x
 .have hr:htV m x (XI m (l.map Ss.l)) (U5 m (l.map Ss.l))=(false,1):=by unfold htV;rw[if_neg (by rw[hv];decide)]
  refine AB ?_;exact⟨by rw[hr],t.hx⟩
 have h0:FQ m=0:=by unfold NQ at hv;rw[Bool.and_eq_true] at hv;simpa using hv.1
 refine A7 (ldM t.gm) ?_;refine(AVE G hG hT m hm l s H hl (fun x hx=>(he x hx).1)).use ?_;have hfit:=fun e=>AQ0 (m:=m) (l:=l.map Ss.l) h0 e
 generalize XI m (l.map Ss.l)=c at hfit|-
 generalize U5 m (l.map Ss.l)=e at hfit|-
 have t':H3 h (H++[yE 4 [encV c]]) m x c hb H.length:=⟨AO t.gm,AO t.gh,AX _ _,t.hx.app _⟩;simp only[vQ,wC,wK,CP,KT,O8,↓reduceIte,jC,enP,Option.getD_none,pR,A2N,bne]
 generalize H++[yE 4 [encV c]]=H1 at t'|-
 generalize H.length=cb at t'|-
 cases hz:(e==0)
 .have hz':e≠0:=BM hz
  have hr:htV m x c e=(false,e):=by unfold htV;rw[if_pos hv,if_neg hz']
  refine AB ?_;exact⟨by rw[hr],t'.hx⟩
 have hz':e=0:=BM hz;have hf:=hfit hz';have hr:htV m x c e=(decide (VR m x c>0),0):=by unfold htV;rw[if_pos hv,if_pos hz']
 rw[hr];clear hr hfit t;have l1:=ANZ t'.gh;have l2:=AR7 t'.gh;refine A7 (AX1 t'.gh) ?_;cases hc:x.cross
 .obtain⟨i,hi,k,hk,hzi,hbn,_,hg⟩:=VF hv hc
  rw[hzi] at l1;rw[hbn] at l2;have h01:0<([(k:Int)]:List Int).length:=BA;have i0:IM 1 H1 (.sl x.bm 1 [qencI k]) (.n 0)=some (.fptr 1 [qencI k] 0 0):=CZ (k:=1) h01;have lb:BI jA H1 3 (.fptr 1 [qencI k] 0 0)=some (.n k):=(CW ag3 h01).trans rfl;obtain⟨hi2,hk2,hcell⟩:=AZT hf hi hk
  have hce:VR m x c=c.pts[i].l[k]:=by
   unfold VR;rw[if_neg (by rw[hc];decide),hzi,hbn];exact hcell
  refine AB ?_;refine D6 AZ ?_;simp only[vQ,LQ,OT,LG,oL,J6,List.map_cons,List.map_nil,↓reduceIte,jC,Nat.reduceAdd,Nat.add_zero,enP,fQ,LY,YR,bT,gB,l1,l2,BAQ t'.gc,CZ hi2,CW NF hi2,oN,i0,lb,CZ hk2,CW ag3 hk2,Bins.encI0];exact⟨by rw[hce],t'.hx⟩
 obtain⟨i,hi,hzi,hin,_,hg⟩:=VG hv hc;have hcg:=hg.crs _ (List.getElem_mem hi);obtain⟨k,hk1,hk⟩:=ADL hg hi hin;have hiv:ixV (szs m m.crs[i].pts) x.bins=(k:Int):=by unfold ixV;rw[if_pos hin,hk1]
 rw[hzi] at l1;obtain⟨hi2,hk2,hcell⟩:=AZU hf hi hk
 have hce:VR m x c=c.crs[i].l[k]:=by
  unfold VR;rw[if_pos hc,hzi,UZ hi];show cellAt c.crs i (ixV (szs m m.crs[i].pts) x.bins).toNat=_;rw[hiv];exact hcell
 refine DW (ldM t'.gm) l1 l2 ?_;refine(YL G m i hi hcg x.bins x.bm hn H1).use ?_;rw[hiv];simp only[vQ,wC,wK,oL,CP,KT,O8,J6,↓reduceIte,jC,enP,fQ,LY,YR,yG,l1,BAP t'.gc,CZ hi2,CW NF hi2,oN,CZ hk2,CW ag3 hk2,Bins.encI0];exact⟨by rw[hce],t'.hx⟩
end
end Go.Proofs.YtiihpnicbekebaaGreatDoor.Ho
namespace Go.Proofs.YtiihpnicbekebaaGreatDoor.Ho
open Sm Bins Cov Go.RowKit
variable {H:Hp} {b:Nat}
theorem A6X {p:Pt}(hb:H[b]?=some (yE 6 [FK p])):BI jA H 80 (.ptr b 0 5)=some (.sl p.bm 4 (p.bins.map GG)):=by
 rw[BC QC hb (row:=FK p) rfl,TS]
theorem A1D {p:Pt}(hb:H[b]?=some (yE 6 [FK p])):BI jA H 79 (.ptr b 0 1)=some (.agg (A8 p.ex)):=by
 rw[ED O6 JE hb rfl (by rw[H9];exact jB rfl),yQ]
theorem ZE {P:Program}{t e:TypeId}{α:Type}{k bs:Nat}{f:α->List AV}{h:Hp}{xs ys:List α}{v:AV}(s:SM)(ho:outG k f h xs v H)(hu:P.underlying t=some (.slice e))(hs:szO P e=some k)(hz:TA P e=some k)(hb:KI P e=some bs)(hbs:bs<=4194304)(hl:xs.length+ys.length<=8388608)(he:ext h H):
  ∃v' H',EQ P true H t t v (.sl s k (ys.map f))=some (v',H')/\outG k f h (xs++ys) v' H'/\(∀b x,H[b]?=some x->¬isB v b->H'[b]?=some x)/\ext h H'/\H.length<=H'.length/\(∀b,isB v' b->isB v b\/b=H.length):=by
 cases ys with
 | nil =>
   refine⟨v,H,?_,by rw[jO];exact ho,fun _ _ hx _=>hx,he,jF _,fun b hb=>.inl hb⟩;have hcs:I9 H (.sl s k [])=some (k,[]):=GK H s k [];rcases ho with⟨rfl,rfl⟩|⟨hne,o,h2,rfl,h3⟩
   .simp [EQ,hu,hs,TD,hcs,bump]
   .have hc:I9 H (.own o 0 xs.length)=some (k,xs.map f):=by rw[JS h3 BA,zU,jJ BA]
    simp [EQ,hu,hs,TD,hc,hcs,bump]
 | cons y ys =>
   have h1:(y::ys).map f≠[]:=BA;rcases ho with⟨rfl,rfl⟩|⟨hne,o,h2,rfl,h3⟩
   .refine⟨_,_,QZ hu hs hz hb (GK H s k ((y::ys).map f)) h1 (G5 (by simp at hl|-;omega) hbs),.inr ⟨BA,H.length,he.le,BA,BA⟩,fun b x hb _=>FO hb,he.app _,BA,fun b hb=>.inr hb.symm⟩
   .have hc:I9 H (.own o 0 xs.length)=some (k,xs.map f):=by rw[JS h3 BA,zU,jJ BA]
    refine⟨_,_,QB hu hs hz hb hc (GK H s k ((y::ys).map f)) h1 (G5 (by simp at hl|-;omega) hbs),.inr ⟨BA,H.length,he.le,BA,BA⟩,fun b x hb hn=>?_,(he.set h2 _).app _,BA,fun b hb=>.inr hb.symm⟩;have hn':¬o=b:=hn;refine FO ?_;rw[List.getElem?_set,if_neg hn'];exact hb
def KG:List Bin->List Rng
 | []=>[]
 | b::r=>(if b.kind≠0 then b.ranges.l else [])++KG r
theorem APG {l:List Bin}{k:Nat}(hk:k<l.length):KG (l.take (k+1))=KG (l.take k)++(if l[k].kind≠0 then l[k].ranges.l else []):=by
 induction l generalizing k with
 | nil=>simp at hk
 | cons b r ih =>
   cases k with
   | zero=>simp [KG]
   | succ k =>
     have:=ih (k:=k) (BM hk);simp only[List.take_succ_cons,List.getElem_cons_succ];show _++KG (r.take (k+1))=(_++KG (r.take k))++_;rw[this,List.append_assoc]
theorem AUS {l:List Bin}(k:Nat):(KG (l.take k)).length<=(KG l).length:=by
 induction l generalizing k with
 | nil=>simp
 | cons b r ih =>
   cases k with
   | zero=>simp [KG]
   | succ k =>
     have:=ih k;show(_++KG (r.take k)).length<=(_++KG r).length;rw[jX,jX];omega
theorem A7C:Frz encR:=fun _ _ _ _=>⟨rfl,rfl⟩
theorem AR8 {x:Bin}(hb:H[b]?=some (yE 4 [GG x])):BI jA H 84 (.ptr b 0 2)=some (.sl x.ranges.m 2 (x.ranges.l.map encR)):=by
 rw[BC RZ hb (row:=GG x) rfl,uH]
theorem A6Z {x:Bin}(hb:H[b]?=some (yE 4 [GG x])):BI jA H 3 (.ptr b 0 1)=some (.n x.kind):=by
 rw[BC ag3 hb (row:=GG x) rfl,aQ]
theorem A79 (h:Hp)(p:Pt):MP h (.agg (FK p))=some (.ptr h.length 0 0,h++[yE 6 [FK p]]):=by
 rw[WX (gJ p),H9]
section
variable (G:Nat->AV)
theorem AUR (p:Pt)(hp:p.bins.length<=1048576)(hl:(KG p.bins).length<=1048576)(h:Hp):PCall (En G) 169 [.agg (FK p)] h (.sl (Cov.nm (KG p.bins)) 2 ((KG p.bins).map encR)):=by
 refine J3 A7C ?_;refine acT Tryz.func169 2 ?_;have gp:=AX h (yE 6 [FK p]);have hx:=Sm.ext.r1 h (yE 6 [FK p]);refine A7 @A79 ?_
 generalize h++[yE 6 [FK p]]=H0 at gp hx|-
 refine A7 (A6X gp) ?_
 refine BK (fun n F H=>∃k u,n+k=p.bins.length/\F 3=u/\F 7=.sl p.bm 4 (p.bins.map GG)/\F 8=.n (p.bins.length:Nat)/\F 9=.n (k:Nat)/\ext H0 H/\outG 2 encR H0 (KG (p.bins.take k)) u H) p.bins.length
  ⟨0,.sl .nil 0 [],BA,AQ,AQ,AQ,AQ,ext.rfl' _,outG.nil _ _ _ _⟩ ?_
 rintro n F H ⟨k,u,hk,f3,f7,f8,f9,he,ho⟩;refine BB f8 f9 ?_;refine D9 ?_ ?_<;>intro hk'
 .have hst:=APG hk'
  have hbl:=AUS (l:=p.bins) (k+1);have gb:=AX H (yE 4 [GG p.bins[k]]);have he1:=he.app [yE 4 [GG p.bins[k]]];have ho1:=ho.app [yE 4 [GG p.bins[k]]];simp only[vQ,CP,↓reduceIte,jC,Nat.zero_add,enP,fO,gA,jQ,f7,f9,CZ hk',DJ lA aZ LC hk',al79,st79 _ _ [.str ⟨#[]⟩,.n 0,.sl .nil 0 [],.sl .nil 0 []] rfl]
  generalize H++[yE 4 [GG p.bins[k]]]=H1 at gb he1 ho1|-
  simp only[vQ,CP,↓reduceIte,enP,A6Z gb,bne];cases hz:(p.bins[k].kind==0)
  .have hz':p.bins[k].kind≠0:=BM hz
   rw[if_pos hz'] at hst;rw[hst,jX] at hbl;obtain⟨v',H2,ha,ho2,_,he2,_,_⟩:=ZE p.bins[k].ranges.m ho1 aY MF APU AUB U (ys:=p.bins[k].ranges.l) U he1;rw[<-hst] at ho2;refine JI f3 (AR8 gb) ha f9 (DC k) ?_;exact⟨n-1,U,k+1,v',U,AL,AL,AL,AL,he2,ho2⟩
  .have hz':¬p.bins[k].kind≠0:=BM hz
   rw[if_neg hz',jO] at hst;rw[<-hst] at ho1;refine BB f9 (DC k) ?_;exact⟨n-1,U,k+1,u,U,AL,AL,AL,AL,he1,ho1⟩
 .rw[jJ U] at ho
  refine A7 f3 ?_;exact⟨hx.trans he,ho.base hx.le⟩
end
def cE (n:Int):Ex:=.mk 1 n ⟨#[]⟩ .nil []
def pB (op n:Int):List AV:=[.n op,.n n,.str ⟨#[]⟩,.sl .nil 0 []]
theorem ALW (n:Int):I5 jA 79 [(0,.n 1),(1,.n n)]=some (.agg (pB 1 n)):=AZ
theorem AZW (n:Int):CvRow (pB 1 n) (A8 (cE n)):=by
 rw[FI];exact CvRow.cons rfl (Cv.refl _) (CvRow.cons rfl (Cv.refl _) (CvRow.cons rfl (Cv.refl _) (CvRow.cons rfl (Cv.nil 0 4) CvRow.nil)))
def cpE:Ex->Ex
 | .mk op n name _ args=>.mk op n name (match args with|[]=>.nil|_=>.any) (cpEs args)
 where cpEs:List Ex->List Ex
 | []=>[]
 | e::es=>cpE e::cpEs es
theorem AET:∀l:List Ex,cpE.cpEs l=l.map cpE
 | []=>rfl
 | e::es=>by show cpE e::cpE.cpEs es=_;rw[AET es];rfl
theorem cA (e:Ex):cpE e=.mk e.op e.n e.name (Cov.nm (e.args.map cpE)) (e.args.map cpE):=by
 cases e with
 | mk op n name m args =>
   show Ex.mk op n name _ (cpE.cpEs args)=Ex.mk op n name _ (args.map cpE);rw[AET];cases args<;>rfl
theorem frzEx:Frz A8:=fun n h d x=>by
 rw[FI];exact⟨rfl,rfl⟩
def cpW (e:Ex):List AV:=[.n e.op,.n e.n,.str e.name,fzG 4 A8 (e.args.map cpE)]
theorem AT9 (e:Ex):CvR (.agg (cpW e)) (.agg (A8 (cpE e))):=by
 rw[FI,cA];exact CvR.agg (CvRL.cons (CvR.refl _) (CvRL.cons (CvR.refl _) (CvRL.cons (CvR.refl _) (CvRL.cons WR CvRL.nil))))
theorem pA (n:Int):CvR (.agg (pB 1 n)) (.agg (A8 (cE n))):=by
 rw[FI];exact CvR.agg (CvRL.cons (CvR.refl _) (CvRL.cons (CvR.refl _) (CvRL.cons (CvR.refl _) (CvRL.cons (CvR.sl (Cv.nil 0 4)) CvRL.nil))))
theorem XA {row cs:List AV}(hb:H[b]?=some (yE 4 [row]))(hr:row.length=4)(hc:cs.length=4)(hl:cs.all AV.leaf=true):DU jA H 79 (.ptr b 0 0) (.agg cs)=some (H.set b (yE 4 [cs])):=by
 rw[IR (cs:=cs) (PG hl) (by rw[hc];exact JE) hb (by rw[hr,hc];exact jF 4)];have:splice row 0 cs=cs:=by unfold splice;rw[List.take_zero,List.drop_eq_nil_of_le (by rw[hr,hc];exact jF 4)];simp
 rw[this]
theorem KZ {h:Hp}{row:List AV}(hb:h[b]?=some (yE 4 [row]))(hr:row.length=4):BI jA h 79 (.ptr b 0 0)=some (.agg row):=by
 rw[ED O6 JE hb rfl (by rw[hr];exact jF 4),zU,<-hr,List.take_length]
theorem YG (G:Nat->AV)(n:Int)(h:Hp):PCall (En G) 247 [.n n] h (.agg (A8 (cE n))):=by
 refine PCall.res ?_ (pA n);refine X8 3 (fun n H=>rfl) ?_;refine acL Tryz.func247 [.cell 2 79] ?_;have g2:=AX h (yE 4 [[.n 0,.n 0,.str ⟨#[]⟩,.sl .nil 0 []]]);have hx:=Sm.ext.r1 h (yE 4 [[.n 0,.n 0,.str ⟨#[]⟩,.sl .nil 0 []]]);refine A7 RQ ?_
 generalize h++[yE 4 [[.n 0,.n 0,.str ⟨#[]⟩,.sl .nil 0 []]]]=H at g2 hx|-
 refine BB @ALW (XA (cs:=pB 1 n) g2 rfl rfl rfl) ?_;rw[JM (b:=h.length) AQ (KZ (CV g2) rfl)];exact⟨rfl,hx.set (jF _) _⟩
theorem AEV (G:Nat->AV):∀(w:Nat) (e:Ex) (h:Hp),wt e<=w->wt e<=1048576->PCall (En G) 246 [.agg (A8 e)] h (.agg (A8 (cpE e))):=by
 intro w
 induction w with
 | zero=>intro e h h1 _;have:=MQ e;omega
 | succ w ih =>
   intro e h h1 h2;have hlen:=V5 e.args;have hwt:=MQ e;refine PCall.res (r:=.agg (cpW e)) ?_ (AT9 e);refine ACalls.pure (R:=fun v H=>ext h H/\FH h.length H 4 v=.agg (cpW e)) 4 ?_ (fun v H ⟨a,b⟩=>⟨a,b⟩);refine acL Tryz.func246 [.cell 2 79] ?_;have ge:=AO (x:=yE 4 [[.n 0,.n 0,.str ⟨#[]⟩,.sl .nil 0 []]]) (AX h (yE 4 [A8 e]));have g2:=AX (h++[yE 4 [A8 e]]) (yE 4 [[.n 0,.n 0,.str ⟨#[]⟩,.sl .nil 0 []]]);have hx:ext h (h++[yE 4 [A8 e]]++[yE 4 [[.n 0,.n 0,.str ⟨#[]⟩,.sl .nil 0 []]]]):=((ext.rfl' h).app _).app _;have hb2:h.length<(h++[yE 4 [A8 e]]).length:=BA;refine BB @bxE RQ ?_
   generalize h++[yE 4 [A8 e]]++[yE 4 [[.n 0,.n 0,.str ⟨#[]⟩,.sl .nil 0 []]]]=H0 at ge g2 hx|-
   generalize (h++[yE 4 [A8 e]]).length=b2 at g2 hb2|-
   have l2:=AC g2;refine A7 (Rk.ldE' ge) ?_
   refine BK (fun n F H=>∃k u,n+k=e.args.length/\F 1=.ptr h.length 0 0/\F 2=.ptr b2 0 0/\F 3=u/\F 7=.sl e.m 4 (e.args.map A8)/\F 8=.n (e.args.length:Nat)/\F 9=.n (k:Nat)/\ext H0 H/\outG 4 A8 H0 ((e.args.take k).map cpE) u H) e.args.length
    ⟨0,.sl .nil 0 [],BA,AQ,AQ,AQ,AQ,AQ,AQ,ext.rfl' _,outG.nil _ _ _ _⟩ ?_
   rintro n F H ⟨k,u,hk,f1,f2,f3,f7,f8,f9,he,ho⟩;refine BB f8 f9 ?_;refine D9 ?_ ?_<;>intro hk'
   .have hlt:=Rk.wt_arg hk'
    have he1:=he.app [yE 4 [A8 e.args[k]]];have ho1:=ho.app [yE 4 [A8 e.args[k]]];have gT:=ldE H e.args[k];simp only[vQ,CP,List.map_cons,List.map_nil,↓reduceIte,jC,enP,PZ,jQ,f7,f9,CZ hk',DJ O6 JE EG hk',RQ,rF _ _ [.n 0,.n 0,.str ⟨#[]⟩,.sl .nil 0 []] rfl,gT]
    generalize H++[yE 4 [A8 e.args[k]]]=H1 at he1 ho1|-
    refine(ih e.args[k] H1 U U).use ?_
    have hbs:DF jA false H1 23 1 [(0,.agg (A8 (cpE e.args[k])))]=some (.sl .full 4 [A8 (cpE e.args[k])],H1):=by
     rw[FI];exact(AZ:DF jA false H1 23 1 [(0,.agg [.n (cpE e.args[k]).op,.n (cpE e.args[k]).n,.str (cpE e.args[k]).name,.sl (cpE e.args[k]).m 4 ((cpE e.args[k]).args.map A8)])]=_)
    obtain⟨v',H2,ha,ho2,_,he2,_,_⟩:=ho1.append WB JE eY eM U LD he1 (cpE e.args[k]);have e3:(e.args.take k).map cpE++[cpE e.args[k]]=(e.args.take (k+1)).map cpE:=by rw[List.take_succ_eq_append_getElem hk',List.map_append];rfl
    rw[e3] at ho2;refine JI f3 hbs ha f9 (DC k) ?_;exact⟨n-1,U,k+1,v',U,AL,AL,AL,AL,AL,AL,he2,ho2⟩
   .rw[jJ U] at ho
    have ge1:=DI he ge;have g21:=DI he g2;have hle:=he.le;have hlf:=ho.leaf;have h0l:h.length<H0.length:=U
    have hst:DU jA H 23 (.ptr h.length 0 3) u=some (H.set h.length (yE 4 [[.n e.op,.n e.n,.str e.name,u]])):=by
     rw[FI] at ge1;rcases ho with⟨_,rfl⟩|⟨_,o,_,rfl,_⟩
     .rw[IR (cs:=[.sl .nil 0 []]) rfl (AZ:szO jA 23=some 1) ge1 BA];rfl
     .rw[IR (cs:=[.own o 0 _]) rfl (AZ:szO jA 23=some 1) ge1 BA];rfl
    have g1':(H.set h.length (yE 4 [[.n e.op,.n e.n,.str e.name,u]]))[h.length]?=some (yE 4 [[.n e.op,.n e.n,.str e.name,u]]):=CV ge1;have g2':(H.set h.length (yE 4 [[.n e.op,.n e.n,.str e.name,u]]))[b2]?=_:=C9 g21 U;have ho3:outG 4 A8 H0 (e.args.map cpE) u (H.set h.length (yE 4 [[.n e.op,.n e.n,.str e.name,u]])):=ho.setB h0l _;have hx3:ext h (H.set h.length (yE 4 [[.n e.op,.n e.n,.str e.name,u]])):=(hx.trans he).set (jF _) _;refine ES f1 f2 f3 hst ?_
    generalize H.set h.length (yE 4 [[.n e.op,.n e.n,.str e.name,u]])=H3 at g1' g2' ho3 hx3|-
    have hlf4:([.n e.op,.n e.n,.str e.name,u]:List AV).all AV.leaf=true:=by simp [hlf];exact⟨rfl,rfl,rfl⟩
    refine ES f1 f2 (KZ g1' rfl) (XA g2' rfl rfl hlf4) ?_;rw[JM (b:=b2) (EI f2) (KZ (CV g2') rfl)];refine⟨hx3.set U _,?_⟩;have ho4:=ho3.setB (b:=b2) l2 (yE 4 [[.n e.op,.n e.n,.str e.name,u]]);have hz:=P6 frzEx ho4 h.length 1 (by have:=hx.le;omega);show AV.agg [.n e.op,.n e.n,.str e.name,FH h.length _ 3 u]=.agg (cpW e);rw[hz];rfl
abbrev It:=Sum Ex Int
def A67:It->Ex
 | .inl e=>e
 | .inr n=>cE n
def AX8 (l:List Rng):List It:=l.flatMap fun r=>[.inr r.lo,.inr r.hi]
def A1I (e:Ex)(l:List Rng):List It:=.inl e::AX8 l
def JD (e:Ex)(l:List Rng):Ex:=.mk 23 0 ⟨#[]⟩ .any ((A1I e l).map A67)
theorem AN7 (a:Rng)(l:List Rng):AX8 (a::l)=.inr a.lo :: .inr a.hi::AX8 l:=rfl
theorem AZX (h:Hp)(a b:Int)(s:ByteArray)(m:SM)(xs:List (List AV)):DF jA true h 23 1 [(0,.agg [.n a,.n b,.str s,.sl m 4 xs])]=some (.own h.length 0 1,h++[yE 4 [[.n a,.n b,.str s,.sl m 4 xs]]]):=AZ
theorem A8F (h:Hp)(e:Ex):DF jA true h 23 1 [(0,.agg (A8 e))]=some (.own h.length 0 1,h++[yE 4 [A8 e]]):=by
 rw[FI];exact AZX h _ _ _ _ _
theorem A12 (o n:Nat):I5 jA 79 [(0,.n 23),(3,.own o 0 n)]=some (.agg [.n 23,.n 0,.str ⟨#[]⟩,.own o 0 n]):=AZ
end Go.Proofs.YtiihpnicbekebaaGreatDoor.Ho
namespace Go.Proofs.YtiihpnicbekebaaGreatDoor.Bins
open Sm
variable {ys:List Rng} {h:Hp} (G:Nat->AV )
def full (r:Rng):Bool:=decide (r.lo<=r.hi)
def glue (t r:Rng):Bool:=decide (r.lo<=t.hi)||decide (IntKind.i64.wrap (r.lo-1)=t.hi)
def join (out:List Rng)(r:Rng):List Rng:=match out.getLast? with
 | some t=>if glue t r then out.dropLast++[⟨t.lo,max t.hi r.hi⟩] else out++[r]
 | none=>out++[r]
def ZJ (xs:List Rng):List Rng:=xs.foldl join []
def gS (a b:Rng):Bool:=decide (a.lo<=b.lo)
def normal (xs:List Rng):List Rng:=ZJ ((xs.filter full).mergeSort gS)
theorem AN5 {out:List Rng}{a b:Rng}(h:a.lo=b.lo)(ha:full a=true)(hb:full b=true):join (join out a) b=join (join out b) a:=by
 simp only[full,decide_eq_true_eq] at ha hb
 have key:∀(init:List Rng) (t r s:Rng),glue t s=true->(join (init++[t]) s)=init++[⟨t.lo,max t.hi s.hi⟩]:=by
  intro init t r s hg;simp [join,hg]
 cases hl:out.getLast? with
 | none =>
   have:out=[]:=BM hl;subst this;have e1:join [] a=[]++[a]:=rfl;have e2:join [] b=[]++[b]:=rfl;rw[e1,e2,key [] a a b (by simp [glue];omega),key [] b b a (by simp [glue];omega)];simp [h,Int.max_comm]
 | some t =>
   obtain⟨init,rfl⟩:∃init,out=init++[t]:=by
    have:=List.getLast?_eq_some_iff.1 hl;exact this
   have hg:glue t a=glue t b:=by unfold glue;rw[h]
   cases hc:glue t a with
   | true =>
     have hc':glue t b=true:=by rw[<-hg];exact hc
     rw[key init t a a hc,key init t b b hc',key init _ a b (by simp [glue];omega),key init _ b a (by simp [glue];omega)];simp only[Int.max_assoc,Int.max_comm a.hi b.hi]
   | false =>
     have hc':glue t b=false:=by rw[<-hg];exact hc
     have e1:join (init++[t]) a=(init++[t])++[a]:=by simp [join,hc]
     have e2:join (init++[t]) b=(init++[t])++[b]:=by simp [join,hc']
     rw[e1,e2,key (init++[t]) a a b (by simp [glue];omega),key (init++[t]) b b a (by simp [glue];omega)];simp [h,Int.max_comm]
theorem A6C {a:Rng}(ha:full a=true):∀(pre:List Rng) (rest out:List Rng),(∀x∈pre,x.lo=a.lo/\full x=true)->(pre++a::rest).foldl join out=(a::(pre++rest)).foldl join out
 | [],rest,out,_=>rfl
 | p::pre,rest,out,h=>by
   have hp:=h p BA;have ih:=A6C ha pre rest (join out p) (fun x hx=>h x (by simp [hx]))
   simp only[zF,qW] at ih|-
   rw[ih,AN5 hp.1 hp.2 ha]
theorem tN:∀(xs ys:List Rng) (out:List Rng),xs.Perm ys->xs.Pairwise (fun a b=>a.lo<=b.lo)->ys.Pairwise (fun a b=>a.lo<=b.lo)->(∀x∈xs,full x=true)->xs.foldl join out=ys.foldl join out
 | [],ys,out,hp,_,_,_=>by rw[List.nil_perm.1 hp]
 | a::xs,ys,out,hp,hx,hy,hf=>by
   have hmem:a∈ys:=hp.subset BA;obtain⟨pre,rest,rfl⟩:=List.append_of_mem hmem
   have hpre:∀x∈pre,x.lo=a.lo/\full x=true:=by
    intro x hxp;have h1:x.lo<=a.lo:=(List.pairwise_append.1 hy).2.2 x hxp a BA;have h2:x∈a::xs:=hp.symm.subset (by simp [hxp])
    have h3:a.lo<=x.lo:=by
     rcases List.mem_cons.1 h2 with rfl|h2
     .exact Int.le_refl _
     .exact(List.pairwise_cons.1 hx).1 x h2
    exact⟨U,hf x h2⟩
   rw[A6C (hf a BA) pre rest out hpre];simp only[qW];have hp':xs.Perm (pre++rest):=(List.perm_cons a).1 (hp.trans (List.perm_middle));refine tN xs (pre++rest) _ hp' (List.pairwise_cons.1 hx).2 ?_ (fun x h=>hf x (by simp [h]));have:=List.pairwise_append.1 hy;rw[List.pairwise_append];exact⟨this.1,(List.pairwise_cons.1 this.2.1).2,fun x h1 y h2=>this.2.2 x h1 y (by simp [h2])⟩
theorem ANM {xs:List Rng}(hp:ys.Perm (xs.filter full))(hs:ys.Pairwise (fun a b=>a.lo<=b.lo)):ZJ ys=normal xs:=by
 unfold normal ZJ;refine tN _ _ _ (hp.trans (List.mergeSort_perm _ _).symm) hs ?_ (fun x hx=>by have:=hp.subset hx;simp at this;exact this.2);have:=List.pairwise_mergeSort (le:=gS) (fun a b c h1 h2=>by simp [gS] at *;omega) (fun a b=>by simp [gS];omega) (xs.filter full);exact this.imp (by simp [gS])
theorem row_map {α:Type}{f:α->List AV}{xs:List α}{k:Nat}(h:k<xs.length):(xs.map f)[k]?=some (f xs[k]):=by simp [h]
theorem ABE {row cs:List AV}(h:row.length=cs.length):splice row 0 cs=cs:=by simp [splice,h]
theorem rR (G:Nat->AV)(xs:List Rng)(b:Nat)(fid:FuncId)(caps:List AV)(p:Rng->Bool)(h:Hp)(hl:xs.length<=1099511627776)(hb:h[b]?=some (yE 2 (xs.map encR)))
  (hf:∀r,PCall (En G) fid (.agg (encR r)::caps) h (.bool (p r))) :
  PCall (En G) 326 [.own b 0 xs.length,.fn (.func fid) [] caps] h (.n (match xs.findIdx? p with|some i=>(i:Int)|none => -1)):=by
 refine acT Tryz.func326 4 ?_;refine AB ?_;refine BK (fun n F H=>∃k,n+k=xs.length/\F 0=.own b 0 xs.length/\F 1=.fn (.func fid) [] caps/\F 7=.n xs.length/\F 8=.n (k:Nat)/\H=h/\(xs.take k).all (fun r => !p r)=true) xs.length ⟨0,BA,rfl,rfl,rfl,rfl,rfl,rfl⟩ ?_;rintro n F H ⟨k,hk,f0,f1,f7,f8,rfl,hin⟩;refine ES f0 f1 f7 f8 ?_;refine D9 ?_ ?_<;>intro hc'
 .have e1:BI jA H 145 (.ptr b k 0)=some (.agg (encR xs[k])):=by
   rw[ED eQ MF hb (row_map hc') (by simp [encR])];rfl
  simp only[vQ,CP,List.nil_append,zF,↓reduceIte,jC,enP,dT,f0,f1,f7,f8,GM hb hc',e1];refine(hf _).uu ?_;refine BO ?_ ?_<;>intro hb
  .refine AB ?_
   refine⟨?_,trivial⟩
   rw[wM.2 ⟨hc',hb,fun j hj=>by
    rw[zL] at hin;have:=hin xs[j] (by rw[List.mem_take_iff_getElem];exact⟨j,U,rfl⟩)
    simpa using this⟩]
  .refine BB f8 (DC k) ?_
   refine⟨n-1,U,k+1,U,f0,f1,f7,rfl,trivial,?_⟩;rw[jU hc',List.all_append,hin];simp only[List.all_cons,List.all_nil,hb];rfl
 .refine AB ?_
  refine⟨?_,trivial⟩;rw[jJ U] at hin;rw[wR.2 (BM hin)]
theorem AEK (r:Rng)(h:Hp):PCall (En G) 295 [.agg (encR r)] h (.bool (!full r)):=by
 refine ACalls.pure0 rfl ?_;refine acT Tryz.func295 2 ?_;refine MI @bxR @aO @YT ?_;refine⟨?_,_,rfl⟩;congr 1;unfold full;rw[Bool.eq_iff_iff];simp
theorem AH5 (G:Nat->AV)(xs:List Rng)(b:Nat)(fid:FuncId)(p:Rng->Bool)(h0 h:Hp)(hl:xs.length<=1099511627776)(he:ext h0 h)(hb0:h0.length<=b)(hb:h[b]?=some (yE 2 (xs.map encR)))
  (hf:∀r H,PCall (En G) fid [.agg (encR r)] H (.bool (p r))) :
  ACalls (En G) 293 [.own b 0 xs.length,.fn (.func fid) [] []] h fun v H=>v=.own b 0 (xs.filter fun r => !p r).length/\ext h0 H/\∃tail,H[b]?=some (yE 2 ((xs.filter fun r => !p r).map encR++tail)):=by
 refine acT Tryz.func293 4 ?_;refine AB ?_;refine(rR G xs b fid [] p h hl hb (fun r=>hf r h)).uu ?_
 cases hi:xs.findIdx? p with
 | none =>
   refine AB ?_;refine BO ?_ ?_<;>intro hc
   .refine AB ?_
    have:xs.filter (fun r => !p r)=xs:=by
     rw[wR] at hi;rw[List.filter_eq_self];intro x hx;simp [hi x hx]
    rw[this];exact⟨rfl,he,[],BM hb⟩
   .simp at hc
 | some i0 =>
   refine AB ?_;obtain⟨hi1,hi2,hi3⟩:=wM.1 hi;refine BO ?_ ?_<;>intro hc
   .simp at hc
   refine A7 (DC i0) ?_;refine BK (fun n F H=>∃i j zs,n+j=xs.length/\i<j/\F 0=.own b 0 xs.length/\F 1=.fn (.func fid) [] []/\F 5=.n (i:Nat)/\F 6=.n (j:Nat)/\ext h0 H/\H[b]?=some (yE 2 (zs.map encR))/\zs.length=xs.length/\zs.take i=(xs.take j).filter (fun r => !p r)/\zs.drop j=xs.drop j) (xs.length-(i0+1)) ⟨i0,i0+1,xs,U,U,AQ,AQ,AQ,AQ,he,hb,rfl,?_,rfl⟩ ?_
   .rw[jU hi1,List.filter_append]
    simp [hi2];refine(List.filter_eq_self.2 ?_).symm;intro x hx;rw[List.mem_take_iff_getElem] at hx;obtain⟨j,hj,rfl⟩:=hx;have:=hi3 j U;simpa using this
   rintro n F H ⟨i,j,zs,hn,hij,f0,f1,f5,f6,hex,hz,hzl,hzt,hzd⟩;refine BB f0 f6 ?_;refine D9 ?_ ?_<;>intro hd'
   .have hdz:j<zs.length:=U
    have e0:zs[j]=xs[j]:=by
     have h1:(zs.drop j)[0]?=(xs.drop j)[0]? := by rw[hzd]
     rw[List.getElem?_drop,List.getElem?_drop,zA,jI hdz,jI hd'] at h1;exact Option.some.inj h1
    have e1:BI jA H 145 (.ptr b j 0)=some (.agg (encR xs[j])):=by
     rw[ED eQ MF hz (row_map hdz) (by simp [encR]),e0];rfl
    have ld:BI jA (H++[yE 2 [encR xs[j]]]) 145 (.ptr (wH H) 0 0)=some (.agg (encR xs[j])):=ZI eQ MF (by simp [encR]);simp only[vQ,CP,List.append_nil,↓reduceIte,jC,enP,dT,jQ,f0,f1,f6,GM hz hd',e1,APM,AMK _ _ [.n 0,.n 0] rfl,ld];refine(hf _ _).uu ?_
    have htk:(xs.take (j+1)).filter (fun r => !p r)=(xs.take j).filter (fun r => !p r)++(if p xs[j] then [] else [xs[j]]):=by
     rw[jU hd',List.filter_append];cases hp:p xs[j]<;>simp [hp]
    have hz2:(H++[yE 2 [encR xs[j]]])[b]?=some (yE 2 (zs.map encR)):=AO hz
    have hdrop:zs.drop (j+1)=xs.drop (j+1):=by
     have:=congrArg (List.drop 1) hzd;simpa [Nat.add_comm] using this
    refine BO ?_ ?_<;>intro hp
    .have hp':p xs[j]=false:=BM hp
     have hiz:i<zs.length:=U;have hix:i<xs.length:=U
     have st:DU jA (H++[yE 2 [encR xs[j]]]) 145 (.ptr b i 0) (.agg (encR xs[j]))=some ((H++[yE 2 [encR xs[j]]]).set b (yE 2 ((zs.set i xs[j]).map encR))):=by
      rw[G8 (cs:=encR xs[j]) rfl MF hz2 (row_map hiz) (by simp [encR]),ABE (by simp [encR]),List.map_set]
     simp only[vQ,OW,CP,↓reduceIte,jC,enP,dT,jQ,f0,f5,ld,GM hz2 hix,st,DC i,f6,DC j];refine⟨n-1,U,i+1,j+1,zs.set i xs[j],U,U,trivial,f1,rfl,rfl,(hex.app _).set hb0 _,CV hz2,BM hzl,?_,?_⟩
     .rw[htk,hp',<-hzt,jU (BM hiz),List.take_set,List.set_eq_of_length_le LD]
      simp
     .rw[List.drop_set_of_lt U];exact hdrop
    .have hp':p xs[j]=true:=BM hp
     refine BB f6 (DC j) ?_;refine⟨n-1,U,i,j+1,zs,U,U,f0,f1,f5,rfl,hex.app _,hz2,hzl,?_,hdrop⟩;rw[htk,hp',hzt];simp
   .have hjl:j=xs.length:=U
    have hfl:(xs.filter fun r => !p r)=zs.take i:=by
     rw[hzt,jJ U]
    have hil:i<=zs.length:=U;have hlen:(xs.filter fun r => !p r).length=i:=by rw[hfl];simp;omega
    have hs1:IE jA H 84 (.own b 0 xs.length) (some (.n (i:Int))) none none=some (.own b i (xs.length-i)):=by
     have:=ACP aY MF (kk:=.i64) (off:=0) (len:=xs.length) (l:=i) hz U;rw[jH] at this;exact this
    have hcl:iF jA H 84 (.own b i (xs.length-i))=some (G6,H.set b (yE 2 (Sm.rowsSet (zs.map encR) i (jR (xs.length-i) [.n 0,.n 0])))):=by
     have hz0:MJ jA 145=some [.n 0,.n 0]:=AZ;simp only[iF,aY,hz0,hz];rw[if_pos];refine⟨rfl,?_⟩;simp;omega
    have hs2:IE jA (H.set b (yE 2 (Sm.rowsSet (zs.map encR) i (jR (xs.length-i) [.n 0,.n 0])))) 84 (.own b 0 xs.length) none (some (.n (i:Int))) none=some (.own b 0 i):=A23 aY MF (CV hz) U;refine NY @AV1 f0 f5 hs1 hcl hs2 ?_;refine⟨by rw[hlen],hex.set hb0 _,?_⟩;rw[CV hz,hfl];refine⟨jR (xs.length-i) [.n 0,.n 0]++(zs.map encR).drop (i+(xs.length-i)),?_⟩;simp [Sm.rowsSet,List.map_take]
theorem AZQ (xs:List Rng)(m:SM)(h:Hp)(hl:xs.length<=16777216):
  ACalls (En G) 294 [.sl m 2 (xs.map encR)] h (AIA 2 (xs.map encR) h):=by
 refine ACalls.of_rep (cok _ _ AZ) fun⟨g,cargs,ha⟩=>?_
 refine acT Tryz.func294 2 ?_;refine A7 A6J ?_;refine BO ?_ ?_<;>intro hc
 .have hm:m=.nil:=BM hc
  subst hm;refine A7 @decide_true ?_;exact .inl ⟨nF ha (i:=0) rfl,⟨_,rfl⟩,rfl⟩
 .refine A7 @A4Y ?_
  rcases Classical.em (xs=[]) with hx|hx
  .subst hx
   simp only[vQ,CP,↓reduceIte,AFK aY MF (.inr rfl)];exact .inr (.inl ⟨rfl,rfl,rfl⟩)
  .have hr:room (([]:List (List AV)).length+(xs.map encR).length) 16:=G5 (BM hl) U
   have hne:xs.map encR≠[]:=BM hx;refine A7 (VW aY MF APU AUB (GK h m 2 (xs.map encR)) hne hr) ?_;exact .inr (.inr ⟨BM hx,BA,BA⟩)
theorem nQ (m:SM)(k:Nat)(fv:AV)(h:Hp):PCall (En G) 326 [.sl m k [],fv] h (.n (-1)):=by
 refine acT Tryz.func326 4 ?_;refine Y3 ?_;refine BK (fun n F H=>F 7=.n ((0:Nat):Int)/\F 8=.n 0/\H=h) 0 ⟨rfl,rfl,rfl⟩ ?_;rintro n F H ⟨f7,f8,rfl⟩;refine BB f7 f8 ?_;refine BO ?_ ?_<;>intro hc
 .simp at hc
 .refine AB ?_
  exact H7
theorem iZ (m:SM)(k:Nat)(fv:AV)(h:Hp):PCall (En G) 293 [.sl m k [],fv] h (.sl m k []):=by
 refine acT Tryz.func293 4 ?_;refine AB ?_;refine(nQ G m k fv h).uu ?_;refine BO ?_ ?_<;>intro hc
 .refine AB ?_
  exact H7
 .simp at hc
structure SortOk (G:Nat->AV):Prop where
 own:∀(xs:List Rng) (b:Nat) (tail:List (List AV)) (h0 h:Hp),xs.length<=16777216->ext h0 h->h0.length<=b->h[b]?=some (yE 2 (xs.map encR++tail)) ->
  ACalls (En G) 296 [.own b 0 xs.length,.fn (.func 297) [] []] h fun _ H=>ext h0 H/\∃ys:List Rng,ys.Perm xs/\ys.Pairwise (fun a b=>a.lo<=b.lo)/\H[b]?=some (yE 2 (ys.map encR++tail))
 none:∀(m:SM) (k:Nat) (h:Hp),PCall (En G) 296 [.sl m k [],.fn (.func 297) [] []] h (.tup [])
def nm (ys:List Rng):SM:=if ys=[] then .nil else .any
def A24 (h:Hp)(out:List Rng)(b:Nat)(v:AV)(H:Hp):Prop :=
 (out=[]/\v=.sl .nil 0 [])\/(out≠[]/\∃o,h.length<=o/\o≠b/\v=.own o 0 out.length/\H[o]?=some (yE 2 (out.map encR)))
theorem AUG (h:Hp)(r:Rng):DF jA false h 84 1 [(0,.agg (encR r))]=some (.sl .full 2 [encR r],h):=AZ
def srcR (h:Hp)(ys:List Rng)(b:Nat)(v:AV)(H:Hp):Prop :=
 (ys=[]/\∃m k,v=.sl m k [])\/(h.length<=b/\v=.own b 0 ys.length/\∃tail,H[b]?=some (yE 2 (ys.map encR++tail)))
theorem ASH (out:List Rng)(r:Rng):(join out r).length<=out.length+1:=by
 unfold join;split
 .split
  .simp
  .simp
 .simp
theorem fN:∀(xs out:List Rng),(xs.foldl join out).length<=out.length+xs.length
 | [],out=>BA
 | x::xs,out=>by
   have h1:=fN xs (join out x);have h2:=ASH out x;simp only[qW,List.length_cons];omega
theorem srcR.app {b:Nat}{v:AV}{H:Hp}(hs:srcR h ys b v H)(x:ABlk):srcR h ys b v (H++[x]):=by
 rcases hs with h1|⟨h1,h2,tail,h3⟩
 .exact .inl h1
 .exact .inr ⟨h1,h2,tail,AO h3⟩
theorem srcR.set {h:Hp}{ys:List Rng}{b o:Nat}{v:AV}{H:Hp}(hs:srcR h ys b v H)(x:ABlk)(ho:o≠b):srcR h ys b v (H.set o x):=by
 rcases hs with h1|⟨h1,h2,tail,h3⟩
 .exact .inl h1
 .exact .inr ⟨h1,h2,tail,C9 h3 ho.symm⟩
theorem xA (hS:SortOk G)(xs:List Rng)(m:SM)(h:Hp)(hl:xs.length<=8388608):
  ACalls (En G) 245 [.sl m 2 (xs.map encR)] h fun v H=>ext h H/\∃b,A24 h (normal xs) b v H:=by
 refine acT Tryz.func245 2 ?_;refine AB ?_;refine(AZQ G xs m h U).mono fun vv H' hcl=>?_
 have hfl:(xs.filter full).length<=xs.length:=List.length_filter_le _ _;refine sG (fun F H=>ext h H/\((xs.filter full=[]/\∃m k,F 3=.sl m k [])\/∃b,h.length<=b/\F 3=.own b 0 (xs.filter full).length/\∃tail,H[b]?=some (yE 2 ((xs.filter full).map encR++tail)))) ?_ ?_
 .rcases hcl with⟨hx,⟨k0,rfl⟩,rfl⟩|⟨hx,rfl,rfl⟩|⟨hx,rfl,rfl⟩
  .have hx':xs=[]:=BM hx
   refine AB ?_;refine(iZ G _ _ _ _).uu ?_;exact⟨ext.rfl' _,.inl ⟨by rw[hx'];rfl,_,_,rfl⟩⟩
  .have hx':xs=[]:=BM hx
   refine AB ?_;refine(iZ G _ _ _ _).uu ?_;exact⟨ext.rfl' _,.inl ⟨by rw[hx'];rfl,_,_,rfl⟩⟩
  .refine AB ?_
   refine(AH5 G xs h.length 295 (fun r => !full r) h (h++[yE 2 (xs.map encR)]) U ⟨_,rfl⟩ (jF _) (AX _ _) (fun r H=>AEK G r H)).mono ?_;rintro v H ⟨rfl,hex,tail,ht⟩;refine AB ?_;have e:(xs.filter fun r => !!full r)=xs.filter full:=BA
   rw[e] at ht|-
   exact⟨hex,.inr ⟨h.length,jF _,rfl,tail,ht⟩⟩
 rintro F H ⟨hex,hcase⟩;rw[BU,BQ];refine lP (fun F H=>ext h H/\∃ys:List Rng,ys.Perm (xs.filter full)/\ys.Pairwise (fun a b=>a.lo<=b.lo)/\∃b,srcR h ys b (F 3) H) (fun _ _=>False) ?_ ?_ (fun _ _ hh=>hh.elim)
 .rcases hcase with⟨hz,m0,k0,f3⟩|⟨b,hb,f3,tail,ht⟩
  .refine A7 f3 ?_
   refine(hS.none m0 k0 H).uu ?_;exact⟨hex,[],by rw[hz],.nil,0,.inl ⟨rfl,m0,k0,f3⟩⟩
  .refine A7 f3 ?_
   refine(hS.own (xs.filter full) b tail h H U hex hb ht).mono ?_;rintro v H' ⟨hex',ys,hp,hs,hy⟩;refine AB ?_;refine⟨hex',ys,hp,hs,b,.inr ⟨hb,?_,tail,hy⟩⟩;rw[hp.length_eq];exact f3
 rintro F H ⟨hex,ys,hp,hs,b,hsrc⟩;have hyl:ys.length<=8388608:=by rw[hp.length_eq];omega
 have hN:ZJ ys=normal xs:=ANM hp hs;generalize hsv:F 3=sv at hsrc
 have hlen:JU jA 84 sv=some (.n ys.length):=by
  rcases hsrc with⟨rfl,m0,k0,rfl⟩|⟨_,rfl,_⟩
  .exact xJ.1 _ _ _
  .exact xJ.2 _ _ _
 refine BB hsv @hlen ?_;refine BK (fun n F H=>∃k,n+k=ys.length/\F 13=sv/\F 14=.n ys.length/\F 15=.n (k:Nat)/\ext h H/\srcR h ys b sv H/\A24 h ((ys.take k).foldl join []) b (F 4) H) ys.length ⟨0,BA,AQ,AQ,AQ,hex,hsrc,.inl ⟨rfl,AQ⟩⟩ ?_;clear hex hsrc hsv;rintro n F H ⟨k,hk,f13,f14,f15,hex,hsrc,hout⟩;refine BB f14 f15 ?_;refine D9 ?_ ?_<;>intro hc'
 .have htk:(ys.take (k+1)).foldl join []=join ((ys.take k).foldl join []) ys[k]:=by
   rw[jU hc',List.foldl_append];rfl
  have hol0:((ys.take k).foldl join []).length<=8388608:=by
   have:=fN (ys.take k) [];simp at this;omega
  generalize (ys.take k).foldl join []=out at hout htk hol0;have hsrc':=hsrc;rcases hsrc with⟨rfl,_⟩|⟨hb,rfl,tail,ht⟩
  .simp at hc'
  have e1:BI jA H 145 (.ptr b k 0)=some (.agg (encR ys[k])):=by
   rw[ED eQ MF ht (row:=encR ys[k]) (by rw[List.getElem?_append_left (by simpa using hc')];exact row_map hc') (by simp [encR])];rfl
  have ht2:(H++[yE 2 [encR ys[k]]])[b]?=some (yE 2 (ys.map encR++tail)):=AO ht;have ld:BI jA (H++[yE 2 [encR ys[k]]]) 145 (.ptr (wH H) 0 0)=some (.agg (encR ys[k])):=ZI eQ MF (by simp [encR]);rcases hout with⟨rfl,f4⟩|⟨hne,o,ho1,ho2,f4,ho⟩
  .have dneg:decide ((IntKind.i64.wrap (((0:Nat):Int)-1))≥0)=false:=by rw[wrap_i64 U U];simp
   simp only[vQ,CP,P9,↓reduceIte,jC,enP,dT,xJ,jQ,f13,f15,GM ht hc',e1,APM,AMK _ _ [.n 0,.n 0] rfl,f4,List.length_nil];refine D6 AZ ?_;have h1:([encR ys[k]]:List (List AV))≠[]:=BA;simp only[vQ,JH,ND,Q3,AF4,A0K,XQ,OT,OW,EM,CP,FZ,F6,JW,MO,↓reduceIte,jC,jT,enP,dneg,ld,f4,AUG,QZ aY MF APU AUB (GK (H++[yE 2 [encR ys[k]]]) .full 2 [encR ys[k]]) h1 (G5 BA U),f15,DC k];refine⟨n-1,U,k+1,U,f13,f14,rfl,(hex.app _).app _,(hsrc'.app _).app _,?_⟩;rw[htk];have hbl:=AC ht;exact .inr ⟨by simp [join],_,by simp;have:=hex.le;omega,by simp;omega,rfl,by simp [join]⟩
  .obtain⟨init,t,rfl⟩:∃init t,out=init++[t]:=⟨out.dropLast,out.getLast hne,(List.dropLast_concat_getLast hne).symm⟩
   have hol:=AC ho;have hbl:=AC ht
   have hlast:(IntKind.i64.wrap (((init++[t]).length:Int)-1))=((init.length:Nat):Int):=by
    rw[wrap_i64 U U];simp
   have dpos:decide (((init.length:Nat):Int)≥0)=true:=BA;have ho3:(H++[yE 2 [encR ys[k]]])[o]?=some (yE 2 ((init++[t]).map encR)):=AO ho;have hil:init.length<(init++[t]).length:=BA;have erow:((init++[t]).map encR)[init.length]?=some (encR t):=BA;have lhi:BI jA (H++[yE 2 [encR ys[k]]]) 3 (.ptr o init.length 1)=some (.n t.hi):=by rw[BC ag3 ho3 erow];rfl
   simp only[vQ,CP,P9,↓reduceIte,jC,enP,dT,xJ,jQ,f13,f15,GM ht hc',e1,APM,AMK _ _ [.n 0,.n 0] rfl,f4,hlast];refine D6 AZ ?_;simp only[vQ,ND,Q3,eW,OT,EM,ZR,MO,↓reduceIte,jC,jT,enP,dT,ZM,ZL,dpos,D7 ag3,aO,YT,f4,GM ho3 hil,lhi];refine A49 (fun F H'=>F 44=.bool (glue t ys[k])/\F 13=.own b 0 ys.length/\F 14=.n ys.length/\F 15=.n (k:Nat)/\F 4=.own o 0 (init++[t]).length/\F 6=.ptr H.length 0 0/\F 7=.n (init.length:Nat)/\H'=H++[yE 2 [encR ys[k]]]) ?_ ?_
   .refine A2C ?_ ?_<;>intro ha
    .refine JI ha f4 f13 f14 f15 ?_
     exact⟨by unfold glue;rw[ha];rfl,trivial,trivial,trivial,trivial,trivial,trivial,trivial⟩
    .simp only[vQ,ND,Q3,eW,pX,XQ,OT,EM,P9,J7,↓reduceIte,jC,jT,enP,dT,ZM,ZL,ha,D7 ag3,aO,YT,f4,f13,f14,f15,GM ho3 hil,lhi]
     exact⟨by unfold glue;rw[ha];rfl,trivial,trivial,trivial,trivial,trivial,trivial,trivial⟩
   clear f13 f14 f15 f4;rintro F H' ⟨f44,f13,f14,f15,f4,f6,f7,rfl⟩;refine A7 f44 ?_;refine BO ?_ ?_<;>intro hg
   .have st:∀v:Int,DU jA (H++[yE 2 [encR ys[k]]]) 3 (.ptr o init.length 1) (.n v)=some ((H++[yE 2 [encR ys[k]]]).set o (yE 2 ((init++[Rng.mk t.lo v]).map encR))):=by
     intro v;have h2:=G8 (P:=jA) (t:=3) (j:=1) (v:=.n v) (cs:=[.n v]) rfl sz3 ho3 erow (by simp [encR]);have h3:((init++[t]).map encR).set init.length (splice (encR t) 1 [.n v])=(init++[Rng.mk t.lo v]).map encR:=by simp [encR,splice]
     rw[h2,h3]
    refine AB ?_;refine D6 AZ ?_;simp only[vQ,P8,QR,LP,UD,fA,YX,OW,CP,AI3,xG,↓reduceIte,jC,jT,enP,dT,ZL,jQ,f4,f6,f7,GM ho3 hil,lhi,D7 ag3,YT,st,f15,DC k];refine⟨n-1,U,k+1,U,f13,f14,rfl,(hex.app _).set ho1 _,(hsrc'.app _).set _ ho2,?_⟩;rw[htk];have hj:join (init++[t]) ys[k]=init++[⟨t.lo,max t.hi ys[k].hi⟩]:=by simp [join,hg]
    rw[hj];exact .inr ⟨BA,o,ho1,ho2,BA,CV ho3⟩
   .have h1:([encR ys[k]]:List (List AV))≠[]:=BA
    have hc1:I9 (H++[yE 2 [encR ys[k]]]) (.own o 0 (init++[t]).length)=some (2,(init++[t]).map encR):=by
     rw[JS ho3 BA,zU,jJ BA]
    refine NJ ld f4 f6 @AUG (QB aY MF APU AUB hc1 (GK (H++[yE 2 [encR ys[k]]]) .full 2 [encR ys[k]]) h1 (G5 (by simp at hol0|-;omega) U)) f15 (DC k) ?_;refine⟨n-1,U,k+1,U,f13,f14,rfl,((hex.app _).set ho1 _).app _,((hsrc'.app _).set _ ho2).app _,?_⟩;rw[htk];have hj:join (init++[t]) ys[k]=(init++[t])++[ys[k]]:=by simp [join,hg]
    rw[hj];exact .inr ⟨BA,(H++[yE 2 [encR ys[k]]]).length,by simp;have:=hex.le;omega,by simp;omega,BA,BA⟩
 .have:k=ys.length:=U
  subst this;rw[List.take_length] at hout;have hN':ys.foldl join []=normal xs:=hN;rw[hN'] at hout;refine AB ?_;exact⟨hex,b,hout⟩
theorem frz_rows (n:Nat)(h:Hp)(d:Nat)(xs:List Rng):(xs.map encR).map (·.map (FH n h (d+1)))=xs.map encR:=by
 rw[List.map_map];congr 1
theorem frzF_own (n:Nat)(h:Hp)(d b off len k:Nat)(xs:List (List AV))(hn:¬b<n)(hb:h[b]?=some (yE k xs)):FH n h (d+1) (.own b off len)=if off+len<=xs.length/\(((xs.drop off).take len).map (·.map (FH n h d))).all (·.all AV.leaf)=true then .sl .any k (((xs.drop off).take len).map (·.map (FH n h d))) else .junk:=by
 rw[FH];simp only[hn,if_false,hb]
theorem frz_own {n d:Nat}{o:Nat}{xs:List Rng}(hn:n<=o)(ho:h[o]?=some (yE 2 (xs.map encR))):FH n h (d+2) (.own o 0 xs.length)=.sl .any 2 (xs.map encR):=by
 rw[frzF_own n h (d+1) o 0 xs.length 2 _ U ho,zU,jJ BA,frz_rows n h d xs];rw[if_pos];refine⟨BA,?_⟩;rw[zL];intro row hr;obtain⟨x,_,rfl⟩:=List.mem_map.1 hr;rfl
theorem ANH {G:Nat->AV}{f:FuncId}{args:List AV}(hc:ACalls (En G) f args h fun v H=>ext h H/\∃b,A24 h ys b v H):PCall (En G) f args h (.sl (nm ys) 2 (ys.map encR)):=by
 have h1:PCall (En G) f args h (if ys=[] then AV.sl .nil 0 [] else .sl .any 2 (ys.map encR)):=by
  refine ACalls.pure 2 hc ?_;rintro v H ⟨hex,b,hout⟩;refine⟨hex,?_⟩;rcases hout with⟨rfl,rfl⟩|⟨hne,o,ho1,_,rfl,ho⟩
  .rfl
  .rw[if_neg hne];exact frz_own ho1 ho
 refine ACalls.conv h1 ?_;rintro v H ⟨rfl,rfl⟩;refine⟨_,⟨rfl,rfl⟩,?_⟩;intro g cv hr;unfold nm;split at hr
 .rename_i hz;subst hz;exact AC0 hr
 .rename_i hz;rw[if_neg hz];exact hr
theorem ACX (hS:SortOk G)(xs:List Rng)(m:SM)(h:Hp)(hl:xs.length<=8388608):PCall (En G) 245 [.sl m 2 (xs.map encR)] h (.sl (nm (normal xs)) 2 ((normal xs).map encR)) :=
 ANH (xA G hS xs m h hl)
end Go.Proofs.YtiihpnicbekebaaGreatDoor.Bins
namespace Go.Proofs.YtiihpnicbekebaaGreatDoor.Bins
open Sm Go.Shelf Go.RowKit Go.Lib Go.Sort
variable (G:Nat->AV )
def AMM:Go.Shelf.Ren:=⟨fun|6=>296|15=>328|14=>327|28=>367|29=>368|20=>359|21=>360|22=>361|23=>362|24=>363|25=>364|26=>365|27=>366|46=>400|47=>401|48=>402|49=>403|50=>404|57=>414|n=>n,fun|22=>84|24=>145|25=>326|3=>3|39=>344|0=>0|53=>364|55=>366|4=>4|46=>358|45=>357|50=>135|5=>5|9=>9|66=>379|70=>281|76=>388|77=>389|n=>n,fun|n=>n⟩
theorem AQR:Go.Proofs.SlLaysF0.n6 jA AMM := {
 mixed:=AZ,
 f6:=⟨Tryz.f296.name,by decide,Tryz.func296.trans (congrArg some AZ)⟩,
 f14:=⟨Tryz.f327.name,by decide,Tryz.func327.trans (congrArg some AZ)⟩,
 f15:=Tryz.func328.trans (congrArg some AZ),
 f20:=⟨Tryz.f359.name,by decide,Tryz.func359.trans (congrArg some AZ)⟩,
 f21:=⟨Tryz.f360.name,by decide,Tryz.func360.trans (congrArg some AZ)⟩,
 f22:=⟨Tryz.f361.name,by decide,Tryz.func361.trans (congrArg some AZ)⟩,
 f23:=⟨Tryz.f362.name,by decide,Tryz.func362.trans (congrArg some AZ)⟩,
 f24:=⟨Tryz.f363.name,by decide,Tryz.func363.trans (congrArg some AZ)⟩,
 f25:=⟨Tryz.f364.name,by decide,Tryz.func364.trans (congrArg some AZ)⟩,
 f26:=⟨Tryz.f365.name,by decide,Tryz.func365.trans (congrArg some AZ)⟩,
 f27:=⟨Tryz.f366.name,by decide,Tryz.func366.trans (congrArg some AZ)⟩,
 f28:=Tryz.func367.trans (congrArg some AZ),
 f29:=Tryz.func368.trans (congrArg some AZ),
 f46:=⟨Tryz.f400.name,by decide,Tryz.func400.trans (congrArg some AZ)⟩,
 f47:=Tryz.func401.trans (congrArg some AZ),
 f48:=Tryz.func402.trans (congrArg some AZ),
 f49:=⟨Tryz.f403.name,by decide,Tryz.func403.trans (congrArg some AZ)⟩,
 f50:=⟨Tryz.f404.name,by decide,Tryz.func404.trans (congrArg some AZ)⟩,
 f57:=⟨Tryz.f414.name,by decide,Tryz.func414.trans (congrArg some AZ)⟩,
 t0:=Tryz.underlying0,
 a0:=Tryz.isAgg0,
 z0:=Tryz.sizeOf0,
 v0:=Tryz.zeroValue0,
 t3:=Tryz.underlying3,
 a3:=Tryz.isAgg3,
 z3:=Tryz.sizeOf3,
 v3:=Tryz.zeroValue3,
 t4:=Tryz.underlying4,
 a4:=Tryz.isAgg4,
 z4:=Tryz.sizeOf4,
 v4:=Tryz.zeroValue4,
 t5:=Tryz.underlying5,
 a5:=Tryz.isAgg5,
 z5:=Tryz.sizeOf5,
 v5:=Tryz.zeroValue5,
 t9:=Tryz.underlying9,
 a9:=Tryz.isAgg9,
 z9:=Tryz.sizeOf9,
 v9:=Tryz.zeroValue9,
 t22:=Tryz.underlying84,
 a22:=Tryz.isAgg84,
 z22:=Tryz.sizeOf84,
 v22:=Tryz.zeroValue84,
 t25:=Tryz.underlying326,
 a25:=Tryz.isAgg326,
 z25:=Tryz.sizeOf326,
 v25:=Tryz.zeroValue326,
 t39:=Tryz.underlying344,
 a39:=Tryz.isAgg344,
 z39:=Tryz.sizeOf344,
 v39:=Tryz.zeroValue344,
 t45:=Tryz.underlying357,
 a45:=Tryz.isAgg357,
 z45:=Tryz.sizeOf357,
 v45:=Tryz.zeroValue357,
 t46:=Tryz.underlying358,
 a46:=Tryz.isAgg358,
 z46:=Tryz.sizeOf358,
 v46:=Tryz.zeroValue358,
 t50:=Tryz.underlying135,
 a50:=Tryz.isAgg135,
 z50:=Tryz.sizeOf135,
 v50:=Tryz.zeroValue135,
 t53:=Tryz.underlying364,
 a53:=Tryz.isAgg364,
 z53:=Tryz.sizeOf364,
 v53:=Tryz.zeroValue364,
 t55:=Tryz.underlying366,
 a55:=Tryz.isAgg366,
 z55:=Tryz.sizeOf366,
 v55:=Tryz.zeroValue366,
 t66:=Tryz.underlying379,
 a66:=Tryz.isAgg379,
 z66:=Tryz.sizeOf379,
 v66:=Tryz.zeroValue379,
 t70:=Tryz.underlying281,
 a70:=Tryz.isAgg281,
 z70:=Tryz.sizeOf281,
 v70:=Tryz.zeroValue281,
 t76:=Tryz.underlying388,
 a76:=Tryz.isAgg388,
 z76:=Tryz.sizeOf388,
 v76:=Tryz.zeroValue388,
 t77:=Tryz.underlying389,
 a77:=Tryz.isAgg389,
 z77:=Tryz.sizeOf389,
 v77:=Tryz.zeroValue389 }
def AEY:Go.Shelf.Ren:=⟨fun|5=>298|7=>329|n=>n,fun|22=>3|3=>3|4=>4|n=>n,fun|n=>n⟩
theorem AZL:Go.Proofs.SlLaysC2.n5 jA AEY := {
 mixed:=AZ,
 f5:=⟨Tryz.f298.name,by decide,Tryz.func298.trans (congrArg some AZ)⟩,
 f7:=⟨Tryz.f329.name,by decide,Tryz.func329.trans (congrArg some AZ)⟩,
 t3:=Tryz.underlying3,
 a3:=Tryz.isAgg3,
 z3:=Tryz.sizeOf3,
 v3:=Tryz.zeroValue3,
 t4:=Tryz.underlying4,
 a4:=Tryz.isAgg4,
 z4:=Tryz.sizeOf4,
 v4:=Tryz.zeroValue4,
 t22:=Tryz.underlying3,
 a22:=Tryz.isAgg3,
 z22:=Tryz.sizeOf3,
 v22:=Tryz.zeroValue3 }
def encV (x:Rng):List Value:=[.int .i64 x.lo,.int .i64 x.hi]
instance:Inhabited Rng:=⟨⟨0,0⟩⟩
theorem APA (x y:Rng)(W:World):Calls jA 297 #[.agg #[.int .i64 x.lo,.int .i64 x.hi],.agg #[.int .i64 y.lo,.int .i64 y.hi]] W fun e w'=>e=.returned (.int .i64 (Lib.compareInt x.lo y.lo))/\∃q os',w'=grow (W.drewN q) os':=by
 have hcon:=fun W'=>AnyG.cmp_Compare_int AZL x.lo y.lo W'
 change ∀W',Calls jA 298 _ _ _ at hcon
 generalize Lib.compareInt x.lo y.lo=r at hcon|-
 go_enter Tryz.func297,Tryz.ntmps297
 go_wp2_with (go_at_call 298;refine(hcon _).mono ?_;rintro e w' ⟨rfl,rfl⟩)
 go_ret
 exact⟨rfl,0,_,by rw[alloc_eq_grow,alloc_eq_grow,grow_grow];rfl⟩
theorem AO9 (blk off size:Nat)(w:World):CmpLays jA 297 #[] encV 2 (fun x y=>Lib.compareInt x.lo y.lo) blk off size w :=
 fun _ _ _ _ x y=>APA x y _
theorem ltLo (x y:Rng):ltOf (fun x y:Rng=>Lib.compareInt x.lo y.lo) x y=decide (x.lo<y.lo):=by
 unfold ltOf Lib.compareInt;by_cases h1:x.lo<y.lo
 .simp [h1]
 .by_cases h2:y.lo<x.lo<;>simp [h1,h2]
theorem swoLo:SWO (ltOf fun x y:Rng=>Lib.compareInt x.lo y.lo) where
 irrefl x:=by rw[ltLo];simp
 trans x y z h1 h2:=by rw[ltLo] at *;simp at *;omega
 ntrans x y z h1 h2:=by rw[ltLo] at *;simp at *;omega
theorem encV_len (x:Rng):(encV x).length=2:=rfl
theorem AEE (x:Rng)(j:Nat)(a:AV)(h:(encR x)[j]?=some a)(g:Gh):∃v,(encV x)[j]?=some v/\(encV x)[j]! = v/\Rep g a v/\∀v',Rep g a v'->v'=v:=by
 match j,h with
 | 0,h=>simp [encR] at h;subst h;exact⟨_,rfl,rfl,.int _ _ _,fun v' hv=>hv.int_inv⟩
 | 1,h=>simp [encR] at h;subst h;exact⟨_,rfl,rfl,.int _ _ _,fun v' hv=>hv.int_inv⟩
 | n+2,h=>simp [encR] at h
theorem ABF:∀args w,(callFunc 297 args).run jA w=.ok (.enter 297 args) w:=enters_of Tryz.func297 AZ rfl
theorem AZC {t n:Nat}(h:t<n*2):t/2<n:=U
theorem AWC (xs:List Rng)(b:Nat)(tail:List (List AV))(h0 h:Hp)(hl:xs.length<=16777216)(he:ext h0 h)(hb0:h0.length<=b)(hb:h[b]?=some (yE 2 (xs.map encR++tail))):
  ACalls (En G) 296 [.own b 0 xs.length,.fn (.func 297) [] []] h fun _ H=>ext h0 H/\∃ys:List Rng,ys.Perm xs/\ys.Pairwise (fun a b=>a.lo<=b.lo)/\H[b]?=some (yE 2 (ys.map encR++tail)):=by
 refine⟨cok 296 G AZ,fun g w cargs S ha=>?_⟩;obtain⟨hsz,hget⟩:=ha
 obtain⟨cv0,cv1,rfl⟩:∃a b,cargs = #[a,b]:=by
  obtain⟨l⟩:=cargs
  match l,hsz with
  | [a,b],_=>exact⟨a,b,rfl⟩
 have r0:=hget 0 _ cv0 rfl rfl;have r1:=hget 1 _ cv1 rfl rfl;obtain⟨f1,f2,rfl,q1,q2,_⟩:=r1.fn_inv;obtain rfl:f1 = #[]:=Array.eq_empty_of_size_eq_zero (BM q1);obtain rfl:f2 = #[]:=Array.eq_empty_of_size_eq_zero (BM q2)
 have none_case:∀(p:Option Addr) (cap:Nat),xs=[]->Calls jA 296 #[.slice p 0 cap,.func (.func 297) #[] #[]] w fun e w'=>∃v cv g' h',e=.returned cv/\(ext h0 h'/\∃ys:List Rng,ys.Perm xs/\ys.Pairwise (fun a b=>a.lo<=b.lo)/\h'[b]?=some (yE 2 (ys.map encR++tail)))/\g.le g'/\SimH (En G) g' h' w'/\Rep g' v cv:=by
  intro p cap hx;have hcon:=AnyF.slices_SortFunc_none AQR p cap (.func (.func 297) #[] #[]) w;change Calls jA 296 _ _ _ at hcon;refine hcon.mono ?_;rintro e w' ⟨rfl,rfl⟩;exact⟨.tup [],_,g,h,rfl,⟨he,xs,.refl _,by rw[hx];exact .nil,hb⟩,Gh.le.refl g,S,Rep.undef g⟩
 rcases r0.own_inv with⟨l,cap,hl0,hlc,hsp,rfl⟩|⟨hn,a,rfl⟩
 case inr =>
  have hx:xs=[]:=List.length_eq_zero_iff.1 hn;have:=none_case (some a) 0 hx;exact this.mono fun _ _ q=>.inl q
 obtain⟨l',c,ety,p1,p2,p3,p4,p5,p6,p7,p8⟩:=S.live b 2 _ hb;rw[hl0] at p1;cases p1;obtain⟨cb,co,k,sz⟩:=l;simp only at p2 p3 p4 p5 p6 p8 hsp;subst p2;simp only[Nat.zero_mul,Nat.add_zero];have hblk:cb<w.heap.size:=by grind
 -- the row's cells
 have hcell:∀t,t<xs.length*2->c[co+t]?=some ((encV (xs.toArray[t/2]!))[t%2]!):=by
  intro t ht;have hi:=AZC ht;have e1:(xs.map encR++tail)[t/2]?=some (encR xs[t/2]):=by grind
  have hj:t%2<2:=Nat.mod_lt _ DT;have e2:(encR xs[t/2])[t%2]?=some ((encR xs[t/2])[t%2]'hj):=List.getElem?_eq_getElem _;obtain⟨cv,s1,s2⟩:=p8 (t/2) (t%2) _ _ e1 e2;obtain⟨v,_,t2,_,t4⟩:=AEE _ _ _ e2 g;rw[show co+t/2*2+t%2=co+t by omega] at s1;rw[s1,t4 cv s2];have:xs.toArray[t/2]! = xs[t/2]:=by simp [hi]
  rw[this,t2]
 have hH:HoldsK encV 2 w cb co xs.toArray:=by
  intro t ht;simp only[size_flatK,List.size_toArray] at ht;refine⟨?_,?_⟩
  .rw[get_flatK _ _ _ _ (BM ht)]
   simp only[World.cell?,p4];exact hcell t ht
  .simp [World.frozen?,p4]
 have hcon:=AnyQ.slices_SortFunc AQR 2 Tryz.isAgg145 Tryz.sizeOf145 encV encV_len (fun x v hv=>by simp [encV] at hv;rcases hv with rfl|rfl<;>rfl) (fun x y=>Lib.compareInt x.lo y.lo) swoLo 297 #[] cb co cap xs.toArray w
  ABF (AO9 cb co _ w) hH hblk LD
 simp only[List.size_toArray] at hcon;change Calls jA 296 _ _ _ at hcon;refine hcon.mono ?_;rintro e w' ⟨rfl,d',m,os,hp,hs,rfl⟩;have hds:d'.size=xs.length:=by simpa using hp.1
 have hperm:d'.toList.Perm xs:=by
  have:=hp.2.2;simpa [Array.extract_eq_self_of_le,hds] using this
 have hpw:d'.toList.Pairwise (fun a b=>a.lo<=b.lo):=by
  rw[List.pairwise_iff_getElem];intro i j hi hj hij;have:=hs i j (Nat.zero_le _) hij (by simpa [hds] using hj);rw[ltLo] at this;simp at hi hj;rw[getElem!_pos d' i hi,getElem!_pos d' j hj] at this;simpa using this
 -- the written world
 have hw1:Wrote w (putRowK encV 2 (Sort.ahead w m) cb co d') cb ety c (putCells id co (flatK encV 2 d') c) co (flatK encV 2 d').toList:=by
  refine⟨rfl,rfl,rfl,?_,?_,?_,?_⟩
  .show(w.heap.modify cb _)[cb]?=_
   rw[Array.getElem?_modify,if_pos rfl,p4];rfl
  .simp [putCells]
  .intro j
   simp only[putCells,Array.getElem?_mapIdx,Array.length_toList];rcases zB j c.size with hj|hj
   .grind
   .rw[Array.getElem?_eq_none hj,if_neg ?_]
    .rfl
    .simp only[size_flatK,hds]
     have:co+xs.length*2<=c.size:=by omega
     omega
  .intro k hk
   show(w.heap.modify cb _)[k]?=_;rw[Array.getElem?_modify,if_neg (fun e=>hk e.symm)]
 have hrows:PM g (putCells id co (flatK encV 2 d') c) co 2 (d'.toList.map encR++tail):=by
  refine⟨?_,?_,?_⟩
  .have:(putCells id co (flatK encV 2 d') c).size=c.size:=hw1.size
   rw[this,p5]
   simp only[List.length_append,List.length_map,Array.length_toList,hds] at p6|-
   exact p6
  .intro i row hrow
   rcases zB i xs.length with hi|hi
   .rw[qM (by simpa [hds] using hi),List.getElem?_map,Option.map_eq_some_iff] at hrow
    obtain⟨x,_,rfl⟩:=hrow;refine⟨rfl,fun j v hv=>?_⟩
    match j,hv with
    | 0,hv=>simp [encR] at hv;subst hv;rfl
    | 1,hv=>simp [encR] at hv;subst hv;rfl
    | n+2,hv=>simp [encR] at hv
   .rw[wS (by simpa [hds] using hi)] at hrow
    refine p7 i row ?_;rw[wS (BM hi)];simpa [hds] using hrow
  .intro i j row v hrow hv
   rw[hw1.cells];rcases zB i xs.length with hi|hi
   .have hi':i<d'.toList.length:=by simpa [hds] using hi
    rw[qM (by simpa using hi'),row_map hi'] at hrow;cases hrow;have hj:j<2:=(List.getElem?_eq_some_iff.1 hv).1;obtain⟨v',t1,t2,t3,_⟩:=AEE _ _ _ hv g;refine⟨v',?_,t3⟩;have hlt:i*2+j<d'.size*2:=U;rw[if_pos (by simp only[Array.length_toList,size_flatK];omega),show co+i*2+j-co=i*2+j by omega,Array.getElem?_toList,Array.getElem?_eq_getElem (BM hlt)];rw[<-getElem!_pos,get_flatK _ _ _ _ hlt,show(i*2+j)/2=i by omega,show(i*2+j)%2=j by omega];rw[getElem!_pos d' i U];rw[show d'[i]=d'.toList[i] by simp,t2]
   .rw[if_neg (by simp only[Array.length_toList,size_flatK,hds];omega)]
    rw[wS (by simpa [hds] using hi)] at hrow;refine p8 i j row v ?_ hv;rw[wS (BM hi)];simpa [hds] using hrow
 have S1:=S.write hb hl0 hw1 p5 hrows
 have S2:SimH (En G) g (h.set b (yE 2 (d'.toList.map encR++tail))) (sortWorldK encV 2 w cb co m d' os):=by
  refine S1.world rfl rfl rfl fun k hk=>?_
  show((putRowK encV 2 (Sort.ahead w m) cb co d').heap++os)[k]?=_;rcases zB k (putRowK encV 2 (Sort.ahead w m) cb co d').heap.size with hlt|hge
  .rw[Array.getElem?_append_left hlt]
  .exfalso
   obtain⟨u1,u2⟩:=S1.unowned_new hge;rcases hk with⟨o,ho⟩|hk
   .rw[u2] at ho;cases ho
   .exact hk u1
 refine .inl ⟨.tup [],_,g,_,rfl,⟨he.set hb0 _,d'.toList,hperm,hpw,CV hb⟩,Gh.le.refl g,S2,Rep.undef g⟩
theorem AQS (m:SM)(k:Nat)(h:Hp):PCall (En G) 296 [.sl m k [],.fn (.func 297) [] []] h (.tup []):=by
 refine⟨cok 296 G AZ,fun g w cargs S ha=>?_⟩;obtain⟨hsz,hget⟩:=ha
 obtain⟨cv0,cv1,rfl⟩:∃a b,cargs = #[a,b]:=by
  obtain⟨l⟩:=cargs
  match l,hsz with
  | [a,b],_=>exact⟨a,b,rfl⟩
 have r0:=(hget 0 _ cv0 rfl rfl).sl_inv;have r1:=hget 1 _ cv1 rfl rfl;obtain⟨f1,f2,rfl,q1,q2,_⟩:=r1.fn_inv;obtain rfl:f1 = #[]:=Array.eq_empty_of_size_eq_zero (BM q1);obtain rfl:f2 = #[]:=Array.eq_empty_of_size_eq_zero (BM q2)
 have none_case:∀(p:Option Addr) (cap:Nat),Calls jA 296 #[.slice p 0 cap,.func (.func 297) #[] #[]] w fun e w'=>∃v cv g' h',e=.returned cv/\(v=.tup []/\h'=h)/\g.le g'/\SimH (En G) g' h' w'/\Rep g' v cv:=by
  intro p cap;have hcon:=AnyF.slices_SortFunc_none AQR p cap (.func (.func 297) #[] #[]) w;change Calls jA 296 _ _ _ at hcon;refine hcon.mono ?_;rintro e w' ⟨rfl,rfl⟩;exact⟨.tup [],_,g,h,rfl,⟨rfl,rfl⟩,Gh.le.refl g,S,Rep.undef g⟩
 generalize hx:AV.sl m k []=v at r0
 cases r0<;>first|(cases hx;done)|skip
 .exact(none_case _ _).mono fun _ _ q=>.inl q
 .exact(none_case _ _).mono fun _ _ q=>.inl q
 .simp_all
theorem A2P:SortOk G:=⟨fun xs b tail h0 h hl he hb0 hb=>AWC G xs b tail h0 h hl he hb0 hb,fun m k h=>AQS G m k h⟩
theorem xB (xs:List Rng)(m:SM)(h:Hp)(hl:xs.length<=8388608):PCall (En G) 245 [.sl m 2 (xs.map encR)] h (.sl (nm (normal xs)) 2 ((normal xs).map encR)):=ACX G (A2P G) xs m h hl
end Go.Proofs.YtiihpnicbekebaaGreatDoor.Bins
namespace Go.Proofs.YtiihpnicbekebaaGreatDoor.Ho
open Sm Bins Cov Go.RowKit
def orE (a b:Ex):Ex:=.mk 20 0 ⟨#[]⟩ .full [a,b]
def ARW (e:Ex)(l:List Rng):Nat->Nat->Ex->Ex
 | 0,_,out=>out
 | f+1,i,out=>if i<l.length then ARW e l f (i+16) (orE out (JD e ((l.drop i).take (min l.length (i+16)-i)))) else out
def xN (e:Ex)(l:List Rng):Ex:=ARW e l l.length 16 (JD e (l.take (min l.length 16)))
theorem gV (h:Hp)(a b:Ex):DF jA false h 23 2 [(0,.agg (A8 a)),(1,.agg (A8 b))]=some (.sl .full 4 [A8 a,A8 b],h):=by
 rw[FI a,FI b];generalize a.args.map A8=xs;generalize b.args.map A8=ys
 kernel_rfl
theorem A11 (xs:List (List AV)):I5 jA 79 [(0,.n 20),(3,.sl .full 4 xs)]=some (.agg [.n 20,.n 0,.str ⟨#[]⟩,.sl .full 4 xs]):=AZ
theorem AJ4 (a b:Ex):A8 (orE a b)=[.n 20,.n 0,.str ⟨#[]⟩,.sl .full 4 [A8 a,A8 b]]:=by rw[FI];rfl
theorem nD (xs:List Rng):(normal xs).length<=xs.length:=by
 unfold normal ZJ;have h1:=fN ((xs.filter full).mergeSort gS) [];have h2:=List.length_filter_le full xs;rw[List.length_mergeSort] at h1;simp only[List.length_nil,Nat.zero_add] at h1;omega
theorem PO {H:Hp}{b:Nat}{e:Ex}(hb:H[b]?=some (yE 4 [A8 e])):BI jA H 79 (.ptr b 0 0)=some (.agg (A8 e)):=KZ hb (EG e)
theorem Q5 {H:Hp}{b:Nat}{row:List AV}{e:Ex}(hb:H[b]?=some (yE 4 [row]))(hr:row.length=4):DU jA H 79 (.ptr b 0 0) (.agg (A8 e))=some (H.set b (yE 4 [A8 e])):=XA hb hr (EG e) (VQ e)
end Go.Proofs.YtiihpnicbekebaaGreatDoor.Ho
namespace Go.Proofs.YtiihpnicbekebaaGreatDoor.Ho
open Sm Bins Cov Wd Xe Go.RowKit
structure Xs where
 m:SM
 l:List Ex
def A1R (x:Xs):List AV:=[.sl x.m 4 (x.l.map A8)]
def okX (s:List Sg)(e:Ex):Bool := !(((evE s e).1:Int)==0)
end Go.Proofs.YtiihpnicbekebaaGreatDoor.Ho
namespace Go.Proofs.YtiihpnicbekebaaGreatDoor.Ho
open Sm Bins Cov Go.RowKit
section
variable (G:Nat->AV)
theorem ACJ (m:Mo)(x:Hl)(hc:x.cross=true)(i:Nat)(hi:i<m.crs.length)(hz:x.idx=(i:Int))(h:Hp):PCall (En G) 94 [.agg (DV m),.agg (F8 x)] h (.sl m.crs[i].pm 1 (m.crs[i].pts.map qencI)):=by
 refine ACalls.pure0 rfl ?_;refine acT Tryz.func94 4 ?_;have t:=Hb.mk' h m x;refine BB @bxM @bxH ?_
 generalize h++[yE 2 [DV m]]++[yE 3 [F8 x]]=H at t|-
 generalize (h++[yE 2 [DV m]]).length=hb at t|-
 have l0:=AX1 t.gh;have l1:=ANZ t.gh;rw[hc] at l0;rw[hz] at l1;simp only[vQ,LG,CP,↓reduceIte,Nat.reduceEqDiff,Nat.zero_add,Option.getD_some,Bool.not_false,enP,fP,U8,YR,U7,l0,l1,AC8 t.gm,CZ hi,CW NF hi,eF];exact⟨AL,t.hx⟩
theorem ACI (m:Mo)(x:Hl)(hc:x.cross=false)(h:Hp):PCall (En G) 94 [.agg (DV m),.agg (F8 x)] h (.sl .full 1 ([x.idx].map qencI)):=by
 refine ACalls.pure0 rfl ?_;refine acT Tryz.func94 4 ?_;have t:=Hb.mk' h m x;refine BB @bxM @bxH ?_
 generalize h++[yE 2 [DV m]]++[yE 3 [F8 x]]=H at t|-
 generalize (h++[yE 2 [DV m]]).length=hb at t|-
 have l0:=AX1 t.gh;rw[hc] at l0;refine DW l0 (ANZ t.gh) AFA ?_;exact⟨AL,t.hx⟩
end
end Go.Proofs.YtiihpnicbekebaaGreatDoor.Ho
namespace Go.Proofs.YtiihpnicbekebaaGreatDoor.Sm

theorem GSt.refl (E:Env)(h:Hp):GSt E h h:=fun g _ S=>⟨g,Gh.le.refl g,S⟩
theorem GSt.trans {E:Env}{a b c:Hp}(h1:GSt E a b)(h2:GSt E b c):GSt E a c:=fun g w S =>
 let ⟨g1,l1,S1⟩:=h1 g w S;let ⟨g2,l2,S2⟩:=h2 g1 w S1;⟨g2,l1.trans l2,S2⟩
theorem GSt.kill (E:Env)(h:Hp)(b:Nat):GSt E h (h.set b .dead):=fun g _ S=>⟨g,Gh.le.refl g,S.kill b⟩
theorem GSt.frz {E:Env}{h:Hp}{b k i j o off len k':Nat}{xs ys:List (List AV)}{row:List AV}(hb:h[b]?=some (yE k xs))(hi:xs[i]?=some row)(hj:row[j]?=some (.own o off len))(ho:h[o]?=some (yE k' ys))
  (hne:o≠b) (hle:off+len<=ys.length) (hfz:MZ ((ys.drop off).take len)=true) :
  GSt E h ((h.set o .dead).set b (yE k (xs.set i (row.set j (.sl .any k' ((ys.drop off).take len)))))):=by
 intro g w S;obtain⟨lo,co,eo,p1,p2,p3,p4,p5,p6,p7,p8⟩:=S.live o k' ys ho;have S1:=S.kill o;have u:=N7 S ho BA p1;have S2:=S1.freeze p4 p3 u;have hg:g.le (g.freeze lo.cb (.cells co eo (0,0))):=Gh.freeze_le p3;have hM:(g.freeze lo.cb (.cells co eo (0,0))).M lo.cb=some (.cells co eo (0,0)):=by simp [Gh.freeze]
 refine⟨_,hg,?_⟩
 generalize g.freeze lo.cb (.cells co eo (0,0))=g' at S2 hg hM|-
 obtain⟨l,c,e,q1,q2,q3,q4,q5,q6,q7,q8⟩:=S.live b k xs hb;have hb2:(h.set o .dead)[b]?=some (yE k xs):=by rw[List.getElem?_set_ne hne];exact hb
 obtain⟨l',c',e',r1,r2,r3,r4,r5,r6,r7,r8⟩:=S2.live b k xs hb2;have hl:l=l':=by have:=hg.μ _ _ q1;rw[r1] at this;cases this;rfl
 subst hl;have hc:c=c':=by rw[q4] at r4;cases r4;rfl
 subst hc;simp only[MZ,List.all_eq_true] at hfz
 have key:∀cv,Rep g (.own o off len) cv->Rep g' (.sl .any k' ((ys.drop off).take len)) cv:=by
  intro cv hr
  have:=bI (φ:=id) S ho p1 p4 hM hle hr (fun row hrow v hv=>by
   obtain⟨i,hi,rfl⟩:=qF hrow;obtain⟨j',hj',rfl⟩:=qF hv;refine⟨?_,fun cv hcv=>(AV.frozen_rep (hfz _ hrow _ hv) hcv).mono hg.M⟩;have:=hfz _ hrow _ hv
   revert this
   generalize (((ys.drop off).take len)[i])[j']=y;intro this
   cases y<;>simp_all [AV.frozen,AV.leaf])
  have hid:((ys.drop off).take len).map (·.map id)=(ys.drop off).take len:=by
   have:(fun x:List AV=>x.map id)=id:=by funext x;simp
   rw[this,List.map_id]
  rw[hid] at this;exact .fro this
 have S3:=S2.kill b;have u2:=N7 S2 hb2 BA r1;have:=S3.revive (xs:=xs.set i (row.set j (.sl .any k' ((ys.drop off).take len)))) r1 r4 r5 r3 u2 ?_
 .rw[List.set_set,r2] at this;exact this
 rw[r2]
 have hrw:∀(i':Nat) (row':List AV),(xs.set i (row.set j (.sl .any k' ((ys.drop off).take len))))[i']?=some row'->(i'=i/\row'=row.set j (.sl .any k' ((ys.drop off).take len)))\/(i'≠i/\xs[i']?=some row'):=by
  intro i' row' h';rw[zQ] at h';split at h'
  .rename_i e1
   split at h'<;>simp at h';exact .inl ⟨e1.symm,h'.symm⟩
  .rename_i e1;exact .inr ⟨fun q=>e1 q.symm,h'⟩
 refine⟨by rw[qY,r5];exact r6,?_,?_⟩
 .intro i' row' h'
  rcases hrw i' row' h' with⟨rfl,rfl⟩|⟨_,h2⟩
  .refine⟨by rw[qY];exact(r7 _ _ hi).1,fun j' v hv=>?_⟩
   rw[zQ] at hv;split at hv
   .split at hv<;>simp at hv
    subst hv;rfl
   .exact(r7 _ _ hi).2 j' v hv
  .exact r7 _ _ h2
 .intro i' j' row' v h' hv
  rcases hrw i' row' h' with⟨rfl,rfl⟩|⟨_,h2⟩
  .rw[zQ] at hv
   split at hv
   .rename_i e1
    split at hv<;>simp at hv;subst hv;subst e1;obtain⟨cv,s1,s2⟩:=q8 _ _ _ _ hi hj;exact⟨cv,s1,key cv s2⟩
   .exact r8 _ _ _ _ hi hv
  .exact r8 _ _ _ _ h2 hv
end Go.Proofs.YtiihpnicbekebaaGreatDoor.Sm
namespace Go.Proofs.YtiihpnicbekebaaGreatDoor.Ho
open Sm Bins Cov Go.RowKit
variable {k:Nat} {H h:Hp} {v:AV}
theorem knP (E:Env)(g:Gh):(E.know g).P=E.P:=rfl
theorem knG (E:Env)(g:Gh):(E.know g).G=E.G:=rfl
def tW (m:SM):SM:=match m with|.nil=>.nil|_=>.full
theorem BAA {P:Program}{t e:TypeId}(hu:P.underlying t=some (.slice e))(hs:szO P e=some k){m:SM}{xs:List (List AV)}{l u:Nat}(h1:l<=u)(h2:u<=xs.length):
  IE P h t (.sl m k xs) (some (.n (l:Int))) (some (.n (u:Int))) (some (.n (u:Int)))=some (.sl (tW m) k ((xs.drop l).take (u-l))):=by
 have b1:H6 (some (.n (u:Int))) (some xs.length)=some u:=by simp [H6]
 have b2:H6 (some (.n (l:Int))) (some 0)=some l:=by simp [H6]
 have b3:H6 (some (.n (u:Int))) none=some u:=by simp [H6]
 simp only[IE,hu,b1,b2,b3,hs,true_and];rw[if_pos ⟨h1,jF _,h2,rfl⟩];cases m<;>simp [tW]
def part (L:List Rng)(k:Nat):List Rng:=(L.drop (16*k)).take 16
def parts (L:List Rng):Nat:=(L.length+15)/16
theorem AIC (G:Nat->AV)(L:List Rng)(m:SM)(hl:L.length<=1048576)(b2 b3:Nat)(I:Nat->Hp->Prop)(hI:∀k h,I k h->h[b2]?=some (yE 1 [[.sl m 2 (L.map encR)]])/\h[b3]?=some (yE 1 [[.n 16]])):
  Iter (En G) 292 [.ptr b2 0 0,.ptr b3 0 0] (parts L) (fun k=>[.sl (tW m) 2 ((part L k).map encR)]) I:=by
 intro l g0 hY h h0;refine IP (H:=Hint.none) (enM G) Tryz.func292 rfl (by kernel_rfl) (by kernel_rfl) (jB (by kernel_rfl)) ?_;show awp _ _ _ _ _ (L6 _ [] _);refine BB @knP @knG ?_
 refine BK (fun n F H=>∃k,n+k=parts L/\F 0=.fn (.yield l) [] []/\F 1=.ptr b2 0 0/\F 2=.ptr b3 0 0/\F 4=.n ((16*k:Nat):Int)/\I k H) (parts L)
  ⟨0,BA,AQ,AQ,AQ,AQ,h0⟩ ?_
 rintro n F H ⟨k,hk,f0,f1,f2,f4,hIk⟩;obtain⟨g2,g3⟩:=hI k H hIk;have l2:BI jA H 84 (.ptr b2 0 0)=some (.sl m 2 (L.map encR)):=by rw[BC RZ g2 (row:=[.sl m 2 (L.map encR)]) rfl];rfl
 have l3:BI jA H 3 (.ptr b3 0 0)=some (.n 16):=by rw[BC ag3 g3 (row:=[.n 16]) rfl];rfl
 have hp:parts L=(L.length+15)/16:=rfl;refine JI @knP @knG f1 f4 l2 ?_;refine D9 ?_ ?_<;>intro hk'
 .have hkn:k<parts L:=U
  have hs1:IE jA H 84 (.sl m 2 (L.map encR)) (some (.n ((16*k:Nat):Int))) none none=some (.sl m 2 ((L.drop (16*k)).map encR)):=by
   rw[lE aY MF LD,List.map_drop]
  have hw1:IntKind.i64.wrap (((16*k:Nat):Int)+((min 16 (L.length-16*k):Nat):Int))=((16*k+min 16 (L.length-16*k):Nat):Int):=by rw[wrap_i64 U U];omega
  have hw2:IntKind.i64.wrap (((16*k:Nat):Int)+16)=((16*(k+1):Nat):Int):=by rw[wrap_i64 U U];omega
  have hs2:IE jA H 84 (.sl m 2 (L.map encR)) (some (.n ((16*k:Nat):Int))) (some (.n ((16*k+min 16 (L.length-16*k):Nat):Int))) (some (.n ((16*k+min 16 (L.length-16*k):Nat):Int)))=some (.sl (tW m) 2 ((part L k).map encR)):=by
   rw[BAA aY MF U LD,<-List.map_drop,<-List.map_take]
   have e:(L.drop (16*k)).take (16*k+min 16 (L.length-16*k)-16*k)=part L k:=by
    unfold part;rw[List.take_eq_take_iff,List.length_drop];omega
   rw[e]
  refine BB @knP @knG ?_;refine D6 AZ ?_;simp only[vQ,Option.map_some,Option.map_none,LQ,cS,LP,CP,UK,AI2,xF,↓reduceIte,jC,jT,enP,xJ,knP,knG,f1,f2,f4,l2,l3,hs1,jP,List.length_drop];have hm16:min (16:Int) ((L.length-16*k:Nat):Int)=((min 16 (L.length-16*k):Nat):Int):=U;simp only[vQ,CP,AZV,↓reduceIte,jC,knP,knG,hm16,f0,f1,f2,f4,l2,hw1,hs2];refine(hY k H hkn hIk).mono ?_;rintro v h' ⟨rfl,hI'⟩;obtain⟨g2',g3'⟩:=hI (k+1) h' hI';have l3':BI jA h' 3 (.ptr b3 0 0)=some (.n 16):=by rw[BC ag3 g3' (row:=[.n 16]) rfl];rfl
  refine NY @knP @knG f2 f4 l3' hw2 ?_;exact⟨n-1,U,k+1,U,AL,AL,AL,AL,hI'⟩
 .have:k=parts L:=U
  subst this;refine DW @gH @knP @knG ?_;exact hIk
theorem AIB (G:Nat->AV)(s:AV)(hs:IB s=some [s])(h:Hp):ACalls (En G) 244 [s,.n 16] h fun v h'=>v=.fn (.func 292) [] [.ptr h.length 0 0,.ptr (h.length+1) 0 0]/\h'=h++[yE 1 [[s]]]++[yE 1 [[.n 16]]]:=by
 refine acT Tryz.func244 4 ?_;have hb:MP h s=some (.ptr h.length 0 0,h++[yE 1 [[s]]]):=by simp [MP,hs]
 have l3:BI jA (h++[yE 1 [[s]]]++[yE 1 [[.n 16]]]) 3 (.ptr (h++[yE 1 [[s]]]).length 0 0)=some (.n 16):=by rw[BC ag3 (AX _ _) (row:=[.n 16]) rfl];rfl
 have d16:decide ((16:Int)<1)=false:=rfl;refine JI @ALV @AFJ hb l3 d16 ?_;exact⟨BA,AL⟩
def cEs (l:List Rng):List Ex:=l.flatMap fun r=>[cE r.lo,cE r.hi]
def insL (e:Ex)(l:List Rng):List Ex:=e::cEs l
theorem UA (a:Rng)(l:List Rng):cEs (a::l)=cE a.lo::cE a.hi::cEs l:=rfl
theorem AC9:∀l:List Rng,(AX8 l).map A67=cEs l
 | []=>rfl
 | a::l=>by rw[AN7,UA,jK,jK,AC9 l];rfl
theorem UT (e:Ex)(l:List Rng):JD e l=.mk 23 0 ⟨#[]⟩ .any (insL e l):=by
 unfold JD A1I insL;rw[jK,AC9];rfl
theorem AE7 {l:List Rng}(hk:k<l.length):cEs (l.take (k+1))=cEs (l.take k)++[cE l[k].lo,cE l[k].hi]:=by
 unfold cEs;rw[List.take_succ_eq_append_getElem hk,List.flatMap_append];rfl
theorem lN:∀l:List Rng,(cEs l).length=2*l.length
 | []=>rfl
 | a::l=>by rw[UA,zT,zT,lN l,zT];omega
def nodes (e:Ex)(L:List Rng)(k:Nat):List Ex:=(List.range k).map fun i=>JD e (part L i)
theorem KU (e:Ex)(L:List Rng)(k:Nat):(nodes e L k).length=k:=by simp [nodes]
theorem nE (e:Ex)(L:List Rng)(k:Nat):nodes e L (k+1)=nodes e L k++[JD e (part L k)]:=by simp [nodes,List.range_succ]
theorem ANR (e:Ex)(L:List Rng)(k i:Nat)(h:i<(nodes e L k).length):(nodes e L k)[i]=JD e (part L i):=by simp [nodes]
def NK (e:Ex)(L:List Rng):Nat->Ex
 | 0=>JD e (part L 0)
 | k+1=>orE (NK e L k) (JD e (part L (k+1)))
def SQ (e:Ex)(L:List Rng):Ex:=if L=[] then cE 0 else xN (cpE e) L
theorem parts_eq (L:List Rng):parts L=(L.length+15)/16:=rfl
theorem ACK (L:List Rng)(i:Nat):(L.drop (16*i)).take (min L.length (16*i+16)-16*i)=part L i:=by
 unfold part;rw[List.take_eq_take_iff,List.length_drop];omega
theorem tJ (e:Ex)(L:List Rng):∀(n k:Nat),L.length<=16*(k+1)+n->k<parts L->ARW e L n (16*(k+1)) (NK e L k)=NK e L (parts L-1)
 | 0,k,h,hk=>by
   have hp:=parts_eq L;have:parts L-1=k:=U;rw[this];rfl
 | n+1,k,h,hk=>by
   have hp:=parts_eq L;show(if 16*(k+1)<L.length then _ else _)=_;by_cases hc:16*(k+1)<L.length
   .rw[if_pos hc,ACK]
    exact tJ e L n (k+1) U U
   .rw[if_neg hc]
    have:parts L-1=k:=U;rw[this]
theorem ADC (e:Ex)(L:List Rng)(h:L≠[]):xN e L=NK e L (parts L-1):=by
 have hl:0<L.length:=qX.2 h;have hp:=parts_eq L;unfold xN;have:=tJ e L L.length 0 U U
 have h0:JD e (L.take (min L.length 16))=NK e L 0:=by
  show _=JD e (part L 0);have:=ACK L 0;simp only[Nat.mul_zero,jH,Nat.sub_zero,zU] at this;rw[<-this]
 rw[h0];exact this
theorem YK (e:Ex)(L:List Rng)(h:L≠[]):SQ e L=NK (cpE e) L (parts L-1):=by
 unfold SQ;rw[if_neg h,ADC _ _ h]
theorem A2I (F:Fr)(p:Nat)(ps:List Nat)(v:AV)(vs:List AV):vK F (p::ps) (v::vs)=vK (upd F p v) ps vs:=rfl
theorem A2H (F:Fr)(vs:List AV):vK F [] vs=F:=by cases vs<;>rfl
theorem BBR (h:Hp):GH jA h 23=some (.ptr h.length 0 0,h++[yE 1 [[.sl .nil 0 []]]]):=FB (row:=[.sl .nil 0 []]) AZ
abbrev EX:List AV:=[.n 0,.n 0,.str ⟨#[]⟩,.sl .nil 0 []]
structure Ic (h hb H:Hp) (e:Ex) (L:List Rng) (m:SM) (b4 b5 c2 c3 k:Nat) (v:AV):Prop where
 ge:H[h.length]?=some (yE 4 [A8 e])
 g4:H[b4]?=some (yE 4 [EX])
 g5:H[b5]?=some (yE 1 [[v]])
 g2:H[c2]?=some (yE 1 [[.sl m 2 (L.map encR)]])
 g3:H[c3]?=some (yE 1 [[.n 16]])
 ho:outG 4 A8 hb (nodes (cpE e) L k) v H
 hx:ext h H
 hy:hb.length<=H.length
structure In (hb H1 H:Hp) (e:Ex) (l:List Rng) (b7:Nat) (v:AV):Prop where
 g7:H[b7]?=some (yE 4 [[.n 23,.n 0,.str ⟨#[]⟩,v]])
 ho:outG 4 A8 H1 (insL e l) v H
 hx:ext H1 H
 ne:∀b,isB v b->b≠b7
theorem AW6 {α:Type}{f:α->List AV}{ys:List α}(ho:outG k f h ys v H):outG k id h (ys.map f) v H:=by
 rcases ho with⟨rfl,rfl⟩|⟨hne,o,h2,rfl,h3⟩
 .exact .inl ⟨rfl,rfl⟩
 .exact .inr ⟨BM hne,o,h2,by rw[jP],by rw[List.map_id];exact h3⟩
theorem A1Y (h:Hp):DF jA false h 23 1 [(0,.agg EX)]=some (.sl .full 4 [EX],h):=AZ
theorem A8V:XN (Value.agg #[.int .i64 0,.int .i64 0,.string ⟨#[]⟩,.slice none 0 0])=.agg EX:=rfl
theorem YY (l:List Ex):MZ (l.map A8)=true:=by
 unfold MZ;rw[List.all_eq_true];intro row hr;obtain⟨x,_,rfl⟩:=List.mem_map.1 hr;rw[FI];rfl
theorem outG_ext {α:Type}{f:α->List AV}{H':Hp}{ys:List α}(ho:outG k f h ys v H)(hx:Sm.ext H H'):outG k f h ys v H':=by
 obtain⟨x,rfl⟩:=hx;exact ho.app x
theorem Ic.ext {hb H':Hp}{e:Ex}{L:List Rng}{m:SM}{b4 b5 c2 c3:Nat}(I:Ic h hb H e L m b4 b5 c2 c3 k v)(hx:Sm.ext H H'):Ic h hb H' e L m b4 b5 c2 c3 k v :=
 ⟨DI hx I.ge,DI hx I.g4,DI hx I.g5,DI hx I.g2,DI hx I.g3,outG_ext I.ho hx,I.hx.trans hx,Nat.le_trans I.hy hx.le⟩
theorem ADG (e:Ex)(l:List Rng):A8 (JD e l)=[.n 23,.n 0,.str ⟨#[]⟩,.sl .any 4 ((insL e l).map A8)]:=by rw[UT,FI];rfl
section
variable (G:Nat->AV)
theorem inside_prog (e:Ex)(xs:List Rng)(s:SM)(hl:xs.length<=1048576)(hw:wt e<=1048576)(h:Hp):PCall (En G) 168 [.agg (A8 e),.sl s 2 (xs.map encR)] h (.agg (A8 (SQ e (normal xs)))):=by
 refine ACalls.pure (R:=fun v H=>Sm.ext h H/\FH h.length H 3 v=.agg (A8 (SQ e (normal xs)))) 3 ?_ (fun v H ⟨a,b⟩=>⟨a,b⟩);refine IP (H:=hint [19,36,43] []) (enM G) Tryz.func168 rfl (by kernel_rfl) (by kernel_rfl) (jB (by kernel_rfl)) ?_;show awp _ _ _ _ _ (L6 _ [.cell 4 79] _);have ge:=AO (x:=yE 1 [[.sl .nil 0 []]]) (AO (x:=yE 4 [EX]) (AX h (yE 4 [A8 e])));have g4:=AO (x:=yE 1 [[.sl .nil 0 []]]) (AX (h++[yE 4 [A8 e]]) (yE 4 [EX]));have g5:=AX (h++[yE 4 [A8 e]]++[yE 4 [EX]]) (yE 1 [[.sl .nil 0 []]]);have hx:Sm.ext h (h++[yE 4 [A8 e]]++[yE 4 [EX]]++[yE 1 [[.sl .nil 0 []]]]):=(((ext.rfl' h).app _).app _).app _;have o4:h.length<(h++[yE 4 [A8 e]]).length:=BA;have o5:(h++[yE 4 [A8 e]]).length<(h++[yE 4 [A8 e]]++[yE 4 [EX]]).length:=BA;have hnl:=nD xs;refine DW @bxE RQ BBR ?_
 generalize h++[yE 4 [A8 e]]++[yE 4 [EX]]++[yE 1 [[.sl .nil 0 []]]]=H0 at ge g4 g5 hx|-
 generalize (h++[yE 4 [A8 e]]++[yE 4 [EX]]).length=b5 at g5 o5|-
 generalize (h++[yE 4 [A8 e]]).length=b4 at g4 o4 o5|-
 have l5:=AC g5;refine(xB G xs s _ U).use ?_
 generalize normal xs=L at hnl|-
 have hL:L.length<=1048576:=U;generalize Bins.nm L=m;refine AB ?_;refine(AIB G _ rfl _).mono ?_;rintro v H ⟨rfl,rfl⟩
 have I0:Ic h (H0++[yE 1 [[.sl m 2 (L.map encR)]]]++[yE 1 [[.n 16]]]) (H0++[yE 1 [[.sl m 2 (L.map encR)]]]++[yE 1 [[.n 16]]]) e L m b4 b5 H0.length (H0.length+1) 0 (.sl .nil 0 []) :=
  ⟨AO (AO ge),AO (AO g4),AO (AO g5),AO (AX _ _),BA,outG.nil _ _ _ _,(hx.app _).app _,jF _⟩
 generalize H0++[yE 1 [[.sl m 2 (L.map encR)]]]++[yE 1 [[.n 16]]]=H1 at I0|-
 have k2:b5<H0.length:=l5;have k3:H0.length<H0.length+1:=Nat.lt_succ_self _
 generalize H0.length+1=c3 at I0 k3|-
 generalize H0.length=c2 at I0 k2 k3|-
 have l3:=AC I0.g3;clear ge g4 g5 hx l5;refine AB ?_;refine A43 AZ AQ (parts L) (fun k=>[.sl (tW m) 2 ((part L k).map encR)]) (fun k H=>∃v,Ic h H1 H e L m b4 b5 c2 c3 k v) (AIC G L m hL c2 c3 _ (fun k H ⟨v,I⟩=>⟨I.g2,I.g3⟩)) ⟨_,I0⟩ ?_ ?_
 .clear I0
  rintro k H hk ⟨v,I⟩;refine⟨rfl,?_⟩;have hy:=I.hy;have lb:=PO I.ge;have gc0:(H++[yE 4 [A8 (cpE e)]]++[yE 4 [EX]])[(H++[yE 4 [A8 (cpE e)]]).length]?=some (yE 4 [EX]):=AX _ _;have sc0:=XA (cs:=[.n 23,.n 0,.str ⟨#[]⟩,.own H.length 0 1]) gc0 rfl rfl rfl
  have N0:In H1 H ((H++[yE 4 [A8 (cpE e)]]++[yE 4 [EX]]).set (H++[yE 4 [A8 (cpE e)]]).length (yE 4 [[.n 23,.n 0,.str ⟨#[]⟩,.own H.length 0 1]])) (cpE e) ((part L k).take 0) (H++[yE 4 [A8 (cpE e)]]).length (.own H.length 0 1) :=
   ⟨CV gc0,.inr ⟨by rw[qI];exact List.cons_ne_nil _ _,H.length,jF _,by rw[qI];rfl,by rw[qI];exact C9 (AO (AX _ _)) BA⟩,(((ext.rfl' H).app _).app _).set BA _,fun b hb=>by cases hb;simp⟩
  refine DW @A2I @A2H lb ?_;refine(AEV G (wt e) e H (jF _) hw).use ?_;refine ES @A8F @A12 RQ sc0 ?_
  generalize ((H++[yE 4 [A8 (cpE e)]]++[yE 4 [EX]]).set (H++[yE 4 [A8 (cpE e)]]).length (yE 4 [[.n 23,.n 0,.str ⟨#[]⟩,.own H.length 0 1]]))=H2 at N0|-
  have hb7:H.length<(H++[yE 4 [A8 (cpE e)]]).length:=BA
  generalize (H++[yE 4 [A8 (cpE e)]]).length=b7 at N0 hb7|-
  generalize AV.own H.length 0 1=u0 at N0;clear gc0 sc0 lb;refine EU 2 (fun F H'=>F 5=.ptr b5 0 0/\F 7=.ptr b7 0 0/\∃u,In H1 H H' (cpE e) (part L k) b7 u) (fun _ _=>False) ?_ ?_ (fun _ _ q=>q.elim)
  .refine BK (fun n F H'=>∃j u,n+j=(part L k).length/\F 5=.ptr b5 0 0/\F 7=.ptr b7 0 0/\F 21=.sl (tW m) 2 ((part L k).map encR)/\F 22=.n ((part L k).length:Nat)/\F 23=.n (j:Nat)/\In H1 H H' (cpE e) ((part L k).take j) b7 u) (part L k).length
    ⟨0,u0,BA,AQ,AQ,AQ,AQ,AQ,N0⟩ ?_
   clear N0;rintro n F H' ⟨j,u,hj,f5,f7,f21,f22,f23,N⟩;refine BB f22 f23 ?_;refine D9 ?_ ?_<;>intro hj'
   .have hpl:(part L k).length<=16:=by unfold part;rw[jZ];omega
    have N1:In H1 H (H'++[yE 2 [encR (part L k)[j]]]) (cpE e) ((part L k).take j) b7 u:=⟨AO N.g7,N.ho.app _,N.hx.app _,N.ne⟩;simp only[vQ,jY,jS,jV,zO,CP,↓reduceIte,jC,enP,dT,jQ,f21,f23,CZ hj',DJ eQ MF YS hj',APM,AMK _ _ [.n 0,.n 0] rfl];have q0:BI jA (H'++[yE 2 [encR (part L k)[j]]]) 3 (.ptr H'.length 0 0)=some (.n (part L k)[j].lo):=by rw[D7 ag3,aO]
    have q1:BI jA (H'++[yE 2 [encR (part L k)[j]]]) 3 (.ptr H'.length 0 1)=some (.n (part L k)[j].hi):=by rw[D7 ag3,YT]
    generalize H'++[yE 2 [encR (part L k)[j]]]=H3 at N1 q0 q1|-
    have hlen:(insL (cpE e) ((part L k).take j)).length+2<=8388608:=by
     unfold insL;rw[zT,lN,jZ];omega
    obtain⟨v',H4,ha,ho2,hkeep,he2,hl2,hv2⟩:=ZE .full N1.ho WB JE eY eM U (ys:=[cE (part L k)[j].lo,cE (part L k)[j].hi]) hlen N1.hx;have ha':EQ jA true H3 23 23 u (.sl .full 4 [A8 (cE (part L k)[j].lo),A8 (cE (part L k)[j].hi)])=some (v',H4):=ha
    have hits:insL (cpE e) ((part L k).take j)++[cE (part L k)[j].lo,cE (part L k)[j].hi]=insL (cpE e) ((part L k).take (j+1)):=by
     unfold insL;rw[AE7 hj'];rfl
    rw[hits] at ho2;have g72:=hkeep _ _ N1.g7 (fun q=>N1.ne _ q rfl);have l7:BI jA H3 23 (.ptr b7 0 3)=some u:=by rw[BC LM N1.g7 (row:=[.n 23,.n 0,.str ⟨#[]⟩,u]) rfl];rfl
    have lb7:=AC N1.g7
    have hst:DU jA H4 23 (.ptr b7 0 3) v'=some (H4.set b7 (yE 4 [[.n 23,.n 0,.str ⟨#[]⟩,v']])):=by
     rcases ho2 with⟨e1,_⟩|⟨_,o,_,rfl,_⟩
     .exact absurd e1 (List.cons_ne_nil _ _)
     .rw[IR (cs:=[.own o 0 _]) rfl (AZ:szO jA 23=some 1) g72 BA];rfl
    have hv2':∀b,isB v' b->b≠b7:=fun b hb=>by
     rcases hv2 b hb with q|q
     .exact N1.ne b q
     .omega
    have N2:In H1 H (H4.set b7 (yE 4 [[.n 23,.n 0,.str ⟨#[]⟩,v']])) (cpE e) ((part L k).take (j+1)) b7 v' :=
     ⟨CV g72,ho2.keep (fun b hb=>by rw[List.getElem?_set_ne (fun q=>hv2' b hb q.symm)]),he2.set U _,hv2'⟩
    refine D6 AZ ?_;refine ES f7 l7 q0 q1 ?_;refine⟨_,YG G _ _,_,YG G _ _,?_⟩
    try refine Y2 f5 f7 f21 f22 f23 @gV ha' hst (DC j) ?_
    exact⟨n-1,U,j+1,v',U,AL,AL,AL,AL,AL,N2⟩
   .rw[jJ U] at N
    refine AB ?_;exact⟨AL,AL,u,N⟩
  .rintro F H' ⟨f5,f7,u,N⟩
   have I2:=I.ext N.hx;have hpl:(part L k).length<=16:=by unfold part;rw[jZ];omega
   obtain⟨o,n0,hu,ho1,ho2⟩:∃o n0,u=.own o 0 n0/\H.length<=o/\(n0=(insL (cpE e) (part L k)).length/\H'[o]?=some (yE 4 ((insL (cpE e) (part L k)).map A8))):=by
    rcases N.ho with⟨e1,_⟩|⟨_,o,h1,h2,h3⟩
    .exact absurd e1 (List.cons_ne_nil _ _)
    .exact⟨o,_,h2,h1,rfl,h3⟩
   subst hu;obtain⟨rfl,ho2⟩:=ho2;have hk1:(nodes (cpE e) L k).length<8388608:=by rw[KU];unfold parts at hk;omega
   obtain⟨v',H3,ha,ho3,hkeep,hl3,hv3,⟨ob,n1,hv'⟩,hext⟩:=(AW6 I2.ho).app2 WB JE eY eM U (by rw[jP];exact hk1) I2.hy EX;subst hv';have hob:ob=H'.length:=hv3 ob rfl
   obtain⟨hn1,hb3⟩:n1=k+1/\H3[ob]?=some (yE 4 ((nodes (cpE e) L k).map A8++[EX])):=by
    rcases ho3 with⟨e1,_⟩|⟨_,o',_,h2,h3⟩
    .simp at e1
    .cases h2
     refine⟨by simp [KU],?_⟩;rw[List.map_id] at h3;exact h3
   subst hn1;have hlo:∀b,isB v b->H1.length<=b/\b<H.length:=fun b hb=>I.ho.lt hb
   have nb:∀b x,H'[b]?=some x->b<H1.length\/H.length<=b->H3[b]?=some x:=fun b x hx hb=>hkeep b x hx fun q=>by have:=hlo b q;omega
   have l5:b5<H1.length:=U;have lo':=AC ho2;have l7':=AC N.g7;have hle:=N.hx.le
   have hset:∀a b:List AV,((nodes (cpE e) L k).map A8++[a]).set k b=(nodes (cpE e) L k).map A8++[b]:=fun a b=>by
    rw[List.set_append_right _ _ (by simp [KU])];simp [KU]
   have hget:∀a:List AV,((nodes (cpE e) L k).map A8++[a])[k]?=some a:=fun a=>by
    rw[List.getElem?_append_right (by simp [KU])];simp [KU]
   have d5:BI jA H' 23 (.ptr b5 0 0)=some v:=by rw[BC LM I2.g5 (row:=[v]) rfl];rfl
   have d7:BI jA H' 79 (.ptr b7 0 0)=some (.agg [.n 23,.n 0,.str ⟨#[]⟩,.own o 0 (insL (cpE e) (part L k)).length]):=KZ N.g7 rfl;have dl:JU jA 23 v=some (.n (k:Nat)):=by rw[I2.ho.len AR3,KU]
   have ha':EQ jA true H' 23 23 v (.sl .full 4 [EX])=some (.own ob 0 (k+1),H3):=ha;have di:IM 4 H3 (.own ob 0 (k+1)) (.n (k:Nat))=some (.ptr ob k 0):=by rw[GM hb3 (Nat.lt_succ_self k),jH]
   have s1:DU jA H3 79 (.ptr ob k 0) (.agg [.n 23,.n 0,.str ⟨#[]⟩,.own o 0 (insL (cpE e) (part L k)).length])=some (H3.set ob (yE 4 ((nodes (cpE e) L k).map A8++[[.n 23,.n 0,.str ⟨#[]⟩,.own o 0 (insL (cpE e) (part L k)).length]]))):=by
    rw[G8 (PG rfl) JE hb3 (hget EX) (jF 4),hset];rfl
   have g53:=nb _ _ I2.g5 (.inl l5)
   have s2:DU jA (H3.set ob (yE 4 ((nodes (cpE e) L k).map A8++[[.n 23,.n 0,.str ⟨#[]⟩,.own o 0 (insL (cpE e) (part L k)).length]]))) 23 (.ptr b5 0 0) (.own ob 0 (k+1)) =
     some ((H3.set ob (yE 4 ((nodes (cpE e) L k).map A8++[[.n 23,.n 0,.str ⟨#[]⟩,.own o 0 (insL (cpE e) (part L k)).length]]))).set b5 (yE 1 [[.own ob 0 (k+1)]])):=by
    rw[IR (cs:=[.own ob 0 (k+1)]) rfl (AZ:szO jA 23=some 1) (C9 g53 U) BA];rfl
   have hob1:H1.length<=ob:=by have:=I2.hy;omega
   have hoo:o≠ob:=U;have ob5:ob≠b5:=U;have o5':o≠b5:=U;have lob:=AC hb3
   have t2:DU jA H3 23 (.ptr b5 0 0) (.own ob 0 (k+1))=some (H3.set b5 (yE 1 [[.own ob 0 (k+1)]])):=by
    rw[IR (cs:=[.own ob 0 (k+1)]) rfl (AZ:szO jA 23=some 1) g53 BA];rfl
   have t1:DU jA (H3.set b5 (yE 1 [[.own ob 0 (k+1)]])) 79 (.ptr ob k 0) (.agg [.int .i64 23,.int .i64 0,.str ⟨#[]⟩,.own o 0 (insL (cpE e) (part L k)).length])=some ((H3.set ob (yE 4 ((nodes (cpE e) L k).map A8++[[.int .i64 23,.int .i64 0,.str ⟨#[]⟩,.own o 0 (insL (cpE e) (part L k)).length]]))).set b5 (yE 1 [[.own ob 0 (k+1)]])):=by
    rw[G8 (PG rfl) JE (C9 hb3 ob5) (hget EX) (jF 4),hset,List.set_comm _ _ ob5];rfl
   refine AB ?_;refine AFI [] [0,1,2,3,4,5] 6 7 [] AZ trivial ?_;simp only[NG,List.getElem?_cons_succ,List.getElem?_cons_zero];simp only[vQ,JH,jY,jS,jV,zO,Bool.or_true,P8,KY,QR,LP,AKG,F6,JW,↓reduceIte,jC,jT,enP,PZ,jQ,f5,f7,d5,d7,dl,A8V,A1Y,ha',di,s1,s2,t1,t2];rw[and_self_iff];clear t1 t2 s1 s2;generalize hrN : [AV.int .i64 23,.n 0,.str ⟨#[]⟩,.own o 0 (insL (cpE e) (part L k)).length]=rowN at *;have hb4:(H3.set ob (yE 4 ((nodes (cpE e) L k).map A8++[rowN])))[ob]?=some (yE 4 ((nodes (cpE e) L k).map A8++[rowN])):=CV hb3;have hbo:((H3.set ob (yE 4 ((nodes (cpE e) L k).map A8++[rowN]))).set b5 (yE 1 [[.own ob 0 (k+1)]]))[ob]?=some (yE 4 ((nodes (cpE e) L k).map A8++[rowN])):=C9 hb4 ob5;have ho5:((H3.set ob (yE 4 ((nodes (cpE e) L k).map A8++[rowN]))).set b5 (yE 1 [[.own ob 0 (k+1)]]))[o]?=some (yE 4 ((insL (cpE e) (part L k)).map A8)):=C9 (C9 (nb _ _ ho2 (.inr ho1)) hoo) o5';have gst:=GSt.frz (E:=En G) hbo (hget rowN) (j:=3) (by rw[<-hrN];rfl) ho5 hoo BA (by rw[zU,jJ BA];exact YY _)
   have hr6:((nodes (cpE e) L k).map A8++[rowN]).set k (rowN.set 3 (.sl .any 4 ((((insL (cpE e) (part L k)).map A8).drop 0).take (insL (cpE e) (part L k)).length)))=(nodes (cpE e) L (k+1)).map A8:=by
    rw[hset,nE,List.map_append,jK,jL,ADG,<-hrN,zU,jJ BA];rfl
   rw[hr6] at gst;refine⟨_,gst,.own ob 0 (k+1),?_⟩
   have keep:∀b x,b<H1.length->b≠b5->H'[b]?=some x->(((((H3.set ob (yE 4 ((nodes (cpE e) L k).map A8++[rowN]))).set b5 (yE 1 [[.own ob 0 (k+1)]])).set o .dead).set ob (yE 4 ((nodes (cpE e) L (k+1)).map A8)))[b]?=some x):=fun b x h1 h2 h3 =>
    C9 (C9 (C9 (C9 (nb b x h3 (.inl h1)) U) h2) U) U
   have hex:=hext h U I2.hx;refine⟨keep _ _ U U I2.ge,keep _ _ U U I2.g4,C9 (C9 (CV (C9 g53 U)) U) U,keep _ _ U U I2.g2,keep _ _ U U I2.g3,.inr ⟨by rw[nE];simp,ob,hob1,by rw[KU],CV (C9 hbo hoo.symm)⟩,(((hex.set U _).set U _).set U _).set U _,by simp;omega⟩
 .rintro H ⟨v,I⟩
  have hn:=I.ho.len AR3;rw[KU] at hn;have d5:BI jA H 23 (.ptr b5 0 0)=some v:=by rw[BC LM I.g5 (row:=[v]) rfl];rfl
  have hpe:=parts_eq L;rcases Classical.em (L=[]) with hL0|hL0
  .have hz:(((parts L:Nat):Int)==0)=true:=by rw[hL0];rfl
   refine DW d5 hn hz ?_;refine(YG G 0 H).use ?_;simp only[vQ,jY,jS,jV,zO,LG,CP,↓reduceIte,jC,enP,jQ,Q5 I.g4 rfl];rw[JM (b:=b4) AQ (PO (CV I.g4))];refine⟨I.hx.set U _,?_⟩;rw[show SQ e L=cE 0 by unfold SQ;rw[if_pos hL0],FI];rfl
  have hlp:0<L.length:=qX.2 hL0;have hp0:0<parts L:=U;have hz:(((parts L:Nat):Int)==0)=false:=by simp;omega
  obtain⟨ob,rfl,hob1,hob⟩:∃ob,v=.own ob 0 (parts L)/\H1.length<=ob/\H[ob]?=some (yE 4 ((nodes (cpE e) L (parts L)).map A8)):=by
   rcases I.ho with⟨e1,_⟩|⟨_,o,h1,h2,h3⟩
   .have:=congrArg List.length e1
    rw[KU,List.length_nil] at this;omega
   .exact⟨o,by rw[h2,KU],h1,h3⟩
  have hrow:∀i,i<parts L->((nodes (cpE e) L (parts L)).map A8)[i]?=some (A8 (JD (cpE e) (part L i))):=fun i hi=>by
   have hi':i<(nodes (cpE e) L (parts L)).length:=by rw[KU];exact hi
   rw[List.getElem?_map,List.getElem?_eq_getElem hi',ANR];rfl
  have hld:∀(H':Hp) i,H'[ob]?=some (yE 4 ((nodes (cpE e) L (parts L)).map A8))->i<parts L->BI jA H' 79 (.ptr ob i 0)=some (.agg (A8 (JD (cpE e) (part L i)))):=fun H' i h' hi=>by
   rw[ED O6 JE h' (hrow i hi) (by rw[EG];exact jF 4),zU,<-EG (JD (cpE e) (part L i)),List.take_length]
  have i0:IM 4 H (.own ob 0 (parts L)) (.n 0)=some (.ptr ob 0 0):=GM (n:=0) hob hp0;have hcut:∀H':Hp,H'[ob]?=some (yE 4 ((nodes (cpE e) L (parts L)).map A8))->IE jA H' 23 (.own ob 0 (parts L)) (some (.n 1)) none none=some (.own ob 1 (parts L-1)):=fun H' h'=>ACP (l:=1) WB JE h' hp0
  have hobH:=AC hob;have s10:=rF H (JD (cpE e) (part L 0)) EX rfl;have g10:(H++[yE 4 [A8 (JD (cpE e) (part L 0))]])[H.length]?=some (yE 4 [A8 (NK (cpE e) L 0)]):=AX H _;refine NJ d5 hn hz i0 (hld H 0 hob hp0) RQ s10 ?_;have I3:=I.ext (Sm.ext.app (Sm.ext.rfl' H) [yE 4 [A8 (JD (cpE e) (part L 0))]]);have hob3:=AO (x:=yE 4 [A8 (JD (cpE e) (part L 0))]) hob;have d53:BI jA (H++[yE 4 [A8 (JD (cpE e) (part L 0))]]) 23 (.ptr b5 0 0)=some (.own ob 0 (parts L)):=by rw[BC LM I3.g5 (row:=[.own ob 0 (parts L)]) rfl];rfl
  refine BB d53 (hcut _ hob3) ?_;have l3:H.length=H.length:=rfl
  generalize hb10:H.length=b10 at g10|-
  have hx3:=I3.hx;have g43:=I3.g4
  generalize H++[yE 4 [A8 (JD (cpE e) (part L 0))]]=H3 at g10 hob3 hx3 g43|-
  have hle1:=I.hy;clear I3 I d5 d53 hn i0 s10
  refine BK (fun n F H'=>∃k,n+k=parts L-1/\F 4=.ptr b4 0 0/\F 10=.ptr b10 0 0/\F 53=.own ob 1 (parts L-1)/\F 54=.n ((parts L-1:Nat):Int)/\F 55=.n (k:Nat)/\H'[b10]?=some (yE 4 [A8 (NK (cpE e) L k)])/\H'[ob]?=some (yE 4 ((nodes (cpE e) L (parts L)).map A8))/\H'[b4]?=some (yE 4 [EX])/\Sm.ext h H') (parts L-1)
   ⟨0,BA,AQ,AQ,AQ,AQ,AQ,g10,hob3,g43,hx3⟩ ?_
  clear g10 hob3 g43 hx3;rintro n F H' ⟨k,hk,f4,f10,f53,f54,f55,g10,gob,g4,hx⟩;refine BB f54 f55 ?_;refine BO ?_ ?_<;>intro hc
  .have hk':k<parts L-1:=BM hc
   have ik:IM 4 H' (.own ob 1 (parts L-1)) (.n (k:Nat))=some (.ptr ob (k+1) 0):=by rw[GM gob hk',Nat.add_comm]
   have s12:=rF H' (JD (cpE e) (part L (k+1))) EX rfl;have q10:=AO (x:=yE 4 [A8 (JD (cpE e) (part L (k+1)))]) g10;have q12:=PO (AX H' (yE 4 [A8 (JD (cpE e) (part L (k+1)))]));have lb10:=AC g10
   have s10:DU jA (H'++[yE 4 [A8 (JD (cpE e) (part L (k+1)))]]) 79 (.ptr b10 0 0) (.agg [.n 20,.n 0,.str ⟨#[]⟩,.sl .full 4 [A8 (NK (cpE e) L k),A8 (JD (cpE e) (part L (k+1)))]])=some ((H'++[yE 4 [A8 (JD (cpE e) (part L (k+1)))]]).set b10 (yE 4 [A8 (NK (cpE e) L (k+1))])):=by
    have:=Q5 (e:=NK (cpE e) L (k+1)) q10 (EG _);change DU _ _ _ _ (.agg (A8 (orE (NK (cpE e) L k) (JD (cpE e) (part L (k+1))))))=some (List.set _ _ (yE 4 [A8 (orE (NK (cpE e) L k) (JD (cpE e) (part L (k+1))))])) at this;show _=some (List.set _ _ (yE 4 [A8 (orE (NK (cpE e) L k) (JD (cpE e) (part L (k+1))))]))
    rw[AJ4] at this|-
    exact this
   simp only[vQ,JH,jY,jS,jV,zO,OW,CP,NZ,F6,↓reduceIte,jC,enP,PZ,jQ,f10,f53,f55,ik,hld H' (k+1) gob U,RQ,s12,PO q10,q12,gV,A11,s10,DC k];exact⟨n-1,U,k+1,U,AL,AL,AL,AL,AL,CV q10,C9 (AO gob) U,C9 (AO g4) U,(hx.app _).set U _⟩
  .have hk':k=parts L-1:=by have:¬k<parts L-1:=BM hc
                            omega
   subst hk';simp only[vQ,jY,jS,jV,zO,UD,fA,YX,sY,CP,↓reduceIte,jC,enP,jQ,f4,f10,PO g10,Q5 g4 rfl];rw[JM (b:=b4) (EI f4) (PO (CV g4))];refine⟨hx.set U _,?_⟩;rw[YK e L hL0,FI];rfl
end
end Go.Proofs.YtiihpnicbekebaaGreatDoor.Ho
namespace Go.Proofs.YtiihpnicbekebaaGreatDoor.Bd.Cl
open Sm Bins Cov Xe Wd Bl Ho Go.RowKit
variable {ws:List Wg} {k:Nat}
def JK (n:ByteArray):Ex:=.mk 2 0 n .nil []
def OU (n:ByteArray):List AV:=[.n 2,.n 0,.str n,.sl .nil 0 []]
theorem AA1 (n:ByteArray):CvRow (OU n) (A8 (JK n)):=by
 rw[FI];exact CvRow.cons rfl (Cv.refl _) (CvRow.cons rfl (Cv.refl _) (CvRow.cons rfl (Cv.refl _) (CvRow.cons rfl (Cv.nil 0 4) CvRow.nil)))
abbrev Iv:=Sum ByteArray Ex
def tO:Iv->List AV
 | .inl n=>OU n
 | .inr e=>A8 e
def AX7:Iv->Ex
 | .inl n=>JK n
 | .inr e=>e
theorem ASL:∀x:Iv,CvRow (tO x) (A8 (AX7 x))
 | .inl n=>AA1 n
 | .inr e=>CvRow.refl fun v hv=>by
   have:=VQ e;rw[List.all_eq_true] at this;exact this v hv
theorem A7E:Frz tO:=fun n h d x=>by
 cases x with
 | inl k=>exact⟨rfl,rfl⟩
 | inr e=>exact Ho.frzEx n h d e
def ivL (n:ByteArray)(l:List Rng):List Iv:=.inl n::(cEs l).map .inr
theorem A3M (n:ByteArray)(l:List Rng):(ivL n l).map AX7=insL (JK n) l:=by
 unfold ivL insL;rw[List.map_cons,qQ];show JK n::(cEs l).map (AX7 ∘ .inr)=_;rw[show(AX7 ∘ Sum.inr:Ex->Ex)=id from rfl,List.map_id]
def ivW (n:ByteArray)(l:List Rng):List AV:=[.n 23,.n 0,.str ⟨#[]⟩,.sl .any 4 ((ivL n l).map tO)]
theorem A3L (n:ByteArray)(l:List Rng):CvR (.agg (ivW n l)) (.agg (A8 (JD (JK n) l))):=by
 rw[ADG,<-A3M,qQ];exact CvR.agg (CvRL.cons (CvR.refl _) (CvRL.cons (CvR.refl _) (CvRL.cons (CvR.refl _) (CvRL.cons (CvR.sl (Cv.map fun x _=>ASL x)) CvRL.nil))))
theorem AZ3 (n:ByteArray):I5 jA 79 [(0,.n 2),(2,.str n)]=some (.agg (OU n)):=AZ
theorem BBC (h:Hp)(n:ByteArray):DF jA true h 23 1 [(0,.agg (OU n))]=some (.own h.length 0 1,h++[yE 4 [OU n]]):=AZ
section
variable (G:Nat->AV)
theorem YF (n:Int)(h:Hp):PCall (En G) 257 [.n n] h (.agg (A8 (cE n))):=by
 refine PCall.res ?_ (pA n);refine X8 3 (fun n H=>rfl) ?_;refine acL Tryz.func257 [.cell 2 79] ?_;have g2:=AX h (yE 4 [EX]);have s2:=XA (cs:=pB 1 n) g2 rfl rfl rfl;refine BB RQ @ALW ?_;rw[show([AV.int .i64 0,.n 0,.str ⟨#[]⟩,.sl .nil 0 []]:List AV)=EX from rfl];refine A7 s2 ?_;rw[JM (b:=h.length) AQ (KZ (CV g2) rfl)];exact⟨rfl,((ext.rfl' h).app _).set (jF _) _⟩
theorem iS (nm:ByteArray)(l:List Rng)(s:SM)(hl:l.length<=1048576)(h:Hp):PCall (En G) 258 [.str nm,.sl s 2 (l.map encR)] h (.agg (A8 (JD (JK nm) l))):=by
 refine PCall.res (r:=.agg (ivW nm l)) ?_ (A3L nm l);refine ACalls.pure (R:=fun v H=>Sm.ext h H/\FH h.length H 4 v=.agg (ivW nm l)) 4 ?_ (fun v H ⟨a,b⟩=>⟨a,b⟩);refine IP (H:=hint [10,25] []) (enM G) Tryz.func258 rfl (by kernel_rfl) (by kernel_rfl) (jB (by kernel_rfl)) ?_;show awp _ _ _ _ _ (L6 _ [.cell 4 79] _);have g4:=AO (x:=yE 4 [OU nm]) (AX h (yE 4 [EX]));have g5:=AX (h++[yE 4 [EX]]) (yE 4 [OU nm]);have hx:Sm.ext h (h++[yE 4 [EX]]++[yE 4 [OU nm]]):=((ext.rfl' h).app _).app _
 have ho:outG 4 tO (h++[yE 4 [EX]]) (ivL nm (l.take 0)) (.own (h++[yE 4 [EX]]).length 0 1) (h++[yE 4 [EX]]++[yE 4 [OU nm]]) :=
  .inr ⟨List.cons_ne_nil _ _,_,jF _,by rw[qI];rfl,by rw[qI];exact g5⟩
 have hlh:h.length<(h++[yE 4 [EX]]).length:=BA;have hxx:Sm.ext (h++[yE 4 [EX]]) (h++[yE 4 [EX]]++[yE 4 [OU nm]]):=(ext.rfl' _).app _;refine BB RQ @AZ3 ?_;rw[show([AV.int .i64 0,.n 0,.str ⟨#[]⟩,.sl .nil 0 []]:List AV)=EX from rfl];refine A7 @BBC ?_
 generalize h++[yE 4 [EX]]++[yE 4 [OU nm]]=H1 at g4 hx ho hxx|-
 generalize AV.own (h++[yE 4 [EX]]).length 0 1=u0 at ho
 generalize h++[yE 4 [EX]]=H0 at ho hlh hxx|-
 clear g5;refine EU 0 (fun F H=>∃u,F 4=.ptr h.length 0 0/\F 5=u/\H[h.length]?=some (yE 4 [EX])/\Sm.ext h H/\outG 4 tO H0 (ivL nm l) u H) (fun _ _=>False) ?_ ?_ (fun _ _ q=>q.elim)
 .refine BK (fun n F H=>∃i u,n+i=l.length/\F 4=.ptr h.length 0 0/\F 5=u/\F 11=.sl s 2 (l.map encR)/\F 12=.n (l.length:Nat)/\F 13=.n (i:Nat)/\H[h.length]?=some (yE 4 [EX])/\Sm.ext h H/\Sm.ext H0 H/\outG 4 tO H0 (ivL nm (l.take i)) u H) l.length
   ⟨0,u0,BA,AQ,AQ,AQ,AQ,AQ,g4,hx,hxx,ho⟩ ?_
  clear g4 hx hxx ho;rintro n F H ⟨i,u,hi,f4,f5,f11,f12,f13,g4,hx,hxx,ho⟩;refine BB f12 f13 ?_;refine D9 ?_ ?_<;>intro hi'
  .simp only[vQ,List.contains_cons,List.contains_nil,Nat.reduceBEq,Bool.or_false,CP,↓reduceIte,Nat.reduceEqDiff,Option.getD_some,Bool.not_false,enP,dT,Option.getD_none,f11,f13,CZ hi',DJ eQ MF YS hi',APM,AMK _ _ [.n 0,.n 0] rfl]
   have q0:BI jA (H++[yE 2 [encR l[i]]]) 3 (.ptr H.length 0 0)=some (.n l[i].lo):=by rw[D7 ag3,aO]
   have q1:BI jA (H++[yE 2 [encR l[i]]]) 3 (.ptr H.length 0 1)=some (.n l[i].hi):=by rw[D7 ag3,YT]
   have g4:=AO (x:=yE 2 [encR l[i]]) g4;have hx:=hx.app [yE 2 [encR l[i]]];have hxx:=hxx.app [yE 2 [encR l[i]]];have ho:=ho.app [yE 2 [encR l[i]]]
   generalize H++[yE 2 [encR l[i]]]=H3 at g4 hx hxx ho q0 q1|-
   have hlen:(ivL nm (l.take i)).length+2<=8388608:=by
    unfold ivL;rw[zT,jP,lN,List.length_take];omega
   obtain⟨v',H4,ha,ho2,hkeep,he2,hl2,hv2⟩:=ZE .full ho WB JE eY eM U (ys:=[.inr (cE l[i].lo),.inr (cE l[i].hi)]) hlen hxx;have ha':EQ jA true H3 23 23 u (.sl .full 4 [A8 (cE l[i].lo),A8 (cE l[i].hi)])=some (v',H4):=ha
   have hits:ivL nm (l.take i)++[.inr (cE l[i].lo),.inr (cE l[i].hi)]=ivL nm (l.take (i+1)):=by
    unfold ivL;rw[AE7 hi',qU];rfl
   rw[hits] at ho2;have nlo:∀b,isB u b->H0.length<=b:=fun b hb=>(ho.lt hb).1
   have g42:=hkeep _ _ g4 (fun q=>by have:=nlo _ q;omega);have hx4:Sm.ext h H4:=ATJ (fun k y q=>hkeep _ _ (DI hx q) (fun q'=>by have:=nlo _ q';have:=AC q;omega)) (by have:=hx.le;omega);refine D6 AZ ?_;refine BB q0 q1 ?_;refine⟨_,YF G _ _,_,YF G _ _,?_⟩
   try refine NY f4 f5 @gV ha' f13 (DC i) ?_
   exact⟨n-1,U,i+1,v',U,AL,AL,AL,AL,AL,g42,hx4,he2,ho2⟩
  .rw[List.take_of_length_le U] at ho
   refine AB ?_;exact⟨u,AL,AL,g4,hx,ho⟩
 .rintro F H ⟨u,f4,f5,g4,hx,ho⟩
  have hlf:=ho.leaf;have hlf4:([.n 23,.n 0,.str ⟨#[]⟩,u]:List AV).all AV.leaf=true:=by simp [hlf];exact⟨rfl,rfl,rfl⟩
  have bd:I5 jA 79 [(0,.n 23),(3,u)]=some (.agg [.n 23,.n 0,.str ⟨#[]⟩,u]):=by
   rcases ho with⟨e1,_⟩|⟨_,o,_,rfl,_⟩
   .exact absurd e1 (List.cons_ne_nil _ _)
   .exact A12 _ _
  refine ES f4 f5 bd (XA g4 rfl rfl hlf4) ?_;rw[JM (b:=h.length) (EI f4) (KZ (CV g4) rfl)];refine⟨hx.set (jF _) _,?_⟩;have ho4:=ho.setB (b:=h.length) hlh (yE 4 [[.n 23,.n 0,.str ⟨#[]⟩,u]]);have hz:=P6 A7E ho4 h.length 1 U;show AV.agg [.n 23,.n 0,.str ⟨#[]⟩,FH h.length _ 3 u]=.agg (ivW nm l);rw[hz];rfl
end
def Z4 (n:Int)(w:Wg):Bool:=decide (w.lo<=n)&&decide (n<=w.hi)
def RV (n:Int):List Wg->Bool
 | []=>false
 | w::ws=>if Z4 n w=true then decide (w.w>0) else RV n ws
theorem AJZ {n:Int}:∀ {ws:List Wg} {k:Nat} (hk:k<ws.length),(∀(j:Nat) (hj:j<k),Z4 n (ws[j]'U)=false)->Z4 n ws[k]=true->RV n ws=decide (ws[k].w>0)
 | [],k,hk,_,_=>by simp at hk
 | w::ws,0,_,_,h=>by
   have h:Z4 n w=true:=h;unfold RV;rw[if_pos h];rfl
 | w::ws,k+1,hk,hb,h=>by
   have h0:=hb 0 U;simp only[List.getElem_cons_zero] at h0;unfold RV;rw[if_neg (by rw[h0];decide)];exact AJZ (BM hk) (fun j hj=>by have:=hb (j+1) U;simpa using this) (BM h)
theorem AJY {n:Int}:∀ {ws:List Wg},(∀w∈ws,Z4 n w=false)->RV n ws=false
 | [],_=>rfl
 | w::ws,h=>by unfold RV;rw[if_neg (by rw[h w BA];decide)];exact AJY fun x hx=>h x (by simp [hx])
def aA (out:List Rng)(n:Int):List Rng:=match out.getLast? with
 | some r=>if r.hi=n-1 then out.dropLast++[⟨r.lo,n⟩] else out++[⟨n,n⟩]
 | none=>[⟨n,n⟩]
def SB (l:List Int):List Rng:=l.foldl aA []
theorem mP (l:List Int)(n:Int):SB (l++[n])=aA (SB l) n:=by unfold SB;rw[List.foldl_append];rfl
def UH (ws:List Wg):Nat->List Int
 | 0=>[]
 | k+1=>UH ws k++(if RV (k:Int) ws=true then [(k:Int)] else [])
theorem mY (ws:List Wg):∀k,(UH ws k).length<=k
 | 0=>jF 0
 | k+1=>by
   have:=mY ws k;simp only[UH,jX];split<;>simp<;>omega
def runs (ws:List Wg)(k:Nat):List Rng:=SB (UH ws k)
def AFE (ws:List Wg)(k:Nat):Bool:=match k with
 | 0=>false
 | k+1=>RV (k:Int) ws
theorem Y7 (ws:List Wg)(k:Nat):runs ws (k+1)=if RV (k:Int) ws=true then aA (runs ws k) k else runs ws k:=by
 unfold runs;simp only[UH];split
 .rw[mP]
 .rw[List.append_nil]
theorem fC (ws:List Wg):∀k,(AFE ws k=true->∃r,(runs ws k).getLast?=some r/\r.hi=(k:Int)-1)/\(AFE ws k=false->∀r,(runs ws k).getLast?=some r->r.hi<(k:Int)-1)
 | 0=>⟨(fun h=>by cases h),fun _ r h=>by cases h⟩
 | k+1=>by
   obtain⟨i1,i2⟩:=fC ws k;rw[Y7];constructor
   .intro h
    have h:RV (k:Int) ws=true:=h;rw[if_pos h];unfold aA
    cases hg:(runs ws k).getLast? with
    | none=>exact⟨⟨k,k⟩,rfl,by show(k:Int)=_;omega⟩
    | some r =>
      simp only;split
      .simp_all
      .simp_all
   .intro h r hr
    have h:RV (k:Int) ws=false:=h;rw[if_neg (by rw[h];decide)] at hr
    cases hb:AFE ws k with
    | true=>obtain⟨r',e1,e2⟩:=i1 hb;rw[e1] at hr;cases hr;omega
    | false=>have:=i2 hb r hr;omega
theorem AJS (hp:RV (k:Int) ws=true)(hb:AFE ws k=true):∃r,(runs ws k).getLast?=some r/\runs ws (k+1)=(runs ws k).dropLast++[⟨r.lo,k⟩]:=by
 obtain⟨r,e1,e2⟩:=(fC ws k).1 hb;refine⟨r,e1,?_⟩;rw[Y7,if_pos hp];unfold aA;rw[e1];simp only;rw[if_pos e2]
theorem ABQ (hp:RV (k:Int) ws=true)(hb:AFE ws k=false):runs ws (k+1)=runs ws k++[⟨k,k⟩]:=by
 rw[Y7,if_pos hp];unfold aA
 cases hg:(runs ws k).getLast? with
 | none=>rw[List.getLast?_eq_none_iff.1 hg];rfl
 | some r =>
   have:=(fC ws k).2 hb r hg;simp only;rw[if_neg U]
theorem AJQ (hp:RV (k:Int) ws=false):runs ws (k+1)=runs ws k:=by rw[Y7,if_neg (by rw[hp];decide)]
theorem AJR (ws:List Wg):∀k,∀r∈runs ws k,0<=r.lo/\r.lo<=r.hi/\r.hi<(k:Int)
 | 0,r,h=>by cases h
 | k+1,r,h=>by
   have ih:=AJR ws k
   cases hp:RV (k:Int) ws with
   | false=>rw[AJQ hp] at h;have:=ih r h;omega
   | true =>
     cases hb:AFE ws k with
     | false =>
       rw[ABQ hp hb] at h;rcases zK.1 h with h|h
       .have:=ih r h;omega
       .grind
     | true =>
       obtain⟨r0,e1,e2⟩:=AJS hp hb;rw[e2] at h;rcases zK.1 h with h|h
       .have:=ih r (List.dropLast_subset _ h);omega
       .grind
def AII (ws:List Wg):List Int:=0::ws.flatMap fun w=>[w.lo,w.hi+1]
theorem AUO (ws:List Wg):(AII ws).length=1+2*ws.length:=by
 unfold AII
 have:∀l:List Wg,(l.flatMap fun w=>[w.lo,w.hi+1]).length=2*l.length:=fun l=>by
  induction l with
  | nil=>rfl
  | cons a l ih=>rw[List.flatMap_cons,jX,ih];simp;omega
 rw[zT,this];omega
theorem tC {n m:Int}:∀ {ws:List Wg},(∀w∈ws,Z4 n w=Z4 m w)->RV n ws=RV m ws
 | [],_=>rfl
 | w::ws,h=>by
   unfold RV;rw[h w BA,tC fun x hx=>h x (by simp [hx])]
theorem AZ2 (hp:RV (k:Int) ws=true)(hb:AFE ws k=false):(k:Int)∈AII ws:=by
 cases k with
 | zero=>simp [AII]
 | succ k =>
   have hb:RV (k:Int) ws=false:=hb;apply Classical.byContradiction;intro hn
   have:RV ((k+1:Nat):Int) ws=RV (k:Int) ws:=tC fun w hw=>by
    unfold Z4;have h1:((k+1:Nat):Int)≠w.lo:=fun e=>hn (by unfold AII;rw[zN,List.mem_flatMap];exact .inr ⟨w,hw,by rw[e];simp⟩)
    have h2:((k+1:Nat):Int)≠w.hi+1:=fun e=>hn (by unfold AII;rw[zN,List.mem_flatMap];exact .inr ⟨w,hw,by rw[e];simp⟩)
    have e1:decide (w.lo<=((k+1:Nat):Int))=decide (w.lo<=(k:Int)):=by rw[decide_eq_decide];omega
    have e2:decide (((k+1:Nat):Int)<=w.hi)=decide ((k:Int)<=w.hi):=by rw[decide_eq_decide];omega
    rw[e1,e2]
   rw[this,hb] at hp;cases hp
theorem ACY {α:Type} [DecidableEq α]:∀ {l m:List α},l.Nodup->(∀x∈l,x∈m)->l.length<=m.length
 | [],m,_,_=>Nat.zero_le _
 | a::l,m,h,hs=>by
   have ha:a∈m:=hs a BA;rw[List.nodup_cons] at h;have ih:=ACY (m:=m.erase a) h.2 fun x hx=>(List.mem_erase_of_ne (fun e=>h.1 (by rw[<-e];exact hx))).2 (hs x (by simp [hx]))
   rw[List.length_erase_of_mem ha] at ih;have:=List.length_pos_of_mem ha;simp;omega
theorem mI (ws:List Wg):∀k,((runs ws k).map Rng.lo).Nodup/\∀x∈(runs ws k).map Rng.lo,x∈AII ws/\x<(k:Int)
 | 0=>⟨List.nodup_nil,fun x h=>by cases h⟩
 | k+1=>by
   obtain⟨i1,i2⟩:=mI ws k
   cases hp:RV (k:Int) ws with
   | false=>rw[AJQ hp];exact⟨i1,fun x hx=>⟨(i2 x hx).1,by have:=(i2 x hx).2;omega⟩⟩
   | true =>
     cases hb:AFE ws k with
     | false =>
       rw[ABQ hp hb,qU];refine⟨List.nodup_append.2 ⟨i1,BA,fun a ha b hbm=>?_⟩,fun x hx=>?_⟩
       .grind
       .rcases zK.1 hx with h|h
        .grind
        .have e:x=(k:Int):=BM h
         rw[e];exact⟨AZ2 hp hb,U⟩
     | true =>
       obtain⟨r,e1,e2⟩:=AJS hp hb
       have hm:(runs ws k).dropLast++[r]=runs ws k:=by
        obtain⟨hne,hl⟩:∃h:runs ws k≠[],(runs ws k).getLast h=r:=by
         cases hq:runs ws k with
         | nil=>rw[hq] at e1;cases e1
         | cons a l=>rw[hq] at e1;exact⟨BA,by rw[List.getLast?_eq_some_getLast BA] at e1;exact Option.some.inj e1⟩
        rw[<-hl];exact List.dropLast_concat_getLast hne
       have e3:(runs ws (k+1)).map Rng.lo=(runs ws k).map Rng.lo:=by grind
       rw[e3];exact⟨i1,fun x hx=>⟨(i2 x hx).1,by have:=(i2 x hx).2;omega⟩⟩
theorem AQZ (ws:List Wg)(k:Nat):(runs ws k).length<=1+2*ws.length:=by
 have h:=ACY (mI ws k).1 fun x hx=>((mI ws k).2 x hx).1
 rw[jP,AUO] at h;exact h
def rD (nm:ByteArray)(R:List Rng):Ex:=if R=[] then cE 0 else NK (JK nm) R (parts R-1)
def AA6 (p:Pr)(d:Ds):Ex:=match p.vars[d.var.toNat]? with
 | some v=>rD v.name (runs d.ws (2^v.width.toNat))
 | none=>cE 0
def WC (p:Pr):List Ex:=p.dists.map (AA6 p)
end Go.Proofs.YtiihpnicbekebaaGreatDoor.Bd.Cl
namespace Go.Proofs.YtiihpnicbekebaaGreatDoor.Ho
open Sm Bins Cov Go.RowKit
def EE (e:Ex)(l:List Rng):Ex:=SQ e (normal l)
def notE (e:Ex):Ex:=.mk 4 0 ⟨#[]⟩ .full [e]
def F7 (b:Bin):List Rs:=if b.ranges.l=[] then b.steps else [b.ranges]
def ARV (x:Option Ex)(c:List (List Ex)):List (List Ex):=match x with
 | none=>c
 | some y=>c.set (c.length-1) (c[c.length-1]?.getD []++[notE y])
def badO (ins:Ex->List Rng->Ex)(p:Pt):Option Ex:=if KG p.bins=[] then none else some (ins p.ex (KG p.bins))
def TZ (ins:Ex->List Rng->Ex)(p:Pt)(b:Bin):List (List Ex):=ARV (badO ins p) ((F7 b).map fun s=>[ins p.ex s.l])
def OZ (cs:List (List (List Ex))):Nat:=cs.foldl (fun n c=>max n c.length) 0
def rowC (n t:Nat)(c:List (List Ex)):List Ex:=if n-c.length<=t then c[t-(n-c.length)]?.getD [] else []
def rowA (n:Nat)(cs:List (List (List Ex)))(t:Nat):List Ex:=cs.flatMap (rowC n t)
def J8 (cs:List (List (List Ex))):List (List Ex):=(List.range (OZ cs)).map (rowA (OZ cs) cs)
theorem AKM:∀(cs:List (List (List Ex))) (a:Nat),a<=cs.foldl (fun n c=>max n c.length) a/\∀c∈cs,c.length<=cs.foldl (fun n c=>max n c.length) a
 | [],a=>⟨Nat.le_refl _,fun c hc=>by cases hc⟩
 | x::cs,a=>by
   obtain⟨h1,h2⟩:=AKM cs (max a x.length);rw[qW];refine⟨U,fun c hc=>?_⟩;rcases List.mem_cons.1 hc with rfl|hc
   .omega
   .exact h2 c hc
theorem dP {cs:List (List (List Ex))}{c:List (List Ex)}(h:c∈cs):c.length<=OZ cs:=(AKM cs 0).2 c h
theorem WP:∀(cs:List (List (List Ex))) (a b:Nat),a<=b->(∀c∈cs,c.length<=b)->cs.foldl (fun n c=>max n c.length) a<=b
 | [],_,_,h,_=>h
 | x::cs,a,b,h,h2=>by
   rw[qW];exact WP cs _ b (by have:=h2 x BA;omega) fun c hc=>h2 c (by simp [hc])
theorem ANX (cs:List (List (List Ex)))(k:Nat)(hk:k<cs.length):OZ (cs.take (k+1))=max (OZ (cs.take k)) cs[k].length:=by
 unfold OZ;rw[List.take_succ_eq_append_getElem hk,List.foldl_append];rfl
theorem AC1 (x:Option Ex)(c:List (List Ex)):(ARV x c).length=c.length:=by cases x<;>simp [ARV]
end Go.Proofs.YtiihpnicbekebaaGreatDoor.Ho
namespace Go.Proofs.YtiihpnicbekebaaGreatDoor.Bins
open Sm
variable {xs:List Rng}
def inI (r:Rng):Prop:=(-9223372036854775808<=r.lo/\r.lo<=9223372036854775807)/\-9223372036854775808<=r.hi/\r.hi<=9223372036854775807
structure Inv (ps out:List Rng):Prop where
 f:∀r∈out,full r=true/\inI r
 pw:out.Pairwise (fun a b=>a.lo<=b.lo)
 gap:∀(i:Nat) (a b:Rng),out[i]?=some a->out[i+1]?=some b->glue a b=false
 ins:∀v,inside out v=inside ps v
 low:∀r∈out,∃p∈ps,r.lo=p.lo
theorem LH (xs ys:List Rng)(v:Int):inside (xs++ys) v=(inside xs v||inside ys v):=by simp [inside]
theorem AHO {t r:Rng}(ht:full t=true/\inI t)(hr:full r=true/\inI r)(hlo:t.lo<=r.lo)(hg:glue t r=true)(v:Int):
  (decide (t.lo<=v)&&decide (v<=max t.hi r.hi))=((decide (t.lo<=v)&&decide (v<=t.hi))||(decide (r.lo<=v)&&decide (v<=r.hi))):=by
 obtain⟨h1,⟨h2,h3⟩,h4,h5⟩:=ht;obtain⟨k1,⟨k2,k3⟩,k4,k5⟩:=hr;simp only[full,decide_eq_true_eq] at h1 k1
 have hg':r.lo<=t.hi+1:=by
  simp only[glue,qN,decide_eq_true_eq] at hg;rcases hg with hg|hg
  .omega
  .rcases (U : -9223372036854775808<r.lo\/r.lo<=-9223372036854775808) with h|h
   .rw[wrap_i64 U U] at hg;omega
   .omega
 rw[wL];simp only[jM,qN,decide_eq_true_eq];omega
theorem Inv.step {ps out:List Rng}(h:Inv ps out){r:Rng}(hr:full r=true/\inI r)(hlo:∀p∈ps,p.lo<=r.lo):Inv (ps++[r]) (join out r):=by
 have hall:∀x∈out,x.lo<=r.lo:=fun x hx=>by obtain⟨p,hp,e⟩:=h.low x hx;have:=hlo p hp;omega
 have hone:∀v,inside [r] v=(decide (r.lo<=v)&&decide (v<=r.hi)):=fun v=>by simp [inside]
 have plain:(∀t,out.getLast?=some t->glue t r=false)->Inv (ps++[r]) (out++[r]):=by
  intro hng;refine⟨?_,?_,?_,?_,?_⟩
  .intro x hx
   rw[zK] at hx;rcases hx with hx|hx
   .exact h.f x hx
   .simp at hx;subst hx;exact hr
  .rw[List.pairwise_append]
   exact⟨h.pw,BA,fun a ha b hb=>by simp at hb;subst hb;exact hall a ha⟩
  .intro i a b ha hb
   rcases zB (i+1) out.length with h1|h1
   .rw[qM U] at ha hb
    exact h.gap i a b ha hb
   .grind
  .intro v;rw[LH,LH,h.ins]
  .intro x hx
   rw[zK] at hx;rcases hx with hx|hx
   .obtain⟨p,hp,e⟩:=h.low x hx;exact⟨p,by simp [hp],e⟩
   .simp_all
 unfold join
 cases hl:out.getLast? with
 | none=>exact plain (fun t ht=>by rw[hl] at ht;cases ht)
 | some t =>
   obtain⟨ini,rfl⟩:∃ini,out=ini++[t]:=by
    obtain⟨ini,hi⟩:=List.getLast?_eq_some_iff.1 hl;exact⟨ini,hi⟩
   cases hg:glue t r with
   | false=>simp only[hg,Bool.false_eq_true,if_false];exact plain (fun t' ht'=>by rw[hl] at ht';cases ht';exact hg)
   | true =>
     simp only[hg,if_true,List.dropLast_concat];have ht:=h.f t BA;have htl:=hall t BA
     have hft:full ⟨t.lo,max t.hi r.hi⟩=true:=by
      have h1:=ht.1
      simp only[full,decide_eq_true_eq] at h1|-
      omega
     refine⟨?_,?_,?_,?_,?_⟩
     .intro x hx
      rw[zK] at hx;rcases hx with hx|hx
      .exact h.f x (by simp [hx])
      .simp at hx;subst hx
       refine⟨hft,?_⟩;obtain⟨_,⟨h2,h3⟩,h4,h5⟩:=ht;obtain⟨_,⟨k2,k3⟩,k4,k5⟩:=hr;exact⟨⟨h2,h3⟩,by show _<=max t.hi r.hi;omega,by show max t.hi r.hi<=_;omega⟩
     .have hp:=h.pw
      rw[List.pairwise_append] at hp|-
      exact⟨hp.1,BA,fun a ha b hb=>by simp at hb;subst hb;exact hp.2.2 a ha t BA⟩
     .intro i a b ha hb
      rcases zB (i+1) ini.length with h1|h1
      .rw[qM U] at ha hb
       exact h.gap i a b (by rw[qM U];exact ha) (by rw[qM U];exact hb)
      .have h2:i+1=ini.length:=by
        have:=AC hb;simp at this;omega
       rw[wS h1,h2] at hb;rw[qM U] at ha;simp at hb;subst hb;have:=h.gap i a t (by rw[qM U];exact ha) (by rw[wS h1,h2];simp)
       unfold glue at this|-
       exact this
     .intro v
      rw[LH,LH,<-h.ins,LH,hone,Bool.or_assoc];congr 1;have:=AHO ht hr htl hg v;simp only[inside,List.any_cons,List.any_nil,Bool.or_false];exact this
     .intro x hx
      rw[zK] at hx;rcases hx with hx|hx
      .obtain⟨p,hp,e⟩:=h.low x (by simp [hx]);exact⟨p,by simp [hp],e⟩
      .simp at hx;subst hx
       obtain⟨p,hp,e⟩:=h.low t BA;exact⟨p,by simp [hp],e⟩
theorem Inv.fold:∀(xs ps out:List Rng),Inv ps out->(ps++xs).Pairwise (fun a b=>a.lo<=b.lo)->(∀r∈xs,full r=true/\inI r)->Inv (ps++xs) (xs.foldl join out)
 | [],ps,out,h,_,_=>BM h
 | x::xs,ps,out,h,hp,hf=>by
   have e:ps++x::xs=(ps++[x])++xs:=BA
   rw[e] at hp|-
   have hp1:=(List.pairwise_append.1 hp).1;exact Inv.fold xs (ps++[x]) (join out x) (h.step (hf x BA) fun p hp2=>(List.pairwise_append.1 hp1).2.2 p hp2 x BA) hp (fun r hr=>hf r (by simp [hr]))
theorem AG2 (hx:∀r∈xs,inI r):Inv ((xs.filter full).mergeSort gS) (normal xs):=by
 have hs:((xs.filter full).mergeSort gS).Pairwise (fun a b=>a.lo<=b.lo):=by
  have:=List.pairwise_mergeSort (le:=gS) (fun a b c h1 h2=>by simp [gS] at *;omega) (fun a b=>by simp [gS];omega) (xs.filter full);exact this.imp fun {a b} h=>by simpa [gS] using h
 have:=Inv.fold ((xs.filter full).mergeSort gS) [] [] ⟨BA,.nil,BA,fun _=>rfl,BA⟩ (BM hs) (fun r hr=>by
  rw[List.mem_mergeSort,List.mem_filter] at hr
  exact⟨hr.2,hx r hr.1⟩)
 unfold normal ZJ;simpa using this
theorem ADA {ys:List Rng}(h:xs.Perm ys)(v:Int):inside xs v=inside ys v:=by
 unfold inside;rw[wL,qL,qL];exact⟨fun⟨r,h1,h2⟩=>⟨r,h.mem_iff.1 h1,h2⟩,fun⟨r,h1,h2⟩=>⟨r,h.mem_iff.2 h1,h2⟩⟩
theorem ADB (xs:List Rng)(v:Int):inside (xs.filter full) v=inside xs v:=by
 unfold inside;rw[wL,qL,qL];constructor
 .grind
 .rintro⟨r,h1,h2⟩
  refine⟨r,List.mem_filter.2 ⟨h1,?_⟩,h2⟩;simp only[jM,decide_eq_true_eq] at h2;simp only[full,decide_eq_true_eq];omega
theorem rM (hx:∀r∈xs,inI r)(v:Int):inside (normal xs) v=inside xs v:=by
 rw[(AG2 hx).ins,ADA (List.mergeSort_perm _ _),ADB]
end Go.Proofs.YtiihpnicbekebaaGreatDoor.Bins
namespace Go.Proofs.YtiihpnicbekebaaGreatDoor.Ho
open Sm Bins Cov Go.RowKit
variable {b:Bin} {p:Pt} {H h:Hp} {v:Nat->AV} {N n t:Nat} {c:List (List Ex)} {e:Ex}
theorem bD (b:Bin):sets b=F7 b:=by
 unfold sets F7
 cases h:b.ranges.l with
 | nil=>rfl
 | cons x xs=>rw[if_pos BA,if_neg BA]
structure VB (b:Bin):Prop where
 one:b.steps=[]\/b.ranges.l=[]
 ne:F7 b≠[]
 few:(F7 b).length<=8
 k0:0<=b.kind
 k2:b.kind<=2
 sk:b.kind≠0->b.steps=[]
 each:∀s∈F7 b,s.l≠[]/\s.l.length<=64/\∀r∈s.l,0<=r.lo/\r.lo<=r.hi/\r.hi<=65535
theorem A5M (h:IQ b=0):VB b:=by
 unfold IQ at h;split at h
 case isFalse=>cases h
 split at h
 case isTrue=>cases h
 rename_i h1 h2;split at h
 case isTrue=>cases h
 rename_i h3;split at h
 case isTrue=>cases h
 rename_i h4;split at h
 case isTrue=>cases h
 rename_i h5;have h2':OX b=false:=BM h2;unfold OX at h2';simp only[wB,decide_eq_false_iff_not,Bool.and_eq_false_iff] at h2';obtain⟨⟨⟨⟨⟨q1,q2⟩,q3⟩,q4⟩,q5⟩,q6⟩:=h2'
 have hst:∀s∈b.steps,s.l≠[]:=fun s hs e=>by
  have:b.steps.any (fun l=>decide (l.l.length=0))=true:=qL.2 ⟨s,hs,by rw[e];rfl⟩;exact h3 this
 have h64:∀s∈sets b,s.l.length<=64:=fun s hs=>by
  rcases Nat.lt_or_ge 64 s.l.length with q|q
  .simp_all
  .exact q
 have hbad:∀s∈sets b,∀r∈s.l,bad r=false:=fun s hs r hr=>by
  cases hb:bad r with
  | false=>rfl
  | true=>exact absurd (qL.2 ⟨s,hs,qL.2 ⟨r,hr,hb⟩⟩) h5
 have hone:b.steps=[]\/b.ranges.l=[]:=by
  rcases Classical.em (b.steps=[]) with q|q
  .exact .inl q
  .refine .inr ?_
   have l1:0<b.steps.length:=qX.2 q;rcases Classical.em (b.ranges.l=[]) with r|r
   .exact r
   .simp_all
 have hne:b.steps≠[]\/b.ranges.l≠[]:=by grind
 rw[bD] at h64 hbad;refine⟨hone,?_,?_,U,U,fun hk=>?_,fun s hs=>⟨?_,h64 s hs,fun r hr=>?_⟩⟩
 .unfold F7
  split
  .simp_all
  .exact List.cons_ne_nil _ _
 .unfold F7
  split
  .simp at q6;omega
  .simp
 .simp_all
 .unfold F7 at hs
  split at hs
  .exact hst s hs
  .simp_all
 .have:=hbad s hs r hr
  unfold bad at this;simp only[wB,decide_eq_false_iff_not] at this;omega
structure VP (p:Pt):Prop where
 n1:1<=p.bins.length
 n64:p.bins.length<=64
 ex:exE p.ex=0
 bins:∀b∈p.bins,VB b
theorem A5L (h:I4 p=0):VP p:=by
 obtain⟨h1,h2⟩:=iO h;unfold I4 at h;split at h
 .cases h
 split at h
 .rename_i q;exact absurd h q
 rename_i q1;split at h
 .cases h
 split at h
 .cases h
 split at h
 .rename_i q;exact absurd h q
 rename_i q2;exact⟨h1,h2,BM q1,fun b hb=>A5M (P5 _ (BM q2) b hb)⟩
theorem lV {m:Mo}(h:FQ m=0):∀p∈m.pts,VP p:=by
 unfold FQ at h;split at h
 .cases h
 split at h
 .rename_i q;exact absurd h q
 rename_i q;exact fun p hp=>A5L (P5 _ (BM q) p hp)
theorem pL {n:Nat}:∀ {l:List Bin},(∀b∈l,b.kind≠0->b.ranges.l.length<=n)->(KG l).length<=n*l.length
 | [],_=>by simp [KG]
 | b::l,h=>by
   have ih:=pL (l:=l) fun b hb=>h b (by simp [hb])
   show((if b.kind≠0 then b.ranges.l else [])++KG l).length<=n*(l.length+1);rw[jX,Nat.mul_add];by_cases hk:b.kind≠0
   .grind
   .rw[if_neg hk,zW];omega
theorem VB.ranges {b:Bin}(v:VB b)(hk:b.kind≠0):F7 b=[b.ranges]:=by
 rcases Classical.em (b.ranges.l=[]) with q|q
 .have h1:=setsB_nil' q
  have h2:=v.ne;rw[h1,v.sk hk] at h2;exact absurd rfl h2
 .unfold F7;rw[if_neg q]
 where setsB_nil' {b:Bin} (h:b.ranges.l=[]):F7 b=b.steps:=by unfold F7;rw[if_pos h]
theorem VP.badLen (v:VP p):(KG p.bins).length<=4096:=by
 have:=pL (n:=64) (l:=p.bins) fun b hb hk=>((v.bins b hb).each b.ranges (by rw[(v.bins b hb).ranges hk];simp)).2.1
 have:=v.n64;omega
theorem AFF {r:Rng}:∀ {l:List Bin},r∈KG l->∃b∈l,b.kind≠0/\r∈b.ranges.l
 | b::l,h=>by
   rcases List.mem_append.1 (show r∈(if b.kind≠0 then b.ranges.l else [])++KG l from h) with h|h
   .simp_all
   .obtain⟨b',h1,h2⟩:=AFF h;exact⟨b',by simp [h1],h2⟩
theorem VP.badOk (v:VP p):∀r∈KG p.bins,0<=r.lo/\r.lo<=r.hi/\r.hi<=65535:=fun r hr=>by
 obtain⟨b,hb,hk,hr⟩:=AFF hr;exact((v.bins b hb).each b.ranges (by rw[(v.bins b hb).ranges hk];simp)).2.2 r hr
theorem iP {xs:List Rng}(h:∀r∈xs,0<=r.lo/\r.lo<=r.hi/\r.hi<=65535)(v:Int):inside (normal xs) v=inside xs v:=rM (fun r hr=>by have:=h r hr;unfold inI;omega) v
theorem ANN {xs:List Rng}(h:∀r∈xs,0<=r.lo/\r.lo<=r.hi/\r.hi<=65535)(hx:xs≠[]):normal xs≠[]:=by
 intro e
 cases xs with
 | nil=>exact hx rfl
 | cons r rs =>
   have h1:=iP h r.lo;rw[e] at h1;have h2:inside (r::rs) r.lo=true:=qL.2 ⟨r,BA,by have:=h r BA;simp;omega⟩;rw[h2] at h1;cases h1
def encX (l:List Ex):List AV:=A1R ⟨.any,l⟩
def rowF (x:Ex):List AV:=[.sl .full 4 [A8 x]]
def MG (X:List Ex):Ex:=X[X.length-1]?.getD (cE 0)
def ABZ (X:List Ex):Option Ex->List (List AV)
 | none=>X.map rowF
 | some y=>(X.map rowF).set (X.length-1) [.sl .any 4 [A8 (MG X),A8 (notE y)]]
theorem AMU (X:List Ex)(y:Option Ex):(ABZ X y).length=X.length:=by cases y<;>simp [ABZ]
theorem AJT (x:Ex):CvRow (rowF x) (encX [x]):=CvRow.cons rfl (Cv.any BA 4 _) CvRow.nil
theorem AQ2 (X:List Ex)(y:Option Ex):Cv (.sl .any 1 (ABZ X y)) (.sl .any 1 ((ARV y (X.map fun x=>[x])).map encX)):=by
 refine Cv.rows (by rw[jP,AC1,jP,AMU]) fun i r r' h1 h2=>?_
 cases y with
 | none =>
   change ((X.map fun x=>[x]).map encX)[i]?=some r' at h2;change (X.map rowF)[i]?=some r at h1;rw[qQ,jW] at h2;rw[jW] at h1
   cases hx:X[i]? with
   | none=>rw[hx] at h1;cases h1
   | some x =>
     rw[hx] at h1 h2;cases h1;cases h2;exact AJT x
 | some y =>
   change (((X.map fun x=>[x]).set ((X.map fun x=>[x]).length-1) ((X.map fun x=>[x])[(X.map fun x=>[x]).length-1]?.getD []++[notE y])).map encX)[i]?=some r' at h2;change ((X.map rowF).set (X.length-1) [.sl .any 4 [A8 (MG X),A8 (notE y)]])[i]?=some r at h1;have hi:i<X.length:=by have:=AC h1;simpa using this
   rw[zQ] at h1;rw[jW,zQ] at h2;by_cases e:X.length-1=i
   .have hl:(X.map fun x=>[x])[X.length-1]?.getD []=[MG X]:=by
     unfold MG;rw[jW,jI U];rfl
    rw[if_pos e,if_pos (by simpa using U)] at h1;rw[jP,if_pos e,if_pos U,hl] at h2;cases h1;cases h2;exact CvRow.cons rfl (Cv.refl _) CvRow.nil
   .rw[if_neg e] at h1
    rw[jP,if_neg e,jW] at h2;rw[jW,jI hi] at h1;rw[jI hi] at h2;cases h1;cases h2;exact AJT _
theorem AN1 {X:List Ex}(h:X≠[]):X[X.length-1]?=some (MG X):=by
 have:0<X.length:=qX.2 h;unfold MG;rw[jI U];rfl
theorem AK1:Frz rowF:=fun _ _ _ _=>⟨rfl,rfl⟩
theorem AOL {n:Nat}{H:Hp}{ob nb:Nat}{X:List Ex}{y:Ex}(h1:n<=ob)(h2:n<=nb)(_:X≠[])(g:H[ob]?=some (yE 1 ((X.map rowF).set (X.length-1) [.own nb 0 2])))
  (gn:H[nb]?=some (yE 4 [A8 (MG X),A8 (notE y)])):FH n H 4 (.own ob 0 X.length)=.sl .any 1 (ABZ X (some y)):=by
 have e2:FH n H 3 (.own nb 0 2)=.sl .any 4 [A8 (MG X),A8 (notE y)]:=frz_own (f:=A8) (xs:=[MG X,notE y]) (d:=1) frzEx h2 gn;rw[Cov.frzF_own n H 3 ob 0 X.length 1 _ U g,zU,jJ BA,List.map_set,jK,jL,e2,frz_rows AK1 n H 2 X];rw[if_pos]
 .rfl
 refine⟨BA,?_⟩;rw[zL];intro row hr;rcases List.mem_or_eq_of_mem_set hr with hr|rfl
 .obtain⟨x,_,rfl⟩:=zH.1 hr;rfl
 .rfl
structure BdB (p:Pt) (b:Bin):Prop where
 hs:F7 b≠[]
 hl:(F7 b).length<=1048576
 hr:∀s∈F7 b,s.l.length<=1048576
 hb:(KG p.bins).length<=1048576
 hn:p.bins.length<=1048576
 hw:wt p.ex<=1048576
theorem BBE (h:Hp)(m:SM)(xs:List (List AV)):DF jA false h 85 1 [(0,.sl m 2 xs)]=some (.sl .full 1 [[.sl m 2 xs]],h):=AZ
theorem A4X (h:Hp)(a b:Int)(s:ByteArray)(m:SM)(xs:List (List AV)):DF jA false h 23 1 [(0,.agg [.n a,.n b,.str s,.sl m 4 xs])]=some (.sl .full 4 [[.n a,.n b,.str s,.sl m 4 xs]],h):=AZ
theorem uO (h:Hp)(e:Ex):DF jA false h 23 1 [(0,.agg (A8 e))]=some (.sl .full 4 [A8 e],h):=by
 rw[FI];exact A4X h _ _ _ _ _
theorem A1Z (h:Hp)(m:SM)(xs:List (List AV)):DF jA false h 100 1 [(0,.sl m 4 xs)]=some (.sl .full 1 [[.sl m 4 xs]],h):=AZ
theorem A8O (xs:List (List AV)):I5 jA 79 [(0,.n 4),(3,.sl .full 4 xs)]=some (.agg [.n 4,.n 0,.str ⟨#[]⟩,.sl .full 4 xs]):=AZ
theorem ARN (e:Ex):A8 (notE e)=[.n 4,.n 0,.str ⟨#[]⟩,.sl .full 4 [A8 e]]:=by rw[FI];rfl
theorem A6Y {b:Nat}{x:Bin}(hb:H[b]?=some (yE 4 [GG x])):BI jA H 85 (.ptr b 0 3)=some (.sl x.sm 1 (x.steps.map encS)):=by
 rw[BC XO hb (row:=GG x) rfl,ALJ]
theorem BAO {b:Nat}(hb:H[b]?=some (yE 6 [FK p])):BI jA H 82 (.ptr b 0 0)=some (.agg (FK p)):=by
 rw[ED lB bA hb rfl (by rw[H9];exact jF 6),zU,<-H9 p,List.take_length]
theorem AMP (h:b.ranges.l=[]):F7 b=b.steps:=by unfold F7;rw[if_pos h]
theorem AGL (h:b.ranges.l≠[]):F7 b=[b.ranges]:=by unfold F7;rw[if_neg h]
section
variable (G:Nat->AV)
theorem oZ (p:Pt)(k:Nat)(hk:k<p.bins.length)(B:BdB p p.bins[k])(h:Hp):PCall (En G) 93 [.agg (FK p),.n (k:Nat)] h (.sl .any 1 ((TZ EE p p.bins[k]).map encX)):=by
 have hcv:=AQ2 ((F7 p.bins[k]).map fun s=>EE p.ex s.l) (badO EE p);have hcl:(((F7 p.bins[k]).map fun s=>EE p.ex s.l).map fun x=>[x])=(F7 p.bins[k]).map fun s=>[EE p.ex s.l]:=by rw[qQ];rfl
 rw[hcl] at hcv;refine PCall.res ?_ (CvR.sl hcv);clear hcv hcl;refine ACalls.pure (R:=fun v H=>Sm.ext h H/\FH h.length H 4 v=.sl .any 1 (ABZ ((F7 p.bins[k]).map fun s=>EE p.ex s.l) (badO EE p))) 4 ?_ (fun v H ⟨a,b⟩=>⟨a,b⟩);have hb1:=B.hs;have hb2:=B.hl;have hb3:=B.hr;have hb4:=B.hb;have hb5:=B.hn;have hb6:=B.hw;refine IP (H:=hint [61] []) (enM G) Tryz.func93 rfl (by kernel_rfl) (by kernel_rfl) (jB (by kernel_rfl)) ?_;show awp _ _ _ _ _ (L6 _ [.tmp 4] _);have gp:=AO (x:=yE 4 [GG p.bins[k]]) (AX h (yE 6 [FK p]));have gb:=AX (h++[yE 6 [FK p]]) (yE 4 [GG p.bins[k]]);have hx:Sm.ext h (h++[yE 6 [FK p]]++[yE 4 [GG p.bins[k]]]):=((ext.rfl' h).app _).app _;simp only[vQ,jY,jS,jV,zO,CP,WY,TB,↓reduceIte,jC,enP,fO,OQ,AHV,jQ,A79,A6X (AX h (yE 6 [FK p])),CZ hk,DJ lA aZ LC hk,al79,st79 _ _ [.str ⟨#[]⟩,.n 0,.sl .nil 0 [],.sl .nil 0 []] rfl]
 generalize h++[yE 6 [FK p]]++[yE 4 [GG p.bins[k]]]=H0 at gp gb hx|-
 generalize (h++[yE 6 [FK p]]).length=b5 at gb|-
 generalize p.bins[k]=b at gb hb1 hb2 hb3|-
 refine BB (A6Y gb) (AR8 gb) ?_;refine TY (fun F H=>∃s,F 2=.ptr h.length 0 0/\F 6=.sl s 1 ((F7 b).map encS)/\H=H0) (fun _ _=>False) (fun hc=>?_) (fun hc=>?_) ?_ (fun _ _ q=>q.elim)
 .have hne:b.ranges.l≠[]:=by
   intro q;rw[q] at hc;exact absurd hc DT
  refine BB (AR8 gb) BBE ?_;exact⟨_,AL,by rw[AGL hne];exact rfl,AL⟩
 .have he:b.ranges.l=[]:=by
   have:=of_decide_eq_false hc;exact List.length_eq_zero_iff.1 U
  refine AB ?_;exact⟨_,AL,by rw[AMP he],AL⟩
 rintro F H ⟨s,f2,f6,rfl⟩
 generalize F7 b=S at f6 hb1 hb2 hb3|-
 refine A7 f6 ?_;refine EU 0 (fun F H'=>∃v,F 2=.ptr h.length 0 0/\F 7=v/\Sm.ext H H'/\outG 1 rowF H (S.map fun s=>EE p.ex s.l) v H') (fun _ _=>False) ?_ ?_ (fun _ _ q=>q.elim)
 .refine BK (fun n F H'=>∃i v,n+i=S.length/\F 2=.ptr h.length 0 0/\F 7=v/\F 26=.sl s 1 (S.map encS)/\F 27=.n (S.length:Nat)/\F 28=.n (i:Nat)/\Sm.ext H H'/\outG 1 rowF H ((S.take i).map fun s=>EE p.ex s.l) v H') S.length
   ⟨0,.sl .nil 0 [],BA,MB f2,ER,MB f6,ER,ER,ext.rfl' _,by rw[qI];exact outG.nil _ _ _ _⟩ ?_
  clear f2 f6;rintro n F H' ⟨i,v,hi,f2,f7,f26,f27,f28,hxH,ho⟩;refine BB f27 f28 ?_;refine D9 ?_ ?_<;>intro hi'
  .have gp':=DI hxH gp
   have hlen:((S.take i).map fun s=>EE p.ex s.l).length<8388608:=by rw[jP,jZ];omega
   obtain⟨v',H2,ha,ho2,_,he2,_,_⟩:=ho.append (P:=jA) AQC AMH A0T AUD U hlen hxH (EE p.ex S[i].l);have ha':EQ jA true H' 100 100 v (.sl .full 1 [[.sl .full 4 [A8 (EE p.ex S[i].l)]]])=some (v',H2):=ha
   have hst:(S.take (i+1)).map (fun s=>EE p.ex s.l)=(S.take i).map (fun s=>EE p.ex s.l)++[EE p.ex S[i].l]:=by
    rw[jU hi',List.map_append];rfl
   simp only[vQ,jY,jS,jV,zO,CP,↓reduceIte,jC,enP,oE,AHF,f2,f7,f26,f28,CZ hi',CW RZ hi',AEG,A1D gp'];have hin:PCall (En G) 168 [.agg (A8 p.ex),.sl S[i].m 2 (S[i].l.map encR)] H' (.agg (A8 (EE p.ex S[i].l))):=inside_prog G p.ex S[i].l S[i].m (hb3 _ (jG hi')) hb6 H';refine hin.use ?_;refine NY f7 f28 @uO @A1Z ha' (DC i) ?_;exact⟨n-1,U,i+1,v',U,AL,AL,AL,AL,AL,he2,by rw[hst];exact ho2⟩
  .rw[jJ U] at ho
   refine AB ?_;exact⟨v,AL,AL,hxH,ho⟩
 rintro F H' ⟨v,f2,f7,hxH,ho⟩;clear f6;have gp':=DI hxH gp;refine BB f2 (BAO gp') ?_;refine(AUR G p hb5 hb4 H').uu ?_;have hSl:0<S.length:=qX.2 hb1
 obtain⟨ob,rfl,hob1,hob⟩:∃ob,v=.own ob 0 S.length/\H.length<=ob/\H'[ob]?=some (yE 1 ((S.map fun s=>EE p.ex s.l).map rowF)):=by
  rcases ho with⟨e1,_⟩|⟨_,o,h1,h2,h3⟩
  .exact absurd (BM e1) hb1
  .exact⟨o,by rw[h2,jP],h1,h3⟩
 have hXl:(S.map fun s=>EE p.ex s.l).length=S.length:=BA;have hX0:(S.map fun s=>EE p.ex s.l)≠[]:=BM hb1;have hhx:=hx.trans hxH;have hl0:=hx.le
 generalize (S.map fun s=>EE p.ex s.l)=X at hob hXl hX0|-
 refine BO ?_ ?_<;>intro hc
 .have hbad:KG p.bins≠[]:=by
   intro q;rw[q] at hc;exact absurd hc DT
  have hbo:badO EE p=some (EE p.ex (KG p.bins)):=by unfold badO;rw[if_neg hbad]
  rw[hbo];have hw1:IntKind.i64.wrap (((S.length:Nat):Int)-1)=((S.length-1:Nat):Int):=by rw[wrap_i64 U U];omega
  have hin:PCall (En G) 168 [.agg (A8 p.ex),.sl (Cov.nm (KG p.bins)) 2 ((KG p.bins).map encR)] H' (.agg (A8 (EE p.ex (KG p.bins)))):=inside_prog G p.ex (KG p.bins) (Cov.nm (KG p.bins)) hb4 hb6 H'
  generalize EE p.ex (KG p.bins)=y at hin|-
  have hlast:(X.map rowF)[S.length-1]?=some (rowF (MG X)):=by
   rw[jW,<-hXl,AN1 hX0];rfl
  have i1:IM 1 H' (.own ob 0 S.length) (.n ((S.length-1:Nat):Int))=some (.ptr ob (S.length-1) 0):=by rw[GM hob U,jH]
  have d1:BI jA H' 23 (.ptr ob (S.length-1) 0)=some (.sl .full 4 [A8 (MG X)]):=by rw[BC LM hob hlast];rfl
  have ha:EQ jA true H' 23 23 (.sl .full 4 [A8 (MG X)]) (.sl .full 4 [EX])=some (.own H'.length 0 2,H'++[yE 4 ([A8 (MG X)]++[EX])]) :=
   VW WB JE eY eM (GK H' .full 4 [EX]) BA (G5 BA U)
  have gN:=AX H' (yE 4 ([A8 (MG X)]++[EX]));have gO:=AO (x:=yE 4 ([A8 (MG X)]++[EX])) hob;have lob:=AC hob;have i2:IM 4 (H'++[yE 4 ([A8 (MG X)]++[EX])]) (.own H'.length 0 2) (.n ((1:Nat):Int))=some (.ptr H'.length 1 0):=GM (n:=1) gN DT;have i3:IM 1 (H'++[yE 4 ([A8 (MG X)]++[EX])]) (.own ob 0 S.length) (.n ((S.length-1:Nat):Int))=some (.ptr ob (S.length-1) 0):=by rw[GM gO U,jH]
  have hHx:=hhx.app [yE 4 ([A8 (MG X)]++[EX])];generalize H'++[yE 4 ([A8 (MG X)]++[EX])]=H2 at gN gO i2 i3 ha hHx;generalize hnb:H'.length=nb at gN i2 ha lob
  have hsN:∀Hq:Hp,Hq[nb]?=some (yE 4 ([A8 (MG X)]++[EX]))->DU jA Hq 79 (.ptr nb 1 0) (.agg [.n 4,.n 0,.str ⟨#[]⟩,.sl .full 4 [A8 y]])=some (Hq.set nb (yE 4 [A8 (MG X),A8 (notE y)])):=fun Hq hq=>by
   rw[G8 (i:=1) (PG rfl) JE hq rfl (jF 4),ARN];rfl
  have hsO:∀Hq:Hp,Hq[ob]?=some (yE 1 (X.map rowF))->DU jA Hq 23 (.ptr ob (S.length-1) 0) (.own nb 0 2)=some (Hq.set ob (yE 1 ((X.map rowF).set (X.length-1) [.own nb 0 2]))):=fun Hq hq=>by
   rw[G8 (cs:=[.own nb 0 2]) rfl AMH hq hlast (by exact jF 1),hXl];rfl
  have q1:=hsN H2 gN;have q2:=hsO (H2.set nb (yE 4 [A8 (MG X),A8 (notE y)])) (C9 gO U);have q3:=hsO H2 gO;have q4:=hsN (H2.set ob (yE 1 ((X.map rowF).set (X.length-1) [.own nb 0 2]))) (C9 gN U);rw[List.set_comm _ _ (U:ob≠nb)] at q4;clear hsN hsO;have gF1:((H2.set nb (yE 4 [A8 (MG X),A8 (notE y)])).set ob (yE 1 ((X.map rowF).set (X.length-1) [.own nb 0 2])))[ob]?=some (yE 1 ((X.map rowF).set (X.length-1) [.own nb 0 2])):=CV (C9 gO U);have gF2:((H2.set nb (yE 4 [A8 (MG X),A8 (notE y)])).set ob (yE 1 ((X.map rowF).set (X.length-1) [.own nb 0 2])))[nb]?=some (yE 4 [A8 (MG X),A8 (notE y)]):=C9 (CV gN) U;have hF:=(hHx.set (U:h.length<=nb) (yE 4 [A8 (MG X),A8 (notE y)])).set (U:h.length<=ob) (yE 1 ((X.map rowF).set (X.length-1) [.own nb 0 2]));have hfz:=AOL (n:=h.length) (y:=y) U U hX0 gF1 gF2;refine DW f7 @iQ.2 hw1 ?_;refine AFI [] [0,1,2,3,4,5,6,7,8,9,10,11,12,13,15] 14 16 [] AZ trivial ?_;simp only[NG,List.getElem?_cons_succ,List.getElem?_cons_zero];refine JI f2 f7 i1 d1 (A1D gp') ?_;refine⟨_,hin,?_⟩
  try simp only[vQ,JH,jY,jS,jV,zO,P8,cT,KY,QR,LP,CP,NZ,F6,JW,↓reduceIte,jC,Nat.reduceAdd,enP,PZ,AR3,AKR,jQ,uO,A8O,A8V,A1Y,ha,i2,i3,zT,zW,q1,q2,q3,q4]
  rw[f7,<-hXl,hfz];exact⟨⟨hF,rfl⟩,hF,rfl⟩
 .have hbad:KG p.bins=[]:=by
   have:=of_decide_eq_false hc;exact List.length_eq_zero_iff.1 U
  have hbo:badO EE p=none:=by unfold badO;rw[if_pos hbad]
  rw[hbo];refine A7 f7 ?_;refine⟨hhx,?_⟩;have:=frz_own (d:=2) AK1 (n:=h.length) (U:h.length<=ob) hob;rw[hXl] at this;exact this
end
def TR (l:List Ex):List AV:=A1R ⟨Cov.nm l,l⟩
def XC (c:List (List Ex)):List AV:=[.sl .any 1 (c.map encX)]
theorem ATX (c:List (List Ex)):(XC c)[0]?=some (.sl .any 1 (c.map encX)):=rfl
theorem A7R (l:List Ex):(encX l)[0]?=some (.sl .any 4 (l.map A8)):=rfl
structure OL (n0:Nat) (H:Hp) (ob n:Nat) (v:Nat->AV) (X:Nat->List Ex):Prop where
 gob:H[ob]?=some (yE 1 ((zM n).map fun t=>[v t]))
 lo:n0<=ob
 each:∀t,t<n->(X t=[]/\v t=.sl .nil 0 [])\/(X t≠[]/\∃o,n0<=o/\v t=.own o 0 (X t).length/\H[o]?=some (yE 4 ((X t).map A8)))
 ap:∀t u b,t<n->u<n->isB (v t) b->isB (v u) b->t=u
 ne:∀t b,t<n->isB (v t) b->b≠ob
def dD {α:Type}(f:Nat->α)(a:Nat)(x:α)(t:Nat):α:=if t=a then x else f t
theorem AM8 {a:Nat}{x:AV}(_ha:a<n):((zM n).map fun t=>[v t]).set a [x]=(zM n).map fun t=>[dD v a x t]:=by
 apply List.ext_getElem
 .simp
 intro i h1 h2;rw[List.getElem_set];simp only[List.getElem_map,List.getElem_range,dD];by_cases e:a=i
 .rw[if_pos e,if_pos e.symm]
 .rw[if_neg e,if_neg (Ne.symm e)]
theorem fI {n0:Nat}{X:List Ex}{v:AV}(hl:n0=h.length):((X=[]/\v=.sl .nil 0 [])\/(X≠[]/\∃o,n0<=o/\v=.own o 0 X.length/\H[o]?=some (yE 4 (X.map A8))))↔outG 4 A8 h X v H:=by subst hl;exact Iff.rfl
theorem OL.app {ob a:Nat}{X:Nat->List Ex}(O:OL h.length H ob n v X)(ha:a<n)(hx:ext h H)(s:SM)(ys:List Ex)(hl:(X a).length+ys.length<=8388608):
  ∃ v' H',EQ jA true H 23 23 (v a) (.sl s 4 (ys.map A8))=some (v',H')/\H'[ob]?=some (yE 1 ((zM n).map fun t=>[v t]))/\IB v'=some [v'] /\
    OL h.length (H'.set ob (yE 1 ((zM n).map fun t=>[dD v a v' t]))) ob n (dD v a v') (dD X a (X a++ys))/\ext h (H'.set ob (yE 1 ((zM n).map fun t=>[dD v a v' t]))):=by
 obtain⟨v',H',h1,h2,h3,h4,h5,h6⟩:=ZE (P:=jA) s ((fI rfl).1 (O.each a ha)) WB JE eY eM U (ys:=ys) hl hx;have lob:=AC O.gob;have g1:=h3 _ _ O.gob (fun q=>O.ne a _ ha q rfl)
 have hlt:∀t b,t<n->isB (v t) b->b<H.length:=fun t b ht hb=>((fI rfl).1 (O.each t ht)).lt hb |>.2
 have hne':∀b,isB v' b->b≠ob:=fun b hb=>by
  rcases h6 b hb with q|q
  .exact O.ne a b ha q
  .omega
 have hac:IB v'=some [v']:=by
  rcases h2 with⟨_,rfl⟩|⟨_,o,_,rfl,_⟩<;>rfl
 refine⟨v',H',h1,g1,hac,⟨CV g1,O.lo,fun t ht=>?_,fun t u b ht hu h7 h8=>?_,fun t b ht hb=>?_⟩,h4.set O.lo _⟩
 .by_cases e:t=a
  .subst e
   simp only[dD,if_true];exact(fI rfl).2 (h2.keep fun b hb=>by rw[zD (Ne.symm (hne' b hb))])
  .simp only[dD,if_neg e]
   refine(fI rfl).2 (((fI rfl).1 (O.each t ht)).keep fun b hb=>?_);rw[zD (Ne.symm (O.ne t b ht hb))];rcases O.each t ht with⟨_,q⟩|⟨_,o,_,q,q2⟩
   .rw[q] at hb;exact hb.elim
   .rw[q] at hb;cases hb
    rw[q2];exact h3 _ _ q2 fun q3=>e (O.ap t a _ ht ha (by rw[q];rfl) q3)
 .simp only[dD] at h7 h8
  by_cases e1:t=a<;>by_cases e2:u=a
  .rw[e1,e2]
  .rw[if_pos e1] at h7;rw[if_neg e2] at h8
   rcases h6 b h7 with q|q
   .exact e1.trans (O.ap a u b ha hu q h8)
   .have:=hlt u b hu h8;omega
  .rw[if_neg e1] at h7;rw[if_pos e2] at h8
   rcases h6 b h8 with q|q
   .exact(O.ap t a b ht ha h7 q).trans e2.symm
   .have:=hlt t b ht h7;omega
  .rw[if_neg e1] at h7;rw[if_neg e2] at h8
   exact O.ap t u b ht hu h7 h8
 .simp only[dD] at hb
  by_cases e1:t=a
  .rw[if_pos e1] at hb;exact hne' b hb
  .rw[if_neg e1] at hb;exact O.ne t b ht hb
theorem OL.frz {n0:Nat}{ob:Nat}{X:Nat->List Ex}(O:OL n0 H ob n v X)(h:Hp)(hl:n0=h.length):FH h.length H 4 (.own ob 0 n)=.sl .any 1 ((zM n).map fun t=>[fzG 4 A8 (X t)]):=by
 subst hl
 have hm:((zM n).map fun t=>[v t]).map (·.map (FH h.length H 3))=(zM n).map fun t=>[fzG 4 A8 (X t)]:=by
  rw[qQ];refine wQ fun t ht=>?_
  have ht':t<n:=BM ht;show [FH h.length H 3 (v t)]=_;rw[P6 frzEx ((fI rfl).1 (O.each t ht')) h.length 1 (jF _)]
 rw[Cov.frzF_own h.length H 3 ob 0 n 1 _ (by have:=O.lo;omega) O.gob,zU,jJ BA,hm];rw[if_pos];refine⟨BA,?_⟩;rw[zL];intro row hr;obtain⟨t,_,rfl⟩:=zH.1 hr;cases X t<;>rfl
theorem A1M (l:List Ex):CvRow [fzG 4 A8 l] (TR l):=by
 cases l with
 | nil=>exact CvRow.cons rfl (Cv.nil 0 4) CvRow.nil
 | cons x xs=>exact CvRow.cons rfl (Cv.refl _) CvRow.nil
def rowP (n i t:Nat)(c:List (List Ex)):List Ex:=if n-c.length<=t/\t<n-c.length+i then c[t-(n-c.length)]?.getD [] else []
theorem AMW (n t:Nat)(c:List (List Ex)):rowP n 0 t c=[]:=by unfold rowP;rw[if_neg U]
theorem AMX (ht:t<n)(hc:c.length<=n):rowP n c.length t c=rowC n t c:=by
 unfold rowP rowC;by_cases h:n-c.length<=t
 .rw[if_pos ⟨h,U⟩,if_pos h]
 .rw[if_neg U,if_neg h]
theorem AM1 (n t:Nat)(cs:List (List (List Ex)))(j:Nat)(hj:j<cs.length):rowA n (cs.take (j+1)) t=rowA n (cs.take j) t++rowC n t cs[j]:=by
 unfold rowA;rw[jU hj,List.flatMap_append];simp
theorem rowC_len {B:Nat}(h:∀r∈c,r.length<=B):(rowC n t c).length<=B:=by
 unfold rowC;split
 .cases hx:c[t-(n-c.length)]? with
  | none=>exact qK _
  | some r=>exact h r (List.mem_of_getElem? hx)
 .exact qK _
theorem mO {n t B:Nat}:∀ {cs:List (List (List Ex))},(∀c∈cs,∀r∈c,r.length<=B)->(rowA n cs t).length<=B*cs.length
 | [],_=>by simp [rowA]
 | c::cs,h=>by
   have h1:=rowC_len (n:=n) (t:=t) (h c BA);have h2:=mO (n:=n) (t:=t) (cs:=cs) fun c hc=>h c (by simp [hc])
   show(rowC n t c++rowA n cs t).length<=_;rw[jX,zT,Nat.mul_add];omega
theorem BAM (h:Hp)(n:Nat)(hn:n<=1048576):GV jA true h 100 (.n (n:Int)) (.n (n:Int))=some (.own h.length 0 n,h++[yE 1 ((zM n).map fun _=>[.sl .nil 0 []])]):=by
 have hz:MJ jA 23=some [.sl .nil 0 []]:=AZ;have hr:room n 24:=G5 U U;unfold GV;simp only[AQC,AMH,AUD,hz,Int.toNat_natCast];rw[if_pos ⟨U,Int.le_refl _,hr,rfl⟩];have e:(zM n).map (fun _=>[AV.sl .nil 0 []])=List.replicate n [.sl .nil 0 []]:=by rw[List.map_const',List.length_range]
 rw[e];rfl
theorem rowP_step {i:Nat}(hc:c.length<=n)(hi:i<c.length)(_ht:t<n):rowP n (i+1) t c=if t=n-c.length+i then c[i] else rowP n i t c:=by
 unfold rowP;by_cases e:t=n-c.length+i
 .rw[if_pos e,if_pos U,show t-(n-c.length)=i by omega,jI hi];rfl
 .rw[if_neg e]
  by_cases h:n-c.length<=t/\t<n-c.length+i
  .rw[if_pos h,if_pos U]
  .rw[if_neg h,if_neg U]
section
variable (G:Nat->AV)
theorem AAG (cs:List (List (List Ex)))(s:SM)(hcs:cs.length<=1048576)(hl:∀c∈cs,c.length<=1048576)(hr:∀c∈cs,∀r∈c,r.length<=2)(h:Hp):PCall (En G) 95 [.sl s 1 (cs.map XC)] h (.sl .any 1 ((J8 cs).map TR)):=by
 have hcv:Cv (.sl .any 1 ((zM (OZ cs)).map fun t=>[fzG 4 A8 (rowA (OZ cs) cs t)])) (.sl .any 1 ((J8 cs).map TR)):=by
  unfold J8;rw[qQ];exact Cv.map fun t _=>A1M _
 refine PCall.res ?_ (CvR.sl hcv);clear hcv;refine ACalls.pure (R:=fun v H=>Sm.ext h H/\FH h.length H 4 v=.sl .any 1 ((zM (OZ cs)).map fun t=>[fzG 4 A8 (rowA (OZ cs) cs t)])) 4 ?_ (fun v H ⟨a,b⟩=>⟨a,b⟩);have hnb:OZ cs<=1048576:=WP cs 0 _ (qK _) hl;refine acT Tryz.func95 2 ?_;refine A7 A09 ?_;refine EU 0 (fun F H'=>F 0=.sl s 1 (cs.map XC)/\F 3=.n (OZ cs:Nat)/\H'=h) (fun _ _=>False) ?_ ?_ (fun _ _ q=>q.elim)
 .refine BK (fun n F H'=>∃i,n+i=cs.length/\F 0=.sl s 1 (cs.map XC)/\F 3=.n (OZ (cs.take i):Nat)/\F 12=.sl s 1 (cs.map XC)/\F 13=.n (cs.length:Nat)/\F 14=.n (i:Nat)/\H'=h) cs.length
   ⟨0,BA,AQ,AQ,AQ,AQ,AQ,rfl⟩ ?_
  rintro n F H ⟨i,hi,f0,f3,f12,f13,f14,rfl⟩;refine BB f13 f14 ?_;refine D9 ?_ ?_<;>intro hi'
  .have hm:max ((OZ (cs.take i):Nat):Int) ((cs[i].length:Nat):Int)=((OZ (cs.take (i+1)):Nat):Int):=by rw[ANX cs i hi'];omega
   simp only[vQ,OW,CP,AI3,xG,↓reduceIte,jC,enP,iQ,A1G,f3,f12,f14,CZ hi',CW A18 hi',ATX,jP,hm,DC i];exact⟨n-1,U,i+1,U,AL,AL,AL,AL,AL,AL⟩
  .rw[jJ U] at f3
   refine AB ?_;exact⟨AL,AL,AL⟩
 rintro F H ⟨f0,f3,rfl⟩;generalize hN:OZ cs=N at *;have g0:=AX H (yE 1 ((zM N).map fun _=>[AV.sl .nil 0 []]))
 have O0:OL H.length (H++[yE 1 ((zM N).map fun _=>[AV.sl .nil 0 []])]) H.length N (fun _=>.sl .nil 0 []) (fun _=>[]) :=
  ⟨g0,jF _,fun t _=>.inl ⟨rfl,rfl⟩,fun t u b _ _ q=>q.elim,fun t b _ q=>q.elim⟩
 have hx0:Sm.ext H (H++[yE 1 ((zM N).map fun _=>[AV.sl .nil 0 []])]):=(ext.rfl' H).app _;refine ES A09 f0 f3 (BAM H N hnb) ?_
 generalize H++[yE 1 ((zM N).map fun _=>[AV.sl .nil 0 []])]=H0 at O0 hx0|-
 refine BK (fun n F H'=>∃j v X,n+j=cs.length/\F 3=.n (N:Nat)/\F 6=.own H.length 0 N/\F 25=.sl s 1 (cs.map XC)/\F 26=.n (cs.length:Nat)/\F 27=.n (j:Nat)/\OL H.length H' H.length N v X/\(∀t,t<N->X t=rowA N (cs.take j) t)/\Sm.ext H H') cs.length
  ⟨0,_,_,BA,EI f3,AQ,AQ,AQ,AQ,O0,fun t _=>by rw[qI];rfl,hx0⟩ ?_
 clear O0 hx0 f0 f3 g0;rintro n F H1 ⟨j,v,X,hj,f3,f6,f25,f26,f27,O,hX,hx⟩;refine BB f26 f27 ?_;refine D9 ?_ ?_<;>intro hj'
 .have hcN:cs[j].length<=N:=by rw[<-hN];exact dP (jG hj')
  have hrj:=hr _ (jG hj')
  have hrt:∀t,(rowA N (cs.take j) t).length<=2*j:=fun t=>by
   have:=mO (n:=N) (t:=t) (B:=2) (cs:=cs.take j) fun c hc=>hr c (List.mem_of_mem_take hc)
   rw[jZ,Nat.min_eq_left U] at this;exact this
  have hst:∀t,rowA N (cs.take (j+1)) t=rowA N (cs.take j) t++rowC N t cs[j]:=fun t=>AM1 N t cs j hj'
  simp only[vQ,CP,↓reduceIte,jC,enP,iQ,A1G,f25,f27,CZ hj',CW A18 hj',ATX,jP]
  generalize cs[j]=c at hcN hrj hst|-
  refine EU 4 (fun F H'=>∃v X,F 3=.n (N:Nat)/\F 6=.own H.length 0 N/\F 25=.sl s 1 (cs.map XC)/\F 26=.n (cs.length:Nat)/\F 27=.n (j:Nat)/\OL H.length H' H.length N v X/\(∀t,t<N->X t=rowA N (cs.take (j+1)) t)/\Sm.ext H H') (fun _ _=>False) ?_ ?_ (fun _ _ q=>q.elim)
  .refine BK (fun n F H'=>∃i v X,n+i=c.length/\F 3=.n (N:Nat)/\F 6=.own H.length 0 N/\F 8=.sl .any 1 (c.map encX)/\F 25=.sl s 1 (cs.map XC)/\F 26=.n (cs.length:Nat)/\F 27=.n (j:Nat)/\F 31=.sl .any 1 (c.map encX)/\F 32=.n (c.length:Nat)/\F 33=.n (i:Nat)/\OL H.length H' H.length N v X/\(∀t,t<N->X t=rowA N (cs.take j) t++rowP N i t c)/\Sm.ext H H') c.length
    ⟨0,v,X,BA,EI f3,EI f6,AQ,EI f25,EI f26,EI f27,AQ,AQ,AQ,O,fun t ht=>by rw[AMW,jO];exact hX t ht,hx⟩ ?_
   clear f3 f6 f25 f26 f27 O hX hx;rintro n2 F H2 ⟨i,v,X,hi,f3,f6,f8,f25,f26,f27,f31,f32,f33,O,hX,hx⟩;refine BB f32 f33 ?_;refine BO ?_ ?_<;>intro hd
   .have hi':i<c.length:=BM hd
    have ha:N-c.length+i<N:=U
    have hlen:(X (N-c.length+i)).length+c[i].length<=8388608:=by
     have h1:=hrt (N-c.length+i);have h2:=hrj _ (jG hi');rw[hX _ ha,jX];have h3:rowP N i (N-c.length+i) c=[]:=by unfold rowP;rw[if_neg U]
     rw[h3,zW];omega
    obtain⟨v',H3,a1,a2,a3,O2,hx2⟩:=O.app ha hx .any c[i] hlen;have hw1:IntKind.i64.wrap (((N:Nat):Int)-((c.length:Nat):Int))=((N-c.length:Nat):Int):=by rw[wrap_i64 U U];omega
    have hw2:IntKind.i64.wrap (((N-c.length:Nat):Int)+((i:Nat):Int))=((N-c.length+i:Nat):Int):=by rw[wrap_i64 U U];omega
    have i1:IM 1 H2 (.own H.length 0 N) (.n ((N-c.length+i:Nat):Int))=some (.ptr H.length (N-c.length+i) 0):=by rw[GM O.gob ha,jH]
    have hrow:∀f:Nat->AV,((zM N).map fun t=>[f t])[N-c.length+i]?=some [f (N-c.length+i)]:=fun f=>by
     rw[jW,List.getElem?_range ha];rfl
    have d1:BI jA H2 23 (.ptr H.length (N-c.length+i) 0)=some (v (N-c.length+i)):=by rw[BC LM O.gob (hrow v)];rfl
    have i2:IM 1 H3 (.own H.length 0 N) (.n ((N-c.length+i:Nat):Int))=some (.ptr H.length (N-c.length+i) 0):=by rw[GM a2 ha,jH]
    have s1:DU jA H3 23 (.ptr H.length (N-c.length+i) 0) v'=some (H3.set H.length (yE 1 ((zM N).map fun t=>[dD v (N-c.length+i) v' t]))):=by
     rw[G8 (cs:=[v']) a3 AMH a2 (hrow v) (by exact jF 1),<-AM8 ha];rfl
    have hX2:∀t,t<N->dD X (N-c.length+i) (X (N-c.length+i)++c[i]) t=rowA N (cs.take j) t++rowP N (i+1) t c:=fun t ht=>by
     rw[rowP_step hcN hi' ht];by_cases e:t=N-c.length+i
     .rw[if_pos e]
      simp only[dD,if_pos e];rw[hX _ ha,<-e];have h3:rowP N i t c=[]:=by unfold rowP;rw[if_neg U]
      rw[h3,jO]
     .rw[if_neg e]
      simp only[dD,if_neg e];exact hX t ht
    simp only[vQ,OW,CP,JW,P9,↓reduceIte,jC,enP,AKR,iQ,jQ,f3,f6,f8,f31,f33,CZ hi',CW LM hi',A7R,jP,hw1,hw2,i1,d1,a1,i2,s1,DC i];exact⟨n2-1,U,i+1,_,_,U,AL,AL,AL,AL,AL,AL,AL,AL,AL,O2,hX2,hx2⟩
   .have hi':i=c.length:=by have:¬i<c.length:=BM hd
                            omega
    subst hi';refine AB ?_;exact⟨v,X,AL,AL,AL,AL,AL,O,fun t ht=>by rw[hX t ht,hst,AMX ht hcN],hx⟩
  .clear f3 f6 f25 f26 f27 O hX hx
   rintro F H2 ⟨v,X,f3,f6,f25,f26,f27,O,hX,hx⟩;refine BB f27 (DC j) ?_;exact⟨n-1,U,j+1,v,X,U,AL,AL,AL,AL,AL,O,hX,hx⟩
 .rw[jJ U] at hX
  refine A7 f6 ?_;refine⟨hx,?_⟩;rw[O.frz H rfl];congr 1;refine wQ fun t ht=>?_
  rw[hX t (BM ht)]
end
def growR_ren:Go.Shelf.Ren:=⟨fun|4=>98|n=>n,fun|22=>23|25=>79|3=>3|4=>4|9=>9|20=>20|0=>0|n=>n,fun|n=>n⟩
theorem growR:Go.Proofs.Lays8.n4 jA growR_ren := {
 mixed:=AZ,
 f4:=⟨Tryz.f98.name,by decide,Tryz.func98.trans (congrArg some AZ)⟩,
 t0:=Tryz.underlying0,
 a0:=Tryz.isAgg0,
 z0:=Tryz.sizeOf0,
 v0:=Tryz.zeroValue0,
 t3:=Tryz.underlying3,
 a3:=Tryz.isAgg3,
 z3:=Tryz.sizeOf3,
 v3:=Tryz.zeroValue3,
 t4:=Tryz.underlying4,
 a4:=Tryz.isAgg4,
 z4:=Tryz.sizeOf4,
 v4:=Tryz.zeroValue4,
 t9:=Tryz.underlying9,
 a9:=Tryz.isAgg9,
 z9:=Tryz.sizeOf9,
 v9:=Tryz.zeroValue9,
 t20:=Tryz.underlying20,
 a20:=Tryz.isAgg20,
 z20:=Tryz.sizeOf20,
 v20:=Tryz.zeroValue20,
 t22:=Tryz.underlying23,
 a22:=Tryz.isAgg23,
 z22:=Tryz.sizeOf23,
 v22:=Tryz.zeroValue23 }
theorem zc_size (z:Array Value)(n:Nat):(Builtin.zeroCells z n).size=n*z.size:=by simp [Builtin.zeroCells]
theorem grow_prog (G:Nat->AV)(n:Nat)(hn:n<=1048576)(h:Hp):ACalls (En G) 98 [.sl .nil 0 [],.n (n:Nat)] h fun v H=>(n=0/\v=.sl .nil 0 []/\H=h)\/(0<n/\v=.own h.length 0 0/\H=h++[yE 4 []]):=by
 refine⟨cok 98 G AZ,fun g w cargs S ha=>?_⟩;obtain⟨hsz,hget⟩:=ha
 obtain⟨cv0,cv1,rfl⟩:∃a b,cargs = #[a,b]:=by
  obtain⟨l⟩:=cargs
  match l,hsz with
  | [a,b],_=>exact⟨a,b,rfl⟩
 have r0:=(hget 0 _ cv0 rfl rfl).sl_inv;obtain rfl:=(hget 1 _ cv1 rfl rfl).int_inv
 have hnil:cv0=.slice none 0 0:=by
  cases r0 with
  | nil=>rfl
  | empty _ _ _ _ q=>exact absurd rfl q
  | sl _ _ _ _ _ _ _ _ _ _ _ q=>exact absurd rfl q
 subst hnil;rcases Nat.eq_zero_or_pos n with h0|h0
 .subst h0
  refine(Any8.slices_Grow_room growR none 0 0 0 w (jF _) U U (jF _)).mono ?_;rintro e w' ⟨rfl,rfl⟩;exact .inl ⟨_,_,g,h,rfl,.inl ⟨rfl,rfl,rfl⟩,Gh.le.refl g,S,.fro (.nil 0)⟩
 .have i0:Tryz.prog.info? 79=some Tryz.t79:=AZ
  have hz:Tryz.t79.zero.isSome=true:=AZ;obtain⟨z,hz⟩:=Option.isSome_iff_exists.1 hz;have hs:Tryz.t79.size=4:=AZ;have hb:Tryz.t79.bytes<=64:=jB AZ;have hmul:n*Tryz.t79.bytes<=1048576*64:=Nat.mul_le_mul hn hb
  have hzs:z.cells.size=4:=by
   have h1:(Tryz.t79.zero.map fun z=>z.cells.size)=some 4:=AZ;rw[hz] at h1;simpa using h1
  have hc:=Any8.slices_Grow_grow growR Tryz.t79 z i0 hz (by rw[hs];omega) none 0 0 n [] w (jF _) U (by rw[jH];omega) U BA (fun _=>rfl) (fun a q=>by cases q);refine hc.mono ?_;rintro e w' ⟨rfl,rfl⟩;generalize hG:grownCap w (0+n) 0 (growR_ren.t 25)=cap;have hle:0+n<=cap:=hG▸grownCap_ge w _ _ _;have hgr:Grew w (w.drew.alloc (.cells ((#[]:Array Value)++Builtin.zeroCells z.cells (0+n-0)++Builtin.zeroCells z.cells (cap-(0+n))) (growR_ren.t 25))) (.cells ((#[]:Array Value)++Builtin.zeroCells z.cells (0+n-0)++Builtin.zeroCells z.cells (cap-(0+n))) (growR_ren.t 25) (0,0)):=⟨rfl,rfl,rfl,rfl⟩
  have hsize:((#[]:Array Value)++Builtin.zeroCells z.cells (0+n-0)++Builtin.zeroCells z.cells (cap-(0+n))).size=cap*4:=by
   simp only[Array.size_append,zc_size,hzs,List.size_toArray,zW];omega
  generalize ((#[]:Array Value)++Builtin.zeroCells z.cells (0+n-0)++Builtin.zeroCells z.cells (cap-(0+n)))=c at hgr hsize;obtain⟨S',hle'⟩:=S.new (k:=4) (xs:=[]) hgr ⟨BA,fun i row h=>by simp at h,fun i j row v h=>by simp at h⟩;refine .inl ⟨_,_,_,_,rfl,.inr ⟨h0,rfl,rfl⟩,hle',S',?_⟩;exact Rep.own h.length 0 0 cap ⟨w.heap.size,0,4,c.size⟩ (by simp [Gh.adopt]) (qK _) (by simp only[hsize];omega)
theorem A1Q (l:List Ex):(TR l)[0]?=some (.sl (Cov.nm l) 4 (l.map A8)):=rfl
theorem flat_take {R:List (List Ex)}{i:Nat}(hi:i<R.length):(R.take (i+1)).flatten=(R.take i).flatten++R[i]:=by
 rw[jU hi,List.flatten_append];simp
theorem flat_take_le (R:List (List Ex))(i:Nat):(R.take i).flatten.length<=R.flatten.length:=by
 have:R.flatten=(R.take i).flatten++(R.drop i).flatten:=by rw[<-List.flatten_append,List.take_append_drop]
 rw[this,jX];omega
def outK (h:Hp)(ys:List Ex)(v:AV)(H:Hp):Prop:=(v=.sl .nil 0 []/\ys=[])\/∃o,h.length<=o/\v=.own o 0 ys.length/\H[o]?=some (yE 4 (ys.map A8))
theorem outK_app {xs ys:List Ex}{v:AV}(s:SM)(ho:outK h xs v H)(he:ext h H)(hl:xs.length+ys.length<=8388608):
  ∃v' H',EQ jA true H 23 23 v (.sl s 4 (ys.map A8))=some (v',H')/\outK h (xs++ys) v' H'/\ext h H'/\(v=.sl .nil 0 []->ys=[]->v'=.sl .nil 0 []):=by
 cases ys with
 | nil =>
   refine⟨v,H,?_,by rw[jO];exact ho,he,fun q _=>q⟩;have hcs:I9 H (.sl s 4 [])=some (4,[]):=GK H s 4 [];rcases ho with⟨rfl,rfl⟩|⟨o,h2,rfl,h3⟩
   .simp [EQ,WB,JE,TD,hcs,bump]
   .have hc:I9 H (.own o 0 xs.length)=some (4,xs.map A8):=by rw[JS h3 BA,zU,jJ BA]
    simp [EQ,WB,JE,TD,hc,hcs,bump]
 | cons y ys =>
   have h1:(y::ys).map A8≠[]:=BA;rcases ho with⟨rfl,rfl⟩|⟨o,h2,rfl,h3⟩
   .exact⟨_,_,QZ WB JE eY eM (GK H s 4 ((y::ys).map A8)) h1 (G5 (by simp at hl|-;omega) U),.inr ⟨H.length,he.le,BA,BA⟩,he.app _,fun _ q=>by cases q⟩
   .have hc:I9 H (.own o 0 xs.length)=some (4,xs.map A8):=by rw[JS h3 BA,zU,jJ BA]
    exact⟨_,_,QB WB JE eY eM hc (GK H s 4 ((y::ys).map A8)) h1 (G5 (by simp at hl|-;omega) U),.inr ⟨H.length,he.le,BA,BA⟩,(he.set h2 _).app _,fun q=>by cases q⟩
section
variable (G:Nat->AV)
theorem concat_prog (R:List (List Ex))(s:SM)(hR:R.length<=1048576)(hl:R.flatten.length<=1048576)(h:Hp):PCall (En G) 45 [.sl s 1 (R.map TR)] h (.sl (Cov.nm R.flatten) 4 (R.flatten.map A8)):=by
 refine J3 frzEx ?_;refine acT Tryz.func45 2 ?_;refine AB ?_;refine EU 0 (fun F H'=>F 0=.sl s 1 (R.map TR)/\F 3=.n (R.flatten.length:Nat)/\H'=h) (fun _ _=>False) ?_ ?_ (fun _ _ q=>q.elim)
 .refine BK (fun n F H'=>∃i,n+i=R.length/\F 0=.sl s 1 (R.map TR)/\F 3=.n ((R.take i).flatten.length:Nat)/\F 9=.sl s 1 (R.map TR)/\F 10=.n (R.length:Nat)/\F 11=.n (i:Nat)/\H'=h) R.length
   ⟨0,BA,AQ,AQ,AQ,AQ,AQ,rfl⟩ ?_
  rintro n F H ⟨i,hi,f0,f3,f9,f10,f11,rfl⟩;refine BB f10 f11 ?_;refine D9 ?_ ?_<;>intro hi'
  .have hfl:=flat_take hi'
   have hle:=flat_take_le R (i+1);rw[hfl,jX] at hle;have hw:IntKind.i64.wrap ((((R.take i).flatten.length:Nat):Int)+((R[i].length:Nat):Int))=(((R.take (i+1)).flatten.length:Nat):Int):=by rw[hfl,jX,wrap_i64 U U];omega
   refine SE f3 f9 f11 hi' @A1Q hw @ltz_false (DC i) ?_;exact⟨n-1,U,i+1,U,AL,AL,AL,AL,AL,AL⟩
  .rw[jJ U] at f3
   refine AB ?_;exact⟨AL,AL,AL⟩
 rintro F H ⟨f0,f3,rfl⟩;refine A7 f3 ?_;refine(grow_prog G R.flatten.length hl H).mono ?_;intro v0 H0 hg
 have I0:outK H [] v0 H0/\Sm.ext H H0/\(R.flatten.length=0->v0=.sl .nil 0 []):=by
  rcases hg with⟨h0,rfl,rfl⟩|⟨h0,rfl,rfl⟩
  .exact⟨.inl ⟨rfl,rfl⟩,ext.rfl' _,fun _=>rfl⟩
  .exact⟨.inr ⟨H.length,jF _,rfl,AX _ _⟩,(ext.rfl' H).app _,fun q=>U⟩
 refine A7 f0 ?_
 refine BK (fun n F H'=>∃i v,n+i=R.length/\F 6=v/\F 25=.sl s 1 (R.map TR)/\F 26=.n (R.length:Nat)/\F 27=.n (i:Nat)/\outK H (R.take i).flatten v H'/\Sm.ext H H'/\(R.flatten.length=0->v=.sl .nil 0 [])) R.length
  ⟨0,v0,BA,AQ,AQ,AQ,AQ,by rw[qI];exact I0.1,I0.2.1,I0.2.2⟩ ?_
 clear I0 hg f0 f3;rintro n F H' ⟨i,v,hi,f6,f25,f26,f27,ho,hx,hz⟩;refine BB f26 f27 ?_;refine D9 ?_ ?_<;>intro hi'
 .have hfl:=flat_take hi'
  have hle:=flat_take_le R (i+1);rw[hfl,jX] at hle;obtain⟨v',H2,ha,ho2,hx2,hn2⟩:=outK_app (Cov.nm R[i]) ho hx (ys:=R[i]) U;rw[<-hfl] at ho2;refine NJ f6 f25 f27 hi' @A1Q ha (DC i) ?_;exact⟨n-1,U,i+1,v',U,AL,AL,AL,AL,ho2,hx2,fun q=>hn2 (hz q) (List.length_eq_zero_iff.1 U)⟩
 .rw[jJ U] at ho
  refine A7 f6 ?_;refine⟨hx,?_⟩;rcases ho with⟨h1,h2⟩|⟨o,h1,h2,h3⟩
  .exact .inl ⟨h2,h1⟩
  .refine .inr ⟨fun q=>?_,o,h1,h2,h3⟩
   have:=hz (by rw[q];rfl);rw[this] at h2;cases h2
end
theorem AAS (op n:Int)(name:ByteArray)(m:SM)(args:List Ex):wt (.mk op n name m args)=name.size+1+wts args:=MQ _
theorem nsz:(⟨#[]⟩:ByteArray).size=0:=rfl
theorem AP0 (n:Int):wt (cE n)=1:=by unfold cE;rw[AAS,nsz];rfl
theorem AI5:∀l:List Rng,wts (cEs l)=2*l.length
 | []=>rfl
 | a::l=>by
   rw[UA];simp only[wts,AP0,AI5 l,zT];omega
theorem AI8 (e:Ex)(l:List Rng):wt (JD e l)=1+wt e+2*l.length:=by
 rw[UT,AAS,nsz];unfold insL;simp only[wts,AI5];omega
theorem A2D (a b:Ex):wt (orE a b)=1+wt a+wt b:=by
 unfold orE;rw[AAS,nsz];simp only[wts];omega
theorem AI7 (a:Ex):wt (notE a)=1+wt a:=by
 unfold notE;rw[AAS,nsz];simp only[wts];omega
theorem Q8 (L:List Rng)(k:Nat):(part L k).length<=16:=by unfold part;rw[jZ];omega
theorem AI6 (e:Ex)(L:List Rng):∀k,wt (NK e L k)<=(k+1)*(wt e+34)
 | 0=>by
   have:=Q8 L 0;show wt (JD e (part L 0))<=_;rw[AI8];omega
 | k+1=>by
   have:=Q8 L (k+1);have ih:=AI6 e L k;show wt (orE (NK e L k) (JD e (part L (k+1))))<=_;rw[A2D,AI8,Nat.add_mul (k+1) 1];omega
theorem lS:∀l:List Ex,(∀e∈l,wt (cpE e)=wt e)->wts (l.map cpE)=wts l
 | [],_=>rfl
 | e::l,h=>by
   simp only[jK,wts];rw[h e BA,lS l fun e he=>h e (by simp [he])]
theorem A2E (e:Ex):wt (cpE e)=wt e:=by
 induction e using Ex.induct with|h e ih=>?_
 rw[cA,AAS,lS _ ih,MQ e]
theorem mem_pres {x:Ex}:∀ {xs:List Ex},x∈FM xs↔∃a∈xs,x∈pre a
 | []=>by simp [FM]
 | a::xs=>by simp [FM,mem_pres (xs:=xs)]
def NmB (N:Nat)(e:Ex):Prop:=∀x∈pre e,x.name.size<=N
theorem NmB.mk {N:Nat}{op n:Int}{name:ByteArray}{m:SM}{args:List Ex}(h:name.size<=N)(ha:∀a∈args,NmB N a):NmB N (.mk op n name m args):=fun x hx=>by
 rw[pre_eq] at hx;rcases zN.1 hx with rfl|hx
 .exact h
 .obtain⟨a,h1,h2⟩:=mem_pres.1 hx
  exact ha a h1 x h2
theorem cK (N:Nat)(n:Int):NmB N (cE n):=NmB.mk (qK _) fun a h=>by cases h
theorem AF2 (h:NmB N e)(l:List Rng):NmB N (JD e l):=by
 rw[UT];refine NmB.mk (qK _) fun a ha=>?_
 rcases zN.1 ha with rfl|ha
 .exact h
 .unfold cEs at ha
  obtain⟨r,_,hr⟩:=List.mem_flatMap.1 ha;rcases zN.1 hr with rfl|hr
  .exact cK N _
  .rw[wI.1 hr];exact cK N _
theorem A0J {a b:Ex}(h1:NmB N a)(h2:NmB N b):NmB N (orE a b):=NmB.mk (qK _) fun x hx=>by
 rcases zN.1 hx with rfl|hx
 .exact h1
 .rw[wI.1 hx];exact h2
theorem AVI {a:Ex}(h1:NmB N a):NmB N (notE a):=NmB.mk (qK _) fun x hx=>by rw[wI.1 hx];exact h1
theorem AF1 {N:Nat}{e:Ex}(h:NmB N e)(L:List Rng):∀k,NmB N (NK e L k)
 | 0=>AF2 h _
 | k+1=>A0J (AF1 h L k) (AF2 h _)
theorem AL8 (e:Ex)(h:NmB N e):NmB N (cpE e):=by
 induction e using Ex.induct with|h e ih=>?_
 rw[cA];refine NmB.mk (h e (by rw[pre_eq];simp)) fun a ha=>?_
 obtain⟨b,hb,rfl⟩:=zH.1 ha;exact ih b hb fun x hx=>h x (by rw[pre_eq];exact List.mem_cons_of_mem _ (mem_pres.2 ⟨b,hb,hx⟩))
theorem AL5 {l:List Rng}(h:wt e<=1048576)(hl:l.length<=4096):WN (EE e l)/\wt (EE e l)<=269000000:=by
 have hn:NmB 1048576 e:=(AVD h).2;have hnl:=nD l;have hp:parts (normal l)<=256:=by rw[parts_eq];omega
 unfold EE;rcases Classical.em (normal l=[]) with q|q
 .have:SQ e (normal l)=cE 0:=by unfold SQ;rw[if_pos q]
  rw[this];exact⟨⟨by rw[AP0];omega,cK _ _⟩,by rw[AP0];omega⟩
 .rw[YK e _ q]
  have h1:=AI6 (cpE e) (normal l) (parts (normal l)-1);rw[A2E] at h1;have h2:(parts (normal l)-1+1)*(wt e+34)<=256*(1048576+34):=Nat.mul_le_mul U U;exact⟨⟨U,AF1 (AL8 e hn) _ _⟩,U⟩
theorem A0F (h:WN e/\wt e<=269000000):WN (notE e)/\wt (notE e)<=269000001:=⟨⟨by rw[AI7];omega,AVI h.1.2⟩,by rw[AI7];omega⟩
theorem AO8 {P:Ex->Prop}{ins:Ex->List Rng->Ex}(h1:∀s∈F7 b,P (ins p.ex s.l))(h2:KG p.bins≠[]->P (notE (ins p.ex (KG p.bins)))):∀r∈TZ ins p b,r.length<=2/\∀e∈r,P e:=by
 have base:∀r∈(F7 b).map (fun s=>[ins p.ex s.l]),r.length=1/\∀e∈r,P e:=fun r hr=>by
  obtain⟨s,hs,rfl⟩:=zH.1 hr;exact⟨rfl,fun e he=>by rw[wI.1 he];exact h1 s hs⟩
 intro r hr;unfold TZ badO at hr;by_cases q:KG p.bins=[]
 .rw[if_pos q] at hr
  obtain⟨a,b⟩:=base r hr;exact⟨U,b⟩
 .rw[if_neg q] at hr
  rcases List.mem_or_eq_of_mem_set (show r∈List.set _ _ _ from hr) with hr|rfl
  .grind
  .grind
theorem AEX (ins:Ex->List Rng->Ex)(p:Pt)(b:Bin):(TZ ins p b).length=(F7 b).length:=by unfold TZ;rw[AC1,jP]
def kW (m:Mo)(x:Hl):List Int:=if x.cross=true then (match AES m x.idx with|some c=>c.pts|none=>[]) else [x.idx]
structure Prt (m:Mo) (x:Hl) (L:List (Nat×Nat)):Prop where
 pts:kW m x=L.map fun q=>(q.1:Int)
 bins:x.bins=L.map fun q=>(q.2:Int)
 ok:∀q∈L,∃h:q.1<m.pts.length,q.2<m.pts[q.1].bins.length
 n1:1<=L.length
 n4:L.length<=4
def cdQ (ins:Ex->List Rng->Ex)(m:Mo)(q:Nat×Nat):List (List Ex):=match m.pts[q.1]? with
 | some p=>(match p.bins[q.2]? with|some b=>TZ ins p b|none=>[])
 | none=>[]
theorem zR (ins:Ex->List Rng->Ex){m:Mo}{q:Nat×Nat}(h:q.1<m.pts.length)(h2:q.2<m.pts[q.1].bins.length):cdQ ins m q=TZ ins m.pts[q.1] m.pts[q.1].bins[q.2]:=by
 unfold cdQ;rw[jI h];show(match m.pts[q.1].bins[q.2]? with|some b=>TZ ins m.pts[q.1] b|none=>[])=_;rw[jI h2]
def A7Y (ins:Ex->List Rng->Ex)(m:Mo)(L:List (Nat×Nat)):List (List Ex):=J8 (L.map (cdQ ins m))
end Go.Proofs.YtiihpnicbekebaaGreatDoor.Ho
namespace Go.Proofs.YtiihpnicbekebaaGreatDoor.Bd.Cl
open Sm Bins Cov Xe Wd Bl Ho Go.RowKit
variable {n:Int} {H:Hp}
theorem ACM (L:List Rng)(k n:Nat)(h:n=min 16 (L.length-16*k)):(L.drop (16*k)).take n=Ho.part L k:=by
 unfold Ho.part;rw[List.take_eq_take_iff,List.length_drop];omega
theorem RH (n:Nat)(H:Hp)(d:Nat)(e:Ex):FH n H (d+3) (.agg (A8 e))=.agg (A8 e):=by rw[FI];rfl
section
variable (G:Nat->AV)
theorem AGF (nm:ByteArray)(L:List Rng)(s:SM)(hl:L.length<=1048576)(h:Hp):PCall (En G) 180 [.str nm,.sl s 2 (L.map encR)] h (.agg (A8 (rD nm L))):=by
 refine ACalls.pure (R:=fun v H=>v=.agg (A8 (rD nm L))/\Sm.ext h H) 3 ?_ (fun v H ⟨a,b⟩=>⟨b,by rw[a];exact RH _ _ 0 _⟩);refine acL Tryz.func180 [.cell 4 79] ?_;have g4:=AX h (yE 4 [EX]);have hx:=Sm.ext.r1 h (yE 4 [EX]);have hb4:h.length<(h++[yE 4 [EX]]).length:=BA;refine A7 RQ ?_;rw[show([AV.int .i64 0,.n 0,.str ⟨#[]⟩,.sl .nil 0 []]:List AV)=EX from rfl]
 generalize h++[yE 4 [EX]]=H0 at g4 hx hb4|-
 refine BO ?_ ?_<;>intro hz
 .have hz:L=[]:=List.eq_nil_of_length_eq_zero (BM hz)
  refine AB ?_;refine(YF G 0 _).use ?_;simp only[vQ,LG,CP,↓reduceIte,jC,enP,jQ,Q5 g4 rfl];rw[JM (b:=h.length) AQ (PO (CV g4))];exact⟨by rw[hz];rfl,hx.set (jF _) _⟩
 have hne:L≠[]:=by intro e;rw[e] at hz;simp at hz
 have hpos:0<L.length:=qX.2 hne;have e1:min (16:Int) ((L.length:Nat):Int)=((min 16 L.length:Nat):Int):=U
 have hs1:∀H:Hp,IE jA H 84 (.sl s 2 (L.map encR)) none (some (.n ((min 16 L.length:Nat):Int))) none=some (.sl (AO4 s (min 16 L.length) L.length) 2 ((Ho.part L 0).map encR)):=fun H=>by
  have:=AJK aY MF (h:=H) (m:=s) (kk:=.i64) (xs:=L.map encR) (u:=min 16 L.length) LD;rw[<-List.map_take,jP] at this;have e:=ACM L 0 (min 16 L.length) U;rw[Nat.mul_zero,zU] at e;rw[<-e];exact this
 have hs2:∀H:Hp,IE jA H 84 (.sl s 2 (L.map encR)) (some (.n ((min 16 L.length:Nat):Int))) none none=some (.sl s 2 ((L.drop (16*1)).map encR)):=fun H=>by
  rw[lE aY MF LD,<-List.map_drop];have:L.drop (min 16 L.length)=L.drop (16*1):=by simp_all
  rw[this]
 refine BB e1 hs1 ?_;refine(iS G nm (Ho.part L 0) _ (by have:=Q8 L 0;omega) _).use ?_;have gc:=AX H0 (yE 4 [A8 (JD (JK nm) (Ho.part L 0))]);have st0:=rF H0 (JD (JK nm) (Ho.part L 0)) EX rfl;refine A7 RQ ?_;rw[show([AV.int .i64 0,.n 0,.str ⟨#[]⟩,.sl .nil 0 []]:List AV)=EX from rfl];refine BB st0 hs2 ?_;have g4:=AO (x:=yE 4 [A8 (JD (JK nm) (Ho.part L 0))]) g4;have hx:=hx.app [yE 4 [A8 (JD (JK nm) (Ho.part L 0))]]
 generalize H0++[yE 4 [A8 (JD (JK nm) (Ho.part L 0))]]=H1 at gc g4 hx|-
 generalize H0.length=cb at gc hb4|-
 have hsum:JD (JK nm) (Ho.part L 0)=NK (JK nm) L 0:=rfl;rw[hsum] at gc;refine EU 0 (fun F H=>F 4=.ptr h.length 0 0/\F 6=.ptr cb 0 0/\H[h.length]?=some (yE 4 [EX])/\H[cb]?=some (yE 4 [A8 (rD nm L)])/\Sm.ext h H) (fun _ _=>False) ?_ ?_ (fun _ _ q=>q.elim)
 .refine BK (fun n F H=>∃k,n=L.length-16*(k+1)/\16*k<L.length/\F 0=.str nm/\F 1=.sl s 2 ((L.drop (16*(k+1))).map encR)/\F 4=.ptr h.length 0 0/\F 6=.ptr cb 0 0/\H[h.length]?=some (yE 4 [EX])/\H[cb]?=some (yE 4 [A8 (NK (JK nm) L k)])/\Sm.ext h H) (L.length-16)
   ⟨0,U,U,AQ,AQ,AQ,AQ,g4,gc,hx⟩ ?_
  clear g4 gc hx;rintro n F H ⟨k,rfl,hk,f0,f1,f4,f6,g4,gc,hx⟩;have ec:decide ((((L.drop (16*(k+1))).length:Nat):Int)>0)=decide (16*(k+1)<L.length):=by grind
  refine BB f1 ec ?_;refine BO ?_ ?_<;>intro hc
  .have hk':16*(k+1)<L.length:=BM hc
   have e2:min (16:Int) (((L.drop (16*(k+1))).length:Nat):Int)=((min 16 (L.length-16*(k+1)):Nat):Int):=by rw[List.length_drop];omega
   have hs3:∀H:Hp,IE jA H 84 (.sl s 2 ((L.drop (16*(k+1))).map encR)) none (some (.n ((min 16 (L.length-16*(k+1)):Nat):Int))) none=some (.sl (AO4 s (min 16 (L.length-16*(k+1))) (L.drop (16*(k+1))).length) 2 ((Ho.part L (k+1)).map encR)):=fun H=>by
    have:=AJK aY MF (h:=H) (m:=s) (kk:=.i64) (xs:=(L.drop (16*(k+1))).map encR) (u:=min 16 (L.length-16*(k+1))) LD;rw[<-List.map_take,jP,ACM L (k+1) _ rfl] at this;exact this
   have hs4:∀H:Hp,IE jA H 84 (.sl s 2 ((L.drop (16*(k+1))).map encR)) (some (.n ((min 16 (L.length-16*(k+1)):Nat):Int))) none none=some (.sl s 2 ((L.drop (16*(k+1+1))).map encR)):=fun H=>by
    rw[lE aY MF LD,<-List.map_drop,List.drop_drop]
    have:L.drop (16*(k+1)+min 16 (L.length-16*(k+1)))=L.drop (16*(k+1+1)):=by
     by_cases q:L.length<=16*(k+1+1)
     .rw[zJ U,zJ U]
     .grind
    rw[this]
   have st3:DU jA H 79 (.ptr cb 0 0) (.agg [.n 20,.n 0,.str ⟨#[]⟩,.sl .full 4 [A8 (NK (JK nm) L k),A8 (JD (JK nm) (Ho.part L (k+1)))]])=some (H.set cb (yE 4 [A8 (NK (JK nm) L (k+1))])):=by
    have:=Q5 (e:=orE (NK (JK nm) L k) (JD (JK nm) (Ho.part L (k+1)))) gc (EG _);rw[AJ4] at this;exact this
   have hcl:=AC gc;refine BB f1 e2 ?_;refine D6 AZ ?_;refine NY @cS f0 f1 f6 (PO gc) hs3 ?_;refine⟨_,iS G nm (Ho.part L (k+1)) _ (by have:=Q8 L (k+1);omega) _,?_⟩
   try refine NY @gV @A11 st3 f6 f1 hs4 ?_
   exact⟨_,U,k+1,rfl,hk',AL,AL,AL,AL,C9 g4 U,CV gc,hx.set U _⟩
  .have hk':¬16*(k+1)<L.length:=BM hc
   have he:rD nm L=NK (JK nm) L k:=by
    unfold rD;rw[if_neg hne,show parts L-1=k by unfold parts;omega]
   refine AB ?_;exact⟨AL,AL,g4,by rw[he];exact gc,hx⟩
 .rintro F H ⟨f4,f6,g4,gc,hx⟩
  simp only[vQ,YX,CP,↓reduceIte,jC,enP,jQ,f4,f6,PO gc,Q5 g4 rfl];rw[JM (b:=h.length) (EI f4) (PO (CV g4))];exact⟨rfl,hx.set (jF _) _⟩
theorem AUQ (a b:Int):I5 jA 145 [(0,.n a),(1,.n b)]=some (.agg (encR ⟨a,b⟩)):=AZ
theorem A4W (h:Hp)(r:Rng):DF jA false h 84 1 [(0,.agg (encR r))]=some (.sl .full 2 [encR r],h):=AZ
theorem A7D:Frz encR:=fun _ _ _ _=>⟨rfl,rfl⟩
theorem sX (l:List Int):(SB l).length<=l.length:=by
 have:∀(l:List Int) (o:List Rng),(l.foldl aA o).length<=o.length+l.length:=fun l=>by
  induction l with
  | nil=>intro o;simp
  | cons a l ih =>
    intro o;have h1:=ih (aA o a)
    have h2:(aA o a).length<=o.length+1:=by
     unfold aA
     cases hg:o.getLast? with
     | none=>simp
     | some r =>
       have hp:0<o.length:=by cases o<;>simp at hg|-
       simp only;split<;>simp<;>omega
    rw[List.foldl_cons,List.length_cons];omega
 have:=this l [];simpa [SB] using this
theorem AU6 (n:Int):aA [] n=[⟨n,n⟩]:=rfl
theorem A0C {R:List Rng}(hne:R≠[])(h:(R[R.length-1]'(by have:=qX.2 hne;omega)).hi=n-1):aA R n=R.set (R.length-1) ⟨(R[R.length-1]'(by have:=qX.2 hne;omega)).lo,n⟩:=by
 have hp:=qX.2 hne;have e:R.getLast?=some R[R.length-1]:=by grind
 unfold aA;rw[e];simp only;rw[if_pos h];apply List.ext_getElem?;intro j;rw[List.getElem?_set,List.dropLast_eq_take,List.getElem?_append,jZ,Nat.min_eq_left U];by_cases q:R.length-1=j
 .grind
 .grind
theorem AU7 {R:List Rng}(hne:R≠[])(h:¬(R[R.length-1]'(by have:=qX.2 hne;omega)).hi=n-1):aA R n=R++[⟨n,n⟩]:=by
 have hp:=qX.2 hne;have e:R.getLast?=some R[R.length-1]:=by grind
 unfold aA;rw[e];simp only;rw[if_neg h]
theorem AB5 (l:List Int)(v:AV)(h0 h:Hp)(hv:outG 1 Bins.qencI h0 l v h)(hl:l.length<=1048576)(hr:∀z∈l,-1048576<=z/\z<=1048576):PCall (En G) 181 [v] h (.sl (Cov.nm (SB l)) 2 ((SB l).map encR)):=by
 refine J3 A7D ?_;refine acT Tryz.func181 2 ?_;rcases hv with⟨rfl,rfl⟩|⟨hne,o,_,rfl,ho⟩
 .refine Y3 ?_
  refine BK (fun n F H=>F 3=.sl .nil 0 []/\F 8=.n 0/\F 9=.n 0/\H=h) 0 ⟨AQ,AQ,AQ,rfl⟩ ?_;rintro n F H ⟨f3,f8,f9,rfl⟩;refine ES f8 f9 (show decide ((0:Int)<0)=false by decide) f3 ?_;exact⟨ext.rfl' _,.inl ⟨rfl,rfl⟩⟩
 have ho:isI h o l:=ho;refine AB ?_
 refine BK (fun n F H=>∃i u,n+i=l.length/\F 3=u/\F 7=.own o 0 l.length/\F 8=.n (l.length:Nat)/\F 9=.n (i:Nat)/\Sm.ext h H/\outG 2 encR h (SB (l.take i)) u H) l.length
  ⟨0,.sl .nil 0 [],BA,AQ,AQ,AQ,AQ,ext.rfl' _,outG.nil _ _ _ _⟩ ?_
 rintro n F H ⟨i,u,hi,f3,f7,f8,f9,hx,hq⟩;refine BB f8 f9 ?_;refine D9 ?_ ?_<;>intro hi'
 .have hoH:isI H o l:=DI hx ho
  have ld:BI jA H 3 (.ptr o i 0)=some (.n l[i]):=by rw[hoH.ld hi',List.getD_eq_getElem?_getD,jI hi'];rfl
  obtain⟨r0,r1⟩:=hr _ (jG hi');have hsn:SB (l.take (i+1))=aA (SB (l.take i)) l[i]:=by rw[jU hi',mP]
  have hRl:=sX (l.take i);rw[jZ] at hRl
  have app:∀ {R:List Rng},SB (l.take i)=R->∃v' H',EQ jA true H 84 84 u (.sl .full 2 [encR ⟨l[i],l[i]⟩])=some (v',H')/\outG 2 encR h (R++[⟨l[i],l[i]⟩]) v' H'/\Sm.ext h H':=fun {R} hR=>by
   subst hR;obtain⟨v',H',a1,a2,_,a3,_,_⟩:=hq.append (P:=jA) aY MF APU AUB U U hx ⟨l[i],l[i]⟩;exact⟨v',H',a1,a2,a3⟩
  generalize SB (l.take i)=R at hq hsn hRl app;have fin:∀ {v':AV} {H':Hp} (hq':outG 2 encR h (SB (l.take (i+1))) v' H') (hx':Sm.ext h H') (n:Nat),n+i=l.length->∃m,m<n/\∃i' u,m+i'=l.length/\v'=u/\(.own o 0 l.length:AV)=.own o 0 l.length/\Sm.ext h H'/\outG 2 encR h (SB (l.take i')) u H':=fun hq' hx' n hn=>⟨n-1,U,i+1,_,U,rfl,rfl,hx',hq'⟩
  rcases hq with⟨rfl,rfl⟩|⟨hR,ob,hob,rfl,hb⟩
  .obtain⟨v',H',a1,a2,a3⟩:=app rfl
   rw[AU6] at hsn;rw[List.nil_append,<-hsn] at a2;simp only[vQ,JH,OW,EM,eX,CP,FZ,NZ,F6,JW,P9,MO,↓reduceIte,jC,enP,LY,xJ,f3,f7,f9,hoH.ix hi',ld,List.length_nil,show IntKind.i64.wrap (((0:Nat):Int)-1) = -1 by decide,show decide ((-1:Int)≥0)=false by decide,AUQ,A4W,a1,DC i];exact⟨n-1,U,i+1,v',U,AL,AL,AL,AL,a3,a2⟩
  .have hp:=qX.2 hR
   have hk:R.length-1<R.length:=U;have zk:IntKind.i64.wrap (((R.length:Nat):Int)-1)=((R.length-1:Nat):Int):=by rw[wrap_i64 U U];omega
   have zn:IntKind.i64.wrap (l[i]-1)=l[i]-1:=wrap_i64 U U;have ixo:IM 2 H (.own ob 0 R.length) (.n ((R.length-1:Nat):Int))=some (.ptr ob (R.length-1) 0):=by rw[GM hb hk,jH]
   have lh:BI jA H 3 (.ptr ob (R.length-1) 1)=some (.n R[R.length-1].hi):=by rw[BC ag3 hb (Cov.row_map hk)];rfl
   refine cM f3 f7 f9 @hoH.ix hi' ld zk @ADR ixo lh zn ?_;refine BO ?_ ?_<;>intro hd
   .have hd:R[R.length-1].hi=l[i]-1:=BM hd
    have st:DU jA H 3 (.ptr ob (R.length-1) 1) (.n l[i])=some (H.set ob (yE 2 ((R.set (R.length-1) ⟨R[R.length-1].lo,l[i]⟩).map encR))):=by
     rw[G8 (cs:=[.n l[i]]) rfl sz3 hb (Cov.row_map hk) (by simp [encR]),List.map_set];rfl
    refine JI f3 ixo st f9 (DC i) ?_;refine⟨n-1,U,i+1,_,U,AL,AL,AL,AL,hx.set hob _,?_⟩;rw[hsn,A0C hR hd];exact .inr ⟨fun e=>by have:=congrArg List.length e;simp at this;exact hR this,ob,hob,by rw[List.length_set],CV hb⟩
   .have hd:¬R[R.length-1].hi=l[i]-1:=BM hd
    obtain⟨v',H',a1,a2,a3⟩:=app rfl;rw[AU7 hR hd] at hsn;rw[<-hsn] at a2;refine NY f3 AUQ A4W a1 f9 (DC i) ?_;exact⟨n-1,U,i+1,v',U,AL,AL,AL,AL,a3,a2⟩
 .rw[jJ U] at hq
  refine A7 f3 ?_;exact⟨hx,hq⟩
theorem A7K (n:Int)(w:Wg)(c:Nat)(h:Hp)(hc:h[c]?=some (yE 1 [[.n n]])):PCall (En G) 179 ([.agg (JC w)]++[.ptr c 0 0]) h (.bool (Z4 n w)):=by
 refine ACalls.pure0 rfl ?_;refine acT Tryz.func179 3 ?_;have hc':(h++[yE 4 [JC w]])[c]?=_:=AO hc;have l0:BI jA (h++[yE 4 [JC w]]) 3 (.ptr h.length 0 0)=some (.n w.lo):=by rw[BC ag3 (AX _ _) (row:=JC w) rfl];rfl
 have l1:BI jA (h++[yE 4 [JC w]]) 3 (.ptr h.length 0 1)=some (.n w.hi):=by rw[BC ag3 (AX _ _) (row:=JC w) rfl];rfl
 have l2:BI jA (h++[yE 4 [JC w]]) 3 (.ptr c 0 0)=some (.n n):=GN ag3 hc';refine ES @A78 l0 l1 l2 ?_;cases b1:decide (w.lo<=n)
 .refine DW b1 l1 l2 ?_
  exact⟨by unfold Z4;rw[b1];rfl,_,rfl⟩
 .refine DW b1 l1 l2 ?_
  exact⟨by unfold Z4;rw[b1];rfl,_,rfl⟩
end
theorem al3 (h:Hp):GH jA h 3=some (.ptr h.length 0 0,h++[yE 1 [[.n 0]]]):=FB (row:=[.n 0]) AZ
theorem A98 (h:Hp)(n:Int):DU jA (h++[yE 1 [[.n 0]]]) 3 (.ptr h.length 0 0) (.n n)=some (h++[yE 1 [[.n n]]]):=by
 rw[IR (cs:=[.n n]) (row:=[.n 0]) rfl sz3 (AX _ _) (jF 1),JZ];rfl
theorem bsI (h:Hp)(n:Int):DF jA false h 32 1 [(0,.n n)]=some (.sl .full 1 [Bins.qencI n],h):=AZ
theorem AJ0 (ws:List Wg):∀k,∀z∈UH ws k,0<=z/\z<(k:Int)
 | 0,z,h=>by cases h
 | k+1,z,h=>by
   rcases List.mem_append.1 h with h|h
   .have:=AJ0 ws k z h;omega
   .grind
theorem ARB {ws:List Wg}:(OC (Z4 n) ws<0->RV n ws=false)/\(0<=OC (Z4 n) ws->∃k,∃hk:k<ws.length,OC (Z4 n) ws=(k:Nat)/\RV n ws=decide (ws[k].w>0)):=by
 constructor
 .intro h
  exact AJY (fS _ _ h)
 .intro h
  obtain⟨k,hk,e,h1,h2⟩:=VJ _ _ h;exact⟨k,hk,e,AJZ hk h2 h1⟩
theorem A3F {b:Nat}{d:Ds}(hb:H[b]?=some (yE 2 [IK d])):BI jA H 140 (.ptr b 0 0)=some (.agg (IK d)):=by
 rw[ED AL1 iK hb rfl (by rw[RJ];exact jF 2),zU,jJ (by rw[RJ];exact jF 2)]
section
variable (G:Nat->AV)
theorem vR (p:Pr)(hs:PrS p)(P:PV p)(d:Ds)(hr:PW p.vars d.var=true)(hwl:d.ws.length<=1048576)(h:Hp):PCall (En G) 99 [.agg (CY p),.agg (IK d)] h (.agg (A8 (AA6 p d))):=by
 obtain⟨k,hk,hdk,hm⟩:=Y9 hr;obtain⟨_,w1,w8,_⟩:=PQ (P.vr _ (jG hk));obtain⟨w,hw⟩:=Int.eq_ofNat_of_zero_le (U:0<=p.vars[k].width)
 have hsup:AA6 p d=rD p.vars[k].name (runs d.ws (2^w)):=by
  unfold AA6;rw[hdk,qB,jI hk];simp only;rw[hw,qB]
 have hW:(2:Nat)^w<=256:=by
  have:w<=8:=U
  calc (2:Nat)^w<=2^8:=Nat.pow_le_pow_right DT this
   _=256:=rfl
 have e2:(2:Int)^w=((2^w:Nat):Int):=by rw[Int.natCast_pow];rfl
 rw[hsup];refine ACalls.pure (R:=fun v H=>v=.agg (A8 (rD p.vars[k].name (runs d.ws (2^w))))/\Sm.ext h H) 3 ?_ (fun v H ⟨a,b⟩=>⟨b,by rw[a];exact RH _ _ 0 _⟩);refine acL Tryz.func99 [.cell 4 79] ?_;have gp:=AO (x:=yE 4 [EX]) (AO (x:=yE 2 [IK d]) (AX h (yE 5 [CY p])));have gd:=AO (x:=yE 4 [EX]) (AX (h++[yE 5 [CY p]]) (yE 2 [IK d]));have g4:=AX (h++[yE 5 [CY p]]++[yE 2 [IK d]]) (yE 4 [EX]);have hx:Sm.ext h (h++[yE 5 [CY p]]++[yE 2 [IK d]]++[yE 4 [EX]]):=(((ext.rfl' h).app _).app _).app _;have e4:(h++[yE 5 [CY p]]++[yE 2 [IK d]]).length=h.length+2:=BA;have e3:(h++[yE 5 [CY p]]).length=h.length+1:=BA;refine DW @QE @bxD RQ ?_;rw[show([AV.int .i64 0,.n 0,.str ⟨#[]⟩,.sl .nil 0 []]:List AV)=EX from rfl]
 rw[e4] at g4|-
 rw[e3] at gd|-
 generalize h++[yE 5 [CY p]]++[yE 2 [IK d]]++[yE 4 [EX]]=H0 at gp gd g4 hx|-
 have ldv:BI jA H0 3 (.ptr (h.length+1) 0 0)=some (.n (k:Nat)):=by rw[BC ag3 gd (row:=IK d) rfl];show some (AV.int .i64 d.var)=_;rw[hdk]
 have gp:=AO (x:=yE 4 [encV p.vars[k]]) gp;have gd:=AO (x:=yE 4 [encV p.vars[k]]) gd;have gv:=AX H0 (yE 4 [encV p.vars[k]]);have hl4:=AC g4;simp only[vQ,CP,WY,↓reduceIte,jC,Nat.add_zero,enP,ZZ,SS,yL,jQ,rP (show H0[h.length]?=some (yE 5 [CY p]) by rw[<-List.getElem?_append_left (l₂:=[yE 4 [encV p.vars[k]]]) U];exact gp),ldv,CZ hk,Bd.ldV hk,Bd.al61,Bd.st61];have g4:=AO (x:=yE 4 [encV p.vars[k]]) g4;have hx:=hx.app [yE 4 [encV p.vars[k]]];have hxv:Sm.ext H0 (H0++[yE 4 [encV p.vars[k]]]):=(ext.rfl' _).app _
 generalize H0++[yE 4 [encV p.vars[k]]]=H1 at gp gd g4 gv hx hxv|-
 generalize H0.length=vb at gv hl4|-
 clear ldv e3 e4;have lw:BI jA H1 3 (.ptr vb 0 1)=some (.n (w:Nat)):=by rw[BC ag3 gv rfl];show some (AV.int .i64 p.vars[k].width)=_;rw[hw]
 have hvb:=AC gv;refine BB lw (A57 w (by omega)) ?_;refine EU 0 (fun F H=>∃u,F 4=.ptr (h.length+2) 0 0/\F 5=.ptr vb 0 0/\F 6=u/\Sm.ext H1 H/\outG 1 Bins.qencI H1 (UH d.ws (2^w)) u H) (fun _ _=>False) ?_ ?_ (fun _ _ q=>q.elim)
 .refine BK (fun n F H=>∃i u,n+i=2^w/\F 3=.ptr (h.length+1) 0 0/\F 4=.ptr (h.length+2) 0 0/\F 5=.ptr vb 0 0/\F 6=u/\F 17=.n ((2^w:Nat):Int)/\F 18=.n (i:Nat)/\Sm.ext H1 H/\outG 1 Bins.qencI H1 (UH d.ws i) u H) (2^w)
   ⟨0,.sl .nil 0 [],BA,AQ,AQ,AQ,AQ,by refine AB ?_;rw[e2],AQ,ext.rfl' _,outG.nil _ _ _ _⟩ ?_
  rintro n F H ⟨i,u,hi,f3,f4,f5,f6,f17,f18,hxH,ho⟩;refine BB f17 f18 ?_;refine D9 ?_ ?_<;>intro hi'
  .have gi:=AX H (yE 1 [[.n (i:Nat)]])
   have hxH:=hxH.app [yE 1 [[.n (i:Nat)]]];have ho:=ho.app [yE 1 [[.n (i:Nat)]]];refine DW f18 al3 @A98 ?_
   generalize H++[yE 1 [[.n (i:Nat)]]]=H2 at gi hxH ho|-
   generalize H.length=ib at gi|-
   have gd2:=DI hxH gd;have lws:BI jA H2 120 (.ptr (h.length+1) 0 1)=some (.sl d.wm 4 (d.ws.map JC)):=by rw[BC AL2 gd2 rfl];rfl
   have li:BI jA H2 3 (.ptr ib 0 0)=some (.n (i:Nat)):=by rw[BC ag3 gi rfl];rfl
   refine BB f3 lws ?_;refine(ADH G d.ws d.wm 179 [.ptr ib 0 0] (Z4 (i:Nat)) H2 U fun x _=>A7K G (i:Nat) x ib H2 gi).use ?_;have fin:∀(u':AV) (H':Hp),Sm.ext H1 H'->outG 1 Bins.qencI H1 (UH d.ws (i+1)) u' H'->Sm.ext H1 H'/\outG 1 Bins.qencI H1 (UH d.ws (i+1)) u' H':=fun _ _ a b=>⟨a,b⟩
   have hl:=mY d.ws i;obtain⟨c1,c2⟩:=ARB (n:=(i:Nat)) (ws:=d.ws);cases b1:decide (OC (Z4 ((i:Nat):Int)) d.ws≥0)
   .have hp:=c1 (by have:=of_decide_eq_false b1;omega)
    have hps:UH d.ws (i+1)=UH d.ws i:=by simp only[UH];rw[if_neg (by rw[hp];decide),jO]
    rw[<-hps] at ho;refine DW b1 f18 (DC i) ?_;exact⟨n-1,U,i+1,u,U,AL,AL,AL,AL,AL,AL,hxH,ho⟩
   .obtain⟨j,hj,ej,hp⟩:=c2 (by have:=of_decide_eq_true b1;omega)
    rw[ej] at b1|-
    have lw2:BI jA H2 3 (.fptr 4 (d.ws.map JC) j 2)=some (.n d.ws[j].w):=by rw[CW ag3 hj];rfl
    refine NJ ASJ @eB b1 f3 lws hj lw2 ?_;refine BO ?_ ?_<;>intro hq
    .have hps:UH d.ws (i+1)=UH d.ws i++[((i:Nat):Int)]:=by simp only[UH];rw[if_pos (by rw[hp];exact hq)]
     obtain⟨v',H',a1,a2,_,a3,_,_⟩:=ho.append (P:=jA) U4 sz3 aV YW U U hxH ((i:Nat):Int);rw[<-hps] at a2;refine NY f6 li @bsI a1 f18 (DC i) ?_;exact⟨n-1,U,i+1,v',U,AL,AL,AL,AL,AL,AL,a3,a2⟩
    .have hps:UH d.ws (i+1)=UH d.ws i:=by simp only[UH];rw[if_neg (by rw[hp,hq];decide),jO]
     rw[<-hps] at ho;refine BB f18 (DC i) ?_;exact⟨n-1,U,i+1,u,U,AL,AL,AL,AL,AL,AL,hxH,ho⟩
  .have ei:i=2^w:=U
   rw[ei] at ho;refine AB ?_;exact⟨u,AL,AL,AL,hxH,ho⟩
 .rintro F H ⟨u,f4,f5,f6,hxH,ho⟩
  have gv2:=DI hxH gv;have g42:=DI hxH g4;have ln:BI jA H 9 (.ptr vb 0 0)=some (.str p.vars[k].name):=by rw[BC ag9 gv2 rfl];rfl
  have hpl:=mY d.ws (2^w);have hpi:=AJ0 d.ws (2^w);refine AB ?_;refine D6 AZ ?_;refine DW f5 f6 ln ?_;refine⟨_,AB5 G (UH d.ws (2^w)) u H1 _ ho U (fun z hz=>by have:=hpi z hz;omega),_,AGF G p.vars[k].name (runs d.ws (2^w)) _ (by have:=sX (UH d.ws (2^w));show(SB (UH d.ws (2^w))).length<=_;omega) _,?_⟩;simp only[vQ,P8,f4,Q5 g42 rfl];rw[JM (b:=h.length+2) (EI f4) (PO (CV g42))];exact⟨rfl,(hx.trans hxH).set U _⟩
def kQ (h:Hp)(ys:List Ex)(v:AV)(H:Hp):Prop:=∃o tail,h.length<=o/\v=.own o 0 ys.length/\H[o]?=some (yE 4 (ys.map A8++tail))
theorem ACR {h:Hp}{xs:List Ex}{v:AV}(ho:kQ h xs v H)(he:Sm.ext h H)(hl:xs.length+1<=8388608)(y:Ex):
  ∃v' H',EQ jA true H 23 23 v (.sl .full 4 [A8 y])=some (v',H')/\kQ h (xs++[y]) v' H'/\Sm.ext h H'/\(∀b x,H[b]?=some x->¬isB v b->H'[b]?=some x)/\∀b,isB v' b->b=H.length:=by
 obtain⟨o,tail,h2,rfl,h3⟩:=ho;have hc:I9 H (.own o 0 xs.length)=some (4,xs.map A8):=by rw[JS h3 BA,zU,List.take_append_of_le_length BA,jJ BA]
 refine⟨_,_,QB WB JE eY eM hc (GK H .full 4 [A8 y]) BA (G5 LD U),⟨H.length,[],he.le,BA,BA⟩,(he.set h2 _).app _,fun b x hb hn=>?_,fun b hb=>hb.symm⟩;exact AO (by rw[List.getElem?_set_ne (fun e=>hn e)];exact hb)
theorem ACQ {h:Hp}{ys:List Ex}{v:AV}(ho:kQ h ys v H)(d:Nat):FH h.length H (d+2) v=.sl .any 4 (ys.map A8):=by
 obtain⟨o,tail,h2,rfl,h3⟩:=ho;have e:((ys.map A8++tail).drop 0).take ys.length=ys.map A8:=by simp_all
 rw[Cov.frzF_own _ _ (d+1) o 0 ys.length 4 _ U h3,e,frz_rows Ho.frzEx _ _ d _,if_pos];refine⟨BA,?_⟩;rw[List.all_eq_true];intro row hr;obtain⟨x,_,rfl⟩:=List.mem_map.1 hr;exact VQ x
theorem A6O (h:Hp)(n:Nat)(hn:n<=1048576):GV jA true h 23 (.n 0) (.n (n:Int))=some (.own h.length 0 0,h++[yE 4 (jR n EX)]):=by
 have hz:MJ jA 79=some EX:=AZ;have hr:room n 56:=G5 U U;unfold GV;simp only[WB,JE,eM,hz];rw[if_pos ⟨U,U,by rw[qB];exact hr,rfl⟩];simp
theorem ALK {p:Pr}(hv:IX p=0):∀d∈p.dists,PW p.vars d.var=true/\d.ws.length<=16:=by
 have h3:NV p.vars p.dists=0:=by
  unfold IX at hv;by_cases h1:KO p.vars≠0
  .simp_all
  rw[if_neg h1] at hv;by_cases h2:KC p.vars (p.hard++p.soft)≠0
  .simp_all
  rw[if_neg h2] at hv;by_cases h3:NV p.vars p.dists≠0
  .simp_all
  simpa using h3
 intro d hd;obtain⟨i,hi,rfl⟩:=List.getElem_of_mem hd;unfold NV at h3;have h4:=Bd.fstE_zero h3 i (BM hi);rw[oT hi] at h4;unfold dsE at h4
 cases hr:PW p.vars p.dists[i].var with
 | false=>rw[if_neg (by rw[hr];decide)] at h4;exact absurd h4 DT
 | true =>
   rw[if_pos hr] at h4;refine⟨rfl,?_⟩;split at h4
   .exact absurd h4 DT
   .omega
theorem eU (hG:GOk G)(p:Pr)(hs:PrS p)(hv:IX p=0)(h:Hp):PCall (En G) 46 [.agg (CY p)] h (.sl .any 4 ((WC p).map A8)):=by
 have P:=PV.of hv;refine ACalls.pure (R:=fun v H=>kQ h (WC p) v H/\Sm.ext h H) 2 ?_ (fun v H ⟨a,b⟩=>⟨b,ACQ a 0⟩);refine acT Tryz.func46 2 ?_;have gp:=AX h (yE 5 [CY p]);have hx:=Sm.ext.r1 h (yE 5 [CY p]);have hdl:=hs.dists;refine A7 @QE ?_
 generalize h++[yE 5 [CY p]]=H0 at gp hx|-
 have ldP:∀ {H:Hp},H[h.length]?=some (yE 5 [CY p])->BI jA H 27 (.ptr h.length 0 0)=some (.agg (CY p)):=fun q=>by rw[ED lC cY q (row:=CY p) rfl (by rw[L8];exact jF 5)];rfl
 have ldD:∀ {H:Hp},H[h.length]?=some (yE 5 [CY p])->BI jA H 24 (.ptr h.length 0 3)=some (.sl p.dm 2 (p.dists.map IK)):=fun q=>by rw[BC AU5 q (row:=CY p) rfl];rfl
 refine A7 (ldP gp) ?_;refine(Bd.valid_prog G hG p hs H0).use ?_;refine DW (show(IX p != 0)=false by rw[hv];rfl) (ldD gp) (A6O H0 p.dists.length hdl) ?_;have hpl0:=AC gp;have ho:kQ h ((WC p).take 0) (.own H0.length 0 0) (H0++[yE 4 (jR p.dists.length EX)]):=⟨H0.length,jR p.dists.length EX,hx.le,rfl,BA⟩;have gp:=AO (x:=yE 4 (jR p.dists.length EX)) gp;have hx:=hx.app [yE 4 (jR p.dists.length EX)];have hb0:∀b,isB (.own H0.length 0 0) b->b≠h.length:=fun b hb=>by cases hb;omega
 generalize H0++[yE 4 (jR p.dists.length EX)]=H1 at gp hx ho|-
 refine A7 (ldD gp) ?_;generalize AV.own H0.length 0 0=v0 at ho hb0;have hsl:(WC p).length=p.dists.length:=by unfold WC;rw[jP]
 refine BK (fun n F H=>∃i v,n+i=p.dists.length/\F 1=.ptr h.length 0 0/\F 3=v/\F 14=.sl p.dm 2 (p.dists.map IK)/\F 15=.n (p.dists.length:Nat)/\F 16=.n (i:Nat)/\H[h.length]?=some (yE 5 [CY p])/\Sm.ext h H/\kQ h ((WC p).take i) v H/\∀b,isB v b->b≠h.length) p.dists.length
  ⟨0,v0,BA,AQ,AQ,AQ,AQ,AQ,gp,hx,ho,hb0⟩ ?_
 clear gp hx ho hb0;rintro n F H ⟨i,v,hi,f1,f3,f14,f15,f16,gp,hx,ho,hb0⟩;refine BB f15 f16 ?_;refine D9 ?_ ?_<;>intro hi'
 .obtain⟨d1,d2⟩:=ALK hv _ (jG hi')
  have lt:=AC gp;have gp:=AO (x:=yE 2 [IK p.dists[i]]) gp;have hx:=hx.app [yE 2 [IK p.dists[i]]];have gd:=AX H (yE 2 [IK p.dists[i]])
  have ho:kQ h ((WC p).take i) v (H++[yE 2 [IK p.dists[i]]]):=by
   obtain⟨o,tail,q1,q2,q3⟩:=ho;exact⟨o,tail,q1,q2,AO q3⟩
  have ald:GH jA H 140=some (.ptr H.length 0 0,H++[yE 2 [[.n 0,.sl .nil 0 []]]]):=FB (row:=[.n 0,.sl .nil 0 []]) AZ
  have std:DU jA (H++[yE 2 [[.n 0,.sl .nil 0 []]]]) 140 (.ptr H.length 0 0) (.agg (IK p.dists[i]))=some (H++[yE 2 [IK p.dists[i]]]):=by
   rw[IR (cs:=IK p.dists[i]) (row:=[.n 0,.sl .nil 0 []]) rfl (by rw[RJ];exact iK) (AX _ _) (by rw[RJ];exact jF 2),JZ];rfl
  simp only[vQ,CP,↓reduceIte,jC,enP,AN6,jQ,f14,f16,CZ hi',DJ AL1 iK RJ hi',ald,std]
  generalize H++[yE 2 [IK p.dists[i]]]=H2 at gp hx gd ho|-
  refine ES f1 f3 (ldP gp) (A3F gd) ?_;refine(vR G p hs P p.dists[i] d1 U H2).use ?_;obtain⟨v',H',a1,a2,a3,a4,a5⟩:=ACR ho hx (by rw[jZ];omega) (AA6 p p.dists[i]);have hit:i<(WC p).length:=U;have hget:(WC p)[i]=AA6 p p.dists[i]:=by simp [WC]
  rw[<-hget,<-jU hit] at a2;refine ES @uO a1 f16 (DC i) ?_;refine⟨n-1,U,i+1,v',U,AL,AL,AL,AL,AL,a4 _ _ gp (fun q=>hb0 _ q rfl),a3,a2,fun b hb=>by have:=a5 b hb;have:=AC gp;have:=AC gd;omega⟩
 .rw[jJ U] at ho
  refine A7 f3 ?_;exact⟨ho,hx⟩
end
end Go.Proofs.YtiihpnicbekebaaGreatDoor.Bd.Cl
namespace Go.Proofs.YtiihpnicbekebaaGreatDoor.Bd.Cl
open Sm Bins Cov Xe Wd Bl Go.RowKit
variable {H h:Hp} {u v:AV} {a b c:List Int} {i:Nat} {e:Ex} {p:Pr}
theorem BAJ (o off len:Nat):IG jA 32 .eql (.own o off len) (.sl .nil 0 [])=some (.bool false):=AZ
def cpO (h H:Hp)(xs:List Int)(v:AV):Prop:=(xs=[]/\v=.sl .full 1 [])\/(xs≠[]/\∃o,h.length<=o/\v=.own o 0 xs.length/\isI H o xs)
theorem cpO.app {xs:List Int}(q:cpO h H xs v)(x:ABlk):cpO h (H++[x]) xs v:=q.imp id fun⟨a,o,b,c,d⟩=>⟨a,o,b,c,AO d⟩
theorem cpO.keep {h H H':Hp}{B:List Nat}{xs:List Int}{v:AV}(q:cpO h H xs v)(k:KB B H H')(hB:∀b∈B,b<h.length):cpO h H' xs v :=
 q.imp id fun⟨a,o,b,c,d⟩=>⟨a,o,b,c,k.keep _ _ d fun hm=>by have:=hB _ hm;omega⟩
section
variable (G:Nat->AV)
theorem AH9 {o:Nat}{xs:List Int}(ho:isI h o xs)(hm:xs.length<=1048576):ACalls (En G) 189 [.own o 0 xs.length] h fun v H=>ext h H/\cpO h H xs v:=by
 by_cases hz:xs.length=0
 .have e:xs=[]:=qV hz
  subst e;refine acT Tryz.func189 2 ?_
  have ap:EQ jA true h 32 32 (.sl .full 1 []) (.own o 0 0)=some (.sl .full 1 [],h):=by
   unfold EQ;have hs:TD jA h 1 32 (.own o 0 0)=some []:=by unfold TD;simp only[U4,JS ho (BA:0+0<=(([]:List Int).map Bins.qencI).length)];rfl
   simp only[U4,sz3,GK,hs];rfl
  refine MI BAJ @AIG ap ?_;exact⟨ext.rfl' _,.inl ⟨rfl,rfl⟩⟩
 .refine(uN G ho (U:0+xs.length=xs.length) U hm).mono ?_
  rintro v H ⟨rfl,rfl⟩;exact⟨(ext.rfl' h).app _,.inr ⟨fun e=>hz (by rw[e];rfl),h.length,jF _,rfl,by rw[List.drop_zero];exact AX _ _⟩⟩
theorem AVO (hG:GOk G)(l:List Sg)(v:AV)(h0 h:Hp)(hv:outG 2 FU h0 l v h)(e:Ex)(hl:l.length<=1048576)(hw:wt e<=1048576):PCall (En G) 143 [.agg (A8 e),v] h (evV (evE l e)):=by
 rcases hv with⟨rfl,rfl⟩|⟨hne,o,ho,rfl,hb⟩
 .exact ACalls.args (ZV G hG [] .nil e h BA hw) (CvRL.cons (CvR.refl _) (CvRL.cons (CvR.sl (Cv.nil 0 2)) CvRL.nil))
 .refine PCall.thaw (args':=[.agg (A8 e),.sl .any 2 (l.map FU)]) (ZV G hG l .any e _ U hw) rfl (fun i v' hi=>?_) rfl
  match i,hi with
  | 0,hi=>exact⟨_,rfl,by cases hi;exact .same _⟩
  | 1,hi =>
    refine⟨_,rfl,?_⟩;cases hi;refine .own o 2 l.length (l.map FU) hb (by rw[List.length_map]) fun row hr u hu=>?_
    obtain⟨s,_,rfl⟩:=List.mem_map.1 hr;simp only[FU,List.mem_cons,List.not_mem_nil,or_false] at hu;rcases hu with rfl|rfl<;>exact⟨rfl,rfl⟩
  | i+2,hi=>cases hi
theorem ATP {vars:List Vr}(z:Int)(h1:i<vars.length)(h2:i<a.length):(GI vars a).set i (vars[i].name,z)=GI vars (a.set i z):=by
 apply List.ext_getElem?;intro j;have hel:∀ {b:List Int},j<(GI vars b).length↔j<vars.length/\j<b.length:=fun {b}=>by unfold GI;simp;omega
 by_cases hj:j<vars.length/\j<a.length
 .have hj1:j<(GI vars (a.set i z)).length:=hel.2 ⟨hj.1,by rw[qY];exact hj.2⟩
  rw[List.getElem?_set,jI hj1,ZO hj.1 (by rw[qY];exact hj.2) hj1,List.getElem_set];by_cases e:i=j
  .simp_all
  .rw[if_neg e,if_neg e,jI (hel.2 hj),ZO hj.1 hj.2 (hel.2 hj)]
 .simp_all
def kR (c b:List Int)(i:Nat):List Int:=c.take i++b.drop i
theorem ARY (h:c.length=b.length)(i:Nat):(kR c b i).length=b.length:=by unfold kR;simp;omega
theorem ARX (h:c.length=b.length)(hi:i<c.length):(kR c b i).set i (c.getD i 0)=kR c b (i+1):=by
 unfold kR;rw[List.set_append_right _ _ (by rw[jZ];omega),jZ,Nat.min_eq_left U,Nat.sub_self,List.drop_eq_getElem_cons (U:i<b.length),List.set_cons_zero,jU hi,List.append_assoc];rw[List.getD_eq_getElem?_getD,jI hi];rfl
theorem VM:∀(vars:List Vr) (a:List Int),a.length=vars.length->∀n:ByteArray,(LJ (GI vars a) n).2=decide (0<=plc vars n)
 | [],[],_,n=>rfl
 | [],_::_,hl,_=>by simp at hl
 | _::_,[],hl,_=>by simp at hl
 | v::vs,z::a,hl,n=>by
   have e:LJ (GI (v::vs) (z::a)) n=if(v.name.toList==n.toList)=true then (wW z,true) else LJ (GI vs a) n:=rfl
   have ep:plc (v::vs) n=if(v.name.toList==n.toList)=true then 0 else if plc vs n<0 then -1 else plc vs n+1:=rfl
   rw[e,ep];by_cases q:(v.name.toList==n.toList)=true
   .rw[if_pos q,if_pos q];rfl
   .rw[if_neg q,if_neg q,VM vs a (BM hl) n,decide_eq_decide]
    split<;>omega
theorem APY {l:List Vr}(h:xpE l e=0):exE e=0/\sC e=false/\nV l e=false:=by
 unfold xpE at h;by_cases he:exE e≠0
 .rw[if_pos he] at h;exact absurd h he
 rw[if_neg he] at h;unfold plE at h;refine⟨BM he,?_,?_⟩
 .grind
 .grind
theorem A61 (h:xpE p.vars e=0)(hl:a.length=p.vars.length):(pre e).all (knE (GI p.vars a))=true:=by
 obtain⟨_,h2,h3⟩:=APY h;rw[zL];intro x hx
 have a2:O1 x=false:=by
  cases q:O1 x
  .rfl
  .unfold sC at h2;rw[qO] at h2;exact absurd q (h2 x hx)
 have a3:PL p.vars x=false:=by
  cases q:PL p.vars x
  .rfl
  .unfold nV at h3;rw[qO] at h3;exact absurd q (h3 x hx)
 unfold knE;by_cases e2:x.op=2
 .rw[if_pos e2,VM p.vars a hl,decide_eq_true_eq]
  unfold PL at a3;simp [e2] at a3;exact a3
 .rw[if_neg e2]
  unfold O1 at a2;rw[if_neg];intro q;rcases q with q|q<;>simp [q] at a2
theorem A1P (h:xpE p.vars e=0)(hl:a.length=p.vars.length):evE (GI p.vars a) e=(FV (GI p.vars a) e,0):=by
 unfold evE;rw[if_neg (by simpa using (APY h).1),if_pos (A61 h hl)]
def Dh (h:Hp)(p:Pr)(c b:List Int)(u v:AV)(H:Hp):Prop :=
 (p.vars.length=0/\u=.sl .full 1 []/\v=.sl .nil 0 [])\/(p.vars.length≠0/\∃eb o,h.length<=eb/\eb<o/\v=.own eb 0 p.vars.length/\u=.own o 0 p.vars.length/\H[eb]?=some (yE 2 ((GI p.vars b).map FU))/\isI H o c)
theorem Dh.kb {H':Hp}(d:Dh h p c b u v H){B:List Nat}(k:KB B H H')(hB:∀x∈B,x<h.length):Dh h p c b u v H' :=
 d.imp id fun⟨a,eb,o,q1,q2,q3,q4,q5,q6⟩=>⟨a,eb,o,q1,q2,q3,q4,k.keep _ _ q5 fun hm=>by have:=hB _ hm;omega,k.keep _ _ q6 fun hm=>by have:=hB _ hm;omega⟩
theorem Dh.env (d:Dh h p c b u v H)(hb:b.length=p.vars.length):outG 2 FU h (GI p.vars b) v H:=by
 have hel:=RG hb;rcases d with⟨z,_,rfl⟩|⟨z,eb,o,q1,q2,rfl,q4,q5,q6⟩
 .exact .inl ⟨qV U,rfl⟩
 .exact .inr ⟨fun e=>z (by rw[<-hel,e];rfl),eb,q1,by rw[hel],q5⟩
theorem Dh.cpy (d:Dh h p c b u v H)(hc:c.length=p.vars.length):cpO h H c u:=by
 rcases d with⟨z,rfl,_⟩|⟨z,eb,o,q1,q2,_,rfl,q5,q6⟩
 .exact .inl ⟨qV U,rfl⟩
 .exact .inr ⟨fun e=>z (by rw[<-hc,e];rfl),o,U,by rw[hc],q6⟩
theorem A94 {b:Nat}{l:List Sg}(hb:H[b]?=some (yE 2 (l.map FU)))(hi:i<l.length)(z:Int):DU jA H 3 (.ptr b i 1) (.n z)=some (H.set b (yE 2 ((l.set i (l[i].1,z)).map FU))):=by
 rw[G8 (cs:=[.n z]) rfl sz3 hb (Cov.row_map hi) (by simp [FU]),List.map_set];rfl
theorem hit_prog (hG:GOk G)(p:Pr)(hs:PrS p)(P:PV p)(lm:SM)(l:List Ex)(hl:l.length<=1048576)(hw:∀e∈l,wt e<=1048576)(hk:∀e∈l,xpE p.vars e=0)(st:Int)(a:List Int)(ok:AOk p a)(fb ab:Nat)(hne:fb≠ab)(h:Hp)(hst:(lft p a:Int)<=st)(hst2:st<=262144)
  (hf:isF h fb p lm l ab p.vars.length false st) (hb:isI h ab a):ACalls (En G) 183 [.ptr fb 0 0] h fun v H=>KB [fb,ab] h H/\match kL p l (lft p a) a with
  | some b=>∃u,v=.tup [u,.bool true]/\cpO h H b u
  | none=>v=.tup [.sl .nil 0 [],.bool false]/\∃st',isF H fb p lm l ab p.vars.length true st':=by
 generalize hR:kL p l (lft p a) a=R;have hvl:=hs.vars;have hal:=ok.len;have hfl:=AC hf;have hbl:=AC hb;have hB:∀x∈[fb,ab],x<h.length:=fun x hx=>by simp at hx;omega
 refine acL Tryz.func183 [.tmp 2,.tmp 3] ?_;refine BB @uQ @ZU ?_;refine uP (.ones [0,1,2,3,4,5,6,7] (.alt 8 (.ones [9] .done) .non)) AZ ?_;simp only[DN,NG,List.getElem?_cons_succ,List.getElem?_cons_zero];refine ES @yJ @WT @hf.pr @hf.as ?_;have hE:=A0M G p hs a ab hal h hb;rw[hal] at hE;refine⟨ACalls.mono hE ?_,trivial⟩;rintro v0 H1 ⟨hx1,ho1⟩;have k1:KB [fb,ab] h H1:=⟨hx1.le,fun i y q _=>DI hx1 q⟩;have hf1:isF H1 fb p lm l ab p.vars.length false st:=DI hx1 hf;have hb1:isI H1 ab a:=DI hx1 hb;refine DW @A3G @A3H @ZU ?_;refine EU 0 (fun F H=>KB [fb,ab] h H/\R=none/\∃st',isF H fb p lm l ab p.vars.length true st') (fun F H=>KB [fb,ab] h H/\∃b,R=some b/\F 3=.bool true/\cpO h H b (F 2)) ?_ ?_ ?_
 .refine BK (fun n F H=>∃ov c b st,F 0=.ptr fb 0 0/\KB [fb,ab] h H/\b.length=p.vars.length/\outG 2 FU h (GI p.vars b) (F 4) H/\isF H fb p lm l ab p.vars.length ov st/\c.length=p.vars.length/\isI H ab c/\(ov=true->R=none)/\(ov=false->n=lft p c/\AOk p c/\kL p l (lft p c) c=R/\(lft p c:Int)<=st/\st<=262144)) (lft p a)
   ⟨false,a,a,st,AQ,k1,hal,by refine AB ?_;exact ho1,hf1,hal,hb1,(fun q=>by cases q),fun _=>⟨rfl,ok,hR,hst,hst2⟩⟩ ?_
  clear hf hb hf1 hb1 k1 ho1 hx1 hst hst2;rintro n F H ⟨ov,c,b,st,f0,k1,hbn,ho,hf,hcn,hb,hov,hno⟩
  cases ov with
  | true =>
    refine DW @lJ f0 @hf.ovd ?_;exact⟨k1,hov rfl,st,hf⟩
  | false =>
    obtain⟨rfl,okc,hS,hs1,hs2⟩:=hno rfl;have hpos:=AKL okc;have z1:IntKind.i64.wrap (st-1)=st-1:=wrap_i64 U U;have b1:decide (st>0)=true:=by rw[decide_eq_true_eq];omega
    have k2:=k1.set (b:=fb) BA (yE 9 [fdr p lm l ab p.vars.length false (st-1)]);have hf2:isF (H.set fb (yE 9 [fdr p lm l ab p.vars.length false (st-1)])) fb p lm l ab p.vars.length false (st-1):=CV hf;have hb2:isI (H.set fb (yE 9 [fdr p lm l ab p.vars.length false (st-1)])) ab c:=by unfold isI;rw[zD hne];exact hb
    have ho2:outG 2 FU h (GI p.vars b) (F 4) (H.set fb (yE 9 [fdr p lm l ab p.vars.length false (st-1)])):=ho.setB hfl _;refine Y2 @WT @lJ @AY2 f0 @hf.ovd @hf.std b1 z1 @hf.setSt ?_
    generalize H.set fb (yE 9 [fdr p lm l ab p.vars.length false (st-1)])=H2 at k2 hf2 hb2 ho2|-
    refine BB f0 @hf2.as ?_;have hC:=AH9 G hb2 U;rw[hcn] at hC;refine hC.mono ?_;rintro u H3 ⟨hx3,hc3⟩;have k3:KB [fb,ab] h H3:=k2.trans ⟨hx3.le,fun i y q _=>DI hx3 q⟩;have hf3:isF H3 fb p lm l ab p.vars.length false (st-1):=DI hx3 hf2;have hb3:isI H3 ab c:=DI hx3 hb2;have ho3:=Ho.outG_ext ho2 hx3
    have hd3:Dh h p c (kR c b 0) u (F 4) H3:=by
     have e0:kR c b 0=b:=by simp [kR]
     rw[e0];have hel:=RG hbn;rcases hc3 with⟨z,rfl⟩|⟨z,o,q1,rfl,q2⟩
     .have hz:p.vars.length=0:=by rw[<-hcn,z];rfl
      rcases ho3 with⟨_,w⟩|⟨w,_⟩
      .exact .inl ⟨hz,rfl,w⟩
      .simp_all
     .have hz:p.vars.length≠0:=fun q=>z (qV U)
      rcases ho2 with⟨w,_⟩|⟨w,eb,p1,p2,p3⟩
      .simp_all
      .exact .inr ⟨hz,eb,o,p1,by have:=AC p3;omega,by rw[p2,hel],by rw[hcn],DI hx3 p3,q2⟩
    have hlen:JU jA 32 u=some (.n (p.vars.length:Nat)):=by
     rcases hd3 with⟨z,rfl,z3⟩|⟨z,eb,o,q1,q2,q3,rfl,q5,q6⟩
     .simp only[dO,z];rfl
     .simp only[dO]
    refine A7 @hlen ?_;refine EU 2 (fun F' H'=>F' 0=.ptr fb 0 0/\F' 4=F 4/\F' 5=u/\KB [fb,ab] h H'/\isF H' fb p lm l ab p.vars.length false (st-1)/\isI H' ab c/\Dh h p c c u (F 4) H') (fun _ _=>False) ?_ ?_ (fun _ _ q=>q.elim)
    .refine BK (fun n F' H'=>∃i,n+i=p.vars.length/\F' 0=.ptr fb 0 0/\F' 4=F 4/\F' 5=u/\F' 45=u/\F' 46=.n (p.vars.length:Nat)/\F' 47=.n (i:Nat)/\KB [fb,ab] h H'/\isF H' fb p lm l ab p.vars.length false (st-1)/\isI H' ab c/\Dh h p c (kR c b i) u (F 4) H') p.vars.length
      ⟨0,BA,EI f0,AQ,AQ,AQ,AQ,AQ,k3,hf3,hb3,hd3⟩ ?_
     clear k3 hf3 hb3 hd3;rintro n F2 H' ⟨i,hi,f0,f4,f5,f45,f46,f47,k3,hf3,hb3,hd3⟩;refine BB f46 f47 ?_;refine D9 ?_ ?_<;>intro hi'
     .have hic:i<c.length:=U
      rcases hd3 with⟨z,_⟩|⟨z,eb,o,q1,q2,q3,q4,q5,q6⟩
      .omega
      have hml:=ARY (c:=c) (b:=b) U i;have hie:i<(GI p.vars (kR c b i)).length:=by rw[RG U];exact hi'
      have ss:=A94 q5 hie (c.getD i 0);rw[ZO hi' U hie,ATP _ hi' U,ARX U hic] at ss;have ixe:IM 2 H' (.own eb 0 p.vars.length) (.n (i:Nat))=some (.ptr eb i 0):=by rw[GM q5 hi',jH]
      rw[q4] at f45;rw[q3] at f4;simp only[vQ,OW,CP,↓reduceIte,jC,enP,LY,A1H,ALE,jQ,f0,f4,f45,f47,q6.ix hi',q6.ld hic,ixe,ss,DC i];refine⟨n-1,U,i+1,U,AL,by first|exact True.intro|(rw[q3];exact f4)|exact q3.symm,AL,by first|exact True.intro|(rw[q4];exact f45)|exact q4.symm,AL,AL,⟨by rw[qY];exact k3.len,fun k y q hm=>?_⟩,?_,?_,.inr ⟨z,eb,o,q1,q2,q3,q4,CV q5,?_⟩⟩
      .rw[zD (by have:=AC q;omega)];exact k3.keep k y q hm
      .grind
      .grind
      .grind
     .have e1:kR c b i=c:=by unfold kR;rw[jJ U,List.drop_eq_nil_of_le U,List.append_nil]
      rw[e1] at hd3;refine AB ?_;exact⟨AL,AL,AL,k3,hf3,hb3,hd3⟩
    clear k3 hf3 hb3 hd3 ho3 hc3 hx3 ho2 hb2 hf2 k2 ho hf hb hov hno k1;rintro F2 H' ⟨f0,f4,f5,k3,hf3,hb3,hd3⟩;have hA:=AAH G p hs P lm l (st-1) c okc fb ab hne H' (by rw[hcn];exact hf3) hb3;rw[hcn] at hA;refine A7 f0 ?_;refine hA.mono ?_;rintro _ H4 ⟨kA,post⟩;have k4:=k3.trans kA;have hd4:=hd3.kb kA hB;generalize hN:nxK p.vars p.vars.length c=O at post
    obtain⟨ov',c',hf4,hc'n,hb4,ho1,ho2⟩:∃ov' c',isF H4 fb p lm l ab p.vars.length ov' (st-1)/\c'.length=p.vars.length/\isI H4 ab c'/\(ov'=true->O=none)/\(ov'=false->O=some c'):=by
     cases O with
     | none =>
       obtain⟨q1,c',q2,q3⟩:=post;exact⟨true,c',q1,U,q3,fun _=>rfl,fun q=>by cases q⟩
     | some c' =>
       obtain⟨q1,q2⟩:=post;exact⟨false,c',q1,(nL okc hN).1.len,q2,(fun q=>by cases q),fun _=>rfl⟩
    clear post hA
    have go:TE p l c≠true->(ov'=true->R=none)/\(ov'=false->AOk p c'/\lft p c'+1=lft p c/\kL p l (lft p c') c'=R):=fun hns=>by
     obtain⟨k,hk'⟩:∃k,lft p c=k+1:=⟨lft p c-1,U⟩;rw[hk'] at hS;unfold kL at hS;rw[if_neg hns,hN] at hS;constructor
     .grind
     .intro q
      rw[ho2 q] at hN hS;have hS:kL p l k c'=R:=hS;obtain⟨n1,n2⟩:=nL okc hN;refine⟨n1,n2,?_⟩;rw[<-hS,show lft p c'=k by omega]
    have hdone:TE p l c=true->R=some c:=fun q=>by
     obtain⟨k,hk'⟩:∃k,lft p c=k+1:=⟨lft p c-1,U⟩;rw[hk'] at hS;unfold kL at hS;rw[if_pos q] at hS;exact hS.symm
    refine DW @AY3 f0 @hf4.es ?_
    refine BK (fun n F' H'=>∃i,n+i=l.length/\F' 0=.ptr fb 0 0/\F' 4=F 4/\F' 5=u/\F' 63=.sl lm 4 (l.map A8)/\F' 64=.n (l.length:Nat)/\F' 65=.n (i:Nat)/\KB [fb,ab] h H'/\isF H' fb p lm l ab p.vars.length ov' (st-1)/\isI H' ab c'/\Dh h p c c u (F 4) H'/\∀e∈l.take i,FV (GI p.vars c) e≠0) l.length
     ⟨0,BA,EI f0,EI f4,EI f5,AQ,AQ,AQ,k4,hf4,hb4,hd4,BA⟩ ?_
    clear f0 f4 f5 k3 hf3 hb3 hd3 k4 hf4 hb4 hd4 kA;rintro n F2 H' ⟨i,hi,f0,f4,f5,f63,f64,f65,k4,hf4,hb4,hd4,hsat⟩;refine BB f64 f65 ?_;refine D9 ?_ ?_<;>intro hi'
    .have hmem:=List.getElem_mem hi'
     have k5:=k4.app (yE 4 [A8 l[i]]);have hf5:isF (H'++[yE 4 [A8 l[i]]]) fb p lm l ab p.vars.length ov' (st-1):=AO hf4;have hb5:isI (H'++[yE 4 [A8 l[i]]]) ab c':=AO hb4;have hd5:=hd4.kb ((KB.rfl' [fb,ab] H').app (yE 4 [A8 l[i]])) hB;have gE:=AX H' (yE 4 [A8 l[i]]);simp only[vQ,CP,↓reduceIte,jC,enP,PZ,jQ,f63,f65,CZ hi',DJ O6 JE EG hi',al79,st79]
     generalize H'++[yE 4 [A8 l[i]]]=H5 at k5 hf5 hb5 hd5 gE|-
     refine BB (IU gE) f4 ?_;have hel:=RG (vars:=p.vars) hcn;refine(AVO G hG (GI p.vars c) (F 4) h H5 (hd5.env hcn) l[i] U (hw _ hmem)).use ?_;have hev:evV (evE (GI p.vars c) l[i])=.tup [.n (FV (GI p.vars c) l[i]:Nat),.n 0]:=by rw[A1P (hk _ hmem) hcn];rfl
     rw[hev];refine AB ?_;refine BO ?_ ?_<;>intro hz
     .have hz:FV (GI p.vars c) l[i]=0:=BM hz
      have hns:TE p l c≠true:=fun q=>by
       unfold TE at q;rw[zL] at q;have:=q _ hmem;rw[hz] at this;simp at this
      obtain⟨g1,g2⟩:=go hns;refine AB ?_
      cases hq:ov' with
      | true =>
        refine⟨0,hpos,true,c',c,st-1,AL,k5,hcn,?_,by rw[<-hq];exact hf5,hc'n,hb5,fun _=>g1 hq,fun q=>by cases q⟩
        first|(rw[f4];exact hd5.env hcn)|exact hd5.env hcn
      | false =>
        obtain⟨n1,n2,n3⟩:=g2 hq;refine⟨lft p c',U,false,c',c,st-1,AL,k5,hcn,?_,by rw[<-hq];exact hf5,hc'n,hb5,(fun q=>by cases q),fun _=>⟨rfl,n1,n3,U,U⟩⟩
        first|(rw[f4];exact hd5.env hcn)|exact hd5.env hcn
     .have hz:FV (GI p.vars c) l[i]≠0:=BM hz
      refine BB f65 (DC i) ?_;refine⟨n-1,U,i+1,U,AL,AL,AL,AL,AL,AL,k5,hf5,hb5,hd5,fun e he=>?_⟩;rw[jU hi'] at he;rcases List.mem_append.1 he with h1|h1
      .exact hsat e h1
      .rw[List.mem_singleton.1 h1];exact hz
    .rw[jJ U] at hsat
     have hs1:TE p l c=true:=by
      unfold TE;rw[zL];intro e he;have:=hsat e he;simpa using this
     refine A7 f5 ?_;exact⟨k4,c,hdone hs1,AL,hd4.cpy hcn⟩
 .rintro F H ⟨k1,ho,st',hf⟩
  refine AB ?_;refine⟨k1,?_⟩;rw[ho];exact⟨AL,st',hf⟩
 .rintro F H ⟨k1,b,ho,f3,hc⟩
  refine A7 f3 ?_;refine⟨k1,?_⟩;rw[ho];exact⟨_,AL,hc⟩
end
def FstQ (r:Option (List Int))(v:AV):Prop:=match r with
 | some a=>∃m,m≠.nil/\v=.tup [.sl m 1 (a.map Bins.qencI),.n 0]
 | none=>v=.tup [.sl .nil 0 [],.n 11]
theorem KB.ext {h H H':Hp}{B:List Nat}(hx:Sm.ext h H)(k:KB B H H')(hB:∀b∈B,h.length<=b):Sm.ext h H' :=
 ATJ (fun i y q=>k.keep i y (DI hx q) (fun hm=>by have:=hB _ hm;have:=AC q;omega)) (Nat.le_trans hx.le k.len)
section
variable (G:Nat->AV)
theorem AIZ (hG:GOk G)(p:Pr)(hs:PrS p)(hv:IX p=0)(lm:SM)(l:List Ex)(hl:l.length<=1048576)(hw:∀e∈l,wt e<=1048576)(hk:∀e∈l,xpE p.vars e=0)(hst:lft p (YN p)<=262144)(h:Hp):
  QCall (En G) 100 [.agg (CY p),.sl lm 4 (l.map A8),.n 262144] h (FstQ (TJ p l)):=by
 have P:=PV.of hv;have okf:=AK0 P;refine ACalls.pureQ (R:=fun v H=>Sm.ext h H/\FstQ (TJ p l) (FH h.length H 3 v)) 3 ?_ (fun v H ⟨a,b⟩=>⟨a,b⟩);refine acL Tryz.func100 [.tmp 6,.tmp 7] ?_;have ge:=AX h (yE 5 [CY p]);have hx:=Sm.ext.r1 h (yE 5 [CY p]);refine A7 @QE ?_
 generalize h++[yE 5 [CY p]]=H0 at ge hx|-
 have lp:BI jA H0 27 (.ptr h.length 0 0)=some (.agg (CY p)):=by rw[ED lC cY ge (row:=CY p) rfl (by rw[L8];exact jF 5)];rfl
 refine A7 lp ?_;refine(AIJ G hG p hs hv lm l hl hw hk H0).mono ?_;rintro v H1 ⟨hx1,fb,ab,hfb,hab,hne,rfl,hf,hb⟩;have hx01:=hx.trans hx1;have hxl:=hx.le;refine A7 (show((0:Int) != 0)=false from rfl) ?_;refine(hit_prog G hG p hs P lm l hl hw hk 262144 (YN p) okf fb ab hne H1 U U hf hb).mono ?_;rintro v H2 ⟨k,post⟩;have hx2:Sm.ext h H2:=KB.ext hx01 k (fun b hb=>by simp at hb;omega);have hxx:=hx01.le;unfold TJ
 cases hr:kL p l (lft p (YN p)) (YN p) with
 | some a =>
   rw[hr] at post;obtain⟨u,rfl,hc⟩:=post;refine AB ?_;refine⟨hx2,?_⟩;rcases hc with⟨rfl,rfl⟩|⟨hne2,o,ho,rfl,hb2⟩
   .exact⟨.full,by decide,rfl⟩
   .refine⟨.any,by decide,?_⟩
    show AV.tup [FH h.length H2 2 (.own o 0 a.length),FH h.length H2 2 (.n 0)]=_;rw[Cov.frz_own Cov.frzI (U:h.length<=o) hb2];rfl
 | none =>
   rw[hr] at post;obtain⟨rfl,st',hf2⟩:=post;refine BB @lJ @hf2.ovd ?_;exact⟨hx2,rfl⟩
def AHS (r:Option (List Int)):AV:=match r with
 | some a=>.tup [.sl .any 1 (a.map Bins.qencI),.n 0]
 | none=>.tup [.sl .nil 0 [],.n 11]
theorem FstQ.cv {r:Option (List Int)}(h:FstQ r v):CvR v (AHS r):=by
 cases r with
 | none=>rw[show v=_ from h];exact CvR.refl _
 | some a =>
   obtain⟨m,hm,rfl⟩:=h;exact CvR.tup (CvRL.cons (CvR.sl (Cv.any hm 1 _)) (CvRL.cons (CvR.refl _) CvRL.nil))
theorem A0L (hG:GOk G)(p:Pr)(hs:PrS p)(hv:IX p=0)(lm:SM)(l:List Ex)(hl:l.length<=1048576)(hw:∀e∈l,wt e<=1048576)(hk:∀e∈l,xpE p.vars e=0)(hst:lft p (YN p)<=262144)(h:Hp):
  PCall (En G) 100 [.agg (CY p),.sl lm 4 (l.map A8),.n 262144] h (AHS (TJ p l)) :=
 ACalls.conv (AIZ G hG p hs hv lm l hl hw hk hst h) fun _ _ ⟨q,e⟩=>⟨_,⟨rfl,e⟩,q.cv⟩
end
end Go.Proofs.YtiihpnicbekebaaGreatDoor.Bd.Cl
namespace Go.Proofs.YtiihpnicbekebaaGreatDoor.Bd.Cl
open Sm Bins Cov Xe Wd Bl Ho Go.RowKit
variable {s:ByteArray} {a e:Ex} {vs:List Vr} {H:Hp} {b:Nat} {c d:Int} (G:Nat->AV )
theorem ZG (h:E8 s=true):s.size<=16:=by
 unfold E8 at h;have:=(Bool.and_eq_true_iff.1 (Bool.and_eq_true_iff.1 h).1).2;simpa using this
theorem vM (s:ByteArray):s.size=s.data.toList.length:=(Array.length_toList).symm
theorem AOZ (h:(JQ s).isSome=true):s.size<=19:=by
 unfold JQ at h;split at h
 .rename_i h4
  split at h
  .split at h
   .rename_i hc
    have hn:=(Bool.and_eq_true_iff.1 hc).2;have:=ZG hn
    rw[vM] at this|-
    simp at this
    simp at h4|-
    omega
   .cases h
  .cases h
 .cases h
theorem AP3 (h:FX s=true):s.size<=19:=by
 unfold FX at h;rcases Bool.or_eq_true_iff.1 h with q|q
 .exact AOZ q
 .have:=ZG q;omega
theorem ACZ (h:PE s=true):s.size=0:=by
 unfold PE at h;have:=str_eq h;rw[this];rfl
theorem tI (h:HY e=0):e.name.size<=19:=by
 unfold HY at h;have hO:badO e=false:=by grind
 have hN:cD e=false:=by grind
 have hS:VT e=false:=by grind
 have hV:VS e=false:=by simp_all
 unfold VT at hS;rw[wB] at hS;have h1:=hS.1;unfold VS at hV;rw[wB] at hV;obtain⟨v1,v2⟩:=hV;cases hn:PE e.name
 .rw[hn] at h1
  have h1:LX e.op=true:=BM h1;unfold LX at h1;simp only[Bool.or_eq_true,beq_iff_eq] at h1;rcases h1 with (q|q)|q
  .rw[q] at v1
   exact AP3 (BM v1)
  .rw[q] at v2
   have:=ZG (s:=e.name) (BM v2);omega
  .rw[q] at v2
   have:=ZG (s:=e.name) (BM v2);omega
 .rw[ACZ hn];omega
theorem A0W (B:Nat)(e:Ex):(∀x∈pre e,x.name.size<=B)->wt e<=(pre e).length*(B+1):=by
 induction e using Ex.induct with|h e ih=>?_
 intro h
 have hl:∀xs:List Ex,(∀a∈xs,wt a<=(pre a).length*(B+1))->wts xs<=(FM xs).length*(B+1):=by
  intro xs
  induction xs with
  | nil=>intro _;simp [wts]
  | cons x xs ihx =>
    intro hx;have h1:=hx x BA;have h2:=ihx fun a ha=>hx a (by simp [ha])
    simp only[wts,FM,jX,qE];omega
 have h1:=hl e.args fun a ha=>ih a ha fun x hx=>h x (by rw[pre_eq];exact yB _ (ZB ha x hx))
 have h2:=h e (by rw[pre_eq];simp);rw[MQ,pre_eq,zT,qE];omega
theorem AY7 (h0:exE e=0):(pre e).length<=400:=by
 unfold exE at h0;split at h0
 .cases h0
 .simp_all
theorem ATK (h:exE e=0):wt e<=8000:=by
 have h1:=A0W 19 e fun x hx=>tI (gD h x hx)
 have h2:=AY7 h;omega
theorem AOU {xs:List Ex}(h:∀x∈xs,HY x=0):errs xs=0:=by
 induction xs with
 | nil=>rfl
 | cons y ys ih =>
   show ys.foldl (fun z e=>if z=0 then HY e else z) (HY y)=0;rw[h y BA];exact ih fun x hx=>h x (by simp [hx])
def Gd (vs:List Vr)(x:Ex):Prop:=HY x=0/\O1 x=false/\PL vs x=false
theorem A1J (h:∀x∈pre e,Gd vs x)(hd:dep e<=24)(hl:(pre e).length<=400):xpE vs e=0:=by
 have h1:exE e=0:=by
  unfold exE;rw[AOU fun x hx=>(h x hx).1,if_neg U]
 have h2:sC e=false:=qO.2 fun x hx=>by rw[(h x hx).2.1];simp
 have h3:nV vs e=false:=qO.2 fun x hx=>by rw[(h x hx).2.2];simp
 unfold xpE;rw[if_neg (by rw[h1];simp)];unfold plE;rw[h2,h3];rfl
theorem xC:PE (⟨#[]⟩:ByteArray)=true:=by unfold PE;exact beq_self_eq_true _
theorem ASZ {n:Int}(h:0<=n/\n<=65535):∀x∈pre (cE n),Gd vs x:=by
 intro x hx;have e:x=cE n:=by simpa [cE,pre,FM] using hx
 subst e;refine⟨?_,rfl,rfl⟩
 have b:cD (cE n)=false:=by
  have:cD (cE n)=((true&&(decide (n<0)||decide (n>65535)))||(false && !(n==0))):=rfl;rw[this];simp;omega
 have b2:VT (cE n)=false:=by
  have:VT (cE n)=((!LX 1 && !PE (⟨#[]⟩:ByteArray)) || !WM 1 0):=rfl;rw[this,xC];rfl
 unfold HY;rw[b,b2];rfl
theorem AKU {n:ByteArray}(h:FX n=true)(hp:0<=plc vs n):∀x∈pre (JK n),Gd vs x:=by
 intro x hx;have e:x=JK n:=by simpa [JK,pre,FM] using hx
 subst e;refine⟨?_,rfl,?_⟩
 .have b:VS (JK n)=false:=by
   have:VS (JK n)=((true && !FX n)||((false||false) && !E8 n)):=rfl;rw[this,h];rfl
  unfold HY;rw[b];rfl
 .have:PL vs (JK n)=(true&&decide (plc vs n<0)):=rfl
  rw[this];simp;omega
theorem tK {x:Ex}{xs:List Ex}(h:x∈FM xs):∃a∈xs,x∈pre a:=mem_pres.1 h
theorem AKW {l:List Rng}(he:∀x∈pre e,Gd vs x)(h0:l≠[])(h16:l.length<=16)(hl:∀r∈l,0<=r.lo/\r.lo<=65535/\0<=r.hi/\r.hi<=65535):∀x∈pre (JD e l),Gd vs x:=by
 intro x hx;rw[UT,pre_eq] at hx;rcases zN.1 hx with rfl|hx
 .have hlen:(insL e l).length=1+2*l.length:=by unfold insL;rw[zT,lN];omega
  have hp:0<l.length:=qX.2 h0;refine⟨?_,rfl,rfl⟩
  have b:VT (.mk 23 0 ⟨#[]⟩ .any (insL e l))=false:=by
   have:VT (.mk 23 0 ⟨#[]⟩ .any (insL e l))=((!LX 23 && !PE (⟨#[]⟩:ByteArray)) || !WM 23 (insL e l).length):=rfl;rw[this,hlen,xC];unfold WM;simp;omega
  unfold HY;rw[b];rfl
 .obtain⟨a,ha,hxa⟩:=tK hx
  have ha:a∈insL e l:=ha;unfold insL at ha;rcases zN.1 ha with rfl|ha
  .exact he x hxa
  .unfold cEs at ha
   obtain⟨r,hr,hm⟩:=List.mem_flatMap.1 ha;have:=hl r hr;simp only[zN,List.not_mem_nil,or_false] at hm;rcases hm with rfl|rfl
   .exact ASZ U x hxa
   .exact ASZ U x hxa
theorem A3T {b:Ex}(ha:∀x∈pre a,Gd vs x)(hb:∀x∈pre b,Gd vs x):∀x∈pre (orE a b),Gd vs x:=by
 intro x hx;unfold orE at hx;rw[pre_eq] at hx;rcases zN.1 hx with rfl|hx
 .refine⟨?_,rfl,rfl⟩
  have b2:VT (.mk 20 0 ⟨#[]⟩ .full [a,b])=false:=by
   have:VT (.mk 20 0 ⟨#[]⟩ .full [a,b])=((!LX 20 && !PE (⟨#[]⟩:ByteArray)) || !WM 20 2):=rfl;rw[this,xC];rfl
  unfold HY;rw[b2];rfl
 .obtain⟨c,hc,hxc⟩:=tK hx
  have hc:c∈[a,b]:=hc;simp only[zN,List.not_mem_nil,or_false] at hc;rcases hc with rfl|rfl
  .exact ha x hxc
  .exact hb x hxc
theorem mX:∀l:List Rng,(FM (cEs l)).length=2*l.length
 | []=>rfl
 | r::l=>by
   rw[UA];have:=mX l;simp only[FM,jX,this,zT];simp [cE,pre,FM];omega
theorem oV:∀l:List Rng,deps (cEs l)<=1
 | []=>qK _
 | r::l=>by
   rw[UA];have:=oV l;simp only[deps];simp [cE,dep,deps];omega
theorem AC7 (n:ByteArray)(R:List Rng):∀k,(pre (NK (JK n) R k)).length<=35*(k+1)/\dep (NK (JK n) R k)<=k+2
 | 0=>by
   have hp:=Q8 R 0;show(pre (JD (JK n) (Ho.part R 0))).length<=_/\dep (JD (JK n) (Ho.part R 0))<=_;rw[UT,pre_eq,bZ];show(_::FM (insL (JK n) (Ho.part R 0))).length<=_/\deps (insL (JK n) (Ho.part R 0))+1<=_;have h1:=mX (Ho.part R 0);have h2:=oV (Ho.part R 0);unfold insL;simp only[FM,deps,zT,jX,h1];simp [JK,pre,FM,dep,deps];omega
 | k+1=>by
   have ih:=AC7 n R k;have hp:=Q8 R (k+1);have h1:=mX (Ho.part R (k+1));have h2:=oV (Ho.part R (k+1))
   have e1:(pre (JD (JK n) (Ho.part R (k+1)))).length<=34/\dep (JD (JK n) (Ho.part R (k+1)))<=2:=by
    rw[UT,pre_eq,bZ];show(_::FM (insL (JK n) (Ho.part R (k+1)))).length<=_/\deps (insL (JK n) (Ho.part R (k+1)))+1<=_;unfold insL;simp only[FM,deps,zT,jX,h1];simp [JK,pre,FM,dep,deps];omega
   show(pre (orE (NK (JK n) R k) (JD (JK n) (Ho.part R (k+1))))).length<=_/\dep (orE (NK (JK n) R k) (JD (JK n) (Ho.part R (k+1))))<=_;unfold orE;rw[pre_eq,bZ];show(_::FM [NK (JK n) R k,JD (JK n) (Ho.part R (k+1))]).length<=_/\deps [NK (JK n) R k,JD (JK n) (Ho.part R (k+1))]+1<=_;simp only[FM,deps,zT,jX,List.append_nil];omega
theorem AKV {vs:List Vr}{n:ByteArray}(h:FX n=true)(hp:0<=plc vs n){R:List Rng}(hR:∀r∈R,0<=r.lo/\r.lo<=65535/\0<=r.hi/\r.hi<=65535):∀k,16*k<R.length->∀x∈pre (NK (JK n) R k),Gd vs x
 | 0,hk=>by
   show ∀x∈pre (JD (JK n) (Ho.part R 0)),_;refine AKW (AKU h hp) ?_ (Q8 R 0) fun r hr=>hR r ?_
   .unfold Ho.part;intro e
    have:=congrArg wH e;rw[jZ,List.length_drop,zW] at this;omega
   .unfold Ho.part at hr;exact List.mem_of_mem_drop (List.mem_of_mem_take hr)
 | k+1,hk=>by
   show ∀x∈pre (orE (NK (JK n) R k) (JD (JK n) (Ho.part R (k+1)))),_;refine A3T (AKV h hp hR k U) (AKW (AKU h hp) ?_ (Q8 R (k+1)) fun r hr=>hR r ?_)
   .unfold Ho.part;intro e
    have:=congrArg wH e;rw[jZ,List.length_drop,zW] at this;omega
   .unfold Ho.part at hr;exact List.mem_of_mem_drop (List.mem_of_mem_take hr)
theorem AWZ {v:Vr}(h:v∈vs):0<=plc vs v.name:=by
 apply Classical.byContradiction;intro q;have:=fS (NE v.name) vs (by unfold plc at q;omega) v h;unfold NE at this;simp at this
theorem A2M {p:Pr}(hv:IX p=0):∀e∈WC p,xpE p.vars e=0:=by
 intro e he;have P:=PV.of hv;unfold WC at he;obtain⟨d,hd,rfl⟩:=List.mem_map.1 he;obtain⟨d1,d2⟩:=ALK hv d hd;obtain⟨k,hk,hdk,hm⟩:=Y9 d1;obtain⟨n1,w1,w8,_⟩:=PQ (P.vr _ (jG hk))
 have hsup:AA6 p d=rD p.vars[k].name (runs d.ws (2^p.vars[k].width.toNat)):=by
  unfold AA6;rw[hdk,Int.toNat_natCast,List.getElem?_eq_getElem hk]
 have hW:(2:Nat)^p.vars[k].width.toNat<=256:=by
  have:p.vars[k].width.toNat<=8:=U
  calc (2:Nat)^p.vars[k].width.toNat<=2^8:=Nat.pow_le_pow_right DT this
   _=256:=rfl
 have hr:=AQZ d.ws (2^p.vars[k].width.toNat);have hi:=AJR d.ws (2^p.vars[k].width.toNat);rw[hsup];generalize runs d.ws (2^p.vars[k].width.toNat)=R at hr hi;unfold rD;by_cases q:R=[]
 .rw[if_pos q]
  exact A1J (ASZ U) (by simp [cE,dep,deps]) (by simp [cE,pre,FM])
 .rw[if_neg q]
  have hp:0<R.length:=qX.2 q;have hk2:parts R-1<=2:=by unfold parts;omega
  obtain⟨l1,l2⟩:=AC7 p.vars[k].name R (parts R-1);exact A1J (AKV n1 (AWZ (jG hk)) (fun r hr=>by have:=hi r hr;omega) _ (by unfold parts;omega)) U U
theorem A0V (h:xpE vs e=0):wt e<=8000:=ATK (APY h).1
theorem A54:∀(k:Nat),k<9->∀h:Hp,IE jA h 9 (.str AL0) (some (.n (k:Nat))) (some (.n ((k+1:Nat):Int))) none=some (.str (dgS k))
 | 0,_,h=>AZ
 | 1,_,h=>AZ
 | 2,_,h=>AZ
 | 3,_,h=>AZ
 | 4,_,h=>AZ
 | 5,_,h=>AZ
 | 6,_,h=>AZ
 | 7,_,h=>AZ
 | 8,_,h=>AZ
 | n+9,q,_=>absurd q U
theorem ABG (k:Nat)(hk:k<9)(h:Hp):PCall (En G) 396 [.n (k:Nat)] h (.str (dgS k)):=by
 refine acT Tryz.func396 2 ?_;have hd:decide (((k:Nat):Int)<10)=true:=by simp;omega
 have:=A54 k hk h;unfold AL0 at this;refine DW hd (DC k) @this ?_;exact H7
theorem AIX (k:Nat)(hk:k<9)(h:Hp):PCall (En G) 288 [.n (k:Nat)] h (.str (dgS k)):=by
 have h1:PCall (En G) 358 [.n (k:Nat),.n 10] h (.str (dgS k)):=by
  refine acT Tryz.func358 4 ?_;have d1:((10:Int)==10)=true:=rfl;have d2:decide ((0:Int)<=((k:Nat):Int))=true:=BA;have d3:decide (((k:Nat):Int)<100)=true:=by simp;omega
  refine DW d1 d2 d3 ?_;refine(ABG G k hk h).uu ?_;exact H7
 have h2:PCall (En G) 324 [.n (k:Nat)] h (.str (dgS k)):=by
  refine acT Tryz.func324 2 ?_;refine AB ?_;refine h1.uu ?_;exact H7
 refine acT Tryz.func288 2 ?_;refine AB ?_;refine h2.uu ?_;exact H7
theorem oQ (a:ByteArray)(k:Nat)(hk:k<9)(h:Hp)(ha:a.size<=1048576):PCall (En G) 233 [.str a,.n (k:Nat)] h (.str (elN a k)):=by
 refine acT Tryz.func233 4 ?_;obtain⟨b1,b2,b3⟩:=A40 a k ha;refine A7 b1 ?_;refine(AIX G k hk h).use ?_;refine BB b2 b3 ?_;exact H7
theorem ARP (a:ByteArray):FX (elN a 8)=false:=by
 have hl:=NU a 8;unfold FX
 have h1:JQ (elN a 8)=none:=by
  unfold JQ;rw[hl];have e:(a.data.toList++[91,UInt8.ofNat (48+8),93]).length-3=a.data.toList.length:=BA;rw[e,List.drop_left];split
  .simp_all
  .rfl
 have h2:E8 (elN a 8)=false:=by
  cases hn:E8 (elN a 8)
  .rfl
  .have e:elN a 8=⟨(elN a 8).data.toList.toArray⟩:=BA
   rw[e] at hn;have:=(QV hn).2 91 (by rw[hl];simp);exact absurd rfl this
 rw[h1,h2];rfl
theorem AWY (hv:∀v∈vs,FX v.name=true)(a:ByteArray):plc vs (elN a 8)<0:=by
 apply Classical.byContradiction;intro q;obtain⟨k,hk,_,h1,_⟩:=VJ (NE (elN a 8)) vs (by unfold plc at q;omega);have:=str_eq h1;have h2:=hv _ (jG hk);rw[this,ARP] at h2;cases h2
def szF (vs:List Vr)(a:ByteArray):Nat->Nat->Nat
 | 0,n=>n
 | f+1,n=>if plc vs (elN a n)<0 then n else szF vs a f (n+1)
def szA (vs:List Vr)(a:ByteArray):Nat:=szF vs a 8 0
theorem AQF (vs:List Vr)(a:ByteArray):∀f n,n<=szF vs a f n/\szF vs a f n<=n+f
 | 0,n=>⟨jF _,jF _⟩
 | f+1,n=>by
   unfold szF;split
   .omega
   .have:=AQF vs a f (n+1);omega
theorem lZ (vs:List Vr)(a:ByteArray):szA vs a<=8:=by have:=(AQF vs a 8 0).2;unfold szA;omega
theorem AQG (vs:List Vr)(a:ByteArray):∀f n k,n<=k->k<szF vs a f n->0<=plc vs (elN a k)
 | 0,n,k,h1,h2=>by unfold szF at h2;omega
 | f+1,n,k,h1,h2=>by
   unfold szF at h2;split at h2
   .omega
   .rename_i q
    by_cases e:n=k
    .subst e;omega
    .exact AQG vs a f (n+1) k U h2
theorem vO {a:ByteArray}{k:Nat}(h:k<szA vs a):0<=plc vs (elN a k):=AQG vs a 8 0 k (qK _) h
theorem lY {vs:List Vr}{a:ByteArray}{f n:Nat}:(plc vs (elN a n)<0->szF vs a (f+1) n=n)/\(¬plc vs (elN a n)<0->szF vs a (f+1) n=szF vs a f (n+1)):=by
 constructor<;>intro h<;>(conv=>lhs;unfold szF)
 .rw[if_pos h]
 .rw[if_neg h]
section
variable (G:Nat->AV)
theorem size_prog (vs:List Vr)(m:SM)(hl:vs.length<=1048576)(hv:∀v∈vs,FX v.name=true)(a:ByteArray)(ha:a.size<=1048576)(h:Hp):PCall (En G) 252 [.agg [.sl m 4 (vs.map encV)],.str a] h (.n (szA vs a:Nat)):=by
 refine ACalls.pure0 rfl ?_;refine acT Tryz.func252 4 ?_;have gs:=AX h (yE 1 [[.sl m 4 (vs.map encV)]]);have hx:=Sm.ext.r1 h (yE 1 [[.sl m 4 (vs.map encV)]]);have bx:MP h (.agg [.sl m 4 (vs.map encV)])=some (.ptr h.length 0 0,h++[yE 1 [[.sl m 4 (vs.map encV)]]]):=rfl;refine A7 bx ?_
 generalize h++[yE 1 [[.sl m 4 (vs.map encV)]]]=H0 at gs hx|-
 have l0:BI jA H0 22 (.ptr h.length 0 0)=some (.sl m 4 (vs.map encV)):=by rw[BC WZ gs rfl];rfl
 refine BK (fun k F H=>∃n,k+n=8/\szF vs a k n=szA vs a/\F 1=.str a/\F 2=.ptr h.length 0 0/\F 5=.n (n:Nat)/\H=H0) 8
  ⟨0,rfl,rfl,AQ,AQ,AQ,rfl⟩ ?_
 rintro k F H ⟨n,hn,hs,f1,f2,f5,rfl⟩
 try refine AB ?_
 refine D6 AZ ?_;refine JI @ALD f1 f2 f5 l0 ?_;refine⟨_,oQ G a n U H ha,_,index_prog G vs m (elN a n) H U,?_⟩;refine AB ?_;refine BO ?_ ?_<;>intro hc
 .have hc:¬plc vs (elN a n)<0:=BM hc
  obtain⟨j,rfl⟩:∃j,k=j+1:=⟨k-1,by
   have:k≠0:=fun e=>hc (by have:n=8:=U
                           rw[this];exact AWY hv a)
   omega⟩
  rw[lY.2 hc] at hs;refine BB f5 (DC n) ?_;exact⟨j,U,n+1,U,hs,AL,AL,AL,AL⟩
 .have hc:plc vs (elN a n)<0:=by
   have:=of_decide_eq_false hc;omega
  have e:szA vs a=n:=by
   rw[<-hs]
   cases k with
   | zero=>rfl
   | succ k=>exact lY.1 hc
  refine A7 f5 ?_;exact⟨by rw[e],hx⟩
end
theorem node_ops (h:HY e=0):WM e.op e.args.length=true:=by
 unfold HY at h;have hO:badO e=false:=by grind
 have hN:cD e=false:=by grind
 have hS:VT e=false:=by grind
 unfold VT at hS;rw[wB] at hS;simpa using hS.2
theorem eP (h:HY e=0)(ho:e.op=1\/e.op=2\/e.op=24):e.args=[]:=by
 have h1:=node_ops h;unfold WM at h1;rw[if_neg (by rcases ho with q|q|q<;>rw[q]<;>decide)] at h1
 have ha:arity e.op=0:=by rcases ho with q|q|q<;>rw[q]<;>rfl
 rw[ha] at h1;exact List.eq_nil_of_length_eq_zero (BM h1)
theorem VV (h:HY e=0)(ho:e.op=3):∃a,e.args=[a]:=by
 have h1:=node_ops h;unfold WM at h1;rw[if_neg (by rw[ho];decide)] at h1;have ha:arity e.op=1:=by rw[ho];rfl
 rw[ha] at h1;have h2:((e.args.length:Nat):Int)=1:=BM h1;have h2:e.args.length=1:=U
 match hq:e.args,h2 with
 | [a],_=>exact⟨a,rfl⟩
theorem ARO (h:HY e=0)(ho:e.op=1):0<=e.n/\e.n<=65535:=by
 unfold HY at h;have hO:badO e=false:=by grind
 have hN:cD e=false:=by grind
 unfold cD at hN;rw[ho] at hN;simp at hN;omega
theorem BAK (n:Nat):(((n:Nat):Int)==0)=(n==0):=by rw[Bool.eq_iff_iff];simp
def QG (vs:List Vr)(e:Ex):Bool:=(e.op==2&&decide (plc vs e.name<0))||((e.op==3||e.op==24)&&(szA vs e.name==0))
def OV (vs:List Vr)(e:Ex):Bool:=(pre e).any (QG vs)
theorem UN (vs:List Vr)(e:Ex):OV vs e=(QG vs e||e.args.any (OV vs)):=by
 unfold OV;rw[pre_eq,List.any_cons];congr 1
 have:∀xs:List Ex,(FM xs).any (QG vs)=xs.any fun e=>(pre e).any (QG vs):=by
  intro xs
  induction xs with
  | nil=>rfl
  | cons x xs ih=>simp only[FM,List.any_append,List.any_cons,ih]
 exact this e.args
def NdOk (e:Ex):Prop:=∀x∈pre e,HY x=0
theorem NdOk.arg (h:NdOk e)(ha:a∈e.args):NdOk a:=fun x hx=>h x (by rw[pre_eq];exact yB _ (ZB ha x hx))
theorem NdOk.self (h:NdOk e):HY e=0:=h e (by rw[pre_eq];simp)
theorem NdOk.name {e:Ex}(h:NdOk e):e.name.size<=19:=tI h.self
theorem NdOk.of (h:exE e=0):NdOk e:=gD h
theorem NdOk.len (h:NdOk e):e.args.length<=33:=by
 have h1:=node_ops h.self;unfold WM at h1;split at h1
 .simp at h1;omega
 .have:arity e.op<=3:=by
   unfold arity
   repeat' split
   all_goals omega
  have:((e.args.length:Nat):Int)=arity e.op:=BM h1;omega
abbrev isS (H:Hp)(b:Nat)(m:SM)(vs:List Vr):Prop:=H[b]?=some (yE 1 [[.sl m 4 (vs.map encV)]])
theorem isS.ld {H:Hp}{b:Nat}{m:SM}{vs:List Vr}(h:isS H b m vs):BI jA H 233 (.ptr b 0 0)=some (.agg [.sl m 4 (vs.map encV)]):=by
 rw[ED A9D A02 h rfl (jF 1)];rfl
theorem isS.l {m:SM}(h:isS H b m vs):BI jA H 22 (.ptr b 0 0)=some (.sl m 4 (vs.map encV)):=by rw[BC WZ h rfl];rfl
theorem bxS (h:Hp)(m:SM)(vs:List Vr):MP h (.agg [.sl m 4 (vs.map encV)])=some (.ptr h.length 0 0,h++[yE 1 [[.sl m 4 (vs.map encV)]]]):=rfl
section
variable {H:Hp} {b:Nat} {e:Ex}
theorem AOT (h:H[b]?=some (yE 4 [A8 e])):BI jA H 3 (.ptr b 0 0)=some (.n e.op):=by rw[BC ag3 h (row:=A8 e) rfl,J4]
theorem exN (h:H[b]?=some (yE 4 [A8 e])):BI jA H 3 (.ptr b 0 1)=some (.n e.n):=by rw[BC ag3 h (row:=A8 e) rfl,eE]
theorem bV (h:H[b]?=some (yE 4 [A8 e])):BI jA H 9 (.ptr b 0 2)=some (.str e.name):=by rw[BC ag9 h (row:=A8 e) rfl,RI]
theorem U9 (h:H[b]?=some (yE 4 [A8 e])):BI jA H 23 (.ptr b 0 3)=some (.sl e.m 4 (e.args.map A8)):=by rw[BC LM h (row:=A8 e) rfl,YU]
end
section
variable (G:Nat->AV)
theorem ASS (xs:List Ex)(m:SM)(fid:FuncId)(caps:List AV)(p:Ex->Bool)(h:Hp)(hn:xs.length<=1099511627776)(hf:∀x∈xs,PCall (En G) fid ([.agg (A8 x)]++caps) h (.bool (p x))):
  PCall (En G) 301 [.sl m 4 (xs.map A8),.fn (.func fid) [] caps] h (.n (OC p xs)):=by
 refine acT Tryz.func301 4 ?_;refine AB ?_;refine BK (fun n F H=>∃k,n+k=xs.length/\(∀(j:Nat) (hj:j<k) (hl:j<xs.length),p xs[j]=false)/\F 0=.sl m 4 (xs.map A8)/\F 1=.fn (.func fid) [] caps/\F 7=.n (xs.length:Nat)/\F 8=.n (k:Nat)/\H=h) xs.length ⟨0,BA,fun j hj=>absurd hj U,AQ,AQ,AQ,AQ,rfl⟩ ?_;rintro n F H ⟨k,hk,hb,f0,f1,f7,f8,rfl⟩;refine BB f7 f8 ?_;refine BO ?_ ?_<;>intro hc
 .have hk':k<xs.length:=BM hc
  simp only[vQ,CP,List.map_cons,List.map_nil,List.nil_append,List.cons_append,↓reduceIte,jC,enP,PZ,f0,f1,f8,CZ hk',DJ O6 JE EG hk'];refine(hf _ (jG hk')).uu ?_;refine BO ?_ ?_<;>intro hp
  .refine A7 f8 ?_
   exact⟨by rw[RD p xs k hk' (fun j hj=>hb j hj U) hp],trivial⟩
  .refine BB f8 (DC k) ?_
   refine⟨n-1,U,k+1,U,fun j hj hl=>?_,AL,AL,AL,rfl,trivial⟩;rcases Nat.lt_or_ge j k with h1|h1
   .exact hb j h1 hl
   .grind
 .refine AB ?_
  have hk':¬k<xs.length:=BM hc;exact⟨by rw[QK p xs fun j hj=>hb j U hj],trivial⟩
theorem AHM (xs:List Ex)(m:SM)(fid:FuncId)(caps:List AV)(p:Ex->Bool)(h:Hp)(hn:xs.length<=1099511627776)(hf:∀x∈xs,PCall (En G) fid ([.agg (A8 x)]++caps) h (.bool (p x))):
  PCall (En G) 253 [.sl m 4 (xs.map A8),.fn (.func fid) [] caps] h (.bool (xs.any p)):=by
 refine acT Tryz.func253 4 ?_;refine AB ?_;refine(ASS G xs m fid caps p h hn hf).use ?_;refine A7 @RF ?_;exact H7
theorem A7J (vs:List Vr)(m:SM)(a:Ex)(c:Nat)(h:Hp)(hc:isS h c m vs)(r:Bool)(hf:∀H,PCall (En G) 175 [.agg [.sl m 4 (vs.map encV)],.agg (A8 a)] H (.bool r)):PCall (En G) 254 ([.agg (A8 a)]++[.ptr c 0 0]) h (.bool (!r)):=by
 refine ACalls.pure0 rfl ?_;refine acT Tryz.func254 3 ?_;have hc':isS (h++[yE 4 [A8 a]]) c m vs:=AO hc;refine DW @bxE @hc'.ld @ldE ?_;refine(hf _).uu ?_;exact⟨AL,_,rfl⟩
theorem ASE (vs:List Vr)(m:SM)(hl:vs.length<=1048576)(hv:∀v∈vs,FX v.name=true)(e:Ex):NdOk e->∀h:Hp,PCall (En G) 175 [.agg [.sl m 4 (vs.map encV)],.agg (A8 e)] h (.bool (!OV vs e)):=by
 induction e using Ex.induct with|h e ih=>?_
 intro hn h;have hnm:=hn.name;have hal:=hn.len;refine ACalls.pure0 rfl ?_;refine acT Tryz.func175 4 ?_;have gs:isS (h++[yE 1 [[.sl m 4 (vs.map encV)]]]++[yE 4 [A8 e]]) h.length m vs:=AO (AX _ _);have ge:=AX (h++[yE 1 [[.sl m 4 (vs.map encV)]]]) (yE 4 [A8 e]);have hx:Sm.ext h (h++[yE 1 [[.sl m 4 (vs.map encV)]]]++[yE 4 [A8 e]]):=((ext.rfl' h).app _).app _;refine BB @bxS @bxE ?_
 generalize h++[yE 1 [[.sl m 4 (vs.map encV)]]]++[yE 4 [A8 e]]=H1 at gs ge hx|-
 generalize (h++[yE 1 [[.sl m 4 (vs.map encV)]]]).length=eb at ge|-
 generalize h.length=sb at gs|-
 have last:QG vs e=false->OV vs e=e.args.any (OV vs):=fun q=>by rw[UN,q,Bool.false_or]
 have fin:∀x∈e.args,PCall (En G) 254 ([.agg (A8 x)]++[.ptr sb 0 0]) H1 (.bool (OV vs x)):=fun x hx=>by
  have:=A7J G vs m x sb H1 gs (!OV vs x) (ih x hx (hn.arg hx))
  rwa [Bool.not_not] at this
 refine A7 (AOT ge) ?_;cases b2:(e.op==2)
 case true =>
  have ho:e.op=2:=BM b2;refine ES @ALD b2 (isS.l gs) (bV ge) ?_;refine(index_prog G vs m e.name H1 U).uu ?_;refine⟨?_,hx⟩
  have:OV vs e=decide (plc vs e.name<0):=by
   rw[UN,eP hn.self (.inr (.inl ho))];unfold QG;rw[ho];simp
  rw[this,<-decide_not];congr 1;rw[decide_eq_decide];omega
 cases b24:(e.op==24)
 case true =>
  refine ES b2 b24 (isS.ld gs) (bV ge) ?_;refine(size_prog G vs m hl hv e.name U H1).uu ?_;refine BO ?_ ?_<;>intro hc
  .refine AB ?_
   refine⟨?_,hx⟩;have hc:szA vs e.name=0:=BM hc;have:OV vs e=true:=by rw[UN];unfold QG;rw[b24,hc];simp
   rw[this];rfl
  .have hc:¬szA vs e.name=0:=BM hc
   have hu:QG vs e=false:=by unfold QG;rw[b2,b24];simp [hc]
   refine A7 (U9 ge) ?_;refine(AHM G e.args e.m 254 [.ptr sb 0 0] (OV vs) H1 U fin).uu ?_;exact⟨by rw[last hu],hx⟩
 cases b3:(e.op==3)
 case true =>
  refine JI b2 b24 b3 (isS.ld gs) (bV ge) ?_;refine(size_prog G vs m hl hv e.name U H1).uu ?_;refine BO ?_ ?_<;>intro hc
  .refine AB ?_
   refine⟨?_,hx⟩;have hc:szA vs e.name=0:=BM hc;have:OV vs e=true:=by rw[UN];unfold QG;rw[b3,hc];simp
   rw[this];rfl
  .have hc:¬szA vs e.name=0:=BM hc
   have hu:QG vs e=false:=by unfold QG;rw[b2,b3];simp [hc]
   refine A7 (U9 ge) ?_;refine(AHM G e.args e.m 254 [.ptr sb 0 0] (OV vs) H1 U fin).uu ?_;exact⟨by rw[last hu],hx⟩
 have hu:QG vs e=false:=by unfold QG;rw[b2,b24,b3];rfl
 refine ES b2 b24 b3 (U9 ge) ?_;refine(AHM G e.args e.m 254 [.ptr sb 0 0] (OV vs) H1 U fin).uu ?_;exact⟨by rw[last hu],hx⟩
end
def cZ (l:List (Nat×Int)):Nat:=l.foldl (fun s x=>min (s+x.1) 401) 1
def UR (l:List (Nat×Int)):Nat×Int:=l.getLast?.getD (0,-1)
def xtF (vs:List Vr)(op n:Int)(name:ByteArray)(l:List (Nat×Int)):Nat×Int :=
 if op=1 then (1,n) else if op=24 then (2*szA vs name-1,-1) else if op≠3 then (cZ l,-1) else if(szA vs name:Int)<=(UR l).2 then (1,0) else if 0<=(UR l).2 then (1,-1) else (min (szA vs name*((UR l).1+4)+1) 401,-1)
mutual
def H8 (vs:List Vr):Ex->Nat×Int
 | .mk op n name _ args=>xtF vs op n name (AEA vs args)
def AEA (vs:List Vr):List Ex->List (Nat×Int)
 | []=>[]
 | e::es=>H8 vs e::AEA vs es
end
theorem uC (vs:List Vr):∀l:List Ex,AEA vs l=l.map (H8 vs)
 | []=>by simp [AEA]
 | e::es=>by simp [AEA,uC vs es]
theorem UX (vs:List Vr)(e:Ex):H8 vs e=xtF vs e.op e.n e.name (e.args.map (H8 vs)):=by
 cases e;simp only[H8,uC];rfl
theorem sP (l:List (Nat×Int))(x:Nat×Int):cZ (l++[x])=min (cZ l+x.1) 401:=by unfold cZ;rw[List.foldl_append];rfl
theorem AHD (l:List (Nat×Int))(x:Nat×Int):UR (l++[x])=x:=by unfold UR;simp
theorem AJJ (l:List (Nat×Int)):cZ l<=401:=by
 rcases List.eq_nil_or_concat l with rfl|⟨l',x,rfl⟩
 .decide
 .rw[List.concat_eq_append,sP];omega
theorem ALH (vs:List Vr)(e:Ex):(H8 vs e).1<=401:=by
 have:=lZ vs e.name;have:=AJJ (e.args.map (H8 vs));rw[UX];unfold xtF;split
 .show(1:Nat)<=401;omega
 split
 .omega
 split
 .assumption
 split
 .show(1:Nat)<=401;omega
 split
 .show(1:Nat)<=401;omega
 .show min _ 401<=401;omega
theorem AY5 (h:0<=(H8 vs e).2):(H8 vs e).1=1:=by
 have hm:∀x:Nat,¬(0:Int)<=(x,(-1:Int)).2:=fun x=>by show ¬(0:Int)<=-1;decide
 rw[UX] at h|-
 unfold xtF at h|-
 by_cases c1:e.op=1
 .rw[if_pos c1]
 rw[if_neg c1] at h|-
 by_cases c2:e.op=24
 .simp_all
 rw[if_neg c2] at h|-
 by_cases c3:e.op≠3
 .simp_all
 rw[if_neg c3] at h|-
 by_cases c4:(szA vs e.name:Int)<=(UR (e.args.map (H8 vs))).2
 .rw[if_pos c4]
 rw[if_neg c4] at h|-
 by_cases c5:0<=(UR (e.args.map (H8 vs))).2
 .rw[if_pos c5]
 rw[if_neg c5] at h;exact absurd h (hm _)
def exR (x:Nat×Int):List AV:=[.n (x.1:Nat),.n x.2]
theorem A13 (h:Hp):GH jA h 235=some (.ptr h.length 0 0,h++[yE 2 [[.n 0,.n 0]]]):=FB (row:=[.n 0,.n 0]) AZ
theorem pJ (a b:Int):I5 jA 235 [(0,.n a),(1,.n b)]=some (.agg [.n a,.n b]):=AZ
theorem iM (hb:H[b]?=some (yE 2 [[.n c,.n d]]))(x y:Int):DU jA H 235 (.ptr b 0 0) (.agg [.n x,.n y])=some (H.set b (yE 2 [[.n x,.n y]])):=by
 rw[IR (cs:=[.n x,.n y]) rfl A01 hb (jF 2)];rfl
theorem tM (hb:H[b]?=some (yE 2 [[.n c,.n d]])):BI jA H 235 (.ptr b 0 0)=some (.agg [.n c,.n d]):=by
 rw[ED A9C A01 hb rfl (jF 2)];rfl
theorem AKN (hb:H[b]?=some (yE 2 [[.n c,.n d]])):BI jA H 3 (.ptr b 0 0)=some (.n c):=by rw[BC ag3 hb rfl];rfl
theorem AX2 (hb:H[b]?=some (yE 2 [[.n c,.n d]])):BI jA H 3 (.ptr b 0 1)=some (.n d):=by rw[BC ag3 hb rfl];rfl
theorem QT (h:OV vs e=false)(ha:a∈e.args):OV vs a=false:=by
 rw[UN,wB] at h;have:=qO.1 h.2 a ha;simpa using this
theorem WA (h:OV vs e=false)(ho:e.op=3\/e.op=24):1<=szA vs e.name:=by
 rw[UN,wB] at h;have h1:=h.1;unfold QG at h1;rcases ho with q|q<;>rw[q] at h1<;>simp at h1<;>omega
section
variable (G:Nat->AV)
theorem AOS (vs:List Vr)(m:SM)(hl:vs.length<=1048576)(hv:∀v∈vs,FX v.name=true)(e:Ex):NdOk e->OV vs e=false->∀h:Hp,PCall (En G) 176 [.agg [.sl m 4 (vs.map encV)],.agg (A8 e)] h (.agg (exR (H8 vs e))):=by
 induction e using Ex.induct with|h e ih=>?_
 intro hn hu h;have hnm:=hn.name;have hal:=hn.len;have hsz:=lZ vs e.name;refine ACalls.pure (R:=fun v H=>v=.agg (exR (H8 vs e))/\Sm.ext h H) 2 ?_ (fun v H ⟨a,b⟩=>⟨b,by rw[a];rfl⟩);refine acL Tryz.func176 [.cell 4 235] ?_;have gs:isS (h++[yE 1 [[.sl m 4 (vs.map encV)]]]++[yE 4 [A8 e]]++[yE 2 [[.n 0,.n 0]]]) h.length m vs:=AO (AO (AX _ _));have ge:=AO (x:=yE 2 [[.n 0,.n 0]]) (AX (h++[yE 1 [[.sl m 4 (vs.map encV)]]]) (yE 4 [A8 e]));have gr:=AX (h++[yE 1 [[.sl m 4 (vs.map encV)]]]++[yE 4 [A8 e]]) (yE 2 [[.n 0,.n 0]]);have hx:Sm.ext h (h++[yE 1 [[.sl m 4 (vs.map encV)]]]++[yE 4 [A8 e]]++[yE 2 [[.n 0,.n 0]]]):=(((ext.rfl' h).app _).app _).app _;have e1:(h++[yE 1 [[.sl m 4 (vs.map encV)]]]).length=h.length+1:=BA;have e2:(h++[yE 1 [[.sl m 4 (vs.map encV)]]]++[yE 4 [A8 e]]).length=h.length+2:=BA;refine DW @bxS @bxE A13 ?_
 rw[e1] at ge|-
 rw[e2] at gr|-
 generalize h++[yE 1 [[.sl m 4 (vs.map encV)]]]++[yE 4 [A8 e]]++[yE 2 [[.n 0,.n 0]]]=H1 at gs ge gr hx|-
 clear e1 e2;refine A7 (AOT ge) ?_;cases b1:(e.op==1)
 case true =>
  have ho:e.op=1:=BM b1;refine ES b1 (exN ge) pJ (iM gr) ?_;rw[JM (b:=h.length+2) AQ (tM (CV gr))];exact⟨by rw[UX];unfold xtF;rw[if_pos ho];rfl,hx.set U _⟩
 have o1:¬e.op=1:=BM b1;cases b24:(e.op==24)
 case true =>
  have ho:e.op=24:=BM b24;have h1:=WA hu (.inr ho);have w1:IntKind.i64.wrap (2*((szA vs e.name:Nat):Int))=2*((szA vs e.name:Nat):Int):=wrap_i64 U U;have w2:IntKind.i64.wrap (2*((szA vs e.name:Nat):Int)-1)=((2*szA vs e.name-1:Nat):Int):=by rw[wrap_i64 U U];omega
  refine ES b1 b24 (isS.ld gs) (bV ge) ?_;refine(size_prog G vs m hl hv e.name U H1).use ?_;refine ES w1 w2 pJ (iM gr) ?_;rw[JM (b:=h.length+2) AQ (tM (CV gr))];exact⟨by rw[UX];unfold xtF;rw[if_neg o1,if_pos ho];rfl,hx.set U _⟩
 have o24:¬e.op=24:=BM b24;have gs:=AO (x:=yE 2 [[.n 0,.n (-1)]]) gs;have ge:=AO (x:=yE 2 [[.n 0,.n (-1)]]) ge;have lr:=AC gr;have gr:=AO (x:=yE 2 [[.n 0,.n (-1)]]) gr;have gl:=AX H1 (yE 2 [[.n 0,.n (-1)]]);have hx:=hx.app [yE 2 [[.n 0,.n (-1)]]];have sl235:DU jA (H1++[yE 2 [[.n 0,.n 0]]]) 235 (.ptr H1.length 0 0) (.agg [.n 0,.n (-1)])=some (H1++[yE 2 [[.n 0,.n (-1)]]]):=by rw[iM (AX _ _),JZ]
 refine JI b1 b24 pJ A13 sl235 ?_
 generalize H1++[yE 2 [[.n 0,.n (-1)]]]=H2 at gs ge gr gl hx|-
 generalize H1.length=lb at gl lr|-
 refine A7 (U9 ge) ?_;have hlen:(e.args.map (H8 vs)).length=e.args.length:=List.length_map _;refine EU 1 (fun F H=>F 2=.ptr h.length 0 0/\F 3=.ptr (h.length+1) 0 0/\F 4=.ptr (h.length+2) 0 0/\F 5=.n (cZ (e.args.map (H8 vs)):Nat)/\F 6=.ptr lb 0 0/\isS H h.length m vs/\H[h.length+1]?=some (yE 4 [A8 e])/\H[h.length+2]?=some (yE 2 [[.n 0,.n 0]])/\H[lb]?=some (yE 2 [exR (UR (e.args.map (H8 vs)))])/\Sm.ext h H) (fun _ _=>False) ?_ ?_ (fun _ _ q=>q.elim)
 .refine BK (fun n F H=>∃j,n+j=e.args.length/\F 2=.ptr h.length 0 0/\F 3=.ptr (h.length+1) 0 0/\F 4=.ptr (h.length+2) 0 0/\F 5=.n (cZ ((e.args.map (H8 vs)).take j):Nat)/\F 6=.ptr lb 0 0/\F 28=.sl e.m 4 (e.args.map A8)/\F 29=.n (e.args.length:Nat)/\F 30=.n (j:Nat)/\isS H h.length m vs/\H[h.length+1]?=some (yE 4 [A8 e])/\H[h.length+2]?=some (yE 2 [[.n 0,.n 0]])/\H[lb]?=some (yE 2 [exR (UR ((e.args.map (H8 vs)).take j))])/\Sm.ext h H) e.args.length
   ⟨0,BA,AQ,AQ,AQ,AQ,AQ,AQ,AQ,AQ,gs,ge,gr,gl,hx⟩ ?_
  clear gs ge gr gl hx;rintro n F H ⟨j,hj,f2,f3,f4,f5,f6,f28,f29,f30,gs,ge,gr,gl,hx⟩;refine BB f29 f30 ?_;refine D9 ?_ ?_<;>intro hj'
  .have hmem:e.args[j]∈e.args:=jG hj'
   have gs:=AO (x:=yE 4 [A8 e.args[j]]) gs;have ge:=AO (x:=yE 4 [A8 e.args[j]]) ge;have gr:=AO (x:=yE 4 [A8 e.args[j]]) gr;have gl:=AO (x:=yE 4 [A8 e.args[j]]) gl;have hx:=hx.app [yE 4 [A8 e.args[j]]];have ga:=AX H (yE 4 [A8 e.args[j]]);simp only[vQ,CP,↓reduceIte,jC,enP,PZ,Option.getD_none,f28,f30,CZ hj',DJ O6 JE EG hj',al79,st79]
   generalize H++[yE 4 [A8 e.args[j]]]=H3 at gs ge gr gl hx ga|-
   generalize H.length=ab at ga|-
   refine ES f2 f6 (isS.ld gs) (IU ga) ?_;refine(ih e.args[j] hmem (hn.arg hmem) (QT hu hmem) H3).use ?_;have hj2:j<(e.args.map (H8 vs)).length:=U;have hget:(e.args.map (H8 vs))[j]=H8 vs e.args[j]:=BA;have ss:DU jA H3 235 (.ptr lb 0 0) (.agg (exR (H8 vs e.args[j])))=some (H3.set lb (yE 2 [exR (H8 vs e.args[j])])):=iM gl _ _;have gs':isS (H3.set lb (yE 2 [exR (H8 vs e.args[j])])) h.length m vs:=by grind
   have ge':(H3.set lb (yE 2 [exR (H8 vs e.args[j])]))[h.length+1]?=some (yE 4 [A8 e]):=by grind
   have gr':(H3.set lb (yE 2 [exR (H8 vs e.args[j])]))[h.length+2]?=some (yE 2 [[.n 0,.n 0]]):=by grind
   have gl':(H3.set lb (yE 2 [exR (H8 vs e.args[j])]))[lb]?=some (yE 2 [exR (H8 vs e.args[j])]):=CV gl;have hx':=hx.set (b:=lb) U (yE 2 [exR (H8 vs e.args[j])]);refine DW @ALC f6 ss ?_
   generalize H3.set lb (yE 2 [exR (H8 vs e.args[j])])=H4 at gs' ge' gr' gl' hx'|-
   have s1:=AJJ ((e.args.map (H8 vs)).take j);have s2:=ALH vs e.args[j];have w1:IntKind.i64.wrap (((cZ ((e.args.map (H8 vs)).take j):Nat):Int)+(((H8 vs e.args[j]).1:Nat):Int))=((cZ ((e.args.map (H8 vs)).take j)+(H8 vs e.args[j]).1:Nat):Int):=by rw[wrap_i64 U U];omega
   have mn:min (((cZ ((e.args.map (H8 vs)).take j)+(H8 vs e.args[j]).1:Nat):Int)) 401=((cZ ((e.args.map (H8 vs)).take (j+1)):Nat):Int):=by
    rw[jU hj2,sP,hget];omega
   refine NJ f5 f6 f30 (AKN gl') w1 mn (DC j) ?_;refine⟨n-1,U,j+1,U,AL,AL,AL,AL,AL,AL,AL,AL,gs',ge',gr',?_,hx'⟩;rw[jU hj2,AHD,hget];exact gl'
  .rw[List.take_of_length_le U] at f5 gl
   refine AB ?_;exact⟨AL,AL,AL,AL,AL,gs,ge,gr,gl,hx⟩
 clear gs ge gr gl hx;rintro F H ⟨f2,f3,f4,f5,f6,gs,ge,gr,gl,hx⟩;have hext:=UX vs e;unfold xtF at hext;rw[if_neg o1,if_neg o24] at hext;refine ES f2 f3 (isS.ld gs) (bV ge) ?_;refine(size_prog G vs m hl hv e.name U H).use ?_;refine BB f3 (AOT ge) ?_;cases b3:(e.op != 3)
 case true =>
  have ho:e.op≠3:=BM b3;refine JI b3 f4 f5 pJ (iM gr) ?_;rw[JM (b:=h.length+2) (EI f4) (tM (CV gr))];exact⟨by rw[hext,if_pos ho];rfl,hx.set U _⟩
 have o3:e.op=3:=BM b3;rw[if_neg (fun q=>q o3)] at hext;have hz:=WA hu (.inl o3);obtain⟨a,hargs⟩:=VV hn.self o3;have hle:(UR (e.args.map (H8 vs))).1<=401:=by rw[hargs];exact ALH vs a
 generalize UR (e.args.map (H8 vs))=x at gl hext hle;have g0:=AKN gl;have g1:=AX2 gl;refine ES @ALB b3 f6 g1 ?_;cases c1:decide (x.2≥((szA vs e.name:Nat):Int))
 case true =>
  have q:=of_decide_eq_true c1;refine ES c1 f4 pJ (iM gr) ?_;rw[JM (b:=h.length+2) (EI f4) (tM (CV gr))];exact⟨by rw[hext,if_pos q];rfl,hx.set U _⟩
 have q:=of_decide_eq_false c1;rw[if_neg q] at hext;refine ES @ALB c1 f6 g1 ?_;cases c2:decide (x.2≥(0:Int))
 case true =>
  have q:=of_decide_eq_true c2;refine ES c2 f4 pJ (iM gr) ?_;rw[JM (b:=h.length+2) (EI f4) (tM (CV gr))];exact⟨by rw[hext,if_pos q];rfl,hx.set U _⟩
 have q2:=of_decide_eq_false c2;rw[if_neg q2] at hext;have w1:IntKind.i64.wrap (((x.1:Nat):Int)+4)=((x.1+4:Nat):Int):=by rw[wrap_i64 U U];omega
 have hm8:szA vs e.name*(x.1+4)<=8*405:=Nat.mul_le_mul hsz U;have w2:IntKind.i64.wrap (((szA vs e.name:Nat):Int)*((x.1+4:Nat):Int))=((szA vs e.name*(x.1+4):Nat):Int):=by rw[<-Int.natCast_mul,wrap_i64 U U]
 have w3:IntKind.i64.wrap (((szA vs e.name*(x.1+4):Nat):Int)+1)=((szA vs e.name*(x.1+4)+1:Nat):Int):=by rw[wrap_i64 U U];omega
 have mn:min (((szA vs e.name*(x.1+4)+1:Nat):Int)) 401=((min (szA vs e.name*(x.1+4)+1) 401:Nat):Int):=U;refine cM @ALC c2 f4 f6 g0 w1 w2 w3 mn pJ (iM gr) ?_;rw[JM (b:=h.length+2) (EI f4) (tM (CV gr))];exact⟨by rw[hext];rfl,hx.set U _⟩
end
end Go.Proofs.YtiihpnicbekebaaGreatDoor.Bd.Cl
namespace Go.Proofs.YtiihpnicbekebaaGreatDoor.Ho
open Sm Bins Cov Go.RowKit
variable {m:Mo} {x:Hl} {ins:Ex->List Rng->Ex}
def OB (m:Mo)(x:Hl):List (Nat×Nat):=((kW m x).map Int.toNat).zip (x.bins.map Int.toNat)
theorem AKC (l:List Int)(h:∀z∈l,0<=z):(l.map Int.toNat).map (fun n:Nat=>(n:Int))=l:=by
 rw[qQ]
 conv=>rhs;rw[<-List.map_id l]
 exact List.map_congr_left fun z hz=>by have:=h z hz;show((z.toNat:Nat):Int)=z;omega
theorem mS (hv:NQ m x=true):Prt m x (OB m x):=by
 have mk:∀(ps bs:List Int),kW m x=ps->x.bins=bs->ps.length=bs.length->(∀z∈ps,0<=z)->(∀z∈bs,0<=z)->1<=ps.length->ps.length<=4 ->
   (∀k (h1:k<ps.length) (h2:k<bs.length),∃h:ps[k].toNat<m.pts.length,bs[k].toNat<m.pts[ps[k].toNat].bins.length)->Prt m x (OB m x):=by
  intro ps bs hp hb hl p0 b0 l1 l4 hok
  have e1:(OB m x).map Prod.fst=ps.map Int.toNat:=by
   unfold OB;rw[hp,hb,List.map_fst_zip (by simp [hl])]
  have e2:(OB m x).map Prod.snd=bs.map Int.toNat:=by
   unfold OB;rw[hp,hb,List.map_snd_zip (by simp [hl])]
  have hlen:(OB m x).length=ps.length:=by have:=congrArg wH e1;simpa using this
  refine⟨?_,?_,fun q hq=>?_,U,U⟩
  .have:=congrArg (List.map fun n:Nat=>(n:Int)) e1
   rw[AKC ps p0,qQ] at this;rw[hp];exact this.symm
  .have:=congrArg (List.map fun n:Nat=>(n:Int)) e2
   rw[AKC bs b0,qQ] at this;rw[hb];exact this.symm
  .obtain⟨k,hk,rfl⟩:=qF hq
   have h1:k<ps.length:=U;have h2:k<bs.length:=U
   have g1:(OB m x)[k].1=ps[k].toNat:=by
    have:((OB m x).map Prod.fst)[k]?=(ps.map Int.toNat)[k]? := by rw[e1]
    rw[jW,jW,jI hk,jI h1] at this;simpa using this
   have g2:(OB m x)[k].2=bs[k].toNat:=by
    have:((OB m x).map Prod.snd)[k]?=(bs.map Int.toNat)[k]? := by rw[e2]
    rw[jW,jW,jI hk,jI h2] at this;simpa using this
   obtain⟨q1,q2⟩:=hok k h1 h2;rw[<-g1] at q1;refine⟨q1,?_⟩;rw[g2];have:m.pts[(OB m x)[k].1]=m.pts[ps[k].toNat]:=by congr 1
   rw[this];exact q2
 cases hc:x.cross
 .obtain⟨i,hi,k,hk,hz,hb,hkd,hg⟩:=VF hv hc
  refine mk [(i:Int)] [(k:Int)] ?_ hb rfl (fun z hz=>?_) (fun z hz=>?_) BA BA fun k' h1 h2=>?_
  .unfold kW;rw[if_neg (by rw[hc];decide),hz]
  .rw[wI.1 hz];omega
  .rw[wI.1 hz];omega
  .simp_all
 .obtain⟨i,hi,hz,hin,hh,hg⟩:=VG hv hc
  have hcg:=hg.crs _ (jG hi);have hl:=TL hin;have hl2:m.crs[i].pts.length=x.bins.length:=by rw[<-hl];unfold szs;rw[jP]
  have h2:=hcg.two;have h4:=hcg.four;refine mk m.crs[i].pts x.bins ?_ rfl hl2 (fun z hz=>(hcg.here z hz).1) (fun z hz=>?_) U U fun k h1 h2=>?_
  .unfold kW;rw[if_pos hc,hz,UZ hi]
  .obtain⟨k,hk,rfl⟩:=qF hz
   exact(dV hin k hk U).1
  .obtain⟨q1,q2⟩:=dV hin k h2 h1
   refine⟨hcg.here.toNat h1,?_⟩;have:=hcg.here.bins h1;rw[this];omega
theorem A41 (hm:MoOk m)(h0:FQ m=0){p:Pt}(hp:p∈m.pts){b:Bin}(hb:b∈p.bins):BdB p b:=by
 have v:=lV h0 p hp;have vb:=v.bins b hb;have h1:=v.n64;have h2:=vb.few;have h3:=v.badLen;exact⟨vb.ne,U,fun s hs=>by have:=(vb.each s hs).2.1;omega,U,U,(hm.pts p hp).ex⟩
theorem AE3 {P:Ex->Prop}{ins:Ex->List Rng->Ex}{m:Mo}(h0:FQ m=0){q:Nat×Nat}(h:q.1<m.pts.length)(h2:q.2<m.pts[q.1].bins.length)
  (h3:∀l:List Rng,l.length<=4096->P (ins m.pts[q.1].ex l)/\P (notE (ins m.pts[q.1].ex l))):∀r∈cdQ ins m q,r.length<=2/\∀e∈r,P e:=by
 rw[zR ins h h2];have v:=lV h0 _ (jG h);have vb:=v.bins _ (jG h2);exact AO8 (fun s hs=>(h3 s.l (by have:=(vb.each s hs).2.1;omega)).1) fun _=>(h3 _ v.badLen).2
theorem zE (h0:FQ m=0){q:Nat×Nat}(h:q.1<m.pts.length)(h2:q.2<m.pts[q.1].bins.length):1<=(cdQ ins m q).length/\(cdQ ins m q).length<=8:=by
 rw[zR ins h h2,AEX];have vb:=(lV h0 _ (jG h)).bins _ (jG h2);exact⟨List.length_pos_iff.2 vb.ne,vb.few⟩
theorem AIQ {P:Ex->Prop}{cs:List (List (List Ex))}(h:∀c∈cs,∀r∈c,∀e∈r,P e):∀r∈J8 cs,∀e∈r,P e:=by
 intro r hr e he;unfold J8 at hr;obtain⟨t,_,rfl⟩:=zH.1 hr;unfold rowA at he;obtain⟨c,hc,he⟩:=List.mem_flatMap.1 he;unfold rowC at he;split at he
 .cases hx:c[t-(OZ cs-c.length)]? with
  | none=>rw[hx] at he;cases he
  | some r0=>rw[hx] at he;exact h c hc r0 (List.mem_of_getElem? hx) e he
 .cases he
theorem AD0 {B:Nat}:∀ {R:List (List Ex)},(∀r∈R,r.length<=B)->R.flatten.length<=B*R.length
 | [],_=>BA
 | r::R,h=>by
   have h1:=h r BA;have h2:=AD0 (R:=R) fun r hr=>h r (by simp [hr])
   rw[List.flatten_cons,List.length_append,List.length_cons,Nat.mul_add];omega
theorem uW {cs:List (List (List Ex))}(h4:cs.length<=4)(h8:∀c∈cs,c.length<=8)(h2:∀c∈cs,∀r∈c,r.length<=2):(J8 cs).length<=8/\(∀r∈J8 cs,r.length<=8)/\(J8 cs).flatten.length<=64:=by
 have hn:OZ cs<=8:=WP cs 0 _ (Nat.zero_le _) h8;have a:(J8 cs).length<=8:=by unfold J8;simpa using hn
 have b:∀r∈J8 cs,r.length<=8:=fun r hr=>by
  unfold J8 at hr;obtain⟨t,_,rfl⟩:=zH.1 hr;have:=mO (n:=OZ cs) (t:=t) h2;omega
 refine⟨a,b,?_⟩;have:=AD0 b;omega
def cnL (ins:Ex->List Rng->Ex)(m:Mo)(x:Hl):List (List Ex):=A7Y ins m (OB m x)
def cnE (ins:Ex->List Rng->Ex)(m:Mo)(x:Hl):Int:=if NQ m x=true then (if(cnL ins m x).flatten.all (fun e=>exE e==0)=true then 0 else 2) else 1
def cnV (ins:Ex->List Rng->Ex)(m:Mo)(x:Hl):AV:=.tup [if cnE ins m x=0 then .sl .any 1 ((cnL ins m x).map TR) else .sl .nil 0 [],.n (cnE ins m x)]
theorem ANF (G:Nat->AV)(m:Mo)(x:Hl)(hv:NQ m x=true)(h:Hp):∃s,PCall (En G) 94 [.agg (DV m),.agg (F8 x)] h (.sl s 1 ((kW m x).map Bins.qencI)):=by
 cases hc:x.cross
 .obtain⟨i,hi,k,hk,hz,hb,hkd,hg⟩:=VF hv hc
  exact⟨_,by have:=ACI G m x hc h;unfold kW;rw[if_neg (by rw[hc];decide)];exact this⟩
 .obtain⟨i,hi,hz,hin,hh,hg⟩:=VG hv hc
  exact⟨_,by have:=ACJ G m x hc i hi hz h;unfold kW;rw[if_pos hc,hz,UZ hi];exact this⟩
section
variable (G:Nat->AV)
theorem AIF (m:Mo)(hm:MoOk m)(h0:FQ m=0)(x:Hl)(L:List (Nat×Nat))(hL:Prt m x L)(j:Nat)(hj:j<L.length)(b2 b3:Nat)(h:Hp)(gm:h[b2]?=some (yE 2 [DV m]))(gh:h[b3]?=some (yE 3 [F8 x])):
  PCall (En G) 92 [.n (j:Nat),.n (L[j].1:Nat),.ptr b2 0 0,.ptr b3 0 0] h (.sl .any 1 ((cdQ EE m L[j]).map encX)):=by
 obtain⟨h1,h2⟩:=hL.ok _ (jG hj);have B:=A41 hm h0 (jG h1) (jG h2);have hb:j<x.bins.length:=by rw[hL.bins,jP];exact hj
 have hbj:x.bins[j]=((L[j].2:Nat):Int):=by
  have:x.bins[j]?=(L.map fun q=>((q.2:Nat):Int))[j]? := by rw[<-hL.bins]
  rw[jI hb,jW,jI hj] at this;simpa using this
 rw[zR EE h1 h2];refine acT Tryz.func92 6 ?_;refine AB ?_;refine D6 AZ ?_;simp only[vQ,LQ,O9,NW,↓reduceIte,jC,Nat.reduceAdd,Nat.add_zero,Nat.zero_add,enP,XL,P7,LY,bT,dS gm,CZ h1,DJ lB bA H9 h1,AR7 gh,CZ hb,CW ag3 hb,Cov.encI0,hbj];refine⟨_,oZ G m.pts[L[j].1] L[j].2 h2 B h,?_⟩
 try refine AB ?_
 exact⟨AL,AL⟩
end
theorem A8C (h:Hp)(xs:List (List AV)):DF jA false h 159 1 [(0,.sl .any 1 xs)]=some (.sl .full 1 [[.sl .any 1 xs]],h):=AZ
theorem A7F:∀l:List (List (List Ex)),MZ (l.map XC)=true:=fun l=>by
 unfold MZ;rw[List.all_eq_true];intro row hr;obtain⟨c,_,rfl⟩:=zH.1 hr;rfl
theorem AZJ (ins:Ex->List Rng->Ex)(m:Mo)(x:Hl)(n:Nat)(H:Hp):FH n H 3 (cnV ins m x)=cnV ins m x:=by
 unfold cnV;split<;>rfl
theorem AZK (h:NQ m x=false):cnV ins m x=.tup [.sl .nil 0 [],.n 1]:=by
 have:cnE ins m x=1:=by unfold cnE;rw[if_neg (by rw[h];decide)]
 unfold cnV;rw[this];rfl
theorem AZI (h:NQ m x=true)(hc:(cnL ins m x).flatten.all (fun e=>exE e==0)=false):cnV ins m x=.tup [.sl .nil 0 [],.n 2]:=by
 have:cnE ins m x=2:=by unfold cnE;rw[if_pos h,if_neg (by rw[hc];decide)]
 unfold cnV;rw[this];rfl
theorem A4Q (h:NQ m x=true)(hc:(cnL ins m x).flatten.all (fun e=>exE e==0)=true):cnV ins m x=.tup [.sl .any 1 ((cnL ins m x).map TR),.n 0]:=by
 have:cnE ins m x=0:=by unfold cnE;rw[if_pos h,if_pos hc]
 unfold cnV;rw[this];rfl
theorem vJ (h:NQ m x=true):FQ m=0:=by
 unfold NQ at h;rw[Bool.and_eq_true] at h;simpa using h.1
section
variable (G:Nat->AV)
theorem qT (hG:GOk G)(m:Mo)(hm:MoOk m)(x:Hl)(hn:x.bins.length<=1048576)(h:Hp):PCall (En G) 43 [.agg (DV m),.agg (F8 x)] h (cnV EE m x):=by
 refine ACalls.pure (R:=fun v H=>v=cnV EE m x/\Sm.ext h H) 3 ?_ (fun v H ⟨a,b⟩=>⟨b,by rw[a,AZJ]⟩);refine IP (H:=hint [] [(36,[35])]) (enM G) Tryz.func43 rfl (by kernel_rfl) (by kernel_rfl) (jB (by kernel_rfl)) ?_;show awp _ _ _ _ _ (L6 _ [.tmp 4,.tmp 5] _);have t:=Hb.mk' h m x;refine BB @bxM @bxH ?_
 generalize h++[yE 2 [DV m]]++[yE 3 [F8 x]]=H at t|-
 generalize (h++[yE 2 [DV m]]).length=hb at t|-
 refine BB (ldM t.gm) (ldH t.gh) ?_;refine(valid_prog G hG m hm x hn H).use ?_;cases hv:NQ m x
 .refine AB ?_
  exact⟨by rw[AZK hv],t.hx⟩
 have h0:=vJ hv;have hL:=mS hv;obtain⟨s,hp⟩:=ANF G m x hv H;rw[hL.pts] at hp;refine BB (ldM t.gm) (ldH t.gh) ?_;refine hp.use ?_;have hcl:cnL EE m x=J8 ((OB m x).map (cdQ EE m)):=rfl;have hln:=hL.n4;have hl1:=hL.n1
 have hev:∀q∈OB m x,(∀r∈cdQ EE m q,r.length<=2/\∀e∈r,WN e)/\1<=(cdQ EE m q).length/\(cdQ EE m q).length<=8:=fun q hq=>by
  obtain⟨a,b⟩:=hL.ok q hq;have hw:=(hm.pts _ (jG a)).ex;exact⟨AE3 h0 a b fun l hl=>⟨(AL5 hw hl).1,(A0F (AL5 hw hl)).1⟩,zE h0 a b⟩
 generalize OB m x=L at hL hcl hln hl1 hev;refine AB ?_;refine EU 0 (fun F H'=>∃v,F 7=v/\Sm.ext H H'/\outG 1 XC H (L.map (cdQ EE m)) v H') (fun _ _=>False) ?_ ?_ (fun _ _ q=>q.elim)
 .refine BK (fun n F H'=>∃j v,n+j=L.length/\F 6=.fn (.func 92) [] [.ptr h.length 0 0,.ptr hb 0 0]/\F 7=v/\F 20=.sl s 1 ((L.map fun q=>((q.1:Nat):Int)).map Bins.qencI)/\F 21=.n (L.length:Nat)/\F 22=.n (j:Nat)/\Sm.ext H H'/\outG 1 XC H ((L.take j).map (cdQ EE m)) v H') L.length
   ⟨0,.sl .nil 0 [],BA,AQ,AQ,AQ,AQ,AQ,ext.rfl' _,by rw[List.take_zero];exact outG.nil _ _ _ _⟩ ?_
  rintro n F H' ⟨j,v,hj,f6,f7,f20,f21,f22,hx,ho⟩;refine BB f21 f22 ?_;refine D9 ?_ ?_<;>intro hj'
  .have hj2:j<(L.map fun q=>((q.1:Nat):Int)).length:=by rw[jP];exact hj'
   have hg:(L.map fun q=>((q.1:Nat):Int))[j]=((L[j].1:Nat):Int):=BA;have hlen:((L.take j).map (cdQ EE m)).length<8388608:=by rw[jP,List.length_take];omega
   obtain⟨v',H2,ha,ho2,_,he2,_,_⟩:=ho.append (P:=jA) A5P A03 A5F A76 U hlen hx (cdQ EE m L[j]);have ha':EQ jA true H' 159 159 v (.sl .full 1 [[.sl .any 1 ((cdQ EE m L[j]).map encX)]])=some (v',H2):=ha
   have hst:(L.take (j+1)).map (cdQ EE m)=(L.take j).map (cdQ EE m)++[cdQ EE m L[j]]:=by
    rw[List.take_succ_eq_append_getElem hj',qU];rfl
   simp only[vQ,jS,jV,CP,List.nil_append,List.cons_append,↓reduceIte,jC,enP,LY,qR,TN,f6,f7,f20,f22,CZ hj2,CW ag3 hj2,Cov.encI0,hg];refine(AIF G m hm h0 x L hL j hj' h.length hb H' (DI hx t.gm) (DI hx t.gh)).use ?_;refine JI f7 f22 @A8C ha' (DC j) ?_;exact⟨n-1,U,j+1,v',U,AL,AL,AL,AL,AL,he2,by rw[hst];exact ho2⟩
  .rw[jJ U] at ho
   refine AB ?_;exact⟨v,AL,hx,ho⟩
 rintro F H' ⟨v,f7,hx,ho⟩;have hcl4:(L.map (cdQ EE m)).length<=4:=by rw[jP];exact hln
 have hcl1:L.map (cdQ EE m)≠[]:=by intro q;have:=congrArg wH q;rw[jP,List.length_nil] at this;omega
 have hc8:∀c∈L.map (cdQ EE m),c.length<=8:=fun c hc=>by
  obtain⟨q,hq,rfl⟩:=zH.1 hc;exact(hev q hq).2.2
 have hc2:∀c∈L.map (cdQ EE m),∀r∈c,r.length<=2:=fun c hc r hr=>by
  obtain⟨q,hq,rfl⟩:=zH.1 hc;exact((hev q hq).1 r hr).1
 have hcw:∀c∈L.map (cdQ EE m),∀r∈c,∀e∈r,WN e:=fun c hc r hr=>by
  obtain⟨q,hq,rfl⟩:=zH.1 hc;exact((hev q hq).1 r hr).2
 generalize L.map (cdQ EE m)=cs at ho hcl hcl4 hcl1 hc8 hc2 hcw;clear hev hp
 obtain⟨o,rfl,ho1,hob⟩:∃o,v=.own o 0 cs.length/\H.length<=o/\H'[o]?=some (yE 1 (cs.map XC)):=by
  rcases ho with⟨e1,_⟩|⟨_,o,h1,h2,h3⟩
  .exact absurd e1 hcl1
  .exact⟨o,h2,h1,h3⟩
 have hz:=ADS (i:=35) (off:=0) (len:=cs.length) hob BA (by rw[zU,jJ BA];exact A7F cs);rw[zU,jJ BA] at hz;have hx2:=hx.set ho1 .dead;refine DW f7 @ADT hz ?_
 generalize H'.set o .dead=H2 at hx2|-
 refine(AAG G cs .any U (fun c hc=>by have:=hc8 c hc;omega) hc2 H2).use ?_;obtain⟨ha1,ha2,ha3⟩:=uW hcl4 hc8 hc2
 have haw:∀e∈(J8 cs).flatten,WN e:=fun e he=>by
  obtain⟨r,hr,he⟩:=List.mem_flatten.1 he;exact AIQ hcw r hr e he
 rw[<-hcl] at ha1 ha2 ha3 haw|-
 clear hcl;refine AB ?_;refine(concat_prog G (cnL EE m x) .any U U H2).uu ?_
 generalize hE:(cnL EE m x).flatten=E at ha3 haw|-
 have hok:∀b,E.all (fun e=>exE e==0)=b->(cnL EE m x).flatten.all (fun e=>exE e==0)=b:=fun b hb=>by rw[hE];exact hb
 have hhx:=t.hx.trans hx2;refine EU 2 (fun F H'=>F 10=.sl .any 1 ((cnL EE m x).map TR)/\Sm.ext h H'/\E.all (fun e=>exE e==0)=true) (fun F H'=>F 4=.sl .nil 0 []/\F 5=.n 2/\Sm.ext h H'/\E.all (fun e=>exE e==0)=false) ?_ ?_ ?_
 .refine BK (fun n F H'=>∃i,n+i=E.length/\F 10=.sl .any 1 ((cnL EE m x).map TR)/\F 38=.sl (Cov.nm E) 4 (E.map A8)/\F 39=.n (E.length:Nat)/\F 40=.n (i:Nat)/\Sm.ext h H'/\E.all (fun e=>exE e==0)=(E.drop i).all (fun e=>exE e==0)) E.length
   ⟨0,BA,AQ,AQ,AQ,AQ,hhx,rfl⟩ ?_
  rintro n F H3 ⟨i,hi,f10,f38,f39,f40,hx3,hq⟩;refine BB f39 f40 ?_;refine D9 ?_ ?_<;>intro hi'
  .rw[List.drop_eq_getElem_cons hi',List.all_cons] at hq
   simp only[vQ,jS,jV,CP,↓reduceIte,jC,enP,PZ,Option.getD_none,qR,TN,f38,f40,CZ hi',DJ O6 JE EG hi',RQ,rF _ _ [.n 0,.n 0,.str ⟨#[]⟩,.sl .nil 0 []] rfl,ldE];refine(aL G hG E[i] _ (haw _ (jG hi'))).use ?_;simp only[vQ,jS,jV,CP,↓reduceIte,enP,qR,TN,bne];cases hz:(exE E[i]==0)
   .rw[hz,Bool.false_and] at hq
    refine AB ?_;exact⟨AL,AL,hx3.app _,hq⟩
   .rw[hz,Bool.true_and] at hq
    refine BB f40 (DC i) ?_;exact⟨n-1,U,i+1,U,AL,AL,AL,AL,hx3.app _,hq⟩
  .rw[List.drop_eq_nil_of_le U] at hq
   refine AB ?_;exact⟨AL,hx3,hq⟩
 .rintro F H3 ⟨f10,hx3,hq⟩
  refine A7 f10 ?_;exact⟨by rw[A4Q hv (hok _ hq)],hx3⟩
 .rintro F H3 ⟨f4,f5,hx3,hq⟩
  refine BB f4 f5 ?_;exact⟨by rw[AZI hv (hok _ hq)],hx3⟩
end
theorem ALP (e:Ex):(cpE e).op=e.op:=by rw[cA];rfl
theorem A7W (e:Ex):(cpE e).n=e.n:=by rw[cA];rfl
theorem lM (e:Ex):(cpE e).name=e.name:=by rw[cA];rfl
theorem yW (e:Ex):(cpE e).args=e.args.map cpE:=by rw[cA];rfl
theorem ACD:∀l:List Ex,(∀e∈l,pre (cpE e)=(pre e).map cpE)->FM (l.map cpE)=(FM l).map cpE
 | [],_=>rfl
 | e::l,h=>by
   show pre (cpE e)++FM (l.map cpE)=(pre e++FM l).map cpE;rw[qU,h e BA,ACD l fun x hx=>h x (by simp [hx])]
theorem AGX (e:Ex):pre (cpE e)=(pre e).map cpE:=by
 induction e using Ex.induct with|h e ih=>?_
 rw[pre_eq,pre_eq e,yW,ACD _ ih,jK]
end Go.Proofs.YtiihpnicbekebaaGreatDoor.Ho
namespace Go.Proofs.YtiihpnicbekebaaGreatDoor.Bd.Cl
open Sm Bins Cov Xe Wd Bl Ho Go.RowKit
variable {vs:List Vr} {e:Ex}
def vaE (a:ByteArray)(k:Nat):Ex:=JK (elN a k)
def WE (a:ByteArray):Nat->Ex
 | 0=>vaE a 0
 | k+1=>.mk 7 0 ⟨#[]⟩ .full [WE a k,vaE a (k+1)]
def chK (c:Ex->Ex)(a:ByteArray)(i:Ex)(n:Nat):Nat->Ex
 | 0=>cE 0
 | j+1=>.mk 22 0 ⟨#[]⟩ .full [.mk 15 0 ⟨#[]⟩ .full [c i,cE ((n-1-j:Nat):Int)],vaE a (n-1-j),chK c a i n j]
def Z9 (c:Ex->Ex)(a:ByteArray)(i:Ex)(n:Nat):Ex:=if i.op=1 then (if i.n<(n:Int) then vaE a i.n.toNat else cE 0) else chK c a i n n
structure Bw where
 c:Ex->Ex
 md:List Ex->SM
def scF (s:Bw)(vs:List Vr)(op n:Int)(name:ByteArray)(l:List Ex):Ex :=
 if op=24 then WE name (szA vs name-1) else if op=3 then Z9 s.c name (l.head?.getD (cE 0)) (szA vs name) else .mk op n name (s.md l) l
mutual
def GZ (s:Bw)(vs:List Vr):Ex->Ex
 | .mk op n name _ args=>scF s vs op n name (ABO s vs args)
def ABO (s:Bw)(vs:List Vr):List Ex->List Ex
 | []=>[]
 | e::es=>GZ s vs e::ABO s vs es
end
theorem sV (s:Bw)(vs:List Vr):∀l:List Ex,ABO s vs l=l.map (GZ s vs)
 | []=>by simp [ABO]
 | e::es=>by simp [ABO,sV s vs es]
theorem WF (s:Bw)(vs:List Vr)(e:Ex):GZ s vs e=scF s vs e.op e.n e.name (e.args.map (GZ s vs)):=by
 cases e;simp only[GZ,sV];rfl
def sdP:Bw:=⟨cpE,fun _=>.any⟩
def Bw.Len (s:Bw):Prop:=∀e,(pre (s.c e)).length=(pre e).length/\(∀N,NmB N e->NmB N (s.c e))
theorem AJO:sdP.Len:=fun e=>⟨by show(pre (cpE e)).length=_;rw[AGX,List.length_map],fun N h=>AL8 e h⟩
theorem WJ (op n:Int)(name:ByteArray)(m:SM)(l:List Ex):(pre (.mk op n name m l)).length=1+(FM l).length:=by rw[pre_eq,List.length_cons];show _+1=1+(FM l).length;rw[Nat.add_comm];rfl
theorem mW:FM []=[]:=rfl
theorem PK (e:Ex)(l:List Ex):FM (e::l)=pre e++FM l:=rfl
theorem AJB (a:ByteArray)(k:Nat):(pre (vaE a k)).length=1:=rfl
theorem A4U (n:Int):(pre (cE n)).length=1:=rfl
theorem AA9 (a:ByteArray):∀k,(pre (WE a k)).length=2*k+1
 | 0=>rfl
 | k+1=>by
   have ih:=AA9 a k;show(pre (.mk 7 0 ⟨#[]⟩ .full [WE a k,vaE a (k+1)])).length=_;rw[WJ,PK,PK,mW,jX,jX,ih,AJB];simp;omega
theorem ALS {s:Bw}(hs:s.Len)(a:ByteArray)(i:Ex)(n:Nat):∀j,(pre (chK s.c a i n j)).length=j*((pre i).length+4)+1
 | 0=>by rw[Nat.zero_mul];rfl
 | j+1=>by
   have ih:=ALS hs a i n j;show(pre (.mk 22 0 ⟨#[]⟩ .full [.mk 15 0 ⟨#[]⟩ .full [s.c i,cE ((n-1-j:Nat):Int)],vaE a (n-1-j),chK s.c a i n j])).length=_;rw[WJ,PK,PK,PK,mW,jX,jX,jX,ih,AJB,WJ,PK,PK,mW,jX,jX,A4U,(hs i).1,Nat.add_mul];simp;omega
theorem AC2 (x:Nat):¬(0:Int)<=((x,-1):Nat×Int).2:=by show ¬(0:Int)<=-1;decide
theorem AK4:∀(l:List (Nat×Int)) (s:Nat),s<=401->s<=l.foldl (fun s x=>min (s+x.1) 401) s
 | [],s,_=>jF s
 | x::l,s,h=>by
   have:=AK4 l (min (s+x.1) 401) U;rw[qW];omega
theorem ADX:∀(l:List (Nat×Int)) (s:Nat),l.foldl (fun s x=>min (s+x.1) 401) s<=400->l.foldl (fun s x=>min (s+x.1) 401) s=(l.map Prod.fst).foldl (·+·) s/\∀x∈l,x.1<=400
 | [],s,_=>⟨rfl,fun x hx=>by cases hx⟩
 | x::l,s,h=>by
   rw[qW] at h|-
   have h1:=AK4 l (min (s+x.1) 401) U;have e:min (s+x.1) 401=s+x.1:=U;obtain⟨i1,i2⟩:=ADX l (min (s+x.1) 401) h;refine⟨by rw[i1,e];rfl,fun y hy=>?_⟩;rcases zN.1 hy with rfl|hy
   .omega
   .exact i2 y hy
theorem AA7 {l:List (Nat×Int)}(h:cZ l<=400):cZ l=(l.map Prod.fst).foldl (·+·) 1/\∀x∈l,x.1<=400:=ADX l 1 h
theorem tB:∀(l:List Ex) (z:Nat),z+(FM l).length=(l.map fun e=>(pre e).length).foldl (·+·) z
 | [],z=>rfl
 | e::l,z=>by
   rw[jK,qW,<-tB l,PK,jX];omega
theorem AT0 (a:ByteArray)(k:Nat):(elN a k).size=a.size+3:=by
 rw[vM,NU,jX,vM];rfl
theorem lR {a:ByteArray}{k N:Nat}(h:a.size+3<=N):NmB N (vaE a k):=NmB.mk (by rw[AT0];exact h) fun x hx=>by cases hx
theorem AF0 {a:ByteArray}{N:Nat}(h:a.size+3<=N):∀k,NmB N (WE a k)
 | 0=>lR h
 | k+1=>NmB.mk (qK _) fun x hx=>by
   simp only[zN,List.not_mem_nil,or_false] at hx;rcases hx with rfl|rfl
   .exact AF0 h k
   .exact lR h
theorem AL9 {s:Bw}(hs:s.Len){a:ByteArray}{i:Ex}{n N:Nat}(h:a.size+3<=N)(hi:NmB N i):∀j,NmB N (chK s.c a i n j)
 | 0=>cK N 0
 | j+1=>NmB.mk (qK _) fun x hx=>by
   simp only[zN,List.not_mem_nil,or_false] at hx;rcases hx with rfl|rfl|rfl
   .refine NmB.mk (qK _) fun x hx=>?_
    simp only[zN,List.not_mem_nil,or_false] at hx;rcases hx with rfl|rfl
    .exact(hs i).2 N hi
    .exact cK N _
   .exact lR h
   .exact AL9 hs h hi j
theorem AVJ {s:Bw}(hs:s.Len){a:ByteArray}{i:Ex}{n N:Nat}(h:a.size+3<=N)(hi:NmB N i):NmB N (Z9 s.c a i n):=by
 unfold Z9;split
 .split
  .exact lR h
  .exact cK N 0
 .exact AL9 hs h hi n
theorem A2V {s:Bw}(hs:s.Len)(vs:List Vr)(e:Ex):NdOk e->NmB 22 (GZ s vs e):=by
 induction e using Ex.induct with|h e ih=>?_
 intro hn;have hnm:=hn.name;rw[WF];unfold scF;split
 .exact AF0 U _
 split
 .refine AVJ hs U ?_
  cases hq:e.args with
  | nil=>exact cK _ _
  | cons a tl=>exact ih a (by rw[hq];simp) (hn.arg (by rw[hq];simp))
 .refine NmB.mk U fun x hx=>?_
  obtain⟨a,ha,rfl⟩:=zH.1 hx;exact ih a ha (hn.arg ha)
theorem yN {a:Ex}(hn:NdOk e)(hu:OV vs e=false)(h:(H8 vs e).1<=400)(ha:a∈e.args):(H8 vs a).1<=400:=by
 rw[UX] at h;unfold xtF at h;split at h
 .rename_i ho;rw[eP hn.self (.inl ho)] at ha;cases ha
 split at h
 .rename_i ho;rw[eP hn.self (.inr (.inr ho))] at ha;cases ha
 split at h
 .exact(AA7 h).2 _ (zH.2 ⟨a,ha,rfl⟩)
 .rename_i o1 o24 o3
  have o3:e.op=3:=BM o3;obtain⟨b,hb⟩:=VV hn.self o3;have hz:=WA hu (.inl o3);rw[hb] at ha h;rw[List.mem_singleton.1 ha];have hlast:UR ([b].map (H8 vs))=H8 vs b:=rfl;rw[hlast] at h;have one:0<=(H8 vs b).2->(H8 vs b).1<=400:=fun q=>by rw[AY5 q];decide
  split at h
  .exact one U
  split at h
  .exact one (by assumption)
  .have h:min (szA vs e.name*((H8 vs b).1+4)+1) 401<=400:=h
   have h1:1*((H8 vs b).1+4)<=szA vs e.name*((H8 vs b).1+4):=Nat.mul_le_mul hz (jF _);omega
theorem fB {s:Bw}:NdOk e->OV vs e=false->((GZ s vs e).op=1↔0<=(H8 vs e).2)/\(0<=(H8 vs e).2->(GZ s vs e).n=(H8 vs e).2):=by
 induction e using Ex.induct with|h e ih=>?_
 intro hn hu;rw[UX,WF];unfold xtF scF;by_cases o1:e.op=1
 .have:=(ARO hn.self o1).1
  rw[if_pos o1,if_neg U,if_neg U];exact⟨⟨fun _=>this,fun _=>o1⟩,fun _=>rfl⟩
 rw[if_neg o1];by_cases o24:e.op=24
 .rw[if_pos o24,if_pos o24]
  have:∀k,(WE e.name k).op≠1:=fun k=>by
   cases k with
   | zero=>show(2:Int)≠1;decide
   | succ k=>show(7:Int)≠1;decide
  exact⟨⟨fun q=>absurd q (this _),fun q=>absurd q (AC2 _)⟩,fun q=>absurd q (AC2 _)⟩
 rw[if_neg o24,if_neg o24];by_cases o3:e.op=3
 .have o3n:¬e.op≠3:=fun q=>q o3
  rw[if_pos o3,if_neg o3n];obtain⟨b,hb⟩:=VV hn.self o3;have hz:=WA hu (.inl o3);have hm:b∈e.args:=by rw[hb];simp
  obtain⟨i1,i2⟩:=ih b hm (hn.arg hm) (QT hu hm);rw[hb];have hlast:UR ([b].map (H8 vs))=H8 vs b:=rfl;have hhd:(([b].map (GZ s vs)).head?.getD (cE 0))=GZ s vs b:=rfl;rw[hlast,hhd];unfold Z9;generalize GZ s vs b=x at i1 i2;generalize H8 vs b=y at i1 i2;by_cases q:x.op=1
  .have h0:=i1.1 q
   have hn2:=i2 h0;rw[if_pos q,hn2];by_cases q2:(szA vs e.name:Int)<=y.2
   .rw[if_pos q2,if_neg U]
    exact⟨⟨fun _=>Int.le_refl 0,fun _=>rfl⟩,fun _=>rfl⟩
   .rw[if_neg q2,if_pos h0,if_pos U]
    exact⟨⟨fun q=>absurd q (by show(2:Int)≠1;decide),fun q=>absurd q (AC2 _)⟩,fun q=>absurd q (AC2 _)⟩
  .have h0:¬0<=y.2:=fun h=>q (i1.2 h)
   rw[if_neg q,if_neg U,if_neg h0]
   have:∀k,0<k->(chK s.c e.name x (szA vs e.name) k).op≠1:=fun k hk=>by
    cases k with
    | zero=>omega
    | succ k=>show(22:Int)≠1;decide
   exact⟨⟨fun q=>absurd q (this _ U),fun q=>absurd q (AC2 _)⟩,fun q=>absurd q (AC2 _)⟩
 .rw[if_pos o3,if_neg o3]
  exact⟨⟨fun q=>absurd q o1,fun q=>absurd q (AC2 _)⟩,fun q=>absurd q (AC2 _)⟩
theorem AWJ {s:Bw}(hs:s.Len)(vs:List Vr)(e:Ex):NdOk e->OV vs e=false->(H8 vs e).1<=400->(pre (GZ s vs e)).length=(H8 vs e).1:=by
 induction e using Ex.induct with|h e ih=>?_
 intro hn hu hx;have ih':∀a∈e.args,(pre (GZ s vs a)).length=(H8 vs a).1:=fun a ha=>ih a ha (hn.arg ha) (QT hu ha) (yN hn hu hx ha)
 rw[WF]
 rw[UX] at hx|-
 unfold xtF at hx|-
 unfold scF;by_cases o1:e.op=1
 .rw[if_pos o1,if_neg U,if_neg U,eP hn.self (.inl o1)]
  rfl
 rw[if_neg o1] at hx|-
 by_cases o24:e.op=24
 .have hz:=WA hu (.inr o24)
  rw[if_pos o24,if_pos o24,AA9];show 2*(szA vs e.name-1)+1=2*szA vs e.name-1;omega
 rw[if_neg o24] at hx|-
 rw[if_neg o24];by_cases o3:e.op=3
 .have o3n:¬e.op≠3:=fun q=>q o3
  rw[if_neg o3n] at hx|-
  rw[if_pos o3];obtain⟨b,hb⟩:=VV hn.self o3;have hz:=WA hu (.inl o3);have hm:b∈e.args:=by rw[hb];simp
  obtain⟨i1,i2⟩:=fB (s:=s) (hn.arg hm) (QT hu hm);have hl:=ih' b hm
  rw[hb] at hx|-
  have hlast:UR ([b].map (H8 vs))=H8 vs b:=rfl;have hhd:(([b].map (GZ s vs)).head?.getD (cE 0))=GZ s vs b:=rfl
  rw[hlast] at hx|-
  rw[hhd];unfold Z9;generalize GZ s vs b=x at i1 i2 hl;generalize H8 vs b=y at i1 i2 hl hx;by_cases q:x.op=1
  .have h0:=i1.1 q
   have hn2:=i2 h0;rw[if_pos q,hn2];by_cases q2:(szA vs e.name:Int)<=y.2
   .rw[if_pos q2,if_neg U];rfl
   .rw[if_neg q2,if_pos h0,if_pos U];rfl
  .have h0:¬0<=y.2:=fun h=>q (i1.2 h)
   have h1:¬(szA vs e.name:Int)<=y.2:=U
   rw[if_neg h1,if_neg h0] at hx|-
   rw[if_neg q,ALS hs,hl];have hx:min (szA vs e.name*(y.1+4)+1) 401<=400:=hx;show szA vs e.name*(y.1+4)+1=min (szA vs e.name*(y.1+4)+1) 401;omega
 .rw[if_pos o3] at hx|-
  rw[if_neg o3];have h1:=(AA7 hx).1;show(pre (.mk e.op e.n e.name (s.md (e.args.map (GZ s vs))) (e.args.map (GZ s vs)))).length=cZ (e.args.map (H8 vs));rw[h1,WJ,tB,qQ,qQ];congr 1;exact List.map_congr_left fun a ha=>ih' a ha
theorem AQV {s:Bw}(hs:s.Len)(hn:NdOk e)(hu:OV vs e=false)(hx:(H8 vs e).1<=400):wt (GZ s vs e)<=10000:=by
 have h1:=A0W 22 (GZ s vs e) (A2V hs vs e hn);rw[AWJ hs vs e hn hu hx] at h1;have:(H8 vs e).1*23<=400*23:=Nat.mul_le_mul_right _ hx;omega
def scC (vs:List Vr)(e:Ex):Int:=if OV vs e=true then 7 else if 400<(H8 vs e).1 then 2 else exE (GZ sdP vs e)
def scV (s:Bw)(vs:List Vr)(e:Ex):AV:=.tup [.agg (if scC vs e=0 then A8 (GZ s vs e) else EX),.n (scC vs e)]
theorem A2G (n:ByteArray):CvR (.agg (OU n)) (.agg (A8 (JK n))):=by
 rw[FI];exact CvR.agg (CvRL.cons (CvR.refl _) (CvRL.cons (CvR.refl _) (CvRL.cons (CvR.refl _) (CvRL.cons (CvR.sl (Cv.nil 0 4)) CvRL.nil))))
theorem A8K (op:Int)(m:SM)(xs:List (List AV)):I5 jA 79 [(0,.n op),(3,.sl m 4 xs)]=some (.agg [.n op,.n 0,.str ⟨#[]⟩,.sl m 4 xs]):=AZ
theorem ATU (op:Int)(m:SM)(l:List Ex):A8 (.mk op 0 ⟨#[]⟩ m l)=[.n op,.n 0,.str ⟨#[]⟩,.sl m 4 (l.map A8)]:=FI _
theorem bs3 (h:Hp)(a b c:Ex):DF jA false h 23 3 [(0,.agg (A8 a)),(1,.agg (A8 b)),(2,.agg (A8 c))]=some (.sl .full 4 [A8 a,A8 b,A8 c],h):=by
 rw[FI a,FI b,FI c];exact(AZ:DF jA false h 23 3 [(0,.agg [.n a.op,.n a.n,.str a.name,.sl a.m 4 (a.args.map A8)]),(1,.agg [.n b.op,.n b.n,.str b.name,.sl b.m 4 (b.args.map A8)]),(2,.agg [.n c.op,.n c.n,.str c.name,.sl c.m 4 (c.args.map A8)])]=_)
theorem z4:([AV.int .i64 0,.n 0,.str ⟨#[]⟩,.sl .nil 0 []]:List AV)=EX:=rfl
section
variable (G:Nat->AV)
theorem QS (a:ByteArray)(k:Nat)(hk:k<9)(ha:a.size<=1048576)(h:Hp):PCall (En G) 302 [.str a,.n (k:Nat)] h (.agg (A8 (vaE a k))):=by
 refine PCall.res ?_ (A2G (elN a k));refine X8 3 (fun n H=>rfl) ?_;refine acL Tryz.func302 [.cell 4 79] ?_;have g2:=AX h (yE 4 [EX]);have hx:=Sm.ext.r1 h (yE 4 [EX]);refine BB RQ z4 ?_
 generalize h++[yE 4 [EX]]=H1 at g2 hx|-
 refine(oQ G a k hk H1 ha).use ?_;have s2:=XA (cs:=OU (elN a k)) g2 rfl rfl rfl;refine BB @AZ3 s2 ?_;rw[JM (b:=h.length) AQ (KZ (CV g2) rfl)];exact⟨rfl,hx.set (jF _) _⟩
theorem YH (n:Int)(h:Hp):PCall (En G) 304 [.n n] h (.agg (A8 (cE n))):=by
 refine PCall.res ?_ (pA n);refine X8 3 (fun n H=>rfl) ?_;refine acL Tryz.func304 [.cell 2 79] ?_;have g2:=AX h (yE 4 [EX]);have s2:=XA (cs:=pB 1 n) g2 rfl rfl rfl;refine ES RQ @ALW z4 s2 ?_;rw[JM (b:=h.length) AQ (KZ (CV g2) rfl)];exact⟨rfl,((ext.rfl' h).app _).set (jF _) _⟩
theorem fJ (op:Int)(m:SM)(l:List Ex)(h:Hp):PCall (En G) 303 [.n op,.sl m 4 (l.map A8)] h (.agg (A8 (.mk op 0 ⟨#[]⟩ m l))):=by
 refine X8 3 (fun n H=>RH n H 0 _) ?_;refine acL Tryz.func303 [.cell 4 79] ?_;have g2:=AX h (yE 4 [EX]);have s2:=Q5 (e:=.mk op 0 ⟨#[]⟩ m l) g2 rfl;rw[ATU] at s2;refine ES RQ @A8K z4 s2 ?_;rw[<-ATU];rw[JM (b:=h.length) AQ (PO (CV g2))];exact⟨rfl,((ext.rfl' h).app _).set (jF _) _⟩
theorem AEW:∀(w:Nat) (e:Ex) (h:Hp),wt e<=w->wt e<=1048576->PCall (En G) 305 [.agg (A8 e)] h (.agg (A8 (cpE e))):=by
 intro w
 induction w with
 | zero=>intro e h h1 _;have:=MQ e;omega
 | succ w ih =>
   intro e h h1 h2;have hlen:=V5 e.args;have hwt:=MQ e;refine PCall.res (r:=.agg (cpW e)) ?_ (AT9 e);refine ACalls.pure (R:=fun v H=>Sm.ext h H/\FH h.length H 4 v=.agg (cpW e)) 4 ?_ (fun v H ⟨a,b⟩=>⟨a,b⟩);refine acL Tryz.func305 [.cell 2 79] ?_;have ge:=AO (x:=yE 4 [[.n 0,.n 0,.str ⟨#[]⟩,.sl .nil 0 []]]) (AX h (yE 4 [A8 e]));have g2:=AX (h++[yE 4 [A8 e]]) (yE 4 [[.n 0,.n 0,.str ⟨#[]⟩,.sl .nil 0 []]]);have hx:Sm.ext h (h++[yE 4 [A8 e]]++[yE 4 [[.n 0,.n 0,.str ⟨#[]⟩,.sl .nil 0 []]]]):=((ext.rfl' h).app _).app _;have hb2:h.length<(h++[yE 4 [A8 e]]).length:=BA;refine BB @bxE RQ ?_
   generalize h++[yE 4 [A8 e]]++[yE 4 [[.n 0,.n 0,.str ⟨#[]⟩,.sl .nil 0 []]]]=H0 at ge g2 hx|-
   generalize (h++[yE 4 [A8 e]]).length=b2 at g2 hb2|-
   have l2:=AC g2;refine A7 (Rk.ldE' ge) ?_
   refine BK (fun n F H=>∃k u,n+k=e.args.length/\F 1=.ptr h.length 0 0/\F 2=.ptr b2 0 0/\F 3=u/\F 7=.sl e.m 4 (e.args.map A8)/\F 8=.n (e.args.length:Nat)/\F 9=.n (k:Nat)/\Sm.ext H0 H/\outG 4 A8 H0 ((e.args.take k).map cpE) u H) e.args.length
    ⟨0,.sl .nil 0 [],BA,AQ,AQ,AQ,AQ,AQ,AQ,ext.rfl' _,outG.nil _ _ _ _⟩ ?_
   rintro n F H ⟨k,u,hk,f1,f2,f3,f7,f8,f9,he,ho⟩;refine BB f8 f9 ?_;refine D9 ?_ ?_<;>intro hk'
   .have hlt:=Rk.wt_arg hk'
    have he1:=he.app [yE 4 [A8 e.args[k]]];have ho1:=ho.app [yE 4 [A8 e.args[k]]];have gT:=ldE H e.args[k];simp only[vQ,CP,List.map_nil,List.append_nil,↓reduceIte,jC,enP,PZ,jQ,f7,f9,CZ hk',DJ O6 JE EG hk',RQ,rF _ _ [.n 0,.n 0,.str ⟨#[]⟩,.sl .nil 0 []] rfl,gT]
    generalize H++[yE 4 [A8 e.args[k]]]=H1 at he1 ho1|-
    refine(ih e.args[k] H1 U U).use ?_;have hbs:=uO H1 (cpE e.args[k]);obtain⟨v',H2,ha,ho2,_,he2,_,_⟩:=ho1.append WB JE eY eM U LD he1 (cpE e.args[k]);have e3:(e.args.take k).map cpE++[cpE e.args[k]]=(e.args.take (k+1)).map cpE:=by rw[List.take_succ_eq_append_getElem hk',List.map_append];rfl
    rw[e3] at ho2;refine JI f3 hbs ha f9 (DC k) ?_;exact⟨n-1,U,k+1,v',U,AL,AL,AL,AL,AL,AL,he2,ho2⟩
   .rw[List.take_of_length_le U] at ho
    have ge1:=DI he ge;have g21:=DI he g2;have hle:=he.le;have hlf:=ho.leaf;have h0l:h.length<H0.length:=U
    have hst:DU jA H 23 (.ptr h.length 0 3) u=some (H.set h.length (yE 4 [[.n e.op,.n e.n,.str e.name,u]])):=by
     rw[FI] at ge1;rcases ho with⟨_,rfl⟩|⟨_,o,_,rfl,_⟩
     .rw[IR (cs:=[.sl .nil 0 []]) rfl (AZ:szO jA 23=some 1) ge1 BA];rfl
     .rw[IR (cs:=[.own o 0 _]) rfl (AZ:szO jA 23=some 1) ge1 BA];rfl
    have g1':(H.set h.length (yE 4 [[.n e.op,.n e.n,.str e.name,u]]))[h.length]?=some (yE 4 [[.n e.op,.n e.n,.str e.name,u]]):=CV ge1;have g2':(H.set h.length (yE 4 [[.n e.op,.n e.n,.str e.name,u]]))[b2]?=_:=C9 g21 U;have ho3:outG 4 A8 H0 (e.args.map cpE) u (H.set h.length (yE 4 [[.n e.op,.n e.n,.str e.name,u]])):=ho.setB h0l _;have hx3:Sm.ext h (H.set h.length (yE 4 [[.n e.op,.n e.n,.str e.name,u]])):=(hx.trans he).set (jF _) _;refine ES f1 f2 f3 hst ?_
    generalize H.set h.length (yE 4 [[.n e.op,.n e.n,.str e.name,u]])=H3 at g1' g2' ho3 hx3|-
    have hlf4:([.n e.op,.n e.n,.str e.name,u]:List AV).all AV.leaf=true:=by simp [hlf];exact⟨rfl,rfl,rfl⟩
    refine ES f1 f2 (KZ g1' rfl) (XA g2' rfl rfl hlf4) ?_;rw[JM (b:=b2) (EI f2) (KZ (CV g2') rfl)];refine⟨hx3.set U _,?_⟩;have ho4:=ho3.setB (b:=b2) l2 (yE 4 [[.n e.op,.n e.n,.str e.name,u]]);have hz:=P6 frzEx ho4 h.length 1 (by have:=hx.le;omega);show AV.agg [.n e.op,.n e.n,.str e.name,FH h.length _ 3 u]=.agg (cpW e);rw[hz];rfl
theorem AQL (vs:List Vr)(m:SM)(hl:vs.length<=1048576)(hv:∀v∈vs,FX v.name=true)(a:ByteArray)(ha:a.size<=1048576)(hz:1<=szA vs a)(h:Hp):PCall (En G) 255 [.agg [.sl m 4 (vs.map encV)],.str a] h (.agg (A8 (WE a (szA vs a-1)))):=by
 have hsz:=lZ vs a;refine ACalls.pure (R:=fun v H=>v=.agg (A8 (WE a (szA vs a-1)))/\Sm.ext h H) 3 ?_ (fun v H ⟨a,b⟩=>⟨b,by rw[a];exact RH _ _ 0 _⟩);refine acL Tryz.func255 [.cell 4 79] ?_;have gs:isS (h++[yE 1 [[.sl m 4 (vs.map encV)]]]++[yE 4 [EX]]) h.length m vs:=AO (AX _ _);have gr:=AX (h++[yE 1 [[.sl m 4 (vs.map encV)]]]) (yE 4 [EX]);have hx:Sm.ext h (h++[yE 1 [[.sl m 4 (vs.map encV)]]]++[yE 4 [EX]]):=((ext.rfl' h).app _).app _;have e1:(h++[yE 1 [[.sl m 4 (vs.map encV)]]]).length=h.length+1:=BA;refine DW @bxS RQ z4 ?_
 rw[e1] at gr|-
 generalize h++[yE 1 [[.sl m 4 (vs.map encV)]]]++[yE 4 [EX]]=H1 at gs gr hx|-
 refine(QS G a 0 U ha H1).use ?_;have gs:=AO (x:=yE 4 [A8 (vaE a 0)]) gs;have lr:=AC gr;have gr:=AO (x:=yE 4 [A8 (vaE a 0)]) gr;have go:=AX H1 (yE 4 [A8 (vaE a 0)]);have hx:=hx.app [yE 4 [A8 (vaE a 0)]];refine BB al79 st79 ?_
 generalize H1++[yE 4 [A8 (vaE a 0)]]=H2 at gs gr go hx|-
 generalize H1.length=ob at go lr|-
 refine EU 0 (fun F H=>F 4=.ptr (h.length+1) 0 0/\F 5=.ptr ob 0 0/\H[h.length+1]?=some (yE 4 [EX])/\H[ob]?=some (yE 4 [A8 (WE a (szA vs a-1))])/\Sm.ext h H) (fun _ _=>False) ?_ ?_ (fun _ _ q=>q.elim)
 .refine BK (fun n F H=>∃k,n+(k+1)=szA vs a/\F 1=.str a/\F 2=.ptr h.length 0 0/\F 4=.ptr (h.length+1) 0 0/\F 5=.ptr ob 0 0/\F 6=.n ((k+1:Nat):Int)/\isS H h.length m vs/\H[h.length+1]?=some (yE 4 [EX])/\H[ob]?=some (yE 4 [A8 (WE a k)])/\Sm.ext h H) (szA vs a-1)
   ⟨0,U,ER,ER,ER,ER,ER,gs,gr,go,hx⟩ ?_
  clear gs gr go hx;rintro n F H ⟨k,hk,f1,f2,f4,f5,f6,gs,gr,go,hx⟩;refine ES f1 f2 f6 (isS.ld gs) ?_;refine(size_prog G vs m hl hv a ha H).use ?_;refine A7 f6 ?_;refine D9 ?_ ?_<;>intro hc
  .have s2:=Q5 (e:=WE a (k+1)) go (EG _)
   refine AB ?_;refine D6 AZ ?_;refine ES f1 f5 f6 (PO go) ?_;refine⟨_,QS G a (k+1) U ha H,?_⟩;refine A7 @gV ?_;refine⟨_,fJ G 7 .full [WE a k,vaE a (k+1)] H,?_⟩;change DU jA H 79 (.ptr ob 0 0) (.agg (A8 (.mk 7 0 ⟨#[]⟩ .full [WE a k,vaE a (k+1)])))=_ at s2;refine ES f5 s2 f6 (DC (k+1)) ?_;exact⟨n-1,U,k+1,U,AL,AL,AL,AL,AL,by unfold isS;rw[zD U];exact gs,by rw[zD U];exact gr,CV go,hx.set U _⟩
  .have e:szA vs a-1=k:=U
   refine AB ?_;exact⟨AL,AL,gr,by rw[e];exact go,hx⟩
 rintro F H ⟨f4,f5,gr,go,hx⟩;simp only[vQ,YX,CP,↓reduceIte,jC,enP,jQ,f4,f5,PO go,Q5 gr rfl];rw[JM (b:=h.length+1) (MB f4) (PO (CV gr))];exact⟨rfl,hx.set U _⟩
end
end Go.Proofs.YtiihpnicbekebaaGreatDoor.Bd.Cl
