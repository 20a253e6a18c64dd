/- Part 5 of the proof; no condition. -/
import Derived.Shelf.SlSortCmp.WholeK
import Derived.Shelf.SlSortCmp.NoneTotal
import Derived.Shelf.SlicesG.Cmp
import Derived.Shelf.Spec.SlicesGrow
import Derived.Test.YtiihpnicbekebaaGreatDoorCL4
set_option linter.unusedVariables false
set_option linter.unusedSimpArgs false
set_option maxRecDepth 8000
set_option maxHeartbeats 8000000
open Go.Proofs.YtiihpnicbekebaaGreatDoor.Sm.bO renaming live→qH
open Bool renaming and_eq_true→jY,eq_iff_iff→wJ,false_and→wM,not_false→jE,not_true→qL,or_eq_false_iff→wG,or_eq_true→qO,or_false→zK,true_and→qX
open Go.Proofs.Tryz renaming prog→jA
open Int renaming toNat_natCast→qI
open List renaming all_eq_true→zJ,any_eq_false→qP,any_eq_true→qK,append_assoc→zA,append_nil→jL,cons_append→zG,contains_cons→jZ,contains_nil→jU,drop_eq_getElem_cons→zU,drop_eq_nil_of_le→jS,drop_zero→zI,eq_nil_of_length_eq_zero→qY,findIdx?_eq_none_iff→yA,findIdx?_eq_some_iff_getElem→wV,foldl_cons→qU,getD_eq_getElem?_getD→wQ,getElem?_append_left→qF,getElem?_eq_getElem→jP,getElem?_eq_none→wC,getElem?_map→zB,getElem?_set_ne→zY,getElem?_set→zW,getElem_mem→jH,getElem_of_mem→qR,length_append→jX,length_cons→zF,length_drop→yB,length_eq_zero_iff→wP,length_map→jI,length_nil→zH,length_pos_iff→qQ,length_set→qZ,length_take→jT,length→qJ,map_append→qE,map_congr_left→wB,map_cons→jJ,map_map→qG,map_nil→jM,mem_append→zQ,mem_cons→zM,mem_map→zO,mem_singleton→wH,range→zL,replicate→zD,take_of_length_le→jK,take_succ_eq_append_getElem→jW,take_zero→qA
open Nat renaming add_mul→qM,add_zero→jR,le_of_ble_eq_true→jB,le_refl→jF,lt_or_ge→zC,reduceAdd→jO,reduceBEq→jV,reduceEqDiff→jC,zero_add→jG,zero_le→qN
open Option renaming getD_none→jQ,getD_some→jD
namespace Go.Proofs.YtiihpnicbekebaaGreatDoor
namespace Bd
open Sm Bins Cov Xe Go.RowKit
structure fp (p:Pr):Prop where
 vars:p.vars.length<=1048576
 names:∀v∈p.vars,v.name.size<=1048576
 exprs:p.hard.length+p.soft.length<=1048576
 wts:∀e∈p.hard++p.soft,wt e<=1048576
 dists:p.dists.length<=1048576
 ws:∀d∈p.dists,d.ws.length<=1048576
 groups:p.groups.length<=1048576
 members:(dg p.groups).length<=1048576
def JY (p:Pr):Int:=if NP p.vars≠0 then NP p.vars else if L6 p.vars (p.hard++p.soft)≠0 then L6 p.vars (p.hard++p.soft) else if PO p.vars p.dists≠0 then PO p.vars p.dists else if jj p.vars p.groups=true then 0 else 1
section
variable (G:Nat->AV)
theorem T6 (a:List (FuncId×List AV×Int))(b:Nat)(K:a.length<=1048576)(h:Hp)(p:h[b]?=some (qH 1 (a.map fun x=>[.fn (.func x.1) [] x.2.1])))(E:∀x∈a,a_ (En G) x.1 ([]++x.2.1) h (.n x.2.2)):a_ (En G) 76 [.own b 0 a.length] h (.n (cr (fun x=>x.2.2) a)):=by
 refine ACalls.pure0 rfl ?_;refine cn Tryz.func76 2 ?_;refine A7 Oe ?_;refine EG 0 (fun F H=>H=h/\∀x∈a,x.2.2=0) (fun F H=>F 2=.n (cr (fun x=>x.2.2) a)/\ext h H) ?_ ?_ ?_
 .refine BB (fun n F H=>∃i,n+i=a.length/\F 6=.own b 0 a.length/\F 7=.n (a.length:Nat)/\F 8=.n (i:Nat)/\H=h/\∀(j:Nat) (d:j<i) (q:j<a.length),a[j].2.2=0) a.length ⟨0,BA,AL,AL,AL,rfl,by intro j d;omega⟩ ?_
  rintro n F H ⟨i,J,B,C,g,rfl,e⟩;refine AZ C g ?_;refine DV ?_ ?_<;>intro c
  .have I:BR jA H 150 (.ptr b i 0)=some (.fn (.func a[i].1) [] a[i].2.1):=by
    rw[BJ (row:=[.fn (.func a[i].1) [] a[i].2.1]) Qp p (by rw[List.getElem?_map,List.getElem?_eq_getElem c];rfl)];rfl
   simp only[vQ,CP,List.map_nil,List.nil_append,↓reduceIte,Nat.reduceEqDiff,Nat.zero_add,Option.getD_some,om,b_,Ol,B,g,GR p c,I];refine(E _ (jH c)).uu ?_;refine BL ?_ ?_<;>intro f
   .refine AB ?_
    exact⟨by rw[VS (fun x:FuncId×List AV×Int=>x.2.2) a i c (fun j d=>e j d U) (by simpa using f)],ext.rfl' _⟩
   .refine AZ g (CZ i) ?_
    refine⟨n-1,U,i+1,U,AO,AO,rfl,trivial,fun j d q=>?_⟩;rcases Nat.lt_or_ge j i with l|l
    .exact e j l q
    .obtain rfl:j=i:=U
     simpa using f
  .refine AB ?_
   refine⟨trivial,fun x k=>?_⟩;obtain⟨j,d,rfl⟩:=List.getElem_of_mem k;exact e j U d
 .rintro F H ⟨rfl,e⟩
  refine AB ?_;exact⟨by rw[TI _ a fun j d=>e _ (jH d)],ext.rfl' _⟩
 .rintro F H ⟨A,k⟩
  refine A7 A ?_;exact⟨trivial,k⟩
theorem Kx (c:fm G)(p:Pr)(a:fp p)(b:Nat)(h:Hp)(d:h[b]?=some (qH 5 [CW p])):a_ (En G) 77 ([]++[.ptr b 0 0]) h (.n (NP p.vars)):=by
 refine cn Tryz.func77 1 ?_;have e:BR jA h 22 (.ptr b 0 0)=some (.sl p.vm 4 (p.vars.map bt)):=by rw[BJ aW d (row:=CW p) rfl];rfl
 refine A7 e ?_;refine(Xw G c p.vars p.vm h a.vars a.names).uu ?_;exact H7
theorem Kv (c:fm G)(p:Pr)(a:fp p)(b:Nat)(h:Hp)(d:h[b]?=some (qH 5 [CW p])):a_ (En G) 79 ([]++[.ptr b 0 0]) h (.n (L6 p.vars (p.hard++p.soft))):=by
 refine cn Tryz.func79 1 ?_;have e:BR jA h 27 (.ptr b 0 0)=some (.agg (CW p)):=by rw[EK eP ZU d (row:=CW p) rfl (by rw[LD];exact jF 5)];rfl
 refine A7 e ?_;refine(Vg G c p a.vars a.exprs a.wts h).uu ?_;exact H7
theorem Ku (p:Pr)(a:fp p)(b:Nat)(h:Hp)(c:h[b]?=some (qH 5 [CW p])):a_ (En G) 81 ([]++[.ptr b 0 0]) h (.n (PO p.vars p.dists)):=by
 refine cn Tryz.func81 1 ?_;have d:BR jA h 27 (.ptr b 0 0)=some (.agg (CW p)):=by rw[EK eP ZU c (row:=CW p) rfl (by rw[LD];exact jF 5)];rfl
 refine A7 d ?_;refine(Wk G p a.vars a.dists a.ws h).uu ?_;exact H7
theorem Kt (p:Pr)(a:fp p)(b:Nat)(h:Hp)(c:h[b]?=some (qH 5 [CW p])):a_ (En G) 83 ([]++[.ptr b 0 0]) h (.n (if jj p.vars p.groups=true then 0 else 1)):=by
 refine cn Tryz.func83 1 ?_;have d:BR jA h 27 (.ptr b 0 0)=some (.agg (CW p)):=by rw[EK eP ZU c (row:=CW p) rfl (by rw[LD];exact jF 5)];rfl
 refine A7 d ?_;refine(Ty G p a.vars a.groups a.members h).uu ?_;exact H7
theorem Ox (h:Hp)(a b c d:Fn)(k l m n:List AV):DR jA true h 212 4 [(0,.fn a [] k),(1,.fn b [] l),(2,.fn c [] m),(3,.fn d [] n)]=some (.own h.length 0 4,h++[qH 1 [[.fn a [] k],[.fn b [] l],[.fn c [] m],[.fn d [] n]]]):=BC
theorem df (f:fm G)(p:Pr)(c:fp p)(h:Hp):a_ (En G) 40 [.agg (CW p)] h (.n (JY p)):=by
 refine ACalls.pure0 rfl ?_;refine II (H:=hint [7] []) (ji G) Tryz.func40 rfl (by kernel_rfl) (by kernel_rfl) (jB (by kernel_rfl)) ?_;show dh _ _ _ _ _ (MW _ [.tmp 2] _);have d:=A8 h (qH 5 [CW p]);have b:=Sm.ext.r1 h (qH 5 [CW p]);refine AZ @QE Ox ?_
 generalize h++[qH 5 [CW p]]=hb at d b|-
 generalize h.length=eb at d|-
 have e:=b.app [qH 1 [[AV.fn (.func 77) [] [.ptr eb 0 0]],[.fn (.func 79) [] [.ptr eb 0 0]],[.fn (.func 81) [] [.ptr eb 0 0]],[.fn (.func 83) [] [.ptr eb 0 0]]]];have a:=AU (x:=qH 1 [[AV.fn (.func 77) [] [.ptr eb 0 0]],[.fn (.func 79) [] [.ptr eb 0 0]],[.fn (.func 81) [] [.ptr eb 0 0]],[.fn (.func 83) [] [.ptr eb 0 0]]]) d;refine(T6 G [(77,[.ptr eb 0 0],NP p.vars),(79,[.ptr eb 0 0],L6 p.vars (p.hard++p.soft)),(81,[.ptr eb 0 0],PO p.vars p.dists),(83,[.ptr eb 0 0],if jj p.vars p.groups=true then 0 else 1)] hb.length BA _ (A8 _ _) ?_).use ?_
 .intro x g
  simp only[List.mem_cons,List.not_mem_nil,or_false] at g;rcases g with rfl|rfl|rfl|rfl
  .exact Kx G f p c eb _ a
  .exact Kv G f p c eb _ a
  .exact Ku G p c eb _ a
  .exact Kt G p c eb _ a
 .refine AB ?_
  refine⟨?_,e⟩;simp only[cr,JY];by_cases h1:NP p.vars≠0
  .rw[if_pos h1,if_pos h1]
  rw[if_neg h1,if_neg h1];by_cases h2:L6 p.vars (p.hard++p.soft)≠0
  .rw[if_pos h2,if_pos h2]
  rw[if_neg h2,if_neg h2];by_cases h3:PO p.vars p.dists≠0
  .rw[if_pos h3,if_pos h3]
  rw[if_neg h3,if_neg h3];cases jj p.vars p.groups<;>rfl
theorem dq (p:Pr)(c:fp p)(h:Hp):a_ (En G) 48 [.agg (CW p)] h (.n (JY p)):=by
 refine ACalls.pure0 rfl ?_;refine cn Tryz.func48 2 ?_;have g:=A8 h (qH 5 [CW p]);have b:=Sm.ext.r1 h (qH 5 [CW p]);refine A7 @QE ?_
 generalize h++[qH 5 [CW p]]=hb at g b|-
 generalize h.length=eb at g|-
 have l:BR jA hb 22 (.ptr eb 0 0)=some (.sl p.vm 4 (p.vars.map bt)):=by rw[BJ aW g (row:=CW p) rfl];rfl
 have A:BR jA hb 23 (.ptr eb 0 1)=some (.sl p.hm 4 (p.hard.map AQ)):=by rw[BJ MQ g (row:=CW p) rfl];rfl
 have B:BR jA hb 23 (.ptr eb 0 2)=some (.sl p.sm 4 (p.soft.map AQ)):=by rw[BJ MQ g (row:=CW p) rfl];rfl
 have C:BR jA hb 24 (.ptr eb 0 3)=some (.sl p.dm 2 (p.dists.map I9)):=by rw[BJ qw g (row:=CW p) rfl];rfl
 have E:BR jA hb 25 (.ptr eb 0 4)=some (.sl p.gm 1 (p.groups.map UM)):=by rw[BJ XF g (row:=CW p) rfl];rfl
 have hex:=c.exprs;have a:L6 p.vars (p.hard++p.soft)=if L6 p.vars p.hard≠0 then L6 p.vars p.hard else L6 p.vars p.soft:=ff _ _ _
 refine A7 l ?_;refine(uE G p.vars p.vm hb c.vars c.names).uu ?_;refine BL ?_ ?_<;>intro d
 .refine AB ?_
  have d:NP p.vars≠0:=BQ d;exact⟨by unfold JY;rw[if_pos d],b⟩
 have d:¬NP p.vars≠0:=BQ d;refine DC @eH l A ?_;refine(ZB G p.vars p.vm c.vars p.hard p.hm U (fun e q=>c.wts e (zQ.2 (.inl q))) hb).uu ?_;refine BL ?_ ?_<;>intro i
 .refine AB ?_
  have i:L6 p.vars p.hard≠0:=BQ i;rw[if_pos i] at a;exact⟨by unfold JY;rw[if_neg d,a,if_pos i],b⟩
 have i:¬L6 p.vars p.hard≠0:=BQ i;rw[if_neg i] at a;refine DC @sA l B ?_;refine(ZB G p.vars p.vm c.vars p.soft p.sm U (fun e q=>c.wts e (zQ.2 (.inr q))) hb).uu ?_;refine BL ?_ ?_<;>intro f
 .refine AB ?_
  have f:L6 p.vars p.soft≠0:=BQ f;exact⟨by unfold JY;rw[if_neg d,a,if_pos f],b⟩
 have f:¬L6 p.vars p.soft≠0:=BQ f;refine AZ l C ?_;refine(ZD G p.vars p.vm p.dists p.dm c.vars c.dists c.ws hb).uu ?_;refine BL ?_ ?_<;>intro j
 .refine AB ?_
  have j:PO p.vars p.dists≠0:=BQ j;exact⟨by unfold JY;rw[if_neg d,a,if_neg f,if_pos j],b⟩
 have j:¬PO p.vars p.dists≠0:=BQ j;refine DC @rZ l E ?_;refine(V' G p.vars p.vm p.groups p.gm c.vars c.groups c.members hb).uu ?_;refine BL ?_ ?_<;>intro k
 .refine AB ?_
  have k:¬jj p.vars p.groups=true:=BQ k;exact⟨by unfold JY;rw[if_neg d,a,if_neg f,if_neg j,if_neg k],b⟩
 .refine AB ?_
  have k:jj p.vars p.groups=true:=BQ k;exact⟨by unfold JY;rw[if_neg d,a,if_neg f,if_neg j,if_pos k],b⟩
end
end Bd
namespace Bd
open Sm Bins Cov Xe Wd Go.RowKit
def MV (vars:List Vr)(a:List Int):List Sg:=List.zipWith (fun v z=>(v.name,z)) vars a
theorem UK {vars:List Vr}{a:List Int}(h:a.length=vars.length):(MV vars a).length=vars.length:=by unfold MV;simp;omega
theorem cB {vars:List Vr}{a:List Int}{i:Nat}(b:i<vars.length)(h2:i<a.length)(h:i<(MV vars a).length):(MV vars a)[i]=(vars[i].name,a[i]):=by simp [MV]
theorem De (n:ByteArray)(z:Int):IY jA 209 [(0,.str n),(1,.n z)]=some (.agg (FY (n,z))):=BC
theorem Dj (h:Hp)(s:Sg):DR jA false h 137 1 [(0,.agg (FY s))]=some (.sl .full 2 [FY s],h):=BC
theorem Ou:jd FY:=fun _ _ _ _=>⟨rfl,rfl⟩
section
variable (G:Nat->AV)
theorem Ks (p:Pr)(T:fp p)(a:List Int)(m:SM)(N:a.length=p.vars.length)(h:Hp):a_ (En G) 208 [.agg (CW p),.sl m 1 (a.map bu)] h (.sl (nm (MV p.vars a)) 2 ((MV p.vars a).map FY)):=by
 have V:=T.vars;have R:=UK N;refine JL Ou ?_;refine II (H:=hint [32] []) (ji G) Tryz.func208 rfl (by kernel_rfl) (by kernel_rfl) (Nat.le_of_ble_eq_true (by kernel_rfl)) ?_;show dh _ _ _ _ _ (MW _ [.tmp 4] _);have A:=A8 h (qH 5 [CW p]);have E:=Sm.ext.r1 h (qH 5 [CW p]);have M:h.length<=(h++[qH 5 [CW p]]).length:=BA;refine A7 @QE ?_
 generalize h++[qH 5 [CW p]]=H0 at A E M|-
 generalize S:h.length=pb at A M|-
 have l:∀ {H:Hp},Sm.ext H0 H->BR jA H 22 (.ptr pb 0 0)=some (.sl p.vm 4 (p.vars.map bt)):=fun q=>by rw[BJ aW (DZ q A) (row:=CW p) rfl];rfl
 have B:(((a.length:Nat):Int) != ((p.vars.length:Nat):Int))=false:=by rw[N];simp
 refine AZ (l (ext.rfl' H0)) B ?_
 refine BB (fun n F H=>∃i u,n+i=a.length/\F 1=.sl m 1 (a.map bu)/\F 2=.ptr pb 0 0/\F 5=u/\F 6=.n (i:Nat)/\ext H0 H/\bw 2 FY H0 ((MV p.vars a).take i) u H) a.length
  ⟨0,.sl .nil 0 [],BA,AL,AL,AL,AL,ext.rfl' _,bw.nil _ _ _ _⟩ ?_
 rintro n F H ⟨i,u,hi,J,O,K,L,g,C⟩;refine AZ J L ?_;refine DV ?_ ?_<;>intro e
 .have f:i<p.vars.length:=U
  have j:i<(MV p.vars a).length:=U;obtain⟨Z,H',Q,k,_,I,_,_⟩:=C.append (P:=jA) By BC Br Ck U (by rw[List.length_take];omega) g (p.vars[i].name,a[i]);rw[<-cB f e j,<-List.take_succ_eq_append_getElem j] at k;have Y:BR jA H 9 (.fptr 4 (p.vars.map bt) i 0)=some (.str p.vars[i].name):=by rw[BK eo f];rfl
  have X:BR jA H 3 (.fptr 1 (a.map bu) i 0)=some (.n a[i]):=by rw[BK ct e];rfl
  try refine AB ?_
  refine DI BC ?_;simp only[vQ,List.contains_cons,List.contains_nil,Nat.reduceBEq,Bool.or_false,JX,X8,JK,CP,OA,↓reduceIte,Nat.reduceEqDiff,Nat.reduceAdd,Nat.add_zero,Option.getD_some,om,b_,cM,kI,J8,WL,J,O,K,L,l g,CE f,CE e,Y,X,De,Dj,Q,CZ i];exact⟨n-1,U,i+1,Z,U,AO,AO,AO,AO,I,k⟩
 .rw[List.take_of_length_le U] at C
  refine A7 K ?_;refine⟨E.trans g,?_⟩;rcases C with⟨a,b⟩|⟨a,o,b,c,d⟩
  .exact .inl ⟨a,b⟩
  .exact .inr ⟨a,o,Nat.le_trans E.le b,c,d⟩
end
end Bd
namespace Bl
open Sm Bins Cov Xe Wd Bd Go.RowKit
variable {p:Pr} {a:List Int}
def gi (E:Env)(f:FuncId)(args:List AV)(h:Hp)(Q:AV->Prop):Prop:=ACalls E.nox f args h fun v b=>Q v/\b=h
theorem gi.use {E:Env}{f:FuncId}{args:List AV}{h:Hp}{Q:AV->Prop}{K:AV->Hp->Prop}(d:gi E f args h Q)(hk:∀r,Q r->K r h):ACalls E f args h K :=
 ACalls.mono (ACalls.ofNox d) fun r _ ⟨b,c⟩=>by rw[c];exact hk r b
theorem ACalls.pureQ {E:Env}{f:FuncId}{args:List AV}{h:Hp}{R:AV->Hp->Prop}{Q:AV->Prop}(d:Nat)(j:ACalls E f args h R)
  (hk:∀v c,R v c->ext h c/\Q (FK h.length c d v)) (i:E.nox=E:=by rfl):gi E f args h Q:=by
 unfold gi;rw[i];refine j.trunc fun v c g=>?_
 obtain⟨⟨x,rfl⟩,k⟩:=hk v c g;exact⟨d,h,rfl,fun b e=>.inr (.inl ⟨by rw[qF e],by rw[qF e]⟩),k,rfl⟩
theorem gi.args {E:Env}{f:FuncId}{args args':List AV}{h:Hp}{Q:AV->Prop}(c:gi E f args' h Q)(b:cq args args'):gi E f args h Q:=ACalls.args c b
theorem Jk {h H:Hp}(hk:∀(k:Nat) (y:bO),h[k]?=some y->H[k]?=some y)(_:h.length<=H.length):ext h H:=by
 refine⟨H.drop h.length,?_⟩;apply List.ext_getElem?;intro i;by_cases hi:i<h.length
 .grind
 .grind
theorem e6 {l:List Int}{i:Nat}(h:i<l.length)(x:Int):(l.set i x).getD i 0=x:=by simp_all
theorem getD_set_ne {l:List Int}{i j:Nat}(h:i≠j)(x:Int):(l.set i x).getD j 0=l.getD j 0:=by simp_all
theorem LF {a:Nat}(h:a<=8):(2:Int)^a<=256:=by
 have:a=0\/a=1\/a=2\/a=3\/a=4\/a=5\/a=6\/a=7\/a=8:=U;rcases this with rfl|rfl|rfl|rfl|rfl|rfl|rfl|rfl|rfl<;>decide
theorem VM {v:Vr}(h:gy v=0):GG v.name=true/\1<=v.width/\v.width<=8/\0<=v.mode/\v.mode<=2/\0<=v.value/\v.value<2^v.width.toNat/\(v.mode≠0->v.value=0):=by
 unfold gy at h;by_cases hv:GG v.name=true
 .rw[if_pos hv] at h
  have b:P9 v=false:=by simp_all
  unfold P9 at b;simp only[Bool.or_eq_false_iff,decide_eq_false_iff_not,Bool.and_eq_false_iff] at b;obtain⟨⟨⟨⟨⟨⟨d,e⟩,f⟩,g⟩,i⟩,j⟩,c⟩:=b;refine⟨hv,U,U,U,U,U,U,fun k=>?_⟩;rcases c with q|q
  .simp at q;omega
  .simpa using q
 .simp_all
structure PV (p:Pr):Prop where
 len:p.vars.length<=16
 vr:∀v∈p.vars,gy v=0
 nd:∀(i:Nat) (hi:i<p.vars.length),d' (p.vars.take i) p.vars[i].name<0
 bits:LG p.vars<=20
 g:jj p.vars p.groups=true
theorem PV.of (h:JY p=0):PV p:=by
 unfold JY at h;have b:NP p.vars=0:=by omega
 rw[if_neg (BQ b)] at h;have g:L6 p.vars (p.hard++p.soft)=0:=by omega
 rw[if_neg (BQ g)] at h;have j:PO p.vars p.dists=0:=by omega
 rw[if_neg (BQ j)] at h;have k:jj p.vars p.groups=true:=by simp_all
 unfold NP at b;have e:¬p.vars.length>16:=fun q=>by rw[if_pos q] at b;exact absurd b DX
 rw[if_neg e] at b;have c:Bd.cr gy p.vars=0:=by omega
 rw[if_neg (BQ c)] at b;have d:n9 p.vars=false:=by grind
 rw[if_neg (by rw[d];decide)] at b;have f:(p.vars.any fun v=>TG p.vars v.name)=false:=by grind
 rw[if_neg (by rw[f];decide)] at b;have B:¬LG p.vars>20:=fun q=>by rw[if_pos q] at b;exact absurd b DX
 refine⟨U,fun v A=>ea c v A,fun i l=>?_,U,k⟩;have:=of_decide_eq_false d;have q:¬0<=d' (p.vars.take i) p.vars[i].name:=fun q=>this ⟨⟨i,l⟩,q⟩
 omega
structure jg (p:Pr) (a:List Int):Prop where
 len:a.length=p.vars.length
 st:∀(i:Nat) (hi:i<p.vars.length),p.vars[i].mode=0->a.getD i 0=p.vars[i].value
 rn:∀(i:Nat) (hi:i<p.vars.length),p.vars[i].mode≠0->0<=a.getD i 0/\a.getD i 0<2^p.vars[i].width.toNat
theorem jg.rng (P:PV p)(h:jg p a)(i:Nat)(b:i<p.vars.length):0<=a.getD i 0/\a.getD i 0<256:=by
 obtain⟨_,f,g,_,_,d,e,_⟩:=VM (P.vr _ (jH b));have c:=LF (U:p.vars[i].width.toNat<=8);by_cases hm:p.vars[i].mode=0
 .rw[h.st i b hm];omega
 .have:=h.rn i b hm;omega
def jk (b:List Vr):Nat->List Int->Option (List Int)
 | 0,_=>none
 | k+1,a=>match b[k]? with
   | some v=>if v.mode=0 then jk b k a else if a.getD k 0+1<2^v.width.toNat then some (a.set k (a.getD k 0+1)) else jk b k (a.set k 0)
   | none=>none
def kf (b:List Vr)(a:List Int):Nat->Nat
 | 0=>0
 | k+1=>match b[k]? with
   | some v=>if v.mode=0 then kf b a k else kf b a k*2^v.width.toNat+(a.getD k 0).toNat
   | none=>kf b a k
def uF (b:List Vr):Nat->Nat
 | 0=>1
 | k+1=>match b[k]? with
   | some v=>if v.mode=0 then uF b k else uF b k*2^v.width.toNat
   | none=>uF b k
theorem yk (b:List Vr)(a:List Int)(z:Int):∀(k i:Nat),k<=i->kf b (a.set i z) k=kf b a k
 | 0,_,_=>rfl
 | k+1,i,h=>by
   simp only[kf];rw[yk b a z k i U,getD_set_ne U]
theorem pU {p:Pr}:∀(k:Nat) (a:List Int),k<=p.vars.length->jg p a->match jk p.vars k a with
  | some g=>jg p g/\kf p.vars g k=kf p.vars a k+1/\∀i,k<=i->g.getD i 0=a.getD i 0
  | none=>True
 | 0,a,_,_=>trivial
 | k+1,a,hk,h=>by
   have b:k<p.vars.length:=U;have j:k<a.length:=by rw[h.len];exact b
   unfold jk;simp only[jP b];by_cases hm:p.vars[k].mode=0
   .rw[if_pos hm]
    have l:=pU k a U h
    cases B:jk p.vars k a with
    | none=>trivial
    | some g =>
      rw[B] at l;obtain⟨C,E,A⟩:=l;refine⟨C,?_,fun i f=>A i U⟩;simp only[kf,jP b,if_pos hm];exact E
   .rw[if_neg hm]
    obtain⟨G,H⟩:=h.rn k b hm
    have c:∀z:Int,0<=z->z<2^p.vars[k].width.toNat->jg p (a.set k z):=fun z I J=>by
     refine⟨by rw[List.length_set];exact h.len,fun i f d=>?_,fun i f d=>?_⟩
     .by_cases e:i=k
      .subst e;exact absurd d hm
      .rw[getD_set_ne (fun q=>e q.symm)];exact h.st i f d
     .by_cases e:i=k
      .simp_all
      .rw[getD_set_ne (fun q=>e q.symm)];exact h.rn i f d
    by_cases hz:a.getD k 0+1<2^p.vars[k].width.toNat
    .rw[if_pos hz]
     refine⟨c _ U hz,?_,fun i f=>getD_set_ne U _⟩;simp only[kf,jP b,if_neg hm];rw[yk _ _ _ _ _ (jF k),e6 j];omega
    .rw[if_neg hz]
     have F:(0:Int)<2^p.vars[k].width.toNat:=Int.pow_pos DX;have l:=pU k (a.set k 0) U (c 0 (Int.le_refl 0) F)
     cases B:jk p.vars k (a.set k 0) with
     | none=>trivial
     | some g =>
       rw[B] at l;obtain⟨C,E,A⟩:=l;refine⟨C,?_,fun i f=>by rw[A i U];exact getD_set_ne U _⟩;simp only[kf,jP b,if_neg hm];rw[E,A k (jF k),e6 j,yk _ _ _ _ _ (jF k)];have e:(((2:Nat)^p.vars[k].width.toNat:Nat):Int)=2^p.vars[k].width.toNat:=by rw[Int.natCast_pow];rfl
       have:(a.getD k 0).toNat+1=2^p.vars[k].width.toNat:=U;rw[qM];simp only[Int.toNat_zero];omega
theorem zv {p:Pr}{a:List Int}(h:jg p a):∀k,k<=p.vars.length->kf p.vars a k<uF p.vars k
 | 0,_=>by simp [kf,uF]
 | k+1,hk=>by
   have b:k<p.vars.length:=U;have c:=zv h k U;simp only[kf,uF,jP b];by_cases hm:p.vars[k].mode=0
   .rw[if_pos hm,if_pos hm];exact c
   .rw[if_neg hm,if_neg hm]
    obtain⟨g,i⟩:=h.rn k b hm;have e:(((2:Nat)^p.vars[k].width.toNat:Nat):Int)=2^p.vars[k].width.toNat:=by rw[Int.natCast_pow];rfl
    have f:(a.getD k 0).toNat<2^p.vars[k].width.toNat:=U;have d:(kf p.vars a k+1)*2^p.vars[k].width.toNat<=uF p.vars k*2^p.vars[k].width.toNat:=Nat.mul_le_mul_right _ c;rw[qM] at d;omega
def ZV (p:Pr)(l:List Ex)(a:List Int):Bool:=l.all fun e => !(UB (MV p.vars a) e==0)
def dN (p:Pr)(l:List Ex):Nat->List Int->Option (List Int)
 | 0,_=>none
 | n+1,a=>if ZV p l a=true then some a else match jk p.vars p.vars.length a with
   | some b=>dN p l n b
   | none=>none
def nC (p:Pr)(l:List Ex):Nat->List Int->List (List Int)
 | 0,_=>[]
 | n+1,a=>(if ZV p l a=true then [a] else [])++match jk p.vars p.vars.length a with
   | some b=>nC p l n b
   | none=>[]
theorem zR (p:Pr)(l:List Ex):∀(n:Nat) (a:List Int),(nC p l n a).head?=dN p l n a
 | 0,_=>rfl
 | n+1,a=>by
   unfold nC dN;by_cases h:ZV p l a=true
   .rw[if_pos h,if_pos h];rfl
   .rw[if_neg h,if_neg h,List.nil_append]
    cases jk p.vars p.vars.length a with
    | none=>rfl
    | some b=>exact zR p l n b
def lft (p:Pr)(a:List Int):Nat:=uF p.vars p.vars.length-kf p.vars a p.vars.length
theorem Hv (h:jg p a):0<lft p a:=by
 have:=zv h p.vars.length (jF _);unfold lft;omega
theorem qT {b:List Int}(h:jg p a)(e:jk p.vars p.vars.length a=some b):jg p b/\lft p b+1=lft p a:=by
 have d:=pU p.vars.length a (jF _) h;rw[e] at d;obtain⟨c,f,_⟩:=d;have g:=zv c p.vars.length (jF _);exact⟨c,by unfold lft;omega⟩
def NW (p:Pr):List Int:=p.vars.map Vr.value
theorem HB (P:PV p):jg p (NW p):=by
 have c:∀(i:Nat) (b:i<p.vars.length),(NW p).getD i 0=p.vars[i].value:=fun i b=>by
  unfold NW;rw[List.getD_eq_getElem?_getD,List.getElem?_map,jP b];rfl
 refine⟨by unfold NW;simp,fun i b _=>c i b,fun i b f=>?_⟩;obtain⟨_,_,_,_,_,d,e,_⟩:=VM (P.vr _ (jH b));rw[c i b];exact⟨d,e⟩
def QW (p:Pr)(l:List Ex):Option (List Int):=dN p l (lft p (NW p)) (NW p)
end Bl
namespace Xe
open Sm Bins Cov Wd Go.RowKit
def hK (c:List Int)(v a:Int)(b:Bin):Bool:=(b.kind==a)&&(if(a==0)=true then hit b c v else inside b.ranges.l v)
theorem uh {α:Type}{k:Nat}{f:α->List AV}{ys:List α}(h:ys≠[]):gn k f ys=.sl .any k (ys.map f):=by
 cases ys with
 | nil=>exact absurd rfl h
 | cons y ys=>rfl
theorem L0 (o off len:Nat):IZ Tryz.prog 32 .eql (.own o off len) (.sl .nil 0 [])=some (.bool false):=BC
theorem AQY (G:Nat->AV){h:Hp}{o off len:Nat}{xs:List Int}(c:h[o]?=some (qH 1 (xs.map bu)))(f:off+len=xs.length)(d:0<len)(g:xs.length<=1048576) :
  ACalls (En G) 189 [.own o off len] h fun v H=>v=.own h.length 0 len/\H=h++[qH 1 ((xs.drop off).map bu)]:=by
 refine cn Tryz.func189 2 ?_
 have b:JR h (.own o off len)=some (1,(xs.drop off).map bu):=by
  rw[KH c NI,<-List.map_drop,List.take_of_length_le NI]
 have a:(xs.drop off).map bu≠[]:=by
  intro e;have:=congrArg List.length e;simp at this;omega
 refine AZ @L0 @Jq ?_;refine KG (aU dJ iz mr nA b a (JF NI U)) ?_;refine AB ?_;exact⟨by simp;omega,BA⟩
theorem bw.ext {α:Type}{k:Nat}{f:α->List AV}{h H a:Hp}{ys:List α}{v:AV}(b:bw k f h ys v H)(c:Sm.ext H a):bw k f h ys v a:=by
 obtain⟨y,rfl⟩:=c;exact b.app y
theorem hbs {α β:Type}(f:α->β)(l:List α)(k:Nat){h:k<l.length}:(l.take k).map f++[f l[k]]=(l.take (k+1)).map f:=by rw[List.take_succ_eq_append_getElem h,List.map_append];rfl
end Xe
namespace Bd.Cl
open Sm Bins Cov Xe Wd Bl Go.RowKit
variable {H:Hp}
abbrev fy (H:Hp)(b:Nat)(xs:List Int):Prop:=H[b]?=some (qH 1 (xs.map bu))
theorem fy.ix {H:Hp}{b:Nat}{xs:List Int}(h:fy H b xs){n i:Nat}{kk:IntKind}(a:i<n):JJ 1 H (.own b 0 n) (.int kk (i:Nat))=some (.ptr b i 0):=by rw[GR h a,jG]
theorem fy.ld {H:Hp}{b:Nat}{xs:List Int}(h:fy H b xs){i:Nat}(a:i<xs.length):BR jA H 3 (.ptr b i 0)=some (.n (xs.getD i 0)):=by
 rw[BJ ct h (row:=bu xs[i]) (c8 a),wQ,jP a];rfl
theorem fy.st {b:Nat}{xs:List Int}(h:fy H b xs){i:Nat}(a:i<xs.length)(z:Int):D7 jA H 3 (.ptr b i 0) (.n z)=some (H.set b (qH 1 ((xs.set i z).map bu))):=by
 rw[IE (cs:=[.n z]) rfl iz h (c8 a) (by simp [bu]),List.map_set];rfl
theorem cR0 (n:Nat):cR [] n=(zD n (0:Int)).map bu:=by
 apply List.ext_getElem?;intro i;by_cases hi:i<n
 .rw[aS _ hi,List.getElem?_map,List.getElem?_replicate,if_pos hi];rfl
 .rw[wC (by rw[tD];omega),wC NI]
theorem Kf (h:Hp)(n:Nat)(a:n<=1048576):IX jA true h 32 (.n (n:Int)) (.n (n:Int))=some (.own h.length 0 n,h++[qH 1 ((zD n (0:Int)).map bu)]):=by
 rw[C7 h n a,cR0]
structure KB (B:List Nat) (H H':Hp):Prop where
 len:H.length<=H'.length
 keep:∀(k:Nat) (y:bO),H[k]?=some y->k ∉ B->H'[k]?=some y
theorem KB.rfl' (B:List Nat)(H:Hp):KB B H H:=⟨jF _,fun _ _ h _=>h⟩
theorem KB.app {B:List Nat}{a:Hp}(k:KB B H a)(x:bO):KB B H (a++[x]):=⟨by have:=k.len;simp;omega,fun i y q b=>AU (k.keep i y q b)⟩
theorem KB.set {B:List Nat}{H a:Hp}(k:KB B H a){b:Nat}(d:b∈B)(x:bO):KB B H (a.set b x) :=
 ⟨by rw[qZ];exact k.len,fun i y q c=>by rw[zY (fun e=>c (by rw[<-e];exact d))];exact k.keep i y q c⟩
theorem KB.trans {B:List Nat}{c d:Hp}(a:KB B H c)(b:KB B c d):KB B H d:=⟨Nat.le_trans a.len b.len,fun i y q e=>b.keep i y (a.keep i y q e) e⟩
theorem wb:∀w:Nat,w<=8->IZ jA 3 .shl (.n 1) (.n (w:Nat))=some (.n (2^w))
 | 0,_=>BC
 | 1,_=>BC
 | 2,_=>BC
 | 3,_=>BC
 | 4,_=>BC
 | 5,_=>BC
 | 6,_=>BC
 | 7,_=>BC
 | 8,_=>BC
 | n+9,h=>absurd h U
theorem ZL {b:Nat}{p:Pr}(a:H[b]?=some (qH 5 [CW p])):BR jA H 22 (.ptr b 0 0)=some (.sl p.vm 4 (p.vars.map bt)):=by rw[BJ aW a (row:=CW p) rfl];rfl
theorem AX7 (l:List Vr)(n:ByteArray):(l.any (PH n)) = !decide (d' l n<0):=by
 unfold d';rw[<-UI,<-decide_not,decide_eq_decide];omega
theorem al9 (h:Hp):H9 jA h 9=some (.ptr h.length 0 0,h++[qH 1 [[.str ⟨#[]⟩]]]):=FZ (row:=[.str ⟨#[]⟩]) BC
theorem st9 (h:Hp)(n:ByteArray):D7 jA (h++[qH 1 [[.str ⟨#[]⟩]]]) 9 (.ptr h.length 0 0) (.str n)=some (h++[qH 1 [[.str n]]]):=by
 rw[JV (cs:=[.str n]) (row:=[.str ⟨#[]⟩]) rfl tt (A8 _ _) (jF 1),KZ];rfl
theorem e9 (h:Hp):H9 jA h 79=some (.ptr h.length 0 0,h++[qH 4 [[.n 0,.n 0,.str ⟨#[]⟩,.sl .nil 0 []]]]):=FZ (row:=[.n 0,.n 0,.str ⟨#[]⟩,.sl .nil 0 []]) BC
theorem gg (h:Hp)(e:Ex):D7 jA (h++[qH 4 [[.n 0,.n 0,.str ⟨#[]⟩,.sl .nil 0 []]]]) 79 (.ptr h.length 0 0) (.agg (AQ e))=some (h++[qH 4 [AQ e]]):=by
 have hle:(AQ e).length=4:=EF _;rw[JV (cs:=AQ e) (row:=[.n 0,.n 0,.str ⟨#[]⟩,.sl .nil 0 []]) (SC (by rw[FP];rfl)) (by rw[hle];exact G9) (A8 _ _) (by rw[hle];exact jF 4),KZ]
 have:splice [.n 0,.n 0,.str ⟨#[]⟩,.sl .nil 0 []] 0 (AQ e)=AQ e:=by
  unfold splice;rw[qA,List.drop_eq_nil_of_le (by rw[hle];exact jF 4)];simp
 rw[this]
section
variable (G:Nat->AV)
theorem N' (v:Vr)(n:ByteArray)(c:Nat)(h:Hp)(b:h[c]?=some (qH 1 [[.str n]])):a_ (En G) 306 ([.agg (bt v)]++[.ptr c 0 0]) h (.bool (PH n v)):=by
 refine ACalls.pure0 rfl ?_;refine cn Tryz.func306 3 ?_;have a:(h++[qH 4 [bt v]])[c]?=_:=AU b;refine MF @k6 @ir (IA eo a) ?_;exact⟨rfl,_,rfl⟩
theorem ic (O:fm G)(p:Pr)(R:p.vars.length<=1048576)(e:Ex)(K:wt e<=1048576)(h:Hp):a_ (En G) 259 [.agg (CW p),.agg (AQ e)] h (.bool (eh p.vars e==0)):=by
 refine ACalls.pure0 rfl ?_;refine cn Tryz.func259 4 ?_;have d:=AU (x:=qH 4 [AQ e]) (A8 h (qH 5 [CW p]));have c:=A8 (h++[qH 5 [CW p]]) (qH 4 [AQ e]);have a:ext h (h++[qH 5 [CW p]]++[qH 4 [AQ e]]):=((ext.rfl' h).app _).app _;refine AZ @QE @fa ?_
 generalize (h++[qH 5 [CW p]]).length=eb at c|-
 generalize h++[qH 5 [CW p]]++[qH 4 [AQ e]]=H1 at d c a|-
 generalize h.length=pb at d|-
 refine A7 (IL c) ?_;refine(P8 G O e _ K).use ?_;cases B:(c9 e != 0)
 rotate_left
 .have C:c9 e≠0:=by simpa [bne] using B
  refine A7 B ?_;exact⟨by rw[show eh p.vars e=c9 e from if_pos C];simp [C],a⟩
 have C:c9 e=0:=by simpa [bne] using B
 have A:eh p.vars e=jl p.vars e:=by unfold eh;rw[if_neg (by simp [C])]
 refine AZ B (IL c) ?_;refine(bA G e K _).use ?_;refine A7 @Ju ?_;refine BL ?_ ?_<;>intro M
 .refine AB ?_
  exact⟨by rw[A];unfold jl;rw[if_pos M];rfl,a⟩
 refine A7 (IL c) ?_;refine(eU G e K _).use ?_
 have J:(gj [2] [] (pre e)).length<=1048576:=by
  have j:=bM [2] (pre e) [];have P:=YM e;simp at j;omega
 have k:=Je p.vars e
 generalize gj [2] [] (pre e)=ns at J k|-
 have l:ns.any (fun n=>decide (d' p.vars n<0)) = !(eh p.vars e==0):=by
  rw[k,A];unfold jl;rw[M];cases gD p.vars e<;>rfl
 refine AB ?_
 refine BB (fun n F H=>∃i,n+i=ns.length/\(∀x∈ns.take i,decide (d' p.vars x<0)=false)/\F 2=.ptr pb 0 0/\F 17=.sl (nm ns) 1 (ns.map cu)/\F 18=.n (ns.length:Nat)/\F 19=.n (i:Nat)/\H[pb]?=some (qH 5 [CW p])/\ext h H) ns.length
  ⟨0,BA,BA,AL,AL,AL,AL,d,a⟩ ?_
 clear d c a;rintro n F H ⟨i,Q,I,N,f17,f18,f19,d,a⟩;refine AZ f18 f19 ?_;refine DV ?_ ?_<;>intro b
 .simp only[vQ,CP,↓reduceIte,jC,b_,cZ,jQ,f17,f19,CE b,Cb b,al9,st9]
  have g:(H++[qH 1 [[.str ns[i]]]])[pb]?=_:=AU d;have q:=a.app [qH 1 [[.str ns[i]]]];refine AZ N (ZL g) ?_;refine(GQ G p.vars p.vm 306 [.ptr H.length 0 0] (PH ns[i]) _ U fun x _=>N' G x ns[i] H.length _ (A8 _ _)).use ?_;refine A7 @AX7 ?_;refine BL ?_ ?_<;>intro f
  .have f:decide (d' p.vars ns[i]<0)=true:=BQ f
   refine AB ?_;refine⟨?_,q⟩;have:ns.any (fun n=>decide (d' p.vars n<0))=true:=List.any_eq_true.2 ⟨_,jH b,f⟩;rw[l] at this
   cases L:(eh p.vars e==0)<;>rw[L] at this<;>first|rfl|cases this
  .have f:decide (d' p.vars ns[i]<0)=false:=BQ f
   refine AZ f19 (CZ i) ?_;refine⟨n-1,U,i+1,U,fun x E=>?_,AO,AO,AO,rfl,g,q⟩;rw[jW b] at E;rcases List.mem_append.1 E with j|j
   .exact I x j
   .rw[List.mem_singleton.1 j];exact f
 .rw[jK U] at I
  refine AB ?_;refine⟨?_,a⟩;have:ns.any (fun n=>decide (d' p.vars n<0))=false:=List.any_eq_false.2 fun x E=>by rw[I x E];simp
  rw[l] at this
  cases L:(eh p.vars e==0)<;>rw[L] at this<;>first|rfl|cases this
theorem Lb (p:Pr)(hs:fp p)(a:List Int)(b:Nat)(Q:a.length=p.vars.length)(h:Hp)(X:fy h b a):ACalls (En G) 72 [.agg (CW p),.own b 0 a.length] h fun v H=>ext h H/\bw 2 FY h (MV p.vars a) v H:=by
 have a0:=hs.vars;have Y:=UK Q;refine II (H:=hint [31] []) (ji G) Tryz.func72 rfl (by kernel_rfl) (by kernel_rfl) (jB (by kernel_rfl)) ?_;show dh _ _ _ _ _ (MW _ [.tmp 4] _);have E:=A8 h (qH 5 [CW p]);have j:fy (h++[qH 5 [CW p]]) b a:=AU X;have R:=Sm.ext.r1 h (qH 5 [CW p]);have O:h.length<=(h++[qH 5 [CW p]]).length:=BA;refine A7 @QE ?_
 generalize h++[qH 5 [CW p]]=H0 at E j R O|-
 generalize Z:h.length=pb at E O|-
 have L:∀ {H:Hp},Sm.ext H0 H->BR jA H 22 (.ptr pb 0 0)=some (.sl p.vm 4 (p.vars.map bt)):=fun q=>ZL (DZ q E)
 have I:(((a.length:Nat):Int) != ((p.vars.length:Nat):Int))=false:=by rw[Q];simp
 refine AZ (L (ext.rfl' H0)) I ?_
 refine BB (fun n F H=>∃i u,n+i=p.vars.length/\F 1=.own b 0 a.length/\F 2=.ptr pb 0 0/\F 5=u/\F 15=.sl p.vm 4 (p.vars.map bt)/\F 16=.n (p.vars.length:Nat)/\F 17=.n (i:Nat)/\ext H0 H/\bw 2 FY H0 ((MV p.vars a).take i) u H) p.vars.length
  ⟨0,.sl .nil 0 [],BA,AL,AL,AL,AL,AL,AL,ext.rfl' _,bw.nil _ _ _ _⟩ ?_
 rintro n F H ⟨i,u,hi,S,f2,M,f15,f16,f17,C,J⟩;refine AZ f16 f17 ?_;refine DV (fun g=>?_) (fun e=>?_)
 .have e:i<a.length:=U
  have l:i<(MV p.vars a).length:=U;have f:=C.app [qH 4 [bt p.vars[i]]];have B:=J.app [qH 4 [bt p.vars[i]]];have N:=A8 H (qH 4 [bt p.vars[i]]);simp only[vQ,jZ,jU,jV,zK,CP,↓reduceIte,jC,b_,cM,jQ,f15,f17,CE g,jo g,Bd.ky,Bd.k_]
  generalize T:H++[qH 4 [bt p.vars[i]]]=H1 at f B N|-
  obtain⟨v',H',V,A,_,K,_,_⟩:=B.append (P:=jA) By BC Br Ck U (by rw[jT];omega) f (p.vars[i].name,a[i]);rw[<-cB g e l,<-jW l] at A;have ln:BR jA H1 9 (.ptr H.length 0 0)=some (.str p.vars[i].name):=by rw[BJ eo N (row:=bt p.vars[i]) rfl];rfl
  have k:fy H1 b a:=DZ f j;have la:BR jA H1 3 (.ptr b i 0)=some (.n a[i]):=by rw[k.ld e,wQ,jP e];rfl
  refine DI BC ?_;simp only[vQ,jZ,jU,jV,zK,JX,X8,JK,CP,OA,↓reduceIte,jC,jO,b_,J8,WL,S,M,k.ix (show i<a.length from e),ln,la,De,Dj,V,f17,CZ i];exact⟨n-1,U,i+1,v',U,AO,AO,AO,AO,AO,AO,K,A⟩
 .rw[jK U] at J
  refine A7 M ?_;refine⟨R.trans C,?_⟩;rcases J with⟨a,b⟩|⟨a,o,b,c,d⟩
  .exact .inl ⟨a,b⟩
  .exact .inr ⟨a,o,U,c,d⟩
end
def ke (p:Pr)(b:SM)(l:List Ex)(a n:Nat)(c:Bool)(d:Int):List AV:=[.sl p.vm 4 (p.vars.map bt),.sl p.hm 4 (p.hard.map AQ),.sl p.sm 4 (p.soft.map AQ),.sl p.dm 2 (p.dists.map I9),.sl p.gm 1 (p.groups.map UM),.sl b 4 (l.map AQ),.own a 0 n,.bool c,.n d]
abbrev fo (H:Hp)(fb:Nat)(p:Pr)(lm:SM)(l:List Ex)(ab n:Nat)(ov:Bool)(st:Int):Prop:=H[fb]?=some (qH 9 [ke p lm l ab n ov st])
section
variable {H:Hp} {fb:Nat} {p:Pr} {lm:SM} {l:List Ex} {ab n:Nat} {ov:Bool} {st:Int}
theorem fo.vs (h:fo H fb p lm l ab n ov st):BR jA H 22 (.ptr fb 0 0)=some (.sl p.vm 4 (p.vars.map bt)):=by rw[BJ aW h rfl];rfl
theorem fo.pr (h:fo H fb p lm l ab n ov st):BR jA H 27 (.ptr fb 0 0)=some (.agg (CW p)):=by rw[EK eP ZU h rfl (by show 0+5<=9;omega)];rfl
theorem fo.es (h:fo H fb p lm l ab n ov st):BR jA H 23 (.ptr fb 0 5)=some (.sl lm 4 (l.map AQ)):=by rw[BJ MQ h rfl];rfl
theorem fo.as (h:fo H fb p lm l ab n ov st):BR jA H 32 (.ptr fb 0 6)=some (.own ab 0 n):=by rw[BJ MB h rfl];rfl
theorem fo.ovd (h:fo H fb p lm l ab n ov st):BR jA H 4 (.ptr fb 0 7)=some (.bool ov):=by rw[BJ po h rfl];rfl
theorem fo.std (h:fo H fb p lm l ab n ov st):BR jA H 3 (.ptr fb 0 8)=some (.n st):=by rw[BJ ct h rfl];rfl
theorem fo.setSt (h:fo H fb p lm l ab n ov st)(z:Int):D7 jA H 3 (.ptr fb 0 8) (.n z)=some (H.set fb (qH 9 [ke p lm l ab n ov z])):=by
 rw[JV (cs:=[.n z]) rfl iz h (by show 8+1<=9;omega)];rfl
theorem fo.setOv (h:fo H fb p lm l ab n ov st)(z:Bool):D7 jA H 4 (.ptr fb 0 7) (.bool z)=some (H.set fb (qH 9 [ke p lm l ab n z st])):=by
 rw[JV (cs:=[.bool z]) rfl xl h (by show 7+1<=9;omega)];rfl
end
section
variable (G:Nat->AV)
theorem Sa (p:Pr)(hs:fp p)(P:PV p)(lm:SM)(l:List Ex)(st:Int)(a:List Int)(ok:jg p a)(fb ab:Nat)(R:fb≠ab)(h:Hp)(f:fo h fb p lm l ab a.length false st)(hb:fy h ab a):
  ACalls (En G) 260 [.ptr fb 0 0] h fun _ H=>KB [fb,ab] h H/\match jk p.vars p.vars.length a with
  | some B=>fo H fb p lm l ab a.length false st/\fy H ab B
  | none=>fo H fb p lm l ab a.length true st/\∃B,B.length=a.length/\fy H ab B:=by
 generalize hO:jk p.vars p.vars.length a=O;have a7:=hs.vars;refine e7 Tryz.func260 [] ?_;have X:a.length=p.vars.length:=ok.len;have z1:IntKind.i64.wrap (((a.length:Nat):Int)-1)=((a.length:Nat):Int)-1:=wrap_i64 U U;refine DC @YX @f.as z1 ?_;refine EG 0 (fun F H=>KB [fb,ab] h H/\O=none/\F 0=.ptr fb 0 0/\fo H fb p lm l ab a.length false st/\∃B,B.length=a.length/\fy H ab B) (fun F H=>KB [fb,ab] h H/\∃B,O=some B/\fo H fb p lm l ab a.length false st/\fy H ab B) ?_ ?_ ?_
 .refine BB (fun n F H=>∃k c,n=k/\k<=p.vars.length/\jg p c/\jk p.vars k c=O/\KB [fb,ab] h H/\fy H ab c/\fo H fb p lm l ab a.length false st/\F 0=.ptr fb 0 0/\F 2=.n (((k:Nat):Int)-1)) p.vars.length
   ⟨p.vars.length,a,rfl,jF _,ok,hO,KB.rfl' _ _,hb,f,AL,by refine AB ?_;rw[X]⟩ ?_
  clear hb f;rintro n F H ⟨k,c,rfl,a6,b,g,S,L,f,V,M⟩;have ec:decide (((n:Nat):Int)-1≥0)=decide (1<=n):=by rw[decide_eq_decide];omega
  refine AZ M ec ?_;refine BL ?_ ?_<;>intro Z
  .have h1:1<=n:=BQ Z
   obtain⟨i,rfl⟩:∃i,n=i+1:=⟨n-1,U⟩;have E:i<p.vars.length:=U;have C:i<c.length:=by rw[b.len];exact E
   have Q:i<a.length:=U;have ei:((((i+1:Nat):Int))-1)=((i:Nat):Int):=U;rw[ei] at M;unfold jk at g;simp only[jP E] at g;obtain⟨_,w1,w8,_⟩:=VM (P.vr _ (jH E));have a3:∀H:Hp,BR jA H 3 (.fptr 4 (p.vars.map bt) i 2)=some (.n p.vars[i].mode):=fun H=>by rw[BK ct E];rfl
   have zi:IntKind.i64.wrap (((i:Nat):Int)-1)=((i:Nat):Int)-1:=wrap_i64 U U;refine WU @y_ V M @f.vs E a3 ?_;refine BL ?_ ?_<;>intro K
   .have K:p.vars[i].mode=0:=BQ K
    rw[if_pos K] at g;refine AZ M zi ?_;exact⟨i,U,i,c,rfl,U,b,g,S,L,f,AO,AO⟩
   .have K:¬p.vars[i].mode=0:=BQ K
    rw[if_neg K] at g;obtain⟨q0,q1⟩:=b.rn i E K;obtain⟨r0,r1⟩:=b.rng P i E;have zz:IntKind.i64.wrap (c.getD i 0+1)=c.getD i 0+1:=wrap_i64 U U;have a4:=L.st (i:=i) C (c.getD i 0+1);have d:fy (H.set ab (qH 1 ((c.set i (c.getD i 0+1)).map bu))) ab (c.set i (c.getD i 0+1)):=CO L;have A:fo (H.set ab (qH 1 ((c.set i (c.getD i 0+1)).map bu))) fb p lm l ab a.length false st:=by unfold fo;rw[zY (Ne.symm R)];exact f
    have k2:KB [fb,ab] h (H.set ab (qH 1 ((c.set i (c.getD i 0+1)).map bu))):=S.set BA _;obtain⟨w,hw⟩:=Int.eq_ofNat_of_zero_le (U:0<=p.vars[i].width);have lw:∀H:Hp,BR jA H 3 (.fptr 4 (p.vars.map bt) i 1)=some (.n (w:Nat)):=fun H=>by rw[BK ct E];show some (AV.int .i64 p.vars[i].width)=_;rw[hw]
    rw[hw,Int.toNat_natCast] at g q1;refine Y9 @YX V M @f.as @L.ix Q @L.ld C zz a4 ?_
    generalize H.set ab (qH 1 ((c.set i (c.getD i 0+1)).map bu))=H1 at d A k2|-
    have J:i<(c.set i (c.getD i 0+1)).length:=by rw[qZ];exact C
    have ld1:=d.ld (i:=i) J;rw[Bl.e6 C] at ld1;refine DI BC ?_;simp only[vQ,↓reduceIte,jC,jO,b_,cM,kI,J8,WJ,y_,YX,X9,X7,fQ,V,M,A.as,d.ix Q,ld1,A.vs,CE E,lw,wb w U];refine BL ?_ ?_<;>intro N
    .have N:c.getD i 0+1<2^w:=BQ N
     rw[if_pos N] at g;refine AB ?_;exact⟨k2,_,g.symm,A,d⟩
    .have N:¬c.getD i 0+1<2^w:=fun q=>by rw[decide_eq_true q] at N;cases N
     rw[if_neg N] at g;have Y:=d.st (i:=i) J 0;rw[List.set_set] at Y;have a5:fy (H1.set ab (qH 1 ((c.set i 0).map bu))) ab (c.set i 0):=CO d;have a1:fo (H1.set ab (qH 1 ((c.set i 0).map bu))) fb p lm l ab a.length false st:=by unfold fo;rw[zY (Ne.symm R)];exact A
     have a2:(0:Int)<2^p.vars[i].width.toNat:=Int.pow_pos DX
     have T:jg p (c.set i 0):=by
      refine⟨by rw[qZ];exact b.len,fun j hj I=>?_,fun j hj I=>?_⟩
      .by_cases e:j=i
       .subst e;exact absurd I K
       .rw[Bl.getD_set_ne (fun q=>e q.symm)];exact b.st j hj I
      .by_cases e:j=i
       .subst e;rw[Bl.e6 C];exact⟨Int.le_refl 0,a2⟩
       .rw[Bl.getD_set_ne (fun q=>e q.symm)];exact b.rn j hj I
     refine N7 @YX V M @A.as @d.ix Q Y zi ?_;exact⟨i,U,i,c.set i 0,rfl,U,T,g,k2.set BA _,a5,a1,AO,AO⟩
  .have h1:¬1<=n:=fun q=>by rw[decide_eq_true q] at Z;cases Z
   obtain rfl:n=0:=U;have g:none=O:=g;refine AB ?_;exact⟨S,g.symm,AO,f,c,by rw[b.len,X],L⟩
 .rintro F H ⟨S,ho,V,f,c,a0,L⟩
  refine EH @sF @nR V @f.setOv ?_;refine⟨S.set BA _,?_⟩;rw[ho];exact⟨CO f,c,a0,by unfold fy;rw[zY R];exact L⟩
 .rintro F H ⟨S,B,ho,f,q⟩
  refine A7 @Ml ?_;refine⟨S,?_⟩;rw[ho];exact⟨f,q⟩
theorem Wy (hG:fm G)(p:Pr)(hs:fp p)(hv:JY p=0)(lm:SM)(l:List Ex)(hl:l.length<=1048576)(hw:∀e∈l,wt e<=1048576)(hk:∀e∈l,eh p.vars e=0)(h:Hp):
  ACalls (En G) 182 [.agg (CW p),.sl lm 4 (l.map AQ),.n 262144] h fun v H=>ext h H/\∃fb ab,h.length<=fb/\h.length<=ab/\fb≠ab/\v=.tup [.ptr fb 0 0,.n 0]/\fo H fb p lm l ab p.vars.length false 262144/\fy H ab (NW p):=by
 have P:=PV.of hv;have K:=hs.vars;refine II (H:=hint [40] []) (ji G) Tryz.func182 rfl (by kernel_rfl) (by kernel_rfl) (jB (by kernel_rfl)) ?_;show dh _ _ _ _ _ (MW _ [.tmp 6,.tmp 7] _);have b:=A8 h (qH 5 [CW p]);have a:=Sm.ext.r1 h (qH 5 [CW p]);have k:h.length<(h++[qH 5 [CW p]]).length:=BA;have ldP:∀ {H:Hp},H[h.length]?=some (qH 5 [CW p])->BR jA H 27 (.ptr h.length 0 0)=some (.agg (CW p)):=fun q=>by rw[EK eP ZU q (row:=CW p) rfl (by rw[LD];exact jF 5)];rfl
 refine AZ @HA @QE ?_
 generalize h++[qH 5 [CW p]]=H0 at b a k|-
 refine A7 (ldP b) ?_;refine(Bd.df G hG p hs H0).use ?_;have b0:(JY p != 0)=false:=by rw[hv];rfl
 refine DC b0 (show decide ((262144:Int)<0)=false by decide) (show decide ((262144:Int)>262144)=false by decide) ?_;refine EG 0 (fun F H=>ext h H/\H[h.length]?=some (qH 5 [CW p])/\F 1=.sl lm 4 (l.map AQ)/\F 2=.n 262144/\F 3=.ptr h.length 0 0) (fun F H=>False) ?_ ?_ (fun _ _ q=>q.elim)
 .refine BB (fun n F H=>∃i,n+i=l.length/\ext h H/\H[h.length]?=some (qH 5 [CW p])/\F 1=.sl lm 4 (l.map AQ)/\F 2=.n 262144/\F 3=.ptr h.length 0 0/\F 24=.sl lm 4 (l.map AQ)/\F 25=.n (l.length:Nat)/\F 26=.n (i:Nat)) l.length
   ⟨0,BA,a,b,AL,AL,AL,AL,AL,AL⟩ ?_
  clear a b k;rintro n F H ⟨i,B,a,b,L,M,C,N,O,j⟩;refine AZ O j ?_;refine BL ?_ ?_<;>intro hc
  .have g:i<l.length:=BQ hc
   have gE:=A8 H (qH 4 [AQ l[i]]);have b:=AU (x:=qH 4 [AQ l[i]]) b;have a:=a.app [qH 4 [AQ l[i]]];simp only[vQ,jZ,jU,jV,zK,CP,↓reduceIte,jC,b_,P5,jQ,N,j,CE g,DL NU G9 EF g,e9,gg]
   generalize H++[qH 4 [AQ l[i]]]=H1 at b a gE|-
   refine DC C (ldP b) (IL gE) ?_;refine(ic G hG p K l[i] (hw _ (jH g)) H1).use ?_;have b1:(eh p.vars l[i]==0)=true:=by rw[hk _ (jH g)];rfl
   refine DC b1 j (CZ i) ?_;exact⟨n-1,U,i+1,U,a,b,AO,AO,AO,AO,AO,AO⟩
  .refine AB ?_
   exact⟨a,b,AO,AO,AO⟩
 clear a b k;rintro F H ⟨a,b,L,M,C⟩;have S:=AY b;have Z:=a.le;have bd:∀ab:Nat,IY jA 249 [(0,.agg (CW p)),(1,.sl lm 4 (l.map AQ)),(2,.own ab 0 p.vars.length),(4,.n 262144)]=some (.agg (ke p lm l ab p.vars.length false 262144)):=fun ab=>BC
 have bx:∀(H:Hp) (ab:Nat),OU H (.agg (ke p lm l ab p.vars.length false 262144))=some (.ptr H.length 0 0,H++[qH 9 [ke p lm l ab p.vars.length false 262144]]):=fun H ab=>rfl
 refine AB ?_;refine DI BC ?_;refine Y9 @Ng @ZP L M C (ldP b) (ZL b) (Kf H p.vars.length K) bd bx ?_;have c:fy (H++[qH 1 ((zD p.vars.length (0:Int)).map bu)]) H.length (zD p.vars.length 0):=A8 _ _;have c:=AU (x:=qH 9 [ke p lm l H.length p.vars.length false 262144]) c;have b:=AU (x:=qH 9 [ke p lm l H.length p.vars.length false 262144]) (AU (x:=qH 1 ((zD p.vars.length (0:Int)).map bu)) b);have a:=(a.app [qH 1 ((zD p.vars.length (0:Int)).map bu)]).app [qH 9 [ke p lm l H.length p.vars.length false 262144]];have d:fo (H++[qH 1 ((zD p.vars.length (0:Int)).map bu)]++[qH 9 [ke p lm l H.length p.vars.length false 262144]]) (H++[qH 1 ((zD p.vars.length (0:Int)).map bu)]).length p lm l H.length p.vars.length false 262144:=A8 _ _;have Y:(H++[qH 1 ((zD p.vars.length (0:Int)).map bu)]).length=H.length+1:=BA
 generalize H++[qH 1 ((zD p.vars.length (0:Int)).map bu)]++[qH 9 [ke p lm l H.length p.vars.length false 262144]]=X at c b a d|-
 rw[Y] at d|-
 generalize H.length=ob at c d S Z|-
 refine AZ C (ZL b) ?_
 refine BB (fun n F H=>∃i,n+i=p.vars.length/\fy H ob ((p.vars.map Vr.value).take i++zD (p.vars.length-i) 0)/\fo H (ob+1) p lm l ob p.vars.length false 262144/\ext h H/\F 10=.ptr (ob+1) 0 0/\F 45=.sl p.vm 4 (p.vars.map bt)/\F 46=.n (p.vars.length:Nat)/\F 47=.n (i:Nat)) p.vars.length
  ⟨0,rfl,by rw[qA,List.nil_append];exact c,d,a,AL,AL,AL,AL⟩ ?_
 clear c b a d L M C;rintro n F H ⟨i,hn,c,d,a,f10,Q,R,f⟩;refine AZ R f ?_;refine DV (fun B=>?_) (fun a0=>?_)
 .have E:i<(p.vars.map Vr.value).length:=by rw[jI];exact B
  have qv:=A8 H (qH 4 [bt p.vars[i]]);have c:fy (H++[qH 4 [bt p.vars[i]]]) ob ((p.vars.map Vr.value).take i++zD (p.vars.length-i) 0):=AU c;have d:fo (H++[qH 4 [bt p.vars[i]]]) (ob+1) p lm l ob p.vars.length false 262144:=AU d;have a:=a.app [qH 4 [bt p.vars[i]]];have T:((p.vars.map Vr.value).take i).length=i:=by rw[jT];omega
  have J:=c.st (i:=i) NI p.vars[i].value
  have I:((p.vars.map Vr.value).take i++zD (p.vars.length-i) 0).set i p.vars[i].value=(p.vars.map Vr.value).take (i+1)++zD (p.vars.length-(i+1)) 0:=by
   rw[List.set_append_right _ _ U,T,Nat.sub_self,show p.vars.length-i=(p.vars.length-(i+1))+1 by omega,List.replicate_succ,List.set_cons_zero,jW E,List.getElem_map,zA];rfl
  rw[I] at J;have l2:BR jA (H++[qH 4 [bt p.vars[i]]]) 3 (.ptr H.length 0 2)=some (.n p.vars[i].mode):=by rw[BJ ct qv rfl];rfl
  have l3:BR jA (H++[qH 4 [bt p.vars[i]]]) 3 (.ptr H.length 0 3)=some (.n p.vars[i].value):=by rw[BJ ct qv rfl];rfl
  simp only[vQ,jZ,jU,jV,zK,CP,↓reduceIte,jC,b_,cM,YY,jQ,Q,f,CE B,jo B,Bd.ky,Bd.k_,l2];refine BL ?_ ?_<;>intro V
  .refine DI BC ?_
   simp only[vQ,jZ,jU,jV,zK,O8,PU,CP,↓reduceIte,jC,jO,b_,J8,bZ,YX,jQ,X9,X7,fQ,f10,f,l3,d.as,c.ix B,J,CZ i];exact⟨n-1,U,i+1,U,CO c,by unfold fo;rw[zY U];exact d,a.set U _,AO,AO,AO,AO⟩
  .have V:p.vars[i].mode≠0:=BQ V
   obtain⟨_,_,_,_,_,_,_,v0⟩:=VM (P.vr _ (jH B))
   have A:(p.vars.map Vr.value).take (i+1)++zD (p.vars.length-(i+1)) 0=(p.vars.map Vr.value).take i++zD (p.vars.length-i) 0:=by
    rw[jW E,List.getElem_map,v0 V,zA,show p.vars.length-i=(p.vars.length-(i+1))+1 by omega,List.replicate_succ];rfl
   refine AZ f (CZ i) ?_;exact⟨n-1,U,i+1,U,by rw[A];exact c,d,a,AO,AO,AO,AO⟩
 .rw[jK (by rw[jI];omega),show p.vars.length-i=0 by omega,List.replicate_zero,List.append_nil] at c
  refine A7 f10 ?_;exact⟨a,ob+1,ob,U,U,U,AO,d,c⟩
end
end Bd.Cl
namespace Cov
open Sm Bins Go.RowKit
variable {ns:List Nat} {l:List Int} (G:Nat->AV )
def jr (ns:List Nat)(l:List Int):Int:=if JZ ns l=true then eB ns l 0 else 0
theorem GP (h:l.length≠ns.length):JZ ns l=false:=by
 cases e:JZ ns l
 .rfl
 .exact absurd (QL e).symm h
theorem xV {k:Nat}(hk:k<l.length)(a:k<ns.length):JZ (ns.drop k) (l.drop k)=(decide (0<=l[k])&&decide (l[k]<(ns[k]:Int))&&JZ (ns.drop (k+1)) (l.drop (k+1))):=by
 rw[zU hk,zU a];rfl
theorem Fh {k:Nat}(hk:l.length<=k)(a:ns.length<=k):JZ (ns.drop k) (l.drop k)=true:=by
 rw[jS hk,jS a];rfl
theorem Uw (m:Mo)(z:Int)(c:z<0\/(m.crs.length:Int)<=z)(h:Hp):a_ (En G) 145 [.agg (C9 m),.n z] h (.bool false):=by
 refine ACalls.pure0 rfl ?_;refine cn Tryz.func145 4 ?_;refine A7 @er ?_;cases a:decide (z<0)
 .have b:decide (z≥(m.crs.length:Int))=true:=by rw[decide_eq_true_eq];rw[decide_eq_false_iff_not] at a;omega
  refine MF nE @ZC b ?_;exact⟨trivial,_,rfl⟩
 .refine AB ?_
  exact⟨trivial,_,rfl⟩
theorem oM (m:Mo)(z:Int)(c:z<0\/(m.crs.length:Int)<=z)(h:Hp):a_ (En G) 198 [.agg (C9 m),.n z] h (.bool false):=by
 refine ACalls.pure0 rfl ?_;refine cn Tryz.func198 4 ?_;refine A7 @er ?_;cases a:decide (z<0)
 .have b:decide (z≥(m.crs.length:Int))=true:=by rw[decide_eq_true_eq];rw[decide_eq_false_iff_not] at a;omega
  refine MF nE @ZC b ?_;exact⟨trivial,_,rfl⟩
 .refine AB ?_
  exact⟨trivial,_,rfl⟩
theorem rF (m:Mo)(z:Int)(a:z<0\/(m.crs.length:Int)<=z)(l:List Int)(s:SM)(h:Hp):a_ (En G) 71 [.agg (C9 m),.n z,.sl s 1 (l.map bu)] h (.tup [.n 0,.bool false]):=by
 refine ACalls.pure 2 (R:=fun v H=>v=.tup [.n 0,.bool false]/\∃x,H=h++x) ?_ (fun v b ⟨e,x⟩=>⟨x,by subst e;rfl⟩);refine e7 Tryz.func71 [.tmp 6,.tmp 7] ?_;refine AZ @er (dk (A8 h (qH 2 [C9 m]))) ?_;refine(Uw G m z a _).uu ?_;exact⟨trivial,_,rfl⟩
theorem uS (m:Mo)(z:Int)(a:z<0\/(m.crs.length:Int)<=z)(l:List Int)(s:SM)(h:Hp):a_ (En G) 110 [.agg (C9 m),.n z,.sl s 1 (l.map bu)] h (.tup [.n 0,.bool false]):=by
 refine ACalls.pure 2 (R:=fun v H=>v=.tup [.n 0,.bool false]/\∃x,H=h++x) ?_ (fun v b ⟨e,x⟩=>⟨x,by subst e;rfl⟩);refine e7 Tryz.func110 [.tmp 6,.tmp 7] ?_;refine AZ @er (dk (A8 h (qH 2 [C9 m]))) ?_;refine(oM G m z a _).uu ?_;exact⟨trivial,_,rfl⟩
theorem rG (m:Mo)(i:Nat)(P:i<m.crs.length)(O:dw m m.crs[i])(l:List Int)(s:SM)(S:l.length<=1048576)(h:Hp):a_ (En G) 71 [.agg (C9 m),.n (i:Int),.sl s 1 (l.map bu)] h (.tup [.n (jr (szs m m.crs[i].pts) l),.bool (JZ (szs m m.crs[i].pts) l)]):=by
 refine ACalls.pure 2 (R:=fun v H=>v=.tup [.n (jr (szs m m.crs[i].pts) l),.bool (JZ (szs m m.crs[i].pts) l)]/\∃x,H=h++x) ?_ (fun v Q ⟨e,x⟩=>⟨x,by subst e;rfl⟩);have I:∃x,h++[qH 2 [C9 m]]=h++x:=⟨_,rfl⟩;refine e7 Tryz.func71 [.tmp 6,.tmp 7] ?_;refine AZ @er (dk (A8 h (qH 2 [C9 m]))) ?_;refine(ZR G m i P O _).use ?_;refine A7 (dk (A8 h (qH 2 [C9 m]))) ?_;refine(VE G m i P O _).use ?_;generalize szs m m.crs[i].pts=ns;rcases Classical.em (l.length=ns.length) with d|d
 case inr =>
  have j:((l.length:Int) != (ns.length:Int))=true:=by simp;omega
  have N:=GP d;have q:jr ns l=0:=by unfold jr;rw[N];rfl
  refine A7 j ?_;exact⟨by rw[N,q],I⟩
 have j:((l.length:Int) != (ns.length:Int))=false:=by rw[d];simp
 refine A7 j ?_;refine BB (fun n F H=>∃k,n+k=l.length/\F 8=.sl .any 1 (ns.map KD)/\(∃z,F 9=.n z/\eB ns l 0=eB (ns.drop k) (l.drop k) z)/\F 24=.sl s 1 (l.map bu)/\F 25=.n l.length/\F 26=.n (k:Nat)/\H=h++[qH 2 [C9 m]]/\JZ ns l=JZ (ns.drop k) (l.drop k)) l.length ⟨0,BA,AL,⟨0,rfl,rfl⟩,AL,AL,AL,rfl,rfl⟩ ?_;rintro n F H ⟨k,hk,M,⟨z,E,J⟩,g,B,f,rfl,a⟩;refine AZ B f ?_;refine DV ?_ ?_<;>intro b
 .have c:k<ns.length:=U
  rw[xV b c] at a;rw[zU b,zU c] at J;cases A:decide (l[k]<0)
  .have K:decide (0<=l[k])=true:=by rw[decide_eq_true_eq];rw[decide_eq_false_iff_not] at A;omega
   cases C:decide (l[k]≥(ns[k]:Int))
   .have L:decide (l[k]<(ns[k]:Int))=true:=by rw[decide_eq_true_eq];rw[decide_eq_false_iff_not] at C;omega
    rw[K,L,qX,qX] at a;simp only[vQ,EM,CP,Y6,↓reduceIte,jC,b_,J8,M,E,g,f,CE b,BK ct b,cy,A,CE c,BK ct c,sH,C,CZ k];exact⟨n-1,U,k+1,U,trivial,⟨_,rfl,J⟩,trivial,B,rfl,trivial,a⟩
   .have L:decide (l[k]<(ns[k]:Int))=false:=by rw[decide_eq_false_iff_not];rw[decide_eq_true_eq] at C;omega
    rw[L,Bool.and_false,wM] at a;have q:jr ns l=0:=by unfold jr;rw[a];rfl
    refine Y9 M E g f b @cy A c @sH C ?_;exact⟨by rw[a,q],I⟩
  .have K:decide (0<=l[k])=false:=by rw[decide_eq_false_iff_not];rw[decide_eq_true_eq] at A;omega
   rw[K,wM,wM] at a;have q:jr ns l=0:=by unfold jr;rw[a];rfl
   refine LJ M E g f b @cy A ?_;exact⟨by rw[a,q],I⟩
 .rw[Fh U U] at a
  rw[jS (U:l.length<=k),fX] at J;have q:jr ns l=z:=by unfold jr;rw[if_pos a,J]
  refine A7 E ?_;exact⟨by rw[a,q],I⟩
theorem uT (m:Mo)(i:Nat)(j:i<m.crs.length)(Y:dw m m.crs[i])(l:List Int)(s:SM)(hn:l.length<=1048576)(h:Hp):a_ (En G) 110 [.agg (C9 m),.n (i:Int),.sl s 1 (l.map bu)] h (.tup [.n (jr (szs m m.crs[i].pts) l),.bool (JZ (szs m m.crs[i].pts) l)]):=by
 have Q:=KT m m.crs[i].pts;have c:=YI m m.crs[i].pts;refine ACalls.pure 2 (R:=fun v H=>v=.tup [.n (jr (szs m m.crs[i].pts) l),.bool (JZ (szs m m.crs[i].pts) l)]/\∃x,H=h++x) ?_ (fun v Z ⟨e,x⟩=>⟨x,by subst e;rfl⟩);have B:=A8 h (qH 2 [C9 m]);have I:∃x,h++[qH 2 [C9 m]]=h++x:=⟨_,rfl⟩;refine e7 Tryz.func110 [.tmp 6,.tmp 7] ?_;refine AZ @er (dk B) ?_;refine(dI G m i j Y _).use ?_;rcases Classical.em (l.length=m.crs[i].pts.length) with d|d
 case inr =>
  have f:((l.length:Int) != (m.crs[i].pts.length:Int))=true:=by simp;omega
  have X:JZ (szs m m.crs[i].pts) l=false:=GP U;have g:jr (szs m m.crs[i].pts) l=0:=by unfold jr;rw[X];rfl
  simp only[vQ,sE,EM,CP,iF,WX,↓reduceIte,jC,qL,b_,UG,MN,UF,LQ,ZM B,CE j,BK MB j,U1,jI,f];exact⟨by rw[X,g],I⟩
 have f:((l.length:Int) != (m.crs[i].pts.length:Int))=false:=by rw[d];simp
 simp only[vQ,EM,CP,iF,WX,↓reduceIte,jC,qL,b_,UG,MN,UF,LQ,ZM B,CE j,BK MB j,U1,jI,f]
 generalize h++[qH 2 [C9 m]]=H at B I|-
 generalize szs m m.crs[i].pts=ns at Q c|-
 refine BB (fun n F S=>∃k,n+k=l.length/\F 1=.n (i:Nat)/\F 2=.sl s 1 (l.map bu)/\F 3=.ptr h.length 0 0/\(∃z,F 8=.n z/\eB ns l 0=eB (ns.drop k) (l.drop k) z)/\F 9=.n (k:Nat)/\S=H/\JZ ns l=JZ (ns.drop k) (l.drop k)) l.length ⟨0,BA,by simp only[vQ,↓reduceIte,jC],by simp only[vQ,↓reduceIte,jC],by simp only[AX,↓reduceIte,jC],⟨0,rfl,rfl⟩,by simp only[AX,↓reduceIte];rfl,rfl,rfl⟩ ?_;rintro n F S ⟨k,hk,T,K,V,⟨z,L,M⟩,A,rfl,a⟩;refine AZ K A ?_;refine DV ?_ ?_<;>intro b
 .have E:k<ns.length:=U
  have C:k<m.crs[i].pts.length:=U;have P:ns[k]=(IV m m.crs[i].pts[k]).length:=GK (c k C);rw[xV b E] at a;rw[zU b,zU E] at M;refine EH T V A (dk B) ?_;refine(Y5 G m i j Y k C _).use ?_;rw[<-P];cases q:decide (l[k]<0)
  .have N:decide (0<=l[k])=true:=by rw[decide_eq_true_eq];rw[decide_eq_false_iff_not] at q;omega
   cases J:decide (l[k]≥(ns[k]:Int))
   .have O:decide (l[k]<(ns[k]:Int))=true:=by rw[decide_eq_true_eq];rw[decide_eq_false_iff_not] at J;omega
    rw[N,O,qX,qX] at a;simp only[vQ,EM,CP,Y6,↓reduceIte,jC,b_,J8,K,L,A,CE b,BK ct b,cy,q,J,CZ k];exact⟨n-1,U,k+1,U,T,trivial,V,⟨_,rfl,M⟩,rfl,trivial,a⟩
   .have O:decide (l[k]<(ns[k]:Int))=false:=by rw[decide_eq_false_iff_not];rw[decide_eq_true_eq] at J;omega
    rw[O,Bool.and_false,wM] at a;have g:jr ns l=0:=by unfold jr;rw[a];rfl
    refine LJ K L A b @cy q J ?_;exact⟨by rw[a,g],I⟩
  .have N:decide (0<=l[k])=false:=by rw[decide_eq_false_iff_not];rw[decide_eq_true_eq] at q;omega
   rw[N,wM,wM] at a;have g:jr ns l=0:=by unfold jr;rw[a];rfl
   refine WU K L A b @cy q ?_;exact⟨by rw[a,g],I⟩
 .rw[Fh U U] at a
  rw[jS (U:l.length<=k),fX] at M;have g:jr ns l=z:=by unfold jr;rw[if_pos a,M]
  refine A7 L ?_;exact⟨by rw[a,g],I⟩
end Cov
namespace Ho
open Sm Bins Cov Go.RowKit
variable {H:Hp} {b i:Nat} {m:Mo} {p:Pt}
structure Hl where
 cross:Bool
 idx:Int
 bm:SM
 bins:List Int
def FH (x:Hl):List AV:=[.bool x.cross,.n x.idx,.sl x.bm 1 (x.bins.map bu)]
theorem kN (x:Hl):(FH x).length=3:=rfl
theorem kz (h:Hp)(x:Hl):OU h (.agg (FH x))=some (.ptr h.length 0 0,h++[qH 3 [FH x]]):=cG rfl
theorem kl {x:Hl}(a:H[b]?=some (qH 3 [FH x])):BR jA H 34 (.ptr b 0 0)=some (.agg (FH x)):=by
 rw[EK qu dL a rfl (by rw[kN];exact Nat.le_refl 3)];rfl
theorem qp {x:Hl}(a:H[b]?=some (qH 3 [FH x])):BR jA H 4 (.ptr b 0 0)=some (.bool x.cross):=by rw[BJ po a (row:=FH x) rfl];rfl
theorem uP {x:Hl}(a:H[b]?=some (qH 3 [FH x])):BR jA H 3 (.ptr b 0 1)=some (.n x.idx):=by rw[BJ ct a (row:=FH x) rfl];rfl
theorem uO {x:Hl}(a:H[b]?=some (qH 3 [FH x])):BR jA H 32 (.ptr b 0 2)=some (.sl x.bm 1 (x.bins.map bu)):=by rw[BJ MB a (row:=FH x) rfl];rfl
def oa (m:Mo)(z:Int):Option Cr:=if 0<=z then m.crs[z.toNat]? else none
def o9 (m:Mo)(z:Int):Option Pt:=if 0<=z then m.pts[z.toNat]? else none
def rQ (p:Pt):List Int->Bool
 | [b]=>decide (0<=b)&&decide (b<(p.bins.length:Int))&&(kindOf p b.toNat==0)
 | _=>false
def A_ (m:Mo)(x:Hl):Option Cr->Bool
 | some c=>JZ (szs m c.pts) x.bins&&RS m c x.bins
 | none=>false
def Be (x:Hl):Option Pt->Bool
 | some p=>rQ p x.bins
 | none=>false
def XQ (m:Mo)(x:Hl):Bool:=if x.cross=true then A_ m x (oa m x.idx) else Be x (o9 m x.idx)
def O9 (m:Mo)(x:Hl):Bool:=(F6 m==0)&&XQ m x
theorem sX {z:Int}(h:z<0\/(m.crs.length:Int)<=z):oa m z=none:=by
 unfold oa;split
 .exact wC U
 .rfl
theorem cD (a:i<m.crs.length):oa m (i:Int)=some m.crs[i]:=by
 unfold oa;rw[if_pos U,qI,jP a]
theorem pK {z:Int}(h:z<0\/(m.pts.length:Int)<=z):o9 m z=none:=by
 unfold o9;split
 .exact wC U
 .rfl
theorem yu (a:i<m.pts.length):o9 m (i:Int)=some m.pts[i]:=by
 unfold o9;rw[if_pos U,qI,jP a]
theorem RZ (z:Int)(n:Nat):(z<0\/(n:Int)<=z)\/∃i:Nat,i<n/\z=(i:Int):=by
 rcases Classical.em (z<0\/(n:Int)<=z) with h|h
 .exact .inl h
 .exact .inr ⟨z.toNat,U,U⟩
structure Hb (h H:Hp) (m:Mo) (x:Hl) (hb:Nat):Prop where
 gm:H[h.length]?=some (qH 2 [C9 m])
 gh:H[hb]?=some (qH 3 [FH x])
 hx:ext h H
theorem Hb.mk' (h:Hp)(m:Mo)(x:Hl):Hb h (h++[qH 2 [C9 m]]++[qH 3 [FH x]]) m x (h++[qH 2 [C9 m]]).length :=
 ⟨AU (A8 _ _),A8 _ _,((ext.rfl' h).app _).app _⟩
theorem rO {l:List Int}(h:l.length≠1):rQ p l=false:=by
 match l,h with
 | [],_=>rfl
 | [b],h=>exact absurd rfl h
 | _::_::_,_=>rfl
theorem Ye {k:Nat}(hk:k<p.bins.length):kindOf p k=p.bins[k].kind:=by unfold kindOf;rw[jP hk]
theorem kF {b:Int}(h:b<0\/(p.bins.length:Int)<=b):rQ p [b]=false:=by
 show(decide (0<=b)&&decide (b<(p.bins.length:Int))&&(kindOf p b.toNat==0))=false;rcases h with h|h
 .rw[show decide (0<=b)=false by rw[decide_eq_false_iff_not];omega];rfl
 .rw[show decide (b<(p.bins.length:Int))=false by rw[decide_eq_false_iff_not];omega,Bool.and_false];rfl
theorem rP {k:Nat}(hk:k<p.bins.length):rQ p [(k:Int)]=(p.bins[k].kind==0):=by
 show(decide (0<=(k:Int))&&decide ((k:Int)<(p.bins.length:Int))&&(kindOf p (k:Int).toNat==0))=_;rw[qI,Ye hk,show decide (0<=(k:Int))=true by rw[decide_eq_true_eq];omega,show decide ((k:Int)<(p.bins.length:Int))=true by rw[decide_eq_true_eq];omega];rfl
theorem et (i:Nat):decide ((i:Int)<0)=false:=by rw[decide_eq_false_iff_not];omega
theorem bW {n:Nat}(h:i<n):decide ((i:Int)≥(n:Int))=false:=by rw[decide_eq_false_iff_not];omega
theorem Fa {n:Nat}(h:i<n):decide ((i:Int)<(n:Int))=true:=by rw[decide_eq_true_eq];omega
theorem rI (i:Nat):decide ((i:Int)≥0)=true:=by rw[decide_eq_true_eq];omega
theorem dQ {l:List Int}(h:l.length=1):∃b,l=[b]:=by
 match l,h with
 | [b],_=>exact⟨b,rfl⟩
section
variable (G:Nat->AV)
theorem gx (m:Mo)(M:Cov.Good m)(x:Hl)(N:x.bins.length<=1048576)(h:Hp):a_ (En G) 91 [.agg (C9 m),.agg (FH x)] h (.bool (XQ m x)):=by
 refine ACalls.pure0 rfl ?_;refine cn Tryz.func91 4 ?_;have t:=Hb.mk' h m x;refine AZ @er @kz ?_
 generalize h++[qH 2 [C9 m]]++[qH 3 [FH x]]=H at t|-
 generalize (h++[qH 2 [C9 m]]).length=hb at t|-
 refine A7 (qp t.gh) ?_;cases L:x.cross
 case true =>
  have a:XQ m x=A_ m x (oa m x.idx):=by unfold XQ;rw[if_pos L]
  refine DC (dk t.gm) (uP t.gh) (uO t.gh) ?_;rcases RZ x.idx m.crs.length with c|⟨i,d,c⟩
  .rw[sX c] at a;change XQ m x=false at a
   refine(rF G m x.idx c x.bins x.bm H).uu ?_;exact⟨by rw[a],t.hx⟩
  .rw[c,cD d] at a
   change XQ m x=(JZ (szs m m.crs[i].pts) x.bins&&RS m m.crs[i] x.bins) at a;have q:=M.crs _ (jH d);rw[c];refine(rG G m i d q x.bins x.bm N H).use ?_;cases f:JZ (szs m m.crs[i].pts) x.bins
   .refine AB ?_
    exact⟨by rw[a,f,wM],t.hx⟩
   .refine DC (dk t.gm) (uP t.gh) (uO t.gh) ?_
    rw[c];refine(dD G m i d q x.bins x.bm f H).uu ?_;exact⟨by rw[a,f,qX,Bool.not_not],t.hx⟩
 have a:XQ m x=Be x (o9 m x.idx):=by unfold XQ;rw[if_neg (by rw[L];decide)]
 have A:=uP t.gh;have B:=uO t.gh;rcases RZ x.idx m.pts.length with c|⟨i,d,c⟩
 .rw[pK c] at a;change XQ m x=false at a
  cases e:decide (x.idx<0)
  .have C:decide (x.idx≥(m.pts.length:Int))=true:=by rw[decide_eq_true_eq];rw[decide_eq_false_iff_not] at e;omega
   refine EH A e (VC t.gm) C ?_;exact⟨by rw[a],t.hx⟩
  .refine AZ A e ?_
   exact⟨by rw[a],t.hx⟩
 rw[c,yu d] at a;change XQ m x=rQ m.pts[i] x.bins at a;rw[c] at A;rcases Classical.em (x.bins.length=1) with I|I
 case inr =>
  have g:((x.bins.length:Int) != 1)=true:=by simp;omega
  refine LP A B @et (VC t.gm) (bW d) g ?_;exact⟨by rw[a,rO I],t.hx⟩
 obtain⟨b,E⟩:=dQ I;rw[E] at B a;have j:0<([b]:List Int).length:=BA;have J:JJ 1 H (.sl x.bm 1 [bu b]) (.n 0)=some (.fptr 1 [bu b] 0 0):=CE (k:=1) j;have g:(((([bu b]:List (List AV)).length:Nat):Int) != 1)=false:=rfl;have K:BR jA H 3 (.fptr 1 [bu b] 0 0)=some (.n b):=(BK ct j).trans rfl;simp only[vQ,EM,CP,↓reduceIte,jC,b_,QJ,pg,J5,J8,UF,UZ,VU,JW,A,B,et,VC t.gm,jI,bW d,g,CE d,BK PS d,OQ,J,K];rcases RZ b m.pts[i].bins.length with F|⟨k,hk,rfl⟩
 .rw[kF F] at a
  cases e:decide (b≥0)
  .refine A7 e ?_
   exact⟨by rw[a],t.hx⟩
  .have C:decide (b<(m.pts[i].bins.length:Int))=false:=by rw[decide_eq_false_iff_not];rw[decide_eq_true_eq] at e;omega
   refine G7 e B J K C ?_;exact⟨by rw[a],t.hx⟩
 .rw[rP hk] at a
  simp only[vQ,EM,SX,CP,↓reduceIte,jC,b_,J8,VU,XB,aF,UX,rI,B,J,K,jI,Fa hk,CE hk,BK ct hk,SV];exact⟨by rw[a],t.hx⟩
end
section
variable (G:Nat->AV)
theorem df (c:fm G)(m:Mo)(e:dt m)(x:Hl)(f:x.bins.length<=1048576)(h:Hp):a_ (En G) 42 [.agg (C9 m),.agg (FH x)] h (.bool (O9 m x)):=by
 refine ACalls.pure0 rfl ?_;refine cn Tryz.func42 4 ?_;have t:=Hb.mk' h m x;refine AZ @er @kz ?_
 generalize h++[qH 2 [C9 m]]++[qH 3 [FH x]]=H at t|-
 generalize (h++[qH 2 [C9 m]]).length=hb at t|-
 refine A7 (dk t.gm) ?_;refine(TE G c m e H).use ?_;unfold O9;cases a:(F6 m==0)
 .refine A7 a ?_
  exact⟨by rw[wM],t.hx⟩
 .have d:Cov.Good m:=TY (BQ a)
  refine DC a (dk t.gm) (kl t.gh) ?_;refine(gx G m d x f H).uu ?_;exact⟨by rw[qX],t.hx⟩
theorem dq (m:Mo)(O:dt m)(x:Hl)(P:x.bins.length<=1048576)(h:Hp):a_ (En G) 50 [.agg (C9 m),.agg (FH x)] h (.bool (O9 m x)):=by
 refine ACalls.pure0 rfl ?_;refine cn Tryz.func50 4 ?_;have t:=Hb.mk' h m x;refine AZ @er @kz ?_
 generalize h++[qH 2 [C9 m]]++[qH 3 [FH x]]=H at t|-
 generalize (h++[qH 2 [C9 m]]).length=hb at t|-
 refine A7 (dk t.gm) ?_;refine(XP G m O H).use ?_;unfold O9;cases E:(F6 m==0)
 .simp only[vQ,CP,↓reduceIte,b_,bne,E]
  exact⟨by rw[wM],t.hx⟩
 have N:Cov.Good m:=TY (BQ E);rw[qX];simp only[vQ,CP,↓reduceIte,jC,qL,b_,zy,bne,E,qp t.gh];cases M:x.cross
 case true =>
  have a:XQ m x=A_ m x (oa m x.idx):=by unfold XQ;rw[if_pos M]
  refine DC (dk t.gm) (uP t.gh) (uO t.gh) ?_;rcases RZ x.idx m.crs.length with c|⟨i,d,c⟩
  .rw[sX c] at a;change XQ m x=false at a
   refine(uS G m x.idx c x.bins x.bm H).uu ?_;exact⟨by rw[a],t.hx⟩
  .rw[c,cD d] at a
   change XQ m x=(JZ (szs m m.crs[i].pts) x.bins&&RS m m.crs[i] x.bins) at a;have q:=N.crs _ (jH d);rw[c];refine(uT G m i d q x.bins x.bm P H).use ?_;cases f:JZ (szs m m.crs[i].pts) x.bins
   .refine AB ?_
    exact⟨by rw[a,f,wM],t.hx⟩
   .refine DC (dk t.gm) (uP t.gh) (uO t.gh) ?_
    rw[c];refine(gL G m i d q x.bins x.bm f H).uu ?_;exact⟨by rw[a,f,qX,Bool.not_not],t.hx⟩
 have a:XQ m x=Be x (o9 m x.idx):=by unfold XQ;rw[if_neg (by rw[M];decide)]
 have A:=uP t.gh;have B:=uO t.gh;rcases RZ x.idx m.pts.length with c|⟨i,d,c⟩
 .rw[pK c] at a;change XQ m x=false at a
  cases e:decide (x.idx<0)
  .have C:decide (x.idx≥(m.pts.length:Int))=true:=by rw[decide_eq_true_eq];rw[decide_eq_false_iff_not] at e;omega
   refine EH A e (VC t.gm) C ?_;exact⟨by rw[a],t.hx⟩
  .refine AZ A e ?_
   exact⟨by rw[a],t.hx⟩
 rw[c,yu d] at a;change XQ m x=rQ m.pts[i] x.bins at a;rw[c] at A;rcases Classical.em (x.bins.length=1) with J|J
 case inr =>
  have g:((x.bins.length:Int)==1)=false:=by simp;omega
  simp only[vQ,EM,CP,↓reduceIte,jC,b_,pg,J5,UF,UZ,VU,A,B,et,VC t.gm,jI,bW d,bne,g];exact⟨by rw[a,rO J],t.hx⟩
 obtain⟨b,F⟩:=dQ J;rw[F] at B a;have j:0<([b]:List Int).length:=BA;have K:JJ 1 H (.sl x.bm 1 [bu b]) (.n 0)=some (.fptr 1 [bu b] 0 0):=CE (k:=1) j;have g:(((([bu b]:List (List AV)).length:Nat):Int)==1)=true:=rfl;have L:BR jA H 3 (.fptr 1 [bu b] 0 0)=some (.n b):=(BK ct j).trans rfl;simp only[vQ,EM,CP,↓reduceIte,jC,qL,b_,QJ,pg,J5,J8,UF,UZ,VU,JW,A,B,et,VC t.gm,jI,bW d,bne,g,CE d,BK PS d,OQ,K,L];rcases RZ b m.pts[i].bins.length with I|⟨k,hk,rfl⟩
 .rw[kF I] at a
  cases e:decide (b≥0)
  .refine A7 e ?_
   exact⟨by rw[a],t.hx⟩
  .have C:decide (b<(m.pts[i].bins.length:Int))=false:=by rw[decide_eq_false_iff_not];rw[decide_eq_true_eq] at e;omega
   refine G7 e B K L C ?_;exact⟨by rw[a],t.hx⟩
 .rw[rP hk] at a
  simp only[vQ,EM,SX,CP,↓reduceIte,jC,b_,J8,VU,XB,aF,UX,rI,B,K,L,jI,Fa hk,CE hk,BK ct hk,SV];exact⟨by rw[a],t.hx⟩
end
theorem iI {x:Hl}(e:O9 m x=true)(g:x.cross=true):∃i,∃d:i<m.crs.length,x.idx=(i:Int)/\JZ (szs m m.crs[i].pts) x.bins=true/\RS m m.crs[i] x.bins=true/\Cov.Good m:=by
 unfold O9 at e;rw[jY] at e;obtain⟨f,a⟩:=e;unfold XQ at a;rw[if_pos g] at a;rcases RZ x.idx m.crs.length with c|⟨i,d,c⟩
 .rw[sX c] at a;exact Bool.noConfusion (show false=true from a)
 .rw[c,cD d] at a
  change (JZ (szs m m.crs[i].pts) x.bins&&RS m m.crs[i] x.bins)=true at a;rw[jY] at a;exact⟨i,d,c,a.1,a.2,TY (BQ f)⟩
theorem iH {x:Hl}(g:O9 m x=true)(q:x.cross=false):∃i,∃e:i<m.pts.length,∃k,∃hk:k<m.pts[i].bins.length,x.idx=(i:Int)/\x.bins=[(k:Int)]/\m.pts[i].bins[k].kind=0/\Cov.Good m:=by
 unfold O9 at g;rw[jY] at g;obtain⟨j,a⟩:=g;unfold XQ at a;rw[if_neg (by rw[q];decide)] at a;rcases RZ x.idx m.pts.length with c|⟨i,e,c⟩
 .rw[pK c] at a;exact Bool.noConfusion (show false=true from a)
 .rw[c,yu e] at a
  change rQ m.pts[i] x.bins=true at a;rcases Classical.em (x.bins.length=1) with f|f
  .obtain⟨b,h⟩:=dQ f
   rw[h] at a;rcases RZ b m.pts[i].bins.length with d|⟨k,hk,rfl⟩
   .rw[kF d] at a;exact Bool.noConfusion (show false=true from a)
   .rw[rP hk] at a
    exact⟨i,e,k,hk,c,h,BQ a,TY (BQ j)⟩
  .rw[rO f] at a;exact Bool.noConfusion (show false=true from a)
end Ho
namespace Ho
open Sm Bins Cov Xe Go.RowKit
structure H3 (h H:Hp) (m:Mo) (x:Hl) (c:eu) (hb cb:Nat):Prop where
 gm:H[h.length]?=some (qH 2 [C9 m])
 gh:H[hb]?=some (qH 3 [FH x])
 gc:H[cb]?=some (qH 4 [bt c])
 hx:ext h H
end Ho
namespace Ho
open Sm Bins Cov Go.RowKit
variable {H:Hp} {b k:Nat} (G:Nat->AV )
theorem qo {p:Pt}(a:H[b]?=some (qH 6 [GL p])):BR jA H 80 (.ptr b 0 5)=some (.sl p.bm 4 (p.bins.map JD)):=by
 rw[BJ PS a (row:=GL p) rfl,OQ]
theorem rv {p:Pt}(a:H[b]?=some (qH 6 [GL p])):BR jA H 79 (.ptr b 0 1)=some (.agg (AQ p.ex)):=by
 rw[EK NU G9 a rfl (by rw[JH];exact jB rfl),ze]
theorem MX {P:Program}{t e:TypeId}{α:Type}{J:Nat}{f:α->List AV}{h:Hp}{xs ys:List α}{v:AV}(s:SM)(F:bw k f h xs v H)(q:P.underlying t=some (.slice e))(j:da P e=some k)(N:U5 P e=some k)(a:L8 P e=some J)(hbs:J<=4194304)(M:xs.length+ys.length<=8388608)(g:ext h H):
  ∃I c,EJ P true H t t v (.sl s k (ys.map f))=some (I,c)/\bw k f h (xs++ys) I c/\(∀b x,H[b]?=some x->¬db v b->c[b]?=some x)/\ext h c/\H.length<=c.length/\(∀b,db I b->db v b\/b=H.length):=by
 cases ys with
 | nil =>
   refine⟨v,H,?_,by rw[jL];exact F,fun _ _ Q _=>Q,g,jF _,fun b a=>.inl a⟩;have d:JR H (.sl s k [])=some (k,[]):=H6 H s k [];rcases F with⟨rfl,rfl⟩|⟨E,o,L,rfl,A⟩
   .simp [EJ,q,j,TC,d,bump]
   .have B:JR H (.own o 0 xs.length)=some (k,xs.map f):=by rw[KH A BA,zI,jK BA]
    simp [EJ,q,j,TC,B,d,bump]
 | cons y ys =>
   have K:(y::ys).map f≠[]:=BA;rcases F with⟨rfl,rfl⟩|⟨E,o,L,rfl,A⟩
   .refine⟨_,_,WS q j N a (H6 H s k ((y::ys).map f)) K (JF (by simp at M|-;omega) hbs),.inr ⟨BA,H.length,g.le,BA,BA⟩,fun b x a _=>JM a,g.app _,BA,fun b a=>.inr a.symm⟩
   .have B:JR H (.own o 0 xs.length)=some (k,xs.map f):=by rw[KH A BA,zI,jK BA]
    refine⟨_,_,VG q j N a B (H6 H s k ((y::ys).map f)) K (JF (by simp at M|-;omega) hbs),.inr ⟨BA,H.length,g.le,BA,BA⟩,fun b x a O=>?_,(g.set L _).app _,BA,fun b a=>.inr a.symm⟩;have C:¬o=b:=O;refine JM ?_;rw[List.getElem?_set,if_neg C];exact a
def KY:List Bin->List cp
 | []=>[]
 | b::r=>(if b.kind≠0 then b.ranges.l else [])++KY r
theorem yU {l:List Bin}(hk:k<l.length):KY (l.take (k+1))=KY (l.take k)++(if l[k].kind≠0 then l[k].ranges.l else []):=by
 induction l generalizing k with
 | nil=>simp at hk
 | cons b r a =>
   cases k with
   | zero=>simp [KY]
   | succ k =>
     have:=a (k:=k) (BQ hk);simp only[List.take_succ_cons,List.getElem_cons_succ];show _++KY (r.take (k+1))=(_++KY (r.take k))++_;rw[this,List.append_assoc]
theorem F_ {l:List Bin}(k:Nat):(KY (l.take k)).length<=(KY l).length:=by
 induction l generalizing k with
 | nil=>simp
 | cons b r a =>
   cases k with
   | zero=>simp [KY]
   | succ k =>
     have:=a k;show(_++KY (r.take k)).length<=(_++KY r).length;rw[jX,jX];omega
theorem Bi:jd encR:=fun _ _ _ _=>⟨rfl,rfl⟩
theorem vi {x:Bin}(a:H[b]?=some (qH 4 [JD x])):BR jA H 84 (.ptr b 0 2)=some (.sl x.ranges.m 2 (x.ranges.l.map encR)):=by
 rw[BJ TP a (row:=JD x) rfl,dF]
theorem Oh {x:Bin}(a:H[b]?=some (qH 4 [JD x])):BR jA H 3 (.ptr b 0 1)=some (.n x.kind):=by
 rw[BJ ct a (row:=JD x) rfl,SV]
theorem tz (h:Hp)(p:Pt):OU h (.agg (GL p))=some (.ptr h.length 0 0,h++[qH 6 [GL p]]):=by
 rw[cG (kM p),JH]
section
variable (G:Nat->AV)
theorem AV8 (p:Pt)(S:p.bins.length<=1048576)(R:(KY p.bins).length<=1048576)(h:Hp):a_ (En G) 169 [.agg (GL p)] h (.sl (Cov.nm (KY p.bins)) 2 ((KY p.bins).map encR)):=by
 refine JL Bi ?_;refine cn Tryz.func169 2 ?_;have J:=A8 h (qH 6 [GL p]);have E:=Sm.ext.r1 h (qH 6 [GL p]);refine A7 @tz ?_
 generalize h++[qH 6 [GL p]]=H0 at J E|-
 refine A7 (qo J) ?_
 refine BB (fun n F H=>∃k u,n+k=p.bins.length/\F 3=u/\F 7=.sl p.bm 4 (p.bins.map JD)/\F 8=.n (p.bins.length:Nat)/\F 9=.n (k:Nat)/\ext H0 H/\bw 2 encR H0 (KY (p.bins.take k)) u H) p.bins.length
  ⟨0,.sl .nil 0 [],BA,AL,AL,AL,AL,ext.rfl' _,bw.nil _ _ _ _⟩ ?_
 rintro n F H ⟨k,u,hk,I,M,N,j,K,C⟩;refine AZ N j ?_;refine DV ?_ ?_<;>intro e
 .have a:=yU e
  have A:=F_ (l:=p.bins) (k+1);have q:=A8 H (qH 4 [JD p.bins[k]]);have d:=K.app [qH 4 [JD p.bins[k]]];have c:=C.app [qH 4 [JD p.bins[k]]];simp only[vQ,CP,↓reduceIte,jC,b_,XB,UX,jQ,M,j,CE e,DL nD dK MP e,e9,gg _ _ [.str ⟨#[]⟩,.n 0,.sl .nil 0 [],.sl .nil 0 []] rfl]
  generalize H++[qH 4 [JD p.bins[k]]]=H1 at q d c|-
  simp only[vQ,CP,↓reduceIte,b_,Oh q,bne];cases L:(p.bins[k].kind==0)
  .have f:p.bins[k].kind≠0:=BQ L
   rw[if_pos f] at a;rw[a,jX] at A;obtain⟨P,Q,O,g,_,B,_,_⟩:=MX p.bins[k].ranges.m c WY KO mq m8 U (ys:=p.bins[k].ranges.l) U d;rw[<-a] at g;refine G7 I (vi q) O j (CZ k) ?_;exact⟨n-1,U,k+1,P,U,AO,AO,AO,AO,B,g⟩
  .have f:¬p.bins[k].kind≠0:=BQ L
   rw[if_neg f,jL] at a;rw[<-a] at c;refine AZ j (CZ k) ?_;exact⟨n-1,U,k+1,u,U,AO,AO,AO,AO,d,c⟩
 .rw[jK U] at C
  refine A7 I ?_;exact⟨E.trans K,C.base E.le⟩
theorem K5 (p:Pt)(P:p.bins.length<=1048576)(O:(KY p.bins).length<=1048576)(h:Hp):a_ (En G) 269 [.agg (GL p)] h (.sl (Cov.nm (KY p.bins)) 2 ((KY p.bins).map encR)):=by
 refine JL Bi ?_;refine cn Tryz.func269 2 ?_;have J:=A8 h (qH 6 [GL p]);have E:=Sm.ext.r1 h (qH 6 [GL p]);refine A7 @tz ?_
 generalize h++[qH 6 [GL p]]=H0 at J E|-
 refine BB (fun n F H=>∃k u,n+k=p.bins.length/\F 1=.ptr h.length 0 0/\F 3=u/\F 4=.n (k:Nat)/\ext H0 H/\bw 2 encR H0 (KY (p.bins.take k)) u H) p.bins.length
  ⟨0,.sl .nil 0 [],BA,AL,AL,AL,ext.rfl' _,bw.nil _ _ _ _⟩ ?_
 rintro n F H ⟨k,u,hk,A,I,j,q,f⟩;have d:=DZ q J;refine DC A j (qo d) ?_;refine DV ?_ ?_<;>intro c
 .have a:=yU c
  have B:=F_ (l:=p.bins) (k+1);simp only[vQ,CP,↓reduceIte,jC,b_,XB,JW,UX,A,j,qo d,CE c,BK ct c,SV,bne];cases K:(p.bins[k].kind==0)
  .have e:p.bins[k].kind≠0:=BQ K
   rw[if_pos e] at a;rw[a,jX] at B;obtain⟨M,N,L,g,_,C,_,_⟩:=MX p.bins[k].ranges.m f WY KO mq m8 U (ys:=p.bins[k].ranges.l) U q;rw[<-a] at g;refine N7 A I j (qo d) c @dF L (CZ k) ?_;exact⟨n-1,U,k+1,M,U,AO,AO,AO,C,g⟩
  .have e:¬p.bins[k].kind≠0:=BQ K
   rw[if_neg e,jL] at a;rw[<-a] at f;refine AZ j (CZ k) ?_;exact⟨n-1,U,k+1,u,U,AO,AO,AO,q,f⟩
 .rw[jK U] at f
  refine A7 I ?_;exact⟨E.trans q,f.base E.le⟩
end
def cE (n:Int):Ex:=.mk 1 n ⟨#[]⟩ .nil []
def SL (op n:Int):List AV:=[.n op,.n n,.str ⟨#[]⟩,.sl .nil 0 []]
theorem tK (n:Int):IY jA 79 [(0,.n 1),(1,.n n)]=some (.agg (SL 1 n)):=BC
theorem nZ (n:Int):cf (SL 1 n) (AQ (cE n)):=by
 rw[FP];exact cf.cons rfl (Cv.refl _) (cf.cons rfl (Cv.refl _) (cf.cons rfl (Cv.refl _) (cf.cons rfl (Cv.nil 0 4) cf.nil)))
def cg:Ex->Ex
 | .mk d n c _ a=>.mk d n c (match a with|[]=>.nil|_=>.any) (cpEs a)
 where cpEs:List Ex->List Ex
 | []=>[]
 | e::es=>cg e::cpEs es
theorem FA:∀l:List Ex,cg.cpEs l=l.map cg
 | []=>rfl
 | e::es=>by show cg e::cg.cpEs es=_;rw[FA es];rfl
theorem TN (e:Ex):cg e=.mk e.op e.n e.name (Cov.nm (e.args.map cg)) (e.args.map cg):=by
 cases e with
 | mk op n a m args =>
   show Ex.mk op n a _ (cg.cpEs args)=Ex.mk op n a _ (args.map cg);rw[FA];cases args<;>rfl
theorem fr:jd AQ:=fun n h d x=>by
 rw[FP];exact⟨rfl,rfl⟩
def pt (e:Ex):List AV:=[.n e.op,.n e.n,.str e.name,gn 4 AQ (e.args.map cg)]
theorem Jm (e:Ex):cz (.agg (pt e)) (.agg (AQ (cg e))):=by
 rw[FP,TN];exact cz.agg (cq.cons (cz.refl _) (cq.cons (cz.refl _) (cq.cons (cz.refl _) (cq.cons XC cq.nil))))
theorem XX (n:Int):cz (.agg (SL 1 n)) (.agg (AQ (cE n))):=by
 rw[FP];exact cz.agg (cq.cons (cz.refl _) (cq.cons (cz.refl _) (cq.cons (cz.refl _) (cq.cons (cz.sl (Cv.nil 0 4)) cq.nil))))
theorem O4 {row cs:List AV}(d:H[b]?=some (qH 4 [row]))(c:row.length=4)(a:cs.length=4)(e:cs.all AV.leaf=true):D7 jA H 79 (.ptr b 0 0) (.agg cs)=some (H.set b (qH 4 [cs])):=by
 rw[JV (cs:=cs) (SC e) (by rw[a];exact G9) d (by rw[c,a];exact jF 4)];have:splice row 0 cs=cs:=by unfold splice;rw[qA,List.drop_eq_nil_of_le (by rw[c,a];exact jF 4)];simp
 rw[this]
theorem HY {h:Hp}{row:List AV}(c:h[b]?=some (qH 4 [row]))(a:row.length=4):BR jA h 79 (.ptr b 0 0)=some (.agg row):=by
 rw[EK NU G9 c rfl (by rw[a];exact jF 4),zI,<-a,List.take_length]
theorem aB (n:Int)(h:Hp):a_ (En G) 247 [.n n] h (.agg (AQ (cE n))):=by
 refine a_.res ?_ (XX n);refine RN 3 (fun n H=>rfl) ?_;refine e7 Tryz.func247 [.cell 2 79] ?_;have a:=A8 h (qH 4 [[.n 0,.n 0,.str ⟨#[]⟩,.sl .nil 0 []]]);have c:=Sm.ext.r1 h (qH 4 [[.n 0,.n 0,.str ⟨#[]⟩,.sl .nil 0 []]]);refine A7 OH ?_
 generalize h++[qH 4 [[.n 0,.n 0,.str ⟨#[]⟩,.sl .nil 0 []]]]=H at a c|-
 refine AZ @tK (O4 (cs:=SL 1 n) a rfl rfl rfl) ?_;rw[IU (b:=h.length) AL (HY (CO a) rfl)];exact⟨rfl,c.set (jF _) _⟩
theorem TH:∀(w:Nat) (e:Ex) (h:Hp),wt e<=w->wt e<=1048576->a_ (En G) 246 [.agg (AQ e)] h (.agg (AQ (cg e))):=by
 intro w
 induction w with
 | zero=>intro e h h1 _;have:=OI e;omega
 | succ w ih =>
   intro e h h1 h2;have a0:=YB e.args;have a2:=OI e;refine a_.res (r:=.agg (pt e)) ?_ (Jm e);refine ACalls.pure (R:=fun v H=>ext h H/\FK h.length H 4 v=.agg (pt e)) 4 ?_ (fun v H ⟨a,b⟩=>⟨a,b⟩);refine e7 Tryz.func246 [.cell 2 79] ?_;have O:=AU (x:=qH 4 [[.n 0,.n 0,.str ⟨#[]⟩,.sl .nil 0 []]]) (A8 h (qH 4 [AQ e]));have K:=A8 (h++[qH 4 [AQ e]]) (qH 4 [[.n 0,.n 0,.str ⟨#[]⟩,.sl .nil 0 []]]);have Y:ext h (h++[qH 4 [AQ e]]++[qH 4 [[.n 0,.n 0,.str ⟨#[]⟩,.sl .nil 0 []]]]):=((ext.rfl' h).app _).app _;have Q:h.length<(h++[qH 4 [AQ e]]).length:=BA;refine AZ @fa OH ?_
   generalize h++[qH 4 [AQ e]]++[qH 4 [[.n 0,.n 0,.str ⟨#[]⟩,.sl .nil 0 []]]]=H0 at O K Y|-
   generalize (h++[qH 4 [AQ e]]).length=b2 at K Q|-
   have l2:=AY K;refine A7 (Rk.tp O) ?_
   refine BB (fun n F H=>∃k u,n+k=e.args.length/\F 1=.ptr h.length 0 0/\F 2=.ptr b2 0 0/\F 3=u/\F 7=.sl e.m 4 (e.args.map AQ)/\F 8=.n (e.args.length:Nat)/\F 9=.n (k:Nat)/\ext H0 H/\bw 4 AQ H0 ((e.args.take k).map cg) u H) e.args.length
    ⟨0,.sl .nil 0 [],BA,AL,AL,AL,AL,AL,AL,ext.rfl' _,bw.nil _ _ _ _⟩ ?_
   rintro n F H ⟨k,u,hk,Z,L,f3,f7,f8,M,j,B⟩;refine AZ f8 M ?_;refine DV ?_ ?_<;>intro d
   .have a1:=Rk.mc d
    have q:=j.app [qH 4 [AQ e.args[k]]];have C:=B.app [qH 4 [AQ e.args[k]]];have gT:=ka H e.args[k];simp only[vQ,CP,List.map_cons,List.map_nil,↓reduceIte,jC,b_,P5,jQ,f7,M,CE d,DL NU G9 EF d,OH,iN _ _ [.n 0,.n 0,.str ⟨#[]⟩,.sl .nil 0 []] rfl,gT]
    generalize H++[qH 4 [AQ e.args[k]]]=H1 at q C|-
    refine(ih e.args[k] H1 U U).use ?_
    have hbs:DR jA false H1 23 1 [(0,.agg (AQ (cg e.args[k])))]=some (.sl .full 4 [AQ (cg e.args[k])],H1):=by
     rw[FP];exact(BC:DR jA false H1 23 1 [(0,.agg [.n (cg e.args[k]).op,.n (cg e.args[k]).n,.str (cg e.args[k]).name,.sl (cg e.args[k]).m 4 ((cg e.args[k]).args.map AQ)])]=_)
    obtain⟨v',H2,ha,E,_,S,_,_⟩:=C.append NV G9 QF QD U NI q (cg e.args[k]);have e3:(e.args.take k).map cg++[cg e.args[k]]=(e.args.take (k+1)).map cg:=by rw[jW d,List.map_append];rfl
    rw[e3] at E;refine G7 f3 hbs ha M (CZ k) ?_;exact⟨n-1,U,k+1,v',U,AO,AO,AO,AO,AO,AO,S,E⟩
   .rw[jK U] at B
    have c:=DZ j O;have N:=DZ j K;have hle:=j.le;have T:=B.leaf;have P:h.length<H0.length:=U
    have X:D7 jA H 23 (.ptr h.length 0 3) u=some (H.set h.length (qH 4 [[.n e.op,.n e.n,.str e.name,u]])):=by
     rw[FP] at c;rcases B with⟨_,rfl⟩|⟨_,o,_,rfl,_⟩
     .rw[JV (cs:=[.sl .nil 0 []]) rfl (BC:da jA 23=some 1) c BA];rfl
     .rw[JV (cs:=[.own o 0 _]) rfl (BC:da jA 23=some 1) c BA];rfl
    have g:(H.set h.length (qH 4 [[.n e.op,.n e.n,.str e.name,u]]))[h.length]?=some (qH 4 [[.n e.op,.n e.n,.str e.name,u]]):=CO c;have f:(H.set h.length (qH 4 [[.n e.op,.n e.n,.str e.name,u]]))[b2]?=_:=DU N U;have I:bw 4 AQ H0 (e.args.map cg) u (H.set h.length (qH 4 [[.n e.op,.n e.n,.str e.name,u]])):=B.setB P _;have J:ext h (H.set h.length (qH 4 [[.n e.op,.n e.n,.str e.name,u]])):=(Y.trans j).set (jF _) _;refine EH Z L f3 X ?_
    generalize H.set h.length (qH 4 [[.n e.op,.n e.n,.str e.name,u]])=H3 at g f I J|-
    have A:([.n e.op,.n e.n,.str e.name,u]:List AV).all AV.leaf=true:=by simp [T];exact⟨rfl,rfl,rfl⟩
    refine EH Z L (HY g rfl) (O4 f rfl rfl A) ?_;rw[IU (b:=b2) (DY L) (HY (CO f) rfl)];refine⟨J.set U _,?_⟩;have V:=I.setB (b:=b2) l2 (qH 4 [[.n e.op,.n e.n,.str e.name,u]]);have hz:=KC fr V h.length 1 (by have:=Y.le;omega);show AV.agg [.n e.op,.n e.n,.str e.name,FK h.length _ 3 u]=.agg (pt e);rw[hz];rfl
abbrev It:=Sum Ex Int
def vc:It->List AV
 | .inl e=>AQ e
 | .inr n=>SL 1 n
def wi:It->Ex
 | .inl e=>e
 | .inr n=>cE n
theorem ATZ:∀x:It,cf (vc x) (AQ (wi x))
 | .inl e=>by
   show cf (AQ e) (AQ e);rw[FP];exact cf.cons rfl (Cv.refl _) (cf.cons rfl (Cv.refl _) (cf.cons rfl (Cv.refl _) (cf.cons rfl (Cv.refl _) cf.nil)))
 | .inr n=>nZ n
theorem NB:jd vc:=fun n h d x=>by
 cases x with
 | inl e=>exact fr n h d e
 | inr k=>exact⟨rfl,rfl⟩
def n8 (l:List cp):List It:=l.flatMap fun r=>[.inr r.lo,.inr r.hi]
def dA (e:Ex)(l:List cp):List It:=.inl e::n8 l
def I7 (e:Ex)(l:List cp):Ex:=.mk 23 0 ⟨#[]⟩ .any ((dA e l).map wi)
def g_ (e:Ex)(l:List cp):List AV:=[.n 23,.n 0,.str ⟨#[]⟩,.sl .any 4 ((dA e l).map vc)]
theorem AY2 (e:Ex)(l:List cp):cz (.agg (g_ e l)) (.agg (AQ (I7 e l))):=by
 rw[FP];show cz _ (.agg [.n 23,.n 0,.str ⟨#[]⟩,.sl .any 4 (((dA e l).map wi).map AQ)]);rw[List.map_map];exact cz.agg (cq.cons (cz.refl _) (cq.cons (cz.refl _) (cq.cons (cz.refl _) (cq.cons (cz.sl (Cv.map fun x _=>ATZ x)) cq.nil))))
theorem Yg {l:List cp}(hk:k<l.length):n8 (l.take (k+1))=n8 (l.take k)++[.inr l[k].lo,.inr l[k].hi]:=by
 unfold n8;rw[jW hk,List.flatMap_append];rfl
theorem xR (a:cp)(l:List cp):n8 (a::l)=.inr a.lo :: .inr a.hi::n8 l:=rfl
theorem Ff:∀l:List cp,(n8 l).length=2*l.length
 | []=>rfl
 | a::l=>by
   rw[xR,zF,zF,Ff l,zF];omega
theorem KM (h:Hp)(a b:Int)(s:ByteArray)(m:SM)(xs:List (List AV)):DR jA true h 23 1 [(0,.agg [.n a,.n b,.str s,.sl m 4 xs])]=some (.own h.length 0 1,h++[qH 4 [[.n a,.n b,.str s,.sl m 4 xs]]]):=BC
theorem Cp (h:Hp)(e:Ex):DR jA true h 23 1 [(0,.agg (AQ e))]=some (.own h.length 0 1,h++[qH 4 [AQ e]]):=by
 rw[FP];exact KM h _ _ _ _ _
theorem KS (h:Hp)(a b:Int):DR jA false h 23 2 [(0,.agg (SL 1 a)),(1,.agg (SL 1 b))]=some (.sl .full 4 [SL 1 a,SL 1 b],h):=BC
theorem AJ (o n:Nat):IY jA 79 [(0,.n 23),(3,.own o 0 n)]=some (.agg [.n 23,.n 0,.str ⟨#[]⟩,.own o 0 n]):=BC
structure Iw (h0 h H:Hp) (e:Ex) (l:List cp) (b4 cb:Nat) (v:AV):Prop where
 ge:H[h0.length]?=some (qH 4 [AQ e])
 g4:H[b4]?=some (qH 4 [[.n 0,.n 0,.str ⟨#[]⟩,.sl .nil 0 []]])
 gc:H[cb]?=some (qH 4 [[.n 23,.n 0,.str ⟨#[]⟩,v]])
 ho:bw 4 vc h (dA e l) v H
 hx:ext h H
 ne:∀b,db v b->b≠cb
theorem Qy {cb:Nat}{v:AV}(a:H[cb]?=some (qH 4 [[.n 23,.n 0,.str ⟨#[]⟩,v]])):BR jA H 23 (.ptr cb 0 3)=some v:=by
 rw[BJ MQ a (row:=[.n 23,.n 0,.str ⟨#[]⟩,v]) rfl];rfl
theorem lT (e:Ex)(l:List cp)(s:SM)(hl:l.length<=1048576)(h:Hp):a_ (En G) 309 [.agg (AQ e),.sl s 2 (l.map encR)] h (.agg (AQ (I7 e l))):=by
 refine a_.res (r:=.agg (g_ e l)) ?_ (AY2 e l);refine ACalls.pure (R:=fun v H=>ext h H/\FK h.length H 4 v=.agg (g_ e l)) 4 ?_ (fun v H ⟨a,b⟩=>⟨a,b⟩);refine II (H:=hint [8,31] []) (ji G) Tryz.func309 rfl (by kernel_rfl) (by kernel_rfl) (jB (by kernel_rfl)) ?_;show dh _ _ _ _ _ (MW _ [.cell 4 79] _);have S:=AU (x:=qH 4 [[.n 0,.n 0,.str ⟨#[]⟩,.sl .nil 0 []]]) (A8 h (qH 4 [AQ e]));have P:=A8 (h++[qH 4 [AQ e]]) (qH 4 [[.n 0,.n 0,.str ⟨#[]⟩,.sl .nil 0 []]]);have hx:ext h (h++[qH 4 [AQ e]]++[qH 4 [[.n 0,.n 0,.str ⟨#[]⟩,.sl .nil 0 []]]]):=((ext.rfl' h).app _).app _;have X:h.length<(h++[qH 4 [AQ e]]).length:=BA;refine AZ @fa OH ?_
 generalize h++[qH 4 [AQ e]]++[qH 4 [[.n 0,.n 0,.str ⟨#[]⟩,.sl .nil 0 []]]]=H0 at S P hx|-
 generalize (h++[qH 4 [AQ e]]).length=b4 at P X|-
 have l4:=AY P;have hle:=hx.le;have a3:BR jA H0 79 (.ptr h.length 0 0)=some (.agg (AQ e)):=HY S (EF e);have E:(H0++[qH 4 [AQ e]]++[qH 4 [[.n 0,.n 0,.str ⟨#[]⟩,.sl .nil 0 []]]])[(H0++[qH 4 [AQ e]]).length]?=some (qH 4 [[.n 0,.n 0,.str ⟨#[]⟩,.sl .nil 0 []]]):=A8 _ _;have a4:=O4 (cs:=[.n 23,.n 0,.str ⟨#[]⟩,.own H0.length 0 1]) E rfl rfl rfl
 have C:Iw h H0 ((H0++[qH 4 [AQ e]]++[qH 4 [[.n 0,.n 0,.str ⟨#[]⟩,.sl .nil 0 []]]]).set (H0++[qH 4 [AQ e]]).length (qH 4 [[.n 23,.n 0,.str ⟨#[]⟩,.own H0.length 0 1]])) e (l.take 0) b4 (H0++[qH 4 [AQ e]]).length (.own H0.length 0 1) :=
  ⟨DU (AU (AU S)) NI,DU (AU (AU P)) NI,CO E,
   .inr ⟨by rw[qA];exact List.cons_ne_nil _ _,H0.length,jF _,rfl,DU (AU (A8 _ _)) BA⟩,
   (((ext.rfl' H0).app _).app _).set BA _,fun b j=>by cases j;simp⟩
 refine G7 a3 @Cp @AJ OH a4 ?_
 generalize ((H0++[qH 4 [AQ e]]++[qH 4 [[.n 0,.n 0,.str ⟨#[]⟩,.sl .nil 0 []]]]).set (H0++[qH 4 [AQ e]]).length (qH 4 [[.n 23,.n 0,.str ⟨#[]⟩,.own H0.length 0 1]]))=H1 at C|-
 have Y:H0.length<(H0++[qH 4 [AQ e]]).length:=BA
 generalize (H0++[qH 4 [AQ e]]).length=g at C Y|-
 generalize AV.own H0.length 0 1=v0 at C
 refine BB (fun n F H=>∃k v,n+k=l.length/\F 1=.sl s 2 (l.map encR)/\F 4=.ptr b4 0 0/\F 5=.ptr g 0 0/\F 6=.n (k:Nat)/\Iw h H0 H e (l.take k) b4 g v) l.length
  ⟨0,v0,BA,AL,AL,AL,AL,C⟩ ?_
 clear C;rintro n F H ⟨k,v,hk,f1,f4,f5,f6,I⟩;refine AZ f1 f6 ?_;refine DV ?_ ?_<;>intro A
 .have K:(dA e (l.take k)).length+2<=8388608:=by
   unfold dA;rw[zF,Ff,List.length_take];omega
  obtain⟨B,O,ha,d,c,Z,a5,a2⟩:=MX .full I.ho NV G9 QF QD U (ys:=[.inr l[k].lo,.inr l[k].hi]) K I.hx;have V:EJ jA true H 23 23 v (.sl .full 4 [SL 1 l[k].lo,SL 1 l[k].hi])=some (B,O):=ha
  have hits:dA e (l.take k)++[.inr l[k].lo,.inr l[k].hi]=dA e (l.take (k+1)):=by
   unfold dA;rw[Yg A];rfl
  rw[hits] at d;have a6:=AY I.gc;have J:=c _ _ I.gc (fun q=>I.ne _ q rfl);have N:∀b,db v b->H0.length<=b:=fun b j=>(I.ho.lt j).1
  have T:=c _ _ I.ge (fun q=>by have:=N _ q;omega);have Q:=c _ _ I.g4 (fun q=>by have:=N _ q;omega);have L:=d.leaf
  have a1:D7 jA O 23 (.ptr g 0 3) B=some (O.set g (qH 4 [[.n 23,.n 0,.str ⟨#[]⟩,B]])):=by
   rcases d with⟨e1,_⟩|⟨_,o,_,rfl,_⟩
   .exact absurd e1 (List.cons_ne_nil _ _)
   .rw[JV (cs:=[.own o 0 _]) rfl (BC:da jA 23=some 1) J BA];rfl
  have f:∀b,db B b->b≠g:=fun b j=>by
   rcases a2 b j with q|q
   .exact I.ne b q
   .omega
  have I2:Iw h H0 (O.set g (qH 4 [[.n 23,.n 0,.str ⟨#[]⟩,B]])) e (l.take (k+1)) b4 g B :=
   ⟨DU T U,DU Q U,CO J,d.keep (fun b j=>by rw[List.getElem?_set_ne (fun q=>f b j q.symm)]),Z.set U _,f⟩
  refine AB ?_;refine DI BC ?_;simp only[vQ,List.contains_cons,List.contains_nil,Nat.reduceBEq,Bool.or_false,Bool.or_true,O8,X8,JK,PU,CP,OA,↓reduceIte,jC,Nat.reduceAdd,Nat.add_zero,b_,UY,V5,QQ,QP,jQ,f1,f5,f6,Qy I.gc,CE A,BK ct A,VV,UL,tK,KS,V,a1,CZ k];exact⟨n-1,U,k+1,B,U,AO,AO,AO,AO,I2⟩
 .rw[jK U] at I
  have L:=I.ho.leaf;have M:([.n 23,.n 0,.str ⟨#[]⟩,v]:List AV).all AV.leaf=true:=by simp [L];exact⟨rfl,rfl,rfl⟩
  refine EH f4 f5 (HY I.gc rfl) (O4 I.g4 rfl rfl M) ?_;rw[IU (b:=b4) (DY f4) (HY (CO I.g4) rfl)];refine⟨(hx.trans I.hx).set U _,?_⟩;have a0:=I.ho.setB (b:=b4) l4 (qH 4 [[.n 23,.n 0,.str ⟨#[]⟩,v]]);have hz:=KC NB a0 h.length 1 U;show AV.agg [.n 23,.n 0,.str ⟨#[]⟩,FK h.length _ 3 v]=.agg (g_ e l);rw[hz];rfl
end Ho
namespace Bins
open Sm
variable {ys:List cp} {h:Hp} (G:Nat->AV )
def full (r:cp):Bool:=decide (r.lo<=r.hi)
def glue (t r:cp):Bool:=decide (r.lo<=t.hi)||decide (IntKind.i64.wrap (r.lo-1)=t.hi)
def join (out:List cp)(r:cp):List cp:=match out.getLast? with
 | some t=>if glue t r then out.dropLast++[⟨t.lo,max t.hi r.hi⟩] else out++[r]
 | none=>out++[r]
def bU (xs:List cp):List cp:=xs.foldl join []
def kT (a b:cp):Bool:=decide (a.lo<=b.lo)
def normal (xs:List cp):List cp:=bU ((xs.filter full).mergeSort kT)
theorem Yf {out:List cp}{a b:cp}(h:a.lo=b.lo)(A:full a=true)(B:full b=true):join (join out a) b=join (join out b) a:=by
 simp only[full,decide_eq_true_eq] at A B
 have key:∀(c:List cp) (t r s:cp),glue t s=true->(join (c++[t]) s)=c++[⟨t.lo,max t.hi s.hi⟩]:=by
  intro c t r s f;simp [join,f]
 cases q:out.getLast? with
 | none =>
   have:out=[]:=BQ q;subst this;have g:join [] a=[]++[a]:=rfl;have j:join [] b=[]++[b]:=rfl;rw[g,j,key [] a a b (by simp [glue];omega),key [] b b a (by simp [glue];omega)];simp [h,Int.max_comm]
 | some t =>
   obtain⟨c,rfl⟩:∃c,out=c++[t]:=by
    have:=List.getLast?_eq_some_iff.1 q;exact this
   have f:glue t a=glue t b:=by unfold glue;rw[h]
   cases e:glue t a with
   | true =>
     have d:glue t b=true:=by rw[<-f];exact e
     rw[key c t a a e,key c t b b d,key c _ a b (by simp [glue];omega),key c _ b a (by simp [glue];omega)];simp only[Int.max_assoc,Int.max_comm a.hi b.hi]
   | false =>
     have d:glue t b=false:=by rw[<-f];exact e
     have g:join (c++[t]) a=(c++[t])++[a]:=by simp [join,e]
     have j:join (c++[t]) b=(c++[t])++[b]:=by simp [join,d]
     rw[g,j,key (c++[t]) a a b (by simp [glue];omega),key (c++[t]) b b a (by simp [glue];omega)];simp [h,Int.max_comm]
theorem CL {a:cp}(d:full a=true):∀(pre:List cp) (c out:List cp),(∀x∈pre,x.lo=a.lo/\full x=true)->(pre++a::c).foldl join out=(a::(pre++c)).foldl join out
 | [],c,out,_=>rfl
 | p::pre,c,out,h=>by
   have e:=h p BA;have f:=CL d pre c (join out p) (fun x g=>h x (by simp [g]))
   simp only[zG,qU] at f|-
   rw[f,Yf e.1 e.2 d]
theorem xO:∀(xs ys:List cp) (out:List cp),xs.Perm ys->xs.Pairwise (fun a b=>a.lo<=b.lo)->ys.Pairwise (fun a b=>a.lo<=b.lo)->(∀x∈xs,full x=true)->xs.foldl join out=ys.foldl join out
 | [],ys,out,f,_,_,_=>by rw[List.nil_perm.1 f]
 | a::xs,ys,out,f,C,E,q=>by
   have e:a∈ys:=f.subset BA;obtain⟨pre,c,rfl⟩:=List.append_of_mem e
   have g:∀x∈pre,x.lo=a.lo/\full x=true:=by
    intro x j;have B:x.lo<=a.lo:=(List.pairwise_append.1 E).2.2 x j a BA;have d:x∈a::xs:=f.symm.subset (by simp [j])
    have F:a.lo<=x.lo:=by
     rcases List.mem_cons.1 d with rfl|d
     .exact Int.le_refl _
     .exact(List.pairwise_cons.1 C).1 x d
    exact⟨U,q x d⟩
   rw[CL (q a BA) pre c out g];simp only[qU];have A:xs.Perm (pre++c):=(List.perm_cons a).1 (f.trans (List.perm_middle));refine xO xs (pre++c) _ A (List.pairwise_cons.1 C).2 ?_ (fun x h=>q x (by simp [h]));have:=List.pairwise_append.1 E;rw[List.pairwise_append];exact⟨this.1,(List.pairwise_cons.1 this.2.1).2,fun x B y d=>this.2.2 x B y (by simp [d])⟩
theorem xD {xs:List cp}(d:ys.Perm (xs.filter full))(e:ys.Pairwise (fun a b=>a.lo<=b.lo)):bU ys=normal xs:=by
 unfold normal bU;refine xO _ _ _ (d.trans (List.mergeSort_perm _ _).symm) e ?_ (fun x f=>by have:=d.subset f;simp at this;exact this.2);have:=List.pairwise_mergeSort (le:=kT) (fun a b c g j=>by simp [kT] at *;omega) (fun a b=>by simp [kT];omega) (xs.filter full);exact this.imp (by simp [kT])
theorem c8 {α:Type}{f:α->List AV}{xs:List α}{k:Nat}(h:k<xs.length):(xs.map f)[k]?=some (f xs[k]):=by simp [h]
theorem lM {row cs:List AV}(h:row.length=cs.length):splice row 0 cs=cs:=by simp [splice,h]
theorem uU (G:Nat->AV)(xs:List cp)(b:Nat)(e:FuncId)(a:List AV)(p:cp->Bool)(h:Hp)(J:xs.length<=1099511627776)(f:h[b]?=some (qH 2 (xs.map encR)))
  (E:∀r,a_ (En G) e (.agg (encR r)::a) h (.bool (p r))) :
  a_ (En G) 326 [.own b 0 xs.length,.fn (.func e) [] a] h (.n (match xs.findIdx? p with|some i=>(i:Int)|none => -1)):=by
 refine cn Tryz.func326 4 ?_;refine AB ?_;refine BB (fun n F H=>∃k,n+k=xs.length/\F 0=.own b 0 xs.length/\F 1=.fn (.func e) [] a/\F 7=.n xs.length/\F 8=.n (k:Nat)/\H=h/\(xs.take k).all (fun r => !p r)=true) xs.length ⟨0,BA,rfl,rfl,rfl,rfl,rfl,rfl⟩ ?_;rintro n F H ⟨k,hk,g,q,A,B,rfl,c⟩;refine EH g q A B ?_;refine DV ?_ ?_<;>intro d
 .have C:BR jA H 145 (.ptr b k 0)=some (.agg (encR xs[k])):=by
   rw[EK aX KO f (c8 d) (by simp [encR])];rfl
  simp only[vQ,CP,List.nil_append,zG,↓reduceIte,jC,b_,V5,g,q,A,B,GR f d,C];refine(E _).uu ?_;refine BL ?_ ?_<;>intro f
  .refine AB ?_
   refine⟨?_,trivial⟩
   rw[wV.2 ⟨d,f,fun j I=>by
    rw[zJ] at c;have:=c xs[j] (by rw[List.mem_take_iff_getElem];exact⟨j,U,rfl⟩)
    simpa using this⟩]
  .refine AZ B (CZ k) ?_
   refine⟨n-1,U,k+1,U,g,q,A,rfl,trivial,?_⟩;rw[jW d,List.all_append,c];simp only[List.all_cons,List.all_nil,f];rfl
 .refine AB ?_
  refine⟨?_,trivial⟩;rw[jK U] at c;rw[yA.2 (BQ c)]
theorem Ua (r:cp)(h:Hp):a_ (En G) 295 [.agg (encR r)] h (.bool (!full r)):=by
 refine ACalls.pure0 rfl ?_;refine cn Tryz.func295 2 ?_;refine MF @bxR @VV @UL ?_;refine⟨?_,_,rfl⟩;congr 1;unfold full;rw[Bool.eq_iff_iff];simp
theorem Wn (G:Nat->AV)(xs:List cp)(b:Nat)(d:FuncId)(p:cp->Bool)(Q h:Hp)(hl:xs.length<=1099511627776)(he:ext Q h)(C:Q.length<=b)(Y:h[b]?=some (qH 2 (xs.map encR)))
  (hf:∀r H,a_ (En G) d [.agg (encR r)] H (.bool (p r))) :
  ACalls (En G) 293 [.own b 0 xs.length,.fn (.func d) [] []] h fun v H=>v=.own b 0 (xs.filter fun r => !p r).length/\ext Q H/\∃O,H[b]?=some (qH 2 ((xs.filter fun r => !p r).map encR++O)):=by
 refine cn Tryz.func293 4 ?_;refine AB ?_;refine(uU G xs b d [] p h hl Y (fun r=>hf r h)).uu ?_
 cases hi:xs.findIdx? p with
 | none =>
   refine AB ?_;refine BL ?_ ?_<;>intro Z
   .refine AB ?_
    have:xs.filter (fun r => !p r)=xs:=by
     rw[yA] at hi;rw[List.filter_eq_self];intro x S;simp [hi x S]
    rw[this];exact⟨rfl,he,[],BQ Y⟩
   .simp at Z
 | some T =>
   refine AB ?_;obtain⟨a1,a2,a3⟩:=wV.1 hi;refine BL ?_ ?_<;>intro Z
   .simp at Z
   refine A7 (CZ T) ?_;refine BB (fun n F H=>∃i j a,n+j=xs.length/\i<j/\F 0=.own b 0 xs.length/\F 1=.fn (.func d) [] []/\F 5=.n (i:Nat)/\F 6=.n (j:Nat)/\ext Q H/\H[b]?=some (qH 2 (a.map encR))/\a.length=xs.length/\a.take i=(xs.take j).filter (fun r => !p r)/\a.drop j=xs.drop j) (xs.length-(T+1)) ⟨T,T+1,xs,U,U,AL,AL,AL,AL,he,Y,rfl,?_,rfl⟩ ?_
   .rw[jW a1,List.filter_append]
    simp [a2];refine(List.filter_eq_self.2 ?_).symm;intro x S;rw[List.mem_take_iff_getElem] at S;obtain⟨j,hj,rfl⟩:=S;have:=a3 j U;simpa using this
   rintro n F H ⟨i,j,a,hn,a8,B,V,X,P,hex,q,N,A,M⟩;refine AZ B P ?_;refine DV ?_ ?_<;>intro f
   .have E:j<a.length:=U
    have e0:a[j]=xs[j]:=by
     have h1:(a.drop j)[0]?=(xs.drop j)[0]? := by rw[M]
     rw[List.getElem?_drop,List.getElem?_drop,jR,jP E,jP f] at h1;exact Option.some.inj h1
    have e1:BR jA H 145 (.ptr b j 0)=some (.agg (encR xs[j])):=by
     rw[EK aX KO q (c8 E) (by simp [encR]),e0];rfl
    have ld:BR jA (H++[qH 2 [encR xs[j]]]) 145 (.ptr (qJ H) 0 0)=some (.agg (encR xs[j])):=bS aX KO (by simp [encR]);simp only[vQ,CP,List.append_nil,↓reduceIte,jC,b_,V5,jQ,B,V,P,GR q f,e1,pj,pc _ _ [.n 0,.n 0] rfl,ld];refine(hf _ _).uu ?_
    have L:(xs.take (j+1)).filter (fun r => !p r)=(xs.take j).filter (fun r => !p r)++(if p xs[j] then [] else [xs[j]]):=by
     rw[jW f,List.filter_append];cases R:p xs[j]<;>simp [R]
    have e:(H++[qH 2 [encR xs[j]]])[b]?=some (qH 2 (a.map encR)):=AU q
    have c:a.drop (j+1)=xs.drop (j+1):=by
     have:=congrArg (List.drop 1) M;simpa [Nat.add_comm] using this
    refine BL ?_ ?_<;>intro R
    .have g:p xs[j]=false:=BQ R
     have J:i<a.length:=U;have a4:i<xs.length:=U
     have st:D7 jA (H++[qH 2 [encR xs[j]]]) 145 (.ptr b i 0) (.agg (encR xs[j]))=some ((H++[qH 2 [encR xs[j]]]).set b (qH 2 ((a.set i xs[j]).map encR))):=by
      rw[IE (cs:=encR xs[j]) rfl KO e (c8 J) (by simp [encR]),lM (by simp [encR]),List.map_set]
     simp only[vQ,CP,↓reduceIte,jC,b_,V5,jQ,B,X,ld,GR e a4,st,CZ i,P,CZ j];refine⟨n-1,U,i+1,j+1,a.set i xs[j],U,U,trivial,V,rfl,rfl,(hex.app _).set C _,CO e,BQ N,?_,?_⟩
     .rw[L,g,<-A,jW (BQ J),List.take_set,List.set_eq_of_length_le NI]
      simp
     .rw[List.drop_set_of_lt U];exact c
    .have g:p xs[j]=true:=BQ R
     refine AZ P (CZ j) ?_;refine⟨n-1,U,i,j+1,a,U,U,B,V,X,rfl,hex.app _,e,N,?_,c⟩;rw[L,g,A];simp
   .have aa:j=xs.length:=U
    have I:(xs.filter fun r => !p r)=a.take i:=by
     rw[A,jK U]
    have a9:i<=a.length:=U;have K:(xs.filter fun r => !p r).length=i:=by rw[I];simp;omega
    have a5:IW jA H 84 (.own b 0 xs.length) (some (.n (i:Int))) none none=some (.own b i (xs.length-i)):=by
     have:=Eu WY KO (kk:=.i64) (off:=0) (len:=xs.length) (l:=i) q U;rw[jG] at this;exact this
    have a0:lG jA H 84 (.own b i (xs.length-i))=some (IK,H.set b (qH 2 (Sm.eg (a.map encR) i (zD (xs.length-i) [.n 0,.n 0])))):=by
     have a7:N9 jA 145=some [.n 0,.n 0]:=BC;simp only[lG,WY,a7,q];rw[if_pos];refine⟨rfl,?_⟩;simp;omega
    have a6:IW jA (H.set b (qH 2 (Sm.eg (a.map encR) i (zD (xs.length-i) [.n 0,.n 0])))) 84 (.own b 0 xs.length) none (some (.n (i:Int))) none=some (.own b 0 i):=Ij WY KO (CO q) U;refine LP @AW8 B X a5 a0 a6 ?_;refine⟨by rw[K],hex.set C _,?_⟩;rw[CO q,I];refine⟨zD (xs.length-i) [.n 0,.n 0]++(a.map encR).drop (i+(xs.length-i)),?_⟩;simp [Sm.eg,List.map_take]
theorem Ky (xs:List cp)(m:SM)(h:Hp)(e:xs.length<=16777216):
  ACalls (En G) 294 [.sl m 2 (xs.map encR)] h (MA 2 (xs.map encR) h):=by
 refine ACalls.of_rep (pq _ _ BC) fun⟨g,cargs,ha⟩=>?_
 refine cn Tryz.func294 2 ?_;refine A7 M_ ?_;refine BL ?_ ?_<;>intro d
 .have f:m=.nil:=BQ d
  subst f;refine A7 @decide_true ?_;exact .inl ⟨Vl ha (i:=0) rfl,⟨_,rfl⟩,rfl⟩
 .refine A7 @Jr ?_
  rcases Classical.em (xs=[]) with a|a
  .subst a
   simp only[vQ,CP,↓reduceIte,Gb WY KO (.inr rfl)];exact .inr (.inl ⟨rfl,rfl,rfl⟩)
  .have j:room (([]:List (List AV)).length+(xs.map encR).length) 16:=JF (BQ e) U
   have c:xs.map encR≠[]:=BQ a;refine A7 (aU WY KO mq m8 (H6 h m 2 (xs.map encR)) c j) ?_;exact .inr (.inr ⟨BQ a,BA,BA⟩)
theorem rH (m:SM)(k:Nat)(d:AV)(h:Hp):a_ (En G) 326 [.sl m k [],d] h (.n (-1)):=by
 refine cn Tryz.func326 4 ?_;refine QA ?_;refine BB (fun n F H=>F 7=.n ((0:Nat):Int)/\F 8=.n 0/\H=h) 0 ⟨rfl,rfl,rfl⟩ ?_;rintro n F H ⟨a,c,rfl⟩;refine AZ a c ?_;refine BL ?_ ?_<;>intro e
 .simp at e
 .refine AB ?_
  exact H7
theorem mA (m:SM)(k:Nat)(a:AV)(h:Hp):a_ (En G) 293 [.sl m k [],a] h (.sl m k []):=by
 refine cn Tryz.func293 4 ?_;refine AB ?_;refine(rH G m k a h).uu ?_;refine BL ?_ ?_<;>intro c
 .refine AB ?_
  exact H7
 .simp at c
structure kg (G:Nat->AV):Prop where
 own:∀(xs:List cp) (b:Nat) (tail:List (List AV)) (h0 h:Hp),xs.length<=16777216->ext h0 h->h0.length<=b->h[b]?=some (qH 2 (xs.map encR++tail)) ->
  ACalls (En G) 296 [.own b 0 xs.length,.fn (.func 297) [] []] h fun _ H=>ext h0 H/\∃ys:List cp,ys.Perm xs/\ys.Pairwise (fun a b=>a.lo<=b.lo)/\H[b]?=some (qH 2 (ys.map encR++tail))
 none:∀(m:SM) (k:Nat) (h:Hp),a_ (En G) 296 [.sl m k [],.fn (.func 297) [] []] h (.tup [])
def nm (ys:List cp):SM:=if ys=[] then .nil else .any
def qj (h:Hp)(out:List cp)(b:Nat)(v:AV)(H:Hp):Prop :=
 (out=[]/\v=.sl .nil 0 [])\/(out≠[]/\∃o,h.length<=o/\o≠b/\v=.own o 0 out.length/\H[o]?=some (qH 2 (out.map encR)))
theorem uz (h:Hp)(r:cp):DR jA false h 84 1 [(0,.agg (encR r))]=some (.sl .full 2 [encR r],h):=BC
def iv (h:Hp)(ys:List cp)(b:Nat)(v:AV)(H:Hp):Prop :=
 (ys=[]/\∃m k,v=.sl m k [])\/(h.length<=b/\v=.own b 0 ys.length/\∃a,H[b]?=some (qH 2 (ys.map encR++a)))
theorem ATV (out:List cp)(r:cp):(join out r).length<=out.length+1:=by
 unfold join;split
 .split
  .simp
  .simp
 .simp
theorem bT:∀(xs out:List cp),(xs.foldl join out).length<=out.length+xs.length
 | [],out=>BA
 | x::xs,out=>by
   have a:=bT xs (join out x);have c:=ATV out x;simp only[qU,List.length_cons];omega
theorem iv.app {b:Nat}{v:AV}{H:Hp}(f:iv h ys b v H)(x:bO):iv h ys b v (H++[x]):=by
 rcases f with c|⟨c,d,a,e⟩
 .exact .inl c
 .exact .inr ⟨c,d,a,AU e⟩
theorem iv.set {h:Hp}{ys:List cp}{b o:Nat}{v:AV}{H:Hp}(g:iv h ys b v H)(x:bO)(f:o≠b):iv h ys b v (H.set o x):=by
 rcases g with c|⟨c,d,a,e⟩
 .exact .inl c
 .exact .inr ⟨c,d,a,DU e f.symm⟩
theorem RW (hS:kg G)(xs:List cp)(m:SM)(h:Hp)(hl:xs.length<=8388608):
  ACalls (En G) 245 [.sl m 2 (xs.map encR)] h fun v H=>ext h H/\∃b,qj h (normal xs) b v H:=by
 refine cn Tryz.func245 2 ?_;refine AB ?_;refine(Ky G xs m h U).mono fun vv H' a6=>?_
 have a7:(xs.filter full).length<=xs.length:=List.length_filter_le _ _;refine Xu (fun F H=>ext h H/\((xs.filter full=[]/\∃m k,F 3=.sl m k [])\/∃b,h.length<=b/\F 3=.own b 0 (xs.filter full).length/\∃d,H[b]?=some (qH 2 ((xs.filter full).map encR++d)))) ?_ ?_
 .rcases a6 with⟨hx,⟨k0,rfl⟩,rfl⟩|⟨hx,rfl,rfl⟩|⟨hx,rfl,rfl⟩
  .have R:xs=[]:=BQ hx
   refine AB ?_;refine(mA G _ _ _ _).uu ?_;exact⟨ext.rfl' _,.inl ⟨by rw[R];rfl,_,_,rfl⟩⟩
  .have R:xs=[]:=BQ hx
   refine AB ?_;refine(mA G _ _ _ _).uu ?_;exact⟨ext.rfl' _,.inl ⟨by rw[R];rfl,_,_,rfl⟩⟩
  .refine AB ?_
   refine(Wn G xs h.length 295 (fun r => !full r) h (h++[qH 2 (xs.map encR)]) U ⟨_,rfl⟩ (jF _) (A8 _ _) (fun r H=>Ua G r H)).mono ?_;rintro v H ⟨rfl,hex,d,E⟩;refine AB ?_;have e:(xs.filter fun r => !!full r)=xs.filter full:=BA
   rw[e] at E|-
   exact⟨hex,.inr ⟨h.length,jF _,rfl,d,E⟩⟩
 rintro F H ⟨hex,L⟩;rw[BU,BZ];refine oC (fun F H=>ext h H/\∃ys:List cp,ys.Perm (xs.filter full)/\ys.Pairwise (fun a b=>a.lo<=b.lo)/\∃b,iv h ys b (F 3) H) (fun _ _=>False) ?_ ?_ (fun _ _ hh=>hh.elim)
 .rcases L with⟨hz,m0,k0,X⟩|⟨b,hb,X,d,E⟩
  .refine A7 X ?_
   refine(hS.none m0 k0 H).uu ?_;exact⟨hex,[],by rw[hz],.nil,0,.inl ⟨rfl,m0,k0,X⟩⟩
  .refine A7 X ?_
   refine(hS.own (xs.filter full) b d h H U hex hb E).mono ?_;rintro v H' ⟨Y,ys,hp,hs,hy⟩;refine AB ?_;refine⟨Y,ys,hp,hs,b,.inr ⟨hb,?_,d,hy⟩⟩;rw[hp.length_eq];exact X
 rintro F H ⟨hex,ys,hp,hs,b,f⟩;have a9:ys.length<=8388608:=by rw[hp.length_eq];omega
 have hN:bU ys=normal xs:=xD hp hs;generalize a1:F 3=sv at f
 have Z:KI jA 84 sv=some (.n ys.length):=by
  rcases f with⟨rfl,m0,k0,rfl⟩|⟨_,rfl,_⟩
  .exact aE.1 _ _ _
  .exact aE.2 _ _ _
 refine AZ a1 @Z ?_;refine BB (fun n F H=>∃k,n+k=ys.length/\F 13=sv/\F 14=.n ys.length/\F 15=.n (k:Nat)/\ext h H/\iv h ys b sv H/\qj h ((ys.take k).foldl join []) b (F 4) H) ys.length ⟨0,BA,AL,AL,AL,hex,f,.inl ⟨rfl,AL⟩⟩ ?_;clear hex f a1;rintro n F H ⟨k,hk,f13,f14,f15,hex,f,g⟩;refine AZ f14 f15 ?_;refine DV ?_ ?_<;>intro B
 .have I:(ys.take (k+1)).foldl join []=join ((ys.take k).foldl join []) ys[k]:=by
   rw[jW B,List.foldl_append];rfl
  have K:((ys.take k).foldl join []).length<=8388608:=by
   have:=bT (ys.take k) [];simp at this;omega
  generalize (ys.take k).foldl join []=out at g I K;have A:=f;rcases f with⟨rfl,_⟩|⟨hb,rfl,d,E⟩
  .simp at B
  have e1:BR jA H 145 (.ptr b k 0)=some (.agg (encR ys[k])):=by
   rw[EK aX KO E (row:=encR ys[k]) (by rw[List.getElem?_append_left (by simpa using B)];exact c8 B) (by simp [encR])];rfl
  have a8:(H++[qH 2 [encR ys[k]]])[b]?=some (qH 2 (ys.map encR++d)):=AU E;have ld:BR jA (H++[qH 2 [encR ys[k]]]) 145 (.ptr (qJ H) 0 0)=some (.agg (encR ys[k])):=bS aX KO (by simp [encR]);rcases g with⟨rfl,C⟩|⟨a0,o,O,Q,C,ho⟩
  .have T:decide ((IntKind.i64.wrap (((0:Nat):Int)-1))≥0)=false:=by rw[wrap_i64 U U];simp
   simp only[vQ,CP,L9,↓reduceIte,jC,b_,V5,aE,jQ,f13,f15,GR E B,e1,pj,pc _ _ [.n 0,.n 0] rfl,C,List.length_nil];refine DI BC ?_;have h1:([encR ys[k]]:List (List AV))≠[]:=BA;simp only[vQ,JA,KW,qd,te,RD,EM,CP,GV,↓reduceIte,jC,jO,b_,T,ld,C,uz,WS WY KO mq m8 (H6 (H++[qH 2 [encR ys[k]]]) .full 2 [encR ys[k]]) h1 (JF BA U),f15,CZ k];refine⟨n-1,U,k+1,U,f13,f14,rfl,(hex.app _).app _,(A.app _).app _,?_⟩;rw[I];have a4:=AY E;exact .inr ⟨by simp [join],_,by simp;have:=hex.le;omega,by simp;omega,rfl,by simp [join]⟩
  .obtain⟨c,t,rfl⟩:∃c t,out=c++[t]:=⟨out.dropLast,out.getLast a0,(List.dropLast_concat_getLast a0).symm⟩
   have hol:=AY ho;have a4:=AY E
   have N:(IntKind.i64.wrap (((c++[t]).length:Int)-1))=((c.length:Nat):Int):=by
    rw[wrap_i64 U U];simp
   have V:decide (((c.length:Nat):Int)≥0)=true:=BA;have q:(H++[qH 2 [encR ys[k]]])[o]?=some (qH 2 ((c++[t]).map encR)):=AU ho;have M:c.length<(c++[t]).length:=BA;have J:((c++[t]).map encR)[c.length]?=some (encR t):=BA;have S:BR jA (H++[qH 2 [encR ys[k]]]) 3 (.ptr o c.length 1)=some (.n t.hi):=by rw[BJ ct q J];rfl
   simp only[vQ,CP,L9,↓reduceIte,jC,b_,V5,aE,jQ,f13,f15,GR E B,e1,pj,pc _ _ [.n 0,.n 0] rfl,C,N];refine DI BC ?_;simp only[vQ,JA,KW,ZI,EM,cI,↓reduceIte,jC,jO,b_,V5,QQ,QP,V,EN ct,VV,UL,C,GR q M,S];refine Jz (fun F H'=>F 44=.bool (glue t ys[k])/\F 13=.own b 0 ys.length/\F 14=.n ys.length/\F 15=.n (k:Nat)/\F 4=.own o 0 (c++[t]).length/\F 6=.ptr H.length 0 0/\F 7=.n (c.length:Nat)/\H'=H++[qH 2 [encR ys[k]]]) ?_ ?_
   .refine mL ?_ ?_<;>intro ha
    .refine G7 ha C f13 f14 f15 ?_
     exact⟨by unfold glue;rw[ha];rfl,trivial,trivial,trivial,trivial,trivial,trivial,trivial⟩
    .simp only[vQ,JA,KW,ZI,ZJ,RD,EM,L9,↓reduceIte,jC,jO,b_,V5,QQ,QP,ha,EN ct,VV,UL,C,f13,f14,f15,GR q M,S]
     exact⟨by unfold glue;rw[ha];rfl,trivial,trivial,trivial,trivial,trivial,trivial,trivial⟩
   clear f13 f14 f15 C;rintro F H' ⟨a2,f13,f14,f15,C,f6,f7,rfl⟩;refine A7 a2 ?_;refine BL ?_ ?_<;>intro hg
   .have st:∀v:Int,D7 jA (H++[qH 2 [encR ys[k]]]) 3 (.ptr o c.length 1) (.n v)=some ((H++[qH 2 [encR ys[k]]]).set o (qH 2 ((c++[cp.mk t.lo v]).map encR))):=by
     intro v;have h2:=IE (P:=jA) (t:=3) (j:=1) (v:=.n v) (cs:=[.n v]) rfl iz q J (by simp [encR]);have h3:((c++[t]).map encR).set c.length (splice (encR t) 1 [.n v])=(c++[cp.mk t.lo v]).map encR:=by simp [encR,splice]
     rw[h2,h3]
    refine AB ?_;refine DI BC ?_;simp only[vQ,O8,PU,RY,dT,VY,CP,ri,pX,↓reduceIte,jC,jO,b_,V5,QP,jQ,C,f6,f7,GR q M,S,EN ct,UL,st,f15,CZ k];refine⟨n-1,U,k+1,U,f13,f14,rfl,(hex.app _).set O _,(A.app _).set _ Q,?_⟩;rw[I];have hj:join (c++[t]) ys[k]=c++[⟨t.lo,max t.hi ys[k].hi⟩]:=by simp [join,hg]
    rw[hj];exact .inr ⟨BA,o,O,Q,BA,CO q⟩
   .have h1:([encR ys[k]]:List (List AV))≠[]:=BA
    have a5:JR (H++[qH 2 [encR ys[k]]]) (.own o 0 (c++[t]).length)=some (2,(c++[t]).map encR):=by
     rw[KH q BA,zI,jK BA]
    refine LJ ld C f6 @uz (VG WY KO mq m8 a5 (H6 (H++[qH 2 [encR ys[k]]]) .full 2 [encR ys[k]]) h1 (JF (by simp at K|-;omega) U)) f15 (CZ k) ?_;refine⟨n-1,U,k+1,U,f13,f14,rfl,((hex.app _).set O _).app _,((A.app _).set _ Q).app _,?_⟩;rw[I];have hj:join (c++[t]) ys[k]=(c++[t])++[ys[k]]:=by simp [join,hg]
    rw[hj];exact .inr ⟨BA,(H++[qH 2 [encR ys[k]]]).length,by simp;have:=hex.le;omega,by simp;omega,BA,BA⟩
 .have:k=ys.length:=U
  subst this;rw[List.take_length] at g;have a3:ys.foldl join []=normal xs:=hN;rw[a3] at g;refine AB ?_;exact⟨hex,b,g⟩
theorem ft (n:Nat)(h:Hp)(d:Nat)(xs:List cp):(xs.map encR).map (·.map (FK n h (d+1)))=xs.map encR:=by
 rw[List.map_map];congr 1
theorem ez (n:Nat)(h:Hp)(d b off len k:Nat)(xs:List (List AV))(c:¬b<n)(a:h[b]?=some (qH k xs)):FK n h (d+1) (.own b off len)=if off+len<=xs.length/\(((xs.drop off).take len).map (·.map (FK n h d))).all (·.all AV.leaf)=true then .sl .any k (((xs.drop off).take len).map (·.map (FK n h d))) else .junk:=by
 rw[FK];simp only[c,if_false,a]
theorem ew {n d:Nat}{o:Nat}{xs:List cp}(e:n<=o)(a:h[o]?=some (qH 2 (xs.map encR))):FK n h (d+2) (.own o 0 xs.length)=.sl .any 2 (xs.map encR):=by
 rw[ez n h (d+1) o 0 xs.length 2 _ U a,zI,jK BA,ft n h d xs];rw[if_pos];refine⟨BA,?_⟩;rw[zJ];intro row c;obtain⟨x,_,rfl⟩:=List.mem_map.1 c;rfl
theorem xB {G:Nat->AV}{f:FuncId}{args:List AV}(A:ACalls (En G) f args h fun v H=>ext h H/\∃b,qj h ys b v H):a_ (En G) f args h (.sl (nm ys) 2 (ys.map encR)):=by
 have q:a_ (En G) f args h (if ys=[] then AV.sl .nil 0 [] else .sl .any 2 (ys.map encR)):=by
  refine ACalls.pure 2 A ?_;rintro v H ⟨hex,b,a⟩;refine⟨hex,?_⟩;rcases a with⟨rfl,rfl⟩|⟨c,o,d,_,rfl,B⟩
  .rfl
  .rw[if_neg c];exact ew d B
 refine ACalls.conv q ?_;rintro v H ⟨rfl,rfl⟩;refine⟨_,⟨rfl,rfl⟩,?_⟩;intro g C e;unfold nm;split at e
 .rename_i j;subst j;exact E0 e
 .rename_i j;rw[if_neg j];exact e
theorem Tc (a:kg G)(xs:List cp)(m:SM)(h:Hp)(c:xs.length<=8388608):a_ (En G) 245 [.sl m 2 (xs.map encR)] h (.sl (nm (normal xs)) 2 ((normal xs).map encR)) :=
 xB (RW G a xs m h c)
end Bins
namespace Bins
open Sm Go.Shelf Go.RowKit Go.Lib Go.Sort
variable (G:Nat->AV )
def X_:Go.Shelf.Ren:=⟨fun|6=>296|15=>328|14=>327|28=>367|29=>368|20=>359|21=>360|22=>361|23=>362|24=>363|25=>364|26=>365|27=>366|46=>400|47=>401|48=>402|49=>403|50=>404|57=>414|n=>n,fun|22=>84|24=>145|25=>326|3=>3|39=>344|0=>0|53=>364|55=>366|4=>4|46=>358|45=>357|50=>135|5=>5|9=>9|66=>379|70=>281|76=>388|77=>389|n=>n,fun|n=>n⟩
theorem Ax:Go.Proofs.SlLaysF0.n6 jA X_ := {
 mixed:=BC,
 f6:=⟨Tryz.f296.name,by decide,Tryz.func296.trans (congrArg some BC)⟩,
 f14:=⟨Tryz.f327.name,by decide,Tryz.func327.trans (congrArg some BC)⟩,
 f15:=Tryz.func328.trans (congrArg some BC),
 f20:=⟨Tryz.f359.name,by decide,Tryz.func359.trans (congrArg some BC)⟩,
 f21:=⟨Tryz.f360.name,by decide,Tryz.func360.trans (congrArg some BC)⟩,
 f22:=⟨Tryz.f361.name,by decide,Tryz.func361.trans (congrArg some BC)⟩,
 f23:=⟨Tryz.f362.name,by decide,Tryz.func362.trans (congrArg some BC)⟩,
 f24:=⟨Tryz.f363.name,by decide,Tryz.func363.trans (congrArg some BC)⟩,
 f25:=⟨Tryz.f364.name,by decide,Tryz.func364.trans (congrArg some BC)⟩,
 f26:=⟨Tryz.f365.name,by decide,Tryz.func365.trans (congrArg some BC)⟩,
 f27:=⟨Tryz.f366.name,by decide,Tryz.func366.trans (congrArg some BC)⟩,
 f28:=Tryz.func367.trans (congrArg some BC),
 f29:=Tryz.func368.trans (congrArg some BC),
 f46:=⟨Tryz.f400.name,by decide,Tryz.func400.trans (congrArg some BC)⟩,
 f47:=Tryz.func401.trans (congrArg some BC),
 f48:=Tryz.func402.trans (congrArg some BC),
 f49:=⟨Tryz.f403.name,by decide,Tryz.func403.trans (congrArg some BC)⟩,
 f50:=⟨Tryz.f404.name,by decide,Tryz.func404.trans (congrArg some BC)⟩,
 f57:=⟨Tryz.f414.name,by decide,Tryz.func414.trans (congrArg some BC)⟩,
 t0:=Tryz.underlying0,
 a0:=Tryz.isAgg0,
 z0:=Tryz.sizeOf0,
 v0:=Tryz.zeroValue0,
 t3:=Tryz.underlying3,
 a3:=Tryz.isAgg3,
 z3:=Tryz.sizeOf3,
 v3:=Tryz.zeroValue3,
 t4:=Tryz.underlying4,
 a4:=Tryz.isAgg4,
 z4:=Tryz.sizeOf4,
 v4:=Tryz.zeroValue4,
 t5:=Tryz.underlying5,
 a5:=Tryz.isAgg5,
 z5:=Tryz.sizeOf5,
 v5:=Tryz.zeroValue5,
 t9:=Tryz.underlying9,
 a9:=Tryz.isAgg9,
 z9:=Tryz.sizeOf9,
 v9:=Tryz.zeroValue9,
 t22:=Tryz.underlying84,
 a22:=Tryz.isAgg84,
 z22:=Tryz.sizeOf84,
 v22:=Tryz.zeroValue84,
 t25:=Tryz.underlying326,
 a25:=Tryz.isAgg326,
 z25:=Tryz.sizeOf326,
 v25:=Tryz.zeroValue326,
 t39:=Tryz.underlying344,
 a39:=Tryz.isAgg344,
 z39:=Tryz.sizeOf344,
 v39:=Tryz.zeroValue344,
 t45:=Tryz.underlying357,
 a45:=Tryz.isAgg357,
 z45:=Tryz.sizeOf357,
 v45:=Tryz.zeroValue357,
 t46:=Tryz.underlying358,
 a46:=Tryz.isAgg358,
 z46:=Tryz.sizeOf358,
 v46:=Tryz.zeroValue358,
 t50:=Tryz.underlying135,
 a50:=Tryz.isAgg135,
 z50:=Tryz.sizeOf135,
 v50:=Tryz.zeroValue135,
 t53:=Tryz.underlying364,
 a53:=Tryz.isAgg364,
 z53:=Tryz.sizeOf364,
 v53:=Tryz.zeroValue364,
 t55:=Tryz.underlying366,
 a55:=Tryz.isAgg366,
 z55:=Tryz.sizeOf366,
 v55:=Tryz.zeroValue366,
 t66:=Tryz.underlying379,
 a66:=Tryz.isAgg379,
 z66:=Tryz.sizeOf379,
 v66:=Tryz.zeroValue379,
 t70:=Tryz.underlying281,
 a70:=Tryz.isAgg281,
 z70:=Tryz.sizeOf281,
 v70:=Tryz.zeroValue281,
 t76:=Tryz.underlying388,
 a76:=Tryz.isAgg388,
 z76:=Tryz.sizeOf388,
 v76:=Tryz.zeroValue388,
 t77:=Tryz.underlying389,
 a77:=Tryz.isAgg389,
 z77:=Tryz.sizeOf389,
 v77:=Tryz.zeroValue389 }
def TX:Go.Shelf.Ren:=⟨fun|5=>298|7=>329|n=>n,fun|22=>3|3=>3|4=>4|n=>n,fun|n=>n⟩
theorem AZ9:Go.Proofs.SlLaysC2.n5 jA TX := {
 mixed:=BC,
 f5:=⟨Tryz.f298.name,by decide,Tryz.func298.trans (congrArg some BC)⟩,
 f7:=⟨Tryz.f329.name,by decide,Tryz.func329.trans (congrArg some BC)⟩,
 t3:=Tryz.underlying3,
 a3:=Tryz.isAgg3,
 z3:=Tryz.sizeOf3,
 v3:=Tryz.zeroValue3,
 t4:=Tryz.underlying4,
 a4:=Tryz.isAgg4,
 z4:=Tryz.sizeOf4,
 v4:=Tryz.zeroValue4,
 t22:=Tryz.underlying3,
 a22:=Tryz.isAgg3,
 z22:=Tryz.sizeOf3,
 v22:=Tryz.zeroValue3 }
def bt (x:cp):List Value:=[.int .i64 x.lo,.int .i64 x.hi]
instance:Inhabited cp:=⟨⟨0,0⟩⟩
theorem Z_ (x y:cp)(W:World):Calls jA 297 #[.agg #[.int .i64 x.lo,.int .i64 x.hi],.agg #[.int .i64 y.lo,.int .i64 y.hi]] W fun e w'=>e=.returned (.int .i64 (Lib.compareInt x.lo y.lo))/\∃q c,w'=grow (W.drewN q) c:=by
 have a:=fun d=>AnyG.cmp_Compare_int AZ9 x.lo y.lo d
 change ∀d,Calls jA 298 _ _ _ at a
 generalize Lib.compareInt x.lo y.lo=r at a|-
 go_enter Tryz.func297,Tryz.ntmps297
 go_wp2_with (go_at_call 298;refine(a _).mono ?_;rintro e w' ⟨rfl,rfl⟩)
 go_ret
 exact⟨rfl,0,_,by rw[alloc_eq_grow,alloc_eq_grow,grow_grow];rfl⟩
theorem Z' (c off a:Nat)(w:World):CmpLays jA 297 #[] bt 2 (fun x y=>Lib.compareInt x.lo y.lo) c off a w :=
 fun _ _ _ _ x y=>Z_ x y _
theorem ltLo (x y:cp):ltOf (fun x y:cp=>Lib.compareInt x.lo y.lo) x y=decide (x.lo<y.lo):=by
 unfold ltOf Lib.compareInt;by_cases h1:x.lo<y.lo
 .simp [h1]
 .by_cases h2:y.lo<x.lo<;>simp [h1,h2]
theorem swoLo:SWO (ltOf fun x y:cp=>Lib.compareInt x.lo y.lo) where
 irrefl x:=by rw[ltLo];simp
 trans x y z h1 h2:=by rw[ltLo] at *;simp at *;omega
 ntrans x y z h1 h2:=by rw[ltLo] at *;simp at *;omega
theorem dz (x:cp):(bt x).length=2:=rfl
theorem Fq (x:cp)(j:Nat)(a:AV)(h:(encR x)[j]?=some a)(g:Gh):∃v,(bt x)[j]?=some v/\(bt x)[j]! = v/\Rep g a v/\∀c,Rep g a c->c=v:=by
 match j,h with
 | 0,h=>simp [encR] at h;subst h;exact⟨_,rfl,rfl,.int _ _ _,fun c d=>d.int_inv⟩
 | 1,h=>simp [encR] at h;subst h;exact⟨_,rfl,rfl,.int _ _ _,fun c d=>d.int_inv⟩
 | n+2,h=>simp [encR] at h
theorem Ss:∀args w,(callFunc 297 args).run jA w=.ok (.enter 297 args) w:=enters_of Tryz.func297 BC rfl
theorem AZW {t n:Nat}(h:t<n*2):t/2<n:=U
theorem AXI (xs:List cp)(b:Nat)(C:List (List AV))(h0 h:Hp)(hl:xs.length<=16777216)(he:ext h0 h)(a3:h0.length<=b)(hb:h[b]?=some (qH 2 (xs.map encR++C))):
  ACalls (En G) 296 [.own b 0 xs.length,.fn (.func 297) [] []] h fun _ H=>ext h0 H/\∃ys:List cp,ys.Perm xs/\ys.Pairwise (fun a b=>a.lo<=b.lo)/\H[b]?=some (qH 2 (ys.map encR++C)):=by
 refine⟨pq 296 G BC,fun g w L S ha=>?_⟩;obtain⟨a8,O⟩:=ha
 obtain⟨a0,a1,rfl⟩:∃a b,L = #[a,b]:=by
  obtain⟨l⟩:=L
  match l,a8 with
  | [a,b],_=>exact⟨a,b,rfl⟩
 have r0:=O 0 _ a0 rfl rfl;have r1:=O 1 _ a1 rfl rfl;obtain⟨f1,f2,rfl,q1,q2,_⟩:=r1.fn_inv;obtain rfl:f1 = #[]:=Array.eq_empty_of_size_eq_zero (BQ q1);obtain rfl:f2 = #[]:=Array.eq_empty_of_size_eq_zero (BQ q2)
 have I:∀(p:Option Addr) (cap:Nat),xs=[]->Calls jA 296 #[.slice p 0 cap,.func (.func 297) #[] #[]] w fun e w'=>∃v cv g' h',e=.returned cv/\(ext h0 h'/\∃ys:List cp,ys.Perm xs/\ys.Pairwise (fun a b=>a.lo<=b.lo)/\h'[b]?=some (qH 2 (ys.map encR++C)))/\g.le g'/\ck (En G) g' h' w'/\Rep g' v cv:=by
  intro p cap hx;have B:=AnyF.slices_SortFunc_none Ax p cap (.func (.func 297) #[] #[]) w;change Calls jA 296 _ _ _ at B;refine B.mono ?_;rintro e w' ⟨rfl,rfl⟩;exact⟨.tup [],_,g,h,rfl,⟨he,xs,.refl _,by rw[hx];exact .nil,hb⟩,Gh.le.refl g,S,Rep.undef g⟩
 rcases r0.own_inv with⟨l,cap,Y,a9,a7,rfl⟩|⟨hn,a,rfl⟩
 case inr =>
  have hx:xs=[]:=List.length_eq_zero_iff.1 hn;have:=I (some a) 0 hx;exact this.mono fun _ _ q=>.inl q
 obtain⟨l',c,a2,p1,p2,p3,p4,p5,p6,p7,p8⟩:=S.live b 2 _ hb;rw[Y] at p1;cases p1;obtain⟨K,E,k,sz⟩:=l;simp only at p2 p3 p4 p5 p6 p8 a7;subst p2;simp only[Nat.zero_mul,Nat.add_zero];have V:K<w.heap.size:=by grind
 -- the row's cells
 have P:∀t,t<xs.length*2->c[E+t]?=some ((bt (xs.toArray[t/2]!))[t%2]!):=by
  intro t Z;have J:=AZW Z;have e1:(xs.map encR++C)[t/2]?=some (encR xs[t/2]):=by grind
  have M:t%2<2:=Nat.mod_lt _ DX;have e2:(encR xs[t/2])[t%2]?=some ((encR xs[t/2])[t%2]'M):=List.getElem?_eq_getElem _;obtain⟨cv,s1,s2⟩:=p8 (t/2) (t%2) _ _ e1 e2;obtain⟨v,_,t2,_,t4⟩:=Fq _ _ _ e2 g;rw[show E+t/2*2+t%2=E+t by omega] at s1;rw[s1,t4 cv s2];have:xs.toArray[t/2]! = xs[t/2]:=by simp [J]
  rw[this,t2]
 have hH:HoldsK bt 2 w K E xs.toArray:=by
  intro t Z;simp only[size_flatK,List.size_toArray] at Z;refine⟨?_,?_⟩
  .rw[get_flatK _ _ _ _ (BQ Z)]
   simp only[World.cell?,p4];exact P t Z
  .simp [World.frozen?,p4]
 have B:=AnyQ.slices_SortFunc Ax 2 Tryz.isAgg145 Tryz.sizeOf145 bt dz (fun x v F=>by simp [bt] at F;rcases F with rfl|rfl<;>rfl) (fun x y=>Lib.compareInt x.lo y.lo) swoLo 297 #[] K E cap xs.toArray w
  Ss (Z' K E _ w) hH V NI
 simp only[List.size_toArray] at B;change Calls jA 296 _ _ _ at B;refine B.mono ?_;rintro e w' ⟨rfl,A,m,os,hp,hs,rfl⟩;have f:A.size=xs.length:=by simpa using hp.1
 have Q:A.toList.Perm xs:=by
  have:=hp.2.2;simpa [Array.extract_eq_self_of_le,f] using this
 have a6:A.toList.Pairwise (fun a b=>a.lo<=b.lo):=by
  rw[List.pairwise_iff_getElem];intro i j J M a5;have:=hs i j (Nat.zero_le _) a5 (by simpa [f] using M);rw[ltLo] at this;simp at J M;rw[getElem!_pos A i J,getElem!_pos A j M] at this;simpa using this
 -- the written world
 have T:Wrote w (putRowK bt 2 (Sort.ahead w m) K E A) K a2 c (putCells id E (flatK bt 2 A) c) E (flatK bt 2 A).toList:=by
  refine⟨rfl,rfl,rfl,?_,?_,?_,?_⟩
  .show(w.heap.modify K _)[K]?=_
   rw[Array.getElem?_modify,if_pos rfl,p4];rfl
  .simp [putCells]
  .intro j
   simp only[putCells,Array.getElem?_mapIdx,Array.length_toList];rcases zC j c.size with M|M
   .grind
   .rw[Array.getElem?_eq_none M,if_neg ?_]
    .rfl
    .simp only[size_flatK,f]
     have:E+xs.length*2<=c.size:=by omega
     omega
  .intro k hk
   show(w.heap.modify K _)[k]?=_;rw[Array.getElem?_modify,if_neg (fun e=>hk e.symm)]
 have R:Q7 g (putCells id E (flatK bt 2 A) c) E 2 (A.toList.map encR++C):=by
  refine⟨?_,?_,?_⟩
  .have:(putCells id E (flatK bt 2 A) c).size=c.size:=T.size
   rw[this,p5]
   simp only[List.length_append,List.length_map,Array.length_toList,f] at p6|-
   exact p6
  .intro i row d
   rcases zC i xs.length with J|J
   .rw[qF (by simpa [f] using J),List.getElem?_map,Option.map_eq_some_iff] at d
    obtain⟨x,_,rfl⟩:=d;refine⟨rfl,fun j v F=>?_⟩
    match j,F with
    | 0,F=>simp [encR] at F;subst F;rfl
    | 1,F=>simp [encR] at F;subst F;rfl
    | n+2,F=>simp [encR] at F
   .rw[List.getElem?_append_right (by simpa [f] using J)] at d
    refine p7 i row ?_;rw[List.getElem?_append_right (BQ J)];simpa [f] using d
  .intro i j row v d F
   rw[T.cells];rcases zC i xs.length with J|J
   .have X:i<A.toList.length:=by simpa [f] using J
    rw[qF (by simpa using X),c8 X] at d;cases d;have M:j<2:=(List.getElem?_eq_some_iff.1 F).1;obtain⟨v',t1,t2,t3,_⟩:=Fq _ _ _ F g;refine⟨v',?_,t3⟩;have N:i*2+j<A.size*2:=U;rw[if_pos (by simp only[Array.length_toList,size_flatK];omega),show E+i*2+j-E=i*2+j by omega,Array.getElem?_toList,Array.getElem?_eq_getElem (BQ N)];rw[<-getElem!_pos,get_flatK _ _ _ _ N,show(i*2+j)/2=i by omega,show(i*2+j)%2=j by omega];rw[getElem!_pos A i U];rw[show A[i]=A.toList[i] by simp,t2]
   .rw[if_neg (by simp only[Array.length_toList,size_flatK,f];omega)]
    rw[List.getElem?_append_right (by simpa [f] using J)] at d;refine p8 i j row v ?_ F;rw[List.getElem?_append_right (BQ J)];simpa [f] using d
 have S1:=S.write hb Y T p5 R
 have S2:ck (En G) g (h.set b (qH 2 (A.toList.map encR++C))) (sortWorldK bt 2 w K E m A os):=by
  refine S1.world rfl rfl rfl fun k hk=>?_
  show((putRowK bt 2 (Sort.ahead w m) K E A).heap++os)[k]?=_;rcases zC k (putRowK bt 2 (Sort.ahead w m) K E A).heap.size with N|a4
  .rw[Array.getElem?_append_left N]
  .exfalso
   obtain⟨u1,u2⟩:=S1.unowned_new a4;rcases hk with⟨o,ho⟩|hk
   .rw[u2] at ho;cases ho
   .exact hk u1
 refine .inl ⟨.tup [],_,g,_,rfl,⟨he.set a3 _,A.toList,Q,a6,CO hb⟩,Gh.le.refl g,S2,Rep.undef g⟩
theorem ASJ (m:SM)(k:Nat)(h:Hp):a_ (En G) 296 [.sl m k [],.fn (.func 297) [] []] h (.tup []):=by
 refine⟨pq 296 G BC,fun g w d S N=>?_⟩;obtain⟨E,j⟩:=N
 obtain⟨A,B,rfl⟩:∃a b,d = #[a,b]:=by
  obtain⟨l⟩:=d
  match l,E with
  | [a,b],_=>exact⟨a,b,rfl⟩
 have J:=(j 0 _ A rfl rfl).sl_inv;have R:=j 1 _ B rfl rfl;obtain⟨L,M,rfl,P,Q,_⟩:=R.fn_inv;obtain rfl:L = #[]:=Array.eq_empty_of_size_eq_zero (BQ P);obtain rfl:M = #[]:=Array.eq_empty_of_size_eq_zero (BQ Q)
 have c:∀(p:Option Addr) (cap:Nat),Calls jA 296 #[.slice p 0 cap,.func (.func 297) #[] #[]] w fun e K=>∃v F C I,e=.returned F/\(v=.tup []/\I=h)/\g.le C/\ck (En G) C I K/\Rep C v F:=by
  intro p cap;have f:=AnyF.slices_SortFunc_none Ax p cap (.func (.func 297) #[] #[]) w;change Calls jA 296 _ _ _ at f;refine f.mono ?_;rintro e K ⟨rfl,rfl⟩;exact⟨.tup [],_,g,h,rfl,⟨rfl,rfl⟩,Gh.le.refl g,S,Rep.undef g⟩
 generalize O:AV.sl m k []=v at J
 cases J<;>first|(cases O;done)|skip
 .exact(c _ _).mono fun _ _ q=>.inl q
 .exact(c _ _).mono fun _ _ q=>.inl q
 .simp_all
theorem Lk:kg G:=⟨fun j b a d h g f c e=>AXI G j b a d h g f c e,fun m k h=>ASJ G m k h⟩
theorem R0 (xs:List cp)(m:SM)(h:Hp)(a:xs.length<=8388608):a_ (En G) 245 [.sl m 2 (xs.map encR)] h (.sl (nm (normal xs)) 2 ((normal xs).map encR)):=Tc G (Lk G) xs m h a
end Bins
namespace Bins
open Sm
variable {b:Nat}
structure qy (xs dn cur:List cp):Prop where
 perm:(dn++cur).Perm xs
 sorted:dn.Pairwise (fun a b=>a.lo<=b.lo)
 below:∀d∈dn,∀c∈cur,d.lo<=c.lo
theorem ASD {cur:List cp}(d:b<cur.length):(cur[b]::(cur.set b (cur[cur.length-1]'U)).take (cur.length-1)).Perm cur:=by
 obtain⟨a,t,rfl⟩:∃a t,cur=a++[t]:=⟨cur.dropLast,cur.getLast (by intro e;subst e;simp at d),(List.dropLast_concat_getLast _).symm⟩;have f:(a++[t]).length-1=a.length:=BA;have c:(a++[t])[(a++[t]).length-1]'BA=t:=BA;rw[c,f];rcases zC b a.length with h|h
 .grind
 .grind
theorem qy.step {xs q cur:List cp}(h:qy xs q cur)(B:b<cur.length)(g:∀c∈cur,cur[b].lo<=c.lo):
  qy xs (q++[cur[b]]) ((cur.set b (cur[cur.length-1]'U)).take (cur.length-1)):=by
 have A:=ASD B;generalize (cur.set b (cur[cur.length-1]'U)).take (cur.length-1)=nx at A;refine⟨?_,?_,?_⟩
 .rw[zA]
  exact(List.Perm.append_left q A).trans h.perm
 .rw[List.pairwise_append]
  refine⟨h.sorted,BA,?_⟩;intro a C c j;simp at j;subst j;exact h.below a C _ (List.getElem_mem B)
 .intro d e c j
  have f:c∈cur:=A.mem_iff.1 (List.mem_cons_of_mem _ j);rw[List.mem_append] at e;rcases e with e|e
  .exact h.below d e c f
  .simp at e;subst e;exact g c f
theorem qy.done {xs a:List cp}(h:qy xs a []):(a.filter full).foldl join []=normal xs:=by
 have c:=h.perm;rw[List.append_nil] at c;exact xD (c.filter full) (h.sorted.filter full)
theorem iv.nil_or {h:Hp}{ys:List cp}{v:AV}{H:Hp}(f:iv h ys b v H)(c:ys≠[]):h.length<=b/\v=.own b 0 ys.length/\∃a,H[b]?=some (qH 2 (ys.map encR++a)):=by
 rcases f with⟨d,_⟩|e
 .exact absurd d c
 .exact e
theorem AXH {h:Hp}{ys:List cp}{v:AV}{H:Hp}(a:iv h ys b v H):KI jA 84 v=some (.n ys.length):=by
 rcases a with⟨rfl,d,c,rfl⟩|⟨_,rfl,_⟩
 .exact aE.1 _ _ _
 .exact aE.2 _ _ _
theorem Tb (G:Nat->AV)(xs:List cp)(m:SM)(h:Hp)(hl:xs.length<=8388608):
  ACalls (En G) 308 [.sl m 2 (xs.map encR)] h fun v H=>ext h H/\∃b,qj h (normal xs) b v H:=by
 refine cn Tryz.func308 2 ?_
 obtain⟨v0,H0,av,ap,af⟩:∃v0 H0,EJ jA true h 84 84 (.sl .full 2 []) (.sl m 2 (xs.map encR))=some (v0,H0)/\ext h H0/\iv h xs h.length v0 H0:=by
  rcases Classical.em (xs=[]) with hx|hx
  .subst hx
   exact⟨_,_,Gb Tryz.underlying84 KO (.inr rfl),ext.rfl' _,.inl ⟨rfl,_,_,rfl⟩⟩
  .have a2:xs.map encR≠[]:=BQ hx
   refine⟨_,_,aU (xs:=[]) WY KO mq m8 (H6 h m 2 (xs.map encR)) a2 (JF NI U),⟨_,rfl⟩,.inr ⟨jF _,BA,[],BA⟩⟩
 refine AZ @Jr av ?_
 refine BB (fun n F H=>∃C cur b,n=cur.length/\qy xs C cur/\ext h H/\iv h cur b (F 4) H/\qj h ((C.filter full).foldl join []) b (F 3) H) xs.length
  ⟨[],xs,h.length,rfl,⟨BA,.nil,BA⟩,ap,by refine AB ?_;exact af,.inl ⟨rfl,AL⟩⟩ ?_
 rintro n F H ⟨C,cur,b,rfl,O,hex,Q,E⟩;have b2:cur.length<=8388608:=by have:=O.perm.length_eq;simp at this;omega
 generalize S:F 4=v4 at Q;refine AZ S (AXH Q) ?_;refine BL ?_ ?_<;>intro T
 .have a2:cur≠[]:=by intro e;subst e;simp at T
  obtain⟨am,rfl,f,ht⟩:=Q.nil_or a2;generalize I:F 3=v3 at E;have ao:0<cur.length:=List.length_pos_iff.2 a2
  have ld:∀j (J:j<cur.length),BR jA H 3 (.ptr b j 0)=some (.n cur[j].lo):=fun j J=>by
   rw[BJ ct ht (row:=encR cur[j]) (by rw[qF (BQ J)];exact c8 J)];rfl
  have ag:∀j (J:j<cur.length),BR jA H 145 (.ptr b j 0)=some (.agg (encR cur[j])):=fun j J=>by
   rw[EK aX KO ht (row:=encR cur[j]) (by rw[qF (BQ J)];exact c8 J) (by simp [encR])];rfl
  refine AB ?_
  refine BB (fun n2 F q=>∃i a,∃hb:a<cur.length,n2+i=cur.length/\a<i/\(∀j,j<i->∀c,cur[j]?=some c->(cur[a]'hb).lo<=c.lo)/\F 3=v3/\F 4=.own b 0 cur.length/\F 5=.n (a:Nat)/\F 6=.n (i:Nat)/\q=H) (cur.length-1)
   ⟨1,0,ao,U,U,fun j J c T=>by
    have:j=0:=U
    subst this;rw[jP ao] at T;cases T;exact Int.le_refl _,DY I,DY S,AL,AL,rfl⟩ ?_
  clear I S;rintro n2 F q ⟨i,a,A,hi,b1,N,I,S,f5,f6,rfl⟩;refine DC S f6 @aE.2 ?_;refine DV ?_ ?_<;>intro ac
  .refine AB ?_
   refine DI BC ?_;simp only[vQ,↓reduceIte,jC,jO,b_,V5,QQ,S,f5,f6,GR ht ac,GR ht A,ld i ac,ld a A];refine BL ?_ ?_<;>intro he
   .refine AZ f6 (CZ i) ?_
    refine⟨n2-1,U,i+1,i,ac,U,U,fun j J c T=>?_,I,S,rfl,rfl,trivial⟩;have ax:cur[i].lo<cur[a].lo:=BQ he;rcases zC j i with K|K
    .have:=N j K c T;omega
    .grind
   .refine AZ f6 (CZ i) ?_
    refine⟨n2-1,U,i+1,a,A,U,U,fun j J c T=>?_,I,S,f5,rfl,trivial⟩;have ax:¬cur[i].lo<cur[a].lo:=BQ he;rcases zC j i with K|K
    .exact N j K c T
    .grind
  .have X:∀c∈cur,cur[a].lo<=c.lo:=by
    intro c T;obtain⟨j,J,rfl⟩:=List.mem_iff_getElem.1 T;exact N j U _ (jP J)
   have M:=O.step A X;have ah:=ag a A;generalize hr:cur[a]=r at M ah;have a8:cur.length-1<cur.length:=U;have V:(IntKind.i64.wrap ((cur.length:Int)-1))=((cur.length-1:Nat):Int):=by rw[wrap_i64 U U];omega
   have Y:(q++[qH 2 [encR r]])[b]?=some (qH 2 (cur.map encR++f)):=AU ht;have az:=AY ht;have ixl:JJ 2 (q++[qH 2 [encR r]]) (.own b 0 cur.length) (.n ((cur.length-1:Nat):Int))=some (.ptr b (cur.length-1) 0):=by rw[GR Y a8,jG]
   have ai:BR jA (q++[qH 2 [encR r]]) 145 (.ptr b (cur.length-1) 0)=some (.agg (encR cur[cur.length-1])):=ATJ (ag _ a8);generalize b0:cur[cur.length-1]=lst at M ai
   have st:D7 jA (q++[qH 2 [encR r]]) 145 (.ptr b a 0) (.agg (encR lst))=some ((q++[qH 2 [encR r]]).set b (qH 2 ((cur.set a lst).map encR++f))):=by
    have h2:=IE (P:=jA) (t:=145) (j:=0) (v:=.agg (encR lst)) (cs:=encR lst) rfl KO Y (i:=a) (row:=encR r) (by rw[qF (BQ A),c8 A,hr]) (by simp [encR]);have h3:(cur.map encR++f).set a (encR lst)=(cur.set a lst).map encR++f:=by simp_all
    rw[h2,lM (by simp [encR]),h3]
   have a4:((q++[qH 2 [encR r]]).set b (qH 2 ((cur.set a lst).map encR++f)))[b]?=some (qH 2 ((cur.set a lst).map encR++f)):=CO Y;have a3:((q++[qH 2 [encR r]]).set b (qH 2 ((cur.set a lst).map encR++f)))[qJ q]?=some (qH 2 [encR r]):=DU (A8 _ _) U;have g:ext h ((q++[qH 2 [encR r]]).set b (qH 2 ((cur.set a lst).map encR++f))):=(hex.app _).set am _
   have B:qj h ((C.filter full).foldl join []) b v3 ((q++[qH 2 [encR r]]).set b (qH 2 ((cur.set a lst).map encR++f))):=by
    rcases E with K|⟨K,o,h2,h3,h4,h5⟩
    .exact .inl K
    .exact .inr ⟨K,o,h2,h3,h4,DU (AU h5) h3⟩
   have a7:qJ ((q++[qH 2 [encR r]]).set b (qH 2 ((cur.set a lst).map encR++f)))=qJ q+1:=BA
   have L:∀ {R},R[b]?=some (qH 2 ((cur.set a lst).map encR++f))->iv h ((cur.set a lst).take (cur.length-1)) b (.own b 0 (cur.length-1)) R:=by
    intro R hh;refine .inr ⟨am,?_,((cur.set a lst).drop (cur.length-1)).map encR++f,?_⟩
    .simp
    .rw[hh,<-zA,<-List.map_append,List.take_append_drop]
   have an:((cur.set a lst).take (cur.length-1)).length=cur.length-1:=BA;simp only[vQ,Option.map_some,Option.map_none,RY,dT,VY,lO,CP,U6,L9,↓reduceIte,jC,b_,V5,jQ,S,f5,GR ht A,ah,pj,pc _ _ [.n 0,.n 0] rfl,V,aE.2,ixl,ai,GR Y A,st];generalize au:(q++[qH 2 [encR r]]).set b (qH 2 ((cur.set a lst).map encR++f))=H3 at a4 a3 g B a7;generalize (cur.set a lst).take (cur.length-1)=nx at M L an;clear au Q hex ht E Y st ixl ai ld ag ah N X;have a5:∀j,BR jA H3 3 (.ptr (qJ q) 0 j)=(encR r)[j]? := fun j=>BJ ct a3 rfl
   simp only[vQ,CP,↓reduceIte,jC,b_,QQ,QP,S,aE.2,V,Ij Tryz.underlying84 KO a4 (U:cur.length-1<=cur.length),a5,VV,UL];refine BL ?_ ?_<;>intro hg
   .refine AB ?_
    refine⟨cur.length-1,U,C++[r],nx,b,U,M,g,L a4,?_⟩
    have:(C++[r]).filter full=C.filter full:=by
     rw[List.filter_append]
     have:full r=false:=by simp [full] at hg|-;exact hg
     simp [this]
    rw[this,I];exact B
   .have b3:full r=true:=by simp [full] at hg|-;exact hg
    have a0:((C++[r]).filter full).foldl join []=join ((C.filter full).foldl join []) r:=by simp_all
    have aa:((C.filter full).foldl join []).length<=8388608:=by
     have K:=bT (C.filter full) [];have h2:(C.filter full).length<=C.length:=List.length_filter_le _ _;have h3:=O.perm.length_eq;simp at K h3;omega
    generalize (C.filter full).foldl join []=out at a0 aa B;rcases B with⟨rfl,rfl⟩|⟨a9,o,ae,ay,rfl,ho⟩
    .have ak:decide ((IntKind.i64.wrap (((0:Nat):Int)-1))≥0)=false:=by rw[wrap_i64 U U];simp
     refine U4 I ?_;refine DI BC ?_;have K:([encR r]:List (List AV))≠[]:=BA;have Z:BR jA H3 145 (.ptr (qJ q) 0 0)=some (.agg (encR r)):=by rw[EK aX KO a3 rfl (jF 2)];rfl
     simp only[vQ,JA,KW,qd,te,RD,EM,CP,GV,↓reduceIte,jC,jO,b_,ak,Z,I,uz,WS WY KO mq m8 (H6 H3 .full 2 [encR r]) K (JF BA U)];refine⟨cur.length-1,U,C++[r],nx,b,U,M,g.app _,L (AU a4),?_⟩;rw[a0];exact .inr ⟨by simp [join],_,by rw[a7];have:=g.le;omega,U,rfl,by simp [join]⟩
    .obtain⟨d,t,rfl⟩:∃d t,out=d++[t]:=⟨out.dropLast,out.getLast a9,(List.dropLast_concat_getLast a9).symm⟩
     have hol:=AY ho
     have a1:(IntKind.i64.wrap (((d++[t]).length:Int)-1))=((d.length:Nat):Int):=by
      rw[wrap_i64 U U];simp
     have al:decide (((d.length:Nat):Int)≥0)=true:=BA;have ad:d.length<(d++[t]).length:=BA;have a6:((d++[t]).map encR)[d.length]?=some (encR t):=BA;have aj:BR jA H3 3 (.ptr o d.length 1)=some (.n t.hi):=by rw[BJ ct ho a6];rfl
     refine DC I @aE.2 @a1 ?_;refine DI BC ?_;simp only[vQ,JA,KW,ZI,EM,cI,↓reduceIte,jC,jO,b_,V5,QQ,QP,al,a5,VV,UL,I,GR ho ad,aj];refine Jz (fun F R=>F 81=.bool (glue t r)/\F 4=.own b 0 (cur.length-1)/\F 3=.own o 0 (d++[t]).length/\F 7=.ptr (qJ q) 0 0/\F 8=.n (d.length:Nat)/\R=H3) ?_ ?_
     .refine mL ?_ ?_<;>intro ha
      .refine AZ ha I ?_
       exact⟨by unfold glue;rw[ha];rfl,trivial,trivial,trivial,trivial,trivial⟩
      .simp only[vQ,JA,KW,ZI,ZJ,RD,EM,L9,↓reduceIte,jC,jO,b_,V5,QQ,QP,ha,a5,VV,UL,I,GR ho ad,aj]
       exact⟨by unfold glue;rw[ha];rfl,trivial,trivial,trivial,trivial,trivial⟩
     clear I S f5 f6;rintro F R ⟨ar,S,I,f7,f8,rfl⟩;refine A7 ar ?_;refine BL ?_ ?_<;>intro aq
     .have st:∀v:Int,D7 jA R 3 (.ptr o d.length 1) (.n v)=some (R.set o (qH 2 ((d++[cp.mk t.lo v]).map encR))):=by
       intro v;have h2:=IE (P:=jA) (t:=3) (j:=1) (v:=.n v) (cs:=[.n v]) rfl iz ho a6 (by simp [encR]);have h3:((d++[t]).map encR).set d.length (splice (encR t) 1 [.n v])=(d++[cp.mk t.lo v]).map encR:=by simp [encR,splice]
       rw[h2,h3]
      refine DI BC ?_;simp only[vQ,O8,PU,ri,pX,↓reduceIte,jC,jO,b_,V5,QP,jQ,I,f7,f8,GR ho ad,aj,a5,UL,st];refine⟨cur.length-1,U,C++[r],nx,b,U,M,g.set ae _,?_,?_⟩
      .simp_all
      .rw[a0]
       have J:join (d++[t]) r=d++[⟨t.lo,max t.hi r.hi⟩]:=by simp [join,aq]
       rw[J];exact .inr ⟨BA,o,ae,ay,BA,CO ho⟩
     .have K:([encR r]:List (List AV))≠[]:=BA
      have Z:BR jA R 145 (.ptr (qJ q) 0 0)=some (.agg (encR r)):=by rw[EK aX KO a3 rfl (jF 2)];rfl
      have aw:JR R (.own o 0 (d++[t]).length)=some (2,(d++[t]).map encR):=by
       rw[KH ho BA,List.drop_zero,List.take_of_length_le BA]
      refine LP Z I f7 f8 @uz (VG WY KO mq m8 aw (H6 R .full 2 [encR r]) K (JF (by simp at aa|-;omega) U)) ?_;refine⟨cur.length-1,U,C++[r],nx,b,U,M,(g.set ae _).app _,?_,?_⟩
      .grind
      .rw[a0]
       have J:join (d++[t]) r=(d++[t])++[r]:=by simp [join,aq]
       rw[J];exact .inr ⟨BA,R.length,by have:=g.le;omega,U,BA,BA⟩
 .have hn:cur=[]:=BQ T
  subst hn;rw[O.done] at E;refine AB ?_;exact⟨hex,b,E⟩
end Bins
namespace Ho
open Sm Bins Cov Go.RowKit
variable {e:Ex}
theorem AXJ {P:Program}{t e:TypeId}{k:Nat}(g:P.underlying t=some (.slice e))(f:da P e=some k){h:Hp}{m:SM}{xs:List (List AV)}{l u:Nat}(d:l<=u)(h2:u<=xs.length):
  IW P h t (.sl m k xs) (some (.n (l:Int))) (some (.n (u:Int))) none=some (.sl (vB m u xs.length) k ((xs.drop l).take (u-l))):=by
 have a:G8 (some (.n (u:Int))) (some xs.length)=some u:=by simp [G8]
 have c:G8 (some (.n (l:Int))) (some 0)=some l:=by simp [G8]
 simp only[IW,g,a,c,f,true_and];rw[if_pos ⟨d,h2⟩];cases m<;>simp [vB]
def i5 (a b:Ex):Ex:=.mk 20 0 ⟨#[]⟩ .full [a,b]
def xH (e:Ex)(l:List cp):Nat->Nat->Ex->Ex
 | 0,_,out=>out
 | f+1,i,out=>if i<l.length then xH e l f (i+16) (i5 out (I7 e ((l.drop i).take (min l.length (i+16)-i)))) else out
def TW (e:Ex)(l:List cp):Ex:=xH e l l.length 16 (I7 e (l.take (min l.length 16)))
theorem Y_ {l:List cp}{n i:Nat}{out:Ex}(h:¬i<l.length):xH e l n i out=out:=by
 cases n with
 | zero=>rfl
 | succ n=>show(if i<l.length then _ else out)=out;rw[if_neg h]
theorem aT (h:Hp)(a b:Ex):DR jA false h 23 2 [(0,.agg (AQ a)),(1,.agg (AQ b))]=some (.sl .full 4 [AQ a,AQ b],h):=by
 rw[FP a,FP b];generalize a.args.map AQ=xs;generalize b.args.map AQ=ys
 kernel_rfl
theorem vn (xs:List (List AV)):IY jA 79 [(0,.n 20),(3,.sl .full 4 xs)]=some (.agg [.n 20,.n 0,.str ⟨#[]⟩,.sl .full 4 xs]):=BC
theorem fO (a b:Ex):AQ (i5 a b)=[.n 20,.n 0,.str ⟨#[]⟩,.sl .full 4 [AQ a,AQ b]]:=by rw[FP];rfl
theorem YQ (xs:List cp):(normal xs).length<=xs.length:=by
 unfold normal bU;have a:=bT ((xs.filter full).mergeSort kT) [];have c:=List.length_filter_le full xs;rw[List.length_mergeSort] at a;simp only[List.length_nil,Nat.zero_add] at a;omega
theorem Ta (G:Nat->AV)(xs:List cp)(m:SM)(h:Hp)(a:xs.length<=8388608):a_ (En G) 308 [.sl m 2 (xs.map encR)] h (.sl (Bins.nm (normal xs)) 2 ((normal xs).map encR)):=xB (Tb G xs m h a)
structure Io (h H:Hp) (e out:Ex) (b4 cb:Nat):Prop where
 ge:H[h.length]?=some (qH 4 [AQ e])
 g4:H[b4]?=some (qH 4 [[.n 0,.n 0,.str ⟨#[]⟩,.sl .nil 0 []]])
 gc:H[cb]?=some (qH 4 [AQ out])
 o4:h.length<b4
 oc:b4<cb
 hx:ext h H
theorem MR {H:Hp}{b:Nat}(a:H[b]?=some (qH 4 [AQ e])):BR jA H 79 (.ptr b 0 0)=some (.agg (AQ e)):=HY a (EF e)
theorem O5 {H:Hp}{b:Nat}{row:List AV}(a:H[b]?=some (qH 4 [row]))(c:row.length=4):D7 jA H 79 (.ptr b 0 0) (.agg (AQ e))=some (H.set b (qH 4 [AQ e])):=O4 a c (EF e) (TL e)
theorem eV (G:Nat->AV)(e:Ex)(xs:List cp)(s:SM)(hl:xs.length<=1048576)(h:Hp):a_ (En G) 268 [.agg (AQ e),.sl s 2 (xs.map encR)] h (.agg (AQ (TW e (normal xs)))):=by
 refine ACalls.pure (R:=fun v H=>ext h H/\FK h.length H 3 v=.agg (AQ (TW e (normal xs)))) 3 ?_ (fun v H ⟨a,b⟩=>⟨a,b⟩);refine II (H:=hint [17,33] []) (ji G) Tryz.func268 rfl (by kernel_rfl) (by kernel_rfl) (Nat.le_of_ble_eq_true (by kernel_rfl)) ?_;show dh _ _ _ _ _ (MW _ [.cell 4 79] _);have J:=AU (x:=qH 4 [[.n 0,.n 0,.str ⟨#[]⟩,.sl .nil 0 []]]) (A8 h (qH 4 [AQ e]));have f:=A8 (h++[qH 4 [AQ e]]) (qH 4 [[.n 0,.n 0,.str ⟨#[]⟩,.sl .nil 0 []]]);have S:ext h (h++[qH 4 [AQ e]]++[qH 4 [[.n 0,.n 0,.str ⟨#[]⟩,.sl .nil 0 []]]]):=((ext.rfl' h).app _).app _;have g:h.length<(h++[qH 4 [AQ e]]).length:=BA;refine AZ @fa OH ?_
 generalize h++[qH 4 [AQ e]]++[qH 4 [[.n 0,.n 0,.str ⟨#[]⟩,.sl .nil 0 []]]]=H0 at J f S|-
 generalize (h++[qH 4 [AQ e]]).length=b4 at f g|-
 have Z:=AY f;refine(Ta G xs s H0 U).use ?_;have O:=YQ xs
 generalize normal xs=L at O|-
 generalize Bins.nm L=sL;have e1:min ((L.length:Nat):Int) 16=((min L.length 16:Nat):Int):=U
 have Q:∀H:Hp,IW jA H 84 (.sl sL 2 (L.map encR)) none (some (.n ((min L.length 16:Nat):Int))) none=some (.sl (vB sL (min L.length 16) L.length) 2 ((L.take (min L.length 16)).map encR)):=fun H=>by
  have:=rj WY KO (h:=H) (m:=sL) (kk:=.i64) (xs:=L.map encR) (u:=min L.length 16) NI;rw[<-List.map_take,jI] at this;exact this
 have E:Io h (H0++[qH 4 [AQ (I7 e (L.take (min L.length 16)))]]) e (I7 e (L.take (min L.length 16))) b4 H0.length:=⟨AU J,AU f,A8 _ _,g,Z,S.app _⟩;have C:=iN H0 (I7 e (L.take (min L.length 16))) [.n 0,.n 0,.str ⟨#[]⟩,.sl .nil 0 []] rfl;refine AB ?_;refine DI BC ?_;refine LP @eY @X6 @kR (MR J) e1 Q ?_;refine⟨_,fun x=>lT G e (L.take (min L.length 16)) _ (by rw[jT];omega) _,?_⟩
 try refine AZ OH C ?_
 generalize H0++[qH 4 [AQ (I7 e (L.take (min L.length 16)))]]=H1 at E|-
 generalize H0.length=d at E|-
 clear C J f S Z
 refine BB (fun n F H=>∃i out,L.length<=i+n/\i<=1048608/\F 2=.ptr h.length 0 0/\F 4=.ptr b4 0 0/\F 5=.sl sL 2 (L.map encR)/\F 6=.ptr d 0 0/\F 7=.n (i:Nat)/\Io h H e out b4 d/\TW e L=xH e L n i out) L.length
  ⟨16,_,U,U,AL,AL,AL,AL,AL,E,rfl⟩ ?_
 clear E;rintro n F H ⟨i,out,hi,a0,f2,V,X,Y,N,I,P⟩;refine AZ X N ?_;refine DV ?_ ?_<;>intro j
 .obtain⟨K,rfl⟩:∃K,n=K+1:=⟨n-1,U⟩
  have A:TW e L=xH e L K (i+16) (i5 out (I7 e ((L.drop i).take (min L.length (i+16)-i)))):=by
   rw[P];show(if i<L.length then _ else _)=_;rw[if_pos j]
  have w1:IntKind.i64.wrap (((i:Nat):Int)+16)=((i+16:Nat):Int):=by rw[wrap_i64 U U];omega
  have e2:min ((L.length:Nat):Int) ((i+16:Nat):Int)=((min L.length (i+16):Nat):Int):=U
  have B:∀H:Hp,IW jA H 84 (.sl sL 2 (L.map encR)) (some (.n (i:Nat))) (some (.n ((min L.length (i+16):Nat):Int))) none=some (.sl (vB sL (min L.length (i+16)) L.length) 2 (((L.drop i).take (min L.length (i+16)-i)).map encR)):=fun H=>by
   have:=AXJ WY KO (h:=H) (m:=sL) (xs:=L.map encR) (l:=i) (u:=min L.length (i+16)) U NI;rw[<-List.map_drop,<-List.map_take,jI] at this;exact this
  have q:((L.drop i).take (min L.length (i+16)-i)).length<=1048576:=by rw[jT,List.length_drop];omega
  generalize (L.drop i).take (min L.length (i+16)-i)=M at A B q;have oc:=I.oc;have o4:=I.o4;have a1:=AY I.gc;have c:=AU (x:=qH 4 [AQ (I7 e M)]) I.gc;have gT:=MR (A8 H (qH 4 [AQ (I7 e M)]));have st2:=iN H (I7 e M) [.n 0,.n 0,.str ⟨#[]⟩,.sl .nil 0 []] rfl
  have T:D7 jA (H++[qH 4 [AQ (I7 e M)]]) 79 (.ptr d 0 0) (.agg [.n 20,.n 0,.str ⟨#[]⟩,.sl .full 4 [AQ out,AQ (I7 e M)]])=some ((H++[qH 4 [AQ (I7 e M)]]).set d (qH 4 [AQ (i5 out (I7 e M))])):=by
   have:=O5 (e:=i5 out (I7 e M)) c (EF _)
   rw[fO] at this|-
   exact this
  have I2:Io h ((H++[qH 4 [AQ (I7 e M)]]).set d (qH 4 [AQ (i5 out (I7 e M))])) e (i5 out (I7 e M)) b4 d:=⟨DU (AU I.ge) U,DU (AU I.g4) U,CO c,o4,oc,(I.hx.app _).set U _⟩;refine AB ?_;refine DI BC ?_;refine Y9 @eY @X6 @kR f2 X N (MR I.ge) w1 e2 B ?_;refine⟨_,fun x=>lT G e M _ q _,?_⟩
  try refine Y9 OH st2 Y (MR c) @gT @aT @vn T N w1 ?_
  exact⟨K,U,i+16,_,U,U,AO,AO,AO,AO,AO,I2,A⟩
 .rw[Y_ j] at P
  have o4:=I.o4;simp only[vQ,List.contains_cons,List.contains_nil,Nat.reduceBEq,Bool.or_false,RY,dT,VY,lO,CP,↓reduceIte,Nat.reduceEqDiff,Option.getD_some,om,b_,Option.getD_none,V,Y,MR I.gc,O5 I.g4 rfl];rw[IU (b:=b4) (DY V) (MR (CO I.g4))];refine⟨I.hx.set U _,?_⟩;rw[P,FP];rfl
end Ho
namespace Ho
open Sm Bins Cov Wd Xe Go.RowKit
structure Xs where
 m:SM
 l:List Ex
def Bm (x:Xs):List AV:=[.sl x.m 4 (x.l.map AQ)]
end Ho
namespace Ho
open Sm Bins Cov Go.RowKit
section
variable (G:Nat->AV)
theorem Tn (m:Mo)(x:Hl)(e:x.cross=true)(i:Nat)(a:i<m.crs.length)(f:x.idx=(i:Int))(h:Hp):a_ (En G) 94 [.agg (C9 m),.agg (FH x)] h (.sl m.crs[i].pm 1 (m.crs[i].pts.map bu)):=by
 refine ACalls.pure0 rfl ?_;refine cn Tryz.func94 4 ?_;have t:=Hb.mk' h m x;refine AZ @er @kz ?_
 generalize h++[qH 2 [C9 m]]++[qH 3 [FH x]]=H at t|-
 generalize (h++[qH 2 [C9 m]]).length=hb at t|-
 have c:=qp t.gh;have d:=uP t.gh;rw[e] at c;rw[f] at d;simp only[vQ,CP,↓reduceIte,Nat.reduceEqDiff,Nat.zero_add,Option.getD_some,om,b_,UG,MN,UZ,LQ,c,d,ZM t.gm,CE a,BK MB a,U1];exact⟨AO,t.hx⟩
theorem Tm (m:Mo)(x:Hl)(c:x.cross=false)(h:Hp):a_ (En G) 94 [.agg (C9 m),.agg (FH x)] h (.sl .full 1 ([x.idx].map bu)):=by
 refine ACalls.pure0 rfl ?_;refine cn Tryz.func94 4 ?_;have t:=Hb.mk' h m x;refine AZ @er @kz ?_
 generalize h++[qH 2 [C9 m]]++[qH 3 [FH x]]=H at t|-
 generalize (h++[qH 2 [C9 m]]).length=hb at t|-
 have a:=qp t.gh;rw[c] at a;refine DC a (uP t.gh) od ?_;exact⟨AO,t.hx⟩
end
end Ho
namespace Sm
theorem kx.refl (E:Env)(h:Hp):kx E h h:=fun g _ S=>⟨g,Gh.le.refl g,S⟩
theorem kx.trans {E:Env}{a b c:Hp}(d:kx E a b)(h2:kx E b c):kx E a c:=fun g w S =>
 let ⟨g1,l1,S1⟩:=d g w S;let ⟨g2,l2,S2⟩:=h2 g1 w S1;⟨g2,l1.trans l2,S2⟩
theorem kx.kill (E:Env)(h:Hp)(b:Nat):kx E h (h.set b .dead):=fun g _ S=>⟨g,Gh.le.refl g,S.kill b⟩
theorem kx.frz {E:Env}{h:Hp}{b k i j o off len I:Nat}{xs ys:List (List AV)}{row:List AV}(hb:h[b]?=some (qH k xs))(L:xs[i]?=some row)(hj:row[j]?=some (.own o off len))(ho:h[o]?=some (qH I ys))
  (a0:o≠b) (hle:off+len<=ys.length) (F:LH ((ys.drop off).take len)=true) :
  kx E h ((h.set o .dead).set b (qH k (xs.set i (row.set j (.sl .any I ((ys.drop off).take len)))))):=by
 intro g w S;obtain⟨V,P,Q,p1,p2,p3,p4,p5,p6,p7,p8⟩:=S.live o I ys ho;have S1:=S.kill o;have u:=PW S ho BA p1;have O:=S1.freeze p4 p3 u;have R:g.le (g.freeze V.cb (.cells P Q (0,0))):=Gh.freeze_le p3;have hM:(g.freeze V.cb (.cells P Q (0,0))).M V.cb=some (.cells P Q (0,0)):=by simp [Gh.freeze]
 refine⟨_,R,?_⟩
 generalize g.freeze V.cb (.cells P Q (0,0))=g' at O R hM|-
 obtain⟨l,c,e,q1,q2,q3,q4,q5,q6,q7,q8⟩:=S.live b k xs hb;have K:(h.set o .dead)[b]?=some (qH k xs):=by rw[List.getElem?_set_ne a0];exact hb
 obtain⟨l',c',e',r1,r2,r3,r4,r5,r6,r7,r8⟩:=O.live b k xs K;have hl:l=l':=by have:=R.μ _ _ q1;rw[r1] at this;cases this;rfl
 subst hl;have hc:c=c':=by rw[q4] at r4;cases r4;rfl
 subst hc;simp only[LH,List.all_eq_true] at F
 have key:∀C,Rep g (.own o off len) C->Rep g' (.sl .any I ((ys.drop off).take len)) C:=by
  intro C hr
  have:=dY (φ:=id) S ho p1 p4 hM hle hr (fun row f v d=>by
   obtain⟨i,L,rfl⟩:=qR f;obtain⟨T,a1,rfl⟩:=qR d;refine⟨?_,fun C Y=>(AV.frozen_rep (F _ f _ d) Y).mono R.M⟩;have:=F _ f _ d
   revert this
   generalize (((ys.drop off).take len)[i])[T]=y;intro this
   cases y<;>simp_all [AV.frozen,AV.leaf])
  have Z:((ys.drop off).take len).map (·.map id)=(ys.drop off).take len:=by
   have:(fun x:List AV=>x.map id)=id:=by funext x;simp
   rw[this,List.map_id]
  rw[Z] at this;exact .fro this
 have S3:=O.kill b;have u2:=PW O K BA r1;have:=S3.revive (xs:=xs.set i (row.set j (.sl .any I ((ys.drop off).take len)))) r1 r4 r5 r3 u2 ?_
 .rw[List.set_set,r2] at this;exact this
 rw[r2]
 have N:∀(B:Nat) (a:List AV),(xs.set i (row.set j (.sl .any I ((ys.drop off).take len))))[B]?=some a->(B=i/\a=row.set j (.sl .any I ((ys.drop off).take len)))\/(B≠i/\xs[B]?=some a):=by
  intro B a A;rw[zW] at A;split at A
  .rename_i J
   split at A<;>simp at A;exact .inl ⟨J.symm,A.symm⟩
  .rename_i J;exact .inr ⟨fun q=>J q.symm,A⟩
 refine⟨by rw[qZ,r5];exact r6,?_,?_⟩
 .intro B a A
  rcases N B a A with⟨rfl,rfl⟩|⟨_,X⟩
  .refine⟨by rw[qZ];exact(r7 _ _ L).1,fun T v d=>?_⟩
   rw[zW] at d;split at d
   .split at d<;>simp at d
    subst d;rfl
   .exact(r7 _ _ L).2 T v d
  .exact r7 _ _ X
 .intro B T a v A d
  rcases N B a A with⟨rfl,rfl⟩|⟨_,X⟩
  .rw[zW] at d
   split at d
   .rename_i J
    split at d<;>simp at d;subst d;subst J;obtain⟨C,s1,s2⟩:=q8 _ _ _ _ L hj;exact⟨C,s1,key C s2⟩
   .exact r8 _ _ _ _ L d
  .exact r8 _ _ _ _ X d
end Sm
namespace Ho
open Sm Bins Cov Go.RowKit
variable {k:Nat} {H h:Hp} {v:AV}
theorem pz (E:Env)(g:Gh):(E.know g).P=E.P:=rfl
theorem py (E:Env)(g:Gh):(E.know g).G=E.G:=rfl
def xY (m:SM):SM:=match m with|.nil=>.nil|_=>.full
theorem Ru {P:Program}{t e:TypeId}(j:P.underlying t=some (.slice e))(g:da P e=some k){m:SM}{xs:List (List AV)}{l u:Nat}(f:l<=u)(h2:u<=xs.length):
  IW P h t (.sl m k xs) (some (.n (l:Int))) (some (.n (u:Int))) (some (.n (u:Int)))=some (.sl (xY m) k ((xs.drop l).take (u-l))):=by
 have a:G8 (some (.n (u:Int))) (some xs.length)=some u:=by simp [G8]
 have c:G8 (some (.n (l:Int))) (some 0)=some l:=by simp [G8]
 have d:G8 (some (.n (u:Int))) none=some u:=by simp [G8]
 simp only[IW,j,a,c,d,g,true_and];rw[if_pos ⟨f,jF _,h2,rfl⟩];cases m<;>simp [xY]
def part (L:List cp)(k:Nat):List cp:=(L.drop (16*k)).take 16
def parts (L:List cp):Nat:=(L.length+15)/16
theorem Wv (G:Nat->AV)(L:List cp)(m:SM)(hl:L.length<=1048576)(g c:Nat)(I:Nat->Hp->Prop)(Q:∀k h,I k h->h[g]?=some (qH 1 [[.sl m 2 (L.map encR)]])/\h[c]?=some (qH 1 [[.n 16]])):
  Iter (En G) 292 [.ptr g 0 0,.ptr c 0 0] (parts L) (fun k=>[.sl (xY m) 2 ((part L k).map encR)]) I:=by
 intro l g0 Y h X;refine II (H:=Hint.none) (ji G) Tryz.func292 rfl (by kernel_rfl) (by kernel_rfl) (jB (by kernel_rfl)) ?_;show dh _ _ _ _ _ (MW _ [] _);refine AZ @pz @py ?_
 refine BB (fun n F H=>∃k,n+k=parts L/\F 0=.fn (.yield l) [] []/\F 1=.ptr g 0 0/\F 2=.ptr c 0 0/\F 4=.n ((16*k:Nat):Int)/\I k H) (parts L)
  ⟨0,BA,AL,AL,AL,AL,X⟩ ?_
 rintro n F H ⟨k,hk,R,q,A,j,a⟩;obtain⟨S,V⟩:=Q k H a;have N:BR jA H 84 (.ptr g 0 0)=some (.sl m 2 (L.map encR)):=by rw[BJ TP S (row:=[.sl m 2 (L.map encR)]) rfl];rfl
 have l3:BR jA H 3 (.ptr c 0 0)=some (.n 16):=by rw[BJ ct V (row:=[.n 16]) rfl];rfl
 have hp:parts L=(L.length+15)/16:=rfl;refine G7 @pz @py q j N ?_;refine DV ?_ ?_<;>intro Z
 .have C:k<parts L:=U
  have E:IW jA H 84 (.sl m 2 (L.map encR)) (some (.n ((16*k:Nat):Int))) none none=some (.sl m 2 ((L.drop (16*k)).map encR)):=by
   rw[yp WY KO NI,List.map_drop]
  have K:IntKind.i64.wrap (((16*k:Nat):Int)+((min 16 (L.length-16*k):Nat):Int))=((16*k+min 16 (L.length-16*k):Nat):Int):=by rw[wrap_i64 U U];omega
  have M:IntKind.i64.wrap (((16*k:Nat):Int)+16)=((16*(k+1):Nat):Int):=by rw[wrap_i64 U U];omega
  have J:IW jA H 84 (.sl m 2 (L.map encR)) (some (.n ((16*k:Nat):Int))) (some (.n ((16*k+min 16 (L.length-16*k):Nat):Int))) (some (.n ((16*k+min 16 (L.length-16*k):Nat):Int)))=some (.sl (xY m) 2 ((part L k).map encR)):=by
   rw[Ru WY KO U NI,<-List.map_drop,<-List.map_take]
   have e:(L.drop (16*k)).take (16*k+min 16 (L.length-16*k)-16*k)=part L k:=by
    unfold part;rw[List.take_eq_take_iff,yB];omega
   rw[e]
  refine AZ @pz @py ?_;refine DI BC ?_;simp only[vQ,Option.map_some,Option.map_none,JX,X6,CP,U6,u6,uo,↓reduceIte,jC,jO,b_,aE,pz,py,q,A,j,N,l3,E,jI,yB];have f:min (16:Int) ((L.length-16*k:Nat):Int)=((min 16 (L.length-16*k):Nat):Int):=U;simp only[vQ,CP,KK,↓reduceIte,jC,pz,py,f,R,q,A,j,N,K,J];refine(Y k H C a).mono ?_;rintro v P ⟨rfl,d⟩;obtain⟨T,B⟩:=Q (k+1) P d;have O:BR jA P 3 (.ptr c 0 0)=some (.n 16):=by rw[BJ ct B (row:=[.n 16]) rfl];rfl
  refine LP @pz @py A j O M ?_;exact⟨n-1,U,k+1,U,AO,AO,AO,AO,d⟩
 .have:k=parts L:=U
  subst this;refine DC @sF @pz @py ?_;exact a
theorem Wu (G:Nat->AV)(s:AV)(d:JI s=some [s])(h:Hp):ACalls (En G) 244 [s,.n 16] h fun v a=>v=.fn (.func 292) [] [.ptr h.length 0 0,.ptr (h.length+1) 0 0]/\a=h++[qH 1 [[s]]]++[qH 1 [[.n 16]]]:=by
 refine cn Tryz.func244 4 ?_;have c:OU h s=some (.ptr h.length 0 0,h++[qH 1 [[s]]]):=by simp [OU,d]
 have e:BR jA (h++[qH 1 [[s]]]++[qH 1 [[.n 16]]]) 3 (.ptr (h++[qH 1 [[s]]]).length 0 0)=some (.n 16):=by rw[BJ ct (A8 _ _) (row:=[.n 16]) rfl];rfl
 have d16:decide ((16:Int)<1)=false:=rfl;refine G7 @K0 @AWB c e d16 ?_;exact⟨BA,AO⟩
def h_ (l:List cp):List Ex:=l.flatMap fun r=>[cE r.lo,cE r.hi]
def insL (e:Ex)(l:List cp):List Ex:=e::h_ l
theorem UR (a:cp)(l:List cp):h_ (a::l)=cE a.lo::cE a.hi::h_ l:=rfl
theorem Fe:∀l:List cp,(n8 l).map wi=h_ l
 | []=>rfl
 | a::l=>by rw[xR,UR,jJ,jJ,Fe l];rfl
theorem WI (e:Ex)(l:List cp):I7 e l=.mk 23 0 ⟨#[]⟩ .any (insL e l):=by
 unfold I7 dA insL;rw[jJ,Fe];rfl
theorem FL {l:List cp}(hk:k<l.length):h_ (l.take (k+1))=h_ (l.take k)++[cE l[k].lo,cE l[k].hi]:=by
 unfold h_;rw[List.take_succ_eq_append_getElem hk,List.flatMap_append];rfl
theorem WP:∀l:List cp,(h_ l).length=2*l.length
 | []=>rfl
 | a::l=>by rw[UR,zF,zF,WP l,zF];omega
def nodes (e:Ex)(L:List cp)(k:Nat):List Ex:=(List.range k).map fun i=>I7 e (part L i)
theorem MZ (e:Ex)(L:List cp)(k:Nat):(nodes e L k).length=k:=by simp [nodes]
theorem pV (e:Ex)(L:List cp)(k:Nat):nodes e L (k+1)=nodes e L k++[I7 e (part L k)]:=by simp [nodes,List.range_succ]
theorem Yz (e:Ex)(L:List cp)(k i:Nat)(h:i<(nodes e L k).length):(nodes e L k)[i]=I7 e (part L i):=by simp [nodes]
def PD (e:Ex)(L:List cp):Nat->Ex
 | 0=>I7 e (part L 0)
 | k+1=>i5 (PD e L k) (I7 e (part L (k+1)))
def TV (e:Ex)(L:List cp):Ex:=if L=[] then cE 0 else TW (cg e) L
theorem parts_eq (L:List cp):parts L=(L.length+15)/16:=rfl
theorem Er (L:List cp)(i:Nat):(L.drop (16*i)).take (min L.length (16*i+16)-16*i)=part L i:=by
 unfold part;rw[List.take_eq_take_iff,yB];omega
theorem xG (e:Ex)(L:List cp):∀(n k:Nat),L.length<=16*(k+1)+n->k<parts L->xH e L n (16*(k+1)) (PD e L k)=PD e L (parts L-1)
 | 0,k,h,hk=>by
   have a:=parts_eq L;have:parts L-1=k:=U;rw[this];rfl
 | n+1,k,h,hk=>by
   have a:=parts_eq L;show(if 16*(k+1)<L.length then _ else _)=_;by_cases hc:16*(k+1)<L.length
   .rw[if_pos hc,Er]
    exact xG e L n (k+1) U U
   .rw[if_neg hc]
    have:parts L-1=k:=U;rw[this]
theorem aJ (e:Ex)(L:List cp)(h:L≠[]):TW e L=PD e L (parts L-1):=by
 have c:0<L.length:=qQ.2 h;have d:=parts_eq L;unfold TW;have:=xG e L L.length 0 U U
 have a:I7 e (L.take (min L.length 16))=PD e L 0:=by
  show _=I7 e (part L 0);have:=Er L 0;simp only[Nat.mul_zero,jG,Nat.sub_zero,zI] at this;rw[<-this]
 rw[a];exact this
theorem aI (e:Ex)(L:List cp)(h:L≠[]):TV e L=PD (cg e) L (parts L-1):=by
 unfold TV;rw[if_neg h,aJ _ _ h]
theorem Lh (F:Fr)(p:Nat)(ps:List Nat)(v:AV)(a:List AV):mu F (p::ps) (v::a)=mu (upd F p v) ps a:=rfl
theorem Lg (F:Fr)(a:List AV):mu F [] a=F:=by cases a<;>rfl
theorem BA6 (h:Hp):H9 jA h 23=some (.ptr h.length 0 0,h++[qH 1 [[.sl .nil 0 []]]]):=FZ (row:=[.sl .nil 0 []]) BC
abbrev EQ:List AV:=[.n 0,.n 0,.str ⟨#[]⟩,.sl .nil 0 []]
structure Ic (h hb H:Hp) (e:Ex) (L:List cp) (m:SM) (b4 b5 c2 c3 k:Nat) (v:AV):Prop where
 ge:H[h.length]?=some (qH 4 [AQ e])
 g4:H[b4]?=some (qH 4 [EQ])
 g5:H[b5]?=some (qH 1 [[v]])
 g2:H[c2]?=some (qH 1 [[.sl m 2 (L.map encR)]])
 g3:H[c3]?=some (qH 1 [[.n 16]])
 ho:bw 4 AQ hb (nodes (cg e) L k) v H
 hx:ext h H
 hy:hb.length<=H.length
structure In (hb H1 H:Hp) (e:Ex) (l:List cp) (b7:Nat) (v:AV):Prop where
 g7:H[b7]?=some (qH 4 [[.n 23,.n 0,.str ⟨#[]⟩,v]])
 ho:bw 4 AQ H1 (insL e l) v H
 hx:ext H1 H
 ne:∀b,db v b->b≠b7
theorem AX8 {α:Type}{f:α->List AV}{ys:List α}(e:bw k f h ys v H):bw k id h (ys.map f) v H:=by
 rcases e with⟨rfl,rfl⟩|⟨a,o,c,rfl,d⟩
 .exact .inl ⟨rfl,rfl⟩
 .exact .inr ⟨BQ a,o,c,by rw[jI],by rw[List.map_id];exact d⟩
theorem Co (h:Hp):DR jA false h 23 1 [(0,.agg EQ)]=some (.sl .full 4 [EQ],h):=BC
theorem Dq:ZN (Value.agg #[.int .i64 0,.int .i64 0,.string ⟨#[]⟩,.slice none 0 0])=.agg EQ:=rfl
theorem NT (l:List Ex):LH (l.map AQ)=true:=by
 unfold LH;rw[List.all_eq_true];intro row a;obtain⟨x,_,rfl⟩:=List.mem_map.1 a;rw[FP];rfl
theorem fh {α:Type}{f:α->List AV}{a:Hp}{ys:List α}(c:bw k f h ys v H)(d:Sm.ext H a):bw k f h ys v a:=by
 obtain⟨x,rfl⟩:=d;exact c.app x
theorem Ic.ext {q c:Hp}{e:Ex}{L:List cp}{m:SM}{d f g j:Nat}(I:Ic h q H e L m d f g j k v)(a:Sm.ext H c):Ic h q c e L m d f g j k v :=
 ⟨DZ a I.ge,DZ a I.g4,DZ a I.g5,DZ a I.g2,DZ a I.g3,fh I.ho a,I.hx.trans a,Nat.le_trans I.hy a.le⟩
theorem rE (e:Ex)(l:List cp):AQ (I7 e l)=[.n 23,.n 0,.str ⟨#[]⟩,.sl .any 4 ((insL e l).map AQ)]:=by rw[WI,FP];rfl
section
variable (G:Nat->AV)
theorem fk (e:Ex)(xs:List cp)(s:SM)(hl:xs.length<=1048576)(hw:wt e<=1048576)(h:Hp):a_ (En G) 168 [.agg (AQ e),.sl s 2 (xs.map encR)] h (.agg (AQ (TV e (normal xs)))):=by
 refine ACalls.pure (R:=fun v H=>Sm.ext h H/\FK h.length H 3 v=.agg (AQ (TV e (normal xs)))) 3 ?_ (fun v H ⟨a,b⟩=>⟨a,b⟩);refine II (H:=hint [19,36,43] []) (ji G) Tryz.func168 rfl (by kernel_rfl) (by kernel_rfl) (jB (by kernel_rfl)) ?_;show dh _ _ _ _ _ (MW _ [.cell 4 79] _);have ge:=AU (x:=qH 1 [[.sl .nil 0 []]]) (AU (x:=qH 4 [EQ]) (A8 h (qH 4 [AQ e])));have Z:=AU (x:=qH 1 [[.sl .nil 0 []]]) (A8 (h++[qH 4 [AQ e]]) (qH 4 [EQ]));have g5:=A8 (h++[qH 4 [AQ e]]++[qH 4 [EQ]]) (qH 1 [[.sl .nil 0 []]]);have hx:Sm.ext h (h++[qH 4 [AQ e]]++[qH 4 [EQ]]++[qH 1 [[.sl .nil 0 []]]]):=(((ext.rfl' h).app _).app _).app _;have o4:h.length<(h++[qH 4 [AQ e]]).length:=BA;have o5:(h++[qH 4 [AQ e]]).length<(h++[qH 4 [AQ e]]++[qH 4 [EQ]]).length:=BA;have b1:=YQ xs;refine DC @fa OH BA6 ?_
 generalize h++[qH 4 [AQ e]]++[qH 4 [EQ]]++[qH 1 [[.sl .nil 0 []]]]=H0 at ge Z g5 hx|-
 generalize (h++[qH 4 [AQ e]]++[qH 4 [EQ]]).length=f at g5 o5|-
 generalize (h++[qH 4 [AQ e]]).length=b4 at Z o4 o5|-
 have l5:=AY g5;refine(R0 G xs s _ U).use ?_
 generalize normal xs=L at b1|-
 have hL:L.length<=1048576:=U;generalize Bins.nm L=m;refine AB ?_;refine(Wu G _ rfl _).mono ?_;rintro v H ⟨rfl,rfl⟩
 have I0:Ic h (H0++[qH 1 [[.sl m 2 (L.map encR)]]]++[qH 1 [[.n 16]]]) (H0++[qH 1 [[.sl m 2 (L.map encR)]]]++[qH 1 [[.n 16]]]) e L m b4 f H0.length (H0.length+1) 0 (.sl .nil 0 []) :=
  ⟨AU (AU ge),AU (AU Z),AU (AU g5),AU (A8 _ _),BA,bw.nil _ _ _ _,(hx.app _).app _,jF _⟩
 generalize H0++[qH 1 [[.sl m 2 (L.map encR)]]]++[qH 1 [[.n 16]]]=H1 at I0|-
 have k2:f<H0.length:=l5;have k3:H0.length<H0.length+1:=Nat.lt_succ_self _
 generalize H0.length+1=c3 at I0 k3|-
 generalize H0.length=c2 at I0 k2 k3|-
 have l3:=AY I0.g3;clear ge Z g5 hx l5;refine AB ?_;refine Ma BC AL (parts L) (fun k=>[.sl (xY m) 2 ((part L k).map encR)]) (fun k H=>∃v,Ic h H1 H e L m b4 f c2 c3 k v) (Wv G L m hL c2 c3 _ (fun k H ⟨v,I⟩=>⟨I.g2,I.g3⟩)) ⟨_,I0⟩ ?_ ?_
 .clear I0
  rintro k H hk ⟨v,I⟩;refine⟨rfl,?_⟩;have hy:=I.hy;have lb:=MR I.ge;have a4:(H++[qH 4 [AQ (cg e)]]++[qH 4 [EQ]])[(H++[qH 4 [AQ (cg e)]]).length]?=some (qH 4 [EQ]):=A8 _ _;have ap:=O4 (cs:=[.n 23,.n 0,.str ⟨#[]⟩,.own H.length 0 1]) a4 rfl rfl rfl
  have N0:In H1 H ((H++[qH 4 [AQ (cg e)]]++[qH 4 [EQ]]).set (H++[qH 4 [AQ (cg e)]]).length (qH 4 [[.n 23,.n 0,.str ⟨#[]⟩,.own H.length 0 1]])) (cg e) ((part L k).take 0) (H++[qH 4 [AQ (cg e)]]).length (.own H.length 0 1) :=
   ⟨CO a4,.inr ⟨by rw[qA];exact List.cons_ne_nil _ _,H.length,jF _,by rw[qA];rfl,by rw[qA];exact DU (AU (A8 _ _)) BA⟩,(((ext.rfl' H).app _).app _).set BA _,fun b hb=>by cases hb;simp⟩
  refine DC @Lh @Lg lb ?_;refine(TH G (wt e) e H (jF _) hw).use ?_;refine EH @Cp @AJ OH ap ?_
  generalize ((H++[qH 4 [AQ (cg e)]]++[qH 4 [EQ]]).set (H++[qH 4 [AQ (cg e)]]).length (qH 4 [[.n 23,.n 0,.str ⟨#[]⟩,.own H.length 0 1]]))=H2 at N0|-
  have av:H.length<(H++[qH 4 [AQ (cg e)]]).length:=BA
  generalize (H++[qH 4 [AQ (cg e)]]).length=K at N0 av|-
  generalize AV.own H.length 0 1=u0 at N0;clear a4 ap lb;refine EG 2 (fun F d=>F 5=.ptr f 0 0/\F 7=.ptr K 0 0/\∃u,In H1 H d (cg e) (part L k) K u) (fun _ _=>False) ?_ ?_ (fun _ _ q=>q.elim)
  .refine BB (fun n F d=>∃j u,n+j=(part L k).length/\F 5=.ptr f 0 0/\F 7=.ptr K 0 0/\F 21=.sl (xY m) 2 ((part L k).map encR)/\F 22=.n ((part L k).length:Nat)/\F 23=.n (j:Nat)/\In H1 H d (cg e) ((part L k).take j) K u) (part L k).length
    ⟨0,u0,BA,AL,AL,AL,AL,AL,N0⟩ ?_
   clear N0;rintro n F d ⟨j,u,hj,f5,f7,f21,f22,f23,N⟩;refine AZ f22 f23 ?_;refine DV ?_ ?_<;>intro a7
   .have b8:(part L k).length<=16:=by unfold part;rw[jT];omega
    have Y:In H1 H (d++[qH 2 [encR (part L k)[j]]]) (cg e) ((part L k).take j) K u:=⟨AU N.g7,N.ho.app _,N.hx.app _,N.ne⟩;simp only[vQ,jZ,jU,jV,zK,CP,↓reduceIte,jC,b_,V5,jQ,f21,f23,CE a7,DL aX KO gM a7,pj,pc _ _ [.n 0,.n 0] rfl];have q0:BR jA (d++[qH 2 [encR (part L k)[j]]]) 3 (.ptr d.length 0 0)=some (.n (part L k)[j].lo):=by rw[EN ct,VV]
    have q1:BR jA (d++[qH 2 [encR (part L k)[j]]]) 3 (.ptr d.length 0 1)=some (.n (part L k)[j].hi):=by rw[EN ct,UL]
    generalize d++[qH 2 [encR (part L k)[j]]]=H3 at Y q0 q1|-
    have am:(insL (cg e) ((part L k).take j)).length+2<=8388608:=by
     unfold insL;rw[zF,WP,jT];omega
    obtain⟨v',H4,ha,A,B,aw,bl,bc⟩:=MX .full Y.ho NV G9 QF QD U (ys:=[cE (part L k)[j].lo,cE (part L k)[j].hi]) am Y.hx;have a6:EJ jA true H3 23 23 u (.sl .full 4 [AQ (cE (part L k)[j].lo),AQ (cE (part L k)[j].hi)])=some (v',H4):=ha
    have hits:insL (cg e) ((part L k).take j)++[cE (part L k)[j].lo,cE (part L k)[j].hi]=insL (cg e) ((part L k).take (j+1)):=by
     unfold insL;rw[FL a7];rfl
    rw[hits] at A;have g72:=B _ _ Y.g7 (fun q=>Y.ne _ q rfl);have l7:BR jA H3 23 (.ptr K 0 3)=some u:=by rw[BJ MQ Y.g7 (row:=[.n 23,.n 0,.str ⟨#[]⟩,u]) rfl];rfl
    have bq:=AY Y.g7
    have ba:D7 jA H4 23 (.ptr K 0 3) v'=some (H4.set K (qH 4 [[.n 23,.n 0,.str ⟨#[]⟩,v']])):=by
     rcases A with⟨e1,_⟩|⟨_,o,_,rfl,_⟩
     .exact absurd e1 (List.cons_ne_nil _ _)
     .rw[JV (cs:=[.own o 0 _]) rfl (BC:da jA 23=some 1) g72 BA];rfl
    have a1:∀b,db v' b->b≠K:=fun b hb=>by
     rcases bc b hb with q|q
     .exact Y.ne b q
     .omega
    have N2:In H1 H (H4.set K (qH 4 [[.n 23,.n 0,.str ⟨#[]⟩,v']])) (cg e) ((part L k).take (j+1)) K v' :=
     ⟨CO g72,A.keep (fun b hb=>by rw[List.getElem?_set_ne (fun q=>a1 b hb q.symm)]),aw.set U _,a1⟩
    refine DI BC ?_;refine EH f7 l7 q0 q1 ?_;refine⟨_,aB G _ _,_,aB G _ _,?_⟩
    try refine U3 f5 f7 f21 f22 f23 @aT a6 ba (CZ j) ?_
    exact⟨n-1,U,j+1,v',U,AO,AO,AO,AO,AO,N2⟩
   .rw[jK U] at N
    refine AB ?_;exact⟨AO,AO,u,N⟩
  .rintro F d ⟨f5,f7,u,N⟩
   have M:=I.ext N.hx;have b8:(part L k).length<=16:=by unfold part;rw[jT];omega
   obtain⟨o,n0,hu,b2,A⟩:∃o n0,u=.own o 0 n0/\H.length<=o/\(n0=(insL (cg e) (part L k)).length/\d[o]?=some (qH 4 ((insL (cg e) (part L k)).map AQ))):=by
    rcases N.ho with⟨e1,_⟩|⟨_,o,h1,h2,h3⟩
    .exact absurd e1 (List.cons_ne_nil _ _)
    .exact⟨o,_,h2,h1,rfl,h3⟩
   subst hu;obtain⟨rfl,A⟩:=A;have ay:(nodes (cg e) L k).length<8388608:=by rw[MZ];unfold parts at hk;omega
   obtain⟨v',H3,ha,b3,B,bm,bd,⟨c,n1,bb⟩,ak⟩:=(AX8 M.ho).app2 NV G9 QF QD U (by rw[jI];exact ay) M.hy EQ;subst bb;have S:c=d.length:=bd c rfl
   obtain⟨b0,P⟩:n1=k+1/\H3[c]?=some (qH 4 ((nodes (cg e) L k).map AQ++[EQ])):=by
    rcases b3 with⟨e1,_⟩|⟨_,o',_,h2,h3⟩
    .simp at e1
    .cases h2
     refine⟨by simp [MZ],?_⟩;rw[List.map_id] at h3;exact h3
   subst b0;have az:∀b,db v b->H1.length<=b/\b<H.length:=fun b hb=>I.ho.lt hb
   have nb:∀b x,d[b]?=some x->b<H1.length\/H.length<=b->H3[b]?=some x:=fun b x hx hb=>B b x hx fun q=>by have:=az b q;omega
   have l5:f<H1.length:=U;have br:=AY A;have bp:=AY N.g7;have hle:=N.hx.le
   have T:∀a b:List AV,((nodes (cg e) L k).map AQ++[a]).set k b=(nodes (cg e) L k).map AQ++[b]:=fun a b=>by
    rw[List.set_append_right _ _ (by simp [MZ])];simp [MZ]
   have Q:∀a:List AV,((nodes (cg e) L k).map AQ++[a])[k]?=some a:=fun a=>by
    rw[List.getElem?_append_right (by simp [MZ])];simp [MZ]
   have d5:BR jA d 23 (.ptr f 0 0)=some v:=by rw[BJ MQ M.g5 (row:=[v]) rfl];rfl
   have d7:BR jA d 79 (.ptr K 0 0)=some (.agg [.n 23,.n 0,.str ⟨#[]⟩,.own o 0 (insL (cg e) (part L k)).length]):=HY N.g7 rfl;have dl:KI jA 23 v=some (.n (k:Nat)):=by rw[M.ho.len mz,MZ]
   have a6:EJ jA true d 23 23 v (.sl .full 4 [EQ])=some (.own c 0 (k+1),H3):=ha;have di:JJ 4 H3 (.own c 0 (k+1)) (.n (k:Nat))=some (.ptr c k 0):=by rw[GR P (Nat.lt_succ_self k),jG]
   have s1:D7 jA H3 79 (.ptr c k 0) (.agg [.n 23,.n 0,.str ⟨#[]⟩,.own o 0 (insL (cg e) (part L k)).length])=some (H3.set c (qH 4 ((nodes (cg e) L k).map AQ++[[.n 23,.n 0,.str ⟨#[]⟩,.own o 0 (insL (cg e) (part L k)).length]]))):=by
    rw[IE (SC rfl) G9 P (Q EQ) (jF 4),T];rfl
   have a3:=nb _ _ M.g5 (.inl l5)
   have s2:D7 jA (H3.set c (qH 4 ((nodes (cg e) L k).map AQ++[[.n 23,.n 0,.str ⟨#[]⟩,.own o 0 (insL (cg e) (part L k)).length]]))) 23 (.ptr f 0 0) (.own c 0 (k+1)) =
     some ((H3.set c (qH 4 ((nodes (cg e) L k).map AQ++[[.n 23,.n 0,.str ⟨#[]⟩,.own o 0 (insL (cg e) (part L k)).length]]))).set f (qH 1 [[.own c 0 (k+1)]])):=by
    rw[JV (cs:=[.own c 0 (k+1)]) rfl (BC:da jA 23=some 1) (DU a3 U) BA];rfl
   have a0:H1.length<=c:=by have:=M.hy;omega
   have a9:o≠c:=U;have ad:c≠f:=U;have be:o≠f:=U;have bs:=AY P
   have t2:D7 jA H3 23 (.ptr f 0 0) (.own c 0 (k+1))=some (H3.set f (qH 1 [[.own c 0 (k+1)]])):=by
    rw[JV (cs:=[.own c 0 (k+1)]) rfl (BC:da jA 23=some 1) a3 BA];rfl
   have t1:D7 jA (H3.set f (qH 1 [[.own c 0 (k+1)]])) 79 (.ptr c k 0) (.agg [.int .i64 23,.int .i64 0,.str ⟨#[]⟩,.own o 0 (insL (cg e) (part L k)).length])=some ((H3.set c (qH 4 ((nodes (cg e) L k).map AQ++[[.int .i64 23,.int .i64 0,.str ⟨#[]⟩,.own o 0 (insL (cg e) (part L k)).length]]))).set f (qH 1 [[.own c 0 (k+1)]])):=by
    rw[IE (SC rfl) G9 (DU P ad) (Q EQ) (jF 4),T,List.set_comm _ _ ad];rfl
   refine AB ?_;refine Ga [] [0,1,2,3,4,5] 6 7 [] BC trivial ?_;simp only[O6,List.getElem?_cons_succ,List.getElem?_cons_zero];simp only[vQ,jZ,jU,jV,zK,Bool.or_true,O8,JK,PU,vf,↓reduceIte,jC,jO,b_,P5,jQ,f5,f7,d5,d7,dl,Dq,Co,a6,di,s1,s2,t1,t2];rw[and_self_iff];clear t1 t2 s1 s2;generalize an : [AV.int .i64 23,.n 0,.str ⟨#[]⟩,.own o 0 (insL (cg e) (part L k)).length]=rowN at *;have au:(H3.set c (qH 4 ((nodes (cg e) L k).map AQ++[rowN])))[c]?=some (qH 4 ((nodes (cg e) L k).map AQ++[rowN])):=CO P;have ai:((H3.set c (qH 4 ((nodes (cg e) L k).map AQ++[rowN]))).set f (qH 1 [[.own c 0 (k+1)]]))[c]?=some (qH 4 ((nodes (cg e) L k).map AQ++[rowN])):=DU au ad;have b6:((H3.set c (qH 4 ((nodes (cg e) L k).map AQ++[rowN]))).set f (qH 1 [[.own c 0 (k+1)]]))[o]?=some (qH 4 ((insL (cg e) (part L k)).map AQ)):=DU (DU (nb _ _ A (.inr b2)) a9) be;have ah:=kx.frz (E:=En G) ai (Q rowN) (j:=3) (by rw[<-an];rfl) b6 a9 BA (by rw[zI,jK BA];exact NT _)
   have b9:((nodes (cg e) L k).map AQ++[rowN]).set k (rowN.set 3 (.sl .any 4 ((((insL (cg e) (part L k)).map AQ).drop 0).take (insL (cg e) (part L k)).length)))=(nodes (cg e) L (k+1)).map AQ:=by
    rw[T,pV,List.map_append,jJ,jM,rE,<-an,zI,jK BA];rfl
   rw[b9] at ah;refine⟨_,ah,.own c 0 (k+1),?_⟩
   have J:∀b x,b<H1.length->b≠f->d[b]?=some x->(((((H3.set c (qH 4 ((nodes (cg e) L k).map AQ++[rowN]))).set f (qH 1 [[.own c 0 (k+1)]])).set o .dead).set c (qH 4 ((nodes (cg e) L (k+1)).map AQ)))[b]?=some x):=fun b x h1 h2 h3 =>
    DU (DU (DU (DU (nb b x h3 (.inl h1)) U) h2) U) U
   have hex:=ak h U M.hx;refine⟨J _ _ U U M.ge,J _ _ U U M.g4,DU (DU (CO (DU a3 U)) U) U,J _ _ U U M.g2,J _ _ U U M.g3,.inr ⟨by rw[pV];simp,c,a0,by rw[MZ],CO (DU ai a9.symm)⟩,(((hex.set U _).set U _).set U _).set U _,by simp;omega⟩
 .rintro H ⟨v,I⟩
  have hn:=I.ho.len mz;rw[MZ] at hn;have d5:BR jA H 23 (.ptr f 0 0)=some v:=by rw[BJ MQ I.g5 (row:=[v]) rfl];rfl
  have bo:=parts_eq L;rcases Classical.em (L=[]) with O|O
  .have hz:(((parts L:Nat):Int)==0)=true:=by rw[O];rfl
   refine DC d5 hn hz ?_;refine(aB G 0 H).use ?_;simp only[vQ,jZ,jU,jV,zK,CP,↓reduceIte,jC,b_,jQ,O5 I.g4 rfl];rw[IU (b:=b4) AL (MR (CO I.g4))];refine⟨I.hx.set U _,?_⟩;rw[show TV e L=cE 0 by unfold TV;rw[if_pos O],FP];rfl
  have bn:0<L.length:=qQ.2 O;have aa:0<parts L:=U;have hz:(((parts L:Nat):Int)==0)=false:=by simp;omega
  obtain⟨c,rfl,a0,S⟩:∃c,v=.own c 0 (parts L)/\H1.length<=c/\H[c]?=some (qH 4 ((nodes (cg e) L (parts L)).map AQ)):=by
   rcases I.ho with⟨e1,_⟩|⟨_,o,h1,h2,h3⟩
   .have:=congrArg List.length e1
    rw[MZ,List.length_nil] at this;omega
   .exact⟨o,by rw[h2,MZ],h1,h3⟩
  have ao:∀i,i<parts L->((nodes (cg e) L (parts L)).map AQ)[i]?=some (AQ (I7 (cg e) (part L i))):=fun i hi=>by
   have ax:i<(nodes (cg e) L (parts L)).length:=by rw[MZ];exact hi
   rw[List.getElem?_map,List.getElem?_eq_getElem ax,Yz];rfl
  have al:∀(d:Hp) i,d[c]?=some (qH 4 ((nodes (cg e) L (parts L)).map AQ))->i<parts L->BR jA d 79 (.ptr c i 0)=some (.agg (AQ (I7 (cg e) (part L i)))):=fun d i h' hi=>by
   rw[EK NU G9 h' (ao i hi) (by rw[EF];exact jF 4),zI,<-EF (I7 (cg e) (part L i)),List.take_length]
  have i0:JJ 4 H (.own c 0 (parts L)) (.n 0)=some (.ptr c 0 0):=GR (n:=0) S aa;have aj:∀d:Hp,d[c]?=some (qH 4 ((nodes (cg e) L (parts L)).map AQ))->IW jA d 23 (.own c 0 (parts L)) (some (.n 1)) none none=some (.own c 1 (parts L-1)):=fun d h'=>Eu (l:=1) NV G9 h' aa
  have bj:=AY S;have X:=iN H (I7 (cg e) (part L 0)) EQ rfl;have g:(H++[qH 4 [AQ (I7 (cg e) (part L 0))]])[H.length]?=some (qH 4 [AQ (PD (cg e) L 0)]):=A8 H _;refine LJ d5 hn hz i0 (al H 0 S aa) OH X ?_;have I3:=I.ext (Sm.ext.app (Sm.ext.rfl' H) [qH 4 [AQ (I7 (cg e) (part L 0))]]);have C:=AU (x:=qH 4 [AQ (I7 (cg e) (part L 0))]) S;have af:BR jA (H++[qH 4 [AQ (I7 (cg e) (part L 0))]]) 23 (.ptr f 0 0)=some (.own c 0 (parts L)):=by rw[BJ MQ I3.g5 (row:=[.own c 0 (parts L)]) rfl];rfl
  refine AZ af (aj _ C) ?_;have l3:H.length=H.length:=rfl
  generalize bh:H.length=V at g|-
  have ac:=I3.hx;have a2:=I3.g4
  generalize H++[qH 4 [AQ (I7 (cg e) (part L 0))]]=H3 at g C ac a2|-
  have bi:=I.hy;clear I3 I d5 af hn i0 X
  refine BB (fun n F d=>∃k,n+k=parts L-1/\F 4=.ptr b4 0 0/\F 10=.ptr V 0 0/\F 53=.own c 1 (parts L-1)/\F 54=.n ((parts L-1:Nat):Int)/\F 55=.n (k:Nat)/\d[V]?=some (qH 4 [AQ (PD (cg e) L k)])/\d[c]?=some (qH 4 ((nodes (cg e) L (parts L)).map AQ))/\d[b4]?=some (qH 4 [EQ])/\Sm.ext h d) (parts L-1)
   ⟨0,BA,AL,AL,AL,AL,AL,g,C,a2,ac⟩ ?_
  clear g C a2 ac;rintro n F d ⟨k,hk,f4,f10,aq,ar,ag,g,a5,Z,hx⟩;refine AZ ar ag ?_;refine BL ?_ ?_<;>intro hc
  .have a8:k<parts L-1:=BQ hc
   have ik:JJ 4 d (.own c 1 (parts L-1)) (.n (k:Nat))=some (.ptr c (k+1) 0):=by rw[GR a5 a8,Nat.add_comm]
   have bg:=iN d (I7 (cg e) (part L (k+1))) EQ rfl;have ae:=AU (x:=qH 4 [AQ (I7 (cg e) (part L (k+1)))]) g;have bf:=MR (A8 d (qH 4 [AQ (I7 (cg e) (part L (k+1)))]));have bk:=AY g
   have X:D7 jA (d++[qH 4 [AQ (I7 (cg e) (part L (k+1)))]]) 79 (.ptr V 0 0) (.agg [.n 20,.n 0,.str ⟨#[]⟩,.sl .full 4 [AQ (PD (cg e) L k),AQ (I7 (cg e) (part L (k+1)))]])=some ((d++[qH 4 [AQ (I7 (cg e) (part L (k+1)))]]).set V (qH 4 [AQ (PD (cg e) L (k+1))])):=by
    have:=O5 (e:=PD (cg e) L (k+1)) ae (EF _);change D7 _ _ _ _ (.agg (AQ (i5 (PD (cg e) L k) (I7 (cg e) (part L (k+1))))))=some (List.set _ _ (qH 4 [AQ (i5 (PD (cg e) L k) (I7 (cg e) (part L (k+1))))])) at this;show _=some (List.set _ _ (qH 4 [AQ (i5 (PD (cg e) L k) (I7 (cg e) (part L (k+1))))]))
    rw[fO] at this|-
    exact this
   simp only[vQ,jZ,jU,jV,zK,CP,OA,↓reduceIte,jC,b_,P5,jQ,f10,aq,ag,ik,al d (k+1) a5 U,OH,bg,MR ae,bf,aT,vn,X,CZ k];exact⟨n-1,U,k+1,U,AO,AO,AO,AO,AO,CO ae,DU (AU a5) U,DU (AU Z) U,(hx.app _).set U _⟩
  .have a8:k=parts L-1:=by have:¬k<parts L-1:=BQ hc
                           omega
   subst a8;simp only[vQ,jZ,jU,jV,zK,RY,dT,VY,lO,CP,↓reduceIte,jC,b_,jQ,f4,f10,MR g,O5 Z rfl];rw[IU (b:=b4) (DY f4) (MR (CO Z))];refine⟨hx.set U _,?_⟩;rw[aI e L O,FP];rfl
end
end Ho
namespace Bd.Cl
open Sm Bins Cov Xe Wd Bl Ho Go.RowKit
variable {ws:List Wg} {k:Nat}
def J7 (n:ByteArray):Ex:=.mk 2 0 n .nil []
def NQ (n:ByteArray):List AV:=[.n 2,.n 0,.str n,.sl .nil 0 []]
theorem DH (n:ByteArray):cf (NQ n) (AQ (J7 n)):=by
 rw[FP];exact cf.cons rfl (Cv.refl _) (cf.cons rfl (Cv.refl _) (cf.cons rfl (Cv.refl _) (cf.cons rfl (Cv.nil 0 4) cf.nil)))
abbrev Iv:=Sum ByteArray Ex
def ZA:Iv->List AV
 | .inl n=>NQ n
 | .inr e=>AQ e
def wh:Iv->Ex
 | .inl n=>J7 n
 | .inr e=>e
theorem Fc:∀x:Iv,cf (ZA x) (AQ (wh x))
 | .inl n=>DH n
 | .inr e=>cf.refl fun v a=>by
   have:=TL e;rw[List.all_eq_true] at this;exact this v a
theorem NA:jd ZA:=fun n h d x=>by
 cases x with
 | inl k=>exact⟨rfl,rfl⟩
 | inr e=>exact Ho.fr n h d e
def jz (n:ByteArray)(l:List cp):List Iv:=.inl n::(h_ l).map .inr
theorem IS (n:ByteArray)(l:List cp):(jz n l).map wh=insL (J7 n) l:=by
 unfold jz insL;rw[List.map_cons,qG];show J7 n::(h_ l).map (wh ∘ .inr)=_;rw[show(wh ∘ Sum.inr:Ex->Ex)=id from rfl,List.map_id]
def j0 (n:ByteArray)(l:List cp):List AV:=[.n 23,.n 0,.str ⟨#[]⟩,.sl .any 4 ((jz n l).map ZA)]
theorem IN (n:ByteArray)(l:List cp):cz (.agg (j0 n l)) (.agg (AQ (I7 (J7 n) l))):=by
 rw[rE,<-IS,qG];exact cz.agg (cq.cons (cz.refl _) (cq.cons (cz.refl _) (cq.cons (cz.refl _) (cq.cons (cz.sl (Cv.map fun x _=>Fc x)) cq.nil))))
theorem qt (n:ByteArray):IY jA 79 [(0,.n 2),(2,.str n)]=some (.agg (NQ n)):=BC
theorem BAV (h:Hp)(n:ByteArray):DR jA true h 23 1 [(0,.agg (NQ n))]=some (.own h.length 0 1,h++[qH 4 [NQ n]]):=BC
section
variable (G:Nat->AV)
theorem aA (n:Int)(h:Hp):a_ (En G) 257 [.n n] h (.agg (AQ (cE n))):=by
 refine a_.res ?_ (XX n);refine RN 3 (fun n H=>rfl) ?_;refine e7 Tryz.func257 [.cell 2 79] ?_;have a:=A8 h (qH 4 [EQ]);have c:=O4 (cs:=SL 1 n) a rfl rfl rfl;refine AZ OH @tK ?_;rw[show([AV.int .i64 0,.n 0,.str ⟨#[]⟩,.sl .nil 0 []]:List AV)=EQ from rfl];refine A7 c ?_;rw[IU (b:=h.length) AL (HY (CO a) rfl)];exact⟨rfl,((ext.rfl' h).app _).set (jF _) _⟩
theorem lS (nm:ByteArray)(l:List cp)(s:SM)(hl:l.length<=1048576)(h:Hp):a_ (En G) 258 [.str nm,.sl s 2 (l.map encR)] h (.agg (AQ (I7 (J7 nm) l))):=by
 refine a_.res (r:=.agg (j0 nm l)) ?_ (IN nm l);refine ACalls.pure (R:=fun v H=>Sm.ext h H/\FK h.length H 4 v=.agg (j0 nm l)) 4 ?_ (fun v H ⟨a,b⟩=>⟨a,b⟩);refine II (H:=hint [10,25] []) (ji G) Tryz.func258 rfl (by kernel_rfl) (by kernel_rfl) (jB (by kernel_rfl)) ?_;show dh _ _ _ _ _ (MW _ [.cell 4 79] _);have e:=AU (x:=qH 4 [NQ nm]) (A8 h (qH 4 [EQ]));have T:=A8 (h++[qH 4 [EQ]]) (qH 4 [NQ nm]);have f:Sm.ext h (h++[qH 4 [EQ]]++[qH 4 [NQ nm]]):=((ext.rfl' h).app _).app _
 have d:bw 4 ZA (h++[qH 4 [EQ]]) (jz nm (l.take 0)) (.own (h++[qH 4 [EQ]]).length 0 1) (h++[qH 4 [EQ]]++[qH 4 [NQ nm]]) :=
  .inr ⟨List.cons_ne_nil _ _,_,jF _,by rw[qA];rfl,by rw[qA];exact T⟩
 have C:h.length<(h++[qH 4 [EQ]]).length:=BA;have c:Sm.ext (h++[qH 4 [EQ]]) (h++[qH 4 [EQ]]++[qH 4 [NQ nm]]):=(ext.rfl' _).app _;refine AZ OH @qt ?_;rw[show([AV.int .i64 0,.n 0,.str ⟨#[]⟩,.sl .nil 0 []]:List AV)=EQ from rfl];refine A7 @BAV ?_
 generalize h++[qH 4 [EQ]]++[qH 4 [NQ nm]]=H1 at e f d c|-
 generalize AV.own (h++[qH 4 [EQ]]).length 0 1=u0 at d
 generalize h++[qH 4 [EQ]]=H0 at d C c|-
 clear T;refine EG 0 (fun F H=>∃u,F 4=.ptr h.length 0 0/\F 5=u/\H[h.length]?=some (qH 4 [EQ])/\Sm.ext h H/\bw 4 ZA H0 (jz nm l) u H) (fun _ _=>False) ?_ ?_ (fun _ _ q=>q.elim)
 .refine BB (fun n F H=>∃i u,n+i=l.length/\F 4=.ptr h.length 0 0/\F 5=u/\F 11=.sl s 2 (l.map encR)/\F 12=.n (l.length:Nat)/\F 13=.n (i:Nat)/\H[h.length]?=some (qH 4 [EQ])/\Sm.ext h H/\Sm.ext H0 H/\bw 4 ZA H0 (jz nm (l.take i)) u H) l.length
   ⟨0,u0,BA,AL,AL,AL,AL,AL,e,f,c,d⟩ ?_
  clear e f c d;rintro n F H ⟨i,u,hi,J,K,f11,f12,f13,e,f,c,d⟩;refine AZ f12 f13 ?_;refine DV ?_ ?_<;>intro j
  .simp only[vQ,List.contains_cons,List.contains_nil,Nat.reduceBEq,Bool.or_false,CP,↓reduceIte,Nat.reduceEqDiff,Option.getD_some,om,b_,V5,Option.getD_none,f11,f13,CE j,DL aX KO gM j,pj,pc _ _ [.n 0,.n 0] rfl]
   have V:BR jA (H++[qH 2 [encR l[i]]]) 3 (.ptr H.length 0 0)=some (.n l[i].lo):=by rw[EN ct,VV]
   have X:BR jA (H++[qH 2 [encR l[i]]]) 3 (.ptr H.length 0 1)=some (.n l[i].hi):=by rw[EN ct,UL]
   have e:=AU (x:=qH 2 [encR l[i]]) e;have f:=f.app [qH 2 [encR l[i]]];have c:=c.app [qH 2 [encR l[i]]];have d:=d.app [qH 2 [encR l[i]]]
   generalize H++[qH 2 [encR l[i]]]=H3 at e f c d V X|-
   have A:(jz nm (l.take i)).length+2<=8388608:=by
    unfold jz;rw[zF,jI,WP,List.length_take];omega
   obtain⟨Y,S,ha,E,g,N,a0,a1⟩:=MX .full d NV G9 QF QD U (ys:=[.inr (cE l[i].lo),.inr (cE l[i].hi)]) A c;have M:EJ jA true H3 23 23 u (.sl .full 4 [AQ (cE l[i].lo),AQ (cE l[i].hi)])=some (Y,S):=ha
   have hits:jz nm (l.take i)++[.inr (cE l[i].lo),.inr (cE l[i].hi)]=jz nm (l.take (i+1)):=by
    unfold jz;rw[FL j,qE];rfl
   rw[hits] at E;have I:∀b,db u b->H0.length<=b:=fun b hb=>(d.lt hb).1
   have L:=g _ _ e (fun q=>by have:=I _ q;omega);have Q:Sm.ext h S:=Jk (fun k y q=>g _ _ (DZ f q) (fun q'=>by have:=I _ q';have:=AY q;omega)) (by have:=f.le;omega);refine DI BC ?_;refine AZ V X ?_;refine⟨_,aA G _ _,_,aA G _ _,?_⟩
   try refine LP J K @aT M f13 (CZ i) ?_
   exact⟨n-1,U,i+1,Y,U,AO,AO,AO,AO,AO,L,Q,N,E⟩
  .rw[List.take_of_length_le U] at d
   refine AB ?_;exact⟨u,AO,AO,e,f,d⟩
 .rintro F H ⟨u,J,K,e,f,d⟩
  have O:=d.leaf;have B:([.n 23,.n 0,.str ⟨#[]⟩,u]:List AV).all AV.leaf=true:=by simp [O];exact⟨rfl,rfl,rfl⟩
  have Z:IY jA 79 [(0,.n 23),(3,u)]=some (.agg [.n 23,.n 0,.str ⟨#[]⟩,u]):=by
   rcases d with⟨e1,_⟩|⟨_,o,_,rfl,_⟩
   .exact absurd e1 (List.cons_ne_nil _ _)
   .exact AJ _ _
  refine EH J K Z (O4 e rfl rfl B) ?_;rw[IU (b:=h.length) (DY J) (HY (CO e) rfl)];refine⟨f.set (jF _) _,?_⟩;have P:=d.setB (b:=h.length) C (qH 4 [[.n 23,.n 0,.str ⟨#[]⟩,u]]);have hz:=KC NA P h.length 1 U;show AV.agg [.n 23,.n 0,.str ⟨#[]⟩,FK h.length _ 3 u]=.agg (j0 nm l);rw[hz];rfl
end
def VQ (n:Int)(w:Wg):Bool:=decide (w.lo<=n)&&decide (n<=w.hi)
def MM (n:Int):List Wg->Bool
 | []=>false
 | w::ws=>if VQ n w=true then decide (w.w>0) else MM n ws
theorem yy {n:Int}:∀ {ws:List Wg} {k:Nat} (hk:k<ws.length),(∀(j:Nat) (d:j<k),VQ n (ws[j]'U)=false)->VQ n ws[k]=true->MM n ws=decide (ws[k].w>0)
 | [],k,hk,_,_=>by simp at hk
 | w::ws,0,_,_,h=>by
   have h:VQ n w=true:=h;unfold MM;rw[if_pos h];rfl
 | w::ws,k+1,hk,c,h=>by
   have a:=c 0 U;simp only[List.getElem_cons_zero] at a;unfold MM;rw[if_neg (by rw[a];decide)];exact yy (BQ hk) (fun j d=>by have:=c (j+1) U;simpa using this) (BQ h)
theorem yx {n:Int}:∀ {ws:List Wg},(∀w∈ws,VQ n w=false)->MM n ws=false
 | [],_=>rfl
 | w::ws,h=>by unfold MM;rw[if_neg (by rw[h w BA];decide)];exact yx fun x a=>h x (by simp [a])
def cQ (out:List cp)(n:Int):List cp:=match out.getLast? with
 | some r=>if r.hi=n-1 then out.dropLast++[⟨r.lo,n⟩] else out++[⟨n,n⟩]
 | none=>[⟨n,n⟩]
def UD (l:List Int):List cp:=l.foldl cQ []
theorem pG (l:List Int)(n:Int):UD (l++[n])=cQ (UD l) n:=by unfold UD;rw[List.foldl_append];rfl
def U8 (ws:List Wg):Nat->List Int
 | 0=>[]
 | k+1=>U8 ws k++(if MM (k:Int) ws=true then [(k:Int)] else [])
theorem fM (ws:List Wg):∀k,(U8 ws k).length<=k
 | 0=>jF 0
 | k+1=>by
   have:=fM ws k;simp only[U8,jX];split<;>simp<;>omega
def runs (ws:List Wg)(k:Nat):List cp:=UD (U8 ws k)
def cP (ws:List Wg)(k:Nat):Bool:=match k with
 | 0=>false
 | k+1=>MM (k:Int) ws
theorem bH (ws:List Wg)(k:Nat):runs ws (k+1)=if MM (k:Int) ws=true then cQ (runs ws k) k else runs ws k:=by
 unfold runs;simp only[U8];split
 .rw[pG]
 .rw[jL]
theorem iQ (ws:List Wg):∀k,(cP ws k=true->∃r,(runs ws k).getLast?=some r/\r.hi=(k:Int)-1)/\(cP ws k=false->∀r,(runs ws k).getLast?=some r->r.hi<(k:Int)-1)
 | 0=>⟨(fun h=>by cases h),fun _ r h=>by cases h⟩
 | k+1=>by
   obtain⟨e,f⟩:=iQ ws k;rw[bH];constructor
   .intro h
    have h:MM (k:Int) ws=true:=h;rw[if_pos h];unfold cQ
    cases j:(runs ws k).getLast? with
    | none=>exact⟨⟨k,k⟩,rfl,by show(k:Int)=_;omega⟩
    | some r =>
      simp only;split
      .simp_all
      .simp_all
   .intro h r a
    have h:MM (k:Int) ws=false:=h;rw[if_neg (by rw[h];decide)] at a
    cases c:cP ws k with
    | true=>obtain⟨q,d,g⟩:=e c;rw[d] at a;cases a;omega
    | false=>have:=f c r a;omega
theorem yj (e:MM (k:Int) ws=true)(d:cP ws k=true):∃r,(runs ws k).getLast?=some r/\runs ws (k+1)=(runs ws k).dropLast++[⟨r.lo,k⟩]:=by
 obtain⟨r,a,c⟩:=(iQ ws k).1 d;refine⟨r,a,?_⟩;rw[bH,if_pos e];unfold cQ;rw[a];simp only;rw[if_pos c]
theorem oY (d:MM (k:Int) ws=true)(c:cP ws k=false):runs ws (k+1)=runs ws k++[⟨k,k⟩]:=by
 rw[bH,if_pos d];unfold cQ
 cases a:(runs ws k).getLast? with
 | none=>rw[List.getLast?_eq_none_iff.1 a];rfl
 | some r =>
   have:=(iQ ws k).2 c r a;simp only;rw[if_neg U]
theorem yi (a:MM (k:Int) ws=false):runs ws (k+1)=runs ws k:=by rw[bH,if_neg (by rw[a];decide)]
theorem Gm (ws:List Wg):∀k,∀r∈runs ws k,0<=r.lo/\r.lo<=r.hi/\r.hi<(k:Int)
 | 0,r,h=>by cases h
 | k+1,r,h=>by
   have c:=Gm ws k
   cases a:MM (k:Int) ws with
   | false=>rw[yi a] at h;have:=c r h;omega
   | true =>
     cases d:cP ws k with
     | false =>
       rw[oY a d] at h;rcases zQ.1 h with h|h
       .have:=c r h;omega
       .grind
     | true =>
       obtain⟨g,f,e⟩:=yj a d;rw[e] at h;rcases zQ.1 h with h|h
       .have:=c r (List.dropLast_subset _ h);omega
       .grind
def pk (ws:List Wg):List Int:=0::ws.flatMap fun w=>[w.lo,w.hi+1]
theorem AV3 (ws:List Wg):(pk ws).length=1+2*ws.length:=by
 unfold pk
 have:∀l:List Wg,(l.flatMap fun w=>[w.lo,w.hi+1]).length=2*l.length:=fun l=>by
  induction l with
  | nil=>rfl
  | cons a l c=>rw[List.flatMap_cons,jX,c];simp;omega
 rw[zF,this];omega
theorem wD {n m:Int}:∀ {ws:List Wg},(∀w∈ws,VQ n w=VQ m w)->MM n ws=MM m ws
 | [],_=>rfl
 | w::ws,h=>by
   unfold MM;rw[h w BA,wD fun x a=>h x (by simp [a])]
theorem K4 (d:MM (k:Int) ws=true)(a:cP ws k=false):(k:Int)∈pk ws:=by
 cases k with
 | zero=>simp [pk]
 | succ k =>
   have a:MM (k:Int) ws=false:=a;apply Classical.byContradiction;intro c
   have:MM ((k+1:Nat):Int) ws=MM (k:Int) ws:=wD fun w f=>by
    unfold VQ;have q:((k+1:Nat):Int)≠w.lo:=fun e=>c (by unfold pk;rw[zM,List.mem_flatMap];exact .inr ⟨w,f,by rw[e];simp⟩)
    have A:((k+1:Nat):Int)≠w.hi+1:=fun e=>c (by unfold pk;rw[zM,List.mem_flatMap];exact .inr ⟨w,f,by rw[e];simp⟩)
    have g:decide (w.lo<=((k+1:Nat):Int))=decide (w.lo<=(k:Int)):=by rw[decide_eq_decide];omega
    have j:decide (((k+1:Nat):Int)<=w.hi)=decide ((k:Int)<=w.hi):=by rw[decide_eq_decide];omega
    rw[g,j]
   rw[this,a] at d;cases d
theorem Eb {α:Type} [DecidableEq α]:∀ {l m:List α},l.Nodup->(∀x∈l,x∈m)->l.length<=m.length
 | [],m,_,_=>Nat.zero_le _
 | a::l,m,h,d=>by
   have c:a∈m:=d a BA;rw[List.nodup_cons] at h;have g:=Eb (m:=m.erase a) h.2 fun x f=>(List.mem_erase_of_ne (fun e=>h.1 (by rw[<-e];exact f))).2 (d x (by simp [f]))
   rw[List.length_erase_of_mem c] at g;have:=List.length_pos_of_mem c;simp;omega
theorem oZ (ws:List Wg):∀k,((runs ws k).map cp.lo).Nodup/\∀x∈(runs ws k).map cp.lo,x∈pk ws/\x<(k:Int)
 | 0=>⟨List.nodup_nil,fun x h=>by cases h⟩
 | k+1=>by
   obtain⟨A,g⟩:=oZ ws k
   cases f:MM (k:Int) ws with
   | false=>rw[yi f];exact⟨A,fun x c=>⟨(g x c).1,by have:=(g x c).2;omega⟩⟩
   | true =>
     cases j:cP ws k with
     | false =>
       rw[oY f j,qE];refine⟨List.nodup_append.2 ⟨A,BA,fun a J b E=>?_⟩,fun x c=>?_⟩
       .grind
       .rcases zQ.1 c with h|h
        .grind
        .have e:x=(k:Int):=BQ h
         rw[e];exact⟨K4 f j,U⟩
     | true =>
       obtain⟨r,d,I⟩:=yj f j
       have K:(runs ws k).dropLast++[r]=runs ws k:=by
        obtain⟨q,F⟩:∃h:runs ws k≠[],(runs ws k).getLast h=r:=by
         cases B:runs ws k with
         | nil=>rw[B] at d;cases d
         | cons a l=>rw[B] at d;exact⟨BA,by rw[List.getLast?_eq_some_getLast BA] at d;exact Option.some.inj d⟩
        rw[<-F];exact List.dropLast_concat_getLast q
       have C:(runs ws (k+1)).map cp.lo=(runs ws k).map cp.lo:=by grind
       rw[C];exact⟨A,fun x c=>⟨(g x c).1,by have:=(g x c).2;omega⟩⟩
theorem ASS (ws:List Wg)(k:Nat):(runs ws k).length<=1+2*ws.length:=by
 have h:=Eb (oZ ws k).1 fun x a=>((oZ ws k).2 x a).1
 rw[jI,AV3] at h;exact h
def eD (R:List cp):List Int:=R.flatMap fun r=>[r.lo,r.hi]
def gY (ws:List Wg)(W:Nat):Nat->List Int
 | 0=>[]
 | k+1=>gY ws W k++(if MM (k:Int) ws=true then (if k=0\/MM ((k:Int)-1) ws=false then [(k:Int)] else [])++(if k+1=W\/MM ((k:Int)+1) ws=false then [(k:Int)] else []) else [])
theorem yS (ws:List Wg)(W:Nat):∀k,k<=W->gY ws W k=if cP ws k=true/\k<W/\MM (k:Int) ws=true then eD (runs ws k).dropLast++[((runs ws k).getLast?.map cp.lo).getD 0] else eD (runs ws k)
 | 0,_=>by rw[if_neg (by simp [cP])];rfl
 | k+1,hk=>by
   have f:=yS ws W k U;unfold gY;have B:((k:Int)+1)=((k+1:Nat):Int):=U
   cases e:MM (k:Int) ws with
   | false =>
     have hbs:cP ws (k+1)=false:=e;rw[f,if_neg (by simp [e]),if_neg DX,if_neg (by simp [hbs]),yi e,jL]
   | true =>
     have hbs:cP ws (k+1)=true:=e;rw[if_pos rfl,B];have a:(k+1=W\/MM ((k+1:Nat):Int) ws=false)↔¬(cP ws (k+1)=true/\k+1<W/\MM ((k+1:Nat):Int) ws=true):=by grind
     have c:(k=0\/MM ((k:Int)-1) ws=false)↔cP ws k=false:=by
      cases k with
      | zero=>simp [cP]
      | succ j =>
        have:(((j+1:Nat):Int)-1)=(j:Int):=U;rw[this];show(j+1=0\/MM (j:Int) ws=false)↔MM (j:Int) ws=false;simp
     cases d:cP ws k with
     | false =>
       rw[f,if_neg (by simp [d]),if_pos (c.2 d),oY e d];by_cases he:k+1=W\/MM ((k+1:Nat):Int) ws=false
       .rw[if_pos he,if_neg (a.1 he)]
        unfold eD;rw[List.flatMap_append];rfl
       .simp_all
     | true =>
       obtain⟨r,g,A⟩:=yj e d;rw[f,if_pos ⟨d,U,e⟩,if_neg (fun q=>by rw[c.1 q] at d;cases d),A,g];by_cases he:k+1=W\/MM ((k+1:Nat):Int) ws=false
       .rw[if_pos he,if_neg (a.1 he)]
        unfold eD;rw[List.flatMap_append];simp
       .simp_all
theorem AVW (ws:List Wg)(W:Nat):gY ws W W=eD (runs ws W):=by rw[yS ws W W (jF _),if_neg U]
def iK (nm:ByteArray)(R:List cp):Ex:=if R=[] then cE 0 else PD (J7 nm) R (parts R-1)
def iL (p:Pr)(d:Ds):Ex:=match p.vars[d.var.toNat]? with
 | some v=>iK v.name (runs d.ws (2^v.width.toNat))
 | none=>cE 0
def TB (p:Pr):List Ex:=p.dists.map (iL p)
end Bd.Cl
namespace Ho
open Sm Bins Cov Go.RowKit
variable {a b:List (List Ex)}
theorem Iz {α β:Type}(l:List α)(f:α->β):Cov.nm (l.map f)=Cov.nm l:=by cases l<;>rfl
theorem eL (op n:Int)(c:ByteArray)(m:SM)(args:List Ex):cg (.mk op n c m args)=.mk op n c (Cov.nm args) (args.map cg):=by
 rw[TN];show Ex.mk op n c (Cov.nm (args.map cg)) (args.map cg)=_;rw[Iz]
theorem AZ3 (e:Ex):cg (cg e)=cg e:=by
 induction e using Ex.induct with|h e ih=>?_
 rw[TN e,eL];simp only[Iz];rw[qG];congr 1;exact wB fun x c=>ih x c
theorem AVE (e:Ex)(l:List cp):(insL (cg e) l).map cg=(insL e l).map cg:=by
 unfold insL;rw[jJ,jJ,AZ3]
theorem FF (e:Ex)(l:List cp):cg (I7 (cg e) l)=cg (I7 e l):=by
 rw[WI,WI,eL,eL,AVE];rfl
theorem AZ2 {a b c d:Ex}(e:cg a=cg c)(h2:cg b=cg d):cg (i5 a b)=cg (i5 c d):=by
 unfold i5;rw[eL,eL,jJ,jJ,jJ,jJ,e,h2];rfl
theorem FE (e:Ex)(L:List cp):∀k,cg (PD (cg e) L k)=cg (PD e L k)
 | 0=>FF e _
 | k+1=>AZ2 (FE e L k) (FF e _)
theorem sY {e:Ex}{L:List cp}(h:L≠[]):cg (TV e L)=cg (TW e L):=by
 rw[aI e L h,aJ e L h,FE]
def FT (e:Ex)(l:List cp):Ex:=TV e (normal l)
def GI (e:Ex)(l:List cp):Ex:=TW e (normal l)
def notE (e:Ex):Ex:=.mk 4 0 ⟨#[]⟩ .full [e]
def KP (b:Bin):List Rs:=if b.ranges.l=[] then b.steps else [b.ranges]
def qm (x:Option Ex)(c:List (List Ex)):List (List Ex):=match x with
 | none=>c
 | some y=>c.set (c.length-1) (c[c.length-1]?.getD []++[notE y])
def dy (ins:Ex->List cp->Ex)(p:Pt):Option Ex:=if KY p.bins=[] then none else some (ins p.ex (KY p.bins))
def ZF (ins:Ex->List cp->Ex)(p:Pt)(b:Bin):List (List Ex):=qm (dy ins p) ((KP b).map fun s=>[ins p.ex s.l])
def QV (cs:List (List (List Ex))):Nat:=cs.foldl (fun n c=>max n c.length) 0
def YK (n t:Nat)(c:List (List Ex)):List Ex:=if n-c.length<=t then c[t-(n-c.length)]?.getD [] else []
def rowA (n:Nat)(cs:List (List (List Ex)))(t:Nat):List Ex:=cs.flatMap (YK n t)
def O3 (cs:List (List (List Ex))):List (List Ex):=(List.range (QV cs)).map (rowA (QV cs) cs)
theorem Hw:∀(cs:List (List (List Ex))) (a:Nat),a<=cs.foldl (fun n c=>max n c.length) a/\∀c∈cs,c.length<=cs.foldl (fun n c=>max n c.length) a
 | [],a=>⟨Nat.le_refl _,fun c d=>by cases d⟩
 | x::cs,a=>by
   obtain⟨f,e⟩:=Hw cs (max a x.length);rw[qU];refine⟨U,fun c d=>?_⟩;rcases List.mem_cons.1 d with rfl|d
   .omega
   .exact e c d
theorem rA {cs:List (List (List Ex))}{c:List (List Ex)}(h:c∈cs):c.length<=QV cs:=(Hw cs 0).2 c h
theorem YR:∀(cs:List (List (List Ex))) (a b:Nat),a<=b->(∀c∈cs,c.length<=b)->cs.foldl (fun n c=>max n c.length) a<=b
 | [],_,_,h,_=>h
 | x::cs,a,b,h,d=>by
   rw[qU];exact YR cs _ b (by have:=d x BA;omega) fun c e=>d c (by simp [e])
theorem xL (cs:List (List (List Ex)))(k:Nat)(hk:k<cs.length):QV (cs.take (k+1))=max (QV (cs.take k)) cs[k].length:=by
 unfold QV;rw[List.take_succ_eq_append_getElem hk,List.foldl_append];rfl
def lk (a b:List (List Ex)):Prop:=a.map (·.map cg)=b.map (·.map cg)
theorem nY (h:lk a b):a.length=b.length:=by have:=congrArg List.length h;simpa using this
theorem zd (h:lk a b)(i:Nat):(a[i]?.getD []).map cg=(b[i]?.getD []).map cg:=by
 have c:(a.map (·.map cg))[i]?=(b.map (·.map cg))[i]? := by rw[show a.map (·.map cg)=b.map (·.map cg) from h]
 rw[zB,zB] at c
 cases d:a[i]? <;> cases e:b[i]? <;> rw[d,e] at c<;>simp at c|-
 exact c
theorem E_ (x:Option Ex)(c:List (List Ex)):(qm x c).length=c.length:=by cases x<;>simp [qm]
theorem AZS {x y:Option Ex}(h:lk a b)(c:x.map cg=y.map cg):lk (qm x a) (qm y b):=by
 cases x with
 | none=>cases y with
   | none=>exact h
   | some y=>cases c
 | some x=>cases y with
   | none=>cases c
   | some y =>
     have d:cg x=cg y:=BQ c;have e:=nY h;show(a.set (a.length-1) _).map _=(b.set (b.length-1) _).map _;rw[List.map_set,List.map_set,show a.map (·.map cg)=b.map (·.map cg) from h,e,qE,qE,zd h]
     have:cg (notE x)=cg (notE y):=by
      unfold notE;rw[eL,eL,jJ,jJ,d];rfl
     rw[jJ,jJ,this]
theorem AUX {p:Pt}{b:Bin}(e:∀s∈KP b,normal s.l≠[])(d:KY p.bins≠[]->normal (KY p.bins)≠[]):lk (ZF FT p b) (ZF GI p b):=by
 unfold ZF;refine AZS ?_ ?_
 .show List.map _ (List.map _ _)=List.map _ (List.map _ _)
  rw[qG,qG];refine wB fun s c=>?_
  show [cg (FT p.ex s.l)]=[cg (GI p.ex s.l)];unfold FT GI;rw[sY (e s c)]
 .unfold dy
  split
  .rfl
  .rename_i h
   show some (cg _)=some (cg _);unfold FT GI;rw[sY (d h)]
theorem AXU (h:lk a b)(n t:Nat):(YK n t a).map cg=(YK n t b).map cg:=by
 unfold YK;rw[nY h];split
 .exact zd h _
 .rfl
theorem Zv {e d:List (List (List Ex))}(h:e.length=d.length)(f:∀i (g:i<e.length) (h2:i<d.length),lk e[i] d[i]):lk (O3 e) (O3 d):=by
 have gen:∀(e d:List (List (List Ex))),e.length=d.length->(∀i (g:i<e.length) (h2:i<d.length),lk e[i] d[i])->(∀a,e.foldl (fun n c=>max n c.length) a=d.foldl (fun n c=>max n c.length) a)/\∀n t,(e.flatMap (YK n t)).map cg=(d.flatMap (YK n t)).map cg:=by
  intro e
  induction e with
  | nil=>intro d h _;cases d with
    | nil=>exact⟨fun _=>rfl,fun _ _=>rfl⟩
    | cons y q=>simp at h
  | cons x J I =>
    intro d h f
    cases d with
    | nil=>simp at h
    | cons y q =>
      obtain⟨E,F⟩:=I q (BQ h) fun i g h2=>f (i+1) (BQ g) (BQ h2)
      have j:lk x y:=f 0 BA BA;refine⟨fun a=>?_,fun n t=>?_⟩
      .rw[qU,qU,nY j,E]
      .rw[List.flatMap_cons,List.flatMap_cons,qE,qE,F,AXU j]
 obtain⟨A,B⟩:=gen e d h f;have C:QV e=QV d:=A 0;show(List.map _ _).map _=(List.map _ _).map _;rw[C,qG,qG];exact wB fun t _=>B _ _
end Ho
namespace Bins
open Sm
variable {xs:List cp}
def ou (r:cp):Prop:=(-9223372036854775808<=r.lo/\r.lo<=9223372036854775807)/\-9223372036854775808<=r.hi/\r.hi<=9223372036854775807
structure Inv (ps out:List cp):Prop where
 f:∀r∈out,full r=true/\ou r
 pw:out.Pairwise (fun a b=>a.lo<=b.lo)
 gap:∀(i:Nat) (a b:cp),out[i]?=some a->out[i+1]?=some b->glue a b=false
 ins:∀v,inside out v=inside ps v
 low:∀r∈out,∃p∈ps,r.lo=p.lo
theorem QK (xs ys:List cp)(v:Int):inside (xs++ys) v=(inside xs v||inside ys v):=by simp [inside]
theorem Wa {t r:cp}(g:full t=true/\ou t)(f:full r=true/\ou r)(e:t.lo<=r.lo)(a:glue t r=true)(v:Int):
  (decide (t.lo<=v)&&decide (v<=max t.hi r.hi))=((decide (t.lo<=v)&&decide (v<=t.hi))||(decide (r.lo<=v)&&decide (v<=r.hi))):=by
 obtain⟨c,⟨q,A⟩,B,C⟩:=g;obtain⟨j,⟨E,F⟩,I,J⟩:=f;simp only[full,decide_eq_true_eq] at c j
 have d:r.lo<=t.hi+1:=by
  simp only[glue,qO,decide_eq_true_eq] at a;rcases a with a|a
  .omega
  .rcases (U : -9223372036854775808<r.lo\/r.lo<=-9223372036854775808) with h|h
   .rw[wrap_i64 U U] at a;omega
   .omega
 rw[wJ];simp only[jY,qO,decide_eq_true_eq];omega
theorem Inv.step {ps out:List cp}(h:Inv ps out){r:cp}(N:full r=true/\ou r)(M:∀p∈ps,p.lo<=r.lo):Inv (ps++[r]) (join out r):=by
 have A:∀x∈out,x.lo<=r.lo:=fun x c=>by obtain⟨p,q,e⟩:=h.low x c;have:=M p q;omega
 have E:∀v,inside [r] v=(decide (r.lo<=v)&&decide (v<=r.hi)):=fun v=>by simp [inside]
 have plain:(∀t,out.getLast?=some t->glue t r=false)->Inv (ps++[r]) (out++[r]):=by
  intro R;refine⟨?_,?_,?_,?_,?_⟩
  .intro x c
   rw[zQ] at c;rcases c with c|c
   .exact h.f x c
   .simp at c;subst c;exact N
  .rw[List.pairwise_append]
   exact⟨h.pw,BA,fun a j b d=>by simp at d;subst d;exact A a j⟩
  .intro i a b j d
   rcases zC (i+1) out.length with B|B
   .rw[qF U] at j d
    exact h.gap i a b j d
   .grind
  .intro v;rw[QK,QK,h.ins]
  .intro x c
   rw[zQ] at c;rcases c with c|c
   .obtain⟨p,q,e⟩:=h.low x c;exact⟨p,by simp [q],e⟩
   .simp_all
 unfold join
 cases L:out.getLast? with
 | none=>exact plain (fun t C=>by rw[L] at C;cases C)
 | some t =>
   obtain⟨g,rfl⟩:∃g,out=g++[t]:=by
    obtain⟨g,Q⟩:=List.getLast?_eq_some_iff.1 L;exact⟨g,Q⟩
   cases J:glue t r with
   | false=>simp only[J,Bool.false_eq_true,if_false];exact plain (fun t' F=>by rw[L] at F;cases F;exact J)
   | true =>
     simp only[J,if_true,List.dropLast_concat];have C:=h.f t BA;have O:=A t BA
     have K:full ⟨t.lo,max t.hi r.hi⟩=true:=by
      have B:=C.1
      simp only[full,decide_eq_true_eq] at B|-
      omega
     refine⟨?_,?_,?_,?_,?_⟩
     .intro x c
      rw[zQ] at c;rcases c with c|c
      .exact h.f x (by simp [c])
      .simp at c;subst c
       refine⟨K,?_⟩;obtain⟨_,⟨I,P⟩,S,T⟩:=C;obtain⟨_,⟨V,X⟩,Y,Z⟩:=N;exact⟨⟨I,P⟩,by show _<=max t.hi r.hi;omega,by show max t.hi r.hi<=_;omega⟩
     .have q:=h.pw
      rw[List.pairwise_append] at q|-
      exact⟨q.1,BA,fun a j b d=>by simp at d;subst d;exact q.2.2 a j t BA⟩
     .intro i a b j d
      rcases zC (i+1) g.length with B|B
      .rw[qF U] at j d
       exact h.gap i a b (by rw[qF U];exact j) (by rw[qF U];exact d)
      .have I:i+1=g.length:=by
        have:=AY d;simp at this;omega
       rw[List.getElem?_append_right B,I] at d;rw[qF U] at j;simp at d;subst d;have:=h.gap i a t (by rw[qF U];exact j) (by rw[List.getElem?_append_right B,I];simp)
       unfold glue at this|-
       exact this
     .intro v
      rw[QK,QK,<-h.ins,QK,E,Bool.or_assoc];congr 1;have:=Wa C N O J v;simp only[inside,List.any_cons,List.any_nil,Bool.or_false];exact this
     .intro x c
      rw[zQ] at c;rcases c with c|c
      .obtain⟨p,q,e⟩:=h.low x (by simp [c]);exact⟨p,by simp [q],e⟩
      .simp at c;subst c
       obtain⟨p,q,e⟩:=h.low t BA;exact⟨p,by simp [q],e⟩
theorem Inv.fold:∀(xs ps out:List cp),Inv ps out->(ps++xs).Pairwise (fun a b=>a.lo<=b.lo)->(∀r∈xs,full r=true/\ou r)->Inv (ps++xs) (xs.foldl join out)
 | [],ps,out,h,_,_=>BQ h
 | x::xs,ps,out,h,c,g=>by
   have e:ps++x::xs=(ps++[x])++xs:=BA
   rw[e] at c|-
   have d:=(List.pairwise_append.1 c).1;exact Inv.fold xs (ps++[x]) (join out x) (h.step (g x BA) fun p f=>(List.pairwise_append.1 d).2.2 p f x BA) c (fun r j=>g r (by simp [j]))
theorem Vk (f:∀r∈xs,ou r):Inv ((xs.filter full).mergeSort kT) (normal xs):=by
 have e:((xs.filter full).mergeSort kT).Pairwise (fun a b=>a.lo<=b.lo):=by
  have:=List.pairwise_mergeSort (le:=kT) (fun a b c g j=>by simp [kT] at *;omega) (fun a b=>by simp [kT];omega) (xs.filter full);exact this.imp fun {a b} h=>by simpa [kT] using h
 have:=Inv.fold ((xs.filter full).mergeSort kT) [] [] ⟨BA,.nil,BA,fun _=>rfl,BA⟩ (BQ e) (fun r d=>by
  rw[List.mem_mergeSort,List.mem_filter] at d
  exact⟨d.2,f r d.1⟩)
 unfold normal bU;simpa using this
theorem Ts {ys:List cp}(h:xs.Perm ys)(v:Int):inside xs v=inside ys v:=by
 unfold inside;rw[wJ,qK,qK];exact⟨fun⟨r,h1,h2⟩=>⟨r,h.mem_iff.1 h1,h2⟩,fun⟨r,h1,h2⟩=>⟨r,h.mem_iff.2 h1,h2⟩⟩
theorem Tt (xs:List cp)(v:Int):inside (xs.filter full) v=inside xs v:=by
 unfold inside;rw[wJ,qK,qK];constructor
 .grind
 .rintro⟨r,c,a⟩
  refine⟨r,List.mem_filter.2 ⟨c,?_⟩,a⟩;simp only[jY,decide_eq_true_eq] at a;simp only[full,decide_eq_true_eq];omega
theorem uM (a:∀r∈xs,ou r)(v:Int):inside (normal xs) v=inside xs v:=by
 rw[(Vk a).ins,Ts (List.mergeSort_perm _ _),Tt]
end Bins
namespace Ho
open Sm Bins Cov Go.RowKit
variable {b:Bin} {p:Pt} {X:List Ex} {N n ob t:Nat} {H h:Hp} {v:Nat->AV} {c:List (List Ex)} {e:Ex}
theorem U_ (b:Bin):sets b=KP b:=by
 unfold sets KP
 cases h:b.ranges.l with
 | nil=>rfl
 | cons x a=>rw[if_pos BA,if_neg BA]
structure VB (b:Bin):Prop where
 one:b.steps=[]\/b.ranges.l=[]
 ne:KP b≠[]
 few:(KP b).length<=8
 k0:0<=b.kind
 k2:b.kind<=2
 sk:b.kind≠0->b.steps=[]
 each:∀s∈KP b,s.l≠[]/\s.l.length<=64/\∀r∈s.l,0<=r.lo/\r.lo<=r.hi/\r.hi<=65535
theorem Nl (h:I5 b=0):VB b:=by
 unfold I5 at h;split at h
 case isFalse=>cases h
 split at h
 case isTrue=>cases h
 rename_i L C;split at h
 case isTrue=>cases h
 rename_i E;split at h
 case isTrue=>cases h
 rename_i M;split at h
 case isTrue=>cases h
 rename_i F;have f:J9 b=false:=BQ C;unfold J9 at f;simp only[wG,decide_eq_false_iff_not,Bool.and_eq_false_iff] at f;obtain⟨⟨⟨⟨⟨P,Q⟩,R⟩,S⟩,T⟩,K⟩:=f
 have B:∀s∈b.steps,s.l≠[]:=fun s a e=>by
  have:b.steps.any (fun l=>decide (l.l.length=0))=true:=qK.2 ⟨s,a,by rw[e];rfl⟩;exact E this
 have g:∀s∈sets b,s.l.length<=64:=fun s a=>by
  rcases Nat.lt_or_ge 64 s.l.length with q|q
  .simp_all
  .exact q
 have d:∀s∈sets b,∀r∈s.l,bad r=false:=fun s a r A=>by
  cases I:bad r with
  | false=>rfl
  | true=>exact absurd (qK.2 ⟨s,a,qK.2 ⟨r,A,I⟩⟩) F
 have j:b.steps=[]\/b.ranges.l=[]:=by
  rcases Classical.em (b.steps=[]) with q|q
  .exact .inl q
  .refine .inr ?_
   have O:0<b.steps.length:=qQ.2 q;rcases Classical.em (b.ranges.l=[]) with r|r
   .exact r
   .simp_all
 have J:b.steps≠[]\/b.ranges.l≠[]:=by grind
 rw[U_] at g d;refine⟨j,?_,?_,U,U,fun hk=>?_,fun s a=>⟨?_,g s a,fun r A=>?_⟩⟩
 .unfold KP
  split
  .simp_all
  .exact List.cons_ne_nil _ _
 .unfold KP
  split
  .simp at K;omega
  .simp
 .simp_all
 .unfold KP at a
  split at a
  .exact B s a
  .simp_all
 .have:=d s a r A
  unfold bad at this;simp only[wG,decide_eq_false_iff_not] at this;omega
structure VP (p:Pt):Prop where
 n1:1<=p.bins.length
 n64:p.bins.length<=64
 ex:c9 p.ex=0
 bins:∀b∈p.bins,VB b
theorem Nk (h:H8 p=0):VP p:=by
 obtain⟨a,d⟩:=lR h;unfold H8 at h;split at h
 .cases h
 split at h
 .rename_i q;exact absurd h q
 rename_i g;split at h
 .cases h
 split at h
 .cases h
 split at h
 .rename_i q;exact absurd h q
 rename_i j;exact⟨a,d,BQ g,fun b f=>Nl (aO _ (BQ j) b f)⟩
theorem oK {m:Mo}(h:F6 m=0):∀p∈m.pts,VP p:=by
 unfold F6 at h;split at h
 .cases h
 split at h
 .rename_i q;exact absurd h q
 rename_i q;exact fun p a=>Nk (aO _ (BQ q) p a)
theorem tN {n:Nat}:∀ {l:List Bin},(∀b∈l,b.kind≠0->b.ranges.l.length<=n)->(KY l).length<=n*l.length
 | [],_=>by simp [KY]
 | b::l,h=>by
   have d:=tN (l:=l) fun b a=>h b (by simp [a])
   show((if b.kind≠0 then b.ranges.l else [])++KY l).length<=n*(l.length+1);rw[jX,Nat.mul_add];by_cases hk:b.kind≠0
   .grind
   .rw[if_neg hk,zH];omega
theorem VB.ranges {b:Bin}(v:VB b)(hk:b.kind≠0):KP b=[b.ranges]:=by
 rcases Classical.em (b.ranges.l=[]) with q|q
 .have d:=setsB_nil' q
  have a:=v.ne;rw[d,v.sk hk] at a;exact absurd rfl a
 .unfold KP;rw[if_neg q]
 where setsB_nil' {b:Bin} (h:b.ranges.l=[]):KP b=b.steps:=by unfold KP;rw[if_pos h]
theorem VP.badLen (v:VP p):(KY p.bins).length<=4096:=by
 have:=tN (n:=64) (l:=p.bins) fun b a hk=>((v.bins b a).each b.ranges (by rw[(v.bins b a).ranges hk];simp)).2.1
 have:=v.n64;omega
theorem F4 {r:cp}:∀ {l:List Bin},r∈KY l->∃b∈l,b.kind≠0/\r∈b.ranges.l
 | b::l,h=>by
   rcases List.mem_append.1 (show r∈(if b.kind≠0 then b.ranges.l else [])++KY l from h) with h|h
   .simp_all
   .obtain⟨a,d,f⟩:=F4 h;exact⟨a,by simp [d],f⟩
theorem VP.badOk (v:VP p):∀r∈KY p.bins,0<=r.lo/\r.lo<=r.hi/\r.hi<=65535:=fun r a=>by
 obtain⟨b,d,hk,a⟩:=F4 a;exact((v.bins b d).each b.ranges (by rw[(v.bins b d).ranges hk];simp)).2.2 r a
theorem S_ {xs:List cp}(h:∀r∈xs,0<=r.lo/\r.lo<=r.hi/\r.hi<=65535)(v:Int):inside (normal xs) v=inside xs v:=uM (fun r a=>by have:=h r a;unfold ou;omega) v
theorem xE {xs:List cp}(h:∀r∈xs,0<=r.lo/\r.lo<=r.hi/\r.hi<=65535)(f:xs≠[]):normal xs≠[]:=by
 intro e
 cases xs with
 | nil=>exact f rfl
 | cons r g =>
   have a:=S_ h r.lo;rw[e] at a;have d:inside (r::g) r.lo=true:=qK.2 ⟨r,BA,by have:=h r BA;simp;omega⟩;rw[d] at a;cases a
def eJ (l:List Ex):List AV:=Bm ⟨.any,l⟩
def c_ (x:Ex):List AV:=[.sl .full 4 [AQ x]]
def KJ (X:List Ex):Ex:=X[X.length-1]?.getD (cE 0)
def ZW (X:List Ex):Option Ex->List (List AV)
 | none=>X.map c_
 | some y=>(X.map c_).set (X.length-1) [.sl .any 4 [AQ (KJ X),AQ (notE y)]]
theorem vV (X:List Ex)(y:Option Ex):(ZW X y).length=X.length:=by cases y<;>simp [ZW]
theorem Gn (x:Ex):cf (c_ x) (eJ [x]):=cf.cons rfl (Cv.any BA 4 _) cf.nil
theorem Eh (X:List Ex)(y:Option Ex):Cv (.sl .any 1 (ZW X y)) (.sl .any 1 ((qm y (X.map fun x=>[x])).map eJ)):=by
 refine Cv.rows (by rw[jI,E_,jI,vV]) fun i r j a d=>?_
 cases y with
 | none =>
   change ((X.map fun x=>[x]).map eJ)[i]?=some j at d;change (X.map c_)[i]?=some r at a;rw[qG,zB] at d;rw[zB] at a
   cases g:X[i]? with
   | none=>rw[g] at a;cases a
   | some x =>
     rw[g] at a d;cases a;cases d;exact Gn x
 | some y =>
   change (((X.map fun x=>[x]).set ((X.map fun x=>[x]).length-1) ((X.map fun x=>[x])[(X.map fun x=>[x]).length-1]?.getD []++[notE y])).map eJ)[i]?=some j at d;change ((X.map c_).set (X.length-1) [.sl .any 4 [AQ (KJ X),AQ (notE y)]])[i]?=some r at a;have f:i<X.length:=by have:=AY a;simpa using this
   rw[zW] at a;rw[zB,zW] at d;by_cases e:X.length-1=i
   .have q:(X.map fun x=>[x])[X.length-1]?.getD []=[KJ X]:=by
     unfold KJ;rw[zB,jP U];rfl
    rw[if_pos e,if_pos (by simpa using U)] at a;rw[jI,if_pos e,if_pos U,q] at d;cases a;cases d;exact cf.cons rfl (Cv.refl _) cf.nil
   .rw[if_neg e] at a
    rw[jI,if_neg e,zB] at d;rw[zB,jP f] at a;rw[jP f] at d;cases a;cases d;exact Gn _
theorem xN (h:X≠[]):X[X.length-1]?=some (KJ X):=by
 have:0<X.length:=qQ.2 h;unfold KJ;rw[jP U];rfl
theorem nQ:jd c_:=fun _ _ _ _=>⟨rfl,rfl⟩
theorem Zm {n:Nat}{H:Hp}{ob a:Nat}{X:List Ex}{y:Ex}(B:n<=ob)(h2:n<=a)(_:X≠[])(g:H[ob]?=some (qH 1 ((X.map c_).set (X.length-1) [.own a 0 2])))
  (A:H[a]?=some (qH 4 [AQ (KJ X),AQ (notE y)])):FK n H 4 (.own ob 0 X.length)=.sl .any 1 (ZW X (some y)):=by
 have q:FK n H 3 (.own a 0 2)=.sl .any 4 [AQ (KJ X),AQ (notE y)]:=ew (f:=AQ) (xs:=[KJ X,notE y]) (d:=1) fr h2 A;rw[Cov.ez n H 3 ob 0 X.length 1 _ U g,zI,jK BA,List.map_set,jJ,jM,q,ft nQ n H 2 X];rw[if_pos]
 .rfl
 refine⟨BA,?_⟩;rw[zJ];intro row j;rcases List.mem_or_eq_of_mem_set j with j|rfl
 .obtain⟨x,_,rfl⟩:=zO.1 j;rfl
 .rfl
theorem Zn {y:Ex}(f:n<=ob)(g:H[ob]?=some (qH 1 (ZW X (some y)))):FK n H 4 (.own ob 0 X.length)=.sl .any 1 (ZW X (some y)):=by
 have j:=vV X (some y)
 have d:(ZW X (some y)).map (·.map (FK n H 3))=ZW X (some y):=by
  show((X.map c_).set (X.length-1) _).map _=_;rw[List.map_set,ft nQ n H 2 X];rfl
 rw[Cov.ez n H 3 ob 0 X.length 1 _ U g,zI,jK U,d];rw[if_pos];refine⟨U,?_⟩;rw[zJ];intro row a;rcases List.mem_or_eq_of_mem_set a with a|rfl
 .obtain⟨x,_,rfl⟩:=zO.1 a;rfl
 .rfl
structure A4 (p:Pt) (b:Bin):Prop where
 hs:KP b≠[]
 hl:(KP b).length<=1048576
 hr:∀s∈KP b,s.l.length<=1048576
 hb:(KY p.bins).length<=1048576
 hn:p.bins.length<=1048576
 hw:wt p.ex<=1048576
theorem nh (h:Hp)(m:SM)(xs:List (List AV)):DR jA false h 85 1 [(0,.sl m 2 xs)]=some (.sl .full 1 [[.sl m 2 xs]],h):=BC
theorem Jp (h:Hp)(a b:Int)(s:ByteArray)(m:SM)(xs:List (List AV)):DR jA false h 23 1 [(0,.agg [.n a,.n b,.str s,.sl m 4 xs])]=some (.sl .full 4 [[.n a,.n b,.str s,.sl m 4 xs]],h):=BC
theorem Q8 (h:Hp)(e:Ex):DR jA false h 23 1 [(0,.agg (AQ e))]=some (.sl .full 4 [AQ e],h):=by
 rw[FP];exact Jp h _ _ _ _ _
theorem sf (h:Hp)(m:SM)(xs:List (List AV)):DR jA false h 100 1 [(0,.sl m 4 xs)]=some (.sl .full 1 [[.sl m 4 xs]],h):=BC
theorem Cu (xs:List (List AV)):IY jA 79 [(0,.n 4),(3,.sl .full 4 xs)]=some (.agg [.n 4,.n 0,.str ⟨#[]⟩,.sl .full 4 xs]):=BC
theorem Ea (e:Ex):AQ (notE e)=[.n 4,.n 0,.str ⟨#[]⟩,.sl .full 4 [AQ e]]:=by rw[FP];rfl
theorem vh {b:Nat}{x:Bin}(a:H[b]?=some (qH 4 [JD x])):BR jA H 85 (.ptr b 0 3)=some (.sl x.sm 1 (x.steps.map encS)):=by
 rw[BJ Y7 a (row:=JD x) rfl,XU]
theorem Dc {b:Nat}(a:H[b]?=some (qH 6 [GL p])):BR jA H 82 (.ptr b 0 0)=some (.agg (GL p)):=by
 rw[EK lD cK a rfl (by rw[JH];exact jF 6),zI,<-JH p,List.take_length]
theorem XK (h:b.ranges.l=[]):KP b=b.steps:=by unfold KP;rw[if_pos h]
theorem dS (h:b.ranges.l≠[]):KP b=[b.ranges]:=by unfold KP;rw[if_neg h]
section
variable (G:Nat->AV)
theorem tB (p:Pt)(k:Nat)(hk:k<p.bins.length)(B:A4 p p.bins[k])(h:Hp):a_ (En G) 93 [.agg (GL p),.n (k:Nat)] h (.sl .any 1 ((ZF FT p p.bins[k]).map eJ)):=by
 have a3:=Eh ((KP p.bins[k]).map fun s=>FT p.ex s.l) (dy FT p);have aa:(((KP p.bins[k]).map fun s=>FT p.ex s.l).map fun x=>[x])=(KP p.bins[k]).map fun s=>[FT p.ex s.l]:=by rw[qG];rfl
 rw[aa] at a3;refine a_.res ?_ (cz.sl a3);clear a3 aa;refine ACalls.pure (R:=fun v H=>Sm.ext h H/\FK h.length H 4 v=.sl .any 1 (ZW ((KP p.bins[k]).map fun s=>FT p.ex s.l) (dy FT p))) 4 ?_ (fun v H ⟨a,b⟩=>⟨a,b⟩);have E:=B.hs;have a7:=B.hl;have a1:=B.hr;have a8:=B.hb;have aj:=B.hn;have a9:=B.hw;refine II (H:=hint [61] []) (ji G) Tryz.func93 rfl (by kernel_rfl) (by kernel_rfl) (jB (by kernel_rfl)) ?_;show dh _ _ _ _ _ (MW _ [.tmp 4] _);have gp:=AU (x:=qH 4 [JD p.bins[k]]) (A8 h (qH 6 [GL p]));have gb:=A8 (h++[qH 6 [GL p]]) (qH 4 [JD p.bins[k]]);have hx:Sm.ext h (h++[qH 6 [GL p]]++[qH 4 [JD p.bins[k]]]):=((ext.rfl' h).app _).app _;simp only[vQ,jZ,jU,jV,zK,CP,XE,V8,↓reduceIte,jC,b_,XB,JW,rX,jQ,tz,qo (A8 h (qH 6 [GL p])),CE hk,DL nD dK MP hk,e9,gg _ _ [.str ⟨#[]⟩,.n 0,.sl .nil 0 [],.sl .nil 0 []] rfl]
 generalize h++[qH 6 [GL p]]++[qH 4 [JD p.bins[k]]]=H0 at gp gb hx|-
 generalize (h++[qH 6 [GL p]]).length=b5 at gb|-
 generalize p.bins[k]=b at gb E a7 a1|-
 refine AZ (vh gb) (vi gb) ?_;refine UQ (fun F H=>∃s,F 2=.ptr h.length 0 0/\F 6=.sl s 1 ((KP b).map encS)/\H=H0) (fun _ _=>False) (fun T=>?_) (fun T=>?_) ?_ (fun _ _ q=>q.elim)
 .have am:b.ranges.l≠[]:=by
   intro q;rw[q] at T;exact absurd T DX
  refine AZ (vi gb) nh ?_;exact⟨_,AO,by rw[dS am];exact rfl,AO⟩
 .have he:b.ranges.l=[]:=by
   have:=of_decide_eq_false T;exact wP.1 U
  refine AB ?_;exact⟨_,AO,by rw[XK he],AO⟩
 rintro F H ⟨s,V,f6,rfl⟩
 generalize KP b=S at f6 E a7 a1|-
 refine A7 f6 ?_;refine EG 0 (fun F f=>∃v,F 2=.ptr h.length 0 0/\F 7=v/\Sm.ext H f/\bw 1 c_ H (S.map fun s=>FT p.ex s.l) v f) (fun _ _=>False) ?_ ?_ (fun _ _ q=>q.elim)
 .refine BB (fun n F f=>∃i v,n+i=S.length/\F 2=.ptr h.length 0 0/\F 7=v/\F 26=.sl s 1 (S.map encS)/\F 27=.n (S.length:Nat)/\F 28=.n (i:Nat)/\Sm.ext H f/\bw 1 c_ H ((S.take i).map fun s=>FT p.ex s.l) v f) S.length
   ⟨0,.sl .nil 0 [],BA,UT V,FB,UT f6,FB,FB,ext.rfl' _,by rw[qA];exact bw.nil _ _ _ _⟩ ?_
  clear V f6;rintro n F f ⟨i,v,hi,V,Z,ae,af,Y,A,ho⟩;refine AZ af Y ?_;refine DV ?_ ?_<;>intro M
  .have L:=DZ A gp
   have ad:((S.take i).map fun s=>FT p.ex s.l).length<8388608:=by rw[jI,jT];omega
   obtain⟨v',Q,ha,an,_,ak,_,_⟩:=ho.append (P:=jA) lK mO oH mF U ad A (FT p.ex S[i].l);have ai:EJ jA true f 100 100 v (.sl .full 1 [[.sl .full 4 [AQ (FT p.ex S[i].l)]]])=some (v',Q):=ha
   have ao:(S.take (i+1)).map (fun s=>FT p.ex s.l)=(S.take i).map (fun s=>FT p.ex s.l)++[FT p.ex S[i].l]:=by
    rw[jW M,qE];rfl
   simp only[vQ,jZ,jU,jV,zK,CP,↓reduceIte,jC,b_,eG,uQ,V,Z,ae,Y,CE M,BK TP M,lX,rv L];have O:a_ (En G) 168 [.agg (AQ p.ex),.sl S[i].m 2 (S[i].l.map encR)] f (.agg (AQ (FT p.ex S[i].l))):=fk G p.ex S[i].l S[i].m (a1 _ (jH M)) a9 f;refine O.use ?_;refine LP Z Y @Q8 @sf ai (CZ i) ?_;exact⟨n-1,U,i+1,v',U,AO,AO,AO,AO,AO,ak,by rw[ao];exact an⟩
  .rw[jK U] at ho
   refine AB ?_;exact⟨v,AO,AO,A,ho⟩
 rintro F f ⟨v,V,Z,A,ho⟩;clear f6;have L:=DZ A gp;refine AZ V (Dc L) ?_;refine(AV8 G p aj a8 f).uu ?_;have au:0<S.length:=qQ.2 E
 obtain⟨ob,rfl,ar,j⟩:∃ob,v=.own ob 0 S.length/\H.length<=ob/\f[ob]?=some (qH 1 ((S.map fun s=>FT p.ex s.l).map c_)):=by
  rcases ho with⟨e1,_⟩|⟨_,o,h1,h2,h3⟩
  .exact absurd (BQ e1) E
  .exact⟨o,by rw[h2,jI],h1,h3⟩
 have C:(S.map fun s=>FT p.ex s.l).length=S.length:=BA;have a0:(S.map fun s=>FT p.ex s.l)≠[]:=BQ E;have ac:=hx.trans A;have av:=hx.le
 generalize (S.map fun s=>FT p.ex s.l)=X at j C a0|-
 refine BL ?_ ?_<;>intro T
 .have I:KY p.bins≠[]:=by
   intro q;rw[q] at T;exact absurd T DX
  have a2:dy FT p=some (FT p.ex (KY p.bins)):=by unfold dy;rw[if_neg I]
  rw[a2];have ap:IntKind.i64.wrap (((S.length:Nat):Int)-1)=((S.length-1:Nat):Int):=by rw[wrap_i64 U U];omega
  have O:a_ (En G) 168 [.agg (AQ p.ex),.sl (Cov.nm (KY p.bins)) 2 ((KY p.bins).map encR)] f (.agg (AQ (FT p.ex (KY p.bins)))):=fk G p.ex (KY p.bins) (Cov.nm (KY p.bins)) a8 a9 f
  generalize FT p.ex (KY p.bins)=y at O|-
  have J:(X.map c_)[S.length-1]?=some (c_ (KJ X)):=by
   rw[zB,<-C,xN a0];rfl
  have i1:JJ 1 f (.own ob 0 S.length) (.n ((S.length-1:Nat):Int))=some (.ptr ob (S.length-1) 0):=by rw[GR j U,jG]
  have d1:BR jA f 23 (.ptr ob (S.length-1) 0)=some (.sl .full 4 [AQ (KJ X)]):=by rw[BJ MQ j J];rfl
  have ha:EJ jA true f 23 23 (.sl .full 4 [AQ (KJ X)]) (.sl .full 4 [EQ])=some (.own f.length 0 2,f++[qH 4 ([AQ (KJ X)]++[EQ])]) :=
   aU NV G9 QF QD (H6 f .full 4 [EQ]) BA (JF BA U)
  have gN:=A8 f (qH 4 ([AQ (KJ X)]++[EQ]));have gO:=AU (x:=qH 4 ([AQ (KJ X)]++[EQ])) j;have aq:=AY j;have i2:JJ 4 (f++[qH 4 ([AQ (KJ X)]++[EQ])]) (.own f.length 0 2) (.n ((1:Nat):Int))=some (.ptr f.length 1 0):=GR (n:=1) gN DX;have i3:JJ 1 (f++[qH 4 ([AQ (KJ X)]++[EQ])]) (.own ob 0 S.length) (.n ((S.length-1:Nat):Int))=some (.ptr ob (S.length-1) 0):=by rw[GR gO U,jG]
  have a6:=ac.app [qH 4 ([AQ (KJ X)]++[EQ])];generalize f++[qH 4 ([AQ (KJ X)]++[EQ])]=Q at gN gO i2 i3 ha a6;generalize aw:f.length=g at gN i2 ha aq
  have a4:∀K:Hp,K[g]?=some (qH 4 ([AQ (KJ X)]++[EQ]))->D7 jA K 79 (.ptr g 1 0) (.agg [.n 4,.n 0,.str ⟨#[]⟩,.sl .full 4 [AQ y]])=some (K.set g (qH 4 [AQ (KJ X),AQ (notE y)])):=fun K hq=>by
   rw[IE (i:=1) (SC rfl) G9 hq rfl (jF 4),Ea];rfl
  have a5:∀K:Hp,K[ob]?=some (qH 1 (X.map c_))->D7 jA K 23 (.ptr ob (S.length-1) 0) (.own g 0 2)=some (K.set ob (qH 1 ((X.map c_).set (X.length-1) [.own g 0 2]))):=fun K hq=>by
   rw[IE (cs:=[.own g 0 2]) rfl mO hq J (by exact jF 1),C];rfl
  have q1:=a4 Q gN;have q2:=a5 (Q.set g (qH 4 [AQ (KJ X),AQ (notE y)])) (DU gO U);have q3:=a5 Q gO;have q4:=a4 (Q.set ob (qH 1 ((X.map c_).set (X.length-1) [.own g 0 2]))) (DU gN U);rw[List.set_comm _ _ (U:ob≠g)] at q4;clear a4 a5;have ag:((Q.set g (qH 4 [AQ (KJ X),AQ (notE y)])).set ob (qH 1 ((X.map c_).set (X.length-1) [.own g 0 2])))[ob]?=some (qH 1 ((X.map c_).set (X.length-1) [.own g 0 2])):=CO (DU gO U);have ah:((Q.set g (qH 4 [AQ (KJ X),AQ (notE y)])).set ob (qH 1 ((X.map c_).set (X.length-1) [.own g 0 2])))[g]?=some (qH 4 [AQ (KJ X),AQ (notE y)]):=DU (CO gN) U;have hF:=(a6.set (U:h.length<=g) (qH 4 [AQ (KJ X),AQ (notE y)])).set (U:h.length<=ob) (qH 1 ((X.map c_).set (X.length-1) [.own g 0 2]));have al:=Zm (n:=h.length) (y:=y) U U a0 ag ah;refine DC Z @WG.2 ap ?_;refine Ga [] [0,1,2,3,4,5,6,7,8,9,10,11,12,13,15] 14 16 [] BC trivial ?_;simp only[O6,List.getElem?_cons_succ,List.getElem?_cons_zero];refine G7 V Z i1 d1 (rv L) ?_;refine⟨_,O,?_⟩
  try simp only[vQ,jZ,jU,jV,zK,O8,X8,JK,PU,CP,OA,↓reduceIte,jC,jO,b_,P5,mz,xQ,jQ,Q8,Cu,Dq,Co,ha,i2,i3,zF,zH,q1,q2,q3,q4]
  rw[Z,<-C,al];exact⟨⟨hF,rfl⟩,hF,rfl⟩
 .have I:KY p.bins=[]:=by
   have:=of_decide_eq_false T;exact wP.1 U
  have a2:dy FT p=none:=by unfold dy;rw[if_pos I]
  rw[a2];refine A7 Z ?_;refine⟨ac,?_⟩;have:=ew (d:=2) nQ (n:=h.length) (U:h.length<=ob) j;rw[C] at this;exact this
end
section
variable (G:Nat->AV)
theorem K2 (p:Pt)(k:Nat)(hk:k<p.bins.length)(B:A4 p p.bins[k])(C:p.bins[k].steps=[]\/p.bins[k].ranges.l=[])(h:Hp):a_ (En G) 201 [.agg (GL p),.n (k:Nat)] h (.sl .any 1 ((ZF GI p p.bins[k]).map eJ)):=by
 have a2:=Eh ((KP p.bins[k]).map fun s=>GI p.ex s.l) (dy GI p);have a7:(((KP p.bins[k]).map fun s=>GI p.ex s.l).map fun x=>[x])=(KP p.bins[k]).map fun s=>[GI p.ex s.l]:=by rw[qG];rfl
 rw[a7] at a2;refine a_.res ?_ (cz.sl a2);clear a2 a7;refine ACalls.pure (R:=fun v H=>Sm.ext h H/\FK h.length H 4 v=.sl .any 1 (ZW ((KP p.bins[k]).map fun s=>GI p.ex s.l) (dy GI p))) 4 ?_ (fun v H ⟨a,b⟩=>⟨a,b⟩);have A:=B.hs;have V:=B.hl;have I:=B.hr;have a6:=B.hb;have ad:=B.hn;have aj:=B.hw;refine II (H:=hint [33,66] []) (ji G) Tryz.func201 rfl (by kernel_rfl) (by kernel_rfl) (jB (by kernel_rfl)) ?_;show dh _ _ _ _ _ (MW _ [.tmp 4] _);have gp:=AU (x:=qH 4 [JD p.bins[k]]) (A8 h (qH 6 [GL p]));have gb:=A8 (h++[qH 6 [GL p]]) (qH 4 [JD p.bins[k]]);have hx:Sm.ext h (h++[qH 6 [GL p]]++[qH 4 [JD p.bins[k]]]):=((ext.rfl' h).app _).app _;simp only[vQ,jZ,jU,jV,zK,CP,XE,V8,↓reduceIte,jC,b_,XB,JW,jQ,tz,qo (A8 h (qH 6 [GL p])),CE hk,DL nD dK MP hk,e9,gg _ _ [.str ⟨#[]⟩,.n 0,.sl .nil 0 [],.sl .nil 0 []] rfl]
 generalize h++[qH 6 [GL p]]++[qH 4 [JD p.bins[k]]]=H0 at gp gb hx|-
 generalize (h++[qH 6 [GL p]]).length=b6 at gb|-
 generalize p.bins[k]=b at gb A V I C|-
 have aa:b.steps.length<=1048576:=by
  rcases C with q|q
  .rw[q];simp
  .rw[XK q] at V;exact V
 have ag:∀s∈b.steps,s.l.length<=1048576:=by
  rcases C with q|q
  .rw[q];intro s hs;cases hs
  .rw[XK q] at I;exact I
 refine EG 0 (fun F f=>∃v,F 2=.ptr h.length 0 0/\F 6=.ptr b6 0 0/\F 5=v/\Sm.ext H0 f/\bw 1 c_ H0 (b.steps.map fun s=>GI p.ex s.l) v f) (fun _ _=>False) ?_ ?_ (fun _ _ q=>q.elim)
 .refine BB (fun n F f=>∃i v,n+i=b.steps.length/\F 2=.ptr h.length 0 0/\F 6=.ptr b6 0 0/\F 5=v/\F 7=.n (i:Nat)/\Sm.ext H0 f/\bw 1 c_ H0 ((b.steps.take i).map fun s=>GI p.ex s.l) v f) b.steps.length
   ⟨0,.sl .nil 0 [],BA,FB,FB,FB,FB,ext.rfl' _,by rw[qA];exact bw.nil _ _ _ _⟩ ?_
  rintro n F f ⟨i,v,hi,Z,f6,T,f7,g,Q⟩;have E:=DZ g gb;refine DC f6 f7 (vh E) ?_;refine DV ?_ ?_<;>intro Y
  .have j:=DZ g gp
   have a9:((b.steps.take i).map fun s=>GI p.ex s.l).length<8388608:=by rw[jI,jT];omega
   obtain⟨v',H2,ha,a4,_,a3,_,_⟩:=Q.append (P:=jA) lK mO oH mF U a9 g (GI p.ex b.steps[i].l);have a0:EJ jA true f 100 100 v (.sl .full 1 [[.sl .full 4 [AQ (GI p.ex b.steps[i].l)]]])=some (v',H2):=ha
   have aa:(b.steps.take (i+1)).map (fun s=>GI p.ex s.l)=(b.steps.take i).map (fun s=>GI p.ex s.l)++[GI p.ex b.steps[i].l]:=by
    rw[jW Y,qE];rfl
   have J:a_ (En G) 268 [.agg (AQ p.ex),.sl b.steps[i].m 2 (b.steps[i].l.map encR)] f (.agg (AQ (GI p.ex b.steps[i].l))):=eV G p.ex b.steps[i].l b.steps[i].m (ag _ (jH Y)) f;refine AB ?_;refine DI BC ?_;simp only[vQ,jZ,jU,jV,zK,JK,KU,KE,↓reduceIte,jC,jO,b_,eG,uQ,rX,Z,T,f6,f7,CE Y,BK TP Y,lX,rv j,vh E];refine⟨_,J,?_⟩
   try simp only[vQ,jZ,jU,jV,zK,JX,JK,CP,↓reduceIte,jC,jO,b_,f7,Q8,sf,a0,CZ i]
   exact⟨n-1,U,i+1,v',U,AO,AO,AO,AO,a3,by rw[aa];exact a4⟩
  .rw[jK U] at Q
   refine AB ?_;exact⟨v,AO,AO,AO,g,Q⟩
 rintro F f ⟨v,Z,f6,T,g,Q⟩;have j:=DZ g gp;have E:=DZ g gb;refine AZ f6 (vh E) ?_;refine UQ (fun F H=>∃v,F 2=.ptr h.length 0 0/\F 5=v/\Sm.ext H0 H/\bw 1 c_ H0 ((KP b).map fun s=>GI p.ex s.l) v H) (fun _ _=>False) (fun hc=>?_) (fun hc=>?_) ?_ (fun _ _ q=>q.elim)
 .have he:b.steps=[]:=by
   have:((b.steps.length:Nat):Int)=0:=BQ hc;exact wP.1 U
  have hr:b.ranges.l≠[]:=by
   intro q;rw[XK q,he] at A;exact A rfl
  rw[dS hr] at I;rw[he] at Q
  have hv:v=.sl .nil 0 []:=by
   rcases Q with⟨_,q⟩|⟨q,_⟩
   .exact q
   .exact absurd rfl q
  subst hv;have J:a_ (En G) 268 [.agg (AQ p.ex),.sl b.ranges.m 2 (b.ranges.l.map encR)] f (.agg (AQ (GI p.ex b.ranges.l))):=eV G p.ex b.ranges.l b.ranges.m (I _ BA) f;obtain⟨v',H2,ha,a4,_,a3,_,_⟩:=(bw.nil (α:=Ex) 1 c_ H0 f).append (P:=jA) lK mO oH mF U BA g (GI p.ex b.ranges.l);have a0:EJ jA true f 100 100 (.sl .nil 0 []) (.sl .full 1 [[.sl .full 4 [AQ (GI p.ex b.ranges.l)]]])=some (v',H2):=ha;refine G7 Z T f6 (rv j) (vi E) ?_;refine J.use ?_;refine G7 Z T @Q8 @sf a0 ?_;exact⟨v',AO,AO,a3,by rw[dS hr];exact a4⟩
 .have he:b.steps≠[]:=by
   intro q;rw[q] at hc;exact absurd hc DX
  have hr:b.ranges.l=[]:=C.resolve_left he;refine AB ?_;exact⟨v,AO,AO,g,by rw[XK hr];exact Q⟩
 clear Z f6 T Q j E g;rintro F f ⟨v,Z,T,g,Q⟩
 generalize KP b=S at A V I Q|-
 have j:=DZ g gp;refine AZ Z (Dc j) ?_;refine(K5 G p ad a6 f).uu ?_;have ai:0<S.length:=qQ.2 A
 obtain⟨ob,rfl,ah,K⟩:∃ob,v=.own ob 0 S.length/\H0.length<=ob/\f[ob]?=some (qH 1 ((S.map fun s=>GI p.ex s.l).map c_)):=by
  rcases Q with⟨e1,_⟩|⟨_,o,h1,h2,h3⟩
  .exact absurd (BQ e1) A
  .exact⟨o,by rw[h2,jI],h1,h3⟩
 have L:(S.map fun s=>GI p.ex s.l).length=S.length:=BA;have a5:(S.map fun s=>GI p.ex s.l)≠[]:=BQ A;have a8:=hx.trans g;have ak:=hx.le
 generalize (S.map fun s=>GI p.ex s.l)=X at K L a5|-
 refine BL ?_ ?_<;>intro hc
 .have M:KY p.bins≠[]:=by
   intro q;rw[q] at hc;exact absurd hc DX
  have a1:dy GI p=some (GI p.ex (KY p.bins)):=by unfold dy;rw[if_neg M]
  rw[a1];have ac:IntKind.i64.wrap (((S.length:Nat):Int)-1)=((S.length-1:Nat):Int):=by rw[wrap_i64 U U];omega
  have J:a_ (En G) 268 [.agg (AQ p.ex),.sl (Cov.nm (KY p.bins)) 2 ((KY p.bins).map encR)] f (.agg (AQ (GI p.ex (KY p.bins)))):=eV G p.ex (KY p.bins) (Cov.nm (KY p.bins)) a6 f
  generalize GI p.ex (KY p.bins)=y at J|-
  have O:(X.map c_)[S.length-1]?=some (c_ (KJ X)):=by
   rw[zB,<-L,xN a5];rfl
  have i1:JJ 1 f (.own ob 0 S.length) (.n ((S.length-1:Nat):Int))=some (.ptr ob (S.length-1) 0):=by rw[GR K U,jG]
  have d1:BR jA f 23 (.ptr ob (S.length-1) 0)=some (.sl .full 4 [AQ (KJ X)]):=by rw[BJ MQ K O];rfl
  have af:OG jA f 23 23 (.sl .full 4 [AQ (KJ X)]) (.sl .full 4 [AQ (notE y)])=true:=uY NV G9 (H6 _ _ _ _) (H6 _ _ _ _) (NT [KJ X,notE y])
  have ha:EJ jA false f 23 23 (.sl .full 4 [AQ (KJ X)]) (.sl .full 4 [AQ (notE y)])=some (.sl .any 4 [AQ (KJ X),AQ (notE y)],f) :=
   W7 (xs:=[AQ (KJ X)]) NV G9 QF QD (H6 f .full 4 [AQ (notE y)]) BA (JF BA U)
  have q1:D7 jA f 23 (.ptr ob (S.length-1) 0) (.sl .any 4 [AQ (KJ X),AQ (notE y)])=some (f.set ob (qH 1 ((X.map c_).set (X.length-1) [.sl .any 4 [AQ (KJ X),AQ (notE y)]]))):=by
   rw[IE (cs:=[.sl .any 4 [AQ (KJ X),AQ (notE y)]]) rfl mO K O (by exact jF 1),L];rfl
  have gF:(f.set ob (qH 1 ((X.map c_).set (X.length-1) [.sl .any 4 [AQ (KJ X),AQ (notE y)]])))[ob]?=some (qH 1 (ZW X (some y))):=CO K;have hF:=a8.set (U:h.length<=ob) (qH 1 ((X.map c_).set (X.length-1) [.sl .any 4 [AQ (KJ X),AQ (notE y)]]));refine LJ Z T @WG.2 ac i1 d1 (rv j) ?_;refine J.use ?_;have ae:∀H:Hp,DR jA false H 23 1 [(0,.agg [.n 4,.n 0,.str ⟨#[]⟩,.sl .full 4 [AQ y]])]=some (.sl .full 4 [AQ (notE y)],H):=fun H=>by rw[Ea,Jp]
  simp only[vQ,jZ,jU,jV,zK,Bool.or_true,CP,OA,vJ,L9,↓reduceIte,jC,Bool.not_true,b_,xQ,jQ,Q8,Cu,ae,vJ,af,ha,T,WG.2,ac,i1,q1];refine⟨hF,?_⟩;rw[<-L];exact Zn U gF
 .have M:KY p.bins=[]:=by
   have:=of_decide_eq_false hc;exact wP.1 U
  have a1:dy GI p=none:=by unfold dy;rw[if_pos M]
  rw[a1];refine A7 T ?_;refine⟨a8,?_⟩;have:=ew (d:=2) nQ (n:=h.length) (U:h.length<=ob) K;rw[L] at this;exact this
end
def QC (l:List Ex):List AV:=Bm ⟨Cov.nm l,l⟩
def PM (c:List (List Ex)):List AV:=[.sl .any 1 (c.map eJ)]
theorem sK (c:List (List Ex)):(PM c)[0]?=some (.sl .any 1 (c.map eJ)):=rfl
theorem Bn (l:List Ex):(eJ l)[0]?=some (.sl .any 4 (l.map AQ)):=rfl
structure OL (n0:Nat) (H:Hp) (ob n:Nat) (v:Nat->AV) (X:Nat->List Ex):Prop where
 gob:H[ob]?=some (qH 1 ((zL n).map fun t=>[v t]))
 lo:n0<=ob
 each:∀t,t<n->(X t=[]/\v t=.sl .nil 0 [])\/(X t≠[]/\∃o,n0<=o/\v t=.own o 0 (X t).length/\H[o]?=some (qH 4 ((X t).map AQ)))
 ap:∀t u b,t<n->u<n->db (v t) b->db (v u) b->t=u
 ne:∀t b,t<n->db (v t) b->b≠ob
def fL {α:Type}(f:Nat->α)(a:Nat)(x:α)(t:Nat):α:=if t=a then x else f t
theorem Yq {a:Nat}{x:AV}(_ha:a<n):((zL n).map fun t=>[v t]).set a [x]=(zL n).map fun t=>[fL v a x t]:=by
 apply List.ext_getElem
 .simp
 intro i d f;rw[List.getElem_set];simp only[List.getElem_map,List.getElem_range,fL];by_cases e:a=i
 .rw[if_pos e,if_pos e.symm]
 .rw[if_neg e,if_neg (Ne.symm e)]
theorem iV {a:Nat}{v:AV}(d:a=h.length):((X=[]/\v=.sl .nil 0 [])\/(X≠[]/\∃o,a<=o/\v=.own o 0 X.length/\H[o]?=some (qH 4 (X.map AQ))))↔bw 4 AQ h X v H:=by subst d;exact Iff.rfl
theorem OL.app {a:Nat}{X:Nat->List Ex}(O:OL h.length H ob n v X)(E:a<n)(Y:ext h H)(s:SM)(ys:List Ex)(V:(X a).length+ys.length<=8388608):
  ∃ g C,EJ jA true H 23 23 (v a) (.sl s 4 (ys.map AQ))=some (g,C)/\C[ob]?=some (qH 1 ((zL n).map fun t=>[v t]))/\JI g=some [g] /\
    OL h.length (C.set ob (qH 1 ((zL n).map fun t=>[fL v a g t]))) ob n (fL v a g) (fL X a (X a++ys))/\ext h (C.set ob (qH 1 ((zL n).map fun t=>[fL v a g t]))):=by
 obtain⟨g,C,S,M,Q,T,h5,I⟩:=MX (P:=jA) s ((iV rfl).1 (O.each a E)) NV G9 QF QD U (ys:=ys) V Y;have Z:=AY O.gob;have L:=Q _ _ O.gob (fun q=>O.ne a _ E q rfl)
 have F:∀t b,t<n->db (v t) b->b<H.length:=fun t b f d=>((iV rfl).1 (O.each t f)).lt d |>.2
 have B:∀b,db g b->b≠ob:=fun b d=>by
  rcases I b d with q|q
  .exact O.ne a b E q
  .omega
 have J:JI g=some [g]:=by
  rcases M with⟨_,rfl⟩|⟨_,o,_,rfl,_⟩<;>rfl
 refine⟨g,C,S,L,J,⟨CO L,O.lo,fun t f=>?_,fun t u b f K j A=>?_,fun t b f d=>?_⟩,T.set O.lo _⟩
 .by_cases e:t=a
  .subst e
   simp only[fL,if_true];exact(iV rfl).2 (M.keep fun b d=>by rw[zY (Ne.symm (B b d))])
  .simp only[fL,if_neg e]
   refine(iV rfl).2 (((iV rfl).1 (O.each t f)).keep fun b d=>?_);rw[zY (Ne.symm (O.ne t b f d))];rcases O.each t f with⟨_,q⟩|⟨_,o,_,q,R⟩
   .rw[q] at d;exact d.elim
   .rw[q] at d;cases d
    rw[R];exact Q _ _ R fun q3=>e (O.ap t a _ f E (by rw[q];rfl) q3)
 .simp only[fL] at j A
  by_cases e1:t=a<;>by_cases e2:u=a
  .rw[e1,e2]
  .rw[if_pos e1] at j;rw[if_neg e2] at A
   rcases I b j with q|q
   .exact e1.trans (O.ap a u b E K q A)
   .have:=F u b K A;omega
  .rw[if_neg e1] at j;rw[if_pos e2] at A
   rcases I b A with q|q
   .exact(O.ap t a b f E j q).trans e2.symm
   .have:=F t b f j;omega
  .rw[if_neg e1] at j;rw[if_neg e2] at A
   exact O.ap t u b f K j A
 .simp only[fL] at d
  by_cases e1:t=a
  .rw[if_pos e1] at d;exact B b d
  .rw[if_neg e1] at d;exact O.ne t b f d
theorem OL.frz {d:Nat}{X:Nat->List Ex}(O:OL d H ob n v X)(h:Hp)(f:d=h.length):FK h.length H 4 (.own ob 0 n)=.sl .any 1 ((zL n).map fun t=>[gn 4 AQ (X t)]):=by
 subst f
 have g:((zL n).map fun t=>[v t]).map (·.map (FK h.length H 3))=(zL n).map fun t=>[gn 4 AQ (X t)]:=by
  rw[qG];refine wB fun t q=>?_
  have a:t<n:=BQ q;show [FK h.length H 3 (v t)]=_;rw[KC fr ((iV rfl).1 (O.each t a)) h.length 1 (jF _)]
 rw[Cov.ez h.length H 3 ob 0 n 1 _ (by have:=O.lo;omega) O.gob,zI,jK BA,g];rw[if_pos];refine⟨BA,?_⟩;rw[zJ];intro row j;obtain⟨t,_,rfl⟩:=zO.1 j;cases X t<;>rfl
theorem AI (l:List Ex):cf [gn 4 AQ l] (QC l):=by
 cases l with
 | nil=>exact cf.cons rfl (Cv.nil 0 4) cf.nil
 | cons x a=>exact cf.cons rfl (Cv.refl _) cf.nil
def rowP (n i t:Nat)(c:List (List Ex)):List Ex:=if n-c.length<=t/\t<n-c.length+i then c[t-(n-c.length)]?.getD [] else []
theorem Xn (n t:Nat)(c:List (List Ex)):rowP n 0 t c=[]:=by unfold rowP;rw[if_neg U]
theorem Xo (d:t<n)(a:c.length<=n):rowP n c.length t c=YK n t c:=by
 unfold rowP YK;by_cases h:n-c.length<=t
 .rw[if_pos ⟨h,U⟩,if_pos h]
 .rw[if_neg U,if_neg h]
theorem vX (n t:Nat)(cs:List (List (List Ex)))(j:Nat)(a:j<cs.length):rowA n (cs.take (j+1)) t=rowA n (cs.take j) t++YK n t cs[j]:=by
 unfold rowA;rw[jW a,List.flatMap_append];simp
theorem AST {B:Nat}(h:∀r∈c,r.length<=B):(YK n t c).length<=B:=by
 unfold YK;split
 .cases a:c[t-(n-c.length)]? with
  | none=>exact qN _
  | some r=>exact h r (List.mem_of_getElem? a)
 .exact qN _
theorem ZY {n t B:Nat}:∀ {cs:List (List (List Ex))},(∀c∈cs,∀r∈c,r.length<=B)->(rowA n cs t).length<=B*cs.length
 | [],_=>by simp [rowA]
 | c::cs,h=>by
   have d:=AST (n:=n) (t:=t) (h c BA);have f:=ZY (n:=n) (t:=t) (cs:=cs) fun c a=>h c (by simp [a])
   show(YK n t c++rowA n cs t).length<=_;rw[jX,zF,Nat.mul_add];omega
theorem Qx (h:Hp)(n:Nat)(f:n<=1048576):IX jA true h 100 (.n (n:Int)) (.n (n:Int))=some (.own h.length 0 n,h++[qH 1 ((zL n).map fun _=>[.sl .nil 0 []])]):=by
 have d:N9 jA 23=some [.sl .nil 0 []]:=BC;have a:room n 24:=JF U U;unfold IX;simp only[lK,mO,mF,d,Int.toNat_natCast];rw[if_pos ⟨U,Int.le_refl _,a,rfl⟩];have e:(zL n).map (fun _=>[AV.sl .nil 0 []])=List.replicate n [.sl .nil 0 []]:=by rw[List.map_const',List.length_range]
 rw[e];rfl
theorem rowP_step {i:Nat}(d:c.length<=n)(a:i<c.length)(_ht:t<n):rowP n (i+1) t c=if t=n-c.length+i then c[i] else rowP n i t c:=by
 unfold rowP;by_cases e:t=n-c.length+i
 .rw[if_pos e,if_pos U,show t-(n-c.length)=i by omega,jP a];rfl
 .rw[if_neg e]
  by_cases h:n-c.length<=t/\t<n-c.length+i
  .rw[if_pos h,if_pos U]
  .rw[if_neg h,if_neg U]
section
variable (G:Nat->AV)
theorem R_ (cs:List (List (List Ex)))(s:SM)(ae:cs.length<=1048576)(hl:∀c∈cs,c.length<=1048576)(hr:∀c∈cs,∀r∈c,r.length<=2)(h:Hp):a_ (En G) 95 [.sl s 1 (cs.map PM)] h (.sl .any 1 ((O3 cs).map QC)):=by
 have Z:Cv (.sl .any 1 ((zL (QV cs)).map fun t=>[gn 4 AQ (rowA (QV cs) cs t)])) (.sl .any 1 ((O3 cs).map QC)):=by
  unfold O3;rw[qG];exact Cv.map fun t _=>AI _
 refine a_.res ?_ (cz.sl Z);clear Z;refine ACalls.pure (R:=fun v H=>Sm.ext h H/\FK h.length H 4 v=.sl .any 1 ((zL (QV cs)).map fun t=>[gn 4 AQ (rowA (QV cs) cs t)])) 4 ?_ (fun v H ⟨a,b⟩=>⟨a,b⟩);have a8:QV cs<=1048576:=YR cs 0 _ (qN _) hl;refine cn Tryz.func95 2 ?_;refine A7 vg ?_;refine EG 0 (fun F I=>F 0=.sl s 1 (cs.map PM)/\F 3=.n (QV cs:Nat)/\I=h) (fun _ _=>False) ?_ ?_ (fun _ _ q=>q.elim)
 .refine BB (fun n F I=>∃i,n+i=cs.length/\F 0=.sl s 1 (cs.map PM)/\F 3=.n (QV (cs.take i):Nat)/\F 12=.sl s 1 (cs.map PM)/\F 13=.n (cs.length:Nat)/\F 14=.n (i:Nat)/\I=h) cs.length
   ⟨0,BA,AL,AL,AL,AL,AL,rfl⟩ ?_
  rintro n F H ⟨i,hi,f0,E,f12,f13,f14,rfl⟩;refine AZ f13 f14 ?_;refine DV ?_ ?_<;>intro d
  .have hm:max ((QV (cs.take i):Nat):Int) ((cs[i].length:Nat):Int)=((QV (cs.take (i+1)):Nat):Int):=by rw[xL cs i d];omega
   simp only[vQ,CP,ri,pX,↓reduceIte,jC,b_,WG,ry,E,f12,f14,CE d,BK sj d,sK,jI,hm,CZ i];exact⟨n-1,U,i+1,U,AO,AO,AO,AO,AO,AO⟩
  .rw[jK U] at E
   refine AB ?_;exact⟨AO,AO,AO⟩
 rintro F H ⟨f0,E,rfl⟩;generalize hN:QV cs=N at *;have g0:=A8 H (qH 1 ((zL N).map fun _=>[AV.sl .nil 0 []]))
 have O0:OL H.length (H++[qH 1 ((zL N).map fun _=>[AV.sl .nil 0 []])]) H.length N (fun _=>.sl .nil 0 []) (fun _=>[]) :=
  ⟨g0,jF _,fun t _=>.inl ⟨rfl,rfl⟩,fun t u b _ _ q=>q.elim,fun t b _ q=>q.elim⟩
 have V:Sm.ext H (H++[qH 1 ((zL N).map fun _=>[AV.sl .nil 0 []])]):=(ext.rfl' H).app _;refine EH vg f0 E (Qx H N a8) ?_
 generalize H++[qH 1 ((zL N).map fun _=>[AV.sl .nil 0 []])]=H0 at O0 V|-
 refine BB (fun n F I=>∃j v X,n+j=cs.length/\F 3=.n (N:Nat)/\F 6=.own H.length 0 N/\F 25=.sl s 1 (cs.map PM)/\F 26=.n (cs.length:Nat)/\F 27=.n (j:Nat)/\OL H.length I H.length N v X/\(∀t,t<N->X t=rowA N (cs.take j) t)/\Sm.ext H I) cs.length
  ⟨0,_,_,BA,DY E,AL,AL,AL,AL,O0,fun t _=>by rw[qA];rfl,V⟩ ?_
 clear O0 V f0 E g0;rintro n F H1 ⟨j,v,X,hj,E,Q,A,C,g,O,J,M⟩;refine AZ C g ?_;refine DV ?_ ?_<;>intro K
 .have T:cs[j].length<=N:=by rw[<-hN];exact rA (jH K)
  have a4:=hr _ (jH K)
  have a9:∀t,(rowA N (cs.take j) t).length<=2*j:=fun t=>by
   have:=ZY (n:=N) (t:=t) (B:=2) (cs:=cs.take j) fun c hc=>hr c (List.mem_of_mem_take hc)
   rw[jT,Nat.min_eq_left U] at this;exact this
  have a5:∀t,rowA N (cs.take (j+1)) t=rowA N (cs.take j) t++YK N t cs[j]:=fun t=>vX N t cs j K
  simp only[vQ,CP,↓reduceIte,jC,b_,WG,ry,A,g,CE K,BK sj K,sK,jI]
  generalize cs[j]=c at T a4 a5|-
  refine EG 4 (fun F I=>∃v X,F 3=.n (N:Nat)/\F 6=.own H.length 0 N/\F 25=.sl s 1 (cs.map PM)/\F 26=.n (cs.length:Nat)/\F 27=.n (j:Nat)/\OL H.length I H.length N v X/\(∀t,t<N->X t=rowA N (cs.take (j+1)) t)/\Sm.ext H I) (fun _ _=>False) ?_ ?_ (fun _ _ q=>q.elim)
  .refine BB (fun n F I=>∃i v X,n+i=c.length/\F 3=.n (N:Nat)/\F 6=.own H.length 0 N/\F 8=.sl .any 1 (c.map eJ)/\F 25=.sl s 1 (cs.map PM)/\F 26=.n (cs.length:Nat)/\F 27=.n (j:Nat)/\F 31=.sl .any 1 (c.map eJ)/\F 32=.n (c.length:Nat)/\F 33=.n (i:Nat)/\OL H.length I H.length N v X/\(∀t,t<N->X t=rowA N (cs.take j) t++rowP N i t c)/\Sm.ext H I) c.length
    ⟨0,v,X,BA,DY E,DY Q,AL,DY A,DY C,DY g,AL,AL,AL,O,fun t L=>by rw[Xn,jL];exact J t L,M⟩ ?_
   clear E Q A C g O J M;rintro n2 F H2 ⟨i,v,X,hi,E,Q,f8,A,C,g,a6,f32,Y,O,J,M⟩;refine AZ f32 Y ?_;refine BL ?_ ?_<;>intro hd
   .have d:i<c.length:=BQ hd
    have S:N-c.length+i<N:=U
    have a0:(X (N-c.length+i)).length+c[i].length<=8388608:=by
     have h1:=a9 (N-c.length+i);have h2:=a4 _ (jH d);rw[J _ S,jX];have h3:rowP N i (N-c.length+i) c=[]:=by unfold rowP;rw[if_neg U]
     rw[h3,zH];omega
    obtain⟨v',H3,a1,a2,a3,O2,ad⟩:=O.app S M .any c[i] a0;have aa:IntKind.i64.wrap (((N:Nat):Int)-((c.length:Nat):Int))=((N-c.length:Nat):Int):=by rw[wrap_i64 U U];omega
    have ac:IntKind.i64.wrap (((N-c.length:Nat):Int)+((i:Nat):Int))=((N-c.length+i:Nat):Int):=by rw[wrap_i64 U U];omega
    have i1:JJ 1 H2 (.own H.length 0 N) (.n ((N-c.length+i:Nat):Int))=some (.ptr H.length (N-c.length+i) 0):=by rw[GR O.gob S,jG]
    have P:∀f:Nat->AV,((zL N).map fun t=>[f t])[N-c.length+i]?=some [f (N-c.length+i)]:=fun f=>by
     rw[zB,List.getElem?_range S];rfl
    have d1:BR jA H2 23 (.ptr H.length (N-c.length+i) 0)=some (v (N-c.length+i)):=by rw[BJ MQ O.gob (P v)];rfl
    have i2:JJ 1 H3 (.own H.length 0 N) (.n ((N-c.length+i:Nat):Int))=some (.ptr H.length (N-c.length+i) 0):=by rw[GR a2 S,jG]
    have s1:D7 jA H3 23 (.ptr H.length (N-c.length+i) 0) v'=some (H3.set H.length (qH 1 ((zL N).map fun t=>[fL v (N-c.length+i) v' t]))):=by
     rw[IE (cs:=[v']) a3 mO a2 (P v) (by exact jF 1),<-Yq S];rfl
    have a7:∀t,t<N->fL X (N-c.length+i) (X (N-c.length+i)++c[i]) t=rowA N (cs.take j) t++rowP N (i+1) t c:=fun t L=>by
     rw[rowP_step T d L];by_cases e:t=N-c.length+i
     .rw[if_pos e]
      simp only[fL,if_pos e];rw[J _ S,<-e];have h3:rowP N i t c=[]:=by unfold rowP;rw[if_neg U]
      rw[h3,jL]
     .rw[if_neg e]
      simp only[fL,if_neg e];exact J t L
    simp only[vQ,CP,L9,↓reduceIte,jC,b_,xQ,WG,jQ,E,Q,f8,a6,Y,CE d,BK MQ d,Bn,jI,aa,ac,i1,d1,a1,i2,s1,CZ i];exact⟨n2-1,U,i+1,_,_,U,AO,AO,AO,AO,AO,AO,AO,AO,AO,O2,a7,ad⟩
   .have d:i=c.length:=by have:¬i<c.length:=BQ hd
                          omega
    subst d;refine AB ?_;exact⟨v,X,AO,AO,AO,AO,AO,O,fun t L=>by rw[J t L,a5,Xo L T],M⟩
  .clear E Q A C g O J M
   rintro F H2 ⟨v,X,E,Q,A,C,g,O,J,M⟩;refine AZ g (CZ j) ?_;exact⟨n-1,U,j+1,v,X,U,AO,AO,AO,AO,AO,O,J,M⟩
 .rw[jK U] at J
  refine A7 Q ?_;refine⟨M,?_⟩;rw[O.frz H rfl];congr 1;refine wB fun t L=>?_
  rw[J t (BQ L)]
end
def dv:Go.Shelf.Ren:=⟨fun|4=>98|n=>n,fun|22=>23|25=>79|3=>3|4=>4|9=>9|20=>20|0=>0|n=>n,fun|n=>n⟩
theorem j_:Go.Proofs.Lays8.n4 jA dv := {
 mixed:=BC,
 f4:=⟨Tryz.f98.name,by decide,Tryz.func98.trans (congrArg some BC)⟩,
 t0:=Tryz.underlying0,
 a0:=Tryz.isAgg0,
 z0:=Tryz.sizeOf0,
 v0:=Tryz.zeroValue0,
 t3:=Tryz.underlying3,
 a3:=Tryz.isAgg3,
 z3:=Tryz.sizeOf3,
 v3:=Tryz.zeroValue3,
 t4:=Tryz.underlying4,
 a4:=Tryz.isAgg4,
 z4:=Tryz.sizeOf4,
 v4:=Tryz.zeroValue4,
 t9:=Tryz.underlying9,
 a9:=Tryz.isAgg9,
 z9:=Tryz.sizeOf9,
 v9:=Tryz.zeroValue9,
 t20:=Tryz.underlying20,
 a20:=Tryz.isAgg20,
 z20:=Tryz.sizeOf20,
 v20:=Tryz.zeroValue20,
 t22:=Tryz.underlying23,
 a22:=Tryz.isAgg23,
 z22:=Tryz.sizeOf23,
 v22:=Tryz.zeroValue23 }
theorem jv (z:Array Value)(n:Nat):(Builtin.zeroCells z n).size=n*z.size:=by simp [Builtin.zeroCells]
theorem i4 (G:Nat->AV)(n:Nat)(Z:n<=1048576)(h:Hp):ACalls (En G) 98 [.sl .nil 0 [],.n (n:Nat)] h fun v H=>(n=0/\v=.sl .nil 0 []/\H=h)\/(0<n/\v=.own h.length 0 0/\H=h++[qH 4 []]):=by
 refine⟨pq 98 G BC,fun g w d S T=>?_⟩;obtain⟨L,A⟩:=T
 obtain⟨B,J,rfl⟩:∃a b,d = #[a,b]:=by
  obtain⟨l⟩:=d
  match l,L with
  | [a,b],_=>exact⟨a,b,rfl⟩
 have r0:=(A 0 _ B rfl rfl).sl_inv;obtain rfl:=(A 1 _ J rfl rfl).int_inv
 have F:B=.slice none 0 0:=by
  cases r0 with
  | nil=>rfl
  | empty _ _ _ _ q=>exact absurd rfl q
  | sl _ _ _ _ _ _ _ _ _ _ _ q=>exact absurd rfl q
 subst F;rcases Nat.eq_zero_or_pos n with K|K
 .subst K
  refine(Any8.slices_Grow_room j_ none 0 0 0 w (jF _) U U (jF _)).mono ?_;rintro e w' ⟨rfl,rfl⟩;exact .inl ⟨_,_,g,h,rfl,.inl ⟨rfl,rfl,rfl⟩,Gh.le.refl g,S,.fro (.nil 0)⟩
 .have i0:Tryz.prog.info? 79=some Tryz.t79:=BC
  have I:Tryz.t79.zero.isSome=true:=BC;obtain⟨z,I⟩:=Option.isSome_iff_exists.1 I;have hs:Tryz.t79.size=4:=BC;have V:Tryz.t79.bytes<=64:=jB BC;have P:n*Tryz.t79.bytes<=1048576*64:=Nat.mul_le_mul Z V
  have M:z.cells.size=4:=by
   have O:(Tryz.t79.zero.map fun z=>z.cells.size)=some 4:=BC;rw[I] at O;simpa using O
  have Y:=Any8.slices_Grow_grow j_ Tryz.t79 z i0 I (by rw[hs];omega) none 0 0 n [] w (jF _) U (by rw[jG];omega) U BA (fun _=>rfl) (fun a q=>by cases q);refine Y.mono ?_;rintro e w' ⟨rfl,rfl⟩;generalize R:grownCap w (0+n) 0 (dv.t 25)=cap;have hle:0+n<=cap:=R▸grownCap_ge w _ _ _;have C:Grew w (w.drew.alloc (.cells ((#[]:Array Value)++Builtin.zeroCells z.cells (0+n-0)++Builtin.zeroCells z.cells (cap-(0+n))) (dv.t 25))) (.cells ((#[]:Array Value)++Builtin.zeroCells z.cells (0+n-0)++Builtin.zeroCells z.cells (cap-(0+n))) (dv.t 25) (0,0)):=⟨rfl,rfl,rfl,rfl⟩
  have f:((#[]:Array Value)++Builtin.zeroCells z.cells (0+n-0)++Builtin.zeroCells z.cells (cap-(0+n))).size=cap*4:=by
   simp only[Array.size_append,jv,M,List.size_toArray,zH];omega
  generalize ((#[]:Array Value)++Builtin.zeroCells z.cells (0+n-0)++Builtin.zeroCells z.cells (cap-(0+n)))=c at C f;obtain⟨Q,E⟩:=S.new (k:=4) (xs:=[]) C ⟨BA,fun i row h=>by simp at h,fun i j row v h=>by simp at h⟩;refine .inl ⟨_,_,_,_,rfl,.inr ⟨K,rfl,rfl⟩,E,Q,?_⟩;exact Rep.own h.length 0 0 cap ⟨w.heap.size,0,4,c.size⟩ (by simp [Gh.adopt]) (qN _) (by simp only[f];omega)
theorem Bk (l:List Ex):(QC l)[0]?=some (.sl (Cov.nm l) 4 (l.map AQ)):=rfl
theorem fq {R:List (List Ex)}{i:Nat}(a:i<R.length):(R.take (i+1)).flatten=(R.take i).flatten++R[i]:=by
 rw[jW a,List.flatten_append];simp
theorem ef (R:List (List Ex))(i:Nat):(R.take i).flatten.length<=R.flatten.length:=by
 have:R.flatten=(R.take i).flatten++(R.drop i).flatten:=by rw[<-List.flatten_append,List.take_append_drop]
 rw[this,jX];omega
def ju (h:Hp)(ys:List Ex)(v:AV)(H:Hp):Prop:=(v=.sl .nil 0 []/\ys=[])\/∃o,h.length<=o/\v=.own o 0 ys.length/\H[o]?=some (qH 4 (ys.map AQ))
theorem jf {xs ys:List Ex}{v:AV}(s:SM)(A:ju h xs v H)(d:ext h H)(F:xs.length+ys.length<=8388608):
  ∃B f,EJ jA true H 23 23 v (.sl s 4 (ys.map AQ))=some (B,f)/\ju h (xs++ys) B f/\ext h f/\(v=.sl .nil 0 []->ys=[]->B=.sl .nil 0 []):=by
 cases ys with
 | nil =>
   refine⟨v,H,?_,by rw[jL];exact A,d,fun q _=>q⟩;have a:JR H (.sl s 4 [])=some (4,[]):=H6 H s 4 [];rcases A with⟨rfl,rfl⟩|⟨o,E,rfl,g⟩
   .simp [EJ,NV,G9,TC,a,bump]
   .have j:JR H (.own o 0 xs.length)=some (4,xs.map AQ):=by rw[KH g BA,zI,jK BA]
    simp [EJ,NV,G9,TC,j,a,bump]
 | cons y ys =>
   have C:(y::ys).map AQ≠[]:=BA;rcases A with⟨rfl,rfl⟩|⟨o,E,rfl,g⟩
   .exact⟨_,_,WS NV G9 QF QD (H6 H s 4 ((y::ys).map AQ)) C (JF (by simp at F|-;omega) U),.inr ⟨H.length,d.le,BA,BA⟩,d.app _,fun _ q=>by cases q⟩
   .have j:JR H (.own o 0 xs.length)=some (4,xs.map AQ):=by rw[KH g BA,zI,jK BA]
    exact⟨_,_,VG NV G9 QF QD j (H6 H s 4 ((y::ys).map AQ)) C (JF (by simp at F|-;omega) U),.inr ⟨H.length,d.le,BA,BA⟩,(d.set E _).app _,fun q=>by cases q⟩
section
variable (G:Nat->AV)
theorem ey (R:List (List Ex))(s:SM)(hR:R.length<=1048576)(hl:R.flatten.length<=1048576)(h:Hp):a_ (En G) 45 [.sl s 1 (R.map QC)] h (.sl (Cov.nm R.flatten) 4 (R.flatten.map AQ)):=by
 refine JL fr ?_;refine cn Tryz.func45 2 ?_;refine AB ?_;refine EG 0 (fun F f=>F 0=.sl s 1 (R.map QC)/\F 3=.n (R.flatten.length:Nat)/\f=h) (fun _ _=>False) ?_ ?_ (fun _ _ q=>q.elim)
 .refine BB (fun n F f=>∃i,n+i=R.length/\F 0=.sl s 1 (R.map QC)/\F 3=.n ((R.take i).flatten.length:Nat)/\F 9=.sl s 1 (R.map QC)/\F 10=.n (R.length:Nat)/\F 11=.n (i:Nat)/\f=h) R.length
   ⟨0,BA,AL,AL,AL,AL,AL,rfl⟩ ?_
  rintro n F H ⟨i,hi,E,j,Z,f10,f11,rfl⟩;refine AZ f10 f11 ?_;refine DV ?_ ?_<;>intro d
  .have a:=fq d
   have hle:=ef R (i+1);rw[a,jX] at hle;have hw:IntKind.i64.wrap ((((R.take i).flatten.length:Nat):Int)+((R[i].length:Nat):Int))=(((R.take (i+1)).flatten.length:Nat):Int):=by rw[a,jX,wrap_i64 U U];omega
   refine N7 j Z f11 d @Bk hw @et (CZ i) ?_;exact⟨n-1,U,i+1,U,AO,AO,AO,AO,AO,AO⟩
  .rw[jK U] at j
   refine AB ?_;exact⟨AO,AO,AO⟩
 rintro F H ⟨E,j,rfl⟩;refine A7 j ?_;refine(i4 G R.flatten.length hl H).mono ?_;intro P Q T
 have C:ju H [] P Q/\Sm.ext H Q/\(R.flatten.length=0->P=.sl .nil 0 []):=by
  rcases T with⟨h0,rfl,rfl⟩|⟨h0,rfl,rfl⟩
  .exact⟨.inl ⟨rfl,rfl⟩,ext.rfl' _,fun _=>rfl⟩
  .exact⟨.inr ⟨H.length,jF _,rfl,A8 _ _⟩,(ext.rfl' H).app _,fun q=>U⟩
 refine A7 E ?_
 refine BB (fun n F f=>∃i v,n+i=R.length/\F 6=v/\F 25=.sl s 1 (R.map QC)/\F 26=.n (R.length:Nat)/\F 27=.n (i:Nat)/\ju H (R.take i).flatten v f/\Sm.ext H f/\(R.flatten.length=0->v=.sl .nil 0 [])) R.length
  ⟨0,P,BA,AL,AL,AL,AL,by rw[qA];exact C.1,C.2.1,C.2.2⟩ ?_
 clear C T E j;rintro n F f ⟨i,v,hi,S,I,J,g,M,V,Y⟩;refine AZ J g ?_;refine DV ?_ ?_<;>intro d
 .have a:=fq d
  have hle:=ef R (i+1);rw[a,jX] at hle;obtain⟨v',H2,ha,B,O,L⟩:=jf (Cov.nm R[i]) M V (ys:=R[i]) U;rw[<-a] at B;refine LJ S I g d @Bk ha (CZ i) ?_;exact⟨n-1,U,i+1,v',U,AO,AO,AO,AO,B,O,fun q=>L (Y q) (wP.1 U)⟩
 .rw[jK U] at M
  refine A7 S ?_;refine⟨V,?_⟩;rcases M with⟨K,A⟩|⟨o,K,A,h3⟩
  .exact .inl ⟨A,K⟩
  .refine .inr ⟨fun q=>?_,o,K,A,h3⟩
   have:=Y (by rw[q];rfl);rw[this] at A;cases A
end
theorem rm (op n:Int)(a:ByteArray)(m:SM)(args:List Ex):wt (.mk op n a m args)=a.size+1+wts args:=OI _
theorem xh:(⟨#[]⟩:ByteArray).size=0:=rfl
theorem Ar (n:Int):wt (cE n)=1:=by unfold cE;rw[rm,xh];rfl
theorem Gw:∀l:List cp,wts (h_ l)=2*l.length
 | []=>rfl
 | a::l=>by
   rw[UR];simp only[wts,Ar,Gw l,zF];omega
theorem nF (e:Ex)(l:List cp):wt (I7 e l)=1+wt e+2*l.length:=by
 rw[WI,rm,xh];unfold insL;simp only[wts,Gw];omega
theorem Lp (a b:Ex):wt (i5 a b)=1+wt a+wt b:=by
 unfold i5;rw[rm,xh];simp only[wts];omega
theorem Gx (a:Ex):wt (notE a)=1+wt a:=by
 unfold notE;rw[rm,xh];simp only[wts];omega
theorem RQ (L:List cp)(k:Nat):(part L k).length<=16:=by unfold part;rw[jT];omega
theorem ym (e:Ex)(L:List cp):∀k,wt (PD e L k)<=(k+1)*(wt e+34)
 | 0=>by
   have:=RQ L 0;show wt (I7 e (part L 0))<=_;rw[nF];omega
 | k+1=>by
   have:=RQ L (k+1);have a:=ym e L k;show wt (i5 (PD e L k) (I7 e (part L (k+1))))<=_;rw[Lp,nF,Nat.add_mul (k+1) 1];omega
theorem oI:∀l:List Ex,(∀e∈l,wt (cg e)=wt e)->wts (l.map cg)=wts l
 | [],_=>rfl
 | e::l,h=>by
   simp only[jJ,wts];rw[h e BA,oI l fun e a=>h e (by simp [a])]
theorem Lq (e:Ex):wt (cg e)=wt e:=by
 induction e using Ex.induct with|h e ih=>?_
 rw[TN,rm,oI _ ih,OI e]
theorem gu {x:Ex}:∀ {xs:List Ex},x∈FV xs↔∃a∈xs,x∈pre a
 | []=>by simp [FV]
 | a::xs=>by simp [FV,gu (xs:=xs)]
def gl (N:Nat)(e:Ex):Prop:=∀x∈pre e,x.name.size<=N
theorem gl.mk {N:Nat}{op n:Int}{d:ByteArray}{m:SM}{args:List Ex}(h:d.size<=N)(q:∀a∈args,gl N a):gl N (.mk op n d m args):=fun x f=>by
 rw[pre_eq] at f;rcases zM.1 f with rfl|f
 .exact h
 .obtain⟨a,g,j⟩:=gu.1 f
  exact q a g x j
theorem eT (N:Nat)(n:Int):gl N (cE n):=gl.mk (qN _) fun a h=>by cases h
theorem tY (h:gl N e)(l:List cp):gl N (I7 e l):=by
 rw[WI];refine gl.mk (qN _) fun a d=>?_
 rcases zM.1 d with rfl|d
 .exact h
 .unfold h_ at d
  obtain⟨r,_,f⟩:=List.mem_flatMap.1 d;rcases zM.1 f with rfl|f
  .exact eT N _
  .rw[wH.1 f];exact eT N _
theorem Ko {a b:Ex}(f:gl N a)(h2:gl N b):gl N (i5 a b):=gl.mk (qN _) fun x d=>by
 rcases zM.1 d with rfl|d
 .exact f
 .rw[wH.1 d];exact h2
theorem AWP {a:Ex}(d:gl N a):gl N (notE a):=gl.mk (qN _) fun x f=>by rw[wH.1 f];exact d
theorem tX {N:Nat}{e:Ex}(h:gl N e)(L:List cp):∀k,gl N (PD e L k)
 | 0=>tY h _
 | k+1=>Ko (tX h L k) (tY h _)
theorem HZ (e:Ex)(h:gl N e):gl N (cg e):=by
 induction e using Ex.induct with|h e ih=>?_
 rw[TN];refine gl.mk (h e (by rw[pre_eq];simp)) fun a f=>?_
 obtain⟨b,d,rfl⟩:=zO.1 f;exact ih b d fun x g=>h x (by rw[pre_eq];exact List.mem_cons_of_mem _ (gu.2 ⟨b,d,g⟩))
theorem HW {l:List cp}(h:wt e<=1048576)(j:l.length<=4096):WN (FT e l)/\wt (FT e l)<=269000000:=by
 have d:gl 1048576 e:=(r9 h).2;have f:=YQ l;have A:parts (normal l)<=256:=by rw[parts_eq];omega
 unfold FT;rcases Classical.em (normal l=[]) with q|q
 .have:TV e (normal l)=cE 0:=by unfold TV;rw[if_pos q]
  rw[this];exact⟨⟨by rw[Ar];omega,eT _ _⟩,by rw[Ar];omega⟩
 .rw[aI e _ q]
  have a:=ym (cg e) (normal l) (parts (normal l)-1);rw[Lq] at a;have g:(parts (normal l)-1+1)*(wt e+34)<=256*(1048576+34):=Nat.mul_le_mul U U;exact⟨⟨U,tX (HZ e d) _ _⟩,U⟩
theorem HV {l:List cp}(h:wt e<=1048576)(j:l.length<=4096):WN (GI e l)/\wt (GI e l)<=269000000:=by
 have a:gl 1048576 e:=(r9 h).2;have d:=YQ l;have A:parts (normal l)<=256:=by rw[parts_eq];omega
 unfold GI;rcases Classical.em (normal l=[]) with q|q
 .have:TW e (normal l)=I7 e []:=by rw[q];rfl
  rw[this];exact⟨⟨by rw[nF,zH];omega,tY a _⟩,by rw[nF,zH];omega⟩
 .rw[aJ e _ q]
  have f:=ym e (normal l) (parts (normal l)-1);have g:(parts (normal l)-1+1)*(wt e+34)<=256*(1048576+34):=Nat.mul_le_mul U U;exact⟨⟨U,tX a _ _⟩,U⟩
theorem HU (h:WN e/\wt e<=269000000):WN (notE e)/\wt (notE e)<=269000001:=⟨⟨by rw[Gx];omega,AWP h.1.2⟩,by rw[Gx];omega⟩
theorem Z6 {P:Ex->Prop}{ins:Ex->List cp->Ex}(g:∀s∈KP b,P (ins p.ex s.l))(h2:KY p.bins≠[]->P (notE (ins p.ex (KY p.bins)))):∀r∈ZF ins p b,r.length<=2/\∀e∈r,P e:=by
 have f:∀r∈(KP b).map (fun s=>[ins p.ex s.l]),r.length=1/\∀e∈r,P e:=fun r d=>by
  obtain⟨s,A,rfl⟩:=zO.1 d;exact⟨rfl,fun e j=>by rw[wH.1 j];exact g s A⟩
 intro r d;unfold ZF dy at d;by_cases q:KY p.bins=[]
 .rw[if_pos q] at d
  obtain⟨a,b⟩:=f r d;exact⟨U,b⟩
 .rw[if_neg q] at d
  rcases List.mem_or_eq_of_mem_set (show r∈List.set _ _ _ from d) with d|rfl
  .grind
  .grind
theorem AVF (ins:Ex->List cp->Ex)(p:Pt)(b:Bin):(ZF ins p b).length=(KP b).length:=by unfold ZF;rw[E_,jI]
def cN (m:Mo)(x:Hl):List Int:=if x.cross=true then (match oa m x.idx with|some c=>c.pts|none=>[]) else [x.idx]
structure tf (m:Mo) (x:Hl) (L:List (Nat×Nat)):Prop where
 pts:cN m x=L.map fun q=>(q.1:Int)
 bins:x.bins=L.map fun q=>(q.2:Int)
 ok:∀q∈L,∃h:q.1<m.pts.length,q.2<m.pts[q.1].bins.length
 n1:1<=L.length
 n4:L.length<=4
def fi (ins:Ex->List cp->Ex)(m:Mo)(q:Nat×Nat):List (List Ex):=match m.pts[q.1]? with
 | some p=>(match p.bins[q.2]? with|some b=>ZF ins p b|none=>[])
 | none=>[]
theorem kQ (ins:Ex->List cp->Ex){m:Mo}{q:Nat×Nat}(h:q.1<m.pts.length)(h2:q.2<m.pts[q.1].bins.length):fi ins m q=ZF ins m.pts[q.1] m.pts[q.1].bins[q.2]:=by
 unfold fi;rw[jP h];show(match m.pts[q.1].bins[q.2]? with|some b=>ZF ins m.pts[q.1] b|none=>[])=_;rw[jP h2]
def Ce (ins:Ex->List cp->Ex)(m:Mo)(L:List (Nat×Nat)):List (List Ex):=O3 (L.map (fi ins m))
end Ho
namespace Bd.Cl
open Sm Bins Cov Xe Wd Bl Ho Go.RowKit
variable {n:Int} {H:Hp}
theorem Es (L:List cp)(k n:Nat)(h:n=min 16 (L.length-16*k)):(L.drop (16*k)).take n=Ho.part L k:=by
 unfold Ho.part;rw[List.take_eq_take_iff,yB];omega
theorem PL (n:Nat)(H:Hp)(d:Nat)(e:Ex):FK n H (d+3) (.agg (AQ e))=.agg (AQ e):=by rw[FP];rfl
section
variable (G:Nat->AV)
theorem Ux (nm:ByteArray)(L:List cp)(s:SM)(hl:L.length<=1048576)(h:Hp):a_ (En G) 180 [.str nm,.sl s 2 (L.map encR)] h (.agg (AQ (iK nm L))):=by
 refine ACalls.pure (R:=fun v H=>v=.agg (AQ (iK nm L))/\Sm.ext h H) 3 ?_ (fun v H ⟨a,b⟩=>⟨b,by rw[a];exact PL _ _ 0 _⟩);refine e7 Tryz.func180 [.cell 4 79] ?_;have d:=A8 h (qH 4 [EQ]);have g:=Sm.ext.r1 h (qH 4 [EQ]);have A:h.length<(h++[qH 4 [EQ]]).length:=BA;refine A7 OH ?_;rw[show([AV.int .i64 0,.n 0,.str ⟨#[]⟩,.sl .nil 0 []]:List AV)=EQ from rfl]
 generalize h++[qH 4 [EQ]]=H0 at d g A|-
 refine BL ?_ ?_<;>intro E
 .have E:L=[]:=List.eq_nil_of_length_eq_zero (BQ E)
  refine AB ?_;refine(aA G 0 _).use ?_;simp only[vQ,CP,↓reduceIte,jC,b_,jQ,O5 d rfl];rw[IU (b:=h.length) AL (MR (CO d))];exact⟨by rw[E];rfl,g.set (jF _) _⟩
 have C:L≠[]:=by intro e;rw[e] at E;simp at E
 have Y:0<L.length:=qQ.2 C;have Z:min (16:Int) ((L.length:Nat):Int)=((min 16 L.length:Nat):Int):=U
 have M:∀H:Hp,IW jA H 84 (.sl s 2 (L.map encR)) none (some (.n ((min 16 L.length:Nat):Int))) none=some (.sl (vB s (min 16 L.length) L.length) 2 ((Ho.part L 0).map encR)):=fun H=>by
  have:=rj WY KO (h:=H) (m:=s) (kk:=.i64) (xs:=L.map encR) (u:=min 16 L.length) NI;rw[<-List.map_take,jI] at this;have e:=Es L 0 (min 16 L.length) U;rw[Nat.mul_zero,zI] at e;rw[<-e];exact this
 have O:∀H:Hp,IW jA H 84 (.sl s 2 (L.map encR)) (some (.n ((min 16 L.length:Nat):Int))) none none=some (.sl s 2 ((L.drop (16*1)).map encR)):=fun H=>by
  rw[yp WY KO NI,<-List.map_drop];have:L.drop (min 16 L.length)=L.drop (16*1):=by simp_all
  rw[this]
 refine AZ Z M ?_;refine(lS G nm (Ho.part L 0) _ (by have:=RQ L 0;omega) _).use ?_;have f:=A8 H0 (qH 4 [AQ (I7 (J7 nm) (Ho.part L 0))]);have S:=iN H0 (I7 (J7 nm) (Ho.part L 0)) EQ rfl;refine A7 OH ?_;rw[show([AV.int .i64 0,.n 0,.str ⟨#[]⟩,.sl .nil 0 []]:List AV)=EQ from rfl];refine AZ S O ?_;have d:=AU (x:=qH 4 [AQ (I7 (J7 nm) (Ho.part L 0))]) d;have g:=g.app [qH 4 [AQ (I7 (J7 nm) (Ho.part L 0))]]
 generalize H0++[qH 4 [AQ (I7 (J7 nm) (Ho.part L 0))]]=H1 at f d g|-
 generalize H0.length=j at f A|-
 have hsum:I7 (J7 nm) (Ho.part L 0)=PD (J7 nm) L 0:=rfl;rw[hsum] at f;refine EG 0 (fun F H=>F 4=.ptr h.length 0 0/\F 6=.ptr j 0 0/\H[h.length]?=some (qH 4 [EQ])/\H[j]?=some (qH 4 [AQ (iK nm L)])/\Sm.ext h H) (fun _ _=>False) ?_ ?_ (fun _ _ q=>q.elim)
 .refine BB (fun n F H=>∃k,n=L.length-16*(k+1)/\16*k<L.length/\F 0=.str nm/\F 1=.sl s 2 ((L.drop (16*(k+1))).map encR)/\F 4=.ptr h.length 0 0/\F 6=.ptr j 0 0/\H[h.length]?=some (qH 4 [EQ])/\H[j]?=some (qH 4 [AQ (PD (J7 nm) L k)])/\Sm.ext h H) (L.length-16)
   ⟨0,U,U,AL,AL,AL,AL,d,f,g⟩ ?_
  clear d f g;rintro n F H ⟨k,rfl,hk,f0,I,K,J,d,f,g⟩;have ec:decide ((((L.drop (16*(k+1))).length:Nat):Int)>0)=decide (16*(k+1)<L.length):=by grind
  refine AZ I ec ?_;refine BL ?_ ?_<;>intro V
  .have B:16*(k+1)<L.length:=BQ V
   have e2:min (16:Int) (((L.drop (16*(k+1))).length:Nat):Int)=((min 16 (L.length-16*(k+1)):Nat):Int):=by rw[yB];omega
   have P:∀H:Hp,IW jA H 84 (.sl s 2 ((L.drop (16*(k+1))).map encR)) none (some (.n ((min 16 (L.length-16*(k+1)):Nat):Int))) none=some (.sl (vB s (min 16 (L.length-16*(k+1))) (L.drop (16*(k+1))).length) 2 ((Ho.part L (k+1)).map encR)):=fun H=>by
    have:=rj WY KO (h:=H) (m:=s) (kk:=.i64) (xs:=(L.drop (16*(k+1))).map encR) (u:=min 16 (L.length-16*(k+1))) NI;rw[<-List.map_take,jI,Es L (k+1) _ rfl] at this;exact this
   have Q:∀H:Hp,IW jA H 84 (.sl s 2 ((L.drop (16*(k+1))).map encR)) (some (.n ((min 16 (L.length-16*(k+1)):Nat):Int))) none none=some (.sl s 2 ((L.drop (16*(k+1+1))).map encR)):=fun H=>by
    rw[yp WY KO NI,<-List.map_drop,List.drop_drop]
    have:L.drop (16*(k+1)+min 16 (L.length-16*(k+1)))=L.drop (16*(k+1+1)):=by
     by_cases q:L.length<=16*(k+1+1)
     .rw[jS U,jS U]
     .grind
    rw[this]
   have T:D7 jA H 79 (.ptr j 0 0) (.agg [.n 20,.n 0,.str ⟨#[]⟩,.sl .full 4 [AQ (PD (J7 nm) L k),AQ (I7 (J7 nm) (Ho.part L (k+1)))]])=some (H.set j (qH 4 [AQ (PD (J7 nm) L (k+1))])):=by
    have:=O5 (e:=i5 (PD (J7 nm) L k) (I7 (J7 nm) (Ho.part L (k+1)))) f (EF _);rw[fO] at this;exact this
   have a0:=AY f;refine AZ I e2 ?_;refine DI BC ?_;refine LP @X6 f0 I J (MR f) P ?_;refine⟨_,lS G nm (Ho.part L (k+1)) _ (by have:=RQ L (k+1);omega) _,?_⟩
   try refine LP @aT @vn T J I Q ?_
   exact⟨_,U,k+1,rfl,B,AO,AO,AO,AO,DU d U,CO f,g.set U _⟩
  .have B:¬16*(k+1)<L.length:=BQ V
   have he:iK nm L=PD (J7 nm) L k:=by
    unfold iK;rw[if_neg C,show parts L-1=k by unfold parts;omega]
   refine AB ?_;exact⟨AO,AO,d,by rw[he];exact f,g⟩
 .rintro F H ⟨K,J,d,f,g⟩
  simp only[vQ,VY,CP,↓reduceIte,jC,b_,jQ,K,J,MR f,O5 d rfl];rw[IU (b:=h.length) (DY K) (MR (CO d))];exact⟨rfl,g.set (jF _) _⟩
theorem AK (a b:Int):IY jA 145 [(0,.n a),(1,.n b)]=some (.agg (encR ⟨a,b⟩)):=BC
theorem x9 (h:Hp)(r:cp):DR jA false h 84 1 [(0,.agg (encR r))]=some (.sl .full 2 [encR r],h):=BC
theorem Ov:jd encR:=fun _ _ _ _=>⟨rfl,rfl⟩
theorem iS (l:List Int):(UD l).length<=l.length:=by
 have:∀(l:List Int) (o:List cp),(l.foldl cQ o).length<=o.length+l.length:=fun l=>by
  induction l with
  | nil=>intro o;simp
  | cons a l f =>
    intro o;have g:=f (cQ o a)
    have j:(cQ o a).length<=o.length+1:=by
     unfold cQ
     cases d:o.getLast? with
     | none=>simp
     | some r =>
       have q:0<o.length:=by cases o<;>simp at d|-
       simp only;split<;>simp<;>omega
    rw[List.foldl_cons,List.length_cons];omega
 have:=this l [];simpa [UD] using this
theorem AWH (n:Int):cQ [] n=[⟨n,n⟩]:=rfl
theorem Kj {R:List cp}(a:R≠[])(h:(R[R.length-1]'(by have:=qQ.2 a;omega)).hi=n-1):cQ R n=R.set (R.length-1) ⟨(R[R.length-1]'(by have:=qQ.2 a;omega)).lo,n⟩:=by
 have d:=qQ.2 a;have e:R.getLast?=some R[R.length-1]:=by grind
 unfold cQ;rw[e];simp only;rw[if_pos h];apply List.ext_getElem?;intro j;rw[List.getElem?_set,List.dropLast_eq_take,List.getElem?_append,jT,Nat.min_eq_left U];by_cases q:R.length-1=j
 .grind
 .grind
theorem AWI {R:List cp}(a:R≠[])(h:¬(R[R.length-1]'(by have:=qQ.2 a;omega)).hi=n-1):cQ R n=R++[⟨n,n⟩]:=by
 have d:=qQ.2 a;have e:R.getLast?=some R[R.length-1]:=by grind
 unfold cQ;rw[e];simp only;rw[if_neg h]
theorem Tg (l:List Int)(v:AV)(h0 h:Hp)(hv:bw 1 Bins.bu h0 l v h)(hl:l.length<=1048576)(hr:∀z∈l,-1048576<=z/\z<=1048576):a_ (En G) 181 [v] h (.sl (Cov.nm (UD l)) 2 ((UD l).map encR)):=by
 refine JL Ov ?_;refine cn Tryz.func181 2 ?_;rcases hv with⟨rfl,rfl⟩|⟨a0,o,_,rfl,Z⟩
 .refine QA ?_
  refine BB (fun n F H=>F 3=.sl .nil 0 []/\F 8=.n 0/\F 9=.n 0/\H=h) 0 ⟨AL,AL,AL,rfl⟩ ?_;rintro n F H ⟨q,Y,A,rfl⟩;refine EH Y A (show decide ((0:Int)<0)=false by decide) q ?_;exact⟨ext.rfl' _,.inl ⟨rfl,rfl⟩⟩
 have Z:fy h o l:=Z;refine AB ?_
 refine BB (fun n F H=>∃i u,n+i=l.length/\F 3=u/\F 7=.own o 0 l.length/\F 8=.n (l.length:Nat)/\F 9=.n (i:Nat)/\Sm.ext h H/\bw 2 encR h (UD (l.take i)) u H) l.length
  ⟨0,.sl .nil 0 [],BA,AL,AL,AL,AL,ext.rfl' _,bw.nil _ _ _ _⟩ ?_
 rintro n F H ⟨i,u,hi,q,f7,Y,A,V,M⟩;refine AZ Y A ?_;refine DV ?_ ?_<;>intro a
 .have B:fy H o l:=DZ V Z
  have ld:BR jA H 3 (.ptr o i 0)=some (.n l[i]):=by rw[B.ld a,List.getD_eq_getElem?_getD,jP a];rfl
  obtain⟨r0,r1⟩:=hr _ (jH a);have d:UD (l.take (i+1))=cQ (UD (l.take i)) l[i]:=by rw[jW a,pG]
  have K:=iS (l.take i);rw[jT] at K
  have app:∀ {R:List cp},UD (l.take i)=R->∃g f,EJ jA true H 84 84 u (.sl .full 2 [encR ⟨l[i],l[i]⟩])=some (g,f)/\bw 2 encR h (R++[⟨l[i],l[i]⟩]) g f/\Sm.ext h f:=fun {R} C=>by
   subst C;obtain⟨g,f,I,j,_,J,_,_⟩:=M.append (P:=jA) WY KO mq m8 U U V ⟨l[i],l[i]⟩;exact⟨g,f,I,j,J⟩
  generalize UD (l.take i)=R at M d K app;have fin:∀ {g:AV} {f:Hp} (O:bw 2 encR h (UD (l.take (i+1))) g f) (Q:Sm.ext h f) (n:Nat),n+i=l.length->∃m,m<n/\∃i' u,m+i'=l.length/\g=u/\(.own o 0 l.length:AV)=.own o 0 l.length/\Sm.ext h f/\bw 2 encR h (UD (l.take i')) u f:=fun O Q n hn=>⟨n-1,U,i+1,_,U,rfl,rfl,Q,O⟩
  rcases M with⟨rfl,rfl⟩|⟨C,ob,L,rfl,T⟩
  .obtain⟨g,f,I,j,J⟩:=app rfl
   rw[AWH] at d;rw[List.nil_append,<-d] at j;simp only[vQ,EM,iD,CP,GV,OA,L9,↓reduceIte,jC,b_,J8,aE,q,f7,A,B.ix a,ld,List.length_nil,show IntKind.i64.wrap (((0:Nat):Int)-1) = -1 by decide,show decide ((-1:Int)≥0)=false by decide,AK,x9,I,CZ i];exact⟨n-1,U,i+1,g,U,AO,AO,AO,AO,J,j⟩
  .have hp:=qQ.2 C
   have hk:R.length-1<R.length:=U;have zk:IntKind.i64.wrap (((R.length:Nat):Int)-1)=((R.length-1:Nat):Int):=by rw[wrap_i64 U U];omega
   have zn:IntKind.i64.wrap (l[i]-1)=l[i]-1:=wrap_i64 U U;have S:JJ 2 H (.own ob 0 R.length) (.n ((R.length-1:Nat):Int))=some (.ptr ob (R.length-1) 0):=by rw[GR T hk,jG]
   have lh:BR jA H 3 (.ptr ob (R.length-1) 1)=some (.n R[R.length-1].hi):=by rw[BJ ct T (Cov.c8 hk)];rfl
   refine V3 q f7 A @B.ix a ld zk @rI S lh zn ?_;refine BL ?_ ?_<;>intro E
   .have E:R[R.length-1].hi=l[i]-1:=BQ E
    have st:D7 jA H 3 (.ptr ob (R.length-1) 1) (.n l[i])=some (H.set ob (qH 2 ((R.set (R.length-1) ⟨R[R.length-1].lo,l[i]⟩).map encR))):=by
     rw[IE (cs:=[.n l[i]]) rfl iz T (Cov.c8 hk) (by simp [encR]),List.map_set];rfl
    refine G7 q S st A (CZ i) ?_;refine⟨n-1,U,i+1,_,U,AO,AO,AO,AO,V.set L _,?_⟩;rw[d,Kj C E];exact .inr ⟨fun e=>by have:=congrArg List.length e;simp at this;exact C this,ob,L,by rw[List.length_set],CO T⟩
   .have E:¬R[R.length-1].hi=l[i]-1:=BQ E
    obtain⟨g,f,I,j,J⟩:=app rfl;rw[AWI C E] at d;rw[<-d] at j;refine LP q AK x9 I A (CZ i) ?_;exact⟨n-1,U,i+1,g,U,AO,AO,AO,AO,J,j⟩
 .rw[jK U] at M
  refine A7 q ?_;exact⟨V,M⟩
theorem OR (n:Int)(w:Wg)(c:Nat)(h:Hp)(j:h[c]?=some (qH 1 [[.n n]])):a_ (En G) 179 ([.agg (JE w)]++[.ptr c 0 0]) h (.bool (VQ n w)):=by
 refine ACalls.pure0 rfl ?_;refine cn Tryz.func179 3 ?_;have d:(h++[qH 4 [JE w]])[c]?=_:=AU j;have q:BR jA (h++[qH 4 [JE w]]) 3 (.ptr h.length 0 0)=some (.n w.lo):=by rw[BJ ct (A8 _ _) (row:=JE w) rfl];rfl
 have f:BR jA (h++[qH 4 [JE w]]) 3 (.ptr h.length 0 1)=some (.n w.hi):=by rw[BJ ct (A8 _ _) (row:=JE w) rfl];rfl
 have g:BR jA (h++[qH 4 [JE w]]) 3 (.ptr c 0 0)=some (.n n):=IA ct d;refine EH @Dg q f g ?_;cases a:decide (w.lo<=n)
 .refine DC a f g ?_
  exact⟨by unfold VQ;rw[a];rfl,_,rfl⟩
 .refine DC a f g ?_
  exact⟨by unfold VQ;rw[a];rfl,_,rfl⟩
end
theorem A5 (h:Hp):H9 jA h 3=some (.ptr h.length 0 0,h++[qH 1 [[.n 0]]]):=FZ (row:=[.n 0]) BC
theorem Rr (h:Hp)(n:Int):D7 jA (h++[qH 1 [[.n 0]]]) 3 (.ptr h.length 0 0) (.n n)=some (h++[qH 1 [[.n n]]]):=by
 rw[JV (cs:=[.n n]) (row:=[.n 0]) rfl iz (A8 _ _) (jF 1),KZ];rfl
theorem q9 (h:Hp)(n:Int):DR jA false h 32 1 [(0,.n n)]=some (.sl .full 1 [Bins.bu n],h):=BC
theorem Hc (ws:List Wg):∀k,∀z∈U8 ws k,0<=z/\z<(k:Int)
 | 0,z,h=>by cases h
 | k+1,z,h=>by
   rcases List.mem_append.1 h with h|h
   .have:=Hc ws k z h;omega
   .grind
theorem ASY {ws:List Wg}:(P6 (VQ n) ws<0->MM n ws=false)/\(0<=P6 (VQ n) ws->∃k,∃hk:k<ws.length,P6 (VQ n) ws=(k:Nat)/\MM n ws=decide (ws[k].w>0)):=by
 constructor
 .intro h
  exact yx (kB _ _ h)
 .intro h
  obtain⟨k,hk,e,a,d⟩:=aL _ _ h;exact⟨k,hk,e,yy hk d a⟩
theorem L3 {b:Nat}{d:Ds}(a:H[b]?=some (qH 2 [I9 d])):BR jA H 140 (.ptr b 0 0)=some (.agg (I9 d)):=by
 rw[EK sh fG a rfl (by rw[RU];exact jF 2),zI,jK (by rw[RU];exact jF 2)]
section
variable (G:Nat->AV)
theorem RM (p:Pr)(hs:fp p)(P:PV p)(d:Ds)(hr:Q9 p.vars d.var=true)(ad:d.ws.length<=1048576)(h:Hp):a_ (En G) 99 [.agg (CW p),.agg (I9 d)] h (.agg (AQ (iL p d))):=by
 obtain⟨k,hk,M,hm⟩:=XL hr;obtain⟨_,w1,w8,_⟩:=VM (P.vr _ (jH hk));obtain⟨w,hw⟩:=Int.eq_ofNat_of_zero_le (U:0<=p.vars[k].width)
 have O:iL p d=iK p.vars[k].name (runs d.ws (2^w)):=by
  unfold iL;rw[M,qI,jP hk];simp only;rw[hw,qI]
 have hW:(2:Nat)^w<=256:=by
  have:w<=8:=U
  calc (2:Nat)^w<=2^8:=Nat.pow_le_pow_right DX this
   _=256:=rfl
 have e2:(2:Int)^w=((2^w:Nat):Int):=by rw[Int.natCast_pow];rfl
 rw[O];refine ACalls.pure (R:=fun v H=>v=.agg (AQ (iK p.vars[k].name (runs d.ws (2^w))))/\Sm.ext h H) 3 ?_ (fun v H ⟨a,b⟩=>⟨b,by rw[a];exact PL _ _ 0 _⟩);refine e7 Tryz.func99 [.cell 4 79] ?_;have K:=AU (x:=qH 4 [EQ]) (AU (x:=qH 2 [I9 d]) (A8 h (qH 5 [CW p])));have C:=AU (x:=qH 4 [EQ]) (A8 (h++[qH 5 [CW p]]) (qH 2 [I9 d]));have B:=A8 (h++[qH 5 [CW p]]++[qH 2 [I9 d]]) (qH 4 [EQ]);have Q:Sm.ext h (h++[qH 5 [CW p]]++[qH 2 [I9 d]]++[qH 4 [EQ]]):=(((ext.rfl' h).app _).app _).app _;have e4:(h++[qH 5 [CW p]]++[qH 2 [I9 d]]).length=h.length+2:=BA;have e3:(h++[qH 5 [CW p]]).length=h.length+1:=BA;refine DC @QE @A9 OH ?_;rw[show([AV.int .i64 0,.n 0,.str ⟨#[]⟩,.sl .nil 0 []]:List AV)=EQ from rfl]
 rw[e4] at B|-
 rw[e3] at C|-
 generalize h++[qH 5 [CW p]]++[qH 2 [I9 d]]++[qH 4 [EQ]]=H0 at K C B Q|-
 have S:BR jA H0 3 (.ptr (h.length+1) 0 0)=some (.n (k:Nat)):=by rw[BJ ct C (row:=I9 d) rfl];show some (AV.int .i64 d.var)=_;rw[M]
 have K:=AU (x:=qH 4 [bt p.vars[k]]) K;have C:=AU (x:=qH 4 [bt p.vars[k]]) C;have L:=A8 H0 (qH 4 [bt p.vars[k]]);have a5:=AY B;simp only[vQ,CP,XE,↓reduceIte,jC,Nat.add_zero,b_,cM,WJ,nU,jQ,ZL (show H0[h.length]?=some (qH 5 [CW p]) by rw[<-List.getElem?_append_left (l₂:=[qH 4 [bt p.vars[k]]]) U];exact K),S,CE hk,Bd.jo hk,Bd.ky,Bd.k_];have B:=AU (x:=qH 4 [bt p.vars[k]]) B;have Q:=Q.app [qH 4 [bt p.vars[k]]];have a7:Sm.ext H0 (H0++[qH 4 [bt p.vars[k]]]):=(ext.rfl' _).app _
 generalize H0++[qH 4 [bt p.vars[k]]]=H1 at K C B L Q a7|-
 generalize H0.length=vb at L a5|-
 clear S e3 e4;have lw:BR jA H1 3 (.ptr vb 0 1)=some (.n (w:Nat)):=by rw[BJ ct L rfl];show some (AV.int .i64 p.vars[k].width)=_;rw[hw]
 have ac:=AY L;refine AZ lw (wb w (by omega)) ?_;refine EG 0 (fun F H=>∃u,F 4=.ptr (h.length+2) 0 0/\F 5=.ptr vb 0 0/\F 6=u/\Sm.ext H1 H/\bw 1 Bins.bu H1 (U8 d.ws (2^w)) u H) (fun _ _=>False) ?_ ?_ (fun _ _ q=>q.elim)
 .refine BB (fun n F H=>∃i u,n+i=2^w/\F 3=.ptr (h.length+1) 0 0/\F 4=.ptr (h.length+2) 0 0/\F 5=.ptr vb 0 0/\F 6=u/\F 17=.n ((2^w:Nat):Int)/\F 18=.n (i:Nat)/\Sm.ext H1 H/\bw 1 Bins.bu H1 (U8 d.ws i) u H) (2^w)
   ⟨0,.sl .nil 0 [],BA,AL,AL,AL,AL,by refine AB ?_;rw[e2],AL,ext.rfl' _,bw.nil _ _ _ _⟩ ?_
  rintro n F H ⟨i,u,hi,f3,Z,f5,f6,f17,f18,f,g⟩;refine AZ f17 f18 ?_;refine DV ?_ ?_<;>intro a9
  .have V:=A8 H (qH 1 [[.n (i:Nat)]])
   have f:=f.app [qH 1 [[.n (i:Nat)]]];have g:=g.app [qH 1 [[.n (i:Nat)]]];refine DC f18 A5 @Rr ?_
   generalize H++[qH 1 [[.n (i:Nat)]]]=H2 at V f g|-
   generalize H.length=ib at V|-
   have a0:=DZ f C;have T:BR jA H2 120 (.ptr (h.length+1) 0 1)=some (.sl d.wm 4 (d.ws.map JE)):=by rw[BJ si a0 rfl];rfl
   have li:BR jA H2 3 (.ptr ib 0 0)=some (.n (i:Nat)):=by rw[BJ ct V rfl];rfl
   refine AZ f3 T ?_;refine(Fi G d.ws d.wm 179 [.ptr ib 0 0] (VQ (i:Nat)) H2 U fun x _=>OR G (i:Nat) x ib H2 V).use ?_;have fin:∀(u':AV) (E:Hp),Sm.ext H1 E->bw 1 Bins.bu H1 (U8 d.ws (i+1)) u' E->Sm.ext H1 E/\bw 1 Bins.bu H1 (U8 d.ws (i+1)) u' E:=fun _ _ a b=>⟨a,b⟩
   have hl:=fM d.ws i;obtain⟨c1,c2⟩:=ASY (n:=(i:Nat)) (ws:=d.ws);cases I:decide (P6 (VQ ((i:Nat):Int)) d.ws≥0)
   .have Y:=c1 (by have:=of_decide_eq_false I;omega)
    have A:U8 d.ws (i+1)=U8 d.ws i:=by simp only[U8];rw[if_neg (by rw[Y];decide),jL]
    rw[<-A] at g;refine DC I f18 (CZ i) ?_;exact⟨n-1,U,i+1,u,U,AO,AO,AO,AO,AO,AO,f,g⟩
   .obtain⟨j,hj,ej,Y⟩:=c2 (by have:=of_decide_eq_true I;omega)
    rw[ej] at I|-
    have a8:BR jA H2 3 (.fptr 4 (d.ws.map JE) j 2)=some (.n d.ws[j].w):=by rw[BK ct hj];rfl
    refine LJ xP @bY I f3 T hj a8 ?_;refine BL ?_ ?_<;>intro hq
    .have A:U8 d.ws (i+1)=U8 d.ws i++[((i:Nat):Int)]:=by simp only[U8];rw[if_pos (by rw[Y];exact hq)]
     obtain⟨v',E,a1,a2,_,a3,_,_⟩:=g.append (P:=jA) dJ iz mr nA U U f ((i:Nat):Int);rw[<-A] at a2;refine LP f6 li @q9 a1 f18 (CZ i) ?_;exact⟨n-1,U,i+1,v',U,AO,AO,AO,AO,AO,AO,a3,a2⟩
    .have A:U8 d.ws (i+1)=U8 d.ws i:=by simp only[U8];rw[if_neg (by rw[Y,hq];decide),jL]
     rw[<-A] at g;refine AZ f18 (CZ i) ?_;exact⟨n-1,U,i+1,u,U,AO,AO,AO,AO,AO,AO,f,g⟩
  .have ei:i=2^w:=U
   rw[ei] at g;refine AB ?_;exact⟨u,AO,AO,AO,f,g⟩
 .rintro F H ⟨u,Z,f5,f6,f,g⟩
  have a4:=DZ f L;have J:=DZ f B;have ln:BR jA H 9 (.ptr vb 0 0)=some (.str p.vars[k].name):=by rw[BJ eo a4 rfl];rfl
  have aa:=fM d.ws (2^w);have a6:=Hc d.ws (2^w);refine AB ?_;refine DI BC ?_;refine DC f5 f6 ln ?_;refine⟨_,Tg G (U8 d.ws (2^w)) u H1 _ g U (fun z hz=>by have:=a6 z hz;omega),_,Ux G p.vars[k].name (runs d.ws (2^w)) _ (by have:=iS (U8 d.ws (2^w));show(UD (U8 d.ws (2^w))).length<=_;omega) _,?_⟩;simp only[vQ,O8,Z,O5 J rfl];rw[IU (b:=h.length+2) (DY Z) (MR (CO J))];exact⟨rfl,(Q.trans f).set U _⟩
def mS (h:Hp)(ys:List Ex)(v:AV)(H:Hp):Prop:=∃o a,h.length<=o/\v=.own o 0 ys.length/\H[o]?=some (qH 4 (ys.map AQ++a))
theorem D4 {h:Hp}{xs:List Ex}{v:AV}(E:mS h xs v H)(g:Sm.ext h H)(F:xs.length+1<=8388608)(y:Ex):
  ∃f a,EJ jA true H 23 23 v (.sl .full 4 [AQ y])=some (f,a)/\mS h (xs++[y]) f a/\Sm.ext h a/\(∀b x,H[b]?=some x->¬db v b->a[b]?=some x)/\∀b,db f b->b=H.length:=by
 obtain⟨o,j,q,rfl,A⟩:=E;have B:JR H (.own o 0 xs.length)=some (4,xs.map AQ):=by rw[KH A BA,zI,List.take_append_of_le_length BA,jK BA]
 refine⟨_,_,VG NV G9 QF QD B (H6 H .full 4 [AQ y]) BA (JF NI U),⟨H.length,[],g.le,BA,BA⟩,(g.set q _).app _,fun b x d C=>?_,fun b d=>d.symm⟩;exact AU (by rw[List.getElem?_set_ne (fun e=>C e)];exact d)
theorem D3 {h:Hp}{ys:List Ex}{v:AV}(g:mS h ys v H)(d:Nat):FK h.length H (d+2) v=.sl .any 4 (ys.map AQ):=by
 obtain⟨o,a,q,rfl,f⟩:=g;have e:((ys.map AQ++a).drop 0).take ys.length=ys.map AQ:=by simp_all
 rw[Cov.ez _ _ (d+1) o 0 ys.length 4 _ U f,e,ft Ho.fr _ _ d _,if_pos];refine⟨BA,?_⟩;rw[List.all_eq_true];intro row j;obtain⟨x,_,rfl⟩:=List.mem_map.1 j;exact TL x
theorem C8 (h:Hp)(n:Nat)(f:n<=1048576):IX jA true h 23 (.n 0) (.n (n:Int))=some (.own h.length 0 0,h++[qH 4 (zD n EQ)]):=by
 have d:N9 jA 79=some EQ:=BC;have a:room n 56:=JF U U;unfold IX;simp only[NV,G9,QD,d];rw[if_pos ⟨U,U,by rw[qI];exact a,rfl⟩];simp
theorem zg {p:Pr}(g:JY p=0):∀d∈p.dists,Q9 p.vars d.var=true/\d.ws.length<=16:=by
 have f:PO p.vars p.dists=0:=by
  unfold JY at g;by_cases h1:NP p.vars≠0
  .simp_all
  rw[if_neg h1] at g;by_cases h2:L6 p.vars (p.hard++p.soft)≠0
  .simp_all
  rw[if_neg h2] at g;by_cases f:PO p.vars p.dists≠0
  .simp_all
  simpa using f
 intro d A;obtain⟨i,j,rfl⟩:=List.getElem_of_mem A;unfold PO at f;have a:=Bd.ea f i (BQ j);rw[sT j] at a;unfold i9 at a
 cases q:Q9 p.vars p.dists[i].var with
 | false=>rw[if_neg (by rw[q];decide)] at a;exact absurd a DX
 | true =>
   rw[if_pos q] at a;refine⟨rfl,?_⟩;split at a
   .exact absurd a DX
   .omega
theorem Si (hG:fm G)(p:Pr)(M:fp p)(O:JY p=0)(h:Hp):a_ (En G) 46 [.agg (CW p)] h (.sl .any 4 ((TB p).map AQ)):=by
 have P:=PV.of O;refine ACalls.pure (R:=fun v H=>mS h (TB p) v H/\Sm.ext h H) 2 ?_ (fun v H ⟨a,b⟩=>⟨b,D3 a 0⟩);refine cn Tryz.func46 2 ?_;have d:=A8 h (qH 5 [CW p]);have f:=Sm.ext.r1 h (qH 5 [CW p]);have L:=M.dists;refine A7 @QE ?_
 generalize h++[qH 5 [CW p]]=H0 at d f|-
 have ldP:∀ {H:Hp},H[h.length]?=some (qH 5 [CW p])->BR jA H 27 (.ptr h.length 0 0)=some (.agg (CW p)):=fun q=>by rw[EK eP ZU q (row:=CW p) rfl (by rw[LD];exact jF 5)];rfl
 have C:∀ {H:Hp},H[h.length]?=some (qH 5 [CW p])->BR jA H 24 (.ptr h.length 0 3)=some (.sl p.dm 2 (p.dists.map I9)):=fun q=>by rw[BJ qw q (row:=CW p) rfl];rfl
 refine A7 (ldP d) ?_;refine(Bd.df G hG p M H0).use ?_;refine DC (show(JY p != 0)=false by rw[O];rfl) (C d) (C8 H0 p.dists.length L) ?_;have V:=AY d;have j:mS h ((TB p).take 0) (.own H0.length 0 0) (H0++[qH 4 (zD p.dists.length EQ)]):=⟨H0.length,zD p.dists.length EQ,f.le,rfl,BA⟩;have d:=AU (x:=qH 4 (zD p.dists.length EQ)) d;have f:=f.app [qH 4 (zD p.dists.length EQ)];have g:∀b,db (.own H0.length 0 0) b->b≠h.length:=fun b K=>by cases K;omega
 generalize H0++[qH 4 (zD p.dists.length EQ)]=H1 at d f j|-
 refine A7 (C d) ?_;generalize AV.own H0.length 0 0=v0 at j g;have a0:(TB p).length=p.dists.length:=by unfold TB;rw[jI]
 refine BB (fun n F H=>∃i v,n+i=p.dists.length/\F 1=.ptr h.length 0 0/\F 3=v/\F 14=.sl p.dm 2 (p.dists.map I9)/\F 15=.n (p.dists.length:Nat)/\F 16=.n (i:Nat)/\H[h.length]?=some (qH 5 [CW p])/\Sm.ext h H/\mS h ((TB p).take i) v H/\∀b,db v b->b≠h.length) p.dists.length
  ⟨0,v0,BA,AL,AL,AL,AL,AL,d,f,j,g⟩ ?_
 clear d f j g;rintro n F H ⟨i,v,hi,f1,T,f14,f15,f16,d,f,j,g⟩;refine AZ f15 f16 ?_;refine DV ?_ ?_<;>intro A
 .obtain⟨d1,d2⟩:=zg O _ (jH A)
  have lt:=AY d;have d:=AU (x:=qH 2 [I9 p.dists[i]]) d;have f:=f.app [qH 2 [I9 p.dists[i]]];have J:=A8 H (qH 2 [I9 p.dists[i]])
  have j:mS h ((TB p).take i) v (H++[qH 2 [I9 p.dists[i]]]):=by
   obtain⟨o,E,q1,q2,q3⟩:=j;exact⟨o,E,q1,q2,AU q3⟩
  have I:H9 jA H 140=some (.ptr H.length 0 0,H++[qH 2 [[.n 0,.sl .nil 0 []]]]):=FZ (row:=[.n 0,.sl .nil 0 []]) BC
  have Q:D7 jA (H++[qH 2 [[.n 0,.sl .nil 0 []]]]) 140 (.ptr H.length 0 0) (.agg (I9 p.dists[i]))=some (H++[qH 2 [I9 p.dists[i]]]):=by
   rw[JV (cs:=I9 p.dists[i]) (row:=[.n 0,.sl .nil 0 []]) rfl (by rw[RU];exact fG) (A8 _ _) (by rw[RU];exact jF 2),KZ];rfl
  simp only[vQ,CP,↓reduceIte,jC,b_,ph,jQ,f14,f16,CE A,DL sh fG RU A,I,Q]
  generalize H++[qH 2 [I9 p.dists[i]]]=H2 at d f J j|-
  refine EH f1 T (ldP d) (L3 J) ?_;refine(RM G p M P p.dists[i] d1 U H2).use ?_;obtain⟨v',H',Y,S,Z,a4,a5⟩:=D4 j f (by rw[jT];omega) (iL p p.dists[i]);have hit:i<(TB p).length:=U;have B:(TB p)[i]=iL p p.dists[i]:=by simp [TB]
  rw[<-B,<-jW hit] at S;refine EH @Q8 Y f16 (CZ i) ?_;refine⟨n-1,U,i+1,v',U,AO,AO,AO,AO,AO,a4 _ _ d (fun q=>g _ q rfl),Z,S,fun b K=>by have:=a5 b K;have:=AY d;have:=AY J;omega⟩
 .rw[jK U] at j
  refine A7 T ?_;exact⟨j,f⟩
end
end Bd.Cl
namespace Bd.Cl
open Sm Bins Cov Xe Wd Bl Go.RowKit
variable {H h:Hp} {u v:AV} {a b c:List Int} {i:Nat} {e:Ex} {p:Pr}
theorem Qw (o off len:Nat):IZ jA 32 .eql (.own o off len) (.sl .nil 0 [])=some (.bool false):=BC
def mg (h H:Hp)(xs:List Int)(v:AV):Prop:=(xs=[]/\v=.sl .full 1 [])\/(xs≠[]/\∃o,h.length<=o/\v=.own o 0 xs.length/\fy H o xs)
theorem mg.app {xs:List Int}(q:mg h H xs v)(x:bO):mg h (H++[x]) xs v:=q.imp id fun⟨a,o,b,c,d⟩=>⟨a,o,b,c,AU d⟩
theorem mg.keep {h H f:Hp}{B:List Nat}{xs:List Int}{v:AV}(q:mg h H xs v)(k:KB B H f)(g:∀b∈B,b<h.length):mg h f xs v :=
 q.imp id fun⟨a,o,b,c,d⟩=>⟨a,o,b,c,k.keep _ _ d fun j=>by have:=g _ j;omega⟩
section
variable (G:Nat->AV)
theorem Wt {o:Nat}{xs:List Int}(d:fy h o xs)(g:xs.length<=1048576):ACalls (En G) 189 [.own o 0 xs.length] h fun v H=>ext h H/\mg h H xs v:=by
 by_cases hz:xs.length=0
 .have e:xs=[]:=qY hz
  subst e;refine cn Tryz.func189 2 ?_
  have f:EJ jA true h 32 32 (.sl .full 1 []) (.own o 0 0)=some (.sl .full 1 [],h):=by
   unfold EJ;have j:TC jA h 1 32 (.own o 0 0)=some []:=by unfold TC;simp only[dJ,KH d (BA:0+0<=(([]:List Int).map Bins.bu).length)];rfl
   simp only[dJ,iz,H6,j];rfl
  refine MF Qw @Jq f ?_;exact⟨ext.rfl' _,.inl ⟨rfl,rfl⟩⟩
 .refine(AQY G d (U:0+xs.length=xs.length) U g).mono ?_
  rintro v H ⟨rfl,rfl⟩;exact⟨(ext.rfl' h).app _,.inr ⟨fun e=>hz (by rw[e];rfl),h.length,jF _,rfl,by rw[List.drop_zero];exact A8 _ _⟩⟩
theorem AWW (f:fm G)(l:List Sg)(v:AV)(q h:Hp)(E:bw 2 FY q l v h)(e:Ex)(F:l.length<=1048576)(j:wt e<=1048576):a_ (En G) 143 [.agg (AQ e),v] h (kj (kr l e)):=by
 rcases E with⟨rfl,rfl⟩|⟨B,o,I,rfl,A⟩
 .exact ACalls.args (Dx G f [] .nil e h BA j) (cq.cons (cz.refl _) (cq.cons (cz.sl (Cv.nil 0 2)) cq.nil))
 .refine a_.thaw (args':=[.agg (AQ e),.sl .any 2 (l.map FY)]) (Dx G f l .any e _ U j) rfl (fun i J d=>?_) rfl
  match i,d with
  | 0,d=>exact⟨_,rfl,by cases d;exact .same _⟩
  | 1,d =>
    refine⟨_,rfl,?_⟩;cases d;refine .own o 2 l.length (l.map FY) A (by rw[List.length_map]) fun row C u g=>?_
    obtain⟨s,_,rfl⟩:=List.mem_map.1 C;simp only[FY,List.mem_cons,List.not_mem_nil,or_false] at g;rcases g with rfl|rfl<;>exact⟨rfl,rfl⟩
  | i+2,d=>cases d
theorem AUY {vars:List Vr}(z:Int)(g:i<vars.length)(h2:i<a.length):(MV vars a).set i (vars[i].name,z)=MV vars (a.set i z):=by
 apply List.ext_getElem?;intro j;have d:∀ {b:List Int},j<(MV vars b).length↔j<vars.length/\j<b.length:=fun {b}=>by unfold MV;simp;omega
 by_cases hj:j<vars.length/\j<a.length
 .have f:j<(MV vars (a.set i z)).length:=d.2 ⟨hj.1,by rw[qZ];exact hj.2⟩
  rw[List.getElem?_set,jP f,cB hj.1 (by rw[qZ];exact hj.2) f,List.getElem_set];by_cases e:i=j
  .simp_all
  .rw[if_neg e,if_neg e,jP (d.2 hj),cB hj.1 hj.2 (d.2 hj)]
 .simp_all
def mT (c b:List Int)(i:Nat):List Int:=c.take i++b.drop i
theorem ATF (h:c.length=b.length)(i:Nat):(mT c b i).length=b.length:=by unfold mT;simp;omega
theorem ATE (h:c.length=b.length)(d:i<c.length):(mT c b i).set i (c.getD i 0)=mT c b (i+1):=by
 unfold mT;rw[List.set_append_right _ _ (by rw[jT];omega),jT,Nat.min_eq_left U,Nat.sub_self,List.drop_eq_getElem_cons (U:i<b.length),List.set_cons_zero,jW d,List.append_assoc];rw[List.getD_eq_getElem?_getD,jP d];rfl
theorem yF:∀(vars:List Vr) (a:List Int),a.length=vars.length->∀n:ByteArray,(NK (MV vars a) n).2=decide (0<=d' vars n)
 | [],[],_,n=>rfl
 | [],_::_,d,_=>by simp at d
 | _::_,[],d,_=>by simp at d
 | v::vs,z::a,d,n=>by
   have e:NK (MV (v::vs) (z::a)) n=if(v.name.toList==n.toList)=true then (wW z,true) else NK (MV vs a) n:=rfl
   have f:d' (v::vs) n=if(v.name.toList==n.toList)=true then 0 else if d' vs n<0 then -1 else d' vs n+1:=rfl
   rw[e,f];by_cases q:(v.name.toList==n.toList)=true
   .rw[if_pos q,if_pos q];rfl
   .rw[if_neg q,if_neg q,yF vs a (BQ d) n,decide_eq_decide]
    split<;>omega
theorem Aq {l:List Vr}(h:eh l e=0):c9 e=0/\kZ e=false/\gD l e=false:=by
 unfold eh at h;by_cases he:c9 e≠0
 .rw[if_pos he] at h;exact absurd h he
 rw[if_neg he] at h;unfold jl at h;refine⟨BQ he,?_,?_⟩
 .grind
 .grind
theorem Oj (h:eh p.vars e=0)(B:a.length=p.vars.length):(pre e).all (iu (MV p.vars a))=true:=by
 obtain⟨_,f,g⟩:=Aq h;rw[zJ];intro x A
 have j:O7 x=false:=by
  cases q:O7 x
  .rfl
  .unfold kZ at f;rw[qP] at f;exact absurd q (f x A)
 have d:PK p.vars x=false:=by
  cases q:PK p.vars x
  .rfl
  .unfold gD at g;rw[qP] at g;exact absurd q (g x A)
 unfold iu;by_cases e2:x.op=2
 .rw[if_pos e2,yF p.vars a B,decide_eq_true_eq]
  unfold PK at d;simp [e2] at d;exact d
 .rw[if_neg e2]
  unfold O7 at j;rw[if_neg];intro q;rcases q with q|q<;>simp [q] at j
theorem Bj (h:eh p.vars e=0)(d:a.length=p.vars.length):kr (MV p.vars a) e=(UB (MV p.vars a) e,0):=by
 unfold kr;rw[if_neg (by simpa using (Aq h).1),if_pos (Oj h d)]
def Dh (h:Hp)(p:Pr)(c b:List Int)(u v:AV)(H:Hp):Prop :=
 (p.vars.length=0/\u=.sl .full 1 []/\v=.sl .nil 0 [])\/(p.vars.length≠0/\∃d o,h.length<=d/\d<o/\v=.own d 0 p.vars.length/\u=.own o 0 p.vars.length/\H[d]?=some (qH 2 ((MV p.vars b).map FY))/\fy H o c)
theorem Dh.kb {g:Hp}(d:Dh h p c b u v H){B:List Nat}(k:KB B H g)(j:∀x∈B,x<h.length):Dh h p c b u v g :=
 d.imp id fun⟨a,eb,o,q1,q2,q3,q4,q5,q6⟩=>⟨a,eb,o,q1,q2,q3,q4,k.keep _ _ q5 fun f=>by have:=j _ f;omega,k.keep _ _ q6 fun f=>by have:=j _ f;omega⟩
theorem Dh.env (d:Dh h p c b u v H)(j:b.length=p.vars.length):bw 2 FY h (MV p.vars b) v H:=by
 have f:=UK j;rcases d with⟨z,_,rfl⟩|⟨z,g,o,q,B,rfl,C,A,E⟩
 .exact .inl ⟨qY U,rfl⟩
 .exact .inr ⟨fun e=>z (by rw[<-f,e];rfl),g,q,by rw[f],A⟩
theorem Dh.cpy (d:Dh h p c b u v H)(f:c.length=p.vars.length):mg h H c u:=by
 rcases d with⟨z,rfl,_⟩|⟨z,j,o,q,A,_,rfl,B,g⟩
 .exact .inl ⟨qY U,rfl⟩
 .exact .inr ⟨fun e=>z (by rw[<-f,e];rfl),o,U,by rw[f],g⟩
theorem Rn {b:Nat}{l:List Sg}(d:H[b]?=some (qH 2 (l.map FY)))(f:i<l.length)(z:Int):D7 jA H 3 (.ptr b i 1) (.n z)=some (H.set b (qH 2 ((l.set i (l[i].1,z)).map FY))):=by
 rw[IE (cs:=[.n z]) rfl iz d (Cov.c8 f) (by simp [FY]),List.map_set];rfl
theorem AT8 (hG:fm G)(p:Pr)(hs:fp p)(P:PV p)(lm:SM)(l:List Ex)(hl:l.length<=1048576)(hw:∀e∈l,wt e<=1048576)(hk:∀e∈l,eh p.vars e=0)(st:Int)(a:List Int)(ok:jg p a)(fb ab:Nat)(ar:fb≠ab)(h:Hp)(az:(lft p a:Int)<=st)(ac:st<=262144)
  (K:fo h fb p lm l ab p.vars.length false st) (hb:fy h ab a):ACalls (En G) 183 [.ptr fb 0 0] h fun v H=>KB [fb,ab] h H/\match dN p l (lft p a) a with
  | some b=>∃u,v=.tup [u,.bool true]/\mg h H b u
  | none=>v=.tup [.sl .nil 0 [],.bool false]/\∃a2,fo H fb p lm l ab p.vars.length true a2:=by
 generalize hR:dN p l (lft p a) a=R;have ba:=hs.vars;have a3:=ok.len;have b5:=AY K;have b7:=AY hb;have hB:∀x∈[fb,ab],x<h.length:=fun x hx=>by simp at hx;omega
 refine e7 Tryz.func183 [.tmp 2,.tmp 3] ?_;refine AZ @yW @cJ ?_;refine yV (.ones [0,1,2,3,4,5,6,7] (.alt 8 (.ones [9] .done) .non)) BC ?_;simp only[DN,O6,List.getElem?_cons_succ,List.getElem?_cons_zero];refine EH @y_ @YX @K.pr @K.as ?_;have hE:=Lb G p hs a ab a3 h hb;rw[a3] at hE;refine⟨ACalls.mono hE ?_,trivial⟩;rintro v0 H1 ⟨a1,ai⟩;have k1:KB [fb,ab] h H1:=⟨a1.le,fun i y q _=>DZ a1 q⟩;have an:fo H1 fb p lm l ab p.vars.length false st:=DZ a1 K;have ak:fy H1 ab a:=DZ a1 hb;refine DC @x6 @x7 @cJ ?_;refine EG 0 (fun F H=>KB [fb,ab] h H/\R=none/\∃a2,fo H fb p lm l ab p.vars.length true a2) (fun F H=>KB [fb,ab] h H/\∃b,R=some b/\F 3=.bool true/\mg h H b (F 2)) ?_ ?_ ?_
 .refine BB (fun n F H=>∃ov c b st,F 0=.ptr fb 0 0/\KB [fb,ab] h H/\b.length=p.vars.length/\bw 2 FY h (MV p.vars b) (F 4) H/\fo H fb p lm l ab p.vars.length ov st/\c.length=p.vars.length/\fy H ab c/\(ov=true->R=none)/\(ov=false->n=lft p c/\jg p c/\dN p l (lft p c) c=R/\(lft p c:Int)<=st/\st<=262144)) (lft p a)
   ⟨false,a,a,st,AL,k1,a3,by refine AB ?_;exact ai,an,a3,ak,(fun q=>by cases q),fun _=>⟨rfl,ok,hR,az,ac⟩⟩ ?_
  clear K hb an ak k1 ai a1 az ac;rintro n F H ⟨ov,c,b,st,S,k1,b3,ho,K,d,hb,aw,au⟩
  cases ov with
  | true =>
    refine DC @nR S @K.ovd ?_;exact⟨k1,aw rfl,st,K⟩
  | false =>
    obtain⟨rfl,a9,T,ay,b9⟩:=au rfl;have ax:=Hv a9;have z1:IntKind.i64.wrap (st-1)=st-1:=wrap_i64 U U;have b1:decide (st>0)=true:=by rw[decide_eq_true_eq];omega
    have k2:=k1.set (b:=fb) BA (qH 9 [ke p lm l ab p.vars.length false (st-1)]);have a7:fo (H.set fb (qH 9 [ke p lm l ab p.vars.length false (st-1)])) fb p lm l ab p.vars.length false (st-1):=CO K;have a4:fy (H.set fb (qH 9 [ke p lm l ab p.vars.length false (st-1)])) ab c:=by unfold fy;rw[zY ar];exact hb
    have Q:bw 2 FY h (MV p.vars b) (F 4) (H.set fb (qH 9 [ke p lm l ab p.vars.length false (st-1)])):=ho.setB b5 _;refine U3 @YX @nR @AZN S @K.ovd @K.std b1 z1 @K.setSt ?_
    generalize H.set fb (qH 9 [ke p lm l ab p.vars.length false (st-1)])=H2 at k2 a7 a4 Q|-
    refine AZ S @a7.as ?_;have hC:=Wt G a4 U;rw[d] at hC;refine hC.mono ?_;rintro u H3 ⟨L,al⟩;have k3:KB [fb,ab] h H3:=k2.trans ⟨L.le,fun i y q _=>DZ L q⟩;have I:fo H3 fb p lm l ab p.vars.length false (st-1):=DZ L a7;have E:fy H3 ab c:=DZ L a4;have av:=Ho.fh Q L
    have g:Dh h p c (mT c b 0) u (F 4) H3:=by
     have e0:mT c b 0=b:=by simp [mT]
     rw[e0];have am:=UK b3;rcases al with⟨z,rfl⟩|⟨z,o,q1,rfl,q2⟩
     .have hz:p.vars.length=0:=by rw[<-d,z];rfl
      rcases av with⟨_,w⟩|⟨w,_⟩
      .exact .inl ⟨hz,rfl,w⟩
      .simp_all
     .have hz:p.vars.length≠0:=fun q=>z (qY U)
      rcases Q with⟨w,_⟩|⟨w,eb,p1,p2,p3⟩
      .simp_all
      .exact .inr ⟨hz,eb,o,p1,by have:=AY p3;omega,by rw[p2,am],by rw[d],DZ L p3,q2⟩
    have aq:KI jA 32 u=some (.n (p.vars.length:Nat)):=by
     rcases g with⟨z,rfl,z3⟩|⟨z,eb,o,q1,q2,q3,rfl,q5,q6⟩
     .simp only[UF,z];rfl
     .simp only[UF]
    refine A7 @aq ?_;refine EG 2 (fun C f=>C 0=.ptr fb 0 0/\C 4=F 4/\C 5=u/\KB [fb,ab] h f/\fo f fb p lm l ab p.vars.length false (st-1)/\fy f ab c/\Dh h p c c u (F 4) f) (fun _ _=>False) ?_ ?_ (fun _ _ q=>q.elim)
    .refine BB (fun n C f=>∃i,n+i=p.vars.length/\C 0=.ptr fb 0 0/\C 4=F 4/\C 5=u/\C 45=u/\C 46=.n (p.vars.length:Nat)/\C 47=.n (i:Nat)/\KB [fb,ab] h f/\fo f fb p lm l ab p.vars.length false (st-1)/\fy f ab c/\Dh h p c (mT c b i) u (F 4) f) p.vars.length
      ⟨0,BA,DY S,AL,AL,AL,AL,AL,k3,I,E,g⟩ ?_
     clear k3 I E g;rintro n F2 f ⟨i,hi,S,f4,f5,ad,b0,aj,k3,I,E,g⟩;refine AZ b0 aj ?_;refine DV ?_ ?_<;>intro j
     .have ao:i<c.length:=U
      rcases g with⟨z,_⟩|⟨z,eb,o,q1,q2,q3,q4,q5,q6⟩
      .omega
      have b8:=ATF (c:=c) (b:=b) U i;have ap:i<(MV p.vars (mT c b i)).length:=by rw[UK U];exact j
      have ss:=Rn q5 ap (c.getD i 0);rw[cB j U ap,AUY _ j U,ATE U ao] at ss;have b6:JJ 2 f (.own eb 0 p.vars.length) (.n (i:Nat))=some (.ptr eb i 0):=by rw[GR q5 j,jG]
      rw[q4] at ad;rw[q3] at f4;simp only[vQ,CP,↓reduceIte,jC,b_,J8,va,za,jQ,S,f4,ad,aj,q6.ix j,q6.ld ao,b6,ss,CZ i];refine⟨n-1,U,i+1,U,AO,by first|exact True.intro|(rw[q3];exact f4)|exact q3.symm,AO,by first|exact True.intro|(rw[q4];exact ad)|exact q4.symm,AO,AO,⟨by rw[qZ];exact k3.len,fun k y q hm=>?_⟩,?_,?_,.inr ⟨z,eb,o,q1,q2,q3,q4,CO q5,?_⟩⟩
      .rw[zY (by have:=AY q;omega)];exact k3.keep k y q hm
      .grind
      .grind
      .grind
     .have e1:mT c b i=c:=by unfold mT;rw[jK U,List.drop_eq_nil_of_le U,List.append_nil]
      rw[e1] at g;refine AB ?_;exact⟨AO,AO,AO,k3,I,E,g⟩
    clear k3 I E g av al L Q a4 a7 k2 ho K hb aw au k1;rintro F2 f ⟨S,f4,f5,k3,I,E,g⟩;have hA:=Sa G p hs P lm l (st-1) c a9 fb ab ar f (by rw[d];exact I) E;rw[d] at hA;refine A7 S ?_;refine hA.mono ?_;rintro _ H4 ⟨kA,M⟩;have k4:=k3.trans kA;have V:=g.kb kA hB;generalize hN:jk p.vars p.vars.length c=O at M
    obtain⟨B,A,Y,aa,a5,ai,Q⟩:∃B A,fo H4 fb p lm l ab p.vars.length B (st-1)/\A.length=p.vars.length/\fy H4 ab A/\(B=true->O=none)/\(B=false->O=some A):=by
     cases O with
     | none =>
       obtain⟨q1,A,q2,q3⟩:=M;exact⟨true,A,q1,U,q3,fun _=>rfl,fun q=>by cases q⟩
     | some A =>
       obtain⟨q1,q2⟩:=M;exact⟨false,A,q1,(qT a9 hN).1.len,q2,(fun q=>by cases q),fun _=>rfl⟩
    clear M hA
    have go:ZV p l c≠true->(B=true->R=none)/\(B=false->jg p A/\lft p A+1=lft p c/\dN p l (lft p A) A=R):=fun ah=>by
     obtain⟨k,ag⟩:∃k,lft p c=k+1:=⟨lft p c-1,U⟩;rw[ag] at T;unfold dN at T;rw[if_neg ah,hN] at T;constructor
     .grind
     .intro q
      rw[Q q] at hN T;have T:dN p l k A=R:=T;obtain⟨n1,n2⟩:=qT a9 hN;refine⟨n1,n2,?_⟩;rw[<-T,show lft p A=k by omega]
    have af:ZV p l c=true->R=some c:=fun q=>by
     obtain⟨k,ag⟩:∃k,lft p c=k+1:=⟨lft p c-1,U⟩;rw[ag] at T;unfold dN at T;rw[if_pos q] at T;exact T.symm
    refine DC @AZO S @Y.es ?_
    refine BB (fun n C f=>∃i,n+i=l.length/\C 0=.ptr fb 0 0/\C 4=F 4/\C 5=u/\C 63=.sl lm 4 (l.map AQ)/\C 64=.n (l.length:Nat)/\C 65=.n (i:Nat)/\KB [fb,ab] h f/\fo f fb p lm l ab p.vars.length B (st-1)/\fy f ab A/\Dh h p c c u (F 4) f/\∀e∈l.take i,UB (MV p.vars c) e≠0) l.length
     ⟨0,BA,DY S,DY f4,DY f5,AL,AL,AL,k4,Y,a5,V,BA⟩ ?_
    clear S f4 f5 k3 I E g k4 Y a5 V kA;rintro n F2 f ⟨i,hi,S,f4,f5,b2,f64,ae,k4,Y,a5,V,a0⟩;refine AZ f64 ae ?_;refine DV ?_ ?_<;>intro j
    .have Z:=List.getElem_mem j
     have k5:=k4.app (qH 4 [AQ l[i]]);have a8:fo (f++[qH 4 [AQ l[i]]]) fb p lm l ab p.vars.length B (st-1):=AU Y;have a6:fy (f++[qH 4 [AQ l[i]]]) ab A:=AU a5;have J:=V.kb ((KB.rfl' [fb,ab] f).app (qH 4 [AQ l[i]])) hB;have gE:=A8 f (qH 4 [AQ l[i]]);simp only[vQ,CP,↓reduceIte,jC,b_,P5,jQ,b2,ae,CE j,DL NU G9 EF j,e9,gg]
     generalize f++[qH 4 [AQ l[i]]]=H5 at k5 a8 a6 J gE|-
     refine AZ (IL gE) f4 ?_;have am:=UK (vars:=p.vars) d;refine(AWW G hG (MV p.vars c) (F 4) h H5 (J.env d) l[i] U (hw _ Z)).use ?_;have b4:kj (kr (MV p.vars c) l[i])=.tup [.n (UB (MV p.vars c) l[i]:Nat),.n 0]:=by rw[Bj (hk _ Z) d];rfl
     rw[b4];refine AB ?_;refine BL ?_ ?_<;>intro hz
     .have hz:UB (MV p.vars c) l[i]=0:=BQ hz
      have ah:ZV p l c≠true:=fun q=>by
       unfold ZV at q;rw[zJ] at q;have:=q _ Z;rw[hz] at this;simp at this
      obtain⟨g1,g2⟩:=go ah;refine AB ?_
      cases hq:B with
      | true =>
        refine⟨0,ax,true,A,c,st-1,AO,k5,d,?_,by rw[<-hq];exact a8,aa,a6,fun _=>g1 hq,fun q=>by cases q⟩
        first|(rw[f4];exact J.env d)|exact J.env d
      | false =>
        obtain⟨n1,n2,n3⟩:=g2 hq;refine⟨lft p A,U,false,A,c,st-1,AO,k5,d,?_,by rw[<-hq];exact a8,aa,a6,(fun q=>by cases q),fun _=>⟨rfl,n1,n3,U,U⟩⟩
        first|(rw[f4];exact J.env d)|exact J.env d
     .have hz:UB (MV p.vars c) l[i]≠0:=BQ hz
      refine AZ ae (CZ i) ?_;refine⟨n-1,U,i+1,U,AO,AO,AO,AO,AO,AO,k5,a8,a6,J,fun e he=>?_⟩;rw[jW j] at he;rcases List.mem_append.1 he with h1|h1
      .exact a0 e h1
      .rw[List.mem_singleton.1 h1];exact hz
    .rw[jK U] at a0
     have ay:ZV p l c=true:=by
      unfold ZV;rw[zJ];intro e he;have:=a0 e he;simpa using this
     refine A7 f5 ?_;exact⟨k4,c,af ay,AO,V.cpy d⟩
 .rintro F H ⟨k1,ho,a2,K⟩
  refine AB ?_;refine⟨k1,?_⟩;rw[ho];exact⟨AO,a2,K⟩
 .rintro F H ⟨k1,b,ho,f3,hc⟩
  refine A7 f3 ?_;refine⟨k1,?_⟩;rw[ho];exact⟨_,AO,hc⟩
end
def na (r:Option (List Int))(v:AV):Prop:=match r with
 | some a=>∃m,m≠.nil/\v=.tup [.sl m 1 (a.map Bins.bu),.n 0]
 | none=>v=.tup [.sl .nil 0 [],.n 11]
theorem KB.ext {h H d:Hp}{B:List Nat}(f:Sm.ext h H)(k:KB B H d)(g:∀b∈B,h.length<=b):Sm.ext h d :=
 Jk (fun i y q=>k.keep i y (DZ f q) (fun j=>by have:=g _ j;have:=AY q;omega)) (Nat.le_trans f.le k.len)
section
variable (G:Nat->AV)
theorem Xc (K:fm G)(p:Pr)(Q:fp p)(S:JY p=0)(lm:SM)(l:List Ex)(L:l.length<=1048576)(T:∀e∈l,wt e<=1048576)(hk:∀e∈l,eh p.vars e=0)(a1:lft p (NW p)<=262144)(h:Hp):
  gi (En G) 100 [.agg (CW p),.sl lm 4 (l.map AQ),.n 262144] h (na (QW p l)):=by
 have P:=PV.of S;have I:=HB P;refine ACalls.pureQ (R:=fun v H=>Sm.ext h H/\na (QW p l) (FK h.length H 3 v)) 3 ?_ (fun v H ⟨a,b⟩=>⟨a,b⟩);refine e7 Tryz.func100 [.tmp 6,.tmp 7] ?_;have J:=A8 h (qH 5 [CW p]);have E:=Sm.ext.r1 h (qH 5 [CW p]);refine A7 @QE ?_
 generalize h++[qH 5 [CW p]]=H0 at J E|-
 have lp:BR jA H0 27 (.ptr h.length 0 0)=some (.agg (CW p)):=by rw[EK eP ZU J (row:=CW p) rfl (by rw[LD];exact jF 5)];rfl
 refine A7 lp ?_;refine(Wy G K p Q S lm l L T hk H0).mono ?_;rintro v V ⟨F,fb,ab,a0,Y,C,rfl,hf,q⟩;have f:=E.trans F;have a2:=E.le;refine A7 (show((0:Int) != 0)=false from rfl) ?_;refine(AT8 G K p Q P lm l L T hk 262144 (NW p) I fb ab C V U U hf q).mono ?_;rintro v j ⟨k,d⟩;have g:Sm.ext h j:=KB.ext f k (fun b q=>by simp at q;omega);have a3:=f.le;unfold QW
 cases O:dN p l (lft p (NW p)) (NW p) with
 | some a =>
   rw[O] at d;obtain⟨u,rfl,Z⟩:=d;refine AB ?_;refine⟨g,?_⟩;rcases Z with⟨rfl,rfl⟩|⟨M,o,ho,rfl,A⟩
   .exact⟨.full,by decide,rfl⟩
   .refine⟨.any,by decide,?_⟩
    show AV.tup [FK h.length j 2 (.own o 0 a.length),FK h.length j 2 (.n 0)]=_;rw[Cov.ew Cov.nj (U:h.length<=o) A];rfl
 | none =>
   rw[O] at d;obtain⟨rfl,a4,B⟩:=d;refine AZ @nR @B.ovd ?_;exact⟨g,rfl⟩
def pf (r:Option (List Int)):AV:=match r with
 | some a=>.tup [.sl .any 1 (a.map Bins.bu),.n 0]
 | none=>.tup [.sl .nil 0 [],.n 11]
theorem na.cv {r:Option (List Int)}(h:na r v):cz v (pf r):=by
 cases r with
 | none=>rw[show v=_ from h];exact cz.refl _
 | some a =>
   obtain⟨m,d,rfl⟩:=h;exact cz.tup (cq.cons (cz.sl (Cv.any d 1 _)) (cq.cons (cz.refl _) cq.nil))
theorem Kq (f:fm G)(p:Pr)(j:fp p)(A:JY p=0)(lm:SM)(l:List Ex)(g:l.length<=1048576)(B:∀e∈l,wt e<=1048576)(hk:∀e∈l,eh p.vars e=0)(d:lft p (NW p)<=262144)(h:Hp):
  a_ (En G) 100 [.agg (CW p),.sl lm 4 (l.map AQ),.n 262144] h (pf (QW p l)) :=
 ACalls.conv (Xc G f p j A lm l g B hk d h) fun _ _ ⟨q,e⟩=>⟨_,⟨rfl,e⟩,q.cv⟩
end
end Bd.Cl
end Go.Proofs.YtiihpnicbekebaaGreatDoor
